/- Dates: what the document's Parse says. -/
import Derived.Test.YtgelejbmmbgddaaP4d
set_option linter.unusedVariables false
set_option linter.unusedSimpArgs false
set_option linter.unnecessarySimpa false
open Go Go.Ab Go.Proofs Go.Proofs.Ytgelejbmmbgddaa
namespace Go.Ab

def secs (h mi se : Int) : Int := 3600 * h + 60 * mi + se
theorem j12_81_eq {s : Bs} {h mi se d : Int} (hl : s.length = 29) (h0 : 0 ≤ d) (h1 : d < 100000000) (a0 : 0 ≤ h) (a1 : h ≤ 23) (b0 : 0 ≤ mi) (b1 : mi ≤ 59) (c0 : 0 ≤ se) (c1 : se ≤ 59) :
    j12_81 s h mi se d = if wk (d % 7) = s.take 3 then some (86400 * d + secs h mi se, 0) else some (0, 5) := by
  unfold j12_81 secs
  rw [m18_eq h0, hl, Option.bind_some, show bnd 3 29 = some 3 from rfl, Option.bind_some]
  by_cases c : wk (d % 7) = s.take 3
  · rw [if_pos (by simpa using c), if_pos c, w64_eq (3600 * h) (by omega) (by omega), w64_eq (60 * mi) (by omega) (by omega), w64_eq (3600 * h + 60 * mi) (by omega) (by omega), w64_eq _ (by omega) (by omega), wu64_eq (86400 * d) (by omega) (by omega), wu64_eq (3600 * h + 60 * mi + se) (by omega) (by omega), wu64_eq _ (by omega) (by omega)]
  · rw [if_neg (by simpa using c), if_neg c]
theorem l12_70_eq {s : Bs} {m y h mi se D : Int} (hy : 0 ≤ y) (hm0 : 0 ≤ m) (hm : m ≤ 12) (hD0 : 0 ≤ D) (hD1 : D ≤ 100000000) : l12_70 s m y h mi se D 0 = j12_81 s h mi se (D + cum (lng y) m) := by
  unfold l12_70
  refine iter_to (fun x => x.1 = s ∧ x.2.1 = m ∧ x.2.2.1 = y ∧ x.2.2.2.1 = h ∧ x.2.2.2.2.1 = mi ∧ x.2.2.2.2.2.1 = se ∧ 0 ≤ x.2.2.2.2.2.2.2 ∧ x.2.2.2.2.2.2.2 ≤ m ∧ x.2.2.2.2.2.2.1 = D + cum (lng y) x.2.2.2.2.2.2.2) (fun x => (m - x.2.2.2.2.2.2.2).toNat) _ ?_ _ ⟨rfl, rfl, rfl, rfl, rfl, rfl, by dsimp only; omega, by dsimp only; omega, by dsimp only; rw [cum_0]; omega⟩
  rintro ⟨s', m', y', h', mi', se', d, q⟩ hI
  dsimp only at hI ⊢
  obtain ⟨rfl, rfl, rfl, rfl, rfl, rfl, h0, h1, rfl⟩ := hI
  unfold s12_70
  by_cases c : q < m'
  · left
    have := cum_s (lng y') h0 (show q < 12 by omega)
    have := cum_mono (lng y') 0 q (by omega) h0 (by omega)
    have := cum_mono (lng y') q 12 h0 (by omega) (by omega)
    have h12 := cum_12 (lng y')
    have : cum (lng y') 12 ≤ 366 := by rw [h12]; cases lng y' <;> simp
    have := md_pos (lng y') h0 (show q < 12 by omega)
    rw [cum_0] at *
    exact ⟨(s', m', y', h', mi', se', D + cum (lng y') (q + 1), q + 1), by rw [if_pos (by simpa using c), m17_eq hy h0 (by omega), Option.bind_some, wu64_eq (md (lng y') q) (by omega) (by omega), wu64_eq _ (by omega) (by omega), w64_eq _ (by omega) (by omega), show D + cum (lng y') q + md (lng y') q = D + cum (lng y') (q + 1) by omega], ⟨rfl, rfl, rfl, rfl, rfl, rfl, by dsimp only; omega, by dsimp only; omega, rfl⟩, by dsimp only; omega⟩
  · right
    have : q = m' := by omega
    subst this
    rw [if_neg (by simpa using c)]
theorem l12_49_eq {s : Bs} {m y h mi se D : Int} (hy : 1970 ≤ y) (hy2 : y ≤ 9999) (hD0 : 0 ≤ D) (hD1 : D ≤ 1000) : l12_49 s m y h mi se D 1970 = j12_66 s m y h mi se (D + ah y) := by
  have e19 : ah 1970 = 0 := by decide
  have e20 : ah 9999 = 2932532 := by decide
  unfold l12_49
  refine iter_to (fun x => x.1 = s ∧ x.2.1 = m ∧ x.2.2.1 = y ∧ x.2.2.2.1 = h ∧ x.2.2.2.2.1 = mi ∧ x.2.2.2.2.2.1 = se ∧ 1970 ≤ x.2.2.2.2.2.2.2 ∧ x.2.2.2.2.2.2.2 ≤ y ∧ x.2.2.2.2.2.2.1 = D + ah x.2.2.2.2.2.2.2) (fun x => (y - x.2.2.2.2.2.2.2).toNat) _ ?_ _ ⟨rfl, rfl, rfl, rfl, rfl, rfl, by dsimp only; omega, by dsimp only; omega, by dsimp only; omega⟩
  rintro ⟨s', m', y', h', mi', se', d, q⟩ hI
  dsimp only at hI ⊢
  obtain ⟨rfl, rfl, rfl, rfl, rfl, rfl, h0, h1, rfl⟩ := hI
  unfold s12_49 j12_65
  by_cases c : q < y'
  · left
    have hs := ah_s q
    have := ah_mono (a := 1970) (b := q) h0
    have := ah_mono (a := q) (b := 9999) (by omega)
    refine ⟨(s', m', y', h', mi', se', D + ah (q + 1), q + 1), ?_, ⟨rfl, rfl, rfl, rfl, rfl, rfl, by dsimp only; omega, by dsimp only; omega, rfl⟩, by dsimp only; omega⟩
    rw [if_pos (by simpa using c), m16_eq (by omega), Option.bind_some, wu64_eq (D + ah q + 365) (by omega) (by omega), w64_eq (q + 1) (by omega) (by omega), wu64_eq (D + ah q + 365 + 1) (by omega) (by omega)]
    cases hq : lng q <;> rw [hq] at hs <;> simp at hs ⊢ <;> omega
  · right
    have : q = y' := by omega
    subst this
    rw [if_neg (by simpa using c)]

/-- the month that is named so, as the document finds it -/
theorem mo_inj {a b : Int} (h0 : 0 ≤ a) (h1 : a < 12) (g0 : 0 ≤ b) (g1 : b < 12) (h : mo a = mo b) : a = b := by
  obtain ⟨a0, a1, a2, e, f⟩ := mo_ix h0 h1
  obtain ⟨b0, b1, b2, e', f'⟩ := mo_ix g0 g1
  have hh := h
  rw [e, e'] at hh
  rw [hh] at f
  omega
/-- the months' loop, when the name is a month's -/
theorem l12_16_yes {s : Bs} {m m0 : Int} (hl : s.length = 29) (h0 : 0 ≤ m) (h1 : m < 12) (h : mo m = (s.take 11).drop 8) : l12_16 s (-1) 0 = j12_31 s m := by
  unfold l12_16
  refine iter_to (fun x => x.1 = s ∧ 0 ≤ x.2.2 ∧ x.2.2 ≤ 12 ∧ (m < x.2.2 → x.2.1 = m)) (fun x => (12 - x.2.2).toNat) _ ?_ _ ⟨rfl, by dsimp only; omega, by dsimp only; omega, by dsimp only; omega⟩
  rintro ⟨s', m', q⟩ hI
  dsimp only at hI ⊢
  obtain ⟨rfl, a0, a1, a2⟩ := hI
  unfold s12_16 j12_30
  by_cases c : q < 12
  · left
    rw [if_pos (by simpa using c), m20_eq a0 c, hl]
    simp only [Option.bind_some, show bnd 11 29 = some 11 from rfl, show bnd 8 11 = some 8 from rfl, ← h]
    rw [w64_eq _ (by omega) (by omega)]
    by_cases e : mo q = mo m
    · have := mo_inj a0 c h0 h1 e
      exact ⟨(s', q, q + 1), by rw [if_pos (by simpa using e)], ⟨rfl, by dsimp only; omega, by dsimp only; omega, fun _ => this⟩, by dsimp only; omega⟩
    · have : q ≠ m := fun h => e (by rw [h])
      exact ⟨(s', m', q + 1), by rw [if_neg (by simpa using e)], ⟨rfl, by dsimp only; omega, by dsimp only; omega, fun g => a2 (by dsimp only at g; omega)⟩, by dsimp only; omega⟩
  · right
    rw [if_neg (by simpa using c), a2 (by omega)]
theorem l12_16_any {s : Bs} (hl : s.length = 29) : l12_16 s (-1) 0 = j12_31 s (-1) ∨ ∃ m, 0 ≤ m ∧ m < 12 ∧ mo m = (s.take 11).drop 8 ∧ l12_16 s (-1) 0 = j12_31 s m := by
  by_cases c : ∃ m, 0 ≤ m ∧ m < 12 ∧ mo m = (s.take 11).drop 8
  · obtain ⟨m, h0, h1, h2⟩ := c
    exact .inr ⟨m, h0, h1, h2, l12_16_yes (m0 := 0) hl h0 h1 h2⟩
  · left
    unfold l12_16
    refine iter_to (fun x => x.1 = s ∧ x.2.1 = -1 ∧ 0 ≤ x.2.2) (fun x => (12 - x.2.2).toNat) _ ?_ _ ⟨rfl, rfl, by dsimp only; omega⟩
    rintro ⟨s', m', q⟩ hI
    dsimp only at hI ⊢
    obtain ⟨rfl, rfl, a0⟩ := hI
    unfold s12_16 j12_30
    by_cases d : q < 12
    · left
      rw [if_pos (by simpa using d), m20_eq a0 d, hl]
      simp only [Option.bind_some, show bnd 11 29 = some 11 from rfl, show bnd 8 11 = some 8 from rfl]
      rw [w64_eq _ (by omega) (by omega)]
      exact ⟨(s', -1, q + 1), by rw [if_neg (by simpa using fun e => c ⟨q, a0, d, e⟩)], ⟨rfl, rfl, by dsimp only; omega⟩, by dsimp only; omega⟩
    · right
      rw [if_neg (by simpa using d)]
section
variable {c0 c1 c2 c3 c4 c5 c6 c7 c8 c9 c10 c11 c12 c13 c14 c15 c16 c17 c18 c19 c20 c21 c22 c23 c24 c25 c26 c27 c28 : UInt8}
    {s : Bs} (hs : s = [c0, c1, c2, c3, c4, c5, c6, c7, c8, c9, c10, c11, c12, c13, c14, c15, c16, c17, c18, c19, c20, c21, c22, c23, c24, c25, c26, c27, c28])
def nu2 (a b : UInt8) : Int := if isd a = true ∧ isd b = true then 10 * vl a + vl b else -1
def nu4 (a b c d : UInt8) : Int := if isd a = true ∧ isd b = true ∧ isd c = true ∧ isd d = true then 1000 * vl a + 100 * vl b + 10 * vl c + vl d else -1
theorem nu2_b (a b : UInt8) : nu2 a b ≤ 99 ∧ -1 ≤ nu2 a b := by
  have := vl_b a; have := vl_b b
  unfold nu2; split <;> omega
theorem nu4_b (a b c d : UInt8) : nu4 a b c d ≤ 9999 := by
  have := vl_b a; have := vl_b b; have := vl_b c; have := vl_b d
  unfold nu4; split <;> omega
theorem nu2_tw {a b : UInt8} (h : 0 ≤ nu2 a b) : tw (nu2 a b) = [a, b] := by
  have ha := vl_b a; have hb := vl_b b
  unfold nu2 at *
  split at h
  · rename_i g
    rw [if_pos g]
    unfold tw
    rw [show (10 * vl a + vl b) / 10 % 10 = vl a by omega, show (10 * vl a + vl b) % 10 = vl b by omega, (isd_v g.1).2, (isd_v g.2).2]
  · omega
theorem nu4_y4 {a b c d : UInt8} (h : 0 ≤ nu4 a b c d) : y4 (nu4 a b c d) = [a, b, c, d] := by
  have ha := vl_b a; have hb := vl_b b; have hc := vl_b c; have hd := vl_b d
  unfold nu4 at *
  split at h
  · rename_i g
    rw [if_pos g]
    unfold y4
    rw [show (1000 * vl a + 100 * vl b + 10 * vl c + vl d) / 1000 % 10 = vl a by omega, show (1000 * vl a + 100 * vl b + 10 * vl c + vl d) / 100 % 10 = vl b by omega, show (1000 * vl a + 100 * vl b + 10 * vl c + vl d) / 10 % 10 = vl c by omega, show (1000 * vl a + 100 * vl b + 10 * vl c + vl d) % 10 = vl d by omega, (isd_v g.1).2, (isd_v g.2.1).2, (isd_v g.2.2.1).2, (isd_v g.2.2.2).2]
  · omega
theorem nu2_dg {x : Int} (h0 : 0 ≤ x) (h1 : x < 100) : nu2 (dg (x / 10 % 10)) (dg (x % 10)) = x := by
  unfold nu2
  rw [if_pos ⟨isd_dg (by omega) (by omega), isd_dg (by omega) (by omega)⟩, vl_dg (by omega) (by omega), vl_dg (by omega) (by omega)]
  omega
theorem nu4_dg {x : Int} (h0 : 0 ≤ x) (h1 : x < 10000) : nu4 (dg (x / 1000 % 10)) (dg (x / 100 % 10)) (dg (x / 10 % 10)) (dg (x % 10)) = x := by
  unfold nu4
  rw [if_pos ⟨isd_dg (by omega) (by omega), isd_dg (by omega) (by omega), isd_dg (by omega) (by omega), isd_dg (by omega) (by omega)⟩, vl_dg (by omega) (by omega), vl_dg (by omega) (by omega), vl_dg (by omega) (by omega), vl_dg (by omega) (by omega)]
  omega
include hs in
theorem j12_31_eq (m : Int) (hm : m < 12) : j12_31 s m =
    if 0 ≤ m ∧ 1970 ≤ nu4 c12 c13 c14 c15 ∧ 1 ≤ nu2 c5 c6 ∧ nu2 c5 c6 ≤ md (lng (nu4 c12 c13 c14 c15)) m ∧ 0 ≤ nu2 c17 c18 ∧ nu2 c17 c18 ≤ 23 ∧ 0 ≤ nu2 c20 c21 ∧ nu2 c20 c21 ≤ 59 ∧ 0 ≤ nu2 c23 c24 ∧ nu2 c23 c24 ≤ 59 ∧
        wk ((ah (nu4 c12 c13 c14 c15) + cum (lng (nu4 c12 c13 c14 c15)) m + (nu2 c5 c6 - 1)) % 7) = [c0, c1, c2] then
      some (86400 * (ah (nu4 c12 c13 c14 c15) + cum (lng (nu4 c12 c13 c14 c15)) m + (nu2 c5 c6 - 1)) + secs (nu2 c17 c18) (nu2 c20 c21) (nu2 c23 c24), 0)
    else some (0, 5) := by
  have hl : s.length = 29 := by rw [hs]; rfl
  have x1 := m23_2 (s := s) 5 (by omega) (by omega)
  have x2 := m23_4 (s := s) 12 (by omega) (by omega)
  have x3 := m23_2 (s := s) 17 (by omega) (by omega)
  have x4 := m23_2 (s := s) 20 (by omega) (by omega)
  have x5 := m23_2 (s := s) 23 (by omega) (by omega)
  have y1 : m23 s 5 2 = some (nu2 c5 c6) := by rw [show ((5 : Nat) : Int) = 5 from rfl] at x1; rw [x1, hs]; rfl
  have y2 : m23 s 12 4 = some (nu4 c12 c13 c14 c15) := by rw [show ((12 : Nat) : Int) = 12 from rfl] at x2; rw [x2, hs]; rfl
  have y3 : m23 s 17 2 = some (nu2 c17 c18) := by rw [show ((17 : Nat) : Int) = 17 from rfl] at x3; rw [x3, hs]; rfl
  have y4 : m23 s 20 2 = some (nu2 c20 c21) := by rw [show ((20 : Nat) : Int) = 20 from rfl] at x4; rw [x4, hs]; rfl
  have y5 : m23 s 23 2 = some (nu2 c23 c24) := by rw [show ((23 : Nat) : Int) = 23 from rfl] at x5; rw [x5, hs]; rfl
  have b1 := nu2_b c5 c6; have b2 := nu2_b c17 c18; have b3 := nu2_b c20 c21; have b4 := nu2_b c23 c24; have b5 := nu4_b c12 c13 c14 c15
  have et : s.take 3 = [c0, c1, c2] := by rw [hs]; rfl
  unfold j12_31
  rw [y1, y2, y3, y4, y5]
  simp only [Option.bind_some]
  generalize nu4 c12 c13 c14 c15 = Y at *
  generalize nu2 c5 c6 = D at *
  generalize nu2 c17 c18 = H at *
  generalize nu2 c20 c21 = M at *
  generalize nu2 c23 c24 = S at *
  have hf : j12_38 s m D Y H M S true = some (0, 5) := rfl
  rw [hf]
  by_cases f1 : m < 0
  · rw [if_pos (by simpa using f1), if_neg (fun h => by omega)]
  rw [if_neg (by simpa using f1)]
  by_cases f2 : Y < 1970
  · rw [if_pos (by simpa using f2), if_neg (fun h => by omega)]
  rw [if_neg (by simpa using f2)]
  by_cases f3 : D < 1
  · rw [if_pos (by simpa using f3), if_neg (fun h => by omega)]
  rw [if_neg (by simpa using f3), m17_eq (by omega) (by omega) hm, Option.bind_some]
  by_cases f4 : md (lng Y) m < D
  · rw [if_pos (by simpa using f4), if_neg (fun h => by omega)]
  rw [if_neg (by simpa using f4)]
  by_cases f5 : H < 0
  · rw [if_pos (by simpa using f5), if_neg (fun h => by omega)]
  rw [if_neg (by simpa using f5)]
  by_cases f6 : 23 < H
  · rw [if_pos (by simpa using f6), if_neg (fun h => by omega)]
  rw [if_neg (by simpa using f6)]
  by_cases f7 : M < 0
  · rw [if_pos (by simpa using f7), if_neg (fun h => by omega)]
  rw [if_neg (by simpa using f7)]
  by_cases f8 : 59 < M
  · rw [if_pos (by simpa using f8), if_neg (fun h => by omega)]
  rw [if_neg (by simpa using f8)]
  by_cases f9 : S < 0
  · rw [if_pos (by simpa using f9), if_neg (fun h => by omega)]
  rw [if_neg (by simpa using f9)]
  unfold j12_38
  by_cases f10 : 59 < S
  · rw [if_pos (by simpa using f10), if_neg (fun h => by omega)]
  rw [if_neg (by simpa using f10)]
  have hb1 := ah_mono (a := 1970) (b := Y) (by omega)
  have hb2 := ah_mono (a := Y) (b := 10000) (by omega)
  have eb1 : ah 1970 = 0 := by decide
  have eb2 : ah 10000 = 2932897 := by decide
  have hc := cum_mono (lng Y) 0 m (by omega) (by omega) (by omega)
  have hc2 := cum_mono (lng Y) m 12 (by omega) (by omega) (by omega)
  have h12 := cum_12 (lng Y)
  have : cum (lng Y) 12 ≤ 366 := by rw [h12]; cases lng Y <;> simp
  rw [cum_0] at hc
  have hmd := md_pos (lng Y) (m := m) (by omega) hm
  rw [w64_eq _ (by omega) (by omega), wu64_eq _ (by omega) (by omega), l12_49_eq (by omega) (by omega) (by omega) (by omega)]
  unfold j12_66
  rw [l12_70_eq (by omega) (by omega) (by omega) (by omega) (by omega), j12_81_eq hl (by omega) (by omega) (by omega) (by omega) (by omega) (by omega) (by omega) (by omega), et, show D - 1 + ah Y + cum (lng Y) m = ah Y + cum (lng Y) m + (D - 1) by omega]
  by_cases g : wk ((ah Y + cum (lng Y) m + (D - 1)) % 7) = [c0, c1, c2]
  · rw [if_pos g, if_pos ⟨by omega, by omega, by omega, by omega, by omega, by omega, by omega, by omega, by omega, by omega, g⟩]
  · rw [if_neg g, if_neg (fun h => g h.2.2.2.2.2.2.2.2.2.2)]
include hs in
theorem m12_29 : m12 s = if c3 = 44 ∧ c4 = 32 ∧ c7 = 32 ∧ c11 = 32 ∧ c16 = 32 ∧ c19 = 58 ∧ c22 = 58 ∧ c25 = 32 ∧ c26 = 71 ∧ c27 = 77 ∧ c28 = 84 then l12_16 s (-1) 0 else some (0, 5) := by
  have hl : s.length = 29 := by rw [hs]; rfl
  have e1 : (s.take 5).drop 3 = [c3, c4] := by rw [hs]; rfl
  have e2 : s.drop 25 = [c25, c26, c27, c28] := by rw [hs]; rfl
  have e3 : s.getD 7 0 = c7 := by rw [hs]; rfl
  have e4 : s.getD 11 0 = c11 := by rw [hs]; rfl
  have e5 : s.getD 16 0 = c16 := by rw [hs]; rfl
  have e6 : s.getD 19 0 = c19 := by rw [hs]; rfl
  have e7 : s.getD 22 0 = c22 := by rw [hs]; rfl
  unfold m12
  have hf : j12_5 s true = some (0, 5) := rfl
  rw [if_pos (by simp [hl]), hl, e3, e4, e5, e6, e7, hf]
  simp only [show bnd 5 29 = some 5 from rfl, show bnd 3 5 = some 3 from rfl, show bnd 25 29 = some 25 from rfl, Option.bind_some, e1, e2]
  by_cases f1 : c3 = 44
  case neg => rw [if_neg (by simp [f1]), if_neg (fun h => f1 h.1)]
  by_cases f2 : c4 = 32
  case neg => rw [if_neg (by simp [f2]), if_neg (fun h => f2 h.2.1)]
  rw [if_pos (by simp [f1, f2]), if_pos (by decide)]
  by_cases f3 : c7 = 32
  case neg => rw [if_neg (by simp [f3]), if_neg (fun h => f3 h.2.2.1)]
  rw [if_pos (by simp [f3]), if_pos (by decide)]
  by_cases f4 : c11 = 32
  case neg => rw [if_neg (by simp [f4]), if_neg (fun h => f4 h.2.2.2.1)]
  rw [if_pos (by simp [f4]), if_pos (by decide)]
  by_cases f5 : c16 = 32
  case neg => rw [if_neg (by simp [f5]), if_neg (fun h => f5 h.2.2.2.2.1)]
  rw [if_pos (by simp [f5]), if_pos (by decide)]
  by_cases f6 : c19 = 58
  case neg => rw [if_neg (by simp [f6]), if_neg (fun h => f6 h.2.2.2.2.2.1)]
  rw [if_pos (by simp [f6]), if_pos (by decide)]
  by_cases f7 : c22 = 58
  case neg => rw [if_neg (by simp [f7]), if_neg (fun h => f7 h.2.2.2.2.2.2.1)]
  rw [if_pos (by simp [f7])]
  unfold j12_5
  by_cases f8 : c25 = 32 ∧ c26 = 71 ∧ c27 = 77 ∧ c28 = 84
  · rw [if_neg (by simp [f8.1, f8.2.1, f8.2.2.1, f8.2.2.2]), if_pos ⟨f1, f2, f3, f4, f5, f6, f7, f8⟩]
  · rw [if_pos (by simp only [Bool.not_eq_true', beq_eq_false_iff_ne, ne_eq, List.cons.injEq, and_true]; exact f8), if_neg (fun h => f8 h.2.2.2.2.2.2.2)]
end
/-- the document's Parse: none, or the moment whose text it is -/
theorem m12_ok (s : Bs) : m12 s = some (0, 5) ∨ ∃ n y m k, m12 s = some (n, 0) ∧ Dt (n / 86400) y m k ∧ s = txt (n / 86400) (n % 86400) y m k := by
  by_cases hl : s.length = 29
  case neg =>
    left
    unfold m12
    rw [if_neg (by simp; omega)]
    rfl
  obtain ⟨c0, c1, c2, c3, c4, c5, c6, c7, c8, c9, c10, c11, c12, c13, c14, c15, c16, c17, c18, c19, c20, c21, c22, c23, c24, c25, c26, c27, c28, hs⟩ := L29 hl
  rw [m12_29 hs]
  split
  case isFalse => exact .inl rfl
  rename_i hf
  have em : (s.take 11).drop 8 = [c8, c9, c10] := by rw [hs]; rfl
  rcases l12_16_any hl with e | ⟨m, h0, h1, h2, e⟩
  · rw [e, j12_31_eq hs _ (by decide), if_neg (fun h => by omega)]
    exact .inl rfl
  · rw [e, j12_31_eq hs _ h1]
    split
    case isFalse => exact .inl rfl
    rename_i g
    right
    obtain ⟨g0, g1, g2, g3, g4, g5, g6, g7, g8, g9, g10⟩ := g
    have z1 := nu2_tw (show 0 ≤ nu2 c5 c6 by omega)
    have z2 := nu4_y4 (show 0 ≤ nu4 c12 c13 c14 c15 by omega)
    have z3 := nu2_tw g4
    have z4 := nu2_tw g6
    have z5 := nu2_tw g8
    have b5 := nu4_b c12 c13 c14 c15
    generalize nu4 c12 c13 c14 c15 = Y at *
    generalize nu2 c5 c6 = D at *
    generalize nu2 c17 c18 = H at *
    generalize nu2 c20 c21 = M at *
    generalize nu2 c23 c24 = S at *
    have hd : Dt (ah Y + cum (lng Y) m + (D - 1)) Y m (D - 1) := ⟨g1, b5, h0, h1, by omega, by omega, rfl⟩
    generalize hX : ah Y + cum (lng Y) m + (D - 1) = d at *
    have q1 : (86400 * d + secs H M S) / 86400 = d := by unfold secs; omega
    have q2 : (86400 * d + secs H M S) % 86400 = secs H M S := by unfold secs; omega
    refine ⟨_, Y, m, D - 1, rfl, by rw [q1]; exact hd, ?_⟩
    rw [q1, q2]
    unfold txt
    rw [g10, h2, em, z2, show D - 1 + 1 = D by omega, z1, show secs H M S / 3600 = H by unfold secs; omega, show secs H M S / 60 % 60 = M by unfold secs; omega, show secs H M S % 60 = S by unfold secs; omega, z3, z4, z5, hs]
    obtain ⟨rfl, rfl, rfl, rfl, rfl, rfl, rfl, rfl, rfl, rfl, rfl⟩ := hf
    rfl
theorem m12_txt {n y m k : Int} (h : Dt (n / 86400) y m k) : m12 (txt (n / 86400) (n % 86400) y m k) = some (n, 0) := by
  have hr := h.range
  have hs0 : 0 ≤ n % 86400 := by omega
  have hs1 : n % 86400 < 86400 := by omega
  generalize hd : n / 86400 = d at *
  generalize hsd : n % 86400 = s at *
  obtain ⟨h1, h2, h3, h4, h5, h6, h7⟩ := h
  have hm := md_pos (lng y) h3 h4
  obtain ⟨w0, w1, w2, hw⟩ := wk_ex (q := d % 7) (by omega) (by omega)
  obtain ⟨m0, m1, m2, hm0, hix⟩ := mo_ix h3 h4
  have hz : txt d s y m k = [w0, w1, w2, 44, 32, dg ((k + 1) / 10 % 10), dg ((k + 1) % 10), 32, m0, m1, m2, 32, dg (y / 1000 % 10), dg (y / 100 % 10), dg (y / 10 % 10), dg (y % 10), 32, dg (s / 3600 / 10 % 10), dg (s / 3600 % 10), 58, dg (s / 60 % 60 / 10 % 10), dg (s / 60 % 60 % 10), 58, dg (s % 60 / 10 % 10), dg (s % 60 % 10), 32, 71, 77, 84] := by
    simp only [txt, hw, hm0, tw, y4, List.cons_append, List.nil_append]
  have hl : (txt d s y m k).length = 29 := by rw [hz]; rfl
  rw [m12_29 hz, if_pos ⟨rfl, rfl, rfl, rfl, rfl, rfl, rfl, rfl, rfl, rfl, rfl⟩, l12_16_yes (m0 := 0) hl h3 h4 (by rw [hz, hm0]; rfl), j12_31_eq hz _ h4]
  rw [nu4_dg (by omega) (by omega), nu2_dg (x := k + 1) (by omega) (by omega), nu2_dg (x := s / 3600) (by omega) (by omega), nu2_dg (x := s / 60 % 60) (by omega) (by omega), nu2_dg (x := s % 60) (by omega) (by omega)]
  have e : ah y + cum (lng y) m + (k + 1 - 1) = d := by omega
  rw [e, if_pos ⟨by omega, by omega, by omega, by omega, by omega, by omega, by omega, by omega, by omega, by omega, hw⟩]
  unfold secs
  rw [show 86400 * d + (3600 * (s / 3600) + 60 * (s / 60 % 60) + s % 60) = n by omega]
end Go.Ab
