/- Dates: what the program's and the document's Parse say. -/
import Derived.Test.YtgelejbmmbgddaaP4b
import Derived.Test.YtgelejbmmbgddaaF3
set_option linter.unusedVariables false
set_option linter.unusedSimpArgs false
set_option linter.unnecessarySimpa false
open Go Go.Ab Go.Proofs Go.Proofs.Ytgelejbmmbgddaa
namespace Go.Ab

theorem cons1 {s : Bs} {n : Nat} (h : s.length = n + 1) : ∃ a t, s = a :: t ∧ t.length = n := by
  cases s with
  | nil => simp at h
  | cons a t => exact ⟨a, t, rfl, by simpa using h⟩
/-- a digit's number -/
def vl (c : UInt8) : Int := ((c - 48).toNat : Int) % 10
def isd (c : UInt8) : Bool := !decide (c < 48) && !decide (57 < c)
theorem vl_b (c : UInt8) : 0 ≤ vl c ∧ vl c < 10 := by unfold vl; omega
theorem dg_toNat {x : Int} (h0 : 0 ≤ x) (h1 : x < 10) : (dg x).toNat = 48 + x.toNat := by
  have := u8_toNat (48 + x)
  unfold dg; omega
theorem dg_vl_i {x : Int} (h0 : 0 ≤ x) (h1 : x < 10) : (((dg x) - 48).toNat : Int) = x := by
  have := dg_toNat h0 h1
  rw [UInt8.toNat_sub]
  have : (48 : UInt8).toNat = 48 := rfl
  omega
theorem vl_dg {x : Int} (h0 : 0 ≤ x) (h1 : x < 10) : vl (dg x) = x := by
  unfold vl
  rw [dg_vl_i h0 h1]; omega
theorem isd_iff (c : UInt8) : isd c = true ↔ 48 ≤ c.toNat ∧ c.toNat ≤ 57 := by
  unfold isd
  simp [UInt8.lt_iff_toNat_lt, UInt8.le_iff_toNat_le]
theorem isd_dg {x : Int} (h0 : 0 ≤ x) (h1 : x < 10) : isd (dg x) = true := by
  rw [isd_iff, dg_toNat h0 h1]; omega
theorem isd_v {c : UInt8} (h : isd c = true) : ((c - 48).toNat : Int) = vl c ∧ dg (vl c) = c := by
  rw [isd_iff] at h
  have e : ((c - 48).toNat : Int) = c.toNat - 48 := by
    rw [UInt8.toNat_sub]
    have : (48 : UInt8).toNat = 48 := rfl
    omega
  have e2 : vl c = c.toNat - 48 := by unfold vl; rw [e]; omega
  refine ⟨by omega, ?_⟩
  apply u8_inj
  have := dg_toNat (x := vl c) (by omega) (by omega)
  omega

/-! ### number -/
theorem m22_s {s : Bs} {n i : Int} (h0 : 0 ≤ i) (h1 : i < s.length) (hl : s.length < 1000) (hn0 : 0 ≤ n) (hn1 : n < 1000000000) :
    l22_8 s n s.length i = l22_8 s (10 * n + vl (s.getD i.toNat 0)) s.length (i + 1) := by
  unfold l22_8
  rw [iter_l]
  unfold s22_8
  have := vl_b (s.getD i.toNat 0)
  have e : (((s.getD i.toNat 0 - 48).toNat : Int)).tmod 10 = vl (s.getD i.toNat 0) := by
    rw [Int.tmod_eq_emod_of_nonneg (by omega)]; rfl
  dsimp only
  rw [if_pos (by simpa using h1), if_pos ⟨h0, h1⟩, e, w64_eq (10 * n) (by omega) (by omega), w64_eq _ (by omega) (by omega), w64_eq _ (by omega) (by omega)]
theorem m22_e {s : Bs} {n : Int} : l22_8 s n s.length s.length = some n := by
  unfold l22_8
  rw [iter_r (r := n)]
  unfold s22_8 j22_21
  rw [if_neg (by simp)]
  rfl
theorem m22_2 (a b : UInt8) : m22 [a, b] = some (10 * vl a + vl b) := by
  have ha := vl_b a; have hb := vl_b b
  unfold m22
  rw [m22_s (s := [a, b]) (by decide) (by simp) (by simp) (by decide) (by decide)]
  rw [m22_s (s := [a, b]) (by decide) (by simp) (by simp) (by simp; omega) (by simp; omega)]
  refine Eq.trans ?_ (m22_e (s := [a, b]))
  congr 1
  simp
theorem m22_4 (a b c d : UInt8) : m22 [a, b, c, d] = some (1000 * vl a + 100 * vl b + 10 * vl c + vl d) := by
  have ha := vl_b a; have hb := vl_b b; have hc := vl_b c; have hd := vl_b d
  unfold m22
  rw [m22_s (s := [a, b, c, d]) (by decide) (by simp) (by simp) (by decide) (by decide)]
  rw [m22_s (s := [a, b, c, d]) (by decide) (by simp) (by simp) (by simp; omega) (by simp; omega)]
  rw [m22_s (s := [a, b, c, d]) (by decide) (by simp) (by simp) (by simp; omega) (by simp; omega)]
  rw [m22_s (s := [a, b, c, d]) (by decide) (by simp) (by simp) (by simp; omega) (by simp; omega)]
  refine Eq.trans ?_ (m22_e (s := [a, b, c, d]))
  congr 1
  simp
  omega
theorem m23_s {s : Bs} {a k n i : Int} (h0 : 0 ≤ i) (h1 : i < a + k) (h2 : i < s.length) (ha : 0 ≤ a) (hk : 0 ≤ k) (hak : a + k < 1000) (hn0 : 0 ≤ n) (hn1 : n < 1000000000) :
    l23_8 s a k n i = if isd (s.getD i.toNat 0) = true then l23_8 s a k (10 * n + vl (s.getD i.toNat 0)) (i + 1) else some (-1) := by
  unfold l23_8
  rw [iter_eq]
  unfold s23_8 j23_20
  dsimp only
  rw [w64_eq (a + k) (by omega) (by omega), if_pos (by simpa using h1), if_pos ⟨h0, h2⟩]
  generalize s.getD i.toNat 0 = c
  have hv := vl_b c
  by_cases e1 : c < 48
  · have : isd c = false := by simp [isd, e1]
    simp [e1, this]
  · by_cases e2 : (57 : UInt8) < c
    · have : isd c = false := by simp [isd, e2]
      simp [e1, e2, this]
    · have : isd c = true := by simp only [isd, e1, e2, decide_false, Bool.not_false, Bool.and_self]
      rw [if_neg (by simpa using e1), if_neg (by simpa using e2), if_pos ⟨h0, h2⟩, if_pos this, (isd_v this).1, w64_eq (10 * n) (by omega) (by omega), w64_eq _ (by omega) (by omega), w64_eq _ (by omega) (by omega)]
theorem m23_e {s : Bs} {a k n : Int} (ha : 0 ≤ a) (hk : 0 ≤ k) (hak : a + k < 1000) : l23_8 s a k n (a + k) = some n := by
  unfold l23_8
  rw [iter_r (r := n)]
  unfold s23_8 j23_27
  dsimp only
  rw [w64_eq (a + k) (by omega) (by omega), if_neg (by simp)]
  rfl
theorem m23_2 {s : Bs} (a : Nat) (h : a + 2 ≤ s.length) (hl : a < 100) : m23 s a 2 = some (if isd (s.getD a 0) = true ∧ isd (s.getD (a + 1) 0) = true then 10 * vl (s.getD a 0) + vl (s.getD (a + 1) 0) else -1) := by
  have ha := vl_b (s.getD a 0)
  unfold m23
  rw [m23_s (by omega) (by omega) (by omega) (by omega) (by omega) (by omega) (by omega) (by omega)]
  simp only [Int.toNat_natCast]
  by_cases e : isd (s.getD a 0) = true
  · rw [if_pos e, m23_s (by omega) (by omega) (by omega) (by omega) (by omega) (by omega) (by omega) (by omega)]
    have e3 : ((a : Int) + 1).toNat = a + 1 := by omega
    rw [e3]
    by_cases e2 : isd (s.getD (a + 1) 0) = true
    · rw [if_pos e2, if_pos ⟨e, e2⟩]
      have := m23_e (s := s) (a := a) (k := 2) (n := 10 * vl (s.getD a 0) + vl (s.getD (a + 1) 0)) (by omega) (by omega) (by omega)
      rw [← this]; congr 1
      · omega
    · rw [if_neg e2, if_neg (fun h => e2 h.2)]
  · rw [if_neg e, if_neg (fun h => e h.1)]
theorem m23_4 {s : Bs} (a : Nat) (h : a + 4 ≤ s.length) (hl : a < 100) : m23 s a 4 = some (if isd (s.getD a 0) = true ∧ isd (s.getD (a + 1) 0) = true ∧ isd (s.getD (a + 2) 0) = true ∧ isd (s.getD (a + 3) 0) = true then 1000 * vl (s.getD a 0) + 100 * vl (s.getD (a + 1) 0) + 10 * vl (s.getD (a + 2) 0) + vl (s.getD (a + 3) 0) else -1) := by
  have ha := vl_b (s.getD a 0)
  have hb := vl_b (s.getD (a + 1) 0)
  have hc := vl_b (s.getD (a + 2) 0)
  have e1 : ((a : Int) + 1).toNat = a + 1 := by omega
  have e2 : ((a : Int) + 1 + 1).toNat = a + 2 := by omega
  have e3 : ((a : Int) + 1 + 1 + 1).toNat = a + 3 := by omega
  unfold m23
  rw [m23_s (by omega) (by omega) (by omega) (by omega) (by omega) (by omega) (by omega) (by omega)]
  simp only [Int.toNat_natCast]
  by_cases e : isd (s.getD a 0) = true
  · rw [if_pos e, m23_s (by omega) (by omega) (by omega) (by omega) (by omega) (by omega) (by omega) (by omega), e1]
    by_cases f : isd (s.getD (a + 1) 0) = true
    · rw [if_pos f, m23_s (by omega) (by omega) (by omega) (by omega) (by omega) (by omega) (by omega) (by omega), e2]
      by_cases g : isd (s.getD (a + 2) 0) = true
      · rw [if_pos g, m23_s (by omega) (by omega) (by omega) (by omega) (by omega) (by omega) (by omega) (by omega), e3]
        by_cases i : isd (s.getD (a + 3) 0) = true
        · rw [if_pos i, if_pos ⟨e, f, g, i⟩]
          have := m23_e (s := s) (a := a) (k := 4) (n := 1000 * vl (s.getD a 0) + 100 * vl (s.getD (a + 1) 0) + 10 * vl (s.getD (a + 2) 0) + vl (s.getD (a + 3) 0)) (by omega) (by omega) (by omega)
          rw [← this]; congr 1 <;> omega
        · rw [if_neg i, if_neg (fun h => i h.2.2.2)]
      · rw [if_neg g, if_neg (fun h => g h.2.2.1)]
    · rw [if_neg f, if_neg (fun h => f h.2.1)]
  · rw [if_neg e, if_neg (fun h => e h.1)]

/-! ### the months' and the years' days, added up -/
/-- any moment of the program's: none beyond -/
theorem m8_any {n : Int} (h0 : 0 ≤ n) : m8 n = some ([], 3) ∧ 253402300799 < n ∨ ∃ y m k, Dt (n / 86400) y m k ∧ m8 n = some (txt (n / 86400) (n % 86400) y m k, 0) := by
  by_cases c : 253402300799 < n
  · left; refine ⟨?_, c⟩; unfold m8; rw [if_pos (by simpa using c)]
  · right
    obtain ⟨y, m, k, h⟩ := Dt.ex (d := n / 86400) (by omega) (by omega)
    exact ⟨y, m, k, h, m8_eq h⟩
theorem index_le : ∀ (s t : Bs), Lib.index s t ≤ s.length - t.length ∨ Lib.index s t = -1 := by
  intro s
  induction s with
  | nil => intro t; unfold Lib.index; cases t <;> simp
  | cons b l ih =>
    intro t
    unfold Lib.index
    split
    · rename_i h
      have := (List.isPrefixOf_iff_prefix.1 h).length_le
      left; simp at this ⊢; omega
    · split
      · right; rfl
      · rename_i h
        rcases ih t with g | g
        · left; simp; omega
        · rw [g] at h; exact absurd rfl h
end Go.Ab
