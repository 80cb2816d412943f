/- Dates: Parse there and back. -/
import Derived.Test.YtgelejbmmbgddaaP4c
set_option linter.unusedVariables false
set_option linter.unusedSimpArgs false
set_option linter.unnecessarySimpa false
open Go Go.Ab Go.Proofs Go.Proofs.Ytgelejbmmbgddaa
namespace Go.Ab

theorem L29 {s : Bs} (h : s.length = 29) : ∃ c0 c1 c2 c3 c4 c5 c6 c7 c8 c9 c10 c11 c12 c13 c14 c15 c16 c17 c18 c19 c20 c21 c22 c23 c24 c25 c26 c27 c28 : UInt8, s = [c0, c1, c2, c3, c4, c5, c6, c7, c8, c9, c10, c11, c12, c13, c14, c15, c16, c17, c18, c19, c20, c21, c22, c23, c24, c25, c26, c27, c28] := by
  obtain ⟨c0, s0, e0, h0⟩ := cons1 h
  obtain ⟨c1, s1, e1, h1⟩ := cons1 h0
  obtain ⟨c2, s2, e2, h2⟩ := cons1 h1
  obtain ⟨c3, s3, e3, h3⟩ := cons1 h2
  obtain ⟨c4, s4, e4, h4⟩ := cons1 h3
  obtain ⟨c5, s5, e5, h5⟩ := cons1 h4
  obtain ⟨c6, s6, e6, h6⟩ := cons1 h5
  obtain ⟨c7, s7, e7, h7⟩ := cons1 h6
  obtain ⟨c8, s8, e8, h8⟩ := cons1 h7
  obtain ⟨c9, s9, e9, h9⟩ := cons1 h8
  obtain ⟨c10, s10, e10, h10⟩ := cons1 h9
  obtain ⟨c11, s11, e11, h11⟩ := cons1 h10
  obtain ⟨c12, s12, e12, h12⟩ := cons1 h11
  obtain ⟨c13, s13, e13, h13⟩ := cons1 h12
  obtain ⟨c14, s14, e14, h14⟩ := cons1 h13
  obtain ⟨c15, s15, e15, h15⟩ := cons1 h14
  obtain ⟨c16, s16, e16, h16⟩ := cons1 h15
  obtain ⟨c17, s17, e17, h17⟩ := cons1 h16
  obtain ⟨c18, s18, e18, h18⟩ := cons1 h17
  obtain ⟨c19, s19, e19, h19⟩ := cons1 h18
  obtain ⟨c20, s20, e20, h20⟩ := cons1 h19
  obtain ⟨c21, s21, e21, h21⟩ := cons1 h20
  obtain ⟨c22, s22, e22, h22⟩ := cons1 h21
  obtain ⟨c23, s23, e23, h23⟩ := cons1 h22
  obtain ⟨c24, s24, e24, h24⟩ := cons1 h23
  obtain ⟨c25, s25, e25, h25⟩ := cons1 h24
  obtain ⟨c26, s26, e26, h26⟩ := cons1 h25
  obtain ⟨c27, s27, e27, h27⟩ := cons1 h26
  obtain ⟨c28, s28, e28, h28⟩ := cons1 h27
  have : s28 = [] := by cases s28; rfl; simp at h28
  subst this
  exact ⟨c0, c1, c2, c3, c4, c5, c6, c7, c8, c9, c10, c11, c12, c13, c14, c15, c16, c17, c18, c19, c20, c21, c22, c23, c24, c25, c26, c27, c28, by rw [e0, e1, e2, e3, e4, e5, e6, e7, e8, e9, e10, e11, e12, e13, e14, e15, e16, e17, e18, e19, e20, e21, e22, e23, e24, e25, e26, e27, e28]⟩
theorem l11_eq {s : Bs} {y D M : Int} (hy : 0 ≤ y) (hD : -100000000 ≤ D ∧ D ≤ 100000000) (hM0 : 0 ≤ M) (hM : M ≤ 12) : l11_28 s y D M 0 = j11_41 s (D + cum (lng y) M) := by
  unfold l11_28
  refine iter_to (fun x => x.1 = s ∧ x.2.1 = y ∧ x.2.2.2.1 = M ∧ 0 ≤ x.2.2.2.2 ∧ x.2.2.2.2 ≤ M ∧ x.2.2.1 = D + cum (lng y) x.2.2.2.2) (fun x => (M - x.2.2.2.2).toNat) _ ?_ _ ⟨rfl, rfl, rfl, by dsimp only; omega, by dsimp only; omega, by dsimp only; rw [cum_0]; omega⟩
  rintro ⟨s', y', d, M', q⟩ hI
  dsimp only at hI ⊢
  obtain ⟨rfl, rfl, rfl, h0, h1, rfl⟩ := hI
  unfold s11_28
  by_cases c : q < M'
  · left
    have := cum_s (lng y') h0 (show q < 12 by omega)
    have := cum_mono (lng y') 0 q (by omega) h0 (by omega)
    have := cum_mono (lng y') q 12 h0 (by omega) (by omega)
    have h12 := cum_12 (lng y')
    have : cum (lng y') 12 ≤ 366 := by rw [h12]; cases lng y' <;> simp
    have := md_pos (lng y') h0 (show q < 12 by omega)
    rw [cum_0] at *
    exact ⟨(s', y', D + cum (lng y') (q + 1), M', q + 1), by rw [if_pos (by simpa using c), m14_eq hy h0 (by omega), Option.bind_some, w64_eq _ (by omega) (by omega), w64_eq _ (by omega) (by omega), show D + cum (lng y') q + md (lng y') q = D + cum (lng y') (q + 1) by omega], ⟨rfl, rfl, rfl, by dsimp only; omega, by dsimp only; omega, rfl⟩, by dsimp only; omega⟩
  · right
    have : q = M' := by omega
    subst this
    rw [if_neg (by simp)]

theorem j11_41_eq {c0 c1 c2 c3 c4 c5 c6 c7 c8 c9 c10 c11 c12 c13 c14 c15 c16 c17 c18 c19 c20 c21 c22 c23 c24 c25 c26 c27 c28 : UInt8} {d : Int} (h0 : 0 ≤ d) (h1 : d < 100000000)
    {s : Bs} (hs : s = [c0, c1, c2, c3, c4, c5, c6, c7, c8, c9, c10, c11, c12, c13, c14, c15, c16, c17, c18, c19, c20, c21, c22, c23, c24, c25, c26, c27, c28]) :
    j11_41 s d = (m8 (86400 * d + 3600 * (10 * vl c17 + vl c18) + 60 * (10 * vl c20 + vl c21) + (10 * vl c23 + vl c24))).bind fun r => if r.2 = 0 ∧ r.1 = s then some (86400 * d + 3600 * (10 * vl c17 + vl c18) + 60 * (10 * vl c20 + vl c21) + (10 * vl c23 + vl c24), 0) else some (0, 5) := by
  have a1 := vl_b c17; have a2 := vl_b c18; have a3 := vl_b c20; have a4 := vl_b c21; have a5 := vl_b c23; have a6 := vl_b c24
  have hl : s.length = 29 := by rw [hs]; rfl
  have e1 : (s.take 19).drop 17 = [c17, c18] := by rw [hs]; rfl
  have e2 : (s.take 22).drop 20 = [c20, c21] := by rw [hs]; rfl
  have e3 : (s.take 25).drop 23 = [c23, c24] := by rw [hs]; rfl
  unfold j11_41
  rw [hl]
  simp only [show bnd 19 29 = some 19 from rfl, show bnd 17 19 = some 17 from rfl, show bnd 22 29 = some 22 from rfl, show bnd 20 22 = some 20 from rfl, show bnd 25 29 = some 25 from rfl, show bnd 23 25 = some 23 from rfl, Option.bind_some, e1, e2, e3, m22_2]
  rw [w64_eq (d * 86400) (by omega) (by omega), w64_eq ((10 * vl c17 + vl c18) * 3600) (by omega) (by omega), w64_eq ((10 * vl c20 + vl c21) * 60) (by omega) (by omega), w64_eq (d * 86400 + (10 * vl c17 + vl c18) * 3600) (by omega) (by omega), w64_eq (d * 86400 + (10 * vl c17 + vl c18) * 3600 + (10 * vl c20 + vl c21) * 60) (by omega) (by omega), w64_eq _ (by omega) (by omega), wu64_eq _ (by omega) (by omega)]
  have e : d * 86400 + (10 * vl c17 + vl c18) * 3600 + (10 * vl c20 + vl c21) * 60 + (10 * vl c23 + vl c24) = 86400 * d + 3600 * (10 * vl c17 + vl c18) + 60 * (10 * vl c20 + vl c21) + (10 * vl c23 + vl c24) := by omega
  rw [e]
  congr 1
  funext r
  unfold j11_48
  by_cases f1 : r.2 = 0
  · by_cases f2 : r.1 = s
    · simp [f1, f2]
    · simp [f1, f2]
  · simp [f1]

def monS : Bs := [74, 97, 110, 70, 101, 98, 77, 97, 114, 65, 112, 114, 77, 97, 121, 74, 117, 110, 74, 117, 108, 65, 117, 103, 83, 101, 112, 79, 99, 116, 78, 111, 118, 68, 101, 99]
/-- the program's Parse of 29 bytes -/
theorem m11_29 {c0 c1 c2 c3 c4 c5 c6 c7 c8 c9 c10 c11 c12 c13 c14 c15 c16 c17 c18 c19 c20 c21 c22 c23 c24 c25 c26 c27 c28 : UInt8}
    {s : Bs} (hs : s = [c0, c1, c2, c3, c4, c5, c6, c7, c8, c9, c10, c11, c12, c13, c14, c15, c16, c17, c18, c19, c20, c21, c22, c23, c24, c25, c26, c27, c28]) :
    m11 s = if 0 ≤ Lib.index monS [c8, c9, c10] ∧ Lib.index monS [c8, c9, c10] % 3 = 0 ∧ 1970 ≤ 1000 * vl c12 + 100 * vl c13 + 10 * vl c14 + vl c15 ∧ 1 ≤ 10 * vl c5 + vl c6 ∧ 10 * vl c5 + vl c6 ≤ md (lng (1000 * vl c12 + 100 * vl c13 + 10 * vl c14 + vl c15)) (Lib.index monS [c8, c9, c10] / 3)
      then j11_41 s (ah (1000 * vl c12 + 100 * vl c13 + 10 * vl c14 + vl c15) + (10 * vl c5 + vl c6) - 1 + cum (lng (1000 * vl c12 + 100 * vl c13 + 10 * vl c14 + vl c15)) (Lib.index monS [c8, c9, c10] / 3)) else some (0, 5) := by
  have a1 := vl_b c12; have a2 := vl_b c13; have a3 := vl_b c14; have a4 := vl_b c15; have a5 := vl_b c5; have a6 := vl_b c6
  have hl : s.length = 29 := by rw [hs]; rfl
  have e1 : (s.take 11).drop 8 = [c8, c9, c10] := by rw [hs]; rfl
  have e2 : (s.take 16).drop 12 = [c12, c13, c14, c15] := by rw [hs]; rfl
  have e3 : (s.take 7).drop 5 = [c5, c6] := by rw [hs]; rfl
  have hi := index_le monS [c8, c9, c10]
  have hi2 := Lib.index_ge monS [c8, c9, c10]
  have e4 : mIx monS [c8, c9, c10] = some (Lib.index monS [c8, c9, c10]) := by unfold mIx; rw [if_pos (by decide)]
  have hml : monS.length = 36 := rfl
  unfold m11
  rw [if_pos (by simp [hl]), hl, show ([74, 97, 110, 70, 101, 98, 77, 97, 114, 65, 112, 114, 77, 97, 121, 74, 117, 110, 74, 117, 108, 65, 117, 103, 83, 101, 112, 79, 99, 116, 78, 111, 118, 68, 101, 99] : Bs) = monS from rfl]
  simp only [show bnd 11 29 = some 11 from rfl, show bnd 8 11 = some 8 from rfl, show bnd 16 29 = some 16 from rfl, show bnd 12 16 = some 12 from rfl, show bnd 7 29 = some 7 from rfl, show bnd 5 7 = some 5 from rfl, Option.bind_some, e1, e2, e3, e4, m22_2, m22_4]
  generalize Lib.index monS [c8, c9, c10] = ix at *
  generalize hY : 1000 * vl c12 + 100 * vl c13 + 10 * vl c14 + vl c15 = Y at *
  generalize hD : 10 * vl c5 + vl c6 = D at *
  have hix : ix ≤ 33 := by rw [hml] at hi; simp at hi; omega
  have hf : ∀ x y z, j11_17 s x y z true = some (0, 5) := fun _ _ _ => rfl
  simp only [hf]
  by_cases f1 : ix < 0
  · rw [if_pos (by simpa using f1), if_neg (fun h => by omega)]
  · rw [if_neg (by simpa using f1), Int.tmod_eq_emod_of_nonneg (by omega), Int.tdiv_eq_ediv_of_nonneg (by omega)]
    by_cases f2 : ix % 3 = 0
    · rw [if_pos (by simpa using f2)]
      by_cases f3 : Y < 1970
      · rw [if_pos (by simpa using f3), if_neg (fun h => by omega)]
      · rw [if_neg (by simpa using f3)]
        by_cases f4 : D < 1
        · rw [if_pos (by simpa using f4), if_neg (fun h => by omega)]
        · rw [if_neg (by simpa using f4), w64_eq _ (by omega) (by omega), m14_eq (by omega) (by omega) (by omega), Option.bind_some]
          unfold j11_17
          by_cases f5 : md (lng Y) (ix / 3) < D
          · rw [if_pos (by simpa using f5), if_neg (fun h => by omega)]
          · have hb1 := ah_mono (a := 1970) (b := Y) (by omega)
            have hb2 := ah_mono (a := Y) (b := 10000) (by omega)
            have eb1 : ah 1970 = 0 := by decide
            have eb2 : ah 10000 = 2932897 := by decide
            rw [if_neg (by simpa using f5), if_pos ⟨by omega, f2, by omega, by omega, by omega⟩, m13_eq (by omega) (by omega), Option.bind_some, Int.tdiv_eq_ediv_of_nonneg (by omega), w64_eq (ix / 3) (by omega) (by omega), w64_eq (ah Y + D) (by omega) (by omega), w64_eq _ (by omega) (by omega), l11_eq (by omega) (by omega) (by omega) (by omega)]
    · rw [if_neg (by simpa using f2), if_neg (fun h => f2 h.2.1)]
theorem m11_ok (s : Bs) : m11 s = some (0, 5) ∨ ∃ n, m11 s = some (n, 0) ∧ 0 ≤ n ∧ m8 n = some (s, 0) := by
  by_cases hl : s.length = 29
  · obtain ⟨c0, c1, c2, c3, c4, c5, c6, c7, c8, c9, c10, c11, c12, c13, c14, c15, c16, c17, c18, c19, c20, c21, c22, c23, c24, c25, c26, c27, c28, hs⟩ := L29 hl
    rw [m11_29 hs]
    split
    · rename_i h
      have a1 := vl_b c12; have a2 := vl_b c13; have a3 := vl_b c14; have a4 := vl_b c15; have a5 := vl_b c5; have a6 := vl_b c6
      have b1 := vl_b c17; have b2 := vl_b c18; have b3 := vl_b c20; have b4 := vl_b c21; have b5 := vl_b c23; have b6 := vl_b c24
      have hi := index_le monS [c8, c9, c10]
      generalize Lib.index monS [c8, c9, c10] = ix at *
      generalize hY : 1000 * vl c12 + 100 * vl c13 + 10 * vl c14 + vl c15 = Y at *
      generalize hD : 10 * vl c5 + vl c6 = D at *
      have hml : monS.length = 36 := rfl
      have hix : ix ≤ 33 := by rw [hml] at hi; simp at hi; omega
      have hb1 := ah_mono (a := 1970) (b := Y) (by omega)
      have hb2 := ah_mono (a := Y) (b := 10000) (by omega)
      have eb1 : ah 1970 = 0 := by decide
      have eb2 : ah 10000 = 2932897 := by decide
      have hc := cum_mono (lng Y) 0 (ix / 3) (by omega) (by omega) (by omega)
      have hc2 := cum_mono (lng Y) (ix / 3) 12 (by omega) (by omega) (by omega)
      have h12 := cum_12 (lng Y)
      have : cum (lng Y) 12 ≤ 366 := by rw [h12]; cases lng Y <;> simp
      rw [cum_0] at hc
      rw [j11_41_eq (by omega) (by omega) hs]
      rcases m8_any (n := 86400 * (ah Y + D - 1 + cum (lng Y) (ix / 3)) + 3600 * (10 * vl c17 + vl c18) + 60 * (10 * vl c20 + vl c21) + (10 * vl c23 + vl c24)) (by omega) with ⟨e, _⟩ | ⟨y, m, k, hd, e⟩
      · rw [e]; left; rfl
      · rw [e, Option.bind_some]
        dsimp only
        split
        · rename_i g
          right
          exact ⟨_, rfl, by omega, by rw [e, g.2]⟩
        · left; rfl
    · left; rfl
  · left
    unfold m11
    rw [if_neg (by simp; omega)]
theorem mo_ix {m : Int} (h0 : 0 ≤ m) (h1 : m < 12) : ∃ a b c, mo m = [a, b, c] ∧ Lib.index monS [a, b, c] = 3 * m := by
  rcases mth h0 h1 with rfl | rfl | rfl | rfl | rfl | rfl | rfl | rfl | rfl | rfl | rfl | rfl <;> exact ⟨_, _, _, rfl, by decide +kernel⟩
theorem wk_ex {q : Int} (h0 : 0 ≤ q) (h1 : q < 7) : ∃ a b c, wk q = [a, b, c] := by
  rcases q7 h0 h1 with rfl | rfl | rfl | rfl | rfl | rfl | rfl <;> exact ⟨_, _, _, rfl⟩
/-- the program's Parse of a moment's text -/
theorem m11_txt {n y m k : Int} (h : Dt (n / 86400) y m k) : m11 (txt (n / 86400) (n % 86400) y m k) = some (n, 0) := by
  have h8 := m8_eq h
  have hr := h.range
  have hs0 : 0 ≤ n % 86400 := by omega
  have hs1 : n % 86400 < 86400 := by omega
  generalize hd : n / 86400 = d at *
  generalize hsd : n % 86400 = s at *
  obtain ⟨h1, h2, h3, h4, h5, h6, h7⟩ := h
  have hm := md_pos (lng y) h3 h4
  obtain ⟨w0, w1, w2, hw⟩ := wk_ex (q := d % 7) (by omega) (by omega)
  obtain ⟨m0, m1, m2, hm0, hix⟩ := mo_ix h3 h4
  have hz : txt d s y m k = [w0, w1, w2, 44, 32, dg ((k + 1) / 10 % 10), dg ((k + 1) % 10), 32, m0, m1, m2, 32, dg (y / 1000 % 10), dg (y / 100 % 10), dg (y / 10 % 10), dg (y % 10), 32, dg (s / 3600 / 10 % 10), dg (s / 3600 % 10), 58, dg (s / 60 % 60 / 10 % 10), dg (s / 60 % 60 % 10), 58, dg (s % 60 / 10 % 10), dg (s % 60 % 10), 32, 71, 77, 84] := by
    simp only [txt, hw, hm0, tw, y4, List.cons_append, List.nil_append]
  rw [m11_29 hz, hix]
  have v : ∀ x : Int, vl (dg (x % 10)) = x % 10 := fun x => vl_dg (by omega) (by omega)
  simp only [v]
  rw [show 1000 * (y / 1000 % 10) + 100 * (y / 100 % 10) + 10 * (y / 10 % 10) + y % 10 = y by omega, show 10 * ((k + 1) / 10 % 10) + (k + 1) % 10 = k + 1 by omega, show 3 * m / 3 = m by omega]
  rw [if_pos ⟨by omega, by omega, by omega, by omega, by omega⟩, show ah y + (k + 1) - 1 + cum (lng y) m = d by omega, j11_41_eq hr.1 (by omega) hz]
  simp only [v]
  rw [show 10 * (s / 3600 / 10 % 10) + s / 3600 % 10 = s / 3600 by omega, show 10 * (s / 60 % 60 / 10 % 10) + s / 60 % 60 % 10 = s / 60 % 60 by omega, show 10 * (s % 60 / 10 % 10) + s % 60 % 10 = s % 60 by omega, show 86400 * d + 3600 * (s / 3600) + 60 * (s / 60 % 60) + s % 60 = n by omega, h8]
  simp
end Go.Ab
