/- Dates: what the program's and the document's functions compute. -/
import Derived.Test.YtgelejbmmbgddaaP4a
import Derived.Test.YtgelejbmmbgddaaF3
set_option linter.unusedVariables false
set_option linter.unusedSimpArgs false
set_option linter.unnecessarySimpa false
open Go Go.Ab Go.Proofs Go.Proofs.Ytgelejbmmbgddaa
namespace Go.Ab

theorem m24_eq {y : Int} (h0 : 0 ≤ y) : m24 y = some (lng y) := by
  unfold m24 lng
  rw [Int.tmod_eq_emod_of_nonneg h0, Int.tmod_eq_emod_of_nonneg h0, Int.tmod_eq_emod_of_nonneg h0]
  by_cases h4 : y % 4 = 0 <;> by_cases h1 : y % 100 = 0 <;> by_cases h40 : y % 400 = 0 <;> simp [h4, h1, h40] <;> omega
theorem m16_eq {y : Int} (h0 : 0 ≤ y) : m16 y = some (lng y) := by
  unfold m16 lng
  rw [Int.tmod_eq_emod_of_nonneg h0, Int.tmod_eq_emod_of_nonneg h0, Int.tmod_eq_emod_of_nonneg h0]
  by_cases h4 : y % 4 = 0 <;> by_cases h1 : y % 100 = 0 <;> by_cases h40 : y % 400 = 0 <;> simp [h4, h1, h40] <;> omega
theorem m13_eq {y : Int} (h0 : 1 ≤ y) (h1 : y < 100000) : m13 y = some (ah y) := by
  unfold m13 ah
  rw [w64_eq (y - 1970) (by omega) (by omega), w64_eq (y - 1) (by omega) (by omega), Int.tdiv_eq_ediv_of_nonneg (by omega), Int.tdiv_eq_ediv_of_nonneg (by omega), Int.tdiv_eq_ediv_of_nonneg (by omega)]
  rw [w64_eq (365 * (y - 1970)) (by omega) (by omega), w64_eq ((y - 1) / 4) (by omega) (by omega), w64_eq ((y - 1) / 100) (by omega) (by omega), w64_eq ((y - 1) / 400) (by omega) (by omega)]
  rw [w64_eq ((y - 1) / 4 - (y - 1) / 100) (by omega) (by omega), w64_eq ((y - 1) / 4 - (y - 1) / 100 + (y - 1) / 400) (by omega) (by omega), w64_eq (365 * (y - 1970) + ((y - 1) / 4 - (y - 1) / 100 + (y - 1) / 400)) (by omega) (by omega), w64_eq _ (by omega) (by omega)]
theorem mdT_get {m : Int} (h0 : 0 ≤ m) (h1 : m < 12) : ([(31 : Int), (28 : Int), (31 : Int), (30 : Int), (31 : Int), (30 : Int), (31 : Int), (31 : Int), (30 : Int), (31 : Int), (30 : Int), (31 : Int)] : List Int).getD m.toNat default = md false m := by
  rcases mth h0 h1 with rfl | rfl | rfl | rfl | rfl | rfl | rfl | rfl | rfl | rfl | rfl | rfl <;> rfl
theorem m14_eq {y m : Int} (hy : 0 ≤ y) (h0 : 0 ≤ m) (h1 : m < 12) : m14 y m = some (md (lng y) m) := by
  unfold m14 j14_7
  rw [m24_eq hy, mdT_get h0 h1]
  by_cases e : m = 1
  · subst e; cases lng y <;> simp <;> rfl
  · simp [e, h0, h1]
    simp [md, e]
theorem m17_eq {y m : Int} (hy : 0 ≤ y) (h0 : 0 ≤ m) (h1 : m < 12) : m17 y m = some (md (lng y) m) := by
  unfold m17 j17_9 j17_12
  rw [m16_eq hy, mdT_get h0 h1]
  by_cases e : m = 1
  · subst e; cases lng y <;> simp <;> rfl
  · simp [e, h0, h1]
    simp [md, e]
theorem m15_eq {n : Int} (h0 : 0 ≤ n) (h1 : n < 100000) : m15 n = some (tw n) := by
  unfold m15 tw dg
  rw [Int.tdiv_eq_ediv_of_nonneg h0, w64_eq (n / 10) (by omega) (by omega), Int.tmod_eq_emod_of_nonneg (by omega), Int.tmod_eq_emod_of_nonneg h0, w64_eq _ (by omega) (by omega), w64_eq _ (by omega) (by omega)]
theorem m19_s {n i : Int} {s : Bs} {k : Int} (hi : i < k) (hn0 : 0 ≤ n) (hn : n < 100000) (hs : s.length < 10) (hi0 : 0 ≤ i) (hk : k < 10) : l19_8 n k s i = l19_8 (n / 10) k (dg (n % 10) :: s) (i + 1) := by
  unfold l19_8
  rw [iter_l]
  unfold s19_8
  rw [if_pos (by simp [hi]), if_pos (by simp; omega), w64_eq (n.tdiv 10) (by rw [Int.tdiv_eq_ediv_of_nonneg hn0]; omega) (by rw [Int.tdiv_eq_ediv_of_nonneg hn0]; omega), Int.tdiv_eq_ediv_of_nonneg hn0, Int.tmod_eq_emod_of_nonneg hn0, w64_eq (48 + n % 10) (by omega) (by omega), w64_eq (i + 1) (by omega) (by omega)]
  rfl
theorem m19_e {n k : Int} {s : Bs} : l19_8 n k s k = some s := by
  unfold l19_8
  rw [iter_r (r := s)]
  unfold s19_8 j19_21
  rw [if_neg (by simp)]
  rfl
theorem m19_2 {n : Int} (h0 : 0 ≤ n) (h1 : n < 100000) : m19 n 2 = some (tw n) := by
  unfold m19
  rw [m19_s (by decide) h0 h1 (by simp) (by decide) (by decide), m19_s (by decide) (by omega) (by omega) (by simp) (by decide) (by decide)]
  exact m19_e
theorem m19_4 {n : Int} (h0 : 0 ≤ n) (h1 : n < 100000) : m19 n 4 = some (y4 n) := by
  unfold m19
  rw [m19_s (by decide) h0 h1 (by simp) (by decide) (by decide), m19_s (by decide) (by omega) (by omega) (by simp) (by decide) (by decide), m19_s (by decide) (by omega) (by omega) (by simp) (by decide) (by decide), m19_s (by decide) (by omega) (by omega) (by simp) (by decide) (by decide)]
  refine m19_e.trans ?_
  have e1 : n / 10 / 10 / 10 % 10 = n / 1000 % 10 := by omega
  have e2 : n / 10 / 10 % 10 = n / 100 % 10 := by omega
  simp only [y4, e1, e2]
theorem m18_eq {d : Int} (h0 : 0 ≤ d) : m18 d = some (wk (d % 7)) := by
  unfold m18
  rw [Int.tmod_eq_emod_of_nonneg h0, if_pos (by omega)]
  rcases q7 (q := d % 7) (by omega) (by omega) with e | e | e | e | e | e | e <;> rw [e] <;> rfl
theorem m20_eq {m : Int} (h0 : 0 ≤ m) (h1 : m < 12) : m20 m = some (mo m) := by
  unfold m20
  rw [if_pos (by omega)]
  rcases mth h0 h1 with rfl | rfl | rfl | rfl | rfl | rfl | rfl | rfl | rfl | rfl | rfl | rfl <;> rfl
/-- the weekday's name, cut out -/
theorem wk_cut {q : Int} (h0 : 0 ≤ q) (h1 : q < 7) : ∃ a b, bnd (w64 (w64 (3 * q) + 3)) 21 = some a ∧ bnd (w64 (3 * q)) a = some b ∧ (([84, 104, 117, 70, 114, 105, 83, 97, 116, 83, 117, 110, 77, 111, 110, 84, 117, 101, 87, 101, 100] : Bs).take a).drop b = wk q := by
  rcases q7 h0 h1 with rfl | rfl | rfl | rfl | rfl | rfl | rfl <;> exact ⟨_, _, rfl, rfl, rfl⟩
theorem mo_cut {q : Int} (h0 : 0 ≤ q) (h1 : q < 12) : ∃ a b, bnd (w64 (w64 (3 * q) + 3)) 36 = some a ∧ bnd (w64 (3 * q)) a = some b ∧ (([74, 97, 110, 70, 101, 98, 77, 97, 114, 65, 112, 114, 77, 97, 121, 74, 117, 110, 74, 117, 108, 65, 117, 103, 83, 101, 112, 79, 99, 116, 78, 111, 118, 68, 101, 99] : Bs).take a).drop b = mo q := by
  rcases mth h0 h1 with rfl | rfl | rfl | rfl | rfl | rfl | rfl | rfl | rfl | rfl | rfl | rfl <;> exact ⟨_, _, rfl, rfl, rfl⟩

theorem j8_40_eq {d s y m k : Int} (h : Dt d y m k) (hs0 : 0 ≤ s) (hs1 : s < 86400) : j8_40 d s y k m = some (txt d s y m k, 0) := by
  have hd := h.range
  obtain ⟨h1, h2, h3, h4, h5, h6, h7⟩ := h
  have hm := md_pos (lng y) h3 h4
  unfold j8_40
  rw [Int.tmod_eq_emod_of_nonneg hd.1]
  obtain ⟨a, b, e1, e2, e3⟩ := wk_cut (q := d % 7) (by omega) (by omega)
  obtain ⟨a', b', f1, f2, f3⟩ := mo_cut h3 h4
  have wl := wk_len (q := d % 7) (by omega) (by omega)
  have ml := mo_len h3 h4
  rw [Int.tdiv_eq_ediv_of_nonneg hs0, Int.tdiv_eq_ediv_of_nonneg hs0, Int.tdiv_eq_ediv_of_nonneg (show 0 ≤ y by omega), Int.tmod_eq_emod_of_nonneg hs0, Int.tmod_eq_emod_of_nonneg (show 0 ≤ y by omega), w64_eq (k + 1) (by omega) (by omega), w64_eq (y / 100) (by omega) (by omega), w64_eq (s / 3600) (by omega) (by omega), w64_eq (s / 60) (by omega) (by omega), Int.tmod_eq_emod_of_nonneg (show 0 ≤ s / 60 by omega)]
  simp -implicitDefEqProofs only [e1, e2, e3, f1, f2, f3, Option.bind_some, m15_eq (n := k + 1) (by omega) (by omega), m15_eq (n := y / 100) (by omega) (by omega), m15_eq (n := y % 100) (by omega) (by omega), m15_eq (n := s / 3600) (by omega) (by omega), m15_eq (n := s / 60 % 60) (by omega) (by omega), m15_eq (n := s % 60) (by omega) (by omega),
    List.length_append, wl, ml, tw_len, List.length_cons, List.length_nil, Nat.reduceAdd, Nat.reduceLT, ↓reduceIte]
  simp only [txt, List.append_assoc, ← tw_y4 y (by omega) (by omega)]
theorem j9_52_eq {n d y m k : Int} (h : Dt d y m k) (hn0 : 0 ≤ n) (hn1 : n < 1000000000000) : j9_52 n d k y m = some (txt d (n % 86400) y m k, 0) := by
  have hd := h.range
  obtain ⟨h1, h2, h3, h4, h5, h6, h7⟩ := h
  have hm := md_pos (lng y) h3 h4
  unfold j9_52
  have wl := wk_len (q := d % 7) (by omega) (by omega)
  have ml := mo_len h3 h4
  generalize hs : n % 86400 = s
  have hs0 : 0 ≤ s := by omega
  have hs1 : s < 86400 := by omega
  rw [Int.tmod_eq_emod_of_nonneg hn0, hs, w64_eq s (by omega) (by omega), Int.tdiv_eq_ediv_of_nonneg hs0, Int.tmod_eq_emod_of_nonneg hs0, Int.tdiv_eq_ediv_of_nonneg (show 0 ≤ s % 3600 by omega), Int.tmod_eq_emod_of_nonneg hs0, w64_eq k (by omega) (by omega), w64_eq (k + 1) (by omega) (by omega), w64_eq (s / 3600) (by omega) (by omega), w64_eq (s % 3600 / 60) (by omega) (by omega)]
  simp -implicitDefEqProofs only [m18_eq hd.1, m20_eq h3 h4, Option.bind_some, m19_2 (n := k + 1) (by omega) (by omega), m19_4 (n := y) (by omega) (by omega), m19_2 (n := s / 3600) (by omega) (by omega), m19_2 (n := s % 3600 / 60) (by omega) (by omega), m19_2 (n := s % 60) (by omega) (by omega),
    List.length_append, wl, ml, tw_len, y4_len, List.length_cons, List.length_nil, Nat.reduceAdd, Nat.reduceLT, ↓reduceIte]
  have e : s % 3600 / 60 = s / 60 % 60 := by omega
  simp only [txt, List.append_assoc, e]

theorem m8_eq {n y m k : Int} (h : Dt (n / 86400) y m k) : m8 n = some (txt (n / 86400) (n % 86400) y m k, 0) := by
  have hr := h.range
  have hb := h.b
  have hn0 : 0 ≤ n := by omega
  unfold m8
  rw [if_neg (by simp; omega), Int.tdiv_eq_ediv_of_nonneg hn0, wu64_eq (n / 86400) (by omega) (by omega), w64_eq (n / 86400) (by omega) (by omega), Int.tdiv_eq_ediv_of_nonneg hr.1, w64_eq (n / 86400 / 366) (by omega) (by omega), w64_eq (1970 + n / 86400 / 366) (by omega) (by omega), Int.tmod_eq_emod_of_nonneg hn0, w64_eq (n % 86400) (by omega) (by omega)]
  have hs0 : 0 ≤ n % 86400 := by omega
  have hs1 : n % 86400 < 86400 := by omega
  generalize n / 86400 = d at *
  generalize n % 86400 = s at *
  have hy := h.1; have hy2 := h.2.1
  obtain ⟨r, h1, h2⟩ := iter_post (f := fun x : Int × Int × Int => s8_16 x.1 x.2.1 x.2.2) (fun x => x.1 = d ∧ x.2.1 = s ∧ 1970 ≤ x.2.2 ∧ x.2.2 ≤ y) (fun x => (y - x.2.2).toNat) (fun r => r = (txt d s y m k, 0)) (by
    rintro ⟨d', s', v⟩ hI
    dsimp only at hI ⊢
    obtain ⟨rfl, rfl, hv1, hv2⟩ := hI
    unfold s8_16
    rw [w64_eq (v + 1) (by omega) (by omega), m13_eq (y := v + 1) (by omega) (by omega)]
    simp only [Option.bind_some]
    by_cases c : ah (v + 1) ≤ d'
    · have : v < y := by
        by_cases c2 : y ≤ v
        · have := ah_mono (a := y + 1) (b := v + 1) (by omega); omega
        · omega
      exact .inl ⟨(d', s', v + 1), by simp [c], ⟨rfl, rfl, by dsimp only; omega, by dsimp only; omega⟩, by dsimp only; omega⟩
    · have e : v = y := by
        by_cases c2 : v < y
        · have := ah_mono (a := v + 1) (b := y) (by omega); omega
        · omega
      subst e
      refine .inr ⟨_, ?_, rfl⟩
      rw [if_neg (by simpa using c)]
      -- the months
      have : j8_25 d' s' v = some (txt d' s' v m k, 0) := by
        unfold j8_25 l8_29
        have hz := ah_mono (a := 1970) (b := v) hv1
        have e19 : ah 1970 = 0 := by decide
        obtain ⟨h1, h2, h3, h4, h5, h6, h7⟩ := h
        rw [m13_eq (by omega) (by omega), Option.bind_some, w64_eq _ (by omega) (by omega)]
        obtain ⟨r, g1, g2⟩ := iter_post (f := fun x : Int × Int × Int × Int × Int => s8_29 x.1 x.2.1 x.2.2.1 x.2.2.2.1 x.2.2.2.2) (fun x => x.1 = d' ∧ x.2.1 = s' ∧ x.2.2.1 = v ∧ 0 ≤ x.2.2.2.2 ∧ x.2.2.2.2 ≤ m ∧ x.2.2.2.1 = d' - ah v - cum (lng v) x.2.2.2.2) (fun x => (m - x.2.2.2.2).toNat) (fun r => r = (txt d' s' v m k, 0)) (by
          rintro ⟨d2, s2, v2, r, q⟩ hI
          dsimp only at hI ⊢
          obtain ⟨rfl, rfl, rfl, a0, a1, a2⟩ := hI
          unfold s8_29
          have hq : q < 12 := by omega
          have hp := md_pos (lng v2) a0 hq
          have hs := cum_s (lng v2) a0 hq
          have hc := cum_mono (lng v2) 0 q (by omega) a0 (by omega)
          have hc2 := cum_mono (lng v2) q m (by omega) a1 (by omega)
          rw [cum_0] at hc
          rw [m14_eq (by omega) a0 hq, Option.bind_some]
          by_cases c : md (lng v2) q ≤ r
          · have : q < m := by
              by_cases c2 : q = m
              · subst c2; omega
              · omega
            exact .inl ⟨(d2, s2, v2, r - md (lng v2) q, q + 1), by rw [if_pos (by simpa using c), w64_eq _ (by omega) (by omega), w64_eq _ (by omega) (by omega)], ⟨rfl, rfl, rfl, by dsimp only; omega, by dsimp only; omega, by dsimp only; omega⟩, by dsimp only; omega⟩
          · have e : q = m := by
              by_cases c2 : q < m
              · have := cum_mono (lng v2) (q + 1) m (by omega) (by omega) (by omega); omega
              · omega
            subst e
            refine .inr ⟨_, ?_, rfl⟩
            rw [if_neg (by simpa using c), show r = k by omega, j8_40_eq ⟨h1, h2, h3, h4, h5, h6, h7⟩ hs0 hs1]
            rfl) (d', s', v, d' - ah v, 0) ⟨rfl, rfl, rfl, Int.le_refl _, h3, by rw [cum_0]; dsimp only; omega⟩
        rw [g1, g2]
      rw [this]
      rfl) (d, s, 1970 + d / 366) ⟨rfl, rfl, by dsimp only; omega, by
        dsimp only
        by_cases c2 : y < 1970 + d / 366
        · have := ah_mono (a := y + 1) (b := 1970 + d / 366) (by omega)
          have : ah (1970 + d / 366) ≤ d := by unfold ah; omega
          omega
        · omega⟩
  unfold l8_16
  rw [h1, h2]
theorem m9_eq {n y m k : Int} (h : Dt (n / 86400) y m k) : m9 n = some (txt (n / 86400) (n % 86400) y m k, 0) := by
  have hr := h.range
  have hb := h.b
  have hn0 : 0 ≤ n := by omega
  unfold m9
  rw [if_neg (by simp; omega), Int.tdiv_eq_ediv_of_nonneg hn0, wu64_eq (n / 86400) (by omega) (by omega)]
  have hn1 : n < 1000000000000 := by omega
  generalize hd : n / 86400 = d at *
  have e19 : ah 1970 = 0 := by decide
  have hy := h.1; have hy2 := h.2.1
  obtain ⟨r, h1, h2⟩ := iter_post (f := fun x : Int × Int × Int × Int => s9_18 x.1 x.2.1 x.2.2.1 x.2.2.2) (fun x => x.1 = n ∧ x.2.1 = d ∧ 1970 ≤ x.2.2.2 ∧ x.2.2.2 ≤ y ∧ x.2.2.1 = d - ah x.2.2.2) (fun x => (y - x.2.2.2).toNat) (fun r => r = (txt d (n % 86400) y m k, 0)) (by
    rintro ⟨n', d', w, v⟩ hI
    dsimp only at hI ⊢
    obtain ⟨rfl, rfl, hv1, hv2, hw⟩ := hI
    have hs := ah_s v
    have hm := ah_mono (a := v) (b := y) hv2
    have hm2 := ah_mono (a := 1970) (b := v) hv1
    have e1 : ah 1970 = 0 := by decide
    have e : s9_18 n' d' w v = j9_28 n' d' w v (365 + (if lng v = true then 1 else 0)) := by
      unfold s9_18
      rw [m16_eq (by omega), Option.bind_some]
      cases lng v <;> rfl
    rw [e]
    generalize hM : (365 : Int) + (if lng v = true then 1 else 0) = M at *
    have hMb : M = 365 ∨ M = 366 := by rw [← hM]; cases lng v <;> simp
    unfold j9_28
    by_cases c : w < M
    · have e : v = y := by
        by_cases c2 : v < y
        · have := ah_mono (a := v + 1) (b := y) (by omega); omega
        · omega
      subst e
      refine .inr ⟨_, ?_, rfl⟩
      rw [if_pos (by simpa using c)]
      have : j9_37 n' d' w v = some (txt d' (n' % 86400) v m k, 0) := by
        unfold j9_37 l9_41
        obtain ⟨h1, h2, h3, h4, h5, h6, h7⟩ := h
        obtain ⟨r, g1, g2⟩ := iter_post (f := fun x : Int × Int × Int × Int × Int => s9_41 x.1 x.2.1 x.2.2.1 x.2.2.2.1 x.2.2.2.2) (fun x => x.1 = n' ∧ x.2.1 = d' ∧ x.2.2.2.1 = v ∧ 0 ≤ x.2.2.2.2 ∧ x.2.2.2.2 ≤ m ∧ x.2.2.1 = d' - ah v - cum (lng v) x.2.2.2.2) (fun x => (m - x.2.2.2.2).toNat) (fun r => r = (txt d' (n' % 86400) v m k, 0)) (by
          rintro ⟨n2, d2, r, v2, q⟩ hI
          dsimp only at hI ⊢
          obtain ⟨rfl, rfl, rfl, a0, a1, a2⟩ := hI
          unfold s9_41
          have hq : q < 12 := by omega
          have hp := md_pos (lng v2) a0 hq
          have hs := cum_s (lng v2) a0 hq
          have hc := cum_mono (lng v2) 0 q (by omega) a0 (by omega)
          have hc2 := cum_mono (lng v2) q m (by omega) a1 (by omega)
          rw [cum_0] at hc
          rw [m17_eq (by omega) a0 hq, Option.bind_some, wu64_eq (md (lng v2) q) (by omega) (by omega)]
          by_cases c : md (lng v2) q ≤ r
          · have : q < m := by
              by_cases c2 : q = m
              · subst c2; omega
              · omega
            exact .inl ⟨(n2, d2, r - md (lng v2) q, v2, q + 1), by rw [if_pos (by simpa using c), wu64_eq _ (by omega) (by omega), w64_eq _ (by omega) (by omega)], ⟨rfl, rfl, rfl, by dsimp only; omega, by dsimp only; omega, by dsimp only; omega⟩, by dsimp only; omega⟩
          · have e : q = m := by
              by_cases c2 : q < m
              · have := cum_mono (lng v2) (q + 1) m (by omega) (by omega) (by omega); omega
              · omega
            subst e
            refine .inr ⟨_, ?_, rfl⟩
            rw [if_neg (by simpa using c), show r = k by omega, j9_52_eq ⟨h1, h2, h3, h4, h5, h6, h7⟩ hn0 hn1]
            rfl) (n', d', w, v, 0) ⟨rfl, rfl, rfl, Int.le_refl _, h3, by rw [cum_0]; dsimp only; omega⟩
        rw [g1, g2]
      rw [this]
      rfl
    · have : v < y := by
        by_cases c2 : v = y
        · subst c2; omega
        · omega
      have := ah_mono (a := v + 1) (b := y) (by omega)
      exact .inl ⟨(n', d', w - M, v + 1), by rw [if_neg (by simpa using c), wu64_eq _ (by omega) (by omega), w64_eq _ (by omega) (by omega)], ⟨rfl, rfl, by dsimp only; omega, by dsimp only; omega, by dsimp only; omega⟩, by dsimp only; omega⟩) (n, d, d, 1970) ⟨rfl, rfl, by dsimp only; omega, hy, by dsimp only; omega⟩
  unfold l9_18
  rw [h1, h2]
end Go.Ab
