/- Dates: the laws. -/
import Derived.Test.YtgelejbmmbgddaaP4e
import Derived.Test.YtgelejbmmbgddaaF3
set_option linter.unusedVariables false
set_option linter.unusedSimpArgs false
set_option linter.unnecessarySimpa false
open Go Go.Ab Go.Proofs Go.Proofs.Ytgelejbmmbgddaa
namespace Go.Ab

theorem m9_big {n : Int} (h : 253402300799 < n) : m9 n = some ([], 3) := by
  unfold m9; rw [if_pos (by simpa using h)]
theorem m3_true {n : Int} (h0 : 0 ≤ n) : m3 n = some true := by
  unfold m3
  rcases m8_any h0 with ⟨e, hb⟩ | ⟨y, m, k, hd, e⟩
  · rw [e, m9_big hb]; rfl
  · rw [e, m9_eq hd]; simp
theorem dt_of {n : Int} {s : Bs} (h0 : 0 ≤ n) (h : m8 n = some (s, 0)) : ∃ y m k, Dt (n / 86400) y m k ∧ s = txt (n / 86400) (n % 86400) y m k := by
  rcases m8_any h0 with ⟨e, hb⟩ | ⟨y, m, k, hd, e⟩
  · rw [e] at h; simp at h
  · rw [e] at h
    simp only [Option.some.injEq, Prod.mk.injEq, and_true] at h
    exact ⟨y, m, k, hd, h.symm⟩
theorem m4_true (s : Bs) : m4 s = some true := by
  unfold m4
  have : m11 s = m12 s := by
    rcases m11_ok s with e | ⟨n, e, h0, h8⟩
    · rcases m12_ok s with f | ⟨n, y, m, k, f, hd, hs⟩
      · rw [e, f]
      · rw [hs, m11_txt hd, m12_txt hd]
    · obtain ⟨y, m, k, hd, hs⟩ := dt_of h0 h8
      rw [hs, m11_txt hd, m12_txt hd]
  rw [this]
  rcases m12_ok s with f | ⟨n, y, m, k, f, hd, hs⟩ <;> rw [f] <;> simp
theorem txt_len {d s y m k : Int} (h : Dt d y m k) : (txt d s y m k).length = 29 := by
  obtain ⟨h1, h2, h3, h4, h5, h6, h7⟩ := h
  simp only [txt, List.length_append, wk_len (q := d % 7) (by omega) (by omega), mo_len h3 h4, tw_len, y4_len, List.length_cons, List.length_nil]
theorem j5_26_true (s : Bs) : j5_26 s = some true := by
  unfold j5_26
  rcases m11_ok s with e | ⟨n, e, h0, h8⟩
  · rw [e]; rfl
  · rw [e]
    simp only [Option.bind_some]
    rw [if_pos (by rfl), h8]
    simp
theorem m5_true {n : Int} (h0 : 0 ≤ n) (s : Bs) : m5 n s = some true := by
  unfold m5
  rcases m8_any h0 with ⟨e, hb⟩ | ⟨y, m, k, hd, e⟩
  · rw [e]
    have : ¬ n ≤ 253402300799 := by omega
    simp [this, j5_7, j5_26_true]
  · rw [e]
    have hr := hd.range
    have : n ≤ 253402300799 := by omega
    simp [this, j5_7, m11_txt hd, j5_20, txt_len hd, j5_26_true]

/-! ### a day later -/
theorem Dt.next {d y m k : Int} (h : Dt d y m k) (hd : d + 1 < 2932897) :
    (k + 1 < md (lng y) m ∧ Dt (d + 1) y m (k + 1)) ∨ (k + 1 = md (lng y) m ∧ m < 11 ∧ Dt (d + 1) y (m + 1) 0) ∨ (k + 1 = md (lng y) m ∧ m = 11 ∧ Dt (d + 1) (y + 1) 0 0) := by
  have hb := h.b
  obtain ⟨h1, h2, h3, h4, h5, h6, h7⟩ := h
  by_cases c : k + 1 < md (lng y) m
  · exact .inl ⟨c, h1, h2, h3, h4, by omega, c, by omega⟩
  · right
    have hs := cum_s (lng y) h3 h4
    by_cases c2 : m < 11
    · have := md_pos (lng y) (m := m + 1) (by omega) (by omega)
      exact .inl ⟨by omega, c2, h1, h2, by omega, by omega, by omega, by omega, by omega⟩
    · have e : m = 11 := by omega
      subst e
      have h12 := cum_12 (lng y)
      rw [show (11 : Int) + 1 = 12 from rfl] at hs
      have ha := ah_s y
      have e3 : ah 10000 = 2932897 := by decide
      have := md_pos (lng (y + 1)) (m := 0) (by omega) (by omega)
      have hy : y + 1 ≤ 9999 := by
        by_cases c3 : y + 1 ≤ 9999
        · exact c3
        · have : y = 9999 := by omega
          subst this
          have : ah (9999 + 1) = 2932897 := by decide
          omega
      exact .inr ⟨by omega, rfl, by omega, hy, by omega, by omega, by omega, by omega, by rw [cum_0]; omega⟩

def weekS : Bs := [77, 111, 110, 84, 117, 101, 87, 101, 100, 84, 104, 117, 70, 114, 105, 83, 97, 116, 83, 117, 110, 77, 111, 110]
def monthS : Bs := monS ++ [74, 97, 110]
/-- where a weekday stands in the law's list -/
def wp (q : Int) : Int := (q + 3) % 7
theorem wk_at {q : Int} (h0 : 0 ≤ q) (h1 : q < 7) : ∃ a b, bnd (w64 (3 * wp q + 6)) weekS.length = some a ∧ bnd (w64 (3 * wp q + 3)) a = some b ∧ ((weekS.take a).drop b) = wk ((q + 1) % 7) := by
  rcases q7 h0 h1 with rfl | rfl | rfl | rfl | rfl | rfl | rfl <;> exact ⟨_, _, rfl, rfl, rfl⟩
theorem wk_look {p : Int} (h0 : 0 ≤ p) (h1 : p < 7) : ∃ a b, bnd (w64 (3 * p + 3)) weekS.length = some a ∧ bnd (3 * p) a = some b ∧ ((weekS.take a).drop b) = wk ((p + 4) % 7) := by
  rcases q7 h0 h1 with rfl | rfl | rfl | rfl | rfl | rfl | rfl <;> exact ⟨_, _, rfl, rfl, rfl⟩
theorem wk_inj {a b : Int} (h0 : 0 ≤ a) (h1 : a < 7) (g0 : 0 ≤ b) (g1 : b < 7) (h : wk a = wk b) : a = b := by
  rcases q7 h0 h1 with rfl | rfl | rfl | rfl | rfl | rfl | rfl <;> rcases q7 g0 g1 with rfl | rfl | rfl | rfl | rfl | rfl | rfl <;> first | rfl | (exact absurd h (by decide))
theorem mo_at {q : Int} (h0 : 0 ≤ q) (h1 : q < 12) : ∃ a b, bnd (w64 (3 * q + 6)) monthS.length = some a ∧ bnd (w64 (3 * q + 3)) a = some b ∧ ((monthS.take a).drop b) = mo (if q = 11 then 0 else q + 1) := by
  rcases mth h0 h1 with rfl | rfl | rfl | rfl | rfl | rfl | rfl | rfl | rfl | rfl | rfl | rfl <;> exact ⟨_, _, rfl, rfl, rfl⟩
theorem mo_look {q : Int} (h0 : 0 ≤ q) (h1 : q < 12) : ∃ a b, bnd (w64 (3 * q + 3)) monthS.length = some a ∧ bnd (3 * q) a = some b ∧ ((monthS.take a).drop b) = mo q := by
  rcases mth h0 h1 with rfl | rfl | rfl | rfl | rfl | rfl | rfl | rfl | rfl | rfl | rfl | rfl <;> exact ⟨_, _, rfl, rfl, rfl⟩

/-- pieces of a moment's text -/
theorem txt_p {d s y m k : Int} (h : Dt d y m k) : (txt d s y m k).take 3 = wk (d % 7) ∧ ((txt d s y m k).take 11).drop 8 = mo m ∧ ((txt d s y m k).take 16).drop 12 = y4 y ∧ ((txt d s y m k).take 16).drop 8 = mo m ++ ([32] ++ y4 y) ∧
    (txt d s y m k).drop 16 = [32] ++ (tw (s / 3600) ++ ([58] ++ (tw (s / 60 % 60) ++ ([58] ++ (tw (s % 60) ++ [32, 71, 77, 84]))))) ∧ (txt d s y m k).getD 5 0 = dg ((k + 1) / 10 % 10) ∧ (txt d s y m k).getD 6 0 = dg ((k + 1) % 10) := by
  obtain ⟨h1, h2, h3, h4, h5, h6, h7⟩ := h
  obtain ⟨w0, w1, w2, hw⟩ := wk_ex (q := d % 7) (by omega) (by omega)
  obtain ⟨m0, m1, m2, hm0, hix⟩ := mo_ix h3 h4
  simp only [txt, hw, hm0, tw, y4, List.cons_append, List.nil_append]
  exact ⟨rfl, rfl, rfl, rfl, rfl, rfl, rfl⟩
theorem l6_67_eq {d s y m k d' y' m' k' : Int} (h : Dt d y m k) (h' : Dt d' y' m' k') :
    l6_67 (txt d s y m k) (txt d' s y' m' k') (k + 1) (k' + 1) monthS 0 = j6_84 (txt d s y m k) (txt d' s y' m' k') (k + 1) (k' + 1) monthS (3 * m) := by
  have hp := txt_p (s := s) h
  have hl := txt_len (s := s) h
  obtain ⟨h1, h2, h3, h4, h5, h6, h7⟩ := h
  unfold l6_67
  refine iter_to (fun x => x.1 = txt d s y m k ∧ x.2.1 = txt d' s y' m' k' ∧ x.2.2.1 = k + 1 ∧ x.2.2.2.1 = k' + 1 ∧ x.2.2.2.2.1 = monthS ∧ ∃ q, 0 ≤ q ∧ q ≤ m ∧ x.2.2.2.2.2 = 3 * q) (fun x => (3 * m - x.2.2.2.2.2).toNat) _ ?_ _ ⟨rfl, rfl, rfl, rfl, rfl, 0, by omega, by omega, rfl⟩
  rintro ⟨a, b, da, ne, ms, z⟩ hI
  dsimp only at hI ⊢
  obtain ⟨rfl, rfl, rfl, rfl, rfl, q, q0, q1, rfl⟩ := hI
  obtain ⟨a, b, e1, e2, e3⟩ := mo_look q0 (show q < 12 by omega)
  unfold s6_67
  rw [e1, Option.bind_some, e2, Option.bind_some, hl]
  simp only [show bnd 11 29 = some 11 from rfl, show bnd 8 11 = some 8 from rfl, Option.bind_some, e3, hp.2.1]
  by_cases c : mo q = mo m
  · right
    have := mo_inj q0 (by omega) h3 h4 c
    subst this
    rw [if_pos (by simp)]
  · left
    have : q ≠ m := fun e => c (by rw [e])
    refine ⟨(txt d s y m k, txt d' s y' m' k', k + 1, k' + 1, monthS, 3 * (q + 1)), ?_, ⟨rfl, rfl, rfl, rfl, rfl, q + 1, by omega, by omega, rfl⟩, by dsimp only; omega⟩
    rw [if_neg (by simpa using c), w64_eq _ (by omega) (by omega), if_neg (by simp; omega), show 3 * q + 3 = 3 * (q + 1) by omega]
theorem l6_24_eq {d s y m k : Int} (h : Dt d y m k) (b c : Bs) : l6_24 (txt d s y m k) b c weekS 0 = j6_41 (txt d s y m k) b c weekS (3 * wp (d % 7)) := by
  have hp := txt_p (s := s) h
  have hl := txt_len (s := s) h
  have hr := h.range
  unfold l6_24
  refine iter_to (fun x => x.1 = txt d s y m k ∧ x.2.1 = b ∧ x.2.2.1 = c ∧ x.2.2.2.1 = weekS ∧ ∃ q, 0 ≤ q ∧ q ≤ wp (d % 7) ∧ x.2.2.2.2 = 3 * q) (fun x => (3 * wp (d % 7) - x.2.2.2.2).toNat) _ ?_ _ ⟨rfl, rfl, rfl, rfl, 0, by omega, by unfold wp; omega, rfl⟩
  rintro ⟨a, b, c, ws, z⟩ hI
  dsimp only at hI ⊢
  obtain ⟨rfl, rfl, rfl, rfl, q, q0, q1, rfl⟩ := hI
  have hw : wp (d % 7) < 7 ∧ 0 ≤ wp (d % 7) := by unfold wp; omega
  obtain ⟨a, b, e1, e2, e3⟩ := wk_look q0 (show q < 7 by omega)
  unfold s6_24
  rw [e1, Option.bind_some, e2, Option.bind_some, hl]
  simp only [show bnd 3 29 = some 3 from rfl, Option.bind_some, e3, hp.1]
  by_cases c : wk ((q + 4) % 7) = wk (d % 7)
  · right
    have := wk_inj (by omega) (by omega) (by omega) (by omega) c
    have : q = wp (d % 7) := by unfold wp at *; omega
    rw [if_pos (by simpa using c), this]
  · left
    have : q ≠ wp (d % 7) := fun e => c (by congr 1; unfold wp at e; omega)
    refine ⟨(txt d s y m k, _, _, weekS, 3 * (q + 1)), ?_, ⟨rfl, rfl, rfl, rfl, q + 1, by omega, by omega, rfl⟩, by dsimp only; omega⟩
    rw [if_neg (by simpa using c), w64_eq _ (by omega) (by omega), if_neg (by simp; omega), show 3 * q + 3 = 3 * (q + 1) by omega]
theorem num2 {x : Int} (h0 : 0 ≤ x) (h1 : x < 100) : w64 (w64 (10 * ((dg (x / 10 % 10) - 48).toNat : Int)) + ((dg (x % 10) - 48).toNat : Int)) = x := by
  rw [dg_vl_i (by omega) (by omega), dg_vl_i (by omega) (by omega), w64_eq (10 * (x / 10 % 10)) (by omega) (by omega), w64_eq _ (by omega) (by omega)]
  omega
theorem y4_inj {a b : Int} (h0 : 0 ≤ a) (h1 : a < 10000) (g0 : 0 ≤ b) (g1 : b < 10000) (h : y4 a = y4 b) : a = b := by
  unfold y4 at h
  simp only [List.cons.injEq, and_true] at h
  have v : ∀ x y : Int, dg (x % 10) = dg (y % 10) → x % 10 = y % 10 := by
    intro x y e
    have := congrArg vl e
    rwa [vl_dg (by omega) (by omega), vl_dg (by omega) (by omega)] at this
  have e1 := v _ _ h.1; have e2 := v _ _ h.2.1; have e3 := v _ _ h.2.2.1; have e4 := v _ _ h.2.2.2
  omega
theorem m6_true {n : Int} (h0 : 0 ≤ n) : m6 n = some true := by
  unfold m6
  rw [Int.tmod_eq_emod_of_nonneg h0]
  have hn0 : 0 ≤ n % 253401696000 := by omega
  have hn1 : n % 253401696000 < 253401696000 := by omega
  generalize n % 253401696000 = t at *
  rw [wu64_eq _ (by omega) (by omega), wu64_eq _ (by omega) (by omega)]
  obtain ⟨y, m, k, ha⟩ := Dt.ex (d := t / 86400) (by omega) (by omega)
  obtain ⟨y2, m2, k2, hb⟩ := Dt.ex (d := (t + 86400) / 86400) (by omega) (by omega)
  obtain ⟨y3, m3, k3, hc⟩ := Dt.ex (d := (t + 604800) / 86400) (by omega) (by omega)
  rw [m8_eq ha, m8_eq hb, m8_eq hc]
  rw [show (t + 86400) % 86400 = t % 86400 by omega, show (t + 604800) % 86400 = t % 86400 by omega]
  generalize hs : t % 86400 = s at *
  have hs0 : 0 ≤ s ∧ s < 86400 := by omega
  rw [show (t + 86400) / 86400 = t / 86400 + 1 by omega] at hb ⊢
  rw [show (t + 604800) / 86400 = t / 86400 + 7 by omega] at hc ⊢
  generalize t / 86400 = d at *
  have hr := ha.range
  have hrb := hb.range
  have pa := txt_p (s := s) ha; have pb := txt_p (s := s) hb; have pc := txt_p (s := s) hc
  have la := txt_len (s := s) ha; have lb := txt_len (s := s) hb; have lc := txt_len (s := s) hc
  simp only [Option.bind_some, la, lb, lc]
  rw [if_pos (by rfl), if_pos (by rfl), if_pos (by rfl), if_pos (by rfl), if_pos (by rfl)]
  unfold j6_13
  rw [if_neg (by decide), show ([77, 111, 110, 84, 117, 101, 87, 101, 100, 84, 104, 117, 70, 114, 105, 83, 97, 116, 83, 117, 110, 77, 111, 110] : Bs) = weekS from rfl, l6_24_eq ha]
  unfold j6_41
  obtain ⟨a, b, e1, e2, e3⟩ := wk_at (q := d % 7) (by omega) (by omega)
  rw [lb, show bnd 3 29 = some 3 from rfl, Option.bind_some, e1, Option.bind_some, e2, Option.bind_some, e3, pb.1, if_pos (by rw [show (d % 7 + 1) % 7 = (d + 1) % 7 by omega]; simp), lc, la]
  simp only [show bnd 3 29 = some 3 from rfl, show bnd 16 29 = some 16 from rfl, Option.bind_some, pa.1, pc.1, pa.2.2.2.2.1, pb.2.2.2.2.1, pc.2.2.2.2.1]
  rw [if_pos (by rw [show (d + 7) % 7 = d % 7 by omega]; simp), if_pos (by simp)]
  unfold j6_44
  rw [if_neg (by simp), la, lb, if_pos (by decide), if_pos (by decide), if_pos (by decide), if_pos (by decide), pa.2.2.2.2.2.1, pa.2.2.2.2.2.2, pb.2.2.2.2.2.1, pb.2.2.2.2.2.2]
  have hm := md_pos (lng y) ha.2.2.1 ha.2.2.2.1
  have hk := ha.2.2.2.2.2.1
  have hk0 := ha.2.2.2.2.1
  have hm2 := md_pos (lng y2) hb.2.2.1 hb.2.2.2.1
  have hk2 := hb.2.2.2.2.2.1
  have hk20 := hb.2.2.2.2.1
  rw [num2 (x := k + 1) (by omega) (by omega), num2 (x := k2 + 1) (by omega) (by omega), w64_eq (k + 1 + 1) (by omega) (by omega)]
  have hn := ha.next hrb.2
  by_cases c : k2 = k + 1
  · rw [if_pos (by simpa using c)]
    simp only [show bnd 16 29 = some 16 from rfl, show bnd 8 16 = some 8 from rfl, Option.bind_some, pa.2.2.2.1, pb.2.2.2.1]
    rcases hn with ⟨g, g2⟩ | ⟨g, g1, g2⟩ | ⟨g, g1, g2⟩
    · obtain ⟨rfl, rfl, _⟩ := hb.uniq g2; simp
    · obtain ⟨_, _, e⟩ := hb.uniq g2; omega
    · obtain ⟨_, _, e⟩ := hb.uniq g2; omega
  · rw [if_neg (by simpa using c), show ([74, 97, 110, 70, 101, 98, 77, 97, 114, 65, 112, 114, 77, 97, 121, 74, 117, 110, 74, 117, 108, 65, 117, 103, 83, 101, 112, 79, 99, 116, 78, 111, 118, 68, 101, 99, 74, 97, 110] : Bs) = monthS from rfl, l6_67_eq ha hb]
    unfold j6_84
    obtain ⟨a, b, e1, e2, e3⟩ := mo_at ha.2.2.1 ha.2.2.2.1
    have key : k2 = 0 ∧ k + 1 = md (lng y) m ∧ m2 = (if m = 11 then 0 else m + 1) ∧ ((y4 y = y4 y2) ↔ ¬ m = 11) := by
      have hy1 := ha.1; have hy2 := ha.2.1; have hz1 := hb.1; have hz2 := hb.2.1
      rcases hn with ⟨g, g2⟩ | ⟨g, g1, g2⟩ | ⟨g, g1, g2⟩
      · obtain ⟨_, _, e⟩ := hb.uniq g2; omega
      · obtain ⟨rfl, rfl, rfl⟩ := hb.uniq g2
        exact ⟨rfl, g, by rw [if_neg (by omega)], ⟨fun _ => by omega, fun _ => rfl⟩⟩
      · obtain ⟨rfl, rfl, rfl⟩ := hb.uniq g2
        exact ⟨rfl, g, by rw [if_pos g1], ⟨fun h => by have := y4_inj (by omega) (by omega) (by omega) (by omega) h; omega, fun h => absurd g1 h⟩⟩
    obtain ⟨k1, k3', k4, k5⟩ := key
    rw [if_pos (by simp [k1]), if_pos (by simp; omega), lb, la]
    simp only [show bnd 11 29 = some 11 from rfl, show bnd 8 11 = some 8 from rfl, show bnd 16 29 = some 16 from rfl, show bnd 12 16 = some 12 from rfl, Option.bind_some, e1, e2, e3, pa.2.1, pb.2.1, pa.2.2.1, pb.2.2.1]
    rw [k4, if_pos (by simp), if_pos]
    have dec : mo m = ([68, 101, 99] : Bs) ↔ m = 11 := ⟨fun h => mo_inj ha.2.2.1 ha.2.2.2.1 (by decide) (by decide) (h.trans (by rfl : ([68, 101, 99] : Bs) = mo 11)), fun h => by rw [h]; rfl⟩
    by_cases c11 : m = 11
    · have f1 : ¬ y4 y = y4 y2 := fun h => k5.1 h c11
      have f2 := dec.2 c11
      simp [f1, f2]
    · have f1 := k5.2 c11
      have f2 : ¬ mo m = ([68, 101, 99] : Bs) := fun h => c11 (dec.1 h)
      simp [f1, f2]
end Go.Ab
