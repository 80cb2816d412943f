/- Texts: blanks at both ends; elements of lists. -/
import Derived.Test.YtcjkhdkfdnjhaaaDoorPT1F
import Derived.Test.YtcjkhdkfdnjhaaaDoorFF2
set_option linter.unusedVariables false
set_option linter.unusedSimpArgs false
set_option linter.unnecessarySimpa false
open Go Go.Ab Go.Proofs Go.Proofs.YtcjkhdkfdnjhaaaDoor
namespace Go.Ab

def blB (c : UInt8) : Bool := c == 32 || c == 9
def trimL (s : Bs) : Bs := Lib.trimS s [32, 9]
theorem m14_eq (s : Bs) (hs : s.length < 2 ^ 60) : m14 s = some (trimL s) := by
  unfold m14 mTrim
  rw [if_pos ⟨by omega, by decide, by decide⟩]
  rfl
theorem con_bl : ∀ c : UInt8, ([32, 9] : Bs).contains c = blB c := byAll (by decide +kernel)
/-- what is left when so much is blank at both ends -/
theorem trimL_cut {s : Bs} {a b : Nat} (hab : a < b) (hb : b ≤ s.length) (h1 : ∀ j, j < a → blB (s.getD j 0) = true) (h2 : blB (s.getD a 0) = false) (h3 : ∀ j, b ≤ j → j < s.length → blB (s.getD j 0) = true) (h4 : blB (s.getD (b - 1) 0) = false) :
    trimL s = (s.take b).drop a := by
  unfold trimL Lib.trimS
  have g : ∀ (j : Nat) x, s[j]? = some x → s.getD j 0 = x := fun j x h => by rw [List.getD_eq_getElem?_getD, h]; rfl
  rw [Lib.trimRightS_take s [32, 9] b hb (fun j x hj hx => by
    have hl := (List.getElem?_eq_some_iff.1 hx).1
    have := h3 j hj hl
    rw [g _ _ hx] at this
    rw [con_bl]; exact this) (fun x _ hx => by rw [con_bl, ← g _ _ hx]; exact h4)]
  rw [Lib.trimLeftS_drop (s.take b) [32, 9] a (by simp; omega) (fun j x hj hx => by
    rw [List.getElem?_take] at hx
    split at hx
    · have := h1 j hj
      rw [g _ _ hx] at this
      rw [con_bl]; exact this
    · cases hx) (fun x hx => by
    have hx' : s[a]? = some x := by rw [List.getElem?_take, if_pos hab] at hx; exact hx
    rw [con_bl, ← g _ _ hx']; exact h2)]
theorem trimL_nil {s : Bs} (h1 : ∀ j, j < s.length → blB (s.getD j 0) = true) : trimL s = [] := by
  unfold trimL Lib.trimS
  have g : ∀ (j : Nat) x, s[j]? = some x → s.getD j 0 = x := fun j x h => by rw [List.getD_eq_getElem?_getD, h]; rfl
  rw [Lib.trimRightS_take s [32, 9] 0 (by omega) (fun j x hj hx => by
    have hl := (List.getElem?_eq_some_iff.1 hx).1
    have := h1 j hl
    rw [g _ _ hx] at this
    rw [con_bl]; exact this) (fun x h _ => by omega)]
  rfl
theorem trim_same : ∀ c : UInt8, (if (c == 32) = true then true else (c == 9)) = blB c := byAll (by decide +kernel)
theorem m15_eq (s : Bs) (hs : s.length < 2 ^ 60) : m15 s = some (trimL s) := by
  unfold m15 l15_6
  refine iter_to (fun (x : Bs × Int × Int) => x.1 = s ∧ x.2.2 = s.length ∧ 0 ≤ x.2.1 ∧ x.2.1 ≤ s.length ∧ ∀ j, j < x.2.1.toNat → blB (s.getD j 0) = true) (fun (x : Bs × Int × Int) => ((s.length : Int) - x.2.1).toNat) _ ?_ _ ⟨rfl, rfl, by dsimp only; omega, by dsimp only; omega, by dsimp only; intro j hj; omega⟩
  rintro ⟨s', f, n⟩ hI
  dsimp only at hI ⊢
  obtain ⟨rfl, rfl, h0, h1, h2⟩ := hI
  have key : s15_6 s' f s'.length = if f < s'.length then j15_10 s' f s'.length (blB (s'.getD f.toNat 0)) else j15_10 s' f s'.length false := by
    unfold s15_6
    by_cases c : f < s'.length
    · rw [if_pos (by simpa using c), if_pos ⟨h0, c⟩, if_pos c, ← trim_same]
      split <;> rfl
    · rw [if_neg (by simpa using c), if_neg c]
  rw [key]
  unfold j15_10
  by_cases c : f < s'.length
  · rw [if_pos c]
    by_cases b : blB (s'.getD f.toNat 0) = true
    · left
      refine ⟨(s', f + 1, s'.length), by rw [if_pos b, w64_eq (f + 1) (by omega) (by omega)], ⟨rfl, rfl, by dsimp only; omega, by dsimp only; omega, ?_⟩, by dsimp only; omega⟩
      dsimp only
      intro j hj
      by_cases e : j = f.toNat
      · rw [e]; exact b
      · exact h2 j (by omega)
    · right
      rw [if_neg b]
      have hb : blB (s'.getD f.toNat 0) = false := by simpa using b
      congr 1
      unfold j15_15 l15_17
      refine iter_to (fun (x : Bs × Int × Int) => x.1 = s' ∧ x.2.1 = f ∧ f < x.2.2 ∧ x.2.2 ≤ s'.length ∧ ∀ j, x.2.2.toNat ≤ j → j < s'.length → blB (s'.getD j 0) = true) (fun (x : Bs × Int × Int) => x.2.2.toNat) _ ?_ _ ⟨rfl, rfl, c, by dsimp only; omega, by dsimp only; intro j hj hj2; omega⟩
      rintro ⟨s2, f2, t⟩ hI
      dsimp only at hI ⊢
      obtain ⟨rfl, rfl, g0, g1, g2⟩ := hI
      have key2 : s15_17 s2 f2 t = j15_21 s2 f2 t (blB (s2.getD (t - 1).toNat 0)) := by
        unfold s15_17
        rw [if_pos (by simpa using g0), w64_eq (t - 1) (by omega) (by omega), if_pos ⟨by omega, by omega⟩, ← trim_same]
        split <;> rfl
      rw [key2]
      unfold j15_21
      by_cases d : blB (s2.getD (t - 1).toNat 0) = true
      · left
        have hne : t - 1 ≠ f2 := fun e => by rw [e, hb] at d; cases d
        refine ⟨(s2, f2, t - 1), by rw [if_pos d, w64_eq (t - 1) (by omega) (by omega)], ⟨rfl, rfl, by dsimp only; omega, by dsimp only; omega, ?_⟩, by dsimp only; omega⟩
        dsimp only
        intro j hj hj2
        by_cases e : j = (t - 1).toNat
        · rw [e]; exact d
        · exact g2 j (by omega) hj2
      · right
        rw [if_neg d]
        have hd : blB (s2.getD (t - 1).toNat 0) = false := by simpa using d
        congr 1
        unfold j15_26
        have e1 : bnd t s2.length = some t.toNat := by unfold bnd; rw [if_pos ⟨by omega, g1⟩]
        have e2 : bnd f2 t.toNat = some f2.toNat := by unfold bnd; rw [if_pos ⟨h0, by omega⟩]
        rw [e1, Option.bind_some, e2, Option.bind_some, trimL_cut (a := f2.toNat) (b := t.toNat) (by omega) (by omega) h2 hb g2 (by rw [show t.toNat - 1 = (t - 1).toNat by omega]; exact hd)]
  · right
    rw [if_neg c, if_neg (by decide)]
    have e : f = s'.length := by omega
    congr 1
    rw [trimL_nil (fun j hj => h2 j (by omega))]
    subst e
    unfold j15_15 l15_17
    rw [iter_r (r := [])]
    unfold s15_17 j15_21 j15_26
    dsimp only
    rw [if_neg (by simp), if_neg (by decide), bnd_self]
    simp only [Option.bind_some, bnd_self]
    simp
theorem m36_eq {s : Bs} {a b : Nat} (hb : b ≤ s.length) (hab : a ≤ b) (hs : s.length < 2 ^ 60) (z : Bool) (l : List Bs) (hl : l.length < 2 ^ 40) :
    ∃ z', m36 b s a z l = some (s, (b : Int) + 1, z', if trimL ((s.take b).drop a) = [] then l else l ++ [trimL ((s.take b).drop a)]) := by
  unfold m36 j36_8 j36_8v1
  rw [bnd_ok hb, Option.bind_some, bnd_ok hab, Option.bind_some, m14_eq _ (by simp; omega), Option.bind_some, w64_eq _ (by omega) (by omega)]
  by_cases c : trimL ((s.take b).drop a) = []
  · exact ⟨z, by rw [if_pos (by simpa using c), if_pos c]⟩
  · exact ⟨false, by rw [if_neg (by simpa using c), if_pos (by omega), if_neg c]⟩

/-! ### runes -/
theorem rune_lo {l : Bs} {p : Nat} (h : p < l.length) (hl : (l.getD p 0).toNat < 128) : uc l p = (l.getD p 0).toNat ∧ uw l p = 1 := by
  unfold uc uw
  rw [Lib.decode_at, S_get!]
  simp only [Lib.decodeN, hl, if_true, and_self]
theorem rune_hi {l : Bs} {p : Nat} (h : p < l.length) (hl : 128 ≤ (l.getD p 0).toNat) : 128 ≤ uc l p ∧ 1 ≤ uw l p ∧ p + uw l p ≤ l.length ∧ ∀ j, j < uw l p → 128 ≤ (l.getD (p + j) 0).toNat := by
  unfold uc uw
  rw [Lib.decode_at, S_get!, S_get!, S_get!, S_get!, S_size]
  have hn : ¬ (l.getD p 0).toNat < 128 := by omega
  generalize hb0 : (l.getD p 0).toNat = b0 at *
  generalize hb1 : (l.getD (p + 1) 0).toNat = b1 at *
  generalize hb2 : (l.getD (p + 2) 0).toNat = b2 at *
  generalize hb3 : (l.getD (p + 3) 0).toNat = b3 at *
  have z0 : ∀ j, j < 1 → 128 ≤ (l.getD (p + j) 0).toNat := fun j hj => by
    have : j = 0 := by omega
    subst this; simp only [Nat.add_zero]; omega
  unfold Lib.decodeN
  rw [if_neg hn]
  split
  · rename_i g
    split
    · refine ⟨by dsimp only; omega, by dsimp only; omega, by dsimp only; omega, fun j hj => ?_⟩
      have : j = 0 ∨ j = 1 := by dsimp only at hj; omega
      rcases this with rfl | rfl
      · exact z0 0 (by omega)
      · omega
    · exact ⟨by decide, by decide, by dsimp only; omega, z0⟩
  · split
    · rename_i g
      split
      · refine ⟨by dsimp only; omega, by dsimp only; omega, by dsimp only; omega, fun j hj => ?_⟩
        have : j = 0 ∨ j = 1 ∨ j = 2 := by dsimp only at hj; omega
        rcases this with rfl | rfl | rfl
        · exact z0 0 (by omega)
        · omega
        · omega
      · exact ⟨by decide, by decide, by dsimp only; omega, z0⟩
    · split
      · rename_i g
        split
        · refine ⟨by dsimp only; omega, by dsimp only; omega, by dsimp only; omega, fun j hj => ?_⟩
          have : j = 0 ∨ j = 1 ∨ j = 2 ∨ j = 3 := by dsimp only at hj; omega
          rcases this with rfl | rfl | rfl | rfl
          · exact z0 0 (by omega)
          · omega
          · omega
          · omega
        · exact ⟨by decide, by decide, by dsimp only; omega, z0⟩
      · exact ⟨by decide, by decide, by dsimp only; omega, z0⟩

/-! ### the parts of a list: byte by byte; q: within quotes, m: behind a mask -/
def split (q m : Bool) (cur : Bs) : Bs → List Bs
  | [] => [cur]
  | c :: s =>
    if m = true then split q false (cur ++ [c]) s
    else if q = true ∧ c = 92 then split q true (cur ++ [c]) s
    else if c = 34 then split (!q) false (cur ++ [c]) s
    else if c = 44 ∧ q = false then cur :: split false false [] s
    else split q false (cur ++ [c]) s
def fl (l : List Bs) : List Bs := (l.map trimL).filter fun x => !x.isEmpty
def listL (s : Bs) : List Bs := fl (split false false [] s)
theorem fl_cons (x : Bs) (l : List Bs) : fl (x :: l) = (if trimL x = [] then [] else [trimL x]) ++ fl l := by
  unfold fl
  rw [List.map_cons, List.filter_cons]
  cases h : trimL x with
  | nil => simp
  | cons a t => simp
/-- a byte that is no sign -/
theorem split_plain {q m : Bool} {cur s : Bs} {c : UInt8} (h : c ≠ 92 ∧ c ≠ 34 ∧ c ≠ 44) : split q m cur (c :: s) = split q false (cur ++ [c]) s := by
  rw [split]
  cases m
  · rw [if_neg (by decide), if_neg (fun g => h.1 g.2), if_neg h.2.1, if_neg (fun g => h.2.2 g.1)]
  · rw [if_pos rfl]
/-- so many bytes that are no signs -/
theorem split_hi (q : Bool) : ∀ (n : Nat) (s : Bs) (cur : Bs), n ≤ s.length → (∀ j, j < n → 128 ≤ (s.getD j 0).toNat) → split q false cur s = split q false (cur ++ s.take n) (s.drop n) := by
  intro n
  induction n with
  | zero => intro s cur _ _; simp
  | succ n ih =>
    intro s cur hn h
    cases s with
    | nil => simp at hn
    | cons c s =>
      have h0 := h 0 (by omega)
      simp only [List.getD_cons_zero] at h0
      have hc : c ≠ 92 ∧ c ≠ 34 ∧ c ≠ 44 := ⟨fun e => by subst e; exact absurd h0 (by decide), fun e => by subst e; exact absurd h0 (by decide), fun e => by subst e; exact absurd h0 (by decide)⟩
      rw [split_plain hc, ih s _ (by simpa using hn) (fun j hj => by have := h (j + 1) (by omega); simpa using this)]
      simp
theorem split_hi' (q m : Bool) {n : Nat} {s : Bs} {cur : Bs} (h1 : 1 ≤ n) (hn : n ≤ s.length) (h : ∀ j, j < n → 128 ≤ (s.getD j 0).toNat) : split q m cur s = split q false (cur ++ s.take n) (s.drop n) := by
  cases s with
  | nil => simp at hn; omega
  | cons c s =>
    obtain ⟨n, rfl⟩ : ∃ k, n = k + 1 := ⟨n - 1, by omega⟩
    have h0 := h 0 (by omega)
    simp only [List.getD_cons_zero] at h0
    have hc : c ≠ 92 ∧ c ≠ 34 ∧ c ≠ 44 := ⟨fun e => by subst e; exact absurd h0 (by decide), fun e => by subst e; exact absurd h0 (by decide), fun e => by subst e; exact absurd h0 (by decide)⟩
    rw [split_plain hc, split_hi q n s _ (by simpa using hn) (fun j hj => by have := h (j + 1) (by omega); simpa using this)]
    simp
theorem take_drop_step {s : Bs} {f p n : Nat} (hf : f ≤ p) (hn : p + n ≤ s.length) : (s.take p).drop f ++ (s.drop p).take n = (s.take (p + n)).drop f := by
  rw [List.take_add, List.drop_append_of_le_length (by simp; omega)]

/-- what is still to come of a list's elements -/
def restL (s : Bs) (q m : Bool) (f p : Nat) : List Bs := fl (split q m ((s.take p).drop f) (s.drop p))
theorem rest_end {s : Bs} {q m : Bool} {f : Nat} : restL s q m f s.length = if trimL (s.drop f) = [] then [] else [trimL (s.drop f)] := by
  unfold restL
  rw [List.drop_length, List.take_length]
  show fl [_] = _
  rw [fl_cons]
  simp [fl]
theorem cur_snoc {s : Bs} {f p : Nat} (hf : f ≤ p) (hp : p < s.length) : (s.take p).drop f ++ [s.getD p 0] = (s.take (p + 1)).drop f := by
  have := take_drop_step (s := s) (n := 1) hf (by omega)
  rw [← this, drop_cons hp]
  simp
theorem rest_step {s : Bs} {q m : Bool} {f p : Nat} (hf : f ≤ p) (hp : p < s.length) : restL s q m f p =
    if m = true then restL s q false f (p + 1)
    else if q = true ∧ s.getD p 0 = 92 then restL s q true f (p + 1)
    else if s.getD p 0 = 34 then restL s (!q) false f (p + 1)
    else if s.getD p 0 = 44 ∧ q = false then (if trimL ((s.take p).drop f) = [] then [] else [trimL ((s.take p).drop f)]) ++ restL s false false (p + 1) (p + 1)
    else restL s q false f (p + 1) := by
  unfold restL
  rw [drop_cons hp, split, cur_snoc hf hp]
  have e : (s.take (p + 1)).drop (p + 1) = [] := List.drop_eq_nil_of_le (by simp; omega)
  rw [e]
  split
  · rfl
  · split
    · rfl
    · split
      · rfl
      · split
        · rw [fl_cons]
        · rfl
theorem rest_hi {s : Bs} {q m : Bool} {f p : Nat} (hf : f ≤ p) (hp : p < s.length) (hh : 128 ≤ (s.getD p 0).toNat) : restL s q m f p = restL s q false f (p + uw s p) := by
  obtain ⟨h1, h2, h3, h4⟩ := rune_hi hp hh
  unfold restL
  rw [split_hi' q m h2 (n := uw s p) (by simp; omega) (fun j hj => by
    have := h4 j hj
    rw [List.getD_eq_getElem?_getD] at this ⊢
    rw [List.getElem?_drop]; exact this), take_drop_step hf h3, List.drop_drop]

/-- text.List -/
theorem m22_big (s : Bs) (hs : s.length < 2 ^ 60) (hN : (listL s).length < 2 ^ 40) : ∃ z, m22 s = some (z, listL s) := by
  have main : ∃ r, m22 s = some r ∧ r.2 = listL s := by
    unfold m22 l22_12
    refine iter_post (fun (x : Bool × Bool × Bs × Bool × List Bs × Int × Bs × Nat) => x.2.2.1 = s ∧ x.2.2.2.2.2.2.1 = s ∧ x.2.2.2.2.2.2.2 ≤ s.length ∧ ∃ f : Nat, x.2.2.2.2.2.1 = f ∧ f ≤ x.2.2.2.2.2.2.2 ∧ (x.2.1 = true → x.1 = true) ∧ x.2.2.2.2.1 ++ restL s x.1 x.2.1 f x.2.2.2.2.2.2.2 = listL s)
      (fun (x : Bool × Bool × Bs × Bool × List Bs × Int × Bs × Nat) => s.length - x.2.2.2.2.2.2.2) _ ?_ _ ⟨rfl, rfl, by dsimp only; omega, 0, rfl, by dsimp only; omega, by simp, by dsimp only; unfold restL listL; simp⟩
    rintro ⟨q, m, s', z, l, f', s2, p⟩ hI
    dsimp only at hI ⊢
    obtain ⟨rfl, rfl, hp, f, rfl, hf, hqm, hr⟩ := hI
    have hlen : l.length < 2 ^ 40 := by
      have := congrArg List.length hr
      rw [List.length_append] at this; omega
    unfold s22_12
    by_cases c : p < s2.length
    · left
      rw [if_pos (by simpa using c)]
      by_cases hh : 128 ≤ (s2.getD p 0).toNat
      · -- no sign
        obtain ⟨h1, h2, h3, h4⟩ := rune_hi c hh
        rw [rest_hi hf c hh] at hr
        have n34 : ((uc s2 p : Int) == 34) = false := by simp; omega
        have n44 : ((uc s2 p : Int) == 44) = false := by simp; omega
        have n92 : ((uc s2 p : Int) == 92) = false := by simp; omega
        refine ⟨(q, false, s2, z, l, f, s2, p + uw s2 p), ?_, ⟨rfl, rfl, by dsimp only; omega, f, rfl, by dsimp only; omega, by simp, hr⟩, by dsimp only; omega⟩
        unfold j22_29 j22_37
        cases m <;> cases q <;> simp [n34, n44, n92]
      · obtain ⟨h1, h2⟩ := rune_lo c (by omega)
        rw [h1, h2]
        rw [rest_step hf c] at hr
        have e34 : (((s2.getD p 0).toNat : Int) == 34) = decide (s2.getD p 0 = 34) := by
          have : ∀ c : UInt8, ((c.toNat : Int) == 34) = decide (c = 34) := byAll (by decide +kernel)
          exact this _
        have e44 : (((s2.getD p 0).toNat : Int) == 44) = decide (s2.getD p 0 = 44) := by
          have : ∀ c : UInt8, ((c.toNat : Int) == 44) = decide (c = 44) := byAll (by decide +kernel)
          exact this _
        have e92 : (((s2.getD p 0).toNat : Int) == 92) = decide (s2.getD p 0 = 92) := by
          have : ∀ c : UInt8, ((c.toNat : Int) == 92) = decide (c = 92) := byAll (by decide +kernel)
          exact this _
        unfold j22_29 j22_37
        rw [e34, e44, e92]
        generalize s2.getD p 0 = b at *
        cases m with
        | true =>
          rw [if_pos rfl] at hr
          exact ⟨(q, false, s2, z, l, f, s2, p + 1), by simp, ⟨rfl, rfl, by dsimp only; omega, f, rfl, by dsimp only; omega, by simp, hr⟩, by dsimp only; omega⟩
        | false =>
          rw [if_neg (by decide)] at hr
          cases q with
          | true =>
            by_cases b92 : b = 92
            · rw [if_pos ⟨rfl, b92⟩] at hr
              exact ⟨(true, true, s2, z, l, f, s2, p + 1), by simp [b92], ⟨rfl, rfl, by dsimp only; omega, f, rfl, by dsimp only; omega, by simp, hr⟩, by dsimp only; omega⟩
            · rw [if_neg (fun h => b92 h.2)] at hr
              by_cases b34 : b = 34
              · rw [if_pos b34] at hr
                exact ⟨(false, false, s2, z, l, f, s2, p + 1), by subst b34; simp, ⟨rfl, rfl, by dsimp only; omega, f, rfl, by dsimp only; omega, by simp, hr⟩, by dsimp only; omega⟩
              · rw [if_neg b34, if_neg (by simp)] at hr
                exact ⟨(true, false, s2, z, l, f, s2, p + 1), by by_cases b44 : b = 44 <;> simp [b92, b34, b44], ⟨rfl, rfl, by dsimp only; omega, f, rfl, by dsimp only; omega, by simp, hr⟩, by dsimp only; omega⟩
          | false =>
            rw [if_neg (by simp)] at hr
            by_cases b34 : b = 34
            · rw [if_pos b34] at hr
              exact ⟨(true, false, s2, z, l, f, s2, p + 1), by simp [b34], ⟨rfl, rfl, by dsimp only; omega, f, rfl, by dsimp only; omega, by simp, hr⟩, by dsimp only; omega⟩
            · rw [if_neg b34] at hr
              by_cases b44 : b = 44
              · rw [if_pos ⟨b44, rfl⟩, ← List.append_assoc] at hr
                obtain ⟨z', hm⟩ := m36_eq (s := s2) (a := f) (b := p) (by omega) hf (by omega) z l (by omega)
                refine ⟨(false, false, s2, z', (l ++ if trimL ((s2.take p).drop f) = [] then [] else [trimL ((s2.take p).drop f)]), ((p + 1 : Nat) : Int), s2, p + 1), ?_, ⟨rfl, rfl, by dsimp only; omega, p + 1, rfl, by dsimp only; omega, by simp, hr⟩, by dsimp only; omega⟩
                · have d34 : decide (b = 34) = false := by simp [b34]
                  have d44 : decide (b = 44) = true := by simp [b44]
                  simp only [d34, d44, Bool.false_eq_true, if_false, if_true, Bool.not_false, hm, Option.bind_some]
                  split <;> simp
              · rw [if_neg (fun h => b44 h.1)] at hr
                exact ⟨(false, false, s2, z, l, f, s2, p + 1), by simp [b34, b44], ⟨rfl, rfl, by dsimp only; omega, f, rfl, by dsimp only; omega, by simp, hr⟩, by dsimp only; omega⟩
    · right
      have e : p = s2.length := by omega
      subst e
      rw [rest_end] at hr
      obtain ⟨z', hm⟩ := m36_eq (s := s2) (a := f) (b := s2.length) (Nat.le_refl _) hf (by omega) z l (by omega)
      unfold j22_40
      rw [if_neg (by simp), hm]
      refine ⟨_, rfl, ?_⟩
      dsimp only
      rw [← hr, List.take_length]
      split <;> simp
  obtain ⟨⟨z, l⟩, h1, h2⟩ := main
  exact ⟨z, by rw [h1]; simp at h2; rw [h2]⟩
end Go.Ab
