/- Plain laws of the functions. -/
import Derived.Test.YtbdjemdhjanffaaDoorEv7
import Derived.Test.YtbdjemdhjanffaaDoorFMore4
set_option linter.all false
section
set_option linter.all false
namespace Go.Ab
open Go
theorem wu64m (x : Int) : wu64 x = x % 18446744073709551616 := by
  unfold wu64
  simp [IntKind.wrap, IntKind.min, IntKind.max, IntKind.bits, IntKind.signed] <;> omega
theorem iter_post {σ β : Type} {f : σ → Option (σ ⊕ β)} (I : σ → Prop) (μ : σ → Nat) (Q : β → Prop)
    (h : ∀ s, I s → (∃ t, f s = some (.inl t) ∧ I t ∧ μ t < μ s) ∨ (∃ r, f s = some (.inr r) ∧ Q r)) (s : σ) (hs : I s) : ∃ r, iter f s = some r ∧ Q r := by
  have key : ∀ n s, μ s < n → I s → ∃ r, iter f s = some r ∧ Q r := by
    intro n
    induction n with
    | zero => intro s h0; omega
    | succ n ih =>
      intro s hn hs
      rcases h s hs with ⟨t, ht, hI, hm⟩ | ⟨r, hr, hq⟩
      · rw [iter_l ht]; exact ih t (by omega) hI
      · exact ⟨r, iter_r hr, hq⟩
  exact key (μ s + 1) s (by omega) hs
theorem iter_to {σ β : Type} {f : σ → Option (σ ⊕ β)} (I : σ → Prop) (μ : σ → Nat) (X : Option β)
    (h : ∀ s, I s → (∃ t, f s = some (.inl t) ∧ I t ∧ μ t < μ s) ∨ f s = X.map .inr) (s : σ) (hs : I s) : iter f s = X := by
  have key : ∀ n s, μ s < n → I s → iter f s = X := by
    intro n
    induction n with
    | zero => intro s h0; omega
    | succ n ih =>
      intro s hn hs
      rcases h s hs with ⟨t, ht, hI, hm⟩ | hr
      · rw [iter_l ht]; exact ih t (by omega) hI
      · cases X with
        | none => exact iter_n hr
        | some r => exact iter_r hr
  exact key (μ s + 1) s (by omega) hs
end Go.Ab
end
section
set_option linter.all false
open Go Go.Ab Go.Proofs Go.Proofs.YtbdjemdhjanffaaDoor
namespace Go.Ab
theorem byAll {P : UInt8 → Prop} [DecidablePred P] (h : ((List.range 256).all fun n => decide (P (UInt8.ofNat n))) = true) (c : UInt8) : P c := by
  have := List.all_eq_true.1 h c.toNat (List.mem_range.2 c.toNat_lt)
  have e := of_decide_eq_true this
  have : UInt8.ofNat c.toNat = c := by simp
  rwa [this] at e
theorem drop_cons {l : Bs} {i : Nat} (h : i < l.length) : l.drop i = l.getD i 0 :: l.drop (i + 1) := by
  rw [List.drop_eq_getElem_cons h, List.getD_eq_getElem?_getD, List.getElem?_eq_getElem h, Option.getD_some]
theorem iter_g {σ β : Type} {f : σ → Option (σ ⊕ β)} (I : σ → Prop) (μ : σ → Nat) (g : σ → Option β)
    (h : ∀ s, I s → (∃ t, f s = some (.inl t) ∧ I t ∧ μ t < μ s ∧ g t = g s) ∨ f s = (g s).map .inr) (s : σ) (hs : I s) : iter f s = g s := by
  refine iter_to (fun t => I t ∧ g t = g s) μ (g s) ?_ s ⟨hs, rfl⟩
  rintro t ⟨ht, e⟩
  rcases h t ht with ⟨u, h1, h2, h3, h4⟩ | h1
  · exact .inl ⟨u, h1, ⟨h2, h4.trans e⟩, h3⟩
  · exact .inr (by rw [h1, e])
def signsL : Bs := [33, 35, 36, 37, 38, 39, 42, 43, 45, 46, 94, 95, 96, 124, 126]
def tokB (c : UInt8) : Bool := decide (97 ≤ c ∧ c ≤ 122) || decide (65 ≤ c ∧ c ≤ 90) || decide (48 ≤ c ∧ c ≤ 57) || signsL.contains c
def shB (c : UInt8) : Bool := c == 9 || (decide (32 ≤ c) && !(c == 127))
def lowB (c : UInt8) : UInt8 := if 65 ≤ c ∧ c ≤ 90 then c + 32 else c
def tokL (s : Bs) : Bool := !s.isEmpty && s.all tokB
def lowL (s : Bs) : Bs := s.map lowB
theorem m60_eq : ∀ c, m60 c = some (tokB c) := byAll (by decide +kernel)
theorem m62_eq : ∀ c, m62 c = some (shB c) := byAll (by decide +kernel)
theorem l79_eq (z : Bool) (s : Bs) (hs : s.length < 2 ^ 60) : ∃ r, m79 z s = some r ∧ decide (0 ≤ r) = s.any (fun c => !tokB c) := by
  unfold m79 l79_6
  refine iter_post (fun (x : Bool × List UInt8 × Int × Int) => x.2.1 = s ∧ x.2.2.1 = s.length ∧ 0 ≤ x.2.2.2 ∧ x.2.2.2 ≤ s.length ∧ (s.drop x.2.2.2.toNat).any (fun c => !tokB c) = s.any (fun c => !tokB c)) (fun (x : Bool × List UInt8 × Int × Int) => ((s.length : Int) - x.2.2.2).toNat) _ ?_ _ ⟨rfl, rfl, by dsimp only; omega, by dsimp only; omega, rfl⟩
  rintro ⟨z, s', n, i⟩ hI
  dsimp only at hI ⊢
  obtain ⟨rfl, rfl, h0, h1, h2⟩ := hI
  unfold s79_6 m71
  by_cases c : i < s'.length
  · have hd := drop_cons (l := s') (i := i.toNat) (by omega)
    rw [hd] at h2
    rw [if_pos (by simpa using c), if_pos ⟨h0, c⟩, show s'.getD i.toNat default = s'.getD i.toNat 0 from rfl, m60_eq]
    simp only [Option.bind_some]
    cases e : tokB (s'.getD i.toNat 0)
    · right
      refine ⟨i, by simp, ?_⟩
      rw [← h2, List.any_cons, e]
      simp [h0]
    · left
      rw [List.any_cons, e] at h2
      refine ⟨(z, s', s'.length, i + 1), by simp [w64_eq (i + 1) (by omega) (by omega)], ⟨rfl, rfl, by dsimp only; omega, by dsimp only; omega, ?_⟩, by dsimp only; omega⟩
      dsimp only
      rw [show (i + 1).toNat = i.toNat + 1 by omega, ← h2]
      simp
  · right
    refine ⟨-1, by rw [if_neg (by simpa using c)]; rfl, ?_⟩
    rw [← h2, List.drop_eq_nil_of_le (by omega)]
    rfl
theorem any_not (s : Bs) (p : UInt8 → Bool) : (!(s.any fun c => !p c)) = s.all p := by
  induction s with
  | nil => rfl
  | cons c s ih => simp [List.any_cons, List.all_cons, ← ih]
theorem m45_eq (s : Bs) (hs : s.length < 2 ^ 60) : m45 s = some (tokL s) := by
  unfold m45 m59 m70 tokL
  obtain ⟨r, h1, h2⟩ := l79_eq false s hs
  rw [h1]
  cases s with
  | nil => rfl
  | cons c s =>
    rw [if_neg (by simp)]
    simp only [Option.bind_some, h2, any_not]
    rfl
theorem low_add (c : UInt8) (h : 65 ≤ c ∧ c ≤ 90) : c + 97 - 65 = c + 32 := by
  have : ∀ c : UInt8, c + 97 - 65 = c + 32 := byAll (by decide +kernel)
  exact this c
theorem set_take {l : Bs} {i : Nat} (h : i < l.length) (x : UInt8) : (l.set i x).take (i + 1) = l.take i ++ [x] := by
  rw [List.take_succ_eq_append_getElem (by simpa using h), List.take_set, List.set_eq_of_length_le (by simp; omega)]
  simp
theorem m33_eq (s : Bs) (hs : s.length < 2 ^ 60) : m33 s = some (lowL s) := by
  unfold m33 l33_8
  refine (iter_g (fun (x : Nat × Nat × Int × Int × List UInt8) => x.1 = s.length ∧ x.2.1 = s.length ∧ x.2.2.1 = s.length ∧ 0 ≤ x.2.2.2.1 ∧ x.2.2.2.1 ≤ s.length ∧ x.2.2.2.2.length = s.length) (fun (x : Nat × Nat × Int × Int × List UInt8) => ((s.length : Int) - x.2.2.2.1).toNat) (fun (x : Nat × Nat × Int × Int × List UInt8) => some (x.2.2.2.2.take x.2.2.2.1.toNat ++ lowL (x.2.2.2.2.drop x.2.2.2.1.toNat))) ?_ (s.length, s.length, s.length, 0, s) ⟨rfl, rfl, rfl, by dsimp only; omega, by dsimp only; omega, rfl⟩).trans (by simp)
  rintro ⟨b, t, n, i, h⟩ hI
  dsimp only at hI ⊢
  obtain ⟨rfl, rfl, rfl, h0, h1, h2⟩ := hI
  unfold s33_8
  by_cases c : i < s.length
  · left
    have hd := drop_cons (l := h) (i := i.toNat) (by omega)
    have key : j33_21 s.length i (h.getD i.toNat 0) s.length s.length i (decide (65 ≤ h.getD i.toNat 0) && decide (h.getD i.toNat 0 ≤ 90)) h = some (.inl (s.length, s.length, s.length, i + 1, h.set i.toNat (lowB (h.getD i.toNat 0)))) := by
      unfold j33_21 j33_24 lowB
      rw [w64_eq (i + 1) (by omega) (by omega)]
      by_cases hc : 65 ≤ h.getD i.toNat 0 ∧ h.getD i.toNat 0 ≤ 90
      · rw [if_pos (by simpa using hc), if_pos ⟨h0, c⟩, if_pos (by omega), if_pos hc, low_add _ hc]
      · rw [if_neg (by simpa using hc), if_neg hc]
        have : h.set i.toNat (h.getD i.toNat 0) = h := by
          apply List.ext_getElem?
          intro j
          rw [List.getElem?_set]
          split
          · rename_i e; subst e
            rw [if_pos (by omega), List.getD_eq_getElem?_getD, List.getElem?_eq_getElem (by omega)]
            rfl
          · rfl
        rw [this]
    refine ⟨(s.length, s.length, s.length, i + 1, h.set i.toNat (lowB (h.getD i.toNat 0))), ?_, ⟨rfl, rfl, rfl, by dsimp only; omega, by dsimp only; omega, by simpa using h2⟩, by dsimp only; omega, ?_⟩
    · rw [if_pos (by simpa using c), if_pos ⟨h0, c⟩, if_pos (by omega)]
      by_cases a : 65 ≤ h.getD i.toNat 0
      · simp only [a, decide_true, if_true, Bool.true_and] at key ⊢
        exact key
      · simp only [a, decide_false, Bool.false_eq_true, if_false, Bool.false_and] at key ⊢
        exact key
    · dsimp only
      rw [show (i + 1).toNat = i.toNat + 1 by omega, set_take (by omega), hd, List.drop_set_of_lt (by omega)]
      simp [lowL]
  · right
    have e : i.toNat = h.length := by omega
    unfold j33_25
    rw [if_neg (by simpa using c), if_pos (by omega), e, List.take_length, List.drop_length, ← h2, List.take_length]
    simp [lowL]
end Go.Ab
end
section
set_option linter.all false
open Go Go.Ab Go.Proofs Go.Proofs.YtbdjemdhjanffaaDoor
namespace Go.Ab
def blB (c : UInt8) : Bool := c == 32 || c == 9
def trimL (s : Bs) : Bs := Lib.trimS s [32, 9]
theorem m35_eq (s : Bs) (hs : s.length < 2 ^ 60) : m35 s = some (trimL s) := by
  unfold m35 mTrim
  rw [if_pos ⟨by omega, by decide, by decide⟩]
  rfl
theorem con_bl : ∀ c : UInt8, ([32, 9] : Bs).contains c = blB c := byAll (by decide +kernel)
theorem trimL_cut {s : Bs} {a b : Nat} (hab : a < b) (hb : b ≤ s.length) (h1 : ∀ j, j < a → blB (s.getD j 0) = true) (h2 : blB (s.getD a 0) = false) (h3 : ∀ j, b ≤ j → j < s.length → blB (s.getD j 0) = true) (h4 : blB (s.getD (b - 1) 0) = false) :
    trimL s = (s.take b).drop a := by
  unfold trimL Lib.trimS
  have g : ∀ (j : Nat) x, s[j]? = some x → s.getD j 0 = x := fun j x h => by rw [List.getD_eq_getElem?_getD, h]; rfl
  rw [Lib.trimRightS_take s [32, 9] b hb (fun j x hj hx => by
    have hl := (List.getElem?_eq_some_iff.1 hx).1
    have := h3 j hj hl
    rw [g _ _ hx] at this
    rw [con_bl]; exact this) (fun x _ hx => by rw [con_bl, ← g _ _ hx]; exact h4)]
  rw [Lib.trimLeftS_drop (s.take b) [32, 9] a (by simp; omega) (fun j x hj hx => by
    rw [List.getElem?_take] at hx
    split at hx
    · have := h1 j hj
      rw [g _ _ hx] at this
      rw [con_bl]; exact this
    · cases hx) (fun x hx => by
    have hx' : s[a]? = some x := by rw [List.getElem?_take, if_pos hab] at hx; exact hx
    rw [con_bl, ← g _ _ hx']; exact h2)]
theorem trimL_nil {s : Bs} (h1 : ∀ j, j < s.length → blB (s.getD j 0) = true) : trimL s = [] := by
  unfold trimL Lib.trimS
  have g : ∀ (j : Nat) x, s[j]? = some x → s.getD j 0 = x := fun j x h => by rw [List.getD_eq_getElem?_getD, h]; rfl
  rw [Lib.trimRightS_take s [32, 9] 0 (by omega) (fun j x hj hx => by
    have hl := (List.getElem?_eq_some_iff.1 hx).1
    have := h1 j hl
    rw [g _ _ hx] at this
    rw [con_bl]; exact this) (fun x h _ => by omega)]
  rfl
theorem m34_eq {s : Bs} {a b : Nat} (hb : b ≤ s.length) (hab : a ≤ b) (hs : s.length < 2 ^ 60) (z : Bool) (l : List Bs) (hl : l.length < 2 ^ 40) :
    ∃ z', m34 b s a z l = some (s, (b : Int) + 1, z', if trimL ((s.take b).drop a) = [] then l else l ++ [trimL ((s.take b).drop a)]) := by
  unfold m34 j34_8
  rw [bnd_ok hb, Option.bind_some, bnd_ok hab, Option.bind_some, m35_eq _ (by simp; omega), Option.bind_some, w64_eq _ (by omega) (by omega)]
  by_cases c : trimL ((s.take b).drop a) = []
  · exact ⟨z, by rw [if_pos (by simpa using c), if_pos c]⟩
  · exact ⟨false, by rw [if_neg (by simpa using c), if_pos (by omega), if_neg c]⟩
theorem rune_lo {l : Bs} {p : Nat} (h : p < l.length) (hl : (l.getD p 0).toNat < 128) : uc l p = (l.getD p 0).toNat ∧ uw l p = 1 := by
  unfold uc uw
  rw [Lib.decode_at, S_get!]
  simp only [Lib.decodeN, hl, if_true, and_self]
theorem rune_hi {l : Bs} {p : Nat} (h : p < l.length) (hl : 128 ≤ (l.getD p 0).toNat) : 128 ≤ uc l p ∧ 1 ≤ uw l p ∧ p + uw l p ≤ l.length ∧ ∀ j, j < uw l p → 128 ≤ (l.getD (p + j) 0).toNat := by
  unfold uc uw
  rw [Lib.decode_at, S_get!, S_get!, S_get!, S_get!, S_size]
  have hn : ¬ (l.getD p 0).toNat < 128 := by omega
  generalize hb0 : (l.getD p 0).toNat = b0 at *
  generalize hb1 : (l.getD (p + 1) 0).toNat = b1 at *
  generalize hb2 : (l.getD (p + 2) 0).toNat = b2 at *
  generalize hb3 : (l.getD (p + 3) 0).toNat = b3 at *
  have z0 : ∀ j, j < 1 → 128 ≤ (l.getD (p + j) 0).toNat := fun j hj => by
    have : j = 0 := by omega
    subst this; simp only [Nat.add_zero]; omega
  unfold Lib.decodeN
  rw [if_neg hn]
  split
  · rename_i g
    split
    · refine ⟨by dsimp only; omega, by dsimp only; omega, by dsimp only; omega, fun j hj => ?_⟩
      have : j = 0 ∨ j = 1 := by dsimp only at hj; omega
      rcases this with rfl | rfl
      · exact z0 0 (by omega)
      · omega
    · exact ⟨by decide, by decide, by dsimp only; omega, z0⟩
  · split
    · rename_i g
      split
      · refine ⟨by dsimp only; omega, by dsimp only; omega, by dsimp only; omega, fun j hj => ?_⟩
        have : j = 0 ∨ j = 1 ∨ j = 2 := by dsimp only at hj; omega
        rcases this with rfl | rfl | rfl
        · exact z0 0 (by omega)
        · omega
        · omega
      · exact ⟨by decide, by decide, by dsimp only; omega, z0⟩
    · split
      · rename_i g
        split
        · refine ⟨by dsimp only; omega, by dsimp only; omega, by dsimp only; omega, fun j hj => ?_⟩
          have : j = 0 ∨ j = 1 ∨ j = 2 ∨ j = 3 := by dsimp only at hj; omega
          rcases this with rfl | rfl | rfl | rfl
          · exact z0 0 (by omega)
          · omega
          · omega
          · omega
        · exact ⟨by decide, by decide, by dsimp only; omega, z0⟩
      · exact ⟨by decide, by decide, by dsimp only; omega, z0⟩
def split (q m : Bool) (cur : Bs) : Bs → List Bs
  | [] => [cur]
  | c :: s =>
    if m = true then split q false (cur ++ [c]) s
    else if q = true ∧ c = 92 then split q true (cur ++ [c]) s
    else if c = 34 then split (!q) false (cur ++ [c]) s
    else if c = 44 ∧ q = false then cur :: split false false [] s
    else split q false (cur ++ [c]) s
def fl (l : List Bs) : List Bs := (l.map trimL).filter fun x => !x.isEmpty
def listL (s : Bs) : List Bs := fl (split false false [] s)
theorem fl_cons (x : Bs) (l : List Bs) : fl (x :: l) = (if trimL x = [] then [] else [trimL x]) ++ fl l := by
  unfold fl
  rw [List.map_cons, List.filter_cons]
  cases h : trimL x with
  | nil => simp
  | cons a t => simp
theorem split_plain {q m : Bool} {cur s : Bs} {c : UInt8} (h : c ≠ 92 ∧ c ≠ 34 ∧ c ≠ 44) : split q m cur (c :: s) = split q false (cur ++ [c]) s := by
  rw [split]
  cases m
  · rw [if_neg (by decide), if_neg (fun g => h.1 g.2), if_neg h.2.1, if_neg (fun g => h.2.2 g.1)]
  · rw [if_pos rfl]
theorem split_hi (q : Bool) : ∀ (n : Nat) (s : Bs) (cur : Bs), n ≤ s.length → (∀ j, j < n → 128 ≤ (s.getD j 0).toNat) → split q false cur s = split q false (cur ++ s.take n) (s.drop n) := by
  intro n
  induction n with
  | zero => intro s cur _ _; simp
  | succ n ih =>
    intro s cur hn h
    cases s with
    | nil => simp at hn
    | cons c s =>
      have h0 := h 0 (by omega)
      simp only [List.getD_cons_zero] at h0
      have hc : c ≠ 92 ∧ c ≠ 34 ∧ c ≠ 44 := ⟨fun e => by subst e; exact absurd h0 (by decide), fun e => by subst e; exact absurd h0 (by decide), fun e => by subst e; exact absurd h0 (by decide)⟩
      rw [split_plain hc, ih s _ (by simpa using hn) (fun j hj => by have := h (j + 1) (by omega); simpa using this)]
      simp
theorem split_hi' (q m : Bool) {n : Nat} {s : Bs} {cur : Bs} (h1 : 1 ≤ n) (hn : n ≤ s.length) (h : ∀ j, j < n → 128 ≤ (s.getD j 0).toNat) : split q m cur s = split q false (cur ++ s.take n) (s.drop n) := by
  cases s with
  | nil => simp at hn; omega
  | cons c s =>
    obtain ⟨n, rfl⟩ : ∃ k, n = k + 1 := ⟨n - 1, by omega⟩
    have h0 := h 0 (by omega)
    simp only [List.getD_cons_zero] at h0
    have hc : c ≠ 92 ∧ c ≠ 34 ∧ c ≠ 44 := ⟨fun e => by subst e; exact absurd h0 (by decide), fun e => by subst e; exact absurd h0 (by decide), fun e => by subst e; exact absurd h0 (by decide)⟩
    rw [split_plain hc, split_hi q n s _ (by simpa using hn) (fun j hj => by have := h (j + 1) (by omega); simpa using this)]
    simp
theorem take_drop_step {s : Bs} {f p n : Nat} (hf : f ≤ p) (hn : p + n ≤ s.length) : (s.take p).drop f ++ (s.drop p).take n = (s.take (p + n)).drop f := by
  rw [List.take_add, List.drop_append_of_le_length (by simp; omega)]
def restL (s : Bs) (q m : Bool) (f p : Nat) : List Bs := fl (split q m ((s.take p).drop f) (s.drop p))
theorem rest_end {s : Bs} {q m : Bool} {f : Nat} : restL s q m f s.length = if trimL (s.drop f) = [] then [] else [trimL (s.drop f)] := by
  unfold restL
  rw [List.drop_length, List.take_length]
  show fl [_] = _
  rw [fl_cons]
  simp [fl]
theorem cur_snoc {s : Bs} {f p : Nat} (hf : f ≤ p) (hp : p < s.length) : (s.take p).drop f ++ [s.getD p 0] = (s.take (p + 1)).drop f := by
  have := take_drop_step (s := s) (n := 1) hf (by omega)
  rw [← this, drop_cons hp]
  simp
theorem rest_step {s : Bs} {q m : Bool} {f p : Nat} (hf : f ≤ p) (hp : p < s.length) : restL s q m f p =
    if m = true then restL s q false f (p + 1)
    else if q = true ∧ s.getD p 0 = 92 then restL s q true f (p + 1)
    else if s.getD p 0 = 34 then restL s (!q) false f (p + 1)
    else if s.getD p 0 = 44 ∧ q = false then (if trimL ((s.take p).drop f) = [] then [] else [trimL ((s.take p).drop f)]) ++ restL s false false (p + 1) (p + 1)
    else restL s q false f (p + 1) := by
  unfold restL
  rw [drop_cons hp, split, cur_snoc hf hp]
  have e : (s.take (p + 1)).drop (p + 1) = [] := List.drop_eq_nil_of_le (by simp; omega)
  rw [e]
  split
  · rfl
  · split
    · rfl
    · split
      · rfl
      · split
        · rw [fl_cons]
        · rfl
theorem rest_hi {s : Bs} {q m : Bool} {f p : Nat} (hf : f ≤ p) (hp : p < s.length) (hh : 128 ≤ (s.getD p 0).toNat) : restL s q m f p = restL s q false f (p + uw s p) := by
  obtain ⟨h1, h2, h3, h4⟩ := rune_hi hp hh
  unfold restL
  rw [split_hi' q m h2 (n := uw s p) (by simp; omega) (fun j hj => by
    have := h4 j hj
    rw [List.getD_eq_getElem?_getD] at this ⊢
    rw [List.getElem?_drop]; exact this), take_drop_step hf h3, List.drop_drop]
theorem m16_big (s : Bs) (hs : s.length < 2 ^ 60) (hN : (listL s).length < 2 ^ 40) : ∃ z, m16 s = some (z, listL s) := by
  have main : ∃ r, m16 s = some r ∧ r.2 = listL s := by
    unfold m16 l16_12
    refine iter_post (fun (x : Bool × Bool × Bs × Bool × List Bs × Int × Bs × Nat) => x.2.2.1 = s ∧ x.2.2.2.2.2.2.1 = s ∧ x.2.2.2.2.2.2.2 ≤ s.length ∧ ∃ f : Nat, x.2.2.2.2.2.1 = f ∧ f ≤ x.2.2.2.2.2.2.2 ∧ (x.2.1 = true → x.1 = true) ∧ x.2.2.2.2.1 ++ restL s x.1 x.2.1 f x.2.2.2.2.2.2.2 = listL s)
      (fun (x : Bool × Bool × Bs × Bool × List Bs × Int × Bs × Nat) => s.length - x.2.2.2.2.2.2.2) _ ?_ _ ⟨rfl, rfl, by dsimp only; omega, 0, rfl, by dsimp only; omega, by simp, by dsimp only; unfold restL listL; simp⟩
    rintro ⟨q, m, s', z, l, f', s2, p⟩ hI
    dsimp only at hI ⊢
    obtain ⟨rfl, rfl, hp, f, rfl, hf, hqm, hr⟩ := hI
    have hlen : l.length < 2 ^ 40 := by
      have := congrArg List.length hr
      rw [List.length_append] at this; omega
    unfold s16_12
    by_cases c : p < s2.length
    · left
      rw [if_pos (by simpa using c)]
      by_cases hh : 128 ≤ (s2.getD p 0).toNat
      · -- no sign
        obtain ⟨h1, h2, h3, h4⟩ := rune_hi c hh
        rw [rest_hi hf c hh] at hr
        have n34 : ((uc s2 p : Int) == 34) = false := by simp; omega
        have n44 : ((uc s2 p : Int) == 44) = false := by simp; omega
        have n92 : ((uc s2 p : Int) == 92) = false := by simp; omega
        refine ⟨(q, false, s2, z, l, f, s2, p + uw s2 p), ?_, ⟨rfl, rfl, by dsimp only; omega, f, rfl, by dsimp only; omega, by simp, hr⟩, by dsimp only; omega⟩
        unfold j16_29 j16_37
        cases m <;> cases q <;> simp [n34, n44, n92]
      · obtain ⟨h1, h2⟩ := rune_lo c (by omega)
        rw [h1, h2]
        rw [rest_step hf c] at hr
        have e34 : (((s2.getD p 0).toNat : Int) == 34) = decide (s2.getD p 0 = 34) := by
          have : ∀ c : UInt8, ((c.toNat : Int) == 34) = decide (c = 34) := byAll (by decide +kernel)
          exact this _
        have e44 : (((s2.getD p 0).toNat : Int) == 44) = decide (s2.getD p 0 = 44) := by
          have : ∀ c : UInt8, ((c.toNat : Int) == 44) = decide (c = 44) := byAll (by decide +kernel)
          exact this _
        have e92 : (((s2.getD p 0).toNat : Int) == 92) = decide (s2.getD p 0 = 92) := by
          have : ∀ c : UInt8, ((c.toNat : Int) == 92) = decide (c = 92) := byAll (by decide +kernel)
          exact this _
        unfold j16_29 j16_37
        rw [e34, e44, e92]
        generalize s2.getD p 0 = b at *
        cases m with
        | true =>
          rw [if_pos rfl] at hr
          exact ⟨(q, false, s2, z, l, f, s2, p + 1), by simp, ⟨rfl, rfl, by dsimp only; omega, f, rfl, by dsimp only; omega, by simp, hr⟩, by dsimp only; omega⟩
        | false =>
          rw [if_neg (by decide)] at hr
          cases q with
          | true =>
            by_cases b92 : b = 92
            · rw [if_pos ⟨rfl, b92⟩] at hr
              exact ⟨(true, true, s2, z, l, f, s2, p + 1), by simp [b92], ⟨rfl, rfl, by dsimp only; omega, f, rfl, by dsimp only; omega, by simp, hr⟩, by dsimp only; omega⟩
            · rw [if_neg (fun h => b92 h.2)] at hr
              by_cases b34 : b = 34
              · rw [if_pos b34] at hr
                exact ⟨(false, false, s2, z, l, f, s2, p + 1), by subst b34; simp, ⟨rfl, rfl, by dsimp only; omega, f, rfl, by dsimp only; omega, by simp, hr⟩, by dsimp only; omega⟩
              · rw [if_neg b34, if_neg (by simp)] at hr
                exact ⟨(true, false, s2, z, l, f, s2, p + 1), by by_cases b44 : b = 44 <;> simp [b92, b34, b44], ⟨rfl, rfl, by dsimp only; omega, f, rfl, by dsimp only; omega, by simp, hr⟩, by dsimp only; omega⟩
          | false =>
            rw [if_neg (by simp)] at hr
            by_cases b34 : b = 34
            · rw [if_pos b34] at hr
              exact ⟨(true, false, s2, z, l, f, s2, p + 1), by simp [b34], ⟨rfl, rfl, by dsimp only; omega, f, rfl, by dsimp only; omega, by simp, hr⟩, by dsimp only; omega⟩
            · rw [if_neg b34] at hr
              by_cases b44 : b = 44
              · rw [if_pos ⟨b44, rfl⟩, ← List.append_assoc] at hr
                obtain ⟨z', hm⟩ := m34_eq (s := s2) (a := f) (b := p) (by omega) hf (by omega) z l (by omega)
                refine ⟨(false, false, s2, z', (l ++ if trimL ((s2.take p).drop f) = [] then [] else [trimL ((s2.take p).drop f)]), ((p + 1 : Nat) : Int), s2, p + 1), ?_, ⟨rfl, rfl, by dsimp only; omega, p + 1, rfl, by dsimp only; omega, by simp, hr⟩, by dsimp only; omega⟩
                · have d34 : decide (b = 34) = false := by simp [b34]
                  have d44 : decide (b = 44) = true := by simp [b44]
                  simp only [d34, d44, Bool.false_eq_true, if_false, if_true, Bool.not_false, hm, Option.bind_some]
                  split <;> simp
              · rw [if_neg (fun h => b44 h.1)] at hr
                exact ⟨(false, false, s2, z, l, f, s2, p + 1), by simp [b34, b44], ⟨rfl, rfl, by dsimp only; omega, f, rfl, by dsimp only; omega, by simp, hr⟩, by dsimp only; omega⟩
    · right
      have e : p = s2.length := by omega
      subst e
      rw [rest_end] at hr
      obtain ⟨z', hm⟩ := m34_eq (s := s2) (a := f) (b := s2.length) (Nat.le_refl _) hf (by omega) z l (by omega)
      unfold j16_40
      rw [if_neg (by simp), hm]
      refine ⟨_, rfl, ?_⟩
      dsimp only
      rw [← hr, List.take_length]
      split <;> simp
  obtain ⟨⟨z, l⟩, h1, h2⟩ := main
  exact ⟨z, by rw [h1]; simp at h2; rw [h2]⟩
end Go.Ab
end
section
set_option linter.all false
open Go Go.Ab Go.Proofs Go.Proofs.YtbdjemdhjanffaaDoor
namespace Go.Ab
theorem fl_len (l : List Bs) : (fl l).length ≤ l.length := by
  unfold fl
  exact Nat.le_trans (List.length_filter_le ..) (by simp)
theorem split_len : ∀ (s : Bs) (q m : Bool) (cur : Bs), (split q m cur s).length ≤ s.length + 1 := by
  intro s
  induction s with
  | nil => intro q m cur; simp [split]
  | cons c s ih =>
    intro q m cur
    rw [split]
    have := ih
    repeat' split
    all_goals first | exact Nat.le_trans (ih _ _ _) (by simp) | (rw [List.length_cons]; have := ih false false []; simp; omega)
theorem m16_eq (s : Bs) (hs : s.length < 2 ^ 30) : ∃ z, m16 s = some (z, listL s) := m16_big s (by omega) (by
  have := fl_len (split false false [] s)
  have := split_len s false false []
  unfold listL; omega)
end Go.Ab
end
section
set_option linter.all false
open Go Go.Ab Go.Proofs Go.Proofs.YtbdjemdhjanffaaDoor
namespace Go.Ab
def uq : Bs → Option Bs
  | [] => none
  | [c] => if c = 34 then some [] else none
  | c :: d :: t => if c = 34 then none else if c = 92 then (if shB d = true then (uq t).map (d :: ·) else none) else if shB c = true then (uq (d :: t)).map (c :: ·) else none
def pq : Bs → Option Bs
  | [] => some []
  | [c] => if c = 34 ∨ c = 92 then none else if shB c = true then some [c] else none
  | c :: d :: t => if c = 34 then none else if c = 92 then (if shB d = true then (pq t).map (d :: ·) else none) else if shB c = true then (pq (d :: t)).map (c :: ·) else none
def unqL : Bs → Option Bs
  | c :: t => if c = 34 then uq t else none
  | [] => none
theorem unqL_cons (c : UInt8) (t : Bs) : unqL (c :: t) = if c = 34 then uq t else none := rfl
theorem pq_34 (s : Bs) : pq (34 :: s) = none := by cases s <;> simp [pq]
theorem pq_92n : pq [92] = none := by simp [pq]
theorem pq_92 (d : UInt8) (t : Bs) : pq (92 :: d :: t) = if shB d = true then (pq t).map (d :: ·) else none := by
  rw [pq, if_neg (by decide), if_pos rfl]
theorem pq_c {c : UInt8} (h1 : c ≠ 34) (h2 : c ≠ 92) (s : Bs) : pq (c :: s) = if shB c = true then (pq s).map (c :: ·) else none := by
  cases s with
  | nil => simp [pq, h1, h2]
  | cons d t => rw [pq, if_neg h1, if_neg h2]
theorem uq_92 (d : UInt8) (t : Bs) : uq (92 :: d :: t) = if shB d = true then (uq t).map (d :: ·) else none := by
  rw [uq, if_neg (by decide), if_pos rfl]
theorem uq_c {c : UInt8} (h1 : c ≠ 34) (h2 : c ≠ 92) (s : Bs) : uq (c :: s) = if shB c = true then (uq s).map (c :: ·) else none := by
  cases s with
  | nil => simp [uq, h1]
  | cons d t => rw [uq, if_neg h1, if_neg h2]
theorem uq_34 (s : Bs) : uq (34 :: s) = if s = [] then some [] else none := by
  cases s with
  | nil => simp [uq]
  | cons d t => rw [uq, if_pos rfl, if_neg (by simp)]
theorem uq_92n : uq [92] = none := by simp [uq]
theorem uq_snoc : ∀ (n : Nat) (a : Bs), a.length ≤ n → uq (a ++ [34]) = pq a := by
  intro n
  induction n with
  | zero => intro a ha; have : a = [] := by cases a; rfl; simp at ha
            subst this; rfl
  | succ n ih =>
    intro a ha
    cases a with
    | nil => rfl
    | cons c s =>
      simp only [List.length_cons] at ha
      by_cases h1 : c = 34
      · subst h1
        rw [pq_34]
        show uq (34 :: (s ++ [34])) = none
        rw [uq_34, if_neg (by simp)]
      · by_cases h2 : c = 92
        · subst h2
          cases s with
          | nil => rfl
          | cons d t =>
            show uq (92 :: d :: (t ++ [34])) = _
            rw [uq_92, pq_92, ih t (by simp at ha; omega)]
        · show uq (c :: (s ++ [34])) = _
          rw [uq_c h1 h2, pq_c h1 h2, ih s (by omega)]
theorem uq_last : ∀ (n : Nat) (a r : Bs), a.length ≤ n → uq a = some r → ∃ b, a = b ++ [34] := by
  intro n
  induction n with
  | zero => intro a r ha h; have : a = [] := by cases a; rfl; simp at ha
            subst this; cases h
  | succ n ih =>
    intro a r ha h
    cases a with
    | nil => cases h
    | cons c s =>
      simp only [List.length_cons] at ha
      by_cases h1 : c = 34
      · subst h1
        rw [uq_34] at h
        split at h
        · rename_i e; subst e; exact ⟨[], rfl⟩
        · cases h
      · by_cases h2 : c = 92
        · subst h2
          cases s with
          | nil => rw [uq_92n] at h; cases h
          | cons d t =>
            rw [uq_92] at h
            split at h
            · simp only [Option.map_eq_some_iff] at h
              obtain ⟨r', h, _⟩ := h
              obtain ⟨b, rfl⟩ := ih t r' (by simp at ha; omega) h
              exact ⟨92 :: d :: b, rfl⟩
            · cases h
        · rw [uq_c h1 h2] at h
          split at h
          · simp only [Option.map_eq_some_iff] at h
            obtain ⟨r', h, _⟩ := h
            obtain ⟨b, rfl⟩ := ih s r' (by omega) h
            exact ⟨c :: b, rfl⟩
          · cases h
def unR (o : Option Bs) : Bs × Bool := match o with | some x => (x, true) | none => ([], false)
theorem l46_eq (inn : Bs) (hs : inn.length < 2 ^ 30) : l46_18 true [] inn 0 = some (unR (pq inn)) := by
  unfold l46_18
  refine (iter_g (fun (x : Bool × List UInt8 × Bs × Int) => x.2.2.1 = inn ∧ 0 ≤ x.2.2.2 ∧ x.2.2.2 ≤ inn.length ∧ x.2.1.length ≤ x.2.2.2.toNat) (fun (x : Bool × List UInt8 × Bs × Int) => ((inn.length : Int) - x.2.2.2).toNat) (fun (x : Bool × List UInt8 × Bs × Int) => some (unR ((pq (inn.drop x.2.2.2.toNat)).map (x.2.1 ++ ·)))) ?_ (true, [], inn, 0) ⟨rfl, by dsimp only; omega, by dsimp only; omega, by simp⟩).trans (by simp)
  rintro ⟨z, b, s, i⟩ hI
  dsimp only at hI ⊢
  obtain ⟨rfl, h0, h1, h2⟩ := hI
  unfold s46_18
  by_cases c : i < s.length
  · have hd := drop_cons (l := s) (i := i.toNat) (by omega)
    rw [if_pos (by simpa using c), if_pos ⟨h0, c⟩, hd]
    have take : ∀ (k : Int) (R : Option Bs), i ≤ k → k < s.length → R = (if shB (s.getD k.toNat 0) = true then (pq (s.drop (k.toNat + 1))).map (s.getD k.toNat 0 :: ·) else none) →
        (∃ t, j46_48 z b s k = some (.inl t) ∧ (t.2.2.1 = s ∧ 0 ≤ t.2.2.2 ∧ t.2.2.2 ≤ s.length ∧ t.2.1.length ≤ t.2.2.2.toNat) ∧ ((s.length : Int) - t.2.2.2).toNat < ((s.length : Int) - i).toNat ∧ some (unR ((pq (s.drop t.2.2.2.toNat)).map (t.2.1 ++ ·))) = some (unR (R.map (b ++ ·)))) ∨
          j46_48 z b s k = (some (unR (R.map (b ++ ·)))).map .inr := by
      intro k R hk hk2 hR
      unfold j46_48
      rw [if_pos ⟨by omega, hk2⟩, m62_eq, Option.bind_some, hR]
      cases e : shB (s.getD k.toNat 0)
      · right; rfl
      · left
        refine ⟨(false, b ++ [s.getD k.toNat 0], s, k + 1), ?_, ⟨rfl, by dsimp only; omega, by dsimp only; omega, by simp; omega⟩, by dsimp only; omega, ?_⟩
        · simp only [if_true]
          rw [if_pos (by omega), w64_eq (k + 1) (by omega) (by omega)]
        · dsimp only
          rw [show (k + 1).toNat = k.toNat + 1 by omega, if_pos rfl]
          cases pq (s.drop (k.toNat + 1)) <;> simp [unR]
    by_cases b34 : s.getD i.toNat 0 = 34
    · right
      rw [if_pos (by simp [b34, -List.getD_eq_getElem?_getD]), b34, pq_34]
      rfl
    · rw [if_neg (by simp [b34, -List.getD_eq_getElem?_getD])]
      by_cases b92 : s.getD i.toNat 0 = 92
      · rw [if_pos (by simp [b92, -List.getD_eq_getElem?_getD]), b92, w64_eq (i + 1) (by omega) (by omega)]
        by_cases e : i + 1 = s.length
        · right
          rw [if_pos (by simpa using e), List.drop_eq_nil_of_le (by omega), pq_92n]
          rfl
        · rw [if_neg (by simpa using e)]
          refine take (i + 1) _ (by omega) (by omega) ?_
          rw [drop_cons (l := s) (i := i.toNat + 1) (by omega), pq_92, show (i + 1).toNat = i.toNat + 1 by omega]
      · rw [if_neg (by simp [b92, -List.getD_eq_getElem?_getD])]
        exact take i _ (Int.le_refl _) c (pq_c b34 b92 _)
  · right
    unfold j46_58
    rw [if_neg (by simpa using c), List.drop_eq_nil_of_le (by omega)]
    simp [pq, unR]
theorem m46_eq (s : Bs) (hs : s.length < 2 ^ 30) : m46 s = some (unR (unqL s)) := by
  unfold m46
  have hf : j46_5 s true = some ([], false) := rfl
  cases s with
  | nil => rfl
  | cons c t =>
    by_cases h2 : t = []
    · subst h2
      rw [if_pos (by simp), hf]
      rw [unqL_cons]
      split <;> simp [uq, unR]
    · have hl : 0 < t.length := by cases t; exact absurd rfl h2; simp
      rw [if_neg (by simp <;> omega), if_pos (by simp <;> omega)]
      have e0 : (c :: t).getD 0 0 = c := rfl
      rw [e0, hf]
      by_cases h34 : c = 34
      · subst h34
        rw [if_pos (by simp), w64_eq _ (by simp <;> omega) (by simp at hs ⊢ <;> omega), if_pos ⟨by simp <;> omega, by simp <;> omega⟩]
        have ed : ((34 :: t).getD (((34 :: t).length : Int) - 1).toNat 0) = t.getLast h2 := by
          have : (((34 :: t).length : Int) - 1).toNat = t.length := by simp
          rw [this]
          obtain ⟨n, hn⟩ : ∃ n, t.length = n + 1 := ⟨t.length - 1, by omega⟩
          rw [hn, List.getD_cons_succ, List.getLast_eq_getElem, List.getD_eq_getElem?_getD, List.getElem?_eq_getElem (by omega), Option.getD_some]
          congr 1
          omega
        rw [ed]
        rw [unqL_cons, if_pos rfl]
        unfold j46_5
        have ht := List.dropLast_concat_getLast h2
        by_cases hl34 : t.getLast h2 = 34
        · rw [if_neg (by simp [hl34]), w64_eq _ (by simp <;> omega) (by simp at hs ⊢ <;> omega)]
          have e1 : bnd (((34 :: t).length : Int) - 1) (34 :: t).length = some t.length := by
            have h3 : (((34 :: t).length : Int) - 1) = (t.length : Int) := by simp
            rw [h3]; exact bnd_ok (by simp)
          have e2 : bnd 1 t.length = some 1 := by unfold bnd; rw [if_pos ⟨by omega, by omega⟩]; rfl
          rw [e1, Option.bind_some, e2, Option.bind_some]
          have e3 : ((34 :: t).take t.length).drop 1 = t.dropLast := by
            obtain ⟨n, hn⟩ : ∃ n, t.length = n + 1 := ⟨t.length - 1, by omega⟩
            rw [hn, List.take_succ_cons, List.dropLast_eq_take, hn]
            rfl
          rw [e3, l46_eq _ (by simp at hs ⊢ <;> omega)]
          rw [hl34] at ht
          rw [← uq_snoc _ _ (Nat.le_refl _), ht]
        · rw [if_pos (by simp [hl34])]
          have : uq t = none := by
            cases hu : uq t with
            | none => rfl
            | some r =>
              obtain ⟨b, hb⟩ := uq_last _ _ _ (Nat.le_refl _) hu
              exact absurd (by subst hb; simp) hl34
          rw [this]
          rfl
      · rw [if_neg (by simp [h34])]
        rw [unqL_cons, if_neg h34]
        rfl
def nameN (s : Bs) : Nat := (s.takeWhile fun c => !(c == 61)).length
theorem nameN_le (s : Bs) : nameN s ≤ s.length := by
  unfold nameN
  exact (List.takeWhile_prefix _).length_le
theorem nameN_cons (c : UInt8) (s : Bs) : nameN (c :: s) = if c = 61 then 0 else nameN s + 1 := by
  unfold nameN
  rw [List.takeWhile_cons]
  by_cases h : c = 61 <;> simp [h]
theorem nameN_lt : ∀ (s : Bs) (j : Nat), j < nameN s → s.getD j 0 ≠ 61 := by
  intro s
  induction s with
  | nil => intro j h; simp [nameN] at h
  | cons c s ih =>
    intro j h
    rw [nameN_cons] at h
    by_cases e : c = 61
    · rw [if_pos e] at h; omega
    · rw [if_neg e] at h
      cases j with
      | zero => exact e
      | succ j => rw [List.getD_cons_succ]; exact ih j (by omega)
theorem nameN_at : ∀ (s : Bs), nameN s < s.length → s.getD (nameN s) 0 = 61 := by
  intro s
  induction s with
  | nil => intro h; simp at h
  | cons c s ih =>
    intro h
    rw [nameN_cons] at h ⊢
    by_cases e : c = 61
    · rw [if_pos e]; exact e
    · rw [if_neg e] at h ⊢
      rw [List.getD_cons_succ]
      exact ih (by simpa using h)
def pairL (s : Bs) : Option (Bs × Bs) :=
  if tokL (s.take (nameN s)) = true then
    if nameN s = s.length then some (lowL (s.take (nameN s)), [])
    else if tokL (s.drop (nameN s + 1)) = true then some (lowL (s.take (nameN s)), s.drop (nameN s + 1))
    else (unqL (s.drop (nameN s + 1))).map fun v => (lowL (s.take (nameN s)), v)
  else none
def paR (o : Option (Bs × Bs)) : Bs × Bs × Bool := match o with | some x => (x.1, x.2, true) | none => ([], [], false)
theorem occ1 (s : Bs) (j : Nat) : Lib.occAt s [61] j = (decide (j < s.length) && (s.getD j 0 == 61)) := by
  unfold Lib.occAt
  by_cases h : j < s.length
  · rw [drop_cons h]
    simp [List.isPrefixOf, h, -List.getD_eq_getElem?_getD, Bool.beq_comm]
  · rw [List.drop_eq_nil_of_le (by omega)]
    simp [List.isPrefixOf, h]
theorem index1 (s : Bs) : Lib.index s [61] = if nameN s < s.length then (nameN s : Int) else -1 := by
  by_cases h : nameN s < s.length
  · rw [if_pos h]
    refine Lib.index_first (by omega) ?_ ?_
    · rw [occ1, nameN_at s h]; simp [h]
    · intro j hj
      have := nameN_lt s j hj
      rw [occ1]
      have e : (s.getD j 0 == 61) = false := by simpa [-List.getD_eq_getElem?_getD] using this
      rw [e, Bool.and_false]
  · rw [if_neg h]
    refine Lib.index_none ?_
    intro j hj
    rw [occ1]
    by_cases hj2 : j < s.length
    · have := nameN_lt s j (by omega)
      have e : (s.getD j 0 == 61) = false := by simpa [-List.getD_eq_getElem?_getD] using this
      rw [e, Bool.and_false]
    · simp [hj2]
theorem m44_eq (s : Bs) (hs : s.length < 2 ^ 30) : m44 s [61] = some (if nameN s < s.length then (s.take (nameN s), s.drop (nameN s + 1), true) else (s, [], false)) := by
  unfold m44 m58 mIx
  rw [if_pos (by omega), Option.bind_some, index1]
  by_cases h : nameN s < s.length
  · rw [if_pos h, if_pos (by simp), bnd_ok (by omega), Option.bind_some, w64_eq _ (by simp; omega) (by simp; omega), if_pos h]
    have : bnd ((nameN s : Int) + (([61] : Bs).length : Int)) s.length = some (nameN s + 1) := by
      unfold bnd
      rw [if_pos ⟨by simp; omega, by simp; omega⟩]
      congr 1
    rw [this]
    rfl
  · rw [if_neg h, if_neg (by decide), if_neg h]
    rfl
theorem m36_eq (s : Bs) (hs : s.length < 2 ^ 30) : m36 s = some (paR (pairL s)) := by
  unfold m36 pairL
  have hn := nameN_le s
  rw [m44_eq s hs, Option.bind_some]
  by_cases h : nameN s < s.length
  · rw [if_pos h, if_neg (by omega : ¬ nameN s = s.length)]
    dsimp only
    rw [m45_eq _ (by simp; omega), Option.bind_some]
    by_cases h1 : tokL (s.take (nameN s)) = true
    · rw [if_pos h1, if_pos rfl, if_pos h1, m45_eq _ (by simp; omega), Option.bind_some]
      unfold j36_15
      by_cases h2 : tokL (s.drop (nameN s + 1)) = true
      · rw [if_pos h2, if_pos h2, m33_eq _ (by simp; omega)]
        rfl
      · rw [if_neg h2, if_neg h2, m46_eq _ (by simp; omega), Option.bind_some]
        cases unqL (s.drop (nameN s + 1)) with
        | none => rfl
        | some v =>
          simp only [unR, if_true, Option.map_some, paR]
          rw [m33_eq _ (by simp; omega)]
          rfl
    · rw [if_neg h1, if_neg h1]
      rfl
  · rw [if_neg h, if_pos (by omega : nameN s = s.length)]
    dsimp only
    have e : s.take (nameN s) = s := List.take_of_length_le (by omega)
    rw [e, m45_eq _ (by omega), Option.bind_some]
    by_cases h1 : tokL s = true
    · rw [if_pos h1, if_neg (by decide), if_pos h1]
      unfold j36_15
      rw [if_pos rfl, m33_eq _ (by omega)]
      rfl
    · rw [if_neg h1, if_neg h1]
      rfl
end Go.Ab
end
section
set_option linter.all false
open Go Go.Ab Go.Proofs Go.Proofs.YtbdjemdhjanffaaDoor
namespace Go.Ab
theorem all_get {s : Bs} {p : UInt8 → Bool} : s.all p = true ↔ ∀ j, j < s.length → p (s.getD j 0) = true := by
  rw [List.all_eq_true]
  constructor
  · intro h j hj
    rw [List.getD_eq_getElem?_getD, List.getElem?_eq_getElem hj]
    exact h _ (List.getElem_mem hj)
  · intro h x hx
    obtain ⟨j, hj, rfl⟩ := List.mem_iff_getElem.1 hx
    have := h j hj
    rwa [List.getD_eq_getElem?_getD, List.getElem?_eq_getElem hj] at this
theorem trimL_parts (s : Bs) : ∃ a b, a.all blB = true ∧ b.all blB = true ∧ s = a ++ (trimL s ++ b) ∧ (trimL s = [] → b = []) ∧ (trimL s ≠ [] → blB ((trimL s).getD 0 0) = false ∧ blB ((trimL s).getD ((trimL s).length - 1) 0) = false) := by
  by_cases hall : s.all blB = true
  · have e := trimL_nil (all_get.1 hall)
    exact ⟨s, [], hall, rfl, by rw [e]; simp, fun _ => rfl, fun h => absurd e h⟩
  · -- the first that is none, the last
    have hex : ∃ j, j < s.length ∧ blB (s.getD j 0) = false := by
      rcases Classical.em (∃ j, j < s.length ∧ blB (s.getD j 0) = false) with h | h
      · exact h
      · exfalso
        exact hall (all_get.2 fun j hj => by
          cases e : blB (s.getD j 0)
          · exact absurd ⟨j, hj, e⟩ h
          · rfl)
    have first : ∀ n, n ≤ s.length → (∀ j, j < n → blB (s.getD j 0) = true) ∨ ∃ a, a < n ∧ blB (s.getD a 0) = false ∧ ∀ j, j < a → blB (s.getD j 0) = true := by
      intro n
      induction n with
      | zero => intro _; left; intro j hj; omega
      | succ n ih =>
        intro hn
        rcases ih (by omega) with h | ⟨a, h1, h2⟩
        · cases e : blB (s.getD n 0)
          · right; exact ⟨n, by omega, e, h⟩
          · left; intro j hj
            by_cases e2 : j = n
            · rw [e2]; exact e
            · exact h j (by omega)
        · right; exact ⟨a, by omega, h2⟩
    have last : ∀ n, n ≤ s.length → (∀ j, s.length - n ≤ j → j < s.length → blB (s.getD j 0) = true) ∨ ∃ b, s.length - n < b ∧ b ≤ s.length ∧ blB (s.getD (b - 1) 0) = false ∧ ∀ j, b ≤ j → j < s.length → blB (s.getD j 0) = true := by
      intro n
      induction n with
      | zero => intro _; left; intro j hj hj2; omega
      | succ n ih =>
        intro hn
        rcases ih (by omega) with h | ⟨b, h1, h2⟩
        · cases e : blB (s.getD (s.length - (n + 1)) 0)
          · right; exact ⟨s.length - n, by omega, by omega, by rw [show s.length - n - 1 = s.length - (n + 1) by omega]; exact e, h⟩
          · left; intro j hj hj2
            by_cases e2 : j = s.length - (n + 1)
            · rw [e2]; exact e
            · exact h j (by omega) hj2
        · right; exact ⟨b, by omega, h2⟩
    obtain ⟨j0, hj0, hj1⟩ := hex
    rcases first s.length (Nat.le_refl _) with h | ⟨a, ha, ha2, ha3⟩
    · rw [h j0 hj0] at hj1; cases hj1
    rcases last s.length (Nat.le_refl _) with h | ⟨b, hb, hb2, hb3, hb4⟩
    · rw [h j0 (by omega) hj0] at hj1; cases hj1
    have hab : a < b := by
      rcases Nat.lt_or_ge a b with h | h
      · exact h
      · rw [hb4 a h ha] at ha2; cases ha2
    have e := trimL_cut hab hb2 ha3 ha2 hb4 hb3
    have hlen : ((s.take b).drop a).length = b - a := by simp; omega
    have hg : ∀ j, j < b - a → ((s.take b).drop a).getD j 0 = s.getD (a + j) 0 := by
      intro j hj
      rw [List.getD_eq_getElem?_getD, List.getD_eq_getElem?_getD, List.getElem?_drop, List.getElem?_take, if_pos (by omega)]
    refine ⟨s.take a, s.drop b, all_get.2 fun j hj => ?_, all_get.2 fun j hj => ?_, ?_, fun h => ?_, fun _ => ?_⟩
    · have : j < a := by simp at hj; omega
      have := ha3 j this
      rw [List.getD_eq_getElem?_getD] at this ⊢
      rw [List.getElem?_take, if_pos (by assumption)]
      exact this
    · have := hb4 (b + j) (by omega) (by simp at hj; omega)
      rw [List.getD_eq_getElem?_getD] at this ⊢
      rw [List.getElem?_drop]
      exact this
    · rw [e, ← List.append_assoc]
      have : s.take a ++ (s.take b).drop a = s.take b := by
        have := List.take_append_drop a (s.take b)
        rwa [List.take_take, Nat.min_eq_left (by omega)] at this
      rw [this, List.take_append_drop]
    · rw [e] at h
      have := congrArg List.length h
      rw [hlen] at this
      simp at this; omega
    · rw [e, hlen, hg 0 (by omega), hg (b - a - 1) (by omega), Nat.add_zero, show a + (b - a - 1) = b - 1 by omega]
      exact ⟨ha2, hb3⟩
def wt (l : List Bs) : Nat := (l.map fun x => x.length + 1).sum
theorem wt_cons (x : Bs) (l : List Bs) : wt (x :: l) = x.length + 1 + wt l := by simp [wt]
theorem wt_split : ∀ (s : Bs) (q m : Bool) (cur : Bs), wt (split q m cur s) = cur.length + s.length + 1 := by
  intro s
  induction s with
  | nil => intro q m cur; simp [split, wt]
  | cons c s ih =>
    intro q m cur
    rw [split]
    split
    · rw [ih]; simp; omega
    · split
      · rw [ih]; simp; omega
      · split
        · rw [ih]; simp; omega
        · split
          · rw [wt_cons, ih]; simp; omega
          · rw [ih]; simp; omega
theorem trimL_le (s : Bs) : (trimL s).length ≤ s.length := by
  obtain ⟨a, b, _, _, h, _⟩ := trimL_parts s
  have := congrArg List.length h
  simp at this; omega
theorem wt_fl (l : List Bs) : wt (fl l) ≤ wt l := by
  induction l with
  | nil => exact Nat.le_refl _
  | cons x l ih =>
    rw [fl_cons, wt_cons]
    have := trimL_le x
    split
    · rw [List.nil_append]; omega
    · rw [List.cons_append, List.nil_append, wt_cons]; omega
theorem wt_listL (s : Bs) : wt (listL s) ≤ s.length + 1 := by
  have := wt_fl (split false false [] s)
  rw [wt_split] at this
  unfold listL; simp at this; omega
theorem wt_len (l : List Bs) : l.length ≤ wt l := by
  induction l with
  | nil => simp
  | cons x l ih => rw [wt_cons]; simp; omega
theorem uq_sh : ∀ (n : Nat) (a r : Bs), a.length ≤ n → uq a = some r → r.all shB = true ∧ r.length ≤ a.length := by
  intro n
  induction n with
  | zero => intro a r ha h; have : a = [] := by cases a; rfl; simp at ha
            subst this; cases h
  | succ n ih =>
    intro a r ha h
    cases a with
    | nil => cases h
    | cons c s =>
      simp only [List.length_cons] at ha
      by_cases h1 : c = 34
      · subst h1
        rw [uq_34] at h
        split at h
        · cases h; exact ⟨rfl, by simp⟩
        · cases h
      · by_cases h2 : c = 92
        · subst h2
          cases s with
          | nil => rw [uq_92n] at h; cases h
          | cons d t =>
            rw [uq_92] at h
            split at h
            · rename_i hd
              simp only [Option.map_eq_some_iff] at h
              obtain ⟨r', h, rfl⟩ := h
              have := ih t r' (by simp at ha; omega) h
              exact ⟨by rw [List.all_cons, hd, this.1]; rfl, by simp; omega⟩
            · cases h
        · rw [uq_c h1 h2] at h
          split at h
          · rename_i hd
            simp only [Option.map_eq_some_iff] at h
            obtain ⟨r', h, rfl⟩ := h
            have := ih s r' (by omega) h
            exact ⟨by rw [List.all_cons, hd, this.1]; rfl, by simp; omega⟩
          · cases h
theorem unq_sh {a r : Bs} (h : unqL a = some r) : r.all shB = true ∧ r.length ≤ a.length := by
  cases a with
  | nil => cases h
  | cons c t =>
    rw [unqL_cons] at h
    split at h
    · have := uq_sh _ _ _ (Nat.le_refl _) h
      exact ⟨this.1, by simp; omega⟩
    · cases h
theorem listL_len (s : Bs) : (listL s).length ≤ s.length + 1 := Nat.le_trans (wt_len _) (wt_listL s)
end Go.Ab
end
section
set_option linter.all false
namespace Go.Proofs
open Go Go.Ab
theorem iter_fold {σ α γ ρ : Type} {step : σ → Option (σ ⊕ ρ)} (l : List α) (mk : γ → Nat → σ) (f : γ → α → γ) (fin : γ → ρ) (I : γ → Nat → Prop)
    (hI : ∀ g i (h : i < l.length), I g i → I (f g l[i]) (i + 1))
    (hs : ∀ g i (h : i < l.length), I g i → step (mk g i) = some (.inl (mk (f g l[i]) (i + 1))))
    (he : ∀ g, I g l.length → step (mk g l.length) = some (.inr (fin g))) (g : γ) (h0 : I g 0) : iter step (mk g 0) = some (fin (l.foldl f g)) := by
  have main : ∀ n i g, n + i = l.length → I g i → iter step (mk g i) = some (fin ((l.drop i).foldl f g)) := by
    intro n
    induction n with
    | zero =>
      intro i g hi hg
      obtain rfl : i = l.length := by omega
      rw [iter_eq, he g hg, List.drop_length]
      rfl
    | succ n ih =>
      intro i g hi hg
      have h : i < l.length := by omega
      rw [iter_eq, hs g i h hg, List.drop_eq_getElem_cons h, List.foldl_cons]
      exact ih (i + 1) _ (by omega) (hI g i h hg)
  have := main l.length 0 g (by omega) h0
  rwa [List.drop_zero] at this
end Go.Proofs
end
section
set_option linter.all false
set_option maxRecDepth 100000
open Go Go.Ab Go.Proofs Go.Proofs.YtbdjemdhjanffaaDoor
def fsz (l : List (Bs × Bs)) : Nat := (l.map fun f => f.1.length + f.2.length + 1).sum
theorem fsz_mem {l : List (Bs × Bs)} {f : Bs × Bs} (h : f ∈ l) : f.1.length + f.2.length + 1 ≤ fsz l := by
  induction l with
  | nil => cases h
  | cons a l ih =>
    simp only [fsz, List.map_cons, List.sum_cons] at ih ⊢
    rcases List.mem_cons.1 h with rfl | h
    · omega
    · have := ih h; omega
theorem fsz_len (l : List (Bs × Bs)) : l.length ≤ fsz l := by
  induction l with
  | nil => exact Nat.zero_le _
  | cons a l ih => simp only [fsz, List.map_cons, List.sum_cons, List.length_cons] at ih ⊢; omega
def getL (l : List (Bs × Bs)) (n : Bs) : List Bs := l.filterMap fun f => if lowL f.1 = lowL n then some f.2 else none
def elemsL (l : List (Bs × Bs)) (n : Bs) : List Bs := (getL l n).flatMap listL
theorem m15_eq (a b : Bs) (ha : a.length < 2 ^ 60) (hb : b.length < 2 ^ 60) : m15 a b = some (lowL a == lowL b) := by
  simp only [m15, m33_eq a ha, m33_eq b hb, Option.bind_some]
def getF (n : Bs) (g : Bool × List Bs) (x : Bs × Bs) : Bool × List Bs := if lowL x.1 = lowL n then (false, g.2 ++ [x.2]) else g
theorem getF_fold (n : Bs) (l : List (Bs × Bs)) : ∀ g : Bool × List Bs, (l.foldl (getF n) g).2 = g.2 ++ getL l n := by
  induction l with
  | nil => intro g; simp [getL]
  | cons a l ih =>
    intro g
    rw [List.foldl_cons, ih]
    unfold getF getL
    by_cases h : lowL a.1 = lowL n
    · simp [h]
    · simp [h]
theorem m24_eq (b : Bool) (l : List (Bs × Bs)) (n : Bs) (hs : fsz l < 2 ^ 30) (hn : n.length < 2 ^ 30) : ∃ z, m24 b l n = some (z, getL l n) := by
  have hl := fsz_len l
  have e := iter_fold (step := fun x : (Bs × Bool × List Bs × Bool × List (Bs × Bs) × Int × Int) => s24_8 x.1 x.2.1 x.2.2.1 x.2.2.2.1 x.2.2.2.2.1 x.2.2.2.2.2.1 x.2.2.2.2.2.2) l
    (fun (g : Bool × List Bs) (i : Nat) => (n, g.1, g.2, b, l, (l.length : Int), (i : Int))) (getF n) (fun g => g) (fun g i => g.2.length ≤ i)
    (fun g i h hg => by
      unfold getF
      split
      · rw [List.length_append]; simp only [List.length_singleton]; omega
      · omega)
    (fun g i h hg => by
      have hm := fsz_mem (List.getElem_mem h)
      have e1 : (l.getD i default) = l[i] := by simp [List.getD_eq_getElem?_getD, h]
      simp only [s24_8, j24_24, Int.toNat_natCast, e1]
      rw [if_pos (by simpa using h), if_pos ⟨by omega, by omega⟩, m15_eq _ _ (by omega) (by omega), Option.bind_some, w64_eq _ (by omega) (by omega)]
      unfold getF
      by_cases c : lowL l[i].1 = lowL n
      · rw [if_pos (by simpa using c), if_pos (by omega), if_pos c]; rfl
      · rw [if_neg (by simpa using c), if_neg c]; rfl)
    (fun g hg => by
      simp only [s24_8, j24_25]
      rw [if_neg (by simp)]
      rfl) (true, []) (by simp)
  have e2 : m24 b l n = some (l.foldl (getF n) (true, [])) := e
  have h2 := getF_fold n l (true, [])
  rw [List.nil_append] at h2
  rw [e2, ← h2]
  exact ⟨_, rfl⟩
end
section
set_option linter.all false
set_option maxRecDepth 100000
open Go Go.Ab Go.Proofs Go.Proofs.YtbdjemdhjanffaaDoor
def ssz (l : List Bs) : Nat := (l.map fun s => s.length + 1).sum
theorem ssz_drop (l : List Bs) (i : Nat) (h : i < l.length) : ssz (l.drop i) = l[i].length + 1 + ssz (l.drop (i + 1)) := by
  rw [List.drop_eq_getElem_cons h]; rfl
theorem ssz_len (l : List Bs) : l.length ≤ ssz l := by
  induction l with
  | nil => exact Nat.zero_le _
  | cons a l ih => simp only [ssz, List.map_cons, List.sum_cons, List.length_cons] at ih ⊢; omega
theorem getL_ssz (l : List (Bs × Bs)) (n : Bs) : ssz (getL l n) ≤ fsz l := by
  induction l with
  | nil => exact Nat.zero_le _
  | cons a l ih =>
    unfold getL at ih ⊢
    by_cases h : lowL a.1 = lowL n
    · simp only [List.filterMap_cons, h, if_true, ssz, List.map_cons, List.sum_cons, fsz] at ih ⊢; omega
    · simp only [List.filterMap_cons, h, if_false, ssz, fsz, List.map_cons, List.sum_cons] at ih ⊢; omega
def elF (g : Bool × List Bs) (x : Bs) : Bool × List Bs := (g.1 && (listL x).isEmpty, g.2 ++ listL x)
theorem elF_fold (l : List Bs) : ∀ g : Bool × List Bs, (l.foldl elF g).2 = g.2 ++ l.flatMap listL := by
  induction l with
  | nil => intro g; simp
  | cons a l ih => intro g; rw [List.foldl_cons, ih]; simp [elF]
theorem m14_eq (b : Bool) (l : List (Bs × Bs)) (n : Bs) (hs : fsz l < 2 ^ 30) (hn : n.length < 2 ^ 30) : ∃ z, m14 b l n = some (z, elemsL l n) := by
  obtain ⟨z, hz⟩ := m24_eq b l n hs hn
  have hg := getL_ssz l n
  have hlen := ssz_len (getL l n)
  unfold elemsL
  generalize getL l n = L at hz hg hlen
  have e := iter_fold (step := fun x : (Bool × List Bs × Bool × List Bs × Int × Int) => s14_8 x.1 x.2.1 x.2.2.1 x.2.2.2.1 x.2.2.2.2.1 x.2.2.2.2.2) L
    (fun (g : Bool × List Bs) (i : Nat) => (g.1, g.2, z, L, (L.length : Int), (i : Int))) elF (fun g => g) (fun g i => g.2.length + ssz (L.drop i) ≤ fsz l)
    (fun g i h hi => by
      rw [ssz_drop L i h] at hi
      have := listL_len L[i]
      simp only [elF, List.length_append]
      omega)
    (fun g i h hi => by
      have e1 : (L.getD i default) = L[i] := by simp [List.getD_eq_getElem?_getD, h]
      rw [ssz_drop L i h] at hi
      have := listL_len L[i]
      obtain ⟨y, hy⟩ := m16_eq L[i] (by omega)
      simp only [s14_8, Int.toNat_natCast, e1]
      rw [if_pos (by simpa using h), if_pos ⟨by omega, by omega⟩, hy, Option.bind_some, if_pos (.inr (by dsimp only; omega)), w64_eq _ (by omega) (by omega)]
      rfl)
    (fun g hg => by
      simp only [s14_8, j14_21]
      rw [if_neg (by simp)]
      rfl) (true, []) (by simpa using hg)
  have e2 : m14 b l n = some (L.foldl elF (true, [])) := by
    rw [m14, hz, Option.bind_some]; exact e
  have h2 := elF_fold L (true, [])
  rw [List.nil_append] at h2
  rw [e2, ← h2]
  exact ⟨_, rfl⟩
end
section
set_option linter.all false
set_option maxRecDepth 100000
open Go Go.Ab Go.Proofs Go.Proofs.YtbdjemdhjanffaaDoor
theorem elemsL_cons (a : Bs × Bs) (l : List (Bs × Bs)) (n : Bs) : elemsL (a :: l) n = (if lowL a.1 = lowL n then listL a.2 else []) ++ elemsL l n := by
  unfold elemsL getL
  by_cases h : lowL a.1 = lowL n <;> simp [h]
theorem elemsL_app (a l : List (Bs × Bs)) (n : Bs) : elemsL (a ++ l) n = elemsL a n ++ elemsL l n := by
  unfold elemsL getL; rw [List.filterMap_append, List.flatMap_append]
end
section
set_option linter.all false
set_option maxRecDepth 100000
open Go Go.Ab Go.Proofs Go.Proofs.YtbdjemdhjanffaaDoor
def putM (k x : Bs) (kvs : Kvs) : Kvs := if hasM k kvs = true then appM k x kvs else kvs ++ [(k, [x])]
theorem has_app (k x k' : Bs) (kvs : Kvs) : hasM k' (appM k x kvs) = hasM k' kvs := by
  induction kvs with
  | nil => rfl
  | cons p r ih =>
    unfold appM
    by_cases e : p.1 = k
    · rw [if_pos e, hasM_cons, hasM_cons]
    · rw [if_neg e, hasM_cons, hasM_cons, ih]
theorem val_app (k x k' : Bs) (kvs : Kvs) (h : hasM k kvs = true) : valM k' (appM k x kvs) = valM k' kvs ++ (if k = k' then [x] else []) := by
  induction kvs with
  | nil => cases h
  | cons p r ih =>
    unfold appM
    by_cases e : p.1 = k
    · rw [if_pos e]
      by_cases q : k = k'
      · subst q; rw [valM_eq k (p.1, p.2 ++ [x]) r e, valM_eq k p r e, if_pos rfl]
      · have e' : ¬ p.1 = k' := fun z => q (e.symm.trans z)
        rw [valM_ne k' (p.1, p.2 ++ [x]) r e', valM_ne k' p r e', if_neg q, List.append_nil]
    · rw [if_neg e]
      have ih' := ih (hasM_ne e h)
      by_cases q : p.1 = k'
      · have : ¬ k = k' := fun z => e (q.trans z.symm)
        rw [valM_eq k' _ _ q, valM_eq k' p r q, if_neg this, List.append_nil]
      · rw [valM_ne k' _ _ q, valM_ne k' p r q, ih']
theorem val_snoc (k x k' : Bs) (kvs : Kvs) (h : hasM k kvs = false) : valM k' (kvs ++ [(k, [x])]) = valM k' kvs ++ (if k = k' then [x] else []) := by
  induction kvs with
  | nil =>
    by_cases q : k = k'
    · subst q; simp [valM]
    · have : (k == k') = false := beq_eq_false_iff_ne.2 q
      simp [valM, List.find?_cons, this, q]
  | cons p r ih =>
    have e : ¬ p.1 = k := fun e => by rw [hasM_cons, beq_iff_eq.2 e] at h; cases h
    rw [List.cons_append]
    by_cases q : p.1 = k'
    · have : ¬ k = k' := fun z => e (q.trans z.symm)
      rw [valM_eq k' _ _ q, valM_eq k' p r q, if_neg this, List.append_nil]
    · rw [valM_ne k' _ _ q, valM_ne k' p r q, ih (hasM_ne e h)]
theorem has_put (k x k' : Bs) (kvs : Kvs) : hasM k' (putM k x kvs) = (hasM k' kvs || k == k') := by
  unfold putM
  by_cases h : hasM k kvs = true
  · rw [if_pos h, has_app]
    by_cases q : k = k'
    · subst q; rw [h]; rfl
    · rw [beq_eq_false_iff_ne.2 q, Bool.or_false]
  · rw [if_neg h]; simp [hasM]
theorem val_put (k x k' : Bs) (kvs : Kvs) : valM k' (putM k x kvs) = valM k' kvs ++ (if k = k' then [x] else []) := by
  unfold putM
  by_cases h : hasM k kvs = true
  · rw [if_pos h, val_app k x k' kvs h]
  · rw [if_neg h, val_snoc k x k' kvs (by simpa using h)]
def ccB : Bs := [99, 97, 99, 104, 101, 45, 99, 111, 110, 116, 114, 111, 108]
theorem elem_len {l : List (Bs × Bs)} {n x : Bs} (h : x ∈ elemsL l n) : x.length ≤ fsz l := by
  unfold elemsL getL at h
  simp only [List.mem_flatMap, List.mem_filterMap] at h
  obtain ⟨v, ⟨f, hf, hv⟩, hx⟩ := h
  split at hv
  · cases hv
    have h1 := fsz_mem hf
    have h2 := wt_listL f.2
    have h3 : x.length + 1 ≤ wt (listL f.2) := by
      generalize listL f.2 = L at hx
      induction L with
      | nil => cases hx
      | cons a L ih =>
        simp only [wt, List.map_cons, List.sum_cons] at ih ⊢
        rcases List.mem_cons.1 hx with rfl | hx
        · omega
        · have := ih hx; omega
    omega
  · cases hv
theorem elems_len (l : List (Bs × Bs)) (n : Bs) : (elemsL l n).length ≤ fsz l := by
  induction l with
  | nil => exact Nat.zero_le _
  | cons a l ih =>
    rw [elemsL_cons, List.length_append]
    have := listL_len a.2
    simp only [fsz, List.map_cons, List.sum_cons] at ih ⊢
    split
    · omega
    · simp only [List.length_nil]; omega
def saidF (kvs : Kvs) (s : Bs) : Kvs := match pairL s with | some x => putM x.1 x.2 kvs | none => kvs
def saidL (l : List (Bs × Bs)) : Kvs := (elemsL l ccB).foldl saidF []
theorem m18_eq (b : Bool) (l : List (Bs × Bs)) (hs : fsz l < 2 ^ 30) : m18 b l = some (saidL l) := by
  obtain ⟨z, hz⟩ := m14_eq b l ccB hs (by decide)
  have hm : ∀ x, x ∈ elemsL l ccB → x.length ≤ fsz l := fun x => elem_len
  have hlen := elems_len l ccB
  unfold saidL
  generalize elemsL l ccB = L at hz hm hlen
  have e := iter_fold (step := fun x : (Bool × List Bs × Int × Int × Kvs) => s18_8 x.1 x.2.1 x.2.2.1 x.2.2.2.1 x.2.2.2.2) L
    (fun (g : Kvs) (i : Nat) => (z, L, (L.length : Int), (i : Int), g)) saidF (fun g => g) (fun g i => ∀ k, (valM k g).length ≤ i)
    (fun g i h hi k => by
      have := hi k
      unfold saidF
      split
      · rw [val_put, List.length_append]
        split
        · simp only [List.length_singleton]; omega
        · simp only [List.length_nil]; omega
      · omega)
    (fun g i h hi => by
      have e1 : (L.getD i default) = L[i] := by simp [List.getD_eq_getElem?_getD, h]
      have hx := hm L[i] (List.getElem_mem h)
      simp only [s18_8, j18_26, Int.toNat_natCast, e1]
      rw [if_pos (by simpa using h), if_pos ⟨by omega, by omega⟩, m36_eq _ (by omega), Option.bind_some, w64_eq _ (by omega) (by omega)]
      unfold saidF
      cases hp : pairL L[i] with
      | none => rfl
      | some x =>
        have := hi x.1
        refine (if_pos rfl).trans ?_
        show _ = some (Sum.inl (z, L, (L.length : Int), ((i + 1 : Nat) : Int), putM x.1 x.2 g))
        by_cases c : hasM x.1 g = true
        · have q : putM x.1 x.2 g = appM x.1 x.2 g := if_pos c
          rw [q]
          exact (if_pos c).trans (if_pos (by show ((valM x.1 g).length + 1) * 16 ≤ 140737488355328; omega))
        · have q : putM x.1 x.2 g = g ++ [(x.1, [x.2])] := if_neg c
          rw [q]
          exact if_neg c)
    (fun g hg => by
      simp only [s18_8, j18_27]
      rw [if_neg (by simp)]
      rfl) [] (by intro k; exact Nat.zero_le _)
  rw [m18]
  show (m14 b l ccB).bind _ = _
  rw [hz, Option.bind_some]
  exact e
end
section
set_option linter.all false
set_option maxRecDepth 100000
open Go Go.Ab Go.Proofs Go.Proofs.YtbdjemdhjanffaaDoor
theorem m39_eq (b : Bool) (L : List Bs) (kvs : Kvs) (hL : L.length < 2 ^ 60) : ∃ r, m39 b L kvs = some r ∧ decide (0 ≤ r) = L.any fun n => hasM n kvs := by
  refine iter_post (fun s => ∃ i : Nat, s = (b, L, (L.length : Int), (i : Int)) ∧ i ≤ L.length ∧ (L.any fun n => hasM n kvs) = ((L.drop i).any fun n => hasM n kvs)) (fun s => L.length + 1 - s.2.2.2.toNat) _ ?_ _ ⟨0, rfl, by omega, by simp⟩
  rintro s ⟨i, rfl, hi, ha⟩
  by_cases h : i < L.length
  · have e1 : (L.getD i default) = L[i] := by simp [List.getD_eq_getElem?_getD, h]
    have ha' := ha
    rw [List.drop_eq_getElem_cons h, List.any_cons] at ha'
    simp only [s39_6, Int.toNat_natCast, e1]
    rw [if_pos (by simpa using h), if_pos ⟨by omega, by omega⟩, m37, Option.bind_some, w64_eq _ (by omega) (by omega)]
    by_cases c : hasM L[i] kvs = true
    · right
      rw [if_pos c]
      refine ⟨_, rfl, ?_⟩
      rw [ha', c]
      simp
    · left
      rw [if_neg c]
      refine ⟨_, rfl, ⟨i + 1, rfl, by omega, ?_⟩, ?_⟩
      · rw [ha', Bool.eq_false_iff.2 c, Bool.false_or]
      · show L.length + 1 - ((i : Int) + 1).toNat < L.length + 1 - (i : Int).toNat
        omega
  · right
    obtain rfl : i = L.length := by omega
    simp only [s39_6, j39_25]
    rw [if_neg (by simp)]
    refine ⟨-1, rfl, ?_⟩
    rw [ha, List.drop_length]
    rfl
theorem m19_eq (b : Bool) (L : List Bs) (kvs : Kvs) (hL : L.length < 2 ^ 60) : m19 b L kvs = some (L.any fun n => hasM n kvs) := by
  obtain ⟨r, h1, h2⟩ := m39_eq b L kvs hL
  simp only [m19, m25, h1, Option.bind_some, h2]
end
section
set_option linter.all false
set_option maxRecDepth 100000
open Go Go.Ab Go.Proofs Go.Proofs.YtbdjemdhjanffaaDoor
def digB (c : UInt8) : Bool := decide (48 ≤ c.toNat) && decide (c.toNat ≤ 57)
def valF (n : Nat) (c : UInt8) : Nat := 10 * n + (c.toNat - 48)
def valN (s : Bs) : Nat := s.foldl valF 0
def numL (s : Bs) : Int := if s ≠ [] ∧ s.all digB = true then ((min (valN s) 2147483647 : Nat) : Int) else 0
end
section
set_option linter.all false
set_option maxRecDepth 100000
open Go Go.Ab Go.Proofs Go.Proofs.YtbdjemdhjanffaaDoor
def decR (s : Bs) : Int × Int := if s ≠ [] ∧ s.all digB = true then (if valN s ≤ 9007199254740991 then ((valN s : Int), 0) else (0, 3)) else (0, 5)
theorem m64_eq (c : Int) (h0 : 0 ≤ c) (h1 : c < 2 ^ 31) : m64 c = some (if 48 ≤ c ∧ c ≤ 57 then c - 48 else -1) := by
  unfold m64 j64_5
  simp only [decide_eq_true_eq]
  by_cases a : 48 ≤ c
  · rw [if_pos a]
    by_cases b : c ≤ 57
    · rw [if_pos b, if_pos ⟨a, b⟩]
      have : w32 (c - 48) = c - 48 := by simp [w32, IntKind.wrap, IntKind.min, IntKind.max, IntKind.bits, IntKind.signed]; omega
      rw [this, w64_eq _ (by omega) (by omega)]
    · rw [if_neg b, if_neg (by omega)]
  · rw [if_neg a, if_neg (by simp), if_neg (by omega)]
theorem val_take (s : Bs) (p : Nat) (h : p < s.length) : valN (s.take (p + 1)) = 10 * valN (s.take p) + (s[p].toNat - 48) := by
  unfold valN
  rw [List.take_succ_eq_append_getElem h, List.foldl_append]
  rfl
theorem all_take (s : Bs) (p : Nat) (h : p < s.length) : (s.take (p + 1)).all digB = ((s.take p).all digB && digB s[p]) := by
  rw [List.take_succ_eq_append_getElem h, List.all_append, List.all_cons, List.all_nil, Bool.and_true]
theorem uc_lt (s : Bs) (p : Nat) (h : p < s.length) (hl : 128 ≤ (s.getD p 0).toNat) : uc s p < 2 ^ 31 := by
  unfold uc
  rw [Lib.decode_at, S_get!, S_get!, S_get!, S_get!, S_size]
  have a0 := (s.getD p 0).toNat_lt
  have a1 := (s.getD (p + 1) 0).toNat_lt
  have a2 := (s.getD (p + 2) 0).toNat_lt
  have a3 := (s.getD (p + 3) 0).toNat_lt
  generalize (s.getD p 0).toNat = b0 at *
  generalize (s.getD (p + 1) 0).toNat = b1 at *
  generalize (s.getD (p + 2) 0).toNat = b2 at *
  generalize (s.getD (p + 3) 0).toNat = b3 at *
  unfold Lib.decodeN
  repeat' split
  all_goals first | omega | (dsimp only; omega) | simp
theorem m63_eq (s : Bs) (hs : s.length < 2 ^ 30) : m63 s 10 = some (decR s) := by
  unfold m63
  by_cases h0 : s = []
  · subst h0; rfl
  · rw [if_neg (by simpa using h0)]
    have := iter_post (f := fun x : (Int × Int × Bool × Bs × Nat) => s63_16 x.1 x.2.1 x.2.2.1 x.2.2.2.1 x.2.2.2.2)
      (fun x => ∃ n lo p, x = ((10 : Int), n, lo, s, p) ∧ p ≤ s.length ∧ (s.take p).all digB = true ∧ (lo = true → 9007199254740991 < valN (s.take p)) ∧ (lo = false → n = (valN (s.take p) : Int) ∧ valN (s.take p) ≤ 9007199254740991))
      (fun x => s.length - x.2.2.2.2) (fun r => r = decR s) ?_ (10, 0, false, s, 0) ⟨0, false, 0, rfl, by omega, rfl, by simp, fun _ => ⟨rfl, by simp [valN]⟩⟩
    · obtain ⟨r, h1, h2⟩ := this
      rw [← h2]; exact h1
    rintro x ⟨n, lo, p, rfl, hp, hd, hlo, hn⟩
    by_cases h : p < s.length
    · have e1 : s.getD p 0 = s[p] := by simp [List.getD_eq_getElem?_getD, h]
      have hM : s63_16 10 n lo s p = (m64 (uc s p : Int)).bind fun yr5 => if (decide (yr5 < 0)) = true then some (.inr ((0 : Int), (5 : Int))) else if lo = true then j63_39 10 n true yr5 true s (p + uw s p) else if ((10 : Int) == 0) = false then j63_39 10 n false yr5 (decide ((wu64 ((wu64 (9007199254740991 - (wu64 yr5))).tdiv 10)) < n)) s (p + uw s p) else none := by
        unfold s63_16; rw [if_pos (by simpa using h)]
      have bad : ∀ q : Int, m64 (uc s p : Int) = some q → q < 0 → digB s[p] = false → ∃ r, s63_16 10 n lo s p = some (.inr r) ∧ r = decR s := by
        intro q hq hneg hdig
        refine ⟨(0, 5), ?_, ?_⟩
        · rw [hM, hq, Option.bind_some, if_pos (by simpa using hneg)]
        · unfold decR
          rw [if_neg]
          rintro ⟨_, ha⟩
          have := List.all_eq_true.1 ha _ (List.getElem_mem h)
          rw [hdig] at this; cases this
      by_cases hlow : s[p].toNat < 128
      · obtain ⟨u1, u2⟩ := rune_lo h (by rw [e1]; exact hlow)
        rw [e1] at u1
        have hm := m64_eq (uc s p : Int) (by omega) (by rw [u1]; omega)
        by_cases hc : digB s[p] = true
        · left
          have hc' := hc
          simp only [digB, Bool.and_eq_true, decide_eq_true_eq] at hc'
          rw [if_pos (by rw [u1]; omega), u1] at hm
          have hv := val_take s p h
          have ha := all_take s p h
          rw [hd, hc] at ha
          dsimp only
          have hpos : ¬ (decide (((s[p].toNat : Int) - 48) < 0) = true) := by simp only [decide_eq_true_eq]; omega
          rw [hM, u1, hm, Option.bind_some, if_neg hpos, u2]
          cases lo with
          | true =>
            rw [if_pos rfl]
            refine ⟨_, rfl, ⟨n, true, p + 1, rfl, by omega, ha, fun _ => by have := hlo rfl; omega, by simp⟩, ?_⟩
            show s.length - (p + 1) < s.length - p
            omega
          | false =>
            obtain ⟨hn1, hn2⟩ := hn rfl
            rw [if_neg (by simp), if_pos (by decide)]
            have hdec : (wu64 ((wu64 (9007199254740991 - (wu64 ((s[p].toNat : Int) - 48)))).tdiv 10)) = ((9007199254740991 - ((s[p].toNat : Int) - 48)) / 10) := by
              rw [wu64m ((s[p].toNat : Int) - 48), Int.emod_eq_of_lt (by omega) (by omega), wu64m (9007199254740991 - _), Int.emod_eq_of_lt (by omega) (by omega), Int.tdiv_eq_ediv_of_nonneg (by omega), wu64m, Int.emod_eq_of_lt (by omega) (by omega)]
            rw [hdec]
            unfold j63_39
            by_cases big : 9007199254740991 < 10 * valN (s.take p) + (s[p].toNat - 48)
            · rw [if_pos (by simp only [decide_eq_true_eq]; omega)]
              refine ⟨_, rfl, ⟨n, true, p + 1, rfl, by omega, ha, fun _ => by omega, by simp⟩, ?_⟩
              show s.length - (p + 1) < s.length - p
              omega
            · rw [if_neg (by simp only [decide_eq_true_eq]; omega)]
              refine ⟨_, rfl, ⟨_, false, p + 1, rfl, by omega, ha, by simp, fun _ => ⟨?_, by omega⟩⟩, ?_⟩
              · rw [wu64m (n * 10), wu64m ((s[p].toNat : Int) - 48), wu64m, hn1, hv]
                omega
              · show s.length - (p + 1) < s.length - p
                omega
        · right
          rw [if_neg (by
            rw [u1]
            intro q
            apply hc
            simp only [digB, Bool.and_eq_true, decide_eq_true_eq]
            omega)] at hm
          exact bad _ hm (by omega) (by simpa using hc)
      · right
        obtain ⟨u1, u2, u3, _⟩ := rune_hi h (by rw [e1]; omega)
        have hm := m64_eq (uc s p : Int) (by omega) (by have := uc_lt s p h (by rw [e1]; omega); omega)
        rw [if_neg (by omega)] at hm
        exact bad _ hm (by omega) (by
          simp only [digB, Bool.and_eq_false_iff, decide_eq_false_iff_not]
          omega)
    · right
      obtain rfl : p = s.length := by omega
      rw [List.take_length] at hd hlo hn
      dsimp only
      have hR : decR s = (if valN s ≤ 9007199254740991 then ((valN s : Int), 0) else (0, 3)) := if_pos ⟨h0, hd⟩
      rw [hR]
      unfold s63_16 j63_45
      rw [if_neg (by simp)]
      cases lo with
      | true =>
        have := hlo rfl
        rw [if_neg (by omega : ¬ valN s ≤ 9007199254740991)]
        exact ⟨_, rfl, rfl⟩
      | false =>
        obtain ⟨hn1, hn2⟩ := hn rfl
        rw [if_pos hn2, hn1]
        exact ⟨_, rfl, rfl⟩
end
section
set_option linter.all false
set_option maxRecDepth 100000
open Go Go.Ab Go.Proofs Go.Proofs.YtbdjemdhjanffaaDoor
theorem m38_eq (s : Bs) (hs : s.length < 2 ^ 30) : m38 s = some (numL s) := by
  unfold m38 m47
  rw [m63_eq s hs, Option.bind_some, Option.bind_some]
  unfold decR numL
  by_cases h : s ≠ [] ∧ s.all digB = true
  · rw [if_pos h, if_pos h]
    by_cases c : valN s ≤ 9007199254740991
    · rw [if_pos c]
      simp only [beq_self_eq_true, if_true]
      have : min2 (valN s : Int) 2147483647 = ((min (valN s) 2147483647 : Nat) : Int) := by
        unfold min2; split <;> omega
      rw [this, w64_eq _ (by omega) (by omega)]
    · rw [if_neg c]
      have : (min (valN s) 2147483647 : Nat) = 2147483647 := by omega
      rw [this]
      rfl
  · rw [if_neg h, if_neg h]; rfl
end
section
set_option linter.all false
set_option maxRecDepth 100000
open Go Go.Ab Go.Proofs Go.Proofs.YtbdjemdhjanffaaDoor
def minL (g : List Int) : Int := g.tail.foldl min2 (g.getD 0 default)
def maxL (g : List Int) : Int := g.tail.foldl max2 (g.getD 0 default)
theorem tail_get (g : List Int) (i : Nat) (h : i < g.tail.length) : g.getD (i + 1) default = g.tail[i] := by
  cases g with
  | nil => cases h
  | cons a r =>
    have h' : i < r.length := h
    simp [List.getD_eq_getElem?_getD, h']
theorem m21_eq (g : List Int) (h0 : g ≠ []) (hg : g.length < 2 ^ 60) : m21 g = some (minL g, g) := by
  have hl : 0 < g.length := by cases g with | nil => exact absurd rfl h0 | cons => simp
  have ht : g.tail.length = g.length - 1 := List.length_tail
  unfold m21
  rw [if_neg (by simp only [decide_eq_true_eq]; omega), if_pos (by omega)]
  have e := iter_fold (step := fun x : (Int × Int × List Int) => s21_14 x.1 x.2.1 x.2.2) g.tail (fun (m : Int) (i : Nat) => (m, ((i + 1 : Nat) : Int), g)) min2 (fun m => (m, g)) (fun _ _ => True)
    (fun _ _ _ _ => trivial)
    (fun m i h _ => by
      simp only [s21_14, Int.toNat_natCast, tail_get g i h]
      rw [if_pos (by simp only [decide_eq_true_eq]; omega), if_pos ⟨by omega, by omega⟩, w64_eq _ (by omega) (by omega)]
      rfl)
    (fun m _ => by
      simp only [s21_14, j21_25]
      rw [if_neg (by simp only [decide_eq_true_eq]; omega)]
      rfl) (g.getD 0 default) trivial
  exact e
theorem m22_eq (g : List Int) (h0 : g ≠ []) (hg : g.length < 2 ^ 60) : m22 g = some (maxL g, g) := by
  have hl : 0 < g.length := by cases g with | nil => exact absurd rfl h0 | cons => simp
  have ht : g.tail.length = g.length - 1 := List.length_tail
  unfold m22
  rw [if_neg (by simp only [decide_eq_true_eq]; omega), if_pos (by omega)]
  have e := iter_fold (step := fun x : (Int × Int × List Int) => s22_14 x.1 x.2.1 x.2.2) g.tail (fun (m : Int) (i : Nat) => (m, ((i + 1 : Nat) : Int), g)) max2 (fun m => (m, g)) (fun _ _ => True)
    (fun _ _ _ _ => trivial)
    (fun m i h _ => by
      simp only [s22_14, Int.toNat_natCast, tail_get g i h]
      rw [if_pos (by simp only [decide_eq_true_eq]; omega), if_pos ⟨by omega, by omega⟩, w64_eq _ (by omega) (by omega)]
      rfl)
    (fun m _ => by
      simp only [s22_14, j22_25]
      rw [if_neg (by simp only [decide_eq_true_eq]; omega)]
      rfl) (g.getD 0 default) trivial
  exact e
end
section
set_option linter.all false
set_option maxRecDepth 100000
open Go Go.Ab Go.Proofs Go.Proofs.YtbdjemdhjanffaaDoor
def ofMin (V : List Bs) : Int := if V = [] then -1 else minL (V.map numL)
def ofMax (V : List Bs) : Int := if V = [] then -1 else maxL (V.map numL)
def numF (g : List Int) (v : Bs) : List Int := g ++ [numL v]
theorem numF_fold (V : List Bs) : ∀ g, V.foldl numF g = g ++ V.map numL := by
  induction V with
  | nil => intro g; simp
  | cons v V ih => intro g; rw [List.foldl_cons, ih]; simp [numF]
theorem m20_eq (b : Bool) (V : List Bs) (hV : V.length < 2 ^ 40) (hv : ∀ v ∈ V, v.length < 2 ^ 30) : m20 b V = some (ofMin V) := by
  have e := iter_fold (step := s20_8) V (fun (g : List Int) (i : Nat) => match g with | [] => .inl (b, V, (V.length : Int), (i : Int)) | _ => .inr (b, V, (V.length : Int), (i : Int), g)) numF (fun g => if g = [] then -1 else minL g) (fun g i => g.length = i)
    (fun g i h hi => by simp [numF, hi])
    (fun g i h hi => by
      have e1 : (V.getD i default) = V[i] := by simp [List.getD_eq_getElem?_getD, h]
      have hn := m38_eq V[i] (hv _ (List.getElem_mem h))
      cases g with
      | nil =>
        simp only [s20_8, s20_8x0, j20_15, j20_20, Int.toNat_natCast, e1]
        rw [if_pos (by simpa using h), if_pos ⟨by omega, by omega⟩, hn, Option.bind_some, w64_eq _ (by omega) (by omega)]
        rfl
      | cons a g =>
        simp only [s20_8, s20_8x1, j20_15v1, j20_20v1, Int.toNat_natCast, e1]
        rw [if_pos (by simpa using h), if_pos ⟨by omega, by omega⟩, hn, Option.bind_some, if_pos (by omega), w64_eq _ (by omega) (by omega)]
        rfl)
    (fun g hg => by
      cases g with
      | nil =>
        simp only [s20_8, s20_8x0, j20_21]
        rw [if_neg (by simp)]
        rfl
      | cons a g =>
        simp only [s20_8, s20_8x1, j20_21v1]
        rw [if_neg (by simp), if_neg (by simp; omega), m21_eq (a :: g) (by simp) (by omega)]
        rfl) [] rfl
  rw [numF_fold, List.nil_append] at e
  have e2 : m20 b V = _ := e
  rw [e2]
  unfold ofMin
  cases V <;> rfl
theorem m20a_eq (b : Bool) (V : List Bs) (hV : V.length < 2 ^ 40) (hv : ∀ v ∈ V, v.length < 2 ^ 30) : m20a b V = some (ofMax V) := by
  have e := iter_fold (step := s20a_8) V (fun (g : List Int) (i : Nat) => match g with | [] => .inl (b, V, (V.length : Int), (i : Int)) | _ => .inr (b, V, (V.length : Int), (i : Int), g)) numF (fun g => if g = [] then -1 else maxL g) (fun g i => g.length = i)
    (fun g i h hi => by simp [numF, hi])
    (fun g i h hi => by
      have e1 : (V.getD i default) = V[i] := by simp [List.getD_eq_getElem?_getD, h]
      have hn := m38_eq V[i] (hv _ (List.getElem_mem h))
      cases g with
      | nil =>
        simp only [s20a_8, s20a_8x0, j20a_15, j20a_20, Int.toNat_natCast, e1]
        rw [if_pos (by simpa using h), if_pos ⟨by omega, by omega⟩, hn, Option.bind_some, w64_eq _ (by omega) (by omega)]
        rfl
      | cons a g =>
        simp only [s20a_8, s20a_8x1, j20a_15v1, j20a_20v1, Int.toNat_natCast, e1]
        rw [if_pos (by simpa using h), if_pos ⟨by omega, by omega⟩, hn, Option.bind_some, if_pos (by omega), w64_eq _ (by omega) (by omega)]
        rfl)
    (fun g hg => by
      cases g with
      | nil =>
        simp only [s20a_8, s20a_8x0, j20a_21]
        rw [if_neg (by simp)]
        rfl
      | cons a g =>
        simp only [s20a_8, s20a_8x1, j20a_21v1]
        rw [if_neg (by simp), if_neg (by simp; omega), m22_eq (a :: g) (by simp) (by omega)]
        rfl) [] rfl
  rw [numF_fold, List.nil_append] at e
  have e2 : m20a b V = _ := e
  rw [e2]
  unfold ofMax
  cases V <;> rfl
end
section
set_option linter.all false
set_option maxRecDepth 100000
open Go Go.Ab Go.Proofs Go.Proofs.YtbdjemdhjanffaaDoor
def msB : Bs := [109, 97, 120, 45, 115, 116, 97, 108, 101]
def staleN (v : Bs) : Int := if v = [] then 2147483647 else numL v
def ofStale (V : List Bs) : Int := if V = [] then -1 else minL (V.map staleN)
def pat (V : List Bs) (i : Nat) : List Int := (V.take i).map staleN ++ (V.drop i).map numL
theorem pat_len (V : List Bs) (i : Nat) : (pat V i).length = V.length := by
  simp only [pat, List.length_append, List.length_map, List.length_take, List.length_drop]; omega
theorem set_mid (A : List Int) (n x : Int) (R : List Int) : (A ++ n :: R).set A.length x = A ++ x :: R := by
  induction A with
  | nil => rfl
  | cons a A ih => simp only [List.cons_append, List.length_cons, List.set_cons_succ, ih]
theorem pat_set (V : List Bs) (i : Nat) (h : i < V.length) : (pat V i).set i (staleN V[i]) = pat V (i + 1) := by
  unfold pat
  rw [List.drop_eq_getElem_cons h, List.map_cons, List.take_succ_eq_append_getElem h, List.map_append]
  have hl : ((V.take i).map staleN).length = i := by rw [List.length_map, List.length_take]; omega
  have := set_mid ((V.take i).map staleN) (numL V[i]) (staleN V[i]) ((V.drop (i + 1)).map numL)
  rw [hl] at this
  rw [this]
  simp
theorem pat_keep (V : List Bs) (i : Nat) (h : i < V.length) (hv : V[i] ≠ []) : pat V (i + 1) = pat V i := by
  unfold pat
  rw [List.drop_eq_getElem_cons h, List.map_cons, List.take_succ_eq_append_getElem h, List.map_append]
  simp [staleN, hv]
theorem m21a_eq (g : List Int) (h0 : g ≠ []) (hg : g.length < 2 ^ 60) : m21a g.length g = some (minL g, g) := by
  have hl : 0 < g.length := by cases g with | nil => exact absurd rfl h0 | cons => simp
  have ht : g.tail.length = g.length - 1 := List.length_tail
  unfold m21a
  rw [if_neg (by simp only [decide_eq_true_eq]; omega), if_pos (by omega), if_pos hl]
  have e := iter_fold (step := fun x : (Nat × Int × Int × List Int) => s21a_14 x.1 x.2.1 x.2.2.1 x.2.2.2) g.tail (fun (m : Int) (i : Nat) => (g.length, m, ((i + 1 : Nat) : Int), g)) min2 (fun m => (m, g)) (fun _ _ => True)
    (fun _ _ _ _ => trivial)
    (fun m i h _ => by
      simp only [s21a_14, Int.toNat_natCast, tail_get g i h]
      rw [if_pos (by simp only [decide_eq_true_eq]; omega), if_pos ⟨by omega, by omega⟩, if_pos (by omega), w64_eq _ (by omega) (by omega)]
      rfl)
    (fun m _ => by
      simp only [s21a_14, j21a_25]
      rw [if_neg (by simp only [decide_eq_true_eq]; omega)]
      rfl) (g.getD 0 default) trivial
  exact e
theorem m23_eq (kvs : Kvs) (h0 : valM msB kvs ≠ []) (hV : (valM msB kvs).length < 2 ^ 40) : ∃ g, m23 ((valM msB kvs).map numL) kvs = some (minL ((valM msB kvs).map staleN), g) := by
  have hdef : m23 ((valM msB kvs).map numL) kvs = iter (s23_6 kvs) (.inl (!(hasM msB kvs), valM msB kvs, ((valM msB kvs).length : Int), (0 : Int), (valM msB kvs).map numL)) := rfl
  rw [hdef]
  generalize (!(hasM msB kvs)) = b
  generalize valM msB kvs = V at h0 hV
  have hend : pat V V.length = V.map staleN := by simp [pat]
  have hbeg : pat V 0 = V.map numL := by simp [pat]
  have hne : ∀ i, pat V i ≠ [] := fun i e => by
    have := pat_len V i
    rw [e] at this
    exact h0 (List.eq_nil_of_length_eq_zero this.symm)
  have := iter_post (f := s23_6 kvs) (fun x => ∃ i : Nat, i ≤ V.length ∧ (x = .inl (b, V, (V.length : Int), (i : Int), pat V i) ∨ x = .inr ((pat V i).length, b, V, (V.length : Int), (i : Int), pat V i)))
    (fun x => match x with | .inl y => V.length + 1 - y.2.2.2.1.toNat | .inr y => V.length + 1 - y.2.2.2.2.1.toNat) (fun r => r.1 = minL (V.map staleN)) ?_ (.inl (b, V, (V.length : Int), (0 : Int), V.map numL)) ⟨0, by omega, .inl (by rw [hbeg]; rfl)⟩
  · obtain ⟨r, h1, h2⟩ := this
    rw [h1]
    exact ⟨r.2, by rw [← h2]⟩
  rintro x ⟨i, hi, hx⟩
  have hpl := pat_len V i
  by_cases h : i < V.length
  · left
    have e1 : (V.getD i default) = V[i] := by simp [List.getD_eq_getElem?_getD, h]
    have hm : V.length + 1 - ((i + 1 : Nat) : Int).toNat < V.length + 1 - (i : Int).toNat := by omega
    rcases hx with rfl | rfl
    · simp only [s23_6, s23_6x0, j23_13, j23_22, j23_22v1, Int.toNat_natCast, e1]
      rw [if_pos (by simpa using h), if_pos ⟨by omega, by omega⟩, w64_eq _ (by omega) (by omega)]
      by_cases c : V[i] = []
      · rw [if_pos (by rw [c]; rfl), if_pos ⟨by omega, by omega⟩]
        have hs := pat_set V i h
        have : staleN V[i] = 2147483647 := by simp [staleN, c]
        rw [this] at hs
        refine ⟨_, rfl, ⟨i + 1, by omega, .inr ?_⟩, hm⟩
        rw [hs, pat_len, pat_len]
        rfl
      · rw [if_neg (by simpa using c)]
        refine ⟨_, rfl, ⟨i + 1, by omega, .inl ?_⟩, hm⟩
        rw [pat_keep V i h c]
        rfl
    · simp only [s23_6, s23_6x1, j23_13v1, j23_22, Int.toNat_natCast, e1]
      rw [if_pos (by simpa using h), if_pos ⟨by omega, by omega⟩, w64_eq _ (by omega) (by omega)]
      by_cases c : V[i] = []
      · rw [if_pos (by rw [c]; rfl), if_pos ⟨by omega, by omega⟩, if_pos (by omega)]
        have hs := pat_set V i h
        have : staleN V[i] = 2147483647 := by simp [staleN, c]
        rw [this] at hs
        refine ⟨_, rfl, ⟨i + 1, by omega, .inr ?_⟩, hm⟩
        rw [hs, pat_len, pat_len]
        rfl
      · rw [if_neg (by simpa using c)]
        refine ⟨_, rfl, ⟨i + 1, by omega, .inr ?_⟩, hm⟩
        rw [pat_keep V i h c]
        rfl
  · right
    obtain rfl : i = V.length := by omega
    rcases hx with rfl | rfl
    · simp only [s23_6, s23_6x0, j23_23]
      rw [if_neg (by simp), m21_eq _ (hne _) (by omega)]
      exact ⟨_, rfl, by rw [hend]⟩
    · simp only [s23_6, s23_6x1, j23_23v1]
      rw [if_neg (by simp), m21a_eq _ (hne _) (by omega)]
      exact ⟨_, rfl, by rw [hend]⟩
end
section
set_option linter.all false
set_option maxRecDepth 100000
open Go Go.Ab Go.Proofs Go.Proofs.YtbdjemdhjanffaaDoor
theorem m20b_eq (b : Bool) (kvs : Kvs) (hV : (valM msB kvs).length < 2 ^ 40) (hv : ∀ v ∈ valM msB kvs, v.length < 2 ^ 30) : m20b b (valM msB kvs) kvs = some (ofStale (valM msB kvs)) := by
  have hm : valM msB kvs ≠ [] → ∃ g, m23 ((valM msB kvs).map numL) kvs = some (minL ((valM msB kvs).map staleN), g) := fun h => m23_eq kvs h hV
  have e0 : m20b b (valM msB kvs) kvs = iter (s20b_8 kvs) (.inl (b, valM msB kvs, ((valM msB kvs).length : Int), (0 : Int))) := rfl
  rw [e0]
  generalize valM msB kvs = V at hm hV hv
  have e := iter_fold (step := s20b_8 kvs) V (fun (g : List Int) (i : Nat) => match g with | [] => .inl (b, V, (V.length : Int), (i : Int)) | _ => .inr (b, V, (V.length : Int), (i : Int), g)) numF (fun g => if g = [] then -1 else minL (V.map staleN)) (fun g i => g = (V.take i).map numL)
    (fun g i h hi => by rw [List.take_succ_eq_append_getElem h, List.map_append, ← hi]; rfl)
    (fun g i h hi => by
      have e1 : (V.getD i default) = V[i] := by simp [List.getD_eq_getElem?_getD, h]
      have hn := m38_eq V[i] (hv _ (List.getElem_mem h))
      have hl : g.length = i := by rw [hi, List.length_map, List.length_take]; omega
      clear hi
      cases g with
      | nil =>
        simp only [s20b_8, s20b_8x0, j20b_15, j20b_20, Int.toNat_natCast, e1]
        rw [if_pos (by simpa using h), if_pos ⟨by omega, by omega⟩, hn, Option.bind_some, w64_eq _ (by omega) (by omega)]
        rfl
      | cons a g =>
        simp only [s20b_8, s20b_8x1, j20b_15v1, j20b_20v1, Int.toNat_natCast, e1]
        rw [if_pos (by simpa using h), if_pos ⟨by omega, by omega⟩, hn, Option.bind_some, if_pos (by omega), w64_eq _ (by omega) (by omega)]
        rfl)
    (fun g hg => by
      rw [List.take_length] at hg
      cases g with
      | nil =>
        simp only [s20b_8, s20b_8x0, j20b_21]
        rw [if_neg (by simp)]
        rfl
      | cons a g =>
        have hne : V ≠ [] := fun q => by rw [q] at hg; cases hg
        obtain ⟨r, hr⟩ := hm hne
        simp only [s20b_8, s20b_8x1, j20b_21v1]
        rw [if_neg (by simp), if_neg (by simp; omega), hg, hr, if_neg (by rw [← hg]; simp)]
        rfl) [] (by simp)
  rw [numF_fold, List.nil_append] at e
  have e2 : iter (s20b_8 kvs) (.inl (b, V, (V.length : Int), (0 : Int))) = _ := e
  rw [e2]
  unfold ofStale
  cases V <;> rfl
end
section
set_option linter.all false
set_option maxRecDepth 100000
open Go Go.Ab Go.Proofs Go.Proofs.YtbdjemdhjanffaaDoor
abbrev PP := List (Bs × Bs)
def pairsL (l : List (Bs × Bs)) : PP := (elemsL l ccB).filterMap pairL
def hasP (k : Bs) (P : PP) : Bool := P.any fun p => p.1 == k
def valP (k : Bs) (P : PP) : List Bs := P.filterMap fun p => if p.1 == k then some p.2 else none
theorem saidF_fold (E : List Bs) : ∀ kvs, E.foldl saidF kvs = (E.filterMap pairL).foldl (fun m p => putM p.1 p.2 m) kvs := by
  induction E with
  | nil => intro kvs; rfl
  | cons x E ih =>
    intro kvs
    rw [List.foldl_cons, ih, List.filterMap_cons]
    unfold saidF
    cases pairL x <;> rfl
theorem has_fold (k : Bs) (P : PP) : ∀ kvs, hasM k (P.foldl (fun m p => putM p.1 p.2 m) kvs) = (hasM k kvs || hasP k P) := by
  induction P with
  | nil => intro kvs; simp [hasP]
  | cons p P ih => intro kvs; rw [List.foldl_cons, ih, has_put]; simp [hasP, Bool.or_assoc]
theorem val_fold (k : Bs) (P : PP) : ∀ kvs, valM k (P.foldl (fun m p => putM p.1 p.2 m) kvs) = valM k kvs ++ valP k P := by
  induction P with
  | nil => intro kvs; simp [valP]
  | cons p P ih =>
    intro kvs
    rw [List.foldl_cons, ih, val_put]
    unfold valP
    by_cases h : p.1 = k <;> simp [h]
theorem has_said (k : Bs) (l : List (Bs × Bs)) : hasM k (saidL l) = hasP k (pairsL l) := by
  unfold saidL; rw [saidF_fold, has_fold]; rfl
theorem val_said (k : Bs) (l : List (Bs × Bs)) : valM k (saidL l) = valP k (pairsL l) := by
  unfold saidL; rw [saidF_fold, val_fold]; rfl
theorem pairL_len {s : Bs} {x : Bs × Bs} (h : pairL s = some x) : x.1.length + x.2.length ≤ s.length := by
  unfold pairL at h
  have hn := nameN_le s
  have hd : (s.drop (nameN s + 1)).length = s.length - (nameN s + 1) := List.length_drop
  have hl : (lowL (s.take (nameN s))).length = nameN s := by unfold lowL; rw [List.length_map, List.length_take]; omega
  split at h
  · split at h
    · cases h; simp only [hl, List.length_nil]; omega
    · split at h
      · cases h; simp only [hl, hd]; omega
      · rw [Option.map_eq_some_iff] at h
        obtain ⟨v, hv, rfl⟩ := h
        have := (unq_sh hv).2
        simp only [hl]; omega
  · cases h
theorem pairs_len (l : List (Bs × Bs)) : (pairsL l).length ≤ fsz l := by
  unfold pairsL; exact Nat.le_trans (List.length_filterMap_le _ _) (elems_len l ccB)
theorem pairs_mem {l : List (Bs × Bs)} {p : Bs × Bs} (h : p ∈ pairsL l) : p.1.length + p.2.length ≤ fsz l := by
  unfold pairsL at h
  obtain ⟨x, hx, hp⟩ := List.mem_filterMap.1 h
  have := pairL_len hp
  have := elem_len hx
  omega
theorem valP_len (k : Bs) (P : PP) : (valP k P).length ≤ P.length := List.length_filterMap_le _ _
theorem valP_mem {k v : Bs} {P : PP} (h : v ∈ valP k P) : (k, v) ∈ P := by
  unfold valP at h
  obtain ⟨p, hp, hv⟩ := List.mem_filterMap.1 h
  split at hv
  · rename_i q
    cases hv
    rw [← eq_of_beq q]; exact hp
  · cases hv
end
section
set_option linter.all false
set_option maxRecDepth 100000
open Go Go.Ab Go.Proofs Go.Proofs.YtbdjemdhjanffaaDoor
abbrev nsB : Bs := [110, 111, 45, 115, 116, 111, 114, 101]
abbrev ncB : Bs := [110, 111, 45, 99, 97, 99, 104, 101]
abbrev prB : Bs := [112, 114, 105, 118, 97, 116, 101]
abbrev puB : Bs := [112, 117, 98, 108, 105, 99]
abbrev mrB : Bs := [109, 117, 115, 116, 45, 114, 101, 118, 97, 108, 105, 100, 97, 116, 101]
abbrev xrB : Bs := [112, 114, 111, 120, 121, 45, 114, 101, 118, 97, 108, 105, 100, 97, 116, 101]
abbrev oiB : Bs := [111, 110, 108, 121, 45, 105, 102, 45, 99, 97, 99, 104, 101, 100]
abbrev maB : Bs := [109, 97, 120, 45, 97, 103, 101]
abbrev smB : Bs := [115, 45, 109, 97, 120, 97, 103, 101]
abbrev mfB : Bs := [109, 105, 110, 45, 102, 114, 101, 115, 104]
abbrev pgB : Bs := [112, 114, 97, 103, 109, 97]
abbrev Ctl := Bool × Bool × Bool × Bool × Bool × Bool × Int × Int × Int × Int
end
section
set_option linter.all false
set_option maxRecDepth 100000
open Go Go.Ab Go.Proofs Go.Proofs.YtbdjemdhjanffaaDoor
theorem numL_nn (s : Bs) : 0 ≤ numL s := by unfold numL; split <;> omega
theorem staleN_nn (s : Bs) : 0 ≤ staleN s := by unfold staleN; split; · omega
                                                · exact numL_nn s
theorem max_map (V : List Bs) : ∀ m, V.foldl (fun m v => max2 m (numL v)) m = (V.map numL).foldl max2 m := by
  induction V with
  | nil => intro m; rfl
  | cons v V ih => intro m; exact ih _
theorem max_all (V : List Bs) : V.foldl (fun m v => max2 m (numL v)) (-1) = ofMax V := by
  unfold ofMax
  cases V with
  | nil => rfl
  | cons v V =>
    rw [if_neg (by simp), max_map, List.map_cons, List.foldl_cons]
    have h0 := numL_nn v
    have e : max2 (-1) (numL v) = numL v := by unfold max2; rw [if_pos (by omega)]
    rw [e]
    rfl
def resL (P : PP) : Ctl := (hasP nsB P, hasP ncB P, hasP prB P, hasP puB P, hasP mrB P || hasP xrB P, false, ofMin (valP maB P), ofMin (valP smB P), -1, -1)
def reqL (P : PP) : Ctl := (hasP nsB P, hasP ncB P, false, false, false, hasP oiB P, ofMin (valP maB P), -1, ofMax (valP mfB P), ofStale (valP msB P))
end
section
set_option linter.all false
set_option maxRecDepth 100000
open Go Go.Ab Go.Proofs Go.Proofs.YtbdjemdhjanffaaDoor
def prag (l : List (Bs × Bs)) : Bool := (elemsL l pgB).any fun x => lowL x == ncB
def reqA (l : List (Bs × Bs)) : Ctl := if getL l ccB = [] then ((reqL (pairsL l)).1, (reqL (pairsL l)).2.1 || prag l, (reqL (pairsL l)).2.2) else reqL (pairsL l)
end
section
set_option linter.all false
set_option maxRecDepth 100000
open Go Go.Ab Go.Proofs Go.Proofs.YtbdjemdhjanffaaDoor
theorem m25a_eq (b : Bool) (L : List Bs) (hL : L.length < 2 ^ 60) (hm : ∀ x ∈ L, x.length < 2 ^ 60) : m25a b L = some (L.any fun x => lowL x == ncB) := by
  have : ∃ r, m39a b L = some r ∧ decide (0 ≤ r) = L.any fun x => lowL x == ncB := by
    refine iter_post (fun s => ∃ i : Nat, s = (b, L, (L.length : Int), (i : Int)) ∧ i ≤ L.length ∧ (L.any fun x => lowL x == ncB) = ((L.drop i).any fun x => lowL x == ncB)) (fun s => L.length + 1 - s.2.2.2.toNat) _ ?_ _ ⟨0, rfl, by omega, by simp⟩
    rintro s ⟨i, rfl, hi, ha⟩
    by_cases h : i < L.length
    · have e1 : (L.getD i default) = L[i] := by simp [List.getD_eq_getElem?_getD, h]
      have hx := hm _ (List.getElem_mem h)
      have ha' := ha
      rw [List.drop_eq_getElem_cons h, List.any_cons] at ha'
      simp only [s39a_6, Int.toNat_natCast, e1]
      rw [if_pos (by simpa using h), if_pos ⟨by omega, by omega⟩, m26, m15_eq _ _ hx (by decide), Option.bind_some, Option.bind_some, w64_eq _ (by omega) (by omega)]
      have hlow : lowL [110, 111, 45, 99, 97, 99, 104, 101] = ncB := by decide +kernel
      rw [hlow]
      cases c : lowL L[i] == ncB with
      | true =>
        right
        rw [if_pos rfl]
        refine ⟨_, rfl, ?_⟩
        rw [ha', c]
        simp
      | false =>
        left
        rw [if_neg (by simp)]
        refine ⟨_, rfl, ⟨i + 1, rfl, by omega, ?_⟩, ?_⟩
        · rw [ha', c, Bool.false_or]
        · show L.length + 1 - ((i : Int) + 1).toNat < L.length + 1 - (i : Int).toNat
          omega
    · right
      obtain rfl : i = L.length := by omega
      simp only [s39a_6, j39a_25]
      rw [if_neg (by simp)]
      refine ⟨-1, rfl, ?_⟩
      rw [ha, List.drop_length]
      rfl
  obtain ⟨r, h1, h2⟩ := this
  simp only [m25a, h1, Option.bind_some, h2]
theorem elems_nil {l : List (Bs × Bs)} {n : Bs} (h : getL l n = []) : elemsL l n = [] := by unfold elemsL; rw [h]; rfl
theorem valP_ok {l : List (Bs × Bs)} (k : Bs) (hs : fsz l < 2 ^ 30) : (valP k (pairsL l)).length < 2 ^ 40 ∧ ∀ v ∈ valP k (pairsL l), v.length < 2 ^ 30 := by
  refine ⟨?_, fun v hv => ?_⟩
  · have := valP_len k (pairsL l)
    have := pairs_len l
    omega
  · have := pairs_mem (valP_mem hv)
    simp only at this
    omega
theorem any1 (a : Bs) (P : Bs → Bool) : [a].any P = P a := by simp
theorem any2 (a b : Bs) (P : Bs → Bool) : [a, b].any P = (P a || P b) := by simp
theorem m9_eq (b : Bool) (l : List (Bs × Bs)) (hs : fsz l < 2 ^ 30) : m9 b l = some (resL (pairsL l)) := by
  unfold m9
  rw [m18_eq b l hs, Option.bind_some]
  simp only [m19_eq _ [_] _ (by simp), m19_eq _ [_, _] _ (by simp), Option.bind_some, any1, any2, has_said, val_said]
  have h1 := valP_ok (l := l) maB hs
  have h2 := valP_ok (l := l) smB hs
  rw [m20_eq _ _ h1.1 h1.2, Option.bind_some, m20_eq _ _ h2.1 h2.2, Option.bind_some]
  rfl
theorem m7_eq (b : Bool) (l : List (Bs × Bs)) (hs : fsz l < 2 ^ 30) : m7 b l = some (reqA l) := by
  obtain ⟨z, hz⟩ := m24_eq b l ccB hs (by decide)
  have hg := getL_ssz l ccB
  have hg2 := ssz_len (getL l ccB)
  unfold m7
  rw [m18_eq b l hs, Option.bind_some]
  simp only [m19_eq _ [_] _ (by simp), Option.bind_some, any1]
  have h1 := valP_ok (l := l) maB hs
  have h2 := valP_ok (l := l) mfB hs
  have h3 := valP_ok (l := l) msB hs
  have v1 := val_said maB l
  have v2 := val_said mfB l
  have v3 := val_said msB l
  rw [← v1] at h1
  rw [← v2] at h2
  rw [← v3] at h3
  rw [m20_eq _ _ h1.1 h1.2, Option.bind_some, m20a_eq _ _ h2.1 h2.2, Option.bind_some, show ([109, 97, 120, 45, 115, 116, 97, 108, 101] : Bs) = msB from rfl, m20b_eq _ _ h3.1 h3.2, Option.bind_some]
  rw [show ([99, 97, 99, 104, 101, 45, 99, 111, 110, 116, 114, 111, 108] : Bs) = ccB from rfl, hz, Option.bind_some]
  unfold reqA
  simp only [has_said]
  rw [v1, v2, v3]
  by_cases c : getL l ccB = []
  · obtain ⟨y, hy⟩ := m14_eq b l pgB hs (by decide)
    have hE := elems_len l pgB
    have hm : ∀ x ∈ elemsL l pgB, x.length < 2 ^ 60 := fun x hx => by have := elem_len hx; omega
    rw [if_pos (by rw [c]; rfl), show ([112, 114, 97, 103, 109, 97] : Bs) = pgB from rfl, hy, Option.bind_some, m25a_eq y _ (by omega) hm, Option.bind_some, if_pos c]
    have hp : pairsL l = [] := by unfold pairsL; rw [elems_nil c]; rfl
    rw [hp]
    unfold j7_16 prag
    rfl
  · have hc : ¬ (((getL l ccB).length : Int) == 0) = true := by
      intro h
      have : (getL l ccB).length = 0 := by simpa using h
      exact c (List.eq_nil_of_length_eq_zero this)
    rw [if_neg hc, if_neg c]
    unfold j7_16v1
    rfl
end
section
set_option linter.all false
set_option maxRecDepth 100000
open Go Go.Ab Go.Proofs Go.Proofs.YtbdjemdhjanffaaDoor
theorem j4_32_k (a0 : Bool) (a1 : Bool) (a2 : Bool) (a3 : Bool) (a4 : Bool) (a5 : Bool) (a6 : Int) (a7 : Int) (a8 : Int) (a9 : Int) (c0 : Bool) (c1 : Bool) (c2 : Bool) (c3 : Bool) (c4 : Bool) (c5 : Bool) (c6 : Int) (c7 : Int) (c8 : Int) (c9 : Int) (d0 : Bool) (d1 : Bool) (d2 : Bool) (d3 : Bool) (d4 : Bool) (d5 : Bool) (d6 : Int) (d7 : Int) (d8 : Int) (d9 : Int) (n6 : m13 d6 c6 = some true) (n7 : m13 d7 c7 = some true) (q7 : a7 = -1) (q8 : c8 = -1) (q9 : c9 = -1) (q2 : a2 = false) (q3 : a3 = false) (q4 : a4 = false) (q5 : c5 = false) : j4_32 a0 a1 a2 a3 a4 a5 a6 a7 a8 a9 c0 c1 c2 c3 c4 c5 c6 c7 c8 c9 d0 d1 d2 d3 d4 d5 d6 d7 d8 d9 = some true := by
  simp [j4_32, j4_33r50, j4_33r47, j4_33r42, j4_33r37, j4_33r32, j4_33r27, j4_33r22, j4_33r17, j4_33r50v1, j4_33r47v1, j4_33r42v1, j4_33r37v1, j4_33r32v1, j4_33r27v1, j4_33r22v1, j4_33r17v1, j4_33r37v2, j4_33r32v2, j4_33r27v2, j4_33r22v2, j4_33r17v2, j4_33r50v2, j4_33r47v2, j4_33r42v2, j4_33r37v3, j4_33r32v3, j4_33r27v3, j4_33r22v3, j4_33r17v3, n6, n7, q7, q8, q9, q2, q3, q4, q5]
theorem j4_27_k (t : Bool) (a0 : Bool) (a1 : Bool) (a2 : Bool) (a3 : Bool) (a4 : Bool) (a5 : Bool) (a6 : Int) (a7 : Int) (a8 : Int) (a9 : Int) (c0 : Bool) (c1 : Bool) (c2 : Bool) (c3 : Bool) (c4 : Bool) (c5 : Bool) (c6 : Int) (c7 : Int) (c8 : Int) (c9 : Int) (d0 : Bool) (d1 : Bool) (d2 : Bool) (d3 : Bool) (d4 : Bool) (d5 : Bool) (d6 : Int) (d7 : Int) (d8 : Int) (d9 : Int) (ht : t = false) (n6 : m13 d6 c6 = some true) (n7 : m13 d7 c7 = some true) (q7 : a7 = -1) (q8 : c8 = -1) (q9 : c9 = -1) (q2 : a2 = false) (q3 : a3 = false) (q4 : a4 = false) (q5 : c5 = false) : j4_27 t a0 a1 a2 a3 a4 a5 a6 a7 a8 a9 c0 c1 c2 c3 c4 c5 c6 c7 c8 c9 d0 d1 d2 d3 d4 d5 d6 d7 d8 d9 = some true := by
  unfold j4_27
  rw [if_neg (by simp [ht])]
  exact j4_32_k _ _ _ _ _ _ _ _ _ _ _ _ _ _ _ _ _ _ _ _ _ _ _ _ _ _ _ _ _ _ n6 n7 q7 q8 q9 q2 q3 q4 q5
theorem j4_22_k (b : Bool) (l : List (Bs × Bs)) (b' : Bool) (l' : List (Bs × Bs)) (a0 : Bool) (a1 : Bool) (a2 : Bool) (a3 : Bool) (a4 : Bool) (a5 : Bool) (a6 : Int) (a7 : Int) (a8 : Int) (a9 : Int) (c0 : Bool) (c1 : Bool) (c2 : Bool) (c3 : Bool) (c4 : Bool) (c5 : Bool) (c6 : Int) (c7 : Int) (c8 : Int) (c9 : Int) (d0 : Bool) (d1 : Bool) (d2 : Bool) (d3 : Bool) (d4 : Bool) (d5 : Bool) (d6 : Int) (d7 : Int) (d8 : Int) (d9 : Int) (hC : m9 b l = some (c0, c1, c2, c3, c4, c5, c6, c7, c8, c9)) (hD : m9 b' l' = some (d0, d1, d2, d3, d4, d5, d6, d7, d8, d9)) (i0 : c0 = true → d0 = true) (i1 : c1 = true → d1 = true) (i2 : c2 = true → d2 = true) (i3 : c3 = true → d3 = true) (i4 : c4 = true → d4 = true) (n6 : m13 d6 c6 = some true) (n7 : m13 d7 c7 = some true) (q7 : a7 = -1) (q8 : c8 = -1) (q9 : c9 = -1) (q2 : a2 = false) (q3 : a3 = false) (q4 : a4 = false) (q5 : c5 = false) : j4_22 b l b' l' a0 a1 a2 a3 a4 a5 a6 a7 a8 a9 = some true := by
  unfold j4_22
  rw [hC, hD]
  simp only [Option.bind_some, j4_26r34, j4_26r25, j4_26r16, j4_26r34v1, j4_26r25v1, j4_26r16v1, j4_26r34v2, j4_26r25v2, j4_26r16v2, j4_26r34v3, j4_26r25v3, j4_26r16v3]
  cases c0
  all_goals first | (obtain rfl := i0 rfl) | skip
  all_goals cases c1
  all_goals first | (obtain rfl := i1 rfl) | skip
  all_goals cases c2
  all_goals first | (obtain rfl := i2 rfl) | skip
  all_goals cases c3
  all_goals first | (obtain rfl := i3 rfl) | skip
  all_goals cases c4
  all_goals first | (obtain rfl := i4 rfl) | skip
  all_goals simp only [Bool.false_eq_true, if_true, if_false, Bool.not_true, Bool.not_false]
  all_goals exact j4_27_k _ _ _ _ _ _ _ _ _ _ _ _ _ _ _ _ _ _ _ _ _ _ _ _ _ _ _ _ _ _ _ rfl n6 n7 q7 q8 q9 q2 q3 q4 q5
theorem j4_17_k (t : Bool) (b : Bool) (l : List (Bs × Bs)) (b' : Bool) (l' : List (Bs × Bs)) (a0 : Bool) (a1 : Bool) (a2 : Bool) (a3 : Bool) (a4 : Bool) (a5 : Bool) (a6 : Int) (a7 : Int) (a8 : Int) (a9 : Int) (c0 : Bool) (c1 : Bool) (c2 : Bool) (c3 : Bool) (c4 : Bool) (c5 : Bool) (c6 : Int) (c7 : Int) (c8 : Int) (c9 : Int) (d0 : Bool) (d1 : Bool) (d2 : Bool) (d3 : Bool) (d4 : Bool) (d5 : Bool) (d6 : Int) (d7 : Int) (d8 : Int) (d9 : Int) (ht : t = false) (hC : m9 b l = some (c0, c1, c2, c3, c4, c5, c6, c7, c8, c9)) (hD : m9 b' l' = some (d0, d1, d2, d3, d4, d5, d6, d7, d8, d9)) (i0 : c0 = true → d0 = true) (i1 : c1 = true → d1 = true) (i2 : c2 = true → d2 = true) (i3 : c3 = true → d3 = true) (i4 : c4 = true → d4 = true) (n6 : m13 d6 c6 = some true) (n7 : m13 d7 c7 = some true) (q7 : a7 = -1) (q8 : c8 = -1) (q9 : c9 = -1) (q2 : a2 = false) (q3 : a3 = false) (q4 : a4 = false) (q5 : c5 = false) : j4_17 b l b' l' t a0 a1 a2 a3 a4 a5 a6 a7 a8 a9 = some true := by
  unfold j4_17
  rw [if_neg (by simp [ht])]
  exact j4_22_k b l b' l' _ _ _ _ _ _ _ _ _ _ _ _ _ _ _ _ _ _ _ _ _ _ _ _ _ _ _ _ _ _ hC hD i0 i1 i2 i3 i4 n6 n7 q7 q8 q9 q2 q3 q4 q5
theorem j4_32v1_k (a0 : Bool) (a1 : Bool) (a2 : Bool) (a3 : Bool) (a4 : Bool) (a5 : Bool) (a6 : Int) (a7 : Int) (a8 : Int) (a9 : Int) (c0 : Bool) (c1 : Bool) (c2 : Bool) (c3 : Bool) (c4 : Bool) (c5 : Bool) (c6 : Int) (c7 : Int) (c8 : Int) (c9 : Int) (d0 : Bool) (d1 : Bool) (d2 : Bool) (d3 : Bool) (d4 : Bool) (d5 : Bool) (d6 : Int) (d7 : Int) (d8 : Int) (d9 : Int) (n6 : m13 d6 c6 = some true) (n7 : m13 d7 c7 = some true) (q7 : a7 = -1) (q8 : c8 = -1) (q9 : c9 = -1) (q2 : a2 = false) (q3 : a3 = false) (q4 : a4 = false) (q5 : c5 = false) : j4_32v1 a0 a1 a2 a3 a4 a5 a6 a7 a8 a9 c0 c1 c2 c3 c4 c5 c6 c7 c8 c9 d0 d1 d2 d3 d4 d5 d6 d7 d8 d9 = some true := by
  simp [j4_32v1, j4_33r50, j4_33r47, j4_33r42, j4_33r37, j4_33r32, j4_33r27, j4_33r22, j4_33r17, j4_33r50v1, j4_33r47v1, j4_33r42v1, j4_33r37v1, j4_33r32v1, j4_33r27v1, j4_33r22v1, j4_33r17v1, j4_33r37v2, j4_33r32v2, j4_33r27v2, j4_33r22v2, j4_33r17v2, j4_33r50v2, j4_33r47v2, j4_33r42v2, j4_33r37v3, j4_33r32v3, j4_33r27v3, j4_33r22v3, j4_33r17v3, n6, n7, q7, q8, q9, q2, q3, q4, q5]
theorem j4_27v1_k (t : Bool) (a0 : Bool) (a1 : Bool) (a2 : Bool) (a3 : Bool) (a4 : Bool) (a5 : Bool) (a6 : Int) (a7 : Int) (a8 : Int) (a9 : Int) (c0 : Bool) (c1 : Bool) (c2 : Bool) (c3 : Bool) (c4 : Bool) (c5 : Bool) (c6 : Int) (c7 : Int) (c8 : Int) (c9 : Int) (d0 : Bool) (d1 : Bool) (d2 : Bool) (d3 : Bool) (d4 : Bool) (d5 : Bool) (d6 : Int) (d7 : Int) (d8 : Int) (d9 : Int) (ht : t = false) (n6 : m13 d6 c6 = some true) (n7 : m13 d7 c7 = some true) (q7 : a7 = -1) (q8 : c8 = -1) (q9 : c9 = -1) (q2 : a2 = false) (q3 : a3 = false) (q4 : a4 = false) (q5 : c5 = false) : j4_27v1 t a0 a1 a2 a3 a4 a5 a6 a7 a8 a9 c0 c1 c2 c3 c4 c5 c6 c7 c8 c9 d0 d1 d2 d3 d4 d5 d6 d7 d8 d9 = some true := by
  unfold j4_27v1
  rw [if_neg (by simp [ht])]
  exact j4_32v1_k _ _ _ _ _ _ _ _ _ _ _ _ _ _ _ _ _ _ _ _ _ _ _ _ _ _ _ _ _ _ n6 n7 q7 q8 q9 q2 q3 q4 q5
theorem j4_22v1_k (b : Bool) (l : List (Bs × Bs)) (b' : Bool) (l' : List (Bs × Bs)) (a0 : Bool) (a1 : Bool) (a2 : Bool) (a3 : Bool) (a4 : Bool) (a5 : Bool) (a6 : Int) (a7 : Int) (a8 : Int) (a9 : Int) (c0 : Bool) (c1 : Bool) (c2 : Bool) (c3 : Bool) (c4 : Bool) (c5 : Bool) (c6 : Int) (c7 : Int) (c8 : Int) (c9 : Int) (d0 : Bool) (d1 : Bool) (d2 : Bool) (d3 : Bool) (d4 : Bool) (d5 : Bool) (d6 : Int) (d7 : Int) (d8 : Int) (d9 : Int) (hC : m9 b l = some (c0, c1, c2, c3, c4, c5, c6, c7, c8, c9)) (hD : m9 b' l' = some (d0, d1, d2, d3, d4, d5, d6, d7, d8, d9)) (i0 : c0 = true → d0 = true) (i1 : c1 = true → d1 = true) (i2 : c2 = true → d2 = true) (i3 : c3 = true → d3 = true) (i4 : c4 = true → d4 = true) (n6 : m13 d6 c6 = some true) (n7 : m13 d7 c7 = some true) (q7 : a7 = -1) (q8 : c8 = -1) (q9 : c9 = -1) (q2 : a2 = false) (q3 : a3 = false) (q4 : a4 = false) (q5 : c5 = false) : j4_22v1 b l b' l' a0 a1 a2 a3 a4 a5 a6 a7 a8 a9 = some true := by
  unfold j4_22v1
  rw [hC, hD]
  simp only [Option.bind_some, j4_26r34, j4_26r25, j4_26r16, j4_26r34v1, j4_26r25v1, j4_26r16v1, j4_26r34v2, j4_26r25v2, j4_26r16v2, j4_26r34v3, j4_26r25v3, j4_26r16v3]
  cases c0
  all_goals first | (obtain rfl := i0 rfl) | skip
  all_goals cases c1
  all_goals first | (obtain rfl := i1 rfl) | skip
  all_goals cases c2
  all_goals first | (obtain rfl := i2 rfl) | skip
  all_goals cases c3
  all_goals first | (obtain rfl := i3 rfl) | skip
  all_goals cases c4
  all_goals first | (obtain rfl := i4 rfl) | skip
  all_goals simp only [Bool.false_eq_true, if_true, if_false, Bool.not_true, Bool.not_false]
  all_goals exact j4_27v1_k _ _ _ _ _ _ _ _ _ _ _ _ _ _ _ _ _ _ _ _ _ _ _ _ _ _ _ _ _ _ _ rfl n6 n7 q7 q8 q9 q2 q3 q4 q5
theorem j4_17v1_k (t : Bool) (b : Bool) (l : List (Bs × Bs)) (b' : Bool) (l' : List (Bs × Bs)) (a0 : Bool) (a1 : Bool) (a2 : Bool) (a3 : Bool) (a4 : Bool) (a5 : Bool) (a6 : Int) (a7 : Int) (a8 : Int) (a9 : Int) (c0 : Bool) (c1 : Bool) (c2 : Bool) (c3 : Bool) (c4 : Bool) (c5 : Bool) (c6 : Int) (c7 : Int) (c8 : Int) (c9 : Int) (d0 : Bool) (d1 : Bool) (d2 : Bool) (d3 : Bool) (d4 : Bool) (d5 : Bool) (d6 : Int) (d7 : Int) (d8 : Int) (d9 : Int) (ht : t = false) (hC : m9 b l = some (c0, c1, c2, c3, c4, c5, c6, c7, c8, c9)) (hD : m9 b' l' = some (d0, d1, d2, d3, d4, d5, d6, d7, d8, d9)) (i0 : c0 = true → d0 = true) (i1 : c1 = true → d1 = true) (i2 : c2 = true → d2 = true) (i3 : c3 = true → d3 = true) (i4 : c4 = true → d4 = true) (n6 : m13 d6 c6 = some true) (n7 : m13 d7 c7 = some true) (q7 : a7 = -1) (q8 : c8 = -1) (q9 : c9 = -1) (q2 : a2 = false) (q3 : a3 = false) (q4 : a4 = false) (q5 : c5 = false) : j4_17v1 b l b' l' t a0 a1 a2 a3 a4 a5 a6 a7 a8 a9 = some true := by
  unfold j4_17v1
  rw [if_neg (by simp [ht])]
  exact j4_22v1_k b l b' l' _ _ _ _ _ _ _ _ _ _ _ _ _ _ _ _ _ _ _ _ _ _ _ _ _ _ _ _ _ _ hC hD i0 i1 i2 i3 i4 n6 n7 q7 q8 q9 q2 q3 q4 q5
theorem j4_32v2_k (a0 : Bool) (a1 : Bool) (a2 : Bool) (a3 : Bool) (a4 : Bool) (a5 : Bool) (a6 : Int) (a7 : Int) (a8 : Int) (a9 : Int) (c0 : Bool) (c1 : Bool) (c2 : Bool) (c3 : Bool) (c4 : Bool) (c5 : Bool) (c6 : Int) (c7 : Int) (c8 : Int) (c9 : Int) (d0 : Bool) (d1 : Bool) (d2 : Bool) (d3 : Bool) (d4 : Bool) (d5 : Bool) (d6 : Int) (d7 : Int) (d8 : Int) (d9 : Int) (n6 : m13 d6 c6 = some true) (n7 : m13 d7 c7 = some true) (q7 : a7 = -1) (q8 : c8 = -1) (q9 : c9 = -1) (q2 : a2 = false) (q3 : a3 = false) (q4 : a4 = false) (q5 : c5 = false) : j4_32v2 a0 a1 a2 a3 a4 a5 a6 a7 a8 a9 c0 c1 c2 c3 c4 c5 c6 c7 c8 c9 d0 d1 d2 d3 d4 d5 d6 d7 d8 d9 = some true := by
  simp [j4_32v2, j4_33r50, j4_33r47, j4_33r42, j4_33r37, j4_33r32, j4_33r27, j4_33r22, j4_33r17, j4_33r50v1, j4_33r47v1, j4_33r42v1, j4_33r37v1, j4_33r32v1, j4_33r27v1, j4_33r22v1, j4_33r17v1, j4_33r37v2, j4_33r32v2, j4_33r27v2, j4_33r22v2, j4_33r17v2, j4_33r50v2, j4_33r47v2, j4_33r42v2, j4_33r37v3, j4_33r32v3, j4_33r27v3, j4_33r22v3, j4_33r17v3, n6, n7, q7, q8, q9, q2, q3, q4, q5]
theorem j4_27v2_k (t : Bool) (a0 : Bool) (a1 : Bool) (a2 : Bool) (a3 : Bool) (a4 : Bool) (a5 : Bool) (a6 : Int) (a7 : Int) (a8 : Int) (a9 : Int) (c0 : Bool) (c1 : Bool) (c2 : Bool) (c3 : Bool) (c4 : Bool) (c5 : Bool) (c6 : Int) (c7 : Int) (c8 : Int) (c9 : Int) (d0 : Bool) (d1 : Bool) (d2 : Bool) (d3 : Bool) (d4 : Bool) (d5 : Bool) (d6 : Int) (d7 : Int) (d8 : Int) (d9 : Int) (ht : t = false) (n6 : m13 d6 c6 = some true) (n7 : m13 d7 c7 = some true) (q7 : a7 = -1) (q8 : c8 = -1) (q9 : c9 = -1) (q2 : a2 = false) (q3 : a3 = false) (q4 : a4 = false) (q5 : c5 = false) : j4_27v2 t a0 a1 a2 a3 a4 a5 a6 a7 a8 a9 c0 c1 c2 c3 c4 c5 c6 c7 c8 c9 d0 d1 d2 d3 d4 d5 d6 d7 d8 d9 = some true := by
  unfold j4_27v2
  rw [if_neg (by simp [ht])]
  exact j4_32v2_k _ _ _ _ _ _ _ _ _ _ _ _ _ _ _ _ _ _ _ _ _ _ _ _ _ _ _ _ _ _ n6 n7 q7 q8 q9 q2 q3 q4 q5
theorem j4_22v2_k (b : Bool) (l : List (Bs × Bs)) (b' : Bool) (l' : List (Bs × Bs)) (a0 : Bool) (a1 : Bool) (a2 : Bool) (a3 : Bool) (a4 : Bool) (a5 : Bool) (a6 : Int) (a7 : Int) (a8 : Int) (a9 : Int) (c0 : Bool) (c1 : Bool) (c2 : Bool) (c3 : Bool) (c4 : Bool) (c5 : Bool) (c6 : Int) (c7 : Int) (c8 : Int) (c9 : Int) (d0 : Bool) (d1 : Bool) (d2 : Bool) (d3 : Bool) (d4 : Bool) (d5 : Bool) (d6 : Int) (d7 : Int) (d8 : Int) (d9 : Int) (hC : m9 b l = some (c0, c1, c2, c3, c4, c5, c6, c7, c8, c9)) (hD : m9 b' l' = some (d0, d1, d2, d3, d4, d5, d6, d7, d8, d9)) (i0 : c0 = true → d0 = true) (i1 : c1 = true → d1 = true) (i2 : c2 = true → d2 = true) (i3 : c3 = true → d3 = true) (i4 : c4 = true → d4 = true) (n6 : m13 d6 c6 = some true) (n7 : m13 d7 c7 = some true) (q7 : a7 = -1) (q8 : c8 = -1) (q9 : c9 = -1) (q2 : a2 = false) (q3 : a3 = false) (q4 : a4 = false) (q5 : c5 = false) : j4_22v2 b l b' l' a0 a1 a2 a3 a4 a5 a6 a7 a8 a9 = some true := by
  unfold j4_22v2
  rw [hC, hD]
  simp only [Option.bind_some, j4_26r34, j4_26r25, j4_26r16, j4_26r34v1, j4_26r25v1, j4_26r16v1, j4_26r34v2, j4_26r25v2, j4_26r16v2, j4_26r34v3, j4_26r25v3, j4_26r16v3]
  cases c0
  all_goals first | (obtain rfl := i0 rfl) | skip
  all_goals cases c1
  all_goals first | (obtain rfl := i1 rfl) | skip
  all_goals cases c2
  all_goals first | (obtain rfl := i2 rfl) | skip
  all_goals cases c3
  all_goals first | (obtain rfl := i3 rfl) | skip
  all_goals cases c4
  all_goals first | (obtain rfl := i4 rfl) | skip
  all_goals simp only [Bool.false_eq_true, if_true, if_false, Bool.not_true, Bool.not_false]
  all_goals exact j4_27v2_k _ _ _ _ _ _ _ _ _ _ _ _ _ _ _ _ _ _ _ _ _ _ _ _ _ _ _ _ _ _ _ rfl n6 n7 q7 q8 q9 q2 q3 q4 q5
theorem j4_17v2_k (t : Bool) (b : Bool) (l : List (Bs × Bs)) (b' : Bool) (l' : List (Bs × Bs)) (a0 : Bool) (a1 : Bool) (a2 : Bool) (a3 : Bool) (a4 : Bool) (a5 : Bool) (a6 : Int) (a7 : Int) (a8 : Int) (a9 : Int) (c0 : Bool) (c1 : Bool) (c2 : Bool) (c3 : Bool) (c4 : Bool) (c5 : Bool) (c6 : Int) (c7 : Int) (c8 : Int) (c9 : Int) (d0 : Bool) (d1 : Bool) (d2 : Bool) (d3 : Bool) (d4 : Bool) (d5 : Bool) (d6 : Int) (d7 : Int) (d8 : Int) (d9 : Int) (ht : t = false) (hC : m9 b l = some (c0, c1, c2, c3, c4, c5, c6, c7, c8, c9)) (hD : m9 b' l' = some (d0, d1, d2, d3, d4, d5, d6, d7, d8, d9)) (i0 : c0 = true → d0 = true) (i1 : c1 = true → d1 = true) (i2 : c2 = true → d2 = true) (i3 : c3 = true → d3 = true) (i4 : c4 = true → d4 = true) (n6 : m13 d6 c6 = some true) (n7 : m13 d7 c7 = some true) (q7 : a7 = -1) (q8 : c8 = -1) (q9 : c9 = -1) (q2 : a2 = false) (q3 : a3 = false) (q4 : a4 = false) (q5 : c5 = false) : j4_17v2 b l b' l' t a0 a1 a2 a3 a4 a5 a6 a7 a8 a9 = some true := by
  unfold j4_17v2
  rw [if_neg (by simp [ht])]
  exact j4_22v2_k b l b' l' _ _ _ _ _ _ _ _ _ _ _ _ _ _ _ _ _ _ _ _ _ _ _ _ _ _ _ _ _ _ hC hD i0 i1 i2 i3 i4 n6 n7 q7 q8 q9 q2 q3 q4 q5
theorem j4_32v3_k (a0 : Bool) (a1 : Bool) (a2 : Bool) (a3 : Bool) (a4 : Bool) (a5 : Bool) (a6 : Int) (a7 : Int) (a8 : Int) (a9 : Int) (c0 : Bool) (c1 : Bool) (c2 : Bool) (c3 : Bool) (c4 : Bool) (c5 : Bool) (c6 : Int) (c7 : Int) (c8 : Int) (c9 : Int) (d0 : Bool) (d1 : Bool) (d2 : Bool) (d3 : Bool) (d4 : Bool) (d5 : Bool) (d6 : Int) (d7 : Int) (d8 : Int) (d9 : Int) (n6 : m13 d6 c6 = some true) (n7 : m13 d7 c7 = some true) (q7 : a7 = -1) (q8 : c8 = -1) (q9 : c9 = -1) (q2 : a2 = false) (q3 : a3 = false) (q4 : a4 = false) (q5 : c5 = false) : j4_32v3 a0 a1 a2 a3 a4 a5 a6 a7 a8 a9 c0 c1 c2 c3 c4 c5 c6 c7 c8 c9 d0 d1 d2 d3 d4 d5 d6 d7 d8 d9 = some true := by
  simp [j4_32v3, j4_33r50, j4_33r47, j4_33r42, j4_33r37, j4_33r32, j4_33r27, j4_33r22, j4_33r17, j4_33r50v1, j4_33r47v1, j4_33r42v1, j4_33r37v1, j4_33r32v1, j4_33r27v1, j4_33r22v1, j4_33r17v1, j4_33r37v2, j4_33r32v2, j4_33r27v2, j4_33r22v2, j4_33r17v2, j4_33r50v2, j4_33r47v2, j4_33r42v2, j4_33r37v3, j4_33r32v3, j4_33r27v3, j4_33r22v3, j4_33r17v3, n6, n7, q7, q8, q9, q2, q3, q4, q5]
theorem j4_27v3_k (t : Bool) (a0 : Bool) (a1 : Bool) (a2 : Bool) (a3 : Bool) (a4 : Bool) (a5 : Bool) (a6 : Int) (a7 : Int) (a8 : Int) (a9 : Int) (c0 : Bool) (c1 : Bool) (c2 : Bool) (c3 : Bool) (c4 : Bool) (c5 : Bool) (c6 : Int) (c7 : Int) (c8 : Int) (c9 : Int) (d0 : Bool) (d1 : Bool) (d2 : Bool) (d3 : Bool) (d4 : Bool) (d5 : Bool) (d6 : Int) (d7 : Int) (d8 : Int) (d9 : Int) (ht : t = false) (n6 : m13 d6 c6 = some true) (n7 : m13 d7 c7 = some true) (q7 : a7 = -1) (q8 : c8 = -1) (q9 : c9 = -1) (q2 : a2 = false) (q3 : a3 = false) (q4 : a4 = false) (q5 : c5 = false) : j4_27v3 t a0 a1 a2 a3 a4 a5 a6 a7 a8 a9 c0 c1 c2 c3 c4 c5 c6 c7 c8 c9 d0 d1 d2 d3 d4 d5 d6 d7 d8 d9 = some true := by
  unfold j4_27v3
  rw [if_neg (by simp [ht])]
  exact j4_32v3_k _ _ _ _ _ _ _ _ _ _ _ _ _ _ _ _ _ _ _ _ _ _ _ _ _ _ _ _ _ _ n6 n7 q7 q8 q9 q2 q3 q4 q5
theorem j4_22v3_k (b : Bool) (l : List (Bs × Bs)) (b' : Bool) (l' : List (Bs × Bs)) (a0 : Bool) (a1 : Bool) (a2 : Bool) (a3 : Bool) (a4 : Bool) (a5 : Bool) (a6 : Int) (a7 : Int) (a8 : Int) (a9 : Int) (c0 : Bool) (c1 : Bool) (c2 : Bool) (c3 : Bool) (c4 : Bool) (c5 : Bool) (c6 : Int) (c7 : Int) (c8 : Int) (c9 : Int) (d0 : Bool) (d1 : Bool) (d2 : Bool) (d3 : Bool) (d4 : Bool) (d5 : Bool) (d6 : Int) (d7 : Int) (d8 : Int) (d9 : Int) (hC : m9 b l = some (c0, c1, c2, c3, c4, c5, c6, c7, c8, c9)) (hD : m9 b' l' = some (d0, d1, d2, d3, d4, d5, d6, d7, d8, d9)) (i0 : c0 = true → d0 = true) (i1 : c1 = true → d1 = true) (i2 : c2 = true → d2 = true) (i3 : c3 = true → d3 = true) (i4 : c4 = true → d4 = true) (n6 : m13 d6 c6 = some true) (n7 : m13 d7 c7 = some true) (q7 : a7 = -1) (q8 : c8 = -1) (q9 : c9 = -1) (q2 : a2 = false) (q3 : a3 = false) (q4 : a4 = false) (q5 : c5 = false) : j4_22v3 b l b' l' a0 a1 a2 a3 a4 a5 a6 a7 a8 a9 = some true := by
  unfold j4_22v3
  rw [hC, hD]
  simp only [Option.bind_some, j4_26r34, j4_26r25, j4_26r16, j4_26r34v1, j4_26r25v1, j4_26r16v1, j4_26r34v2, j4_26r25v2, j4_26r16v2, j4_26r34v3, j4_26r25v3, j4_26r16v3]
  cases c0
  all_goals first | (obtain rfl := i0 rfl) | skip
  all_goals cases c1
  all_goals first | (obtain rfl := i1 rfl) | skip
  all_goals cases c2
  all_goals first | (obtain rfl := i2 rfl) | skip
  all_goals cases c3
  all_goals first | (obtain rfl := i3 rfl) | skip
  all_goals cases c4
  all_goals first | (obtain rfl := i4 rfl) | skip
  all_goals simp only [Bool.false_eq_true, if_true, if_false, Bool.not_true, Bool.not_false]
  all_goals exact j4_27v3_k _ _ _ _ _ _ _ _ _ _ _ _ _ _ _ _ _ _ _ _ _ _ _ _ _ _ _ _ _ _ _ rfl n6 n7 q7 q8 q9 q2 q3 q4 q5
theorem j4_17v3_k (t : Bool) (b : Bool) (l : List (Bs × Bs)) (b' : Bool) (l' : List (Bs × Bs)) (a0 : Bool) (a1 : Bool) (a2 : Bool) (a3 : Bool) (a4 : Bool) (a5 : Bool) (a6 : Int) (a7 : Int) (a8 : Int) (a9 : Int) (c0 : Bool) (c1 : Bool) (c2 : Bool) (c3 : Bool) (c4 : Bool) (c5 : Bool) (c6 : Int) (c7 : Int) (c8 : Int) (c9 : Int) (d0 : Bool) (d1 : Bool) (d2 : Bool) (d3 : Bool) (d4 : Bool) (d5 : Bool) (d6 : Int) (d7 : Int) (d8 : Int) (d9 : Int) (ht : t = false) (hC : m9 b l = some (c0, c1, c2, c3, c4, c5, c6, c7, c8, c9)) (hD : m9 b' l' = some (d0, d1, d2, d3, d4, d5, d6, d7, d8, d9)) (i0 : c0 = true → d0 = true) (i1 : c1 = true → d1 = true) (i2 : c2 = true → d2 = true) (i3 : c3 = true → d3 = true) (i4 : c4 = true → d4 = true) (n6 : m13 d6 c6 = some true) (n7 : m13 d7 c7 = some true) (q7 : a7 = -1) (q8 : c8 = -1) (q9 : c9 = -1) (q2 : a2 = false) (q3 : a3 = false) (q4 : a4 = false) (q5 : c5 = false) : j4_17v3 b l b' l' t a0 a1 a2 a3 a4 a5 a6 a7 a8 a9 = some true := by
  unfold j4_17v3
  rw [if_neg (by simp [ht])]
  exact j4_22v3_k b l b' l' _ _ _ _ _ _ _ _ _ _ _ _ _ _ _ _ _ _ _ _ _ _ _ _ _ _ _ _ _ _ hC hD i0 i1 i2 i3 i4 n6 n7 q7 q8 q9 q2 q3 q4 q5
theorem j4_14_k (b : Bool) (l : List (Bs × Bs)) (b' : Bool) (l' : List (Bs × Bs)) (a0 : Bool) (a1 : Bool) (a2 : Bool) (a3 : Bool) (a4 : Bool) (a5 : Bool) (a6 : Int) (a7 : Int) (a8 : Int) (a9 : Int) (b0 : Bool) (b1 : Bool) (b2 : Bool) (b3 : Bool) (b4 : Bool) (b5 : Bool) (b6 : Int) (b7 : Int) (b8 : Int) (b9 : Int) (c0 : Bool) (c1 : Bool) (c2 : Bool) (c3 : Bool) (c4 : Bool) (c5 : Bool) (c6 : Int) (c7 : Int) (c8 : Int) (c9 : Int) (d0 : Bool) (d1 : Bool) (d2 : Bool) (d3 : Bool) (d4 : Bool) (d5 : Bool) (d6 : Int) (d7 : Int) (d8 : Int) (d9 : Int) (hC : m9 b l = some (c0, c1, c2, c3, c4, c5, c6, c7, c8, c9)) (hD : m9 b' l' = some (d0, d1, d2, d3, d4, d5, d6, d7, d8, d9)) (i0 : c0 = true → d0 = true) (i1 : c1 = true → d1 = true) (i2 : c2 = true → d2 = true) (i3 : c3 = true → d3 = true) (i4 : c4 = true → d4 = true) (n6 : m13 d6 c6 = some true) (n7 : m13 d7 c7 = some true) (q7 : a7 = -1) (q8 : c8 = -1) (q9 : c9 = -1) (q2 : a2 = false) (q3 : a3 = false) (q4 : a4 = false) (q5 : c5 = false) (z : Bool) (L : List Bs) (hp : m14 b l [112, 114, 97, 103, 109, 97] = some (z, L)) (hn : a1 = true → b1 = false → L ≠ []) : j4_14 b l b' l' a0 a1 a2 a3 a4 a5 a6 a7 a8 a9 b0 b1 b2 b3 b4 b5 b6 b7 b8 b9 = some true := by
  unfold j4_14
  repeat' split
  · exact j4_17_k _ b l b' l' _ _ _ _ _ _ _ _ _ _ _ _ _ _ _ _ _ _ _ _ _ _ _ _ _ _ _ _ _ _ rfl hC hD i0 i1 i2 i3 i4 n6 n7 q7 q8 q9 q2 q3 q4 q5
  · rename_i h1 h2
    rw [hp, Option.bind_some]
    have := hn h1 (by simpa using h2)
    exact j4_17v1_k _ b l b' l' _ _ _ _ _ _ _ _ _ _ _ _ _ _ _ _ _ _ _ _ _ _ _ _ _ _ _ _ _ _ (by cases L with | nil => exact absurd rfl this | cons x L => simp; omega) hC hD i0 i1 i2 i3 i4 n6 n7 q7 q8 q9 q2 q3 q4 q5
  · exact j4_17_k _ b l b' l' _ _ _ _ _ _ _ _ _ _ _ _ _ _ _ _ _ _ _ _ _ _ _ _ _ _ _ _ _ _ rfl hC hD i0 i1 i2 i3 i4 n6 n7 q7 q8 q9 q2 q3 q4 q5
theorem j4_9_k (t : Bool) (b : Bool) (l : List (Bs × Bs)) (b' : Bool) (l' : List (Bs × Bs)) (a0 : Bool) (a1 : Bool) (a2 : Bool) (a3 : Bool) (a4 : Bool) (a5 : Bool) (a6 : Int) (a7 : Int) (a8 : Int) (a9 : Int) (b0 : Bool) (b1 : Bool) (b2 : Bool) (b3 : Bool) (b4 : Bool) (b5 : Bool) (b6 : Int) (b7 : Int) (b8 : Int) (b9 : Int) (c0 : Bool) (c1 : Bool) (c2 : Bool) (c3 : Bool) (c4 : Bool) (c5 : Bool) (c6 : Int) (c7 : Int) (c8 : Int) (c9 : Int) (d0 : Bool) (d1 : Bool) (d2 : Bool) (d3 : Bool) (d4 : Bool) (d5 : Bool) (d6 : Int) (d7 : Int) (d8 : Int) (d9 : Int) (ht : t = false) (hC : m9 b l = some (c0, c1, c2, c3, c4, c5, c6, c7, c8, c9)) (hD : m9 b' l' = some (d0, d1, d2, d3, d4, d5, d6, d7, d8, d9)) (i0 : c0 = true → d0 = true) (i1 : c1 = true → d1 = true) (i2 : c2 = true → d2 = true) (i3 : c3 = true → d3 = true) (i4 : c4 = true → d4 = true) (n6 : m13 d6 c6 = some true) (n7 : m13 d7 c7 = some true) (q7 : a7 = -1) (q8 : c8 = -1) (q9 : c9 = -1) (q2 : a2 = false) (q3 : a3 = false) (q4 : a4 = false) (q5 : c5 = false) (z : Bool) (L : List Bs) (hp : m14 b l [112, 114, 97, 103, 109, 97] = some (z, L)) (hn : a1 = true → b1 = false → L ≠ []) : j4_9 b l b' l' t a0 a1 a2 a3 a4 a5 a6 a7 a8 a9 b0 b1 b2 b3 b4 b5 b6 b7 b8 b9 = some true := by
  unfold j4_9
  rw [if_neg (by simp [ht])]
  exact j4_14_k b l b' l' _ _ _ _ _ _ _ _ _ _ _ _ _ _ _ _ _ _ _ _ _ _ _ _ _ _ _ _ _ _ _ _ _ _ _ _ _ _ _ _ hC hD i0 i1 i2 i3 i4 n6 n7 q7 q8 q9 q2 q3 q4 q5 z L hp hn
theorem j4_14v1_k (b : Bool) (l : List (Bs × Bs)) (b' : Bool) (l' : List (Bs × Bs)) (a0 : Bool) (a1 : Bool) (a2 : Bool) (a3 : Bool) (a4 : Bool) (a5 : Bool) (a6 : Int) (a7 : Int) (a8 : Int) (a9 : Int) (b0 : Bool) (b1 : Bool) (b2 : Bool) (b3 : Bool) (b4 : Bool) (b5 : Bool) (b6 : Int) (b7 : Int) (b8 : Int) (b9 : Int) (c0 : Bool) (c1 : Bool) (c2 : Bool) (c3 : Bool) (c4 : Bool) (c5 : Bool) (c6 : Int) (c7 : Int) (c8 : Int) (c9 : Int) (d0 : Bool) (d1 : Bool) (d2 : Bool) (d3 : Bool) (d4 : Bool) (d5 : Bool) (d6 : Int) (d7 : Int) (d8 : Int) (d9 : Int) (hC : m9 b l = some (c0, c1, c2, c3, c4, c5, c6, c7, c8, c9)) (hD : m9 b' l' = some (d0, d1, d2, d3, d4, d5, d6, d7, d8, d9)) (i0 : c0 = true → d0 = true) (i1 : c1 = true → d1 = true) (i2 : c2 = true → d2 = true) (i3 : c3 = true → d3 = true) (i4 : c4 = true → d4 = true) (n6 : m13 d6 c6 = some true) (n7 : m13 d7 c7 = some true) (q7 : a7 = -1) (q8 : c8 = -1) (q9 : c9 = -1) (q2 : a2 = false) (q3 : a3 = false) (q4 : a4 = false) (q5 : c5 = false) (z : Bool) (L : List Bs) (hp : m14 b l [112, 114, 97, 103, 109, 97] = some (z, L)) (hn : a1 = true → b1 = false → L ≠ []) : j4_14v1 b l b' l' a0 a1 a2 a3 a4 a5 a6 a7 a8 a9 b0 b1 b2 b3 b4 b5 b6 b7 b8 b9 = some true := by
  unfold j4_14v1
  repeat' split
  · exact j4_17v2_k _ b l b' l' _ _ _ _ _ _ _ _ _ _ _ _ _ _ _ _ _ _ _ _ _ _ _ _ _ _ _ _ _ _ rfl hC hD i0 i1 i2 i3 i4 n6 n7 q7 q8 q9 q2 q3 q4 q5
  · rename_i h1 h2
    rw [hp, Option.bind_some]
    have := hn h1 (by simpa using h2)
    exact j4_17v3_k _ b l b' l' _ _ _ _ _ _ _ _ _ _ _ _ _ _ _ _ _ _ _ _ _ _ _ _ _ _ _ _ _ _ (by cases L with | nil => exact absurd rfl this | cons x L => simp; omega) hC hD i0 i1 i2 i3 i4 n6 n7 q7 q8 q9 q2 q3 q4 q5
  · exact j4_17v2_k _ b l b' l' _ _ _ _ _ _ _ _ _ _ _ _ _ _ _ _ _ _ _ _ _ _ _ _ _ _ _ _ _ _ rfl hC hD i0 i1 i2 i3 i4 n6 n7 q7 q8 q9 q2 q3 q4 q5
theorem j4_9v1_k (t : Bool) (b : Bool) (l : List (Bs × Bs)) (b' : Bool) (l' : List (Bs × Bs)) (a0 : Bool) (a1 : Bool) (a2 : Bool) (a3 : Bool) (a4 : Bool) (a5 : Bool) (a6 : Int) (a7 : Int) (a8 : Int) (a9 : Int) (b0 : Bool) (b1 : Bool) (b2 : Bool) (b3 : Bool) (b4 : Bool) (b5 : Bool) (b6 : Int) (b7 : Int) (b8 : Int) (b9 : Int) (c0 : Bool) (c1 : Bool) (c2 : Bool) (c3 : Bool) (c4 : Bool) (c5 : Bool) (c6 : Int) (c7 : Int) (c8 : Int) (c9 : Int) (d0 : Bool) (d1 : Bool) (d2 : Bool) (d3 : Bool) (d4 : Bool) (d5 : Bool) (d6 : Int) (d7 : Int) (d8 : Int) (d9 : Int) (ht : t = false) (hC : m9 b l = some (c0, c1, c2, c3, c4, c5, c6, c7, c8, c9)) (hD : m9 b' l' = some (d0, d1, d2, d3, d4, d5, d6, d7, d8, d9)) (i0 : c0 = true → d0 = true) (i1 : c1 = true → d1 = true) (i2 : c2 = true → d2 = true) (i3 : c3 = true → d3 = true) (i4 : c4 = true → d4 = true) (n6 : m13 d6 c6 = some true) (n7 : m13 d7 c7 = some true) (q7 : a7 = -1) (q8 : c8 = -1) (q9 : c9 = -1) (q2 : a2 = false) (q3 : a3 = false) (q4 : a4 = false) (q5 : c5 = false) (z : Bool) (L : List Bs) (hp : m14 b l [112, 114, 97, 103, 109, 97] = some (z, L)) (hn : a1 = true → b1 = false → L ≠ []) : j4_9v1 b l b' l' t a0 a1 a2 a3 a4 a5 a6 a7 a8 a9 b0 b1 b2 b3 b4 b5 b6 b7 b8 b9 = some true := by
  unfold j4_9v1
  rw [if_neg (by simp [ht])]
  exact j4_14v1_k b l b' l' _ _ _ _ _ _ _ _ _ _ _ _ _ _ _ _ _ _ _ _ _ _ _ _ _ _ _ _ _ _ _ _ _ _ _ _ _ _ _ _ hC hD i0 i1 i2 i3 i4 n6 n7 q7 q8 q9 q2 q3 q4 q5 z L hp hn
def less (now was : Int) : Prop := was < 0 ∨ (0 ≤ now ∧ now ≤ was)
theorem m13_eq (now was : Int) (h : less now was) : m13 now was = some true := by
  unfold m13 less at *
  by_cases c : was < 0
  · rw [if_pos (by simpa using c)]
  · rw [if_neg (by simpa using c), if_pos (by simp; omega)]
    have : now ≤ was := by omega
    simp [this]
def moreA (l l' : List (Bs × Bs)) (a b : Ctl) : Prop := (a.1 = true → b.1 = true) ∧ (a.2.2.2.2.2.1 = true → b.2.2.2.2.2.1 = true) ∧ less b.2.2.2.2.2.2.1 a.2.2.2.2.2.2.1 ∧ less b.2.2.2.2.2.2.2.2.2 a.2.2.2.2.2.2.2.2.2 ∧ a.2.2.2.2.2.2.2.2.1 ≤ b.2.2.2.2.2.2.2.2.1 ∧ (a.2.1 = true → b.2.1 = false → elemsL l pgB ≠ []) ∧ a.2.2.1 = false ∧ a.2.2.2.1 = false ∧ a.2.2.2.2.1 = false ∧ a.2.2.2.2.2.2.2.1 = -1
def moreC (c d : Ctl) : Prop := (c.1 = true → d.1 = true) ∧ (c.2.1 = true → d.2.1 = true) ∧ (c.2.2.1 = true → d.2.2.1 = true) ∧ (c.2.2.2.1 = true → d.2.2.2.1 = true) ∧ (c.2.2.2.2.1 = true → d.2.2.2.2.1 = true) ∧ less d.2.2.2.2.2.2.1 c.2.2.2.2.2.2.1 ∧ less d.2.2.2.2.2.2.2.1 c.2.2.2.2.2.2.2.1 ∧ c.2.2.2.2.2.1 = false ∧ c.2.2.2.2.2.2.2.2.1 = -1 ∧ c.2.2.2.2.2.2.2.2.2 = -1
theorem m4_true (b b' : Bool) (l l' : List (Bs × Bs)) (hs : fsz l < 2 ^ 29) (hs' : fsz l' < 2 ^ 29) (H : moreA l (l ++ l') (reqA l) (reqA (l ++ l'))) (K : moreC (resL (pairsL l)) (resL (pairsL (l ++ l')))) : m4 b l b' l' = some true := by
  have hl := fsz_len l
  have hl' := fsz_len l'
  have ha : fsz (l ++ l') < 2 ^ 30 := by
    have : fsz (l ++ l') = fsz l + fsz l' := by simp [fsz]
    omega
  obtain ⟨z, hp⟩ := m14_eq b l pgB (by omega) (by decide)
  have hp : m14 b l [112, 114, 97, 103, 109, 97] = some (z, elemsL l pgB) := hp
  have hA := m7_eq b l (by omega)
  have hC := m9_eq b l (by omega)
  have hB : ∀ b, m7 b (l ++ l') = some (reqA (l ++ l')) := fun b => m7_eq b _ ha
  have hD : ∀ b, m9 b (l ++ l') = some (resL (pairsL (l ++ l'))) := fun b => m9_eq b _ ha
  generalize reqA l = A at hA H
  generalize reqA (l ++ l') = B at hB H
  generalize resL (pairsL l) = C at hC K
  generalize resL (pairsL (l ++ l')) = D at hD K
  obtain ⟨a0, a1, a2, a3, a4, a5, a6, a7, a8, a9⟩ := A
  obtain ⟨b0, b1, b2, b3, b4, b5, b6, b7, b8, b9⟩ := B
  obtain ⟨c0, c1, c2, c3, c4, c5, c6, c7, c8, c9⟩ := C
  obtain ⟨d0, d1, d2, d3, d4, d5, d6, d7, d8, d9⟩ := D
  obtain ⟨e0, e5, e6, e9, e8, e1, q2, q3, q4, q7⟩ := H
  obtain ⟨i0, i1, i2, i3, i4, n6, n7, q5, q8, q9⟩ := K
  simp only at e0 e5 e6 e9 e8 e1 q2 q3 q4 q7 i0 i1 i2 i3 i4 n6 n7 q5 q8 q9
  replace e6 := m13_eq _ _ e6
  replace e9 := m13_eq _ _ e9
  replace n6 := m13_eq _ _ n6
  replace n7 := m13_eq _ _ n7
  unfold m4
  by_cases c : l.isEmpty = true
  · rw [if_pos c]
    have : l = [] := List.isEmpty_iff.1 c
    subst this
    rw [List.nil_append] at hB hD
    by_cases c' : l'.isEmpty = true
    · rw [if_pos c']
      have : l' = [] := List.isEmpty_iff.1 c'
      subst this
      rw [hA, hB]
      replace hD := hD true
      simp only [Option.bind_some, e6, e9, if_true, j4_8r32, j4_8r24, j4_8r16, j4_8r7, j4_8r32v1, j4_8r24v1, j4_8r16v1, j4_8r7v1]
      cases a0
      all_goals first | (obtain rfl := e0 rfl) | skip
      all_goals cases a5
      all_goals first | (obtain rfl := e5 rfl) | skip
      all_goals simp only [Bool.false_eq_true, if_true, if_false, Bool.not_true, Bool.not_false, e6, e9, Option.bind_some]
      all_goals exact j4_9_k _ _ _ _ _ _ _ _ _ _ _ _ _ _ _ _ _ _ _ _ _ _ _ _ _ _ _ _ _ _ _ _ _ _ _ _ _ _ _ _ _ _ _ _ _ (decide_eq_false (by omega)) hC hD i0 i1 i2 i3 i4 n6 n7 q7 q8 q9 q2 q3 q4 q5 z _ hp e1
    · rw [if_neg c', if_pos (by omega)]
      rw [hA, hB]
      replace hD := hD false
      simp only [Option.bind_some, e6, e9, if_true, j4_8r32, j4_8r24, j4_8r16, j4_8r7, j4_8r32v1, j4_8r24v1, j4_8r16v1, j4_8r7v1]
      cases a0
      all_goals first | (obtain rfl := e0 rfl) | skip
      all_goals cases a5
      all_goals first | (obtain rfl := e5 rfl) | skip
      all_goals simp only [Bool.false_eq_true, if_true, if_false, Bool.not_true, Bool.not_false, e6, e9, Option.bind_some]
      all_goals exact j4_9v1_k _ _ _ _ _ _ _ _ _ _ _ _ _ _ _ _ _ _ _ _ _ _ _ _ _ _ _ _ _ _ _ _ _ _ _ _ _ _ _ _ _ _ _ _ _ (decide_eq_false (by omega)) hC hD i0 i1 i2 i3 i4 n6 n7 q7 q8 q9 q2 q3 q4 q5 z _ hp e1
  · rw [if_neg c, if_pos (by omega), if_pos (.inr (by omega))]
    rw [hA, hB]
    replace hD := hD false
    simp only [Option.bind_some, e6, e9, if_true, j4_8r32, j4_8r24, j4_8r16, j4_8r7, j4_8r32v1, j4_8r24v1, j4_8r16v1, j4_8r7v1]
    cases a0
    all_goals first | (obtain rfl := e0 rfl) | skip
    all_goals cases a5
    all_goals first | (obtain rfl := e5 rfl) | skip
    all_goals simp only [Bool.false_eq_true, if_true, if_false, Bool.not_true, Bool.not_false, e6, e9, Option.bind_some]
    all_goals exact j4_9v1_k _ _ _ _ _ _ _ _ _ _ _ _ _ _ _ _ _ _ _ _ _ _ _ _ _ _ _ _ _ _ _ _ _ _ _ _ _ _ _ _ _ _ _ _ _ (decide_eq_false (by omega)) hC hD i0 i1 i2 i3 i4 n6 n7 q7 q8 q9 q2 q3 q4 q5 z _ hp e1
end
section
set_option linter.all false
set_option maxRecDepth 100000
open Go Go.Ab Go.Proofs Go.Proofs.YtbdjemdhjanffaaDoor
theorem pairs_app (l l' : List (Bs × Bs)) : pairsL (l ++ l') = pairsL l ++ pairsL l' := by unfold pairsL; rw [elemsL_app, List.filterMap_append]
theorem hasP_app (k : Bs) (P Q : PP) : hasP k (P ++ Q) = (hasP k P || hasP k Q) := by unfold hasP; rw [List.any_append]
theorem valP_app (k : Bs) (P Q : PP) : valP k (P ++ Q) = valP k P ++ valP k Q := by unfold valP; rw [List.filterMap_append]
theorem minL_app {g h : List Int} (hg : g ≠ []) : minL (g ++ h) = h.foldl min2 (minL g) := by
  cases g with
  | nil => exact absurd rfl hg
  | cons a g => simp [minL, List.foldl_append]
theorem maxL_app {g h : List Int} (hg : g ≠ []) : maxL (g ++ h) = h.foldl max2 (maxL g) := by
  cases g with
  | nil => exact absurd rfl hg
  | cons a g => simp [maxL, List.foldl_append]
theorem fold_min_le (h : List Int) : ∀ m, h.foldl min2 m ≤ m := by
  induction h with
  | nil => intro m; exact Int.le_refl _
  | cons a h ih => intro m; have := ih (min2 m a); rw [List.foldl_cons]; have : min2 m a ≤ m := by unfold min2; split <;> omega
                   omega
theorem fold_max_le (h : List Int) : ∀ m, m ≤ h.foldl max2 m := by
  induction h with
  | nil => intro m; exact Int.le_refl _
  | cons a h ih => intro m; have := ih (max2 m a); rw [List.foldl_cons]; have : m ≤ max2 m a := by unfold max2; split <;> omega
                   omega
theorem fold_min_nn (h : List Int) (hh : ∀ x ∈ h, 0 ≤ x) : ∀ m, 0 ≤ m → 0 ≤ h.foldl min2 m := by
  induction h with
  | nil => intro m hm; exact hm
  | cons a h ih =>
    intro m hm
    rw [List.foldl_cons]
    have := hh a (List.mem_cons_self ..)
    exact ih (fun x hx => hh x (List.mem_cons_of_mem _ hx)) _ (by unfold min2; split <;> omega)
theorem minL_nn {g : List Int} (hg : g ≠ []) (hh : ∀ x ∈ g, 0 ≤ x) : 0 ≤ minL g := by
  cases g with
  | nil => exact absurd rfl hg
  | cons a g => exact fold_min_nn g (fun x hx => hh x (List.mem_cons_of_mem _ hx)) a (hh a (List.mem_cons_self ..))
def ofMinF (f : Bs → Int) (V : List Bs) : Int := if V = [] then -1 else minL (V.map f)
theorem ofMinF_less (f : Bs → Int) (hf : ∀ v, 0 ≤ f v) (V W : List Bs) : less (ofMinF f (V ++ W)) (ofMinF f V) := by
  unfold less ofMinF
  by_cases h : V = []
  · left; rw [if_pos h]; omega
  · right
    have hm : V.map f ≠ [] := fun q => h (List.map_eq_nil_iff.1 q)
    rw [if_neg h, if_neg (fun q => h (List.append_eq_nil_iff.1 q).1), List.map_append, minL_app hm]
    have h0 := minL_nn hm (fun x hx => by obtain ⟨v, _, rfl⟩ := List.mem_map.1 hx; exact hf v)
    exact ⟨fold_min_nn _ (fun x hx => by obtain ⟨v, _, rfl⟩ := List.mem_map.1 hx; exact hf v) _ h0, fold_min_le _ _⟩
theorem ofMax_le (V W : List Bs) : ofMax V ≤ ofMax (V ++ W) := by
  have nn : ∀ U : List Bs, -1 ≤ ofMax U := by
    intro U
    rw [← max_all]
    have : ∀ (U : List Bs) (m : Int), m ≤ U.foldl (fun m v => max2 m (numL v)) m := by
      intro U m
      rw [max_map]; exact fold_max_le _ _
    exact this U (-1)
  by_cases h : V = []
  · have : ofMax V = -1 := by unfold ofMax; rw [if_pos h]
    rw [this]; exact nn _
  · have hm : V.map numL ≠ [] := fun q => h (List.map_eq_nil_iff.1 q)
    unfold ofMax
    rw [if_neg h, if_neg (fun q => h (List.append_eq_nil_iff.1 q).1), List.map_append, maxL_app hm]
    exact fold_max_le _ _
theorem more_res (P Q : PP) : moreC (resL P) (resL (P ++ Q)) := by
  unfold moreC resL
  simp only [hasP_app, valP_app]
  refine ⟨?_, ?_, ?_, ?_, ?_, ofMinF_less numL numL_nn _ _, ofMinF_less numL numL_nn _ _, by trivial, by trivial, by trivial⟩
  all_goals (intro h; simp_all <;> rcases h with h | h <;> simp [h])
theorem reqA_o (l : List (Bs × Bs)) : (reqA l).1 = (reqL (pairsL l)).1 ∧ (reqA l).2.2 = (reqL (pairsL l)).2.2 := by unfold reqA; split <;> exact ⟨rfl, rfl⟩
theorem reqA_nc (l : List (Bs × Bs)) : (reqA l).2.1 = (hasP ncB (pairsL l) || ((getL l ccB).isEmpty && prag l)) := by
  unfold reqA
  by_cases h : getL l ccB = []
  · rw [if_pos h, h]; rfl
  · rw [if_neg h]
    have : (getL l ccB).isEmpty = false := by cases hg : getL l ccB with | nil => exact absurd hg h | cons => rfl
    rw [this]; simp [reqL]
theorem more_req (l l' : List (Bs × Bs)) : moreA l (l ++ l') (reqA l) (reqA (l ++ l')) := by
  have h1 := reqA_o l
  have h2 := reqA_o (l ++ l')
  have n1 := reqA_nc l
  have n2 := reqA_nc (l ++ l')
  rw [pairs_app] at h2 n2
  generalize reqA l = A at *
  generalize reqA (l ++ l') = B at *
  unfold moreA
  rw [h1.1, h1.2, h2.1, h2.2, n1, n2]
  simp only [reqL, hasP_app, valP_app]
  refine ⟨?_, ?_, ofMinF_less numL numL_nn _ _, ofMinF_less staleN staleN_nn _ _, ofMax_le _ _, ?_, by trivial, by trivial, by trivial, by trivial⟩
  · intro h; simp [h]
  · intro h; simp [h]
  · intro h q e
    have : prag l = false := by unfold prag; rw [e]; rfl
    rw [this] at h
    cases c : hasP ncB (pairsL l) <;> simp_all
theorem m4_ok (b b' : Bool) (l l' : List (Bs × Bs)) (hs : fsz l < 2 ^ 29) (hs' : fsz l' < 2 ^ 29) : m4 b l b' l' = some true :=
  m4_true b b' l l' hs hs' (more_req l l') (by rw [pairs_app]; exact more_res _ _)
end
section
set_option linter.all false
open Go Go.Ab Go.Proofs Go.Proofs.YtbdjemdhjanffaaDoor
theorem fsz_le (l : List (Bs × Bs)) : fsz l ≤ (List.map (fun y : Bs × Bs => (((y.1.length + 1) + ((y.2.length + 1) + 0)) + 1)) l).sum := by
  induction l with
  | nil => exact Nat.zero_le _
  | cons a l ih => simp only [fsz, List.map_cons, List.sum_cons] at ih ⊢; omega
end
