/- Plain laws of the functions. -/
import Derived.Test.YtbdjemdhjanffaaDoorEv7
import Derived.Test.YtbdjemdhjanffaaDoorFOrder4
set_option linter.all false
section
set_option linter.all false
namespace Go.Ab
open Go
theorem wu64m (x : Int) : wu64 x = x % 18446744073709551616 := by
  unfold wu64
  simp [IntKind.wrap, IntKind.min, IntKind.max, IntKind.bits, IntKind.signed] <;> omega
theorem iter_post {σ β : Type} {f : σ → Option (σ ⊕ β)} (I : σ → Prop) (μ : σ → Nat) (Q : β → Prop)
    (h : ∀ s, I s → (∃ t, f s = some (.inl t) ∧ I t ∧ μ t < μ s) ∨ (∃ r, f s = some (.inr r) ∧ Q r)) (s : σ) (hs : I s) : ∃ r, iter f s = some r ∧ Q r := by
  have key : ∀ n s, μ s < n → I s → ∃ r, iter f s = some r ∧ Q r := by
    intro n
    induction n with
    | zero => intro s h0; omega
    | succ n ih =>
      intro s hn hs
      rcases h s hs with ⟨t, ht, hI, hm⟩ | ⟨r, hr, hq⟩
      · rw [iter_l ht]; exact ih t (by omega) hI
      · exact ⟨r, iter_r hr, hq⟩
  exact key (μ s + 1) s (by omega) hs
theorem iter_to {σ β : Type} {f : σ → Option (σ ⊕ β)} (I : σ → Prop) (μ : σ → Nat) (X : Option β)
    (h : ∀ s, I s → (∃ t, f s = some (.inl t) ∧ I t ∧ μ t < μ s) ∨ f s = X.map .inr) (s : σ) (hs : I s) : iter f s = X := by
  have key : ∀ n s, μ s < n → I s → iter f s = X := by
    intro n
    induction n with
    | zero => intro s h0; omega
    | succ n ih =>
      intro s hn hs
      rcases h s hs with ⟨t, ht, hI, hm⟩ | hr
      · rw [iter_l ht]; exact ih t (by omega) hI
      · cases X with
        | none => exact iter_n hr
        | some r => exact iter_r hr
  exact key (μ s + 1) s (by omega) hs
end Go.Ab
end
section
set_option linter.all false
open Go Go.Ab Go.Proofs Go.Proofs.YtbdjemdhjanffaaDoor
namespace Go.Ab
theorem byAll {P : UInt8 → Prop} [DecidablePred P] (h : ((List.range 256).all fun n => decide (P (UInt8.ofNat n))) = true) (c : UInt8) : P c := by
  have := List.all_eq_true.1 h c.toNat (List.mem_range.2 c.toNat_lt)
  have e := of_decide_eq_true this
  have : UInt8.ofNat c.toNat = c := by simp
  rwa [this] at e
theorem drop_cons {l : Bs} {i : Nat} (h : i < l.length) : l.drop i = l.getD i 0 :: l.drop (i + 1) := by
  rw [List.drop_eq_getElem_cons h, List.getD_eq_getElem?_getD, List.getElem?_eq_getElem h, Option.getD_some]
theorem iter_g {σ β : Type} {f : σ → Option (σ ⊕ β)} (I : σ → Prop) (μ : σ → Nat) (g : σ → Option β)
    (h : ∀ s, I s → (∃ t, f s = some (.inl t) ∧ I t ∧ μ t < μ s ∧ g t = g s) ∨ f s = (g s).map .inr) (s : σ) (hs : I s) : iter f s = g s := by
  refine iter_to (fun t => I t ∧ g t = g s) μ (g s) ?_ s ⟨hs, rfl⟩
  rintro t ⟨ht, e⟩
  rcases h t ht with ⟨u, h1, h2, h3, h4⟩ | h1
  · exact .inl ⟨u, h1, ⟨h2, h4.trans e⟩, h3⟩
  · exact .inr (by rw [h1, e])
def signsL : Bs := [33, 35, 36, 37, 38, 39, 42, 43, 45, 46, 94, 95, 96, 124, 126]
def tokB (c : UInt8) : Bool := decide (97 ≤ c ∧ c ≤ 122) || decide (65 ≤ c ∧ c ≤ 90) || decide (48 ≤ c ∧ c ≤ 57) || signsL.contains c
def shB (c : UInt8) : Bool := c == 9 || (decide (32 ≤ c) && !(c == 127))
def lowB (c : UInt8) : UInt8 := if 65 ≤ c ∧ c ≤ 90 then c + 32 else c
def tokL (s : Bs) : Bool := !s.isEmpty && s.all tokB
def lowL (s : Bs) : Bs := s.map lowB
theorem m60_eq : ∀ c, m60 c = some (tokB c) := byAll (by decide +kernel)
theorem m62_eq : ∀ c, m62 c = some (shB c) := byAll (by decide +kernel)
theorem l79_eq (z : Bool) (s : Bs) (hs : s.length < 2 ^ 60) : ∃ r, m79 z s = some r ∧ decide (0 ≤ r) = s.any (fun c => !tokB c) := by
  unfold m79 l79_6
  refine iter_post (fun (x : Bool × List UInt8 × Int × Int) => x.2.1 = s ∧ x.2.2.1 = s.length ∧ 0 ≤ x.2.2.2 ∧ x.2.2.2 ≤ s.length ∧ (s.drop x.2.2.2.toNat).any (fun c => !tokB c) = s.any (fun c => !tokB c)) (fun (x : Bool × List UInt8 × Int × Int) => ((s.length : Int) - x.2.2.2).toNat) _ ?_ _ ⟨rfl, rfl, by dsimp only; omega, by dsimp only; omega, rfl⟩
  rintro ⟨z, s', n, i⟩ hI
  dsimp only at hI ⊢
  obtain ⟨rfl, rfl, h0, h1, h2⟩ := hI
  unfold s79_6 m71
  by_cases c : i < s'.length
  · have hd := drop_cons (l := s') (i := i.toNat) (by omega)
    rw [hd] at h2
    rw [if_pos (by simpa using c), if_pos ⟨h0, c⟩, show s'.getD i.toNat default = s'.getD i.toNat 0 from rfl, m60_eq]
    simp only [Option.bind_some]
    cases e : tokB (s'.getD i.toNat 0)
    · right
      refine ⟨i, by simp, ?_⟩
      rw [← h2, List.any_cons, e]
      simp [h0]
    · left
      rw [List.any_cons, e] at h2
      refine ⟨(z, s', s'.length, i + 1), by simp [w64_eq (i + 1) (by omega) (by omega)], ⟨rfl, rfl, by dsimp only; omega, by dsimp only; omega, ?_⟩, by dsimp only; omega⟩
      dsimp only
      rw [show (i + 1).toNat = i.toNat + 1 by omega, ← h2]
      simp
  · right
    refine ⟨-1, by rw [if_neg (by simpa using c)]; rfl, ?_⟩
    rw [← h2, List.drop_eq_nil_of_le (by omega)]
    rfl
theorem any_not (s : Bs) (p : UInt8 → Bool) : (!(s.any fun c => !p c)) = s.all p := by
  induction s with
  | nil => rfl
  | cons c s ih => simp [List.any_cons, List.all_cons, ← ih]
theorem m45_eq (s : Bs) (hs : s.length < 2 ^ 60) : m45 s = some (tokL s) := by
  unfold m45 m59 m70 tokL
  obtain ⟨r, h1, h2⟩ := l79_eq false s hs
  rw [h1]
  cases s with
  | nil => rfl
  | cons c s =>
    rw [if_neg (by simp)]
    simp only [Option.bind_some, h2, any_not]
    rfl
theorem low_add (c : UInt8) (h : 65 ≤ c ∧ c ≤ 90) : c + 97 - 65 = c + 32 := by
  have : ∀ c : UInt8, c + 97 - 65 = c + 32 := byAll (by decide +kernel)
  exact this c
theorem set_take {l : Bs} {i : Nat} (h : i < l.length) (x : UInt8) : (l.set i x).take (i + 1) = l.take i ++ [x] := by
  rw [List.take_succ_eq_append_getElem (by simpa using h), List.take_set, List.set_eq_of_length_le (by simp; omega)]
  simp
theorem m33_eq (s : Bs) (hs : s.length < 2 ^ 60) : m33 s = some (lowL s) := by
  unfold m33 l33_8
  refine (iter_g (fun (x : Nat × Nat × Int × Int × List UInt8) => x.1 = s.length ∧ x.2.1 = s.length ∧ x.2.2.1 = s.length ∧ 0 ≤ x.2.2.2.1 ∧ x.2.2.2.1 ≤ s.length ∧ x.2.2.2.2.length = s.length) (fun (x : Nat × Nat × Int × Int × List UInt8) => ((s.length : Int) - x.2.2.2.1).toNat) (fun (x : Nat × Nat × Int × Int × List UInt8) => some (x.2.2.2.2.take x.2.2.2.1.toNat ++ lowL (x.2.2.2.2.drop x.2.2.2.1.toNat))) ?_ (s.length, s.length, s.length, 0, s) ⟨rfl, rfl, rfl, by dsimp only; omega, by dsimp only; omega, rfl⟩).trans (by simp)
  rintro ⟨b, t, n, i, h⟩ hI
  dsimp only at hI ⊢
  obtain ⟨rfl, rfl, rfl, h0, h1, h2⟩ := hI
  unfold s33_8
  by_cases c : i < s.length
  · left
    have hd := drop_cons (l := h) (i := i.toNat) (by omega)
    have key : j33_21 s.length i (h.getD i.toNat 0) s.length s.length i (decide (65 ≤ h.getD i.toNat 0) && decide (h.getD i.toNat 0 ≤ 90)) h = some (.inl (s.length, s.length, s.length, i + 1, h.set i.toNat (lowB (h.getD i.toNat 0)))) := by
      unfold j33_21 j33_24 lowB
      rw [w64_eq (i + 1) (by omega) (by omega)]
      by_cases hc : 65 ≤ h.getD i.toNat 0 ∧ h.getD i.toNat 0 ≤ 90
      · rw [if_pos (by simpa using hc), if_pos ⟨h0, c⟩, if_pos (by omega), if_pos hc, low_add _ hc]
      · rw [if_neg (by simpa using hc), if_neg hc]
        have : h.set i.toNat (h.getD i.toNat 0) = h := by
          apply List.ext_getElem?
          intro j
          rw [List.getElem?_set]
          split
          · rename_i e; subst e
            rw [if_pos (by omega), List.getD_eq_getElem?_getD, List.getElem?_eq_getElem (by omega)]
            rfl
          · rfl
        rw [this]
    refine ⟨(s.length, s.length, s.length, i + 1, h.set i.toNat (lowB (h.getD i.toNat 0))), ?_, ⟨rfl, rfl, rfl, by dsimp only; omega, by dsimp only; omega, by simpa using h2⟩, by dsimp only; omega, ?_⟩
    · rw [if_pos (by simpa using c), if_pos ⟨h0, c⟩, if_pos (by omega)]
      by_cases a : 65 ≤ h.getD i.toNat 0
      · simp only [a, decide_true, if_true, Bool.true_and] at key ⊢
        exact key
      · simp only [a, decide_false, Bool.false_eq_true, if_false, Bool.false_and] at key ⊢
        exact key
    · dsimp only
      rw [show (i + 1).toNat = i.toNat + 1 by omega, set_take (by omega), hd, List.drop_set_of_lt (by omega)]
      simp [lowL]
  · right
    have e : i.toNat = h.length := by omega
    unfold j33_25
    rw [if_neg (by simpa using c), if_pos (by omega), e, List.take_length, List.drop_length, ← h2, List.take_length]
    simp [lowL]
end Go.Ab
end
section
set_option linter.all false
open Go Go.Ab Go.Proofs Go.Proofs.YtbdjemdhjanffaaDoor
namespace Go.Ab
def blB (c : UInt8) : Bool := c == 32 || c == 9
def trimL (s : Bs) : Bs := Lib.trimS s [32, 9]
theorem m35_eq (s : Bs) (hs : s.length < 2 ^ 60) : m35 s = some (trimL s) := by
  unfold m35 mTrim
  rw [if_pos ⟨by omega, by decide, by decide⟩]
  rfl
theorem con_bl : ∀ c : UInt8, ([32, 9] : Bs).contains c = blB c := byAll (by decide +kernel)
theorem trimL_cut {s : Bs} {a b : Nat} (hab : a < b) (hb : b ≤ s.length) (h1 : ∀ j, j < a → blB (s.getD j 0) = true) (h2 : blB (s.getD a 0) = false) (h3 : ∀ j, b ≤ j → j < s.length → blB (s.getD j 0) = true) (h4 : blB (s.getD (b - 1) 0) = false) :
    trimL s = (s.take b).drop a := by
  unfold trimL Lib.trimS
  have g : ∀ (j : Nat) x, s[j]? = some x → s.getD j 0 = x := fun j x h => by rw [List.getD_eq_getElem?_getD, h]; rfl
  rw [Lib.trimRightS_take s [32, 9] b hb (fun j x hj hx => by
    have hl := (List.getElem?_eq_some_iff.1 hx).1
    have := h3 j hj hl
    rw [g _ _ hx] at this
    rw [con_bl]; exact this) (fun x _ hx => by rw [con_bl, ← g _ _ hx]; exact h4)]
  rw [Lib.trimLeftS_drop (s.take b) [32, 9] a (by simp; omega) (fun j x hj hx => by
    rw [List.getElem?_take] at hx
    split at hx
    · have := h1 j hj
      rw [g _ _ hx] at this
      rw [con_bl]; exact this
    · cases hx) (fun x hx => by
    have hx' : s[a]? = some x := by rw [List.getElem?_take, if_pos hab] at hx; exact hx
    rw [con_bl, ← g _ _ hx']; exact h2)]
theorem trimL_nil {s : Bs} (h1 : ∀ j, j < s.length → blB (s.getD j 0) = true) : trimL s = [] := by
  unfold trimL Lib.trimS
  have g : ∀ (j : Nat) x, s[j]? = some x → s.getD j 0 = x := fun j x h => by rw [List.getD_eq_getElem?_getD, h]; rfl
  rw [Lib.trimRightS_take s [32, 9] 0 (by omega) (fun j x hj hx => by
    have hl := (List.getElem?_eq_some_iff.1 hx).1
    have := h1 j hl
    rw [g _ _ hx] at this
    rw [con_bl]; exact this) (fun x h _ => by omega)]
  rfl
theorem m34_eq {s : Bs} {a b : Nat} (hb : b ≤ s.length) (hab : a ≤ b) (hs : s.length < 2 ^ 60) (z : Bool) (l : List Bs) (hl : l.length < 2 ^ 40) :
    ∃ z', m34 b s a z l = some (s, (b : Int) + 1, z', if trimL ((s.take b).drop a) = [] then l else l ++ [trimL ((s.take b).drop a)]) := by
  unfold m34 j34_8
  rw [bnd_ok hb, Option.bind_some, bnd_ok hab, Option.bind_some, m35_eq _ (by simp; omega), Option.bind_some, w64_eq _ (by omega) (by omega)]
  by_cases c : trimL ((s.take b).drop a) = []
  · exact ⟨z, by rw [if_pos (by simpa using c), if_pos c]⟩
  · exact ⟨false, by rw [if_neg (by simpa using c), if_pos (by omega), if_neg c]⟩
theorem rune_lo {l : Bs} {p : Nat} (h : p < l.length) (hl : (l.getD p 0).toNat < 128) : uc l p = (l.getD p 0).toNat ∧ uw l p = 1 := by
  unfold uc uw
  rw [Lib.decode_at, S_get!]
  simp only [Lib.decodeN, hl, if_true, and_self]
theorem rune_hi {l : Bs} {p : Nat} (h : p < l.length) (hl : 128 ≤ (l.getD p 0).toNat) : 128 ≤ uc l p ∧ 1 ≤ uw l p ∧ p + uw l p ≤ l.length ∧ ∀ j, j < uw l p → 128 ≤ (l.getD (p + j) 0).toNat := by
  unfold uc uw
  rw [Lib.decode_at, S_get!, S_get!, S_get!, S_get!, S_size]
  have hn : ¬ (l.getD p 0).toNat < 128 := by omega
  generalize hb0 : (l.getD p 0).toNat = b0 at *
  generalize hb1 : (l.getD (p + 1) 0).toNat = b1 at *
  generalize hb2 : (l.getD (p + 2) 0).toNat = b2 at *
  generalize hb3 : (l.getD (p + 3) 0).toNat = b3 at *
  have z0 : ∀ j, j < 1 → 128 ≤ (l.getD (p + j) 0).toNat := fun j hj => by
    have : j = 0 := by omega
    subst this; simp only [Nat.add_zero]; omega
  unfold Lib.decodeN
  rw [if_neg hn]
  split
  · rename_i g
    split
    · refine ⟨by dsimp only; omega, by dsimp only; omega, by dsimp only; omega, fun j hj => ?_⟩
      have : j = 0 ∨ j = 1 := by dsimp only at hj; omega
      rcases this with rfl | rfl
      · exact z0 0 (by omega)
      · omega
    · exact ⟨by decide, by decide, by dsimp only; omega, z0⟩
  · split
    · rename_i g
      split
      · refine ⟨by dsimp only; omega, by dsimp only; omega, by dsimp only; omega, fun j hj => ?_⟩
        have : j = 0 ∨ j = 1 ∨ j = 2 := by dsimp only at hj; omega
        rcases this with rfl | rfl | rfl
        · exact z0 0 (by omega)
        · omega
        · omega
      · exact ⟨by decide, by decide, by dsimp only; omega, z0⟩
    · split
      · rename_i g
        split
        · refine ⟨by dsimp only; omega, by dsimp only; omega, by dsimp only; omega, fun j hj => ?_⟩
          have : j = 0 ∨ j = 1 ∨ j = 2 ∨ j = 3 := by dsimp only at hj; omega
          rcases this with rfl | rfl | rfl | rfl
          · exact z0 0 (by omega)
          · omega
          · omega
          · omega
        · exact ⟨by decide, by decide, by dsimp only; omega, z0⟩
      · exact ⟨by decide, by decide, by dsimp only; omega, z0⟩
def split (q m : Bool) (cur : Bs) : Bs → List Bs
  | [] => [cur]
  | c :: s =>
    if m = true then split q false (cur ++ [c]) s
    else if q = true ∧ c = 92 then split q true (cur ++ [c]) s
    else if c = 34 then split (!q) false (cur ++ [c]) s
    else if c = 44 ∧ q = false then cur :: split false false [] s
    else split q false (cur ++ [c]) s
def fl (l : List Bs) : List Bs := (l.map trimL).filter fun x => !x.isEmpty
def listL (s : Bs) : List Bs := fl (split false false [] s)
theorem fl_cons (x : Bs) (l : List Bs) : fl (x :: l) = (if trimL x = [] then [] else [trimL x]) ++ fl l := by
  unfold fl
  rw [List.map_cons, List.filter_cons]
  cases h : trimL x with
  | nil => simp
  | cons a t => simp
theorem split_plain {q m : Bool} {cur s : Bs} {c : UInt8} (h : c ≠ 92 ∧ c ≠ 34 ∧ c ≠ 44) : split q m cur (c :: s) = split q false (cur ++ [c]) s := by
  rw [split]
  cases m
  · rw [if_neg (by decide), if_neg (fun g => h.1 g.2), if_neg h.2.1, if_neg (fun g => h.2.2 g.1)]
  · rw [if_pos rfl]
theorem split_hi (q : Bool) : ∀ (n : Nat) (s : Bs) (cur : Bs), n ≤ s.length → (∀ j, j < n → 128 ≤ (s.getD j 0).toNat) → split q false cur s = split q false (cur ++ s.take n) (s.drop n) := by
  intro n
  induction n with
  | zero => intro s cur _ _; simp
  | succ n ih =>
    intro s cur hn h
    cases s with
    | nil => simp at hn
    | cons c s =>
      have h0 := h 0 (by omega)
      simp only [List.getD_cons_zero] at h0
      have hc : c ≠ 92 ∧ c ≠ 34 ∧ c ≠ 44 := ⟨fun e => by subst e; exact absurd h0 (by decide), fun e => by subst e; exact absurd h0 (by decide), fun e => by subst e; exact absurd h0 (by decide)⟩
      rw [split_plain hc, ih s _ (by simpa using hn) (fun j hj => by have := h (j + 1) (by omega); simpa using this)]
      simp
theorem split_hi' (q m : Bool) {n : Nat} {s : Bs} {cur : Bs} (h1 : 1 ≤ n) (hn : n ≤ s.length) (h : ∀ j, j < n → 128 ≤ (s.getD j 0).toNat) : split q m cur s = split q false (cur ++ s.take n) (s.drop n) := by
  cases s with
  | nil => simp at hn; omega
  | cons c s =>
    obtain ⟨n, rfl⟩ : ∃ k, n = k + 1 := ⟨n - 1, by omega⟩
    have h0 := h 0 (by omega)
    simp only [List.getD_cons_zero] at h0
    have hc : c ≠ 92 ∧ c ≠ 34 ∧ c ≠ 44 := ⟨fun e => by subst e; exact absurd h0 (by decide), fun e => by subst e; exact absurd h0 (by decide), fun e => by subst e; exact absurd h0 (by decide)⟩
    rw [split_plain hc, split_hi q n s _ (by simpa using hn) (fun j hj => by have := h (j + 1) (by omega); simpa using this)]
    simp
theorem take_drop_step {s : Bs} {f p n : Nat} (hf : f ≤ p) (hn : p + n ≤ s.length) : (s.take p).drop f ++ (s.drop p).take n = (s.take (p + n)).drop f := by
  rw [List.take_add, List.drop_append_of_le_length (by simp; omega)]
def restL (s : Bs) (q m : Bool) (f p : Nat) : List Bs := fl (split q m ((s.take p).drop f) (s.drop p))
theorem rest_end {s : Bs} {q m : Bool} {f : Nat} : restL s q m f s.length = if trimL (s.drop f) = [] then [] else [trimL (s.drop f)] := by
  unfold restL
  rw [List.drop_length, List.take_length]
  show fl [_] = _
  rw [fl_cons]
  simp [fl]
theorem cur_snoc {s : Bs} {f p : Nat} (hf : f ≤ p) (hp : p < s.length) : (s.take p).drop f ++ [s.getD p 0] = (s.take (p + 1)).drop f := by
  have := take_drop_step (s := s) (n := 1) hf (by omega)
  rw [← this, drop_cons hp]
  simp
theorem rest_step {s : Bs} {q m : Bool} {f p : Nat} (hf : f ≤ p) (hp : p < s.length) : restL s q m f p =
    if m = true then restL s q false f (p + 1)
    else if q = true ∧ s.getD p 0 = 92 then restL s q true f (p + 1)
    else if s.getD p 0 = 34 then restL s (!q) false f (p + 1)
    else if s.getD p 0 = 44 ∧ q = false then (if trimL ((s.take p).drop f) = [] then [] else [trimL ((s.take p).drop f)]) ++ restL s false false (p + 1) (p + 1)
    else restL s q false f (p + 1) := by
  unfold restL
  rw [drop_cons hp, split, cur_snoc hf hp]
  have e : (s.take (p + 1)).drop (p + 1) = [] := List.drop_eq_nil_of_le (by simp; omega)
  rw [e]
  split
  · rfl
  · split
    · rfl
    · split
      · rfl
      · split
        · rw [fl_cons]
        · rfl
theorem rest_hi {s : Bs} {q m : Bool} {f p : Nat} (hf : f ≤ p) (hp : p < s.length) (hh : 128 ≤ (s.getD p 0).toNat) : restL s q m f p = restL s q false f (p + uw s p) := by
  obtain ⟨h1, h2, h3, h4⟩ := rune_hi hp hh
  unfold restL
  rw [split_hi' q m h2 (n := uw s p) (by simp; omega) (fun j hj => by
    have := h4 j hj
    rw [List.getD_eq_getElem?_getD] at this ⊢
    rw [List.getElem?_drop]; exact this), take_drop_step hf h3, List.drop_drop]
theorem m16_big (s : Bs) (hs : s.length < 2 ^ 60) (hN : (listL s).length < 2 ^ 40) : ∃ z, m16 s = some (z, listL s) := by
  have main : ∃ r, m16 s = some r ∧ r.2 = listL s := by
    unfold m16 l16_12
    refine iter_post (fun (x : Bool × Bool × Bs × Bool × List Bs × Int × Bs × Nat) => x.2.2.1 = s ∧ x.2.2.2.2.2.2.1 = s ∧ x.2.2.2.2.2.2.2 ≤ s.length ∧ ∃ f : Nat, x.2.2.2.2.2.1 = f ∧ f ≤ x.2.2.2.2.2.2.2 ∧ (x.2.1 = true → x.1 = true) ∧ x.2.2.2.2.1 ++ restL s x.1 x.2.1 f x.2.2.2.2.2.2.2 = listL s)
      (fun (x : Bool × Bool × Bs × Bool × List Bs × Int × Bs × Nat) => s.length - x.2.2.2.2.2.2.2) _ ?_ _ ⟨rfl, rfl, by dsimp only; omega, 0, rfl, by dsimp only; omega, by simp, by dsimp only; unfold restL listL; simp⟩
    rintro ⟨q, m, s', z, l, f', s2, p⟩ hI
    dsimp only at hI ⊢
    obtain ⟨rfl, rfl, hp, f, rfl, hf, hqm, hr⟩ := hI
    have hlen : l.length < 2 ^ 40 := by
      have := congrArg List.length hr
      rw [List.length_append] at this; omega
    unfold s16_12
    by_cases c : p < s2.length
    · left
      rw [if_pos (by simpa using c)]
      by_cases hh : 128 ≤ (s2.getD p 0).toNat
      · -- no sign
        obtain ⟨h1, h2, h3, h4⟩ := rune_hi c hh
        rw [rest_hi hf c hh] at hr
        have n34 : ((uc s2 p : Int) == 34) = false := by simp; omega
        have n44 : ((uc s2 p : Int) == 44) = false := by simp; omega
        have n92 : ((uc s2 p : Int) == 92) = false := by simp; omega
        refine ⟨(q, false, s2, z, l, f, s2, p + uw s2 p), ?_, ⟨rfl, rfl, by dsimp only; omega, f, rfl, by dsimp only; omega, by simp, hr⟩, by dsimp only; omega⟩
        unfold j16_29 j16_37
        cases m <;> cases q <;> simp [n34, n44, n92]
      · obtain ⟨h1, h2⟩ := rune_lo c (by omega)
        rw [h1, h2]
        rw [rest_step hf c] at hr
        have e34 : (((s2.getD p 0).toNat : Int) == 34) = decide (s2.getD p 0 = 34) := by
          have : ∀ c : UInt8, ((c.toNat : Int) == 34) = decide (c = 34) := byAll (by decide +kernel)
          exact this _
        have e44 : (((s2.getD p 0).toNat : Int) == 44) = decide (s2.getD p 0 = 44) := by
          have : ∀ c : UInt8, ((c.toNat : Int) == 44) = decide (c = 44) := byAll (by decide +kernel)
          exact this _
        have e92 : (((s2.getD p 0).toNat : Int) == 92) = decide (s2.getD p 0 = 92) := by
          have : ∀ c : UInt8, ((c.toNat : Int) == 92) = decide (c = 92) := byAll (by decide +kernel)
          exact this _
        unfold j16_29 j16_37
        rw [e34, e44, e92]
        generalize s2.getD p 0 = b at *
        cases m with
        | true =>
          rw [if_pos rfl] at hr
          exact ⟨(q, false, s2, z, l, f, s2, p + 1), by simp, ⟨rfl, rfl, by dsimp only; omega, f, rfl, by dsimp only; omega, by simp, hr⟩, by dsimp only; omega⟩
        | false =>
          rw [if_neg (by decide)] at hr
          cases q with
          | true =>
            by_cases b92 : b = 92
            · rw [if_pos ⟨rfl, b92⟩] at hr
              exact ⟨(true, true, s2, z, l, f, s2, p + 1), by simp [b92], ⟨rfl, rfl, by dsimp only; omega, f, rfl, by dsimp only; omega, by simp, hr⟩, by dsimp only; omega⟩
            · rw [if_neg (fun h => b92 h.2)] at hr
              by_cases b34 : b = 34
              · rw [if_pos b34] at hr
                exact ⟨(false, false, s2, z, l, f, s2, p + 1), by subst b34; simp, ⟨rfl, rfl, by dsimp only; omega, f, rfl, by dsimp only; omega, by simp, hr⟩, by dsimp only; omega⟩
              · rw [if_neg b34, if_neg (by simp)] at hr
                exact ⟨(true, false, s2, z, l, f, s2, p + 1), by by_cases b44 : b = 44 <;> simp [b92, b34, b44], ⟨rfl, rfl, by dsimp only; omega, f, rfl, by dsimp only; omega, by simp, hr⟩, by dsimp only; omega⟩
          | false =>
            rw [if_neg (by simp)] at hr
            by_cases b34 : b = 34
            · rw [if_pos b34] at hr
              exact ⟨(true, false, s2, z, l, f, s2, p + 1), by simp [b34], ⟨rfl, rfl, by dsimp only; omega, f, rfl, by dsimp only; omega, by simp, hr⟩, by dsimp only; omega⟩
            · rw [if_neg b34] at hr
              by_cases b44 : b = 44
              · rw [if_pos ⟨b44, rfl⟩, ← List.append_assoc] at hr
                obtain ⟨z', hm⟩ := m34_eq (s := s2) (a := f) (b := p) (by omega) hf (by omega) z l (by omega)
                refine ⟨(false, false, s2, z', (l ++ if trimL ((s2.take p).drop f) = [] then [] else [trimL ((s2.take p).drop f)]), ((p + 1 : Nat) : Int), s2, p + 1), ?_, ⟨rfl, rfl, by dsimp only; omega, p + 1, rfl, by dsimp only; omega, by simp, hr⟩, by dsimp only; omega⟩
                · have d34 : decide (b = 34) = false := by simp [b34]
                  have d44 : decide (b = 44) = true := by simp [b44]
                  simp only [d34, d44, Bool.false_eq_true, if_false, if_true, Bool.not_false, hm, Option.bind_some]
                  split <;> simp
              · rw [if_neg (fun h => b44 h.1)] at hr
                exact ⟨(false, false, s2, z, l, f, s2, p + 1), by simp [b34, b44], ⟨rfl, rfl, by dsimp only; omega, f, rfl, by dsimp only; omega, by simp, hr⟩, by dsimp only; omega⟩
    · right
      have e : p = s2.length := by omega
      subst e
      rw [rest_end] at hr
      obtain ⟨z', hm⟩ := m34_eq (s := s2) (a := f) (b := s2.length) (Nat.le_refl _) hf (by omega) z l (by omega)
      unfold j16_40
      rw [if_neg (by simp), hm]
      refine ⟨_, rfl, ?_⟩
      dsimp only
      rw [← hr, List.take_length]
      split <;> simp
  obtain ⟨⟨z, l⟩, h1, h2⟩ := main
  exact ⟨z, by rw [h1]; simp at h2; rw [h2]⟩
end Go.Ab
end
section
set_option linter.all false
open Go Go.Ab Go.Proofs Go.Proofs.YtbdjemdhjanffaaDoor
namespace Go.Ab
theorem fl_len (l : List Bs) : (fl l).length ≤ l.length := by
  unfold fl
  exact Nat.le_trans (List.length_filter_le ..) (by simp)
theorem split_len : ∀ (s : Bs) (q m : Bool) (cur : Bs), (split q m cur s).length ≤ s.length + 1 := by
  intro s
  induction s with
  | nil => intro q m cur; simp [split]
  | cons c s ih =>
    intro q m cur
    rw [split]
    have := ih
    repeat' split
    all_goals first | exact Nat.le_trans (ih _ _ _) (by simp) | (rw [List.length_cons]; have := ih false false []; simp; omega)
theorem m16_eq (s : Bs) (hs : s.length < 2 ^ 30) : ∃ z, m16 s = some (z, listL s) := m16_big s (by omega) (by
  have := fl_len (split false false [] s)
  have := split_len s false false []
  unfold listL; omega)
end Go.Ab
end
section
set_option linter.all false
open Go Go.Ab Go.Proofs Go.Proofs.YtbdjemdhjanffaaDoor
namespace Go.Ab
def uq : Bs → Option Bs
  | [] => none
  | [c] => if c = 34 then some [] else none
  | c :: d :: t => if c = 34 then none else if c = 92 then (if shB d = true then (uq t).map (d :: ·) else none) else if shB c = true then (uq (d :: t)).map (c :: ·) else none
def pq : Bs → Option Bs
  | [] => some []
  | [c] => if c = 34 ∨ c = 92 then none else if shB c = true then some [c] else none
  | c :: d :: t => if c = 34 then none else if c = 92 then (if shB d = true then (pq t).map (d :: ·) else none) else if shB c = true then (pq (d :: t)).map (c :: ·) else none
def unqL : Bs → Option Bs
  | c :: t => if c = 34 then uq t else none
  | [] => none
theorem unqL_cons (c : UInt8) (t : Bs) : unqL (c :: t) = if c = 34 then uq t else none := rfl
theorem pq_34 (s : Bs) : pq (34 :: s) = none := by cases s <;> simp [pq]
theorem pq_92n : pq [92] = none := by simp [pq]
theorem pq_92 (d : UInt8) (t : Bs) : pq (92 :: d :: t) = if shB d = true then (pq t).map (d :: ·) else none := by
  rw [pq, if_neg (by decide), if_pos rfl]
theorem pq_c {c : UInt8} (h1 : c ≠ 34) (h2 : c ≠ 92) (s : Bs) : pq (c :: s) = if shB c = true then (pq s).map (c :: ·) else none := by
  cases s with
  | nil => simp [pq, h1, h2]
  | cons d t => rw [pq, if_neg h1, if_neg h2]
theorem uq_92 (d : UInt8) (t : Bs) : uq (92 :: d :: t) = if shB d = true then (uq t).map (d :: ·) else none := by
  rw [uq, if_neg (by decide), if_pos rfl]
theorem uq_c {c : UInt8} (h1 : c ≠ 34) (h2 : c ≠ 92) (s : Bs) : uq (c :: s) = if shB c = true then (uq s).map (c :: ·) else none := by
  cases s with
  | nil => simp [uq, h1]
  | cons d t => rw [uq, if_neg h1, if_neg h2]
theorem uq_34 (s : Bs) : uq (34 :: s) = if s = [] then some [] else none := by
  cases s with
  | nil => simp [uq]
  | cons d t => rw [uq, if_pos rfl, if_neg (by simp)]
theorem uq_92n : uq [92] = none := by simp [uq]
theorem uq_snoc : ∀ (n : Nat) (a : Bs), a.length ≤ n → uq (a ++ [34]) = pq a := by
  intro n
  induction n with
  | zero => intro a ha; have : a = [] := by cases a; rfl; simp at ha
            subst this; rfl
  | succ n ih =>
    intro a ha
    cases a with
    | nil => rfl
    | cons c s =>
      simp only [List.length_cons] at ha
      by_cases h1 : c = 34
      · subst h1
        rw [pq_34]
        show uq (34 :: (s ++ [34])) = none
        rw [uq_34, if_neg (by simp)]
      · by_cases h2 : c = 92
        · subst h2
          cases s with
          | nil => rfl
          | cons d t =>
            show uq (92 :: d :: (t ++ [34])) = _
            rw [uq_92, pq_92, ih t (by simp at ha; omega)]
        · show uq (c :: (s ++ [34])) = _
          rw [uq_c h1 h2, pq_c h1 h2, ih s (by omega)]
theorem uq_last : ∀ (n : Nat) (a r : Bs), a.length ≤ n → uq a = some r → ∃ b, a = b ++ [34] := by
  intro n
  induction n with
  | zero => intro a r ha h; have : a = [] := by cases a; rfl; simp at ha
            subst this; cases h
  | succ n ih =>
    intro a r ha h
    cases a with
    | nil => cases h
    | cons c s =>
      simp only [List.length_cons] at ha
      by_cases h1 : c = 34
      · subst h1
        rw [uq_34] at h
        split at h
        · rename_i e; subst e; exact ⟨[], rfl⟩
        · cases h
      · by_cases h2 : c = 92
        · subst h2
          cases s with
          | nil => rw [uq_92n] at h; cases h
          | cons d t =>
            rw [uq_92] at h
            split at h
            · simp only [Option.map_eq_some_iff] at h
              obtain ⟨r', h, _⟩ := h
              obtain ⟨b, rfl⟩ := ih t r' (by simp at ha; omega) h
              exact ⟨92 :: d :: b, rfl⟩
            · cases h
        · rw [uq_c h1 h2] at h
          split at h
          · simp only [Option.map_eq_some_iff] at h
            obtain ⟨r', h, _⟩ := h
            obtain ⟨b, rfl⟩ := ih s r' (by omega) h
            exact ⟨c :: b, rfl⟩
          · cases h
def unR (o : Option Bs) : Bs × Bool := match o with | some x => (x, true) | none => ([], false)
theorem l46_eq (inn : Bs) (hs : inn.length < 2 ^ 30) : l46_18 true [] inn 0 = some (unR (pq inn)) := by
  unfold l46_18
  refine (iter_g (fun (x : Bool × List UInt8 × Bs × Int) => x.2.2.1 = inn ∧ 0 ≤ x.2.2.2 ∧ x.2.2.2 ≤ inn.length ∧ x.2.1.length ≤ x.2.2.2.toNat) (fun (x : Bool × List UInt8 × Bs × Int) => ((inn.length : Int) - x.2.2.2).toNat) (fun (x : Bool × List UInt8 × Bs × Int) => some (unR ((pq (inn.drop x.2.2.2.toNat)).map (x.2.1 ++ ·)))) ?_ (true, [], inn, 0) ⟨rfl, by dsimp only; omega, by dsimp only; omega, by simp⟩).trans (by simp)
  rintro ⟨z, b, s, i⟩ hI
  dsimp only at hI ⊢
  obtain ⟨rfl, h0, h1, h2⟩ := hI
  unfold s46_18
  by_cases c : i < s.length
  · have hd := drop_cons (l := s) (i := i.toNat) (by omega)
    rw [if_pos (by simpa using c), if_pos ⟨h0, c⟩, hd]
    have take : ∀ (k : Int) (R : Option Bs), i ≤ k → k < s.length → R = (if shB (s.getD k.toNat 0) = true then (pq (s.drop (k.toNat + 1))).map (s.getD k.toNat 0 :: ·) else none) →
        (∃ t, j46_48 z b s k = some (.inl t) ∧ (t.2.2.1 = s ∧ 0 ≤ t.2.2.2 ∧ t.2.2.2 ≤ s.length ∧ t.2.1.length ≤ t.2.2.2.toNat) ∧ ((s.length : Int) - t.2.2.2).toNat < ((s.length : Int) - i).toNat ∧ some (unR ((pq (s.drop t.2.2.2.toNat)).map (t.2.1 ++ ·))) = some (unR (R.map (b ++ ·)))) ∨
          j46_48 z b s k = (some (unR (R.map (b ++ ·)))).map .inr := by
      intro k R hk hk2 hR
      unfold j46_48
      rw [if_pos ⟨by omega, hk2⟩, m62_eq, Option.bind_some, hR]
      cases e : shB (s.getD k.toNat 0)
      · right; rfl
      · left
        refine ⟨(false, b ++ [s.getD k.toNat 0], s, k + 1), ?_, ⟨rfl, by dsimp only; omega, by dsimp only; omega, by simp; omega⟩, by dsimp only; omega, ?_⟩
        · simp only [if_true]
          rw [if_pos (by omega), w64_eq (k + 1) (by omega) (by omega)]
        · dsimp only
          rw [show (k + 1).toNat = k.toNat + 1 by omega, if_pos rfl]
          cases pq (s.drop (k.toNat + 1)) <;> simp [unR]
    by_cases b34 : s.getD i.toNat 0 = 34
    · right
      rw [if_pos (by simp [b34, -List.getD_eq_getElem?_getD]), b34, pq_34]
      rfl
    · rw [if_neg (by simp [b34, -List.getD_eq_getElem?_getD])]
      by_cases b92 : s.getD i.toNat 0 = 92
      · rw [if_pos (by simp [b92, -List.getD_eq_getElem?_getD]), b92, w64_eq (i + 1) (by omega) (by omega)]
        by_cases e : i + 1 = s.length
        · right
          rw [if_pos (by simpa using e), List.drop_eq_nil_of_le (by omega), pq_92n]
          rfl
        · rw [if_neg (by simpa using e)]
          refine take (i + 1) _ (by omega) (by omega) ?_
          rw [drop_cons (l := s) (i := i.toNat + 1) (by omega), pq_92, show (i + 1).toNat = i.toNat + 1 by omega]
      · rw [if_neg (by simp [b92, -List.getD_eq_getElem?_getD])]
        exact take i _ (Int.le_refl _) c (pq_c b34 b92 _)
  · right
    unfold j46_58
    rw [if_neg (by simpa using c), List.drop_eq_nil_of_le (by omega)]
    simp [pq, unR]
theorem m46_eq (s : Bs) (hs : s.length < 2 ^ 30) : m46 s = some (unR (unqL s)) := by
  unfold m46
  have hf : j46_5 s true = some ([], false) := rfl
  cases s with
  | nil => rfl
  | cons c t =>
    by_cases h2 : t = []
    · subst h2
      rw [if_pos (by simp), hf]
      rw [unqL_cons]
      split <;> simp [uq, unR]
    · have hl : 0 < t.length := by cases t; exact absurd rfl h2; simp
      rw [if_neg (by simp <;> omega), if_pos (by simp <;> omega)]
      have e0 : (c :: t).getD 0 0 = c := rfl
      rw [e0, hf]
      by_cases h34 : c = 34
      · subst h34
        rw [if_pos (by simp), w64_eq _ (by simp <;> omega) (by simp at hs ⊢ <;> omega), if_pos ⟨by simp <;> omega, by simp <;> omega⟩]
        have ed : ((34 :: t).getD (((34 :: t).length : Int) - 1).toNat 0) = t.getLast h2 := by
          have : (((34 :: t).length : Int) - 1).toNat = t.length := by simp
          rw [this]
          obtain ⟨n, hn⟩ : ∃ n, t.length = n + 1 := ⟨t.length - 1, by omega⟩
          rw [hn, List.getD_cons_succ, List.getLast_eq_getElem, List.getD_eq_getElem?_getD, List.getElem?_eq_getElem (by omega), Option.getD_some]
          congr 1
          omega
        rw [ed]
        rw [unqL_cons, if_pos rfl]
        unfold j46_5
        have ht := List.dropLast_concat_getLast h2
        by_cases hl34 : t.getLast h2 = 34
        · rw [if_neg (by simp [hl34]), w64_eq _ (by simp <;> omega) (by simp at hs ⊢ <;> omega)]
          have e1 : bnd (((34 :: t).length : Int) - 1) (34 :: t).length = some t.length := by
            have h3 : (((34 :: t).length : Int) - 1) = (t.length : Int) := by simp
            rw [h3]; exact bnd_ok (by simp)
          have e2 : bnd 1 t.length = some 1 := by unfold bnd; rw [if_pos ⟨by omega, by omega⟩]; rfl
          rw [e1, Option.bind_some, e2, Option.bind_some]
          have e3 : ((34 :: t).take t.length).drop 1 = t.dropLast := by
            obtain ⟨n, hn⟩ : ∃ n, t.length = n + 1 := ⟨t.length - 1, by omega⟩
            rw [hn, List.take_succ_cons, List.dropLast_eq_take, hn]
            rfl
          rw [e3, l46_eq _ (by simp at hs ⊢ <;> omega)]
          rw [hl34] at ht
          rw [← uq_snoc _ _ (Nat.le_refl _), ht]
        · rw [if_pos (by simp [hl34])]
          have : uq t = none := by
            cases hu : uq t with
            | none => rfl
            | some r =>
              obtain ⟨b, hb⟩ := uq_last _ _ _ (Nat.le_refl _) hu
              exact absurd (by subst hb; simp) hl34
          rw [this]
          rfl
      · rw [if_neg (by simp [h34])]
        rw [unqL_cons, if_neg h34]
        rfl
def nameN (s : Bs) : Nat := (s.takeWhile fun c => !(c == 61)).length
theorem nameN_le (s : Bs) : nameN s ≤ s.length := by
  unfold nameN
  exact (List.takeWhile_prefix _).length_le
theorem nameN_cons (c : UInt8) (s : Bs) : nameN (c :: s) = if c = 61 then 0 else nameN s + 1 := by
  unfold nameN
  rw [List.takeWhile_cons]
  by_cases h : c = 61 <;> simp [h]
theorem nameN_lt : ∀ (s : Bs) (j : Nat), j < nameN s → s.getD j 0 ≠ 61 := by
  intro s
  induction s with
  | nil => intro j h; simp [nameN] at h
  | cons c s ih =>
    intro j h
    rw [nameN_cons] at h
    by_cases e : c = 61
    · rw [if_pos e] at h; omega
    · rw [if_neg e] at h
      cases j with
      | zero => exact e
      | succ j => rw [List.getD_cons_succ]; exact ih j (by omega)
theorem nameN_at : ∀ (s : Bs), nameN s < s.length → s.getD (nameN s) 0 = 61 := by
  intro s
  induction s with
  | nil => intro h; simp at h
  | cons c s ih =>
    intro h
    rw [nameN_cons] at h ⊢
    by_cases e : c = 61
    · rw [if_pos e]; exact e
    · rw [if_neg e] at h ⊢
      rw [List.getD_cons_succ]
      exact ih (by simpa using h)
def pairL (s : Bs) : Option (Bs × Bs) :=
  if tokL (s.take (nameN s)) = true then
    if nameN s = s.length then some (lowL (s.take (nameN s)), [])
    else if tokL (s.drop (nameN s + 1)) = true then some (lowL (s.take (nameN s)), s.drop (nameN s + 1))
    else (unqL (s.drop (nameN s + 1))).map fun v => (lowL (s.take (nameN s)), v)
  else none
def paR (o : Option (Bs × Bs)) : Bs × Bs × Bool := match o with | some x => (x.1, x.2, true) | none => ([], [], false)
theorem occ1 (s : Bs) (j : Nat) : Lib.occAt s [61] j = (decide (j < s.length) && (s.getD j 0 == 61)) := by
  unfold Lib.occAt
  by_cases h : j < s.length
  · rw [drop_cons h]
    simp [List.isPrefixOf, h, -List.getD_eq_getElem?_getD, Bool.beq_comm]
  · rw [List.drop_eq_nil_of_le (by omega)]
    simp [List.isPrefixOf, h]
theorem index1 (s : Bs) : Lib.index s [61] = if nameN s < s.length then (nameN s : Int) else -1 := by
  by_cases h : nameN s < s.length
  · rw [if_pos h]
    refine Lib.index_first (by omega) ?_ ?_
    · rw [occ1, nameN_at s h]; simp [h]
    · intro j hj
      have := nameN_lt s j hj
      rw [occ1]
      have e : (s.getD j 0 == 61) = false := by simpa [-List.getD_eq_getElem?_getD] using this
      rw [e, Bool.and_false]
  · rw [if_neg h]
    refine Lib.index_none ?_
    intro j hj
    rw [occ1]
    by_cases hj2 : j < s.length
    · have := nameN_lt s j (by omega)
      have e : (s.getD j 0 == 61) = false := by simpa [-List.getD_eq_getElem?_getD] using this
      rw [e, Bool.and_false]
    · simp [hj2]
theorem m44_eq (s : Bs) (hs : s.length < 2 ^ 30) : m44 s [61] = some (if nameN s < s.length then (s.take (nameN s), s.drop (nameN s + 1), true) else (s, [], false)) := by
  unfold m44 m58 mIx
  rw [if_pos (by omega), Option.bind_some, index1]
  by_cases h : nameN s < s.length
  · rw [if_pos h, if_pos (by simp), bnd_ok (by omega), Option.bind_some, w64_eq _ (by simp; omega) (by simp; omega), if_pos h]
    have : bnd ((nameN s : Int) + (([61] : Bs).length : Int)) s.length = some (nameN s + 1) := by
      unfold bnd
      rw [if_pos ⟨by simp; omega, by simp; omega⟩]
      congr 1
    rw [this]
    rfl
  · rw [if_neg h, if_neg (by decide), if_neg h]
    rfl
theorem m36_eq (s : Bs) (hs : s.length < 2 ^ 30) : m36 s = some (paR (pairL s)) := by
  unfold m36 pairL
  have hn := nameN_le s
  rw [m44_eq s hs, Option.bind_some]
  by_cases h : nameN s < s.length
  · rw [if_pos h, if_neg (by omega : ¬ nameN s = s.length)]
    dsimp only
    rw [m45_eq _ (by simp; omega), Option.bind_some]
    by_cases h1 : tokL (s.take (nameN s)) = true
    · rw [if_pos h1, if_pos rfl, if_pos h1, m45_eq _ (by simp; omega), Option.bind_some]
      unfold j36_15
      by_cases h2 : tokL (s.drop (nameN s + 1)) = true
      · rw [if_pos h2, if_pos h2, m33_eq _ (by simp; omega)]
        rfl
      · rw [if_neg h2, if_neg h2, m46_eq _ (by simp; omega), Option.bind_some]
        cases unqL (s.drop (nameN s + 1)) with
        | none => rfl
        | some v =>
          simp only [unR, if_true, Option.map_some, paR]
          rw [m33_eq _ (by simp; omega)]
          rfl
    · rw [if_neg h1, if_neg h1]
      rfl
  · rw [if_neg h, if_pos (by omega : nameN s = s.length)]
    dsimp only
    have e : s.take (nameN s) = s := List.take_of_length_le (by omega)
    rw [e, m45_eq _ (by omega), Option.bind_some]
    by_cases h1 : tokL s = true
    · rw [if_pos h1, if_neg (by decide), if_pos h1]
      unfold j36_15
      rw [if_pos rfl, m33_eq _ (by omega)]
      rfl
    · rw [if_neg h1, if_neg h1]
      rfl
end Go.Ab
end
section
set_option linter.all false
open Go Go.Ab Go.Proofs Go.Proofs.YtbdjemdhjanffaaDoor
namespace Go.Ab
def run : Bool → Bool → Bs → Option (Bool × Bool)
  | q, m, [] => some (q, m)
  | q, m, c :: s =>
    if m = true then run q false s
    else if q = true ∧ c = 92 then run q true s
    else if c = 34 then run (!q) false s
    else if c = 44 ∧ q = false then none
    else run q false s
theorem split_run : ∀ (x : Bs) (q m : Bool) (st : Bool × Bool) (cur r : Bs), run q m x = some st → split q m cur (x ++ r) = split st.1 st.2 (cur ++ x) r := by
  intro x
  induction x with
  | nil => intro q m st cur r h; simp [run] at h; subst h; simp
  | cons c x ih =>
    intro q m st cur r h
    rw [run] at h
    rw [List.cons_append, split]
    have e : cur ++ c :: x = (cur ++ [c]) ++ x := by simp
    rw [e]
    split at h
    · rw [if_pos (by assumption)]; exact ih _ _ _ _ _ h
    · rw [if_neg (by assumption)]
      split at h
      · rw [if_pos (by assumption)]; exact ih _ _ _ _ _ h
      · rw [if_neg (by assumption)]
        split at h
        · rw [if_pos (by assumption)]; exact ih _ _ _ _ _ h
        · rw [if_neg (by assumption)]
          split at h
          · cases h
          · rw [if_neg (by assumption)]; exact ih _ _ _ _ _ h
theorem run_app : ∀ (x : Bs) (q m : Bool) (y : Bs), run q m (x ++ y) = (run q m x).bind fun st => run st.1 st.2 y := by
  intro x
  induction x with
  | nil => intro q m y; rfl
  | cons c x ih =>
    intro q m y
    rw [List.cons_append, run, run]
    simp only [ih]
    split
    · rfl
    · split
      · rfl
      · split
        · rfl
        · split <;> rfl
theorem run_inv : ∀ (x : Bs) (q m : Bool) (st : Bool × Bool), (m = true → q = true) → run q m x = some st → (st.2 = true → st.1 = true) := by
  intro x
  induction x with
  | nil => intro q m st h e; simp [run] at e; subst e; exact h
  | cons c x ih =>
    intro q m st h e
    rw [run] at e
    split at e
    · exact ih _ _ _ (by simp) e
    · split at e
      · rename_i g; exact ih _ _ _ (fun _ => g.1) e
      · split at e
        · exact ih _ _ _ (by simp) e
        · split at e
          · cases e
          · exact ih _ _ _ (by simp) e
theorem bl_ne {c : UInt8} (h : blB c = true) : c ≠ 92 ∧ c ≠ 34 ∧ c ≠ 44 := by
  have : ∀ c : UInt8, blB c = true → c ≠ 92 ∧ c ≠ 34 ∧ c ≠ 44 := byAll (by decide +kernel)
  exact this c h
theorem run_bl : ∀ (x : Bs) (q m : Bool), x.all blB = true → run q m x = some (q, if x = [] then m else false) := by
  intro x
  induction x with
  | nil => intro q m _; rfl
  | cons c x ih =>
    intro q m h
    simp only [List.all_cons, Bool.and_eq_true] at h
    have hc := bl_ne h.1
    rw [run]
    have hx : run q false x = some (q, false) := by rw [ih q false h.2]; simp
    rw [if_neg (fun g : q = true ∧ c = 92 => hc.1 g.2), if_neg hc.2.1, if_neg (fun g : c = 44 ∧ q = false => hc.2.2 g.1), hx]
    simp
theorem all_get {s : Bs} {p : UInt8 → Bool} : s.all p = true ↔ ∀ j, j < s.length → p (s.getD j 0) = true := by
  rw [List.all_eq_true]
  constructor
  · intro h j hj
    rw [List.getD_eq_getElem?_getD, List.getElem?_eq_getElem hj]
    exact h _ (List.getElem_mem hj)
  · intro h x hx
    obtain ⟨j, hj, rfl⟩ := List.mem_iff_getElem.1 hx
    have := h j hj
    rwa [List.getD_eq_getElem?_getD, List.getElem?_eq_getElem hj] at this
theorem trimL_parts (s : Bs) : ∃ a b, a.all blB = true ∧ b.all blB = true ∧ s = a ++ (trimL s ++ b) ∧ (trimL s = [] → b = []) ∧ (trimL s ≠ [] → blB ((trimL s).getD 0 0) = false ∧ blB ((trimL s).getD ((trimL s).length - 1) 0) = false) := by
  by_cases hall : s.all blB = true
  · have e := trimL_nil (all_get.1 hall)
    exact ⟨s, [], hall, rfl, by rw [e]; simp, fun _ => rfl, fun h => absurd e h⟩
  · -- the first that is none, the last
    have hex : ∃ j, j < s.length ∧ blB (s.getD j 0) = false := by
      rcases Classical.em (∃ j, j < s.length ∧ blB (s.getD j 0) = false) with h | h
      · exact h
      · exfalso
        exact hall (all_get.2 fun j hj => by
          cases e : blB (s.getD j 0)
          · exact absurd ⟨j, hj, e⟩ h
          · rfl)
    have first : ∀ n, n ≤ s.length → (∀ j, j < n → blB (s.getD j 0) = true) ∨ ∃ a, a < n ∧ blB (s.getD a 0) = false ∧ ∀ j, j < a → blB (s.getD j 0) = true := by
      intro n
      induction n with
      | zero => intro _; left; intro j hj; omega
      | succ n ih =>
        intro hn
        rcases ih (by omega) with h | ⟨a, h1, h2⟩
        · cases e : blB (s.getD n 0)
          · right; exact ⟨n, by omega, e, h⟩
          · left; intro j hj
            by_cases e2 : j = n
            · rw [e2]; exact e
            · exact h j (by omega)
        · right; exact ⟨a, by omega, h2⟩
    have last : ∀ n, n ≤ s.length → (∀ j, s.length - n ≤ j → j < s.length → blB (s.getD j 0) = true) ∨ ∃ b, s.length - n < b ∧ b ≤ s.length ∧ blB (s.getD (b - 1) 0) = false ∧ ∀ j, b ≤ j → j < s.length → blB (s.getD j 0) = true := by
      intro n
      induction n with
      | zero => intro _; left; intro j hj hj2; omega
      | succ n ih =>
        intro hn
        rcases ih (by omega) with h | ⟨b, h1, h2⟩
        · cases e : blB (s.getD (s.length - (n + 1)) 0)
          · right; exact ⟨s.length - n, by omega, by omega, by rw [show s.length - n - 1 = s.length - (n + 1) by omega]; exact e, h⟩
          · left; intro j hj hj2
            by_cases e2 : j = s.length - (n + 1)
            · rw [e2]; exact e
            · exact h j (by omega) hj2
        · right; exact ⟨b, by omega, h2⟩
    obtain ⟨j0, hj0, hj1⟩ := hex
    rcases first s.length (Nat.le_refl _) with h | ⟨a, ha, ha2, ha3⟩
    · rw [h j0 hj0] at hj1; cases hj1
    rcases last s.length (Nat.le_refl _) with h | ⟨b, hb, hb2, hb3, hb4⟩
    · rw [h j0 (by omega) hj0] at hj1; cases hj1
    have hab : a < b := by
      rcases Nat.lt_or_ge a b with h | h
      · exact h
      · rw [hb4 a h ha] at ha2; cases ha2
    have e := trimL_cut hab hb2 ha3 ha2 hb4 hb3
    have hlen : ((s.take b).drop a).length = b - a := by simp; omega
    have hg : ∀ j, j < b - a → ((s.take b).drop a).getD j 0 = s.getD (a + j) 0 := by
      intro j hj
      rw [List.getD_eq_getElem?_getD, List.getD_eq_getElem?_getD, List.getElem?_drop, List.getElem?_take, if_pos (by omega)]
    refine ⟨s.take a, s.drop b, all_get.2 fun j hj => ?_, all_get.2 fun j hj => ?_, ?_, fun h => ?_, fun _ => ?_⟩
    · have : j < a := by simp at hj; omega
      have := ha3 j this
      rw [List.getD_eq_getElem?_getD] at this ⊢
      rw [List.getElem?_take, if_pos (by assumption)]
      exact this
    · have := hb4 (b + j) (by omega) (by simp at hj; omega)
      rw [List.getD_eq_getElem?_getD] at this ⊢
      rw [List.getElem?_drop]
      exact this
    · rw [e, ← List.append_assoc]
      have : s.take a ++ (s.take b).drop a = s.take b := by
        have := List.take_append_drop a (s.take b)
        rwa [List.take_take, Nat.min_eq_left (by omega)] at this
      rw [this, List.take_append_drop]
    · rw [e] at h
      have := congrArg List.length h
      rw [hlen] at this
      simp at this; omega
    · rw [e, hlen, hg 0 (by omega), hg (b - a - 1) (by omega), Nat.add_zero, show a + (b - a - 1) = b - 1 by omega]
      exact ⟨ha2, hb3⟩
theorem trimL_id {x : Bs} (h1 : blB (x.getD 0 0) = false) (h2 : blB (x.getD (x.length - 1) 0) = false) (h0 : x ≠ []) : trimL x = x := by
  have hl : 0 < x.length := by cases x; exact absurd rfl h0; simp
  rw [trimL_cut (a := 0) (b := x.length) hl (Nat.le_refl _) (fun j hj => by omega) h1 (fun j hj hj2 => by omega) h2]
  simp
theorem trimL_trimL (s : Bs) : trimL (trimL s) = trimL s := by
  obtain ⟨a, b, h1, h2, h3, h4, h5⟩ := trimL_parts s
  by_cases e : trimL s = []
  · rw [e]; rfl
  · exact trimL_id (h5 e).1 (h5 e).2 e
theorem run_trim {s : Bs} {st : Bool × Bool} (h : run false false s = some st) : ∃ st', run false false (trimL s) = some st' ∧ (st = (false, false) → st' = (false, false)) := by
  obtain ⟨a, b, h1, h2, h3, h4, h5⟩ := trimL_parts s
  rw [h3, run_app, run_bl a _ _ h1] at h
  simp only [Option.bind_some, ite_self] at h
  rw [run_app] at h
  simp only [Option.bind_eq_some_iff] at h
  obtain ⟨⟨q, m⟩, g1, g2⟩ := h
  have hi := run_inv _ _ _ _ (by simp) g1
  rw [run_bl b _ _ h2] at g2
  refine ⟨(q, m), g1, fun e => ?_⟩
  rw [e] at g2
  simp only [Option.some.injEq, Prod.mk.injEq] at g2
  obtain ⟨rfl, _⟩ := g2
  cases m
  · rfl
  · exact absurd (hi rfl) (by simp)
theorem split_ok : ∀ (s : Bs) (q m : Bool) (cur : Bs), run false false cur = some (q, m) → ∃ ps z, split q m cur s = ps ++ [z] ∧ (∀ p ∈ ps, run false false p = some (false, false)) ∧ ∃ st, run false false z = some st := by
  intro s
  induction s with
  | nil => intro q m cur h; exact ⟨[], cur, rfl, by simp, _, h⟩
  | cons c s ih =>
    intro q m cur h
    have hi := run_inv _ _ _ _ (by simp) h
    have hs : ∀ st, run q m [c] = some st → run false false (cur ++ [c]) = some st := by
      intro st e
      rw [run_app, h]
      exact e
    rw [split]
    simp only [run] at hs
    split
    · rename_i g; rw [if_pos g] at hs; exact ih _ _ _ (hs _ rfl)
    · rename_i g; rw [if_neg g] at hs
      split
      · rename_i g; rw [if_pos g] at hs; exact ih _ _ _ (hs _ rfl)
      · rename_i g; rw [if_neg g] at hs
        split
        · rename_i g; rw [if_pos g] at hs; exact ih _ _ _ (hs _ rfl)
        · rename_i g; rw [if_neg g] at hs
          split
          · have gg : c = 44 ∧ q = false := by assumption
            obtain ⟨ps, z, e, h1, h2⟩ := ih false false [] rfl
            refine ⟨cur :: ps, z, by rw [e]; rfl, ?_, h2⟩
            intro p hp
            rcases List.mem_cons.1 hp with rfl | hp
            · rw [h, gg.2]
              cases m
              · rfl
              · exact absurd (hi rfl) (by simp [gg.2])
            · exact h1 p hp
          · rename_i g; rw [if_neg g] at hs; exact ih _ _ _ (hs _ rfl)
theorem fl_mem {x : Bs} {l : List Bs} (h : x ∈ fl l) : x ≠ [] ∧ trimL x = x ∧ ∃ y ∈ l, x = trimL y := by
  unfold fl at h
  rw [List.mem_filter, List.mem_map] at h
  obtain ⟨⟨y, hy, rfl⟩, h2⟩ := h
  exact ⟨by intro e; rw [e] at h2; simp at h2, trimL_trimL y, y, hy, rfl⟩
def wt (l : List Bs) : Nat := (l.map fun x => x.length + 1).sum
theorem wt_cons (x : Bs) (l : List Bs) : wt (x :: l) = x.length + 1 + wt l := by simp [wt]
theorem wt_split : ∀ (s : Bs) (q m : Bool) (cur : Bs), wt (split q m cur s) = cur.length + s.length + 1 := by
  intro s
  induction s with
  | nil => intro q m cur; simp [split, wt]
  | cons c s ih =>
    intro q m cur
    rw [split]
    split
    · rw [ih]; simp; omega
    · split
      · rw [ih]; simp; omega
      · split
        · rw [ih]; simp; omega
        · split
          · rw [wt_cons, ih]; simp; omega
          · rw [ih]; simp; omega
theorem trimL_le (s : Bs) : (trimL s).length ≤ s.length := by
  obtain ⟨a, b, _, _, h, _⟩ := trimL_parts s
  have := congrArg List.length h
  simp at this; omega
theorem wt_fl (l : List Bs) : wt (fl l) ≤ wt l := by
  induction l with
  | nil => exact Nat.le_refl _
  | cons x l ih =>
    rw [fl_cons, wt_cons]
    have := trimL_le x
    split
    · rw [List.nil_append]; omega
    · rw [List.cons_append, List.nil_append, wt_cons]; omega
theorem wt_listL (s : Bs) : wt (listL s) ≤ s.length + 1 := by
  have := wt_fl (split false false [] s)
  rw [wt_split] at this
  unfold listL; simp at this; omega
theorem wt_len (l : List Bs) : l.length ≤ wt l := by
  induction l with
  | nil => simp
  | cons x l ih => rw [wt_cons]; simp; omega
theorem uq_sh : ∀ (n : Nat) (a r : Bs), a.length ≤ n → uq a = some r → r.all shB = true ∧ r.length ≤ a.length := by
  intro n
  induction n with
  | zero => intro a r ha h; have : a = [] := by cases a; rfl; simp at ha
            subst this; cases h
  | succ n ih =>
    intro a r ha h
    cases a with
    | nil => cases h
    | cons c s =>
      simp only [List.length_cons] at ha
      by_cases h1 : c = 34
      · subst h1
        rw [uq_34] at h
        split at h
        · cases h; exact ⟨rfl, by simp⟩
        · cases h
      · by_cases h2 : c = 92
        · subst h2
          cases s with
          | nil => rw [uq_92n] at h; cases h
          | cons d t =>
            rw [uq_92] at h
            split at h
            · rename_i hd
              simp only [Option.map_eq_some_iff] at h
              obtain ⟨r', h, rfl⟩ := h
              have := ih t r' (by simp at ha; omega) h
              exact ⟨by rw [List.all_cons, hd, this.1]; rfl, by simp; omega⟩
            · cases h
        · rw [uq_c h1 h2] at h
          split at h
          · rename_i hd
            simp only [Option.map_eq_some_iff] at h
            obtain ⟨r', h, rfl⟩ := h
            have := ih s r' (by omega) h
            exact ⟨by rw [List.all_cons, hd, this.1]; rfl, by simp; omega⟩
          · cases h
theorem unq_sh {a r : Bs} (h : unqL a = some r) : r.all shB = true ∧ r.length ≤ a.length := by
  cases a with
  | nil => cases h
  | cons c t =>
    rw [unqL_cons] at h
    split at h
    · have := uq_sh _ _ _ (Nat.le_refl _) h
      exact ⟨this.1, by simp; omega⟩
    · cases h
theorem listL_len (s : Bs) : (listL s).length ≤ s.length + 1 := Nat.le_trans (wt_len _) (wt_listL s)
end Go.Ab
end
section
set_option linter.all false
namespace Go.Proofs
open Go Go.Ab
theorem iter_fold {σ α γ ρ : Type} {step : σ → Option (σ ⊕ ρ)} (l : List α) (mk : γ → Nat → σ) (f : γ → α → γ) (fin : γ → ρ) (I : γ → Nat → Prop)
    (hI : ∀ g i (h : i < l.length), I g i → I (f g l[i]) (i + 1))
    (hs : ∀ g i (h : i < l.length), I g i → step (mk g i) = some (.inl (mk (f g l[i]) (i + 1))))
    (he : ∀ g, I g l.length → step (mk g l.length) = some (.inr (fin g))) (g : γ) (h0 : I g 0) : iter step (mk g 0) = some (fin (l.foldl f g)) := by
  have main : ∀ n i g, n + i = l.length → I g i → iter step (mk g i) = some (fin ((l.drop i).foldl f g)) := by
    intro n
    induction n with
    | zero =>
      intro i g hi hg
      obtain rfl : i = l.length := by omega
      rw [iter_eq, he g hg, List.drop_length]
      rfl
    | succ n ih =>
      intro i g hi hg
      have h : i < l.length := by omega
      rw [iter_eq, hs g i h hg, List.drop_eq_getElem_cons h, List.foldl_cons]
      exact ih (i + 1) _ (by omega) (hI g i h hg)
  have := main l.length 0 g (by omega) h0
  rwa [List.drop_zero] at this
end Go.Proofs
end
section
set_option linter.all false
set_option maxRecDepth 100000
open Go Go.Ab Go.Proofs Go.Proofs.YtbdjemdhjanffaaDoor
def fsz (l : List (Bs × Bs)) : Nat := (l.map fun f => f.1.length + f.2.length + 1).sum
theorem fsz_mem {l : List (Bs × Bs)} {f : Bs × Bs} (h : f ∈ l) : f.1.length + f.2.length + 1 ≤ fsz l := by
  induction l with
  | nil => cases h
  | cons a l ih =>
    simp only [fsz, List.map_cons, List.sum_cons] at ih ⊢
    rcases List.mem_cons.1 h with rfl | h
    · omega
    · have := ih h; omega
theorem fsz_len (l : List (Bs × Bs)) : l.length ≤ fsz l := by
  induction l with
  | nil => exact Nat.zero_le _
  | cons a l ih => simp only [fsz, List.map_cons, List.sum_cons, List.length_cons] at ih ⊢; omega
def getL (l : List (Bs × Bs)) (n : Bs) : List Bs := l.filterMap fun f => if lowL f.1 = lowL n then some f.2 else none
def elemsL (l : List (Bs × Bs)) (n : Bs) : List Bs := (getL l n).flatMap listL
theorem m15_eq (a b : Bs) (ha : a.length < 2 ^ 60) (hb : b.length < 2 ^ 60) : m15 a b = some (lowL a == lowL b) := by
  simp only [m15, m33_eq a ha, m33_eq b hb, Option.bind_some]
def getF (n : Bs) (g : Bool × List Bs) (x : Bs × Bs) : Bool × List Bs := if lowL x.1 = lowL n then (false, g.2 ++ [x.2]) else g
theorem getF_fold (n : Bs) (l : List (Bs × Bs)) : ∀ g : Bool × List Bs, (l.foldl (getF n) g).2 = g.2 ++ getL l n := by
  induction l with
  | nil => intro g; simp [getL]
  | cons a l ih =>
    intro g
    rw [List.foldl_cons, ih]
    unfold getF getL
    by_cases h : lowL a.1 = lowL n
    · simp [h]
    · simp [h]
theorem m24_eq (b : Bool) (l : List (Bs × Bs)) (n : Bs) (hs : fsz l < 2 ^ 30) (hn : n.length < 2 ^ 30) : ∃ z, m24 b l n = some (z, getL l n) := by
  have hl := fsz_len l
  have e := iter_fold (step := fun x : (Bs × Bool × List Bs × Bool × List (Bs × Bs) × Int × Int) => s24_8 x.1 x.2.1 x.2.2.1 x.2.2.2.1 x.2.2.2.2.1 x.2.2.2.2.2.1 x.2.2.2.2.2.2) l
    (fun (g : Bool × List Bs) (i : Nat) => (n, g.1, g.2, b, l, (l.length : Int), (i : Int))) (getF n) (fun g => g) (fun g i => g.2.length ≤ i)
    (fun g i h hg => by
      unfold getF
      split
      · rw [List.length_append]; simp only [List.length_singleton]; omega
      · omega)
    (fun g i h hg => by
      have hm := fsz_mem (List.getElem_mem h)
      have e1 : (l.getD i default) = l[i] := by simp [List.getD_eq_getElem?_getD, h]
      simp only [s24_8, j24_24, Int.toNat_natCast, e1]
      rw [if_pos (by simpa using h), if_pos ⟨by omega, by omega⟩, m15_eq _ _ (by omega) (by omega), Option.bind_some, w64_eq _ (by omega) (by omega)]
      unfold getF
      by_cases c : lowL l[i].1 = lowL n
      · rw [if_pos (by simpa using c), if_pos (by omega), if_pos c]; rfl
      · rw [if_neg (by simpa using c), if_neg c]; rfl)
    (fun g hg => by
      simp only [s24_8, j24_25]
      rw [if_neg (by simp)]
      rfl) (true, []) (by simp)
  have e2 : m24 b l n = some (l.foldl (getF n) (true, [])) := e
  have h2 := getF_fold n l (true, [])
  rw [List.nil_append] at h2
  rw [e2, ← h2]
  exact ⟨_, rfl⟩
end
section
set_option linter.all false
set_option maxRecDepth 100000
open Go Go.Ab Go.Proofs Go.Proofs.YtbdjemdhjanffaaDoor
def ssz (l : List Bs) : Nat := (l.map fun s => s.length + 1).sum
theorem ssz_drop (l : List Bs) (i : Nat) (h : i < l.length) : ssz (l.drop i) = l[i].length + 1 + ssz (l.drop (i + 1)) := by
  rw [List.drop_eq_getElem_cons h]; rfl
theorem ssz_len (l : List Bs) : l.length ≤ ssz l := by
  induction l with
  | nil => exact Nat.zero_le _
  | cons a l ih => simp only [ssz, List.map_cons, List.sum_cons, List.length_cons] at ih ⊢; omega
theorem getL_ssz (l : List (Bs × Bs)) (n : Bs) : ssz (getL l n) ≤ fsz l := by
  induction l with
  | nil => exact Nat.zero_le _
  | cons a l ih =>
    unfold getL at ih ⊢
    by_cases h : lowL a.1 = lowL n
    · simp only [List.filterMap_cons, h, if_true, ssz, List.map_cons, List.sum_cons, fsz] at ih ⊢; omega
    · simp only [List.filterMap_cons, h, if_false, ssz, fsz, List.map_cons, List.sum_cons] at ih ⊢; omega
def elF (g : Bool × List Bs) (x : Bs) : Bool × List Bs := (g.1 && (listL x).isEmpty, g.2 ++ listL x)
theorem elF_fold (l : List Bs) : ∀ g : Bool × List Bs, (l.foldl elF g).2 = g.2 ++ l.flatMap listL := by
  induction l with
  | nil => intro g; simp
  | cons a l ih => intro g; rw [List.foldl_cons, ih]; simp [elF]
theorem m14_eq (b : Bool) (l : List (Bs × Bs)) (n : Bs) (hs : fsz l < 2 ^ 30) (hn : n.length < 2 ^ 30) : ∃ z, m14 b l n = some (z, elemsL l n) := by
  obtain ⟨z, hz⟩ := m24_eq b l n hs hn
  have hg := getL_ssz l n
  have hlen := ssz_len (getL l n)
  unfold elemsL
  generalize getL l n = L at hz hg hlen
  have e := iter_fold (step := fun x : (Bool × List Bs × Bool × List Bs × Int × Int) => s14_8 x.1 x.2.1 x.2.2.1 x.2.2.2.1 x.2.2.2.2.1 x.2.2.2.2.2) L
    (fun (g : Bool × List Bs) (i : Nat) => (g.1, g.2, z, L, (L.length : Int), (i : Int))) elF (fun g => g) (fun g i => g.2.length + ssz (L.drop i) ≤ fsz l)
    (fun g i h hi => by
      rw [ssz_drop L i h] at hi
      have := listL_len L[i]
      simp only [elF, List.length_append]
      omega)
    (fun g i h hi => by
      have e1 : (L.getD i default) = L[i] := by simp [List.getD_eq_getElem?_getD, h]
      rw [ssz_drop L i h] at hi
      have := listL_len L[i]
      obtain ⟨y, hy⟩ := m16_eq L[i] (by omega)
      simp only [s14_8, Int.toNat_natCast, e1]
      rw [if_pos (by simpa using h), if_pos ⟨by omega, by omega⟩, hy, Option.bind_some, if_pos (.inr (by dsimp only; omega)), w64_eq _ (by omega) (by omega)]
      rfl)
    (fun g hg => by
      simp only [s14_8, j14_21]
      rw [if_neg (by simp)]
      rfl) (true, []) (by simpa using hg)
  have e2 : m14 b l n = some (L.foldl elF (true, [])) := by
    rw [m14, hz, Option.bind_some]; exact e
  have h2 := elF_fold L (true, [])
  rw [List.nil_append] at h2
  rw [e2, ← h2]
  exact ⟨_, rfl⟩
end
section
set_option linter.all false
set_option maxRecDepth 100000
open Go Go.Ab Go.Proofs Go.Proofs.YtbdjemdhjanffaaDoor
theorem elemsL_cons (a : Bs × Bs) (l : List (Bs × Bs)) (n : Bs) : elemsL (a :: l) n = (if lowL a.1 = lowL n then listL a.2 else []) ++ elemsL l n := by
  unfold elemsL getL
  by_cases h : lowL a.1 = lowL n <;> simp [h]
theorem elemsL_app (a l : List (Bs × Bs)) (n : Bs) : elemsL (a ++ l) n = elemsL a n ++ elemsL l n := by
  unfold elemsL getL; rw [List.filterMap_append, List.flatMap_append]
end
section
set_option linter.all false
set_option maxRecDepth 100000
open Go Go.Ab Go.Proofs Go.Proofs.YtbdjemdhjanffaaDoor
def putM (k x : Bs) (kvs : Kvs) : Kvs := if hasM k kvs = true then appM k x kvs else kvs ++ [(k, [x])]
theorem has_app (k x k' : Bs) (kvs : Kvs) : hasM k' (appM k x kvs) = hasM k' kvs := by
  induction kvs with
  | nil => rfl
  | cons p r ih =>
    unfold appM
    by_cases e : p.1 = k
    · rw [if_pos e, hasM_cons, hasM_cons]
    · rw [if_neg e, hasM_cons, hasM_cons, ih]
theorem val_app (k x k' : Bs) (kvs : Kvs) (h : hasM k kvs = true) : valM k' (appM k x kvs) = valM k' kvs ++ (if k = k' then [x] else []) := by
  induction kvs with
  | nil => cases h
  | cons p r ih =>
    unfold appM
    by_cases e : p.1 = k
    · rw [if_pos e]
      by_cases q : k = k'
      · subst q; rw [valM_eq k (p.1, p.2 ++ [x]) r e, valM_eq k p r e, if_pos rfl]
      · have e' : ¬ p.1 = k' := fun z => q (e.symm.trans z)
        rw [valM_ne k' (p.1, p.2 ++ [x]) r e', valM_ne k' p r e', if_neg q, List.append_nil]
    · rw [if_neg e]
      have ih' := ih (hasM_ne e h)
      by_cases q : p.1 = k'
      · have : ¬ k = k' := fun z => e (q.trans z.symm)
        rw [valM_eq k' _ _ q, valM_eq k' p r q, if_neg this, List.append_nil]
      · rw [valM_ne k' _ _ q, valM_ne k' p r q, ih']
theorem val_snoc (k x k' : Bs) (kvs : Kvs) (h : hasM k kvs = false) : valM k' (kvs ++ [(k, [x])]) = valM k' kvs ++ (if k = k' then [x] else []) := by
  induction kvs with
  | nil =>
    by_cases q : k = k'
    · subst q; simp [valM]
    · have : (k == k') = false := beq_eq_false_iff_ne.2 q
      simp [valM, List.find?_cons, this, q]
  | cons p r ih =>
    have e : ¬ p.1 = k := fun e => by rw [hasM_cons, beq_iff_eq.2 e] at h; cases h
    rw [List.cons_append]
    by_cases q : p.1 = k'
    · have : ¬ k = k' := fun z => e (q.trans z.symm)
      rw [valM_eq k' _ _ q, valM_eq k' p r q, if_neg this, List.append_nil]
    · rw [valM_ne k' _ _ q, valM_ne k' p r q, ih (hasM_ne e h)]
theorem has_put (k x k' : Bs) (kvs : Kvs) : hasM k' (putM k x kvs) = (hasM k' kvs || k == k') := by
  unfold putM
  by_cases h : hasM k kvs = true
  · rw [if_pos h, has_app]
    by_cases q : k = k'
    · subst q; rw [h]; rfl
    · rw [beq_eq_false_iff_ne.2 q, Bool.or_false]
  · rw [if_neg h]; simp [hasM]
theorem val_put (k x k' : Bs) (kvs : Kvs) : valM k' (putM k x kvs) = valM k' kvs ++ (if k = k' then [x] else []) := by
  unfold putM
  by_cases h : hasM k kvs = true
  · rw [if_pos h, val_app k x k' kvs h]
  · rw [if_neg h, val_snoc k x k' kvs (by simpa using h)]
def ccB : Bs := [99, 97, 99, 104, 101, 45, 99, 111, 110, 116, 114, 111, 108]
theorem elem_len {l : List (Bs × Bs)} {n x : Bs} (h : x ∈ elemsL l n) : x.length ≤ fsz l := by
  unfold elemsL getL at h
  simp only [List.mem_flatMap, List.mem_filterMap] at h
  obtain ⟨v, ⟨f, hf, hv⟩, hx⟩ := h
  split at hv
  · cases hv
    have h1 := fsz_mem hf
    have h2 := wt_listL f.2
    have h3 : x.length + 1 ≤ wt (listL f.2) := by
      generalize listL f.2 = L at hx
      induction L with
      | nil => cases hx
      | cons a L ih =>
        simp only [wt, List.map_cons, List.sum_cons] at ih ⊢
        rcases List.mem_cons.1 hx with rfl | hx
        · omega
        · have := ih hx; omega
    omega
  · cases hv
theorem elems_len (l : List (Bs × Bs)) (n : Bs) : (elemsL l n).length ≤ fsz l := by
  induction l with
  | nil => exact Nat.zero_le _
  | cons a l ih =>
    rw [elemsL_cons, List.length_append]
    have := listL_len a.2
    simp only [fsz, List.map_cons, List.sum_cons] at ih ⊢
    split
    · omega
    · simp only [List.length_nil]; omega
def saidF (kvs : Kvs) (s : Bs) : Kvs := match pairL s with | some x => putM x.1 x.2 kvs | none => kvs
def saidL (l : List (Bs × Bs)) : Kvs := (elemsL l ccB).foldl saidF []
theorem m18_eq (b : Bool) (l : List (Bs × Bs)) (hs : fsz l < 2 ^ 30) : m18 b l = some (saidL l) := by
  obtain ⟨z, hz⟩ := m14_eq b l ccB hs (by decide)
  have hm : ∀ x, x ∈ elemsL l ccB → x.length ≤ fsz l := fun x => elem_len
  have hlen := elems_len l ccB
  unfold saidL
  generalize elemsL l ccB = L at hz hm hlen
  have e := iter_fold (step := fun x : (Bool × List Bs × Int × Int × Kvs) => s18_8 x.1 x.2.1 x.2.2.1 x.2.2.2.1 x.2.2.2.2) L
    (fun (g : Kvs) (i : Nat) => (z, L, (L.length : Int), (i : Int), g)) saidF (fun g => g) (fun g i => ∀ k, (valM k g).length ≤ i)
    (fun g i h hi k => by
      have := hi k
      unfold saidF
      split
      · rw [val_put, List.length_append]
        split
        · simp only [List.length_singleton]; omega
        · simp only [List.length_nil]; omega
      · omega)
    (fun g i h hi => by
      have e1 : (L.getD i default) = L[i] := by simp [List.getD_eq_getElem?_getD, h]
      have hx := hm L[i] (List.getElem_mem h)
      simp only [s18_8, j18_26, Int.toNat_natCast, e1]
      rw [if_pos (by simpa using h), if_pos ⟨by omega, by omega⟩, m36_eq _ (by omega), Option.bind_some, w64_eq _ (by omega) (by omega)]
      unfold saidF
      cases hp : pairL L[i] with
      | none => rfl
      | some x =>
        have := hi x.1
        refine (if_pos rfl).trans ?_
        show _ = some (Sum.inl (z, L, (L.length : Int), ((i + 1 : Nat) : Int), putM x.1 x.2 g))
        by_cases c : hasM x.1 g = true
        · have q : putM x.1 x.2 g = appM x.1 x.2 g := if_pos c
          rw [q]
          exact (if_pos c).trans (if_pos (by show ((valM x.1 g).length + 1) * 16 ≤ 140737488355328; omega))
        · have q : putM x.1 x.2 g = g ++ [(x.1, [x.2])] := if_neg c
          rw [q]
          exact if_neg c)
    (fun g hg => by
      simp only [s18_8, j18_27]
      rw [if_neg (by simp)]
      rfl) [] (by intro k; exact Nat.zero_le _)
  rw [m18]
  show (m14 b l ccB).bind _ = _
  rw [hz, Option.bind_some]
  exact e
end
section
set_option linter.all false
set_option maxRecDepth 100000
open Go Go.Ab Go.Proofs Go.Proofs.YtbdjemdhjanffaaDoor
theorem m39_eq (b : Bool) (L : List Bs) (kvs : Kvs) (hL : L.length < 2 ^ 60) : ∃ r, m39 b L kvs = some r ∧ decide (0 ≤ r) = L.any fun n => hasM n kvs := by
  refine iter_post (fun s => ∃ i : Nat, s = (b, L, (L.length : Int), (i : Int)) ∧ i ≤ L.length ∧ (L.any fun n => hasM n kvs) = ((L.drop i).any fun n => hasM n kvs)) (fun s => L.length + 1 - s.2.2.2.toNat) _ ?_ _ ⟨0, rfl, by omega, by simp⟩
  rintro s ⟨i, rfl, hi, ha⟩
  by_cases h : i < L.length
  · have e1 : (L.getD i default) = L[i] := by simp [List.getD_eq_getElem?_getD, h]
    have ha' := ha
    rw [List.drop_eq_getElem_cons h, List.any_cons] at ha'
    simp only [s39_6, Int.toNat_natCast, e1]
    rw [if_pos (by simpa using h), if_pos ⟨by omega, by omega⟩, m37, Option.bind_some, w64_eq _ (by omega) (by omega)]
    by_cases c : hasM L[i] kvs = true
    · right
      rw [if_pos c]
      refine ⟨_, rfl, ?_⟩
      rw [ha', c]
      simp
    · left
      rw [if_neg c]
      refine ⟨_, rfl, ⟨i + 1, rfl, by omega, ?_⟩, ?_⟩
      · rw [ha', Bool.eq_false_iff.2 c, Bool.false_or]
      · show L.length + 1 - ((i : Int) + 1).toNat < L.length + 1 - (i : Int).toNat
        omega
  · right
    obtain rfl : i = L.length := by omega
    simp only [s39_6, j39_25]
    rw [if_neg (by simp)]
    refine ⟨-1, rfl, ?_⟩
    rw [ha, List.drop_length]
    rfl
theorem m19_eq (b : Bool) (L : List Bs) (kvs : Kvs) (hL : L.length < 2 ^ 60) : m19 b L kvs = some (L.any fun n => hasM n kvs) := by
  obtain ⟨r, h1, h2⟩ := m39_eq b L kvs hL
  simp only [m19, m25, h1, Option.bind_some, h2]
end
section
set_option linter.all false
set_option maxRecDepth 100000
open Go Go.Ab Go.Proofs Go.Proofs.YtbdjemdhjanffaaDoor
def digB (c : UInt8) : Bool := decide (48 ≤ c.toNat) && decide (c.toNat ≤ 57)
def valF (n : Nat) (c : UInt8) : Nat := 10 * n + (c.toNat - 48)
def valN (s : Bs) : Nat := s.foldl valF 0
def numL (s : Bs) : Int := if s ≠ [] ∧ s.all digB = true then ((min (valN s) 2147483647 : Nat) : Int) else 0
end
section
set_option linter.all false
set_option maxRecDepth 100000
open Go Go.Ab Go.Proofs Go.Proofs.YtbdjemdhjanffaaDoor
def decR (s : Bs) : Int × Int := if s ≠ [] ∧ s.all digB = true then (if valN s ≤ 9007199254740991 then ((valN s : Int), 0) else (0, 3)) else (0, 5)
theorem m64_eq (c : Int) (h0 : 0 ≤ c) (h1 : c < 2 ^ 31) : m64 c = some (if 48 ≤ c ∧ c ≤ 57 then c - 48 else -1) := by
  unfold m64 j64_5
  simp only [decide_eq_true_eq]
  by_cases a : 48 ≤ c
  · rw [if_pos a]
    by_cases b : c ≤ 57
    · rw [if_pos b, if_pos ⟨a, b⟩]
      have : w32 (c - 48) = c - 48 := by simp [w32, IntKind.wrap, IntKind.min, IntKind.max, IntKind.bits, IntKind.signed]; omega
      rw [this, w64_eq _ (by omega) (by omega)]
    · rw [if_neg b, if_neg (by omega)]
  · rw [if_neg a, if_neg (by simp), if_neg (by omega)]
theorem val_take (s : Bs) (p : Nat) (h : p < s.length) : valN (s.take (p + 1)) = 10 * valN (s.take p) + (s[p].toNat - 48) := by
  unfold valN
  rw [List.take_succ_eq_append_getElem h, List.foldl_append]
  rfl
theorem all_take (s : Bs) (p : Nat) (h : p < s.length) : (s.take (p + 1)).all digB = ((s.take p).all digB && digB s[p]) := by
  rw [List.take_succ_eq_append_getElem h, List.all_append, List.all_cons, List.all_nil, Bool.and_true]
theorem uc_lt (s : Bs) (p : Nat) (h : p < s.length) (hl : 128 ≤ (s.getD p 0).toNat) : uc s p < 2 ^ 31 := by
  unfold uc
  rw [Lib.decode_at, S_get!, S_get!, S_get!, S_get!, S_size]
  have a0 := (s.getD p 0).toNat_lt
  have a1 := (s.getD (p + 1) 0).toNat_lt
  have a2 := (s.getD (p + 2) 0).toNat_lt
  have a3 := (s.getD (p + 3) 0).toNat_lt
  generalize (s.getD p 0).toNat = b0 at *
  generalize (s.getD (p + 1) 0).toNat = b1 at *
  generalize (s.getD (p + 2) 0).toNat = b2 at *
  generalize (s.getD (p + 3) 0).toNat = b3 at *
  unfold Lib.decodeN
  repeat' split
  all_goals first | omega | (dsimp only; omega) | simp
theorem m63_eq (s : Bs) (hs : s.length < 2 ^ 30) : m63 s 10 = some (decR s) := by
  unfold m63
  by_cases h0 : s = []
  · subst h0; rfl
  · rw [if_neg (by simpa using h0)]
    have := iter_post (f := fun x : (Int × Int × Bool × Bs × Nat) => s63_16 x.1 x.2.1 x.2.2.1 x.2.2.2.1 x.2.2.2.2)
      (fun x => ∃ n lo p, x = ((10 : Int), n, lo, s, p) ∧ p ≤ s.length ∧ (s.take p).all digB = true ∧ (lo = true → 9007199254740991 < valN (s.take p)) ∧ (lo = false → n = (valN (s.take p) : Int) ∧ valN (s.take p) ≤ 9007199254740991))
      (fun x => s.length - x.2.2.2.2) (fun r => r = decR s) ?_ (10, 0, false, s, 0) ⟨0, false, 0, rfl, by omega, rfl, by simp, fun _ => ⟨rfl, by simp [valN]⟩⟩
    · obtain ⟨r, h1, h2⟩ := this
      rw [← h2]; exact h1
    rintro x ⟨n, lo, p, rfl, hp, hd, hlo, hn⟩
    by_cases h : p < s.length
    · have e1 : s.getD p 0 = s[p] := by simp [List.getD_eq_getElem?_getD, h]
      have hM : s63_16 10 n lo s p = (m64 (uc s p : Int)).bind fun yr5 => if (decide (yr5 < 0)) = true then some (.inr ((0 : Int), (5 : Int))) else if lo = true then j63_39 10 n true yr5 true s (p + uw s p) else if ((10 : Int) == 0) = false then j63_39 10 n false yr5 (decide ((wu64 ((wu64 (9007199254740991 - (wu64 yr5))).tdiv 10)) < n)) s (p + uw s p) else none := by
        unfold s63_16; rw [if_pos (by simpa using h)]
      have bad : ∀ q : Int, m64 (uc s p : Int) = some q → q < 0 → digB s[p] = false → ∃ r, s63_16 10 n lo s p = some (.inr r) ∧ r = decR s := by
        intro q hq hneg hdig
        refine ⟨(0, 5), ?_, ?_⟩
        · rw [hM, hq, Option.bind_some, if_pos (by simpa using hneg)]
        · unfold decR
          rw [if_neg]
          rintro ⟨_, ha⟩
          have := List.all_eq_true.1 ha _ (List.getElem_mem h)
          rw [hdig] at this; cases this
      by_cases hlow : s[p].toNat < 128
      · obtain ⟨u1, u2⟩ := rune_lo h (by rw [e1]; exact hlow)
        rw [e1] at u1
        have hm := m64_eq (uc s p : Int) (by omega) (by rw [u1]; omega)
        by_cases hc : digB s[p] = true
        · left
          have hc' := hc
          simp only [digB, Bool.and_eq_true, decide_eq_true_eq] at hc'
          rw [if_pos (by rw [u1]; omega), u1] at hm
          have hv := val_take s p h
          have ha := all_take s p h
          rw [hd, hc] at ha
          dsimp only
          have hpos : ¬ (decide (((s[p].toNat : Int) - 48) < 0) = true) := by simp only [decide_eq_true_eq]; omega
          rw [hM, u1, hm, Option.bind_some, if_neg hpos, u2]
          cases lo with
          | true =>
            rw [if_pos rfl]
            refine ⟨_, rfl, ⟨n, true, p + 1, rfl, by omega, ha, fun _ => by have := hlo rfl; omega, by simp⟩, ?_⟩
            show s.length - (p + 1) < s.length - p
            omega
          | false =>
            obtain ⟨hn1, hn2⟩ := hn rfl
            rw [if_neg (by simp), if_pos (by decide)]
            have hdec : (wu64 ((wu64 (9007199254740991 - (wu64 ((s[p].toNat : Int) - 48)))).tdiv 10)) = ((9007199254740991 - ((s[p].toNat : Int) - 48)) / 10) := by
              rw [wu64m ((s[p].toNat : Int) - 48), Int.emod_eq_of_lt (by omega) (by omega), wu64m (9007199254740991 - _), Int.emod_eq_of_lt (by omega) (by omega), Int.tdiv_eq_ediv_of_nonneg (by omega), wu64m, Int.emod_eq_of_lt (by omega) (by omega)]
            rw [hdec]
            unfold j63_39
            by_cases big : 9007199254740991 < 10 * valN (s.take p) + (s[p].toNat - 48)
            · rw [if_pos (by simp only [decide_eq_true_eq]; omega)]
              refine ⟨_, rfl, ⟨n, true, p + 1, rfl, by omega, ha, fun _ => by omega, by simp⟩, ?_⟩
              show s.length - (p + 1) < s.length - p
              omega
            · rw [if_neg (by simp only [decide_eq_true_eq]; omega)]
              refine ⟨_, rfl, ⟨_, false, p + 1, rfl, by omega, ha, by simp, fun _ => ⟨?_, by omega⟩⟩, ?_⟩
              · rw [wu64m (n * 10), wu64m ((s[p].toNat : Int) - 48), wu64m, hn1, hv]
                omega
              · show s.length - (p + 1) < s.length - p
                omega
        · right
          rw [if_neg (by
            rw [u1]
            intro q
            apply hc
            simp only [digB, Bool.and_eq_true, decide_eq_true_eq]
            omega)] at hm
          exact bad _ hm (by omega) (by simpa using hc)
      · right
        obtain ⟨u1, u2, u3, _⟩ := rune_hi h (by rw [e1]; omega)
        have hm := m64_eq (uc s p : Int) (by omega) (by have := uc_lt s p h (by rw [e1]; omega); omega)
        rw [if_neg (by omega)] at hm
        exact bad _ hm (by omega) (by
          simp only [digB, Bool.and_eq_false_iff, decide_eq_false_iff_not]
          omega)
    · right
      obtain rfl : p = s.length := by omega
      rw [List.take_length] at hd hlo hn
      dsimp only
      have hR : decR s = (if valN s ≤ 9007199254740991 then ((valN s : Int), 0) else (0, 3)) := if_pos ⟨h0, hd⟩
      rw [hR]
      unfold s63_16 j63_45
      rw [if_neg (by simp)]
      cases lo with
      | true =>
        have := hlo rfl
        rw [if_neg (by omega : ¬ valN s ≤ 9007199254740991)]
        exact ⟨_, rfl, rfl⟩
      | false =>
        obtain ⟨hn1, hn2⟩ := hn rfl
        rw [if_pos hn2, hn1]
        exact ⟨_, rfl, rfl⟩
end
section
set_option linter.all false
set_option maxRecDepth 100000
open Go Go.Ab Go.Proofs Go.Proofs.YtbdjemdhjanffaaDoor
theorem m38_eq (s : Bs) (hs : s.length < 2 ^ 30) : m38 s = some (numL s) := by
  unfold m38 m47
  rw [m63_eq s hs, Option.bind_some, Option.bind_some]
  unfold decR numL
  by_cases h : s ≠ [] ∧ s.all digB = true
  · rw [if_pos h, if_pos h]
    by_cases c : valN s ≤ 9007199254740991
    · rw [if_pos c]
      simp only [beq_self_eq_true, if_true]
      have : min2 (valN s : Int) 2147483647 = ((min (valN s) 2147483647 : Nat) : Int) := by
        unfold min2; split <;> omega
      rw [this, w64_eq _ (by omega) (by omega)]
    · rw [if_neg c]
      have : (min (valN s) 2147483647 : Nat) = 2147483647 := by omega
      rw [this]
      rfl
  · rw [if_neg h, if_neg h]; rfl
end
section
set_option linter.all false
set_option maxRecDepth 100000
open Go Go.Ab Go.Proofs Go.Proofs.YtbdjemdhjanffaaDoor
def minL (g : List Int) : Int := g.tail.foldl min2 (g.getD 0 default)
def maxL (g : List Int) : Int := g.tail.foldl max2 (g.getD 0 default)
theorem tail_get (g : List Int) (i : Nat) (h : i < g.tail.length) : g.getD (i + 1) default = g.tail[i] := by
  cases g with
  | nil => cases h
  | cons a r =>
    have h' : i < r.length := h
    simp [List.getD_eq_getElem?_getD, h']
theorem m21_eq (g : List Int) (h0 : g ≠ []) (hg : g.length < 2 ^ 60) : m21 g = some (minL g, g) := by
  have hl : 0 < g.length := by cases g with | nil => exact absurd rfl h0 | cons => simp
  have ht : g.tail.length = g.length - 1 := List.length_tail
  unfold m21
  rw [if_neg (by simp only [decide_eq_true_eq]; omega), if_pos (by omega)]
  have e := iter_fold (step := fun x : (Int × Int × List Int) => s21_14 x.1 x.2.1 x.2.2) g.tail (fun (m : Int) (i : Nat) => (m, ((i + 1 : Nat) : Int), g)) min2 (fun m => (m, g)) (fun _ _ => True)
    (fun _ _ _ _ => trivial)
    (fun m i h _ => by
      simp only [s21_14, Int.toNat_natCast, tail_get g i h]
      rw [if_pos (by simp only [decide_eq_true_eq]; omega), if_pos ⟨by omega, by omega⟩, w64_eq _ (by omega) (by omega)]
      rfl)
    (fun m _ => by
      simp only [s21_14, j21_25]
      rw [if_neg (by simp only [decide_eq_true_eq]; omega)]
      rfl) (g.getD 0 default) trivial
  exact e
theorem m22_eq (g : List Int) (h0 : g ≠ []) (hg : g.length < 2 ^ 60) : m22 g = some (maxL g, g) := by
  have hl : 0 < g.length := by cases g with | nil => exact absurd rfl h0 | cons => simp
  have ht : g.tail.length = g.length - 1 := List.length_tail
  unfold m22
  rw [if_neg (by simp only [decide_eq_true_eq]; omega), if_pos (by omega)]
  have e := iter_fold (step := fun x : (Int × Int × List Int) => s22_14 x.1 x.2.1 x.2.2) g.tail (fun (m : Int) (i : Nat) => (m, ((i + 1 : Nat) : Int), g)) max2 (fun m => (m, g)) (fun _ _ => True)
    (fun _ _ _ _ => trivial)
    (fun m i h _ => by
      simp only [s22_14, Int.toNat_natCast, tail_get g i h]
      rw [if_pos (by simp only [decide_eq_true_eq]; omega), if_pos ⟨by omega, by omega⟩, w64_eq _ (by omega) (by omega)]
      rfl)
    (fun m _ => by
      simp only [s22_14, j22_25]
      rw [if_neg (by simp only [decide_eq_true_eq]; omega)]
      rfl) (g.getD 0 default) trivial
  exact e
end
section
set_option linter.all false
set_option maxRecDepth 100000
open Go Go.Ab Go.Proofs Go.Proofs.YtbdjemdhjanffaaDoor
def ofMin (V : List Bs) : Int := if V = [] then -1 else minL (V.map numL)
def ofMax (V : List Bs) : Int := if V = [] then -1 else maxL (V.map numL)
def numF (g : List Int) (v : Bs) : List Int := g ++ [numL v]
theorem numF_fold (V : List Bs) : ∀ g, V.foldl numF g = g ++ V.map numL := by
  induction V with
  | nil => intro g; simp
  | cons v V ih => intro g; rw [List.foldl_cons, ih]; simp [numF]
theorem m20_eq (b : Bool) (V : List Bs) (hV : V.length < 2 ^ 40) (hv : ∀ v ∈ V, v.length < 2 ^ 30) : m20 b V = some (ofMin V) := by
  have e := iter_fold (step := s20_8) V (fun (g : List Int) (i : Nat) => match g with | [] => .inl (b, V, (V.length : Int), (i : Int)) | _ => .inr (b, V, (V.length : Int), (i : Int), g)) numF (fun g => if g = [] then -1 else minL g) (fun g i => g.length = i)
    (fun g i h hi => by simp [numF, hi])
    (fun g i h hi => by
      have e1 : (V.getD i default) = V[i] := by simp [List.getD_eq_getElem?_getD, h]
      have hn := m38_eq V[i] (hv _ (List.getElem_mem h))
      cases g with
      | nil =>
        simp only [s20_8, s20_8x0, j20_15, j20_20, Int.toNat_natCast, e1]
        rw [if_pos (by simpa using h), if_pos ⟨by omega, by omega⟩, hn, Option.bind_some, w64_eq _ (by omega) (by omega)]
        rfl
      | cons a g =>
        simp only [s20_8, s20_8x1, j20_15v1, j20_20v1, Int.toNat_natCast, e1]
        rw [if_pos (by simpa using h), if_pos ⟨by omega, by omega⟩, hn, Option.bind_some, if_pos (by omega), w64_eq _ (by omega) (by omega)]
        rfl)
    (fun g hg => by
      cases g with
      | nil =>
        simp only [s20_8, s20_8x0, j20_21]
        rw [if_neg (by simp)]
        rfl
      | cons a g =>
        simp only [s20_8, s20_8x1, j20_21v1]
        rw [if_neg (by simp), if_neg (by simp; omega), m21_eq (a :: g) (by simp) (by omega)]
        rfl) [] rfl
  rw [numF_fold, List.nil_append] at e
  have e2 : m20 b V = _ := e
  rw [e2]
  unfold ofMin
  cases V <;> rfl
theorem m20a_eq (b : Bool) (V : List Bs) (hV : V.length < 2 ^ 40) (hv : ∀ v ∈ V, v.length < 2 ^ 30) : m20a b V = some (ofMax V) := by
  have e := iter_fold (step := s20a_8) V (fun (g : List Int) (i : Nat) => match g with | [] => .inl (b, V, (V.length : Int), (i : Int)) | _ => .inr (b, V, (V.length : Int), (i : Int), g)) numF (fun g => if g = [] then -1 else maxL g) (fun g i => g.length = i)
    (fun g i h hi => by simp [numF, hi])
    (fun g i h hi => by
      have e1 : (V.getD i default) = V[i] := by simp [List.getD_eq_getElem?_getD, h]
      have hn := m38_eq V[i] (hv _ (List.getElem_mem h))
      cases g with
      | nil =>
        simp only [s20a_8, s20a_8x0, j20a_15, j20a_20, Int.toNat_natCast, e1]
        rw [if_pos (by simpa using h), if_pos ⟨by omega, by omega⟩, hn, Option.bind_some, w64_eq _ (by omega) (by omega)]
        rfl
      | cons a g =>
        simp only [s20a_8, s20a_8x1, j20a_15v1, j20a_20v1, Int.toNat_natCast, e1]
        rw [if_pos (by simpa using h), if_pos ⟨by omega, by omega⟩, hn, Option.bind_some, if_pos (by omega), w64_eq _ (by omega) (by omega)]
        rfl)
    (fun g hg => by
      cases g with
      | nil =>
        simp only [s20a_8, s20a_8x0, j20a_21]
        rw [if_neg (by simp)]
        rfl
      | cons a g =>
        simp only [s20a_8, s20a_8x1, j20a_21v1]
        rw [if_neg (by simp), if_neg (by simp; omega), m22_eq (a :: g) (by simp) (by omega)]
        rfl) [] rfl
  rw [numF_fold, List.nil_append] at e
  have e2 : m20a b V = _ := e
  rw [e2]
  unfold ofMax
  cases V <;> rfl
end
section
set_option linter.all false
set_option maxRecDepth 100000
open Go Go.Ab Go.Proofs Go.Proofs.YtbdjemdhjanffaaDoor
def msB : Bs := [109, 97, 120, 45, 115, 116, 97, 108, 101]
def staleN (v : Bs) : Int := if v = [] then 2147483647 else numL v
def ofStale (V : List Bs) : Int := if V = [] then -1 else minL (V.map staleN)
def pat (V : List Bs) (i : Nat) : List Int := (V.take i).map staleN ++ (V.drop i).map numL
theorem pat_len (V : List Bs) (i : Nat) : (pat V i).length = V.length := by
  simp only [pat, List.length_append, List.length_map, List.length_take, List.length_drop]; omega
theorem set_mid (A : List Int) (n x : Int) (R : List Int) : (A ++ n :: R).set A.length x = A ++ x :: R := by
  induction A with
  | nil => rfl
  | cons a A ih => simp only [List.cons_append, List.length_cons, List.set_cons_succ, ih]
theorem pat_set (V : List Bs) (i : Nat) (h : i < V.length) : (pat V i).set i (staleN V[i]) = pat V (i + 1) := by
  unfold pat
  rw [List.drop_eq_getElem_cons h, List.map_cons, List.take_succ_eq_append_getElem h, List.map_append]
  have hl : ((V.take i).map staleN).length = i := by rw [List.length_map, List.length_take]; omega
  have := set_mid ((V.take i).map staleN) (numL V[i]) (staleN V[i]) ((V.drop (i + 1)).map numL)
  rw [hl] at this
  rw [this]
  simp
theorem pat_keep (V : List Bs) (i : Nat) (h : i < V.length) (hv : V[i] ≠ []) : pat V (i + 1) = pat V i := by
  unfold pat
  rw [List.drop_eq_getElem_cons h, List.map_cons, List.take_succ_eq_append_getElem h, List.map_append]
  simp [staleN, hv]
theorem m21a_eq (g : List Int) (h0 : g ≠ []) (hg : g.length < 2 ^ 60) : m21a g.length g = some (minL g, g) := by
  have hl : 0 < g.length := by cases g with | nil => exact absurd rfl h0 | cons => simp
  have ht : g.tail.length = g.length - 1 := List.length_tail
  unfold m21a
  rw [if_neg (by simp only [decide_eq_true_eq]; omega), if_pos (by omega), if_pos hl]
  have e := iter_fold (step := fun x : (Nat × Int × Int × List Int) => s21a_14 x.1 x.2.1 x.2.2.1 x.2.2.2) g.tail (fun (m : Int) (i : Nat) => (g.length, m, ((i + 1 : Nat) : Int), g)) min2 (fun m => (m, g)) (fun _ _ => True)
    (fun _ _ _ _ => trivial)
    (fun m i h _ => by
      simp only [s21a_14, Int.toNat_natCast, tail_get g i h]
      rw [if_pos (by simp only [decide_eq_true_eq]; omega), if_pos ⟨by omega, by omega⟩, if_pos (by omega), w64_eq _ (by omega) (by omega)]
      rfl)
    (fun m _ => by
      simp only [s21a_14, j21a_25]
      rw [if_neg (by simp only [decide_eq_true_eq]; omega)]
      rfl) (g.getD 0 default) trivial
  exact e
theorem m23_eq (kvs : Kvs) (h0 : valM msB kvs ≠ []) (hV : (valM msB kvs).length < 2 ^ 40) : ∃ g, m23 ((valM msB kvs).map numL) kvs = some (minL ((valM msB kvs).map staleN), g) := by
  have hdef : m23 ((valM msB kvs).map numL) kvs = iter (s23_6 kvs) (.inl (!(hasM msB kvs), valM msB kvs, ((valM msB kvs).length : Int), (0 : Int), (valM msB kvs).map numL)) := rfl
  rw [hdef]
  generalize (!(hasM msB kvs)) = b
  generalize valM msB kvs = V at h0 hV
  have hend : pat V V.length = V.map staleN := by simp [pat]
  have hbeg : pat V 0 = V.map numL := by simp [pat]
  have hne : ∀ i, pat V i ≠ [] := fun i e => by
    have := pat_len V i
    rw [e] at this
    exact h0 (List.eq_nil_of_length_eq_zero this.symm)
  have := iter_post (f := s23_6 kvs) (fun x => ∃ i : Nat, i ≤ V.length ∧ (x = .inl (b, V, (V.length : Int), (i : Int), pat V i) ∨ x = .inr ((pat V i).length, b, V, (V.length : Int), (i : Int), pat V i)))
    (fun x => match x with | .inl y => V.length + 1 - y.2.2.2.1.toNat | .inr y => V.length + 1 - y.2.2.2.2.1.toNat) (fun r => r.1 = minL (V.map staleN)) ?_ (.inl (b, V, (V.length : Int), (0 : Int), V.map numL)) ⟨0, by omega, .inl (by rw [hbeg]; rfl)⟩
  · obtain ⟨r, h1, h2⟩ := this
    rw [h1]
    exact ⟨r.2, by rw [← h2]⟩
  rintro x ⟨i, hi, hx⟩
  have hpl := pat_len V i
  by_cases h : i < V.length
  · left
    have e1 : (V.getD i default) = V[i] := by simp [List.getD_eq_getElem?_getD, h]
    have hm : V.length + 1 - ((i + 1 : Nat) : Int).toNat < V.length + 1 - (i : Int).toNat := by omega
    rcases hx with rfl | rfl
    · simp only [s23_6, s23_6x0, j23_13, j23_22, j23_22v1, Int.toNat_natCast, e1]
      rw [if_pos (by simpa using h), if_pos ⟨by omega, by omega⟩, w64_eq _ (by omega) (by omega)]
      by_cases c : V[i] = []
      · rw [if_pos (by rw [c]; rfl), if_pos ⟨by omega, by omega⟩]
        have hs := pat_set V i h
        have : staleN V[i] = 2147483647 := by simp [staleN, c]
        rw [this] at hs
        refine ⟨_, rfl, ⟨i + 1, by omega, .inr ?_⟩, hm⟩
        rw [hs, pat_len, pat_len]
        rfl
      · rw [if_neg (by simpa using c)]
        refine ⟨_, rfl, ⟨i + 1, by omega, .inl ?_⟩, hm⟩
        rw [pat_keep V i h c]
        rfl
    · simp only [s23_6, s23_6x1, j23_13v1, j23_22, Int.toNat_natCast, e1]
      rw [if_pos (by simpa using h), if_pos ⟨by omega, by omega⟩, w64_eq _ (by omega) (by omega)]
      by_cases c : V[i] = []
      · rw [if_pos (by rw [c]; rfl), if_pos ⟨by omega, by omega⟩, if_pos (by omega)]
        have hs := pat_set V i h
        have : staleN V[i] = 2147483647 := by simp [staleN, c]
        rw [this] at hs
        refine ⟨_, rfl, ⟨i + 1, by omega, .inr ?_⟩, hm⟩
        rw [hs, pat_len, pat_len]
        rfl
      · rw [if_neg (by simpa using c)]
        refine ⟨_, rfl, ⟨i + 1, by omega, .inr ?_⟩, hm⟩
        rw [pat_keep V i h c]
        rfl
  · right
    obtain rfl : i = V.length := by omega
    rcases hx with rfl | rfl
    · simp only [s23_6, s23_6x0, j23_23]
      rw [if_neg (by simp), m21_eq _ (hne _) (by omega)]
      exact ⟨_, rfl, by rw [hend]⟩
    · simp only [s23_6, s23_6x1, j23_23v1]
      rw [if_neg (by simp), m21a_eq _ (hne _) (by omega)]
      exact ⟨_, rfl, by rw [hend]⟩
end
section
set_option linter.all false
set_option maxRecDepth 100000
open Go Go.Ab Go.Proofs Go.Proofs.YtbdjemdhjanffaaDoor
theorem m20b_eq (b : Bool) (kvs : Kvs) (hV : (valM msB kvs).length < 2 ^ 40) (hv : ∀ v ∈ valM msB kvs, v.length < 2 ^ 30) : m20b b (valM msB kvs) kvs = some (ofStale (valM msB kvs)) := by
  have hm : valM msB kvs ≠ [] → ∃ g, m23 ((valM msB kvs).map numL) kvs = some (minL ((valM msB kvs).map staleN), g) := fun h => m23_eq kvs h hV
  have e0 : m20b b (valM msB kvs) kvs = iter (s20b_8 kvs) (.inl (b, valM msB kvs, ((valM msB kvs).length : Int), (0 : Int))) := rfl
  rw [e0]
  generalize valM msB kvs = V at hm hV hv
  have e := iter_fold (step := s20b_8 kvs) V (fun (g : List Int) (i : Nat) => match g with | [] => .inl (b, V, (V.length : Int), (i : Int)) | _ => .inr (b, V, (V.length : Int), (i : Int), g)) numF (fun g => if g = [] then -1 else minL (V.map staleN)) (fun g i => g = (V.take i).map numL)
    (fun g i h hi => by rw [List.take_succ_eq_append_getElem h, List.map_append, ← hi]; rfl)
    (fun g i h hi => by
      have e1 : (V.getD i default) = V[i] := by simp [List.getD_eq_getElem?_getD, h]
      have hn := m38_eq V[i] (hv _ (List.getElem_mem h))
      have hl : g.length = i := by rw [hi, List.length_map, List.length_take]; omega
      clear hi
      cases g with
      | nil =>
        simp only [s20b_8, s20b_8x0, j20b_15, j20b_20, Int.toNat_natCast, e1]
        rw [if_pos (by simpa using h), if_pos ⟨by omega, by omega⟩, hn, Option.bind_some, w64_eq _ (by omega) (by omega)]
        rfl
      | cons a g =>
        simp only [s20b_8, s20b_8x1, j20b_15v1, j20b_20v1, Int.toNat_natCast, e1]
        rw [if_pos (by simpa using h), if_pos ⟨by omega, by omega⟩, hn, Option.bind_some, if_pos (by omega), w64_eq _ (by omega) (by omega)]
        rfl)
    (fun g hg => by
      rw [List.take_length] at hg
      cases g with
      | nil =>
        simp only [s20b_8, s20b_8x0, j20b_21]
        rw [if_neg (by simp)]
        rfl
      | cons a g =>
        have hne : V ≠ [] := fun q => by rw [q] at hg; cases hg
        obtain ⟨r, hr⟩ := hm hne
        simp only [s20b_8, s20b_8x1, j20b_21v1]
        rw [if_neg (by simp), if_neg (by simp; omega), hg, hr, if_neg (by rw [← hg]; simp)]
        rfl) [] (by simp)
  rw [numF_fold, List.nil_append] at e
  have e2 : iter (s20b_8 kvs) (.inl (b, V, (V.length : Int), (0 : Int))) = _ := e
  rw [e2]
  unfold ofStale
  cases V <;> rfl
end
section
set_option linter.all false
set_option maxRecDepth 100000
open Go Go.Ab Go.Proofs Go.Proofs.YtbdjemdhjanffaaDoor
abbrev PP := List (Bs × Bs)
def pairsL (l : List (Bs × Bs)) : PP := (elemsL l ccB).filterMap pairL
def hasP (k : Bs) (P : PP) : Bool := P.any fun p => p.1 == k
def valP (k : Bs) (P : PP) : List Bs := P.filterMap fun p => if p.1 == k then some p.2 else none
theorem saidF_fold (E : List Bs) : ∀ kvs, E.foldl saidF kvs = (E.filterMap pairL).foldl (fun m p => putM p.1 p.2 m) kvs := by
  induction E with
  | nil => intro kvs; rfl
  | cons x E ih =>
    intro kvs
    rw [List.foldl_cons, ih, List.filterMap_cons]
    unfold saidF
    cases pairL x <;> rfl
theorem has_fold (k : Bs) (P : PP) : ∀ kvs, hasM k (P.foldl (fun m p => putM p.1 p.2 m) kvs) = (hasM k kvs || hasP k P) := by
  induction P with
  | nil => intro kvs; simp [hasP]
  | cons p P ih => intro kvs; rw [List.foldl_cons, ih, has_put]; simp [hasP, Bool.or_assoc]
theorem val_fold (k : Bs) (P : PP) : ∀ kvs, valM k (P.foldl (fun m p => putM p.1 p.2 m) kvs) = valM k kvs ++ valP k P := by
  induction P with
  | nil => intro kvs; simp [valP]
  | cons p P ih =>
    intro kvs
    rw [List.foldl_cons, ih, val_put]
    unfold valP
    by_cases h : p.1 = k <;> simp [h]
theorem has_said (k : Bs) (l : List (Bs × Bs)) : hasM k (saidL l) = hasP k (pairsL l) := by
  unfold saidL; rw [saidF_fold, has_fold]; rfl
theorem val_said (k : Bs) (l : List (Bs × Bs)) : valM k (saidL l) = valP k (pairsL l) := by
  unfold saidL; rw [saidF_fold, val_fold]; rfl
theorem pairL_len {s : Bs} {x : Bs × Bs} (h : pairL s = some x) : x.1.length + x.2.length ≤ s.length := by
  unfold pairL at h
  have hn := nameN_le s
  have hd : (s.drop (nameN s + 1)).length = s.length - (nameN s + 1) := List.length_drop
  have hl : (lowL (s.take (nameN s))).length = nameN s := by unfold lowL; rw [List.length_map, List.length_take]; omega
  split at h
  · split at h
    · cases h; simp only [hl, List.length_nil]; omega
    · split at h
      · cases h; simp only [hl, hd]; omega
      · rw [Option.map_eq_some_iff] at h
        obtain ⟨v, hv, rfl⟩ := h
        have := (unq_sh hv).2
        simp only [hl]; omega
  · cases h
theorem pairs_len (l : List (Bs × Bs)) : (pairsL l).length ≤ fsz l := by
  unfold pairsL; exact Nat.le_trans (List.length_filterMap_le _ _) (elems_len l ccB)
theorem pairs_mem {l : List (Bs × Bs)} {p : Bs × Bs} (h : p ∈ pairsL l) : p.1.length + p.2.length ≤ fsz l := by
  unfold pairsL at h
  obtain ⟨x, hx, hp⟩ := List.mem_filterMap.1 h
  have := pairL_len hp
  have := elem_len hx
  omega
theorem valP_len (k : Bs) (P : PP) : (valP k P).length ≤ P.length := List.length_filterMap_le _ _
theorem valP_mem {k v : Bs} {P : PP} (h : v ∈ valP k P) : (k, v) ∈ P := by
  unfold valP at h
  obtain ⟨p, hp, hv⟩ := List.mem_filterMap.1 h
  split at hv
  · rename_i q
    cases hv
    rw [← eq_of_beq q]; exact hp
  · cases hv
end
section
set_option linter.all false
set_option maxRecDepth 100000
open Go Go.Ab Go.Proofs Go.Proofs.YtbdjemdhjanffaaDoor
abbrev nsB : Bs := [110, 111, 45, 115, 116, 111, 114, 101]
abbrev ncB : Bs := [110, 111, 45, 99, 97, 99, 104, 101]
abbrev prB : Bs := [112, 114, 105, 118, 97, 116, 101]
abbrev puB : Bs := [112, 117, 98, 108, 105, 99]
abbrev mrB : Bs := [109, 117, 115, 116, 45, 114, 101, 118, 97, 108, 105, 100, 97, 116, 101]
abbrev xrB : Bs := [112, 114, 111, 120, 121, 45, 114, 101, 118, 97, 108, 105, 100, 97, 116, 101]
abbrev oiB : Bs := [111, 110, 108, 121, 45, 105, 102, 45, 99, 97, 99, 104, 101, 100]
abbrev maB : Bs := [109, 97, 120, 45, 97, 103, 101]
abbrev smB : Bs := [115, 45, 109, 97, 120, 97, 103, 101]
abbrev mfB : Bs := [109, 105, 110, 45, 102, 114, 101, 115, 104]
abbrev pgB : Bs := [112, 114, 97, 103, 109, 97]
def leastL (was n : Int) : Int := if was < 0 ∨ n < was then n else was
abbrev Ctl := Bool × Bool × Bool × Bool × Bool × Bool × Int × Int × Int × Int
end
section
set_option linter.all false
set_option maxRecDepth 100000
open Go Go.Ab Go.Proofs Go.Proofs.YtbdjemdhjanffaaDoor
theorem numL_nn (s : Bs) : 0 ≤ numL s := by unfold numL; split <;> omega
theorem staleN_nn (s : Bs) : 0 ≤ staleN s := by unfold staleN; split; · omega
                                                · exact numL_nn s
theorem valP_cons (k : Bs) (p : Bs × Bs) (P : PP) : valP k (p :: P) = (if (p.1 == k) = true then [p.2] else []) ++ valP k P := by
  unfold valP
  rw [List.filterMap_cons]
  cases h : p.1 == k <;> rfl
theorem least_min (f : Bs → Int) (hf : ∀ v, 0 ≤ f v) (V : List Bs) : ∀ m, 0 ≤ m → V.foldl (fun m v => leastL m (f v)) m = (V.map f).foldl min2 m := by
  induction V with
  | nil => intro m _; rfl
  | cons v V ih =>
    intro m hm
    have h0 := hf v
    have e : leastL m (f v) = min2 m (f v) := by
      unfold leastL min2
      by_cases h : f v < m
      · rw [if_pos (.inr h), if_pos h]
      · rw [if_neg (by omega), if_neg h]
    rw [List.foldl_cons, List.map_cons, List.foldl_cons, e]
    exact ih _ (by unfold min2; split <;> omega)
theorem min_all (f : Bs → Int) (hf : ∀ v, 0 ≤ f v) (V : List Bs) : V.foldl (fun m v => leastL m (f v)) (-1) = if V = [] then -1 else minL (V.map f) := by
  cases V with
  | nil => rfl
  | cons v V =>
    rw [if_neg (by simp), List.foldl_cons]
    have h0 := hf v
    have e : leastL (-1) (f v) = f v := by unfold leastL; rw [if_pos (.inl (by omega))]
    rw [e, least_min f hf V _ h0]
    rfl
theorem max_map (V : List Bs) : ∀ m, V.foldl (fun m v => max2 m (numL v)) m = (V.map numL).foldl max2 m := by
  induction V with
  | nil => intro m; rfl
  | cons v V ih => intro m; exact ih _
theorem max_all (V : List Bs) : V.foldl (fun m v => max2 m (numL v)) (-1) = ofMax V := by
  unfold ofMax
  cases V with
  | nil => rfl
  | cons v V =>
    rw [if_neg (by simp), max_map, List.map_cons, List.foldl_cons]
    have h0 := numL_nn v
    have e : max2 (-1) (numL v) = numL v := by unfold max2; rw [if_pos (by omega)]
    rw [e]
    rfl
def resL (P : PP) : Ctl := (hasP nsB P, hasP ncB P, hasP prB P, hasP puB P, hasP mrB P || hasP xrB P, false, ofMin (valP maB P), ofMin (valP smB P), -1, -1)
def reqL (P : PP) : Ctl := (hasP nsB P, hasP ncB P, false, false, false, hasP oiB P, ofMin (valP maB P), -1, ofMax (valP mfB P), ofStale (valP msB P))
end
section
set_option linter.all false
set_option maxRecDepth 100000
open Go Go.Ab Go.Proofs Go.Proofs.YtbdjemdhjanffaaDoor
def prag (l : List (Bs × Bs)) : Bool := (elemsL l pgB).any fun x => lowL x == ncB
def reqA (l : List (Bs × Bs)) : Ctl := if getL l ccB = [] then ((reqL (pairsL l)).1, (reqL (pairsL l)).2.1 || prag l, (reqL (pairsL l)).2.2) else reqL (pairsL l)
end
section
set_option linter.all false
set_option maxRecDepth 100000
open Go Go.Ab Go.Proofs Go.Proofs.YtbdjemdhjanffaaDoor
theorem m25a_eq (b : Bool) (L : List Bs) (hL : L.length < 2 ^ 60) (hm : ∀ x ∈ L, x.length < 2 ^ 60) : m25a b L = some (L.any fun x => lowL x == ncB) := by
  have : ∃ r, m39a b L = some r ∧ decide (0 ≤ r) = L.any fun x => lowL x == ncB := by
    refine iter_post (fun s => ∃ i : Nat, s = (b, L, (L.length : Int), (i : Int)) ∧ i ≤ L.length ∧ (L.any fun x => lowL x == ncB) = ((L.drop i).any fun x => lowL x == ncB)) (fun s => L.length + 1 - s.2.2.2.toNat) _ ?_ _ ⟨0, rfl, by omega, by simp⟩
    rintro s ⟨i, rfl, hi, ha⟩
    by_cases h : i < L.length
    · have e1 : (L.getD i default) = L[i] := by simp [List.getD_eq_getElem?_getD, h]
      have hx := hm _ (List.getElem_mem h)
      have ha' := ha
      rw [List.drop_eq_getElem_cons h, List.any_cons] at ha'
      simp only [s39a_6, Int.toNat_natCast, e1]
      rw [if_pos (by simpa using h), if_pos ⟨by omega, by omega⟩, m26, m15_eq _ _ hx (by decide), Option.bind_some, Option.bind_some, w64_eq _ (by omega) (by omega)]
      have hlow : lowL [110, 111, 45, 99, 97, 99, 104, 101] = ncB := by decide +kernel
      rw [hlow]
      cases c : lowL L[i] == ncB with
      | true =>
        right
        rw [if_pos rfl]
        refine ⟨_, rfl, ?_⟩
        rw [ha', c]
        simp
      | false =>
        left
        rw [if_neg (by simp)]
        refine ⟨_, rfl, ⟨i + 1, rfl, by omega, ?_⟩, ?_⟩
        · rw [ha', c, Bool.false_or]
        · show L.length + 1 - ((i : Int) + 1).toNat < L.length + 1 - (i : Int).toNat
          omega
    · right
      obtain rfl : i = L.length := by omega
      simp only [s39a_6, j39a_25]
      rw [if_neg (by simp)]
      refine ⟨-1, rfl, ?_⟩
      rw [ha, List.drop_length]
      rfl
  obtain ⟨r, h1, h2⟩ := this
  simp only [m25a, h1, Option.bind_some, h2]
theorem elems_nil {l : List (Bs × Bs)} {n : Bs} (h : getL l n = []) : elemsL l n = [] := by unfold elemsL; rw [h]; rfl
theorem valP_ok {l : List (Bs × Bs)} (k : Bs) (hs : fsz l < 2 ^ 30) : (valP k (pairsL l)).length < 2 ^ 40 ∧ ∀ v ∈ valP k (pairsL l), v.length < 2 ^ 30 := by
  refine ⟨?_, fun v hv => ?_⟩
  · have := valP_len k (pairsL l)
    have := pairs_len l
    omega
  · have := pairs_mem (valP_mem hv)
    simp only at this
    omega
theorem any1 (a : Bs) (P : Bs → Bool) : [a].any P = P a := by simp
theorem any2 (a b : Bs) (P : Bs → Bool) : [a, b].any P = (P a || P b) := by simp
theorem m9_eq (b : Bool) (l : List (Bs × Bs)) (hs : fsz l < 2 ^ 30) : m9 b l = some (resL (pairsL l)) := by
  unfold m9
  rw [m18_eq b l hs, Option.bind_some]
  simp only [m19_eq _ [_] _ (by simp), m19_eq _ [_, _] _ (by simp), Option.bind_some, any1, any2, has_said, val_said]
  have h1 := valP_ok (l := l) maB hs
  have h2 := valP_ok (l := l) smB hs
  rw [m20_eq _ _ h1.1 h1.2, Option.bind_some, m20_eq _ _ h2.1 h2.2, Option.bind_some]
  rfl
theorem m7_eq (b : Bool) (l : List (Bs × Bs)) (hs : fsz l < 2 ^ 30) : m7 b l = some (reqA l) := by
  obtain ⟨z, hz⟩ := m24_eq b l ccB hs (by decide)
  have hg := getL_ssz l ccB
  have hg2 := ssz_len (getL l ccB)
  unfold m7
  rw [m18_eq b l hs, Option.bind_some]
  simp only [m19_eq _ [_] _ (by simp), Option.bind_some, any1]
  have h1 := valP_ok (l := l) maB hs
  have h2 := valP_ok (l := l) mfB hs
  have h3 := valP_ok (l := l) msB hs
  have v1 := val_said maB l
  have v2 := val_said mfB l
  have v3 := val_said msB l
  rw [← v1] at h1
  rw [← v2] at h2
  rw [← v3] at h3
  rw [m20_eq _ _ h1.1 h1.2, Option.bind_some, m20a_eq _ _ h2.1 h2.2, Option.bind_some, show ([109, 97, 120, 45, 115, 116, 97, 108, 101] : Bs) = msB from rfl, m20b_eq _ _ h3.1 h3.2, Option.bind_some]
  rw [show ([99, 97, 99, 104, 101, 45, 99, 111, 110, 116, 114, 111, 108] : Bs) = ccB from rfl, hz, Option.bind_some]
  unfold reqA
  simp only [has_said]
  rw [v1, v2, v3]
  by_cases c : getL l ccB = []
  · obtain ⟨y, hy⟩ := m14_eq b l pgB hs (by decide)
    have hE := elems_len l pgB
    have hm : ∀ x ∈ elemsL l pgB, x.length < 2 ^ 60 := fun x hx => by have := elem_len hx; omega
    rw [if_pos (by rw [c]; rfl), show ([112, 114, 97, 103, 109, 97] : Bs) = pgB from rfl, hy, Option.bind_some, m25a_eq y _ (by omega) hm, Option.bind_some, if_pos c]
    have hp : pairsL l = [] := by unfold pairsL; rw [elems_nil c]; rfl
    rw [hp]
    unfold j7_16 prag
    rfl
  · have hc : ¬ (((getL l ccB).length : Int) == 0) = true := by
      intro h
      have : (getL l ccB).length = 0 := by simpa using h
      exact c (List.eq_nil_of_length_eq_zero this)
    rw [if_neg hc, if_neg c]
    unfold j7_16v1
    rfl
end
section
set_option linter.all false
set_option maxRecDepth 100000
open Go Go.Ab Go.Proofs Go.Proofs.YtbdjemdhjanffaaDoor
end
section
set_option linter.all false
set_option maxRecDepth 100000
open Go Go.Ab Go.Proofs Go.Proofs.YtbdjemdhjanffaaDoor
def ofMinF (f : Bs → Int) (V : List Bs) : Int := if V = [] then -1 else minL (V.map f)
end
section
set_option linter.all false
set_option maxRecDepth 100000
open Go Go.Ab Go.Proofs Go.Proofs.YtbdjemdhjanffaaDoor
theorem hasP_perm (k : Bs) {P Q : PP} (h : P.Perm Q) : hasP k P = hasP k Q := by unfold hasP; exact h.any_eq
theorem valP_perm (k : Bs) {P Q : PP} (h : P.Perm Q) : (valP k P).Perm (valP k Q) := by unfold valP; exact h.filterMap _
theorem least_comm (f : Bs → Int) (hf : ∀ v, 0 ≤ f v) (m : Int) (a b : Bs) : leastL (leastL m (f a)) (f b) = leastL (leastL m (f b)) (f a) := by
  have h1 := hf a
  have h2 := hf b
  unfold leastL
  repeat' split
  all_goals omega
theorem ofMinF_eq (f : Bs → Int) (hf : ∀ v, 0 ≤ f v) (V : List Bs) : ofMinF f V = V.foldl (fun m v => leastL m (f v)) (-1) := by rw [min_all f hf]; rfl
theorem ofMinF_perm (f : Bs → Int) (hf : ∀ v, 0 ≤ f v) {V W : List Bs} (h : V.Perm W) : ofMinF f V = ofMinF f W := by
  rw [ofMinF_eq f hf, ofMinF_eq f hf]
  exact h.foldl_eq' (fun x _ y _ z => least_comm f hf z x y) _
theorem max_comm (m a b : Int) : max2 (max2 m a) b = max2 (max2 m b) a := by
  unfold max2
  repeat' split
  all_goals omega
theorem ofMax_perm {V W : List Bs} (h : V.Perm W) : ofMax V = ofMax W := by
  rw [← max_all, ← max_all]
  exact h.foldl_eq' (fun x _ y _ z => max_comm z (numL x) (numL y)) _
theorem resL_perm {P Q : PP} (h : P.Perm Q) : resL P = resL Q := by
  unfold resL
  rw [hasP_perm _ h, hasP_perm ncB h, hasP_perm prB h, hasP_perm puB h, hasP_perm mrB h, hasP_perm xrB h]
  have e1 : ofMin (valP maB P) = ofMin (valP maB Q) := ofMinF_perm numL numL_nn (valP_perm _ h)
  have e2 : ofMin (valP smB P) = ofMin (valP smB Q) := ofMinF_perm numL numL_nn (valP_perm _ h)
  rw [e1, e2]
theorem reqL_perm {P Q : PP} (h : P.Perm Q) : reqL P = reqL Q := by
  unfold reqL
  rw [hasP_perm nsB h, hasP_perm ncB h, hasP_perm oiB h, ofMax_perm (valP_perm mfB h)]
  have e1 : ofMin (valP maB P) = ofMin (valP maB Q) := ofMinF_perm numL numL_nn (valP_perm _ h)
  have e2 : ofStale (valP msB P) = ofStale (valP msB Q) := ofMinF_perm staleN staleN_nn (valP_perm _ h)
  rw [e1, e2]
structure SameF (l l' : List (Bs × Bs)) : Prop where
  res : resL (pairsL l) = resL (pairsL l')
  req : reqL (pairsL l) = reqL (pairsL l')
  get : (getL l ccB = []) ↔ (getL l' ccB = [])
  prag : prag l = prag l'
theorem SameF.reqA {l l' : List (Bs × Bs)} (h : SameF l l') : reqA l = reqA l' := by
  unfold _root_.reqA
  rw [h.req, h.prag]
  by_cases c : getL l ccB = []
  · rw [if_pos c, if_pos (h.get.1 c)]
  · rw [if_neg c, if_neg (fun q => c (h.get.2 q))]
theorem getL_app (a l : List (Bs × Bs)) (n : Bs) : getL (a ++ l) n = getL a n ++ getL l n := by unfold getL; rw [List.filterMap_append]
theorem elems_rev (l : List (Bs × Bs)) (n : Bs) : (elemsL l.reverse n).Perm (elemsL l n) := by
  induction l with
  | nil => exact List.Perm.refl _
  | cons a l ih =>
    rw [List.reverse_cons, elemsL_app]
    have e : elemsL (a :: l) n = elemsL [a] n ++ elemsL l n := elemsL_app [a] l n
    rw [e]
    exact (List.Perm.append_right _ ih).trans List.perm_append_comm
theorem same_back (l : List (Bs × Bs)) : SameF l.reverse l := by
  have h : (pairsL l.reverse).Perm (pairsL l) := (elems_rev l ccB).filterMap _
  refine ⟨resL_perm h, reqL_perm h, ?_, (elems_rev l pgB).any_eq⟩
  have : getL l.reverse ccB = (getL l ccB).reverse := by unfold getL; rw [List.filterMap_reverse]
  rw [this, List.reverse_eq_nil_iff]
def apF (f : Bs × Bs) : List (Bs × Bs) := if lowL f.1 = lowL ccB then ([67, 65, 67, 72, 69, 45, 99, 111, 110, 116, 114, 111, 108], [44]) :: (listL f.2).reverse.map fun x => ([99, 97, 99, 104, 101, 45, 67, 79, 78, 84, 82, 79, 76], x) else [f]
def apartL (l : List (Bs × Bs)) : List (Bs × Bs) := l.flatMap apF
theorem listL_self {s x : Bs} (h : x ∈ listL s) : listL x = [x] := by
  obtain ⟨ps, z, e, h1, st, h2⟩ := split_ok s false false [] rfl
  unfold listL at h
  rw [e] at h
  obtain ⟨hx0, hxt, y, hy, rfl⟩ := fl_mem h
  have hr : ∃ st', run false false (trimL y) = some st' := by
    rcases List.mem_append.1 hy with hy | hy
    · obtain ⟨st', g1, _⟩ := run_trim (h1 y hy); exact ⟨_, g1⟩
    · rw [List.mem_singleton] at hy
      subst hy
      obtain ⟨st', g1, _⟩ := run_trim h2; exact ⟨_, g1⟩
  obtain ⟨st', g⟩ := hr
  have := split_run _ _ _ _ [] [] g
  rw [List.append_nil, List.nil_append] at this
  unfold listL
  rw [this]
  show fl [trimL y] = [trimL y]
  rw [fl_cons, trimL_trimL, if_neg hx0]
  rfl
theorem elems_self (n k : Bs) (hk : lowL n = lowL k) (L : List Bs) (hL : ∀ x ∈ L, listL x = [x]) : elemsL (L.map fun x => (n, x)) k = L := by
  induction L with
  | nil => rfl
  | cons x L ih =>
    rw [List.map_cons, elemsL_cons, if_pos hk, hL x (List.mem_cons_self ..), ih (fun y hy => hL y (List.mem_cons_of_mem _ hy))]
    rfl
theorem elems_other (n k : Bs) (hk : ¬ lowL n = lowL k) (L : List Bs) : elemsL (L.map fun x => (n, x)) k = [] := by
  induction L with
  | nil => rfl
  | cons x L ih =>
    rw [List.map_cons, elemsL_cons, if_neg hk, ih]
    rfl
theorem elems_one (f : Bs × Bs) (n : Bs) : elemsL [f] n = if lowL f.1 = lowL n then listL f.2 else [] := by
  rw [elemsL_cons]
  show _ ++ [] = _
  rw [List.append_nil]
theorem low_up1 : lowL [67, 65, 67, 72, 69, 45, 99, 111, 110, 116, 114, 111, 108] = lowL ccB := by decide +kernel
theorem low_up2 : lowL [99, 97, 99, 104, 101, 45, 67, 79, 78, 84, 82, 79, 76] = lowL ccB := by decide +kernel
theorem low_up3 : lowL [67, 97, 99, 104, 101, 45, 67, 111, 110, 116, 114, 111, 108] = lowL ccB := by decide +kernel
theorem cc_ne_pg : ¬ lowL ccB = lowL pgB := by decide +kernel
theorem listL_comma : listL [44] = [] := by decide +kernel
theorem elems_apF (f : Bs × Bs) : (elemsL (apF f) ccB).Perm (elemsL [f] ccB) := by
  rw [elems_one]
  unfold apF
  by_cases h : lowL f.1 = lowL ccB
  · rw [if_pos h, if_pos h, elemsL_cons, if_pos low_up1, listL_comma, List.nil_append, elems_self _ _ low_up2 _ (fun x hx => listL_self (List.mem_reverse.1 hx))]
    exact List.reverse_perm _
  · rw [if_neg h, elems_one]
theorem prag_apF (f : Bs × Bs) : elemsL (apF f) pgB = elemsL [f] pgB := by
  unfold apF
  by_cases h : lowL f.1 = lowL ccB
  · rw [if_pos h, elems_one, if_neg (by rw [h]; exact cc_ne_pg), elemsL_cons, if_neg (by rw [low_up1]; exact cc_ne_pg), elems_other _ _ (by rw [low_up2]; exact cc_ne_pg)]
    rfl
  · rw [if_neg h]
theorem apart_cons (f : Bs × Bs) (l : List (Bs × Bs)) : apartL (f :: l) = apF f ++ apartL l := rfl
theorem elems_apart (l : List (Bs × Bs)) : (elemsL (apartL l) ccB).Perm (elemsL l ccB) := by
  induction l with
  | nil => exact List.Perm.refl _
  | cons f l ih =>
    rw [apart_cons, elemsL_app]
    have e : elemsL (f :: l) ccB = elemsL [f] ccB ++ elemsL l ccB := elemsL_app [f] l ccB
    rw [e]
    exact List.Perm.append (elems_apF f) ih
theorem prag_apart (l : List (Bs × Bs)) : elemsL (apartL l) pgB = elemsL l pgB := by
  induction l with
  | nil => rfl
  | cons f l ih =>
    have e : elemsL (f :: l) pgB = elemsL [f] pgB ++ elemsL l pgB := elemsL_app [f] l pgB
    rw [apart_cons, elemsL_app, e, prag_apF, ih]
theorem getL_one (f : Bs × Bs) (n : Bs) : getL [f] n = if lowL f.1 = lowL n then [f.2] else [] := by
  unfold getL
  by_cases h : lowL f.1 = lowL n <;> simp [h]
theorem getL_cons (f : Bs × Bs) (l : List (Bs × Bs)) (n : Bs) : getL (f :: l) n = getL [f] n ++ getL l n := getL_app [f] l n
theorem get_apart (l : List (Bs × Bs)) : getL (apartL l) ccB = [] ↔ getL l ccB = [] := by
  induction l with
  | nil => exact Iff.rfl
  | cons f l ih =>
    rw [apart_cons, getL_app, getL_cons f l, List.append_eq_nil_iff, List.append_eq_nil_iff, ih]
    have : getL (apF f) ccB = [] ↔ getL [f] ccB = [] := by
      rw [getL_one]
      unfold apF
      by_cases h : lowL f.1 = lowL ccB
      · rw [if_pos h, if_pos h, getL_cons, getL_one, if_pos low_up1]
        simp
      · rw [if_neg h, if_neg h, getL_one, if_neg h]
    rw [this]
theorem same_apart (l : List (Bs × Bs)) : SameF (apartL l) l := by
  have h : (pairsL (apartL l)).Perm (pairsL l) := (elems_apart l).filterMap _
  exact ⟨resL_perm h, reqL_perm h, get_apart l, by unfold prag; rw [prag_apart]⟩
theorem fsz_app (a l : List (Bs × Bs)) : fsz (a ++ l) = fsz a + fsz l := by simp [fsz]
theorem fsz_one (f : Bs × Bs) : fsz [f] = f.1.length + f.2.length + 1 := by simp [fsz]
theorem fsz_cons (f : Bs × Bs) (l : List (Bs × Bs)) : fsz (f :: l) = f.1.length + f.2.length + 1 + fsz l := by simp [fsz]
theorem fsz_map (n : Bs) (L : List Bs) : fsz (L.map fun x => (n, x)) = L.length * n.length + wt L := by
  induction L with
  | nil => simp [fsz, wt]
  | cons x L ih => rw [List.map_cons, fsz_cons, ih, wt_cons, List.length_cons, Nat.add_mul]; dsimp only; omega
theorem wt_rev (L : List Bs) : wt L.reverse = wt L := by
  induction L with
  | nil => rfl
  | cons x L ih => simp only [wt, List.reverse_cons, List.map_append, List.sum_append, List.map_cons, List.map_nil, List.sum_cons, List.sum_nil] at ih ⊢; omega
theorem fsz_apF (f : Bs × Bs) : fsz (apF f) ≤ 14 * fsz [f] := by
  rw [fsz_one]
  unfold apF
  by_cases h : lowL f.1 = lowL ccB
  · have hn : f.1.length = 13 := by
      have : (lowL f.1).length = (lowL ccB).length := by rw [h]
      unfold lowL at this
      rw [List.length_map, List.length_map] at this
      exact this
    rw [if_pos h, fsz_cons, fsz_map, wt_rev, List.length_reverse]
    have h1 := wt_listL f.2
    have h2 := listL_len f.2
    simp only [List.length_cons, List.length_nil]
    omega
  · rw [if_neg h, fsz_one]; omega
theorem fsz_apart (l : List (Bs × Bs)) : fsz (apartL l) ≤ 14 * fsz l := by
  induction l with
  | nil => simp [apartL, fsz]
  | cons f l ih =>
    have := fsz_apF f
    rw [apart_cons, fsz_app, fsz_cons]
    rw [fsz_one] at this
    omega
theorem fsz_rev (l : List (Bs × Bs)) : fsz l.reverse = fsz l := by
  induction l with
  | nil => rfl
  | cons x l ih => rw [List.reverse_cons, fsz_app, fsz_one, fsz_cons]; omega
end
section
set_option linter.all false
set_option maxRecDepth 100000
open Go Go.Ab Go.Proofs Go.Proofs.YtbdjemdhjanffaaDoor
def upB (c : UInt8) : UInt8 := if 97 ≤ c ∧ c ≤ 122 then c - 32 else c
def upL (s : Bs) : Bs := s.map upB
theorem up_sign : ∀ c : UInt8, ((upB c = 92 ↔ c = 92) ∧ (upB c = 34 ↔ c = 34) ∧ (upB c = 44 ↔ c = 44) ∧ (upB c = 61 ↔ c = 61)) := byAll (by decide +kernel)
theorem up_bl : ∀ c : UInt8, blB (upB c) = blB c := byAll (by decide +kernel)
theorem up_tok : ∀ c : UInt8, tokB (upB c) = tokB c := byAll (by decide +kernel)
theorem up_low : ∀ c : UInt8, lowB (upB c) = lowB c := byAll (by decide +kernel)
theorem up_sh : ∀ c : UInt8, shB (upB c) = shB c := byAll (by decide +kernel)
theorem up_dig : ∀ c : UInt8, digB (upB c) = digB c := byAll (by decide +kernel)
theorem up_digv : ∀ c : UInt8, digB c = true → upB c = c := byAll (by decide +kernel)
theorem up_len (s : Bs) : (upL s).length = s.length := List.length_map _
theorem split_up : ∀ (s : Bs) (q m : Bool) (cur : Bs), split q m (upL cur) (upL s) = (split q m cur s).map upL := by
  intro s
  induction s with
  | nil => intro q m cur; rfl
  | cons c s ih =>
    intro q m cur
    have e : upL cur ++ [upB c] = upL (cur ++ [c]) := by simp [upL]
    obtain ⟨h1, h2, h3, _⟩ := up_sign c
    show split q m (upL cur) (upB c :: upL s) = _
    rw [split, split]
    simp only [h1, h2, h3, e]
    repeat' split
    · exact ih _ _ _
    · exact ih _ _ _
    · exact ih _ _ _
    · rw [List.map_cons]
      exact congrArg _ (ih false false [])
    · exact ih _ _ _
theorem dropW_map (p : UInt8 → Bool) (hp : ∀ c, p (upB c) = p c) (s : Bs) : (upL s).dropWhile p = upL (s.dropWhile p) := by
  induction s with
  | nil => rfl
  | cons c s ih =>
    show (upB c :: upL s).dropWhile p = _
    rw [List.dropWhile_cons, List.dropWhile_cons, hp]
    split
    · exact ih
    · rfl
theorem trim_up (s : Bs) : trimL (upL s) = upL (trimL s) := by
  have hp : ∀ c : UInt8, ([32, 9] : Bs).contains (upB c) = ([32, 9] : Bs).contains c := fun c => by rw [con_bl, con_bl, up_bl]
  have hr : ∀ s : Bs, (upL s).reverse = upL s.reverse := fun s => by unfold upL; rw [List.map_reverse]
  unfold trimL Lib.trimS Lib.trimLeftS Lib.trimRightS
  rw [hr, dropW_map _ hp, hr, dropW_map _ hp]
theorem fl_up (L : List Bs) : fl (L.map upL) = (fl L).map upL := by
  induction L with
  | nil => rfl
  | cons x L ih =>
    rw [List.map_cons, fl_cons, fl_cons, ih, trim_up, List.map_append]
    by_cases h : trimL x = []
    · rw [h]; rfl
    · have : ¬ upL (trimL x) = [] := fun q => h (List.map_eq_nil_iff.1 q)
      rw [if_neg h, if_neg this]; rfl
theorem listL_up (s : Bs) : listL (upL s) = (listL s).map upL := by
  unfold listL
  rw [← fl_up, ← split_up]
  rfl
theorem tokL_up (s : Bs) : tokL (upL s) = tokL s := by
  unfold tokL upL
  rw [List.all_map]
  have : (tokB ∘ upB) = tokB := funext up_tok
  rw [this]
  cases s <;> rfl
theorem lowL_up (s : Bs) : lowL (upL s) = lowL s := by
  unfold lowL upL
  rw [List.map_map]
  have : (lowB ∘ upB) = lowB := funext up_low
  rw [this]
theorem uq_up : ∀ (n : Nat) (s : Bs), s.length ≤ n → uq (upL s) = (uq s).map upL := by
  intro n
  induction n with
  | zero => intro s h; cases s with | nil => rfl | cons => simp at h
  | succ n ih =>
    intro s h
    match s with
    | [] => rfl
    | [c] =>
      obtain ⟨h1, h2, h3, _⟩ := up_sign c
      show uq [upB c] = _
      rw [uq, uq]
      simp only [h2]
      split <;> rfl
    | c :: d :: t =>
      simp only [List.length_cons] at h
      obtain ⟨h1, h2, h3, _⟩ := up_sign c
      show uq (upB c :: upB d :: upL t) = _
      rw [uq, uq]
      simp only [h1, h2, up_sh]
      have i1 := ih t (by omega)
      have i2 := ih (d :: t) (by simp; omega)
      have i2 : uq (upB d :: upL t) = (uq (d :: t)).map upL := i2
      rw [i1, i2]
      repeat' split
      all_goals simp only [Option.map_map, Option.map_none]
      all_goals rfl
theorem unq_up (s : Bs) : unqL (upL s) = (unqL s).map upL := by
  cases s with
  | nil => rfl
  | cons c t =>
    obtain ⟨h1, h2, h3, _⟩ := up_sign c
    show unqL (upB c :: upL t) = _
    rw [unqL_cons, unqL_cons]
    simp only [h2]
    split
    · exact uq_up _ t (Nat.le_refl _)
    · rfl
theorem nameN_up (s : Bs) : nameN (upL s) = nameN s := by
  induction s with
  | nil => rfl
  | cons c s ih =>
    obtain ⟨_, _, _, h⟩ := up_sign c
    show nameN (upB c :: upL s) = _
    rw [nameN_cons, nameN_cons, ih]
    simp only [h]
theorem pairL_up (s : Bs) : pairL (upL s) = (pairL s).map fun p => (p.1, upL p.2) := by
  unfold pairL
  have t1 : ∀ n, (upL s).take n = upL (s.take n) := fun n => by unfold upL; rw [List.map_take]
  have t2 : ∀ n, (upL s).drop n = upL (s.drop n) := fun n => by unfold upL; rw [List.map_drop]
  rw [nameN_up, t1, t2, tokL_up, lowL_up, tokL_up, up_len, unq_up]
  repeat' split
  · rfl
  · rfl
  · cases unqL (s.drop (nameN s + 1)) <;> rfl
  · rfl
theorem numL_up (s : Bs) : numL (upL s) = numL s := by
  unfold numL
  have e1 : (upL s).all digB = s.all digB := by
    unfold upL
    rw [List.all_map]
    have : (digB ∘ upB) = digB := funext up_dig
    rw [this]
  have e2 : upL s ≠ [] ↔ s ≠ [] := by
    unfold upL
    rw [ne_eq, List.map_eq_nil_iff]
  by_cases h : s ≠ [] ∧ s.all digB = true
  · have : upL s = s := by
      unfold upL
      have : ∀ c ∈ s, upB c = c := fun c hc => up_digv c (List.all_eq_true.1 h.2 c hc)
      exact (List.map_congr_left this).trans (List.map_id' s)
    rw [this]
  · rw [if_neg h, if_neg (by rw [e1, e2]; exact h)]
theorem staleN_up (s : Bs) : staleN (upL s) = staleN s := by
  unfold staleN
  by_cases h : s = []
  · subst h; rfl
  · rw [if_neg h, if_neg (fun q : upL s = [] => h (List.map_eq_nil_iff.1 q)), numL_up]
def upP (P : PP) : PP := P.map fun p => (p.1, upL p.2)
theorem hasP_up (k : Bs) (P : PP) : hasP k (upP P) = hasP k P := by unfold hasP upP; rw [List.any_map]; rfl
theorem valP_up (k : Bs) (P : PP) : valP k (upP P) = (valP k P).map upL := by
  induction P with
  | nil => rfl
  | cons p P ih =>
    show valP k ((p.1, upL p.2) :: upP P) = _
    rw [valP_cons, valP_cons, ih, List.map_append]
    congr 1
    simp only
    split <;> rfl
theorem ofMinF_up (f : Bs → Int) (hf : ∀ s, f (upL s) = f s) (V : List Bs) : ofMinF f (V.map upL) = ofMinF f V := by
  unfold ofMinF
  rw [List.map_map]
  have : (f ∘ upL) = f := funext hf
  rw [this]
  cases V <;> rfl
theorem ofMax_up (V : List Bs) : ofMax (V.map upL) = ofMax V := by
  unfold ofMax
  rw [List.map_map]
  have : (numL ∘ upL) = numL := funext numL_up
  rw [this]
  cases V <;> rfl
theorem resL_up (P : PP) : resL (upP P) = resL P := by
  unfold resL
  simp only [hasP_up, valP_up]
  have e1 : ∀ V, ofMin (V.map upL) = ofMin V := ofMinF_up numL numL_up
  rw [e1, e1]
theorem reqL_up (P : PP) : reqL (upP P) = reqL P := by
  unfold reqL
  simp only [hasP_up, valP_up]
  have e1 : ∀ V, ofMin (V.map upL) = ofMin V := ofMinF_up numL numL_up
  have e2 : ∀ V, ofStale (V.map upL) = ofStale V := ofMinF_up staleN staleN_up
  rw [e1, ofMax_up, e2]
def bigF (f : Bs × Bs) : Bs × Bs := if lowL f.1 = lowL ccB then ([67, 97, 99, 104, 101, 45, 67, 111, 110, 116, 114, 111, 108], upL f.2) else f
def bigL (l : List (Bs × Bs)) : List (Bs × Bs) := l.map bigF
theorem bigF_low (f : Bs × Bs) : lowL (bigF f).1 = lowL f.1 := by
  unfold bigF
  by_cases h : lowL f.1 = lowL ccB
  · rw [if_pos h, h]; exact low_up3
  · rw [if_neg h]
theorem elems_big (l : List (Bs × Bs)) : elemsL (bigL l) ccB = (elemsL l ccB).map upL := by
  induction l with
  | nil => rfl
  | cons f l ih =>
    show elemsL (bigF f :: bigL l) ccB = _
    rw [elemsL_cons, elemsL_cons, bigF_low, ih, List.map_append]
    congr 1
    unfold bigF
    by_cases h : lowL f.1 = lowL ccB
    · rw [if_pos h, if_pos h, if_pos h, listL_up]
    · rw [if_neg h, if_neg h]; rfl
theorem prag_big (l : List (Bs × Bs)) : elemsL (bigL l) pgB = elemsL l pgB := by
  induction l with
  | nil => rfl
  | cons f l ih =>
    show elemsL (bigF f :: bigL l) pgB = _
    rw [elemsL_cons, elemsL_cons, bigF_low, ih]
    congr 1
    unfold bigF
    by_cases h : lowL f.1 = lowL ccB
    · have : ¬ lowL f.1 = lowL pgB := by rw [h]; exact cc_ne_pg
      rw [if_neg this, if_neg this]
    · rw [if_neg h]
theorem get_big (l : List (Bs × Bs)) : getL (bigL l) ccB = [] ↔ getL l ccB = [] := by
  induction l with
  | nil => exact Iff.rfl
  | cons f l ih =>
    show getL (bigF f :: bigL l) ccB = [] ↔ _
    rw [getL_cons, getL_cons f l, List.append_eq_nil_iff, List.append_eq_nil_iff, ih, getL_one, getL_one, bigF_low]
    by_cases h : lowL f.1 = lowL ccB <;> simp [h]
theorem same_big (l : List (Bs × Bs)) : SameF (bigL l) l := by
  have h : pairsL (bigL l) = upP (pairsL l) := by
    unfold pairsL upP
    rw [elems_big, List.filterMap_map, List.map_filterMap]
    congr 1
    funext x
    exact pairL_up x
  exact ⟨by rw [h, resL_up], by rw [h, reqL_up], get_big l, by unfold prag; rw [prag_big]⟩
theorem fsz_big (l : List (Bs × Bs)) : fsz (bigL l) = fsz l := by
  induction l with
  | nil => rfl
  | cons f l ih =>
    show fsz (bigF f :: bigL l) = _
    rw [fsz_cons, fsz_cons, ih]
    have h1 : (bigF f).1.length = f.1.length := by
      have : (lowL (bigF f).1).length = (lowL f.1).length := by rw [bigF_low]
      unfold lowL at this
      rwa [List.length_map, List.length_map] at this
    have h2 : (bigF f).2.length = f.2.length := by
      unfold bigF
      split
      · exact up_len _
      · rfl
    rw [h1, h2]
end
section
set_option linter.all false
set_option maxRecDepth 100000
open Go Go.Ab Go.Proofs Go.Proofs.YtbdjemdhjanffaaDoor
theorem mid (A : Bs) (c : UInt8) (R : Bs) : (A ++ c :: R).getD A.length 0 = c ∧ ∀ x, (A ++ c :: R).set A.length x = A ++ x :: R := by
  constructor
  · simp [List.getD_eq_getElem?_getD]
  · intro x; simp
theorem set_up (v : Bs) (i : Nat) (h : i < v.length) : ((v.take i).map upB ++ v.drop i).getD i 0 = v[i] ∧ ∀ x, ((v.take i).map upB ++ v.drop i).set i x = (v.take i).map upB ++ x :: v.drop (i + 1) := by
  have hl : ((v.take i).map upB).length = i := by rw [List.length_map, List.length_take]; omega
  have := mid ((v.take i).map upB) v[i] (v.drop (i + 1))
  rw [hl] at this
  rw [List.drop_eq_getElem_cons h]
  exact this
theorem l5_65_eq (b0 : Bool) (l : List (Bs × Bs)) (b1 : Bool) (back : List (Bs × Bs)) (b2 : Bool) (ap : List (Bs × Bs)) (b3 : Bool) (big : List (Bs × Bs)) (i : Nat) (v : Bs) (hv : v.length < 2 ^ 40) (hi : i < 2 ^ 40) (hb : big.length < 2 ^ 40) :
    l5_65 b0 l b1 back b2 ap b3 big (i : Int) v.length 0 v = some (.inl (b0, l, b1, back, b2, ap, false, big ++ [([67, 97, 99, 104, 101, 45, 67, 111, 110, 116, 114, 111, 108], upL v)], ((i + 1 : Nat) : Int))) := by
  have hend : j5_80 b0 l b1 back b2 ap b3 big (i : Int) v.length (upL v) = some (.inl (b0, l, b1, back, b2, ap, false, big ++ [([67, 97, 99, 104, 101, 45, 67, 111, 110, 116, 114, 111, 108], upL v)], ((i + 1 : Nat) : Int))) := by
    unfold j5_80 j5_81
    rw [if_pos (by rw [up_len]; exact Nat.le_refl _), if_pos (by omega), w64_eq _ (by omega) (by omega), List.take_of_length_le (by rw [up_len]; exact Nat.le_refl _)]
    rfl
  rw [← hend]
  unfold l5_65
  refine iter_to (fun x => ∃ k : Nat, x = (b0, l, b1, back, b2, ap, b3, big, (i : Int), v.length, (k : Int), (v.take k).map upB ++ v.drop k) ∧ k ≤ v.length) (fun x => v.length - x.2.2.2.2.2.2.2.2.2.2.1.toNat) _ ?_ _ ⟨0, by simp, by omega⟩
  rintro x ⟨k, rfl, hk⟩
  have hlen : ((v.take k).map upB ++ v.drop k).length = v.length := by simp; omega
  by_cases h : k < v.length
  · left
    obtain ⟨e1, e2⟩ := set_up v k h
    have et := List.take_succ_eq_append_getElem h
    simp only [s5_65, j5_76, j5_79, Int.toNat_natCast, e1, hlen, e2]
    rw [if_pos (by simpa using h), if_pos ⟨by omega, by omega⟩, if_pos h, w64_eq _ (by omega) (by omega)]
    refine ⟨(b0, l, b1, back, b2, ap, b3, big, (i : Int), v.length, ((k + 1 : Nat) : Int), (v.take (k + 1)).map upB ++ v.drop (k + 1)), ?_, ⟨k + 1, rfl, by omega⟩, by dsimp only; omega⟩
    have hset : (v.take (k + 1)).map upB ++ v.drop (k + 1) = (v.take k).map upB ++ upB v[k] :: v.drop (k + 1) := by rw [et, List.map_append]; simp
    rw [hset]
    unfold upB
    by_cases a : 97 ≤ v[k]
    · by_cases b : v[k] ≤ 122
      · rw [if_pos (by simpa using a), if_pos (by simpa using b), if_pos ⟨by omega, by omega⟩, if_pos h, if_pos ⟨a, b⟩]; rfl
      · rw [if_pos (by simpa using a), if_neg (by simpa using b), if_neg (fun q => b q.2), ← List.drop_eq_getElem_cons h]; rfl
    · rw [if_neg (by simpa using a), if_neg (by simp), if_neg (fun q => a q.1), ← List.drop_eq_getElem_cons h]; rfl
  · right
    obtain rfl : k = v.length := by omega
    simp only [s5_65]
    rw [if_neg (by simp)]
    simp [upL]
theorem l5_48_eq (b0 : Bool) (l : List (Bs × Bs)) (b1 : Bool) (back : List (Bs × Bs)) (ap : List (Bs × Bs)) (b3 : Bool) (big : List (Bs × Bs)) (i : Nat) (z : Bool) (L : List Bs) (hi : i < l.length) (hl : l.length < 2 ^ 40) (hv : l[i].2.length < 2 ^ 40) (hb : big.length < 2 ^ 40) (hL : L.length < 2 ^ 40) (ha : ap.length + L.length < 2 ^ 41) :
    l5_48 b0 l b1 back false ap b3 big (i : Int) z L (w64 ((L.length : Int) - 1)) = some (.inl (b0, l, b1, back, false, ap ++ L.reverse.map (fun x => ([99, 97, 99, 104, 101, 45, 67, 79, 78, 84, 82, 79, 76], x)), false, big ++ [([67, 97, 99, 104, 101, 45, 67, 111, 110, 116, 114, 111, 108], upL l[i].2)], ((i + 1 : Nat) : Int))) := by
  have hend : ∀ ap', j5_59 b0 l b1 back false ap' b3 big (i : Int) = some (.inl (b0, l, b1, back, false, ap', false, big ++ [([67, 97, 99, 104, 101, 45, 67, 111, 110, 116, 114, 111, 108], upL l[i].2)], ((i + 1 : Nat) : Int))) := by
    intro ap'
    have e1 : (l.getD i default) = l[i] := by simp [List.getD_eq_getElem?_getD, hi]
    unfold j5_59
    simp only [Int.toNat_natCast, e1]
    rw [if_pos ⟨by omega, by omega⟩, l5_65_eq b0 l b1 back false ap' b3 big i _ hv (by omega) hb]
  rw [← hend]
  unfold l5_48
  refine iter_to (fun x => ∃ k : Nat, x = (b0, l, b1, back, false, ap ++ (L.reverse.take k).map (fun x => ([99, 97, 99, 104, 101, 45, 67, 79, 78, 84, 82, 79, 76], x)), b3, big, (i : Int), z, L, (L.length : Int) - 1 - (k : Int)) ∧ k ≤ L.length) (fun x => (x.2.2.2.2.2.2.2.2.2.2.2 + 1).toNat) _ ?_ _ ⟨0, by rw [w64_eq _ (by omega) (by omega)]; simp, by omega⟩
  rintro x ⟨k, rfl, hk⟩
  by_cases h : k < L.length
  · left
    have hj : L.length - 1 - k < L.length := by omega
    have e0 : ((L.length : Int) - 1 - (k : Int)).toNat = L.length - 1 - k := by omega
    have e1 : (L.getD (L.length - 1 - k) default) = L[L.length - 1 - k] := by simp [List.getD_eq_getElem?_getD, hj]
    have hr : L.reverse[k]'(by simpa using h) = L[L.length - 1 - k] := by rw [List.getElem_reverse]
    have et := List.take_succ_eq_append_getElem (l := L.reverse) (i := k) (by simpa using h)
    have hal : (ap ++ (L.reverse.take k).map (fun x => (([99, 97, 99, 104, 101, 45, 67, 79, 78, 84, 82, 79, 76] : Bs), x))).length = ap.length + k := by simp; omega
    simp only [s5_48, e0, e1, hal]
    rw [if_pos (by simp only [decide_eq_true_eq]; omega), if_pos ⟨by omega, by omega⟩, if_pos (by omega), w64_eq _ (by omega) (by omega)]
    refine ⟨_, rfl, ⟨k + 1, ?_, by omega⟩, by dsimp only; omega⟩
    rw [et, hr, List.map_append, List.append_assoc]
    have : (L.length : Int) - 1 - (k : Int) - 1 = (L.length : Int) - 1 - ((k + 1 : Nat) : Int) := by omega
    rw [this]
    rfl
  · right
    obtain rfl : k = L.length := by omega
    simp only [s5_48]
    rw [if_neg (by simp only [decide_eq_true_eq]; omega), List.take_of_length_le (by simp)]
theorem same_ctl (a : Ctl) : ((((((((((a.1 == a.1) && (a.2.1 == a.2.1)) && (a.2.2.1 == a.2.2.1)) && (a.2.2.2.1 == a.2.2.2.1)) && (a.2.2.2.2.1 == a.2.2.2.2.1)) && (a.2.2.2.2.2.1 == a.2.2.2.2.2.1)) && (a.2.2.2.2.2.2.1 == a.2.2.2.2.2.2.1)) && (a.2.2.2.2.2.2.2.1 == a.2.2.2.2.2.2.2.1)) && (a.2.2.2.2.2.2.2.2.1 == a.2.2.2.2.2.2.2.2.1)) && (a.2.2.2.2.2.2.2.2.2 == a.2.2.2.2.2.2.2.2.2)) = true := by simp
theorem j5_82_eq (b0 b1 b2 b3 : Bool) (l : List (Bs × Bs)) (hs : fsz l < 2 ^ 25) : j5_82 b0 l b1 l.reverse b2 (apartL l) b3 (bigL l) = some true := by
  have h1 := fsz_rev l
  have h2 := fsz_apart l
  have h3 := fsz_big l
  unfold j5_82
  rw [m7_eq b0 l (by omega), m9_eq b0 l (by omega), m7_eq b1 _ (by omega), m9_eq b1 _ (by omega), m7_eq b2 _ (by omega), m9_eq b2 _ (by omega), m7_eq b3 _ (by omega), m9_eq b3 _ (by omega)]
  rw [(same_back l).reqA, (same_back l).res, (same_apart l).reqA, (same_apart l).res, (same_big l).reqA, (same_big l).res]
  simp only [Option.bind_some, same_ctl, if_true]
theorem apart_take (l : List (Bs × Bs)) (i : Nat) (h : i < l.length) : apartL (l.take (i + 1)) = apartL (l.take i) ++ apF l[i] := by
  unfold apartL
  rw [List.take_succ_eq_append_getElem h, List.flatMap_append]
  simp
theorem fsz_take (l : List (Bs × Bs)) (i : Nat) : fsz (l.take i) ≤ fsz l := by
  have : fsz (l.take i) + fsz (l.drop i) = fsz l := by rw [← fsz_app, List.take_append_drop]
  omega
theorem j5_19_eq (b0 b1 : Bool) (l : List (Bs × Bs)) (hs : fsz l < 2 ^ 25) : j5_19 b0 l b1 l.reverse = some true := by
  have hl := fsz_len l
  unfold j5_19 l5_23
  refine iter_to (fun x => ∃ (i : Nat) (b2 b3 : Bool), x = (b0, l, b1, l.reverse, b2, apartL (l.take i), b3, bigL (l.take i), (i : Int)) ∧ i ≤ l.length) (fun x => l.length - x.2.2.2.2.2.2.2.2.toNat) _ ?_ _ ⟨0, true, true, rfl, by omega⟩
  rintro x ⟨i, b2, b3, rfl, hi⟩
  by_cases h : i < l.length
  · left
    have e1 : (l.getD i default) = l[i] := by simp [List.getD_eq_getElem?_getD, h]
    have hm := fsz_mem (List.getElem_mem h)
    have ha1 := fsz_apart (l.take i)
    have ha2 := fsz_take l i
    have ha3 := fsz_len (apartL (l.take i))
    have hb1 : (bigL (l.take i)).length = i := by unfold bigL; rw [List.length_map, List.length_take]; omega
    have hll := listL_len l[i].2
    obtain ⟨z, hz⟩ := m16_eq l[i].2 (by omega)
    have hbig : bigL (l.take (i + 1)) = bigL (l.take i) ++ [bigF l[i]] := by unfold bigL; rw [List.take_succ_eq_append_getElem h, List.map_append]; rfl
    have hap := apart_take l i h
    simp only [s5_23, j5_81v1, Int.toNat_natCast, e1]
    rw [if_pos (by simpa using h), if_pos ⟨by omega, by omega⟩, m15_eq _ _ (by omega) (by decide), Option.bind_some]
    rw [show ([99, 97, 99, 104, 101, 45, 99, 111, 110, 116, 114, 111, 108] : Bs) = ccB from rfl]
    by_cases c : lowL l[i].1 = lowL ccB
    · rw [if_pos (beq_iff_eq.2 c : (lowL l[i].1 == lowL ccB) = true), hz, Option.bind_some, if_pos (by omega)]
      dsimp only
      rw [l5_48_eq b0 l b1 l.reverse _ b3 _ i z (listL l[i].2) h (by omega) (by omega) (by omega) (by omega) (by rw [List.length_append]; simp only [List.length_singleton]; omega)]
      refine ⟨_, rfl, ⟨i + 1, false, false, ?_, by omega⟩, by dsimp only; omega⟩
      rw [hap, hbig]
      unfold apF bigF
      rw [if_pos c, if_pos c, List.append_assoc]
      rfl
    · rw [if_neg (fun q : (lowL l[i].1 == lowL ccB) = true => c (eq_of_beq q)), if_pos (by omega), if_pos (by omega), w64_eq _ (by omega) (by omega)]
      refine ⟨_, rfl, ⟨i + 1, false, false, ?_, by omega⟩, by dsimp only; omega⟩
      rw [hap, hbig]
      unfold apF bigF
      rw [if_neg c, if_neg c]
      rfl
  · right
    obtain rfl : i = l.length := by omega
    simp only [s5_23]
    rw [if_neg (by simp), List.take_length, j5_82_eq b0 b1 b2 b3 l hs]
theorem m5_ok (b0 : Bool) (l : List (Bs × Bs)) (hs : fsz l < 2 ^ 25) : m5 b0 l = some true := by
  have hl := fsz_len l
  unfold m5 l5_8
  refine iter_to (fun x => ∃ (k : Nat) (b1 : Bool), x = (b0, l, b1, l.reverse.take k, (l.length : Int) - 1 - (k : Int)) ∧ k ≤ l.length) (fun x => (x.2.2.2.2 + 1).toNat) _ ?_ _ ⟨0, true, by rw [w64_eq _ (by omega) (by omega)]; simp, by omega⟩
  rintro x ⟨k, b1, rfl, hk⟩
  by_cases h : k < l.length
  · left
    have hj : l.length - 1 - k < l.length := by omega
    have e0 : ((l.length : Int) - 1 - (k : Int)).toNat = l.length - 1 - k := by omega
    have e1 : (l.getD (l.length - 1 - k) default) = l[l.length - 1 - k] := by simp [List.getD_eq_getElem?_getD, hj]
    have hr : l.reverse[k]'(by simpa using h) = l[l.length - 1 - k] := by rw [List.getElem_reverse]
    have et := List.take_succ_eq_append_getElem (l := l.reverse) (i := k) (by simpa using h)
    have hal : (l.reverse.take k).length = k := by simp; omega
    simp only [s5_8, e0, e1, hal]
    rw [if_pos (by simp only [decide_eq_true_eq]; omega), if_pos ⟨by omega, by omega⟩, if_pos (by omega), w64_eq _ (by omega) (by omega)]
    refine ⟨_, rfl, ⟨k + 1, false, ?_, by omega⟩, by dsimp only; omega⟩
    rw [et, hr]
    have : (l.length : Int) - 1 - (k : Int) - 1 = (l.length : Int) - 1 - ((k + 1 : Nat) : Int) := by omega
    rw [this]
  · right
    obtain rfl : k = l.length := by omega
    simp only [s5_8]
    rw [if_neg (by simp only [decide_eq_true_eq]; omega), List.take_of_length_le (by simp), j5_19_eq b0 b1 l hs]
end
section
set_option linter.all false
open Go Go.Ab Go.Proofs Go.Proofs.YtbdjemdhjanffaaDoor
theorem fsz_le (l : List (Bs × Bs)) : fsz l ≤ (List.map (fun y : Bs × Bs => (((y.1.length + 1) + ((y.2.length + 1) + 0)) + 1)) l).sum := by
  induction l with
  | nil => exact Nat.zero_le _
  | cons a l ih => simp only [fsz, List.map_cons, List.sum_cons] at ih ⊢; omega
end
