/- Plain laws of the functions. -/
import Derived.Test.YtaohepmbkepmiaaDoorEv8
import Derived.Test.YtaohepmbkepmiaaDoorFBack6
import Derived.Lib.DecodeN
import Derived.Lib.IndexMore
import Derived.Lib.IndexLaws
import Derived.Lib.IndexBytes
set_option linter.all false
section
set_option linter.all false
namespace Go.Ab
open Go
theorem wu64m (x : Int) : wu64 x = x % 18446744073709551616 := by
  unfold wu64
  simp [IntKind.wrap, IntKind.min, IntKind.max, IntKind.bits, IntKind.signed] <;> omega
theorem iter_post {σ β : Type} {f : σ → Option (σ ⊕ β)} (I : σ → Prop) (μ : σ → Nat) (Q : β → Prop)
    (h : ∀ s, I s → (∃ t, f s = some (.inl t) ∧ I t ∧ μ t < μ s) ∨ (∃ r, f s = some (.inr r) ∧ Q r)) (s : σ) (hs : I s) : ∃ r, iter f s = some r ∧ Q r := by
  have key : ∀ n s, μ s < n → I s → ∃ r, iter f s = some r ∧ Q r := by
    intro n
    induction n with
    | zero => intro s h0; omega
    | succ n ih =>
      intro s hn hs
      rcases h s hs with ⟨t, ht, hI, hm⟩ | ⟨r, hr, hq⟩
      · rw [iter_l ht]; exact ih t (by omega) hI
      · exact ⟨r, iter_r hr, hq⟩
  exact key (μ s + 1) s (by omega) hs
theorem iter_to {σ β : Type} {f : σ → Option (σ ⊕ β)} (I : σ → Prop) (μ : σ → Nat) (X : Option β)
    (h : ∀ s, I s → (∃ t, f s = some (.inl t) ∧ I t ∧ μ t < μ s) ∨ f s = X.map .inr) (s : σ) (hs : I s) : iter f s = X := by
  have key : ∀ n s, μ s < n → I s → iter f s = X := by
    intro n
    induction n with
    | zero => intro s h0; omega
    | succ n ih =>
      intro s hn hs
      rcases h s hs with ⟨t, ht, hI, hm⟩ | hr
      · rw [iter_l ht]; exact ih t (by omega) hI
      · cases X with
        | none => exact iter_n hr
        | some r => exact iter_r hr
  exact key (μ s + 1) s (by omega) hs
end Go.Ab
end
section
set_option linter.all false
open Go Go.Ab Go.Proofs Go.Proofs.YtaohepmbkepmiaaDoor
namespace Go.Ab
theorem byAll {P : UInt8 → Prop} [DecidablePred P] (h : ((List.range 256).all fun n => decide (P (UInt8.ofNat n))) = true) (c : UInt8) : P c := by
  have := List.all_eq_true.1 h c.toNat (List.mem_range.2 c.toNat_lt)
  have e := of_decide_eq_true this
  have : UInt8.ofNat c.toNat = c := by simp
  rwa [this] at e
theorem getsT {α : Type} {o : Option α} (h : o.isSome = true) : ∃ r, o = some r := Option.isSome_iff_exists.1 h
theorem m59_T : ∀ c, ∃ r, m59 c = some r := fun c => getsT (byAll (P := fun c => (m59 c).isSome = true) (by decide +kernel) c)
theorem m59a_T : ∀ c, ∃ r, m59a c = some r := fun c => getsT (byAll (P := fun c => (m59a c).isSome = true) (by decide +kernel) c)
theorem m75_T (z : Bool) (s : Bs) (hs : s.length < 2 ^ 60) : ∃ r, m75 z s = some r := by
  obtain ⟨r, h, _⟩ : ∃ r, m75 z s = some r ∧ True := by
    refine iter_post (fun (x : Bool × List UInt8 × Int × Int) => x.2.1 = s ∧ x.2.2.1 = s.length ∧ 0 ≤ x.2.2.2 ∧ x.2.2.2 ≤ s.length) (fun (x : Bool × List UInt8 × Int × Int) => ((s.length : Int) - x.2.2.2).toNat) _ ?_ _ ⟨rfl, rfl, by dsimp only; omega, by dsimp only; omega⟩
    rintro ⟨z, s', n, i⟩ hI
    dsimp only at hI ⊢
    obtain ⟨rfl, rfl, h0, h1⟩ := hI
    unfold s75_6
    by_cases c : i < s'.length
    · rw [if_pos (by simpa using c), if_pos ⟨h0, c⟩]
      obtain ⟨r, hr⟩ := m59_T (s'.getD i.toNat default)
      rw [hr, Option.bind_some]
      cases r with
      | true => right; exact ⟨i, rfl, trivial⟩
      | false => left; exact ⟨(z, s', s'.length, i + 1), by simp [w64_eq (i + 1) (by omega) (by omega)], ⟨rfl, rfl, by dsimp only; omega, by dsimp only; omega⟩, by dsimp only; omega⟩
    · right
      exact ⟨-1, by rw [if_neg (by simpa using c)]; rfl, trivial⟩
  exact ⟨r, h⟩
theorem m75a_T (z : Bool) (s : Bs) (hs : s.length < 2 ^ 60) : ∃ r, m75a z s = some r := by
  obtain ⟨r, h, _⟩ : ∃ r, m75a z s = some r ∧ True := by
    refine iter_post (fun (x : Bool × List UInt8 × Int × Int) => x.2.1 = s ∧ x.2.2.1 = s.length ∧ 0 ≤ x.2.2.2 ∧ x.2.2.2 ≤ s.length) (fun (x : Bool × List UInt8 × Int × Int) => ((s.length : Int) - x.2.2.2).toNat) _ ?_ _ ⟨rfl, rfl, by dsimp only; omega, by dsimp only; omega⟩
    rintro ⟨z, s', n, i⟩ hI
    dsimp only at hI ⊢
    obtain ⟨rfl, rfl, h0, h1⟩ := hI
    unfold s75a_6
    by_cases c : i < s'.length
    · rw [if_pos (by simpa using c), if_pos ⟨h0, c⟩]
      obtain ⟨r, hr⟩ := m59a_T (s'.getD i.toNat default)
      rw [hr, Option.bind_some]
      cases r with
      | true => right; exact ⟨i, rfl, trivial⟩
      | false => left; exact ⟨(z, s', s'.length, i + 1), by simp [w64_eq (i + 1) (by omega) (by omega)], ⟨rfl, rfl, by dsimp only; omega, by dsimp only; omega⟩, by dsimp only; omega⟩
    · right
      exact ⟨-1, by rw [if_neg (by simpa using c)]; rfl, trivial⟩
  exact ⟨r, h⟩
theorem m30_T (s : Bs) (hs : s.length < 2 ^ 60) : ∃ r, m30 s = some r := by
  obtain ⟨r, h⟩ := m75_T false s hs
  exact ⟨_, by unfold m30 m47 m58; rw [h]; rfl⟩
theorem m51_T (s : Bs) (hs : s.length < 2 ^ 60) : ∃ r, m51 s = some r := by
  obtain ⟨r, h⟩ := m75a_T false s hs
  unfold m51 m47a m58a
  rw [h]
  by_cases c : (s == []) = true
  · exact ⟨_, by rw [if_pos c]⟩
  · exact ⟨_, by rw [if_neg c]; rfl⟩
theorem m34_T (c : UInt8) : ∃ r, m34 c = some r := by
  obtain ⟨r, h⟩ := m51_T [c] (by simp)
  exact ⟨r, by unfold m34; rw [h]; rfl⟩
theorem m35_T (c : UInt8) : ∃ r, m35 c = some r := by
  obtain ⟨r, h⟩ := m30_T [c] (by simp)
  exact ⟨r, by unfold m35; rw [h]; rfl⟩
theorem m36_T (s : Bs) (hs : s.length < 2 ^ 60) : ∃ r, m36 s = some r := by
  unfold m36 mTrim
  rw [if_pos ⟨by omega, by decide, by decide⟩]
  exact ⟨_, rfl⟩
theorem wu64_nn (x : Int) : 0 ≤ wu64 x := by rw [wu64m]; exact Int.emod_nonneg _ (by decide)
theorem m50_T (c : Int) : ∃ r, m50 c = some r := by
  unfold m50 j50_6 j50_12 j50_18
  repeat' split
  all_goals exact ⟨_, rfl⟩
theorem uw_pos {s : Bs} {p : Nat} (h : p < s.length) : 1 ≤ uw s p := by
  unfold uw
  rw [Lib.decode_at]
  unfold Lib.decodeN
  repeat' split
  all_goals simp
theorem m49_T (s : Bs) : ∃ r, m49 s 16 = some r ∧ 0 ≤ r.1 := by
  unfold m49
  by_cases c0 : (s == []) = true
  · exact ⟨_, by rw [if_pos c0], Int.le_refl 0⟩
  rw [if_neg c0]
  refine iter_post (fun (x : Int × Int × Bool × Bs × Nat) => x.1 = 16 ∧ 0 ≤ x.2.1 ∧ x.2.2.2.1 = s) (fun (x : Int × Int × Bool × Bs × Nat) => s.length - x.2.2.2.2) (fun r : R49 => 0 ≤ r.1) ?_ _ ⟨rfl, Int.le_refl 0, rfl⟩
  rintro ⟨b, n, l, s', p⟩ hI
  dsimp only at hI ⊢
  obtain ⟨rfl, h0, rfl⟩ := hI
  unfold s49_16
  by_cases c : p < s'.length
  · rw [if_pos (by simpa using c)]
    have hw := uw_pos c
    obtain ⟨d, hd⟩ := m50_T (uc s' p : Int)
    rw [hd, Option.bind_some]
    by_cases c1 : (decide (d < 0)) = true
    · right; exact ⟨_, by rw [if_pos c1], Int.le_refl 0⟩
    rw [if_neg c1]
    left
    unfold j49_39
    cases l with
    | true =>
      rw [if_pos rfl, if_pos rfl]
      exact ⟨_, rfl, ⟨rfl, h0, rfl⟩, by dsimp only; omega⟩
    | false =>
      rw [if_neg (by simp), if_pos (by decide)]
      split
      · exact ⟨_, rfl, ⟨rfl, h0, rfl⟩, by dsimp only; omega⟩
      · exact ⟨_, rfl, ⟨rfl, wu64_nn _, rfl⟩, by dsimp only; omega⟩
  · right
    rw [if_neg (by simpa using c)]
    unfold j49_45
    cases l with
    | true => exact ⟨_, rfl, Int.le_refl 0⟩
    | false => exact ⟨_, rfl, h0⟩
theorem m31_T (s : Bs) : ∃ r, m31 s = some r ∧ 0 ≤ r.1 := by
  obtain ⟨r, h, h1⟩ := m49_T s
  exact ⟨(r.1, r.2), by unfold m31; rw [h]; rfl, h1⟩
theorem m29_T (s : Bs) (hs : s.length < 2 ^ 30) : ∃ r, m29 s [59] = some r ∧ r.2.1.length ≤ s.length := by
  unfold m29 m46 mIx
  rw [if_pos (by omega)]
  rw [Option.bind_some]
  by_cases c : (decide (0 ≤ Lib.index s [59])) = true
  · have h1 := Lib.index_room s [59] (of_decide_eq_true c)
    have h2 := of_decide_eq_true c
    rw [if_pos c]
    simp only [List.length_cons, List.length_nil] at h1 ⊢
    unfold bnd
    rw [w64_eq _ (by omega) (by omega), if_pos ⟨h2, by omega⟩, Option.bind_some, if_pos ⟨by omega, by omega⟩]
    exact ⟨_, rfl, by simp⟩
  · rw [if_neg c]
    exact ⟨_, rfl, by simp⟩
theorem j18_T (d : Bs) (t : Bool) : ∃ r, j18_7 d t = some r ∧ 0 ≤ r.1 := by
  unfold j18_7
  cases t with
  | true => exact ⟨_, rfl, Int.le_refl 0⟩
  | false =>
    obtain ⟨r, h, h1⟩ := m31_T d
    rw [h, if_neg (by simp), Option.bind_some]
    split
    · exact ⟨_, rfl, h1⟩
    · split <;> exact ⟨_, rfl, Int.le_refl 0⟩
theorem m18_T (s : Bs) (hs : s.length < 2 ^ 30) : ∃ r, m18 s = some r ∧ 0 ≤ r.1 := by
  obtain ⟨r, h, h1⟩ := m29_T s hs
  unfold m18
  rw [h, Option.bind_some]
  split
  · obtain ⟨q, hq⟩ := m30_T r.2.1 (by omega)
    rw [hq, Option.bind_some]
    exact j18_T _ _
  · exact j18_T _ _
theorem m28_T (s : Bs) (hs : s.length < 2 ^ 60) : ∃ r, m28 s [13] = some r ∧ (r = true → 1 ≤ s.length) := by
  unfold m28
  simp only [List.length_cons, List.length_nil]
  by_cases c : (decide (((0 + 1 : Nat) : Int) ≤ (s.length : Int))) = true
  · have := of_decide_eq_true c
    rw [if_pos c, w64_eq _ (by omega) (by omega)]
    unfold bnd
    rw [if_pos ⟨by omega, by omega⟩, Option.bind_some]
    exact ⟨_, rfl, fun _ => by omega⟩
  · rw [if_neg c]
    exact ⟨_, rfl, by simp⟩
theorem m17_T (s : Bs) (hs : s.length < 2 ^ 60) : ∃ r, m17 s [13] = some r := by
  obtain ⟨r, h, _⟩ := m28_T s hs
  exact ⟨r, by unfold m17; rw [h]; rfl⟩
theorem m19_T (s : Bs) (hs : s.length < 2 ^ 60) : ∃ r, m19 s [13] = some r ∧ r.length ≤ s.length := by
  obtain ⟨r, h, h1⟩ := m28_T s hs
  unfold m19 m32
  rw [h, Option.bind_some]
  cases r with
  | false => exact ⟨_, rfl, Nat.le_refl _⟩
  | true =>
    have := h1 rfl
    simp only [List.length_cons, List.length_nil]
    rw [if_pos trivial, w64_eq _ (by omega) (by omega)]
    unfold bnd
    rw [if_pos ⟨by omega, by omega⟩, Option.bind_some]
    exact ⟨_, rfl, by simp⟩
end Go.Ab
end
section
set_option linter.all false
set_option maxRecDepth 100000
open Go Go.Ab Go.Proofs Go.Proofs.YtaohepmbkepmiaaDoor
namespace Go.Ab
theorem iter_two {σ σ' β : Type} {f : σ → Option (σ ⊕ β)} {g : σ' → Option (σ' ⊕ β)} (φ : σ → σ') (I : σ → Prop) (μ : σ → Nat) (Q E : β → Prop)
    (h : ∀ s, I s → (∃ s', f s = some (.inl s') ∧ I s' ∧ μ s' < μ s ∧ g (φ s) = some (.inl (φ s'))) ∨ (∃ r, f s = some (.inr r) ∧ g (φ s) = some (.inr r) ∧ Q r) ∨ (∃ r, iter f s = some r ∧ E r))
    (s : σ) (hs : I s) : (∃ r, iter f s = some r ∧ iter g (φ s) = some r ∧ Q r) ∨ (∃ r, iter f s = some r ∧ E r) := by
  have key : ∀ n s, μ s < n → I s → (∃ r, iter f s = some r ∧ iter g (φ s) = some r ∧ Q r) ∨ (∃ r, iter f s = some r ∧ E r) := by
    intro n
    induction n with
    | zero => intro s h0; omega
    | succ n ih =>
      intro s hn hs
      rcases h s hs with ⟨s', h1, h2, h3, h4⟩ | ⟨r, h1, h2, h3⟩ | h1
      · rw [iter_l h1, iter_l h4]; exact ih s' (by omega) h2
      · exact .inl ⟨r, iter_r h1, iter_r h2, h3⟩
      · exact .inr h1
  exact key (μ s + 1) s (by omega) hs
abbrev T20 := (Bool × List UInt8 × Bool × List (Bs × Bs) × Int × Int × Int × Bool × List UInt8 × Int × UInt8)
abbrev S20 := ((Bool × List UInt8) ⊕ T20 ⊕ T20 ⊕ T20 ⊕ T20 ⊕ T20 ⊕ T20 ⊕ T20 ⊕ T20)
def phT (t : Bs) : T20 → T20 := fun (z, b, l0, l, f, o, e, hz, hb, a, c) => (false, b ++ t, l0, l, f, o, e, false, hb ++ t, a, c)
def ph20 (t : Bs) : S20 → S20
  | .inl x => .inl (false, x.2 ++ t)
  | .inr (.inl x) => .inr (.inl (phT t x))
  | .inr (.inr (.inl x)) => .inr (.inr (.inl (phT t x)))
  | .inr (.inr (.inr (.inl x))) => .inr (.inr (.inr (.inl (phT t x))))
  | .inr (.inr (.inr (.inr (.inl x)))) => .inr (.inr (.inr (.inr (.inl (phT t x)))))
  | .inr (.inr (.inr (.inr (.inr (.inl x))))) => .inr (.inr (.inr (.inr (.inr (.inl (phT t x))))))
  | .inr (.inr (.inr (.inr (.inr (.inr (.inl x)))))) => .inr (.inr (.inr (.inr (.inr (.inr (.inl (phT t x)))))))
  | .inr (.inr (.inr (.inr (.inr (.inr (.inr (.inl x))))))) => .inr (.inr (.inr (.inr (.inr (.inr (.inr (.inl (phT t x))))))))
  | .inr (.inr (.inr (.inr (.inr (.inr (.inr (.inr x))))))) => .inr (.inr (.inr (.inr (.inr (.inr (.inr (.inr (phT t x))))))))
def C20 (b b1 b2 : Bs) (l : List (Bs × Bs)) (f a : Int) : Prop := b1 = b ∧ b2 = b ∧ 0 ≤ f ∧ f ≤ a ∧ a ≤ b.length ∧ a ≤ 2048 ∧ (l.length : Int) ≤ a
def I20 (b : Bs) : S20 → Prop
  | .inl x => x.2 = b
  | .inr (.inl (z, b1, l0, l, f, o, e, hz, b2, a, c)) => C20 b b1 b2 l f a
  | .inr (.inr (.inl (z, b1, l0, l, f, o, e, hz, b2, a, c))) => C20 b b1 b2 l f a ∧ f + 1 ≤ o ∧ o ≤ a
  | .inr (.inr (.inr (.inl x))) => True
  | .inr (.inr (.inr (.inr (.inl (z, b1, l0, l, f, o, e, hz, b2, a, c))))) => C20 b b1 b2 l f a ∧ f < a
  | .inr (.inr (.inr (.inr (.inr (.inl x))))) => True
  | .inr (.inr (.inr (.inr (.inr (.inr (.inl x)))))) => True
  | .inr (.inr (.inr (.inr (.inr (.inr (.inr (.inl (z, b1, l0, l, f, o, e, hz, b2, a, c)))))))) => C20 b b1 b2 l f a ∧ f + 1 ≤ o ∧ o + 1 ≤ a
  | .inr (.inr (.inr (.inr (.inr (.inr (.inr (.inr (z, b1, l0, l, f, o, e, hz, b2, a, c)))))))) => C20 b b1 b2 l f a
def mu20 (b : Bs) : S20 → Nat
  | .inl x => 3 * b.length + 3
  | .inr (.inl (z, b1, l0, l, f, o, e, hz, b2, a, c)) => 3 * ((b.length : Int) - a).toNat + 1
  | .inr (.inr (.inl (z, b1, l0, l, f, o, e, hz, b2, a, c))) => 3 * ((b.length : Int) - a).toNat + 1
  | .inr (.inr (.inr (.inl x))) => 0
  | .inr (.inr (.inr (.inr (.inl (z, b1, l0, l, f, o, e, hz, b2, a, c))))) => 3 * ((b.length : Int) - a).toNat + 2
  | .inr (.inr (.inr (.inr (.inr (.inl x))))) => 0
  | .inr (.inr (.inr (.inr (.inr (.inr (.inl x)))))) => 0
  | .inr (.inr (.inr (.inr (.inr (.inr (.inr (.inl (z, b1, l0, l, f, o, e, hz, b2, a, c)))))))) => 3 * ((b.length : Int) - a).toNat + 1
  | .inr (.inr (.inr (.inr (.inr (.inr (.inr (.inr (z, b1, l0, l, f, o, e, hz, b2, a, c)))))))) => 3 * ((b.length : Int) - a).toNat + 1
def Q20 (b : Bs) : R20 → Prop
  | .inl (z, l, n, e) => 0 ≤ n ∧ n ≤ b.length
  | .inr (z, l, n, e) => 0 ≤ n ∧ n ≤ b.length
inductive Rel (b t : Bs) (n : Nat) : Option (S20 ⊕ R20) → Option (S20 ⊕ R20) → Prop
  | go (s' : S20) (h : I20 b s') (hm : mu20 b s' < n) {y} (hy : y = some (.inl (ph20 t s'))) : Rel b t n (some (.inl s')) y
  | ans (r : R20) (h : Q20 b r) : Rel b t n (some (.inr r)) (some (.inr r))
  | more (x : T20) (h : x.2.2.2.2.2.2.1 = 8) {y} : Rel b t n (some (.inl (.inr (.inr (.inr (.inr (.inr (.inl x)))))))) y
theorem rel_if {b t : Bs} {n : Nat} {c : Prop} [Decidable c] {A A' B B' : Option (S20 ⊕ R20)} (h1 : c → Rel b t n A A') (h2 : ¬ c → Rel b t n B B') : Rel b t n (if c then A else B) (if c then A' else B') := by
  by_cases h : c
  · rw [if_pos h, if_pos h]; exact h1 h
  · rw [if_neg h, if_neg h]; exact h2 h
theorem rel_bind2 {b t : Bs} {n : Nat} {α : Type} {o o' : Option α} {k k' : α → Option (S20 ⊕ R20)} {r : α} (ho : o = some r) (ho' : o' = some r) (h : Rel b t n (k r) (k' r)) : Rel b t n (o.bind k) (o'.bind k') := by
  rw [ho, ho']; exact h
theorem Rel.gg {b t : Bs} {n : Nat} {s' : S20} (h : I20 b s') (hm : mu20 b s' < n) : Rel b t n (some (.inl s')) (some (.inl (ph20 t s'))) := .go s' h hm rfl
theorem rel_neg {b t : Bs} {n : Nat} {c c' : Prop} [Decidable c] [Decidable c'] {A A' B B' : Option (S20 ⊕ R20)} (h1 : ¬ c) (h2 : ¬ c') (h : Rel b t n B B') : Rel b t n (if c then A else B) (if c' then A' else B') := by
  rw [if_neg h1, if_neg h2]; exact h
theorem rel_pos {b t : Bs} {n : Nat} {c c' : Prop} [Decidable c] [Decidable c'] {A A' B B' : Option (S20 ⊕ R20)} (h1 : c) (h2 : c') (h : Rel b t n A A') : Rel b t n (if c then A else B) (if c' then A' else B') := by
  rw [if_pos h1, if_pos h2]; exact h
theorem n80 : ¬ ((8 : Int) == 0) = true := by decide
theorem n210 : ¬ ((21 : Int) == 0) = true := by decide
theorem p00 : ((0 : Int) == 0) = true := by decide
theorem rel_bind {b t : Bs} {n : Nat} {α : Type} {o : Option α} {k k' : α → Option (S20 ⊕ R20)} {r : α} (ho : o = some r) (h : Rel b t n (k r) (k' r)) : Rel b t n (o.bind k) (o.bind k') := by
  rw [ho]; exact h
theorem getD_app {b t : Bs} {i : Nat} (h : i < b.length) : (b ++ t).getD i default = b.getD i default := by
  rw [List.getD_eq_getElem?_getD, List.getD_eq_getElem?_getD, List.getElem?_append_left h]
theorem m33_A {z : Bool} {b : Bs} {a : Int} {c : UInt8} (e : a = b.length) : m33 z b a c = some (8, z, b, a, c) := by
  unfold m33
  rw [if_pos (by simpa using e)]
theorem m33_B {z : Bool} {b : Bs} {a : Int} {c : UInt8} (e : a ≠ b.length) (e2 : a = 2048) : m33 z b a c = some (21, z, b, a, c) := by
  unfold m33
  rw [if_neg (by simpa using e), if_pos (by simpa using e2)]
theorem m33_C {z : Bool} {b : Bs} {a : Int} {c : UInt8} (e : a ≠ b.length) (e2 : a ≠ 2048) (h0 : 0 ≤ a) (h1 : a < b.length) (hb : b.length < 2 ^ 61) : m33 z b a c = some (0, z, b, a + 1, b.getD a.toNat default) := by
  unfold m33
  rw [if_neg (by simpa using e), if_neg (by simpa using e2), if_pos ⟨h0, h1⟩, w64_eq _ (by omega) (by omega)]
theorem rel_next {b t : Bs} {n : Nat} {z : Bool} {a : Int} {c : UInt8} {k k' : R33 → Option (S20 ⊕ R20)} (hb : (b ++ t).length < 2 ^ 60) (h0 : 0 ≤ a) (h1 : a ≤ b.length) (h2 : a ≤ 2048)
    (hA : ∃ x : T20, k (8, z, b, a, c) = some (.inl (.inr (.inr (.inr (.inr (.inr (.inl x))))))) ∧ x.2.2.2.2.2.2.1 = 8)
    (hB : Rel b t n (k (21, z, b, a, c)) (k' (21, false, b ++ t, a, c)))
    (hC : a < b.length → a < 2048 → Rel b t n (k (0, z, b, a + 1, b.getD a.toNat default)) (k' (0, false, b ++ t, a + 1, b.getD a.toNat default))) :
    Rel b t n ((m33 z b a c).bind k) ((m33 false (b ++ t) a c).bind k') := by
  have hbt : (b ++ t).length < 2 ^ 61 := by omega
  have hb1 : b.length < 2 ^ 61 := by rw [List.length_append] at hb; omega
  by_cases e : a = b.length
  · obtain ⟨x, hx, he⟩ := hA
    rw [m33_A e, Option.bind_some, hx]
    exact .more x he
  · by_cases e2 : a = 2048
    · rw [m33_B e e2, m33_B (by simp only [List.length_append]; omega) e2]; exact hB
    · rw [m33_C e e2 h0 (by omega) hb1, m33_C (by simp only [List.length_append]; omega) e2 h0 (by simp only [List.length_append]; omega) hbt, getD_app (by omega)]
      exact hC (by omega) (by omega)
theorem rel_name {b t : Bs} {n : Nat} (hb : (b ++ t).length < 2 ^ 60) {z : Bool} {l0 : Bool} {l : List (Bs × Bs)} {f o e a : Int} {hz : Bool} {c : UInt8} (h : C20 b b b l f a) (hf : f < a) (hn : 3 * ((b.length : Int) - a).toNat + 1 < n) :
    Rel b t n (j20_34v1 z b l0 l f o e hz b a c) (j20_34v1 false (b ++ t) l0 l f o e false (b ++ t) a c) := by
  obtain ⟨-, -, h0, h1, h2, h3, h4⟩ := h
  have key : ∀ q : Bool, (q = true → f + 1 < a) → Rel b t n (j20_40v1 z b l0 l f o e q hz b a c) (j20_40v1 false (b ++ t) l0 l f o e q false (b ++ t) a c) := by
    intro q hq
    unfold j20_40v1
    refine rel_if (fun g => ?_) (fun _ => ?_)
    · have := hq g
      exact Rel.gg ⟨⟨rfl, rfl, h0, h1, h2, h3, h4⟩, by omega, by omega⟩ hn
    · obtain ⟨r, hr⟩ := m34_T c
      refine rel_bind hr (rel_if (fun _ => ?_) (fun _ => Rel.gg trivial (by simp only [mu20]; omega)))
      unfold j20_49v1
      refine rel_next hb (by omega) h2 h3 ⟨_, if_neg n80, rfl⟩ (rel_neg n210 n210 (Rel.gg trivial (by simp only [mu20]; omega))) (fun h5 h6 => ?_)
      refine rel_pos p00 p00 ?_
      dsimp only
      unfold j20_57v1
      have k2 : ∀ q : Bool, Rel b t n (j20_60v1 z b l0 l f o 0 q hz b (a + 1) (b.getD a.toNat default)) (j20_60v1 false (b ++ t) l0 l f o 0 q false (b ++ t) (a + 1) (b.getD a.toNat default)) := by
        intro q
        unfold j20_60v1 j20_63v1
        exact rel_if (fun _ => Rel.gg trivial (by simp only [mu20]; omega)) (fun _ => Rel.gg ⟨⟨rfl, rfl, h0, by omega, by omega, by omega, by omega⟩, by omega⟩ (by simp only [mu20]; omega))
      exact rel_if (fun _ => k2 _) (fun _ => k2 _)
  unfold j20_34v1
  refine rel_if (fun _ => key _ (fun g => ?_)) (fun _ => key _ (fun g => by cases g))
  have := of_decide_eq_true g
  rw [w64_eq _ (by omega) (by omega)] at this
  exact this
theorem j20_34_v (z : Bool) (b : Bs) (f o e : Int) (hz : Bool) (b2 : Bs) (a : Int) (c : UInt8) : j20_34 z b f o e hz b2 a c = j20_34v1 z b true [] f o e hz b2 a c := rfl
theorem rel_end {b t : Bs} (hb : (b ++ t).length < 2 ^ 60) {z l0 : Bool} {l : List (Bs × Bs)} {f o e : Int} {hz : Bool} {a : Int} {c : UInt8} (h : C20 b b b l f a) :
    Rel b t (3 * ((b.length : Int) - a).toNat + 1) (s20_2x1 z b l0 l f o e hz b a c) (s20_2x1 false (b ++ t) l0 l f o e false (b ++ t) a c) := by
  obtain ⟨-, -, h0, h1, h2, h3, h4⟩ := h
  unfold s20_2x1
  refine rel_next hb (by omega) h2 h3 ⟨_, if_neg n80, rfl⟩ (rel_neg n210 n210 (Rel.gg trivial (by simp only [mu20]; omega))) (fun h5 h6 => ?_)
  refine rel_pos p00 p00 ?_
  dsimp only
  exact rel_if (fun _ => .ans _ ⟨by omega, by omega⟩) (fun _ => .ans _ ⟨by omega, by omega⟩)
theorem rel_value {b t : Bs} (hb : (b ++ t).length < 2 ^ 60) {z l0 : Bool} {l : List (Bs × Bs)} {f o e : Int} {hz : Bool} {a : Int} {c : UInt8} (h : C20 b b b l f a) (ho : f + 1 ≤ o) (ho2 : o ≤ a) :
    Rel b t (3 * ((b.length : Int) - a).toNat + 1) (s20_2x2 z b l0 l f o e hz b a c) (s20_2x2 false (b ++ t) l0 l f o e false (b ++ t) a c) := by
  obtain ⟨-, -, h0, h1, h2, h3, h4⟩ := h
  unfold s20_2x2
  refine rel_next hb (by omega) h2 h3 ⟨_, if_neg n80, rfl⟩ (rel_neg n210 n210 (Rel.gg trivial (by simp only [mu20]; omega))) (fun h5 h6 => ?_)
  refine rel_pos p00 p00 ?_
  dsimp only
  refine rel_if (fun _ => Rel.gg ⟨⟨rfl, rfl, h0, by omega, by omega, by omega, by omega⟩, ho, by omega⟩ (by simp only [mu20]; omega)) (fun _ => rel_if (fun _ => Rel.gg trivial (by simp only [mu20]; omega)) (fun _ => ?_))
  obtain ⟨r, hr⟩ := m35_T (b.getD a.toNat default)
  exact rel_bind hr (rel_if (fun _ => Rel.gg ⟨⟨rfl, rfl, h0, by omega, by omega, by omega, by omega⟩, ho, by omega⟩ (by simp only [mu20]; omega)) (fun _ => Rel.gg trivial (by simp only [mu20]; omega)))
theorem rel_nm {b t : Bs} (hb : (b ++ t).length < 2 ^ 60) {z l0 : Bool} {l : List (Bs × Bs)} {f o e : Int} {hz : Bool} {a : Int} {c : UInt8} (h : C20 b b b l f a) (hf : f < a) :
    Rel b t (3 * ((b.length : Int) - a).toNat + 2) (s20_2x4 z b l0 l f o e hz b a c) (s20_2x4 false (b ++ t) l0 l f o e false (b ++ t) a c) :=
  rel_name hb h hf (by omega)
theorem bnd_of {i : Int} {n : Nat} (h0 : 0 ≤ i) (h1 : i ≤ n) : bnd i n = some i.toNat := if_pos ⟨h0, h1⟩
theorem rel_ended {b t : Bs} (hb : (b ++ t).length < 2 ^ 60) {z l0 : Bool} {l : List (Bs × Bs)} {f o e : Int} {hz : Bool} {a : Int} {c : UInt8} (h : C20 b b b l f a) (ho : f + 1 ≤ o) (ho2 : o + 1 ≤ a) :
    Rel b t (3 * ((b.length : Int) - a).toNat + 1) (s20_2x7 z b l0 l f o e hz b a c) (s20_2x7 false (b ++ t) l0 l f o e false (b ++ t) a c) := by
  obtain ⟨-, -, h0, h1, h2, h3, h4⟩ := h
  unfold s20_2x7
  have hl : (b ++ t).length = b.length + t.length := List.length_append
  rw [w64_eq (o - 1) (by omega) (by omega), w64_eq (a - 1) (by omega) (by omega)]
  refine rel_bind2 (bnd_of (by omega) (by omega)) (bnd_of (by omega) (by omega)) ?_
  refine rel_bind2 (bnd_of (by omega) (by omega)) (bnd_of (by omega) (by omega)) ?_
  refine rel_bind2 (bnd_of (by omega) (by omega)) (bnd_of (by omega) (by omega)) ?_
  refine rel_bind2 (bnd_of (by omega) (by omega)) (bnd_of (by omega) (by omega)) ?_
  rw [List.take_append_of_le_length (by omega), List.take_append_of_le_length (by omega)]
  obtain ⟨r, hr⟩ := m36_T ((b.take (a - 1).toNat).drop o.toNat) (by simp; omega)
  refine rel_bind hr ?_
  rw [if_pos (by omega), if_pos (by omega)]
  refine rel_next hb (by omega) h2 h3 ⟨_, if_neg n80, rfl⟩ (rel_neg n210 n210 (Rel.gg trivial (by simp only [mu20]; omega))) (fun h5 h6 => ?_)
  refine rel_pos p00 p00 ?_
  dsimp only
  exact rel_if (fun _ => Rel.gg ⟨rfl, rfl, by omega, by omega, by omega, by omega, by simp; omega⟩ (by simp only [mu20]; omega)) (fun _ => Rel.gg trivial (by simp only [mu20]; omega))
theorem rel_line {b t : Bs} (hb : (b ++ t).length < 2 ^ 60) {z l0 : Bool} {l : List (Bs × Bs)} {f o e : Int} {hz : Bool} {a : Int} {c : UInt8} (h : C20 b b b l f a) :
    Rel b t (3 * ((b.length : Int) - a).toNat + 1) (s20_2x8 z b l0 l f o e hz b a c) (s20_2x8 false (b ++ t) l0 l f o e false (b ++ t) a c) := by
  obtain ⟨-, -, h0, h1, h2, h3, h4⟩ := h
  unfold s20_2x8
  refine rel_next hb (by omega) h2 h3 ⟨_, if_neg n80, rfl⟩ (rel_neg n210 n210 (Rel.gg trivial (by simp only [mu20]; omega))) (fun h5 h6 => ?_)
  refine rel_pos p00 p00 ?_
  dsimp only
  unfold j20_23v1
  exact rel_if (fun _ => Rel.gg ⟨rfl, rfl, by omega, by omega, by omega, by omega, by omega⟩ (by simp only [mu20]; omega)) (fun _ => rel_if (fun _ => Rel.gg trivial (by simp only [mu20]; omega)) (fun _ => rel_name hb ⟨rfl, rfl, by omega, by omega, by omega, by omega, by omega⟩ (by omega) (by omega)))
theorem rel_start {b t : Bs} (hb : (b ++ t).length < 2 ^ 60) {z : Bool} : Rel b t (3 * b.length + 3) (s20_2x0 z b) (s20_2x0 false (b ++ t)) := by
  unfold s20_2x0
  refine rel_next hb (by omega) (by omega) (by omega) ⟨_, if_neg n80, rfl⟩ (rel_neg n210 n210 (Rel.gg trivial (by simp only [mu20]; omega))) (fun h5 h6 => ?_)
  refine rel_pos p00 p00 ?_
  dsimp only
  unfold j20_23
  refine rel_if (fun _ => Rel.gg ⟨rfl, rfl, by omega, by omega, by omega, by omega, by simp⟩ (by simp only [mu20]; omega)) (fun _ => ?_)
  rw [j20_34_v, j20_34_v]
  exact rel_name hb ⟨rfl, rfl, by omega, by omega, by omega, by omega, by simp⟩ (by omega) (by omega)
theorem m20_two (z : Bool) (b t : Bs) (hb : (b ++ t).length < 2 ^ 60) : (∃ r, m20 z b = some r ∧ m20 false (b ++ t) = some r ∧ Q20 b r) ∨ m20 z b = some (.inr (true, [], 0, 8)) := by
  have key := iter_two (f := s20_2) (g := s20_2) (ph20 t) (fun s => I20 b s) (mu20 b) (Q20 b) (fun r => r = .inr (true, [], 0, 8)) ?_ (.inl (z, b)) rfl
  · rcases key with h | ⟨r, h, rfl⟩
    · exact .inl h
    · exact .inr h
  intro s hI
  have fin : ∀ {x y}, Rel b t (mu20 b s) x y → s20_2 s = x → s20_2 (ph20 t s) = y → (∃ s', s20_2 s = some (.inl s') ∧ I20 b s' ∧ mu20 b s' < mu20 b s ∧ s20_2 (ph20 t s) = some (.inl (ph20 t s'))) ∨ (∃ r, s20_2 s = some (.inr r) ∧ s20_2 (ph20 t s) = some (.inr r) ∧ Q20 b r) ∨ (∃ r, iter s20_2 s = some r ∧ r = .inr (true, [], 0, 8)) := by
    intro x y h e1 e2
    cases h with
    | go s' h hm hy => exact .inl ⟨s', e1, h, hm, e2.trans hy⟩
    | ans r h => exact .inr (.inl ⟨r, e1, e2, h⟩)
    | more x h =>
      refine .inr (.inr ⟨_, ?_, rfl⟩)
      rw [iter_l e1]
      obtain ⟨z, b1, l0, l, f, o, e, hz, b2, a, c⟩ := x
      obtain rfl : e = 8 := h
      exact iter_r rfl
  rcases s with ⟨z, b1⟩ | ⟨z, b1, l0, l, f, o, e, hz, b2, a, c⟩ | ⟨z, b1, l0, l, f, o, e, hz, b2, a, c⟩ | ⟨z, b1, l0, l, f, o, e, hz, b2, a, c⟩ | ⟨z, b1, l0, l, f, o, e, hz, b2, a, c⟩ | ⟨z, b1, l0, l, f, o, e, hz, b2, a, c⟩ | ⟨z, b1, l0, l, f, o, e, hz, b2, a, c⟩ | ⟨z, b1, l0, l, f, o, e, hz, b2, a, c⟩ | ⟨z, b1, l0, l, f, o, e, hz, b2, a, c⟩
  · obtain rfl : b1 = b := hI
    exact fin (rel_start hb) rfl rfl
  · obtain ⟨rfl, rfl, h⟩ := hI
    exact fin (rel_end (z := z) (l0 := l0) (o := o) (e := e) (hz := hz) (c := c) hb ⟨rfl, rfl, h⟩) rfl rfl
  · obtain ⟨⟨rfl, rfl, h⟩, h1, h2⟩ := hI
    exact fin (rel_value (z := z) (l0 := l0) (o := o) (e := e) (hz := hz) (c := c) hb ⟨rfl, rfl, h⟩ h1 h2) rfl rfl
  · exact fin (.ans (.inr (true, [], 0, 21)) (And.intro (Int.le_refl 0) (Int.natCast_nonneg _))) rfl rfl
  · obtain ⟨⟨rfl, rfl, h⟩, h1⟩ := hI
    exact fin (rel_nm (z := z) (l0 := l0) (o := o) (e := e) (hz := hz) (c := c) hb ⟨rfl, rfl, h⟩ h1) rfl rfl
  · exact fin (.ans (.inr (true, [], 0, e)) (And.intro (Int.le_refl 0) (Int.natCast_nonneg _))) rfl rfl
  · exact fin (.ans (.inr (true, [], 0, 20)) (And.intro (Int.le_refl 0) (Int.natCast_nonneg _))) rfl rfl
  · obtain ⟨⟨rfl, rfl, h⟩, h1, h2⟩ := hI
    exact fin (rel_ended (z := z) (l0 := l0) (o := o) (e := e) (hz := hz) (c := c) hb ⟨rfl, rfl, h⟩ h1 h2) rfl rfl
  · obtain ⟨rfl, rfl, h⟩ := hI
    exact fin (rel_line (z := z) (l0 := l0) (o := o) (e := e) (hz := hz) (c := c) hb ⟨rfl, rfl, h⟩) rfl rfl
end Go.Ab
end
section
set_option linter.all false
set_option maxRecDepth 100000
open Go Go.Ab Go.Proofs Go.Proofs.YtaohepmbkepmiaaDoor
namespace Go.Ab
theorem idx_app : ∀ (l r : Bs) (c : UInt8), 0 ≤ Lib.indexByte l c → Lib.indexByte (l ++ r) c = Lib.indexByte l c
  | [], r, c, h => by simp [Lib.indexByte] at h
  | b :: l, r, c, h => by
    rw [List.cons_append]
    unfold Lib.indexByte at h ⊢
    by_cases e : (b == c) = true
    · rw [if_pos e, if_pos e]
    · rw [if_neg e] at h ⊢
      rw [if_neg e]
      by_cases e2 : (Lib.indexByte l c == -1) = true
      · rw [if_pos e2] at h; exact absurd h (by decide)
      · have := Lib.indexByte_ge l c
        have e3 : Lib.indexByte l c ≠ -1 := by simpa using e2
        rw [idx_app l r c (by omega)]
theorem idx_lt {l : Bs} {c : UInt8} (h : 0 ≤ Lib.indexByte l c) : Lib.indexByte l c < l.length := by
  obtain ⟨o, ho⟩ : ∃ o : Nat, Lib.indexByte l c = o := ⟨(Lib.indexByte l c).toNat, by omega⟩
  have h1 := (Lib.indexByte_some ho).1
  have : o < l.length := by
    by_cases g : o < l.length
    · exact g
    · rw [List.getElem?_eq_none (by omega)] at h1; cases h1
  omega
def eol (r : Bs) : Int := Lib.indexByte (r.take (min r.length 64)) 10
theorem min2_len (n : Nat) : bnd (min2 (n : Int) 64) n = some (min n 64) := by
  unfold min2 bnd
  split
  · rw [if_pos ⟨by decide, by omega⟩, show (64 : Int).toNat = 64 from rfl, Nat.min_eq_right (by omega)]
  · rw [if_pos ⟨by omega, by omega⟩, Int.toNat_natCast, Nat.min_eq_left (by omega)]
theorem eol_app {r t : Bs} (h : 0 ≤ eol r) : eol (r ++ t) = eol r := by
  have : (r ++ t).take (min (r ++ t).length 64) = r.take (min r.length 64) ++ ((r ++ t).take (min (r ++ t).length 64)).drop (min r.length 64) := by
    conv => lhs; rw [← List.take_append_drop (min r.length 64) ((r ++ t).take (min (r ++ t).length 64))]
    rw [List.take_take, List.length_append, Nat.min_eq_left (by omega), List.take_append_of_le_length (by omega)]
  unfold eol at h ⊢
  rw [this, idx_app _ _ _ h]
theorem eol_long {r t : Bs} (h : 64 ≤ r.length) : eol (r ++ t) = eol r := by
  unfold eol
  rw [List.length_append, Nat.min_eq_right (by omega), Nat.min_eq_right (by omega), List.take_append_of_le_length (by omega)]
theorem eol_lt {r : Bs} (h : 0 ≤ eol r) : eol r < r.length ∧ eol r < 64 := by
  have := idx_lt h
  rw [List.length_take] at this
  unfold eol
  omega
theorem cpy_len {l src : Bs} {off n : Nat} (h : off + min src.length n ≤ l.length) : (cpy l off n src).length = l.length := by
  unfold cpy
  simp only [List.length_append, List.length_take, List.length_drop]
  omega
theorem cpy_app {l src t : Bs} {off n : Nat} (h : n ≤ src.length) : cpy l off n (src ++ t) = cpy l off n src := by
  unfold cpy
  rw [List.take_append_of_le_length h, List.length_append, Nat.min_eq_right h, Nat.min_eq_right (by omega)]
abbrev A8 := (Bool × List UInt8 × Bool × List UInt8 × Int × Int)
abbrev B8 := (Bool × List UInt8 × Nat × Nat × Int × Int × List UInt8)
abbrev S8 := ((Bool × List UInt8) ⊕ A8 ⊕ A8 ⊕ B8 ⊕ B8 ⊕ B8)
def phA (t : Bs) : A8 → A8 := fun (z, b, y, l, a, e) => (false, b ++ t, y, l, a, e)
def phB (t : Bs) : B8 → B8 := fun (z, b, n, m, a, e, h) => (false, b ++ t, n, m, a, e, h)
def ph8 (t : Bs) : S8 → S8
  | .inl x => .inl (false, x.2 ++ t)
  | .inr (.inl x) => .inr (.inl (phA t x))
  | .inr (.inr (.inl x)) => .inr (.inr (.inl (phA t x)))
  | .inr (.inr (.inr (.inl x))) => .inr (.inr (.inr (.inl (phB t x))))
  | .inr (.inr (.inr (.inr (.inl x)))) => .inr (.inr (.inr (.inr (.inl (phB t x)))))
  | .inr (.inr (.inr (.inr (.inr x)))) => .inr (.inr (.inr (.inr (.inr (phB t x)))))
def CB (b b1 : Bs) (n : Nat) (a : Int) (h : Bs) : Prop := b1 = b ∧ n = h.length ∧ (n : Int) ≤ a ∧ n ≤ 4096 ∧ a ≤ b.length
def I8 (b : Bs) : S8 → Prop
  | .inl x => x.2 = b
  | .inr (.inl x) => True
  | .inr (.inr (.inl (z, b1, y, l, a, e))) => b1 = b ∧ l = [] ∧ 0 ≤ a ∧ a ≤ b.length
  | .inr (.inr (.inr (.inl x))) => True
  | .inr (.inr (.inr (.inr (.inl (z, b1, n, m, a, e, h))))) => CB b b1 n a h
  | .inr (.inr (.inr (.inr (.inr (z, b1, n, m, a, e, h))))) => CB b b1 n a h
def mu8 (b : Bs) : S8 → Nat
  | .inl x => b.length + 3
  | .inr (.inl x) => 0
  | .inr (.inr (.inl x)) => 1
  | .inr (.inr (.inr (.inl x))) => 0
  | .inr (.inr (.inr (.inr (.inl (z, b1, n, m, a, e, h))))) => ((b.length : Int) - a).toNat + 2
  | .inr (.inr (.inr (.inr (.inr x)))) => 1
def Q8 (b : Bs) : R8 → Prop := fun (z, x, n, e) => 0 ≤ n ∧ n ≤ b.length ∧ x.length ≤ 4096 ∧ (x.length : Int) ≤ n ∧ (e = 0 ∨ (n = 0 ∧ x = []))
inductive Rel8 (b t : Bs) (n : Nat) : Option (S8 ⊕ R8) → Option (S8 ⊕ R8) → Prop
  | go (s' : S8) (h : I8 b s') (hm : mu8 b s' < n) {y} (hy : y = some (.inl (ph8 t s'))) : Rel8 b t n (some (.inl s')) y
  | ans (r : R8) (h : Q8 b r) : Rel8 b t n (some (.inr r)) (some (.inr r))
  | moreA (x : A8) (h : x.2.2.2.2.2 = 8) {y} : Rel8 b t n (some (.inl (.inr (.inl x)))) y
  | moreB (x : B8) (h : x.2.2.2.2.2.1 = 8) {y} : Rel8 b t n (some (.inl (.inr (.inr (.inr (.inl x)))))) y
section
variable {b t : Bs} {n : Nat}
theorem r8_if {c : Prop} [Decidable c] {A A' B B' : Option (S8 ⊕ R8)} (h1 : c → Rel8 b t n A A') (h2 : ¬ c → Rel8 b t n B B') : Rel8 b t n (if c then A else B) (if c then A' else B') := by
  by_cases h : c
  · rw [if_pos h, if_pos h]; exact h1 h
  · rw [if_neg h, if_neg h]; exact h2 h
theorem r8_bind {α : Type} {o : Option α} {k k' : α → Option (S8 ⊕ R8)} {r : α} (ho : o = some r) (h : Rel8 b t n (k r) (k' r)) : Rel8 b t n (o.bind k) (o.bind k') := by
  rw [ho]; exact h
theorem r8_bind2 {α : Type} {o o' : Option α} {k k' : α → Option (S8 ⊕ R8)} {r r' : α} (ho : o = some r) (ho' : o' = some r') (h : Rel8 b t n (k r) (k' r')) : Rel8 b t n (o.bind k) (o'.bind k') := by
  rw [ho, ho']; exact h
theorem Rel8.gg {s' : S8} (h : I8 b s') (hm : mu8 b s' < n) : Rel8 b t n (some (.inl s')) (some (.inl (ph8 t s'))) := .go s' h hm rfl
theorem r8_neg {c c' : Prop} [Decidable c] [Decidable c'] {A A' B B' : Option (S8 ⊕ R8)} (h1 : ¬ c) (h2 : ¬ c') (h : Rel8 b t n B B') : Rel8 b t n (if c then A else B) (if c' then A' else B') := by
  rw [if_neg h1, if_neg h2]; exact h
theorem r8_pos {c c' : Prop} [Decidable c] [Decidable c'] {A A' B B' : Option (S8 ⊕ R8)} (h1 : c) (h2 : c') (h : Rel8 b t n A A') : Rel8 b t n (if c then A else B) (if c' then A' else B') := by
  rw [if_pos h1, if_pos h2]; exact h
theorem r8_more {c c' : Prop} [Decidable c] [Decidable c'] {A A' B B' : Option (S8 ⊕ R8)} (h1 : ∀ y, Rel8 b t n A y) (hc : ¬ c → ¬ c') (h : ¬ c → Rel8 b t n B B') : Rel8 b t n (if c then A else B) (if c' then A' else B') := by
  by_cases g : c
  · rw [if_pos g]; exact h1 _
  · rw [if_neg g, if_neg (hc g)]; exact h g
end
theorem d_neg {p : Prop} [Decidable p] (h : ¬ p) : ¬ (decide p) = true := by simpa using h
theorem d_pos {p : Prop} [Decidable p] (h : p) : (decide p) = true := by simpa using h
section
variable {b t : Bs}
theorem r8_77 {n : Nat} (hb : (b ++ t).length < 2 ^ 60) {z : Bool} {m1 m2 : Nat} {a k e : Int} {h : Bs} (hc : CB b b m1 a h) (hk : 0 < k) (hk2 : k + m1 ≤ 4096) (hl : a + k + 2 ≤ b.length) (hn : ((b.length : Int) - (a + k + 2)).toNat + 2 < n) :
    Rel8 b t n (j8_77v1 z b m1 m2 a k e h) (j8_77v1 false (b ++ t) m1 m2 a k e h) := by
  obtain ⟨-, h0, h1, h2, h3⟩ := hc
  have hl2 : (b ++ t).length = b.length + t.length := List.length_append
  unfold j8_77v1
  rw [w64_eq k (by omega) (by omega), w64_eq ((m1 : Int) + k) (by omega) (by omega), w64_eq (a + k) (by omega) (by omega), w64_eq (a + k + 1) (by omega) (by omega)]
  have eN : ((m1 : Int) + k).toNat = m1 + k.toNat := by omega
  have e1 : (h.take m1).length = m1 := by rw [List.length_take]; omega
  rw [eN, e1]
  refine r8_pos ⟨by omega, by omega⟩ ⟨by omega, by omega⟩ (r8_pos (by omega) (by omega) ?_)
  refine r8_bind2 (r := m1) (r' := m1) (by rw [Nat.min_eq_left (by omega)]; exact bnd_ok (by omega)) (by rw [Nat.min_eq_left (by omega)]; exact bnd_ok (by omega)) ?_
  refine r8_bind2 (bnd_of (by omega) (by omega)) (bnd_of (by omega) (by omega)) ?_
  have c1 : (cpy (List.replicate (m1 + k.toNat) (0 : UInt8)) 0 (m1 + k.toNat) (h.take m1)).length = m1 + k.toNat := by
    rw [cpy_len (by rw [List.length_replicate, e1]; omega), List.length_replicate]
  refine r8_pos (by rw [c1]; omega) (by rw [c1]; omega) ?_
  refine r8_pos ⟨by omega, by omega⟩ ⟨by omega, by omega⟩ ?_
  have ed : (b ++ t).drop a.toNat = b.drop a.toNat ++ t := List.drop_append_of_le_length (by omega)
  rw [getD_app (by omega), getD_app (by omega), ed, cpy_app (by rw [List.length_drop]; omega)]
  have key : ∀ q : Bool, Rel8 b t n (j8_86v1 z b (m1 + k.toNat) (m1 + k.toNat) (a + k) e q (cpy (cpy (List.replicate (m1 + k.toNat) (0 : UInt8)) 0 (m1 + k.toNat) (h.take m1)) m1 (m1 + k.toNat - m1) (b.drop a.toNat)))
      (j8_86v1 false (b ++ t) (m1 + k.toNat) (m1 + k.toNat) (a + k) e q (cpy (cpy (List.replicate (m1 + k.toNat) (0 : UInt8)) 0 (m1 + k.toNat) (h.take m1)) m1 (m1 + k.toNat - m1) (b.drop a.toNat))) := by
    intro q
    unfold j8_86v1 j8_91v1
    refine r8_if (fun _ => Rel8.gg trivial (by simp only [mu8]; omega)) (fun _ => ?_)
    rw [w64_eq _ (by omega) (by omega)]
    refine Rel8.gg ⟨rfl, ?_, by omega, by omega, by omega⟩ (by simp only [mu8]; omega)
    rw [cpy_len (by rw [c1, List.length_drop]; omega), c1]
  refine r8_if (fun _ => ?_) (fun _ => key _)
  exact r8_pos ⟨by omega, by omega⟩ ⟨by omega, by omega⟩ (key _)
theorem r8_77n {n : Nat} (hb : (b ++ t).length < 2 ^ 60) {z y : Bool} {a k e : Int} (ha : 0 ≤ a) (hk : 0 < k) (hk2 : k ≤ 4096) (hl : a + k + 2 ≤ b.length) (hn : ((b.length : Int) - (a + k + 2)).toNat + 2 < n) :
    Rel8 b t n (j8_77 z b y [] a k e) (j8_77 false (b ++ t) y [] a k e) := by
  have := r8_77 (n := n) hb (z := z) (m1 := 0) (m2 := 0) (a := a) (k := k) (e := e) (h := []) ⟨rfl, rfl, by omega, by omega, by omega⟩ hk (by omega) hl hn
  unfold j8_77v1 at this
  unfold j8_77
  simp only [List.take_nil, List.length_nil, Nat.le_refl, if_true] at this ⊢
  exact this
theorem r8_55 {n : Nat} (hb : (b ++ t).length < 2 ^ 60) {z : Bool} {m1 m2 : Nat} {a k e : Int} {h : Bs} (hc : CB b b m1 a h) (hk : 0 ≤ k) (hn : ((b.length : Int) - a).toNat + 2 < n) :
    Rel8 b t n (j8_55v1 z b m1 m2 a k e h) (j8_55v1 false (b ++ t) m1 m2 a k e h) := by
  have hc' := hc
  obtain ⟨-, h0, h1, h2, h3⟩ := hc
  have hl2 : (b ++ t).length = b.length + t.length := List.length_append
  unfold j8_55v1
  refine r8_if (fun _ => Rel8.gg trivial (by simp only [mu8]; omega)) (fun g => ?_)
  rw [w64_eq _ (by omega) (by omega), wu64m, Int.emod_eq_of_lt (by omega) (by omega)] at g
  have g' : k ≤ 4096 - m1 := by have : ¬ (4096 - (m1 : Int) < k) := fun x => g (d_pos x); omega
  unfold j8_63v1
  refine r8_if (fun _ => Rel8.gg hc' (by simp only [mu8]; omega)) (fun g2 => ?_)
  have g3 : k ≠ 0 := fun x => g2 (by simpa using x)
  unfold j8_69v1
  have e3 : w64 (w64 k + 2) = k + 2 := by rw [w64_eq k (by omega) (by omega), w64_eq _ (by omega) (by omega)]
  refine r8_more (fun y => .moreB _ rfl) (fun q => ?_) (fun q => ?_)
  · refine d_neg fun x => q (d_pos ?_)
    rw [w64_eq _ (by omega) (by omega)] at x ⊢
    omega
  · have q2 : ¬ (w64 ((b.length : Int) - a) < w64 (w64 k + 2)) := fun x => q (d_pos x)
    rw [e3, w64_eq _ (by omega) (by omega)] at q2
    exact r8_77 hb hc' (by omega) (by omega) (by omega) (by omega)
theorem r8_55n {n : Nat} (hb : (b ++ t).length < 2 ^ 60) {z y : Bool} {a k e : Int} (ha : 0 ≤ a) (ha2 : a ≤ b.length) (hk : 0 ≤ k) (hn : ((b.length : Int) - a).toNat + 2 < n) :
    Rel8 b t n (j8_55 z b y [] a k e) (j8_55 false (b ++ t) y [] a k e) := by
  have hl2 : (b ++ t).length = b.length + t.length := List.length_append
  unfold j8_55
  refine r8_if (fun _ => Rel8.gg trivial (by simp only [mu8]; omega)) (fun g => ?_)
  rw [w64_eq _ (by simp) (by simp), wu64m, Int.emod_eq_of_lt (by simp) (by simp)] at g
  have g' : k ≤ 4096 := by have : ¬ (4096 - (([] : Bs).length : Int) < k) := fun x => g (d_pos x); simp only [List.length_nil] at this; omega
  unfold j8_63
  refine r8_if (fun _ => Rel8.gg ⟨rfl, rfl, ha, ha2⟩ (by simp only [mu8]; omega)) (fun g2 => ?_)
  have g3 : k ≠ 0 := fun x => g2 (by simpa using x)
  unfold j8_69
  have e3 : w64 (w64 k + 2) = k + 2 := by rw [w64_eq k (by omega) (by omega), w64_eq _ (by omega) (by omega)]
  refine r8_more (fun y => .moreA _ rfl) (fun q => ?_) (fun q => ?_)
  · refine d_neg fun x => q (d_pos ?_)
    rw [w64_eq _ (by omega) (by omega)] at x ⊢
    omega
  · have q2 : ¬ (w64 ((b.length : Int) - a) < w64 (w64 k + 2)) := fun x => q (d_pos x)
    rw [e3, w64_eq _ (by omega) (by omega)] at q2
    exact r8_77n hb (by omega) (by omega) (by omega) (by omega) (by omega)
theorem r8_47 {n : Nat} (hb : (b ++ t).length < 2 ^ 60) {z : Bool} {m1 m2 : Nat} {a : Int} {s h : Bs} (hs : s.length < 64) (hc : CB b b m1 a h) (hn : ((b.length : Int) - a).toNat + 2 < n) :
    Rel8 b t n (j8_47v1 z b m1 m2 a s h) (j8_47v1 false (b ++ t) m1 m2 a s h) := by
  unfold j8_47v1
  obtain ⟨r, hr, hr2⟩ := m19_T s (by omega)
  obtain ⟨q, hq, hq2⟩ := m18_T r (by omega)
  exact r8_bind hr (r8_bind hq (r8_if (fun _ => r8_55 hb hc hq2 hn) (fun _ => Rel8.gg trivial (by simp only [mu8]; omega))))
theorem r8_47n {n : Nat} (hb : (b ++ t).length < 2 ^ 60) {z y : Bool} {a : Int} {s : Bs} (hs : s.length < 64) (ha : 0 ≤ a) (ha2 : a ≤ b.length) (hn : ((b.length : Int) - a).toNat + 2 < n) :
    Rel8 b t n (j8_47 z b y [] a s) (j8_47 false (b ++ t) y [] a s) := by
  unfold j8_47
  obtain ⟨r, hr, hr2⟩ := m19_T s (by omega)
  obtain ⟨q, hq, hq2⟩ := m18_T r (by omega)
  exact r8_bind hr (r8_bind hq (r8_if (fun _ => r8_55n hb ha ha2 hq2 hn) (fun _ => Rel8.gg trivial (by simp only [mu8]; omega))))
theorem r8_28 {n : Nat} (hb : (b ++ t).length < 2 ^ 60) {z y : Bool} {m1 m2 : Nat} {a o : Int} {r h : Bs} (hr : r = b.drop a.toNat) (ho : o < r.length) (ho2 : o < 64) (ho3 : -1 ≤ o) (hc : CB b b m1 a h) (hn : ((b.length : Int) - a).toNat + 1 < n) :
    Rel8 b t n (j8_28v1 z b m1 m2 a y r o h) (j8_28v1 false (b ++ t) m1 m2 a false (r ++ t) o h) := by
  obtain ⟨-, h0, h1, h2, h3⟩ := hc
  have hl2 : (b ++ t).length = b.length + t.length := List.length_append
  have hl3 : (r ++ t).length = r.length + t.length := List.length_append
  have hl4 : r.length = b.length - a.toNat := by rw [hr, List.length_drop]
  unfold j8_28v1
  refine r8_more (fun y => .moreB _ rfl) id (fun g => ?_)
  have g' : 0 ≤ o := by have : ¬ o < 0 := fun x => g (d_pos x); omega
  unfold j8_36v1
  refine r8_bind2 (bnd_of g' (by omega)) (bnd_of g' (by omega)) ?_
  rw [List.take_append_of_le_length (by omega)]
  obtain ⟨q, hq⟩ := m17_T (r.take o.toNat) (by rw [List.length_take]; omega)
  refine r8_bind hq ?_
  rw [w64_eq (o + 1) (by omega) (by omega), w64_eq (a + (o + 1)) (by omega) (by omega)]
  exact r8_if (fun _ => r8_47 hb (by rw [List.length_take]; omega) ⟨rfl, h0, by omega, h2, by omega⟩ (by omega)) (fun _ => Rel8.gg trivial (by simp only [mu8]; omega))
theorem r8_28n {n : Nat} (hb : (b ++ t).length < 2 ^ 60) {z y y' : Bool} {o : Int} (ho : o < b.length) (ho2 : o < 64) (ho3 : -1 ≤ o) (hn : b.length + 2 < n) :
    Rel8 b t n (j8_28 z b y [] 0 y' b o) (j8_28 false (b ++ t) y [] 0 false (b ++ t) o) := by
  have hl2 : (b ++ t).length = b.length + t.length := List.length_append
  unfold j8_28
  refine r8_more (fun y => .moreA _ rfl) id (fun g => ?_)
  have g' : 0 ≤ o := by have : ¬ o < 0 := fun x => g (d_pos x); omega
  unfold j8_36
  refine r8_bind2 (bnd_of g' (by omega)) (bnd_of g' (by omega)) ?_
  rw [List.take_append_of_le_length (by omega)]
  obtain ⟨q, hq⟩ := m17_T (b.take o.toNat) (by rw [List.length_take]; omega)
  refine r8_bind hq ?_
  rw [w64_eq (o + 1) (by omega) (by omega), w64_eq (0 + (o + 1)) (by omega) (by omega)]
  exact r8_if (fun _ => r8_47n hb (by rw [List.length_take]; omega) (by omega) (by omega) (by omega)) (fun _ => Rel8.gg trivial (by simp only [mu8]; omega))
theorem r8_sizes (hb : (b ++ t).length < 2 ^ 60) {z : Bool} {m1 m2 : Nat} {a e : Int} {h : Bs} (hc : CB b b m1 a h) :
    Rel8 b t (((b.length : Int) - a).toNat + 2) (s8_2x4 z b m1 m2 a e h) (s8_2x4 false (b ++ t) m1 m2 a e h) := by
  have hc' := hc
  obtain ⟨-, h0, h1, h2, h3⟩ := hc
  have hl2 : (b ++ t).length = b.length + t.length := List.length_append
  unfold s8_2x4
  refine r8_bind2 (bnd_of (by omega) (by omega)) (bnd_of (by omega) (by omega)) ?_
  have ed : (b ++ t).drop a.toNat = b.drop a.toNat ++ t := List.drop_append_of_le_length (by omega)
  rw [ed]
  generalize hr : b.drop a.toNat = r
  have hl3 : (r ++ t).length = r.length + t.length := List.length_append
  refine r8_bind2 (min2_len _) (min2_len _) ?_
  refine r8_bind2 (r := eol r) (r' := eol (r ++ t)) rfl rfl ?_
  have hge : -1 ≤ eol r := Lib.indexByte_ge _ _
  by_cases g : eol r < 0
  · by_cases g2 : 64 ≤ r.length
    · rw [eol_long g2]
      refine r8_pos (d_pos g) (d_pos g) ?_
      unfold j8_23v1
      exact r8_pos (d_pos (by omega)) (d_pos (by omega)) (Rel8.gg trivial (by simp only [mu8]; omega))
    · rw [if_pos (d_pos g)]
      unfold j8_23v1 j8_28v1
      rw [if_neg (d_neg (by omega)), if_pos (d_pos g)]
      exact .moreB _ rfl
  · have hlt := eol_lt (r := r) (by omega)
    rw [eol_app (by omega)]
    refine r8_neg (d_neg g) (d_neg g) ?_
    unfold j8_23v1
    refine r8_neg (by decide) (by decide) ?_
    exact r8_28 hb hr.symm hlt.1 hlt.2 hge hc' (by omega)
theorem r8_start (hb : (b ++ t).length < 2 ^ 60) {z : Bool} : Rel8 b t (b.length + 3) (s8_2x0 z b) (s8_2x0 false (b ++ t)) := by
  have hl2 : (b ++ t).length = b.length + t.length := List.length_append
  unfold s8_2x0
  refine r8_bind2 (min2_len _) (min2_len _) ?_
  refine r8_bind2 (r := eol b) (r' := eol (b ++ t)) rfl rfl ?_
  have hge : -1 ≤ eol b := Lib.indexByte_ge _ _
  by_cases g : eol b < 0
  · by_cases g2 : 64 ≤ b.length
    · rw [eol_long g2]
      refine r8_pos (d_pos g) (d_pos g) ?_
      unfold j8_23
      exact r8_pos (d_pos (by omega)) (d_pos (by omega)) (Rel8.gg trivial (by simp only [mu8]; omega))
    · rw [if_pos (d_pos g)]
      unfold j8_23 j8_28
      rw [if_neg (d_neg (by omega)), if_pos (d_pos g)]
      exact .moreA _ rfl
  · have hlt := eol_lt (r := b) (by omega)
    rw [eol_app (by omega)]
    refine r8_neg (d_neg g) (d_neg g) ?_
    unfold j8_23
    refine r8_neg (by decide) (by decide) ?_
    exact r8_28n hb hlt.1 hlt.2 hge (by omega)
theorem r8_trA (hb : (b ++ t).length < 2 ^ 60) {z y : Bool} {a e : Int} (ha : 0 ≤ a) (ha2 : a ≤ b.length) :
    Rel8 b t 1 (s8_2x2 z b y [] a e) (s8_2x2 false (b ++ t) y [] a e) := by
  have hl2 : (b ++ t).length = b.length + t.length := List.length_append
  unfold s8_2x2
  refine r8_bind2 (bnd_of (by omega) (by omega)) (bnd_of (by omega) (by omega)) ?_
  have ed : (b ++ t).drop a.toNat = b.drop a.toNat ++ t := List.drop_append_of_le_length (by omega)
  rw [ed]
  rcases m20_two z (b.drop a.toNat) t (by rw [List.length_append, List.length_drop]; omega) with ⟨r, h1, h2, h3⟩ | h1
  · refine r8_bind2 h1 h2 ?_
    unfold j8_108 j8_108v1
    rcases r with ⟨z1, l1, n1, e1⟩ | ⟨z1, l1, n1, e1⟩
    · obtain ⟨h4, h5⟩ := h3
      rw [List.length_drop] at h5
      refine r8_if (fun _ => ?_) (fun _ => Rel8.gg trivial (by simp only [mu8]; omega))
      dsimp only
      rw [w64_eq _ (by omega) (by omega)]
      exact .ans _ ⟨by omega, by omega, by simp, by simp; omega, .inl rfl⟩
    · obtain ⟨h4, h5⟩ := h3
      rw [List.length_drop] at h5
      refine r8_if (fun _ => ?_) (fun _ => Rel8.gg trivial (by simp only [mu8]; omega))
      dsimp only
      rw [w64_eq _ (by omega) (by omega)]
      exact .ans _ ⟨by omega, by omega, by simp, by simp; omega, .inl rfl⟩
  · rw [h1, Option.bind_some]
    exact .moreA _ rfl
theorem r8_trB (hb : (b ++ t).length < 2 ^ 60) {z : Bool} {m1 m2 : Nat} {a e : Int} {h : Bs} (hc : CB b b m1 a h) :
    Rel8 b t 1 (s8_2x5 z b m1 m2 a e h) (s8_2x5 false (b ++ t) m1 m2 a e h) := by
  obtain ⟨-, h0, h1', h2', h3'⟩ := hc
  have hl2 : (b ++ t).length = b.length + t.length := List.length_append
  unfold s8_2x5
  refine r8_bind2 (bnd_of (by omega) (by omega)) (bnd_of (by omega) (by omega)) ?_
  have ed : (b ++ t).drop a.toNat = b.drop a.toNat ++ t := List.drop_append_of_le_length (by omega)
  rw [ed]
  have el : (h.take m1).length = m1 := by rw [List.length_take]; omega
  rcases m20_two z (b.drop a.toNat) t (by rw [List.length_append, List.length_drop]; omega) with ⟨r, h1, h2, h3⟩ | h1
  · refine r8_bind2 h1 h2 ?_
    unfold j8_108v2 j8_108v3
    rcases r with ⟨z1, l1, n1, e1⟩ | ⟨z1, l1, n1, e1⟩
    · obtain ⟨h4, h5⟩ := h3
      rw [List.length_drop] at h5
      refine r8_if (fun _ => ?_) (fun _ => Rel8.gg trivial (by simp only [mu8]; omega))
      refine r8_pos (by omega) (by omega) ?_
      dsimp only
      rw [w64_eq _ (by omega) (by omega)]
      exact .ans _ ⟨by omega, by omega, by omega, by omega, .inl rfl⟩
    · obtain ⟨h4, h5⟩ := h3
      rw [List.length_drop] at h5
      refine r8_if (fun _ => ?_) (fun _ => Rel8.gg trivial (by simp only [mu8]; omega))
      refine r8_pos (by omega) (by omega) ?_
      dsimp only
      rw [w64_eq _ (by omega) (by omega)]
      exact .ans _ ⟨by omega, by omega, by omega, by omega, .inl rfl⟩
  · rw [h1, Option.bind_some]
    exact .moreB _ rfl
end
theorem m8_two (z : Bool) (b t : Bs) (hb : (b ++ t).length < 2 ^ 60) : (∃ r, m8 z b = some r ∧ m8 false (b ++ t) = some r ∧ Q8 b r) ∨ m8 z b = some (true, [], 0, 8) := by
  have key := iter_two (f := s8_2) (g := s8_2) (ph8 t) (fun s => I8 b s) (mu8 b) (Q8 b) (fun r => r = (true, [], 0, 8)) ?_ (.inl (z, b)) rfl
  · rcases key with h | ⟨r, h, rfl⟩
    · exact .inl h
    · exact .inr h
  intro s hI
  have fin : ∀ {x y}, Rel8 b t (mu8 b s) x y → s8_2 s = x → s8_2 (ph8 t s) = y → (∃ s', s8_2 s = some (.inl s') ∧ I8 b s' ∧ mu8 b s' < mu8 b s ∧ s8_2 (ph8 t s) = some (.inl (ph8 t s'))) ∨ (∃ r, s8_2 s = some (.inr r) ∧ s8_2 (ph8 t s) = some (.inr r) ∧ Q8 b r) ∨ (∃ r, iter s8_2 s = some r ∧ r = (true, [], 0, 8)) := by
    intro x y h e1 e2
    cases h with
    | go s' h hm hy => exact .inl ⟨s', e1, h, hm, e2.trans hy⟩
    | ans r h => exact .inr (.inl ⟨r, e1, e2, h⟩)
    | moreA x h =>
      refine .inr (.inr ⟨_, ?_, rfl⟩)
      rw [iter_l e1]
      obtain ⟨z, b1, y1, l, a, e⟩ := x
      obtain rfl : e = 8 := h
      exact iter_r rfl
    | moreB x h =>
      refine .inr (.inr ⟨_, ?_, rfl⟩)
      rw [iter_l e1]
      obtain ⟨z, b1, n, m, a, e, h1⟩ := x
      obtain rfl : e = 8 := h
      exact iter_r rfl
  rcases s with ⟨z, b1⟩ | ⟨z, b1, y, l, a, e⟩ | ⟨z, b1, y, l, a, e⟩ | ⟨z, b1, n, m, a, e, h⟩ | ⟨z, b1, n, m, a, e, h⟩ | ⟨z, b1, n, m, a, e, h⟩
  · obtain rfl : b1 = b := hI
    exact fin (r8_start hb) rfl rfl
  · exact fin (.ans (true, [], 0, e) ⟨by omega, by omega, by simp, by simp, .inr ⟨rfl, rfl⟩⟩) rfl rfl
  · obtain ⟨rfl, rfl, h1, h2⟩ := hI
    exact fin (r8_trA (z := z) (e := e) (y := y) hb h1 h2) rfl rfl
  · exact fin (.ans (true, [], 0, e) ⟨by omega, by omega, by simp, by simp, .inr ⟨rfl, rfl⟩⟩) rfl rfl
  · obtain ⟨rfl, hI⟩ := hI
    exact fin (r8_sizes (z := z) (e := e) (m2 := m) hb ⟨rfl, hI⟩) rfl rfl
  · obtain ⟨rfl, hI⟩ := hI
    exact fin (r8_trB (z := z) (e := e) (m2 := m) hb ⟨rfl, hI⟩) rfl rfl
end Go.Ab
end
section
set_option linter.all false
set_option maxRecDepth 100000
open Go Go.Ab Go.Proofs Go.Proofs.YtaohepmbkepmiaaDoor
namespace Go.Ab
theorem drop_cons {l : Bs} {i : Nat} (h : i < l.length) : l.drop i = l.getD i 0 :: l.drop (i + 1) := by
  rw [List.drop_eq_getElem_cons h, List.getD_eq_getElem?_getD, List.getElem?_eq_getElem h, Option.getD_some]
theorem iter_g {σ β : Type} {f : σ → Option (σ ⊕ β)} (I : σ → Prop) (μ : σ → Nat) (g : σ → Option β)
    (h : ∀ s, I s → (∃ t, f s = some (.inl t) ∧ I t ∧ μ t < μ s ∧ g t = g s) ∨ f s = (g s).map .inr) (s : σ) (hs : I s) : iter f s = g s := by
  refine iter_to (fun t => I t ∧ g t = g s) μ (g s) ?_ s ⟨hs, rfl⟩
  rintro t ⟨ht, e⟩
  rcases h t ht with ⟨u, h1, h2, h3, h4⟩ | h1
  · exact .inl ⟨u, h1, ⟨h2, h4.trans e⟩, h3⟩
  · exact .inr (by rw [h1, e])
theorem dd_neg {p : Prop} [Decidable p] (h : ¬ p) : ¬ (decide p) = true := by simpa using h
theorem dd_pos {p : Prop} [Decidable p] (h : p) : (decide p) = true := by simpa using h
def hexD : Bs := [48, 49, 50, 51, 52, 53, 54, 55, 56, 57, 97, 98, 99, 100, 101, 102]
def dig (k : Nat) : UInt8 := hexD.getD k 0
def hexL (n : Nat) : Bs := if n < 16 then [dig n] else hexL (n / 16) ++ [dig (n % 16)]
termination_by n
decreasing_by omega
theorem hexL_lt {n : Nat} (h : n < 16) : hexL n = [dig n] := by rw [hexL, if_pos h]
theorem hexL_ge {n : Nat} (h : ¬ n < 16) : hexL n = hexL (n / 16) ++ [dig (n % 16)] := by rw [hexL, if_neg h]
theorem hexL_pos : ∀ n, 0 < (hexL n).length := by
  intro n
  by_cases h : n < 16
  · rw [hexL_lt h]; simp
  · rw [hexL_ge h]; simp
theorem hexL_le : ∀ (k n : Nat), n < 16 ^ (k + 1) → (hexL n).length ≤ k + 1 := by
  intro k
  induction k with
  | zero => intro n h; rw [hexL_lt (by simpa using h)]; simp
  | succ k ih =>
    intro n h
    by_cases c : n < 16
    · rw [hexL_lt c]; simp
    · rw [hexL_ge c, List.length_append]
      have := ih (n / 16) (by rw [Nat.pow_succ] at h; exact Nat.div_lt_of_lt_mul (by omega))
      simp; omega
theorem and15 (u : Int) (h0 : 0 ≤ u) (h1 : u < 2 ^ 64) : ib_and .u64 u 15 = u % 16 := by
  have h : (BitVec.ofInt 64 u &&& BitVec.ofInt 64 15).toNat = u.toNat % 16 := by
    rw [BitVec.toNat_and]
    have a : (BitVec.ofInt 64 u).toNat = u.toNat := by
      rw [BitVec.toNat_ofInt]; omega
    have b : (BitVec.ofInt 64 15).toNat = 2 ^ 4 - 1 := by decide
    rw [a, b, Nat.and_two_pow_sub_one_eq_mod]
  show wu64 _ = _
  rw [show (BitVec.ofInt IntKind.u64.bits u &&& BitVec.ofInt IntKind.u64.bits 15).toNat = u.toNat % 16 from h, wu64m]
  omega
theorem shr4 (u : Int) (h0 : 0 ≤ u) : ib_shr .u64 u 4 = u / 16 := by
  show u.fdiv (2 ^ 4) = u / 16
  rw [Int.fdiv_eq_ediv_of_nonneg _ (by decide)]
  rfl
theorem set_drop {l : Bs} {i : Nat} {x : UInt8} (h : i < l.length) : (l.set i x).drop i = x :: l.drop (i + 1) := by
  rw [List.drop_set, if_neg (by omega), Nat.sub_self, List.drop_eq_getElem_cons h, List.set_cons_zero]
theorem dig36 : ∀ k : Nat, k < 16 → (([48, 49, 50, 51, 52, 53, 54, 55, 56, 57, 97, 98, 99, 100, 101, 102, 103, 104, 105, 106, 107, 108, 109, 110, 111, 112, 113, 114, 115, 116, 117, 118, 119, 120, 121, 122] : Bs).getD k 0) = dig k := by decide +kernel
theorem m83_eq (n : Int) (h0 : 0 ≤ n) (h1 : n < 2 ^ 50) : ∃ r, m83 n = some r ∧ r.2.2 = hexL n.toNat := by
  have h15 : n.toNat < 16 ^ 15 := by
    have : (16 : Nat) ^ 15 = 1152921504606846976 := by decide
    omega
  unfold m83 m92
  rw [Option.bind_some, if_pos rfl]
  unfold l83_30
  refine iter_post (fun (x : List UInt8 × Int × List UInt8 × Bs × Int × List UInt8) => ∃ k : Nat, 1 ≤ k ∧ k ≤ 15 ∧ x.2.2.2.2.1 = 50 + k ∧ 0 ≤ x.2.1 ∧ x.2.1 < 2 ^ 50 ∧ x.2.1.toNat < 16 ^ k ∧ x.2.2.2.2.2.length = 65 ∧ hexL n.toNat = hexL x.2.1.toNat ++ x.2.2.2.2.2.drop (50 + k)) (fun x => x.2.1.toNat) (fun r : R83 => r.2.2 = hexL n.toNat) ?_ _ ⟨15, by decide, by decide, rfl, h0, h1, h15, zB_length 65, by dsimp only; rw [List.drop_eq_nil_of_le (by rw [zB_length]; omega), List.append_nil]⟩
  rintro ⟨d, u, d10, s, i, h⟩ ⟨k, k1, k2, hi, g0, g1, g2, g3, g4⟩
  dsimp only at hi g0 g1 g2 g3 g4 ⊢
  subst hi
  unfold s83_30
  have e50 : w64 (50 + (k : Int) - 1) = ((49 + k : Nat) : Int) := by rw [w64_eq _ (by omega) (by omega)]; omega
  have e51 : (((49 + k : Nat) : Int)).toNat = 49 + k := Int.toNat_natCast _
  by_cases c : 16 ≤ u
  · left
    have hk : 2 ≤ k := by
      by_cases q : k = 1
      · subst q; simp at g2; omega
      · omega
    rw [if_pos (d_pos c), and15 u g0 (by omega), if_pos ⟨by omega, by omega⟩, e50, e51, if_pos ⟨by omega, by omega⟩, if_pos (by omega), shr4 u g0]
    refine ⟨_, rfl, ⟨k - 1, by omega, by omega, by (try dsimp only); omega, by (try dsimp only); omega, by (try dsimp only); omega, ?_, by simp [g3], ?_⟩, by (try dsimp only); omega⟩
    · dsimp only
      have : (16 : Nat) ^ k = 16 ^ (k - 1) * 16 := by rw [← Nat.pow_succ]; congr 1; omega
      omega
    · dsimp only
      rw [show 50 + (k - 1) = 49 + k by omega, set_drop (by omega), show 49 + k + 1 = 50 + k by omega, show (u % 16).toNat = u.toNat % 16 by omega, dig36 _ (by omega), g4, hexL_ge (n := u.toNat) (by omega), show (u / 16).toNat = u.toNat / 16 by omega, List.append_assoc]
      rfl
  · right
    rw [if_neg (d_neg c)]
    unfold j83_43 j83_68
    rw [if_pos ⟨g0, by omega⟩, e50, e51, if_pos ⟨by omega, by omega⟩, if_pos (by omega), bnd_of (by omega) (by omega), Option.bind_some, e51, if_pos (by simp [g3]; omega)]
    refine ⟨_, rfl, ?_⟩
    dsimp only
    rw [List.take_of_length_le (by simp [g3]), set_drop (by omega), show 49 + k + 1 = 50 + k by omega, dig36 _ (by omega), g4, hexL_lt (by omega)]
    rfl
theorem m23_eq (n : Nat) (h1 : n < 2 ^ 50) : m23 (wu64 (n : Int)) = some (hexL n, 0) := by
  have e : wu64 (n : Int) = n := by rw [wu64m]; exact Int.emod_eq_of_lt (by omega) (by omega)
  obtain ⟨r, h2, h3⟩ := m83_eq (n : Int) (by omega) (by omega)
  unfold m23 m42 m56 m70
  rw [e, if_neg (d_neg (by omega)), h2]
  simp only [Option.bind_some, h3, Int.toNat_natCast]
theorem rune_lo {l : Bs} {p : Nat} (h : p < l.length) (hl : (l.getD p 0).toNat < 128) : uc l p = (l.getD p 0).toNat ∧ uw l p = 1 := by
  unfold uc uw
  rw [Lib.decode_at, S_get!]
  simp only [Lib.decodeN, hl, if_true, and_self]
theorem rune_hi {l : Bs} {p : Nat} (h : p < l.length) (hl : 128 ≤ (l.getD p 0).toNat) : 128 ≤ uc l p ∧ 1 ≤ uw l p ∧ p + uw l p ≤ l.length ∧ ∀ j, j < uw l p → 128 ≤ (l.getD (p + j) 0).toNat := by
  unfold uc uw
  rw [Lib.decode_at, S_get!, S_get!, S_get!, S_get!, S_size]
  have hn : ¬ (l.getD p 0).toNat < 128 := by omega
  generalize hb0 : (l.getD p 0).toNat = b0 at *
  generalize hb1 : (l.getD (p + 1) 0).toNat = b1 at *
  generalize hb2 : (l.getD (p + 2) 0).toNat = b2 at *
  generalize hb3 : (l.getD (p + 3) 0).toNat = b3 at *
  have z0 : ∀ j, j < 1 → 128 ≤ (l.getD (p + j) 0).toNat := fun j hj => by
    have : j = 0 := by omega
    subst this; simp only [Nat.add_zero]; omega
  unfold Lib.decodeN
  rw [if_neg hn]
  split
  · rename_i g
    split
    · refine ⟨by dsimp only; omega, by dsimp only; omega, by dsimp only; omega, fun j hj => ?_⟩
      have : j = 0 ∨ j = 1 := by dsimp only at hj; omega
      rcases this with rfl | rfl
      · exact z0 0 (by omega)
      · omega
    · exact ⟨by decide, by decide, by dsimp only; omega, z0⟩
  · split
    · rename_i g
      split
      · refine ⟨by dsimp only; omega, by dsimp only; omega, by dsimp only; omega, fun j hj => ?_⟩
        have : j = 0 ∨ j = 1 ∨ j = 2 := by dsimp only at hj; omega
        rcases this with rfl | rfl | rfl
        · exact z0 0 (by omega)
        · omega
        · omega
      · exact ⟨by decide, by decide, by dsimp only; omega, z0⟩
    · split
      · rename_i g
        split
        · refine ⟨by dsimp only; omega, by dsimp only; omega, by dsimp only; omega, fun j hj => ?_⟩
          have : j = 0 ∨ j = 1 ∨ j = 2 ∨ j = 3 := by dsimp only at hj; omega
          rcases this with rfl | rfl | rfl | rfl
          · exact z0 0 (by omega)
          · omega
          · omega
          · omega
        · exact ⟨by decide, by decide, by dsimp only; omega, z0⟩
      · exact ⟨by decide, by decide, by dsimp only; omega, z0⟩
def dgI (c : UInt8) : Int := if 48 ≤ c ∧ c ≤ 57 then (c.toNat : Int) - 48 else if 97 ≤ c ∧ c ≤ 102 then (c.toNat : Int) - 87 else if 65 ≤ c ∧ c ≤ 70 then (c.toNat : Int) - 55 else -1
def hx (c : UInt8) : Bool := decide (0 ≤ dgI c)
theorem m50_eq : ∀ c : UInt8, m50 (c.toNat : Int) = some (dgI c) := byAll (by decide +kernel)
theorem dgI_lt : ∀ c : UInt8, dgI c < 16 := byAll (by decide +kernel)
theorem hx_hi : ∀ c : UInt8, 128 ≤ c.toNat → hx c = false := byAll (by decide +kernel)
theorem m50_hi (c : Int) (h : 128 ≤ c) : m50 c = some (-1) := by
  unfold m50 j50_6 j50_12 j50_18
  rw [if_pos (by simp; omega), if_neg (by simp; omega), if_pos (by simp; omega), if_neg (by simp; omega), if_pos (by simp; omega), if_neg (by simp; omega)]
def vF (n : Int) (l : Bs) : Int := l.foldl (fun n c => 16 * n + dgI c) n
theorem vF_cons (n : Int) (c : UInt8) (l : Bs) : vF n (c :: l) = vF (16 * n + dgI c) l := rfl
theorem vF_ge : ∀ (l : Bs) (n : Int), 0 ≤ n → l.all hx = true → n ≤ vF n l
  | [], n, _, _ => Int.le_refl _
  | c :: l, n, h, ha => by
    rw [List.all_cons, Bool.and_eq_true] at ha
    have h1 : 0 ≤ dgI c := of_decide_eq_true ha.1
    have := vF_ge l (16 * n + dgI c) (by omega) ha.2
    rw [vF_cons]
    omega
def Most : Int := 9007199254740991
theorem hM : Most = 9007199254740991 := rfl
def hexR (n : Int) (long : Bool) (l : Bs) : Int × Int := if l.all hx = true then (if long = true ∨ Most < vF n l then (0, 3) else (vF n l, 0)) else (0, 5)
def hexS (s : Bs) : Int × Int := if s = [] then (0, 5) else hexR 0 false s
theorem m49_eq (s : Bs) : m49 s 16 = some (hexS s) := by
  unfold m49 hexS
  by_cases c0 : s = []
  · rw [if_pos (by simpa using c0), if_pos c0]
  rw [if_neg (by simpa using c0), if_neg c0]
  refine (iter_g (fun (x : Int × Int × Bool × Bs × Nat) => x.1 = 16 ∧ 0 ≤ x.2.1 ∧ x.2.1 ≤ Most ∧ x.2.2.2.1 = s ∧ x.2.2.2.2 ≤ s.length) (fun (x : Int × Int × Bool × Bs × Nat) => s.length - x.2.2.2.2) (fun (x : Int × Int × Bool × Bs × Nat) => some (hexR x.2.1 x.2.2.1 (s.drop x.2.2.2.2))) ?_ _ ⟨rfl, Int.le_refl 0, (show (0 : Int) ≤ Most by decide), rfl, Nat.zero_le _⟩).trans rfl
  rintro ⟨b, n, l, s', p⟩ hI
  dsimp only at hI ⊢
  obtain ⟨rfl, h0, h1, rfl, h2⟩ := hI
  unfold s49_16
  by_cases c : p < s'.length
  · rw [if_pos (by simpa using c), drop_cons c]
    by_cases hlo : (s'.getD p 0).toNat < 128
    · obtain ⟨e1, e2⟩ := rune_lo c hlo
      rw [e1, e2, m50_eq, Option.bind_some]
      by_cases c1 : dgI (s'.getD p 0) < 0
      · right
        rw [if_pos (by simpa using c1)]
        unfold hexR
        have hf : hx (s'.getD p 0) = false := decide_eq_false (by omega)
        rw [List.all_cons, hf, Bool.false_and, if_neg (by simp)]
        rfl
      · have hlt := dgI_lt (s'.getD p 0)
        have hh : hx (s'.getD p 0) = true := by unfold hx; exact decide_eq_true (by omega)
        left
        rw [if_neg (by simpa using c1)]
        have hM := hM
        unfold j49_39
        cases l with
        | true =>
          rw [if_pos rfl, if_pos rfl]
          refine ⟨_, rfl, ⟨rfl, h0, h1, rfl, by dsimp only; omega⟩, by dsimp only; omega, ?_⟩
          dsimp only
          unfold hexR
          rw [List.all_cons, hh, Bool.true_and]
          simp
        | false =>
          rw [if_neg (by simp), if_pos (by decide)]
          have w1 : wu64 (dgI (s'.getD p 0)) = dgI (s'.getD p 0) := by rw [wu64m]; exact Int.emod_eq_of_lt (by omega) (by omega)
          have w2 : wu64 (9007199254740991 - dgI (s'.getD p 0)) = 9007199254740991 - dgI (s'.getD p 0) := by rw [wu64m]; exact Int.emod_eq_of_lt (by omega) (by omega)
          have w3 : wu64 ((9007199254740991 - dgI (s'.getD p 0)).tdiv 16) = (9007199254740991 - dgI (s'.getD p 0)) / 16 := by
            rw [Int.tdiv_eq_ediv_of_nonneg (by omega), wu64m]; exact Int.emod_eq_of_lt (by omega) (by omega)
          rw [w1, w2, w3]
          by_cases c2 : (9007199254740991 - dgI (s'.getD p 0)) / 16 < n
          · rw [if_pos (by simpa using c2)]
            refine ⟨_, rfl, ⟨rfl, h0, h1, rfl, by dsimp only; omega⟩, by dsimp only; omega, ?_⟩
            dsimp only
            unfold hexR
            rw [List.all_cons, hh, Bool.true_and, vF_cons]
            by_cases ha : (s'.drop (p + 1)).all hx = true
            · rw [if_pos ha, if_pos ha, if_pos (.inl rfl)]
              have := vF_ge (s'.drop (p + 1)) (16 * n + dgI (s'.getD p 0)) (by omega) ha
              rw [if_pos (.inr (by unfold Most; omega))]
            · rw [if_neg ha, if_neg ha]
          · rw [if_neg (by simpa using c2)]
            have w4 : wu64 (n * 16) = 16 * n := by rw [wu64m, Int.emod_eq_of_lt (by omega) (by omega)]; omega
            have w5 : wu64 (16 * n + dgI (s'.getD p 0)) = 16 * n + dgI (s'.getD p 0) := by rw [wu64m]; exact Int.emod_eq_of_lt (by omega) (by omega)
            rw [w4, w5]
            refine ⟨_, rfl, ⟨rfl, by dsimp only; omega, by dsimp only; omega, rfl, by dsimp only; omega⟩, by dsimp only; omega, ?_⟩
            dsimp only
            unfold hexR
            rw [List.all_cons, hh, Bool.true_and, vF_cons]
    · obtain ⟨e1, e2, e3, e4⟩ := rune_hi c (by omega)
      rw [m50_hi _ (by omega), Option.bind_some, if_pos (by decide)]
      right
      unfold hexR
      rw [List.all_cons, hx_hi _ (by omega), Bool.false_and, if_neg (by simp)]
      rfl
  · right
    rw [if_neg (by simpa using c), List.drop_eq_nil_of_le (by omega)]
    unfold j49_45 hexR vF
    cases l with
    | true => simp
    | false => simp; unfold Most at *; omega
theorem idx_at {s : Bs} {c : UInt8} {i : Nat} (h : s[i]? = some c) (hn : ∀ k, k < i → s[k]? ≠ some c) : Lib.indexByte s c = i := by
  have hg := Lib.indexByte_ge s c
  by_cases e : Lib.indexByte s c = -1
  · exact absurd h (Lib.indexByte_none e i)
  · obtain ⟨o, ho⟩ : ∃ o : Nat, Lib.indexByte s c = o := ⟨(Lib.indexByte s c).toNat, by omega⟩
    obtain ⟨h1, h2⟩ := Lib.indexByte_some ho
    rcases Nat.lt_trichotomy o i with g | g | g
    · exact absurd h1 (hn o g)
    · rw [ho, g]
    · exact absurd h (h2 i g)
theorem idx_no {s : Bs} {c : UInt8} (hn : ∀ k, k < s.length → s[k]? ≠ some c) : Lib.indexByte s c = -1 := by
  have hg := Lib.indexByte_ge s c
  by_cases e : Lib.indexByte s c = -1
  · exact e
  · obtain ⟨o, ho⟩ : ∃ o : Nat, Lib.indexByte s c = o := ⟨(Lib.indexByte s c).toNat, by omega⟩
    obtain ⟨h1, h2⟩ := Lib.indexByte_some ho
    by_cases g : o < s.length
    · exact absurd h1 (hn o g)
    · rw [List.getElem?_eq_none (by omega)] at h1; cases h1
def hexE (r : Int × Int) : Int × Int := if r.2 = 0 then (r.1, 0) else if r.2 = 3 then (0, 21) else (0, 20)
abbrev Part := Bool × List UInt8
def part (p : Bs) : Bs := if p = [] then [] else hexL p.length ++ [13, 10] ++ p ++ [13, 10]
def partsL (l : List Part) : Bs := (l.map fun p => part p.2).flatten
def sumL (l : List Part) : Nat := (l.map fun p => p.2.length).sum
theorem part_le {p : Bs} (h : p.length ≤ 4096) : (part p).length ≤ p.length + 8 ∧ (p = [] → part p = []) := by
  unfold part
  split
  · rename_i e; subst e; exact ⟨by simp, fun _ => rfl⟩
  · rename_i e
    have := hexL_le 3 p.length (by omega)
    exact ⟨by simp; omega, fun q => absurd q e⟩
theorem partsL_le : ∀ l : List Part, sumL l ≤ 4096 → (partsL l).length ≤ 9 * sumL l := by
  intro l
  induction l with
  | nil => intro _; simp [partsL, sumL]
  | cons p l ih =>
    intro h
    have hs : sumL (p :: l) = p.2.length + sumL l := by simp [sumL]
    have hp : partsL (p :: l) = part p.2 ++ partsL l := by simp [partsL]
    have := ih (by omega)
    have h2 := part_le (p := p.2) (by omega)
    rw [hp, List.length_append, hs]
    by_cases e : p.2 = []
    · rw [h2.2 e]; simp; omega
    · have : 0 < p.2.length := List.length_pos_iff.2 e
      omega
theorem part_take {l : List Part} {i : Nat} (h : i < l.length) : partsL (l.take (i + 1)) = partsL (l.take i) ++ part (l.getD i default).2 ∧ sumL (l.take (i + 1)) = sumL (l.take i) + (l.getD i default).2.length := by
  have e : l.getD i default = l[i] := by simp [List.getD_eq_getElem?_getD, h]
  rw [List.take_succ_eq_append_getElem h, e]
  constructor
  · simp only [partsL, List.map_append, List.flatten_append, List.map_cons, List.map_nil, List.flatten_cons, List.flatten_nil, List.append_nil]
  · simp only [sumL, List.map_append, List.sum_append, List.map_cons, List.map_nil, List.sum_cons, List.sum_nil, Nat.add_zero]
theorem sum_take (l : List Part) (i : Nat) : sumL (l.take i) ≤ sumL l := by
  conv => rhs; rw [← List.take_append_drop i l]
  simp only [sumL, List.map_append, List.sum_append]
  omega
def putS (l : List Part) : Option Bs := if sumL l ≤ 4096 then some (partsL l ++ [48, 13, 10, 13, 10]) else none
theorem m31_eq (s : Bs) : m31 s = some (hexS s) := by unfold m31; rw [m49_eq]; rfl
theorem j18_eq (s : Bs) : j18_7 s false = some (hexE (hexS s)) := by
  unfold j18_7 hexE
  rw [if_neg (by simp), m31_eq, Option.bind_some]
  by_cases a : (hexS s).2 = 0
  · rw [if_pos (by simpa using a), if_pos a]
  · rw [if_neg (by simpa using a), if_neg a]
    by_cases b : (hexS s).2 = 3
    · rw [if_pos (by simpa using b), if_pos b]
    · rw [if_neg (by simpa using b), if_neg b]
theorem m18_dig (s : Bs) (hs : s.length < 2 ^ 30) (h59 : ∀ k, k < s.length → s[k]? ≠ some 59) : m18 s = some (hexE (hexS s)) := by
  unfold m18 m29 m46 mIx
  rw [if_pos (by omega), Option.bind_some, Lib.index_one, idx_no h59, if_neg (by decide)]
  simp only [Option.bind_some]
  rw [if_neg (by simp)]
  exact j18_eq s
theorem vF_app (n : Int) (l m : Bs) : vF n (l ++ m) = vF (vF n l) m := by unfold vF; rw [List.foldl_append]
theorem dgI_dig : ∀ k : Nat, k < 16 → dgI (dig k) = (k : Int) := by decide +kernel
theorem hexL_ok : ∀ (k n : Nat), n < k → (hexL n).all hx = true ∧ vF 0 (hexL n) = (n : Int) := by
  intro k
  induction k with
  | zero => intro n h; omega
  | succ k ih =>
    intro n h
    by_cases c : n < 16
    · rw [hexL_lt c]
      have e := dgI_dig n c
      refine ⟨?_, ?_⟩
      · simp only [List.all_cons, List.all_nil, Bool.and_true]
        exact decide_eq_true (by omega)
      · show 16 * 0 + dgI (dig n) = _
        omega
    · rw [hexL_ge c]
      obtain ⟨h1, h2⟩ := ih (n / 16) (by omega)
      have e := dgI_dig (n % 16) (by omega)
      refine ⟨?_, ?_⟩
      · rw [List.all_append, h1]
        simp only [List.all_cons, List.all_nil, Bool.and_true, Bool.true_and]
        exact decide_eq_true (by omega)
      · rw [vF_app, h2]
        show 16 * ((n / 16 : Nat) : Int) + dgI (dig (n % 16)) = _
        omega
theorem hx_not {c : UInt8} {s : Bs} (hs : s.all hx = true) (hc : hx c = false) : ∀ k, k < s.length → s[k]? ≠ some c := by
  intro k hk h
  have hm := List.mem_of_getElem? h
  have := List.all_eq_true.1 hs c hm
  rw [hc] at this
  cases this
theorem m18_hexL (n : Nat) (h : n ≤ 4096) : m18 (hexL n) = some ((n : Int), 0) := by
  obtain ⟨h1, h2⟩ := hexL_ok (n + 1) n (by omega)
  have hl := hexL_le 3 n (by omega)
  rw [m18_dig _ (by omega) (hx_not h1 (by decide))]
  unfold hexE hexS hexR
  have hp := hexL_pos n
  rw [if_neg (List.ne_nil_of_length_pos hp), if_pos h1, h2]
  have : ¬ Most < (n : Int) := by unfold Most; omega
  simp [this]
def nP : R12 → Bs × Int
  | .inl (z, x, e) => (x, e)
  | .inr (z, x, e) => (x, e)
def putR : Option Bs → Bs × Int
  | some x => (x, 0)
  | none => ([], 21)
theorem l12_eq (z : Bool) (l : List Part) (hl : l.length < 2 ^ 47) (hs : sumL l ≤ 4096) : ∃ r, l12_35 true [] z l (l.length : Int) 0 = some r ∧ r = .inr (false, partsL l ++ [48, 13, 10, 13, 10], 0) := by
  unfold l12_35
  refine iter_post (fun (x : Bool × List UInt8 × Bool × List (Bool × List UInt8) × Int × Int) => ∃ i : Nat, i ≤ l.length ∧ x.2.1 = partsL (l.take i) ∧ x.2.2.2.1 = l ∧ x.2.2.2.2.1 = l.length ∧ x.2.2.2.2.2 = i) (fun x => ((l.length : Int) - x.2.2.2.2.2).toNat) (fun r : R12 => r = .inr (false, partsL l ++ [48, 13, 10, 13, 10], 0)) ?_ _ ⟨0, Nat.zero_le _, rfl, rfl, rfl, rfl⟩
  rintro ⟨o0, o1, z, l', n, t⟩ ⟨i, h0, h1, h2, h3, h4⟩
  dsimp only at h1 h2 h3 h4 ⊢
  subst h1 h3 h4
  obtain rfl : l' = l := h2
  unfold s12_35
  have h5 : sumL (l'.take i) ≤ 4096 := Nat.le_trans (sum_take l' i) hs
  have hx := partsL_le (l'.take i) h5
  by_cases c : i < l'.length
  · left
    obtain ⟨t1, t2⟩ := part_take c
    have h6 : sumL (l'.take (i + 1)) ≤ 4096 := Nat.le_trans (sum_take l' (i + 1)) hs
    rw [if_pos (dd_pos (by omega)), if_pos ⟨by omega, by omega⟩, Int.toNat_natCast]
    generalize hq : (l'.getD i default).2 = q at *
    unfold j12_61
    by_cases c3 : q = []
    · subst c3
      rw [if_pos (by simp), w64_eq _ (by omega) (by omega)]
      exact ⟨_, rfl, ⟨i + 1, by omega, by dsimp only; rw [t1]; simp [part], rfl, rfl, by dsimp only; omega⟩, by dsimp only; omega⟩
    · have hpos : 0 < q.length := List.length_pos_iff.2 c3
      have hh := hexL_le 3 q.length (by omega)
      rw [if_neg (by simp; exact c3), m23_eq _ (by omega), Option.bind_some, if_pos (.inr (by (try dsimp only); omega)), if_pos (by simp; omega), if_pos (.inr (by simp; omega)), if_pos (by simp; omega), w64_eq _ (by omega) (by omega)]
      refine ⟨_, rfl, ⟨i + 1, by omega, ?_, rfl, rfl, by dsimp only; omega⟩, by dsimp only; omega⟩
      dsimp only
      rw [t1]
      unfold part
      rw [if_neg c3]
      simp
  · right
    have e : l'.take i = l' := List.take_of_length_le (by omega)
    rw [if_neg (dd_neg (by omega))]
    unfold j12_62
    rw [e] at hx ⊢
    rw [if_pos (by omega)]
    exact ⟨_, rfl, rfl⟩
theorem m12_eq (z : Bool) (l : List Part) (hl : l.length < 2 ^ 47) (hp : ∀ p ∈ l, p.2.length < 2 ^ 47) : ∃ r, m12 z l = some r ∧ nP r = putR (putS l) := by
  unfold m12 l12_8
  refine iter_post (fun (x : Bool × List (Bool × List UInt8) × Int × Bool × List (Bool × List UInt8) × Int × Int) => ∃ i : Nat, x.2.1 = l ∧ i ≤ l.length ∧ x.2.2.1 = sumL (l.take i) ∧ sumL (l.take i) ≤ 4096 ∧ x.2.2.2.2.1 = l ∧ x.2.2.2.2.2.1 = l.length ∧ x.2.2.2.2.2.2 = i) (fun x => ((l.length : Int) - x.2.2.2.2.2.2).toNat) (fun r : R12 => nP r = putR (putS l)) ?_ _ ⟨0, rfl, Nat.zero_le _, rfl, by simp [sumL], rfl, rfl, rfl⟩
  rintro ⟨z, l', tot, z2, l2, n, t⟩ ⟨i, h1, h2, h3, h4, h5, h6, h7⟩
  dsimp only at h1 h3 h5 h6 h7 ⊢
  subst h3 h6 h7
  obtain rfl : l' = l := h1
  obtain rfl : l' = l2 := h5.symm
  unfold s12_8
  by_cases c : i < l'.length
  · have hpl : (l'.getD i default).2.length < 2 ^ 47 := by
      have e : l'.getD i default = l'[i] := by simp [List.getD_eq_getElem?_getD, c]
      rw [e]; exact hp _ (List.getElem_mem c)
    obtain ⟨t1, t2⟩ := part_take c
    rw [if_pos (d_pos (by omega)), if_pos ⟨by omega, by omega⟩, Int.toNat_natCast, w64_eq (4096 - (sumL (l'.take i) : Int)) (by omega) (by omega)]
    generalize hq : (l'.getD i default).2 = q at *
    by_cases c2 : 4096 - (sumL (l'.take i) : Int) < q.length
    · right
      rw [if_pos (d_pos c2)]
      refine ⟨_, rfl, ?_⟩
      have := sum_take l' (i + 1)
      unfold putS
      rw [if_neg (by omega)]
      rfl
    · left
      rw [if_neg (d_neg c2), w64_eq _ (by omega) (by omega), w64_eq _ (by omega) (by omega)]
      exact ⟨_, rfl, ⟨i + 1, rfl, by omega, by dsimp only; rw [t2]; omega, by rw [t2]; omega, rfl, rfl, by (try dsimp only); omega⟩, by (try dsimp only); omega⟩
  · right
    have e : l'.take i = l' := List.take_of_length_le (by omega)
    rw [e] at h4
    rw [if_neg (d_neg (by omega))]
    unfold j12_29
    obtain ⟨r, k1, rfl⟩ := l12_eq z l' hl h4
    rw [k1]
    refine ⟨_, rfl, ?_⟩
    unfold putS
    rw [if_pos h4]
    rfl
end Go.Ab
end
section
set_option linter.all false
set_option maxRecDepth 100000
open Go Go.Ab Go.Proofs Go.Proofs.YtaohepmbkepmiaaDoor
namespace Go.Ab
theorem m17_eq (s : Bs) (hs : s.length < 2 ^ 60) : m17 s [13] = some (decide (1 ≤ s.length ∧ s.getD (s.length - 1) 0 = 13)) ∧ (1 ≤ s.length → s.getD (s.length - 1) 0 = 13 → m19 s [13] = some (s.take (s.length - 1))) := by
  have key : m28 s [13] = some (decide (1 ≤ s.length ∧ s.getD (s.length - 1) 0 = 13)) := by
    unfold m28
    simp only [List.length_cons, List.length_nil]
    by_cases c : 1 ≤ s.length
    · have hd : s.drop (s.length - 1) = [s.getD (s.length - 1) 0] := by
        rw [drop_cons (by omega), List.drop_eq_nil_of_le (by omega)]
      rw [if_pos (d_pos (by omega)), w64_eq _ (by omega) (by omega)]
      unfold bnd
      rw [if_pos ⟨by omega, by omega⟩, Option.bind_some, show ((s.length : Int) - ((0 + 1 : Nat) : Int)).toNat = s.length - 1 by omega, hd]
      simp [c]
      rfl
    · rw [if_neg (d_neg (by omega))]
      simp [c]
  refine ⟨by unfold m17; rw [key]; rfl, fun h1 h2 => ?_⟩
  unfold m19 m32
  rw [key, Option.bind_some, if_pos (d_pos ⟨h1, h2⟩)]
  simp only [List.length_cons, List.length_nil]
  rw [w64_eq _ (by omega) (by omega)]
  unfold bnd
  rw [if_pos ⟨by omega, by omega⟩, Option.bind_some, show ((s.length : Int) - ((0 + 1 : Nat) : Int)).toNat = s.length - 1 by omega]
  rfl
theorem cpy_two {y src : Bs} {n : Nat} (h : n ≤ src.length) : cpy (cpy (List.replicate (y.length + n) 0) 0 (y.length + n) y) y.length (y.length + n - y.length) src = y ++ src.take n := by
  have e1 : cpy (List.replicate (y.length + n) 0) 0 (y.length + n) y = y ++ List.replicate n 0 := by
    unfold cpy
    rw [Nat.min_eq_left (by omega)]
    simp [List.take_of_length_le]
  rw [e1, Nat.add_sub_cancel_left]
  unfold cpy
  rw [Nat.min_eq_right h, List.take_left', List.drop_eq_nil_of_le (by simp)]
  · simp
  · rfl
def xB (z : Bool) (b : Bs) (m : Nat) (a : Nat) (e : Int) (h : Bs) : S8 := .inr (.inr (.inr (.inr (.inl (z, b, h.length, m, (a : Int), e, h)))))
theorem eol_hex {n : Nat} {r rest : Bs} (hn : n ≤ 4096) (hr : r = hexL n ++ 13 :: 10 :: rest) : eol r = (((hexL n).length + 1 : Nat) : Int) ∧ r.take ((hexL n).length + 1) = hexL n ++ [13] := by
  have hl := hexL_le 3 n (by omega)
  obtain ⟨h1, _⟩ := hexL_ok (n + 1) n (by omega)
  have hlen : r.length = (hexL n).length + 2 + rest.length := by rw [hr]; simp; omega
  refine ⟨?_, ?_⟩
  · unfold eol
    refine idx_at ?_ ?_
    · rw [List.getElem?_take_of_lt (by omega), hr, List.getElem?_append_right (by omega), show (hexL n).length + 1 - (hexL n).length = 1 by omega]
      rfl
    · intro k hk
      rw [List.getElem?_take_of_lt (by omega), hr]
      by_cases c : k < (hexL n).length
      · rw [List.getElem?_append_left c]
        exact hx_not h1 (by decide) k c
      · have : k = (hexL n).length := by omega
        rw [this, List.getElem?_append_right (Nat.le_refl _), Nat.sub_self]
        simp
  · rw [hr, show hexL n ++ 13 :: 10 :: rest = (hexL n ++ [13]) ++ (10 :: rest) by simp]
    exact List.take_left' (by simp)
theorem line_hex {n : Nat} (hn : n ≤ 4096) : m17 (hexL n ++ [13]) [13] = some true ∧ m19 (hexL n ++ [13]) [13] = some (hexL n) := by
  have hl := hexL_le 3 n (by omega)
  have e1 : (hexL n ++ [13]).length = (hexL n).length + 1 := by simp
  have e2 : (hexL n ++ [13]).getD ((hexL n ++ [13]).length - 1) 0 = 13 := by
    rw [e1, Nat.add_sub_cancel, List.getD_eq_getElem?_getD, List.getElem?_append_right (Nat.le_refl _), Nat.sub_self]
    rfl
  obtain ⟨h1, h2⟩ := m17_eq (hexL n ++ [13]) (by rw [e1]; omega)
  refine ⟨?_, ?_⟩
  · rw [h1, e2]; simp
  · rw [h2 (by omega) e2, e1, Nat.add_sub_cancel, List.take_left' rfl]
section
variable {z : Bool} {b : Bs}
theorem tk_lineB {n m a : Nat} {e : Int} {h rest : Bs} (hb : b.length < 2 ^ 60) (hn : n ≤ 4096) (ha : a ≤ b.length) (hd : b.drop a = hexL n ++ 13 :: 10 :: rest) : s8_2x4 z b h.length m (a : Int) e h = j8_55v1 z b h.length m ((a + (hexL n).length + 2 : Nat) : Int) (n : Int) 0 h := by
  obtain ⟨h1, h2⟩ := eol_hex hn hd
  obtain ⟨h3, h4⟩ := line_hex hn
  have hl := hexL_le 3 n (by omega)
  have hlen : b.length - a = (hexL n).length + 2 + rest.length := by rw [← List.length_drop, hd]; simp; omega
  unfold s8_2x4
  rw [bnd_ok ha, Option.bind_some, min2_len, Option.bind_some, show m16 z ((b.drop a).take (min (b.drop a).length 64)) 10 = some (eol (b.drop a)) from rfl, Option.bind_some, h1]
  rw [if_neg (d_neg (p := (((hexL n).length + 1 : Nat) : Int) < 0) (by omega))]
  unfold j8_23v1 j8_28v1 j8_36v1
  rw [if_neg (by simp), if_neg (d_neg (by omega)), bnd_ok (by rw [List.length_drop]; omega), Option.bind_some, h2, h3, Option.bind_some, if_pos rfl, w64_eq ((((hexL n).length + 1 : Nat) : Int) + 1) (by omega) (by omega), w64_eq ((a : Int) + ((((hexL n).length + 1 : Nat) : Int) + 1)) (by omega) (by omega)]
  unfold j8_47v1
  rw [h4, Option.bind_some, m18_hexL n hn, Option.bind_some, if_pos p00]
  dsimp only
  congr 1 <;> omega
theorem tk_lineA {n : Nat} {rest : Bs} (hb : b.length < 2 ^ 60) (hn : n ≤ 4096) (hd : b = hexL n ++ 13 :: 10 :: rest) : s8_2x0 z b = j8_55 z b true [] (((hexL n).length + 2 : Nat) : Int) (n : Int) 0 := by
  obtain ⟨h1, h2⟩ := eol_hex hn hd
  obtain ⟨h3, h4⟩ := line_hex hn
  have hl := hexL_le 3 n (by omega)
  have hlen : b.length = (hexL n).length + 2 + rest.length := by conv => lhs; rw [hd]
                                                                 simp; omega
  unfold s8_2x0
  rw [min2_len, Option.bind_some, show m16 z (b.take (min b.length 64)) 10 = some (eol b) from rfl, Option.bind_some, h1]
  rw [if_neg (d_neg (p := (((hexL n).length + 1 : Nat) : Int) < 0) (by omega))]
  unfold j8_23 j8_28 j8_36
  rw [if_neg (by simp), if_neg (d_neg (by omega)), bnd_ok (by omega), Option.bind_some, h2, h3, Option.bind_some, if_pos rfl, w64_eq ((((hexL n).length + 1 : Nat) : Int) + 1) (by omega) (by omega), w64_eq (0 + ((((hexL n).length + 1 : Nat) : Int) + 1)) (by omega) (by omega)]
  unfold j8_47
  rw [h4, Option.bind_some, m18_hexL n hn, Option.bind_some, if_pos p00]
  dsimp only
  congr 1 <;> omega
theorem tk_77 {m a : Nat} {e : Int} {y p more : Bs} (hb : b.length < 2 ^ 60) (hp : 0 < p.length) (hy : y.length + p.length ≤ 4096) (ha : a ≤ b.length) (hd : b.drop a = p ++ 13 :: 10 :: more) :
    j8_77v1 z b y.length m (a : Int) (p.length : Int) e y = some (.inl (xB z b (y.length + p.length) (a + p.length + 2) e (y ++ p))) := by
  have hlen : b.length - a = p.length + 2 + more.length := by rw [← List.length_drop, hd]; simp; omega
  have g1 : b.getD (a + p.length) default = 13 := by
    have : (b.drop a)[p.length]? = some 13 := by rw [hd, List.getElem?_append_right (Nat.le_refl _), Nat.sub_self]; rfl
    rw [List.getElem?_drop] at this
    rw [List.getD_eq_getElem?_getD, this]; rfl
  have g2 : b.getD (a + p.length + 1) default = 10 := by
    have : (b.drop a)[p.length + 1]? = some 10 := by rw [hd, List.getElem?_append_right (by omega), show p.length + 1 - p.length = 1 by omega]; rfl
    rw [List.getElem?_drop] at this
    rw [List.getD_eq_getElem?_getD, show a + p.length + 1 = a + (p.length + 1) by omega, this]; rfl
  have e1 : (y.take y.length).length = y.length := by rw [List.take_length]
  have eN : ((y.length : Int) + (p.length : Int)).toNat = y.length + p.length := by omega
  have ep : (b.drop a).take p.length = p := by rw [hd]; exact List.take_left' rfl
  unfold j8_77v1
  rw [w64_eq (p.length : Int) (by omega) (by omega), w64_eq ((y.length : Int) + p.length) (by omega) (by omega), w64_eq ((a : Int) + p.length) (by omega) (by omega), w64_eq ((a : Int) + p.length + 1) (by omega) (by omega), eN,
    if_pos ⟨by omega, by omega⟩, if_pos (Nat.le_refl _), e1, Nat.min_eq_left (by omega), bnd_ok (by omega), Option.bind_some, bnd_ok ha, Option.bind_some, List.take_length, cpy_two (by simp; omega), ep]
  rw [if_pos, if_pos (show 0 ≤ (a : Int) + p.length ∧ (a : Int) + p.length < b.length from ⟨by omega, by omega⟩), if_pos (show 0 ≤ (a : Int) + p.length + 1 ∧ (a : Int) + p.length + 1 < b.length from ⟨by omega, by omega⟩), show ((a : Int) + p.length).toNat = a + p.length by omega, show ((a : Int) + p.length + 1).toNat = a + p.length + 1 by omega, g1, g2, if_pos (by decide)]
  · unfold j8_86v1 j8_91v1
    rw [if_neg (by decide), w64_eq _ (by omega) (by omega)]
    unfold xB
    rw [List.length_append, show (a : Int) + p.length + 2 = ((a + p.length + 2 : Nat) : Int) by omega]
  · have : (cpy (List.replicate (y.length + p.length) 0) 0 (y.length + p.length) y).length = y.length + p.length := by
      rw [cpy_len (by simp), List.length_replicate]
    rw [this]; omega
theorem j77_same (m : Nat) (a k e : Int) : j8_77 z b true [] a k e = j8_77v1 z b 0 m a k e [] := by
  unfold j8_77 j8_77v1
  simp only [List.take_nil, List.length_nil, Nat.le_refl, if_true]
  rfl
theorem tk_partB {m a : Nat} {e : Int} {y p more : Bs} (hb : b.length < 2 ^ 60) (hp : 0 < p.length) (hy : y.length + p.length ≤ 4096) (ha : a ≤ b.length) (hd : b.drop a = part p ++ more) :
    ∃ m', s8_2 (xB z b m a e y) = some (.inl (xB z b m' (a + (part p).length) 0 (y ++ p))) := by
  have hp0 : p ≠ [] := fun q => by rw [q] at hp; simp at hp
  have hpart : part p = hexL p.length ++ [13, 10] ++ p ++ [13, 10] := by unfold part; rw [if_neg hp0]
  have hd1 : b.drop a = hexL p.length ++ 13 :: 10 :: (p ++ 13 :: 10 :: more) := by rw [hd, hpart]; simp
  have hd2 : b.drop (a + (hexL p.length).length + 2) = p ++ 13 :: 10 :: more := by
    rw [show a + (hexL p.length).length + 2 = a + ((hexL p.length).length + 2) by omega, ← List.drop_drop, hd1, show hexL p.length ++ 13 :: 10 :: (p ++ 13 :: 10 :: more) = (hexL p.length ++ [13, 10]) ++ (p ++ 13 :: 10 :: more) by simp]
    exact List.drop_left' (by simp)
  have hlen : b.length - a = (hexL p.length).length + 2 + (p.length + 2 + more.length) := by rw [← List.length_drop, hd1]; simp; omega
  refine ⟨y.length + p.length, ?_⟩
  show s8_2x4 z b y.length m (a : Int) e y = _
  rw [tk_lineB hb (by omega) ha hd1]
  unfold j8_55v1
  rw [w64_eq _ (by omega) (by omega), wu64m, Int.emod_eq_of_lt (by omega) (by omega), if_neg (d_neg (by omega))]
  unfold j8_63v1
  rw [if_neg (by simp; omega)]
  unfold j8_69v1
  rw [w64_eq (p.length : Int) (by omega) (by omega), w64_eq _ (by omega) (by omega), w64_eq _ (by omega) (by omega), if_neg (d_neg (by omega)), tk_77 hb hp hy (by omega) hd2, hpart]
  congr 3
  simp
  omega
theorem tk_partA {p more : Bs} (hb : b.length < 2 ^ 60) (hp : 0 < p.length) (hy : p.length ≤ 4096) (hd : b = part p ++ more) :
    ∃ m', s8_2 (.inl (z, b)) = some (.inl (xB z b m' (part p).length 0 p)) := by
  have hp0 : p ≠ [] := fun q => by rw [q] at hp; simp at hp
  have hpart : part p = hexL p.length ++ [13, 10] ++ p ++ [13, 10] := by unfold part; rw [if_neg hp0]
  have hd1 : b = hexL p.length ++ 13 :: 10 :: (p ++ 13 :: 10 :: more) := by rw [hd, hpart]; simp
  have hd2 : b.drop ((hexL p.length).length + 2) = p ++ 13 :: 10 :: more := by
    conv => lhs; rw [hd1]
    rw [show hexL p.length ++ 13 :: 10 :: (p ++ 13 :: 10 :: more) = (hexL p.length ++ [13, 10]) ++ (p ++ 13 :: 10 :: more) by simp]
    exact List.drop_left' (by simp)
  have hlen : b.length = (hexL p.length).length + 2 + (p.length + 2 + more.length) := by
    have := congrArg List.length hd1
    simp at this; omega
  refine ⟨0 + p.length, ?_⟩
  show s8_2x0 z b = _
  rw [tk_lineA hb (by omega) hd1]
  unfold j8_55
  rw [w64_eq _ (by simp) (by simp), wu64m, Int.emod_eq_of_lt (by simp) (by simp), if_neg (d_neg (by simp; omega))]
  unfold j8_63
  rw [if_neg (by simp; omega)]
  unfold j8_69
  rw [w64_eq (p.length : Int) (by omega) (by omega), w64_eq _ (by omega) (by omega), w64_eq _ (by omega) (by omega), if_neg (d_neg (by omega)), j77_same 0]
  have := tk_77 (z := z) (m := 0) (y := []) (e := 0) hb hp (by simpa using hy) (by omega) hd2
  simp only [List.length_nil, List.nil_append] at this
  rw [this, hpart]
  congr 3
  simp
  omega
theorem m20_end (c : Bs) (hc : c.length < 2 ^ 59) : m20 z (13 :: 10 :: c) = some (.inl (true, [], 2, 0)) := by
  unfold m20 l20_2
  have hl : (13 :: 10 :: c : Bs).length = c.length + 2 := rfl
  have s0 : s20_2 (.inl (z, 13 :: 10 :: c)) = some (.inl (.inr (.inl (z, 13 :: 10 :: c, true, [], 0, 0, 0, z, 13 :: 10 :: c, 1, 13)))) := by
    show s20_2x0 z (13 :: 10 :: c) = _
    unfold s20_2x0
    rw [m33_C (by rw [hl]; omega) (by decide) (by decide) (by rw [hl]; omega) (by rw [hl]; omega), Option.bind_some, if_pos p00]
    unfold j20_23
    rw [if_pos (by rfl)]
    rfl
  rw [iter_l s0]
  refine iter_r ?_
  show s20_2x1 z (13 :: 10 :: c) true [] 0 0 0 z (13 :: 10 :: c) 1 13 = _
  unfold s20_2x1
  rw [m33_C (by rw [hl]; omega) (by decide) (by decide) (by rw [hl]; omega) (by rw [hl]; omega), Option.bind_some, if_pos p00, if_pos (by rfl)]
  rfl
theorem hexL0 : hexL 0 = [48] := by rw [hexL_lt (by decide)]; rfl
theorem tk_endB {m a : Nat} {e : Int} {y tail : Bs} (hb : b.length < 2 ^ 59) (hy : y.length ≤ 4096) (ha : a ≤ b.length) (hd : b.drop a = 48 :: 13 :: 10 :: 13 :: 10 :: tail) :
    iter s8_2 (xB z b m a e y) = some (false, y, ((a + 5 : Nat) : Int), 0) := by
  have hlen : b.length - a = tail.length + 5 := by rw [← List.length_drop, hd]; rfl
  have hd3 : b.drop (a + 3) = 13 :: 10 :: tail := by rw [← List.drop_drop, hd]; rfl
  have s1 : s8_2 (xB z b m a e y) = some (.inl (.inr (.inr (.inr (.inr (.inr (z, b, y.length, m, ((a + 3 : Nat) : Int), 0, y))))))) := by
    show s8_2x4 z b y.length m (a : Int) e y = _
    rw [tk_lineB (n := 0) (rest := 13 :: 10 :: tail) (by omega) (by omega) ha (by rw [hexL0]; exact hd), hexL0]
    unfold j8_55v1
    rw [w64_eq _ (by omega) (by omega), wu64m, Int.emod_eq_of_lt (by omega) (by omega), if_neg (d_neg (by omega))]
    unfold j8_63v1
    rw [if_pos (by decide)]
    rfl
  rw [iter_l s1]
  refine iter_r ?_
  show s8_2x5 z b y.length m ((a + 3 : Nat) : Int) 0 y = _
  unfold s8_2x5
  rw [bnd_ok (by omega), Option.bind_some, hd3, m20_end tail (by omega), Option.bind_some]
  dsimp only
  rw [if_pos (by decide)]
  unfold j8_108v2
  rw [if_pos (Nat.le_refl _), List.take_length, w64_eq _ (by omega) (by omega)]
  congr 3
theorem tk_endA {tail : Bs} (hb : b.length < 2 ^ 59) (hd : b = 48 :: 13 :: 10 :: 13 :: 10 :: tail) : iter s8_2 (.inl (z, b)) = some (true, [], 5, 0) := by
  have hlen : b.length = tail.length + 5 := by rw [hd]; rfl
  have hd3 : b.drop 3 = 13 :: 10 :: tail := by rw [hd]; rfl
  have s1 : s8_2 (.inl (z, b)) = some (.inl (.inr (.inr (.inl (z, b, true, [], ((3 : Nat) : Int), 0))))) := by
    show s8_2x0 z b = _
    rw [tk_lineA (n := 0) (rest := 13 :: 10 :: tail) (by omega) (by omega) (by rw [hexL0]; exact hd), hexL0]
    unfold j8_55
    rw [w64_eq _ (by simp) (by simp), wu64m, Int.emod_eq_of_lt (by simp) (by simp), if_neg (d_neg (by simp))]
    unfold j8_63
    rw [if_pos (by decide)]
    rfl
  rw [iter_l s1]
  refine iter_r ?_
  show s8_2x2 z b true [] ((3 : Nat) : Int) 0 = _
  unfold s8_2x2
  rw [bnd_ok (by omega), Option.bind_some, hd3, m20_end tail (by omega), Option.bind_some]
  dsimp only
  rw [if_pos (by decide)]
  unfold j8_108
  rw [w64_eq _ (by decide) (by decide)]
  rfl
end
def joinL (l : List Part) : Bs := (l.map fun p => p.2).flatten
theorem joinL_len : ∀ l : List Part, (joinL l).length = sumL l := by
  intro l
  induction l with
  | nil => rfl
  | cons p l ih => simp only [joinL, sumL, List.map_cons, List.flatten_cons, List.length_append, List.sum_cons] at ih ⊢; omega
theorem tk_parts {z : Bool} {b tail : Bs} (hb : b.length < 2 ^ 59) : ∀ (l : List Part) (a : Nat) (y : Bs) (m : Nat) (e : Int), b.drop a = partsL l ++ (48 :: 13 :: 10 :: 13 :: 10 :: tail) → a ≤ b.length → y.length + sumL l ≤ 4096 →
    iter s8_2 (xB z b m a e y) = some (false, y ++ joinL l, ((a + (partsL l).length + 5 : Nat) : Int), 0) := by
  intro l
  induction l with
  | nil =>
    intro a y m e hd ha hs
    have := tk_endB (z := z) (m := m) (e := e) hb (by simp [sumL] at hs; exact hs) ha (by simpa [partsL] using hd)
    rw [this]
    simp [joinL, partsL]
  | cons p l ih =>
    intro a y m e hd ha hs
    have e1 : partsL (p :: l) = part p.2 ++ partsL l := by simp [partsL]
    have e2 : sumL (p :: l) = p.2.length + sumL l := by simp [sumL]
    have e3 : joinL (p :: l) = p.2 ++ joinL l := by simp [joinL]
    rw [e1, List.append_assoc] at hd
    by_cases c : p.2 = []
    · have e4 : part p.2 = [] := by rw [c]; rfl
      rw [e4, List.nil_append] at hd
      rw [ih a y m e hd ha (by omega), e1, e3, e4, c]
      simp
    · have hpos : 0 < p.2.length := List.length_pos_iff.2 c
      obtain ⟨m', h1⟩ := tk_partB (z := z) (m := m) (e := e) (y := y) (by omega) hpos (by omega) ha hd
      have hlen : b.length - a = (part p.2).length + (partsL l ++ (48 :: 13 :: 10 :: 13 :: 10 :: tail)).length := by rw [← List.length_drop, hd, List.length_append]
      rw [iter_l h1, ih _ _ _ _ (by rw [← List.drop_drop, hd]; exact List.drop_left' rfl) (by omega) (by rw [List.length_append]; omega), e1, e3]
      simp [Nat.add_assoc]
theorem tk_all {z : Bool} {tail : Bs} : ∀ (l : List Part) (b : Bs), b.length < 2 ^ 59 → b = partsL l ++ (48 :: 13 :: 10 :: 13 :: 10 :: tail) → sumL l ≤ 4096 → ∃ y, m8 z b = some (y, joinL l, (((partsL l).length + 5 : Nat) : Int), 0) := by
  intro l
  induction l with
  | nil =>
    intro b hb hd hs
    exact ⟨true, by unfold m8 l8_2; rw [tk_endA hb (by simpa [partsL] using hd)]; rfl⟩
  | cons p l ih =>
    intro b hb hd hs
    have e1 : partsL (p :: l) = part p.2 ++ partsL l := by simp [partsL]
    have e2 : sumL (p :: l) = p.2.length + sumL l := by simp [sumL]
    have e3 : joinL (p :: l) = p.2 ++ joinL l := by simp [joinL]
    rw [e1, List.append_assoc] at hd
    by_cases c : p.2 = []
    · have e4 : part p.2 = [] := by rw [c]; rfl
      rw [e4, List.nil_append] at hd
      rw [e1, e3, e4, c]
      exact ih b hb hd (by omega)
    · have hpos : 0 < p.2.length := List.length_pos_iff.2 c
      obtain ⟨m', h1⟩ := tk_partA (z := z) (by omega) hpos (by omega) hd
      have hlen := congrArg List.length hd
      rw [List.length_append] at hlen
      refine ⟨false, ?_⟩
      unfold m8 l8_2
      rw [iter_l h1, tk_parts hb l _ _ _ _ (by rw [hd]; exact List.drop_left' rfl) (by omega) (by omega), e1, e3, List.length_append]
end Go.Ab
end
section
set_option linter.all false
set_option maxRecDepth 100000
open Go Go.Ab Go.Proofs Go.Proofs.YtaohepmbkepmiaaDoor
namespace Go.Ab
def arO (done : Bs) (N : Nat) : List (Option UInt8) := done.map some ++ List.replicate (N - done.length) none
theorem arO_len {done : Bs} {N : Nat} (h : done.length ≤ N) : (arO done N).length = N := by unfold arO; simp; omega
theorem arO_cpy {done p : Bs} {N : Nat} (h : done.length + p.length ≤ N) : cpyO (arO done N) done.length (N - done.length) p = arO (done ++ p) N := by
  have e1 : (arO done N).take done.length = done.map some := by unfold arO; exact List.take_left' (by simp)
  have e2 : (arO done N).drop (done.length + min p.length (N - done.length)) = List.replicate (N - (done ++ p).length) none := by
    unfold arO
    rw [Nat.min_eq_left (by omega), List.drop_append, List.drop_eq_nil_of_le (by simp), List.nil_append, List.drop_replicate]
    congr 1
    simp
    omega
  unfold cpyO
  rw [e1, e2, List.take_of_length_le (by omega)]
  unfold arO
  simp
theorem arO_un {done : Bs} {N : Nat} (h : done.length = N) : unO ((arO done N).take N) = some done := by
  have : (arO done N).take N = done.map some := by unfold arO; exact List.take_left' (by simp [h])
  rw [this, unO_map]
def nJ : R14 → Bs
  | .inl (z, x) => x
  | .inr (z, x) => x
theorem l63_eq {sz tz : Bool} {L : List Part} {p0 : Bs} {N : Nat} (hN : p0.length + sumL L = N) (hN2 : N ≤ 4096) (hL : L.length < 2 ^ 47) : l14_63 sz [] N N (p0.length : Int) tz L (L.length : Int) 0 (arO p0 N) = some (.inl (false, p0 ++ joinL L)) := by
  unfold l14_63
  refine iter_to (fun (x : (Bool × List UInt8 × Nat × Nat × Int × Bool × List (Bool × List UInt8) × Int × Int × List (Option UInt8))) => ∃ i : Nat, i ≤ L.length ∧ x.2.1 = [] ∧ x.2.2.1 = N ∧ x.2.2.2.1 = N ∧ x.2.2.2.2.1 = ((p0 ++ joinL (L.take i)).length : Nat) ∧ x.2.2.2.2.2.2.1 = L ∧ x.2.2.2.2.2.2.2.1 = L.length ∧ x.2.2.2.2.2.2.2.2.1 = i ∧ x.2.2.2.2.2.2.2.2.2 = arO (p0 ++ joinL (L.take i)) N) (fun x => ((L.length : Int) - x.2.2.2.2.2.2.2.2.1).toNat) _ ?_ _ ⟨0, Nat.zero_le _, rfl, rfl, rfl, by simp [joinL], rfl, rfl, rfl, by simp [joinL]⟩
  rintro ⟨sz, s1, n1, n2, bp, tz, L', tl, t, ho⟩ ⟨i, h0, h1, h2, h3, h4, h5, h6, h7, h8⟩
  dsimp only at h1 h2 h3 h4 h5 h6 h7 h8 ⊢
  subst h1 h4 h6 h7 h8
  obtain rfl : n1 = N := h2
  obtain rfl : n1 = n2 := h3.symm
  obtain rfl : L' = L := h5
  unfold s14_63
  have hle : (p0 ++ joinL (L'.take i)).length ≤ n1 := by rw [List.length_append, joinL_len]; have := sum_take L' i; omega
  by_cases c : i < L'.length
  · left
    obtain ⟨_, t2⟩ := part_take c
    have hs := sum_take L' (i + 1)
    have e : L'.getD i default = L'[i] := by simp [List.getD_eq_getElem?_getD, c]
    have ej : joinL (L'.take (i + 1)) = joinL (L'.take i) ++ (L'.getD i default).2 := by
      rw [List.take_succ_eq_append_getElem c, e]
      simp only [joinL, List.map_append, List.flatten_append, List.map_cons, List.map_nil, List.flatten_cons, List.flatten_nil, List.append_nil]
    have hd : (p0 ++ joinL (L'.take i)).length + (L'.getD i default).2.length ≤ n1 := by rw [List.length_append, joinL_len]; omega
    generalize hq : (L'.getD i default).2 = q at *
    generalize hdone : p0 ++ joinL (L'.take i) = done at *
    rw [if_pos (dd_pos (by omega)), if_pos ⟨by omega, by omega⟩, bnd_self, Option.bind_some, bnd_ok hle, Option.bind_some, if_pos (by rw [arO_len hle]; omega)]
    simp only [List.length_nil, Nat.zero_min, Int.natCast_zero, Int.add_zero, cpyO_nil, Int.toNat_natCast]
    rw [w64_eq (done.length : Int) (by omega) (by omega), bnd_ok hle, Option.bind_some, if_pos (by rw [arO_len hle]; omega), hq, Nat.min_eq_left (by omega), arO_cpy hd, w64_eq _ (by omega) (by omega), w64_eq _ (by omega) (by omega)]
    refine ⟨_, rfl, ⟨i + 1, by omega, rfl, rfl, rfl, ?_, rfl, rfl, by dsimp only; omega, ?_⟩, by dsimp only; omega⟩
    · dsimp only
      rw [ej, ← List.append_assoc, hdone, List.length_append]
      omega
    · dsimp only
      rw [ej, ← List.append_assoc, hdone]
  · right
    have e : L'.take i = L' := List.take_of_length_le (by omega)
    rw [e] at hle ⊢
    rw [if_neg (dd_neg (by omega))]
    unfold j14_78
    have hlen : (p0 ++ joinL L').length = n1 := by rw [List.length_append, joinL_len]; omega
    rw [if_pos (by rw [arO_len hle]; exact Nat.le_refl _), arO_un hlen]
    rfl
theorem cpy_first {N : Nat} {p : Bs} (h : p.length ≤ N) : cpyO (List.replicate N (none : Option UInt8)) 0 N p = arO p N := by
  unfold cpyO arO
  rw [Nat.min_eq_left h, List.take_of_length_le h]
  simp
theorem m14_eq (z : Bool) (l : List Part) (hs : sumL l ≤ 4096) (hl : l.length < 2 ^ 47) : ∃ r, m14 z l true [] = some r ∧ nJ r = joinL l := by
  unfold m14
  by_cases c0 : l.length = 0
  · have : l = [] := List.length_eq_zero_iff.1 c0
    subst this
    exact ⟨_, rfl, rfl⟩
  rw [if_neg (fun h => by rw [beq_iff_eq] at h; omega)]
  by_cases c1 : l.length = 1
  · obtain ⟨p, rfl⟩ : ∃ p, l = [p] := List.length_eq_one_iff.1 c1
    have hp : p.2.length ≤ 4096 := by simpa [sumL] using hs
    rw [if_pos (by simp), if_pos (by simp)]
    have e : (([p] : List Part).getD 0 default).2 = p.2 := rfl
    rw [e]
    by_cases q : p.2 = []
    · rw [if_pos (by simp [q])]
      exact ⟨_, rfl, by simp [nJ, joinL, q]⟩
    · rw [if_neg (by simp [q]), if_pos (by omega)]
      exact ⟨_, rfl, by simp [nJ, joinL]⟩
  rw [if_neg (fun h => by rw [beq_iff_eq] at h; omega), if_neg (by simp)]
  have fin : j14_55 z l true [] ((sumL l : Nat) : Int) = some (.inl (false, joinL l)) := by
    obtain ⟨p, L, rfl⟩ : ∃ p L, l = p :: L := by
      cases l with
      | nil => simp at c0
      | cons p L => exact ⟨p, L, rfl⟩
    have e2 : sumL (p :: L) = p.2.length + sumL L := by simp [sumL]
    have e3 : joinL (p :: L) = p.2 ++ joinL L := by simp [joinL]
    unfold j14_55
    rw [if_pos ⟨by omega, by omega⟩, Int.toNat_natCast, bnd_self, Option.bind_some, bnd_self, Option.bind_some, if_pos (by simp), if_pos (by simp)]
    have hb1 : bnd 1 (p :: L).length = some 1 := by unfold bnd; rw [if_pos ⟨by decide, by simp; omega⟩]; rfl
    have e4 : ((p :: L).getD 0 default).2 = p.2 := rfl
    rw [hb1, Option.bind_some, e4, Nat.min_eq_left (by omega), cpy_first (by omega)]
    have e5 : (p :: L).drop 1 = L := rfl
    rw [e5, l63_eq (by omega) hs (by simp at hl; omega), e3]
  refine ⟨.inl (false, joinL l), ?_, rfl⟩
  unfold j14_32 l14_36
  refine iter_to (fun (x : (Bool × List (Bool × List UInt8) × Bool × List UInt8 × Int × Bool × List (Bool × List UInt8) × Int × Int)) => ∃ i : Nat, i ≤ l.length ∧ x.1 = z ∧ x.2.1 = l ∧ x.2.2.1 = true ∧ x.2.2.2.1 = [] ∧ x.2.2.2.2.1 = (sumL (l.take i) : Nat) ∧ x.2.2.2.2.2.2.1 = l ∧ x.2.2.2.2.2.2.2.1 = l.length ∧ x.2.2.2.2.2.2.2.2 = i) (fun x => ((l.length : Int) - x.2.2.2.2.2.2.2.2).toNat) (some (Sum.inl (false, joinL l) : R14)) ?_ _ ⟨0, Nat.zero_le _, rfl, rfl, rfl, rfl, rfl, rfl, rfl, rfl⟩
  rintro ⟨z', l1, s0, s1, n, z2, l2, tl, t⟩ ⟨i, h0, h1, h2, h3, h4, h5, h6, h7, h8⟩
  dsimp only at h1 h2 h3 h4 h5 h6 h7 h8 ⊢
  subst h1 h3 h4 h5 h7 h8
  obtain rfl : l1 = l := h2
  obtain rfl : l1 = l2 := h6.symm
  unfold s14_36
  by_cases c : i < l1.length
  · left
    obtain ⟨_, t2⟩ := part_take c
    have hs1 := sum_take l1 (i + 1)
    rw [if_pos (dd_pos (by omega)), if_pos ⟨by omega, by omega⟩, Int.toNat_natCast]
    generalize hq : (l1.getD i default).2 = q at *
    rw [w64_eq (9223372036854775807 - ((sumL (l1.take i) : Nat) : Int)) (by omega) (by omega), if_neg (dd_neg (by omega)), w64_eq _ (by omega) (by omega), w64_eq _ (by omega) (by omega)]
    exact ⟨_, rfl, ⟨i + 1, by omega, rfl, rfl, rfl, rfl, by dsimp only; omega, rfl, rfl, by dsimp only; omega⟩, by dsimp only; omega⟩
  · right
    have e : l1.take i = l1 := List.take_of_length_le (by omega)
    rw [if_neg (dd_neg (by omega)), e, fin]
theorem more_beg {b0 : Bool} {b : Bs} {k : Nat} {y : Bool} {x : Bs} (hb : b.length < 2 ^ 59) (hk : k < b.length) (h : m8 false b = some (y, x, (b.length : Int), 0)) : m8 b0 (b.take k) = some (true, [], 0, 8) := by
  have hl : b.take k ++ b.drop k = b := List.take_append_drop k b
  rcases m8_two b0 (b.take k) (b.drop k) (by rw [hl]; omega) with ⟨r, h1, h2, h3⟩ | h1
  · rw [hl, h] at h2
    have e := Option.some.inj h2
    subst e
    have := h3.2.1
    rw [List.length_take] at this
    omega
  · exact h1
theorem minI {a b : Nat} : min2 ((a : Int) + (b : Int)) 4097 = ((min (a + b) 4097 : Nat) : Int) := by
  unfold min2
  split <;> omega
theorem j39_eq {z t0 b0 : Bool} {l : List Part} {tail b : Bs} {cut tot : Int} (hl : l.length < 2 ^ 47) (ht : tail.length < 2 ^ 46) (hs : sumL l ≤ 4096) (hc0 : 0 ≤ cut) (hc1 : cut < 65536) (hb : b = partsL l ++ [48, 13, 10, 13, 10]) (htot : tot ≤ 4096) :
    j6_39 z l t0 tail cut b0 b tot = some true ∧ j6_39v1 z l t0 tail cut b0 b tot = some true := by
  have hx := partsL_le l hs
  have hbl : b.length = (partsL l).length + 5 := by rw [hb]; simp
  obtain ⟨y1, h1⟩ := tk_all (z := false) (tail := tail) l (b ++ tail) (by rw [List.length_append]; omega) (by rw [hb]; simp) hs
  obtain ⟨y2, h2⟩ := tk_all (z := false) (tail := []) l b (by omega) (by rw [hb]) hs
  rw [← hbl] at h1 h2
  have hw : w64 cut = cut := w64_eq _ (by omega) (by omega)
  have hm : cut.tmod (b.length : Int) = cut % (b.length : Int) := Int.tmod_eq_emod_of_nonneg hc0
  have hm0 := Int.emod_nonneg cut (show (b.length : Int) ≠ 0 by omega)
  have hm1 := Int.emod_lt_of_pos cut (show (0 : Int) < (b.length : Int) by omega)
  have h3 := more_beg (b0 := b0) (k := (cut % (b.length : Int)).toNat) (by omega) (by omega) h2
  obtain ⟨r, h4, h5⟩ := m14_eq z l hs hl
  have hbn : bnd ((w64 cut).tmod (b.length : Int)) b.length = some (cut % (b.length : Int)).toNat := by
    rw [hw, hm]
    unfold bnd
    rw [if_pos ⟨hm0, by omega⟩]
  constructor
  · unfold j6_39
    rw [if_pos (.inr (by omega)), if_pos (.inr (by omega)), h1, Option.bind_some, if_pos (by rw [beq_eq_false_iff_ne]; omega), hbn, Option.bind_some, h3, Option.bind_some, if_pos (dd_pos htot), if_pos p00]
    unfold j6_44r15
    rw [if_pos (by simp), h4, Option.bind_some]
    rcases r with ⟨z1, x1⟩ | ⟨z1, x1⟩
    · have : x1 = joinL l := h5
      subst this
      simp [m10, j6_44r21, j6_44r25, j6_44r29, j6_44r34]
    · have : x1 = joinL l := h5
      subst this
      simp [m10, j6_44r21v1, j6_44r25v1, j6_44r29v1, j6_44r34v1]
  · unfold j6_39v1
    rw [if_pos (.inr (by omega)), if_pos (.inr (by omega)), h1, Option.bind_some, if_pos (by rw [beq_eq_false_iff_ne]; omega), hbn, Option.bind_some, h3, Option.bind_some, if_pos (dd_pos htot), if_pos p00]
    unfold j6_44r15v1
    rw [if_pos (by simp), h4, Option.bind_some]
    rcases r with ⟨z1, x1⟩ | ⟨z1, x1⟩
    · have : x1 = joinL l := h5
      subst this
      simp [m10, j6_44r21v1, j6_44r25v1, j6_44r29v1, j6_44r34v1]
    · have : x1 = joinL l := h5
      subst this
      simp [m10, j6_44r21v2, j6_44r25v2, j6_44r29v2, j6_44r34v2]
theorem j23_eq {z t0 b0 : Bool} {l : List Part} {tail b : Bs} {cut e : Int} (hl : l.length < 2 ^ 47) (ht : tail.length < 2 ^ 46) (hc0 : 0 ≤ cut) (hc1 : cut < 65536) (hbe : (b, e) = putR (putS l)) :
    j6_23 z l t0 tail cut b0 b e ((min (sumL l) 4097 : Nat) : Int) = some true ∧ j6_23v1 z l t0 tail cut b0 b e ((min (sumL l) 4097 : Nat) : Int) = some true := by
  unfold putS at hbe
  by_cases hs : sumL l ≤ 4096
  · rw [if_pos hs] at hbe
    have h1 : b = partsL l ++ [48, 13, 10, 13, 10] := congrArg Prod.fst hbe
    have h2 : e = 0 := congrArg Prod.snd hbe
    subst h2
    have hbl : 0 < b.length := by rw [h1]; simp
    obtain ⟨k1, k2⟩ := j39_eq (z := z) (t0 := t0) (b0 := b0) (tot := ((min (sumL l) 4097 : Nat) : Int)) hl ht hs hc0 hc1 h1 (by omega)
    constructor
    · unfold j6_23 j6_31
      rw [if_pos p00, if_neg (fun h => by rw [beq_iff_eq] at h; omega)]
      exact k1
    · unfold j6_23v1 j6_31v1
      rw [if_pos p00, if_neg (fun h => by rw [beq_iff_eq] at h; omega)]
      exact k2
  · rw [if_neg hs] at hbe
    have h1 : b = [] := congrArg Prod.fst hbe
    have h2 : e = 21 := congrArg Prod.snd hbe
    subst h1 h2
    constructor
    · unfold j6_23 j6_28r14
      rw [if_neg (by decide), if_pos (by decide), if_pos (dd_pos (by omega))]
      rfl
    · unfold j6_23v1 j6_28r14v1
      rw [if_neg (by decide), if_pos (by decide), if_pos (dd_pos (by omega))]
      rfl
theorem l6_eq {z t0 b0 : Bool} {l : List Part} {tail b : Bs} {cut e : Int} (hl : l.length < 2 ^ 47) (hp : ∀ p ∈ l, p.2.length < 2 ^ 47) (ht : tail.length < 2 ^ 46) (hc0 : 0 ≤ cut) (hc1 : cut < 65536) (hbe : (b, e) = putR (putS l)) :
    l6_10 z l t0 tail cut b0 b e 0 z l (l.length : Int) 0 = some true ∧ l6_10v1 z l t0 tail cut b0 b e 0 z l (l.length : Int) 0 = some true := by
  obtain ⟨k1, k2⟩ := j23_eq (z := z) (t0 := t0) (b0 := b0) hl ht hc0 hc1 hbe
  have I : (Bool × List (Bool × List UInt8) × Bool × List UInt8 × Int × Bool × List UInt8 × Int × Int × Bool × List (Bool × List UInt8) × Int × Int) → Prop := fun x => True
  have stepA : ∀ i : Nat, i < l.length → min2 (w64 (((min (sumL (l.take i)) 4097 : Nat) : Int) + (((l.getD ((i : Int)).toNat default).2).length : Int))) 4097 = ((min (sumL (l.take (i + 1))) 4097 : Nat) : Int) := by
    intro i c
    obtain ⟨_, t2⟩ := part_take c
    have e : l.getD i default = l[i] := by simp [List.getD_eq_getElem?_getD, c]
    have hq : (l.getD i default).2.length < 2 ^ 47 := by rw [e]; exact hp _ (List.getElem_mem c)
    rw [Int.toNat_natCast, w64_eq _ (by omega) (by omega), minI, t2]
    congr 1
    omega
  constructor
  · unfold l6_10
    refine iter_to (fun (x : (Bool × List (Bool × List UInt8) × Bool × List UInt8 × Int × Bool × List UInt8 × Int × Int × Bool × List (Bool × List UInt8) × Int × Int)) => ∃ i : Nat, i ≤ l.length ∧ x = (z, l, t0, tail, cut, b0, b, e, ((min (sumL (l.take i)) 4097 : Nat) : Int), z, l, (l.length : Int), (i : Int))) (fun x => ((l.length : Int) - x.2.2.2.2.2.2.2.2.2.2.2.2).toNat) (some true) ?_ _ ⟨0, Nat.zero_le _, rfl⟩
    rintro x ⟨i, h0, rfl⟩
    dsimp only
    unfold s6_10
    by_cases c : i < l.length
    · left
      rw [if_pos (dd_pos (by omega))]
      unfold j6_17 j6_22
      rw [if_pos ⟨by omega, by omega⟩, stepA i c, w64_eq _ (by omega) (by omega)]
      exact ⟨_, rfl, ⟨i + 1, by omega, rfl⟩, by dsimp only; omega⟩
    · right
      have e : l.take i = l := List.take_of_length_le (by omega)
      rw [if_neg (dd_neg (by omega)), e, k1]
  · unfold l6_10v1
    refine iter_to (fun (x : (Bool × List (Bool × List UInt8) × Bool × List UInt8 × Int × Bool × List UInt8 × Int × Int × Bool × List (Bool × List UInt8) × Int × Int)) => ∃ i : Nat, i ≤ l.length ∧ x = (z, l, t0, tail, cut, b0, b, e, ((min (sumL (l.take i)) 4097 : Nat) : Int), z, l, (l.length : Int), (i : Int))) (fun x => ((l.length : Int) - x.2.2.2.2.2.2.2.2.2.2.2.2).toNat) (some true) ?_ _ ⟨0, Nat.zero_le _, rfl⟩
    rintro x ⟨i, h0, rfl⟩
    dsimp only
    unfold s6_10v1
    by_cases c : i < l.length
    · left
      rw [if_pos (dd_pos (by omega))]
      unfold j6_17v1 j6_22v1
      rw [if_pos ⟨by omega, by omega⟩, stepA i c, w64_eq _ (by omega) (by omega)]
      exact ⟨_, rfl, ⟨i + 1, by omega, rfl⟩, by dsimp only; omega⟩
    · right
      have e : l.take i = l := List.take_of_length_le (by omega)
      rw [if_neg (dd_neg (by omega)), e, k2]
theorem chunkBack (z t0 : Bool) (l : List Part) (tail : Bs) (cut : Int) (hl : l.length < 2 ^ 47) (hp : ∀ p ∈ l, p.2.length < 2 ^ 47) (ht : tail.length < 2 ^ 46) (hc0 : 0 ≤ cut) (hc1 : cut < 65536) : m6 z l t0 tail cut = some true := by
  obtain ⟨r, h1, h2⟩ := m12_eq z l hl hp
  unfold m6
  rw [h1, Option.bind_some]
  rcases r with ⟨b0, b, e⟩ | ⟨b0, b, e⟩
  · exact (l6_eq hl hp ht hc0 hc1 h2).1
  · exact (l6_eq hl hp ht hc0 hc1 h2).2
theorem bsz_le (l : Bs) : l.length ≤ (List.map (fun y : UInt8 => 1) l).sum := by
  induction l with
  | nil => exact Nat.le_refl _
  | cons c l ih => rw [List.map_cons, List.sum_cons, List.length_cons]; omega
theorem psz (l : List Part) : l.length ≤ (List.map (fun y : Part => ((List.map (fun y : UInt8 => 1) y.2).sum + 1)) l).sum ∧ ∀ p ∈ l, p.2.length ≤ (List.map (fun y : Part => ((List.map (fun y : UInt8 => 1) y.2).sum + 1)) l).sum := by
  induction l with
  | nil => exact ⟨Nat.le_refl _, fun p h => by cases h⟩
  | cons c l ih =>
    rw [List.map_cons, List.sum_cons, List.length_cons]
    refine ⟨by omega, fun p h => ?_⟩
    rcases List.mem_cons.1 h with rfl | h
    · have := bsz_le p.2; omega
    · have := ih.2 p h; omega
theorem bounds_u16 {x : Int} (h : (Lit.int .u16 x).wf = true) : 0 ≤ x ∧ x < 65536 := by
  have h2 : (decide (IntKind.min .u16 ≤ x) && decide (x ≤ IntKind.max .u16)) = true := h
  rw [Bool.and_eq_true] at h2
  have a : IntKind.min .u16 ≤ x := of_decide_eq_true h2.1
  have b : x ≤ IntKind.max .u16 := of_decide_eq_true h2.2
  have a1 : IntKind.min .u16 = 0 := by decide
  have b1 : IntKind.max .u16 = 65535 := by decide
  omega
end Go.Ab
end
