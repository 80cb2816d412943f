/- Plain laws of the functions. -/
import Derived.Test.YtaohepmbkepmiaaDoorEv8
import Derived.Test.YtaohepmbkepmiaaDoorFStays4
import Derived.Lib.DecodeN
import Derived.Lib.IndexMore
import Derived.Lib.IndexLaws
set_option linter.all false
section
set_option linter.all false
namespace Go.Ab
open Go
theorem wu64m (x : Int) : wu64 x = x % 18446744073709551616 := by
  unfold wu64
  simp [IntKind.wrap, IntKind.min, IntKind.max, IntKind.bits, IntKind.signed] <;> omega
theorem iter_post {σ β : Type} {f : σ → Option (σ ⊕ β)} (I : σ → Prop) (μ : σ → Nat) (Q : β → Prop)
    (h : ∀ s, I s → (∃ t, f s = some (.inl t) ∧ I t ∧ μ t < μ s) ∨ (∃ r, f s = some (.inr r) ∧ Q r)) (s : σ) (hs : I s) : ∃ r, iter f s = some r ∧ Q r := by
  have key : ∀ n s, μ s < n → I s → ∃ r, iter f s = some r ∧ Q r := by
    intro n
    induction n with
    | zero => intro s h0; omega
    | succ n ih =>
      intro s hn hs
      rcases h s hs with ⟨t, ht, hI, hm⟩ | ⟨r, hr, hq⟩
      · rw [iter_l ht]; exact ih t (by omega) hI
      · exact ⟨r, iter_r hr, hq⟩
  exact key (μ s + 1) s (by omega) hs
end Go.Ab
end
section
set_option linter.all false
open Go Go.Ab Go.Proofs Go.Proofs.YtaohepmbkepmiaaDoor
namespace Go.Ab
theorem byAll {P : UInt8 → Prop} [DecidablePred P] (h : ((List.range 256).all fun n => decide (P (UInt8.ofNat n))) = true) (c : UInt8) : P c := by
  have := List.all_eq_true.1 h c.toNat (List.mem_range.2 c.toNat_lt)
  have e := of_decide_eq_true this
  have : UInt8.ofNat c.toNat = c := by simp
  rwa [this] at e
theorem getsT {α : Type} {o : Option α} (h : o.isSome = true) : ∃ r, o = some r := Option.isSome_iff_exists.1 h
theorem m59_T : ∀ c, ∃ r, m59 c = some r := fun c => getsT (byAll (P := fun c => (m59 c).isSome = true) (by decide +kernel) c)
theorem m59a_T : ∀ c, ∃ r, m59a c = some r := fun c => getsT (byAll (P := fun c => (m59a c).isSome = true) (by decide +kernel) c)
theorem m75_T (z : Bool) (s : Bs) (hs : s.length < 2 ^ 60) : ∃ r, m75 z s = some r := by
  obtain ⟨r, h, _⟩ : ∃ r, m75 z s = some r ∧ True := by
    refine iter_post (fun (x : Bool × List UInt8 × Int × Int) => x.2.1 = s ∧ x.2.2.1 = s.length ∧ 0 ≤ x.2.2.2 ∧ x.2.2.2 ≤ s.length) (fun (x : Bool × List UInt8 × Int × Int) => ((s.length : Int) - x.2.2.2).toNat) _ ?_ _ ⟨rfl, rfl, by dsimp only; omega, by dsimp only; omega⟩
    rintro ⟨z, s', n, i⟩ hI
    dsimp only at hI ⊢
    obtain ⟨rfl, rfl, h0, h1⟩ := hI
    unfold s75_6
    by_cases c : i < s'.length
    · rw [if_pos (by simpa using c), if_pos ⟨h0, c⟩]
      obtain ⟨r, hr⟩ := m59_T (s'.getD i.toNat default)
      rw [hr, Option.bind_some]
      cases r with
      | true => right; exact ⟨i, rfl, trivial⟩
      | false => left; exact ⟨(z, s', s'.length, i + 1), by simp [w64_eq (i + 1) (by omega) (by omega)], ⟨rfl, rfl, by dsimp only; omega, by dsimp only; omega⟩, by dsimp only; omega⟩
    · right
      exact ⟨-1, by rw [if_neg (by simpa using c)]; rfl, trivial⟩
  exact ⟨r, h⟩
theorem m75a_T (z : Bool) (s : Bs) (hs : s.length < 2 ^ 60) : ∃ r, m75a z s = some r := by
  obtain ⟨r, h, _⟩ : ∃ r, m75a z s = some r ∧ True := by
    refine iter_post (fun (x : Bool × List UInt8 × Int × Int) => x.2.1 = s ∧ x.2.2.1 = s.length ∧ 0 ≤ x.2.2.2 ∧ x.2.2.2 ≤ s.length) (fun (x : Bool × List UInt8 × Int × Int) => ((s.length : Int) - x.2.2.2).toNat) _ ?_ _ ⟨rfl, rfl, by dsimp only; omega, by dsimp only; omega⟩
    rintro ⟨z, s', n, i⟩ hI
    dsimp only at hI ⊢
    obtain ⟨rfl, rfl, h0, h1⟩ := hI
    unfold s75a_6
    by_cases c : i < s'.length
    · rw [if_pos (by simpa using c), if_pos ⟨h0, c⟩]
      obtain ⟨r, hr⟩ := m59a_T (s'.getD i.toNat default)
      rw [hr, Option.bind_some]
      cases r with
      | true => right; exact ⟨i, rfl, trivial⟩
      | false => left; exact ⟨(z, s', s'.length, i + 1), by simp [w64_eq (i + 1) (by omega) (by omega)], ⟨rfl, rfl, by dsimp only; omega, by dsimp only; omega⟩, by dsimp only; omega⟩
    · right
      exact ⟨-1, by rw [if_neg (by simpa using c)]; rfl, trivial⟩
  exact ⟨r, h⟩
theorem m30_T (s : Bs) (hs : s.length < 2 ^ 60) : ∃ r, m30 s = some r := by
  obtain ⟨r, h⟩ := m75_T false s hs
  exact ⟨_, by unfold m30 m47 m58; rw [h]; rfl⟩
theorem m51_T (s : Bs) (hs : s.length < 2 ^ 60) : ∃ r, m51 s = some r := by
  obtain ⟨r, h⟩ := m75a_T false s hs
  unfold m51 m47a m58a
  rw [h]
  by_cases c : (s == []) = true
  · exact ⟨_, by rw [if_pos c]⟩
  · exact ⟨_, by rw [if_neg c]; rfl⟩
theorem m34_T (c : UInt8) : ∃ r, m34 c = some r := by
  obtain ⟨r, h⟩ := m51_T [c] (by simp)
  exact ⟨r, by unfold m34; rw [h]; rfl⟩
theorem m35_T (c : UInt8) : ∃ r, m35 c = some r := by
  obtain ⟨r, h⟩ := m30_T [c] (by simp)
  exact ⟨r, by unfold m35; rw [h]; rfl⟩
theorem m36_T (s : Bs) (hs : s.length < 2 ^ 60) : ∃ r, m36 s = some r := by
  unfold m36 mTrim
  rw [if_pos ⟨by omega, by decide, by decide⟩]
  exact ⟨_, rfl⟩
theorem wu64_nn (x : Int) : 0 ≤ wu64 x := by rw [wu64m]; exact Int.emod_nonneg _ (by decide)
theorem m50_T (c : Int) : ∃ r, m50 c = some r := by
  unfold m50 j50_6 j50_12 j50_18
  repeat' split
  all_goals exact ⟨_, rfl⟩
theorem uw_pos {s : Bs} {p : Nat} (h : p < s.length) : 1 ≤ uw s p := by
  unfold uw
  rw [Lib.decode_at]
  unfold Lib.decodeN
  repeat' split
  all_goals simp
theorem m49_T (s : Bs) : ∃ r, m49 s 16 = some r ∧ 0 ≤ r.1 := by
  unfold m49
  by_cases c0 : (s == []) = true
  · exact ⟨_, by rw [if_pos c0], Int.le_refl 0⟩
  rw [if_neg c0]
  refine iter_post (fun (x : Int × Int × Bool × Bs × Nat) => x.1 = 16 ∧ 0 ≤ x.2.1 ∧ x.2.2.2.1 = s) (fun (x : Int × Int × Bool × Bs × Nat) => s.length - x.2.2.2.2) (fun r : R49 => 0 ≤ r.1) ?_ _ ⟨rfl, Int.le_refl 0, rfl⟩
  rintro ⟨b, n, l, s', p⟩ hI
  dsimp only at hI ⊢
  obtain ⟨rfl, h0, rfl⟩ := hI
  unfold s49_16
  by_cases c : p < s'.length
  · rw [if_pos (by simpa using c)]
    have hw := uw_pos c
    obtain ⟨d, hd⟩ := m50_T (uc s' p : Int)
    rw [hd, Option.bind_some]
    by_cases c1 : (decide (d < 0)) = true
    · right; exact ⟨_, by rw [if_pos c1], Int.le_refl 0⟩
    rw [if_neg c1]
    left
    unfold j49_39
    cases l with
    | true =>
      rw [if_pos rfl, if_pos rfl]
      exact ⟨_, rfl, ⟨rfl, h0, rfl⟩, by dsimp only; omega⟩
    | false =>
      rw [if_neg (by simp), if_pos (by decide)]
      split
      · exact ⟨_, rfl, ⟨rfl, h0, rfl⟩, by dsimp only; omega⟩
      · exact ⟨_, rfl, ⟨rfl, wu64_nn _, rfl⟩, by dsimp only; omega⟩
  · right
    rw [if_neg (by simpa using c)]
    unfold j49_45
    cases l with
    | true => exact ⟨_, rfl, Int.le_refl 0⟩
    | false => exact ⟨_, rfl, h0⟩
theorem m31_T (s : Bs) : ∃ r, m31 s = some r ∧ 0 ≤ r.1 := by
  obtain ⟨r, h, h1⟩ := m49_T s
  exact ⟨(r.1, r.2), by unfold m31; rw [h]; rfl, h1⟩
theorem m29_T (s : Bs) (hs : s.length < 2 ^ 30) : ∃ r, m29 s [59] = some r ∧ r.2.1.length ≤ s.length := by
  unfold m29 m46 mIx
  rw [if_pos (by omega)]
  rw [Option.bind_some]
  by_cases c : (decide (0 ≤ Lib.index s [59])) = true
  · have h1 := Lib.index_room s [59] (of_decide_eq_true c)
    have h2 := of_decide_eq_true c
    rw [if_pos c]
    simp only [List.length_cons, List.length_nil] at h1 ⊢
    unfold bnd
    rw [w64_eq _ (by omega) (by omega), if_pos ⟨h2, by omega⟩, Option.bind_some, if_pos ⟨by omega, by omega⟩]
    exact ⟨_, rfl, by simp⟩
  · rw [if_neg c]
    exact ⟨_, rfl, by simp⟩
theorem j18_T (d : Bs) (t : Bool) : ∃ r, j18_7 d t = some r ∧ 0 ≤ r.1 := by
  unfold j18_7
  cases t with
  | true => exact ⟨_, rfl, Int.le_refl 0⟩
  | false =>
    obtain ⟨r, h, h1⟩ := m31_T d
    rw [h, if_neg (by simp), Option.bind_some]
    split
    · exact ⟨_, rfl, h1⟩
    · split <;> exact ⟨_, rfl, Int.le_refl 0⟩
theorem m18_T (s : Bs) (hs : s.length < 2 ^ 30) : ∃ r, m18 s = some r ∧ 0 ≤ r.1 := by
  obtain ⟨r, h, h1⟩ := m29_T s hs
  unfold m18
  rw [h, Option.bind_some]
  split
  · obtain ⟨q, hq⟩ := m30_T r.2.1 (by omega)
    rw [hq, Option.bind_some]
    exact j18_T _ _
  · exact j18_T _ _
theorem m28_T (s : Bs) (hs : s.length < 2 ^ 60) : ∃ r, m28 s [13] = some r ∧ (r = true → 1 ≤ s.length) := by
  unfold m28
  simp only [List.length_cons, List.length_nil]
  by_cases c : (decide (((0 + 1 : Nat) : Int) ≤ (s.length : Int))) = true
  · have := of_decide_eq_true c
    rw [if_pos c, w64_eq _ (by omega) (by omega)]
    unfold bnd
    rw [if_pos ⟨by omega, by omega⟩, Option.bind_some]
    exact ⟨_, rfl, fun _ => by omega⟩
  · rw [if_neg c]
    exact ⟨_, rfl, by simp⟩
theorem m17_T (s : Bs) (hs : s.length < 2 ^ 60) : ∃ r, m17 s [13] = some r := by
  obtain ⟨r, h, _⟩ := m28_T s hs
  exact ⟨r, by unfold m17; rw [h]; rfl⟩
theorem m19_T (s : Bs) (hs : s.length < 2 ^ 60) : ∃ r, m19 s [13] = some r ∧ r.length ≤ s.length := by
  obtain ⟨r, h, h1⟩ := m28_T s hs
  unfold m19 m32
  rw [h, Option.bind_some]
  cases r with
  | false => exact ⟨_, rfl, Nat.le_refl _⟩
  | true =>
    have := h1 rfl
    simp only [List.length_cons, List.length_nil]
    rw [if_pos trivial, w64_eq _ (by omega) (by omega)]
    unfold bnd
    rw [if_pos ⟨by omega, by omega⟩, Option.bind_some]
    exact ⟨_, rfl, by simp⟩
end Go.Ab
end
section
set_option linter.all false
set_option maxRecDepth 100000
open Go Go.Ab Go.Proofs Go.Proofs.YtaohepmbkepmiaaDoor
namespace Go.Ab
theorem iter_two {σ σ' β : Type} {f : σ → Option (σ ⊕ β)} {g : σ' → Option (σ' ⊕ β)} (φ : σ → σ') (I : σ → Prop) (μ : σ → Nat) (Q E : β → Prop)
    (h : ∀ s, I s → (∃ s', f s = some (.inl s') ∧ I s' ∧ μ s' < μ s ∧ g (φ s) = some (.inl (φ s'))) ∨ (∃ r, f s = some (.inr r) ∧ g (φ s) = some (.inr r) ∧ Q r) ∨ (∃ r, iter f s = some r ∧ E r))
    (s : σ) (hs : I s) : (∃ r, iter f s = some r ∧ iter g (φ s) = some r ∧ Q r) ∨ (∃ r, iter f s = some r ∧ E r) := by
  have key : ∀ n s, μ s < n → I s → (∃ r, iter f s = some r ∧ iter g (φ s) = some r ∧ Q r) ∨ (∃ r, iter f s = some r ∧ E r) := by
    intro n
    induction n with
    | zero => intro s h0; omega
    | succ n ih =>
      intro s hn hs
      rcases h s hs with ⟨s', h1, h2, h3, h4⟩ | ⟨r, h1, h2, h3⟩ | h1
      · rw [iter_l h1, iter_l h4]; exact ih s' (by omega) h2
      · exact .inl ⟨r, iter_r h1, iter_r h2, h3⟩
      · exact .inr h1
  exact key (μ s + 1) s (by omega) hs
abbrev T20 := (Bool × List UInt8 × Bool × List (Bs × Bs) × Int × Int × Int × Bool × List UInt8 × Int × UInt8)
abbrev S20 := ((Bool × List UInt8) ⊕ T20 ⊕ T20 ⊕ T20 ⊕ T20 ⊕ T20 ⊕ T20 ⊕ T20 ⊕ T20)
def phT (t : Bs) : T20 → T20 := fun (z, b, l0, l, f, o, e, hz, hb, a, c) => (false, b ++ t, l0, l, f, o, e, false, hb ++ t, a, c)
def ph20 (t : Bs) : S20 → S20
  | .inl x => .inl (false, x.2 ++ t)
  | .inr (.inl x) => .inr (.inl (phT t x))
  | .inr (.inr (.inl x)) => .inr (.inr (.inl (phT t x)))
  | .inr (.inr (.inr (.inl x))) => .inr (.inr (.inr (.inl (phT t x))))
  | .inr (.inr (.inr (.inr (.inl x)))) => .inr (.inr (.inr (.inr (.inl (phT t x)))))
  | .inr (.inr (.inr (.inr (.inr (.inl x))))) => .inr (.inr (.inr (.inr (.inr (.inl (phT t x))))))
  | .inr (.inr (.inr (.inr (.inr (.inr (.inl x)))))) => .inr (.inr (.inr (.inr (.inr (.inr (.inl (phT t x)))))))
  | .inr (.inr (.inr (.inr (.inr (.inr (.inr (.inl x))))))) => .inr (.inr (.inr (.inr (.inr (.inr (.inr (.inl (phT t x))))))))
  | .inr (.inr (.inr (.inr (.inr (.inr (.inr (.inr x))))))) => .inr (.inr (.inr (.inr (.inr (.inr (.inr (.inr (phT t x))))))))
def C20 (b b1 b2 : Bs) (l : List (Bs × Bs)) (f a : Int) : Prop := b1 = b ∧ b2 = b ∧ 0 ≤ f ∧ f ≤ a ∧ a ≤ b.length ∧ a ≤ 2048 ∧ (l.length : Int) ≤ a
def I20 (b : Bs) : S20 → Prop
  | .inl x => x.2 = b
  | .inr (.inl (z, b1, l0, l, f, o, e, hz, b2, a, c)) => C20 b b1 b2 l f a
  | .inr (.inr (.inl (z, b1, l0, l, f, o, e, hz, b2, a, c))) => C20 b b1 b2 l f a ∧ f + 1 ≤ o ∧ o ≤ a
  | .inr (.inr (.inr (.inl x))) => True
  | .inr (.inr (.inr (.inr (.inl (z, b1, l0, l, f, o, e, hz, b2, a, c))))) => C20 b b1 b2 l f a ∧ f < a
  | .inr (.inr (.inr (.inr (.inr (.inl x))))) => True
  | .inr (.inr (.inr (.inr (.inr (.inr (.inl x)))))) => True
  | .inr (.inr (.inr (.inr (.inr (.inr (.inr (.inl (z, b1, l0, l, f, o, e, hz, b2, a, c)))))))) => C20 b b1 b2 l f a ∧ f + 1 ≤ o ∧ o + 1 ≤ a
  | .inr (.inr (.inr (.inr (.inr (.inr (.inr (.inr (z, b1, l0, l, f, o, e, hz, b2, a, c)))))))) => C20 b b1 b2 l f a
def mu20 (b : Bs) : S20 → Nat
  | .inl x => 3 * b.length + 3
  | .inr (.inl (z, b1, l0, l, f, o, e, hz, b2, a, c)) => 3 * ((b.length : Int) - a).toNat + 1
  | .inr (.inr (.inl (z, b1, l0, l, f, o, e, hz, b2, a, c))) => 3 * ((b.length : Int) - a).toNat + 1
  | .inr (.inr (.inr (.inl x))) => 0
  | .inr (.inr (.inr (.inr (.inl (z, b1, l0, l, f, o, e, hz, b2, a, c))))) => 3 * ((b.length : Int) - a).toNat + 2
  | .inr (.inr (.inr (.inr (.inr (.inl x))))) => 0
  | .inr (.inr (.inr (.inr (.inr (.inr (.inl x)))))) => 0
  | .inr (.inr (.inr (.inr (.inr (.inr (.inr (.inl (z, b1, l0, l, f, o, e, hz, b2, a, c)))))))) => 3 * ((b.length : Int) - a).toNat + 1
  | .inr (.inr (.inr (.inr (.inr (.inr (.inr (.inr (z, b1, l0, l, f, o, e, hz, b2, a, c)))))))) => 3 * ((b.length : Int) - a).toNat + 1
def Q20 (b : Bs) : R20 → Prop
  | .inl (z, l, n, e) => 0 ≤ n ∧ n ≤ b.length
  | .inr (z, l, n, e) => 0 ≤ n ∧ n ≤ b.length
inductive Rel (b t : Bs) (n : Nat) : Option (S20 ⊕ R20) → Option (S20 ⊕ R20) → Prop
  | go (s' : S20) (h : I20 b s') (hm : mu20 b s' < n) {y} (hy : y = some (.inl (ph20 t s'))) : Rel b t n (some (.inl s')) y
  | ans (r : R20) (h : Q20 b r) : Rel b t n (some (.inr r)) (some (.inr r))
  | more (x : T20) (h : x.2.2.2.2.2.2.1 = 8) {y} : Rel b t n (some (.inl (.inr (.inr (.inr (.inr (.inr (.inl x)))))))) y
theorem rel_if {b t : Bs} {n : Nat} {c : Prop} [Decidable c] {A A' B B' : Option (S20 ⊕ R20)} (h1 : c → Rel b t n A A') (h2 : ¬ c → Rel b t n B B') : Rel b t n (if c then A else B) (if c then A' else B') := by
  by_cases h : c
  · rw [if_pos h, if_pos h]; exact h1 h
  · rw [if_neg h, if_neg h]; exact h2 h
theorem rel_bind2 {b t : Bs} {n : Nat} {α : Type} {o o' : Option α} {k k' : α → Option (S20 ⊕ R20)} {r : α} (ho : o = some r) (ho' : o' = some r) (h : Rel b t n (k r) (k' r)) : Rel b t n (o.bind k) (o'.bind k') := by
  rw [ho, ho']; exact h
theorem Rel.gg {b t : Bs} {n : Nat} {s' : S20} (h : I20 b s') (hm : mu20 b s' < n) : Rel b t n (some (.inl s')) (some (.inl (ph20 t s'))) := .go s' h hm rfl
theorem rel_neg {b t : Bs} {n : Nat} {c c' : Prop} [Decidable c] [Decidable c'] {A A' B B' : Option (S20 ⊕ R20)} (h1 : ¬ c) (h2 : ¬ c') (h : Rel b t n B B') : Rel b t n (if c then A else B) (if c' then A' else B') := by
  rw [if_neg h1, if_neg h2]; exact h
theorem rel_pos {b t : Bs} {n : Nat} {c c' : Prop} [Decidable c] [Decidable c'] {A A' B B' : Option (S20 ⊕ R20)} (h1 : c) (h2 : c') (h : Rel b t n A A') : Rel b t n (if c then A else B) (if c' then A' else B') := by
  rw [if_pos h1, if_pos h2]; exact h
theorem n80 : ¬ ((8 : Int) == 0) = true := by decide
theorem n210 : ¬ ((21 : Int) == 0) = true := by decide
theorem p00 : ((0 : Int) == 0) = true := by decide
theorem rel_bind {b t : Bs} {n : Nat} {α : Type} {o : Option α} {k k' : α → Option (S20 ⊕ R20)} {r : α} (ho : o = some r) (h : Rel b t n (k r) (k' r)) : Rel b t n (o.bind k) (o.bind k') := by
  rw [ho]; exact h
theorem getD_app {b t : Bs} {i : Nat} (h : i < b.length) : (b ++ t).getD i default = b.getD i default := by
  rw [List.getD_eq_getElem?_getD, List.getD_eq_getElem?_getD, List.getElem?_append_left h]
theorem m33_A {z : Bool} {b : Bs} {a : Int} {c : UInt8} (e : a = b.length) : m33 z b a c = some (8, z, b, a, c) := by
  unfold m33
  rw [if_pos (by simpa using e)]
theorem m33_B {z : Bool} {b : Bs} {a : Int} {c : UInt8} (e : a ≠ b.length) (e2 : a = 2048) : m33 z b a c = some (21, z, b, a, c) := by
  unfold m33
  rw [if_neg (by simpa using e), if_pos (by simpa using e2)]
theorem m33_C {z : Bool} {b : Bs} {a : Int} {c : UInt8} (e : a ≠ b.length) (e2 : a ≠ 2048) (h0 : 0 ≤ a) (h1 : a < b.length) (hb : b.length < 2 ^ 61) : m33 z b a c = some (0, z, b, a + 1, b.getD a.toNat default) := by
  unfold m33
  rw [if_neg (by simpa using e), if_neg (by simpa using e2), if_pos ⟨h0, h1⟩, w64_eq _ (by omega) (by omega)]
theorem rel_next {b t : Bs} {n : Nat} {z : Bool} {a : Int} {c : UInt8} {k k' : R33 → Option (S20 ⊕ R20)} (hb : (b ++ t).length < 2 ^ 60) (h0 : 0 ≤ a) (h1 : a ≤ b.length) (h2 : a ≤ 2048)
    (hA : ∃ x : T20, k (8, z, b, a, c) = some (.inl (.inr (.inr (.inr (.inr (.inr (.inl x))))))) ∧ x.2.2.2.2.2.2.1 = 8)
    (hB : Rel b t n (k (21, z, b, a, c)) (k' (21, false, b ++ t, a, c)))
    (hC : a < b.length → a < 2048 → Rel b t n (k (0, z, b, a + 1, b.getD a.toNat default)) (k' (0, false, b ++ t, a + 1, b.getD a.toNat default))) :
    Rel b t n ((m33 z b a c).bind k) ((m33 false (b ++ t) a c).bind k') := by
  have hbt : (b ++ t).length < 2 ^ 61 := by omega
  have hb1 : b.length < 2 ^ 61 := by rw [List.length_append] at hb; omega
  by_cases e : a = b.length
  · obtain ⟨x, hx, he⟩ := hA
    rw [m33_A e, Option.bind_some, hx]
    exact .more x he
  · by_cases e2 : a = 2048
    · rw [m33_B e e2, m33_B (by simp only [List.length_append]; omega) e2]; exact hB
    · rw [m33_C e e2 h0 (by omega) hb1, m33_C (by simp only [List.length_append]; omega) e2 h0 (by simp only [List.length_append]; omega) hbt, getD_app (by omega)]
      exact hC (by omega) (by omega)
theorem rel_name {b t : Bs} {n : Nat} (hb : (b ++ t).length < 2 ^ 60) {z : Bool} {l0 : Bool} {l : List (Bs × Bs)} {f o e a : Int} {hz : Bool} {c : UInt8} (h : C20 b b b l f a) (hf : f < a) (hn : 3 * ((b.length : Int) - a).toNat + 1 < n) :
    Rel b t n (j20_34v1 z b l0 l f o e hz b a c) (j20_34v1 false (b ++ t) l0 l f o e false (b ++ t) a c) := by
  obtain ⟨-, -, h0, h1, h2, h3, h4⟩ := h
  have key : ∀ q : Bool, (q = true → f + 1 < a) → Rel b t n (j20_40v1 z b l0 l f o e q hz b a c) (j20_40v1 false (b ++ t) l0 l f o e q false (b ++ t) a c) := by
    intro q hq
    unfold j20_40v1
    refine rel_if (fun g => ?_) (fun _ => ?_)
    · have := hq g
      exact Rel.gg ⟨⟨rfl, rfl, h0, h1, h2, h3, h4⟩, by omega, by omega⟩ hn
    · obtain ⟨r, hr⟩ := m34_T c
      refine rel_bind hr (rel_if (fun _ => ?_) (fun _ => Rel.gg trivial (by simp only [mu20]; omega)))
      unfold j20_49v1
      refine rel_next hb (by omega) h2 h3 ⟨_, if_neg n80, rfl⟩ (rel_neg n210 n210 (Rel.gg trivial (by simp only [mu20]; omega))) (fun h5 h6 => ?_)
      refine rel_pos p00 p00 ?_
      dsimp only
      unfold j20_57v1
      have k2 : ∀ q : Bool, Rel b t n (j20_60v1 z b l0 l f o 0 q hz b (a + 1) (b.getD a.toNat default)) (j20_60v1 false (b ++ t) l0 l f o 0 q false (b ++ t) (a + 1) (b.getD a.toNat default)) := by
        intro q
        unfold j20_60v1 j20_63v1
        exact rel_if (fun _ => Rel.gg trivial (by simp only [mu20]; omega)) (fun _ => Rel.gg ⟨⟨rfl, rfl, h0, by omega, by omega, by omega, by omega⟩, by omega⟩ (by simp only [mu20]; omega))
      exact rel_if (fun _ => k2 _) (fun _ => k2 _)
  unfold j20_34v1
  refine rel_if (fun _ => key _ (fun g => ?_)) (fun _ => key _ (fun g => by cases g))
  have := of_decide_eq_true g
  rw [w64_eq _ (by omega) (by omega)] at this
  exact this
theorem j20_34_v (z : Bool) (b : Bs) (f o e : Int) (hz : Bool) (b2 : Bs) (a : Int) (c : UInt8) : j20_34 z b f o e hz b2 a c = j20_34v1 z b true [] f o e hz b2 a c := rfl
theorem rel_end {b t : Bs} (hb : (b ++ t).length < 2 ^ 60) {z l0 : Bool} {l : List (Bs × Bs)} {f o e : Int} {hz : Bool} {a : Int} {c : UInt8} (h : C20 b b b l f a) :
    Rel b t (3 * ((b.length : Int) - a).toNat + 1) (s20_2x1 z b l0 l f o e hz b a c) (s20_2x1 false (b ++ t) l0 l f o e false (b ++ t) a c) := by
  obtain ⟨-, -, h0, h1, h2, h3, h4⟩ := h
  unfold s20_2x1
  refine rel_next hb (by omega) h2 h3 ⟨_, if_neg n80, rfl⟩ (rel_neg n210 n210 (Rel.gg trivial (by simp only [mu20]; omega))) (fun h5 h6 => ?_)
  refine rel_pos p00 p00 ?_
  dsimp only
  exact rel_if (fun _ => .ans _ ⟨by omega, by omega⟩) (fun _ => .ans _ ⟨by omega, by omega⟩)
theorem rel_value {b t : Bs} (hb : (b ++ t).length < 2 ^ 60) {z l0 : Bool} {l : List (Bs × Bs)} {f o e : Int} {hz : Bool} {a : Int} {c : UInt8} (h : C20 b b b l f a) (ho : f + 1 ≤ o) (ho2 : o ≤ a) :
    Rel b t (3 * ((b.length : Int) - a).toNat + 1) (s20_2x2 z b l0 l f o e hz b a c) (s20_2x2 false (b ++ t) l0 l f o e false (b ++ t) a c) := by
  obtain ⟨-, -, h0, h1, h2, h3, h4⟩ := h
  unfold s20_2x2
  refine rel_next hb (by omega) h2 h3 ⟨_, if_neg n80, rfl⟩ (rel_neg n210 n210 (Rel.gg trivial (by simp only [mu20]; omega))) (fun h5 h6 => ?_)
  refine rel_pos p00 p00 ?_
  dsimp only
  refine rel_if (fun _ => Rel.gg ⟨⟨rfl, rfl, h0, by omega, by omega, by omega, by omega⟩, ho, by omega⟩ (by simp only [mu20]; omega)) (fun _ => rel_if (fun _ => Rel.gg trivial (by simp only [mu20]; omega)) (fun _ => ?_))
  obtain ⟨r, hr⟩ := m35_T (b.getD a.toNat default)
  exact rel_bind hr (rel_if (fun _ => Rel.gg ⟨⟨rfl, rfl, h0, by omega, by omega, by omega, by omega⟩, ho, by omega⟩ (by simp only [mu20]; omega)) (fun _ => Rel.gg trivial (by simp only [mu20]; omega)))
theorem rel_nm {b t : Bs} (hb : (b ++ t).length < 2 ^ 60) {z l0 : Bool} {l : List (Bs × Bs)} {f o e : Int} {hz : Bool} {a : Int} {c : UInt8} (h : C20 b b b l f a) (hf : f < a) :
    Rel b t (3 * ((b.length : Int) - a).toNat + 2) (s20_2x4 z b l0 l f o e hz b a c) (s20_2x4 false (b ++ t) l0 l f o e false (b ++ t) a c) :=
  rel_name hb h hf (by omega)
theorem bnd_of {i : Int} {n : Nat} (h0 : 0 ≤ i) (h1 : i ≤ n) : bnd i n = some i.toNat := if_pos ⟨h0, h1⟩
theorem rel_ended {b t : Bs} (hb : (b ++ t).length < 2 ^ 60) {z l0 : Bool} {l : List (Bs × Bs)} {f o e : Int} {hz : Bool} {a : Int} {c : UInt8} (h : C20 b b b l f a) (ho : f + 1 ≤ o) (ho2 : o + 1 ≤ a) :
    Rel b t (3 * ((b.length : Int) - a).toNat + 1) (s20_2x7 z b l0 l f o e hz b a c) (s20_2x7 false (b ++ t) l0 l f o e false (b ++ t) a c) := by
  obtain ⟨-, -, h0, h1, h2, h3, h4⟩ := h
  unfold s20_2x7
  have hl : (b ++ t).length = b.length + t.length := List.length_append
  rw [w64_eq (o - 1) (by omega) (by omega), w64_eq (a - 1) (by omega) (by omega)]
  refine rel_bind2 (bnd_of (by omega) (by omega)) (bnd_of (by omega) (by omega)) ?_
  refine rel_bind2 (bnd_of (by omega) (by omega)) (bnd_of (by omega) (by omega)) ?_
  refine rel_bind2 (bnd_of (by omega) (by omega)) (bnd_of (by omega) (by omega)) ?_
  refine rel_bind2 (bnd_of (by omega) (by omega)) (bnd_of (by omega) (by omega)) ?_
  rw [List.take_append_of_le_length (by omega), List.take_append_of_le_length (by omega)]
  obtain ⟨r, hr⟩ := m36_T ((b.take (a - 1).toNat).drop o.toNat) (by simp; omega)
  refine rel_bind hr ?_
  rw [if_pos (by omega), if_pos (by omega)]
  refine rel_next hb (by omega) h2 h3 ⟨_, if_neg n80, rfl⟩ (rel_neg n210 n210 (Rel.gg trivial (by simp only [mu20]; omega))) (fun h5 h6 => ?_)
  refine rel_pos p00 p00 ?_
  dsimp only
  exact rel_if (fun _ => Rel.gg ⟨rfl, rfl, by omega, by omega, by omega, by omega, by simp; omega⟩ (by simp only [mu20]; omega)) (fun _ => Rel.gg trivial (by simp only [mu20]; omega))
theorem rel_line {b t : Bs} (hb : (b ++ t).length < 2 ^ 60) {z l0 : Bool} {l : List (Bs × Bs)} {f o e : Int} {hz : Bool} {a : Int} {c : UInt8} (h : C20 b b b l f a) :
    Rel b t (3 * ((b.length : Int) - a).toNat + 1) (s20_2x8 z b l0 l f o e hz b a c) (s20_2x8 false (b ++ t) l0 l f o e false (b ++ t) a c) := by
  obtain ⟨-, -, h0, h1, h2, h3, h4⟩ := h
  unfold s20_2x8
  refine rel_next hb (by omega) h2 h3 ⟨_, if_neg n80, rfl⟩ (rel_neg n210 n210 (Rel.gg trivial (by simp only [mu20]; omega))) (fun h5 h6 => ?_)
  refine rel_pos p00 p00 ?_
  dsimp only
  unfold j20_23v1
  exact rel_if (fun _ => Rel.gg ⟨rfl, rfl, by omega, by omega, by omega, by omega, by omega⟩ (by simp only [mu20]; omega)) (fun _ => rel_if (fun _ => Rel.gg trivial (by simp only [mu20]; omega)) (fun _ => rel_name hb ⟨rfl, rfl, by omega, by omega, by omega, by omega, by omega⟩ (by omega) (by omega)))
theorem rel_start {b t : Bs} (hb : (b ++ t).length < 2 ^ 60) {z : Bool} : Rel b t (3 * b.length + 3) (s20_2x0 z b) (s20_2x0 false (b ++ t)) := by
  unfold s20_2x0
  refine rel_next hb (by omega) (by omega) (by omega) ⟨_, if_neg n80, rfl⟩ (rel_neg n210 n210 (Rel.gg trivial (by simp only [mu20]; omega))) (fun h5 h6 => ?_)
  refine rel_pos p00 p00 ?_
  dsimp only
  unfold j20_23
  refine rel_if (fun _ => Rel.gg ⟨rfl, rfl, by omega, by omega, by omega, by omega, by simp⟩ (by simp only [mu20]; omega)) (fun _ => ?_)
  rw [j20_34_v, j20_34_v]
  exact rel_name hb ⟨rfl, rfl, by omega, by omega, by omega, by omega, by simp⟩ (by omega) (by omega)
theorem m20_two (z : Bool) (b t : Bs) (hb : (b ++ t).length < 2 ^ 60) : (∃ r, m20 z b = some r ∧ m20 false (b ++ t) = some r ∧ Q20 b r) ∨ m20 z b = some (.inr (true, [], 0, 8)) := by
  have key := iter_two (f := s20_2) (g := s20_2) (ph20 t) (fun s => I20 b s) (mu20 b) (Q20 b) (fun r => r = .inr (true, [], 0, 8)) ?_ (.inl (z, b)) rfl
  · rcases key with h | ⟨r, h, rfl⟩
    · exact .inl h
    · exact .inr h
  intro s hI
  have fin : ∀ {x y}, Rel b t (mu20 b s) x y → s20_2 s = x → s20_2 (ph20 t s) = y → (∃ s', s20_2 s = some (.inl s') ∧ I20 b s' ∧ mu20 b s' < mu20 b s ∧ s20_2 (ph20 t s) = some (.inl (ph20 t s'))) ∨ (∃ r, s20_2 s = some (.inr r) ∧ s20_2 (ph20 t s) = some (.inr r) ∧ Q20 b r) ∨ (∃ r, iter s20_2 s = some r ∧ r = .inr (true, [], 0, 8)) := by
    intro x y h e1 e2
    cases h with
    | go s' h hm hy => exact .inl ⟨s', e1, h, hm, e2.trans hy⟩
    | ans r h => exact .inr (.inl ⟨r, e1, e2, h⟩)
    | more x h =>
      refine .inr (.inr ⟨_, ?_, rfl⟩)
      rw [iter_l e1]
      obtain ⟨z, b1, l0, l, f, o, e, hz, b2, a, c⟩ := x
      obtain rfl : e = 8 := h
      exact iter_r rfl
  rcases s with ⟨z, b1⟩ | ⟨z, b1, l0, l, f, o, e, hz, b2, a, c⟩ | ⟨z, b1, l0, l, f, o, e, hz, b2, a, c⟩ | ⟨z, b1, l0, l, f, o, e, hz, b2, a, c⟩ | ⟨z, b1, l0, l, f, o, e, hz, b2, a, c⟩ | ⟨z, b1, l0, l, f, o, e, hz, b2, a, c⟩ | ⟨z, b1, l0, l, f, o, e, hz, b2, a, c⟩ | ⟨z, b1, l0, l, f, o, e, hz, b2, a, c⟩ | ⟨z, b1, l0, l, f, o, e, hz, b2, a, c⟩
  · obtain rfl : b1 = b := hI
    exact fin (rel_start hb) rfl rfl
  · obtain ⟨rfl, rfl, h⟩ := hI
    exact fin (rel_end (z := z) (l0 := l0) (o := o) (e := e) (hz := hz) (c := c) hb ⟨rfl, rfl, h⟩) rfl rfl
  · obtain ⟨⟨rfl, rfl, h⟩, h1, h2⟩ := hI
    exact fin (rel_value (z := z) (l0 := l0) (o := o) (e := e) (hz := hz) (c := c) hb ⟨rfl, rfl, h⟩ h1 h2) rfl rfl
  · exact fin (.ans (.inr (true, [], 0, 21)) (And.intro (Int.le_refl 0) (Int.natCast_nonneg _))) rfl rfl
  · obtain ⟨⟨rfl, rfl, h⟩, h1⟩ := hI
    exact fin (rel_nm (z := z) (l0 := l0) (o := o) (e := e) (hz := hz) (c := c) hb ⟨rfl, rfl, h⟩ h1) rfl rfl
  · exact fin (.ans (.inr (true, [], 0, e)) (And.intro (Int.le_refl 0) (Int.natCast_nonneg _))) rfl rfl
  · exact fin (.ans (.inr (true, [], 0, 20)) (And.intro (Int.le_refl 0) (Int.natCast_nonneg _))) rfl rfl
  · obtain ⟨⟨rfl, rfl, h⟩, h1, h2⟩ := hI
    exact fin (rel_ended (z := z) (l0 := l0) (o := o) (e := e) (hz := hz) (c := c) hb ⟨rfl, rfl, h⟩ h1 h2) rfl rfl
  · obtain ⟨rfl, rfl, h⟩ := hI
    exact fin (rel_line (z := z) (l0 := l0) (o := o) (e := e) (hz := hz) (c := c) hb ⟨rfl, rfl, h⟩) rfl rfl
end Go.Ab
end
section
set_option linter.all false
set_option maxRecDepth 100000
open Go Go.Ab Go.Proofs Go.Proofs.YtaohepmbkepmiaaDoor
namespace Go.Ab
theorem idx_app : ∀ (l r : Bs) (c : UInt8), 0 ≤ Lib.indexByte l c → Lib.indexByte (l ++ r) c = Lib.indexByte l c
  | [], r, c, h => by simp [Lib.indexByte] at h
  | b :: l, r, c, h => by
    rw [List.cons_append]
    unfold Lib.indexByte at h ⊢
    by_cases e : (b == c) = true
    · rw [if_pos e, if_pos e]
    · rw [if_neg e] at h ⊢
      rw [if_neg e]
      by_cases e2 : (Lib.indexByte l c == -1) = true
      · rw [if_pos e2] at h; exact absurd h (by decide)
      · have := Lib.indexByte_ge l c
        have e3 : Lib.indexByte l c ≠ -1 := by simpa using e2
        rw [idx_app l r c (by omega)]
theorem idx_lt {l : Bs} {c : UInt8} (h : 0 ≤ Lib.indexByte l c) : Lib.indexByte l c < l.length := by
  obtain ⟨o, ho⟩ : ∃ o : Nat, Lib.indexByte l c = o := ⟨(Lib.indexByte l c).toNat, by omega⟩
  have h1 := (Lib.indexByte_some ho).1
  have : o < l.length := by
    by_cases g : o < l.length
    · exact g
    · rw [List.getElem?_eq_none (by omega)] at h1; cases h1
  omega
def eol (r : Bs) : Int := Lib.indexByte (r.take (min r.length 64)) 10
theorem min2_len (n : Nat) : bnd (min2 (n : Int) 64) n = some (min n 64) := by
  unfold min2 bnd
  split
  · rw [if_pos ⟨by decide, by omega⟩, show (64 : Int).toNat = 64 from rfl, Nat.min_eq_right (by omega)]
  · rw [if_pos ⟨by omega, by omega⟩, Int.toNat_natCast, Nat.min_eq_left (by omega)]
theorem eol_app {r t : Bs} (h : 0 ≤ eol r) : eol (r ++ t) = eol r := by
  have : (r ++ t).take (min (r ++ t).length 64) = r.take (min r.length 64) ++ ((r ++ t).take (min (r ++ t).length 64)).drop (min r.length 64) := by
    conv => lhs; rw [← List.take_append_drop (min r.length 64) ((r ++ t).take (min (r ++ t).length 64))]
    rw [List.take_take, List.length_append, Nat.min_eq_left (by omega), List.take_append_of_le_length (by omega)]
  unfold eol at h ⊢
  rw [this, idx_app _ _ _ h]
theorem eol_long {r t : Bs} (h : 64 ≤ r.length) : eol (r ++ t) = eol r := by
  unfold eol
  rw [List.length_append, Nat.min_eq_right (by omega), Nat.min_eq_right (by omega), List.take_append_of_le_length (by omega)]
theorem eol_lt {r : Bs} (h : 0 ≤ eol r) : eol r < r.length ∧ eol r < 64 := by
  have := idx_lt h
  rw [List.length_take] at this
  unfold eol
  omega
theorem cpy_len {l src : Bs} {off n : Nat} (h : off + min src.length n ≤ l.length) : (cpy l off n src).length = l.length := by
  unfold cpy
  simp only [List.length_append, List.length_take, List.length_drop]
  omega
theorem cpy_app {l src t : Bs} {off n : Nat} (h : n ≤ src.length) : cpy l off n (src ++ t) = cpy l off n src := by
  unfold cpy
  rw [List.take_append_of_le_length h, List.length_append, Nat.min_eq_right h, Nat.min_eq_right (by omega)]
abbrev A8 := (Bool × List UInt8 × Bool × List UInt8 × Int × Int)
abbrev B8 := (Bool × List UInt8 × Nat × Nat × Int × Int × List UInt8)
abbrev S8 := ((Bool × List UInt8) ⊕ A8 ⊕ A8 ⊕ B8 ⊕ B8 ⊕ B8)
def phA (t : Bs) : A8 → A8 := fun (z, b, y, l, a, e) => (false, b ++ t, y, l, a, e)
def phB (t : Bs) : B8 → B8 := fun (z, b, n, m, a, e, h) => (false, b ++ t, n, m, a, e, h)
def ph8 (t : Bs) : S8 → S8
  | .inl x => .inl (false, x.2 ++ t)
  | .inr (.inl x) => .inr (.inl (phA t x))
  | .inr (.inr (.inl x)) => .inr (.inr (.inl (phA t x)))
  | .inr (.inr (.inr (.inl x))) => .inr (.inr (.inr (.inl (phB t x))))
  | .inr (.inr (.inr (.inr (.inl x)))) => .inr (.inr (.inr (.inr (.inl (phB t x)))))
  | .inr (.inr (.inr (.inr (.inr x)))) => .inr (.inr (.inr (.inr (.inr (phB t x)))))
def CB (b b1 : Bs) (n : Nat) (a : Int) (h : Bs) : Prop := b1 = b ∧ n = h.length ∧ (n : Int) ≤ a ∧ n ≤ 4096 ∧ a ≤ b.length
def I8 (b : Bs) : S8 → Prop
  | .inl x => x.2 = b
  | .inr (.inl x) => True
  | .inr (.inr (.inl (z, b1, y, l, a, e))) => b1 = b ∧ l = [] ∧ 0 ≤ a ∧ a ≤ b.length
  | .inr (.inr (.inr (.inl x))) => True
  | .inr (.inr (.inr (.inr (.inl (z, b1, n, m, a, e, h))))) => CB b b1 n a h
  | .inr (.inr (.inr (.inr (.inr (z, b1, n, m, a, e, h))))) => CB b b1 n a h
def mu8 (b : Bs) : S8 → Nat
  | .inl x => b.length + 3
  | .inr (.inl x) => 0
  | .inr (.inr (.inl x)) => 1
  | .inr (.inr (.inr (.inl x))) => 0
  | .inr (.inr (.inr (.inr (.inl (z, b1, n, m, a, e, h))))) => ((b.length : Int) - a).toNat + 2
  | .inr (.inr (.inr (.inr (.inr x)))) => 1
def Q8 (b : Bs) : R8 → Prop := fun (z, x, n, e) => 0 ≤ n ∧ n ≤ b.length ∧ x.length ≤ 4096 ∧ (x.length : Int) ≤ n ∧ (e = 0 ∨ (n = 0 ∧ x = []))
inductive Rel8 (b t : Bs) (n : Nat) : Option (S8 ⊕ R8) → Option (S8 ⊕ R8) → Prop
  | go (s' : S8) (h : I8 b s') (hm : mu8 b s' < n) {y} (hy : y = some (.inl (ph8 t s'))) : Rel8 b t n (some (.inl s')) y
  | ans (r : R8) (h : Q8 b r) : Rel8 b t n (some (.inr r)) (some (.inr r))
  | moreA (x : A8) (h : x.2.2.2.2.2 = 8) {y} : Rel8 b t n (some (.inl (.inr (.inl x)))) y
  | moreB (x : B8) (h : x.2.2.2.2.2.1 = 8) {y} : Rel8 b t n (some (.inl (.inr (.inr (.inr (.inl x)))))) y
section
variable {b t : Bs} {n : Nat}
theorem r8_if {c : Prop} [Decidable c] {A A' B B' : Option (S8 ⊕ R8)} (h1 : c → Rel8 b t n A A') (h2 : ¬ c → Rel8 b t n B B') : Rel8 b t n (if c then A else B) (if c then A' else B') := by
  by_cases h : c
  · rw [if_pos h, if_pos h]; exact h1 h
  · rw [if_neg h, if_neg h]; exact h2 h
theorem r8_bind {α : Type} {o : Option α} {k k' : α → Option (S8 ⊕ R8)} {r : α} (ho : o = some r) (h : Rel8 b t n (k r) (k' r)) : Rel8 b t n (o.bind k) (o.bind k') := by
  rw [ho]; exact h
theorem r8_bind2 {α : Type} {o o' : Option α} {k k' : α → Option (S8 ⊕ R8)} {r r' : α} (ho : o = some r) (ho' : o' = some r') (h : Rel8 b t n (k r) (k' r')) : Rel8 b t n (o.bind k) (o'.bind k') := by
  rw [ho, ho']; exact h
theorem Rel8.gg {s' : S8} (h : I8 b s') (hm : mu8 b s' < n) : Rel8 b t n (some (.inl s')) (some (.inl (ph8 t s'))) := .go s' h hm rfl
theorem r8_neg {c c' : Prop} [Decidable c] [Decidable c'] {A A' B B' : Option (S8 ⊕ R8)} (h1 : ¬ c) (h2 : ¬ c') (h : Rel8 b t n B B') : Rel8 b t n (if c then A else B) (if c' then A' else B') := by
  rw [if_neg h1, if_neg h2]; exact h
theorem r8_pos {c c' : Prop} [Decidable c] [Decidable c'] {A A' B B' : Option (S8 ⊕ R8)} (h1 : c) (h2 : c') (h : Rel8 b t n A A') : Rel8 b t n (if c then A else B) (if c' then A' else B') := by
  rw [if_pos h1, if_pos h2]; exact h
theorem r8_more {c c' : Prop} [Decidable c] [Decidable c'] {A A' B B' : Option (S8 ⊕ R8)} (h1 : ∀ y, Rel8 b t n A y) (hc : ¬ c → ¬ c') (h : ¬ c → Rel8 b t n B B') : Rel8 b t n (if c then A else B) (if c' then A' else B') := by
  by_cases g : c
  · rw [if_pos g]; exact h1 _
  · rw [if_neg g, if_neg (hc g)]; exact h g
end
theorem d_neg {p : Prop} [Decidable p] (h : ¬ p) : ¬ (decide p) = true := by simpa using h
theorem d_pos {p : Prop} [Decidable p] (h : p) : (decide p) = true := by simpa using h
section
variable {b t : Bs}
theorem r8_77 {n : Nat} (hb : (b ++ t).length < 2 ^ 60) {z : Bool} {m1 m2 : Nat} {a k e : Int} {h : Bs} (hc : CB b b m1 a h) (hk : 0 < k) (hk2 : k + m1 ≤ 4096) (hl : a + k + 2 ≤ b.length) (hn : ((b.length : Int) - (a + k + 2)).toNat + 2 < n) :
    Rel8 b t n (j8_77v1 z b m1 m2 a k e h) (j8_77v1 false (b ++ t) m1 m2 a k e h) := by
  obtain ⟨-, h0, h1, h2, h3⟩ := hc
  have hl2 : (b ++ t).length = b.length + t.length := List.length_append
  unfold j8_77v1
  rw [w64_eq k (by omega) (by omega), w64_eq ((m1 : Int) + k) (by omega) (by omega), w64_eq (a + k) (by omega) (by omega), w64_eq (a + k + 1) (by omega) (by omega)]
  have eN : ((m1 : Int) + k).toNat = m1 + k.toNat := by omega
  have e1 : (h.take m1).length = m1 := by rw [List.length_take]; omega
  rw [eN, e1]
  refine r8_pos ⟨by omega, by omega⟩ ⟨by omega, by omega⟩ (r8_pos (by omega) (by omega) ?_)
  refine r8_bind2 (r := m1) (r' := m1) (by rw [Nat.min_eq_left (by omega)]; exact bnd_ok (by omega)) (by rw [Nat.min_eq_left (by omega)]; exact bnd_ok (by omega)) ?_
  refine r8_bind2 (bnd_of (by omega) (by omega)) (bnd_of (by omega) (by omega)) ?_
  have c1 : (cpy (List.replicate (m1 + k.toNat) (0 : UInt8)) 0 (m1 + k.toNat) (h.take m1)).length = m1 + k.toNat := by
    rw [cpy_len (by rw [List.length_replicate, e1]; omega), List.length_replicate]
  refine r8_pos (by rw [c1]; omega) (by rw [c1]; omega) ?_
  refine r8_pos ⟨by omega, by omega⟩ ⟨by omega, by omega⟩ ?_
  have ed : (b ++ t).drop a.toNat = b.drop a.toNat ++ t := List.drop_append_of_le_length (by omega)
  rw [getD_app (by omega), getD_app (by omega), ed, cpy_app (by rw [List.length_drop]; omega)]
  have key : ∀ q : Bool, Rel8 b t n (j8_86v1 z b (m1 + k.toNat) (m1 + k.toNat) (a + k) e q (cpy (cpy (List.replicate (m1 + k.toNat) (0 : UInt8)) 0 (m1 + k.toNat) (h.take m1)) m1 (m1 + k.toNat - m1) (b.drop a.toNat)))
      (j8_86v1 false (b ++ t) (m1 + k.toNat) (m1 + k.toNat) (a + k) e q (cpy (cpy (List.replicate (m1 + k.toNat) (0 : UInt8)) 0 (m1 + k.toNat) (h.take m1)) m1 (m1 + k.toNat - m1) (b.drop a.toNat))) := by
    intro q
    unfold j8_86v1 j8_91v1
    refine r8_if (fun _ => Rel8.gg trivial (by simp only [mu8]; omega)) (fun _ => ?_)
    rw [w64_eq _ (by omega) (by omega)]
    refine Rel8.gg ⟨rfl, ?_, by omega, by omega, by omega⟩ (by simp only [mu8]; omega)
    rw [cpy_len (by rw [c1, List.length_drop]; omega), c1]
  refine r8_if (fun _ => ?_) (fun _ => key _)
  exact r8_pos ⟨by omega, by omega⟩ ⟨by omega, by omega⟩ (key _)
theorem r8_77n {n : Nat} (hb : (b ++ t).length < 2 ^ 60) {z y : Bool} {a k e : Int} (ha : 0 ≤ a) (hk : 0 < k) (hk2 : k ≤ 4096) (hl : a + k + 2 ≤ b.length) (hn : ((b.length : Int) - (a + k + 2)).toNat + 2 < n) :
    Rel8 b t n (j8_77 z b y [] a k e) (j8_77 false (b ++ t) y [] a k e) := by
  have := r8_77 (n := n) hb (z := z) (m1 := 0) (m2 := 0) (a := a) (k := k) (e := e) (h := []) ⟨rfl, rfl, by omega, by omega, by omega⟩ hk (by omega) hl hn
  unfold j8_77v1 at this
  unfold j8_77
  simp only [List.take_nil, List.length_nil, Nat.le_refl, if_true] at this ⊢
  exact this
theorem r8_55 {n : Nat} (hb : (b ++ t).length < 2 ^ 60) {z : Bool} {m1 m2 : Nat} {a k e : Int} {h : Bs} (hc : CB b b m1 a h) (hk : 0 ≤ k) (hn : ((b.length : Int) - a).toNat + 2 < n) :
    Rel8 b t n (j8_55v1 z b m1 m2 a k e h) (j8_55v1 false (b ++ t) m1 m2 a k e h) := by
  have hc' := hc
  obtain ⟨-, h0, h1, h2, h3⟩ := hc
  have hl2 : (b ++ t).length = b.length + t.length := List.length_append
  unfold j8_55v1
  refine r8_if (fun _ => Rel8.gg trivial (by simp only [mu8]; omega)) (fun g => ?_)
  rw [w64_eq _ (by omega) (by omega), wu64m, Int.emod_eq_of_lt (by omega) (by omega)] at g
  have g' : k ≤ 4096 - m1 := by have : ¬ (4096 - (m1 : Int) < k) := fun x => g (d_pos x); omega
  unfold j8_63v1
  refine r8_if (fun _ => Rel8.gg hc' (by simp only [mu8]; omega)) (fun g2 => ?_)
  have g3 : k ≠ 0 := fun x => g2 (by simpa using x)
  unfold j8_69v1
  have e3 : w64 (w64 k + 2) = k + 2 := by rw [w64_eq k (by omega) (by omega), w64_eq _ (by omega) (by omega)]
  refine r8_more (fun y => .moreB _ rfl) (fun q => ?_) (fun q => ?_)
  · refine d_neg fun x => q (d_pos ?_)
    rw [w64_eq _ (by omega) (by omega)] at x ⊢
    omega
  · have q2 : ¬ (w64 ((b.length : Int) - a) < w64 (w64 k + 2)) := fun x => q (d_pos x)
    rw [e3, w64_eq _ (by omega) (by omega)] at q2
    exact r8_77 hb hc' (by omega) (by omega) (by omega) (by omega)
theorem r8_55n {n : Nat} (hb : (b ++ t).length < 2 ^ 60) {z y : Bool} {a k e : Int} (ha : 0 ≤ a) (ha2 : a ≤ b.length) (hk : 0 ≤ k) (hn : ((b.length : Int) - a).toNat + 2 < n) :
    Rel8 b t n (j8_55 z b y [] a k e) (j8_55 false (b ++ t) y [] a k e) := by
  have hl2 : (b ++ t).length = b.length + t.length := List.length_append
  unfold j8_55
  refine r8_if (fun _ => Rel8.gg trivial (by simp only [mu8]; omega)) (fun g => ?_)
  rw [w64_eq _ (by simp) (by simp), wu64m, Int.emod_eq_of_lt (by simp) (by simp)] at g
  have g' : k ≤ 4096 := by have : ¬ (4096 - (([] : Bs).length : Int) < k) := fun x => g (d_pos x); simp only [List.length_nil] at this; omega
  unfold j8_63
  refine r8_if (fun _ => Rel8.gg ⟨rfl, rfl, ha, ha2⟩ (by simp only [mu8]; omega)) (fun g2 => ?_)
  have g3 : k ≠ 0 := fun x => g2 (by simpa using x)
  unfold j8_69
  have e3 : w64 (w64 k + 2) = k + 2 := by rw [w64_eq k (by omega) (by omega), w64_eq _ (by omega) (by omega)]
  refine r8_more (fun y => .moreA _ rfl) (fun q => ?_) (fun q => ?_)
  · refine d_neg fun x => q (d_pos ?_)
    rw [w64_eq _ (by omega) (by omega)] at x ⊢
    omega
  · have q2 : ¬ (w64 ((b.length : Int) - a) < w64 (w64 k + 2)) := fun x => q (d_pos x)
    rw [e3, w64_eq _ (by omega) (by omega)] at q2
    exact r8_77n hb (by omega) (by omega) (by omega) (by omega) (by omega)
theorem r8_47 {n : Nat} (hb : (b ++ t).length < 2 ^ 60) {z : Bool} {m1 m2 : Nat} {a : Int} {s h : Bs} (hs : s.length < 64) (hc : CB b b m1 a h) (hn : ((b.length : Int) - a).toNat + 2 < n) :
    Rel8 b t n (j8_47v1 z b m1 m2 a s h) (j8_47v1 false (b ++ t) m1 m2 a s h) := by
  unfold j8_47v1
  obtain ⟨r, hr, hr2⟩ := m19_T s (by omega)
  obtain ⟨q, hq, hq2⟩ := m18_T r (by omega)
  exact r8_bind hr (r8_bind hq (r8_if (fun _ => r8_55 hb hc hq2 hn) (fun _ => Rel8.gg trivial (by simp only [mu8]; omega))))
theorem r8_47n {n : Nat} (hb : (b ++ t).length < 2 ^ 60) {z y : Bool} {a : Int} {s : Bs} (hs : s.length < 64) (ha : 0 ≤ a) (ha2 : a ≤ b.length) (hn : ((b.length : Int) - a).toNat + 2 < n) :
    Rel8 b t n (j8_47 z b y [] a s) (j8_47 false (b ++ t) y [] a s) := by
  unfold j8_47
  obtain ⟨r, hr, hr2⟩ := m19_T s (by omega)
  obtain ⟨q, hq, hq2⟩ := m18_T r (by omega)
  exact r8_bind hr (r8_bind hq (r8_if (fun _ => r8_55n hb ha ha2 hq2 hn) (fun _ => Rel8.gg trivial (by simp only [mu8]; omega))))
theorem r8_28 {n : Nat} (hb : (b ++ t).length < 2 ^ 60) {z y : Bool} {m1 m2 : Nat} {a o : Int} {r h : Bs} (hr : r = b.drop a.toNat) (ho : o < r.length) (ho2 : o < 64) (ho3 : -1 ≤ o) (hc : CB b b m1 a h) (hn : ((b.length : Int) - a).toNat + 1 < n) :
    Rel8 b t n (j8_28v1 z b m1 m2 a y r o h) (j8_28v1 false (b ++ t) m1 m2 a false (r ++ t) o h) := by
  obtain ⟨-, h0, h1, h2, h3⟩ := hc
  have hl2 : (b ++ t).length = b.length + t.length := List.length_append
  have hl3 : (r ++ t).length = r.length + t.length := List.length_append
  have hl4 : r.length = b.length - a.toNat := by rw [hr, List.length_drop]
  unfold j8_28v1
  refine r8_more (fun y => .moreB _ rfl) id (fun g => ?_)
  have g' : 0 ≤ o := by have : ¬ o < 0 := fun x => g (d_pos x); omega
  unfold j8_36v1
  refine r8_bind2 (bnd_of g' (by omega)) (bnd_of g' (by omega)) ?_
  rw [List.take_append_of_le_length (by omega)]
  obtain ⟨q, hq⟩ := m17_T (r.take o.toNat) (by rw [List.length_take]; omega)
  refine r8_bind hq ?_
  rw [w64_eq (o + 1) (by omega) (by omega), w64_eq (a + (o + 1)) (by omega) (by omega)]
  exact r8_if (fun _ => r8_47 hb (by rw [List.length_take]; omega) ⟨rfl, h0, by omega, h2, by omega⟩ (by omega)) (fun _ => Rel8.gg trivial (by simp only [mu8]; omega))
theorem r8_28n {n : Nat} (hb : (b ++ t).length < 2 ^ 60) {z y y' : Bool} {o : Int} (ho : o < b.length) (ho2 : o < 64) (ho3 : -1 ≤ o) (hn : b.length + 2 < n) :
    Rel8 b t n (j8_28 z b y [] 0 y' b o) (j8_28 false (b ++ t) y [] 0 false (b ++ t) o) := by
  have hl2 : (b ++ t).length = b.length + t.length := List.length_append
  unfold j8_28
  refine r8_more (fun y => .moreA _ rfl) id (fun g => ?_)
  have g' : 0 ≤ o := by have : ¬ o < 0 := fun x => g (d_pos x); omega
  unfold j8_36
  refine r8_bind2 (bnd_of g' (by omega)) (bnd_of g' (by omega)) ?_
  rw [List.take_append_of_le_length (by omega)]
  obtain ⟨q, hq⟩ := m17_T (b.take o.toNat) (by rw [List.length_take]; omega)
  refine r8_bind hq ?_
  rw [w64_eq (o + 1) (by omega) (by omega), w64_eq (0 + (o + 1)) (by omega) (by omega)]
  exact r8_if (fun _ => r8_47n hb (by rw [List.length_take]; omega) (by omega) (by omega) (by omega)) (fun _ => Rel8.gg trivial (by simp only [mu8]; omega))
theorem r8_sizes (hb : (b ++ t).length < 2 ^ 60) {z : Bool} {m1 m2 : Nat} {a e : Int} {h : Bs} (hc : CB b b m1 a h) :
    Rel8 b t (((b.length : Int) - a).toNat + 2) (s8_2x4 z b m1 m2 a e h) (s8_2x4 false (b ++ t) m1 m2 a e h) := by
  have hc' := hc
  obtain ⟨-, h0, h1, h2, h3⟩ := hc
  have hl2 : (b ++ t).length = b.length + t.length := List.length_append
  unfold s8_2x4
  refine r8_bind2 (bnd_of (by omega) (by omega)) (bnd_of (by omega) (by omega)) ?_
  have ed : (b ++ t).drop a.toNat = b.drop a.toNat ++ t := List.drop_append_of_le_length (by omega)
  rw [ed]
  generalize hr : b.drop a.toNat = r
  have hl3 : (r ++ t).length = r.length + t.length := List.length_append
  refine r8_bind2 (min2_len _) (min2_len _) ?_
  refine r8_bind2 (r := eol r) (r' := eol (r ++ t)) rfl rfl ?_
  have hge : -1 ≤ eol r := Lib.indexByte_ge _ _
  by_cases g : eol r < 0
  · by_cases g2 : 64 ≤ r.length
    · rw [eol_long g2]
      refine r8_pos (d_pos g) (d_pos g) ?_
      unfold j8_23v1
      exact r8_pos (d_pos (by omega)) (d_pos (by omega)) (Rel8.gg trivial (by simp only [mu8]; omega))
    · rw [if_pos (d_pos g)]
      unfold j8_23v1 j8_28v1
      rw [if_neg (d_neg (by omega)), if_pos (d_pos g)]
      exact .moreB _ rfl
  · have hlt := eol_lt (r := r) (by omega)
    rw [eol_app (by omega)]
    refine r8_neg (d_neg g) (d_neg g) ?_
    unfold j8_23v1
    refine r8_neg (by decide) (by decide) ?_
    exact r8_28 hb hr.symm hlt.1 hlt.2 hge hc' (by omega)
theorem r8_start (hb : (b ++ t).length < 2 ^ 60) {z : Bool} : Rel8 b t (b.length + 3) (s8_2x0 z b) (s8_2x0 false (b ++ t)) := by
  have hl2 : (b ++ t).length = b.length + t.length := List.length_append
  unfold s8_2x0
  refine r8_bind2 (min2_len _) (min2_len _) ?_
  refine r8_bind2 (r := eol b) (r' := eol (b ++ t)) rfl rfl ?_
  have hge : -1 ≤ eol b := Lib.indexByte_ge _ _
  by_cases g : eol b < 0
  · by_cases g2 : 64 ≤ b.length
    · rw [eol_long g2]
      refine r8_pos (d_pos g) (d_pos g) ?_
      unfold j8_23
      exact r8_pos (d_pos (by omega)) (d_pos (by omega)) (Rel8.gg trivial (by simp only [mu8]; omega))
    · rw [if_pos (d_pos g)]
      unfold j8_23 j8_28
      rw [if_neg (d_neg (by omega)), if_pos (d_pos g)]
      exact .moreA _ rfl
  · have hlt := eol_lt (r := b) (by omega)
    rw [eol_app (by omega)]
    refine r8_neg (d_neg g) (d_neg g) ?_
    unfold j8_23
    refine r8_neg (by decide) (by decide) ?_
    exact r8_28n hb hlt.1 hlt.2 hge (by omega)
theorem r8_trA (hb : (b ++ t).length < 2 ^ 60) {z y : Bool} {a e : Int} (ha : 0 ≤ a) (ha2 : a ≤ b.length) :
    Rel8 b t 1 (s8_2x2 z b y [] a e) (s8_2x2 false (b ++ t) y [] a e) := by
  have hl2 : (b ++ t).length = b.length + t.length := List.length_append
  unfold s8_2x2
  refine r8_bind2 (bnd_of (by omega) (by omega)) (bnd_of (by omega) (by omega)) ?_
  have ed : (b ++ t).drop a.toNat = b.drop a.toNat ++ t := List.drop_append_of_le_length (by omega)
  rw [ed]
  rcases m20_two z (b.drop a.toNat) t (by rw [List.length_append, List.length_drop]; omega) with ⟨r, h1, h2, h3⟩ | h1
  · refine r8_bind2 h1 h2 ?_
    unfold j8_108 j8_108v1
    rcases r with ⟨z1, l1, n1, e1⟩ | ⟨z1, l1, n1, e1⟩
    · obtain ⟨h4, h5⟩ := h3
      rw [List.length_drop] at h5
      refine r8_if (fun _ => ?_) (fun _ => Rel8.gg trivial (by simp only [mu8]; omega))
      dsimp only
      rw [w64_eq _ (by omega) (by omega)]
      exact .ans _ ⟨by omega, by omega, by simp, by simp; omega, .inl rfl⟩
    · obtain ⟨h4, h5⟩ := h3
      rw [List.length_drop] at h5
      refine r8_if (fun _ => ?_) (fun _ => Rel8.gg trivial (by simp only [mu8]; omega))
      dsimp only
      rw [w64_eq _ (by omega) (by omega)]
      exact .ans _ ⟨by omega, by omega, by simp, by simp; omega, .inl rfl⟩
  · rw [h1, Option.bind_some]
    exact .moreA _ rfl
theorem r8_trB (hb : (b ++ t).length < 2 ^ 60) {z : Bool} {m1 m2 : Nat} {a e : Int} {h : Bs} (hc : CB b b m1 a h) :
    Rel8 b t 1 (s8_2x5 z b m1 m2 a e h) (s8_2x5 false (b ++ t) m1 m2 a e h) := by
  obtain ⟨-, h0, h1', h2', h3'⟩ := hc
  have hl2 : (b ++ t).length = b.length + t.length := List.length_append
  unfold s8_2x5
  refine r8_bind2 (bnd_of (by omega) (by omega)) (bnd_of (by omega) (by omega)) ?_
  have ed : (b ++ t).drop a.toNat = b.drop a.toNat ++ t := List.drop_append_of_le_length (by omega)
  rw [ed]
  have el : (h.take m1).length = m1 := by rw [List.length_take]; omega
  rcases m20_two z (b.drop a.toNat) t (by rw [List.length_append, List.length_drop]; omega) with ⟨r, h1, h2, h3⟩ | h1
  · refine r8_bind2 h1 h2 ?_
    unfold j8_108v2 j8_108v3
    rcases r with ⟨z1, l1, n1, e1⟩ | ⟨z1, l1, n1, e1⟩
    · obtain ⟨h4, h5⟩ := h3
      rw [List.length_drop] at h5
      refine r8_if (fun _ => ?_) (fun _ => Rel8.gg trivial (by simp only [mu8]; omega))
      refine r8_pos (by omega) (by omega) ?_
      dsimp only
      rw [w64_eq _ (by omega) (by omega)]
      exact .ans _ ⟨by omega, by omega, by omega, by omega, .inl rfl⟩
    · obtain ⟨h4, h5⟩ := h3
      rw [List.length_drop] at h5
      refine r8_if (fun _ => ?_) (fun _ => Rel8.gg trivial (by simp only [mu8]; omega))
      refine r8_pos (by omega) (by omega) ?_
      dsimp only
      rw [w64_eq _ (by omega) (by omega)]
      exact .ans _ ⟨by omega, by omega, by omega, by omega, .inl rfl⟩
  · rw [h1, Option.bind_some]
    exact .moreB _ rfl
end
theorem m8_two (z : Bool) (b t : Bs) (hb : (b ++ t).length < 2 ^ 60) : (∃ r, m8 z b = some r ∧ m8 false (b ++ t) = some r ∧ Q8 b r) ∨ m8 z b = some (true, [], 0, 8) := by
  have key := iter_two (f := s8_2) (g := s8_2) (ph8 t) (fun s => I8 b s) (mu8 b) (Q8 b) (fun r => r = (true, [], 0, 8)) ?_ (.inl (z, b)) rfl
  · rcases key with h | ⟨r, h, rfl⟩
    · exact .inl h
    · exact .inr h
  intro s hI
  have fin : ∀ {x y}, Rel8 b t (mu8 b s) x y → s8_2 s = x → s8_2 (ph8 t s) = y → (∃ s', s8_2 s = some (.inl s') ∧ I8 b s' ∧ mu8 b s' < mu8 b s ∧ s8_2 (ph8 t s) = some (.inl (ph8 t s'))) ∨ (∃ r, s8_2 s = some (.inr r) ∧ s8_2 (ph8 t s) = some (.inr r) ∧ Q8 b r) ∨ (∃ r, iter s8_2 s = some r ∧ r = (true, [], 0, 8)) := by
    intro x y h e1 e2
    cases h with
    | go s' h hm hy => exact .inl ⟨s', e1, h, hm, e2.trans hy⟩
    | ans r h => exact .inr (.inl ⟨r, e1, e2, h⟩)
    | moreA x h =>
      refine .inr (.inr ⟨_, ?_, rfl⟩)
      rw [iter_l e1]
      obtain ⟨z, b1, y1, l, a, e⟩ := x
      obtain rfl : e = 8 := h
      exact iter_r rfl
    | moreB x h =>
      refine .inr (.inr ⟨_, ?_, rfl⟩)
      rw [iter_l e1]
      obtain ⟨z, b1, n, m, a, e, h1⟩ := x
      obtain rfl : e = 8 := h
      exact iter_r rfl
  rcases s with ⟨z, b1⟩ | ⟨z, b1, y, l, a, e⟩ | ⟨z, b1, y, l, a, e⟩ | ⟨z, b1, n, m, a, e, h⟩ | ⟨z, b1, n, m, a, e, h⟩ | ⟨z, b1, n, m, a, e, h⟩
  · obtain rfl : b1 = b := hI
    exact fin (r8_start hb) rfl rfl
  · exact fin (.ans (true, [], 0, e) ⟨by omega, by omega, by simp, by simp, .inr ⟨rfl, rfl⟩⟩) rfl rfl
  · obtain ⟨rfl, rfl, h1, h2⟩ := hI
    exact fin (r8_trA (z := z) (e := e) (y := y) hb h1 h2) rfl rfl
  · exact fin (.ans (true, [], 0, e) ⟨by omega, by omega, by simp, by simp, .inr ⟨rfl, rfl⟩⟩) rfl rfl
  · obtain ⟨rfl, hI⟩ := hI
    exact fin (r8_sizes (z := z) (e := e) (m2 := m) hb ⟨rfl, hI⟩) rfl rfl
  · obtain ⟨rfl, hI⟩ := hI
    exact fin (r8_trB (z := z) (e := e) (m2 := m) hb ⟨rfl, hI⟩) rfl rfl
end Go.Ab
end
section
set_option linter.all false
open Go Go.Ab Go.Proofs Go.Proofs.YtaohepmbkepmiaaDoor
namespace Go.Ab
theorem bsz_le (l : Bs) : l.length ≤ (List.map (fun y : UInt8 => 1) l).sum := by
  induction l with
  | nil => exact Nat.le_refl _
  | cons c l ih => rw [List.map_cons, List.sum_cons, List.length_cons]; omega
theorem chunkStays (b0 t0 : Bool) (b t : Bs) (h : b.length + t.length ≤ 2 ^ 40) : m5 b0 b t0 t = some true := by
  have hb : (b ++ t).length < 2 ^ 60 := by rw [List.length_append]; omega
  unfold m5
  rcases m8_two b0 b t hb with ⟨⟨z, x, n, e⟩, h1, h2, h3, h4, h5, h6, h7⟩ | h1
  · rw [h1, Option.bind_some]
    dsimp only
    by_cases c : e = 8
    · subst c
      rcases h7 with h7 | ⟨rfl, rfl⟩
      · cases h7
      · rfl
    · rw [if_neg (by simpa using c), if_pos (.inr (by omega)), if_pos (.inr (by omega)), h2, Option.bind_some]
      dsimp only
      rw [if_pos (by simp), if_pos (by simp)]
      unfold m10
      rw [Option.bind_some, if_pos (by simp), if_pos (by simp; omega), if_pos (by simpa using h4), if_pos (by simpa using h6)]
      rcases h7 with rfl | ⟨rfl, rfl⟩
      · rfl
      · split
        · rfl
        · rfl
  · rw [h1]
    rfl
end Go.Ab
end
