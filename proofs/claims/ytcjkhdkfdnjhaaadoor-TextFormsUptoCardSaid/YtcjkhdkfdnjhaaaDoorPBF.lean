/- Plain laws over loops and numbers, for the laws behind the printed functions. -/
import Derived.Test.YtcjkhdkfdnjhaaaDoorAb36
set_option linter.unusedVariables false
set_option linter.unusedSimpArgs false
set_option linter.unnecessarySimpa false
namespace Go.Ab
open Go

theorem w64m (x : Int) : w64 x = (x + 9223372036854775808) % 18446744073709551616 - 9223372036854775808 := by
  unfold w64
  have := Int.emod_nonneg (x + 9223372036854775808) (show (18446744073709551616 : Int) ≠ 0 by decide)
  simp [IntKind.wrap, IntKind.min, IntKind.max, IntKind.bits, IntKind.signed] <;> omega
theorem wu64m (x : Int) : wu64 x = x % 18446744073709551616 := by
  unfold wu64
  simp [IntKind.wrap, IntKind.min, IntKind.max, IntKind.bits, IntKind.signed] <;> omega

/-- a loop with something that holds at its head, and something that gets less -/
theorem iter_post {σ β : Type} {f : σ → Option (σ ⊕ β)} (I : σ → Prop) (μ : σ → Nat) (Q : β → Prop)
    (h : ∀ s, I s → (∃ t, f s = some (.inl t) ∧ I t ∧ μ t < μ s) ∨ (∃ r, f s = some (.inr r) ∧ Q r)) (s : σ) (hs : I s) : ∃ r, iter f s = some r ∧ Q r := by
  have key : ∀ n s, μ s < n → I s → ∃ r, iter f s = some r ∧ Q r := by
    intro n
    induction n with
    | zero => intro s h0; omega
    | succ n ih =>
      intro s hn hs
      rcases h s hs with ⟨t, ht, hI, hm⟩ | ⟨r, hr, hq⟩
      · rw [iter_l ht]; exact ih t (by omega) hI
      · exact ⟨r, iter_r hr, hq⟩
  exact key (μ s + 1) s (by omega) hs
/-- a loop that ends in one thing, whatever that is -/
theorem iter_to {σ β : Type} {f : σ → Option (σ ⊕ β)} (I : σ → Prop) (μ : σ → Nat) (X : Option β)
    (h : ∀ s, I s → (∃ t, f s = some (.inl t) ∧ I t ∧ μ t < μ s) ∨ f s = X.map .inr) (s : σ) (hs : I s) : iter f s = X := by
  have key : ∀ n s, μ s < n → I s → iter f s = X := by
    intro n
    induction n with
    | zero => intro s h0; omega
    | succ n ih =>
      intro s hn hs
      rcases h s hs with ⟨t, ht, hI, hm⟩ | hr
      · rw [iter_l ht]; exact ih t (by omega) hI
      · cases X with
        | none => exact iter_n hr
        | some r => exact iter_r hr
  exact key (μ s + 1) s (by omega) hs
end Go.Ab
