/- Typed readings of the evaluator's values; loops as limits of a step over plain data. -/
import Derived.Test.YteenmbcmgcnkmaaGreatDoorAb22
set_option linter.unusedVariables false
set_option linter.unusedSimpArgs false
namespace Go.Ab
open Go

abbrev Bs := List UInt8
/-- a text of bytes -/
def S (l : Bs) : ByteArray := ⟨l.toArray⟩
theorem mkS (l : Bs) : (ByteArray.mk l.toArray) = S l := rfl
theorem S_size (l : Bs) : (S l).size = l.length := by simp [S, ByteArray.size]
theorem S_get! (l : Bs) (i : Nat) : (S l).get! i = l.getD i 0 := by
  show (l.toArray)[i]! = l.getD i 0
  simp [List.getD_eq_getElem?_getD, getElem!_def]
  cases l[i]? <;> rfl
theorem S_toList (l : Bs) : (S l).data.toList = l := by simp [S]
theorem S_getD (l : Bs) (n : Nat) (d : UInt8) : (S l).data.getD n d = l.getD n d := by simp [S, Array.getD_eq_getD_getElem?, List.getD_eq_getElem?_getD]
theorem S_append (a b : Bs) : S a ++ S b = S (a ++ b) := by
  apply ByteArray.ext
  simp [S]
theorem S_extract (l : Bs) (a b : Nat) : (S l).extract a b = S ((l.take b).drop a) := by
  apply ByteArray.ext
  simp [S, ByteArray.data_extract, List.extract_eq_take_drop, List.drop_take]
theorem S_toL (l : Bs) : (S l).toList = l := by
  have key : ∀ (n i : Nat) (r : Bs), l.length - i = n → ByteArray.toList.loop (S l) i r = r.reverse ++ l.drop i := by
    intro n
    induction n with
    | zero =>
      intro i r h
      unfold ByteArray.toList.loop
      rw [if_neg (by rw [S_size]; omega), List.drop_eq_nil_of_le (by omega), List.append_nil]
    | succ n ih =>
      intro i r h
      unfold ByteArray.toList.loop
      have hi : i < l.length := by omega
      rw [if_pos (by rw [S_size]; omega), ih (i + 1) _ (by omega), S_get!, List.drop_eq_getElem_cons hi]
      simp [List.getD_eq_getElem?_getD, hi]
  have := key l.length 0 [] (by omega)
  simpa [ByteArray.toList] using this

/-! ### loops over plain data -/
section
variable {σ β : Type}
def iterN (n : Nat) (f : σ → Option (σ ⊕ β)) (s : σ) : Option β := match n with
  | 0 => none
  | n + 1 => match f s with
    | some (.inl t) => iterN n f t
    | some (.inr r) => some r
    | none => none
theorem iterN_le {f : σ → Option (σ ⊕ β)} : ∀ {k k' : Nat} {s : σ} {r : β}, k ≤ k' → iterN k f s = some r → iterN k' f s = some r := by
  intro k
  induction k with
  | zero => intro k' s r _ h; simp [iterN] at h
  | succ k ih =>
    intro k' s r hk h
    obtain ⟨k', rfl⟩ : ∃ m, k' = m + 1 := ⟨k' - 1, by omega⟩
    simp only [iterN] at h ⊢
    cases hf : f s with
    | none => rw [hf] at h; simp at h
    | some x =>
      rw [hf] at h
      cases x with
      | inl t => exact ih (by omega) h
      | inr b => exact h
noncomputable def iter (f : σ → Option (σ ⊕ β)) (s : σ) : Option β := limit (fun k x => iterN k f x) s
theorem iter_some {f : σ → Option (σ ⊕ β)} {s : σ} {r : β} : iter f s = some r ↔ ∃ k, iterN k f s = some r :=
  limit_some (F := fun k x => iterN k f x) fun k k' x r hk h => iterN_le hk h
theorem iter_eq (f : σ → Option (σ ⊕ β)) (s : σ) : iter f s = match f s with | some (.inl t) => iter f t | some (.inr r) => some r | none => none := by
  apply option_ext
  intro r
  rw [iter_some]
  constructor
  · rintro ⟨k, hk⟩
    cases k with
    | zero => simp [iterN] at hk
    | succ k =>
      simp only [iterN] at hk
      cases hx : f s with
      | none => rw [hx] at hk; simp at hk
      | some z =>
        rw [hx] at hk
        cases z with
        | inl z => exact iter_some.2 ⟨k, hk⟩
        | inr z => exact hk
  · intro h
    cases hx : f s with
    | none => rw [hx] at h; simp at h
    | some z =>
      rw [hx] at h
      cases z with
      | inl z => obtain ⟨k, hk⟩ := iter_some.1 h; exact ⟨k + 1, by simp only [iterN, hx]; exact hk⟩
      | inr z => exact ⟨1, by simp only [iterN, hx]; exact h⟩
theorem iter_l {f : σ → Option (σ ⊕ β)} {s t : σ} (h : f s = some (.inl t)) : iter f s = iter f t := by rw [iter_eq, h]
theorem iter_r {f : σ → Option (σ ⊕ β)} {s : σ} {r : β} (h : f s = some (.inr r)) : iter f s = some r := by rw [iter_eq, h]
theorem iter_n {f : σ → Option (σ ⊕ β)} {s : σ} (h : f s = none) : iter f s = none := by rw [iter_eq, h]
end

/-- one round, what it ends in told by what comes behind the loop -/
def stepE {γ : Type} (K : Option (Ex × St) → Option γ) (a : Option (X ⊕ (Ex × St))) : Option (X ⊕ γ) := match a with
  | some (.inl x) => some (.inl x)
  | some (.inr r) => (K (some r)).map .inr
  | none => none
theorem stepE_l {γ : Type} (K : Option (Ex × St) → Option γ) (x : X) : stepE K (some (.inl x)) = some (.inl x) := rfl
theorem stepE_r {γ : Type} (K : Option (Ex × St) → Option γ) (r : Ex × St) : stepE K (some (.inr r)) = (K (some r)).map .inr := rfl
theorem stepE_n {γ : Type} (K : Option (Ex × St) → Option γ) : stepE K none = none := rfl
def sm {σ τ β γ : Type} (e : σ → τ) (d : β → γ) : σ ⊕ β → τ ⊕ γ := fun x => match x with | .inl a => .inl (e a) | .inr b => .inr (d b)
theorem mi {σ τ β γ : Type} {a : Option γ} {b : Option β} {d : β → γ} {e : σ → τ} (h : a = b.map d) : a.map Sum.inr = (b.map Sum.inr).map (sm e d) := by
  subst h
  cases b <;> rfl

theorem it_sim {σ β γ : Type} {K : Option (Ex × St) → Option γ} (hK : K none = none) {d : β → γ} {G : X → Option (X ⊕ (Ex × St))} {enc : σ → X} {step : σ → Option (σ ⊕ β)}
    (h : ∀ s, stepE K (G (enc s)) = (step s).map (sm enc d)) (s : σ) : K (itW G (enc s)) = (iter step s).map d := by
  have one : ∀ n s r, itN n G (enc s) = some r → K (some r) = (iter step s).map d := by
    intro n
    induction n with
    | zero => intro s r hr; simp [itN] at hr
    | succ n ih =>
      intro s r hr
      have h1 := h s
      simp only [itN] at hr
      cases hx : G (enc s) with
      | none => rw [hx] at hr; simp at hr
      | some z =>
        rw [hx] at hr h1
        cases z with
        | inl z =>
          cases hs : step s with
          | none => rw [hs] at h1; simp [stepE] at h1
          | some q =>
            rw [hs] at h1
            cases q with
            | inl t =>
              simp only [stepE, Option.map_some, sm, Option.some.injEq, Sum.inl.injEq] at h1
              subst h1
              rw [iter_l hs]
              exact ih t r hr
            | inr b => simp [stepE, sm] at h1
        | inr z =>
          simp only [Option.some.injEq] at hr
          subst hr
          cases hk : K (some z) with
          | none =>
            rw [stepE_r, hk] at h1
            cases hs : step s with
            | none => rw [iter_n hs]; rfl
            | some q => rw [hs] at h1; simp at h1
          | some c =>
            rw [stepE_r, hk] at h1
            cases hs : step s with
            | none => rw [hs] at h1; simp at h1
            | some q =>
              rw [hs] at h1
              cases q with
              | inl t => simp [sm] at h1
              | inr b =>
                simp only [Option.map_some, sm, Option.some.injEq, Sum.inr.injEq] at h1
                subst h1
                rw [iter_r hs]; rfl
  cases hw : itW G (enc s) with
  | some r =>
    obtain ⟨n, hn⟩ := itW_some.1 hw
    exact one n s r hn
  | none =>
    rw [hK]
    cases hi : iter step s with
    | none => rfl
    | some b =>
      exfalso
      obtain ⟨n, hn⟩ := iter_some.1 hi
      clear hi one
      induction n generalizing s with
      | zero => simp [iterN] at hn
      | succ n ih =>
        have h1 := h s
        simp only [iterN] at hn
        rw [itW_eq] at hw
        cases hs : step s with
        | none => rw [hs] at hn; simp at hn
        | some q =>
          rw [hs] at hn h1
          cases hx : G (enc s) with
          | none => rw [hx] at h1; simp [stepE] at h1
          | some z =>
            rw [hx] at h1 hw
            cases z with
            | inr z => simp at hw
            | inl z =>
              cases q with
              | inr b => simp [stepE, sm] at h1
              | inl t =>
                simp only [stepE, Option.map_some, sm, Option.some.injEq, Sum.inl.injEq] at h1
                subst h1
                exact ih t hw hn
end Go.Ab
