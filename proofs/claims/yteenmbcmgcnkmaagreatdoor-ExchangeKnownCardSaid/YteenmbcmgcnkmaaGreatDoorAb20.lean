/- More rounds give the same answer; the limit, and its equation. -/
import Derived.Test.YteenmbcmgcnkmaaGreatDoorAb19
set_option linter.unusedVariables false
set_option linter.unusedSimpArgs false
namespace Go.Ab
open Go

def CLe (c c' : Caller) : Prop := ∀ f a h r, c f a h = some r → c' f a h = some r
def ILe (i i' : It) : Prop := ∀ (g g' : X → Option (X ⊕ (Ex × St))), (∀ x y, g x = some y → g' x = some y) → ∀ x y, i g x = some y → i' g' x = some y

theorem viaCall_le {keep : Bool} {c c' : List V1 → Heap → Option (AV × Heap)} (h : ∀ a h r, c a h = some r → c' a h = some r) {args : List V1} {hp : Heap} {r : AV × Heap} (hr : viaCall keep c args hp = some r) : viaCall keep c' args hp = some r := by
  simp only [viaCall, Option.bind_eq_bind, Option.bind_eq_some_iff] at hr ⊢
  obtain ⟨a, h1, b, h2, d, h3, rest⟩ := hr
  exact ⟨a, h1, b, h2, d, h _ _ _ h3, rest⟩

section
variable {E : Env} {c c' : Caller} {i i' : It}

theorem stepA_le (h : CLe c c') {s : Nat → AV} {hp : Heap} {o : Oper} {r : AV × Heap} (hr : stepA E c s hp o = some r) : stepA E c' s hp o = some r := by
  unfold stepA at hr ⊢
  split at hr
  · rename_i cl
    split at hr
    · rename_i f hc
      simp only [opCall, hc, Option.bind_eq_some_iff] at hr ⊢
      obtain ⟨args, hargs, hr⟩ := hr
      refine ⟨args, hargs, ?_⟩
      split at hr
      · split at hr
        · rename_i hno
          rw [if_pos hno]
          split at hr
          · split at hr
            · exact hr
            · exact viaCall_le (h _) hr
          · exact hr
        · cases hr
      · split at hr
        · exact viaCall_le (h _) hr
        · cases hr
      · cases hr
    · exact hr
  · exact hr

theorem runOps_le (h : CLe c c') {all : List Oper} : ∀ {os : List Oper} {st st' : St}, runOps E c all os st = some st' → runOps E c' all os st = some st' := by
  intro os
  induction os with
  | nil => intro st st' hr; exact hr
  | cons o os ih =>
    intro st st' hr
    simp only [runOps] at hr ⊢
    cases hw : wantA all st.sl o with
    | none => rw [hw] at hr; simp at hr
    | some b =>
      rw [hw] at hr
      cases b with
      | false => exact ih hr
      | true =>
        simp only at hr ⊢
        cases hs : stepA E c st.sl st.hp o with
        | none => rw [hs] at hr; simp at hr
        | some r => rw [hs] at hr; rw [stepA_le h hs]; exact ih hr

theorem stepR_le (h : CLe c c') {all : List Oper} {o : Oper} {st st' : St} (hr : stepR E c all o st = some st') : stepR E c' all o st = some st' := by
  simp only [stepR, Option.map_eq_some_iff] at hr ⊢
  obtain ⟨r, hr, rfl⟩ := hr
  refine ⟨r, ?_, rfl⟩
  unfold coreA at hr ⊢
  cases hw : wantA all (restr (lookL all o) st.sl) o with
  | none => rw [hw] at hr; cases hr
  | some b => rw [hw] at hr; cases b with
    | false => exact hr
    | true => exact stepA_le h hr

theorem runD_le (h : CLe c c') {all : List Oper} : ∀ {os : List Oper} {st : St} {r : St × List Foot}, runD E c all os st = some r → runD E c' all os st = some r := by
  intro os
  induction os with
  | nil => intro st r hr; exact hr
  | cons o os ih =>
    intro st r hr
    simp only [runD, Option.bind_eq_some_iff, Option.map_eq_some_iff] at hr ⊢
    obtain ⟨st1, h1, r1, h2, rfl⟩ := hr
    exact ⟨st1, stepR_le h h1, r1, ih h2, rfl⟩

theorem runDraw_le (h : CLe c c') {ops : List Oper} {st st' : St} (hr : runDraw E c ops st = some st') : runDraw E c' ops st = some st' := by
  simp only [runDraw, Option.bind_eq_some_iff] at hr ⊢
  obtain ⟨r, h1, h2⟩ := hr
  exact ⟨r, runD_le h h1, h2⟩

theorem den_le (h : CLe c c') (hi : ILe i i') {f : FuncId} {m : Nat} : ∀ (code : Code) (fr : Option Nat) (st : St) (r : Ex × St), den E f m c i code fr st = some r → den E f m c' i' code fr st = some r := by
  intro code
  induction code with
  | region id ops draw =>
    intro fr st r hr
    cases fr with
    | some l => cases draw <;> simp [den] at hr
    | none =>
      cases draw with
      | false =>
        simp only [den, Option.map_eq_some_iff] at hr ⊢
        obtain ⟨q, hq, rfl⟩ := hr
        exact ⟨q, runOps_le h hq, rfl⟩
      | true =>
        simp only [den] at hr ⊢
        split at hr
        · rename_i hd
          rw [if_pos hd]
          simp only [Option.map_eq_some_iff] at hr ⊢
          obtain ⟨q, hq, rfl⟩ := hr
          exact ⟨q, runDraw_le h hq, rfl⟩
        · cases hr
  | seq x y ihx ihy =>
    have key : ∀ (fr : Option Nat) (st : St) (r : Ex × St) (p : Option (Ex × St)) (p' : Option (Ex × St)), (∀ q, p = some q → p' = some q) →
        (match p with | some (.normal, st') => den E f m c i y none st' | r => r) = some r → (match p' with | some (.normal, st') => den E f m c' i' y none st' | r => r) = some r := by
      intro fr st r p p' hp hr
      cases p with
      | none => simp at hr
      | some q =>
        rw [hp q rfl]
        obtain ⟨ex, st1⟩ := q
        cases ex with
        | normal => exact ihy _ _ _ hr
        | _ => exact hr
    intro fr st r hr
    cases fr with
    | none =>
      simp only [den] at hr ⊢
      have := key none st r (den E f m c i x none st) (den E f m c' i' x none st) (fun q hq => ihx _ _ _ hq) (by rw [← hr]; cases den E f m c i x none st with | none => rfl | some q => obtain ⟨e, s⟩ := q; cases e <;> rfl)
      rw [← this]
      cases den E f m c' i' x none st with
      | none => rfl
      | some q => obtain ⟨e, s⟩ := q; cases e <;> rfl
    | some l =>
      simp only [den] at hr ⊢
      split at hr
      · rename_i hl
        rw [if_pos hl]
        have := key none st r (den E f m c i x (some l) st) (den E f m c' i' x (some l) st) (fun q hq => ihx _ _ _ hq) (by rw [← hr]; cases den E f m c i x (some l) st with | none => rfl | some q => obtain ⟨e, s⟩ := q; cases e <;> rfl)
        rw [← this]
        cases den E f m c' i' x (some l) st with
        | none => rfl
        | some q => obtain ⟨e, s⟩ := q; cases e <;> rfl
      · rename_i hl
        rw [if_neg hl]
        exact ihy _ _ _ hr
  | cond o x y ihx ihy =>
    intro fr st r hr
    cases fr with
    | some l => simp [den] at hr
    | none =>
      simp only [den] at hr ⊢
      split at hr
      · rename_i b hb
        cases b
        · exact ihy _ _ _ hr
        · exact ihx _ _ _ hr
      · cases hr
  | block id x ih =>
    intro fr st r hr
    cases fr with
    | some l => simp [den] at hr
    | none =>
      simp only [den] at hr ⊢
      cases hd : den E f m c i x none st with
      | none => rw [hd] at hr; simp at hr
      | some q => rw [hd] at hr; rw [ih _ _ _ hd]; exact hr
  | loop x ih =>
    intro fr st r hr
    cases fr with
    | some l => simp [den] at hr
    | none =>
      simp only [den, Option.bind_eq_some_iff] at hr ⊢
      obtain ⟨q, hq, hr⟩ := hr
      refine ⟨q, hq, hi _ _ ?_ _ _ hr⟩
      rintro ⟨fr, vs, h0⟩ y hy
      simp only at hy ⊢
      cases hd : den E f m c i x none ⟨slots (E.live f ((firstRegion x).getD 0)) vs, h0⟩ with
      | none => rw [hd] at hy; simp at hy
      | some q => rw [hd] at hy; rw [ih _ _ _ hd]; exact hy
  | scope x ih =>
    intro fr st r hr
    cases fr with
    | some l => simp [den] at hr
    | none =>
      simp only [den, Option.bind_eq_some_iff] at hr ⊢
      obtain ⟨q, hq, hr⟩ := hr
      refine ⟨q, hq, hi _ _ ?_ _ _ hr⟩
      rintro ⟨fr, vs, h0⟩ y hy
      simp only at hy ⊢
      cases hd : den E f m c i x fr ⟨slots (E.live f ((firstRegion x).getD 0)) vs, h0⟩ with
      | none => rw [hd] at hy; simp at hy
      | some q => rw [hd] at hy; rw [ih _ _ _ hd]; exact hy
  | skip => intro fr st r hr; cases fr <;> first | exact hr | simp [den] at hr
  | label l => intro fr st r hr; cases fr <;> first | exact hr | simp [den] at hr
  | exit l => intro fr st r hr; cases fr <;> first | exact hr | simp [den] at hr
  | goto l => intro fr st r hr; cases fr <;> first | exact hr | simp [den] at hr
  | ret => intro fr st r hr; cases fr <;> first | exact hr | simp [den] at hr
  | rangeFunc _ _ _ _ _ _ => intro fr st r hr; cases fr <;> simp [den] at hr
  | refuse _ => intro fr st r hr; cases fr <;> simp [den] at hr

theorem callBody_le (h : CLe c c') (hi : ILe i i') : CLe (callBody E c i) (callBody E c' i') := by
  intro f a hp r hr
  simp only [callBody] at hr ⊢
  split at hr
  · split at hr
    · rename_i body hb
      split at hr
      · rename_i hc
        rw [if_pos hc]
        have key : ∀ q, den E f hp.length c i body none ⟨slotsOf a, hp⟩ = some q → den E f hp.length c' i' body none ⟨slotsOf a, hp⟩ = some q := fun q hq => den_le h hi _ _ _ _ hq
        split at hr
        · rename_i st hd; rw [key _ hd]; exact hr
        · rename_i st hd; rw [key _ hd]; exact hr
        · cases hr
      · cases hr
    · cases hr
  · cases hr

theorem itN_le {k k' : Nat} (hk : k ≤ k') : ILe (itN k) (itN k') := by
  intro g g' hg
  induction k generalizing k' with
  | zero => intro x y h; simp [itN] at h
  | succ k ih =>
    intro x y h
    obtain ⟨k', rfl⟩ : ∃ j, k' = j + 1 := ⟨k' - 1, by omega⟩
    simp only [itN] at h ⊢
    cases hx : g x with
    | none => rw [hx] at h; simp at h
    | some z =>
      rw [hx] at h
      rw [hg _ _ hx]
      cases z with
      | inl z => exact ih (by omega) _ _ h
      | inr z => exact h

theorem callN_le {k k' : Nat} (hk : k ≤ k') : CLe (callN E k) (callN E k') := by
  induction k generalizing k' with
  | zero => intro f a hp r h; simp [callN] at h
  | succ k ih =>
    obtain ⟨k', rfl⟩ : ∃ j, k' = j + 1 := ⟨k' - 1, by omega⟩
    intro f a hp r h
    exact callBody_le (ih (by omega)) (itN_le (by omega)) f a hp r h

end

/-! ### the limit -/
open Classical in
noncomputable def limit {α β : Type} (F : Nat → α → Option β) (a : α) : Option β :=
  if h : ∃ k r, F k a = some r then some h.choose_spec.choose else none
theorem limit_some {α β : Type} {F : Nat → α → Option β} (hF : ∀ k k' a r, k ≤ k' → F k a = some r → F k' a = some r) {a : α} {r : β} : limit F a = some r ↔ ∃ k, F k a = some r := by
  classical
  unfold limit
  constructor
  · intro h
    split at h
    · rename_i hx
      cases h
      exact ⟨_, hx.choose_spec.choose_spec⟩
    · cases h
  · rintro ⟨k, hk⟩
    have hx : ∃ k r, F k a = some r := ⟨k, r, hk⟩
    rw [dif_pos hx]
    have h1 := hx.choose_spec.choose_spec
    have h2 := hF _ _ _ _ (Nat.le_max_left hx.choose k) h1
    have h3 := hF _ _ _ _ (Nat.le_max_right hx.choose k) hk
    rw [h2] at h3
    exact h3

noncomputable def callW (E : Env) : Caller := fun f a hp => limit (fun k (x : List V1 × Heap) => callN E k f x.1 x.2) (a, hp)
noncomputable def itW : It := fun g x => limit (fun k (x : X) => itN k g x) x

theorem callW_some {E : Env} {f : FuncId} {a : List V1} {hp : Heap} {r : AV × Heap} : callW E f a hp = some r ↔ ∃ k, callN E k f a hp = some r :=
  limit_some (F := fun k (x : List V1 × Heap) => callN E k f x.1 x.2) fun k k' x r hk h => callN_le hk _ _ _ _ h
theorem itW_some {g : X → Option (X ⊕ (Ex × St))} {x : X} {y : Ex × St} : itW g x = some y ↔ ∃ k, itN k g x = some y :=
  limit_some (F := fun k (x : X) => itN k g x) fun k k' x r hk h => itN_le hk g g (fun _ _ h => h) _ _ h

theorem option_ext {α : Type} {x y : Option α} (h : ∀ r, x = some r ↔ y = some r) : x = y := by
  cases x with
  | none => cases y with
    | none => rfl
    | some b => have := (h b).2 rfl; cases this
  | some a => exact ((h a).1 rfl).symm

theorem itW_eq (g : X → Option (X ⊕ (Ex × St))) (x : X) : itW g x = match g x with | some (.inl y) => itW g y | some (.inr r) => some r | none => none := by
  apply option_ext
  intro r
  rw [itW_some]
  constructor
  · rintro ⟨k, hk⟩
    cases k with
    | zero => simp [itN] at hk
    | succ k =>
      simp only [itN] at hk
      cases hx : g x with
      | none => rw [hx] at hk; simp at hk
      | some z =>
        rw [hx] at hk
        cases z with
        | inl z => exact itW_some.2 ⟨k, hk⟩
        | inr z => exact hk
  · intro h
    cases hx : g x with
    | none => rw [hx] at h; simp at h
    | some z =>
      rw [hx] at h
      cases z with
      | inl z => obtain ⟨k, hk⟩ := itW_some.1 h; exact ⟨k + 1, by simp only [itN, hx]; exact hk⟩
      | inr z => exact ⟨1, by simp only [itN, hx]; exact h⟩

/-! ### what the limit does, some number of rounds does -/
section
variable {E : Env}

theorem viaCall_cont {keep : Bool} {f : FuncId} {args : List V1} {hp : Heap} {r : AV × Heap} (h : viaCall keep (callW E f) args hp = some r) : ∃ k, viaCall keep (callN E k f) args hp = some r := by
  simp only [viaCall, Option.bind_eq_bind, Option.bind_eq_some_iff] at h ⊢
  obtain ⟨a, h1, b, h2, d, h3, rest⟩ := h
  obtain ⟨k, hk⟩ := callW_some.1 h3
  exact ⟨k, a, h1, b, h2, d, hk, rest⟩

theorem stepA_cont {s : Nat → AV} {hp : Heap} {o : Oper} {r : AV × Heap} (hr : stepA E (callW E) s hp o = some r) : ∃ k, stepA E (callN E k) s hp o = some r := by
  unfold stepA at hr ⊢
  split at hr
  · rename_i cl hcl
    split at hr
    · rename_i f hc
      simp only [opCall, hc, Option.bind_eq_some_iff] at hr ⊢
      obtain ⟨args, hargs, hr⟩ := hr
      split at hr
      · rename_i g fi ca hf
        split at hr
        · rename_i hno
          cases he : entersB E.P g with
          | none => rw [he] at hr; exact ⟨0, args, hargs, by simp only [hf, hno, if_true]; exact hr⟩
          | some b =>
            cases b with
            | false => rw [he] at hr; exact ⟨0, args, hargs, by simp only [hf, hno, if_true]; exact hr⟩
            | true =>
              rw [he] at hr
              cases hp' : E.prim g with
              | some p => rw [hp'] at hr; exact ⟨0, args, hargs, by simp only [hf, hno, if_true]; exact hr⟩
              | none =>
                rw [hp'] at hr
                obtain ⟨k, hk⟩ := viaCall_cont hr
                exact ⟨k, args, hargs, by simp only [hf, hno, if_true]; exact hk⟩
        · cases hr
      · rename_i g caps hf
        cases he : entersB E.P g with
        | none => rw [he] at hr; cases hr
        | some b =>
          cases b with
          | false => rw [he] at hr; cases hr
          | true =>
            rw [he] at hr
            obtain ⟨k, hk⟩ := viaCall_cont hr
            exact ⟨k, args, hargs, by simp only [hf]; exact hk⟩
      · cases hr
    · exact ⟨0, hr⟩
  · exact ⟨0, hr⟩

theorem runOps_cont {all : List Oper} : ∀ {os : List Oper} {st st' : St}, runOps E (callW E) all os st = some st' → ∃ k, runOps E (callN E k) all os st = some st' := by
  intro os
  induction os with
  | nil => intro st st' hr; exact ⟨0, hr⟩
  | cons o os ih =>
    intro st st' hr
    simp only [runOps] at hr ⊢
    cases hw : wantA all st.sl o with
    | none => rw [hw] at hr; simp at hr
    | some b =>
      rw [hw] at hr
      cases b with
      | false => exact ih hr
      | true =>
        simp only at hr ⊢
        cases hs : stepA E (callW E) st.sl st.hp o with
        | none => rw [hs] at hr; simp at hr
        | some r =>
          rw [hs] at hr
          obtain ⟨k1, h1⟩ := stepA_cont hs
          obtain ⟨k2, h2⟩ := ih hr
          refine ⟨max k1 k2, ?_⟩
          rw [stepA_le (callN_le (Nat.le_max_left k1 k2)) h1]
          exact runOps_le (callN_le (Nat.le_max_right k1 k2)) h2

theorem stepR_cont {all : List Oper} {o : Oper} {st st' : St} (hr : stepR E (callW E) all o st = some st') : ∃ k, stepR E (callN E k) all o st = some st' := by
  simp only [stepR, Option.map_eq_some_iff] at hr ⊢
  obtain ⟨r, hr, rfl⟩ := hr
  unfold coreA at hr ⊢
  cases hw : wantA all (restr (lookL all o) st.sl) o with
  | none => rw [hw] at hr; cases hr
  | some b => rw [hw] at hr; cases b with
    | false => exact ⟨0, r, hr, rfl⟩
    | true =>
      obtain ⟨k, hk⟩ := stepA_cont hr
      exact ⟨k, r, hk, rfl⟩

theorem runD_cont {all : List Oper} : ∀ {os : List Oper} {st : St} {r : St × List Foot}, runD E (callW E) all os st = some r → ∃ k, runD E (callN E k) all os st = some r := by
  intro os
  induction os with
  | nil => intro st r hr; exact ⟨0, hr⟩
  | cons o os ih =>
    intro st r hr
    simp only [runD, Option.bind_eq_some_iff, Option.map_eq_some_iff] at hr ⊢
    obtain ⟨st1, h1, r1, h2, rfl⟩ := hr
    obtain ⟨k1, h1⟩ := stepR_cont h1
    obtain ⟨k2, h2⟩ := ih h2
    exact ⟨max k1 k2, st1, stepR_le (callN_le (Nat.le_max_left k1 k2)) h1, r1, runD_le (callN_le (Nat.le_max_right k1 k2)) h2, rfl⟩

theorem runDraw_cont {ops : List Oper} {st st' : St} (hr : runDraw E (callW E) ops st = some st') : ∃ k, runDraw E (callN E k) ops st = some st' := by
  simp only [runDraw, Option.bind_eq_some_iff] at hr ⊢
  obtain ⟨r, h1, h2⟩ := hr
  obtain ⟨k, hk⟩ := runD_cont h1
  exact ⟨k, r, hk, h2⟩

theorem den_up {f : FuncId} {m k k' : Nat} (hk : k ≤ k') {code : Code} {fr : Option Nat} {st : St} {r : Ex × St} (h : den E f m (callN E k) (itN k) code fr st = some r) : den E f m (callN E k') (itN k') code fr st = some r :=
  den_le (callN_le hk) (itN_le hk) _ _ _ _ h

theorem it_cont {gW : X → Option (X ⊕ (Ex × St))} {gN : Nat → X → Option (X ⊕ (Ex × St))} (hm : ∀ k k' x y, k ≤ k' → gN k x = some y → gN k' x = some y) (hc : ∀ x y, gW x = some y → ∃ k, gN k x = some y) {x : X} {y : Ex × St}
    (h : itW gW x = some y) : ∃ k, itN k (gN k) x = some y := by
  obtain ⟨n, hn⟩ := itW_some.1 h
  clear h
  induction n generalizing x with
  | zero => simp [itN] at hn
  | succ n ih =>
    simp only [itN] at hn
    cases hx : gW x with
    | none => rw [hx] at hn; simp at hn
    | some z =>
      rw [hx] at hn
      obtain ⟨k1, h1⟩ := hc _ _ hx
      cases z with
      | inl z =>
        obtain ⟨k2, h2⟩ := ih hn
        refine ⟨max k1 k2 + 1, ?_⟩
        have h1' := hm _ (max k1 k2 + 1) _ _ (by omega) h1
        simp only [itN, h1']
        exact itN_le (by omega) (gN k2) (gN (max k1 k2 + 1)) (fun x y h => hm _ _ _ _ (by omega) h) _ _ h2
      | inr z =>
        refine ⟨k1 + 1, ?_⟩
        have h1' := hm _ (k1 + 1) _ _ (by omega) h1
        simp only [itN, h1']
        exact hn

theorem den_cont {f : FuncId} {m : Nat} : ∀ (code : Code) (fr : Option Nat) (st : St) (r : Ex × St), den E f m (callW E) itW code fr st = some r → ∃ k, den E f m (callN E k) (itN k) code fr st = some r := by
  intro code
  induction code with
  | region id ops draw =>
    intro fr st r hr
    cases fr with
    | some l => cases draw <;> simp [den] at hr
    | none =>
      cases draw with
      | false =>
        simp only [den, Option.map_eq_some_iff] at hr ⊢
        obtain ⟨q, hq, rfl⟩ := hr
        obtain ⟨k, hk⟩ := runOps_cont hq
        exact ⟨k, q, hk, rfl⟩
      | true =>
        simp only [den] at hr ⊢
        split at hr
        · rename_i hd
          simp only [hd, if_true]
          simp only [Option.map_eq_some_iff] at hr ⊢
          obtain ⟨q, hq, rfl⟩ := hr
          obtain ⟨k, hk⟩ := runDraw_cont hq
          exact ⟨k, q, hk, rfl⟩
        · cases hr
  | seq x y ihx ihy =>
    have key : ∀ (fr : Option Nat) (st : St) (r : Ex × St), (match den E f m (callW E) itW x fr st with | some (.normal, st') => den E f m (callW E) itW y none st' | r => r) = some r →
        ∃ k, (match den E f m (callN E k) (itN k) x fr st with | some (.normal, st') => den E f m (callN E k) (itN k) y none st' | r => r) = some r := by
      intro fr st r hr
      cases hd : den E f m (callW E) itW x fr st with
      | none => rw [hd] at hr; simp at hr
      | some q =>
        rw [hd] at hr
        obtain ⟨k1, h1⟩ := ihx _ _ _ hd
        obtain ⟨ex, st1⟩ := q
        cases ex with
        | normal =>
          obtain ⟨k2, h2⟩ := ihy _ _ _ hr
          refine ⟨max k1 k2, ?_⟩
          rw [den_up (Nat.le_max_left k1 k2) h1]
          exact den_up (Nat.le_max_right k1 k2) h2
        | exit i => exact ⟨k1, by rw [h1]; exact hr⟩
        | goto i => exact ⟨k1, by rw [h1]; exact hr⟩
        | ret => exact ⟨k1, by rw [h1]; exact hr⟩
    intro fr st r hr
    cases fr with
    | none =>
      simp only [den] at hr ⊢
      exact key none st r hr
    | some l =>
      simp only [den] at hr ⊢
      split at hr
      · rename_i hl
        simp only [hl, if_true]
        exact key (some l) st r hr
      · rename_i hl
        simp only [hl, if_false]
        exact ihy _ _ _ hr
  | cond o x y ihx ihy =>
    intro fr st r hr
    cases fr with
    | some l => simp [den] at hr
    | none =>
      simp only [den] at hr ⊢
      split at hr
      · rename_i b hb
        cases b
        · exact ihy _ _ _ hr
        · exact ihx _ _ _ hr
      · cases hr
  | block id x ih =>
    intro fr st r hr
    cases fr with
    | some l => simp [den] at hr
    | none =>
      simp only [den] at hr ⊢
      cases hd : den E f m (callW E) itW x none st with
      | none => rw [hd] at hr; simp at hr
      | some q =>
        rw [hd] at hr
        obtain ⟨k, hk⟩ := ih _ _ _ hd
        exact ⟨k, by rw [hk]; exact hr⟩
  | loop x ih =>
    intro fr st r hr
    cases fr with
    | some l => simp [den] at hr
    | none =>
      simp only [den, Option.bind_eq_some_iff] at hr ⊢
      obtain ⟨q, hq, hr⟩ := hr
      have := it_cont (gN := fun k (y : X) =>
        match den E f m (callN E k) (itN k) x none ⟨slots (E.live f ((firstRegion x).getD 0)) y.2.1, y.2.2⟩ with
        | some (.normal, st') => (canon m (E.live f ((firstRegion x).getD 0)) st').map fun (vs, h) => .inl (none, vs, h)
        | some r => some (.inr r)
        | none => none) (fun k k' y z hk h => by
          simp only at h ⊢
          cases hd : den E f m (callN E k) (itN k) x none ⟨slots (E.live f ((firstRegion x).getD 0)) y.2.1, y.2.2⟩ with
          | none => rw [hd] at h; simp at h
          | some q => rw [hd] at h; rw [den_up hk hd]; exact h)
        (fun y z h => by
          obtain ⟨fr, vs, h0⟩ := y
          simp only at h ⊢
          cases hd : den E f m (callW E) itW x none ⟨slots (E.live f ((firstRegion x).getD 0)) vs, h0⟩ with
          | none => rw [hd] at h; simp at h
          | some q =>
            rw [hd] at h
            obtain ⟨k, hk⟩ := ih _ _ _ hd
            exact ⟨k, by rw [hk]; exact h⟩) hr
      obtain ⟨k, hk⟩ := this
      exact ⟨k, q, hq, hk⟩
  | scope x ih =>
    intro fr st r hr
    cases fr with
    | some l => simp [den] at hr
    | none =>
      simp only [den, Option.bind_eq_some_iff] at hr ⊢
      obtain ⟨q, hq, hr⟩ := hr
      have := it_cont (gN := fun k (y : X) =>
        match den E f m (callN E k) (itN k) x y.1 ⟨slots (E.live f ((firstRegion x).getD 0)) y.2.1, y.2.2⟩ with
        | some (.goto l, st') => if hasLabel x l then (canon m (E.live f ((firstRegion x).getD 0)) st').map fun (vs, h) => .inl (some l, vs, h) else some (.inr (.goto l, st'))
        | some r => some (.inr r)
        | none => none) (fun k k' y z hk h => by
          simp only at h ⊢
          cases hd : den E f m (callN E k) (itN k) x y.1 ⟨slots (E.live f ((firstRegion x).getD 0)) y.2.1, y.2.2⟩ with
          | none => rw [hd] at h; simp at h
          | some q => rw [hd] at h; rw [den_up hk hd]; exact h)
        (fun y z h => by
          obtain ⟨fr, vs, h0⟩ := y
          simp only at h ⊢
          cases hd : den E f m (callW E) itW x fr ⟨slots (E.live f ((firstRegion x).getD 0)) vs, h0⟩ with
          | none => rw [hd] at h; simp at h
          | some q =>
            rw [hd] at h
            obtain ⟨k, hk⟩ := ih _ _ _ hd
            exact ⟨k, by rw [hk]; exact h⟩) hr
      obtain ⟨k, hk⟩ := this
      exact ⟨k, q, hq, hk⟩
  | skip => intro fr st r hr; exact ⟨0, by cases fr <;> first | exact hr | simp [den] at hr⟩
  | label l => intro fr st r hr; exact ⟨0, by cases fr <;> first | exact hr | simp [den] at hr⟩
  | exit l => intro fr st r hr; exact ⟨0, by cases fr <;> first | exact hr | simp [den] at hr⟩
  | goto l => intro fr st r hr; exact ⟨0, by cases fr <;> first | exact hr | simp [den] at hr⟩
  | ret => intro fr st r hr; exact ⟨0, by cases fr <;> first | exact hr | simp [den] at hr⟩
  | rangeFunc _ _ _ _ _ _ => intro fr st r hr; cases fr <;> simp [den] at hr
  | refuse _ => intro fr st r hr; cases fr <;> simp [den] at hr

theorem callW_eq (f : FuncId) (args : List V1) (hp : Heap) : callW E f args hp = callBody E (callW E) itW f args hp := by
  apply option_ext
  intro r
  constructor
  · intro h
    obtain ⟨k, hk⟩ := callW_some.1 h
    cases k with
    | zero => simp [callN] at hk
    | succ k =>
      exact callBody_le (c := callN E k) (i := itN k) (fun f a h r hr => callW_some.2 ⟨k, hr⟩) (fun g g' hg x y hy => itW_some.2 ⟨k, itN_le (Nat.le_refl k) g g' hg _ _ hy⟩) _ _ _ _ hk
  · intro h
    rw [callW_some]
    simp only [callBody] at h
    split at h
    · rename_i fn hf
      split at h
      · rename_i body hb
        split at h
        · rename_i hc
          have key : ∀ q, den E f hp.length (callW E) itW body none ⟨slotsOf args, hp⟩ = some q → ∃ k, den E f hp.length (callN E k) (itN k) body none ⟨slotsOf args, hp⟩ = some q := fun q hq => den_cont _ _ _ _ hq
          split at h
          · rename_i st hd
            obtain ⟨k, hk⟩ := key _ hd
            refine ⟨k + 1, ?_⟩
            simp only [callN, callBody, hf, hb, hc, if_true, hk]
            exact h
          · rename_i st hd
            obtain ⟨k, hk⟩ := key _ hd
            refine ⟨k + 1, ?_⟩
            simp only [callN, callBody, hf, hb, hc, if_true, hk]
            exact h
          · cases h
        · cases h
      · cases h
    · cases h

theorem callW_ok (he : EnvOk E) (g : FuncId) : CallP E g (callW E g) := by
  intro args hp v h' h
  obtain ⟨k, hk⟩ := callW_some.1 h
  exact callN_ok he k g args hp v h' hk

end
end Go.Ab
