/- What an operation reads of the slots; so a drawn region without floating loads is run in the text's order, with all slots. -/
import Derived.Test.YteenmbcmgcnkmaaGreatDoorAb21
set_option linter.unusedVariables false
set_option linter.unusedSimpArgs false
namespace Go.Ab
open Go

section
variable {E : Env} {s s' : Nat → AV}
theorem mapM_ev {l : List Operand} (h : ∀ x ∈ l, ev s' x = ev s x) : l.mapM (ev1 s') = l.mapM (ev1 s) := by
  induction l with
  | nil => rfl
  | cons x l ih =>
    have h1 : ev1 s' x = ev1 s x := by simp only [ev1, h x (List.mem_cons_self ..)]
    simp only [List.mapM_cons, h1, ih fun y hy => h y (List.mem_cons_of_mem _ hy)]
theorem mapM_evC {α : Type} {l : List Operand} {f : C → Option α} (h : ∀ x ∈ l, ev s' x = ev s x) : l.mapM (fun c => (evC s' c).bind f) = l.mapM (fun c => (evC s c).bind f) := by
  induction l with
  | nil => rfl
  | cons x l ih =>
    have h1 : evC s' x = evC s x := by simp only [evC, h x (List.mem_cons_self ..)]
    simp only [List.mapM_cons, h1, ih fun y hy => h y (List.mem_cons_of_mem _ hy)]
theorem evParts_ev {l : List (Nat × Operand)} (h : ∀ x ∈ l, ev s' x.2 = ev s x.2) : evParts s' l = evParts s l := by
  unfold evParts
  induction l with
  | nil => rfl
  | cons x l ih =>
    have h1 : ev1 s' x.2 = ev1 s x.2 := by simp only [ev1, h x (List.mem_cons_self ..)]
    simp only [List.mapM_cons, h1, ih fun y hy => h y (List.mem_cons_of_mem _ hy)]
theorem mapM_fn {α β : Type} {l : List α} {f g : α → Option β} (h : ∀ x ∈ l, f x = g x) : l.mapM f = l.mapM g := by
  induction l with
  | nil => rfl
  | cons x l ih => simp only [List.mapM_cons, h x (List.mem_cons_self ..), ih fun y hy => h y (List.mem_cons_of_mem _ hy)]
theorem evI_ev {x : Operand} (h : ev s' x = ev s x) : evI s' x = evI s x := by simp only [evI, h]
theorem evB_ev {d : Nat} {x : Option Operand} (h : ∀ y, x = some y → ev s' y = ev s y) : evB s' d x = evB s d x := by
  cases x with
  | none => rfl
  | some y => simp only [evB, evI_ev (h y rfl)]
theorem cut_ev {hp : Heap} {sz : Nat} {x : C} {lo hi mx : Option Operand} (h1 : ∀ y, lo = some y → ev s' y = ev s y) (h2 : ∀ y, hi = some y → ev s' y = ev s y) (h3 : ∀ y, mx = some y → ev s' y = ev s y) :
    cutSlice s' hp sz x lo hi mx = cutSlice s hp sz x lo hi mx := by
  unfold cutSlice
  have a1 := fun d => evB_ev (d := d) h1
  have a2 := fun d => evB_ev (d := d) h2
  cases mx with
  | none => simp only [a1, a2]
  | some m =>
    have a3 := evI_ev (h3 m rfl)
    cases hi with
    | none => simp only [a1, a2, a3]; rfl
    | some hh =>
      have a4 := evI_ev (h2 hh rfl)
      simp only [a1, a2, a3]
      split <;> simp [a4]

theorem dop_ev {hp : Heap} {o : Oper} (h : ∀ x ∈ o.op.operands, ev s' x = ev s x) : dop E s' hp o = dop E s hp o := by
  cases hop : o.op
  all_goals rw [hop] at h
  all_goals try simp only [Op.operands, List.mem_toArray, List.mem_cons, List.not_mem_nil, or_false, forall_eq, forall_eq_or_imp] at h
  case move x => simp only [dop, hop, h]
  case assign x => simp only [dop, hop, h]
  case alloc t => simp only [dop, hop]
  case box t x => simp only [dop, hop, ev1, h]
  case load t x => simp only [dop, hop, evC, h]
  case nilCheck x => simp only [dop, hop, evC, h]
  case unOp a b x => simp only [dop, hop, h]
  case pick c a b => simp only [dop, hop, h]
  case binOp a b x y z => simp only [dop, hop, ev1, h]
  case store t x y => simp only [dop, hop, ev1, evC, h]
  case makeInterface t x => simp only [dop, hop, h]
  case convert a b x => simp only [dop, hop, ev1, h]
  case fieldAddr t x f => simp only [dop, hop, evC, h]
  case field t x f => simp only [dop, hop, ev1, h]
  case indexAddr t x i => simp only [dop, hop, evC, evI, h]
  case index t x i => simp only [dop, hop, ev1, evI, h]
  case lookup t x k b => simp only [dop, hop, evC, h]
  case range t x => simp only [dop, hop, evC, h]
  case next x b => cases b <;> simp only [dop, hop, evC, h]
  case extract x i => simp only [dop, hop, h]
  case makeSlice t x y => simp only [dop, hop, evI, h]
  case mapUpdate t m k v => simp only [dop, hop, mapPut, ev1, evC, h]
  case insert t m k v => simp only [dop, hop, mapPut, ev1, evC, h]
  case build t ps =>
    have h2 : evParts s' ps.toList = evParts s ps.toList := evParts_ev fun x hx => h x.2 (by simp only [List.mem_map]; exact ⟨x, hx, rfl⟩)
    simp only [dop, hop, h2]
  case buildSlice t n ps =>
    have h2 : evParts s' ps.toList = evParts s ps.toList := evParts_ev fun x hx => h x.2 (by simp only [List.mem_map]; exact ⟨x, hx, rfl⟩)
    simp only [dop, hop, h2]
  case makeFunc fn first cap =>
    have h2 : ∀ x ∈ cap.toList, ev s' x = ev s x := fun x hx => h x (by simp only [Array.mem_append]; exact .inr (by simpa using hx))
    simp only [dop, hop]
    split
    · simp only [Option.bind_eq_bind]
      congr 1
      refine mapM_fn fun x hx => ?_
      simp only [evC, h2 x hx]
    · rfl
  case makeMap t r => cases r <;> simp only [dop, hop]
  case slice t x lo hi mx =>
    have hx : ev s' x = ev s x := h x (by simp)
    have h1 : ∀ y, lo = some y → ev s' y = ev s y := fun y hy => h y (by subst hy; simp)
    have h2 : ∀ y, hi = some y → ev s' y = ev s y := fun y hy => h y (by subst hy; simp)
    have h3 : ∀ y, mx = some y → ev s' y = ev s y := fun y hy => h y (by subst hy; simp)
    have a1 := fun d => evB_ev (d := d) h1
    have a2 := fun d => evB_ev (d := d) h2
    simp only [dop, hop, ev1, hx, a1, a2, cut_ev h1 h2 h3]
  case call c =>
    have h2 : ∀ x ∈ c.args.toList, ev s' x = ev s x := fun x hx => h x (by simp only [Call.operands, Array.mem_append]; exact .inr (by simpa using hx))
    simp only [dop, hop, builtinA, mapM_ev h2]
  all_goals simp only [dop, hop]

theorem glob_ev {o : Op} {g : Nat} {op' : Op} {v : AV} (hg : globOf o = some (g, op')) (h : ∀ x ∈ o.operands, ev s' x = ev s x) : ∀ x ∈ op'.operands, ev (upd s' bigT v) x = ev (upd s bigT v) x := by
  have big : ev (upd s' bigT v) (.tmp bigT) = ev (upd s bigT v) (.tmp bigT) := by simp only [ev, upd_same]
  have key : ∀ t, ev s' (.tmp t) = ev s (.tmp t) → ev (upd s' bigT v) (.tmp t) = ev (upd s bigT v) (.tmp t) := by
    intro t ht
    simp only [ev, Option.some.injEq] at ht ⊢
    unfold upd
    split
    · rfl
    · exact ht
  unfold globOf at hg
  split at hg
  · cases hg
    intro x hx
    simp only [Op.operands, List.mem_toArray, List.mem_cons, List.not_mem_nil, or_false] at hx
    subst hx; exact big
  · rename_i t g' i
    split at hg
    · cases hg
    · cases hg
      intro x hx
      simp only [Op.operands, List.mem_toArray, List.mem_cons, List.not_mem_nil, or_false] at hx
      rcases hx with rfl | rfl
      · exact big
      · exact key i (h (.tmp i) (by simp [Op.operands]))
  · rename_i t g' w
    cases hg
    intro x hx
    simp only [Op.operands, List.mem_toArray, List.mem_cons, List.not_mem_nil, or_false] at hx
    rcases hx with rfl | rfl
    · exact big
    · rfl
  · cases hg
    intro x hx
    simp only [Op.operands, List.mem_toArray, List.mem_cons, List.not_mem_nil, or_false] at hx
    subst hx; exact big
  · cases hg

theorem stepA_ev {c : Caller} {hp : Heap} {o : Oper} (h : ∀ x ∈ o.op.operands, ev s' x = ev s x) : stepA E c s' hp o = stepA E c s hp o := by
  unfold stepA
  split
  · rename_i cl hop
    split
    · rename_i f hc
      rw [hop] at h
      have h1 : ev s' f = ev s f := h f (by simp [Op.operands, Call.operands, hc])
      have h2 : ∀ x ∈ cl.args.toList, ev s' x = ev s x := fun x hx => h x (by simp only [Op.operands, Call.operands, Array.mem_append]; exact .inr (by simpa using hx))
      simp only [opCall, hc, mapM_ev h2, h1]
    · exact dop_ev h
  · split
    · rename_i g op' hg
      cases E.glob g with
      | none => rfl
      | some cs => exact dop_ev (glob_ev hg h)
    · exact dop_ev h

theorem restr_ev {all : List Oper} {o : Oper} {sl : Nat → AV} : ∀ x ∈ o.op.operands, ev (restr (lookL all o) sl) x = ev sl x := by
  intro x hx
  cases x with
  | tmp t =>
    have : (lookL all o).contains t = true := by
      simp only [lookL, List.contains_iff_mem, List.mem_append, List.mem_filterMap]
      exact .inl ⟨.tmp t, by simpa using hx, rfl⟩
    simp only [ev, restr, this, if_true]
  | _ => rfl

theorem core_restr {c : Caller} {all : List Oper} {o : Oper} {sl : Nat → AV} {hp : Heap} : coreA E c all (restr (lookL all o) sl) hp o = coreA E c all sl hp o := by
  have hw : wantA all (restr (lookL all o) sl) o = wantA all sl o := by
    unfold wantA
    split
    · rfl
    · rename_i j want hg
      split
      · rename_i d hd
        have : (lookL all o).contains d = true := by
          simp only [lookL, List.contains_iff_mem, List.mem_append, hg, hd]
          exact .inr (by simp)
        simp only [restr, this, if_true]
      · rfl
  unfold coreA
  rw [hw, stepA_ev restr_ev]

theorem runD_ops {c : Caller} {all : List Oper} : ∀ (os : List Oper) (st : St), (runD E c all os st).map (·.1) = runOps E c all os st := by
  intro os
  induction os with
  | nil => intro st; rfl
  | cons o os ih =>
    intro st
    simp only [runD, stepR, core_restr, runOps]
    unfold coreA
    cases hw : wantA all st.sl o with
    | none => rfl
    | some b =>
      cases b with
      | false =>
        simp only [Option.map_some, Option.bind_some, Option.map_map]
        rw [← ih]
        rfl
      | true =>
        cases hs : stepA E c st.sl st.hp o with
        | none => rfl
        | some r =>
          simp only [Option.map_some, Option.bind_some, Option.map_map]
          rw [← ih]
          rfl

theorem den_dr {fn : FuncId} {m : Nat} {call : Caller} {it : It} {id : Nat} {ops : Array Oper} {st : St} (h : (drawOk E ops.toList && (floats E ops.toList).isEmpty) = true) :
    den E fn m call it (.region id ops true) none st = regD (runOps E call ops.toList ops.toList st) := by
  simp only [Bool.and_eq_true, List.isEmpty_iff] at h
  rw [den_draw E fn m call it id ops st h.1, ← runD_ops]
  unfold runDraw
  rw [h.2]
  cases runD E call ops.toList ops.toList st <;> rfl
end
theorem evalS_bind (P : Program) {α β : Type} (x : Sem α) (f : α → Sem β) : evalS P (x >>= f) = (evalS P x).bind fun a => evalS P (f a) := by
  induction x with
  | pure a => rfl
  | program k ih => exact ih P
  | _ => rfl
theorem evalS_pure (P : Program) {α : Type} (a : α) : evalS P (pure a : Sem α) = some a := rfl
theorem ofV_nil : ofV (.slice none 0 0) = some (.c (.d (.lst true []))) := rfl
end Go.Ab
