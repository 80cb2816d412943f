/- Drawn regions with loads that may come before or behind what acts: the run that keeps the footprints that are asked. -/
import Derived.Test.YtcjkhdkfdnjhaaaDoorAb34
import Derived.Test.YtcjkhdkfdnjhaaaDoorAbD
set_option linter.unusedVariables false
set_option linter.unusedSimpArgs false
namespace Go.Ab
open Go
def footT (s : Nat → AV) (hp hp' : Heap) (o : Oper) : Option Bool → Foot
  | some true => foot0 (readsO s o)
  | some false => (none, hp.length, chgA s hp hp' o)
  | none => foot0 []
def hdT (ts : List (Option Bool)) : Option Bool := match ts with | t :: _ => t | [] => none
def tlT (ts : List (Option Bool)) : List (Option Bool) := match ts with | _ :: l => l | [] => []
def runF (E : Env) (call : Caller) (all : List Oper) : List Oper → List (Option Bool) → St → List Foot → Option (St × List Foot)
  | [], _, st, F => some (st, F)
  | o :: os, ts, st, F => match wantA all st.sl o with
    | some true => match stepA E call st.sl st.hp o with
      | some (v, h) => runF E call all os (tlT ts) ⟨putO st.sl o.dst v, h⟩ (F ++ [footT st.sl st.hp h o (hdT ts)])
      | none => none
    | some false => runF E call all os (tlT ts) ⟨putO st.sl o.dst (.tup []), st.hp⟩ (F ++ [footT st.sl st.hp st.hp o (hdT ts)])
    | none => none
def maskF : List (Option Bool) → List Foot → List Foot
  | _, [] => []
  | ts, f :: fs => (match hdT ts with | none => foot0 [] | some _ => f) :: maskF (tlT ts) fs
def tagsOk (E : Env) : List Oper → List (Option Bool) → Bool
  | [], _ => true
  | o :: os, ts => (match hdT ts with | none => true | some b => b == neutralG E o) && tagsOk E os (tlT ts)
section
variable {E : Env}
theorem evC_restr {all : List Oper} {o : Oper} {sl : Nat → AV} {x : Operand} (h : x ∈ o.op.operands) : evC (restr (lookL all o) sl) x = evC sl x := by
  unfold evC; rw [restr_ev x h]
theorem reads_restr {all : List Oper} {o : Oper} {sl : Nat → AV} : readsO (restr (lookL all o) sl) o = readsO sl o := by
  unfold readsO
  cases hop : o.op <;> try rfl
  all_goals (simp only; rw [evC_restr (by rw [hop]; simp [Op.operands])])
theorem chg_restr {all : List Oper} {o : Oper} {sl : Nat → AV} {h h' : Heap} : chgA (restr (lookL all o) sl) h h' o = chgA sl h h' o := by
  funext k
  unfold chgA
  cases hop : o.op <;> try rfl
  rename_i c
  simp only
  split
  · rename_i a0 l hc hl
    have : ev1 (restr (lookL all o) sl) a0 = ev1 sl a0 := by
      unfold ev1
      rw [restr_ev a0 (by
        rw [hop]
        simp only [Op.operands, Call.operands, Array.mem_append]
        right
        have : a0 ∈ c.args.toList := by rw [hl]; exact .head _
        simpa using this)]
    rw [this]
  · rfl
theorem foot_restr {all : List Oper} {o : Oper} {sl : Nat → AV} {h h' : Heap} : footA E (restr (lookL all o) sl) h h' o = footT sl h h' o (some (neutralG E o)) := by
  have e1 : ∀ s, footA E s h h' o = if neutralG E o then foot0 (readsO s o) else (none, h.length, chgA s h h' o) := fun s => rfl
  rw [e1]
  cases hn : neutralG E o
  · simp only [Bool.false_eq_true, if_false, footT, chg_restr]
  · simp only [if_true, footT, reads_restr]
theorem runF_eq {c : Caller} {all : List Oper} : ∀ (os : List Oper) (ts : List (Option Bool)) (st : St) (F : List Foot), tagsOk E os ts = true →
    runF E c all os ts st F = (runD E c all os st).map fun r => (r.1, F ++ maskF ts r.2) := by
  intro os
  induction os with
  | nil => intro ts st F _; simp [runF, runD, maskF]
  | cons o os ih =>
    intro ts st F ht
    simp only [tagsOk, Bool.and_eq_true] at ht
    have hf : ∀ h', footT st.sl st.hp h' o (hdT ts) = (match hdT ts with | none => foot0 [] | some _ => footA E (restr (lookL all o) st.sl) st.hp h' o) := by
      intro h'
      cases hh : hdT ts with
      | none => rfl
      | some b =>
        have := ht.1
        rw [hh] at this
        simp only [beq_iff_eq] at this
        rw [this, foot_restr]
    simp only [runD, stepR, core_restr, runF]
    unfold coreA
    cases hw : wantA all st.sl o with
    | none => rfl
    | some b =>
      cases b with
      | false =>
        simp only [Option.map_some, Option.bind_some, Option.map_map]
        rw [ih _ _ _ ht.2, hf]
        congr 1
        funext r
        simp [maskF]
      | true =>
        cases hs : stepA E c st.sl st.hp o with
        | none => rfl
        | some r =>
          simp only [Option.map_some, Option.bind_some, Option.map_map]
          rw [ih _ _ _ ht.2, hf]
          congr 1
          funext r
          simp [maskF]
theorem mask_get : ∀ (F : List Foot) (ts : List (Option Bool)) (i : Nat), (ts.getD i none).isSome = true → (maskF ts F).getD i (foot0 []) = F.getD i (foot0 []) := by
  intro F
  induction F with
  | nil => intro ts i _; simp [maskF]
  | cons f F ih =>
    intro ts i h
    cases ts with
    | nil => simp at h
    | cons t ts =>
      cases i with
      | zero =>
        simp only [List.getD_cons_zero] at h
        cases t with
        | none => simp at h
        | some b => simp [maskF, hdT]
      | succ i =>
        simp only [List.getD_cons_succ] at h
        have := ih ts i h
        simp only [maskF, tlT, List.getD_cons_succ]
        exact this
end
/-- the footprints, held against each other -/
def ckF (fl : List (Nat × Nat)) (r : St × List Foot) : Option St := if fl.all (fun p => pairOk (r.2.getD p.1 (foot0 [])) (r.2.getD p.2 (foot0 []))) = true then some r.1 else none
theorem den_dF {E : Env} {fn : FuncId} {m : Nat} {call : Caller} {it : It} {c : Code} {st : St} {ts : List (Option Bool)} {fl : List (Nat × Nat)}
    (h : (isDr c && (drawOk E (opsOf c) && (decide (floats E (opsOf c) = fl) && (tagsOk E (opsOf c) ts && fl.all fun p => (ts.getD p.1 none).isSome && (ts.getD p.2 none).isSome)))) = true) :
    den E fn m call it c none st = regD ((runF E call (opsOf c) (opsOf c) ts st []).bind (ckF fl)) := by
  cases c <;> simp only [isDr, Bool.false_and, Bool.false_eq_true] at h
  simp only [Bool.and_eq_true, decide_eq_true_eq] at h
  obtain ⟨h1, h2, h3, h4, h5⟩ := h
  subst h1
  rename_i id ops
  rw [den_draw E fn m call it id ops st h2, runF_eq _ _ _ _ h4]
  unfold runDraw
  have h3 : floats E ops.toList = fl := h3
  rw [h3]
  show regD _ = regD _
  congr 1
  show (runD E call ops.toList ops.toList st).bind _ = Option.bind (Option.map _ (runD E call ops.toList ops.toList st)) (ckF fl)
  cases runD E call ops.toList ops.toList st with
  | none => rfl
  | some r =>
    simp only [Option.map_some, Option.bind_some, List.nil_append, ckF]
    have : (fl.all fun p => pairOk (r.2.getD p.1 (foot0 [])) (r.2.getD p.2 (foot0 []))) = fl.all fun p => pairOk ((maskF ts r.2).getD p.1 (foot0 [])) ((maskF ts r.2).getD p.2 (foot0 [])) := by
      rw [Bool.eq_iff_iff, List.all_eq_true, List.all_eq_true]
      have := List.all_eq_true.1 h5
      constructor
      · intro h p hp
        have hh := this p hp
        simp only [Bool.and_eq_true] at hh
        rw [mask_get _ _ _ hh.1, mask_get _ _ _ hh.2]
        exact h p hp
      · intro h p hp
        have hh := this p hp
        simp only [Bool.and_eq_true] at hh
        have := h p hp
        rwa [mask_get _ _ _ hh.1, mask_get _ _ _ hh.2] at this
    rw [this]
/-! ### steps of such a run -/
section
variable (E : Env) (call : Caller)
def runKF (all os : List Oper) (o : Oper) (ts : List (Option Bool)) (st : St) (F : List Foot) (r : Option Bool) : Option (St × List Foot) := match r with
  | some true => (match stepA E call st.sl st.hp o with
    | some (v, h) => runF E call all os (tlT ts) ⟨putO st.sl o.dst v, h⟩ (F ++ [footT st.sl st.hp h o (hdT ts)])
    | none => none)
  | some false => runF E call all os (tlT ts) ⟨putO st.sl o.dst (.tup []), st.hp⟩ (F ++ [footT st.sl st.hp st.hp o (hdT ts)])
  | none => none
def stepKF (all os : List Oper) (d : Option Nat) (ts : List (Option Bool)) (st : St) (o : Oper) (F : List Foot) (r : Option (AV × Heap)) : Option (St × List Foot) := match r with
  | some (v, h) => runF E call all os (tlT ts) ⟨putO st.sl d v, h⟩ (F ++ [footT st.sl st.hp h o (hdT ts)])
  | none => none
theorem runF_nil (all : List Oper) (ts : List (Option Bool)) (st : St) (F : List Foot) : runF E call all [] ts st F = some (st, F) := rfl
theorem runF_none (all os : List Oper) (d : Option Tmp) (op : Op) (t : TypeId) (pos : String) (aft : Array Edge) (ts : List (Option Bool)) (st : St) (F : List Foot) :
    runF E call all (⟨d, op, t, pos, aft, none⟩ :: os) ts st F = stepKF E call all os d ts st ⟨d, op, t, pos, aft, none⟩ F (stepA E call st.sl st.hp ⟨d, op, t, pos, aft, none⟩) := rfl
theorem runF_some (all os : List Oper) (d : Option Tmp) (op : Op) (t : TypeId) (pos : String) (aft : Array Edge) (g : Nat × Bool) (ts : List (Option Bool)) (st : St) (F : List Foot) :
    runF E call all (⟨d, op, t, pos, aft, some g⟩ :: os) ts st F = runKF E call all os ⟨d, op, t, pos, aft, some g⟩ ts st F (wantA all st.sl ⟨d, op, t, pos, aft, some g⟩) := by
  simp only [runF, runKF]
theorem runKF_t (all os : List Oper) (o : Oper) (ts : List (Option Bool)) (st : St) (F : List Foot) : runKF E call all os o ts st F (some true) = stepKF E call all os o.dst ts st o F (stepA E call st.sl st.hp o) := rfl
theorem runKF_f (all os : List Oper) (o : Oper) (ts : List (Option Bool)) (st : St) (F : List Foot) : runKF E call all os o ts st F (some false) = runF E call all os (tlT ts) ⟨putO st.sl o.dst (.tup []), st.hp⟩ (F ++ [footT st.sl st.hp st.hp o (hdT ts)]) := rfl
theorem runKF_x (all os : List Oper) (o : Oper) (ts : List (Option Bool)) (st : St) (F : List Foot) : runKF E call all os o ts st F none = none := rfl
theorem stepKF_s (all os : List Oper) (d : Option Nat) (ts : List (Option Bool)) (st : St) (o : Oper) (F : List Foot) (v : AV) (h : Heap) :
    stepKF E call all os d ts st o F (some (v, h)) = runF E call all os (tlT ts) ⟨putO st.sl d v, h⟩ (F ++ [footT st.sl st.hp h o (hdT ts)]) := rfl
theorem stepKF_x (all os : List Oper) (d : Option Nat) (ts : List (Option Bool)) (st : St) (o : Oper) (F : List Foot) : stepKF E call all os d ts st o F none = none := rfl
theorem tlT_c (t : Option Bool) (l : List (Option Bool)) : tlT (t :: l) = l := rfl
theorem tlT_n : tlT [] = [] := rfl
theorem hdT_c (t : Option Bool) (l : List (Option Bool)) : hdT (t :: l) = t := rfl
theorem hdT_n : hdT [] = none := rfl
theorem footT_n (s : Nat → AV) (hp hp' : Heap) (o : Oper) : footT s hp hp' o none = foot0 [] := rfl
theorem pair0 (w : Foot) : pairOk (foot0 []) w = true := rfl
theorem pair1 (k n : Nat) (g : Nat → Bool) : pairOk (foot0 [k]) (none, n, g) = (decide (k < n) && !(g k)) := by simp [pairOk, foot0]
theorem foot_t (s : Nat → AV) (hp hp' : Heap) (o : Oper) : footT s hp hp' o (some true) = foot0 (readsO s o) := rfl
theorem foot_f (s : Nat → AV) (hp hp' : Heap) (o : Oper) : footT s hp hp' o (some false) = (none, hp.length, chgA s hp hp' o) := rfl
theorem eqB_refl (a : ByteArray) : (a.data.toList == a.data.toList) = true := by simp
end
end Go.Ab
