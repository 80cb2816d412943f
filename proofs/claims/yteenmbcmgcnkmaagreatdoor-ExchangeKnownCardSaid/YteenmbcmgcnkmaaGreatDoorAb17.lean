/- Calls, regions, loops: the abstract evaluator says what the machine does. -/
import Derived.Test.YteenmbcmgcnkmaaGreatDoorAb16
set_option linter.unusedVariables false
set_option linter.unusedSimpArgs false
namespace Go.Ab
open Go

/-- a call, as it is told -/
def BaseOk (E : Env) (G : Gh) : Prop := ∀ b i v, E.base b i = some v → G.μ b i = some v
theorem BaseOk.mono {E : Env} {G0 G : Gh} {hp0 hp : Heap} {w0 w : World} (h : BaseOk E G0) (sn : Sn G0 hp0 w0 G hp w) : BaseOk E G := fun b i v hb => sn.mu _ _ _ (h b i v hb)
def CallP (E : Env) (f : FuncId) (call : List V1 → Heap → Option (AV × Heap)) : Prop :=
  ∀ args hp v h', call args hp = some (v, h') → ∀ G w vs, BaseOk E G → WR G hp w → All2 (VR G hp) args vs →
    Calls E.P f vs.toArray w fun e w' => ∃ x G', e = .returned x ∧ AR G' h' v x ∧ WR G' h' w' ∧ Sn G hp w G' h' w'

/-- a call without a body, as it is told -/
def ExtP (E : Env) (f : FuncId) (call : List V1 → Heap → Option (AV × Heap)) : Prop :=
  ∀ args hp v h', call args hp = some (v, h') → ∀ G w vs, BaseOk E G → WR G hp w → All2 (VR G hp) args vs →
    ∃ x w' G', (callFunc f vs.toArray).run E.P w = .ok (.value x) w' ∧ AR G' h' v x ∧ WR G' h' w' ∧ Sn G hp w G' h' w'

structure EnvOk (E : Env) : Prop where
  ext : ∀ g vs r, E.ext g vs = some r → ∀ w, (callFunc g vs.toArray).run E.P w = .ok (.value r) w
  prim : ∀ g p, E.prim g = some p → CallP E g p
  glob : ∀ g cs, E.glob g = some cs → ∃ vs : Nat → Value, ∀ j c, cs[j]? = some c → DR E.base c (vs j) ∧ E.base g j = some (vs j)
  extp : ∀ g p, E.extp g = some p → ExtP E g p

theorem ro_rel {G : Gh} {hp : Heap} {x : V1} {v : Value} (h : VR G hp x v) : VR G hp x.ro v := by
  have key : ∀ (c : C) (v : Value), CR G hp c v → CR G hp c.ro v := by
    intro c v h
    cases c with
    | own nl es k => exact h.1
    | _ => exact h
  cases x with
  | c x => exact key _ _ h
  | agg cs =>
    obtain ⟨vs, hv, r⟩ := h
    refine ⟨vs, hv, ?_⟩
    clear hv
    induction r with
    | nil => exact .nil
    | cons a _ ih => exact .cons (key _ _ a) ih

theorem map_ro {G : Gh} {hp : Heap} {xs : List V1} {vs : List Value} (h : All2 (VR G hp) xs vs) : All2 (VR G hp) (xs.map V1.ro) vs := by
  induction h with
  | nil => exact .nil
  | cons a _ ih => exact .cons (ro_rel a) ih

theorem roA_rel {G : Gh} {hp : Heap} {keep : Bool} {xs : List V1} {vs : List Value} (h : All2 (VR G hp) xs vs) : All2 (VR G hp) (roA keep xs) vs := by
  unfold roA
  split
  · exact h
  · exact map_ro h

theorem via_ok {E : Env} {f : FuncId} {keep : Bool} {call : List V1 → Heap → Option (AV × Heap)} (hc : CallP E f call) {args : List V1} {hp : Heap} {v : AV} {hn : Heap} (h : viaCall keep call args hp = some (v, hn))
    {G : Gh} {w : World} {vs : List Value} (hb : BaseOk E G) (hw : WR G hp w) (ha : All2 (VR G hp) args vs) :
    Calls E.P f vs.toArray w fun e w' => ∃ x G', e = .returned x ∧ AR G' hn v x ∧ WR G' hn w' ∧ Sn G hp w G' hn w' := by
  simp only [viaCall, Option.bind_eq_bind, Option.bind_eq_some_iff] at h
  obtain ⟨as', has, h0, hr, ⟨v0, h'⟩, hcall, h2, hb2, v', hv', h⟩ := h
  simp only [Option.some.injEq, Prod.mk.injEq] at h
  obtain ⟨rfl, rfl⟩ := h
  have hn := close_nodup hp fuelR [] ((roA keep args).flatMap V1.refs) List.nodup_nil
  generalize hσ : close hp fuelR [] ((roA keep args).flatMap V1.refs) = σ at *
  have har := V1s_ren (sub_ren (G := G) (lo := w.heap.size) hr) has (roA_rel ha)
  refine (hc as' h0 v0 h' hcall (subG G σ w.heap.size) _ _ (show BaseOk E (subG G σ w.heap.size) from hb) (sub_WR (Nat.le_refl _) hn hr hw) har).mono ?_
  rintro e w' ⟨x, G', rfl, hx, hw', sn⟩
  obtain ⟨r1, r2, r3⟩ := call_back hn hw hr sn hw' hb2
  exact ⟨x, _, rfl, hx.ren r1 hv', r2, r3⟩

theorem callFunc_enter {P : Program} {g : FuncId} (h : entersB P g = some true) (args : Array Value) (w : World) : (callFunc g args).run P w = .ok (.enter g args) w := by
  simp only [entersB, Option.map_eq_some_iff, Bool.and_eq_true, Bool.not_eq_true'] at h
  obtain ⟨fn, hf, hb, hn⟩ := h
  have hbn : fn.body.isNone = false := by cases hq : fn.body <;> simp [hq] at hb ⊢
  simp only [callFunc, Sem.run_bind, run_program, Result.andThen_ok, hf, hn, Bool.false_eq_true, if_false, hbn]
  rfl

section
variable {E : Env} {G : Gh} {hp : Heap} {s : Nat → AV} {a : Act} {w : World} {o : Oper} {call : Caller}

theorem step_value {r : AV × Heap} {next : Act → World → Prop} {Q : Exit → Act → World → Prop} (h : OkV G hp w ((execOp a.eval o).run E.P w) r)
    (hn : ∀ x w' G', AR G' r.2 r.1 x → WR G' r.2 w' → Sn G hp w G' r.2 w' → next (a.put o.dst x) w') : o.wp E.P a w next Q := by
  obtain ⟨x, w', G', h1, hw', sn⟩ := h
  unfold Oper.wp
  rcases h1 with ⟨hr, ha⟩ | ⟨hr, hd⟩
  · rw [hr]; exact hn x w' G' ha hw' sn
  · rw [hr]; exact hn undef w' G' (by rw [hd]; trivial) hw' sn

theorem step_call {f : FuncId} {args : Array Value} {r : AV × Heap} {next : Act → World → Prop} {Q : Exit → Act → World → Prop} (hr : (execOp a.eval o).run E.P w = .ok (.enter f args) w)
    (h : Calls E.P f args w fun e w' => ∃ x G', e = .returned x ∧ AR G' r.2 r.1 x ∧ WR G' r.2 w' ∧ Sn G hp w G' r.2 w')
    (hn : ∀ x w' G', AR G' r.2 r.1 x → WR G' r.2 w' → Sn G hp w G' r.2 w' → next (a.put o.dst x) w') : o.wp E.P a w next Q := by
  unfold Oper.wp
  rw [hr]
  refine h.mono ?_
  rintro e w' ⟨x, G', rfl, ha, hw', sn⟩
  exact hn x w' G' ha hw' sn

theorem DR.base {E : Env} (hb : BaseOk E G) {x : D} {v : Value} (h : DR E.base x v) : DR G.μ x v := by
  induction h with
  | sc v h => exact .sc v h
  | lst nl es a cap sz vs hlen hnl hcap hsp hsz hv hm ih =>
    refine .lst nl es a cap sz vs hlen hnl hcap hsp hsz ih ?_
    intro i j e c h1 h2
    obtain ⟨b, o, q1, q2⟩ := hm i j e c h1 h2
    exact ⟨b, o, q1, hb _ _ _ q2⟩

theorem pad_frame (T : Nat) (a : Act) (p : Value) : ∃ a' : Act, ∀ t, a'.tmps.getD t undef = if t = T then p else a.tmps.getD t undef := by
  refine ⟨{ a with tmps := (a.tmps ++ Array.replicate (T + 1) undef).setIfInBounds T p }, fun t => ?_⟩
  simp only [Array.getD_eq_getD_getElem?, Array.getElem?_setIfInBounds]
  by_cases e : t = T
  · subst e
    simp only [if_true, Array.size_append, Array.size_replicate]
    rw [if_pos (by omega)]
    rfl
  · rw [if_neg (Ne.symm e), if_neg e, Array.getElem?_append]
    split
    · rfl
    · rename_i hlt
      rw [Array.getElem?_eq_none (xs := a.tmps) (by omega), Array.getElem?_replicate]
      split <;> rfl

theorem glob_ok (he : EnvOk E) (hb : BaseOk E G) (hs : SR G hp s a.tmps) (hw : WR G hp w) {g : Nat} {op' : Op} {cs : List D} (hg : globOf o.op = some (g, op')) (hcs : E.glob g = some cs) {r : AV × Heap}
    (h : dop E (upd s bigT (.v (.c (.cptr cs 0)))) hp ⟨o.dst, op', o.type, o.pos, o.after, o.guard⟩ = some r) {next : Act → World → Prop} {Q : Exit → Act → World → Prop}
    (hn : ∀ x w' G', AR G' r.2 r.1 x → WR G' r.2 w' → Sn G hp w G' r.2 w' → next (a.put o.dst x) w') : o.wp E.P a w next Q := by
  obtain ⟨a', hget⟩ := pad_frame bigT a (.pointer (some ⟨g, 0, none⟩))
  have hs' : SR G hp (upd s bigT (.v (.c (.cptr cs 0)))) a'.tmps := by
    intro t
    rw [hget]
    unfold upd
    split
    · obtain ⟨vs, hv⟩ := he.glob g cs hcs
      exact ⟨g, 0, rfl, vs, fun j c hc => ⟨DR.base hb (hv j c hc).1, by rw [Nat.zero_add]; exact hb _ _ _ (hv j c hc).2⟩⟩
    · exact hs t
  have hev : a'.eval (.tmp bigT) = .pointer (some ⟨g, 0, none⟩) := by
    have : a'.eval (.tmp bigT) = a'.tmps.getD bigT undef := rfl
    rw [this, hget, if_pos rfl]
  have hev2 : ∀ t, t ≠ bigT → a'.eval (.tmp t) = a.eval (.tmp t) := by
    intro t ht
    have h1 : a'.eval (.tmp t) = a'.tmps.getD t undef := rfl
    rw [h1, hget, if_neg ht]
    rfl
  have hexec : execOp a'.eval ⟨o.dst, op', o.type, o.pos, o.after, o.guard⟩ = execOp a.eval o := by
    unfold globOf at hg
    split at hg
    · rename_i t g' hop
      cases hg
      simp only [execOp, hop, hev]
      rfl
    · rename_i t g' i hop
      split at hg
      · cases hg
      · rename_i hi
        cases hg
        have hne : i ≠ bigT := fun e => hi (by rw [e]; exact Nat.beq_refl _)
        simp only [execOp, hop, hev, hev2 i hne]
        rfl
    · rename_i t g' v hop
      cases hg
      simp only [execOp, hop, hev]
      rfl
    · rename_i t g' f hop
      cases hg
      simp only [execOp, hop, hev]
      rfl
    · cases hg
  have := dop_ok (a := a') (o := ⟨o.dst, op', o.type, o.pos, o.after, o.guard⟩) hs' hw h
  rw [hexec] at this
  exact step_value this hn

theorem stepA_ok (he : EnvOk E) (hcall : ∀ g, CallP E g (call g)) (hb : BaseOk E G) (hs : SR G hp s a.tmps) (hw : WR G hp w) {r : AV × Heap} (h : stepA E call s hp o = some r) {next : Act → World → Prop} {Q : Exit → Act → World → Prop}
    (hn : ∀ x w' G', AR G' r.2 r.1 x → WR G' r.2 w' → Sn G hp w G' r.2 w' → next (a.put o.dst x) w') : o.wp E.P a w next Q := by
  have plainCase : dop E s hp o = some r → o.wp E.P a w next Q := fun h => step_value (dop_ok hs hw h) hn
  unfold stepA at h
  split at h
  case h_2 =>
    split at h
    · rename_i g op' hg
      simp only [Option.bind_eq_some_iff] at h
      obtain ⟨cs, hcs, h⟩ := h
      exact glob_ok he hb hs hw hg hcs h hn
    · exact plainCase h
  rename_i c hop
  split at h
  case h_2 => exact plainCase h
  rename_i f hc
  simp only [opCall, hc, Option.bind_eq_some_iff] at h
  obtain ⟨args, hargs, h⟩ := h
  have har := args_rel hs hargs
  have hmap : c.args.map a.eval = (c.args.toList.map a.eval).toArray := by apply Array.ext'; simp
  split at h
  · rename_i g fi ca hf
    split at h
    case isFalse => cases h
    rename_i hno
    simp only [Bool.and_eq_true, Array.isEmpty_iff] at hno
    obtain ⟨rfl, rfl⟩ := hno
    have hv : a.eval f = .func (.func g) #[] #[] := by have := ev_rel hs hf; generalize a.eval f = z at this; cases this; rfl
    have hexec : (execOp a.eval o).run E.P w = (callFunc g (c.args.toList.map a.eval).toArray).run E.P w := by
      simp [execOp, hop, resolve, hc, hv, Deferred.ofValue, invoke, hmap]
    split at h
    · rename_i hent
      rw [callFunc_enter hent] at hexec
      obtain ⟨v, hn'⟩ := r
      split at h
      · rename_i p hp_
        exact step_call hexec (via_ok (he.prim g p hp_) h hb hw har) hn
      · exact step_call hexec (via_ok (hcall g) h hb hw har) hn
    · split at h
      · rename_i p hp_
        obtain ⟨v, hn'⟩ := r
        obtain ⟨x, w', G', hrun, hx, hw', sn⟩ := he.extp g p hp_ args hp v hn' h G w _ hb hw har
        rw [hrun] at hexec
        exact step_value ⟨x, w', G', .inl ⟨hexec, hx⟩, hw', sn⟩ hn
      · simp only [Option.bind_eq_some_iff, Option.map_eq_some_iff] at h
        obtain ⟨vs, hvs, x, hx, z, hz, rfl⟩ := h
        have := toV_all hvs har
        rw [this, he.ext g vs x hx w] at hexec
        exact step_value (OkV.same (v := .v z) hw hexec (ofV_rel hz)) hn
  · rename_i g caps hf
    obtain ⟨us, hv, hcaps⟩ := ev_rel hs hf
    split at h
    case h_2 => cases h
    rename_i hent
    have hcr : All2 (VR G hp) (caps.map fun p => V1.c (.ptr p.1 p.2)) us := by
      clear hv h hf
      induction hcaps with
      | nil => exact .nil
      | cons a _ ih => exact .cons a ih
    have hexec : (execOp a.eval o).run E.P w = (callFunc g ((c.args.toList.map a.eval) ++ us).toArray).run E.P w := by
      simp [execOp, hop, resolve, hc, hv, Deferred.ofValue, invoke, hmap]
    rw [callFunc_enter hent] at hexec
    obtain ⟨v, hn'⟩ := r
    exact step_call hexec (via_ok (hcall g) h hb hw (har.append hcr)) hn
  · cases h

/-! ### what holds between the steps of a body -/
structure Inv (n : Nat) (G0 : Gh) (hp0 : Heap) (w0 : World) (st : St) (a : Act) (w : World) : Prop where
  ex : ∃ G, SR G st.hp st.sl a.tmps ∧ WR G st.hp w ∧ Sn G0 hp0 w0 G st.hp w
  size : a.tmps.size = n
  defers : a.defers = []

def setT (tmps : Array Value) (d : Option Tmp) (x : Value) : Array Value :=
  match d with
  | some d => tmps.setIfInBounds d x
  | none => tmps
theorem setT_size (tmps : Array Value) (d : Option Tmp) (x : Value) : (setT tmps d x).size = tmps.size := by cases d <;> simp [setT]

theorem SR.put {d : Option Tmp} {v : AV} {x : Value} {tmps : Array Value} (hs : SR G hp s tmps) (hv : AR G hp v x) (hd : d.all (· < tmps.size) = true) :
    SR G hp (putO s d v) (setT tmps d x) := by
  cases d with
  | none => exact hs
  | some d =>
    have hd : d < tmps.size := by simpa using hd
    intro t
    simp only [putO, upd, setT, Array.getD_eq_getD_getElem?, Array.getElem?_setIfInBounds]
    by_cases e : t = d
    · subst e
      rw [if_pos rfl, if_pos rfl, if_pos hd]
      exact hv
    · rw [if_neg e, if_neg (Ne.symm e)]
      have := hs t
      rwa [Array.getD_eq_getD_getElem?] at this

theorem put_tmps (a : Act) (d : Option Tmp) (x : Value) : (a.put d x).tmps = setT a.tmps d x := by cases d <;> rfl
theorem put_defers (a : Act) (d : Option Tmp) (x : Value) : (a.put d x).defers = a.defers := by cases d <;> rfl

theorem want_ok {all : List Oper} {ops : Array Oper} (hall : all = ops.toList) (hs : SR G hp s a.tmps) {b : Bool} (h : wantA all s o = some b) : Region.wanted o (yielded ops a.tmps) = b := by
  subst hall
  unfold wantA at h
  unfold Region.wanted
  split at h
  · rename_i hg; rw [hg]; simpa using h
  · rename_i j want hg
    rw [hg]
    split at h
    · rename_i d hd
      split at h
      · rename_i y hy
        cases h
        have hr := hs d
        rw [hy] at hr
        have hv : a.tmps.getD d undef = .bool y := by generalize a.tmps.getD d undef = z at hr; cases hr; rfl
        have hget : a.tmps[d]? = some (.bool y) := by
          rw [Array.getD_eq_getD_getElem?] at hv
          cases e : a.tmps[d]? with
          | none => rw [e] at hv; simp [undef] at hv
          | some z => rw [e] at hv; simp at hv; rw [hv]
        rw [Array.getElem?_toList] at hd
        simp [yielded, hd, hget]
      · rename_i hy
        cases h
        have hr := hs d
        rw [hy] at hr
        have hv : a.tmps.getD d undef = .tuple #[] := by
          generalize a.tmps.getD d undef = z at hr
          obtain ⟨vs, rfl, hvs⟩ := hr
          cases hvs
          rfl
        rw [Array.getElem?_toList] at hd
        cases e : a.tmps[d]? with
        | none => simp [yielded, hd, e]
        | some z =>
          rw [Array.getD_eq_getD_getElem?, e] at hv
          simp only [Option.getD_some] at hv
          subst hv
          simp [yielded, hd, e]
      · cases h
    · cases h

theorem runOps_ok (he : EnvOk E) (hcall : ∀ g, CallP E g (call g)) {n : Nat} {G0 : Gh} (hb0 : BaseOk E G0) {hp0 : Heap} {w0 : World} {ops : Array Oper} {Q : Exit → Act → World → Prop} {st' : St}
    (hok : (ops.all fun o => o.dst.all (· < n)) = true) :
    ∀ (os : List Oper) (i : Nat) (st : St) (a : Act) (w : World), ops.toList.drop i = os → runOps E call ops.toList os st = some st' → Inv n G0 hp0 w0 st a w →
      (∀ a' w', Inv n G0 hp0 w0 st' a' w' → Q .normal a' w') → wpOps E.P ops Q (List.range' i os.length) a w := by
  intro os
  induction os with
  | nil =>
    intro i st a w _ hr hi hq
    simp only [runOps, Option.some.injEq] at hr
    subst hr
    exact hq a w hi
  | cons o os ih =>
    intro i st a w hd hr hi hq
    have hio : ops.toList[i]? = some o := by
      have := congrArg (·[0]?) hd
      simpa using this
    have hio' : ops[i]? = some o := by rw [Array.getElem?_toList] at hio; exact hio
    have hdn : ops.toList.drop (i + 1) = os := by
      have := congrArg List.tail hd
      simpa using this
    have hdst : o.dst.all (· < n) = true := by
      have hm : o ∈ ops := Array.mem_of_getElem? hio'
      have := Array.all_eq_true'.1 hok o hm
      exact this
    simp only [List.length_cons, List.range'_succ, wpOps, hio']
    obtain ⟨⟨G, hs, hw, sn⟩, hsz, hdef⟩ := hi
    simp only [runOps] at hr
    split at hr
    · rename_i hwant
      rw [want_ok rfl hs hwant]
      simp only [if_true]
      split at hr
      · rename_i v h hstep
        left
        refine stepA_ok he hcall (hb0.mono sn) hs hw hstep fun x w' G' ha hw' sn' => ?_
        refine ih (i + 1) _ _ _ hdn hr ⟨⟨G', ?_, hw', sn.trans sn'⟩, ?_, by rw [put_defers, hdef]⟩ hq
        · rw [put_tmps]
          exact SR.put (fun t => (hs t).mono sn') ha (by rw [hsz]; exact hdst)
        · rw [put_tmps]
          rw [setT_size, hsz]
      · cases hr
    · rename_i hwant
      rw [want_ok rfl hs hwant]
      simp only [Bool.false_eq_true, if_false]
      refine ih (i + 1) _ _ _ hdn hr ⟨⟨G, ?_, hw, sn⟩, ?_, by rw [put_defers, hdef]⟩ hq
      · rw [put_tmps]
        exact SR.put hs (v := .tup []) ⟨[], rfl, .nil⟩ (by rw [hsz]; exact hdst)
      · rw [put_tmps]
        rw [setT_size, hsz]
    · cases hr

end
end Go.Ab
