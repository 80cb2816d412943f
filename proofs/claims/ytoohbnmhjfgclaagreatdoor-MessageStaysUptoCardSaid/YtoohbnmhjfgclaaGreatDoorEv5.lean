/- An abstract evaluator of the loaded code, and that what it says is what the machine does. -/
import Derived.Test.YtoohbnmhjfgclaaGreatDoorEv4
import Derived.Orders
set_option linter.all false
section
set_option linter.unusedVariables false
set_option linter.unusedSimpArgs false
namespace Go.Ab
open Go
def BaseOk (E:Env) (G:Gh) (hp:Heap) (w:World):Prop:=(∀ b i v,E.base b i = some v→G.μ b i = some v) ∧
  ∀ b φ,E.blk b = some φ→b < G.lo∧(∃ vs t fz,w.heap[b]? = some (.cells vs t fz)∧φ vs)∧∀ k,k < hp.length→¬ (G.β k).at b
theorem BaseOk.mono {E:Env} {G0 G:Gh} {hp0 hp:Heap} {w0 w:World} (h:BaseOk E G0 hp0 w0) (sn:Sn G0 hp0 w0 G hp w):BaseOk E G hp w:=by
  refine ⟨fun b i v hb=>sn.mu _ _ _ (h.1 b i v hb),fun b φ hb=>?_⟩
  obtain ⟨h1,⟨vs,t,fz,h2,h3⟩,h4⟩:=h.2 b φ hb
  have hlt:b < w0.heap.size:=lt_of_block h2
  refine ⟨by rw [sn.lo]; exact h1,⟨vs,t,fz,by rw [sn.same b hlt (.inl h1) h4]; exact h2,h3⟩,fun k hk hat=>?_⟩
  rcases sn.bdNew k b hk hat with q | ⟨k',hk',q⟩
  · omega
  · exact h4 k' hk' q
def CallP (E:Env) (f:FuncId) (call:List V1→Heap→Option (AV×Heap)):Prop :=
  ∀ args hp v h',call args hp = some (v,h')→∀ G w vs,BaseOk E G hp w→WR G hp w→All2 (VR G hp) args vs →
    Calls E.P f vs.toArray w fun e w'=>∃ x G',e = .returned x∧AR G' h' v x∧WR G' h' w'∧Sn G hp w G' h' w'
def ExtP (E:Env) (f:FuncId) (call:List V1→Heap→Option (AV×Heap)):Prop :=
  ∀ args hp v h',call args hp = some (v,h')→∀ G w vs,BaseOk E G hp w→WR G hp w→All2 (VR G hp) args vs →
    ∃ x w' G',(callFunc f vs.toArray).run E.P w = .ok (.value x) w'∧AR G' h' v x∧WR G' h' w'∧Sn G hp w G' h' w'
structure EnvOk (E:Env):Prop where
  ext:∀ g vs r,E.ext g vs = some r→∀ w,(callFunc g vs.toArray).run E.P w = .ok (.value r) w
  prim:∀ g p,E.prim g = some p→CallP E g p
  glob:∀ g cs,E.glob g = some cs→∃ vs:Nat→Value,∀ j c,cs[j]? = some c→DR E.base c (vs j)∧E.base g j = some (vs j)
  extp:∀ g p,E.extp g = some p→ExtP E g p
theorem ro_rel {G:Gh} {hp:Heap} {x:V1} {v:Value} (h:VR G hp x v):VR G hp x.ro v:=by
  have key:∀ (c:C) (v:Value),CR G hp c v→CR G hp c.ro v:=by
    intro c v h
    cases c with
    | own nl es k=>exact h.1
    | _=>exact h
  cases x with
  | c x=>exact key _ _ h
  | agg cs =>
    obtain ⟨vs,hv,r⟩:=h
    refine ⟨vs,hv,?_⟩
    clear hv
    induction r with
    | nil=>exact .nil
    | cons a _ ih=>exact .cons (key _ _ a) ih
theorem map_ro {G:Gh} {hp:Heap} {xs:List V1} {vs:List Value} (h:All2 (VR G hp) xs vs):All2 (VR G hp) (xs.map V1.ro) vs:=by
  induction h with
  | nil=>exact .nil
  | cons a _ ih=>exact .cons (ro_rel a) ih
theorem roA_rel {G:Gh} {hp:Heap} {keep:Bool} {xs:List V1} {vs:List Value} (h:All2 (VR G hp) xs vs):All2 (VR G hp) (roA keep xs) vs:=by
  unfold roA
  split
  · exact h
  · exact map_ro h
theorem via_ok {E:Env} {f:FuncId} {keep:Bool} {call:List V1→Heap→Option (AV×Heap)} (hc:CallP E f call) {args:List V1} {hp:Heap} {v:AV} {hn:Heap} (h:viaCall keep call args hp = some (v,hn))
    {G:Gh} {w:World} {vs:List Value} (hb:BaseOk E G hp w) (hw:WR G hp w) (ha:All2 (VR G hp) args vs) :
    Calls E.P f vs.toArray w fun e w'=>∃ x G',e = .returned x∧AR G' hn v x∧WR G' hn w'∧Sn G hp w G' hn w':=by
  simp only [viaCall,Option.bind_eq_bind,Option.bind_eq_some_iff] at h
  obtain ⟨as',has,h0,hr,⟨v0,h'⟩,hcall,h2,hb2,v',hv',h⟩:=h
  simp only [Option.some.injEq,Prod.mk.injEq] at h
  obtain ⟨rfl,rfl⟩:=h
  have hn:=close_nodup hp fuelR [] ((roA keep args).flatMap V1.refs) List.nodup_nil
  generalize hσ:close hp fuelR [] ((roA keep args).flatMap V1.refs) = σ at *
  have har:=V1s_ren (sub_ren (G:=G) (lo:=w.heap.size) hr) has (roA_rel ha)
  refine (hc as' h0 v0 h' hcall (subG G σ w.heap.size) _ _ ⟨hb.1,fun b φ hφ=>by
    obtain ⟨h1,h2,h3⟩:=hb.2 b φ hφ
    refine ⟨?_,h2,fun i hi hat=>?_⟩
    · obtain ⟨vs',t',fz',h4,_⟩:=h2
      exact lt_of_block h4
    · simp only [subG] at hat
      split at hat
      · rename_i k hk
        obtain ⟨o_,_,q1,_⟩:=restrict_get hr hk
        exact h3 k (lt_of_get q1) hat
      · exact hat⟩ (sub_WR (Nat.le_refl _) hn hr hw) har).mono ?_
  rintro e w' ⟨x,G',rfl,hx,hw',sn⟩
  obtain ⟨r1,r2,r3⟩:=call_back hn hw hr sn hw' hb2
  exact ⟨x,_,rfl,hx.ren r1 hv',r2,r3⟩
theorem callFunc_enter {P:Program} {g:FuncId} (h:entersB P g = some true) (args:Array Value) (w:World):(callFunc g args).run P w = .ok (.enter g args) w:=by
  simp only [entersB,Option.map_eq_some_iff,Bool.and_eq_true,Bool.not_eq_true'] at h
  obtain ⟨fn,hf,hb,hn⟩:=h
  have hbn:fn.body.isNone = false:=by cases hq:fn.body <;> simp [hq] at hb ⊢
  simp only [callFunc,Sem.run_bind,run_program,Result.andThen_ok,hf,hn,Bool.false_eq_true,if_false,hbn]
  rfl
section
variable {E:Env} {G:Gh} {hp:Heap} {s:Nat→AV} {a:Act} {w:World} {o:Oper} {call:Caller}
theorem step_value {r:AV×Heap} {next:Act→World→Prop} {Q:Exit→Act→World→Prop} (h:OkV G hp w ((execOp a.eval o).run E.P w) r)
    (hn:∀ x w' G',AR G' r.2 r.1 x→WR G' r.2 w'→Sn G hp w G' r.2 w'→next (a.put o.dst x) w'):o.wp E.P a w next Q:=by
  obtain ⟨x,w',G',h1,hw',sn⟩:=h
  unfold Oper.wp
  rcases h1 with ⟨hr,ha⟩ | ⟨hr,hd⟩
  · rw [hr]; exact hn x w' G' ha hw' sn
  · rw [hr]; exact hn undef w' G' (by rw [hd]; trivial) hw' sn
theorem step_call {f:FuncId} {args:Array Value} {r:AV×Heap} {next:Act→World→Prop} {Q:Exit→Act→World→Prop} (hr:(execOp a.eval o).run E.P w = .ok (.enter f args) w)
    (h:Calls E.P f args w fun e w'=>∃ x G',e = .returned x∧AR G' r.2 r.1 x∧WR G' r.2 w'∧Sn G hp w G' r.2 w')
    (hn:∀ x w' G',AR G' r.2 r.1 x→WR G' r.2 w'→Sn G hp w G' r.2 w'→next (a.put o.dst x) w'):o.wp E.P a w next Q:=by
  unfold Oper.wp
  rw [hr]
  refine h.mono ?_
  rintro e w' ⟨x,G',rfl,ha,hw',sn⟩
  exact hn x w' G' ha hw' sn
theorem DR.base {E:Env} (hb:BaseOk E G hp w) {x:D} {v:Value} (h:DR E.base x v):DR G.μ x v:=by
  induction h with
  | sc v h=>exact .sc v h
  | lst nl es a cap sz vs hlen hnl hcap hsp hsz hv hm ih =>
    refine .lst nl es a cap sz vs hlen hnl hcap hsp hsz ih ?_
    intro i j e c h1 h2
    obtain ⟨b,o,q1,q2⟩:=hm i j e c h1 h2
    exact ⟨b,o,q1,hb.1 _ _ _ q2⟩
theorem pad_frame (T:Nat) (a:Act) (p:Value):∃ a':Act,∀ t,a'.tmps.getD t undef = if t = T then p else a.tmps.getD t undef:=by
  refine ⟨{ a with tmps:=(a.tmps ++ Array.replicate (T + 1) undef).setIfInBounds T p },fun t=>?_⟩
  simp only [Array.getD_eq_getD_getElem?,Array.getElem?_setIfInBounds]
  by_cases e:t = T
  · subst e
    simp only [if_true,Array.size_append,Array.size_replicate]
    rw [if_pos (by omega)]
    rfl
  · rw [if_neg (Ne.symm e),if_neg e,Array.getElem?_append]
    split
    · rfl
    · rename_i hlt
      rw [Array.getElem?_eq_none (xs:=a.tmps) (by omega),Array.getElem?_replicate]
      split <;> rfl
theorem glob_ok (he:EnvOk E) (hb:BaseOk E G hp w) (hs:SR G hp s a.tmps) (hw:WR G hp w) {g:Nat} {op':Op} {cs:List D} (hg:globOf o.op = some (g,op')) (hcs:E.glob g = some cs) {r:AV×Heap}
    (h:dop E (upd s bigT (.v (.c (.cptr cs 0)))) hp ⟨o.dst,op',o.type,o.pos,o.after,o.guard⟩ = some r) {next:Act→World→Prop} {Q:Exit→Act→World→Prop}
    (hn:∀ x w' G',AR G' r.2 r.1 x→WR G' r.2 w'→Sn G hp w G' r.2 w'→next (a.put o.dst x) w'):o.wp E.P a w next Q:=by
  obtain ⟨a',hget⟩:=pad_frame bigT a (.pointer (some ⟨g,0,none⟩))
  have hs':SR G hp (upd s bigT (.v (.c (.cptr cs 0)))) a'.tmps:=by
    intro t
    rw [hget]
    unfold upd
    split
    · obtain ⟨vs,hv⟩:=he.glob g cs hcs
      exact ⟨g,0,rfl,vs,fun j c hc=>⟨DR.base hb (hv j c hc).1,by rw [Nat.zero_add]; exact hb.1 _ _ _ (hv j c hc).2⟩⟩
    · exact hs t
  have hev:a'.eval (.tmp bigT) = .pointer (some ⟨g,0,none⟩):=by
    have:a'.eval (.tmp bigT) = a'.tmps.getD bigT undef:=rfl
    rw [this,hget,if_pos rfl]
  have hev2:∀ t,t ≠ bigT→a'.eval (.tmp t) = a.eval (.tmp t):=by
    intro t ht
    have h1:a'.eval (.tmp t) = a'.tmps.getD t undef:=rfl
    rw [h1,hget,if_neg ht]
    rfl
  have hexec:execOp a'.eval ⟨o.dst,op',o.type,o.pos,o.after,o.guard⟩ = execOp a.eval o:=by
    unfold globOf at hg
    split at hg
    · rename_i t g' hop
      cases hg
      simp only [execOp,hop,hev]
      rfl
    · rename_i t g' i hop
      split at hg
      · cases hg
      · rename_i hi
        cases hg
        have hne:i ≠ bigT:=fun e=>hi (by rw [e]; exact Nat.beq_refl _)
        simp only [execOp,hop,hev,hev2 i hne]
        rfl
    · rename_i t g' v hop
      cases hg
      simp only [execOp,hop,hev]
      rfl
    · rename_i t g' f hop
      cases hg
      simp only [execOp,hop,hev]
      rfl
    · cases hg
  have:=dop_ok (a:=a') (o:=⟨o.dst,op',o.type,o.pos,o.after,o.guard⟩) hs' hw h
  rw [hexec] at this
  exact step_value this hn
theorem stepA_ok (he:EnvOk E) (hcall:∀ g,CallP E g (plainC (E.plain g) (call g))) (hb:BaseOk E G hp w) (hs:SR G hp s a.tmps) (hw:WR G hp w) {r:AV×Heap} (h:stepA E call s hp o = some r) {next:Act→World→Prop} {Q:Exit→Act→World→Prop}
    (hn:∀ x w' G',AR G' r.2 r.1 x→WR G' r.2 w'→Sn G hp w G' r.2 w'→next (a.put o.dst x) w'):o.wp E.P a w next Q:=by
  have plainCase:dop E s hp o = some r→o.wp E.P a w next Q:=fun h=>step_value (dop_ok hs hw h) hn
  unfold stepA at h
  split at h
  case h_2 =>
    split at h
    · rename_i g op' hg
      simp only [Option.bind_eq_some_iff] at h
      obtain ⟨cs,hcs,h⟩:=h
      exact glob_ok he hb hs hw hg hcs h hn
    · exact plainCase h
  rename_i c hop
  split at h
  case h_2=>exact plainCase h
  rename_i f hc
  simp only [opCall,hc,Option.bind_eq_some_iff] at h
  obtain ⟨args,hargs,h⟩:=h
  have har:=args_rel hs hargs
  have hmap:c.args.map a.eval = (c.args.toList.map a.eval).toArray:=by apply Array.ext'; simp
  split at h
  · rename_i g fi ca hf
    split at h
    case isFalse=>cases h
    rename_i hno
    simp only [Bool.and_eq_true,Array.isEmpty_iff] at hno
    obtain ⟨rfl,rfl⟩:=hno
    have hv:a.eval f = .func (.func g) #[] #[]:=by have:=ev_rel hs hf; generalize a.eval f = z at this; cases this; rfl
    have hexec:(execOp a.eval o).run E.P w = (callFunc g (c.args.toList.map a.eval).toArray).run E.P w:=by
      simp [execOp,hop,resolve,hc,hv,Deferred.ofValue,invoke,hmap]
    split at h
    · rename_i hent
      rw [callFunc_enter hent] at hexec
      obtain ⟨v,hn'⟩:=r
      split at h
      · rename_i p hp_
        exact step_call hexec (via_ok (he.prim g p hp_) h hb hw har) hn
      · exact step_call hexec (via_ok (hcall g) h hb hw har) hn
    · split at h
      · rename_i p hp_
        obtain ⟨v,hn'⟩:=r
        obtain ⟨x,w',G',hrun,hx,hw',sn⟩:=he.extp g p hp_ args hp v hn' h G w _ hb hw har
        rw [hrun] at hexec
        exact step_value ⟨x,w',G',.inl ⟨hexec,hx⟩,hw',sn⟩ hn
      · simp only [Option.bind_eq_some_iff,Option.map_eq_some_iff] at h
        obtain ⟨vs,hvs,x,hx,z,hz,rfl⟩:=h
        have:=toV_all hvs har
        rw [this,he.ext g vs x hx w] at hexec
        exact step_value (OkV.same (v:=.v z) hw hexec (ofV_rel hz)) hn
  · rename_i g caps hf
    obtain ⟨us,hv,hcaps⟩:=ev_rel hs hf
    split at h
    case h_2=>cases h
    rename_i hent
    have hcr:All2 (VR G hp) (caps.map fun p=>V1.c (.ptr p.1 p.2)) us:=by
      clear hv h hf
      induction hcaps with
      | nil=>exact .nil
      | cons a _ ih=>exact .cons a ih
    have hexec:(execOp a.eval o).run E.P w = (callFunc g ((c.args.toList.map a.eval) ++ us).toArray).run E.P w:=by
      simp [execOp,hop,resolve,hc,hv,Deferred.ofValue,invoke,hmap]
    rw [callFunc_enter hent] at hexec
    obtain ⟨v,hn'⟩:=r
    exact step_call hexec (via_ok (hcall g) h hb hw (har.append hcr)) hn
  · cases h
structure Inv (n:Nat) (G0:Gh) (hp0:Heap) (w0:World) (st:St) (a:Act) (w:World):Prop where
  ex:∃ G,SR G st.hp st.sl a.tmps∧WR G st.hp w∧Sn G0 hp0 w0 G st.hp w
  size:a.tmps.size = n
  defers:a.defers = []
def setT (tmps:Array Value) (d:Option Tmp) (x:Value):Array Value :=
  match d with
  | some d=>tmps.setIfInBounds d x
  | none=>tmps
theorem setT_size (tmps:Array Value) (d:Option Tmp) (x:Value):(setT tmps d x).size = tmps.size:=by cases d <;> simp [setT]
theorem SR.put {d:Option Tmp} {v:AV} {x:Value} {tmps:Array Value} (hs:SR G hp s tmps) (hv:AR G hp v x) (hd:d.all (· < tmps.size) = true) :
    SR G hp (putO s d v) (setT tmps d x):=by
  cases d with
  | none=>exact hs
  | some d =>
    have hd:d < tmps.size:=by simpa using hd
    intro t
    simp only [putO,upd,setT,Array.getD_eq_getD_getElem?,Array.getElem?_setIfInBounds]
    by_cases e:t = d
    · subst e
      rw [if_pos rfl,if_pos rfl,if_pos hd]
      exact hv
    · rw [if_neg e,if_neg (Ne.symm e)]
      have:=hs t
      rwa [Array.getD_eq_getD_getElem?] at this
theorem put_tmps (a:Act) (d:Option Tmp) (x:Value):(a.put d x).tmps = setT a.tmps d x:=by cases d <;> rfl
theorem put_defers (a:Act) (d:Option Tmp) (x:Value):(a.put d x).defers = a.defers:=by cases d <;> rfl
theorem want_ok {all:List Oper} {ops:Array Oper} (hall:all = ops.toList) (hs:SR G hp s a.tmps) {b:Bool} (h:wantA all s o = some b):Region.wanted o (yielded ops a.tmps) = b:=by
  subst hall
  unfold wantA at h
  unfold Region.wanted
  split at h
  · rename_i hg; rw [hg]; simpa using h
  · rename_i j want hg
    rw [hg]
    split at h
    · rename_i d hd
      split at h
      · rename_i y hy
        cases h
        have hr:=hs d
        rw [hy] at hr
        have hv:a.tmps.getD d undef = .bool y:=by generalize a.tmps.getD d undef = z at hr; cases hr; rfl
        have hget:a.tmps[d]? = some (.bool y):=by
          rw [Array.getD_eq_getD_getElem?] at hv
          cases e:a.tmps[d]? with
          | none=>rw [e] at hv; simp [undef] at hv
          | some z=>rw [e] at hv; simp at hv; rw [hv]
        rw [Array.getElem?_toList] at hd
        simp [yielded,hd,hget]
      · rename_i hy
        cases h
        have hr:=hs d
        rw [hy] at hr
        have hv:a.tmps.getD d undef = .tuple #[]:=by
          generalize a.tmps.getD d undef = z at hr
          obtain ⟨vs,rfl,hvs⟩:=hr
          cases hvs
          rfl
        rw [Array.getElem?_toList] at hd
        cases e:a.tmps[d]? with
        | none=>simp [yielded,hd,e]
        | some z =>
          rw [Array.getD_eq_getD_getElem?,e] at hv
          simp only [Option.getD_some] at hv
          subst hv
          simp [yielded,hd,e]
      · cases h
    · cases h
theorem runOps_ok (he:EnvOk E) (hcall:∀ g,CallP E g (plainC (E.plain g) (call g))) {n:Nat} {G0:Gh} {hp0:Heap} {w0:World} (hb0:BaseOk E G0 hp0 w0) {ops:Array Oper} {Q:Exit→Act→World→Prop} {st':St}
    (hok:(ops.all fun o=>o.dst.all (· < n)) = true) :
    ∀ (os:List Oper) (i:Nat) (st:St) (a:Act) (w:World),ops.toList.drop i = os→runOps E call ops.toList os st = some st'→Inv n G0 hp0 w0 st a w →
      (∀ a' w',Inv n G0 hp0 w0 st' a' w'→Q .normal a' w')→wpOps E.P ops Q (List.range' i os.length) a w:=by
  intro os
  induction os with
  | nil =>
    intro i st a w _ hr hi hq
    simp only [runOps,Option.some.injEq] at hr
    subst hr
    exact hq a w hi
  | cons o os ih =>
    intro i st a w hd hr hi hq
    have hio:ops.toList[i]? = some o:=by
      have:=congrArg (·[0]?) hd
      simpa using this
    have hio':ops[i]? = some o:=by rw [Array.getElem?_toList] at hio; exact hio
    have hdn:ops.toList.drop (i + 1) = os:=by
      have:=congrArg List.tail hd
      simpa using this
    have hdst:o.dst.all (· < n) = true:=by
      have hm:o ∈ ops:=Array.mem_of_getElem? hio'
      have:=Array.all_eq_true'.1 hok o hm
      exact this
    simp only [List.length_cons,List.range'_succ,wpOps,hio']
    obtain ⟨⟨G,hs,hw,sn⟩,hsz,hdef⟩:=hi
    simp only [runOps] at hr
    split at hr
    · rename_i hwant
      rw [want_ok rfl hs hwant]
      simp only [if_true]
      split at hr
      · rename_i v h hstep
        left
        refine stepA_ok he hcall (hb0.mono sn) hs hw hstep fun x w' G' ha hw' sn'=>?_
        refine ih (i + 1) _ _ _ hdn hr ⟨⟨G',?_,hw',sn.trans sn'⟩,?_,by rw [put_defers,hdef]⟩ hq
        · rw [put_tmps]
          exact SR.put (fun t=>(hs t).mono sn') ha (by rw [hsz]; exact hdst)
        · rw [put_tmps]
          rw [setT_size,hsz]
      · cases hr
    · rename_i hwant
      rw [want_ok rfl hs hwant]
      simp only [Bool.false_eq_true,if_false]
      refine ih (i + 1) _ _ _ hdn hr ⟨⟨G,?_,hw,sn⟩,?_,by rw [put_defers,hdef]⟩ hq
      · rw [put_tmps]
        exact SR.put hs (v:=.tup []) ⟨[],rfl,.nil⟩ (by rw [hsz]; exact hdst)
      · rw [put_tmps]
        rw [setT_size,hsz]
    · cases hr
end
end Go.Ab
end
section
set_option linter.unusedVariables false
set_option linter.unusedSimpArgs false
namespace Go.Ab
open Go
section
variable {E:Env} {call:Caller}
def readsO (s:Nat→AV) (o:Oper):List Nat:=match o.op with | .load _ a=>(match evC s a with | some (.ptr k _)=>[k] | _=>[]) | .lookup _ x _ _=>(match evC s x with | some (.mp k)=>[k] | _=>[]) | .convert _ _ x=>(match evC s x with | some (.slc k _ _ _ _)=>[k] | _=>[]) | _=>[]
theorem map_nh {α:Type} (q:Option α) (f:α→AV) (h h0:Heap):q.map (fun v=>(f v,h)) = (q.map fun v=>(f v,h0)).map fun r=>(r.1,h):=by cases q <;> rfl
theorem bind_nh {α:Type} (q:Option α) (f g:α→Option (AV×Heap)) (h:Heap) (hh:∀ a,f a = (g a).map fun r=>(r.1,h)):q.bind f = (q.bind g).map fun r=>(r.1,h):=by cases q <;> simp [hh]
theorem lenA_nh {h h0:Heap} {d:TypeDesc} {x:V1} (hd:∀ a b,d ≠ .map a b):lenA h d x = lenA h0 d x:=by
  unfold lenA
  split <;> first | rfl | (exfalso; exact hd _ _ rfl)
theorem cutSlice_nh {s:Nat→AV} {h h0:Heap} {sz:Nat} {x:C} {lo hi:Option Operand} :
    ((cutSlice s h sz x lo hi none).bind fun r=>some (AV.v r.1,r.2)) = ((cutSlice s h0 sz x lo hi none).bind fun r=>some (AV.v r.1,r.2)).map fun r=>(r.1,h):=by
  cases x with
  | slc k off sz' len cap =>
    unfold cutSlice
    by_cases e:sz' = sz
    · simp only [e,if_true]
      cases (evB s len hi).bind fun i=>bnd i (cap.getD len) with
      | none=>rfl
      | some a =>
        cases h2:(evB s 0 lo).bind fun i=>bnd i a with
        | none=>simp [h2]
        | some b=>simp [h2]
    · simp only [e,if_false]; rfl
  | _ =>
    unfold cutSlice
    refine Eq.trans (Option.bind_assoc ..) (Eq.trans ?_ (congrArg _ (Option.bind_assoc ..).symm))
    refine bind_nh _ _ _ _ fun a=>?_
    obtain ⟨nl,es⟩:=a
    dsimp only
    by_cases hall:(es.all fun x=>x.length == sz) = true
    · rw [if_pos hall,if_pos hall]
      refine Eq.trans (Option.bind_assoc ..) (Eq.trans ?_ (congrArg _ (Option.bind_assoc ..).symm))
      refine bind_nh _ _ _ _ fun a=>?_
      refine Eq.trans (Option.bind_assoc ..) (Eq.trans ?_ (congrArg _ (Option.bind_assoc ..).symm))
      refine bind_nh _ _ _ _ fun b=>?_
      by_cases hl:(lo.isNone && hi.isNone) = true
      · rw [if_pos hl,if_pos hl]; rfl
      · rw [if_neg hl,if_neg hl]; rfl
    · rw [if_neg hall,if_neg hall]; rfl
theorem dop_nh {s:Nat→AV} {h h0:Heap} {o:Oper} (hn:neutralO E o = true) (hl:isLoad o = false):dop E s h o = (dop E s h0 o).map fun r=>(r.1,h):=by
  cases hop:o.op with
  | move x=>simp only [dop,hop]; exact map_nh _ _ _ _
  | assign x=>simp only [dop,hop]; exact map_nh _ _ _ _
  | pick c a b =>
    simp only [dop,hop]
    split
    · split <;> exact map_nh _ _ _ _
    · rfl
  | binOp op t x y z =>
    simp only [dop,hop]
    split
    · simp only [both]
      split
      · exact bind_nh _ _ _ _ fun a=>map_nh _ _ _ _
      · split
        · split <;> rfl
        · rfl
    · rfl
  | unOp op t x=>simp only [dop,hop]; exact bind_nh _ _ _ _ fun a=>bind_nh _ _ _ _ fun a=>map_nh _ _ _ _
  | makeInterface t x=>simp only [dop,hop]; exact bind_nh _ _ _ _ fun a=>bind_nh _ _ _ _ fun a=>map_nh _ _ _ _
  | nilCheck x=>simp only [dop,hop]; split <;> rfl
  | fieldAddr t x f =>
    simp only [dop,hop]
    split
    · refine bind_nh _ _ _ _ fun a=>bind_nh _ _ _ _ fun a=>?_
      split
      · rfl
      · split <;> rfl
    · rfl
  | field t x f =>
    simp only [dop,hop]
    split
    · refine bind_nh _ _ _ _ fun a=>bind_nh _ _ _ _ fun a=>bind_nh _ _ _ _ fun a=>?_
      split
      · exact map_nh _ _ _ _
      · rfl
    · rfl
  | indexAddr t x i =>
    simp only [dop,hop]
    split
    · refine bind_nh _ _ _ _ fun a=>?_
      split <;> rfl
    · refine bind_nh _ _ _ _ fun a=>?_
      split <;> rfl
    · split <;> rfl
    · refine bind_nh _ _ _ _ fun a=>?_
      refine bind_nh _ _ _ _ fun a=>?_
      split <;> rfl
    · rfl
  | index t x i =>
    simp only [dop,hop]
    split
    · split <;> rfl
    · refine bind_nh _ _ _ _ fun a=>bind_nh _ _ _ _ fun a=>?_
      split
      · exact map_nh _ _ _ _
      · rfl
    · rfl
  | extract t i =>
    simp only [dop,hop]
    split
    · exact map_nh _ _ _ _
    · rfl
  | slice t x lo hi mx =>
    cases mx with
    | some m=>simp [neutralO,hop,neutral] at hn
    | none =>
      simp only [dop,hop]
      split
      · exact bind_nh _ _ _ _ fun a=>bind_nh _ _ _ _ fun a=>rfl
      · exact bind_nh _ _ _ _ fun a=>cutSlice_nh
      · exact bind_nh _ _ _ _ fun a=>cutSlice_nh
      · split
        · exact bind_nh _ _ _ _ fun a=>cutSlice_nh
        · rfl
      · rfl
  | call c =>
    simp only [neutralO,hop,neutral] at hn
    split at hn
    · rename_i t r hc ht
      simp only [dop,hop,hc,builtinA,ht]
      refine bind_nh _ _ _ _ fun xs=>?_
      split
      · rename_i x t' ts heq hts
        cases hts
        split
        · split <;> rfl
        · rename_i d hd hd'
          have:∀ a b,d ≠ .map a b:=by rintro a b rfl; rw [hd'] at hn; cases hn
          rw [lenA_nh (h0:=h0) this]
          exact map_nh _ (fun n=>AV.int .i64 n) _ _
        · rfl
      all_goals first | rfl | (rename_i h1 h2; cases h1; done) | (rename_i h1; cases h1; done)
    · cases hn
  | load t a=>simp [isLoad,hop] at hl
  | lookup t x k ok=>simp [isLoad,hop] at hl
  | convert a b x=>simp [isLoad,hop] at hl
  | build t parts =>
    simp only [dop,hop]
    refine bind_nh _ _ _ _ fun ps=>bind_nh _ _ _ _ fun z=>?_
    split
    · exact bind_nh _ _ _ _ fun pl=>map_nh _ _ _ _
    · exact bind_nh _ _ _ _ fun n=>map_nh _ _ _ _
    · rfl
  | buildSlice t len parts =>
    simp only [neutralO,hop,Bool.and_eq_true,Bool.not_eq_true'] at hn
    simp only [dop,hop,newSlice,hn.1,hn.2,Bool.false_and,Bool.false_eq_true,if_false]
    refine bind_nh _ _ _ _ fun ps=>?_
    split
    · refine bind_nh _ _ _ _ fun n=>bind_nh _ _ _ _ fun z=>?_
      split
      · refine bind_nh _ _ _ _ fun cs=>?_
        cases cs.mapM C.toD <;> rfl
      · rfl
    · rfl
  | _=>simp [neutralO,hop,neutral] at hn
theorem stepA_neutral {s:Nat→AV} {h:Heap} {o:Oper} (hn:neutralG E o = true):stepA E call s h o = dop E s h o:=by
  simp only [neutralG,Bool.and_eq_true,Option.isNone_iff_eq_none] at hn
  obtain ⟨hg,hn⟩:=hn
  unfold stepA
  split
  · rename_i c hop
    split
    · rename_i f hc
      simp only [neutralO,hop,neutral,hc] at hn
      cases hn
    · rfl
  · rw [hg]
theorem dop_load {s:Nat→AV} {h:Heap} {o:Oper} {r:AV×Heap} (hn:neutralO E o = true) (hl:isLoad o = true) (hr:dop E s h o = some r) :
    r.2 = h∧∀ h2,(∀ k ∈ readsO s o,h2[k]? = h[k]?)→dop E s h2 o = some (r.1,h2):=by
  unfold isLoad at hl
  split at hl
  case h_4=>cases hl
  case h_3 =>
    rename_i a b x hop
    have key:∀ h2,(∀ k ∈ readsO s o,h2[k]? = h[k]?)→dop E s h2 o = (dop E s h o).map fun r=>(r.1,h2):=by
      intro h2 hk2
      simp only [readsO,hop] at hk2
      simp only [neutralO,hop] at hn
      simp only [dop,hop]
      split
      · rename_i e bs hu1 hu2 hx
        split
        · rw [hu2] at hn
          simp only [Bool.and_eq_true,Bool.not_eq_true'] at hn
          simp only [hn.1,hn.2,Bool.false_eq_true,if_false,Option.map_some]
        · rfl
      · rename_i e y hu1 hu2 hx
        split
        · have hl2:listOf h2 y = listOf h y:=by
            cases y with
            | slc k off sz len cap =>
              have hx':evC s x = some (.slc k off sz len cap):=by
                unfold ev1 at hx
                unfold evC
                cases he:ev s x with
                | none=>rw [he] at hx; cases hx
                | some z =>
                  rw [he] at hx
                  cases z with
                  | v z=>cases hx; rfl
                  | _=>cases hx
              have:=hk2 k (by simp [hx'])
              simp only [listOf,slcCells,this]
            | _=>rfl
          rw [hl2]
          refine bind_nh _ _ _ _ fun es=>bind_nh _ _ _ _ fun bs=>rfl
        · rfl
      · rename_i e e2 k off sz len cap hu1 hu2 hx
        have hx':evC s x = some (.slc k off sz len cap):=by
          unfold ev1 at hx
          unfold evC
          cases he:ev s x with
          | none=>rw [he] at hx; cases hx
          | some z =>
            rw [he] at hx
            cases z with
            | v z=>cases hx; rfl
            | _=>cases hx
        have h3:=hk2 k (by simp [hx'])
        rw [h3]
        split
        · split <;> rfl
        · rfl
      · split
        · split
          · split
            · split
              · rename_i hrow
                exfalso
                simp_all
              · rfl
            · rfl
          · rfl
        · rfl
      · exact bind_nh _ _ _ _ fun v=>bind_nh _ _ _ _ fun r=>map_nh _ _ _ _
      · rfl
    refine ⟨?_,fun h2 hk2=>by rw [key h2 hk2,hr]; rfl⟩
    have q:=key h fun _ _=>rfl
    rw [hr] at q
    have q2:r = (r.1,h):=Option.some.inj q
    exact congrArg Prod.snd q2
  case h_2 =>
    rename_i t x k ok hop
    have key:∀ h2,(∀ k ∈ readsO s o,h2[k]? = h[k]?)→dop E s h2 o = (dop E s h o).map fun r=>(r.1,h2):=by
      intro h2 hk2
      simp only [readsO,hop] at hk2
      simp only [dop,hop]
      split
      · refine bind_nh _ _ _ _ fun key=>bind_nh _ _ _ _ fun kd=>?_
        split
        · refine bind_nh _ _ _ _ fun z=>?_
          cases hx:evC s x with
          | none=>rfl
          | some y =>
            cases y with
            | mp m =>
              have:=hk2 m (by simp [hx])
              simp only [this]
              cases h[m]? with
              | none=>rfl
              | some ob =>
                cases ob with
                | amap kvs =>
                  simp only [Option.bind_eq_bind]
                  cases findK key kvs with
                  | none=>rfl
                  | some r=>cases ok <;> rfl
                | _=>rfl
            | d y =>
              cases y with
              | sc v =>
                cases v with
                | map b=>cases b with
                  | none=>cases ok <;> rfl
                  | some b=>rfl
                | _=>rfl
              | lst nl es=>rfl
            | _=>rfl
        · rfl
      · rfl
    refine ⟨?_,fun h2 hk2=>by rw [key h2 hk2,hr]; rfl⟩
    have q:=key h fun _ _=>rfl
    rw [hr] at q
    have q2:r = (r.1,h):=Option.some.inj q
    exact congrArg Prod.snd q2
  rename_i t a hop
  simp only [readsO,hop]
  simp only [dop,hop] at hr ⊢
  simp only [Option.bind_eq_bind,Option.bind_eq_some_iff] at hr ⊢
  obtain ⟨n,hn1,g,hg,hr⟩:=hr
  split at hr
  · rename_i k off hk
    split at hr
    · rename_i cs hcs
      split at hr
      · rename_i hc
        simp only [Option.map_eq_some_iff] at hr
        obtain ⟨v,hv,rfl⟩:=hr
        refine ⟨rfl,fun h2 hk2=>⟨n,hn1,g,hg,?_⟩⟩
        have:=hk2 k (by simp [hk])
        simp only [hk,this,hcs,hc,if_true,hv,Option.map_some]
        simp
      · cases hr
    · cases hr
  · rename_i cs off hk
    split at hr
    · rename_i hc
      simp only [Option.map_eq_some_iff] at hr
      obtain ⟨v,hv,rfl⟩:=hr
      refine ⟨rfl,fun h2 hk2=>⟨n,hn1,g,hg,?_⟩⟩
      simp only [hk,hc,if_true,hv,Option.map_some]
      simp
    · cases hr
  · cases hr
theorem dop_neutral {s:Nat→AV} {h:Heap} {o:Oper} {r:AV×Heap} (hn:neutralO E o = true) (hr:dop E s h o = some r) :
    r.2 = h∧∀ h2,(∀ k ∈ readsO s o,h2[k]? = h[k]?)→dop E s h2 o = some (r.1,h2):=by
  cases hl:isLoad o with
  | true=>exact dop_load hn hl hr
  | false =>
    have h1:r.2 = h:=by
      have q:=dop_nh (s:=s) (h:=h) (h0:=h) hn hl
      rw [hr] at q
      have q2:r = (r.1,h):=Option.some.inj q
      exact congrArg Prod.snd q2
    exact ⟨h1,fun h2 _=>by rw [dop_nh (h0:=h) hn hl,hr]; rfl⟩
theorem core_neutral {all:List Oper} {s:Nat→AV} {h:Heap} {o:Oper} {r:AV×Heap} (hn:neutralG E o = true) (hr:coreA E call all s h o = some r) :
    r.2 = h∧∀ h2,(∀ k ∈ readsO s o,h2[k]? = h[k]?)→coreA E call all s h2 o = some (r.1,h2):=by
  unfold coreA at hr ⊢
  cases hw:wantA all s o with
  | none=>rw [hw] at hr; cases hr
  | some b =>
    rw [hw] at hr
    cases b with
    | false=>simp only [Option.some.injEq] at hr; subst hr; exact ⟨rfl,fun h2 _=>rfl⟩
    | true =>
      simp only [stepA_neutral hn] at hr ⊢
      exact dop_neutral (by simp only [neutralG,Bool.and_eq_true] at hn; exact hn.2) hr
theorem foot_neutral {s:Nat→AV} {h h':Heap} {o:Oper} (hn:neutralG E o = true):footA E s h h' o = foot0 (readsO s o):=by
  unfold footA readsO
  rw [if_pos hn]
  clear hn
  generalize o.op = q
  cases q <;> first | rfl | (simp only; split <;> simp_all)
theorem eqV_ok {a b:Value} (h:eqV a b = true):a = b:=by
  unfold eqV at h
  split at h <;> simp_all
  all_goals exact ByteArray.ext (by assumption)
theorem eqL_ok {α:Type} {f:α→α→Bool} (hf:∀ a b,f a b = true→a = b):∀ {l m:List α},eqL f l m = true→l = m:=by
  intro l
  induction l with
  | nil=>intro m h; cases m with
    | nil=>rfl
    | cons b m=>simp [eqL] at h
  | cons a l ih=>intro m h; cases m with
    | nil=>simp [eqL] at h
    | cons b m =>
      simp only [eqL,Bool.and_eq_true] at h
      rw [hf _ _ h.1,ih h.2]
theorem eqD_ok:∀ (n:Nat) (a b:D),eqD n a b = true→a = b:=by
  intro n
  induction n with
  | zero =>
    intro a b h
    cases a <;> cases b <;> simp only [eqD,Bool.false_eq_true] at h
    rw [eqV_ok h]
  | succ n ih =>
    intro a b h
    cases a <;> cases b <;> simp only [eqD,Bool.false_eq_true,Bool.and_eq_true,beq_iff_eq] at h
    · rw [eqV_ok h]
    · rw [h.1,eqL_ok (fun _ _=>eqL_ok ih) h.2]
theorem eqC_ok {a b:C} (h:eqC a b = true):a = b:=by
  unfold eqC at h
  split at h
  · rw [eqD_ok _ _ _ h]
  · simp only [Bool.and_eq_true,beq_iff_eq] at h
    rw [h.1.1,h.1.2,eqL_ok (fun _ _=>eqL_ok (eqD_ok 9)) h.2]
  all_goals simp_all
theorem eqV1_ok {a b:V1} (h:eqV1 a b = true):a = b:=by
  unfold eqV1 at h
  split at h
  · rw [eqC_ok h]
  · rw [eqL_ok (fun _ _=>eqC_ok) h]
  · cases h
theorem eqOb_ok {a b:Ob} (h:eqOb a b = true):a = b:=by
  unfold eqOb at h
  split at h
  · rw [eqL_ok (fun _ _=>eqC_ok) h]
  · simp_all
  · refine congrArg Ob.amap (eqL_ok (fun x y h=>?_) h)
    simp only [Bool.and_eq_true] at h
    exact Prod.ext (eqV_ok h.1) (eqV1_ok h.2)
  · simp only [Bool.and_eq_true,beq_iff_eq] at h
    rw [h.2,ByteArray.ext (Array.ext' h.1)]
  · cases h
theorem eqO_ok {a b:Option Ob} (h:eqO a b = true):a = b:=by
  unfold eqO at h
  split at h
  · rw [eqOb_ok h]
  · rfl
  · cases h
theorem restr_put {all:List Oper} {x y:Oper} {s:Nat→AV} {v:AV} (h:∀ d,x.dst = some d→(lookL all y).contains d = false):restr (lookL all y) (putO s x.dst v) = restr (lookL all y) s:=by
  cases hd:x.dst with
  | none=>rfl
  | some d =>
    funext t
    simp only [restr,putO,upd]
    by_cases e:t = d
    · subst e; rw [h t hd]; simp
    · rw [if_neg e]
theorem put_comm {s:Nat→AV} {d e:Option Nat} {v u:AV} (h:∀ a,d = some a→e ≠ some a):putO (putO s d v) e u = putO (putO s e u) d v:=by
  cases d with
  | none=>rfl
  | some a =>
    cases e with
    | none=>rfl
    | some b =>
      have:b ≠ a:=fun hh=>h a rfl (by rw [hh])
      funext t
      simp only [putO,upd]
      by_cases h1:t = a
      · subst h1; rw [if_neg (Ne.symm this)]; simp
      · by_cases h2:t = b
        · subst h2; simp [h1]
        · simp [h1,h2]
theorem apart_ok {all:List Oper} {x y:Oper} (h:apartB all x y = true) :
    (∀ d,x.dst = some d→(lookL all y).contains d = false)∧(∀ d,y.dst = some d→(lookL all x).contains d = false)∧(∀ a,x.dst = some a→y.dst ≠ some a):=by
  unfold apartB at h
  cases hx:x.dst with
  | none=>cases hy:y.dst with
    | none=>simp
    | some e=>rw [hx,hy] at h; simp at h; simp [h]
  | some d=>cases hy:y.dst with
    | none=>rw [hx,hy] at h; simp at h; simp [h]
    | some e =>
      rw [hx,hy] at h
      simp at h
      obtain ⟨⟨h1,h2⟩,h3⟩:=h
      simp [h1,h2,h3]
theorem set_get_ne {hp:Heap} {k j:Nat} {o:Ob} (h:k ≠ j):(hp.set j o)[k]? = hp[k]? := List.getElem?_set_ne (Ne.symm h)
theorem app_get {hp:Heap} {k:Nat} {l:List Ob} (h:k < hp.length):(hp ++ l)[k]? = hp[k]? := List.getElem?_append_left h
theorem append_frame {P:Program} {hard:Bool} {hp:Heap} {t:TypeId} {x:C} {src:List (List D)} {r:V1×Heap} (h:appendA P hard hp t x src = some r) {k:Nat} (hlt:k < hp.length) (hk:k ∉ x.refs):r.2[k]? = hp[k]? := by
  have own:∀ (hd:Bool) sz es,(newOwn hd hp sz es).2[k]? = hp[k]? := fun hd sz es=>by
    unfold newOwn
    split <;> exact app_get hlt
  unfold appendA at h
  split at h
  case h_2=>cases h
  split at h
  case h_2=>cases h
  split at h
  case isFalse=>cases h
  split at h
  · rename_i nl es j
    have hj:k ≠ j:=by simpa [C.refs] using hk
    split at h
    · cases h; rfl
    · split at h
      · split at h
        · cases h; exact own _ _ _
        · split at h
          · cases h; exact set_get_ne hj
          · cases h
      · cases h
  · split at h
    · cases h; rfl
    · split at h
      · cases h; exact own _ _ _
      · cases h
  · rename_i j off sz' len cap
    have hj:k ≠ j:=by simpa [C.refs] using hk
    split at h
    · cases h; rfl
    · split at h
      · simp only [Option.bind_eq_some_iff] at h
        obtain ⟨es,_,h⟩:=h
        split at h
        · cases h; exact own _ _ _
        · cases h
      · split at h
        · split at h
          · split at h
            · cases h; exact set_get_ne hj
            · cases h
          · cases h
        · cases h
  · rename_i j off sz' len
    have hj:k ≠ j:=by simpa [C.refs] using hk
    split at h
    · cases h; rfl
    · split at h
      · simp only [Option.bind_eq_some_iff] at h
        obtain ⟨es,_,h⟩:=h
        split at h
        · cases h
          show (hp.set j .gone ++ _)[k]? = hp[k]?
          rw [List.getElem?_append_left (by simpa using hlt)]
          exact set_get_ne hj
        · cases h
      · cases h
  · cases h
theorem appendZ_frame {P:Program} {hard:Bool} {hp:Heap} {t:TypeId} {x:C} {y:V1} {r:V1×Heap} (h:appendZ P hard hp t x y = some r) {k:Nat} (hlt:k < hp.length):r.2[k]? = hp[k]? := by
  unfold appendZ at h
  split at h
  · split at h
    · split at h
      · cases h; exact app_get hlt
      · cases h
    · cases h
  · split at h
    · split at h
      · cases h; exact app_get hlt
      · cases h
    · cases h
  · cases h
theorem appendN_frame {P:Program} {hard:Bool} {hp:Heap} {t:TypeId} {x:C} {y:V1} {r:V1×Heap} (h:appendN P hard hp t x y = some r) {k:Nat} (hlt:k < hp.length) (hn:k ∉ C.refs x):r.2[k]? = hp[k]? := by
  unfold appendN at h
  split at h
  · split at h
    · split at h
      · exact append_frame h hlt hn
      · cases h
    · cases h
  · cases h
theorem chg_ok {all:List Oper} {s:Nat→AV} {h h1:Heap} {y:Oper} {vy:AV} (hst:coreA E call all s h y = some (vy,h1)) {k:Nat} (hlt:k < h.length) (hc:chgA s h h1 y k = false):h1[k]? = h[k]? := by
  have eqs:(!(eqO h[k]? h1[k]?)) = false→h1[k]? = h[k]? := fun hc=>(eqO_ok (by simpa using hc)).symm
  unfold chgA at hc
  split at hc
  case h_2=>exact eqs hc
  rename_i c hop
  split at hc
  case h_2=>exact eqs hc
  rename_i a0 as hcal hargs
  split at hc
  case h_2=>cases hc
  rename_i v hv
  by_cases hin:v.refs.contains k = true
  · rw [hin] at hc
    exact eqs (by simpa using hc)
  · have hnot:k ∉ v.refs:=by simpa using hin
    unfold coreA at hst
    split at hst
    · simp only [stepA,hop,hcal,dop,builtinA,Option.bind_eq_bind,Option.bind_eq_some_iff] at hst
      obtain ⟨xs,hxs,hst⟩:=hst
      rw [hargs] at hxs
      simp only [List.mapM_cons,Option.pure_def,Option.bind_eq_bind,Option.bind_eq_some_iff,Option.some.injEq] at hxs
      obtain ⟨x0,hx0,xr,_,rfl⟩:=hxs
      rw [hv] at hx0
      cases hx0
      split at hst <;> first | (cases hst; done) | skip
      all_goals first | (rename_i h2 _ _; cases h2; done) | (rename_i h2 _; cases h2; done) | (rename_i h2; cases h2; done) | skip
      rename_i x y0 t1 t2 tl _ hxy _
      cases hxy
      have hnx:k ∉ C.refs x:=by simpa [V1.refs,V1.cells] using hnot
      split at hst
      · simp only [Option.map_eq_some_iff] at hst
        obtain ⟨r,hr,hst⟩:=hst
        cases hst
        split at hr
        · exact appendZ_frame hr hlt
        · exact appendN_frame hr hlt hnx
      · simp only [Option.bind_eq_some_iff,Option.map_eq_some_iff] at hst
        obtain ⟨src,_,r,hr,hst⟩:=hst
        cases hst
        exact append_frame hr hlt hnx
      · cases hst
    · cases hst; rfl
    · cases hst
theorem pair_ok {s s':Nat→AV} {h h1:Heap} {x y:Oper} (hn:neutralG E x = true) (hm:neutralG E y = false) {h' h2:Heap}
    {all:List Oper} {vy:AV} (hst:coreA E call all s h y = some (vy,h1)) (hp:pairOk (footA E s' h' h2 x) (footA E s h h1 y) = true):∀ k ∈ readsO s' x,h1[k]? = h[k]? := by
  rw [foot_neutral hn] at hp
  have:footA E s h h1 y = (none,h.length,chgA s h h1 y):=by unfold footA; simp [hm]
  rw [this] at hp
  intro k hk
  unfold pairOk foot0 at hp
  simp only [List.all_eq_true,Bool.and_eq_true,decide_eq_true_eq,Bool.not_eq_true'] at hp
  obtain ⟨hlt,hnot⟩:=hp k hk
  exact chg_ok hst hlt hnot
theorem swap {all:List Oper} {x y:Oper} {Fx Fy:Foot} {st st1 st2:St} (ha:apartB all x y = true) (hk:(neutralG E x || neutralG E y) = true)
    (hx:stepR E call all x st = some st1) (hfx:footA E (restr (lookL all x) st.sl) st.hp st1.hp x = Fx) (hy:stepR E call all y st1 = some st2) (hfy:footA E (restr (lookL all y) st1.sl) st1.hp st2.hp y = Fy)
    (p1:neutralG E x = true→neutralG E y = false→pairOk Fx Fy = true) (p2:neutralG E y = true→neutralG E x = false→pairOk Fy Fx = true) :
    ∃ st1',stepR E call all y st = some st1'∧footA E (restr (lookL all y) st.sl) st.hp st1'.hp y = Fy∧stepR E call all x st1' = some st2∧footA E (restr (lookL all x) st1'.sl) st1'.hp st2.hp x = Fx:=by
  obtain ⟨a1,a2,a3⟩:=apart_ok ha
  simp only [stepR,Option.map_eq_some_iff] at hx hy
  obtain ⟨⟨vx,h1⟩,hx,rfl⟩:=hx
  obtain ⟨⟨vy,h2⟩,hy,rfl⟩:=hy
  simp only [restr_put a1] at hy hfy
  have fin:∀ hy':Heap,coreA E call all (restr (lookL all y) st.sl) st.hp y = some (vy,hy')→footA E (restr (lookL all y) st.sl) st.hp hy' y = Fy →
      coreA E call all (restr (lookL all x) st.sl) hy' x = some (vx,h2)→footA E (restr (lookL all x) st.sl) hy' h2 x = Fx →
      ∃ st1',stepR E call all y st = some st1'∧footA E (restr (lookL all y) st.sl) st.hp st1'.hp y = Fy∧stepR E call all x st1' = some ⟨putO (putO st.sl x.dst vx) y.dst vy,h2⟩∧footA E (restr (lookL all x) st1'.sl) st1'.hp h2 x = Fx:=by
    intro hy' q1 q2 q3 q4
    refine ⟨⟨putO st.sl y.dst vy,hy'⟩,by simp [stepR,q1],q2,?_,?_⟩
    · simp only [stepR,restr_put a2,q3,Option.map_some]
      rw [put_comm (fun a h=>a3 a h)]
    · simp only [restr_put a2]; exact q4
  cases hnx:neutralG E x with
  | true =>
    obtain ⟨e1,kx⟩:=core_neutral hnx hx
    simp only at e1
    subst e1
    cases hny:neutralG E y with
    | true =>
      obtain ⟨e2,ky⟩:=core_neutral hny hy
      simp only at e2
      subst e2
      exact fin _ hy hfy hx hfx
    | false =>
      refine fin h2 hy hfy (kx h2 (pair_ok (h':=st.hp) (h2:=st.hp) (s':=restr (lookL all x) st.sl) (s:=restr (lookL all y) st.sl) hnx hny hy ?_)) ?_
      · rw [hfx,hfy]; exact p1 hnx hny
      · rw [foot_neutral hnx] at hfx ⊢; exact hfx
  | false =>
    cases hny:neutralG E y with
    | false=>rw [hnx,hny] at hk; simp at hk
    | true =>
      obtain ⟨e2,ky⟩:=core_neutral hny hy
      simp only at e2
      subst e2
      have hrd:=pair_ok (h':=h2) (h2:=h2) (s':=restr (lookL all y) st.sl) (s:=restr (lookL all x) st.sl) hny hnx hx (by rw [hfx,hfy]; exact p2 hny hnx)
      refine fin st.hp (ky st.hp fun k hk=>(hrd k hk).symm) ?_ hx hfx
      rw [foot_neutral hny] at hfy ⊢; exact hfy
def RunT (E:Env) (call:Caller) (all:List Oper) (F:Nat→Foot):List Nat→St→St→Prop
  | [],st,st'=>st = st'
  | i :: r,st,st'=>∃ o,all[i]? = some o∧∃ st1,footA E (restr (lookL all o) st.sl) st.hp st1.hp o = F i∧stepR E call all o st = some st1∧RunT E call all F r st1 st'
def Indep (E:Env) (all:List Oper) (F:Nat→Foot) (i j:Nat):Prop :=
  ∀ x y,all[i]? = some x→all[j]? = some y→apartB all x y = true∧(neutralG E x || neutralG E y) = true ∧
    (neutralG E x = true→neutralG E y = false→pairOk (F i) (F j) = true)∧(neutralG E y = true→neutralG E x = false→pairOk (F j) (F i) = true)
theorem bubble {all:List Oper} {F:Nat→Foot} {i:Nat} {r2:List Nat}:∀ {r1:List Nat} {st st':St},(∀ j ∈ r1,Indep E all F j i)→RunT E call all F (r1 ++ i :: r2) st st'→RunT E call all F (i :: (r1 ++ r2)) st st':=by
  intro r1
  induction r1 with
  | nil=>intro st st' _ h; exact h
  | cons j r1 ih =>
    intro st st' hi h
    obtain ⟨x,hx,st1,fx,hst1,h⟩:=h
    obtain ⟨y,hy,st2,fy,hst2,h⟩:=ih (fun k hk=>hi k (List.mem_cons_of_mem _ hk)) h
    obtain ⟨c1,c2,c3,c4⟩:=hi j (List.mem_cons_self ..) x y hx hy
    obtain ⟨st1',q1,q2,q3,q4⟩:=swap c1 c2 hst1 fx hst2 fy c3 c4
    exact ⟨y,hy,st1',q2,q1,x,hx,st2,q4,q3,h⟩
theorem runT_of {all:List Oper}:∀ {os:List Oper} {i:Nat} {st:St} {r:St×List Foot} {F:Nat→Foot},all.drop i = os→runD E call all os st = some r→(∀ k,k < os.length→F (i + k) = r.2.getD k (foot0 [])) →
    RunT E call all F (List.range' i os.length) st r.1:=by
  intro os
  induction os with
  | nil=>intro i st r F _ h _; simp only [runD,Option.some.injEq] at h; subst h; rfl
  | cons o os ih =>
    intro i st r F hd h hF
    simp only [runD,Option.bind_eq_some_iff,Option.map_eq_some_iff] at h
    obtain ⟨st1,h1,r1,h2,rfl⟩:=h
    have hio:all[i]? = some o:=by
      have:=congrArg (·[0]?) hd
      simpa using this
    have hdn:all.drop (i + 1) = os:=by
      have:=congrArg List.tail hd
      simpa using this
    simp only [List.length_cons,List.range'_succ]
    refine ⟨o,hio,st1,?_,h1,ih hdn h2 fun k hk=>?_⟩
    · have:=hF 0 (by simp)
      simpa using this.symm
    · have:=hF (k + 1) (by simp; exact hk)
      rw [show i + 1 + k = i + (k + 1) by omega,this]
      simp
section
variable {ops:Array Oper} {T:List (List Nat)} {listed:Array Bool} {md:Region.Mode}
theorem strong_binds {e:Edge} (h:strongB e = true) (md:Region.Mode):Region.binds md e = true:=by
  simp only [strongB,Bool.and_eq_true] at h
  cases md
  · exact h.1.1
  · exact h.1.2
  · exact h.2
def Closed (ops:Array Oper) (listed:Array Bool):Prop:=∀ i o,ops[i]? = some o→listed.getD i false = true→∀ e ∈ o.after,strongB e = true→listed.getD e.on false = true
theorem befores_get (hT:beforesOk ops.toList T = true) {i:Nat} {o:Oper} (ho:ops[i]? = some o):(∀ e ∈ o.after,strongB e = true→e.on < i)∧∀ k ∈ T.getD i [],∃ e ∈ o.after,strongB e = true∧(e.on = k∨k ∈ T.getD e.on []):=by
  have hi:i < ops.size:=by
    rw [Array.getElem?_eq_some_iff] at ho
    exact ho.1
  have:=List.all_eq_true.1 hT i (by simpa using hi)
  rw [Array.getElem?_toList,ho] at this
  simp only [Bool.and_eq_true,List.all_eq_true,List.any_eq_true,decide_eq_true_eq,Bool.or_eq_true,beq_iff_eq,List.contains_iff_mem] at this
  refine ⟨fun e he hs=>(this.1 e (by simpa using he)).resolve_left (by simp [hs]),fun k hk=>?_⟩
  obtain ⟨e,he,h1,h2⟩:=this.2 k hk
  exact ⟨e,by simpa using he,h1,h2⟩
theorem befores_listed (hT:beforesOk ops.toList T = true) (hc:Closed ops listed):∀ (i:Nat) (o:Oper),ops[i]? = some o→(∀ e ∈ o.after,strongB e = true→listed.getD e.on false = true)→∀ k ∈ T.getD i [],listed.getD k false = true:=by
  intro i
  induction i using Nat.strongRecOn with
  | ind i ih =>
    intro o ho hp k hk
    obtain ⟨h1,h2⟩:=befores_get hT ho
    obtain ⟨e,he,hs,h⟩:=h2 k hk
    have hl:=hp e he hs
    rcases h with rfl | h
    · exact hl
    · have hlt:=h1 e he hs
      have hsz:e.on < ops.size:=by
        have:i < ops.size:=by rw [Array.getElem?_eq_some_iff] at ho; exact ho.1
        omega
      exact ih e.on hlt ops[e.on] (by simp [hsz]) (hc e.on _ (by simp [hsz]) hl) k h
theorem mem_ready {i:Nat} (hsz:listed.size = ops.size):i ∈ Region.ready md ops listed ↔ i < ops.size∧listed.getD i false = false∧∃ o,ops[i]? = some o∧∀ e ∈ o.after,Region.binds md e = true→listed.getD e.on false = true:=by
  simp only [Region.ready,List.mem_filter,List.mem_range,Bool.and_eq_true,Bool.not_eq_true']
  constructor
  · rintro ⟨h1,h2,h3⟩
    have h2':listed.getD i false = false:=by
      have hi:i < listed.size:=by omega
      simp [Array.getD,hi] at h2 ⊢
      exact h2
    refine ⟨h1,h2',ops[i],by simp [h1],?_⟩
    have ho:ops[i]? = some ops[i]:=by simp [h1]
    rw [ho] at h3
    simp only [Option.map_some,Option.getD_some,Array.all_eq_true',Bool.or_eq_true,Bool.not_eq_true'] at h3
    intro e he hb
    rcases h3 e he with h | h
    · rw [hb] at h; cases h
    · exact h
  · rintro ⟨h1,h2,o,ho,h3⟩
    have h2':listed.getD i true = false:=by
      have hi:i < listed.size:=by omega
      simp [Array.getD,hi] at h2 ⊢
      exact h2
    refine ⟨h1,h2',?_⟩
    rw [ho]
    simp only [Option.map_some,Option.getD_some,Array.all_eq_true',Bool.or_eq_true,Bool.not_eq_true']
    intro e he
    cases hb:Region.binds md e with
    | false=>exact .inl rfl
    | true=>exact .inr (h3 e he hb)
def remOf (ops:Array Oper) (listed:Array Bool):List Nat:=(List.range ops.size).filter fun i => !listed.getD i false
theorem remOf_sorted:(remOf ops listed).Pairwise (· < ·):=List.Pairwise.filter _ List.pairwise_lt_range
theorem remOf_set {i:Nat} {r1 r2:List Nat} (hsz:listed.size = ops.size) (h:remOf ops listed = r1 ++ i :: r2):remOf ops (listed.setIfInBounds i true) = r1 ++ r2:=by
  have hmem:i ∈ remOf ops listed:=by rw [h]; simp
  have hi:i < ops.size:=by
    simp only [remOf,List.mem_filter,List.mem_range] at hmem
    exact hmem.1
  have h1:remOf ops (listed.setIfInBounds i true) = (remOf ops listed).filter (fun j=>j != i):=by
    simp only [remOf,List.filter_filter]
    apply List.filter_congr
    intro j hj
    simp only [Array.getD_eq_getD_getElem?,Array.getElem?_setIfInBounds]
    by_cases e:i = j
    · subst e
      simp [hsz,hi]
    · simp [e,Ne.symm e]
  have hs:=remOf_sorted (ops:=ops) (listed:=listed)
  rw [h] at hs
  rw [h1,h]
  rw [List.pairwise_append] at hs
  obtain ⟨_,hs2,hs3⟩:=hs
  rw [List.pairwise_cons] at hs2
  simp only [List.filter_append,List.filter_cons,bne_self_eq_false,Bool.false_eq_true,if_false]
  rw [List.filter_eq_self.2,List.filter_eq_self.2]
  · intro a ha
    have:=hs2.1 a ha
    simp; omega
  · intro a ha
    have:=hs3 a ha i (by simp)
    simp; omega
theorem alloc_wp {a:Act} {w:World} {o:Oper} {t:TypeId} {z:Value} {next:Act→World→Prop} {Q:Exit→Act→World→Prop} (hop:o.op = .alloc t) (hz:zeroP E.P t = some z)
    (hn:next (a.put o.dst (.pointer (some ⟨w.heap.size,0,none⟩))) (w.alloc (.cells z.cells t))):o.wp E.P a w next Q:=by
  have:(execOp a.eval o).run E.P w = .ok (.value (.pointer (some ⟨w.heap.size,0,none⟩))) (w.alloc (.cells z.cells t)):=by
    simp only [execOp,hop]
    refine run_val ?_
    simp [Instr.alloc,run_zeroValue hz,newVar,newRow]
  unfold Oper.wp
  rw [this]
  exact hn
structure PInv (E:Env) (n:Nat) (G0:Gh) (hp0:Heap) (w0:World) (st:St) (a:Act) (w:World) (d:Nat) (t:TypeId) (z:Value):Prop where
  ex:∃ G b,(∀ s,s ≠ d→AR G st.hp (st.sl s) (a.tmps.getD s undef))∧WR G st.hp w∧Sn G0 hp0 w0 G st.hp w∧a.tmps.getD d undef = .pointer (some ⟨b,0,none⟩) ∧
    w.heap[b]? = some (.cells z.cells t)∧w0.heap.size≤b∧(∀ k,k < st.hp.length→¬ (G.β k).at b)∧∀ i,G.μ b i = none
  size:a.tmps.size = n
  defers:a.defers = []
theorem OR.up {G G':Gh} {hp hp':Heap} {w:World} {k:Nat} {o:Ob} (u:Up G hp G' hp') (hb:G'.β k = G.β k) (hm:G'.μ = G.μ) (h:OR G hp w k o):OR G' hp' w k o:=by
  cases o with
  | cells cs =>
    obtain ⟨b,vs,t,fz,h1,h2,h3,h4,h5,h6,h7⟩:=h
    exact ⟨b,vs,t,fz,by rw [hb]; exact h1,h2,h3,h4,fun i c v hc hv=>(h5 i c v hc hv).up u,fun i=>by rw [hm]; exact h6 i,by rw [hb]; exact h7⟩
  | gone=>exact hb.trans h
  | row n rsz =>
    simp only [OR,hb,hm] at h ⊢
    exact h
  | amap kvs =>
    obtain ⟨b,es,clock,h1,h2,h3,h4⟩:=h
    exact ⟨b,es,clock,by rw [hb]; exact h1,h2,h3.mono fun _ _ r=>⟨r.1,r.2.up u⟩,fun i=>by rw [hm]; exact h4 i⟩
  | siter s p =>
    obtain ⟨b,h1,h2,h3⟩:=h
    exact ⟨b,by rw [hb]; exact h1,h2,fun i=>by rw [hm]; exact h3 i⟩
theorem discharge {n:Nat} {G0:Gh} {hp0:Heap} {w0:World} {st st1:St} {a:Act} {w:World} {all:List Oper} {o:Oper} {d:Nat} {t:TypeId} {z:Value}
    (hop:o.op = .alloc t) (hao:E.aown o.pos = false) (hg:o.guard = none) (hd:o.dst = some d) (hz:zeroP E.P t = some z) (hi:PInv E n G0 hp0 w0 st a w d t z) (h:stepR E call all o st = some st1):Inv n G0 hp0 w0 st1 a w:=by
  obtain ⟨⟨G,b,hs,hw,sn,hptr,hb,hb0,hun,hμ⟩,hsz,hdef⟩:=hi
  simp only [stepR,coreA,wantA,hg,stepA,hop,globOf,dop,hao,Bool.false_eq_true,if_false,zeroC,hz,Option.bind_some,Option.map_map,Option.map_eq_some_iff] at h
  obtain ⟨v,hv,hst⟩:=h
  have hst:st1 = ⟨putO st.sl o.dst (.v (.c (.ptr st.hp.length 0))),st.hp ++ [.cells v.cells]⟩:=hst.symm
  subst hst
  have hzr:=(ofV_rel (G:=G) (hp:=st.hp) hv).cells
  have lt:∀ {k:Nat} {o':Ob},st.hp[k]? = some o'→k < st.hp.length:=fun {k o'} h=>by
    rcases Nat.lt_or_ge k st.hp.length with h' | h'
    · exact h'
    · simp [List.getElem?_eq_none h'] at h
  have u:Up G st.hp ⟨fun k=>if k = st.hp.length then .blk b else G.β k,G.μ,G.lo⟩ (st.hp ++ [.cells v.cells]):=by
    refine ⟨fun _ _ _ h=>h,fun k o' h=>?_,rfl⟩
    have hk:=lt h
    refine ⟨o',by rw [List.getElem?_append_left hk]; exact h,?_⟩
    have:k ≠ st.hp.length:=by omega
    cases o' <;> simp [KR,this]
  refine ⟨⟨⟨fun k=>if k = st.hp.length then .blk b else G.β k,G.μ,G.lo⟩,?_,?_,?_⟩,hsz,hdef⟩
  · intro s
    rw [hd]
    show AR _ _ (upd st.sl d _ s) _
    unfold upd
    by_cases e:s = d
    · rw [if_pos e,e]
      exact ⟨b,⟨.cells v.cells,by simp,rfl,.inr (by simp [Bd.at])⟩,hptr⟩
    · rw [if_neg e]
      exact (hs s e).up u
  · refine ⟨hw.mu,fun k o' h=>?_,fun k k' b' hk hk' h h'=>?_,hw.lo⟩
    · by_cases e:k = st.hp.length
      · subst e
        simp at h
        subst h
        refine ⟨b,z.cells,t,(0,0),by simp [Bd.at],hb,fz0 _,by rw [hzr.length]; simp,fun i c x hc hx=>?_,hμ,by simp [Bd.top]⟩
        exact (all2_get (α:=Unit) hzr i c x hc hx).up u
      · have hk:k < st.hp.length:=by
          rcases Nat.lt_or_ge k st.hp.length with h' | h'
          · exact h'
          · rw [List.getElem?_append_right h'] at h
            cases hkk:k - st.hp.length with
            | zero=>omega
            | succ m=>simp [hkk] at h
        rw [List.getElem?_append_left hk] at h
        exact (hw.ob k o' h).up u (by simp [e]) rfl
    · simp only [List.length_append,List.length_singleton] at hk hk'
      by_cases e:k = st.hp.length <;> by_cases e':k' = st.hp.length <;> simp only [e,e',if_true,if_false] at h h'
      · omega
      · have:b = b':=h
        subst this
        exact absurd h' (hun k' (by omega))
      · have:b = b':=h'
        subst this
        exact absurd h (hun k (by omega))
      · exact hw.inj k k' b' (by omega) (by omega) h h'
  · refine ⟨sn.mu,sn.muNew,fun k b' hk h=>?_,sn.same,sn.size,fun k o' h=>?_,sn.io,sn.lo⟩
    · by_cases e:k = st.hp.length
      · simp only [e,if_true] at h
        have:b = b':=h
        exact .inl (by omega)
      · simp only [e,if_false] at h
        simp only [List.length_append,List.length_singleton] at hk
        exact sn.bdNew k b' (by omega) h
    · obtain ⟨o2,h2,k2⟩:=sn.kind k o' h
      have hk:=lt h2
      refine ⟨o2,by rw [List.getElem?_append_left hk]; exact h2,?_⟩
      have:k ≠ st.hp.length:=by omega
      cases o' <;> cases o2 <;> simp_all [KR]
theorem pend_step (he:EnvOk E) (hcall:∀ g,CallP E g (plainC (E.plain g) (call g))) {n:Nat} {G0:Gh} {hp0:Heap} {w0:World} (hb0:BaseOk E G0 hp0 w0) {st st1:St} {a:Act} {w:World} {ops:Array Oper} {o:Oper} {d:Nat} {t:TypeId} {z:Value} {next:Act→World→Prop} {Q:Exit→Act→World→Prop}
    (hdst:o.dst.all (· < n) = true) (hl:(lookL ops.toList o).contains d = false) (hne:o.dst ≠ some d) (hi:PInv E n G0 hp0 w0 st a w d t z) (h:stepR E call ops.toList o st = some st1)
    (hn:∀ a' w',PInv E n G0 hp0 w0 st1 a' w' d t z→next a' w') :
    if Region.wanted o (yielded ops a.tmps) then o.wp E.P a w next Q else next (a.put o.dst undef) w:=by
  obtain ⟨⟨G,b,hs,hw,sn,hptr,hb,hbz,hun,hμ⟩,hszT,hdef⟩:=hi
  simp only [stepR,Option.map_eq_some_iff] at h
  obtain ⟨⟨v,h1⟩,hcore,rfl⟩:=h
  have hsr':SR G st.hp (restr (lookL ops.toList o) st.sl) a.tmps:=by
    intro s
    unfold restr
    split
    · rename_i hc
      exact hs s fun e=>by subst e; rw [hl] at hc; cases hc
    · trivial
  have hget:∀ (x:Value) (s:Nat),(setT a.tmps o.dst x).getD s undef = if o.dst = some s∧s < n then x else a.tmps.getD s undef:=by
    intro x s
    cases ho:o.dst with
    | none=>simp [setT]
    | some e =>
      simp only [setT,Array.getD_eq_getD_getElem?,Array.getElem?_setIfInBounds,Option.some.injEq]
      by_cases hes:e = s
      · subst hes
        have:e < n:=by rw [ho] at hdst; simpa using hdst
        rw [if_pos rfl,if_pos (by rw [hszT]; exact this),if_pos ⟨rfl,this⟩]
        rfl
      · rw [if_neg hes,if_neg (fun q=>hes q.1)]
  unfold coreA at hcore
  split at hcore
  · rename_i hwant
    rw [want_ok rfl hsr' hwant,if_pos rfl]
    refine stepA_ok he hcall (hb0.mono sn) hsr' hw hcore fun x w' G' ha hw' sn'=>hn _ _ ⟨⟨G',b,?_,hw',sn.trans sn',?_,?_,hbz,?_,?_⟩,?_,by rw [put_defers,hdef]⟩
    · intro s hsd
      rw [put_tmps,hget]
      show AR G' h1 (putO st.sl o.dst v s) _
      cases ho:o.dst with
      | none=>simp only [putO,reduceCtorEq,false_and,if_false]; exact (hs s hsd).mono sn'
      | some e =>
        simp only [putO,upd,Option.some.injEq]
        by_cases hes:s = e
        · subst hes
          have:s < n:=by rw [ho] at hdst; simpa using hdst
          rw [if_pos rfl,if_pos ⟨rfl,this⟩]
          exact ha
        · rw [if_neg hes,if_neg (fun q=>hes q.1.symm)]
          exact (hs s hsd).mono sn'
    · rw [put_tmps,hget,if_neg (fun q=>hne q.1)]; exact hptr
    · rw [sn'.same b (lt_of_block hb) (.inr hμ) hun]; exact hb
    · intro k hk hat
      rcases sn'.bdNew k b hk hat with h | ⟨k',hk',h⟩
      · have:=lt_of_block hb; omega
      · exact hun k' hk' h
    · intro i
      cases hm:G'.μ b i with
      | none=>rfl
      | some y =>
        rcases sn'.muNew b i (by rw [hm]; simp) with h | h | ⟨k',hk',h⟩
        · exact absurd (hμ i) h
        · have:=lt_of_block hb; omega
        · exact absurd h (hun k' hk')
    · rw [put_tmps,setT_size,hszT]
  · rename_i hwant
    simp only [Option.some.injEq,Prod.mk.injEq] at hcore
    obtain ⟨rfl,rfl⟩:=hcore
    rw [want_ok rfl hsr' hwant]
    simp only [Bool.false_eq_true,if_false]
    refine hn _ _ ⟨⟨G,b,?_,hw,sn,?_,hb,hbz,hun,hμ⟩,?_,by rw [put_defers,hdef]⟩
    · intro s hsd
      rw [put_tmps,hget]
      show AR G st.hp (putO st.sl o.dst (.tup []) s) _
      cases ho:o.dst with
      | none=>simp only [putO,reduceCtorEq,false_and,if_false]; exact hs s hsd
      | some e =>
        simp only [putO,upd,Option.some.injEq]
        by_cases hes:s = e
        · subst hes
          have:s < n:=by rw [ho] at hdst; simpa using hdst
          rw [if_pos rfl,if_pos ⟨rfl,this⟩]
          exact ⟨[],rfl,.nil⟩
        · rw [if_neg hes,if_neg (fun q=>hes q.1.symm)]
          exact hs s hsd
    · rw [put_tmps,hget,if_neg (fun q=>hne q.1)]; exact hptr
    · rw [put_tmps,setT_size,hszT]
  · cases hcore
theorem arr_set_set {l:Array Bool} {i:Nat} {b:Bool} (h:l.getD i false = b) (hi:i < l.size):(l.setIfInBounds i (!b)).setIfInBounds i b = l:=by
  apply Array.ext_getElem?
  intro j
  simp only [Array.getElem?_setIfInBounds,Array.size_setIfInBounds]
  by_cases e:i = j
  · subst e
    simp only [if_true,hi]
    rw [Array.getD_eq_getD_getElem?] at h
    simp only [Array.getElem?_eq_getElem hi,Option.getD_some] at h
    rw [Array.getElem?_eq_getElem hi,h]
  · simp [e]
theorem arr_set_comm {l:Array Bool} {i j:Nat} {a b:Bool} (h:i ≠ j):(l.setIfInBounds i a).setIfInBounds j b = (l.setIfInBounds j b).setIfInBounds i a:=by
  apply Array.ext_getElem?
  intro k
  simp only [Array.getElem?_setIfInBounds,Array.size_setIfInBounds]
  by_cases e:i = k
  · subst e; simp [Ne.symm h]
  · by_cases e':j = k
    · subst e'; simp [e]
    · simp [e,e']
theorem mem_rem {ops:Array Oper} {listed:Array Bool} {j:Nat}:j ∈ remOf ops listed ↔ j < ops.size∧listed.getD j false = false:=by
  simp [remOf]
theorem rank_ready {md:Region.Mode} {ops:Array Oper} {listed:Array Bool} {r:List Nat} (hr:rankOk md ops.toList r = true)
    (hm:∀ i,i ∈ Region.ready md ops listed ↔ i < ops.size∧listed.getD i false = false∧∃ o,ops[i]? = some o∧∀ e ∈ o.after,Region.binds md e = true→listed.getD e.on false = true) :
    ∀ (n i:Nat),r.getD i 0≤n→i < ops.size→listed.getD i false = false→∃ j,j ∈ Region.ready md ops listed:=by
  intro n
  induction n with
  | zero =>
    intro i hn hi hl
    refine ⟨i,(hm i).2 ⟨hi,hl,ops[i],by simp [hi],fun e he hb=>?_⟩⟩
    have:=List.all_eq_true.1 hr i (by simpa using hi)
    rw [Array.getElem?_toList,Array.getElem?_eq_getElem hi] at this
    have:=List.all_eq_true.1 this e (Array.mem_toList_iff.2 he)
    simp only [hb,Bool.not_true,Bool.false_or,Bool.and_eq_true,decide_eq_true_eq] at this
    omega
  | succ n ih =>
    intro i hn hi hl
    have h1:=List.all_eq_true.1 hr i (by simpa using hi)
    rw [Array.getElem?_toList,Array.getElem?_eq_getElem hi] at h1
    by_cases h:∀ e ∈ ops[i].after,Region.binds md e = true→listed.getD e.on false = true
    · exact ⟨i,(hm i).2 ⟨hi,hl,ops[i],by simp [hi],h⟩⟩
    · simp only [Classical.not_forall] at h
      obtain ⟨e,he,hb,hn'⟩:=h
      have:=List.all_eq_true.1 h1 e (Array.mem_toList_iff.2 he)
      simp only [hb,Bool.not_true,Bool.false_or,Bool.and_eq_true,decide_eq_true_eq] at this
      exact ih e.on (by omega) (by simpa using this.1) (by simpa using hn')
theorem goes_ready {md:Region.Mode} {ops:Array Oper} {listed:Array Bool} (hG:goesOn ops.toList = true)
    (hm:∀ i,i ∈ Region.ready md ops listed ↔ i < ops.size∧listed.getD i false = false∧∃ o,ops[i]? = some o∧∀ e ∈ o.after,Region.binds md e = true→listed.getD e.on false = true)
    {i:Nat} (hi:i < ops.size) (hl:listed.getD i false = false):∃ j,j ∈ Region.ready md ops listed:=by
  unfold goesOn at hG
  rw [Bool.or_eq_true] at hG
  rcases hG with h | h
  · induction i using Nat.strongRecOn with
    | ind i ih =>
      by_cases ha:∀ e ∈ ops[i].after,Region.binds md e = true→listed.getD e.on false = true
      · exact ⟨i,(hm i).2 ⟨hi,hl,ops[i],by simp [hi],ha⟩⟩
      · simp only [Classical.not_forall] at ha
        obtain ⟨e,he,hb,hn'⟩:=ha
        have h1:=List.all_eq_true.1 h i (by simpa using hi)
        rw [Array.getElem?_toList,Array.getElem?_eq_getElem hi] at h1
        have:=List.all_eq_true.1 h1 e (Array.mem_toList_iff.2 he)
        simp only [decide_eq_true_eq] at this
        exact ih e.on this (by omega) (by simpa using hn')
  · simp only [Bool.and_eq_true] at h
    cases md with
    | text=>exact rank_ready h.1.1 hm _ i (Nat.le_refl _) hi hl
    | gc=>exact rank_ready h.1.2 hm _ i (Nat.le_refl _) hi hl
    | any=>exact rank_ready h.2 hm _ i (Nat.le_refl _) hi hl
theorem any_okA (he:EnvOk E) (hcall:∀ g,CallP E g (plainC (E.plain g) (call g))) {n:Nat} {G0:Gh} {hp0:Heap} {w0:World} (hb0:BaseOk E G0 hp0 w0) {Q:Exit→Act→World→Prop} {st':St} {F:Nat→Foot} {i0:Nat}
    (hok:(ops.all fun o=>o.dst.all (· < n)) = true) (hG:goesOn ops.toList = true) (hT:beforesOk ops.toList T = true)
    (hP:∀ i j,i < j→i ∉ T.getD j []→j ≠ i0→Indep E ops.toList F i j)
    (hA:∀ i x,i < i0→i ∉ T.getD i0 []→ops[i]? = some x→neutralG E x = true→Indep E ops.toList F i i0)
    (hap:∀ i j x y,i < j→i ∉ T.getD j []→ops[i]? = some x→ops[j]? = some y→apartB ops.toList x y = true)
    (hS:∀ j,i0 ∈ T.getD j []→∀ k x,k < i0→k ∉ T.getD i0 []→k ∉ T.getD j []→ops[k]? = some x→neutralG E x = true)
    (hal:∀ o,ops[i0]? = some o→∃ t d z,o.op = .alloc t∧o.guard = none∧o.dst = some d∧zeroP E.P t = some z)
    (hao:∀ o,ops[i0]? = some o→E.aown o.pos = false)
    (hq:∀ a' w',Inv n G0 hp0 w0 st' a' w'→Q .normal a' w') :
    ∀ (fuel:Nat) (listed:Array Bool) (st:St) (a:Act) (w:World),listed.size = ops.size→fuel = (remOf ops listed).length→Closed ops listed →
      (RunT E call ops.toList F (remOf ops listed) st st'∧Inv n G0 hp0 w0 st a w ∨
        ∃ o d t z,listed.getD i0 false = true∧ops[i0]? = some o∧o.op = .alloc t∧o.guard = none∧o.dst = some d∧zeroP E.P t = some z ∧
          RunT E call ops.toList F (remOf ops (listed.setIfInBounds i0 false)) st st'∧PInv E n G0 hp0 w0 st a w d t z) →
      wpAny E.P md ops Q fuel listed a w:=by
  have catch_:∀ {listed:Array Bool} {st:St} {a:Act} {w:World} {o:Oper} {d:Nat} {t:TypeId} {z:Value},listed.size = ops.size→listed.getD i0 false = true→ops[i0]? = some o→o.op = .alloc t→o.guard = none→o.dst = some d→zeroP E.P t = some z →
      RunT E call ops.toList F (remOf ops (listed.setIfInBounds i0 false)) st st'→PInv E n G0 hp0 w0 st a w d t z→Closed ops listed →
      (∀ k x,k < i0→k ∉ T.getD i0 []→listed.getD k false = false→ops[k]? = some x→neutralG E x = true) →
      ∃ st1,RunT E call ops.toList F (remOf ops listed) st1 st'∧Inv n G0 hp0 w0 st1 a w:=by
    intro listed st a w o d t z hsz hl ho hop hg hd hz hr hi hc hne
    have hi0:i0 < ops.size:=(Array.getElem?_eq_some_iff.1 ho).1
    have hmem:i0 ∈ remOf ops (listed.setIfInBounds i0 false):=by
      rw [mem_rem]
      exact ⟨hi0,by simp [Array.getD_eq_getD_getElem?,hsz,hi0]⟩
    obtain ⟨r1,r2,hrem⟩:=List.append_of_mem hmem
    have hs:=remOf_sorted (ops:=ops) (listed:=listed.setIfInBounds i0 false)
    rw [hrem,List.pairwise_append] at hs
    have hset:=remOf_set (i:=i0) (by simpa using hsz) hrem
    have hll:(listed.setIfInBounds i0 false).setIfInBounds i0 true = listed:=by
      have:=arr_set_set (b:=true) hl (by omega)
      simpa using this
    rw [hll] at hset
    rw [hrem] at hr
    have hpre:∀ e ∈ o.after,strongB e = true→listed.getD e.on false = true:=hc i0 o ho hl
    have hr2:=bubble (fun j hj=>by
      have hlt:=hs.2.2 j hj i0 (by simp)
      have hjm:j ∈ remOf ops listed:=by rw [hset]; simp [hj]
      rw [mem_rem] at hjm
      have hnT:j ∉ T.getD i0 []:=fun hin=>by
        have:=befores_listed hT hc i0 o ho hpre j hin
        rw [this] at hjm; simp at hjm
      obtain ⟨x,hx⟩:∃ x,ops[j]? = some x:=⟨ops[j]'hjm.1,by simp [hjm.1]⟩
      exact hA j x hlt hnT hx (hne j x hlt hnT hjm.2 hx)) hr
    obtain ⟨o',ho',st1,_,hst1,hr3⟩:=hr2
    rw [Array.getElem?_toList,ho] at ho'
    cases ho'
    rw [← hset] at hr3
    exact ⟨st1,hr3,discharge hop (hao _ ho) hg hd hz hi hst1⟩
  intro fuel
  induction fuel with
  | zero =>
    intro listed st a w hsz hf hc hst
    have hnil:remOf ops listed = []:=List.eq_nil_of_length_eq_zero hf.symm
    have hready:Region.ready md ops listed = []:=by
      apply List.eq_nil_iff_forall_not_mem.2
      intro i hm
      rw [mem_ready hsz] at hm
      have:i ∈ remOf ops listed:=by rw [mem_rem]; exact ⟨hm.1,hm.2.1⟩
      rw [hnil] at this; cases this
    refine ⟨hready,?_⟩
    have fin:∀ {st:St},RunT E call ops.toList F (remOf ops listed) st st'→Inv n G0 hp0 w0 st a w→Q .normal a w:=by
      intro st hr hi
      rw [hnil] at hr
      have:st = st':=hr
      subst this
      exact hq _ _ hi
    rcases hst with ⟨hr,hi⟩ | ⟨o,d,t,z,hl,ho,hop,hg,hd,hz,hr,hi⟩
    · exact fin hr hi
    · obtain ⟨st1,hr1,hi1⟩:=catch_ hsz hl ho hop hg hd hz hr hi hc fun k x hk hkT hkl hx=>by
        have hk0:k < ops.size:=(Array.getElem?_eq_some_iff.1 hx).1
        have:k ∈ remOf ops listed:=by rw [mem_rem]; exact ⟨hk0,hkl⟩
        rw [hnil] at this; cases this
      exact fin hr1 hi1
  | succ fuel ih =>
    intro listed st a w hsz hf hc hst
    have closed':∀ {i:Nat} {o:Oper},i < ops.size→ops[i]? = some o→(∀ e ∈ o.after,strongB e = true→listed.getD e.on false = true)→Closed ops (listed.setIfInBounds i true):=by
      intro i o hi1 ho hstrong
      have mono:∀ k,listed.getD k false = true→(listed.setIfInBounds i true).getD k false = true:=by
        intro k hk
        simp only [Array.getD_eq_getD_getElem?,Array.getElem?_setIfInBounds] at hk ⊢
        by_cases e:i = k
        · subst e; simp [hsz,hi1]
        · simpa [e] using hk
      intro k ok hok' hk e hea hb
      by_cases e':i = k
      · subst e'
        rw [ho] at hok'
        cases hok'
        exact mono _ (hstrong e hea hb)
      · refine mono _ (hc k ok hok' ?_ e hea hb)
        simp only [Array.getD_eq_getD_getElem?,Array.getElem?_setIfInBounds] at hk ⊢
        simpa [e'] using hk
    have np:∀ {st:St},RunT E call ops.toList F (remOf ops listed) st st'→Inv n G0 hp0 w0 st a w→∀ i ∈ Region.ready md ops listed,wpOp E.P ops Q i (wpAny E.P md ops Q fuel (listed.setIfInBounds i true)) a w:=by
      intro st hr hi i hm
      rw [mem_ready hsz] at hm
      obtain ⟨hi1,hi2,o,ho,hpre⟩:=hm
      have hstrong:∀ e ∈ o.after,strongB e = true→listed.getD e.on false = true:=fun e hea hb=>hpre e hea (strong_binds hb md)
      have hc':=closed' hi1 ho hstrong
      have hmem:i ∈ remOf ops listed:=by rw [mem_rem]; exact ⟨hi1,hi2⟩
      obtain ⟨r1,r2,hrem⟩:=List.append_of_mem hmem
      have hset:=remOf_set hsz hrem
      have hfuel:fuel = (remOf ops (listed.setIfInBounds i true)).length:=by
        rw [hset]
        rw [hrem] at hf
        simp at hf ⊢
        omega
      have hdst:o.dst.all (· < n) = true:=Array.all_eq_true'.1 hok o (Array.mem_of_getElem? ho)
      by_cases e0:i = i0
      · subst e0
        obtain ⟨t,d,z,hop,hg,hd,hz⟩:=hal o ho
        have hd':d < n:=by rw [hd] at hdst; simpa using hdst
        have hback:(listed.setIfInBounds i true).setIfInBounds i false = listed:=by
          have:=arr_set_set (b:=false) hi2 (by omega)
          simpa using this
        obtain ⟨⟨G,hsr,hw,sn⟩,hszT,hdef⟩:=hi
        simp only [wpOp,ho]
        have hwd:Region.wanted o (yielded ops a.tmps) = true:=by simp [Region.wanted,hg]
        rw [hwd]
        simp only [if_true]
        left
        refine alloc_wp hop hz ?_
        have hpm:=push_mu (μ':=G.μ) (w':=w.alloc (.cells z.cells t)) hw rfl (fun _ _ _ h=>h) (fun _ _ h=>.inl h) (fun j v h=>by rw [mu_self hw] at h; cases h)
        refine ih (listed.setIfInBounds i true) st _ _ (by simp [hsz]) hfuel hc' (.inr ⟨o,d,t,z,by simp [Array.getD_eq_getD_getElem?,hsz,hi1],ho,hop,hg,hd,hz,by rw [hback]; exact hr,⟨⟨G,w.heap.size,?_,hpm.2,sn.trans hpm.1,?_,?_,sn.size,fun k hk hat=>?_,mu_self hw⟩,?_,by rw [put_defers,hdef]⟩⟩)
        · intro s hsd
          rw [put_tmps,hd]
          simp only [setT,Array.getD_eq_getD_getElem?,Array.getElem?_setIfInBounds]
          rw [if_neg (Ne.symm hsd)]
          have:=hsr s
          rwa [Array.getD_eq_getD_getElem?] at this
        · rw [put_tmps,hd]
          simp only [setT,Array.getD_eq_getD_getElem?,Array.getElem?_setIfInBounds]
          rw [if_pos trivial,if_pos (by rw [hszT]; exact hd')]
          rfl
        · show (w.heap.push _)[w.heap.size]? = _
          simp
        · have:=hw.at_lt hk hat; omega
        · rw [put_tmps,setT_size,hszT]
      · have hs:=remOf_sorted (ops:=ops) (listed:=listed)
        rw [hrem,List.pairwise_append] at hs
        rw [hrem] at hr
        have hr2:=bubble (fun j hj=>hP j i (hs.2.2 j hj i (by simp)) (fun hin=>by
          have:=befores_listed hT hc i o ho hstrong j hin
          have hjm:j ∈ remOf ops listed:=by rw [hrem]; simp [hj]
          rw [mem_rem,this] at hjm
          simp at hjm) e0) hr
        obtain ⟨o',ho',st1,_,hst1,hr3⟩:=hr2
        rw [Array.getElem?_toList,ho] at ho'
        cases ho'
        rw [← hset] at hr3
        have next:=fun a' w' (hi':Inv n G0 hp0 w0 st1 a' w')=>ih (listed.setIfInBounds i true) st1 a' w' (by simp [hsz]) hfuel hc' (.inl ⟨hr3,hi'⟩)
        obtain ⟨⟨G,hsr,hw,sn⟩,hszT,hdef⟩:=hi
        simp only [stepR,Option.map_eq_some_iff] at hst1
        obtain ⟨⟨v,h1⟩,hcore,rfl⟩:=hst1
        have hsr':SR G st.hp (restr (lookL ops.toList o) st.sl) a.tmps:=by
          intro t
          unfold restr
          split
          · exact hsr t
          · trivial
        simp only [wpOp,ho]
        unfold coreA at hcore
        split at hcore
        · rename_i hwant
          rw [want_ok rfl hsr' hwant]
          simp only [if_true]
          left
          refine stepA_ok he hcall (hb0.mono sn) hsr' hw hcore fun x w' G' ha hw' sn'=>next _ _ ⟨⟨G',?_,hw',sn.trans sn'⟩,?_,by rw [put_defers,hdef]⟩
          · rw [put_tmps]
            exact SR.put (fun t=>(hsr t).mono sn') ha (by rw [hszT]; exact hdst)
          · rw [put_tmps,setT_size,hszT]
        · rename_i hwant
          simp only [Option.some.injEq,Prod.mk.injEq] at hcore
          obtain ⟨rfl,rfl⟩:=hcore
          rw [want_ok rfl hsr' hwant]
          simp only [Bool.false_eq_true,if_false]
          refine next _ _ ⟨⟨G,?_,hw,sn⟩,?_,by rw [put_defers,hdef]⟩
          · rw [put_tmps]
            exact SR.put hsr (v:=.tup []) ⟨[],rfl,.nil⟩ (by rw [hszT]; exact hdst)
          · rw [put_tmps,setT_size,hszT]
        · cases hcore
    refine ⟨fun hnil=>?_,?_⟩
    · exfalso
      cases hrem:remOf ops listed with
      | nil=>rw [hrem] at hf; simp at hf
      | cons j0 r =>
        have hm0:j0 ∈ remOf ops listed:=by rw [hrem]; simp
        rw [mem_rem] at hm0
        obtain ⟨j,this⟩:=goes_ready (md:=md) (listed:=listed) hG (fun i=>mem_ready hsz) hm0.1 hm0.2
        rw [hnil] at this; cases this
    · rcases hst with ⟨hr,hi⟩ | ⟨o0,d,t,z,hl,ho0,hop,hg,hd,hz,hr,hi⟩
      · exact np hr hi
      · intro i hm
        have hm':=hm
        rw [mem_ready hsz] at hm
        obtain ⟨hi1,hi2,o,ho,hpre⟩:=hm
        have hstrong:∀ e ∈ o.after,strongB e = true→listed.getD e.on false = true:=fun e hea hb=>hpre e hea (strong_binds hb md)
        have e0:i ≠ i0:=fun e=>by subst e; rw [hl] at hi2; cases hi2
        have hi0:i0 < ops.size:=(Array.getElem?_eq_some_iff.1 ho0).1
        by_cases hdep:i0 ∈ T.getD i []
        · obtain ⟨st1,hr1,hi1'⟩:=catch_ hsz hl ho0 hop hg hd hz hr hi hc fun k x hk hkT hkl hx=>hS i hdep k x hk hkT (fun hin=>by
            have:=befores_listed hT hc i o ho hstrong k hin
            rw [this] at hkl; cases hkl) hx
          exact np hr1 hi1' i hm'
        · have hmemA:i ∈ remOf ops (listed.setIfInBounds i0 false):=by
            rw [mem_rem]
            refine ⟨hi1,?_⟩
            simp only [Array.getD_eq_getD_getElem?,Array.getElem?_setIfInBounds] at hi2 ⊢
            rw [if_neg (Ne.symm e0)]
            exact hi2
          obtain ⟨r1,r2,hrem⟩:=List.append_of_mem hmemA
          have hset:=remOf_set (i:=i) (by simpa using hsz) hrem
          have hcomm:(listed.setIfInBounds i0 false).setIfInBounds i true = (listed.setIfInBounds i true).setIfInBounds i0 false:=arr_set_comm (Ne.symm e0)
          rw [hcomm] at hset
          have hs:=remOf_sorted (ops:=ops) (listed:=listed.setIfInBounds i0 false)
          rw [hrem,List.pairwise_append] at hs
          rw [hrem] at hr
          have hr2:=bubble (fun j hj=>hP j i (hs.2.2 j hj i (by simp)) (fun hin=>by
            by_cases ej:j = i0
            · subst ej; exact hdep hin
            · have:=befores_listed hT hc i o ho hstrong j hin
              have hjm:j ∈ remOf ops (listed.setIfInBounds i0 false):=by rw [hrem]; simp [hj]
              rw [mem_rem] at hjm
              have h2:=hjm.2
              simp only [Array.getD_eq_getD_getElem?,Array.getElem?_setIfInBounds] at h2 this
              rw [if_neg (Ne.symm ej)] at h2
              rw [this] at h2; cases h2) e0) hr
          obtain ⟨o',ho',st1,_,hst1,hr3⟩:=hr2
          rw [Array.getElem?_toList,ho] at ho'
          cases ho'
          rw [← hset] at hr3
          have hdst:o.dst.all (· < n) = true:=Array.all_eq_true'.1 hok o (Array.mem_of_getElem? ho)
          have hc':=closed' hi1 ho hstrong
          have hfuel:fuel = (remOf ops (listed.setIfInBounds i true)).length:=by
            have hmem:i ∈ remOf ops listed:=by rw [mem_rem]; exact ⟨hi1,hi2⟩
            obtain ⟨q1,q2,hq12⟩:=List.append_of_mem hmem
            rw [remOf_set hsz hq12]
            rw [hq12] at hf
            simp at hf ⊢
            omega
          have hapd:(lookL ops.toList o).contains d = false∧o.dst ≠ some d:=by
            rcases Nat.lt_or_gt_of_ne e0 with hlt | hgt
            · have hnT:i ∉ T.getD i0 []:=fun hin=>by
                have:=befores_listed hT hc i0 o0 ho0 (hc i0 o0 ho0 hl) i hin
                rw [this] at hi2; cases hi2
              obtain ⟨_,a2,a3⟩:=apart_ok (hap i i0 o o0 hlt hnT ho ho0)
              exact ⟨a2 d hd,fun e=>a3 d e hd⟩
            · obtain ⟨a1,_,a3⟩:=apart_ok (hap i0 i o0 o hgt hdep ho0 ho)
              exact ⟨a1 d hd,fun e=>a3 d hd e⟩
          have step:=pend_step (Q:=Q) he hcall hb0 hdst hapd.1 hapd.2 hi hst1 (next:=wpAny E.P md ops Q fuel (listed.setIfInBounds i true)) fun a' w' hi'=>ih (listed.setIfInBounds i true) st1 a' w' (by simp [hsz]) hfuel hc' (.inr ⟨o0,d,t,z,by
            simp only [Array.getD_eq_getD_getElem?,Array.getElem?_setIfInBounds] at hl ⊢
            rw [if_neg e0]; exact hl,ho0,hop,hg,hd,hz,hr3,hi'⟩)
          simp only [wpOp,ho]
          split
          · rename_i hw'
            rw [if_pos hw'] at step
            exact .inl step
          · rename_i hw'
            rw [if_neg hw'] at step
            exact step
end
theorem runDraw_ok (he:EnvOk E) (hcall:∀ g,CallP E g (plainC (E.plain g) (call g))) {n:Nat} {G0:Gh} {hp0:Heap} {w0:World} (hb0:BaseOk E G0 hp0 w0) {ops:Array Oper} {id:Nat} {Q:Exit→Act→World→Prop} {st st':St} {a:Act} {w:World}
    (hok:(ops.all fun o=>o.dst.all (· < n)) = true) (hd:drawOk E ops.toList = true) (hr:runDraw E call ops.toList st = some st') (hi:Inv n G0 hp0 w0 st a w)
    (hq:∀ a' w',Inv n G0 hp0 w0 st' a' w'→Q .normal a' w'):(Code.region id ops true).wp E.P Q a w:=by
  simp only [runDraw,Option.bind_eq_some_iff] at hr
  obtain ⟨r,hrun,hr⟩:=hr
  split at hr
  case isFalse=>cases hr
  rename_i hfl
  cases hr
  simp only [drawOk,Bool.and_eq_true] at hd
  obtain ⟨⟨⟨⟨hG,hT⟩,hpairs⟩,hlater⟩,halloc⟩:=hd
  generalize hTe:befores ops.toList [] = T at *
  generalize hie:allocAt E ops.toList T = i0 at *
  let F:Nat→Foot:=fun k=>r.2.getD k (foot0 [])
  have hRT:=runT_of (all:=ops.toList) (F:=F) (i:=0) (by simp) hrun (fun k _=>by simp [F])
  have foots:∀ i x,ops.toList[i]? = some x→∃ s h h1,F i = footA E s h h1 x:=by
    have key:∀ (l:List Nat) (st st':St),RunT E call ops.toList F l st st'→∀ i ∈ l,∀ x,ops.toList[i]? = some x→∃ s h h1,F i = footA E s h h1 x:=by
      intro l
      induction l with
      | nil=>intro st st' _ i hi; cases hi
      | cons j l ih =>
        rintro st st' ⟨o,ho,st1,hf,_,h⟩ i hi x hx
        rcases List.mem_cons.1 hi with rfl | hi
        · rw [ho] at hx; cases hx; exact ⟨_,_,_,hf.symm⟩
        · exact ih _ _ h i hi x hx
    intro i x hx
    refine key _ _ _ hRT i ?_ x hx
    have:=(List.getElem?_eq_some_iff.1 hx).1
    simp only [List.mem_range'_1]
    omega
  have runs:∀ (l:List Nat) (st st':St),RunT E call ops.toList F l st st'→∀ i ∈ l,∀ x,ops.toList[i]? = some x→∃ s s1,stepR E call ops.toList x s = some s1:=by
    intro l
    induction l with
    | nil=>intro st st' _ i hi; cases hi
    | cons j l ih =>
      rintro st st' ⟨o,ho,st1,hf,hst,h⟩ i hi x hx
      rcases List.mem_cons.1 hi with rfl | hi
      · rw [ho] at hx; cases hx; exact ⟨_,_,hst⟩
      · exact ih _ _ h i hi x hx
  have below:∀ (i:Nat),∀ k ∈ T.getD i [],i < ops.size→k < i:=by
    intro i
    induction i using Nat.strongRecOn with
    | ind i ih =>
      intro k hk hsz
      obtain ⟨b1,b2⟩:=befores_get (T:=T) hT (i:=i) (o:=ops[i]) (by simp [hsz])
      obtain ⟨e,hea,hes,h⟩:=b2 k hk
      have hlt:=b1 e hea hes
      rcases h with rfl | h
      · exact hlt
      · have:=ih e.on hlt k h (by omega); omega
  have flo:∀ p q u v,ops.toList[p]? = some u→ops.toList[q]? = some v→p ∉ T.getD q []→q ∉ T.getD p []→neutralG E u = true→neutralG E v = false→pairOk (F p) (F q) = true:=by
    intro p q u v hu hv h1 h2 hnu hnv
    cases hl:isLoad u with
    | true =>
      have hin:(p,q) ∈ floats E ops.toList:=by
        have hp:=(List.getElem?_eq_some_iff.1 hu).1
        have hq:=(List.getElem?_eq_some_iff.1 hv).1
        simp only [floats,List.mem_flatMap,List.mem_range]
        refine ⟨p,hp,?_⟩
        rw [hu]
        simp only [hl,if_true,List.mem_filterMap,List.mem_range]
        refine ⟨q,hq,?_⟩
        rw [hv,hTe]
        simp only [hnv,Bool.false_or]
        rw [if_neg]
        simp only [Bool.or_eq_true,List.contains_iff_mem,not_or]
        exact ⟨h1,h2⟩
      exact List.all_eq_true.1 hfl _ hin
    | false =>
      obtain ⟨s,hh,hh1,hf⟩:=foots p u hu
      rw [hf,foot_neutral hnu]
      have:readsO s u = []:=by
        unfold readsO
        split <;> first | rfl | (rename_i hop; simp [isLoad,hop] at hl)
      rw [this]
      simp [pairOk,foot0]
  have pr:∀ i j,i < j→i ∉ T.getD j []→∀ x y,ops.toList[i]? = some x→ops.toList[j]? = some y→apartB ops.toList x y = true∧(neutralG E x = true∨neutralG E y = true∨j = i0):=by
    intro i j hij hnT x y hx hy
    have hj:=(List.getElem?_eq_some_iff.1 hy).1
    have:=List.all_eq_true.1 (List.all_eq_true.1 hpairs j (by simpa using hj)) i (by simpa using hij)
    simp only [Bool.or_eq_true,List.contains_iff_mem] at this
    rcases this with h | h
    · exact absurd h hnT
    · rw [hx,hy] at h
      simp only [Bool.and_eq_true,Bool.or_eq_true,beq_iff_eq] at h
      rcases h with ⟨h1,(h2 | h2) | h2⟩
      · exact ⟨h1,.inl h2⟩
      · exact ⟨h1,.inr (.inl h2)⟩
      · exact ⟨h1,.inr (.inr h2)⟩
  have ind:∀ i j,i < j→i ∉ T.getD j []→∀ x y,ops.toList[i]? = some x→ops.toList[j]? = some y→(neutralG E x || neutralG E y) = true→Indep E ops.toList F i j:=by
    intro i j hij hnT x y hx hy hn x' y' hx' hy'
    rw [hx] at hx'; cases hx'
    rw [hy] at hy'; cases hy'
    have hi:=(List.getElem?_eq_some_iff.1 hx).1
    have hji:j ∉ T.getD i []:=fun hin=>by
      have:=below i j hin (by simpa using hi)
      omega
    exact ⟨(pr i j hij hnT x y hx hy).1,hn,fun h1 h2=>flo i j x y hx hy hnT hji h1 h2,fun h1 h2=>flo j i y x hy hx hji hnT h1 h2⟩
  have hP:∀ i j,i < j→i ∉ T.getD j []→j ≠ i0→Indep E ops.toList F i j:=by
    intro i j hij hnT hne x y hx hy
    have h:=pr i j hij hnT x y hx hy
    refine ind i j hij hnT x y hx hy ?_ x y hx hy
    rcases h.2 with h | h | h
    · rw [h]; rfl
    · rw [h]; simp
    · exact absurd h hne
  have hA:∀ i x,i < i0→i ∉ T.getD i0 []→ops[i]? = some x→neutralG E x = true→Indep E ops.toList F i i0:=by
    intro i x hlt hnT hx hn x' y' hx' hy'
    rw [Array.getElem?_toList,hx] at hx'; cases hx'
    exact ind i i0 hlt hnT x y' (by rw [Array.getElem?_toList]; exact hx) hy' (by rw [hn]; rfl) x y' (by rw [Array.getElem?_toList]; exact hx) hy'
  have hap:∀ i j x y,i < j→i ∉ T.getD j []→ops[i]? = some x→ops[j]? = some y→apartB ops.toList x y = true:=fun i j x y hij hnT hx hy =>
    (pr i j hij hnT x y (by rw [Array.getElem?_toList]; exact hx) (by rw [Array.getElem?_toList]; exact hy)).1
  have hS:∀ j,i0 ∈ T.getD j []→∀ k x,k < i0→k ∉ T.getD i0 []→k ∉ T.getD j []→ops[k]? = some x→neutralG E x = true:=by
    intro j hj k x hk h1 h2 hx
    rcases Nat.lt_or_ge j ops.size with hjs | hjs
    · have:=List.all_eq_true.1 hlater j (by simpa using hjs)
      simp only [Bool.or_eq_true,Bool.not_eq_true',List.all_eq_true,List.mem_range,List.contains_iff_mem] at this
      rcases this with h | h
      · have:(T.getD j []).contains i0 = true:=by simpa using hj
        rw [h] at this; cases this
      · rcases h k hk with (h | h) | h
        · exact absurd h h1
        · exact absurd h h2
        · rw [Array.getElem?_toList,hx] at h
          exact h
    · exfalso
      have hlen:∀ (os:List Oper) (T0:List (List Nat)),(befores os T0).length = T0.length + os.length:=by
        intro os
        induction os with
        | nil=>intro T0; simp [befores]
        | cons o os ih=>intro T0; simp only [befores,ih,List.length_append,List.length_cons,List.length_nil]; omega
      have:=hlen ops.toList []
      rw [hTe] at this
      simp only [List.length_nil,Nat.zero_add,Array.length_toList] at this
      rw [List.getD_eq_getElem?_getD,List.getElem?_eq_none (by omega)] at hj
      simp at hj
  have hao:∀ o,ops[i0]? = some o→E.aown o.pos = false:=by
    intro o ho
    have ho':ops.toList[i0]? = some o:=by rw [Array.getElem?_toList]; exact ho
    have h:=halloc
    unfold allocOk at h
    rw [ho'] at h
    simp only [isAl,Bool.and_eq_true,Bool.not_eq_true'] at h
    exact h.2
  have hal:∀ o,ops[i0]? = some o→∃ t d z,o.op = .alloc t∧o.guard = none∧o.dst = some d∧zeroP E.P t = some z:=by
    intro o ho
    have ho':ops.toList[i0]? = some o:=by rw [Array.getElem?_toList]; exact ho
    have h:=halloc
    unfold allocOk at h
    rw [ho'] at h
    simp only [isAl,Bool.and_eq_true,Option.isNone_iff_eq_none,Option.isSome_iff_exists] at h
    obtain ⟨⟨⟨h1,h2⟩,d,h3⟩,h4⟩:=h
    have h4:=hao o ho
    have hi0:=(List.getElem?_eq_some_iff.1 ho').1
    obtain ⟨s,s1,hs⟩:=runs _ _ _ hRT i0 (by simp only [List.mem_range'_1]; omega) o ho'
    cases hop:o.op <;> rw [hop] at h1 <;> try cases h1
    rename_i t
    simp only [stepR,coreA,wantA,h2,stepA,hop,globOf,dop,h4,Bool.false_eq_true,if_false,zeroC,Option.map_map,Option.map_eq_some_iff,Option.bind_eq_some_iff] at hs
    obtain ⟨v,⟨z,hz,_⟩,_⟩:=hs
    exact ⟨t,d,z,rfl,h2,h3,hz⟩
  refine wp_region_draw fun t=>?_
  have hi':Inv n G0 hp0 w0 st a { w with drawn:=w.drawn + 1 }:=by
    obtain ⟨⟨G,hs,hw,sn⟩,h2,h3⟩:=hi
    exact ⟨⟨G,hs,⟨hw.mu,hw.ob,hw.inj,hw.lo⟩,⟨sn.mu,sn.muNew,sn.bdNew,sn.same,sn.size,sn.kind,sn.io,sn.lo⟩⟩,h2,h3⟩
  have hrem:remOf ops (Array.replicate ops.size false) = List.range' 0 ops.toList.length:=by
    rw [← List.range_eq_range',Array.length_toList]
    unfold remOf
    rw [List.filter_eq_self]
    intro j hj
    simp only [List.mem_range] at hj
    simp [Array.getD,hj]
  have any:∀ md,wpAny E.P md ops Q ops.size (Array.replicate ops.size false) a { w with drawn:=w.drawn + 1 }:=fun md =>
    any_okA he hcall hb0 hok hG hT hP hA hap hS hal hao hq ops.size _ st a _ (by simp) (by rw [hrem]; simp) (by
      intro i o ho hl
      exfalso
      simp only [Array.getD,Array.size_replicate] at hl
      split at hl
      · simp at hl
      · cases hl) (.inl ⟨by rw [hrem]; exact hRT,hi'⟩)
  unfold Region.schedule
  split
  · exact wpAny_sound ops.size t _ a _ (any _)
  · exact wpAny_sound ops.size (t / 2) _ a _ (any _)
end
end Go.Ab
end
