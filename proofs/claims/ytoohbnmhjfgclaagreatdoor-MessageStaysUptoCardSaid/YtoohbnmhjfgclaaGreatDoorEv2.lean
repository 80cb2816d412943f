/- An abstract evaluator of the loaded code, and that what it says is what the machine does. -/
import Derived.Test.YtoohbnmhjfgclaaGreatDoorEv1
set_option linter.all false
section
set_option linter.unusedVariables false
set_option linter.unusedSimpArgs false
namespace Go.Ab
open Go
def SR (G:Gh) (hp:Heap) (s:Nat→AV) (tmps:Array Value):Prop:=∀ t,AR G hp (s t) (tmps.getD t undef)
theorem SR.mono {G0 G:Gh} {hp0 hp:Heap} {w0 w:World} (sn:Sn G0 hp0 w0 G hp w) {s:Nat→AV} {tmps:Array Value} (h:SR G0 hp0 s tmps):SR G hp s tmps:=fun t=>(h t).mono sn
def OkV (G:Gh) (hp:Heap) (w:World) (r:Result Next) (res:AV×Heap):Prop :=
  ∃ x w' G',(r = .ok (.value x) w'∧AR G' res.2 res.1 x∨r = .ok .skip w'∧res.1 = .dead)∧WR G' res.2 w'∧Sn G hp w G' res.2 w'
theorem OkV.same {G:Gh} {hp:Heap} {w:World} {r:Result Next} {v:AV} {x:Value} (hw:WR G hp w) (hr:r = .ok (.value x) w) (ha:AR G hp v x):OkV G hp w r (v,hp) :=
  ⟨x,w,G,.inl ⟨hr,ha⟩,hw,Sn.refl _ _ _⟩
theorem plain_one {v:Value} (h:plain v = true):v.oneCell' = true:=by cases v <;> simp_all [plain,Value.oneCell']
theorem ofV1_rel {G:Gh} {hp:Heap} {v:Value} {c:C} (h:ofV1 v = some c):CR G hp c v:=by
  unfold ofV1 at h
  split at h
  · cases h; exact DR.nil
  · split at h
    · rename_i hp_; cases h; exact .sc _ (plain_one hp_)
    · cases h
theorem mapM_all2 {α β:Type} {f:α→Option β} {l:List α} {m:List β} (h:l.mapM f = some m):All2 (fun a b=>f a = some b) l m:=by
  induction l generalizing m with
  | nil=>simp at h; subst h; exact .nil
  | cons a l ih =>
    simp only [List.mapM_cons,Option.bind_eq_bind] at h
    cases ha:f a with
    | none=>simp [ha] at h
    | some b =>
      cases hl:l.mapM f with
      | none=>simp [ha,hl] at h
      | some m' =>
        simp [ha,hl] at h
        subst h
        exact .cons ha (ih hl)
theorem All2.flip {α β:Type} {R:α→β→Prop} {l:List α} {m:List β} (h:All2 R l m):All2 (fun b a=>R a b) m l:=by
  induction h with
  | nil=>exact .nil
  | cons a _ ih=>exact .cons a ih
theorem All2.comp {α β γ:Type} {R:α→β→Prop} {S:β→γ→Prop} {T:α→γ→Prop} (f:∀ a b c,R a b→S b c→T a c) {l:List α} {m:List β} {n:List γ} (h:All2 R l m) (h':All2 S m n):All2 T l n:=by
  induction h generalizing n with
  | nil=>cases h'; exact .nil
  | cons a _ ih=>cases h' with
    | cons b t=>exact .cons (f _ _ _ a b) (ih t)
theorem ofV_rel {G:Gh} {hp:Heap} {v:Value} {x:V1} (h:ofV v = some x):VR G hp x v:=by
  unfold ofV at h
  split at h
  · rename_i cs
    cases hm:cs.toList.mapM ofV1 with
    | none=>simp [hm] at h
    | some l =>
      simp [hm] at h
      subst h
      exact ⟨cs.toList,by simp,(mapM_all2 hm).flip.mono fun _ _ r=>ofV1_rel r⟩
  · simp only [Option.map_eq_some_iff] at h
    obtain ⟨c,hc,rfl⟩:=h
    exact ofV1_rel (v:=v) hc
theorem toV1_eq {G:Gh} {hp:Heap} {c:C} {v v':Value} (h:toV1 c = some v) (r:CR G hp c v'):v' = v:=by
  unfold toV1 at h
  split at h
  · cases h; cases r; rfl
  · cases h
    cases r with
    | lst nl es a cap sz vs hlen hnl hcap _ _ _ _ =>
      cases a with
      | none=>rw [hcap rfl]; rfl
      | some a=>simp at hnl
  · cases h
theorem toV_eq {G:Gh} {hp:Heap} {x:V1} {v v':Value} (h:toV x = some v) (r:VR G hp x v'):v' = v:=by
  cases x with
  | c x=>exact toV1_eq h r
  | agg cs =>
    obtain ⟨vs,rfl,r⟩:=r
    simp only [toV] at h
    cases hm:cs.mapM toV1 with
    | none=>simp [hm] at h
    | some l =>
      simp [hm] at h
      subst h
      have:vs = l:=by
        have h2:=mapM_all2 hm
        clear hm
        induction r generalizing l with
        | nil=>cases h2; rfl
        | cons a _ ih=>cases h2 with
          | cons b t=>rw [toV1_eq b a,ih _ t]
      rw [this]
theorem AV.toV_eq {G:Gh} {hp:Heap} {x:AV} {v v':Value} (h:AV.toV x = some v) (r:AR G hp x v'):v' = v:=by
  cases x with
  | v x=>exact Ab.toV_eq h r
  | tup xs=>simp [AV.toV] at h
  | dead=>simp [AV.toV] at h
section
variable {G:Gh} {hp:Heap} {s:Nat→AV} {a:Act}
theorem ev_rel (hs:SR G hp s a.tmps) {o:Operand} {x:AV} (h:ev s o = some x):AR G hp x (a.eval o):=by
  cases o with
  | tmp t=>simp only [ev,Option.some.injEq] at h; subst h; exact hs t
  | const v =>
    simp only [ev,Option.map_eq_some_iff] at h
    obtain ⟨y,h1,rfl⟩:=h
    exact ofV_rel (v:=v) h1
  | global g=>simp [ev] at h
  | func f=>simp only [ev,Option.some.injEq] at h; subst h; exact .sc _ rfl
theorem ev1_rel (hs:SR G hp s a.tmps) {o:Operand} {x:V1} (h:ev1 s o = some x):VR G hp x (a.eval o):=by
  unfold ev1 at h
  split at h
  · rename_i y hy; cases h; exact ev_rel hs hy
  · cases h
theorem evC_rel (hs:SR G hp s a.tmps) {o:Operand} {x:C} (h:evC s o = some x):CR G hp x (a.eval o):=by
  unfold evC at h
  split at h
  · rename_i y hy; cases h; exact ev_rel hs hy
  · cases h
theorem evI_rel (hs:SR G hp s a.tmps) {o:Operand} {i:Int} (h:evI s o = some i):∃ k,a.eval o = .int k i:=by
  unfold evI at h
  split at h
  · rename_i k n hy
    cases h
    have hr:=ev_rel hs hy
    generalize a.eval o = z at hr
    cases hr
    exact ⟨k,rfl⟩
  · cases h
end
section
variable {P:Program} {w:World} {t:TypeId}
theorem run_underlying {d:TypeDesc} (h:P.underlying t = some d):(underlying t).run P w = .ok d w:=by simp [underlying,h]
theorem run_typeInfo {i:TypeInfo} (h:P.info? t = some i):(typeInfo t).run P w = .ok i w:=by simp [typeInfo,h]
theorem run_sizeOf {n:Nat} (h:szP P t = some n):(sizeOf t).run P w = .ok n w:=by
  simp only [szP,Option.map_eq_some_iff] at h
  obtain ⟨i,hi,rfl⟩:=h
  simp [sizeOf,run_typeInfo hi]
theorem run_zeroValue {z:Value} (h:zeroP P t = some z):(zeroValue t).run P w = .ok z w:=by
  simp only [zeroP,Option.bind_eq_some_iff] at h
  obtain ⟨i,hi,hz⟩:=h
  simp [zeroValue,run_typeInfo hi,hz]
theorem run_isAgg {g:Bool} (h:aggP P t = some g):(isAgg t).run P w = .ok g w:=by
  simp only [aggP,Option.map_eq_some_iff] at h
  obtain ⟨d,hd,rfl⟩:=h
  simp only [isAgg,Sem.run_bind,run_underlying hd,Result.andThen_ok]
  cases d <;> rfl
end
def valOf (g:Bool) (l:List Value):Value:=if g then .agg l.toArray else l.headD undef
theorem mkV_rel {G:Gh} {hp:Heap} {g:Bool} {cs:List C} {x:V1} {l:List Value} (h:mkV g cs = some x) (r:All2 (CR G hp) cs l):VR G hp x (valOf g l):=by
  unfold mkV at h
  split at h
  · rename_i hg
    cases h
    simp only [valOf,hg,if_true]
    exact ⟨l,rfl,r⟩
  · rename_i hg
    split at h
    · cases h
      cases r with
      | cons a t=>cases t with
        | nil=>simp only [valOf,hg,if_false]; exact a
    · cases h
theorem run_loadVar' {P:Program} {w:World} {t:TypeId} {n:Nat} {g:Bool} {ad:Addr} {l:List Value} (hn:szP P t = some n) (hg:aggP P t = some g) (hl:l.length = n)
    (h1:g = true∨n = 1) (hc:∀ j v,l[j]? = some v→w.cell? (ad.add j) = some v):(loadVar t ad).run P w = .ok (valOf g l) w:=by
  subst hl
  cases g with
  | true=>simp [loadVar,run_isAgg hg,run_sizeOf hn,run_loadCells_list w ad l hc,valOf]
  | false =>
    have h1:l.length = 1:=by simpa using h1
    cases l with
    | nil=>simp at h1
    | cons v l =>
      have:=hc 0 v rfl
      simp [Addr.add] at this
      simp [loadVar,run_isAgg hg,run_load,this,valOf]
theorem addr_add (b o i:Nat):(Addr.add ⟨b,o,none⟩ i) = ⟨b,o + i,none⟩:=by unfold Addr.add; split <;> simp_all
theorem read_cells {G:Gh} {hp:Heap} {w:World} {k b off n:Nat} {cs:List C} (hw:WR G hp w) (hk:hp[k]? = some (.cells cs)) (hb:(G.β k).at b) (hle:off + n≤cs.length) :
    ∃ l:List Value,l.length = n∧All2 (CR G hp) ((cs.drop off).take n) l∧∀ j v,l[j]? = some v→w.cell? (Addr.add ⟨b,off,none⟩ j) = some v:=by
  obtain ⟨b',vs,t,fz,e,h1,h2,h3,h4,_⟩:=hw.ob k _ hk
  cases Bd.at_inj hb e
  refine ⟨(vs.toList.drop off).take n,by simp; omega,All2.of_get (by simp; omega) fun i c v hc hv=>?_,fun j v hv=>?_⟩
  · simp only [List.getElem?_take,List.getElem?_drop] at hc hv
    split at hc <;> simp_all
    exact h4 _ _ _ hc hv
  · simp only [List.getElem?_take,List.getElem?_drop] at hv
    rw [addr_add,cell_at h1]
    split at hv <;> simp_all
theorem read_known {G:Gh} {hp:Heap} {w:World} {b o off n:Nat} {cs:List D} {vs:Nat→Value} (hw:WR G hp w) (h:∀ (j:Nat) c,cs[j]? = some c→DR G.μ c (vs j)∧G.μ b (o + j) = some (vs j)) (hle:off + n≤cs.length) :
    ∃ l:List Value,l.length = n∧All2 (CR G hp) (((cs.drop off).take n).map .d) l∧∀ j v,l[j]? = some v→w.cell? (Addr.add ⟨b,o + off,none⟩ j) = some v:=by
  refine ⟨(List.range n).map fun j=>vs (off + j),by simp,All2.of_get (by simp; omega) fun i c v hc hv=>?_,fun j v hv=>?_⟩
  · simp only [List.getElem?_map,List.getElem?_take,List.getElem?_drop,Option.map_eq_some_iff] at hc
    obtain ⟨d,hd,rfl⟩:=hc
    split at hd
    · simp only [List.getElem?_map,Option.map_eq_some_iff] at hv
      obtain ⟨i',hi',rfl⟩:=hv
      rw [List.getElem?_range (by omega)] at hi'
      cases hi'
      exact (h _ _ hd).1
    · cases hd
  · simp only [List.getElem?_map,Option.map_eq_some_iff] at hv
    obtain ⟨i',hi',rfl⟩:=hv
    have hj:j < n:=by
      rcases Nat.lt_or_ge j n with h' | h'
      · exact h'
      · simp [List.getElem?_eq_none (show (List.range n).length≤j by simpa)] at hi'
    rw [List.getElem?_range hj] at hi'
    cases hi'
    rw [addr_add]
    have hl:off + j < cs.length:=by omega
    have:=hw.mu _ _ _ (h (off + j) cs[off + j] (List.getElem?_eq_getElem hl)).2
    rwa [show o + off + j = o + (off + j) by omega]
end Go.Ab
end
section
set_option linter.unusedVariables false
set_option linter.unusedSimpArgs false
namespace Go.Ab
open Go
section
variable {E:Env} {G:Gh} {hp:Heap} {s:Nat→AV} {a:Act} {w:World} {o:Oper}
theorem run_val {P:Program} {w w':World} {x:Value} {m:Sem Value} (h:m.run P w = .ok x w'):(do pure (Next.value (← m)):Sem Next).run P w = .ok (.value x) w':=by simp [h]
theorem run_unit {P:Program} {w w':World} {m:Sem Unit} (h:m.run P w = .ok () w'):(do m; pure Next.skip:Sem Next).run P w = .ok .skip w':=by simp [h]
theorem op_move (hs:SR G hp s a.tmps) (hw:WR G hp w) {x:Operand} (hop:o.op = .move x∨o.op = .assign x) {v:AV} (h:ev s x = some v) :
    OkV G hp w ((execOp a.eval o).run E.P w) (v,hp):=by
  refine OkV.same hw (x:=a.eval x) ?_ (ev_rel hs h)
  rcases hop with hop | hop <;> simp [execOp,hop]
theorem op_pick (hs:SR G hp s a.tmps) (hw:WR G hp w) {c x y:Operand} (hop:o.op = .pick c x y) {v:AV×Heap} (h:dop E s hp o = some v) :
    OkV G hp w ((execOp a.eval o).run E.P w) v:=by
  simp only [dop,hop] at h
  split at h
  · rename_i t hc
    have hcv:a.eval c = .bool t:=by have:=ev_rel hs hc; generalize a.eval c = z at this; cases this; rfl
    cases t
    · simp only [Bool.false_eq_true,if_false,Option.map_eq_some_iff] at h
      obtain ⟨u,hu,rfl⟩:=h
      exact OkV.same hw (x:=a.eval y) (by simp [execOp,hop,hcv,asBool]) (ev_rel hs hu)
    · simp only [if_true,Option.map_eq_some_iff] at h
      obtain ⟨u,hu,rfl⟩:=h
      exact OkV.same hw (x:=a.eval x) (by simp [execOp,hop,hcv,asBool]) (ev_rel hs hu)
  · cases h
theorem op_unOp (hs:SR G hp s a.tmps) (hw:WR G hp w) {op:UnOp} {t:TypeId} {x:Operand} (hop:o.op = .unOp op t x) {v:AV×Heap} (h:dop E s hp o = some v) :
    OkV G hp w ((execOp a.eval o).run E.P w) v:=by
  simp only [dop,hop,Option.bind_eq_bind,Option.bind_eq_some_iff] at h
  obtain ⟨y,⟨z,hz,hy⟩,r,hr,h⟩:=h
  simp only [Option.map_eq_some_iff] at h
  obtain ⟨u,hu,rfl⟩:=h
  have:=AV.toV_eq hy (ev_rel hs hz)
  exact OkV.same hw (x:=r) (by simp only [execOp,hop,this]; exact run_val (evalS_run hr w)) (ofV_rel hu)
theorem op_makeInterface (hs:SR G hp s a.tmps) (hw:WR G hp w) {t:TypeId} {x:Operand} (hop:o.op = .makeInterface t x) {v:AV×Heap} (h:dop E s hp o = some v) :
    OkV G hp w ((execOp a.eval o).run E.P w) v:=by
  simp only [dop,hop,Option.bind_eq_bind,Option.bind_eq_some_iff] at h
  obtain ⟨y,⟨z,hz,hy⟩,r,hr,h⟩:=h
  simp only [Option.map_eq_some_iff] at h
  obtain ⟨u,hu,rfl⟩:=h
  have:=AV.toV_eq hy (ev_rel hs hz)
  exact OkV.same hw (x:=r) (by simp only [execOp,hop,this]; exact run_val (evalS_run hr w)) (ofV_rel hu)
theorem op_extract (hs:SR G hp s a.tmps) (hw:WR G hp w) {x:Operand} {i:Nat} (hop:o.op = .extract x i) {v:AV×Heap} (h:dop E s hp o = some v) :
    OkV G hp w ((execOp a.eval o).run E.P w) v:=by
  simp only [dop,hop] at h
  split at h
  · rename_i xs hx
    simp only [Option.map_eq_some_iff] at h
    obtain ⟨y,hy,rfl⟩:=h
    obtain ⟨vs,hv,r⟩:=ev_rel hs hx
    obtain ⟨z,hz,hr⟩:=r.get hy
    refine OkV.same hw (x:=z) ?_ hr
    simp [execOp,hop,hv,Instr.extract,hz]
  · cases h
theorem eq_slice {P:Program} {w:World} {t e:TypeId} {a:Option Addr} {l c l' c':Nat} (n:Nat) (hd:P.underlying t = some (.slice e)) :
    (Op.equalIn (n + 1) t (.slice a l c) (.slice none l' c')).run P w = .ok a.isNone w:=by
  cases a <;> simp [Op.equalIn,run_underlying hd]
theorem eq_ptr {P:Program} {w:World} {t e:TypeId} {a:Addr} (n:Nat) (hd:P.underlying t = some (.pointer e)) :
    (Op.equalIn (n + 1) t (.pointer (some a)) (.pointer none)).run P w = .ok false w:=by simp [Op.equalIn,run_underlying hd]
theorem eq_map {P:Program} {w:World} {t k e:TypeId} {a:Nat} (n:Nat) (hd:P.underlying t = some (.map k e)) :
    (Op.equalIn (n + 1) t (.map (some a)) (.map none)).run P w = .ok false w:=by simp [Op.equalIn,run_underlying hd]
theorem eq_func {P:Program} {w:World} {t:TypeId} {x y:Array TypeId} {z:Bool} {f:Fn} {p q:Array Value} (n:Nat) (hd:P.underlying t = some (.func x y z)) :
    (Op.equalIn (n + 1) t (.func f p q) .nilFunc).run P w = .ok false w:=by simp [Op.equalIn,run_underlying hd]
theorem eq_ifn {P:Program} {w:World} {t:TypeId} {ms:Array (String×TypeId)} {tx:TypeId} {x:Value} (n:Nat) (hd:P.underlying t = some (.interface ms)) :
    (Op.equalIn (n + 1) t (.iface tx x) .nilIface).run P w = .ok false w:=by simp [Op.equalIn,run_underlying hd]
theorem neq_not {P:Program} {w:World} {t:TypeId} {x y:Value} {b:Bool} (h:(Op.equal t x y).run P w = .ok b w) :
    (do pure (.bool (!(← Op.equal t x y))):Sem Value).run P w = .ok (.bool (!b)) w:=by simp [h]
theorem eql_is {P:Program} {w:World} {t:TypeId} {x y:Value} {b:Bool} (h:(Op.equal t x y).run P w = .ok b w) :
    (do pure (.bool (← Op.equal t x y)):Sem Value).run P w = .ok (.bool b) w:=by simp [h]
theorem nil_test {t:TypeId} {d:TypeDesc} {c:C} {x y:Operand} {b:Bool} (hd:E.P.underlying t = some d) (h:nilTest d c y = some b) {v:Value} (r:CR G hp c v) :
    (do eqGuard .eql t x y v (a.eval y); binOp .eql t v (a.eval y):Sem Value).run E.P w = .ok (.bool b) w ∧
    (do eqGuard .neq t x y v (a.eval y); binOp .neq t v (a.eval y):Sem Value).run E.P w = .ok (.bool (!b)) w:=by
  unfold nilTest at h
  split at h
  · cases h
    obtain ⟨ad,cap,sz,vs,rfl,_,rfl,_⟩:=DR.inv r
    constructor
    · simp only [Sem.run_bind,eqGuard,binOp,Act.eval]
      simpa using eql_is (eq_slice (w:=w) 9999 hd)
    · simp only [Sem.run_bind,eqGuard,binOp,Act.eval]
      simpa using neq_not (eq_slice (w:=w) 9999 hd)
  · cases h
    obtain ⟨ad,cap,sz,vs,rfl,_,rfl,_⟩:=DR.inv r.1
    constructor
    · simp only [Sem.run_bind,eqGuard,binOp,Act.eval]
      simpa using eql_is (eq_slice (w:=w) 9999 hd)
    · simp only [Sem.run_bind,eqGuard,binOp,Act.eval]
      simpa using neq_not (eq_slice (w:=w) 9999 hd)
  · rename_i k_ off sz len cap _; cases h; obtain ⟨b',c,o,_,rfl,_⟩:=r
    constructor
    · simp only [Sem.run_bind,eqGuard,binOp,Act.eval]
      have k:=eql_is (eq_slice (w:=w) (a:=some ⟨b',o,none⟩) (l:=cap) (c:=c) (l':=0) (c':=0) 9999 hd)
      simp only [Option.isNone_some] at k
      simpa using k
    · simp only [Sem.run_bind,eqGuard,binOp,Act.eval]
      have k:=neq_not (eq_slice (w:=w) (a:=some ⟨b',o,none⟩) (l:=cap) (c:=c) (l':=0) (c':=0) 9999 hd)
      simp only [Option.isNone_some] at k
      simpa using k
  · cases h; obtain ⟨b',_,rfl⟩:=r
    constructor
    · simp only [Sem.run_bind,eqGuard,binOp,Act.eval]
      simpa using eql_is (eq_ptr (w:=w) 9999 hd)
    · simp only [Sem.run_bind,eqGuard,binOp,Act.eval]
      simpa using neq_not (eq_ptr (w:=w) 9999 hd)
  · cases h; obtain ⟨b',o,rfl,_⟩:=r
    constructor
    · simp only [Sem.run_bind,eqGuard,binOp,Act.eval]
      simpa using eql_is (eq_ptr (w:=w) 9999 hd)
    · simp only [Sem.run_bind,eqGuard,binOp,Act.eval]
      simpa using neq_not (eq_ptr (w:=w) 9999 hd)
  · cases h; obtain ⟨b',_,rfl⟩:=r
    constructor
    · simp only [Sem.run_bind,eqGuard,binOp,Act.eval]
      simpa using eql_is (eq_map (w:=w) 9999 hd)
    · simp only [Sem.run_bind,eqGuard,binOp,Act.eval]
      simpa using neq_not (eq_map (w:=w) 9999 hd)
  · cases h; obtain ⟨vs,rfl,_⟩:=r
    constructor
    · simp only [Sem.run_bind,eqGuard,binOp,Act.eval]
      simpa using eql_is (eq_func (w:=w) 9999 hd)
    · simp only [Sem.run_bind,eqGuard,binOp,Act.eval]
      simpa using neq_not (eq_func (w:=w) 9999 hd)
  · cases h; obtain ⟨tx,x',rfl⟩:=r
    constructor
    · simp only [Sem.run_bind,eqGuard,binOp,Act.eval]
      simpa using eql_is (eq_ifn (w:=w) 9999 hd)
    · simp only [Sem.run_bind,eqGuard,binOp,Act.eval]
      simpa using neq_not (eq_ifn (w:=w) 9999 hd)
  · cases h
theorem op_binOp (hs:SR G hp s a.tmps) (hw:WR G hp w) {op:BinOp} {t u:TypeId} {x y:Operand} (hop:o.op = .binOp op t x y u) {v:AV×Heap} (h:dop E s hp o = some v) :
    OkV G hp w ((execOp a.eval o).run E.P w) v:=by
  simp only [dop,hop] at h
  split at h
  · rename_i p q hp_ hq
    simp only [both] at h
    split at h
    · rename_i v1 v2 h1 h2
      simp only [Option.bind_eq_bind,Option.bind_eq_some_iff,Option.map_eq_some_iff] at h
      obtain ⟨r,hr,z,hz,rfl⟩:=h
      have e1:=toV_eq h1 (ev1_rel hs hp_)
      have e2:=toV_eq h2 (ev1_rel hs hq)
      exact OkV.same hw (x:=r) (by simp only [execOp,hop,e1,e2]; exact run_val (evalS_run hr w)) (ofV_rel hz)
    · split at h
      · rename_i c d _ _
        have hd:E.P.underlying t = some d:=by assumption
        have hc:=ev1_rel hs hp_
        split at h
        · rename_i r hr
          cases h
          exact OkV.same hw (x:=.bool r) (by simp only [execOp,hop]; exact run_val (nil_test (E:=E) (a:=a) (w:=w) hd hr hc).1) (.sc _ rfl)
        · rename_i r hr
          cases h
          exact OkV.same hw (x:=.bool (!r)) (by simp only [execOp,hop]; exact run_val (nil_test (E:=E) (a:=a) (w:=w) hd hr hc).2) (.sc _ rfl)
        · cases h
      · cases h
  · cases h
theorem op_nilCheck (hs:SR G hp s a.tmps) (hw:WR G hp w) {x:Operand} (hop:o.op = .nilCheck x) {v:AV×Heap} (h:dop E s hp o = some v) :
    OkV G hp w ((execOp a.eval o).run E.P w) v:=by
  simp only [dop,hop] at h
  split at h
  · rename_i k off hx
    cases h
    have r:=evC_rel hs hx
    have r':=r
    obtain ⟨b,_,hv⟩:=r'
    rw [hv] at r
    exact OkV.same hw (by simp only [execOp,hop,hv]; rfl) r
  · rename_i cs off hx
    cases h
    have r:=evC_rel hs hx
    have r':=r
    obtain ⟨b,o',hv,_⟩:=r'
    rw [hv] at r
    exact OkV.same hw (by simp only [execOp,hop,hv]; rfl) r
  · rename_i f cs hx
    cases h
    have r:=evC_rel hs hx
    have r':=r
    obtain ⟨vs,hv,_⟩:=r'
    rw [hv] at r
    exact OkV.same hw (by simp only [execOp,hop,hv]; rfl) r
  · rename_i f p q hx
    cases h
    have r:=evC_rel hs hx
    have hv:a.eval x = .func (.func f) p q:=by generalize a.eval x = z at r; cases r; rfl
    exact OkV.same hw (by simp only [execOp,hop,hv]; rfl) (.sc _ rfl)
  · cases h
theorem op_load (hs:SR G hp s a.tmps) (hw:WR G hp w) {t:TypeId} {x:Operand} (hop:o.op = .load t x) {v:AV×Heap} (h:dop E s hp o = some v) :
    OkV G hp w ((execOp a.eval o).run E.P w) v:=by
  simp only [dop,hop,Option.bind_eq_bind,Option.bind_eq_some_iff] at h
  obtain ⟨n,hn,g,hg,h⟩:=h
  split at h
  · rename_i k off hx
    split at h
    · rename_i cs hk
      split at h
      · rename_i hc
        simp only [Option.map_eq_some_iff] at h
        obtain ⟨y,hy,rfl⟩:=h
        obtain ⟨b,hib,hv⟩:=evC_rel hs hx
        obtain ⟨l,hl,r,hcell⟩:=read_cells hw hk (hib.at hk) hc.1
        refine OkV.same hw (x:=valOf g l) ?_ (mkV_rel hy r)
        simp only [execOp,hop,hv]
        refine run_val ?_
        simp only [Instr.loadAt,Instr.sureAddr,pure_bind]
        exact run_loadVar' hn hg hl hc.2 hcell
      · cases h
    · cases h
  · rename_i cs off hx
    split at h
    · rename_i hc
      simp only [Option.map_eq_some_iff] at h
      obtain ⟨y,hy,rfl⟩:=h
      obtain ⟨b,o',hv,vs,hd⟩:=evC_rel hs hx
      obtain ⟨l,hl,r,hcell⟩:=read_known hw hd hc.1
      refine OkV.same hw (x:=valOf g l) ?_ (mkV_rel hy r)
      simp only [execOp,hop,hv]
      refine run_val ?_
      simp only [Instr.loadAt,Instr.sureAddr,pure_bind]
      exact run_loadVar' hn hg hl hc.2 hcell
    · cases h
  · cases h
theorem op_fieldAddr (hs:SR G hp s a.tmps) (hw:WR G hp w) {t:TypeId} {x:Operand} {f:Nat} (hop:o.op = .fieldAddr t x f) {v:AV×Heap} (h:dop E s hp o = some v) :
    OkV G hp w ((execOp a.eval o).run E.P w) v:=by
  simp only [dop,hop] at h
  split at h
  · rename_i fs hu
    simp only [Option.bind_eq_bind,Option.bind_eq_some_iff] at h
    obtain ⟨fd,hf,n,hn,h⟩:=h
    split at h
    · cases h
    · rename_i hn0
      split at h
      · rename_i k off hx
        cases h
        obtain ⟨b,hi,hv⟩:=evC_rel hs hx
        refine OkV.same hw (x:=.pointer (some ⟨b,off + fd.offset,none⟩)) ?_ ⟨b,hi,rfl⟩
        simp only [execOp,hop,hv]
        refine run_val ?_
        simp [Instr.fieldAt,run_underlying hu,hf,Instr.sureAddr,fieldPlace,run_sizeOf hn,hn0,addr_add]
      · rename_i cs off hx
        cases h
        obtain ⟨b,o',hv,vs,hd⟩:=evC_rel hs hx
        refine OkV.same hw (x:=.pointer (some ⟨b,o' + (off + fd.offset),none⟩)) ?_ ⟨b,o',rfl,vs,hd⟩
        simp only [execOp,hop,hv]
        refine run_val ?_
        simp [Instr.fieldAt,run_underlying hu,hf,Instr.sureAddr,fieldPlace,run_sizeOf hn,hn0,addr_add,Nat.add_assoc]
      · cases h
  · cases h
theorem run_part {P:Program} {t:TypeId} {n:Nat} {g:Bool} {vs:List Value} {off:Nat} (hn:szP P t = some n) (hg:aggP P t = some g) (hle:off + n≤vs.length) (h1:g = true∨n = 1) :
    (part t vs.toArray off).run P w = .ok (valOf g ((vs.drop off).take n)) w:=by
  cases g with
  | true =>
    simp only [part,Sem.run_bind,run_isAgg hg,Result.andThen_ok,if_true,run_sizeOf hn,valOf,Sem.run_pure]
    congr 2
    apply Array.ext'
    simp [List.extract_eq_take_drop]
  | false =>
    have h1:n = 1:=by simpa using h1
    subst h1
    have:vs.toArray[off]? = some vs[off]:=by simp [show off < vs.length by omega]
    have hd:(vs.drop off).take 1 = [vs[off]]:=by
      rw [List.drop_eq_getElem_cons (by omega)]
      rfl
    simp only [part,Sem.run_bind,run_isAgg hg,Result.andThen_ok,Bool.false_eq_true,if_false,this,valOf,hd,Sem.run_pure]
    rfl
theorem op_field (hs:SR G hp s a.tmps) (hw:WR G hp w) {t:TypeId} {x:Operand} {f:Nat} (hop:o.op = .field t x f) {v:AV×Heap} (h:dop E s hp o = some v) :
    OkV G hp w ((execOp a.eval o).run E.P w) v:=by
  simp only [dop,hop] at h
  split at h
  · rename_i fs cs hu hx
    simp only [Option.bind_eq_bind,Option.bind_eq_some_iff] at h
    obtain ⟨fd,hf,n,hn,g,hg,h⟩:=h
    split at h
    · rename_i hc
      simp only [Option.map_eq_some_iff] at h
      obtain ⟨y,hy,rfl⟩:=h
      obtain ⟨vs,hv,r⟩:=ev1_rel hs hx
      refine OkV.same hw (x:=valOf g ((vs.drop fd.offset).take n)) ?_ (mkV_rel hy ((r.drop _).take _))
      simp only [execOp,hop,hv]
      refine run_val ?_
      simp only [Instr.field,Sem.run_bind,run_underlying hu,Result.andThen_ok,hf,asAgg,Sem.run_pure]
      exact run_part hn hg (by rw [← r.length]; exact hc.1) hc.2
    · cases h
  · cases h
theorem evI_ok (hs:SR G hp s a.tmps) {x:Operand} {i:Int} (h:evI s x = some i):∃ k,a.eval x = .int k i∧∀ (P:Program) (w:World),(asIntOf (a.eval x)).run P w = .ok (k,i) w:=by
  obtain ⟨k,hk⟩:=evI_rel hs h
  exact ⟨k,hk,fun P w=>by rw [hk]; rfl⟩
theorem op_index (hs:SR G hp s a.tmps) (hw:WR G hp w) {t:TypeId} {x ix:Operand} (hop:o.op = .index t x ix) {v:AV×Heap} (h:dop E s hp o = some v) :
    OkV G hp w ((execOp a.eval o).run E.P w) v:=by
  simp only [dop,hop] at h
  split at h
  · rename_i b i hu hx hi
    split at h
    · rename_i hc
      cases h
      obtain ⟨k,hk,hrun⟩:=evI_ok hs hi
      have r:=ev1_rel hs hx
      have hv:a.eval x = .string b:=by generalize a.eval x = z at r; cases r; rfl
      refine OkV.same hw (x:=.int .u8 (b.data.getD i.toNat 0).toNat) ?_ (.sc _ rfl)
      simp only [execOp,hop]
      refine run_val ?_
      have hlt:i.toNat < b.size:=by omega
      have:b[i.toNat]? = some (b.data.getD i.toNat 0):=by
        have h2:i.toNat < b.data.size:=hlt
        rw [getElem?_pos b i.toNat hlt]
        simp only [Array.getD,h2,dif_pos]
        rfl
      simp [Instr.index,hrun,run_underlying hu,hv,hc.1,this]
    · cases h
  · rename_i n e cs i hu hx hi
    simp only [Option.bind_eq_bind,Option.bind_eq_some_iff] at h
    obtain ⟨sz,hsz,g,hg,h⟩:=h
    split at h
    · rename_i hc
      simp only [Option.map_eq_some_iff] at h
      obtain ⟨y,hy,rfl⟩:=h
      obtain ⟨k,hk,hrun⟩:=evI_ok hs hi
      obtain ⟨vs,hv,r⟩:=ev1_rel hs hx
      refine OkV.same hw (x:=valOf g ((vs.drop (i.toNat * sz)).take sz)) ?_ (mkV_rel hy ((r.drop _).take _))
      simp only [execOp,hop]
      refine run_val ?_
      simp only [Instr.index,Sem.run_bind,hrun,Result.andThen_ok,run_underlying hu,hv,hc.1,hc.2.1,and_self,if_true,run_sizeOf hsz]
      exact run_part hsz hg (by rw [← r.length]; exact hc.2.2.1) hc.2.2.2
    · cases h
  · cases h
theorem elem_ptr {μ:Nat→Nat→Option Value} {nl:Bool} {es:List (List D)} {v:Value} (h:DR μ (.lst nl es) v) {n:Nat} (hn:es.all (·.length == n) = true) {i:Nat} (hi:i < es.length) :
    ∃ b o cap,v = .slice (some ⟨b,o,none⟩) es.length cap∧∃ vs:Nat→Value,∀ (j:Nat) c,(es.getD i [])[j]? = some c→DR μ c (vs j)∧μ b (o + i * n + j) = some (vs j):=by
  obtain ⟨a,cap,sz,vs,rfl,h1,h2,h3,hsp,h4,h5,h6⟩:=DR.inv h
  cases a with
  | none=>have:=h3 rfl; omega
  | some ad =>
    obtain ⟨b,o,sp⟩:=ad
    have hs:sp = none:=hsp (fun q=>by rw [q] at hi; cases hi) _ rfl
    subst hs
    refine ⟨b,o,cap,rfl,fun j=>vs i j,fun j c hc=>?_⟩
    have he:es[i]? = some es[i]:=List.getElem?_eq_getElem hi
    have hg:es.getD i [] = es[i]:=by simp [List.getD,he]
    rw [hg] at hc
    refine ⟨h5 i j _ c he hc,?_⟩
    obtain ⟨b',o',e1,e2⟩:=h6 i j _ c he hc
    cases e1
    have hl:sz = n:=by
      rw [← h4 es[i] (List.getElem_mem hi)]
      have:=List.all_eq_true.1 hn es[i] (List.getElem_mem hi)
      simpa using this
    rwa [hl] at e2
theorem list_dr {c:C} {nl:Bool} {es:List (List D)} (h:c.list = some (nl,es)) {v:Value} (r:CR G hp c v):DR G.μ (.lst nl es) v:=by
  cases c with
  | d x=>cases x with
    | sc v=>simp [C.list] at h
    | lst nl' es'=>simp only [C.list,Option.some.injEq,Prod.mk.injEq] at h; obtain ⟨rfl,rfl⟩:=h; exact r
  | own nl' es' k=>simp only [C.list,Option.some.injEq,Prod.mk.injEq] at h; obtain ⟨rfl,rfl⟩:=h; exact r.1
  | _=>simp [C.list] at h
theorem op_indexAddr (hs:SR G hp s a.tmps) (hw:WR G hp w) {t:TypeId} {x ix:Operand} (hop:o.op = .indexAddr t x ix) {v:AV×Heap} (h:dop E s hp o = some v) :
    OkV G hp w ((execOp a.eval o).run E.P w) v:=by
  simp only [dop,hop] at h
  split at h
  · rename_i n e k off i hu hx hi
    simp only [Option.bind_eq_bind,Option.bind_eq_some_iff] at h
    obtain ⟨sz,hsz,h⟩:=h
    split at h
    · rename_i hc
      cases h
      obtain ⟨kk,hk,hrun⟩:=evI_ok hs hi
      obtain ⟨b,hib,hv⟩:=evC_rel hs hx
      refine OkV.same hw (x:=.pointer (some ⟨b,off + i.toNat * sz,none⟩)) ?_ ⟨b,hib,rfl⟩
      simp only [execOp,hop]
      refine run_val ?_
      simp [Instr.indexAt,hrun,run_underlying hu,hv,Instr.sureAddr,hc,run_sizeOf hsz,addr_add]
    · cases h
  · rename_i n e cs off i hu hx hi
    simp only [Option.bind_eq_bind,Option.bind_eq_some_iff] at h
    obtain ⟨sz,hsz,h⟩:=h
    split at h
    · rename_i hc
      cases h
      obtain ⟨kk,hk,hrun⟩:=evI_ok hs hi
      obtain ⟨b,o',hv,vs,hd⟩:=evC_rel hs hx
      refine OkV.same hw (x:=.pointer (some ⟨b,o' + (off + i.toNat * sz),none⟩)) ?_ ⟨b,o',rfl,vs,hd⟩
      simp only [execOp,hop]
      refine run_val ?_
      simp [Instr.indexAt,hrun,run_underlying hu,hv,Instr.sureAddr,hc,run_sizeOf hsz,addr_add,Nat.add_assoc]
    · cases h
  · rename_i e k off sz len cap i hu hx hi
    split at h
    · rename_i hc
      cases h
      obtain ⟨hsz,hc⟩:=hc
      obtain ⟨kk,hk,hrun⟩:=evI_ok hs hi
      obtain ⟨b,c,off',hib,hv,hlc,_,ho,_⟩:=evC_rel hs hx
      have:off' = off:=ho (by omega)
      subst this
      refine OkV.same hw (x:=.pointer (some ⟨b,off' + i.toNat * sz,none⟩)) ?_ ⟨b,hib,rfl⟩
      simp only [execOp,hop]
      refine run_val ?_
      simp [Instr.indexAt,hrun,run_underlying hu,hv,Instr.sureAddr,hc,run_sizeOf hsz,addr_add]
    · cases h
  · rename_i e y i hns hu hx hi
    simp only [Option.bind_eq_bind,Option.bind_eq_some_iff] at h
    obtain ⟨⟨nl,es⟩,hl,sz,hsz,h⟩:=h
    dsimp only at h
    split at h
    · rename_i hc
      cases h
      obtain ⟨kk,hk,hrun⟩:=evI_ok hs hi
      obtain ⟨b,o',cap,hv,vs,hd⟩:=elem_ptr (list_dr hl (evC_rel hs hx)) hc.1 (i:=i.toNat) (by omega)
      refine OkV.same hw (x:=.pointer (some ⟨b,(o' + i.toNat * sz) + 0,none⟩)) ?_ ⟨b,o' + i.toNat * sz,rfl,vs,hd⟩
      simp only [execOp,hop]
      refine run_val ?_
      simp [Instr.indexAt,hrun,run_underlying hu,hv,Instr.sureAddr,hc.2,run_sizeOf hsz,addr_add]
    · cases h
  · cases h
end
end Go.Ab
end
section
set_option linter.unusedVariables false
set_option linter.unusedSimpArgs false
namespace Go.Ab
open Go
section
variable {E:Env} {G:Gh} {hp:Heap} {s:Nat→AV} {a:Act} {w:World} {o:Oper}
theorem mu_self (hw:WR G hp w) (i:Nat):G.μ w.heap.size i = none:=by
  cases h:G.μ w.heap.size i with
  | none=>rfl
  | some v=>have:=hw.mu_lt h; omega
theorem new_cells {w':World} {cs:List C} {vs:Array Value} {t:TypeId} {fz:Nat×Nat} (hw:WR G hp w) (hh:w'.heap = w.heap.push (.cells vs t fz)) (hf:Fz fz vs.size)
    (hl:cs.length≤vs.size) (r:∀ (i:Nat) c v,cs[i]? = some c→vs[i]? = some v→CR G hp c v) (hio:Io w w':=by first | exact ⟨rfl,rfl,rfl⟩ | assumption) :
    ∃ G',WR G' (hp ++ [.cells cs]) w'∧Sn G hp w G' (hp ++ [.cells cs]) w'∧Isb G' (hp ++ [.cells cs]) hp.length w.heap.size:=by
  have hb:w'.heap[w.heap.size]? = some (.cells vs t fz):=by rw [hh]; simp
  obtain ⟨sn,k⟩:=push_ok (o:=.cells cs) (bd:=.blk w.heap.size) (μ':=G.μ) hw hh (fun b h=>h.symm) (fun _ _ _ h=>h) (fun _ _ h=>.inl h)
    (fun i v h=>by rw [mu_self hw] at h; cases h)
  refine ⟨_,k ?_,sn,⟨.cells cs,by simp,rfl,.inr (by simp [Bd.at])⟩⟩
  exact ⟨w.heap.size,vs,t,fz,by simp [Bd.at],hb,hf,hl,fun i c v hc hv=>(r i c v hc hv).mono sn,fun i=>mu_self hw i,by simp [Bd.top]⟩
theorem new_room {w':World} {cs:List C} {vs:Array Value} {t:TypeId} {fz:Nat×Nat} {sz cap:Nat} (hw:WR G hp w) (hh:w'.heap = w.heap.push (.cells vs t fz)) (hf:Fz fz vs.size)
    (hl:cs.length≤vs.size) (hroom:cap * sz≤vs.size) (r:∀ (i:Nat) c v,cs[i]? = some c→vs[i]? = some v→CR G hp c v) (hio:Io w w':=by first | exact ⟨rfl,rfl,rfl⟩ | assumption) :
    ∃ G',WR G' (hp ++ [.cells cs]) w'∧Sn G hp w G' (hp ++ [.cells cs]) w'∧Isb G' (hp ++ [.cells cs]) hp.length w.heap.size∧(G'.β hp.length).top = cap * sz:=by
  have hb:w'.heap[w.heap.size]? = some (.cells vs t fz):=by rw [hh]; simp
  obtain ⟨sn,k⟩:=push_ok (o:=.cells cs) (bd:=.tail w.heap.size 0 sz cap) (μ':=G.μ) hw hh (fun b h=>h.symm) (fun _ _ _ h=>h) (fun _ _ h=>.inl h)
    (fun i v h=>by rw [mu_self hw] at h; cases h)
  refine ⟨_,k ?_,sn,⟨.cells cs,by simp,rfl,.inr (by simp [Bd.at])⟩,by simp [Bd.top]⟩
  exact ⟨w.heap.size,vs,t,fz,by simp [Bd.at],hb,hf,hl,fun i c v hc hv=>(r i c v hc hv).mono sn,fun i=>mu_self hw i,by simp [Bd.top]; exact hroom⟩
theorem regrow {w':World} {k bn:Nat} {cs cs0:List C} {vs:Array Value} {t:TypeId} {fz:Nat×Nat} {sz cap:Nat} (hw:WR G hp w) (hk:hp[k]? = some (.cells cs0)) (hbn:(G.β k).at bn∨w.heap.size≤bn)
    (hh:∀ x,x < w.heap.size→x ≠ bn→w'.heap[x]? = w.heap[x]?) (hs:w.heap.size≤w'.heap.size) (hb:w'.heap[bn]? = some (.cells vs t fz)) (hf:Fz fz vs.size)
    (hl:cs.length≤vs.size) (hroom:cap * sz≤vs.size) (r:∀ (i:Nat) c v,cs[i]? = some c→vs[i]? = some v→CR G hp c v) (hio:Io w w':=by first | exact ⟨rfl,rfl,rfl⟩ | assumption) :
    ∃ G',WR G' (hp.set k .gone ++ [.cells cs]) w'∧Sn G hp w G' (hp.set k .gone ++ [.cells cs]) w'∧Isb G' (hp.set k .gone ++ [.cells cs]) hp.length bn∧(G'.β hp.length).top = cap * sz:=by
  have hlt:=lt_of_get hk
  have hmu:∀ i,G.μ bn i = none:=fun i=>by
    rcases hbn with h | h
    · obtain ⟨b',_,_,_,e,_,_,_,_,hn,_⟩:=hw.ob k _ hk
      cases Bd.at_inj h e
      exact hn i
    · cases hm:G.μ bn i with
      | none=>rfl
      | some v=>have:=hw.mu_lt hm; omega
  have other:∀ j,j < hp.length→j ≠ k→¬ (G.β j).at bn:=fun j hj hne hat=>by
    rcases hbn with h | h
    · exact hne (hw.inj j k bn hj hlt hat h)
    · have:=hw.at_lt hj hat; omega
  let G':Gh:=⟨fun j=>if j = hp.length then .tail bn 0 sz cap else if j = k then .none else G.β j,G.μ,G.lo⟩
  have bold:∀ j,j < hp.length→j ≠ k→G'.β j = G.β j:=fun j hj hne=>by
    show (if j = hp.length then _ else if j = k then _ else _) = _
    rw [if_neg (by omega),if_neg hne]
  have bk:G'.β k = .none:=by
    show (if k = hp.length then _ else if k = k then _ else _) = _
    rw [if_neg (by omega),if_pos rfl]
  have bnew:G'.β hp.length = .tail bn 0 sz cap:=by
    show (if hp.length = hp.length then _ else _) = _
    rw [if_pos rfl]
  have get:∀ j o,(hp.set k .gone ++ [.cells cs])[j]? = some o→(j = hp.length∧o = .cells cs)∨(j = k∧o = .gone)∨(j < hp.length∧j ≠ k∧hp[j]? = some o):=fun j o h=>by
    by_cases hj:j < hp.length
    · rw [List.getElem?_append_left (by simpa using hj)] at h
      by_cases e:j = k
      · subst e
        simp [hlt] at h
        exact .inr (.inl ⟨rfl,h.symm⟩)
      · rw [List.getElem?_set_ne (Ne.symm e)] at h
        exact .inr (.inr ⟨hj,e,h⟩)
    · rw [List.getElem?_append_right (by simpa using hj)] at h
      simp only [List.length_set] at h
      by_cases e:j = hp.length
      · subst e
        simp at h
        exact .inl ⟨rfl,h.symm⟩
      · have:=lt_of_get h
        simp at this
        omega
  have s:Sn G hp w G' (hp.set k .gone ++ [.cells cs]) w':=by
    refine ⟨fun _ _ _ h=>h,fun _ _ h=>.inl h,fun j x hj h=>?_,fun x hx _ hn=>?_,hs,fun j o h=>?_,hio,rfl⟩
    · by_cases e:j = hp.length
      · subst e
        rw [bnew] at h
        have e2:bn = x:=h
        subst e2
        rcases hbn with h' | h'
        · exact .inr ⟨k,hlt,h'⟩
        · exact .inl h'
      · by_cases e2:j = k
        · subst e2; rw [bk] at h; exact h.elim
        · simp at hj
          rw [bold j (by omega) e2] at h
          exact .inr ⟨j,by omega,h⟩
    · by_cases e:x = bn
      · subst e
        rcases hbn with h' | h'
        · exact (hn k hlt h').elim
        · omega
      · exact hh x hx e
    · have hj:=lt_of_get h
      by_cases e:j = k
      · subst e
        rw [hk] at h
        cases h
        exact ⟨.gone,by rw [List.getElem?_append_left (by simpa using hj)]; simp [hlt],by simp [KR]⟩
      · refine ⟨o,by rw [List.getElem?_append_left (by simpa using hj),List.getElem?_set_ne (Ne.symm e)]; exact h,?_⟩
        cases o <;> simp [KR,bold j hj e]
  refine ⟨G',⟨fun x i v h=>?_,fun j o h=>?_,fun j j' x hj hj' h h'=>?_,Nat.le_trans hw.lo s.size⟩,s,⟨.cells cs,by rw [List.getElem?_append_right (by simp)]; simp,rfl,.inr (by rw [bnew]; rfl)⟩,by rw [bnew]; simp [Bd.top]⟩
  · have h:G.μ x i = some v:=h
    have hx:x ≠ bn:=fun e=>by subst e; rw [hmu i] at h; cases h
    obtain ⟨us,t',fz',hb2,hi⟩:=block_of_cell (hw.mu x i v h)
    rw [cell_at (by rw [hh x (lt_of_block hb2) hx]; exact hb2),hi]
  · rcases get j o h with ⟨rfl,rfl⟩ | ⟨rfl,rfl⟩ | ⟨hj,hne,h⟩
    · exact ⟨bn,vs,t,fz,by rw [bnew]; rfl,hb,hf,hl,fun i c v hc hv=>(r i c v hc hv).mono s,hmu,by rw [bnew]; simp [Bd.top]; exact hroom⟩
    · exact bk
    · exact (hw.ob j o h).keep s (bold j hj hne) (fun x hx=>hh x (hw.at_lt hj hx) fun e=>other j hj hne (e ▸ hx)) fun _ _ _ hn=>hn
  · have cl:∀ i,i < (hp.set k .gone ++ [Ob.cells cs]).length→(G'.β i).at x→(i = hp.length∧x = bn)∨(i < hp.length∧i ≠ k∧(G.β i).at x):=fun i hi h=>by
      by_cases e:i = hp.length
      · subst e; rw [bnew] at h; exact .inl ⟨rfl,Eq.symm h⟩
      · by_cases e2:i = k
        · subst e2; rw [bk] at h; exact h.elim
        · simp at hi
          rw [bold i (by omega) e2] at h
          exact .inr ⟨by omega,e2,h⟩
    rcases cl j hj h with ⟨rfl,e⟩ | ⟨a1,a2,a3⟩ <;> rcases cl j' hj' h' with ⟨rfl,e'⟩ | ⟨c1,c2,c3⟩
    · rfl
    · subst e; exact (other j' c1 c2 c3).elim
    · subst e'; exact (other j a1 a2 a3).elim
    · exact hw.inj j j' x a1 c1 a3 c3
theorem fz0 (n:Nat):Fz (0,0) n:=⟨Nat.le_refl _,fun i _=>by simp⟩
theorem all2_get {α:Type} {R:C→Value→Prop} {cs:List C} {vs:Array Value} (h:All2 R cs vs.toList):∀ (i:Nat) c v,cs[i]? = some c→vs[i]? = some v→R c v:=by
  intro i c v hc hv
  obtain ⟨v',hv',r⟩:=h.get hc
  rw [Array.getElem?_toList] at hv'
  rw [hv] at hv'
  cases hv'
  exact r
theorem name_ok {n:Nat} (hw:WR G hp w):∃ G',WR G' (hp ++ [.row n 0]) w∧Sn G hp w G' (hp ++ [.row n 0]) w∧G'.β hp.length = .none∧G'.μ = G.μ:=by
  have s:Sn G hp w ⟨fun k=>if k = hp.length then .none else G.β k,G.μ,G.lo⟩ (hp ++ [.row n 0]) w:=by
    refine ⟨fun _ _ _ h=>h,fun _ _ h=>.inl h,fun k b hk h=>?_,fun b hb _ _=>rfl,Nat.le_refl _,fun k o' h=>?_,Io.refl w,rfl⟩
    · by_cases e:k = hp.length
      · simp [e,Bd.at] at h
      · simp only [e,if_false] at h
        exact .inr ⟨k,by simp at hk; omega,h⟩
    · have hk:=lt_of_get h
      have:k ≠ hp.length:=by omega
      exact ⟨o',by rw [List.getElem?_append_left hk]; exact h,by cases o' <;> simp [KR,this]⟩
  refine ⟨⟨fun k=>if k = hp.length then .none else G.β k,G.μ,G.lo⟩,⟨hw.mu,fun k o' h=>?_,fun k k' b hk hk' h h'=>?_,hw.lo⟩,s,by simp,rfl⟩
  · by_cases e:k = hp.length
    · subst e
      simp at h
      subst h
      simp [OR]
    · have hk:k < hp.length:=by
        rcases Nat.lt_or_ge k hp.length with h' | h'
        · exact h'
        · rw [List.getElem?_append_right h'] at h
          cases hkk:k - hp.length with
          | zero=>omega
          | succ n=>simp [hkk] at h
      rw [List.getElem?_append_left hk] at h
      exact (hw.ob k o' h).keep s (by simp [e]) (fun _ _=>rfl) fun _ _ _ hn=>hn
  · simp only [List.length_append,List.length_singleton] at hk hk'
    by_cases e:k = hp.length <;> by_cases e':k' = hp.length <;> simp only [e,e',if_true,if_false] at h h'
    · omega
    · simp [Bd.at] at h
    · simp [Bd.at] at h'
    · exact hw.inj k k' b (by omega) (by omega) h h'
theorem op_alloc (hs:SR G hp s a.tmps) (hw:WR G hp w) {t:TypeId} (hop:o.op = .alloc t) {v:AV×Heap} (h:dop E s hp o = some v) :
    OkV G hp w ((execOp a.eval o).run E.P w) v:=by
  simp only [dop,hop] at h
  split at h
  · split at h
    case h_2=>cases h
    rename_i hz
    cases h
    simp only [zeroC,Option.map_eq_some_iff,Option.bind_eq_some_iff] at hz
    obtain ⟨x,⟨z,hz,hx⟩,hc⟩:=hz
    have r:=(ofV_rel (G:=G) (hp:=hp) hx).cells
    rw [hc] at r
    obtain ⟨v0,hv0⟩:∃ v0,z.cells.toList = [v0]:=by
      have:=r.length
      match hzl:z.cells.toList,this with
      | [v0],_=>exact ⟨v0,rfl⟩
    rw [hv0] at r
    obtain ⟨G1,hw1,sn1,hβ1,hμ1⟩:=name_ok (n:=0) hw
    have r0:CR G hp (.d (.lst true [])) v0:=by cases r with | cons h _=>exact h
    have r1:CR G1 (hp ++ [.row 0 0]) (.own true [] hp.length) v0:=by
      have hd:DR G.μ (.lst true []) v0:=r0
      obtain ⟨ad,cap,sz,vs,rfl,_,hnl,hcap,_⟩:=DR.inv hd
      refine ⟨by rw [hμ1]; exact hd,0,0,by simp,Nat.le_refl _,fun _=>?_⟩
      rw [hβ1]
      cases ad with
      | none=>rw [hcap rfl]; exact ⟨none,rfl⟩
      | some _=>cases hnl
    obtain ⟨G',hw',sn,hi⟩:=new_cells (w':=w.alloc (.cells z.cells t)) (cs:=[.own true [] hp.length]) (t:=t) hw1 rfl (fz0 _) (by rw [← Array.length_toList,hv0]; simp) (all2_get (α:=Unit) (by rw [hv0]; exact .cons r1 .nil))
    refine ⟨_,_,G',.inl ⟨?_,⟨_,by simpa using hi,rfl⟩⟩,hw',sn1.trans sn⟩
    simp only [execOp,hop]
    refine run_val ?_
    simp [Instr.alloc,run_zeroValue hz,newVar,newRow]
  simp only [zeroC,Option.map_eq_some_iff,Option.bind_eq_some_iff] at h
  obtain ⟨cs,⟨x,⟨z,hz,hx⟩,rfl⟩,rfl⟩:=h
  have r:=(ofV_rel (G:=G) (hp:=hp) hx).cells
  obtain ⟨G',hw',sn,hi⟩:=new_cells (w':=w.alloc (.cells z.cells t)) (cs:=x.cells) (t:=t) hw rfl (fz0 _) (by rw [r.length]; simp) (all2_get (α:=Unit) r)
  refine ⟨_,_,G',.inl ⟨?_,⟨_,hi,rfl⟩⟩,hw',sn⟩
  simp only [execOp,hop]
  refine run_val ?_
  simp [Instr.alloc,run_zeroValue hz,newVar,newRow]
theorem op_box (hs:SR G hp s a.tmps) (hw:WR G hp w) {t:TypeId} {x:Operand} (hop:o.op = .box t x) {v:AV×Heap} (h:dop E s hp o = some v) :
    OkV G hp w ((execOp a.eval o).run E.P w) v:=by
  simp only [dop,hop,Option.map_eq_some_iff] at h
  obtain ⟨y,hy,rfl⟩:=h
  have r:=(ev1_rel hs hy).cells
  obtain ⟨G',hw',sn,hi⟩:=new_cells (w':=w.alloc (.cells (a.eval x).cells t)) (cs:=y.cells) (t:=t) hw rfl (fz0 _) (by rw [r.length]; simp) (all2_get (α:=Unit) r)
  refine ⟨_,_,G',.inl ⟨?_,⟨_,hi,rfl⟩⟩,hw',sn⟩
  simp only [execOp,hop]
  refine run_val ?_
  simp [Instr.box,newVar,newRow]
theorem wr_length:∀ (cs:List C) (off:Nat) (xs:List C),(wr cs off xs).length = cs.length:=by
  intro cs
  induction cs with
  | nil=>intro off xs; rfl
  | cons c cs ih =>
    intro off xs
    cases off with
    | zero=>cases xs with
      | nil=>rfl
      | cons x xs=>simp only [wr,List.length_cons,ih]
    | succ off=>simp only [wr,List.length_cons,ih]
theorem wr_get:∀ (cs xs:List C) (off i:Nat),off + xs.length≤cs.length →
    (wr cs off xs)[i]? = if off≤i∧i < off + xs.length then xs[i - off]? else cs[i]? := by
  intro cs
  induction cs with
  | nil =>
    intro xs off i h
    simp only [List.length_nil] at h
    rw [if_neg (by omega)]
    rfl
  | cons c cs ih =>
    intro xs off i h
    simp only [List.length_cons] at h
    cases off with
    | zero=>cases xs with
      | nil=>simp only [wr,List.length_nil]; rw [if_neg (by omega)]
      | cons x xs =>
        simp only [List.length_cons] at h ⊢
        cases i with
        | zero=>simp [wr]
        | succ i =>
          simp only [wr,List.getElem?_cons_succ]
          rw [ih xs 0 i (by omega)]
          by_cases hi:i < xs.length
          · rw [if_pos (by omega),if_pos (by omega)]
            simp
          · rw [if_neg (by omega),if_neg (by omega)]
    | succ off =>
      cases i with
      | zero=>simp only [wr,List.getElem?_cons_zero]; rw [if_neg (by omega)]
      | succ i =>
        simp only [wr,List.getElem?_cons_succ]
        rw [ih xs off i (by omega)]
        by_cases hi:off≤i∧i < off + xs.length
        · rw [if_pos hi,if_pos (by omega)]
          congr 1
          omega
        · rw [if_neg hi,if_neg (by omega)]
theorem wr_nil:∀ (cs:List C) (off:Nat),wr cs off [] = cs:=by
  intro cs
  induction cs with
  | nil=>intro off; rfl
  | cons c cs ih=>intro off; cases off with
    | zero=>rfl
    | succ off=>simp only [wr,ih]
theorem wr_cons (x:C) (xs:List C):∀ (cs:List C) (off:Nat),wr cs off (x :: xs) = wr (cs.set off x) (off + 1) xs:=by
  intro cs
  induction cs with
  | nil=>intro off; rfl
  | cons c cs ih=>intro off; cases off with
    | zero=>simp only [wr,List.set_cons_zero]
    | succ off=>simp only [wr,List.set_cons_succ,ih]
theorem write_cells {k b off:Nat} {cs xs:List C} {vs:List Value} (hw:WR G hp w) (hk:hp[k]? = some (.cells cs)) (hb:(G.β k).at b) (hle:off + xs.length≤cs.length)
    (r:All2 (CR G hp) xs vs):∃ w',(storeCells ⟨b,off,none⟩ vs).run E.P w = .ok () w'∧WR G (hp.set k (.cells (wr cs off xs))) w'∧Sn G hp w G (hp.set k (.cells (wr cs off xs))) w':=by
  obtain ⟨b',us,t,fz,e,h1,h2,h3,h4,h5⟩:=hw.ob k _ hk
  cases Bd.at_inj hb e
  have hl:=r.length
  have h1c:∀ x ∈ vs,x.oneCell' = true:=by
    intro x hx
    obtain ⟨i,hi⟩:=List.getElem?_of_mem hx
    obtain ⟨c,hc,hr⟩:=(r.flip).get hi
    exact CR.one hr
  obtain ⟨w',us',hrun,e1,e2,e3,e4,e5,e6,e7⟩:=run_storeCells (P:=E.P) b off t fz vs 0 us w h1 h2 (by omega) h1c
  obtain ⟨sn,kk⟩:=set_ok (o':=.cells (wr cs off xs)) hw hk hb rfl rfl e5 e6
  refine ⟨w',hrun,kk ?_,sn⟩
  refine ⟨b,us',t,fz,hb,e1,by rw [e2]; exact h2,by rw [wr_length,e2]; exact h3,fun i c v hc hv=>?_,h5.1,by rw [e2]; exact h5.2⟩
  rw [wr_get _ _ _ _ hle] at hc
  by_cases hin:off≤i∧i < off + xs.length
  · rw [if_pos hin] at hc
    obtain ⟨v',hv',hr⟩:=r.get hc
    have:=e4 _ _ hv'
    rw [show off + 0 + (i - off) = i by omega,hv] at this
    cases this
    exact hr.mono sn
  · rw [if_neg hin] at hc
    rw [e3 i (by omega)] at hv
    exact (h4 i c v hc hv).mono sn
theorem op_store (hs:SR G hp s a.tmps) (hw:WR G hp w) {t:TypeId} {x y:Operand} (hop:o.op = .store t x y) {v:AV×Heap} (h:dop E s hp o = some v) :
    OkV G hp w ((execOp a.eval o).run E.P w) v:=by
  simp only [dop,hop,Option.bind_eq_bind,Option.bind_eq_some_iff] at h
  obtain ⟨n,hn,z,hz,h⟩:=h
  split at h
  · rename_i k off hx
    split at h
    · rename_i cs hk
      split at h
      · rename_i hc
        cases h
        obtain ⟨b,hib,hv⟩:=evC_rel hs hx
        have r:=(ev1_rel hs hz).cells
        obtain ⟨w',hrun,hw',sn⟩:=write_cells (E:=E) hw hk (hib.at hk) (by rw [hc.2]; exact hc.1) r
        refine ⟨undef,w',G,.inr ⟨?_,rfl⟩,hw',sn⟩
        simp only [execOp,hop,hv]
        refine run_unit ?_
        have hsz:(a.eval y).cells.size = n:=by rw [← hc.2,r.length]; simp
        simp only [Instr.storeAt,Instr.sureAddr,pure_bind,storeVar,Sem.run_bind,run_sizeOf hn,Result.andThen_ok,hsz,ne_eq,not_true_eq_false,if_false]
        exact hrun
      · cases h
    · cases h
  · cases h
theorem op_makeFunc (hs:SR G hp s a.tmps) (hw:WR G hp w) {f:Fn} {first captured:Array Operand} (hop:o.op = .makeFunc f first captured) {v:AV×Heap} (h:dop E s hp o = some v) :
    OkV G hp w ((execOp a.eval o).run E.P w) v:=by
  simp only [dop,hop] at h
  split at h
  · rename_i g hf
    simp only [Option.bind_eq_bind,Option.bind_eq_some_iff] at h
    obtain ⟨cs,hcs,h⟩:=h
    have hfirst:first = #[]:=by apply Array.ext'; simpa using hf
    subst hfirst
    have hcap:captured.map a.eval = ((captured.toList.map a.eval).toArray:Array Value):=by apply Array.ext'; simp
    have r:All2 (fun p x=>∃ b,Isb G hp p.1 b∧x = .pointer (some ⟨b,p.2,none⟩)) cs (captured.toList.map a.eval):=by
      have h2:=mapM_all2 hcs
      clear hcs hcap h
      generalize captured.toList = l at h2
      induction h2 with
      | nil=>exact .nil
      | cons h _ ih =>
        refine .cons ?_ ih
        split at h
        · rename_i k off hx
          cases h
          exact evC_rel hs hx
        · cases h
    split at h
    · rename_i he
      cases h
      have hnil:captured.toList.map a.eval = []:=by
        have:cs = []:=by simpa using he
        subst this
        exact List.eq_nil_of_length_eq_zero r.length.symm
      refine OkV.same hw (x:=.func (.func g) #[] #[]) ?_ (.sc _ rfl)
      simp only [execOp,hop]
      refine run_val ?_
      simp [Instr.makeFunc,hcap,hnil]
    · cases h
      refine OkV.same hw (x:=.func (.func g) #[] (captured.toList.map a.eval).toArray) ?_ ⟨_,rfl,r⟩
      simp only [execOp,hop]
      refine run_val ?_
      rw [hcap,Array.map_empty]
      rfl
  · cases h
theorem alloc_at (w:World) (ob:Obj):(w.alloc ob).heap[w.heap.size]? = some ob:=by show (w.heap.push ob)[w.heap.size]? = _; simp
theorem op_makeMap (hs:SR G hp s a.tmps) (hw:WR G hp w) {t:TypeId} {x:Option Operand} (hop:o.op = .makeMap t x) {v:AV×Heap} (h:dop E s hp o = some v) :
    OkV G hp w ((execOp a.eval o).run E.P w) v:=by
  cases x with
  | some x=>simp [dop,hop] at h
  | none =>
    simp only [dop,hop,Option.some.injEq] at h
    subst h
    obtain ⟨sn,k⟩:=push_ok (w':=w.alloc (.map #[] 0)) (ob:=.map #[] 0) (o:=.amap []) (bd:=.blk w.heap.size) (μ':=G.μ) hw rfl (fun b h=>h.symm) (fun _ _ _ h=>h) (fun _ _ h=>.inl h)
      (fun i v h=>by rw [mu_self hw] at h; cases h)
    refine ⟨.map (some w.heap.size),w.alloc (.map #[] 0),_,.inl ⟨?_,⟨w.heap.size,⟨.amap [],by simp,rfl,.inr (by simp [Bd.at])⟩,rfl⟩⟩,k ?_,sn⟩
    · simp only [execOp,hop]
      refine run_val ?_
      simp [Instr.makeMap]
    · exact ⟨w.heap.size,#[],0,by simp,alloc_at _ _,.nil,fun i=>mu_self hw i⟩
theorem op_range (hs:SR G hp s a.tmps) (hw:WR G hp w) {t:TypeId} {x:Operand} (hop:o.op = .range t x) {v:AV×Heap} (h:dop E s hp o = some v) :
    OkV G hp w ((execOp a.eval o).run E.P w) v:=by
  simp only [dop,hop] at h
  split at h
  · rename_i b hu hx
    cases h
    have r:=evC_rel hs hx
    have hv:a.eval x = .string b:=by generalize a.eval x = z at r; cases r; rfl
    obtain ⟨sn,k⟩:=push_ok (w':=w.alloc (.stringIter b 0)) (ob:=.stringIter b 0) (o:=.siter b 0) (bd:=.blk w.heap.size) (μ':=G.μ) hw rfl (fun b h=>h.symm) (fun _ _ _ h=>h) (fun _ _ h=>.inl h)
      (fun i v h=>by rw [mu_self hw] at h; cases h)
    refine ⟨.pointer (some ⟨w.heap.size,0,none⟩),w.alloc (.stringIter b 0),_,.inl ⟨?_,⟨w.heap.size,⟨.siter b 0,by simp,rfl,.inr (by simp [Bd.at])⟩,rfl⟩⟩,k ?_,sn⟩
    · simp only [execOp,hop]
      refine run_val ?_
      simp [Instr.range,run_underlying hu,hv]
    · exact ⟨w.heap.size,by simp,alloc_at _ _,fun i=>mu_self hw i⟩
  · cases h
theorem getObj_run {P:Program} {b:Nat} {ob:Obj} (h:w.heap[b]? = some ob) (hc:∀ c t f,ob ≠ .cells c t f):(getObj b).run P w = .ok ob w:=by
  cases ob with
  | cells c t f=>exact (hc c t f rfl).elim
  | _=>simp [getObj,Sem.run,h]
theorem setObj_run {P:Program} {b:Nat} {ob ob':Obj} (h:w.heap[b]? = some ob) (hc:∀ c t f,ob ≠ .cells c t f):(setObj b ob').run P w = .ok () { w with heap:=w.heap.setIfInBounds b ob' }:=by
  cases ob with
  | cells c t f=>exact (hc c t f rfl).elim
  | _=>simp [setObj,Sem.run,h]
theorem set_heap {b:Nat} {ob ob':Obj} (h:w.heap[b]? = some ob):({ w with heap:=w.heap.setIfInBounds b ob' }:World).heap[b]? = some ob' ∧
    (∀ x,x ≠ b→({ w with heap:=w.heap.setIfInBounds b ob' }:World).heap[x]? = w.heap[x]?)∧({ w with heap:=w.heap.setIfInBounds b ob' }:World).heap.size = w.heap.size:=by
  have hlt:=lt_of_block h
  refine ⟨by simp [hlt],fun x hx=>?_,by simp⟩
  simp [Array.getElem?_setIfInBounds,Ne.symm hx]
theorem op_next (hs:SR G hp s a.tmps) (hw:WR G hp w) {x:Operand} {q:Bool} (hop:o.op = .next x q) {v:AV×Heap} (h:dop E s hp o = some v) :
    OkV G hp w ((execOp a.eval o).run E.P w) v:=by
  cases q with
  | false=>simp [dop,hop] at h
  | true =>
    simp only [dop,hop] at h
    split at h
    · rename_i k hx
      split at h
      · rename_i st pos hk
        obtain ⟨b,hib,hv⟩:=evC_rel hs hx
        obtain ⟨b',hb,h1,h2⟩:=hw.ob k _ hk
        have hat:(G.β k).at b':=by rw [hb]; rfl
        cases Bd.at_inj (hib.at hk) hat
        split at h
        · rename_i hpos
          cases h
          obtain ⟨g1,g2,g3⟩:=set_heap (w:=w) (ob':=.stringIter st (pos + (Utf8.decode st pos).2)) h1
          obtain ⟨sn,kk⟩:=set_ok (o':=.siter st (pos + (Utf8.decode st pos).2)) hw hk hat rfl rfl g2 g3
          refine ⟨.tuple #[.bool true,goInt pos,.int .i32 (Utf8.decode st pos).1],_,G,.inl ⟨?_,⟨[.bool true,goInt pos,.int .i32 (Utf8.decode st pos).1],rfl,.cons (.sc _ rfl) (.cons (.sc _ rfl) (.cons (.sc _ rfl) .nil))⟩⟩,kk ⟨b,hb,g1,h2⟩,sn⟩
          simp only [execOp,hop,hv]
          refine run_val ?_
          simp [Instr.next,getObj_run h1 (by simp),setObj_run h1 (by simp),hpos]
        · rename_i hpos
          cases h
          refine OkV.same hw (x:=.tuple #[.bool false]) ?_ ⟨[.bool false],rfl,.cons (.sc _ rfl) .nil⟩
          simp only [execOp,hop,hv]
          refine run_val ?_
          simp [Instr.next,getObj_run h1 (by simp),hpos]
      · cases h
    · cases h
end
end Go.Ab
end
section
set_option linter.unusedVariables false
set_option linter.unusedSimpArgs false
namespace Go.Ab
open Go
section
variable {E:Env} {G:Gh} {hp:Heap} {s:Nat→AV} {a:Act} {w:World} {o:Oper}
theorem toD_rel {c:C} {d:D} (h:c.toD = some d) {v:Value} (r:CR G hp c v):DR G.μ d v:=by
  cases c with
  | d x=>simp only [C.toD,Option.some.injEq] at h; subst h; exact r
  | own nl es k=>simp only [C.toD,Option.some.injEq] at h; subst h; exact r.1
  | _=>simp [C.toD] at h
theorem new_own {w':World} {es:List (List D)} {cells:Array Value} {t:TypeId} {fz:Nat×Nat} {sz cap:Nat} {bd:Bd} (hw:WR G hp w) (hh:w'.heap = w.heap.push (.cells cells t fz)) (hf:Fz fz cells.size)
    (h0:0 < sz) (hcap:es.length≤cap) (hsz:∀ e ∈ es,e.length = sz) (hcs:cap * sz≤cells.size)
    (hbd:bd = .none∧es.length = cap∨bd = .tail w.heap.size 0 sz cap)
    (hv:∀ i j e c,es[i]? = some e→e[j]? = some c→∃ v,cells[i * sz + j]? = some v∧DR G.μ c v) (hio:Io w w':=by first | exact ⟨rfl,rfl,rfl⟩ | assumption) :
    ∃ G',WR G' (hp ++ [.row es.length sz]) w'∧Sn G hp w G' (hp ++ [.row es.length sz]) w'∧CR G' (hp ++ [.row es.length sz]) (.own false es hp.length) (.slice (some ⟨w.heap.size,0,none⟩) es.length cap):=by
  have hb:w'.heap[w.heap.size]? = some (.cells cells t fz):=by rw [hh]; simp
  have hle:es.length * sz≤cap * sz:=Nat.mul_le_mul_right sz hcap
  have hlen:(cells.toList.take (es.length * sz)).length = es.length * sz:=by simp; omega
  have mono:∀ b i v,G.μ b i = some v→layμ G.μ w.heap.size 0 (cells.toList.take (es.length * sz)) b i = some v:=by
    intro b i v h
    have:=hw.mu_lt h
    unfold layμ
    rw [if_neg (by omega)]
    exact h
  obtain ⟨sn,k⟩:=push_ok (o:=.row es.length sz) (bd:=bd) (μ':=layμ G.μ w.heap.size 0 (cells.toList.take (es.length * sz))) hw hh
    (fun b h=>by rcases hbd with ⟨rfl,_⟩ | rfl <;> simp [Bd.at] at h; exact h.symm) mono
    (fun b i h=>by
      unfold layμ at h
      split at h
      · rename_i hc; exact .inr hc.1
      · exact .inl h)
    (fun i v h=>by
      unfold layμ at h
      split at h
      · rename_i hc
        rw [cell_at hb]
        rw [hlen] at hc
        rw [List.getElem?_take,if_pos (by omega)] at h
        simpa using h
      · rw [mu_self hw] at h; cases h)
  refine ⟨_,k ?_,sn,?_,es.length,sz,by simp,Nat.le_refl _,fun _=>?_⟩
  · simp only [OR,if_true]
    rcases hbd with ⟨rfl,_⟩ | rfl
    · trivial
    · refine ⟨rfl,⟨cells,t,fz,hb,hf,by omega⟩,hcap,h0,fun i hi=>?_⟩
      unfold layμ
      rw [if_neg (by omega)]
      exact mu_self hw i
  · refine DR.mk rfl hcap hsz fun i j e c he hc=>?_
    obtain ⟨v,h1,h2⟩:=hv i j e c he hc
    refine ⟨v,?_,h2.mono mono⟩
    have hi:=lt_of_get he
    have hj:=lt_of_get hc
    rw [hsz e (List.mem_of_getElem? he)] at hj
    have hij:i * sz + j < es.length * sz:=by
      have:(i + 1) * sz≤es.length * sz:=Nat.mul_le_mul_right sz hi
      rw [Nat.add_mul] at this
      omega
    show layμ G.μ w.heap.size 0 (cells.toList.take (es.length * sz)) w.heap.size (0 + i * sz + j) = some v
    unfold layμ
    rw [hlen,if_pos (by omega),List.getElem?_take,if_pos (by omega)]
    simpa using h1
  · show CapR (if hp.length = hp.length then bd else _) es _
    rw [if_pos rfl]
    rcases hbd with ⟨rfl,h⟩ | rfl
    · exact ⟨_,by rw [h]⟩
    · exact ⟨rfl,hsz⟩
theorem new_lst {w':World} {es:List (List D)} {cells:Array Value} {t:TypeId} {fz:Nat×Nat} {sz cap:Nat} (hw:WR G hp w) (hh:w'.heap = w.heap.push (.cells cells t fz)) (hcap:es.length≤cap)
    (hsz:∀ e ∈ es,e.length = sz) (hcs:es.length * sz≤cells.size)
    (hv:∀ i j e c,es[i]? = some e→e[j]? = some c→∃ v,cells[i * sz + j]? = some v∧DR G.μ c v) (hio:Io w w':=by first | exact ⟨rfl,rfl,rfl⟩ | assumption) :
    ∃ G',WR G' hp w'∧Sn G hp w G' hp w'∧CR G' hp (.d (.lst false es)) (.slice (some ⟨w.heap.size,0,none⟩) es.length cap):=by
  have hb:w'.heap[w.heap.size]? = some (.cells cells t fz):=by rw [hh]; simp
  have hlen:(cells.toList.take (es.length * sz)).length = es.length * sz:=by simp; omega
  have mono:∀ b i v,G.μ b i = some v→layμ G.μ w.heap.size 0 (cells.toList.take (es.length * sz)) b i = some v:=by
    intro b i v h
    have:=hw.mu_lt h
    unfold layμ
    rw [if_neg (by omega)]
    exact h
  obtain ⟨sn,k⟩:=push_mu (μ':=layμ G.μ w.heap.size 0 (cells.toList.take (es.length * sz))) hw hh mono
    (fun b i h=>by
      unfold layμ at h
      split at h
      · rename_i hc; exact .inr hc.1
      · exact .inl h)
    (fun i v h=>by
      unfold layμ at h
      split at h
      · rename_i hc
        rw [cell_at hb]
        rw [hlen] at hc
        rw [List.getElem?_take,if_pos (by omega)] at h
        simpa using h
      · rw [mu_self hw] at h; cases h)
  refine ⟨_,k,sn,?_⟩
  refine DR.mk rfl hcap hsz fun i j e c he hc=>?_
  obtain ⟨v,h1,h2⟩:=hv i j e c he hc
  refine ⟨v,?_,h2.mono mono⟩
  have hi:=lt_of_get he
  have hj:=lt_of_get hc
  rw [hsz e (List.mem_of_getElem? he)] at hj
  have hij:i * sz + j < es.length * sz:=by
    have:(i + 1) * sz≤es.length * sz:=Nat.mul_le_mul_right sz hi
    rw [Nat.add_mul] at this
    omega
  show layμ G.μ w.heap.size 0 (cells.toList.take (es.length * sz)) w.heap.size (0 + i * sz + j) = some v
  unfold layμ
  rw [hlen,if_pos (by omega),List.getElem?_take,if_pos (by omega)]
  simpa using h1
theorem chunk_length {α:Type} (sz n:Nat) (l:List α):(chunk sz n l).length = n:=by
  induction n generalizing l with
  | zero=>rfl
  | succ n ih=>simp [chunk,ih]
theorem chunk_get {α:Type} (sz n:Nat) (l:List α) (i:Nat) (hi:i < n):(chunk sz n l)[i]? = some ((l.drop (i * sz)).take sz):=by
  induction n generalizing l i with
  | zero=>omega
  | succ n ih =>
    cases i with
    | zero=>simp [chunk]
    | succ i=>simp only [chunk,List.getElem?_cons_succ]; rw [ih _ _ (by omega)]; simp [Nat.add_mul,Nat.add_comm]
theorem chunk_all {α:Type} {sz n:Nat} {l:List α} (hl:n * sz≤l.length):∀ e ∈ chunk sz n l,e.length = sz:=by
  intro e he
  obtain ⟨i,hi⟩:=List.getElem?_of_mem he
  have:=lt_of_get hi
  rw [chunk_length] at this
  rw [chunk_get _ _ _ _ this] at hi
  cases hi
  have h2:(i + 1) * sz≤n * sz:=Nat.mul_le_mul_right sz this
  rw [Nat.add_mul] at h2
  simp
  omega
theorem foldl_wr {R:C→Value→Prop} (off:Nat):∀ (vs:List Value) (xs:List C) (n:Nat) (cs:List C) (cells:Array Value),All2 R cs cells.toList→All2 R xs vs →
    All2 R (wr cs (off + n) xs) ((vs.zipIdx n).foldl (fun (cs:Array Value) (p:Value×Nat)=>cs.setIfInBounds (off + p.2) p.1) cells).toList:=by
  intro vs
  induction vs with
  | nil=>intro xs n cs cells h hx; cases hx; rw [wr_nil]; exact h
  | cons v vs ih =>
    intro xs n cs cells h hx
    cases hx with
    | cons hr ht =>
      simp only [List.zipIdx_cons,List.foldl_cons,wr_cons]
      rw [Nat.add_assoc]
      refine ih _ (n + 1) _ _ (All2.of_get (by simp [h.length]) fun i c u hc hu=>?_) ht
      rw [Array.toList_setIfInBounds] at hu
      by_cases e:off + n = i
      · subst e
        have h1:=lt_of_get hc
        rw [List.length_set] at h1
        rw [List.getElem?_set_self h1] at hc
        rw [List.getElem?_set_self (by rw [← h.length]; exact h1)] at hu
        cases hc; cases hu
        exact hr
      · rw [List.getElem?_set_ne e] at hc hu
        obtain ⟨u',hu',r⟩:=h.get hc
        rw [hu] at hu'
        cases hu'
        exact r
theorem fill_ok {place:Nat→Option (Nat×Nat)}:∀ (ps:List (Nat×V1)) (vs:List (Nat×Value)) (cs cs':List C) (cells:Array Value),All2 (CR G hp) cs cells.toList →
    All2 (fun (p:Nat×V1) (q:Nat×Value)=>p.1 = q.1∧VR G hp p.2 q.2) ps vs→fillC place cs ps = some cs' →
    ∃ cells',Instr.fill place cells vs = some cells'∧All2 (CR G hp) cs' cells'.toList:=by
  intro ps
  induction ps with
  | nil=>intro vs cs cs' cells h hr hf; cases hr; simp only [fillC,Option.some.injEq] at hf; subst hf; exact ⟨cells,rfl,h⟩
  | cons p ps ih =>
    intro vs cs cs' cells h hr hf
    cases hr with
    | cons hq ht =>
      rename_i q vs
      obtain ⟨i,x⟩:=p
      obtain ⟨i',v⟩:=q
      obtain ⟨rfl,hv⟩:=hq
      simp only [fillC] at hf
      split at hf
      · cases hf
      · rename_i off size hpl
        split at hf
        · rename_i hc
          have hcells:=hv.cells
          have hsz:v.cells.size = size:=by rw [← hc.1,hcells.length]; simp
          have hcs:off + v.cells.size≤cells.size:=by
            have:=h.length
            simp at this
            omega
          have key:=foldl_wr (R:=CR G hp) off v.cells.toList x.cells 0 cs cells h hcells
          obtain ⟨cells',h1,h2⟩:=ih vs _ cs' _ key ht hf
          refine ⟨cells',?_,h2⟩
          simp only [Instr.fill,hpl,hsz]
          rw [if_neg (by simp; omega)]
          rw [← h1]
          congr 1
          rw [← Array.foldl_toList,Array.toList_zipIdx]
        · cases hf
theorem evParts_rel (hs:SR G hp s a.tmps) {parts:List (Nat×Operand)} {ps:List (Nat×V1)} (h:evParts s parts = some ps) :
    All2 (fun (p:Nat×V1) (q:Nat×Value)=>p.1 = q.1∧VR G hp p.2 q.2) ps (parts.map fun p=>(p.1,a.eval p.2)):=by
  have h2:=(mapM_all2 h).flip
  clear h
  induction h2 with
  | nil=>exact .nil
  | cons h _ ih =>
    refine .cons ?_ ih
    simp only [Option.map_eq_some_iff] at h
    obtain ⟨v,hv,rfl⟩:=h
    exact ⟨rfl,ev1_rel hs hv⟩
theorem run_places {P:Program}:∀ {fs:List Field} {pl:List (Nat×Nat)},places P fs = some pl →
    ((fs.mapM fun f=>do pure (f.offset,← sizeOf f.type):Sem (List (Nat×Nat)))).run P w = .ok pl w:=by
  intro fs
  induction fs with
  | nil=>intro pl h; simp only [places,List.mapM_nil,Option.pure_def,Option.some.injEq] at h; subst h; rfl
  | cons f fs ih =>
    intro pl h
    simp only [places,List.mapM_cons,Option.bind_eq_bind,Option.bind_eq_some_iff,Option.map_eq_some_iff,Option.pure_def,Option.some.injEq] at h
    obtain ⟨p,⟨n,hn,rfl⟩,l,hl,rfl⟩:=h
    simp only [List.mapM_cons,Sem.run_bind,run_sizeOf hn,Result.andThen_ok,Sem.run_pure]
    rw [ih hl]
    rfl
theorem op_build (hs:SR G hp s a.tmps) (hw:WR G hp w) {t:TypeId} {parts:Array (Nat×Operand)} (hop:o.op = .build t parts) {v:AV×Heap} (h:dop E s hp o = some v) :
    OkV G hp w ((execOp a.eval o).run E.P w) v:=by
  simp only [dop,hop,zeroC,Option.bind_eq_bind,Option.bind_eq_some_iff,Option.map_eq_some_iff] at h
  obtain ⟨ps,hps,z,⟨zv,⟨zz,hz,hzv⟩,rfl⟩,h⟩:=h
  have hp':=evParts_rel hs hps
  have hzr:=(ofV_rel (G:=G) (hp:=hp) hzv).cells
  have hparts:(parts.map fun x=>(x.1,a.eval x.2)).toList = parts.toList.map fun p=>(p.1,a.eval p.2):=by simp
  split at h
  · rename_i fs hu
    simp only [Option.bind_eq_some_iff,Option.map_eq_some_iff] at h
    obtain ⟨pl,hpl,cs,hcs,rfl⟩:=h
    obtain ⟨cells',h1,h2⟩:=fill_ok ps _ _ _ _ hzr hp' hcs
    refine OkV.same hw (x:=.agg cells') ?_ ⟨cells'.toList,by simp,h2⟩
    simp only [execOp,hop]
    refine run_val ?_
    simp only [Instr.build,Sem.run_bind,run_zeroValue hz,Result.andThen_ok,run_underlying hu,Array.mapM_eq_mapM_toList,Sem.run_map,run_places hpl]
    have:(fun (x:Nat)=>pl.toArray[x]?) = (fun (x:Nat)=>pl[x]?):=by funext x; simp
    rw [hparts,this,h1]
    rfl
  · rename_i n e hu
    simp only [Option.bind_eq_some_iff,Option.map_eq_some_iff] at h
    obtain ⟨n',hn,cs,hcs,rfl⟩:=h
    obtain ⟨cells',h1,h2⟩:=fill_ok ps _ _ _ _ hzr hp' hcs
    refine OkV.same hw (x:=.agg cells') ?_ ⟨cells'.toList,by simp,h2⟩
    simp only [execOp,hop]
    refine run_val ?_
    simp only [Instr.build,Sem.run_bind,run_zeroValue hz,Result.andThen_ok,run_underlying hu,run_sizeOf hn]
    rw [hparts,h1]
    rfl
  · cases h
theorem flat_rep {α:Type} (z:List α):∀ (n i:Nat),i < n * z.length→(List.replicate n z).flatten[i]? = z[i % z.length]? := by
  intro n
  induction n with
  | zero=>intro i h; omega
  | succ n ih =>
    intro i h
    simp only [List.replicate_succ,List.flatten_cons]
    by_cases e:i < z.length
    · rw [List.getElem?_append_left e,Nat.mod_eq_of_lt e]
    · have h':i - z.length < n * z.length:=by rw [Nat.add_mul] at h; omega
      rw [List.getElem?_append_right (by omega),ih _ h',Nat.mod_eq_sub_mod (a:=i) (by omega)]
theorem flat_rep_len {α:Type} (z:List α) (n:Nat):(List.replicate n z).flatten.length = n * z.length:=by simp
theorem zero_cells {z:List C} {zero:Array Value} {n len:Nat} (hz:All2 (CR G hp) z zero.toList) (hn:z.length = n) (h0:0 < n) :
    All2 (CR G hp) (List.replicate len z).flatten ((Array.range (len * n)).map (zero[· % zero.size]!)).toList:=by
  have hzs:zero.size = n:=by rw [← hn,hz.length]; simp
  refine All2.of_get (by simp [hn]) fun i c v hc hv=>?_
  have hi:=lt_of_get hc
  rw [flat_rep_len,hn] at hi
  rw [flat_rep z len i (by rw [hn]; exact hi)] at hc
  obtain ⟨v',hv',r⟩:=hz.get hc
  rw [Array.getElem?_toList] at hv hv'
  rw [Array.getElem?_map] at hv
  simp only [Option.map_eq_some_iff] at hv
  obtain ⟨j,hj,rfl⟩:=hv
  rw [Array.getElem?_range,if_pos hi] at hj
  cases hj
  rw [hn] at hv'
  have:i % n < zero.size:=by rw [hzs]; exact Nat.mod_lt _ h0
  rw [hzs,getElem!_pos zero (i % n) this]
  rw [Array.getElem?_eq_getElem this] at hv'
  cases hv'
  exact r
theorem all2_toD {cs:List C} {ds:List D} {vs:List Value} (h:cs.mapM C.toD = some ds) (r:All2 (CR G hp) cs vs):All2 (DR G.μ) ds vs:=by
  have h2:=mapM_all2 h
  clear h
  induction h2 generalizing vs with
  | nil=>cases r; exact .nil
  | cons h _ ih=>cases r with
    | cons a t=>exact .cons (toD_rel h a) (ih t)
theorem mapM_len {α β:Type} {f:α→Option β} {l:List α} {m:List β} (h:l.mapM f = some m):m.length = l.length:=(mapM_all2 h).length.symm
theorem mkNw_ok {t:Bool} {x:V1} {b o len:Nat} (r:VR G hp x (.slice (some ⟨b,o,none⟩) len len)) (hlo:G.lo≤b):VR G hp (mkNw t x) (.slice (some ⟨b,o,none⟩) len len):=by
  unfold mkNw
  split
  · rename_i es
    split
    · have hd:DR G.μ (.lst false es) (.slice (some ⟨b,o,none⟩) len len):=r
      obtain ⟨ad,cap',sz,vs,e,_⟩:=DR.inv hd
      injection e with e1 e2 e3
      subst e2
      exact ⟨hd,b,o,rfl,hlo⟩
    · exact r
  · exact r
theorem newSlice_ok {hard row:Bool} {n len:Nat} {cs:List C} {cells:Array Value} {e:TypeId} {r:V1×Heap} (hw:WR G hp w) (h0:0 < n) (hl:cs.length = len * n) (hr:All2 (CR G hp) cs cells.toList)
    (h:newSlice hp hard row n len cs = some r):∃ G',WR G' r.2 (w.alloc (.cells cells e))∧Sn G hp w G' r.2 (w.alloc (.cells cells e))∧VR G' r.2 r.1 (.slice (some ⟨w.heap.size,0,none⟩) len len):=by
  have hsize:cells.size = len * n:=by rw [← hl,hr.length]; simp
  unfold newSlice at h
  split at h
  · cases h
    obtain ⟨G',hw',sn,hi⟩:=new_cells (w':=w.alloc (.cells cells e)) (cs:=cs) (t:=e) hw rfl (fz0 _) (by rw [hr.length]; simp) (all2_get (α:=Unit) hr)
    exact ⟨G',hw',sn,w.heap.size,len,0,hi,rfl,Nat.le_refl _,fun c hc=>by cases hc; rfl,fun _=>rfl,fun h=>by cases h⟩
  · split at h
    · simp only [Option.map_eq_some_iff] at h
      obtain ⟨ds,hds,rfl⟩:=h
      have hd:=all2_toD hds hr
      have hdl:ds.length = len * n:=by rw [mapM_len hds,hl]
      have hall:=chunk_all (sz:=n) (n:=len) (l:=ds) (by omega)
      have hcl:=chunk_length n len ds
      obtain ⟨G',hw',sn,hcr⟩:=new_own (w':=w.alloc (.cells cells e)) (es:=chunk n len ds) (bd:=.none) (sz:=n) (cap:=len) hw rfl (fz0 _) h0 (by rw [hcl]; exact Nat.le_refl _) hall (by omega) (.inl ⟨rfl,hcl⟩)
        (fun i j el c he hc=>by
          have hi:=lt_of_get he
          rw [hcl] at hi
          rw [chunk_get _ _ _ _ hi] at he
          cases he
          rw [List.getElem?_take] at hc
          split at hc
          · rw [List.getElem?_drop] at hc
            obtain ⟨v,hv,r⟩:=hd.get hc
            exact ⟨v,by simpa using hv,r⟩
          · cases hc)
      rw [hcl] at hw' sn hcr
      exact ⟨G',hw',sn,hcr⟩
    · simp only [Option.map_eq_some_iff] at h
      obtain ⟨ds,hds,rfl⟩:=h
      have hd:=all2_toD hds hr
      have hdl:ds.length = len * n:=by rw [mapM_len hds,hl]
      have hall:=chunk_all (sz:=n) (n:=len) (l:=ds) (by omega)
      have hcl:=chunk_length n len ds
      obtain ⟨G',hw',sn,hcr⟩:=new_lst (w':=w.alloc (.cells cells e)) (es:=chunk n len ds) (sz:=n) (cap:=len) hw rfl (by rw [hcl]; exact Nat.le_refl _) hall (by rw [hcl]; omega)
        (fun i j el c he hc=>by
          have hi:=lt_of_get he
          rw [hcl] at hi
          rw [chunk_get _ _ _ _ hi] at he
          cases he
          rw [List.getElem?_take] at hc
          split at hc
          · rw [List.getElem?_drop] at hc
            obtain ⟨v,hv,r⟩:=hd.get hc
            exact ⟨v,by simpa using hv,r⟩
          · cases hc)
      rw [hcl] at hcr
      exact ⟨G',hw',sn,hcr⟩
theorem fillC_len {place:Nat→Option (Nat×Nat)}:∀ (ps:List (Nat×V1)) (cs cs':List C),fillC place cs ps = some cs'→cs'.length = cs.length:=by
  intro ps
  induction ps with
  | nil=>intro cs cs' h; simp only [fillC,Option.some.injEq] at h; rw [h]
  | cons p ps ih =>
    intro cs cs' h
    obtain ⟨i,x⟩:=p
    simp only [fillC] at h
    split at h
    · cases h
    · split at h
      · rw [ih _ _ h,wr_length]
      · cases h
theorem op_buildSlice (hs:SR G hp s a.tmps) (hw:WR G hp w) {t:TypeId} {len:Nat} {parts:Array (Nat×Operand)} (hop:o.op = .buildSlice t len parts) {v:AV×Heap} (h:dop E s hp o = some v) :
    OkV G hp w ((execOp a.eval o).run E.P w) v:=by
  simp only [dop,hop,Option.bind_eq_bind,Option.bind_eq_some_iff] at h
  obtain ⟨ps,hps,h⟩:=h
  have hp':=evParts_rel hs hps
  have hparts:(parts.map fun x=>(x.1,a.eval x.2)).toList = parts.toList.map fun p=>(p.1,a.eval p.2):=by simp
  split at h
  · rename_i e hu
    simp only [zeroC,Option.bind_eq_some_iff,Option.map_eq_some_iff] at h
    obtain ⟨n,hn,z,⟨zv,⟨zz,hz,hzv⟩,rfl⟩,h⟩:=h
    split at h
    · rename_i hc
      simp only [Option.bind_eq_some_iff,Option.map_eq_some_iff] at h
      obtain ⟨cs,hcs,r,hr,rfl⟩:=h
      have hzr:=(ofV_rel (G:=G) (hp:=hp) hzv).cells
      have hzero:=zero_cells (len:=len) hzr hc.1 hc.2.1
      obtain ⟨cells',h1,h2⟩:=fill_ok ps _ _ _ _ hzero hp' hcs
      have hcl:cs.length = len * n:=by rw [fillC_len _ _ _ hcs,flat_rep_len,hc.1]
      obtain ⟨G',hw',sn,hv⟩:=newSlice_ok (e:=e) hw hc.2.1 hcl h2 hr
      have hv:=mkNw_ok (t:=E.nw o.pos && isU8 E.P e) hv (by rw [sn.lo]; exact hw.lo)
      refine ⟨_,_,G',.inl ⟨?_,hv⟩,hw',sn⟩
      simp only [execOp,hop]
      refine run_val ?_
      simp only [Instr.buildSlice,Sem.run_bind,run_underlying hu,Result.andThen_ok,run_sizeOf hn]
      rw [if_neg (by omega)]
      by_cases h0:len * n = 0
      · have hfill:Instr.fill (fun i=>some (i * n,n)) ((Array.range (len * n)).map fun x=>(#[]:Array Value)[x % (#[]:Array Value).size]!) (parts.map fun x=>(x.1,a.eval x.2)).toList = some cells':=by
          have e0:∀ f:Nat→Value,(Array.range 0).map f = #[]:=fun f=>by simp
          rw [hparts,← h1,h0,e0,e0]
        rw [if_pos h0]
        simp only [pure_bind]
        rw [hfill]
        simp [newRow]
      · rw [if_neg h0]
        simp only [Sem.run_bind,run_zeroValue hz,Result.andThen_ok,Sem.run_pure]
        rw [hparts,h1]
        simp [newRow]
    · cases h
  · cases h
end
end Go.Ab
end
