/- An abstract evaluator of the loaded code, and that what it says is what the machine does. -/
import Derived.Test.YtoohbnmhjfgclaaGreatDoorEv7
import Derived.Deep.Slices
import Derived.ChangeArms
import Derived.Carry
import Derived.Lib.SplitLaws
import Derived.Lib.AtoiAll
import Derived.Lib.ItoaNum
import Derived.Lib.LaidTab
import Derived.Sort.Grow
import Derived.MakeChecks
import Derived.LaidLaws
import Derived.Stop.LaidErr
import Derived.Sort.Row
import Derived.Lib.Itoa
set_option linter.all false
section
set_option linter.unusedVariables false
set_option linter.unusedSimpArgs false
namespace Go.Ab
open Go Go.ChangeShapes Go.WideShapes
structure Blk (H:Type) where
  B:DataW H→Nat
  A:List (DataW H)→Nat
  str:∀ s,B (.lit (.string s)) = s.length + 1
  lit:∀ l,1≤B (.lit l)
  nil:B .nil = 1
  sl:∀ es sp,B (.slice es sp) = A es + A sp + 1
  ag:∀ ps,B (.agg ps) = A ps + 1
  A0:A [] = 0
  A1:∀ d r,A (d :: r) = B d + A r
def cm (w:World):Nat→Nat→Option Value:=fun b i=>w.cell? ⟨b,i,none⟩
structure Opn (P:Program) (t:TypeId) {α:Type} (e:α→List D) (sz:α→Nat) (ok:α→Prop):Prop where
  out:∀ {H:Type} {enc:TypeId×Value→H} {w:World} {base:Nat} {spare:Nat→Bool} {held:Bool} {fuel:Nat} {cs:List Value} {x:DataW H×List MemPlace},
    DataW.trod enc P w base spare held fuel t cs = some x→∃ a,All2 (DR (cm w)) (e a) cs∧ok a∧∀ K:Blk H,sz a≤K.B x.1
theorem Opn.map {P:Program} {t:TypeId} {α β:Type} {e:α→List D} {sz:α→Nat} {ok:α→Prop} (O:Opn P t e sz ok) (g:α→β) {e':β→List D} {sz':β→Nat} {ok':β→Prop}
    (he:∀ a,e' (g a) = e a) (hs:∀ a,sz' (g a)≤sz a) (hk:∀ a,ok a→ok' (g a)):Opn P t e' sz' ok':=⟨by
  intro H enc w base spare held fuel cs x h
  obtain ⟨a,h1,h2,h3⟩:=O.out h
  exact ⟨g a,by rw [he]; exact h1,hk a h2,fun K=>Nat.le_trans (hs a) (h3 K)⟩⟩
theorem opn_str {P:Program} {t:TypeId} (ht:P.underlying t = some .string):Opn P t (fun s:Bs=>[.sc (.string (S s))]) (fun s=>s.length + 1) (fun _=>True):=⟨by
  intro H enc w base spare held fuel cs x h
  obtain ⟨s,rfl,rfl,h1⟩:=DataW.trod_string ht h
  exact ⟨s.data.toList,.cons (.sc (.string s) rfl) .nil,trivial,fun K=>by rw [K.str]; exact Nat.le_refl _⟩⟩
theorem opn_u8 {P:Program} {t:TypeId} (ht:P.underlying t = some (.int .u8)):Opn P t (fun c:UInt8=>[.sc (.int .u8 (c.toNat:Int))]) (fun _=>1) (fun _=>True):=⟨by
  intro H enc w base spare held fuel cs x h
  obtain ⟨n,rfl,rfl,h1⟩:=DataW.trod_int ht h
  have h2:(decide (IntKind.min .u8≤n) && decide (n≤IntKind.max .u8)) = true:=h1
  rw [Bool.and_eq_true] at h2
  have h3:0≤n:=of_decide_eq_true h2.1
  have h4:n≤255:=of_decide_eq_true h2.2
  refine ⟨UInt8.ofNat n.toNat,?_,trivial,fun K=>K.lit _⟩
  have e:((UInt8.ofNat n.toNat).toNat:Int) = n:=by
    rw [UInt8.toNat_ofNat']
    omega
  show All2 (DR (cm w)) [D.sc (.int .u8 ((UInt8.ofNat n.toNat).toNat:Int))] _
  rw [e]
  exact .cons (.sc (.int .u8 n) rfl) .nil⟩
theorem sum_A {H:Type} (K:Blk H) {α:Type} (sz:α→Nat) (D:Nat→DataW H):∀ (l:List α) (o:Nat),(∀ i (h:i < l.length),sz l[i]≤K.B (D (o + i)))→(l.map sz).sum≤K.A ((List.range' o l.length).map D):=by
  intro l
  induction l with
  | nil=>intro o _; exact Nat.zero_le _
  | cons a l ih =>
    intro o h
    rw [List.length_cons,List.range'_succ,List.map_cons,List.map_cons,List.sum_cons,K.A1]
    have h0:=h 0 (by simp)
    have:=ih (o + 1) fun i hi=>by
      have:=h (i + 1) (by simpa using hi)
      rwa [show o + (i + 1) = o + 1 + i by omega] at this
    simp only [List.getElem_cons_zero,Nat.add_zero] at h0
    omega
theorem opn_slice {P:Program} {t e:TypeId} {α:Type} {f:α→List D} {sz:α→Nat} {ok:α→Prop} {k:Nat} (ht:P.underlying t = some (.slice e)) (hk:P.cellsOf e = k) (O:Opn P e f sz ok) (hf:∀ a,(f a).length = k) (hk0:0 < k) :
    Opn P t (fun x:Bool×List α=>[.lst x.1 (enL f x.2)]) (fun x=>(x.2.map sz).sum + 1) (fun x=>(x.1 = true→x.2 = [])∧x.2.length≤maxLen∧∀ a ∈ x.2,ok a):=⟨by
  intro H enc w base spare held fuel cs x h
  rcases Go.Deep.open_slice ht h with ⟨rfl,rfl⟩ | ⟨ad,len,cap,m,n,Dt,Pl,rfl,hb,hl,hcap,hm,rfl,hx⟩
  · exact ⟨(true,[]),.cons .nil .nil,⟨fun _=>rfl,Nat.zero_le _,by simp⟩,fun K=>by rw [K.nil]; simp⟩
  · have hlm:len≤m:=by rw [hm]; split <;> omega
    have each:∀ i,i < len→∃ q:α×List Value,w.cells? base (ad.add (i * k)) k = some q.2∧All2 (DR (cm w)) (f q.1) q.2∧ok q.1∧∀ K:Blk H,sz q.1≤K.B (Dt i):=by
      intro i hi
      obtain ⟨cs',h1,h2⟩:=hx i (by omega)
      rw [hk] at h1
      obtain ⟨a,r1,r2,r3⟩:=O.out h2
      exact ⟨(a,cs'),h1,r1,r2,r3⟩
    by_cases h0:len = 0
    · subst h0
      refine ⟨(false,[]),.cons ?_ .nil,⟨nofun,Nat.zero_le _,by simp⟩,fun K=>by rw [K.sl]; simp⟩
      exact .lst false [] (some ad) cap k (fun _ _=>default) (Nat.zero_le _) rfl nofun (fun h=>absurd rfl h) (by simp) (fun i j e c h=>by simp at h) (fun i j e c h=>by simp at h)
    · obtain ⟨q0,_⟩:=each 0 (by omega)
      have:Inhabited α:=⟨q0.1⟩
      obtain ⟨q,hq⟩:∃ q:Nat→α×List Value,∀ i,i < len→w.cells? base (ad.add (i * k)) k = some (q i).2∧All2 (DR (cm w)) (f (q i).1) (q i).2∧ok (q i).1∧∀ K:Blk H,sz (q i).1≤K.B (Dt i) :=
        Go.Deep.choose_lt each
      let l:=(List.range len).map fun i=>(q i).1
      have hll:l.length = len:=by simp [l]
      have hlg:∀ i (h:i < l.length),l[i] = (q i).1:=fun i h=>by simp [l]
      refine ⟨(false,l),.cons ?_ .nil,⟨nofun,by rw [hll]; omega,fun a ha=>?_⟩,fun K=>?_⟩
      · have hd:DR (cm w) (.lst false (enL f l)) (.slice (some ad) (enL f l).length cap):=by
          have hcell:∀ i j,i < len→j < k→∃ v,(q i).2[j]? = some v∧w.cell? ((ad.add (i * k)).add j) = some v:=by
            intro i j hi hj
            obtain ⟨_,hlen,hcl⟩:=World.cells?_some (hq i hi).1
            have:=hcl j (by omega)
            exact ⟨(q i).2[j]'(by omega),List.getElem?_eq_getElem _,by rw [this,List.getElem?_eq_getElem]⟩
          have hsp:0 < k→ad.spot = none:=by
            intro hk0
            obtain ⟨v,_,h2⟩:=hcell 0 0 (by omega) hk0
            rw [show (ad.add (0 * k)).add 0 = ad by simp [Addr.add]] at h2
            unfold World.cell? at h2
            split at h2
            · split at h2
              · cases h2
              · rename_i hs
                cases hsp:ad.spot with
                | none=>rfl
                | some s=>rw [hsp] at hs; exact absurd rfl hs
            · cases h2
          have hs:=hsp hk0
          obtain ⟨b,o,sp⟩:=ad
          simp only at hs
          subst hs
          refine .lst false (enL f l) (some ⟨b,o,none⟩) cap k (fun i j=>((q i).2[j]?).getD default) (by rw [enL_length,hll]; omega) rfl nofun (fun _ a ha=>by cases ha; rfl) ?_ ?_ ?_
          · intro e he
            simp only [enL,List.mem_map] at he
            obtain ⟨a,_,rfl⟩:=he
            exact hf a
          · intro i j e c he hc
            simp only [enL,List.getElem?_map,Option.map_eq_some_iff] at he
            obtain ⟨a,ha,rfl⟩:=he
            obtain ⟨hi,rfl⟩:=List.getElem?_eq_some_iff.1 ha
            rw [hlg] at hc
            obtain ⟨v,hv,hr⟩:=(hq i (by omega)).2.1.get hc
            rw [hv]
            exact hr
          · intro i j e c he hc
            simp only [enL,List.getElem?_map,Option.map_eq_some_iff] at he
            obtain ⟨a,ha,rfl⟩:=he
            obtain ⟨hi,rfl⟩:=List.getElem?_eq_some_iff.1 ha
            rw [hlg] at hc
            have hj:j < k:=by
              rw [← hf (q i).1]
              exact (List.getElem?_eq_some_iff.1 hc).1
            obtain ⟨v,hv,hw⟩:=hcell i j (by omega) hj
            refine ⟨b,o,rfl,?_⟩
            rw [hv]
            have ea:((⟨b,o,none⟩:Addr).add (i * k)).add j = ⟨b,o + i * k + j,none⟩:=by simp [addr_add]
            rw [ea] at hw
            exact hw
        rw [enL_length,hll] at hd
        exact hd
      · simp only [l,List.mem_map,List.mem_range] at ha
        obtain ⟨i,hi,rfl⟩:=ha
        exact (hq i hi).2.2.1
      · rw [K.sl]
        have:=sum_A K sz Dt l 0 (fun i hi=>by
          rw [hlg,Nat.zero_add]
          exact (hq i (by omega)).2.2.2 K)
        rw [hll,← List.range_eq_range'] at this
        show (l.map sz).sum + 1≤_
        omega
⟩
structure FOpn (P:Program) (fs:List Field) (off tot:Nat) {α:Type} (e:α→List D) (sz:α→Nat) (ok:α→Prop):Prop where
  out:∀ {H:Type} {enc:TypeId×Value→H} {w:World} {base:Nat} {spare:Nat→Bool} {held:Bool} {n:Nat} {cs:List Value} {xs:List (DataW H×List MemPlace)},
    cs.length = tot→xs.length = fs.length→(∀ (i:Nat) (f:Field),fs[i]? = some f→DataW.trod enc P w base spare held n f.type ((cs.drop f.offset).take (P.cellsOf f.type)) = xs[i]?) →
    ∃ a,All2 (DR (cm w)) (e a) (cs.drop off)∧ok a∧∀ K:Blk H,sz a≤K.A (xs.map (·.1))
theorem arg_cell {P:Program} {t:TypeId} {u:TypeDesc} {α:Type} {f:α→D} {sz:α→Nat} {ok:α→Prop} (O:Opn P t (fun a=>[f a]) sz ok) (hu:P.underlying t = some u) (hn:(match u with | .bool=>true | .string=>true | .int _=>true | .slice _=>true | _=>false) = true)
    {H:Type} {enc:TypeId×Value→H} {W:World} {r:Reach} {b0 base:Nat} {sp:Nat→Bool} {held:Bool} {v:Value} {d:DataW H} {ps:List MemPlace} (hval:Value.okWide P W r b0 t v) (h:DataW.Trod enc P W base sp held t v d ps) :
    ∃ a,VR (G0 W) [] (.c (.d (f a))) v∧ok a∧∀ K:Blk H,sz a≤K.B d:=by
  obtain ⟨fuel,h⟩:=h
  obtain ⟨a,h1,h2,h3⟩:=O.out h
  refine ⟨a,?_,h2,h3⟩
  have hc:v.cells = #[v]:=by
    unfold Value.okWide at hval
    cases v with
    | agg cs =>
      exfalso
      cases u <;> simp only [Bool.false_eq_true] at hn <;> simp [hu,Cell.okWide,Cell.ok] at hval
    | _=>rfl
  rw [hc] at h1
  cases h1 with
  | cons h t=>exact h
open Go.RowKit in
theorem below_trodAll {H:Type} {enc:TypeId×Value→H} {P:Program} (hl:laidOutB P = true) {W W':World} (hb:Below W.heap.size W W'):∀ {ts:List TypeId} {vs:List Value} {ds:List (DataW H)} {ps:List MemPlace},
    (∀ t ∈ ts,P.readableRec t = true∧t < P.types.size)→(∀ x ∈ ps,x.block < W.heap.size)→DataW.TrodAll enc P W 0 (fun _=>true) true ts vs ds ps →
    DataW.TrodAll enc P W' 0 (fun b=>decide (b < W.heap.size)) true ts vs ds ps:=by
  intro ts
  induction ts with
  | nil=>intro vs ds ps _ _ h; obtain ⟨rfl,rfl,rfl⟩:=trodAll_nil h; exact trodAll_mk0
  | cons t ts ih =>
    intro vs ds ps ht hlt h
    obtain ⟨v,vs',d,ds',p,q,rfl,rfl,rfl,h1,h2⟩:=trodAll_cons h
    have h0:=ht t (List.mem_cons_self ..)
    exact trodAll_cons_mk (Below.trod hl h0.1 h0.2 h1 hb (fun x hx=>hlt x (List.mem_append_left _ hx))) (ih (fun t h=>ht t (List.mem_cons_of_mem _ h)) (fun x hx=>hlt x (List.mem_append_right _ hx)) h2)
end Go.Ab
end
section
set_option linter.unusedVariables false
set_option linter.unusedSimpArgs false
namespace Go.Ab
open Go
section
variable {α:Type} (f:α→List D)
variable {f} {n:Nat} (hf:∀ x,(f x).length = n)
include hf
omit hf in
omit hf in
omit hf in
omit hf in
omit hf in
omit hf in
end
theorem ev_nile {P:Program} {t e:TypeId} (hu:P.underlying t = some (.slice e)) (x:Operand):evalS P (do eqGuard .eql t x (.const (.slice none 0 0)) (.slice none 0 0) (.slice none 0 0); binOp .eql t (.slice none 0 0) (.slice none 0 0)) = some (.bool true):=by
  simp only [eqGuard,binOp,Op.equal]
  rw [show Op.maxDepth = 9999 + 1 from rfl]
  unfold Op.equalIn
  simp [evalS_bind,underlying,ev_program,hu,evalS_pure]
theorem nilq_e {P:Program} {t e:TypeId} (hu:P.underlying t = some (.slice e)) {α:Type} (x:Operand) (nl:Bool) (f:α→List D) (l:List α) (hp:Heap) :
    both (toV (.c (.d (.lst nl (enL f l))))) (toV (.c (.d (.lst true []))))
      (fun v w=>(evalS P (do eqGuard .eql t x (.const (.slice none 0 0)) v w; binOp .eql t v w)).bind fun r=>(ofV r).map fun z=>(AV.v z,hp))
      (some (AV.bool nl,hp)) = some (AV.bool nl,hp):=by
  cases nl with
  | false=>rfl
  | true =>
    cases l with
    | cons a l=>rfl
    | nil =>
      show (evalS P (do eqGuard .eql t x (.const (.slice none 0 0)) (.slice none 0 0) (.slice none 0 0); binOp .eql t (.slice none 0 0) (.slice none 0 0))).bind (fun r=>(ofV r).map fun z=>(AV.v z,hp)) = _
      rw [ev_nile hu]; rfl
end Go.Ab
end
section
set_option linter.all false
set_option linter.unusedVariables false
set_option linter.unusedSimpArgs false
namespace Go.Ab
open Go
structure W (T:Prop):Type where
  o:T
theorem Q {a b:Prop} (x:a) (y:b):a∧b:=⟨x,y⟩
theorem lf {α:Type} {a b c:α} (h:b = c) (e:a = b):a = c:=e.trans h
theorem tnlt {i:Int} {n:Nat} (h:0≤i∧i < (n:Int)):i.toNat < n:=by omega
theorem tnl0 {n:Nat} (h:(0:Int) < (n:Int)):0 < n:=by omega
theorem tnl1 {n:Nat} (h:(1:Int) < (n:Int)):1 < n:=by omega
theorem tnl2 {n:Nat} (h:(2:Int) < (n:Int)):2 < n:=by omega
theorem tnl3 {n:Nat} (h:(3:Int) < (n:Int)):3 < n:=by omega
def setC:=Q @List.length_nil.{0} (Q @Option.map_none.{0,0} (Q @List.take_nil.{0} (Q @List.drop_nil.{0} (Q @Option.isNone_some.{0} (Q @Bool.false_and (Q @Bool.false_eq_true (Q @List.all_nil.{0} (Q @List.getD_cons_zero.{0} (Q @List.getD_cons_succ.{0} (Q @List.map_cons.{0,0} (Q @List.map_nil.{0,0} (Q @List.take_length.{0} (Q @decide_true (Q @Bool.and_self (Q @Nat.zero_add (Q @Nat.sub_zero (Q @Nat.zero_mul (Q @Nat.sub_self (Q @not_false_eq_true (Q @Option.getD_some.{0} (Q @Option.getD_none.{0} (Q @if_false.{1} (Q @regD_none (Q @seqD_none (Q @blockD_none (Q @stepE_none (Q @loopK_none (@bodyD_none))))))))))))))))))))))))))))
theorem rx (c:Code) {o:Oper} {l:List Oper} (h:isRg c = true:=by rfl) (ho:opsOf c = o :: l:=by rfl) (E:Env) (f m:Nat) (st:St) :
    den E f m (callW E) itW c none st = regD (runOps E (callW E) (o :: l) (o :: l) st):=by rw [← ho]; exact rgN h m st
abbrev Sl:=Nat→AV
noncomputable abbrev dn (E:Env) (f m:Nat) (c:Code) (sl:Sl) (h:Heap):=den E f m (callW E) itW c none ⟨sl,h⟩
noncomputable abbrev sq (E:Env) (f m:Nat) (c:Code):=seqD E f m (callW E) itW c
noncomputable abbrev lp (E:Env) (f m:Nat) (c:Code) (L:List (Nat×Co)):=loopF E f m (callW E) itW c L
abbrev dS (x:Bs):D:=.sc (.string (S x))
abbrev dB (x:Bool):D:=.sc (.bool x)
abbrev dI (x:Int):D:=.sc (.int .i64 x)
abbrev dU (x:Int):D:=.sc (.int .u64 x)
abbrev vd (x:D):AV:=.v (.c (.d x))
abbrev cd (x:D):V1:=.c (.d x)
theorem go {p C T:Prop} (c:C) (t:T) (h:W C→W T→p:=by
    intro yc yk
    try simp -implicitDefEqProofs only [yc.o, *,dn,sq,lp,dS,dB,dI,dU,vd,cd,setA,setB,setC,Nat.reduceEqDiff,Nat.reduceAdd,Nat.reduceLeDiff,Nat.reduceLT,Nat.reduceMul,Nat.reduceBEq,Nat.reduceSub,Nat.reducePow,Int.reduceEq,Int.reduceLE,Int.reduceLT,Int.reduceToNat,Int.reduceNegSucc,Int.reduceAdd,Int.reduceBEq,String.reduceBEq,reduceCtorEq,zE,↓reduceIte]
    repeat' first
      | ((with_reducible refine brB (fun ya=>?_) (fun ya=>?_))
         all_goals try first | have yb:(_:Nat) < _:=of_decide_eq_true ya | have yb:¬ ((_:Nat) < _):=of_decide_eq_false ya
         all_goals try simp -implicitDefEqProofs only [yc.o, *,dn,sq,lp,dS,dB,dI,dU,vd,cd,setA,setB,setC,Nat.reduceEqDiff,Nat.reduceAdd,Nat.reduceLeDiff,Nat.reduceLT,Nat.reduceMul,Nat.reduceBEq,Nat.reduceSub,Nat.reducePow,Int.reduceEq,Int.reduceLE,Int.reduceLT,Int.reduceToNat,Int.reduceNegSucc,Int.reduceAdd,Int.reduceBEq,String.reduceBEq,reduceCtorEq,zE,↓reduceIte])
      | ((with_reducible refine brP (fun ya=>?_) (fun ya=>?_))
         rotate_left
         · rw [if_neg ya]; rfl
         try first | have yb:=tnlt ya | have yb:=tnl0 ya | have yb:=tnl1 ya | have yb:=tnl2 ya | have yb:=tnl3 ya | have yb:=tnlt (And.intro (by omega) ya) | have yb:=of_decide_eq_true ya
         try simp -implicitDefEqProofs only [yc.o, *,dn,sq,lp,dS,dB,dI,dU,vd,cd,setA,setB,setC,Nat.reduceEqDiff,Nat.reduceAdd,Nat.reduceLeDiff,Nat.reduceLT,Nat.reduceMul,Nat.reduceBEq,Nat.reduceSub,Nat.reducePow,Int.reduceEq,Int.reduceLE,Int.reduceLT,Int.reduceToNat,Int.reduceNegSucc,Int.reduceAdd,Int.reduceBEq,String.reduceBEq,reduceCtorEq,zE,↓reduceIte])
      | ((with_reducible refine brM (fun ya=>?_) (fun yr ya=>?_))
         · rw [ya]; rfl
         try simp -implicitDefEqProofs only [yc.o, *,dn,sq,lp,dS,dB,dI,dU,vd,cd,setA,setB,setC,Nat.reduceEqDiff,Nat.reduceAdd,Nat.reduceLeDiff,Nat.reduceLT,Nat.reduceMul,Nat.reduceBEq,Nat.reduceSub,Nat.reducePow,Int.reduceEq,Int.reduceLE,Int.reduceLT,Int.reduceToNat,Int.reduceNegSucc,Int.reduceAdd,Int.reduceBEq,String.reduceBEq,reduceCtorEq,zE,↓reduceIte])
      | (apply lf
         (with_reducible first | apply yk.o | apply yk.o.1 | apply yk.o.2 | apply yk.o.2.1 | apply yk.o.2.2 | apply yk.o.2.2.1 | apply yk.o.2.2.2 | apply yk.o.2.2.2.1 | apply yk.o.2.2.2.2 | apply yk.o.2.2.2.2.1 | apply yk.o.2.2.2.2.2 | apply yk.o.2.2.2.2.2.1 | apply yk.o.2.2.2.2.2.2 | apply yk.o.2.2.2.2.2.2.1 | apply yk.o.2.2.2.2.2.2.2 | apply yk.o.2.2.2.2.2.2.2.1 | apply yk.o.2.2.2.2.2.2.2.2)
         all_goals try exact rfl
         all_goals first | exact rfl | assumption)
      | (with_reducible refine mi ?_)
      | ((cases yr with | inl yr=>?_ | inr yr=>?_)
         all_goals try simp -implicitDefEqProofs only [yc.o, *,dn,sq,lp,dS,dB,dI,dU,vd,cd,setA,setB,setC,Nat.reduceEqDiff,Nat.reduceAdd,Nat.reduceLeDiff,Nat.reduceLT,Nat.reduceMul,Nat.reduceBEq,Nat.reduceSub,Nat.reducePow,Int.reduceEq,Int.reduceLE,Int.reduceLT,Int.reduceToNat,Int.reduceNegSucc,Int.reduceAdd,Int.reduceBEq,String.reduceBEq,reduceCtorEq,zE,↓reduceIte])
      | rfl
      | (rw [if_neg (by omega)]; rfl)):p:=h ⟨c⟩ ⟨t⟩
end Go.Ab
end
section
set_option linter.unusedVariables false
set_option linter.unusedSimpArgs false
namespace Go.Ab
open Go
end Go.Ab
end
section
set_option linter.unusedVariables false
set_option linter.unusedSimpArgs false
namespace Go.Ab
open Go
theorem enC_rep (n:Nat):(List.replicate n [C.d (D.sc (Value.int .u8 ((0:UInt8).toNat:Int)))]).flatten = enC (List.replicate n 0):=by
  induction n with
  | zero=>rfl
  | succ n ih=>rw [List.replicate_succ,List.flatten_cons,ih,List.replicate_succ]; rfl
def cpy (l:Bs) (off len:Nat) (src:Bs):Bs:=l.take off ++ (src.take len ++ l.drop (off + min src.length len))
theorem wr_enC:∀ (l src:Bs) (off:Nat),off + src.length≤l.length→wr (enC l) off (enC src) = enC (l.take off ++ (src ++ l.drop (off + src.length)))
  | l,[],0,_=>by cases l <;> simp [wr,enC]
  | l,[],off + 1,h=>by
    cases l with
    | nil=>simp at h
    | cons a l =>
      have ih:=wr_enC l [] off (by simpa using h)
      simp only [enC,List.map_cons,List.map_nil,wr] at ih ⊢
      simp only [List.take_succ_cons,List.cons_append,List.map_cons,List.length_nil,Nat.add_zero,List.drop_succ_cons] at ih ⊢
      rw [ih]
  | [],c :: src,off,h=>by simp at h
  | a :: l,c :: src,0,h=>by
    have ih:=wr_enC l src 0 (by simpa using h)
    simp only [enC,List.map_cons,wr] at ih ⊢
    rw [ih]
    simp [Nat.add_comm]
  | a :: l,c :: src,off + 1,h=>by
    have ih:=wr_enC l (c :: src) off (by simp only [List.length_cons] at h ⊢; omega)
    simp only [enC,List.map_cons,wr] at ih ⊢
    rw [ih]
    simp only [List.take_succ_cons,List.cons_append,List.map_cons,List.map_append,List.length_cons]
    rw [show off + 1 + (src.length + 1) = off + (src.length + 1) + 1 by omega,List.drop_succ_cons]
theorem enB_flat (l:Bs):((enL enB l).flatten.map C.d) = enC l:=by
  induction l with
  | nil=>rfl
  | cons c l ih =>
    have e:enL enB (c :: l) = enB c :: enL enB l:=rfl
    rw [e,List.flatten_cons,List.map_append,ih]; rfl
theorem u8L_en (l:Bs):u8L (enL enB l) = some (l.map fun c=>(c.toNat:Int)):=by
  induction l with
  | nil=>rfl
  | cons c l ih =>
    have e:enL enB (c :: l) = [.sc (.int .u8 (c.toNat:Int))] :: enL enB l:=rfl
    rw [e]; unfold u8L; rw [ih]; rfl
theorem bytesOf_nat (l:Bs):Lib.bytesOf (l.map fun c=>(c.toNat:Int)) = l:=by
  unfold Lib.bytesOf
  rw [List.map_map]
  exact (List.map_congr_left fun c _=>by simp).trans (List.map_id l)
theorem pIndexB_lst (nl:Bool) (l:Bs) (c:UInt8) (hp:Heap):pIndexB [.c (.d (.lst nl (enL enB l))),.c (.d (.sc (.int .u8 (c.toNat:Int))))] hp = some (.int .i64 (Lib.indexByte l c),hp):=by
  have h:bytesC hp (.d (.lst nl (enL enB l))) = some (l.map fun c=>(c.toNat:Int)):=u8L_en l
  show Option.map (fun xs=>(AV.int .i64 (Lib.indexByte (Lib.bytesOf xs) (c.toNat:Int).toNat.toUInt8),hp)) (bytesC hp _) = _
  rw [h,Option.map_some,bytesOf_nat]
  simp
def cpO (hp:Heap) (k off len:Nat) (src:Bs):Option Ob→Option (V1×Heap)
  | some (.cells cs)=>if off + len≤cs.length then some (.c (.d (.sc (.int .i64 ((min src.length len:Nat):Int)))),hp.set k (.cells (wr cs off (enC (src.take len))))) else none
  | _=>none
theorem copyA_b {P:Program} {t e:TypeId} (hu:P.underlying t = some (.slice e)) (hz:szP P e = some 1) (hp:Heap) (k off len:Nat) (cap:Option Nat) (src:Bs) :
    copyA P hp t (.slc k off 1 len cap) (enL enB src) = cpO hp k off len src hp[k]? := by
  unfold copyA cpO
  have ha:(enL enB src).all (fun x=>x.length == 1) = true:=enB_a src
  simp only [hu,hz,ha,Nat.lt_one_iff,Nat.zero_lt_one,true_and,and_self,if_true,Nat.mul_one,enL_length,enL_take,enB_flat]
  split <;> simp_all
theorem cpO_en (hp:Heap) (k off len:Nat) (src l:Bs):cpO hp k off len src (some (.cells (enC l))) = if off + len≤l.length then some (.c (.d (.sc (.int .i64 ((min src.length len:Nat):Int)))),hp.set k (.cells (enC (cpy l off len src)))) else none:=by
  unfold cpO
  simp only [enC_length]
  by_cases h:off + len≤l.length
  · rw [if_pos h,if_pos h,wr_enC _ _ _ (by rw [List.length_take]; omega)]
    unfold cpy
    rw [List.length_take,Nat.min_comm]
  · rw [if_neg h,if_neg h]
theorem den_label_n {E:Env} {fn m:Nat} {call:Caller} {it} (l:Nat) (st:St):den E fn m call it (.label l) none st = some (.normal,st):=rfl
theorem enC_drop (l:Bs) (n:Nat):(enC l).drop n = enC (l.drop n):=by unfold enC; rw [List.map_drop]
end Go.Ab
end
section
set_option linter.unusedVariables false
set_option linter.unusedSimpArgs false
namespace Go.Ab
open Go Go.ChangeShapes Go.WideShapes
end Go.Ab
end
section
set_option linter.unusedVariables false
set_option linter.unusedSimpArgs false
namespace Go.Ab
open Go
end Go.Ab
end
section
set_option linter.unusedVariables false
set_option linter.unusedSimpArgs false
namespace Go.Ab
open Go Go.RowKit
def BaseW (E:Env) (w:World):Prop:=(∀ b i y,E.base b i = some y→w.cell? ⟨b,i,none⟩ = some y)∧∀ b φ,E.blk b = some φ→∃ vs t fz,w.heap[b]? = some (.cells vs t fz)∧φ vs
theorem BaseOk.w {E:Env} {G:Gh} {hp:Heap} {w:World} (hb:BaseOk E G hp w) (hw:WR G hp w):BaseW E w :=
  ⟨fun b i y hy=>hw.mu b i y (hb.1 b i y hy),fun b φ h=>(hb.2 b φ h).2.1⟩
def pItoa:List V1→Heap→Option (AV×Heap):=fun args hp=>match args with
  | [.c (.d (.sc (.int .i64 n)))]=>if -9223372036854775808≤n∧n≤9223372036854775807 then some (.str ⟨(Lib.itoa n).toArray⟩,hp) else none
  | _=>none
theorem pItoa_ok {E : Env} {f : FuncId} (hc : ∀ (n : Int) (w : World), BaseW E w → -9223372036854775808 ≤ n → n ≤ 9223372036854775807 →
      Calls E.P f #[.int .i64 n] w fun e w'=>e = .returned (.string ⟨(Lib.itoa n).toArray⟩)∧Below w.heap.size w w'):CallP E f pItoa:=by
  intro args hp v h' hh G w vs hb hw ha
  unfold pItoa at hh
  split at hh
  · rename_i n
    split at hh
    · rename_i hn
      simp only [Option.some.injEq,Prod.mk.injEq] at hh
      obtain ⟨rfl,rfl⟩:=hh
      rw [scs_rel (us:=[.int .i64 n]) rfl ha]
      refine (hc n w (hb.w hw) hn.1 hn.2).mono ?_
      rintro e w' ⟨rfl,hbl⟩
      exact ⟨_,G,rfl,.sc _ rfl,below_WR hbl hw,below_Sn hbl⟩
    · cases hh
  · cases hh
def mItoa (n:Int):Option Bs:=if -9223372036854775808≤n∧n≤9223372036854775807 then some (Lib.itoa n) else none
theorem pItoa_t (n:Int) (hp:Heap):pItoa [.c (.d (.sc (.int .i64 n)))] hp = (mItoa n).map fun x=>(.v (.c (.d (.sc (.string (S x))))),hp):=by
  unfold pItoa mItoa
  dsimp only
  split <;> rfl
theorem below_grow (w:World) (k:Nat) (os:Array Obj):Below w.heap.size w (Go.Sort.grow (w.drewN k) os) :=
  ⟨rfl,rfl,rfl,by show w.heap.size≤(w.heap ++ os).size; rw [Array.size_append]; omega,fun i hi=>by show (w.heap ++ os)[i]? = w.heap[i]?; rw [Array.getElem?_append_left hi]⟩
theorem var_blk {P:Program} {W:World} {n:String} {cs:Array Value} {g:Nat} (hv:W.var? P n = some cs) (hg:P.globalNamed n = some g) {φ:Array Value→Prop} (h:φ cs):∃ vs t fz,W.heap[g]? = some (.cells vs t fz)∧φ vs:=by
  unfold World.var? at hv
  rw [hg] at hv
  simp only [Option.bind_some] at hv
  split at hv
  · rename_i a b c e
    cases hv
    exact ⟨_,_,_,e,h⟩
  · cases hv
theorem blk_tab {E:Env} {w:World} (hw:BaseW E w) {n:String} {g:Nat} {k:IntKind} {zs:List Int} (hg:E.P.globalNamed n = some g) (hb:E.blk g = some (fun vs=>vs = (zs.map fun z=>Value.int k z).toArray)):Lib.TabIs E.P w n k zs:=by
  obtain ⟨vs,t,fz,h1,rfl⟩:=hw.2 g _ hb
  unfold Lib.TabIs World.var?
  rw [hg]
  simp only [Option.bind_some,h1]
theorem blk_err {E:Env} {w:World} (hw:BaseW E w) {g:Nat} (hb:E.blk g = some (fun vs=>∃ tp p,vs = #[.iface tp p])):∃ tp p,w.cell? ⟨g,0,none⟩ = some (.iface tp p):=by
  obtain ⟨vs,t,fz,h1,tp,p,rfl⟩:=hw.2 g _ hb
  exact ⟨tp,p,by rw [cell_at h1]; rfl⟩
def strs (l:List ByteArray):List (List D):=l.map fun x=>[.sc (.string x)]
def pSplit:List V1→Heap→Option (AV×Heap):=fun args hp=>match args with
  | [.c (.d (.sc (.string s))),.c (.d (.sc (.string t)))] =>
    if s.size < 4294967281∧1≤t.size then some (.lst false (strs (Lib.splitB t 0 (Lib.countB s t) s)),hp) else none
  | _=>none
def pSplitN:List V1→Heap→Option (AV×Heap):=fun args hp=>match args with
  | [.c (.d (.sc (.string s))),.c (.d (.sc (.string t))),.c (.d (.sc (.int .i64 n)))] =>
    if s.size < 4294967281∧1≤t.size∧1≤n∧n≤9223372036854775807 then some (.lst false (strs (Lib.splitB t 0 (min n.toNat (s.size + 1) - 1) s)),hp) else none
  | _=>none
def pAtoi:List V1→Heap→Option (AV×Heap):=fun args hp=>match args with
  | [.c (.d (.sc (.string s)))] =>
    if s.size≤281474976710656 then
      match Lib.atoiAll s.data.toList with
      | .ok v=>some (.tup [.c (.d (.sc (.int .i64 v))),.c (.d (.sc .nilIface))],hp)
      | .syntax=>some (.tup [.c (.d (.sc (.int .i64 0))),.c .nn],hp)
      | .range=>some (.tup [.c (.d (.sc (.int .i64 (Lib.atoiSat s.data.toList)))),.c .nn],hp)
    else none
  | _=>none
theorem alloc_strs {G:Gh} {hp:Heap} {w:World} (hw:WR G hp w) (l:List ByteArray) (N:Nat) (t:TypeId) (hN:l.length≤N) :
    ∃ G',AR G' hp (.lst false (strs l)) (.slice (some ⟨w.heap.size,0,none⟩) l.length N)∧WR G' hp (w.alloc (.cells (Lib.cellsOf l N) t))∧Sn G hp w G' hp (w.alloc (.cells (Lib.cellsOf l N) t)):=by
  let μ':Nat→Nat→Option Value:=fun b i=>if b = w.heap.size then (l[i]?).map .string else G.μ b i
  have h0:∀ b i v,G.μ b i = some v→μ' b i = some v:=fun b i v h=>by
    have:=hw.mu_lt h
    show (if b = w.heap.size then _ else _) = _
    rw [if_neg (by omega)]; exact h
  have hs:=push_mu (w':=w.alloc (.cells (Lib.cellsOf l N) t)) (ob:=.cells (Lib.cellsOf l N) t) (μ':=μ') hw rfl h0
    (fun b i h=>by
      by_cases e:b = w.heap.size
      · exact .inr e
      · refine .inl ?_
        have:μ' b i = G.μ b i:=if_neg e
        rwa [this] at h)
    (fun i v h=>by
      have h:(if w.heap.size = w.heap.size then (l[i]?).map Value.string else G.μ w.heap.size i) = some v:=h
      rw [if_pos rfl] at h
      rw [cell_at (vs:=Lib.cellsOf l N) (t:=t) (fz:=(0,0)) (show (w.heap.push (.cells (Lib.cellsOf l N) t))[w.heap.size]? = _ from by simp)]
      have hi:i < l.length:=by
        rcases Nat.lt_or_ge i l.length with q | q
        · exact q
        · rw [List.getElem?_eq_none q] at h; cases h
      unfold Lib.cellsOf
      rw [List.getElem?_toArray,List.getElem?_append_left (by simpa using hi),List.getElem?_map]
      exact h)
  refine ⟨⟨G.β,μ',G.lo⟩,?_,hs.2,hs.1⟩
  have hl:(strs l).length = l.length:=List.length_map _
  rw [← hl]
  refine DR.lst false (strs l) (some ⟨w.heap.size,0,none⟩) N 1 (fun i _=>.string (l.getD i .empty)) (by rw [hl]; exact hN) rfl (by nofun) (fun _ ad h=>by cases h; rfl) ?_ ?_ ?_
  · intro e he
    obtain ⟨x,_,rfl⟩:=List.mem_map.1 he
    rfl
  · intro i j e c he hc
    simp only [strs,List.getElem?_map,Option.map_eq_some_iff] at he
    obtain ⟨x,hx,rfl⟩:=he
    match j,hc with
    | 0,hc =>
      simp only [List.getElem?_cons_zero,Option.some.injEq] at hc
      subst hc
      rw [List.getD_eq_getElem?_getD,hx]
      exact .sc _ rfl
    | j + 1,hc=>simp at hc
  · intro i j e c he hc
    simp only [strs,List.getElem?_map,Option.map_eq_some_iff] at he
    obtain ⟨x,hx,rfl⟩:=he
    match j,hc with
    | 0,hc =>
      refine ⟨_,_,rfl,?_⟩
      show (if w.heap.size = w.heap.size then (l[0 + i * 1 + 0]?).map Value.string else _) = _
      rw [if_pos rfl,show 0 + i * 1 + 0 = i by omega,hx,List.getD_eq_getElem?_getD,hx]
      rfl
    | j + 1,hc=>simp at hc
theorem pSplit_ok {E:Env} {f:FuncId} {t:TypeId}
    (hc:∀ (s sep:ByteArray) (w:World),BaseW E w→s.size < 4294967281→1≤sep.size →
      Calls E.P f #[.string s,.string sep] w fun e w'=>e = .returned (.slice (some ⟨w.heap.size,0,none⟩) (Lib.countB s sep + 1) (Lib.countB s sep + 1))∧w' = w.alloc (.cells ((Lib.splitB sep 0 (Lib.countB s sep) s).map Value.string).toArray t)):CallP E f pSplit:=by
  intro args hp v h' hh G w vs hb hw ha
  unfold pSplit at hh
  split at hh
  · rename_i s sep
    split at hh
    · rename_i hs
      simp only [Option.some.injEq,Prod.mk.injEq] at hh
      obtain ⟨rfl,rfl⟩:=hh
      rw [scs_rel (us:=[.string s,.string sep]) rfl ha]
      have hlen:=Lib.splitB_all sep hs.2 0 _ s rfl
      refine (hc s sep w (hb.w hw) hs.1 hs.2).mono ?_
      rintro e w' ⟨rfl,rfl⟩
      obtain ⟨G',h1,h2,h3⟩:=alloc_strs hw (Lib.splitB sep 0 (Lib.countB s sep) s) _ t (Nat.le_refl _)
      rw [Lib.cellsOf_full] at h2 h3
      refine ⟨_,G',rfl,?_,h2,h3⟩
      rw [hlen] at h1
      exact h1
    · cases hh
  · cases hh
theorem pSplitN_ok {E:Env} {f:FuncId} {t:TypeId}
    (hc:∀ (s sep:ByteArray) (n:Nat) (w:World),BaseW E w→s.size < 4294967281→1≤sep.size→1≤n→n≤9223372036854775807 →
      Calls E.P f #[.string s,.string sep,.int .i64 n] w fun e w'=>e = .returned (.slice (some ⟨w.heap.size,0,none⟩) (Lib.splitB sep 0 (min n (s.size + 1) - 1) s).length (min n (s.size + 1)))∧w' = w.alloc (.cells (Lib.cellsOf (Lib.splitB sep 0 (min n (s.size + 1) - 1) s) (min n (s.size + 1))) t)):CallP E f pSplitN:=by
  intro args hp v h' hh G w vs hb hw ha
  unfold pSplitN at hh
  split at hh
  · rename_i s sep n
    split at hh
    · rename_i hs
      simp only [Option.some.injEq,Prod.mk.injEq] at hh
      obtain ⟨rfl,rfl⟩:=hh
      obtain ⟨k,rfl⟩:=Int.eq_ofNat_of_zero_le (show 0≤n by omega)
      rw [scs_rel (us:=[.string s,.string sep,.int .i64 (k:Int)]) rfl ha,Int.toNat_natCast]
      have hle:=Lib.splitB_length_le sep 0 (min k (s.size + 1) - 1) s
      refine (hc s sep k w (hb.w hw) hs.1 hs.2.1 (by omega) (by omega)).mono ?_
      rintro e w' ⟨rfl,rfl⟩
      obtain ⟨G',h1,h2,h3⟩:=alloc_strs hw (Lib.splitB sep 0 (min k (s.size + 1) - 1) s) (min k (s.size + 1)) t (by omega)
      exact ⟨_,G',rfl,h1,h2,h3⟩
    · cases hh
  · cases hh
theorem pAtoi_ok {E:Env} {f:FuncId}
    (h1:∀ (s:ByteArray) (v:Int) (w:World),s.size≤281474976710656→Lib.atoiAll s.data.toList = .ok v→Calls E.P f #[.string s] w fun e w'=>e = .returned (.tuple #[.int .i64 v,.nilIface])∧Below w.heap.size w w')
    (h2:∀ (s:ByteArray) (w:World),BaseW E w→s.size≤281474976710656→Lib.atoiAll s.data.toList = .syntax→Calls E.P f #[.string s] w fun e w'=>(∃ t x,e = .returned (.tuple #[.int .i64 0,.iface t x]))∧Below w.heap.size w w')
    (h3:∀ (s:ByteArray) (w:World),BaseW E w→s.size≤281474976710656→Lib.atoiAll s.data.toList = .range→Calls E.P f #[.string s] w fun e w'=>(∃ t x,e = .returned (.tuple #[.int .i64 (Lib.atoiSat s.data.toList),.iface t x]))∧Below w.heap.size w w'):CallP E f pAtoi:=by
  intro args hp v h' hh G w vs hb hw ha
  have hbw:=hb.w hw
  unfold pAtoi at hh
  split at hh
  · rename_i s
    split at hh
    · rename_i hs
      rw [scs_rel (us:=[.string s]) rfl ha]
      split at hh
      · rename_i z hz
        simp only [Option.some.injEq,Prod.mk.injEq] at hh
        obtain ⟨rfl,rfl⟩:=hh
        refine (h1 s z w hs hz).mono ?_
        rintro e w' ⟨rfl,hbl⟩
        exact ⟨_,G,rfl,⟨_,rfl,.cons (.sc _ rfl) (.cons (.sc _ rfl) .nil)⟩,below_WR hbl hw,below_Sn hbl⟩
      · rename_i hz
        simp only [Option.some.injEq,Prod.mk.injEq] at hh
        obtain ⟨rfl,rfl⟩:=hh
        refine (h2 s w hbw hs hz).mono ?_
        rintro e w' ⟨⟨t,x,rfl⟩,hbl⟩
        exact ⟨_,G,rfl,⟨[_,_],rfl,.cons (.sc _ rfl) (.cons ⟨t,x,rfl⟩ .nil)⟩,below_WR hbl hw,below_Sn hbl⟩
      · rename_i hz
        simp only [Option.some.injEq,Prod.mk.injEq] at hh
        obtain ⟨rfl,rfl⟩:=hh
        refine (h3 s w hbw hs hz).mono ?_
        rintro e w' ⟨⟨t,x,rfl⟩,hbl⟩
        exact ⟨_,G,rfl,⟨[_,_],rfl,.cons (.sc _ rfl) (.cons ⟨t,x,rfl⟩ .nil)⟩,below_WR hbl hw,below_Sn hbl⟩
    · cases hh
  · cases hh
def mSplit (s t:Bs):Option (List Bs):=if s.length < 4294967281∧1≤t.length then some (Lib.split s t) else none
def mSplitN (s t:Bs) (n:Int):Option (List Bs):=if s.length < 4294967281∧1≤t.length∧1≤n∧n≤9223372036854775807 then some (Lib.splitN s t n.toNat) else none
theorem strs_en (l:List ByteArray):strs l = enL enS (l.map (·.data.toList)):=by
  unfold strs enL
  rw [List.map_map]
  refine List.map_congr_left fun x _=>?_
  simp [enS,S]
theorem S_data (s:Bs):(S s).data.toList = s:=by simp [S]
theorem pSplit_t (s t:Bs) (hp:Heap):pSplit [.c (.d (.sc (.string (S s)))),.c (.d (.sc (.string (S t))))] hp = (mSplit s t).map fun l=>(.v (.c (.d (.lst false (enL enS l)))),hp):=by
  unfold pSplit mSplit Lib.split
  simp only [S_size]
  split
  · rw [Option.map_some,strs_en,Lib.splitB_data,S_data,S_data]
    rfl
  · rfl
theorem pSplitN_t (s t:Bs) (n:Int) (hp:Heap):pSplitN [.c (.d (.sc (.string (S s)))),.c (.d (.sc (.string (S t)))),.c (.d (.sc (.int .i64 n)))] hp = (mSplitN s t n).map fun l=>(.v (.c (.d (.lst false (enL enS l)))),hp):=by
  unfold pSplitN mSplitN Lib.splitN
  simp only [S_size]
  split
  · rw [Option.map_some,strs_en,Lib.splitB_data,S_data,S_data]
  · rfl
def mAtoi (s:Bs):Option (Int×Bool):=if s.length≤281474976710656 then
    match Lib.atoiAll s with
    | .ok v=>some (v,false)
    | .syntax=>some (0,true)
    | .range=>some (Lib.atoiSat s,true)
  else none
def enEr (b:Bool):C:=if b then .nn else .d (.sc .nilIface)
theorem toV_nn:toV (.c .nn) = none:=rfl
theorem enEr_t:enEr true = .nn:=rfl
theorem enEr_f:enEr false = .d (.sc .nilIface):=rfl
theorem ev_ifnn {P:Program} {t:TypeId} {ms:Array (String×TypeId)} (hu:P.underlying t = some (.interface ms)) (x:Operand):evalS P (do eqGuard .neq t x (.const .nilIface) .nilIface .nilIface; binOp .neq t .nilIface .nilIface) = some (.bool false):=by
  simp only [eqGuard,binOp,Op.equal]
  rw [show Op.maxDepth = 9999 + 1 from rfl]
  unfold Op.equalIn
  simp [evalS_bind,underlying,ev_program,hu,evalS_pure]
theorem pAtoi_t (s:Bs) (hp:Heap):pAtoi [.c (.d (.sc (.string (S s))))] hp = (mAtoi s).map fun r=>(.tup [.c (.d (.sc (.int .i64 r.1))),.c (enEr r.2)],hp):=by
  unfold pAtoi mAtoi
  simp only [S_size,S_data]
  split
  · cases Lib.atoiAll s <;> rfl
  · rfl
end Go.Ab
end
section
set_option linter.unusedVariables false
set_option linter.unusedSimpArgs false
namespace Go.Ab
open Go Go.RowKit Go.Sort
def fmtOk (l:Bs) (off len:Nat) (u:Int):Prop:=1≤len∧off + len≤l.length∧0≤u∧u < 18446744073709551616∧u.toNat < 10 ^ len∧len < 100
instance (l:Bs) (off len:Nat) (u:Int):Decidable (fmtOk l off len u):=by unfold fmtOk; infer_instance
end Go.Ab
end
