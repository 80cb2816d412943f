/- An abstract evaluator of the loaded code, and that what it says is what the machine does. -/
import Derived.Test.YtbkobjepahlegaaGreatDoorEv7
import Derived.Deep.Slices
import Derived.ChangeArms
import Derived.Carry
set_option linter.all false
section
set_option linter.unusedVariables false
set_option linter.unusedSimpArgs false
namespace Go.Ab
open Go Go.ChangeShapes Go.WideShapes
structure Blk (H:Type) where
  B:DataW H→Nat
  A:List (DataW H)→Nat
  str:∀ s,B (.lit (.string s))=s.length+1
  lit:∀ l,1≤B (.lit l)
  nil:B .nil=1
  sl:∀ es sp,B (.slice es sp)=A es+A sp+1
  ag:∀ ps,B (.agg ps)=A ps+1
  A0:A []=0
  A1:∀ d r,A (d::r)=B d+A r
def cm(w:World):Nat→Nat→Option Value:=fun b i=>w.cell? ⟨b,i,none⟩
structure Opn (P:Program) (t:TypeId) {α:Type} (e:α→List D) (sz:α→Nat) (ok:α→Prop):Prop where
  out:∀ {H:Type} {enc:TypeId×Value→H} {w:World} {base:Nat} {spare:Nat→Bool} {held:Bool} {fuel:Nat} {cs:List Value} {x:DataW H×List MemPlace},
    DataW.trod enc P w base spare held fuel t cs=some x→∃ a,All2 (DR (cm w)) (e a) cs∧ok a∧∀ K:Blk H,sz a≤K.B x.1
theorem Opn.map{P:Program}{t:TypeId}{α β:Type}{e:α→List D}{sz:α→Nat}{ok:α→Prop}(O:Opn P t e sz ok)(g:α→β){e':β→List D}{sz':β→Nat}{ok':β→Prop}
    (he:∀ a,e' (g a)=e a) (hs:∀ a,sz' (g a)≤sz a) (hk:∀ a,ok a→ok' (g a)):Opn P t e' sz' ok':=⟨by
  intro H enc w base spare held fuel cs x h
  obtain ⟨a,h1,h2,h3⟩:=O.out h
  exact ⟨g a,by rw[he];exact h1,hk a h2,fun K=>Nat.le_trans (hs a) (h3 K)⟩⟩
theorem opn_str{P:Program}{t:TypeId}(ht:P.underlying t=some .string):Opn P t (fun s:Bs=>[.sc (.string (S s))]) (fun s=>s.length+1) (fun _=>True):=⟨by
  intro H enc w base spare held fuel cs x h
  obtain ⟨s,rfl,rfl,h1⟩:=DataW.trod_string ht h
  exact ⟨s.data.toList,.cons (.sc (.string s) rfl) .nil,trivial,fun K=>by rw[K.str];exact Nat.le_refl _⟩⟩
theorem opn_int{P:Program}{t:TypeId}{k:IntKind}(ht:P.underlying t=some (.int k)):Opn P t (fun n:Int=>[.sc (.int k n)]) (fun _=>1) (fun n=>(Lit.int k n).wf=true):=⟨by
  intro H enc w base spare held fuel cs x h
  obtain ⟨n,rfl,rfl,h1⟩:=DataW.trod_int ht h
  exact ⟨n,.cons (.sc (.int k n) rfl) .nil,h1,fun K=>K.lit _⟩⟩
theorem opn_u8{P:Program}{t:TypeId}(ht:P.underlying t=some (.int .u8)):Opn P t (fun c:UInt8=>[.sc (.int .u8 (c.toNat:Int))]) (fun _=>1) (fun _=>True):=⟨by
  intro H enc w base spare held fuel cs x h
  obtain ⟨n,rfl,rfl,h1⟩:=DataW.trod_int ht h
  have h2:(decide (IntKind.min .u8≤n)&&decide (n≤IntKind.max .u8))=true:=h1
  rw[Bool.and_eq_true]at h2
  have h3:0≤n:=of_decide_eq_true h2.1
  have h4:n≤255:=of_decide_eq_true h2.2
  refine ⟨UInt8.ofNat n.toNat,?_,trivial,fun K=>K.lit _⟩
  have e:((UInt8.ofNat n.toNat).toNat:Int)=n:=by
    rw[UInt8.toNat_ofNat']
    omega
  show All2 (DR (cm w)) [D.sc (.int .u8 ((UInt8.ofNat n.toNat).toNat:Int))] _
  rw[e]
  exact .cons (.sc (.int .u8 n) rfl) .nil⟩
theorem sum_A{H:Type}(K:Blk H){α:Type}(sz:α→Nat)(D:Nat→DataW H):∀ (l:List α) (o:Nat),(∀ i (h:i<l.length),sz l[i]≤K.B (D (o+i)))→(l.map sz).sum≤K.A ((List.range' o l.length).map D):=by
  intro l
  induction l with
  | nil=>intro o _;exact Nat.zero_le _
  | cons a l ih =>
    intro o h
    rw[List.length_cons,List.range'_succ,List.map_cons,List.map_cons,List.sum_cons,K.A1]
    have h0:=h 0 (by simp)
    have:=ih (o+1) fun i hi=>by
      have:=h (i+1) (by simpa using hi)
      rwa [show o+(i+1)=o+1+i by omega]at this
    simp only[List.getElem_cons_zero,Nat.add_zero]at h0
    omega
theorem opn_slice{P:Program}{t e:TypeId}{α:Type}{f:α→List D}{sz:α→Nat}{ok:α→Prop}{k:Nat}(ht:P.underlying t=some (.slice e))(hk:P.cellsOf e=k)(O:Opn P e f sz ok)(hf:∀ a,(f a).length=k)(hk0:0<k):
    Opn P t (fun x:Bool×List α=>[.lst x.1 (enL f x.2)]) (fun x=>(x.2.map sz).sum+1) (fun x=>(x.1=true→x.2=[])∧x.2.length≤maxLen∧∀ a ∈ x.2,ok a):=⟨by
  intro H enc w base spare held fuel cs x h
  rcases Go.Deep.open_slice ht h with ⟨rfl,rfl⟩ | ⟨ad,len,cap,m,n,Dt,Pl,rfl,hb,hl,hcap,hm,rfl,hx⟩
  · exact ⟨(true,[]),.cons .nil .nil,⟨fun _=>rfl,Nat.zero_le _,by simp⟩,fun K=>by rw[K.nil];simp⟩
  · have hlm:len≤m:=by rw[hm];split<;>omega
    have each:∀ i,i<len→∃ q:α×List Value,w.cells? base (ad.add (i*k)) k=some q.2∧All2 (DR (cm w)) (f q.1) q.2∧ok q.1∧∀ K:Blk H,sz q.1≤K.B (Dt i):=by
      intro i hi
      obtain ⟨cs',h1,h2⟩:=hx i (by omega)
      rw[hk]at h1
      obtain ⟨a,r1,r2,r3⟩:=O.out h2
      exact ⟨(a,cs'),h1,r1,r2,r3⟩
    by_cases h0:len=0
    · subst h0
      refine ⟨(false,[]),.cons ?_ .nil,⟨nofun,Nat.zero_le _,by simp⟩,fun K=>by rw[K.sl];simp⟩
      exact .lst false [] (some ad) cap k (fun _ _=>default) (Nat.zero_le _) rfl nofun (fun h=>absurd rfl h) (by simp) (fun i j e c h=>by simp at h) (fun i j e c h=>by simp at h)
    · obtain ⟨q0,_⟩:=each 0 (by omega)
      have:Inhabited α:=⟨q0.1⟩
      obtain ⟨q,hq⟩:∃ q:Nat→α×List Value,∀ i,i<len→w.cells? base (ad.add (i*k)) k=some (q i).2∧All2 (DR (cm w)) (f (q i).1) (q i).2∧ok (q i).1∧∀ K:Blk H,sz (q i).1≤K.B (Dt i) :=
        Go.Deep.choose_lt each
      let l:=(List.range len).map fun i=>(q i).1
      have hll:l.length=len:=by simp[l]
      have hlg:∀ i (h:i<l.length),l[i]=(q i).1:=fun i h=>by simp[l]
      refine ⟨(false,l),.cons ?_ .nil,⟨nofun,by rw[hll];omega,fun a ha=>?_⟩,fun K=>?_⟩
      · have hd:DR (cm w) (.lst false (enL f l)) (.slice (some ad) (enL f l).length cap):=by
          have hcell:∀ i j,i<len→j<k→∃ v,(q i).2[j]? = some v∧w.cell? ((ad.add (i*k)).add j)=some v:=by
            intro i j hi hj
            obtain ⟨_,hlen,hcl⟩:=World.cells?_some (hq i hi).1
            have:=hcl j (by omega)
            exact ⟨(q i).2[j]'(by omega),List.getElem?_eq_getElem _,by rw[this,List.getElem?_eq_getElem]⟩
          have hsp:0<k→ad.spot=none:=by
            intro hk0
            obtain ⟨v,_,h2⟩:=hcell 0 0 (by omega) hk0
            rw[show (ad.add (0*k)).add 0=ad by simp[Addr.add]]at h2
            unfold World.cell? at h2
            split at h2
            · split at h2
              · cases h2
              · rename_i hs
                cases hsp:ad.spot with
                | none=>rfl
                | some s=>rw[hsp]at hs;exact absurd rfl hs
            · cases h2
          have hs:=hsp hk0
          obtain ⟨b,o,sp⟩:=ad
          simp only at hs
          subst hs
          refine .lst false (enL f l) (some ⟨b,o,none⟩) cap k (fun i j=>((q i).2[j]?).getD default) (by rw[enL_length,hll];omega) rfl nofun (fun _ a ha=>by cases ha;rfl) ?_ ?_ ?_
          · intro e he
            simp only[enL,List.mem_map]at he
            obtain ⟨a,_,rfl⟩:=he
            exact hf a
          · intro i j e c he hc
            simp only[enL,List.getElem?_map,Option.map_eq_some_iff]at he
            obtain ⟨a,ha,rfl⟩:=he
            obtain ⟨hi,rfl⟩:=List.getElem?_eq_some_iff.1 ha
            rw[hlg]at hc
            obtain ⟨v,hv,hr⟩:=(hq i (by omega)).2.1.get hc
            rw[hv]
            exact hr
          · intro i j e c he hc
            simp only[enL,List.getElem?_map,Option.map_eq_some_iff]at he
            obtain ⟨a,ha,rfl⟩:=he
            obtain ⟨hi,rfl⟩:=List.getElem?_eq_some_iff.1 ha
            rw[hlg]at hc
            have hj:j<k:=by
              rw[← hf (q i).1]
              exact (List.getElem?_eq_some_iff.1 hc).1
            obtain ⟨v,hv,hw⟩:=hcell i j (by omega) hj
            refine ⟨b,o,rfl,?_⟩
            rw[hv]
            have ea:((⟨b,o,none⟩:Addr).add (i*k)).add j=⟨b,o+i*k+j,none⟩:=by simp[addr_add]
            rw[ea]at hw
            exact hw
        rw[enL_length,hll]at hd
        exact hd
      · simp only[l,List.mem_map,List.mem_range]at ha
        obtain ⟨i,hi,rfl⟩:=ha
        exact (hq i hi).2.2.1
      · rw[K.sl]
        have:=sum_A K sz Dt l 0 (fun i hi=>by
          rw[hlg,Nat.zero_add]
          exact (hq i (by omega)).2.2.2 K)
        rw[hll,← List.range_eq_range']at this
        show (l.map sz).sum+1≤_
        omega
⟩
structure FOpn (P:Program) (fs:List Field) (off tot:Nat) {α:Type} (e:α→List D) (sz:α→Nat) (ok:α→Prop):Prop where
  out:∀ {H:Type} {enc:TypeId×Value→H} {w:World} {base:Nat} {spare:Nat→Bool} {held:Bool} {n:Nat} {cs:List Value} {xs:List (DataW H×List MemPlace)},
    cs.length=tot→xs.length=fs.length→(∀ (i:Nat) (f:Field),fs[i]? = some f→DataW.trod enc P w base spare held n f.type ((cs.drop f.offset).take (P.cellsOf f.type))=xs[i]?) →
    ∃ a,All2 (DR (cm w)) (e a) (cs.drop off)∧ok a∧∀ K:Blk H,sz a≤K.A (xs.map (·.1))
theorem fopn_nil{P:Program}{tot:Nat}:FOpn P [] tot tot (fun _:Unit=>[]) (fun _=>0) (fun _=>True):=⟨by
  intro H enc w base spare held n cs xs hc hx _
  refine ⟨(),?_,trivial,fun K=>Nat.zero_le _⟩
  rw[List.drop_eq_nil_of_le (by omega)]
  exact .nil⟩
theorem fopn_cons{P:Program}{f:Field}{fs:List Field}{off k tot:Nat}{t:TypeId}{α β:Type}{e:α→List D}{sz:α→Nat}{ok:α→Prop}{e':β→List D}{sz':β→Nat}{ok':β→Prop}
    (ho:f.offset=off) (ht:f.type=t) (hk:P.cellsOf t=k) (O:Opn P t e sz ok) (F:FOpn P fs (off+k) tot e' sz' ok'):FOpn P (f::fs) off tot (fun x:α×β=>e x.1++e' x.2) (fun x=>sz x.1+sz' x.2) (fun x=>ok x.1∧ok' x.2):=⟨by
  intro H enc w base spare held n cs xs hc hx h
  cases xs with
  | nil=>cases hx
  | cons x xs =>
    have h0:=h 0 f rfl
    rw[ho,ht,hk]at h0
    obtain ⟨a,a1,a2,a3⟩:=O.out h0
    obtain ⟨b,b1,b2,b3⟩:=F.out (xs:=xs) hc (by simpa using hx) (fun i g hg=>h (i+1) g hg)
    refine ⟨(a,b),?_,⟨a2,b2⟩,fun K=>?_⟩
    · have:=a1.append b1
      rwa [← List.drop_drop,List.take_append_drop]at this
    · rw[List.map_cons,K.A1]
      exact Nat.add_le_add (a3 K) (b3 K)⟩
theorem opn_struct{P:Program}{t:TypeId}{fs:Array Field}{tot:Nat}{α:Type}{e:α→List D}{sz:α→Nat}{ok:α→Prop}(ht:P.underlying t=some (.struct fs))(hc:P.cellsOf t=tot)(F:FOpn P fs.toList 0 tot e sz ok):
    Opn P t e (fun a=>sz a+1) ok:=⟨by
  intro H enc w base spare held fuel cs x h
  obtain ⟨xs,n,_,rfl,hl,hlen,hf⟩:=DataW.trod_struct ht h
  obtain ⟨a,a1,a2,a3⟩:=F.out (xs:=xs) (by rw[hl,hc]) (by rw[hlen];simp) (fun i f hi=>hf i f (by simpa using hi))
  exact ⟨a,a1,a2,fun K=>by rw[K.ag];exact Nat.succ_le_succ (a3 K)⟩⟩
theorem arg_agg{P:Program}{t:TypeId}{fs:Array Field}{α:Type}{e:α→List D}{sz:α→Nat}{ok:α→Prop}(O:Opn P t e sz ok)(hu:P.underlying t=some (.struct fs))
    {H:Type} {enc:TypeId×Value→H} {W:World} {r:Reach} {b0 base:Nat} {sp:Nat→Bool} {held:Bool} {v:Value} {d:DataW H} {ps:List MemPlace} (hval:Value.okWide P W r b0 t v) (h:DataW.Trod enc P W base sp held t v d ps) :
    ∃ a,VR (G0 W) [] (.agg ((e a).map .d)) v∧ok a∧∀ K:Blk H,sz a≤K.B d:=by
  obtain ⟨fuel,h⟩:=h
  obtain ⟨a,h1,h2,h3⟩:=O.out h
  unfold Value.okWide at hval
  simp only[hu]at hval
  obtain ⟨cs,rfl,_⟩:=hval
  refine ⟨a,⟨cs.toList,rfl,?_⟩,h2,h3⟩
  have h1':All2 (DR (cm W)) (e a) cs.toList:=h1
  clear h1
  generalize e a=l at h1'
  generalize cs.toList=m at h1'
  induction h1' with
  | nil=>exact .nil
  | cons h _ ih=>exact .cons h ih
open Go.RowKit in
theorem below_trodAll{H:Type}{enc:TypeId×Value→H}{P:Program}(hl:laidOutB P=true){W W':World}(hb:Below W.heap.size W W'):∀ {ts:List TypeId} {vs:List Value} {ds:List (DataW H)} {ps:List MemPlace},
    (∀ t ∈ ts,P.readableRec t=true∧t<P.types.size)→(∀ x ∈ ps,x.block<W.heap.size)→DataW.TrodAll enc P W 0 (fun _=>true) true ts vs ds ps →
    DataW.TrodAll enc P W' 0 (fun b=>decide (b<W.heap.size)) true ts vs ds ps:=by
  intro ts
  induction ts with
  | nil=>intro vs ds ps _ _ h;obtain ⟨rfl,rfl,rfl⟩:=trodAll_nil h;exact trodAll_mk0
  | cons t ts ih =>
    intro vs ds ps ht hlt h
    obtain ⟨v,vs',d,ds',p,q,rfl,rfl,rfl,h1,h2⟩:=trodAll_cons h
    have h0:=ht t (List.mem_cons_self ..)
    exact trodAll_cons_mk (Below.trod hl h0.1 h0.2 h1 hb (fun x hx=>hlt x (List.mem_append_left _ hx))) (ih (fun t h=>ht t (List.mem_cons_of_mem _ h)) (fun x hx=>hlt x (List.mem_append_right _ hx)) h2)
end Go.Ab
end
section
set_option linter.unusedVariables false
set_option linter.unusedSimpArgs false
namespace Go.Ab
open Go
def enZ{α:Type}(f:α→List D)(l:List α):List C:=(enL f l).flatten.map .d
section
variable {α:Type} (f:α→List D)
theorem enZ_nil:enZ f []=[]:=rfl
theorem enZ_cons(x:α)(l:List α):enZ f (x::l)=(f x).map .d++enZ f l:=by simp[enZ,enL]
theorem enZ_app(l m:List α):enZ f (l++m)=enZ f l++enZ f m:=by simp[enZ,enL]
variable {f} {n:Nat} (hf:∀ x,(f x).length=n)
include hf
theorem enZ_length(l:List α):(enZ f l).length=l.length*n:=by
  induction l with
  | nil=>simp[enZ_nil]
  | cons x l ih=>rw[enZ_cons,List.length_append,ih,List.length_map,hf,List.length_cons,Nat.add_mul];omega
theorem enZ_drop(l:List α)(k:Nat):(enZ f l).drop (k*n)=enZ f (l.drop k):=by
  induction l generalizing k with
  | nil=>simp[enZ_nil]
  | cons x l ih =>
    cases k with
    | zero=>simp
    | succ k =>
      rw[enZ_cons,List.drop_succ_cons,← ih k]
      have:(k+1)*n=((f x).map C.d).length+k*n:=by rw[List.length_map,hf,Nat.add_mul];omega
      rw[this,List.drop_append]
      simp
theorem enZ_take(l:List α)(k:Nat):(enZ f l).take (k*n)=enZ f (l.take k):=by
  induction l generalizing k with
  | nil=>simp[enZ_nil]
  | cons x l ih =>
    cases k with
    | zero=>simp[enZ_nil]
    | succ k =>
      rw[enZ_cons,List.take_succ_cons,enZ_cons,← ih k]
      have:(k+1)*n=((f x).map C.d).length+k*n:=by rw[List.length_map,hf,Nat.add_mul];omega
      rw[this,List.take_append]
      congr 1
      · rw[List.take_of_length_le (by omega)]
      · simp
theorem enZ_load[Inhabited α](l:List α)(k:Nat)(h:k<l.length):((enZ f l).drop (k*n)).take n=(f (l.getD k default)).map .d:=by
  rw[enZ_drop hf,List.drop_eq_getElem_cons h,enZ_cons]
  have e:l.getD k default=l[k]:=by simp[List.getD_eq_getElem?_getD,h]
  rw[e,List.take_append_of_le_length (by rw[List.length_map,hf];exact Nat.le_refl _),List.take_of_length_le (by rw[List.length_map,hf];exact Nat.le_refl _)]
omit hf in
theorem wr_app(A:List C):∀ (xs R:List C),xs.length≤R.length→wr (A++R) A.length xs=A++wr R 0 xs:=by
  induction A with
  | nil=>intro xs R _;rfl
  | cons a A ih =>
    intro xs R h
    show wr (a::(A++R)) (A.length+1) xs=_
    have:wr (a::(A++R)) (A.length+1) xs=a::wr (A++R) A.length xs:=by cases xs<;>rfl
    rw[this,ih xs R h];rfl
omit hf in
theorem wr_zero:∀ (xs R:List C),xs.length≤R.length→wr R 0 xs=xs++R.drop xs.length:=by
  intro xs
  induction xs with
  | nil=>intro R _;cases R<;>rfl
  | cons x xs ih =>
    intro R h
    cases R with
    | nil=>simp at h
    | cons r R =>
      show x::wr R 0 xs=_
      rw[ih R (by simpa using h)];rfl
theorem enZ_wr(l:List α)(k:Nat)(x:α)(h:k<l.length):wr (enZ f l) (k*n) ((f x).map .d)=enZ f (l.set k x):=by
  have e1:enZ f l=enZ f (l.take k)++enZ f (l.drop k):=by rw[← enZ_app,List.take_append_drop]
  have hl:(enZ f (l.take k)).length=k*n:=by rw[enZ_length hf,List.length_take];congr 1;omega
  have hd:enZ f (l.drop k)=(f l[k]).map .d++enZ f (l.drop (k+1)):=by rw[List.drop_eq_getElem_cons h,enZ_cons]
  have hx:((f x).map C.d).length≤(enZ f (l.drop k)).length:=by rw[hd,List.length_append,List.length_map,List.length_map,hf,hf];omega
  rw[e1,← hl,wr_app _ _ _ hx,wr_zero _ _ hx,hd]
  have:((f l[k]).map C.d++enZ f (l.drop (k+1))).drop ((f x).map C.d).length=enZ f (l.drop (k+1)):=by
    rw[show ((f x).map C.d).length=((f l[k]).map C.d).length by rw[List.length_map,List.length_map,hf,hf],List.drop_left]
  rw[this,List.set_eq_take_append_cons_drop,if_pos h,enZ_app,enZ_cons]
omit hf in
theorem rep_flat(x:α)(m:Nat):(List.replicate m ((f x).map C.d)).flatten=enZ f (List.replicate m x):=by
  induction m with
  | zero=>rfl
  | succ m ih=>rw[List.replicate_succ,List.replicate_succ,enZ_cons,List.flatten_cons,ih]
theorem enZ_clear(l:List α)(k m:Nat)(x:α)(h:k+m≤l.length):wr (enZ f l) (k*n) (List.replicate m ((f x).map C.d)).flatten=enZ f (l.take k++(List.replicate m x++l.drop (k+m))):=by
  have e1:enZ f l=enZ f (l.take k)++enZ f (l.drop k):=by rw[← enZ_app,List.take_append_drop]
  have hl:(enZ f (l.take k)).length=k*n:=by rw[enZ_length hf,List.length_take];congr 1;omega
  have hr:(enZ f (List.replicate m x)).length=m*n:=by rw[enZ_length hf,List.length_replicate]
  have hle:(enZ f (List.replicate m x)).length≤(enZ f (l.drop k)).length:=by
    rw[hr,enZ_length hf,List.length_drop]
    exact Nat.mul_le_mul_right n (by omega)
  rw[rep_flat,e1,← hl,wr_app _ _ _ hle,wr_zero _ _ hle,hr,enZ_drop hf,List.drop_drop,enZ_app,enZ_app]
omit hf in
theorem mapM_toD(ds:List D):(ds.map C.d).mapM C.toD=some ds:=by
  induction ds with
  | nil=>rfl
  | cons d ds ih=>rw[List.map_cons,List.mapM_cons,ih];rfl
theorem chunk_enZ(l:List α):chunk n l.length (enL f l).flatten=enL f l:=by
  induction l with
  | nil=>rfl
  | cons x l ih =>
    show chunk n (l.length+1) (f x++(enL f l).flatten)=f x::enL f l
    rw[chunk,List.take_append_of_le_length (by rw[hf];exact Nat.le_refl _),List.take_of_length_le (by rw[hf];exact Nat.le_refl _),List.drop_append_of_le_length (by rw[hf];exact Nat.le_refl _),List.drop_of_length_le (by rw[hf];exact Nat.le_refl _),List.nil_append,ih]
theorem enZ_list{hp:Heap}{k:Nat}{l:List α}(hk:hp[k]? = some (.cells (enZ f l)))(m:Nat)(cap:Option Nat)(h:m≤l.length):listOf hp (.slc k 0 n m cap)=some (enL f (l.take m)):=by
  have h1:0+m*n≤(enZ f l).length:=by rw[enZ_length hf,Nat.zero_add];exact Nat.mul_le_mul_right n h
  have h2:slcCells hp k 0 (m*n)=some (enZ f (l.take m)):=by
    simp only[slcCells,hk]
    rw[if_pos h1,List.drop_zero,enZ_take hf]
  simp only[listOf,h2,Option.bind_some]
  unfold enZ
  rw[mapM_toD,Option.map_some]
  have hm:(l.take m).length=m:=by rw[List.length_take];omega
  have:=chunk_enZ hf (l.take m)
  rw[hm]at this
  rw[this]
theorem enZ_listX(l:List α)(m:Nat)(h:m≤l.length):
    ((if m*n≤(enZ f l).length then some (List.take (m*n) (enZ f l)) else none).bind fun cs=>Option.map (chunk n m) (List.mapM C.toD cs))=some (enL f (l.take m)):=by
  have h1:m*n≤(enZ f l).length:=by rw[enZ_length hf];exact Nat.mul_le_mul_right n h
  rw[if_pos h1,Option.bind_some,enZ_take hf]
  unfold enZ
  rw[mapM_toD,Option.map_some]
  have hm:(l.take m).length=m:=by rw[List.length_take];omega
  have:=chunk_enZ hf (l.take m)
  rw[hm]at this
  rw[this]
theorem enZ_listY(h0:0<n)(l:List α)(m:Nat):
    ((if m*n≤(enZ f l).length then some (List.take (m*n) (enZ f l)) else none).bind fun cs=>Option.map (chunk n m) (List.mapM C.toD cs))=if m≤l.length then some (enL f (l.take m)) else none:=by
  by_cases h:m≤l.length
  · rw[enZ_listX hf l m h,if_pos h]
  · rw[if_neg h,if_neg (by rw[enZ_length hf];exact fun q=>h (Nat.le_of_mul_le_mul_right q h0))]
    rfl
omit hf in
theorem enZ_isD(l:List α):(enZ f l).all C.isD=true:=by simp[enZ,C.isD,List.all_map]
omit hf in
theorem enZ_list0{hp:Heap}{k:Nat}(hk:hp[k]? = some (.cells []))(cap:Option Nat):listOf hp (.slc k 0 n 0 cap)=some []:=by
  simp[listOf,slcCells,hk,chunk]
end
theorem enZ_le(n:Nat)(h:0<n)(k m:Nat):(k*n+n≤m*n)=(k<m):=by
  refine propext ⟨fun q=>?_,fun q=>?_⟩
  · have:(k+1)*n≤m*n:=by rw[Nat.add_mul];omega
    exact Nat.le_of_mul_le_mul_right this h
  · have:=Nat.mul_le_mul_right n (show k+1≤m from q)
    rw[Nat.add_mul]at this;omega
theorem newSlice_z(hp:Heap)(r:Bool)(sz:Nat):newSlice hp true r sz 0 []=some (.c (.slc hp.length 0 sz 0 (some 0)),hp++[.cells []]):=rfl
theorem appendA_hz{P:Program}{t e:TypeId}{α:Type}(f:α→List D)(sz by_:Nat)(hf:∀ x,(f x).length=sz)(ht:P.underlying t=some (.slice e))(hs:szP P e=some sz)
    (hb:bytesP P e=some by_) {z:List C} (hz:zeroC P e=some z) (hzl:z.length=sz) (h0:0<sz) (h1:0<by_) {hp:Heap} {k:Nat} {b:List α} (hk:hp[k]? = some (.cells [])):appendA P true hp t (.slc k 0 sz 0 (some 0)) (enL f b) =
      if b.isEmpty=true then some (.c (.slc k 0 sz 0 (some 0)),hp) else if b.length*by_≤140737488355328 then some (.c (.slc hp.length 0 sz b.length none),hp++[.cells (enZ f b)]) else none:=by
  have hbb:((enL f b).all fun e=>e.length==sz)=true:=enL_all f sz hf b
  cases b with
  | nil=>simp only[appendA,ht,hs,hb,hz,hzl,h0,h1,true_and,enL,List.map_nil,List.all_nil,if_true,List.isEmpty_nil]
  | cons x b =>
    have h2:enL f (x::b)≠[]:=by simp[enL]
    have h3:(2:Nat) ^ 47=140737488355328:=by decide
    simp only[appendA,ht,hs,hb,hz,hzl,h0,h1,true_and,hbb,if_true,if_neg h2,enL_length,List.isEmpty_cons,Bool.false_eq_true,if_false,and_self,enZ_list0 hk,Option.bind_some,List.all_nil,Nat.zero_add,List.nil_append,h3]
    by_cases hc:(x::b).length*by_≤140737488355328
    · rw[if_pos hc,if_pos hc]
      simp only[newOwn,if_true,enL_length]
      rfl
    · rw[if_neg hc,if_neg hc]
theorem clearA_z{P:Program}{t e:TypeId}{α:Type}{f:α→List D}{sz:Nat}(hf:∀ x,(f x).length=sz)(ht:P.underlying t=some (.slice e))(hs:szP P e=some sz)(x0:α)(hz:zeroC P e=some ((f x0).map C.d))(h0:0<sz)
    {hp:Heap} {k:Nat} {l:List α} (hk:hp[k]? = some (.cells (enZ f l))) (i m:Nat):clearA P hp t k (i*sz) sz m =
      if i+m≤l.length then some (.tup [],hp.set k (.cells (enZ f (l.take i++(List.replicate m x0++l.drop (i+m)))))) else none:=by
  have hl:((f x0).map C.d).length=sz:=by rw[List.length_map,hf]
  have hiff:(i*sz+m*sz≤l.length*sz)=(i+m≤l.length):=by
    refine propext ⟨fun q=>?_,fun q=>?_⟩
    · rw[← Nat.add_mul]at q;exact Nat.le_of_mul_le_mul_right q h0
    · have:=Nat.mul_le_mul_right sz q;rwa [Nat.add_mul]at this
  simp only[clearA,ht,hs,hz,hk,hl,true_and,h0,enZ_length hf,hiff]
  by_cases h:i+m≤l.length
  · rw[if_pos h,if_pos h,enZ_clear hf l i m x0 h]
  · rw[if_neg h,if_neg h]
theorem bnd_n0(i:Int):bnd i 0=if i=0 then some 0 else none:=by
  unfold bnd
  by_cases h:i=0
  · subst h;rfl
  · rw[if_neg h,if_neg]
    omega
theorem clearA_e{P:Program}{t e:TypeId}{sz:Nat}(ht:P.underlying t=some (.slice e))(hs:szP P e=some sz){z:List C}(hz:zeroC P e=some z)(hzl:z.length=sz)(h0:0<sz){hp:Heap}{k:Nat}(hk:hp[k]? = some (.cells [])):
    clearA P hp t k 0 sz 0=some (.tup [],hp):=by
  have hset:hp.set k (.cells [])=hp:=by
    apply List.ext_getElem?
    intro i
    by_cases hi:i=k
    · subst hi;rw[getElem?_set_self' hk,hk]
    · rw[List.getElem?_set];simp[Ne.symm hi]
  simp only[clearA,ht,hs,hz,hk,hzl,h0,true_and,List.length_nil,Nat.zero_mul,Nat.add_zero,Nat.le_refl,if_true,wr,hset]
theorem ev_nile{P:Program}{t e:TypeId}(hu:P.underlying t=some (.slice e))(x:Operand):evalS P (do eqGuard .eql t x (.const (.slice none 0 0)) (.slice none 0 0) (.slice none 0 0);binOp .eql t (.slice none 0 0) (.slice none 0 0))=some (.bool true):=by
  simp only[eqGuard,binOp,Op.equal]
  rw[show Op.maxDepth=9999+1 from rfl]
  unfold Op.equalIn
  simp[evalS_bind,underlying,ev_program,hu,evalS_pure]
theorem nilq_e{P:Program}{t e:TypeId}(hu:P.underlying t=some (.slice e)){α:Type}(x:Operand)(nl:Bool)(f:α→List D)(l:List α)(hp:Heap):
    both (toV (.c (.d (.lst nl (enL f l))))) (toV (.c (.d (.lst true []))))
      (fun v w=>(evalS P (do eqGuard .eql t x (.const (.slice none 0 0)) v w;binOp .eql t v w)).bind fun r=>(ofV r).map fun z=>(AV.v z,hp))
      (some (AV.bool nl,hp))=some (AV.bool nl,hp):=by
  cases nl with
  | false=>rfl
  | true =>
    cases l with
    | cons a l=>rfl
    | nil =>
      show (evalS P (do eqGuard .eql t x (.const (.slice none 0 0)) (.slice none 0 0) (.slice none 0 0);binOp .eql t (.slice none 0 0) (.slice none 0 0))).bind (fun r=>(ofV r).map fun z=>(AV.v z,hp))=_
      rw[ev_nile hu];rfl
end Go.Ab
end
section
set_option linter.all false
set_option linter.unusedVariables false
set_option linter.unusedSimpArgs false
namespace Go.Ab
open Go
structure W (T:Prop):Type where
  o:T
theorem Q{a b:Prop}(x:a)(y:b):a∧b:=⟨x,y⟩
theorem lf{α:Type}{a b c:α}(h:b=c)(e:a=b):a=c:=e.trans h
theorem tnlt{i:Int}{n:Nat}(h:0≤i∧i<(n:Int)):i.toNat<n:=by omega
theorem tnl0{n:Nat}(h:(0:Int)<(n:Int)):0<n:=by omega
theorem tnl1{n:Nat}(h:(1:Int)<(n:Int)):1<n:=by omega
theorem tnl2{n:Nat}(h:(2:Int)<(n:Int)):2<n:=by omega
theorem tnl3{n:Nat}(h:(3:Int)<(n:Int)):3<n:=by omega
theorem nE(a b:Code)(h:a=b:=by rfl):a=b:=h
def setC:=Q @List.length_nil.{0} (Q @Option.map_none.{0,0} (Q @List.take_nil.{0} (Q @List.drop_nil.{0} (Q @Option.isNone_some.{0} (Q @Bool.false_and (Q @Bool.false_eq_true (Q @List.all_nil.{0} (Q @List.getD_cons_zero.{0} (Q @List.getD_cons_succ.{0} (Q @List.map_cons.{0,0} (Q @List.map_nil.{0,0} (Q @List.take_length.{0} (Q @decide_true (Q @Bool.and_self (Q @Nat.zero_add (Q @Nat.sub_zero (Q @Nat.zero_mul (Q @Nat.sub_self (Q @not_false_eq_true (Q @Option.getD_some.{0} (Q @Option.getD_none.{0} (Q @if_false.{1} (Q @regD_none (Q @seqD_none (Q @blockD_none (Q @stepE_none (Q @loopK_none (@bodyD_none))))))))))))))))))))))))))))
theorem rx(c:Code){o:Oper}{l:List Oper}(h:isRg c=true:=by rfl)(ho:opsOf c=o::l:=by rfl)(E:Env)(f m:Nat)(st:St):
    den E f m (callW E) itW c none st=regD (runOps E (callW E) (o::l) (o::l) st):=by rw[← ho];exact rgN h m st
theorem ry(E:Env)(c:Code){o:Oper}{l:List Oper}(h:(isDr c&&(drawOk E (opsOf c)&&(floats E (opsOf c)).isEmpty))=true:=by kernel_rfl)(ho:opsOf c=o::l:=by rfl)(f m:Nat)(st:St):
    den E f m (callW E) itW c none st=regD (runOps E (callW E) (o::l) (o::l) st):=by rw[← ho];exact rgD h m st
theorem lx(E:Env)(f:Nat)(c b:Code)(L:List (Nat×Co))(h:∀ (m:Nat) (st:St),den E f m (callW E) itW c none st=loopD itW (loopF E f m (callW E) itW b L) (canon m L st):=by exact fun _ _=>rfl)(m:Nat)(st:St):
    den E f m (callW E) itW c none st=loopD itW (loopF E f m (callW E) itW b L) (canon m L st):=h m st
theorem cR{E:Env}{f:Nat}{args:List V1}{hp:Heap}{fnc:Func}(body:Code)(res:List ResultVar)(h:E.P.funcs[f]? = some fnc)(hb:fnc.body=some body:=by rfl)(hres:fnc.results.toList=res:=by rfl)
    (hk:(codeOk fnc.ntmps body&&decide (args.length≤fnc.ntmps))=true:=by kernel_rfl):callW E f args hp =
      bodyD E res hp.length (E.hand f) (den E f hp.length (callW E) itW body none ⟨slotsOf args,hp⟩):=callW_run h hb hres hk
abbrev Sl:=Nat→AV
noncomputable abbrev dn(E:Env)(f m:Nat)(c:Code)(sl:Sl)(h:Heap):=den E f m (callW E) itW c none ⟨sl,h⟩
noncomputable abbrev sq(E:Env)(f m:Nat)(c:Code):=seqD E f m (callW E) itW c
noncomputable abbrev lp(E:Env)(f m:Nat)(c:Code)(L:List (Nat×Co)):=loopF E f m (callW E) itW c L
abbrev dS(x:Bs):D:=.sc (.string (S x))
abbrev dB(x:Bool):D:=.sc (.bool x)
abbrev dI(x:Int):D:=.sc (.int .i64 x)
abbrev dU(x:Int):D:=.sc (.int .u64 x)
abbrev vd(x:D):AV:=.v (.c (.d x))
abbrev cd(x:D):V1:=.c (.d x)
def setF:=Q @runF_nil (Q @runF_none (Q @runF_some (Q @runKF_t (Q @runKF_f (Q @runKF_x (Q @stepKF_s (Q @stepKF_x (Q @tlT_c (Q @tlT_n (Q @hdT_c (Q @hdT_n (Q @footT_n (Q @foot_t (Q @foot_f (Q @pair1 (Q @pair0 (Q @eqOb_cells (Q @eqOb_row (Q @eqOb_siter (Q @eqOb_amapN (Q @eqOb_amapC (Q @eqOb_sm (Q @eqE_S (Q @eqE_SS (Q @eqE_N (Q @eqE_B (Q @eqB_refl (Q @ckF.eq_1 (Q @chgA.eq_1 (Q @eqO.eq_1 (Q @eqO.eq_2 (Q @eqL.eq_1 (Q @eqL.eq_2 (Q @eqC.eq_1 (Q @eqC.eq_2 (Q @eqC.eq_3 (Q @eqC.eq_4 (Q @eqC.eq_5 (Q @eqC.eq_6 (Q @eqC.eq_7 (Q @eqD.eq_1 (Q @eqD.eq_2 (Q @eqV.eq_1 (Q @eqV.eq_2 (Q @eqV.eq_3 (Q @eqV.eq_4 (Q @eqV.eq_5 (Q @eqV.eq_6 (Q @eqV.eq_7 (Q @eqV.eq_8 (Q @eqV1.eq_1 (Q @eqV1.eq_2 (Q @readsO.eq_1 @eq_self.{1})))))))))))))))))))))))))))))))))))))))))))))))))))))
theorem go{p C T:Prop}(c:C)(t:T) (h:W C→W T→p:=by
    intro yc yk
    try simp -implicitDefEqProofs only [yc.o, *,dn,sq,lp,dS,dB,dI,dU,vd,cd,setA,setB,setC,Nat.reduceEqDiff,Nat.reduceAdd,Nat.reduceLeDiff,Nat.reduceLT,Nat.reduceMul,Nat.reduceBEq,Nat.reduceSub,Nat.reducePow,Int.reduceEq,Int.reduceLE,Int.reduceLT,Int.reduceToNat,Int.reduceNegSucc,Int.reduceAdd,Int.reduceBEq,String.reduceBEq,reduceCtorEq,zE,↓reduceIte]
    repeat' first
      | ((with_reducible refine brB (fun ya=>?_) (fun ya=>?_))
         all_goals try first | have yb:(_:Nat)<_:=of_decide_eq_true ya | have yb:¬ ((_:Nat)<_):=of_decide_eq_false ya
         all_goals try simp -implicitDefEqProofs only [yc.o, *,dn,sq,lp,dS,dB,dI,dU,vd,cd,setA,setB,setC,Nat.reduceEqDiff,Nat.reduceAdd,Nat.reduceLeDiff,Nat.reduceLT,Nat.reduceMul,Nat.reduceBEq,Nat.reduceSub,Nat.reducePow,Int.reduceEq,Int.reduceLE,Int.reduceLT,Int.reduceToNat,Int.reduceNegSucc,Int.reduceAdd,Int.reduceBEq,String.reduceBEq,reduceCtorEq,zE,↓reduceIte])
      | ((with_reducible refine brP (fun ya=>?_) (fun ya=>?_))
         rotate_left
         · rw[if_neg ya];rfl
         try first | have yb:=tnlt ya | have yb:=tnl0 ya | have yb:=tnl1 ya | have yb:=tnl2 ya | have yb:=tnl3 ya | have yb:=tnlt (And.intro (by omega) ya) | have yb:=of_decide_eq_true ya
         try simp -implicitDefEqProofs only [yc.o, *,dn,sq,lp,dS,dB,dI,dU,vd,cd,setA,setB,setC,Nat.reduceEqDiff,Nat.reduceAdd,Nat.reduceLeDiff,Nat.reduceLT,Nat.reduceMul,Nat.reduceBEq,Nat.reduceSub,Nat.reducePow,Int.reduceEq,Int.reduceLE,Int.reduceLT,Int.reduceToNat,Int.reduceNegSucc,Int.reduceAdd,Int.reduceBEq,String.reduceBEq,reduceCtorEq,zE,↓reduceIte])
      | ((with_reducible refine brM (fun ya=>?_) (fun yr ya=>?_))
         · rw[ya];rfl
         try simp -implicitDefEqProofs only [yc.o, *,dn,sq,lp,dS,dB,dI,dU,vd,cd,setA,setB,setC,Nat.reduceEqDiff,Nat.reduceAdd,Nat.reduceLeDiff,Nat.reduceLT,Nat.reduceMul,Nat.reduceBEq,Nat.reduceSub,Nat.reducePow,Int.reduceEq,Int.reduceLE,Int.reduceLT,Int.reduceToNat,Int.reduceNegSucc,Int.reduceAdd,Int.reduceBEq,String.reduceBEq,reduceCtorEq,zE,↓reduceIte])
      | (apply lf
         (with_reducible first | apply yk.o | apply yk.o.1 | apply yk.o.2 | apply yk.o.2.1 | apply yk.o.2.2 | apply yk.o.2.2.1 | apply yk.o.2.2.2 | apply yk.o.2.2.2.1 | apply yk.o.2.2.2.2 | apply yk.o.2.2.2.2.1 | apply yk.o.2.2.2.2.2 | apply yk.o.2.2.2.2.2.1 | apply yk.o.2.2.2.2.2.2 | apply yk.o.2.2.2.2.2.2.1 | apply yk.o.2.2.2.2.2.2.2 | apply yk.o.2.2.2.2.2.2.2.1 | apply yk.o.2.2.2.2.2.2.2.2)
         all_goals try exact rfl
         all_goals first | exact rfl | assumption)
      | (with_reducible refine mi ?_)
      | ((cases yr with | inl yr=>?_ | inr yr=>?_)
         all_goals try simp -implicitDefEqProofs only [yc.o, *,dn,sq,lp,dS,dB,dI,dU,vd,cd,setA,setB,setC,Nat.reduceEqDiff,Nat.reduceAdd,Nat.reduceLeDiff,Nat.reduceLT,Nat.reduceMul,Nat.reduceBEq,Nat.reduceSub,Nat.reducePow,Int.reduceEq,Int.reduceLE,Int.reduceLT,Int.reduceToNat,Int.reduceNegSucc,Int.reduceAdd,Int.reduceBEq,String.reduceBEq,reduceCtorEq,zE,↓reduceIte])
      | rfl
      | (rw[if_neg (by omega)];rfl)):p:=h ⟨c⟩ ⟨t⟩
end Go.Ab
end
section
set_option linter.unusedVariables false
set_option linter.unusedSimpArgs false
namespace Go.Ab
open Go
def enQ(kvs:List (Bs×Int)):List (Value×V1):=kvs.map fun p=>(.string (S p.1),.c (.d (.sc (.int .i64 p.2))))
def hasQ(k:Bs)(kvs:List (Bs×Int)):Bool:=kvs.any fun p=>p.1==k
def getQ(k:Bs)(kvs:List (Bs×Int)):Int:=((kvs.find? fun p=>p.1==k).map (·.2)).getD 0
def gQ(k:Bs)(kvs:List (Bs×Int)):Option V1:=(kvs.find? fun p=>p.1==k).map fun p=>.c (.d (.sc (.int .i64 p.2)))
def setQ(k:Bs)(x:Int):List (Bs×Int)→List (Bs×Int)
  | []=>[(k,x)]
  | p::l=>if k==p.1 then (k,x)::l else p::setQ k x l
theorem enQ_find(k:Bs)(kvs:List (Bs×Int)):findK (.string (S k)) (enQ kvs)=some (gQ k kvs):=by
  induction kvs with
  | nil=>rfl
  | cons p kvs ih =>
    have e:enQ (p::kvs)=(.string (S p.1),.c (.d (.sc (.int .i64 p.2))))::enQ kvs:=rfl
    rw[e]
    simp only[findK,sameK,S_beq]
    by_cases h:p.1=k
    · subst h;simp[gQ]
    · have h1:(k==p.1)=false:=beq_eq_false_iff_ne.2 (fun e=>h e.symm)
      have h2:(p.1==k)=false:=beq_eq_false_iff_ne.2 h
      rw[h1]
      simp only[ih,gQ,List.find?_cons,h2]
theorem gQ_d(k:Bs)(kvs:List (Bs×Int)):(gQ k kvs).getD (.c (.d (.sc (.int .i64 0))))=.c (.d (.sc (.int .i64 (getQ k kvs)))):=by
  unfold gQ getQ
  cases kvs.find? fun p=>p.1==k<;>rfl
theorem gQ_s(k:Bs)(kvs:List (Bs×Int)):(gQ k kvs).isSome=hasQ k kvs:=by
  unfold gQ hasQ
  rw[Option.isSome_map,any_find]
theorem enQ_put(k:Bs)(x:Int)(kvs:List (Bs×Int)):putK (.string (S k)) (.c (.d (.sc (.int .i64 x)))) (enQ kvs)=enQ (setQ k x kvs):=by
  induction kvs with
  | nil=>rfl
  | cons p kvs ih =>
    have e:enQ (p::kvs)=(.string (S p.1),.c (.d (.sc (.int .i64 p.2))))::enQ kvs:=rfl
    rw[e]
    simp only[putK,sameK,S_beq,setQ]
    cases h:(k==p.1) with
    | true=>simp[enQ]
    | false=>simp only[Option.some.injEq,Bool.false_eq_true,if_false,ih];rfl
theorem enQ_put0(k:Bs)(x:Int):putK (.string (S k)) (.c (.d (.sc (.int .i64 x)))) []=enQ (setQ k x []):=rfl
theorem enQ_refs(kvs:List (Bs×Int)):((enQ kvs).flatMap fun e=>e.2.refs)=[]:=by
  induction kvs with
  | nil=>rfl
  | cons p kvs ih=>simpa [enQ,V1.refs,V1.cells,C.refs] using ih
theorem enQ_refs2(kvs:List (Bs×Int)):((enQ kvs).flatMap fun e=>e.2.cells.flatMap C.refs)=[]:=enQ_refs kvs
theorem enQ_ren(τ:Nat→Option Nat)(kvs:List (Bs×Int)):((enQ kvs).mapM fun (e:Value×V1)=>(e.2.ren τ).map fun x=>(e.1,x))=some (enQ kvs):=by
  induction kvs with
  | nil=>rfl
  | cons p kvs ih =>
    have e:enQ (p::kvs)=(.string (S p.1),.c (.d (.sc (.int .i64 p.2))))::enQ kvs:=rfl
    rw[e,List.mapM_cons,ih]
    rfl
theorem enQ_ro(kvs:List (Bs×Int)):((enQ kvs).map fun e=>(e.1,e.2.ro))=enQ kvs:=by
  induction kvs with
  | nil=>rfl
  | cons p kvs ih=>simp only[enQ,List.map_cons]at ih ⊢; rw[ih];rfl
theorem mkNw_t(es:List (List D)):mkNw true (.c (.d (.lst false es)))=.c (.nw es):=rfl
theorem nwOk_B(a:UInt8)(l:Bs):nwOk (enL enB (a::l))=true:=rfl
noncomputable def itB(G:X→Option (X ⊕ (Ex×St))):Option (X ⊕ (Ex×St))→Option (Ex×St)
  | some (.inl y)=>itW G y
  | some (.inr r)=>some r
  | none=>none
theorem itB_l(G:X→Option (X ⊕ (Ex×St)))(y:X):itB G (some (.inl y))=itW G y:=rfl
theorem itB_r(G:X→Option (X ⊕ (Ex×St)))(r:Ex×St):itB G (some (.inr r))=some r:=rfl
theorem itW_B(G:X→Option (X ⊕ (Ex×St)))(x:X):itW G x=itB G (G x):=by
  rw[itW_eq]
  cases G x with
  | none=>rfl
  | some r=>cases r<;>rfl
end Go.Ab
end
section
set_option linter.unusedVariables false
set_option linter.unusedSimpArgs false
namespace Go.Ab
open Go
end Go.Ab
end
