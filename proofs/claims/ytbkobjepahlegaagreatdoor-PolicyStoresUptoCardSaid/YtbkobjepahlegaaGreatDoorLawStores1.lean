/- Plain laws of the functions. -/
import Derived.Test.YtbkobjepahlegaaGreatDoorEv8
import Derived.Test.YtbkobjepahlegaaGreatDoorFStores7
set_option linter.all false
section
set_option linter.all false
namespace Go.Ab
open Go
theorem w64m(x:Int):w64 x=(x+9223372036854775808) % 18446744073709551616 - 9223372036854775808:=by
  unfold w64
  have:=Int.emod_nonneg (x+9223372036854775808) (show (18446744073709551616:Int)≠0 by decide)
  simp[IntKind.wrap,IntKind.min,IntKind.max,IntKind.bits,IntKind.signed]<;>omega
theorem wu64m(x:Int):wu64 x=x % 18446744073709551616:=by
  unfold wu64
  simp[IntKind.wrap,IntKind.min,IntKind.max,IntKind.bits,IntKind.signed]<;>omega
theorem iter_post{σ β:Type}{f:σ→Option (σ ⊕ β)}(I:σ→Prop)(μ:σ→Nat)(Q:β→Prop)
    (h:∀ s,I s→(∃ t,f s=some (.inl t)∧I t∧μ t<μ s)∨(∃ r,f s=some (.inr r)∧Q r)) (s:σ) (hs:I s):∃ r,iter f s=some r∧Q r:=by
  have key:∀ n s,μ s<n→I s→∃ r,iter f s=some r∧Q r:=by
    intro n
    induction n with
    | zero=>intro s h0;omega
    | succ n ih =>
      intro s hn hs
      rcases h s hs with ⟨t,ht,hI,hm⟩ | ⟨r,hr,hq⟩
      · rw[iter_l ht];exact ih t (by omega) hI
      · exact ⟨r,iter_r hr,hq⟩
  exact key (μ s+1) s (by omega) hs
theorem iter_to{σ β:Type}{f:σ→Option (σ ⊕ β)}(I:σ→Prop)(μ:σ→Nat)(X:Option β)
    (h:∀ s,I s→(∃ t,f s=some (.inl t)∧I t∧μ t<μ s)∨f s=X.map .inr) (s:σ) (hs:I s):iter f s=X:=by
  have key:∀ n s,μ s<n→I s→iter f s=X:=by
    intro n
    induction n with
    | zero=>intro s h0;omega
    | succ n ih =>
      intro s hn hs
      rcases h s hs with ⟨t,ht,hI,hm⟩ | hr
      · rw[iter_l ht];exact ih t (by omega) hI
      · cases X with
        | none=>exact iter_n hr
        | some r=>exact iter_r hr
  exact key (μ s+1) s (by omega) hs
end Go.Ab
end
section
set_option linter.all false
open Go Go.Ab Go.Proofs Go.Proofs.YtbkobjepahlegaaGreatDoor
namespace Go.Ab
theorem byAll{P:UInt8→Prop}[DecidablePred P](h:((List.range 256).all fun n=>decide (P (UInt8.ofNat n)))=true)(c:UInt8):P c:=by
  have:=List.all_eq_true.1 h c.toNat (List.mem_range.2 c.toNat_lt)
  have e:=of_decide_eq_true this
  have:UInt8.ofNat c.toNat=c:=by simp
  rwa [this]at e
theorem drop_cons{l:Bs}{i:Nat}(h:i<l.length):l.drop i=l.getD i 0::l.drop (i+1):=by
  rw[List.drop_eq_getElem_cons h,List.getD_eq_getElem?_getD,List.getElem?_eq_getElem h,Option.getD_some]
theorem iter_g{σ β:Type}{f:σ→Option (σ ⊕ β)}(I:σ→Prop)(μ:σ→Nat)(g:σ→Option β)
    (h:∀ s,I s→(∃ t,f s=some (.inl t)∧I t∧μ t<μ s∧g t=g s)∨f s=(g s).map .inr) (s:σ) (hs:I s):iter f s=g s:=by
  refine iter_to (fun t=>I t∧g t=g s) μ (g s) ?_ s ⟨hs,rfl⟩
  rintro t ⟨ht,e⟩
  rcases h t ht with ⟨u,h1,h2,h3,h4⟩ | h1
  · exact .inl ⟨u,h1,⟨h2,h4.trans e⟩,h3⟩
  · exact .inr (by rw[h1,e])
def signsL:Bs:=[33,35,36,37,38,39,42,43,45,46,94,95,96,124,126]
def tokB(c:UInt8):Bool:=decide (97≤c∧c≤122)||decide (65≤c∧c≤90)||decide (48≤c∧c≤57)||signsL.contains c
def shB(c:UInt8):Bool:=c==9||(decide (32≤c) && !(c==127))
def lowB(c:UInt8):UInt8:=if 65≤c∧c≤90 then c+32 else c
def tokL(s:Bs):Bool := !s.isEmpty&&s.all tokB
def lowL(s:Bs):Bs:=s.map lowB
theorem L0s:∀ c,T0d c=some (tokB c):=byAll (by decide +kernel)
theorem L0L:∀ c,T0n c=some (shB c):=byAll (by decide +kernel)
theorem L0H:∀ c,T0l c=some (shB c):=byAll (by decide +kernel)
theorem A0P(z:Bool)(s:Bs)(hs:s.length<2 ^ 60):∃ r,x0m z s=some r∧decide (0≤r)=s.any (fun c => !tokB c):=by
  unfold x0m m0M
  refine iter_post (fun (x:Bool×List UInt8×Int×Int)=>x.2.1=s∧x.2.2.1=s.length∧0≤x.2.2.2∧x.2.2.2≤s.length∧(s.drop x.2.2.2.toNat).any (fun c => !tokB c)=s.any (fun c => !tokB c)) (fun (x:Bool×List UInt8×Int×Int)=>((s.length:Int) - x.2.2.2).toNat) _ ?_ _ ⟨rfl,rfl,by dsimp only;omega,by dsimp only;omega,rfl⟩
  rintro ⟨z,s',n,i⟩ hI
  dsimp only at hI ⊢
  obtain ⟨rfl,rfl,h0,h1,h2⟩:=hI
  unfold j0m T0i
  by_cases c:i<s'.length
  · have hd:=drop_cons (l:=s') (i:=i.toNat) (by omega)
    rw[hd]at h2
    rw[if_pos (by simpa using c),if_pos ⟨h0,c⟩,show s'.getD i.toNat default=s'.getD i.toNat 0 from rfl,L0s]
    simp only[Option.bind_some]
    cases e:tokB (s'.getD i.toNat 0)
    · right
      refine ⟨i,by simp,?_⟩
      rw[← h2,List.any_cons,e]
      simp[h0]
    · left
      rw[List.any_cons,e]at h2
      refine ⟨(z,s',s'.length,i+1),by simp[w64_eq (i+1) (by omega) (by omega)],⟨rfl,rfl,by dsimp only;omega,by dsimp only;omega,?_⟩,by dsimp only;omega⟩
      dsimp only
      rw[show (i+1).toNat=i.toNat+1 by omega,← h2]
      simp
  · right
    refine ⟨-1,by rw[if_neg (by simpa using c)];rfl,?_⟩
    rw[← h2,List.drop_eq_nil_of_le (by omega)]
    rfl
theorem any_not(s:Bs)(p:UInt8→Bool):(!(s.any fun c => !p c))=s.all p:=by
  induction s with
  | nil=>rfl
  | cons c s ih=>simp[List.any_cons,List.all_cons,← ih]
theorem p0v(s:Bs)(hs:s.length<2 ^ 60):m69 s=some (tokL s):=by
  unfold m69 T0c B0k tokL
  obtain ⟨r,h1,h2⟩:=A0P false s hs
  rw[h1]
  cases s with
  | nil=>rfl
  | cons c s =>
    rw[if_neg (by simp)]
    simp only[Option.bind_some,h2,any_not]
    rfl
theorem q0w{s:Bs}{i:Int}{c:UInt8}{b:Bool}:j0d s signsL i c b 0=b0U s signsL i (b||signsL.contains c):=by
  unfold j0d
  refine (iter_g (fun (x:Bs×Bs×Int×UInt8×Bool×Int)=>x.1=s∧x.2.1=signsL∧x.2.2.1=i∧x.2.2.2.1=c∧0≤x.2.2.2.2.2∧x.2.2.2.2.2≤15) (fun (x:Bs×Bs×Int×UInt8×Bool×Int)=>(15 - x.2.2.2.2.2).toNat) (fun (x:Bs×Bs×Int×UInt8×Bool×Int)=>b0U s signsL i (x.2.2.2.2.1||(signsL.drop x.2.2.2.2.2.toNat).contains c)) ?_ _ ⟨rfl,rfl,rfl,rfl,by dsimp only;omega,by dsimp only;omega⟩).trans rfl
  rintro ⟨s',sg,i',c',b',k⟩ hI
  dsimp only at hI ⊢
  obtain ⟨rfl,rfl,rfl,rfl,h0,h1⟩:=hI
  unfold j0j f0C
  have hl:(signsL.length:Int)=15:=rfl
  by_cases d:k<15
  · left
    have hd:=drop_cons (l:=signsL) (i:=k.toNat) (by have:signsL.length=15:=rfl;omega)
    rw[hl,if_pos (by simpa using d)]
    rw[w64_eq (k+1) (by omega) (by omega)]
    cases b'
    · rw[if_neg (by decide),if_pos ⟨h0,d⟩]
      refine ⟨_,rfl,⟨rfl,rfl,rfl,rfl,by dsimp only;omega,by dsimp only;omega⟩,by dsimp only;omega,?_⟩
      dsimp only
      rw[hd,List.contains_cons,show (k+1).toNat=k.toNat+1 by omega,Bool.false_or,Bool.beq_comm (a:=c')]
    · rw[if_pos rfl]
      refine ⟨_,rfl,⟨rfl,rfl,rfl,rfl,by dsimp only;omega,by dsimp only;omega⟩,by dsimp only;omega,?_⟩
      simp
  · right
    rw[hl,if_neg (by simpa using d),List.drop_eq_nil_of_le (by have:signsL.length=15:=rfl;omega)]
    simp
theorem L0S{s:Bs}{i:Int}(h0:0≤i)(h1:i<s.length)(hs:s.length<2 ^ 60):g0e s signsL i=if tokB (s.getD i.toNat 0)=true then some (.inl (s,signsL,i+1)) else some (.inr false):=by
  have key:g0e s signsL i=b0U s signsL i (tokB (s.getD i.toNat 0)):=by
    unfold g0e a0l
    rw[if_pos (by simpa using h1),if_pos ⟨h0,h1⟩]
    simp only[q0w]
    generalize s.getD i.toNat 0=c
    unfold tokB
    by_cases a1:(97:UInt8)≤c<;>by_cases a2:c≤(122:UInt8)<;>by_cases a3:(65:UInt8)≤c<;>by_cases a4:c≤(90:UInt8)<;>by_cases a5:(48:UInt8)≤c<;>by_cases a6:c≤(57:UInt8)<;>simp[a1,a2,a3,a4,a5,a6]
  rw[key]
  unfold b0U
  rw[w64_eq (i+1) (by omega) (by omega)]
theorem x0f(s:Bs)(hs:s.length<2 ^ 60):M0n s=some (tokL s):=by
  unfold M0n
  rw[show ([33,35,36,37,38,39,42,43,45,46,94,95,96,124,126]:Bs)=signsL from rfl]
  unfold w0F
  refine (iter_g (fun (x:Bs×Bs×Int)=>x.1=s∧x.2.1=signsL∧0≤x.2.2∧x.2.2≤s.length) (fun (x:Bs×Bs×Int)=>((s.length:Int) - x.2.2).toNat) (fun (x:Bs×Bs×Int)=>some (!s.isEmpty&&(s.drop x.2.2.toNat).all tokB)) ?_ (s,signsL,0) ⟨rfl,rfl,by dsimp only;omega,by dsimp only;omega⟩).trans (by simp[tokL])
  rintro ⟨s',sg,i⟩ hI
  dsimp only at hI ⊢
  obtain ⟨rfl,rfl,h0,h1⟩:=hI
  by_cases c:i<s'.length
  · have hd:=drop_cons (l:=s') (i:=i.toNat) (by omega)
    have hne:s'.isEmpty=false:=by cases s';simp at c;omega;rfl
    rw[L0S h0 c hs,hd,List.all_cons]
    cases e:tokB (s'.getD i.toNat 0)
    · right;simp[hne]
    · left
      exact ⟨(s',signsL,i+1),by simp,⟨rfl,rfl,by dsimp only;omega,by dsimp only;omega⟩,by dsimp only;omega,by dsimp only;rw[show (i+1).toNat=i.toNat+1 by omega];simp⟩
  · right
    unfold g0e i0I
    rw[if_neg (by simpa using c),List.drop_eq_nil_of_le (by omega)]
    cases s'<;>simp<;>omega
theorem low_add(c:UInt8)(h:65≤c∧c≤90):c+97 - 65=c+32:=by
  have:∀ c:UInt8,c+97 - 65=c+32:=byAll (by decide +kernel)
  exact this c
theorem set_take{l:Bs}{i:Nat}(h:i<l.length)(x:UInt8):(l.set i x).take (i+1)=l.take i++[x]:=by
  rw[List.take_succ_eq_append_getElem (by simpa using h),List.take_set,List.set_eq_of_length_le (by simp;omega)]
  simp
theorem f0Y(s:Bs)(hs:s.length<2 ^ 60):m63 s=some (lowL s):=by
  unfold m63 L0d
  refine (iter_g (fun (x:Nat×Nat×Int×Int×List UInt8)=>x.1=s.length∧x.2.1=s.length∧x.2.2.1=s.length∧0≤x.2.2.2.1∧x.2.2.2.1≤s.length∧x.2.2.2.2.length=s.length) (fun (x:Nat×Nat×Int×Int×List UInt8)=>((s.length:Int) - x.2.2.2.1).toNat) (fun (x:Nat×Nat×Int×Int×List UInt8)=>some (x.2.2.2.2.take x.2.2.2.1.toNat++lowL (x.2.2.2.2.drop x.2.2.2.1.toNat))) ?_ (s.length,s.length,s.length,0,s) ⟨rfl,rfl,rfl,by dsimp only;omega,by dsimp only;omega,rfl⟩).trans (by simp)
  rintro ⟨b,t,n,i,h⟩ hI
  dsimp only at hI ⊢
  obtain ⟨rfl,rfl,rfl,h0,h1,h2⟩:=hI
  unfold B0N
  by_cases c:i<s.length
  · left
    have hd:=drop_cons (l:=h) (i:=i.toNat) (by omega)
    have key:h0y s.length i (h.getD i.toNat 0) s.length s.length i (decide (65≤h.getD i.toNat 0)&&decide (h.getD i.toNat 0≤90)) h=some (.inl (s.length,s.length,s.length,i+1,h.set i.toNat (lowB (h.getD i.toNat 0)))):=by
      unfold h0y k0Z lowB
      rw[w64_eq (i+1) (by omega) (by omega)]
      by_cases hc:65≤h.getD i.toNat 0∧h.getD i.toNat 0≤90
      · rw[if_pos (by simpa using hc),if_pos ⟨h0,c⟩,if_pos (by omega),if_pos hc,low_add _ hc]
      · rw[if_neg (by simpa using hc),if_neg hc]
        have:h.set i.toNat (h.getD i.toNat 0)=h:=by
          apply List.ext_getElem?
          intro j
          rw[List.getElem?_set]
          split
          · rename_i e;subst e
            rw[if_pos (by omega),List.getD_eq_getElem?_getD,List.getElem?_eq_getElem (by omega)]
            rfl
          · rfl
        rw[this]
    refine ⟨(s.length,s.length,s.length,i+1,h.set i.toNat (lowB (h.getD i.toNat 0))),?_,⟨rfl,rfl,rfl,by dsimp only;omega,by dsimp only;omega,by simpa using h2⟩,by dsimp only;omega,?_⟩
    · rw[if_pos (by simpa using c),if_pos ⟨h0,c⟩,if_pos (by omega)]
      by_cases a:65≤h.getD i.toNat 0
      · simp only[a,decide_true,if_true,Bool.true_and]at key ⊢
        exact key
      · simp only[a,decide_false,Bool.false_eq_true,if_false,Bool.false_and]at key ⊢
        exact key
    · dsimp only
      rw[show (i+1).toNat=i.toNat+1 by omega,set_take (by omega),hd,List.drop_set_of_lt (by omega)]
      simp[lowL]
  · right
    have e:i.toNat=h.length:=by omega
    unfold p0c
    rw[if_neg (by simpa using c),if_pos (by omega),e,List.take_length,List.drop_length,← h2,List.take_length]
    simp[lowL]
theorem b0b(s:Bs)(hs:s.length<2 ^ 47):m51 s=some (lowL s):=by
  unfold m51 K0Z
  refine (iter_g (fun (x:Bs×Bool×List UInt8×Int)=>x.1=s∧0≤x.2.2.2∧x.2.2.2≤s.length∧x.2.2.1.length=x.2.2.2.toNat) (fun (x:Bs×Bool×List UInt8×Int)=>((s.length:Int) - x.2.2.2).toNat) (fun (x:Bs×Bool×List UInt8×Int)=>some (x.2.2.1++lowL (s.drop x.2.2.2.toNat))) ?_ (s,true,[],0) ⟨rfl,by dsimp only;omega,by dsimp only;omega,rfl⟩).trans (by simp)
  rintro ⟨s',z,b,i⟩ hI
  dsimp only at hI ⊢
  obtain ⟨rfl,h0,h1,h2⟩:=hI
  unfold B0L
  by_cases c:i<s'.length
  · left
    have hd:=drop_cons (l:=s') (i:=i.toNat) (by omega)
    have key:h0v s' z b i (decide (65≤s'.getD i.toNat 0)&&decide (s'.getD i.toNat 0≤90))=some (.inl (s',false,b++[lowB (s'.getD i.toNat 0)],i+1)):=by
      unfold h0v k0Y lowB
      rw[w64_eq (i+1) (by omega) (by omega)]
      by_cases hc:65≤s'.getD i.toNat 0∧s'.getD i.toNat 0≤90
      · rw[if_pos (by simpa using hc),if_pos ⟨h0,c⟩,if_pos (by omega),if_pos hc]
      · rw[if_neg (by simpa using hc),if_pos ⟨h0,c⟩,if_pos (by omega),if_neg hc]
    refine ⟨(s',false,b++[lowB (s'.getD i.toNat 0)],i+1),?_,⟨rfl,by dsimp only;omega,by dsimp only;omega,by simp;omega⟩,by dsimp only;omega,?_⟩
    · rw[if_pos (by simpa using c),if_pos ⟨h0,c⟩]
      by_cases a:65≤s'.getD i.toNat 0
      · simp only[a,decide_true,if_true,Bool.true_and]at key ⊢
        exact key
      · simp only[a,decide_false,Bool.false_eq_true,if_false,Bool.false_and]at key ⊢
        exact key
    · dsimp only
      rw[show (i+1).toNat=i.toNat+1 by omega,hd]
      simp[lowL]
  · right
    unfold o0W
    rw[if_neg (by simpa using c),List.drop_eq_nil_of_le (by omega)]
    simp[lowL]
end Go.Ab
end
section
set_option linter.all false
open Go Go.Ab Go.Proofs Go.Proofs.YtbkobjepahlegaaGreatDoor
namespace Go.Ab
def blB(c:UInt8):Bool:=c==32||c==9
def trimL(s:Bs):Bs:=Lib.trimS s [32,9]
theorem L0r(s:Bs)(hs:s.length<2 ^ 60):R0X s=some (trimL s):=by
  unfold R0X mTrim
  rw[if_pos ⟨by omega,by decide,by decide⟩]
  rfl
theorem con_bl:∀ c:UInt8,([32,9]:Bs).contains c=blB c:=byAll (by decide +kernel)
theorem trimL_cut{s:Bs}{a b:Nat}(hab:a<b)(hb:b≤s.length)(h1:∀ j,j<a→blB (s.getD j 0)=true)(h2:blB (s.getD a 0)=false)(h3:∀ j,b≤j→j<s.length→blB (s.getD j 0)=true)(h4:blB (s.getD (b - 1) 0)=false):
    trimL s=(s.take b).drop a:=by
  unfold trimL Lib.trimS
  have g:∀ (j:Nat) x,s[j]? = some x→s.getD j 0=x:=fun j x h=>by rw[List.getD_eq_getElem?_getD,h];rfl
  rw[Lib.trimRightS_take s [32,9] b hb (fun j x hj hx=>by
    have hl:=(List.getElem?_eq_some_iff.1 hx).1
    have:=h3 j hj hl
    rw[g _ _ hx]at this
    rw[con_bl];exact this) (fun x _ hx=>by rw[con_bl,← g _ _ hx];exact h4)]
  rw[Lib.trimLeftS_drop (s.take b) [32,9] a (by simp;omega) (fun j x hj hx=>by
    rw[List.getElem?_take]at hx
    split at hx
    · have:=h1 j hj
      rw[g _ _ hx]at this
      rw[con_bl];exact this
    · cases hx) (fun x hx=>by
    have hx':s[a]? = some x:=by rw[List.getElem?_take,if_pos hab]at hx;exact hx
    rw[con_bl,← g _ _ hx'];exact h2)]
theorem trimL_nil{s:Bs}(h1:∀ j,j<s.length→blB (s.getD j 0)=true):trimL s=[]:=by
  unfold trimL Lib.trimS
  have g:∀ (j:Nat) x,s[j]? = some x→s.getD j 0=x:=fun j x h=>by rw[List.getD_eq_getElem?_getD,h];rfl
  rw[Lib.trimRightS_take s [32,9] 0 (by omega) (fun j x hj hx=>by
    have hl:=(List.getElem?_eq_some_iff.1 hx).1
    have:=h1 j hl
    rw[g _ _ hx]at this
    rw[con_bl];exact this) (fun x h _=>by omega)]
  rfl
theorem trim_same:∀ c:UInt8,(if (c==32)=true then true else (c==9))=blB c:=byAll (by decide +kernel)
theorem L0A(s:Bs)(hs:s.length<2 ^ 60):S0c s=some (trimL s):=by
  unfold S0c w0J
  refine iter_to (fun (x:Bs×Int×Int)=>x.1=s∧x.2.2=s.length∧0≤x.2.1∧x.2.1≤s.length∧∀ j,j<x.2.1.toNat→blB (s.getD j 0)=true) (fun (x:Bs×Int×Int)=>((s.length:Int) - x.2.1).toNat) _ ?_ _ ⟨rfl,rfl,by dsimp only;omega,by dsimp only;omega,by dsimp only;intro j hj;omega⟩
  rintro ⟨s',f,n⟩ hI
  dsimp only at hI ⊢
  obtain ⟨rfl,rfl,h0,h1,h2⟩:=hI
  have key:l0n s' f s'.length=if f<s'.length then a0Y s' f s'.length (blB (s'.getD f.toNat 0)) else a0Y s' f s'.length false:=by
    unfold l0n
    by_cases c:f<s'.length
    · rw[if_pos (by simpa using c),if_pos ⟨h0,c⟩,if_pos c,← trim_same]
      split<;>rfl
    · rw[if_neg (by simpa using c),if_neg c]
  rw[key]
  unfold a0Y
  by_cases c:f<s'.length
  · rw[if_pos c]
    by_cases b:blB (s'.getD f.toNat 0)=true
    · left
      refine ⟨(s',f+1,s'.length),by rw[if_pos b,w64_eq (f+1) (by omega) (by omega)],⟨rfl,rfl,by dsimp only;omega,by dsimp only;omega,?_⟩,by dsimp only;omega⟩
      dsimp only
      intro j hj
      by_cases e:j=f.toNat
      · rw[e];exact b
      · exact h2 j (by omega)
    · right
      rw[if_neg b]
      have hb:blB (s'.getD f.toNat 0)=false:=by simpa using b
      congr 1
      unfold f0G j0e
      refine iter_to (fun (x:Bs×Int×Int)=>x.1=s'∧x.2.1=f∧f<x.2.2∧x.2.2≤s'.length∧∀ j,x.2.2.toNat≤j→j<s'.length→blB (s'.getD j 0)=true) (fun (x:Bs×Int×Int)=>x.2.2.toNat) _ ?_ _ ⟨rfl,rfl,c,by dsimp only;omega,by dsimp only;intro j hj hj2;omega⟩
      rintro ⟨s2,f2,t⟩ hI
      dsimp only at hI ⊢
      obtain ⟨rfl,rfl,g0,g1,g2⟩:=hI
      have key2:d0z s2 f2 t=a0Z s2 f2 t (blB (s2.getD (t - 1).toNat 0)):=by
        unfold d0z
        rw[if_pos (by simpa using g0),w64_eq (t - 1) (by omega) (by omega),if_pos ⟨by omega,by omega⟩,← trim_same]
        split<;>rfl
      rw[key2]
      unfold a0Z
      by_cases d:blB (s2.getD (t - 1).toNat 0)=true
      · left
        have hne:t - 1≠f2:=fun e=>by rw[e,hb]at d;cases d
        refine ⟨(s2,f2,t - 1),by rw[if_pos d,w64_eq (t - 1) (by omega) (by omega)],⟨rfl,rfl,by dsimp only;omega,by dsimp only;omega,?_⟩,by dsimp only;omega⟩
        dsimp only
        intro j hj hj2
        by_cases e:j=(t - 1).toNat
        · rw[e];exact d
        · exact g2 j (by omega) hj2
      · right
        rw[if_neg d]
        have hd:blB (s2.getD (t - 1).toNat 0)=false:=by simpa using d
        congr 1
        unfold f0H
        have e1:bnd t s2.length=some t.toNat:=by unfold bnd;rw[if_pos ⟨by omega,g1⟩]
        have e2:bnd f2 t.toNat=some f2.toNat:=by unfold bnd;rw[if_pos ⟨h0,by omega⟩]
        rw[e1,Option.bind_some,e2,Option.bind_some,trimL_cut (a:=f2.toNat) (b:=t.toNat) (by omega) (by omega) h2 hb g2 (by rw[show t.toNat - 1=(t - 1).toNat by omega];exact hd)]
  · right
    rw[if_neg c,if_neg (by decide)]
    have e:f=s'.length:=by omega
    congr 1
    rw[trimL_nil (fun j hj=>h2 j (by omega))]
    subst e
    unfold f0G j0e
    rw[iter_r (r:=[])]
    unfold d0z a0Z f0H
    dsimp only
    rw[if_neg (by simp),if_neg (by decide),bnd_self]
    simp only[Option.bind_some,bnd_self]
    simp
theorem x0d{s:Bs}{a b:Nat}(hb:b≤s.length)(hab:a≤b)(hs:s.length<2 ^ 60)(z:Bool)(l:List Bs)(hl:l.length<2 ^ 40):
    ∃ z',M0l b s a z l=some (s,(b:Int)+1,z',if trimL ((s.take b).drop a)=[] then l else l++[trimL ((s.take b).drop a)]):=by
  unfold M0l k0L
  rw[bnd_ok hb,Option.bind_some,bnd_ok hab,Option.bind_some,L0r _ (by simp;omega),Option.bind_some,w64_eq _ (by omega) (by omega)]
  by_cases c:trimL ((s.take b).drop a)=[]
  · exact ⟨z,by rw[if_pos (by simpa using c),if_pos c]⟩
  · exact ⟨false,by rw[if_neg (by simpa using c),if_pos (by omega),if_neg c]⟩
theorem rune_lo{l:Bs}{p:Nat}(h:p<l.length)(hl:(l.getD p 0).toNat<128):uc l p=(l.getD p 0).toNat∧uw l p=1:=by
  unfold uc uw
  rw[Lib.decode_at,S_get!]
  simp only[Lib.decodeN,hl,if_true,and_self]
theorem rune_hi{l:Bs}{p:Nat}(h:p<l.length)(hl:128≤(l.getD p 0).toNat):128≤uc l p∧1≤uw l p∧p+uw l p≤l.length∧∀ j,j<uw l p→128≤(l.getD (p+j) 0).toNat:=by
  unfold uc uw
  rw[Lib.decode_at,S_get!,S_get!,S_get!,S_get!,S_size]
  have hn:¬ (l.getD p 0).toNat<128:=by omega
  generalize hb0:(l.getD p 0).toNat=b0 at *
  generalize hb1:(l.getD (p+1) 0).toNat=b1 at *
  generalize hb2:(l.getD (p+2) 0).toNat=b2 at *
  generalize hb3:(l.getD (p+3) 0).toNat=b3 at *
  have z0:∀ j,j<1→128≤(l.getD (p+j) 0).toNat:=fun j hj=>by
    have:j=0:=by omega
    subst this;simp only[Nat.add_zero];omega
  unfold Lib.decodeN
  rw[if_neg hn]
  split
  · rename_i g
    split
    · refine ⟨by dsimp only;omega,by dsimp only;omega,by dsimp only;omega,fun j hj=>?_⟩
      have:j=0∨j=1:=by dsimp only at hj;omega
      rcases this with rfl | rfl
      · exact z0 0 (by omega)
      · omega
    · exact ⟨by decide,by decide,by dsimp only;omega,z0⟩
  · split
    · rename_i g
      split
      · refine ⟨by dsimp only;omega,by dsimp only;omega,by dsimp only;omega,fun j hj=>?_⟩
        have:j=0∨j=1∨j=2:=by dsimp only at hj;omega
        rcases this with rfl | rfl | rfl
        · exact z0 0 (by omega)
        · omega
        · omega
      · exact ⟨by decide,by decide,by dsimp only;omega,z0⟩
    · split
      · rename_i g
        split
        · refine ⟨by dsimp only;omega,by dsimp only;omega,by dsimp only;omega,fun j hj=>?_⟩
          have:j=0∨j=1∨j=2∨j=3:=by dsimp only at hj;omega
          rcases this with rfl | rfl | rfl | rfl
          · exact z0 0 (by omega)
          · omega
          · omega
          · omega
        · exact ⟨by decide,by decide,by dsimp only;omega,z0⟩
      · exact ⟨by decide,by decide,by dsimp only;omega,z0⟩
def split(q m:Bool)(cur:Bs):Bs→List Bs
  | []=>[cur]
  | c::s =>
    if m=true then split q false (cur++[c]) s
    else if q=true∧c=92 then split q true (cur++[c]) s
    else if c=34 then split (!q) false (cur++[c]) s
    else if c=44∧q=false then cur::split false false [] s
    else split q false (cur++[c]) s
def fl(l:List Bs):List Bs:=(l.map trimL).filter fun x => !x.isEmpty
def listL(s:Bs):List Bs:=fl (split false false [] s)
theorem fl_cons(x:Bs)(l:List Bs):fl (x::l)=(if trimL x=[] then [] else [trimL x])++fl l:=by
  unfold fl
  rw[List.map_cons,List.filter_cons]
  cases h:trimL x with
  | nil=>simp
  | cons a t=>simp
theorem split_plain{q m:Bool}{cur s:Bs}{c:UInt8}(h:c≠92∧c≠34∧c≠44):split q m cur (c::s)=split q false (cur++[c]) s:=by
  rw[split]
  cases m
  · rw[if_neg (by decide),if_neg (fun g=>h.1 g.2),if_neg h.2.1,if_neg (fun g=>h.2.2 g.1)]
  · rw[if_pos rfl]
theorem split_hi(q:Bool):∀ (n:Nat) (s:Bs) (cur:Bs),n≤s.length→(∀ j,j<n→128≤(s.getD j 0).toNat)→split q false cur s=split q false (cur++s.take n) (s.drop n):=by
  intro n
  induction n with
  | zero=>intro s cur _ _;simp
  | succ n ih =>
    intro s cur hn h
    cases s with
    | nil=>simp at hn
    | cons c s =>
      have h0:=h 0 (by omega)
      simp only[List.getD_cons_zero]at h0
      have hc:c≠92∧c≠34∧c≠44:=⟨fun e=>by subst e;exact absurd h0 (by decide),fun e=>by subst e;exact absurd h0 (by decide),fun e=>by subst e;exact absurd h0 (by decide)⟩
      rw[split_plain hc,ih s _ (by simpa using hn) (fun j hj=>by have:=h (j+1) (by omega);simpa using this)]
      simp
theorem split_hi'(q m:Bool){n:Nat}{s:Bs}{cur:Bs}(h1:1≤n)(hn:n≤s.length)(h:∀ j,j<n→128≤(s.getD j 0).toNat):split q m cur s=split q false (cur++s.take n) (s.drop n):=by
  cases s with
  | nil=>simp at hn;omega
  | cons c s =>
    obtain ⟨n,rfl⟩:∃ k,n=k+1:=⟨n - 1,by omega⟩
    have h0:=h 0 (by omega)
    simp only[List.getD_cons_zero]at h0
    have hc:c≠92∧c≠34∧c≠44:=⟨fun e=>by subst e;exact absurd h0 (by decide),fun e=>by subst e;exact absurd h0 (by decide),fun e=>by subst e;exact absurd h0 (by decide)⟩
    rw[split_plain hc,split_hi q n s _ (by simpa using hn) (fun j hj=>by have:=h (j+1) (by omega);simpa using this)]
    simp
theorem take_drop_step{s:Bs}{f p n:Nat}(hf:f≤p)(hn:p+n≤s.length):(s.take p).drop f++(s.drop p).take n=(s.take (p+n)).drop f:=by
  rw[List.take_add,List.drop_append_of_le_length (by simp;omega)]
def restL(s:Bs)(q m:Bool)(f p:Nat):List Bs:=fl (split q m ((s.take p).drop f) (s.drop p))
theorem rest_end{s:Bs}{q m:Bool}{f:Nat}:restL s q m f s.length=if trimL (s.drop f)=[] then [] else [trimL (s.drop f)]:=by
  unfold restL
  rw[List.drop_length,List.take_length]
  show fl [_]=_
  rw[fl_cons]
  simp[fl]
theorem cur_snoc{s:Bs}{f p:Nat}(hf:f≤p)(hp:p<s.length):(s.take p).drop f++[s.getD p 0]=(s.take (p+1)).drop f:=by
  have:=take_drop_step (s:=s) (n:=1) hf (by omega)
  rw[← this,drop_cons hp]
  simp
theorem rest_step{s:Bs}{q m:Bool}{f p:Nat}(hf:f≤p)(hp:p<s.length):restL s q m f p =
    if m=true then restL s q false f (p+1)
    else if q=true∧s.getD p 0=92 then restL s q true f (p+1)
    else if s.getD p 0=34 then restL s (!q) false f (p+1)
    else if s.getD p 0=44∧q=false then (if trimL ((s.take p).drop f)=[] then [] else [trimL ((s.take p).drop f)])++restL s false false (p+1) (p+1)
    else restL s q false f (p+1):=by
  unfold restL
  rw[drop_cons hp,split,cur_snoc hf hp]
  have e:(s.take (p+1)).drop (p+1)=[]:=List.drop_eq_nil_of_le (by simp;omega)
  rw[e]
  split
  · rfl
  · split
    · rfl
    · split
      · rfl
      · split
        · rw[fl_cons]
        · rfl
theorem rest_hi{s:Bs}{q m:Bool}{f p:Nat}(hf:f≤p)(hp:p<s.length)(hh:128≤(s.getD p 0).toNat):restL s q m f p=restL s q false f (p+uw s p):=by
  obtain ⟨h1,h2,h3,h4⟩:=rune_hi hp hh
  unfold restL
  rw[split_hi' q m h2 (n:=uw s p) (by simp;omega) (fun j hj=>by
    have:=h4 j hj
    rw[List.getD_eq_getElem?_getD]at this ⊢
    rw[List.getElem?_drop];exact this),take_drop_step hf h3,List.drop_drop]
theorem L0P(s:Bs)(hs:s.length<2 ^ 60)(hN:(listL s).length<2 ^ 40):∃ z,m68 s=some (z,listL s):=by
  have main:∃ r,m68 s=some r∧r.2=listL s:=by
    unfold m68 w0W
    refine iter_post (fun (x:Bool×Bool×Bs×Bool×List Bs×Int×Bs×Nat)=>x.2.2.1=s∧x.2.2.2.2.2.2.1=s∧x.2.2.2.2.2.2.2≤s.length∧∃ f:Nat,x.2.2.2.2.2.1=f∧f≤x.2.2.2.2.2.2.2∧(x.2.1=true→x.1=true)∧x.2.2.2.2.1++restL s x.1 x.2.1 f x.2.2.2.2.2.2.2=listL s)
      (fun (x:Bool×Bool×Bs×Bool×List Bs×Int×Bs×Nat)=>s.length - x.2.2.2.2.2.2.2) _ ?_ _ ⟨rfl,rfl,by dsimp only;omega,0,rfl,by dsimp only;omega,by simp,by dsimp only;unfold restL listL;simp⟩
    rintro ⟨q,m,s',z,l,f',s2,p⟩ hI
    dsimp only at hI ⊢
    obtain ⟨rfl,rfl,hp,f,rfl,hf,hqm,hr⟩:=hI
    have hlen:l.length<2 ^ 40:=by
      have:=congrArg List.length hr
      rw[List.length_append]at this;omega
    unfold p0y
    by_cases c:p<s2.length
    · left
      rw[if_pos (by simpa using c)]
      by_cases hh:128≤(s2.getD p 0).toNat
      · -- no sign
        obtain ⟨h1,h2,h3,h4⟩:=rune_hi c hh
        rw[rest_hi hf c hh]at hr
        have n34:((uc s2 p:Int)==34)=false:=by simp;omega
        have n44:((uc s2 p:Int)==44)=false:=by simp;omega
        have n92:((uc s2 p:Int)==92)=false:=by simp;omega
        refine ⟨(q,false,s2,z,l,f,s2,p+uw s2 p),?_,⟨rfl,rfl,by dsimp only;omega,f,rfl,by dsimp only;omega,by simp,hr⟩,by dsimp only;omega⟩
        unfold h0z h0A
        cases m<;>cases q<;>simp[n34,n44,n92]
      · obtain ⟨h1,h2⟩:=rune_lo c (by omega)
        rw[h1,h2]
        rw[rest_step hf c]at hr
        have e34:(((s2.getD p 0).toNat:Int)==34)=decide (s2.getD p 0=34):=by
          have:∀ c:UInt8,((c.toNat:Int)==34)=decide (c=34):=byAll (by decide +kernel)
          exact this _
        have e44:(((s2.getD p 0).toNat:Int)==44)=decide (s2.getD p 0=44):=by
          have:∀ c:UInt8,((c.toNat:Int)==44)=decide (c=44):=byAll (by decide +kernel)
          exact this _
        have e92:(((s2.getD p 0).toNat:Int)==92)=decide (s2.getD p 0=92):=by
          have:∀ c:UInt8,((c.toNat:Int)==92)=decide (c=92):=byAll (by decide +kernel)
          exact this _
        unfold h0z h0A
        rw[e34,e44,e92]
        generalize s2.getD p 0=b at *
        cases m with
        | true =>
          rw[if_pos rfl]at hr
          exact ⟨(q,false,s2,z,l,f,s2,p+1),by simp,⟨rfl,rfl,by dsimp only;omega,f,rfl,by dsimp only;omega,by simp,hr⟩,by dsimp only;omega⟩
        | false =>
          rw[if_neg (by decide)]at hr
          cases q with
          | true =>
            by_cases b92:b=92
            · rw[if_pos ⟨rfl,b92⟩]at hr
              exact ⟨(true,true,s2,z,l,f,s2,p+1),by simp[b92],⟨rfl,rfl,by dsimp only;omega,f,rfl,by dsimp only;omega,by simp,hr⟩,by dsimp only;omega⟩
            · rw[if_neg (fun h=>b92 h.2)]at hr
              by_cases b34:b=34
              · rw[if_pos b34]at hr
                exact ⟨(false,false,s2,z,l,f,s2,p+1),by subst b34;simp,⟨rfl,rfl,by dsimp only;omega,f,rfl,by dsimp only;omega,by simp,hr⟩,by dsimp only;omega⟩
              · rw[if_neg b34,if_neg (by simp)]at hr
                exact ⟨(true,false,s2,z,l,f,s2,p+1),by by_cases b44:b=44<;>simp[b92,b34,b44],⟨rfl,rfl,by dsimp only;omega,f,rfl,by dsimp only;omega,by simp,hr⟩,by dsimp only;omega⟩
          | false =>
            rw[if_neg (by simp)]at hr
            by_cases b34:b=34
            · rw[if_pos b34]at hr
              exact ⟨(true,false,s2,z,l,f,s2,p+1),by simp[b34],⟨rfl,rfl,by dsimp only;omega,f,rfl,by dsimp only;omega,by simp,hr⟩,by dsimp only;omega⟩
            · rw[if_neg b34]at hr
              by_cases b44:b=44
              · rw[if_pos ⟨b44,rfl⟩,← List.append_assoc]at hr
                obtain ⟨z',hm⟩:=x0d (s:=s2) (a:=f) (b:=p) (by omega) hf (by omega) z l (by omega)
                refine ⟨(false,false,s2,z',(l++if trimL ((s2.take p).drop f)=[] then [] else [trimL ((s2.take p).drop f)]),((p+1:Nat):Int),s2,p+1),?_,⟨rfl,rfl,by dsimp only;omega,p+1,rfl,by dsimp only;omega,by simp,hr⟩,by dsimp only;omega⟩
                · have d34:decide (b=34)=false:=by simp[b34]
                  have d44:decide (b=44)=true:=by simp[b44]
                  simp only[d34,d44,Bool.false_eq_true,if_false,if_true,Bool.not_false,hm,Option.bind_some]
                  split<;>simp
              · rw[if_neg (fun h=>b44 h.1)]at hr
                exact ⟨(false,false,s2,z,l,f,s2,p+1),by simp[b34,b44],⟨rfl,rfl,by dsimp only;omega,f,rfl,by dsimp only;omega,by simp,hr⟩,by dsimp only;omega⟩
    · right
      have e:p=s2.length:=by omega
      subst e
      rw[rest_end]at hr
      obtain ⟨z',hm⟩:=x0d (s:=s2) (a:=f) (b:=s2.length) (Nat.le_refl _) hf (by omega) z l (by omega)
      unfold p0d
      rw[if_neg (by simp),hm]
      refine ⟨_,rfl,?_⟩
      dsimp only
      rw[← hr,List.take_length]
      split<;>simp
  obtain ⟨⟨z,l⟩,h1,h2⟩:=main
  exact ⟨z,by rw[h1];simp at h2;rw[h2]⟩
end Go.Ab
end
section
set_option linter.all false
open Go Go.Ab Go.Proofs Go.Proofs.YtbkobjepahlegaaGreatDoor
namespace Go.Ab
theorem fl_len(l:List Bs):(fl l).length≤l.length:=by
  unfold fl
  exact Nat.le_trans (List.length_filter_le ..) (by simp)
theorem split_len:∀ (s:Bs) (q m:Bool) (cur:Bs),(split q m cur s).length≤s.length+1:=by
  intro s
  induction s with
  | nil=>intro q m cur;simp[split]
  | cons c s ih =>
    intro q m cur
    rw[split]
    have:=ih
    repeat' split
    all_goals first | exact Nat.le_trans (ih _ _ _) (by simp) | (rw[List.length_cons];have:=ih false false [];simp;omega)
theorem S0D(s:Bs)(hs:s.length<2 ^ 30):∃ z,m68 s=some (z,listL s):=L0P s (by omega) (by
  have:=fl_len (split false false [] s)
  have:=split_len s false false []
  unfold listL;omega)
theorem L0z{s:Bs}{f p:Nat}(hs:s.length<2 ^ 30)(hf:f≤p)(hp:p<s.length):∃ e:Nat,M0o s p=some (e:Int)∧p+1≤e∧e≤s.length∧restL s true false f (p+1)=restL s false false f e:=by
  have main:∃ r,M0o s p=some r∧∃ e:Nat,r=e∧p+1≤e∧e≤s.length∧restL s true false f (p+1)=restL s false false f e:=by
    have hend:s.length≤p+1→restL s true false f (p+1)=restL s false false f s.length:=fun h=>by rw[show p+1=s.length by omega,rest_end,rest_end]
    unfold M0o w0H
    rw[w64_eq _ (by omega) (by omega)]
    refine iter_post (fun (x:Bs×Int)=>x.1=s∧∃ a:Nat,x.2=a∧p+1≤a∧a≤s.length+1∧(a≤s.length→restL s true false f (p+1)=restL s true false f a)∧(s.length≤a→restL s true false f (p+1)=restL s false false f s.length)) (fun (x:Bs×Int)=>(s.length+1 - x.2).toNat) _ ?_ _ ⟨rfl,p+1,rfl,Nat.le_refl _,by omega,fun _=>rfl,hend⟩
    rintro ⟨s',a'⟩ hI
    dsimp only at hI ⊢
    obtain ⟨rfl,a,rfl,h1,h2,h3,h4⟩:=hI
    unfold p0x f0E f0F i0J
    by_cases c:a<s'.length
    · have hr:=h3 (by omega)
      rw[rest_step (by omega) c,if_neg (by decide)]at hr
      rw[if_pos (by simpa using c),if_pos ⟨by omega,by omega⟩]
      simp only[Int.toNat_natCast]
      by_cases b34:s'.getD a 0=34
      · right
        rw[if_neg (fun h=>by rw[b34]at h;exact absurd h.2 (by decide)),if_pos b34]at hr
        refine ⟨((a+1:Nat):Int),?_,a+1,rfl,by omega,by omega,hr⟩
        rw[if_neg (by simp[b34,-List.getD_eq_getElem?_getD]),if_neg (by simp;omega),w64_eq _ (by omega) (by omega)]
        rfl
      · left
        have e34:(!(s'.getD a 0==34))=true:=by simp[b34,-List.getD_eq_getElem?_getD]
        rw[if_pos e34,if_pos ⟨by omega,by omega⟩]
        by_cases b92:s'.getD a 0=92
        · rw[if_pos ⟨rfl,b92⟩]at hr
          refine ⟨(s',((a+2:Nat):Int)),?_,⟨rfl,a+2,rfl,by omega,by omega,?_,?_⟩,by dsimp only;omega⟩
          · rw[if_pos (by simp[b92,-List.getD_eq_getElem?_getD]),w64_eq ((a:Int)+1) (by omega) (by omega),w64_eq _ (by omega) (by omega)]
            simp only[Option.some.injEq,Sum.inl.injEq,Prod.mk.injEq,true_and]
            omega
          · intro h
            rw[hr,rest_step (by omega) (by omega),if_pos rfl]
          · intro h
            by_cases e:a+1=s'.length
            · rw[hr,e,rest_end,rest_end]
            · rw[hr,rest_step (by omega) (by omega),if_pos rfl,show a+1+1=s'.length by omega,rest_end,rest_end]
        · rw[if_neg (fun h=>b92 h.2),if_neg b34,if_neg (by simp)]at hr
          refine ⟨(s',((a+1:Nat):Int)),?_,⟨rfl,a+1,rfl,by omega,by omega,fun _=>hr,?_⟩,by dsimp only;omega⟩
          · rw[if_neg (by simp[b92,-List.getD_eq_getElem?_getD]),w64_eq _ (by omega) (by omega)]
            rfl
          · intro h
            rw[hr,show a+1=s'.length by omega,rest_end,rest_end]
    · right
      refine ⟨(s'.length:Int),?_,s'.length,rfl,by omega,by omega,h4 (by omega)⟩
      rw[if_neg (by simpa using c),if_neg (by decide),if_pos (by simp;omega)]
      rfl
  obtain ⟨r,h1,e,rfl,h⟩:=main
  exact ⟨e,h1,h⟩
theorem S0P(s:Bs)(hs:s.length<2 ^ 30):∃ z,m96 s=some (z,listL s):=by
  have main:∃ r,m96 s=some r∧r.2=listL s:=by
    unfold m96 x0a
    refine iter_post (fun (x:Bs×Bool×List Bs×Int×Int)=>x.1=s∧∃ f a:Nat,x.2.2.2.1=f∧x.2.2.2.2=a∧f≤a∧a≤s.length+1∧x.2.2.1.length≤a∧(a≤s.length→x.2.2.1++restL s false false f a=listL s)∧(s.length<a→x.2.2.1=listL s)) (fun (x:Bs×Bool×List Bs×Int×Int)=>(s.length+1 - x.2.2.2.2).toNat) _ ?_ _ ⟨rfl,0,0,rfl,rfl,Nat.le_refl _,by omega,by simp,fun _=>by dsimp only;unfold restL listL;simp,fun h=>by omega⟩
    rintro ⟨s',z,l,f',a'⟩ hI
    dsimp only at hI ⊢
    obtain ⟨rfl,f,a,rfl,rfl,hf,ha,hlen,h1,h2⟩:=hI
    unfold p0z
    by_cases c0:a≤s'.length
    · left
      have hr:=h1 c0
      rw[if_pos (by simpa using c0)]
      have cut:∀ (R:List Bs),l++((if trimL ((s'.take a).drop f)=[] then [] else [trimL ((s'.take a).drop f)])++R)=listL s'→∃ z' l',f0U s' z l f a true=some (.inl (s',z',l',((a+1:Nat):Int),((a+1:Nat):Int)))∧l'.length≤a+1∧l'++R=listL s':=by
        intro R hR
        unfold f0U l0f h0C
        rw[if_pos rfl,bnd_ok c0,Option.bind_some,bnd_ok hf,Option.bind_some,L0A _ (by simp;omega),Option.bind_some,w64_eq _ (by omega) (by omega)]
        by_cases e:trimL ((s'.take a).drop f)=[]
        · rw[if_pos e]at hR
          exact ⟨z,l,by rw[if_pos (by simpa using e)];rfl,by omega,by simpa using hR⟩
        · rw[if_neg e]at hR
          exact ⟨false,l++[trimL ((s'.take a).drop f)],by rw[if_neg (by simpa using e),if_pos (by omega)];rfl,by simp;omega,by simpa using hR⟩
      by_cases c:a<s'.length
      · rw[if_pos (by simpa using c),if_pos ⟨by omega,by omega⟩]
        simp only[Int.toNat_natCast]
        have hr2:=hr
        rw[rest_step hf c,if_neg (by decide),if_neg (by simp)]at hr2
        unfold h0B
        by_cases b34:s'.getD a 0=34
        · rw[if_pos b34]at hr2
          obtain ⟨e,g1,g2,g3,g4⟩:=L0z hs hf c
          have hn:(!false)=true:=rfl
          rw[hn,g4]at hr2
          refine ⟨(s',z,l,f,e),?_,⟨rfl,f,e,rfl,rfl,by omega,by omega,by dsimp only;omega,fun _=>hr2,fun h=>by omega⟩,by dsimp only;omega⟩
          rw[if_pos (by simp[b34,-List.getD_eq_getElem?_getD]),g1]
          rfl
        · rw[if_neg b34]at hr2
          rw[if_neg (by simp[b34,-List.getD_eq_getElem?_getD]),if_neg (by simp;omega),if_pos ⟨by omega,by omega⟩]
          by_cases b44:s'.getD a 0=44
          · rw[if_pos ⟨b44,rfl⟩]at hr2
            obtain ⟨z',l',g1,g2,g3⟩:=cut _ hr2
            refine ⟨(s',z',l',((a+1:Nat):Int),((a+1:Nat):Int)),?_,⟨rfl,a+1,a+1,rfl,rfl,Nat.le_refl _,by omega,g2,fun _=>g3,fun h=>by omega⟩,by dsimp only;omega⟩
            have:(s'.getD a 0==44)=true:=by simp[b44,-List.getD_eq_getElem?_getD]
            rw[Int.toNat_natCast,this]
            exact g1
          · rw[if_neg (fun h=>b44 h.1)]at hr2
            refine ⟨(s',z,l,f,((a+1:Nat):Int)),?_,⟨rfl,f,a+1,rfl,rfl,by omega,by omega,by dsimp only;omega,fun _=>hr2,fun h=>by omega⟩,by dsimp only;omega⟩
            have:(s'.getD a 0==44)=false:=by simp[b44,-List.getD_eq_getElem?_getD]
            rw[Int.toNat_natCast,this]
            unfold f0U h0C
            rw[if_neg (by decide),w64_eq _ (by omega) (by omega)]
            rfl
      · have e:a=s'.length:=by omega
        rw[if_neg (by simpa using c)]
        unfold h0B
        rw[if_neg (by decide),if_pos (by simp[e])]
        have hr2:l++((if trimL ((s'.take a).drop f)=[] then [] else [trimL ((s'.take a).drop f)])++[])=listL s':=by
          rw[← hr,e,rest_end,List.take_length,List.append_nil]
        obtain ⟨z',l',g1,g2,g3⟩:=cut [] hr2
        exact ⟨(s',z',l',((a+1:Nat):Int),((a+1:Nat):Int)),g1,⟨rfl,a+1,a+1,rfl,rfl,Nat.le_refl _,by omega,g2,fun h=>by omega,fun _=>by simpa using g3⟩,by dsimp only;omega⟩
    · right
      unfold p0m
      exact ⟨_,by rw[if_neg (by simpa using c0)];rfl,h2 (by omega)⟩
  obtain ⟨⟨z,l⟩,h1,h2⟩:=main
  exact ⟨z,by rw[h1];simp at h2;rw[h2]⟩
end Go.Ab
end
section
set_option linter.all false
open Go Go.Ab Go.Proofs Go.Proofs.YtbkobjepahlegaaGreatDoor
namespace Go.Ab
def uq:Bs→Option Bs
  | []=>none
  | [c]=>if c=34 then some [] else none
  | c::d::t=>if c=34 then none else if c=92 then (if shB d=true then (uq t).map (d :: ·) else none) else if shB c=true then (uq (d::t)).map (c :: ·) else none
def pq:Bs→Option Bs
  | []=>some []
  | [c]=>if c=34∨c=92 then none else if shB c=true then some [c] else none
  | c::d::t=>if c=34 then none else if c=92 then (if shB d=true then (pq t).map (d :: ·) else none) else if shB c=true then (pq (d::t)).map (c :: ·) else none
def unqL:Bs→Option Bs
  | c::t=>if c=34 then uq t else none
  | []=>none
theorem unqL_cons(c:UInt8)(t:Bs):unqL (c::t)=if c=34 then uq t else none:=rfl
theorem pq_34(s:Bs):pq (34::s)=none:=by cases s<;>simp[pq]
theorem pq_92n:pq [92]=none:=by simp[pq]
theorem pq_92(d:UInt8)(t:Bs):pq (92::d::t)=if shB d=true then (pq t).map (d :: ·) else none:=by
  rw[pq,if_neg (by decide),if_pos rfl]
theorem pq_c{c:UInt8}(h1:c≠34)(h2:c≠92)(s:Bs):pq (c::s)=if shB c=true then (pq s).map (c :: ·) else none:=by
  cases s with
  | nil=>simp[pq,h1,h2]
  | cons d t=>rw[pq,if_neg h1,if_neg h2]
theorem uq_92(d:UInt8)(t:Bs):uq (92::d::t)=if shB d=true then (uq t).map (d :: ·) else none:=by
  rw[uq,if_neg (by decide),if_pos rfl]
theorem uq_c{c:UInt8}(h1:c≠34)(h2:c≠92)(s:Bs):uq (c::s)=if shB c=true then (uq s).map (c :: ·) else none:=by
  cases s with
  | nil=>simp[uq,h1]
  | cons d t=>rw[uq,if_neg h1,if_neg h2]
theorem uq_34(s:Bs):uq (34::s)=if s=[] then some [] else none:=by
  cases s with
  | nil=>simp[uq]
  | cons d t=>rw[uq,if_pos rfl,if_neg (by simp)]
theorem uq_92n:uq [92]=none:=by simp[uq]
theorem uq_snoc:∀ (n:Nat) (a:Bs),a.length≤n→uq (a++[34])=pq a:=by
  intro n
  induction n with
  | zero => intro a ha; have : a = [] := by cases a; rfl; simp at ha
            subst this;rfl
  | succ n ih =>
    intro a ha
    cases a with
    | nil=>rfl
    | cons c s =>
      simp only[List.length_cons]at ha
      by_cases h1:c=34
      · subst h1
        rw[pq_34]
        show uq (34::(s++[34]))=none
        rw[uq_34,if_neg (by simp)]
      · by_cases h2:c=92
        · subst h2
          cases s with
          | nil=>rfl
          | cons d t =>
            show uq (92::d::(t++[34]))=_
            rw[uq_92,pq_92,ih t (by simp at ha;omega)]
        · show uq (c::(s++[34]))=_
          rw[uq_c h1 h2,pq_c h1 h2,ih s (by omega)]
theorem uq_last:∀ (n:Nat) (a r:Bs),a.length≤n→uq a=some r→∃ b,a=b++[34]:=by
  intro n
  induction n with
  | zero => intro a r ha h; have : a = [] := by cases a; rfl; simp at ha
            subst this;cases h
  | succ n ih =>
    intro a r ha h
    cases a with
    | nil=>cases h
    | cons c s =>
      simp only[List.length_cons]at ha
      by_cases h1:c=34
      · subst h1
        rw[uq_34]at h
        split at h
        · rename_i e;subst e;exact ⟨[],rfl⟩
        · cases h
      · by_cases h2:c=92
        · subst h2
          cases s with
          | nil=>rw[uq_92n]at h;cases h
          | cons d t =>
            rw[uq_92]at h
            split at h
            · simp only[Option.map_eq_some_iff]at h
              obtain ⟨r',h,_⟩:=h
              obtain ⟨b,rfl⟩:=ih t r' (by simp at ha;omega) h
              exact ⟨92::d::b,rfl⟩
            · cases h
        · rw[uq_c h1 h2]at h
          split at h
          · simp only[Option.map_eq_some_iff]at h
            obtain ⟨r',h,_⟩:=h
            obtain ⟨b,rfl⟩:=ih s r' (by omega) h
            exact ⟨c::b,rfl⟩
          · cases h
def unR(o:Option Bs):Bs×Bool:=match o with | some x=>(x,true) | none=>([],false)
theorem K0S(inn:Bs)(hs:inn.length<2 ^ 30):j0f true [] inn 0=some (unR (pq inn)):=by
  unfold j0f
  refine (iter_g (fun (x:Bool×List UInt8×Bs×Int)=>x.2.2.1=inn∧0≤x.2.2.2∧x.2.2.2≤inn.length∧x.2.1.length≤x.2.2.2.toNat) (fun (x:Bool×List UInt8×Bs×Int)=>((inn.length:Int) - x.2.2.2).toNat) (fun (x:Bool×List UInt8×Bs×Int)=>some (unR ((pq (inn.drop x.2.2.2.toNat)).map (x.2.1 ++ ·)))) ?_ (true,[],inn,0) ⟨rfl,by dsimp only;omega,by dsimp only;omega,by simp⟩).trans (by simp)
  rintro ⟨z,b,s,i⟩ hI
  dsimp only at hI ⊢
  obtain ⟨rfl,h0,h1,h2⟩:=hI
  unfold j0l
  by_cases c:i<s.length
  · have hd:=drop_cons (l:=s) (i:=i.toNat) (by omega)
    rw[if_pos (by simpa using c),if_pos ⟨h0,c⟩,hd]
    have take:∀ (k:Int) (R:Option Bs),i≤k→k<s.length→R=(if shB (s.getD k.toNat 0)=true then (pq (s.drop (k.toNat+1))).map (s.getD k.toNat 0 :: ·) else none) →
        (∃ t,b0V z b s k=some (.inl t)∧(t.2.2.1=s∧0≤t.2.2.2∧t.2.2.2≤s.length∧t.2.1.length≤t.2.2.2.toNat)∧((s.length:Int) - t.2.2.2).toNat<((s.length:Int) - i).toNat∧some (unR ((pq (s.drop t.2.2.2.toNat)).map (t.2.1 ++ ·)))=some (unR (R.map (b ++ ·)))) ∨
          b0V z b s k=(some (unR (R.map (b ++ ·)))).map .inr:=by
      intro k R hk hk2 hR
      unfold b0V
      rw[if_pos ⟨by omega,hk2⟩,L0L,Option.bind_some,hR]
      cases e:shB (s.getD k.toNat 0)
      · right;rfl
      · left
        refine ⟨(false,b++[s.getD k.toNat 0],s,k+1),?_,⟨rfl,by dsimp only;omega,by dsimp only;omega,by simp;omega⟩,by dsimp only;omega,?_⟩
        · simp only[if_true]
          rw[if_pos (by omega),w64_eq (k+1) (by omega) (by omega)]
        · dsimp only
          rw[show (k+1).toNat=k.toNat+1 by omega,if_pos rfl]
          cases pq (s.drop (k.toNat+1))<;>simp[unR]
    by_cases b34:s.getD i.toNat 0=34
    · right
      rw[if_pos (by simp[b34,-List.getD_eq_getElem?_getD]),b34,pq_34]
      rfl
    · rw[if_neg (by simp[b34,-List.getD_eq_getElem?_getD])]
      by_cases b92:s.getD i.toNat 0=92
      · rw[if_pos (by simp[b92,-List.getD_eq_getElem?_getD]),b92,w64_eq (i+1) (by omega) (by omega)]
        by_cases e:i+1=s.length
        · right
          rw[if_pos (by simpa using e),List.drop_eq_nil_of_le (by omega),pq_92n]
          rfl
        · rw[if_neg (by simpa using e)]
          refine take (i+1) _ (by omega) (by omega) ?_
          rw[drop_cons (l:=s) (i:=i.toNat+1) (by omega),pq_92,show (i+1).toNat=i.toNat+1 by omega]
      · rw[if_neg (by simp[b92,-List.getD_eq_getElem?_getD])]
        exact take i _ (Int.le_refl _) c (pq_c b34 b92 _)
  · right
    unfold i0M
    rw[if_neg (by simpa using c),List.drop_eq_nil_of_le (by omega)]
    simp[pq,unR]
theorem L0F(s:Bs)(hs:s.length<2 ^ 30):S0k s=some (unR (unqL s)):=by
  unfold S0k
  have hf:f0M s true=some ([],false):=rfl
  cases s with
  | nil=>rfl
  | cons c t =>
    by_cases h2:t=[]
    · subst h2
      rw[if_pos (by simp),hf]
      rw[unqL_cons]
      split<;>simp[uq,unR]
    · have hl:0<t.length:=by cases t;exact absurd rfl h2;simp
      rw[if_neg (by simp<;>omega),if_pos (by simp<;>omega)]
      have e0:(c::t).getD 0 0=c:=rfl
      rw[e0,hf]
      by_cases h34:c=34
      · subst h34
        rw[if_pos (by simp),w64_eq _ (by simp<;>omega) (by simp at hs ⊢ <;> omega),if_pos ⟨by simp<;>omega,by simp<;>omega⟩]
        have ed:((34::t).getD (((34::t).length:Int) - 1).toNat 0)=t.getLast h2:=by
          have:(((34::t).length:Int) - 1).toNat=t.length:=by simp
          rw[this]
          obtain ⟨n,hn⟩:∃ n,t.length=n+1:=⟨t.length - 1,by omega⟩
          rw[hn,List.getD_cons_succ,List.getLast_eq_getElem,List.getD_eq_getElem?_getD,List.getElem?_eq_getElem (by omega),Option.getD_some]
          congr 1
          omega
        rw[ed]
        rw[unqL_cons,if_pos rfl]
        unfold f0M
        have ht:=List.dropLast_concat_getLast h2
        by_cases hl34:t.getLast h2=34
        · rw[if_neg (by simp[hl34]),w64_eq _ (by simp<;>omega) (by simp at hs ⊢ <;> omega)]
          have e1:bnd (((34::t).length:Int) - 1) (34::t).length=some t.length:=by
            have h3:(((34::t).length:Int) - 1)=(t.length:Int):=by simp
            rw[h3];exact bnd_ok (by simp)
          have e2:bnd 1 t.length=some 1:=by unfold bnd;rw[if_pos ⟨by omega,by omega⟩];rfl
          rw[e1,Option.bind_some,e2,Option.bind_some]
          have e3:((34::t).take t.length).drop 1=t.dropLast:=by
            obtain ⟨n,hn⟩:∃ n,t.length=n+1:=⟨t.length - 1,by omega⟩
            rw[hn,List.take_succ_cons,List.dropLast_eq_take,hn]
            rfl
          rw[e3,K0S _ (by simp at hs ⊢ <;> omega)]
          rw[hl34]at ht
          rw[← uq_snoc _ _ (Nat.le_refl _),ht]
        · rw[if_pos (by simp[hl34])]
          have:uq t=none:=by
            cases hu:uq t with
            | none=>rfl
            | some r =>
              obtain ⟨b,hb⟩:=uq_last _ _ _ (Nat.le_refl _) hu
              exact absurd (by subst hb;simp) hl34
          rw[this]
          rfl
      · rw[if_neg (by simp[h34])]
        rw[unqL_cons,if_neg h34]
        rfl
theorem L0y(s:Bs)(hs:s.length<2 ^ 30):S0b s=some (unR (unqL s)):=by
  unfold S0b
  have hf:h0n s true=some ([],false):=rfl
  cases s with
  | nil=>rfl
  | cons c t =>
    rw[if_neg (by simp<;>omega),if_pos (by simp<;>omega)]
    have e0:(c::t).getD 0 0=c:=rfl
    rw[e0]
    rw[unqL_cons]
    by_cases h34:c=34
    · rw[if_pos h34]
      unfold h0n
      rw[if_neg (by simp[h34])]
      generalize hS:c::t=S at *
      have ht:t=S.drop 1:=by rw[← hS];rfl
      rw[ht]
      have hl1:1≤S.length:=by rw[← hS];simp
      unfold m0J
      refine (iter_g (fun (x:Bs×Bool×List UInt8×Int)=>x.1=S∧1≤x.2.2.2∧x.2.2.2≤S.length∧x.2.2.1.length≤x.2.2.2.toNat) (fun (x:Bs×Bool×List UInt8×Int)=>((S.length:Int) - x.2.2.2).toNat) (fun (x:Bs×Bool×List UInt8×Int)=>some (unR ((uq (S.drop x.2.2.2.toNat)).map (x.2.2.1 ++ ·)))) ?_ (S,true,[],1) ⟨rfl,by dsimp only;omega,by dsimp only;omega,by simp⟩).trans (by simp)
      clear ht hS hf e0 h34
      rintro ⟨s,z,b,i⟩ hI
      dsimp only at hI ⊢
      obtain ⟨rfl,h0,h1,h2⟩:=hI
      unfold j0k
      by_cases c:i<s.length
      · have hd:=drop_cons (l:=s) (i:=i.toNat) (by omega)
        rw[if_pos (by simpa using c),if_pos ⟨by omega,c⟩,hd]
        have take:∀ (k:Int) (R:Option Bs),i≤k→k<s.length→R=(if shB (s.getD k.toNat 0)=true then (uq (s.drop (k.toNat+1))).map (s.getD k.toNat 0 :: ·) else none) →
            (∃ t,a0X s z b k=some (.inl t)∧(t.1=s∧1≤t.2.2.2∧t.2.2.2≤s.length∧t.2.2.1.length≤t.2.2.2.toNat)∧((s.length:Int) - t.2.2.2).toNat<((s.length:Int) - i).toNat∧some (unR ((uq (s.drop t.2.2.2.toNat)).map (t.2.2.1 ++ ·)))=some (unR (R.map (b ++ ·)))) ∨
              a0X s z b k=(some (unR (R.map (b ++ ·)))).map .inr:=by
          intro k R hk hk2 hR
          unfold a0X d0x
          rw[if_neg (by simp<;>omega),if_pos ⟨by omega,hk2⟩,L0H,Option.bind_some,hR]
          cases e:shB (s.getD k.toNat 0)
          · right;rfl
          · left
            refine ⟨(s,false,b++[s.getD k.toNat 0],k+1),?_,⟨rfl,by dsimp only;omega,by dsimp only;omega,by simp<;>omega⟩,by dsimp only;omega,?_⟩
            · rw[if_neg (by decide),if_pos ⟨by omega,hk2⟩,if_pos (by omega),w64_eq (k+1) (by omega) (by omega)]
            · dsimp only
              rw[show (k+1).toNat=k.toNat+1 by omega,if_pos rfl]
              cases uq (s.drop (k.toNat+1))<;>simp[unR]
        unfold d0w
        by_cases b34:s.getD i.toNat 0=34
        · right
          unfold f0D
          rw[if_neg (by simp[b34,-List.getD_eq_getElem?_getD]),b34,uq_34,w64_eq _ (by omega) (by omega)]
          by_cases e:i=s.length - 1
          · rw[if_pos (by simpa using e),if_pos (List.drop_eq_nil_of_le (by omega))]
            simp[unR]
          · rw[if_neg (by simpa using e),if_neg (fun h=>by have:=List.drop_eq_nil_iff.1 h;omega)]
            rfl
        · rw[if_pos (by simp[b34,-List.getD_eq_getElem?_getD]),if_pos ⟨by omega,c⟩]
          by_cases b92:s.getD i.toNat 0=92
          · rw[if_pos (by simp[b92,-List.getD_eq_getElem?_getD]),b92,w64_eq (i+1) (by omega) (by omega)]
            by_cases e:i+1=s.length
            · right
              unfold a0X d0x
              rw[if_pos (by simp<;>omega),List.drop_eq_nil_of_le (by omega),uq_92n]
              rfl
            · refine take (i+1) _ (by omega) (by omega) ?_
              rw[drop_cons (l:=s) (i:=i.toNat+1) (by omega),uq_92,show (i+1).toNat=i.toNat+1 by omega]
          · rw[if_neg (by simp[b92,-List.getD_eq_getElem?_getD])]
            exact take i _ (Int.le_refl _) c (uq_c b34 b92 _)
      · right
        unfold d0w f0D
        rw[if_neg (by simpa using c),if_neg (by decide),List.drop_eq_nil_of_le (by omega),w64_eq _ (by omega) (by omega),if_neg (by simp<;>omega)]
        rfl
    · rw[if_neg h34]
      have:(!(c==34))=true:=by simp[h34]
      rw[this,hf]
      rfl
def nameN(s:Bs):Nat:=(s.takeWhile fun c => !(c==61)).length
theorem nameN_le(s:Bs):nameN s≤s.length:=by
  unfold nameN
  exact (List.takeWhile_prefix _).length_le
theorem nameN_cons(c:UInt8)(s:Bs):nameN (c::s)=if c=61 then 0 else nameN s+1:=by
  unfold nameN
  rw[List.takeWhile_cons]
  by_cases h:c=61<;>simp[h]
theorem nameN_lt:∀ (s:Bs) (j:Nat),j<nameN s→s.getD j 0≠61:=by
  intro s
  induction s with
  | nil=>intro j h;simp[nameN]at h
  | cons c s ih =>
    intro j h
    rw[nameN_cons]at h
    by_cases e:c=61
    · rw[if_pos e]at h;omega
    · rw[if_neg e]at h
      cases j with
      | zero=>exact e
      | succ j=>rw[List.getD_cons_succ];exact ih j (by omega)
theorem nameN_at:∀ (s:Bs),nameN s<s.length→s.getD (nameN s) 0=61:=by
  intro s
  induction s with
  | nil=>intro h;simp at h
  | cons c s ih =>
    intro h
    rw[nameN_cons]at h ⊢
    by_cases e:c=61
    · rw[if_pos e];exact e
    · rw[if_neg e]at h ⊢
      rw[List.getD_cons_succ]
      exact ih (by simpa using h)
def pairL(s:Bs):Option (Bs×Bs) :=
  if tokL (s.take (nameN s))=true then
    if nameN s=s.length then some (lowL (s.take (nameN s)),[])
    else if tokL (s.drop (nameN s+1))=true then some (lowL (s.take (nameN s)),s.drop (nameN s+1))
    else (unqL (s.drop (nameN s+1))).map fun v=>(lowL (s.take (nameN s)),v)
  else none
def paR(o:Option (Bs×Bs)):Bs×Bs×Bool:=match o with | some x=>(x.1,x.2,true) | none=>([],[],false)
theorem occ1(s:Bs)(j:Nat):Lib.occAt s [61] j=(decide (j<s.length)&&(s.getD j 0==61)):=by
  unfold Lib.occAt
  by_cases h:j<s.length
  · rw[drop_cons h]
    simp[List.isPrefixOf,h,-List.getD_eq_getElem?_getD,Bool.beq_comm]
  · rw[List.drop_eq_nil_of_le (by omega)]
    simp[List.isPrefixOf,h]
theorem index1(s:Bs):Lib.index s [61]=if nameN s<s.length then (nameN s:Int) else -1:=by
  by_cases h:nameN s<s.length
  · rw[if_pos h]
    refine Lib.index_first (by omega) ?_ ?_
    · rw[occ1,nameN_at s h];simp[h]
    · intro j hj
      have:=nameN_lt s j hj
      rw[occ1]
      have e:(s.getD j 0==61)=false:=by simpa [-List.getD_eq_getElem?_getD] using this
      rw[e,Bool.and_false]
  · rw[if_neg h]
    refine Lib.index_none ?_
    intro j hj
    rw[occ1]
    by_cases hj2:j<s.length
    · have:=nameN_lt s j (by omega)
      have e:(s.getD j 0==61)=false:=by simpa [-List.getD_eq_getElem?_getD] using this
      rw[e,Bool.and_false]
    · simp[hj2]
theorem L0E(s:Bs)(hs:s.length<2 ^ 30):S0j s [61]=some (if nameN s<s.length then (s.take (nameN s),s.drop (nameN s+1),true) else (s,[],false)):=by
  unfold S0j T0m mIx
  rw[if_pos (by omega),Option.bind_some,index1]
  by_cases h:nameN s<s.length
  · rw[if_pos h,if_pos (by simp),bnd_ok (by omega),Option.bind_some,w64_eq _ (by simp;omega) (by simp;omega),if_pos h]
    have:bnd ((nameN s:Int)+(([61]:Bs).length:Int)) s.length=some (nameN s+1):=by
      unfold bnd
      rw[if_pos ⟨by simp;omega,by simp;omega⟩]
      congr 1
    rw[this]
    rfl
  · rw[if_neg h,if_neg (by decide),if_neg h]
    rfl
theorem L0p(s:Bs)(hs:s.length<2 ^ 30):R0W s=some (paR (pairL s)):=by
  unfold R0W pairL
  have hn:=nameN_le s
  rw[L0E s hs,Option.bind_some]
  by_cases h:nameN s<s.length
  · rw[if_pos h,if_neg (by omega:¬ nameN s=s.length)]
    dsimp only
    rw[p0v _ (by simp;omega),Option.bind_some]
    by_cases h1:tokL (s.take (nameN s))=true
    · rw[if_pos h1,if_pos rfl,if_pos h1,p0v _ (by simp;omega),Option.bind_some]
      unfold d0v
      by_cases h2:tokL (s.drop (nameN s+1))=true
      · rw[if_pos h2,if_pos h2,f0Y _ (by simp;omega)]
        rfl
      · rw[if_neg h2,if_neg h2,L0F _ (by simp;omega),Option.bind_some]
        cases unqL (s.drop (nameN s+1)) with
        | none=>rfl
        | some v =>
          simp only[unR,if_true,Option.map_some,paR]
          rw[f0Y _ (by simp;omega)]
          rfl
    · rw[if_neg h1,if_neg h1]
      rfl
  · rw[if_neg h,if_pos (by omega:nameN s=s.length)]
    dsimp only
    have e:s.take (nameN s)=s:=List.take_of_length_le (by omega)
    rw[e,p0v _ (by omega),Option.bind_some]
    by_cases h1:tokL s=true
    · rw[if_pos h1,if_neg (by decide),if_pos h1]
      unfold d0v
      rw[if_pos rfl,f0Y _ (by omega)]
      rfl
    · rw[if_neg h1,if_neg h1]
      rfl
theorem w0n(s:Bs)(hs:s.length<2 ^ 30):l0c s (nameN s)=some (paR (pairL s)):=by
  unfold l0c pairL
  have hn:=nameN_le s
  rw[bnd_ok hn,Option.bind_some,x0f _ (by simp;omega),Option.bind_some]
  by_cases h1:tokL (s.take (nameN s))=true
  · rw[if_pos h1,if_pos h1]
    by_cases h:nameN s=s.length
    · have e:s.take (nameN s)=s:=List.take_of_length_le (by omega)
      rw[if_pos (by simp[h]),if_pos h,b0b _ (by omega),e]
      rfl
    · rw[if_neg (by simp;omega),if_neg h,w64_eq _ (by omega) (by omega)]
      have:bnd ((nameN s:Int)+1) s.length=some (nameN s+1):=by
        have:=bnd_ok (i:=nameN s+1) (n:=s.length) (by omega)
        simpa using this
      rw[this,Option.bind_some,x0f _ (by simp;omega),Option.bind_some]
      by_cases h2:tokL (s.drop (nameN s+1))=true
      · rw[if_pos h2,if_pos h2,b0b _ (by simp;omega)]
        rfl
      · rw[if_neg h2,if_neg h2,L0y _ (by simp;omega),Option.bind_some]
        cases unqL (s.drop (nameN s+1)) with
        | none=>rfl
        | some v =>
          simp only[unR,if_true,Option.map_some,paR]
          rw[b0b _ (by simp;omega)]
          rfl
  · rw[if_neg h1,if_neg h1]
    rfl
theorem J0Y(s:Bs)(hs:s.length<2 ^ 30):m92 s=some (paR (pairL s)):=by
  unfold m92 L0h
  have hn:=nameN_le s
  refine iter_to (fun (x:Bs×Int)=>x.1=s∧0≤x.2∧x.2≤nameN s) (fun (x:Bs×Int)=>((nameN s:Int) - x.2).toNat) _ ?_ _ ⟨rfl,by dsimp only;omega,by dsimp only;omega⟩
  rintro ⟨s',i⟩ hI
  dsimp only at hI ⊢
  obtain ⟨rfl,h0,h1⟩:=hI
  unfold B0R l0b
  by_cases c:i<nameN s'
  · left
    have:=nameN_lt s' i.toNat (by omega)
    rw[if_pos (by simp;omega),if_pos ⟨h0,by omega⟩,if_pos (by simp[this,-List.getD_eq_getElem?_getD]),w64_eq _ (by omega) (by omega)]
    exact ⟨(s',i+1),rfl,⟨rfl,by dsimp only;omega,by dsimp only;omega⟩,by dsimp only;omega⟩
  · right
    have e:i=nameN s':=by omega
    subst e
    rw[← w0n s' hs]
    by_cases d:nameN s'<s'.length
    · have:=nameN_at s' d
      rw[if_pos (by simpa using d),if_pos ⟨h0,by omega⟩,if_neg (by rw[Int.toNat_natCast,this];decide)]
    · rw[if_neg (by simp;omega),if_neg (by decide)]
end Go.Ab
end
section
set_option linter.all false
open Go Go.Ab Go.Proofs Go.Proofs.YtbkobjepahlegaaGreatDoor
namespace Go.Ab
theorem all_get{s:Bs}{p:UInt8→Bool}:s.all p=true↔∀ j,j<s.length→p (s.getD j 0)=true:=by
  rw[List.all_eq_true]
  constructor
  · intro h j hj
    rw[List.getD_eq_getElem?_getD,List.getElem?_eq_getElem hj]
    exact h _ (List.getElem_mem hj)
  · intro h x hx
    obtain ⟨j,hj,rfl⟩:=List.mem_iff_getElem.1 hx
    have:=h j hj
    rwa [List.getD_eq_getElem?_getD,List.getElem?_eq_getElem hj]at this
theorem trimL_parts(s:Bs):∃ a b,a.all blB=true∧b.all blB=true∧s=a++(trimL s++b)∧(trimL s=[]→b=[])∧(trimL s≠[]→blB ((trimL s).getD 0 0)=false∧blB ((trimL s).getD ((trimL s).length - 1) 0)=false):=by
  by_cases hall:s.all blB=true
  · have e:=trimL_nil (all_get.1 hall)
    exact ⟨s,[],hall,rfl,by rw[e];simp,fun _=>rfl,fun h=>absurd e h⟩
  · -- the first that is none, the last
    have hex:∃ j,j<s.length∧blB (s.getD j 0)=false:=by
      rcases Classical.em (∃ j,j<s.length∧blB (s.getD j 0)=false) with h | h
      · exact h
      · exfalso
        exact hall (all_get.2 fun j hj=>by
          cases e:blB (s.getD j 0)
          · exact absurd ⟨j,hj,e⟩ h
          · rfl)
    have first:∀ n,n≤s.length→(∀ j,j<n→blB (s.getD j 0)=true)∨∃ a,a<n∧blB (s.getD a 0)=false∧∀ j,j<a→blB (s.getD j 0)=true:=by
      intro n
      induction n with
      | zero=>intro _;left;intro j hj;omega
      | succ n ih =>
        intro hn
        rcases ih (by omega) with h | ⟨a,h1,h2⟩
        · cases e:blB (s.getD n 0)
          · right;exact ⟨n,by omega,e,h⟩
          · left;intro j hj
            by_cases e2:j=n
            · rw[e2];exact e
            · exact h j (by omega)
        · right;exact ⟨a,by omega,h2⟩
    have last:∀ n,n≤s.length→(∀ j,s.length - n≤j→j<s.length→blB (s.getD j 0)=true)∨∃ b,s.length - n<b∧b≤s.length∧blB (s.getD (b - 1) 0)=false∧∀ j,b≤j→j<s.length→blB (s.getD j 0)=true:=by
      intro n
      induction n with
      | zero=>intro _;left;intro j hj hj2;omega
      | succ n ih =>
        intro hn
        rcases ih (by omega) with h | ⟨b,h1,h2⟩
        · cases e:blB (s.getD (s.length - (n+1)) 0)
          · right;exact ⟨s.length - n,by omega,by omega,by rw[show s.length - n - 1=s.length - (n+1) by omega];exact e,h⟩
          · left;intro j hj hj2
            by_cases e2:j=s.length - (n+1)
            · rw[e2];exact e
            · exact h j (by omega) hj2
        · right;exact ⟨b,by omega,h2⟩
    obtain ⟨j0,hj0,hj1⟩:=hex
    rcases first s.length (Nat.le_refl _) with h | ⟨a,ha,ha2,ha3⟩
    · rw[h j0 hj0]at hj1;cases hj1
    rcases last s.length (Nat.le_refl _) with h | ⟨b,hb,hb2,hb3,hb4⟩
    · rw[h j0 (by omega) hj0]at hj1;cases hj1
    have hab:a<b:=by
      rcases Nat.lt_or_ge a b with h | h
      · exact h
      · rw[hb4 a h ha]at ha2;cases ha2
    have e:=trimL_cut hab hb2 ha3 ha2 hb4 hb3
    have hlen:((s.take b).drop a).length=b - a:=by simp;omega
    have hg:∀ j,j<b - a→((s.take b).drop a).getD j 0=s.getD (a+j) 0:=by
      intro j hj
      rw[List.getD_eq_getElem?_getD,List.getD_eq_getElem?_getD,List.getElem?_drop,List.getElem?_take,if_pos (by omega)]
    refine ⟨s.take a,s.drop b,all_get.2 fun j hj=>?_,all_get.2 fun j hj=>?_,?_,fun h=>?_,fun _=>?_⟩
    · have:j<a:=by simp at hj;omega
      have:=ha3 j this
      rw[List.getD_eq_getElem?_getD]at this ⊢
      rw[List.getElem?_take,if_pos (by assumption)]
      exact this
    · have:=hb4 (b+j) (by omega) (by simp at hj;omega)
      rw[List.getD_eq_getElem?_getD]at this ⊢
      rw[List.getElem?_drop]
      exact this
    · rw[e,← List.append_assoc]
      have:s.take a++(s.take b).drop a=s.take b:=by
        have:=List.take_append_drop a (s.take b)
        rwa [List.take_take,Nat.min_eq_left (by omega)]at this
      rw[this,List.take_append_drop]
    · rw[e]at h
      have:=congrArg List.length h
      rw[hlen]at this
      simp at this;omega
    · rw[e,hlen,hg 0 (by omega),hg (b - a - 1) (by omega),Nat.add_zero,show a+(b - a - 1)=b - 1 by omega]
      exact ⟨ha2,hb3⟩
def wt(l:List Bs):Nat:=(l.map fun x=>x.length+1).sum
theorem wt_cons(x:Bs)(l:List Bs):wt (x::l)=x.length+1+wt l:=by simp[wt]
theorem wt_split:∀ (s:Bs) (q m:Bool) (cur:Bs),wt (split q m cur s)=cur.length+s.length+1:=by
  intro s
  induction s with
  | nil=>intro q m cur;simp[split,wt]
  | cons c s ih =>
    intro q m cur
    rw[split]
    split
    · rw[ih];simp;omega
    · split
      · rw[ih];simp;omega
      · split
        · rw[ih];simp;omega
        · split
          · rw[wt_cons,ih];simp;omega
          · rw[ih];simp;omega
theorem trimL_le(s:Bs):(trimL s).length≤s.length:=by
  obtain ⟨a,b,_,_,h,_⟩:=trimL_parts s
  have:=congrArg List.length h
  simp at this;omega
theorem wt_fl(l:List Bs):wt (fl l)≤wt l:=by
  induction l with
  | nil=>exact Nat.le_refl _
  | cons x l ih =>
    rw[fl_cons,wt_cons]
    have:=trimL_le x
    split
    · rw[List.nil_append];omega
    · rw[List.cons_append,List.nil_append,wt_cons];omega
theorem wt_listL(s:Bs):wt (listL s)≤s.length+1:=by
  have:=wt_fl (split false false [] s)
  rw[wt_split]at this
  unfold listL;simp at this;omega
theorem wt_len(l:List Bs):l.length≤wt l:=by
  induction l with
  | nil=>simp
  | cons x l ih=>rw[wt_cons];simp;omega
theorem uq_sh:∀ (n:Nat) (a r:Bs),a.length≤n→uq a=some r→r.all shB=true∧r.length≤a.length:=by
  intro n
  induction n with
  | zero => intro a r ha h; have : a = [] := by cases a; rfl; simp at ha
            subst this;cases h
  | succ n ih =>
    intro a r ha h
    cases a with
    | nil=>cases h
    | cons c s =>
      simp only[List.length_cons]at ha
      by_cases h1:c=34
      · subst h1
        rw[uq_34]at h
        split at h
        · cases h;exact ⟨rfl,by simp⟩
        · cases h
      · by_cases h2:c=92
        · subst h2
          cases s with
          | nil=>rw[uq_92n]at h;cases h
          | cons d t =>
            rw[uq_92]at h
            split at h
            · rename_i hd
              simp only[Option.map_eq_some_iff]at h
              obtain ⟨r',h,rfl⟩:=h
              have:=ih t r' (by simp at ha;omega) h
              exact ⟨by rw[List.all_cons,hd,this.1];rfl,by simp;omega⟩
            · cases h
        · rw[uq_c h1 h2]at h
          split at h
          · rename_i hd
            simp only[Option.map_eq_some_iff]at h
            obtain ⟨r',h,rfl⟩:=h
            have:=ih s r' (by omega) h
            exact ⟨by rw[List.all_cons,hd,this.1];rfl,by simp;omega⟩
          · cases h
theorem unq_sh{a r:Bs}(h:unqL a=some r):r.all shB=true∧r.length≤a.length:=by
  cases a with
  | nil=>cases h
  | cons c t =>
    rw[unqL_cons]at h
    split at h
    · have:=uq_sh _ _ _ (Nat.le_refl _) h
      exact ⟨this.1,by simp;omega⟩
    · cases h
theorem listL_len(s:Bs):(listL s).length≤s.length+1:=Nat.le_trans (wt_len _) (wt_listL s)
end Go.Ab
end
section
set_option linter.all false
namespace Go.Proofs
open Go Go.Ab
theorem iter_fold{σ α γ ρ:Type}{step:σ→Option (σ ⊕ ρ)}(l:List α)(mk:γ→Nat→σ)(f:γ→α→γ)(fin:γ→ρ)(I:γ→Nat→Prop)
    (hI:∀ g i (h:i<l.length),I g i→I (f g l[i]) (i+1))
    (hs:∀ g i (h:i<l.length),I g i→step (mk g i)=some (.inl (mk (f g l[i]) (i+1))))
    (he:∀ g,I g l.length→step (mk g l.length)=some (.inr (fin g))) (g:γ) (h0:I g 0):iter step (mk g 0)=some (fin (l.foldl f g)):=by
  have main:∀ n i g,n+i=l.length→I g i→iter step (mk g i)=some (fin ((l.drop i).foldl f g)):=by
    intro n
    induction n with
    | zero =>
      intro i g hi hg
      obtain rfl:i=l.length:=by omega
      rw[iter_eq,he g hg,List.drop_length]
      rfl
    | succ n ih =>
      intro i g hi hg
      have h:i<l.length:=by omega
      rw[iter_eq,hs g i h hg,List.drop_eq_getElem_cons h,List.foldl_cons]
      exact ih (i+1) _ (by omega) (hI g i h hg)
  have:=main l.length 0 g (by omega) h0
  rwa [List.drop_zero]at this
theorem iter_first{σ α ρ:Type}{step:σ→Option (σ ⊕ ρ)}(l:List α)(mk:Nat→σ)(f:α→Option ρ)(fin:ρ)
    (hs:∀ i (h:i<l.length),f l[i]=none→step (mk i)=some (.inl (mk (i+1))))
    (hr:∀ i (h:i<l.length) r,f l[i]=some r→step (mk i)=some (.inr r))
    (he:step (mk l.length)=some (.inr fin)):iter step (mk 0)=some ((l.findSome? f).getD fin):=by
  have main:∀ n i,n+i=l.length→iter step (mk i)=some (((l.drop i).findSome? f).getD fin):=by
    intro n
    induction n with
    | zero =>
      intro i hi
      obtain rfl:i=l.length:=by omega
      rw[iter_eq,he,List.drop_length]
      rfl
    | succ n ih =>
      intro i hi
      have h:i<l.length:=by omega
      rw[List.drop_eq_getElem_cons h,List.findSome?_cons]
      cases hf:f l[i] with
      | none=>rw[iter_eq,hs i h hf];exact ih (i+1) (by omega)
      | some r=>rw[iter_eq,hr i h r hf];rfl
  have:=main l.length 0 (by omega)
  rwa [List.drop_zero]at this
end Go.Proofs
end
section
set_option linter.all false
set_option maxRecDepth 100000
open Go Go.Ab Go.Proofs Go.Proofs.YtbkobjepahlegaaGreatDoor
def fsz(l:List (Bs×Bs)):Nat:=(l.map fun f=>f.1.length+f.2.length+1).sum
theorem fsz_mem{l:List (Bs×Bs)}{f:Bs×Bs}(h:f ∈ l):f.1.length+f.2.length+1≤fsz l:=by
  induction l with
  | nil=>cases h
  | cons a l ih =>
    simp only[fsz,List.map_cons,List.sum_cons]at ih ⊢
    rcases List.mem_cons.1 h with rfl | h
    · omega
    · have:=ih h;omega
theorem fsz_len(l:List (Bs×Bs)):l.length≤fsz l:=by
  induction l with
  | nil=>exact Nat.zero_le _
  | cons a l ih=>simp only[fsz,List.map_cons,List.sum_cons,List.length_cons]at ih ⊢; omega
def getL(l:List (Bs×Bs))(n:Bs):List Bs:=l.filterMap fun f=>if lowL f.1=lowL n then some f.2 else none
def elemsL(l:List (Bs×Bs))(n:Bs):List Bs:=(getL l n).flatMap listL
theorem x0u(a b:Bs)(ha:a.length<2 ^ 60)(hb:b.length<2 ^ 60):m73 a b=some (lowL a==lowL b):=by
  simp only[m73,f0Y a ha,f0Y b hb,Option.bind_some]
theorem l0k(a b:Bs)(ha:a.length<2 ^ 47)(hb:b.length<2 ^ 47):m95 a b=some (lowL a==lowL b):=by
  simp only[m95,b0b a ha,b0b b hb,Option.bind_some]
def getF(n:Bs)(g:Bool×List Bs)(x:Bs×Bs):Bool×List Bs:=if lowL x.1=lowL n then (false,g.2++[x.2]) else g
theorem getF_fold(n:Bs)(l:List (Bs×Bs)):∀ g:Bool×List Bs,(l.foldl (getF n) g).2=g.2++getL l n:=by
  induction l with
  | nil=>intro g;simp[getL]
  | cons a l ih =>
    intro g
    rw[List.foldl_cons,ih]
    unfold getF getL
    by_cases h:lowL a.1=lowL n
    · simp[h]
    · simp[h]
theorem l0i(b:Bool)(l:List (Bs×Bs))(n:Bs)(hs:fsz l<2 ^ 30)(hn:n.length<2 ^ 30):∃ z,m29 b l n=some (z,getL l n):=by
  have hl:=fsz_len l
  have e:=iter_fold (step:=fun x:(Bs×Bool×List Bs×Bool×List (Bs×Bs)×Int×Int)=>q0y x.1 x.2.1 x.2.2.1 x.2.2.2.1 x.2.2.2.2.1 x.2.2.2.2.2.1 x.2.2.2.2.2.2) l
    (fun (g:Bool×List Bs) (i:Nat)=>(n,g.1,g.2,b,l,(l.length:Int),(i:Int))) (getF n) (fun g=>g) (fun g i=>g.2.length≤i)
    (fun g i h hg=>by
      unfold getF
      split
      · rw[List.length_append];simp only[List.length_singleton];omega
      · omega)
    (fun g i h hg=>by
      have hm:=fsz_mem (List.getElem_mem h)
      have e1:(l.getD i default)=l[i]:=by simp[List.getD_eq_getElem?_getD,h]
      simp only[q0y,k0S,Int.toNat_natCast,e1]
      rw[if_pos (by simpa using h),if_pos ⟨by omega,by omega⟩,x0u _ _ (by omega) (by omega),Option.bind_some,w64_eq _ (by omega) (by omega)]
      unfold getF
      by_cases c:lowL l[i].1=lowL n
      · rw[if_pos (by simpa using c),if_pos (by omega),if_pos c];rfl
      · rw[if_neg (by simpa using c),if_neg c];rfl)
    (fun g hg=>by
      simp only[q0y,o0L]
      rw[if_neg (by simp)]
      rfl) (true,[]) (by simp)
  have e2:m29 b l n=some (l.foldl (getF n) (true,[])):=e
  have h2:=getF_fold n l (true,[])
  rw[List.nil_append]at h2
  rw[e2,← h2]
  exact ⟨_,rfl⟩
end
section
set_option linter.all false
set_option maxRecDepth 100000
open Go Go.Ab Go.Proofs Go.Proofs.YtbkobjepahlegaaGreatDoor
def ssz(l:List Bs):Nat:=(l.map fun s=>s.length+1).sum
theorem ssz_drop(l:List Bs)(i:Nat)(h:i<l.length):ssz (l.drop i)=l[i].length+1+ssz (l.drop (i+1)):=by
  rw[List.drop_eq_getElem_cons h];rfl
theorem ssz_len(l:List Bs):l.length≤ssz l:=by
  induction l with
  | nil=>exact Nat.zero_le _
  | cons a l ih=>simp only[ssz,List.map_cons,List.sum_cons,List.length_cons]at ih ⊢; omega
theorem getL_ssz(l:List (Bs×Bs))(n:Bs):ssz (getL l n)≤fsz l:=by
  induction l with
  | nil=>exact Nat.zero_le _
  | cons a l ih =>
    unfold getL at ih ⊢
    by_cases h:lowL a.1=lowL n
    · simp only[List.filterMap_cons,h,if_true,ssz,List.map_cons,List.sum_cons,fsz]at ih ⊢; omega
    · simp only[List.filterMap_cons,h,if_false,ssz,fsz,List.map_cons,List.sum_cons]at ih ⊢; omega
def elF(g:Bool×List Bs)(x:Bs):Bool×List Bs:=(g.1&&(listL x).isEmpty,g.2++listL x)
theorem elF_fold(l:List Bs):∀ g:Bool×List Bs,(l.foldl elF g).2=g.2++l.flatMap listL:=by
  induction l with
  | nil=>intro g;simp
  | cons a l ih=>intro g;rw[List.foldl_cons,ih];simp[elF]
theorem p0u(b:Bool)(l:List (Bs×Bs))(n:Bs)(hs:fsz l<2 ^ 30)(hn:n.length<2 ^ 30):∃ z,m26 b l n=some (z,elemsL l n):=by
  obtain ⟨z,hz⟩:=l0i b l n hs hn
  have hg:=getL_ssz l n
  have hlen:=ssz_len (getL l n)
  unfold elemsL
  generalize getL l n=L at hz hg hlen
  have e:=iter_fold (step:=fun x:(Bool×List Bs×Bool×List Bs×Int×Int)=>q0x x.1 x.2.1 x.2.2.1 x.2.2.2.1 x.2.2.2.2.1 x.2.2.2.2.2) L
    (fun (g:Bool×List Bs) (i:Nat)=>(g.1,g.2,z,L,(L.length:Int),(i:Int))) elF (fun g=>g) (fun g i=>g.2.length+ssz (L.drop i)≤fsz l)
    (fun g i h hi=>by
      rw[ssz_drop L i h]at hi
      have:=listL_len L[i]
      simp only[elF,List.length_append]
      omega)
    (fun g i h hi=>by
      have e1:(L.getD i default)=L[i]:=by simp[List.getD_eq_getElem?_getD,h]
      rw[ssz_drop L i h]at hi
      have:=listL_len L[i]
      obtain ⟨y,hy⟩:=S0D L[i] (by omega)
      simp only[q0x,Int.toNat_natCast,e1]
      rw[if_pos (by simpa using h),if_pos ⟨by omega,by omega⟩,hy,Option.bind_some,if_pos (.inr (by dsimp only;omega)),w64_eq _ (by omega) (by omega)]
      rfl)
    (fun g hg=>by
      simp only[q0x,o0K]
      rw[if_neg (by simp)]
      rfl) (true,[]) (by simpa using hg)
  have e2:m26 b l n=some (L.foldl elF (true,[])):=by
    rw[m26,hz,Option.bind_some];exact e
  have h2:=elF_fold L (true,[])
  rw[List.nil_append]at h2
  rw[e2,← h2]
  exact ⟨_,rfl⟩
end
section
set_option linter.all false
set_option maxRecDepth 100000
open Go Go.Ab Go.Proofs Go.Proofs.YtbkobjepahlegaaGreatDoor
theorem elemsL_cons(a:Bs×Bs)(l:List (Bs×Bs))(n:Bs):elemsL (a::l) n=(if lowL a.1=lowL n then listL a.2 else [])++elemsL l n:=by
  unfold elemsL getL
  by_cases h:lowL a.1=lowL n<;>simp[h]
theorem fsz_drop(l:List (Bs×Bs))(i:Nat)(h:i<l.length):fsz (l.drop i)=(l[i].1.length+l[i].2.length+1)+fsz (l.drop (i+1)):=by
  rw[List.drop_eq_getElem_cons h];rfl
def reF(n:Bs)(g:Bool×List Bs)(x:Bs×Bs):Bool×List Bs:=if lowL x.1=lowL n then (g.1&&(listL x.2).isEmpty,g.2++listL x.2) else g
theorem reF_fold(n:Bs)(l:List (Bs×Bs)):∀ g:Bool×List Bs,(l.foldl (reF n) g).2=g.2++elemsL l n:=by
  induction l with
  | nil=>intro g;simp[elemsL,getL]
  | cons a l ih =>
    intro g
    rw[List.foldl_cons,ih,elemsL_cons]
    unfold reF
    by_cases h:lowL a.1=lowL n<;>simp[h]
theorem l0j(b:Bool)(l:List (Bs×Bs))(n:Bs)(hs:fsz l<2 ^ 30)(hn:n.length<2 ^ 30):∃ z,m49 b l n=some (z,elemsL l n):=by
  have hl:=fsz_len l
  have e:=iter_fold (step:=fun x:(Bool×List (Bs×Bs)×Bs×Bool×List Bs×Int)=>q0z x.1 x.2.1 x.2.2.1 x.2.2.2.1 x.2.2.2.2.1 x.2.2.2.2.2) l
    (fun (g:Bool×List Bs) (i:Nat)=>(b,l,n,g.1,g.2,(i:Int))) (reF n) (fun g=>g) (fun g i=>g.2.length+fsz (l.drop i)≤fsz l)
    (fun g i h hi=>by
      rw[fsz_drop l i h]at hi
      have:=listL_len l[i].2
      unfold reF
      split
      · simp only[List.length_append];omega
      · omega)
    (fun g i h hi=>by
      have e1:(l.getD i default)=l[i]:=by simp[List.getD_eq_getElem?_getD,h]
      rw[fsz_drop l i h]at hi
      have:=listL_len l[i].2
      obtain ⟨y,hy⟩:=S0P l[i].2 (by omega)
      simp only[q0z,o0U,e0i,Int.toNat_natCast,e1]
      rw[if_pos (by simpa using h),if_pos ⟨by omega,by omega⟩,l0k _ _ (by omega) (by omega),Option.bind_some,w64_eq _ (by omega) (by omega)]
      unfold reF
      by_cases c:lowL l[i].1=lowL n
      · rw[if_pos (by simpa using c),hy,Option.bind_some,if_pos (.inr (by dsimp only;omega)),if_pos c];rfl
      · rw[if_neg (by simpa using c),if_neg c];rfl)
    (fun g hg=>by
      simp only[q0z,o0V]
      rw[if_neg (by simp)]
      rfl) (true,[]) (by simp)
  have e2:m49 b l n=some (l.foldl (reF n) (true,[])):=e
  have h2:=reF_fold n l (true,[])
  rw[List.nil_append]at h2
  rw[e2,← h2]
  exact ⟨_,rfl⟩
end
section
set_option linter.all false
set_option maxRecDepth 100000
open Go Go.Ab Go.Proofs Go.Proofs.YtbkobjepahlegaaGreatDoor
def putM(k x:Bs)(kvs:Kvs):Kvs:=if hasM k kvs=true then appM k x kvs else kvs++[(k,[x])]
theorem has_app(k x k':Bs)(kvs:Kvs):hasM k' (appM k x kvs)=hasM k' kvs:=by
  induction kvs with
  | nil=>rfl
  | cons p r ih =>
    unfold appM
    by_cases e:p.1=k
    · rw[if_pos e,hasM_cons,hasM_cons]
    · rw[if_neg e,hasM_cons,hasM_cons,ih]
theorem val_app(k x k':Bs)(kvs:Kvs)(h:hasM k kvs=true):valM k' (appM k x kvs)=valM k' kvs++(if k=k' then [x] else []):=by
  induction kvs with
  | nil=>cases h
  | cons p r ih =>
    unfold appM
    by_cases e:p.1=k
    · rw[if_pos e]
      by_cases q:k=k'
      · subst q;rw[valM_eq k (p.1,p.2++[x]) r e,valM_eq k p r e,if_pos rfl]
      · have e':¬ p.1=k':=fun z=>q (e.symm.trans z)
        rw[valM_ne k' (p.1,p.2++[x]) r e',valM_ne k' p r e',if_neg q,List.append_nil]
    · rw[if_neg e]
      have ih':=ih (hasM_ne e h)
      by_cases q:p.1=k'
      · have:¬ k=k':=fun z=>e (q.trans z.symm)
        rw[valM_eq k' _ _ q,valM_eq k' p r q,if_neg this,List.append_nil]
      · rw[valM_ne k' _ _ q,valM_ne k' p r q,ih']
theorem val_snoc(k x k':Bs)(kvs:Kvs)(h:hasM k kvs=false):valM k' (kvs++[(k,[x])])=valM k' kvs++(if k=k' then [x] else []):=by
  induction kvs with
  | nil =>
    by_cases q:k=k'
    · subst q;simp[valM]
    · have:(k==k')=false:=beq_eq_false_iff_ne.2 q
      simp[valM,List.find?_cons,this,q]
  | cons p r ih =>
    have e:¬ p.1=k:=fun e=>by rw[hasM_cons,beq_iff_eq.2 e]at h;cases h
    rw[List.cons_append]
    by_cases q:p.1=k'
    · have:¬ k=k':=fun z=>e (q.trans z.symm)
      rw[valM_eq k' _ _ q,valM_eq k' p r q,if_neg this,List.append_nil]
    · rw[valM_ne k' _ _ q,valM_ne k' p r q,ih (hasM_ne e h)]
theorem has_put(k x k':Bs)(kvs:Kvs):hasM k' (putM k x kvs)=(hasM k' kvs||k==k'):=by
  unfold putM
  by_cases h:hasM k kvs=true
  · rw[if_pos h,has_app]
    by_cases q:k=k'
    · subst q;rw[h];rfl
    · rw[beq_eq_false_iff_ne.2 q,Bool.or_false]
  · rw[if_neg h];simp[hasM]
theorem val_put(k x k':Bs)(kvs:Kvs):valM k' (putM k x kvs)=valM k' kvs++(if k=k' then [x] else []):=by
  unfold putM
  by_cases h:hasM k kvs=true
  · rw[if_pos h,val_app k x k' kvs h]
  · rw[if_neg h,val_snoc k x k' kvs (by simpa using h)]
def ccB:Bs:=[99,97,99,104,101,45,99,111,110,116,114,111,108]
theorem elem_len{l:List (Bs×Bs)}{n x:Bs}(h:x ∈ elemsL l n):x.length≤fsz l:=by
  unfold elemsL getL at h
  simp only[List.mem_flatMap,List.mem_filterMap]at h
  obtain ⟨v,⟨f,hf,hv⟩,hx⟩:=h
  split at hv
  · cases hv
    have h1:=fsz_mem hf
    have h2:=wt_listL f.2
    have h3:x.length+1≤wt (listL f.2):=by
      generalize listL f.2=L at hx
      induction L with
      | nil=>cases hx
      | cons a L ih =>
        simp only[wt,List.map_cons,List.sum_cons]at ih ⊢
        rcases List.mem_cons.1 hx with rfl | hx
        · omega
        · have:=ih hx;omega
    omega
  · cases hv
theorem elems_len(l:List (Bs×Bs))(n:Bs):(elemsL l n).length≤fsz l:=by
  induction l with
  | nil=>exact Nat.zero_le _
  | cons a l ih =>
    rw[elemsL_cons,List.length_append]
    have:=listL_len a.2
    simp only[fsz,List.map_cons,List.sum_cons]at ih ⊢
    split
    · omega
    · simp only[List.length_nil];omega
def saidF(kvs:Kvs)(s:Bs):Kvs:=match pairL s with | some x=>putM x.1 x.2 kvs | none=>kvs
def saidL(l:List (Bs×Bs)):Kvs:=(elemsL l ccB).foldl saidF []
theorem J0S(b:Bool)(l:List (Bs×Bs))(hs:fsz l<2 ^ 30):m59 b l=some (saidL l):=by
  obtain ⟨z,hz⟩:=p0u b l ccB hs (by decide)
  have hm:∀ x,x ∈ elemsL l ccB→x.length≤fsz l:=fun x=>elem_len
  have hlen:=elems_len l ccB
  unfold saidL
  generalize elemsL l ccB=L at hz hm hlen
  have e:=iter_fold (step:=fun x:(Bool×List Bs×Int×Int×Kvs)=>q0A x.1 x.2.1 x.2.2.1 x.2.2.2.1 x.2.2.2.2) L
    (fun (g:Kvs) (i:Nat)=>(z,L,(L.length:Int),(i:Int),g)) saidF (fun g=>g) (fun g i=>∀ k,(valM k g).length≤i)
    (fun g i h hi k=>by
      have:=hi k
      unfold saidF
      split
      · rw[val_put,List.length_append]
        split
        · simp only[List.length_singleton];omega
        · simp only[List.length_nil];omega
      · omega)
    (fun g i h hi=>by
      have e1:(L.getD i default)=L[i]:=by simp[List.getD_eq_getElem?_getD,h]
      have hx:=hm L[i] (List.getElem_mem h)
      simp only[q0A,h0x,Int.toNat_natCast,e1]
      rw[if_pos (by simpa using h),if_pos ⟨by omega,by omega⟩,L0p _ (by omega),Option.bind_some,w64_eq _ (by omega) (by omega)]
      unfold saidF
      cases hp:pairL L[i] with
      | none=>rfl
      | some x =>
        have:=hi x.1
        refine (if_pos rfl).trans ?_
        show _=some (Sum.inl (z,L,(L.length:Int),((i+1:Nat):Int),putM x.1 x.2 g))
        by_cases c:hasM x.1 g=true
        · have q:putM x.1 x.2 g=appM x.1 x.2 g:=if_pos c
          rw[q]
          exact (if_pos c).trans (if_pos (by show ((valM x.1 g).length+1)*16≤140737488355328;omega))
        · have q:putM x.1 x.2 g=g++[(x.1,[x.2])]:=if_neg c
          rw[q]
          exact if_neg c)
    (fun g hg=>by
      simp only[q0A,o0X]
      rw[if_neg (by simp)]
      rfl) [] (by intro k;exact Nat.zero_le _)
  rw[m59]
  show (m26 b l ccB).bind _=_
  rw[hz,Option.bind_some]
  exact e
end
section
set_option linter.all false
set_option maxRecDepth 100000
open Go Go.Ab Go.Proofs Go.Proofs.YtbkobjepahlegaaGreatDoor
theorem B0o(b:Bool)(L:List Bs)(kvs:Kvs)(hL:L.length<2 ^ 60):∃ r,B0n b L kvs=some r∧decide (0≤r)=L.any fun n=>hasM n kvs:=by
  refine iter_post (fun s=>∃ i:Nat,s=(b,L,(L.length:Int),(i:Int))∧i≤L.length∧(L.any fun n=>hasM n kvs)=((L.drop i).any fun n=>hasM n kvs)) (fun s=>L.length+1 - s.2.2.2.toNat) _ ?_ _ ⟨0,rfl,by omega,by simp⟩
  rintro s ⟨i,rfl,hi,ha⟩
  by_cases h:i<L.length
  · have e1:(L.getD i default)=L[i]:=by simp[List.getD_eq_getElem?_getD,h]
    have ha':=ha
    rw[List.drop_eq_getElem_cons h,List.any_cons]at ha'
    simp only[g0b,Int.toNat_natCast,e1]
    rw[if_pos (by simpa using h),if_pos ⟨by omega,by omega⟩,S0Z,Option.bind_some,w64_eq _ (by omega) (by omega)]
    by_cases c:hasM L[i] kvs=true
    · right
      rw[if_pos c]
      refine ⟨_,rfl,?_⟩
      rw[ha',c]
      simp
    · left
      rw[if_neg c]
      refine ⟨_,rfl,⟨i+1,rfl,by omega,?_⟩,?_⟩
      · rw[ha',Bool.eq_false_iff.2 c,Bool.false_or]
      · show L.length+1 - ((i:Int)+1).toNat<L.length+1 - (i:Int).toNat
        omega
  · right
    obtain rfl:i=L.length:=by omega
    simp only[g0b,e0c]
    rw[if_neg (by simp)]
    refine ⟨-1,rfl,?_⟩
    rw[ha,List.drop_length]
    rfl
theorem x0r(b:Bool)(L:List Bs)(kvs:Kvs)(hL:L.length<2 ^ 60):m60 b L kvs=some (L.any fun n=>hasM n kvs):=by
  obtain ⟨r,h1,h2⟩:=B0o b L kvs hL
  simp only[m60,T0q,h1,Option.bind_some,h2]
end
section
set_option linter.all false
set_option maxRecDepth 100000
open Go Go.Ab Go.Proofs Go.Proofs.YtbkobjepahlegaaGreatDoor
def digB(c:UInt8):Bool:=decide (48≤c.toNat)&&decide (c.toNat≤57)
def valF(n:Nat)(c:UInt8):Nat:=10*n+(c.toNat - 48)
def valN(s:Bs):Nat:=s.foldl valF 0
def numL(s:Bs):Int:=if s≠[]∧s.all digB=true then ((min (valN s) 2147483647:Nat):Int) else 0
def capF(n:Nat)(c:UInt8):Nat:=if 2147483647<10*n+(c.toNat - 48) then 2147483647 else 10*n+(c.toNat - 48)
theorem capF_eq(l:Bs):∀ n m:Nat,m=min n 2147483647→l.foldl capF m=min (l.foldl valF n) 2147483647:=by
  induction l with
  | nil=>intro n m h;exact h
  | cons c l ih =>
    intro n m h
    rw[List.foldl_cons,List.foldl_cons]
    refine ih _ _ ?_
    subst h
    unfold capF valF
    split<;>omega
theorem subB(c:UInt8)(h:digB c=true):(c - 48).toNat=c.toNat - 48:=by
  simp only[digB,Bool.and_eq_true,decide_eq_true_eq]at h
  rw[UInt8.toNat_sub]
  have:=c.toNat_lt
  simp
  omega
theorem W0O(s:Bs)(hs:s.length<2 ^ 60)(hd:s.all digB=true):p0q s 0 0=some ((min (valN s) 2147483647:Nat):Int):=by
  have e:=iter_fold (step:=fun x:(Bs×Int×Int)=>h0J x.1 x.2.1 x.2.2) s (fun (g:Nat) (i:Nat)=>(s,(g:Int),(i:Int))) capF (fun g=>(g:Int)) (fun g i=>g≤2147483647)
    (fun g i h hi=>by unfold capF;split<;>omega)
    (fun g i h hi=>by
      have e1:(s.getD i 0)=s[i]:=by simp[List.getD_eq_getElem?_getD,h]
      have hc:digB s[i]=true:=List.all_eq_true.1 hd _ (List.getElem_mem h)
      have h57:s[i].toNat - 48≤9:=by simp only[digB,Bool.and_eq_true,decide_eq_true_eq]at hc;omega
      simp only[h0J,l0e,Int.toNat_natCast,e1,subB _ hc]
      rw[if_pos (by simpa using h),if_pos ⟨by omega,by omega⟩,w64_eq (10*(g:Int)) (by omega) (by omega),w64_eq (10*(g:Int)+_) (by omega) (by omega),w64_eq ((i:Int)+1) (by omega) (by omega)]
      unfold capF
      by_cases q:2147483647<10*g+(s[i].toNat - 48)
      · rw[if_pos (by simp only[decide_eq_true_eq];omega),if_pos q];rfl
      · rw[if_neg (by simp only[decide_eq_true_eq];omega),if_neg q]
        refine congrArg (fun z=>some (Sum.inl (s,z,(i:Int)+1))) ?_
        omega)
    (fun g hg=>by
      simp only[h0J,p0k]
      rw[if_neg (by simp)]
      rfl) 0 (by omega)
  have e2:p0q s 0 0=some ((s.foldl capF 0:Nat):Int):=e
  rw[e2,capF_eq s 0 0 (by omega)]
  rfl
theorem J0Z(s:Bs)(hs:s.length<2 ^ 60):m93 s=some (numL s):=by
  unfold m93 numL
  by_cases h0:s=[]
  · subst h0;rfl
  · have hl:¬ ((s.length:Int)==0)=true:=by
      intro h
      have:s.length=0:=by simpa using h
      exact h0 (List.eq_nil_of_length_eq_zero this)
    rw[if_neg hl]
    have step:∀ i (h:i<s.length),g0r s 0 (i:Int)=(if digB s[i]=true then some (.inl (s,0,((i+1:Nat):Int))) else some (.inr 0)):=by
      intro i h
      have e1:(s.getD i 0)=s[i]:=by simp[List.getD_eq_getElem?_getD,h]
      simp only[g0r,Int.toNat_natCast,e1]
      rw[if_pos (by simpa using h),if_pos ⟨by omega,by omega⟩]
      unfold l0d digB
      have a1:(s[i]<(48:UInt8))=(s[i].toNat<48):=rfl
      have a2:((57:UInt8)<s[i])=(57<s[i].toNat):=rfl
      simp only[a1,a2,decide_eq_true_eq,Bool.and_eq_true]
      by_cases c1:s[i].toNat<48
      · rw[if_pos c1,if_pos trivial,if_neg (by omega)]
      · rw[if_neg c1]
        by_cases c2:57<s[i].toNat
        · rw[if_pos c2,if_neg (by omega)]
        · rw[if_neg c2,if_pos (by omega),w64_eq _ (by omega) (by omega)];rfl
    by_cases hd:s.all digB=true
    · rw[if_pos ⟨h0,hd⟩]
      have e:=iter_first (step:=fun x:(Bs×Int×Int)=>g0r x.1 x.2.1 x.2.2) s (fun i=>(s,0,(i:Int))) (fun _=>(none:Option Int)) ((min (valN s) 2147483647:Nat):Int)
        (fun i h _=>by
          have:=step i h
          rw[if_pos (List.all_eq_true.1 hd _ (List.getElem_mem h))]at this
          exact this)
        (fun i h r hr=>by cases hr)
        (by
          simp only[g0r,p0j]
          rw[if_neg (by simp),W0O s hs hd]
          rfl)
      have hn:(s.findSome? fun _=>(none:Option Int))=none:=by simp
      rw[hn]at e
      exact e
    · rw[if_neg (by intro h;exact hd h.2)]
      refine iter_to (fun x=>∃ i:Nat,x=(s,0,(i:Int))∧i≤s.length∧(s.drop i).all digB=false) (fun x=>s.length+1 - x.2.2.toNat) (some 0) ?_ _ ⟨0,rfl,by omega,by simpa using hd⟩
      rintro x ⟨i,rfl,hi,ha⟩
      by_cases h:i<s.length
      · rw[List.drop_eq_getElem_cons h,List.all_cons]at ha
        have:=step i h
        by_cases c:digB s[i]=true
        · left
          rw[if_pos c]at this
          refine ⟨_,this,⟨i+1,rfl,by omega,by rw[c,Bool.true_and]at ha;exact ha⟩,?_⟩
          show s.length+1 - ((i+1:Nat):Int).toNat<s.length+1 - (i:Int).toNat
          omega
        · right
          rw[if_neg c]at this
          exact this
      · obtain rfl:i=s.length:=by omega
        rw[List.drop_length]at ha
        cases ha
end
section
set_option linter.all false
set_option maxRecDepth 100000
open Go Go.Ab Go.Proofs Go.Proofs.YtbkobjepahlegaaGreatDoor
def decR(s:Bs):Int×Int:=if s≠[]∧s.all digB=true then (if valN s≤9007199254740991 then ((valN s:Int),0) else (0,3)) else (0,5)
theorem x0n(c:Int)(h0:0≤c)(h1:c<2 ^ 31):L0K c=some (if 48≤c∧c≤57 then c - 48 else -1):=by
  unfold L0K k0Q
  simp only[decide_eq_true_eq]
  by_cases a:48≤c
  · rw[if_pos a]
    by_cases b:c≤57
    · rw[if_pos b,if_pos ⟨a,b⟩]
      have:w32 (c - 48)=c - 48:=by simp[w32,IntKind.wrap,IntKind.min,IntKind.max,IntKind.bits,IntKind.signed];omega
      rw[this,w64_eq _ (by omega) (by omega)]
    · rw[if_neg b,if_neg (by omega)]
  · rw[if_neg a,if_neg (by simp),if_neg (by omega)]
theorem val_take(s:Bs)(p:Nat)(h:p<s.length):valN (s.take (p+1))=10*valN (s.take p)+(s[p].toNat - 48):=by
  unfold valN
  rw[List.take_succ_eq_append_getElem h,List.foldl_append]
  rfl
theorem all_take(s:Bs)(p:Nat)(h:p<s.length):(s.take (p+1)).all digB=((s.take p).all digB&&digB s[p]):=by
  rw[List.take_succ_eq_append_getElem h,List.all_append,List.all_cons,List.all_nil,Bool.and_true]
theorem uc_lt(s:Bs)(p:Nat)(h:p<s.length)(hl:128≤(s.getD p 0).toNat):uc s p<2 ^ 31:=by
  unfold uc
  rw[Lib.decode_at,S_get!,S_get!,S_get!,S_get!,S_size]
  have a0:=(s.getD p 0).toNat_lt
  have a1:=(s.getD (p+1) 0).toNat_lt
  have a2:=(s.getD (p+2) 0).toNat_lt
  have a3:=(s.getD (p+3) 0).toNat_lt
  generalize (s.getD p 0).toNat=b0 at *
  generalize (s.getD (p+1) 0).toNat=b1 at *
  generalize (s.getD (p+2) 0).toNat=b2 at *
  generalize (s.getD (p+3) 0).toNat=b3 at *
  unfold Lib.decodeN
  repeat' split
  all_goals first | omega | (dsimp only;omega) | simp
theorem L0J(s:Bs)(hs:s.length<2 ^ 30):S0m s 10=some (decR s):=by
  unfold S0m
  by_cases h0:s=[]
  · subst h0;rfl
  · rw[if_neg (by simpa using h0)]
    have:=iter_post (f:=fun x:(Int×Int×Bool×Bs×Nat)=>b0c x.1 x.2.1 x.2.2.1 x.2.2.2.1 x.2.2.2.2)
      (fun x=>∃ n lo p,x=((10:Int),n,lo,s,p)∧p≤s.length∧(s.take p).all digB=true∧(lo=true→9007199254740991<valN (s.take p))∧(lo=false→n=(valN (s.take p):Int)∧valN (s.take p)≤9007199254740991))
      (fun x=>s.length - x.2.2.2.2) (fun r=>r=decR s) ?_ (10,0,false,s,0) ⟨0,false,0,rfl,by omega,rfl,by simp,fun _=>⟨rfl,by simp[valN]⟩⟩
    · obtain ⟨r,h1,h2⟩:=this
      rw[← h2];exact h1
    rintro x ⟨n,lo,p,rfl,hp,hd,hlo,hn⟩
    by_cases h:p<s.length
    · have e1:s.getD p 0=s[p]:=by simp[List.getD_eq_getElem?_getD,h]
      have hM:b0c 10 n lo s p=(L0K (uc s p:Int)).bind fun yr5=>if (decide (yr5<0))=true then some (.inr ((0:Int),(5:Int))) else if lo=true then b0W 10 n true yr5 true s (p+uw s p) else if ((10:Int)==0)=false then b0W 10 n false yr5 (decide ((wu64 ((wu64 (9007199254740991 - (wu64 yr5))).tdiv 10))<n)) s (p+uw s p) else none:=by
        unfold b0c;rw[if_pos (by simpa using h)]
      have bad:∀ q:Int,L0K (uc s p:Int)=some q→q<0→digB s[p]=false→∃ r,b0c 10 n lo s p=some (.inr r)∧r=decR s:=by
        intro q hq hneg hdig
        refine ⟨(0,5),?_,?_⟩
        · rw[hM,hq,Option.bind_some,if_pos (by simpa using hneg)]
        · unfold decR
          rw[if_neg]
          rintro ⟨_,ha⟩
          have:=List.all_eq_true.1 ha _ (List.getElem_mem h)
          rw[hdig]at this;cases this
      by_cases hlow:s[p].toNat<128
      · obtain ⟨u1,u2⟩:=rune_lo h (by rw[e1];exact hlow)
        rw[e1]at u1
        have hm:=x0n (uc s p:Int) (by omega) (by rw[u1];omega)
        by_cases hc:digB s[p]=true
        · left
          have hc':=hc
          simp only[digB,Bool.and_eq_true,decide_eq_true_eq]at hc'
          rw[if_pos (by rw[u1];omega),u1]at hm
          have hv:=val_take s p h
          have ha:=all_take s p h
          rw[hd,hc]at ha
          dsimp only
          have hpos:¬ (decide (((s[p].toNat:Int) - 48)<0)=true):=by simp only[decide_eq_true_eq];omega
          rw[hM,u1,hm,Option.bind_some,if_neg hpos,u2]
          cases lo with
          | true =>
            rw[if_pos rfl]
            refine ⟨_,rfl,⟨n,true,p+1,rfl,by omega,ha,fun _=>by have:=hlo rfl;omega,by simp⟩,?_⟩
            show s.length - (p+1)<s.length - p
            omega
          | false =>
            obtain ⟨hn1,hn2⟩:=hn rfl
            rw[if_neg (by simp),if_pos (by decide)]
            have hdec:(wu64 ((wu64 (9007199254740991 - (wu64 ((s[p].toNat:Int) - 48)))).tdiv 10))=((9007199254740991 - ((s[p].toNat:Int) - 48)) / 10):=by
              rw[wu64m ((s[p].toNat:Int) - 48),Int.emod_eq_of_lt (by omega) (by omega),wu64m (9007199254740991 - _),Int.emod_eq_of_lt (by omega) (by omega),Int.tdiv_eq_ediv_of_nonneg (by omega),wu64m,Int.emod_eq_of_lt (by omega) (by omega)]
            rw[hdec]
            unfold b0W
            by_cases big:9007199254740991<10*valN (s.take p)+(s[p].toNat - 48)
            · rw[if_pos (by simp only[decide_eq_true_eq];omega)]
              refine ⟨_,rfl,⟨n,true,p+1,rfl,by omega,ha,fun _=>by omega,by simp⟩,?_⟩
              show s.length - (p+1)<s.length - p
              omega
            · rw[if_neg (by simp only[decide_eq_true_eq];omega)]
              refine ⟨_,rfl,⟨_,false,p+1,rfl,by omega,ha,by simp,fun _=>⟨?_,by omega⟩⟩,?_⟩
              · rw[wu64m (n*10),wu64m ((s[p].toNat:Int) - 48),wu64m,hn1,hv]
                omega
              · show s.length - (p+1)<s.length - p
                omega
        · right
          rw[if_neg (by
            rw[u1]
            intro q
            apply hc
            simp only[digB,Bool.and_eq_true,decide_eq_true_eq]
            omega)]at hm
          exact bad _ hm (by omega) (by simpa using hc)
      · right
        obtain ⟨u1,u2,u3,_⟩:=rune_hi h (by rw[e1];omega)
        have hm:=x0n (uc s p:Int) (by omega) (by have:=uc_lt s p h (by rw[e1];omega);omega)
        rw[if_neg (by omega)]at hm
        exact bad _ hm (by omega) (by
          simp only[digB,Bool.and_eq_false_iff,decide_eq_false_iff_not]
          omega)
    · right
      obtain rfl:p=s.length:=by omega
      rw[List.take_length]at hd hlo hn
      dsimp only
      have hR:decR s=(if valN s≤9007199254740991 then ((valN s:Int),0) else (0,3)):=if_pos ⟨h0,hd⟩
      rw[hR]
      unfold b0c i0P
      rw[if_neg (by simp)]
      cases lo with
      | true =>
        have:=hlo rfl
        rw[if_neg (by omega:¬ valN s≤9007199254740991)]
        exact ⟨_,rfl,rfl⟩
      | false =>
        obtain ⟨hn1,hn2⟩:=hn rfl
        rw[if_pos hn2,hn1]
        exact ⟨_,rfl,rfl⟩
end
section
set_option linter.all false
set_option maxRecDepth 100000
open Go Go.Ab Go.Proofs Go.Proofs.YtbkobjepahlegaaGreatDoor
theorem m0P(s:Bs)(hs:s.length<2 ^ 30):y0a s=some (numL s):=by
  unfold y0a T0h
  rw[L0J s hs,Option.bind_some,Option.bind_some]
  unfold decR numL
  by_cases h:s≠[]∧s.all digB=true
  · rw[if_pos h,if_pos h]
    by_cases c:valN s≤9007199254740991
    · rw[if_pos c]
      simp only[beq_self_eq_true,if_true]
      have:min2 (valN s:Int) 2147483647=((min (valN s) 2147483647:Nat):Int):=by
        unfold min2;split<;>omega
      rw[this,w64_eq _ (by omega) (by omega)]
    · rw[if_neg c]
      have:(min (valN s) 2147483647:Nat)=2147483647:=by omega
      rw[this]
      rfl
  · rw[if_neg h,if_neg h];rfl
end
section
set_option linter.all false
set_option maxRecDepth 100000
open Go Go.Ab Go.Proofs Go.Proofs.YtbkobjepahlegaaGreatDoor
def minL(g:List Int):Int:=g.tail.foldl min2 (g.getD 0 default)
def maxL(g:List Int):Int:=g.tail.foldl max2 (g.getD 0 default)
theorem tail_get(g:List Int)(i:Nat)(h:i<g.tail.length):g.getD (i+1) default=g.tail[i]:=by
  cases g with
  | nil=>cases h
  | cons a r =>
    have h':i<r.length:=h
    simp[List.getD_eq_getElem?_getD,h']
theorem J0T(g:List Int)(h0:g≠[])(hg:g.length<2 ^ 60):m62 g=some (minL g,g):=by
  have hl:0<g.length:=by cases g with | nil=>exact absurd rfl h0 | cons=>simp
  have ht:g.tail.length=g.length - 1:=List.length_tail
  unfold m62
  rw[if_neg (by simp only[decide_eq_true_eq];omega),if_pos (by omega)]
  have e:=iter_fold (step:=fun x:(Int×Int×List Int)=>h0H x.1 x.2.1 x.2.2) g.tail (fun (m:Int) (i:Nat)=>(m,((i+1:Nat):Int),g)) min2 (fun m=>(m,g)) (fun _ _=>True)
    (fun _ _ _ _=>trivial)
    (fun m i h _=>by
      simp only[h0H,Int.toNat_natCast,tail_get g i h]
      rw[if_pos (by simp only[decide_eq_true_eq];omega),if_pos ⟨by omega,by omega⟩,w64_eq _ (by omega) (by omega)]
      rfl)
    (fun m _=>by
      simp only[h0H,p0b]
      rw[if_neg (by simp only[decide_eq_true_eq];omega)]
      rfl) (g.getD 0 default) trivial
  exact e
theorem S0H(g:List Int)(h0:g≠[])(hg:g.length<2 ^ 60):m81 g=some (maxL g,g):=by
  have hl:0<g.length:=by cases g with | nil=>exact absurd rfl h0 | cons=>simp
  have ht:g.tail.length=g.length - 1:=List.length_tail
  unfold m81
  rw[if_neg (by simp only[decide_eq_true_eq];omega),if_pos (by omega)]
  have e:=iter_fold (step:=fun x:(Int×Int×List Int)=>h0I x.1 x.2.1 x.2.2) g.tail (fun (m:Int) (i:Nat)=>(m,((i+1:Nat):Int),g)) max2 (fun m=>(m,g)) (fun _ _=>True)
    (fun _ _ _ _=>trivial)
    (fun m i h _=>by
      simp only[h0I,Int.toNat_natCast,tail_get g i h]
      rw[if_pos (by simp only[decide_eq_true_eq];omega),if_pos ⟨by omega,by omega⟩,w64_eq _ (by omega) (by omega)]
      rfl)
    (fun m _=>by
      simp only[h0I,p0f]
      rw[if_neg (by simp only[decide_eq_true_eq];omega)]
      rfl) (g.getD 0 default) trivial
  exact e
end
section
set_option linter.all false
set_option maxRecDepth 100000
open Go Go.Ab Go.Proofs Go.Proofs.YtbkobjepahlegaaGreatDoor
def ofMin(V:List Bs):Int:=if V=[] then -1 else minL (V.map numL)
def ofMax(V:List Bs):Int:=if V=[] then -1 else maxL (V.map numL)
def numF(g:List Int)(v:Bs):List Int:=g++[numL v]
theorem numF_fold(V:List Bs):∀ g,V.foldl numF g=g++V.map numL:=by
  induction V with
  | nil=>intro g;simp
  | cons v V ih=>intro g;rw[List.foldl_cons,ih];simp[numF]
theorem x0s(b:Bool)(V:List Bs)(hV:V.length<2 ^ 40)(hv:∀ v ∈ V,v.length<2 ^ 30):m61 b V=some (ofMin V):=by
  have e:=iter_fold (step:=q0B) V (fun (g:List Int) (i:Nat)=>match g with | []=>.inl (b,V,(V.length:Int),(i:Int)) | _=>.inr (b,V,(V.length:Int),(i:Int),g)) numF (fun g=>if g=[] then -1 else minL g) (fun g i=>g.length=i)
    (fun g i h hi=>by simp[numF,hi])
    (fun g i h hi=>by
      have e1:(V.getD i default)=V[i]:=by simp[List.getD_eq_getElem?_getD,h]
      have hn:=m0P V[i] (hv _ (List.getElem_mem h))
      cases g with
      | nil =>
        simp only[q0B,g0m,o0Y,o0Z,Int.toNat_natCast,e1]
        rw[if_pos (by simpa using h),if_pos ⟨by omega,by omega⟩,hn,Option.bind_some,w64_eq _ (by omega) (by omega)]
        rfl
      | cons a g =>
        simp only[q0B,g0n,e0j,e0k,Int.toNat_natCast,e1]
        rw[if_pos (by simpa using h),if_pos ⟨by omega,by omega⟩,hn,Option.bind_some,if_pos (by omega),w64_eq _ (by omega) (by omega)]
        rfl)
    (fun g hg=>by
      cases g with
      | nil =>
        simp only[q0B,g0m,p0a]
        rw[if_neg (by simp)]
        rfl
      | cons a g =>
        simp only[q0B,g0n,e0l]
        rw[if_neg (by simp),if_neg (by simp;omega),J0T (a::g) (by simp) (by omega)]
        rfl) [] rfl
  rw[numF_fold,List.nil_append]at e
  have e2:m61 b V=_:=e
  rw[e2]
  unfold ofMin
  cases V<;>rfl
theorem L0M(b:Bool)(V:List Bs)(hV:V.length<2 ^ 40)(hv:∀ v ∈ V,v.length<2 ^ 30):S0z b V=some (ofMax V):=by
  have e:=iter_fold (step:=h0G) V (fun (g:List Int) (i:Nat)=>match g with | []=>.inl (b,V,(V.length:Int),(i:Int)) | _=>.inr (b,V,(V.length:Int),(i:Int),g)) numF (fun g=>if g=[] then -1 else maxL g) (fun g i=>g.length=i)
    (fun g i h hi=>by simp[numF,hi])
    (fun g i h hi=>by
      have e1:(V.getD i default)=V[i]:=by simp[List.getD_eq_getElem?_getD,h]
      have hn:=m0P V[i] (hv _ (List.getElem_mem h))
      cases g with
      | nil =>
        simp only[h0G,c0R,i0R,i0S,Int.toNat_natCast,e1]
        rw[if_pos (by simpa using h),if_pos ⟨by omega,by omega⟩,hn,Option.bind_some,w64_eq _ (by omega) (by omega)]
        rfl
      | cons a g =>
        simp only[h0G,c0S,c0L,c0M,Int.toNat_natCast,e1]
        rw[if_pos (by simpa using h),if_pos ⟨by omega,by omega⟩,hn,Option.bind_some,if_pos (by omega),w64_eq _ (by omega) (by omega)]
        rfl)
    (fun g hg=>by
      cases g with
      | nil =>
        simp only[h0G,c0R,i0T]
        rw[if_neg (by simp)]
        rfl
      | cons a g =>
        simp only[h0G,c0S,c0N]
        rw[if_neg (by simp),if_neg (by simp;omega),S0H (a::g) (by simp) (by omega)]
        rfl) [] rfl
  rw[numF_fold,List.nil_append]at e
  have e2:S0z b V=_:=e
  rw[e2]
  unfold ofMax
  cases V<;>rfl
end
section
set_option linter.all false
set_option maxRecDepth 100000
open Go Go.Ab Go.Proofs Go.Proofs.YtbkobjepahlegaaGreatDoor
def msB:Bs:=[109,97,120,45,115,116,97,108,101]
def staleN(v:Bs):Int:=if v=[] then 2147483647 else numL v
def ofStale(V:List Bs):Int:=if V=[] then -1 else minL (V.map staleN)
def pat(V:List Bs)(i:Nat):List Int:=(V.take i).map staleN++(V.drop i).map numL
theorem pat_len(V:List Bs)(i:Nat):(pat V i).length=V.length:=by
  simp only[pat,List.length_append,List.length_map,List.length_take,List.length_drop];omega
theorem set_mid(A:List Int)(n x:Int)(R:List Int):(A++n::R).set A.length x=A++x::R:=by
  induction A with
  | nil=>rfl
  | cons a A ih=>simp only[List.cons_append,List.length_cons,List.set_cons_succ,ih]
theorem pat_set(V:List Bs)(i:Nat)(h:i<V.length):(pat V i).set i (staleN V[i])=pat V (i+1):=by
  unfold pat
  rw[List.drop_eq_getElem_cons h,List.map_cons,List.take_succ_eq_append_getElem h,List.map_append]
  have hl:((V.take i).map staleN).length=i:=by rw[List.length_map,List.length_take];omega
  have:=set_mid ((V.take i).map staleN) (numL V[i]) (staleN V[i]) ((V.drop (i+1)).map numL)
  rw[hl]at this
  rw[this]
  simp
theorem pat_keep(V:List Bs)(i:Nat)(h:i<V.length)(hv:V[i]≠[]):pat V (i+1)=pat V i:=by
  unfold pat
  rw[List.drop_eq_getElem_cons h,List.map_cons,List.take_succ_eq_append_getElem h,List.map_append]
  simp[staleN,hv]
theorem L0O(g:List Int)(h0:g≠[])(hg:g.length<2 ^ 60):S0B g.length g=some (minL g,g):=by
  have hl:0<g.length:=by cases g with | nil=>exact absurd rfl h0 | cons=>simp
  have ht:g.tail.length=g.length - 1:=List.length_tail
  unfold S0B
  rw[if_neg (by simp only[decide_eq_true_eq];omega),if_pos (by omega),if_pos hl]
  have e:=iter_fold (step:=fun x:(Nat×Int×Int×List Int)=>d0A x.1 x.2.1 x.2.2.1 x.2.2.2) g.tail (fun (m:Int) (i:Nat)=>(g.length,m,((i+1:Nat):Int),g)) min2 (fun m=>(m,g)) (fun _ _=>True)
    (fun _ _ _ _=>trivial)
    (fun m i h _=>by
      simp only[d0A,Int.toNat_natCast,tail_get g i h]
      rw[if_pos (by simp only[decide_eq_true_eq];omega),if_pos ⟨by omega,by omega⟩,if_pos (by omega),w64_eq _ (by omega) (by omega)]
      rfl)
    (fun m _=>by
      simp only[d0A,i0X]
      rw[if_neg (by simp only[decide_eq_true_eq];omega)]
      rfl) (g.getD 0 default) trivial
  exact e
theorem S0I(kvs:Kvs)(h0:valM msB kvs≠[])(hV:(valM msB kvs).length<2 ^ 40):∃ g,m82 ((valM msB kvs).map numL) kvs=some (minL ((valM msB kvs).map staleN),g):=by
  have hdef:m82 ((valM msB kvs).map numL) kvs=iter (m0X kvs) (.inl (!(hasM msB kvs),valM msB kvs,((valM msB kvs).length:Int),(0:Int),(valM msB kvs).map numL)):=rfl
  rw[hdef]
  generalize (!(hasM msB kvs))=b
  generalize valM msB kvs=V at h0 hV
  have hend:pat V V.length=V.map staleN:=by simp[pat]
  have hbeg:pat V 0=V.map numL:=by simp[pat]
  have hne:∀ i,pat V i≠[]:=fun i e=>by
    have:=pat_len V i
    rw[e]at this
    exact h0 (List.eq_nil_of_length_eq_zero this.symm)
  have:=iter_post (f:=m0X kvs) (fun x=>∃ i:Nat,i≤V.length∧(x=.inl (b,V,(V.length:Int),(i:Int),pat V i)∨x=.inr ((pat V i).length,b,V,(V.length:Int),(i:Int),pat V i)))
    (fun x=>match x with | .inl y=>V.length+1 - y.2.2.2.1.toNat | .inr y=>V.length+1 - y.2.2.2.2.1.toNat) (fun r=>r.1=minL (V.map staleN)) ?_ (.inl (b,V,(V.length:Int),(0:Int),V.map numL)) ⟨0,by omega,.inl (by rw[hbeg];rfl)⟩
  · obtain ⟨r,h1,h2⟩:=this
    rw[h1]
    exact ⟨r.2,by rw[← h2]⟩
  rintro x ⟨i,hi,hx⟩
  have hpl:=pat_len V i
  by_cases h:i<V.length
  · left
    have e1:(V.getD i default)=V[i]:=by simp[List.getD_eq_getElem?_getD,h]
    have hm:V.length+1 - ((i+1:Nat):Int).toNat<V.length+1 - (i:Int).toNat:=by omega
    rcases hx with rfl | rfl
    · simp only[m0X,g0p,p0g,f0T,e0n,Int.toNat_natCast,e1]
      rw[if_pos (by simpa using h),if_pos ⟨by omega,by omega⟩,w64_eq _ (by omega) (by omega)]
      by_cases c:V[i]=[]
      · rw[if_pos (by rw[c];rfl),if_pos ⟨by omega,by omega⟩]
        have hs:=pat_set V i h
        have:staleN V[i]=2147483647:=by simp[staleN,c]
        rw[this]at hs
        refine ⟨_,rfl,⟨i+1,by omega,.inr ?_⟩,hm⟩
        rw[hs,pat_len,pat_len]
        rfl
      · rw[if_neg (by simpa using c)]
        refine ⟨_,rfl,⟨i+1,by omega,.inl ?_⟩,hm⟩
        rw[pat_keep V i h c]
        rfl
    · simp only[m0X,g0q,e0m,f0T,Int.toNat_natCast,e1]
      rw[if_pos (by simpa using h),if_pos ⟨by omega,by omega⟩,w64_eq _ (by omega) (by omega)]
      by_cases c:V[i]=[]
      · rw[if_pos (by rw[c];rfl),if_pos ⟨by omega,by omega⟩,if_pos (by omega)]
        have hs:=pat_set V i h
        have:staleN V[i]=2147483647:=by simp[staleN,c]
        rw[this]at hs
        refine ⟨_,rfl,⟨i+1,by omega,.inr ?_⟩,hm⟩
        rw[hs,pat_len,pat_len]
        rfl
      · rw[if_neg (by simpa using c)]
        refine ⟨_,rfl,⟨i+1,by omega,.inr ?_⟩,hm⟩
        rw[pat_keep V i h c]
        rfl
  · right
    obtain rfl:i=V.length:=by omega
    rcases hx with rfl | rfl
    · simp only[m0X,g0p,p0i]
      rw[if_neg (by simp),J0T _ (hne _) (by omega)]
      exact ⟨_,rfl,by rw[hend]⟩
    · simp only[m0X,g0q,e0o]
      rw[if_neg (by simp),L0O _ (hne _) (by omega)]
      exact ⟨_,rfl,by rw[hend]⟩
end
section
set_option linter.all false
set_option maxRecDepth 100000
open Go Go.Ab Go.Proofs Go.Proofs.YtbkobjepahlegaaGreatDoor
theorem L0N(b:Bool)(kvs:Kvs)(hV:(valM msB kvs).length<2 ^ 40)(hv:∀ v ∈ valM msB kvs,v.length<2 ^ 30):S0A b (valM msB kvs) kvs=some (ofStale (valM msB kvs)):=by
  have hm:valM msB kvs≠[]→∃ g,m82 ((valM msB kvs).map numL) kvs=some (minL ((valM msB kvs).map staleN),g):=fun h=>S0I kvs h hV
  have e0:S0A b (valM msB kvs) kvs=iter (d0Z kvs) (.inl (b,valM msB kvs,((valM msB kvs).length:Int),(0:Int))):=rfl
  rw[e0]
  generalize valM msB kvs=V at hm hV hv
  have e:=iter_fold (step:=d0Z kvs) V (fun (g:List Int) (i:Nat)=>match g with | []=>.inl (b,V,(V.length:Int),(i:Int)) | _=>.inr (b,V,(V.length:Int),(i:Int),g)) numF (fun g=>if g=[] then -1 else minL (V.map staleN)) (fun g i=>g=(V.take i).map numL)
    (fun g i h hi=>by rw[List.take_succ_eq_append_getElem h,List.map_append,← hi];rfl)
    (fun g i h hi=>by
      have e1:(V.getD i default)=V[i]:=by simp[List.getD_eq_getElem?_getD,h]
      have hn:=m0P V[i] (hv _ (List.getElem_mem h))
      have hl:g.length=i:=by rw[hi,List.length_map,List.length_take];omega
      clear hi
      cases g with
      | nil =>
        simp only[d0Z,c0T,i0U,i0V,Int.toNat_natCast,e1]
        rw[if_pos (by simpa using h),if_pos ⟨by omega,by omega⟩,hn,Option.bind_some,w64_eq _ (by omega) (by omega)]
        rfl
      | cons a g =>
        simp only[d0Z,c0U,c0O,c0P,Int.toNat_natCast,e1]
        rw[if_pos (by simpa using h),if_pos ⟨by omega,by omega⟩,hn,Option.bind_some,if_pos (by omega),w64_eq _ (by omega) (by omega)]
        rfl)
    (fun g hg=>by
      rw[List.take_length]at hg
      cases g with
      | nil =>
        simp only[d0Z,c0T,i0W]
        rw[if_neg (by simp)]
        rfl
      | cons a g =>
        have hne:V≠[]:=fun q=>by rw[q]at hg;cases hg
        obtain ⟨r,hr⟩:=hm hne
        simp only[d0Z,c0U,c0Q]
        rw[if_neg (by simp),if_neg (by simp;omega),hg,hr,if_neg (by rw[← hg];simp)]
        rfl) [] (by simp)
  rw[numF_fold,List.nil_append]at e
  have e2:iter (d0Z kvs) (.inl (b,V,(V.length:Int),(0:Int)))=_:=e
  rw[e2]
  unfold ofStale
  cases V<;>rfl
end
section
set_option linter.all false
set_option maxRecDepth 100000
open Go Go.Ab Go.Proofs Go.Proofs.YtbkobjepahlegaaGreatDoor
abbrev PP:=List (Bs×Bs)
def pairsL(l:List (Bs×Bs)):PP:=(elemsL l ccB).filterMap pairL
def hasP(k:Bs)(P:PP):Bool:=P.any fun p=>p.1==k
def valP(k:Bs)(P:PP):List Bs:=P.filterMap fun p=>if p.1==k then some p.2 else none
theorem saidF_fold(E:List Bs):∀ kvs,E.foldl saidF kvs=(E.filterMap pairL).foldl (fun m p=>putM p.1 p.2 m) kvs:=by
  induction E with
  | nil=>intro kvs;rfl
  | cons x E ih =>
    intro kvs
    rw[List.foldl_cons,ih,List.filterMap_cons]
    unfold saidF
    cases pairL x<;>rfl
theorem has_fold(k:Bs)(P:PP):∀ kvs,hasM k (P.foldl (fun m p=>putM p.1 p.2 m) kvs)=(hasM k kvs||hasP k P):=by
  induction P with
  | nil=>intro kvs;simp[hasP]
  | cons p P ih=>intro kvs;rw[List.foldl_cons,ih,has_put];simp[hasP,Bool.or_assoc]
theorem val_fold(k:Bs)(P:PP):∀ kvs,valM k (P.foldl (fun m p=>putM p.1 p.2 m) kvs)=valM k kvs++valP k P:=by
  induction P with
  | nil=>intro kvs;simp[valP]
  | cons p P ih =>
    intro kvs
    rw[List.foldl_cons,ih,val_put]
    unfold valP
    by_cases h:p.1=k<;>simp[h]
theorem has_said(k:Bs)(l:List (Bs×Bs)):hasM k (saidL l)=hasP k (pairsL l):=by
  unfold saidL;rw[saidF_fold,has_fold];rfl
theorem val_said(k:Bs)(l:List (Bs×Bs)):valM k (saidL l)=valP k (pairsL l):=by
  unfold saidL;rw[saidF_fold,val_fold];rfl
theorem pairL_len{s:Bs}{x:Bs×Bs}(h:pairL s=some x):x.1.length+x.2.length≤s.length:=by
  unfold pairL at h
  have hn:=nameN_le s
  have hd:(s.drop (nameN s+1)).length=s.length - (nameN s+1):=List.length_drop
  have hl:(lowL (s.take (nameN s))).length=nameN s:=by unfold lowL;rw[List.length_map,List.length_take];omega
  split at h
  · split at h
    · cases h;simp only[hl,List.length_nil];omega
    · split at h
      · cases h;simp only[hl,hd];omega
      · rw[Option.map_eq_some_iff]at h
        obtain ⟨v,hv,rfl⟩:=h
        have:=(unq_sh hv).2
        simp only[hl];omega
  · cases h
theorem pairs_len(l:List (Bs×Bs)):(pairsL l).length≤fsz l:=by
  unfold pairsL;exact Nat.le_trans (List.length_filterMap_le _ _) (elems_len l ccB)
theorem pairs_mem{l:List (Bs×Bs)}{p:Bs×Bs}(h:p ∈ pairsL l):p.1.length+p.2.length≤fsz l:=by
  unfold pairsL at h
  obtain ⟨x,hx,hp⟩:=List.mem_filterMap.1 h
  have:=pairL_len hp
  have:=elem_len hx
  omega
theorem valP_len(k:Bs)(P:PP):(valP k P).length≤P.length:=List.length_filterMap_le _ _
theorem valP_mem{k v:Bs}{P:PP}(h:v ∈ valP k P):(k,v) ∈ P:=by
  unfold valP at h
  obtain ⟨p,hp,hv⟩:=List.mem_filterMap.1 h
  split at hv
  · rename_i q
    cases hv
    rw[← eq_of_beq q];exact hp
  · cases hv
end
section
set_option linter.all false
set_option maxRecDepth 100000
open Go Go.Ab Go.Proofs Go.Proofs.YtbkobjepahlegaaGreatDoor
abbrev nsB:Bs:=[110,111,45,115,116,111,114,101]
abbrev ncB:Bs:=[110,111,45,99,97,99,104,101]
abbrev prB:Bs:=[112,114,105,118,97,116,101]
abbrev puB:Bs:=[112,117,98,108,105,99]
abbrev mrB:Bs:=[109,117,115,116,45,114,101,118,97,108,105,100,97,116,101]
abbrev xrB:Bs:=[112,114,111,120,121,45,114,101,118,97,108,105,100,97,116,101]
abbrev oiB:Bs:=[111,110,108,121,45,105,102,45,99,97,99,104,101,100]
abbrev maB:Bs:=[109,97,120,45,97,103,101]
abbrev smB:Bs:=[115,45,109,97,120,97,103,101]
abbrev mfB:Bs:=[109,105,110,45,102,114,101,115,104]
abbrev pgB:Bs:=[112,114,97,103,109,97]
def leastL(was n:Int):Int:=if was<0∨n<was then n else was
abbrev Ctl:=Bool×Bool×Bool×Bool×Bool×Bool×Int×Int×Int×Int
def reqF(c:Ctl)(x:Bs):Ctl:=match pairL x with
  | none=>c
  | some (k,v)=>(c.1||k==nsB,c.2.1||k==ncB,c.2.2.1,c.2.2.2.1,c.2.2.2.2.1,c.2.2.2.2.2.1||k==oiB,if (k==maB)=true then leastL c.2.2.2.2.2.2.1 (numL v) else c.2.2.2.2.2.2.1,c.2.2.2.2.2.2.2.1,if (k==mfB)=true then max2 c.2.2.2.2.2.2.2.2.1 (numL v) else c.2.2.2.2.2.2.2.2.1,if (k==msB)=true then leastL c.2.2.2.2.2.2.2.2.2 (staleN v) else c.2.2.2.2.2.2.2.2.2)
def resF(c:Ctl)(x:Bs):Ctl:=match pairL x with
  | none=>c
  | some (k,v)=>(c.1||k==nsB,c.2.1||k==ncB,c.2.2.1||k==prB,c.2.2.2.1||k==puB,c.2.2.2.2.1||(k==mrB||k==xrB),c.2.2.2.2.2.1,if (k==maB)=true then leastL c.2.2.2.2.2.2.1 (numL v) else c.2.2.2.2.2.2.1,if (k==smB)=true then leastL c.2.2.2.2.2.2.2.1 (numL v) else c.2.2.2.2.2.2.2.1,c.2.2.2.2.2.2.2.2.1,c.2.2.2.2.2.2.2.2.2)
theorem K0a(w n:Int):m94 w n=some (leastL w n):=by
  unfold m94 w0o leastL
  by_cases h:w<0
  · rw[if_pos (by simpa using h),if_pos rfl,if_pos (.inl h)]
  · rw[if_neg (by simpa using h)]
    by_cases q:n<w
    · rw[if_pos (by simpa using q),if_pos (.inr q)]
    · rw[if_neg (by simpa using q),if_neg (by omega)]
theorem z0N(z:Bool)(E:List Bs)(i:Nat)(x:Bs)(hx:x.length<2 ^ 30)(hi:i<E.length)(hE:E.length<2 ^ 40)(h:E[i]=x)(g:Ctl)(q0 q1 q2 q3 q4 q5:Bool)(q6 q7 q8 q9:Int):
    g0l z E (i:Int) q0 q1 q2 q3 q4 q5 q6 q7 q8 q9 g.1 g.2.1 g.2.2.1 g.2.2.2.1 g.2.2.2.2.1 g.2.2.2.2.2.1 g.2.2.2.2.2.2.1 g.2.2.2.2.2.2.2.1 g.2.2.2.2.2.2.2.2.1 g.2.2.2.2.2.2.2.2.2
      = some (.inl (z,E,((i+1:Nat):Int),q0,q1,q2,q3,q4,q5,q6,q7,q8,q9,resF g x)):=by
  have e1:(E.getD i default)=x:=by simp[List.getD_eq_getElem?_getD,hi,h]
  obtain ⟨g0,g1,g2,g3,g4,g5,g6,g7,g8,g9⟩:=g
  simp only[g0l,a0J,k0W,Int.toNat_natCast,e1,K0a,Option.bind_some]
  rw[if_pos (by simpa using hi),if_pos ⟨by omega,by omega⟩,J0Y x hx,Option.bind_some,w64_eq _ (by omega) (by omega)]
  unfold resF
  cases hp:pairL x with
  | none=>rfl
  | some kv =>
    obtain ⟨k,v⟩:=kv
    have hv:v.length<2 ^ 60:=by have:=pairL_len hp;simp only at this;omega
    simp only[paR]
    rw[if_pos trivial,J0Z v hv,Option.bind_some]
    by_cases h1:k=nsB
    · subst h1;simp
    by_cases h2:k=ncB
    · subst h2;simp
    by_cases h3:k=prB
    · subst h3;simp
    by_cases h4:k=puB
    · subst h4;simp
    by_cases h5:k=mrB
    · subst h5;simp
    by_cases h6:k=xrB
    · subst h6;simp
    by_cases h7:k=maB
    · subst h7;simp
    by_cases h8:k=smB
    · subst h8;simp
    simp[h1,h2,h3,h4,h5,h6,h7,h8]
end
section
set_option linter.all false
set_option maxRecDepth 100000
open Go Go.Ab Go.Proofs Go.Proofs.YtbkobjepahlegaaGreatDoor
def minP(k:Bs)(f:Bs→Int)(P:PP)(m:Int):Int:=P.foldl (fun m p=>if (p.1==k)=true then leastL m (f p.2) else m) m
def maxP(k:Bs)(P:PP)(m:Int):Int:=P.foldl (fun m p=>if (p.1==k)=true then max2 m (numL p.2) else m) m
theorem hasP_cons(k:Bs)(p:Bs×Bs)(P:PP):hasP k (p::P)=(p.1==k||hasP k P):=rfl
theorem resF_fold(E:List Bs):∀ c:Ctl,E.foldl resF c=(c.1||hasP nsB (E.filterMap pairL),c.2.1||hasP ncB (E.filterMap pairL),c.2.2.1||hasP prB (E.filterMap pairL),c.2.2.2.1||hasP puB (E.filterMap pairL),c.2.2.2.2.1||(E.filterMap pairL).any (fun p=>p.1==mrB||p.1==xrB),c.2.2.2.2.2.1,minP maB numL (E.filterMap pairL) c.2.2.2.2.2.2.1,minP smB numL (E.filterMap pairL) c.2.2.2.2.2.2.2.1,c.2.2.2.2.2.2.2.2.1,c.2.2.2.2.2.2.2.2.2):=by
  induction E with
  | nil=>intro c;simp[hasP,minP]
  | cons x E ih =>
    intro c
    rw[List.foldl_cons,ih,List.filterMap_cons]
    unfold resF
    cases pairL x with
    | none=>rfl
    | some p=>simp only[hasP_cons,List.any_cons,Bool.or_assoc];rfl
theorem reqF_fold(E:List Bs):∀ c:Ctl,E.foldl reqF c=(c.1||hasP nsB (E.filterMap pairL),c.2.1||hasP ncB (E.filterMap pairL),c.2.2.1,c.2.2.2.1,c.2.2.2.2.1,c.2.2.2.2.2.1||hasP oiB (E.filterMap pairL),minP maB numL (E.filterMap pairL) c.2.2.2.2.2.2.1,c.2.2.2.2.2.2.2.1,maxP mfB (E.filterMap pairL) c.2.2.2.2.2.2.2.2.1,minP msB staleN (E.filterMap pairL) c.2.2.2.2.2.2.2.2.2):=by
  induction E with
  | nil=>intro c;simp[hasP,minP,maxP]
  | cons x E ih =>
    intro c
    rw[List.foldl_cons,ih,List.filterMap_cons]
    unfold reqF
    cases pairL x with
    | none=>rfl
    | some p=>simp only[hasP_cons,Bool.or_assoc];rfl
theorem numL_nn(s:Bs):0≤numL s:=by unfold numL;split<;>omega
theorem staleN_nn (s : Bs) : 0 ≤ staleN s := by unfold staleN; split; · omega
                                                · exact numL_nn s
theorem valP_cons(k:Bs)(p:Bs×Bs)(P:PP):valP k (p::P)=(if (p.1==k)=true then [p.2] else [])++valP k P:=by
  unfold valP
  rw[List.filterMap_cons]
  cases h:p.1==k<;>rfl
theorem minP_eq(k:Bs)(f:Bs→Int)(P:PP):∀ m,minP k f P m=(valP k P).foldl (fun m v=>leastL m (f v)) m:=by
  induction P with
  | nil=>intro m;rfl
  | cons p P ih =>
    intro m
    show minP k f P _=_
    rw[ih,valP_cons]
    cases h:p.1==k<;>simp[h]
theorem maxP_eq(k:Bs)(P:PP):∀ m,maxP k P m=(valP k P).foldl (fun m v=>max2 m (numL v)) m:=by
  induction P with
  | nil=>intro m;rfl
  | cons p P ih =>
    intro m
    show maxP k P _=_
    rw[ih,valP_cons]
    cases h:p.1==k<;>simp[h]
theorem least_min(f:Bs→Int)(hf:∀ v,0≤f v)(V:List Bs):∀ m,0≤m→V.foldl (fun m v=>leastL m (f v)) m=(V.map f).foldl min2 m:=by
  induction V with
  | nil=>intro m _;rfl
  | cons v V ih =>
    intro m hm
    have h0:=hf v
    have e:leastL m (f v)=min2 m (f v):=by
      unfold leastL min2
      by_cases h:f v<m
      · rw[if_pos (.inr h),if_pos h]
      · rw[if_neg (by omega),if_neg h]
    rw[List.foldl_cons,List.map_cons,List.foldl_cons,e]
    exact ih _ (by unfold min2;split<;>omega)
theorem min_all(f:Bs→Int)(hf:∀ v,0≤f v)(V:List Bs):V.foldl (fun m v=>leastL m (f v)) (-1)=if V=[] then -1 else minL (V.map f):=by
  cases V with
  | nil=>rfl
  | cons v V =>
    rw[if_neg (by simp),List.foldl_cons]
    have h0:=hf v
    have e:leastL (-1) (f v)=f v:=by unfold leastL;rw[if_pos (.inl (by omega))]
    rw[e,least_min f hf V _ h0]
    rfl
theorem max_map(V:List Bs):∀ m,V.foldl (fun m v=>max2 m (numL v)) m=(V.map numL).foldl max2 m:=by
  induction V with
  | nil=>intro m;rfl
  | cons v V ih=>intro m;exact ih _
theorem max_all(V:List Bs):V.foldl (fun m v=>max2 m (numL v)) (-1)=ofMax V:=by
  unfold ofMax
  cases V with
  | nil=>rfl
  | cons v V =>
    rw[if_neg (by simp),max_map,List.map_cons,List.foldl_cons]
    have h0:=numL_nn v
    have e:max2 (-1) (numL v)=numL v:=by unfold max2;rw[if_pos (by omega)]
    rw[e]
    rfl
def resL(P:PP):Ctl:=(hasP nsB P,hasP ncB P,hasP prB P,hasP puB P,hasP mrB P||hasP xrB P,false,ofMin (valP maB P),ofMin (valP smB P),-1,-1)
def reqL(P:PP):Ctl:=(hasP nsB P,hasP ncB P,false,false,false,hasP oiB P,ofMin (valP maB P),-1,ofMax (valP mfB P),ofStale (valP msB P))
theorem any_or(P:PP)(a b:Bs):(P.any fun p=>p.1==a||p.1==b)=(hasP a P||hasP b P):=by
  unfold hasP
  induction P with
  | nil=>rfl
  | cons p P ih =>
    rw[List.any_cons,List.any_cons,List.any_cons,ih]
    cases p.1==a<;>cases p.1==b<;>simp
theorem res_all(E:List Bs):E.foldl resF (false,false,false,false,false,false,-1,-1,-1,-1)=resL (E.filterMap pairL):=by
  rw[resF_fold]
  simp only[Bool.false_or,minP_eq,min_all numL numL_nn,any_or]
  rfl
theorem req_all(E:List Bs):E.foldl reqF (false,false,false,false,false,false,-1,-1,-1,-1)=reqL (E.filterMap pairL):=by
  rw[reqF_fold]
  simp only[Bool.false_or,minP_eq,maxP_eq,min_all numL numL_nn,min_all staleN staleN_nn,max_all]
  rfl
theorem J0O(b:Bool)(l:List (Bs×Bs))(hs:fsz l<2 ^ 30):m46 b l=some (resL (pairsL l)):=by
  obtain ⟨z,hz⟩:=l0j b l ccB hs (by decide)
  have hE:=elems_len l ccB
  have hm:∀ x ∈ elemsL l ccB,x.length≤fsz l:=fun x hx=>elem_len hx
  unfold m46
  rw[show ([99,97,99,104,101,45,99,111,110,116,114,111,108]:Bs)=ccB from rfl,hz,Option.bind_some]
  unfold pairsL
  rw[← res_all]
  generalize elemsL l ccB=E at hE hm
  exact iter_fold (step:=fun x:(Bool×List Bs×Int×Bool×Bool×Bool×Bool×Bool×Bool×Int×Int×Int×Int×Ctl)=>g0l x.1 x.2.1 x.2.2.1 x.2.2.2.1 x.2.2.2.2.1 x.2.2.2.2.2.1 x.2.2.2.2.2.2.1 x.2.2.2.2.2.2.2.1 x.2.2.2.2.2.2.2.2.1 x.2.2.2.2.2.2.2.2.2.1 x.2.2.2.2.2.2.2.2.2.2.1 x.2.2.2.2.2.2.2.2.2.2.2.1 x.2.2.2.2.2.2.2.2.2.2.2.2.1 x.2.2.2.2.2.2.2.2.2.2.2.2.2.1 x.2.2.2.2.2.2.2.2.2.2.2.2.2.2.1 x.2.2.2.2.2.2.2.2.2.2.2.2.2.2.2.1 x.2.2.2.2.2.2.2.2.2.2.2.2.2.2.2.2.1 x.2.2.2.2.2.2.2.2.2.2.2.2.2.2.2.2.2.1 x.2.2.2.2.2.2.2.2.2.2.2.2.2.2.2.2.2.2.1 x.2.2.2.2.2.2.2.2.2.2.2.2.2.2.2.2.2.2.2.1 x.2.2.2.2.2.2.2.2.2.2.2.2.2.2.2.2.2.2.2.2.1 x.2.2.2.2.2.2.2.2.2.2.2.2.2.2.2.2.2.2.2.2.2.1 x.2.2.2.2.2.2.2.2.2.2.2.2.2.2.2.2.2.2.2.2.2.2) E
    (fun (g:Ctl) (i:Nat)=>(z,E,(i:Int),false,false,false,false,false,false,0,0,0,0,g)) resF (fun g=>g) (fun _ _=>True)
    (fun _ _ _ _=>trivial)
    (fun g i h _=>by
      have:=hm _ (List.getElem_mem h)
      exact z0N z E i E[i] (by omega) h (by omega) rfl g false false false false false false 0 0 0 0)
    (fun g _=>by
      simp only[g0l,o0R]
      rw[if_neg (by simp)]
      rfl) (false,false,false,false,false,false,-1,-1,-1,-1) trivial
end
section
set_option linter.all false
set_option maxRecDepth 100000
open Go Go.Ab Go.Proofs Go.Proofs.YtbkobjepahlegaaGreatDoor
theorem z0J(b:Bool)(l:List (Bs×Bs))(z:Bool)(E:List Bs)(i:Nat)(x:Bs)(hx:x.length<2 ^ 30)(hi:i<E.length)(hE:E.length<2 ^ 40)(h:E[i]=x)(g:Ctl)(q0 q1 q2 q3 q4 q5:Bool)(q6 q7 q8 q9:Int):
    g0j b l z E (i:Int) q0 q1 q2 q3 q4 q5 q6 q7 q8 q9 g.1 g.2.1 g.2.2.1 g.2.2.2.1 g.2.2.2.2.1 g.2.2.2.2.2.1 g.2.2.2.2.2.2.1 g.2.2.2.2.2.2.2.1 g.2.2.2.2.2.2.2.2.1 g.2.2.2.2.2.2.2.2.2
      = some (.inl (b,l,z,E,((i+1:Nat):Int),q0,q1,q2,q3,q4,q5,q6,q7,q8,q9,reqF g x)):=by
  have e1:(E.getD i default)=x:=by simp[List.getD_eq_getElem?_getD,hi,h]
  obtain ⟨g0,g1,g2,g3,g4,g5,g6,g7,g8,g9⟩:=g
  simp only[g0j,k0U,a0I,Int.toNat_natCast,e1,K0a,Option.bind_some]
  rw[if_pos (by simpa using hi),if_pos ⟨by omega,by omega⟩,J0Y x hx,Option.bind_some,w64_eq _ (by omega) (by omega)]
  unfold reqF
  cases hp:pairL x with
  | none=>rfl
  | some kv =>
    obtain ⟨k,v⟩:=kv
    have hv:v.length<2 ^ 60:=by have:=pairL_len hp;simp only at this;omega
    simp only[paR]
    rw[if_pos trivial,J0Z v hv,Option.bind_some]
    by_cases h1:k=nsB
    · subst h1;simp[msB]
    by_cases h2:k=ncB
    · subst h2;simp[msB]
    by_cases h3:k=oiB
    · subst h3;simp[msB]
    by_cases h4:k=maB
    · subst h4;simp[msB]
    by_cases h5:k=mfB
    · subst h5;simp only[max2,msB];by_cases q:g8<numL v<;>simp[q]
    by_cases h6:k=msB
    · subst h6;by_cases q:v=[]<;>simp[q,staleN,msB]
    have h6':¬ k=[109,97,120,45,115,116,97,108,101]:=h6
    simp[h1,h2,h3,h4,h5,h6,h6']
def prag(l:List (Bs×Bs)):Bool:=(elemsL l pgB).any fun x=>lowL x==ncB
theorem w0T(z:Bool)(E:List Bs)(hE:E.length<2 ^ 40)(hm:∀ x ∈ E,x.length<2 ^ 30)(g:Ctl)(q0 q1 q2 q3 q4 q5:Bool)(q6 q7 q8 q9:Int):
    w0S z E 0 q0 q1 q2 q3 q4 q5 q6 q7 q8 q9 g.1 g.2.1 g.2.2.1 g.2.2.2.1 g.2.2.2.2.1 g.2.2.2.2.2.1 g.2.2.2.2.2.2.1 g.2.2.2.2.2.2.2.1 g.2.2.2.2.2.2.2.2.1 g.2.2.2.2.2.2.2.2.2
      = some (g.1,g.2.1||(E.any fun x=>lowL x==ncB),g.2.2):=by
  have e:=iter_fold (step:=fun x:(Bool×List Bs×Int×Bool×Bool×Bool×Bool×Bool×Bool×Int×Int×Int×Int×Ctl)=>h0F x.1 x.2.1 x.2.2.1 x.2.2.2.1 x.2.2.2.2.1 x.2.2.2.2.2.1 x.2.2.2.2.2.2.1 x.2.2.2.2.2.2.2.1 x.2.2.2.2.2.2.2.2.1 x.2.2.2.2.2.2.2.2.2.1 x.2.2.2.2.2.2.2.2.2.2.1 x.2.2.2.2.2.2.2.2.2.2.2.1 x.2.2.2.2.2.2.2.2.2.2.2.2.1 x.2.2.2.2.2.2.2.2.2.2.2.2.2.1 x.2.2.2.2.2.2.2.2.2.2.2.2.2.2.1 x.2.2.2.2.2.2.2.2.2.2.2.2.2.2.2.1 x.2.2.2.2.2.2.2.2.2.2.2.2.2.2.2.2.1 x.2.2.2.2.2.2.2.2.2.2.2.2.2.2.2.2.2.1 x.2.2.2.2.2.2.2.2.2.2.2.2.2.2.2.2.2.2.1 x.2.2.2.2.2.2.2.2.2.2.2.2.2.2.2.2.2.2.2.1 x.2.2.2.2.2.2.2.2.2.2.2.2.2.2.2.2.2.2.2.2.1 x.2.2.2.2.2.2.2.2.2.2.2.2.2.2.2.2.2.2.2.2.2.1 x.2.2.2.2.2.2.2.2.2.2.2.2.2.2.2.2.2.2.2.2.2.2) E
    (fun (c:Bool) (i:Nat)=>(z,E,(i:Int),q0,q1,q2,q3,q4,q5,q6,q7,q8,q9,(g.1,c,g.2.2))) (fun c x=>c||lowL x==ncB) (fun c=>(g.1,c,g.2.2)) (fun _ _=>True)
    (fun _ _ _ _=>trivial)
    (fun c i h _=>by
      have e1:(E.getD i default)=E[i]:=by simp[List.getD_eq_getElem?_getD,h]
      have:=hm _ (List.getElem_mem h)
      simp only[h0F,f0Q,Int.toNat_natCast,e1]
      rw[if_pos (by simpa using h),if_pos ⟨by omega,by omega⟩,b0b _ (by omega),Option.bind_some,w64_eq _ (by omega) (by omega)]
      by_cases q:lowL E[i]=ncB
      · rw[if_pos (by simpa using q)];simp[q]
      · rw[if_neg (by simpa using q)]
        have:(lowL E[i]==ncB)=false:=by simpa using q
        simp[this])
    (fun c _=>by
      simp only[h0F,i0Q]
      rw[if_neg (by simp)]
      rfl) g.2.1 trivial
  have f:∀ (E:List Bs) (c:Bool),E.foldl (fun c x=>c||lowL x==ncB) c=(c||E.any fun x=>lowL x==ncB):=by
    intro E
    induction E with
    | nil=>intro c;simp
    | cons x E ih=>intro c;rw[List.foldl_cons,ih,List.any_cons,Bool.or_assoc]
  rw[f]at e
  exact e
theorem v0Z(b:Bool)(l:List (Bs×Bs))(hs:fsz l<2 ^ 30)(g:Ctl)(q0 q1 q2 q3 q4 q5:Bool)(q6 q7 q8 q9:Int):
    o0P b l q0 q1 q2 q3 q4 q5 q6 q7 q8 q9 g.1 g.2.1 g.2.2.1 g.2.2.2.1 g.2.2.2.2.1 g.2.2.2.2.2.1 g.2.2.2.2.2.2.1 g.2.2.2.2.2.2.2.1 g.2.2.2.2.2.2.2.2.1 g.2.2.2.2.2.2.2.2.2
      = some (if getL l ccB=[] then (g.1,g.2.1||prag l,g.2.2) else g):=by
  have hl:=fsz_len l
  have hend:∀ q0 q1 q2 q3 q4 q5 q6 q7 q8 q9,k0V b l q0 q1 q2 q3 q4 q5 q6 q7 q8 q9 g.1 g.2.1 g.2.2.1 g.2.2.2.1 g.2.2.2.2.1 g.2.2.2.2.2.1 g.2.2.2.2.2.2.1 g.2.2.2.2.2.2.2.1 g.2.2.2.2.2.2.2.2.1 g.2.2.2.2.2.2.2.2.2=some (g.1,g.2.1||prag l,g.2.2):=by
    intro q0 q1 q2 q3 q4 q5 q6 q7 q8 q9
    obtain ⟨z,hz⟩:=l0j b l pgB hs (by decide)
    have hE:=elems_len l pgB
    have hm:∀ x ∈ elemsL l pgB,x.length<2 ^ 30:=fun x hx=>by have:=elem_len hx;omega
    unfold k0V
    rw[show ([112,114,97,103,109,97]:Bs)=pgB from rfl,hz,Option.bind_some]
    exact w0T z _ (by omega) hm g _ _ _ _ _ _ _ _ _ _
  have e:=iter_first (step:=fun x:(Bool×List (Bs×Bs)×Int×Bool×Bool×Bool×Bool×Bool×Bool×Int×Int×Int×Int×Ctl)=>g0k x.1 x.2.1 x.2.2.1 x.2.2.2.1 x.2.2.2.2.1 x.2.2.2.2.2.1 x.2.2.2.2.2.2.1 x.2.2.2.2.2.2.2.1 x.2.2.2.2.2.2.2.2.1 x.2.2.2.2.2.2.2.2.2.1 x.2.2.2.2.2.2.2.2.2.2.1 x.2.2.2.2.2.2.2.2.2.2.2.1 x.2.2.2.2.2.2.2.2.2.2.2.2.1 x.2.2.2.2.2.2.2.2.2.2.2.2.2.1 x.2.2.2.2.2.2.2.2.2.2.2.2.2.2.1 x.2.2.2.2.2.2.2.2.2.2.2.2.2.2.2.1 x.2.2.2.2.2.2.2.2.2.2.2.2.2.2.2.2.1 x.2.2.2.2.2.2.2.2.2.2.2.2.2.2.2.2.2.1 x.2.2.2.2.2.2.2.2.2.2.2.2.2.2.2.2.2.2.1 x.2.2.2.2.2.2.2.2.2.2.2.2.2.2.2.2.2.2.2.1 x.2.2.2.2.2.2.2.2.2.2.2.2.2.2.2.2.2.2.2.2.1 x.2.2.2.2.2.2.2.2.2.2.2.2.2.2.2.2.2.2.2.2.2.1 x.2.2.2.2.2.2.2.2.2.2.2.2.2.2.2.2.2.2.2.2.2.2) l
    (fun i=>(b,l,(i:Int),q0,q1,q2,q3,q4,q5,q6,q7,q8,q9,g)) (fun f=>if lowL f.1=lowL ccB then some g else none) (g.1,g.2.1||prag l,g.2.2)
    (fun i h hf=>by
      have e1:(l.getD i default)=l[i]:=by simp[List.getD_eq_getElem?_getD,h]
      have:=fsz_mem (List.getElem_mem h)
      simp only[g0k,Int.toNat_natCast,e1]
      rw[if_pos (by simpa using h),if_pos ⟨by omega,by omega⟩,l0k _ _ (by omega) (by decide),Option.bind_some,w64_eq _ (by omega) (by omega)]
      split at hf
      · cases hf
      · rename_i q
        exact if_neg (fun z=>q (eq_of_beq z)))
    (fun i h r hf=>by
      have e1:(l.getD i default)=l[i]:=by simp[List.getD_eq_getElem?_getD,h]
      have:=fsz_mem (List.getElem_mem h)
      simp only[g0k,Int.toNat_natCast,e1]
      rw[if_pos (by simpa using h),if_pos ⟨by omega,by omega⟩,l0k _ _ (by omega) (by decide),Option.bind_some,w64_eq _ (by omega) (by omega)]
      split at hf
      · rename_i q
        cases hf
        exact if_pos (beq_iff_eq.2 q)
      · cases hf)
    (by
      simp only[g0k]
      rw[if_neg (by simp),hend]
      rfl)
  have f:∀ l:List (Bs×Bs),((l.findSome? fun f=>if lowL f.1=lowL ccB then some g else none).getD (g.1,g.2.1||prag (l),g.2.2))=if getL l ccB=[] then (g.1,g.2.1||prag l,g.2.2) else g:=by
    intro l
    generalize (g.1,g.2.1||prag l,g.2.2)=X
    induction l with
    | nil=>rfl
    | cons a l ih =>
      rw[List.findSome?_cons]
      unfold getL at ih ⊢
      by_cases q:lowL a.1=lowL ccB
      · simp[q]
      · simp only[q,if_false,List.filterMap_cons];exact ih
  rw[f]at e
  exact e
def reqA(l:List (Bs×Bs)):Ctl:=if getL l ccB=[] then ((reqL (pairsL l)).1,(reqL (pairsL l)).2.1||prag l,(reqL (pairsL l)).2.2) else reqL (pairsL l)
theorem S0v(b:Bool)(l:List (Bs×Bs))(hs:fsz l<2 ^ 30):m44 b l=some (reqA l):=by
  obtain ⟨z,hz⟩:=l0j b l ccB hs (by decide)
  have hE:=elems_len l ccB
  have hm:∀ x ∈ elemsL l ccB,x.length≤fsz l:=fun x hx=>elem_len hx
  unfold m44
  rw[show ([99,97,99,104,101,45,99,111,110,116,114,111,108]:Bs)=ccB from rfl,hz,Option.bind_some]
  unfold reqA pairsL
  rw[← req_all]
  generalize elemsL l ccB=E at hE hm
  exact iter_fold (step:=fun x:(Bool×List (Bs×Bs)×Bool×List Bs×Int×Bool×Bool×Bool×Bool×Bool×Bool×Int×Int×Int×Int×Ctl)=>g0j x.1 x.2.1 x.2.2.1 x.2.2.2.1 x.2.2.2.2.1 x.2.2.2.2.2.1 x.2.2.2.2.2.2.1 x.2.2.2.2.2.2.2.1 x.2.2.2.2.2.2.2.2.1 x.2.2.2.2.2.2.2.2.2.1 x.2.2.2.2.2.2.2.2.2.2.1 x.2.2.2.2.2.2.2.2.2.2.2.1 x.2.2.2.2.2.2.2.2.2.2.2.2.1 x.2.2.2.2.2.2.2.2.2.2.2.2.2.1 x.2.2.2.2.2.2.2.2.2.2.2.2.2.2.1 x.2.2.2.2.2.2.2.2.2.2.2.2.2.2.2.1 x.2.2.2.2.2.2.2.2.2.2.2.2.2.2.2.2.1 x.2.2.2.2.2.2.2.2.2.2.2.2.2.2.2.2.2.1 x.2.2.2.2.2.2.2.2.2.2.2.2.2.2.2.2.2.2.1 x.2.2.2.2.2.2.2.2.2.2.2.2.2.2.2.2.2.2.2.1 x.2.2.2.2.2.2.2.2.2.2.2.2.2.2.2.2.2.2.2.2.1 x.2.2.2.2.2.2.2.2.2.2.2.2.2.2.2.2.2.2.2.2.2.1 x.2.2.2.2.2.2.2.2.2.2.2.2.2.2.2.2.2.2.2.2.2.2.1 x.2.2.2.2.2.2.2.2.2.2.2.2.2.2.2.2.2.2.2.2.2.2.2.1 x.2.2.2.2.2.2.2.2.2.2.2.2.2.2.2.2.2.2.2.2.2.2.2.2) E
    (fun (g:Ctl) (i:Nat)=>(b,l,z,E,(i:Int),false,false,false,false,false,false,0,0,0,0,g)) reqF (fun g=>if getL l ccB=[] then (g.1,g.2.1||prag l,g.2.2) else g) (fun _ _=>True)
    (fun _ _ _ _=>trivial)
    (fun g i h _=>by
      have:=hm _ (List.getElem_mem h)
      exact z0J b l z E i E[i] (by omega) h (by omega) rfl g false false false false false false 0 0 0 0)
    (fun g _=>by
      simp only[g0j]
      rw[if_neg (by simp),v0Z b l hs]
      rfl) (false,false,false,false,false,false,-1,-1,-1,-1) trivial
end
section
set_option linter.all false
set_option maxRecDepth 100000
open Go Go.Ab Go.Proofs Go.Proofs.YtbkobjepahlegaaGreatDoor
theorem L0R(b:Bool)(L:List Bs)(hL:L.length<2 ^ 60)(hm:∀ x ∈ L,x.length<2 ^ 60):S0G b L=some (L.any fun x=>lowL x==ncB):=by
  have:∃ r,B0p b L=some r∧decide (0≤r)=L.any fun x=>lowL x==ncB:=by
    refine iter_post (fun s=>∃ i:Nat,s=(b,L,(L.length:Int),(i:Int))∧i≤L.length∧(L.any fun x=>lowL x==ncB)=((L.drop i).any fun x=>lowL x==ncB)) (fun s=>L.length+1 - s.2.2.2.toNat) _ ?_ _ ⟨0,rfl,by omega,by simp⟩
    rintro s ⟨i,rfl,hi,ha⟩
    by_cases h:i<L.length
    · have e1:(L.getD i default)=L[i]:=by simp[List.getD_eq_getElem?_getD,h]
      have hx:=hm _ (List.getElem_mem h)
      have ha':=ha
      rw[List.drop_eq_getElem_cons h,List.any_cons]at ha'
      simp only[g0c,Int.toNat_natCast,e1]
      rw[if_pos (by simpa using h),if_pos ⟨by omega,by omega⟩,m83,x0u _ _ hx (by decide),Option.bind_some,Option.bind_some,w64_eq _ (by omega) (by omega)]
      have hlow:lowL [110,111,45,99,97,99,104,101]=ncB:=by decide +kernel
      rw[hlow]
      cases c:lowL L[i]==ncB with
      | true =>
        right
        rw[if_pos rfl]
        refine ⟨_,rfl,?_⟩
        rw[ha',c]
        simp
      | false =>
        left
        rw[if_neg (by simp)]
        refine ⟨_,rfl,⟨i+1,rfl,by omega,?_⟩,?_⟩
        · rw[ha',c,Bool.false_or]
        · show L.length+1 - ((i:Int)+1).toNat<L.length+1 - (i:Int).toNat
          omega
    · right
      obtain rfl:i=L.length:=by omega
      simp only[g0c,e0d]
      rw[if_neg (by simp)]
      refine ⟨-1,rfl,?_⟩
      rw[ha,List.drop_length]
      rfl
  obtain ⟨r,h1,h2⟩:=this
  simp only[S0G,h1,Option.bind_some,h2]
theorem elems_nil{l:List (Bs×Bs)}{n:Bs}(h:getL l n=[]):elemsL l n=[]:=by unfold elemsL;rw[h];rfl
theorem valP_ok{l:List (Bs×Bs)}(k:Bs)(hs:fsz l<2 ^ 30):(valP k (pairsL l)).length<2 ^ 40∧∀ v ∈ valP k (pairsL l),v.length<2 ^ 30:=by
  refine ⟨?_,fun v hv=>?_⟩
  · have:=valP_len k (pairsL l)
    have:=pairs_len l
    omega
  · have:=pairs_mem (valP_mem hv)
    simp only at this
    omega
theorem any1(a:Bs)(P:Bs→Bool):[a].any P=P a:=by simp
theorem any2(a b:Bs)(P:Bs→Bool):[a,b].any P=(P a||P b):=by simp
theorem J0M(b:Bool)(l:List (Bs×Bs))(hs:fsz l<2 ^ 30):m23 b l=some (resL (pairsL l)):=by
  unfold m23
  rw[J0S b l hs,Option.bind_some]
  simp only[x0r _ [_] _ (by simp),x0r _ [_,_] _ (by simp),Option.bind_some,any1,any2,has_said,val_said]
  have h1:=valP_ok (l:=l) maB hs
  have h2:=valP_ok (l:=l) smB hs
  rw[x0s _ _ h1.1 h1.2,Option.bind_some,x0s _ _ h2.1 h2.2,Option.bind_some]
  rfl
theorem S0t(b:Bool)(l:List (Bs×Bs))(hs:fsz l<2 ^ 30):m41 b l=some (reqA l):=by
  obtain ⟨z,hz⟩:=l0i b l ccB hs (by decide)
  have hg:=getL_ssz l ccB
  have hg2:=ssz_len (getL l ccB)
  unfold m41
  rw[J0S b l hs,Option.bind_some]
  simp only[x0r _ [_] _ (by simp),Option.bind_some,any1]
  have h1:=valP_ok (l:=l) maB hs
  have h2:=valP_ok (l:=l) mfB hs
  have h3:=valP_ok (l:=l) msB hs
  have v1:=val_said maB l
  have v2:=val_said mfB l
  have v3:=val_said msB l
  rw[← v1]at h1
  rw[← v2]at h2
  rw[← v3]at h3
  rw[x0s _ _ h1.1 h1.2,Option.bind_some,L0M _ _ h2.1 h2.2,Option.bind_some,show ([109,97,120,45,115,116,97,108,101]:Bs)=msB from rfl,L0N _ _ h3.1 h3.2,Option.bind_some]
  rw[show ([99,97,99,104,101,45,99,111,110,116,114,111,108]:Bs)=ccB from rfl,hz,Option.bind_some]
  unfold reqA
  simp only[has_said]
  rw[v1,v2,v3]
  by_cases c:getL l ccB=[]
  · obtain ⟨y,hy⟩:=p0u b l pgB hs (by decide)
    have hE:=elems_len l pgB
    have hm:∀ x ∈ elemsL l pgB,x.length<2 ^ 60:=fun x hx=>by have:=elem_len hx;omega
    rw[if_pos (by rw[c];rfl),show ([112,114,97,103,109,97]:Bs)=pgB from rfl,hy,Option.bind_some,L0R y _ (by omega) hm,Option.bind_some,if_pos c]
    have hp:pairsL l=[]:=by unfold pairsL;rw[elems_nil c];rfl
    rw[hp]
    unfold o0N prag
    rfl
  · have hc:¬ (((getL l ccB).length:Int)==0)=true:=by
      intro h
      have:(getL l ccB).length=0:=by simpa using h
      exact c (List.eq_nil_of_length_eq_zero this)
    rw[if_neg hc,if_neg c]
    unfold e0h
    rfl
end
section
set_option linter.all false
set_option maxRecDepth 100000
open Go Go.Ab Go.Proofs Go.Proofs.YtbkobjepahlegaaGreatDoor
end
section
set_option linter.all false
namespace Go.Ab
open Go
def lng(y:Int):Bool:=y % 400==0||(y % 4==0 && !(y % 100==0))
def ah(y:Int):Int:=365*(y - 1970)+((y - 1) / 4 - (y - 1) / 100+(y - 1) / 400) - 477
def mdT:List Int:=[31,28,31,30,31,30,31,31,30,31,30,31]
def md(l:Bool)(m:Int):Int:=if m=1∧l=true then 29 else mdT.getD m.toNat 0
def cumT:List Int:=[0,31,59,90,120,151,181,212,243,273,304,334,365]
def cum(l:Bool)(m:Int):Int:=cumT.getD m.toNat 0+(if 2≤m∧l=true then 1 else 0)
theorem mth{m:Int}(h0:0≤m)(h1:m<12):m=0∨m=1∨m=2∨m=3∨m=4∨m=5∨m=6∨m=7∨m=8∨m=9∨m=10∨m=11:=by omega
theorem cum_s(l:Bool){m:Int}(h0:0≤m)(h1:m<12):cum l (m+1)=cum l m+md l m:=by
  rcases mth h0 h1 with rfl | rfl | rfl | rfl | rfl | rfl | rfl | rfl | rfl | rfl | rfl | rfl<;>cases l<;>rfl
theorem md_pos(l:Bool){m:Int}(h0:0≤m)(h1:m<12):28≤md l m∧md l m≤31:=by
  rcases mth h0 h1 with rfl | rfl | rfl | rfl | rfl | rfl | rfl | rfl | rfl | rfl | rfl | rfl<;>cases l<;>decide
theorem cum_0(l:Bool):cum l 0=0:=by cases l<;>rfl
theorem cum_12(l:Bool):cum l 12=365+(if l=true then 1 else 0):=by cases l<;>rfl
theorem cum_mono(l:Bool)(m n:Int)(h0:0≤m)(h:m≤n)(h1:n≤12):cum l m≤cum l n:=by
  obtain ⟨k,rfl⟩:∃ k:Nat,n=m+k:=⟨(n - m).toNat,by omega⟩
  clear h
  induction k with
  | zero=>simp
  | succ k ih =>
    have:=cum_s l (m:=m+k) (by omega) (by omega)
    have:=md_pos l (m:=m+k) (by omega) (by omega)
    have:=ih (by omega)
    have e:m+((k+1:Nat):Int)=m+k+1:=by omega
    rw[e];omega
theorem ah_s(y:Int):ah (y+1)=ah y+365+(if lng y=true then 1 else 0):=by
  unfold ah lng
  by_cases h4:y % 4=0<;>by_cases h1:y % 100=0<;>by_cases h40:y % 400=0<;>simp[h4,h1,h40]<;>omega
theorem ah_mono{a b:Int}(h:a≤b):ah a≤ah b:=by unfold ah;omega
def Dt(d y m k:Int):Prop:=1970≤y∧y≤9999∧0≤m∧m<12∧0≤k∧k<md (lng y) m∧d=ah y+cum (lng y) m+k
theorem Dt.b{d y m k:Int}(h:Dt d y m k):ah y≤d∧d<ah (y+1):=by
  obtain ⟨h1,h2,h3,h4,h5,h6,h7⟩:=h
  have:=cum_mono (lng y) 0 m (by omega) h3 (by omega)
  have e:=cum_s (lng y) h3 h4
  have:=cum_mono (lng y) (m+1) 12 (by omega) (by omega) (by omega)
  rw[cum_12]at this
  rw[cum_0]at *
  rw[ah_s]
  omega
theorem Dt.range{d y m k:Int}(h:Dt d y m k):0≤d∧d<2932897:=by
  have:=h.b
  have h1:=ah_mono (a:=1970) (b:=y) h.1
  have h2:=ah_mono (a:=y+1) (b:=10000) (by have:=h.2.1;omega)
  have e1:ah 1970=0:=by decide
  have e2:ah 10000=2932897:=by decide
  omega
theorem Dt.ex{d:Int}(h0:0≤d)(h1:d<2932897):∃ y m k,Dt d y m k:=by
  have hy:∃ y,1970≤y∧y≤9999∧ah y≤d∧d<ah (y+1):=by
    have key:∀ n:Nat,ah (1970+(n:Int))≤d∨∃ y:Int,1970≤y∧y<1970+(n:Int)∧ah y≤d∧d<ah (y+1):=by
      intro n
      induction n with
      | zero => left; have e1 : ah 1970 = 0 := by decide
                simp only[Int.natCast_zero,Int.add_zero];omega
      | succ n ih =>
        rcases ih with h | ⟨y,a,b,c,e⟩
        · by_cases c:ah (1970+n+1)≤d
          · left;have e:(1970:Int)+((n+1:Nat):Int)=1970+n+1:=by omega
            rw[e];exact c
          · exact .inr ⟨1970+n,by omega,by omega,h,by omega⟩
        · exact .inr ⟨y,a,by omega,c,e⟩
    rcases key 8030 with h | ⟨y,a,b,c,e⟩
    · have e2:ah (1970+(8030:Nat))=2932897:=by decide
      omega
    · exact ⟨y,a,by omega,c,e⟩
  obtain ⟨y,hy1,hy2,hy3,hy4⟩:=hy
  have key:∀ n:Nat,n≤12→ah y+cum (lng y) (n:Int)≤d∨∃ m:Int,0≤m∧m<(n:Int)∧ah y+cum (lng y) m≤d∧d<ah y+cum (lng y) (m+1):=by
    intro n
    induction n with
    | zero=>intro _;left;simp only[Int.natCast_zero,cum_0];omega
    | succ n ih =>
      intro hn
      rcases ih (by omega) with h | ⟨m,a,b,c,e⟩
      · by_cases c:ah y+cum (lng y) ((n:Int)+1)≤d
        · left;have e:(((n+1:Nat)):Int)=(n:Int)+1:=by omega
          rw[e];exact c
        · exact .inr ⟨n,by omega,by omega,h,by omega⟩
      · exact .inr ⟨m,a,by omega,c,e⟩
  rcases key 12 (by omega) with h | ⟨m,a,b,c,e⟩
  · have:=cum_12 (lng y)
    rw[ah_s]at hy4
    have e:((12:Nat):Int)=12:=rfl
    rw[e]at h
    omega
  · have s:=cum_s (lng y) a (m:=m) (by omega)
    exact ⟨y,m,d - ah y - cum (lng y) m,hy1,hy2,a,by omega,by omega,by omega,by omega⟩
def dg(x:Int):UInt8:=u8 (48+x)
def tw(x:Int):Bs:=[dg (x / 10 % 10),dg (x % 10)]
def y4(x:Int):Bs:=[dg (x / 1000 % 10),dg (x / 100 % 10),dg (x / 10 % 10),dg (x % 10)]
def wkT:List Bs:=[[84,104,117],[70,114,105],[83,97,116],[83,117,110],[77,111,110],[84,117,101],[87,101,100]]
def moT:List Bs:=[[74,97,110],[70,101,98],[77,97,114],[65,112,114],[77,97,121],[74,117,110],[74,117,108],[65,117,103],[83,101,112],[79,99,116],[78,111,118],[68,101,99]]
def wk(q:Int):Bs:=wkT.getD q.toNat []
def mo(m:Int):Bs:=moT.getD m.toNat []
def txt(d s y m k:Int):Bs :=
  wk (d % 7)++([44,32]++(tw (k+1)++([32]++(mo m++([32]++(y4 y++([32]++(tw (s / 3600)++([58]++(tw (s / 60 % 60)++([58]++(tw (s % 60)++[32,71,77,84]))))))))))))
theorem q7{q:Int}(h0:0≤q)(h1:q<7):q=0∨q=1∨q=2∨q=3∨q=4∨q=5∨q=6:=by omega
theorem wk_len{q:Int}(h0:0≤q)(h1:q<7):(wk q).length=3:=by
  rcases q7 h0 h1 with rfl | rfl | rfl | rfl | rfl | rfl | rfl<;>rfl
theorem mo_len{q:Int}(h0:0≤q)(h1:q<12):(mo q).length=3:=by
  rcases mth h0 h1 with rfl | rfl | rfl | rfl | rfl | rfl | rfl | rfl | rfl | rfl | rfl | rfl<;>rfl
theorem tw_len(x:Int):(tw x).length=2:=rfl
theorem tw_y4(y:Int)(h0:0≤y)(h1:y<10000):tw (y / 100)++tw (y % 100)=y4 y:=by
  have e1:y / 100 / 10 % 10=y / 1000 % 10:=by omega
  have e2:y % 100 / 10 % 10=y / 10 % 10:=by omega
  have e3:y % 100 % 10=y % 10:=by omega
  simp only[tw,y4,e1,e2,e3,List.cons_append,List.nil_append]
end Go.Ab
end
section
set_option linter.all false
open Go Go.Ab Go.Proofs Go.Proofs.YtbkobjepahlegaaGreatDoor
namespace Go.Ab
theorem L0I{y:Int}(h0:0≤y):S0l y=some (lng y):=by
  unfold S0l lng
  rw[Int.tmod_eq_emod_of_nonneg h0,Int.tmod_eq_emod_of_nonneg h0,Int.tmod_eq_emod_of_nonneg h0]
  by_cases h4:y % 4=0<;>by_cases h1:y % 100=0<;>by_cases h40:y % 400=0<;>simp[h4,h1,h40]<;>omega
theorem x0i{y:Int}(h0:0≤y):M0q y=some (lng y):=by
  unfold M0q lng
  rw[Int.tmod_eq_emod_of_nonneg h0,Int.tmod_eq_emod_of_nonneg h0,Int.tmod_eq_emod_of_nonneg h0]
  by_cases h4:y % 4=0<;>by_cases h1:y % 100=0<;>by_cases h40:y % 400=0<;>simp[h4,h1,h40]<;>omega
theorem m0R{y:Int}(h0:1≤y)(h1:y<100000):L0D y=some (ah y):=by
  unfold L0D ah
  rw[w64_eq (y - 1970) (by omega) (by omega),w64_eq (y - 1) (by omega) (by omega),Int.tdiv_eq_ediv_of_nonneg (by omega),Int.tdiv_eq_ediv_of_nonneg (by omega),Int.tdiv_eq_ediv_of_nonneg (by omega)]
  rw[w64_eq (365*(y - 1970)) (by omega) (by omega),w64_eq ((y - 1) / 4) (by omega) (by omega),w64_eq ((y - 1) / 100) (by omega) (by omega),w64_eq ((y - 1) / 400) (by omega) (by omega)]
  rw[w64_eq ((y - 1) / 4 - (y - 1) / 100) (by omega) (by omega),w64_eq ((y - 1) / 4 - (y - 1) / 100+(y - 1) / 400) (by omega) (by omega),w64_eq (365*(y - 1970)+((y - 1) / 4 - (y - 1) / 100+(y - 1) / 400)) (by omega) (by omega),w64_eq _ (by omega) (by omega)]
theorem mdT_get{m:Int}(h0:0≤m)(h1:m<12):([(31:Int),(28:Int),(31:Int),(30:Int),(31:Int),(30:Int),(31:Int),(31:Int),(30:Int),(31:Int),(30:Int),(31:Int)]:List Int).getD m.toNat default=md false m:=by
  rcases mth h0 h1 with rfl | rfl | rfl | rfl | rfl | rfl | rfl | rfl | rfl | rfl | rfl | rfl<;>rfl
theorem m0Q{y m:Int}(hy:0≤y)(h0:0≤m)(h1:m<12):L0C y m=some (md (lng y) m):=by
  unfold L0C k0N
  rw[L0I hy,mdT_get h0 h1]
  by_cases e:m=1
  · subst e;cases lng y<;>simp<;>rfl
  · simp[e,h0,h1]
    simp[md,e]
theorem x0h{y m:Int}(hy:0≤y)(h0:0≤m)(h1:m<12):M0p y m=some (md (lng y) m):=by
  unfold M0p k0M f0J
  rw[x0i hy,mdT_get h0 h1]
  by_cases e:m=1
  · subst e;cases lng y<;>simp<;>rfl
  · simp[e,h0,h1]
    simp[md,e]
theorem d0y{n:Int}(h0:0≤n)(h1:n<100000):y0b n=some (tw n):=by
  unfold y0b tw dg
  rw[Int.tdiv_eq_ediv_of_nonneg h0,w64_eq (n / 10) (by omega) (by omega),Int.tmod_eq_emod_of_nonneg (by omega),Int.tmod_eq_emod_of_nonneg h0,w64_eq _ (by omega) (by omega),w64_eq _ (by omega) (by omega)]
theorem L0B{d:Int}(h0:0≤d):S0g d=some (wk (d % 7)):=by
  unfold S0g
  rw[Int.tmod_eq_emod_of_nonneg h0,if_pos (by omega)]
  rcases q7 (q:=d % 7) (by omega) (by omega) with e | e | e | e | e | e | e<;>rw[e]<;>rfl
theorem x0g{m:Int}(h0:0≤m)(h1:m<12):S0d m=some (mo m):=by
  unfold S0d
  rw[if_pos (by omega)]
  rcases mth h0 h1 with rfl | rfl | rfl | rfl | rfl | rfl | rfl | rfl | rfl | rfl | rfl | rfl<;>rfl
theorem wk_cut{q:Int}(h0:0≤q)(h1:q<7):∃ a b,bnd (w64 (w64 (3*q)+3)) 21=some a∧bnd (w64 (3*q)) a=some b∧(([84,104,117,70,114,105,83,97,116,83,117,110,77,111,110,84,117,101,87,101,100]:Bs).take a).drop b=wk q:=by
  rcases q7 h0 h1 with rfl | rfl | rfl | rfl | rfl | rfl | rfl<;>exact ⟨_,_,rfl,rfl,rfl⟩
theorem mo_cut{q:Int}(h0:0≤q)(h1:q<12):∃ a b,bnd (w64 (w64 (3*q)+3)) 36=some a∧bnd (w64 (3*q)) a=some b∧(([74,97,110,70,101,98,77,97,114,65,112,114,77,97,121,74,117,110,74,117,108,65,117,103,83,101,112,79,99,116,78,111,118,68,101,99]:Bs).take a).drop b=mo q:=by
  rcases mth h0 h1 with rfl | rfl | rfl | rfl | rfl | rfl | rfl | rfl | rfl | rfl | rfl | rfl<;>exact ⟨_,_,rfl,rfl,rfl⟩
theorem q0g{d s y m k:Int}(h:Dt d y m k)(hs0:0≤s)(hs1:s<86400):f0L d s y k m=some (txt d s y m k,0):=by
  have hd:=h.range
  obtain ⟨h1,h2,h3,h4,h5,h6,h7⟩:=h
  have hm:=md_pos (lng y) h3 h4
  unfold f0L
  rw[Int.tmod_eq_emod_of_nonneg hd.1]
  obtain ⟨a,b,e1,e2,e3⟩:=wk_cut (q:=d % 7) (by omega) (by omega)
  obtain ⟨a',b',f1,f2,f3⟩:=mo_cut h3 h4
  have wl:=wk_len (q:=d % 7) (by omega) (by omega)
  have ml:=mo_len h3 h4
  rw[Int.tdiv_eq_ediv_of_nonneg hs0,Int.tdiv_eq_ediv_of_nonneg hs0,Int.tdiv_eq_ediv_of_nonneg (show 0≤y by omega),Int.tmod_eq_emod_of_nonneg hs0,Int.tmod_eq_emod_of_nonneg (show 0≤y by omega),w64_eq (k+1) (by omega) (by omega),w64_eq (y / 100) (by omega) (by omega),w64_eq (s / 3600) (by omega) (by omega),w64_eq (s / 60) (by omega) (by omega),Int.tmod_eq_emod_of_nonneg (show 0≤s / 60 by omega)]
  simp -implicitDefEqProofs only [e1,e2,e3,f1,f2,f3,Option.bind_some,d0y (n:=k+1) (by omega) (by omega),d0y (n:=y / 100) (by omega) (by omega),d0y (n:=y % 100) (by omega) (by omega),d0y (n:=s / 3600) (by omega) (by omega),d0y (n:=s / 60 % 60) (by omega) (by omega),d0y (n:=s % 60) (by omega) (by omega),
    List.length_append,wl,ml,tw_len,List.length_cons,List.length_nil,Nat.reduceAdd,Nat.reduceLT,↓reduceIte]
  simp only[txt,List.append_assoc,← tw_y4 y (by omega) (by omega)]
theorem x0l{n y m k:Int}(h:Dt (n / 86400) y m k):x0k n=some (txt (n / 86400) (n % 86400) y m k,0):=by
  have hr:=h.range
  have hb:=h.b
  have hn0:0≤n:=by omega
  unfold x0k
  rw[if_neg (by simp;omega),Int.tdiv_eq_ediv_of_nonneg hn0,wu64_eq (n / 86400) (by omega) (by omega),w64_eq (n / 86400) (by omega) (by omega),Int.tdiv_eq_ediv_of_nonneg hr.1,w64_eq (n / 86400 / 366) (by omega) (by omega),w64_eq (1970+n / 86400 / 366) (by omega) (by omega),Int.tmod_eq_emod_of_nonneg hn0,w64_eq (n % 86400) (by omega) (by omega)]
  have hs0:0≤n % 86400:=by omega
  have hs1:n % 86400<86400:=by omega
  generalize n / 86400=d at *
  generalize n % 86400=s at *
  have hy:=h.1;have hy2:=h.2.1
  obtain ⟨r,h1,h2⟩:=iter_post (f:=fun x:Int×Int×Int=>g0f x.1 x.2.1 x.2.2) (fun x=>x.1=d∧x.2.1=s∧1970≤x.2.2∧x.2.2≤y) (fun x=>(y - x.2.2).toNat) (fun r=>r=(txt d s y m k,0)) (by
    rintro ⟨d',s',v⟩ hI
    dsimp only at hI ⊢
    obtain ⟨rfl,rfl,hv1,hv2⟩:=hI
    unfold g0f
    rw[w64_eq (v+1) (by omega) (by omega),m0R (y:=v+1) (by omega) (by omega)]
    simp only[Option.bind_some]
    by_cases c:ah (v+1)≤d'
    · have:v<y:=by
        by_cases c2:y≤v
        · have:=ah_mono (a:=y+1) (b:=v+1) (by omega);omega
        · omega
      exact .inl ⟨(d',s',v+1),by simp[c],⟨rfl,rfl,by dsimp only;omega,by dsimp only;omega⟩,by dsimp only;omega⟩
    · have e:v=y:=by
        by_cases c2:v<y
        · have:=ah_mono (a:=v+1) (b:=y) (by omega);omega
        · omega
      subst e
      refine .inr ⟨_,?_,rfl⟩
      rw[if_neg (by simpa using c)]
      have:f0K d' s' v=some (txt d' s' v m k,0):=by
        unfold f0K m0L
        have hz:=ah_mono (a:=1970) (b:=v) hv1
        have e19:ah 1970=0:=by decide
        obtain ⟨h1,h2,h3,h4,h5,h6,h7⟩:=h
        rw[m0R (by omega) (by omega),Option.bind_some,w64_eq _ (by omega) (by omega)]
        obtain ⟨r,g1,g2⟩:=iter_post (f:=fun x:Int×Int×Int×Int×Int=>g0g x.1 x.2.1 x.2.2.1 x.2.2.2.1 x.2.2.2.2) (fun x=>x.1=d'∧x.2.1=s'∧x.2.2.1=v∧0≤x.2.2.2.2∧x.2.2.2.2≤m∧x.2.2.2.1=d' - ah v - cum (lng v) x.2.2.2.2) (fun x=>(m - x.2.2.2.2).toNat) (fun r=>r=(txt d' s' v m k,0)) (by
          rintro ⟨d2,s2,v2,r,q⟩ hI
          dsimp only at hI ⊢
          obtain ⟨rfl,rfl,rfl,a0,a1,a2⟩:=hI
          unfold g0g
          have hq:q<12:=by omega
          have hp:=md_pos (lng v2) a0 hq
          have hs:=cum_s (lng v2) a0 hq
          have hc:=cum_mono (lng v2) 0 q (by omega) a0 (by omega)
          have hc2:=cum_mono (lng v2) q m (by omega) a1 (by omega)
          rw[cum_0]at hc
          rw[m0Q (by omega) a0 hq,Option.bind_some]
          by_cases c:md (lng v2) q≤r
          · have:q<m:=by
              by_cases c2:q=m
              · subst c2;omega
              · omega
            exact .inl ⟨(d2,s2,v2,r - md (lng v2) q,q+1),by rw[if_pos (by simpa using c),w64_eq _ (by omega) (by omega),w64_eq _ (by omega) (by omega)],⟨rfl,rfl,rfl,by dsimp only;omega,by dsimp only;omega,by dsimp only;omega⟩,by dsimp only;omega⟩
          · have e:q=m:=by
              by_cases c2:q<m
              · have:=cum_mono (lng v2) (q+1) m (by omega) (by omega) (by omega);omega
              · omega
            subst e
            refine .inr ⟨_,?_,rfl⟩
            rw[if_neg (by simpa using c),show r=k by omega,q0g ⟨h1,h2,h3,h4,h5,h6,h7⟩ hs0 hs1]
            rfl) (d',s',v,d' - ah v,0) ⟨rfl,rfl,rfl,Int.le_refl _,h3,by rw[cum_0];dsimp only;omega⟩
        rw[g1,g2]
      rw[this]
      rfl) (d,s,1970+d / 366) ⟨rfl,rfl,by dsimp only;omega,by
        dsimp only
        by_cases c2:y<1970+d / 366
        · have:=ah_mono (a:=y+1) (b:=1970+d / 366) (by omega)
          have:ah (1970+d / 366)≤d:=by unfold ah;omega
          omega
        · omega⟩
  unfold m0K
  rw[h1,h2]
end Go.Ab
end
section
set_option linter.all false
open Go Go.Ab Go.Proofs Go.Proofs.YtbkobjepahlegaaGreatDoor
namespace Go.Ab
theorem cons1{s:Bs}{n:Nat}(h:s.length=n+1):∃ a t,s=a::t∧t.length=n:=by
  cases s with
  | nil=>simp at h
  | cons a t=>exact ⟨a,t,rfl,by simpa using h⟩
def vl(c:UInt8):Int:=((c - 48).toNat:Int) % 10
def isd(c:UInt8):Bool := !decide (c<48) && !decide (57<c)
theorem vl_b(c:UInt8):0≤vl c∧vl c<10:=by unfold vl;omega
theorem dg_toNat{x:Int}(h0:0≤x)(h1:x<10):(dg x).toNat=48+x.toNat:=by
  have:=u8_toNat (48+x)
  unfold dg;omega
theorem dg_vl_i{x:Int}(h0:0≤x)(h1:x<10):(((dg x) - 48).toNat:Int)=x:=by
  have:=dg_toNat h0 h1
  rw[UInt8.toNat_sub]
  have:(48:UInt8).toNat=48:=rfl
  omega
theorem vl_dg{x:Int}(h0:0≤x)(h1:x<10):vl (dg x)=x:=by
  unfold vl
  rw[dg_vl_i h0 h1];omega
theorem isd_iff(c:UInt8):isd c=true↔48≤c.toNat∧c.toNat≤57:=by
  unfold isd
  simp[UInt8.lt_iff_toNat_lt,UInt8.le_iff_toNat_le]
theorem isd_dg{x:Int}(h0:0≤x)(h1:x<10):isd (dg x)=true:=by
  rw[isd_iff,dg_toNat h0 h1];omega
theorem isd_v{c:UInt8}(h:isd c=true):((c - 48).toNat:Int)=vl c∧dg (vl c)=c:=by
  rw[isd_iff]at h
  have e:((c - 48).toNat:Int)=c.toNat - 48:=by
    rw[UInt8.toNat_sub]
    have:(48:UInt8).toNat=48:=rfl
    omega
  have e2:vl c=c.toNat - 48:=by unfold vl;rw[e];omega
  refine ⟨by omega,?_⟩
  apply u8_inj
  have:=dg_toNat (x:=vl c) (by omega) (by omega)
  omega
theorem h0E{s:Bs}{n i:Int}(h0:0≤i)(h1:i<s.length)(hl:s.length<1000)(hn0:0≤n)(hn1:n<1000000000):
    f0X s n s.length i=f0X s (10*n+vl (s.getD i.toNat 0)) s.length (i+1):=by
  unfold f0X
  rw[iter_l]
  unfold l0p
  have:=vl_b (s.getD i.toNat 0)
  have e:(((s.getD i.toNat 0 - 48).toNat:Int)).tmod 10=vl (s.getD i.toNat 0):=by
    rw[Int.tmod_eq_emod_of_nonneg (by omega)];rfl
  dsimp only
  rw[if_pos (by simpa using h1),if_pos ⟨h0,h1⟩,e,w64_eq (10*n) (by omega) (by omega),w64_eq _ (by omega) (by omega),w64_eq _ (by omega) (by omega)]
theorem J0L{s:Bs}{n:Int}:f0X s n s.length s.length=some n:=by
  unfold f0X
  rw[iter_r (r:=n)]
  unfold l0p i0L
  rw[if_neg (by simp)]
  rfl
theorem J0K(a b:UInt8):x0j [a,b]=some (10*vl a+vl b):=by
  have ha:=vl_b a;have hb:=vl_b b
  unfold x0j
  rw[h0E (s:=[a,b]) (by decide) (by simp) (by simp) (by decide) (by decide)]
  rw[h0E (s:=[a,b]) (by decide) (by simp) (by simp) (by simp;omega) (by simp;omega)]
  refine Eq.trans ?_ (J0L (s:=[a,b]))
  congr 1
  simp
theorem S0h(a b c d:UInt8):x0j [a,b,c,d]=some (1000*vl a+100*vl b+10*vl c+vl d):=by
  have ha:=vl_b a;have hb:=vl_b b;have hc:=vl_b c;have hd:=vl_b d
  unfold x0j
  rw[h0E (s:=[a,b,c,d]) (by decide) (by simp) (by simp) (by decide) (by decide)]
  rw[h0E (s:=[a,b,c,d]) (by decide) (by simp) (by simp) (by simp;omega) (by simp;omega)]
  rw[h0E (s:=[a,b,c,d]) (by decide) (by simp) (by simp) (by simp;omega) (by simp;omega)]
  rw[h0E (s:=[a,b,c,d]) (by decide) (by simp) (by simp) (by simp;omega) (by simp;omega)]
  refine Eq.trans ?_ (J0L (s:=[a,b,c,d]))
  congr 1
  simp
  omega
theorem h0D{s:Bs}{a k n i:Int}(h0:0≤i)(h1:i<a+k)(h2:i<s.length)(ha:0≤a)(hk:0≤k)(hak:a+k<1000)(hn0:0≤n)(hn1:n<1000000000):
    f0W s a k n i=if isd (s.getD i.toNat 0)=true then f0W s a k (10*n+vl (s.getD i.toNat 0)) (i+1) else some (-1):=by
  unfold f0W
  rw[iter_eq]
  unfold l0o f0I
  dsimp only
  rw[w64_eq (a+k) (by omega) (by omega),if_pos (by simpa using h1),if_pos ⟨h0,h2⟩]
  generalize s.getD i.toNat 0=c
  have hv:=vl_b c
  by_cases e1:c<48
  · have:isd c=false:=by simp[isd,e1]
    simp[e1,this]
  · by_cases e2:(57:UInt8)<c
    · have:isd c=false:=by simp[isd,e2]
      simp[e1,e2,this]
    · have:isd c=true:=by simp only[isd,e1,e2,decide_false,Bool.not_false,Bool.and_self]
      rw[if_neg (by simpa using e1),if_neg (by simpa using e2),if_pos ⟨h0,h2⟩,if_pos this,(isd_v this).1,w64_eq (10*n) (by omega) (by omega),w64_eq _ (by omega) (by omega),w64_eq _ (by omega) (by omega)]
theorem J0J{s:Bs}{a k n:Int}(ha:0≤a)(hk:0≤k)(hak:a+k<1000):f0W s a k n (a+k)=some n:=by
  unfold f0W
  rw[iter_r (r:=n)]
  unfold l0o i0K
  dsimp only
  rw[w64_eq (a+k) (by omega) (by omega),if_neg (by simp)]
  rfl
theorem p0s{s:Bs}(a:Nat)(h:a+2≤s.length)(hl:a<100):l0w s a 2=some (if isd (s.getD a 0)=true∧isd (s.getD (a+1) 0)=true then 10*vl (s.getD a 0)+vl (s.getD (a+1) 0) else -1):=by
  have ha:=vl_b (s.getD a 0)
  unfold l0w
  rw[h0D (by omega) (by omega) (by omega) (by omega) (by omega) (by omega) (by omega) (by omega)]
  simp only[Int.toNat_natCast]
  by_cases e:isd (s.getD a 0)=true
  · rw[if_pos e,h0D (by omega) (by omega) (by omega) (by omega) (by omega) (by omega) (by omega) (by omega)]
    have e3:((a:Int)+1).toNat=a+1:=by omega
    rw[e3]
    by_cases e2:isd (s.getD (a+1) 0)=true
    · rw[if_pos e2,if_pos ⟨e,e2⟩]
      have:=J0J (s:=s) (a:=a) (k:=2) (n:=10*vl (s.getD a 0)+vl (s.getD (a+1) 0)) (by omega) (by omega) (by omega)
      rw[← this];congr 1
      · omega
    · rw[if_neg e2,if_neg (fun h=>e2 h.2)]
  · rw[if_neg e,if_neg (fun h=>e h.1)]
theorem S0f{s:Bs}(a:Nat)(h:a+4≤s.length)(hl:a<100):l0w s a 4=some (if isd (s.getD a 0)=true∧isd (s.getD (a+1) 0)=true∧isd (s.getD (a+2) 0)=true∧isd (s.getD (a+3) 0)=true then 1000*vl (s.getD a 0)+100*vl (s.getD (a+1) 0)+10*vl (s.getD (a+2) 0)+vl (s.getD (a+3) 0) else -1):=by
  have ha:=vl_b (s.getD a 0)
  have hb:=vl_b (s.getD (a+1) 0)
  have hc:=vl_b (s.getD (a+2) 0)
  have e1:((a:Int)+1).toNat=a+1:=by omega
  have e2:((a:Int)+1+1).toNat=a+2:=by omega
  have e3:((a:Int)+1+1+1).toNat=a+3:=by omega
  unfold l0w
  rw[h0D (by omega) (by omega) (by omega) (by omega) (by omega) (by omega) (by omega) (by omega)]
  simp only[Int.toNat_natCast]
  by_cases e:isd (s.getD a 0)=true
  · rw[if_pos e,h0D (by omega) (by omega) (by omega) (by omega) (by omega) (by omega) (by omega) (by omega),e1]
    by_cases f:isd (s.getD (a+1) 0)=true
    · rw[if_pos f,h0D (by omega) (by omega) (by omega) (by omega) (by omega) (by omega) (by omega) (by omega),e2]
      by_cases g:isd (s.getD (a+2) 0)=true
      · rw[if_pos g,h0D (by omega) (by omega) (by omega) (by omega) (by omega) (by omega) (by omega) (by omega),e3]
        by_cases i:isd (s.getD (a+3) 0)=true
        · rw[if_pos i,if_pos ⟨e,f,g,i⟩]
          have:=J0J (s:=s) (a:=a) (k:=4) (n:=1000*vl (s.getD a 0)+100*vl (s.getD (a+1) 0)+10*vl (s.getD (a+2) 0)+vl (s.getD (a+3) 0)) (by omega) (by omega) (by omega)
          rw[← this];congr 1<;>omega
        · rw[if_neg i,if_neg (fun h=>i h.2.2.2)]
      · rw[if_neg g,if_neg (fun h=>g h.2.2.1)]
    · rw[if_neg f,if_neg (fun h=>f h.2.1)]
  · rw[if_neg e,if_neg (fun h=>e h.1)]
theorem p0t{n:Int}(h0:0≤n):x0k n=some ([],3)∧253402300799<n∨∃ y m k,Dt (n / 86400) y m k∧x0k n=some (txt (n / 86400) (n % 86400) y m k,0):=by
  by_cases c:253402300799<n
  · left;refine ⟨?_,c⟩;unfold x0k;rw[if_pos (by simpa using c)]
  · right
    obtain ⟨y,m,k,h⟩:=Dt.ex (d:=n / 86400) (by omega) (by omega)
    exact ⟨y,m,k,h,x0l h⟩
theorem index_le:∀ (s t:Bs),Lib.index s t≤s.length - t.length∨Lib.index s t = -1:=by
  intro s
  induction s with
  | nil=>intro t;unfold Lib.index;cases t<;>simp
  | cons b l ih =>
    intro t
    unfold Lib.index
    split
    · rename_i h
      have:=(List.isPrefixOf_iff_prefix.1 h).length_le
      left;simp at this ⊢; omega
    · split
      · right;rfl
      · rename_i h
        rcases ih t with g | g
        · left;simp;omega
        · rw[g]at h;exact absurd rfl h
end Go.Ab
end
section
set_option linter.all false
open Go Go.Ab Go.Proofs Go.Proofs.YtbkobjepahlegaaGreatDoor
namespace Go.Ab
theorem L29{s:Bs}(h:s.length=29):∃ c0 c1 c2 c3 c4 c5 c6 c7 c8 c9 c10 c11 c12 c13 c14 c15 c16 c17 c18 c19 c20 c21 c22 c23 c24 c25 c26 c27 c28:UInt8,s=[c0,c1,c2,c3,c4,c5,c6,c7,c8,c9,c10,c11,c12,c13,c14,c15,c16,c17,c18,c19,c20,c21,c22,c23,c24,c25,c26,c27,c28]:=by
  obtain ⟨c0,s0,e0,h0⟩:=cons1 h
  obtain ⟨c1,s1,e1,h1⟩:=cons1 h0
  obtain ⟨c2,s2,e2,h2⟩:=cons1 h1
  obtain ⟨c3,s3,e3,h3⟩:=cons1 h2
  obtain ⟨c4,s4,e4,h4⟩:=cons1 h3
  obtain ⟨c5,s5,e5,h5⟩:=cons1 h4
  obtain ⟨c6,s6,e6,h6⟩:=cons1 h5
  obtain ⟨c7,s7,e7,h7⟩:=cons1 h6
  obtain ⟨c8,s8,e8,h8⟩:=cons1 h7
  obtain ⟨c9,s9,e9,h9⟩:=cons1 h8
  obtain ⟨c10,s10,e10,h10⟩:=cons1 h9
  obtain ⟨c11,s11,e11,h11⟩:=cons1 h10
  obtain ⟨c12,s12,e12,h12⟩:=cons1 h11
  obtain ⟨c13,s13,e13,h13⟩:=cons1 h12
  obtain ⟨c14,s14,e14,h14⟩:=cons1 h13
  obtain ⟨c15,s15,e15,h15⟩:=cons1 h14
  obtain ⟨c16,s16,e16,h16⟩:=cons1 h15
  obtain ⟨c17,s17,e17,h17⟩:=cons1 h16
  obtain ⟨c18,s18,e18,h18⟩:=cons1 h17
  obtain ⟨c19,s19,e19,h19⟩:=cons1 h18
  obtain ⟨c20,s20,e20,h20⟩:=cons1 h19
  obtain ⟨c21,s21,e21,h21⟩:=cons1 h20
  obtain ⟨c22,s22,e22,h22⟩:=cons1 h21
  obtain ⟨c23,s23,e23,h23⟩:=cons1 h22
  obtain ⟨c24,s24,e24,h24⟩:=cons1 h23
  obtain ⟨c25,s25,e25,h25⟩:=cons1 h24
  obtain ⟨c26,s26,e26,h26⟩:=cons1 h25
  obtain ⟨c27,s27,e27,h27⟩:=cons1 h26
  obtain ⟨c28,s28,e28,h28⟩:=cons1 h27
  have:s28=[]:=by cases s28;rfl;simp at h28
  subst this
  exact ⟨c0,c1,c2,c3,c4,c5,c6,c7,c8,c9,c10,c11,c12,c13,c14,c15,c16,c17,c18,c19,c20,c21,c22,c23,c24,c25,c26,c27,c28,by rw[e0,e1,e2,e3,e4,e5,e6,e7,e8,e9,e10,e11,e12,e13,e14,e15,e16,e17,e18,e19,e20,e21,e22,e23,e24,e25,e26,e27,e28]⟩
theorem K0R{s:Bs}{y D M:Int}(hy:0≤y)(hD : -100000000≤D∧D≤100000000)(hM0:0≤M)(hM:M≤12):j0c s y D M 0=b0T s (D+cum (lng y) M):=by
  unfold j0c
  refine iter_to (fun x=>x.1=s∧x.2.1=y∧x.2.2.2.1=M∧0≤x.2.2.2.2∧x.2.2.2.2≤M∧x.2.2.1=D+cum (lng y) x.2.2.2.2) (fun x=>(M - x.2.2.2.2).toNat) _ ?_ _ ⟨rfl,rfl,rfl,by dsimp only;omega,by dsimp only;omega,by dsimp only;rw[cum_0];omega⟩
  rintro ⟨s',y',d,M',q⟩ hI
  dsimp only at hI ⊢
  obtain ⟨rfl,rfl,rfl,h0,h1,rfl⟩:=hI
  unfold j0i
  by_cases c:q<M'
  · left
    have:=cum_s (lng y') h0 (show q<12 by omega)
    have:=cum_mono (lng y') 0 q (by omega) h0 (by omega)
    have:=cum_mono (lng y') q 12 h0 (by omega) (by omega)
    have h12:=cum_12 (lng y')
    have:cum (lng y') 12≤366:=by rw[h12];cases lng y'<;>simp
    have:=md_pos (lng y') h0 (show q<12 by omega)
    rw[cum_0]at *
    exact ⟨(s',y',D+cum (lng y') (q+1),M',q+1),by rw[if_pos (by simpa using c),m0Q hy h0 (by omega),Option.bind_some,w64_eq _ (by omega) (by omega),w64_eq _ (by omega) (by omega),show D+cum (lng y') q+md (lng y') q=D+cum (lng y') (q+1) by omega],⟨rfl,rfl,rfl,by dsimp only;omega,by dsimp only;omega,rfl⟩,by dsimp only;omega⟩
  · right
    have:q=M':=by omega
    subst this
    rw[if_neg (by simp)]
theorem h0m{c0 c1 c2 c3 c4 c5 c6 c7 c8 c9 c10 c11 c12 c13 c14 c15 c16 c17 c18 c19 c20 c21 c22 c23 c24 c25 c26 c27 c28:UInt8}{d:Int}(h0:0≤d)(h1:d<100000000)
    {s:Bs} (hs:s=[c0,c1,c2,c3,c4,c5,c6,c7,c8,c9,c10,c11,c12,c13,c14,c15,c16,c17,c18,c19,c20,c21,c22,c23,c24,c25,c26,c27,c28]) :
    b0T s d=(x0k (86400*d+3600*(10*vl c17+vl c18)+60*(10*vl c20+vl c21)+(10*vl c23+vl c24))).bind fun r=>if r.2=0∧r.1=s then some (86400*d+3600*(10*vl c17+vl c18)+60*(10*vl c20+vl c21)+(10*vl c23+vl c24),0) else some (0,5):=by
  have a1:=vl_b c17;have a2:=vl_b c18;have a3:=vl_b c20;have a4:=vl_b c21;have a5:=vl_b c23;have a6:=vl_b c24
  have hl:s.length=29:=by rw[hs];rfl
  have e1:(s.take 19).drop 17=[c17,c18]:=by rw[hs];rfl
  have e2:(s.take 22).drop 20=[c20,c21]:=by rw[hs];rfl
  have e3:(s.take 25).drop 23=[c23,c24]:=by rw[hs];rfl
  unfold b0T
  rw[hl]
  simp only[show bnd 19 29=some 19 from rfl,show bnd 17 19=some 17 from rfl,show bnd 22 29=some 22 from rfl,show bnd 20 22=some 20 from rfl,show bnd 25 29=some 25 from rfl,show bnd 23 25=some 23 from rfl,Option.bind_some,e1,e2,e3,J0K]
  rw[w64_eq (d*86400) (by omega) (by omega),w64_eq ((10*vl c17+vl c18)*3600) (by omega) (by omega),w64_eq ((10*vl c20+vl c21)*60) (by omega) (by omega),w64_eq (d*86400+(10*vl c17+vl c18)*3600) (by omega) (by omega),w64_eq (d*86400+(10*vl c17+vl c18)*3600+(10*vl c20+vl c21)*60) (by omega) (by omega),w64_eq _ (by omega) (by omega),wu64_eq _ (by omega) (by omega)]
  have e:d*86400+(10*vl c17+vl c18)*3600+(10*vl c20+vl c21)*60+(10*vl c23+vl c24)=86400*d+3600*(10*vl c17+vl c18)+60*(10*vl c20+vl c21)+(10*vl c23+vl c24):=by omega
  rw[e]
  congr 1
  funext r
  unfold f0B
  by_cases f1:r.2=0
  · by_cases f2:r.1=s
    · simp[f1,f2]
    · simp[f1,f2]
  · simp[f1]
def monS:Bs:=[74,97,110,70,101,98,77,97,114,65,112,114,77,97,121,74,117,110,74,117,108,65,117,103,83,101,112,79,99,116,78,111,118,68,101,99]
theorem x0c{c0 c1 c2 c3 c4 c5 c6 c7 c8 c9 c10 c11 c12 c13 c14 c15 c16 c17 c18 c19 c20 c21 c22 c23 c24 c25 c26 c27 c28:UInt8}
    {s:Bs} (hs:s=[c0,c1,c2,c3,c4,c5,c6,c7,c8,c9,c10,c11,c12,c13,c14,c15,c16,c17,c18,c19,c20,c21,c22,c23,c24,c25,c26,c27,c28]) :
    p0r s=if 0≤Lib.index monS [c8,c9,c10]∧Lib.index monS [c8,c9,c10] % 3=0∧1970≤1000*vl c12+100*vl c13+10*vl c14+vl c15∧1≤10*vl c5+vl c6∧10*vl c5+vl c6≤md (lng (1000*vl c12+100*vl c13+10*vl c14+vl c15)) (Lib.index monS [c8,c9,c10] / 3)
      then b0T s (ah (1000*vl c12+100*vl c13+10*vl c14+vl c15)+(10*vl c5+vl c6) - 1+cum (lng (1000*vl c12+100*vl c13+10*vl c14+vl c15)) (Lib.index monS [c8,c9,c10] / 3)) else some (0,5):=by
  have a1:=vl_b c12;have a2:=vl_b c13;have a3:=vl_b c14;have a4:=vl_b c15;have a5:=vl_b c5;have a6:=vl_b c6
  have hl:s.length=29:=by rw[hs];rfl
  have e1:(s.take 11).drop 8=[c8,c9,c10]:=by rw[hs];rfl
  have e2:(s.take 16).drop 12=[c12,c13,c14,c15]:=by rw[hs];rfl
  have e3:(s.take 7).drop 5=[c5,c6]:=by rw[hs];rfl
  have hi:=index_le monS [c8,c9,c10]
  have hi2:=Lib.index_ge monS [c8,c9,c10]
  have e4:L0t monS [c8,c9,c10]=some (Lib.index monS [c8,c9,c10]):=by unfold L0t mIx;rw[if_pos (by decide)];rfl
  have hml:monS.length=36:=rfl
  unfold p0r
  rw[if_pos (by simp[hl]),hl,show ([74,97,110,70,101,98,77,97,114,65,112,114,77,97,121,74,117,110,74,117,108,65,117,103,83,101,112,79,99,116,78,111,118,68,101,99]:Bs)=monS from rfl]
  simp only[show bnd 11 29=some 11 from rfl,show bnd 8 11=some 8 from rfl,show bnd 16 29=some 16 from rfl,show bnd 12 16=some 12 from rfl,show bnd 7 29=some 7 from rfl,show bnd 5 7=some 5 from rfl,Option.bind_some,e1,e2,e3,e4,J0K,S0h]
  generalize Lib.index monS [c8,c9,c10]=ix at *
  generalize hY:1000*vl c12+100*vl c13+10*vl c14+vl c15=Y at *
  generalize hD:10*vl c5+vl c6=D at *
  have hix:ix≤33:=by rw[hml]at hi;simp at hi;omega
  have hf:∀ x y z,a0F s x y z true=some (0,5):=fun _ _ _=>rfl
  simp only[hf]
  by_cases f1:ix<0
  · rw[if_pos (by simpa using f1),if_neg (fun h=>by omega)]
  · rw[if_neg (by simpa using f1),Int.tmod_eq_emod_of_nonneg (by omega),Int.tdiv_eq_ediv_of_nonneg (by omega)]
    by_cases f2:ix % 3=0
    · rw[if_pos (by simpa using f2)]
      by_cases f3:Y<1970
      · rw[if_pos (by simpa using f3),if_neg (fun h=>by omega)]
      · rw[if_neg (by simpa using f3)]
        by_cases f4:D<1
        · rw[if_pos (by simpa using f4),if_neg (fun h=>by omega)]
        · rw[if_neg (by simpa using f4),w64_eq _ (by omega) (by omega),m0Q (by omega) (by omega) (by omega),Option.bind_some]
          unfold a0F
          by_cases f5:md (lng Y) (ix / 3)<D
          · rw[if_pos (by simpa using f5),if_neg (fun h=>by omega)]
          · have hb1:=ah_mono (a:=1970) (b:=Y) (by omega)
            have hb2:=ah_mono (a:=Y) (b:=10000) (by omega)
            have eb1:ah 1970=0:=by decide
            have eb2:ah 10000=2932897:=by decide
            rw[if_neg (by simpa using f5),if_pos ⟨by omega,f2,by omega,by omega,by omega⟩,m0R (by omega) (by omega),Option.bind_some,Int.tdiv_eq_ediv_of_nonneg (by omega),w64_eq (ix / 3) (by omega) (by omega),w64_eq (ah Y+D) (by omega) (by omega),w64_eq _ (by omega) (by omega),K0R (by omega) (by omega) (by omega) (by omega)]
    · rw[if_neg (by simpa using f2),if_neg (fun h=>f2 h.2.1)]
theorem L0o(s:Bs):p0r s=some (0,5)∨∃ n,p0r s=some (n,0)∧0≤n∧x0k n=some (s,0):=by
  by_cases hl:s.length=29
  · obtain ⟨c0,c1,c2,c3,c4,c5,c6,c7,c8,c9,c10,c11,c12,c13,c14,c15,c16,c17,c18,c19,c20,c21,c22,c23,c24,c25,c26,c27,c28,hs⟩:=L29 hl
    rw[x0c hs]
    split
    · rename_i h
      have a1:=vl_b c12;have a2:=vl_b c13;have a3:=vl_b c14;have a4:=vl_b c15;have a5:=vl_b c5;have a6:=vl_b c6
      have b1:=vl_b c17;have b2:=vl_b c18;have b3:=vl_b c20;have b4:=vl_b c21;have b5:=vl_b c23;have b6:=vl_b c24
      have hi:=index_le monS [c8,c9,c10]
      generalize Lib.index monS [c8,c9,c10]=ix at *
      generalize hY:1000*vl c12+100*vl c13+10*vl c14+vl c15=Y at *
      generalize hD:10*vl c5+vl c6=D at *
      have hml:monS.length=36:=rfl
      have hix:ix≤33:=by rw[hml]at hi;simp at hi;omega
      have hb1:=ah_mono (a:=1970) (b:=Y) (by omega)
      have hb2:=ah_mono (a:=Y) (b:=10000) (by omega)
      have eb1:ah 1970=0:=by decide
      have eb2:ah 10000=2932897:=by decide
      have hc:=cum_mono (lng Y) 0 (ix / 3) (by omega) (by omega) (by omega)
      have hc2:=cum_mono (lng Y) (ix / 3) 12 (by omega) (by omega) (by omega)
      have h12:=cum_12 (lng Y)
      have:cum (lng Y) 12≤366:=by rw[h12];cases lng Y<;>simp
      rw[cum_0]at hc
      rw[h0m (by omega) (by omega) hs]
      rcases p0t (n:=86400*(ah Y+D - 1+cum (lng Y) (ix / 3))+3600*(10*vl c17+vl c18)+60*(10*vl c20+vl c21)+(10*vl c23+vl c24)) (by omega) with ⟨e,_⟩ | ⟨y,m,k,hd,e⟩
      · rw[e];left;rfl
      · rw[e,Option.bind_some]
        dsimp only
        split
        · rename_i g
          right
          exact ⟨_,rfl,by omega,by rw[e,g.2]⟩
        · left;rfl
    · left;rfl
  · left
    unfold p0r
    rw[if_neg (by simp;omega)]
theorem mo_ix{m:Int}(h0:0≤m)(h1:m<12):∃ a b c,mo m=[a,b,c]∧Lib.index monS [a,b,c]=3*m:=by
  rcases mth h0 h1 with rfl | rfl | rfl | rfl | rfl | rfl | rfl | rfl | rfl | rfl | rfl | rfl<;>exact ⟨_,_,_,rfl,by decide +kernel⟩
theorem wk_ex{q:Int}(h0:0≤q)(h1:q<7):∃ a b c,wk q=[a,b,c]:=by
  rcases q7 h0 h1 with rfl | rfl | rfl | rfl | rfl | rfl | rfl<;>exact ⟨_,_,_,rfl⟩
theorem B0j{n y m k:Int}(h:Dt (n / 86400) y m k):p0r (txt (n / 86400) (n % 86400) y m k)=some (n,0):=by
  have h8:=x0l h
  have hr:=h.range
  have hs0:0≤n % 86400:=by omega
  have hs1:n % 86400<86400:=by omega
  generalize hd:n / 86400=d at *
  generalize hsd:n % 86400=s at *
  obtain ⟨h1,h2,h3,h4,h5,h6,h7⟩:=h
  have hm:=md_pos (lng y) h3 h4
  obtain ⟨w0,w1,w2,hw⟩:=wk_ex (q:=d % 7) (by omega) (by omega)
  obtain ⟨m0,m1,m2,hm0,hix⟩:=mo_ix h3 h4
  have hz:txt d s y m k=[w0,w1,w2,44,32,dg ((k+1) / 10 % 10),dg ((k+1) % 10),32,m0,m1,m2,32,dg (y / 1000 % 10),dg (y / 100 % 10),dg (y / 10 % 10),dg (y % 10),32,dg (s / 3600 / 10 % 10),dg (s / 3600 % 10),58,dg (s / 60 % 60 / 10 % 10),dg (s / 60 % 60 % 10),58,dg (s % 60 / 10 % 10),dg (s % 60 % 10),32,71,77,84]:=by
    simp only[txt,hw,hm0,tw,y4,List.cons_append,List.nil_append]
  rw[x0c hz,hix]
  have v:∀ x:Int,vl (dg (x % 10))=x % 10:=fun x=>vl_dg (by omega) (by omega)
  simp only[v]
  rw[show 1000*(y / 1000 % 10)+100*(y / 100 % 10)+10*(y / 10 % 10)+y % 10=y by omega,show 10*((k+1) / 10 % 10)+(k+1) % 10=k+1 by omega,show 3*m / 3=m by omega]
  rw[if_pos ⟨by omega,by omega,by omega,by omega,by omega⟩,show ah y+(k+1) - 1+cum (lng y) m=d by omega,h0m hr.1 (by omega) hz]
  simp only[v]
  rw[show 10*(s / 3600 / 10 % 10)+s / 3600 % 10=s / 3600 by omega,show 10*(s / 60 % 60 / 10 % 10)+s / 60 % 60 % 10=s / 60 % 60 by omega,show 10*(s % 60 / 10 % 10)+s % 60 % 10=s % 60 by omega,show 86400*d+3600*(s / 3600)+60*(s / 60 % 60)+s % 60=n by omega,h8]
  simp
end Go.Ab
end
section
set_option linter.all false
open Go Go.Ab Go.Proofs Go.Proofs.YtbkobjepahlegaaGreatDoor
namespace Go.Ab
def secs(h mi se:Int):Int:=3600*h+60*mi+se
theorem q0a{s:Bs}{h mi se d:Int}(hl:s.length=29)(h0:0≤d)(h1:d<100000000)(a0:0≤h)(a1:h≤23)(b0:0≤mi)(b1:mi≤59)(c0:0≤se)(c1:se≤59):
    d0u s h mi se d=if wk (d % 7)=s.take 3 then some (86400*d+secs h mi se,0) else some (0,5):=by
  unfold d0u secs
  rw[L0B h0,hl,Option.bind_some,show bnd 3 29=some 3 from rfl,Option.bind_some]
  by_cases c:wk (d % 7)=s.take 3
  · rw[if_pos (by simpa using c),if_pos c,w64_eq (3600*h) (by omega) (by omega),w64_eq (60*mi) (by omega) (by omega),w64_eq (3600*h+60*mi) (by omega) (by omega),w64_eq _ (by omega) (by omega),wu64_eq (86400*d) (by omega) (by omega),wu64_eq (3600*h+60*mi+se) (by omega) (by omega),wu64_eq _ (by omega) (by omega)]
  · rw[if_neg (by simpa using c),if_neg c]
theorem q0v{s:Bs}{m y h mi se D:Int}(hy:0≤y)(hm0:0≤m)(hm:m≤12)(hD0:0≤D)(hD1:D≤100000000):j0b s m y h mi se D 0=d0u s h mi se (D+cum (lng y) m):=by
  unfold j0b
  refine iter_to (fun x=>x.1=s∧x.2.1=m∧x.2.2.1=y∧x.2.2.2.1=h∧x.2.2.2.2.1=mi∧x.2.2.2.2.2.1=se∧0≤x.2.2.2.2.2.2.2∧x.2.2.2.2.2.2.2≤m∧x.2.2.2.2.2.2.1=D+cum (lng y) x.2.2.2.2.2.2.2) (fun x=>(m - x.2.2.2.2.2.2.2).toNat) _ ?_ _ ⟨rfl,rfl,rfl,rfl,rfl,rfl,by dsimp only;omega,by dsimp only;omega,by dsimp only;rw[cum_0];omega⟩
  rintro ⟨s',m',y',h',mi',se',d,q⟩ hI
  dsimp only at hI ⊢
  obtain ⟨rfl,rfl,rfl,rfl,rfl,rfl,h0,h1,rfl⟩:=hI
  unfold j0h
  by_cases c:q<m'
  · left
    have:=cum_s (lng y') h0 (show q<12 by omega)
    have:=cum_mono (lng y') 0 q (by omega) h0 (by omega)
    have:=cum_mono (lng y') q 12 h0 (by omega) (by omega)
    have h12:=cum_12 (lng y')
    have:cum (lng y') 12≤366:=by rw[h12];cases lng y'<;>simp
    have:=md_pos (lng y') h0 (show q<12 by omega)
    rw[cum_0]at *
    exact ⟨(s',m',y',h',mi',se',D+cum (lng y') (q+1),q+1),by rw[if_pos (by simpa using c),x0h hy h0 (by omega),Option.bind_some,wu64_eq (md (lng y') q) (by omega) (by omega),wu64_eq _ (by omega) (by omega),w64_eq _ (by omega) (by omega),show D+cum (lng y') q+md (lng y') q=D+cum (lng y') (q+1) by omega],⟨rfl,rfl,rfl,rfl,rfl,rfl,by dsimp only;omega,by dsimp only;omega,rfl⟩,by dsimp only;omega⟩
  · right
    have:q=m':=by omega
    subst this
    rw[if_neg (by simpa using c)]
theorem q0u{s:Bs}{m y h mi se D:Int}(hy:1970≤y)(hy2:y≤9999)(hD0:0≤D)(hD1:D≤1000):j0a s m y h mi se D 1970=f0A s m y h mi se (D+ah y):=by
  have e19:ah 1970=0:=by decide
  have e20:ah 9999=2932532:=by decide
  unfold j0a
  refine iter_to (fun x=>x.1=s∧x.2.1=m∧x.2.2.1=y∧x.2.2.2.1=h∧x.2.2.2.2.1=mi∧x.2.2.2.2.2.1=se∧1970≤x.2.2.2.2.2.2.2∧x.2.2.2.2.2.2.2≤y∧x.2.2.2.2.2.2.1=D+ah x.2.2.2.2.2.2.2) (fun x=>(y - x.2.2.2.2.2.2.2).toNat) _ ?_ _ ⟨rfl,rfl,rfl,rfl,rfl,rfl,by dsimp only;omega,by dsimp only;omega,by dsimp only;omega⟩
  rintro ⟨s',m',y',h',mi',se',d,q⟩ hI
  dsimp only at hI ⊢
  obtain ⟨rfl,rfl,rfl,rfl,rfl,rfl,h0,h1,rfl⟩:=hI
  unfold j0g f0z
  by_cases c:q<y'
  · left
    have hs:=ah_s q
    have:=ah_mono (a:=1970) (b:=q) h0
    have:=ah_mono (a:=q) (b:=9999) (by omega)
    refine ⟨(s',m',y',h',mi',se',D+ah (q+1),q+1),?_,⟨rfl,rfl,rfl,rfl,rfl,rfl,by dsimp only;omega,by dsimp only;omega,rfl⟩,by dsimp only;omega⟩
    rw[if_pos (by simpa using c),x0i (by omega),Option.bind_some,wu64_eq (D+ah q+365) (by omega) (by omega),w64_eq (q+1) (by omega) (by omega),wu64_eq (D+ah q+365+1) (by omega) (by omega)]
    cases hq:lng q<;>rw[hq]at hs<;>simp at hs ⊢ <;> omega
  · right
    have:q=y':=by omega
    subst this
    rw[if_neg (by simpa using c)]
theorem mo_inj{a b:Int}(h0:0≤a)(h1:a<12)(g0:0≤b)(g1:b<12)(h:mo a=mo b):a=b:=by
  obtain ⟨a0,a1,a2,e,f⟩:=mo_ix h0 h1
  obtain ⟨b0,b1,b2,e',f'⟩:=mo_ix g0 g1
  have hh:=h
  rw[e,e']at hh
  rw[hh]at f
  omega
theorem f0V{s:Bs}{m m0:Int}(hl:s.length=29)(h0:0≤m)(h1:m<12)(h:mo m=(s.take 11).drop 8):b0a s (-1) 0=a0W s m:=by
  unfold b0a
  refine iter_to (fun x=>x.1=s∧0≤x.2.2∧x.2.2≤12∧(m<x.2.2→x.2.1=m)) (fun x=>(12 - x.2.2).toNat) _ ?_ _ ⟨rfl,by dsimp only;omega,by dsimp only;omega,by dsimp only;omega⟩
  rintro ⟨s',m',q⟩ hI
  dsimp only at hI ⊢
  obtain ⟨rfl,a0,a1,a2⟩:=hI
  unfold f0Z d0s
  by_cases c:q<12
  · left
    rw[if_pos (by simpa using c),x0g a0 c,hl]
    simp only[Option.bind_some,show bnd 11 29=some 11 from rfl,show bnd 8 11=some 8 from rfl,← h]
    rw[w64_eq _ (by omega) (by omega)]
    by_cases e:mo q=mo m
    · have:=mo_inj a0 c h0 h1 e
      exact ⟨(s',q,q+1),by rw[if_pos (by simpa using e)],⟨rfl,by dsimp only;omega,by dsimp only;omega,fun _=>this⟩,by dsimp only;omega⟩
    · have:q≠m:=fun h=>e (by rw[h])
      exact ⟨(s',m',q+1),by rw[if_neg (by simpa using e)],⟨rfl,by dsimp only;omega,by dsimp only;omega,fun g=>a2 (by dsimp only at g;omega)⟩,by dsimp only;omega⟩
  · right
    rw[if_neg (by simpa using c),a2 (by omega)]
theorem m0I{s:Bs}(hl:s.length=29):b0a s (-1) 0=a0W s (-1)∨∃ m,0≤m∧m<12∧mo m=(s.take 11).drop 8∧b0a s (-1) 0=a0W s m:=by
  by_cases c:∃ m,0≤m∧m<12∧mo m=(s.take 11).drop 8
  · obtain ⟨m,h0,h1,h2⟩:=c
    exact .inr ⟨m,h0,h1,h2,f0V (m0:=0) hl h0 h1 h2⟩
  · left
    unfold b0a
    refine iter_to (fun x=>x.1=s∧x.2.1 = -1∧0≤x.2.2) (fun x=>(12 - x.2.2).toNat) _ ?_ _ ⟨rfl,rfl,by dsimp only;omega⟩
    rintro ⟨s',m',q⟩ hI
    dsimp only at hI ⊢
    obtain ⟨rfl,rfl,a0⟩:=hI
    unfold f0Z d0s
    by_cases d:q<12
    · left
      rw[if_pos (by simpa using d),x0g a0 d,hl]
      simp only[Option.bind_some,show bnd 11 29=some 11 from rfl,show bnd 8 11=some 8 from rfl]
      rw[w64_eq _ (by omega) (by omega)]
      exact ⟨(s',-1,q+1),by rw[if_neg (by simpa using fun e=>c ⟨q,a0,d,e⟩)],⟨rfl,rfl,by dsimp only;omega⟩,by dsimp only;omega⟩
    · right
      rw[if_neg (by simpa using d)]
section
variable {c0 c1 c2 c3 c4 c5 c6 c7 c8 c9 c10 c11 c12 c13 c14 c15 c16 c17 c18 c19 c20 c21 c22 c23 c24 c25 c26 c27 c28:UInt8}
    {s:Bs} (hs:s=[c0,c1,c2,c3,c4,c5,c6,c7,c8,c9,c10,c11,c12,c13,c14,c15,c16,c17,c18,c19,c20,c21,c22,c23,c24,c25,c26,c27,c28])
def nu2(a b:UInt8):Int:=if isd a=true∧isd b=true then 10*vl a+vl b else -1
def nu4(a b c d:UInt8):Int:=if isd a=true∧isd b=true∧isd c=true∧isd d=true then 1000*vl a+100*vl b+10*vl c+vl d else -1
theorem nu2_b(a b:UInt8):nu2 a b≤99∧-1≤nu2 a b:=by
  have:=vl_b a;have:=vl_b b
  unfold nu2;split<;>omega
theorem nu4_b(a b c d:UInt8):nu4 a b c d≤9999:=by
  have:=vl_b a;have:=vl_b b;have:=vl_b c;have:=vl_b d
  unfold nu4;split<;>omega
theorem nu2_tw{a b:UInt8}(h:0≤nu2 a b):tw (nu2 a b)=[a,b]:=by
  have ha:=vl_b a;have hb:=vl_b b
  unfold nu2 at *
  split at h
  · rename_i g
    rw[if_pos g]
    unfold tw
    rw[show (10*vl a+vl b) / 10 % 10=vl a by omega,show (10*vl a+vl b) % 10=vl b by omega,(isd_v g.1).2,(isd_v g.2).2]
  · omega
theorem nu4_y4{a b c d:UInt8}(h:0≤nu4 a b c d):y4 (nu4 a b c d)=[a,b,c,d]:=by
  have ha:=vl_b a;have hb:=vl_b b;have hc:=vl_b c;have hd:=vl_b d
  unfold nu4 at *
  split at h
  · rename_i g
    rw[if_pos g]
    unfold y4
    rw[show (1000*vl a+100*vl b+10*vl c+vl d) / 1000 % 10=vl a by omega,show (1000*vl a+100*vl b+10*vl c+vl d) / 100 % 10=vl b by omega,show (1000*vl a+100*vl b+10*vl c+vl d) / 10 % 10=vl c by omega,show (1000*vl a+100*vl b+10*vl c+vl d) % 10=vl d by omega,(isd_v g.1).2,(isd_v g.2.1).2,(isd_v g.2.2.1).2,(isd_v g.2.2.2).2]
  · omega
theorem nu2_dg{x:Int}(h0:0≤x)(h1:x<100):nu2 (dg (x / 10 % 10)) (dg (x % 10))=x:=by
  unfold nu2
  rw[if_pos ⟨isd_dg (by omega) (by omega),isd_dg (by omega) (by omega)⟩,vl_dg (by omega) (by omega),vl_dg (by omega) (by omega)]
  omega
theorem nu4_dg{x:Int}(h0:0≤x)(h1:x<10000):nu4 (dg (x / 1000 % 10)) (dg (x / 100 % 10)) (dg (x / 10 % 10)) (dg (x % 10))=x:=by
  unfold nu4
  rw[if_pos ⟨isd_dg (by omega) (by omega),isd_dg (by omega) (by omega),isd_dg (by omega) (by omega),isd_dg (by omega) (by omega)⟩,vl_dg (by omega) (by omega),vl_dg (by omega) (by omega),vl_dg (by omega) (by omega),vl_dg (by omega) (by omega)]
  omega
include hs in
theorem d0t(m:Int)(hm:m<12):a0W s m =
    if 0≤m∧1970≤nu4 c12 c13 c14 c15∧1≤nu2 c5 c6∧nu2 c5 c6≤md (lng (nu4 c12 c13 c14 c15)) m∧0≤nu2 c17 c18∧nu2 c17 c18≤23∧0≤nu2 c20 c21∧nu2 c20 c21≤59∧0≤nu2 c23 c24∧nu2 c23 c24≤59 ∧
        wk ((ah (nu4 c12 c13 c14 c15)+cum (lng (nu4 c12 c13 c14 c15)) m+(nu2 c5 c6 - 1)) % 7)=[c0,c1,c2] then
      some (86400*(ah (nu4 c12 c13 c14 c15)+cum (lng (nu4 c12 c13 c14 c15)) m+(nu2 c5 c6 - 1))+secs (nu2 c17 c18) (nu2 c20 c21) (nu2 c23 c24),0)
    else some (0,5):=by
  have hl:s.length=29:=by rw[hs];rfl
  have x1:=p0s (s:=s) 5 (by omega) (by omega)
  have x2:=S0f (s:=s) 12 (by omega) (by omega)
  have x3:=p0s (s:=s) 17 (by omega) (by omega)
  have x4:=p0s (s:=s) 20 (by omega) (by omega)
  have x5:=p0s (s:=s) 23 (by omega) (by omega)
  have y1:l0w s 5 2=some (nu2 c5 c6):=by rw[show ((5:Nat):Int)=5 from rfl]at x1;rw[x1,hs];rfl
  have y2:l0w s 12 4=some (nu4 c12 c13 c14 c15):=by rw[show ((12:Nat):Int)=12 from rfl]at x2;rw[x2,hs];rfl
  have y3:l0w s 17 2=some (nu2 c17 c18):=by rw[show ((17:Nat):Int)=17 from rfl]at x3;rw[x3,hs];rfl
  have y4:l0w s 20 2=some (nu2 c20 c21):=by rw[show ((20:Nat):Int)=20 from rfl]at x4;rw[x4,hs];rfl
  have y5:l0w s 23 2=some (nu2 c23 c24):=by rw[show ((23:Nat):Int)=23 from rfl]at x5;rw[x5,hs];rfl
  have b1:=nu2_b c5 c6;have b2:=nu2_b c17 c18;have b3:=nu2_b c20 c21;have b4:=nu2_b c23 c24;have b5:=nu4_b c12 c13 c14 c15
  have et:s.take 3=[c0,c1,c2]:=by rw[hs];rfl
  unfold a0W
  rw[y1,y2,y3,y4,y5]
  simp only[Option.bind_some]
  generalize nu4 c12 c13 c14 c15=Y at *
  generalize nu2 c5 c6=D at *
  generalize nu2 c17 c18=H at *
  generalize nu2 c20 c21=M at *
  generalize nu2 c23 c24=S at *
  have hf:a0k s m D Y H M S true=some (0,5):=rfl
  rw[hf]
  by_cases f1:m<0
  · rw[if_pos (by simpa using f1),if_neg (fun h=>by omega)]
  rw[if_neg (by simpa using f1)]
  by_cases f2:Y<1970
  · rw[if_pos (by simpa using f2),if_neg (fun h=>by omega)]
  rw[if_neg (by simpa using f2)]
  by_cases f3:D<1
  · rw[if_pos (by simpa using f3),if_neg (fun h=>by omega)]
  rw[if_neg (by simpa using f3),x0h (by omega) (by omega) hm,Option.bind_some]
  by_cases f4:md (lng Y) m<D
  · rw[if_pos (by simpa using f4),if_neg (fun h=>by omega)]
  rw[if_neg (by simpa using f4)]
  by_cases f5:H<0
  · rw[if_pos (by simpa using f5),if_neg (fun h=>by omega)]
  rw[if_neg (by simpa using f5)]
  by_cases f6:23<H
  · rw[if_pos (by simpa using f6),if_neg (fun h=>by omega)]
  rw[if_neg (by simpa using f6)]
  by_cases f7:M<0
  · rw[if_pos (by simpa using f7),if_neg (fun h=>by omega)]
  rw[if_neg (by simpa using f7)]
  by_cases f8:59<M
  · rw[if_pos (by simpa using f8),if_neg (fun h=>by omega)]
  rw[if_neg (by simpa using f8)]
  by_cases f9:S<0
  · rw[if_pos (by simpa using f9),if_neg (fun h=>by omega)]
  rw[if_neg (by simpa using f9)]
  unfold a0k
  by_cases f10:59<S
  · rw[if_pos (by simpa using f10),if_neg (fun h=>by omega)]
  rw[if_neg (by simpa using f10)]
  have hb1:=ah_mono (a:=1970) (b:=Y) (by omega)
  have hb2:=ah_mono (a:=Y) (b:=10000) (by omega)
  have eb1:ah 1970=0:=by decide
  have eb2:ah 10000=2932897:=by decide
  have hc:=cum_mono (lng Y) 0 m (by omega) (by omega) (by omega)
  have hc2:=cum_mono (lng Y) m 12 (by omega) (by omega) (by omega)
  have h12:=cum_12 (lng Y)
  have:cum (lng Y) 12≤366:=by rw[h12];cases lng Y<;>simp
  rw[cum_0]at hc
  have hmd:=md_pos (lng Y) (m:=m) (by omega) hm
  rw[w64_eq _ (by omega) (by omega),wu64_eq _ (by omega) (by omega),q0u (by omega) (by omega) (by omega) (by omega)]
  unfold f0A
  rw[q0v (by omega) (by omega) (by omega) (by omega) (by omega),q0a hl (by omega) (by omega) (by omega) (by omega) (by omega) (by omega) (by omega) (by omega),et,show D - 1+ah Y+cum (lng Y) m=ah Y+cum (lng Y) m+(D - 1) by omega]
  by_cases g:wk ((ah Y+cum (lng Y) m+(D - 1)) % 7)=[c0,c1,c2]
  · rw[if_pos g,if_pos ⟨by omega,by omega,by omega,by omega,by omega,by omega,by omega,by omega,by omega,by omega,g⟩]
  · rw[if_neg g,if_neg (fun h=>g h.2.2.2.2.2.2.2.2.2.2)]
include hs in
theorem x0b:g0y s=if c3=44∧c4=32∧c7=32∧c11=32∧c16=32∧c19=58∧c22=58∧c25=32∧c26=71∧c27=77∧c28=84 then b0a s (-1) 0 else some (0,5):=by
  have hl:s.length=29:=by rw[hs];rfl
  have e1:(s.take 5).drop 3=[c3,c4]:=by rw[hs];rfl
  have e2:s.drop 25=[c25,c26,c27,c28]:=by rw[hs];rfl
  have e3:s.getD 7 0=c7:=by rw[hs];rfl
  have e4:s.getD 11 0=c11:=by rw[hs];rfl
  have e5:s.getD 16 0=c16:=by rw[hs];rfl
  have e6:s.getD 19 0=c19:=by rw[hs];rfl
  have e7:s.getD 22 0=c22:=by rw[hs];rfl
  unfold g0y
  have hf:a0H s true=some (0,5):=rfl
  rw[if_pos (by simp[hl]),hl,e3,e4,e5,e6,e7,hf]
  simp only[show bnd 5 29=some 5 from rfl,show bnd 3 5=some 3 from rfl,show bnd 25 29=some 25 from rfl,Option.bind_some,e1,e2]
  by_cases f1:c3=44
  case neg=>rw[if_neg (by simp[f1]),if_neg (fun h=>f1 h.1)]
  by_cases f2:c4=32
  case neg=>rw[if_neg (by simp[f2]),if_neg (fun h=>f2 h.2.1)]
  rw[if_pos (by simp[f1,f2]),if_pos (by decide)]
  by_cases f3:c7=32
  case neg=>rw[if_neg (by simp[f3]),if_neg (fun h=>f3 h.2.2.1)]
  rw[if_pos (by simp[f3]),if_pos (by decide)]
  by_cases f4:c11=32
  case neg=>rw[if_neg (by simp[f4]),if_neg (fun h=>f4 h.2.2.2.1)]
  rw[if_pos (by simp[f4]),if_pos (by decide)]
  by_cases f5:c16=32
  case neg=>rw[if_neg (by simp[f5]),if_neg (fun h=>f5 h.2.2.2.2.1)]
  rw[if_pos (by simp[f5]),if_pos (by decide)]
  by_cases f6:c19=58
  case neg=>rw[if_neg (by simp[f6]),if_neg (fun h=>f6 h.2.2.2.2.2.1)]
  rw[if_pos (by simp[f6]),if_pos (by decide)]
  by_cases f7:c22=58
  case neg=>rw[if_neg (by simp[f7]),if_neg (fun h=>f7 h.2.2.2.2.2.2.1)]
  rw[if_pos (by simp[f7])]
  unfold a0H
  by_cases f8:c25=32∧c26=71∧c27=77∧c28=84
  · rw[if_neg (by simp[f8.1,f8.2.1,f8.2.2.1,f8.2.2.2]),if_pos ⟨f1,f2,f3,f4,f5,f6,f7,f8⟩]
  · rw[if_pos (by simp only[Bool.not_eq_true',beq_eq_false_iff_ne,ne_eq,List.cons.injEq,and_true];exact f8),if_neg (fun h=>f8 h.2.2.2.2.2.2.2)]
end
theorem L0n(s:Bs):g0y s=some (0,5)∨∃ n y m k,g0y s=some (n,0)∧Dt (n / 86400) y m k∧s=txt (n / 86400) (n % 86400) y m k:=by
  by_cases hl:s.length=29
  case neg =>
    left
    unfold g0y
    rw[if_neg (by simp;omega)]
    rfl
  obtain ⟨c0,c1,c2,c3,c4,c5,c6,c7,c8,c9,c10,c11,c12,c13,c14,c15,c16,c17,c18,c19,c20,c21,c22,c23,c24,c25,c26,c27,c28,hs⟩:=L29 hl
  rw[x0b hs]
  split
  case isFalse=>exact .inl rfl
  rename_i hf
  have em:(s.take 11).drop 8=[c8,c9,c10]:=by rw[hs];rfl
  rcases m0I hl with e | ⟨m,h0,h1,h2,e⟩
  · rw[e,d0t hs _ (by decide),if_neg (fun h=>by omega)]
    exact .inl rfl
  · rw[e,d0t hs _ h1]
    split
    case isFalse=>exact .inl rfl
    rename_i g
    right
    obtain ⟨g0,g1,g2,g3,g4,g5,g6,g7,g8,g9,g10⟩:=g
    have z1:=nu2_tw (show 0≤nu2 c5 c6 by omega)
    have z2:=nu4_y4 (show 0≤nu4 c12 c13 c14 c15 by omega)
    have z3:=nu2_tw g4
    have z4:=nu2_tw g6
    have z5:=nu2_tw g8
    have b5:=nu4_b c12 c13 c14 c15
    generalize nu4 c12 c13 c14 c15=Y at *
    generalize nu2 c5 c6=D at *
    generalize nu2 c17 c18=H at *
    generalize nu2 c20 c21=M at *
    generalize nu2 c23 c24=S at *
    have hd:Dt (ah Y+cum (lng Y) m+(D - 1)) Y m (D - 1):=⟨g1,b5,h0,h1,by omega,by omega,rfl⟩
    generalize hX:ah Y+cum (lng Y) m+(D - 1)=d at *
    have q1:(86400*d+secs H M S) / 86400=d:=by unfold secs;omega
    have q2:(86400*d+secs H M S) % 86400=secs H M S:=by unfold secs;omega
    refine ⟨_,Y,m,D - 1,rfl,by rw[q1];exact hd,?_⟩
    rw[q1,q2]
    unfold txt
    rw[g10,h2,em,z2,show D - 1+1=D by omega,z1,show secs H M S / 3600=H by unfold secs;omega,show secs H M S / 60 % 60=M by unfold secs;omega,show secs H M S % 60=S by unfold secs;omega,z3,z4,z5,hs]
    obtain ⟨rfl,rfl,rfl,rfl,rfl,rfl,rfl,rfl,rfl,rfl,rfl⟩:=hf
    rfl
theorem B0i{n y m k:Int}(h:Dt (n / 86400) y m k):g0y (txt (n / 86400) (n % 86400) y m k)=some (n,0):=by
  have hr:=h.range
  have hs0:0≤n % 86400:=by omega
  have hs1:n % 86400<86400:=by omega
  generalize hd:n / 86400=d at *
  generalize hsd:n % 86400=s at *
  obtain ⟨h1,h2,h3,h4,h5,h6,h7⟩:=h
  have hm:=md_pos (lng y) h3 h4
  obtain ⟨w0,w1,w2,hw⟩:=wk_ex (q:=d % 7) (by omega) (by omega)
  obtain ⟨m0,m1,m2,hm0,hix⟩:=mo_ix h3 h4
  have hz:txt d s y m k=[w0,w1,w2,44,32,dg ((k+1) / 10 % 10),dg ((k+1) % 10),32,m0,m1,m2,32,dg (y / 1000 % 10),dg (y / 100 % 10),dg (y / 10 % 10),dg (y % 10),32,dg (s / 3600 / 10 % 10),dg (s / 3600 % 10),58,dg (s / 60 % 60 / 10 % 10),dg (s / 60 % 60 % 10),58,dg (s % 60 / 10 % 10),dg (s % 60 % 10),32,71,77,84]:=by
    simp only[txt,hw,hm0,tw,y4,List.cons_append,List.nil_append]
  have hl:(txt d s y m k).length=29:=by rw[hz];rfl
  rw[x0b hz,if_pos ⟨rfl,rfl,rfl,rfl,rfl,rfl,rfl,rfl,rfl,rfl,rfl⟩,f0V (m0:=0) hl h3 h4 (by rw[hz,hm0];rfl),d0t hz _ h4]
  rw[nu4_dg (by omega) (by omega),nu2_dg (x:=k+1) (by omega) (by omega),nu2_dg (x:=s / 3600) (by omega) (by omega),nu2_dg (x:=s / 60 % 60) (by omega) (by omega),nu2_dg (x:=s % 60) (by omega) (by omega)]
  have e:ah y+cum (lng y) m+(k+1 - 1)=d:=by omega
  rw[e,if_pos ⟨by omega,by omega,by omega,by omega,by omega,by omega,by omega,by omega,by omega,by omega,hw⟩]
  unfold secs
  rw[show 86400*d+(3600*(s / 3600)+60*(s / 60 % 60)+s % 60)=n by omega]
end Go.Ab
end
section
set_option linter.all false
open Go Go.Ab Go.Proofs Go.Proofs.YtbkobjepahlegaaGreatDoor
noncomputable def par(s:Bs):Int×Int:=(g0y s).getD (0,5)
theorem par_ok(s:Bs):p0r s=some (par s)∧g0y s=some (par s)∧0≤(par s).1∧(par s).1≤253402300799∧((par s).2=0∨(par s).2=5∧(par s).1=0):=by
  unfold par
  have dto:∀ {n:Int},0≤n→x0k n=some (s,0)→∃ y m k,Dt (n / 86400) y m k∧s=txt (n / 86400) (n % 86400) y m k:=by
    intro n h0 h
    rcases p0t h0 with ⟨e,hb⟩ | ⟨y,m,k,hd,e⟩
    · rw[e]at h;simp at h
    · rw[e]at h
      simp only[Option.some.injEq,Prod.mk.injEq,and_true]at h
      exact ⟨y,m,k,hd,h.symm⟩
  have rg:∀ {n y m k:Int},Dt (n / 86400) y m k→0≤n∧n≤253402300799:=by
    intro n y m k h
    have:=h.range
    omega
  have mk:∀ {a:Int×Int},p0r s=some a→g0y s=some a→0≤a.1→a.1≤253402300799→(a.2=0∨a.2=5∧a.1=0) →
      p0r s=some ((g0y s).getD (0,5))∧g0y s=some ((g0y s).getD (0,5))∧0≤((g0y s).getD (0,5)).1∧((g0y s).getD (0,5)).1≤253402300799∧(((g0y s).getD (0,5)).2=0∨((g0y s).getD (0,5)).2=5∧((g0y s).getD (0,5)).1=0):=by
    intro a h1 h2 h3 h4 h5
    rw[h1,h2]
    exact ⟨rfl,rfl,h3,h4,h5⟩
  rcases L0o s with e | ⟨n,e,h0,h8⟩
  · rcases L0n s with f | ⟨n,y,m,k,f,hd,hs⟩
    · exact mk e f (by decide) (by decide) (.inr ⟨rfl,rfl⟩)
    · have g:=B0j hd
      rw[← hs,e]at g
      simp at g
  · obtain ⟨y,m,k,hd,hs⟩:=dto h0 h8
    have g:=B0i hd
    rw[← hs]at g
    exact mk e g (rg hd).1 (rg hd).2 (.inl rfl)
end
section
set_option linter.all false
set_option maxRecDepth 100000
open Go Go.Ab Go.Proofs Go.Proofs.YtbkobjepahlegaaGreatDoor
theorem wu64_id{x:Int}(h0:0≤x)(h1:x<18446744073709551616):wu64 x=x:=by rw[wu64m];exact Int.emod_eq_of_lt h0 h1
def sinceL(a b:Int):Int:=if b≤a then 0 else b - a
theorem sinceL_b{a b:Int}(ha:0≤a)(hb:0≤b):0≤sinceL a b∧sinceL a b≤b:=by unfold sinceL;split<;>omega
theorem J0U{a b:Int}(ha:0≤a)(hb:b<18446744073709551616):m66 a b=some (sinceL a b):=by
  unfold m66 sinceL
  by_cases h:b≤a
  · rw[if_pos (by simpa using h),if_pos h]
  · rw[if_neg (by simpa using h),if_neg h,wu64_id (by omega) (by omega)]
theorem L0l{a b:Int}(ha:0≤a)(hb:b<18446744073709551616):R0U a b=some (sinceL a b):=by
  unfold R0U sinceL
  by_cases h:b<a
  · rw[if_pos (by simpa using h),if_pos (by omega)]
  · rw[if_neg (by simpa using h)]
    by_cases q:b≤a
    · rw[if_pos q,wu64_id (by omega) (by omega),show b - a=0 by omega]
    · rw[if_neg q,wu64_id (by omega) (by omega)]
theorem p0w(a b:Int):m97 a b=some (min2 a b):=by
  unfold m97 min2
  by_cases h:a<b
  · rw[if_pos (by simpa using h),if_neg (by omega)]
  · rw[if_neg (by simpa using h)]
    by_cases q:b<a
    · rw[if_pos q]
    · rw[if_neg q,show b=a by omega]
theorem K0b(a:Int)(r:Bs)(mi:Int)(b:Bool)(l:List (Bs×Bs))(c:Bool)(bo:List UInt8)(n:Bs)(hs:fsz l<2 ^ 30)(hn:n.length<2 ^ 30):∃ z,m99 a r mi b l c bo n=some (z,getL l n):=by
  have hl:=fsz_len l
  have e:=iter_fold (step:=fun x:(Bs×Bool×List Bs×Int×Int×Bs×Int×Bool×List (Bs×Bs)×Bool×List UInt8)=>q0H x.1 x.2.1 x.2.2.1 x.2.2.2.1 x.2.2.2.2.1 x.2.2.2.2.2.1 x.2.2.2.2.2.2.1 x.2.2.2.2.2.2.2.1 x.2.2.2.2.2.2.2.2.1 x.2.2.2.2.2.2.2.2.2.1 x.2.2.2.2.2.2.2.2.2.2) l
    (fun (g:Bool×List Bs) (i:Nat)=>(n,g.1,g.2,(i:Int),a,r,mi,b,l,c,bo)) (getF n) (fun g=>g) (fun g i=>g.2.length≤i)
    (fun g i h hg=>by
      unfold getF
      split
      · rw[List.length_append];simp only[List.length_singleton];omega
      · omega)
    (fun g i h hg=>by
      have hm:=fsz_mem (List.getElem_mem h)
      have e1:(l.getD i default)=l[i]:=by simp[List.getD_eq_getElem?_getD,h]
      simp only[q0H,l0g,Int.toNat_natCast,e1]
      rw[if_pos (by simpa using h),if_pos ⟨by omega,by omega⟩,l0k _ _ (by omega) (by omega),Option.bind_some,w64_eq _ (by omega) (by omega)]
      unfold getF
      by_cases c:lowL l[i].1=lowL n
      · rw[if_pos (by simpa using c),if_pos (by omega),if_pos c];rfl
      · rw[if_neg (by simpa using c),if_neg c];rfl)
    (fun g hg=>by
      simp only[q0H,p0n]
      rw[if_neg (by simp)]
      rfl) (true,[]) (by simp)
  have e2:m99 a r mi b l c bo n=some (l.foldl (getF n) (true,[])):=e
  have h2:=getF_fold n l (true,[])
  rw[List.nil_append]at h2
  rw[e2,← h2]
  exact ⟨_,rfl⟩
noncomputable def mom(l:List (Bs×Bs))(n:Bs):Int×Bool:=if (getL l n).length=1 then ((par ((getL l n).getD 0 default)).1,(par ((getL l n).getD 0 default)).2==0) else (0,false)
theorem mom_b(l:List (Bs×Bs))(n:Bs):0≤(mom l n).1∧(mom l n).1≤253402300799:=by
  unfold mom
  split
  · have:=par_ok ((getL l n).getD 0 default)
    exact ⟨this.2.2.1,this.2.2.2.1⟩
  · simp
theorem x0t(a:Int)(r:Bs)(mi:Int)(b:Bool)(l:List (Bs×Bs))(c:Bool)(bo:List UInt8)(n:Bs)(hs:fsz l<2 ^ 30)(hn:n.length<2 ^ 30):m65 a r mi b l c bo n=some (mom l n):=by
  obtain ⟨z,hz⟩:=l0i b l n hs hn
  unfold m65 T0a mom
  rw[hz,Option.bind_some]
  by_cases h:(getL l n).length=1
  · have hp:=par_ok ((getL l n).getD 0 default)
    rw[if_pos (by simp[h]),if_pos (by dsimp only;omega),Option.bind_some,if_pos rfl,hp.1,Option.bind_some,if_pos h]
  · rw[if_neg (by simp;omega),Option.bind_some,if_neg (by simp),if_neg h]
theorem m0O(a:Int)(r:Bs)(mi:Int)(b:Bool)(l:List (Bs×Bs))(c:Bool)(bo:List UInt8)(n:Bs)(hs:fsz l<2 ^ 30)(hn:n.length<2 ^ 30):L0k a r mi b l c bo n=some (mom l n):=by
  obtain ⟨z,hz⟩:=K0b a r mi b l c bo n hs hn
  unfold L0k mom
  rw[hz,Option.bind_some]
  by_cases h:(getL l n).length=1
  · have hp:=par_ok ((getL l n).getD 0 default)
    rw[if_pos (by simp[h]),if_pos (by dsimp only;omega),hp.2.1,Option.bind_some,if_pos h]
    rcases hp.2.2.2.2 with h0 | ⟨h5,h1⟩
    · rw[if_pos (by rw[h0];rfl),h0];rfl
    · rw[if_neg (by rw[h5];decide),h5,h1];rfl
  · rw[if_neg (by simp;omega),if_neg h]
abbrev daB:Bs:=[100,97,116,101]
theorem S0C(a:Int)(r:Bs)(mi:Int)(b:Bool)(l:List (Bs×Bs))(c:Bool)(bo:List UInt8)(hs:fsz l<2 ^ 30):m64 a r mi b l c bo=some (mom l daB):=by
  unfold m64;rw[show ([100,97,116,101]:Bs)=daB from rfl,x0t a r mi b l c bo daB hs (by decide),Option.bind_some]
theorem S0Q(a:Int)(r:Bs)(mi:Int)(b:Bool)(l:List (Bs×Bs))(c:Bool)(bo:List UInt8)(hs:fsz l<2 ^ 30):m98 a r mi b l c bo=some (mom l daB):=by
  unfold m98;rw[show ([100,97,116,101]:Bs)=daB from rfl,m0O a r mi b l c bo daB hs (by decide),Option.bind_some]
def lasts(s:Int):Bool:=([200,203,204,300,301,308,404,405,410,414,501]:List Int).any fun x=>s==x
theorem L0q(b:Bool)(L:List Int)(v:Int)(hL:L.length<2 ^ 60):∃ r,T0b b L v=some r∧decide (0≤r)=L.any fun x=>v==x:=by
  refine iter_post (fun s=>∃ i:Nat,s=(b,L,v,(L.length:Int),(i:Int))∧i≤L.length∧(L.any fun x=>v==x)=((L.drop i).any fun x=>v==x)) (fun s=>L.length+1 - s.2.2.2.2.toNat) _ ?_ _ ⟨0,rfl,by omega,by simp⟩
  rintro s ⟨i,rfl,hi,ha⟩
  by_cases h:i<L.length
  · have e1:(L.getD i default)=L[i]:=by simp[List.getD_eq_getElem?_getD,h]
    have ha':=ha
    rw[List.drop_eq_getElem_cons h,List.any_cons]at ha'
    simp only[l0l,Int.toNat_natCast,e1]
    rw[if_pos (by simpa using h),if_pos ⟨by omega,by omega⟩,w64_eq _ (by omega) (by omega)]
    cases c:v==L[i] with
    | true =>
      right
      rw[if_pos rfl]
      refine ⟨_,rfl,?_⟩
      rw[ha',c]
      simp
    | false =>
      left
      rw[if_neg (by simp)]
      refine ⟨_,rfl,⟨i+1,rfl,by omega,?_⟩,?_⟩
      · rw[ha',c,Bool.false_or]
      · show L.length+1 - ((i:Int)+1).toNat<L.length+1 - (i:Int).toNat
        omega
  · right
    obtain rfl:i=L.length:=by omega
    simp only[l0l,i0D]
    rw[if_neg (by simp)]
    refine ⟨-1,rfl,?_⟩
    rw[ha,List.drop_length]
    rfl
theorem J0V(b:Bool)(L:List Int)(v:Int)(hL:L.length<2 ^ 60):m67 b L v=some (L.any fun x=>v==x):=by
  obtain ⟨r,h1,h2⟩:=L0q b L v hL
  simp only[m67,h1,Option.bind_some,h2]
theorem or_if{X:Option Bool}{R:Bool}(b:Bool)(h:X=some R):(if b=true then some true else X)=some (b||R):=by
  cases b
  · rw[h];rfl
  · rfl
theorem L0m(s:Int):R0V s=some (lasts s):=by
  unfold R0V lasts
  simp only[List.any_cons,List.any_nil,Bool.or_false]
  exact or_if _ (or_if _ (or_if _ (or_if _ (or_if _ (or_if _ (or_if _ (or_if _ (or_if _ (or_if _ rfl)))))))))
theorem numL_b(s:Bs):numL s≤2147483647:=by unfold numL;split<;>omega
theorem fold_min_b(h:List Int):∀ m,m≤2147483647→h.foldl min2 m≤2147483647:=by
  induction h with
  | nil=>intro m hm;exact hm
  | cons a h ih=>intro m hm;exact ih _ (by unfold min2;split<;>omega)
theorem ofMin_b(V:List Bs):ofMin V≤2147483647:=by
  unfold ofMin
  split
  · omega
  · cases V with
    | nil=>simp[minL]
    | cons v V=>exact fold_min_b _ _ (numL_b v)
abbrev exB:Bs:=[101,120,112,105,114,101,115]
abbrev lmB:Bs:=[108,97,115,116,45,109,111,100,105,102,105,101,100]
noncomputable def lifeL(st:Int)(l:List (Bs×Bs)):Int×Bool :=
  if 0≤ofMin (valP smB (pairsL l)) then (ofMin (valP smB (pairsL l)),true)
  else if 0≤ofMin (valP maB (pairsL l)) then (ofMin (valP maB (pairsL l)),true)
  else if 0<(getL l exB).length then (if (mom l exB).2=true∧(mom l daB).2=true then min2 (sinceL (mom l daB).1 (mom l exB).1) 2147483648 else 0,true)
  else (if (mom l lmB).2=true∧(mom l daB).2=true∧lasts st=true then min2 (sinceL (mom l lmB).1 (mom l daB).1 / 10) 86400 else 0,false)
theorem min2_self{a b:Int}(h:a≤b):min2 a b=a:=by unfold min2;rw[if_neg (by omega)]
theorem S0o(st:Int)(r:Bs)(mi:Int)(b:Bool)(l:List (Bs×Bs))(c:Bool)(bo:List UInt8)(hs:fsz l<2 ^ 30):m25 st r mi b l c bo=some (lifeL st l):=by
  have b1:=ofMin_b (valP smB (pairsL l))
  have b2:=ofMin_b (valP maB (pairsL l))
  obtain ⟨z,hz⟩:=l0i b l exB hs (by decide)
  have hd:=mom_b l daB
  have he:=mom_b l exB
  have hm:=mom_b l lmB
  unfold m25 lifeL
  rw[J0M b l hs,Option.bind_some,S0C st r mi b l c bo hs,Option.bind_some]
  have p1:(resL (pairsL l)).2.2.2.2.2.2.2.1=ofMin (valP smB (pairsL l)):=rfl
  have p2:(resL (pairsL l)).2.2.2.2.2.2.1=ofMin (valP maB (pairsL l)):=rfl
  rw[p1,p2]
  by_cases h1:0≤ofMin (valP smB (pairsL l))
  · rw[if_pos (by simpa using h1),if_pos h1,min2_self (by omega)]
  rw[if_neg (by simpa using h1),if_neg h1]
  by_cases h2:0≤ofMin (valP maB (pairsL l))
  · rw[if_pos (by simpa using h2),if_pos h2,min2_self (by omega)]
  rw[if_neg (by simpa using h2),if_neg h2]
  rw[show ([101,120,112,105,114,101,115]:Bs)=exB from rfl,show ([108,97,115,116,45,109,111,100,105,102,105,101,100]:Bs)=lmB from rfl,hz,Option.bind_some]
  by_cases h3:0<(getL l exB).length
  · rw[if_pos (by simpa using h3),if_pos h3,x0t st r mi b l c bo exB hs (by decide),Option.bind_some]
    have hmin:w64 (min2 (sinceL (mom l daB).1 (mom l exB).1) 2147483648)=min2 (sinceL (mom l daB).1 (mom l exB).1) 2147483648:=by
      have:=sinceL_b hd.1 he.1
      exact w64_eq _ (by unfold min2;split<;>omega) (by unfold min2;split<;>omega)
    by_cases q1:(mom l exB).2=true
    · rw[if_pos q1]
      unfold h0r
      by_cases q2:(mom l daB).2=true
      · rw[if_neg (by simp[q2]),if_pos ⟨q1,q2⟩,J0U hd.1 (by omega),Option.bind_some,hmin]
      · rw[if_pos (by simp[q2]),if_neg (fun q=>q2 q.2)]
    · rw[if_neg q1]
      unfold h0r
      rw[if_pos rfl,if_neg (fun q=>q1 q.1)]
  rw[if_neg (by simpa using h3),if_neg h3,x0t st r mi b l c bo lmB hs (by decide),Option.bind_some]
  have hmin:w64 (min2 (wu64 ((sinceL (mom l lmB).1 (mom l daB).1).tdiv 10)) 86400)=min2 (sinceL (mom l lmB).1 (mom l daB).1 / 10) 86400:=by
    have:=sinceL_b hm.1 hd.1
    rw[Int.tdiv_eq_ediv_of_nonneg this.1,wu64_id (by omega) (by omega)]
    exact w64_eq _ (by unfold min2;split<;>omega) (by unfold min2;split<;>omega)
  by_cases q1:(mom l lmB).2=true
  · rw[if_pos q1]
    by_cases q2:(mom l daB).2=true
    · rw[if_pos q2,J0V _ _ _ (by simp),Option.bind_some]
      have hl:(([200,203,204,300,301,308,404,405,410,414,501]:List Int).any fun x=>st==x)=lasts st:=rfl
      rw[hl]
      unfold d0X
      by_cases q3:lasts st=true
      · rw[if_neg (by simp[q3]),if_pos ⟨q1,q2,q3⟩,J0U hm.1 (by omega),Option.bind_some,hmin]
      · rw[if_pos (by simp[q3]),if_neg (fun q=>q3 q.2.2)]
    · rw[if_neg q2]
      unfold d0X
      rw[if_pos rfl,if_neg (fun q=>q2 q.2.1)]
  · rw[if_neg q1]
    unfold d0X
    rw[if_pos rfl,if_neg (fun q=>q1 q.1)]
theorem S0y(st:Int)(r:Bs)(mi:Int)(b:Bool)(l:List (Bs×Bs))(c:Bool)(bo:List UInt8)(hs:fsz l<2 ^ 30):m52 st r mi b l c bo=some (lifeL st l):=by
  have b1:=ofMin_b (valP smB (pairsL l))
  have b2:=ofMin_b (valP maB (pairsL l))
  obtain ⟨z,hz⟩:=K0b st r mi b l c bo exB hs (by decide)
  have hd:=mom_b l daB
  have he:=mom_b l exB
  have hm:=mom_b l lmB
  unfold m52 lifeL
  rw[J0O b l hs,Option.bind_some]
  have p1:(resL (pairsL l)).2.2.2.2.2.2.2.1=ofMin (valP smB (pairsL l)):=rfl
  have p2:(resL (pairsL l)).2.2.2.2.2.2.1=ofMin (valP maB (pairsL l)):=rfl
  rw[p1,p2]
  by_cases h1:0≤ofMin (valP smB (pairsL l))
  · rw[if_pos (by simpa using h1),if_pos h1,p0w,Option.bind_some,wu64_id h1 (by omega),min2_self (by omega),w64_eq _ (by omega) (by omega)]
  rw[if_neg (by simpa using h1),if_neg h1]
  by_cases h2:0≤ofMin (valP maB (pairsL l))
  · rw[if_pos (by simpa using h2),if_pos h2,p0w,Option.bind_some,wu64_id h2 (by omega),min2_self (by omega),w64_eq _ (by omega) (by omega)]
  rw[if_neg (by simpa using h2),if_neg h2]
  rw[show ([101,120,112,105,114,101,115]:Bs)=exB from rfl,show ([108,97,115,116,45,109,111,100,105,102,105,101,100]:Bs)=lmB from rfl,S0Q st r mi b l c bo hs,Option.bind_some,hz,Option.bind_some]
  by_cases h3:0<(getL l exB).length
  · rw[if_pos (by simpa using h3),if_pos h3,m0O st r mi b l c bo exB hs (by decide),Option.bind_some]
    have hmin:w64 (min2 (sinceL (mom l daB).1 (mom l exB).1) 2147483648)=min2 (sinceL (mom l daB).1 (mom l exB).1) 2147483648:=by
      have:=sinceL_b hd.1 he.1
      exact w64_eq _ (by unfold min2;split<;>omega) (by unfold min2;split<;>omega)
    by_cases q1:(mom l exB).2=true
    · rw[if_pos q1]
      unfold h0w
      by_cases q2:(mom l daB).2=true
      · rw[if_pos q2,if_pos ⟨q1,q2⟩,L0l hd.1 (by omega),Option.bind_some,p0w,Option.bind_some,hmin]
      · rw[if_neg q2,if_neg (fun q=>q2 q.2)]
    · rw[if_neg q1]
      unfold h0w
      rw[if_neg (by simp),if_neg (fun q=>q1 q.1)]
  rw[if_neg (by simpa using h3),if_neg h3,m0O st r mi b l c bo lmB hs (by decide),Option.bind_some]
  by_cases q1:(mom l lmB).2=true
  · rw[if_pos q1]
    by_cases q2:(mom l daB).2=true
    · rw[if_pos q2]
      by_cases q4:(mom l lmB).1≤(mom l daB).1
      · rw[if_pos (by simpa using q4),L0m,Option.bind_some]
        unfold b0s
        by_cases q3:lasts st=true
        · rw[if_pos q3,if_pos ⟨q1,q2,q3⟩,p0w,Option.bind_some]
          have e1:sinceL (mom l lmB).1 (mom l daB).1=(mom l daB).1 - (mom l lmB).1:=by unfold sinceL;split<;>omega
          rw[wu64_id (x:=(mom l daB).1 - (mom l lmB).1) (by omega) (by omega),Int.tdiv_eq_ediv_of_nonneg (by omega),wu64_id (by omega) (by omega),e1,w64_eq _ (by unfold min2;split<;>omega) (by unfold min2;split<;>omega)]
        · rw[if_neg q3,if_neg (fun q=>q3 q.2.2)]
      · rw[if_neg (by simpa using q4)]
        unfold b0s
        have e1:sinceL (mom l lmB).1 (mom l daB).1=0:=by unfold sinceL;rw[if_pos (by omega)]
        rw[if_neg (by simp),e1]
        split<;>rfl
    · rw[if_neg q2]
      unfold b0s
      rw[if_neg (by simp),if_neg (fun q=>q2 q.2.1)]
  · rw[if_neg q1]
    unfold b0s
    rw[if_neg (by simp),if_neg (fun q=>q1 q.1)]
theorem get_one{l:List (Bs×Bs)}{n:Bs}(h:(getL l n).length=1):((getL l n).getD 0 default).length≤fsz l:=by
  have h2:=getL_ssz l n
  cases hg:getL l n with
  | nil=>rw[hg]at h;cases h
  | cons v r =>
    rw[hg]at h2
    simp only[ssz,List.map_cons,List.sum_cons]at h2
    show v.length≤_
    omega
end
section
set_option linter.all false
set_option maxRecDepth 100000
open Go Go.Ab Go.Proofs Go.Proofs.YtbkobjepahlegaaGreatDoor
theorem mm{a:Int}(h:0≤a):0≤min2 a 2147483648000∧min2 a 2147483648000≤2147483648000:=by unfold min2;split<;>omega
end
section
set_option linter.all false
set_option maxRecDepth 100000
open Go Go.Ab Go.Proofs Go.Proofs.YtbkobjepahlegaaGreatDoor
theorem x0v(b:Bool)(l:List (Bs×Bs))(n:Bs)(hs:fsz l<2 ^ 30)(hn:n.length<2 ^ 30):∃ z,m74 b l n=some (z,getL l n):=by
  have hl:=fsz_len l
  have e:=iter_fold (step:=fun x:(Bool×List (Bs×Bs)×Bs×Bool×List Bs×Int)=>q0G x.1 x.2.1 x.2.2.1 x.2.2.2.1 x.2.2.2.2.1 x.2.2.2.2.2) l
    (fun (g:Bool×List Bs) (i:Nat)=>(b,l,n,g.1,g.2,(i:Int))) (getF n) (fun g=>g) (fun g i=>g.2.length≤i)
    (fun g i h hg=>by
      unfold getF
      split
      · rw[List.length_append];simp only[List.length_singleton];omega
      · omega)
    (fun g i h hg=>by
      have hm:=fsz_mem (List.getElem_mem h)
      have e1:(l.getD i default)=l[i]:=by simp[List.getD_eq_getElem?_getD,h]
      simp only[q0G,l0a,Int.toNat_natCast,e1]
      rw[if_pos (by simpa using h),if_pos ⟨by omega,by omega⟩,l0k _ _ (by omega) (by omega),Option.bind_some,w64_eq _ (by omega) (by omega)]
      unfold getF
      by_cases c:lowL l[i].1=lowL n
      · rw[if_pos (by simpa using c),if_pos (by omega),if_pos c];rfl
      · rw[if_neg (by simpa using c),if_neg c];rfl)
    (fun g hg=>by
      simp only[q0G,p0e]
      rw[if_neg (by simp)]
      rfl) (true,[]) (by simp)
  have e2:m74 b l n=some (l.foldl (getF n) (true,[])):=e
  refine ⟨(l.foldl (getF n) (true,[])).1,?_⟩
  rw[e2]
  have:=getF_fold n l (true,[])
  rw[List.nil_append]at this
  rw[← this]
def badB(c:UInt8):Bool:=decide (c<33)||(c==34||c==127)
theorem L0v:∀ c,T0e c=some (badB c):=byAll (by decide +kernel)
theorem L0G(b:Bool)(L:List UInt8)(hL:L.length<2 ^ 60):∃ r,T0k b L=some r∧decide (0≤r)=L.any badB:=by
  refine iter_post (fun s=>∃ i:Nat,s=(b,L,(L.length:Int),(i:Int))∧i≤L.length∧(L.any badB)=((L.drop i).any badB)) (fun s=>L.length+1 - s.2.2.2.toNat) _ ?_ _ ⟨0,rfl,by omega,by simp⟩
  rintro s ⟨i,rfl,hi,ha⟩
  by_cases h:i<L.length
  · have e1:(L.getD i default)=L[i]:=by simp[List.getD_eq_getElem?_getD,h]
    have ha':=ha
    rw[List.drop_eq_getElem_cons h,List.any_cons]at ha'
    simp only[l0q,Int.toNat_natCast,e1]
    rw[if_pos (by simpa using h),if_pos ⟨by omega,by omega⟩,L0v,Option.bind_some,w64_eq _ (by omega) (by omega)]
    cases c:badB L[i] with
    | true =>
      right
      rw[if_pos rfl]
      refine ⟨_,rfl,?_⟩
      rw[ha',c]
      simp
    | false =>
      left
      rw[if_neg (by simp)]
      refine ⟨_,rfl,⟨i+1,rfl,by omega,?_⟩,?_⟩
      · rw[ha',c,Bool.false_or]
      · show L.length+1 - ((i:Int)+1).toNat<L.length+1 - (i:Int).toNat
        omega
  · right
    obtain rfl:i=L.length:=by omega
    simp only[l0q,i0N]
    rw[if_neg (by simp)]
    refine ⟨-1,rfl,?_⟩
    rw[ha,List.drop_length]
    rfl
theorem L0w(b:Bool)(L:List UInt8)(hL:L.length<2 ^ 60):R0Z b L=some (L.any badB):=by
  obtain ⟨r,h1,h2⟩:=L0G b L hL
  simp only[R0Z,h1,Option.bind_some,h2]
def tagAt(s:Bs)(a:Nat):Bool:=decide (a+2≤s.length)&&(s.getD a 0==34&&(s.getD (s.length - 1) 0==34 && !((s.take (s.length - 1)).drop (a+1)).any badB))
def tagP(s:Bs):Bool:=decide (2≤s.length)&&(s.getD 0 0==87&&s.getD 1 0==47)
def tagB(s:Bs):Bool:=tagAt s (if tagP s=true then 2 else 0)
theorem w64_id{x:Int}(h0 : -9223372036854775808≤x)(h1:x<9223372036854775808):w64 x=x:=by rw[w64m];omega
theorem bnd_n(i n:Nat)(h:i≤n):bnd (i:Int) n=some i:=by
  unfold bnd
  rw[if_pos ⟨by omega,by omega⟩]
  simp
theorem badO:∀ c:UInt8,(if (c==33)=true then false else if decide (35≤c)=true then (if decide (c≤126)=true then false else decide (c<128)) else decide (c<128))=badB c:=byAll (by decide +kernel)
theorem S0R(s:Bs)(i:Nat)(h:i+1<s.length)(hl:s.length<2 ^ 60):g0i s (i:Int)=some (if badB (s.getD i 0)=true then .inr ([],false) else .inl (s,((i+1:Nat):Int))):=by
  simp only[g0i]
  rw[w64_id (by omega) (by omega),if_pos (by simp;omega),if_pos ⟨by omega,by omega⟩,Int.toNat_natCast,← badO]
  have e:w64 ((i:Int)+1)=((i+1:Nat):Int):=by rw[w64_id (by omega) (by omega)];omega
  unfold f0P
  rw[e]
  by_cases c1:(s.getD i 0==33)=true
  · simp only[c1,if_true,Bool.false_eq_true,if_false]
  · simp only[c1,if_false,Bool.false_eq_true]
    by_cases c2:decide ((35:UInt8)≤s.getD i 0)=true
    · simp only[c2,if_true]
      by_cases c3:decide (s.getD i 0≤(126:UInt8))=true
      · simp only[c3,if_true,Bool.false_eq_true,if_false]
      · simp only[c3,if_false,Bool.false_eq_true]
        split<;>rfl
    · simp only[c2,if_false,Bool.false_eq_true]
      split<;>rfl
theorem R0K(s:Bs)(a:Nat)(ha:a+1≤s.length)(hl:s.length<2 ^ 60):p0o s (a:Int)=some (if ((s.take (s.length - 1)).drop a).any badB=true then ([],false) else (s,true)):=by
  have main:∀ k i,k+i+1=s.length→p0o s (i:Int)=some (if ((s.take (s.length - 1)).drop i).any badB=true then ([],false) else (s,true)):=by
    intro k
    induction k with
    | zero =>
      intro i hi
      have e:g0i s (i:Int)=some (.inr (s,true)):=by
        simp only[g0i,o0M]
        rw[w64_id (by omega) (by omega),if_neg (by simp;omega)]
        rfl
      have e2:((s.take (s.length - 1)).drop i)=[]:=by rw[List.drop_eq_nil_iff,List.length_take];omega
      rw[e2]
      exact iter_r e
    | succ k ih =>
      intro i hi
      have h1:i<(s.take (s.length - 1)).length:=by rw[List.length_take];omega
      have e:=S0R s i (by omega) hl
      rw[List.drop_eq_getElem_cons h1,List.any_cons]
      have e3:(s.take (s.length - 1))[i]=s.getD i 0:=by rw[List.getElem_take];simp[List.getD_eq_getElem?_getD,show i<s.length by omega]
      rw[e3]
      cases c:badB (s.getD i 0) with
      | true=>rw[c,if_pos rfl]at e;rw[Bool.true_or,if_pos rfl];exact iter_r e
      | false =>
        rw[c,if_neg (by decide)]at e
        rw[Bool.false_or,← ih (i+1) (by omega)]
        exact iter_l e
  exact main (s.length - 1 - a) a (by omega)
end
section
set_option linter.all false
set_option maxRecDepth 100000
open Go Go.Ab Go.Proofs Go.Proofs.YtbkobjepahlegaaGreatDoor
def tagU(u:Bs):Bool:=decide (2≤u.length)&&(u.getD 0 0==34&&(u.getD (u.length - 1) 0==34 && !((u.take (u.length - 1)).drop 1).any badB))
theorem tagU_0(s:Bs):tagAt s 0=tagU s:=rfl
theorem tagU_2(a b:UInt8)(t:Bs):tagAt (a::b::t) 2=tagU t:=by
  cases t with
  | nil=>rfl
  | cons c t =>
    have e:(a::b::c::t).length - 1=((c::t).length - 1)+2:=by simp only[List.length_cons];omega
    have e1:decide (2+2≤(a::b::c::t).length)=decide (2≤(c::t).length):=by
      have:(2+2≤(a::b::c::t).length)=(2≤(c::t).length):=by simp only[List.length_cons];exact propext ⟨fun h=>by omega,fun h=>by omega⟩
      simp only[this]
    unfold tagAt tagU
    rw[e,e1]
    rfl
theorem L0u(s:Bs)(hl:s.length<2 ^ 60):R0Y s [87,47]=some (if tagP s=true then s.drop 2 else s):=by
  match s with
  | []=>rfl
  | [a]=>rfl
  | a::b::t =>
    have e:bnd ((([87,47]:Bs).length:Nat):Int) (a::b::t).length=some 2:=bnd_n 2 _ (by simp)
    have ht:tagP (a::b::t)=(a==87&&b==47):=by simp[tagP]
    have e2:((a::b::t).take 2==([87,47]:Bs))=(a==87&&b==47):=by
      show ([a,b]==([87,47]:Bs))=_
      simp[List.cons_beq_cons]
    unfold R0Y T0j T0o
    rw[if_pos (by simp;omega),e]
    simp only[Option.bind_some,e2,ht]
    by_cases c:(a==87&&b==47)=true
    · simp only[c,if_true,Option.bind_some]
    · simp only[c,if_false,Option.bind_some,Bool.false_eq_true]
theorem S0E(s:Bs)(hl:s.length<2 ^ 60):m72 s=some (tagB s):=by
  have key:∀ u:Bs,u.length<2 ^ 60 →
      (if (decide ((u.length:Int)<2))=true then f0S u true
      else if (0:Int)<(u.length:Int) then
          if ((u.getD 0 0)==(34:UInt8))=true then
            if 0≤(w64 ((u.length:Int) - 1))∧(w64 ((u.length:Int) - 1))<(u.length:Int) then
              f0S u (!((u.getD (w64 ((u.length:Int) - 1)).toNat 0)==(34:UInt8)))
            else none
          else f0S u true
        else none)=some (tagU u):=by
    intro u hu
    by_cases h2:u.length<2
    · rw[if_pos (by simp;omega)]
      unfold f0S tagU
      rw[if_pos rfl,show decide (2≤u.length)=false from by simp;omega]
      rfl
    · rw[if_neg (by simp;omega),if_pos (by omega),w64_id (by omega) (by omega)]
      have e0:decide (2≤u.length)=true:=by simp;omega
      have et:((u.length:Int) - 1).toNat=u.length - 1:=by omega
      have ei:((u.length:Int) - 1)=((u.length - 1:Nat):Int):=by omega
      unfold tagU
      rw[e0,Bool.true_and]
      cases c:(u.getD 0 0==(34:UInt8)) with
      | false=>rw[if_neg (by decide)];unfold f0S;rw[if_pos rfl];rfl
      | true =>
        rw[if_pos rfl,if_pos ⟨by omega,by omega⟩,et,Bool.true_and]
        unfold f0S
        cases d:(u.getD (u.length - 1) 0==(34:UInt8)) with
        | false=>rfl
        | true =>
          rw[if_neg (by decide),w64_id (by omega) (by omega),ei,bnd_n _ _ (by omega),Option.bind_some,show (1:Int)=((1:Nat):Int) from rfl,bnd_n 1 _ (by omega),Option.bind_some,
            L0w _ _ (by rw[List.length_drop,List.length_take];omega),Option.bind_some,Bool.true_and]
  unfold m72
  rw[L0u s hl,Option.bind_some,key _ (by split<;>(try rw[List.length_drop])<;>omega)]
  unfold tagB
  by_cases c:tagP s=true
  · rw[if_pos c,if_pos c]
    match s,c with
    | a::b::t,_=>rw[tagU_2];rfl
  · rw[if_neg c,if_neg c,tagU_0]
theorem k0T(s:Bs)(a:Nat)(ha:a≤2)(hl:s.length<2 ^ 60):h0t s (a:Int)=some (if tagAt s a=true then (s,true) else ([],false)):=by
  unfold h0t tagAt
  rw[w64_id (x:=(a:Int)+2) (by omega) (by omega)]
  by_cases h:s.length<a+2
  · rw[if_pos (by simp;omega),show decide (a+2≤s.length)=false from by simp;omega]
    rfl
  · rw[if_neg (by simp;omega),show decide (a+2≤s.length)=true from by simp;omega,if_pos ⟨by omega,by omega⟩,Int.toNat_natCast,Bool.true_and]
    cases c:(s.getD a 0==(34:UInt8)) with
    | false=>rfl
    | true =>
      rw[if_pos rfl,w64_id (x:=(s.length:Int) - 1) (by omega) (by omega),if_pos ⟨by omega,by omega⟩,show ((s.length:Int) - 1).toNat=s.length - 1 from by omega,Bool.true_and]
      unfold h0u
      cases d:(s.getD (s.length - 1) 0==(34:UInt8)) with
      | false=>rfl
      | true =>
        rw[if_neg (by decide),w64_id (by omega) (by omega),show ((a:Int)+1)=((a+1:Nat):Int) from by omega,R0K s (a+1) (by omega) hl,Bool.true_and]
        cases e:((s.take (s.length - 1)).drop (a+1)).any badB<;>rfl
end
section
set_option linter.all false
set_option maxRecDepth 100000
open Go Go.Ab Go.Proofs Go.Proofs.YtbkobjepahlegaaGreatDoor
def etB:Bs:=[101,116,97,103]
noncomputable def oneL(l:List (Bs×Bs))(n:Bs):Bs:=if (getL l n).length=1 then (getL l n).getD 0 default else []
theorem one_len(l:List (Bs×Bs))(n:Bs):(oneL l n).length≤fsz l:=by
  unfold oneL
  split
  · rename_i h;exact get_one h
  · exact Nat.zero_le _
theorem J0W(b:Bool)(l:List (Bs×Bs))(n:Bs)(hs:fsz l<2 ^ 30)(hn:n.length<2 ^ 30):m71 b l n=some (oneL l n):=by
  obtain ⟨z,e⟩:=l0i b l n hs hn
  unfold m71 oneL
  rw[e,Option.bind_some]
  by_cases h:(getL l n).length=1
  · rw[if_pos (by simp[h]),if_pos (by simp only;omega),if_pos h]
  · rw[if_neg (by simp;omega),if_neg h]
noncomputable def tagL(l:List (Bs×Bs)):Bs×Bool:=if tagB (oneL l etB)=true then (oneL l etB,true) else ([],false)
theorem x0o(b:Bool)(l:List (Bs×Bs))(hs:fsz l<2 ^ 30):m28 b l=some (tagL l):=by
  have h1:=one_len l etB
  unfold m28 tagL
  rw[show ([101,116,97,103]:Bs)=etB from rfl,J0W b l etB hs (by decide),Option.bind_some,S0E _ (by omega),Option.bind_some]
  by_cases c:tagB (oneL l etB)=true
  · rw[if_pos c,if_pos c]
  · rw[if_neg c,if_neg c]
theorem f0O(s:Bs)(a:Nat)(t:Bool)(ha:a≤2)(hl:s.length<2 ^ 60):f0N s (a:Int) t=some (if tagAt s (if t=true then 2 else a)=true then (s,true) else ([],false)):=by
  unfold f0N
  cases t with
  | true=>exact k0T s 2 (by omega) hl
  | false=>exact k0T s a ha hl
theorem J0N(b:Bool)(l:List (Bs×Bs))(hs:fsz l<2 ^ 30):m31 b l=some (tagL l):=by
  have h1:=one_len l etB
  obtain ⟨z,e⟩:=x0v b l etB hs (by decide)
  unfold m31
  rw[show ([101,116,97,103]:Bs)=etB from rfl,e,Option.bind_some]
  by_cases h:(getL l etB).length=1
  · have ho:(getL l etB).getD 0 default=oneL l etB:=by unfold oneL;rw[if_pos h]
    rw[if_pos (by simp[h]),if_pos (by simp only;omega)]
    simp only[ho]
    unfold tagL tagB tagP
    generalize oneL l etB=s at *
    by_cases c:2≤s.length
    · rw[if_pos (by simp;omega),if_pos (by omega),show decide (2≤s.length)=true from by simp;omega,Bool.true_and]
      cases d:(s.getD 0 0==(87:UInt8)) with
      | true=>rw[if_pos rfl,if_pos (by omega),show (0:Int)=((0:Nat):Int) from rfl,f0O s 0 _ (by omega) (by omega),Bool.true_and]
      | false=>rw[if_neg (by decide),show (0:Int)=((0:Nat):Int) from rfl,f0O s 0 _ (by omega) (by omega),Bool.false_and]
    · rw[if_neg (by simp;omega),show decide (2≤s.length)=false from by simp;omega,Bool.false_and,show (0:Int)=((0:Nat):Int) from rfl,f0O s 0 _ (by omega) (by omega)]
  · have ho:oneL l etB=[]:=by unfold oneL;rw[if_neg h]
    rw[if_neg (by simp;omega)]
    unfold tagL
    rw[ho]
    rfl
noncomputable def chgL(l:List (Bs×Bs)):Bs×Bool:=(oneL l lmB,(par (oneL l lmB)).2==0)
theorem x0q(b:Bool)(l:List (Bs×Bs))(hs:fsz l<2 ^ 30):m54 b l=some (chgL l):=by
  unfold m54 chgL
  rw[show ([108,97,115,116,45,109,111,100,105,102,105,101,100]:Bs)=lmB from rfl,J0W b l lmB hs (by decide),Option.bind_some,(par_ok _).1,Option.bind_some]
theorem par_nil:par []=(0,5):=by
  have h:=(par_ok []).1
  have e:p0r []=some (0,5):=rfl
  rw[e]at h
  exact (Option.some.inj h).symm
theorem J0Q(b:Bool)(l:List (Bs×Bs))(hs:fsz l<2 ^ 30):m53 b l=some (chgL l):=by
  obtain ⟨z,e⟩:=x0v b l lmB hs (by decide)
  unfold m53 chgL
  rw[show ([108,97,115,116,45,109,111,100,105,102,105,101,100]:Bs)=lmB from rfl,e,Option.bind_some]
  by_cases h:(getL l lmB).length=1
  · have ho:(getL l lmB).getD 0 default=oneL l lmB:=by unfold oneL;rw[if_pos h]
    rw[if_pos (by simp[h]),if_pos (by simp only;omega)]
    simp only[ho]
    rw[(par_ok _).2.1,Option.bind_some]
  · have ho:oneL l lmB=[]:=by unfold oneL;rw[if_neg h]
    rw[if_neg (by simp;omega),ho,par_nil]
    rfl
def cnt(v:R15):Nat:=match v with
  | .inl x=>x.2.length
  | .inr x=>x.2.length
theorem cond_ok(u:Bs)(asked came:Int)(cb:Bool)(cl:List (Bs×Bs))(st:Int)(r:Bs)(mi:Int)(b:Bool)(l:List (Bs×Bs))(c:Bool)(bo:List UInt8)(hs:fsz l<2 ^ 30):
    ∃ v:R15,m15 u asked came cb cl st r mi b l c bo=some v∧m16 u asked came cb cl st r mi b l c bo=some v∧decide (0<(cnt v:Int))=((tagL l).2||(chgL l).2):=by
  unfold m15 m16 h0o b0k o0H e0f d0W h0p b0l e0g
  rw[x0o b l hs,J0N b l hs,x0q b l hs,J0Q b l hs]
  simp only[Option.bind_some]
  cases (tagL l).2<;>cases (chgL l).2
  · exact ⟨_,rfl,rfl,rfl⟩
  · exact ⟨_,rfl,rfl,rfl⟩
  · exact ⟨_,rfl,rfl,rfl⟩
  · refine ⟨.inl (false,[([73,102,45,78,111,110,101,45,77,97,116,99,104],(tagL l).1),([73,102,45,77,111,100,105,102,105,101,100,45,83,105,110,99,101],(chgL l).1)]),?_,?_,rfl⟩
    · rw[if_pos rfl,if_pos rfl,if_pos (by simp)];rfl
    · rw[if_pos rfl,if_pos rfl,if_pos (by simp)];rfl
end
section
set_option linter.all false
set_option maxRecDepth 100000
open Go Go.Ab Go.Proofs Go.Proofs.YtbkobjepahlegaaGreatDoor
end
section
set_option linter.all false
set_option maxRecDepth 100000
open Go Go.Ab Go.Proofs Go.Proofs.YtbkobjepahlegaaGreatDoor
theorem cond1(u:Bs)(asked came:Int)(cb:Bool)(cl:List (Bs×Bs))(st:Int)(r:Bs)(mi:Int)(b:Bool)(l:List (Bs×Bs))(c:Bool)(bo:List UInt8)(hs:fsz l<2 ^ 30):∃ v:R15,m15 u asked came cb cl st r mi b l c bo=some v∧decide (0<(cnt v:Int))=((tagL l).2||(chgL l).2):=by
  unfold m15 h0o b0k d0W b0l
  rw[x0o b l hs,x0q b l hs]
  simp only[Option.bind_some]
  cases (tagL l).2<;>cases (chgL l).2
  · exact ⟨_,rfl,rfl⟩
  · exact ⟨_,rfl,rfl⟩
  · exact ⟨_,rfl,rfl⟩
  · refine ⟨.inl (false,[([73,102,45,78,111,110,101,45,77,97,116,99,104],(tagL l).1),([73,102,45,77,111,100,105,102,105,101,100,45,83,105,110,99,101],(chgL l).1)]),?_,rfl⟩
    rw[if_pos rfl,if_pos rfl,if_pos (by simp)];rfl
def RU(R:Ctl)(life age:Int)(x0 x1 x2 x3 x4 x5:Bool)(x6 x7 x8 x9:Int):Prop:=x1=false∧R.2.1=false∧(x6<0∨age≤x6)∧(x8<0∨age+x8≤life)∧(age<life∨0≤x9∧age≤life+x9∧R.2.2.2.2.1=false∧R.2.2.2.2.2.2.2.1<0)
instance {R:Ctl} {life age:Int} {x0 x1 x2 x3 x4 x5:Bool} {x6 x7 x8 x9:Int}:Decidable (RU R life age x0 x1 x2 x3 x4 x5 x6 x7 x8 x9):=by unfold RU;infer_instance
end
section
set_option linter.all false
set_option maxRecDepth 100000
open Go Go.Ab Go.Proofs Go.Proofs.YtbkobjepahlegaaGreatDoor
end
