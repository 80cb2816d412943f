/- Plain laws of the functions. -/
import Derived.Test.YtbkobjepahlegaaGreatDoorLawStores1
import Derived.Test.YtbkobjepahlegaaGreatDoorFStores7
set_option linter.all false
section
set_option linter.all false
set_option maxRecDepth 100000
open Go Go.Ab Go.Proofs Go.Proofs.YtbkobjepahlegaaGreatDoor
def inN(L:List Bs)(x:Bs):Bool:=L.any fun n=>lowL x==lowL n
theorem L0x(b:Bool)(L:List Bs)(x y:Bs)(hL:L.length<2 ^ 60)(hN:∀ n ∈ L,n.length<2 ^ 60)(hx:x.length<2 ^ 60):∃ r,S0a b L x y=some (r,x,y)∧decide (0≤r)=inN L x:=by
  have main:∃ z:Int×Bs×Bs,S0a b L x y=some z∧(z.2=(x,y)∧decide (0≤z.1)=inN L x):=by
    refine iter_post (fun s=>∃ i:Nat,s=(b,L,(L.length:Int),(i:Int),x,y)∧i≤L.length∧inN L x=((L.drop i).any fun n=>lowL x==lowL n)) (fun s=>L.length+1 - s.2.2.2.1.toNat) _ ?_ _ ⟨0,rfl,by omega,by simp[inN]⟩
    rintro s ⟨i,rfl,hi,ha⟩
    by_cases h:i<L.length
    · have e1:(L.getD i default)=L[i]:=by simp[List.getD_eq_getElem?_getD,h]
      have ha':=ha
      rw[List.drop_eq_getElem_cons h,List.any_cons]at ha'
      simp only[l0m,Int.toNat_natCast,e1]
      rw[if_pos (by simpa using h),if_pos ⟨by omega,by omega⟩,m80,x0u x L[i] hx (hN _ (List.getElem_mem h)),Option.bind_some,Option.bind_some,w64_eq _ (by omega) (by omega)]
      cases c:(lowL x==lowL L[i]) with
      | true =>
        right
        rw[if_pos rfl]
        refine ⟨_,rfl,rfl,?_⟩
        rw[ha',c]
        simp
      | false =>
        left
        rw[if_neg (by simp)]
        refine ⟨_,rfl,⟨i+1,rfl,by omega,?_⟩,?_⟩
        · rw[ha',c,Bool.false_or]
        · show L.length+1 - ((i:Int)+1).toNat<L.length+1 - (i:Int).toNat
          omega
    · right
      obtain rfl:i=L.length:=by omega
      simp only[l0m,i0F]
      rw[if_neg (by simp)]
      refine ⟨_,rfl,rfl,?_⟩
      rw[ha,List.drop_length]
      rfl
  obtain ⟨⟨r,q⟩,h1,h2,h3⟩:=main
  obtain rfl:q=(x,y):=h2
  exact ⟨r,h1,h3⟩
theorem J0X(x y:Bs)(b:Bool)(L:List Bs)(hL:L.length<2 ^ 60)(hN:∀ n ∈ L,n.length<2 ^ 60)(hx:x.length<2 ^ 60):m78 x y b L=some (inN L x,b,L):=by
  obtain ⟨r,h1,h2⟩:=L0x b L x y hL hN hx
  simp only[m78,m79,h1,Option.bind_some,h2]
section
variable {l:List (Bs×Bs)} {L:List Bs} (hl:l.length<2 ^ 60) (hL:L.length<2 ^ 60) (hN:∀ n ∈ L,n.length<2 ^ 60) (hx:∀ f ∈ l,f.1.length<2 ^ 60)
include hl hL hN hx
theorem B0m(b:Bool):∃ r,x0e l.length l b L=some (r,l,b,L)∧((r = -1∧∀ f ∈ l,inN L f.1=false)∨∃ i:Nat,r=i∧i<l.length∧inN L (l.getD i default).1=true∧∀ f ∈ l.take i,inN L f.1=false):=by
  have main:∃ z:Int×List (Bs×Bs)×Bool×List Bs,x0e l.length l b L=some z∧(z.2=(l,b,L)∧((z.1 = -1∧∀ f ∈ l,inN L f.1=false)∨∃ i:Nat,z.1=i∧i<l.length∧inN L (l.getD i default).1=true∧∀ f ∈ l.take i,inN L f.1=false)):=by
    refine iter_post (fun s=>∃ i:Nat,s=(l.length,(l.length:Int),(i:Int),l,b,L)∧i≤l.length∧∀ f ∈ l.take i,inN L f.1=false) (fun s=>l.length+1 - s.2.2.1.toNat) _ ?_ _ ⟨0,rfl,by omega,by simp⟩
    rintro s ⟨i,rfl,hi,ha⟩
    by_cases h:i<l.length
    · have e1:(l.getD i default)=l[i]:=by simp[List.getD_eq_getElem?_getD,h]
      simp only[g0a,Int.toNat_natCast]
      rw[if_pos (by simpa using h),if_pos ⟨by omega,by omega⟩,if_pos h,J0X _ _ b L hL hN (by rw[e1];exact hx _ (List.getElem_mem h)),Option.bind_some,w64_eq _ (by omega) (by omega)]
      cases c:inN L (l.getD i default).1 with
      | true =>
        right
        rw[if_pos rfl]
        exact ⟨_,rfl,rfl,Or.inr ⟨i,rfl,h,c,ha⟩⟩
      | false =>
        left
        rw[if_neg (by simp)]
        refine ⟨_,rfl,⟨i+1,rfl,by omega,?_⟩,?_⟩
        · intro f hf
          rw[List.take_succ_eq_append_getElem h,List.mem_append,List.mem_singleton]at hf
          rcases hf with hf | rfl
          · exact ha f hf
          · rw[← e1];exact c
        · show l.length+1 - ((i:Int)+1).toNat<l.length+1 - (i:Int).toNat
          omega
    · right
      obtain rfl:i=l.length:=by omega
      simp only[g0a,e0b]
      rw[if_neg (by simp)]
      refine ⟨_,rfl,rfl,Or.inl ⟨rfl,?_⟩⟩
      rwa [List.take_length]at ha
  obtain ⟨⟨r,q⟩,h1,h2,h3⟩:=main
  obtain rfl:q=(l,b,L):=h2
  exact ⟨r,h1,h3⟩
theorem L0Q(b:Bool):∃ k h,S0F l.length l b L=some (k,h,b,L)∧k≤h.length∧h.take k=l.filter fun f => !inN L f.1:=by
  obtain ⟨r,e,hr⟩:=B0m hl hL hN hx b
  unfold S0F
  rw[e,Option.bind_some]
  rcases hr with ⟨rfl,hr⟩ | ⟨i,rfl,hi,hp,ht⟩
  · refine ⟨l.length,l,if_pos rfl,Nat.le_refl _,?_⟩
    rw[List.take_length,List.filter_eq_self.2]
    intro f hf;rw[hr f hf];rfl
  · rw[if_neg (by simp),w64_eq _ (by omega) (by omega)]
    have main:∃ z:Nat×List (Bs×Bs)×Bool×List Bs,m0N l.length (i:Int) ((i:Int)+1) l b L=some z∧(z.2.2=(b,L)∧z.1≤z.2.1.length∧z.2.1.take z.1=l.filter fun f => !inN L f.1):=by
      refine iter_post (fun s=>∃ (i j:Nat) (h:List (Bs×Bs)),s=(l.length,(i:Int),(j:Int),h,b,L)∧i≤j∧j≤l.length∧h.length=l.length∧h.take i=(l.take j).filter (fun f => !inN L f.1)∧h.drop j=l.drop j) (fun s=>l.length+1 - s.2.2.1.toNat) _ ?_ _ ⟨i,i+1,l,rfl,by omega,by omega,rfl,?_,rfl⟩
      · rintro s ⟨i,j,h,rfl,hij,hj,hh,h1,h2⟩
        by_cases c:j<l.length
        · have e1:(h.getD j default)=l[j]:=by
            have:h[j]? = l[j]? := by
              have:=congrArg (fun x:List (Bs×Bs)=>x[0]?) h2
              simpa using this
            rw[List.getD_eq_getElem?_getD,this,List.getElem?_eq_getElem c];rfl
          have hd:h.drop (j+1)=l.drop (j+1):=by
            have:=congrArg (List.drop 1) h2
            rwa [List.drop_drop,List.drop_drop]at this
          simp only[g0o,Int.toNat_natCast,e1]
          rw[if_pos (by simpa using c),if_pos ⟨by omega,by omega⟩,if_pos (by omega),J0X _ _ b L hL hN (hx _ (List.getElem_mem c)),Option.bind_some]
          left
          cases q:inN L l[j].1 with
          | true =>
            rw[if_pos rfl]
            refine ⟨_,rfl,⟨i,j+1,h,?_,by omega,by omega,hh,?_,hd⟩,?_⟩
            · rw[w64_eq _ (by omega) (by omega)];rfl
            · rw[h1,List.take_succ_eq_append_getElem c,List.filter_append];simp[q]
            · show l.length+1 - (w64 ((j:Int)+1)).toNat<l.length+1 - (j:Int).toNat
              rw[w64_eq _ (by omega) (by omega)];omega
          | false =>
            rw[if_neg (by simp),if_pos ⟨by omega,by omega⟩,if_pos (by omega)]
            refine ⟨_,rfl,⟨i+1,j+1,h.set i l[j],?_,by omega,by omega,by rw[List.length_set,hh],?_,?_⟩,?_⟩
            · rw[w64_eq _ (by omega) (by omega),w64_eq _ (by omega) (by omega)];rfl
            · rw[List.take_succ_eq_append_getElem (by rw[List.length_set];omega),List.take_set_of_le (by omega),List.getElem_set_self,h1,List.take_succ_eq_append_getElem c,List.filter_append];simp[q]
            · rw[List.drop_set_of_lt (by omega),hd]
            · show l.length+1 - (w64 ((j:Int)+1)).toNat<l.length+1 - (j:Int).toNat
              rw[w64_eq _ (by omega) (by omega)];omega
        · right
          obtain rfl:j=l.length:=by omega
          simp only[g0o,i0Z]
          rw[if_neg (by simp),bnd_n i l.length (by omega),Option.bind_some,if_pos (by omega)]
          refine ⟨_,rfl,rfl,?_,?_⟩
          · simp only[List.length_append,List.length_take];omega
          · rw[List.take_length]at h1
            show List.take i (List.take i h++_)=_
            rw[List.take_append_of_le_length (by rw[List.length_take];omega),List.take_of_length_le (by rw[List.length_take];omega),h1]
      · have e1:(l.getD i default)=l[i]:=by simp[List.getD_eq_getElem?_getD,hi]
        rw[e1]at hp
        rw[List.take_succ_eq_append_getElem hi,List.filter_append,List.filter_eq_self.2]
        · simp[hp]
        · intro f hf;rw[ht f hf];rfl
    obtain ⟨⟨k,h,q⟩,g1,g2,g3⟩:=main
    obtain rfl:q=(b,L):=g2
    exact ⟨k,h,g1,g3⟩
end
theorem fst_len{l:List (Bs×Bs)}(hs:fsz l<2 ^ 30):∀ f ∈ l,f.1.length<2 ^ 60:=fun f hf=>by have:=fsz_mem hf;omega
theorem S0s(b:Bool)(l:List (Bs×Bs))(z:Bool)(L:List Bs)(hb:b=true→l=[])(hs:fsz l<2 ^ 30)(hL:L.length<2 ^ 60)(hN:∀ n ∈ L,n.length<2 ^ 60):m37 b l z L=some (b,l.filter fun f => !inN L f.1):=by
  have hl:=fsz_len l
  unfold m37 m77
  cases b with
  | true =>
    obtain rfl:=hb rfl
    rw[if_pos rfl,Option.bind_some]
    simp only[m76,show T0f z L=some (-1,z,L) from iter_r rfl,Option.bind_some]
    rfl
  | false =>
    rw[if_neg (by simp)]
    by_cases h:l.isEmpty=true
    · obtain rfl:l=[]:=by cases l with | nil=>rfl | cons=>cases h
      rw[if_pos (show (([]:List (Bs×Bs)).isEmpty)=true from rfl),Option.bind_some]
      simp only[T0p,show B0l z L=some (-1,z,L) from iter_r rfl,Option.bind_some]
      rfl
    · rw[if_neg h,if_pos (by omega),Option.bind_some]
      obtain ⟨k,g,e,h1,h2⟩:=L0Q (l:=l) (L:=L) (by omega) hL hN (fst_len hs) z
      simp only[e,Option.bind_some]
      rw[if_pos h1,h2]
theorem J0R(b:Bool)(l:List (Bs×Bs))(z:Bool)(L:List Bs)(hb:b=true→l=[])(hs:fsz l<2 ^ 30)(hL:L.length<2 ^ 60)(hN:∀ n ∈ L,n.length<2 ^ 60):m58 b l z L=some (l.any fun f=>inN L f.1):=by
  unfold m58
  rw[S0s b l z L hb hs hL hN,Option.bind_some]
  refine congrArg some (Bool.eq_iff_iff.2 ?_)
  rw[decide_eq_true_eq,Int.ofNat_lt,List.length_filter_lt_length_iff_exists,List.any_eq_true]
  simp
end
section
set_option linter.all false
set_option maxRecDepth 100000
open Go Go.Ab Go.Proofs Go.Proofs.YtbkobjepahlegaaGreatDoor
def plainN:List Bs:=[[105,102,45,109,97,116,99,104],[105,102,45,110,111,110,101,45,109,97,116,99,104],[105,102,45,109,111,100,105,102,105,101,100,45,115,105,110,99,101],[105,102,45,117,110,109,111,100,105,102,105,101,100,45,115,105,110,99,101],[105,102,45,114,97,110,103,101],[114,97,110,103,101],[99,111,110,116,101,110,116,45,108,101,110,103,116,104],[116,114,97,110,115,102,101,114,45,101,110,99,111,100,105,110,103]]
def plainL(l:List (Bs×Bs)):Bool := !(l.any fun f=>inN plainN f.1)
theorem plainN_s:∀ n ∈ plainN,n.length<2 ^ 30:=by decide
theorem S0q(b:Bool)(l:List (Bs×Bs))(hb:b=true→l=[])(hs:fsz l<2 ^ 30):m30 b l=some (plainL l):=by
  show (m58 b l false plainN).bind _=_
  rw[J0R b l false plainN hb hs (by decide) (fun n hn=>Nat.lt_trans (plainN_s n hn) (by decide))];rfl
def hasL(l:List (Bs×Bs))(n:Bs):Bool:=l.any fun f=>lowL f.1==lowL n
theorem getL_any(l:List (Bs×Bs))(n:Bs):decide (0<((getL l n).length:Int))=hasL l n:=by
  unfold getL hasL
  induction l with
  | nil=>rfl
  | cons f l ih =>
    rw[List.filterMap_cons,List.any_cons]
    by_cases h:lowL f.1=lowL n
    · rw[if_pos h,beq_iff_eq.2 h,Bool.true_or];simp
    · rw[if_neg h,beq_eq_false_iff_ne.2 h,Bool.false_or];exact ih
theorem x0p(b:Bool)(l:List (Bs×Bs))(n:Bs)(hs:fsz l<2 ^ 30)(hn:n.length<2 ^ 30):m47 b l n=some (hasL l n):=by
  obtain ⟨z,e⟩:=x0v b l n hs hn
  simp only[m47,e,Option.bind_some,getL_any]
theorem plain_any(l:List (Bs×Bs)):plainL l = !(plainN.any fun n=>hasL l n):=by
  unfold plainL inN hasL
  refine congrArg (!·) (Bool.eq_iff_iff.2 ?_)
  simp only[List.any_eq_true]
  exact ⟨fun ⟨f,hf,n,hn,h⟩=>⟨n,hn,f,hf,h⟩,fun ⟨n,hn,f,hf,h⟩=>⟨f,hf,n,hn,h⟩⟩
theorem S0r(b:Bool)(l:List (Bs×Bs))(hs:fsz l<2 ^ 30):m32 b l=some (plainL l):=by
  have e:=iter_first (step:=fun x:(Bool×List (Bs×Bs)×Int)=>m0T x.1 x.2.1 x.2.2) plainN (fun i=>(b,l,(i:Int))) (fun n=>if hasL l n=true then some false else none) true ?_ ?_ ?_
  · show iter _ (b,l,((0:Nat):Int))=_
    rw[e,plain_any]
    refine congrArg some ?_
    generalize plainN=N
    induction N with
    | nil=>rfl
    | cons n N ih =>
      rw[List.findSome?_cons,List.any_cons]
      cases h:hasL l n
      · rw[if_neg (by simp),Bool.false_or];exact ih
      · rw[if_pos rfl,Bool.true_or];rfl
  · intro i h hf
    have e1:plainN.getD i default=plainN[i]:=by simp[List.getD_eq_getElem?_getD,h]
    have hi:i<8:=h
    simp only[m0T,Int.toNat_natCast]
    rw[if_pos (decide_eq_true (by omega)),if_pos ⟨by omega,by omega⟩,show ([[105,102,45,109,97,116,99,104],[105,102,45,110,111,110,101,45,109,97,116,99,104],[105,102,45,109,111,100,105,102,105,101,100,45,115,105,110,99,101],[105,102,45,117,110,109,111,100,105,102,105,101,100,45,115,105,110,99,101],[105,102,45,114,97,110,103,101],[114,97,110,103,101],[99,111,110,116,101,110,116,45,108,101,110,103,116,104],[116,114,97,110,115,102,101,114,45,101,110,99,111,100,105,110,103]]:List Bs)=plainN from rfl,e1,
      x0p b l _ hs (plainN_s _ (List.getElem_mem h)),Option.bind_some,w64_eq _ (by omega) (by omega)]
    rw[if_neg (by intro q;rw[if_pos q]at hf;cases hf)];rfl
  · intro i h r hf
    have e1:plainN.getD i default=plainN[i]:=by simp[List.getD_eq_getElem?_getD,h]
    have hi:i<8:=h
    simp only[m0T,Int.toNat_natCast]
    rw[if_pos (decide_eq_true (by omega)),if_pos ⟨by omega,by omega⟩,show ([[105,102,45,109,97,116,99,104],[105,102,45,110,111,110,101,45,109,97,116,99,104],[105,102,45,109,111,100,105,102,105,101,100,45,115,105,110,99,101],[105,102,45,117,110,109,111,100,105,102,105,101,100,45,115,105,110,99,101],[105,102,45,114,97,110,103,101],[114,97,110,103,101],[99,111,110,116,101,110,116,45,108,101,110,103,116,104],[116,114,97,110,115,102,101,114,45,101,110,99,111,100,105,110,103]]:List Bs)=plainN from rfl,e1,
      x0p b l _ hs (plainN_s _ (List.getElem_mem h)),Option.bind_some]
    split
    · rename_i q;rw[if_pos q]at hf;cases hf;rfl
    · rename_i q;rw[if_neg q]at hf;cases hf
  · simp only[m0T];rfl
def auB:Bs:=[97,117,116,104,111,114,105,122,97,116,105,111,110]
theorem inN_one(n x:Bs):inN [n] x=(lowL x==lowL n):=by simp[inN]
theorem U0F(b:Bool)(l:List (Bs×Bs))(hb:b=true→l=[])(hs:fsz l<2 ^ 30):m58 b l false [[97,117,116,104,111,114,105,122,97,116,105,111,110]]=some (hasL l auB):=by
  rw[J0R b l false _ hb hs (by decide) (by decide)]
  unfold hasL;simp only[inN_one];rfl
end
section
set_option linter.all false
set_option maxRecDepth 100000
open Go Go.Ab Go.Proofs Go.Proofs.YtbkobjepahlegaaGreatDoor
def flatW:List Bs→Bs
  | []=>[32]
  | x::t=>32::(x++flatW t)
theorem flatW_c(ws:List Bs):∃ t,flatW ws=32::t:=by cases ws<;>exact ⟨_,rfl⟩
theorem pre_word:∀ (x w t:Bs),(∀ c ∈ x,c≠32)→(∀ c ∈ w,c≠32)→((w++[32]).isPrefixOf (x++32::t)=true↔w=x)
  | [],[],t,_,_=>by simp[List.isPrefixOf]
  | [],b::w,t,_,hw=>by
    have:=hw b (List.mem_cons_self ..)
    simp[List.isPrefixOf,this]
  | a::x,[],t,hx,_=>by
    have h1:=hx a (List.mem_cons_self ..)
    simp[List.isPrefixOf,Ne.symm h1]
  | a::x,b::w,t,hx,hw=>by
    have ih:=pre_word x w t (fun c hc=>hx c (List.mem_cons_of_mem _ hc)) (fun c hc=>hw c (List.mem_cons_of_mem _ hc))
    simp only[List.cons_append,List.isPrefixOf,Bool.and_eq_true,beq_iff_eq,List.cons.injEq,ih]
theorem occ_word:∀ (ws:List Bs) (w:Bs),w≠[]→(∀ c ∈ w,c≠32)→(∀ x ∈ ws,∀ c ∈ x,c≠32)→((∃ i,Lib.occAt (flatW ws) (32::(w++[32])) i=true)↔w ∈ ws)
  | [],w,h0,hw,_=>by
    refine ⟨fun ⟨i,h⟩=>?_,fun h=>by cases h⟩
    unfold Lib.occAt at h
    cases w with
    | nil=>exact absurd rfl h0
    | cons b w =>
      match i with
      | 0=>simp[flatW,List.isPrefixOf]at h
      | i+1=>simp[flatW,List.isPrefixOf]at h
  | x::t,w,h0,hw,hx=>by
    have ih:=occ_word t w h0 hw (fun y hy=>hx y (List.mem_cons_of_mem _ hy))
    obtain ⟨r,hr⟩:=flatW_c t
    have hx0:=hx x (List.mem_cons_self ..)
    rw[List.mem_cons,← ih]
    refine ⟨fun ⟨i,h⟩=>?_,fun h=>?_⟩
    · unfold Lib.occAt at h
      match i with
      | 0 =>
        left
        rw[List.drop_zero]at h
        simp only[flatW,List.isPrefixOf,beq_self_eq_true,Bool.true_and]at h
        rw[hr]at h
        exact (pre_word x w r hx0 hw).1 h
      | i+1 =>
        simp only[flatW,List.drop_succ_cons]at h
        by_cases c:i<x.length
        · rw[List.drop_append_of_le_length (by omega),List.drop_eq_getElem_cons c]at h
          simp only[List.cons_append,List.isPrefixOf,Bool.and_eq_true,beq_iff_eq]at h
          exact absurd h.1.symm (hx0 _ (List.getElem_mem c))
        · right
          refine ⟨i - x.length,?_⟩
          rw[List.drop_append]at h
          rw[List.drop_of_length_le (by omega),List.nil_append]at h
          exact h
    · rcases h with rfl | ⟨i,h⟩
      · refine ⟨0,?_⟩
        unfold Lib.occAt
        rw[List.drop_zero]
        simp only[flatW,List.isPrefixOf,beq_self_eq_true,Bool.true_and]
        rw[hr]
        exact (pre_word w w r hx0 hw).2 rfl
      · refine ⟨i+(x.length+1),?_⟩
        unfold Lib.occAt at h ⊢
        rw[show flatW (x::t)=(32::x)++flatW t from rfl,List.drop_append,List.drop_of_length_le (by simp only[List.length_cons];omega),List.nil_append]
        rw[show i+(x.length+1) - (32::x).length=i from by simp only[List.length_cons];omega]
        exact h
theorem index_nn(s sub:Bs)(hs:sub≠[]):0≤Lib.index s sub↔∃ i,Lib.occAt s sub i=true:=by
  constructor
  · intro h
    apply Classical.byContradiction
    intro n
    have:=Lib.index_none (s:=s) (sub:=sub) (fun j _=>Bool.eq_false_iff.2 fun q=>n ⟨j,q⟩)
    omega
  · intro ⟨i,h⟩
    have hi:i≤s.length:=by
      apply Classical.byContradiction
      intro c
      unfold Lib.occAt at h
      rw[List.drop_of_length_le (by omega)]at h
      cases sub with
      | nil=>exact hs rfl
      | cons=>simp[List.isPrefixOf]at h
    have key:∀ n i,i≤n→i≤s.length→Lib.occAt s sub i=true→0≤Lib.index s sub:=by
      intro n
      induction n with
      | zero =>
        intro i h1 h2 h3
        have:=Lib.index_first h2 h3 (fun j hj=>by omega)
        omega
      | succ n ih =>
        intro i h1 h2 h3
        by_cases q:∃ j,j<i∧Lib.occAt s sub j=true
        · obtain ⟨j,q1,q2⟩:=q;exact ih j (by omega) (by omega) q2
        · have:=Lib.index_first h2 h3 (fun j hj=>Bool.eq_false_iff.2 fun z=>q ⟨j,hj,z⟩)
          omega
    exact key i i (Nat.le_refl _) hi h
def faN:List Bs:=[[97,103,101],[97,117,116,104,111,114,105,122,97,116,105,111,110],[99,97,99,104,101,45,99,111,110,116,114,111,108],[99,111,110,116,101,110,116,45,101,110,99,111,100,105,110,103],[99,111,110,116,101,110,116,45,108,111,99,97,116,105,111,110],[99,111,110,116,101,110,116,45,114,97,110,103,101],[99,111,110,116,101,110,116,45,116,121,112,101],[100,97,116,101],[101,116,97,103],[101,120,112,105,114,101,115],[104,111,115,116],[105,102,45,109,97,116,99,104],[105,102,45,109,111,100,105,102,105,101,100,45,115,105,110,99,101],[105,102,45,110,111,110,101,45,109,97,116,99,104],[105,102,45,114,97,110,103,101],[105,102,45,117,110,109,111,100,105,102,105,101,100,45,115,105,110,99,101],[108,97,115,116,45,109,111,100,105,102,105,101,100],[108,111,99,97,116,105,111,110],[112,114,97,103,109,97],[114,97,110,103,101],[118,97,114,121],[118,105,97]]
def forAllL(s:Bs):Bool:=faN.contains (lowL s)
theorem faN_ok:∀ x ∈ faN,x≠[]∧x.all tokB=true∧∀ c ∈ x,c≠32:=by decide +kernel
theorem tok_low:∀ c,tokB (lowB c)=tokB c:=byAll (by decide +kernel)
theorem tok_32:∀ c,tokB c=true→lowB c≠32:=fun c=>by
  have:=(byAll (P:=fun c=>(!(tokB c)||(lowB c != 32))=true) (by decide +kernel)) c
  intro h;rw[h]at this;simpa using this
theorem forAll_tok{s:Bs}(h:forAllL s=true):tokL s=true:=by
  have hm:lowL s ∈ faN:=by simpa [forAllL] using h
  obtain ⟨h1,h2,_⟩:=faN_ok _ hm
  unfold tokL
  have:(lowL s).all tokB=s.all tokB:=by unfold lowL;rw[List.all_map];congr 1;funext c;exact tok_low c
  rw[← this,h2,Bool.and_true]
  cases s with
  | nil=>exact absurd rfl h1
  | cons=>rfl
theorem S0p(s:Bs)(hs:s.length<2 ^ 60):m27 s=some (forAllL s):=by
  have hl:(lowL s).length=s.length:=List.length_map _
  unfold m27
  rw[p0v s hs,f0Y s hs]
  simp only[Option.bind_some]
  cases ht:tokL s with
  | false =>
    rw[if_neg (by simp)]
    cases hf:forAllL s with
    | false=>rfl
    | true=>rw[forAll_tok hf]at ht;cases ht
  | true =>
    rw[if_pos rfl,if_pos (by omega),if_pos (by simp only[List.length_cons];omega)]
    have ht':s≠[]∧s.all tokB=true:=by
      unfold tokL at ht
      cases s with
      | nil=>cases ht
      | cons=>exact ⟨by simp,by simpa using ht⟩
    have hw:∀ c ∈ lowL s,c≠32:=by
      intro c hc
      obtain ⟨d,hd,rfl⟩:=List.mem_map.1 hc
      exact tok_32 d (List.all_eq_true.1 ht'.2 d hd)
    have h0:lowL s≠[]:=by intro e;exact ht'.1 (List.map_eq_nil_iff.1 e)
    have k:=(index_nn (flatW faN) (32::(lowL s++[32])) (by simp)).trans (occ_word faN (lowL s) h0 hw (fun x hx=>(faN_ok x hx).2.2))
    show ((m70 (flatW faN) (32::(lowL s++[32]))).bind fun yr9=>some yr9)=_
    unfold m70 L0t mIx
    rw[if_pos (by decide +kernel)]
    simp only[Option.bind_some]
    refine congrArg some (Bool.eq_iff_iff.2 ?_)
    rw[decide_eq_true_eq,k]
    simp[forAllL]
theorem B0r(b:Bool)(L:List Bs)(hL:L.length<2 ^ 60)(hN:∀ n ∈ L,n.length<2 ^ 60):∃ r,B0q b L=some r∧decide (0≤r)=L.any forAllL:=by
  refine iter_post (fun s=>∃ i:Nat,s=(b,L,(L.length:Int),(i:Int))∧i≤L.length∧(L.any forAllL)=((L.drop i).any forAllL)) (fun s=>L.length+1 - s.2.2.2.toNat) _ ?_ _ ⟨0,rfl,by omega,by simp⟩
  rintro s ⟨i,rfl,hi,ha⟩
  by_cases h:i<L.length
  · have e1:(L.getD i default)=L[i]:=by simp[List.getD_eq_getElem?_getD,h]
    have ha':=ha
    rw[List.drop_eq_getElem_cons h,List.any_cons]at ha'
    simp only[g0d,Int.toNat_natCast,e1]
    rw[if_pos (by simpa using h),if_pos ⟨by omega,by omega⟩,S0p _ (hN _ (List.getElem_mem h)),Option.bind_some,w64_eq _ (by omega) (by omega)]
    cases c:forAllL L[i] with
    | true =>
      right
      rw[if_pos rfl]
      refine ⟨_,rfl,?_⟩
      rw[ha',c]
      simp
    | false =>
      left
      rw[if_neg (by simp)]
      refine ⟨_,rfl,⟨i+1,rfl,by omega,?_⟩,?_⟩
      · rw[ha',c,Bool.false_or]
      · show L.length+1 - ((i:Int)+1).toNat<L.length+1 - (i:Int).toNat
        omega
  · right
    obtain rfl:i=L.length:=by omega
    simp only[g0d,e0e]
    rw[if_neg (by simp)]
    refine ⟨-1,rfl,?_⟩
    rw[ha,List.drop_length]
    rfl
def varB:Bs:=[118,97,114,121]
def conB:Bs:=[99,111,110,110,101,99,116,105,111,110]
def starL(l:List (Bs×Bs)):Bool:=(elemsL l varB).any fun x=>lowL x==[42]
theorem getQ_set(k k':Bs)(x:Int)(l:List (Bs×Int)):getQ k (setQ k' x l)=if k'==k then x else getQ k l:=by
  induction l with
  | nil=>unfold setQ getQ;cases h:k'==k<;>simp[List.find?,h]
  | cons p l ih =>
    unfold setQ
    cases h:k'==p.1 with
    | true =>
      have:k'=p.1:=by simpa using h
      subst this
      cases h2:p.1==k<;>simp[getQ,List.find?,h2]
    | false =>
      simp only[Bool.false_eq_true,if_false]
      cases h2:p.1==k with
      | true =>
        have:p.1=k:=by simpa using h2
        have h3:(k'==k)=false:=by rw[← this];exact h
        simp[getQ,List.find?,h2,h3]
      | false =>
        have e1:getQ k (p::setQ k' x l)=getQ k (setQ k' x l):=by simp[getQ,List.find?,h2]
        have e2:getQ k (p::l)=getQ k l:=by simp[getQ,List.find?,h2]
        rw[e1,e2];exact ih
theorem S0n(b:Bool)(l:List (Bs×Bs))(hs:fsz l<2 ^ 30):∃ v,m24 b l=some v∧v.2.2=starL l:=by
  obtain ⟨z,e⟩:=p0u b l varB hs (by decide)
  have hl:=elems_len l varB
  have hx:∀ x ∈ elemsL l varB,x.length≤fsz l:=fun x hx=>elem_len hx
  unfold m24
  rw[show ([118,97,114,121]:Bs)=varB from rfl,e,Option.bind_some]
  unfold starL
  generalize elemsL l varB=L at *
  refine iter_post (fun s=>∃ (i:Nat) (b0:Bool) (N:List Bs) (q:List (Bs×Int)),s=(b0,N,z,L,(L.length:Int),(i:Int),q)∧i≤L.length∧N.length≤i∧decide (0<getQ [42] q)=((L.take i).any fun x=>lowL x==[42])) (fun s=>L.length+1 - s.2.2.2.2.2.1.toNat) _ ?_ _ ⟨0,true,[],[],rfl,by omega,by simp,rfl⟩
  rintro s ⟨i,b0,N,q,rfl,hi,hN,hq⟩
  by_cases h:i<L.length
  · left
    have e1:(L.getD i default)=L[i]:=by simp[List.getD_eq_getElem?_getD,h]
    have hq':decide (0<getQ [42] (setQ (lowL L[i]) 1 q))=((L.take (i+1)).any fun x=>lowL x==[42]):=by
      rw[getQ_set,List.take_succ_eq_append_getElem h,List.any_append,← hq]
      cases hh:(lowL L[i]==[42])
      · simp only[Bool.false_eq_true,if_false,List.any_cons,List.any_nil,hh,Bool.or_false]
      · simp only[if_true,List.any_cons,hh,Bool.true_or,Bool.or_true];rfl
    have st:∀ t,∃ w,h0q b0 N (lowL L[i]) z L (L.length:Int) (i:Int) t q=some (.inl w)∧(∃ (j:Nat) (b0:Bool) (N:List Bs) (q:List (Bs×Int)),w=(b0,N,z,L,(L.length:Int),(j:Int),q)∧j≤L.length∧N.length≤j∧decide (0<getQ [42] q)=((L.take j).any fun x=>lowL x==[42]))∧L.length+1 - w.2.2.2.2.2.1.toNat<L.length+1 - (i:Int).toNat:=by
      intro t
      simp only[h0q,k0R]
      rw[w64_eq _ (by omega) (by omega)]
      cases t with
      | true =>
        rw[if_pos rfl,if_pos (by omega)]
        exact ⟨_,rfl,⟨i+1,_,_,_,rfl,by omega,by simp;omega,hq'⟩,by simp only;omega⟩
      | false =>
        rw[if_neg (by simp)]
        exact ⟨_,rfl,⟨i+1,_,_,_,rfl,by omega,by omega,hq'⟩,by simp only;omega⟩
    simp only[l0s,Int.toNat_natCast,e1]
    rw[if_pos (by simpa using h),if_pos ⟨by omega,by omega⟩,f0Y _ (by have:=hx _ (List.getElem_mem h);omega),Option.bind_some]
    split
    · exact st _
    · exact st _
  · right
    obtain rfl:i=L.length:=by omega
    simp only[l0s,o0J]
    rw[if_neg (by simp)]
    refine ⟨_,rfl,?_⟩
    simp only
    rw[hq,List.take_length]
def askedL(m:Bs)(l:List (Bs×Bs)):Bool:=m==[71,69,84]&&(plainL l && !(reqA l).1)
def toldS(st:Int)(xl:List (Bs×Bs)):Bool:=lasts st&&(!(resL (pairsL xl)).1&&(!(resL (pairsL xl)).2.2.1 && !starL xl))
def ownL(l xl:List (Bs×Bs)):Bool := !hasL l auB||((resL (pairsL xl)).2.2.2.1||((resL (pairsL xl)).2.2.2.2.1||decide (0≤(resL (pairsL xl)).2.2.2.2.2.2.2.1)))
def judgedL(xl:List (Bs×Bs)):Bool := !(elemsL xl conB).any forAllL
noncomputable def lastS(st:Int)(xl:List (Bs×Bs)):Bool:=(lifeL st xl).2||(decide (0<(lifeL st xl).1)||((tagL xl).2||(chgL xl).2))
noncomputable def mayL(m:Bs)(l:List (Bs×Bs))(st:Int)(xl:List (Bs×Bs)):Bool:=askedL m l&&(toldS st xl&&(ownL l xl&&(judgedL xl&&lastS st xl)))
section
variable (m:Bs) (b:Bool) (l:List (Bs×Bs)) (st:Int) (r:Bs) (mi:Int) (xb:Bool) (xl:List (Bs×Bs)) (c:Bool) (bo:List UInt8)
theorem S0J(hb:b=true→l=[])(hs:fsz l<2 ^ 30):m84 m b l=some (askedL m l,m,b,l):=by
  unfold m84 askedL
  rw[S0q b l hb hs,S0t b l hs]
  simp only[Option.bind_some]
  cases m==[71,69,84]<;>cases plainL l<;>rfl
theorem S0L:m86 st=some (lasts st):=by
  unfold m86;rw[J0V false _ st (by decide)];rfl
theorem S0K(s:Bool)(k0 k1 k2 k3 k4 k5:Bool)(k6 k7 k8 k9:Int):m85 st r mi xb xl c bo k0 k1 k2 k3 k4 k5 k6 k7 k8 k9 s=some (lasts st&&(!k0&&(!k2 && !s)),st,r,mi,xb,xl,c,bo,k0,k1,k2,k3,k4,k5,k6,k7,k8,k9,s):=by
  unfold m85
  rw[S0L]
  simp only[Option.bind_some]
  cases lasts st<;>cases k0<;>cases k2<;>rfl
theorem S0M(hb:b=true→l=[])(hs:fsz l<2 ^ 30)(k0 k1 k2 k3 k4 k5:Bool)(k6 k7 k8 k9:Int):m87 b l k0 k1 k2 k3 k4 k5 k6 k7 k8 k9=some (!hasL l auB||(k3||(k4||decide (0≤k7))),b,l,k0,k1,k2,k3,k4,k5,k6,k7,k8,k9):=by
  unfold m87
  rw[U0F b l hb hs]
  simp only[Option.bind_some]
  cases hasL l auB<;>cases k3<;>cases k4<;>rfl
theorem S0N(hs:fsz xl<2 ^ 30):m88 st r mi xb xl c bo=some (judgedL xl,st,r,mi,xb,xl,c,bo):=by
  obtain ⟨z,e⟩:=p0u xb xl conB hs (by decide)
  have hl:=elems_len xl conB
  obtain ⟨q,h1,h2⟩:=B0r z (elemsL xl conB) (by omega) (fun n hn=>by have:=elem_len hn;omega)
  unfold m88 judgedL
  rw[show ([99,111,110,110,101,99,116,105,111,110]:Bs)=conB from rfl,e]
  simp only[Option.bind_some,T0r,h1,h2]
theorem S0O(hs:fsz xl<2 ^ 30):m89 st r mi xb xl c bo=some (lastS st xl,st,r,mi,xb,xl,c,bo):=by
  obtain ⟨v,e,hv⟩:=cond1 [] 0 0 true [] st r mi xb xl c bo hs
  unfold m89 lastS
  rw[S0o st r mi xb xl c bo hs,e]
  simp only[Option.bind_some]
  cases (lifeL st xl).2
  · rw[if_neg (by simp)]
    cases decide (0<(lifeL st xl).1)
    · rw[if_neg (by simp),Bool.false_or,Bool.false_or,← hv]
      cases v<;>rfl
    · rfl
  · rfl
theorem S0u(hb:b=true→l=[])(hs:fsz l<2 ^ 30)(hx:fsz xl<2 ^ 30):m43 m b l st r mi xb xl c bo=some (mayL m l st xl):=by
  obtain ⟨v,e,hv⟩:=S0n xb xl hx
  unfold m43 m90 T0g u124_6_0 i0G i0H u124_6_1 c0D c0H u124_6_2 c0E c0I u124_6_3 c0F c0J u124_6_4 c0G c0K u124_6_5 m91 T0s T0t T0u T0v
  rw[J0M xb xl hx,e]
  simp only[Option.bind_some,S0J m b l hb hs,S0K,S0M b l hb hs,S0N _ _ _ _ _ _ _ hx,S0O _ _ _ _ _ _ _ hx,hv]
  unfold mayL toldS ownL
  generalize (lasts st&&(!(resL (pairsL xl)).1&&(!(resL (pairsL xl)).2.2.1 && !starL xl)))=B
  generalize (!hasL l auB||((resL (pairsL xl)).2.2.2.1||((resL (pairsL xl)).2.2.2.2.1||decide (0≤(resL (pairsL xl)).2.2.2.2.2.2.2.1))))=C
  cases askedL m l<;>cases B<;>cases C<;>cases judgedL xl<;>cases lastS st xl<;>rfl
theorem S0e(u:Bs)(qi:Int)(qc:Bool)(qo:List UInt8)(hb:b=true→l=[])(hs:fsz l<2 ^ 30)(hx:fsz xl<2 ^ 30):m12 m u qi b l qc qo st r mi xb xl c bo=some (mayL m l st xl):=by
  unfold m12;rw[S0u m b l st r mi xb xl c bo hb hs hx];rfl
end
end
section
set_option linter.all false
set_option maxRecDepth 100000
open Go Go.Ab Go.Proofs Go.Proofs.YtbkobjepahlegaaGreatDoor
theorem find_any{α:Type}(l:List α)(p:α→Bool)(x y:Bool)(hxy:x = !y):(l.findSome? fun a=>if p a=true then some x else none).getD y=if l.any p=true then x else y:=by
  induction l with
  | nil=>rfl
  | cons a l ih =>
    rw[List.findSome?_cons,List.any_cons]
    cases h:p a
    · rw[if_neg (by simp),Bool.false_or];exact ih
    · rw[if_pos rfl,Bool.true_or,if_pos rfl];rfl
theorem tf(b:Bool):(if b=true then true else false)=b:=by cases b<;>rfl
theorem S0w(st:Int):m45 st=some (lasts st):=by
  have e:=iter_first (step:=fun x:(Int×Int)=>m0U x.1 x.2) ([200,203,204,300,301,308,404,405,410,414,501]:List Int) (fun i=>(st,(i:Int))) (fun n=>if (n==st)=true then some true else none) false ?_ ?_ ?_
  · show iter _ (st,((0:Nat):Int))=_
    rw[e,find_any _ _ true false rfl,tf]
    unfold lasts
    refine congrArg some ?_
    congr 1
    funext x
    exact Bool.eq_iff_iff.2 (by simp only[beq_iff_eq];exact eq_comm)
  · intro i h hf
    have e1:([200,203,204,300,301,308,404,405,410,414,501]:List Int).getD i default=([200,203,204,300,301,308,404,405,410,414,501]:List Int)[i]:=by rw[List.getD_eq_getElem?_getD,List.getElem?_eq_getElem h];rfl
    have hi:i<11:=h
    simp only[m0U,Int.toNat_natCast]
    rw[if_pos (decide_eq_true (by omega)),if_pos ⟨by omega,by omega⟩,e1,w64_eq _ (by omega) (by omega),if_neg (by intro q;rw[if_pos q]at hf;cases hf)];rfl
  · intro i h r hf
    have e1:([200,203,204,300,301,308,404,405,410,414,501]:List Int).getD i default=([200,203,204,300,301,308,404,405,410,414,501]:List Int)[i]:=by rw[List.getD_eq_getElem?_getD,List.getElem?_eq_getElem h];rfl
    have hi:i<11:=h
    simp only[m0U,Int.toNat_natCast]
    rw[if_pos (decide_eq_true (by omega)),if_pos ⟨by omega,by omega⟩,e1]
    split
    · rename_i q;rw[if_pos q]at hf;cases hf;rfl
    · rename_i q;rw[if_neg q]at hf;cases hf
  · simp only[m0U];rfl
theorem J0P(s:Bs)(hs:s.length<2 ^ 47):m50 s=some (faN.contains (lowL s)):=by
  have e:=iter_first (step:=fun x:(Bs×Int)=>m0V x.1 x.2) faN (fun i=>(s,(i:Int))) (fun n=>if (n==lowL s)=true then some true else none) false ?_ ?_ ?_
  · show iter _ (s,((0:Nat):Int))=_
    rw[e,find_any _ _ true false rfl,tf]
    refine congrArg some (Bool.eq_iff_iff.2 ?_)
    rw[List.any_eq_true,List.contains_iff_mem]
    exact ⟨fun ⟨x,hx,h⟩=>by rw[← beq_iff_eq.1 h];exact hx,fun h=>⟨_,h,beq_self_eq_true _⟩⟩
  · intro i h hf
    have e1:faN.getD i default=faN[i]:=by rw[List.getD_eq_getElem?_getD,List.getElem?_eq_getElem h];rfl
    have hi:i<22:=h
    unfold faN at e1
    simp only[m0V,Int.toNat_natCast]
    rw[if_pos (decide_eq_true (by omega)),if_pos ⟨by omega,by omega⟩,b0b s hs,Option.bind_some,e1,w64_eq _ (by omega) (by omega),if_neg (by intro q;exact absurd hf (by rw[show (if (faN[i]==lowL s)=true then some true else (none:Option Bool))=some true from if_pos q];simp))];rfl
  · intro i h r hf
    have e1:faN.getD i default=faN[i]:=by rw[List.getD_eq_getElem?_getD,List.getElem?_eq_getElem h];rfl
    have hi:i<22:=h
    unfold faN at e1
    simp only[m0V,Int.toNat_natCast]
    rw[if_pos (decide_eq_true (by omega)),if_pos ⟨by omega,by omega⟩,b0b s hs,Option.bind_some,e1]
    split
    · rename_i q;rw[show (if (faN[i]==lowL s)=true then some true else (none:Option Bool))=some true from if_pos q]at hf;cases hf;rfl
    · rename_i q;rw[show (if (faN[i]==lowL s)=true then some true else (none:Option Bool))=none from if_neg q]at hf;cases hf
  · simp only[m0V];rfl
theorem low_low:∀ c,lowB (lowB c)=lowB c:=byAll (by decide +kernel)
theorem lowL_lowL(s:Bs):lowL (lowL s)=lowL s:=by unfold lowL;rw[List.map_map];congr 1;funext c;exact low_low c
theorem S0x(b:Bool)(l:List (Bs×Bs))(hs:fsz l<2 ^ 30):∃ v,m48 b l=some v∧v.2.2=starL l:=by
  obtain ⟨z,e⟩:=l0j b l varB hs (by decide)
  have hl:=elems_len l varB
  have hx:∀ x ∈ elemsL l varB,x.length≤fsz l:=fun x hx=>elem_len hx
  unfold m48
  rw[show ([118,97,114,121]:Bs)=varB from rfl,e,Option.bind_some]
  unfold starL
  generalize elemsL l varB=L at *
  refine iter_post (fun s=>∃ (i:Nat) (b0:Bool) (N:List Bs),s=(b0,N,((L.take i).any fun x=>lowL x==[42]),z,L,(i:Int))∧i≤L.length∧N.length≤i) (fun s=>L.length+1 - s.2.2.2.2.2.toNat) _ ?_ _ ⟨0,true,[],rfl,by omega,by simp⟩
  rintro s ⟨i,b0,N,rfl,hi,hN⟩
  by_cases h:i<L.length
  · left
    have e1:(L.getD i default)=L[i]:=by simp[List.getD_eq_getElem?_getD,h]
    have ht:((L.take (i+1)).any fun x=>lowL x==[42])=(((L.take i).any fun x=>lowL x==[42])||(lowL L[i]==[42])):=by
      rw[List.take_succ_eq_append_getElem h,List.any_append];simp
    simp only[l0t,Int.toNat_natCast,e1]
    rw[if_pos (by simpa using h),if_pos ⟨by omega,by omega⟩,b0b _ (by have:=hx _ (List.getElem_mem h);omega),Option.bind_some]
    have w:w64 ((i:Int)+1)=((i+1:Nat):Int):=by rw[w64_eq _ (by omega) (by omega)];rfl
    cases hh:(lowL L[i]==[42]) with
    | true =>
      rw[if_pos rfl]
      refine ⟨_,rfl,⟨i+1,b0,N,?_,by omega,by omega⟩,?_⟩
      · rw[ht,hh,Bool.or_true,w]
      · show L.length+1 - (w64 ((i:Int)+1)).toNat<L.length+1 - (i:Int).toNat
        rw[w];omega
    | false =>
      rw[if_neg (by simp)]
      have inner:∃ t,p0p b0 N ((L.take i).any fun x=>lowL x==[42]) z L (i:Int) (lowL L[i]) false 0=d0Y b0 N ((L.take i).any fun x=>lowL x==[42]) z L (i:Int) (lowL L[i]) t:=by
        have:∃ y,p0p b0 N ((L.take i).any fun x=>lowL x==[42]) z L (i:Int) (lowL L[i]) false 0=some y∧∃ t,d0Y b0 N ((L.take i).any fun x=>lowL x==[42]) z L (i:Int) (lowL L[i]) t=some y:=by
          refine iter_post (fun s=>∃ (k:Nat) (t:Bool),s=(b0,N,((L.take i).any fun x=>lowL x==[42]),z,L,(i:Int),lowL L[i],t,(k:Int))∧k≤N.length) (fun s=>N.length+1 - s.2.2.2.2.2.2.2.2.toNat) _ ?_ _ ⟨0,false,rfl,by omega⟩
          rintro s ⟨k,t,rfl,hk⟩
          by_cases hc:k<N.length
          · left
            have w2:w64 ((k:Int)+1)=((k+1:Nat):Int):=by rw[w64_eq _ (by omega) (by omega)];rfl
            simp only[l0u,k0X]
            rw[if_pos (by simpa using hc),w2]
            cases t with
            | true =>
              rw[if_pos rfl]
              exact ⟨_,rfl,⟨k+1,true,rfl,by omega⟩,by simp only;omega⟩
            | false =>
              rw[if_neg (by simp),if_pos ⟨by omega,by omega⟩]
              exact ⟨_,rfl,⟨k+1,_,rfl,by omega⟩,by simp only;omega⟩
          · right
            simp only[l0u]
            rw[if_neg (by simp;omega)]
            have:∃ y,d0Y b0 N ((L.take i).any fun x=>lowL x==[42]) z L (i:Int) (lowL L[i]) t=some y:=by
              unfold d0Y f0R
              cases t with
              | true=>exact ⟨_,if_pos rfl⟩
              | false=>rw[if_neg (by simp),if_pos (by omega)];exact ⟨_,rfl⟩
            obtain ⟨y,hy⟩:=this
            rw[hy]
            exact ⟨y,rfl,t,hy⟩
        obtain ⟨y,h1,t,h2⟩:=this
        exact ⟨t,h1.trans h2.symm⟩
      obtain ⟨t,et⟩:=inner
      rw[et]
      unfold d0Y f0R
      rw[w]
      cases t with
      | true =>
        rw[if_pos rfl]
        refine ⟨_,rfl,⟨i+1,b0,N,?_,by omega,by omega⟩,by simp only;omega⟩
        rw[ht,hh,Bool.or_false]
      | false =>
        rw[if_neg (by simp),if_pos (by omega)]
        refine ⟨_,rfl,⟨i+1,false,N++[lowL L[i]],?_,by omega,by simp;omega⟩,by simp only;omega⟩
        rw[ht,hh,Bool.or_false]
  · right
    obtain rfl:i=L.length:=by omega
    simp only[l0t,o0T]
    rw[if_neg (by simp)]
    refine ⟨_,rfl,?_⟩
    simp only[List.take_length]
section
variable (m:Bs) (b:Bool) (l:List (Bs×Bs)) (st:Int) (r:Bs) (mi:Int) (xb:Bool) (xl:List (Bs×Bs)) (c:Bool) (bo:List UInt8)
theorem R0D(hx:fsz xl<2 ^ 30):k0P st r mi xb xl c bo=some (lastS st xl):=by
  unfold k0P lastS
  rw[S0y st r mi xb xl c bo hx,J0N xb xl hx,J0Q xb xl hx]
  simp only[Option.bind_some]
  cases (lifeL st xl).2<;>cases decide (0<(lifeL st xl).1)<;>cases (tagL xl).2<;>rfl
theorem R0C(z:Bool)(L:List Bs)(hL:L.length<2 ^ 60)(hN:∀ n ∈ L,n.length<2 ^ 47)(hx:fsz xl<2 ^ 30):w0M z L 0 st r mi xb xl c bo=some (!(L.any forAllL)&&lastS st xl):=by
  have e:=iter_first (step:=fun x:(Bool×List Bs×Int×Int×Bs×Int×Bool×List (Bs×Bs)×Bool×List UInt8)=>g0h x.1 x.2.1 x.2.2.1 x.2.2.2.1 x.2.2.2.2.1 x.2.2.2.2.2.1 x.2.2.2.2.2.2.1 x.2.2.2.2.2.2.2.1 x.2.2.2.2.2.2.2.2.1 x.2.2.2.2.2.2.2.2.2) L (fun i=>(z,L,(i:Int),st,r,mi,xb,xl,c,bo)) (fun n=>if forAllL n=true then some false else none) (lastS st xl) ?_ ?_ ?_
  · show iter _ (z,L,((0:Nat):Int),st,r,mi,xb,xl,c,bo)=_
    rw[e]
    refine congrArg some ?_
    generalize lastS st xl=w
    clear e hL hN
    induction L with
    | nil=>simp
    | cons n L ih =>
      rw[List.findSome?_cons,List.any_cons]
      cases h:forAllL n
      · rw[if_neg (by simp),Bool.false_or];exact ih
      · rw[if_pos rfl,Bool.true_or];rfl
  · intro i h hf
    have e1:L.getD i default=L[i]:=by simp[List.getD_eq_getElem?_getD,h]
    have hn:=hN _ (List.getElem_mem h)
    simp only[g0h,Int.toNat_natCast,e1]
    rw[if_pos (by simpa using h),if_pos ⟨by omega,by omega⟩,b0b _ hn,Option.bind_some,J0P _ (by rw[show (lowL L[i]).length=L[i].length from List.length_map _];exact hn),Option.bind_some,lowL_lowL,w64_eq _ (by omega) (by omega)]
    rw[if_neg (by intro q;exact absurd hf (by rw[show (if forAllL L[i]=true then some false else (none:Option Bool))=some false from if_pos q];simp))];rfl
  · intro i h w hf
    have e1:L.getD i default=L[i]:=by simp[List.getD_eq_getElem?_getD,h]
    have hn:=hN _ (List.getElem_mem h)
    simp only[g0h,Int.toNat_natCast,e1]
    rw[if_pos (by simpa using h),if_pos ⟨by omega,by omega⟩,b0b _ hn,Option.bind_some,J0P _ (by rw[show (lowL L[i]).length=L[i].length from List.length_map _];exact hn),Option.bind_some,lowL_lowL]
    split
    · rename_i q;rw[show (if forAllL L[i]=true then some false else (none:Option Bool))=some false from if_pos q]at hf;cases hf;rfl
    · rename_i q;rw[show (if forAllL L[i]=true then some false else (none:Option Bool))=none from if_neg q]at hf;cases hf
  · simp only[g0h]
    rw[if_neg (by simp),R0D st r mi xb xl c bo hx];rfl
theorem R0B(hx:fsz xl<2 ^ 30)(t:Bool):d0V t st r mi xb xl c bo=some (!t&&(!starL xl&&(judgedL xl&&lastS st xl))):=by
  obtain ⟨v,e,hv⟩:=S0x xb xl hx
  obtain ⟨z,e2⟩:=l0j xb xl conB hx (by decide)
  have hl:=elems_len xl conB
  unfold d0V judgedL
  rw[e,show ([99,111,110,110,101,99,116,105,111,110]:Bs)=conB from rfl,e2]
  simp only[Option.bind_some,hv,R0C st r mi xb xl c bo z (elemsL xl conB) (by omega) (fun n hn=>by have:=elem_len hn;omega) hx]
  cases t<;>cases starL xl<;>rfl
theorem S0i(hs:fsz l<2 ^ 30)(hx:fsz xl<2 ^ 30):m13 m b l st r mi xb xl c bo=some (mayL m l st xl):=by
  unfold m13 m0A k0O
  rw[S0r b l hs,S0v b l hs,S0w,J0O xb xl hx,show ([97,117,116,104,111,114,105,122,97,116,105,111,110]:Bs)=auB from rfl,x0p b l auB hs (by decide)]
  simp only[Option.bind_some,R0B _ _ _ _ _ _ _ hx]
  unfold mayL askedL toldS ownL
  have hd:decide (0≤(resL (pairsL xl)).2.2.2.2.2.2.2.1) = !decide ((resL (pairsL xl)).2.2.2.2.2.2.2.1<0):=by
    by_cases q:(resL (pairsL xl)).2.2.2.2.2.2.2.1<0
    · rw[decide_eq_true q,decide_eq_false (by omega)];rfl
    · rw[decide_eq_false q,decide_eq_true (by omega)];rfl
  rw[hd]
  generalize decide ((resL (pairsL xl)).2.2.2.2.2.2.2.1<0)=k7
  generalize (judgedL xl&&lastS st xl)=JL
  generalize (resL (pairsL xl)).1=k0
  generalize (resL (pairsL xl)).2.2.1=k2
  generalize (resL (pairsL xl)).2.2.2.1=k3
  generalize (resL (pairsL xl)).2.2.2.2.1=k4
  generalize (m==[71,69,84])=g
  generalize plainL l=p
  generalize (reqA l).1=q
  generalize lasts st=la
  generalize starL xl=sx
  generalize hasL l auB=ha
  cases g
  · rfl
  · cases p
    · rfl
    · cases q
      · cases la
        · rfl
        · cases k0
          · cases k2
            · cases ha<;>cases k3<;>cases k4<;>cases k7<;>cases sx<;>cases JL<;>rfl
            · cases ha<;>cases k3<;>cases k4<;>cases k7<;>cases sx<;>cases JL<;>rfl
          · rfl
      · rfl
theorem a0K(z z':Bool)(L:List (Bs×Bs))(hL:L.length<2 ^ 60):m14 z L z' L=some true:=by
  unfold m14
  rw[if_pos (by simp)]
  have:∃ v,w0P z L z' L 0=some v∧v=true:=by
    refine iter_post (fun s=>∃ i:Nat,s=(z,L,z',L,(i:Int))∧i≤L.length) (fun s=>L.length+1 - s.2.2.2.2.toNat) _ ?_ _ ⟨0,rfl,by omega⟩
    rintro s ⟨i,rfl,hi⟩
    by_cases h:i<L.length
    · left
      simp only[l0r]
      rw[if_pos (by simpa using h),if_pos ⟨by omega,by omega⟩,if_pos ⟨by omega,by omega⟩,if_pos (by simp),w64_eq _ (by omega) (by omega)]
      exact ⟨_,rfl,⟨i+1,rfl,by omega⟩,by simp only;omega⟩
    · right
      simp only[l0r,o0F]
      rw[if_neg (by simp;omega)]
      exact ⟨_,rfl,rfl⟩
  obtain ⟨v,h1,rfl⟩:=this
  exact h1
theorem policyStores(u:Bs)(qi:Int)(qc:Bool)(qo:List UInt8)(hb:b=true→l=[])(hs:fsz l<2 ^ 30)(hx:fsz xl<2 ^ 30):m3 m u qi b l qc qo st r mi xb xl c bo=some true:=by
  obtain ⟨v,e1,e2,hv⟩:=cond_ok [] 0 0 true [] st r mi xb xl c bo hx
  have h1:=fsz_len l
  have h2:=fsz_len xl
  have hc:∃ L:List (Bs×Bs),(v=.inl (v.elim (·.1) (·.1),L)∨v=.inr (v.elim (·.1) (·.1),L))∧L.length<2 ^ 60:=by
    have hn:cnt v<2 ^ 60:=by
      have:v=v:=rfl
      unfold m15 h0o b0k d0W b0l at e1
      rw[x0o xb xl hx,x0q xb xl hx]at e1
      simp only[Option.bind_some]at e1
      split at e1<;>split at e1
      · split at e1
        · cases e1;exact by simp[cnt]
        · cases e1
      · cases e1;exact by simp[cnt]
      · cases e1;exact by simp[cnt]
      · cases e1;exact by simp[cnt]
    cases v with
    | inl x=>exact ⟨x.2,Or.inl rfl,hn⟩
    | inr x=>exact ⟨x.2,Or.inr rfl,hn⟩
  have may1:=S0e m b l st r mi xb xl c bo u qi qc qo hb hs hx
  have may2:=S0i m b l st r mi xb xl c bo hs hx
  unfold m3
  rw[may1,may2,e1,e2]
  simp only[Option.bind_some,beq_self_eq_true,if_true]
  have k1:=a0K
  obtain ⟨L,hv',hL⟩:=hc
  have fin:∀ X:Option Bool,X=some true→X=some true:=fun _ h=>h
  by_cases i1:xl.isEmpty=true
  · obtain rfl:xl=[]:=by cases xl with | nil=>rfl | cons=>cases i1
    rw[if_pos (by rfl)]
    by_cases i2:l.isEmpty=true
    · obtain rfl:l=[]:=by cases l with | nil=>rfl | cons=>cases i2
      rw[if_pos (by rfl)]
      rcases hv' with hv' | hv'<;>rw[hv']<;>simp only[Option.bind_some,a0K _ _ L hL,a0K _ _ [] (by decide),if_true]
    · rw[if_neg i2,if_pos (by omega)]
      rcases hv' with hv' | hv'<;>rw[hv']<;>simp only[Option.bind_some,a0K _ _ L hL,a0K _ _ [] (by decide),a0K _ _ l (by omega),if_true]
  · rw[if_neg i1,if_pos (by omega)]
    by_cases i2:l.isEmpty=true
    · obtain rfl:l=[]:=by cases l with | nil=>rfl | cons=>cases i2
      rw[if_pos (by rfl)]
      rcases hv' with hv' | hv'<;>rw[hv']<;>simp only[Option.bind_some,a0K _ _ L hL,a0K _ _ [] (by decide),a0K _ _ xl (by omega),if_true]
    · rw[if_neg i2,if_pos (by omega)]
      rcases hv' with hv' | hv'<;>rw[hv']<;>simp only[Option.bind_some,a0K _ _ L hL,a0K _ _ xl (by omega),a0K _ _ l (by omega),if_true]
end
end
section
set_option linter.all false
open Go Go.Ab Go.Proofs Go.Proofs.YtbkobjepahlegaaGreatDoor
theorem fsz_le(l:List (Bs×Bs)):fsz l≤(List.map (fun y:Bs×Bs=>(((y.1.length+1)+((y.2.length+1)+0))+1)) l).sum:=by
  induction l with
  | nil=>exact Nat.zero_le _
  | cons a l ih=>simp only[fsz,List.map_cons,List.sum_cons]at ih ⊢; omega
end
