/- Plain laws of the functions. -/
import Derived.Test.YtoohbnmhjfgclaaGreatDoorEv8
import Derived.Test.YtoohbnmhjfgclaaGreatDoorFStays8
import Derived.Lib.DecodeN
import Derived.Lib.IndexMore
import Derived.Lib.IndexLaws
set_option linter.all false
section
set_option linter.all false
namespace Go.Ab
open Go
theorem wu64m (x:Int):wu64 x = x % 18446744073709551616:=by
  unfold wu64
  simp [IntKind.wrap,IntKind.min,IntKind.max,IntKind.bits,IntKind.signed] <;> omega
theorem iter_post {σ β:Type} {f:σ→Option (σ ⊕ β)} (I:σ→Prop) (μ:σ→Nat) (Q:β→Prop)
    (h:∀ s,I s→(∃ t,f s = some (.inl t)∧I t∧μ t < μ s)∨(∃ r,f s = some (.inr r)∧Q r)) (s:σ) (hs:I s):∃ r,iter f s = some r∧Q r:=by
  have key:∀ n s,μ s < n→I s→∃ r,iter f s = some r∧Q r:=by
    intro n
    induction n with
    | zero=>intro s h0; omega
    | succ n ih =>
      intro s hn hs
      rcases h s hs with ⟨t,ht,hI,hm⟩ | ⟨r,hr,hq⟩
      · rw [iter_l ht]; exact ih t (by omega) hI
      · exact ⟨r,iter_r hr,hq⟩
  exact key (μ s + 1) s (by omega) hs
theorem iter_to {σ β:Type} {f:σ→Option (σ ⊕ β)} (I:σ→Prop) (μ:σ→Nat) (X:Option β)
    (h:∀ s,I s→(∃ t,f s = some (.inl t)∧I t∧μ t < μ s)∨f s = X.map .inr) (s:σ) (hs:I s):iter f s = X:=by
  have key:∀ n s,μ s < n→I s→iter f s = X:=by
    intro n
    induction n with
    | zero=>intro s h0; omega
    | succ n ih =>
      intro s hn hs
      rcases h s hs with ⟨t,ht,hI,hm⟩ | hr
      · rw [iter_l ht]; exact ih t (by omega) hI
      · cases X with
        | none=>exact iter_n hr
        | some r=>exact iter_r hr
  exact key (μ s + 1) s (by omega) hs
end Go.Ab
end
section
set_option linter.all false
namespace Go.Proofs
open Go Go.Ab
theorem iter_fold {σ α γ ρ:Type} {step:σ→Option (σ ⊕ ρ)} (l:List α) (mk:γ→Nat→σ) (f:γ→α→γ) (fin:γ→ρ) (I:γ→Nat→Prop)
    (hI:∀ g i (h:i < l.length),I g i→I (f g l[i]) (i + 1))
    (hs:∀ g i (h:i < l.length),I g i→step (mk g i) = some (.inl (mk (f g l[i]) (i + 1))))
    (he:∀ g,I g l.length→step (mk g l.length) = some (.inr (fin g))) (g:γ) (h0:I g 0):iter step (mk g 0) = some (fin (l.foldl f g)):=by
  have main:∀ n i g,n + i = l.length→I g i→iter step (mk g i) = some (fin ((l.drop i).foldl f g)):=by
    intro n
    induction n with
    | zero =>
      intro i g hi hg
      obtain rfl:i = l.length:=by omega
      rw [iter_eq,he g hg,List.drop_length]
      rfl
    | succ n ih =>
      intro i g hi hg
      have h:i < l.length:=by omega
      rw [iter_eq,hs g i h hg,List.drop_eq_getElem_cons h,List.foldl_cons]
      exact ih (i + 1) _ (by omega) (hI g i h hg)
  have:=main l.length 0 g (by omega) h0
  rwa [List.drop_zero] at this
end Go.Proofs
end
section
set_option linter.all false
open Go Go.Ab Go.Proofs Go.Proofs.YtoohbnmhjfgclaaGreatDoor
namespace Go.Ab
theorem byAll {P:UInt8→Prop} [DecidablePred P] (h:((List.range 256).all fun n=>decide (P (UInt8.ofNat n))) = true) (c:UInt8):P c:=by
  have:=List.all_eq_true.1 h c.toNat (List.mem_range.2 c.toNat_lt)
  have e:=of_decide_eq_true this
  have:UInt8.ofNat c.toNat = c:=by simp
  rwa [this] at e
theorem drop_cons {l:Bs} {i:Nat} (h:i < l.length):l.drop i = l.getD i 0 :: l.drop (i + 1):=by
  rw [List.drop_eq_getElem_cons h,List.getD_eq_getElem?_getD,List.getElem?_eq_getElem h,Option.getD_some]
theorem iter_g {σ β:Type} {f:σ→Option (σ ⊕ β)} (I:σ→Prop) (μ:σ→Nat) (g:σ→Option β)
    (h:∀ s,I s→(∃ t,f s = some (.inl t)∧I t∧μ t < μ s∧g t = g s)∨f s = (g s).map .inr) (s:σ) (hs:I s):iter f s = g s:=by
  refine iter_to (fun t=>I t∧g t = g s) μ (g s) ?_ s ⟨hs,rfl⟩
  rintro t ⟨ht,e⟩
  rcases h t ht with ⟨u,h1,h2,h3,h4⟩ | h1
  · exact .inl ⟨u,h1,⟨h2,h4.trans e⟩,h3⟩
  · exact .inr (by rw [h1,e])
def lowB (c:UInt8):UInt8:=if 65≤c∧c≤90 then c + 32 else c
def lowL (s:Bs):Bs:=s.map lowB
theorem low_add (c:UInt8) (h:65≤c∧c≤90):c + 97 - 65 = c + 32:=by
  have:∀ c:UInt8,c + 97 - 65 = c + 32:=byAll (by decide +kernel)
  exact this c
theorem set_take {l:Bs} {i:Nat} (h:i < l.length) (x:UInt8):(l.set i x).take (i + 1) = l.take i ++ [x]:=by
  rw [List.take_succ_eq_append_getElem (by simpa using h),List.take_set,List.set_eq_of_length_le (by simp; omega)]
  simp
theorem m105_eq (s:Bs) (hs:s.length < 2 ^ 60):m105 s = some (lowL s):=by
  unfold m105 l105_8
  refine (iter_g (fun (x:Nat×Nat×Int×Int×List UInt8)=>x.1 = s.length∧x.2.1 = s.length∧x.2.2.1 = s.length∧0≤x.2.2.2.1∧x.2.2.2.1≤s.length∧x.2.2.2.2.length = s.length) (fun (x:Nat×Nat×Int×Int×List UInt8)=>((s.length:Int) - x.2.2.2.1).toNat) (fun (x:Nat×Nat×Int×Int×List UInt8)=>some (x.2.2.2.2.take x.2.2.2.1.toNat ++ lowL (x.2.2.2.2.drop x.2.2.2.1.toNat))) ?_ (s.length,s.length,s.length,0,s) ⟨rfl,rfl,rfl,by dsimp only; omega,by dsimp only; omega,rfl⟩).trans (by simp)
  rintro ⟨b,t,n,i,h⟩ hI
  dsimp only at hI ⊢
  obtain ⟨rfl,rfl,rfl,h0,h1,h2⟩:=hI
  unfold s105_8
  by_cases c:i < s.length
  · left
    have hd:=drop_cons (l:=h) (i:=i.toNat) (by omega)
    have key:j105_21 s.length i (h.getD i.toNat 0) s.length s.length i (decide (65≤h.getD i.toNat 0) && decide (h.getD i.toNat 0≤90)) h = some (.inl (s.length,s.length,s.length,i + 1,h.set i.toNat (lowB (h.getD i.toNat 0)))):=by
      unfold j105_21 j105_24 lowB
      rw [w64_eq (i + 1) (by omega) (by omega)]
      by_cases hc:65≤h.getD i.toNat 0∧h.getD i.toNat 0≤90
      · rw [if_pos (by simpa using hc),if_pos ⟨h0,c⟩,if_pos (by omega),if_pos hc,low_add _ hc]
      · rw [if_neg (by simpa using hc),if_neg hc]
        have:h.set i.toNat (h.getD i.toNat 0) = h:=by
          apply List.ext_getElem?
          intro j
          rw [List.getElem?_set]
          split
          · rename_i e; subst e
            rw [if_pos (by omega),List.getD_eq_getElem?_getD,List.getElem?_eq_getElem (by omega)]
            rfl
          · rfl
        rw [this]
    refine ⟨(s.length,s.length,s.length,i + 1,h.set i.toNat (lowB (h.getD i.toNat 0))),?_,⟨rfl,rfl,rfl,by dsimp only; omega,by dsimp only; omega,by simpa using h2⟩,by dsimp only; omega,?_⟩
    · rw [if_pos (by simpa using c),if_pos ⟨h0,c⟩,if_pos (by omega)]
      by_cases a:65≤h.getD i.toNat 0
      · simp only [a,decide_true,if_true,Bool.true_and] at key ⊢
        exact key
      · simp only [a,decide_false,Bool.false_eq_true,if_false,Bool.false_and] at key ⊢
        exact key
    · dsimp only
      rw [show (i + 1).toNat = i.toNat + 1 by omega,set_take (by omega),hd,List.drop_set_of_lt (by omega)]
      simp [lowL]
  · right
    have e:i.toNat = h.length:=by omega
    unfold j105_25
    rw [if_neg (by simpa using c),if_pos (by omega),e,List.take_length,List.drop_length,← h2,List.take_length]
    simp [lowL]
end Go.Ab
end
section
set_option linter.all false
open Go Go.Ab Go.Proofs Go.Proofs.YtoohbnmhjfgclaaGreatDoor
namespace Go.Ab
def trimL (s:Bs):Bs:=Lib.trimS s [32,9]
theorem m82_eq (s:Bs) (hs:s.length < 2 ^ 60):m82 s = some (trimL s):=by
  unfold m82 mTrim
  rw [if_pos ⟨by omega,by decide,by decide⟩]
  rfl
theorem m174_eq {s:Bs} {a b:Nat} (hb:b≤s.length) (hab:a≤b) (hs:s.length < 2 ^ 60) (z:Bool) (l:List Bs) (hl:l.length < 2 ^ 40) :
    ∃ z',m174 b s a z l = some (s,(b:Int) + 1,z',if trimL ((s.take b).drop a) = [] then l else l ++ [trimL ((s.take b).drop a)]):=by
  unfold m174 j174_8
  rw [bnd_ok hb,Option.bind_some,bnd_ok hab,Option.bind_some,m82_eq _ (by simp; omega),Option.bind_some,w64_eq _ (by omega) (by omega)]
  by_cases c:trimL ((s.take b).drop a) = []
  · exact ⟨z,by rw [if_pos (by simpa using c),if_pos c]⟩
  · exact ⟨false,by rw [if_neg (by simpa using c),if_pos (by omega),if_neg c]⟩
theorem rune_lo {l:Bs} {p:Nat} (h:p < l.length) (hl:(l.getD p 0).toNat < 128):uc l p = (l.getD p 0).toNat∧uw l p = 1:=by
  unfold uc uw
  rw [Lib.decode_at,S_get!]
  simp only [Lib.decodeN,hl,if_true,and_self]
theorem rune_hi {l:Bs} {p:Nat} (h:p < l.length) (hl:128≤(l.getD p 0).toNat):128≤uc l p∧1≤uw l p∧p + uw l p≤l.length∧∀ j,j < uw l p→128≤(l.getD (p + j) 0).toNat:=by
  unfold uc uw
  rw [Lib.decode_at,S_get!,S_get!,S_get!,S_get!,S_size]
  have hn:¬ (l.getD p 0).toNat < 128:=by omega
  generalize hb0:(l.getD p 0).toNat = b0 at *
  generalize hb1:(l.getD (p + 1) 0).toNat = b1 at *
  generalize hb2:(l.getD (p + 2) 0).toNat = b2 at *
  generalize hb3:(l.getD (p + 3) 0).toNat = b3 at *
  have z0:∀ j,j < 1→128≤(l.getD (p + j) 0).toNat:=fun j hj=>by
    have:j = 0:=by omega
    subst this; simp only [Nat.add_zero]; omega
  unfold Lib.decodeN
  rw [if_neg hn]
  split
  · rename_i g
    split
    · refine ⟨by dsimp only; omega,by dsimp only; omega,by dsimp only; omega,fun j hj=>?_⟩
      have:j = 0∨j = 1:=by dsimp only at hj; omega
      rcases this with rfl | rfl
      · exact z0 0 (by omega)
      · omega
    · exact ⟨by decide,by decide,by dsimp only; omega,z0⟩
  · split
    · rename_i g
      split
      · refine ⟨by dsimp only; omega,by dsimp only; omega,by dsimp only; omega,fun j hj=>?_⟩
        have:j = 0∨j = 1∨j = 2:=by dsimp only at hj; omega
        rcases this with rfl | rfl | rfl
        · exact z0 0 (by omega)
        · omega
        · omega
      · exact ⟨by decide,by decide,by dsimp only; omega,z0⟩
    · split
      · rename_i g
        split
        · refine ⟨by dsimp only; omega,by dsimp only; omega,by dsimp only; omega,fun j hj=>?_⟩
          have:j = 0∨j = 1∨j = 2∨j = 3:=by dsimp only at hj; omega
          rcases this with rfl | rfl | rfl | rfl
          · exact z0 0 (by omega)
          · omega
          · omega
          · omega
        · exact ⟨by decide,by decide,by dsimp only; omega,z0⟩
      · exact ⟨by decide,by decide,by dsimp only; omega,z0⟩
def split (q m:Bool) (cur:Bs):Bs→List Bs
  | []=>[cur]
  | c :: s =>
    if m = true then split q false (cur ++ [c]) s
    else if q = true∧c = 92 then split q true (cur ++ [c]) s
    else if c = 34 then split (!q) false (cur ++ [c]) s
    else if c = 44∧q = false then cur :: split false false [] s
    else split q false (cur ++ [c]) s
def fl (l:List Bs):List Bs:=(l.map trimL).filter fun x => !x.isEmpty
def listL (s:Bs):List Bs:=fl (split false false [] s)
theorem fl_cons (x:Bs) (l:List Bs):fl (x :: l) = (if trimL x = [] then [] else [trimL x]) ++ fl l:=by
  unfold fl
  rw [List.map_cons,List.filter_cons]
  cases h:trimL x with
  | nil=>simp
  | cons a t=>simp
theorem split_plain {q m:Bool} {cur s:Bs} {c:UInt8} (h:c ≠ 92∧c ≠ 34∧c ≠ 44):split q m cur (c :: s) = split q false (cur ++ [c]) s:=by
  rw [split]
  cases m
  · rw [if_neg (by decide),if_neg (fun g=>h.1 g.2),if_neg h.2.1,if_neg (fun g=>h.2.2 g.1)]
  · rw [if_pos rfl]
theorem split_hi (q:Bool):∀ (n:Nat) (s:Bs) (cur:Bs),n≤s.length→(∀ j,j < n→128≤(s.getD j 0).toNat)→split q false cur s = split q false (cur ++ s.take n) (s.drop n):=by
  intro n
  induction n with
  | zero=>intro s cur _ _; simp
  | succ n ih =>
    intro s cur hn h
    cases s with
    | nil=>simp at hn
    | cons c s =>
      have h0:=h 0 (by omega)
      simp only [List.getD_cons_zero] at h0
      have hc:c ≠ 92∧c ≠ 34∧c ≠ 44:=⟨fun e=>by subst e; exact absurd h0 (by decide),fun e=>by subst e; exact absurd h0 (by decide),fun e=>by subst e; exact absurd h0 (by decide)⟩
      rw [split_plain hc,ih s _ (by simpa using hn) (fun j hj=>by have:=h (j + 1) (by omega); simpa using this)]
      simp
theorem split_hi' (q m:Bool) {n:Nat} {s:Bs} {cur:Bs} (h1:1≤n) (hn:n≤s.length) (h:∀ j,j < n→128≤(s.getD j 0).toNat):split q m cur s = split q false (cur ++ s.take n) (s.drop n):=by
  cases s with
  | nil=>simp at hn; omega
  | cons c s =>
    obtain ⟨n,rfl⟩:∃ k,n = k + 1:=⟨n - 1,by omega⟩
    have h0:=h 0 (by omega)
    simp only [List.getD_cons_zero] at h0
    have hc:c ≠ 92∧c ≠ 34∧c ≠ 44:=⟨fun e=>by subst e; exact absurd h0 (by decide),fun e=>by subst e; exact absurd h0 (by decide),fun e=>by subst e; exact absurd h0 (by decide)⟩
    rw [split_plain hc,split_hi q n s _ (by simpa using hn) (fun j hj=>by have:=h (j + 1) (by omega); simpa using this)]
    simp
theorem take_drop_step {s:Bs} {f p n:Nat} (hf:f≤p) (hn:p + n≤s.length):(s.take p).drop f ++ (s.drop p).take n = (s.take (p + n)).drop f:=by
  rw [List.take_add,List.drop_append_of_le_length (by simp; omega)]
def restL (s:Bs) (q m:Bool) (f p:Nat):List Bs:=fl (split q m ((s.take p).drop f) (s.drop p))
theorem rest_end {s:Bs} {q m:Bool} {f:Nat}:restL s q m f s.length = if trimL (s.drop f) = [] then [] else [trimL (s.drop f)]:=by
  unfold restL
  rw [List.drop_length,List.take_length]
  show fl [_] = _
  rw [fl_cons]
  simp [fl]
theorem cur_snoc {s:Bs} {f p:Nat} (hf:f≤p) (hp:p < s.length):(s.take p).drop f ++ [s.getD p 0] = (s.take (p + 1)).drop f:=by
  have:=take_drop_step (s:=s) (n:=1) hf (by omega)
  rw [← this,drop_cons hp]
  simp
theorem rest_step {s:Bs} {q m:Bool} {f p:Nat} (hf:f≤p) (hp:p < s.length):restL s q m f p =
    if m = true then restL s q false f (p + 1)
    else if q = true∧s.getD p 0 = 92 then restL s q true f (p + 1)
    else if s.getD p 0 = 34 then restL s (!q) false f (p + 1)
    else if s.getD p 0 = 44∧q = false then (if trimL ((s.take p).drop f) = [] then [] else [trimL ((s.take p).drop f)]) ++ restL s false false (p + 1) (p + 1)
    else restL s q false f (p + 1):=by
  unfold restL
  rw [drop_cons hp,split,cur_snoc hf hp]
  have e:(s.take (p + 1)).drop (p + 1) = []:=List.drop_eq_nil_of_le (by simp; omega)
  rw [e]
  split
  · rfl
  · split
    · rfl
    · split
      · rfl
      · split
        · rw [fl_cons]
        · rfl
theorem rest_hi {s:Bs} {q m:Bool} {f p:Nat} (hf:f≤p) (hp:p < s.length) (hh:128≤(s.getD p 0).toNat):restL s q m f p = restL s q false f (p + uw s p):=by
  obtain ⟨h1,h2,h3,h4⟩:=rune_hi hp hh
  unfold restL
  rw [split_hi' q m h2 (n:=uw s p) (by simp; omega) (fun j hj=>by
    have:=h4 j hj
    rw [List.getD_eq_getElem?_getD] at this ⊢
    rw [List.getElem?_drop]; exact this),take_drop_step hf h3,List.drop_drop]
theorem m151_big (s:Bs) (hs:s.length < 2 ^ 60) (hN:(listL s).length < 2 ^ 40):∃ z,m151 s = some (z,listL s):=by
  have main:∃ r,m151 s = some r∧r.2 = listL s:=by
    unfold m151 l151_12
    refine iter_post (fun (x:Bool×Bool×Bs×Bool×List Bs×Int×Bs×Nat)=>x.2.2.1 = s∧x.2.2.2.2.2.2.1 = s∧x.2.2.2.2.2.2.2≤s.length∧∃ f:Nat,x.2.2.2.2.2.1 = f∧f≤x.2.2.2.2.2.2.2∧(x.2.1 = true→x.1 = true)∧x.2.2.2.2.1 ++ restL s x.1 x.2.1 f x.2.2.2.2.2.2.2 = listL s)
      (fun (x:Bool×Bool×Bs×Bool×List Bs×Int×Bs×Nat)=>s.length - x.2.2.2.2.2.2.2) _ ?_ _ ⟨rfl,rfl,by dsimp only; omega,0,rfl,by dsimp only; omega,by simp,by dsimp only; unfold restL listL; simp⟩
    rintro ⟨q,m,s',z,l,f',s2,p⟩ hI
    dsimp only at hI ⊢
    obtain ⟨rfl,rfl,hp,f,rfl,hf,hqm,hr⟩:=hI
    have hlen:l.length < 2 ^ 40:=by
      have:=congrArg List.length hr
      rw [List.length_append] at this; omega
    unfold s151_12
    by_cases c:p < s2.length
    · left
      rw [if_pos (by simpa using c)]
      by_cases hh:128≤(s2.getD p 0).toNat
      · -- no sign
        obtain ⟨h1,h2,h3,h4⟩:=rune_hi c hh
        rw [rest_hi hf c hh] at hr
        have n34:((uc s2 p:Int) == 34) = false:=by simp; omega
        have n44:((uc s2 p:Int) == 44) = false:=by simp; omega
        have n92:((uc s2 p:Int) == 92) = false:=by simp; omega
        refine ⟨(q,false,s2,z,l,f,s2,p + uw s2 p),?_,⟨rfl,rfl,by dsimp only; omega,f,rfl,by dsimp only; omega,by simp,hr⟩,by dsimp only; omega⟩
        unfold j151_29 j151_37
        cases m <;> cases q <;> simp [n34,n44,n92]
      · obtain ⟨h1,h2⟩:=rune_lo c (by omega)
        rw [h1,h2]
        rw [rest_step hf c] at hr
        have e34:(((s2.getD p 0).toNat:Int) == 34) = decide (s2.getD p 0 = 34):=by
          have:∀ c:UInt8,((c.toNat:Int) == 34) = decide (c = 34):=byAll (by decide +kernel)
          exact this _
        have e44:(((s2.getD p 0).toNat:Int) == 44) = decide (s2.getD p 0 = 44):=by
          have:∀ c:UInt8,((c.toNat:Int) == 44) = decide (c = 44):=byAll (by decide +kernel)
          exact this _
        have e92:(((s2.getD p 0).toNat:Int) == 92) = decide (s2.getD p 0 = 92):=by
          have:∀ c:UInt8,((c.toNat:Int) == 92) = decide (c = 92):=byAll (by decide +kernel)
          exact this _
        unfold j151_29 j151_37
        rw [e34,e44,e92]
        generalize s2.getD p 0 = b at *
        cases m with
        | true =>
          rw [if_pos rfl] at hr
          exact ⟨(q,false,s2,z,l,f,s2,p + 1),by simp,⟨rfl,rfl,by dsimp only; omega,f,rfl,by dsimp only; omega,by simp,hr⟩,by dsimp only; omega⟩
        | false =>
          rw [if_neg (by decide)] at hr
          cases q with
          | true =>
            by_cases b92:b = 92
            · rw [if_pos ⟨rfl,b92⟩] at hr
              exact ⟨(true,true,s2,z,l,f,s2,p + 1),by simp [b92],⟨rfl,rfl,by dsimp only; omega,f,rfl,by dsimp only; omega,by simp,hr⟩,by dsimp only; omega⟩
            · rw [if_neg (fun h=>b92 h.2)] at hr
              by_cases b34:b = 34
              · rw [if_pos b34] at hr
                exact ⟨(false,false,s2,z,l,f,s2,p + 1),by subst b34; simp,⟨rfl,rfl,by dsimp only; omega,f,rfl,by dsimp only; omega,by simp,hr⟩,by dsimp only; omega⟩
              · rw [if_neg b34,if_neg (by simp)] at hr
                exact ⟨(true,false,s2,z,l,f,s2,p + 1),by by_cases b44:b = 44 <;> simp [b92,b34,b44],⟨rfl,rfl,by dsimp only; omega,f,rfl,by dsimp only; omega,by simp,hr⟩,by dsimp only; omega⟩
          | false =>
            rw [if_neg (by simp)] at hr
            by_cases b34:b = 34
            · rw [if_pos b34] at hr
              exact ⟨(true,false,s2,z,l,f,s2,p + 1),by simp [b34],⟨rfl,rfl,by dsimp only; omega,f,rfl,by dsimp only; omega,by simp,hr⟩,by dsimp only; omega⟩
            · rw [if_neg b34] at hr
              by_cases b44:b = 44
              · rw [if_pos ⟨b44,rfl⟩,← List.append_assoc] at hr
                obtain ⟨z',hm⟩:=m174_eq (s:=s2) (a:=f) (b:=p) (by omega) hf (by omega) z l (by omega)
                refine ⟨(false,false,s2,z',(l ++ if trimL ((s2.take p).drop f) = [] then [] else [trimL ((s2.take p).drop f)]),((p + 1:Nat):Int),s2,p + 1),?_,⟨rfl,rfl,by dsimp only; omega,p + 1,rfl,by dsimp only; omega,by simp,hr⟩,by dsimp only; omega⟩
                · have d34:decide (b = 34) = false:=by simp [b34]
                  have d44:decide (b = 44) = true:=by simp [b44]
                  simp only [d34,d44,Bool.false_eq_true,if_false,if_true,Bool.not_false,hm,Option.bind_some]
                  split <;> simp
              · rw [if_neg (fun h=>b44 h.1)] at hr
                exact ⟨(false,false,s2,z,l,f,s2,p + 1),by simp [b34,b44],⟨rfl,rfl,by dsimp only; omega,f,rfl,by dsimp only; omega,by simp,hr⟩,by dsimp only; omega⟩
    · right
      have e:p = s2.length:=by omega
      subst e
      rw [rest_end] at hr
      obtain ⟨z',hm⟩:=m174_eq (s:=s2) (a:=f) (b:=s2.length) (Nat.le_refl _) hf (by omega) z l (by omega)
      unfold j151_40
      rw [if_neg (by simp),hm]
      refine ⟨_,rfl,?_⟩
      dsimp only
      rw [← hr,List.take_length]
      split <;> simp
  obtain ⟨⟨z,l⟩,h1,h2⟩:=main
  exact ⟨z,by rw [h1]; simp at h2; rw [h2]⟩
end Go.Ab
end
section
set_option linter.all false
open Go Go.Ab Go.Proofs Go.Proofs.YtoohbnmhjfgclaaGreatDoor
namespace Go.Ab
theorem fl_len (l:List Bs):(fl l).length≤l.length:=by
  unfold fl
  exact Nat.le_trans (List.length_filter_le ..) (by simp)
theorem split_len:∀ (s:Bs) (q m:Bool) (cur:Bs),(split q m cur s).length≤s.length + 1:=by
  intro s
  induction s with
  | nil=>intro q m cur; simp [split]
  | cons c s ih =>
    intro q m cur
    rw [split]
    have:=ih
    repeat' split
    all_goals first | exact Nat.le_trans (ih _ _ _) (by simp) | (rw [List.length_cons]; have:=ih false false []; simp; omega)
theorem m151_eq (s:Bs) (hs:s.length < 2 ^ 30):∃ z,m151 s = some (z,listL s):=m151_big s (by omega) (by
  have:=fl_len (split false false [] s)
  have:=split_len s false false []
  unfold listL; omega)
end Go.Ab
end
section
set_option linter.all false
set_option maxRecDepth 100000
open Go Go.Ab Go.Proofs Go.Proofs.YtoohbnmhjfgclaaGreatDoor
def fsz (l:List (Bs×Bs)):Nat:=(l.map fun f=>f.1.length + f.2.length + 1).sum
theorem fsz_mem {l:List (Bs×Bs)} {f:Bs×Bs} (h:f ∈ l):f.1.length + f.2.length + 1≤fsz l:=by
  induction l with
  | nil=>cases h
  | cons a l ih =>
    simp only [fsz,List.map_cons,List.sum_cons] at ih ⊢
    rcases List.mem_cons.1 h with rfl | h
    · omega
    · have:=ih h; omega
theorem fsz_len (l:List (Bs×Bs)):l.length≤fsz l:=by
  induction l with
  | nil=>exact Nat.zero_le _
  | cons a l ih=>simp only [fsz,List.map_cons,List.sum_cons,List.length_cons] at ih ⊢; omega
def getL (l:List (Bs×Bs)) (n:Bs):List Bs:=l.filterMap fun f=>if lowL f.1 = lowL n then some f.2 else none
theorem m68_eq (a b:Bs) (ha:a.length < 2 ^ 60) (hb:b.length < 2 ^ 60):m68 a b = some (lowL a == lowL b):=by
  simp only [m68,m105_eq a ha,m105_eq b hb,Option.bind_some]
def getF (n:Bs) (g:Bool×List Bs) (x:Bs×Bs):Bool×List Bs:=if lowL x.1 = lowL n then (false,g.2 ++ [x.2]) else g
theorem getF_fold (n:Bs) (l:List (Bs×Bs)):∀ g:Bool×List Bs,(l.foldl (getF n) g).2 = g.2 ++ getL l n:=by
  induction l with
  | nil=>intro g; simp [getL]
  | cons a l ih =>
    intro g
    rw [List.foldl_cons,ih]
    unfold getF getL
    by_cases h:lowL a.1 = lowL n
    · simp [h]
    · simp [h]
theorem m84_eq (b:Bool) (l:List (Bs×Bs)) (n:Bs) (hs:fsz l < 2 ^ 30) (hn:n.length < 2 ^ 30):∃ z,m84 b l n = some (z,getL l n):=by
  have hl:=fsz_len l
  have e:=iter_fold (step:=fun x:(Bs×Bool×List Bs×Bool×List (Bs×Bs)×Int×Int)=>s84_8 x.1 x.2.1 x.2.2.1 x.2.2.2.1 x.2.2.2.2.1 x.2.2.2.2.2.1 x.2.2.2.2.2.2) l
    (fun (g:Bool×List Bs) (i:Nat)=>(n,g.1,g.2,b,l,(l.length:Int),(i:Int))) (getF n) (fun g=>g) (fun g i=>g.2.length≤i)
    (fun g i h hg=>by
      unfold getF
      split
      · rw [List.length_append]; simp only [List.length_singleton]; omega
      · omega)
    (fun g i h hg=>by
      have hm:=fsz_mem (List.getElem_mem h)
      have e1:(l.getD i default) = l[i]:=by simp [List.getD_eq_getElem?_getD,h]
      simp only [s84_8,j84_24,Int.toNat_natCast,e1]
      rw [if_pos (by simpa using h),if_pos ⟨by omega,by omega⟩,m68_eq _ _ (by omega) (by omega),Option.bind_some,w64_eq _ (by omega) (by omega)]
      unfold getF
      by_cases c:lowL l[i].1 = lowL n
      · rw [if_pos (by simpa using c),if_pos (by omega),if_pos c]; rfl
      · rw [if_neg (by simpa using c),if_neg c]; rfl)
    (fun g hg=>by
      simp only [s84_8,j84_25]
      rw [if_neg (by simp)]
      rfl) (true,[]) (by simp)
  have e2:m84 b l n = some (l.foldl (getF n) (true,[])):=e
  have h2:=getF_fold n l (true,[])
  rw [List.nil_append] at h2
  rw [e2,← h2]
  exact ⟨_,rfl⟩
end
section
set_option linter.all false
set_option maxRecDepth 100000
open Go Go.Ab Go.Proofs Go.Proofs.YtoohbnmhjfgclaaGreatDoor
def digB (c:UInt8):Bool:=decide (48≤c.toNat) && decide (c.toNat≤57)
def valF (n:Nat) (c:UInt8):Nat:=10 * n + (c.toNat - 48)
def valN (s:Bs):Nat:=s.foldl valF 0
end
section
set_option linter.all false
set_option maxRecDepth 100000
open Go Go.Ab Go.Proofs Go.Proofs.YtoohbnmhjfgclaaGreatDoor
def decR (s:Bs):Int×Int:=if s ≠ []∧s.all digB = true then (if valN s≤9007199254740991 then ((valN s:Int),0) else (0,3)) else (0,5)
theorem m153_eq (c:Int) (h0:0≤c) (h1:c < 2 ^ 31):m153 c = some (if 48≤c∧c≤57 then c - 48 else -1):=by
  unfold m153 j153_5
  simp only [decide_eq_true_eq]
  by_cases a:48≤c
  · rw [if_pos a]
    by_cases b:c≤57
    · rw [if_pos b,if_pos ⟨a,b⟩]
      have:w32 (c - 48) = c - 48:=by simp [w32,IntKind.wrap,IntKind.min,IntKind.max,IntKind.bits,IntKind.signed]; omega
      rw [this,w64_eq _ (by omega) (by omega)]
    · rw [if_neg b,if_neg (by omega)]
  · rw [if_neg a,if_neg (by simp),if_neg (by omega)]
theorem val_take (s:Bs) (p:Nat) (h:p < s.length):valN (s.take (p + 1)) = 10 * valN (s.take p) + (s[p].toNat - 48):=by
  unfold valN
  rw [List.take_succ_eq_append_getElem h,List.foldl_append]
  rfl
theorem all_take (s:Bs) (p:Nat) (h:p < s.length):(s.take (p + 1)).all digB = ((s.take p).all digB && digB s[p]):=by
  rw [List.take_succ_eq_append_getElem h,List.all_append,List.all_cons,List.all_nil,Bool.and_true]
theorem uc_lt (s:Bs) (p:Nat) (h:p < s.length) (hl:128≤(s.getD p 0).toNat):uc s p < 2 ^ 31:=by
  unfold uc
  rw [Lib.decode_at,S_get!,S_get!,S_get!,S_get!,S_size]
  have a0:=(s.getD p 0).toNat_lt
  have a1:=(s.getD (p + 1) 0).toNat_lt
  have a2:=(s.getD (p + 2) 0).toNat_lt
  have a3:=(s.getD (p + 3) 0).toNat_lt
  generalize (s.getD p 0).toNat = b0 at *
  generalize (s.getD (p + 1) 0).toNat = b1 at *
  generalize (s.getD (p + 2) 0).toNat = b2 at *
  generalize (s.getD (p + 3) 0).toNat = b3 at *
  unfold Lib.decodeN
  repeat' split
  all_goals first | omega | (dsimp only; omega) | simp
theorem m152_eq (s:Bs) (hs:s.length < 2 ^ 30):m152 s 10 = some (decR s):=by
  unfold m152
  by_cases h0:s = []
  · subst h0; rfl
  · rw [if_neg (by simpa using h0)]
    have:=iter_post (f:=fun x:(Int×Int×Bool×Bs×Nat)=>s152_16 x.1 x.2.1 x.2.2.1 x.2.2.2.1 x.2.2.2.2)
      (fun x=>∃ n lo p,x = ((10:Int),n,lo,s,p)∧p≤s.length∧(s.take p).all digB = true∧(lo = true→9007199254740991 < valN (s.take p))∧(lo = false→n = (valN (s.take p):Int)∧valN (s.take p)≤9007199254740991))
      (fun x=>s.length - x.2.2.2.2) (fun r=>r = decR s) ?_ (10,0,false,s,0) ⟨0,false,0,rfl,by omega,rfl,by simp,fun _=>⟨rfl,by simp [valN]⟩⟩
    · obtain ⟨r,h1,h2⟩:=this
      rw [← h2]; exact h1
    rintro x ⟨n,lo,p,rfl,hp,hd,hlo,hn⟩
    by_cases h:p < s.length
    · have e1:s.getD p 0 = s[p]:=by simp [List.getD_eq_getElem?_getD,h]
      have hM:s152_16 10 n lo s p = (m153 (uc s p:Int)).bind fun yr5=>if (decide (yr5 < 0)) = true then some (.inr ((0:Int),(5:Int))) else if lo = true then j152_39 10 n true yr5 true s (p + uw s p) else if ((10:Int) == 0) = false then j152_39 10 n false yr5 (decide ((wu64 ((wu64 (9007199254740991 - (wu64 yr5))).tdiv 10)) < n)) s (p + uw s p) else none:=by
        unfold s152_16; rw [if_pos (by simpa using h)]
      have bad:∀ q:Int,m153 (uc s p:Int) = some q→q < 0→digB s[p] = false→∃ r,s152_16 10 n lo s p = some (.inr r)∧r = decR s:=by
        intro q hq hneg hdig
        refine ⟨(0,5),?_,?_⟩
        · rw [hM,hq,Option.bind_some,if_pos (by simpa using hneg)]
        · unfold decR
          rw [if_neg]
          rintro ⟨_,ha⟩
          have:=List.all_eq_true.1 ha _ (List.getElem_mem h)
          rw [hdig] at this; cases this
      by_cases hlow:s[p].toNat < 128
      · obtain ⟨u1,u2⟩:=rune_lo h (by rw [e1]; exact hlow)
        rw [e1] at u1
        have hm:=m153_eq (uc s p:Int) (by omega) (by rw [u1]; omega)
        by_cases hc:digB s[p] = true
        · left
          have hc':=hc
          simp only [digB,Bool.and_eq_true,decide_eq_true_eq] at hc'
          rw [if_pos (by rw [u1]; omega),u1] at hm
          have hv:=val_take s p h
          have ha:=all_take s p h
          rw [hd,hc] at ha
          dsimp only
          have hpos:¬ (decide (((s[p].toNat:Int) - 48) < 0) = true):=by simp only [decide_eq_true_eq]; omega
          rw [hM,u1,hm,Option.bind_some,if_neg hpos,u2]
          cases lo with
          | true =>
            rw [if_pos rfl]
            refine ⟨_,rfl,⟨n,true,p + 1,rfl,by omega,ha,fun _=>by have:=hlo rfl; omega,by simp⟩,?_⟩
            show s.length - (p + 1) < s.length - p
            omega
          | false =>
            obtain ⟨hn1,hn2⟩:=hn rfl
            rw [if_neg (by simp),if_pos (by decide)]
            have hdec:(wu64 ((wu64 (9007199254740991 - (wu64 ((s[p].toNat:Int) - 48)))).tdiv 10)) = ((9007199254740991 - ((s[p].toNat:Int) - 48)) / 10):=by
              rw [wu64m ((s[p].toNat:Int) - 48),Int.emod_eq_of_lt (by omega) (by omega),wu64m (9007199254740991 - _),Int.emod_eq_of_lt (by omega) (by omega),Int.tdiv_eq_ediv_of_nonneg (by omega),wu64m,Int.emod_eq_of_lt (by omega) (by omega)]
            rw [hdec]
            unfold j152_39
            by_cases big:9007199254740991 < 10 * valN (s.take p) + (s[p].toNat - 48)
            · rw [if_pos (by simp only [decide_eq_true_eq]; omega)]
              refine ⟨_,rfl,⟨n,true,p + 1,rfl,by omega,ha,fun _=>by omega,by simp⟩,?_⟩
              show s.length - (p + 1) < s.length - p
              omega
            · rw [if_neg (by simp only [decide_eq_true_eq]; omega)]
              refine ⟨_,rfl,⟨_,false,p + 1,rfl,by omega,ha,by simp,fun _=>⟨?_,by omega⟩⟩,?_⟩
              · rw [wu64m (n * 10),wu64m ((s[p].toNat:Int) - 48),wu64m,hn1,hv]
                omega
              · show s.length - (p + 1) < s.length - p
                omega
        · right
          rw [if_neg (by
            rw [u1]
            intro q
            apply hc
            simp only [digB,Bool.and_eq_true,decide_eq_true_eq]
            omega)] at hm
          exact bad _ hm (by omega) (by simpa using hc)
      · right
        obtain ⟨u1,u2,u3,_⟩:=rune_hi h (by rw [e1]; omega)
        have hm:=m153_eq (uc s p:Int) (by omega) (by have:=uc_lt s p h (by rw [e1]; omega); omega)
        rw [if_neg (by omega)] at hm
        exact bad _ hm (by omega) (by
          simp only [digB,Bool.and_eq_false_iff,decide_eq_false_iff_not]
          omega)
    · right
      obtain rfl:p = s.length:=by omega
      rw [List.take_length] at hd hlo hn
      dsimp only
      have hR:decR s = (if valN s≤9007199254740991 then ((valN s:Int),0) else (0,3)):=if_pos ⟨h0,hd⟩
      rw [hR]
      unfold s152_16 j152_45
      rw [if_neg (by simp)]
      cases lo with
      | true =>
        have:=hlo rfl
        rw [if_neg (by omega:¬ valN s≤9007199254740991)]
        exact ⟨_,rfl,rfl⟩
      | false =>
        obtain ⟨hn1,hn2⟩:=hn rfl
        rw [if_pos hn2,hn1]
        exact ⟨_,rfl,rfl⟩
end
section
set_option linter.all false
open Go Go.Ab Go.Proofs Go.Proofs.YtoohbnmhjfgclaaGreatDoor
namespace Go.Ab
theorem getsT {α:Type} {o:Option α} (h:o.isSome = true):∃ r,o = some r:=Option.isSome_iff_exists.1 h
theorem m134a_T:∀ c,∃ r,m134a c = some r:=fun c=>getsT (byAll (P:=fun c=>(m134a c).isSome = true) (by decide +kernel) c)
theorem m134_T:∀ c,∃ r,m134 c = some r:=fun c=>getsT (byAll (P:=fun c=>(m134 c).isSome = true) (by decide +kernel) c)
theorem m136b_T (z:Bool) (s:Bs) (hs:s.length < 2 ^ 60):∃ r,m136b z s = some r:=by
  obtain ⟨r,h,_⟩:∃ r,m136b z s = some r∧True:=by
    refine iter_post (fun (x:Bool×List UInt8×Int×Int)=>x.2.1 = s∧x.2.2.1 = s.length∧0≤x.2.2.2∧x.2.2.2≤s.length) (fun (x:Bool×List UInt8×Int×Int)=>((s.length:Int) - x.2.2.2).toNat) _ ?_ _ ⟨rfl,rfl,by dsimp only; omega,by dsimp only; omega⟩
    rintro ⟨z,s',n,i⟩ hI
    dsimp only at hI ⊢
    obtain ⟨rfl,rfl,h0,h1⟩:=hI
    unfold s136b_6
    by_cases c:i < s'.length
    · rw [if_pos (by simpa using c),if_pos ⟨h0,c⟩]
      obtain ⟨r,hr⟩:=m134a_T (s'.getD i.toNat default)
      rw [hr,Option.bind_some]
      cases r with
      | true=>right; exact ⟨i,rfl,trivial⟩
      | false=>left; exact ⟨(z,s',s'.length,i + 1),by simp [w64_eq (i + 1) (by omega) (by omega)],⟨rfl,rfl,by dsimp only; omega,by dsimp only; omega⟩,by dsimp only; omega⟩
    · right
      exact ⟨-1,by rw [if_neg (by simpa using c)]; rfl,trivial⟩
  exact ⟨r,h⟩
theorem m136_T (z:Bool) (s:Bs) (hs:s.length < 2 ^ 60):∃ r,m136 z s = some r:=by
  obtain ⟨r,h,_⟩:∃ r,m136 z s = some r∧True:=by
    refine iter_post (fun (x:Bool×List UInt8×Int×Int)=>x.2.1 = s∧x.2.2.1 = s.length∧0≤x.2.2.2∧x.2.2.2≤s.length) (fun (x:Bool×List UInt8×Int×Int)=>((s.length:Int) - x.2.2.2).toNat) _ ?_ _ ⟨rfl,rfl,by dsimp only; omega,by dsimp only; omega⟩
    rintro ⟨z,s',n,i⟩ hI
    dsimp only at hI ⊢
    obtain ⟨rfl,rfl,h0,h1⟩:=hI
    unfold s136_6
    by_cases c:i < s'.length
    · rw [if_pos (by simpa using c),if_pos ⟨h0,c⟩]
      obtain ⟨r,hr⟩:=m134_T (s'.getD i.toNat default)
      rw [hr,Option.bind_some]
      cases r with
      | true=>right; exact ⟨i,rfl,trivial⟩
      | false=>left; exact ⟨(z,s',s'.length,i + 1),by simp [w64_eq (i + 1) (by omega) (by omega)],⟨rfl,rfl,by dsimp only; omega,by dsimp only; omega⟩,by dsimp only; omega⟩
    · right
      exact ⟨-1,by rw [if_neg (by simpa using c)]; rfl,trivial⟩
  exact ⟨r,h⟩
theorem m75_T (s:Bs) (hs:s.length < 2 ^ 60):∃ r,m75 s = some r:=by
  obtain ⟨r,h⟩:=m136b_T false s hs
  exact ⟨_,by unfold m75 m100a m103b; rw [h]; rfl⟩
theorem m66_T (s:Bs) (hs:s.length < 2 ^ 60):∃ r,m66 s = some r:=by
  obtain ⟨r,h⟩:=m136_T false s hs
  unfold m66 m100 m103
  rw [h]
  by_cases c:(s == []) = true
  · exact ⟨_,by rw [if_pos c]⟩
  · exact ⟨_,by rw [if_neg c]; rfl⟩
theorem m80_T (c:UInt8):∃ r,m80 c = some r:=by
  obtain ⟨r,h⟩:=m66_T [c] (by simp)
  exact ⟨r,by unfold m80; rw [h]; rfl⟩
theorem m81_T (c:UInt8):∃ r,m81 c = some r:=by
  obtain ⟨r,h⟩:=m75_T [c] (by simp)
  exact ⟨r,by unfold m81; rw [h]; rfl⟩
theorem m82_T (s:Bs) (hs:s.length < 2 ^ 60):∃ r,m82 s = some r:=by
  unfold m82 mTrim
  rw [if_pos ⟨by omega,by decide,by decide⟩]
  exact ⟨_,rfl⟩
theorem wu64_nn (x:Int):0≤wu64 x:=by rw [wu64m]; exact Int.emod_nonneg _ (by decide)
theorem m155_T (c:Int):∃ r,m155 c = some r:=by
  unfold m155 j155_6 j155_12 j155_18
  repeat' split
  all_goals exact ⟨_,rfl⟩
theorem uw_pos {s:Bs} {p:Nat} (h:p < s.length):1≤uw s p:=by
  unfold uw
  rw [Lib.decode_at]
  unfold Lib.decodeN
  repeat' split
  all_goals simp
theorem m152a_T (s:Bs):∃ r,m152a s 16 = some r∧0≤r.1:=by
  unfold m152a
  by_cases c0:(s == []) = true
  · exact ⟨_,by rw [if_pos c0],Int.le_refl 0⟩
  rw [if_neg c0]
  refine iter_post (fun (x:Int×Int×Bool×Bs×Nat)=>x.1 = 16∧0≤x.2.1∧x.2.2.2.1 = s) (fun (x:Int×Int×Bool×Bs×Nat)=>s.length - x.2.2.2.2) (fun r:R152a=>0≤r.1) ?_ _ ⟨rfl,Int.le_refl 0,rfl⟩
  rintro ⟨b,n,l,s',p⟩ hI
  dsimp only at hI ⊢
  obtain ⟨rfl,h0,rfl⟩:=hI
  unfold s152a_16
  by_cases c:p < s'.length
  · rw [if_pos (by simpa using c)]
    have hw:=uw_pos c
    obtain ⟨d,hd⟩:=m155_T (uc s' p:Int)
    rw [hd,Option.bind_some]
    by_cases c1:(decide (d < 0)) = true
    · right; exact ⟨_,by rw [if_pos c1],Int.le_refl 0⟩
    rw [if_neg c1]
    left
    unfold j152a_39
    cases l with
    | true =>
      rw [if_pos rfl,if_pos rfl]
      exact ⟨_,rfl,⟨rfl,h0,rfl⟩,by dsimp only; omega⟩
    | false =>
      rw [if_neg (by simp),if_pos (by decide)]
      split
      · exact ⟨_,rfl,⟨rfl,h0,rfl⟩,by dsimp only; omega⟩
      · exact ⟨_,rfl,⟨rfl,wu64_nn _,rfl⟩,by dsimp only; omega⟩
  · right
    rw [if_neg (by simpa using c)]
    unfold j152a_45
    cases l with
    | true=>exact ⟨_,rfl,Int.le_refl 0⟩
    | false=>exact ⟨_,rfl,h0⟩
theorem m123_T (s:Bs):∃ r,m123 s = some r∧0≤r.1:=by
  obtain ⟨r,h,h1⟩:=m152a_T s
  exact ⟨(r.1,r.2),by unfold m123; rw [h]; rfl,h1⟩
theorem m122_T (s:Bs) (hs:s.length < 2 ^ 30):∃ r,m122 s [59] = some r∧r.2.1.length≤s.length:=by
  unfold m122 m154 mIx
  rw [if_pos (by omega)]
  rw [Option.bind_some]
  by_cases c:(decide (0≤Lib.index s [59])) = true
  · have h1:=Lib.index_room s [59] (of_decide_eq_true c)
    have h2:=of_decide_eq_true c
    rw [if_pos c]
    simp only [List.length_cons,List.length_nil] at h1 ⊢
    unfold bnd
    rw [w64_eq _ (by omega) (by omega),if_pos ⟨h2,by omega⟩,Option.bind_some,if_pos ⟨by omega,by omega⟩]
    exact ⟨_,rfl,by simp⟩
  · rw [if_neg c]
    exact ⟨_,rfl,by simp⟩
theorem j88_T (d:Bs) (t:Bool):∃ r,j88_7 d t = some r∧0≤r.1:=by
  unfold j88_7
  cases t with
  | true=>exact ⟨_,rfl,Int.le_refl 0⟩
  | false =>
    obtain ⟨r,h,h1⟩:=m123_T d
    rw [h,if_neg (by simp),Option.bind_some]
    split
    · exact ⟨_,rfl,h1⟩
    · split <;> exact ⟨_,rfl,Int.le_refl 0⟩
theorem m88_T (s:Bs) (hs:s.length < 2 ^ 30):∃ r,m88 s = some r∧0≤r.1:=by
  obtain ⟨r,h,h1⟩:=m122_T s hs
  unfold m88
  rw [h,Option.bind_some]
  split
  · obtain ⟨q,hq⟩:=m75_T r.2.1 (by omega)
    rw [hq,Option.bind_some]
    exact j88_T _ _
  · exact j88_T _ _
theorem m121_T (s:Bs) (hs:s.length < 2 ^ 60):∃ r,m121 s [13] = some r∧(r = true→1≤s.length):=by
  unfold m121
  simp only [List.length_cons,List.length_nil]
  by_cases c:(decide (((0 + 1:Nat):Int)≤(s.length:Int))) = true
  · have:=of_decide_eq_true c
    rw [if_pos c,w64_eq _ (by omega) (by omega)]
    unfold bnd
    rw [if_pos ⟨by omega,by omega⟩,Option.bind_some]
    exact ⟨_,rfl,fun _=>by omega⟩
  · rw [if_neg c]
    exact ⟨_,rfl,by simp⟩
theorem m87_T (s:Bs) (hs:s.length < 2 ^ 60):∃ r,m87 s [13] = some r:=by
  obtain ⟨r,h,_⟩:=m121_T s hs
  exact ⟨r,by unfold m87; rw [h]; rfl⟩
theorem m89_T (s:Bs) (hs:s.length < 2 ^ 60):∃ r,m89 s [13] = some r∧r.length≤s.length:=by
  obtain ⟨r,h,h1⟩:=m121_T s hs
  unfold m89 m124
  rw [h,Option.bind_some]
  cases r with
  | false=>exact ⟨_,rfl,Nat.le_refl _⟩
  | true =>
    have:=h1 rfl
    simp only [List.length_cons,List.length_nil]
    rw [if_pos trivial,w64_eq _ (by omega) (by omega)]
    unfold bnd
    rw [if_pos ⟨by omega,by omega⟩,Option.bind_some]
    exact ⟨_,rfl,by simp⟩
end Go.Ab
end
section
set_option linter.all false
set_option maxRecDepth 100000
open Go Go.Ab Go.Proofs Go.Proofs.YtoohbnmhjfgclaaGreatDoor
namespace Go.Ab
theorem iter_two {σ σ' β:Type} {f:σ→Option (σ ⊕ β)} {g:σ'→Option (σ' ⊕ β)} (φ:σ→σ') (I:σ→Prop) (μ:σ→Nat) (Q E:β→Prop)
    (h:∀ s,I s→(∃ s',f s = some (.inl s')∧I s'∧μ s' < μ s∧g (φ s) = some (.inl (φ s')))∨(∃ r,f s = some (.inr r)∧g (φ s) = some (.inr r)∧Q r)∨(∃ r,iter f s = some r∧E r))
    (s:σ) (hs:I s):(∃ r,iter f s = some r∧iter g (φ s) = some r∧Q r)∨(∃ r,iter f s = some r∧E r):=by
  have key:∀ n s,μ s < n→I s→(∃ r,iter f s = some r∧iter g (φ s) = some r∧Q r)∨(∃ r,iter f s = some r∧E r):=by
    intro n
    induction n with
    | zero=>intro s h0; omega
    | succ n ih =>
      intro s hn hs
      rcases h s hs with ⟨s',h1,h2,h3,h4⟩ | ⟨r,h1,h2,h3⟩ | h1
      · rw [iter_l h1,iter_l h4]; exact ih s' (by omega) h2
      · exact .inl ⟨r,iter_r h1,iter_r h2,h3⟩
      · exact .inr h1
  exact key (μ s + 1) s (by omega) hs
theorem trimL_len (s:Bs):(trimL s).length≤s.length:=by
  unfold trimL Lib.trimS Lib.trimLeftS Lib.trimRightS
  have a:∀ (p:UInt8→Bool) (l:Bs),(l.dropWhile p).length≤l.length:=fun p l=>(List.dropWhile_suffix p).length_le
  refine Nat.le_trans (a _ _) ?_
  rw [List.length_reverse]
  exact Nat.le_trans (a _ _) (by rw [List.length_reverse]; exact Nat.le_refl _)
abbrev T20:=(Bool×List UInt8×Bool×List (Bs×Bs)×Int×Int×Int×Bool×List UInt8×Int×UInt8)
abbrev S20:=((Bool×List UInt8) ⊕ T20 ⊕ T20 ⊕ T20 ⊕ T20 ⊕ T20 ⊕ T20 ⊕ T20 ⊕ T20)
def phT (t:Bs):T20→T20:=fun (z,b,l0,l,f,o,e,hz,hb,a,c)=>(false,b ++ t,l0,l,f,o,e,false,hb ++ t,a,c)
def ph20 (t:Bs):S20→S20
  | .inl x=>.inl (false,x.2 ++ t)
  | .inr (.inl x)=>.inr (.inl (phT t x))
  | .inr (.inr (.inl x))=>.inr (.inr (.inl (phT t x)))
  | .inr (.inr (.inr (.inl x)))=>.inr (.inr (.inr (.inl (phT t x))))
  | .inr (.inr (.inr (.inr (.inl x))))=>.inr (.inr (.inr (.inr (.inl (phT t x)))))
  | .inr (.inr (.inr (.inr (.inr (.inl x)))))=>.inr (.inr (.inr (.inr (.inr (.inl (phT t x))))))
  | .inr (.inr (.inr (.inr (.inr (.inr (.inl x))))))=>.inr (.inr (.inr (.inr (.inr (.inr (.inl (phT t x)))))))
  | .inr (.inr (.inr (.inr (.inr (.inr (.inr (.inl x)))))))=>.inr (.inr (.inr (.inr (.inr (.inr (.inr (.inl (phT t x))))))))
  | .inr (.inr (.inr (.inr (.inr (.inr (.inr (.inr x)))))))=>.inr (.inr (.inr (.inr (.inr (.inr (.inr (.inr (phT t x))))))))
def WB (b:Bs) (l:List (Bs×Bs)):Prop:=∀ x ∈ l,x.1.length≤b.length∧x.2.length≤b.length
def C20 (b b1 b2:Bs) (l:List (Bs×Bs)) (f a:Int):Prop:=b1 = b∧b2 = b∧0≤f∧f≤a∧a≤b.length∧a≤2048∧(l.length:Int)≤a∧WB b l
def I20 (b:Bs):S20→Prop
  | .inl x=>x.2 = b
  | .inr (.inl (z,b1,l0,l,f,o,e,hz,b2,a,c))=>C20 b b1 b2 l f a
  | .inr (.inr (.inl (z,b1,l0,l,f,o,e,hz,b2,a,c)))=>C20 b b1 b2 l f a∧f + 1≤o∧o≤a
  | .inr (.inr (.inr (.inl x)))=>True
  | .inr (.inr (.inr (.inr (.inl (z,b1,l0,l,f,o,e,hz,b2,a,c)))))=>C20 b b1 b2 l f a∧f < a
  | .inr (.inr (.inr (.inr (.inr (.inl x)))))=>True
  | .inr (.inr (.inr (.inr (.inr (.inr (.inl x))))))=>True
  | .inr (.inr (.inr (.inr (.inr (.inr (.inr (.inl (z,b1,l0,l,f,o,e,hz,b2,a,c))))))))=>C20 b b1 b2 l f a∧f + 1≤o∧o + 1≤a
  | .inr (.inr (.inr (.inr (.inr (.inr (.inr (.inr (z,b1,l0,l,f,o,e,hz,b2,a,c))))))))=>C20 b b1 b2 l f a
def mu20 (b:Bs):S20→Nat
  | .inl x=>3 * b.length + 3
  | .inr (.inl (z,b1,l0,l,f,o,e,hz,b2,a,c))=>3 * ((b.length:Int) - a).toNat + 1
  | .inr (.inr (.inl (z,b1,l0,l,f,o,e,hz,b2,a,c)))=>3 * ((b.length:Int) - a).toNat + 1
  | .inr (.inr (.inr (.inl x)))=>0
  | .inr (.inr (.inr (.inr (.inl (z,b1,l0,l,f,o,e,hz,b2,a,c)))))=>3 * ((b.length:Int) - a).toNat + 2
  | .inr (.inr (.inr (.inr (.inr (.inl x)))))=>0
  | .inr (.inr (.inr (.inr (.inr (.inr (.inl x))))))=>0
  | .inr (.inr (.inr (.inr (.inr (.inr (.inr (.inl (z,b1,l0,l,f,o,e,hz,b2,a,c))))))))=>3 * ((b.length:Int) - a).toNat + 1
  | .inr (.inr (.inr (.inr (.inr (.inr (.inr (.inr (z,b1,l0,l,f,o,e,hz,b2,a,c))))))))=>3 * ((b.length:Int) - a).toNat + 1
def Q20 (b:Bs):R47→Prop
  | .inl (z,l,n,e)=>0≤n∧n≤b.length∧l.length≤2048∧WB b l
  | .inr (z,l,n,e)=>0≤n∧n≤b.length∧l.length≤2048∧WB b l
inductive Rel (b t:Bs) (n:Nat):Option (S20 ⊕ R47)→Option (S20 ⊕ R47)→Prop
  | go (s':S20) (h:I20 b s') (hm:mu20 b s' < n) {y} (hy:y = some (.inl (ph20 t s'))):Rel b t n (some (.inl s')) y
  | ans (r:R47) (h:Q20 b r):Rel b t n (some (.inr r)) (some (.inr r))
  | more (x:T20) (h:x.2.2.2.2.2.2.1 = 8) {y}:Rel b t n (some (.inl (.inr (.inr (.inr (.inr (.inr (.inl x)))))))) y
theorem rel_if {b t:Bs} {n:Nat} {c:Prop} [Decidable c] {A A' B B':Option (S20 ⊕ R47)} (h1:c→Rel b t n A A') (h2:¬ c→Rel b t n B B'):Rel b t n (if c then A else B) (if c then A' else B'):=by
  by_cases h:c
  · rw [if_pos h,if_pos h]; exact h1 h
  · rw [if_neg h,if_neg h]; exact h2 h
theorem rel_bind2 {b t:Bs} {n:Nat} {α:Type} {o o':Option α} {k k':α→Option (S20 ⊕ R47)} {r:α} (ho:o = some r) (ho':o' = some r) (h:Rel b t n (k r) (k' r)):Rel b t n (o.bind k) (o'.bind k'):=by
  rw [ho,ho']; exact h
theorem Rel.gg {b t:Bs} {n:Nat} {s':S20} (h:I20 b s') (hm:mu20 b s' < n):Rel b t n (some (.inl s')) (some (.inl (ph20 t s'))):=.go s' h hm rfl
theorem rel_neg {b t:Bs} {n:Nat} {c c':Prop} [Decidable c] [Decidable c'] {A A' B B':Option (S20 ⊕ R47)} (h1:¬ c) (h2:¬ c') (h:Rel b t n B B'):Rel b t n (if c then A else B) (if c' then A' else B'):=by
  rw [if_neg h1,if_neg h2]; exact h
theorem rel_pos {b t:Bs} {n:Nat} {c c':Prop} [Decidable c] [Decidable c'] {A A' B B':Option (S20 ⊕ R47)} (h1:c) (h2:c') (h:Rel b t n A A'):Rel b t n (if c then A else B) (if c' then A' else B'):=by
  rw [if_pos h1,if_pos h2]; exact h
theorem n80:¬ ((8:Int) == 0) = true:=by decide
theorem n210:¬ ((21:Int) == 0) = true:=by decide
theorem p00:((0:Int) == 0) = true:=by decide
theorem rel_bind {b t:Bs} {n:Nat} {α:Type} {o:Option α} {k k':α→Option (S20 ⊕ R47)} {r:α} (ho:o = some r) (h:Rel b t n (k r) (k' r)):Rel b t n (o.bind k) (o.bind k'):=by
  rw [ho]; exact h
theorem getD_app {b t:Bs} {i:Nat} (h:i < b.length):(b ++ t).getD i default = b.getD i default:=by
  rw [List.getD_eq_getElem?_getD,List.getD_eq_getElem?_getD,List.getElem?_append_left h]
theorem m79_A {z:Bool} {b:Bs} {a:Int} {c:UInt8} (e:a = b.length):m79 z b a c = some (8,z,b,a,c):=by
  unfold m79
  rw [if_pos (by simpa using e)]
theorem m79_B {z:Bool} {b:Bs} {a:Int} {c:UInt8} (e:a ≠ b.length) (e2:a = 2048):m79 z b a c = some (21,z,b,a,c):=by
  unfold m79
  rw [if_neg (by simpa using e),if_pos (by simpa using e2)]
theorem m79_C {z:Bool} {b:Bs} {a:Int} {c:UInt8} (e:a ≠ b.length) (e2:a ≠ 2048) (h0:0≤a) (h1:a < b.length) (hb:b.length < 2 ^ 61):m79 z b a c = some (0,z,b,a + 1,b.getD a.toNat default):=by
  unfold m79
  rw [if_neg (by simpa using e),if_neg (by simpa using e2),if_pos ⟨h0,h1⟩,w64_eq _ (by omega) (by omega)]
theorem rel_next {b t:Bs} {n:Nat} {z:Bool} {a:Int} {c:UInt8} {k k':R79→Option (S20 ⊕ R47)} (hb:(b ++ t).length < 2 ^ 60) (h0:0≤a) (h1:a≤b.length) (h2:a≤2048)
    (hA:∃ x:T20,k (8,z,b,a,c) = some (.inl (.inr (.inr (.inr (.inr (.inr (.inl x)))))))∧x.2.2.2.2.2.2.1 = 8)
    (hB:Rel b t n (k (21,z,b,a,c)) (k' (21,false,b ++ t,a,c)))
    (hC:a < b.length→a < 2048→Rel b t n (k (0,z,b,a + 1,b.getD a.toNat default)) (k' (0,false,b ++ t,a + 1,b.getD a.toNat default))) :
    Rel b t n ((m79 z b a c).bind k) ((m79 false (b ++ t) a c).bind k'):=by
  have hbt:(b ++ t).length < 2 ^ 61:=by omega
  have hb1:b.length < 2 ^ 61:=by rw [List.length_append] at hb; omega
  by_cases e:a = b.length
  · obtain ⟨x,hx,he⟩:=hA
    rw [m79_A e,Option.bind_some,hx]
    exact .more x he
  · by_cases e2:a = 2048
    · rw [m79_B e e2,m79_B (by simp only [List.length_append]; omega) e2]; exact hB
    · rw [m79_C e e2 h0 (by omega) hb1,m79_C (by simp only [List.length_append]; omega) e2 h0 (by simp only [List.length_append]; omega) hbt,getD_app (by omega)]
      exact hC (by omega) (by omega)
theorem rel_name {b t:Bs} {n:Nat} (hb:(b ++ t).length < 2 ^ 60) {z:Bool} {l0:Bool} {l:List (Bs×Bs)} {f o e a:Int} {hz:Bool} {c:UInt8} (h:C20 b b b l f a) (hf:f < a) (hn:3 * ((b.length:Int) - a).toNat + 1 < n) :
    Rel b t n (j47_34v1 z b l0 l f o e hz b a c) (j47_34v1 false (b ++ t) l0 l f o e false (b ++ t) a c):=by
  obtain ⟨-,-,h0,h1,h2,h3,h4,h8⟩:=h
  have key:∀ q:Bool,(q = true→f + 1 < a)→Rel b t n (j47_40v1 z b l0 l f o e q hz b a c) (j47_40v1 false (b ++ t) l0 l f o e q false (b ++ t) a c):=by
    intro q hq
    unfold j47_40v1
    refine rel_if (fun g=>?_) (fun _=>?_)
    · have:=hq g
      exact Rel.gg ⟨⟨rfl,rfl,h0,h1,h2,h3,h4,h8⟩,by omega,by omega⟩ hn
    · obtain ⟨r,hr⟩:=m80_T c
      refine rel_bind hr (rel_if (fun _=>?_) (fun _=>Rel.gg trivial (by simp only [mu20]; omega)))
      unfold j47_49v1
      refine rel_next hb (by omega) h2 h3 ⟨_,if_neg n80,rfl⟩ (rel_neg n210 n210 (Rel.gg trivial (by simp only [mu20]; omega))) (fun h5 h6=>?_)
      refine rel_pos p00 p00 ?_
      dsimp only
      unfold j47_57v1
      have k2:∀ q:Bool,Rel b t n (j47_60v1 z b l0 l f o 0 q hz b (a + 1) (b.getD a.toNat default)) (j47_60v1 false (b ++ t) l0 l f o 0 q false (b ++ t) (a + 1) (b.getD a.toNat default)):=by
        intro q
        unfold j47_60v1 j47_63v1
        exact rel_if (fun _=>Rel.gg trivial (by simp only [mu20]; omega)) (fun _=>Rel.gg ⟨⟨rfl,rfl,h0,by omega,by omega,by omega,by omega,h8⟩,by omega⟩ (by simp only [mu20]; omega))
      exact rel_if (fun _=>k2 _) (fun _=>k2 _)
  unfold j47_34v1
  refine rel_if (fun _=>key _ (fun g=>?_)) (fun _=>key _ (fun g=>by cases g))
  have:=of_decide_eq_true g
  rw [w64_eq _ (by omega) (by omega)] at this
  exact this
theorem j47_34_v (z:Bool) (b:Bs) (f o e:Int) (hz:Bool) (b2:Bs) (a:Int) (c:UInt8):j47_34 z b f o e hz b2 a c = j47_34v1 z b true [] f o e hz b2 a c:=rfl
theorem rel_end {b t:Bs} (hb:(b ++ t).length < 2 ^ 60) {z l0:Bool} {l:List (Bs×Bs)} {f o e:Int} {hz:Bool} {a:Int} {c:UInt8} (h:C20 b b b l f a) :
    Rel b t (3 * ((b.length:Int) - a).toNat + 1) (s47_2x1 z b l0 l f o e hz b a c) (s47_2x1 false (b ++ t) l0 l f o e false (b ++ t) a c):=by
  obtain ⟨-,-,h0,h1,h2,h3,h4,h8⟩:=h
  unfold s47_2x1
  refine rel_next hb (by omega) h2 h3 ⟨_,if_neg n80,rfl⟩ (rel_neg n210 n210 (Rel.gg trivial (by simp only [mu20]; omega))) (fun h5 h6=>?_)
  refine rel_pos p00 p00 ?_
  dsimp only
  exact rel_if (fun _=>.ans _ ⟨by omega,by omega,by omega,h8⟩) (fun _=>.ans _ ⟨by omega,by omega,by simp,fun x hx=>by cases hx⟩)
theorem rel_value {b t:Bs} (hb:(b ++ t).length < 2 ^ 60) {z l0:Bool} {l:List (Bs×Bs)} {f o e:Int} {hz:Bool} {a:Int} {c:UInt8} (h:C20 b b b l f a) (ho:f + 1≤o) (ho2:o≤a) :
    Rel b t (3 * ((b.length:Int) - a).toNat + 1) (s47_2x2 z b l0 l f o e hz b a c) (s47_2x2 false (b ++ t) l0 l f o e false (b ++ t) a c):=by
  obtain ⟨-,-,h0,h1,h2,h3,h4,h8⟩:=h
  unfold s47_2x2
  refine rel_next hb (by omega) h2 h3 ⟨_,if_neg n80,rfl⟩ (rel_neg n210 n210 (Rel.gg trivial (by simp only [mu20]; omega))) (fun h5 h6=>?_)
  refine rel_pos p00 p00 ?_
  dsimp only
  refine rel_if (fun _=>Rel.gg ⟨⟨rfl,rfl,h0,by omega,by omega,by omega,by omega,h8⟩,ho,by omega⟩ (by simp only [mu20]; omega)) (fun _=>rel_if (fun _=>Rel.gg trivial (by simp only [mu20]; omega)) (fun _=>?_))
  obtain ⟨r,hr⟩:=m81_T (b.getD a.toNat default)
  exact rel_bind hr (rel_if (fun _=>Rel.gg ⟨⟨rfl,rfl,h0,by omega,by omega,by omega,by omega,h8⟩,ho,by omega⟩ (by simp only [mu20]; omega)) (fun _=>Rel.gg trivial (by simp only [mu20]; omega)))
theorem rel_nm {b t:Bs} (hb:(b ++ t).length < 2 ^ 60) {z l0:Bool} {l:List (Bs×Bs)} {f o e:Int} {hz:Bool} {a:Int} {c:UInt8} (h:C20 b b b l f a) (hf:f < a) :
    Rel b t (3 * ((b.length:Int) - a).toNat + 2) (s47_2x4 z b l0 l f o e hz b a c) (s47_2x4 false (b ++ t) l0 l f o e false (b ++ t) a c) :=
  rel_name hb h hf (by omega)
theorem bnd_of {i:Int} {n:Nat} (h0:0≤i) (h1:i≤n):bnd i n = some i.toNat:=if_pos ⟨h0,h1⟩
theorem rel_ended {b t:Bs} (hb:(b ++ t).length < 2 ^ 60) {z l0:Bool} {l:List (Bs×Bs)} {f o e:Int} {hz:Bool} {a:Int} {c:UInt8} (h:C20 b b b l f a) (ho:f + 1≤o) (ho2:o + 1≤a) :
    Rel b t (3 * ((b.length:Int) - a).toNat + 1) (s47_2x7 z b l0 l f o e hz b a c) (s47_2x7 false (b ++ t) l0 l f o e false (b ++ t) a c):=by
  obtain ⟨-,-,h0,h1,h2,h3,h4,h8⟩:=h
  unfold s47_2x7
  have hl:(b ++ t).length = b.length + t.length:=List.length_append
  rw [w64_eq (o - 1) (by omega) (by omega),w64_eq (a - 1) (by omega) (by omega)]
  refine rel_bind2 (bnd_of (by omega) (by omega)) (bnd_of (by omega) (by omega)) ?_
  refine rel_bind2 (bnd_of (by omega) (by omega)) (bnd_of (by omega) (by omega)) ?_
  refine rel_bind2 (bnd_of (by omega) (by omega)) (bnd_of (by omega) (by omega)) ?_
  refine rel_bind2 (bnd_of (by omega) (by omega)) (bnd_of (by omega) (by omega)) ?_
  rw [List.take_append_of_le_length (by omega),List.take_append_of_le_length (by omega)]
  obtain ⟨r,hr⟩:=m82_T ((b.take (a - 1).toNat).drop o.toNat) (by simp; omega)
  have hW:WB b (l ++ [((b.take (o - 1).toNat).drop f.toNat,r)]):=by
    intro x hx
    rcases List.mem_append.1 hx with hx | hx
    · exact h8 x hx
    · obtain rfl:=List.mem_singleton.1 hx
      have e:=m82_eq ((b.take (a - 1).toNat).drop o.toNat) (by simp; omega)
      rw [hr] at e
      obtain rfl:=Option.some.inj e
      have:=trimL_len ((b.take (a - 1).toNat).drop o.toNat)
      simp only [List.length_drop,List.length_take] at this ⊢
      exact ⟨by omega,by omega⟩
  refine rel_bind hr ?_
  rw [if_pos (by omega),if_pos (by omega)]
  refine rel_next hb (by omega) h2 h3 ⟨_,if_neg n80,rfl⟩ (rel_neg n210 n210 (Rel.gg trivial (by simp only [mu20]; omega))) (fun h5 h6=>?_)
  refine rel_pos p00 p00 ?_
  dsimp only
  exact rel_if (fun _=>Rel.gg ⟨rfl,rfl,by omega,by omega,by omega,by omega,by simp; omega,hW⟩ (by simp only [mu20]; omega)) (fun _=>Rel.gg trivial (by simp only [mu20]; omega))
theorem rel_line {b t:Bs} (hb:(b ++ t).length < 2 ^ 60) {z l0:Bool} {l:List (Bs×Bs)} {f o e:Int} {hz:Bool} {a:Int} {c:UInt8} (h:C20 b b b l f a) :
    Rel b t (3 * ((b.length:Int) - a).toNat + 1) (s47_2x8 z b l0 l f o e hz b a c) (s47_2x8 false (b ++ t) l0 l f o e false (b ++ t) a c):=by
  obtain ⟨-,-,h0,h1,h2,h3,h4,h8⟩:=h
  unfold s47_2x8
  refine rel_next hb (by omega) h2 h3 ⟨_,if_neg n80,rfl⟩ (rel_neg n210 n210 (Rel.gg trivial (by simp only [mu20]; omega))) (fun h5 h6=>?_)
  refine rel_pos p00 p00 ?_
  dsimp only
  unfold j47_23v1
  exact rel_if (fun _=>Rel.gg ⟨rfl,rfl,by omega,by omega,by omega,by omega,by omega,h8⟩ (by simp only [mu20]; omega)) (fun _=>rel_if (fun _=>Rel.gg trivial (by simp only [mu20]; omega)) (fun _=>rel_name hb ⟨rfl,rfl,by omega,by omega,by omega,by omega,by omega,h8⟩ (by omega) (by omega)))
theorem rel_start {b t:Bs} (hb:(b ++ t).length < 2 ^ 60) {z:Bool}:Rel b t (3 * b.length + 3) (s47_2x0 z b) (s47_2x0 false (b ++ t)):=by
  unfold s47_2x0
  refine rel_next hb (by omega) (by omega) (by omega) ⟨_,if_neg n80,rfl⟩ (rel_neg n210 n210 (Rel.gg trivial (by simp only [mu20]; omega))) (fun h5 h6=>?_)
  refine rel_pos p00 p00 ?_
  dsimp only
  unfold j47_23
  refine rel_if (fun _=>Rel.gg ⟨rfl,rfl,by omega,by omega,by omega,by omega,by simp,fun x hx=>by cases hx⟩ (by simp only [mu20]; omega)) (fun _=>?_)
  rw [j47_34_v,j47_34_v]
  exact rel_name hb ⟨rfl,rfl,by omega,by omega,by omega,by omega,by simp,fun x hx=>by cases hx⟩ (by omega) (by omega)
theorem m47_two (z:Bool) (b t:Bs) (hb:(b ++ t).length < 2 ^ 60):(∃ r,m47 z b = some r∧m47 false (b ++ t) = some r∧Q20 b r)∨m47 z b = some (.inr (true,[],0,8)):=by
  have key:=iter_two (f:=s47_2) (g:=s47_2) (ph20 t) (fun s=>I20 b s) (mu20 b) (Q20 b) (fun r=>r = .inr (true,[],0,8)) ?_ (.inl (z,b)) rfl
  · rcases key with h | ⟨r,h,rfl⟩
    · exact .inl h
    · exact .inr h
  intro s hI
  have fin:∀ {x y},Rel b t (mu20 b s) x y→s47_2 s = x→s47_2 (ph20 t s) = y→(∃ s',s47_2 s = some (.inl s')∧I20 b s'∧mu20 b s' < mu20 b s∧s47_2 (ph20 t s) = some (.inl (ph20 t s')))∨(∃ r,s47_2 s = some (.inr r)∧s47_2 (ph20 t s) = some (.inr r)∧Q20 b r)∨(∃ r,iter s47_2 s = some r∧r = .inr (true,[],0,8)):=by
    intro x y h e1 e2
    cases h with
    | go s' h hm hy=>exact .inl ⟨s',e1,h,hm,e2.trans hy⟩
    | ans r h=>exact .inr (.inl ⟨r,e1,e2,h⟩)
    | more x h =>
      refine .inr (.inr ⟨_,?_,rfl⟩)
      rw [iter_l e1]
      obtain ⟨z,b1,l0,l,f,o,e,hz,b2,a,c⟩:=x
      obtain rfl:e = 8:=h
      exact iter_r rfl
  rcases s with ⟨z,b1⟩ | ⟨z,b1,l0,l,f,o,e,hz,b2,a,c⟩ | ⟨z,b1,l0,l,f,o,e,hz,b2,a,c⟩ | ⟨z,b1,l0,l,f,o,e,hz,b2,a,c⟩ | ⟨z,b1,l0,l,f,o,e,hz,b2,a,c⟩ | ⟨z,b1,l0,l,f,o,e,hz,b2,a,c⟩ | ⟨z,b1,l0,l,f,o,e,hz,b2,a,c⟩ | ⟨z,b1,l0,l,f,o,e,hz,b2,a,c⟩ | ⟨z,b1,l0,l,f,o,e,hz,b2,a,c⟩
  · obtain rfl:b1 = b:=hI
    exact fin (rel_start hb) rfl rfl
  · obtain ⟨rfl,rfl,h⟩:=hI
    exact fin (rel_end (z:=z) (l0:=l0) (o:=o) (e:=e) (hz:=hz) (c:=c) hb ⟨rfl,rfl,h⟩) rfl rfl
  · obtain ⟨⟨rfl,rfl,h⟩,h1,h2⟩:=hI
    exact fin (rel_value (z:=z) (l0:=l0) (o:=o) (e:=e) (hz:=hz) (c:=c) hb ⟨rfl,rfl,h⟩ h1 h2) rfl rfl
  · exact fin (.ans (.inr (true,[],0,21)) ⟨Int.le_refl 0,Int.natCast_nonneg _,by simp,fun x hx=>by cases hx⟩) rfl rfl
  · obtain ⟨⟨rfl,rfl,h⟩,h1⟩:=hI
    exact fin (rel_nm (z:=z) (l0:=l0) (o:=o) (e:=e) (hz:=hz) (c:=c) hb ⟨rfl,rfl,h⟩ h1) rfl rfl
  · exact fin (.ans (.inr (true,[],0,e)) ⟨Int.le_refl 0,Int.natCast_nonneg _,by simp,fun x hx=>by cases hx⟩) rfl rfl
  · exact fin (.ans (.inr (true,[],0,20)) ⟨Int.le_refl 0,Int.natCast_nonneg _,by simp,fun x hx=>by cases hx⟩) rfl rfl
  · obtain ⟨⟨rfl,rfl,h⟩,h1,h2⟩:=hI
    exact fin (rel_ended (z:=z) (l0:=l0) (o:=o) (e:=e) (hz:=hz) (c:=c) hb ⟨rfl,rfl,h⟩ h1 h2) rfl rfl
  · obtain ⟨rfl,rfl,h⟩:=hI
    exact fin (rel_line (z:=z) (l0:=l0) (o:=o) (e:=e) (hz:=hz) (c:=c) hb ⟨rfl,rfl,h⟩) rfl rfl
end Go.Ab
end
section
set_option linter.all false
set_option maxRecDepth 100000
open Go Go.Ab Go.Proofs Go.Proofs.YtoohbnmhjfgclaaGreatDoor
namespace Go.Ab
theorem idx_app:∀ (l r:Bs) (c:UInt8),0≤Lib.indexByte l c→Lib.indexByte (l ++ r) c = Lib.indexByte l c
  | [],r,c,h=>by simp [Lib.indexByte] at h
  | b :: l,r,c,h=>by
    rw [List.cons_append]
    unfold Lib.indexByte at h ⊢
    by_cases e:(b == c) = true
    · rw [if_pos e,if_pos e]
    · rw [if_neg e] at h ⊢
      rw [if_neg e]
      by_cases e2:(Lib.indexByte l c == -1) = true
      · rw [if_pos e2] at h; exact absurd h (by decide)
      · have:=Lib.indexByte_ge l c
        have e3:Lib.indexByte l c ≠ -1:=by simpa using e2
        rw [idx_app l r c (by omega)]
theorem idx_lt {l:Bs} {c:UInt8} (h:0≤Lib.indexByte l c):Lib.indexByte l c < l.length:=by
  obtain ⟨o,ho⟩:∃ o:Nat,Lib.indexByte l c = o:=⟨(Lib.indexByte l c).toNat,by omega⟩
  have h1:=(Lib.indexByte_some ho).1
  have:o < l.length:=by
    by_cases g:o < l.length
    · exact g
    · rw [List.getElem?_eq_none (by omega)] at h1; cases h1
  omega
def eol (r:Bs):Int:=Lib.indexByte (r.take (min r.length 64)) 10
theorem min2_len (n:Nat):bnd (min2 (n:Int) 64) n = some (min n 64):=by
  unfold min2 bnd
  split
  · rw [if_pos ⟨by decide,by omega⟩,show (64:Int).toNat = 64 from rfl,Nat.min_eq_right (by omega)]
  · rw [if_pos ⟨by omega,by omega⟩,Int.toNat_natCast,Nat.min_eq_left (by omega)]
theorem eol_app {r t:Bs} (h:0≤eol r):eol (r ++ t) = eol r:=by
  have:(r ++ t).take (min (r ++ t).length 64) = r.take (min r.length 64) ++ ((r ++ t).take (min (r ++ t).length 64)).drop (min r.length 64):=by
    conv=>lhs; rw [← List.take_append_drop (min r.length 64) ((r ++ t).take (min (r ++ t).length 64))]
    rw [List.take_take,List.length_append,Nat.min_eq_left (by omega),List.take_append_of_le_length (by omega)]
  unfold eol at h ⊢
  rw [this,idx_app _ _ _ h]
theorem eol_long {r t:Bs} (h:64≤r.length):eol (r ++ t) = eol r:=by
  unfold eol
  rw [List.length_append,Nat.min_eq_right (by omega),Nat.min_eq_right (by omega),List.take_append_of_le_length (by omega)]
theorem eol_lt {r:Bs} (h:0≤eol r):eol r < r.length∧eol r < 64:=by
  have:=idx_lt h
  rw [List.length_take] at this
  unfold eol
  omega
theorem cpy_len {l src:Bs} {off n:Nat} (h:off + min src.length n≤l.length):(cpy l off n src).length = l.length:=by
  unfold cpy
  simp only [List.length_append,List.length_take,List.length_drop]
  omega
theorem cpy_app {l src t:Bs} {off n:Nat} (h:n≤src.length):cpy l off n (src ++ t) = cpy l off n src:=by
  unfold cpy
  rw [List.take_append_of_le_length h,List.length_append,Nat.min_eq_right h,Nat.min_eq_right (by omega)]
abbrev A8:=(Bool×List UInt8×Bool×List UInt8×Int×Int)
abbrev B8:=(Bool×List UInt8×Nat×Nat×Int×Int×List UInt8)
abbrev S8:=((Bool×List UInt8) ⊕ A8 ⊕ A8 ⊕ B8 ⊕ B8 ⊕ B8)
def phA (t:Bs):A8→A8:=fun (z,b,y,l,a,e)=>(false,b ++ t,y,l,a,e)
def phB (t:Bs):B8→B8:=fun (z,b,n,m,a,e,h)=>(false,b ++ t,n,m,a,e,h)
def ph8 (t:Bs):S8→S8
  | .inl x=>.inl (false,x.2 ++ t)
  | .inr (.inl x)=>.inr (.inl (phA t x))
  | .inr (.inr (.inl x))=>.inr (.inr (.inl (phA t x)))
  | .inr (.inr (.inr (.inl x)))=>.inr (.inr (.inr (.inl (phB t x))))
  | .inr (.inr (.inr (.inr (.inl x))))=>.inr (.inr (.inr (.inr (.inl (phB t x)))))
  | .inr (.inr (.inr (.inr (.inr x))))=>.inr (.inr (.inr (.inr (.inr (phB t x)))))
def CB (b b1:Bs) (n:Nat) (a:Int) (h:Bs):Prop:=b1 = b∧n = h.length∧(n:Int)≤a∧n≤4096∧a≤b.length
def I8 (b:Bs):S8→Prop
  | .inl x=>x.2 = b
  | .inr (.inl x)=>True
  | .inr (.inr (.inl (z,b1,y,l,a,e)))=>b1 = b∧l = []∧0≤a∧a≤b.length
  | .inr (.inr (.inr (.inl x)))=>True
  | .inr (.inr (.inr (.inr (.inl (z,b1,n,m,a,e,h)))))=>CB b b1 n a h
  | .inr (.inr (.inr (.inr (.inr (z,b1,n,m,a,e,h)))))=>CB b b1 n a h
def mu8 (b:Bs):S8→Nat
  | .inl x=>b.length + 3
  | .inr (.inl x)=>0
  | .inr (.inr (.inl x))=>1
  | .inr (.inr (.inr (.inl x)))=>0
  | .inr (.inr (.inr (.inr (.inl (z,b1,n,m,a,e,h)))))=>((b.length:Int) - a).toNat + 2
  | .inr (.inr (.inr (.inr (.inr x))))=>1
def Q8 (b:Bs):R53→Prop:=fun (z,x,n,e)=>0≤n∧n≤b.length∧x.length≤4096∧(x.length:Int)≤n∧(e = 0∨(n = 0∧x = []))
inductive Rel8 (b t:Bs) (n:Nat):Option (S8 ⊕ R53)→Option (S8 ⊕ R53)→Prop
  | go (s':S8) (h:I8 b s') (hm:mu8 b s' < n) {y} (hy:y = some (.inl (ph8 t s'))):Rel8 b t n (some (.inl s')) y
  | ans (r:R53) (h:Q8 b r):Rel8 b t n (some (.inr r)) (some (.inr r))
  | moreA (x:A8) (h:x.2.2.2.2.2 = 8) {y}:Rel8 b t n (some (.inl (.inr (.inl x)))) y
  | moreB (x:B8) (h:x.2.2.2.2.2.1 = 8) {y}:Rel8 b t n (some (.inl (.inr (.inr (.inr (.inl x)))))) y
section
variable {b t:Bs} {n:Nat}
theorem r8_if {c:Prop} [Decidable c] {A A' B B':Option (S8 ⊕ R53)} (h1:c→Rel8 b t n A A') (h2:¬ c→Rel8 b t n B B'):Rel8 b t n (if c then A else B) (if c then A' else B'):=by
  by_cases h:c
  · rw [if_pos h,if_pos h]; exact h1 h
  · rw [if_neg h,if_neg h]; exact h2 h
theorem r8_bind {α:Type} {o:Option α} {k k':α→Option (S8 ⊕ R53)} {r:α} (ho:o = some r) (h:Rel8 b t n (k r) (k' r)):Rel8 b t n (o.bind k) (o.bind k'):=by
  rw [ho]; exact h
theorem r8_bind2 {α:Type} {o o':Option α} {k k':α→Option (S8 ⊕ R53)} {r r':α} (ho:o = some r) (ho':o' = some r') (h:Rel8 b t n (k r) (k' r')):Rel8 b t n (o.bind k) (o'.bind k'):=by
  rw [ho,ho']; exact h
theorem Rel8.gg {s':S8} (h:I8 b s') (hm:mu8 b s' < n):Rel8 b t n (some (.inl s')) (some (.inl (ph8 t s'))):=.go s' h hm rfl
theorem r8_neg {c c':Prop} [Decidable c] [Decidable c'] {A A' B B':Option (S8 ⊕ R53)} (h1:¬ c) (h2:¬ c') (h:Rel8 b t n B B'):Rel8 b t n (if c then A else B) (if c' then A' else B'):=by
  rw [if_neg h1,if_neg h2]; exact h
theorem r8_pos {c c':Prop} [Decidable c] [Decidable c'] {A A' B B':Option (S8 ⊕ R53)} (h1:c) (h2:c') (h:Rel8 b t n A A'):Rel8 b t n (if c then A else B) (if c' then A' else B'):=by
  rw [if_pos h1,if_pos h2]; exact h
theorem r8_more {c c':Prop} [Decidable c] [Decidable c'] {A A' B B':Option (S8 ⊕ R53)} (h1:∀ y,Rel8 b t n A y) (hc:¬ c→¬ c') (h:¬ c→Rel8 b t n B B'):Rel8 b t n (if c then A else B) (if c' then A' else B'):=by
  by_cases g:c
  · rw [if_pos g]; exact h1 _
  · rw [if_neg g,if_neg (hc g)]; exact h g
end
theorem d_neg {p:Prop} [Decidable p] (h:¬ p):¬ (decide p) = true:=by simpa using h
theorem d_pos {p:Prop} [Decidable p] (h:p):(decide p) = true:=by simpa using h
section
variable {b t:Bs}
theorem r8_77 {n:Nat} (hb:(b ++ t).length < 2 ^ 60) {z:Bool} {m1 m2:Nat} {a k e:Int} {h:Bs} (hc:CB b b m1 a h) (hk:0 < k) (hk2:k + m1≤4096) (hl:a + k + 2≤b.length) (hn:((b.length:Int) - (a + k + 2)).toNat + 2 < n) :
    Rel8 b t n (j53_77v1 z b m1 m2 a k e h) (j53_77v1 false (b ++ t) m1 m2 a k e h):=by
  obtain ⟨-,h0,h1,h2,h3⟩:=hc
  have hl2:(b ++ t).length = b.length + t.length:=List.length_append
  unfold j53_77v1
  rw [w64_eq k (by omega) (by omega),w64_eq ((m1:Int) + k) (by omega) (by omega),w64_eq (a + k) (by omega) (by omega),w64_eq (a + k + 1) (by omega) (by omega)]
  have eN:((m1:Int) + k).toNat = m1 + k.toNat:=by omega
  have e1:(h.take m1).length = m1:=by rw [List.length_take]; omega
  rw [eN,e1]
  refine r8_pos ⟨by omega,by omega⟩ ⟨by omega,by omega⟩ (r8_pos (by omega) (by omega) ?_)
  refine r8_bind2 (r:=m1) (r':=m1) (by rw [Nat.min_eq_left (by omega)]; exact bnd_ok (by omega)) (by rw [Nat.min_eq_left (by omega)]; exact bnd_ok (by omega)) ?_
  refine r8_bind2 (bnd_of (by omega) (by omega)) (bnd_of (by omega) (by omega)) ?_
  have c1:(cpy (List.replicate (m1 + k.toNat) (0:UInt8)) 0 (m1 + k.toNat) (h.take m1)).length = m1 + k.toNat:=by
    rw [cpy_len (by rw [List.length_replicate,e1]; omega),List.length_replicate]
  refine r8_pos (by rw [c1]; omega) (by rw [c1]; omega) ?_
  refine r8_pos ⟨by omega,by omega⟩ ⟨by omega,by omega⟩ ?_
  have ed:(b ++ t).drop a.toNat = b.drop a.toNat ++ t:=List.drop_append_of_le_length (by omega)
  rw [getD_app (by omega),getD_app (by omega),ed,cpy_app (by rw [List.length_drop]; omega)]
  have key:∀ q:Bool,Rel8 b t n (j53_86v1 z b (m1 + k.toNat) (m1 + k.toNat) (a + k) e q (cpy (cpy (List.replicate (m1 + k.toNat) (0:UInt8)) 0 (m1 + k.toNat) (h.take m1)) m1 (m1 + k.toNat - m1) (b.drop a.toNat)))
      (j53_86v1 false (b ++ t) (m1 + k.toNat) (m1 + k.toNat) (a + k) e q (cpy (cpy (List.replicate (m1 + k.toNat) (0:UInt8)) 0 (m1 + k.toNat) (h.take m1)) m1 (m1 + k.toNat - m1) (b.drop a.toNat))):=by
    intro q
    unfold j53_86v1 j53_91v1
    refine r8_if (fun _=>Rel8.gg trivial (by simp only [mu8]; omega)) (fun _=>?_)
    rw [w64_eq _ (by omega) (by omega)]
    refine Rel8.gg ⟨rfl,?_,by omega,by omega,by omega⟩ (by simp only [mu8]; omega)
    rw [cpy_len (by rw [c1,List.length_drop]; omega),c1]
  refine r8_if (fun _=>?_) (fun _=>key _)
  exact r8_pos ⟨by omega,by omega⟩ ⟨by omega,by omega⟩ (key _)
theorem r8_77n {n:Nat} (hb:(b ++ t).length < 2 ^ 60) {z y:Bool} {a k e:Int} (ha:0≤a) (hk:0 < k) (hk2:k≤4096) (hl:a + k + 2≤b.length) (hn:((b.length:Int) - (a + k + 2)).toNat + 2 < n) :
    Rel8 b t n (j53_77 z b y [] a k e) (j53_77 false (b ++ t) y [] a k e):=by
  have:=r8_77 (n:=n) hb (z:=z) (m1:=0) (m2:=0) (a:=a) (k:=k) (e:=e) (h:=[]) ⟨rfl,rfl,by omega,by omega,by omega⟩ hk (by omega) hl hn
  unfold j53_77v1 at this
  unfold j53_77
  simp only [List.take_nil,List.length_nil,Nat.le_refl,if_true] at this ⊢
  exact this
theorem r8_55 {n:Nat} (hb:(b ++ t).length < 2 ^ 60) {z:Bool} {m1 m2:Nat} {a k e:Int} {h:Bs} (hc:CB b b m1 a h) (hk:0≤k) (hn:((b.length:Int) - a).toNat + 2 < n) :
    Rel8 b t n (j53_55v1 z b m1 m2 a k e h) (j53_55v1 false (b ++ t) m1 m2 a k e h):=by
  have hc':=hc
  obtain ⟨-,h0,h1,h2,h3⟩:=hc
  have hl2:(b ++ t).length = b.length + t.length:=List.length_append
  unfold j53_55v1
  refine r8_if (fun _=>Rel8.gg trivial (by simp only [mu8]; omega)) (fun g=>?_)
  rw [w64_eq _ (by omega) (by omega),wu64m,Int.emod_eq_of_lt (by omega) (by omega)] at g
  have g':k≤4096 - m1:=by have:¬ (4096 - (m1:Int) < k):=fun x=>g (d_pos x); omega
  unfold j53_63v1
  refine r8_if (fun _=>Rel8.gg hc' (by simp only [mu8]; omega)) (fun g2=>?_)
  have g3:k ≠ 0:=fun x=>g2 (by simpa using x)
  unfold j53_69v1
  have e3:w64 (w64 k + 2) = k + 2:=by rw [w64_eq k (by omega) (by omega),w64_eq _ (by omega) (by omega)]
  refine r8_more (fun y=>.moreB _ rfl) (fun q=>?_) (fun q=>?_)
  · refine d_neg fun x=>q (d_pos ?_)
    rw [w64_eq _ (by omega) (by omega)] at x ⊢
    omega
  · have q2:¬ (w64 ((b.length:Int) - a) < w64 (w64 k + 2)):=fun x=>q (d_pos x)
    rw [e3,w64_eq _ (by omega) (by omega)] at q2
    exact r8_77 hb hc' (by omega) (by omega) (by omega) (by omega)
theorem r8_55n {n:Nat} (hb:(b ++ t).length < 2 ^ 60) {z y:Bool} {a k e:Int} (ha:0≤a) (ha2:a≤b.length) (hk:0≤k) (hn:((b.length:Int) - a).toNat + 2 < n) :
    Rel8 b t n (j53_55 z b y [] a k e) (j53_55 false (b ++ t) y [] a k e):=by
  have hl2:(b ++ t).length = b.length + t.length:=List.length_append
  unfold j53_55
  refine r8_if (fun _=>Rel8.gg trivial (by simp only [mu8]; omega)) (fun g=>?_)
  rw [w64_eq _ (by simp) (by simp),wu64m,Int.emod_eq_of_lt (by simp) (by simp)] at g
  have g':k≤4096:=by have:¬ (4096 - (([]:Bs).length:Int) < k):=fun x=>g (d_pos x); simp only [List.length_nil] at this; omega
  unfold j53_63
  refine r8_if (fun _=>Rel8.gg ⟨rfl,rfl,ha,ha2⟩ (by simp only [mu8]; omega)) (fun g2=>?_)
  have g3:k ≠ 0:=fun x=>g2 (by simpa using x)
  unfold j53_69
  have e3:w64 (w64 k + 2) = k + 2:=by rw [w64_eq k (by omega) (by omega),w64_eq _ (by omega) (by omega)]
  refine r8_more (fun y=>.moreA _ rfl) (fun q=>?_) (fun q=>?_)
  · refine d_neg fun x=>q (d_pos ?_)
    rw [w64_eq _ (by omega) (by omega)] at x ⊢
    omega
  · have q2:¬ (w64 ((b.length:Int) - a) < w64 (w64 k + 2)):=fun x=>q (d_pos x)
    rw [e3,w64_eq _ (by omega) (by omega)] at q2
    exact r8_77n hb (by omega) (by omega) (by omega) (by omega) (by omega)
theorem r8_47 {n:Nat} (hb:(b ++ t).length < 2 ^ 60) {z:Bool} {m1 m2:Nat} {a:Int} {s h:Bs} (hs:s.length < 64) (hc:CB b b m1 a h) (hn:((b.length:Int) - a).toNat + 2 < n) :
    Rel8 b t n (j53_47v1 z b m1 m2 a s h) (j53_47v1 false (b ++ t) m1 m2 a s h):=by
  unfold j53_47v1
  obtain ⟨r,hr,hr2⟩:=m89_T s (by omega)
  obtain ⟨q,hq,hq2⟩:=m88_T r (by omega)
  exact r8_bind hr (r8_bind hq (r8_if (fun _=>r8_55 hb hc hq2 hn) (fun _=>Rel8.gg trivial (by simp only [mu8]; omega))))
theorem r8_47n {n:Nat} (hb:(b ++ t).length < 2 ^ 60) {z y:Bool} {a:Int} {s:Bs} (hs:s.length < 64) (ha:0≤a) (ha2:a≤b.length) (hn:((b.length:Int) - a).toNat + 2 < n) :
    Rel8 b t n (j53_47 z b y [] a s) (j53_47 false (b ++ t) y [] a s):=by
  unfold j53_47
  obtain ⟨r,hr,hr2⟩:=m89_T s (by omega)
  obtain ⟨q,hq,hq2⟩:=m88_T r (by omega)
  exact r8_bind hr (r8_bind hq (r8_if (fun _=>r8_55n hb ha ha2 hq2 hn) (fun _=>Rel8.gg trivial (by simp only [mu8]; omega))))
theorem r8_28 {n:Nat} (hb:(b ++ t).length < 2 ^ 60) {z y:Bool} {m1 m2:Nat} {a o:Int} {r h:Bs} (hr:r = b.drop a.toNat) (ho:o < r.length) (ho2:o < 64) (ho3 : -1≤o) (hc:CB b b m1 a h) (hn:((b.length:Int) - a).toNat + 1 < n) :
    Rel8 b t n (j53_28v1 z b m1 m2 a y r o h) (j53_28v1 false (b ++ t) m1 m2 a false (r ++ t) o h):=by
  obtain ⟨-,h0,h1,h2,h3⟩:=hc
  have hl2:(b ++ t).length = b.length + t.length:=List.length_append
  have hl3:(r ++ t).length = r.length + t.length:=List.length_append
  have hl4:r.length = b.length - a.toNat:=by rw [hr,List.length_drop]
  unfold j53_28v1
  refine r8_more (fun y=>.moreB _ rfl) id (fun g=>?_)
  have g':0≤o:=by have:¬ o < 0:=fun x=>g (d_pos x); omega
  unfold j53_36v1
  refine r8_bind2 (bnd_of g' (by omega)) (bnd_of g' (by omega)) ?_
  rw [List.take_append_of_le_length (by omega)]
  obtain ⟨q,hq⟩:=m87_T (r.take o.toNat) (by rw [List.length_take]; omega)
  refine r8_bind hq ?_
  rw [w64_eq (o + 1) (by omega) (by omega),w64_eq (a + (o + 1)) (by omega) (by omega)]
  exact r8_if (fun _=>r8_47 hb (by rw [List.length_take]; omega) ⟨rfl,h0,by omega,h2,by omega⟩ (by omega)) (fun _=>Rel8.gg trivial (by simp only [mu8]; omega))
theorem r8_28n {n:Nat} (hb:(b ++ t).length < 2 ^ 60) {z y y':Bool} {o:Int} (ho:o < b.length) (ho2:o < 64) (ho3 : -1≤o) (hn:b.length + 2 < n) :
    Rel8 b t n (j53_28 z b y [] 0 y' b o) (j53_28 false (b ++ t) y [] 0 false (b ++ t) o):=by
  have hl2:(b ++ t).length = b.length + t.length:=List.length_append
  unfold j53_28
  refine r8_more (fun y=>.moreA _ rfl) id (fun g=>?_)
  have g':0≤o:=by have:¬ o < 0:=fun x=>g (d_pos x); omega
  unfold j53_36
  refine r8_bind2 (bnd_of g' (by omega)) (bnd_of g' (by omega)) ?_
  rw [List.take_append_of_le_length (by omega)]
  obtain ⟨q,hq⟩:=m87_T (b.take o.toNat) (by rw [List.length_take]; omega)
  refine r8_bind hq ?_
  rw [w64_eq (o + 1) (by omega) (by omega),w64_eq (0 + (o + 1)) (by omega) (by omega)]
  exact r8_if (fun _=>r8_47n hb (by rw [List.length_take]; omega) (by omega) (by omega) (by omega)) (fun _=>Rel8.gg trivial (by simp only [mu8]; omega))
theorem r8_sizes (hb:(b ++ t).length < 2 ^ 60) {z:Bool} {m1 m2:Nat} {a e:Int} {h:Bs} (hc:CB b b m1 a h) :
    Rel8 b t (((b.length:Int) - a).toNat + 2) (s53_2x4 z b m1 m2 a e h) (s53_2x4 false (b ++ t) m1 m2 a e h):=by
  have hc':=hc
  obtain ⟨-,h0,h1,h2,h3⟩:=hc
  have hl2:(b ++ t).length = b.length + t.length:=List.length_append
  unfold s53_2x4
  refine r8_bind2 (bnd_of (by omega) (by omega)) (bnd_of (by omega) (by omega)) ?_
  have ed:(b ++ t).drop a.toNat = b.drop a.toNat ++ t:=List.drop_append_of_le_length (by omega)
  rw [ed]
  generalize hr:b.drop a.toNat = r
  have hl3:(r ++ t).length = r.length + t.length:=List.length_append
  refine r8_bind2 (min2_len _) (min2_len _) ?_
  refine r8_bind2 (r:=eol r) (r':=eol (r ++ t)) rfl rfl ?_
  have hge : -1≤eol r:=Lib.indexByte_ge _ _
  by_cases g:eol r < 0
  · by_cases g2:64≤r.length
    · rw [eol_long g2]
      refine r8_pos (d_pos g) (d_pos g) ?_
      unfold j53_23v1
      exact r8_pos (d_pos (by omega)) (d_pos (by omega)) (Rel8.gg trivial (by simp only [mu8]; omega))
    · rw [if_pos (d_pos g)]
      unfold j53_23v1 j53_28v1
      rw [if_neg (d_neg (by omega)),if_pos (d_pos g)]
      exact .moreB _ rfl
  · have hlt:=eol_lt (r:=r) (by omega)
    rw [eol_app (by omega)]
    refine r8_neg (d_neg g) (d_neg g) ?_
    unfold j53_23v1
    refine r8_neg (by decide) (by decide) ?_
    exact r8_28 hb hr.symm hlt.1 hlt.2 hge hc' (by omega)
theorem r8_start (hb:(b ++ t).length < 2 ^ 60) {z:Bool}:Rel8 b t (b.length + 3) (s53_2x0 z b) (s53_2x0 false (b ++ t)):=by
  have hl2:(b ++ t).length = b.length + t.length:=List.length_append
  unfold s53_2x0
  refine r8_bind2 (min2_len _) (min2_len _) ?_
  refine r8_bind2 (r:=eol b) (r':=eol (b ++ t)) rfl rfl ?_
  have hge : -1≤eol b:=Lib.indexByte_ge _ _
  by_cases g:eol b < 0
  · by_cases g2:64≤b.length
    · rw [eol_long g2]
      refine r8_pos (d_pos g) (d_pos g) ?_
      unfold j53_23
      exact r8_pos (d_pos (by omega)) (d_pos (by omega)) (Rel8.gg trivial (by simp only [mu8]; omega))
    · rw [if_pos (d_pos g)]
      unfold j53_23 j53_28
      rw [if_neg (d_neg (by omega)),if_pos (d_pos g)]
      exact .moreA _ rfl
  · have hlt:=eol_lt (r:=b) (by omega)
    rw [eol_app (by omega)]
    refine r8_neg (d_neg g) (d_neg g) ?_
    unfold j53_23
    refine r8_neg (by decide) (by decide) ?_
    exact r8_28n hb hlt.1 hlt.2 hge (by omega)
theorem r8_trA (hb:(b ++ t).length < 2 ^ 60) {z y:Bool} {a e:Int} (ha:0≤a) (ha2:a≤b.length) :
    Rel8 b t 1 (s53_2x2 z b y [] a e) (s53_2x2 false (b ++ t) y [] a e):=by
  have hl2:(b ++ t).length = b.length + t.length:=List.length_append
  unfold s53_2x2
  refine r8_bind2 (bnd_of (by omega) (by omega)) (bnd_of (by omega) (by omega)) ?_
  have ed:(b ++ t).drop a.toNat = b.drop a.toNat ++ t:=List.drop_append_of_le_length (by omega)
  rw [ed]
  rcases m47_two z (b.drop a.toNat) t (by rw [List.length_append,List.length_drop]; omega) with ⟨r,h1,h2,h3⟩ | h1
  · refine r8_bind2 h1 h2 ?_
    unfold j53_108
    rcases r with ⟨z1,l1,n1,e1⟩ | ⟨z1,l1,n1,e1⟩
    · obtain ⟨h4,h5⟩:=h3
      rw [List.length_drop] at h5
      refine r8_if (fun _=>?_) (fun _=>Rel8.gg trivial (by simp only [mu8]; omega))
      dsimp only
      rw [w64_eq _ (by omega) (by omega)]
      exact .ans _ ⟨by omega,by omega,by simp,by simp; omega,.inl rfl⟩
    · obtain ⟨h4,h5⟩:=h3
      rw [List.length_drop] at h5
      refine r8_if (fun _=>?_) (fun _=>Rel8.gg trivial (by simp only [mu8]; omega))
      dsimp only
      rw [w64_eq _ (by omega) (by omega)]
      exact .ans _ ⟨by omega,by omega,by simp,by simp; omega,.inl rfl⟩
  · rw [h1,Option.bind_some]
    exact .moreA _ rfl
theorem r8_trB (hb:(b ++ t).length < 2 ^ 60) {z:Bool} {m1 m2:Nat} {a e:Int} {h:Bs} (hc:CB b b m1 a h) :
    Rel8 b t 1 (s53_2x5 z b m1 m2 a e h) (s53_2x5 false (b ++ t) m1 m2 a e h):=by
  obtain ⟨-,h0,h1',h2',h3'⟩:=hc
  have hl2:(b ++ t).length = b.length + t.length:=List.length_append
  unfold s53_2x5
  refine r8_bind2 (bnd_of (by omega) (by omega)) (bnd_of (by omega) (by omega)) ?_
  have ed:(b ++ t).drop a.toNat = b.drop a.toNat ++ t:=List.drop_append_of_le_length (by omega)
  rw [ed]
  have el:(h.take m1).length = m1:=by rw [List.length_take]; omega
  rcases m47_two z (b.drop a.toNat) t (by rw [List.length_append,List.length_drop]; omega) with ⟨r,h1,h2,h3⟩ | h1
  · refine r8_bind2 h1 h2 ?_
    unfold j53_108v1
    rcases r with ⟨z1,l1,n1,e1⟩ | ⟨z1,l1,n1,e1⟩
    · obtain ⟨h4,h5⟩:=h3
      rw [List.length_drop] at h5
      refine r8_if (fun _=>?_) (fun _=>Rel8.gg trivial (by simp only [mu8]; omega))
      refine r8_pos (by omega) (by omega) ?_
      dsimp only
      rw [w64_eq _ (by omega) (by omega)]
      exact .ans _ ⟨by omega,by omega,by omega,by omega,.inl rfl⟩
    · obtain ⟨h4,h5⟩:=h3
      rw [List.length_drop] at h5
      refine r8_if (fun _=>?_) (fun _=>Rel8.gg trivial (by simp only [mu8]; omega))
      refine r8_pos (by omega) (by omega) ?_
      dsimp only
      rw [w64_eq _ (by omega) (by omega)]
      exact .ans _ ⟨by omega,by omega,by omega,by omega,.inl rfl⟩
  · rw [h1,Option.bind_some]
    exact .moreB _ rfl
end
theorem m53_two (z:Bool) (b t:Bs) (hb:(b ++ t).length < 2 ^ 60):(∃ r,m53 z b = some r∧m53 false (b ++ t) = some r∧Q8 b r)∨m53 z b = some (true,[],0,8):=by
  have key:=iter_two (f:=s53_2) (g:=s53_2) (ph8 t) (fun s=>I8 b s) (mu8 b) (Q8 b) (fun r=>r = (true,[],0,8)) ?_ (.inl (z,b)) rfl
  · rcases key with h | ⟨r,h,rfl⟩
    · exact .inl h
    · exact .inr h
  intro s hI
  have fin:∀ {x y},Rel8 b t (mu8 b s) x y→s53_2 s = x→s53_2 (ph8 t s) = y→(∃ s',s53_2 s = some (.inl s')∧I8 b s'∧mu8 b s' < mu8 b s∧s53_2 (ph8 t s) = some (.inl (ph8 t s')))∨(∃ r,s53_2 s = some (.inr r)∧s53_2 (ph8 t s) = some (.inr r)∧Q8 b r)∨(∃ r,iter s53_2 s = some r∧r = (true,[],0,8)):=by
    intro x y h e1 e2
    cases h with
    | go s' h hm hy=>exact .inl ⟨s',e1,h,hm,e2.trans hy⟩
    | ans r h=>exact .inr (.inl ⟨r,e1,e2,h⟩)
    | moreA x h =>
      refine .inr (.inr ⟨_,?_,rfl⟩)
      rw [iter_l e1]
      obtain ⟨z,b1,y1,l,a,e⟩:=x
      obtain rfl:e = 8:=h
      exact iter_r rfl
    | moreB x h =>
      refine .inr (.inr ⟨_,?_,rfl⟩)
      rw [iter_l e1]
      obtain ⟨z,b1,n,m,a,e,h1⟩:=x
      obtain rfl:e = 8:=h
      exact iter_r rfl
  rcases s with ⟨z,b1⟩ | ⟨z,b1,y,l,a,e⟩ | ⟨z,b1,y,l,a,e⟩ | ⟨z,b1,n,m,a,e,h⟩ | ⟨z,b1,n,m,a,e,h⟩ | ⟨z,b1,n,m,a,e,h⟩
  · obtain rfl:b1 = b:=hI
    exact fin (r8_start hb) rfl rfl
  · exact fin (.ans (true,[],0,e) ⟨by omega,by omega,by simp,by simp,.inr ⟨rfl,rfl⟩⟩) rfl rfl
  · obtain ⟨rfl,rfl,h1,h2⟩:=hI
    exact fin (r8_trA (z:=z) (e:=e) (y:=y) hb h1 h2) rfl rfl
  · exact fin (.ans (true,[],0,e) ⟨by omega,by omega,by simp,by simp,.inr ⟨rfl,rfl⟩⟩) rfl rfl
  · obtain ⟨rfl,hI⟩:=hI
    exact fin (r8_sizes (z:=z) (e:=e) (m2:=m) hb ⟨rfl,hI⟩) rfl rfl
  · obtain ⟨rfl,hI⟩:=hI
    exact fin (r8_trB (z:=z) (e:=e) (m2:=m) hb ⟨rfl,hI⟩) rfl rfl
end Go.Ab
end
section
set_option linter.all false
open Go Go.Ab Go.Proofs Go.Proofs.YtoohbnmhjfgclaaGreatDoor
namespace Go.Ab
def wt (l:List Bs):Nat:=(l.map fun x=>x.length + 1).sum
theorem wt_cons (x:Bs) (l:List Bs):wt (x :: l) = x.length + 1 + wt l:=by simp [wt]
theorem wt_split:∀ (s:Bs) (q m:Bool) (cur:Bs),wt (split q m cur s) = cur.length + s.length + 1:=by
  intro s
  induction s with
  | nil=>intro q m cur; simp [split,wt]
  | cons c s ih =>
    intro q m cur
    rw [split]
    split
    · rw [ih]; simp; omega
    · split
      · rw [ih]; simp; omega
      · split
        · rw [ih]; simp; omega
        · split
          · rw [wt_cons,ih]; simp; omega
          · rw [ih]; simp; omega
theorem wt_fl (l:List Bs):wt (fl l)≤wt l:=by
  induction l with
  | nil=>exact Nat.le_refl _
  | cons x l ih =>
    rw [fl_cons,wt_cons]
    have:=trimL_len x
    split
    · rw [List.nil_append]; omega
    · rw [List.cons_append,List.nil_append,wt_cons]; omega
theorem wt_listL (s:Bs):wt (listL s)≤s.length + 1:=by
  have:=wt_fl (split false false [] s)
  rw [wt_split] at this
  unfold listL; simp at this; omega
theorem wt_mem {l:List Bs} {x:Bs} (h:x ∈ l):x.length + 1≤wt l:=by
  induction l with
  | nil=>cases h
  | cons a l ih =>
    rw [wt_cons]
    rcases List.mem_cons.1 h with rfl | h
    · omega
    · have:=ih h; omega
theorem listL_mem {s x:Bs} (h:x ∈ listL s):x.length≤s.length:=by
  have:=wt_mem h; have:=wt_listL s; omega
theorem m104_T:∀ c,∃ r,m104 c = some r:=fun c=>getsT (byAll (P:=fun c=>(m104 c).isSome = true) (by decide +kernel) c)
theorem m136a_T (z:Bool) (s:Bs) (hs:s.length < 2 ^ 60):∃ r,m136a z s = some r:=by
  obtain ⟨r,h,_⟩:∃ r,m136a z s = some r∧True:=by
    refine iter_post (fun (x:Bool×List UInt8×Int×Int)=>x.2.1 = s∧x.2.2.1 = s.length∧0≤x.2.2.2∧x.2.2.2≤s.length) (fun (x:Bool×List UInt8×Int×Int)=>((s.length:Int) - x.2.2.2).toNat) _ ?_ _ ⟨rfl,rfl,by dsimp only; omega,by dsimp only; omega⟩
    rintro ⟨z,s',n,i⟩ hI
    dsimp only at hI ⊢
    obtain ⟨rfl,rfl,h0,h1⟩:=hI
    unfold s136a_6
    by_cases c:i < s'.length
    · rw [if_pos (by simpa using c),if_pos ⟨h0,c⟩]
      obtain ⟨r,hr⟩:=m104_T (s'.getD i.toNat default)
      rw [hr,Option.bind_some]
      cases r with
      | true=>right; exact ⟨i,rfl,trivial⟩
      | false=>left; exact ⟨(z,s',s'.length,i + 1),by simp [w64_eq (i + 1) (by omega) (by omega)],⟨rfl,rfl,by dsimp only; omega,by dsimp only; omega⟩,by dsimp only; omega⟩
    · right
      exact ⟨-1,by rw [if_neg (by simpa using c)]; rfl,trivial⟩
  exact ⟨r,h⟩
theorem m67_T (s:Bs) (hs:s.length < 2 ^ 60):∃ r,m67 s = some r:=by
  obtain ⟨r,h⟩:=m136a_T false s hs
  unfold m67 m103a
  rw [h]
  split <;> exact ⟨_,rfl⟩
theorem nDigits_le:∀ (k u:Nat),u < 10 ^ (k + 1)→Lib.nDigits u≤k + 1
  | 0,u,h=>by rw [Lib.nDigits_small (by simpa using h)]; exact Nat.le_refl _
  | k + 1,u,h=>by
    by_cases c:u < 10
    · rw [Lib.nDigits_small c]; omega
    · rw [Lib.nDigits_big c]
      have:=nDigits_le k (u / 10) (by rw [Nat.pow_succ] at h; omega)
      omega
theorem itoa_len (n:Int) (h0 : -9223372036854775808≤n) (h1:n≤9223372036854775807):(Lib.itoa n).length≤20:=by
  unfold Lib.itoa
  split
  · rw [List.length_cons,Lib.decDigits_length]
    have:=nDigits_le 18 n.natAbs (by omega)
    omega
  · rw [Lib.decDigits_length]
    have:=nDigits_le 18 n.toNat (by omega)
    omega
theorem mItoa_T (n:Int) (h0 : -9223372036854775808≤n) (h1:n≤9223372036854775807):∃ r,mItoa n = some r∧r.length≤20:=⟨_,if_pos ⟨h0,h1⟩,itoa_len n h0 h1⟩
theorem m65_T (n:Int) (h0 : -9223372036854775808≤n) (h1:n≤9223372036854775807):∃ r,m65 n = some r∧r.length≤27:=by
  obtain ⟨r,h,hl⟩:=mItoa_T n h0 h1
  unfold m65
  rw [h,Option.bind_some,if_pos (by omega)]
  exact ⟨_,rfl,by simp; omega⟩
theorem splitK_len (sep:Bs) (n:Nat):∀ (k:Nat) (s:Bs),∀ x ∈ Lib.splitK sep 0 k s,x.length≤s.length
  | 0,s,x,h=>by
    obtain rfl:=List.mem_singleton.1 h; exact Nat.le_refl _
  | k + 1,s,x,h=>by
    unfold Lib.splitK at h
    split at h
    · obtain rfl:=List.mem_singleton.1 h; exact Nat.le_refl _
    · rcases List.mem_cons.1 h with rfl | h
      · rw [List.length_take]; omega
      · have:=splitK_len sep n k _ x h
        rw [List.length_drop] at this; omega
theorem getD_mem {l:List Bs} {i:Nat} (h:i < l.length):l.getD i default ∈ l:=by
  rw [List.getD_eq_getElem?_getD,List.getElem?_eq_getElem h]; exact List.getElem_mem h
theorem m49_T (s:Bs) (h:s ≠ []) (hs:s.length < 2 ^ 60):∃ r:Int,m49 s = some r∧-48≤r∧r < 256:=by
  have h1:0 < s.length:=by cases s; exact absurd rfl h; simp
  unfold m49
  rw [w64_eq _ (by omega) (by omega),if_pos ⟨by omega,by omega⟩]
  have:=(s.getD ((s.length:Int) - 1).toNat 0).toNat_lt
  rw [w64_eq _ (by omega) (by omega)]
  exact ⟨_,rfl,by omega,by omega⟩
theorem m40_T (a b:Bs) (n:Int) (ha:a.length < 2 ^ 60) (hb:b.length < 2 ^ 60) (h0 : -9223372036854775808≤n) (h1:n≤9223372036854775807):∃ r,m40 a b n = some r:=by
  obtain ⟨v,hv,hl⟩:=m65_T n h0 h1
  obtain ⟨r1,e1⟩:=m66_T a ha
  obtain ⟨r2,e2⟩:=m67_T b hb
  unfold m40 j40_7
  rw [if_pos (by omega),if_pos (by simp; omega),if_pos (by simp; omega),hv,Option.bind_some,if_pos (by simp; omega),e1,Option.bind_some]
  split
  · split
    · exact ⟨_,rfl⟩
    · rw [e2,Option.bind_some]
      split
      · split
        · exact ⟨_,rfl⟩
        · split
          · exact ⟨_,rfl⟩
          · split <;> exact ⟨_,rfl⟩
      · exact ⟨_,rfl⟩
  · exact ⟨_,rfl⟩
theorem m43_T (n k:Int) (s:Bs) (h0 : -9223372036854775808≤n) (h1:n≤9223372036854775807) (h2 : -9223372036854775808≤k) (h3:k≤9223372036854775807) (hs:s.length < 2 ^ 60):∃ r,m43 n k s = some r:=by
  obtain ⟨v,hv,hl⟩:=m65_T n h0 h1
  obtain ⟨u,hu,hm⟩:=mItoa_T k h2 h3
  obtain ⟨r1,e1⟩:=m75_T s hs
  unfold m43 j43_7
  rw [hv,Option.bind_some,if_pos (by omega),hu,Option.bind_some,if_pos (by simp; omega),if_pos (by simp; omega),if_pos (by simp; omega)]
  simp only [e1,Option.bind_some]
  repeat' split
  all_goals exact ⟨_,rfl⟩
theorem mAtoi_T (s:Bs) (hs:s.length < 2 ^ 40):∃ r,mAtoi s = some r∧-9223372036854775808≤r.1∧r.1≤9223372036854775807:=by
  unfold mAtoi
  rw [if_pos (by omega)]
  cases h:Lib.atoiAll s with
  | ok v =>
    refine ⟨_,rfl,?_⟩
    dsimp only
    unfold Lib.atoiAll at h
    cases s with
    | nil=>cases h
    | cons c r =>
      dsimp only at h
      split at h
      · cases h
      · cases h
      · rename_i u _
        split at h
        · cases h
        · split at h
          · cases h
          · cases h
            split <;> omega
  | «syntax» => exact ⟨_,rfl,by decide,by decide⟩
  | range=>exact ⟨_,rfl,by unfold Lib.atoiSat; split <;> decide,by unfold Lib.atoiSat; split <;> decide⟩
theorem m25_T (s:Bs) (hs:s.length < 2 ^ 30):∃ r,m25 s = some r:=by
  unfold m25 mSplit
  rw [if_pos ⟨by omega,by decide⟩,Option.bind_some]
  have hm:∀ x ∈ Lib.split s [32],x.length≤s.length:=splitK_len [32] 0 _ s
  generalize Lib.split s [32] = l at *
  by_cases h3:l.length = 3
  · have q:∀ i,i < 3→(l.getD i default).length < 2 ^ 60:=fun i hi=>by have:=hm _ (getD_mem (l:=l) (i:=i) (by omega)); omega
    rw [if_pos (by simp [h3]),if_pos (by omega)]
    unfold j25_7 j25_19
    by_cases e:l.getD 2 default = []
    · rw [if_pos (by simpa using e)]; exact ⟨_,rfl⟩
    · rw [if_neg (by simpa using e),if_pos (by omega)]
      obtain ⟨m,hm,m0,m1⟩:=m49_T _ e (q 2 (by omega))
      obtain ⟨r,hr⟩:=m40_T (l.getD 0 default) (l.getD 1 default) m (q 0 (by omega)) (q 1 (by omega)) (by omega) (by omega)
      rw [hm,Option.bind_some,if_pos (by omega),if_pos (by omega),hr,Option.bind_some]
      split
      · split
        · exact ⟨_,rfl⟩
        · rw [if_pos (by omega),if_pos (by omega)]; exact ⟨_,rfl⟩
      · exact ⟨_,rfl⟩
  · rw [if_neg (by simp; omega)]
    unfold j25_7
    rw [if_pos rfl]; exact ⟨_,rfl⟩
theorem m24_T (s:Bs) (hs:s.length < 2 ^ 30):∃ r,m24 s = some r:=by
  obtain ⟨r,h⟩:=m25_T s hs
  exact ⟨_,by unfold m24; rw [h]; rfl⟩
theorem m35_T (s:Bs) (hs:s.length < 2 ^ 30):∃ r,m35 s = some r:=by
  unfold m35 mSplitN
  rw [if_pos ⟨by omega,by decide,by decide,by decide⟩,Option.bind_some]
  have hm:∀ x ∈ Lib.splitN s [32] (3:Int).toNat,x.length≤s.length:=splitK_len [32] 0 _ s
  generalize Lib.splitN s [32] (3:Int).toNat = l at *
  by_cases h3:l.length = 3
  · have q:∀ i,i < 3→(l.getD i default).length < 2 ^ 40:=fun i hi=>by have:=hm _ (getD_mem (l:=l) (i:=i) (by omega)); omega
    rw [if_pos (by simp [h3]),if_pos (by omega)]
    unfold j35_7 j35_21
    by_cases e:l.getD 0 default = []
    · rw [if_pos (by simpa using e)]; exact ⟨_,rfl⟩
    · rw [if_neg (by simpa using e),if_pos (by omega)]
      obtain ⟨m,hm,m0,m1⟩:=m49_T _ e (by have:=q 0 (by omega); omega)
      obtain ⟨k,hk,k0,k1⟩:=mAtoi_T (l.getD 1 default) (q 1 (by omega))
      obtain ⟨r,hr⟩:=m43_T m k.1 (l.getD 2 default) (by omega) (by omega) k0 k1 (by have:=q 2 (by omega); omega)
      rw [hm,Option.bind_some,if_pos (by omega),hk,Option.bind_some]
      have hi:(2:Int) < (l.length:Int):=by omega
      simp only [if_pos hi,hr,Option.bind_some]
      repeat' split
      all_goals exact ⟨_,rfl⟩
  · rw [if_neg (by simp; omega)]
    unfold j35_7
    rw [if_pos rfl]; exact ⟨_,rfl⟩
theorem m34_T (s:Bs) (hs:s.length < 2 ^ 30):∃ r,m34 s = some r:=by
  obtain ⟨r,h⟩:=m35_T s hs
  exact ⟨_,by unfold m34; rw [h]; rfl⟩
theorem m118_T (s:Bs) (n:Int) (hs:s.length < 2 ^ 60):∃ r,m118 s n = some r:=by
  unfold m118 j118_7
  rw [m68_eq _ _ hs (by decide),Option.bind_some]
  repeat' split
  all_goals exact ⟨_,rfl⟩
theorem m120_T (s:Bs) (hs:s.length < 2 ^ 30):m120 s = some (decR s):=by
  unfold m120
  rw [m152_eq s hs]; rfl
theorem decR_nn (s:Bs):0≤(decR s).1:=by
  unfold decR
  repeat' split
  all_goals simp
theorem m119_T (s:Bs) (a:Bool) (b:Int) (c:Bs) (d:Bool) (hs:s.length < 2 ^ 30) (hb:0≤b):∃ r,m119 s a b c d = some r∧0≤r.2.2.1:=by
  have:=decR_nn s
  unfold m119 j119_18 j119_23
  rw [m120_T s hs,Option.bind_some]
  repeat' split
  all_goals first | exact ⟨_,rfl,hb⟩ | exact ⟨_,rfl,this⟩
theorem m117_T (z:Bool) (V:List Bs) (n:Int) (hV:V.length < 2 ^ 40) (hv:∀ v ∈ V,v.length < 2 ^ 29):∃ r,m117 z V n = some r:=by
  obtain ⟨r,h,_⟩:∃ r,m117 z V n = some r∧True:=by
    refine iter_post (fun (x:Bool×List Bs×Int×Int×Int)=>x.2.1 = V∧x.2.2.1 = V.length∧0≤x.2.2.2.1∧x.2.2.2.1≤V.length) (fun (x:Bool×List Bs×Int×Int×Int)=>((V.length:Int) - x.2.2.2.1).toNat) _ ?_ _ ⟨rfl,rfl,by dsimp only; omega,by dsimp only; omega⟩
    rintro ⟨z,V',k,i,n⟩ hI
    dsimp only at hI ⊢
    obtain ⟨rfl,rfl,h0,h1⟩:=hI
    unfold s117_6
    by_cases c:i < V'.length
    · rw [if_pos (by simpa using c),if_pos ⟨h0,c⟩]
      have hx:=hv _ (getD_mem (l:=V') (i:=i.toNat) (by omega))
      obtain ⟨y,hy⟩:=m151_eq (V'.getD i.toNat default) (by omega)
      rw [hy,Option.bind_some]
      have hl:(listL (V'.getD i.toNat default)).length < 2 ^ 40:=by
        have:=fl_len (split false false [] (V'.getD i.toNat default)); have:=split_len (V'.getD i.toNat default) false false []
        unfold listL; omega
      obtain ⟨q,hq1,hq2⟩:∃ q,l117_20 z V' V'.length i y (listL (V'.getD i.toNat default)) (listL (V'.getD i.toNat default)).length 0 n = some q∧((∃ m,q = .inl (z,V',(V'.length:Int),i + 1,m))∨∃ r,q = .inr r):=by
        generalize hL:listL (V'.getD i.toNat default) = L at *
        have hm:∀ x ∈ L,x.length < 2 ^ 60:=fun x hx'=>by have:=listL_mem (hL ▸ hx'); omega
        refine iter_post (fun (x:Bool×List Bs×Int×Int×Bool×List Bs×Int×Int×Int)=>x.1 = z∧x.2.1 = V'∧x.2.2.1 = V'.length∧x.2.2.2.1 = i∧x.2.2.2.2.2.1 = L∧x.2.2.2.2.2.2.1 = L.length∧0≤x.2.2.2.2.2.2.2.1∧x.2.2.2.2.2.2.2.1≤L.length) (fun (x:Bool×List Bs×Int×Int×Bool×List Bs×Int×Int×Int)=>((L.length:Int) - x.2.2.2.2.2.2.2.1).toNat) _ ?_ _ ⟨rfl,rfl,rfl,rfl,rfl,rfl,by dsimp only; omega,by dsimp only; omega⟩
        rintro ⟨z1,V1,k1,i1,y1,L1,e1,j1,n1⟩ hJ
        dsimp only at hJ ⊢
        obtain ⟨rfl,rfl,rfl,rfl,rfl,rfl,g0,g1⟩:=hJ
        unfold s117_20 j117_41
        by_cases d:j1 < L1.length
        · rw [if_pos (by simpa using d),if_pos ⟨g0,d⟩]
          obtain ⟨r,hr⟩:=m118_T (L1.getD j1.toNat default) n1 (hm _ (getD_mem (by omega)))
          rw [hr,Option.bind_some,w64_eq (j1 + 1) (by omega) (by omega)]
          split
          · left; exact ⟨_,rfl,⟨rfl,rfl,rfl,rfl,rfl,rfl,by dsimp only; omega,by dsimp only; omega⟩,by dsimp only; omega⟩
          · right; exact ⟨_,rfl,.inr ⟨_,rfl⟩⟩
        · right
          rw [if_neg (by simpa using d),w64_eq (i1 + 1) (by omega) (by omega)]
          exact ⟨_,rfl,.inl ⟨n1,rfl⟩⟩
      rw [hq1]
      rcases hq2 with ⟨m,rfl⟩ | ⟨r,rfl⟩
      · left; exact ⟨_,rfl,⟨rfl,rfl,by dsimp only; omega,by dsimp only; omega⟩,by dsimp only; omega⟩
      · right; exact ⟨_,rfl,trivial⟩
    · right
      rw [if_neg (by simpa using c)]
      exact ⟨_,rfl,trivial⟩
  exact ⟨r,h⟩
theorem m117a_T (z:Bool) (V:List Bs) (a:Bool) (b:Int) (c:Bs) (d:Bool) (hb:0≤b) (hV:V.length < 2 ^ 40) (hv:∀ v ∈ V,v.length < 2 ^ 29):∃ r,m117a z V a b c d = some r∧0≤r.2.2.1:=by
    refine iter_post (fun (x:Bool×List Bs×Int×Int×Bool×Int×Bs×Bool)=>x.2.1 = V∧x.2.2.1 = V.length∧0≤x.2.2.2.1∧x.2.2.2.1≤V.length∧0≤x.2.2.2.2.2.1) (fun (x:Bool×List Bs×Int×Int×Bool×Int×Bs×Bool)=>((V.length:Int) - x.2.2.2.1).toNat) _ ?_ _ ⟨rfl,rfl,by dsimp only; omega,by dsimp only; omega,hb⟩
    rintro ⟨z,V',k,i,a,b,c,d⟩ hI
    dsimp only at hI ⊢
    obtain ⟨rfl,rfl,h0,h1,hb⟩:=hI
    unfold s117a_6
    by_cases g:i < V'.length
    · rw [if_pos (by simpa using g),if_pos ⟨h0,g⟩]
      have hx:=hv _ (getD_mem (l:=V') (i:=i.toNat) (by omega))
      obtain ⟨y,hy⟩:=m151_eq (V'.getD i.toNat default) (by omega)
      rw [hy,Option.bind_some]
      have hl:(listL (V'.getD i.toNat default)).length < 2 ^ 40:=by
        have:=fl_len (split false false [] (V'.getD i.toNat default)); have:=split_len (V'.getD i.toNat default) false false []
        unfold listL; omega
      obtain ⟨q,hq1,hq2⟩:∃ q,l117a_20 z V' V'.length i y (listL (V'.getD i.toNat default)) (listL (V'.getD i.toNat default)).length 0 a b c d = some q∧((∃ m,q = .inl (z,V',(V'.length:Int),i + 1,m)∧0≤m.2.1)∨∃ r,q = .inr r∧0≤r.2.2.1):=by
        generalize hL:listL (V'.getD i.toNat default) = L at *
        have hm:∀ x ∈ L,x.length < 2 ^ 30:=fun x hx'=>by have:=listL_mem (hL ▸ hx'); omega
        refine iter_post (fun (x:Bool×List Bs×Int×Int×Bool×List Bs×Int×Int×Bool×Int×Bs×Bool)=>x.1 = z∧x.2.1 = V'∧x.2.2.1 = V'.length∧x.2.2.2.1 = i∧x.2.2.2.2.2.1 = L∧x.2.2.2.2.2.2.1 = L.length∧0≤x.2.2.2.2.2.2.2.1∧x.2.2.2.2.2.2.2.1≤L.length∧0≤x.2.2.2.2.2.2.2.2.2.1) (fun (x:Bool×List Bs×Int×Int×Bool×List Bs×Int×Int×Bool×Int×Bs×Bool)=>((L.length:Int) - x.2.2.2.2.2.2.2.1).toNat) _ ?_ _ ⟨rfl,rfl,rfl,rfl,rfl,rfl,by dsimp only; omega,by dsimp only; omega,hb⟩
        rintro ⟨z1,V1,k1,i1,y1,L1,e1,j1,a1,b1,c1,d1⟩ hJ
        dsimp only at hJ ⊢
        obtain ⟨rfl,rfl,rfl,rfl,rfl,rfl,g0,g1,hb1⟩:=hJ
        unfold s117a_20 j117a_41
        by_cases d:j1 < L1.length
        · rw [if_pos (by simpa using d),if_pos ⟨g0,d⟩]
          obtain ⟨r,hr,hr2⟩:=m119_T (L1.getD j1.toNat default) a1 b1 c1 d1 (hm _ (getD_mem (by omega))) hb1
          rw [hr,Option.bind_some,w64_eq (j1 + 1) (by omega) (by omega)]
          split
          · left; exact ⟨_,rfl,⟨rfl,rfl,rfl,rfl,rfl,rfl,by dsimp only; omega,by dsimp only; omega,hr2⟩,by dsimp only; omega⟩
          · right; exact ⟨_,rfl,.inr ⟨_,rfl,hr2⟩⟩
        · right
          rw [if_neg (by simpa using d),w64_eq (i1 + 1) (by omega) (by omega)]
          exact ⟨_,rfl,.inl ⟨_,rfl,hb1⟩⟩
      rw [hq1]
      rcases hq2 with ⟨m,rfl,hm2⟩ | ⟨r,rfl,hr2⟩
      · left; exact ⟨_,rfl,⟨rfl,rfl,by dsimp only; omega,by dsimp only; omega,hm2⟩,by dsimp only; omega⟩
      · right; exact ⟨_,rfl,hr2⟩
    · right
      rw [if_neg (by simpa using g)]
      exact ⟨_,rfl,hb⟩
theorem getL_mem {l:List (Bs×Bs)} {n v:Bs} (h:v ∈ getL l n):∃ f ∈ l,v = f.2:=by
  unfold getL at h
  obtain ⟨f,hf,h⟩:=List.mem_filterMap.1 h
  split at h
  · exact ⟨f,hf,(Option.some.inj h).symm⟩
  · cases h
theorem m51_T (mi:Int) (z:Bool) (l:List (Bs×Bs)) (hs:fsz l < 2 ^ 29):∃ r,m51 mi z l = some r∧(r.1 = 0∨r.1 = 1∨r.1 = 2)∧0≤r.2.1:=by
  have hl:=fsz_len l
  have gl:∀ n,(getL l n).length < 2 ^ 40:=fun n=>by
    have:=List.length_filterMap_le (fun f:Bs×Bs=>if lowL f.1 = lowL n then some f.2 else none) l
    unfold getL; omega
  have gm:∀ n,∀ v ∈ getL l n,v.length < 2 ^ 29:=fun n v hv=>by
    obtain ⟨f,hf,rfl⟩:=getL_mem hv
    have:=fsz_mem hf; omega
  unfold m51
  obtain ⟨y1,e1⟩:=m84_eq z l [99,111,110,116,101,110,116,45,108,101,110,103,116,104] (by omega) (by decide)
  obtain ⟨y2,e2⟩:=m84_eq z l [116,114,97,110,115,102,101,114,45,101,110,99,111,100,105,110,103] (by omega) (by decide)
  rw [e1,Option.bind_some,e2,Option.bind_some]
  generalize hA:getL l [99,111,110,116,101,110,116,45,108,101,110,103,116,104] = A at *
  generalize hB:getL l [116,114,97,110,115,102,101,114,45,101,110,99,111,100,105,110,103] = B at *
  obtain ⟨r1,f1⟩:=m117_T y2 B 0 (hB ▸ gl _) (hB ▸ gm _)
  obtain ⟨r2,f2,f3⟩:=m117a_T y1 A false 0 [] false (by decide) (hA ▸ gl _) (hA ▸ gm _)
  have key:∀ t,∃ r,j51_8 mi y1 A y2 B t = some r∧(r.1 = 0∨r.1 = 1∨r.1 = 2)∧0≤r.2.1:=by
    intro t
    unfold j51_8 m85 m86 j86_12
    rw [f1,f2]
    simp only [Option.bind_some]
    repeat' split
    all_goals first | exact ⟨_,rfl,.inl rfl,by first | exact f3 | exact Int.le_refl _⟩ | exact ⟨_,rfl,.inr (.inl rfl),by first | exact f3 | exact Int.le_refl _⟩ | exact ⟨_,rfl,.inr (.inr rfl),by first | exact f3 | exact Int.le_refl _⟩ | skip
    all_goals (try simp only [Option.bind_some])
    all_goals (repeat' split)
    all_goals first | exact ⟨_,rfl,.inl rfl,by first | exact f3 | exact Int.le_refl _⟩ | exact ⟨_,rfl,.inr (.inl rfl),by first | exact f3 | exact Int.le_refl _⟩ | exact ⟨_,rfl,.inr (.inr rfl),by first | exact f3 | exact Int.le_refl _⟩
  split
  · exact key _
  · exact key _
theorem m50_T (k n:Int) (b:Bool) (e:Int) (hn:0≤n):∃ r,m50 k n b e = some r∧(r.2.2 = 0→r.1 = k∧0≤r.2.1∧r.2.1≤4096):=by
  unfold m50 j50_5 j50_8
  by_cases he:e = 0
  · subst he
    rw [if_pos (by decide)]
    cases b with
    | true=>rw [if_pos rfl,if_pos rfl,if_neg (by decide)]; exact ⟨_,rfl,fun e=>absurd e (by decide)⟩
    | false =>
      rw [if_neg (by decide)]
      by_cases c:4096 < n
      · rw [if_pos (by simpa using c),if_neg (by decide)]; exact ⟨_,rfl,fun e=>absurd e (by decide)⟩
      · rw [if_neg (by simpa using c),if_pos (by decide)]; exact ⟨_,rfl,fun _=>⟨rfl,hn,by dsimp only; omega⟩⟩
  · rw [if_neg (by simpa using he),if_neg (by decide),if_neg (by simpa using he)]
    exact ⟨_,rfl,fun h=>absurd h he⟩
theorem m26_T (mi:Int) (z:Bool) (l:List (Bs×Bs)) (hs:fsz l < 2 ^ 29):∃ r,m26 mi z l = some r∧(r.2.2 = 0→(r.1 = 0∨r.1 = 1∨r.1 = 2)∧0≤r.2.1∧r.2.1≤4096):=by
  obtain ⟨r,h,h1,h2⟩:=m51_T mi z l hs
  obtain ⟨q,g,g1⟩:=m50_T r.1 r.2.1 r.2.2.1 r.2.2.2 h2
  have key:∀ t,∃ r,j26_5 mi z l t = some r∧(r.2.2 = 0→(r.1 = 0∨r.1 = 1∨r.1 = 2)∧0≤r.2.1∧r.2.1≤4096):=by
    intro t
    unfold j26_5
    rw [h]
    simp only [Option.bind_some,g]
    split
    · exact ⟨_,rfl,by decide⟩
    · exact ⟨_,rfl,fun e=>by have:=g1 e; rw [this.1]; exact ⟨h1,this.2⟩⟩
  unfold m26
  split <;> exact key _
theorem m36_T (st:Int) (me:Bs) (mi:Int) (z:Bool) (l:List (Bs×Bs)) (hs:fsz l < 2 ^ 29):∃ r,m36 st me mi z l = some r∧(r.2.2 = 0→(r.1 = 0∨r.1 = 1∨r.1 = 2∨r.1 = 3)∧0≤r.2.1∧r.2.1≤4096):=by
  obtain ⟨r,h,h1,h2⟩:=m51_T mi z l hs
  obtain ⟨q,g,g1⟩:=m50_T r.1 r.2.1 r.2.2.1 r.2.2.2 h2
  have k2:∀ t,∃ x,j36_38 r.1 r.2.1 r.2.2.1 r.2.2.2 t = some x∧(x.2.2 = 0→(x.1 = 0∨x.1 = 1∨x.1 = 2∨x.1 = 3)∧0≤x.2.1∧x.2.1≤4096):=by
    intro t
    unfold j36_38
    split
    · exact ⟨_,rfl,by decide⟩
    · split
      · exact ⟨_,rfl,by decide⟩
      · rw [g]
        exact ⟨_,rfl,fun e=>by
          have:=g1 e
          refine ⟨?_,this.2⟩
          rw [this.1]; omega⟩
  have key:∀ t,∃ x,j36_5 st me mi z l t = some x∧(x.2.2 = 0→(x.1 = 0∨x.1 = 1∨x.1 = 2∨x.1 = 3)∧0≤x.2.1∧x.2.1≤4096):=by
    intro t
    unfold j36_5
    rw [h]
    simp only [Option.bind_some]
    repeat' split
    all_goals first | exact k2 _ | exact ⟨_,rfl,by decide⟩ | skip
    rename_i ne
    exact ⟨_,rfl,fun e=>absurd e (by simpa using ne)⟩
  unfold m36
  repeat' split
  all_goals exact key _
end Go.Ab
end
section
set_option linter.all false
open Go Go.Ab Go.Proofs Go.Proofs.YtoohbnmhjfgclaaGreatDoor
namespace Go.Ab
def eolN (k:Nat) (r:Bs):Int:=Lib.indexByte (r.take (min r.length k)) 10
theorem min2_lenN (n k:Nat):bnd (min2 (n:Int) (k:Int)) n = some (min n k):=by
  unfold min2 bnd
  split
  · rw [if_pos ⟨by omega,by omega⟩,Int.toNat_natCast,Nat.min_eq_right (by omega)]
  · rw [if_pos ⟨by omega,by omega⟩,Int.toNat_natCast,Nat.min_eq_left (by omega)]
theorem min2_512 (n:Nat):bnd (min2 (n:Int) 512) n = some (min n 512):=min2_lenN n 512
theorem min2_2048 (n:Nat):bnd (min2 (n:Int) 2048) n = some (min n 2048):=min2_lenN n 2048
theorem take_split (r t:Bs) (k:Nat):(r ++ t).take (min (r ++ t).length k) = r.take (min r.length k) ++ ((r ++ t).take (min (r ++ t).length k)).drop (min r.length k):=by
  conv=>lhs; rw [← List.take_append_drop (min r.length k) ((r ++ t).take (min (r ++ t).length k))]
  rw [List.take_take,List.length_append,Nat.min_eq_left (by omega),List.take_append_of_le_length (by omega)]
theorem eolN_app {k:Nat} {r t:Bs} (h:0≤eolN k r):eolN k (r ++ t) = eolN k r:=by
  unfold eolN at h ⊢
  rw [take_split,idx_app _ _ _ h]
theorem eolN_long {k:Nat} {r t:Bs} (h:k≤r.length):eolN k (r ++ t) = eolN k r:=by
  unfold eolN
  rw [List.length_append,Nat.min_eq_right (by omega),Nat.min_eq_right (by omega),List.take_append_of_le_length (by omega)]
theorem eolN_lt {k:Nat} {r:Bs} (h:0≤eolN k r):eolN k r < r.length∧eolN k r < k:=by
  have:=idx_lt h
  rw [List.length_take] at this
  unfold eolN
  omega
theorem fsz_le (l:List (Bs×Bs)) (n:Nat) (h:∀ x ∈ l,x.1.length≤n∧x.2.length≤n):fsz l≤l.length * (2 * n + 1):=by
  induction l with
  | nil=>exact Nat.zero_le _
  | cons a l ih =>
    have h1:=h a (List.mem_cons_self ..)
    have h2:=ih fun x hx=>h x (List.mem_cons_of_mem _ hx)
    simp only [fsz,List.map_cons,List.sum_cons,List.length_cons] at h2 ⊢
    rw [Nat.add_mul]
    omega
def eR:R47→Int
  | .inl x=>x.2.2.2
  | .inr x=>x.2.2.2
theorem m47_pair (b t:Bs) (a:Nat) (ha:a≤min b.length 2048) (hb:(b ++ t).length < 2 ^ 30):∃ R,m47 false ((b.take (min b.length 2048)).drop a) = some R∧Q20 ((b.take (min b.length 2048)).drop a) R ∧
    (m47 false (((b ++ t).take (min (b ++ t).length 2048)).drop a) = some R∧(eR R = 8→decide (2048≤(b.length:Int)) = false∨decide (2048≤((b ++ t).length:Int)) = true)∨(eR R = 8∧b.length < 2048)):=by
  have hlen:(b ++ t).length = b.length + t.length:=List.length_append
  have e:=take_split b t 2048
  generalize hs:(b.take (min b.length 2048)).drop a = s at *
  generalize hT:((b ++ t).take (min (b ++ t).length 2048)).drop (min b.length 2048) = T at *
  have e2:((b ++ t).take (min (b ++ t).length 2048)).drop a = s ++ T:=by
    rw [e,List.drop_append_of_le_length (by rw [List.length_take]; omega),hs]
  have ls:s.length≤2048:=by rw [← hs,List.length_drop,List.length_take]; omega
  have lT:T.length≤2048:=by rw [← hT,List.length_drop,List.length_take]; omega
  rw [e2]
  rcases m47_two false s T (by rw [List.length_append]; omega) with ⟨R,h1,h2,h3⟩ | h1
  · refine ⟨R,h1,h3,.inl ⟨h2,fun _=>?_⟩⟩
    by_cases c:2048≤(b.length:Int)
    · right; simp; omega
    · left; simpa using c
  · by_cases c:b.length < 2048
    · exact ⟨_,h1,⟨Int.le_refl 0,Int.natCast_nonneg _,by simp,fun x hx=>by cases hx⟩,.inr ⟨rfl,c⟩⟩
    · have:T = []:=by
        rw [← hT,List.drop_eq_nil_of_le (by rw [List.length_take]; omega)]
      subst this
      rw [List.append_nil]
      exact ⟨_,h1,⟨Int.le_refl 0,Int.natCast_nonneg _,by simp,fun x hx=>by cases hx⟩,.inl ⟨h1,fun _=>.inr (by simp; omega)⟩⟩
theorem m23_form (z:Bool) (b:Bs):m23 z b = if eolN 512 b < 0 then j23_10 z b (eolN 512 b) (decide (512≤(b.length:Int))) ([]:Bs) ([]:Bs) (0:Int) true ([]:List (Bs×Bs)) true ([]:List UInt8) ([]:Bs) ([]:Bs) (0:Int) true ([]:List (Bs×Bs)) true ([]:List UInt8)
    else j23_10 z b (eolN 512 b) false ([]:Bs) ([]:Bs) (0:Int) true ([]:List (Bs×Bs)) true ([]:List UInt8) ([]:Bs) ([]:Bs) (0:Int) true ([]:List (Bs×Bs)) true ([]:List UInt8):=by
  unfold m23 m46
  rw [min2_512,Option.bind_some,Option.bind_some]
  unfold eolN
  simp only [decide_eq_true_eq]
theorem m23_two (z:Bool) (b t:Bs) (hz:z = true→b = []) (hb:(b ++ t).length < 2 ^ 30):∃ r:R23,m23 z b = some r∧(r.2.2.2.2.2.2.2.2.2.2 = 8∨m23 false (b ++ t) = some r) ∧
    (r.2.2.2.2.2.2.2.2.2.2 = 0→z = false∧0≤r.2.2.2.2.2.2.2.2.2.1∧r.2.2.2.2.2.2.2.2.2.1≤b.length∧fsz r.2.2.2.2.2.2.2.2.1 < 2 ^ 29):=by
  have hlen:(b ++ t).length = b.length + t.length:=List.length_append
  rw [m23_form,m23_form]
  by_cases c:eolN 512 b < 0
  · rw [if_pos c]
    by_cases d:512≤b.length
    · rw [eolN_long d,if_pos c]
      unfold j23_10
      rw [if_pos (by simp; omega),if_pos (by simp; omega)]
      exact ⟨_,rfl,.inr rfl,fun e=>absurd e (by decide)⟩
    · unfold j23_10
      rw [if_neg (by simp; omega),if_pos (by simpa using c)]
      exact ⟨_,rfl,.inl rfl,fun e=>absurd e (by decide)⟩
  · have h0:0≤eolN 512 b:=by omega
    obtain ⟨h1,h2⟩:=eolN_lt h0
    obtain rfl:z = false:=by
      cases z with
      | false=>rfl
      | true=>rw [hz rfl] at h0; exact absurd h0 (by decide)
    rw [if_neg c,eolN_app h0,if_neg c]
    generalize eolN 512 b = e at *
    unfold j23_10
    simp only [Bool.false_eq_true,if_false,decide_eq_true_eq,c,beq_iff_eq]
    by_cases e0:e = 0
    · rw [if_pos e0,if_pos e0]
      unfold j23_22
      rw [if_pos rfl,if_pos rfl]
      exact ⟨_,rfl,.inr rfl,fun e=>absurd e (by decide)⟩
    · rw [if_neg e0,if_neg e0,w64_eq (e - 1) (by omega) (by omega),if_pos ⟨by omega,by omega⟩,if_pos ⟨by omega,by omega⟩,getD_app (by omega)]
      unfold j23_22
      rw [w64_eq (e - 1) (by omega) (by omega),w64_eq (e + 1) (by omega) (by omega)]
      cases hq:(!(b.getD (e - 1).toNat default == (13:UInt8))) with
      | true =>
        rw [if_pos rfl,if_pos rfl]
        exact ⟨_,rfl,.inr rfl,fun e=>absurd e (by decide)⟩
      | false =>
        rw [if_neg (by decide),if_neg (by decide),bnd_of (i:=e - 1) (n:=b.length) (by omega) (by omega),bnd_of (i:=e - 1) (n:=(b ++ t).length) (by omega) (by omega),Option.bind_some,Option.bind_some,List.take_append_of_le_length (i:=(e - 1).toNat) (by omega)]
        obtain ⟨x,hx⟩:=m24_T (b.take (e - 1).toNat) (by rw [List.length_take]; omega)
        rw [hx,Option.bind_some,Option.bind_some]
        by_cases ex:x.2.2.2.2.2.2.2 = 0
        · rw [if_pos (by simpa using ex),if_pos (by simpa using ex),min2_2048,min2_2048,Option.bind_some,Option.bind_some,bnd_of (i:=e + 1) (n:=min b.length 2048) (by omega) (by omega),bnd_of (i:=e + 1) (n:=min (b ++ t).length 2048) (by omega) (by omega),Option.bind_some,Option.bind_some]
          obtain ⟨R,g1,g2,g3⟩:=m47_pair b t (e + 1).toNat (by omega) hb
          rw [g1,Option.bind_some]
          have lim:∀ (l:List (Bs×Bs)) (n:Int),0≤n∧n≤((b.take (min b.length 2048)).drop (e + 1).toNat).length∧l.length≤2048∧WB ((b.take (min b.length 2048)).drop (e + 1).toNat) l→0≤w64 (e + 1 + n)∧w64 (e + 1 + n)≤b.length∧fsz l < 2 ^ 29:=by
            rintro l n ⟨q1,q2,q3,q4⟩
            rw [List.length_drop,List.length_take] at q2
            rw [w64_eq _ (by omega) (by omega)]
            have:=fsz_le l 2048 fun y hy=>by
              have:=q4 y hy
              rw [List.length_drop,List.length_take] at this
              exact ⟨by omega,by omega⟩
            refine ⟨by omega,by omega,?_⟩
            have:l.length * (2 * 2048 + 1)≤2048 * (2 * 2048 + 1):=Nat.mul_le_mul_right _ q3
            omega
          have key:∀ (g:Bool) (l:List (Bs×Bs)) (zl:Bool) (n e47:Int),(0≤n∧n≤((b.take (min b.length 2048)).drop (e + 1).toNat).length∧l.length≤2048∧WB ((b.take (min b.length 2048)).drop (e + 1).toNat) l) →
              ∃ r:R23,j23_42 zl l e47 e n g x.1 x.2.1 x.2.2.1 x.2.2.2.1 x.2.2.2.2.1 x.2.2.2.2.2.1 x.2.2.2.2.2.2.1 ([]:Bs) ([]:Bs) (0:Int) true [] true [] = some r∧r.2.2.2.2.2.2.2.2.2.2 = (if g = true then 21 else e47) ∧
                (r.2.2.2.2.2.2.2.2.2.2 = 0→0≤r.2.2.2.2.2.2.2.2.2.1∧r.2.2.2.2.2.2.2.2.2.1≤b.length∧fsz r.2.2.2.2.2.2.2.2.1 < 2 ^ 29):=by
            intro g l zl n e47 hl
            unfold j23_42 j23_45
            rw [w64_eq (e + 1) (by omega) (by omega)]
            cases g with
            | true=>rw [if_pos rfl,if_neg (by decide)]; exact ⟨_,rfl,rfl,fun e=>absurd e (by decide)⟩
            | false =>
              rw [if_neg (by decide)]
              by_cases c:e47 = 0
              · rw [if_pos (by simpa using c)]; exact ⟨_,rfl,c.symm,fun _=>lim l n hl⟩
              · rw [if_neg (by simpa using c)]; exact ⟨_,rfl,rfl,fun e=>absurd e c⟩
          rcases R with ⟨zl,l,n,e47⟩ | ⟨zl,l,n,e47⟩
          · dsimp only at *
            by_cases c8:e47 = 8
            · subst c8
              rw [if_pos (by decide)]
              obtain ⟨r,k1,k2,k3⟩:=key (decide (2048≤(b.length:Int))) l zl n 8 g2
              refine ⟨r,k1,?_,fun h=>⟨by simp,k3 h⟩⟩
              rcases g3 with ⟨g3,g4⟩ | ⟨_,g4⟩
              · cases hd:decide (2048≤(b.length:Int)) with
                | false=>rw [hd] at k2; exact .inl k2
                | true =>
                  have:decide (2048≤((b ++ t).length:Int)) = true:=by
                    have:=of_decide_eq_true hd
                    simp; omega
                  right
                  rw [g3,Option.bind_some]
                  dsimp only
                  rw [if_pos (by decide),this]
                  rw [hd] at k1
                  exact k1
              · left
                rw [show decide (2048≤(b.length:Int)) = false by simp; omega] at k2
                exact k2
            · rw [if_neg (by simpa using c8)]
              obtain ⟨r,k1,k2,k3⟩:=key false l zl n e47 g2
              refine ⟨r,k1,?_,fun h=>⟨by simp,k3 h⟩⟩
              rcases g3 with ⟨g3,g4⟩ | ⟨g4,_⟩
              · right
                rw [g3,Option.bind_some]
                dsimp only
                rw [if_neg (by simpa using c8)]
                exact k1
              · exact absurd g4 c8
          · dsimp only at *
            by_cases c8:e47 = 8
            · subst c8
              rw [if_pos (by decide)]
              obtain ⟨r,k1,k2,k3⟩:=key (decide (2048≤(b.length:Int))) l zl n 8 g2
              refine ⟨r,k1,?_,fun h=>⟨by simp,k3 h⟩⟩
              rcases g3 with ⟨g3,g4⟩ | ⟨_,g4⟩
              · cases hd:decide (2048≤(b.length:Int)) with
                | false=>rw [hd] at k2; exact .inl k2
                | true =>
                  have:decide (2048≤((b ++ t).length:Int)) = true:=by
                    have:=of_decide_eq_true hd
                    simp; omega
                  right
                  rw [g3,Option.bind_some]
                  dsimp only
                  rw [if_pos (by decide),this]
                  rw [hd] at k1
                  exact k1
              · left
                rw [show decide (2048≤(b.length:Int)) = false by simp; omega] at k2
                exact k2
            · rw [if_neg (by simpa using c8)]
              obtain ⟨r,k1,k2,k3⟩:=key false l zl n e47 g2
              refine ⟨r,k1,?_,fun h=>⟨by simp,k3 h⟩⟩
              rcases g3 with ⟨g3,g4⟩ | ⟨g4,_⟩
              · right
                rw [g3,Option.bind_some]
                dsimp only
                rw [if_neg (by simpa using c8)]
                exact k1
              · exact absurd g4 c8
        · rw [if_neg (by simpa using ex),if_neg (by simpa using ex)]
          exact ⟨_,rfl,.inr rfl,fun e=>absurd e (by decide)⟩
theorem m33_form (z:Bool) (b:Bs):m33 z b = if eolN 512 b < 0 then j33_10 z b (eolN 512 b) (decide (512≤(b.length:Int))) (0:Int) ([]:Bs) (0:Int) true ([]:List (Bs×Bs)) true ([]:List UInt8) (0:Int) ([]:Bs) (0:Int) true ([]:List (Bs×Bs)) true ([]:List UInt8)
    else j33_10 z b (eolN 512 b) false (0:Int) ([]:Bs) (0:Int) true ([]:List (Bs×Bs)) true ([]:List UInt8) (0:Int) ([]:Bs) (0:Int) true ([]:List (Bs×Bs)) true ([]:List UInt8):=by
  unfold m33 m46
  rw [min2_512,Option.bind_some,Option.bind_some]
  unfold eolN
  simp only [decide_eq_true_eq]
theorem m33_two (z:Bool) (b t:Bs) (hz:z = true→b = []) (hb:(b ++ t).length < 2 ^ 30):∃ r:R33,m33 z b = some r∧(r.2.2.2.2.2.2.2.2.2.2 = 8∨m33 false (b ++ t) = some r) ∧
    (r.2.2.2.2.2.2.2.2.2.2 = 0→z = false∧0≤r.2.2.2.2.2.2.2.2.2.1∧r.2.2.2.2.2.2.2.2.2.1≤b.length∧fsz r.2.2.2.2.2.2.2.2.1 < 2 ^ 29):=by
  have hlen:(b ++ t).length = b.length + t.length:=List.length_append
  rw [m33_form,m33_form]
  by_cases c:eolN 512 b < 0
  · rw [if_pos c]
    by_cases d:512≤b.length
    · rw [eolN_long d,if_pos c]
      unfold j33_10
      rw [if_pos (by simp; omega),if_pos (by simp; omega)]
      exact ⟨_,rfl,.inr rfl,fun e=>absurd e (by decide)⟩
    · unfold j33_10
      rw [if_neg (by simp; omega),if_pos (by simpa using c)]
      exact ⟨_,rfl,.inl rfl,fun e=>absurd e (by decide)⟩
  · have h0:0≤eolN 512 b:=by omega
    obtain ⟨h1,h2⟩:=eolN_lt h0
    obtain rfl:z = false:=by
      cases z with
      | false=>rfl
      | true=>rw [hz rfl] at h0; exact absurd h0 (by decide)
    rw [if_neg c,eolN_app h0,if_neg c]
    generalize eolN 512 b = e at *
    unfold j33_10
    simp only [Bool.false_eq_true,if_false,decide_eq_true_eq,c,beq_iff_eq]
    by_cases e0:e = 0
    · rw [if_pos e0,if_pos e0]
      unfold j33_22
      rw [if_pos rfl,if_pos rfl]
      exact ⟨_,rfl,.inr rfl,fun e=>absurd e (by decide)⟩
    · rw [if_neg e0,if_neg e0,w64_eq (e - 1) (by omega) (by omega),if_pos ⟨by omega,by omega⟩,if_pos ⟨by omega,by omega⟩,getD_app (by omega)]
      unfold j33_22
      rw [w64_eq (e - 1) (by omega) (by omega),w64_eq (e + 1) (by omega) (by omega)]
      cases hq:(!(b.getD (e - 1).toNat default == (13:UInt8))) with
      | true =>
        rw [if_pos rfl,if_pos rfl]
        exact ⟨_,rfl,.inr rfl,fun e=>absurd e (by decide)⟩
      | false =>
        rw [if_neg (by decide),if_neg (by decide),bnd_of (i:=e - 1) (n:=b.length) (by omega) (by omega),bnd_of (i:=e - 1) (n:=(b ++ t).length) (by omega) (by omega),Option.bind_some,Option.bind_some,List.take_append_of_le_length (i:=(e - 1).toNat) (by omega)]
        obtain ⟨x,hx⟩:=m34_T (b.take (e - 1).toNat) (by rw [List.length_take]; omega)
        rw [hx,Option.bind_some,Option.bind_some]
        by_cases ex:x.2.2.2.2.2.2.2 = 0
        · rw [if_pos (by simpa using ex),if_pos (by simpa using ex),min2_2048,min2_2048,Option.bind_some,Option.bind_some,bnd_of (i:=e + 1) (n:=min b.length 2048) (by omega) (by omega),bnd_of (i:=e + 1) (n:=min (b ++ t).length 2048) (by omega) (by omega),Option.bind_some,Option.bind_some]
          obtain ⟨R,g1,g2,g3⟩:=m47_pair b t (e + 1).toNat (by omega) hb
          rw [g1,Option.bind_some]
          have lim:∀ (l:List (Bs×Bs)) (n:Int),0≤n∧n≤((b.take (min b.length 2048)).drop (e + 1).toNat).length∧l.length≤2048∧WB ((b.take (min b.length 2048)).drop (e + 1).toNat) l→0≤w64 (e + 1 + n)∧w64 (e + 1 + n)≤b.length∧fsz l < 2 ^ 29:=by
            rintro l n ⟨q1,q2,q3,q4⟩
            rw [List.length_drop,List.length_take] at q2
            rw [w64_eq _ (by omega) (by omega)]
            have:=fsz_le l 2048 fun y hy=>by
              have:=q4 y hy
              rw [List.length_drop,List.length_take] at this
              exact ⟨by omega,by omega⟩
            refine ⟨by omega,by omega,?_⟩
            have:l.length * (2 * 2048 + 1)≤2048 * (2 * 2048 + 1):=Nat.mul_le_mul_right _ q3
            omega
          have key:∀ (g:Bool) (l:List (Bs×Bs)) (zl:Bool) (n e47:Int),(0≤n∧n≤((b.take (min b.length 2048)).drop (e + 1).toNat).length∧l.length≤2048∧WB ((b.take (min b.length 2048)).drop (e + 1).toNat) l) →
              ∃ r:R33,j33_42 zl l e47 e n g x.1 x.2.1 x.2.2.1 x.2.2.2.1 x.2.2.2.2.1 x.2.2.2.2.2.1 x.2.2.2.2.2.2.1 (0:Int) ([]:Bs) (0:Int) true [] true [] = some r∧r.2.2.2.2.2.2.2.2.2.2 = (if g = true then 21 else e47) ∧
                (r.2.2.2.2.2.2.2.2.2.2 = 0→0≤r.2.2.2.2.2.2.2.2.2.1∧r.2.2.2.2.2.2.2.2.2.1≤b.length∧fsz r.2.2.2.2.2.2.2.2.1 < 2 ^ 29):=by
            intro g l zl n e47 hl
            unfold j33_42 j33_45
            rw [w64_eq (e + 1) (by omega) (by omega)]
            cases g with
            | true=>rw [if_pos rfl,if_neg (by decide)]; exact ⟨_,rfl,rfl,fun e=>absurd e (by decide)⟩
            | false =>
              rw [if_neg (by decide)]
              by_cases c:e47 = 0
              · rw [if_pos (by simpa using c)]; exact ⟨_,rfl,c.symm,fun _=>lim l n hl⟩
              · rw [if_neg (by simpa using c)]; exact ⟨_,rfl,rfl,fun e=>absurd e c⟩
          rcases R with ⟨zl,l,n,e47⟩ | ⟨zl,l,n,e47⟩
          · dsimp only at *
            by_cases c8:e47 = 8
            · subst c8
              rw [if_pos (by decide)]
              obtain ⟨r,k1,k2,k3⟩:=key (decide (2048≤(b.length:Int))) l zl n 8 g2
              refine ⟨r,k1,?_,fun h=>⟨by simp,k3 h⟩⟩
              rcases g3 with ⟨g3,g4⟩ | ⟨_,g4⟩
              · cases hd:decide (2048≤(b.length:Int)) with
                | false=>rw [hd] at k2; exact .inl k2
                | true =>
                  have:decide (2048≤((b ++ t).length:Int)) = true:=by
                    have:=of_decide_eq_true hd
                    simp; omega
                  right
                  rw [g3,Option.bind_some]
                  dsimp only
                  rw [if_pos (by decide),this]
                  rw [hd] at k1
                  exact k1
              · left
                rw [show decide (2048≤(b.length:Int)) = false by simp; omega] at k2
                exact k2
            · rw [if_neg (by simpa using c8)]
              obtain ⟨r,k1,k2,k3⟩:=key false l zl n e47 g2
              refine ⟨r,k1,?_,fun h=>⟨by simp,k3 h⟩⟩
              rcases g3 with ⟨g3,g4⟩ | ⟨g4,_⟩
              · right
                rw [g3,Option.bind_some]
                dsimp only
                rw [if_neg (by simpa using c8)]
                exact k1
              · exact absurd g4 c8
          · dsimp only at *
            by_cases c8:e47 = 8
            · subst c8
              rw [if_pos (by decide)]
              obtain ⟨r,k1,k2,k3⟩:=key (decide (2048≤(b.length:Int))) l zl n 8 g2
              refine ⟨r,k1,?_,fun h=>⟨by simp,k3 h⟩⟩
              rcases g3 with ⟨g3,g4⟩ | ⟨_,g4⟩
              · cases hd:decide (2048≤(b.length:Int)) with
                | false=>rw [hd] at k2; exact .inl k2
                | true =>
                  have:decide (2048≤((b ++ t).length:Int)) = true:=by
                    have:=of_decide_eq_true hd
                    simp; omega
                  right
                  rw [g3,Option.bind_some]
                  dsimp only
                  rw [if_pos (by decide),this]
                  rw [hd] at k1
                  exact k1
              · left
                rw [show decide (2048≤(b.length:Int)) = false by simp; omega] at k2
                exact k2
            · rw [if_neg (by simpa using c8)]
              obtain ⟨r,k1,k2,k3⟩:=key false l zl n e47 g2
              refine ⟨r,k1,?_,fun h=>⟨by simp,k3 h⟩⟩
              rcases g3 with ⟨g3,g4⟩ | ⟨g4,_⟩
              · right
                rw [g3,Option.bind_some]
                dsimp only
                rw [if_neg (by simpa using c8)]
                exact k1
              · exact absurd g4 c8
        · rw [if_neg (by simpa using ex),if_neg (by simpa using ex)]
          exact ⟨_,rfl,.inr rfl,fun e=>absurd e (by decide)⟩
theorem m27_two (b t:Bs) (k n:Int) (en:Bool) (hb:(b ++ t).length < 2 ^ 30) (hk:k = 0∨k = 1∨k = 2∨k = 3) (h0:0≤n) (h1:n≤4096):∃ r:R27,m27 false b k n false = some r∧(r.2.2.2 = 8∨m27 false (b ++ t) k n en = some r) ∧
    r.2.1.length≤4096∧0≤r.2.2.1∧r.2.2.1≤b.length∧(r.2.2.2 = 0∨r.2.2.1 = 0∧r.2.1 = []):=by
  have hlen:(b ++ t).length = b.length + t.length:=List.length_append
  unfold m27
  rcases hk with rfl | rfl | rfl | rfl
  · simp only [Int.reduceBEq,Bool.false_eq_true,if_true,if_false]
    exact ⟨_,rfl,.inr rfl,by simp,Int.le_refl _,Int.natCast_nonneg _,.inl rfl⟩
  · simp only [Int.reduceBEq,Bool.false_eq_true,if_true,if_false]
    rw [wu64_eq _ (by omega) (by omega),wu64_eq _ (by omega) (by omega)]
    by_cases c:(b.length:Int) < n
    · rw [if_pos (by simpa using c)]
      exact ⟨_,rfl,.inl rfl,by simp,Int.le_refl _,Int.natCast_nonneg _,.inr ⟨rfl,rfl⟩⟩
    · rw [if_neg (by simpa using c),if_neg (by simp; omega),bnd_of h0 (by omega),bnd_of h0 (by omega),Option.bind_some,Option.bind_some,List.take_append_of_le_length (by omega)]
      have hl:(b.take n.toNat).length≤4096:=by rw [List.length_take]; omega
      have e:m52 false (b.take n.toNat) = some (.inr (false,b.take n.toNat)):=by
        unfold m52
        rw [if_neg (by decide),if_pos (.inr (by omega))]
      simp only [e,w64_eq n (by omega) (by omega)]
      exact ⟨_,rfl,.inr rfl,hl,h0,by dsimp only; omega,.inl rfl⟩
  · simp only [Int.reduceBEq,Bool.false_eq_true,if_true,if_false]
    rcases m53_two false b t (by omega) with ⟨⟨z,x,m,e⟩,q1,q2,q3,q4,q5,q6,q7⟩ | q1
    · rw [q1,q2]
      exact ⟨_,rfl,.inr rfl,q5,q3,q4,q7⟩
    · rw [q1]
      exact ⟨_,rfl,.inl rfl,by simp,Int.le_refl _,Int.natCast_nonneg _,.inr ⟨rfl,rfl⟩⟩
  · simp only [Int.reduceBEq,Bool.false_eq_true,if_true,if_false]
    by_cases c:4096 < (b.length:Int)
    · rw [if_pos (by simpa using c),if_pos (by simp; omega)]
      exact ⟨_,rfl,.inr rfl,by simp,Int.le_refl _,Int.natCast_nonneg _,.inr ⟨rfl,rfl⟩⟩
    · rw [if_neg (by simpa using c)]
      exact ⟨_,rfl,.inl rfl,by simp,Int.le_refl _,Int.natCast_nonneg _,.inr ⟨rfl,rfl⟩⟩
theorem m42_self (z z':Bool) (l:List (Bs×Bs)) (hl:l.length < 2 ^ 60):m42 z l z' l = some true:=by
  unfold m42
  rw [if_pos (by simp)]
  unfold l42_14
  refine iter_to (fun x:(Bool×List (Bs×Bs)×Bool×List (Bs×Bs)×Int×Int)=>x.2.1 = l∧x.2.2.2.1 = l∧x.2.2.2.2.1 = l.length∧0≤x.2.2.2.2.2∧x.2.2.2.2.2≤l.length) (fun x=>((l.length:Int) - x.2.2.2.2.2).toNat) (some true) ?_ _ ⟨rfl,rfl,rfl,by dsimp only; omega,by dsimp only; omega⟩
  rintro ⟨z,l1,z',l2,n,i⟩ hI
  dsimp only at hI ⊢
  obtain ⟨rfl,rfl,rfl,h0,h1⟩:=hI
  unfold s42_14
  by_cases c:i < l2.length
  · left
    rw [if_pos (by simpa using c),if_pos ⟨h0,c⟩,if_pos ⟨h0,c⟩,if_pos (by simp),w64_eq _ (by omega) (by omega)]
    exact ⟨_,rfl,⟨rfl,rfl,rfl,by dsimp only; omega,by dsimp only; omega⟩,by dsimp only; omega⟩
  · right
    rw [if_neg (by simpa using c)]; rfl
theorem m18_self (a b:Bs) (n:Int) (z:Bool) (l:List (Bs×Bs)) (y:Bool) (x:Bs) (hl:l.length < 2 ^ 60):m18 a b n z l y x a b n z l y x = some true:=by
  unfold m18
  rw [m42_self z z l hl]
  simp [m16]
theorem m19_self (a:Int) (b:Bs) (n:Int) (z:Bool) (l:List (Bs×Bs)) (y:Bool) (x:Bs) (hl:l.length < 2 ^ 60):m19 a b n z l y x a b n z l y x = some true:=by
  unfold m19
  rw [m42_self z z l hl]
  simp [m16]
theorem m9_two (z:Bool) (b t:Bs) (hz:z = true→b = []) (hb:(b ++ t).length < 2 ^ 30):∃ r:R9,m9 z b = some r∧(r.2.2.2.2.2.2.2.2 = 8∨m9 false (b ++ t) = some r) ∧
    r.2.2.2.2.1.length < 2 ^ 29∧r.2.2.2.2.2.2.1.length≤4096∧r.2.2.2.2.2.2.2.1≤b.length∧(r.2.2.2.2.2.2.2.2 = 0∨r.2.2.2.2.2.2.2.1 = 0):=by
  have hlen:(b ++ t).length = b.length + t.length:=List.length_append
  obtain ⟨q,h1,h2,h3⟩:=m23_two z b t hz hb
  unfold m9
  rw [h1,Option.bind_some]
  by_cases e:q.2.2.2.2.2.2.2.2.2.2 = 0
  · obtain ⟨rfl,p0,p1,p2⟩:=h3 e
    have h2:m23 false (b ++ t) = some q:=by
      rcases h2 with h2 | h2
      · omega
      · exact h2
    rw [h2,Option.bind_some,if_pos (by simpa using e),if_pos (by simpa using e)]
    obtain ⟨k,k1,k2⟩:=m26_T q.2.2.1 q.2.2.2.2.2.2.2.1 q.2.2.2.2.2.2.2.2.1 p2
    rw [k1,Option.bind_some,Option.bind_some]
    by_cases ke:k.2.2 = 0
    · obtain ⟨k3,k4,k5⟩:=k2 ke
      rw [if_pos (by simpa using ke),if_pos (by simpa using ke),bnd_of p0 p1,bnd_of p0 (by omega),Option.bind_some,Option.bind_some,List.drop_append_of_le_length (by omega)]
      obtain ⟨x,x1,x2,x3,x4,x5,x6⟩:=m27_two (b.drop q.2.2.2.2.2.2.2.2.2.1.toNat) t k.1 k.2.1 false (by rw [List.length_append,List.length_drop]; omega) (by omega) k4 k5
      rw [List.length_drop] at x5
      have fl:=fsz_len q.2.2.2.2.2.2.2.2.1
      rw [x1,Option.bind_some]
      by_cases xe:x.2.2.2 = 0
      · rw [if_pos (by simpa using xe)]
        refine ⟨_,rfl,.inr ?_,by dsimp only; omega,x3,by dsimp only; rw [w64_eq _ (by omega) (by omega)]; omega,.inl rfl⟩
        rcases x2 with x2 | x2
        · omega
        · rw [x2,Option.bind_some,if_pos (by simpa using xe)]
      · rw [if_neg (by simpa using xe)]
        refine ⟨_,rfl,?_,by simp,by simp,Int.natCast_nonneg _,.inr rfl⟩
        rcases x2 with x2 | x2
        · exact .inl x2
        · right
          rw [x2,Option.bind_some,if_neg (by simpa using xe)]
    · rw [if_neg (by simpa using ke),if_neg (by simpa using ke)]
      exact ⟨_,rfl,.inr rfl,by simp,by simp,Int.natCast_nonneg _,.inr rfl⟩
  · rw [if_neg (by simpa using e)]
    refine ⟨_,rfl,?_,by simp,by simp,Int.natCast_nonneg _,.inr rfl⟩
    rcases h2 with h2 | h2
    · exact .inl h2
    · right
      rw [h2,Option.bind_some,if_neg (by simpa using e)]
theorem m11_two (z:Bool) (b t:Bs) (me:Bs) (hz:z = true→b = []) (hb:(b ++ t).length < 2 ^ 30):∃ r:R11,m11 z b me false = some r∧(r.2.2.2.2.2.2.2.2 = 8∨∀ en,m11 false (b ++ t) me en = some r) ∧
    r.2.2.2.2.1.length < 2 ^ 29∧r.2.2.2.2.2.2.1.length≤4096∧r.2.2.2.2.2.2.2.1≤b.length∧(r.2.2.2.2.2.2.2.2 = 0∨r.2.2.2.2.2.2.2.1 = 0):=by
  have hlen:(b ++ t).length = b.length + t.length:=List.length_append
  obtain ⟨q,h1,h2,h3⟩:=m33_two z b t hz hb
  unfold m11
  rw [h1,Option.bind_some]
  by_cases e:q.2.2.2.2.2.2.2.2.2.2 = 0
  · obtain ⟨rfl,p0,p1,p2⟩:=h3 e
    have h2:m33 false (b ++ t) = some q:=by
      rcases h2 with h2 | h2
      · omega
      · exact h2
    obtain ⟨k,k1,k2⟩:=m36_T q.1 me q.2.2.1 q.2.2.2.2.2.2.2.1 q.2.2.2.2.2.2.2.2.1 p2
    rw [if_pos (by simpa using e),k1,Option.bind_some]
    by_cases ke:k.2.2 = 0
    · obtain ⟨k3,k4,k5⟩:=k2 ke
      rw [if_pos (by simpa using ke),bnd_of p0 p1,Option.bind_some]
      have X:=fun en=>m27_two (b.drop q.2.2.2.2.2.2.2.2.2.1.toNat) t k.1 k.2.1 en (by rw [List.length_append,List.length_drop]; omega) (by omega) k4 k5
      obtain ⟨x,x1,-,x3,x4,x5,x6⟩:=X false
      have x2:x.2.2.2 = 8∨∀ en,m27 false (b.drop q.2.2.2.2.2.2.2.2.2.1.toNat ++ t) k.1 k.2.1 en = some x:=by
        by_cases c:x.2.2.2 = 8
        · exact .inl c
        · right
          intro en
          obtain ⟨y,y1,y2,-⟩:=X en
          rw [x1] at y1
          obtain rfl:=Option.some.inj y1
          exact y2.resolve_left c
      rw [List.length_drop] at x5
      have fl:=fsz_len q.2.2.2.2.2.2.2.2.1
      have hm:∀ en,m27 false (b.drop q.2.2.2.2.2.2.2.2.2.1.toNat ++ t) k.1 k.2.1 en = some x→((m33 false (b ++ t)).bind fun yr2 =>
    if (yr2.2.2.2.2.2.2.2.2.2.2 == 0) = true then
      (m36 yr2.1 me yr2.2.2.1 yr2.2.2.2.2.2.2.2.1 yr2.2.2.2.2.2.2.2.2.1).bind fun yr5 =>
        if (yr5.2.2 == 0) = true then
          (bnd yr2.2.2.2.2.2.2.2.2.2.1 (b ++ t).length).bind fun yk8 =>
            (m27 false ((b ++ t).drop yk8) yr5.1 yr5.2.1 en).bind fun yr10 =>
              if (yr10.2.2.2 == 0) = true then
                (some (yr2.1,yr2.2.1,yr2.2.2.1,yr2.2.2.2.2.2.2.2.1,yr2.2.2.2.2.2.2.2.2.1,yr10.1,yr10.2.1,(w64 (yr2.2.2.2.2.2.2.2.2.2.1 + yr10.2.2.1)),(0:Int)):Option R11)
              else
                some ((0:Int),([]:Bs),(0:Int),true,([]:List (Bs×Bs)),true,([]:List UInt8),(0:Int),yr10.2.2.2)
        else
          some ((0:Int),([]:Bs),(0:Int),true,([]:List (Bs×Bs)),true,([]:List UInt8),(0:Int),yr5.2.2)
    else
      some ((0 : Int), ([] : Bs), (0 : Int), true, ([] : List (Bs × Bs)), true, ([] : List UInt8), (0 : Int), yr2.2.2.2.2.2.2.2.2.2.2)) = if (x.2.2.2 == 0) = true then
                (some (q.1,q.2.1,q.2.2.1,q.2.2.2.2.2.2.2.1,q.2.2.2.2.2.2.2.2.1,x.1,x.2.1,(w64 (q.2.2.2.2.2.2.2.2.2.1 + x.2.2.1)),(0:Int)):Option R11)
              else
                some ((0:Int),([]:Bs),(0:Int),true,([]:List (Bs×Bs)),true,([]:List UInt8),(0:Int),x.2.2.2):=by
        intro en hx
        rw [h2,Option.bind_some,if_pos (by simpa using e),k1,Option.bind_some,if_pos (by simpa using ke),bnd_of p0 (by omega),Option.bind_some,List.drop_append_of_le_length (by omega),hx,Option.bind_some]
      rw [x1,Option.bind_some]
      by_cases xe:x.2.2.2 = 0
      · rw [if_pos (by simpa using xe)]
        refine ⟨_,rfl,.inr fun en=>?_,by dsimp only; omega,x3,by dsimp only; rw [w64_eq _ (by omega) (by omega)]; omega,.inl rfl⟩
        rcases x2 with x2 | x2
        · omega
        · rw [hm en (x2 en),if_pos (by simpa using xe)]
      · rw [if_neg (by simpa using xe)]
        refine ⟨_,rfl,?_,by simp,by simp,Int.natCast_nonneg _,.inr rfl⟩
        rcases x2 with x2 | x2
        · exact .inl x2
        · right
          intro en
          rw [hm en (x2 en),if_neg (by simpa using xe)]
    · rw [if_neg (by simpa using ke)]
      refine ⟨_,rfl,.inr fun en=>?_,by simp,by simp,Int.natCast_nonneg _,.inr rfl⟩
      rw [h2,Option.bind_some,if_pos (by simpa using e),k1,Option.bind_some,if_neg (by simpa using ke)]
  · rw [if_neg (by simpa using e)]
    refine ⟨_,rfl,?_,by simp,by simp,Int.natCast_nonneg _,.inr rfl⟩
    rcases h2 with h2 | h2
    · exact .inl h2
    · right
      intro en
      rw [h2,Option.bind_some,if_neg (by simpa using e)]
theorem stays_28 (z:Bool) (b t me:Bs) (hz:z = true→b = []) (hb:(b ++ t).length < 2 ^ 30):j6_28 z b me false (b ++ t) = some true:=by
  obtain ⟨r,h1,h2,h3,h4,h5,h6⟩:=m11_two z b t me hz hb
  unfold j6_28
  rw [h1,Option.bind_some]
  by_cases c:r.2.2.2.2.2.2.2.2 = 8
  · rw [if_pos (by simpa using c)]; rfl
  · have h2:=h2.resolve_left c
    rw [if_neg (by simpa using c),h2 false,h2 true,Option.bind_some,Option.bind_some,if_pos (by simp),if_pos (by simp),m19_self _ _ _ _ _ _ _ (by omega),Option.bind_some,if_pos rfl,if_pos (by simp),if_pos (by simp),Option.bind_some,if_pos rfl,if_neg (by simp; omega),if_neg (by simp; omega)]
    rcases h6 with h6 | h6
    · rw [if_pos (by simpa using h6)]; rfl
    · split
      · rfl
      · rw [show (r.2.2.2.2.2.2.2.1 == 0) = true by simpa using h6]; rfl
theorem messageStays (z t0:Bool) (b t me:Bs) (hz:z = true→b = []) (hb:b.length + t.length < 2 ^ 30):m6 z b t0 t me = some true:=by
  have hlen:(b ++ t).length = b.length + t.length:=List.length_append
  unfold m6
  rw [if_pos (.inr (by omega)),if_pos (.inr (by omega))]
  obtain ⟨r,h1,h2,h3,h4,h5,h6⟩:=m9_two z b t hz (by omega)
  rw [h1,Option.bind_some]
  have k:=stays_28 z b t me hz (by omega)
  have k':j6_28v1 z b me false (b ++ t) = some true:=k
  by_cases c:r.2.2.2.2.2.2.2.2 = 8
  · rw [if_pos (by simpa using c)]; exact k
  · have h2:=h2.resolve_left c
    rw [if_neg (by simpa using c),h2,Option.bind_some,if_pos (by simp),if_pos (by simp),m18_self _ _ _ _ _ _ _ (by omega),Option.bind_some,if_pos rfl,if_neg (by simp; omega),if_neg (by simp; omega)]
    unfold j6_22
    rcases h6 with h6 | h6
    · rw [if_pos (by simpa using h6),if_neg (by decide)]; exact k'
    · split
      · rw [if_neg (by decide)]; exact k'
      · rw [show (r.2.2.2.2.2.2.2.1 == 0) = true by simpa using h6,if_neg (by decide)]; exact k'
theorem bsz_le (l:Bs):l.length≤(List.map (fun y:UInt8=>1) l).sum:=by
  induction l with
  | nil=>exact Nat.le_refl _
  | cons c l ih=>rw [List.map_cons,List.sum_cons,List.length_cons]; omega
end Go.Ab
end
