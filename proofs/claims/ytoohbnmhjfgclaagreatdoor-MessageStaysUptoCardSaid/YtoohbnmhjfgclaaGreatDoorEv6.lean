/- An abstract evaluator of the loaded code, and that what it says is what the machine does. -/
import Derived.Test.YtoohbnmhjfgclaaGreatDoorEv5
import Derived.Below
import Derived.Laws.BitsLemmas
set_option linter.all false
section
set_option linter.unusedVariables false
set_option linter.unusedSimpArgs false
namespace Go.Ab
open Go
def CF (F:List Nat) (G:Gh) (hp:Heap) (x:C) (v:Value):Prop :=
  CR G hp x v∨∃ k off sz len cap es,k ∈ F∧x = .d (.lst false es)∧CR G hp (.slc k off sz len cap) v∧listOf hp (.slc k off sz len cap) = some es
def VF (F:List Nat) (G:Gh) (hp:Heap):V1→Value→Prop
  | .c x,v=>CF F G hp x v
  | .agg cs,v=>∃ vs:List Value,v = .agg vs.toArray∧All2 (CF F G hp) cs vs
def AF (F:List Nat) (G:Gh) (hp:Heap):AV→Value→Prop
  | .v x,v=>VF F G hp x v
  | .tup xs,v=>∃ vs:List Value,v = .tuple vs.toArray∧All2 (VF F G hp) xs vs
  | .dead,_=>True
section
variable {F:List Nat} {G:Gh} {hp:Heap} {w:World}
theorem CF.mem {F':List Nat} (h:∀ k ∈ F,k ∈ F') {x:C} {v:Value} (r:CF F G hp x v):CF F' G hp x v:=by
  rcases r with r | ⟨k,off,sz,len,cap,es,hk,r⟩
  · exact .inl r
  · exact .inr ⟨k,off,sz,len,cap,es,h k hk,r⟩
theorem VF.mem {F':List Nat} (h:∀ k ∈ F,k ∈ F') {x:V1} {v:Value} (r:VF F G hp x v):VF F' G hp x v:=by
  cases x with
  | c x=>exact CF.mem h r
  | agg cs=>obtain ⟨vs,hv,r⟩:=r; exact ⟨vs,hv,r.mono fun _ _=>CF.mem h⟩
theorem AF.mem {F':List Nat} (h:∀ k ∈ F,k ∈ F') {x:AV} {v:Value} (r:AF F G hp x v):AF F' G hp x v:=by
  cases x with
  | v x=>exact VF.mem h r
  | tup xs=>obtain ⟨vs,hv,r⟩:=r; exact ⟨vs,hv,r.mono fun _ _=>VF.mem h⟩
  | dead=>trivial
theorem CR.cf {x:C} {v:Value} (r:CR G hp x v):CF F G hp x v:=.inl r
theorem VR.vf {x:V1} {v:Value} (r:VR G hp x v):VF F G hp x v:=by
  cases x with
  | c x=>exact CR.cf r
  | agg cs=>obtain ⟨vs,hv,r⟩:=r; exact ⟨vs,hv,r.mono fun _ _=>CR.cf⟩
theorem AR.af {x:AV} {v:Value} (r:AR G hp x v):AF F G hp x v:=by
  cases x with
  | v x=>exact VR.vf r
  | tup xs=>obtain ⟨vs,hv,r⟩:=r; exact ⟨vs,hv,r.mono fun _ _=>VR.vf⟩
  | dead=>trivial
def Fok (m:Nat) (hp:Heap) (F:List Nat):Prop:=∀ k ∈ F,m≤k∧∃ cs,hp[k]? = some (.cells cs)
theorem C.freeze_ok {m:Nat} {x:C} {r:C×List Nat} (h:x.freeze hp m = some r) {v:Value} (hr:CR G hp x v):CF r.2 G hp r.1 v∧Fok m hp r.2:=by
  cases x with
  | slc k off sz len cap =>
    simp only [C.freeze] at h
    split at h
    · cases h; exact ⟨.inl hr,by simp [Fok]⟩
    · rename_i hk
      simp only [Option.map_eq_some_iff] at h
      obtain ⟨es,hes,rfl⟩:=h
      refine ⟨.inr ⟨k,off,sz,len,cap,es,by simp,rfl,hr,hes⟩,fun j hj=>?_⟩
      simp only [List.mem_singleton] at hj
      subst hj
      refine ⟨by omega,?_⟩
      simp only [listOf,slcCells,Option.bind_eq_some_iff] at hes
      obtain ⟨cs,hcs,_⟩:=hes
      split at hcs
      · rename_i cs' hk'; exact ⟨cs',hk'⟩
      · cases hcs
  | _=>simp only [C.freeze,Option.some.injEq] at h; subst h; exact ⟨.inl hr,by simp [Fok]⟩
theorem Fok.append {m:Nat} {A B:List Nat} (a:Fok m hp A) (b:Fok m hp B):Fok m hp (A ++ B):=fun k hk=>by
  rcases List.mem_append.1 hk with h | h
  · exact a k h
  · exact b k h
theorem freezeAll_ok {m:Nat}:∀ {cs:List C} {r:List C×List Nat} {vs:List Value},freezeAll hp m cs = some r→All2 (CR G hp) cs vs→All2 (CF r.2 G hp) r.1 vs∧Fok m hp r.2:=by
  intro cs
  induction cs with
  | nil=>intro r vs h hr; simp only [freezeAll,Option.some.injEq] at h; subst h; cases hr; exact ⟨.nil,by simp [Fok]⟩
  | cons c cs ih =>
    intro r vs h hr
    simp only [freezeAll,Option.bind_eq_some_iff,Option.map_eq_some_iff] at h
    obtain ⟨q,hq,q2,hq2,rfl⟩:=h
    cases hr with
    | cons a t =>
      obtain ⟨h1,h2⟩:=C.freeze_ok hq a
      obtain ⟨h3,h4⟩:=ih hq2 t
      exact ⟨.cons (h1.mem fun k hk=>List.mem_append_left _ hk) (h3.mono fun _ _ r=>r.mem fun k hk=>List.mem_append_right _ hk),h2.append h4⟩
theorem V1.freeze_ok {m:Nat} {x:V1} {r:V1×List Nat} (h:x.freeze hp m = some r) {v:Value} (hr:VR G hp x v):VF r.2 G hp r.1 v∧Fok m hp r.2:=by
  cases x with
  | c x =>
    simp only [V1.freeze,Option.map_eq_some_iff] at h
    obtain ⟨q,hq,rfl⟩:=h
    exact C.freeze_ok hq hr
  | agg cs =>
    simp only [V1.freeze,Option.map_eq_some_iff] at h
    obtain ⟨q,hq,rfl⟩:=h
    obtain ⟨vs,hv,hr⟩:=hr
    obtain ⟨h1,h2⟩:=freezeAll_ok hq hr
    exact ⟨⟨vs,hv,h1⟩,h2⟩
theorem freezeVs_ok {m:Nat}:∀ {cs:List V1} {r:List V1×List Nat} {vs:List Value},freezeVs hp m cs = some r→All2 (VR G hp) cs vs→All2 (VF r.2 G hp) r.1 vs∧Fok m hp r.2:=by
  intro cs
  induction cs with
  | nil=>intro r vs h hr; simp only [freezeVs,Option.some.injEq] at h; subst h; cases hr; exact ⟨.nil,by simp [Fok]⟩
  | cons c cs ih =>
    intro r vs h hr
    simp only [freezeVs,Option.bind_eq_some_iff,Option.map_eq_some_iff] at h
    obtain ⟨q,hq,q2,hq2,rfl⟩:=h
    cases hr with
    | cons a t =>
      obtain ⟨h1,h2⟩:=V1.freeze_ok hq a
      obtain ⟨h3,h4⟩:=ih hq2 t
      exact ⟨.cons (h1.mem fun k hk=>List.mem_append_left _ hk) (h3.mono fun _ _ r=>r.mem fun k hk=>List.mem_append_right _ hk),h2.append h4⟩
theorem AV.freeze_ok {m:Nat} {x:AV} {r:AV×List Nat} (h:x.freeze hp m = some r) {v:Value} (hr:AR G hp x v):AF r.2 G hp r.1 v∧Fok m hp r.2:=by
  cases x with
  | v x =>
    simp only [AV.freeze,Option.map_eq_some_iff] at h
    obtain ⟨q,hq,rfl⟩:=h
    exact V1.freeze_ok hq hr
  | tup xs =>
    simp only [AV.freeze,Option.map_eq_some_iff] at h
    obtain ⟨q,hq,rfl⟩:=h
    obtain ⟨vs,hv,hr⟩:=hr
    obtain ⟨h1,h2⟩:=freezeVs_ok hq hr
    exact ⟨⟨vs,hv,h1⟩,h2⟩
  | dead=>simp only [AV.freeze,Option.some.injEq] at h; subst h; exact ⟨trivial,by simp [Fok]⟩
noncomputable def dropG (F:List Nat) (G:Gh) (σ:List Nat) (w:World):Gh :=
  open Classical in ⟨(subG G σ G.lo).β,fun b i=>if ∃ k ∈ F,(G.β k).at b then w.cell? ⟨b,i,none⟩ else G.μ b i,G.lo⟩
theorem drop_ok {m:Nat} {σ:List Nat} {h:Heap} (hn:σ.Nodup) (hr:restrict σ hp = some h) (hw:WR G hp w) (hF:Fok m hp F) (hno:∀ k ∈ F,k ∉ σ) :
    WR (dropG F G σ w) h w∧Up (subG G σ G.lo) h (dropG F G σ w) h∧(∀ x x' v,AF F G hp x v→x.ren (fun j=>σ.idxOf? j) = some x'→AR (dropG F G σ w) h x' v) ∧
    (∀ (G0:Gh) (hp0:Heap) (w0:World),Sn G0 hp0 w0 G hp w→σ.take hp0.length = List.range hp0.length→Sn G0 hp0 w0 (dropG F G σ w) h w):=by
  have hsub:=sub_WR hw.lo hn hr hw
  have hFb:∀ k ∈ F,∀ b,(G.β k).at b→∃ cs vs t fz,hp[k]? = some (.cells cs)∧w.heap[b]? = some (.cells vs t fz)∧cs.length≤vs.size ∧
      (∀ (i:Nat) c v,cs[i]? = some c→vs[i]? = some v→CR G hp c v)∧∀ i,G.μ b i = none:=fun k hk b hb=>by
    obtain ⟨_,cs,hc⟩:=hF k hk
    obtain ⟨b',vs,t,fz,e,q1,q2,q3,q4,q5,_⟩:=hw.ob k _ hc
    cases Bd.at_inj hb e
    exact ⟨cs,vs,t,fz,hc,q1,q3,q4,q5⟩
  have mono:∀ b i v,G.μ b i = some v→(dropG F G σ w).μ b i = some v:=fun b i v hm=>by
    classical
    simp only [dropG]
    split
    · rename_i hk
      obtain ⟨k,hk,hb⟩:=hk
      obtain ⟨_,_,_,_,_,_,_,_,q⟩:=hFb k hk b hb
      rw [q i] at hm
      cases hm
    · exact hm
  have up:Up (subG G σ G.lo) h (dropG F G σ w) h:=⟨mono,fun k o ho=>⟨o,ho,by cases o <;> simp [KR,dropG]⟩,rfl⟩
  have apart:∀ i b,i < h.length→((subG G σ G.lo).β i).at b→¬ ∃ k ∈ F,(G.β k).at b:=fun i b hi hat ⟨k,hk,hb⟩=>by
    rw [restrict_len hr] at hi
    have hs:σ[i]? = some σ[i]:=List.getElem?_eq_getElem hi
    simp only [subG,hs] at hat
    obtain ⟨o1,_,q1,_⟩:=restrict_get hr hs
    obtain ⟨_,cs,hc⟩:=hF k hk
    have:=hw.inj _ _ b (lt_of_get q1) (lt_of_get hc) hat hb
    exact hno k hk (this ▸ List.getElem_mem hi)
  have keep:∀ i b j,i < h.length→((subG G σ G.lo).β i).at b→(subG G σ G.lo).μ b j = none→(dropG F G σ w).μ b j = none:=fun i b j hi hat hm=>by
    classical
    simp only [dropG]
    rw [if_neg (apart i b hi hat)]
    exact hm
  have hwr:WR (dropG F G σ w) h w:=by
    refine ⟨fun b i v hm=>?_,fun k o ho=>?_,hsub.inj,hw.lo⟩
    · classical
      simp only [dropG] at hm
      split at hm
      · exact hm
      · exact hw.mu b i v hm
    · have hk:=lt_of_get ho
      have hob:=hsub.ob k o ho
      have cr:∀ {x v},CR (subG G σ G.lo) h x v→CR (dropG F G σ w) h x v:=fun r=>r.up up
      cases o with
      | cells cs =>
        obtain ⟨b,vs,t,fz,h1,h2,h3,h4,h5,h6,h7⟩:=hob
        exact ⟨b,vs,t,fz,h1,h2,h3,h4,fun i c v hc hv=>cr (h5 i c v hc hv),fun i=>keep k b i hk h1 (h6 i),h7⟩
      | gone=>exact hob
      | row n sz =>
        simp only [OR] at hob ⊢
        show (match (subG G σ G.lo).β k with | .none=>True | .tail b o s c=>_ | .blk _=>False)
        cases hb:(subG G σ G.lo).β k with
        | none=>trivial
        | blk b=>rw [hb] at hob; exact hob.elim
        | tail b o s c =>
          rw [hb] at hob
          obtain ⟨h0,h1,h2,h3,h4⟩:=hob
          exact ⟨h0,h1,h2,h3,fun i hi=>keep k b i hk (by rw [hb]; rfl) (h4 i hi)⟩
      | amap kvs =>
        obtain ⟨b,es,c,h1,h2,h3,h4⟩:=hob
        exact ⟨b,es,c,h1,h2,h3.mono fun _ _ r=>⟨r.1,r.2.up up⟩,fun i=>keep k b i hk (by rw [h1]; rfl) (h4 i)⟩
      | siter s p =>
        obtain ⟨b,h1,h2,h3⟩:=hob
        exact ⟨b,h1,h2,fun i=>keep k b i hk (by rw [h1]; rfl) (h3 i)⟩
  have cf:∀ x x' v,CF F G hp x v→x.ren (fun j=>σ.idxOf? j) = some x'→CR (dropG F G σ w) h x' v:=by
    rintro x x' v (hc | ⟨k,off,sz,len,cap,es,hk,rfl,hc,hes⟩) hx
    · exact (CR.ren (sub_ren hr) hx hc).up up
    · simp only [C.ren,Option.some.injEq] at hx
      subst hx
      obtain ⟨b,c,off',hib,rfl,hlc,hcap,hoff,_⟩:=hc
      obtain ⟨_,cs0,hcs0⟩:=hF k hk
      have hb:=hib.at hcs0
      obtain ⟨cs,vs,t,fz,q1,q2,q3,q4,q5⟩:=hFb k hk b hb
      simp only [listOf,slcCells,q1,Option.bind_eq_some_iff,Option.map_eq_some_iff] at hes
      obtain ⟨cells,hcells,ds,hds,rfl⟩:=hes
      split at hcells
      · rename_i hle
        cases hcells
        have hdl:ds.length = len * sz:=by rw [mapM_len hds]; simp; omega
        have hmu:∀ i,(dropG F G σ w).μ b i = vs[i]? := fun i=>by
          classical
          simp only [dropG]
          rw [if_pos ⟨k,hk,hb⟩,cell_at q2]
        by_cases hz:c = 0
        · have hl0:len = 0:=by omega
          subst hl0 hz
          exact DR.mk (nl:=false) (es:=[]) rfl (Nat.le_refl _) (sz:=sz) (by simp) (fun i j e c he=>by simp at he)
        · have ho:=hoff hz
          subst ho
          have key:DR (dropG F G σ w).μ (.lst false (chunk sz len ds)) (.slice (some ⟨b,off',none⟩) (chunk sz len ds).length c):=by
            refine DR.mk rfl (by rw [chunk_length]; exact hlc) (chunk_all (by omega)) fun i j e d he hd=>?_
            have hi:=lt_of_get he
            rw [chunk_length] at hi
            rw [chunk_get _ _ _ _ hi] at he
            cases he
            rw [List.getElem?_take] at hd
            split at hd
            · rename_i hj
              rw [List.getElem?_drop] at hd
              obtain ⟨cc,hcc,hcd⟩:=(mapM_all2 hds).flip.get hd
              rw [List.getElem?_take] at hcc
              split at hcc
              · rw [List.getElem?_drop] at hcc
                have hlt:=lt_of_get hcc
                have hv:vs[off' + (i * sz + j)]? = some vs[off' + (i * sz + j)]:=Array.getElem?_eq_getElem (by omega)
                refine ⟨_,by rw [hmu,Nat.add_assoc]; exact hv,?_⟩
                exact (toD_rel hcd (q4 _ _ _ hcc hv)).mono mono
              · cases hcc
            · cases hd
          rw [chunk_length] at key
          exact key
      · cases hcells
  have cfs:∀ cs cs' vs,All2 (CF F G hp) cs vs→cs.mapM (C.ren fun j=>σ.idxOf? j) = some cs'→All2 (CR (dropG F G σ w) h) cs' vs:=by
    intro cs cs' vs hc hx
    have h2:=mapM_all2 hx
    clear hx
    induction h2 generalizing vs with
    | nil=>cases hc; exact .nil
    | cons hq _ ih=>cases hc with
      | cons a t=>exact .cons (cf _ _ _ a hq) (ih _ t)
  have vf:∀ x x' v,VF F G hp x v→x.ren (fun j=>σ.idxOf? j) = some x'→VR (dropG F G σ w) h x' v:=by
    intro x x' v hv hx
    cases x with
    | c x=>simp only [V1.ren,Option.map_eq_some_iff] at hx; obtain ⟨y,hy,rfl⟩:=hx; exact cf _ _ _ hv hy
    | agg cs =>
      simp only [V1.ren,Option.map_eq_some_iff] at hx
      obtain ⟨y,hy,rfl⟩:=hx
      obtain ⟨vs,hv,r⟩:=hv
      exact ⟨vs,hv,cfs _ _ _ r hy⟩
  refine ⟨hwr,up,fun x x' v hv hx=>?_,fun G0 hp0 w0 sn htake=>?_⟩
  · cases x with
    | v x=>simp only [AV.ren,Option.map_eq_some_iff] at hx; obtain ⟨y,hy,rfl⟩:=hx; exact vf _ _ _ hv hy
    | tup xs =>
      simp only [AV.ren,Option.map_eq_some_iff] at hx
      obtain ⟨y,hy,rfl⟩:=hx
      obtain ⟨vs,hv,r⟩:=hv
      refine ⟨vs,hv,?_⟩
      have h2:=mapM_all2 hy
      clear hy hv
      induction h2 generalizing vs with
      | nil=>cases r; exact .nil
      | cons hq _ ih=>cases r with
        | cons a t=>exact .cons (vf _ _ _ a hq) (ih _ t)
    | dead=>simp only [AV.ren,Option.some.injEq] at hx; subst hx; trivial
  · have ext:∀ k,k < hp0.length→σ[k]? = some k:=fun k hk=>by
      have:(σ.take hp0.length)[k]? = some k:=by rw [htake]; simp [hk]
      rw [List.getElem?_take,if_pos hk] at this
      exact this
    refine ⟨fun b i v hm=>mono b i v (sn.mu b i v hm),fun b i hm=>?_,fun k b hk hat=>?_,sn.same,sn.size,fun k o ho=>?_,sn.io,sn.lo⟩
    · classical
      simp only [dropG] at hm
      split at hm
      · rename_i hk
        obtain ⟨k,hk,hb⟩:=hk
        obtain ⟨_,cs,hc⟩:=hF k hk
        exact .inr (sn.bdNew k b (lt_of_get hc) hb)
      · exact sn.muNew b i hm
    · have hk':=hk
      rw [restrict_len hr] at hk'
      have hs:σ[k]? = some σ[k]:=List.getElem?_eq_getElem hk'
      have hat':((subG G σ G.lo).β k).at b:=hat
      simp only [subG,hs] at hat'
      obtain ⟨o1,_,q1,_⟩:=restrict_get hr hs
      exact sn.bdNew _ b (lt_of_get q1) hat'
    · obtain ⟨o',ho',hk⟩:=sn.kind k o ho
      have hs:=ext k (lt_of_get ho)
      obtain ⟨o1,o2,q1,q2,q3⟩:=restrict_get hr hs
      rw [ho'] at q1
      cases q1
      have hβ:(dropG F G σ w).β k = G.β k:=by simp [dropG,subG,hs]
      exact ⟨o2,q2,KR_ren2 hk q3 hβ.symm⟩
end
end Go.Ab
end
section
set_option linter.unusedVariables false
set_option linter.unusedSimpArgs false
namespace Go.Ab
open Go
section
variable {G:Gh} {hp:Heap} {w:World}
theorem C.ro_ok {x:C} {v:Value} (h:CR G hp x v):CR G hp x.ro v:=by
  cases x with
  | own nl es k=>exact h.1
  | _=>exact h
theorem V1.ro_ok' {x:V1} {v:Value} (h:VR G hp x v):VR G hp x.ro v:=by
  cases x with
  | c x=>exact C.ro_ok h
  | agg cs =>
    obtain ⟨vs,hv,r⟩:=h
    refine ⟨vs,hv,?_⟩
    clear hv
    induction r with
    | nil=>exact .nil
    | cons a _ ih=>exact .cons (C.ro_ok a) ih
theorem frzH_get:∀ (m:Nat) (hp:Heap) (k:Nat),(frzH m hp)[k]? = (hp[k]?).map fun (o:Ob)=>if k < m then o else o.frz:=by
  intro m hp
  induction hp generalizing m with
  | nil=>intro k; cases m <;> rfl
  | cons o r ih =>
    intro k
    cases m with
    | zero=>cases k with
      | zero=>rfl
      | succ k=>simp only [frzH,List.getElem?_cons_succ,ih]; simp
    | succ m=>cases k with
      | zero=>simp [frzH]
      | succ k=>simp only [frzH,List.getElem?_cons_succ,ih]; simp
theorem frzH_len (m:Nat) (hp:Heap):(frzH m hp).length = hp.length:=by
  induction hp generalizing m with
  | nil=>cases m <;> rfl
  | cons o r ih=>cases m <;> simp [frzH,ih]
theorem Ob.frz_cases (o:Ob):o.frz = o∨∃ kvs,o = .amap kvs:=by
  cases o <;> first | exact .inl rfl | exact .inr ⟨_,rfl⟩
def Frz (hp hp':Heap):Prop:=hp'.length = hp.length∧∀ (k:Nat) (o:Ob),hp[k]? = some o→hp'[k]? = some o∨hp'[k]? = some o.frz
theorem frzH_frz (m:Nat) (hp:Heap):Frz hp (frzH m hp):=⟨frzH_len m hp,fun k o h=>by
  rw [frzH_get,h]
  by_cases hk:k < m
  · exact .inl (by simp [hk])
  · exact .inr (by simp [hk])⟩
theorem Isb.frz {hp':Heap} (f:Frz hp hp') {k b:Nat} (h:Isb G hp k b):Isb G hp' k b:=by
  obtain ⟨o,ho,hr,hb⟩:=h
  rcases f.2 k o ho with e | e
  · exact ⟨o,e,hr,hb⟩
  · rcases Ob.frz_cases o with q | ⟨kvs,rfl⟩
    · rw [q] at e; exact ⟨o,e,hr,hb⟩
    · refine ⟨_,e,rfl,.inr ?_⟩
      rcases hb with hb | hb
      · cases hb
      · exact hb
theorem frz_get {hp':Heap} (f:Frz hp hp') {k:Nat} {o:Ob} (ho:hp[k]? = some o) (hn:o.frz = o):hp'[k]? = some o:=by
  rcases f.2 k o ho with e | e
  · exact e
  · rw [hn] at e; exact e
theorem CR.frz {hp':Heap} (f:Frz hp hp') {x:C} {v:Value} (h:CR G hp x v):CR G hp' x v:=by
  cases x with
  | d x=>exact h
  | own nl es k =>
    obtain ⟨h1,n,sz,h2,h3⟩:=h
    exact ⟨h1,n,sz,frz_get f h2 rfl,h3⟩
  | slc k off sz len cap =>
    obtain ⟨b,c,off',h1,h2,h3,h4,h5,h6⟩:=h
    refine ⟨b,c,off',h1.frz f,h2,h3,h4,h5,fun q r=>?_⟩
    rcases h6 q r with h6 | h6
    · exact .inl (frz_get f h6 rfl)
    · exact .inr h6
  | ptr k off=>obtain ⟨b,h1,h2⟩:=h; exact ⟨b,h1.frz f,h2⟩
  | cptr cs off=>exact h
  | mp k=>obtain ⟨b,h1,h2⟩:=h; exact ⟨b,h1.frz f,h2⟩
  | it k=>obtain ⟨b,h1,h2⟩:=h; exact ⟨b,h1.frz f,h2⟩
  | any=>exact h
  | nn=>exact h
  | nw es=>exact h
  | fn g caps =>
    obtain ⟨vs,h1,h2⟩:=h
    exact ⟨vs,h1,h2.mono fun p x ⟨b,h3,h4⟩=>⟨b,h3.frz f,h4⟩⟩
theorem VR.frz {hp':Heap} (f:Frz hp hp') {x:V1} {v:Value} (h:VR G hp x v):VR G hp' x v:=by
  cases x with
  | c x=>exact CR.frz f h
  | agg cs=>obtain ⟨vs,hv,r⟩:=h; exact ⟨vs,hv,r.mono fun _ _=>CR.frz f⟩
theorem AR.frz {hp':Heap} (f:Frz hp hp') {x:AV} {v:Value} (h:AR G hp x v):AR G hp' x v:=by
  cases x with
  | v x=>exact VR.frz f h
  | tup xs=>obtain ⟨vs,hv,r⟩:=h; exact ⟨vs,hv,r.mono fun _ _=>VR.frz f⟩
  | dead=>trivial
theorem OR.frz {hp':Heap} (f:Frz hp hp') {k:Nat} {o:Ob} (h:OR G hp w k o):OR G hp' w k o:=by
  cases o with
  | cells cs =>
    obtain ⟨b,vs,t,fz,h1,h2,h3,h4,h5,h6⟩:=h
    exact ⟨b,vs,t,fz,h1,h2,h3,h4,fun i c v a b=>(h5 i c v a b).frz f,h6⟩
  | amap kvs =>
    obtain ⟨b,es,clock,h1,h2,h3,h4⟩:=h
    exact ⟨b,es,clock,h1,h2,h3.mono fun _ _ q=>⟨q.1,q.2.frz f⟩,h4⟩
  | row n sz=>exact h
  | siter s p=>exact h
  | gone=>exact h
theorem OR.frzO {k:Nat} {o:Ob} (h:OR G hp w k o):OR G hp w k o.frz:=by
  cases o with
  | amap kvs =>
    obtain ⟨b,es,clock,h1,h2,h3,h4⟩:=h
    refine ⟨b,es,clock,h1,h2,?_,h4⟩
    generalize es.toList = l at h3
    clear h2
    induction h3 with
    | nil=>exact .nil
    | cons a _ ih=>exact .cons ⟨a.1,V1.ro_ok' a.2⟩ ih
  | _=>exact h
theorem WR.frz {hp':Heap} (f:Frz hp hp') (h:WR G hp w):WR G hp' w:=by
  refine ⟨h.mu,fun k o ho=>?_,fun k k' b hk hk'=>h.inj k k' b (f.1 ▸ hk) (f.1 ▸ hk'),h.lo⟩
  have hk:k < hp.length:=f.1 ▸ lt_of_get ho
  obtain ⟨o1,h1⟩:∃ o1,hp[k]? = some o1:=⟨hp[k],List.getElem?_eq_getElem hk⟩
  rcases f.2 k o1 h1 with e | e
  · rw [e] at ho; cases ho; exact (h.ob k _ h1).frz f
  · rw [e] at ho; cases ho; exact ((h.ob k _ h1).frzO).frz f
theorem finishN_ok {G0:Gh} {hp0:Heap} {w0:World} {m:Nat} {b:Bool} (hm:hp0.length = m) {v:AV} {r:AV×Heap} (h:finishN m b hp v = some r) (hw:WR G hp w) (sn:Sn G0 hp0 w0 G hp w) {x:Value} (hv:AR G hp v x) :
    ∃ G',AR G' r.2 r.1 x∧WR G' r.2 w∧Sn G0 hp0 w0 G' r.2 w:=by
  simp only [finishN,Option.bind_eq_some_iff] at h
  obtain ⟨⟨v1,F⟩,hf,h⟩:=h
  split at h
  case isFalse=>cases h
  rename_i hc
  simp only [Option.bind_eq_some_iff,Option.map_eq_some_iff] at h
  obtain ⟨v2,hv2,h',hr,rfl⟩:=h
  obtain ⟨haf,hF0⟩:=AV.freeze_ok hf hv
  have hF:Fok m hp F:=fun k hk=>by
    obtain ⟨h1,cs,h2⟩:=hF0 k hk
    refine ⟨?_,cs,h2⟩
    have:=lt_of_get h2
    split at h1 <;> omega
  have hno:∀ k ∈ F,k ∉ closeM m hp v1.refs:=fun k hk hin=>by
    have:=List.all_eq_true.1 hc.2 k hk
    simp at this
    exact this hin
  obtain ⟨h1,_,h3,h4⟩:=drop_ok (closeM_nodup _ _ _) hr hw hF hno
  exact ⟨_,h3 _ _ _ haf hv2,h1,h4 _ _ _ sn (by rw [hm]; exact hc.1)⟩
theorem AR.ro {G:Gh} {hp:Heap} {v:AV} {x:Value} (h:AR G hp v x):AR G hp v.ro x:=by
  cases v with
  | v y=>exact ro_rel h
  | tup xs=>obtain ⟨vs,hv,r⟩:=h; exact ⟨vs,hv,map_ro r⟩
  | dead=>trivial
theorem plainC_ok {E:Env} {g:FuncId} {b:Bool} {c:List V1→Heap→Option (AV×Heap)} (h:CallP E g c):CallP E g (plainC b c):=by
  cases b with
  | false=>exact h
  | true =>
    intro args hp v h' hr G w vs hb hw ha
    simp only [plainC,if_true,Option.bind_eq_some_iff] at hr
    obtain ⟨r,h1,h2⟩:=hr
    refine (h args hp r.1 r.2 h1 G w vs hb hw ha).mono ?_
    rintro e w' ⟨x,G',rfl,hx,hw',sn⟩
    obtain ⟨G2,q1,q2,q3⟩:=finishN_ok rfl h2 hw' sn hx.ro
    exact ⟨x,G2,rfl,q1,q2,q3⟩
theorem Sn.frz {G0:Gh} {hp0:Heap} {w0:World} {hp':Heap} (f:Frz hp hp') (hlow:∀ k,k < hp0.length→hp'[k]? = hp[k]?) (sn:Sn G0 hp0 w0 G hp w):Sn G0 hp0 w0 G hp' w :=
  ⟨sn.mu,sn.muNew,fun k b hk=>sn.bdNew k b (f.1 ▸ hk),sn.same,sn.size,fun k o ho=>by
    obtain ⟨o',h1,h2⟩:=sn.kind k o ho
    exact ⟨o',by rw [hlow k (lt_of_get ho)]; exact h1,h2⟩,sn.io,sn.lo⟩
theorem finish_ok {G0:Gh} {hp0:Heap} {w0:World} {m:Nat} {b:Bool} (hm:hp0.length = m) {v:AV} {r:AV×Heap} (h:finish m b hp v = some r) (hw:WR G hp w) (sn:Sn G0 hp0 w0 G hp w) {x:Value} (hv:AR G hp v x) :
    ∃ G',AR G' r.2 r.1 x∧WR G' r.2 w∧Sn G0 hp0 w0 G' r.2 w:=by
  unfold finish at h
  cases b with
  | true=>exact finishN_ok hm h hw sn hv
  | false =>
    have f:=frzH_frz m hp
    exact finishN_ok hm h (hw.frz f) (sn.frz f fun k hk=>by
      show (frzH m hp)[k]? = hp[k]?
      rw [frzH_get]
      cases hp[k]? with
      | none=>rfl
      | some o=>show some (if k < m then o else o.frz) = some o; rw [if_pos (by omega)]) (hv.frz f)
theorem listOf_append {x:C} {es:List (List D)} (ext:Heap) (h:listOf hp x = some es):listOf (hp ++ ext) x = some es:=by
  cases x with
  | slc k off sz len cap =>
    simp only [listOf,slcCells] at h ⊢
    cases hk:hp[k]? with
    | none=>rw [hk] at h; simp at h
    | some o=>rw [List.getElem?_append_left (lt_of_get hk),hk]; rw [hk] at h; exact h
  | d x=>exact h
  | own nl es k=>exact h
  | _=>simp [listOf,C.list] at h
theorem AF.ext {F:List Nat} {G':Gh} {e:Heap} (sn:Sn G hp w G' (hp ++ e) w) {x:AV} {v:Value} (h:AF F G hp x v):AF F G' (hp ++ e) x v:=by
  have cf:∀ x v,CF F G hp x v→CF F G' (hp ++ e) x v:=by
    rintro x v (h | ⟨k,off,sz,len,cap,es,hk,rfl,hc,hes⟩)
    · exact .inl (h.mono sn)
    · exact .inr ⟨k,off,sz,len,cap,es,hk,rfl,hc.mono sn,listOf_append e hes⟩
  have vf:∀ x v,VF F G hp x v→VF F G' (hp ++ e) x v:=by
    intro x v h
    cases x with
    | c x=>exact cf _ _ h
    | agg cs=>obtain ⟨vs,hv,r⟩:=h; exact ⟨vs,hv,r.mono cf⟩
  cases x with
  | v x=>exact vf _ _ h
  | tup xs=>obtain ⟨vs,hv,r⟩:=h; exact ⟨vs,hv,r.mono vf⟩
  | dead=>trivial
theorem coerce_ok {m:Nat} {co:Co} {x:AV} {r:AV×Heap×List Nat} (h:coerce m hp co x = some r) {v:Value} (hw:WR G hp w) (hv:AR G hp x v) :
    ∃ G' e,r.2.1 = hp ++ e∧WR G' (hp ++ e) w∧Sn G hp w G' (hp ++ e) w∧AF r.2.2 G' (hp ++ e) r.1 v∧Fok m (hp ++ e) r.2.2:=by
  have same:∀ (y:AV),AR G hp y v→r = (y,hp,[])→∃ G' e,r.2.1 = hp ++ e∧WR G' (hp ++ e) w∧Sn G hp w G' (hp ++ e) w∧AF r.2.2 G' (hp ++ e) r.1 v∧Fok m (hp ++ e) r.2.2:=by
    rintro y hy rfl
    refine ⟨G,[],by simp,?_,?_,?_,by simp [Fok]⟩ <;> rw [List.append_nil]
    · exact hw
    · exact Sn.refl _ _ _
    · exact AR.af hy
  unfold coerce at h
  split at h
  · rename_i c
    simp only [Option.map_eq_some_iff] at h
    obtain ⟨q,hq,rfl⟩:=h
    unfold coerceC at hq
    split at hq
    · rename_i nl es k; cases hq; exact same (.v (.c (.d (.lst nl es)))) (show DR _ _ _ from hv.1) rfl
    · simp only [Option.map_eq_some_iff] at hq
      obtain ⟨q2,hq2,rfl⟩:=hq
      obtain ⟨h1,h2⟩:=C.freeze_ok hq2 hv
      refine ⟨G,[],by simp,?_,?_,?_,?_⟩ <;> rw [List.append_nil]
      · exact hw
      · exact Sn.refl _ _ _
      · exact h1
      · exact h2
    · cases hq
      obtain ⟨G',hw',sn,hb,hmu⟩:=name_ok (n:=0) hw
      refine ⟨G',[.row 0 0],rfl,hw',sn,?_,by simp [Fok]⟩
      obtain ⟨ad,cap,sz,vs,rfl,h1,h2,h3,_⟩:=DR.inv hv
      have had:ad = none:=by cases ad <;> simp at h2 ⊢
      have hc0:=h3 had
      subst had hc0
      exact .inl ⟨DR.nil,0,0,by simp,Nat.le_refl _,fun _=>by rw [hb]; exact ⟨none,rfl⟩⟩
    · cases hq; exact same _ hv rfl
  · cases h; exact same _ hv rfl
theorem coerceAll_ok {m:Nat} {s:Nat→AV} {tmps:Array Value}:∀ {L:List (Nat×Co)} {G:Gh} {hp:Heap} {r:List AV×Heap×List Nat},coerceAll m s L hp = some r→WR G hp w→SR G hp s tmps →
    ∃ G' e,r.2.1 = hp ++ e∧WR G' (hp ++ e) w∧Sn G hp w G' (hp ++ e) w∧All2 (fun (p:Nat×Co) y=>AF r.2.2 G' (hp ++ e) y (tmps.getD p.1 undef)) L r.1∧Fok m (hp ++ e) r.2.2:=by
  intro L
  induction L with
  | nil =>
    intro G hp r h hw hs
    simp only [coerceAll,Option.some.injEq] at h
    subst h
    refine ⟨G,[],by simp,?_,?_,.nil,by simp [Fok]⟩ <;> rw [List.append_nil]
    · exact hw
    · exact Sn.refl _ _ _
  | cons p L ih =>
    intro G hp r h hw hs
    obtain ⟨i,co⟩:=p
    simp only [coerceAll,Option.bind_eq_some_iff,Option.map_eq_some_iff] at h
    obtain ⟨x,hx,y,hy,rfl⟩:=h
    obtain ⟨G1,e1,q1,q2,q3,q4,q5⟩:=coerce_ok hx hw (hs i)
    rw [q1] at hy
    obtain ⟨G2,e2,p1,p2,p3,p4,p5⟩:=ih hy q2 (fun t=>(hs t).mono q3)
    refine ⟨G2,e1 ++ e2,by simp [p1],?_,?_,?_,?_⟩ <;> rw [← List.append_assoc]
    · exact p2
    · exact q3.trans p3
    · exact .cons ((AF.ext p3 q4).mem fun k hk=>List.mem_append_left _ hk) (p4.mono fun _ _ r=>r.mem fun k hk=>List.mem_append_right _ hk)
    · refine Fok.append (fun k hk=>?_) p5
      obtain ⟨a1,cs,a2⟩:=q5 k hk
      exact ⟨a1,cs,by rw [List.getElem?_append_left (lt_of_get a2)]; exact a2⟩
theorem slots_rel {tmps:Array Value}:∀ {L:List (Nat×Co)} {vs:List AV},All2 (fun (p:Nat×Co) y=>AR G hp y (tmps.getD p.1 undef)) L vs→SR G hp (slots L vs) tmps:=by
  intro L vs h
  induction h with
  | nil=>intro t; trivial
  | cons a _ ih =>
    rename_i p y _ _ _
    intro t
    simp only [slots,upd]
    split
    · rename_i e; subst e; exact a
    · exact ih t
theorem canon_ok {n m:Nat} {G0:Gh} {hp0:Heap} {w0:World} (hm:hp0.length = m) {L:List (Nat×Co)} {st:St} {r:List AV×Heap} (h:canon m L st = some r) {a:Act} (hi:Inv n G0 hp0 w0 st a w) :
    Inv n G0 hp0 w0 ⟨slots L r.1,r.2⟩ a w:=by
  simp only [canon,Option.bind_eq_some_iff] at h
  obtain ⟨⟨vs,hp1,F⟩,hc,h⟩:=h
  split at h
  case isFalse=>cases h
  rename_i hcond
  simp only [Option.bind_eq_some_iff,Option.map_eq_some_iff] at h
  obtain ⟨vs',hvs',h',hr,rfl⟩:=h
  obtain ⟨⟨G,hs,hw,sn⟩,hsz,hdef⟩:=hi
  obtain ⟨G1,e,q1,q2,q3,q4,q5⟩:=coerceAll_ok hc hw hs
  simp only at q1 q4 q5 hr hcond hvs'
  subst q1
  have hno:∀ k ∈ F,k ∉ closeM m (st.hp ++ e) (vs.flatMap AV.refs):=fun k hk hin=>by
    have:=List.all_eq_true.1 hcond.2 k hk
    simp at this
    exact this hin
  obtain ⟨h1,_,h3,h4⟩:=drop_ok (closeM_nodup _ _ _) hr q2 q5 hno
  refine ⟨⟨_,slots_rel ?_,h1,h4 _ _ _ (sn.trans q3) (by rw [hm]; exact hcond.1)⟩,hsz,hdef⟩
  have h2:=mapM_all2 hvs'
  exact All2.comp (T:=fun (p:Nat×Co) y=>AR _ h' y (a.tmps.getD p.1 undef)) (fun p y y' ha hb=>h3 y y' _ ha hb) q4 h2
end
def Ex.conv:Ex→Exit
  | .normal=>.normal
  | .exit i=>.exit i
  | .goto l=>.goto l
  | .ret=>.ret
def ItP (it:It):Prop:=∀ g x y,it g x = some y→∃ k,itN k g x = some y
section
variable {E:Env} {f:FuncId} {m n:Nat} {call:Caller} {it:It} {G0:Gh} {hp0:Heap} {w0:World}
theorem den_ok (he:EnvOk E) (hcall:∀ g,CallP E g (plainC (E.plain g) (call g))) (hb0:BaseOk E G0 hp0 w0) (hit:ItP it) (hm:hp0.length = m):∀ (c:Code),codeOk n c = true →
    (∀ st ex st' a w,den E f m call it c none st = some (ex,st')→Inv n G0 hp0 w0 st a w→c.wp E.P (fun e a' w'=>e = ex.conv∧Inv n G0 hp0 w0 st' a' w') a w) ∧
    (∀ l rest st ex st' a w,findLabel c l = some rest→den E f m call it c (some l) st = some (ex,st')→Inv n G0 hp0 w0 st a w→rest.wp E.P (fun e a' w'=>e = ex.conv∧Inv n G0 hp0 w0 st' a' w') a w):=by
  intro c
  induction c with
  | skip =>
    intro _
    refine ⟨fun st ex st' a w h hi=>?_,fun l rest st ex st' a w hl=>by simp [findLabel] at hl⟩
    simp only [den,Option.some.injEq,Prod.mk.injEq] at h
    obtain ⟨rfl,rfl⟩:=h
    exact wp_skip ⟨rfl,hi⟩
  | region id ops draw =>
    intro hok
    refine ⟨fun st ex st' a w h hi=>?_,fun l rest st ex st' a w hl=>by simp [findLabel] at hl⟩
    cases draw with
    | false =>
      simp only [den,Option.map_eq_some_iff,Prod.mk.injEq] at h
      obtain ⟨st2,h2,rfl,rfl⟩:=h
      refine wp_region ?_
      have:=runOps_ok (Q:=fun e a' w'=>e = Ex.conv .normal∧Inv n G0 hp0 w0 st2 a' w') he hcall hb0 hok ops.toList 0 st a w (by simp) h2 hi (fun a' w' hi'=>⟨rfl,hi'⟩)
      rwa [List.range_eq_range',← Array.length_toList]
    | true =>
      simp only [den] at h
      split at h
      case isFalse=>cases h
      rename_i hd
      simp only [Option.map_eq_some_iff,Prod.mk.injEq] at h
      obtain ⟨st2,h2,rfl,rfl⟩:=h
      exact runDraw_ok he hcall hb0 hok hd h2 hi fun a' w' hi'=>⟨rfl,hi'⟩
  | seq x y ihx ihy =>
    intro hok
    simp only [codeOk,Bool.and_eq_true] at hok
    obtain ⟨hx,hx'⟩:=ihx hok.1
    obtain ⟨hy,hy'⟩:=ihy hok.2
    have join:∀ (r:Option (Ex×St)) ex st' (z:Code) a w,(∀ ex1 st1,r = some (ex1,st1)→z.wp E.P (fun e a' w'=>e = ex1.conv∧Inv n G0 hp0 w0 st1 a' w') a w)→r ≠ none →
        (∀ st1,r = some (.normal,st1)→den E f m call it y none st1 = some (ex,st'))→(∀ ex1 st1,r = some (ex1,st1)→ex1 ≠ .normal→ex1 = ex∧st1 = st') →
        (Code.seq z y).wp E.P (fun e a' w'=>e = ex.conv∧Inv n G0 hp0 w0 st' a' w') a w:=by
      intro r ex st' z a w hz hne h1 h2
      refine wp_seq ?_
      cases r with
      | none=>exact (hne rfl).elim
      | some q =>
        obtain ⟨ex1,st1⟩:=q
        refine wp_mono (hz ex1 st1 rfl) ?_
        rintro e a' w' ⟨rfl,hi'⟩
        by_cases hn:ex1 = .normal
        · subst hn; exact hy _ _ _ _ _ (h1 st1 rfl) hi'
        · obtain ⟨rfl,rfl⟩:=h2 ex1 st1 rfl hn
          cases ex1 <;> first | exact (hn rfl).elim | exact ⟨rfl,hi'⟩
    have split:∀ (r:Option (Ex×St)) ex st',(match r with | some (.normal,st1)=>den E f m call it y none st1 | r=>r) = some (ex,st') →
        r ≠ none∧(∀ st1,r = some (.normal,st1)→den E f m call it y none st1 = some (ex,st'))∧(∀ ex1 st1,r = some (ex1,st1)→ex1 ≠ .normal→ex1 = ex∧st1 = st'):=by
      intro r ex st' h
      cases r with
      | none=>simp at h
      | some q =>
        obtain ⟨ex1,st1⟩:=q
        refine ⟨by simp,fun st2 e=>?_,fun ex2 st2 e hn=>?_⟩
        · cases e; exact h
        · cases e
          cases ex1 <;> first | exact (hn rfl).elim | (simp only [Option.some.injEq,Prod.mk.injEq] at h; exact h)
    refine ⟨fun st ex st' a w h hi=>?_,fun l rest st ex st' a w hl h hi=>?_⟩
    · simp only [den] at h
      obtain ⟨q1,q2,q3⟩:=split (den E f m call it x none st) ex st' (by rw [← h]; cases den E f m call it x none st with | none=>rfl | some q=>obtain ⟨e,s⟩:=q; cases e <;> rfl)
      exact join _ ex st' x a w (fun ex1 st1 e=>hx _ _ _ _ _ e hi) q1 q2 q3
    · simp only [findLabel] at hl
      cases hf:findLabel x l with
      | some rx =>
        rw [hf] at hl
        simp only [Option.some.injEq] at hl
        subst hl
        simp only [den,hasLabel,hf,Option.isSome_some,if_true] at h
        obtain ⟨q1,q2,q3⟩:=split (den E f m call it x (some l) st) ex st' (by rw [← h]; cases den E f m call it x (some l) st with | none=>rfl | some q=>obtain ⟨e,s⟩:=q; cases e <;> rfl)
        exact join _ ex st' rx a w (fun ex1 st1 e=>hx' l rx _ _ _ _ _ hf e hi) q1 q2 q3
      | none =>
        rw [hf] at hl
        simp only [den,hasLabel,hf,Option.isSome_none,Bool.false_eq_true,if_false] at h
        exact hy' l rest _ _ _ _ _ hl h hi
  | cond c x y ihx ihy =>
    intro hok
    simp only [codeOk,Bool.and_eq_true] at hok
    refine ⟨fun st ex st' a w h hi=>?_,fun l rest st ex st' a w hl=>by simp [findLabel] at hl⟩
    simp only [den] at h
    split at h
    · rename_i b hb
      obtain ⟨⟨G,hs,hw,sn⟩,hsz,hdef⟩:=hi
      have hv:a.eval c = .bool b:=by have:=ev_rel hs hb; generalize a.eval c = z at this; cases this; rfl
      refine wp_cond hv ?_
      cases b
      · exact (ihy hok.2).1 _ _ _ _ _ (by simpa using h) ⟨⟨G,hs,hw,sn⟩,hsz,hdef⟩
      · exact (ihx hok.1).1 _ _ _ _ _ (by simpa using h) ⟨⟨G,hs,hw,sn⟩,hsz,hdef⟩
    · cases h
  | block id c ih =>
    intro hok
    simp only [codeOk] at hok
    refine ⟨fun st ex st' a w h hi=>?_,fun l rest st ex st' a w hl=>by simp [findLabel] at hl⟩
    simp only [den] at h
    refine wp_block ?_
    cases hd:den E f m call it c none st with
    | none=>rw [hd] at h; simp at h
    | some q =>
      obtain ⟨ex1,st1⟩:=q
      rw [hd] at h
      refine wp_mono ((ih hok).1 _ _ _ _ _ hd hi) ?_
      rintro e a' w' ⟨rfl,hi'⟩
      cases ex1 with
      | exit i =>
        simp only at h
        split at h
        · rename_i e
          simp only [Option.some.injEq,Prod.mk.injEq] at h
          obtain ⟨rfl,rfl⟩:=h
          simp [Exit.inBlock,Ex.conv,e,hi']
        · rename_i e
          simp only [Option.some.injEq,Prod.mk.injEq] at h
          obtain ⟨rfl,rfl⟩:=h
          simp [Exit.inBlock,Ex.conv,e,hi']
      | _=>simp only [Option.some.injEq,Prod.mk.injEq] at h; obtain ⟨rfl,rfl⟩:=h; exact ⟨rfl,hi'⟩
  | loop c ih =>
    intro hok
    simp only [codeOk] at hok
    refine ⟨fun st ex st' a w h hi=>?_,fun l rest st ex st' a w hl=>by simp [findLabel] at hl⟩
    simp only [den,Option.bind_eq_some_iff] at h
    obtain ⟨⟨vs,h0⟩,hc,h⟩:=h
    obtain ⟨k,hk⟩:=hit _ _ _ h
    have hi0:=canon_ok hm hc hi
    clear hc h hi
    intro b kk cs
    have key:∀ k (x:X) a w,itN k (fun (_,vs,h) =>
        match den E f m call it c none ⟨slots (E.live f ((firstRegion c).getD 0)) vs,h⟩ with
        | some (.normal,st')=>(canon m (E.live f ((firstRegion c).getD 0)) st').map fun (vs,h)=>.inl (none,vs,h)
        | some r=>some (.inr r)
        | none=>none) x = some (ex,st')→Inv n G0 hp0 w0 ⟨slots (E.live f ((firstRegion c).getD 0)) x.2.1,x.2.2⟩ a w →
        ∃ e a' w',(e = ex.conv∧Inv n G0 hp0 w0 st' a' w')∧Arrives E.P (lone (b.at a (.code c :: .inLoop c :: kk)) cs w) b kk cs e a' w':=by
      intro k
      induction k with
      | zero=>intro x a w h; simp [itN] at h
      | succ k ihk =>
        intro x a w h hi
        obtain ⟨fr,vs,h0⟩:=x
        simp only [itN] at h
        cases hd:den E f m call it c none ⟨slots (E.live f ((firstRegion c).getD 0)) vs,h0⟩ with
        | none=>rw [hd] at h; simp at h
        | some q =>
          obtain ⟨ex1,st1⟩:=q
          obtain ⟨e,a₁,w₁,⟨rfl,hi1⟩,harr⟩:=(ih hok).1 _ _ _ _ _ hd hi b (.inLoop c :: kk) cs
          rw [hd] at h
          cases ex1 with
          | normal =>
            cases hcn:canon m (E.live f ((firstRegion c).getD 0)) st1 with
            | none=>simp [hcn] at h
            | some q2 =>
              obtain ⟨vs2,h2⟩:=q2
              simp only [hcn,Option.map_some] at h
              obtain ⟨e₂,a₂,w₂,hq₂,harr₂⟩:=ihk _ a₁ w₁ h (canon_ok hm hcn hi1)
              exact ⟨e₂,a₂,w₂,hq₂,.of_steps (Steps.trans harr (.one step_inLoop)) harr₂⟩
          | exit i =>
            simp only [Option.some.injEq,Prod.mk.injEq] at h
            obtain ⟨rfl,rfl⟩:=h
            exact ⟨_,a₁,w₁,⟨rfl,hi1⟩,.pass (x:=.inLoop c) rfl (fun _ _=>.inl (by simp [Ex.conv])) harr⟩
          | goto i =>
            simp only [Option.some.injEq,Prod.mk.injEq] at h
            obtain ⟨rfl,rfl⟩:=h
            exact ⟨_,a₁,w₁,⟨rfl,hi1⟩,.pass (x:=.inLoop c) rfl (fun _ _=>.inl (by simp [Ex.conv])) harr⟩
          | ret =>
            simp only [Option.some.injEq,Prod.mk.injEq] at h
            obtain ⟨rfl,rfl⟩:=h
            exact ⟨_,a₁,w₁,⟨rfl,hi1⟩,.pass (x:=.inLoop c) rfl (fun _ _=>.inl (by simp [Ex.conv])) harr⟩
    obtain ⟨e,a',w',hq,harr⟩:=key k _ a w hk hi0
    exact ⟨e,a',w',hq,.of_steps (.one step_loop) harr⟩
  | scope c ih =>
    intro hok
    simp only [codeOk] at hok
    refine ⟨fun st ex st' a w h hi=>?_,fun l rest st ex st' a w hl=>by simp [findLabel] at hl⟩
    simp only [den,Option.bind_eq_some_iff] at h
    obtain ⟨⟨vs,h0⟩,hc,h⟩:=h
    obtain ⟨k,hk⟩:=hit _ _ _ h
    have hi0:=canon_ok hm hc hi
    clear hc h hi
    intro b kk cs
    have key:∀ k (x:X) (start:Code) a w,(match x.1 with | none=>start = c | some l=>findLabel c l = some start)→itN k (fun (from_,vs,h) =>
        match den E f m call it c from_ ⟨slots (E.live f ((firstRegion c).getD 0)) vs,h⟩ with
        | some (.goto l,st')=>if hasLabel c l then (canon m (E.live f ((firstRegion c).getD 0)) st').map fun (vs,h)=>.inl (some l,vs,h) else some (.inr (.goto l,st'))
        | some r=>some (.inr r)
        | none=>none) x = some (ex,st')→Inv n G0 hp0 w0 ⟨slots (E.live f ((firstRegion c).getD 0)) x.2.1,x.2.2⟩ a w →
        ∃ e a' w',(e = ex.conv∧Inv n G0 hp0 w0 st' a' w')∧Arrives E.P (lone (b.at a (.code start :: .inScope c :: kk)) cs w) b kk cs e a' w':=by
      intro k
      induction k with
      | zero=>intro x start a w _ h; simp [itN] at h
      | succ k ihk =>
        intro x start a w hst h hi
        obtain ⟨fr,vs,h0⟩:=x
        simp only [itN] at h
        cases hd:den E f m call it c fr ⟨slots (E.live f ((firstRegion c).getD 0)) vs,h0⟩ with
        | none=>rw [hd] at h; simp at h
        | some q =>
          obtain ⟨ex1,st1⟩:=q
          have hwp:start.wp E.P (fun e a' w'=>e = ex1.conv∧Inv n G0 hp0 w0 st1 a' w') a w:=by
            cases fr with
            | none=>simp only at hst; subst hst; exact (ih hok).1 _ _ _ _ _ hd hi
            | some l=>exact (ih hok).2 l start _ _ _ _ _ hst hd hi
          obtain ⟨e,a₁,w₁,⟨rfl,hi1⟩,harr⟩:=hwp b (.inScope c :: kk) cs
          rw [hd] at h
          cases ex1 with
          | goto l =>
            by_cases hl:hasLabel c l = true
            · obtain ⟨rest,hrest⟩:=Option.isSome_iff_exists.1 hl
              simp only [hl,if_true] at h
              cases hcn:canon m (E.live f ((firstRegion c).getD 0)) st1 with
              | none=>simp [hcn] at h
              | some q2 =>
                obtain ⟨vs2,h2⟩:=q2
                simp only [hcn,Option.map_some] at h
                obtain ⟨e₂,a₂,w₂,hq₂,harr₂⟩:=ihk _ rest a₁ w₁ hrest h (canon_ok hm hcn hi1)
                exact ⟨e₂,a₂,w₂,hq₂,.of_steps (harr _ (by simp [gotoIn,hrest])) harr₂⟩
            · simp only [hl,if_false,Bool.false_eq_true] at h
              simp only [Option.some.injEq,Prod.mk.injEq] at h
              obtain ⟨rfl,rfl⟩:=h
              have hno:findLabel c l = none:=by simpa [hasLabel] using hl
              exact ⟨_,a₁,w₁,⟨rfl,hi1⟩,fun k' hk'=>harr k' (by simp [gotoIn,hno,hk'])⟩
          | normal =>
            simp only [Option.some.injEq,Prod.mk.injEq] at h
            obtain ⟨rfl,rfl⟩:=h
            exact ⟨.normal,a₁,w₁,⟨rfl,hi1⟩,Steps.trans harr (.one step_inScope)⟩
          | exit i =>
            simp only [Option.some.injEq,Prod.mk.injEq] at h
            obtain ⟨rfl,rfl⟩:=h
            exact ⟨.exit i,a₁,w₁,⟨rfl,hi1⟩,fun k' hk'=>harr k' (by simp [exitTo,hk'])⟩
          | ret =>
            simp only [Option.some.injEq,Prod.mk.injEq] at h
            obtain ⟨rfl,rfl⟩:=h
            exact ⟨.ret,a₁,w₁,⟨rfl,hi1⟩,harr⟩
    obtain ⟨e,a',w',hq,harr⟩:=key k _ c a w rfl hk hi0
    exact ⟨e,a',w',hq,.of_steps (.one step_scope) harr⟩
  | label l' =>
    intro _
    refine ⟨fun st ex st' a w h hi=>?_,fun l rest st ex st' a w hl h hi=>?_⟩
    · simp only [den,Option.some.injEq,Prod.mk.injEq] at h
      obtain ⟨rfl,rfl⟩:=h
      exact wp_label ⟨rfl,hi⟩
    · simp only [findLabel] at hl
      simp only [den] at h
      split at h
      · rename_i e
        subst e
        simp at hl
        subst hl
        simp only [Option.some.injEq,Prod.mk.injEq] at h
        obtain ⟨rfl,rfl⟩:=h
        exact wp_skip ⟨rfl,hi⟩
      · cases h
  | exit id =>
    intro _
    refine ⟨fun st ex st' a w h hi=>?_,fun l rest st ex st' a w hl=>by simp [findLabel] at hl⟩
    simp only [den,Option.some.injEq,Prod.mk.injEq] at h
    obtain ⟨rfl,rfl⟩:=h
    exact wp_exit ⟨rfl,hi⟩
  | goto l' =>
    intro _
    refine ⟨fun st ex st' a w h hi=>?_,fun l rest st ex st' a w hl=>by simp [findLabel] at hl⟩
    simp only [den,Option.some.injEq,Prod.mk.injEq] at h
    obtain ⟨rfl,rfl⟩:=h
    exact wp_goto ⟨rfl,hi⟩
  | ret =>
    intro _
    refine ⟨fun st ex st' a w h hi=>?_,fun l rest st ex st' a w hl=>by simp [findLabel] at hl⟩
    simp only [den,Option.some.injEq,Prod.mk.injEq] at h
    obtain ⟨rfl,rfl⟩:=h
    exact wp_ret ⟨rfl,hi⟩
  | rangeFunc f' ps x y _ _=>intro hok; simp [codeOk] at hok
  | refuse why =>
    intro _
    refine ⟨fun st ex st' a w h hi=>?_,fun l rest st ex st' a w hl=>by simp [findLabel] at hl⟩
    simp [den] at h
theorem slotsOf_rel {G:Gh} {hp:Heap} {args:List V1} {vs:List Value} (h:All2 (VR G hp) args vs) (k:Nat):SR G hp (slotsOf args) (vs.toArray ++ Array.replicate k undef):=by
  intro t
  simp only [slotsOf]
  cases ha:args[t]? with
  | none=>trivial
  | some x =>
    obtain ⟨v,hv,r⟩:=h.get ha
    have hlt:=lt_of_get hv
    have:(vs.toArray ++ Array.replicate k undef).getD t undef = v:=by
      rw [Array.getD_eq_getD_getElem?,Array.getElem?_append_left (by simpa using hlt)]
      simp [hv]
    rw [this]
    exact r
theorem resultA_ok {P:Program} {G:Gh} {hp:Heap} {w:World} {s:Nat→AV} {tmps:Array Value} (hw:WR G hp w) (hs:SR G hp s tmps) {r:ResultVar} {x:V1} (h:resultA s hp P r = some x) :
    ∃ v,(match r with | .tmp t=>pure (tmps.getD t undef) | .cell a t=>do loadVar t (← asAddr (tmps.getD a undef)):Sem Value).run P w = .ok v w∧VR G hp x v:=by
  cases r with
  | tmp t =>
    simp only [resultA] at h
    split at h
    · rename_i y hy
      cases h
      have:=hs t
      rw [hy] at this
      exact ⟨_,rfl,this⟩
    · cases h
  | cell ad t =>
    simp only [resultA,Option.bind_eq_bind,Option.bind_eq_some_iff] at h
    obtain ⟨n,hn,g,hg,h⟩:=h
    split at h
    · rename_i k off hk
      split at h
      · rename_i cs hcs
        split at h
        · rename_i hc
          have hr:=hs ad
          rw [hk] at hr
          obtain ⟨b,hib,hv⟩:=hr
          obtain ⟨l,hl,r,hcell⟩:=read_cells hw hcs (hib.at hcs) hc.1
          refine ⟨valOf g l,?_,mkV_rel h r⟩
          simp only [hv,asAddr,pure_bind]
          exact run_loadVar' hn hg hl hc.2 hcell
        · cases h
      · cases h
    · cases h
theorem resultsA_ok {P:Program} {G:Gh} {hp:Heap} {w:World} {s:Nat→AV} {tmps:Array Value} (hw:WR G hp w) (hs:SR G hp s tmps) {fn:Func} {x:AV} (h:resultsA fn s hp P = some x) :
    ∃ v,(results fn tmps).run P w = .ok v w∧AR G hp x v:=by
  simp only [resultsA,Option.map_eq_some_iff] at h
  obtain ⟨xs,hxs,rfl⟩:=h
  have key:∀ (l:List ResultVar) (xs:List V1),l.mapM (resultA s hp P) = some xs→∃ vs:List Value,(l.mapM fun r=>(match r with | .tmp t=>pure (tmps.getD t undef) | .cell a t=>do loadVar t (← asAddr (tmps.getD a undef)):Sem Value):Sem (List Value)).run P w = .ok vs w∧All2 (VR G hp) xs vs:=by
    intro l
    induction l with
    | nil=>intro xs h; simp at h; subst h; exact ⟨[],rfl,.nil⟩
    | cons r l ih =>
      intro xs h
      simp only [List.mapM_cons,Option.bind_eq_bind,Option.bind_eq_some_iff,Option.pure_def,Option.some.injEq] at h
      obtain ⟨x,hx,ys,hys,rfl⟩:=h
      obtain ⟨v,hv,hr⟩:=resultA_ok hw hs hx
      obtain ⟨vs,hvs,hr2⟩:=ih ys hys
      refine ⟨v :: vs,?_,.cons hr hr2⟩
      simp only [List.mapM_cons,Sem.run_bind,hv,Result.andThen_ok,hvs,Sem.run_pure]
  obtain ⟨vs,hvs,hr⟩:=key _ _ hxs
  have hmap:(fn.results.mapM fun r=>(match r with | .tmp t=>pure (tmps.getD t undef) | .cell a t=>do loadVar t (← asAddr (tmps.getD a undef)):Sem Value):Sem (Array Value)).run P w = .ok vs.toArray w:=by
    rw [Array.mapM_eq_mapM_toList,Sem.run_map,hvs]
    rfl
  refine ⟨if h:vs.toArray.size = 1 then vs.toArray[0] else .tuple vs.toArray,?_,?_⟩
  · simp only [results,Sem.run_bind]
    erw [hmap]
    rfl
  · cases hr with
    | nil=>exact ⟨[],rfl,.nil⟩
    | cons a t =>
      cases t with
      | nil=>exact a
      | cons b t=>exact ⟨_,by simp,.cons a (.cons b t)⟩
theorem callBody_ok (he:EnvOk E) (hcall:∀ g,CallP E g (call g)) (hit:ItP it) (g:FuncId):CallP E g (callBody E call it g):=by
  intro args hp v h' h G w vs hbase hw ha
  simp only [callBody] at h
  split at h
  case h_2=>cases h
  rename_i fn hf
  split at h
  case h_2=>cases h
  rename_i body hb
  split at h
  case isFalse=>cases h
  rename_i hc
  simp only [Bool.and_eq_true,decide_eq_true_eq] at hc
  have hl:=ha.length
  have fin:∀ ex st,den E g hp.length call it body none ⟨slotsOf args,hp⟩ = some (ex,st)→(ex = .ret∨ex = .normal)→(resultsA fn st.sl st.hp E.P).bind (finish hp.length (E.hand g) st.hp) = some (v,h') →
      Calls E.P g vs.toArray w fun e w'=>∃ x G',e = .returned x∧AR G' h' v x∧WR G' h' w'∧Sn G hp w G' h' w':=by
    intro ex st hd hex hres
    simp only [Option.bind_eq_some_iff] at hres
    obtain ⟨r,hr,hfin⟩:=hres
    refine calls_of_wp hf hb ?_
    have hinv:Inv fn.ntmps G hp w ⟨slotsOf args,hp⟩ { tmps:=vs.toArray ++ Array.replicate (fn.ntmps - vs.toArray.size) undef,defers:=[] } w :=
      ⟨⟨G,slotsOf_rel ha _,hw,Sn.refl _ _ _⟩,by simp; omega,rfl⟩
    refine wp_mono ((den_ok he (fun g=>plainC_ok (hcall g)) hbase hit rfl body hc.1).1 _ _ _ _ _ hd hinv) ?_
    rintro e a' w' ⟨rfl,⟨G1,hs1,hw1,sn1⟩,hsz,hdef⟩
    obtain ⟨x,hx,hxr⟩:=resultsA_ok hw1 hs1 hr
    obtain ⟨G2,q1,q2,q3⟩:=finish_ok rfl hfin hw1 sn1 hxr
    have:a'.defers = []∧∃ v_1,(results fn a'.tmps).run E.P w' = .ok v_1 w'∧(∃ x G',Ending.returned v_1 = .returned x∧AR G' h' v x∧WR G' h' w'∧Sn G hp w G' h' w'):=⟨hdef,x,hx,x,G2,rfl,q1,q2,q3⟩
    rcases hex with rfl | rfl
    · exact this
    · exact this
  split at h
  · rename_i st hd; exact fin _ _ hd (.inl rfl) h
  · rename_i st hd; exact fin _ _ hd (.inr rfl) h
  · cases h
theorem callN_ok (he:EnvOk E):∀ k g,CallP E g (callN E k g):=by
  intro k
  induction k with
  | zero=>intro g args hp v h' h; simp [callN] at h
  | succ k ih =>
    intro g
    have:=callBody_ok he ih (it:=itN k) (fun gg x y h=>⟨k,h⟩) g
    intro args hp v h' h
    exact this args hp v h' h
end
end Go.Ab
end
section
set_option linter.unusedVariables false
set_option linter.unusedSimpArgs false
namespace Go.Ab
open Go
def CLe (c c':Caller):Prop:=∀ f a h r,c f a h = some r→c' f a h = some r
def ILe (i i':It):Prop:=∀ (g g':X→Option (X ⊕ (Ex×St))),(∀ x y,g x = some y→g' x = some y)→∀ x y,i g x = some y→i' g' x = some y
theorem viaCall_le {keep:Bool} {c c':List V1→Heap→Option (AV×Heap)} (h:∀ a h r,c a h = some r→c' a h = some r) {args:List V1} {hp:Heap} {r:AV×Heap} (hr:viaCall keep c args hp = some r):viaCall keep c' args hp = some r:=by
  simp only [viaCall,Option.bind_eq_bind,Option.bind_eq_some_iff] at hr ⊢
  obtain ⟨a,h1,b,h2,d,h3,rest⟩:=hr
  exact ⟨a,h1,b,h2,d,h _ _ _ h3,rest⟩
theorem plainC_le {b:Bool} {c c':List V1→Heap→Option (AV×Heap)} (h:∀ a h r,c a h = some r→c' a h = some r):∀ a h r,plainC b c a h = some r→plainC b c' a h = some r:=by
  cases b with
  | false=>exact h
  | true =>
    intro a hp r hr
    simp only [plainC,if_true,Option.bind_eq_some_iff] at hr ⊢
    obtain ⟨x,h1,h2⟩:=hr
    exact ⟨x,h _ _ _ h1,h2⟩
section
variable {E:Env} {c c':Caller} {i i':It}
theorem stepA_le (h:CLe c c') {s:Nat→AV} {hp:Heap} {o:Oper} {r:AV×Heap} (hr:stepA E c s hp o = some r):stepA E c' s hp o = some r:=by
  unfold stepA at hr ⊢
  split at hr
  · rename_i cl
    split at hr
    · rename_i f hc
      simp only [opCall,hc,Option.bind_eq_some_iff] at hr ⊢
      obtain ⟨args,hargs,hr⟩:=hr
      refine ⟨args,hargs,?_⟩
      split at hr
      · split at hr
        · rename_i hno
          rw [if_pos hno]
          split at hr
          · split at hr
            · exact hr
            · exact viaCall_le (plainC_le (h _)) hr
          · exact hr
        · cases hr
      · split at hr
        · exact viaCall_le (plainC_le (h _)) hr
        · cases hr
      · cases hr
    · exact hr
  · exact hr
theorem runOps_le (h:CLe c c') {all:List Oper}:∀ {os:List Oper} {st st':St},runOps E c all os st = some st'→runOps E c' all os st = some st':=by
  intro os
  induction os with
  | nil=>intro st st' hr; exact hr
  | cons o os ih =>
    intro st st' hr
    simp only [runOps] at hr ⊢
    cases hw:wantA all st.sl o with
    | none=>rw [hw] at hr; simp at hr
    | some b =>
      rw [hw] at hr
      cases b with
      | false=>exact ih hr
      | true =>
        simp only at hr ⊢
        cases hs:stepA E c st.sl st.hp o with
        | none=>rw [hs] at hr; simp at hr
        | some r=>rw [hs] at hr; rw [stepA_le h hs]; exact ih hr
theorem stepR_le (h:CLe c c') {all:List Oper} {o:Oper} {st st':St} (hr:stepR E c all o st = some st'):stepR E c' all o st = some st':=by
  simp only [stepR,Option.map_eq_some_iff] at hr ⊢
  obtain ⟨r,hr,rfl⟩:=hr
  refine ⟨r,?_,rfl⟩
  unfold coreA at hr ⊢
  cases hw:wantA all (restr (lookL all o) st.sl) o with
  | none=>rw [hw] at hr; cases hr
  | some b=>rw [hw] at hr; cases b with
    | false=>exact hr
    | true=>exact stepA_le h hr
theorem runD_le (h:CLe c c') {all:List Oper}:∀ {os:List Oper} {st:St} {r:St×List Foot},runD E c all os st = some r→runD E c' all os st = some r:=by
  intro os
  induction os with
  | nil=>intro st r hr; exact hr
  | cons o os ih =>
    intro st r hr
    simp only [runD,Option.bind_eq_some_iff,Option.map_eq_some_iff] at hr ⊢
    obtain ⟨st1,h1,r1,h2,rfl⟩:=hr
    exact ⟨st1,stepR_le h h1,r1,ih h2,rfl⟩
theorem runDraw_le (h:CLe c c') {ops:List Oper} {st st':St} (hr:runDraw E c ops st = some st'):runDraw E c' ops st = some st':=by
  simp only [runDraw,Option.bind_eq_some_iff] at hr ⊢
  obtain ⟨r,h1,h2⟩:=hr
  exact ⟨r,runD_le h h1,h2⟩
theorem den_le (h:CLe c c') (hi:ILe i i') {f:FuncId} {m:Nat}:∀ (code:Code) (fr:Option Nat) (st:St) (r:Ex×St),den E f m c i code fr st = some r→den E f m c' i' code fr st = some r:=by
  intro code
  induction code with
  | region id ops draw =>
    intro fr st r hr
    cases fr with
    | some l=>cases draw <;> simp [den] at hr
    | none =>
      cases draw with
      | false =>
        simp only [den,Option.map_eq_some_iff] at hr ⊢
        obtain ⟨q,hq,rfl⟩:=hr
        exact ⟨q,runOps_le h hq,rfl⟩
      | true =>
        simp only [den] at hr ⊢
        split at hr
        · rename_i hd
          rw [if_pos hd]
          simp only [Option.map_eq_some_iff] at hr ⊢
          obtain ⟨q,hq,rfl⟩:=hr
          exact ⟨q,runDraw_le h hq,rfl⟩
        · cases hr
  | seq x y ihx ihy =>
    have key:∀ (fr:Option Nat) (st:St) (r:Ex×St) (p:Option (Ex×St)) (p':Option (Ex×St)),(∀ q,p = some q→p' = some q) →
        (match p with | some (.normal,st')=>den E f m c i y none st' | r=>r) = some r→(match p' with | some (.normal,st')=>den E f m c' i' y none st' | r=>r) = some r:=by
      intro fr st r p p' hp hr
      cases p with
      | none=>simp at hr
      | some q =>
        rw [hp q rfl]
        obtain ⟨ex,st1⟩:=q
        cases ex with
        | normal=>exact ihy _ _ _ hr
        | _=>exact hr
    intro fr st r hr
    cases fr with
    | none =>
      simp only [den] at hr ⊢
      have:=key none st r (den E f m c i x none st) (den E f m c' i' x none st) (fun q hq=>ihx _ _ _ hq) (by rw [← hr]; cases den E f m c i x none st with | none=>rfl | some q=>obtain ⟨e,s⟩:=q; cases e <;> rfl)
      rw [← this]
      cases den E f m c' i' x none st with
      | none=>rfl
      | some q=>obtain ⟨e,s⟩:=q; cases e <;> rfl
    | some l =>
      simp only [den] at hr ⊢
      split at hr
      · rename_i hl
        rw [if_pos hl]
        have:=key none st r (den E f m c i x (some l) st) (den E f m c' i' x (some l) st) (fun q hq=>ihx _ _ _ hq) (by rw [← hr]; cases den E f m c i x (some l) st with | none=>rfl | some q=>obtain ⟨e,s⟩:=q; cases e <;> rfl)
        rw [← this]
        cases den E f m c' i' x (some l) st with
        | none=>rfl
        | some q=>obtain ⟨e,s⟩:=q; cases e <;> rfl
      · rename_i hl
        rw [if_neg hl]
        exact ihy _ _ _ hr
  | cond o x y ihx ihy =>
    intro fr st r hr
    cases fr with
    | some l=>simp [den] at hr
    | none =>
      simp only [den] at hr ⊢
      split at hr
      · rename_i b hb
        cases b
        · exact ihy _ _ _ hr
        · exact ihx _ _ _ hr
      · cases hr
  | block id x ih =>
    intro fr st r hr
    cases fr with
    | some l=>simp [den] at hr
    | none =>
      simp only [den] at hr ⊢
      cases hd:den E f m c i x none st with
      | none=>rw [hd] at hr; simp at hr
      | some q=>rw [hd] at hr; rw [ih _ _ _ hd]; exact hr
  | loop x ih =>
    intro fr st r hr
    cases fr with
    | some l=>simp [den] at hr
    | none =>
      simp only [den,Option.bind_eq_some_iff] at hr ⊢
      obtain ⟨q,hq,hr⟩:=hr
      refine ⟨q,hq,hi _ _ ?_ _ _ hr⟩
      rintro ⟨fr,vs,h0⟩ y hy
      simp only at hy ⊢
      cases hd:den E f m c i x none ⟨slots (E.live f ((firstRegion x).getD 0)) vs,h0⟩ with
      | none=>rw [hd] at hy; simp at hy
      | some q=>rw [hd] at hy; rw [ih _ _ _ hd]; exact hy
  | scope x ih =>
    intro fr st r hr
    cases fr with
    | some l=>simp [den] at hr
    | none =>
      simp only [den,Option.bind_eq_some_iff] at hr ⊢
      obtain ⟨q,hq,hr⟩:=hr
      refine ⟨q,hq,hi _ _ ?_ _ _ hr⟩
      rintro ⟨fr,vs,h0⟩ y hy
      simp only at hy ⊢
      cases hd:den E f m c i x fr ⟨slots (E.live f ((firstRegion x).getD 0)) vs,h0⟩ with
      | none=>rw [hd] at hy; simp at hy
      | some q=>rw [hd] at hy; rw [ih _ _ _ hd]; exact hy
  | skip=>intro fr st r hr; cases fr <;> first | exact hr | simp [den] at hr
  | label l=>intro fr st r hr; cases fr <;> first | exact hr | simp [den] at hr
  | exit l=>intro fr st r hr; cases fr <;> first | exact hr | simp [den] at hr
  | goto l=>intro fr st r hr; cases fr <;> first | exact hr | simp [den] at hr
  | ret=>intro fr st r hr; cases fr <;> first | exact hr | simp [den] at hr
  | rangeFunc _ _ _ _ _ _=>intro fr st r hr; cases fr <;> simp [den] at hr
  | refuse _=>intro fr st r hr; cases fr <;> simp [den] at hr
theorem callBody_le (h:CLe c c') (hi:ILe i i'):CLe (callBody E c i) (callBody E c' i'):=by
  intro f a hp r hr
  simp only [callBody] at hr ⊢
  split at hr
  · split at hr
    · rename_i body hb
      split at hr
      · rename_i hc
        rw [if_pos hc]
        have key:∀ q,den E f hp.length c i body none ⟨slotsOf a,hp⟩ = some q→den E f hp.length c' i' body none ⟨slotsOf a,hp⟩ = some q:=fun q hq=>den_le h hi _ _ _ _ hq
        split at hr
        · rename_i st hd; rw [key _ hd]; exact hr
        · rename_i st hd; rw [key _ hd]; exact hr
        · cases hr
      · cases hr
    · cases hr
  · cases hr
theorem itN_le {k k':Nat} (hk:k≤k'):ILe (itN k) (itN k'):=by
  intro g g' hg
  induction k generalizing k' with
  | zero=>intro x y h; simp [itN] at h
  | succ k ih =>
    intro x y h
    obtain ⟨k',rfl⟩:∃ j,k' = j + 1:=⟨k' - 1,by omega⟩
    simp only [itN] at h ⊢
    cases hx:g x with
    | none=>rw [hx] at h; simp at h
    | some z =>
      rw [hx] at h
      rw [hg _ _ hx]
      cases z with
      | inl z=>exact ih (by omega) _ _ h
      | inr z=>exact h
theorem callN_le {k k':Nat} (hk:k≤k'):CLe (callN E k) (callN E k'):=by
  induction k generalizing k' with
  | zero=>intro f a hp r h; simp [callN] at h
  | succ k ih =>
    obtain ⟨k',rfl⟩:∃ j,k' = j + 1:=⟨k' - 1,by omega⟩
    intro f a hp r h
    exact callBody_le (ih (by omega)) (itN_le (by omega)) f a hp r h
end
open Classical in
noncomputable def limit {α β:Type} (F:Nat→α→Option β) (a:α):Option β :=
  if h:∃ k r,F k a = some r then some h.choose_spec.choose else none
theorem limit_some {α β:Type} {F:Nat→α→Option β} (hF:∀ k k' a r,k≤k'→F k a = some r→F k' a = some r) {a:α} {r:β}:limit F a = some r ↔ ∃ k,F k a = some r:=by
  classical
  unfold limit
  constructor
  · intro h
    split at h
    · rename_i hx
      cases h
      exact ⟨_,hx.choose_spec.choose_spec⟩
    · cases h
  · rintro ⟨k,hk⟩
    have hx:∃ k r,F k a = some r:=⟨k,r,hk⟩
    rw [dif_pos hx]
    have h1:=hx.choose_spec.choose_spec
    have h2:=hF _ _ _ _ (Nat.le_max_left hx.choose k) h1
    have h3:=hF _ _ _ _ (Nat.le_max_right hx.choose k) hk
    rw [h2] at h3
    exact h3
noncomputable def callW (E:Env):Caller:=fun f a hp=>limit (fun k (x:List V1×Heap)=>callN E k f x.1 x.2) (a,hp)
noncomputable def itW:It:=fun g x=>limit (fun k (x:X)=>itN k g x) x
theorem callW_some {E:Env} {f:FuncId} {a:List V1} {hp:Heap} {r:AV×Heap}:callW E f a hp = some r ↔ ∃ k,callN E k f a hp = some r :=
  limit_some (F:=fun k (x:List V1×Heap)=>callN E k f x.1 x.2) fun k k' x r hk h=>callN_le hk _ _ _ _ h
theorem itW_some {g:X→Option (X ⊕ (Ex×St))} {x:X} {y:Ex×St}:itW g x = some y ↔ ∃ k,itN k g x = some y :=
  limit_some (F:=fun k (x:X)=>itN k g x) fun k k' x r hk h=>itN_le hk g g (fun _ _ h=>h) _ _ h
theorem option_ext {α:Type} {x y:Option α} (h:∀ r,x = some r ↔ y = some r):x = y:=by
  cases x with
  | none=>cases y with
    | none=>rfl
    | some b=>have:=(h b).2 rfl; cases this
  | some a=>exact ((h a).1 rfl).symm
theorem itW_eq (g:X→Option (X ⊕ (Ex×St))) (x:X):itW g x = match g x with | some (.inl y)=>itW g y | some (.inr r)=>some r | none=>none:=by
  apply option_ext
  intro r
  rw [itW_some]
  constructor
  · rintro ⟨k,hk⟩
    cases k with
    | zero=>simp [itN] at hk
    | succ k =>
      simp only [itN] at hk
      cases hx:g x with
      | none=>rw [hx] at hk; simp at hk
      | some z =>
        rw [hx] at hk
        cases z with
        | inl z=>exact itW_some.2 ⟨k,hk⟩
        | inr z=>exact hk
  · intro h
    cases hx:g x with
    | none=>rw [hx] at h; simp at h
    | some z =>
      rw [hx] at h
      cases z with
      | inl z=>obtain ⟨k,hk⟩:=itW_some.1 h; exact ⟨k + 1,by simp only [itN,hx]; exact hk⟩
      | inr z=>exact ⟨1,by simp only [itN,hx]; exact h⟩
section
variable {E:Env}
theorem viaCall_cont {keep b:Bool} {f:FuncId} {args:List V1} {hp:Heap} {r:AV×Heap} (h:viaCall keep (plainC b (callW E f)) args hp = some r):∃ k,viaCall keep (plainC b (callN E k f)) args hp = some r:=by
  simp only [viaCall,Option.bind_eq_bind,Option.bind_eq_some_iff] at h ⊢
  obtain ⟨a,h1,b',h2,d,h3,rest⟩:=h
  have:∃ k,plainC b (callN E k f) a b' = some d:=by
    cases b with
    | false=>exact callW_some.1 h3
    | true =>
      simp only [plainC,if_true,Option.bind_eq_some_iff] at h3 ⊢
      obtain ⟨x,q1,q2⟩:=h3
      obtain ⟨k,hk⟩:=callW_some.1 q1
      exact ⟨k,x,hk,q2⟩
  obtain ⟨k,hk⟩:=this
  exact ⟨k,a,h1,b',h2,d,hk,rest⟩
theorem stepA_cont {s:Nat→AV} {hp:Heap} {o:Oper} {r:AV×Heap} (hr:stepA E (callW E) s hp o = some r):∃ k,stepA E (callN E k) s hp o = some r:=by
  unfold stepA at hr ⊢
  split at hr
  · rename_i cl hcl
    split at hr
    · rename_i f hc
      simp only [opCall,hc,Option.bind_eq_some_iff] at hr ⊢
      obtain ⟨args,hargs,hr⟩:=hr
      split at hr
      · rename_i g fi ca hf
        split at hr
        · rename_i hno
          cases he:entersB E.P g with
          | none=>rw [he] at hr; exact ⟨0,args,hargs,by simp only [hf,hno,if_true]; exact hr⟩
          | some b =>
            cases b with
            | false=>rw [he] at hr; exact ⟨0,args,hargs,by simp only [hf,hno,if_true]; exact hr⟩
            | true =>
              rw [he] at hr
              cases hp':E.prim g with
              | some p=>rw [hp'] at hr; exact ⟨0,args,hargs,by simp only [hf,hno,if_true]; exact hr⟩
              | none =>
                rw [hp'] at hr
                obtain ⟨k,hk⟩:=viaCall_cont hr
                exact ⟨k,args,hargs,by simp only [hf,hno,if_true]; exact hk⟩
        · cases hr
      · rename_i g caps hf
        cases he:entersB E.P g with
        | none=>rw [he] at hr; cases hr
        | some b =>
          cases b with
          | false=>rw [he] at hr; cases hr
          | true =>
            rw [he] at hr
            obtain ⟨k,hk⟩:=viaCall_cont hr
            exact ⟨k,args,hargs,by simp only [hf]; exact hk⟩
      · cases hr
    · exact ⟨0,hr⟩
  · exact ⟨0,hr⟩
theorem runOps_cont {all:List Oper}:∀ {os:List Oper} {st st':St},runOps E (callW E) all os st = some st'→∃ k,runOps E (callN E k) all os st = some st':=by
  intro os
  induction os with
  | nil=>intro st st' hr; exact ⟨0,hr⟩
  | cons o os ih =>
    intro st st' hr
    simp only [runOps] at hr ⊢
    cases hw:wantA all st.sl o with
    | none=>rw [hw] at hr; simp at hr
    | some b =>
      rw [hw] at hr
      cases b with
      | false=>exact ih hr
      | true =>
        simp only at hr ⊢
        cases hs:stepA E (callW E) st.sl st.hp o with
        | none=>rw [hs] at hr; simp at hr
        | some r =>
          rw [hs] at hr
          obtain ⟨k1,h1⟩:=stepA_cont hs
          obtain ⟨k2,h2⟩:=ih hr
          refine ⟨max k1 k2,?_⟩
          rw [stepA_le (callN_le (Nat.le_max_left k1 k2)) h1]
          exact runOps_le (callN_le (Nat.le_max_right k1 k2)) h2
theorem stepR_cont {all:List Oper} {o:Oper} {st st':St} (hr:stepR E (callW E) all o st = some st'):∃ k,stepR E (callN E k) all o st = some st':=by
  simp only [stepR,Option.map_eq_some_iff] at hr ⊢
  obtain ⟨r,hr,rfl⟩:=hr
  unfold coreA at hr ⊢
  cases hw:wantA all (restr (lookL all o) st.sl) o with
  | none=>rw [hw] at hr; cases hr
  | some b=>rw [hw] at hr; cases b with
    | false=>exact ⟨0,r,hr,rfl⟩
    | true =>
      obtain ⟨k,hk⟩:=stepA_cont hr
      exact ⟨k,r,hk,rfl⟩
theorem runD_cont {all:List Oper}:∀ {os:List Oper} {st:St} {r:St×List Foot},runD E (callW E) all os st = some r→∃ k,runD E (callN E k) all os st = some r:=by
  intro os
  induction os with
  | nil=>intro st r hr; exact ⟨0,hr⟩
  | cons o os ih =>
    intro st r hr
    simp only [runD,Option.bind_eq_some_iff,Option.map_eq_some_iff] at hr ⊢
    obtain ⟨st1,h1,r1,h2,rfl⟩:=hr
    obtain ⟨k1,h1⟩:=stepR_cont h1
    obtain ⟨k2,h2⟩:=ih h2
    exact ⟨max k1 k2,st1,stepR_le (callN_le (Nat.le_max_left k1 k2)) h1,r1,runD_le (callN_le (Nat.le_max_right k1 k2)) h2,rfl⟩
theorem runDraw_cont {ops:List Oper} {st st':St} (hr:runDraw E (callW E) ops st = some st'):∃ k,runDraw E (callN E k) ops st = some st':=by
  simp only [runDraw,Option.bind_eq_some_iff] at hr ⊢
  obtain ⟨r,h1,h2⟩:=hr
  obtain ⟨k,hk⟩:=runD_cont h1
  exact ⟨k,r,hk,h2⟩
theorem den_up {f:FuncId} {m k k':Nat} (hk:k≤k') {code:Code} {fr:Option Nat} {st:St} {r:Ex×St} (h:den E f m (callN E k) (itN k) code fr st = some r):den E f m (callN E k') (itN k') code fr st = some r :=
  den_le (callN_le hk) (itN_le hk) _ _ _ _ h
theorem it_cont {gW:X→Option (X ⊕ (Ex×St))} {gN:Nat→X→Option (X ⊕ (Ex×St))} (hm:∀ k k' x y,k≤k'→gN k x = some y→gN k' x = some y) (hc:∀ x y,gW x = some y→∃ k,gN k x = some y) {x:X} {y:Ex×St}
    (h:itW gW x = some y):∃ k,itN k (gN k) x = some y:=by
  obtain ⟨n,hn⟩:=itW_some.1 h
  clear h
  induction n generalizing x with
  | zero=>simp [itN] at hn
  | succ n ih =>
    simp only [itN] at hn
    cases hx:gW x with
    | none=>rw [hx] at hn; simp at hn
    | some z =>
      rw [hx] at hn
      obtain ⟨k1,h1⟩:=hc _ _ hx
      cases z with
      | inl z =>
        obtain ⟨k2,h2⟩:=ih hn
        refine ⟨max k1 k2 + 1,?_⟩
        have h1':=hm _ (max k1 k2 + 1) _ _ (by omega) h1
        simp only [itN,h1']
        exact itN_le (by omega) (gN k2) (gN (max k1 k2 + 1)) (fun x y h=>hm _ _ _ _ (by omega) h) _ _ h2
      | inr z =>
        refine ⟨k1 + 1,?_⟩
        have h1':=hm _ (k1 + 1) _ _ (by omega) h1
        simp only [itN,h1']
        exact hn
theorem den_cont {f:FuncId} {m:Nat}:∀ (code:Code) (fr:Option Nat) (st:St) (r:Ex×St),den E f m (callW E) itW code fr st = some r→∃ k,den E f m (callN E k) (itN k) code fr st = some r:=by
  intro code
  induction code with
  | region id ops draw =>
    intro fr st r hr
    cases fr with
    | some l=>cases draw <;> simp [den] at hr
    | none =>
      cases draw with
      | false =>
        simp only [den,Option.map_eq_some_iff] at hr ⊢
        obtain ⟨q,hq,rfl⟩:=hr
        obtain ⟨k,hk⟩:=runOps_cont hq
        exact ⟨k,q,hk,rfl⟩
      | true =>
        simp only [den] at hr ⊢
        split at hr
        · rename_i hd
          simp only [hd,if_true]
          simp only [Option.map_eq_some_iff] at hr ⊢
          obtain ⟨q,hq,rfl⟩:=hr
          obtain ⟨k,hk⟩:=runDraw_cont hq
          exact ⟨k,q,hk,rfl⟩
        · cases hr
  | seq x y ihx ihy =>
    have key:∀ (fr:Option Nat) (st:St) (r:Ex×St),(match den E f m (callW E) itW x fr st with | some (.normal,st')=>den E f m (callW E) itW y none st' | r=>r) = some r →
        ∃ k,(match den E f m (callN E k) (itN k) x fr st with | some (.normal,st')=>den E f m (callN E k) (itN k) y none st' | r=>r) = some r:=by
      intro fr st r hr
      cases hd:den E f m (callW E) itW x fr st with
      | none=>rw [hd] at hr; simp at hr
      | some q =>
        rw [hd] at hr
        obtain ⟨k1,h1⟩:=ihx _ _ _ hd
        obtain ⟨ex,st1⟩:=q
        cases ex with
        | normal =>
          obtain ⟨k2,h2⟩:=ihy _ _ _ hr
          refine ⟨max k1 k2,?_⟩
          rw [den_up (Nat.le_max_left k1 k2) h1]
          exact den_up (Nat.le_max_right k1 k2) h2
        | exit i=>exact ⟨k1,by rw [h1]; exact hr⟩
        | goto i=>exact ⟨k1,by rw [h1]; exact hr⟩
        | ret=>exact ⟨k1,by rw [h1]; exact hr⟩
    intro fr st r hr
    cases fr with
    | none =>
      simp only [den] at hr ⊢
      exact key none st r hr
    | some l =>
      simp only [den] at hr ⊢
      split at hr
      · rename_i hl
        simp only [hl,if_true]
        exact key (some l) st r hr
      · rename_i hl
        simp only [hl,if_false]
        exact ihy _ _ _ hr
  | cond o x y ihx ihy =>
    intro fr st r hr
    cases fr with
    | some l=>simp [den] at hr
    | none =>
      simp only [den] at hr ⊢
      split at hr
      · rename_i b hb
        cases b
        · exact ihy _ _ _ hr
        · exact ihx _ _ _ hr
      · cases hr
  | block id x ih =>
    intro fr st r hr
    cases fr with
    | some l=>simp [den] at hr
    | none =>
      simp only [den] at hr ⊢
      cases hd:den E f m (callW E) itW x none st with
      | none=>rw [hd] at hr; simp at hr
      | some q =>
        rw [hd] at hr
        obtain ⟨k,hk⟩:=ih _ _ _ hd
        exact ⟨k,by rw [hk]; exact hr⟩
  | loop x ih =>
    intro fr st r hr
    cases fr with
    | some l=>simp [den] at hr
    | none =>
      simp only [den,Option.bind_eq_some_iff] at hr ⊢
      obtain ⟨q,hq,hr⟩:=hr
      have:=it_cont (gN:=fun k (y:X) =>
        match den E f m (callN E k) (itN k) x none ⟨slots (E.live f ((firstRegion x).getD 0)) y.2.1,y.2.2⟩ with
        | some (.normal,st')=>(canon m (E.live f ((firstRegion x).getD 0)) st').map fun (vs,h)=>.inl (none,vs,h)
        | some r=>some (.inr r)
        | none=>none) (fun k k' y z hk h=>by
          simp only at h ⊢
          cases hd:den E f m (callN E k) (itN k) x none ⟨slots (E.live f ((firstRegion x).getD 0)) y.2.1,y.2.2⟩ with
          | none=>rw [hd] at h; simp at h
          | some q=>rw [hd] at h; rw [den_up hk hd]; exact h)
        (fun y z h=>by
          obtain ⟨fr,vs,h0⟩:=y
          simp only at h ⊢
          cases hd:den E f m (callW E) itW x none ⟨slots (E.live f ((firstRegion x).getD 0)) vs,h0⟩ with
          | none=>rw [hd] at h; simp at h
          | some q =>
            rw [hd] at h
            obtain ⟨k,hk⟩:=ih _ _ _ hd
            exact ⟨k,by rw [hk]; exact h⟩) hr
      obtain ⟨k,hk⟩:=this
      exact ⟨k,q,hq,hk⟩
  | scope x ih =>
    intro fr st r hr
    cases fr with
    | some l=>simp [den] at hr
    | none =>
      simp only [den,Option.bind_eq_some_iff] at hr ⊢
      obtain ⟨q,hq,hr⟩:=hr
      have:=it_cont (gN:=fun k (y:X) =>
        match den E f m (callN E k) (itN k) x y.1 ⟨slots (E.live f ((firstRegion x).getD 0)) y.2.1,y.2.2⟩ with
        | some (.goto l,st')=>if hasLabel x l then (canon m (E.live f ((firstRegion x).getD 0)) st').map fun (vs,h)=>.inl (some l,vs,h) else some (.inr (.goto l,st'))
        | some r=>some (.inr r)
        | none=>none) (fun k k' y z hk h=>by
          simp only at h ⊢
          cases hd:den E f m (callN E k) (itN k) x y.1 ⟨slots (E.live f ((firstRegion x).getD 0)) y.2.1,y.2.2⟩ with
          | none=>rw [hd] at h; simp at h
          | some q=>rw [hd] at h; rw [den_up hk hd]; exact h)
        (fun y z h=>by
          obtain ⟨fr,vs,h0⟩:=y
          simp only at h ⊢
          cases hd:den E f m (callW E) itW x fr ⟨slots (E.live f ((firstRegion x).getD 0)) vs,h0⟩ with
          | none=>rw [hd] at h; simp at h
          | some q =>
            rw [hd] at h
            obtain ⟨k,hk⟩:=ih _ _ _ hd
            exact ⟨k,by rw [hk]; exact h⟩) hr
      obtain ⟨k,hk⟩:=this
      exact ⟨k,q,hq,hk⟩
  | skip=>intro fr st r hr; exact ⟨0,by cases fr <;> first | exact hr | simp [den] at hr⟩
  | label l=>intro fr st r hr; exact ⟨0,by cases fr <;> first | exact hr | simp [den] at hr⟩
  | exit l=>intro fr st r hr; exact ⟨0,by cases fr <;> first | exact hr | simp [den] at hr⟩
  | goto l=>intro fr st r hr; exact ⟨0,by cases fr <;> first | exact hr | simp [den] at hr⟩
  | ret=>intro fr st r hr; exact ⟨0,by cases fr <;> first | exact hr | simp [den] at hr⟩
  | rangeFunc _ _ _ _ _ _=>intro fr st r hr; cases fr <;> simp [den] at hr
  | refuse _=>intro fr st r hr; cases fr <;> simp [den] at hr
theorem callW_eq (f:FuncId) (args:List V1) (hp:Heap):callW E f args hp = callBody E (callW E) itW f args hp:=by
  apply option_ext
  intro r
  constructor
  · intro h
    obtain ⟨k,hk⟩:=callW_some.1 h
    cases k with
    | zero=>simp [callN] at hk
    | succ k =>
      exact callBody_le (c:=callN E k) (i:=itN k) (fun f a h r hr=>callW_some.2 ⟨k,hr⟩) (fun g g' hg x y hy=>itW_some.2 ⟨k,itN_le (Nat.le_refl k) g g' hg _ _ hy⟩) _ _ _ _ hk
  · intro h
    rw [callW_some]
    simp only [callBody] at h
    split at h
    · rename_i fn hf
      split at h
      · rename_i body hb
        split at h
        · rename_i hc
          have key:∀ q,den E f hp.length (callW E) itW body none ⟨slotsOf args,hp⟩ = some q→∃ k,den E f hp.length (callN E k) (itN k) body none ⟨slotsOf args,hp⟩ = some q:=fun q hq=>den_cont _ _ _ _ hq
          split at h
          · rename_i st hd
            obtain ⟨k,hk⟩:=key _ hd
            refine ⟨k + 1,?_⟩
            simp only [callN,callBody,hf,hb,hc,if_true,hk]
            exact h
          · rename_i st hd
            obtain ⟨k,hk⟩:=key _ hd
            refine ⟨k + 1,?_⟩
            simp only [callN,callBody,hf,hb,hc,if_true,hk]
            exact h
          · cases h
        · cases h
      · cases h
    · cases h
theorem callW_ok (he:EnvOk E) (g:FuncId):CallP E g (callW E g):=by
  intro args hp v h' h
  obtain ⟨k,hk⟩:=callW_some.1 h
  exact callN_ok he k g args hp v h' hk
end
end Go.Ab
end
section
set_option linter.unusedVariables false
set_option linter.unusedSimpArgs false
namespace Go.Ab
open Go
section ev
variable (P:Program) (t:TypeId) (x y:Operand) (k:IntKind) (a b:Int)
theorem ev_add:evalS P (do eqGuard .add t x y (.int k a) (.int k b); binOp .add t (.int k a) (.int k b)) = some (.int k (k.wrap (a + b))):=by cases k <;> rfl
theorem ev_sub:evalS P (do eqGuard .sub t x y (.int k a) (.int k b); binOp .sub t (.int k a) (.int k b)) = some (.int k (k.wrap (a - b))):=by cases k <;> rfl
theorem ev_mul:evalS P (do eqGuard .mul t x y (.int k a) (.int k b); binOp .mul t (.int k a) (.int k b)) = some (.int k (k.wrap (a * b))):=by cases k <;> rfl
theorem ev_quo (h:b ≠ 0):evalS P (do eqGuard .quo t x y (.int k a) (.int k b); binOp .quo t (.int k a) (.int k b)) = some (.int k (k.wrap (a.tdiv b))):=by
  cases k <;> simp [eqGuard,binOp,Op.intDiv,h] <;> rfl
theorem ev_lss:evalS P (do eqGuard .lss t x y (.int k a) (.int k b); binOp .lss t (.int k a) (.int k b)) = some (.bool (decide (a < b))):=by cases k <;> rfl
theorem ev_leq:evalS P (do eqGuard .leq t x y (.int k a) (.int k b); binOp .leq t (.int k a) (.int k b)) = some (.bool (decide (a≤b))):=by cases k <;> rfl
theorem ev_gtr:evalS P (do eqGuard .gtr t x y (.int k a) (.int k b); binOp .gtr t (.int k a) (.int k b)) = some (.bool (decide (b < a))):=by cases k <;> rfl
theorem ev_geq:evalS P (do eqGuard .geq t x y (.int k a) (.int k b); binOp .geq t (.int k a) (.int k b)) = some (.bool (decide (b≤a))):=by cases k <;> rfl
theorem ev_eql:evalS P (do eqGuard .eql t x y (.int k a) (.int k b); binOp .eql t (.int k a) (.int k b)) = some (.bool (a == b)):=by
  cases k <;> rfl
theorem ev_neq:evalS P (do eqGuard .neq t x y (.int k a) (.int k b); binOp .neq t (.int k a) (.int k b)) = some (.bool (!(a == b))):=by
  cases k <;> rfl
variable (s u:ByteArray)
theorem ev_eql_s:evalS P (do eqGuard .eql t x y (.string s) (.string u); binOp .eql t (.string s) (.string u)) = some (.bool (s.toList == u.toList)):=rfl
theorem ev_neq_s:evalS P (do eqGuard .neq t x y (.string s) (.string u); binOp .neq t (.string s) (.string u)) = some (.bool (!(s.toList == u.toList))):=rfl
variable (p q:Bool)
theorem ev_not:evalS P (Op.unary .not (.bool p)) = some (.bool (!p)):=rfl
end ev
theorem ofV_bool (b:Bool):ofV (.bool b) = some (.c (.d (.sc (.bool b)))):=rfl
theorem ofV_str (b:ByteArray):ofV (.string b) = some (.c (.d (.sc (.string b)))):=rfl
theorem toV_sc (v:Value):Ab.toV (.c (.d (.sc v))) = some v:=rfl
theorem slots1 (a:V1):slotsOf [a] = upd (fun _=>.dead) 0 (.v a):=by funext i; cases i <;> simp [slotsOf,upd]
theorem slots0:slotsOf [] = fun _=>.dead:=by funext i; simp [slotsOf]
theorem slots2 (a b:V1):slotsOf [a,b] = upd (upd (fun _=>.dead) 0 (.v a)) 1 (.v b):=by
  funext i
  match i with
  | 0=>simp [slotsOf,upd]
  | 1=>simp [slotsOf,upd]
  | n + 2=>simp [slotsOf,upd]
theorem slots3 (a b c:V1):slotsOf [a,b,c] = upd (upd (upd (fun _=>.dead) 0 (.v a)) 1 (.v b)) 2 (.v c):=by
  funext i
  match i with
  | 0=>simp [slotsOf,upd]
  | 1=>simp [slotsOf,upd]
  | 2=>simp [slotsOf,upd]
  | n + 3=>simp [slotsOf,upd]
theorem upd_same (s:Nat→AV) (i:Nat) (v:AV):upd s i v i = v:=by simp [upd]
theorem upd_ne (s:Nat→AV) (i j:Nat) (v:AV) (h:(Nat.beq j i) = false):upd s i v j = s j:=by
  have:j ≠ i:=fun e=>by subst e; simp at h
  simp [upd,this]
theorem callN_W {E:Env} {k f:Nat} {a:List V1} {hp:Heap} {r:AV×Heap} (h:callN E k f a hp = some r):callW E f a hp = some r:=callW_some.2 ⟨k,h⟩
theorem callW_body {E:Env} {f:Nat} {args:List V1} {hp:Heap} {fn:Func} {body:Code} (h:E.P.funcs[f]? = some fn) (hb:fn.body = some body)
    (hk:(codeOk fn.ntmps body && decide (args.length≤fn.ntmps)) = true):callW E f args hp =
      match den E f hp.length (callW E) itW body none ⟨slotsOf args,hp⟩ with
      | some (.ret,st) | some (.normal,st)=>(resultsA fn st.sl st.hp E.P).bind (finish hp.length (E.hand f) st.hp)
      | _=>none:=by
  rw [callW_eq]
  simp only [callBody,h,hb,hk,if_true]
  rfl
section eqs
variable (E:Env) (fn:FuncId) (m:Nat) (call:Caller) (it:It)
def seqD (b:Code) (r:Option (Ex×St)):Option (Ex×St):=match r with | some (.normal,st')=>den E fn m call it b none st' | r=>r
def condD (t e:Code) (st:St) (r:Option AV):Option (Ex×St):=match r with
  | some (.v (.c (.d (.sc (.bool b)))))=>if b then den E fn m call it t none st else den E fn m call it e none st
  | _=>none
def blockD (id:Nat) (r:Option (Ex×St)):Option (Ex×St):=match r with
  | some (.exit i,st')=>if i = id then some (.normal,st') else some (.exit i,st')
  | r=>r
def regD (r:Option St):Option (Ex×St):=r.map fun st'=>(.normal,st')
def loopK (L:List (Nat×Co)) (r:Option (Ex×St)):Option (X ⊕ (Ex×St)):=match r with
  | some (.normal,st')=>(canon m L st').map fun y=>.inl (none,y.1,y.2)
  | some r=>some (.inr r)
  | none=>none
def loopF (body:Code) (L:List (Nat×Co)):X→Option (X ⊕ (Ex×St)):=fun x=>loopK m L (den E fn m call it body none ⟨slots L x.2.1,x.2.2⟩)
theorem loopF_eq (body:Code) (L:List (Nat×Co)) (f:Option Nat) (vs:List AV) (h:Heap):loopF E fn m call it body L (f,vs,h) = loopK m L (den E fn m call it body none ⟨slots L vs,h⟩):=rfl
theorem loopK_n (L:List (Nat×Co)) (st:St):loopK m L (some (.normal,st)) = (canon m L st).map fun y=>.inl (none,y.1,y.2):=rfl
theorem loopK_r (L:List (Nat×Co)) (st:St):loopK m L (some (.ret,st)) = some (.inr (.ret,st)):=rfl
theorem loopK_e (L:List (Nat×Co)) (id:Nat) (st:St):loopK m L (some (.exit id,st)) = some (.inr (.exit id,st)):=rfl
theorem loopK_g (L:List (Nat×Co)) (id:Nat) (st:St):loopK m L (some (.goto id,st)) = some (.inr (.goto id,st)):=rfl
def loopD (it:It) (F:X→Option (X ⊕ (Ex×St))) (r:Option (List AV×Heap)):Option (Ex×St):=r.bind fun x=>it F (none,x.1,x.2)
theorem den_seq (a b:Code) (st:St):den E fn m call it (.seq a b) none st = seqD E fn m call it b (den E fn m call it a none st):=rfl
theorem den_cond (c:Operand) (t e:Code) (st:St):den E fn m call it (.cond c t e) none st = condD E fn m call it t e st (ev st.sl c):=rfl
theorem den_block (id:Nat) (b:Code) (st:St):den E fn m call it (.block id b) none st = blockD id (den E fn m call it b none st):=rfl
theorem den_draw (id:Nat) (ops:Array Oper) (st:St) (h:drawOk E ops.toList = true):den E fn m call it (.region id ops true) none st = regD (runDraw E call ops.toList st):=by
  simp only [den,h,if_true,regD]
theorem den_skip (st:St):den E fn m call it .skip none st = some (.normal,st):=rfl
theorem den_ret (st:St):den E fn m call it .ret none st = some (.ret,st):=rfl
theorem den_exit (id:Nat) (st:St):den E fn m call it (.exit id) none st = some (.exit id,st):=rfl
theorem den_goto (id:Nat) (st:St):den E fn m call it (.goto id) none st = some (.goto id,st):=rfl
theorem seqD_n (b:Code) (st:St):seqD E fn m call it b (some (.normal,st)) = den E fn m call it b none st:=rfl
theorem seqD_r (b:Code) (st:St):seqD E fn m call it b (some (.ret,st)) = some (.ret,st):=rfl
theorem seqD_e (b:Code) (id:Nat) (st:St):seqD E fn m call it b (some (.exit id,st)) = some (.exit id,st):=rfl
theorem seqD_g (b:Code) (id:Nat) (st:St):seqD E fn m call it b (some (.goto id,st)) = some (.goto id,st):=rfl
theorem condD_t (t e:Code) (st:St):condD E fn m call it t e st (some (.v (.c (.d (.sc (.bool true)))))) = den E fn m call it t none st:=rfl
theorem condD_f (t e:Code) (st:St):condD E fn m call it t e st (some (.v (.c (.d (.sc (.bool false)))))) = den E fn m call it e none st:=rfl
theorem condD_if (t e:Code) (st:St) (b:Bool):condD E fn m call it t e st (some (.v (.c (.d (.sc (.bool b)))))) = if b = true then den E fn m call it t none st else den E fn m call it e none st:=rfl
theorem blockD_n (id:Nat) (st:St):blockD id (some (.normal,st)) = some (.normal,st):=rfl
theorem blockD_r (id:Nat) (st:St):blockD id (some (.ret,st)) = some (.ret,st):=rfl
theorem blockD_g (id l:Nat) (st:St):blockD id (some (.goto l,st)) = some (.goto l,st):=rfl
theorem blockD_e (id:Nat) (st:St):blockD id (some (.exit id,st)) = some (.normal,st):=by simp [blockD]
theorem blockD_e' (id i:Nat) (st:St) (h:Nat.beq i id = false):blockD id (some (.exit i,st)) = some (.exit i,st):=by
  have:i ≠ id:=fun e=>by subst e; simp at h
  simp [blockD,this]
theorem regD_s (st:St):regD (some st) = some (.normal,st):=rfl
theorem loopD_s (F:X→Option (X ⊕ (Ex×St))) (vs:List AV) (h:Heap):loopD it F (some (vs,h)) = it F (none,vs,h):=rfl
def runK (all os:List Oper) (o:Oper) (st:St) (r:Option Bool):Option St:=match r with
  | some true=>(match stepA E call st.sl st.hp o with
    | some (v,h)=>runOps E call all os ⟨putO st.sl o.dst v,h⟩
    | none=>none)
  | some false=>runOps E call all os ⟨putO st.sl o.dst (.tup []),st.hp⟩
  | none=>none
def stepK (all os:List Oper) (d:Option Nat) (sl:Nat→AV) (r:Option (AV×Heap)):Option St:=match r with
  | some (v,h)=>runOps E call all os ⟨putO sl d v,h⟩
  | none=>none
theorem runOps_nil (all:List Oper) (st:St):runOps E call all [] st = some st:=rfl
theorem runOps_none (all os:List Oper) (d:Option Tmp) (op:Op) (t:TypeId) (pos:String) (aft:Array Edge) (st:St) :
    runOps E call all (⟨d,op,t,pos,aft,none⟩ :: os) st = stepK E call all os d st.sl (stepA E call st.sl st.hp ⟨d,op,t,pos,aft,none⟩):=rfl
theorem runOps_some (all os:List Oper) (d:Option Tmp) (op:Op) (t:TypeId) (pos:String) (aft:Array Edge) (g:Nat×Bool) (st:St) :
    runOps E call all (⟨d,op,t,pos,aft,some g⟩ :: os) st = runK E call all os ⟨d,op,t,pos,aft,some g⟩ st (wantA all st.sl ⟨d,op,t,pos,aft,some g⟩):=by
  simp only [runOps,runK]
  generalize wantA all st.sl ⟨d,op,t,pos,aft,some g⟩ = r
  cases r with
  | none=>rfl
  | some b=>cases b <;> rfl
theorem runK_t (all os:List Oper) (o:Oper) (st:St):runK E call all os o st (some true) = stepK E call all os o.dst st.sl (stepA E call st.sl st.hp o):=rfl
theorem runK_f (all os:List Oper) (o:Oper) (st:St):runK E call all os o st (some false) = runOps E call all os ⟨putO st.sl o.dst (.tup []),st.hp⟩:=rfl
theorem stepK_s (all os:List Oper) (d:Option Nat) (sl:Nat→AV) (v:AV) (h:Heap):stepK E call all os d sl (some (v,h)) = runOps E call all os ⟨putO sl d v,h⟩:=rfl
def resultsL (res:List ResultVar) (s:Nat→AV) (hp:Heap) (P:Program):Option AV :=
  (res.mapM (resultA s hp P)).map fun l=>match l with | [x]=>.v x | l=>.tup l
def bodyD (res:List ResultVar) (m:Nat) (hand:Bool) (r:Option (Ex×St)):Option (AV×Heap):=match r with
  | some (.ret,st) | some (.normal,st)=>(resultsL res st.sl st.hp E.P).bind (finish m hand st.hp)
  | _=>none
theorem bodyD_r (res:List ResultVar) (m:Nat) (hand:Bool) (st:St):bodyD E res m hand (some (.ret,st)) = (resultsL res st.sl st.hp E.P).bind (finish m hand st.hp):=rfl
theorem bodyD_n (res:List ResultVar) (m:Nat) (hand:Bool) (st:St):bodyD E res m hand (some (.normal,st)) = (resultsL res st.sl st.hp E.P).bind (finish m hand st.hp):=rfl
end eqs
theorem callW_run {E:Env} {f:Nat} {args:List V1} {hp:Heap} {fnc:Func} {body:Code} {res:List ResultVar} (h:E.P.funcs[f]? = some fnc) (hb:fnc.body = some body) (hres:fnc.results.toList = res)
    (hk:(codeOk fnc.ntmps body && decide (args.length≤fnc.ntmps)) = true):callW E f args hp =
      bodyD E res hp.length (E.hand f) (den E f hp.length (callW E) itW body none ⟨slotsOf args,hp⟩):=by
  rw [callW_body h hb hk]
  subst hres
  rfl
theorem wrap_64 (n:Int) (h1 : -9223372036854775808≤n) (h2:n < 9223372036854775808):IntKind.wrap .i64 n = n:=by
  rw [IntKind.wrap_i64]; omega
theorem nc_lit (n:Nat):((no_index (OfNat.ofNat n):Nat):Int) = OfNat.ofNat n:=rfl
theorem rg0:List.range 0 = []:=rfl
theorem rg1:List.range 1 = [0]:=rfl
theorem rg2:List.range 2 = [0,1]:=rfl
theorem rg3:List.range 3 = [0,1,2]:=rfl
theorem rg4:List.range 4 = [0,1,2,3]:=rfl
def G0 (w:World):Gh:=⟨fun _=>.none,fun b i=>w.cell? ⟨b,i,none⟩,w.heap.size⟩
theorem WR0 (w:World):WR (G0 w) [] w:=⟨fun _ _ _ h=>h,fun k o h=>by simp at h,fun k k' b hk=>by simp at hk,Nat.le_refl _⟩
open Go.RowKit in
theorem law_run {E:Env} (he:EnvOk E) {f:Nat} {args:List V1} {h':Heap} {b:Bool} (hr:callW E f args [] = some (.bool b,h')) {w:World} {vs:List Value} (hb:∀ b i v,E.base b i = some v→w.cell? ⟨b,i,none⟩ = some v) (ha:All2 (VR (G0 w) []) args vs)
    (hk:∀ b φ,E.blk b = some φ→∃ vs t fz,w.heap[b]? = some (.cells vs t fz)∧φ vs:=by intro b φ h; cases h) :
    Calls E.P f vs.toArray w fun e w'=>e = .returned (.bool b)∧Below w.heap.size w w':=by
  refine (callW_ok he f args [] _ _ hr (G0 w) w vs ⟨hb,fun b φ h=>by
    obtain ⟨vs,t,fz,h1,h2⟩:=hk b φ h
    exact ⟨lt_of_block h1,⟨vs,t,fz,h1,h2⟩,fun k hk=>by simp at hk⟩⟩ (WR0 w) ha).mono ?_
  rintro e w' ⟨x,G',rfl,hx,hw',sn⟩
  refine ⟨?_,⟨sn.io.1,sn.io.2.2,sn.io.2.1,sn.size,fun k hk=>sn.same k hk (.inl hk) fun j hj=>by simp at hj⟩⟩
  cases hx
  rfl
end Go.Ab
end
