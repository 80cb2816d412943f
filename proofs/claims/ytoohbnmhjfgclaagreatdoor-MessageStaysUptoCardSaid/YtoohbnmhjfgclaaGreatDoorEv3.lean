/- An abstract evaluator of the loaded code, and that what it says is what the machine does. -/
import Derived.Test.YtoohbnmhjfgclaaGreatDoorEv2
import Derived.Laws.BytesString
set_option linter.all false
section
set_option linter.unusedVariables false
set_option linter.unusedSimpArgs false
namespace Go.Ab
open Go
section
variable {E:Env} {G:Gh} {hp:Heap} {s:Nat→AV} {a:Act} {w:World} {o:Oper}
theorem flat_get {α:Type} {sz:Nat} (h0:0 < sz):∀ (es:List (List α)),(∀ e ∈ es,e.length = sz)→∀ j,es.flatten[j]? = (es[j / sz]?).bind fun e=>e[j % sz]? := by
  intro es
  induction es with
  | nil=>intro _ j; simp
  | cons e es ih =>
    intro h j
    have he:=h e List.mem_cons_self
    simp only [List.flatten_cons]
    by_cases hj:j < sz
    · rw [List.getElem?_append_left (by omega),Nat.div_eq_of_lt hj,Nat.mod_eq_of_lt hj]
      simp
    · rw [List.getElem?_append_right (by omega),he,ih (fun x hx=>h x (List.mem_cons_of_mem _ hx))]
      have:j / sz = (j - sz) / sz + 1:=by rw [Nat.div_eq_sub_div h0 (by omega)]
      rw [this,List.getElem?_cons_succ,← Nat.mod_eq_sub_mod (by omega)]
theorem flat_len {α:Type} {sz:Nat}:∀ (es:List (List α)),(∀ e ∈ es,e.length = sz)→es.flatten.length = es.length * sz:=by
  intro es
  induction es with
  | nil=>intro _; simp
  | cons e es ih =>
    intro h
    simp only [List.flatten_cons,List.length_append,List.length_cons,Nat.add_mul]
    rw [ih (fun x hx=>h x (List.mem_cons_of_mem _ hx)),h e List.mem_cons_self]
    omega
theorem chunk_flat {α:Type} (sz:Nat):∀ (n m:Nat) (l:List α),m≤n→n * sz≤l.length→((chunk sz n l).take m).flatten = l.take (m * sz):=by
  intro n
  induction n with
  | zero => intro m l hm _; have : m = 0 := by omega
            subst this; simp
  | succ n ih =>
    intro m l hm hl
    cases m with
    | zero=>simp
    | succ m =>
      rw [Nat.add_mul] at hl
      simp only [chunk,List.take_succ_cons,List.flatten_cons]
      rw [ih m (l.drop sz) (by omega) (by simp; omega),Nat.add_mul,Nat.one_mul,Nat.add_comm (m * sz),List.take_add]
theorem cell_heap {w w':World} (h:w'.heap = w.heap) (a:Addr):w'.cell? a = w.cell? a:=by simp [World.cell?,h]
theorem list_cells {x:C} {es:List (List D)} {v:Value} {sz:Nat} (hw:WR G hp w) (h:listOf hp x = some es) (r:CR G hp x v) (h0:0 < sz) (hall:∀ e ∈ es,e.length = sz) :
    ∃ (ad:Option Addr) (cap:Nat),v = .slice ad es.length cap∧es.length≤cap∧∀ m,m≤es.length→∃ vs:List Value,vs.length = m * sz∧All2 (DR G.μ) (es.take m).flatten vs ∧
      (∀ (P:Program) (w':World),w'.heap = w.heap→(Builtin.firstCells sz m v).run P w' = .ok vs.toArray w'):=by
  have key:∀ nl,DR G.μ (.lst nl es) v→∃ (ad:Option Addr) (cap:Nat),v = .slice ad es.length cap∧es.length≤cap∧∀ m,m≤es.length→∃ vs:List Value,vs.length = m * sz∧All2 (DR G.μ) (es.take m).flatten vs ∧
      (∀ (P:Program) (w':World),w'.heap = w.heap→(Builtin.firstCells sz m v).run P w' = .ok vs.toArray w'):=by
    intro nl hd
    obtain ⟨ad,cap,sz',vs,rfl,h1,h2,h3,hsp,h4,h5,h6⟩:=DR.inv hd
    refine ⟨ad,cap,rfl,h1,fun m hm=>?_⟩
    have hsz:es ≠ []→sz' = sz:=by
      intro hne
      cases es with
      | nil=>exact (hne rfl).elim
      | cons e es=>rw [← h4 e List.mem_cons_self,hall e List.mem_cons_self]
    have hta:∀ e ∈ es.take m,e.length = sz:=fun e he=>hall e (List.mem_of_mem_take he)
    have hfl:=flat_len (es.take m) hta
    rw [List.length_take,Nat.min_eq_left hm] at hfl
    refine ⟨(List.range (m * sz)).map fun j=>vs (j / sz) (j % sz),by simp,All2.of_get (by rw [hfl]; simp) fun j c u hc hu=>?_,fun P w' hw'=>?_⟩
    · have hj:=lt_of_get hc
      rw [hfl] at hj
      rw [flat_get h0 _ hta] at hc
      simp only [Option.bind_eq_some_iff] at hc
      obtain ⟨e,he,hec⟩:=hc
      rw [List.getElem?_take] at he
      split at he
      · rw [List.getElem?_map,List.getElem?_range hj] at hu
        cases hu
        exact h5 _ _ _ _ he hec
      · cases he
    · by_cases hm0:m = 0
      · subst hm0
        cases ad <;> simp [Builtin.firstCells,loadCells,loadCellsFrom]
      · have hne:es ≠ []:=by rintro rfl; simp at hm; omega
        have hs':=hsz hne
        subst hs'
        have hpos:0 < es.length:=by cases es <;> simp at hne ⊢
        cases ad with
        | none=>have:=h3 rfl; omega
        | some ad =>
          simp only [Builtin.firstCells]
          have hlen:((List.range (m * sz')).map fun j=>vs (j / sz') (j % sz')).length = m * sz':=by simp
          have hr:=run_loadCells_list (P:=P) w' ad ((List.range (m * sz')).map fun j=>vs (j / sz') (j % sz')) (fun j v hv=>by
            rw [List.getElem?_map] at hv
            simp only [Option.map_eq_some_iff] at hv
            obtain ⟨j',hj',rfl⟩:=hv
            have hj:j < m * sz':=by
              have:=lt_of_get hj'
              simpa using this
            rw [List.getElem?_range hj] at hj'
            cases hj'
            have hq:j / sz' < es.length:=by
              have:j / sz' < m:=(Nat.div_lt_iff_lt_mul h0).2 hj
              omega
            have he:es[j / sz']? = some es[j / sz']:=List.getElem?_eq_getElem hq
            have hrm:j % sz' < (es[j / sz']).length:=by rw [hall _ (List.getElem_mem hq)]; exact Nat.mod_lt _ h0
            have hc:(es[j / sz'])[j % sz']? = some (es[j / sz'])[j % sz']:=List.getElem?_eq_getElem hrm
            obtain ⟨b,o',e1,e2⟩:=h6 _ _ _ _ he hc
            cases e1
            rw [addr_add,cell_heap hw']
            have:=hw.mu _ _ _ e2
            rwa [show o' + j / sz' * sz' + j % sz' = o' + j by
              have:=Nat.div_add_mod j sz'
              rw [Nat.mul_comm] at this
              omega] at this)
          rw [hlen] at hr
          exact hr
  cases x with
  | slc k off sz' len cap =>
    simp only [listOf,slcCells,Option.bind_eq_some_iff,Option.map_eq_some_iff] at h
    obtain ⟨cs,hcs,ds,hds,rfl⟩:=h
    split at hcs
    · rename_i cells hk
      split at hcs
      · rename_i hle
        cases hcs
        obtain ⟨b,c,off',hib,rfl,hlc,hcap,hoff,_⟩:=r
        rw [chunk_length]
        have hdl:ds.length = len * sz':=by rw [mapM_len hds]; simp; omega
        refine ⟨some ⟨b,off',none⟩,c,rfl,hlc,fun m hm=>?_⟩
        by_cases hm0:m = 0
        · subst hm0
          exact ⟨[],by simp,by simpa using All2.nil,fun P w' hw'=>by simp [Builtin.firstCells,loadCells,loadCellsFrom]⟩
        · have hsz:sz' = sz:=by
            have hi:0 < len:=by omega
            have hg:=chunk_get sz' len ds 0 hi
            have:=hall _ (List.mem_of_getElem? hg)
            simp at this
            have h2:1 * sz'≤len * sz':=Nat.mul_le_mul_right sz' hi
            omega
          subst hsz
          have ho:off' = off:=hoff (by omega)
          subst ho
          have hms:m * sz'≤len * sz':=Nat.mul_le_mul_right sz' hm
          obtain ⟨l,hl,hr,hcell⟩:=read_cells (cs:=cells) (off:=off') (n:=m * sz') hw hk (hib.at hk) (by omega)
          refine ⟨l,hl,?_,fun P w' hw'=>?_⟩
          · rw [chunk_flat sz' len m ds hm (by omega)]
            have hd2:((cells.drop off').take (m * sz')).mapM C.toD = some (ds.take (m * sz')):=by
              have h2:=mapM_all2 hds
              have h3:=h2.take (m * sz')
              rw [List.take_take,Nat.min_eq_left hms] at h3
              clear hds h2 hdl hr hl hcell
              generalize (List.drop off' cells).take (m * sz') = p at h3
              generalize ds.take (m * sz') = q at h3
              induction h3 with
              | nil=>rfl
              | cons h _ ih=>simp [h,ih]
            exact all2_toD hd2 hr
          · simp only [Builtin.firstCells]
            have hrr:=run_loadCells_list (P:=P) w' ⟨b,off',none⟩ l (fun j v hv=>by rw [cell_heap hw']; exact hcell j v hv)
            rwa [hl] at hrr
      · cases hcs
    · cases hcs
  | d x =>
    cases x with
    | sc v=>simp [listOf,C.list] at h
    | lst nl es'=>simp only [listOf,C.list,Option.map_some,Option.some.injEq] at h; subst h; exact key nl r
  | own nl es' k=>simp only [listOf,C.list,Option.map_some,Option.some.injEq] at h; subst h; exact key nl r.1
  | _=>simp [listOf,C.list] at h
theorem modify_push (h:Array Obj) (x:Obj) (f:Obj→Obj):(h.push x).modify h.size f = h.push (f x):=by
  apply Array.ext
  · simp
  · intro i h1 h2
    rw [Array.getElem_modify,Array.getElem_push,Array.getElem_push]
    simp only [Array.size_modify,Array.size_push] at h1
    by_cases e:i < h.size
    · rw [if_neg (by omega),dif_pos e,dif_pos e]
    · rw [if_pos (by omega),dif_neg e,dif_neg e]
theorem run_choose_cap (P:Program) (w:World) (need old:Nat) (t:TypeId):∃ c,need≤c∧(choose (.appendCap need old t)).run P w = .ok c w.drew:=by
  refine ⟨need + w.tape w.drawn (.appendCap need old t) % (2 ^ 63 - need),by omega,?_⟩
  simp [run_choose,Question.forced,Question.cut]
theorem encB_len (bs:List UInt8):∀ e ∈ encB bs,e.length = 1:=by
  intro e he
  simp only [encB,List.mem_map] at he
  obtain ⟨b,_,rfl⟩:=he
  rfl
theorem encB_length (bs:List UInt8):(encB bs).length = bs.length:=by simp [encB]
theorem push_fold (ns:List Int):∀ (x:ByteArray),(ns.foldl (fun r n=>r.push (UInt8.ofNat n.toNat)) x) = ⟨x.data ++ (ns.map fun n=>UInt8.ofNat n.toNat).toArray⟩:=by
  induction ns with
  | nil=>intro x; simp
  | cons n ns ih =>
    intro x
    simp only [List.foldl_cons,List.map_cons]
    rw [ih]
    congr 1
    apply Array.ext'
    simp [ByteArray.push]
theorem bytes_ints {es:List (List D)} {bs:List UInt8} {vs:List Value} {μ:Nat→Nat→Option Value} (h:bytesOf es = some bs) (r:All2 (DR μ) es.flatten vs) :
    ∃ ns:List Int,vs = ns.map (Value.int .u8)∧bs = ns.map (fun n=>UInt8.ofNat n.toNat)∧∀ e ∈ es,e.length = 1:=by
  have h2:=mapM_all2 h
  clear h
  induction h2 generalizing vs with
  | nil=>cases r; exact ⟨[],rfl,rfl,by simp⟩
  | cons h _ ih =>
    split at h
    · rename_i x
      unfold byteOf at h
      split at h
      · rename_i n
        cases h
        simp only [List.flatten_cons,List.singleton_append] at r
        cases r with
        | cons hx ht =>
          obtain ⟨ns,rfl,rfl,h3⟩:=ih ht
          cases hx
          exact ⟨n :: ns,rfl,rfl,by simpa using h3⟩
      · cases h
    · cases h
def s2bCells (b:ByteArray) (c:Nat):Array Value:=b.data.map (fun y:UInt8=>Value.int .u8 (y.toNat:Int)) ++ Array.replicate (c - b.size) (Value.int .u8 0)
theorem s2b_size {b:ByteArray} {c:Nat} (hc:b.size≤c):(s2bCells b c).size = c:=by
  have hbd:b.data.size = b.size:=rfl
  rw [s2bCells,Array.size_append,Array.size_map,Array.size_replicate,hbd]; omega
theorem s2b_get {b:ByteArray} {c i:Nat} {y:UInt8} (hy:b.data.toList[i]? = some y):(s2bCells b c)[i]? = some (.int .u8 (y.toNat:Int)):=by
  have hi:=lt_of_get hy
  rw [Array.length_toList] at hi
  rw [s2bCells,Array.getElem?_append_left (by rw [Array.size_map]; exact hi),Array.getElem?_map]
  rw [Array.getElem?_toList] at hy
  rw [hy]
  rfl
theorem run_s2b (P:Program) (w:World) (b:ByteArray) (e:TypeId):∃ c w',b.size≤c∧(Conv.stringToBytes e b).run P w = .ok (.slice (some ⟨w.heap.size,0,none⟩) b.size c) w' ∧
    w'.heap = w.heap.push (.cells (s2bCells b c) e (c,c + 1))∧Io w w':=by
  obtain ⟨c,hc,hcr⟩:=run_choose_cap P w b.size 0 e
  refine ⟨c,(w.drew.alloc (.cells (s2bCells b c) e)).freeze ⟨w.heap.size,c,none⟩ 1,hc,?_,?_,⟨?_,?_,?_⟩⟩
  · simp only [Conv.stringToBytes,Sem.run_bind,hcr,Result.andThen_ok,newRow,run_newObj,markStringish,run_shape,Sem.run_pure]
    have hshape:(w.drew.alloc (.cells (s2bCells b c) e)).shape? w.heap.size = some (e,c):=by
      unfold World.shape?
      rw [show (w.drew.alloc (.cells (s2bCells b c) e)).heap[w.heap.size]? = _ from alloc_at w.drew _]
      simp only [s2b_size hc]
    show Result.andThen (Sem.run P (match (w.drew.alloc (.cells (s2bCells b c) e)).shape? w.heap.size with
      | some (_,n)=>freeze ⟨w.heap.size,n,none⟩ 1
      | _=>pure ()) (w.drew.alloc (.cells (s2bCells b c) e))) _ = _
    rw [hshape]
    rfl
  · have key:(w.drew.alloc (.cells (s2bCells b c) e)).heap = w.heap.push (.cells (s2bCells b c) e):=rfl
    simp only [World.freeze,Nat.one_ne_zero,if_false,key,modify_push]
    simp
  all_goals (simp only [World.freeze,Nat.one_ne_zero,if_false]; rfl)
theorem freeze_ok (hw:WR G hp w) {b:Nat} {vs:Array Value} {t:TypeId} {fz:Nat×Nat} (hb:w.heap[b]? = some (.cells vs t fz)) (hlo:G.lo≤b) {i:Nat} {v:Value} (hm:G.μ b i = some v) :
    WR G hp (w.freeze ⟨b,vs.size,none⟩ 1)∧Sn G hp w G hp (w.freeze ⟨b,vs.size,none⟩ 1):=by
  have hfr:w.freeze ⟨b,vs.size,none⟩ 1 = { w with heap:=w.heap.modify b fun
    | .cells c elem (lo,hi)=>.cells c elem (if lo == hi then (vs.size,vs.size + 1) else (min lo vs.size,max hi (vs.size + 1)))
    | o=>o }:=rfl
  have hhb:(w.freeze ⟨b,vs.size,none⟩ 1).heap[b]? = some (.cells vs t (if fz.1 == fz.2 then (vs.size,vs.size + 1) else (min fz.1 vs.size,max fz.2 (vs.size + 1)))):=by
    rw [hfr]
    simp only [Array.getElem?_modify,hb,if_true,Option.map_some]
  have hhx:∀ x,x ≠ b→(w.freeze ⟨b,vs.size,none⟩ 1).heap[x]? = w.heap[x]? := by
    intro x hx'
    rw [hfr]
    simp only [Array.getElem?_modify]
    rw [if_neg (Ne.symm hx')]
  have hsize:(w.freeze ⟨b,vs.size,none⟩ 1).heap.size = w.heap.size:=by rw [hfr]; simp
  have sn:Sn G hp w G hp (w.freeze ⟨b,vs.size,none⟩ 1):=by
    refine ⟨fun _ _ _ h=>h,fun _ _ h=>.inl h,fun k _ hk h=>.inr ⟨k,hk,h⟩,fun x hx hl hn=>?_,by omega,fun k o h=>⟨o,h,KR.refl G k o⟩,⟨rfl,rfl,rfl⟩,rfl⟩
    by_cases e:x = b
    · subst e
      rcases hl with h | h
      · omega
      · rw [h i] at hm; cases hm
    · exact hhx x e
  refine ⟨⟨fun x j u h=>?_,fun k o h=>?_,hw.inj,by rw [hsize]; exact hw.lo⟩,sn⟩
  · have h0:=hw.mu x j u h
    by_cases e:x = b
    · subst e
      rw [cell_at hhb]
      rwa [cell_at hb] at h0
    · obtain ⟨us,t',fz',hb2,hi⟩:=block_of_cell h0
      rw [cell_at (by rw [hhx x e]; exact hb2),hi]
  · have hob:=hw.ob k o h
    by_cases hat:(G.β k).at b
    · cases o with
      | cells cs =>
        obtain ⟨b',_,_,_,e,_,_,_,_,hn,_⟩:=hob
        cases Bd.at_inj hat e
        rw [hn i] at hm
        cases hm
      | amap kvs =>
        obtain ⟨b',_,_,e,_,_,hn⟩:=hob
        rw [e] at hat
        cases hat
        rw [hn i] at hm
        cases hm
      | siter s p =>
        obtain ⟨b',e,_,hn⟩:=hob
        rw [e] at hat
        cases hat
        rw [hn i] at hm
        cases hm
      | gone =>
        have e:G.β k = .none:=hob
        rw [e] at hat
        exact hat.elim
      | row n rsz =>
        simp only [OR] at hob ⊢
        cases hβ:G.β k with
        | none=>trivial
        | blk b=>rw [hβ] at hob; exact hob.elim
        | tail b' o sz cap =>
          rw [hβ] at hob hat
          have hbb:b' = b:=hat
          subst hbb
          obtain ⟨q0,⟨us,t',fz',q1,q2,q3⟩,q4,q5,q6⟩:=hob
          rw [hb] at q1
          cases q1
          refine ⟨q0,⟨vs,t,_,hhb,?_,q3⟩,q4,q5,q6⟩
          obtain ⟨h1,h2⟩:=q2
          by_cases e0:fz.1 = fz.2
          · rw [if_pos (by simpa using e0)]
            exact ⟨Nat.le_succ _,fun i hi h3=>absurd hi (Nat.not_lt.2 h3.1)⟩
          · rw [if_neg (by simpa using e0)]
            have hge:vs.size≤fz.1:=by
              rcases Nat.lt_or_ge fz.1 vs.size with h3 | h3
              · exact absurd ⟨Nat.le_refl _,by omega⟩ (h2 fz.1 h3)
              · exact h3
            refine ⟨?_,fun i hi h3=>?_⟩
            · show min fz.1 vs.size≤max fz.2 (vs.size + 1)
              omega
            · have h4:min fz.1 vs.size≤i:=h3.1
              omega
    · exact hob.keep sn rfl (fun x hx=>hhx x fun e=>hat (e ▸ hx)) fun _ _ _ hn=>hn
theorem op_convert (hs:SR G hp s a.tmps) (hw:WR G hp w) {src dst:TypeId} {x:Operand} (hop:o.op = .convert src dst x) {v:AV×Heap} (h:dop E s hp o = some v) :
    OkV G hp w ((execOp a.eval o).run E.P w) v:=by
  simp only [dop,hop] at h
  split at h
  · rename_i e b hu1 hu2 hx
    split at h
    · rename_i he
      have r:=ev1_rel hs hx
      have hv:a.eval x = .string b:=by generalize a.eval x = z at r; cases r; rfl
      obtain ⟨c,w',hc,hr2,hh,hio⟩:=run_s2b E.P w b e
      have hcs:=s2b_size hc
      have hrun:(convert src dst (.string b)).run E.P w = .ok (.slice (some ⟨w.heap.size,0,none⟩) b.size c) w':=by
        simp only [convert,Sem.run_bind,run_underlying hu1,run_underlying hu2,run_underlying he,Result.andThen_ok]
        exact hr2
      have hfz:Fz (c,c + 1) (s2bCells b c).size:=⟨Nat.le_succ _,fun i hi=>by omega⟩
      have hbl:b.data.toList.length = b.size:=Array.length_toList
      split at h
      · cases h
        obtain ⟨G',hw',sn,hi,htop⟩:=new_room (w':=w') (cs:=b.data.toList.map fun c=>C.d (.sc (.int .u8 c.toNat))) (t:=e) (sz:=1) (cap:=c) hw hh hfz (by rw [List.length_map,hbl]; omega) (by omega)
          (fun i cc vv h1 h2=>by
            simp only [List.getElem?_map,Option.map_eq_some_iff] at h1
            obtain ⟨y,hy,rfl⟩:=h1
            rw [s2b_get hy] at h2
            cases h2
            exact DR.sc _ rfl)
        refine ⟨_,w',G',.inl ⟨by simp only [execOp,hop,hv]; exact run_val hrun,?_⟩,hw',sn⟩
        exact ⟨w.heap.size,c,0,hi,rfl,hc,fun c' hc'=>(by cases hc'),fun _=>rfl,fun _ _=>.inr (by show 0 + c * 1≤_; rw [htop]; omega)⟩
      · split at h
        · cases h
          have hl:(encB b.data.toList).length = b.size:=by rw [encB_length,hbl]
          obtain ⟨G',hw',sn,hcr⟩:=new_own (w':=w') (es:=encB b.data.toList) (sz:=1) (cap:=c) (bd:=.tail w.heap.size 0 1 c) hw hh hfz (by omega) (by rw [hl]; exact hc) (encB_len _) (by omega) (.inr rfl)
            (fun i j el cc he hc=>by
              simp only [encB,List.getElem?_map,Option.map_eq_some_iff] at he
              obtain ⟨y,hy,rfl⟩:=he
              have hj:=lt_of_get hc
              simp only [List.length_singleton] at hj
              have hj0:j = 0:=by omega
              subst hj0
              simp only [List.getElem?_cons_zero,Option.some.injEq] at hc
              subst hc
              exact ⟨_,by rw [Nat.mul_one,Nat.add_zero]; exact s2b_get hy,.sc _ rfl⟩)
          rw [hl] at hw' sn hcr
          exact ⟨_,w',G',.inl ⟨by simp only [execOp,hop,hv]; exact run_val hrun,hcr⟩,hw',sn⟩
        · cases h
          have hl:(encB b.data.toList).length = b.size:=by rw [encB_length,hbl]
          obtain ⟨G',hw',sn,hcr⟩:=new_lst (w':=w') (es:=encB b.data.toList) (sz:=1) (cap:=c) hw hh (by rw [hl]; exact hc) (encB_len _) (by omega)
            (fun i j el cc he hc=>by
              simp only [encB,List.getElem?_map,Option.map_eq_some_iff] at he
              obtain ⟨y,hy,rfl⟩:=he
              have hj:=lt_of_get hc
              simp only [List.length_singleton] at hj
              have hj0:j = 0:=by omega
              subst hj0
              simp only [List.getElem?_cons_zero,Option.some.injEq] at hc
              subst hc
              exact ⟨_,by rw [Nat.mul_one,Nat.add_zero]; exact s2b_get hy,.sc _ rfl⟩)
          rw [hl] at hcr
          exact ⟨_,w',G',.inl ⟨by simp only [execOp,hop,hv]; exact run_val hrun,hcr⟩,hw',sn⟩
    · cases h
  · rename_i e y hu1 hu2 hx
    split at h
    · rename_i he
      simp only [Option.bind_eq_bind,Option.bind_eq_some_iff] at h
      obtain ⟨es,hes,bs,hbs,h⟩:=h
      cases h
      have r:=ev1_rel hs hx
      have hall:∀ el ∈ es,el.length = 1:=by
        have h2:=mapM_all2 hbs
        intro el hel
        obtain ⟨i,hi⟩:=List.getElem?_of_mem hel
        obtain ⟨c,_,hc⟩:=h2.get hi
        split at hc
        · rfl
        · cases hc
      obtain ⟨ad,cap,hv,_,hread⟩:=list_cells hw hes r (by omega) hall
      obtain ⟨vs,hvl,hvr,hrun⟩:=hread es.length (Nat.le_refl _)
      rw [List.take_length] at hvr
      obtain ⟨ns,rfl,rfl,_⟩:=bytes_ints hbs hvr
      refine OkV.same hw (x:=.string ⟨(ns.map fun (n:Int)=>UInt8.ofNat n.toNat).toArray⟩) ?_ (DR.sc (.string _) rfl)
      simp only [execOp,hop]
      refine run_val ?_
      have hlc:=hrun E.P w rfl
      rw [hv] at hlc ⊢
      simp only [convert,Sem.run_bind,run_underlying hu1,run_underlying hu2,run_underlying he,Result.andThen_ok]
      cases ad with
      | none =>
        have:ns = []:=by
          simp only [Builtin.firstCells,Sem.run_pure,Result.ok.injEq] at hlc
          have:=congrArg Array.toList hlc.1
          simpa using this.symm
        subst this
        rfl
      | some ad =>
        simp only [Builtin.firstCells,Nat.mul_one] at hlc
        have:=run_bytesToString (P:=E.P) w ad es.length cap ns hlc
        rw [push_fold] at this
        rw [this]
        simp
    · cases h
  · rename_i e e2 k off sz len cap hu1 hu2 hx
    split at h
    · rename_i cs he hob
      split at h
      · rename_i heq
        subst heq
        cases h
        have r:=ev1_rel hs hx
        have r':=r
        obtain ⟨b,c,off',hib,hv,hle,hcap,hoff,_⟩:=r'
        obtain ⟨b',vs,t,fz,hβ,hb,hfz,hl,hrel,hμ,htop⟩:=hw.ob k _ hob
        cases Bd.at_inj (hib.at hob) hβ
        have hfr:w.freeze ⟨b,vs.size,none⟩ 1 = { w with heap:=w.heap.modify b fun
          | .cells c elem (lo,hi)=>.cells c elem (if lo == hi then (vs.size,vs.size + 1) else (min lo vs.size,max hi (vs.size + 1)))
          | o=>o }:=rfl
        have hhb:(w.freeze ⟨b,vs.size,none⟩ 1).heap[b]? = some (.cells vs t (if fz.1 == fz.2 then (vs.size,vs.size + 1) else (min fz.1 vs.size,max fz.2 (vs.size + 1)))):=by
          rw [hfr]
          simp only [Array.getElem?_modify,hb,if_true,Option.map_some]
        have hhx:∀ x,x ≠ b→(w.freeze ⟨b,vs.size,none⟩ 1).heap[x]? = w.heap[x]? := by
          intro x hx'
          rw [hfr]
          simp only [Array.getElem?_modify]
          rw [if_neg (Ne.symm hx')]
        have hsize:(w.freeze ⟨b,vs.size,none⟩ 1).heap.size = w.heap.size:=by rw [hfr]; simp
        have hset:hp.set k (.cells cs) = hp:=by
          apply List.ext_getElem?
          intro i
          rw [List.getElem?_set]
          by_cases hi:k = i
          · subst hi
            have:k < hp.length:=(List.getElem?_eq_some_iff.1 hob).1
            rw [if_pos rfl,if_pos this,hob]
          · simp [hi]
        obtain ⟨sn,kk⟩:=set_ok (w':=w.freeze ⟨b,vs.size,none⟩ 1) (o':=.cells cs) hw hob hβ rfl rfl hhx hsize nofun nofun ⟨rfl,rfl,rfl⟩
        rw [hset] at sn kk
        have hfz':Fz (if fz.1 == fz.2 then (vs.size,vs.size + 1) else (min fz.1 vs.size,max fz.2 (vs.size + 1))) vs.size:=by
          obtain ⟨h1,h2⟩:=hfz
          by_cases e0:fz.1 = fz.2
          · rw [if_pos (by simpa using e0)]
            refine ⟨Nat.le_succ _,fun i hi h3=>?_⟩
            have:=h3.1
            exact absurd hi (Nat.not_lt.2 this)
          · rw [if_neg (by simpa using e0)]
            have hge:vs.size≤fz.1:=by
              rcases Nat.lt_or_ge fz.1 vs.size with h3 | h3
              · exact absurd ⟨Nat.le_refl _,by omega⟩ (h2 fz.1 h3)
              · exact h3
            refine ⟨?_,fun i hi h3=>?_⟩
            · show min fz.1 vs.size≤max fz.2 (vs.size + 1)
              omega
            · have h4:min fz.1 vs.size≤i:=h3.1
              omega
        have hw':=kk ⟨b,vs,t,_,hβ,hhb,hfz',hl,fun i c' v' hc hv'=>hrel i c' v' hc hv',hμ,htop⟩
        refine ⟨a.eval x,w.freeze ⟨b,vs.size,none⟩ 1,G,.inl ⟨?_,r⟩,hw',sn⟩
        simp only [execOp,hop]
        refine run_val ?_
        have hsh:w.shape? b = some (t,vs.size):=by simp [World.shape?,hb]
        rw [hv]
        simp [convert,run_underlying hu1,run_underlying hu2,run_underlying he,markStringish,hsh]
      · cases h
    · cases h
  · rename_i e e2 es0 hu1 hu2 hx
    split at h
    · rename_i he
      split at h
      · rename_i hnw
        obtain ⟨c,cs,es,rfl⟩:∃ c cs es,es0 = (c :: cs) :: es:=by
          cases es0 with
          | nil=>cases hnw
          | cons a l=>cases a with
            | nil=>cases hnw
            | cons c cs=>exact ⟨c,cs,l,rfl⟩
        split at h
        · rename_i heq
          subst heq
          obtain ⟨hd,b,o',hv,hlo⟩:=ev1_rel hs hx
          obtain ⟨ad,cap',sz,vs,e1,g1,g2,g3,gsp,g4,g5,g6⟩:=DR.inv hd
          obtain ⟨b2,o2,e3,hm⟩:=g6 0 0 _ _ rfl rfl
          rw [hv] at e1
          injection e1 with e1 _ _
          rw [← e1] at e3
          cases e3
          obtain ⟨us,t,fz,hb,_⟩:=block_of_cell (hw.mu _ _ _ hm)
          obtain ⟨hw',sn⟩:=freeze_ok hw hb hlo hm
          have hrun:(execOp a.eval o).run E.P w = .ok (.value (a.eval x)) (w.freeze ⟨b,us.size,none⟩ 1):=by
            simp only [execOp,hop]
            refine run_val ?_
            have hsh:w.shape? b = some (t,us.size):=by simp [World.shape?,hb]
            rw [hv]
            simp [convert,run_underlying hu1,run_underlying hu2,run_underlying he,markStringish,hsh]
          split at h
          · cases h
            obtain ⟨G2,hw2,sn2,hβ,hμ⟩:=name_ok (n:=(((c :: cs) :: es).length)) hw'
            refine ⟨a.eval x,_,G2,.inl ⟨hrun,?_⟩,hw2,sn.trans sn2⟩
            rw [hv] at hd ⊢
            exact ⟨hd.mono sn2.mu,((c :: cs) :: es).length,0,by simp,Nat.le_refl _,fun _=>by rw [hβ]; exact ⟨_,rfl⟩⟩
          · cases h
            exact ⟨a.eval x,_,G,.inl ⟨hrun,hd⟩,hw',sn⟩
        · cases h
      · cases h
    · cases h
  · rename_i d1 d2 y hno1 hno2 hno3 hno4 hu1 hu2 hx
    simp only [Option.bind_eq_bind,Option.bind_eq_some_iff,Option.map_eq_some_iff] at h
    obtain ⟨u,hu,r,hr,z,hz,rfl⟩:=h
    have e1:=toV_eq hu (ev1_rel hs hx)
    exact OkV.same hw (x:=r) (by simp only [execOp,hop,e1]; exact run_val (evalS_run hr w)) (ofV_rel hz)
  · cases h
end
end Go.Ab
end
section
set_option linter.unusedVariables false
set_option linter.unusedSimpArgs false
namespace Go.Ab
open Go
section
variable {E:Env} {G:Gh} {hp:Heap} {s:Nat→AV} {a:Act} {w:World} {o:Oper}
theorem wrap_nat {n:Int} (h0:0≤n) (h:n≤2 ^ 62):IntKind.i64.wrap n = n:=by
  have h1:n % (2 ^ 64:Int) = n:=Int.emod_eq_of_lt h0 (by omega)
  have h2:(2 ^ (64 - 1):Int) = 9223372036854775808:=by decide
  simp only [IntKind.wrap,IntKind.bits,IntKind.signed,Bool.true_and,decide_eq_true_eq,h1]
  rw [if_neg (by omega)]
theorem op_makeSlice (hs:SR G hp s a.tmps) (hw:WR G hp w) {t:TypeId} {x y:Operand} (hop:o.op = .makeSlice t x y) {v:AV×Heap} (h:dop E s hp o = some v) :
    OkV G hp w ((execOp a.eval o).run E.P w) v:=by
  simp only [dop,hop] at h
  split at h
  · rename_i e hu
    simp only [Option.bind_eq_bind,Option.bind_eq_some_iff,zeroC,bytesP,Option.map_eq_some_iff] at h
    obtain ⟨n,hn,by_,⟨inf,hinf,hby⟩,z,⟨zv,⟨zz,hz,hzv⟩,rfl⟩,li,hli,ci,hci,h⟩:=h
    split at h
    · rename_i hc
      obtain ⟨c1,c2,c3,c4,c5,c6⟩:=hc
      cases h
      obtain ⟨k1,hk1⟩:=evI_rel hs hli
      obtain ⟨k2,hk2⟩:=evI_rel hs hci
      have hzr:=(ofV_rel (G:=G) (hp:=hp) hzv).cells
      have hzero:=zero_cells (len:=ci.toNat) hzr c1 c2
      have hcb:ci≤ci * by_:=by
        have h1:ci * 1≤ci * (by_:Int):=Int.mul_le_mul_of_nonneg_left (by omega) (by omega)
        omega
      have hci2:ci≤2 ^ 62:=by
        have:ci≤2 ^ 47:=by omega
        omega
      have hlen:(List.replicate ci.toNat zv.cells).flatten.length = ci.toNat * n:=by rw [flat_rep_len,c1]
      obtain ⟨G',hw',sn,hi⟩:=new_cells (w':=w.alloc (.cells ((Array.range (ci.toNat * n)).map (zz.cells[· % zz.cells.size]!)) e)) (cs:=(List.replicate ci.toNat zv.cells).flatten) (t:=e) hw rfl (fz0 _)
        (by rw [hlen]; simp) (all2_get (α:=Unit) hzero)
      refine ⟨_,_,G',.inl ⟨?_,⟨w.heap.size,ci.toNat,0,hi,rfl,by omega,fun c' hc'=>(by cases hc'; rfl),fun _=>rfl,fun h=>by cases h⟩⟩,hw',sn⟩
      simp only [execOp,hop]
      refine run_val ?_
      have ht:(decide (ci < 0) || decide ((by_:Int) * ci > 2 ^ 48)) = false:=by
        rw [Int.mul_comm]
        simp
        omega
      simp only [Instr.makeSlice,Sem.run_bind,run_underlying hu,Result.andThen_ok,hk1,hk2,asInt,asIntOf,Sem.run_pure,run_typeInfo hinf,hby,wrap_nat c4 (by omega),wrap_nat (show 0≤ci by omega) hci2,ht]
      rw [if_neg (by simp; omega)]
      simp only [Sem.run_bind,run_askRoom,Result.andThen_ok,run_sizeOf hn]
      by_cases h0:ci.toNat * n = 0
      · rw [if_pos h0]
        simp only [pure_bind]
        have e0:∀ f:Nat→Value,(Array.range 0).map f = #[]:=fun f=>by simp
        simp only [h0,newRow,e0]
        simp
      · rw [if_neg h0]
        simp [run_zeroValue hz,newRow]
    · cases h
  · cases h
theorem bnd_some {i:Int} {n h:Nat} (e:bnd i n = some h):0≤i∧i≤n∧h = i.toNat:=by
  unfold bnd at e
  split at e
  · cases e; omega
  · cases e
theorem run_sliceBound {P:Program} {k:IntKind} {i:Int} {n h:Nat} {c:BoundsCode} (e:bnd i n = some h) {m:Nat} (hm:n≤m):(Instr.sliceBound (.int k i) m c).run P w = .ok h w:=by
  obtain ⟨h1,h2,rfl⟩:=bnd_some e
  simp only [Instr.sliceBound,Sem.run_bind,asIntOf,Sem.run_pure,Result.andThen_ok]
  rw [if_pos ⟨h1,by omega⟩]
  rfl
theorem low_cases (hs:SR G hp s a.tmps) {lo:Option Operand} {h l:Nat} (hl:((evB s 0 lo).bind fun i=>bnd i h) = some l) :
    (lo = none∧l = 0)∨∃ x k i,lo = some x∧a.eval x = .int k i∧bnd i h = some l:=by
  cases lo with
  | none =>
    simp only [evB,Option.bind_some] at hl
    have:=bnd_some hl
    exact .inl ⟨rfl,by omega⟩
  | some x =>
    simp only [evB,Option.bind_eq_some_iff] at hl
    obtain ⟨i,hi,hb⟩:=hl
    obtain ⟨k,hk⟩:=evI_rel hs hi
    exact .inr ⟨x,k,i,rfl,hk,hb⟩
theorem run_bounds (hs:SR G hp s a.tmps) {P:Program} {q:Bool} {len cap n h l:Nat} {lo hi:Option Operand} (hh:((evB s len hi).bind fun i=>bnd i n) = some h)
    (hl:((evB s 0 lo).bind fun i=>bnd i h) = some l) (hn:n≤cap):(Instr.sliceBounds q len cap (lo.map a.eval) (hi.map a.eval) none).run P w = .ok (l,h,cap) w:=by
  have hlo:=low_cases hs hl
  cases hi with
  | none =>
    simp only [evB,Option.bind_some] at hh
    have hb:=bnd_some hh
    have:h = len:=by omega
    subst this
    rcases hlo with ⟨rfl,rfl⟩ | ⟨x,k,i,rfl,hk,hb2⟩
    · simp [Instr.sliceBounds]
    · simp [Instr.sliceBounds,hk,run_sliceBound hb2 (Nat.le_refl _)]
  | some x =>
    simp only [evB,Option.bind_eq_some_iff] at hh
    obtain ⟨i,hi,hb⟩:=hh
    obtain ⟨k,hk⟩:=evI_rel hs hi
    rcases hlo with ⟨rfl,rfl⟩ | ⟨y,k',i',rfl,hk',hb2⟩
    · simp [Instr.sliceBounds,hk,run_sliceBound hb hn]
    · simp [Instr.sliceBounds,hk,run_sliceBound hb hn,hk',run_sliceBound hb2 (Nat.le_refl _)]
theorem run_bounds3 (hs:SR G hp s a.tmps) {P:Program} {q:Bool} {len cap n c h l:Nat} {lo:Option Operand} {hv m:Operand} (hc:((evI s m).bind fun i=>bnd i n) = some c)
    (hh:((evI s hv).bind fun i=>bnd i c) = some h) (hl:((evB s 0 lo).bind fun i=>bnd i h) = some l) (hn:n≤cap) :
    (Instr.sliceBounds q len cap (lo.map a.eval) (some (a.eval hv)) (some (a.eval m))).run P w = .ok (l,h,c) w:=by
  have hlo:=low_cases hs hl
  simp only [Option.bind_eq_some_iff] at hc hh
  obtain ⟨i,hi,hb⟩:=hc
  obtain ⟨j,hj,hb2⟩:=hh
  obtain ⟨k,hk⟩:=evI_rel hs hi
  obtain ⟨k2,hk2⟩:=evI_rel hs hj
  rcases hlo with ⟨rfl,rfl⟩ | ⟨y,k',i',rfl,hk',hb3⟩
  · simp [Instr.sliceBounds,hk,hk2,run_sliceBound hb hn,run_sliceBound hb2 (Nat.le_refl _)]
  · simp [Instr.sliceBounds,hk,hk2,run_sliceBound hb hn,run_sliceBound hb2 (Nat.le_refl _),hk',run_sliceBound hb3 (Nat.le_refl _)]
theorem DR.cut {μ:Nat→Nat→Option Value} {nl:Bool} {es:List (List D)} {ad:Option Addr} {cap n:Nat} (hd:DR μ (.lst nl es) (.slice ad es.length cap)) (hall:es.all (·.length == n) = true) {h l c:Nat}
    (h1:l≤h) (h2:h≤es.length) (h3:h≤c) (h4:c≤cap):DR μ (.lst nl ((es.take h).drop l)) (.slice (if c = l then ad else ad.map (·.add (l * n))) (h - l) (c - l)):=by
  obtain ⟨ad',cap',sz,vs,e,g1,g2,g3,gsp,g4,g5,g6⟩:=DR.inv hd
  cases e
  have hlen:((es.take h).drop l).length = h - l:=by simp; omega
  have key:=DR.lst (μ:=μ) nl ((es.take h).drop l) (if c = l then ad else ad.map (·.add (l * n))) (c - l) sz (fun i j=>vs (l + i) j) (by rw [hlen]; omega)
    (by split <;> simp [g2]) (fun e=>by
      have:ad = none:=by split at e <;> simpa using e
      have:=g3 this
      omega)
    (fun hne a' ha'=>by
      have hne:es ≠ []:=fun q=>hne (by rw [q]; simp)
      split at ha'
      · exact gsp hne _ ha'
      · simp only [Option.map_eq_some_iff] at ha'
        obtain ⟨b,hb,rfl⟩:=ha'
        have:=gsp hne _ hb
        unfold Addr.add
        split <;> simp_all)
    (fun e he=>g4 e (List.mem_of_mem_take (List.mem_of_mem_drop he)))
    (fun i j e c' he hc'=>by
      rw [List.getElem?_drop,List.getElem?_take] at he
      split at he
      · exact g5 _ _ _ _ he hc'
      · cases he)
    (fun i j e c' he hc'=>by
      rw [List.getElem?_drop,List.getElem?_take] at he
      split at he
      · rename_i hlt
        obtain ⟨b,o,rfl,hm⟩:=g6 _ _ _ _ he hc'
        have hne:c ≠ l:=by omega
        rw [if_neg hne]
        have hsn:sz = n:=by
          rw [← g4 e (List.mem_of_getElem? he)]
          have:=List.all_eq_true.1 hall e (List.mem_of_getElem? he)
          simpa using this
        subst hsn
        refine ⟨b,o + l * sz,by simp [addr_add],?_⟩
        rwa [show o + l * sz + i * sz + j = o + (l + i) * sz + j by rw [Nat.add_mul]; omega]
      · cases he)
  rw [hlen] at key
  exact key
end
end Go.Ab
end
section
set_option linter.unusedVariables false
set_option linter.unusedSimpArgs false
namespace Go.Ab
open Go
section
variable {E:Env} {G:Gh} {hp:Heap} {s:Nat→AV} {a:Act} {w:World} {o:Oper}
theorem cut_ok (hs:SR G hp s a.tmps) (hw:WR G hp w) {sz:Nat} {x:C} {v:Value} {lo hi mx:Option Operand} {r:V1×Heap} (hr:CR G hp x v) (h:cutSlice s hp sz x lo hi mx = some r) :
    ∃ (ad:Option Addr) (len cap l h c:Nat),v = .slice ad len cap∧(∀ (P:Program) (q:Bool),(Instr.sliceBounds q len cap (lo.map a.eval) (hi.map a.eval) (mx.map a.eval)).run P w = .ok (l,h,c) w) ∧
      ∃ G',WR G' r.2 w∧Sn G hp w G' r.2 w∧VR G' r.2 r.1 (.slice (if c = l then ad else ad.map (·.add (l * sz))) (h - l) (c - l)):=by
  have key:∀ (nl:Bool) (es:List (List D)),x.list = some (nl,es)→(∀ k off sz len cap,x ≠ .slc k off sz len cap)→∃ (ad:Option Addr) (len cap l h c:Nat),v = .slice ad len cap∧(∀ (P:Program) (q:Bool),(Instr.sliceBounds q len cap (lo.map a.eval) (hi.map a.eval) (mx.map a.eval)).run P w = .ok (l,h,c) w) ∧
      ∃ G',WR G' r.2 w∧Sn G hp w G' r.2 w∧VR G' r.2 r.1 (.slice (if c = l then ad else ad.map (·.add (l * sz))) (h - l) (c - l)):=by
    intro nl es hx hns
    have hcs:cutSlice s hp sz x lo hi mx = (if es.all (·.length == sz) then
      match mx with
      | none=>do
        let h ← (evB s es.length hi).bind fun i=>bnd i es.length
        let l ← (evB s 0 lo).bind fun i=>bnd i h
        if lo.isNone && hi.isNone then some (.c x,hp) else some (.c (.d (.lst nl ((es.take h).drop l))),hp)
      | some m=>do
        let c ← (evI s m).bind fun i=>bnd i es.length
        let hv ← hi
        let h ← (evI s hv).bind fun i=>bnd i c
        let l ← (evB s 0 lo).bind fun i=>bnd i h
        if h = c then some (.c (.own nl ((es.take h).drop l) hp.length),hp ++ [.row (h - l) 0]) else none
      else none):=by
      cases x with
      | slc k off sz' len cap=>exact (hns _ _ _ _ _ rfl).elim
      | _=>simp only [cutSlice,hx]; rfl
    rw [hcs] at h
    have hd:=list_dr hx hr
    obtain ⟨ad,cap,sz',vs,rfl,g1,g2,g3,gsp,g4,g5,g6⟩:=DR.inv hd
    split at h
    · rename_i hall
      cases mx with
      | none =>
        simp only [Option.bind_eq_bind,Option.bind_eq_some_iff] at h
        obtain ⟨hh,⟨i,hi1,hi2⟩,l,⟨j,hl1,hl2⟩,h⟩:=h
        have hb:=bnd_some hi2
        have hb2:=bnd_some hl2
        refine ⟨ad,es.length,cap,l,hh,cap,rfl,fun P q=>run_bounds hs (n:=es.length) (by simp [hi1,hi2]) (by simp [hl1,hl2]) g1,?_⟩
        have hc:=DR.cut hd hall (h:=hh) (l:=l) (c:=cap) (by omega) (by omega) (by omega) (Nat.le_refl _)
        split at h
        · rename_i hno
          cases h
          simp only [Bool.and_eq_true,Option.isNone_iff_eq_none] at hno
          obtain ⟨rfl,rfl⟩:=hno
          simp only [evB,Option.some.injEq] at hi1 hl1
          have e1:hh = es.length:=by omega
          have e2:l = 0:=by omega
          subst e1 e2
          refine ⟨G,hw,Sn.refl _ _ _,?_⟩
          have:(if cap = 0 then ad else ad.map (·.add (0 * sz))) = ad:=by
            split
            · rfl
            · cases ad <;> simp [Addr.add]
          rw [this]
          exact hr
        · cases h
          exact ⟨G,hw,Sn.refl _ _ _,hc⟩
      | some m =>
        simp only [Option.bind_eq_bind,Option.bind_eq_some_iff] at h
        obtain ⟨c,⟨i,hc1,hc2⟩,hv,hhi,hh,⟨i',hi1,hi2⟩,l,⟨j,hl1,hl2⟩,h⟩:=h
        subst hhi
        have hb:=bnd_some hi2
        have hb2:=bnd_some hl2
        have hb3:=bnd_some hc2
        refine ⟨ad,es.length,cap,l,hh,c,rfl,fun P q=>run_bounds3 hs (n:=es.length) (by simp [hc1,hc2]) (by simp [hi1,hi2]) (by simp [hl1,hl2]) g1,?_⟩
        have hc:=DR.cut hd hall (h:=hh) (l:=l) (c:=c) (by omega) (by omega) (by omega) (by omega)
        split at h
        · rename_i heq
          cases h
          obtain ⟨G',hw',sn,hb',hm⟩:=name_ok (n:=hh - l) hw
          refine ⟨G',hw',sn,hc.mono sn.mu,hh - l,0,by simp,by simp; omega,fun _=>?_⟩
          rw [hb']
          have hlen:((es.take hh).drop l).length = hh - l:=by simp; omega
          exact ⟨_,by rw [hlen,heq]⟩
        · cases h
    · cases h
  cases x with
  | slc k off sz' len cap =>
    simp only [cutSlice] at h
    split at h
    · rename_i hsz
      subst hsz
      obtain ⟨b,c0,off',hib,rfl,hlc,hcap,hoff,hrm⟩:=hr
      have htop:cap.getD len≤c0:=by
        cases cap with
        | none=>exact hlc
        | some c'=>rw [hcap c' rfl]; exact Nat.le_refl _
      cases mx with
      | none =>
        simp only [Option.bind_eq_bind,Option.bind_eq_some_iff] at h
        obtain ⟨hh,⟨i,hi1,hi2⟩,l,⟨j,hl1,hl2⟩,h⟩:=h
        cases h
        have hb:=bnd_some hi2
        have hb2:=bnd_some hl2
        refine ⟨_,len,c0,l,hh,c0,rfl,fun P q=>run_bounds hs (n:=cap.getD len) (by simp [hi1,hi2]) (by simp [hl1,hl2]) htop,G,hw,Sn.refl _ _ _,?_⟩
        refine ⟨b,c0 - l,if c0 = l then off' else off' + l * sz',hib,?_,by omega,fun c' hc'=>?_,fun hne=>?_,fun hn hne=>?_⟩
        · split <;> simp [addr_add]
        · simp only [Option.map_eq_some_iff] at hc'
          obtain ⟨c'',e,rfl⟩:=hc'
          rw [hcap c'' e]
        · rw [if_neg (by omega),hoff (by omega)]
        · have hn':cap = none:=by cases cap <;> simp at hn ⊢
          rcases hrm hn' (by omega) with h | h
          · exact .inl h
          · right
            have h2:l * sz' + (c0 - l) * sz' = c0 * sz':=by rw [← Nat.add_mul]; congr 1; omega
            omega
      | some m =>
        simp only [Option.bind_eq_bind,Option.bind_eq_some_iff] at h
        obtain ⟨c,⟨i,hc1,hc2⟩,hv,hhi,hh,⟨i',hi1,hi2⟩,l,⟨j,hl1,hl2⟩,h⟩:=h
        subst hhi
        cases h
        have hb:=bnd_some hi2
        have hb2:=bnd_some hl2
        have hb3:=bnd_some hc2
        refine ⟨_,len,c0,l,hh,c,rfl,fun P q=>run_bounds3 hs (n:=cap.getD len) (by simp [hc1,hc2]) (by simp [hi1,hi2]) (by simp [hl1,hl2]) htop,G,hw,Sn.refl _ _ _,?_⟩
        refine ⟨b,c - l,if c = l then off' else off' + l * sz',hib,?_,by omega,fun c' hc'=>by cases hc'; rfl,fun hne=>?_,fun hn=>by cases hn⟩
        · split <;> simp [addr_add]
        · rw [if_neg (by omega),hoff (by omega)]
    · cases h
  | d x =>
    cases x with
    | sc v=>simp [cutSlice,C.list] at h
    | lst nl es=>exact key nl es rfl (by simp)
  | own nl es k=>exact key nl es rfl (by simp)
  | _=>simp [cutSlice,C.list] at h
theorem op_slice (hs:SR G hp s a.tmps) (hw:WR G hp w) {t:TypeId} {x:Operand} {lo hi mx:Option Operand} (hop:o.op = .slice t x lo hi mx) {v:AV×Heap} (h:dop E s hp o = some v) :
    OkV G hp w ((execOp a.eval o).run E.P w) v:=by
  simp only [dop,hop] at h
  split at h
  · rename_i b hu hx
    split at h
    · simp only [Option.bind_eq_bind,Option.bind_eq_some_iff] at h
      obtain ⟨hh,⟨i,hi1,hi2⟩,l,⟨j,hl1,hl2⟩,h⟩:=h
      cases h
      have r:=ev1_rel hs hx
      have hv:a.eval x = .string b:=by generalize a.eval x = z at r; cases r; rfl
      have hb:=run_bounds hs (w:=w) (P:=E.P) (q:=false) (n:=b.size) (len:=b.size) (cap:=b.size) (h:=hh) (l:=l) (lo:=lo) (hi:=hi) (by simp [hi1,hi2]) (by simp [hl1,hl2]) (Nat.le_refl _)
      refine OkV.same hw (x:=.string (b.extract l hh)) ?_ (DR.sc (.string _) rfl)
      simp only [execOp,hop]
      refine run_val ?_
      simp [Instr.sliceAt,run_underlying hu,Instr.slice,hv,hb]
    · cases h
  · rename_i e y hu hx
    simp only [Option.bind_eq_bind,Option.bind_eq_some_iff] at h
    obtain ⟨sz,hsz,r,hr,h⟩:=h
    cases h
    obtain ⟨ad,len,cap,l,hh,c,hv,hb,G',hw',sn,hvr⟩:=cut_ok hs hw (ev1_rel hs hx) hr
    refine ⟨_,w,G',.inl ⟨?_,hvr⟩,hw',sn⟩
    simp only [execOp,hop]
    refine run_val ?_
    simp [Instr.sliceAt,run_underlying hu,Instr.slice,hv,hb,run_sizeOf hsz]
  · rename_i n e k off hu hx
    simp only [Option.bind_eq_bind,Option.bind_eq_some_iff] at h
    obtain ⟨sz,hsz,r,hr,h⟩:=h
    cases h
    obtain ⟨b,hib,hv⟩:=ev1_rel hs hx
    have hsl:CR G hp (.slc k off sz n (some n)) (.slice (some ⟨b,off,none⟩) n n):=⟨b,n,off,hib,rfl,Nat.le_refl _,fun c' hc'=>by cases hc'; rfl,fun _=>rfl,fun hn=>by cases hn⟩
    obtain ⟨ad,len,cap,l,hh,c,hv2,hb,G',hw',sn,hvr⟩:=cut_ok hs hw hsl hr
    cases hv2
    refine ⟨_,w,G',.inl ⟨?_,hvr⟩,hw',sn⟩
    simp only [execOp,hop]
    refine run_val ?_
    have hb':=hb E.P false
    by_cases e:c = l
    · simp [Instr.sliceAt,run_underlying hu,hv,Instr.sureAddr,hb',run_sizeOf hsz,e]
    · simp [Instr.sliceAt,run_underlying hu,hv,Instr.sureAddr,hb',run_sizeOf hsz,e]
  · rename_i q k off hu hx
    split at h
    · rename_i n e hu2
      simp only [Option.bind_eq_bind,Option.bind_eq_some_iff] at h
      obtain ⟨sz,hsz,r,hr,h⟩:=h
      cases h
      obtain ⟨b,hib,hv⟩:=ev1_rel hs hx
      have hsl:CR G hp (.slc k off sz n (some n)) (.slice (some ⟨b,off,none⟩) n n):=⟨b,n,off,hib,rfl,Nat.le_refl _,fun c' hc'=>by cases hc'; rfl,fun _=>rfl,fun hn=>by cases hn⟩
      obtain ⟨ad,len,cap,l,hh,c,hv2,hb,G',hw',sn,hvr⟩:=cut_ok hs hw hsl hr
      cases hv2
      refine ⟨_,w,G',.inl ⟨?_,hvr⟩,hw',sn⟩
      simp only [execOp,hop]
      refine run_val ?_
      have hb':=hb E.P false
      by_cases e:c = l
      · simp [Instr.sliceAt,run_underlying hu,Instr.slice,asAddr,hv,run_underlying hu2,hb',run_sizeOf hsz,e]
      · simp [Instr.sliceAt,run_underlying hu,Instr.slice,asAddr,hv,run_underlying hu2,hb',run_sizeOf hsz,e]
    · cases h
  · cases h
end
end Go.Ab
end
section
set_option linter.unusedVariables false
set_option linter.unusedSimpArgs false
namespace Go.Ab
open Go
section
variable {E:Env} {G:Gh} {hp:Heap} {s:Nat→AV} {a:Act} {w:World} {o:Oper}
theorem same_now {d:TypeDesc} {k k':Value} {b:Bool} (hk:keyOk d k = true) (h:sameK k k' = some b):Instr.sameNow d k k' = some b:=by
  cases d <;> cases k <;> simp [keyOk] at hk <;> cases k' <;> simp_all [sameK,Instr.sameNow]
theorem ba_beq (a b:ByteArray):(a == b) = true ↔ a = b:=by
  obtain ⟨x⟩:=a
  obtain ⟨y⟩:=b
  constructor
  · intro h
    have e:x = y:=by simpa using (show (x == y) = true from h)
    rw [e]
  · intro h
    cases h
    show (x == x) = true
    simp
theorem same_bits {k k':Value} (h:sameK k k' = some true) (n:Nat):Instr.sameBits n k' k = true:=by
  cases k <;> cases k' <;> simp [sameK] at h <;> first | (rw [ba_beq] at h; subst h; simp [Instr.sameBits,ba_beq]; done) | simp_all [Instr.sameBits]
def ER (G:Gh) (hp:Heap) (e:Value×V1) (m:MapEntry):Prop:=e.1 = m.key∧VR G hp e.2 m.val
theorem find_rel {d:TypeDesc} {k:Value} (hk:keyOk d k = true) (nv:V1):∀ (kvs:List (Value×V1)) (es:List MapEntry) (i:Nat) (r:Option V1),All2 (ER G hp) kvs es→findK k kvs = some r →
    (r = none∧Instr.findNow d k es i = some none∧putK k nv kvs = kvs ++ [(k,nv)]) ∨
    (∃ p v e,r = some v∧es[p]? = some e∧Instr.findNow d k es i = some (some (i + p,e.val))∧VR G hp v e.val∧(∀ n,Instr.sameBits n e.key k = true)∧putK k nv kvs = kvs.set p (k,nv)):=by
  intro kvs
  induction kvs with
  | nil=>intro es i r h hf; cases h; simp only [findK,Option.some.injEq] at hf; subst hf; exact .inl ⟨rfl,rfl,rfl⟩
  | cons kv kvs ih =>
    intro es i r h hf
    cases h with
    | cons he ht =>
      rename_i e es
      simp only [findK] at hf
      split at hf
      · rename_i hs
        cases hf
        have h1:=same_now hk (he.1 ▸ hs)
        refine .inr ⟨0,kv.2,e,rfl,rfl,?_,he.2,fun n=>same_bits (he.1 ▸ hs) n,?_⟩
        · simp [Instr.findNow,h1]
        · simp [putK,hs]
      · rename_i hs
        have h1:=same_now hk (he.1 ▸ hs)
        rcases ih es (i + 1) r ht hf with ⟨e1,e2,e3⟩ | ⟨p,v,e',e1,e2,e3,e4,e5,e6⟩
        · refine .inl ⟨e1,?_,?_⟩
          · simp [Instr.findNow,h1,e2]
          · simp [putK,hs,e3]
        · refine .inr ⟨p + 1,v,e',e1,by simpa using e2,?_,e4,e5,?_⟩
          · simp only [Instr.findNow,h1,e3]
            congr 3
            omega
          · simp [putK,hs,e6]
      · cases hf
theorem run_checkKey {P:Program} {q:Bool} {t:TypeId} {d:TypeDesc} {k:Value} (hd:P.underlying t = some d) (hk:keyOk d k = true):∀ n,(Instr.checkKey q (n + 1) t k).run P w = .ok () w:=by
  intro n
  cases d <;> cases k <;> simp [keyOk] at hk <;> simp [Instr.checkKey,run_underlying hd]
theorem run_checkKey' {P:Program} {q:Bool} {t:TypeId} {d:TypeDesc} {k:Value} (hd:P.underlying t = some d) (hk:keyOk d k = true):(Instr.checkKey q 10000 t k).run P w = .ok () w :=
  run_checkKey hd hk 9999
theorem op_lookup (hs:SR G hp s a.tmps) (hw:WR G hp w) {t:TypeId} {x k:Operand} {ok:Bool} (hop:o.op = .lookup t x k ok) {v:AV×Heap} (h:dop E s hp o = some v) :
    OkV G hp w ((execOp a.eval o).run E.P w) v:=by
  simp only [dop,hop] at h
  split at h
  · rename_i kt e hu
    simp only [Option.bind_eq_bind,Option.bind_eq_some_iff] at h
    obtain ⟨key,⟨kv,hkv,hkey⟩,kd,hkd,h⟩:=h
    split at h
    · rename_i hok
      simp only [Option.bind_eq_some_iff] at h
      obtain ⟨z,⟨zv,hz,hzv⟩,r,hr,h⟩:=h
      have hke:=AV.toV_eq hkey (ev_rel hs hkv)
      have hzr:VR G hp z zv:=ofV_rel hzv
      have fin:∀ (u:Value) (b:Bool),VR G hp (r.getD z) u→b = r.isSome→(Instr.lookup t (a.eval x) key ok).run E.P w = .ok (if ok then .tuple #[u,.bool b] else u) w →
          OkV G hp w ((execOp a.eval o).run E.P w) v:=by
        intro u b hvr hb hrun
        subst hb
        refine ⟨_,w,G,.inl ⟨by simp only [execOp,hop,hke]; exact run_val hrun,?_⟩,?_,?_⟩
        · cases ok
          · simp only [Bool.false_eq_true,if_false,Option.some.injEq] at h; subst h; exact hvr
          · simp only [if_true,Option.some.injEq] at h; subst h; exact ⟨[u,.bool r.isSome],rfl,.cons hvr (.cons (DR.sc _ rfl) .nil)⟩
        · cases ok <;> simp at h <;> subst h <;> exact hw
        · cases ok <;> simp at h <;> subst h <;> exact Sn.refl _ _ _
      split at hr
      · rename_i m hx
        split at hr
        · rename_i kvs hm
          obtain ⟨b,hib,hv⟩:=evC_rel hs hx
          obtain ⟨b',es,clock,hb,h1,h2,h3⟩:=hw.ob m _ hm
          have hat:(G.β m).at b':=by rw [hb]; rfl
          cases Bd.at_inj (hib.at hm) hat
          have hrun:∀ (res:Option (Nat×Value)),Instr.findNow kd key es.toList 0 = some res→(Instr.lookup t (a.eval x) key ok).run E.P w =
              .ok (if ok then .tuple #[(match res with | some (_,v)=>v | none=>zv),.bool res.isSome] else (match res with | some (_,v)=>v | none=>zv)) w:=by
            intro res hres
            simp only [Instr.lookup,Sem.run_bind,run_underlying hu,Result.andThen_ok,hv,getObj_run h1 (by simp),Sem.run_pure,run_checkKey' hkd hok,Instr.findKey,run_underlying hkd,hres]
            cases res with
            | none=>simp [run_zeroValue hz]
            | some p=>simp
          rcases find_rel hok z kvs es.toList 0 r h2 hr with ⟨rfl,e2,_⟩ | ⟨p,v',e',rfl,e2,e3,e4,_,_⟩
          · exact fin zv false hzr rfl (hrun _ e2)
          · exact fin e'.val true e4 rfl (hrun _ e3)
        · cases hr
      · rename_i hx
        cases hr
        have r:=evC_rel hs hx
        have hv:a.eval x = .map none:=by generalize a.eval x = z at r; cases r; rfl
        refine fin zv false hzr rfl ?_
        simp [Instr.lookup,run_underlying hu,hv,run_checkKey' hkd hok,Instr.findKey,run_underlying hkd,Instr.findNow,run_zeroValue hz]
      · cases hr
    · cases h
  · cases h
theorem op_mapUpdate (hs:SR G hp s a.tmps) (hw:WR G hp w) {t:TypeId} {x k y:Operand} (hop:o.op = .mapUpdate t x k y∨o.op = .insert t x k y) {v:AV×Heap} (h:dop E s hp o = some v) :
    OkV G hp w ((execOp a.eval o).run E.P w) v:=by
  have h':mapPut E s hp t x k y = some v:=by rcases hop with hop | hop <;> simpa only [dop,hop] using h
  have hexec:(execOp a.eval o).run E.P w = (do Instr.mapUpdate t (a.eval x) (a.eval k) (a.eval y); pure Next.skip:Sem Next).run E.P w:=by
    rcases hop with hop | hop <;> simp only [execOp,hop]
  rw [hexec]
  clear h hop hexec
  simp only [mapPut] at h'
  split at h'
  · rename_i kt e hu
    simp only [Option.bind_eq_bind,Option.bind_eq_some_iff] at h'
    obtain ⟨key,⟨kv,hkv,hkey⟩,kd,hkd,val,hval,h⟩:=h'
    split at h
    · rename_i hok
      split at h
      · rename_i m hx
        split at h
        · rename_i kvs hm
          simp only [Option.map_eq_some_iff] at h
          obtain ⟨r,hr,rfl⟩:=h
          have hke:=AV.toV_eq hkey (ev_rel hs hkv)
          have hvr:=ev1_rel hs hval
          obtain ⟨b,hib,hv⟩:=evC_rel hs hx
          obtain ⟨b',es,clock,hb,h1,h2,h3⟩:=hw.ob m _ hm
          have hat:(G.β m).at b':=by rw [hb]; rfl
          cases Bd.at_inj (hib.at hm) hat
          rcases find_rel hok val kvs es.toList 0 r h2 hr with ⟨rfl,e2,e3⟩ | ⟨p,v',e',rfl,e2,e3,e4,e5,e6⟩
          · obtain ⟨g1,g2,g3⟩:=set_heap (w:=w) (ob':=.map (es.push { key,val:=a.eval y,born:=clock }) (clock + 1)) h1
            obtain ⟨sn,kk⟩:=set_ok (o':=.amap (putK key val kvs)) hw hm hat rfl rfl g2 g3
            refine ⟨undef,_,G,.inr ⟨run_unit ?_,rfl⟩,kk ⟨b,_,_,hb,g1,?_,h3⟩,sn⟩
            · simp [Instr.mapUpdate,run_underlying hu,hv,hke,getObj_run h1 (by simp),run_checkKey' hkd hok,Instr.findKey,run_underlying hkd,e2,setObj_run h1 (by simp)]
            · rw [e3] at sn
              rw [e3,Array.toList_push]
              exact (h2.mono fun _ _ r=>⟨r.1,r.2.mono sn⟩).append (.cons ⟨rfl,hvr.mono sn⟩ .nil)
          · obtain ⟨g1,g2,g3⟩:=set_heap (w:=w) (ob':=.map (es.modify p fun e=>{ e with key,val:=a.eval y }) clock) h1
            obtain ⟨sn,kk⟩:=set_ok (o':=.amap (putK key val kvs)) hw hm hat rfl rfl g2 g3
            have hkey2:((es[p]?).map (·.key)).getD key = e'.key:=by
              rw [Array.getElem?_toList] at e2
              simp [e2]
            refine ⟨undef,_,G,.inr ⟨run_unit ?_,rfl⟩,kk ⟨b,_,_,hb,g1,?_,h3⟩,sn⟩
            · have:=e5 10000
              simp only [Nat.zero_add] at e3
              simp [Instr.mapUpdate,run_underlying hu,hv,hke,getObj_run h1 (by simp),run_checkKey' hkd hok,Instr.findKey,run_underlying hkd,e3,hkey2,Instr.keyThatStays,this,setObj_run h1 (by simp)]
            · rw [e6] at sn
              rw [e6]
              refine All2.of_get (by simp [h2.length]) fun i c d hc hd=>?_
              rw [Array.toList_modify,List.getElem?_modify] at hd
              by_cases ei:p = i
              · subst ei
                have hl:=lt_of_get hc
                rw [List.length_set] at hl
                rw [List.getElem?_set_self hl] at hc
                cases hc
                rw [e2] at hd
                simp at hd
                subst hd
                exact ⟨rfl,hvr.mono sn⟩
              · rw [List.getElem?_set_ne ei] at hc
                simp only [ei,if_false] at hd
                obtain ⟨d',hd',rr⟩:=h2.get hc
                have:d = d':=by
                  have hd2:es.toList[i]? = some d:=by simpa using hd
                  rw [hd2] at hd'
                  exact Option.some.inj hd'
                subst this
                exact ⟨rr.1,rr.2.mono sn⟩
        · cases h
      · cases h
    · cases h
  · cases h'
end
end Go.Ab
end
