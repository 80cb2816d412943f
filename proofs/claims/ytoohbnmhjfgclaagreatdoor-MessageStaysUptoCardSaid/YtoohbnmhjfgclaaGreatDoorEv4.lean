/- An abstract evaluator of the loaded code, and that what it says is what the machine does. -/
import Derived.Test.YtoohbnmhjfgclaaGreatDoorEv3
set_option linter.all false
section
set_option linter.unusedVariables false
set_option linter.unusedSimpArgs false
namespace Go.Ab
open Go
section
variable {E:Env} {G:Gh} {hp:Heap} {s:Nat→AV} {a:Act} {w:World} {o:Oper}
theorem src_cells {y:V1} {src:List (List D)} {v:Value} {sz:Nat} (hw:WR G hp w) (h:srcOf hp y = some src) (r:VR G hp y v) (h0:0 < sz) (hall:∀ e ∈ src,e.length = sz) :
    (∀ P:Program,(Builtin.lenOf v).run P w = .ok src.length w)∧∀ m,m≤src.length→∃ vs:List Value,vs.length = m * sz∧All2 (DR G.μ) (src.take m).flatten vs ∧
      (∀ (P:Program) (w':World),w'.heap = w.heap→(Builtin.firstCells sz m v).run P w' = .ok vs.toArray w'):=by
  have other:∀ x:C,y = .c x→listOf hp x = some src→(∀ P:Program,(Builtin.lenOf v).run P w = .ok src.length w)∧∀ m,m≤src.length→∃ vs:List Value,vs.length = m * sz∧All2 (DR G.μ) (src.take m).flatten vs ∧
      (∀ (P:Program) (w':World),w'.heap = w.heap→(Builtin.firstCells sz m v).run P w' = .ok vs.toArray w'):=by
    rintro x rfl hx
    obtain ⟨ad,cap,rfl,_,hm⟩:=list_cells hw hx r h0 hall
    exact ⟨fun P=>rfl,hm⟩
  unfold srcOf at h
  split at h
  · rename_i st
    cases h
    cases r
    have hl:(encB st.data.toList).length = st.size:=by rw [encB_length,Array.length_toList]; rfl
    refine ⟨fun P=>by rw [hl]; rfl,fun m hm=>?_⟩
    rw [hl] at hm
    have hfl:(encB st.data.toList).take m = encB (st.data.toList.take m):=by simp [encB]
    have hbs:(encB (st.data.toList.take m)).flatten = (st.data.toList.take m).map fun b=>D.sc (.int .u8 b.toNat):=by
      generalize st.data.toList.take m = l
      induction l with
      | nil=>rfl
      | cons b l ih=>simp only [encB,List.map_cons,List.flatten_cons] at ih ⊢; rw [ih]; rfl
    have hsz:m = 0∨sz = 1:=by
      by_cases e:m = 0
      · exact .inl e
      · right
        have:0 < (encB st.data.toList).length:=by omega
        have h2:=hall _ (List.getElem_mem this)
        rw [encB_len st.data.toList _ (List.getElem_mem this)] at h2
        omega
    have hlen:(st.data.toList.take m).length = m:=by
      rw [List.length_take,Array.length_toList]
      have:st.data.size = st.size:=rfl
      omega
    refine ⟨(st.data.toList.take m).map fun b=>Value.int .u8 b.toNat,?_,?_,fun P w' hw'=>?_⟩
    · rw [List.length_map,hlen]
      rcases hsz with rfl | rfl <;> simp
    · rw [hfl,hbs]
      generalize st.data.toList.take m = l
      induction l with
      | nil=>exact .nil
      | cons b l ih=>exact .cons (.sc _ rfl) ih
    · simp only [Builtin.firstCells,Sem.run_pure]
      congr 1
      apply Array.ext'
      simp
  · rename_i x _
    exact other x rfl h
  · cases h
theorem growBy_le {n:Nat} (hn:256≤n):∀ k c,c≤2 * n→Builtin.growBy n k c≤2 * n:=by
  intro k
  induction k with
  | zero=>intro c h; exact h
  | succ k ih =>
    intro c h
    simp only [Builtin.growBy]
    split
    · exact h
    · exact ih _ (by omega)
theorem nextcap_le {n c:Nat} (h:c < n):Builtin.nextslicecap n c≤2 * n:=by
  unfold Builtin.nextslicecap
  split
  · omega
  · split
    · omega
    · exact growBy_le (by omega) _ _ (by omega)
theorem append_fit {P:Program} {ats:Array TypeId} {ty t t2 e:TypeId} {d2:TypeDesc} {base:Option Addr} {len cap sz n:Nat} {x:Value} (h0:ats[0]? = some t) (h1:ats[1]? = some t2)
    (hu:P.underlying t = some (.slice e)) (hu2:P.underlying t2 = some d2) (hni:∀ k,d2 ≠ .int k) (hsz:szP P e = some sz) (hl:(Builtin.lenOf x).run P w = .ok n w)
    (hc:len + n≤cap) {vs:List Value} (hf:(Builtin.firstCells sz n x).run P w = .ok vs.toArray w) {w':World}
    (hst:(match base with | some a=>storeCells (a.add (len * sz)) vs | none=>pure ():Sem Unit).run P w = .ok () w') :
    (Builtin.append_ ats ty #[.slice base len cap,x]).run P w = .ok (.slice base (len + n) cap) w':=by
  have hz:(d2 matches .int _) = false:=by cases d2 <;> first | rfl | exact (hni _ rfl).elim
  have g0:(#[Value.slice base len cap,x]:Array Value)[0]? = some (.slice base len cap):=rfl
  have g1:(#[Value.slice base len cap,x]:Array Value)[1]? = some x:=rfl
  simp only [Builtin.append_,h0,h1,g0,g1,Sem.run_bind,run_underlying hu,run_underlying hu2,Result.andThen_ok,run_sizeOf hsz,hz,Sem.run_pure,Bool.false_eq_true,if_false,hl,Bool.not_false,if_true]
  rw [if_pos hc]
  simp only [Sem.run_bind,hf,Result.andThen_ok]
  cases base with
  | none=>simp at hst; subst hst; rfl
  | some ad=>simp only [Sem.run_bind] at hst ⊢; rw [hst]; rfl
theorem append_new {P:Program} {ats:Array TypeId} {ty t t2 e:TypeId} {d2:TypeDesc} {base:Option Addr} {len cap sz n by_:Nat} {x z:Value} (h0:ats[0]? = some t) (h1:ats[1]? = some t2)
    (hu:P.underlying t = some (.slice e)) (hu2:P.underlying t2 = some d2) (hni:∀ k,d2 ≠ .int k) (hsz:szP P e = some sz) (hby:bytesP P e = some by_) (hz:zeroP P e = some z) (hl:(Builtin.lenOf x).run P w = .ok n w)
    (hc:cap < len + n) (hpos:0 < by_) (hbig:(len + n) * by_≤2 ^ 47) {vs us:List Value} (hf:∀ w',w'.heap = w.heap→(Builtin.firstCells sz n x).run P w' = .ok vs.toArray w')
    (hfs:∀ w',w'.heap = w.heap→(Builtin.firstCells sz len (.slice base len cap)).run P w' = .ok us.toArray w') :
    ∃ c w',len + n≤c∧(Builtin.append_ ats ty #[.slice base len cap,x]).run P w = .ok (.slice (some ⟨w.heap.size,0,none⟩) (len + n) c) w' ∧
      w'.heap = w.heap.push (.cells (us.toArray ++ vs.toArray ++ Builtin.zeroCells z.cells (c - (len + n))) e)∧Io w w':=by
  obtain ⟨i,hi,rfl⟩:∃ i,P.info? e = some i∧i.bytes = by_:=by
    simp only [bytesP,Option.map_eq_some_iff] at hby
    exact hby
  have hzz:(d2 matches .int _) = false:=by cases d2 <;> first | rfl | exact (hni _ rfl).elim
  have g0:(#[Value.slice base len cap,x]:Array Value)[0]? = some (.slice base len cap):=rfl
  have g1:(#[Value.slice base len cap,x]:Array Value)[1]? = some x:=rfl
  obtain ⟨c,hcc,hcr⟩:=run_choose_cap P w (len + n) cap e
  have hcap:=nextcap_le hc
  have hmul:Builtin.nextslicecap (len + n) cap * i.bytes≤2 * (len + n) * i.bytes:=Nat.mul_le_mul_right _ hcap
  have hmul2:2 * (len + n) * i.bytes = 2 * ((len + n) * i.bytes):=by rw [Nat.mul_assoc]
  refine ⟨c,w.drew.alloc (.cells (us.toArray ++ vs.toArray ++ Builtin.zeroCells z.cells (c - (len + n))) e),hcc,?_,rfl,⟨rfl,rfl,rfl⟩⟩
  simp only [Builtin.append_,h0,h1,g0,g1,Sem.run_bind,run_underlying hu,run_underlying hu2,Result.andThen_ok,run_sizeOf hsz,hzz,Sem.run_pure,Bool.false_eq_true,if_false,hl,Bool.not_false,if_true]
  rw [if_neg (by omega)]
  simp only [Sem.run_bind,run_typeInfo hi,Result.andThen_ok,Bool.false_eq_true,false_or]
  have hno:¬ (((len + n:Nat):Int) > IntKind.i64.max∧i.bytes = 0):=by omega
  rw [if_neg hno]
  simp only [Sem.run_bind,run_typeInfo hi,Result.andThen_ok]
  rw [if_neg (by omega)]
  simp only [Sem.run_bind,hcr,Result.andThen_ok,run_typeInfo hi,run_askRoom,hfs w.drew rfl,hf w.drew rfl,run_zeroValue hz,newRow,run_newObj,Sem.run_pure]
  rfl
theorem all_len {src:List (List D)} {sz:Nat} (h:src.all (·.length == sz) = true):∀ e ∈ src,e.length = sz:=fun e he=>by
  have:=List.all_eq_true.1 h e he
  simpa using this
theorem zc_size (z:Value) (n:Nat):(Builtin.zeroCells z.cells n).size = n * z.cells.size:=by simp [Builtin.zeroCells]
theorem new_append {es src:List (List D)} {us vs:List Value} {zc:Array Value} {sz:Nat} (h0:0 < sz) (hes:∀ x ∈ es,x.length = sz) (hsrc:∀ x ∈ src,x.length = sz)
    (hus:us.length = es.length * sz) (hvs:vs.length = src.length * sz) (hru:All2 (DR G.μ) es.flatten us) (hrv:All2 (DR G.μ) src.flatten vs) :
    ∀ i j el d,(es ++ src)[i]? = some el→el[j]? = some d→∃ v,(us.toArray ++ vs.toArray ++ zc)[i * sz + j]? = some v∧DR G.μ d v:=by
  intro i j el d hi hj
  have hall:∀ x ∈ es ++ src,x.length = sz:=fun x hx=>by
    rcases List.mem_append.1 hx with h | h
    · exact hes x h
    · exact hsrc x h
  have hr:All2 (DR G.μ) (es ++ src).flatten (us ++ vs):=by rw [List.flatten_append]; exact hru.append hrv
  have hel:=hall el (List.mem_of_getElem? hi)
  have hjs:=lt_of_get hj
  rw [hel] at hjs
  have hfg:(es ++ src).flatten[i * sz + j]? = some d:=by
    rw [flat_get h0 _ hall]
    have h1:(i * sz + j) / sz = i:=by rw [Nat.mul_comm,Nat.mul_add_div h0,Nat.div_eq_of_lt hjs]; omega
    have h2:(i * sz + j) % sz = j:=by rw [Nat.mul_comm,Nat.mul_add_mod]; exact Nat.mod_eq_of_lt hjs
    rw [h1,h2,hi]
    exact hj
  obtain ⟨v,hv,r⟩:=hr.get hfg
  refine ⟨v,?_,r⟩
  have hlt:=lt_of_get hv
  rw [Array.getElem?_append_left (by simpa using hlt)]
  rw [List.append_toArray]
  simpa using hv
theorem new_either (hard:Bool) {w':World} {es:List (List D)} {cells:Array Value} {t:TypeId} {sz cap:Nat} (hw:WR G hp w) (hh:w'.heap = w.heap.push (.cells cells t)) (h0:0 < sz)
    (hcap:es.length≤cap) (hsz:∀ e ∈ es,e.length = sz) (hcs:cap * sz≤cells.size)
    (hv:∀ i j el d,es[i]? = some el→el[j]? = some d→∃ v,cells[i * sz + j]? = some v∧DR G.μ d v) (hio:Io w w') :
    ∃ G',WR G' (newOwn hard hp sz es).2 w'∧Sn G hp w G' (newOwn hard hp sz es).2 w'∧VR G' (newOwn hard hp sz es).2 (newOwn hard hp sz es).1 (.slice (some ⟨w.heap.size,0,none⟩) es.length cap):=by
  cases hard with
  | false =>
    obtain ⟨G',hw',sn,hcr⟩:=new_own (w':=w') (es:=es) (cells:=cells) (t:=t) (fz:=(0,0)) (sz:=sz) (cap:=cap) (bd:=.tail w.heap.size 0 sz cap) hw hh (fz0 _) h0 hcap hsz hcs (.inr rfl) hv
    exact ⟨G',hw',sn,hcr⟩
  | true =>
    have hlen:(es.flatten.map C.d).length = es.length * sz:=by rw [List.length_map,flat_len es hsz]
    have hle:es.length * sz≤cap * sz:=Nat.mul_le_mul_right sz hcap
    obtain ⟨G',hw',sn,hi,htop⟩:=new_room (w':=w') (cs:=es.flatten.map C.d) (vs:=cells) (t:=t) (fz:=(0,0)) (sz:=sz) (cap:=cap) hw hh (fz0 _) (by rw [hlen]; omega) hcs (fun i c v hc hvv=>by
      rw [List.getElem?_map,Option.map_eq_some_iff] at hc
      obtain ⟨d,hd,rfl⟩:=hc
      rw [flat_get h0 es hsz] at hd
      simp only [Option.bind_eq_some_iff] at hd
      obtain ⟨el,hel,hd⟩:=hd
      obtain ⟨v',hv',hr⟩:=hv _ _ _ _ hel hd
      have:i / sz * sz + i % sz = i:=by rw [Nat.mul_comm]; exact Nat.div_add_mod i sz
      rw [this,hvv] at hv'
      cases hv'
      exact hr)
    exact ⟨G',hw',sn,⟨_,cap,0,hi,rfl,hcap,(fun c' h=>by cases h),fun _=>rfl,fun _ _=>.inr (by show 0 + cap * sz≤_; rw [htop]; omega)⟩⟩
theorem obj_list {k sz len:Nat} {cap:Option Nat} {es:List (List D)} (h:listOf hp (.slc k 0 sz len cap) = some es) :
    es.length = len∧∃ cells,hp[k]? = some (.cells cells)∧len * sz≤cells.length∧es.flatten.length = len * sz∧∀ (j:Nat) (d:D),es.flatten[j]? = some d→∃ c:C,cells[j]? = some c∧c.toD = some d:=by
  simp only [listOf,slcCells,Option.bind_eq_some_iff,Option.map_eq_some_iff] at h
  obtain ⟨cs,hcs,ds,hds,rfl⟩:=h
  split at hcs
  · rename_i cells hk
    split at hcs
    · rename_i hle
      cases hcs
      have hdl:ds.length = len * sz:=by rw [mapM_len hds]; simp; omega
      have hfl:(chunk sz len ds).flatten = ds:=by
        have:=chunk_flat sz len len ds (Nat.le_refl _) (by omega)
        rw [List.take_of_length_le (by rw [chunk_length]; exact Nat.le_refl _),List.take_of_length_le (by omega)] at this
        exact this
      refine ⟨chunk_length _ _ _,cells,hk,by omega,by rw [hfl,hdl],fun j d hj=>?_⟩
      rw [hfl] at hj
      obtain ⟨c,hc,hr⟩:=(mapM_all2 hds).flip.get hj
      rw [List.drop_zero,List.getElem?_take] at hc
      split at hc
      · exact ⟨c,hc,hr⟩
      · cases hc
    · cases hcs
  · cases hcs
theorem appendA_core {hard:Bool} (hw:WR G hp w) {ats:Array TypeId} {ty t e:TypeId} {sz:Nat} {x:C} {src:List (List D)} {xv yv:Value} {r:V1×Heap} {vs:List Value}
    (hu:E.P.underlying t = some (.slice e)) (hsz:szP E.P e = some sz) (hx:CR G hp x xv) (hsall:∀ x ∈ src,x.length = sz) (hvl:vs.length = src.length * sz) (hvr:All2 (DR G.μ) src.flatten vs)
    (fit:∀ (base:Option Addr) (len cap:Nat) (w':World),len + src.length≤cap→(match base with | some a=>storeCells (a.add (len * sz)) vs | none=>pure ():Sem Unit).run E.P w = .ok () w' →
      (Builtin.append_ ats ty #[.slice base len cap,yv]).run E.P w = .ok (.slice base (len + src.length) cap) w')
    (gro:∀ (base:Option Addr) (len cap by_:Nat) (z:Value) (us:List Value),bytesP E.P e = some by_→zeroP E.P e = some z→cap < len + src.length→0 < by_→(len + src.length) * by_≤2 ^ 47 →
      (∀ w',w'.heap = w.heap→(Builtin.firstCells sz len (.slice base len cap)).run E.P w' = .ok us.toArray w') →
      ∃ c w',len + src.length≤c∧(Builtin.append_ ats ty #[.slice base len cap,yv]).run E.P w = .ok (.slice (some ⟨w.heap.size,0,none⟩) (len + src.length) c) w' ∧
        w'.heap = w.heap.push (.cells (us.toArray ++ vs.toArray ++ Builtin.zeroCells z.cells (c - (len + src.length))) e)∧Io w w')
    (h:appendA E.P hard hp t x src = some r):∃ v w' G',(Builtin.append_ ats ty #[xv,yv]).run E.P w = .ok v w'∧VR G' r.2 r.1 v∧WR G' r.2 w'∧Sn G hp w G' r.2 w':=by
  unfold appendA at h
  simp only [hu,hsz] at h
  split at h
  case h_2=>cases h
  rename_i sz0 by_ z hsz0 hby hz
  cases hsz0
  split at h
  case isFalse=>cases h
  rename_i hc
  obtain ⟨c1,c2,c3,c4⟩:=hc
  simp only [zeroC,Option.map_eq_some_iff,Option.bind_eq_some_iff] at hz
  obtain ⟨zx,⟨zv,hz,hzx⟩,rfl⟩:=hz
  have hzs:zv.cells.size = sz:=by
    rw [← c3,((ofV_rel (G:=G) (hp:=hp) hzx).cells).length]; simp
  have nothing:src = []→∀ (base:Option Addr) (len cap:Nat),xv = .slice base len cap→len≤cap →
      (Builtin.append_ ats ty #[xv,yv]).run E.P w = .ok xv w:=by
    rintro rfl base len cap rfl hle
    have hv0:vs = []:=by
      have:vs.length = 0:=by rw [hvl]; simp
      exact List.eq_nil_of_length_eq_zero this
    subst hv0
    have:=fit base len cap w (by simpa using hle) (by cases base <;> rfl)
    simpa using this
  have grow:∀ (base:Option Addr) (len cap:Nat) (es:List (List D)) ,xv = .slice base len cap→len = es.length→cap < len + src.length→(len + src.length) * by_≤2 ^ 47→(∀ e ∈ es,e.length = sz) →
      (∃ us:List Value,us.length = len * sz∧All2 (DR G.μ) es.flatten us∧∀ w',w'.heap = w.heap→(Builtin.firstCells sz len (.slice base len cap)).run E.P w' = .ok us.toArray w') →
      ∃ c w' cells,len + src.length≤c∧(Builtin.append_ ats ty #[xv,yv]).run E.P w = .ok (.slice (some ⟨w.heap.size,0,none⟩) (len + src.length) c) w' ∧
        w'.heap = w.heap.push (.cells cells e)∧c * sz≤cells.size ∧
        (∀ i j el d,(es ++ src)[i]? = some el→el[j]? = some d→∃ v,cells[i * sz + j]? = some v∧DR G.μ d v)∧Io w w':=by
    rintro base len cap es rfl rfl hcap hbig hes ⟨us,hul,hur,huf⟩
    obtain ⟨c,w',hcc,hrun,hh,hio⟩:=gro base es.length cap by_ zv us hby hz hcap c2 hbig huf
    refine ⟨c,w',_,hcc,hrun,hh,?_,new_append c1 hes hsall hul hvl hur hvr,hio⟩
    rw [Array.size_append,Array.size_append,zc_size,hzs,List.size_toArray,List.size_toArray,hul,hvl,← Nat.add_mul,← Nat.add_mul]
    exact Nat.mul_le_mul_right _ (by omega)
  split at h
  · -- a slice of the call's own
    rename_i nl es k
    obtain ⟨hd,n,rsz,hk,hle,hcapr⟩:=hx
    have hdd:=hd
    obtain ⟨ad,cap,sz',vf,rfl,g1,g2,g3,gsp,g4,g5,g6⟩:=DR.inv hdd
    split at h
    · rename_i he
      cases h
      exact ⟨_,w,G,nothing he ad es.length cap rfl g1,⟨hd,n,rsz,hk,hle,hcapr⟩,hw,Sn.refl _ _ _⟩
    · rename_i hne
      rw [hk] at h
      simp only at h
      split at h
      · rename_i hc1
        obtain ⟨_,rfl,rfl,rfl,e4⟩:=hc1
        cases h
        have hpos:0 < src.length:=by cases src <;> simp at hne ⊢
        have hcr:=hcapr rfl
        have hor:=hw.ob k _ hk
        have hcap0:cap = 0:=by
          cases hβ:G.β k with
          | none=>rw [hβ] at hcr; obtain ⟨a',ha'⟩:=hcr; cases ha'; rfl
          | blk b=>rw [hβ] at hcr; exact hcr.elim
          | tail b o sz2 cap2 =>
            simp only [OR,hβ] at hor
            obtain ⟨h1,_,_,h2,_⟩:=hor
            omega
        subst hcap0
        obtain ⟨c,w',cells,q1,q2,q3,q4,q5,q6⟩:=grow ad 0 0 [] rfl rfl (by omega) (by simpa using e4) (by simp) ⟨[],by simp,.nil,fun w' _=>by cases ad <;> simp [Builtin.firstCells,loadCells,loadCellsFrom]⟩
        rw [Nat.zero_add] at q1 q2
        obtain ⟨G',hw',sn,hcr⟩:=new_either true (w':=w') (es:=src) (cells:=cells) (t:=e) (sz:=sz) (cap:=c) hw q3 c1 q1 hsall q4
          (fun i j el d hi hj=>q5 i j el d (by simpa using hi) hj) q6
        exact ⟨_,w',G',q2,hcr,hw',sn⟩
      split at h
      case isFalse=>cases h
      rename_i hc2
      obtain ⟨rfl,e2,e3,e4⟩:=hc2
      cases h
      have hes:=all_len e3
      have hpos:0 < src.length:=by cases src <;> simp at hne ⊢
      have hread:∃ us:List Value,us.length = es.length * sz∧All2 (DR G.μ) es.flatten us∧∀ w',w'.heap = w.heap→(Builtin.firstCells sz es.length (.slice ad es.length cap)).run E.P w' = .ok us.toArray w':=by
        obtain ⟨ad',cap',hv,_,hm⟩:=list_cells (x:=.d (.lst nl es)) hw rfl hd c1 hes
        obtain ⟨us,hu1,hu2',hu3⟩:=hm es.length (Nat.le_refl _)
        rw [List.take_length] at hu2'
        exact ⟨us,hu1,hu2',fun w' hw'=>hu3 E.P w' hw'⟩
      by_cases hfit:es.length + src.length≤cap
      · -- in place
        have hcr:=hcapr rfl
        have hor:=hw.ob k _ hk
        cases hβ:G.β k with
        | none =>
          rw [hβ] at hcr
          obtain ⟨a',ha'⟩:=hcr
          cases ha'
          omega
        | blk b=>rw [hβ] at hcr; exact hcr.elim
        | tail b o sz2 cap2 =>
          rw [hβ] at hcr
          obtain ⟨hv,_⟩:=hcr
          cases hv
          simp only [OR,hβ] at hor
          obtain ⟨rfl,⟨cs,ct,fz,hb,hfz,hfits⟩,hnc,hs0,hmu⟩:=hor
          have hsz2:rsz = sz:=by omega
          subst hsz2
          have hvone:∀ x ∈ vs,x.oneCell' = true:=fun x hx=>by
            obtain ⟨i,hi⟩:=List.getElem?_of_mem hx
            obtain ⟨d,_,hr⟩:=hvr.flip.get hi
            exact DR.one hr
          have hm:(es.length + src.length) * rsz≤cap * rsz:=Nat.mul_le_mul_right _ hfit
          rw [Nat.add_mul] at hm
          obtain ⟨w',cs',hrun,q1,q2,q3,q4,q5,q6,q7⟩:=run_storeCells (P:=E.P) b (o + es.length * rsz) ct fz vs 0 cs w hb hfz (by rw [hvl]; omega) hvone
          obtain ⟨sn,hw'⟩:=row_here (w':=w') (vs:=vs) (cs:=cs') (t:=ct) (fz:=fz) (n':=es.length + src.length) hw hk hβ (by omega) hfit (by rw [hvl]; congr 1; omega) q5 q6 q1 (by rw [q2]; exact hfz) (by rw [q2]; omega)
            (fun i hi=>by
              rw [cell_at q1,cell_at hb]
              refine q3 i ?_
              rw [Nat.add_mul] at hi
              rw [hvl]
              omega)
            (fun j x hx=>by
              rw [cell_at q1]
              have:=q4 j x hx
              simpa using this)
          refine ⟨.slice (some ⟨b,o,none⟩) (es.length + src.length) cap,w',_,fit _ _ _ _ hfit (by simp only [addr_add]; exact hrun),?_,hw',sn⟩
          have hlt:=lt_of_get hk
          have hl2:(es ++ src).length = es.length + src.length:=List.length_append
          refine ⟨?_,es.length + src.length,rsz,by simp [hlt],by rw [hl2]; exact Nat.le_refl _,fun _=>?_⟩
          · have hall:∀ x ∈ es ++ src,x.length = rsz:=fun x hx=>by
              rcases List.mem_append.1 hx with h | h
              · exact hes x h
              · exact hsall x h
            rw [← hl2]
            refine DR.mk rfl (by rw [hl2]; exact hfit) hall fun i j el d hi hj=>?_
            by_cases hlt2:i < es.length
            · rw [List.getElem?_append_left hlt2] at hi
              obtain ⟨b',o',e1,e2'⟩:=g6 i j el d hi hj
              cases e1
              have hsz3:sz' = rsz:=by rw [← g4 el (List.mem_of_getElem? hi),hes el (List.mem_of_getElem? hi)]
              rw [hsz3] at e2'
              exact ⟨_,sn.mu _ _ _ e2',(g5 i j el d hi hj).mono sn.mu⟩
            · rw [List.getElem?_append_right (by omega)] at hi
              have hjl:=lt_of_get hj
              rw [hsall el (List.mem_of_getElem? hi)] at hjl
              have hil:=lt_of_get hi
              have hfg:src.flatten[(i - es.length) * rsz + j]? = some d:=by
                rw [flat_get c1 _ hsall]
                have h1':((i - es.length) * rsz + j) / rsz = i - es.length:=by rw [Nat.mul_comm,Nat.mul_add_div c1,Nat.div_eq_of_lt hjl]; omega
                have h2':((i - es.length) * rsz + j) % rsz = j:=by rw [Nat.mul_comm,Nat.mul_add_mod]; exact Nat.mod_eq_of_lt hjl
                rw [h1',h2',hi]
                exact hj
              obtain ⟨v,hv,hr⟩:=hvr.get hfg
              refine ⟨v,?_,hr.mono sn.mu⟩
              have hvi:=lt_of_get hv
              have hmm:i * rsz = es.length * rsz + (i - es.length) * rsz:=by rw [← Nat.add_mul]; congr 1; omega
              show layμ G.μ b (o + es.length * rsz) vs b (o + i * rsz + j) = some v
              unfold layμ
              rw [if_pos (by omega),← hv]
              congr 1
              omega
          · show CapR (G.β k) _ _
            rw [hβ]
            refine ⟨by rw [hl2],fun x hx=>?_⟩
            rcases List.mem_append.1 hx with h | h
            · exact hes x h
            · exact hsall x h
      · obtain ⟨c,w',cells,q1,q2,q3,q4,q5,q6⟩:=grow ad es.length cap es rfl rfl (by omega) e4 hes hread
        obtain ⟨sn,hw'⟩:=row_new (w':=w') (n':=es.length + src.length) (sz:=sz) (cap:=c) (cs:=cells) (t:=e) hw hk (by omega) q1 c1 q3 q4
        have hlt:=lt_of_get hk
        have hl2:(es ++ src).length = es.length + src.length:=List.length_append
        have hall:∀ x ∈ es ++ src,x.length = sz:=fun x hx=>by
          rcases List.mem_append.1 hx with h | h
          · exact hes x h
          · exact hsall x h
        refine ⟨_,w',_,q2,?_,hw',sn⟩
        refine ⟨?_,es.length + src.length,sz,by simp [hlt],by rw [hl2]; exact Nat.le_refl _,fun _=>?_⟩
        · have key:DR (layμ G.μ w.heap.size 0 (cells.toList.take ((es.length + src.length) * sz))) (.lst false (es ++ src)) (.slice (some ⟨w.heap.size,0,none⟩) (es ++ src).length c):=?_
          · rw [hl2] at key; exact key
          refine DR.mk rfl (by rw [hl2]; exact q1) hall fun i j el d hi hj=>?_
          obtain ⟨v,hv,hr⟩:=q5 i j el d hi hj
          refine ⟨v,?_,hr.mono sn.mu⟩
          have hjl:=lt_of_get hj
          rw [hall el (List.mem_of_getElem? hi)] at hjl
          have hil:=lt_of_get hi
          rw [hl2] at hil
          have h2:(i + 1) * sz≤(es.length + src.length) * sz:=Nat.mul_le_mul_right _ hil
          rw [Nat.add_mul,Nat.one_mul] at h2
          have h3:(es.length + src.length) * sz≤c * sz:=Nat.mul_le_mul_right _ q1
          show layμ G.μ w.heap.size 0 (cells.toList.take ((es.length + src.length) * sz)) w.heap.size (0 + i * sz + j) = some v
          unfold layμ
          have hlen3:(cells.toList.take ((es.length + src.length) * sz)).length = (es.length + src.length) * sz:=by
            rw [List.length_take,show cells.toList.length = cells.size from Array.length_toList]; omega
          have hlt3:i * sz + j < (es.length + src.length) * sz:=by omega
          rw [hlen3,if_pos ⟨rfl,Nat.zero_le _,by omega⟩,Nat.sub_zero,Nat.zero_add,List.getElem?_take,if_pos hlt3]
          simpa using hv
        · show CapR (if k = k then _ else _) _ _
          rw [if_pos rfl]
          exact ⟨by rw [hl2],hall⟩
  · -- a nil slice
    rename_i nl es
    obtain ⟨ad,cap,sz',vf,rfl,g1,g2,g3,gsp,g4,g5,g6⟩:=DR.inv hx
    split at h
    · rename_i he
      cases h
      exact ⟨_,w,G,nothing he ad es.length cap rfl g1,hx,hw,Sn.refl _ _ _⟩
    · rename_i hne
      split at h
      case isFalse=>cases h
      rename_i hc2
      obtain ⟨rfl,rfl,e4⟩:=hc2
      cases h
      have hpos:0 < src.length:=by cases src <;> simp at hne ⊢
      have had:ad = none:=by cases ad <;> simp at g2 ⊢
      have hcap0:=g3 had
      subst had hcap0
      obtain ⟨c,w',cells,q1,q2,q3,q4,q5,q6⟩:=grow none 0 0 [] rfl rfl (by omega) (by simpa using e4) (by simp) ⟨[],by simp,.nil,fun w' _=>by simp [Builtin.firstCells]⟩
      rw [Nat.zero_add] at q1 q2
      obtain ⟨G',hw',sn,hcr⟩:=new_either hard (w':=w') (es:=src) (cells:=cells) (t:=e) (sz:=sz) (cap:=c) hw q3 c1 q1 hsall q4
        (fun i j el d hi hj=>q5 i j el d (by simpa using hi) hj) q6
      exact ⟨_,w',G',q2,hcr,hw',sn⟩
  · -- a slice over an object
    rename_i k off sz' len cap
    obtain ⟨b,c0,off',hib,rfl,hlc,hcap,hoff,hrm⟩:=hx
    have hc0:c0 = cap:=hcap cap rfl
    subst hc0
    split at h
    · rename_i he
      cases h
      exact ⟨_,w,G,nothing he _ len c0 rfl hlc,⟨b,c0,off',hib,rfl,hlc,hcap,hoff,hrm⟩,hw,Sn.refl _ _ _⟩
    · rename_i hne
      have hpos:0 < src.length:=by cases src <;> simp at hne ⊢
      split at h
      · rename_i hc2
        obtain ⟨rfl,rfl⟩:=hc2
        simp only [Option.bind_eq_some_iff] at h
        obtain ⟨es,hes,h⟩:=h
        split at h
        case isFalse=>cases h
        rename_i hc3
        obtain ⟨e3,e4⟩:=hc3
        cases h
        have hesl:=all_len e3
        have hxr:CR G hp (.slc k off sz' len (some len)) (.slice (some ⟨b,off',none⟩) len len):=⟨b,len,off',hib,rfl,hlc,hcap,hoff,hrm⟩
        obtain ⟨ad',cap',hv,_,hm⟩:=list_cells hw hes hxr c1 hesl
        have hlen':len = es.length:=by injection hv
        obtain ⟨us,hu1,hu2',hu3⟩:=hm es.length (Nat.le_refl _)
        rw [List.take_length] at hu2'
        rw [← hlen'] at hu1 hu3
        obtain ⟨c,w',cells,q1,q2,q3,q4,q5,q6⟩:=grow _ len len es rfl hlen' (by omega) e4 hesl ⟨us,hu1,hu2',fun w' hw'=>hu3 E.P w' hw'⟩
        have hl2:(es ++ src).length = len + src.length:=by rw [List.length_append,← hlen']
        obtain ⟨G',hw',sn,hcr⟩:=new_either hard (w':=w') (es:=es ++ src) (cells:=cells) (t:=e) (sz:=sz') (cap:=c) hw q3 c1 (by rw [hl2]; exact q1)
          (fun x hx=>by
            rcases List.mem_append.1 hx with h | h
            · exact hesl x h
            · exact hsall x h) q4 q5 q6
        rw [← hl2] at q2
        exact ⟨_,w',G',q2,hcr,hw',sn⟩
      · split at h
        · rename_i hc2
          obtain ⟨rfl,hc3⟩:=hc2
          split at h
          · rename_i cs hk
            split at h
            case isFalse=>cases h
            rename_i hc4
            cases h
            have ho:off' = off:=hoff (by omega)
            subst ho
            have hvs2:All2 (CR G hp) (src.flatten.map .d) vs:=by
              clear hvl fit gro grow nothing
              generalize src.flatten = l at hvr
              induction hvr with
              | nil=>exact .nil
              | cons h _ ih=>exact .cons h ih
            have hfl:(src.flatten.map C.d).length = src.length * sz':=by rw [List.length_map,flat_len src hsall]
            rw [Nat.add_mul] at hc4
            obtain ⟨w',hrun,hw',sn⟩:=write_cells (E:=E) (off:=off' + len * sz') hw hk (hib.at hk) (by rw [hfl]; omega) hvs2
            refine ⟨.slice (some ⟨b,off',none⟩) (len + src.length) c0,w',G,fit _ _ _ _ hc3 (by simp only [addr_add]; exact hrun),?_,hw',sn⟩
            exact ⟨b,c0,off',hib.mono sn,rfl,hc3,fun c' hc'=>by cases hc'; rfl,fun _=>rfl,fun h=>by cases h⟩
          · cases h
        · cases h
  · -- a slice over an object of which no one knows how much room it has
    rename_i k off sz' len
    obtain ⟨b,c0,off',hib,rfl,hlc,hcap,hoff,hrm⟩:=hx
    split at h
    · rename_i he
      cases h
      exact ⟨_,w,G,nothing he _ len c0 rfl hlc,⟨b,c0,off',hib,rfl,hlc,hcap,hoff,hrm⟩,hw,Sn.refl _ _ _⟩
    · rename_i hne
      have hpos:0 < src.length:=by cases src <;> simp at hne ⊢
      split at h
      case isFalse=>cases h
      rename_i hc2
      obtain ⟨rfl,rfl,_⟩:=hc2
      simp only [Option.bind_eq_some_iff] at h
      obtain ⟨es,hes,h⟩:=h
      split at h
      case isFalse=>cases h
      rename_i hc3
      obtain ⟨e3,e4⟩:=hc3
      cases h
      have hesl:=all_len e3
      have hxr:CR G hp (.slc k 0 sz' len none) (.slice (some ⟨b,off',none⟩) len c0):=⟨b,c0,off',hib,rfl,hlc,hcap,hoff,hrm⟩
      obtain ⟨ad',cap',hv,_,hm⟩:=list_cells hw hes hxr c1 hesl
      obtain ⟨hlen',cells0,hk,hcl,hfl0,hcells⟩:=obj_list hes
      have hlen':=hlen'.symm
      have hl2:(es ++ src).length = len + src.length:=by rw [List.length_append,← hlen']
      have hall:∀ x ∈ es ++ src,x.length = sz':=fun x hx=>by
        rcases List.mem_append.1 hx with h | h
        · exact hesl x h
        · exact hsall x h
      have hfl2:((es ++ src).flatten.map C.d).length = (len + src.length) * sz':=by rw [List.length_map,flat_len _ hall,hl2]
      have hsfl:=flat_len src hsall
      have hadd:(len + src.length) * sz' = len * sz' + src.length * sz':=Nat.add_mul _ _ _
      by_cases hfit:len + src.length≤c0
      · have ho:off' = 0:=hoff (by omega)
        subst ho
        have hroom:0 + c0 * sz'≤(G.β k).top:=(hrm rfl (by omega)).resolve_left (by rw [hk]; nofun)
        obtain ⟨b',us0,ct,fz,hat',hb,hfz,hcu,hrel,hmu,htop⟩:=hw.ob k _ hk
        have hat:=hib.at hk
        cases Bd.at_inj hat hat'
        have hvone:∀ x ∈ vs,x.oneCell' = true:=fun x hx=>by
          obtain ⟨i,hi⟩:=List.getElem?_of_mem hx
          obtain ⟨d,_,hr⟩:=hvr.flip.get hi
          exact DR.one hr
        have hm2:(len + src.length) * sz'≤c0 * sz':=Nat.mul_le_mul_right _ hfit
        obtain ⟨w',cs',hrun,q1,q2,q3,q4,q5,q6,q7⟩:=run_storeCells (P:=E.P) b (0 + len * sz') ct fz vs 0 us0 w hb hfz (by rw [hvl]; omega) hvone
        obtain ⟨G',hw',sn,hi,ht⟩:=regrow (w':=w') (bn:=b) (cs:=(es ++ src).flatten.map C.d) (vs:=cs') (t:=ct) (fz:=fz) (sz:=sz') (cap:=c0) hw hk (.inl hat) (fun x _ hx=>q5 x hx) (by omega) q1 (by rw [q2]; exact hfz)
          (by rw [hfl2,q2]; omega) (by rw [q2]; omega) (fun i c v hc hvv=>by
            rw [List.getElem?_map,Option.map_eq_some_iff] at hc
            obtain ⟨d,hd,rfl⟩:=hc
            rw [List.flatten_append] at hd
            by_cases hi:i < len * sz'
            · rw [List.getElem?_append_left (by rw [hfl0]; exact hi)] at hd
              obtain ⟨c,hc,hcd⟩:=hcells _ _ hd
              rw [q3 i (by omega)] at hvv
              exact toD_rel hcd (hrel i c v hc hvv)
            · rw [List.getElem?_append_right (by rw [hfl0]; omega),hfl0] at hd
              obtain ⟨v',hv',hr⟩:=hvr.get hd
              have:=q4 _ _ hv'
              rw [show 0 + len * sz' + 0 + (i - len * sz') = i by omega,hvv] at this
              cases this
              exact hr) q7
        refine ⟨.slice (some ⟨b,0,none⟩) (len + src.length) c0,w',G',fit _ _ _ _ hfit (by simp only [addr_add]; exact hrun),?_,hw',sn⟩
        exact ⟨b,c0,0,hi,rfl,hfit,fun c' hc'=>by (cases hc'),fun _=>rfl,fun _ _=>.inr (by rw [ht]; omega)⟩
      · obtain ⟨us,hu1,hu2',hu3⟩:=hm es.length (Nat.le_refl _)
        rw [List.take_length] at hu2'
        rw [← hlen'] at hu1 hu3
        obtain ⟨c,w',cells,q1,q2,q3,q4,q5,q6⟩:=grow _ len c0 es rfl hlen' (by omega) e4 hesl ⟨us,hu1,hu2',fun w' hw'=>hu3 E.P w' hw'⟩
        obtain ⟨G',hw',sn,hi,ht⟩:=regrow (w':=w') (bn:=w.heap.size) (cs:=(es ++ src).flatten.map C.d) (vs:=cells) (t:=e) (fz:=(0,0)) (sz:=sz') (cap:=c) hw hk (.inr (Nat.le_refl _))
          (fun x hx _=>by rw [q3]; simp [Array.getElem?_push,Nat.ne_of_lt hx]) (by rw [q3]; simp) (by rw [q3]; simp) (fz0 _)
          (by rw [hfl2]; exact Nat.le_trans (Nat.mul_le_mul_right _ q1) q4) q4 (fun i c v hc hvv=>by
            rw [List.getElem?_map,Option.map_eq_some_iff] at hc
            obtain ⟨d,hd,rfl⟩:=hc
            rw [flat_get c1 _ hall] at hd
            simp only [Option.bind_eq_some_iff] at hd
            obtain ⟨el,hel,hd⟩:=hd
            obtain ⟨v',hv',hr⟩:=q5 _ _ _ _ hel hd
            have:i / sz' * sz' + i % sz' = i:=by rw [Nat.mul_comm]; exact Nat.div_add_mod i sz'
            rw [this,hvv] at hv'
            cases hv'
            exact hr) q6
        exact ⟨_,w',G',q2,⟨_,c,0,hi,rfl,q1,fun c' hc'=>by (cases hc'),fun _=>rfl,fun _ _=>.inr (by rw [ht]; omega)⟩,hw',sn⟩
  · cases h
theorem appendA_ok {hard:Bool} (hw:WR G hp w) {ats:Array TypeId} {ty t t2:TypeId} {d2:TypeDesc} {x:C} {y:V1} {src:List (List D)} {xv yv:Value} {r:V1×Heap}
    (h0:ats[0]? = some t) (h1:ats[1]? = some t2) (hu2:E.P.underlying t2 = some d2) (hni:∀ k,d2 ≠ .int k) (hx:CR G hp x xv) (hy:VR G hp y yv) (hsrc:srcOf hp y = some src)
    (h:appendA E.P hard hp t x src = some r):∃ v w' G',(Builtin.append_ ats ty #[xv,yv]).run E.P w = .ok v w'∧VR G' r.2 r.1 v∧WR G' r.2 w'∧Sn G hp w G' r.2 w':=by
  have h':=h
  unfold appendA at h'
  split at h'
  case h_2=>cases h'
  rename_i e hu
  split at h'
  case h_2=>cases h'
  rename_i sz by_ z hsz hby hz
  split at h'
  case isFalse=>cases h'
  rename_i hc
  obtain ⟨c1,c2,c3,c4⟩:=hc
  clear h'
  have hsall:=all_len c4
  obtain ⟨hlen,hfirst⟩:=src_cells hw hsrc hy c1 hsall
  obtain ⟨vs,hvl,hvr,hvf⟩:=hfirst src.length (Nat.le_refl _)
  rw [List.take_length] at hvr
  exact appendA_core hw hu hsz hx hsall hvl hvr
    (fun base len cap w' hfit hst=>append_fit h0 h1 hu hu2 hni hsz (hlen E.P) hfit (hvf E.P w rfl) hst)
    (fun base len cap by_ z us hby hz hcap hpos hbig huf=>append_new h0 h1 hu hu2 hni hsz hby hz (hlen E.P) hcap hpos hbig (fun w' hw'=>hvf E.P w' hw') huf) h
theorem append_fitZ {P:Program} {ats:Array TypeId} {ty t t2 e:TypeId} {ik kk:IntKind} {base:Option Addr} {len cap sz n:Nat} {i:TypeInfo} {zv:Value} (h0:ats[0]? = some t) (h1:ats[1]? = some t2)
    (hu:P.underlying t = some (.slice e)) (hu2:P.underlying t2 = some (.int ik)) (hsz:szP P e = some sz) (hi:P.info? e = some i) (hz:zeroP P e = some zv) (hzs:zv.cells.size = sz) (h0s:0 < sz) (hb:0 < i.bytes) (hn:n * i.bytes≤2 ^ 47)
    (hc:len + n≤cap) {w':World} (hst:(match base with | some a=>storeCells (a.add (len * sz)) (Builtin.zeroCells zv.cells n).toList | none=>pure ():Sem Unit).run P w = .ok () w') :
    (Builtin.append_ ats ty #[.slice base len cap,.int kk (n:Int)]).run P w = .ok (.slice base (len + n) cap) w':=by
  have g0:(#[Value.slice base len cap,.int kk (n:Int)]:Array Value)[0]? = some (.slice base len cap):=rfl
  have g1:(#[Value.slice base len cap,.int kk (n:Int)]:Array Value)[1]? = some (.int kk (n:Int)):=rfl
  have hnb:n≤n * i.bytes:=Nat.le_mul_of_pos_right _ hb
  have hwrap:IntKind.i64.wrap (n:Int) = n:=wrap_nat (by omega) (by omega)
  simp only [Builtin.append_,h0,h1,g0,g1,Sem.run_bind,run_underlying hu,run_underlying hu2,Result.andThen_ok,run_sizeOf hsz,Sem.run_pure,if_true,asInt,asIntOf,hwrap]
  rw [if_neg (by omega)]
  simp only [Sem.run_bind,run_typeInfo hi,Result.andThen_ok,Sem.run_pure]
  rw [if_neg (by have : ((n : Int) * (i.bytes : Int)) = ((n * i.bytes : Nat) : Int) := by rw [Int.natCast_mul]
                 omega)]
  simp only [Sem.run_bind,Sem.run_pure,Result.andThen_ok,Int.toNat_natCast]
  rw [if_pos hc]
  by_cases h0':n = 0
  · subst h0'
    simp only [Bool.not_true,Bool.false_eq_true,if_false,Nat.zero_mul,if_true,Sem.run_bind,Sem.run_pure,Result.andThen_ok]
    have e0:(Builtin.zeroCells zv.cells 0).toList = []:=by simp [Builtin.zeroCells]
    rw [e0] at hst
    cases base with
    | none=>simp at hst; subst hst; rfl
    | some ad=>simp only [Sem.run_bind] at hst ⊢; rw [hst]; rfl
  · have hms:n * sz ≠ 0:=by
      have:=Nat.mul_pos (Nat.pos_of_ne_zero h0') h0s
      omega
    simp only [Bool.not_true,Bool.false_eq_true,if_false]
    rw [if_neg hms]
    simp only [Sem.run_bind,run_zeroValue hz,Result.andThen_ok,Sem.run_pure]
    cases base with
    | none=>simp at hst; subst hst; rfl
    | some ad=>simp only [Sem.run_bind] at hst ⊢; rw [hst]; rfl
theorem append_newZ {P:Program} {ats:Array TypeId} {ty t t2 e:TypeId} {ik kk:IntKind} {base:Option Addr} {len cap sz n:Nat} {i:TypeInfo} {zv:Value} (h0:ats[0]? = some t) (h1:ats[1]? = some t2)
    (hu:P.underlying t = some (.slice e)) (hu2:P.underlying t2 = some (.int ik)) (hsz:szP P e = some sz) (hi:P.info? e = some i) (hz:zeroP P e = some zv) (h0s:0 < sz) (hb:0 < i.bytes)
    (hc:cap < len + n) (hbig:(len + n) * i.bytes≤2 ^ 47) {us:List Value}
    (hfs:∀ w',w'.heap = w.heap→(Builtin.firstCells sz len (.slice base len cap)).run P w' = .ok us.toArray w') :
    ∃ c w',len + n≤c∧(Builtin.append_ ats ty #[.slice base len cap,.int kk (n:Int)]).run P w = .ok (.slice (some ⟨w.heap.size,0,none⟩) (len + n) c) w' ∧
      w'.heap = w.heap.push (.cells (us.toArray ++ (Builtin.zeroCells zv.cells n).toList.toArray ++ Builtin.zeroCells zv.cells (c - (len + n))) e)∧Io w w':=by
  have g0:(#[Value.slice base len cap,.int kk (n:Int)]:Array Value)[0]? = some (.slice base len cap):=rfl
  have g1:(#[Value.slice base len cap,.int kk (n:Int)]:Array Value)[1]? = some (.int kk (n:Int)):=rfl
  have hnb:n≤n * i.bytes:=Nat.le_mul_of_pos_right _ hb
  have hnl:n * i.bytes≤(len + n) * i.bytes:=Nat.mul_le_mul_right _ (by omega)
  have hll:len + n≤(len + n) * i.bytes:=Nat.le_mul_of_pos_right _ hb
  have hwrap:IntKind.i64.wrap (n:Int) = n:=wrap_nat (by omega) (by omega)
  obtain ⟨c,hcc,hcr⟩:=run_choose_cap P w (len + n) cap e
  have hcap:=nextcap_le hc
  have hmul:Builtin.nextslicecap (len + n) cap * i.bytes≤2 * (len + n) * i.bytes:=Nat.mul_le_mul_right _ hcap
  have hmul2:2 * (len + n) * i.bytes = 2 * ((len + n) * i.bytes):=by rw [Nat.mul_assoc]
  refine ⟨c,w.drew.alloc (.cells (us.toArray ++ (Builtin.zeroCells zv.cells n).toList.toArray ++ Builtin.zeroCells zv.cells (c - (len + n))) e),hcc,?_,rfl,⟨rfl,rfl,rfl⟩⟩
  simp only [Builtin.append_,h0,h1,g0,g1,Sem.run_bind,run_underlying hu,run_underlying hu2,Result.andThen_ok,run_sizeOf hsz,Sem.run_pure,if_true,asInt,asIntOf,hwrap]
  rw [if_neg (by omega)]
  simp only [Sem.run_bind,run_typeInfo hi,Result.andThen_ok,Sem.run_pure]
  rw [if_neg (by have : ((n : Int) * (i.bytes : Int)) = ((n * i.bytes : Nat) : Int) := by rw [Int.natCast_mul]
                 omega)]
  simp only [Sem.run_bind,Sem.run_pure,Result.andThen_ok,Int.toNat_natCast]
  rw [if_neg (by omega)]
  simp only [Sem.run_bind,run_typeInfo hi,Result.andThen_ok]
  have hmax:¬ (((len + n:Nat):Int) > IntKind.i64.max∧(True∨i.bytes = 0)):=by
    have:IntKind.i64.max = 9223372036854775807:=by decide
    omega
  rw [if_neg hmax]
  simp only [Sem.run_bind,run_typeInfo hi,Result.andThen_ok,Sem.run_pure]
  rw [if_neg (by omega)]
  by_cases h0':n = 0
  · subst h0'
    have e0:(Builtin.zeroCells zv.cells 0).toList = []:=by simp [Builtin.zeroCells]
    simp only [Sem.run_bind,hcr,Result.andThen_ok,run_typeInfo hi,run_askRoom,hfs w.drew rfl,if_true,Bool.not_true,Bool.false_eq_true,if_false,Nat.zero_mul,run_zeroValue hz,Sem.run_pure,newRow,run_newObj,e0]
    rfl
  · have hms:n * sz ≠ 0:=by
      have:=Nat.mul_pos (Nat.pos_of_ne_zero h0') h0s
      omega
    simp only [Sem.run_bind,hcr,Result.andThen_ok,run_typeInfo hi,run_askRoom,hfs w.drew rfl,if_true,Bool.not_true,Bool.false_eq_true,if_false]
    rw [if_neg hms]
    simp only [Sem.run_bind,run_zeroValue hz,Result.andThen_ok,Sem.run_pure,newRow,run_newObj,Array.toArray_toList]
    rfl
theorem appendN_ok {hard:Bool} (hw:WR G hp w) {ats:Array TypeId} {ty t t2:TypeId} {ik:IntKind} {x:C} {y:V1} {xv yv:Value} {r:V1×Heap}
    (h0:ats[0]? = some t) (h1:ats[1]? = some t2) (hu2:E.P.underlying t2 = some (.int ik)) (hx:CR G hp x xv) (hy:VR G hp y yv)
    (h:appendN E.P hard hp t x y = some r):∃ v w' G',(Builtin.append_ ats ty #[xv,yv]).run E.P w = .ok v w'∧VR G' r.2 r.1 v∧WR G' r.2 w'∧Sn G hp w G' r.2 w':=by
  unfold appendN at h
  split at h
  case h_2=>cases h
  rename_i e kk n hu
  split at h
  case h_2=>cases h
  rename_i by_ zd hby hzd
  split at h
  case isFalse=>cases h
  rename_i hc
  obtain ⟨c0,c1,c2⟩:=hc
  have hyv:yv = .int kk n:=by
    have h':DR G.μ (.sc (.int kk n)) yv:=hy
    cases h'
    rfl
  subst hyv
  obtain ⟨m,rfl⟩:∃ m:Nat,n = m:=⟨n.toNat,by omega⟩
  rw [Int.toNat_natCast] at h
  have h':=h
  unfold appendA at h'
  simp only [hu,hby] at h'
  split at h'
  case h_2=>cases h'
  rename_i sz _ z hsz hby' hz
  cases hby'
  split at h'
  case isFalse=>cases h'
  rename_i hc
  obtain ⟨d1,d2,d3,d4⟩:=hc
  clear h'
  obtain ⟨i,hi,rfl⟩:∃ i,E.P.info? e = some i∧i.bytes = by_:=by
    simp only [bytesP,Option.map_eq_some_iff] at hby
    exact hby
  rw [hz,Option.bind_some] at hzd
  simp only [zeroC,Option.map_eq_some_iff,Option.bind_eq_some_iff] at hz
  obtain ⟨zx,⟨zv,hz,hzx⟩,rfl⟩:=hz
  have hzr:=(ofV_rel (G:=G) (hp:=hp) hzx).cells
  have hzs:zv.cells.size = sz:=by rw [← d3,hzr.length]; simp
  have hmb:m * i.bytes≤2 ^ 47:=by
    have:((m * i.bytes:Nat):Int)≤2 ^ 47:=by rw [Int.natCast_mul]; exact c2
    omega
  have hzl:zd.length = sz:=by rw [mapM_len hzd]; exact d3
  have hsall:∀ x ∈ List.replicate m zd,x.length = sz:=fun x hx=>by rw [(List.mem_replicate.1 hx).2]; exact hzl
  have hvl:(Builtin.zeroCells zv.cells m).toList.length = (List.replicate m zd).length * sz:=by
    rw [Array.length_toList,zc_size,hzs,List.length_replicate]
  have hzero:=zero_cells (len:=m) hzr d3 d1
  have hm2:=mapM_all2 hzd
  have hvr:All2 (DR G.μ) (List.replicate m zd).flatten (Builtin.zeroCells zv.cells m).toList:=by
    refine All2.of_get (by rw [flat_len _ hsall,hvl]) fun j d v hd hv=>?_
    rw [flat_get d1 _ hsall] at hd
    simp only [Option.bind_eq_some_iff] at hd
    obtain ⟨el,hel,hd⟩:=hd
    have hel':=(List.mem_replicate.1 (List.mem_of_getElem? hel)).2
    subst hel'
    obtain ⟨c,hc,hr⟩:=hm2.flip.get hd
    have hjm:=lt_of_get hel
    rw [List.length_replicate] at hjm
    have hcz:(List.replicate m zx.cells).flatten[j]? = some c:=by
      rw [flat_get d1 _ (fun x hx=>by rw [(List.mem_replicate.1 hx).2]; exact d3),List.getElem?_replicate,if_pos hjm]
      exact hc
    have:=all2_get (α:=Unit) hzero j c v hcz (by
      rw [← hv]
      simp only [Builtin.zeroCells,hzs,Array.getElem?_toList])
    exact toD_rel hr this
  have hl:(List.replicate m zd).length = m:=List.length_replicate ..
  refine appendA_core hw hu hsz hx hsall hvl hvr ?_ ?_ h
  · rw [hl]
    intro base len cap w' hfit hst
    exact append_fitZ h0 h1 hu hu2 hsz hi hz hzs d1 c1 hmb hfit hst
  · rw [hl]
    intro base len cap by_ z us hby hz' hcap hpos hbig huf
    rw [hz] at hz'
    cases hz'
    have:by_ = i.bytes:=by
      simp only [bytesP,hi,Option.map_some,Option.some.injEq] at hby
      exact hby.symm
    subst this
    exact append_newZ h0 h1 hu hu2 hsz hi hz d1 hpos hcap hbig huf
theorem appendZO_ok {hard:Bool} (hw:WR G hp w) {ats:Array TypeId} {ty t t2 e k:TypeId} {ik kk:IntKind} {nl:Bool} {es:List (List D)} {n:Int} {xv yv:Value} {r:V1×Heap}
    (h0:ats[0]? = some t) (h1:ats[1]? = some t2) (hu2:E.P.underlying t2 = some (.int ik)) (hx:CR G hp (.own nl es k) xv) (hy:VR G hp (.c (.d (.sc (.int kk n)))) yv) (hu:E.P.underlying t = some (.slice e))
    (h:(match szP E.P e,bytesP E.P e,zeroC E.P e,hp[k]? with
    | some sz,some by_,some z,some (.row m 0) =>
      if hard = true∧0 < sz∧0 < by_∧z.length = sz∧0 < n∧m = es.length∧es.all (·.length == sz) = true∧(es.length + n) * by_≤2 ^ 47 then
        some ((.c (.slc hp.length 0 sz (es.length + n.toNat) none):V1),hp ++ [.cells (es.flatten.map .d ++ (List.replicate n.toNat z).flatten)])
      else none
    | _,_,_,_=>none) = some r):∃ v w' G',(Builtin.append_ ats ty #[xv,yv]).run E.P w = .ok v w'∧VR G' r.2 r.1 v∧WR G' r.2 w'∧Sn G hp w G' r.2 w':=by
  split at h
  case h_2=>cases h
  rename_i sz by_ z mm hsz hby hz hk
  split at h
  case isFalse=>cases h
  rename_i hc
  obtain ⟨_,c1,c2,c3,c4,rfl,c6,c5⟩:=hc
  cases h
  simp only [zeroC,Option.map_eq_some_iff,Option.bind_eq_some_iff] at hz
  obtain ⟨zx,⟨zv,hz,hzx⟩,rfl⟩:=hz
  have hzr:=(ofV_rel (G:=G) (hp:=hp) hzx).cells
  have hzs:zv.cells.size = sz:=by rw [← c3,hzr.length]; simp
  obtain ⟨hd,n0,rsz,hk0,hle0,hcapr⟩:=hx
  rw [hk] at hk0
  cases hk0
  have hcr:=hcapr rfl
  have hor:=hw.ob k _ hk
  obtain ⟨ad,rfl⟩:∃ ad,xv = .slice ad es.length es.length:=by
    cases hβ:G.β k with
    | none=>rw [hβ] at hcr; exact hcr
    | blk b=>rw [hβ] at hcr; exact hcr.elim
    | tail b o sz2 cap2 =>
      simp only [OR,hβ] at hor
      obtain ⟨q1,_,_,q2,_⟩:=hor
      omega
  have hyv:yv = .int kk n:=by
    have h':DR G.μ (.sc (.int kk n)) yv:=hy
    cases h'
    rfl
  subst hyv
  have hes:=all_len c6
  obtain ⟨ad',cap',hv,_,hm⟩:=list_cells (x:=.d (.lst nl es)) hw rfl hd c1 hes
  obtain ⟨us,hu1,hur,hu3⟩:=hm es.length (Nat.le_refl _)
  rw [List.take_length] at hur
  injection hv with v1 v2 v3
  subst v1 v3
  obtain ⟨i,hi,rfl⟩:∃ i,E.P.info? e = some i∧i.bytes = by_:=by
    simp only [bytesP,Option.map_eq_some_iff] at hby
    exact hby
  obtain ⟨m,rfl⟩:∃ m:Nat,n = m:=⟨n.toNat,by omega⟩
  have hm0:0 < m:=by omega
  have hmb:(es.length + m) * i.bytes≤2 ^ 47:=by
    have:(((es.length + m) * i.bytes:Nat):Int)≤2 ^ 47:=by rw [Int.natCast_mul,Int.natCast_add]; exact c5
    omega
  have hm1:es.length + m≤(es.length + m) * i.bytes:=Nat.le_mul_of_pos_right _ c2
  have hmbb:m * i.bytes≤(es.length + m) * i.bytes:=Nat.mul_le_mul_right _ (by omega)
  have hwrap:IntKind.i64.wrap (m:Int) = m:=wrap_nat (by omega) (by omega)
  obtain ⟨c,hcc,hcr2⟩:=run_choose_cap E.P w (es.length + m) es.length e
  have hcap:=nextcap_le (n:=es.length + m) (c:=es.length) (by omega)
  have hmul:Builtin.nextslicecap (es.length + m) es.length * i.bytes≤2 * (es.length + m) * i.bytes:=Nat.mul_le_mul_right _ hcap
  have hmul2:2 * (es.length + m) * i.bytes = 2 * ((es.length + m) * i.bytes):=by rw [Nat.mul_assoc]
  have hms:m * sz ≠ 0:=by
    have:=Nat.mul_pos hm0 c1
    omega
  let cells:=us.toArray ++ Builtin.zeroCells zv.cells m ++ Builtin.zeroCells zv.cells (c - (es.length + m))
  have hsize:cells.size = c * sz:=by
    simp only [cells,Array.size_append,zc_size,hzs,List.size_toArray,hu1]
    rw [← Nat.add_mul,← Nat.add_mul]
    congr 1
    omega
  have hzero:=zero_cells (len:=m) hzr c3 c1
  have hl1:(es.flatten.map C.d).length = es.length * sz:=by rw [List.length_map,flat_len es hes]
  have hl2:(List.replicate m zx.cells).flatten.length = m * sz:=by rw [flat_rep_len,c3]
  have hlen:(es.flatten.map C.d ++ (List.replicate m zx.cells).flatten).length = (es.length + m) * sz:=by rw [List.length_append,hl1,hl2,Nat.add_mul]
  have hle:(es.length + m) * sz≤c * sz:=Nat.mul_le_mul_right _ hcc
  have hadd:(es.length + m) * sz = es.length * sz + m * sz:=Nat.add_mul _ _ _
  obtain ⟨G',hw',sn,hib,htop⟩:=new_room (w':=w.drew.alloc (.cells cells e)) (cs:=es.flatten.map C.d ++ (List.replicate m zx.cells).flatten) (vs:=cells) (t:=e) (fz:=(0,0)) (sz:=sz) (cap:=c) hw rfl (fz0 _)
    (by rw [hlen,hsize]; exact hle) (by rw [hsize]; exact Nat.le_refl _) (fun j d v hd2 hv2=>by
      have hj:=lt_of_get hd2
      rw [hlen] at hj
      have e0:cells = us.toArray ++ (Builtin.zeroCells zv.cells m ++ Builtin.zeroCells zv.cells (c - (es.length + m))):=by simp [cells]
      by_cases hjl:j < es.length * sz
      · rw [List.getElem?_append_left (by rw [hl1]; exact hjl),List.getElem?_map,Option.map_eq_some_iff] at hd2
        obtain ⟨d0,hd0,rfl⟩:=hd2
        obtain ⟨v',hv',hr⟩:=hur.get hd0
        rw [e0,Array.getElem?_append_left (by simpa [hu1] using hjl)] at hv2
        have:us.toArray[j]? = us[j]? := by simp
        rw [this,hv'] at hv2
        cases hv2
        exact hr
      · rw [List.getElem?_append_right (by rw [hl1]; omega),hl1] at hd2
        rw [e0,Array.getElem?_append_right (by simp [hu1]; omega)] at hv2
        simp only [List.size_toArray,hu1] at hv2
        rw [Array.getElem?_append_left (by rw [zc_size,hzs]; omega)] at hv2
        refine all2_get (α:=Unit) hzero _ d v hd2 ?_
        rw [← hv2]
        simp only [Builtin.zeroCells,hzs])
  refine ⟨.slice (some ⟨w.heap.size,0,none⟩) (es.length + m) c,w.drew.alloc (.cells cells e),G',?_,⟨w.heap.size,c,0,hib,by simp,by simpa using hcc,fun c' hc'=>by (cases hc'),fun _=>rfl,fun _ _=>.inr (by rw [htop]; omega)⟩,by simpa using hw',by simpa using sn⟩
  have a0:(#[Value.slice ad es.length es.length,Value.int kk (m:Int)]:Array Value)[0]? = some (.slice ad es.length es.length):=rfl
  have a1:(#[Value.slice ad es.length es.length,Value.int kk (m:Int)]:Array Value)[1]? = some (.int kk (m:Int)):=rfl
  simp only [Builtin.append_,h0,h1,a0,a1,Sem.run_bind,run_underlying hu,run_underlying hu2,Result.andThen_ok,run_sizeOf hsz,Sem.run_pure,if_true,asInt,asIntOf,hwrap]
  rw [if_neg (by omega)]
  simp only [Sem.run_bind,run_typeInfo hi,Result.andThen_ok,Sem.run_pure]
  rw [if_neg (by have : ((m : Int) * (i.bytes : Int)) = ((m * i.bytes : Nat) : Int) := by rw [Int.natCast_mul]
                 omega)]
  simp only [Sem.run_bind,Sem.run_pure,Result.andThen_ok,Int.toNat_natCast]
  rw [if_neg (by omega)]
  simp only [Sem.run_bind,run_typeInfo hi,Result.andThen_ok]
  have hmax:¬ (((es.length + m:Nat):Int) > IntKind.i64.max∧(True∨i.bytes = 0)):=by
    have:IntKind.i64.max = 9223372036854775807:=by decide
    omega
  rw [if_neg hmax]
  simp only [Sem.run_bind,run_typeInfo hi,Result.andThen_ok,Sem.run_pure]
  rw [if_neg (by omega)]
  simp only [Sem.run_bind,hcr2,Result.andThen_ok,run_typeInfo hi,run_askRoom,hu3 E.P w.drew rfl,if_true,Bool.not_true,Bool.false_eq_true,if_false]
  rw [if_neg hms]
  simp only [Sem.run_bind,run_zeroValue hz,Result.andThen_ok,Sem.run_pure,newRow,run_newObj]
  rfl
theorem appendZ_ok {hard:Bool} (hw:WR G hp w) {ats:Array TypeId} {ty t t2:TypeId} {ik:IntKind} {x:C} {y:V1} {xv yv:Value} {r:V1×Heap}
    (h0:ats[0]? = some t) (h1:ats[1]? = some t2) (hu2:E.P.underlying t2 = some (.int ik)) (hx:CR G hp x xv) (hy:VR G hp y yv)
    (h:appendZ E.P hard hp t x y = some r):∃ v w' G',(Builtin.append_ ats ty #[xv,yv]).run E.P w = .ok v w'∧VR G' r.2 r.1 v∧WR G' r.2 w'∧Sn G hp w G' r.2 w':=by
  unfold appendZ at h
  split at h
  case h_3=>cases h
  case h_2=>exact appendZO_ok hw h0 h1 hu2 hx hy (by assumption) h
  rename_i e kk n hu
  split at h
  case h_2=>cases h
  rename_i sz by_ z hsz hby hz
  split at h
  case isFalse=>cases h
  rename_i hc
  obtain ⟨_,c1,c2,c3,c4,c5⟩:=hc
  cases h
  simp only [zeroC,Option.map_eq_some_iff,Option.bind_eq_some_iff] at hz
  obtain ⟨zx,⟨zv,hz,hzx⟩,rfl⟩:=hz
  have hzr:=(ofV_rel (G:=G) (hp:=hp) hzx).cells
  have hzs:zv.cells.size = sz:=by rw [← c3,hzr.length]; simp
  obtain ⟨ad,cap,sz',vf,rfl,g1,g2,g3,gsp,g4,g5,g6⟩:=DR.inv (show DR G.μ (.lst true []) xv from hx)
  have had:ad = none:=by cases ad <;> simp at g2 ⊢
  have hcap0:=g3 had
  subst had hcap0
  have hyv:yv = .int kk n:=by
    have h':DR G.μ (.sc (.int kk n)) yv:=hy
    cases h'
    rfl
  subst hyv
  obtain ⟨i,hi,rfl⟩:∃ i,E.P.info? e = some i∧i.bytes = by_:=by
    simp only [bytesP,Option.map_eq_some_iff] at hby
    exact hby
  obtain ⟨m,rfl⟩:∃ m:Nat,n = m:=⟨n.toNat,by omega⟩
  have hm0:0 < m:=by omega
  have hmb:m * i.bytes≤2 ^ 47:=by
    have:((m * i.bytes:Nat):Int)≤2 ^ 47:=by rw [Int.natCast_mul]; exact c5
    omega
  have hm:m≤m * i.bytes:=Nat.le_mul_of_pos_right m c2
  have hwrap:IntKind.i64.wrap (m:Int) = m:=wrap_nat (by omega) (by omega)
  obtain ⟨c,hcc,hcr⟩:=run_choose_cap E.P w m 0 e
  have hcap:=nextcap_le (n:=m) (c:=0) hm0
  have hmul:Builtin.nextslicecap m 0 * i.bytes≤2 * m * i.bytes:=Nat.mul_le_mul_right _ hcap
  have hmul2:2 * m * i.bytes = 2 * (m * i.bytes):=by rw [Nat.mul_assoc]
  have hms:m * sz ≠ 0:=by
    have:=Nat.mul_pos hm0 c1
    omega
  let cells:=(#[]:Array Value) ++ Builtin.zeroCells zv.cells m ++ Builtin.zeroCells zv.cells (c - m)
  have hsize:cells.size = c * sz:=by
    simp only [cells,Array.size_append,zc_size,hzs]
    rw [show (#[]:Array Value).size = 0 from rfl,Nat.zero_add,← Nat.add_mul]
    congr 1
    omega
  have hzero:=zero_cells (len:=m) hzr c3 c1
  have hlen:(List.replicate m zx.cells).flatten.length = m * sz:=by rw [flat_rep_len,c3]
  have hle:m * sz≤c * sz:=Nat.mul_le_mul_right _ hcc
  obtain ⟨G',hw',sn,hib,htop⟩:=new_room (w':=w.drew.alloc (.cells cells e)) (cs:=(List.replicate m zx.cells).flatten) (vs:=cells) (t:=e) (fz:=(0,0)) (sz:=sz) (cap:=c) hw rfl (fz0 _)
    (by rw [hlen,hsize]; exact hle) (by rw [hsize]; exact Nat.le_refl _) (fun j d v hd hv=>by
      have hj:=lt_of_get hd
      rw [hlen] at hj
      have e0:cells = Builtin.zeroCells zv.cells m ++ Builtin.zeroCells zv.cells (c - m):=by simp [cells]
      rw [e0,Array.getElem?_append_left (by rw [zc_size,hzs]; exact hj)] at hv
      refine all2_get (α:=Unit) hzero j d v hd ?_
      rw [← hv]
      simp only [Builtin.zeroCells,hzs])
  refine ⟨.slice (some ⟨w.heap.size,0,none⟩) m c,w.drew.alloc (.cells cells e),G',?_,⟨w.heap.size,c,0,hib,by simp,by simpa using hcc,fun c' hc'=>by (cases hc'),fun _=>rfl,fun _ _=>.inr (by rw [htop]; omega)⟩,by simpa using hw',by simpa using sn⟩
  have a0:(#[Value.slice none 0 0,Value.int kk (m:Int)]:Array Value)[0]? = some (.slice none 0 0):=rfl
  have a1:(#[Value.slice none 0 0,Value.int kk (m:Int)]:Array Value)[1]? = some (.int kk (m:Int)):=rfl
  simp only [List.length_nil,Builtin.append_,h0,h1,a0,a1,Sem.run_bind,run_underlying hu,run_underlying hu2,Result.andThen_ok,run_sizeOf hsz,Sem.run_pure,if_true,asInt,asIntOf,hwrap]
  rw [if_neg (by omega)]
  simp only [Sem.run_bind,run_typeInfo hi,Result.andThen_ok,Sem.run_pure]
  rw [if_neg (by have : ((m : Int) * (i.bytes : Int)) = ((m * i.bytes : Nat) : Int) := by rw [Int.natCast_mul]
                 omega)]
  simp only [Sem.run_bind,Sem.run_pure,Result.andThen_ok,Int.toNat_natCast,Nat.zero_add]
  rw [if_neg (by omega)]
  simp only [Sem.run_bind,run_typeInfo hi,Result.andThen_ok]
  have hmax:¬ ((m:Int) > IntKind.i64.max∧(True∨i.bytes = 0)):=by
    have:IntKind.i64.max = 9223372036854775807:=by decide
    omega
  rw [if_neg hmax]
  simp only [Sem.run_bind,run_typeInfo hi,Result.andThen_ok,Sem.run_pure]
  rw [if_neg (by omega)]
  have hfc:∀ w':World,(Builtin.firstCells sz 0 (.slice none 0 0)).run E.P w' = .ok #[] w':=fun w'=>by simp [Builtin.firstCells]
  simp only [Sem.run_bind,hcr,Result.andThen_ok,run_typeInfo hi,run_askRoom,hfc,if_true,Bool.not_true,Bool.false_eq_true,if_false]
  rw [if_neg hms]
  simp only [Sem.run_bind,run_zeroValue hz,Result.andThen_ok,Sem.run_pure,newRow,run_newObj]
  rfl
theorem copyA_ok (hw:WR G hp w) {ats:Array TypeId} {ty t:TypeId} {x:C} {y:V1} {src:List (List D)} {xv yv:Value} {r:V1×Heap}
    (h0:ats[0]? = some t) (hx:CR G hp x xv) (hy:VR G hp y yv) (hsrc:srcOf hp y = some src)
    (h:copyA E.P hp t x src = some r):∃ v w' G',(Builtin.copy_ ats ty #[xv,yv]).run E.P w = .ok v w'∧VR G' r.2 r.1 v∧WR G' r.2 w'∧Sn G hp w G' r.2 w':=by
  unfold copyA at h
  split at h
  case h_2=>cases h
  rename_i e k off sz len cap hu
  split at h
  case isFalse=>cases h
  rename_i hc
  obtain ⟨c0,hsz,c4⟩:=hc
  split at h
  case h_2=>cases h
  rename_i cs hk
  split at h
  case isFalse=>cases h
  rename_i hle
  cases h
  have hsall:=all_len c4
  obtain ⟨hlen,hfirst⟩:=src_cells hw hsrc hy c0 hsall
  obtain ⟨b,c,off',hib,rfl,hlc,hcap,hoff,_⟩:=hx
  have hm:min src.length len≤src.length:=Nat.min_le_left _ _
  obtain ⟨vs,hvl,hvr,hvf⟩:=hfirst (min src.length len) hm
  have htk:src.take (min src.length len) = src.take len:=by
    by_cases e:len≤src.length
    · rw [Nat.min_eq_right e]
    · rw [Nat.min_eq_left (by omega),List.take_length,List.take_of_length_le (by omega)]
  rw [htk] at hvr
  have hvs2:All2 (CR G hp) ((src.take len).flatten.map .d) vs:=by
    clear hvf hvl
    generalize (src.take len).flatten = l at hvr
    induction hvr with
    | nil=>exact .nil
    | cons h _ ih=>exact .cons h ih
  have hfl:((src.take len).flatten.map C.d).length = min src.length len * sz:=by rw [hvs2.length,hvl]
  have hmm:min src.length len * sz≤len * sz:=Nat.mul_le_mul_right _ (Nat.min_le_right _ _)
  by_cases hz:c = 0
  · have hl0:len = 0:=by omega
    subst hl0
    have hvs0:vs = []:=List.eq_nil_of_length_eq_zero (by rw [hvl]; simp)
    subst hvs0
    have hset:hp.set k (.cells (wr cs off ((src.take 0).flatten.map C.d))) = hp:=by
      simp only [List.take_zero,List.flatten_nil,List.map_nil,wr_nil]
      have hlt:=lt_of_get hk
      apply List.ext_getElem?
      intro i
      by_cases e:k = i
      · subst e; rw [List.getElem?_set_self hlt,hk]
      · rw [List.getElem?_set_ne e]
    refine ⟨goInt ((min src.length 0:Nat):Int),w,G,?_,DR.sc _ rfl,by rw [hset]; exact hw,by rw [hset]; exact Sn.refl _ _ _⟩
    have:=hvf E.P w rfl
    simp only [Nat.min_zero] at this
    simp [Builtin.copy_,h0,run_underlying hu,hlen E.P,run_sizeOf hsz,this,storeCells]
  · have ho:off' = off:=hoff hz
    subst ho
    obtain ⟨w',hrun,hw',sn⟩:=write_cells (E:=E) (off:=off') hw hk (hib.at hk) (by rw [hfl]; omega) hvs2
    refine ⟨goInt (min src.length len:Nat),w',G,?_,DR.sc _ rfl,hw',sn⟩
    have:=hvf E.P w rfl
    have hmin:Nat.min src.length len = min src.length len:=rfl
    simp [Builtin.copy_,h0,run_underlying hu,hlen E.P,run_sizeOf hsz,hmin,this,hrun]
theorem run_builtin {b:Builtin} {c:Call} {x:Value} {w':World} (hop:o.op = .call c) (hc:c.callee = .builtin b)
    (h:(builtin b c.argTypes o.type (c.args.map fun | .const _=>true | _=>false) (c.args.map a.eval)).run E.P w = .ok (.value x) w') :
    (execOp a.eval o).run E.P w = .ok (.value x) w':=by
  simp only [execOp,hop,resolve,hc,Sem.run_bind,Sem.run_pure,Result.andThen_ok,invoke]
  exact h
theorem args_rel (hs:SR G hp s a.tmps) {l:List Operand} {xs:List V1} (h:l.mapM (ev1 s) = some xs):All2 (VR G hp) xs (l.map a.eval):=by
  have h2:=(mapM_all2 h).flip
  clear h
  induction h2 with
  | nil=>exact .nil
  | cons h _ ih=>exact .cons (ev1_rel hs h) ih
theorem toV_all {xs:List V1} {vs us:List Value} (h:xs.mapM toV = some vs) (r:All2 (VR G hp) xs us):us = vs:=by
  have h2:=mapM_all2 h
  clear h
  induction h2 generalizing us with
  | nil=>cases r; rfl
  | cons h _ ih=>cases r with
    | cons a t=>rw [toV_eq h a,ih t]
theorem op_builtin (hs:SR G hp s a.tmps) (hw:WR G hp w) {b:Builtin} {c:Call} (hop:o.op = .call c) (hc:c.callee = .builtin b) {v:AV×Heap} (h:builtinA E.P s hp b c o.type (E.hard o.pos) = some v) :
    OkV G hp w ((execOp a.eval o).run E.P w) v:=by
  simp only [builtinA,Option.bind_eq_bind,Option.bind_eq_some_iff] at h
  obtain ⟨xs,hxs,h⟩:=h
  have hr:=args_rel hs hxs
  have hargs:c.args.map a.eval = (c.args.toList.map a.eval).toArray:=by apply Array.ext'; simp
  generalize hav:c.args.toList.map a.eval = us at hr hargs
  have hat:∀ (i:Nat) (t:TypeId),c.argTypes.toList[i]? = some t→c.argTypes[i]? = some t:=fun i t h=>by simpa using h
  split at h
  · -- len
    rename_i x t ts hts
    cases hr with
    | cons hx ht =>
      cases ht
      rename_i xv
      have h0:=hat 0 t (by rw [hts]; rfl)
      have g0:(#[xv]:Array Value)[0]? = some xv:=rfl
      split at h
      · rename_i q hu
        split at h
        · rename_i n e hu2
          cases h
          refine OkV.same hw (x:=.int .i64 n) (run_builtin hop hc ?_) (DR.sc _ rfl)
          simp [builtin,hargs,Builtin.len_,h0,run_underlying hu,run_underlying hu2,goInt]
        · cases h
      · rename_i d hnp hu
        simp only [Option.map_eq_some_iff] at h
        obtain ⟨n,hn,rfl⟩:=h
        refine OkV.same hw (x:=.int .i64 n) (run_builtin hop hc ?_) (DR.sc _ rfl)
        unfold lenA at hn
        split at hn
        · cases hn
          cases hx
          simp [builtin,hargs,Builtin.len_,h0,run_underlying hu,goInt]
        · cases hn
          obtain ⟨b',c',o',_,rfl,_⟩:=hx
          simp [builtin,hargs,Builtin.len_,h0,run_underlying hu,goInt]
        · cases hn
          obtain ⟨ad,cap,sz,vs,rfl,_⟩:=DR.inv hx
          simp [builtin,hargs,Builtin.len_,h0,run_underlying hu,goInt]
        · cases hn
          obtain ⟨ad,cap,sz,vs,rfl,_⟩:=DR.inv hx.1
          simp [builtin,hargs,Builtin.len_,h0,run_underlying hu,goInt]
        · cases hn
          cases hx
          simp [builtin,hargs,Builtin.len_,h0,run_underlying hu,goInt]
        · rename_i k
          split at hn
          · rename_i kvs hk
            cases hn
            obtain ⟨b',hib,rfl⟩:=hx
            obtain ⟨b2,es,clock,e1,e2,e3,_⟩:=hw.ob k _ hk
            have hat':=hib.at hk
            rw [e1] at hat'
            cases hat'
            have hl:=e3.length
            simp [builtin,hargs,Builtin.len_,h0,run_underlying hu,goInt,getObj_run e2,hl]
          · cases hn
        · cases hn
          simp [builtin,hargs,Builtin.len_,h0,run_underlying hu,goInt]
        · cases hn
      · cases h
  · -- cap
    rename_i k off sz len n t ts hts
    cases hr with
    | cons hx ht =>
      cases ht
      rename_i xv
      have h0:=hat 0 t (by rw [hts]; rfl)
      split at h
      · rename_i e hu
        cases h
        obtain ⟨b',c',o',_,rfl,_,hcap,_⟩:=hx
        refine OkV.same hw (x:=.int .i64 n) (run_builtin hop hc ?_) (DR.sc _ rfl)
        rw [hargs,hcap n rfl]
        simp [builtin,Builtin.cap_,h0,run_underlying hu,goInt]
      · cases h
  · -- cap of no slice
    rename_i t ts hts
    cases hr with
    | cons hx ht =>
      cases ht
      rename_i xv
      have h0:=hat 0 t (by rw [hts]; rfl)
      split at h
      · rename_i e hu
        cases h
        obtain ⟨ad,cap,sz',vf,rfl,g1,g2,g3,_⟩:=DR.inv (show DR G.μ (.lst true []) xv from hx)
        have had:ad = none:=by cases ad <;> simp at g2 ⊢
        have hcap0:=g3 had
        subst had hcap0
        refine OkV.same hw (x:=.int .i64 0) (run_builtin hop hc ?_) (DR.sc _ rfl)
        rw [hargs]
        simp [builtin,Builtin.cap_,h0,run_underlying hu,goInt]
      · cases h
  · -- append
    rename_i x y t t2 ts hts
    cases hr with
    | cons hx ht =>
      cases ht with
      | cons hy ht =>
        cases ht
        rename_i xv yv
        have h0:=hat 0 t (by rw [hts]; rfl)
        have h1:=hat 1 t2 (by rw [hts]; rfl)
        split at h
        · rename_i ik hu2
          simp only [Option.map_eq_some_iff] at h
          obtain ⟨r,hr,rfl⟩:=h
          have hr2:∃ v w' G',(Builtin.append_ c.argTypes o.type #[xv,yv]).run E.P w = .ok v w'∧VR G' r.2 r.1 v∧WR G' r.2 w'∧Sn G hp w G' r.2 w':=by
            split at hr
            · exact appendZ_ok (ty:=o.type) hw h0 h1 hu2 hx hy hr
            · exact appendN_ok (ty:=o.type) hw h0 h1 hu2 hx hy hr
          obtain ⟨v,w',G',hrun,hvr,hw',sn⟩:=hr2
          refine ⟨v,w',G',.inl ⟨run_builtin hop hc ?_,hvr⟩,hw',sn⟩
          rw [hargs]
          simp [builtin,hrun]
        · rename_i d2 hni hu2
          simp only [Option.bind_eq_some_iff,Option.map_eq_some_iff] at h
          obtain ⟨src,hsrc,r,hr,rfl⟩:=h
          obtain ⟨v,w',G',hrun,hvr,hw',sn⟩:=appendA_ok (ty:=o.type) hw h0 h1 hu2 (fun k hk=>hni k hk) hx hy hsrc hr
          refine ⟨v,w',G',.inl ⟨run_builtin hop hc ?_,hvr⟩,hw',sn⟩
          rw [hargs]
          simp [builtin,hrun]
        · cases h
  · -- copy
    rename_i x y t ts hts
    cases hr with
    | cons hx ht =>
      cases ht with
      | cons hy ht =>
        cases ht
        rename_i xv yv
        have h0:=hat 0 t (by rw [hts]; rfl)
        simp only [Option.bind_eq_some_iff,Option.map_eq_some_iff] at h
        obtain ⟨src,hsrc,r,hr,rfl⟩:=h
        obtain ⟨v,w',G',hrun,hvr,hw',sn⟩:=copyA_ok (ty:=o.type) hw h0 hx hy hsrc hr
        refine ⟨v,w',G',.inl ⟨run_builtin hop hc ?_,hvr⟩,hw',sn⟩
        rw [hargs]
        simp [builtin,hrun]
  · simp only [Option.bind_eq_some_iff,Option.map_eq_some_iff] at h
    obtain ⟨vs,hvs,r,hr',z,hz,rfl⟩:=h
    have:=toV_all hvs hr
    subst this
    refine OkV.same hw (x:=r) (run_builtin hop hc ?_) (ofV_rel hz)
    rw [hargs]
    simp [builtin,evalS_run hr' w]
  · simp only [Option.bind_eq_some_iff,Option.map_eq_some_iff] at h
    obtain ⟨vs,hvs,r,hr',z,hz,rfl⟩:=h
    have:=toV_all hvs hr
    subst this
    refine OkV.same hw (x:=r) (run_builtin hop hc ?_) (ofV_rel hz)
    rw [hargs]
    simp [builtin,evalS_run hr' w]
  · -- clear
    rename_i k off sz len cap t ts hts
    cases hr with
    | cons hx ht =>
      cases ht
      rename_i xv
      have h0:=hat 0 t (by rw [hts]; rfl)
      unfold clearA at h
      split at h
      case h_2=>cases h
      rename_i e hu
      split at h
      case h_2=>cases h
      rename_i sz' z cs hsz hz hk
      split at h
      case isFalse=>cases h
      rename_i hc2
      obtain ⟨rfl,c2,c3,c4⟩:=hc2
      cases h
      simp only [zeroC,Option.map_eq_some_iff,Option.bind_eq_some_iff] at hz
      obtain ⟨zx,⟨zv,hz,hzx⟩,rfl⟩:=hz
      have hzr:=(ofV_rel (G:=G) (hp:=hp) hzx).cells
      have hzs:zv.cells.size = sz':=by rw [← c2,hzr.length]; simp
      obtain ⟨b',c',off',hib,rfl,hlc,hcap,hoff,_⟩:=hx
      have hzero:=zero_cells (len:=len) hzr c2 c3
      have hlen:(List.replicate len zx.cells).flatten.length = len * sz':=by rw [flat_rep_len,c2]
      obtain ⟨w',hrun,hw',sn⟩:=write_cells (E:=E) (off:=off) hw hk (hib.at hk) (by rw [hlen]; exact c4) hzero
      refine ⟨.tuple #[],w',G,.inl ⟨run_builtin hop hc ?_,⟨[],rfl,.nil⟩⟩,hw',sn⟩
      rw [hargs]
      have a0:(#[Value.slice (some ⟨b',off',none⟩) len c']:Array Value)[0]? = some (.slice (some ⟨b',off',none⟩) len c'):=rfl
      cases len with
      | zero =>
        have hw0:w' = w:=by
          have:(Array.range (0 * sz')).map (zv.cells[· % zv.cells.size]!) = #[]:=by simp
          rw [hzs] at this
          simp only [Nat.zero_mul] at hrun
          simpa [storeCells,eq_comm] using hrun
        subst hw0
        simp [builtin,Builtin.clear_,h0,run_underlying hu]
      | succ m =>
        have ho:off' = off:=hoff (by omega)
        subst ho
        have hl:[Value.slice (some ⟨b',off',none⟩) (m + 1) c'].toArray = #[Value.slice (some ⟨b',off',none⟩) (m + 1) c']:=rfl
        rw [hl]
        simp only [builtin,Builtin.clear_,h0,a0,Sem.run_bind,run_underlying hu,Result.andThen_ok,run_zeroValue hz,Builtin.zeroCells,hzs]
        rw [hzs] at hrun
        simp only [hrun,Result.andThen_ok,Sem.run_pure]
  · cases h
theorem dop_ok (hs:SR G hp s a.tmps) (hw:WR G hp w) {v:AV×Heap} (h:dop E s hp o = some v):OkV G hp w ((execOp a.eval o).run E.P w) v:=by
  cases hop:o.op with
  | move x =>
    have h':=h
    simp only [dop,hop,Option.map_eq_some_iff] at h'
    obtain ⟨y,hy,rfl⟩:=h'
    exact op_move hs hw (.inl hop) hy
  | assign x =>
    have h':=h
    simp only [dop,hop,Option.map_eq_some_iff] at h'
    obtain ⟨y,hy,rfl⟩:=h'
    exact op_move hs hw (.inr hop) hy
  | pick c x y=>exact op_pick hs hw hop h
  | alloc t=>exact op_alloc hs hw hop h
  | box t x=>exact op_box hs hw hop h
  | build t ps=>exact op_build hs hw hop h
  | buildSlice t n ps=>exact op_buildSlice hs hw hop h
  | load t x=>exact op_load hs hw hop h
  | store t x y=>exact op_store hs hw hop h
  | nilCheck x=>exact op_nilCheck hs hw hop h
  | binOp op t x y u=>exact op_binOp hs hw hop h
  | unOp op t x=>exact op_unOp hs hw hop h
  | convert t u x=>exact op_convert hs hw hop h
  | makeInterface t x=>exact op_makeInterface hs hw hop h
  | makeFunc f x y=>exact op_makeFunc hs hw hop h
  | makeMap t x=>exact op_makeMap hs hw hop h
  | makeSlice t x y=>exact op_makeSlice hs hw hop h
  | slice t x lo hi mx=>exact op_slice hs hw hop h
  | fieldAddr t x f=>exact op_fieldAddr hs hw hop h
  | field t x f=>exact op_field hs hw hop h
  | indexAddr t x i=>exact op_indexAddr hs hw hop h
  | index t x i=>exact op_index hs hw hop h
  | lookup t x k ok=>exact op_lookup hs hw hop h
  | mapUpdate t x k y=>exact op_mapUpdate hs hw (.inl hop) h
  | insert t x k y=>exact op_mapUpdate hs hw (.inr hop) h
  | range t x=>exact op_range hs hw hop h
  | next x q=>exact op_next hs hw hop h
  | extract x i=>exact op_extract hs hw hop h
  | call c =>
    have h':=h
    simp only [dop,hop] at h'
    split at h'
    · rename_i b hb
      exact op_builtin hs hw hop hb h'
    · cases h'
  | _=>simp [dop,hop] at h
end
end Go.Ab
end
section
set_option linter.unusedVariables false
set_option linter.unusedSimpArgs false
namespace Go.Ab
open Go
structure Ren (τ:Nat→Option Nat) (G1:Gh) (hp1:Heap) (G2:Gh) (hp2:Heap):Prop where
  mu:G2.μ = G1.μ
  ob:∀ i k o,τ i = some k→hp1[i]? = some o→G2.β k = G1.β i∧∃ o',hp2[k]? = some o'∧o.ren τ = some o'
theorem renCs_eq {τ:Nat→Option Nat} {cs:List C}:renCs τ cs = cs.mapM (C.ren τ):=by
  unfold renCs
  split
  · rename_i h
    induction cs with
    | nil=>rfl
    | cons c cs ih =>
      simp only [plainCs,List.all_cons,Bool.and_eq_true] at h
      have hc:c.ren τ = some c:=by cases c <;> simp [C.isD] at h; rfl
      simp [hc,← ih h.2]
  · rfl
theorem ren_isRow {τ:Nat→Option Nat} {o o':Ob} (h:o.ren τ = some o'):o'.isRow = o.isRow:=by
  cases o <;> simp only [Ob.ren,Option.map_eq_some_iff,Option.some.injEq] at h
  · obtain ⟨_,_,rfl⟩:=h; rfl
  · subst h; rfl
  · obtain ⟨_,_,rfl⟩:=h; rfl
  · subst h; rfl
  · subst h; rfl
theorem ren_gone {τ:Nat→Option Nat} {o o':Ob} (h:o.ren τ = some o') (hg:o = .gone):o' = .gone:=by
  subst hg
  simpa [Ob.ren] using h.symm
theorem KR_ren {τ τ':Nat→Option Nat} {G0 G1 G0' G1':Gh} {i k:Nat} {o o2 o3 o4:Ob} (q3:o.ren τ = some o2) (q5:KR G0 G1 i o2 o3) (q7:o3.ren τ' = some o4) (h0:G0.β i = G0'.β k) (h1:G1.β i = G1'.β k) :
    KR G0' G1' k o o4:=by
  cases o <;> simp only [Ob.ren,Option.map_eq_some_iff,Option.some.injEq] at q3 <;> (first | (obtain ⟨_,_,rfl⟩:=q3) | subst q3) <;>
    cases o3 <;> simp only [Ob.ren,Option.map_eq_some_iff,Option.some.injEq] at q7 <;> (first | (obtain ⟨_,_,rfl⟩:=q7) | subst q7) <;> simp_all [KR]
theorem KR_ren2 {τ':Nat→Option Nat} {G0 G1 G1':Gh} {i:Nat} {o o3 o4:Ob} (q5:KR G0 G1 i o o3) (q7:o3.ren τ' = some o4) (h1:G1.β i = G1'.β i):KR G0 G1' i o o4:=by
  cases o <;> cases o3 <;> simp only [Ob.ren,Option.map_eq_some_iff,Option.some.injEq] at q7 <;> (first | (obtain ⟨_,_,rfl⟩:=q7) | subst q7) <;> simp_all [KR]
section
variable {τ:Nat→Option Nat} {G1 G2:Gh} {hp1 hp2:Heap}
theorem Isb.ren (r:Ren τ G1 hp1 G2 hp2) {i k b:Nat} (ht:τ i = some k) (h:Isb G1 hp1 i b):Isb G2 hp2 k b:=by
  obtain ⟨o,ho,hr,hb⟩:=h
  obtain ⟨e,o',ho',hren⟩:=r.ob i k o ht ho
  exact ⟨o',ho',by rw [ren_isRow hren,hr],hb.elim (fun h=>.inl (ren_gone hren h)) fun h=>.inr (by rw [e]; exact h)⟩
theorem CR.ren (r:Ren τ G1 hp1 G2 hp2) {x x':C} {v:Value} (hx:x.ren τ = some x') (h:CR G1 hp1 x v):CR G2 hp2 x' v:=by
  cases x with
  | d x=>simp only [C.ren,Option.some.injEq] at hx; subst hx; simp only [CR,r.mu] at h ⊢; exact h
  | own nl es k =>
    simp only [C.ren,Option.map_eq_some_iff] at hx
    obtain ⟨k',hk,rfl⟩:=hx
    obtain ⟨hd,n,sz,hn,hle,hc⟩:=h
    obtain ⟨e,o',ho',hren⟩:=r.ob k k' _ hk hn
    simp only [Ob.ren,Option.some.injEq] at hren
    subst hren
    exact ⟨by rw [r.mu]; exact hd,n,sz,ho',hle,fun hh=>by rw [e]; exact hc hh⟩
  | slc k off sz len cap =>
    simp only [C.ren,Option.map_eq_some_iff] at hx
    obtain ⟨k',hk,rfl⟩:=hx
    obtain ⟨b,c,o,hi,r1,r2,r3,r4,r5⟩:=h
    obtain ⟨ob,hob,_⟩:=id hi
    obtain ⟨e,o',ho',hren⟩:=r.ob k k' ob hk hob
    refine ⟨b,c,o,hi.ren r hk,r1,r2,r3,r4,fun hn hc=>?_⟩
    rcases r5 hn hc with h | h
    · rw [hob] at h
      cases h
      exact .inl (by rw [ho',ren_gone hren rfl])
    · exact .inr (by rw [e]; exact h)
  | ptr k off =>
    simp only [C.ren,Option.map_eq_some_iff] at hx
    obtain ⟨k',hk,rfl⟩:=hx
    obtain ⟨b,hi,h⟩:=h
    exact ⟨b,hi.ren r hk,h⟩
  | any=>simp only [C.ren,Option.some.injEq] at hx; subst hx; exact h
  | nn=>simp only [C.ren,Option.some.injEq] at hx; subst hx; exact h
  | nw es=>simp [C.ren] at hx
  | cptr cs off =>
    simp only [C.ren,Option.some.injEq] at hx
    subst hx
    obtain ⟨b,o,hv,vs,h⟩:=h
    exact ⟨b,o,hv,vs,by rw [r.mu]; exact h⟩
  | mp k =>
    simp only [C.ren,Option.map_eq_some_iff] at hx
    obtain ⟨k',hk,rfl⟩:=hx
    obtain ⟨b,hi,h⟩:=h
    exact ⟨b,hi.ren r hk,h⟩
  | it k =>
    simp only [C.ren,Option.map_eq_some_iff] at hx
    obtain ⟨k',hk,rfl⟩:=hx
    obtain ⟨b,hi,h⟩:=h
    exact ⟨b,hi.ren r hk,h⟩
  | fn f caps =>
    simp only [C.ren,Option.map_eq_some_iff] at hx
    obtain ⟨caps',hc,rfl⟩:=hx
    obtain ⟨vs,hv,h⟩:=h
    refine ⟨vs,hv,?_⟩
    have h2:=(mapM_all2 hc).flip
    clear hv hc
    induction h2 generalizing vs with
    | nil=>cases h; exact .nil
    | cons hq _ ih =>
      cases h with
      | cons a t =>
        refine .cons ?_ (ih _ t)
        simp only [Option.map_eq_some_iff] at hq
        obtain ⟨k',hk,rfl⟩:=hq
        obtain ⟨b,hi,e⟩:=a
        exact ⟨b,hi.ren r hk,e⟩
theorem cells_ren (r:Ren τ G1 hp1 G2 hp2) {cs cs':List C} {vs:List Value} (hx:cs.mapM (C.ren τ) = some cs') (h:All2 (CR G1 hp1) cs vs):All2 (CR G2 hp2) cs' vs:=by
  have h2:=mapM_all2 hx
  clear hx
  induction h2 generalizing vs with
  | nil=>cases h; exact .nil
  | cons hq _ ih=>cases h with
    | cons a t=>exact .cons (CR.ren r hq a) (ih t)
theorem VR.ren (r:Ren τ G1 hp1 G2 hp2) {x x':V1} {v:Value} (hx:x.ren τ = some x') (h:VR G1 hp1 x v):VR G2 hp2 x' v:=by
  cases x with
  | c x=>simp only [V1.ren,Option.map_eq_some_iff] at hx; obtain ⟨y,hy,rfl⟩:=hx; exact CR.ren r hy h
  | agg cs =>
    simp only [V1.ren,Option.map_eq_some_iff] at hx
    obtain ⟨cs',hc,rfl⟩:=hx
    obtain ⟨vs,hv,h⟩:=h
    exact ⟨vs,hv,cells_ren r hc h⟩
theorem V1s_ren (r:Ren τ G1 hp1 G2 hp2) {xs xs':List V1} {vs:List Value} (hx:xs.mapM (V1.ren τ) = some xs') (h:All2 (VR G1 hp1) xs vs):All2 (VR G2 hp2) xs' vs:=by
  have h2:=mapM_all2 hx
  clear hx
  induction h2 generalizing vs with
  | nil=>cases h; exact .nil
  | cons hq _ ih=>cases h with
    | cons a t=>exact .cons (VR.ren r hq a) (ih t)
theorem AR.ren (r:Ren τ G1 hp1 G2 hp2) {x x':AV} {v:Value} (hx:x.ren τ = some x') (h:AR G1 hp1 x v):AR G2 hp2 x' v:=by
  cases x with
  | v x=>simp only [AV.ren,Option.map_eq_some_iff] at hx; obtain ⟨y,hy,rfl⟩:=hx; exact VR.ren r hy h
  | tup xs =>
    simp only [AV.ren,Option.map_eq_some_iff] at hx
    obtain ⟨xs',hc,rfl⟩:=hx
    obtain ⟨vs,hv,h⟩:=h
    exact ⟨vs,hv,V1s_ren r hc h⟩
  | dead=>simp only [AV.ren,Option.some.injEq] at hx; subst hx; trivial
theorem OR.ren (r:Ren τ G1 hp1 G2 hp2) {w:World} {i k:Nat} {o o':Ob} (hb:G2.β k = G1.β i) (ho:o.ren τ = some o') (h:OR G1 hp1 w i o):OR G2 hp2 w k o':=by
  cases o with
  | cells cs =>
    simp only [Ob.ren,Option.map_eq_some_iff] at ho
    obtain ⟨cs',hc,rfl⟩:=ho
    rw [renCs_eq] at hc
    obtain ⟨b,vs,t,fz,h1,h2,h3,h4,h5,h6,h7⟩:=h
    have hl:=mapM_len hc
    refine ⟨b,vs,t,fz,by rw [hb]; exact h1,h2,h3,by omega,fun j c v hcj hv=>?_,by rw [r.mu]; exact h6,by rw [hb]; exact h7⟩
    obtain ⟨c0,hc0,hren⟩:=(mapM_all2 hc).flip.get hcj
    exact CR.ren r hren (h5 j c0 v hc0 hv)
  | row n sz =>
    simp only [Ob.ren,Option.some.injEq] at ho
    subst ho
    simp only [OR] at h ⊢
    rw [hb,r.mu]
    exact h
  | amap kvs =>
    simp only [Ob.ren,Option.map_eq_some_iff] at ho
    obtain ⟨kvs',hc,rfl⟩:=ho
    obtain ⟨b,es,clock,h1,h2,h3,h4⟩:=h
    refine ⟨b,es,clock,by rw [hb,h1],h2,?_,by rw [r.mu]; exact h4⟩
    have hq:=mapM_all2 hc
    clear hc h2
    generalize es.toList = l at h3
    induction hq generalizing l with
    | nil=>cases h3; exact .nil
    | cons hq _ ih =>
      cases h3 with
      | cons a t =>
        simp only [Option.map_eq_some_iff] at hq
        obtain ⟨x,hx,rfl⟩:=hq
        exact .cons ⟨a.1,VR.ren r hx a.2⟩ (ih _ t)
  | siter s p =>
    simp only [Ob.ren,Option.some.injEq] at ho
    subst ho
    obtain ⟨b,h1,h2,h3⟩:=h
    exact ⟨b,by rw [hb,h1],h2,by rw [r.mu]; exact h3⟩
  | gone =>
    simp only [Ob.ren,Option.some.injEq] at ho
    subst ho
    exact hb.trans h
end
def subG (G:Gh) (σ:List Nat) (lo:Nat):Gh:=⟨fun i=>match σ[i]? with | some k=>G.β k | none=>.none,G.μ,lo⟩
theorem idxOf?_get {σ:List Nat} {k i:Nat} (h:σ.idxOf? k = some i):σ[i]? = some k:=by
  induction σ generalizing i with
  | nil=>simp at h
  | cons a σ ih =>
    rw [List.idxOf?_cons] at h
    split at h
    · rename_i e
      cases h
      simpa using e
    · simp only [Option.map_eq_some_iff] at h
      obtain ⟨j,hj,rfl⟩:=h
      simpa using ih hj
theorem idxOf?_of_mem {σ:List Nat} {k:Nat} (h:k ∈ σ):∃ i,σ.idxOf? k = some i:=by
  induction σ with
  | nil=>simp at h
  | cons a σ ih =>
    rw [List.idxOf?_cons]
    by_cases e:a = k
    · exact ⟨0,by simp [e]⟩
    · rcases List.mem_cons.1 h with h | h
      · exact (e h.symm).elim
      · obtain ⟨i,hi⟩:=ih h
        exact ⟨i + 1,by simp [e,hi]⟩
theorem nodup_get {σ:List Nat} (hn:σ.Nodup) {i j k:Nat} (hi:σ[i]? = some k) (hj:σ[j]? = some k):i = j:=by
  have h1:=lt_of_get hi
  have h2:=lt_of_get hj
  rw [List.getElem?_eq_getElem h1,Option.some.injEq] at hi
  rw [List.getElem?_eq_getElem h2,Option.some.injEq] at hj
  have hp:=List.pairwise_iff_getElem.1 hn
  rcases Nat.lt_trichotomy i j with h | h | h
  · exact (hp i j h1 h2 h (hi.trans hj.symm)).elim
  · exact h
  · exact (hp j i h2 h1 h (hj.trans hi.symm)).elim
theorem idxOf?_nodup {σ:List Nat} (hn:σ.Nodup) {i k:Nat} (h:σ[i]? = some k):σ.idxOf? k = some i:=by
  obtain ⟨j,hj⟩:=idxOf?_of_mem (List.mem_of_getElem? h)
  rw [hj,nodup_get hn (idxOf?_get hj) h]
theorem close_nodup (hp:Heap):∀ n seen todo,seen.Nodup→(close hp n seen todo).Nodup:=by
  intro n
  induction n with
  | zero=>intro seen todo h; exact h
  | succ n ih =>
    intro seen todo h
    cases todo with
    | nil=>exact h
    | cons k ks =>
      simp only [close]
      split
      · exact ih _ _ h
      · rename_i hk
        refine ih _ _ ?_
        rw [List.nodup_append]
        exact ⟨h,by simp,fun a ha b hb=>by simp at hb; subst hb; rintro rfl; exact hk ha⟩
theorem closeM_nodup (m:Nat) (hp:Heap) (l:List Nat):(closeM m hp l).Nodup:=close_nodup hp _ _ _ List.nodup_range
theorem restrict_get {σ:List Nat} {hp h:Heap} (hr:restrict σ hp = some h) {i k:Nat} (hi:σ[i]? = some k):∃ o o',hp[k]? = some o∧h[i]? = some o'∧o.ren (fun j=>σ.idxOf? j) = some o':=by
  obtain ⟨o',ho',hb⟩:=(mapM_all2 hr).get hi
  simp only [Option.bind_eq_some_iff] at hb
  obtain ⟨o,ho,hren⟩:=hb
  exact ⟨o,o',ho,ho',hren⟩
theorem restrict_len {σ:List Nat} {hp h:Heap} (hr:restrict σ hp = some h):h.length = σ.length:=mapM_len hr
theorem sub_ren {G:Gh} {σ:List Nat} {lo:Nat} {hp h:Heap} (hr:restrict σ hp = some h):Ren (fun j=>σ.idxOf? j) G hp (subG G σ lo) h:=by
  refine ⟨rfl,fun i k o ht ho=>?_⟩
  have hk:=idxOf?_get ht
  obtain ⟨o1,o',h1,h2,h3⟩:=restrict_get hr hk
  rw [ho] at h1
  cases h1
  refine ⟨?_,o',h2,h3⟩
  simp [subG,hk]
theorem sub_WR {G:Gh} {σ:List Nat} {lo:Nat} {hp h:Heap} {w:World} (hlo:lo≤w.heap.size) (hn:σ.Nodup) (hr:restrict σ hp = some h) (hw:WR G hp w):WR (subG G σ lo) h w:=by
  refine ⟨hw.mu,fun i o' ho'=>?_,fun i j b hi hj h1 h2=>?_,hlo⟩
  · have hi:=lt_of_get ho'
    rw [restrict_len hr] at hi
    have hk:σ[i]? = some σ[i]:=List.getElem?_eq_getElem hi
    obtain ⟨o,o2,h1,h2,h3⟩:=restrict_get hr hk
    rw [ho'] at h2
    cases h2
    exact (hw.ob _ _ h1).ren (sub_ren hr) (by simp [subG,hk]) h3
  · rw [restrict_len hr] at hi hj
    have ei:σ[i]? = some σ[i]:=List.getElem?_eq_getElem hi
    have ej:σ[j]? = some σ[j]:=List.getElem?_eq_getElem hj
    simp only [subG,ei,ej] at h1 h2
    obtain ⟨o1,_,q1,_⟩:=restrict_get hr ei
    obtain ⟨o2,_,q2,_⟩:=restrict_get hr ej
    have:=hw.inj _ _ b (lt_of_get q1) (lt_of_get q2) h1 h2
    rw [this] at ei
    exact nodup_get hn ei ej
def backG (G G':Gh) (σ:List Nat) (n:Nat):Gh :=
  ⟨fun k=>if k < n then (match σ.idxOf? k with | some i=>G'.β i | none=>G.β k) else G'.β (σ.length + (k - n)),G'.μ,G.lo⟩
def backτ (σ:List Nat) (n:Nat):Nat→Option Nat:=fun i=>some (if i < σ.length then σ.getD i 0 else n + (i - σ.length))
def backH (σ:List Nat) (hp h2:Heap):Heap:=(σ.zip h2).foldl (fun acc p=>acc.set p.1 p.2) hp ++ h2.drop σ.length
theorem foldl_set_len:∀ (l:List (Nat×Ob)) (hp:Heap),(l.foldl (fun acc p=>acc.set p.1 p.2) hp:Heap).length = hp.length:=by
  intro l
  induction l with
  | nil=>intro hp; rfl
  | cons p l ih=>intro hp; simp only [List.foldl_cons]; rw [ih]; simp
theorem foldl_set_ne:∀ (l:List (Nat×Ob)) (hp:Heap) (k:Nat),(∀ p ∈ l,p.1 ≠ k)→(l.foldl (fun acc p=>acc.set p.1 p.2) hp:Heap)[k]? = hp[k]? := by
  intro l
  induction l with
  | nil=>intro hp k _; rfl
  | cons p l ih =>
    intro hp k h
    simp only [List.foldl_cons]
    rw [ih _ _ fun q hq=>h q (List.mem_cons_of_mem _ hq),List.getElem?_set_ne (h p List.mem_cons_self)]
theorem foldl_set_eq:∀ (σ:List Nat) (h2 hp:Heap) (i k:Nat) (o:Ob),σ.Nodup→σ[i]? = some k→h2[i]? = some o→k < hp.length →
    ((σ.zip h2).foldl (fun acc p=>acc.set p.1 p.2) hp:Heap)[k]? = some o:=by
  intro σ
  induction σ with
  | nil=>intro h2 hp i k o _ h; simp at h
  | cons a σ ih =>
    intro h2 hp i k o hn hi ho hk
    cases h2 with
    | nil=>simp at ho
    | cons b h2 =>
      simp only [List.zip_cons_cons,List.foldl_cons]
      have hn':=List.nodup_cons.1 hn
      cases i with
      | zero =>
        simp only [List.getElem?_cons_zero,Option.some.injEq] at hi ho
        subst hi ho
        rw [foldl_set_ne]
        · exact List.getElem?_set_self hk
        · intro p hp' e
          have:=(List.of_mem_zip hp').1
          rw [e] at this
          exact hn'.1 this
      | succ i =>
        exact ih h2 _ i k o hn'.2 (by simpa using hi) (by simpa using ho) (by simpa using hk)
theorem call_back {G G':Gh} {σ:List Nat} {hp h h' h2:Heap} {w w':World} (hn:σ.Nodup) (hw:WR G hp w) (hr:restrict σ hp = some h) (sn:Sn (subG G σ w.heap.size) h w G' h' w') (hw':WR G' h' w')
    (hb:h'.mapM (Ob.ren (backτ σ hp.length)) = some h2) :
    Ren (backτ σ hp.length) G' h' (backG G G' σ hp.length) (backH σ hp h2)∧WR (backG G G' σ hp.length) (backH σ hp h2) w'∧Sn G hp w (backG G G' σ hp.length) (backH σ hp h2) w':=by
  have hσ:=restrict_len hr
  have hle:σ.length≤h'.length:=by
    rcases Nat.lt_or_ge h'.length σ.length with hlt | hge
    · obtain ⟨o,o',_,q2,_⟩:=restrict_get hr (i:=h'.length) (k:=σ[h'.length]) (List.getElem?_eq_getElem hlt)
      obtain ⟨o2,e2,_⟩:=sn.kind _ _ q2
      simp at e2
    · exact hge
  have h2l:=mapM_len hb
  have hin:∀ i k,σ[i]? = some k→k < hp.length:=fun i k h=>by
    obtain ⟨o,_,q,_⟩:=restrict_get hr h
    exact lt_of_get q
  have blen:(backH σ hp h2).length = hp.length + (h2.length - σ.length):=by
    simp only [backH,List.length_append,foldl_set_len,List.length_drop]
  have atIn:∀ i k o,σ[i]? = some k→h2[i]? = some o→(backH σ hp h2)[k]? = some o:=fun i k o hi ho=>by
    have hk:=hin i k hi
    rw [backH,List.getElem?_append_left (by rw [foldl_set_len]; exact hk)]
    exact foldl_set_eq σ h2 hp i k o hn hi ho hk
  have atOut:∀ k,k < hp.length→k ∉ σ→(backH σ hp h2)[k]? = hp[k]? := fun k hk hns=>by
    rw [backH,List.getElem?_append_left (by rw [foldl_set_len]; exact hk),foldl_set_ne]
    intro p hp' e
    exact hns (e ▸ (List.of_mem_zip hp').1)
  have atNew:∀ i o,σ.length≤i→h2[i]? = some o→(backH σ hp h2)[hp.length + (i - σ.length)]? = some o:=fun i o hi ho=>by
    rw [backH,List.getElem?_append_right (by rw [foldl_set_len]; omega),foldl_set_len,List.getElem?_drop]
    rw [← ho]
    congr 1
    omega
  have bIn:∀ i k,σ[i]? = some k→(backG G G' σ hp.length).β k = G'.β i:=fun i k hi=>by
    simp [backG,hin i k hi,idxOf?_nodup hn hi]
  have bOut:∀ k,k < hp.length→k ∉ σ→(backG G G' σ hp.length).β k = G.β k:=fun k hk hns=>by
    simp only [backG,hk,if_true]
    cases e:σ.idxOf? k with
    | none=>rfl
    | some i=>exact (hns (List.mem_of_getElem? (idxOf?_get e))).elim
  have bNew:∀ i,σ.length≤i→(backG G G' σ hp.length).β (hp.length + (i - σ.length)) = G'.β i:=fun i hi=>by
    simp only [backG]
    rw [if_neg (by omega)]
    congr 1
    omega
  have ren:Ren (backτ σ hp.length) G' h' (backG G G' σ hp.length) (backH σ hp h2):=by
    refine ⟨rfl,fun i k o ht ho=>?_⟩
    obtain ⟨o',ho',hren⟩:=(mapM_all2 hb).get ho
    simp only [backτ,Option.some.injEq] at ht
    subst ht
    by_cases hi:i < σ.length
    · have hs:σ[i]? = some (σ.getD i 0):=by simp [List.getD,List.getElem?_eq_getElem hi]
      rw [if_pos hi]
      exact ⟨bIn i _ hs,o',atIn i _ _ hs ho',hren⟩
    · rw [if_neg hi]
      exact ⟨bNew i (by omega),o',atNew i _ (by omega) ho',hren⟩
  have kinds:∀ k,k < (backH σ hp h2).length→(∃ i,σ[i]? = some k∧i < h'.length)∨(k < hp.length∧k ∉ σ)∨(∃ i,σ.length≤i∧i < h'.length∧k = hp.length + (i - σ.length)):=fun k hk=>by
    rw [blen] at hk
    by_cases h1:k < hp.length
    · by_cases h2:k ∈ σ
      · obtain ⟨i,hi⟩:=idxOf?_of_mem h2
        have:=idxOf?_get hi
        exact .inl ⟨i,this,by have:=lt_of_get this; omega⟩
      · exact .inr (.inl ⟨h1,h2⟩)
    · exact .inr (.inr ⟨σ.length + (k - hp.length),by omega,by omega,by omega⟩)
  have subAt:∀ i b,i < h.length→((subG G σ w.heap.size).β i).at b→∃ k,k ∈ σ∧k < hp.length∧(G.β k).at b:=fun i b hi hat=>by
    rw [hσ] at hi
    have hs:σ[i]? = some σ[i]:=List.getElem?_eq_getElem hi
    simp only [subG,hs] at hat
    exact ⟨_,List.getElem_mem hi,hin i _ hs,hat⟩
  have snn:Sn G hp w (backG G G' σ hp.length) (backH σ hp h2) w':=by
    refine ⟨sn.mu,fun b i hm=>?_,fun k b hk hat=>?_,fun b hb' _ hno=>?_,sn.size,fun k o ho=>?_,sn.io,rfl⟩
    · rcases sn.muNew b i hm with q | q | ⟨j,hj,q⟩
      · exact .inl q
      · exact .inr (.inl q)
      · obtain ⟨k,_,hk,hat⟩:=subAt j b hj q
        exact .inr (.inr ⟨k,hk,hat⟩)
    · have fromCallee:∀ i,i < h'.length→(G'.β i).at b→w.heap.size≤b∨∃ k',k' < hp.length∧(G.β k').at b:=fun i hi q=>by
        rcases sn.bdNew i b hi q with q | ⟨j,hj,q⟩
        · exact .inl q
        · obtain ⟨k,_,hk,hat⟩:=subAt j b hj q
          exact .inr ⟨k,hk,hat⟩
      rcases kinds k hk with ⟨i,hi,hil⟩ | ⟨h1,h2⟩ | ⟨i,hi,hil,rfl⟩
      · rw [bIn i k hi] at hat; exact fromCallee i hil hat
      · rw [bOut k h1 h2] at hat; exact .inr ⟨k,h1,hat⟩
      · rw [bNew i hi] at hat; exact fromCallee i hil hat
    · refine sn.same b hb' (.inl hb') fun i hi hat=>?_
      obtain ⟨k,_,hk,hat⟩:=subAt i b hi hat
      exact hno k hk hat
    · have hk:=lt_of_get ho
      by_cases hs:k ∈ σ
      · obtain ⟨i,hi⟩:=idxOf?_of_mem hs
        have hi:=idxOf?_get hi
        obtain ⟨o1,o2,q1,q2,q3⟩:=restrict_get hr hi
        rw [ho] at q1
        cases q1
        obtain ⟨o3,q4,q5⟩:=sn.kind i o2 q2
        obtain ⟨o4,q6,q7⟩:=(mapM_all2 hb).get q4
        refine ⟨o4,atIn i k o4 hi q6,?_⟩
        have hβ:(subG G σ w.heap.size).β i = G.β k:=by simp [subG,hi]
        have hβ':=bIn i k hi
        exact KR_ren q3 q5 q7 hβ hβ'.symm
      · refine ⟨o,by rw [atOut k hk hs]; exact ho,?_⟩
        have:=bOut k hk hs
        cases o <;> simp [KR,this]
  refine ⟨ren,⟨hw'.mu,fun k o ho=>?_,fun k k' b hk hk' h1 h2'=>?_,Nat.le_trans hw.lo sn.size⟩,snn⟩
  · rcases kinds k (lt_of_get ho) with ⟨i,hi,hil⟩ | ⟨h1,h2'⟩ | ⟨i,hi,hil,rfl⟩
    · have e1:h'[i]? = some h'[i]:=List.getElem?_eq_getElem hil
      obtain ⟨o',q1,q2⟩:=(mapM_all2 hb).get e1
      rw [atIn i k o' hi q1] at ho
      cases ho
      exact (hw'.ob i _ e1).ren ren (bIn i k hi) q2
    · rw [atOut k h1 h2'] at ho
      refine (hw.ob k o ho).keep snn (bOut k h1 h2') (fun b hat=>?_) fun b i hat hm=>?_
      · refine sn.same b (hw.at_lt h1 hat) (.inl (hw.at_lt h1 hat)) fun j hj hat'=>?_
        obtain ⟨k2,hk2,hk2l,hat2⟩:=subAt j b hj hat'
        exact h2' (hw.inj k k2 b h1 hk2l hat hat2 ▸ hk2)
      · show G'.μ b i = none
        cases e:G'.μ b i with
        | none=>rfl
        | some v =>
          rcases sn.muNew b i (by rw [e]; simp) with q | q | ⟨j,hj,q⟩
          · exact (q hm).elim
          · have:=hw.at_lt h1 hat; omega
          · obtain ⟨k2,hk2,hk2l,hat2⟩:=subAt j b hj q
            exact (h2' (hw.inj k k2 b h1 hk2l hat hat2 ▸ hk2)).elim
    · have e1:h'[i]? = some h'[i]:=List.getElem?_eq_getElem hil
      obtain ⟨o',q1,q2⟩:=(mapM_all2 hb).get e1
      rw [atNew i o' hi q1] at ho
      cases ho
      exact (hw'.ob i _ e1).ren ren (bNew i hi) q2
  · have clash:∀ i k,i < h'.length→(G'.β i).at b→k < hp.length→k ∉ σ→(G.β k).at b→False:=fun i k hil q hk hns hat=>by
      rcases sn.bdNew i b hil q with q | ⟨j,hj,q⟩
      · have:=hw.at_lt hk hat; omega
      · obtain ⟨k2,hk2,hk2l,hat2⟩:=subAt j b hj q
        exact hns (hw.inj k k2 b hk hk2l hat hat2 ▸ hk2)
    rcases kinds k hk with ⟨i,hi,hil⟩ | ⟨q1,q2⟩ | ⟨i,hi,hil,rfl⟩ <;> rcases kinds k' hk' with ⟨i',hi',hil'⟩ | ⟨q1',q2'⟩ | ⟨i',hi',hil',rfl⟩
    · rw [bIn i k hi] at h1
      rw [bIn i' k' hi'] at h2'
      have:=hw'.inj i i' b hil hil' h1 h2'
      subst this
      rw [hi] at hi'
      cases hi'
      rfl
    · rw [bIn i k hi] at h1; rw [bOut k' q1' q2'] at h2'; exact (clash i k' hil h1 q1' q2' h2').elim
    · rw [bIn i k hi] at h1
      rw [bNew i' hi'] at h2'
      have:=hw'.inj i i' b hil hil' h1 h2'
      have:=lt_of_get hi
      omega
    · rw [bOut k q1 q2] at h1; rw [bIn i' k' hi'] at h2'; exact (clash i' k hil' h2' q1 q2 h1).elim
    · rw [bOut k q1 q2] at h1; rw [bOut k' q1' q2'] at h2'; exact hw.inj k k' b q1 q1' h1 h2'
    · rw [bOut k q1 q2] at h1; rw [bNew i' hi'] at h2'; exact (clash i' k hil' h2' q1 q2 h1).elim
    · rw [bNew i hi] at h1
      rw [bIn i' k' hi'] at h2'
      have:=hw'.inj i i' b hil hil' h1 h2'
      have:=lt_of_get hi'
      omega
    · rw [bNew i hi] at h1; rw [bOut k' q1' q2'] at h2'; exact (clash i k' hil h1 q1' q2' h2').elim
    · rw [bNew i hi] at h1
      rw [bNew i' hi'] at h2'
      have:=hw'.inj i i' b hil hil' h1 h2'
      omega
end Go.Ab
end
