/- Structs and slices built; strings turned into bytes and back; slices made and cut. -/
import Derived.Test.YteenmbcmgcnkmaaGreatDoorAb9
set_option linter.unusedVariables false
set_option linter.unusedSimpArgs false
namespace Go.Ab
open Go

section
variable {E : Env} {G : Gh} {hp : Heap} {s : Nat → AV} {a : Act} {w : World} {o : Oper}

theorem toD_rel {c : C} {d : D} (h : c.toD = some d) {v : Value} (r : CR G hp c v) : DR G.μ d v := by
  cases c with
  | d x => simp only [C.toD, Option.some.injEq] at h; subst h; exact r
  | own nl es k => simp only [C.toD, Option.some.injEq] at h; subst h; exact r.1
  | _ => simp [C.toD] at h

theorem CR_of_D {d : D} {v : Value} (r : DR G.μ d v) : CR G hp (.d d) v := r

/-- a new row that nobody else knows: what it reads as -/
theorem new_own {w' : World} {es : List (List D)} {cells : Array Value} {t : TypeId} {fz : Nat × Nat} {sz cap : Nat} {bd : Bd} (hw : WR G hp w) (hh : w'.heap = w.heap.push (.cells cells t fz)) (hf : Fz fz cells.size)
    (h0 : 0 < sz) (hcap : es.length ≤ cap) (hsz : ∀ e ∈ es, e.length = sz) (hcs : cap * sz ≤ cells.size)
    (hbd : bd = .none ∧ es.length = cap ∨ bd = .tail w.heap.size 0 sz cap)
    (hv : ∀ i j e c, es[i]? = some e → e[j]? = some c → ∃ v, cells[i * sz + j]? = some v ∧ DR G.μ c v) (hio : Io w w' := by first | exact ⟨rfl, rfl, rfl⟩ | assumption) :
    ∃ G', WR G' (hp ++ [.row es.length sz]) w' ∧ Sn G hp w G' (hp ++ [.row es.length sz]) w' ∧ CR G' (hp ++ [.row es.length sz]) (.own false es hp.length) (.slice (some ⟨w.heap.size, 0, none⟩) es.length cap) := by
  have hb : w'.heap[w.heap.size]? = some (.cells cells t fz) := by rw [hh]; simp
  have hle : es.length * sz ≤ cap * sz := Nat.mul_le_mul_right sz hcap
  have hlen : (cells.toList.take (es.length * sz)).length = es.length * sz := by simp; omega
  have mono : ∀ b i v, G.μ b i = some v → layμ G.μ w.heap.size 0 (cells.toList.take (es.length * sz)) b i = some v := by
    intro b i v h
    have := hw.mu_lt h
    unfold layμ
    rw [if_neg (by omega)]
    exact h
  obtain ⟨sn, k⟩ := push_ok (o := .row es.length sz) (bd := bd) (μ' := layμ G.μ w.heap.size 0 (cells.toList.take (es.length * sz))) hw hh
    (fun b h => by rcases hbd with ⟨rfl, _⟩ | rfl <;> simp [Bd.at] at h; exact h.symm) mono
    (fun b i h => by
      unfold layμ at h
      split at h
      · rename_i hc; exact .inr hc.1
      · exact .inl h)
    (fun i v h => by
      unfold layμ at h
      split at h
      · rename_i hc
        rw [cell_at hb]
        rw [hlen] at hc
        rw [List.getElem?_take, if_pos (by omega)] at h
        simpa using h
      · rw [mu_self hw] at h; cases h)
  refine ⟨_, k ?_, sn, ?_, es.length, sz, by simp, Nat.le_refl _, fun _ => ?_⟩
  · simp only [OR, if_true]
    rcases hbd with ⟨rfl, _⟩ | rfl
    · trivial
    · refine ⟨rfl, ⟨cells, t, fz, hb, hf, by omega⟩, hcap, h0, fun i hi => ?_⟩
      unfold layμ
      rw [if_neg (by omega)]
      exact mu_self hw i
  · refine DR.mk rfl hcap hsz fun i j e c he hc => ?_
    obtain ⟨v, h1, h2⟩ := hv i j e c he hc
    refine ⟨v, ?_, h2.mono mono⟩
    have hi := lt_of_get he
    have hj := lt_of_get hc
    rw [hsz e (List.mem_of_getElem? he)] at hj
    have hij : i * sz + j < es.length * sz := by
      have : (i + 1) * sz ≤ es.length * sz := Nat.mul_le_mul_right sz hi
      rw [Nat.add_mul] at this
      omega
    show layμ G.μ w.heap.size 0 (cells.toList.take (es.length * sz)) w.heap.size (0 + i * sz + j) = some v
    unfold layμ
    rw [hlen, if_pos (by omega), List.getElem?_take, if_pos (by omega)]
    simpa using h1
  · show CapR (if hp.length = hp.length then bd else _) es _
    rw [if_pos rfl]
    rcases hbd with ⟨rfl, h⟩ | rfl
    · exact ⟨_, by rw [h]⟩
    · exact ⟨rfl, hsz⟩

/-- a new list that never changes -/
theorem new_lst {w' : World} {es : List (List D)} {cells : Array Value} {t : TypeId} {fz : Nat × Nat} {sz cap : Nat} (hw : WR G hp w) (hh : w'.heap = w.heap.push (.cells cells t fz)) (hcap : es.length ≤ cap)
    (hsz : ∀ e ∈ es, e.length = sz) (hcs : es.length * sz ≤ cells.size)
    (hv : ∀ i j e c, es[i]? = some e → e[j]? = some c → ∃ v, cells[i * sz + j]? = some v ∧ DR G.μ c v) (hio : Io w w' := by first | exact ⟨rfl, rfl, rfl⟩ | assumption) :
    ∃ G', WR G' hp w' ∧ Sn G hp w G' hp w' ∧ CR G' hp (.d (.lst false es)) (.slice (some ⟨w.heap.size, 0, none⟩) es.length cap) := by
  have hb : w'.heap[w.heap.size]? = some (.cells cells t fz) := by rw [hh]; simp
  have hlen : (cells.toList.take (es.length * sz)).length = es.length * sz := by simp; omega
  have mono : ∀ b i v, G.μ b i = some v → layμ G.μ w.heap.size 0 (cells.toList.take (es.length * sz)) b i = some v := by
    intro b i v h
    have := hw.mu_lt h
    unfold layμ
    rw [if_neg (by omega)]
    exact h
  obtain ⟨sn, k⟩ := push_mu (μ' := layμ G.μ w.heap.size 0 (cells.toList.take (es.length * sz))) hw hh mono
    (fun b i h => by
      unfold layμ at h
      split at h
      · rename_i hc; exact .inr hc.1
      · exact .inl h)
    (fun i v h => by
      unfold layμ at h
      split at h
      · rename_i hc
        rw [cell_at hb]
        rw [hlen] at hc
        rw [List.getElem?_take, if_pos (by omega)] at h
        simpa using h
      · rw [mu_self hw] at h; cases h)
  refine ⟨_, k, sn, ?_⟩
  refine DR.mk rfl hcap hsz fun i j e c he hc => ?_
  obtain ⟨v, h1, h2⟩ := hv i j e c he hc
  refine ⟨v, ?_, h2.mono mono⟩
  have hi := lt_of_get he
  have hj := lt_of_get hc
  rw [hsz e (List.mem_of_getElem? he)] at hj
  have hij : i * sz + j < es.length * sz := by
    have : (i + 1) * sz ≤ es.length * sz := Nat.mul_le_mul_right sz hi
    rw [Nat.add_mul] at this
    omega
  show layμ G.μ w.heap.size 0 (cells.toList.take (es.length * sz)) w.heap.size (0 + i * sz + j) = some v
  unfold layμ
  rw [hlen, if_pos (by omega), List.getElem?_take, if_pos (by omega)]
  simpa using h1

theorem chunk_length {α : Type} (sz n : Nat) (l : List α) : (chunk sz n l).length = n := by
  induction n generalizing l with
  | zero => rfl
  | succ n ih => simp [chunk, ih]
theorem chunk_get {α : Type} (sz n : Nat) (l : List α) (i : Nat) (hi : i < n) : (chunk sz n l)[i]? = some ((l.drop (i * sz)).take sz) := by
  induction n generalizing l i with
  | zero => omega
  | succ n ih =>
    cases i with
    | zero => simp [chunk]
    | succ i => simp only [chunk, List.getElem?_cons_succ]; rw [ih _ _ (by omega)]; simp [Nat.add_mul, Nat.add_comm]
theorem chunk_all {α : Type} {sz n : Nat} {l : List α} (hl : n * sz ≤ l.length) : ∀ e ∈ chunk sz n l, e.length = sz := by
  intro e he
  obtain ⟨i, hi⟩ := List.getElem?_of_mem he
  have := lt_of_get hi
  rw [chunk_length] at this
  rw [chunk_get _ _ _ _ this] at hi
  cases hi
  have h2 : (i + 1) * sz ≤ n * sz := Nat.mul_le_mul_right sz this
  rw [Nat.add_mul] at h2
  simp
  omega

/-! ### parts laid into cells -/
theorem foldl_wr {R : C → Value → Prop} (off : Nat) : ∀ (vs : List Value) (xs : List C) (n : Nat) (cs : List C) (cells : Array Value), All2 R cs cells.toList → All2 R xs vs →
    All2 R (wr cs (off + n) xs) ((vs.zipIdx n).foldl (fun (cs : Array Value) (p : Value × Nat) => cs.setIfInBounds (off + p.2) p.1) cells).toList := by
  intro vs
  induction vs with
  | nil => intro xs n cs cells h hx; cases hx; rw [wr_nil]; exact h
  | cons v vs ih =>
    intro xs n cs cells h hx
    cases hx with
    | cons hr ht =>
      simp only [List.zipIdx_cons, List.foldl_cons, wr_cons]
      rw [Nat.add_assoc]
      refine ih _ (n + 1) _ _ (All2.of_get (by simp [h.length]) fun i c u hc hu => ?_) ht
      rw [Array.toList_setIfInBounds] at hu
      by_cases e : off + n = i
      · subst e
        have h1 := lt_of_get hc
        rw [List.length_set] at h1
        rw [List.getElem?_set_self h1] at hc
        rw [List.getElem?_set_self (by rw [← h.length]; exact h1)] at hu
        cases hc; cases hu
        exact hr
      · rw [List.getElem?_set_ne e] at hc hu
        obtain ⟨u', hu', r⟩ := h.get hc
        rw [hu] at hu'
        cases hu'
        exact r

theorem fill_ok {place : Nat → Option (Nat × Nat)} : ∀ (ps : List (Nat × V1)) (vs : List (Nat × Value)) (cs cs' : List C) (cells : Array Value), All2 (CR G hp) cs cells.toList →
    All2 (fun (p : Nat × V1) (q : Nat × Value) => p.1 = q.1 ∧ VR G hp p.2 q.2) ps vs → fillC place cs ps = some cs' →
    ∃ cells', Instr.fill place cells vs = some cells' ∧ All2 (CR G hp) cs' cells'.toList := by
  intro ps
  induction ps with
  | nil => intro vs cs cs' cells h hr hf; cases hr; simp only [fillC, Option.some.injEq] at hf; subst hf; exact ⟨cells, rfl, h⟩
  | cons p ps ih =>
    intro vs cs cs' cells h hr hf
    cases hr with
    | cons hq ht =>
      rename_i q vs
      obtain ⟨i, x⟩ := p
      obtain ⟨i', v⟩ := q
      obtain ⟨rfl, hv⟩ := hq
      simp only [fillC] at hf
      split at hf
      · cases hf
      · rename_i off size hpl
        split at hf
        · rename_i hc
          have hcells := hv.cells
          have hsz : v.cells.size = size := by rw [← hc.1, hcells.length]; simp
          have hcs : off + v.cells.size ≤ cells.size := by
            have := h.length
            simp at this
            omega
          have key := foldl_wr (R := CR G hp) off v.cells.toList x.cells 0 cs cells h hcells
          obtain ⟨cells', h1, h2⟩ := ih vs _ cs' _ key ht hf
          refine ⟨cells', ?_, h2⟩
          simp only [Instr.fill, hpl, hsz]
          rw [if_neg (by simp; omega)]
          rw [← h1]
          congr 1
          rw [← Array.foldl_toList, Array.toList_zipIdx]
        · cases hf

theorem evParts_rel (hs : SR G hp s a.tmps) {parts : List (Nat × Operand)} {ps : List (Nat × V1)} (h : evParts s parts = some ps) :
    All2 (fun (p : Nat × V1) (q : Nat × Value) => p.1 = q.1 ∧ VR G hp p.2 q.2) ps (parts.map fun p => (p.1, a.eval p.2)) := by
  have h2 := (mapM_all2 h).flip
  clear h
  induction h2 with
  | nil => exact .nil
  | cons h _ ih =>
    refine .cons ?_ ih
    simp only [Option.map_eq_some_iff] at h
    obtain ⟨v, hv, rfl⟩ := h
    exact ⟨rfl, ev1_rel hs hv⟩

theorem run_places {P : Program} : ∀ {fs : List Field} {pl : List (Nat × Nat)}, places P fs = some pl →
    ((fs.mapM fun f => do pure (f.offset, ← sizeOf f.type) : Sem (List (Nat × Nat)))).run P w = .ok pl w := by
  intro fs
  induction fs with
  | nil => intro pl h; simp only [places, List.mapM_nil, Option.pure_def, Option.some.injEq] at h; subst h; rfl
  | cons f fs ih =>
    intro pl h
    simp only [places, List.mapM_cons, Option.bind_eq_bind, Option.bind_eq_some_iff, Option.map_eq_some_iff, Option.pure_def, Option.some.injEq] at h
    obtain ⟨p, ⟨n, hn, rfl⟩, l, hl, rfl⟩ := h
    simp only [List.mapM_cons, Sem.run_bind, run_sizeOf hn, Result.andThen_ok, Sem.run_pure]
    rw [ih hl]
    rfl

theorem op_build (hs : SR G hp s a.tmps) (hw : WR G hp w) {t : TypeId} {parts : Array (Nat × Operand)} (hop : o.op = .build t parts) {v : AV × Heap} (h : dop E s hp o = some v) :
    OkV G hp w ((execOp a.eval o).run E.P w) v := by
  simp only [dop, hop, zeroC, Option.bind_eq_bind, Option.bind_eq_some_iff, Option.map_eq_some_iff] at h
  obtain ⟨ps, hps, z, ⟨zv, ⟨zz, hz, hzv⟩, rfl⟩, h⟩ := h
  have hp' := evParts_rel hs hps
  have hzr := (ofV_rel (G := G) (hp := hp) hzv).cells
  have hparts : (parts.map fun x => (x.1, a.eval x.2)).toList = parts.toList.map fun p => (p.1, a.eval p.2) := by simp
  split at h
  · rename_i fs hu
    simp only [Option.bind_eq_some_iff, Option.map_eq_some_iff] at h
    obtain ⟨pl, hpl, cs, hcs, rfl⟩ := h
    obtain ⟨cells', h1, h2⟩ := fill_ok ps _ _ _ _ hzr hp' hcs
    refine OkV.same hw (x := .agg cells') ?_ ⟨cells'.toList, by simp, h2⟩
    simp only [execOp, hop]
    refine run_val ?_
    simp only [Instr.build, Sem.run_bind, run_zeroValue hz, Result.andThen_ok, run_underlying hu, Array.mapM_eq_mapM_toList, Sem.run_map, run_places hpl]
    have : (fun (x : Nat) => pl.toArray[x]?) = (fun (x : Nat) => pl[x]?) := by funext x; simp
    rw [hparts, this, h1]
    rfl
  · rename_i n e hu
    simp only [Option.bind_eq_some_iff, Option.map_eq_some_iff] at h
    obtain ⟨n', hn, cs, hcs, rfl⟩ := h
    obtain ⟨cells', h1, h2⟩ := fill_ok ps _ _ _ _ hzr hp' hcs
    refine OkV.same hw (x := .agg cells') ?_ ⟨cells'.toList, by simp, h2⟩
    simp only [execOp, hop]
    refine run_val ?_
    simp only [Instr.build, Sem.run_bind, run_zeroValue hz, Result.andThen_ok, run_underlying hu, run_sizeOf hn]
    rw [hparts, h1]
    rfl
  · cases h

theorem flat_rep {α : Type} (z : List α) : ∀ (n i : Nat), i < n * z.length → (List.replicate n z).flatten[i]? = z[i % z.length]? := by
  intro n
  induction n with
  | zero => intro i h; omega
  | succ n ih =>
    intro i h
    simp only [List.replicate_succ, List.flatten_cons]
    by_cases e : i < z.length
    · rw [List.getElem?_append_left e, Nat.mod_eq_of_lt e]
    · have h' : i - z.length < n * z.length := by rw [Nat.add_mul] at h; omega
      rw [List.getElem?_append_right (by omega), ih _ h', Nat.mod_eq_sub_mod (a := i) (by omega)]
theorem flat_rep_len {α : Type} (z : List α) (n : Nat) : (List.replicate n z).flatten.length = n * z.length := by simp

/-- zero cells, as the machine lays them -/
theorem zero_cells {z : List C} {zero : Array Value} {n len : Nat} (hz : All2 (CR G hp) z zero.toList) (hn : z.length = n) (h0 : 0 < n) :
    All2 (CR G hp) (List.replicate len z).flatten ((Array.range (len * n)).map (zero[· % zero.size]!)).toList := by
  have hzs : zero.size = n := by rw [← hn, hz.length]; simp
  refine All2.of_get (by simp [hn]) fun i c v hc hv => ?_
  have hi := lt_of_get hc
  rw [flat_rep_len, hn] at hi
  rw [flat_rep z len i (by rw [hn]; exact hi)] at hc
  obtain ⟨v', hv', r⟩ := hz.get hc
  rw [Array.getElem?_toList] at hv hv'
  rw [Array.getElem?_map] at hv
  simp only [Option.map_eq_some_iff] at hv
  obtain ⟨j, hj, rfl⟩ := hv
  rw [Array.getElem?_range, if_pos hi] at hj
  cases hj
  rw [hn] at hv'
  have : i % n < zero.size := by rw [hzs]; exact Nat.mod_lt _ h0
  rw [hzs, getElem!_pos zero (i % n) this]
  rw [Array.getElem?_eq_getElem this] at hv'
  cases hv'
  exact r

theorem all2_toD {cs : List C} {ds : List D} {vs : List Value} (h : cs.mapM C.toD = some ds) (r : All2 (CR G hp) cs vs) : All2 (DR G.μ) ds vs := by
  have h2 := mapM_all2 h
  clear h
  induction h2 generalizing vs with
  | nil => cases r; exact .nil
  | cons h _ ih => cases r with
    | cons a t => exact .cons (toD_rel h a) (ih t)

theorem mapM_len {α β : Type} {f : α → Option β} {l : List α} {m : List β} (h : l.mapM f = some m) : m.length = l.length := (mapM_all2 h).length.symm

theorem mkNw_ok {t : Bool} {x : V1} {b o len : Nat} (r : VR G hp x (.slice (some ⟨b, o, none⟩) len len)) (hlo : G.lo ≤ b) : VR G hp (mkNw t x) (.slice (some ⟨b, o, none⟩) len len) := by
  unfold mkNw
  split
  · rename_i es
    split
    · have hd : DR G.μ (.lst false es) (.slice (some ⟨b, o, none⟩) len len) := r
      obtain ⟨ad, cap', sz, vs, e, _⟩ := DR.inv hd
      injection e with e1 e2 e3
      subst e2
      exact ⟨hd, b, o, rfl, hlo⟩
    · exact r
  · exact r

theorem newSlice_ok {hard row : Bool} {n len : Nat} {cs : List C} {cells : Array Value} {e : TypeId} {r : V1 × Heap} (hw : WR G hp w) (h0 : 0 < n) (hl : cs.length = len * n) (hr : All2 (CR G hp) cs cells.toList)
    (h : newSlice hp hard row n len cs = some r) : ∃ G', WR G' r.2 (w.alloc (.cells cells e)) ∧ Sn G hp w G' r.2 (w.alloc (.cells cells e)) ∧ VR G' r.2 r.1 (.slice (some ⟨w.heap.size, 0, none⟩) len len) := by
  have hsize : cells.size = len * n := by rw [← hl, hr.length]; simp
  unfold newSlice at h
  split at h
  · cases h
    obtain ⟨G', hw', sn, hi⟩ := new_cells (w' := w.alloc (.cells cells e)) (cs := cs) (t := e) hw rfl (fz0 _) (by rw [hr.length]; simp) (all2_get (α := Unit) hr)
    exact ⟨G', hw', sn, w.heap.size, len, 0, hi, rfl, Nat.le_refl _, fun c hc => by cases hc; rfl, fun _ => rfl, fun h => by cases h⟩
  · split at h
    · simp only [Option.map_eq_some_iff] at h
      obtain ⟨ds, hds, rfl⟩ := h
      have hd := all2_toD hds hr
      have hdl : ds.length = len * n := by rw [mapM_len hds, hl]
      have hall := chunk_all (sz := n) (n := len) (l := ds) (by omega)
      have hcl := chunk_length n len ds
      obtain ⟨G', hw', sn, hcr⟩ := new_own (w' := w.alloc (.cells cells e)) (es := chunk n len ds) (bd := .none) (sz := n) (cap := len) hw rfl (fz0 _) h0 (by rw [hcl]; exact Nat.le_refl _) hall (by omega) (.inl ⟨rfl, hcl⟩)
        (fun i j el c he hc => by
          have hi := lt_of_get he
          rw [hcl] at hi
          rw [chunk_get _ _ _ _ hi] at he
          cases he
          rw [List.getElem?_take] at hc
          split at hc
          · rw [List.getElem?_drop] at hc
            obtain ⟨v, hv, r⟩ := hd.get hc
            exact ⟨v, by simpa using hv, r⟩
          · cases hc)
      rw [hcl] at hw' sn hcr
      exact ⟨G', hw', sn, hcr⟩
    · simp only [Option.map_eq_some_iff] at h
      obtain ⟨ds, hds, rfl⟩ := h
      have hd := all2_toD hds hr
      have hdl : ds.length = len * n := by rw [mapM_len hds, hl]
      have hall := chunk_all (sz := n) (n := len) (l := ds) (by omega)
      have hcl := chunk_length n len ds
      obtain ⟨G', hw', sn, hcr⟩ := new_lst (w' := w.alloc (.cells cells e)) (es := chunk n len ds) (sz := n) (cap := len) hw rfl (by rw [hcl]; exact Nat.le_refl _) hall (by rw [hcl]; omega)
        (fun i j el c he hc => by
          have hi := lt_of_get he
          rw [hcl] at hi
          rw [chunk_get _ _ _ _ hi] at he
          cases he
          rw [List.getElem?_take] at hc
          split at hc
          · rw [List.getElem?_drop] at hc
            obtain ⟨v, hv, r⟩ := hd.get hc
            exact ⟨v, by simpa using hv, r⟩
          · cases hc)
      rw [hcl] at hcr
      exact ⟨G', hw', sn, hcr⟩

theorem fillC_len {place : Nat → Option (Nat × Nat)} : ∀ (ps : List (Nat × V1)) (cs cs' : List C), fillC place cs ps = some cs' → cs'.length = cs.length := by
  intro ps
  induction ps with
  | nil => intro cs cs' h; simp only [fillC, Option.some.injEq] at h; rw [h]
  | cons p ps ih =>
    intro cs cs' h
    obtain ⟨i, x⟩ := p
    simp only [fillC] at h
    split at h
    · cases h
    · split at h
      · rw [ih _ _ h, wr_length]
      · cases h

theorem op_buildSlice (hs : SR G hp s a.tmps) (hw : WR G hp w) {t : TypeId} {len : Nat} {parts : Array (Nat × Operand)} (hop : o.op = .buildSlice t len parts) {v : AV × Heap} (h : dop E s hp o = some v) :
    OkV G hp w ((execOp a.eval o).run E.P w) v := by
  simp only [dop, hop, Option.bind_eq_bind, Option.bind_eq_some_iff] at h
  obtain ⟨ps, hps, h⟩ := h
  have hp' := evParts_rel hs hps
  have hparts : (parts.map fun x => (x.1, a.eval x.2)).toList = parts.toList.map fun p => (p.1, a.eval p.2) := by simp
  split at h
  · rename_i e hu
    simp only [zeroC, Option.bind_eq_some_iff, Option.map_eq_some_iff] at h
    obtain ⟨n, hn, z, ⟨zv, ⟨zz, hz, hzv⟩, rfl⟩, h⟩ := h
    split at h
    · rename_i hc
      simp only [Option.bind_eq_some_iff, Option.map_eq_some_iff] at h
      obtain ⟨cs, hcs, r, hr, rfl⟩ := h
      have hzr := (ofV_rel (G := G) (hp := hp) hzv).cells
      have hzero := zero_cells (len := len) hzr hc.1 hc.2.1
      obtain ⟨cells', h1, h2⟩ := fill_ok ps _ _ _ _ hzero hp' hcs
      have hcl : cs.length = len * n := by rw [fillC_len _ _ _ hcs, flat_rep_len, hc.1]
      obtain ⟨G', hw', sn, hv⟩ := newSlice_ok (e := e) hw hc.2.1 hcl h2 hr
      have hv := mkNw_ok (t := E.nw o.pos && isU8 E.P e) hv (by rw [sn.lo]; exact hw.lo)
      refine ⟨_, _, G', .inl ⟨?_, hv⟩, hw', sn⟩
      simp only [execOp, hop]
      refine run_val ?_
      simp only [Instr.buildSlice, Sem.run_bind, run_underlying hu, Result.andThen_ok, run_sizeOf hn]
      rw [if_neg (by omega)]
      by_cases h0 : len * n = 0
      · have hfill : Instr.fill (fun i => some (i * n, n)) ((Array.range (len * n)).map fun x => (#[] : Array Value)[x % (#[] : Array Value).size]!) (parts.map fun x => (x.1, a.eval x.2)).toList = some cells' := by
          have e0 : ∀ f : Nat → Value, (Array.range 0).map f = #[] := fun f => by simp
          rw [hparts, ← h1, h0, e0, e0]
        rw [if_pos h0]
        simp only [pure_bind]
        rw [hfill]
        simp [newRow]
      · rw [if_neg h0]
        simp only [Sem.run_bind, run_zeroValue hz, Result.andThen_ok, Sem.run_pure]
        rw [hparts, h1]
        simp [newRow]
    · cases h
  · cases h

end
end Go.Ab
