/- The operations, one by one (those that leave memory as it is). -/
import Derived.Test.YteenmbcmgcnkmaaGreatDoorAb7
set_option linter.unusedVariables false
set_option linter.unusedSimpArgs false
namespace Go.Ab
open Go

section
variable {E : Env} {G : Gh} {hp : Heap} {s : Nat → AV} {a : Act} {w : World} {o : Oper}

theorem run_val {P : Program} {w w' : World} {x : Value} {m : Sem Value} (h : m.run P w = .ok x w') : (do pure (Next.value (← m)) : Sem Next).run P w = .ok (.value x) w' := by simp [h]
theorem run_unit {P : Program} {w w' : World} {m : Sem Unit} (h : m.run P w = .ok () w') : (do m; pure Next.skip : Sem Next).run P w = .ok .skip w' := by simp [h]

theorem op_move (hs : SR G hp s a.tmps) (hw : WR G hp w) {x : Operand} (hop : o.op = .move x ∨ o.op = .assign x) {v : AV} (h : ev s x = some v) :
    OkV G hp w ((execOp a.eval o).run E.P w) (v, hp) := by
  refine OkV.same hw (x := a.eval x) ?_ (ev_rel hs h)
  rcases hop with hop | hop <;> simp [execOp, hop]

theorem op_pick (hs : SR G hp s a.tmps) (hw : WR G hp w) {c x y : Operand} (hop : o.op = .pick c x y) {v : AV × Heap} (h : dop E s hp o = some v) :
    OkV G hp w ((execOp a.eval o).run E.P w) v := by
  simp only [dop, hop] at h
  split at h
  · rename_i t hc
    have hcv : a.eval c = .bool t := by have := ev_rel hs hc; generalize a.eval c = z at this; cases this; rfl
    cases t
    · simp only [Bool.false_eq_true, if_false, Option.map_eq_some_iff] at h
      obtain ⟨u, hu, rfl⟩ := h
      exact OkV.same hw (x := a.eval y) (by simp [execOp, hop, hcv, asBool]) (ev_rel hs hu)
    · simp only [if_true, Option.map_eq_some_iff] at h
      obtain ⟨u, hu, rfl⟩ := h
      exact OkV.same hw (x := a.eval x) (by simp [execOp, hop, hcv, asBool]) (ev_rel hs hu)
  · cases h

theorem op_unOp (hs : SR G hp s a.tmps) (hw : WR G hp w) {op : UnOp} {t : TypeId} {x : Operand} (hop : o.op = .unOp op t x) {v : AV × Heap} (h : dop E s hp o = some v) :
    OkV G hp w ((execOp a.eval o).run E.P w) v := by
  simp only [dop, hop, Option.bind_eq_bind, Option.bind_eq_some_iff] at h
  obtain ⟨y, ⟨z, hz, hy⟩, r, hr, h⟩ := h
  simp only [Option.map_eq_some_iff] at h
  obtain ⟨u, hu, rfl⟩ := h
  have := AV.toV_eq hy (ev_rel hs hz)
  exact OkV.same hw (x := r) (by simp only [execOp, hop, this]; exact run_val (evalS_run hr w)) (ofV_rel hu)

theorem op_makeInterface (hs : SR G hp s a.tmps) (hw : WR G hp w) {t : TypeId} {x : Operand} (hop : o.op = .makeInterface t x) {v : AV × Heap} (h : dop E s hp o = some v) :
    OkV G hp w ((execOp a.eval o).run E.P w) v := by
  simp only [dop, hop, Option.bind_eq_bind, Option.bind_eq_some_iff] at h
  obtain ⟨y, ⟨z, hz, hy⟩, r, hr, h⟩ := h
  simp only [Option.map_eq_some_iff] at h
  obtain ⟨u, hu, rfl⟩ := h
  have := AV.toV_eq hy (ev_rel hs hz)
  exact OkV.same hw (x := r) (by simp only [execOp, hop, this]; exact run_val (evalS_run hr w)) (ofV_rel hu)

theorem op_extract (hs : SR G hp s a.tmps) (hw : WR G hp w) {x : Operand} {i : Nat} (hop : o.op = .extract x i) {v : AV × Heap} (h : dop E s hp o = some v) :
    OkV G hp w ((execOp a.eval o).run E.P w) v := by
  simp only [dop, hop] at h
  split at h
  · rename_i xs hx
    simp only [Option.map_eq_some_iff] at h
    obtain ⟨y, hy, rfl⟩ := h
    obtain ⟨vs, hv, r⟩ := ev_rel hs hx
    obtain ⟨z, hz, hr⟩ := r.get hy
    refine OkV.same hw (x := z) ?_ hr
    simp [execOp, hop, hv, Instr.extract, hz]
  · cases h

theorem eq_slice {P : Program} {w : World} {t e : TypeId} {a : Option Addr} {l c l' c' : Nat} (n : Nat) (hd : P.underlying t = some (.slice e)) :
    (Op.equalIn (n + 1) t (.slice a l c) (.slice none l' c')).run P w = .ok a.isNone w := by
  cases a <;> simp [Op.equalIn, run_underlying hd]
theorem eq_ptr {P : Program} {w : World} {t e : TypeId} {a : Addr} (n : Nat) (hd : P.underlying t = some (.pointer e)) :
    (Op.equalIn (n + 1) t (.pointer (some a)) (.pointer none)).run P w = .ok false w := by simp [Op.equalIn, run_underlying hd]
theorem eq_map {P : Program} {w : World} {t k e : TypeId} {a : Nat} (n : Nat) (hd : P.underlying t = some (.map k e)) :
    (Op.equalIn (n + 1) t (.map (some a)) (.map none)).run P w = .ok false w := by simp [Op.equalIn, run_underlying hd]
theorem eq_func {P : Program} {w : World} {t : TypeId} {x y : Array TypeId} {z : Bool} {f : Fn} {p q : Array Value} (n : Nat) (hd : P.underlying t = some (.func x y z)) :
    (Op.equalIn (n + 1) t (.func f p q) .nilFunc).run P w = .ok false w := by simp [Op.equalIn, run_underlying hd]

theorem neq_not {P : Program} {w : World} {t : TypeId} {x y : Value} {b : Bool} (h : (Op.equal t x y).run P w = .ok b w) :
    (do pure (.bool (!(← Op.equal t x y))) : Sem Value).run P w = .ok (.bool (!b)) w := by simp [h]
theorem eql_is {P : Program} {w : World} {t : TypeId} {x y : Value} {b : Bool} (h : (Op.equal t x y).run P w = .ok b w) :
    (do pure (.bool (← Op.equal t x y)) : Sem Value).run P w = .ok (.bool b) w := by simp [h]

theorem nil_test {t : TypeId} {d : TypeDesc} {c : C} {x y : Operand} {b : Bool} (hd : E.P.underlying t = some d) (h : nilTest d c y = some b) {v : Value} (r : CR G hp c v) :
    (do eqGuard .eql t x y v (a.eval y); binOp .eql t v (a.eval y) : Sem Value).run E.P w = .ok (.bool b) w ∧
    (do eqGuard .neq t x y v (a.eval y); binOp .neq t v (a.eval y) : Sem Value).run E.P w = .ok (.bool (!b)) w := by
  unfold nilTest at h
  split at h
  · cases h
    obtain ⟨ad, cap, sz, vs, rfl, _, rfl, _⟩ := DR.inv r
    constructor
    · simp only [Sem.run_bind, eqGuard, binOp, Act.eval]
      simpa using eql_is (eq_slice (w := w) 9999 hd)
    · simp only [Sem.run_bind, eqGuard, binOp, Act.eval]
      simpa using neq_not (eq_slice (w := w) 9999 hd)
  · cases h
    obtain ⟨ad, cap, sz, vs, rfl, _, rfl, _⟩ := DR.inv r.1
    constructor
    · simp only [Sem.run_bind, eqGuard, binOp, Act.eval]
      simpa using eql_is (eq_slice (w := w) 9999 hd)
    · simp only [Sem.run_bind, eqGuard, binOp, Act.eval]
      simpa using neq_not (eq_slice (w := w) 9999 hd)
  · rename_i k_ off sz len cap _; cases h; obtain ⟨b', c, o, _, rfl, _⟩ := r
    constructor
    · simp only [Sem.run_bind, eqGuard, binOp, Act.eval]
      have k := eql_is (eq_slice (w := w) (a := some ⟨b', o, none⟩) (l := cap) (c := c) (l' := 0) (c' := 0) 9999 hd)
      simp only [Option.isNone_some] at k
      simpa using k
    · simp only [Sem.run_bind, eqGuard, binOp, Act.eval]
      have k := neq_not (eq_slice (w := w) (a := some ⟨b', o, none⟩) (l := cap) (c := c) (l' := 0) (c' := 0) 9999 hd)
      simp only [Option.isNone_some] at k
      simpa using k
  · cases h; obtain ⟨b', _, rfl⟩ := r
    constructor
    · simp only [Sem.run_bind, eqGuard, binOp, Act.eval]
      simpa using eql_is (eq_ptr (w := w) 9999 hd)
    · simp only [Sem.run_bind, eqGuard, binOp, Act.eval]
      simpa using neq_not (eq_ptr (w := w) 9999 hd)
  · cases h; obtain ⟨b', o, rfl, _⟩ := r
    constructor
    · simp only [Sem.run_bind, eqGuard, binOp, Act.eval]
      simpa using eql_is (eq_ptr (w := w) 9999 hd)
    · simp only [Sem.run_bind, eqGuard, binOp, Act.eval]
      simpa using neq_not (eq_ptr (w := w) 9999 hd)
  · cases h; obtain ⟨b', _, rfl⟩ := r
    constructor
    · simp only [Sem.run_bind, eqGuard, binOp, Act.eval]
      simpa using eql_is (eq_map (w := w) 9999 hd)
    · simp only [Sem.run_bind, eqGuard, binOp, Act.eval]
      simpa using neq_not (eq_map (w := w) 9999 hd)
  · cases h; obtain ⟨vs, rfl, _⟩ := r
    constructor
    · simp only [Sem.run_bind, eqGuard, binOp, Act.eval]
      simpa using eql_is (eq_func (w := w) 9999 hd)
    · simp only [Sem.run_bind, eqGuard, binOp, Act.eval]
      simpa using neq_not (eq_func (w := w) 9999 hd)
  · cases h

theorem op_binOp (hs : SR G hp s a.tmps) (hw : WR G hp w) {op : BinOp} {t u : TypeId} {x y : Operand} (hop : o.op = .binOp op t x y u) {v : AV × Heap} (h : dop E s hp o = some v) :
    OkV G hp w ((execOp a.eval o).run E.P w) v := by
  simp only [dop, hop] at h
  split at h
  · rename_i p q hp_ hq
    simp only [both] at h
    split at h
    · rename_i v1 v2 h1 h2
      simp only [Option.bind_eq_bind, Option.bind_eq_some_iff, Option.map_eq_some_iff] at h
      obtain ⟨r, hr, z, hz, rfl⟩ := h
      have e1 := toV_eq h1 (ev1_rel hs hp_)
      have e2 := toV_eq h2 (ev1_rel hs hq)
      exact OkV.same hw (x := r) (by simp only [execOp, hop, e1, e2]; exact run_val (evalS_run hr w)) (ofV_rel hz)
    · split at h
      · rename_i c d _ _
        have hd : E.P.underlying t = some d := by assumption
        have hc := ev1_rel hs hp_
        split at h
        · rename_i r hr
          cases h
          exact OkV.same hw (x := .bool r) (by simp only [execOp, hop]; exact run_val (nil_test (E := E) (a := a) (w := w) hd hr hc).1) (.sc _ rfl)
        · rename_i r hr
          cases h
          exact OkV.same hw (x := .bool (!r)) (by simp only [execOp, hop]; exact run_val (nil_test (E := E) (a := a) (w := w) hd hr hc).2) (.sc _ rfl)
        · cases h
      · cases h
  · cases h

theorem op_nilCheck (hs : SR G hp s a.tmps) (hw : WR G hp w) {x : Operand} (hop : o.op = .nilCheck x) {v : AV × Heap} (h : dop E s hp o = some v) :
    OkV G hp w ((execOp a.eval o).run E.P w) v := by
  simp only [dop, hop] at h
  split at h
  · rename_i k off hx
    cases h
    have r := evC_rel hs hx
    have r' := r
    obtain ⟨b, _, hv⟩ := r'
    rw [hv] at r
    exact OkV.same hw (by simp only [execOp, hop, hv]; rfl) r
  · rename_i cs off hx
    cases h
    have r := evC_rel hs hx
    have r' := r
    obtain ⟨b, o', hv, _⟩ := r'
    rw [hv] at r
    exact OkV.same hw (by simp only [execOp, hop, hv]; rfl) r
  · rename_i f cs hx
    cases h
    have r := evC_rel hs hx
    have r' := r
    obtain ⟨vs, hv, _⟩ := r'
    rw [hv] at r
    exact OkV.same hw (by simp only [execOp, hop, hv]; rfl) r
  · rename_i f p q hx
    cases h
    have r := evC_rel hs hx
    have hv : a.eval x = .func (.func f) p q := by generalize a.eval x = z at r; cases r; rfl
    exact OkV.same hw (by simp only [execOp, hop, hv]; rfl) (.sc _ rfl)
  · cases h

theorem op_load (hs : SR G hp s a.tmps) (hw : WR G hp w) {t : TypeId} {x : Operand} (hop : o.op = .load t x) {v : AV × Heap} (h : dop E s hp o = some v) :
    OkV G hp w ((execOp a.eval o).run E.P w) v := by
  simp only [dop, hop, Option.bind_eq_bind, Option.bind_eq_some_iff] at h
  obtain ⟨n, hn, g, hg, h⟩ := h
  split at h
  · rename_i k off hx
    split at h
    · rename_i cs hk
      split at h
      · rename_i hc
        simp only [Option.map_eq_some_iff] at h
        obtain ⟨y, hy, rfl⟩ := h
        obtain ⟨b, hib, hv⟩ := evC_rel hs hx
        obtain ⟨l, hl, r, hcell⟩ := read_cells hw hk (hib.at hk) hc.1
        refine OkV.same hw (x := valOf g l) ?_ (mkV_rel hy r)
        simp only [execOp, hop, hv]
        refine run_val ?_
        simp only [Instr.loadAt, Instr.sureAddr, pure_bind]
        exact run_loadVar' hn hg hl hc.2 hcell
      · cases h
    · cases h
  · rename_i cs off hx
    split at h
    · rename_i hc
      simp only [Option.map_eq_some_iff] at h
      obtain ⟨y, hy, rfl⟩ := h
      obtain ⟨b, o', hv, vs, hd⟩ := evC_rel hs hx
      obtain ⟨l, hl, r, hcell⟩ := read_known hw hd hc.1
      refine OkV.same hw (x := valOf g l) ?_ (mkV_rel hy r)
      simp only [execOp, hop, hv]
      refine run_val ?_
      simp only [Instr.loadAt, Instr.sureAddr, pure_bind]
      exact run_loadVar' hn hg hl hc.2 hcell
    · cases h
  · cases h

theorem op_fieldAddr (hs : SR G hp s a.tmps) (hw : WR G hp w) {t : TypeId} {x : Operand} {f : Nat} (hop : o.op = .fieldAddr t x f) {v : AV × Heap} (h : dop E s hp o = some v) :
    OkV G hp w ((execOp a.eval o).run E.P w) v := by
  simp only [dop, hop] at h
  split at h
  · rename_i fs hu
    simp only [Option.bind_eq_bind, Option.bind_eq_some_iff] at h
    obtain ⟨fd, hf, n, hn, h⟩ := h
    split at h
    · cases h
    · rename_i hn0
      split at h
      · rename_i k off hx
        cases h
        obtain ⟨b, hi, hv⟩ := evC_rel hs hx
        refine OkV.same hw (x := .pointer (some ⟨b, off + fd.offset, none⟩)) ?_ ⟨b, hi, rfl⟩
        simp only [execOp, hop, hv]
        refine run_val ?_
        simp [Instr.fieldAt, run_underlying hu, hf, Instr.sureAddr, fieldPlace, run_sizeOf hn, hn0, addr_add]
      · rename_i cs off hx
        cases h
        obtain ⟨b, o', hv, vs, hd⟩ := evC_rel hs hx
        refine OkV.same hw (x := .pointer (some ⟨b, o' + (off + fd.offset), none⟩)) ?_ ⟨b, o', rfl, vs, hd⟩
        simp only [execOp, hop, hv]
        refine run_val ?_
        simp [Instr.fieldAt, run_underlying hu, hf, Instr.sureAddr, fieldPlace, run_sizeOf hn, hn0, addr_add, Nat.add_assoc]
      · cases h
  · cases h

theorem run_part {P : Program} {t : TypeId} {n : Nat} {g : Bool} {vs : List Value} {off : Nat} (hn : szP P t = some n) (hg : aggP P t = some g) (hle : off + n ≤ vs.length) (h1 : g = true ∨ n = 1) :
    (part t vs.toArray off).run P w = .ok (valOf g ((vs.drop off).take n)) w := by
  cases g with
  | true =>
    simp only [part, Sem.run_bind, run_isAgg hg, Result.andThen_ok, if_true, run_sizeOf hn, valOf, Sem.run_pure]
    congr 2
    apply Array.ext'
    simp [List.extract_eq_take_drop]
  | false =>
    have h1 : n = 1 := by simpa using h1
    subst h1
    have : vs.toArray[off]? = some vs[off] := by simp [show off < vs.length by omega]
    have hd : (vs.drop off).take 1 = [vs[off]] := by
      rw [List.drop_eq_getElem_cons (by omega)]
      rfl
    simp only [part, Sem.run_bind, run_isAgg hg, Result.andThen_ok, Bool.false_eq_true, if_false, this, valOf, hd, Sem.run_pure]
    rfl

theorem op_field (hs : SR G hp s a.tmps) (hw : WR G hp w) {t : TypeId} {x : Operand} {f : Nat} (hop : o.op = .field t x f) {v : AV × Heap} (h : dop E s hp o = some v) :
    OkV G hp w ((execOp a.eval o).run E.P w) v := by
  simp only [dop, hop] at h
  split at h
  · rename_i fs cs hu hx
    simp only [Option.bind_eq_bind, Option.bind_eq_some_iff] at h
    obtain ⟨fd, hf, n, hn, g, hg, h⟩ := h
    split at h
    · rename_i hc
      simp only [Option.map_eq_some_iff] at h
      obtain ⟨y, hy, rfl⟩ := h
      obtain ⟨vs, hv, r⟩ := ev1_rel hs hx
      refine OkV.same hw (x := valOf g ((vs.drop fd.offset).take n)) ?_ (mkV_rel hy ((r.drop _).take _))
      simp only [execOp, hop, hv]
      refine run_val ?_
      simp only [Instr.field, Sem.run_bind, run_underlying hu, Result.andThen_ok, hf, asAgg, Sem.run_pure]
      exact run_part hn hg (by rw [← r.length]; exact hc.1) hc.2
    · cases h
  · cases h

theorem evI_ok (hs : SR G hp s a.tmps) {x : Operand} {i : Int} (h : evI s x = some i) : ∃ k, a.eval x = .int k i ∧ ∀ (P : Program) (w : World), (asIntOf (a.eval x)).run P w = .ok (k, i) w := by
  obtain ⟨k, hk⟩ := evI_rel hs h
  exact ⟨k, hk, fun P w => by rw [hk]; rfl⟩

theorem op_index (hs : SR G hp s a.tmps) (hw : WR G hp w) {t : TypeId} {x ix : Operand} (hop : o.op = .index t x ix) {v : AV × Heap} (h : dop E s hp o = some v) :
    OkV G hp w ((execOp a.eval o).run E.P w) v := by
  simp only [dop, hop] at h
  split at h
  · rename_i b i hu hx hi
    split at h
    · rename_i hc
      cases h
      obtain ⟨k, hk, hrun⟩ := evI_ok hs hi
      have r := ev1_rel hs hx
      have hv : a.eval x = .string b := by generalize a.eval x = z at r; cases r; rfl
      refine OkV.same hw (x := .int .u8 (b.data.getD i.toNat 0).toNat) ?_ (.sc _ rfl)
      simp only [execOp, hop]
      refine run_val ?_
      have hlt : i.toNat < b.size := by omega
      have : b[i.toNat]? = some (b.data.getD i.toNat 0) := by
        have h2 : i.toNat < b.data.size := hlt
        rw [getElem?_pos b i.toNat hlt]
        simp only [Array.getD, h2, dif_pos]
        rfl
      simp [Instr.index, hrun, run_underlying hu, hv, hc.1, this]
    · cases h
  · rename_i n e cs i hu hx hi
    simp only [Option.bind_eq_bind, Option.bind_eq_some_iff] at h
    obtain ⟨sz, hsz, g, hg, h⟩ := h
    split at h
    · rename_i hc
      simp only [Option.map_eq_some_iff] at h
      obtain ⟨y, hy, rfl⟩ := h
      obtain ⟨k, hk, hrun⟩ := evI_ok hs hi
      obtain ⟨vs, hv, r⟩ := ev1_rel hs hx
      refine OkV.same hw (x := valOf g ((vs.drop (i.toNat * sz)).take sz)) ?_ (mkV_rel hy ((r.drop _).take _))
      simp only [execOp, hop]
      refine run_val ?_
      simp only [Instr.index, Sem.run_bind, hrun, Result.andThen_ok, run_underlying hu, hv, hc.1, hc.2.1, and_self, if_true, run_sizeOf hsz]
      exact run_part hsz hg (by rw [← r.length]; exact hc.2.2.1) hc.2.2.2
    · cases h
  · cases h

/-- a list's element, as a pointer to what never changes -/
theorem elem_ptr {μ : Nat → Nat → Option Value} {nl : Bool} {es : List (List D)} {v : Value} (h : DR μ (.lst nl es) v) {n : Nat} (hn : es.all (·.length == n) = true) {i : Nat} (hi : i < es.length) :
    ∃ b o cap, v = .slice (some ⟨b, o, none⟩) es.length cap ∧ ∃ vs : Nat → Value, ∀ (j : Nat) c, (es.getD i [])[j]? = some c → DR μ c (vs j) ∧ μ b (o + i * n + j) = some (vs j) := by
  obtain ⟨a, cap, sz, vs, rfl, h1, h2, h3, hsp, h4, h5, h6⟩ := DR.inv h
  cases a with
  | none => have := h3 rfl; omega
  | some ad =>
    obtain ⟨b, o, sp⟩ := ad
    have hs : sp = none := hsp (fun q => by rw [q] at hi; cases hi) _ rfl
    subst hs
    refine ⟨b, o, cap, rfl, fun j => vs i j, fun j c hc => ?_⟩
    have he : es[i]? = some es[i] := List.getElem?_eq_getElem hi
    have hg : es.getD i [] = es[i] := by simp [List.getD, he]
    rw [hg] at hc
    refine ⟨h5 i j _ c he hc, ?_⟩
    obtain ⟨b', o', e1, e2⟩ := h6 i j _ c he hc
    cases e1
    have hl : sz = n := by
      rw [← h4 es[i] (List.getElem_mem hi)]
      have := List.all_eq_true.1 hn es[i] (List.getElem_mem hi)
      simpa using this
    rwa [hl] at e2

theorem list_dr {c : C} {nl : Bool} {es : List (List D)} (h : c.list = some (nl, es)) {v : Value} (r : CR G hp c v) : DR G.μ (.lst nl es) v := by
  cases c with
  | d x => cases x with
    | sc v => simp [C.list] at h
    | lst nl' es' => simp only [C.list, Option.some.injEq, Prod.mk.injEq] at h; obtain ⟨rfl, rfl⟩ := h; exact r
  | own nl' es' k => simp only [C.list, Option.some.injEq, Prod.mk.injEq] at h; obtain ⟨rfl, rfl⟩ := h; exact r.1
  | _ => simp [C.list] at h

theorem op_indexAddr (hs : SR G hp s a.tmps) (hw : WR G hp w) {t : TypeId} {x ix : Operand} (hop : o.op = .indexAddr t x ix) {v : AV × Heap} (h : dop E s hp o = some v) :
    OkV G hp w ((execOp a.eval o).run E.P w) v := by
  simp only [dop, hop] at h
  split at h
  · rename_i n e k off i hu hx hi
    simp only [Option.bind_eq_bind, Option.bind_eq_some_iff] at h
    obtain ⟨sz, hsz, h⟩ := h
    split at h
    · rename_i hc
      cases h
      obtain ⟨kk, hk, hrun⟩ := evI_ok hs hi
      obtain ⟨b, hib, hv⟩ := evC_rel hs hx
      refine OkV.same hw (x := .pointer (some ⟨b, off + i.toNat * sz, none⟩)) ?_ ⟨b, hib, rfl⟩
      simp only [execOp, hop]
      refine run_val ?_
      simp [Instr.indexAt, hrun, run_underlying hu, hv, Instr.sureAddr, hc, run_sizeOf hsz, addr_add]
    · cases h
  · rename_i n e cs off i hu hx hi
    simp only [Option.bind_eq_bind, Option.bind_eq_some_iff] at h
    obtain ⟨sz, hsz, h⟩ := h
    split at h
    · rename_i hc
      cases h
      obtain ⟨kk, hk, hrun⟩ := evI_ok hs hi
      obtain ⟨b, o', hv, vs, hd⟩ := evC_rel hs hx
      refine OkV.same hw (x := .pointer (some ⟨b, o' + (off + i.toNat * sz), none⟩)) ?_ ⟨b, o', rfl, vs, hd⟩
      simp only [execOp, hop]
      refine run_val ?_
      simp [Instr.indexAt, hrun, run_underlying hu, hv, Instr.sureAddr, hc, run_sizeOf hsz, addr_add, Nat.add_assoc]
    · cases h
  · rename_i e k off sz len cap i hu hx hi
    split at h
    · rename_i hc
      cases h
      obtain ⟨hsz, hc⟩ := hc
      obtain ⟨kk, hk, hrun⟩ := evI_ok hs hi
      obtain ⟨b, c, off', hib, hv, hlc, _, ho, _⟩ := evC_rel hs hx
      have : off' = off := ho (by omega)
      subst this
      refine OkV.same hw (x := .pointer (some ⟨b, off' + i.toNat * sz, none⟩)) ?_ ⟨b, hib, rfl⟩
      simp only [execOp, hop]
      refine run_val ?_
      simp [Instr.indexAt, hrun, run_underlying hu, hv, Instr.sureAddr, hc, run_sizeOf hsz, addr_add]
    · cases h
  · rename_i e y i hns hu hx hi
    simp only [Option.bind_eq_bind, Option.bind_eq_some_iff] at h
    obtain ⟨⟨nl, es⟩, hl, sz, hsz, h⟩ := h
    dsimp only at h
    split at h
    · rename_i hc
      cases h
      obtain ⟨kk, hk, hrun⟩ := evI_ok hs hi
      obtain ⟨b, o', cap, hv, vs, hd⟩ := elem_ptr (list_dr hl (evC_rel hs hx)) hc.1 (i := i.toNat) (by omega)
      refine OkV.same hw (x := .pointer (some ⟨b, (o' + i.toNat * sz) + 0, none⟩)) ?_ ⟨b, o' + i.toNat * sz, rfl, vs, hd⟩
      simp only [execOp, hop]
      refine run_val ?_
      simp [Instr.indexAt, hrun, run_underlying hu, hv, Instr.sureAddr, hc.2, run_sizeOf hsz, addr_add]
    · cases h
  · cases h

end
end Go.Ab
