/- The operations that make memory, or write it. -/
import Derived.Test.YteajgnaeklbpeaaDoorAb8
set_option linter.unusedVariables false
set_option linter.unusedSimpArgs false
namespace Go.Ab
open Go

section
variable {E : Env} {G : Gh} {hp : Heap} {s : Nat → AV} {a : Act} {w : World} {o : Oper}

def addβ (G : Gh) (k : Nat) (bd : Bd) : Nat → Bd := fun j => if j = k then bd else G.β j

theorem mu_self (hw : WR G hp w) (i : Nat) : G.μ w.heap.size i = none := by
  cases h : G.μ w.heap.size i with
  | none => rfl
  | some v => have := hw.mu_lt h; omega

/-- a new object of cells -/
theorem new_cells {w' : World} {cs : List C} {vs : Array Value} {t : TypeId} {fz : Nat × Nat} (hw : WR G hp w) (hh : w'.heap = w.heap.push (.cells vs t fz)) (hf : Fz fz vs.size)
    (hl : cs.length ≤ vs.size) (r : ∀ (i : Nat) c v, cs[i]? = some c → vs[i]? = some v → CR G hp c v) (hio : Io w w' := by first | exact ⟨rfl, rfl, rfl⟩ | assumption) :
    ∃ G', WR G' (hp ++ [.cells cs]) w' ∧ Sn G hp w G' (hp ++ [.cells cs]) w' ∧ Isb G' (hp ++ [.cells cs]) hp.length w.heap.size := by
  have hb : w'.heap[w.heap.size]? = some (.cells vs t fz) := by rw [hh]; simp
  obtain ⟨sn, k⟩ := push_ok (o := .cells cs) (bd := .blk w.heap.size) (μ' := G.μ) hw hh (fun b h => h.symm) (fun _ _ _ h => h) (fun _ _ h => .inl h)
    (fun i v h => by rw [mu_self hw] at h; cases h)
  refine ⟨_, k ?_, sn, ⟨by simp, .cells cs, by simp, rfl⟩⟩
  exact ⟨w.heap.size, vs, t, fz, by simp, hb, hf, hl, fun i c v hc hv => (r i c v hc hv).mono sn, fun i => mu_self hw i⟩

theorem fz0 (n : Nat) : Fz (0, 0) n := fun i _ => by simp

theorem all2_get {α : Type} {R : C → Value → Prop} {cs : List C} {vs : Array Value} (h : All2 R cs vs.toList) : ∀ (i : Nat) c v, cs[i]? = some c → vs[i]? = some v → R c v := by
  intro i c v hc hv
  obtain ⟨v', hv', r⟩ := h.get hc
  rw [Array.getElem?_toList] at hv'
  rw [hv] at hv'
  cases hv'
  exact r

theorem op_alloc (hs : SR G hp s a.tmps) (hw : WR G hp w) {t : TypeId} (hop : o.op = .alloc t) {v : AV × Heap} (h : dop E s hp o = some v) :
    OkV G hp w ((execOp a.eval o).run E.P w) v := by
  simp only [dop, hop, zeroC, Option.map_eq_some_iff, Option.bind_eq_some_iff] at h
  obtain ⟨cs, ⟨x, ⟨z, hz, hx⟩, rfl⟩, rfl⟩ := h
  have r := (ofV_rel (G := G) (hp := hp) hx).cells
  obtain ⟨G', hw', sn, hi⟩ := new_cells (w' := w.alloc (.cells z.cells t)) (cs := x.cells) (t := t) hw rfl (fz0 _) (by rw [r.length]; simp) (all2_get (α := Unit) r)
  refine ⟨_, _, G', .inl ⟨?_, ⟨_, hi, rfl⟩⟩, hw', sn⟩
  simp only [execOp, hop]
  refine run_val ?_
  simp [Instr.alloc, run_zeroValue hz, newVar, newRow]

theorem op_box (hs : SR G hp s a.tmps) (hw : WR G hp w) {t : TypeId} {x : Operand} (hop : o.op = .box t x) {v : AV × Heap} (h : dop E s hp o = some v) :
    OkV G hp w ((execOp a.eval o).run E.P w) v := by
  simp only [dop, hop, Option.map_eq_some_iff] at h
  obtain ⟨y, hy, rfl⟩ := h
  have r := (ev1_rel hs hy).cells
  obtain ⟨G', hw', sn, hi⟩ := new_cells (w' := w.alloc (.cells (a.eval x).cells t)) (cs := y.cells) (t := t) hw rfl (fz0 _) (by rw [r.length]; simp) (all2_get (α := Unit) r)
  refine ⟨_, _, G', .inl ⟨?_, ⟨_, hi, rfl⟩⟩, hw', sn⟩
  simp only [execOp, hop]
  refine run_val ?_
  simp [Instr.box, newVar, newRow]

theorem wr_length (xs : List C) : ∀ (cs : List C) (off : Nat), (wr cs off xs).length = cs.length := by
  induction xs with
  | nil => intro cs off; rfl
  | cons x xs ih => intro cs off; simp only [wr]; rw [ih]; simp
theorem wr_get (xs : List C) : ∀ (cs : List C) (off i : Nat), off + xs.length ≤ cs.length →
    (wr cs off xs)[i]? = if off ≤ i ∧ i < off + xs.length then xs[i - off]? else cs[i]? := by
  induction xs with
  | nil => intro cs off i _; simp only [wr, List.length_nil]; rw [if_neg (by omega)]
  | cons x xs ih =>
    intro cs off i h
    simp only [List.length_cons] at h
    simp only [wr, List.length_cons]
    rw [ih _ _ _ (by simp; omega)]
    by_cases e : i = off
    · subst e
      rw [if_neg (by omega), if_pos (by omega), List.getElem?_set_self (by omega)]
      simp
    · rw [List.getElem?_set_ne (Ne.symm e)]
      by_cases h1 : off ≤ i ∧ i < off + (xs.length + 1)
      · rw [if_pos (by omega), if_pos h1, show i - off = (i - (off + 1)) + 1 by omega]
        simp
      · rw [if_neg (by omega), if_neg h1]

/-- cells of an object written -/
theorem write_cells {k b off : Nat} {cs xs : List C} {vs : List Value} (hw : WR G hp w) (hk : hp[k]? = some (.cells cs)) (hb : G.β k = .blk b) (hle : off + xs.length ≤ cs.length)
    (r : All2 (CR G hp) xs vs) : ∃ w', (storeCells ⟨b, off, none⟩ vs).run E.P w = .ok () w' ∧ WR G (hp.set k (.cells (wr cs off xs))) w' ∧ Sn G hp w G (hp.set k (.cells (wr cs off xs))) w' := by
  obtain ⟨b', us, t, fz, e, h1, h2, h3, h4, h5⟩ := hw.ob k _ hk
  rw [hb] at e
  cases e
  have hl := r.length
  have h1c : ∀ x ∈ vs, x.oneCell' = true := by
    intro x hx
    obtain ⟨i, hi⟩ := List.getElem?_of_mem hx
    obtain ⟨c, hc, hr⟩ := (r.flip).get hi
    exact CR.one hr
  obtain ⟨w', us', hrun, e1, e2, e3, e4, e5, e6, e7⟩ := run_storeCells (P := E.P) b off t fz vs 0 us w h1 h2 (by omega) h1c
  obtain ⟨sn, kk⟩ := set_ok (o' := .cells (wr cs off xs)) hw hk hb rfl rfl e5 e6
  refine ⟨w', hrun, kk ?_, sn⟩
  refine ⟨b, us', t, fz, hb, e1, by rw [e2]; exact h2, by rw [wr_length, e2]; exact h3, fun i c v hc hv => ?_, h5⟩
  rw [wr_get _ _ _ _ hle] at hc
  by_cases hin : off ≤ i ∧ i < off + xs.length
  · rw [if_pos hin] at hc
    obtain ⟨v', hv', hr⟩ := r.get hc
    have := e4 _ _ hv'
    rw [show off + 0 + (i - off) = i by omega, hv] at this
    cases this
    exact hr.mono sn
  · rw [if_neg hin] at hc
    rw [e3 i (by omega)] at hv
    exact (h4 i c v hc hv).mono sn

theorem op_store (hs : SR G hp s a.tmps) (hw : WR G hp w) {t : TypeId} {x y : Operand} (hop : o.op = .store t x y) {v : AV × Heap} (h : dop E s hp o = some v) :
    OkV G hp w ((execOp a.eval o).run E.P w) v := by
  simp only [dop, hop, Option.bind_eq_bind, Option.bind_eq_some_iff] at h
  obtain ⟨n, hn, z, hz, h⟩ := h
  split at h
  · rename_i k off hx
    split at h
    · rename_i cs hk
      split at h
      · rename_i hc
        cases h
        obtain ⟨b, ⟨hb, _⟩, hv⟩ := evC_rel hs hx
        have r := (ev1_rel hs hz).cells
        obtain ⟨w', hrun, hw', sn⟩ := write_cells (E := E) hw hk hb (by rw [hc.2]; exact hc.1) r
        refine ⟨undef, w', G, .inr ⟨?_, rfl⟩, hw', sn⟩
        simp only [execOp, hop, hv]
        refine run_unit ?_
        have hsz : (a.eval y).cells.size = n := by rw [← hc.2, r.length]; simp
        simp only [Instr.storeAt, Instr.sureAddr, pure_bind, storeVar, Sem.run_bind, run_sizeOf hn, Result.andThen_ok, hsz, ne_eq, not_true_eq_false, if_false]
        exact hrun
      · cases h
    · cases h
  · cases h

theorem op_makeFunc (hs : SR G hp s a.tmps) (hw : WR G hp w) {f : Fn} {first captured : Array Operand} (hop : o.op = .makeFunc f first captured) {v : AV × Heap} (h : dop E s hp o = some v) :
    OkV G hp w ((execOp a.eval o).run E.P w) v := by
  simp only [dop, hop] at h
  split at h
  · rename_i g hf
    simp only [Option.bind_eq_bind, Option.bind_eq_some_iff] at h
    obtain ⟨cs, hcs, h⟩ := h
    have hfirst : first = #[] := by apply Array.ext'; simpa using hf
    subst hfirst
    have hcap : captured.map a.eval = ((captured.toList.map a.eval).toArray : Array Value) := by apply Array.ext'; simp
    have r : All2 (fun p x => ∃ b, Isb G hp p.1 b ∧ x = .pointer (some ⟨b, p.2, none⟩)) cs (captured.toList.map a.eval) := by
      have h2 := mapM_all2 hcs
      clear hcs hcap h
      generalize captured.toList = l at h2
      induction h2 with
      | nil => exact .nil
      | cons h _ ih =>
        refine .cons ?_ ih
        split at h
        · rename_i k off hx
          cases h
          exact evC_rel hs hx
        · cases h
    split at h
    · rename_i he
      cases h
      have hnil : captured.toList.map a.eval = [] := by
        have : cs = [] := by simpa using he
        subst this
        exact List.eq_nil_of_length_eq_zero r.length.symm
      refine OkV.same hw (x := .func (.func g) #[] #[]) ?_ (.sc _ rfl)
      simp only [execOp, hop]
      refine run_val ?_
      simp [Instr.makeFunc, hcap, hnil]
    · cases h
      refine OkV.same hw (x := .func (.func g) #[] (captured.toList.map a.eval).toArray) ?_ ⟨_, rfl, r⟩
      simp only [execOp, hop]
      refine run_val ?_
      rw [hcap, Array.map_empty]
      rfl
  · cases h

theorem alloc_at (w : World) (ob : Obj) : (w.alloc ob).heap[w.heap.size]? = some ob := by show (w.heap.push ob)[w.heap.size]? = _; simp

theorem op_makeMap (hs : SR G hp s a.tmps) (hw : WR G hp w) {t : TypeId} {x : Option Operand} (hop : o.op = .makeMap t x) {v : AV × Heap} (h : dop E s hp o = some v) :
    OkV G hp w ((execOp a.eval o).run E.P w) v := by
  cases x with
  | some x => simp [dop, hop] at h
  | none =>
    simp only [dop, hop, Option.some.injEq] at h
    subst h
    obtain ⟨sn, k⟩ := push_ok (w' := w.alloc (.map #[] 0)) (ob := .map #[] 0) (o := .amap []) (bd := .blk w.heap.size) (μ' := G.μ) hw rfl (fun b h => h.symm) (fun _ _ _ h => h) (fun _ _ h => .inl h)
      (fun i v h => by rw [mu_self hw] at h; cases h)
    refine ⟨.map (some w.heap.size), w.alloc (.map #[] 0), _, .inl ⟨?_, ⟨w.heap.size, ⟨by simp, .amap [], by simp, rfl⟩, rfl⟩⟩, k ?_, sn⟩
    · simp only [execOp, hop]
      refine run_val ?_
      simp [Instr.makeMap]
    · exact ⟨w.heap.size, #[], 0, by simp, alloc_at _ _, .nil, fun i => mu_self hw i⟩

theorem op_range (hs : SR G hp s a.tmps) (hw : WR G hp w) {t : TypeId} {x : Operand} (hop : o.op = .range t x) {v : AV × Heap} (h : dop E s hp o = some v) :
    OkV G hp w ((execOp a.eval o).run E.P w) v := by
  simp only [dop, hop] at h
  split at h
  · rename_i b hu hx
    cases h
    have r := evC_rel hs hx
    have hv : a.eval x = .string b := by generalize a.eval x = z at r; cases r; rfl
    obtain ⟨sn, k⟩ := push_ok (w' := w.alloc (.stringIter b 0)) (ob := .stringIter b 0) (o := .siter b 0) (bd := .blk w.heap.size) (μ' := G.μ) hw rfl (fun b h => h.symm) (fun _ _ _ h => h) (fun _ _ h => .inl h)
      (fun i v h => by rw [mu_self hw] at h; cases h)
    refine ⟨.pointer (some ⟨w.heap.size, 0, none⟩), w.alloc (.stringIter b 0), _, .inl ⟨?_, ⟨w.heap.size, ⟨by simp, .siter b 0, by simp, rfl⟩, rfl⟩⟩, k ?_, sn⟩
    · simp only [execOp, hop]
      refine run_val ?_
      simp [Instr.range, run_underlying hu, hv]
    · exact ⟨w.heap.size, by simp, alloc_at _ _, fun i => mu_self hw i⟩
  · cases h

theorem getObj_run {P : Program} {b : Nat} {ob : Obj} (h : w.heap[b]? = some ob) (hc : ∀ c t f, ob ≠ .cells c t f) : (getObj b).run P w = .ok ob w := by
  cases ob with
  | cells c t f => exact (hc c t f rfl).elim
  | _ => simp [getObj, Sem.run, h]
theorem setObj_run {P : Program} {b : Nat} {ob ob' : Obj} (h : w.heap[b]? = some ob) (hc : ∀ c t f, ob ≠ .cells c t f) : (setObj b ob').run P w = .ok () { w with heap := w.heap.setIfInBounds b ob' } := by
  cases ob with
  | cells c t f => exact (hc c t f rfl).elim
  | _ => simp [setObj, Sem.run, h]

theorem set_heap {b : Nat} {ob ob' : Obj} (h : w.heap[b]? = some ob) : ({ w with heap := w.heap.setIfInBounds b ob' } : World).heap[b]? = some ob' ∧
    (∀ x, x ≠ b → ({ w with heap := w.heap.setIfInBounds b ob' } : World).heap[x]? = w.heap[x]?) ∧ ({ w with heap := w.heap.setIfInBounds b ob' } : World).heap.size = w.heap.size := by
  have hlt := lt_of_block h
  refine ⟨by simp [hlt], fun x hx => ?_, by simp⟩
  simp [Array.getElem?_setIfInBounds, Ne.symm hx]

theorem op_next (hs : SR G hp s a.tmps) (hw : WR G hp w) {x : Operand} {q : Bool} (hop : o.op = .next x q) {v : AV × Heap} (h : dop E s hp o = some v) :
    OkV G hp w ((execOp a.eval o).run E.P w) v := by
  cases q with
  | false => simp [dop, hop] at h
  | true =>
    simp only [dop, hop] at h
    split at h
    · rename_i k hx
      split at h
      · rename_i st pos hk
        obtain ⟨b, ⟨hb, _⟩, hv⟩ := evC_rel hs hx
        obtain ⟨b', e, h1, h2⟩ := hw.ob k _ hk
        rw [hb] at e
        cases e
        split at h
        · rename_i hpos
          cases h
          obtain ⟨g1, g2, g3⟩ := set_heap (w := w) (ob' := .stringIter st (pos + (Utf8.decode st pos).2)) h1
          obtain ⟨sn, kk⟩ := set_ok (o' := .siter st (pos + (Utf8.decode st pos).2)) hw hk hb rfl rfl g2 g3
          refine ⟨.tuple #[.bool true, goInt pos, .int .i32 (Utf8.decode st pos).1], _, G, .inl ⟨?_, ⟨[.bool true, goInt pos, .int .i32 (Utf8.decode st pos).1], rfl, .cons (.sc _ rfl) (.cons (.sc _ rfl) (.cons (.sc _ rfl) .nil))⟩⟩, kk ⟨b, hb, g1, h2⟩, sn⟩
          simp only [execOp, hop, hv]
          refine run_val ?_
          simp [Instr.next, getObj_run h1 (by simp), setObj_run h1 (by simp), hpos]
        · rename_i hpos
          cases h
          refine OkV.same hw (x := .tuple #[.bool false]) ?_ ⟨[.bool false], rfl, .cons (.sc _ rfl) .nil⟩
          simp only [execOp, hop, hv]
          refine run_val ?_
          simp [Instr.next, getObj_run h1 (by simp), hpos]
      · cases h
    · cases h

end
end Go.Ab
