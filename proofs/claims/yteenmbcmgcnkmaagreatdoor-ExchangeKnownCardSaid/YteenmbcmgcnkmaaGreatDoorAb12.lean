/- Slices made and cut; maps. -/
import Derived.Test.YteenmbcmgcnkmaaGreatDoorAb11
set_option linter.unusedVariables false
set_option linter.unusedSimpArgs false
namespace Go.Ab
open Go

section
variable {E : Env} {G : Gh} {hp : Heap} {s : Nat → AV} {a : Act} {w : World} {o : Oper}

theorem wrap_nat {n : Int} (h0 : 0 ≤ n) (h : n ≤ 2 ^ 62) : IntKind.i64.wrap n = n := by
  have h1 : n % (2 ^ 64 : Int) = n := Int.emod_eq_of_lt h0 (by omega)
  have h2 : (2 ^ (64 - 1) : Int) = 9223372036854775808 := by decide
  simp only [IntKind.wrap, IntKind.bits, IntKind.signed, Bool.true_and, decide_eq_true_eq, h1]
  rw [if_neg (by omega)]

theorem op_makeSlice (hs : SR G hp s a.tmps) (hw : WR G hp w) {t : TypeId} {x y : Operand} (hop : o.op = .makeSlice t x y) {v : AV × Heap} (h : dop E s hp o = some v) :
    OkV G hp w ((execOp a.eval o).run E.P w) v := by
  simp only [dop, hop] at h
  split at h
  · rename_i e hu
    simp only [Option.bind_eq_bind, Option.bind_eq_some_iff, zeroC, bytesP, Option.map_eq_some_iff] at h
    obtain ⟨n, hn, by_, ⟨inf, hinf, hby⟩, z, ⟨zv, ⟨zz, hz, hzv⟩, rfl⟩, li, hli, ci, hci, h⟩ := h
    split at h
    · rename_i hc
      obtain ⟨c1, c2, c3, c4, c5, c6⟩ := hc
      cases h
      obtain ⟨k1, hk1⟩ := evI_rel hs hli
      obtain ⟨k2, hk2⟩ := evI_rel hs hci
      have hzr := (ofV_rel (G := G) (hp := hp) hzv).cells
      have hzero := zero_cells (len := ci.toNat) hzr c1 c2
      have hcb : ci ≤ ci * by_ := by
        have h1 : ci * 1 ≤ ci * (by_ : Int) := Int.mul_le_mul_of_nonneg_left (by omega) (by omega)
        omega
      have hci2 : ci ≤ 2 ^ 62 := by
        have : ci ≤ 2 ^ 47 := by omega
        omega
      have hlen : (List.replicate ci.toNat zv.cells).flatten.length = ci.toNat * n := by rw [flat_rep_len, c1]
      obtain ⟨G', hw', sn, hi⟩ := new_cells (w' := w.alloc (.cells ((Array.range (ci.toNat * n)).map (zz.cells[· % zz.cells.size]!)) e)) (cs := (List.replicate ci.toNat zv.cells).flatten) (t := e) hw rfl (fz0 _)
        (by rw [hlen]; simp) (all2_get (α := Unit) hzero)
      refine ⟨_, _, G', .inl ⟨?_, ⟨w.heap.size, ci.toNat, 0, hi, rfl, by omega, fun c' hc' => (by cases hc'; rfl), fun _ => rfl, fun h => by cases h⟩⟩, hw', sn⟩
      simp only [execOp, hop]
      refine run_val ?_
      have ht : (decide (ci < 0) || decide ((by_ : Int) * ci > 2 ^ 48)) = false := by
        rw [Int.mul_comm]
        simp
        omega
      simp only [Instr.makeSlice, Sem.run_bind, run_underlying hu, Result.andThen_ok, hk1, hk2, asInt, asIntOf, Sem.run_pure, run_typeInfo hinf, hby, wrap_nat c4 (by omega), wrap_nat (show 0 ≤ ci by omega) hci2, ht]
      rw [if_neg (by simp; omega)]
      simp only [Sem.run_bind, run_askRoom, Result.andThen_ok, run_sizeOf hn]
      by_cases h0 : ci.toNat * n = 0
      · rw [if_pos h0]
        simp only [pure_bind]
        have e0 : ∀ f : Nat → Value, (Array.range 0).map f = #[] := fun f => by simp
        simp only [h0, newRow, e0]
        simp
      · rw [if_neg h0]
        simp [run_zeroValue hz, newRow]
    · cases h
  · cases h

theorem bnd_some {i : Int} {n h : Nat} (e : bnd i n = some h) : 0 ≤ i ∧ i ≤ n ∧ h = i.toNat := by
  unfold bnd at e
  split at e
  · cases e; omega
  · cases e
theorem run_sliceBound {P : Program} {k : IntKind} {i : Int} {n h : Nat} {c : BoundsCode} (e : bnd i n = some h) {m : Nat} (hm : n ≤ m) : (Instr.sliceBound (.int k i) m c).run P w = .ok h w := by
  obtain ⟨h1, h2, rfl⟩ := bnd_some e
  simp only [Instr.sliceBound, Sem.run_bind, asIntOf, Sem.run_pure, Result.andThen_ok]
  rw [if_pos ⟨h1, by omega⟩]
  rfl

theorem low_cases (hs : SR G hp s a.tmps) {lo : Option Operand} {h l : Nat} (hl : ((evB s 0 lo).bind fun i => bnd i h) = some l) :
    (lo = none ∧ l = 0) ∨ ∃ x k i, lo = some x ∧ a.eval x = .int k i ∧ bnd i h = some l := by
  cases lo with
  | none =>
    simp only [evB, Option.bind_some] at hl
    have := bnd_some hl
    exact .inl ⟨rfl, by omega⟩
  | some x =>
    simp only [evB, Option.bind_eq_some_iff] at hl
    obtain ⟨i, hi, hb⟩ := hl
    obtain ⟨k, hk⟩ := evI_rel hs hi
    exact .inr ⟨x, k, i, rfl, hk, hb⟩

theorem run_bounds (hs : SR G hp s a.tmps) {P : Program} {q : Bool} {len cap n h l : Nat} {lo hi : Option Operand} (hh : ((evB s len hi).bind fun i => bnd i n) = some h)
    (hl : ((evB s 0 lo).bind fun i => bnd i h) = some l) (hn : n ≤ cap) : (Instr.sliceBounds q len cap (lo.map a.eval) (hi.map a.eval) none).run P w = .ok (l, h, cap) w := by
  have hlo := low_cases hs hl
  cases hi with
  | none =>
    simp only [evB, Option.bind_some] at hh
    have hb := bnd_some hh
    have : h = len := by omega
    subst this
    rcases hlo with ⟨rfl, rfl⟩ | ⟨x, k, i, rfl, hk, hb2⟩
    · simp [Instr.sliceBounds]
    · simp [Instr.sliceBounds, hk, run_sliceBound hb2 (Nat.le_refl _)]
  | some x =>
    simp only [evB, Option.bind_eq_some_iff] at hh
    obtain ⟨i, hi, hb⟩ := hh
    obtain ⟨k, hk⟩ := evI_rel hs hi
    rcases hlo with ⟨rfl, rfl⟩ | ⟨y, k', i', rfl, hk', hb2⟩
    · simp [Instr.sliceBounds, hk, run_sliceBound hb hn]
    · simp [Instr.sliceBounds, hk, run_sliceBound hb hn, hk', run_sliceBound hb2 (Nat.le_refl _)]

theorem run_bounds3 (hs : SR G hp s a.tmps) {P : Program} {q : Bool} {len cap n c h l : Nat} {lo : Option Operand} {hv m : Operand} (hc : ((evI s m).bind fun i => bnd i n) = some c)
    (hh : ((evI s hv).bind fun i => bnd i c) = some h) (hl : ((evB s 0 lo).bind fun i => bnd i h) = some l) (hn : n ≤ cap) :
    (Instr.sliceBounds q len cap (lo.map a.eval) (some (a.eval hv)) (some (a.eval m))).run P w = .ok (l, h, c) w := by
  have hlo := low_cases hs hl
  simp only [Option.bind_eq_some_iff] at hc hh
  obtain ⟨i, hi, hb⟩ := hc
  obtain ⟨j, hj, hb2⟩ := hh
  obtain ⟨k, hk⟩ := evI_rel hs hi
  obtain ⟨k2, hk2⟩ := evI_rel hs hj
  rcases hlo with ⟨rfl, rfl⟩ | ⟨y, k', i', rfl, hk', hb3⟩
  · simp [Instr.sliceBounds, hk, hk2, run_sliceBound hb hn, run_sliceBound hb2 (Nat.le_refl _)]
  · simp [Instr.sliceBounds, hk, hk2, run_sliceBound hb hn, run_sliceBound hb2 (Nat.le_refl _), hk', run_sliceBound hb3 (Nat.le_refl _)]

/-- a list cut -/
theorem DR.cut {μ : Nat → Nat → Option Value} {nl : Bool} {es : List (List D)} {ad : Option Addr} {cap n : Nat} (hd : DR μ (.lst nl es) (.slice ad es.length cap)) (hall : es.all (·.length == n) = true) {h l c : Nat}
    (h1 : l ≤ h) (h2 : h ≤ es.length) (h3 : h ≤ c) (h4 : c ≤ cap) : DR μ (.lst nl ((es.take h).drop l)) (.slice (if c = l then ad else ad.map (·.add (l * n))) (h - l) (c - l)) := by
  obtain ⟨ad', cap', sz, vs, e, g1, g2, g3, gsp, g4, g5, g6⟩ := DR.inv hd
  cases e
  have hlen : ((es.take h).drop l).length = h - l := by simp; omega
  have key := DR.lst (μ := μ) nl ((es.take h).drop l) (if c = l then ad else ad.map (·.add (l * n))) (c - l) sz (fun i j => vs (l + i) j) (by rw [hlen]; omega)
    (by split <;> simp [g2]) (fun e => by
      have : ad = none := by split at e <;> simpa using e
      have := g3 this
      omega)
    (fun hne a' ha' => by
      have hne : es ≠ [] := fun q => hne (by rw [q]; simp)
      split at ha'
      · exact gsp hne _ ha'
      · simp only [Option.map_eq_some_iff] at ha'
        obtain ⟨b, hb, rfl⟩ := ha'
        have := gsp hne _ hb
        unfold Addr.add
        split <;> simp_all)
    (fun e he => g4 e (List.mem_of_mem_take (List.mem_of_mem_drop he)))
    (fun i j e c' he hc' => by
      rw [List.getElem?_drop, List.getElem?_take] at he
      split at he
      · exact g5 _ _ _ _ he hc'
      · cases he)
    (fun i j e c' he hc' => by
      rw [List.getElem?_drop, List.getElem?_take] at he
      split at he
      · rename_i hlt
        obtain ⟨b, o, rfl, hm⟩ := g6 _ _ _ _ he hc'
        have hne : c ≠ l := by omega
        rw [if_neg hne]
        have hsn : sz = n := by
          rw [← g4 e (List.mem_of_getElem? he)]
          have := List.all_eq_true.1 hall e (List.mem_of_getElem? he)
          simpa using this
        subst hsn
        refine ⟨b, o + l * sz, by simp [addr_add], ?_⟩
        rwa [show o + l * sz + i * sz + j = o + (l + i) * sz + j by rw [Nat.add_mul]; omega]
      · cases he)
  rw [hlen] at key
  exact key

end
end Go.Ab
