/- The Go functions as plain functions, and that the evaluator computes them. -/
import Derived.Test.YtcjkhdkfdnjhaaaDoorFF1
set_option linter.all false
set_option maxRecDepth 100000
namespace Go.Proofs.YtcjkhdkfdnjhaaaDoor
open Go Go.Ab
section
variable {mm : Int}
/-! tollhouse/tollhouseref02.Equal -/
noncomputable def c21_0 : Code := bodyOf Tryd.f21
noncomputable def c21_1 : Code := cA c21_0
noncomputable def c21_2 : Code := cB c21_0
noncomputable def c21_3 : Code := cA c21_2
noncomputable def c21_4 : Code := cA c21_3
noncomputable def c21_5 : Code := cB c21_3
noncomputable def c21_6 : Code := cA c21_5
noncomputable def c21_7 : Code := cA c21_6
noncomputable def c21_8 : Code := cB c21_6
noncomputable def c21_9 : Code := cB c21_5
noncomputable def c21_10 : Code := cB c21_2
noncomputable def c21_11 : Code := cA c21_10
noncomputable def c21_12 : Code := cA c21_11
noncomputable def c21_13 : Code := cB c21_11
noncomputable def c21_14 : Code := cA c21_13
noncomputable def c21_15 : Code := cA c21_14
noncomputable def c21_16 : Code := cA c21_15
noncomputable def c21_17 : Code := cA c21_16
noncomputable def c21_18 : Code := cB c21_16
noncomputable def c21_19 : Code := cA c21_18
noncomputable def c21_20 : Code := cB c21_18
noncomputable def c21_21 : Code := cB c21_15
noncomputable def c21_22 : Code := cA c21_21
noncomputable def c21_23 : Code := cA c21_22
noncomputable def c21_24 : Code := cA c21_23
noncomputable def c21_25 : Code := cB c21_23
noncomputable def c21_26 : Code := cA c21_25
noncomputable def c21_27 : Code := cA c21_26
noncomputable def c21_28 : Code := cB c21_26
noncomputable def c21_29 : Code := cB c21_25
noncomputable def c21_30 : Code := cB c21_21
noncomputable def c21_31 : Code := cB c21_10
noncomputable def c21_32 : Code := cA c21_31
noncomputable def c21_33 : Code := cB c21_31
theorem c21_0_e : c21_0 = .seq c21_1 c21_2 := rfl
theorem c21_1_r (m : Nat) (st : St) : den (E0 mm) 21 m (callW (E0 mm)) itW c21_1 none st = regD (runOps (E0 mm) (callW (E0 mm)) (opsOf c21_1) (opsOf c21_1) st) := den_rg (by rfl)
theorem c21_2_e : c21_2 = .seq c21_3 c21_10 := rfl
theorem c21_3_e : c21_3 = .seq c21_4 c21_5 := rfl
theorem c21_4_r (m : Nat) (st : St) : den (E0 mm) 21 m (callW (E0 mm)) itW c21_4 none st = regD (runOps (E0 mm) (callW (E0 mm)) (opsOf c21_4) (opsOf c21_4) st) := den_rg (by rfl)
theorem c21_6_e : c21_6 = .seq c21_7 c21_8 := rfl
theorem c21_7_r (m : Nat) (st : St) : den (E0 mm) 21 m (callW (E0 mm)) itW c21_7 none st = regD (runOps (E0 mm) (callW (E0 mm)) (opsOf c21_7) (opsOf c21_7) st) := den_rg (by rfl)
theorem c21_8_e : c21_8 = .ret := rfl
theorem c21_9_e : c21_9 = .skip := rfl
theorem c21_10_e : c21_10 = .seq c21_11 c21_31 := rfl
theorem c21_11_e : c21_11 = .seq c21_12 c21_13 := rfl
theorem c21_12_r (m : Nat) (st : St) : den (E0 mm) 21 m (callW (E0 mm)) itW c21_12 none st = regD (runOps (E0 mm) (callW (E0 mm)) (opsOf c21_12) (opsOf c21_12) st) := den_rg (by rfl)
theorem c21_13_e : c21_13 = .block 0 c21_14 := rfl
theorem c21_14_l (m : Nat) (st : St) : den (E0 mm) 21 m (callW (E0 mm)) itW c21_14 none st = loopD itW (loopF (E0 mm) 21 m (callW (E0 mm)) itW c21_15 [(0, .keep), (1, .keep), (5, .keep)]) (canon m [(0, .keep), (1, .keep), (5, .keep)] st) := rfl
theorem c21_15_e : c21_15 = .seq c21_16 c21_21 := rfl
theorem c21_16_e : c21_16 = .seq c21_17 c21_18 := rfl
theorem c21_17_r (m : Nat) (st : St) : den (E0 mm) 21 m (callW (E0 mm)) itW c21_17 none st = regD (runOps (E0 mm) (callW (E0 mm)) (opsOf c21_17) (opsOf c21_17) st) := den_rg (by rfl)
theorem c21_19_e : c21_19 = .skip := rfl
theorem c21_20_e : c21_20 = .exit 0 := rfl
theorem c21_21_e : c21_21 = .seq c21_22 c21_30 := rfl
theorem c21_22_e : c21_22 = .block 1 c21_23 := rfl
theorem c21_23_e : c21_23 = .seq c21_24 c21_25 := rfl
theorem c21_24_r (m : Nat) (st : St) : den (E0 mm) 21 m (callW (E0 mm)) itW c21_24 none st = regD (runOps (E0 mm) (callW (E0 mm)) (opsOf c21_24) (opsOf c21_24) st) := den_dr2 (by kernel_rfl)
theorem c21_26_e : c21_26 = .seq c21_27 c21_28 := rfl
theorem c21_27_r (m : Nat) (st : St) : den (E0 mm) 21 m (callW (E0 mm)) itW c21_27 none st = regD (runOps (E0 mm) (callW (E0 mm)) (opsOf c21_27) (opsOf c21_27) st) := den_rg (by rfl)
theorem c21_28_e : c21_28 = .ret := rfl
theorem c21_29_e : c21_29 = .skip := rfl
theorem c21_30_r (m : Nat) (st : St) : den (E0 mm) 21 m (callW (E0 mm)) itW c21_30 none st = regD (runOps (E0 mm) (callW (E0 mm)) (opsOf c21_30) (opsOf c21_30) st) := den_rg (by rfl)
theorem c21_31_e : c21_31 = .seq c21_32 c21_33 := rfl
theorem c21_32_r (m : Nat) (st : St) : den (E0 mm) 21 m (callW (E0 mm)) itW c21_32 none st = regD (runOps (E0 mm) (callW (E0 mm)) (opsOf c21_32) (opsOf c21_32) st) := den_rg (by rfl)
theorem c21_33_e : c21_33 = .ret := rfl
abbrev R21 := (Bool)
def e21 : R21 → AV × Heap := fun x => (.v (.c (.d (.sc (.bool x)))), [])
noncomputable def K21_14 : Option (Ex × St) → Option (AV × Heap) := fun r => bodyD (E0 mm) [.tmp 4] 0 false (seqD (E0 mm) 21 0 (callW (E0 mm)) itW c21_31 (blockD 0 (r)))
def en21_14 : Bool × List Bs × Bool × List Bs × Int → X := fun x => (none, [.v (.c (.d (.lst x.1 (enL en0 x.2.1)))), .v (.c (.d (.lst x.2.2.1 (enL en0 x.2.2.2.1)))), .v (.c (.d (.sc (.int .i64 x.2.2.2.2))))], [])
noncomputable def j21_31  : Option R21 :=
  some true
set_option maxRecDepth 100000 in
theorem j21_31_t   (sl : Nat → AV)  :
    bodyD (E0 mm) [.tmp 4] 0 false (den (E0 mm) 21 0 (callW (E0 mm)) itW c21_31 none ⟨sl, []⟩) = (j21_31).map e21 := by
  simp -implicitDefEqProofs only [j21_31, c21_31_e, c21_32_r, (show opsOf c21_32 = _ :: _ from rfl), c21_33_e, setA, setB, String.reduceBEq, Nat.reduceEqDiff, Int.reduceEq, Nat.reduceAdd, Nat.reduceLeDiff, Nat.reduceLT, Int.reduceLE, Int.reduceLT, Int.reduceToNat, Int.reduceNegSucc, Nat.reduceMul, Int.reduceAdd, Nat.reduceBEq, Nat.reduceSub, Nat.reducePow, Int.reduceBEq, reduceCtorEq, E0P, E0hand, E0hard, E0row, E0nw, E0aown, E0glob, ↓reduceIte]
  all_goals rfl
noncomputable def s21_14 (a0_0 : Bool) (a0_1 : List Bs) (b1_0 : Bool) (b1_1 : List Bs) (i5 : Int) : Option ((Bool × List Bs × Bool × List Bs × Int) ⊕ R21) :=
  if (decide (i5 < (a0_1.length : Int))) = true then
    if 0 ≤ i5 ∧ i5 < (a0_1.length : Int) then
      if 0 ≤ i5 ∧ i5 < (b1_1.length : Int) then
        if ((a0_1.getD i5.toNat default) == (b1_1.getD i5.toNat default)) = true then
          some (.inl (a0_0, a0_1, b1_0, b1_1, (w64 (i5 + 1))))
        else
          some (.inr false)
      else none
    else none
  else
    (j21_31).map .inr
set_option maxRecDepth 100000 in
theorem s21_14_t (a0_0 : Bool) (a0_1 : List Bs) (b1_0 : Bool) (b1_1 : List Bs) (i5 : Int) :
    stepE (K21_14 (mm := mm)) (loopF (E0 mm) 21 0 (callW (E0 mm)) itW c21_15 [(0, .keep), (1, .keep), (5, .keep)] (none, [.v (.c (.d (.lst a0_0 (enL en0 a0_1)))), .v (.c (.d (.lst b1_0 (enL en0 b1_1)))), .v (.c (.d (.sc (.int .i64 i5))))], [])) = (s21_14 a0_0 a0_1 b1_0 b1_1 i5).map (sm en21_14 e21) := by
  simp -implicitDefEqProofs only [s21_14, loopF_eq, c21_15_e, c21_16_e, c21_17_r, (show opsOf c21_17 = _ :: _ from rfl), Tryd.underlying27, (show c21_18 = Code.cond _ c21_19 c21_20 from rfl), setA, setB, String.reduceBEq, Nat.reduceEqDiff, Int.reduceEq, Nat.reduceAdd, Nat.reduceLeDiff, Nat.reduceLT, Int.reduceLE, Int.reduceLT, Int.reduceToNat, Int.reduceNegSucc, Nat.reduceMul, Int.reduceAdd, Nat.reduceBEq, Nat.reduceSub, Nat.reducePow, Int.reduceBEq, reduceCtorEq, E0P, E0hand, E0hard, E0row, E0nw, E0aown, E0glob, ↓reduceIte]
  refine brB (fun yc2 => ?_) (fun yc2 => ?_)
  · simp -implicitDefEqProofs only [c21_19_e, c21_21_e, c21_22_e, c21_23_e, c21_24_r, (show opsOf c21_24 = _ :: _ from rfl), Tryd.underlying27, sz9, en0_a, yc2, setA, setB, String.reduceBEq, Nat.reduceEqDiff, Int.reduceEq, Nat.reduceAdd, Nat.reduceLeDiff, Nat.reduceLT, Int.reduceLE, Int.reduceLT, Int.reduceToNat, Int.reduceNegSucc, Nat.reduceMul, Int.reduceAdd, Nat.reduceBEq, Nat.reduceSub, Nat.reducePow, Int.reduceBEq, reduceCtorEq, E0P, E0hand, E0hard, E0row, E0nw, E0aown, E0glob, ↓reduceIte]
    refine brP (fun yc3 => ?_) (fun yc3 => ?_)
    · have yd4 : i5.toNat < a0_1.length := by omega
      simp -implicitDefEqProofs only [(enL_get en0 a0_1 i5.toNat yd4), en0_e, sz9, ag9, Tryd.underlying27, en0_a, yc2, yc3, yd4, setA, setB, String.reduceBEq, Nat.reduceEqDiff, Int.reduceEq, Nat.reduceAdd, Nat.reduceLeDiff, Nat.reduceLT, Int.reduceLE, Int.reduceLT, Int.reduceToNat, Int.reduceNegSucc, Nat.reduceMul, Int.reduceAdd, Nat.reduceBEq, Nat.reduceSub, Nat.reducePow, Int.reduceBEq, reduceCtorEq, E0P, E0hand, E0hard, E0row, E0nw, E0aown, E0glob, ↓reduceIte]
      refine brP (fun yc5 => ?_) (fun yc5 => ?_)
      · have yd6 : i5.toNat < b1_1.length := by omega
        simp -implicitDefEqProofs only [(enL_get en0 b1_1 i5.toNat yd6), en0_e, sz9, ag9, (show c21_25 = Code.cond _ c21_26 c21_29 from rfl), yc2, yc3, yd4, yc5, yd6, setA, setB, String.reduceBEq, Nat.reduceEqDiff, Int.reduceEq, Nat.reduceAdd, Nat.reduceLeDiff, Nat.reduceLT, Int.reduceLE, Int.reduceLT, Int.reduceToNat, Int.reduceNegSucc, Nat.reduceMul, Int.reduceAdd, Nat.reduceBEq, Nat.reduceSub, Nat.reducePow, Int.reduceBEq, reduceCtorEq, E0P, E0hand, E0hard, E0row, E0nw, E0aown, E0glob, ↓reduceIte]
        refine brB (fun yc7 => ?_) (fun yc7 => ?_)
        · simp -implicitDefEqProofs only [c21_29_e, c21_30_r, (show opsOf c21_30 = _ :: _ from rfl), yc2, yc3, yd4, yc5, yd6, yc7, setA, setB, String.reduceBEq, Nat.reduceEqDiff, Int.reduceEq, Nat.reduceAdd, Nat.reduceLeDiff, Nat.reduceLT, Int.reduceLE, Int.reduceLT, Int.reduceToNat, Int.reduceNegSucc, Nat.reduceMul, Int.reduceAdd, Nat.reduceBEq, Nat.reduceSub, Nat.reducePow, Int.reduceBEq, reduceCtorEq, E0P, E0hand, E0hard, E0row, E0nw, E0aown, E0glob, ↓reduceIte]
          all_goals rfl
        · simp -implicitDefEqProofs only [c21_26_e, c21_27_r, (show opsOf c21_27 = _ :: _ from rfl), c21_28_e, K21_14, yc2, yc3, yd4, yc5, yd6, yc7, setA, setB, String.reduceBEq, Nat.reduceEqDiff, Int.reduceEq, Nat.reduceAdd, Nat.reduceLeDiff, Nat.reduceLT, Int.reduceLE, Int.reduceLT, Int.reduceToNat, Int.reduceNegSucc, Nat.reduceMul, Int.reduceAdd, Nat.reduceBEq, Nat.reduceSub, Nat.reducePow, Int.reduceBEq, reduceCtorEq, E0P, E0hand, E0hard, E0row, E0nw, E0aown, E0glob, ↓reduceIte]
          all_goals rfl
      · simp -implicitDefEqProofs only [yc2, yc3, yd4, yc5, setA, setB, String.reduceBEq, Nat.reduceEqDiff, Int.reduceEq, Nat.reduceAdd, Nat.reduceLeDiff, Nat.reduceLT, Int.reduceLE, Int.reduceLT, Int.reduceToNat, Int.reduceNegSucc, Nat.reduceMul, Int.reduceAdd, Nat.reduceBEq, Nat.reduceSub, Nat.reducePow, Int.reduceBEq, reduceCtorEq, E0P, E0hand, E0hard, E0row, E0nw, E0aown, E0glob, ↓reduceIte]
    · simp -implicitDefEqProofs only [yc2, yc3, setA, setB, String.reduceBEq, Nat.reduceEqDiff, Int.reduceEq, Nat.reduceAdd, Nat.reduceLeDiff, Nat.reduceLT, Int.reduceLE, Int.reduceLT, Int.reduceToNat, Int.reduceNegSucc, Nat.reduceMul, Int.reduceAdd, Nat.reduceBEq, Nat.reduceSub, Nat.reducePow, Int.reduceBEq, reduceCtorEq, E0P, E0hand, E0hard, E0row, E0nw, E0aown, E0glob, ↓reduceIte]
  · simp -implicitDefEqProofs only [c21_20_e, K21_14, yc2, setA, setB, String.reduceBEq, Nat.reduceEqDiff, Int.reduceEq, Nat.reduceAdd, Nat.reduceLeDiff, Nat.reduceLT, Int.reduceLE, Int.reduceLT, Int.reduceToNat, Int.reduceNegSucc, Nat.reduceMul, Int.reduceAdd, Nat.reduceBEq, Nat.reduceSub, Nat.reducePow, Int.reduceBEq, reduceCtorEq, E0P, E0hand, E0hard, E0row, E0nw, E0aown, E0glob, ↓reduceIte]
    exact mi (j21_31_t _)
noncomputable def l21_14 (a0_0 : Bool) (a0_1 : List Bs) (b1_0 : Bool) (b1_1 : List Bs) (i5 : Int) : Option R21 := iter (fun x : Bool × List Bs × Bool × List Bs × Int => s21_14 x.1 x.2.1 x.2.2.1 x.2.2.2.1 x.2.2.2.2) (a0_0, a0_1, b1_0, b1_1, i5)
theorem l21_14_t (a0_0 : Bool) (a0_1 : List Bs) (b1_0 : Bool) (b1_1 : List Bs) (i5 : Int) : bodyD (E0 mm) [.tmp 4] 0 false (seqD (E0 mm) 21 0 (callW (E0 mm)) itW c21_31 (blockD 0 (itW (loopF (E0 mm) 21 0 (callW (E0 mm)) itW c21_15 [(0, .keep), (1, .keep), (5, .keep)]) (none, [.v (.c (.d (.lst a0_0 (enL en0 a0_1)))), .v (.c (.d (.lst b1_0 (enL en0 b1_1)))), .v (.c (.d (.sc (.int .i64 i5))))], [])))) = (l21_14 a0_0 a0_1 b1_0 b1_1 i5).map e21 :=
  it_sim (K := (K21_14 (mm := mm))) rfl (enc := en21_14) (fun x => s21_14_t x.1 x.2.1 x.2.2.1 x.2.2.2.1 x.2.2.2.2) (a0_0, a0_1, b1_0, b1_1, i5)
noncomputable def m21 (a_0 : Bool) (a_1 : List Bs) (b_0 : Bool) (b_1 : List Bs) : Option R21 :=
  if ((a_1.length : Int) == (b_1.length : Int)) = true then
    l21_14 a_0 a_1 b_0 b_1 (0 : Int)
  else
    some false
set_option maxRecDepth 100000 in
theorem f21_t (a_0 : Bool) (a_1 : List Bs) (b_0 : Bool) (b_1 : List Bs) :
    callW (E0 mm) 21 [.c (.d (.lst a_0 (enL en0 a_1))), .c (.d (.lst b_0 (enL en0 b_1)))] [] = (m21 a_0 a_1 b_0 b_1).map e21 := by
  rw [callW_run (body := c21_0) (res := [.tmp 4]) Tryd.func21 rfl rfl (by kernel_rfl)]
  simp -implicitDefEqProofs only [m21, slots2, c21_0_e, c21_1_r, (show opsOf c21_1 = _ :: _ from rfl), c21_2_e, c21_3_e, c21_4_r, (show opsOf c21_4 = _ :: _ from rfl), Tryd.underlying27, (show c21_5 = Code.cond _ c21_6 c21_9 from rfl), setA, setB, String.reduceBEq, Nat.reduceEqDiff, Int.reduceEq, Nat.reduceAdd, Nat.reduceLeDiff, Nat.reduceLT, Int.reduceLE, Int.reduceLT, Int.reduceToNat, Int.reduceNegSucc, Nat.reduceMul, Int.reduceAdd, Nat.reduceBEq, Nat.reduceSub, Nat.reducePow, Int.reduceBEq, reduceCtorEq, E0P, E0hand, E0hard, E0row, E0nw, E0aown, E0glob, ↓reduceIte]
  refine brB (fun yc1 => ?_) (fun yc1 => ?_)
  · simp -implicitDefEqProofs only [c21_9_e, c21_10_e, c21_11_e, c21_12_r, (show opsOf c21_12 = _ :: _ from rfl), c21_13_e, c21_14_l, yc1, setA, setB, String.reduceBEq, Nat.reduceEqDiff, Int.reduceEq, Nat.reduceAdd, Nat.reduceLeDiff, Nat.reduceLT, Int.reduceLE, Int.reduceLT, Int.reduceToNat, Int.reduceNegSucc, Nat.reduceMul, Int.reduceAdd, Nat.reduceBEq, Nat.reduceSub, Nat.reducePow, Int.reduceBEq, reduceCtorEq, E0P, E0hand, E0hard, E0row, E0nw, E0aown, E0glob, ↓reduceIte]
    exact l21_14_t a_0 a_1 b_0 b_1 (0 : Int)
  · simp -implicitDefEqProofs only [c21_6_e, c21_7_r, (show opsOf c21_7 = _ :: _ from rfl), c21_8_e, yc1, setA, setB, String.reduceBEq, Nat.reduceEqDiff, Int.reduceEq, Nat.reduceAdd, Nat.reduceLeDiff, Nat.reduceLT, Int.reduceLE, Int.reduceLT, Int.reduceToNat, Int.reduceNegSucc, Nat.reduceMul, Int.reduceAdd, Nat.reduceBEq, Nat.reduceSub, Nat.reducePow, Int.reduceBEq, reduceCtorEq, E0P, E0hand, E0hard, E0row, E0nw, E0aown, E0glob, ↓reduceIte]
    all_goals rfl
/-! tollhouse/text.Unquote -/
noncomputable def c24_0 : Code := bodyOf Tryd.f24
noncomputable def c24_1 : Code := cA c24_0
noncomputable def c24_2 : Code := cB c24_0
noncomputable def c24_3 : Code := cA c24_2
noncomputable def c24_4 : Code := cA c24_3
noncomputable def c24_5 : Code := cB c24_3
noncomputable def c24_6 : Code := cA c24_5
noncomputable def c24_7 : Code := cA c24_6
noncomputable def c24_8 : Code := cB c24_6
noncomputable def c24_9 : Code := cB c24_5
noncomputable def c24_10 : Code := cB c24_2
noncomputable def c24_11 : Code := cA c24_10
noncomputable def c24_12 : Code := cB c24_10
noncomputable def c24_13 : Code := cA c24_12
noncomputable def c24_14 : Code := cB c24_12
noncomputable def c24_15 : Code := cA c24_14
noncomputable def c24_16 : Code := cA c24_15
noncomputable def c24_17 : Code := cB c24_15
noncomputable def c24_18 : Code := cA c24_17
noncomputable def c24_19 : Code := cA c24_18
noncomputable def c24_20 : Code := cA c24_19
noncomputable def c24_21 : Code := cA c24_20
noncomputable def c24_22 : Code := cB c24_20
noncomputable def c24_23 : Code := cA c24_22
noncomputable def c24_24 : Code := cB c24_22
noncomputable def c24_25 : Code := cB c24_19
noncomputable def c24_26 : Code := cA c24_25
noncomputable def c24_27 : Code := cA c24_26
noncomputable def c24_28 : Code := cA c24_27
noncomputable def c24_29 : Code := cA c24_28
noncomputable def c24_30 : Code := cA c24_29
noncomputable def c24_31 : Code := cB c24_29
noncomputable def c24_32 : Code := cA c24_31
noncomputable def c24_33 : Code := cA c24_32
noncomputable def c24_34 : Code := cB c24_32
noncomputable def c24_35 : Code := cB c24_31
noncomputable def c24_36 : Code := cA c24_35
noncomputable def c24_37 : Code := cB c24_35
noncomputable def c24_38 : Code := cA c24_37
noncomputable def c24_39 : Code := cA c24_38
noncomputable def c24_40 : Code := cB c24_38
noncomputable def c24_41 : Code := cA c24_40
noncomputable def c24_42 : Code := cB c24_40
noncomputable def c24_43 : Code := cA c24_42
noncomputable def c24_44 : Code := cA c24_43
noncomputable def c24_45 : Code := cB c24_43
noncomputable def c24_46 : Code := cB c24_42
noncomputable def c24_47 : Code := cB c24_37
noncomputable def c24_48 : Code := cB c24_27
noncomputable def c24_49 : Code := cA c24_48
noncomputable def c24_50 : Code := cA c24_49
noncomputable def c24_51 : Code := cB c24_49
noncomputable def c24_52 : Code := cA c24_51
noncomputable def c24_53 : Code := cA c24_52
noncomputable def c24_54 : Code := cB c24_52
noncomputable def c24_55 : Code := cB c24_51
noncomputable def c24_56 : Code := cB c24_48
noncomputable def c24_57 : Code := cB c24_25
noncomputable def c24_58 : Code := cB c24_14
noncomputable def c24_59 : Code := cA c24_58
noncomputable def c24_60 : Code := cB c24_58
theorem c24_0_e : c24_0 = .seq c24_1 c24_2 := rfl
theorem c24_1_r (m : Nat) (st : St) : den (E0 mm) 24 m (callW (E0 mm)) itW c24_1 none st = regD (runOps (E0 mm) (callW (E0 mm)) (opsOf c24_1) (opsOf c24_1) st) := den_rg (by rfl)
theorem c24_2_e : c24_2 = .seq c24_3 c24_10 := rfl
theorem c24_3_e : c24_3 = .seq c24_4 c24_5 := rfl
theorem c24_4_r (m : Nat) (st : St) : den (E0 mm) 24 m (callW (E0 mm)) itW c24_4 none st = regD (runOps (E0 mm) (callW (E0 mm)) (opsOf c24_4) (opsOf c24_4) st) := den_rg (by rfl)
theorem c24_6_e : c24_6 = .seq c24_7 c24_8 := rfl
theorem c24_7_r (m : Nat) (st : St) : den (E0 mm) 24 m (callW (E0 mm)) itW c24_7 none st = regD (runOps (E0 mm) (callW (E0 mm)) (opsOf c24_7) (opsOf c24_7) st) := den_rg (by rfl)
theorem c24_8_e : c24_8 = .ret := rfl
theorem c24_9_e : c24_9 = .skip := rfl
theorem c24_10_e : c24_10 = .seq c24_11 c24_12 := rfl
theorem c24_11_r (m : Nat) (st : St) : den (E0 mm) 24 m (callW (E0 mm)) itW c24_11 none st = regD (runOps (E0 mm) (callW (E0 mm)) (opsOf c24_11) (opsOf c24_11) st) := den_rg (by rfl)
theorem c24_12_e : c24_12 = .seq c24_13 c24_14 := rfl
theorem c24_13_r (m : Nat) (st : St) : den (E0 mm) 24 m (callW (E0 mm)) itW c24_13 none st = regD (runOps (E0 mm) (callW (E0 mm)) (opsOf c24_13) (opsOf c24_13) st) := den_rg (by rfl)
theorem c24_14_e : c24_14 = .seq c24_15 c24_58 := rfl
theorem c24_15_e : c24_15 = .seq c24_16 c24_17 := rfl
theorem c24_16_r (m : Nat) (st : St) : den (E0 mm) 24 m (callW (E0 mm)) itW c24_16 none st = regD (runOps (E0 mm) (callW (E0 mm)) (opsOf c24_16) (opsOf c24_16) st) := den_rg (by rfl)
theorem c24_17_e : c24_17 = .block 0 c24_18 := rfl
theorem c24_18_l (m : Nat) (st : St) : den (E0 mm) 24 m (callW (E0 mm)) itW c24_18 none st = loopD itW (loopF (E0 mm) 24 m (callW (E0 mm)) itW c24_19 [(4, .own), (5, .keep), (6, .keep)]) (canon m [(4, .own), (5, .keep), (6, .keep)] st) := rfl
theorem c24_19_e : c24_19 = .seq c24_20 c24_25 := rfl
theorem c24_20_e : c24_20 = .seq c24_21 c24_22 := rfl
theorem c24_21_r (m : Nat) (st : St) : den (E0 mm) 24 m (callW (E0 mm)) itW c24_21 none st = regD (runOps (E0 mm) (callW (E0 mm)) (opsOf c24_21) (opsOf c24_21) st) := den_rg (by rfl)
theorem c24_23_e : c24_23 = .skip := rfl
theorem c24_24_e : c24_24 = .exit 0 := rfl
theorem c24_25_e : c24_25 = .seq c24_26 c24_57 := rfl
theorem c24_26_e : c24_26 = .block 1 c24_27 := rfl
theorem c24_27_e : c24_27 = .seq c24_28 c24_48 := rfl
theorem c24_28_e : c24_28 = .block 2 c24_29 := rfl
theorem c24_29_e : c24_29 = .seq c24_30 c24_31 := rfl
theorem c24_30_r (m : Nat) (st : St) : den (E0 mm) 24 m (callW (E0 mm)) itW c24_30 none st = regD (runOps (E0 mm) (callW (E0 mm)) (opsOf c24_30) (opsOf c24_30) st) := den_rg (by rfl)
theorem c24_32_e : c24_32 = .seq c24_33 c24_34 := rfl
theorem c24_33_r (m : Nat) (st : St) : den (E0 mm) 24 m (callW (E0 mm)) itW c24_33 none st = regD (runOps (E0 mm) (callW (E0 mm)) (opsOf c24_33) (opsOf c24_33) st) := den_rg (by rfl)
theorem c24_34_e : c24_34 = .ret := rfl
theorem c24_35_e : c24_35 = .seq c24_36 c24_37 := rfl
theorem c24_36_r (m : Nat) (st : St) : den (E0 mm) 24 m (callW (E0 mm)) itW c24_36 none st = regD (runOps (E0 mm) (callW (E0 mm)) (opsOf c24_36) (opsOf c24_36) st) := den_rg (by rfl)
theorem c24_38_e : c24_38 = .seq c24_39 c24_40 := rfl
theorem c24_39_r (m : Nat) (st : St) : den (E0 mm) 24 m (callW (E0 mm)) itW c24_39 none st = regD (runOps (E0 mm) (callW (E0 mm)) (opsOf c24_39) (opsOf c24_39) st) := den_rg (by rfl)
theorem c24_40_e : c24_40 = .seq c24_41 c24_42 := rfl
theorem c24_41_r (m : Nat) (st : St) : den (E0 mm) 24 m (callW (E0 mm)) itW c24_41 none st = regD (runOps (E0 mm) (callW (E0 mm)) (opsOf c24_41) (opsOf c24_41) st) := den_rg (by rfl)
theorem c24_43_e : c24_43 = .seq c24_44 c24_45 := rfl
theorem c24_44_r (m : Nat) (st : St) : den (E0 mm) 24 m (callW (E0 mm)) itW c24_44 none st = regD (runOps (E0 mm) (callW (E0 mm)) (opsOf c24_44) (opsOf c24_44) st) := den_rg (by rfl)
theorem c24_45_e : c24_45 = .ret := rfl
theorem c24_46_e : c24_46 = .skip := rfl
theorem c24_47_e : c24_47 = .skip := rfl
theorem c24_48_e : c24_48 = .seq c24_49 c24_56 := rfl
theorem c24_49_e : c24_49 = .seq c24_50 c24_51 := rfl
theorem c24_50_r (m : Nat) (st : St) : den (E0 mm) 24 m (callW (E0 mm)) itW c24_50 none st = regD (runOps (E0 mm) (callW (E0 mm)) (opsOf c24_50) (opsOf c24_50) st) := den_rg (by rfl)
theorem c24_52_e : c24_52 = .seq c24_53 c24_54 := rfl
theorem c24_53_r (m : Nat) (st : St) : den (E0 mm) 24 m (callW (E0 mm)) itW c24_53 none st = regD (runOps (E0 mm) (callW (E0 mm)) (opsOf c24_53) (opsOf c24_53) st) := den_rg (by rfl)
theorem c24_54_e : c24_54 = .ret := rfl
theorem c24_55_e : c24_55 = .skip := rfl
theorem c24_56_r (m : Nat) (st : St) : den (E0 mm) 24 m (callW (E0 mm)) itW c24_56 none st = regD (runOps (E0 mm) (callW (E0 mm)) (opsOf c24_56) (opsOf c24_56) st) := den_rg (by rfl)
theorem c24_57_r (m : Nat) (st : St) : den (E0 mm) 24 m (callW (E0 mm)) itW c24_57 none st = regD (runOps (E0 mm) (callW (E0 mm)) (opsOf c24_57) (opsOf c24_57) st) := den_rg (by rfl)
theorem c24_58_e : c24_58 = .seq c24_59 c24_60 := rfl
theorem c24_59_r (m : Nat) (st : St) : den (E0 mm) 24 m (callW (E0 mm)) itW c24_59 none st = regD (runOps (E0 mm) (callW (E0 mm)) (opsOf c24_59) (opsOf c24_59) st) := den_rg (by rfl)
theorem c24_60_e : c24_60 = .ret := rfl
abbrev R24 := (Bs × Bool)
def e24 : R24 → AV × Heap := fun x => (.tup [.c (.d (.sc (.string (S x.1)))), .c (.d (.sc (.bool x.2)))], [])
noncomputable def K24_18 : Option (Ex × St) → Option (AV × Heap) := fun r => bodyD (E0 mm) [.tmp 2, .tmp 3] 0 false (seqD (E0 mm) 24 0 (callW (E0 mm)) itW c24_58 (blockD 0 (r)))
def en24_18 : Bool × List UInt8 × Bs × Int → X := fun x => (none, [.v (.c (.own x.1 (enL enB x.2.1) 0)), .v (.c (.d (.sc (.string (S x.2.2.1))))), .v (.c (.d (.sc (.int .i64 x.2.2.2))))], [.row x.2.1.length (rz x.1 1)])
noncomputable def j24_48 (b4_0 : Bool) (b4_1 : List UInt8) (in5 : Bs) (i6 : Int) : Option ((Bool × List UInt8 × Bs × Int) ⊕ R24) :=
  if 0 ≤ i6 ∧ i6 < (in5.length : Int) then
    (m33 (in5.getD i6.toNat 0)).bind fun yr14 =>
      if yr14 = true then
        if (b4_1.length + 1) * 1 ≤ 140737488355328 then
          some (.inl (false, (b4_1 ++ ([(in5.getD i6.toNat 0)] : List UInt8)), in5, (w64 (i6 + 1))))
        else none
      else
        some (.inr (([] : Bs), false))
  else none
set_option maxRecDepth 100000 in
theorem j24_48_t (b4_0 : Bool) (b4_1 : List UInt8) (in5 : Bs) (i6 : Int)  (sl : Nat → AV) (zq4 : sl 4 = .v (.c (.own b4_0 (enL enB b4_1) 0))) (zq5 : sl 5 = .v (.c (.d (.sc (.string (S in5)))))) (zq6 : sl 6 = .v (.c (.d (.sc (.int .i64 i6))))) :
    stepE (K24_18 (mm := mm)) (loopK 0 [(4, .own), (5, .keep), (6, .keep)] (seqD (E0 mm) 24 0 (callW (E0 mm)) itW c24_57 (blockD 1 (den (E0 mm) 24 0 (callW (E0 mm)) itW c24_48 none ⟨sl, [.row b4_1.length (rz b4_0 1)]⟩)))) = (j24_48 b4_0 b4_1 in5 i6).map (sm en24_18 e24) := by
  simp -implicitDefEqProofs only [j24_48, c24_48_e, c24_49_e, c24_50_r, (show opsOf c24_50 = _ :: _ from rfl), Tryd.underlying9, zq4, zq5, zq6, setA, setB, String.reduceBEq, Nat.reduceEqDiff, Int.reduceEq, Nat.reduceAdd, Nat.reduceLeDiff, Nat.reduceLT, Int.reduceLE, Int.reduceLT, Int.reduceToNat, Int.reduceNegSucc, Nat.reduceMul, Int.reduceAdd, Nat.reduceBEq, Nat.reduceSub, Nat.reducePow, Int.reduceBEq, reduceCtorEq, E0P, E0hand, E0hard, E0row, E0nw, E0aown, E0glob, ↓reduceIte]
  refine brP (fun yc12 => ?_) (fun yc12 => ?_)
  · simp -implicitDefEqProofs only [ent33, prm33, f33_t, zq4, zq5, zq6, yc12, setA, setB, String.reduceBEq, Nat.reduceEqDiff, Int.reduceEq, Nat.reduceAdd, Nat.reduceLeDiff, Nat.reduceLT, Int.reduceLE, Int.reduceLT, Int.reduceToNat, Int.reduceNegSucc, Nat.reduceMul, Int.reduceAdd, Nat.reduceBEq, Nat.reduceSub, Nat.reducePow, Int.reduceBEq, reduceCtorEq, E0P, E0hand, E0hard, E0row, E0nw, E0aown, E0glob, ↓reduceIte]
    refine brM (fun yc13 => ?_) (fun yr14 yc13 => ?_)
    · simp -implicitDefEqProofs only [yc13, zq4, zq5, zq6, yc12, e33, setA, setB, String.reduceBEq, Nat.reduceEqDiff, Int.reduceEq, Nat.reduceAdd, Nat.reduceLeDiff, Nat.reduceLT, Int.reduceLE, Int.reduceLT, Int.reduceToNat, Int.reduceNegSucc, Nat.reduceMul, Int.reduceAdd, Nat.reduceBEq, Nat.reduceSub, Nat.reducePow, Int.reduceBEq, reduceCtorEq, E0P, E0hand, E0hard, E0row, E0nw, E0aown, E0glob, ↓reduceIte]
    · simp -implicitDefEqProofs only [e33, (show c24_51 = Code.cond _ c24_52 c24_55 from rfl), zq4, zq5, zq6, yc12, yc13, setA, setB, String.reduceBEq, Nat.reduceEqDiff, Int.reduceEq, Nat.reduceAdd, Nat.reduceLeDiff, Nat.reduceLT, Int.reduceLE, Int.reduceLT, Int.reduceToNat, Int.reduceNegSucc, Nat.reduceMul, Int.reduceAdd, Nat.reduceBEq, Nat.reduceSub, Nat.reducePow, Int.reduceBEq, reduceCtorEq, E0P, E0hand, E0hard, E0row, E0nw, E0aown, E0glob, ↓reduceIte]
      refine brB (fun yc15 => ?_) (fun yc15 => ?_)
      · simp -implicitDefEqProofs only [c24_55_e, c24_56_r, (show opsOf c24_56 = _ :: _ from rfl), Tryd.underlying9, Tryd.underlying33, sz5, zc5, ns0, ap33, zq4, zq5, zq6, yc12, yc13, yc15, setA, setB, String.reduceBEq, Nat.reduceEqDiff, Int.reduceEq, Nat.reduceAdd, Nat.reduceLeDiff, Nat.reduceLT, Int.reduceLE, Int.reduceLT, Int.reduceToNat, Int.reduceNegSucc, Nat.reduceMul, Int.reduceAdd, Nat.reduceBEq, Nat.reduceSub, Nat.reducePow, Int.reduceBEq, reduceCtorEq, E0P, E0hand, E0hard, E0row, E0nw, E0aown, E0glob, ↓reduceIte]
        refine brP (fun yc16 => ?_) (fun yc16 => ?_)
        · simp -implicitDefEqProofs only [c24_57_r, (show opsOf c24_57 = _ :: _ from rfl), zq4, zq5, zq6, yc12, yc13, yc15, yc16, setA, setB, String.reduceBEq, Nat.reduceEqDiff, Int.reduceEq, Nat.reduceAdd, Nat.reduceLeDiff, Nat.reduceLT, Int.reduceLE, Int.reduceLT, Int.reduceToNat, Int.reduceNegSucc, Nat.reduceMul, Int.reduceAdd, Nat.reduceBEq, Nat.reduceSub, Nat.reducePow, Int.reduceBEq, reduceCtorEq, E0P, E0hand, E0hard, E0row, E0nw, E0aown, E0glob, ↓reduceIte]
          all_goals rfl
        · simp -implicitDefEqProofs only [zq4, zq5, zq6, yc12, yc13, yc15, yc16, setA, setB, String.reduceBEq, Nat.reduceEqDiff, Int.reduceEq, Nat.reduceAdd, Nat.reduceLeDiff, Nat.reduceLT, Int.reduceLE, Int.reduceLT, Int.reduceToNat, Int.reduceNegSucc, Nat.reduceMul, Int.reduceAdd, Nat.reduceBEq, Nat.reduceSub, Nat.reducePow, Int.reduceBEq, reduceCtorEq, E0P, E0hand, E0hard, E0row, E0nw, E0aown, E0glob, ↓reduceIte]
      · simp -implicitDefEqProofs only [c24_52_e, c24_53_r, (show opsOf c24_53 = _ :: _ from rfl), c24_54_e, K24_18, zq4, zq5, zq6, yc12, yc13, yc15, setA, setB, String.reduceBEq, Nat.reduceEqDiff, Int.reduceEq, Nat.reduceAdd, Nat.reduceLeDiff, Nat.reduceLT, Int.reduceLE, Int.reduceLT, Int.reduceToNat, Int.reduceNegSucc, Nat.reduceMul, Int.reduceAdd, Nat.reduceBEq, Nat.reduceSub, Nat.reducePow, Int.reduceBEq, reduceCtorEq, E0P, E0hand, E0hard, E0row, E0nw, E0aown, E0glob, ↓reduceIte]
        all_goals rfl
  · simp -implicitDefEqProofs only [zq4, zq5, zq6, yc12, setA, setB, String.reduceBEq, Nat.reduceEqDiff, Int.reduceEq, Nat.reduceAdd, Nat.reduceLeDiff, Nat.reduceLT, Int.reduceLE, Int.reduceLT, Int.reduceToNat, Int.reduceNegSucc, Nat.reduceMul, Int.reduceAdd, Nat.reduceBEq, Nat.reduceSub, Nat.reducePow, Int.reduceBEq, reduceCtorEq, E0P, E0hand, E0hard, E0row, E0nw, E0aown, E0glob, ↓reduceIte]
noncomputable def j24_58 (b4_0 : Bool) (b4_1 : List UInt8) : Option R24 :=
  some (b4_1, true)
set_option maxRecDepth 100000 in
theorem j24_58_t (b4_0 : Bool) (b4_1 : List UInt8)  (sl : Nat → AV) (zq4 : sl 4 = .v (.c (.own b4_0 (enL enB b4_1) 0))) :
    bodyD (E0 mm) [.tmp 2, .tmp 3] 0 false (den (E0 mm) 24 0 (callW (E0 mm)) itW c24_58 none ⟨sl, [.row b4_1.length (rz b4_0 1)]⟩) = (j24_58 b4_0 b4_1).map e24 := by
  simp -implicitDefEqProofs only [j24_58, c24_58_e, c24_59_r, (show opsOf c24_59 = _ :: _ from rfl), Tryd.underlying33, Tryd.underlying9, Tryd.underlying5, c24_60_e, zq4, setA, setB, String.reduceBEq, Nat.reduceEqDiff, Int.reduceEq, Nat.reduceAdd, Nat.reduceLeDiff, Nat.reduceLT, Int.reduceLE, Int.reduceLT, Int.reduceToNat, Int.reduceNegSucc, Nat.reduceMul, Int.reduceAdd, Nat.reduceBEq, Nat.reduceSub, Nat.reducePow, Int.reduceBEq, reduceCtorEq, E0P, E0hand, E0hard, E0row, E0nw, E0aown, E0glob, ↓reduceIte]
  all_goals rfl
noncomputable def s24_18 (b4_0 : Bool) (b4_1 : List UInt8) (in5 : Bs) (i6 : Int) : Option ((Bool × List UInt8 × Bs × Int) ⊕ R24) :=
  if (decide (i6 < (in5.length : Int))) = true then
    if 0 ≤ i6 ∧ i6 < (in5.length : Int) then
      if ((in5.getD i6.toNat 0) == (34 : UInt8)) = true then
        some (.inr (([] : Bs), false))
      else
        if ((in5.getD i6.toNat 0) == (92 : UInt8)) = true then
          if ((w64 (i6 + 1)) == (in5.length : Int)) = true then
            some (.inr (([] : Bs), false))
          else
            j24_48 b4_0 b4_1 in5 (w64 (i6 + 1))
        else
          j24_48 b4_0 b4_1 in5 i6
    else none
  else
    (j24_58 b4_0 b4_1).map .inr
set_option maxRecDepth 100000 in
theorem s24_18_t (b4_0 : Bool) (b4_1 : List UInt8) (in5 : Bs) (i6 : Int) :
    stepE (K24_18 (mm := mm)) (loopF (E0 mm) 24 0 (callW (E0 mm)) itW c24_19 [(4, .own), (5, .keep), (6, .keep)] (none, [.v (.c (.own b4_0 (enL enB b4_1) 0)), .v (.c (.d (.sc (.string (S in5))))), .v (.c (.d (.sc (.int .i64 i6))))], [.row b4_1.length (rz b4_0 1)])) = (s24_18 b4_0 b4_1 in5 i6).map (sm en24_18 e24) := by
  simp -implicitDefEqProofs only [s24_18, loopF_eq, c24_19_e, c24_20_e, c24_21_r, (show opsOf c24_21 = _ :: _ from rfl), Tryd.underlying9, (show c24_22 = Code.cond _ c24_23 c24_24 from rfl), setA, setB, String.reduceBEq, Nat.reduceEqDiff, Int.reduceEq, Nat.reduceAdd, Nat.reduceLeDiff, Nat.reduceLT, Int.reduceLE, Int.reduceLT, Int.reduceToNat, Int.reduceNegSucc, Nat.reduceMul, Int.reduceAdd, Nat.reduceBEq, Nat.reduceSub, Nat.reducePow, Int.reduceBEq, reduceCtorEq, E0P, E0hand, E0hard, E0row, E0nw, E0aown, E0glob, ↓reduceIte]
  refine brB (fun yc7 => ?_) (fun yc7 => ?_)
  · simp -implicitDefEqProofs only [c24_23_e, c24_25_e, c24_26_e, c24_27_e, c24_28_e, c24_29_e, c24_30_r, (show opsOf c24_30 = _ :: _ from rfl), Tryd.underlying9, yc7, setA, setB, String.reduceBEq, Nat.reduceEqDiff, Int.reduceEq, Nat.reduceAdd, Nat.reduceLeDiff, Nat.reduceLT, Int.reduceLE, Int.reduceLT, Int.reduceToNat, Int.reduceNegSucc, Nat.reduceMul, Int.reduceAdd, Nat.reduceBEq, Nat.reduceSub, Nat.reducePow, Int.reduceBEq, reduceCtorEq, E0P, E0hand, E0hard, E0row, E0nw, E0aown, E0glob, ↓reduceIte]
    refine brP (fun yc8 => ?_) (fun yc8 => ?_)
    · simp -implicitDefEqProofs only [(show c24_31 = Code.cond _ c24_32 c24_35 from rfl), yc7, yc8, setA, setB, String.reduceBEq, Nat.reduceEqDiff, Int.reduceEq, Nat.reduceAdd, Nat.reduceLeDiff, Nat.reduceLT, Int.reduceLE, Int.reduceLT, Int.reduceToNat, Int.reduceNegSucc, Nat.reduceMul, Int.reduceAdd, Nat.reduceBEq, Nat.reduceSub, Nat.reducePow, Int.reduceBEq, reduceCtorEq, E0P, E0hand, E0hard, E0row, E0nw, E0aown, E0glob, ↓reduceIte]
      refine brB (fun yc9 => ?_) (fun yc9 => ?_)
      · simp -implicitDefEqProofs only [c24_32_e, c24_33_r, (show opsOf c24_33 = _ :: _ from rfl), c24_34_e, K24_18, yc7, yc8, yc9, setA, setB, String.reduceBEq, Nat.reduceEqDiff, Int.reduceEq, Nat.reduceAdd, Nat.reduceLeDiff, Nat.reduceLT, Int.reduceLE, Int.reduceLT, Int.reduceToNat, Int.reduceNegSucc, Nat.reduceMul, Int.reduceAdd, Nat.reduceBEq, Nat.reduceSub, Nat.reducePow, Int.reduceBEq, reduceCtorEq, E0P, E0hand, E0hard, E0row, E0nw, E0aown, E0glob, ↓reduceIte]
        all_goals rfl
      · simp -implicitDefEqProofs only [c24_35_e, c24_36_r, (show opsOf c24_36 = _ :: _ from rfl), Tryd.underlying9, (show c24_37 = Code.cond _ c24_38 c24_47 from rfl), yc7, yc8, yc9, setA, setB, String.reduceBEq, Nat.reduceEqDiff, Int.reduceEq, Nat.reduceAdd, Nat.reduceLeDiff, Nat.reduceLT, Int.reduceLE, Int.reduceLT, Int.reduceToNat, Int.reduceNegSucc, Nat.reduceMul, Int.reduceAdd, Nat.reduceBEq, Nat.reduceSub, Nat.reducePow, Int.reduceBEq, reduceCtorEq, E0P, E0hand, E0hard, E0row, E0nw, E0aown, E0glob, ↓reduceIte]
        refine brB (fun yc10 => ?_) (fun yc10 => ?_)
        · simp -implicitDefEqProofs only [c24_38_e, c24_39_r, (show opsOf c24_39 = _ :: _ from rfl), c24_40_e, c24_41_r, (show opsOf c24_41 = _ :: _ from rfl), Tryd.underlying9, (show c24_42 = Code.cond _ c24_43 c24_46 from rfl), yc7, yc8, yc9, yc10, setA, setB, String.reduceBEq, Nat.reduceEqDiff, Int.reduceEq, Nat.reduceAdd, Nat.reduceLeDiff, Nat.reduceLT, Int.reduceLE, Int.reduceLT, Int.reduceToNat, Int.reduceNegSucc, Nat.reduceMul, Int.reduceAdd, Nat.reduceBEq, Nat.reduceSub, Nat.reducePow, Int.reduceBEq, reduceCtorEq, E0P, E0hand, E0hard, E0row, E0nw, E0aown, E0glob, ↓reduceIte]
          refine brB (fun yc11 => ?_) (fun yc11 => ?_)
          · simp -implicitDefEqProofs only [c24_43_e, c24_44_r, (show opsOf c24_44 = _ :: _ from rfl), c24_45_e, K24_18, yc7, yc8, yc9, yc10, yc11, setA, setB, String.reduceBEq, Nat.reduceEqDiff, Int.reduceEq, Nat.reduceAdd, Nat.reduceLeDiff, Nat.reduceLT, Int.reduceLE, Int.reduceLT, Int.reduceToNat, Int.reduceNegSucc, Nat.reduceMul, Int.reduceAdd, Nat.reduceBEq, Nat.reduceSub, Nat.reducePow, Int.reduceBEq, reduceCtorEq, E0P, E0hand, E0hard, E0row, E0nw, E0aown, E0glob, ↓reduceIte]
            all_goals rfl
          · simp -implicitDefEqProofs only [c24_46_e, yc7, yc8, yc9, yc10, yc11, setA, setB, String.reduceBEq, Nat.reduceEqDiff, Int.reduceEq, Nat.reduceAdd, Nat.reduceLeDiff, Nat.reduceLT, Int.reduceLE, Int.reduceLT, Int.reduceToNat, Int.reduceNegSucc, Nat.reduceMul, Int.reduceAdd, Nat.reduceBEq, Nat.reduceSub, Nat.reducePow, Int.reduceBEq, reduceCtorEq, E0P, E0hand, E0hard, E0row, E0nw, E0aown, E0glob, ↓reduceIte]
            exact j24_48_t b4_0 b4_1 in5 (w64 (i6 + 1)) _ (by rfl) (by rfl) (by rfl)
        · simp -implicitDefEqProofs only [c24_47_e, yc7, yc8, yc9, yc10, setA, setB, String.reduceBEq, Nat.reduceEqDiff, Int.reduceEq, Nat.reduceAdd, Nat.reduceLeDiff, Nat.reduceLT, Int.reduceLE, Int.reduceLT, Int.reduceToNat, Int.reduceNegSucc, Nat.reduceMul, Int.reduceAdd, Nat.reduceBEq, Nat.reduceSub, Nat.reducePow, Int.reduceBEq, reduceCtorEq, E0P, E0hand, E0hard, E0row, E0nw, E0aown, E0glob, ↓reduceIte]
          exact j24_48_t b4_0 b4_1 in5 i6 _ (by rfl) (by rfl) (by rfl)
    · simp -implicitDefEqProofs only [yc7, yc8, setA, setB, String.reduceBEq, Nat.reduceEqDiff, Int.reduceEq, Nat.reduceAdd, Nat.reduceLeDiff, Nat.reduceLT, Int.reduceLE, Int.reduceLT, Int.reduceToNat, Int.reduceNegSucc, Nat.reduceMul, Int.reduceAdd, Nat.reduceBEq, Nat.reduceSub, Nat.reducePow, Int.reduceBEq, reduceCtorEq, E0P, E0hand, E0hard, E0row, E0nw, E0aown, E0glob, ↓reduceIte]
  · simp -implicitDefEqProofs only [c24_24_e, K24_18, yc7, setA, setB, String.reduceBEq, Nat.reduceEqDiff, Int.reduceEq, Nat.reduceAdd, Nat.reduceLeDiff, Nat.reduceLT, Int.reduceLE, Int.reduceLT, Int.reduceToNat, Int.reduceNegSucc, Nat.reduceMul, Int.reduceAdd, Nat.reduceBEq, Nat.reduceSub, Nat.reducePow, Int.reduceBEq, reduceCtorEq, E0P, E0hand, E0hard, E0row, E0nw, E0aown, E0glob, ↓reduceIte]
    exact mi (j24_58_t b4_0 b4_1 _ (by rfl))
noncomputable def l24_18 (b4_0 : Bool) (b4_1 : List UInt8) (in5 : Bs) (i6 : Int) : Option R24 := iter (fun x : Bool × List UInt8 × Bs × Int => s24_18 x.1 x.2.1 x.2.2.1 x.2.2.2) (b4_0, b4_1, in5, i6)
theorem l24_18_t (b4_0 : Bool) (b4_1 : List UInt8) (in5 : Bs) (i6 : Int) : bodyD (E0 mm) [.tmp 2, .tmp 3] 0 false (seqD (E0 mm) 24 0 (callW (E0 mm)) itW c24_58 (blockD 0 (itW (loopF (E0 mm) 24 0 (callW (E0 mm)) itW c24_19 [(4, .own), (5, .keep), (6, .keep)]) (none, [.v (.c (.own b4_0 (enL enB b4_1) 0)), .v (.c (.d (.sc (.string (S in5))))), .v (.c (.d (.sc (.int .i64 i6))))], [.row b4_1.length (rz b4_0 1)])))) = (l24_18 b4_0 b4_1 in5 i6).map e24 :=
  it_sim (K := (K24_18 (mm := mm))) rfl (enc := en24_18) (fun x => s24_18_t x.1 x.2.1 x.2.2.1 x.2.2.2) (b4_0, b4_1, in5, i6)
noncomputable def j24_5 (s0 : Bs) (t22 : Bool) : Option R24 :=
  if t22 = true then
    some (([] : Bs), false)
  else
    (bnd (w64 ((s0.length : Int) - 1)) s0.length).bind fun yk4 =>
      (bnd 1 yk4).bind fun yk6 =>
        l24_18 true ([] : List UInt8) ((s0.take yk4).drop yk6) (0 : Int)
set_option maxRecDepth 100000 in
theorem j24_5_t (s0 : Bs) (t22 : Bool)  (sl : Nat → AV) (zq0 : sl 0 = .v (.c (.d (.sc (.string (S s0)))))) (zq22 : sl 22 = .v (.c (.d (.sc (.bool t22))))) :
    bodyD (E0 mm) [.tmp 2, .tmp 3] 0 false (seqD (E0 mm) 24 0 (callW (E0 mm)) itW c24_10 (den (E0 mm) 24 0 (callW (E0 mm)) itW c24_5 none ⟨sl, []⟩)) = (j24_5 s0 t22).map e24 := by
  simp -implicitDefEqProofs only [j24_5, (show c24_5 = Code.cond _ c24_6 c24_9 from rfl), zq0, zq22, setA, setB, String.reduceBEq, Nat.reduceEqDiff, Int.reduceEq, Nat.reduceAdd, Nat.reduceLeDiff, Nat.reduceLT, Int.reduceLE, Int.reduceLT, Int.reduceToNat, Int.reduceNegSucc, Nat.reduceMul, Int.reduceAdd, Nat.reduceBEq, Nat.reduceSub, Nat.reducePow, Int.reduceBEq, reduceCtorEq, E0P, E0hand, E0hard, E0row, E0nw, E0aown, E0glob, ↓reduceIte]
  refine brB (fun yc2 => ?_) (fun yc2 => ?_)
  · simp -implicitDefEqProofs only [c24_6_e, c24_7_r, (show opsOf c24_7 = _ :: _ from rfl), c24_8_e, zq0, zq22, yc2, setA, setB, String.reduceBEq, Nat.reduceEqDiff, Int.reduceEq, Nat.reduceAdd, Nat.reduceLeDiff, Nat.reduceLT, Int.reduceLE, Int.reduceLT, Int.reduceToNat, Int.reduceNegSucc, Nat.reduceMul, Int.reduceAdd, Nat.reduceBEq, Nat.reduceSub, Nat.reducePow, Int.reduceBEq, reduceCtorEq, E0P, E0hand, E0hard, E0row, E0nw, E0aown, E0glob, ↓reduceIte]
    all_goals rfl
  · simp -implicitDefEqProofs only [c24_9_e, c24_10_e, c24_11_r, (show opsOf c24_11 = _ :: _ from rfl), c24_12_e, c24_13_r, (show opsOf c24_13 = _ :: _ from rfl), Tryd.underlying9, zq0, zq22, yc2, setA, setB, String.reduceBEq, Nat.reduceEqDiff, Int.reduceEq, Nat.reduceAdd, Nat.reduceLeDiff, Nat.reduceLT, Int.reduceLE, Int.reduceLT, Int.reduceToNat, Int.reduceNegSucc, Nat.reduceMul, Int.reduceAdd, Nat.reduceBEq, Nat.reduceSub, Nat.reducePow, Int.reduceBEq, reduceCtorEq, E0P, E0hand, E0hard, E0row, E0nw, E0aown, E0glob, ↓reduceIte]
    refine brM (fun yc3 => ?_) (fun yk4 yc3 => ?_)
    · simp -implicitDefEqProofs only [yc3, zq0, zq22, yc2, setA, setB, String.reduceBEq, Nat.reduceEqDiff, Int.reduceEq, Nat.reduceAdd, Nat.reduceLeDiff, Nat.reduceLT, Int.reduceLE, Int.reduceLT, Int.reduceToNat, Int.reduceNegSucc, Nat.reduceMul, Int.reduceAdd, Nat.reduceBEq, Nat.reduceSub, Nat.reducePow, Int.reduceBEq, reduceCtorEq, E0P, E0hand, E0hard, E0row, E0nw, E0aown, E0glob, ↓reduceIte]
    · simp -implicitDefEqProofs only [zq0, zq22, yc2, yc3, setA, setB, String.reduceBEq, Nat.reduceEqDiff, Int.reduceEq, Nat.reduceAdd, Nat.reduceLeDiff, Nat.reduceLT, Int.reduceLE, Int.reduceLT, Int.reduceToNat, Int.reduceNegSucc, Nat.reduceMul, Int.reduceAdd, Nat.reduceBEq, Nat.reduceSub, Nat.reducePow, Int.reduceBEq, reduceCtorEq, E0P, E0hand, E0hard, E0row, E0nw, E0aown, E0glob, ↓reduceIte]
      refine brM (fun yc5 => ?_) (fun yk6 yc5 => ?_)
      · simp -implicitDefEqProofs only [yc5, zq0, zq22, yc2, yc3, setA, setB, String.reduceBEq, Nat.reduceEqDiff, Int.reduceEq, Nat.reduceAdd, Nat.reduceLeDiff, Nat.reduceLT, Int.reduceLE, Int.reduceLT, Int.reduceToNat, Int.reduceNegSucc, Nat.reduceMul, Int.reduceAdd, Nat.reduceBEq, Nat.reduceSub, Nat.reducePow, Int.reduceBEq, reduceCtorEq, E0P, E0hand, E0hard, E0row, E0nw, E0aown, E0glob, ↓reduceIte]
      · simp -implicitDefEqProofs only [c24_14_e, c24_15_e, c24_16_r, (show opsOf c24_16 = _ :: _ from rfl), c24_17_e, c24_18_l, zq0, zq22, yc2, yc3, yc5, setA, setB, String.reduceBEq, Nat.reduceEqDiff, Int.reduceEq, Nat.reduceAdd, Nat.reduceLeDiff, Nat.reduceLT, Int.reduceLE, Int.reduceLT, Int.reduceToNat, Int.reduceNegSucc, Nat.reduceMul, Int.reduceAdd, Nat.reduceBEq, Nat.reduceSub, Nat.reducePow, Int.reduceBEq, reduceCtorEq, E0P, E0hand, E0hard, E0row, E0nw, E0aown, E0glob, ↓reduceIte]
        exact l24_18_t true ([] : List UInt8) ((s0.take yk4).drop yk6) (0 : Int)
noncomputable def m24 (s : Bs) : Option R24 :=
  if (decide ((s.length : Int) < 2)) = true then
    j24_5 s true
  else
    if (0 : Int) < (s.length : Int) then
      if ((s.getD 0 0) == (34 : UInt8)) = true then
        if 0 ≤ (w64 ((s.length : Int) - 1)) ∧ (w64 ((s.length : Int) - 1)) < (s.length : Int) then
          j24_5 s (!((s.getD (w64 ((s.length : Int) - 1)).toNat 0) == (34 : UInt8)))
        else none
      else
        j24_5 s true
    else none
set_option maxRecDepth 100000 in
theorem f24_t (s : Bs) :
    callW (E0 mm) 24 [.c (.d (.sc (.string (S s))))] [] = (m24 s).map e24 := by
  rw [callW_run (body := c24_0) (res := [.tmp 2, .tmp 3]) Tryd.func24 rfl rfl (by kernel_rfl)]
  simp -implicitDefEqProofs only [m24, slots1, c24_0_e, c24_1_r, (show opsOf c24_1 = _ :: _ from rfl), c24_2_e, c24_3_e, c24_4_r, (show opsOf c24_4 = _ :: _ from rfl), Tryd.underlying9, setA, setB, String.reduceBEq, Nat.reduceEqDiff, Int.reduceEq, Nat.reduceAdd, Nat.reduceLeDiff, Nat.reduceLT, Int.reduceLE, Int.reduceLT, Int.reduceToNat, Int.reduceNegSucc, Nat.reduceMul, Int.reduceAdd, Nat.reduceBEq, Nat.reduceSub, Nat.reducePow, Int.reduceBEq, reduceCtorEq, E0P, E0hand, E0hard, E0row, E0nw, E0aown, E0glob, ↓reduceIte]
  refine brB (fun yc1 => ?_) (fun yc1 => ?_)
  · simp -implicitDefEqProofs only [yc1, setA, setB, String.reduceBEq, Nat.reduceEqDiff, Int.reduceEq, Nat.reduceAdd, Nat.reduceLeDiff, Nat.reduceLT, Int.reduceLE, Int.reduceLT, Int.reduceToNat, Int.reduceNegSucc, Nat.reduceMul, Int.reduceAdd, Nat.reduceBEq, Nat.reduceSub, Nat.reducePow, Int.reduceBEq, reduceCtorEq, E0P, E0hand, E0hard, E0row, E0nw, E0aown, E0glob, ↓reduceIte]
    exact j24_5_t s true _ (by rfl) (by rfl)
  · simp -implicitDefEqProofs only [Tryd.underlying9, yc1, setA, setB, String.reduceBEq, Nat.reduceEqDiff, Int.reduceEq, Nat.reduceAdd, Nat.reduceLeDiff, Nat.reduceLT, Int.reduceLE, Int.reduceLT, Int.reduceToNat, Int.reduceNegSucc, Nat.reduceMul, Int.reduceAdd, Nat.reduceBEq, Nat.reduceSub, Nat.reducePow, Int.reduceBEq, reduceCtorEq, E0P, E0hand, E0hard, E0row, E0nw, E0aown, E0glob, ↓reduceIte]
    refine brP (fun yc17 => ?_) (fun yc17 => ?_)
    · simp -implicitDefEqProofs only [yc1, yc17, setA, setB, String.reduceBEq, Nat.reduceEqDiff, Int.reduceEq, Nat.reduceAdd, Nat.reduceLeDiff, Nat.reduceLT, Int.reduceLE, Int.reduceLT, Int.reduceToNat, Int.reduceNegSucc, Nat.reduceMul, Int.reduceAdd, Nat.reduceBEq, Nat.reduceSub, Nat.reducePow, Int.reduceBEq, reduceCtorEq, E0P, E0hand, E0hard, E0row, E0nw, E0aown, E0glob, ↓reduceIte]
      refine brB (fun yc18 => ?_) (fun yc18 => ?_)
      · simp -implicitDefEqProofs only [Tryd.underlying9, yc1, yc17, yc18, setA, setB, String.reduceBEq, Nat.reduceEqDiff, Int.reduceEq, Nat.reduceAdd, Nat.reduceLeDiff, Nat.reduceLT, Int.reduceLE, Int.reduceLT, Int.reduceToNat, Int.reduceNegSucc, Nat.reduceMul, Int.reduceAdd, Nat.reduceBEq, Nat.reduceSub, Nat.reducePow, Int.reduceBEq, reduceCtorEq, E0P, E0hand, E0hard, E0row, E0nw, E0aown, E0glob, ↓reduceIte]
        refine brP (fun yc19 => ?_) (fun yc19 => ?_)
        · simp -implicitDefEqProofs only [yc1, yc17, yc18, yc19, setA, setB, String.reduceBEq, Nat.reduceEqDiff, Int.reduceEq, Nat.reduceAdd, Nat.reduceLeDiff, Nat.reduceLT, Int.reduceLE, Int.reduceLT, Int.reduceToNat, Int.reduceNegSucc, Nat.reduceMul, Int.reduceAdd, Nat.reduceBEq, Nat.reduceSub, Nat.reducePow, Int.reduceBEq, reduceCtorEq, E0P, E0hand, E0hard, E0row, E0nw, E0aown, E0glob, ↓reduceIte]
          exact j24_5_t s (!((s.getD (w64 ((s.length : Int) - 1)).toNat 0) == (34 : UInt8))) _ (by rfl) (by rfl)
        · simp -implicitDefEqProofs only [yc1, yc17, yc18, yc19, setA, setB, String.reduceBEq, Nat.reduceEqDiff, Int.reduceEq, Nat.reduceAdd, Nat.reduceLeDiff, Nat.reduceLT, Int.reduceLE, Int.reduceLT, Int.reduceToNat, Int.reduceNegSucc, Nat.reduceMul, Int.reduceAdd, Nat.reduceBEq, Nat.reduceSub, Nat.reducePow, Int.reduceBEq, reduceCtorEq, E0P, E0hand, E0hard, E0row, E0nw, E0aown, E0glob, ↓reduceIte]
      · simp -implicitDefEqProofs only [yc1, yc17, yc18, setA, setB, String.reduceBEq, Nat.reduceEqDiff, Int.reduceEq, Nat.reduceAdd, Nat.reduceLeDiff, Nat.reduceLT, Int.reduceLE, Int.reduceLT, Int.reduceToNat, Int.reduceNegSucc, Nat.reduceMul, Int.reduceAdd, Nat.reduceBEq, Nat.reduceSub, Nat.reducePow, Int.reduceBEq, reduceCtorEq, E0P, E0hand, E0hard, E0row, E0nw, E0aown, E0glob, ↓reduceIte]
        exact j24_5_t s true _ (by rfl) (by rfl)
    · simp -implicitDefEqProofs only [yc1, yc17, setA, setB, String.reduceBEq, Nat.reduceEqDiff, Int.reduceEq, Nat.reduceAdd, Nat.reduceLeDiff, Nat.reduceLT, Int.reduceLE, Int.reduceLT, Int.reduceToNat, Int.reduceNegSucc, Nat.reduceMul, Int.reduceAdd, Nat.reduceBEq, Nat.reduceSub, Nat.reducePow, Int.reduceBEq, reduceCtorEq, E0P, E0hand, E0hard, E0row, E0nw, E0aown, E0glob, ↓reduceIte]
/-! tollhouse/tollhouseref02.Unquote -/
noncomputable def c25_0 : Code := bodyOf Tryd.f25
noncomputable def c25_1 : Code := cA c25_0
noncomputable def c25_2 : Code := cB c25_0
noncomputable def c25_3 : Code := cA c25_2
noncomputable def c25_4 : Code := cA c25_3
noncomputable def c25_5 : Code := cB c25_3
noncomputable def c25_6 : Code := cA c25_5
noncomputable def c25_7 : Code := cA c25_6
noncomputable def c25_8 : Code := cB c25_6
noncomputable def c25_9 : Code := cB c25_5
noncomputable def c25_10 : Code := cB c25_2
noncomputable def c25_11 : Code := cA c25_10
noncomputable def c25_12 : Code := cB c25_10
noncomputable def c25_13 : Code := cA c25_12
noncomputable def c25_14 : Code := cB c25_12
noncomputable def c25_15 : Code := cA c25_14
noncomputable def c25_16 : Code := cA c25_15
noncomputable def c25_17 : Code := cA c25_16
noncomputable def c25_18 : Code := cA c25_17
noncomputable def c25_19 : Code := cA c25_18
noncomputable def c25_20 : Code := cB c25_18
noncomputable def c25_21 : Code := cA c25_20
noncomputable def c25_22 : Code := cB c25_20
noncomputable def c25_23 : Code := cB c25_17
noncomputable def c25_24 : Code := cA c25_23
noncomputable def c25_25 : Code := cA c25_24
noncomputable def c25_26 : Code := cA c25_25
noncomputable def c25_27 : Code := cB c25_25
noncomputable def c25_28 : Code := cA c25_27
noncomputable def c25_29 : Code := cB c25_27
noncomputable def c25_30 : Code := cB c25_24
noncomputable def c25_31 : Code := cA c25_30
noncomputable def c25_32 : Code := cA c25_31
noncomputable def c25_33 : Code := cB c25_31
noncomputable def c25_34 : Code := cA c25_33
noncomputable def c25_35 : Code := cA c25_34
noncomputable def c25_36 : Code := cB c25_34
noncomputable def c25_37 : Code := cB c25_33
noncomputable def c25_38 : Code := cB c25_30
noncomputable def c25_39 : Code := cA c25_38
noncomputable def c25_40 : Code := cB c25_38
noncomputable def c25_41 : Code := cB c25_14
noncomputable def c25_42 : Code := cA c25_41
noncomputable def c25_43 : Code := cA c25_42
noncomputable def c25_44 : Code := cB c25_42
noncomputable def c25_45 : Code := cA c25_44
noncomputable def c25_46 : Code := cA c25_45
noncomputable def c25_47 : Code := cB c25_45
noncomputable def c25_48 : Code := cB c25_44
noncomputable def c25_49 : Code := cB c25_41
noncomputable def c25_50 : Code := cA c25_49
noncomputable def c25_51 : Code := cB c25_49
theorem c25_0_e : c25_0 = .seq c25_1 c25_2 := rfl
theorem c25_1_r (m : Nat) (st : St) : den (E0 mm) 25 m (callW (E0 mm)) itW c25_1 none st = regD (runOps (E0 mm) (callW (E0 mm)) (opsOf c25_1) (opsOf c25_1) st) := den_rg (by rfl)
theorem c25_2_e : c25_2 = .seq c25_3 c25_10 := rfl
theorem c25_3_e : c25_3 = .seq c25_4 c25_5 := rfl
theorem c25_4_r (m : Nat) (st : St) : den (E0 mm) 25 m (callW (E0 mm)) itW c25_4 none st = regD (runOps (E0 mm) (callW (E0 mm)) (opsOf c25_4) (opsOf c25_4) st) := den_rg (by rfl)
theorem c25_6_e : c25_6 = .seq c25_7 c25_8 := rfl
theorem c25_7_r (m : Nat) (st : St) : den (E0 mm) 25 m (callW (E0 mm)) itW c25_7 none st = regD (runOps (E0 mm) (callW (E0 mm)) (opsOf c25_7) (opsOf c25_7) st) := den_rg (by rfl)
theorem c25_8_e : c25_8 = .ret := rfl
theorem c25_9_e : c25_9 = .skip := rfl
theorem c25_10_e : c25_10 = .seq c25_11 c25_12 := rfl
theorem c25_11_r (m : Nat) (st : St) : den (E0 mm) 25 m (callW (E0 mm)) itW c25_11 none st = regD (runOps (E0 mm) (callW (E0 mm)) (opsOf c25_11) (opsOf c25_11) st) := den_rg (by rfl)
theorem c25_12_e : c25_12 = .seq c25_13 c25_14 := rfl
theorem c25_13_r (m : Nat) (st : St) : den (E0 mm) 25 m (callW (E0 mm)) itW c25_13 none st = regD (runOps (E0 mm) (callW (E0 mm)) (opsOf c25_13) (opsOf c25_13) st) := den_rg (by rfl)
theorem c25_14_e : c25_14 = .seq c25_15 c25_41 := rfl
theorem c25_15_e : c25_15 = .block 0 c25_16 := rfl
theorem c25_16_l (m : Nat) (st : St) : den (E0 mm) 25 m (callW (E0 mm)) itW c25_16 none st = loopD itW (loopF (E0 mm) 25 m (callW (E0 mm)) itW c25_17 [(0, .keep), (4, .own), (5, .keep)]) (canon m [(0, .keep), (4, .own), (5, .keep)] st) := rfl
theorem c25_17_e : c25_17 = .seq c25_18 c25_23 := rfl
theorem c25_18_e : c25_18 = .seq c25_19 c25_20 := rfl
theorem c25_19_r (m : Nat) (st : St) : den (E0 mm) 25 m (callW (E0 mm)) itW c25_19 none st = regD (runOps (E0 mm) (callW (E0 mm)) (opsOf c25_19) (opsOf c25_19) st) := den_rg (by rfl)
theorem c25_21_e : c25_21 = .skip := rfl
theorem c25_22_e : c25_22 = .exit 0 := rfl
theorem c25_23_e : c25_23 = .block 1 c25_24 := rfl
theorem c25_24_e : c25_24 = .seq c25_25 c25_30 := rfl
theorem c25_25_e : c25_25 = .seq c25_26 c25_27 := rfl
theorem c25_26_r (m : Nat) (st : St) : den (E0 mm) 25 m (callW (E0 mm)) itW c25_26 none st = regD (runOps (E0 mm) (callW (E0 mm)) (opsOf c25_26) (opsOf c25_26) st) := den_rg (by rfl)
theorem c25_28_r (m : Nat) (st : St) : den (E0 mm) 25 m (callW (E0 mm)) itW c25_28 none st = regD (runOps (E0 mm) (callW (E0 mm)) (opsOf c25_28) (opsOf c25_28) st) := den_rg (by rfl)
theorem c25_29_e : c25_29 = .skip := rfl
theorem c25_30_e : c25_30 = .seq c25_31 c25_38 := rfl
theorem c25_31_e : c25_31 = .seq c25_32 c25_33 := rfl
theorem c25_32_r (m : Nat) (st : St) : den (E0 mm) 25 m (callW (E0 mm)) itW c25_32 none st = regD (runOps (E0 mm) (callW (E0 mm)) (opsOf c25_32) (opsOf c25_32) st) := den_rg (by rfl)
theorem c25_34_e : c25_34 = .seq c25_35 c25_36 := rfl
theorem c25_35_r (m : Nat) (st : St) : den (E0 mm) 25 m (callW (E0 mm)) itW c25_35 none st = regD (runOps (E0 mm) (callW (E0 mm)) (opsOf c25_35) (opsOf c25_35) st) := den_rg (by rfl)
theorem c25_36_e : c25_36 = .ret := rfl
theorem c25_37_e : c25_37 = .skip := rfl
theorem c25_38_e : c25_38 = .seq c25_39 c25_40 := rfl
theorem c25_39_r (m : Nat) (st : St) : den (E0 mm) 25 m (callW (E0 mm)) itW c25_39 none st = regD (runOps (E0 mm) (callW (E0 mm)) (opsOf c25_39) (opsOf c25_39) st) := den_rg (by rfl)
theorem c25_40_r (m : Nat) (st : St) : den (E0 mm) 25 m (callW (E0 mm)) itW c25_40 none st = regD (runOps (E0 mm) (callW (E0 mm)) (opsOf c25_40) (opsOf c25_40) st) := den_rg (by rfl)
theorem c25_41_e : c25_41 = .seq c25_42 c25_49 := rfl
theorem c25_42_e : c25_42 = .seq c25_43 c25_44 := rfl
theorem c25_43_r (m : Nat) (st : St) : den (E0 mm) 25 m (callW (E0 mm)) itW c25_43 none st = regD (runOps (E0 mm) (callW (E0 mm)) (opsOf c25_43) (opsOf c25_43) st) := den_rg (by rfl)
theorem c25_45_e : c25_45 = .seq c25_46 c25_47 := rfl
theorem c25_46_r (m : Nat) (st : St) : den (E0 mm) 25 m (callW (E0 mm)) itW c25_46 none st = regD (runOps (E0 mm) (callW (E0 mm)) (opsOf c25_46) (opsOf c25_46) st) := den_rg (by rfl)
theorem c25_47_e : c25_47 = .ret := rfl
theorem c25_48_e : c25_48 = .skip := rfl
theorem c25_49_e : c25_49 = .seq c25_50 c25_51 := rfl
theorem c25_50_r (m : Nat) (st : St) : den (E0 mm) 25 m (callW (E0 mm)) itW c25_50 none st = regD (runOps (E0 mm) (callW (E0 mm)) (opsOf c25_50) (opsOf c25_50) st) := den_rg (by rfl)
theorem c25_51_e : c25_51 = .ret := rfl
abbrev R25 := (Bs × Bool)
def e25 : R25 → AV × Heap := fun x => (.tup [.c (.d (.sc (.string (S x.1)))), .c (.d (.sc (.bool x.2)))], [])
noncomputable def K25_16 : Option (Ex × St) → Option (AV × Heap) := fun r => bodyD (E0 mm) [.tmp 2, .tmp 3] 0 false (seqD (E0 mm) 25 0 (callW (E0 mm)) itW c25_41 (blockD 0 (r)))
def en25_16 : Bs × Bool × List UInt8 × Int → X := fun x => (none, [.v (.c (.d (.sc (.string (S x.1))))), .v (.c (.own x.2.1 (enL enB x.2.2.1) 0)), .v (.c (.d (.sc (.int .i64 x.2.2.2))))], [.row x.2.2.1.length (rz x.2.1 1)])
noncomputable def j25_33 (s0 : Bs) (b4_0 : Bool) (b4_1 : List UInt8) (at5 : Int) (t40 : Bool) : Option ((Bs × Bool × List UInt8 × Int) ⊕ R25) :=
  if t40 = true then
    some (.inr (([] : Bs), false))
  else
    if 0 ≤ at5 ∧ at5 < (s0.length : Int) then
      if (b4_1.length + 1) * 1 ≤ 140737488355328 then
        some (.inl (s0, false, (b4_1 ++ ([(s0.getD at5.toNat 0)] : List UInt8)), (w64 (at5 + 1))))
      else none
    else none
set_option maxRecDepth 100000 in
theorem j25_33_t (s0 : Bs) (b4_0 : Bool) (b4_1 : List UInt8) (at5 : Int) (t40 : Bool)  (sl : Nat → AV) (zq0 : sl 0 = .v (.c (.d (.sc (.string (S s0)))))) (zq4 : sl 4 = .v (.c (.own b4_0 (enL enB b4_1) 0))) (zq5 : sl 5 = .v (.c (.d (.sc (.int .i64 at5))))) (zq40 : sl 40 = .v (.c (.d (.sc (.bool t40))))) :
    stepE (K25_16 (mm := mm)) (loopK 0 [(0, .keep), (4, .own), (5, .keep)] (blockD 1 (seqD (E0 mm) 25 0 (callW (E0 mm)) itW c25_38 (den (E0 mm) 25 0 (callW (E0 mm)) itW c25_33 none ⟨sl, [.row b4_1.length (rz b4_0 1)]⟩)))) = (j25_33 s0 b4_0 b4_1 at5 t40).map (sm en25_16 e25) := by
  simp -implicitDefEqProofs only [j25_33, (show c25_33 = Code.cond _ c25_34 c25_37 from rfl), zq0, zq4, zq5, zq40, setA, setB, String.reduceBEq, Nat.reduceEqDiff, Int.reduceEq, Nat.reduceAdd, Nat.reduceLeDiff, Nat.reduceLT, Int.reduceLE, Int.reduceLT, Int.reduceToNat, Int.reduceNegSucc, Nat.reduceMul, Int.reduceAdd, Nat.reduceBEq, Nat.reduceSub, Nat.reducePow, Int.reduceBEq, reduceCtorEq, E0P, E0hand, E0hard, E0row, E0nw, E0aown, E0glob, ↓reduceIte]
  refine brB (fun yc9 => ?_) (fun yc9 => ?_)
  · simp -implicitDefEqProofs only [c25_34_e, c25_35_r, (show opsOf c25_35 = _ :: _ from rfl), c25_36_e, K25_16, zq0, zq4, zq5, zq40, yc9, setA, setB, String.reduceBEq, Nat.reduceEqDiff, Int.reduceEq, Nat.reduceAdd, Nat.reduceLeDiff, Nat.reduceLT, Int.reduceLE, Int.reduceLT, Int.reduceToNat, Int.reduceNegSucc, Nat.reduceMul, Int.reduceAdd, Nat.reduceBEq, Nat.reduceSub, Nat.reducePow, Int.reduceBEq, reduceCtorEq, E0P, E0hand, E0hard, E0row, E0nw, E0aown, E0glob, ↓reduceIte]
    all_goals rfl
  · simp -implicitDefEqProofs only [c25_37_e, c25_38_e, c25_39_r, (show opsOf c25_39 = _ :: _ from rfl), Tryd.underlying9, zq0, zq4, zq5, zq40, yc9, setA, setB, String.reduceBEq, Nat.reduceEqDiff, Int.reduceEq, Nat.reduceAdd, Nat.reduceLeDiff, Nat.reduceLT, Int.reduceLE, Int.reduceLT, Int.reduceToNat, Int.reduceNegSucc, Nat.reduceMul, Int.reduceAdd, Nat.reduceBEq, Nat.reduceSub, Nat.reducePow, Int.reduceBEq, reduceCtorEq, E0P, E0hand, E0hard, E0row, E0nw, E0aown, E0glob, ↓reduceIte]
    refine brP (fun yc10 => ?_) (fun yc10 => ?_)
    · simp -implicitDefEqProofs only [Tryd.underlying33, sz5, zc5, ns0, ap33, zq0, zq4, zq5, zq40, yc9, yc10, setA, setB, String.reduceBEq, Nat.reduceEqDiff, Int.reduceEq, Nat.reduceAdd, Nat.reduceLeDiff, Nat.reduceLT, Int.reduceLE, Int.reduceLT, Int.reduceToNat, Int.reduceNegSucc, Nat.reduceMul, Int.reduceAdd, Nat.reduceBEq, Nat.reduceSub, Nat.reducePow, Int.reduceBEq, reduceCtorEq, E0P, E0hand, E0hard, E0row, E0nw, E0aown, E0glob, ↓reduceIte]
      refine brP (fun yc11 => ?_) (fun yc11 => ?_)
      · simp -implicitDefEqProofs only [c25_40_r, (show opsOf c25_40 = _ :: _ from rfl), zq0, zq4, zq5, zq40, yc9, yc10, yc11, setA, setB, String.reduceBEq, Nat.reduceEqDiff, Int.reduceEq, Nat.reduceAdd, Nat.reduceLeDiff, Nat.reduceLT, Int.reduceLE, Int.reduceLT, Int.reduceToNat, Int.reduceNegSucc, Nat.reduceMul, Int.reduceAdd, Nat.reduceBEq, Nat.reduceSub, Nat.reducePow, Int.reduceBEq, reduceCtorEq, E0P, E0hand, E0hard, E0row, E0nw, E0aown, E0glob, ↓reduceIte]
        all_goals rfl
      · simp -implicitDefEqProofs only [zq0, zq4, zq5, zq40, yc9, yc10, yc11, setA, setB, String.reduceBEq, Nat.reduceEqDiff, Int.reduceEq, Nat.reduceAdd, Nat.reduceLeDiff, Nat.reduceLT, Int.reduceLE, Int.reduceLT, Int.reduceToNat, Int.reduceNegSucc, Nat.reduceMul, Int.reduceAdd, Nat.reduceBEq, Nat.reduceSub, Nat.reducePow, Int.reduceBEq, reduceCtorEq, E0P, E0hand, E0hard, E0row, E0nw, E0aown, E0glob, ↓reduceIte]
    · simp -implicitDefEqProofs only [zq0, zq4, zq5, zq40, yc9, yc10, setA, setB, String.reduceBEq, Nat.reduceEqDiff, Int.reduceEq, Nat.reduceAdd, Nat.reduceLeDiff, Nat.reduceLT, Int.reduceLE, Int.reduceLT, Int.reduceToNat, Int.reduceNegSucc, Nat.reduceMul, Int.reduceAdd, Nat.reduceBEq, Nat.reduceSub, Nat.reducePow, Int.reduceBEq, reduceCtorEq, E0P, E0hand, E0hard, E0row, E0nw, E0aown, E0glob, ↓reduceIte]
noncomputable def j25_30 (s0 : Bs) (b4_0 : Bool) (b4_1 : List UInt8) (at5 : Int) : Option ((Bs × Bool × List UInt8 × Int) ⊕ R25) :=
  if (decide ((s0.length : Int) ≤ at5)) = true then
    j25_33 s0 b4_0 b4_1 at5 true
  else
    if 0 ≤ at5 ∧ at5 < (s0.length : Int) then
      (m34 (s0.getD at5.toNat 0)).bind fun yr14 =>
        j25_33 s0 b4_0 b4_1 at5 (!yr14)
    else none
set_option maxRecDepth 100000 in
theorem j25_30_t (s0 : Bs) (b4_0 : Bool) (b4_1 : List UInt8) (at5 : Int)  (sl : Nat → AV) (zq0 : sl 0 = .v (.c (.d (.sc (.string (S s0)))))) (zq4 : sl 4 = .v (.c (.own b4_0 (enL enB b4_1) 0))) (zq5 : sl 5 = .v (.c (.d (.sc (.int .i64 at5))))) :
    stepE (K25_16 (mm := mm)) (loopK 0 [(0, .keep), (4, .own), (5, .keep)] (blockD 1 (den (E0 mm) 25 0 (callW (E0 mm)) itW c25_30 none ⟨sl, [.row b4_1.length (rz b4_0 1)]⟩))) = (j25_30 s0 b4_0 b4_1 at5).map (sm en25_16 e25) := by
  simp -implicitDefEqProofs only [j25_30, c25_30_e, c25_31_e, c25_32_r, (show opsOf c25_32 = _ :: _ from rfl), Tryd.underlying9, zq0, zq4, zq5, setA, setB, String.reduceBEq, Nat.reduceEqDiff, Int.reduceEq, Nat.reduceAdd, Nat.reduceLeDiff, Nat.reduceLT, Int.reduceLE, Int.reduceLT, Int.reduceToNat, Int.reduceNegSucc, Nat.reduceMul, Int.reduceAdd, Nat.reduceBEq, Nat.reduceSub, Nat.reducePow, Int.reduceBEq, reduceCtorEq, E0P, E0hand, E0hard, E0row, E0nw, E0aown, E0glob, ↓reduceIte]
  refine brB (fun yc8 => ?_) (fun yc8 => ?_)
  · simp -implicitDefEqProofs only [zq0, zq4, zq5, yc8, setA, setB, String.reduceBEq, Nat.reduceEqDiff, Int.reduceEq, Nat.reduceAdd, Nat.reduceLeDiff, Nat.reduceLT, Int.reduceLE, Int.reduceLT, Int.reduceToNat, Int.reduceNegSucc, Nat.reduceMul, Int.reduceAdd, Nat.reduceBEq, Nat.reduceSub, Nat.reducePow, Int.reduceBEq, reduceCtorEq, E0P, E0hand, E0hard, E0row, E0nw, E0aown, E0glob, ↓reduceIte]
    exact j25_33_t s0 b4_0 b4_1 at5 true _ (by exact zq0) (by exact zq4) (by exact zq5) (by rfl)
  · simp -implicitDefEqProofs only [Tryd.underlying9, zq0, zq4, zq5, yc8, setA, setB, String.reduceBEq, Nat.reduceEqDiff, Int.reduceEq, Nat.reduceAdd, Nat.reduceLeDiff, Nat.reduceLT, Int.reduceLE, Int.reduceLT, Int.reduceToNat, Int.reduceNegSucc, Nat.reduceMul, Int.reduceAdd, Nat.reduceBEq, Nat.reduceSub, Nat.reducePow, Int.reduceBEq, reduceCtorEq, E0P, E0hand, E0hard, E0row, E0nw, E0aown, E0glob, ↓reduceIte]
    refine brP (fun yc12 => ?_) (fun yc12 => ?_)
    · simp -implicitDefEqProofs only [ent34, prm34, f34_t, zq0, zq4, zq5, yc8, yc12, setA, setB, String.reduceBEq, Nat.reduceEqDiff, Int.reduceEq, Nat.reduceAdd, Nat.reduceLeDiff, Nat.reduceLT, Int.reduceLE, Int.reduceLT, Int.reduceToNat, Int.reduceNegSucc, Nat.reduceMul, Int.reduceAdd, Nat.reduceBEq, Nat.reduceSub, Nat.reducePow, Int.reduceBEq, reduceCtorEq, E0P, E0hand, E0hard, E0row, E0nw, E0aown, E0glob, ↓reduceIte]
      refine brM (fun yc13 => ?_) (fun yr14 yc13 => ?_)
      · simp -implicitDefEqProofs only [yc13, zq0, zq4, zq5, yc8, yc12, e34, setA, setB, String.reduceBEq, Nat.reduceEqDiff, Int.reduceEq, Nat.reduceAdd, Nat.reduceLeDiff, Nat.reduceLT, Int.reduceLE, Int.reduceLT, Int.reduceToNat, Int.reduceNegSucc, Nat.reduceMul, Int.reduceAdd, Nat.reduceBEq, Nat.reduceSub, Nat.reducePow, Int.reduceBEq, reduceCtorEq, E0P, E0hand, E0hard, E0row, E0nw, E0aown, E0glob, ↓reduceIte]
      · simp -implicitDefEqProofs only [e34, zq0, zq4, zq5, yc8, yc12, yc13, setA, setB, String.reduceBEq, Nat.reduceEqDiff, Int.reduceEq, Nat.reduceAdd, Nat.reduceLeDiff, Nat.reduceLT, Int.reduceLE, Int.reduceLT, Int.reduceToNat, Int.reduceNegSucc, Nat.reduceMul, Int.reduceAdd, Nat.reduceBEq, Nat.reduceSub, Nat.reducePow, Int.reduceBEq, reduceCtorEq, E0P, E0hand, E0hard, E0row, E0nw, E0aown, E0glob, ↓reduceIte]
        exact j25_33_t s0 b4_0 b4_1 at5 (!yr14) _ (by exact zq0) (by exact zq4) (by exact zq5) (by rfl)
    · simp -implicitDefEqProofs only [zq0, zq4, zq5, yc8, yc12, setA, setB, String.reduceBEq, Nat.reduceEqDiff, Int.reduceEq, Nat.reduceAdd, Nat.reduceLeDiff, Nat.reduceLT, Int.reduceLE, Int.reduceLT, Int.reduceToNat, Int.reduceNegSucc, Nat.reduceMul, Int.reduceAdd, Nat.reduceBEq, Nat.reduceSub, Nat.reducePow, Int.reduceBEq, reduceCtorEq, E0P, E0hand, E0hard, E0row, E0nw, E0aown, E0glob, ↓reduceIte]
noncomputable def j25_41 (s0 : Bs) (b4_0 : Bool) (b4_1 : List UInt8) (at5 : Int) : Option R25 :=
  if (at5 == (w64 ((s0.length : Int) - 1))) = true then
    some (b4_1, true)
  else
    some (([] : Bs), false)
set_option maxRecDepth 100000 in
theorem j25_41_t (s0 : Bs) (b4_0 : Bool) (b4_1 : List UInt8) (at5 : Int)  (sl : Nat → AV) (zq0 : sl 0 = .v (.c (.d (.sc (.string (S s0)))))) (zq4 : sl 4 = .v (.c (.own b4_0 (enL enB b4_1) 0))) (zq5 : sl 5 = .v (.c (.d (.sc (.int .i64 at5))))) :
    bodyD (E0 mm) [.tmp 2, .tmp 3] 0 false (den (E0 mm) 25 0 (callW (E0 mm)) itW c25_41 none ⟨sl, [.row b4_1.length (rz b4_0 1)]⟩) = (j25_41 s0 b4_0 b4_1 at5).map e25 := by
  simp -implicitDefEqProofs only [j25_41, c25_41_e, c25_42_e, c25_43_r, (show opsOf c25_43 = _ :: _ from rfl), Tryd.underlying9, (show c25_44 = Code.cond _ c25_45 c25_48 from rfl), zq0, zq4, zq5, setA, setB, String.reduceBEq, Nat.reduceEqDiff, Int.reduceEq, Nat.reduceAdd, Nat.reduceLeDiff, Nat.reduceLT, Int.reduceLE, Int.reduceLT, Int.reduceToNat, Int.reduceNegSucc, Nat.reduceMul, Int.reduceAdd, Nat.reduceBEq, Nat.reduceSub, Nat.reducePow, Int.reduceBEq, reduceCtorEq, E0P, E0hand, E0hard, E0row, E0nw, E0aown, E0glob, ↓reduceIte]
  refine brB (fun yc15 => ?_) (fun yc15 => ?_)
  · simp -implicitDefEqProofs only [c25_48_e, c25_49_e, c25_50_r, (show opsOf c25_50 = _ :: _ from rfl), Tryd.underlying33, Tryd.underlying9, Tryd.underlying5, c25_51_e, zq0, zq4, zq5, yc15, setA, setB, String.reduceBEq, Nat.reduceEqDiff, Int.reduceEq, Nat.reduceAdd, Nat.reduceLeDiff, Nat.reduceLT, Int.reduceLE, Int.reduceLT, Int.reduceToNat, Int.reduceNegSucc, Nat.reduceMul, Int.reduceAdd, Nat.reduceBEq, Nat.reduceSub, Nat.reducePow, Int.reduceBEq, reduceCtorEq, E0P, E0hand, E0hard, E0row, E0nw, E0aown, E0glob, ↓reduceIte]
    all_goals rfl
  · simp -implicitDefEqProofs only [c25_45_e, c25_46_r, (show opsOf c25_46 = _ :: _ from rfl), c25_47_e, zq0, zq4, zq5, yc15, setA, setB, String.reduceBEq, Nat.reduceEqDiff, Int.reduceEq, Nat.reduceAdd, Nat.reduceLeDiff, Nat.reduceLT, Int.reduceLE, Int.reduceLT, Int.reduceToNat, Int.reduceNegSucc, Nat.reduceMul, Int.reduceAdd, Nat.reduceBEq, Nat.reduceSub, Nat.reducePow, Int.reduceBEq, reduceCtorEq, E0P, E0hand, E0hard, E0row, E0nw, E0aown, E0glob, ↓reduceIte]
    all_goals rfl
noncomputable def j25_20 (s0 : Bs) (b4_0 : Bool) (b4_1 : List UInt8) (at5 : Int) (t23 : Bool) : Option ((Bs × Bool × List UInt8 × Int) ⊕ R25) :=
  if t23 = true then
    if 0 ≤ at5 ∧ at5 < (s0.length : Int) then
      if ((s0.getD at5.toNat 0) == (92 : UInt8)) = true then
        j25_30 s0 b4_0 b4_1 (w64 (at5 + 1))
      else
        j25_30 s0 b4_0 b4_1 at5
    else none
  else
    (j25_41 s0 b4_0 b4_1 at5).map .inr
set_option maxRecDepth 100000 in
theorem j25_20_t (s0 : Bs) (b4_0 : Bool) (b4_1 : List UInt8) (at5 : Int) (t23 : Bool)  (sl : Nat → AV) (zq0 : sl 0 = .v (.c (.d (.sc (.string (S s0)))))) (zq4 : sl 4 = .v (.c (.own b4_0 (enL enB b4_1) 0))) (zq5 : sl 5 = .v (.c (.d (.sc (.int .i64 at5))))) (zq23 : sl 23 = .v (.c (.d (.sc (.bool t23))))) :
    stepE (K25_16 (mm := mm)) (loopK 0 [(0, .keep), (4, .own), (5, .keep)] (seqD (E0 mm) 25 0 (callW (E0 mm)) itW c25_23 (den (E0 mm) 25 0 (callW (E0 mm)) itW c25_20 none ⟨sl, [.row b4_1.length (rz b4_0 1)]⟩))) = (j25_20 s0 b4_0 b4_1 at5 t23).map (sm en25_16 e25) := by
  simp -implicitDefEqProofs only [j25_20, (show c25_20 = Code.cond _ c25_21 c25_22 from rfl), zq0, zq4, zq5, zq23, setA, setB, String.reduceBEq, Nat.reduceEqDiff, Int.reduceEq, Nat.reduceAdd, Nat.reduceLeDiff, Nat.reduceLT, Int.reduceLE, Int.reduceLT, Int.reduceToNat, Int.reduceNegSucc, Nat.reduceMul, Int.reduceAdd, Nat.reduceBEq, Nat.reduceSub, Nat.reducePow, Int.reduceBEq, reduceCtorEq, E0P, E0hand, E0hard, E0row, E0nw, E0aown, E0glob, ↓reduceIte]
  refine brB (fun yc5 => ?_) (fun yc5 => ?_)
  · simp -implicitDefEqProofs only [c25_21_e, c25_23_e, c25_24_e, c25_25_e, c25_26_r, (show opsOf c25_26 = _ :: _ from rfl), Tryd.underlying9, zq0, zq4, zq5, zq23, yc5, setA, setB, String.reduceBEq, Nat.reduceEqDiff, Int.reduceEq, Nat.reduceAdd, Nat.reduceLeDiff, Nat.reduceLT, Int.reduceLE, Int.reduceLT, Int.reduceToNat, Int.reduceNegSucc, Nat.reduceMul, Int.reduceAdd, Nat.reduceBEq, Nat.reduceSub, Nat.reducePow, Int.reduceBEq, reduceCtorEq, E0P, E0hand, E0hard, E0row, E0nw, E0aown, E0glob, ↓reduceIte]
    refine brP (fun yc6 => ?_) (fun yc6 => ?_)
    · simp -implicitDefEqProofs only [(show c25_27 = Code.cond _ c25_28 c25_29 from rfl), zq0, zq4, zq5, zq23, yc5, yc6, setA, setB, String.reduceBEq, Nat.reduceEqDiff, Int.reduceEq, Nat.reduceAdd, Nat.reduceLeDiff, Nat.reduceLT, Int.reduceLE, Int.reduceLT, Int.reduceToNat, Int.reduceNegSucc, Nat.reduceMul, Int.reduceAdd, Nat.reduceBEq, Nat.reduceSub, Nat.reducePow, Int.reduceBEq, reduceCtorEq, E0P, E0hand, E0hard, E0row, E0nw, E0aown, E0glob, ↓reduceIte]
      refine brB (fun yc7 => ?_) (fun yc7 => ?_)
      · simp -implicitDefEqProofs only [c25_28_r, (show opsOf c25_28 = _ :: _ from rfl), zq0, zq4, zq5, zq23, yc5, yc6, yc7, setA, setB, String.reduceBEq, Nat.reduceEqDiff, Int.reduceEq, Nat.reduceAdd, Nat.reduceLeDiff, Nat.reduceLT, Int.reduceLE, Int.reduceLT, Int.reduceToNat, Int.reduceNegSucc, Nat.reduceMul, Int.reduceAdd, Nat.reduceBEq, Nat.reduceSub, Nat.reducePow, Int.reduceBEq, reduceCtorEq, E0P, E0hand, E0hard, E0row, E0nw, E0aown, E0glob, ↓reduceIte]
        exact j25_30_t s0 b4_0 b4_1 (w64 (at5 + 1)) _ (by exact zq0) (by exact zq4) (by rfl)
      · simp -implicitDefEqProofs only [c25_29_e, zq0, zq4, zq5, zq23, yc5, yc6, yc7, setA, setB, String.reduceBEq, Nat.reduceEqDiff, Int.reduceEq, Nat.reduceAdd, Nat.reduceLeDiff, Nat.reduceLT, Int.reduceLE, Int.reduceLT, Int.reduceToNat, Int.reduceNegSucc, Nat.reduceMul, Int.reduceAdd, Nat.reduceBEq, Nat.reduceSub, Nat.reducePow, Int.reduceBEq, reduceCtorEq, E0P, E0hand, E0hard, E0row, E0nw, E0aown, E0glob, ↓reduceIte]
        exact j25_30_t s0 b4_0 b4_1 at5 _ (by exact zq0) (by exact zq4) (by exact zq5)
    · simp -implicitDefEqProofs only [zq0, zq4, zq5, zq23, yc5, yc6, setA, setB, String.reduceBEq, Nat.reduceEqDiff, Int.reduceEq, Nat.reduceAdd, Nat.reduceLeDiff, Nat.reduceLT, Int.reduceLE, Int.reduceLT, Int.reduceToNat, Int.reduceNegSucc, Nat.reduceMul, Int.reduceAdd, Nat.reduceBEq, Nat.reduceSub, Nat.reducePow, Int.reduceBEq, reduceCtorEq, E0P, E0hand, E0hard, E0row, E0nw, E0aown, E0glob, ↓reduceIte]
  · simp -implicitDefEqProofs only [c25_22_e, K25_16, zq0, zq4, zq5, zq23, yc5, setA, setB, String.reduceBEq, Nat.reduceEqDiff, Int.reduceEq, Nat.reduceAdd, Nat.reduceLeDiff, Nat.reduceLT, Int.reduceLE, Int.reduceLT, Int.reduceToNat, Int.reduceNegSucc, Nat.reduceMul, Int.reduceAdd, Nat.reduceBEq, Nat.reduceSub, Nat.reducePow, Int.reduceBEq, reduceCtorEq, E0P, E0hand, E0hard, E0row, E0nw, E0aown, E0glob, ↓reduceIte]
    exact mi (j25_41_t s0 b4_0 b4_1 at5 _ (by exact zq0) (by exact zq4) (by exact zq5))
noncomputable def s25_16 (s0 : Bs) (b4_0 : Bool) (b4_1 : List UInt8) (at5 : Int) : Option ((Bs × Bool × List UInt8 × Int) ⊕ R25) :=
  if (decide (at5 < (s0.length : Int))) = true then
    if 0 ≤ at5 ∧ at5 < (s0.length : Int) then
      j25_20 s0 b4_0 b4_1 at5 (!((s0.getD at5.toNat 0) == (34 : UInt8)))
    else none
  else
    j25_20 s0 b4_0 b4_1 at5 false
set_option maxRecDepth 100000 in
theorem s25_16_t (s0 : Bs) (b4_0 : Bool) (b4_1 : List UInt8) (at5 : Int) :
    stepE (K25_16 (mm := mm)) (loopF (E0 mm) 25 0 (callW (E0 mm)) itW c25_17 [(0, .keep), (4, .own), (5, .keep)] (none, [.v (.c (.d (.sc (.string (S s0))))), .v (.c (.own b4_0 (enL enB b4_1) 0)), .v (.c (.d (.sc (.int .i64 at5))))], [.row b4_1.length (rz b4_0 1)])) = (s25_16 s0 b4_0 b4_1 at5).map (sm en25_16 e25) := by
  simp -implicitDefEqProofs only [s25_16, loopF_eq, c25_17_e, c25_18_e, c25_19_r, (show opsOf c25_19 = _ :: _ from rfl), Tryd.underlying9, setA, setB, String.reduceBEq, Nat.reduceEqDiff, Int.reduceEq, Nat.reduceAdd, Nat.reduceLeDiff, Nat.reduceLT, Int.reduceLE, Int.reduceLT, Int.reduceToNat, Int.reduceNegSucc, Nat.reduceMul, Int.reduceAdd, Nat.reduceBEq, Nat.reduceSub, Nat.reducePow, Int.reduceBEq, reduceCtorEq, E0P, E0hand, E0hard, E0row, E0nw, E0aown, E0glob, ↓reduceIte]
  refine brB (fun yc3 => ?_) (fun yc3 => ?_)
  · simp -implicitDefEqProofs only [Tryd.underlying9, yc3, setA, setB, String.reduceBEq, Nat.reduceEqDiff, Int.reduceEq, Nat.reduceAdd, Nat.reduceLeDiff, Nat.reduceLT, Int.reduceLE, Int.reduceLT, Int.reduceToNat, Int.reduceNegSucc, Nat.reduceMul, Int.reduceAdd, Nat.reduceBEq, Nat.reduceSub, Nat.reducePow, Int.reduceBEq, reduceCtorEq, E0P, E0hand, E0hard, E0row, E0nw, E0aown, E0glob, ↓reduceIte]
    refine brP (fun yc4 => ?_) (fun yc4 => ?_)
    · simp -implicitDefEqProofs only [yc3, yc4, setA, setB, String.reduceBEq, Nat.reduceEqDiff, Int.reduceEq, Nat.reduceAdd, Nat.reduceLeDiff, Nat.reduceLT, Int.reduceLE, Int.reduceLT, Int.reduceToNat, Int.reduceNegSucc, Nat.reduceMul, Int.reduceAdd, Nat.reduceBEq, Nat.reduceSub, Nat.reducePow, Int.reduceBEq, reduceCtorEq, E0P, E0hand, E0hard, E0row, E0nw, E0aown, E0glob, ↓reduceIte]
      exact j25_20_t s0 b4_0 b4_1 at5 (!((s0.getD at5.toNat 0) == (34 : UInt8))) _ (by rfl) (by rfl) (by rfl) (by rfl)
    · simp -implicitDefEqProofs only [yc3, yc4, setA, setB, String.reduceBEq, Nat.reduceEqDiff, Int.reduceEq, Nat.reduceAdd, Nat.reduceLeDiff, Nat.reduceLT, Int.reduceLE, Int.reduceLT, Int.reduceToNat, Int.reduceNegSucc, Nat.reduceMul, Int.reduceAdd, Nat.reduceBEq, Nat.reduceSub, Nat.reducePow, Int.reduceBEq, reduceCtorEq, E0P, E0hand, E0hard, E0row, E0nw, E0aown, E0glob, ↓reduceIte]
  · simp -implicitDefEqProofs only [yc3, setA, setB, String.reduceBEq, Nat.reduceEqDiff, Int.reduceEq, Nat.reduceAdd, Nat.reduceLeDiff, Nat.reduceLT, Int.reduceLE, Int.reduceLT, Int.reduceToNat, Int.reduceNegSucc, Nat.reduceMul, Int.reduceAdd, Nat.reduceBEq, Nat.reduceSub, Nat.reducePow, Int.reduceBEq, reduceCtorEq, E0P, E0hand, E0hard, E0row, E0nw, E0aown, E0glob, ↓reduceIte]
    exact j25_20_t s0 b4_0 b4_1 at5 false _ (by rfl) (by rfl) (by rfl) (by rfl)
noncomputable def l25_16 (s0 : Bs) (b4_0 : Bool) (b4_1 : List UInt8) (at5 : Int) : Option R25 := iter (fun x : Bs × Bool × List UInt8 × Int => s25_16 x.1 x.2.1 x.2.2.1 x.2.2.2) (s0, b4_0, b4_1, at5)
theorem l25_16_t (s0 : Bs) (b4_0 : Bool) (b4_1 : List UInt8) (at5 : Int) : bodyD (E0 mm) [.tmp 2, .tmp 3] 0 false (seqD (E0 mm) 25 0 (callW (E0 mm)) itW c25_41 (blockD 0 (itW (loopF (E0 mm) 25 0 (callW (E0 mm)) itW c25_17 [(0, .keep), (4, .own), (5, .keep)]) (none, [.v (.c (.d (.sc (.string (S s0))))), .v (.c (.own b4_0 (enL enB b4_1) 0)), .v (.c (.d (.sc (.int .i64 at5))))], [.row b4_1.length (rz b4_0 1)])))) = (l25_16 s0 b4_0 b4_1 at5).map e25 :=
  it_sim (K := (K25_16 (mm := mm))) rfl (enc := en25_16) (fun x => s25_16_t x.1 x.2.1 x.2.2.1 x.2.2.2) (s0, b4_0, b4_1, at5)
noncomputable def j25_5 (s0 : Bs) (t13 : Bool) : Option R25 :=
  if t13 = true then
    some (([] : Bs), false)
  else
    l25_16 s0 true ([] : List UInt8) (1 : Int)
set_option maxRecDepth 100000 in
theorem j25_5_t (s0 : Bs) (t13 : Bool)  (sl : Nat → AV) (zq0 : sl 0 = .v (.c (.d (.sc (.string (S s0)))))) (zq13 : sl 13 = .v (.c (.d (.sc (.bool t13))))) :
    bodyD (E0 mm) [.tmp 2, .tmp 3] 0 false (seqD (E0 mm) 25 0 (callW (E0 mm)) itW c25_10 (den (E0 mm) 25 0 (callW (E0 mm)) itW c25_5 none ⟨sl, []⟩)) = (j25_5 s0 t13).map e25 := by
  simp -implicitDefEqProofs only [j25_5, (show c25_5 = Code.cond _ c25_6 c25_9 from rfl), zq0, zq13, setA, setB, String.reduceBEq, Nat.reduceEqDiff, Int.reduceEq, Nat.reduceAdd, Nat.reduceLeDiff, Nat.reduceLT, Int.reduceLE, Int.reduceLT, Int.reduceToNat, Int.reduceNegSucc, Nat.reduceMul, Int.reduceAdd, Nat.reduceBEq, Nat.reduceSub, Nat.reducePow, Int.reduceBEq, reduceCtorEq, E0P, E0hand, E0hard, E0row, E0nw, E0aown, E0glob, ↓reduceIte]
  refine brB (fun yc2 => ?_) (fun yc2 => ?_)
  · simp -implicitDefEqProofs only [c25_6_e, c25_7_r, (show opsOf c25_7 = _ :: _ from rfl), c25_8_e, zq0, zq13, yc2, setA, setB, String.reduceBEq, Nat.reduceEqDiff, Int.reduceEq, Nat.reduceAdd, Nat.reduceLeDiff, Nat.reduceLT, Int.reduceLE, Int.reduceLT, Int.reduceToNat, Int.reduceNegSucc, Nat.reduceMul, Int.reduceAdd, Nat.reduceBEq, Nat.reduceSub, Nat.reducePow, Int.reduceBEq, reduceCtorEq, E0P, E0hand, E0hard, E0row, E0nw, E0aown, E0glob, ↓reduceIte]
    all_goals rfl
  · simp -implicitDefEqProofs only [c25_9_e, c25_10_e, c25_11_r, (show opsOf c25_11 = _ :: _ from rfl), c25_12_e, c25_13_r, (show opsOf c25_13 = _ :: _ from rfl), c25_14_e, c25_15_e, c25_16_l, zq0, zq13, yc2, setA, setB, String.reduceBEq, Nat.reduceEqDiff, Int.reduceEq, Nat.reduceAdd, Nat.reduceLeDiff, Nat.reduceLT, Int.reduceLE, Int.reduceLT, Int.reduceToNat, Int.reduceNegSucc, Nat.reduceMul, Int.reduceAdd, Nat.reduceBEq, Nat.reduceSub, Nat.reducePow, Int.reduceBEq, reduceCtorEq, E0P, E0hand, E0hard, E0row, E0nw, E0aown, E0glob, ↓reduceIte]
    exact l25_16_t s0 true ([] : List UInt8) (1 : Int)
noncomputable def m25 (s : Bs) : Option R25 :=
  if ((s.length : Int) == 0) = true then
    j25_5 s true
  else
    if (0 : Int) < (s.length : Int) then
      j25_5 s (!((s.getD 0 0) == (34 : UInt8)))
    else none
set_option maxRecDepth 100000 in
theorem f25_t (s : Bs) :
    callW (E0 mm) 25 [.c (.d (.sc (.string (S s))))] [] = (m25 s).map e25 := by
  rw [callW_run (body := c25_0) (res := [.tmp 2, .tmp 3]) Tryd.func25 rfl rfl (by kernel_rfl)]
  simp -implicitDefEqProofs only [m25, slots1, c25_0_e, c25_1_r, (show opsOf c25_1 = _ :: _ from rfl), c25_2_e, c25_3_e, c25_4_r, (show opsOf c25_4 = _ :: _ from rfl), Tryd.underlying9, setA, setB, String.reduceBEq, Nat.reduceEqDiff, Int.reduceEq, Nat.reduceAdd, Nat.reduceLeDiff, Nat.reduceLT, Int.reduceLE, Int.reduceLT, Int.reduceToNat, Int.reduceNegSucc, Nat.reduceMul, Int.reduceAdd, Nat.reduceBEq, Nat.reduceSub, Nat.reducePow, Int.reduceBEq, reduceCtorEq, E0P, E0hand, E0hard, E0row, E0nw, E0aown, E0glob, ↓reduceIte]
  refine brB (fun yc1 => ?_) (fun yc1 => ?_)
  · simp -implicitDefEqProofs only [yc1, setA, setB, String.reduceBEq, Nat.reduceEqDiff, Int.reduceEq, Nat.reduceAdd, Nat.reduceLeDiff, Nat.reduceLT, Int.reduceLE, Int.reduceLT, Int.reduceToNat, Int.reduceNegSucc, Nat.reduceMul, Int.reduceAdd, Nat.reduceBEq, Nat.reduceSub, Nat.reducePow, Int.reduceBEq, reduceCtorEq, E0P, E0hand, E0hard, E0row, E0nw, E0aown, E0glob, ↓reduceIte]
    exact j25_5_t s true _ (by rfl) (by rfl)
  · simp -implicitDefEqProofs only [Tryd.underlying9, yc1, setA, setB, String.reduceBEq, Nat.reduceEqDiff, Int.reduceEq, Nat.reduceAdd, Nat.reduceLeDiff, Nat.reduceLT, Int.reduceLE, Int.reduceLT, Int.reduceToNat, Int.reduceNegSucc, Nat.reduceMul, Int.reduceAdd, Nat.reduceBEq, Nat.reduceSub, Nat.reducePow, Int.reduceBEq, reduceCtorEq, E0P, E0hand, E0hard, E0row, E0nw, E0aown, E0glob, ↓reduceIte]
    refine brP (fun yc16 => ?_) (fun yc16 => ?_)
    · simp -implicitDefEqProofs only [yc1, yc16, setA, setB, String.reduceBEq, Nat.reduceEqDiff, Int.reduceEq, Nat.reduceAdd, Nat.reduceLeDiff, Nat.reduceLT, Int.reduceLE, Int.reduceLT, Int.reduceToNat, Int.reduceNegSucc, Nat.reduceMul, Int.reduceAdd, Nat.reduceBEq, Nat.reduceSub, Nat.reducePow, Int.reduceBEq, reduceCtorEq, E0P, E0hand, E0hard, E0row, E0nw, E0aown, E0glob, ↓reduceIte]
      exact j25_5_t s (!((s.getD 0 0) == (34 : UInt8))) _ (by rfl) (by rfl)
    · simp -implicitDefEqProofs only [yc1, yc16, setA, setB, String.reduceBEq, Nat.reduceEqDiff, Int.reduceEq, Nat.reduceAdd, Nat.reduceLeDiff, Nat.reduceLT, Int.reduceLE, Int.reduceLT, Int.reduceToNat, Int.reduceNegSucc, Nat.reduceMul, Int.reduceAdd, Nat.reduceBEq, Nat.reduceSub, Nat.reducePow, Int.reduceBEq, reduceCtorEq, E0P, E0hand, E0hard, E0row, E0nw, E0aown, E0glob, ↓reduceIte]
/-! internal/stringslite.Cut -/
noncomputable def c51_0 : Code := bodyOf Tryd.f51
noncomputable def c51_1 : Code := cA c51_0
noncomputable def c51_2 : Code := cB c51_0
noncomputable def c51_3 : Code := cA c51_2
noncomputable def c51_4 : Code := cA c51_3
noncomputable def c51_5 : Code := cB c51_3
noncomputable def c51_6 : Code := cA c51_5
noncomputable def c51_7 : Code := cB c51_5
noncomputable def c51_8 : Code := cA c51_7
noncomputable def c51_9 : Code := cA c51_8
noncomputable def c51_10 : Code := cB c51_8
noncomputable def c51_11 : Code := cB c51_7
noncomputable def c51_12 : Code := cB c51_2
noncomputable def c51_13 : Code := cA c51_12
noncomputable def c51_14 : Code := cB c51_12
theorem c51_0_e : c51_0 = .seq c51_1 c51_2 := rfl
theorem c51_1_r (m : Nat) (st : St) : den (E0 mm) 51 m (callW (E0 mm)) itW c51_1 none st = regD (runOps (E0 mm) (callW (E0 mm)) (opsOf c51_1) (opsOf c51_1) st) := den_rg (by rfl)
theorem c51_2_e : c51_2 = .seq c51_3 c51_12 := rfl
theorem c51_3_e : c51_3 = .seq c51_4 c51_5 := rfl
theorem c51_4_r (m : Nat) (st : St) : den (E0 mm) 51 m (callW (E0 mm)) itW c51_4 none st = regD (runOps (E0 mm) (callW (E0 mm)) (opsOf c51_4) (opsOf c51_4) st) := den_rg (by rfl)
theorem c51_5_e : c51_5 = .seq c51_6 c51_7 := rfl
theorem c51_6_r (m : Nat) (st : St) : den (E0 mm) 51 m (callW (E0 mm)) itW c51_6 none st = regD (runOps (E0 mm) (callW (E0 mm)) (opsOf c51_6) (opsOf c51_6) st) := den_rg (by rfl)
theorem c51_8_e : c51_8 = .seq c51_9 c51_10 := rfl
theorem c51_9_r (m : Nat) (st : St) : den (E0 mm) 51 m (callW (E0 mm)) itW c51_9 none st = regD (runOps (E0 mm) (callW (E0 mm)) (opsOf c51_9) (opsOf c51_9) st) := den_dr2 (by kernel_rfl)
theorem c51_10_e : c51_10 = .ret := rfl
theorem c51_11_e : c51_11 = .skip := rfl
theorem c51_12_e : c51_12 = .seq c51_13 c51_14 := rfl
theorem c51_13_r (m : Nat) (st : St) : den (E0 mm) 51 m (callW (E0 mm)) itW c51_13 none st = regD (runOps (E0 mm) (callW (E0 mm)) (opsOf c51_13) (opsOf c51_13) st) := den_rg (by rfl)
theorem c51_14_e : c51_14 = .ret := rfl
abbrev R51 := (Bs × Bs × Bool)
def e51 : R51 → AV × Heap := fun x => (.tup [.c (.d (.sc (.string (S x.1)))), .c (.d (.sc (.string (S x.2.1)))), .c (.d (.sc (.bool x.2.2)))], [])
noncomputable def m51 (s : Bs) (sep : Bs) : Option R51 :=
  (mIx s sep).bind fun yr2 =>
    if (decide (0 ≤ yr2)) = true then
      (bnd yr2 s.length).bind fun yk5 =>
        (bnd (w64 (yr2 + (sep.length : Int))) s.length).bind fun yk7 =>
          some ((s.take yk5), (s.drop yk7), true)
    else
      some (s, ([] : Bs), false)
set_option maxRecDepth 100000 in
theorem f51_t (s : Bs) (sep : Bs) :
    callW (E0 mm) 51 [.c (.d (.sc (.string (S s)))), .c (.d (.sc (.string (S sep))))] [] = (m51 s sep).map e51 := by
  rw [callW_run (body := c51_0) (res := [.tmp 4, .tmp 5, .tmp 6]) Tryd.func51 rfl rfl (by kernel_rfl)]
  simp -implicitDefEqProofs only [m51, slots2, c51_0_e, c51_1_r, (show opsOf c51_1 = _ :: _ from rfl), c51_2_e, c51_3_e, c51_4_r, (show opsOf c51_4 = _ :: _ from rfl), ent59, prm59, pIndex_t, setA, setB, String.reduceBEq, Nat.reduceEqDiff, Int.reduceEq, Nat.reduceAdd, Nat.reduceLeDiff, Nat.reduceLT, Int.reduceLE, Int.reduceLT, Int.reduceToNat, Int.reduceNegSucc, Nat.reduceMul, Int.reduceAdd, Nat.reduceBEq, Nat.reduceSub, Nat.reducePow, Int.reduceBEq, reduceCtorEq, E0P, E0hand, E0hard, E0row, E0nw, E0aown, E0glob, ↓reduceIte]
  refine brM (fun yc1 => ?_) (fun yr2 yc1 => ?_)
  · simp -implicitDefEqProofs only [yc1, pIndex_t, setA, setB, String.reduceBEq, Nat.reduceEqDiff, Int.reduceEq, Nat.reduceAdd, Nat.reduceLeDiff, Nat.reduceLT, Int.reduceLE, Int.reduceLT, Int.reduceToNat, Int.reduceNegSucc, Nat.reduceMul, Int.reduceAdd, Nat.reduceBEq, Nat.reduceSub, Nat.reducePow, Int.reduceBEq, reduceCtorEq, E0P, E0hand, E0hard, E0row, E0nw, E0aown, E0glob, ↓reduceIte]
  · simp -implicitDefEqProofs only [pIndex_t, c51_5_e, c51_6_r, (show opsOf c51_6 = _ :: _ from rfl), (show c51_7 = Code.cond _ c51_8 c51_11 from rfl), yc1, setA, setB, String.reduceBEq, Nat.reduceEqDiff, Int.reduceEq, Nat.reduceAdd, Nat.reduceLeDiff, Nat.reduceLT, Int.reduceLE, Int.reduceLT, Int.reduceToNat, Int.reduceNegSucc, Nat.reduceMul, Int.reduceAdd, Nat.reduceBEq, Nat.reduceSub, Nat.reducePow, Int.reduceBEq, reduceCtorEq, E0P, E0hand, E0hard, E0row, E0nw, E0aown, E0glob, ↓reduceIte]
    refine brB (fun yc3 => ?_) (fun yc3 => ?_)
    · simp -implicitDefEqProofs only [c51_8_e, c51_9_r, (show opsOf c51_9 = _ :: _ from rfl), Tryd.underlying9, yc1, yc3, setA, setB, String.reduceBEq, Nat.reduceEqDiff, Int.reduceEq, Nat.reduceAdd, Nat.reduceLeDiff, Nat.reduceLT, Int.reduceLE, Int.reduceLT, Int.reduceToNat, Int.reduceNegSucc, Nat.reduceMul, Int.reduceAdd, Nat.reduceBEq, Nat.reduceSub, Nat.reducePow, Int.reduceBEq, reduceCtorEq, E0P, E0hand, E0hard, E0row, E0nw, E0aown, E0glob, ↓reduceIte]
      refine brM (fun yc4 => ?_) (fun yk5 yc4 => ?_)
      · simp -implicitDefEqProofs only [yc4, yc1, yc3, setA, setB, String.reduceBEq, Nat.reduceEqDiff, Int.reduceEq, Nat.reduceAdd, Nat.reduceLeDiff, Nat.reduceLT, Int.reduceLE, Int.reduceLT, Int.reduceToNat, Int.reduceNegSucc, Nat.reduceMul, Int.reduceAdd, Nat.reduceBEq, Nat.reduceSub, Nat.reducePow, Int.reduceBEq, reduceCtorEq, E0P, E0hand, E0hard, E0row, E0nw, E0aown, E0glob, ↓reduceIte]
      · simp -implicitDefEqProofs only [Tryd.underlying9, yc1, yc3, yc4, setA, setB, String.reduceBEq, Nat.reduceEqDiff, Int.reduceEq, Nat.reduceAdd, Nat.reduceLeDiff, Nat.reduceLT, Int.reduceLE, Int.reduceLT, Int.reduceToNat, Int.reduceNegSucc, Nat.reduceMul, Int.reduceAdd, Nat.reduceBEq, Nat.reduceSub, Nat.reducePow, Int.reduceBEq, reduceCtorEq, E0P, E0hand, E0hard, E0row, E0nw, E0aown, E0glob, ↓reduceIte]
        refine brM (fun yc6 => ?_) (fun yk7 yc6 => ?_)
        · simp -implicitDefEqProofs only [yc6, yc1, yc3, yc4, setA, setB, String.reduceBEq, Nat.reduceEqDiff, Int.reduceEq, Nat.reduceAdd, Nat.reduceLeDiff, Nat.reduceLT, Int.reduceLE, Int.reduceLT, Int.reduceToNat, Int.reduceNegSucc, Nat.reduceMul, Int.reduceAdd, Nat.reduceBEq, Nat.reduceSub, Nat.reducePow, Int.reduceBEq, reduceCtorEq, E0P, E0hand, E0hard, E0row, E0nw, E0aown, E0glob, ↓reduceIte]
        · simp -implicitDefEqProofs only [c51_10_e, yc1, yc3, yc4, yc6, setA, setB, String.reduceBEq, Nat.reduceEqDiff, Int.reduceEq, Nat.reduceAdd, Nat.reduceLeDiff, Nat.reduceLT, Int.reduceLE, Int.reduceLT, Int.reduceToNat, Int.reduceNegSucc, Nat.reduceMul, Int.reduceAdd, Nat.reduceBEq, Nat.reduceSub, Nat.reducePow, Int.reduceBEq, reduceCtorEq, E0P, E0hand, E0hard, E0row, E0nw, E0aown, E0glob, ↓reduceIte]
          all_goals rfl
    · simp -implicitDefEqProofs only [c51_11_e, c51_12_e, c51_13_r, (show opsOf c51_13 = _ :: _ from rfl), c51_14_e, yc1, yc3, setA, setB, String.reduceBEq, Nat.reduceEqDiff, Int.reduceEq, Nat.reduceAdd, Nat.reduceLeDiff, Nat.reduceLT, Int.reduceLE, Int.reduceLT, Int.reduceToNat, Int.reduceNegSucc, Nat.reduceMul, Int.reduceAdd, Nat.reduceBEq, Nat.reduceSub, Nat.reducePow, Int.reduceBEq, reduceCtorEq, E0P, E0hand, E0hard, E0row, E0nw, E0aown, E0glob, ↓reduceIte]
      all_goals rfl
/-! strings.Cut -/
noncomputable def c38_0 : Code := bodyOf Tryd.f38
noncomputable def c38_1 : Code := cA c38_0
noncomputable def c38_2 : Code := cB c38_0
noncomputable def c38_3 : Code := cA c38_2
noncomputable def c38_4 : Code := cB c38_2
theorem c38_0_e : c38_0 = .seq c38_1 c38_2 := rfl
theorem c38_1_r (m : Nat) (st : St) : den (E0 mm) 38 m (callW (E0 mm)) itW c38_1 none st = regD (runOps (E0 mm) (callW (E0 mm)) (opsOf c38_1) (opsOf c38_1) st) := den_rg (by rfl)
theorem c38_2_e : c38_2 = .seq c38_3 c38_4 := rfl
theorem c38_3_r (m : Nat) (st : St) : den (E0 mm) 38 m (callW (E0 mm)) itW c38_3 none st = regD (runOps (E0 mm) (callW (E0 mm)) (opsOf c38_3) (opsOf c38_3) st) := den_rg (by rfl)
theorem c38_4_e : c38_4 = .ret := rfl
abbrev R38 := (Bs × Bs × Bool)
def e38 : R38 → AV × Heap := fun x => (.tup [.c (.d (.sc (.string (S x.1)))), .c (.d (.sc (.string (S x.2.1)))), .c (.d (.sc (.bool x.2.2)))], [])
noncomputable def m38 (s : Bs) (sep : Bs) : Option R38 :=
  (m51 s sep).bind fun yr2 =>
    some (yr2.1, yr2.2.1, yr2.2.2)
set_option maxRecDepth 100000 in
theorem f38_t (s : Bs) (sep : Bs) :
    callW (E0 mm) 38 [.c (.d (.sc (.string (S s)))), .c (.d (.sc (.string (S sep))))] [] = (m38 s sep).map e38 := by
  rw [callW_run (body := c38_0) (res := [.tmp 4, .tmp 5, .tmp 6]) Tryd.func38 rfl rfl (by kernel_rfl)]
  simp -implicitDefEqProofs only [m38, slots2, c38_0_e, c38_1_r, (show opsOf c38_1 = _ :: _ from rfl), c38_2_e, c38_3_r, (show opsOf c38_3 = _ :: _ from rfl), ent51, prm51, f51_t, setA, setB, String.reduceBEq, Nat.reduceEqDiff, Int.reduceEq, Nat.reduceAdd, Nat.reduceLeDiff, Nat.reduceLT, Int.reduceLE, Int.reduceLT, Int.reduceToNat, Int.reduceNegSucc, Nat.reduceMul, Int.reduceAdd, Nat.reduceBEq, Nat.reduceSub, Nat.reducePow, Int.reduceBEq, reduceCtorEq, E0P, E0hand, E0hard, E0row, E0nw, E0aown, E0glob, ↓reduceIte]
  refine brM (fun yc1 => ?_) (fun yr2 yc1 => ?_)
  · simp -implicitDefEqProofs only [yc1, e51, setA, setB, String.reduceBEq, Nat.reduceEqDiff, Int.reduceEq, Nat.reduceAdd, Nat.reduceLeDiff, Nat.reduceLT, Int.reduceLE, Int.reduceLT, Int.reduceToNat, Int.reduceNegSucc, Nat.reduceMul, Int.reduceAdd, Nat.reduceBEq, Nat.reduceSub, Nat.reducePow, Int.reduceBEq, reduceCtorEq, E0P, E0hand, E0hard, E0row, E0nw, E0aown, E0glob, ↓reduceIte]
  · simp -implicitDefEqProofs only [e51, c38_4_e, yc1, setA, setB, String.reduceBEq, Nat.reduceEqDiff, Int.reduceEq, Nat.reduceAdd, Nat.reduceLeDiff, Nat.reduceLT, Int.reduceLE, Int.reduceLT, Int.reduceToNat, Int.reduceNegSucc, Nat.reduceMul, Int.reduceAdd, Nat.reduceBEq, Nat.reduceSub, Nat.reducePow, Int.reduceBEq, reduceCtorEq, E0P, E0hand, E0hard, E0row, E0nw, E0aown, E0glob, ↓reduceIte]
    all_goals rfl
/-! tollhouse/text.Pair -/
noncomputable def c26_0 : Code := bodyOf Tryd.f26
noncomputable def c26_1 : Code := cA c26_0
noncomputable def c26_2 : Code := cB c26_0
noncomputable def c26_3 : Code := cA c26_2
noncomputable def c26_4 : Code := cB c26_2
noncomputable def c26_5 : Code := cA c26_4
noncomputable def c26_6 : Code := cA c26_5
noncomputable def c26_7 : Code := cB c26_5
noncomputable def c26_8 : Code := cA c26_7
noncomputable def c26_9 : Code := cA c26_8
noncomputable def c26_10 : Code := cB c26_8
noncomputable def c26_11 : Code := cB c26_7
noncomputable def c26_12 : Code := cB c26_4
noncomputable def c26_13 : Code := cA c26_12
noncomputable def c26_14 : Code := cA c26_13
noncomputable def c26_15 : Code := cB c26_13
noncomputable def c26_16 : Code := cA c26_15
noncomputable def c26_17 : Code := cA c26_16
noncomputable def c26_18 : Code := cB c26_16
noncomputable def c26_19 : Code := cB c26_15
noncomputable def c26_20 : Code := cB c26_12
noncomputable def c26_21 : Code := cA c26_20
noncomputable def c26_22 : Code := cB c26_20
noncomputable def c26_23 : Code := cA c26_22
noncomputable def c26_24 : Code := cA c26_23
noncomputable def c26_25 : Code := cB c26_23
noncomputable def c26_26 : Code := cA c26_25
noncomputable def c26_27 : Code := cA c26_26
noncomputable def c26_28 : Code := cB c26_26
noncomputable def c26_29 : Code := cB c26_25
noncomputable def c26_30 : Code := cB c26_22
noncomputable def c26_31 : Code := cA c26_30
noncomputable def c26_32 : Code := cB c26_30
theorem c26_0_e : c26_0 = .seq c26_1 c26_2 := rfl
theorem c26_1_r (m : Nat) (st : St) : den (E0 mm) 26 m (callW (E0 mm)) itW c26_1 none st = regD (runOps (E0 mm) (callW (E0 mm)) (opsOf c26_1) (opsOf c26_1) st) := den_rg (by rfl)
theorem c26_2_e : c26_2 = .seq c26_3 c26_4 := rfl
theorem c26_3_r (m : Nat) (st : St) : den (E0 mm) 26 m (callW (E0 mm)) itW c26_3 none st = regD (runOps (E0 mm) (callW (E0 mm)) (opsOf c26_3) (opsOf c26_3) st) := den_rg (by rfl)
theorem c26_4_e : c26_4 = .seq c26_5 c26_12 := rfl
theorem c26_5_e : c26_5 = .seq c26_6 c26_7 := rfl
theorem c26_6_r (m : Nat) (st : St) : den (E0 mm) 26 m (callW (E0 mm)) itW c26_6 none st = regD (runOps (E0 mm) (callW (E0 mm)) (opsOf c26_6) (opsOf c26_6) st) := den_rg (by rfl)
theorem c26_8_e : c26_8 = .seq c26_9 c26_10 := rfl
theorem c26_9_r (m : Nat) (st : St) : den (E0 mm) 26 m (callW (E0 mm)) itW c26_9 none st = regD (runOps (E0 mm) (callW (E0 mm)) (opsOf c26_9) (opsOf c26_9) st) := den_rg (by rfl)
theorem c26_10_e : c26_10 = .ret := rfl
theorem c26_11_e : c26_11 = .skip := rfl
theorem c26_12_e : c26_12 = .seq c26_13 c26_20 := rfl
theorem c26_13_e : c26_13 = .seq c26_14 c26_15 := rfl
theorem c26_14_r (m : Nat) (st : St) : den (E0 mm) 26 m (callW (E0 mm)) itW c26_14 none st = regD (runOps (E0 mm) (callW (E0 mm)) (opsOf c26_14) (opsOf c26_14) st) := den_rg (by rfl)
theorem c26_16_e : c26_16 = .seq c26_17 c26_18 := rfl
theorem c26_17_r (m : Nat) (st : St) : den (E0 mm) 26 m (callW (E0 mm)) itW c26_17 none st = regD (runOps (E0 mm) (callW (E0 mm)) (opsOf c26_17) (opsOf c26_17) st) := den_rg (by rfl)
theorem c26_18_e : c26_18 = .ret := rfl
theorem c26_19_e : c26_19 = .skip := rfl
theorem c26_20_e : c26_20 = .seq c26_21 c26_22 := rfl
theorem c26_21_r (m : Nat) (st : St) : den (E0 mm) 26 m (callW (E0 mm)) itW c26_21 none st = regD (runOps (E0 mm) (callW (E0 mm)) (opsOf c26_21) (opsOf c26_21) st) := den_rg (by rfl)
theorem c26_22_e : c26_22 = .seq c26_23 c26_30 := rfl
theorem c26_23_e : c26_23 = .seq c26_24 c26_25 := rfl
theorem c26_24_r (m : Nat) (st : St) : den (E0 mm) 26 m (callW (E0 mm)) itW c26_24 none st = regD (runOps (E0 mm) (callW (E0 mm)) (opsOf c26_24) (opsOf c26_24) st) := den_rg (by rfl)
theorem c26_26_e : c26_26 = .seq c26_27 c26_28 := rfl
theorem c26_27_r (m : Nat) (st : St) : den (E0 mm) 26 m (callW (E0 mm)) itW c26_27 none st = regD (runOps (E0 mm) (callW (E0 mm)) (opsOf c26_27) (opsOf c26_27) st) := den_rg (by rfl)
theorem c26_28_e : c26_28 = .ret := rfl
theorem c26_29_e : c26_29 = .skip := rfl
theorem c26_30_e : c26_30 = .seq c26_31 c26_32 := rfl
theorem c26_31_r (m : Nat) (st : St) : den (E0 mm) 26 m (callW (E0 mm)) itW c26_31 none st = regD (runOps (E0 mm) (callW (E0 mm)) (opsOf c26_31) (opsOf c26_31) st) := den_rg (by rfl)
theorem c26_32_e : c26_32 = .ret := rfl
abbrev R26 := (Bs × Bs × Bool)
def e26 : R26 → AV × Heap := fun x => (.tup [.c (.d (.sc (.string (S x.1)))), .c (.d (.sc (.string (S x.2.1)))), .c (.d (.sc (.bool x.2.2)))], [])
noncomputable def j26_15 (name5 : Bs) (value6 : Bs) (t24 : Bool) : Option R26 :=
  if t24 = true then
    (m16 name5).bind fun yr11 =>
      some (yr11, value6, true)
  else
    (m24 value6).bind fun yr13 =>
      if yr13.2 = true then
        (m16 name5).bind fun yr16 =>
          some (yr16, yr13.1, true)
      else
        some (([] : Bs), ([] : Bs), false)
set_option maxRecDepth 100000 in
theorem j26_15_t (name5 : Bs) (value6 : Bs) (t24 : Bool)  (sl : Nat → AV) (zq5 : sl 5 = .v (.c (.d (.sc (.string (S name5)))))) (zq6 : sl 6 = .v (.c (.d (.sc (.string (S value6)))))) (zq24 : sl 24 = .v (.c (.d (.sc (.bool t24))))) :
    bodyD (E0 mm) [.tmp 2, .tmp 3, .tmp 4] 0 false (seqD (E0 mm) 26 0 (callW (E0 mm)) itW c26_20 (den (E0 mm) 26 0 (callW (E0 mm)) itW c26_15 none ⟨sl, []⟩)) = (j26_15 name5 value6 t24).map e26 := by
  simp -implicitDefEqProofs only [j26_15, (show c26_15 = Code.cond _ c26_16 c26_19 from rfl), zq5, zq6, zq24, setA, setB, String.reduceBEq, Nat.reduceEqDiff, Int.reduceEq, Nat.reduceAdd, Nat.reduceLeDiff, Nat.reduceLT, Int.reduceLE, Int.reduceLT, Int.reduceToNat, Int.reduceNegSucc, Nat.reduceMul, Int.reduceAdd, Nat.reduceBEq, Nat.reduceSub, Nat.reducePow, Int.reduceBEq, reduceCtorEq, E0P, E0hand, E0hard, E0row, E0nw, E0aown, E0glob, ↓reduceIte]
  refine brB (fun yc9 => ?_) (fun yc9 => ?_)
  · simp -implicitDefEqProofs only [c26_16_e, c26_17_r, (show opsOf c26_17 = _ :: _ from rfl), ent16, prm16, f16_t, zq5, zq6, zq24, yc9, setA, setB, String.reduceBEq, Nat.reduceEqDiff, Int.reduceEq, Nat.reduceAdd, Nat.reduceLeDiff, Nat.reduceLT, Int.reduceLE, Int.reduceLT, Int.reduceToNat, Int.reduceNegSucc, Nat.reduceMul, Int.reduceAdd, Nat.reduceBEq, Nat.reduceSub, Nat.reducePow, Int.reduceBEq, reduceCtorEq, E0P, E0hand, E0hard, E0row, E0nw, E0aown, E0glob, ↓reduceIte]
    refine brM (fun yc10 => ?_) (fun yr11 yc10 => ?_)
    · simp -implicitDefEqProofs only [yc10, zq5, zq6, zq24, yc9, e16, setA, setB, String.reduceBEq, Nat.reduceEqDiff, Int.reduceEq, Nat.reduceAdd, Nat.reduceLeDiff, Nat.reduceLT, Int.reduceLE, Int.reduceLT, Int.reduceToNat, Int.reduceNegSucc, Nat.reduceMul, Int.reduceAdd, Nat.reduceBEq, Nat.reduceSub, Nat.reducePow, Int.reduceBEq, reduceCtorEq, E0P, E0hand, E0hard, E0row, E0nw, E0aown, E0glob, ↓reduceIte]
    · simp -implicitDefEqProofs only [e16, c26_18_e, zq5, zq6, zq24, yc9, yc10, setA, setB, String.reduceBEq, Nat.reduceEqDiff, Int.reduceEq, Nat.reduceAdd, Nat.reduceLeDiff, Nat.reduceLT, Int.reduceLE, Int.reduceLT, Int.reduceToNat, Int.reduceNegSucc, Nat.reduceMul, Int.reduceAdd, Nat.reduceBEq, Nat.reduceSub, Nat.reducePow, Int.reduceBEq, reduceCtorEq, E0P, E0hand, E0hard, E0row, E0nw, E0aown, E0glob, ↓reduceIte]
      all_goals rfl
  · simp -implicitDefEqProofs only [c26_19_e, c26_20_e, c26_21_r, (show opsOf c26_21 = _ :: _ from rfl), ent24, prm24, f24_t, zq5, zq6, zq24, yc9, setA, setB, String.reduceBEq, Nat.reduceEqDiff, Int.reduceEq, Nat.reduceAdd, Nat.reduceLeDiff, Nat.reduceLT, Int.reduceLE, Int.reduceLT, Int.reduceToNat, Int.reduceNegSucc, Nat.reduceMul, Int.reduceAdd, Nat.reduceBEq, Nat.reduceSub, Nat.reducePow, Int.reduceBEq, reduceCtorEq, E0P, E0hand, E0hard, E0row, E0nw, E0aown, E0glob, ↓reduceIte]
    refine brM (fun yc12 => ?_) (fun yr13 yc12 => ?_)
    · simp -implicitDefEqProofs only [yc12, zq5, zq6, zq24, yc9, e24, setA, setB, String.reduceBEq, Nat.reduceEqDiff, Int.reduceEq, Nat.reduceAdd, Nat.reduceLeDiff, Nat.reduceLT, Int.reduceLE, Int.reduceLT, Int.reduceToNat, Int.reduceNegSucc, Nat.reduceMul, Int.reduceAdd, Nat.reduceBEq, Nat.reduceSub, Nat.reducePow, Int.reduceBEq, reduceCtorEq, E0P, E0hand, E0hard, E0row, E0nw, E0aown, E0glob, ↓reduceIte]
    · simp -implicitDefEqProofs only [e24, c26_22_e, c26_23_e, c26_24_r, (show opsOf c26_24 = _ :: _ from rfl), (show c26_25 = Code.cond _ c26_26 c26_29 from rfl), zq5, zq6, zq24, yc9, yc12, setA, setB, String.reduceBEq, Nat.reduceEqDiff, Int.reduceEq, Nat.reduceAdd, Nat.reduceLeDiff, Nat.reduceLT, Int.reduceLE, Int.reduceLT, Int.reduceToNat, Int.reduceNegSucc, Nat.reduceMul, Int.reduceAdd, Nat.reduceBEq, Nat.reduceSub, Nat.reducePow, Int.reduceBEq, reduceCtorEq, E0P, E0hand, E0hard, E0row, E0nw, E0aown, E0glob, ↓reduceIte]
      refine brB (fun yc14 => ?_) (fun yc14 => ?_)
      · simp -implicitDefEqProofs only [c26_29_e, c26_30_e, c26_31_r, (show opsOf c26_31 = _ :: _ from rfl), ent16, prm16, f16_t, zq5, zq6, zq24, yc9, yc12, yc14, setA, setB, String.reduceBEq, Nat.reduceEqDiff, Int.reduceEq, Nat.reduceAdd, Nat.reduceLeDiff, Nat.reduceLT, Int.reduceLE, Int.reduceLT, Int.reduceToNat, Int.reduceNegSucc, Nat.reduceMul, Int.reduceAdd, Nat.reduceBEq, Nat.reduceSub, Nat.reducePow, Int.reduceBEq, reduceCtorEq, E0P, E0hand, E0hard, E0row, E0nw, E0aown, E0glob, ↓reduceIte]
        refine brM (fun yc15 => ?_) (fun yr16 yc15 => ?_)
        · simp -implicitDefEqProofs only [yc15, zq5, zq6, zq24, yc9, yc12, yc14, e16, setA, setB, String.reduceBEq, Nat.reduceEqDiff, Int.reduceEq, Nat.reduceAdd, Nat.reduceLeDiff, Nat.reduceLT, Int.reduceLE, Int.reduceLT, Int.reduceToNat, Int.reduceNegSucc, Nat.reduceMul, Int.reduceAdd, Nat.reduceBEq, Nat.reduceSub, Nat.reducePow, Int.reduceBEq, reduceCtorEq, E0P, E0hand, E0hard, E0row, E0nw, E0aown, E0glob, ↓reduceIte]
        · simp -implicitDefEqProofs only [e16, c26_32_e, zq5, zq6, zq24, yc9, yc12, yc14, yc15, setA, setB, String.reduceBEq, Nat.reduceEqDiff, Int.reduceEq, Nat.reduceAdd, Nat.reduceLeDiff, Nat.reduceLT, Int.reduceLE, Int.reduceLT, Int.reduceToNat, Int.reduceNegSucc, Nat.reduceMul, Int.reduceAdd, Nat.reduceBEq, Nat.reduceSub, Nat.reducePow, Int.reduceBEq, reduceCtorEq, E0P, E0hand, E0hard, E0row, E0nw, E0aown, E0glob, ↓reduceIte]
          all_goals rfl
      · simp -implicitDefEqProofs only [c26_26_e, c26_27_r, (show opsOf c26_27 = _ :: _ from rfl), c26_28_e, zq5, zq6, zq24, yc9, yc12, yc14, setA, setB, String.reduceBEq, Nat.reduceEqDiff, Int.reduceEq, Nat.reduceAdd, Nat.reduceLeDiff, Nat.reduceLT, Int.reduceLE, Int.reduceLT, Int.reduceToNat, Int.reduceNegSucc, Nat.reduceMul, Int.reduceAdd, Nat.reduceBEq, Nat.reduceSub, Nat.reducePow, Int.reduceBEq, reduceCtorEq, E0P, E0hand, E0hard, E0row, E0nw, E0aown, E0glob, ↓reduceIte]
        all_goals rfl
noncomputable def m26 (s : Bs) : Option R26 :=
  (m38 s ([61] : Bs)).bind fun yr2 =>
    (m10 yr2.1).bind fun yr4 =>
      if yr4 = true then
        if yr2.2.2 = true then
          (m10 yr2.2.1).bind fun yr8 =>
            j26_15 yr2.1 yr2.2.1 yr8
        else
          j26_15 yr2.1 yr2.2.1 true
      else
        some (([] : Bs), ([] : Bs), false)
set_option maxRecDepth 100000 in
theorem f26_t (s : Bs) :
    callW (E0 mm) 26 [.c (.d (.sc (.string (S s))))] [] = (m26 s).map e26 := by
  rw [callW_run (body := c26_0) (res := [.tmp 2, .tmp 3, .tmp 4]) Tryd.func26 rfl rfl (by kernel_rfl)]
  simp -implicitDefEqProofs only [m26, slots1, c26_0_e, c26_1_r, (show opsOf c26_1 = _ :: _ from rfl), c26_2_e, c26_3_r, (show opsOf c26_3 = _ :: _ from rfl), ent38, prm38, (show callW (E0 mm) 38 [.c (.d (.sc (.string (S s)))), .c (.d (.sc (.string (S ([61] : Bs)))))] [] = _ from f38_t s ([61] : Bs)), setA, setB, String.reduceBEq, Nat.reduceEqDiff, Int.reduceEq, Nat.reduceAdd, Nat.reduceLeDiff, Nat.reduceLT, Int.reduceLE, Int.reduceLT, Int.reduceToNat, Int.reduceNegSucc, Nat.reduceMul, Int.reduceAdd, Nat.reduceBEq, Nat.reduceSub, Nat.reducePow, Int.reduceBEq, reduceCtorEq, E0P, E0hand, E0hard, E0row, E0nw, E0aown, E0glob, ↓reduceIte]
  refine brM (fun yc1 => ?_) (fun yr2 yc1 => ?_)
  · simp -implicitDefEqProofs only [yc1, e38, setA, setB, String.reduceBEq, Nat.reduceEqDiff, Int.reduceEq, Nat.reduceAdd, Nat.reduceLeDiff, Nat.reduceLT, Int.reduceLE, Int.reduceLT, Int.reduceToNat, Int.reduceNegSucc, Nat.reduceMul, Int.reduceAdd, Nat.reduceBEq, Nat.reduceSub, Nat.reducePow, Int.reduceBEq, reduceCtorEq, E0P, E0hand, E0hard, E0row, E0nw, E0aown, E0glob, ↓reduceIte]
  · simp -implicitDefEqProofs only [e38, c26_4_e, c26_5_e, c26_6_r, (show opsOf c26_6 = _ :: _ from rfl), ent10, prm10, f10_t, yc1, setA, setB, String.reduceBEq, Nat.reduceEqDiff, Int.reduceEq, Nat.reduceAdd, Nat.reduceLeDiff, Nat.reduceLT, Int.reduceLE, Int.reduceLT, Int.reduceToNat, Int.reduceNegSucc, Nat.reduceMul, Int.reduceAdd, Nat.reduceBEq, Nat.reduceSub, Nat.reducePow, Int.reduceBEq, reduceCtorEq, E0P, E0hand, E0hard, E0row, E0nw, E0aown, E0glob, ↓reduceIte]
    refine brM (fun yc3 => ?_) (fun yr4 yc3 => ?_)
    · simp -implicitDefEqProofs only [yc3, yc1, e10, setA, setB, String.reduceBEq, Nat.reduceEqDiff, Int.reduceEq, Nat.reduceAdd, Nat.reduceLeDiff, Nat.reduceLT, Int.reduceLE, Int.reduceLT, Int.reduceToNat, Int.reduceNegSucc, Nat.reduceMul, Int.reduceAdd, Nat.reduceBEq, Nat.reduceSub, Nat.reducePow, Int.reduceBEq, reduceCtorEq, E0P, E0hand, E0hard, E0row, E0nw, E0aown, E0glob, ↓reduceIte]
    · simp -implicitDefEqProofs only [e10, (show c26_7 = Code.cond _ c26_8 c26_11 from rfl), yc1, yc3, setA, setB, String.reduceBEq, Nat.reduceEqDiff, Int.reduceEq, Nat.reduceAdd, Nat.reduceLeDiff, Nat.reduceLT, Int.reduceLE, Int.reduceLT, Int.reduceToNat, Int.reduceNegSucc, Nat.reduceMul, Int.reduceAdd, Nat.reduceBEq, Nat.reduceSub, Nat.reducePow, Int.reduceBEq, reduceCtorEq, E0P, E0hand, E0hard, E0row, E0nw, E0aown, E0glob, ↓reduceIte]
      refine brB (fun yc5 => ?_) (fun yc5 => ?_)
      · simp -implicitDefEqProofs only [c26_11_e, c26_12_e, c26_13_e, c26_14_r, (show opsOf c26_14 = _ :: _ from rfl), yc1, yc3, yc5, setA, setB, String.reduceBEq, Nat.reduceEqDiff, Int.reduceEq, Nat.reduceAdd, Nat.reduceLeDiff, Nat.reduceLT, Int.reduceLE, Int.reduceLT, Int.reduceToNat, Int.reduceNegSucc, Nat.reduceMul, Int.reduceAdd, Nat.reduceBEq, Nat.reduceSub, Nat.reducePow, Int.reduceBEq, reduceCtorEq, E0P, E0hand, E0hard, E0row, E0nw, E0aown, E0glob, ↓reduceIte]
        refine brB (fun yc6 => ?_) (fun yc6 => ?_)
        · simp -implicitDefEqProofs only [ent10, prm10, f10_t, yc1, yc3, yc5, yc6, setA, setB, String.reduceBEq, Nat.reduceEqDiff, Int.reduceEq, Nat.reduceAdd, Nat.reduceLeDiff, Nat.reduceLT, Int.reduceLE, Int.reduceLT, Int.reduceToNat, Int.reduceNegSucc, Nat.reduceMul, Int.reduceAdd, Nat.reduceBEq, Nat.reduceSub, Nat.reducePow, Int.reduceBEq, reduceCtorEq, E0P, E0hand, E0hard, E0row, E0nw, E0aown, E0glob, ↓reduceIte]
          refine brM (fun yc7 => ?_) (fun yr8 yc7 => ?_)
          · simp -implicitDefEqProofs only [yc7, yc1, yc3, yc5, yc6, e10, setA, setB, String.reduceBEq, Nat.reduceEqDiff, Int.reduceEq, Nat.reduceAdd, Nat.reduceLeDiff, Nat.reduceLT, Int.reduceLE, Int.reduceLT, Int.reduceToNat, Int.reduceNegSucc, Nat.reduceMul, Int.reduceAdd, Nat.reduceBEq, Nat.reduceSub, Nat.reducePow, Int.reduceBEq, reduceCtorEq, E0P, E0hand, E0hard, E0row, E0nw, E0aown, E0glob, ↓reduceIte]
          · simp -implicitDefEqProofs only [e10, yc1, yc3, yc5, yc6, yc7, setA, setB, String.reduceBEq, Nat.reduceEqDiff, Int.reduceEq, Nat.reduceAdd, Nat.reduceLeDiff, Nat.reduceLT, Int.reduceLE, Int.reduceLT, Int.reduceToNat, Int.reduceNegSucc, Nat.reduceMul, Int.reduceAdd, Nat.reduceBEq, Nat.reduceSub, Nat.reducePow, Int.reduceBEq, reduceCtorEq, E0P, E0hand, E0hard, E0row, E0nw, E0aown, E0glob, ↓reduceIte]
            exact j26_15_t yr2.1 yr2.2.1 yr8 _ (by rfl) (by rfl) (by rfl)
        · simp -implicitDefEqProofs only [yc1, yc3, yc5, yc6, setA, setB, String.reduceBEq, Nat.reduceEqDiff, Int.reduceEq, Nat.reduceAdd, Nat.reduceLeDiff, Nat.reduceLT, Int.reduceLE, Int.reduceLT, Int.reduceToNat, Int.reduceNegSucc, Nat.reduceMul, Int.reduceAdd, Nat.reduceBEq, Nat.reduceSub, Nat.reducePow, Int.reduceBEq, reduceCtorEq, E0P, E0hand, E0hard, E0row, E0nw, E0aown, E0glob, ↓reduceIte]
          exact j26_15_t yr2.1 yr2.2.1 true _ (by rfl) (by rfl) (by rfl)
      · simp -implicitDefEqProofs only [c26_8_e, c26_9_r, (show opsOf c26_9 = _ :: _ from rfl), c26_10_e, yc1, yc3, yc5, setA, setB, String.reduceBEq, Nat.reduceEqDiff, Int.reduceEq, Nat.reduceAdd, Nat.reduceLeDiff, Nat.reduceLT, Int.reduceLE, Int.reduceLT, Int.reduceToNat, Int.reduceNegSucc, Nat.reduceMul, Int.reduceAdd, Nat.reduceBEq, Nat.reduceSub, Nat.reducePow, Int.reduceBEq, reduceCtorEq, E0P, E0hand, E0hard, E0row, E0nw, E0aown, E0glob, ↓reduceIte]
        all_goals rfl
/-! tollhouse/tollhouseref02.Pair -/
noncomputable def c27_0 : Code := bodyOf Tryd.f27
noncomputable def c27_1 : Code := cA c27_0
noncomputable def c27_2 : Code := cB c27_0
noncomputable def c27_3 : Code := cA c27_2
noncomputable def c27_4 : Code := cB c27_2
noncomputable def c27_5 : Code := cA c27_4
noncomputable def c27_6 : Code := cA c27_5
noncomputable def c27_7 : Code := cA c27_6
noncomputable def c27_8 : Code := cA c27_7
noncomputable def c27_9 : Code := cA c27_8
noncomputable def c27_10 : Code := cB c27_8
noncomputable def c27_11 : Code := cA c27_10
noncomputable def c27_12 : Code := cB c27_10
noncomputable def c27_13 : Code := cB c27_7
noncomputable def c27_14 : Code := cA c27_13
noncomputable def c27_15 : Code := cB c27_4
noncomputable def c27_16 : Code := cA c27_15
noncomputable def c27_17 : Code := cA c27_16
noncomputable def c27_18 : Code := cB c27_16
noncomputable def c27_19 : Code := cA c27_18
noncomputable def c27_20 : Code := cA c27_19
noncomputable def c27_21 : Code := cB c27_19
noncomputable def c27_22 : Code := cB c27_18
noncomputable def c27_23 : Code := cB c27_15
noncomputable def c27_24 : Code := cA c27_23
noncomputable def c27_25 : Code := cA c27_24
noncomputable def c27_26 : Code := cB c27_24
noncomputable def c27_27 : Code := cA c27_26
noncomputable def c27_28 : Code := cA c27_27
noncomputable def c27_29 : Code := cB c27_27
noncomputable def c27_30 : Code := cB c27_26
noncomputable def c27_31 : Code := cB c27_23
noncomputable def c27_32 : Code := cA c27_31
noncomputable def c27_33 : Code := cB c27_31
noncomputable def c27_34 : Code := cA c27_33
noncomputable def c27_35 : Code := cA c27_34
noncomputable def c27_36 : Code := cB c27_34
noncomputable def c27_37 : Code := cA c27_36
noncomputable def c27_38 : Code := cA c27_37
noncomputable def c27_39 : Code := cB c27_37
noncomputable def c27_40 : Code := cB c27_36
noncomputable def c27_41 : Code := cB c27_33
noncomputable def c27_42 : Code := cA c27_41
noncomputable def c27_43 : Code := cB c27_41
noncomputable def c27_44 : Code := cA c27_43
noncomputable def c27_45 : Code := cA c27_44
noncomputable def c27_46 : Code := cB c27_44
noncomputable def c27_47 : Code := cA c27_46
noncomputable def c27_48 : Code := cA c27_47
noncomputable def c27_49 : Code := cB c27_47
noncomputable def c27_50 : Code := cB c27_46
noncomputable def c27_51 : Code := cB c27_43
noncomputable def c27_52 : Code := cA c27_51
noncomputable def c27_53 : Code := cB c27_51
theorem c27_0_e : c27_0 = .seq c27_1 c27_2 := rfl
theorem c27_1_r (m : Nat) (st : St) : den (E0 mm) 27 m (callW (E0 mm)) itW c27_1 none st = regD (runOps (E0 mm) (callW (E0 mm)) (opsOf c27_1) (opsOf c27_1) st) := den_rg (by rfl)
theorem c27_2_e : c27_2 = .seq c27_3 c27_4 := rfl
theorem c27_3_r (m : Nat) (st : St) : den (E0 mm) 27 m (callW (E0 mm)) itW c27_3 none st = regD (runOps (E0 mm) (callW (E0 mm)) (opsOf c27_3) (opsOf c27_3) st) := den_rg (by rfl)
theorem c27_4_e : c27_4 = .seq c27_5 c27_15 := rfl
theorem c27_5_e : c27_5 = .block 0 c27_6 := rfl
theorem c27_6_l (m : Nat) (st : St) : den (E0 mm) 27 m (callW (E0 mm)) itW c27_6 none st = loopD itW (loopF (E0 mm) 27 m (callW (E0 mm)) itW c27_7 [(0, .keep), (5, .keep)]) (canon m [(0, .keep), (5, .keep)] st) := rfl
theorem c27_7_e : c27_7 = .seq c27_8 c27_13 := rfl
theorem c27_8_e : c27_8 = .seq c27_9 c27_10 := rfl
theorem c27_9_r (m : Nat) (st : St) : den (E0 mm) 27 m (callW (E0 mm)) itW c27_9 none st = regD (runOps (E0 mm) (callW (E0 mm)) (opsOf c27_9) (opsOf c27_9) st) := den_rg (by rfl)
theorem c27_11_e : c27_11 = .skip := rfl
theorem c27_12_e : c27_12 = .exit 0 := rfl
theorem c27_13_e : c27_13 = .block 1 c27_14 := rfl
theorem c27_14_r (m : Nat) (st : St) : den (E0 mm) 27 m (callW (E0 mm)) itW c27_14 none st = regD (runOps (E0 mm) (callW (E0 mm)) (opsOf c27_14) (opsOf c27_14) st) := den_rg (by rfl)
theorem c27_15_e : c27_15 = .seq c27_16 c27_23 := rfl
theorem c27_16_e : c27_16 = .seq c27_17 c27_18 := rfl
theorem c27_17_r (m : Nat) (st : St) : den (E0 mm) 27 m (callW (E0 mm)) itW c27_17 none st = regD (runOps (E0 mm) (callW (E0 mm)) (opsOf c27_17) (opsOf c27_17) st) := den_rg (by rfl)
theorem c27_19_e : c27_19 = .seq c27_20 c27_21 := rfl
theorem c27_20_r (m : Nat) (st : St) : den (E0 mm) 27 m (callW (E0 mm)) itW c27_20 none st = regD (runOps (E0 mm) (callW (E0 mm)) (opsOf c27_20) (opsOf c27_20) st) := den_rg (by rfl)
theorem c27_21_e : c27_21 = .ret := rfl
theorem c27_22_e : c27_22 = .skip := rfl
theorem c27_23_e : c27_23 = .seq c27_24 c27_31 := rfl
theorem c27_24_e : c27_24 = .seq c27_25 c27_26 := rfl
theorem c27_25_r (m : Nat) (st : St) : den (E0 mm) 27 m (callW (E0 mm)) itW c27_25 none st = regD (runOps (E0 mm) (callW (E0 mm)) (opsOf c27_25) (opsOf c27_25) st) := den_rg (by rfl)
theorem c27_27_e : c27_27 = .seq c27_28 c27_29 := rfl
theorem c27_28_r (m : Nat) (st : St) : den (E0 mm) 27 m (callW (E0 mm)) itW c27_28 none st = regD (runOps (E0 mm) (callW (E0 mm)) (opsOf c27_28) (opsOf c27_28) st) := den_rg (by rfl)
theorem c27_29_e : c27_29 = .ret := rfl
theorem c27_30_e : c27_30 = .skip := rfl
theorem c27_31_e : c27_31 = .seq c27_32 c27_33 := rfl
theorem c27_32_r (m : Nat) (st : St) : den (E0 mm) 27 m (callW (E0 mm)) itW c27_32 none st = regD (runOps (E0 mm) (callW (E0 mm)) (opsOf c27_32) (opsOf c27_32) st) := den_rg (by rfl)
theorem c27_33_e : c27_33 = .seq c27_34 c27_41 := rfl
theorem c27_34_e : c27_34 = .seq c27_35 c27_36 := rfl
theorem c27_35_r (m : Nat) (st : St) : den (E0 mm) 27 m (callW (E0 mm)) itW c27_35 none st = regD (runOps (E0 mm) (callW (E0 mm)) (opsOf c27_35) (opsOf c27_35) st) := den_rg (by rfl)
theorem c27_37_e : c27_37 = .seq c27_38 c27_39 := rfl
theorem c27_38_r (m : Nat) (st : St) : den (E0 mm) 27 m (callW (E0 mm)) itW c27_38 none st = regD (runOps (E0 mm) (callW (E0 mm)) (opsOf c27_38) (opsOf c27_38) st) := den_rg (by rfl)
theorem c27_39_e : c27_39 = .ret := rfl
theorem c27_40_e : c27_40 = .skip := rfl
theorem c27_41_e : c27_41 = .seq c27_42 c27_43 := rfl
theorem c27_42_r (m : Nat) (st : St) : den (E0 mm) 27 m (callW (E0 mm)) itW c27_42 none st = regD (runOps (E0 mm) (callW (E0 mm)) (opsOf c27_42) (opsOf c27_42) st) := den_rg (by rfl)
theorem c27_43_e : c27_43 = .seq c27_44 c27_51 := rfl
theorem c27_44_e : c27_44 = .seq c27_45 c27_46 := rfl
theorem c27_45_r (m : Nat) (st : St) : den (E0 mm) 27 m (callW (E0 mm)) itW c27_45 none st = regD (runOps (E0 mm) (callW (E0 mm)) (opsOf c27_45) (opsOf c27_45) st) := den_rg (by rfl)
theorem c27_47_e : c27_47 = .seq c27_48 c27_49 := rfl
theorem c27_48_r (m : Nat) (st : St) : den (E0 mm) 27 m (callW (E0 mm)) itW c27_48 none st = regD (runOps (E0 mm) (callW (E0 mm)) (opsOf c27_48) (opsOf c27_48) st) := den_rg (by rfl)
theorem c27_49_e : c27_49 = .ret := rfl
theorem c27_50_e : c27_50 = .skip := rfl
theorem c27_51_e : c27_51 = .seq c27_52 c27_53 := rfl
theorem c27_52_r (m : Nat) (st : St) : den (E0 mm) 27 m (callW (E0 mm)) itW c27_52 none st = regD (runOps (E0 mm) (callW (E0 mm)) (opsOf c27_52) (opsOf c27_52) st) := den_rg (by rfl)
theorem c27_53_e : c27_53 = .ret := rfl
abbrev R27 := (Bs × Bs × Bool)
def e27 : R27 → AV × Heap := fun x => (.tup [.c (.d (.sc (.string (S x.1)))), .c (.d (.sc (.string (S x.2.1)))), .c (.d (.sc (.bool x.2.2)))], [])
noncomputable def K27_6 : Option (Ex × St) → Option (AV × Heap) := fun r => bodyD (E0 mm) [.tmp 2, .tmp 3, .tmp 4] 0 false (seqD (E0 mm) 27 0 (callW (E0 mm)) itW c27_15 (blockD 0 (r)))
def en27_6 : Bs × Int → X := fun x => (none, [.v (.c (.d (.sc (.string (S x.1))))), .v (.c (.d (.sc (.int .i64 x.2))))], [])
noncomputable def j27_15 (s0 : Bs) (n5 : Int) : Option R27 :=
  (bnd n5 s0.length).bind fun yk5 =>
    (m11 (s0.take yk5)).bind fun yr7 =>
      if yr7 = true then
        if (n5 == (s0.length : Int)) = true then
          (m17 s0).bind fun yr11 =>
            some (yr11, ([] : Bs), true)
        else
          (bnd (w64 (n5 + 1)) s0.length).bind fun yk13 =>
            (m11 (s0.drop yk13)).bind fun yr15 =>
              if yr15 = true then
                (m17 (s0.take yk5)).bind fun yr18 =>
                  some (yr18, (s0.drop yk13), true)
              else
                (m25 (s0.drop yk13)).bind fun yr20 =>
                  if yr20.2 = true then
                    (m17 (s0.take yk5)).bind fun yr23 =>
                      some (yr23, yr20.1, true)
                  else
                    some (([] : Bs), ([] : Bs), false)
      else
        some (([] : Bs), ([] : Bs), false)
set_option maxRecDepth 100000 in
theorem j27_15_t (s0 : Bs) (n5 : Int)  (sl : Nat → AV) (zq0 : sl 0 = .v (.c (.d (.sc (.string (S s0)))))) (zq5 : sl 5 = .v (.c (.d (.sc (.int .i64 n5))))) :
    bodyD (E0 mm) [.tmp 2, .tmp 3, .tmp 4] 0 false (den (E0 mm) 27 0 (callW (E0 mm)) itW c27_15 none ⟨sl, []⟩) = (j27_15 s0 n5).map e27 := by
  simp -implicitDefEqProofs only [j27_15, c27_15_e, c27_16_e, c27_17_r, (show opsOf c27_17 = _ :: _ from rfl), Tryd.underlying9, zq0, zq5, setA, setB, String.reduceBEq, Nat.reduceEqDiff, Int.reduceEq, Nat.reduceAdd, Nat.reduceLeDiff, Nat.reduceLT, Int.reduceLE, Int.reduceLT, Int.reduceToNat, Int.reduceNegSucc, Nat.reduceMul, Int.reduceAdd, Nat.reduceBEq, Nat.reduceSub, Nat.reducePow, Int.reduceBEq, reduceCtorEq, E0P, E0hand, E0hard, E0row, E0nw, E0aown, E0glob, ↓reduceIte]
  refine brM (fun yc4 => ?_) (fun yk5 yc4 => ?_)
  · simp -implicitDefEqProofs only [yc4, zq0, zq5, setA, setB, String.reduceBEq, Nat.reduceEqDiff, Int.reduceEq, Nat.reduceAdd, Nat.reduceLeDiff, Nat.reduceLT, Int.reduceLE, Int.reduceLT, Int.reduceToNat, Int.reduceNegSucc, Nat.reduceMul, Int.reduceAdd, Nat.reduceBEq, Nat.reduceSub, Nat.reducePow, Int.reduceBEq, reduceCtorEq, E0P, E0hand, E0hard, E0row, E0nw, E0aown, E0glob, ↓reduceIte]
  · simp -implicitDefEqProofs only [ent11, prm11, f11_t, zq0, zq5, yc4, setA, setB, String.reduceBEq, Nat.reduceEqDiff, Int.reduceEq, Nat.reduceAdd, Nat.reduceLeDiff, Nat.reduceLT, Int.reduceLE, Int.reduceLT, Int.reduceToNat, Int.reduceNegSucc, Nat.reduceMul, Int.reduceAdd, Nat.reduceBEq, Nat.reduceSub, Nat.reducePow, Int.reduceBEq, reduceCtorEq, E0P, E0hand, E0hard, E0row, E0nw, E0aown, E0glob, ↓reduceIte]
    refine brM (fun yc6 => ?_) (fun yr7 yc6 => ?_)
    · simp -implicitDefEqProofs only [yc6, zq0, zq5, yc4, e11, setA, setB, String.reduceBEq, Nat.reduceEqDiff, Int.reduceEq, Nat.reduceAdd, Nat.reduceLeDiff, Nat.reduceLT, Int.reduceLE, Int.reduceLT, Int.reduceToNat, Int.reduceNegSucc, Nat.reduceMul, Int.reduceAdd, Nat.reduceBEq, Nat.reduceSub, Nat.reducePow, Int.reduceBEq, reduceCtorEq, E0P, E0hand, E0hard, E0row, E0nw, E0aown, E0glob, ↓reduceIte]
    · simp -implicitDefEqProofs only [e11, (show c27_18 = Code.cond _ c27_19 c27_22 from rfl), zq0, zq5, yc4, yc6, setA, setB, String.reduceBEq, Nat.reduceEqDiff, Int.reduceEq, Nat.reduceAdd, Nat.reduceLeDiff, Nat.reduceLT, Int.reduceLE, Int.reduceLT, Int.reduceToNat, Int.reduceNegSucc, Nat.reduceMul, Int.reduceAdd, Nat.reduceBEq, Nat.reduceSub, Nat.reducePow, Int.reduceBEq, reduceCtorEq, E0P, E0hand, E0hard, E0row, E0nw, E0aown, E0glob, ↓reduceIte]
      refine brB (fun yc8 => ?_) (fun yc8 => ?_)
      · simp -implicitDefEqProofs only [c27_22_e, c27_23_e, c27_24_e, c27_25_r, (show opsOf c27_25 = _ :: _ from rfl), Tryd.underlying9, (show c27_26 = Code.cond _ c27_27 c27_30 from rfl), zq0, zq5, yc4, yc6, yc8, setA, setB, String.reduceBEq, Nat.reduceEqDiff, Int.reduceEq, Nat.reduceAdd, Nat.reduceLeDiff, Nat.reduceLT, Int.reduceLE, Int.reduceLT, Int.reduceToNat, Int.reduceNegSucc, Nat.reduceMul, Int.reduceAdd, Nat.reduceBEq, Nat.reduceSub, Nat.reducePow, Int.reduceBEq, reduceCtorEq, E0P, E0hand, E0hard, E0row, E0nw, E0aown, E0glob, ↓reduceIte]
        refine brB (fun yc9 => ?_) (fun yc9 => ?_)
        · simp -implicitDefEqProofs only [c27_27_e, c27_28_r, (show opsOf c27_28 = _ :: _ from rfl), ent17, prm17, f17_t, zq0, zq5, yc4, yc6, yc8, yc9, setA, setB, String.reduceBEq, Nat.reduceEqDiff, Int.reduceEq, Nat.reduceAdd, Nat.reduceLeDiff, Nat.reduceLT, Int.reduceLE, Int.reduceLT, Int.reduceToNat, Int.reduceNegSucc, Nat.reduceMul, Int.reduceAdd, Nat.reduceBEq, Nat.reduceSub, Nat.reducePow, Int.reduceBEq, reduceCtorEq, E0P, E0hand, E0hard, E0row, E0nw, E0aown, E0glob, ↓reduceIte]
          refine brM (fun yc10 => ?_) (fun yr11 yc10 => ?_)
          · simp -implicitDefEqProofs only [yc10, zq0, zq5, yc4, yc6, yc8, yc9, e17, setA, setB, String.reduceBEq, Nat.reduceEqDiff, Int.reduceEq, Nat.reduceAdd, Nat.reduceLeDiff, Nat.reduceLT, Int.reduceLE, Int.reduceLT, Int.reduceToNat, Int.reduceNegSucc, Nat.reduceMul, Int.reduceAdd, Nat.reduceBEq, Nat.reduceSub, Nat.reducePow, Int.reduceBEq, reduceCtorEq, E0P, E0hand, E0hard, E0row, E0nw, E0aown, E0glob, ↓reduceIte]
          · simp -implicitDefEqProofs only [e17, c27_29_e, zq0, zq5, yc4, yc6, yc8, yc9, yc10, setA, setB, String.reduceBEq, Nat.reduceEqDiff, Int.reduceEq, Nat.reduceAdd, Nat.reduceLeDiff, Nat.reduceLT, Int.reduceLE, Int.reduceLT, Int.reduceToNat, Int.reduceNegSucc, Nat.reduceMul, Int.reduceAdd, Nat.reduceBEq, Nat.reduceSub, Nat.reducePow, Int.reduceBEq, reduceCtorEq, E0P, E0hand, E0hard, E0row, E0nw, E0aown, E0glob, ↓reduceIte]
            all_goals rfl
        · simp -implicitDefEqProofs only [c27_30_e, c27_31_e, c27_32_r, (show opsOf c27_32 = _ :: _ from rfl), Tryd.underlying9, zq0, zq5, yc4, yc6, yc8, yc9, setA, setB, String.reduceBEq, Nat.reduceEqDiff, Int.reduceEq, Nat.reduceAdd, Nat.reduceLeDiff, Nat.reduceLT, Int.reduceLE, Int.reduceLT, Int.reduceToNat, Int.reduceNegSucc, Nat.reduceMul, Int.reduceAdd, Nat.reduceBEq, Nat.reduceSub, Nat.reducePow, Int.reduceBEq, reduceCtorEq, E0P, E0hand, E0hard, E0row, E0nw, E0aown, E0glob, ↓reduceIte]
          refine brM (fun yc12 => ?_) (fun yk13 yc12 => ?_)
          · simp -implicitDefEqProofs only [yc12, zq0, zq5, yc4, yc6, yc8, yc9, setA, setB, String.reduceBEq, Nat.reduceEqDiff, Int.reduceEq, Nat.reduceAdd, Nat.reduceLeDiff, Nat.reduceLT, Int.reduceLE, Int.reduceLT, Int.reduceToNat, Int.reduceNegSucc, Nat.reduceMul, Int.reduceAdd, Nat.reduceBEq, Nat.reduceSub, Nat.reducePow, Int.reduceBEq, reduceCtorEq, E0P, E0hand, E0hard, E0row, E0nw, E0aown, E0glob, ↓reduceIte]
          · simp -implicitDefEqProofs only [c27_33_e, c27_34_e, c27_35_r, (show opsOf c27_35 = _ :: _ from rfl), ent11, prm11, f11_t, zq0, zq5, yc4, yc6, yc8, yc9, yc12, setA, setB, String.reduceBEq, Nat.reduceEqDiff, Int.reduceEq, Nat.reduceAdd, Nat.reduceLeDiff, Nat.reduceLT, Int.reduceLE, Int.reduceLT, Int.reduceToNat, Int.reduceNegSucc, Nat.reduceMul, Int.reduceAdd, Nat.reduceBEq, Nat.reduceSub, Nat.reducePow, Int.reduceBEq, reduceCtorEq, E0P, E0hand, E0hard, E0row, E0nw, E0aown, E0glob, ↓reduceIte]
            refine brM (fun yc14 => ?_) (fun yr15 yc14 => ?_)
            · simp -implicitDefEqProofs only [yc14, zq0, zq5, yc4, yc6, yc8, yc9, yc12, e11, setA, setB, String.reduceBEq, Nat.reduceEqDiff, Int.reduceEq, Nat.reduceAdd, Nat.reduceLeDiff, Nat.reduceLT, Int.reduceLE, Int.reduceLT, Int.reduceToNat, Int.reduceNegSucc, Nat.reduceMul, Int.reduceAdd, Nat.reduceBEq, Nat.reduceSub, Nat.reducePow, Int.reduceBEq, reduceCtorEq, E0P, E0hand, E0hard, E0row, E0nw, E0aown, E0glob, ↓reduceIte]
            · simp -implicitDefEqProofs only [e11, (show c27_36 = Code.cond _ c27_37 c27_40 from rfl), zq0, zq5, yc4, yc6, yc8, yc9, yc12, yc14, setA, setB, String.reduceBEq, Nat.reduceEqDiff, Int.reduceEq, Nat.reduceAdd, Nat.reduceLeDiff, Nat.reduceLT, Int.reduceLE, Int.reduceLT, Int.reduceToNat, Int.reduceNegSucc, Nat.reduceMul, Int.reduceAdd, Nat.reduceBEq, Nat.reduceSub, Nat.reducePow, Int.reduceBEq, reduceCtorEq, E0P, E0hand, E0hard, E0row, E0nw, E0aown, E0glob, ↓reduceIte]
              refine brB (fun yc16 => ?_) (fun yc16 => ?_)
              · simp -implicitDefEqProofs only [c27_37_e, c27_38_r, (show opsOf c27_38 = _ :: _ from rfl), Tryd.underlying9, ent17, prm17, f17_t, zq0, zq5, yc4, yc6, yc8, yc9, yc12, yc14, yc16, setA, setB, String.reduceBEq, Nat.reduceEqDiff, Int.reduceEq, Nat.reduceAdd, Nat.reduceLeDiff, Nat.reduceLT, Int.reduceLE, Int.reduceLT, Int.reduceToNat, Int.reduceNegSucc, Nat.reduceMul, Int.reduceAdd, Nat.reduceBEq, Nat.reduceSub, Nat.reducePow, Int.reduceBEq, reduceCtorEq, E0P, E0hand, E0hard, E0row, E0nw, E0aown, E0glob, ↓reduceIte]
                refine brM (fun yc17 => ?_) (fun yr18 yc17 => ?_)
                · simp -implicitDefEqProofs only [yc17, zq0, zq5, yc4, yc6, yc8, yc9, yc12, yc14, yc16, e17, setA, setB, String.reduceBEq, Nat.reduceEqDiff, Int.reduceEq, Nat.reduceAdd, Nat.reduceLeDiff, Nat.reduceLT, Int.reduceLE, Int.reduceLT, Int.reduceToNat, Int.reduceNegSucc, Nat.reduceMul, Int.reduceAdd, Nat.reduceBEq, Nat.reduceSub, Nat.reducePow, Int.reduceBEq, reduceCtorEq, E0P, E0hand, E0hard, E0row, E0nw, E0aown, E0glob, ↓reduceIte]
                · simp -implicitDefEqProofs only [e17, c27_39_e, zq0, zq5, yc4, yc6, yc8, yc9, yc12, yc14, yc16, yc17, setA, setB, String.reduceBEq, Nat.reduceEqDiff, Int.reduceEq, Nat.reduceAdd, Nat.reduceLeDiff, Nat.reduceLT, Int.reduceLE, Int.reduceLT, Int.reduceToNat, Int.reduceNegSucc, Nat.reduceMul, Int.reduceAdd, Nat.reduceBEq, Nat.reduceSub, Nat.reducePow, Int.reduceBEq, reduceCtorEq, E0P, E0hand, E0hard, E0row, E0nw, E0aown, E0glob, ↓reduceIte]
                  all_goals rfl
              · simp -implicitDefEqProofs only [c27_40_e, c27_41_e, c27_42_r, (show opsOf c27_42 = _ :: _ from rfl), ent25, prm25, f25_t, zq0, zq5, yc4, yc6, yc8, yc9, yc12, yc14, yc16, setA, setB, String.reduceBEq, Nat.reduceEqDiff, Int.reduceEq, Nat.reduceAdd, Nat.reduceLeDiff, Nat.reduceLT, Int.reduceLE, Int.reduceLT, Int.reduceToNat, Int.reduceNegSucc, Nat.reduceMul, Int.reduceAdd, Nat.reduceBEq, Nat.reduceSub, Nat.reducePow, Int.reduceBEq, reduceCtorEq, E0P, E0hand, E0hard, E0row, E0nw, E0aown, E0glob, ↓reduceIte]
                refine brM (fun yc19 => ?_) (fun yr20 yc19 => ?_)
                · simp -implicitDefEqProofs only [yc19, zq0, zq5, yc4, yc6, yc8, yc9, yc12, yc14, yc16, e25, setA, setB, String.reduceBEq, Nat.reduceEqDiff, Int.reduceEq, Nat.reduceAdd, Nat.reduceLeDiff, Nat.reduceLT, Int.reduceLE, Int.reduceLT, Int.reduceToNat, Int.reduceNegSucc, Nat.reduceMul, Int.reduceAdd, Nat.reduceBEq, Nat.reduceSub, Nat.reducePow, Int.reduceBEq, reduceCtorEq, E0P, E0hand, E0hard, E0row, E0nw, E0aown, E0glob, ↓reduceIte]
                · simp -implicitDefEqProofs only [e25, c27_43_e, c27_44_e, c27_45_r, (show opsOf c27_45 = _ :: _ from rfl), (show c27_46 = Code.cond _ c27_47 c27_50 from rfl), zq0, zq5, yc4, yc6, yc8, yc9, yc12, yc14, yc16, yc19, setA, setB, String.reduceBEq, Nat.reduceEqDiff, Int.reduceEq, Nat.reduceAdd, Nat.reduceLeDiff, Nat.reduceLT, Int.reduceLE, Int.reduceLT, Int.reduceToNat, Int.reduceNegSucc, Nat.reduceMul, Int.reduceAdd, Nat.reduceBEq, Nat.reduceSub, Nat.reducePow, Int.reduceBEq, reduceCtorEq, E0P, E0hand, E0hard, E0row, E0nw, E0aown, E0glob, ↓reduceIte]
                  refine brB (fun yc21 => ?_) (fun yc21 => ?_)
                  · simp -implicitDefEqProofs only [c27_50_e, c27_51_e, c27_52_r, (show opsOf c27_52 = _ :: _ from rfl), Tryd.underlying9, ent17, prm17, f17_t, zq0, zq5, yc4, yc6, yc8, yc9, yc12, yc14, yc16, yc19, yc21, setA, setB, String.reduceBEq, Nat.reduceEqDiff, Int.reduceEq, Nat.reduceAdd, Nat.reduceLeDiff, Nat.reduceLT, Int.reduceLE, Int.reduceLT, Int.reduceToNat, Int.reduceNegSucc, Nat.reduceMul, Int.reduceAdd, Nat.reduceBEq, Nat.reduceSub, Nat.reducePow, Int.reduceBEq, reduceCtorEq, E0P, E0hand, E0hard, E0row, E0nw, E0aown, E0glob, ↓reduceIte]
                    refine brM (fun yc22 => ?_) (fun yr23 yc22 => ?_)
                    · simp -implicitDefEqProofs only [yc22, zq0, zq5, yc4, yc6, yc8, yc9, yc12, yc14, yc16, yc19, yc21, e17, setA, setB, String.reduceBEq, Nat.reduceEqDiff, Int.reduceEq, Nat.reduceAdd, Nat.reduceLeDiff, Nat.reduceLT, Int.reduceLE, Int.reduceLT, Int.reduceToNat, Int.reduceNegSucc, Nat.reduceMul, Int.reduceAdd, Nat.reduceBEq, Nat.reduceSub, Nat.reducePow, Int.reduceBEq, reduceCtorEq, E0P, E0hand, E0hard, E0row, E0nw, E0aown, E0glob, ↓reduceIte]
                    · simp -implicitDefEqProofs only [e17, c27_53_e, zq0, zq5, yc4, yc6, yc8, yc9, yc12, yc14, yc16, yc19, yc21, yc22, setA, setB, String.reduceBEq, Nat.reduceEqDiff, Int.reduceEq, Nat.reduceAdd, Nat.reduceLeDiff, Nat.reduceLT, Int.reduceLE, Int.reduceLT, Int.reduceToNat, Int.reduceNegSucc, Nat.reduceMul, Int.reduceAdd, Nat.reduceBEq, Nat.reduceSub, Nat.reducePow, Int.reduceBEq, reduceCtorEq, E0P, E0hand, E0hard, E0row, E0nw, E0aown, E0glob, ↓reduceIte]
                      all_goals rfl
                  · simp -implicitDefEqProofs only [c27_47_e, c27_48_r, (show opsOf c27_48 = _ :: _ from rfl), c27_49_e, zq0, zq5, yc4, yc6, yc8, yc9, yc12, yc14, yc16, yc19, yc21, setA, setB, String.reduceBEq, Nat.reduceEqDiff, Int.reduceEq, Nat.reduceAdd, Nat.reduceLeDiff, Nat.reduceLT, Int.reduceLE, Int.reduceLT, Int.reduceToNat, Int.reduceNegSucc, Nat.reduceMul, Int.reduceAdd, Nat.reduceBEq, Nat.reduceSub, Nat.reducePow, Int.reduceBEq, reduceCtorEq, E0P, E0hand, E0hard, E0row, E0nw, E0aown, E0glob, ↓reduceIte]
                    all_goals rfl
      · simp -implicitDefEqProofs only [c27_19_e, c27_20_r, (show opsOf c27_20 = _ :: _ from rfl), c27_21_e, zq0, zq5, yc4, yc6, yc8, setA, setB, String.reduceBEq, Nat.reduceEqDiff, Int.reduceEq, Nat.reduceAdd, Nat.reduceLeDiff, Nat.reduceLT, Int.reduceLE, Int.reduceLT, Int.reduceToNat, Int.reduceNegSucc, Nat.reduceMul, Int.reduceAdd, Nat.reduceBEq, Nat.reduceSub, Nat.reducePow, Int.reduceBEq, reduceCtorEq, E0P, E0hand, E0hard, E0row, E0nw, E0aown, E0glob, ↓reduceIte]
        all_goals rfl
noncomputable def j27_10 (s0 : Bs) (n5 : Int) (t18 : Bool) : Option ((Bs × Int) ⊕ R27) :=
  if t18 = true then
    some (.inl (s0, (w64 (n5 + 1))))
  else
    (j27_15 s0 n5).map .inr
set_option maxRecDepth 100000 in
theorem j27_10_t (s0 : Bs) (n5 : Int) (t18 : Bool)  (sl : Nat → AV) (zq0 : sl 0 = .v (.c (.d (.sc (.string (S s0)))))) (zq5 : sl 5 = .v (.c (.d (.sc (.int .i64 n5))))) (zq18 : sl 18 = .v (.c (.d (.sc (.bool t18))))) :
    stepE (K27_6 (mm := mm)) (loopK 0 [(0, .keep), (5, .keep)] (seqD (E0 mm) 27 0 (callW (E0 mm)) itW c27_13 (den (E0 mm) 27 0 (callW (E0 mm)) itW c27_10 none ⟨sl, []⟩))) = (j27_10 s0 n5 t18).map (sm en27_6 e27) := by
  simp -implicitDefEqProofs only [j27_10, (show c27_10 = Code.cond _ c27_11 c27_12 from rfl), zq0, zq5, zq18, setA, setB, String.reduceBEq, Nat.reduceEqDiff, Int.reduceEq, Nat.reduceAdd, Nat.reduceLeDiff, Nat.reduceLT, Int.reduceLE, Int.reduceLT, Int.reduceToNat, Int.reduceNegSucc, Nat.reduceMul, Int.reduceAdd, Nat.reduceBEq, Nat.reduceSub, Nat.reducePow, Int.reduceBEq, reduceCtorEq, E0P, E0hand, E0hard, E0row, E0nw, E0aown, E0glob, ↓reduceIte]
  refine brB (fun yc3 => ?_) (fun yc3 => ?_)
  · simp -implicitDefEqProofs only [c27_11_e, c27_13_e, c27_14_r, (show opsOf c27_14 = _ :: _ from rfl), zq0, zq5, zq18, yc3, setA, setB, String.reduceBEq, Nat.reduceEqDiff, Int.reduceEq, Nat.reduceAdd, Nat.reduceLeDiff, Nat.reduceLT, Int.reduceLE, Int.reduceLT, Int.reduceToNat, Int.reduceNegSucc, Nat.reduceMul, Int.reduceAdd, Nat.reduceBEq, Nat.reduceSub, Nat.reducePow, Int.reduceBEq, reduceCtorEq, E0P, E0hand, E0hard, E0row, E0nw, E0aown, E0glob, ↓reduceIte]
    all_goals rfl
  · simp -implicitDefEqProofs only [c27_12_e, K27_6, zq0, zq5, zq18, yc3, setA, setB, String.reduceBEq, Nat.reduceEqDiff, Int.reduceEq, Nat.reduceAdd, Nat.reduceLeDiff, Nat.reduceLT, Int.reduceLE, Int.reduceLT, Int.reduceToNat, Int.reduceNegSucc, Nat.reduceMul, Int.reduceAdd, Nat.reduceBEq, Nat.reduceSub, Nat.reducePow, Int.reduceBEq, reduceCtorEq, E0P, E0hand, E0hard, E0row, E0nw, E0aown, E0glob, ↓reduceIte]
    exact mi (j27_15_t s0 n5 _ (by exact zq0) (by exact zq5))
noncomputable def s27_6 (s0 : Bs) (n5 : Int) : Option ((Bs × Int) ⊕ R27) :=
  if (decide (n5 < (s0.length : Int))) = true then
    if 0 ≤ n5 ∧ n5 < (s0.length : Int) then
      j27_10 s0 n5 (!((s0.getD n5.toNat 0) == (61 : UInt8)))
    else none
  else
    j27_10 s0 n5 false
set_option maxRecDepth 100000 in
theorem s27_6_t (s0 : Bs) (n5 : Int) :
    stepE (K27_6 (mm := mm)) (loopF (E0 mm) 27 0 (callW (E0 mm)) itW c27_7 [(0, .keep), (5, .keep)] (none, [.v (.c (.d (.sc (.string (S s0))))), .v (.c (.d (.sc (.int .i64 n5))))], [])) = (s27_6 s0 n5).map (sm en27_6 e27) := by
  simp -implicitDefEqProofs only [s27_6, loopF_eq, c27_7_e, c27_8_e, c27_9_r, (show opsOf c27_9 = _ :: _ from rfl), Tryd.underlying9, setA, setB, String.reduceBEq, Nat.reduceEqDiff, Int.reduceEq, Nat.reduceAdd, Nat.reduceLeDiff, Nat.reduceLT, Int.reduceLE, Int.reduceLT, Int.reduceToNat, Int.reduceNegSucc, Nat.reduceMul, Int.reduceAdd, Nat.reduceBEq, Nat.reduceSub, Nat.reducePow, Int.reduceBEq, reduceCtorEq, E0P, E0hand, E0hard, E0row, E0nw, E0aown, E0glob, ↓reduceIte]
  refine brB (fun yc1 => ?_) (fun yc1 => ?_)
  · simp -implicitDefEqProofs only [Tryd.underlying9, yc1, setA, setB, String.reduceBEq, Nat.reduceEqDiff, Int.reduceEq, Nat.reduceAdd, Nat.reduceLeDiff, Nat.reduceLT, Int.reduceLE, Int.reduceLT, Int.reduceToNat, Int.reduceNegSucc, Nat.reduceMul, Int.reduceAdd, Nat.reduceBEq, Nat.reduceSub, Nat.reducePow, Int.reduceBEq, reduceCtorEq, E0P, E0hand, E0hard, E0row, E0nw, E0aown, E0glob, ↓reduceIte]
    refine brP (fun yc2 => ?_) (fun yc2 => ?_)
    · simp -implicitDefEqProofs only [yc1, yc2, setA, setB, String.reduceBEq, Nat.reduceEqDiff, Int.reduceEq, Nat.reduceAdd, Nat.reduceLeDiff, Nat.reduceLT, Int.reduceLE, Int.reduceLT, Int.reduceToNat, Int.reduceNegSucc, Nat.reduceMul, Int.reduceAdd, Nat.reduceBEq, Nat.reduceSub, Nat.reducePow, Int.reduceBEq, reduceCtorEq, E0P, E0hand, E0hard, E0row, E0nw, E0aown, E0glob, ↓reduceIte]
      exact j27_10_t s0 n5 (!((s0.getD n5.toNat 0) == (61 : UInt8))) _ (by rfl) (by rfl) (by rfl)
    · simp -implicitDefEqProofs only [yc1, yc2, setA, setB, String.reduceBEq, Nat.reduceEqDiff, Int.reduceEq, Nat.reduceAdd, Nat.reduceLeDiff, Nat.reduceLT, Int.reduceLE, Int.reduceLT, Int.reduceToNat, Int.reduceNegSucc, Nat.reduceMul, Int.reduceAdd, Nat.reduceBEq, Nat.reduceSub, Nat.reducePow, Int.reduceBEq, reduceCtorEq, E0P, E0hand, E0hard, E0row, E0nw, E0aown, E0glob, ↓reduceIte]
  · simp -implicitDefEqProofs only [yc1, setA, setB, String.reduceBEq, Nat.reduceEqDiff, Int.reduceEq, Nat.reduceAdd, Nat.reduceLeDiff, Nat.reduceLT, Int.reduceLE, Int.reduceLT, Int.reduceToNat, Int.reduceNegSucc, Nat.reduceMul, Int.reduceAdd, Nat.reduceBEq, Nat.reduceSub, Nat.reducePow, Int.reduceBEq, reduceCtorEq, E0P, E0hand, E0hard, E0row, E0nw, E0aown, E0glob, ↓reduceIte]
    exact j27_10_t s0 n5 false _ (by rfl) (by rfl) (by rfl)
noncomputable def l27_6 (s0 : Bs) (n5 : Int) : Option R27 := iter (fun x : Bs × Int => s27_6 x.1 x.2) (s0, n5)
theorem l27_6_t (s0 : Bs) (n5 : Int) : bodyD (E0 mm) [.tmp 2, .tmp 3, .tmp 4] 0 false (seqD (E0 mm) 27 0 (callW (E0 mm)) itW c27_15 (blockD 0 (itW (loopF (E0 mm) 27 0 (callW (E0 mm)) itW c27_7 [(0, .keep), (5, .keep)]) (none, [.v (.c (.d (.sc (.string (S s0))))), .v (.c (.d (.sc (.int .i64 n5))))], [])))) = (l27_6 s0 n5).map e27 :=
  it_sim (K := (K27_6 (mm := mm))) rfl (enc := en27_6) (fun x => s27_6_t x.1 x.2) (s0, n5)
noncomputable def m27 (s : Bs) : Option R27 :=
  l27_6 s (0 : Int)
set_option maxRecDepth 100000 in
theorem f27_t (s : Bs) :
    callW (E0 mm) 27 [.c (.d (.sc (.string (S s))))] [] = (m27 s).map e27 := by
  rw [callW_run (body := c27_0) (res := [.tmp 2, .tmp 3, .tmp 4]) Tryd.func27 rfl rfl (by kernel_rfl)]
  simp -implicitDefEqProofs only [m27, slots1, c27_0_e, c27_1_r, (show opsOf c27_1 = _ :: _ from rfl), c27_2_e, c27_3_r, (show opsOf c27_3 = _ :: _ from rfl), c27_4_e, c27_5_e, c27_6_l, setA, setB, String.reduceBEq, Nat.reduceEqDiff, Int.reduceEq, Nat.reduceAdd, Nat.reduceLeDiff, Nat.reduceLT, Int.reduceLE, Int.reduceLT, Int.reduceToNat, Int.reduceNegSucc, Nat.reduceMul, Int.reduceAdd, Nat.reduceBEq, Nat.reduceSub, Nat.reducePow, Int.reduceBEq, reduceCtorEq, E0P, E0hand, E0hard, E0row, E0nw, E0aown, E0glob, ↓reduceIte]
  exact l27_6_t s (0 : Int)
/-! tollhouse/tollhouseref02.Quote -/
noncomputable def c29_0 : Code := bodyOf Tryd.f29
noncomputable def c29_1 : Code := cA c29_0
noncomputable def c29_2 : Code := cB c29_0
noncomputable def c29_3 : Code := cA c29_2
noncomputable def c29_4 : Code := cB c29_2
noncomputable def c29_5 : Code := cA c29_4
noncomputable def c29_6 : Code := cA c29_5
noncomputable def c29_7 : Code := cB c29_5
noncomputable def c29_8 : Code := cA c29_7
noncomputable def c29_9 : Code := cA c29_8
noncomputable def c29_10 : Code := cA c29_9
noncomputable def c29_11 : Code := cA c29_10
noncomputable def c29_12 : Code := cB c29_10
noncomputable def c29_13 : Code := cA c29_12
noncomputable def c29_14 : Code := cB c29_12
noncomputable def c29_15 : Code := cB c29_9
noncomputable def c29_16 : Code := cA c29_15
noncomputable def c29_17 : Code := cA c29_16
noncomputable def c29_18 : Code := cA c29_17
noncomputable def c29_19 : Code := cA c29_18
noncomputable def c29_20 : Code := cB c29_18
noncomputable def c29_21 : Code := cA c29_20
noncomputable def c29_22 : Code := cB c29_20
noncomputable def c29_23 : Code := cB c29_17
noncomputable def c29_24 : Code := cB c29_15
noncomputable def c29_25 : Code := cB c29_4
noncomputable def c29_26 : Code := cA c29_25
noncomputable def c29_27 : Code := cB c29_25
theorem c29_0_e : c29_0 = .seq c29_1 c29_2 := rfl
theorem c29_1_r (m : Nat) (st : St) : den (E0 mm) 29 m (callW (E0 mm)) itW c29_1 none st = regD (runOps (E0 mm) (callW (E0 mm)) (opsOf c29_1) (opsOf c29_1) st) := den_rg (by rfl)
theorem c29_2_e : c29_2 = .seq c29_3 c29_4 := rfl
theorem c29_3_r (m : Nat) (st : St) : den (E0 mm) 29 m (callW (E0 mm)) itW c29_3 none st = regD (runOps (E0 mm) (callW (E0 mm)) (opsOf c29_3) (opsOf c29_3) st) := den_rg (by rfl)
theorem c29_4_e : c29_4 = .seq c29_5 c29_25 := rfl
theorem c29_5_e : c29_5 = .seq c29_6 c29_7 := rfl
theorem c29_6_r (m : Nat) (st : St) : den (E0 mm) 29 m (callW (E0 mm)) itW c29_6 none st = regD (runOps (E0 mm) (callW (E0 mm)) (opsOf c29_6) (opsOf c29_6) st) := den_rg (by rfl)
theorem c29_7_e : c29_7 = .block 0 c29_8 := rfl
theorem c29_8_l (m : Nat) (st : St) : den (E0 mm) 29 m (callW (E0 mm)) itW c29_8 none st = loopD itW (loopF (E0 mm) 29 m (callW (E0 mm)) itW c29_9 [(0, .keep), (3, .own), (4, .keep)]) (canon m [(0, .keep), (3, .own), (4, .keep)] st) := rfl
theorem c29_9_e : c29_9 = .seq c29_10 c29_15 := rfl
theorem c29_10_e : c29_10 = .seq c29_11 c29_12 := rfl
theorem c29_11_r (m : Nat) (st : St) : den (E0 mm) 29 m (callW (E0 mm)) itW c29_11 none st = regD (runOps (E0 mm) (callW (E0 mm)) (opsOf c29_11) (opsOf c29_11) st) := den_rg (by rfl)
theorem c29_13_e : c29_13 = .skip := rfl
theorem c29_14_e : c29_14 = .exit 0 := rfl
theorem c29_15_e : c29_15 = .seq c29_16 c29_24 := rfl
theorem c29_16_e : c29_16 = .block 1 c29_17 := rfl
theorem c29_17_e : c29_17 = .seq c29_18 c29_23 := rfl
theorem c29_18_e : c29_18 = .seq c29_19 c29_20 := rfl
theorem c29_19_r (m : Nat) (st : St) : den (E0 mm) 29 m (callW (E0 mm)) itW c29_19 none st = regD (runOps (E0 mm) (callW (E0 mm)) (opsOf c29_19) (opsOf c29_19) st) := den_rg (by rfl)
theorem c29_21_r (m : Nat) (st : St) : den (E0 mm) 29 m (callW (E0 mm)) itW c29_21 none st = regD (runOps (E0 mm) (callW (E0 mm)) (opsOf c29_21) (opsOf c29_21) st) := den_rg (by rfl)
theorem c29_22_e : c29_22 = .skip := rfl
theorem c29_23_r (m : Nat) (st : St) : den (E0 mm) 29 m (callW (E0 mm)) itW c29_23 none st = regD (runOps (E0 mm) (callW (E0 mm)) (opsOf c29_23) (opsOf c29_23) st) := den_rg (by rfl)
theorem c29_24_r (m : Nat) (st : St) : den (E0 mm) 29 m (callW (E0 mm)) itW c29_24 none st = regD (runOps (E0 mm) (callW (E0 mm)) (opsOf c29_24) (opsOf c29_24) st) := den_rg (by rfl)
theorem c29_25_e : c29_25 = .seq c29_26 c29_27 := rfl
theorem c29_26_r (m : Nat) (st : St) : den (E0 mm) 29 m (callW (E0 mm)) itW c29_26 none st = regD (runOps (E0 mm) (callW (E0 mm)) (opsOf c29_26) (opsOf c29_26) st) := den_rg (by rfl)
theorem c29_27_e : c29_27 = .ret := rfl
abbrev R29 := (Bs)
def e29 : R29 → AV × Heap := fun x => (.v (.c (.d (.sc (.string (S x))))), [])
noncomputable def K29_8 : Option (Ex × St) → Option (AV × Heap) := fun r => bodyD (E0 mm) [.tmp 2] 0 false (seqD (E0 mm) 29 0 (callW (E0 mm)) itW c29_25 (blockD 0 (r)))
def en29_8 : Bs × Bool × List UInt8 × Int → X := fun x => (none, [.v (.c (.d (.sc (.string (S x.1))))), .v (.c (.own x.2.1 (enL enB x.2.2.1) 0)), .v (.c (.d (.sc (.int .i64 x.2.2.2))))], [.row x.2.2.1.length (rz x.2.1 1)])
noncomputable def j29_24 (s0 : Bs) (out3_0 : Bool) (out3_1 : List UInt8) (i4 : Int) : Option ((Bs × Bool × List UInt8 × Int) ⊕ R29) :=
  some (.inl (s0, out3_0, out3_1, (w64 (i4 + 1))))
set_option maxRecDepth 100000 in
theorem j29_24_t (s0 : Bs) (out3_0 : Bool) (out3_1 : List UInt8) (i4 : Int) (g1 : Ob) (g2 : Ob) (sl : Nat → AV) (zq0 : sl 0 = .v (.c (.d (.sc (.string (S s0)))))) (zq3 : sl 3 = .v (.c (.own out3_0 (enL enB out3_1) 0))) (zq4 : sl 4 = .v (.c (.d (.sc (.int .i64 i4))))) :
    stepE (K29_8 (mm := mm)) (loopK 0 [(0, .keep), (3, .own), (4, .keep)] (den (E0 mm) 29 0 (callW (E0 mm)) itW c29_24 none ⟨sl, [.row out3_1.length (rz out3_0 1), g1, g2]⟩)) = (j29_24 s0 out3_0 out3_1 i4).map (sm en29_8 e29) := by
  simp -implicitDefEqProofs only [j29_24, c29_24_r, (show opsOf c29_24 = _ :: _ from rfl), zq0, zq3, zq4, setA, setB, String.reduceBEq, Nat.reduceEqDiff, Int.reduceEq, Nat.reduceAdd, Nat.reduceLeDiff, Nat.reduceLT, Int.reduceLE, Int.reduceLT, Int.reduceToNat, Int.reduceNegSucc, Nat.reduceMul, Int.reduceAdd, Nat.reduceBEq, Nat.reduceSub, Nat.reducePow, Int.reduceBEq, reduceCtorEq, E0P, E0hand, E0hard, E0row, E0nw, E0aown, E0glob, ↓reduceIte]
  all_goals rfl
noncomputable def j29_23 (s0 : Bs) (out3_0 : Bool) (out3_1 : List UInt8) (i4 : Int) : Option ((Bs × Bool × List UInt8 × Int) ⊕ R29) :=
  if 0 ≤ i4 ∧ i4 < (s0.length : Int) then
    if (out3_1.length + 1) * 1 ≤ 140737488355328 then
      j29_24 s0 false (out3_1 ++ ([(s0.getD i4.toNat 0)] : List UInt8)) i4
    else none
  else none
set_option maxRecDepth 100000 in
theorem j29_23_t (s0 : Bs) (out3_0 : Bool) (out3_1 : List UInt8) (i4 : Int) (g1 : Ob) (sl : Nat → AV) (zq0 : sl 0 = .v (.c (.d (.sc (.string (S s0)))))) (zq3 : sl 3 = .v (.c (.own out3_0 (enL enB out3_1) 0))) (zq4 : sl 4 = .v (.c (.d (.sc (.int .i64 i4))))) :
    stepE (K29_8 (mm := mm)) (loopK 0 [(0, .keep), (3, .own), (4, .keep)] (seqD (E0 mm) 29 0 (callW (E0 mm)) itW c29_24 (blockD 1 (den (E0 mm) 29 0 (callW (E0 mm)) itW c29_23 none ⟨sl, [.row out3_1.length (rz out3_0 1), g1]⟩)))) = (j29_23 s0 out3_0 out3_1 i4).map (sm en29_8 e29) := by
  simp -implicitDefEqProofs only [j29_23, c29_23_r, (show opsOf c29_23 = _ :: _ from rfl), Tryd.underlying9, zq0, zq3, zq4, setA, setB, String.reduceBEq, Nat.reduceEqDiff, Int.reduceEq, Nat.reduceAdd, Nat.reduceLeDiff, Nat.reduceLT, Int.reduceLE, Int.reduceLT, Int.reduceToNat, Int.reduceNegSucc, Nat.reduceMul, Int.reduceAdd, Nat.reduceBEq, Nat.reduceSub, Nat.reducePow, Int.reduceBEq, reduceCtorEq, E0P, E0hand, E0hard, E0row, E0nw, E0aown, E0glob, ↓reduceIte]
  refine brP (fun yc6 => ?_) (fun yc6 => ?_)
  · simp -implicitDefEqProofs only [Tryd.underlying33, sz5, zc5, ns0, ap33, zq0, zq3, zq4, yc6, setA, setB, String.reduceBEq, Nat.reduceEqDiff, Int.reduceEq, Nat.reduceAdd, Nat.reduceLeDiff, Nat.reduceLT, Int.reduceLE, Int.reduceLT, Int.reduceToNat, Int.reduceNegSucc, Nat.reduceMul, Int.reduceAdd, Nat.reduceBEq, Nat.reduceSub, Nat.reducePow, Int.reduceBEq, reduceCtorEq, E0P, E0hand, E0hard, E0row, E0nw, E0aown, E0glob, ↓reduceIte]
    refine brP (fun yc7 => ?_) (fun yc7 => ?_)
    · simp -implicitDefEqProofs only [zq0, zq3, zq4, yc6, yc7, setA, setB, String.reduceBEq, Nat.reduceEqDiff, Int.reduceEq, Nat.reduceAdd, Nat.reduceLeDiff, Nat.reduceLT, Int.reduceLE, Int.reduceLT, Int.reduceToNat, Int.reduceNegSucc, Nat.reduceMul, Int.reduceAdd, Nat.reduceBEq, Nat.reduceSub, Nat.reducePow, Int.reduceBEq, reduceCtorEq, E0P, E0hand, E0hard, E0row, E0nw, E0aown, E0glob, ↓reduceIte]
      exact j29_24_t s0 false (out3_1 ++ ([(s0.getD i4.toNat 0)] : List UInt8)) i4 _ _ _ (by exact zq0) (by rfl) (by exact zq4)
    · simp -implicitDefEqProofs only [zq0, zq3, zq4, yc6, yc7, setA, setB, String.reduceBEq, Nat.reduceEqDiff, Int.reduceEq, Nat.reduceAdd, Nat.reduceLeDiff, Nat.reduceLT, Int.reduceLE, Int.reduceLT, Int.reduceToNat, Int.reduceNegSucc, Nat.reduceMul, Int.reduceAdd, Nat.reduceBEq, Nat.reduceSub, Nat.reducePow, Int.reduceBEq, reduceCtorEq, E0P, E0hand, E0hard, E0row, E0nw, E0aown, E0glob, ↓reduceIte]
  · simp -implicitDefEqProofs only [zq0, zq3, zq4, yc6, setA, setB, String.reduceBEq, Nat.reduceEqDiff, Int.reduceEq, Nat.reduceAdd, Nat.reduceLeDiff, Nat.reduceLT, Int.reduceLE, Int.reduceLT, Int.reduceToNat, Int.reduceNegSucc, Nat.reduceMul, Int.reduceAdd, Nat.reduceBEq, Nat.reduceSub, Nat.reducePow, Int.reduceBEq, reduceCtorEq, E0P, E0hand, E0hard, E0row, E0nw, E0aown, E0glob, ↓reduceIte]
noncomputable def j29_24v1 (s0 : Bs) (out3_0 : Bool) (out3_1 : List UInt8) (i4 : Int) : Option ((Bs × Bool × List UInt8 × Int) ⊕ R29) :=
  some (.inl (s0, out3_0, out3_1, (w64 (i4 + 1))))
set_option maxRecDepth 100000 in
theorem j29_24v1_t (s0 : Bs) (out3_0 : Bool) (out3_1 : List UInt8) (i4 : Int) (g1 : Ob) (sl : Nat → AV) (zq0 : sl 0 = .v (.c (.d (.sc (.string (S s0)))))) (zq3 : sl 3 = .v (.c (.own out3_0 (enL enB out3_1) 0))) (zq4 : sl 4 = .v (.c (.d (.sc (.int .i64 i4))))) :
    stepE (K29_8 (mm := mm)) (loopK 0 [(0, .keep), (3, .own), (4, .keep)] (den (E0 mm) 29 0 (callW (E0 mm)) itW c29_24 none ⟨sl, [.row out3_1.length (rz out3_0 1), g1]⟩)) = (j29_24v1 s0 out3_0 out3_1 i4).map (sm en29_8 e29) := by
  simp -implicitDefEqProofs only [j29_24v1, c29_24_r, (show opsOf c29_24 = _ :: _ from rfl), zq0, zq3, zq4, setA, setB, String.reduceBEq, Nat.reduceEqDiff, Int.reduceEq, Nat.reduceAdd, Nat.reduceLeDiff, Nat.reduceLT, Int.reduceLE, Int.reduceLT, Int.reduceToNat, Int.reduceNegSucc, Nat.reduceMul, Int.reduceAdd, Nat.reduceBEq, Nat.reduceSub, Nat.reducePow, Int.reduceBEq, reduceCtorEq, E0P, E0hand, E0hard, E0row, E0nw, E0aown, E0glob, ↓reduceIte]
  all_goals rfl
noncomputable def j29_23v1 (s0 : Bs) (out3_0 : Bool) (out3_1 : List UInt8) (i4 : Int) : Option ((Bs × Bool × List UInt8 × Int) ⊕ R29) :=
  if 0 ≤ i4 ∧ i4 < (s0.length : Int) then
    if (out3_1.length + 1) * 1 ≤ 140737488355328 then
      j29_24v1 s0 false (out3_1 ++ ([(s0.getD i4.toNat 0)] : List UInt8)) i4
    else none
  else none
set_option maxRecDepth 100000 in
theorem j29_23v1_t (s0 : Bs) (out3_0 : Bool) (out3_1 : List UInt8) (i4 : Int)  (sl : Nat → AV) (zq0 : sl 0 = .v (.c (.d (.sc (.string (S s0)))))) (zq3 : sl 3 = .v (.c (.own out3_0 (enL enB out3_1) 0))) (zq4 : sl 4 = .v (.c (.d (.sc (.int .i64 i4))))) :
    stepE (K29_8 (mm := mm)) (loopK 0 [(0, .keep), (3, .own), (4, .keep)] (seqD (E0 mm) 29 0 (callW (E0 mm)) itW c29_24 (blockD 1 (den (E0 mm) 29 0 (callW (E0 mm)) itW c29_23 none ⟨sl, [.row out3_1.length (rz out3_0 1)]⟩)))) = (j29_23v1 s0 out3_0 out3_1 i4).map (sm en29_8 e29) := by
  simp -implicitDefEqProofs only [j29_23v1, c29_23_r, (show opsOf c29_23 = _ :: _ from rfl), Tryd.underlying9, zq0, zq3, zq4, setA, setB, String.reduceBEq, Nat.reduceEqDiff, Int.reduceEq, Nat.reduceAdd, Nat.reduceLeDiff, Nat.reduceLT, Int.reduceLE, Int.reduceLT, Int.reduceToNat, Int.reduceNegSucc, Nat.reduceMul, Int.reduceAdd, Nat.reduceBEq, Nat.reduceSub, Nat.reducePow, Int.reduceBEq, reduceCtorEq, E0P, E0hand, E0hard, E0row, E0nw, E0aown, E0glob, ↓reduceIte]
  refine brP (fun yc8 => ?_) (fun yc8 => ?_)
  · simp -implicitDefEqProofs only [Tryd.underlying33, sz5, zc5, ns0, ap33, zq0, zq3, zq4, yc8, setA, setB, String.reduceBEq, Nat.reduceEqDiff, Int.reduceEq, Nat.reduceAdd, Nat.reduceLeDiff, Nat.reduceLT, Int.reduceLE, Int.reduceLT, Int.reduceToNat, Int.reduceNegSucc, Nat.reduceMul, Int.reduceAdd, Nat.reduceBEq, Nat.reduceSub, Nat.reducePow, Int.reduceBEq, reduceCtorEq, E0P, E0hand, E0hard, E0row, E0nw, E0aown, E0glob, ↓reduceIte]
    refine brP (fun yc9 => ?_) (fun yc9 => ?_)
    · simp -implicitDefEqProofs only [zq0, zq3, zq4, yc8, yc9, setA, setB, String.reduceBEq, Nat.reduceEqDiff, Int.reduceEq, Nat.reduceAdd, Nat.reduceLeDiff, Nat.reduceLT, Int.reduceLE, Int.reduceLT, Int.reduceToNat, Int.reduceNegSucc, Nat.reduceMul, Int.reduceAdd, Nat.reduceBEq, Nat.reduceSub, Nat.reducePow, Int.reduceBEq, reduceCtorEq, E0P, E0hand, E0hard, E0row, E0nw, E0aown, E0glob, ↓reduceIte]
      exact j29_24v1_t s0 false (out3_1 ++ ([(s0.getD i4.toNat 0)] : List UInt8)) i4 _ _ (by exact zq0) (by rfl) (by exact zq4)
    · simp -implicitDefEqProofs only [zq0, zq3, zq4, yc8, yc9, setA, setB, String.reduceBEq, Nat.reduceEqDiff, Int.reduceEq, Nat.reduceAdd, Nat.reduceLeDiff, Nat.reduceLT, Int.reduceLE, Int.reduceLT, Int.reduceToNat, Int.reduceNegSucc, Nat.reduceMul, Int.reduceAdd, Nat.reduceBEq, Nat.reduceSub, Nat.reducePow, Int.reduceBEq, reduceCtorEq, E0P, E0hand, E0hard, E0row, E0nw, E0aown, E0glob, ↓reduceIte]
  · simp -implicitDefEqProofs only [zq0, zq3, zq4, yc8, setA, setB, String.reduceBEq, Nat.reduceEqDiff, Int.reduceEq, Nat.reduceAdd, Nat.reduceLeDiff, Nat.reduceLT, Int.reduceLE, Int.reduceLT, Int.reduceToNat, Int.reduceNegSucc, Nat.reduceMul, Int.reduceAdd, Nat.reduceBEq, Nat.reduceSub, Nat.reducePow, Int.reduceBEq, reduceCtorEq, E0P, E0hand, E0hard, E0row, E0nw, E0aown, E0glob, ↓reduceIte]
noncomputable def j29_20 (s0 : Bs) (out3_0 : Bool) (out3_1 : List UInt8) (i4 : Int) (t21 : Bool) : Option ((Bs × Bool × List UInt8 × Int) ⊕ R29) :=
  if t21 = true then
    if (out3_1.length + 1) * 1 ≤ 140737488355328 then
      j29_23 s0 false (out3_1 ++ ([(92 : UInt8)] : List UInt8)) i4
    else none
  else
    j29_23v1 s0 out3_0 out3_1 i4
set_option maxRecDepth 100000 in
theorem j29_20_t (s0 : Bs) (out3_0 : Bool) (out3_1 : List UInt8) (i4 : Int) (t21 : Bool)  (sl : Nat → AV) (zq0 : sl 0 = .v (.c (.d (.sc (.string (S s0)))))) (zq3 : sl 3 = .v (.c (.own out3_0 (enL enB out3_1) 0))) (zq4 : sl 4 = .v (.c (.d (.sc (.int .i64 i4))))) (zq21 : sl 21 = .v (.c (.d (.sc (.bool t21))))) :
    stepE (K29_8 (mm := mm)) (loopK 0 [(0, .keep), (3, .own), (4, .keep)] (seqD (E0 mm) 29 0 (callW (E0 mm)) itW c29_24 (blockD 1 (seqD (E0 mm) 29 0 (callW (E0 mm)) itW c29_23 (den (E0 mm) 29 0 (callW (E0 mm)) itW c29_20 none ⟨sl, [.row out3_1.length (rz out3_0 1)]⟩))))) = (j29_20 s0 out3_0 out3_1 i4 t21).map (sm en29_8 e29) := by
  simp -implicitDefEqProofs only [j29_20, (show c29_20 = Code.cond _ c29_21 c29_22 from rfl), zq0, zq3, zq4, zq21, setA, setB, String.reduceBEq, Nat.reduceEqDiff, Int.reduceEq, Nat.reduceAdd, Nat.reduceLeDiff, Nat.reduceLT, Int.reduceLE, Int.reduceLT, Int.reduceToNat, Int.reduceNegSucc, Nat.reduceMul, Int.reduceAdd, Nat.reduceBEq, Nat.reduceSub, Nat.reducePow, Int.reduceBEq, reduceCtorEq, E0P, E0hand, E0hard, E0row, E0nw, E0aown, E0glob, ↓reduceIte]
  refine brB (fun yc4 => ?_) (fun yc4 => ?_)
  · simp -implicitDefEqProofs only [c29_21_r, (show opsOf c29_21 = _ :: _ from rfl), Tryd.underlying33, sz5, zc5, ns0, ap33, zq0, zq3, zq4, zq21, yc4, setA, setB, String.reduceBEq, Nat.reduceEqDiff, Int.reduceEq, Nat.reduceAdd, Nat.reduceLeDiff, Nat.reduceLT, Int.reduceLE, Int.reduceLT, Int.reduceToNat, Int.reduceNegSucc, Nat.reduceMul, Int.reduceAdd, Nat.reduceBEq, Nat.reduceSub, Nat.reducePow, Int.reduceBEq, reduceCtorEq, E0P, E0hand, E0hard, E0row, E0nw, E0aown, E0glob, ↓reduceIte]
    refine brP (fun yc5 => ?_) (fun yc5 => ?_)
    · simp -implicitDefEqProofs only [zq0, zq3, zq4, zq21, yc4, yc5, setA, setB, String.reduceBEq, Nat.reduceEqDiff, Int.reduceEq, Nat.reduceAdd, Nat.reduceLeDiff, Nat.reduceLT, Int.reduceLE, Int.reduceLT, Int.reduceToNat, Int.reduceNegSucc, Nat.reduceMul, Int.reduceAdd, Nat.reduceBEq, Nat.reduceSub, Nat.reducePow, Int.reduceBEq, reduceCtorEq, E0P, E0hand, E0hard, E0row, E0nw, E0aown, E0glob, ↓reduceIte]
      exact j29_23_t s0 false (out3_1 ++ ([(92 : UInt8)] : List UInt8)) i4 _ _ (by exact zq0) (by rfl) (by exact zq4)
    · simp -implicitDefEqProofs only [zq0, zq3, zq4, zq21, yc4, yc5, setA, setB, String.reduceBEq, Nat.reduceEqDiff, Int.reduceEq, Nat.reduceAdd, Nat.reduceLeDiff, Nat.reduceLT, Int.reduceLE, Int.reduceLT, Int.reduceToNat, Int.reduceNegSucc, Nat.reduceMul, Int.reduceAdd, Nat.reduceBEq, Nat.reduceSub, Nat.reducePow, Int.reduceBEq, reduceCtorEq, E0P, E0hand, E0hard, E0row, E0nw, E0aown, E0glob, ↓reduceIte]
  · simp -implicitDefEqProofs only [c29_22_e, zq0, zq3, zq4, zq21, yc4, setA, setB, String.reduceBEq, Nat.reduceEqDiff, Int.reduceEq, Nat.reduceAdd, Nat.reduceLeDiff, Nat.reduceLT, Int.reduceLE, Int.reduceLT, Int.reduceToNat, Int.reduceNegSucc, Nat.reduceMul, Int.reduceAdd, Nat.reduceBEq, Nat.reduceSub, Nat.reducePow, Int.reduceBEq, reduceCtorEq, E0P, E0hand, E0hard, E0row, E0nw, E0aown, E0glob, ↓reduceIte]
    exact j29_23v1_t s0 out3_0 out3_1 i4 _ (by exact zq0) (by exact zq3) (by exact zq4)
noncomputable def j29_25 (out3_0 : Bool) (out3_1 : List UInt8) : Option R29 :=
  if (out3_1.length + 1) * 1 ≤ 140737488355328 then
    some (out3_1 ++ ([(34 : UInt8)] : List UInt8))
  else none
set_option maxRecDepth 100000 in
theorem j29_25_t (out3_0 : Bool) (out3_1 : List UInt8)  (sl : Nat → AV) (zq3 : sl 3 = .v (.c (.own out3_0 (enL enB out3_1) 0))) :
    bodyD (E0 mm) [.tmp 2] 0 false (den (E0 mm) 29 0 (callW (E0 mm)) itW c29_25 none ⟨sl, [.row out3_1.length (rz out3_0 1)]⟩) = (j29_25 out3_0 out3_1).map e29 := by
  simp -implicitDefEqProofs only [j29_25, c29_25_e, c29_26_r, (show opsOf c29_26 = _ :: _ from rfl), Tryd.underlying33, sz5, zc5, ns0, ap33, zq3, setA, setB, String.reduceBEq, Nat.reduceEqDiff, Int.reduceEq, Nat.reduceAdd, Nat.reduceLeDiff, Nat.reduceLT, Int.reduceLE, Int.reduceLT, Int.reduceToNat, Int.reduceNegSucc, Nat.reduceMul, Int.reduceAdd, Nat.reduceBEq, Nat.reduceSub, Nat.reducePow, Int.reduceBEq, reduceCtorEq, E0P, E0hand, E0hard, E0row, E0nw, E0aown, E0glob, ↓reduceIte]
  refine brP (fun yc10 => ?_) (fun yc10 => ?_)
  · simp -implicitDefEqProofs only [Tryd.underlying33, Tryd.underlying9, Tryd.underlying5, c29_27_e, zq3, yc10, setA, setB, String.reduceBEq, Nat.reduceEqDiff, Int.reduceEq, Nat.reduceAdd, Nat.reduceLeDiff, Nat.reduceLT, Int.reduceLE, Int.reduceLT, Int.reduceToNat, Int.reduceNegSucc, Nat.reduceMul, Int.reduceAdd, Nat.reduceBEq, Nat.reduceSub, Nat.reducePow, Int.reduceBEq, reduceCtorEq, E0P, E0hand, E0hard, E0row, E0nw, E0aown, E0glob, ↓reduceIte]
    all_goals rfl
  · simp -implicitDefEqProofs only [zq3, yc10, setA, setB, String.reduceBEq, Nat.reduceEqDiff, Int.reduceEq, Nat.reduceAdd, Nat.reduceLeDiff, Nat.reduceLT, Int.reduceLE, Int.reduceLT, Int.reduceToNat, Int.reduceNegSucc, Nat.reduceMul, Int.reduceAdd, Nat.reduceBEq, Nat.reduceSub, Nat.reducePow, Int.reduceBEq, reduceCtorEq, E0P, E0hand, E0hard, E0row, E0nw, E0aown, E0glob, ↓reduceIte]
noncomputable def s29_8 (s0 : Bs) (out3_0 : Bool) (out3_1 : List UInt8) (i4 : Int) : Option ((Bs × Bool × List UInt8 × Int) ⊕ R29) :=
  if (decide (i4 < (s0.length : Int))) = true then
    if 0 ≤ i4 ∧ i4 < (s0.length : Int) then
      if ((s0.getD i4.toNat 0) == (34 : UInt8)) = true then
        j29_20 s0 out3_0 out3_1 i4 true
      else
        j29_20 s0 out3_0 out3_1 i4 ((s0.getD i4.toNat 0) == (92 : UInt8))
    else none
  else
    (j29_25 out3_0 out3_1).map .inr
set_option maxRecDepth 100000 in
theorem s29_8_t (s0 : Bs) (out3_0 : Bool) (out3_1 : List UInt8) (i4 : Int) :
    stepE (K29_8 (mm := mm)) (loopF (E0 mm) 29 0 (callW (E0 mm)) itW c29_9 [(0, .keep), (3, .own), (4, .keep)] (none, [.v (.c (.d (.sc (.string (S s0))))), .v (.c (.own out3_0 (enL enB out3_1) 0)), .v (.c (.d (.sc (.int .i64 i4))))], [.row out3_1.length (rz out3_0 1)])) = (s29_8 s0 out3_0 out3_1 i4).map (sm en29_8 e29) := by
  simp -implicitDefEqProofs only [s29_8, loopF_eq, c29_9_e, c29_10_e, c29_11_r, (show opsOf c29_11 = _ :: _ from rfl), Tryd.underlying9, (show c29_12 = Code.cond _ c29_13 c29_14 from rfl), setA, setB, String.reduceBEq, Nat.reduceEqDiff, Int.reduceEq, Nat.reduceAdd, Nat.reduceLeDiff, Nat.reduceLT, Int.reduceLE, Int.reduceLT, Int.reduceToNat, Int.reduceNegSucc, Nat.reduceMul, Int.reduceAdd, Nat.reduceBEq, Nat.reduceSub, Nat.reducePow, Int.reduceBEq, reduceCtorEq, E0P, E0hand, E0hard, E0row, E0nw, E0aown, E0glob, ↓reduceIte]
  refine brB (fun yc1 => ?_) (fun yc1 => ?_)
  · simp -implicitDefEqProofs only [c29_13_e, c29_15_e, c29_16_e, c29_17_e, c29_18_e, c29_19_r, (show opsOf c29_19 = _ :: _ from rfl), Tryd.underlying9, yc1, setA, setB, String.reduceBEq, Nat.reduceEqDiff, Int.reduceEq, Nat.reduceAdd, Nat.reduceLeDiff, Nat.reduceLT, Int.reduceLE, Int.reduceLT, Int.reduceToNat, Int.reduceNegSucc, Nat.reduceMul, Int.reduceAdd, Nat.reduceBEq, Nat.reduceSub, Nat.reducePow, Int.reduceBEq, reduceCtorEq, E0P, E0hand, E0hard, E0row, E0nw, E0aown, E0glob, ↓reduceIte]
    refine brP (fun yc2 => ?_) (fun yc2 => ?_)
    · simp -implicitDefEqProofs only [yc1, yc2, setA, setB, String.reduceBEq, Nat.reduceEqDiff, Int.reduceEq, Nat.reduceAdd, Nat.reduceLeDiff, Nat.reduceLT, Int.reduceLE, Int.reduceLT, Int.reduceToNat, Int.reduceNegSucc, Nat.reduceMul, Int.reduceAdd, Nat.reduceBEq, Nat.reduceSub, Nat.reducePow, Int.reduceBEq, reduceCtorEq, E0P, E0hand, E0hard, E0row, E0nw, E0aown, E0glob, ↓reduceIte]
      refine brB (fun yc3 => ?_) (fun yc3 => ?_)
      · simp -implicitDefEqProofs only [yc1, yc2, yc3, setA, setB, String.reduceBEq, Nat.reduceEqDiff, Int.reduceEq, Nat.reduceAdd, Nat.reduceLeDiff, Nat.reduceLT, Int.reduceLE, Int.reduceLT, Int.reduceToNat, Int.reduceNegSucc, Nat.reduceMul, Int.reduceAdd, Nat.reduceBEq, Nat.reduceSub, Nat.reducePow, Int.reduceBEq, reduceCtorEq, E0P, E0hand, E0hard, E0row, E0nw, E0aown, E0glob, ↓reduceIte]
        exact j29_20_t s0 out3_0 out3_1 i4 true _ (by rfl) (by rfl) (by rfl) (by rfl)
      · simp -implicitDefEqProofs only [Tryd.underlying9, yc1, yc2, yc3, setA, setB, String.reduceBEq, Nat.reduceEqDiff, Int.reduceEq, Nat.reduceAdd, Nat.reduceLeDiff, Nat.reduceLT, Int.reduceLE, Int.reduceLT, Int.reduceToNat, Int.reduceNegSucc, Nat.reduceMul, Int.reduceAdd, Nat.reduceBEq, Nat.reduceSub, Nat.reducePow, Int.reduceBEq, reduceCtorEq, E0P, E0hand, E0hard, E0row, E0nw, E0aown, E0glob, ↓reduceIte]
        exact j29_20_t s0 out3_0 out3_1 i4 ((s0.getD i4.toNat 0) == (92 : UInt8)) _ (by rfl) (by rfl) (by rfl) (by rfl)
    · simp -implicitDefEqProofs only [yc1, yc2, setA, setB, String.reduceBEq, Nat.reduceEqDiff, Int.reduceEq, Nat.reduceAdd, Nat.reduceLeDiff, Nat.reduceLT, Int.reduceLE, Int.reduceLT, Int.reduceToNat, Int.reduceNegSucc, Nat.reduceMul, Int.reduceAdd, Nat.reduceBEq, Nat.reduceSub, Nat.reducePow, Int.reduceBEq, reduceCtorEq, E0P, E0hand, E0hard, E0row, E0nw, E0aown, E0glob, ↓reduceIte]
  · simp -implicitDefEqProofs only [c29_14_e, K29_8, yc1, setA, setB, String.reduceBEq, Nat.reduceEqDiff, Int.reduceEq, Nat.reduceAdd, Nat.reduceLeDiff, Nat.reduceLT, Int.reduceLE, Int.reduceLT, Int.reduceToNat, Int.reduceNegSucc, Nat.reduceMul, Int.reduceAdd, Nat.reduceBEq, Nat.reduceSub, Nat.reducePow, Int.reduceBEq, reduceCtorEq, E0P, E0hand, E0hard, E0row, E0nw, E0aown, E0glob, ↓reduceIte]
    exact mi (j29_25_t out3_0 out3_1 _ (by rfl))
noncomputable def l29_8 (s0 : Bs) (out3_0 : Bool) (out3_1 : List UInt8) (i4 : Int) : Option R29 := iter (fun x : Bs × Bool × List UInt8 × Int => s29_8 x.1 x.2.1 x.2.2.1 x.2.2.2) (s0, out3_0, out3_1, i4)
theorem l29_8_t (s0 : Bs) (out3_0 : Bool) (out3_1 : List UInt8) (i4 : Int) : bodyD (E0 mm) [.tmp 2] 0 false (seqD (E0 mm) 29 0 (callW (E0 mm)) itW c29_25 (blockD 0 (itW (loopF (E0 mm) 29 0 (callW (E0 mm)) itW c29_9 [(0, .keep), (3, .own), (4, .keep)]) (none, [.v (.c (.d (.sc (.string (S s0))))), .v (.c (.own out3_0 (enL enB out3_1) 0)), .v (.c (.d (.sc (.int .i64 i4))))], [.row out3_1.length (rz out3_0 1)])))) = (l29_8 s0 out3_0 out3_1 i4).map e29 :=
  it_sim (K := (K29_8 (mm := mm))) rfl (enc := en29_8) (fun x => s29_8_t x.1 x.2.1 x.2.2.1 x.2.2.2) (s0, out3_0, out3_1, i4)
noncomputable def m29 (s : Bs) : Option R29 :=
  l29_8 s false ([(34 : UInt8)] : List UInt8) (0 : Int)
set_option maxRecDepth 100000 in
theorem f29_t (s : Bs) :
    callW (E0 mm) 29 [.c (.d (.sc (.string (S s))))] [] = (m29 s).map e29 := by
  rw [callW_run (body := c29_0) (res := [.tmp 2]) Tryd.func29 rfl rfl (by kernel_rfl)]
  simp -implicitDefEqProofs only [m29, slots1, c29_0_e, c29_1_r, (show opsOf c29_1 = _ :: _ from rfl), c29_2_e, c29_3_r, (show opsOf c29_3 = _ :: _ from rfl), Tryd.underlying33, sz5, zc5, ns0, c29_4_e, c29_5_e, c29_6_r, (show opsOf c29_6 = _ :: _ from rfl), c29_7_e, c29_8_l, setA, setB, String.reduceBEq, Nat.reduceEqDiff, Int.reduceEq, Nat.reduceAdd, Nat.reduceLeDiff, Nat.reduceLT, Int.reduceLE, Int.reduceLT, Int.reduceToNat, Int.reduceNegSucc, Nat.reduceMul, Int.reduceAdd, Nat.reduceBEq, Nat.reduceSub, Nat.reducePow, Int.reduceBEq, reduceCtorEq, E0P, E0hand, E0hard, E0row, E0nw, E0aown, E0glob, ↓reduceIte]
  exact l29_8_t s false ([(34 : UInt8)] : List UInt8) (0 : Int)
/-! tollhouse/tollhouselaw02.TextForms -/
noncomputable def c8_0 : Code := bodyOf Tryd.f8
noncomputable def c8_1 : Code := cA c8_0
noncomputable def c8_2 : Code := cB c8_0
noncomputable def c8_3 : Code := cA c8_2
noncomputable def c8_4 : Code := cA c8_3
noncomputable def c8_5 : Code := cB c8_3
noncomputable def c8_6 : Code := cA c8_5
noncomputable def c8_7 : Code := cA c8_6
noncomputable def c8_8 : Code := cB c8_6
noncomputable def c8_9 : Code := cB c8_5
noncomputable def c8_10 : Code := cB c8_2
noncomputable def c8_11 : Code := cA c8_10
noncomputable def c8_12 : Code := cA c8_11
noncomputable def c8_13 : Code := cB c8_11
noncomputable def c8_14 : Code := cA c8_13
noncomputable def c8_15 : Code := cA c8_14
noncomputable def c8_16 : Code := cB c8_14
noncomputable def c8_17 : Code := cB c8_13
noncomputable def c8_18 : Code := cB c8_10
noncomputable def c8_19 : Code := cA c8_18
noncomputable def c8_20 : Code := cB c8_18
noncomputable def c8_21 : Code := cA c8_20
noncomputable def c8_22 : Code := cB c8_20
noncomputable def c8_23 : Code := cA c8_22
noncomputable def c8_24 : Code := cB c8_22
theorem c8_0_e : c8_0 = .seq c8_1 c8_2 := rfl
theorem c8_1_r (m : Nat) (st : St) : den (E0 mm) 8 m (callW (E0 mm)) itW c8_1 none st = regD (runOps (E0 mm) (callW (E0 mm)) (opsOf c8_1) (opsOf c8_1) st) := den_rg (by rfl)
theorem c8_2_e : c8_2 = .seq c8_3 c8_10 := rfl
theorem c8_3_e : c8_3 = .seq c8_4 c8_5 := rfl
theorem c8_4_r (m : Nat) (st : St) : den (E0 mm) 8 m (callW (E0 mm)) itW c8_4 none st = regD (runOps (E0 mm) (callW (E0 mm)) (opsOf c8_4) (opsOf c8_4) st) := den_rg (by rfl)
theorem c8_6_e : c8_6 = .seq c8_7 c8_8 := rfl
theorem c8_7_r (m : Nat) (st : St) : den (E0 mm) 8 m (callW (E0 mm)) itW c8_7 none st = regD (runOps (E0 mm) (callW (E0 mm)) (opsOf c8_7) (opsOf c8_7) st) := den_rg (by rfl)
theorem c8_8_e : c8_8 = .ret := rfl
theorem c8_9_e : c8_9 = .skip := rfl
theorem c8_10_e : c8_10 = .seq c8_11 c8_18 := rfl
theorem c8_11_e : c8_11 = .seq c8_12 c8_13 := rfl
theorem c8_12_r (m : Nat) (st : St) : den (E0 mm) 8 m (callW (E0 mm)) itW c8_12 none st = regD (runOps (E0 mm) (callW (E0 mm)) (opsOf c8_12) (opsOf c8_12) st) := den_rg (by rfl)
theorem c8_14_e : c8_14 = .seq c8_15 c8_16 := rfl
theorem c8_15_r (m : Nat) (st : St) : den (E0 mm) 8 m (callW (E0 mm)) itW c8_15 none st = regD (runOps (E0 mm) (callW (E0 mm)) (opsOf c8_15) (opsOf c8_15) st) := den_rg (by rfl)
theorem c8_16_e : c8_16 = .ret := rfl
theorem c8_17_e : c8_17 = .skip := rfl
theorem c8_18_e : c8_18 = .seq c8_19 c8_20 := rfl
theorem c8_19_r (m : Nat) (st : St) : den (E0 mm) 8 m (callW (E0 mm)) itW c8_19 none st = regD (runOps (E0 mm) (callW (E0 mm)) (opsOf c8_19) (opsOf c8_19) st) := den_rg (by rfl)
theorem c8_20_e : c8_20 = .seq c8_21 c8_22 := rfl
theorem c8_21_r (m : Nat) (st : St) : den (E0 mm) 8 m (callW (E0 mm)) itW c8_21 none st = regD (runOps (E0 mm) (callW (E0 mm)) (opsOf c8_21) (opsOf c8_21) st) := den_rg (by rfl)
theorem c8_22_e : c8_22 = .seq c8_23 c8_24 := rfl
theorem c8_23_r (m : Nat) (st : St) : den (E0 mm) 8 m (callW (E0 mm)) itW c8_23 none st = regD (runOps (E0 mm) (callW (E0 mm)) (opsOf c8_23) (opsOf c8_23) st) := den_rg (by rfl)
theorem c8_24_e : c8_24 = .ret := rfl
abbrev R8 := (Bool)
def e8 : R8 → AV × Heap := fun x => (.v (.c (.d (.sc (.bool x)))), [])
noncomputable def j8_5 (s0 : Bs) (t46 : Bool) : Option R8 :=
  if t46 = true then
    some false
  else
    (m10 s0).bind fun yr21 =>
      if yr21 = true then
        (m22 s0).bind fun yr24 =>
          (m26 s0).bind fun yr26 =>
            (m16 s0).bind fun yr28 =>
              (m10 yr28).bind fun yr30 =>
                if yr30 = true then
                  (m12 s0).bind fun yr33 =>
                    if yr33 = true then
                      (m14 s0).bind fun yr36 =>
                        if (yr36 == s0) = true then
                          if ((yr24.2.length : Int) == 1) = true then
                            if (0 : Int) < (yr24.2.length : Int) then
                              if ((yr24.2.getD 0 default) == s0) = true then
                                if yr26.2.2 = true then
                                  if (yr26.1 == yr28) = true then
                                    if (yr26.2.1 == ([] : Bs)) = true then
                                      some true
                                    else
                                      some false
                                  else
                                    some false
                                else
                                  some false
                              else
                                some false
                            else none
                          else
                            some false
                        else
                          some false
                    else
                      some false
                else
                  some false
      else
        some true
set_option maxRecDepth 100000 in
theorem j8_5_t (s0 : Bs) (t46 : Bool)  (sl : Nat → AV) (zq0 : sl 0 = .v (.c (.d (.sc (.string (S s0)))))) (zq46 : sl 46 = .v (.c (.d (.sc (.bool t46))))) :
    bodyD (E0 mm) [.tmp 4] 0 false (seqD (E0 mm) 8 0 (callW (E0 mm)) itW c8_10 (den (E0 mm) 8 0 (callW (E0 mm)) itW c8_5 none ⟨sl, []⟩)) = (j8_5 s0 t46).map e8 := by
  simp -implicitDefEqProofs only [j8_5, (show c8_5 = Code.cond _ c8_6 c8_9 from rfl), zq0, zq46, setA, setB, String.reduceBEq, Nat.reduceEqDiff, Int.reduceEq, Nat.reduceAdd, Nat.reduceLeDiff, Nat.reduceLT, Int.reduceLE, Int.reduceLT, Int.reduceToNat, Int.reduceNegSucc, Nat.reduceMul, Int.reduceAdd, Nat.reduceBEq, Nat.reduceSub, Nat.reducePow, Int.reduceBEq, reduceCtorEq, E0P, E0hand, E0hard, E0row, E0nw, E0aown, E0glob, ↓reduceIte]
  refine brB (fun yc19 => ?_) (fun yc19 => ?_)
  · simp -implicitDefEqProofs only [c8_6_e, c8_7_r, (show opsOf c8_7 = _ :: _ from rfl), c8_8_e, zq0, zq46, yc19, setA, setB, String.reduceBEq, Nat.reduceEqDiff, Int.reduceEq, Nat.reduceAdd, Nat.reduceLeDiff, Nat.reduceLT, Int.reduceLE, Int.reduceLT, Int.reduceToNat, Int.reduceNegSucc, Nat.reduceMul, Int.reduceAdd, Nat.reduceBEq, Nat.reduceSub, Nat.reducePow, Int.reduceBEq, reduceCtorEq, E0P, E0hand, E0hard, E0row, E0nw, E0aown, E0glob, ↓reduceIte]
    all_goals rfl
  · simp -implicitDefEqProofs only [c8_9_e, c8_10_e, c8_11_e, c8_12_r, (show opsOf c8_12 = _ :: _ from rfl), ent10, prm10, f10_t, zq0, zq46, yc19, setA, setB, String.reduceBEq, Nat.reduceEqDiff, Int.reduceEq, Nat.reduceAdd, Nat.reduceLeDiff, Nat.reduceLT, Int.reduceLE, Int.reduceLT, Int.reduceToNat, Int.reduceNegSucc, Nat.reduceMul, Int.reduceAdd, Nat.reduceBEq, Nat.reduceSub, Nat.reducePow, Int.reduceBEq, reduceCtorEq, E0P, E0hand, E0hard, E0row, E0nw, E0aown, E0glob, ↓reduceIte]
    refine brM (fun yc20 => ?_) (fun yr21 yc20 => ?_)
    · simp -implicitDefEqProofs only [yc20, zq0, zq46, yc19, e10, setA, setB, String.reduceBEq, Nat.reduceEqDiff, Int.reduceEq, Nat.reduceAdd, Nat.reduceLeDiff, Nat.reduceLT, Int.reduceLE, Int.reduceLT, Int.reduceToNat, Int.reduceNegSucc, Nat.reduceMul, Int.reduceAdd, Nat.reduceBEq, Nat.reduceSub, Nat.reducePow, Int.reduceBEq, reduceCtorEq, E0P, E0hand, E0hard, E0row, E0nw, E0aown, E0glob, ↓reduceIte]
    · simp -implicitDefEqProofs only [e10, (show c8_13 = Code.cond _ c8_14 c8_17 from rfl), zq0, zq46, yc19, yc20, setA, setB, String.reduceBEq, Nat.reduceEqDiff, Int.reduceEq, Nat.reduceAdd, Nat.reduceLeDiff, Nat.reduceLT, Int.reduceLE, Int.reduceLT, Int.reduceToNat, Int.reduceNegSucc, Nat.reduceMul, Int.reduceAdd, Nat.reduceBEq, Nat.reduceSub, Nat.reducePow, Int.reduceBEq, reduceCtorEq, E0P, E0hand, E0hard, E0row, E0nw, E0aown, E0glob, ↓reduceIte]
      refine brB (fun yc22 => ?_) (fun yc22 => ?_)
      · simp -implicitDefEqProofs only [c8_17_e, c8_18_e, c8_19_r, (show opsOf c8_19 = _ :: _ from rfl), ent22, prm22, f22_t, zq0, zq46, yc19, yc20, yc22, setA, setB, String.reduceBEq, Nat.reduceEqDiff, Int.reduceEq, Nat.reduceAdd, Nat.reduceLeDiff, Nat.reduceLT, Int.reduceLE, Int.reduceLT, Int.reduceToNat, Int.reduceNegSucc, Nat.reduceMul, Int.reduceAdd, Nat.reduceBEq, Nat.reduceSub, Nat.reducePow, Int.reduceBEq, reduceCtorEq, E0P, E0hand, E0hard, E0row, E0nw, E0aown, E0glob, ↓reduceIte]
        refine brM (fun yc23 => ?_) (fun yr24 yc23 => ?_)
        · simp -implicitDefEqProofs only [yc23, zq0, zq46, yc19, yc20, yc22, e22, setA, setB, String.reduceBEq, Nat.reduceEqDiff, Int.reduceEq, Nat.reduceAdd, Nat.reduceLeDiff, Nat.reduceLT, Int.reduceLE, Int.reduceLT, Int.reduceToNat, Int.reduceNegSucc, Nat.reduceMul, Int.reduceAdd, Nat.reduceBEq, Nat.reduceSub, Nat.reducePow, Int.reduceBEq, reduceCtorEq, E0P, E0hand, E0hard, E0row, E0nw, E0aown, E0glob, ↓reduceIte]
        · simp -implicitDefEqProofs only [e22, c8_20_e, c8_21_r, (show opsOf c8_21 = _ :: _ from rfl), ent26, prm26, f26_t, zq0, zq46, yc19, yc20, yc22, yc23, setA, setB, String.reduceBEq, Nat.reduceEqDiff, Int.reduceEq, Nat.reduceAdd, Nat.reduceLeDiff, Nat.reduceLT, Int.reduceLE, Int.reduceLT, Int.reduceToNat, Int.reduceNegSucc, Nat.reduceMul, Int.reduceAdd, Nat.reduceBEq, Nat.reduceSub, Nat.reducePow, Int.reduceBEq, reduceCtorEq, E0P, E0hand, E0hard, E0row, E0nw, E0aown, E0glob, ↓reduceIte]
          refine brM (fun yc25 => ?_) (fun yr26 yc25 => ?_)
          · simp -implicitDefEqProofs only [yc25, zq0, zq46, yc19, yc20, yc22, yc23, e26, setA, setB, String.reduceBEq, Nat.reduceEqDiff, Int.reduceEq, Nat.reduceAdd, Nat.reduceLeDiff, Nat.reduceLT, Int.reduceLE, Int.reduceLT, Int.reduceToNat, Int.reduceNegSucc, Nat.reduceMul, Int.reduceAdd, Nat.reduceBEq, Nat.reduceSub, Nat.reducePow, Int.reduceBEq, reduceCtorEq, E0P, E0hand, E0hard, E0row, E0nw, E0aown, E0glob, ↓reduceIte]
          · simp -implicitDefEqProofs only [e26, c8_22_e, c8_23_r, (show opsOf c8_23 = _ :: _ from rfl), ent16, prm16, f16_t, zq0, zq46, yc19, yc20, yc22, yc23, yc25, setA, setB, String.reduceBEq, Nat.reduceEqDiff, Int.reduceEq, Nat.reduceAdd, Nat.reduceLeDiff, Nat.reduceLT, Int.reduceLE, Int.reduceLT, Int.reduceToNat, Int.reduceNegSucc, Nat.reduceMul, Int.reduceAdd, Nat.reduceBEq, Nat.reduceSub, Nat.reducePow, Int.reduceBEq, reduceCtorEq, E0P, E0hand, E0hard, E0row, E0nw, E0aown, E0glob, ↓reduceIte]
            refine brM (fun yc27 => ?_) (fun yr28 yc27 => ?_)
            · simp -implicitDefEqProofs only [yc27, zq0, zq46, yc19, yc20, yc22, yc23, yc25, e16, setA, setB, String.reduceBEq, Nat.reduceEqDiff, Int.reduceEq, Nat.reduceAdd, Nat.reduceLeDiff, Nat.reduceLT, Int.reduceLE, Int.reduceLT, Int.reduceToNat, Int.reduceNegSucc, Nat.reduceMul, Int.reduceAdd, Nat.reduceBEq, Nat.reduceSub, Nat.reducePow, Int.reduceBEq, reduceCtorEq, E0P, E0hand, E0hard, E0row, E0nw, E0aown, E0glob, ↓reduceIte]
            · simp -implicitDefEqProofs only [e16, ent10, prm10, f10_t, zq0, zq46, yc19, yc20, yc22, yc23, yc25, yc27, setA, setB, String.reduceBEq, Nat.reduceEqDiff, Int.reduceEq, Nat.reduceAdd, Nat.reduceLeDiff, Nat.reduceLT, Int.reduceLE, Int.reduceLT, Int.reduceToNat, Int.reduceNegSucc, Nat.reduceMul, Int.reduceAdd, Nat.reduceBEq, Nat.reduceSub, Nat.reducePow, Int.reduceBEq, reduceCtorEq, E0P, E0hand, E0hard, E0row, E0nw, E0aown, E0glob, ↓reduceIte]
              refine brM (fun yc29 => ?_) (fun yr30 yc29 => ?_)
              · simp -implicitDefEqProofs only [yc29, zq0, zq46, yc19, yc20, yc22, yc23, yc25, yc27, e10, setA, setB, String.reduceBEq, Nat.reduceEqDiff, Int.reduceEq, Nat.reduceAdd, Nat.reduceLeDiff, Nat.reduceLT, Int.reduceLE, Int.reduceLT, Int.reduceToNat, Int.reduceNegSucc, Nat.reduceMul, Int.reduceAdd, Nat.reduceBEq, Nat.reduceSub, Nat.reducePow, Int.reduceBEq, reduceCtorEq, E0P, E0hand, E0hard, E0row, E0nw, E0aown, E0glob, ↓reduceIte]
              · simp -implicitDefEqProofs only [e10, zq0, zq46, yc19, yc20, yc22, yc23, yc25, yc27, yc29, setA, setB, String.reduceBEq, Nat.reduceEqDiff, Int.reduceEq, Nat.reduceAdd, Nat.reduceLeDiff, Nat.reduceLT, Int.reduceLE, Int.reduceLT, Int.reduceToNat, Int.reduceNegSucc, Nat.reduceMul, Int.reduceAdd, Nat.reduceBEq, Nat.reduceSub, Nat.reducePow, Int.reduceBEq, reduceCtorEq, E0P, E0hand, E0hard, E0row, E0nw, E0aown, E0glob, ↓reduceIte]
                refine brB (fun yc31 => ?_) (fun yc31 => ?_)
                · simp -implicitDefEqProofs only [ent12, prm12, f12_t, zq0, zq46, yc19, yc20, yc22, yc23, yc25, yc27, yc29, yc31, setA, setB, String.reduceBEq, Nat.reduceEqDiff, Int.reduceEq, Nat.reduceAdd, Nat.reduceLeDiff, Nat.reduceLT, Int.reduceLE, Int.reduceLT, Int.reduceToNat, Int.reduceNegSucc, Nat.reduceMul, Int.reduceAdd, Nat.reduceBEq, Nat.reduceSub, Nat.reducePow, Int.reduceBEq, reduceCtorEq, E0P, E0hand, E0hard, E0row, E0nw, E0aown, E0glob, ↓reduceIte]
                  refine brM (fun yc32 => ?_) (fun yr33 yc32 => ?_)
                  · simp -implicitDefEqProofs only [yc32, zq0, zq46, yc19, yc20, yc22, yc23, yc25, yc27, yc29, yc31, e12, setA, setB, String.reduceBEq, Nat.reduceEqDiff, Int.reduceEq, Nat.reduceAdd, Nat.reduceLeDiff, Nat.reduceLT, Int.reduceLE, Int.reduceLT, Int.reduceToNat, Int.reduceNegSucc, Nat.reduceMul, Int.reduceAdd, Nat.reduceBEq, Nat.reduceSub, Nat.reducePow, Int.reduceBEq, reduceCtorEq, E0P, E0hand, E0hard, E0row, E0nw, E0aown, E0glob, ↓reduceIte]
                  · simp -implicitDefEqProofs only [e12, zq0, zq46, yc19, yc20, yc22, yc23, yc25, yc27, yc29, yc31, yc32, setA, setB, String.reduceBEq, Nat.reduceEqDiff, Int.reduceEq, Nat.reduceAdd, Nat.reduceLeDiff, Nat.reduceLT, Int.reduceLE, Int.reduceLT, Int.reduceToNat, Int.reduceNegSucc, Nat.reduceMul, Int.reduceAdd, Nat.reduceBEq, Nat.reduceSub, Nat.reducePow, Int.reduceBEq, reduceCtorEq, E0P, E0hand, E0hard, E0row, E0nw, E0aown, E0glob, ↓reduceIte]
                    refine brB (fun yc34 => ?_) (fun yc34 => ?_)
                    · simp -implicitDefEqProofs only [ent14, prm14, f14_t, zq0, zq46, yc19, yc20, yc22, yc23, yc25, yc27, yc29, yc31, yc32, yc34, setA, setB, String.reduceBEq, Nat.reduceEqDiff, Int.reduceEq, Nat.reduceAdd, Nat.reduceLeDiff, Nat.reduceLT, Int.reduceLE, Int.reduceLT, Int.reduceToNat, Int.reduceNegSucc, Nat.reduceMul, Int.reduceAdd, Nat.reduceBEq, Nat.reduceSub, Nat.reducePow, Int.reduceBEq, reduceCtorEq, E0P, E0hand, E0hard, E0row, E0nw, E0aown, E0glob, ↓reduceIte]
                      refine brM (fun yc35 => ?_) (fun yr36 yc35 => ?_)
                      · simp -implicitDefEqProofs only [yc35, zq0, zq46, yc19, yc20, yc22, yc23, yc25, yc27, yc29, yc31, yc32, yc34, e14, setA, setB, String.reduceBEq, Nat.reduceEqDiff, Int.reduceEq, Nat.reduceAdd, Nat.reduceLeDiff, Nat.reduceLT, Int.reduceLE, Int.reduceLT, Int.reduceToNat, Int.reduceNegSucc, Nat.reduceMul, Int.reduceAdd, Nat.reduceBEq, Nat.reduceSub, Nat.reducePow, Int.reduceBEq, reduceCtorEq, E0P, E0hand, E0hard, E0row, E0nw, E0aown, E0glob, ↓reduceIte]
                      · simp -implicitDefEqProofs only [e14, zq0, zq46, yc19, yc20, yc22, yc23, yc25, yc27, yc29, yc31, yc32, yc34, yc35, setA, setB, String.reduceBEq, Nat.reduceEqDiff, Int.reduceEq, Nat.reduceAdd, Nat.reduceLeDiff, Nat.reduceLT, Int.reduceLE, Int.reduceLT, Int.reduceToNat, Int.reduceNegSucc, Nat.reduceMul, Int.reduceAdd, Nat.reduceBEq, Nat.reduceSub, Nat.reducePow, Int.reduceBEq, reduceCtorEq, E0P, E0hand, E0hard, E0row, E0nw, E0aown, E0glob, ↓reduceIte]
                        refine brB (fun yc37 => ?_) (fun yc37 => ?_)
                        · simp -implicitDefEqProofs only [Tryd.underlying27, zq0, zq46, yc19, yc20, yc22, yc23, yc25, yc27, yc29, yc31, yc32, yc34, yc35, yc37, setA, setB, String.reduceBEq, Nat.reduceEqDiff, Int.reduceEq, Nat.reduceAdd, Nat.reduceLeDiff, Nat.reduceLT, Int.reduceLE, Int.reduceLT, Int.reduceToNat, Int.reduceNegSucc, Nat.reduceMul, Int.reduceAdd, Nat.reduceBEq, Nat.reduceSub, Nat.reducePow, Int.reduceBEq, reduceCtorEq, E0P, E0hand, E0hard, E0row, E0nw, E0aown, E0glob, ↓reduceIte]
                          refine brB (fun yc38 => ?_) (fun yc38 => ?_)
                          · simp -implicitDefEqProofs only [Tryd.underlying27, sz9, en0_a, zq0, zq46, yc19, yc20, yc22, yc23, yc25, yc27, yc29, yc31, yc32, yc34, yc35, yc37, yc38, setA, setB, String.reduceBEq, Nat.reduceEqDiff, Int.reduceEq, Nat.reduceAdd, Nat.reduceLeDiff, Nat.reduceLT, Int.reduceLE, Int.reduceLT, Int.reduceToNat, Int.reduceNegSucc, Nat.reduceMul, Int.reduceAdd, Nat.reduceBEq, Nat.reduceSub, Nat.reducePow, Int.reduceBEq, reduceCtorEq, E0P, E0hand, E0hard, E0row, E0nw, E0aown, E0glob, ↓reduceIte]
                            refine brP (fun yc39 => ?_) (fun yc39 => ?_)
                            · have yd40 : 0 < yr24.2.length := by omega
                              simp -implicitDefEqProofs only [(enL_get en0 yr24.2 0 yd40), en0_e, sz9, ag9, zq0, zq46, yc19, yc20, yc22, yc23, yc25, yc27, yc29, yc31, yc32, yc34, yc35, yc37, yc38, yc39, yd40, setA, setB, String.reduceBEq, Nat.reduceEqDiff, Int.reduceEq, Nat.reduceAdd, Nat.reduceLeDiff, Nat.reduceLT, Int.reduceLE, Int.reduceLT, Int.reduceToNat, Int.reduceNegSucc, Nat.reduceMul, Int.reduceAdd, Nat.reduceBEq, Nat.reduceSub, Nat.reducePow, Int.reduceBEq, reduceCtorEq, E0P, E0hand, E0hard, E0row, E0nw, E0aown, E0glob, ↓reduceIte]
                              refine brB (fun yc41 => ?_) (fun yc41 => ?_)
                              · simp -implicitDefEqProofs only [zq0, zq46, yc19, yc20, yc22, yc23, yc25, yc27, yc29, yc31, yc32, yc34, yc35, yc37, yc38, yc39, yd40, yc41, setA, setB, String.reduceBEq, Nat.reduceEqDiff, Int.reduceEq, Nat.reduceAdd, Nat.reduceLeDiff, Nat.reduceLT, Int.reduceLE, Int.reduceLT, Int.reduceToNat, Int.reduceNegSucc, Nat.reduceMul, Int.reduceAdd, Nat.reduceBEq, Nat.reduceSub, Nat.reducePow, Int.reduceBEq, reduceCtorEq, E0P, E0hand, E0hard, E0row, E0nw, E0aown, E0glob, ↓reduceIte]
                                refine brB (fun yc42 => ?_) (fun yc42 => ?_)
                                · simp -implicitDefEqProofs only [ent16, prm16, f16_t, e16, zq0, zq46, yc19, yc20, yc22, yc23, yc25, yc27, yc29, yc31, yc32, yc34, yc35, yc37, yc38, yc39, yd40, yc41, yc42, setA, setB, String.reduceBEq, Nat.reduceEqDiff, Int.reduceEq, Nat.reduceAdd, Nat.reduceLeDiff, Nat.reduceLT, Int.reduceLE, Int.reduceLT, Int.reduceToNat, Int.reduceNegSucc, Nat.reduceMul, Int.reduceAdd, Nat.reduceBEq, Nat.reduceSub, Nat.reducePow, Int.reduceBEq, reduceCtorEq, E0P, E0hand, E0hard, E0row, E0nw, E0aown, E0glob, ↓reduceIte]
                                  refine brB (fun yc43 => ?_) (fun yc43 => ?_)
                                  · simp -implicitDefEqProofs only [zq0, zq46, yc19, yc20, yc22, yc23, yc25, yc27, yc29, yc31, yc32, yc34, yc35, yc37, yc38, yc39, yd40, yc41, yc42, yc43, setA, setB, String.reduceBEq, Nat.reduceEqDiff, Int.reduceEq, Nat.reduceAdd, Nat.reduceLeDiff, Nat.reduceLT, Int.reduceLE, Int.reduceLT, Int.reduceToNat, Int.reduceNegSucc, Nat.reduceMul, Int.reduceAdd, Nat.reduceBEq, Nat.reduceSub, Nat.reducePow, Int.reduceBEq, reduceCtorEq, E0P, E0hand, E0hard, E0row, E0nw, E0aown, E0glob, ↓reduceIte]
                                    refine brB (fun yc44 => ?_) (fun yc44 => ?_)
                                    · simp -implicitDefEqProofs only [ent20, prm20, f20_t, c8_24_e, zq0, zq46, yc19, yc20, yc22, yc23, yc25, yc27, yc29, yc31, yc32, yc34, yc35, yc37, yc38, yc39, yd40, yc41, yc42, yc43, yc44, setA, setB, String.reduceBEq, Nat.reduceEqDiff, Int.reduceEq, Nat.reduceAdd, Nat.reduceLeDiff, Nat.reduceLT, Int.reduceLE, Int.reduceLT, Int.reduceToNat, Int.reduceNegSucc, Nat.reduceMul, Int.reduceAdd, Nat.reduceBEq, Nat.reduceSub, Nat.reducePow, Int.reduceBEq, reduceCtorEq, E0P, E0hand, E0hard, E0row, E0nw, E0aown, E0glob, ↓reduceIte]
                                      all_goals rfl
                                    · simp -implicitDefEqProofs only [c8_24_e, zq0, zq46, yc19, yc20, yc22, yc23, yc25, yc27, yc29, yc31, yc32, yc34, yc35, yc37, yc38, yc39, yd40, yc41, yc42, yc43, yc44, setA, setB, String.reduceBEq, Nat.reduceEqDiff, Int.reduceEq, Nat.reduceAdd, Nat.reduceLeDiff, Nat.reduceLT, Int.reduceLE, Int.reduceLT, Int.reduceToNat, Int.reduceNegSucc, Nat.reduceMul, Int.reduceAdd, Nat.reduceBEq, Nat.reduceSub, Nat.reducePow, Int.reduceBEq, reduceCtorEq, E0P, E0hand, E0hard, E0row, E0nw, E0aown, E0glob, ↓reduceIte]
                                      all_goals rfl
                                  · simp -implicitDefEqProofs only [c8_24_e, zq0, zq46, yc19, yc20, yc22, yc23, yc25, yc27, yc29, yc31, yc32, yc34, yc35, yc37, yc38, yc39, yd40, yc41, yc42, yc43, setA, setB, String.reduceBEq, Nat.reduceEqDiff, Int.reduceEq, Nat.reduceAdd, Nat.reduceLeDiff, Nat.reduceLT, Int.reduceLE, Int.reduceLT, Int.reduceToNat, Int.reduceNegSucc, Nat.reduceMul, Int.reduceAdd, Nat.reduceBEq, Nat.reduceSub, Nat.reducePow, Int.reduceBEq, reduceCtorEq, E0P, E0hand, E0hard, E0row, E0nw, E0aown, E0glob, ↓reduceIte]
                                    all_goals rfl
                                · simp -implicitDefEqProofs only [c8_24_e, zq0, zq46, yc19, yc20, yc22, yc23, yc25, yc27, yc29, yc31, yc32, yc34, yc35, yc37, yc38, yc39, yd40, yc41, yc42, setA, setB, String.reduceBEq, Nat.reduceEqDiff, Int.reduceEq, Nat.reduceAdd, Nat.reduceLeDiff, Nat.reduceLT, Int.reduceLE, Int.reduceLT, Int.reduceToNat, Int.reduceNegSucc, Nat.reduceMul, Int.reduceAdd, Nat.reduceBEq, Nat.reduceSub, Nat.reducePow, Int.reduceBEq, reduceCtorEq, E0P, E0hand, E0hard, E0row, E0nw, E0aown, E0glob, ↓reduceIte]
                                  all_goals rfl
                              · simp -implicitDefEqProofs only [c8_24_e, zq0, zq46, yc19, yc20, yc22, yc23, yc25, yc27, yc29, yc31, yc32, yc34, yc35, yc37, yc38, yc39, yd40, yc41, setA, setB, String.reduceBEq, Nat.reduceEqDiff, Int.reduceEq, Nat.reduceAdd, Nat.reduceLeDiff, Nat.reduceLT, Int.reduceLE, Int.reduceLT, Int.reduceToNat, Int.reduceNegSucc, Nat.reduceMul, Int.reduceAdd, Nat.reduceBEq, Nat.reduceSub, Nat.reducePow, Int.reduceBEq, reduceCtorEq, E0P, E0hand, E0hard, E0row, E0nw, E0aown, E0glob, ↓reduceIte]
                                all_goals rfl
                            · simp -implicitDefEqProofs only [zq0, zq46, yc19, yc20, yc22, yc23, yc25, yc27, yc29, yc31, yc32, yc34, yc35, yc37, yc38, yc39, setA, setB, String.reduceBEq, Nat.reduceEqDiff, Int.reduceEq, Nat.reduceAdd, Nat.reduceLeDiff, Nat.reduceLT, Int.reduceLE, Int.reduceLT, Int.reduceToNat, Int.reduceNegSucc, Nat.reduceMul, Int.reduceAdd, Nat.reduceBEq, Nat.reduceSub, Nat.reducePow, Int.reduceBEq, reduceCtorEq, E0P, E0hand, E0hard, E0row, E0nw, E0aown, E0glob, ↓reduceIte]
                          · simp -implicitDefEqProofs only [c8_24_e, zq0, zq46, yc19, yc20, yc22, yc23, yc25, yc27, yc29, yc31, yc32, yc34, yc35, yc37, yc38, setA, setB, String.reduceBEq, Nat.reduceEqDiff, Int.reduceEq, Nat.reduceAdd, Nat.reduceLeDiff, Nat.reduceLT, Int.reduceLE, Int.reduceLT, Int.reduceToNat, Int.reduceNegSucc, Nat.reduceMul, Int.reduceAdd, Nat.reduceBEq, Nat.reduceSub, Nat.reducePow, Int.reduceBEq, reduceCtorEq, E0P, E0hand, E0hard, E0row, E0nw, E0aown, E0glob, ↓reduceIte]
                            all_goals rfl
                        · simp -implicitDefEqProofs only [c8_24_e, zq0, zq46, yc19, yc20, yc22, yc23, yc25, yc27, yc29, yc31, yc32, yc34, yc35, yc37, setA, setB, String.reduceBEq, Nat.reduceEqDiff, Int.reduceEq, Nat.reduceAdd, Nat.reduceLeDiff, Nat.reduceLT, Int.reduceLE, Int.reduceLT, Int.reduceToNat, Int.reduceNegSucc, Nat.reduceMul, Int.reduceAdd, Nat.reduceBEq, Nat.reduceSub, Nat.reducePow, Int.reduceBEq, reduceCtorEq, E0P, E0hand, E0hard, E0row, E0nw, E0aown, E0glob, ↓reduceIte]
                          all_goals rfl
                    · simp -implicitDefEqProofs only [c8_24_e, zq0, zq46, yc19, yc20, yc22, yc23, yc25, yc27, yc29, yc31, yc32, yc34, setA, setB, String.reduceBEq, Nat.reduceEqDiff, Int.reduceEq, Nat.reduceAdd, Nat.reduceLeDiff, Nat.reduceLT, Int.reduceLE, Int.reduceLT, Int.reduceToNat, Int.reduceNegSucc, Nat.reduceMul, Int.reduceAdd, Nat.reduceBEq, Nat.reduceSub, Nat.reducePow, Int.reduceBEq, reduceCtorEq, E0P, E0hand, E0hard, E0row, E0nw, E0aown, E0glob, ↓reduceIte]
                      all_goals rfl
                · simp -implicitDefEqProofs only [c8_24_e, zq0, zq46, yc19, yc20, yc22, yc23, yc25, yc27, yc29, yc31, setA, setB, String.reduceBEq, Nat.reduceEqDiff, Int.reduceEq, Nat.reduceAdd, Nat.reduceLeDiff, Nat.reduceLT, Int.reduceLE, Int.reduceLT, Int.reduceToNat, Int.reduceNegSucc, Nat.reduceMul, Int.reduceAdd, Nat.reduceBEq, Nat.reduceSub, Nat.reducePow, Int.reduceBEq, reduceCtorEq, E0P, E0hand, E0hard, E0row, E0nw, E0aown, E0glob, ↓reduceIte]
                  all_goals rfl
      · simp -implicitDefEqProofs only [c8_14_e, c8_15_r, (show opsOf c8_15 = _ :: _ from rfl), ent20, prm20, f20_t, c8_16_e, zq0, zq46, yc19, yc20, yc22, setA, setB, String.reduceBEq, Nat.reduceEqDiff, Int.reduceEq, Nat.reduceAdd, Nat.reduceLeDiff, Nat.reduceLT, Int.reduceLE, Int.reduceLT, Int.reduceToNat, Int.reduceNegSucc, Nat.reduceMul, Int.reduceAdd, Nat.reduceBEq, Nat.reduceSub, Nat.reducePow, Int.reduceBEq, reduceCtorEq, E0P, E0hand, E0hard, E0row, E0nw, E0aown, E0glob, ↓reduceIte]
        all_goals rfl
noncomputable def m8 (s : Bs) (t : Bs) : Option R8 :=
  (m16 s).bind fun yr2 =>
    (m16 yr2).bind fun yr4 =>
      if (yr4 == yr2) = true then
        (m14 s).bind fun yr7 =>
          (m14 yr7).bind fun yr9 =>
            if (yr9 == yr7) = true then
              if ((yr2.length : Int) == (s.length : Int)) = true then
                (m18 s t).bind fun yr13 =>
                  (m18 t s).bind fun yr15 =>
                    if (yr13 == yr15) = true then
                      (m18 s yr2).bind fun yr18 =>
                        j8_5 s (!yr18)
                    else
                      j8_5 s true
              else
                j8_5 s true
            else
              j8_5 s true
      else
        j8_5 s true
set_option maxRecDepth 100000 in
theorem f8_t (s : Bs) (t : Bs) :
    callW (E0 mm) 8 [.c (.d (.sc (.string (S s)))), .c (.d (.sc (.string (S t))))] [] = (m8 s t).map e8 := by
  rw [callW_run (body := c8_0) (res := [.tmp 4]) Tryd.func8 rfl rfl (by kernel_rfl)]
  simp -implicitDefEqProofs only [m8, slots2, c8_0_e, c8_1_r, (show opsOf c8_1 = _ :: _ from rfl), c8_2_e, c8_3_e, c8_4_r, (show opsOf c8_4 = _ :: _ from rfl), ent16, prm16, f16_t, setA, setB, String.reduceBEq, Nat.reduceEqDiff, Int.reduceEq, Nat.reduceAdd, Nat.reduceLeDiff, Nat.reduceLT, Int.reduceLE, Int.reduceLT, Int.reduceToNat, Int.reduceNegSucc, Nat.reduceMul, Int.reduceAdd, Nat.reduceBEq, Nat.reduceSub, Nat.reducePow, Int.reduceBEq, reduceCtorEq, E0P, E0hand, E0hard, E0row, E0nw, E0aown, E0glob, ↓reduceIte]
  refine brM (fun yc1 => ?_) (fun yr2 yc1 => ?_)
  · simp -implicitDefEqProofs only [yc1, e16, setA, setB, String.reduceBEq, Nat.reduceEqDiff, Int.reduceEq, Nat.reduceAdd, Nat.reduceLeDiff, Nat.reduceLT, Int.reduceLE, Int.reduceLT, Int.reduceToNat, Int.reduceNegSucc, Nat.reduceMul, Int.reduceAdd, Nat.reduceBEq, Nat.reduceSub, Nat.reducePow, Int.reduceBEq, reduceCtorEq, E0P, E0hand, E0hard, E0row, E0nw, E0aown, E0glob, ↓reduceIte]
  · simp -implicitDefEqProofs only [e16, ent16, prm16, f16_t, yc1, setA, setB, String.reduceBEq, Nat.reduceEqDiff, Int.reduceEq, Nat.reduceAdd, Nat.reduceLeDiff, Nat.reduceLT, Int.reduceLE, Int.reduceLT, Int.reduceToNat, Int.reduceNegSucc, Nat.reduceMul, Int.reduceAdd, Nat.reduceBEq, Nat.reduceSub, Nat.reducePow, Int.reduceBEq, reduceCtorEq, E0P, E0hand, E0hard, E0row, E0nw, E0aown, E0glob, ↓reduceIte]
    refine brM (fun yc3 => ?_) (fun yr4 yc3 => ?_)
    · simp -implicitDefEqProofs only [yc3, yc1, e16, setA, setB, String.reduceBEq, Nat.reduceEqDiff, Int.reduceEq, Nat.reduceAdd, Nat.reduceLeDiff, Nat.reduceLT, Int.reduceLE, Int.reduceLT, Int.reduceToNat, Int.reduceNegSucc, Nat.reduceMul, Int.reduceAdd, Nat.reduceBEq, Nat.reduceSub, Nat.reducePow, Int.reduceBEq, reduceCtorEq, E0P, E0hand, E0hard, E0row, E0nw, E0aown, E0glob, ↓reduceIte]
    · simp -implicitDefEqProofs only [e16, ent16, prm16, f16_t, yc1, yc3, setA, setB, String.reduceBEq, Nat.reduceEqDiff, Int.reduceEq, Nat.reduceAdd, Nat.reduceLeDiff, Nat.reduceLT, Int.reduceLE, Int.reduceLT, Int.reduceToNat, Int.reduceNegSucc, Nat.reduceMul, Int.reduceAdd, Nat.reduceBEq, Nat.reduceSub, Nat.reducePow, Int.reduceBEq, reduceCtorEq, E0P, E0hand, E0hard, E0row, E0nw, E0aown, E0glob, ↓reduceIte]
      refine brB (fun yc5 => ?_) (fun yc5 => ?_)
      · simp -implicitDefEqProofs only [ent14, prm14, f14_t, yc1, yc3, yc5, setA, setB, String.reduceBEq, Nat.reduceEqDiff, Int.reduceEq, Nat.reduceAdd, Nat.reduceLeDiff, Nat.reduceLT, Int.reduceLE, Int.reduceLT, Int.reduceToNat, Int.reduceNegSucc, Nat.reduceMul, Int.reduceAdd, Nat.reduceBEq, Nat.reduceSub, Nat.reducePow, Int.reduceBEq, reduceCtorEq, E0P, E0hand, E0hard, E0row, E0nw, E0aown, E0glob, ↓reduceIte]
        refine brM (fun yc6 => ?_) (fun yr7 yc6 => ?_)
        · simp -implicitDefEqProofs only [yc6, yc1, yc3, yc5, e14, setA, setB, String.reduceBEq, Nat.reduceEqDiff, Int.reduceEq, Nat.reduceAdd, Nat.reduceLeDiff, Nat.reduceLT, Int.reduceLE, Int.reduceLT, Int.reduceToNat, Int.reduceNegSucc, Nat.reduceMul, Int.reduceAdd, Nat.reduceBEq, Nat.reduceSub, Nat.reducePow, Int.reduceBEq, reduceCtorEq, E0P, E0hand, E0hard, E0row, E0nw, E0aown, E0glob, ↓reduceIte]
        · simp -implicitDefEqProofs only [e14, ent14, prm14, f14_t, yc1, yc3, yc5, yc6, setA, setB, String.reduceBEq, Nat.reduceEqDiff, Int.reduceEq, Nat.reduceAdd, Nat.reduceLeDiff, Nat.reduceLT, Int.reduceLE, Int.reduceLT, Int.reduceToNat, Int.reduceNegSucc, Nat.reduceMul, Int.reduceAdd, Nat.reduceBEq, Nat.reduceSub, Nat.reducePow, Int.reduceBEq, reduceCtorEq, E0P, E0hand, E0hard, E0row, E0nw, E0aown, E0glob, ↓reduceIte]
          refine brM (fun yc8 => ?_) (fun yr9 yc8 => ?_)
          · simp -implicitDefEqProofs only [yc8, yc1, yc3, yc5, yc6, e14, setA, setB, String.reduceBEq, Nat.reduceEqDiff, Int.reduceEq, Nat.reduceAdd, Nat.reduceLeDiff, Nat.reduceLT, Int.reduceLE, Int.reduceLT, Int.reduceToNat, Int.reduceNegSucc, Nat.reduceMul, Int.reduceAdd, Nat.reduceBEq, Nat.reduceSub, Nat.reducePow, Int.reduceBEq, reduceCtorEq, E0P, E0hand, E0hard, E0row, E0nw, E0aown, E0glob, ↓reduceIte]
          · simp -implicitDefEqProofs only [e14, ent14, prm14, f14_t, yc1, yc3, yc5, yc6, yc8, setA, setB, String.reduceBEq, Nat.reduceEqDiff, Int.reduceEq, Nat.reduceAdd, Nat.reduceLeDiff, Nat.reduceLT, Int.reduceLE, Int.reduceLT, Int.reduceToNat, Int.reduceNegSucc, Nat.reduceMul, Int.reduceAdd, Nat.reduceBEq, Nat.reduceSub, Nat.reducePow, Int.reduceBEq, reduceCtorEq, E0P, E0hand, E0hard, E0row, E0nw, E0aown, E0glob, ↓reduceIte]
            refine brB (fun yc10 => ?_) (fun yc10 => ?_)
            · simp -implicitDefEqProofs only [ent16, prm16, f16_t, e16, Tryd.underlying9, yc1, yc3, yc5, yc6, yc8, yc10, setA, setB, String.reduceBEq, Nat.reduceEqDiff, Int.reduceEq, Nat.reduceAdd, Nat.reduceLeDiff, Nat.reduceLT, Int.reduceLE, Int.reduceLT, Int.reduceToNat, Int.reduceNegSucc, Nat.reduceMul, Int.reduceAdd, Nat.reduceBEq, Nat.reduceSub, Nat.reducePow, Int.reduceBEq, reduceCtorEq, E0P, E0hand, E0hard, E0row, E0nw, E0aown, E0glob, ↓reduceIte]
              refine brB (fun yc11 => ?_) (fun yc11 => ?_)
              · simp -implicitDefEqProofs only [ent18, prm18, f18_t, yc1, yc3, yc5, yc6, yc8, yc10, yc11, setA, setB, String.reduceBEq, Nat.reduceEqDiff, Int.reduceEq, Nat.reduceAdd, Nat.reduceLeDiff, Nat.reduceLT, Int.reduceLE, Int.reduceLT, Int.reduceToNat, Int.reduceNegSucc, Nat.reduceMul, Int.reduceAdd, Nat.reduceBEq, Nat.reduceSub, Nat.reducePow, Int.reduceBEq, reduceCtorEq, E0P, E0hand, E0hard, E0row, E0nw, E0aown, E0glob, ↓reduceIte]
                refine brM (fun yc12 => ?_) (fun yr13 yc12 => ?_)
                · simp -implicitDefEqProofs only [yc12, yc1, yc3, yc5, yc6, yc8, yc10, yc11, e18, setA, setB, String.reduceBEq, Nat.reduceEqDiff, Int.reduceEq, Nat.reduceAdd, Nat.reduceLeDiff, Nat.reduceLT, Int.reduceLE, Int.reduceLT, Int.reduceToNat, Int.reduceNegSucc, Nat.reduceMul, Int.reduceAdd, Nat.reduceBEq, Nat.reduceSub, Nat.reducePow, Int.reduceBEq, reduceCtorEq, E0P, E0hand, E0hard, E0row, E0nw, E0aown, E0glob, ↓reduceIte]
                · simp -implicitDefEqProofs only [e18, ent18, prm18, f18_t, yc1, yc3, yc5, yc6, yc8, yc10, yc11, yc12, setA, setB, String.reduceBEq, Nat.reduceEqDiff, Int.reduceEq, Nat.reduceAdd, Nat.reduceLeDiff, Nat.reduceLT, Int.reduceLE, Int.reduceLT, Int.reduceToNat, Int.reduceNegSucc, Nat.reduceMul, Int.reduceAdd, Nat.reduceBEq, Nat.reduceSub, Nat.reducePow, Int.reduceBEq, reduceCtorEq, E0P, E0hand, E0hard, E0row, E0nw, E0aown, E0glob, ↓reduceIte]
                  refine brM (fun yc14 => ?_) (fun yr15 yc14 => ?_)
                  · simp -implicitDefEqProofs only [yc14, yc1, yc3, yc5, yc6, yc8, yc10, yc11, yc12, e18, setA, setB, String.reduceBEq, Nat.reduceEqDiff, Int.reduceEq, Nat.reduceAdd, Nat.reduceLeDiff, Nat.reduceLT, Int.reduceLE, Int.reduceLT, Int.reduceToNat, Int.reduceNegSucc, Nat.reduceMul, Int.reduceAdd, Nat.reduceBEq, Nat.reduceSub, Nat.reducePow, Int.reduceBEq, reduceCtorEq, E0P, E0hand, E0hard, E0row, E0nw, E0aown, E0glob, ↓reduceIte]
                  · simp -implicitDefEqProofs only [e18, Tryd.underlying4, yc1, yc3, yc5, yc6, yc8, yc10, yc11, yc12, yc14, setA, setB, String.reduceBEq, Nat.reduceEqDiff, Int.reduceEq, Nat.reduceAdd, Nat.reduceLeDiff, Nat.reduceLT, Int.reduceLE, Int.reduceLT, Int.reduceToNat, Int.reduceNegSucc, Nat.reduceMul, Int.reduceAdd, Nat.reduceBEq, Nat.reduceSub, Nat.reducePow, Int.reduceBEq, reduceCtorEq, E0P, E0hand, E0hard, E0row, E0nw, E0aown, E0glob, ↓reduceIte]
                    refine brB (fun yc16 => ?_) (fun yc16 => ?_)
                    · simp -implicitDefEqProofs only [ent16, prm16, f16_t, e16, ent18, prm18, f18_t, yc1, yc3, yc5, yc6, yc8, yc10, yc11, yc12, yc14, yc16, setA, setB, String.reduceBEq, Nat.reduceEqDiff, Int.reduceEq, Nat.reduceAdd, Nat.reduceLeDiff, Nat.reduceLT, Int.reduceLE, Int.reduceLT, Int.reduceToNat, Int.reduceNegSucc, Nat.reduceMul, Int.reduceAdd, Nat.reduceBEq, Nat.reduceSub, Nat.reducePow, Int.reduceBEq, reduceCtorEq, E0P, E0hand, E0hard, E0row, E0nw, E0aown, E0glob, ↓reduceIte]
                      refine brM (fun yc17 => ?_) (fun yr18 yc17 => ?_)
                      · simp -implicitDefEqProofs only [yc17, yc1, yc3, yc5, yc6, yc8, yc10, yc11, yc12, yc14, yc16, e18, setA, setB, String.reduceBEq, Nat.reduceEqDiff, Int.reduceEq, Nat.reduceAdd, Nat.reduceLeDiff, Nat.reduceLT, Int.reduceLE, Int.reduceLT, Int.reduceToNat, Int.reduceNegSucc, Nat.reduceMul, Int.reduceAdd, Nat.reduceBEq, Nat.reduceSub, Nat.reducePow, Int.reduceBEq, reduceCtorEq, E0P, E0hand, E0hard, E0row, E0nw, E0aown, E0glob, ↓reduceIte]
                      · simp -implicitDefEqProofs only [e18, yc1, yc3, yc5, yc6, yc8, yc10, yc11, yc12, yc14, yc16, yc17, setA, setB, String.reduceBEq, Nat.reduceEqDiff, Int.reduceEq, Nat.reduceAdd, Nat.reduceLeDiff, Nat.reduceLT, Int.reduceLE, Int.reduceLT, Int.reduceToNat, Int.reduceNegSucc, Nat.reduceMul, Int.reduceAdd, Nat.reduceBEq, Nat.reduceSub, Nat.reducePow, Int.reduceBEq, reduceCtorEq, E0P, E0hand, E0hard, E0row, E0nw, E0aown, E0glob, ↓reduceIte]
                        exact j8_5_t s (!yr18) _ (by rfl) (by rfl)
                    · simp -implicitDefEqProofs only [yc1, yc3, yc5, yc6, yc8, yc10, yc11, yc12, yc14, yc16, setA, setB, String.reduceBEq, Nat.reduceEqDiff, Int.reduceEq, Nat.reduceAdd, Nat.reduceLeDiff, Nat.reduceLT, Int.reduceLE, Int.reduceLT, Int.reduceToNat, Int.reduceNegSucc, Nat.reduceMul, Int.reduceAdd, Nat.reduceBEq, Nat.reduceSub, Nat.reducePow, Int.reduceBEq, reduceCtorEq, E0P, E0hand, E0hard, E0row, E0nw, E0aown, E0glob, ↓reduceIte]
                      exact j8_5_t s true _ (by rfl) (by rfl)
              · simp -implicitDefEqProofs only [yc1, yc3, yc5, yc6, yc8, yc10, yc11, setA, setB, String.reduceBEq, Nat.reduceEqDiff, Int.reduceEq, Nat.reduceAdd, Nat.reduceLeDiff, Nat.reduceLT, Int.reduceLE, Int.reduceLT, Int.reduceToNat, Int.reduceNegSucc, Nat.reduceMul, Int.reduceAdd, Nat.reduceBEq, Nat.reduceSub, Nat.reducePow, Int.reduceBEq, reduceCtorEq, E0P, E0hand, E0hard, E0row, E0nw, E0aown, E0glob, ↓reduceIte]
                exact j8_5_t s true _ (by rfl) (by rfl)
            · simp -implicitDefEqProofs only [yc1, yc3, yc5, yc6, yc8, yc10, setA, setB, String.reduceBEq, Nat.reduceEqDiff, Int.reduceEq, Nat.reduceAdd, Nat.reduceLeDiff, Nat.reduceLT, Int.reduceLE, Int.reduceLT, Int.reduceToNat, Int.reduceNegSucc, Nat.reduceMul, Int.reduceAdd, Nat.reduceBEq, Nat.reduceSub, Nat.reducePow, Int.reduceBEq, reduceCtorEq, E0P, E0hand, E0hard, E0row, E0nw, E0aown, E0glob, ↓reduceIte]
              exact j8_5_t s true _ (by rfl) (by rfl)
      · simp -implicitDefEqProofs only [yc1, yc3, yc5, setA, setB, String.reduceBEq, Nat.reduceEqDiff, Int.reduceEq, Nat.reduceAdd, Nat.reduceLeDiff, Nat.reduceLT, Int.reduceLE, Int.reduceLT, Int.reduceToNat, Int.reduceNegSucc, Nat.reduceMul, Int.reduceAdd, Nat.reduceBEq, Nat.reduceSub, Nat.reducePow, Int.reduceBEq, reduceCtorEq, E0P, E0hand, E0hard, E0row, E0nw, E0aown, E0glob, ↓reduceIte]
        exact j8_5_t s true _ (by rfl) (by rfl)
end
end Go.Proofs.YtcjkhdkfdnjhaaaDoor
