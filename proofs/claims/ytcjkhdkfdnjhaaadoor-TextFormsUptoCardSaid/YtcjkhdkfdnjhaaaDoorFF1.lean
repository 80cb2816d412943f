/- The Go functions as plain functions, and that the evaluator computes them. -/
import Derived.Test.YtcjkhdkfdnjhaaaDoorHd
set_option linter.all false
set_option maxRecDepth 100000
namespace Go.Proofs.YtcjkhdkfdnjhaaaDoor
open Go Go.Ab
section
variable {mm : Int}
/-! internal/stringslite.IndexByte -/
noncomputable def c43_0 : Code := bodyOf Tryd.f43
noncomputable def c43_1 : Code := cA c43_0
noncomputable def c43_2 : Code := cB c43_0
noncomputable def c43_3 : Code := cA c43_2
noncomputable def c43_4 : Code := cB c43_2
theorem c43_0_e : c43_0 = .seq c43_1 c43_2 := rfl
theorem c43_1_r (m : Nat) (st : St) : den (E0 mm) 43 m (callW (E0 mm)) itW c43_1 none st = regD (runOps (E0 mm) (callW (E0 mm)) (opsOf c43_1) (opsOf c43_1) st) := den_rg (by rfl)
theorem c43_2_e : c43_2 = .seq c43_3 c43_4 := rfl
theorem c43_3_r (m : Nat) (st : St) : den (E0 mm) 43 m (callW (E0 mm)) itW c43_3 none st = regD (runOps (E0 mm) (callW (E0 mm)) (opsOf c43_3) (opsOf c43_3) st) := den_rg (by rfl)
theorem c43_4_e : c43_4 = .ret := rfl
abbrev R43 := (Int)
def e43 : R43 → AV × Heap := fun x => (.v (.c (.d (.sc (.int .i64 x)))), [])
noncomputable def m43 (s : Bs) (c : UInt8) : Option R43 :=
  some (Lib.indexByte s c)
set_option maxRecDepth 100000 in
theorem f43_t (s : Bs) (c : UInt8) :
    callW (E0 mm) 43 [.c (.d (.sc (.string (S s)))), .c (.d (.sc (.int .u8 ((c).toNat : Int))))] [] = (m43 s c).map e43 := by
  rw [callW_run (body := c43_0) (res := [.tmp 4]) Tryd.func43 rfl rfl (by kernel_rfl)]
  simp -implicitDefEqProofs only [m43, slots2, c43_0_e, c43_1_r, (show opsOf c43_1 = _ :: _ from rfl), c43_2_e, c43_3_r, (show opsOf c43_3 = _ :: _ from rfl), entf54, exf54, ext54_t, c43_4_e, setA, setB, String.reduceBEq, Nat.reduceEqDiff, Int.reduceEq, Nat.reduceAdd, Nat.reduceLeDiff, Nat.reduceLT, Int.reduceLE, Int.reduceLT, Int.reduceToNat, Int.reduceNegSucc, Nat.reduceMul, Int.reduceAdd, Nat.reduceBEq, Nat.reduceSub, Nat.reducePow, Int.reduceBEq, reduceCtorEq, E0P, E0hand, E0hard, E0row, E0nw, E0aown, E0glob, ↓reduceIte]
  all_goals rfl
/-! strings.IndexByte -/
noncomputable def c32_0 : Code := bodyOf Tryd.f32
noncomputable def c32_1 : Code := cA c32_0
noncomputable def c32_2 : Code := cB c32_0
noncomputable def c32_3 : Code := cA c32_2
noncomputable def c32_4 : Code := cB c32_2
theorem c32_0_e : c32_0 = .seq c32_1 c32_2 := rfl
theorem c32_1_r (m : Nat) (st : St) : den (E0 mm) 32 m (callW (E0 mm)) itW c32_1 none st = regD (runOps (E0 mm) (callW (E0 mm)) (opsOf c32_1) (opsOf c32_1) st) := den_rg (by rfl)
theorem c32_2_e : c32_2 = .seq c32_3 c32_4 := rfl
theorem c32_3_r (m : Nat) (st : St) : den (E0 mm) 32 m (callW (E0 mm)) itW c32_3 none st = regD (runOps (E0 mm) (callW (E0 mm)) (opsOf c32_3) (opsOf c32_3) st) := den_rg (by rfl)
theorem c32_4_e : c32_4 = .ret := rfl
abbrev R32 := (Int)
def e32 : R32 → AV × Heap := fun x => (.v (.c (.d (.sc (.int .i64 x)))), [])
noncomputable def m32 (s : Bs) (c : UInt8) : Option R32 :=
  (m43 s c).bind fun yr2 =>
    some yr2
set_option maxRecDepth 100000 in
theorem f32_t (s : Bs) (c : UInt8) :
    callW (E0 mm) 32 [.c (.d (.sc (.string (S s)))), .c (.d (.sc (.int .u8 ((c).toNat : Int))))] [] = (m32 s c).map e32 := by
  rw [callW_run (body := c32_0) (res := [.tmp 4]) Tryd.func32 rfl rfl (by kernel_rfl)]
  simp -implicitDefEqProofs only [m32, slots2, c32_0_e, c32_1_r, (show opsOf c32_1 = _ :: _ from rfl), c32_2_e, c32_3_r, (show opsOf c32_3 = _ :: _ from rfl), ent43, prm43, f43_t, setA, setB, String.reduceBEq, Nat.reduceEqDiff, Int.reduceEq, Nat.reduceAdd, Nat.reduceLeDiff, Nat.reduceLT, Int.reduceLE, Int.reduceLT, Int.reduceToNat, Int.reduceNegSucc, Nat.reduceMul, Int.reduceAdd, Nat.reduceBEq, Nat.reduceSub, Nat.reducePow, Int.reduceBEq, reduceCtorEq, E0P, E0hand, E0hard, E0row, E0nw, E0aown, E0glob, ↓reduceIte]
  refine brM (fun yc1 => ?_) (fun yr2 yc1 => ?_)
  · simp -implicitDefEqProofs only [yc1, e43, setA, setB, String.reduceBEq, Nat.reduceEqDiff, Int.reduceEq, Nat.reduceAdd, Nat.reduceLeDiff, Nat.reduceLT, Int.reduceLE, Int.reduceLT, Int.reduceToNat, Int.reduceNegSucc, Nat.reduceMul, Int.reduceAdd, Nat.reduceBEq, Nat.reduceSub, Nat.reducePow, Int.reduceBEq, reduceCtorEq, E0P, E0hand, E0hard, E0row, E0nw, E0aown, E0glob, ↓reduceIte]
  · simp -implicitDefEqProofs only [e43, c32_4_e, yc1, setA, setB, String.reduceBEq, Nat.reduceEqDiff, Int.reduceEq, Nat.reduceAdd, Nat.reduceLeDiff, Nat.reduceLT, Int.reduceLE, Int.reduceLT, Int.reduceToNat, Int.reduceNegSucc, Nat.reduceMul, Int.reduceAdd, Nat.reduceBEq, Nat.reduceSub, Nat.reducePow, Int.reduceBEq, reduceCtorEq, E0P, E0hand, E0hard, E0row, E0nw, E0aown, E0glob, ↓reduceIte]
    all_goals rfl
/-! tollhouse/text.Token$1 -/
noncomputable def c31_0 : Code := bodyOf Tryd.f31
noncomputable def c31_1 : Code := cA c31_0
noncomputable def c31_2 : Code := cB c31_0
noncomputable def c31_3 : Code := cA c31_2
noncomputable def c31_4 : Code := cB c31_2
noncomputable def c31_5 : Code := cA c31_4
noncomputable def c31_6 : Code := cB c31_4
theorem c31_0_e : c31_0 = .seq c31_1 c31_2 := rfl
theorem c31_1_r (m : Nat) (st : St) : den (E0 mm) 31 m (callW (E0 mm)) itW c31_1 none st = regD (runOps (E0 mm) (callW (E0 mm)) (opsOf c31_1) (opsOf c31_1) st) := den_rg (by rfl)
theorem c31_2_e : c31_2 = .seq c31_3 c31_4 := rfl
theorem c31_3_r (m : Nat) (st : St) : den (E0 mm) 31 m (callW (E0 mm)) itW c31_3 none st = regD (runOps (E0 mm) (callW (E0 mm)) (opsOf c31_3) (opsOf c31_3) st) := den_rg (by rfl)
theorem c31_4_e : c31_4 = .seq c31_5 c31_6 := rfl
theorem c31_5_r (m : Nat) (st : St) : den (E0 mm) 31 m (callW (E0 mm)) itW c31_5 none st = regD (runOps (E0 mm) (callW (E0 mm)) (opsOf c31_5) (opsOf c31_5) st) := den_rg (by rfl)
theorem c31_6_e : c31_6 = .ret := rfl
abbrev R31 := (Bool)
def e31 : R31 → AV × Heap := fun x => (.v (.c (.d (.sc (.bool x)))), [])
noncomputable def m31 (c : UInt8) : Option R31 :=
  if (decide ((97 : UInt8) ≤ (c ||| (32 : UInt8)))) = true then
    if (decide ((c ||| (32 : UInt8)) ≤ (122 : UInt8))) = true then
      some true
    else
      if (decide ((48 : UInt8) ≤ c)) = true then
        if (decide (c ≤ (57 : UInt8))) = true then
          some true
        else
          (m32 ([33, 35, 36, 37, 38, 39, 42, 43, 45, 46, 94, 95, 96, 124, 126] : Bs) c).bind fun yr6 =>
            some (decide (0 ≤ yr6))
      else
        (m32 ([33, 35, 36, 37, 38, 39, 42, 43, 45, 46, 94, 95, 96, 124, 126] : Bs) c).bind fun yr8 =>
          some (decide (0 ≤ yr8))
  else
    if (decide ((48 : UInt8) ≤ c)) = true then
      if (decide (c ≤ (57 : UInt8))) = true then
        some true
      else
        (m32 ([33, 35, 36, 37, 38, 39, 42, 43, 45, 46, 94, 95, 96, 124, 126] : Bs) c).bind fun yr12 =>
          some (decide (0 ≤ yr12))
    else
      (m32 ([33, 35, 36, 37, 38, 39, 42, 43, 45, 46, 94, 95, 96, 124, 126] : Bs) c).bind fun yr14 =>
        some (decide (0 ≤ yr14))
set_option maxRecDepth 100000 in
theorem f31_t (c : UInt8) :
    callW (E0 mm) 31 [.c (.d (.sc (.int .u8 ((c).toNat : Int))))] [] = (m31 c).map e31 := by
  rw [callW_run (body := c31_0) (res := [.tmp 2]) Tryd.func31 rfl rfl (by kernel_rfl)]
  simp -implicitDefEqProofs only [m31, slots1, c31_0_e, c31_1_r, (show opsOf c31_1 = _ :: _ from rfl), c31_2_e, c31_3_r, (show opsOf c31_3 = _ :: _ from rfl), c31_4_e, c31_5_r, (show opsOf c31_5 = _ :: _ from rfl), setA, setB, String.reduceBEq, Nat.reduceEqDiff, Int.reduceEq, Nat.reduceAdd, Nat.reduceLeDiff, Nat.reduceLT, Int.reduceLE, Int.reduceLT, Int.reduceToNat, Int.reduceNegSucc, Nat.reduceMul, Int.reduceAdd, Nat.reduceBEq, Nat.reduceSub, Nat.reducePow, Int.reduceBEq, reduceCtorEq, E0P, E0hand, E0hard, E0row, E0nw, E0aown, E0glob, ↓reduceIte]
  refine brB (fun yc1 => ?_) (fun yc1 => ?_)
  · simp -implicitDefEqProofs only [yc1, setA, setB, String.reduceBEq, Nat.reduceEqDiff, Int.reduceEq, Nat.reduceAdd, Nat.reduceLeDiff, Nat.reduceLT, Int.reduceLE, Int.reduceLT, Int.reduceToNat, Int.reduceNegSucc, Nat.reduceMul, Int.reduceAdd, Nat.reduceBEq, Nat.reduceSub, Nat.reducePow, Int.reduceBEq, reduceCtorEq, E0P, E0hand, E0hard, E0row, E0nw, E0aown, E0glob, ↓reduceIte]
    refine brB (fun yc2 => ?_) (fun yc2 => ?_)
    · simp -implicitDefEqProofs only [c31_6_e, yc1, yc2, setA, setB, String.reduceBEq, Nat.reduceEqDiff, Int.reduceEq, Nat.reduceAdd, Nat.reduceLeDiff, Nat.reduceLT, Int.reduceLE, Int.reduceLT, Int.reduceToNat, Int.reduceNegSucc, Nat.reduceMul, Int.reduceAdd, Nat.reduceBEq, Nat.reduceSub, Nat.reducePow, Int.reduceBEq, reduceCtorEq, E0P, E0hand, E0hard, E0row, E0nw, E0aown, E0glob, ↓reduceIte]
      all_goals rfl
    · simp -implicitDefEqProofs only [yc1, yc2, setA, setB, String.reduceBEq, Nat.reduceEqDiff, Int.reduceEq, Nat.reduceAdd, Nat.reduceLeDiff, Nat.reduceLT, Int.reduceLE, Int.reduceLT, Int.reduceToNat, Int.reduceNegSucc, Nat.reduceMul, Int.reduceAdd, Nat.reduceBEq, Nat.reduceSub, Nat.reducePow, Int.reduceBEq, reduceCtorEq, E0P, E0hand, E0hard, E0row, E0nw, E0aown, E0glob, ↓reduceIte]
      refine brB (fun yc3 => ?_) (fun yc3 => ?_)
      · simp -implicitDefEqProofs only [yc1, yc2, yc3, setA, setB, String.reduceBEq, Nat.reduceEqDiff, Int.reduceEq, Nat.reduceAdd, Nat.reduceLeDiff, Nat.reduceLT, Int.reduceLE, Int.reduceLT, Int.reduceToNat, Int.reduceNegSucc, Nat.reduceMul, Int.reduceAdd, Nat.reduceBEq, Nat.reduceSub, Nat.reducePow, Int.reduceBEq, reduceCtorEq, E0P, E0hand, E0hard, E0row, E0nw, E0aown, E0glob, ↓reduceIte]
        refine brB (fun yc4 => ?_) (fun yc4 => ?_)
        · simp -implicitDefEqProofs only [c31_6_e, yc1, yc2, yc3, yc4, setA, setB, String.reduceBEq, Nat.reduceEqDiff, Int.reduceEq, Nat.reduceAdd, Nat.reduceLeDiff, Nat.reduceLT, Int.reduceLE, Int.reduceLT, Int.reduceToNat, Int.reduceNegSucc, Nat.reduceMul, Int.reduceAdd, Nat.reduceBEq, Nat.reduceSub, Nat.reducePow, Int.reduceBEq, reduceCtorEq, E0P, E0hand, E0hard, E0row, E0nw, E0aown, E0glob, ↓reduceIte]
          all_goals rfl
        · simp -implicitDefEqProofs only [ent32, prm32, (show callW (E0 mm) 32 [.c (.d (.sc (.string (S ([33, 35, 36, 37, 38, 39, 42, 43, 45, 46, 94, 95, 96, 124, 126] : Bs))))), .c (.d (.sc (.int .u8 ((c).toNat : Int))))] [] = _ from f32_t ([33, 35, 36, 37, 38, 39, 42, 43, 45, 46, 94, 95, 96, 124, 126] : Bs) c), yc1, yc2, yc3, yc4, setA, setB, String.reduceBEq, Nat.reduceEqDiff, Int.reduceEq, Nat.reduceAdd, Nat.reduceLeDiff, Nat.reduceLT, Int.reduceLE, Int.reduceLT, Int.reduceToNat, Int.reduceNegSucc, Nat.reduceMul, Int.reduceAdd, Nat.reduceBEq, Nat.reduceSub, Nat.reducePow, Int.reduceBEq, reduceCtorEq, E0P, E0hand, E0hard, E0row, E0nw, E0aown, E0glob, ↓reduceIte]
          refine brM (fun yc5 => ?_) (fun yr6 yc5 => ?_)
          · simp -implicitDefEqProofs only [yc5, yc1, yc2, yc3, yc4, e32, setA, setB, String.reduceBEq, Nat.reduceEqDiff, Int.reduceEq, Nat.reduceAdd, Nat.reduceLeDiff, Nat.reduceLT, Int.reduceLE, Int.reduceLT, Int.reduceToNat, Int.reduceNegSucc, Nat.reduceMul, Int.reduceAdd, Nat.reduceBEq, Nat.reduceSub, Nat.reducePow, Int.reduceBEq, reduceCtorEq, E0P, E0hand, E0hard, E0row, E0nw, E0aown, E0glob, ↓reduceIte]
          · simp -implicitDefEqProofs only [e32, c31_6_e, yc1, yc2, yc3, yc4, yc5, setA, setB, String.reduceBEq, Nat.reduceEqDiff, Int.reduceEq, Nat.reduceAdd, Nat.reduceLeDiff, Nat.reduceLT, Int.reduceLE, Int.reduceLT, Int.reduceToNat, Int.reduceNegSucc, Nat.reduceMul, Int.reduceAdd, Nat.reduceBEq, Nat.reduceSub, Nat.reducePow, Int.reduceBEq, reduceCtorEq, E0P, E0hand, E0hard, E0row, E0nw, E0aown, E0glob, ↓reduceIte]
            all_goals rfl
      · simp -implicitDefEqProofs only [ent32, prm32, (show callW (E0 mm) 32 [.c (.d (.sc (.string (S ([33, 35, 36, 37, 38, 39, 42, 43, 45, 46, 94, 95, 96, 124, 126] : Bs))))), .c (.d (.sc (.int .u8 ((c).toNat : Int))))] [] = _ from f32_t ([33, 35, 36, 37, 38, 39, 42, 43, 45, 46, 94, 95, 96, 124, 126] : Bs) c), yc1, yc2, yc3, setA, setB, String.reduceBEq, Nat.reduceEqDiff, Int.reduceEq, Nat.reduceAdd, Nat.reduceLeDiff, Nat.reduceLT, Int.reduceLE, Int.reduceLT, Int.reduceToNat, Int.reduceNegSucc, Nat.reduceMul, Int.reduceAdd, Nat.reduceBEq, Nat.reduceSub, Nat.reducePow, Int.reduceBEq, reduceCtorEq, E0P, E0hand, E0hard, E0row, E0nw, E0aown, E0glob, ↓reduceIte]
        refine brM (fun yc7 => ?_) (fun yr8 yc7 => ?_)
        · simp -implicitDefEqProofs only [yc7, yc1, yc2, yc3, e32, setA, setB, String.reduceBEq, Nat.reduceEqDiff, Int.reduceEq, Nat.reduceAdd, Nat.reduceLeDiff, Nat.reduceLT, Int.reduceLE, Int.reduceLT, Int.reduceToNat, Int.reduceNegSucc, Nat.reduceMul, Int.reduceAdd, Nat.reduceBEq, Nat.reduceSub, Nat.reducePow, Int.reduceBEq, reduceCtorEq, E0P, E0hand, E0hard, E0row, E0nw, E0aown, E0glob, ↓reduceIte]
        · simp -implicitDefEqProofs only [e32, c31_6_e, yc1, yc2, yc3, yc7, setA, setB, String.reduceBEq, Nat.reduceEqDiff, Int.reduceEq, Nat.reduceAdd, Nat.reduceLeDiff, Nat.reduceLT, Int.reduceLE, Int.reduceLT, Int.reduceToNat, Int.reduceNegSucc, Nat.reduceMul, Int.reduceAdd, Nat.reduceBEq, Nat.reduceSub, Nat.reducePow, Int.reduceBEq, reduceCtorEq, E0P, E0hand, E0hard, E0row, E0nw, E0aown, E0glob, ↓reduceIte]
          all_goals rfl
  · simp -implicitDefEqProofs only [yc1, setA, setB, String.reduceBEq, Nat.reduceEqDiff, Int.reduceEq, Nat.reduceAdd, Nat.reduceLeDiff, Nat.reduceLT, Int.reduceLE, Int.reduceLT, Int.reduceToNat, Int.reduceNegSucc, Nat.reduceMul, Int.reduceAdd, Nat.reduceBEq, Nat.reduceSub, Nat.reducePow, Int.reduceBEq, reduceCtorEq, E0P, E0hand, E0hard, E0row, E0nw, E0aown, E0glob, ↓reduceIte]
    refine brB (fun yc9 => ?_) (fun yc9 => ?_)
    · simp -implicitDefEqProofs only [yc1, yc9, setA, setB, String.reduceBEq, Nat.reduceEqDiff, Int.reduceEq, Nat.reduceAdd, Nat.reduceLeDiff, Nat.reduceLT, Int.reduceLE, Int.reduceLT, Int.reduceToNat, Int.reduceNegSucc, Nat.reduceMul, Int.reduceAdd, Nat.reduceBEq, Nat.reduceSub, Nat.reducePow, Int.reduceBEq, reduceCtorEq, E0P, E0hand, E0hard, E0row, E0nw, E0aown, E0glob, ↓reduceIte]
      refine brB (fun yc10 => ?_) (fun yc10 => ?_)
      · simp -implicitDefEqProofs only [c31_6_e, yc1, yc9, yc10, setA, setB, String.reduceBEq, Nat.reduceEqDiff, Int.reduceEq, Nat.reduceAdd, Nat.reduceLeDiff, Nat.reduceLT, Int.reduceLE, Int.reduceLT, Int.reduceToNat, Int.reduceNegSucc, Nat.reduceMul, Int.reduceAdd, Nat.reduceBEq, Nat.reduceSub, Nat.reducePow, Int.reduceBEq, reduceCtorEq, E0P, E0hand, E0hard, E0row, E0nw, E0aown, E0glob, ↓reduceIte]
        all_goals rfl
      · simp -implicitDefEqProofs only [ent32, prm32, (show callW (E0 mm) 32 [.c (.d (.sc (.string (S ([33, 35, 36, 37, 38, 39, 42, 43, 45, 46, 94, 95, 96, 124, 126] : Bs))))), .c (.d (.sc (.int .u8 ((c).toNat : Int))))] [] = _ from f32_t ([33, 35, 36, 37, 38, 39, 42, 43, 45, 46, 94, 95, 96, 124, 126] : Bs) c), yc1, yc9, yc10, setA, setB, String.reduceBEq, Nat.reduceEqDiff, Int.reduceEq, Nat.reduceAdd, Nat.reduceLeDiff, Nat.reduceLT, Int.reduceLE, Int.reduceLT, Int.reduceToNat, Int.reduceNegSucc, Nat.reduceMul, Int.reduceAdd, Nat.reduceBEq, Nat.reduceSub, Nat.reducePow, Int.reduceBEq, reduceCtorEq, E0P, E0hand, E0hard, E0row, E0nw, E0aown, E0glob, ↓reduceIte]
        refine brM (fun yc11 => ?_) (fun yr12 yc11 => ?_)
        · simp -implicitDefEqProofs only [yc11, yc1, yc9, yc10, e32, setA, setB, String.reduceBEq, Nat.reduceEqDiff, Int.reduceEq, Nat.reduceAdd, Nat.reduceLeDiff, Nat.reduceLT, Int.reduceLE, Int.reduceLT, Int.reduceToNat, Int.reduceNegSucc, Nat.reduceMul, Int.reduceAdd, Nat.reduceBEq, Nat.reduceSub, Nat.reducePow, Int.reduceBEq, reduceCtorEq, E0P, E0hand, E0hard, E0row, E0nw, E0aown, E0glob, ↓reduceIte]
        · simp -implicitDefEqProofs only [e32, c31_6_e, yc1, yc9, yc10, yc11, setA, setB, String.reduceBEq, Nat.reduceEqDiff, Int.reduceEq, Nat.reduceAdd, Nat.reduceLeDiff, Nat.reduceLT, Int.reduceLE, Int.reduceLT, Int.reduceToNat, Int.reduceNegSucc, Nat.reduceMul, Int.reduceAdd, Nat.reduceBEq, Nat.reduceSub, Nat.reducePow, Int.reduceBEq, reduceCtorEq, E0P, E0hand, E0hard, E0row, E0nw, E0aown, E0glob, ↓reduceIte]
          all_goals rfl
    · simp -implicitDefEqProofs only [ent32, prm32, (show callW (E0 mm) 32 [.c (.d (.sc (.string (S ([33, 35, 36, 37, 38, 39, 42, 43, 45, 46, 94, 95, 96, 124, 126] : Bs))))), .c (.d (.sc (.int .u8 ((c).toNat : Int))))] [] = _ from f32_t ([33, 35, 36, 37, 38, 39, 42, 43, 45, 46, 94, 95, 96, 124, 126] : Bs) c), yc1, yc9, setA, setB, String.reduceBEq, Nat.reduceEqDiff, Int.reduceEq, Nat.reduceAdd, Nat.reduceLeDiff, Nat.reduceLT, Int.reduceLE, Int.reduceLT, Int.reduceToNat, Int.reduceNegSucc, Nat.reduceMul, Int.reduceAdd, Nat.reduceBEq, Nat.reduceSub, Nat.reducePow, Int.reduceBEq, reduceCtorEq, E0P, E0hand, E0hard, E0row, E0nw, E0aown, E0glob, ↓reduceIte]
      refine brM (fun yc13 => ?_) (fun yr14 yc13 => ?_)
      · simp -implicitDefEqProofs only [yc13, yc1, yc9, e32, setA, setB, String.reduceBEq, Nat.reduceEqDiff, Int.reduceEq, Nat.reduceAdd, Nat.reduceLeDiff, Nat.reduceLT, Int.reduceLE, Int.reduceLT, Int.reduceToNat, Int.reduceNegSucc, Nat.reduceMul, Int.reduceAdd, Nat.reduceBEq, Nat.reduceSub, Nat.reducePow, Int.reduceBEq, reduceCtorEq, E0P, E0hand, E0hard, E0row, E0nw, E0aown, E0glob, ↓reduceIte]
      · simp -implicitDefEqProofs only [e32, c31_6_e, yc1, yc9, yc13, setA, setB, String.reduceBEq, Nat.reduceEqDiff, Int.reduceEq, Nat.reduceAdd, Nat.reduceLeDiff, Nat.reduceLT, Int.reduceLE, Int.reduceLT, Int.reduceToNat, Int.reduceNegSucc, Nat.reduceMul, Int.reduceAdd, Nat.reduceBEq, Nat.reduceSub, Nat.reducePow, Int.reduceBEq, reduceCtorEq, E0P, E0hand, E0hard, E0row, E0nw, E0aown, E0glob, ↓reduceIte]
        all_goals rfl
/-! tollhouse/text.all$1 -/
noncomputable def c42_0 : Code := bodyOf Tryd.f42
noncomputable def c42_1 : Code := cA c42_0
noncomputable def c42_2 : Code := cB c42_0
noncomputable def c42_3 : Code := cA c42_2
noncomputable def c42_4 : Code := cB c42_2
theorem c42_0_e : c42_0 = .seq c42_1 c42_2 := rfl
theorem c42_1_r (m : Nat) (st : St) : den (E0 mm) 42 m (callW (E0 mm)) itW c42_1 none st = regD (runOps (E0 mm) (callW (E0 mm)) (opsOf c42_1) (opsOf c42_1) st) := den_rg (by rfl)
theorem c42_2_e : c42_2 = .seq c42_3 c42_4 := rfl
theorem c42_3_r (m : Nat) (st : St) : den (E0 mm) 42 m (callW (E0 mm)) itW c42_3 none st = regD (runOps (E0 mm) (callW (E0 mm)) (opsOf c42_3) (opsOf c42_3) st) := den_rg (by rfl)
theorem c42_4_e : c42_4 = .ret := rfl
abbrev R42 := (Bool)
def e42 : R42 → AV × Heap := fun x => (.v (.c (.d (.sc (.bool x)))), [.cells [.d (.sc (.func (.func 31) #[] #[]))]])
noncomputable def m42 (c : UInt8) : Option R42 :=
  (m31 c).bind fun yr2 =>
    some (!yr2)
set_option maxRecDepth 100000 in
theorem f42_t (c : UInt8) :
    callW (E0 mm) 42 [.c (.d (.sc (.int .u8 ((c).toNat : Int)))), .c (.ptr 0 0)] [.cells [.d (.sc (.func (.func 31) #[] #[]))]] = (m42 c).map e42 := by
  rw [callW_run (body := c42_0) (res := [.tmp 3]) Tryd.func42 rfl rfl (by kernel_rfl)]
  simp -implicitDefEqProofs only [m42, slots2, c42_0_e, c42_1_r, (show opsOf c42_1 = _ :: _ from rfl), c42_2_e, c42_3_r, (show opsOf c42_3 = _ :: _ from rfl), sz37, ag37, ent31, prm31, f31_t, setA, setB, String.reduceBEq, Nat.reduceEqDiff, Int.reduceEq, Nat.reduceAdd, Nat.reduceLeDiff, Nat.reduceLT, Int.reduceLE, Int.reduceLT, Int.reduceToNat, Int.reduceNegSucc, Nat.reduceMul, Int.reduceAdd, Nat.reduceBEq, Nat.reduceSub, Nat.reducePow, Int.reduceBEq, reduceCtorEq, E0P, E0hand, E0hard, E0row, E0nw, E0aown, E0glob, ↓reduceIte]
  refine brM (fun yc1 => ?_) (fun yr2 yc1 => ?_)
  · simp -implicitDefEqProofs only [yc1, e31, setA, setB, String.reduceBEq, Nat.reduceEqDiff, Int.reduceEq, Nat.reduceAdd, Nat.reduceLeDiff, Nat.reduceLT, Int.reduceLE, Int.reduceLT, Int.reduceToNat, Int.reduceNegSucc, Nat.reduceMul, Int.reduceAdd, Nat.reduceBEq, Nat.reduceSub, Nat.reducePow, Int.reduceBEq, reduceCtorEq, E0P, E0hand, E0hard, E0row, E0nw, E0aown, E0glob, ↓reduceIte]
  · simp -implicitDefEqProofs only [e31, c42_4_e, yc1, setA, setB, String.reduceBEq, Nat.reduceEqDiff, Int.reduceEq, Nat.reduceAdd, Nat.reduceLeDiff, Nat.reduceLT, Int.reduceLE, Int.reduceLT, Int.reduceToNat, Int.reduceNegSucc, Nat.reduceMul, Int.reduceAdd, Nat.reduceBEq, Nat.reduceSub, Nat.reducePow, Int.reduceBEq, reduceCtorEq, E0P, E0hand, E0hard, E0row, E0nw, E0aown, E0glob, ↓reduceIte]
    all_goals rfl
/-! slices.IndexFunc[[]byte,byte] -/
noncomputable def c53_0 : Code := bodyOf Tryd.f53
noncomputable def c53_1 : Code := cA c53_0
noncomputable def c53_2 : Code := cB c53_0
noncomputable def c53_3 : Code := cA c53_2
noncomputable def c53_4 : Code := cA c53_3
noncomputable def c53_5 : Code := cB c53_3
noncomputable def c53_6 : Code := cA c53_5
noncomputable def c53_7 : Code := cA c53_6
noncomputable def c53_8 : Code := cA c53_7
noncomputable def c53_9 : Code := cB c53_7
noncomputable def c53_10 : Code := cA c53_9
noncomputable def c53_11 : Code := cA c53_10
noncomputable def c53_12 : Code := cB c53_10
noncomputable def c53_13 : Code := cB c53_9
noncomputable def c53_14 : Code := cA c53_13
noncomputable def c53_15 : Code := cA c53_14
noncomputable def c53_16 : Code := cA c53_15
noncomputable def c53_17 : Code := cB c53_15
noncomputable def c53_18 : Code := cA c53_17
noncomputable def c53_19 : Code := cB c53_17
noncomputable def c53_20 : Code := cA c53_19
noncomputable def c53_21 : Code := cA c53_20
noncomputable def c53_22 : Code := cB c53_20
noncomputable def c53_23 : Code := cB c53_19
noncomputable def c53_24 : Code := cB c53_13
noncomputable def c53_25 : Code := cB c53_2
noncomputable def c53_26 : Code := cA c53_25
noncomputable def c53_27 : Code := cB c53_25
theorem c53_0_e : c53_0 = .seq c53_1 c53_2 := rfl
theorem c53_1_r (m : Nat) (st : St) : den (E0 mm) 53 m (callW (E0 mm)) itW c53_1 none st = regD (runOps (E0 mm) (callW (E0 mm)) (opsOf c53_1) (opsOf c53_1) st) := den_rg (by rfl)
theorem c53_2_e : c53_2 = .seq c53_3 c53_25 := rfl
theorem c53_3_e : c53_3 = .seq c53_4 c53_5 := rfl
theorem c53_4_r (m : Nat) (st : St) : den (E0 mm) 53 m (callW (E0 mm)) itW c53_4 none st = regD (runOps (E0 mm) (callW (E0 mm)) (opsOf c53_4) (opsOf c53_4) st) := den_rg (by rfl)
theorem c53_5_e : c53_5 = .block 0 c53_6 := rfl
theorem c53_6_l (m : Nat) (st : St) : den (E0 mm) 53 m (callW (E0 mm)) itW c53_6 none st = loopD itW (loopF (E0 mm) 53 m (callW (E0 mm)) itW c53_7 [(0, .keep), (1, .keep), (7, .keep), (8, .keep)]) (canon m [(0, .keep), (1, .keep), (7, .keep), (8, .keep)] st) := rfl
theorem c53_7_e : c53_7 = .seq c53_8 c53_9 := rfl
theorem c53_8_r (m : Nat) (st : St) : den (E0 mm) 53 m (callW (E0 mm)) itW c53_8 none st = regD (runOps (E0 mm) (callW (E0 mm)) (opsOf c53_8) (opsOf c53_8) st) := den_rg (by rfl)
theorem c53_9_e : c53_9 = .seq c53_10 c53_13 := rfl
theorem c53_11_e : c53_11 = .skip := rfl
theorem c53_12_e : c53_12 = .exit 0 := rfl
theorem c53_13_e : c53_13 = .seq c53_14 c53_24 := rfl
theorem c53_14_e : c53_14 = .block 1 c53_15 := rfl
theorem c53_15_e : c53_15 = .seq c53_16 c53_17 := rfl
theorem c53_16_r (m : Nat) (st : St) : den (E0 mm) 53 m (callW (E0 mm)) itW c53_16 none st = regD (runOps (E0 mm) (callW (E0 mm)) (opsOf c53_16) (opsOf c53_16) st) := den_rg (by rfl)
theorem c53_17_e : c53_17 = .seq c53_18 c53_19 := rfl
theorem c53_18_r (m : Nat) (st : St) : den (E0 mm) 53 m (callW (E0 mm)) itW c53_18 none st = regD (runOps (E0 mm) (callW (E0 mm)) (opsOf c53_18) (opsOf c53_18) st) := den_rg (by rfl)
theorem c53_20_e : c53_20 = .seq c53_21 c53_22 := rfl
theorem c53_21_r (m : Nat) (st : St) : den (E0 mm) 53 m (callW (E0 mm)) itW c53_21 none st = regD (runOps (E0 mm) (callW (E0 mm)) (opsOf c53_21) (opsOf c53_21) st) := den_rg (by rfl)
theorem c53_22_e : c53_22 = .ret := rfl
theorem c53_23_e : c53_23 = .skip := rfl
theorem c53_24_r (m : Nat) (st : St) : den (E0 mm) 53 m (callW (E0 mm)) itW c53_24 none st = regD (runOps (E0 mm) (callW (E0 mm)) (opsOf c53_24) (opsOf c53_24) st) := den_rg (by rfl)
theorem c53_25_e : c53_25 = .seq c53_26 c53_27 := rfl
theorem c53_26_r (m : Nat) (st : St) : den (E0 mm) 53 m (callW (E0 mm)) itW c53_26 none st = regD (runOps (E0 mm) (callW (E0 mm)) (opsOf c53_26) (opsOf c53_26) st) := den_rg (by rfl)
theorem c53_27_e : c53_27 = .ret := rfl
abbrev R53 := (Int)
def e53 : R53 → AV × Heap := fun x => (.v (.c (.d (.sc (.int .i64 x)))), [.cells [.d (.sc (.func (.func 31) #[] #[]))]])
noncomputable def K53_6 : Option (Ex × St) → Option (AV × Heap) := fun r => bodyD (E0 mm) [.tmp 4] 1 false (seqD (E0 mm) 53 1 (callW (E0 mm)) itW c53_25 (blockD 0 (r)))
def en53_6 : Bool × List UInt8 × Int × Int → X := fun x => (none, [.v (.c (.d (.lst x.1 (enL enB x.2.1)))), .v (.c (.fn 42 [(0, 0)])), .v (.c (.d (.sc (.int .i64 x.2.2.1)))), .v (.c (.d (.sc (.int .i64 x.2.2.2))))], [.cells [.d (.sc (.func (.func 31) #[] #[]))]])
noncomputable def j53_25  : Option R53 :=
  some (-1 : Int)
set_option maxRecDepth 100000 in
theorem j53_25_t   (sl : Nat → AV)  :
    bodyD (E0 mm) [.tmp 4] 1 false (den (E0 mm) 53 1 (callW (E0 mm)) itW c53_25 none ⟨sl, [.cells [.d (.sc (.func (.func 31) #[] #[]))]]⟩) = (j53_25).map e53 := by
  simp -implicitDefEqProofs only [j53_25, c53_25_e, c53_26_r, (show opsOf c53_26 = _ :: _ from rfl), c53_27_e, setA, setB, String.reduceBEq, Nat.reduceEqDiff, Int.reduceEq, Nat.reduceAdd, Nat.reduceLeDiff, Nat.reduceLT, Int.reduceLE, Int.reduceLT, Int.reduceToNat, Int.reduceNegSucc, Nat.reduceMul, Int.reduceAdd, Nat.reduceBEq, Nat.reduceSub, Nat.reducePow, Int.reduceBEq, reduceCtorEq, E0P, E0hand, E0hard, E0row, E0nw, E0aown, E0glob, ↓reduceIte]
  all_goals rfl
noncomputable def s53_6 (s0_0 : Bool) (s0_1 : List UInt8) (t7 : Int) (t8 : Int) : Option ((Bool × List UInt8 × Int × Int) ⊕ R53) :=
  if (decide (t8 < t7)) = true then
    if 0 ≤ t8 ∧ t8 < (s0_1.length : Int) then
      (m42 (s0_1.getD t8.toNat default)).bind fun yr5 =>
        if yr5 = true then
          some (.inr t8)
        else
          some (.inl (s0_0, s0_1, t7, (w64 (t8 + 1))))
    else none
  else
    (j53_25).map .inr
set_option maxRecDepth 100000 in
theorem s53_6_t (s0_0 : Bool) (s0_1 : List UInt8) (t7 : Int) (t8 : Int) :
    stepE (K53_6 (mm := mm)) (loopF (E0 mm) 53 1 (callW (E0 mm)) itW c53_7 [(0, .keep), (1, .keep), (7, .keep), (8, .keep)] (none, [.v (.c (.d (.lst s0_0 (enL enB s0_1)))), .v (.c (.fn 42 [(0, 0)])), .v (.c (.d (.sc (.int .i64 t7)))), .v (.c (.d (.sc (.int .i64 t8))))], [.cells [.d (.sc (.func (.func 31) #[] #[]))]])) = (s53_6 s0_0 s0_1 t7 t8).map (sm en53_6 e53) := by
  simp -implicitDefEqProofs only [s53_6, loopF_eq, c53_7_e, c53_8_r, (show opsOf c53_8 = _ :: _ from rfl), c53_9_e, (show c53_10 = Code.cond _ c53_11 c53_12 from rfl), setA, setB, String.reduceBEq, Nat.reduceEqDiff, Int.reduceEq, Nat.reduceAdd, Nat.reduceLeDiff, Nat.reduceLT, Int.reduceLE, Int.reduceLT, Int.reduceToNat, Int.reduceNegSucc, Nat.reduceMul, Int.reduceAdd, Nat.reduceBEq, Nat.reduceSub, Nat.reducePow, Int.reduceBEq, reduceCtorEq, E0P, E0hand, E0hard, E0row, E0nw, E0aown, E0glob, ↓reduceIte]
  refine brB (fun yc1 => ?_) (fun yc1 => ?_)
  · simp -implicitDefEqProofs only [c53_11_e, c53_13_e, c53_14_e, c53_15_e, c53_16_r, (show opsOf c53_16 = _ :: _ from rfl), c53_17_e, c53_18_r, (show opsOf c53_18 = _ :: _ from rfl), Tryd.underlying33, sz5, enB_a, yc1, setA, setB, String.reduceBEq, Nat.reduceEqDiff, Int.reduceEq, Nat.reduceAdd, Nat.reduceLeDiff, Nat.reduceLT, Int.reduceLE, Int.reduceLT, Int.reduceToNat, Int.reduceNegSucc, Nat.reduceMul, Int.reduceAdd, Nat.reduceBEq, Nat.reduceSub, Nat.reducePow, Int.reduceBEq, reduceCtorEq, E0P, E0hand, E0hard, E0row, E0nw, E0aown, E0glob, ↓reduceIte]
    refine brP (fun yc2 => ?_) (fun yc2 => ?_)
    · have yd3 : t8.toNat < s0_1.length := by omega
      simp -implicitDefEqProofs only [(enL_get enB s0_1 t8.toNat yd3), enB_e, sz5, ag5, ent42, prm42, f42_t, yc1, yc2, yd3, setA, setB, String.reduceBEq, Nat.reduceEqDiff, Int.reduceEq, Nat.reduceAdd, Nat.reduceLeDiff, Nat.reduceLT, Int.reduceLE, Int.reduceLT, Int.reduceToNat, Int.reduceNegSucc, Nat.reduceMul, Int.reduceAdd, Nat.reduceBEq, Nat.reduceSub, Nat.reducePow, Int.reduceBEq, reduceCtorEq, E0P, E0hand, E0hard, E0row, E0nw, E0aown, E0glob, ↓reduceIte]
      refine brM (fun yc4 => ?_) (fun yr5 yc4 => ?_)
      · simp -implicitDefEqProofs only [yc4, yc1, yc2, yd3, e42, setA, setB, String.reduceBEq, Nat.reduceEqDiff, Int.reduceEq, Nat.reduceAdd, Nat.reduceLeDiff, Nat.reduceLT, Int.reduceLE, Int.reduceLT, Int.reduceToNat, Int.reduceNegSucc, Nat.reduceMul, Int.reduceAdd, Nat.reduceBEq, Nat.reduceSub, Nat.reducePow, Int.reduceBEq, reduceCtorEq, E0P, E0hand, E0hard, E0row, E0nw, E0aown, E0glob, ↓reduceIte]
      · simp -implicitDefEqProofs only [e42, (show c53_19 = Code.cond _ c53_20 c53_23 from rfl), yc1, yc2, yd3, yc4, setA, setB, String.reduceBEq, Nat.reduceEqDiff, Int.reduceEq, Nat.reduceAdd, Nat.reduceLeDiff, Nat.reduceLT, Int.reduceLE, Int.reduceLT, Int.reduceToNat, Int.reduceNegSucc, Nat.reduceMul, Int.reduceAdd, Nat.reduceBEq, Nat.reduceSub, Nat.reducePow, Int.reduceBEq, reduceCtorEq, E0P, E0hand, E0hard, E0row, E0nw, E0aown, E0glob, ↓reduceIte]
        refine brB (fun yc6 => ?_) (fun yc6 => ?_)
        · simp -implicitDefEqProofs only [c53_20_e, c53_21_r, (show opsOf c53_21 = _ :: _ from rfl), c53_22_e, K53_6, yc1, yc2, yd3, yc4, yc6, setA, setB, String.reduceBEq, Nat.reduceEqDiff, Int.reduceEq, Nat.reduceAdd, Nat.reduceLeDiff, Nat.reduceLT, Int.reduceLE, Int.reduceLT, Int.reduceToNat, Int.reduceNegSucc, Nat.reduceMul, Int.reduceAdd, Nat.reduceBEq, Nat.reduceSub, Nat.reducePow, Int.reduceBEq, reduceCtorEq, E0P, E0hand, E0hard, E0row, E0nw, E0aown, E0glob, ↓reduceIte]
          all_goals rfl
        · simp -implicitDefEqProofs only [c53_23_e, c53_24_r, (show opsOf c53_24 = _ :: _ from rfl), yc1, yc2, yd3, yc4, yc6, setA, setB, String.reduceBEq, Nat.reduceEqDiff, Int.reduceEq, Nat.reduceAdd, Nat.reduceLeDiff, Nat.reduceLT, Int.reduceLE, Int.reduceLT, Int.reduceToNat, Int.reduceNegSucc, Nat.reduceMul, Int.reduceAdd, Nat.reduceBEq, Nat.reduceSub, Nat.reducePow, Int.reduceBEq, reduceCtorEq, E0P, E0hand, E0hard, E0row, E0nw, E0aown, E0glob, ↓reduceIte]
          all_goals rfl
    · simp -implicitDefEqProofs only [yc1, yc2, setA, setB, String.reduceBEq, Nat.reduceEqDiff, Int.reduceEq, Nat.reduceAdd, Nat.reduceLeDiff, Nat.reduceLT, Int.reduceLE, Int.reduceLT, Int.reduceToNat, Int.reduceNegSucc, Nat.reduceMul, Int.reduceAdd, Nat.reduceBEq, Nat.reduceSub, Nat.reducePow, Int.reduceBEq, reduceCtorEq, E0P, E0hand, E0hard, E0row, E0nw, E0aown, E0glob, ↓reduceIte]
  · simp -implicitDefEqProofs only [c53_12_e, K53_6, yc1, setA, setB, String.reduceBEq, Nat.reduceEqDiff, Int.reduceEq, Nat.reduceAdd, Nat.reduceLeDiff, Nat.reduceLT, Int.reduceLE, Int.reduceLT, Int.reduceToNat, Int.reduceNegSucc, Nat.reduceMul, Int.reduceAdd, Nat.reduceBEq, Nat.reduceSub, Nat.reducePow, Int.reduceBEq, reduceCtorEq, E0P, E0hand, E0hard, E0row, E0nw, E0aown, E0glob, ↓reduceIte]
    exact mi (j53_25_t _)
noncomputable def l53_6 (s0_0 : Bool) (s0_1 : List UInt8) (t7 : Int) (t8 : Int) : Option R53 := iter (fun x : Bool × List UInt8 × Int × Int => s53_6 x.1 x.2.1 x.2.2.1 x.2.2.2) (s0_0, s0_1, t7, t8)
theorem l53_6_t (s0_0 : Bool) (s0_1 : List UInt8) (t7 : Int) (t8 : Int) : bodyD (E0 mm) [.tmp 4] 1 false (seqD (E0 mm) 53 1 (callW (E0 mm)) itW c53_25 (blockD 0 (itW (loopF (E0 mm) 53 1 (callW (E0 mm)) itW c53_7 [(0, .keep), (1, .keep), (7, .keep), (8, .keep)]) (none, [.v (.c (.d (.lst s0_0 (enL enB s0_1)))), .v (.c (.fn 42 [(0, 0)])), .v (.c (.d (.sc (.int .i64 t7)))), .v (.c (.d (.sc (.int .i64 t8))))], [.cells [.d (.sc (.func (.func 31) #[] #[]))]])))) = (l53_6 s0_0 s0_1 t7 t8).map e53 :=
  it_sim (K := (K53_6 (mm := mm))) rfl (enc := en53_6) (fun x => s53_6_t x.1 x.2.1 x.2.2.1 x.2.2.2) (s0_0, s0_1, t7, t8)
noncomputable def m53 (s_0 : Bool) (s_1 : List UInt8) : Option R53 :=
  l53_6 s_0 s_1 (s_1.length : Int) (0 : Int)
set_option maxRecDepth 100000 in
theorem f53_t (s_0 : Bool) (s_1 : List UInt8) :
    callW (E0 mm) 53 [.c (.d (.lst s_0 (enL enB s_1))), .c (.fn 42 [(0, 0)])] [.cells [.d (.sc (.func (.func 31) #[] #[]))]] = (m53 s_0 s_1).map e53 := by
  rw [callW_run (body := c53_0) (res := [.tmp 4]) Tryd.func53 rfl rfl (by kernel_rfl)]
  simp -implicitDefEqProofs only [m53, slots2, c53_0_e, c53_1_r, (show opsOf c53_1 = _ :: _ from rfl), c53_2_e, c53_3_e, c53_4_r, (show opsOf c53_4 = _ :: _ from rfl), Tryd.underlying33, c53_5_e, c53_6_l, setA, setB, String.reduceBEq, Nat.reduceEqDiff, Int.reduceEq, Nat.reduceAdd, Nat.reduceLeDiff, Nat.reduceLT, Int.reduceLE, Int.reduceLT, Int.reduceToNat, Int.reduceNegSucc, Nat.reduceMul, Int.reduceAdd, Nat.reduceBEq, Nat.reduceSub, Nat.reducePow, Int.reduceBEq, reduceCtorEq, E0P, E0hand, E0hard, E0row, E0nw, E0aown, E0glob, ↓reduceIte]
  exact l53_6_t s_0 s_1 (s_1.length : Int) (0 : Int)
/-! slices.ContainsFunc[[]byte,byte] -/
noncomputable def c41_0 : Code := bodyOf Tryd.f41
noncomputable def c41_1 : Code := cA c41_0
noncomputable def c41_2 : Code := cB c41_0
noncomputable def c41_3 : Code := cA c41_2
noncomputable def c41_4 : Code := cB c41_2
theorem c41_0_e : c41_0 = .seq c41_1 c41_2 := rfl
theorem c41_1_r (m : Nat) (st : St) : den (E0 mm) 41 m (callW (E0 mm)) itW c41_1 none st = regD (runOps (E0 mm) (callW (E0 mm)) (opsOf c41_1) (opsOf c41_1) st) := den_rg (by rfl)
theorem c41_2_e : c41_2 = .seq c41_3 c41_4 := rfl
theorem c41_3_r (m : Nat) (st : St) : den (E0 mm) 41 m (callW (E0 mm)) itW c41_3 none st = regD (runOps (E0 mm) (callW (E0 mm)) (opsOf c41_3) (opsOf c41_3) st) := den_rg (by rfl)
theorem c41_4_e : c41_4 = .ret := rfl
abbrev R41 := (Bool)
def e41 : R41 → AV × Heap := fun x => (.v (.c (.d (.sc (.bool x)))), [.cells [.d (.sc (.func (.func 31) #[] #[]))]])
noncomputable def m41 (s_0 : Bool) (s_1 : List UInt8) : Option R41 :=
  (m53 s_0 s_1).bind fun yr2 =>
    some (decide (0 ≤ yr2))
set_option maxRecDepth 100000 in
theorem f41_t (s_0 : Bool) (s_1 : List UInt8) :
    callW (E0 mm) 41 [.c (.d (.lst s_0 (enL enB s_1))), .c (.fn 42 [(0, 0)])] [.cells [.d (.sc (.func (.func 31) #[] #[]))]] = (m41 s_0 s_1).map e41 := by
  rw [callW_run (body := c41_0) (res := [.tmp 4]) Tryd.func41 rfl rfl (by kernel_rfl)]
  simp -implicitDefEqProofs only [m41, slots2, c41_0_e, c41_1_r, (show opsOf c41_1 = _ :: _ from rfl), c41_2_e, c41_3_r, (show opsOf c41_3 = _ :: _ from rfl), ent53, prm53, f53_t, setA, setB, String.reduceBEq, Nat.reduceEqDiff, Int.reduceEq, Nat.reduceAdd, Nat.reduceLeDiff, Nat.reduceLT, Int.reduceLE, Int.reduceLT, Int.reduceToNat, Int.reduceNegSucc, Nat.reduceMul, Int.reduceAdd, Nat.reduceBEq, Nat.reduceSub, Nat.reducePow, Int.reduceBEq, reduceCtorEq, E0P, E0hand, E0hard, E0row, E0nw, E0aown, E0glob, ↓reduceIte]
  refine brM (fun yc1 => ?_) (fun yr2 yc1 => ?_)
  · simp -implicitDefEqProofs only [yc1, e53, setA, setB, String.reduceBEq, Nat.reduceEqDiff, Int.reduceEq, Nat.reduceAdd, Nat.reduceLeDiff, Nat.reduceLT, Int.reduceLE, Int.reduceLT, Int.reduceToNat, Int.reduceNegSucc, Nat.reduceMul, Int.reduceAdd, Nat.reduceBEq, Nat.reduceSub, Nat.reducePow, Int.reduceBEq, reduceCtorEq, E0P, E0hand, E0hard, E0row, E0nw, E0aown, E0glob, ↓reduceIte]
  · simp -implicitDefEqProofs only [e53, c41_4_e, yc1, setA, setB, String.reduceBEq, Nat.reduceEqDiff, Int.reduceEq, Nat.reduceAdd, Nat.reduceLeDiff, Nat.reduceLT, Int.reduceLE, Int.reduceLT, Int.reduceToNat, Int.reduceNegSucc, Nat.reduceMul, Int.reduceAdd, Nat.reduceBEq, Nat.reduceSub, Nat.reducePow, Int.reduceBEq, reduceCtorEq, E0P, E0hand, E0hard, E0row, E0nw, E0aown, E0glob, ↓reduceIte]
    all_goals rfl
/-! tollhouse/text.all -/
noncomputable def c30_0 : Code := bodyOf Tryd.f30
noncomputable def c30_1 : Code := cA c30_0
noncomputable def c30_2 : Code := cB c30_0
noncomputable def c30_3 : Code := cA c30_2
noncomputable def c30_4 : Code := cB c30_2
theorem c30_0_e : c30_0 = .seq c30_1 c30_2 := rfl
theorem c30_1_r (m : Nat) (st : St) : den (E0 mm) 30 m (callW (E0 mm)) itW c30_1 none st = regD (runOps (E0 mm) (callW (E0 mm)) (opsOf c30_1) (opsOf c30_1) st) := den_rg (by rfl)
theorem c30_2_e : c30_2 = .seq c30_3 c30_4 := rfl
theorem c30_3_r (m : Nat) (st : St) : den (E0 mm) 30 m (callW (E0 mm)) itW c30_3 none st = regD (runOps (E0 mm) (callW (E0 mm)) (opsOf c30_3) (opsOf c30_3) st) := den_rg (by rfl)
theorem c30_4_e : c30_4 = .ret := rfl
abbrev R30 := (Bool)
def e30 : R30 → AV × Heap := fun x => (.v (.c (.d (.sc (.bool x)))), [])
noncomputable def m30 (s : Bs) : Option R30 :=
  (m41 false s).bind fun yr2 =>
    some (!yr2)
set_option maxRecDepth 100000 in
theorem f30_t (s : Bs) :
    callW (E0 mm) 30 [.c (.d (.sc (.string (S s)))), .c (.d (.sc (.func (.func 31) #[] #[])))] [] = (m30 s).map e30 := by
  rw [callW_run (body := c30_0) (res := [.tmp 4]) Tryd.func30 rfl rfl (by kernel_rfl)]
  simp -implicitDefEqProofs only [m30, slots2, c30_0_e, c30_1_r, (show opsOf c30_1 = _ :: _ from rfl), c30_2_e, c30_3_r, (show opsOf c30_3 = _ :: _ from rfl), Tryd.underlying9, Tryd.underlying33, Tryd.underlying5, ent41, prm41, (show callW (E0 mm) 41 [.c (.d (.lst false (enL enB s))), .c (.fn 42 [(0, 0)])] [.cells [.d (.sc (.func (.func 31) #[] #[]))]] = _ from f41_t false s), setA, setB, String.reduceBEq, Nat.reduceEqDiff, Int.reduceEq, Nat.reduceAdd, Nat.reduceLeDiff, Nat.reduceLT, Int.reduceLE, Int.reduceLT, Int.reduceToNat, Int.reduceNegSucc, Nat.reduceMul, Int.reduceAdd, Nat.reduceBEq, Nat.reduceSub, Nat.reducePow, Int.reduceBEq, reduceCtorEq, E0P, E0hand, E0hard, E0row, E0nw, E0aown, E0glob, ↓reduceIte]
  refine brM (fun yc1 => ?_) (fun yr2 yc1 => ?_)
  · simp -implicitDefEqProofs only [yc1, e41, setA, setB, String.reduceBEq, Nat.reduceEqDiff, Int.reduceEq, Nat.reduceAdd, Nat.reduceLeDiff, Nat.reduceLT, Int.reduceLE, Int.reduceLT, Int.reduceToNat, Int.reduceNegSucc, Nat.reduceMul, Int.reduceAdd, Nat.reduceBEq, Nat.reduceSub, Nat.reducePow, Int.reduceBEq, reduceCtorEq, E0P, E0hand, E0hard, E0row, E0nw, E0aown, E0glob, ↓reduceIte]
  · simp -implicitDefEqProofs only [e41, c30_4_e, yc1, setA, setB, String.reduceBEq, Nat.reduceEqDiff, Int.reduceEq, Nat.reduceAdd, Nat.reduceLeDiff, Nat.reduceLT, Int.reduceLE, Int.reduceLT, Int.reduceToNat, Int.reduceNegSucc, Nat.reduceMul, Int.reduceAdd, Nat.reduceBEq, Nat.reduceSub, Nat.reducePow, Int.reduceBEq, reduceCtorEq, E0P, E0hand, E0hard, E0row, E0nw, E0aown, E0glob, ↓reduceIte]
    all_goals rfl
/-! tollhouse/text.Token -/
noncomputable def c10_0 : Code := bodyOf Tryd.f10
noncomputable def c10_1 : Code := cA c10_0
noncomputable def c10_2 : Code := cB c10_0
noncomputable def c10_3 : Code := cA c10_2
noncomputable def c10_4 : Code := cB c10_2
theorem c10_0_e : c10_0 = .seq c10_1 c10_2 := rfl
theorem c10_1_r (m : Nat) (st : St) : den (E0 mm) 10 m (callW (E0 mm)) itW c10_1 none st = regD (runOps (E0 mm) (callW (E0 mm)) (opsOf c10_1) (opsOf c10_1) st) := den_rg (by rfl)
theorem c10_2_e : c10_2 = .seq c10_3 c10_4 := rfl
theorem c10_3_r (m : Nat) (st : St) : den (E0 mm) 10 m (callW (E0 mm)) itW c10_3 none st = regD (runOps (E0 mm) (callW (E0 mm)) (opsOf c10_3) (opsOf c10_3) st) := den_rg (by rfl)
theorem c10_4_e : c10_4 = .ret := rfl
abbrev R10 := (Bool)
def e10 : R10 → AV × Heap := fun x => (.v (.c (.d (.sc (.bool x)))), [])
noncomputable def m10 (s : Bs) : Option R10 :=
  if (s == ([] : Bs)) = true then
    some false
  else
    (m30 s).bind fun yr3 =>
      some yr3
set_option maxRecDepth 100000 in
theorem f10_t (s : Bs) :
    callW (E0 mm) 10 [.c (.d (.sc (.string (S s))))] [] = (m10 s).map e10 := by
  rw [callW_run (body := c10_0) (res := [.tmp 2]) Tryd.func10 rfl rfl (by kernel_rfl)]
  simp -implicitDefEqProofs only [m10, slots1, c10_0_e, c10_1_r, (show opsOf c10_1 = _ :: _ from rfl), c10_2_e, c10_3_r, (show opsOf c10_3 = _ :: _ from rfl), setA, setB, String.reduceBEq, Nat.reduceEqDiff, Int.reduceEq, Nat.reduceAdd, Nat.reduceLeDiff, Nat.reduceLT, Int.reduceLE, Int.reduceLT, Int.reduceToNat, Int.reduceNegSucc, Nat.reduceMul, Int.reduceAdd, Nat.reduceBEq, Nat.reduceSub, Nat.reducePow, Int.reduceBEq, reduceCtorEq, E0P, E0hand, E0hard, E0row, E0nw, E0aown, E0glob, ↓reduceIte]
  refine brB (fun yc1 => ?_) (fun yc1 => ?_)
  · simp -implicitDefEqProofs only [c10_4_e, yc1, setA, setB, String.reduceBEq, Nat.reduceEqDiff, Int.reduceEq, Nat.reduceAdd, Nat.reduceLeDiff, Nat.reduceLT, Int.reduceLE, Int.reduceLT, Int.reduceToNat, Int.reduceNegSucc, Nat.reduceMul, Int.reduceAdd, Nat.reduceBEq, Nat.reduceSub, Nat.reducePow, Int.reduceBEq, reduceCtorEq, E0P, E0hand, E0hard, E0row, E0nw, E0aown, E0glob, ↓reduceIte]
    all_goals rfl
  · simp -implicitDefEqProofs only [ent30, prm30, f30_t, yc1, setA, setB, String.reduceBEq, Nat.reduceEqDiff, Int.reduceEq, Nat.reduceAdd, Nat.reduceLeDiff, Nat.reduceLT, Int.reduceLE, Int.reduceLT, Int.reduceToNat, Int.reduceNegSucc, Nat.reduceMul, Int.reduceAdd, Nat.reduceBEq, Nat.reduceSub, Nat.reducePow, Int.reduceBEq, reduceCtorEq, E0P, E0hand, E0hard, E0row, E0nw, E0aown, E0glob, ↓reduceIte]
    refine brM (fun yc2 => ?_) (fun yr3 yc2 => ?_)
    · simp -implicitDefEqProofs only [yc2, yc1, e30, setA, setB, String.reduceBEq, Nat.reduceEqDiff, Int.reduceEq, Nat.reduceAdd, Nat.reduceLeDiff, Nat.reduceLT, Int.reduceLE, Int.reduceLT, Int.reduceToNat, Int.reduceNegSucc, Nat.reduceMul, Int.reduceAdd, Nat.reduceBEq, Nat.reduceSub, Nat.reducePow, Int.reduceBEq, reduceCtorEq, E0P, E0hand, E0hard, E0row, E0nw, E0aown, E0glob, ↓reduceIte]
    · simp -implicitDefEqProofs only [e30, c10_4_e, yc1, yc2, setA, setB, String.reduceBEq, Nat.reduceEqDiff, Int.reduceEq, Nat.reduceAdd, Nat.reduceLeDiff, Nat.reduceLT, Int.reduceLE, Int.reduceLT, Int.reduceToNat, Int.reduceNegSucc, Nat.reduceMul, Int.reduceAdd, Nat.reduceBEq, Nat.reduceSub, Nat.reducePow, Int.reduceBEq, reduceCtorEq, E0P, E0hand, E0hard, E0row, E0nw, E0aown, E0glob, ↓reduceIte]
      all_goals rfl
/-! tollhouse/tollhouseref02.Token -/
noncomputable def c11_0 : Code := bodyOf Tryd.f11
noncomputable def c11_1 : Code := cA c11_0
noncomputable def c11_2 : Code := cB c11_0
noncomputable def c11_3 : Code := cA c11_2
noncomputable def c11_4 : Code := cB c11_2
noncomputable def c11_5 : Code := cA c11_4
noncomputable def c11_6 : Code := cA c11_5
noncomputable def c11_7 : Code := cB c11_5
noncomputable def c11_8 : Code := cA c11_7
noncomputable def c11_9 : Code := cA c11_8
noncomputable def c11_10 : Code := cA c11_9
noncomputable def c11_11 : Code := cA c11_10
noncomputable def c11_12 : Code := cB c11_10
noncomputable def c11_13 : Code := cA c11_12
noncomputable def c11_14 : Code := cB c11_12
noncomputable def c11_15 : Code := cB c11_9
noncomputable def c11_16 : Code := cA c11_15
noncomputable def c11_17 : Code := cA c11_16
noncomputable def c11_18 : Code := cA c11_17
noncomputable def c11_19 : Code := cB c11_17
noncomputable def c11_20 : Code := cA c11_19
noncomputable def c11_21 : Code := cB c11_19
noncomputable def c11_22 : Code := cA c11_21
noncomputable def c11_23 : Code := cA c11_22
noncomputable def c11_24 : Code := cB c11_22
noncomputable def c11_25 : Code := cA c11_24
noncomputable def c11_26 : Code := cA c11_25
noncomputable def c11_27 : Code := cA c11_26
noncomputable def c11_28 : Code := cA c11_27
noncomputable def c11_29 : Code := cB c11_27
noncomputable def c11_30 : Code := cA c11_29
noncomputable def c11_31 : Code := cB c11_29
noncomputable def c11_32 : Code := cB c11_26
noncomputable def c11_33 : Code := cA c11_32
noncomputable def c11_34 : Code := cA c11_33
noncomputable def c11_35 : Code := cB c11_32
noncomputable def c11_36 : Code := cB c11_21
noncomputable def c11_37 : Code := cA c11_36
noncomputable def c11_38 : Code := cB c11_36
noncomputable def c11_39 : Code := cA c11_38
noncomputable def c11_40 : Code := cA c11_39
noncomputable def c11_41 : Code := cB c11_39
noncomputable def c11_42 : Code := cB c11_38
noncomputable def c11_43 : Code := cB c11_15
noncomputable def c11_44 : Code := cB c11_4
noncomputable def c11_45 : Code := cA c11_44
noncomputable def c11_46 : Code := cB c11_44
theorem c11_0_e : c11_0 = .seq c11_1 c11_2 := rfl
theorem c11_1_r (m : Nat) (st : St) : den (E0 mm) 11 m (callW (E0 mm)) itW c11_1 none st = regD (runOps (E0 mm) (callW (E0 mm)) (opsOf c11_1) (opsOf c11_1) st) := den_rg (by rfl)
theorem c11_2_e : c11_2 = .seq c11_3 c11_4 := rfl
theorem c11_3_r (m : Nat) (st : St) : den (E0 mm) 11 m (callW (E0 mm)) itW c11_3 none st = regD (runOps (E0 mm) (callW (E0 mm)) (opsOf c11_3) (opsOf c11_3) st) := den_rg (by rfl)
theorem c11_4_e : c11_4 = .seq c11_5 c11_44 := rfl
theorem c11_5_e : c11_5 = .seq c11_6 c11_7 := rfl
theorem c11_6_r (m : Nat) (st : St) : den (E0 mm) 11 m (callW (E0 mm)) itW c11_6 none st = regD (runOps (E0 mm) (callW (E0 mm)) (opsOf c11_6) (opsOf c11_6) st) := den_rg (by rfl)
theorem c11_7_e : c11_7 = .block 0 c11_8 := rfl
theorem c11_8_l (m : Nat) (st : St) : den (E0 mm) 11 m (callW (E0 mm)) itW c11_8 none st = loopD itW (loopF (E0 mm) 11 m (callW (E0 mm)) itW c11_9 [(0, .keep), (3, .keep), (4, .keep)]) (canon m [(0, .keep), (3, .keep), (4, .keep)] st) := rfl
theorem c11_9_e : c11_9 = .seq c11_10 c11_15 := rfl
theorem c11_10_e : c11_10 = .seq c11_11 c11_12 := rfl
theorem c11_11_r (m : Nat) (st : St) : den (E0 mm) 11 m (callW (E0 mm)) itW c11_11 none st = regD (runOps (E0 mm) (callW (E0 mm)) (opsOf c11_11) (opsOf c11_11) st) := den_rg (by rfl)
theorem c11_13_e : c11_13 = .skip := rfl
theorem c11_14_e : c11_14 = .exit 0 := rfl
theorem c11_15_e : c11_15 = .seq c11_16 c11_43 := rfl
theorem c11_16_e : c11_16 = .block 1 c11_17 := rfl
theorem c11_17_e : c11_17 = .seq c11_18 c11_19 := rfl
theorem c11_18_r (m : Nat) (st : St) : den (E0 mm) 11 m (callW (E0 mm)) itW c11_18 none st = regD (runOps (E0 mm) (callW (E0 mm)) (opsOf c11_18) (opsOf c11_18) st) := den_rg (by rfl)
theorem c11_19_e : c11_19 = .seq c11_20 c11_21 := rfl
theorem c11_20_r (m : Nat) (st : St) : den (E0 mm) 11 m (callW (E0 mm)) itW c11_20 none st = regD (runOps (E0 mm) (callW (E0 mm)) (opsOf c11_20) (opsOf c11_20) st) := den_rg (by rfl)
theorem c11_21_e : c11_21 = .seq c11_22 c11_36 := rfl
theorem c11_22_e : c11_22 = .seq c11_23 c11_24 := rfl
theorem c11_23_r (m : Nat) (st : St) : den (E0 mm) 11 m (callW (E0 mm)) itW c11_23 none st = regD (runOps (E0 mm) (callW (E0 mm)) (opsOf c11_23) (opsOf c11_23) st) := den_rg (by rfl)
theorem c11_24_e : c11_24 = .block 2 c11_25 := rfl
theorem c11_25_l (m : Nat) (st : St) : den (E0 mm) 11 m (callW (E0 mm)) itW c11_25 none st = loopD itW (loopF (E0 mm) 11 m (callW (E0 mm)) itW c11_26 [(0, .keep), (3, .keep), (4, .keep), (5, .keep), (6, .keep), (7, .keep)]) (canon m [(0, .keep), (3, .keep), (4, .keep), (5, .keep), (6, .keep), (7, .keep)] st) := rfl
theorem c11_26_e : c11_26 = .seq c11_27 c11_32 := rfl
theorem c11_27_e : c11_27 = .seq c11_28 c11_29 := rfl
theorem c11_28_r (m : Nat) (st : St) : den (E0 mm) 11 m (callW (E0 mm)) itW c11_28 none st = regD (runOps (E0 mm) (callW (E0 mm)) (opsOf c11_28) (opsOf c11_28) st) := den_rg (by rfl)
theorem c11_30_e : c11_30 = .skip := rfl
theorem c11_31_e : c11_31 = .exit 2 := rfl
theorem c11_32_e : c11_32 = .seq c11_33 c11_35 := rfl
theorem c11_33_e : c11_33 = .block 3 c11_34 := rfl
theorem c11_34_r (m : Nat) (st : St) : den (E0 mm) 11 m (callW (E0 mm)) itW c11_34 none st = regD (runOps (E0 mm) (callW (E0 mm)) (opsOf c11_34) (opsOf c11_34) st) := den_rg (by rfl)
theorem c11_35_r (m : Nat) (st : St) : den (E0 mm) 11 m (callW (E0 mm)) itW c11_35 none st = regD (runOps (E0 mm) (callW (E0 mm)) (opsOf c11_35) (opsOf c11_35) st) := den_rg (by rfl)
theorem c11_36_e : c11_36 = .seq c11_37 c11_38 := rfl
theorem c11_37_r (m : Nat) (st : St) : den (E0 mm) 11 m (callW (E0 mm)) itW c11_37 none st = regD (runOps (E0 mm) (callW (E0 mm)) (opsOf c11_37) (opsOf c11_37) st) := den_rg (by rfl)
theorem c11_39_e : c11_39 = .seq c11_40 c11_41 := rfl
theorem c11_40_r (m : Nat) (st : St) : den (E0 mm) 11 m (callW (E0 mm)) itW c11_40 none st = regD (runOps (E0 mm) (callW (E0 mm)) (opsOf c11_40) (opsOf c11_40) st) := den_rg (by rfl)
theorem c11_41_e : c11_41 = .ret := rfl
theorem c11_42_e : c11_42 = .skip := rfl
theorem c11_43_r (m : Nat) (st : St) : den (E0 mm) 11 m (callW (E0 mm)) itW c11_43 none st = regD (runOps (E0 mm) (callW (E0 mm)) (opsOf c11_43) (opsOf c11_43) st) := den_rg (by rfl)
theorem c11_44_e : c11_44 = .seq c11_45 c11_46 := rfl
theorem c11_45_r (m : Nat) (st : St) : den (E0 mm) 11 m (callW (E0 mm)) itW c11_45 none st = regD (runOps (E0 mm) (callW (E0 mm)) (opsOf c11_45) (opsOf c11_45) st) := den_rg (by rfl)
theorem c11_46_e : c11_46 = .ret := rfl
abbrev R11 := (Bool)
def e11 : R11 → AV × Heap := fun x => (.v (.c (.d (.sc (.bool x)))), [])
noncomputable def K11_8 : Option (Ex × St) → Option (AV × Heap) := fun r => bodyD (E0 mm) [.tmp 2] 0 false (seqD (E0 mm) 11 0 (callW (E0 mm)) itW c11_44 (blockD 0 (r)))
def en11_8 : Bs × Bs × Int → X := fun x => (none, [.v (.c (.d (.sc (.string (S x.1))))), .v (.c (.d (.sc (.string (S x.2.1))))), .v (.c (.d (.sc (.int .i64 x.2.2))))], [])
noncomputable def K11_25 : Option (Ex × St) → Option (X ⊕ (AV × Heap)) := fun r => stepE (K11_8 (mm := mm)) (loopK 0 [(0, .keep), (3, .keep), (4, .keep)] (seqD (E0 mm) 11 0 (callW (E0 mm)) itW c11_43 (blockD 1 (seqD (E0 mm) 11 0 (callW (E0 mm)) itW c11_36 (blockD 2 (r))))))
def en11_25 : Bs × Bs × Int × UInt8 × Bool × Int → X := fun x => (none, [.v (.c (.d (.sc (.string (S x.1))))), .v (.c (.d (.sc (.string (S x.2.1))))), .v (.c (.d (.sc (.int .i64 x.2.2.1)))), .v (.c (.d (.sc (.int .u8 ((x.2.2.2.1).toNat : Int))))), .v (.c (.d (.sc (.bool x.2.2.2.2.1)))), .v (.c (.d (.sc (.int .i64 x.2.2.2.2.2))))], [])
noncomputable def j11_35 (s0 : Bs) (signs3 : Bs) (i4 : Int) (c5 : UInt8) (is6 : Bool) (k7 : Int) : Option ((Bs × Bs × Int × UInt8 × Bool × Int) ⊕ ((Bs × Bs × Int) ⊕ R11)) :=
  some (.inl (s0, signs3, i4, c5, is6, (w64 (k7 + 1))))
set_option maxRecDepth 100000 in
theorem j11_35_t (s0 : Bs) (signs3 : Bs) (i4 : Int) (c5 : UInt8) (is6 : Bool) (k7 : Int)  (sl : Nat → AV) (zq0 : sl 0 = .v (.c (.d (.sc (.string (S s0)))))) (zq3 : sl 3 = .v (.c (.d (.sc (.string (S signs3)))))) (zq4 : sl 4 = .v (.c (.d (.sc (.int .i64 i4))))) (zq5 : sl 5 = .v (.c (.d (.sc (.int .u8 ((c5).toNat : Int)))))) (zq6 : sl 6 = .v (.c (.d (.sc (.bool is6))))) (zq7 : sl 7 = .v (.c (.d (.sc (.int .i64 k7))))) :
    stepE (K11_25 (mm := mm)) (loopK 0 [(0, .keep), (3, .keep), (4, .keep), (5, .keep), (6, .keep), (7, .keep)] (den (E0 mm) 11 0 (callW (E0 mm)) itW c11_35 none ⟨sl, []⟩)) = (j11_35 s0 signs3 i4 c5 is6 k7).map (sm en11_25 (sm en11_8 e11)) := by
  simp -implicitDefEqProofs only [j11_35, c11_35_r, (show opsOf c11_35 = _ :: _ from rfl), zq0, zq3, zq4, zq5, zq6, zq7, setA, setB, String.reduceBEq, Nat.reduceEqDiff, Int.reduceEq, Nat.reduceAdd, Nat.reduceLeDiff, Nat.reduceLT, Int.reduceLE, Int.reduceLT, Int.reduceToNat, Int.reduceNegSucc, Nat.reduceMul, Int.reduceAdd, Nat.reduceBEq, Nat.reduceSub, Nat.reducePow, Int.reduceBEq, reduceCtorEq, E0P, E0hand, E0hard, E0row, E0nw, E0aown, E0glob, ↓reduceIte]
  all_goals rfl
noncomputable def j11_36 (s0 : Bs) (signs3 : Bs) (i4 : Int) (is6 : Bool) : Option ((Bs × Bs × Int) ⊕ R11) :=
  if is6 = true then
    some (.inl (s0, signs3, (w64 (i4 + 1))))
  else
    some (.inr false)
set_option maxRecDepth 100000 in
theorem j11_36_t (s0 : Bs) (signs3 : Bs) (i4 : Int) (is6 : Bool)  (sl : Nat → AV) (zq0 : sl 0 = .v (.c (.d (.sc (.string (S s0)))))) (zq3 : sl 3 = .v (.c (.d (.sc (.string (S signs3)))))) (zq4 : sl 4 = .v (.c (.d (.sc (.int .i64 i4))))) (zq6 : sl 6 = .v (.c (.d (.sc (.bool is6))))) :
    stepE (K11_8 (mm := mm)) (loopK 0 [(0, .keep), (3, .keep), (4, .keep)] (seqD (E0 mm) 11 0 (callW (E0 mm)) itW c11_43 (blockD 1 (den (E0 mm) 11 0 (callW (E0 mm)) itW c11_36 none ⟨sl, []⟩)))) = (j11_36 s0 signs3 i4 is6).map (sm en11_8 e11) := by
  simp -implicitDefEqProofs only [j11_36, c11_36_e, c11_37_r, (show opsOf c11_37 = _ :: _ from rfl), (show c11_38 = Code.cond _ c11_39 c11_42 from rfl), zq0, zq3, zq4, zq6, setA, setB, String.reduceBEq, Nat.reduceEqDiff, Int.reduceEq, Nat.reduceAdd, Nat.reduceLeDiff, Nat.reduceLT, Int.reduceLE, Int.reduceLT, Int.reduceToNat, Int.reduceNegSucc, Nat.reduceMul, Int.reduceAdd, Nat.reduceBEq, Nat.reduceSub, Nat.reducePow, Int.reduceBEq, reduceCtorEq, E0P, E0hand, E0hard, E0row, E0nw, E0aown, E0glob, ↓reduceIte]
  refine brB (fun yc8 => ?_) (fun yc8 => ?_)
  · simp -implicitDefEqProofs only [c11_42_e, c11_43_r, (show opsOf c11_43 = _ :: _ from rfl), zq0, zq3, zq4, zq6, yc8, setA, setB, String.reduceBEq, Nat.reduceEqDiff, Int.reduceEq, Nat.reduceAdd, Nat.reduceLeDiff, Nat.reduceLT, Int.reduceLE, Int.reduceLT, Int.reduceToNat, Int.reduceNegSucc, Nat.reduceMul, Int.reduceAdd, Nat.reduceBEq, Nat.reduceSub, Nat.reducePow, Int.reduceBEq, reduceCtorEq, E0P, E0hand, E0hard, E0row, E0nw, E0aown, E0glob, ↓reduceIte]
    all_goals rfl
  · simp -implicitDefEqProofs only [c11_39_e, c11_40_r, (show opsOf c11_40 = _ :: _ from rfl), c11_41_e, K11_8, zq0, zq3, zq4, zq6, yc8, setA, setB, String.reduceBEq, Nat.reduceEqDiff, Int.reduceEq, Nat.reduceAdd, Nat.reduceLeDiff, Nat.reduceLT, Int.reduceLE, Int.reduceLT, Int.reduceToNat, Int.reduceNegSucc, Nat.reduceMul, Int.reduceAdd, Nat.reduceBEq, Nat.reduceSub, Nat.reducePow, Int.reduceBEq, reduceCtorEq, E0P, E0hand, E0hard, E0row, E0nw, E0aown, E0glob, ↓reduceIte]
    all_goals rfl
noncomputable def s11_25 (s0 : Bs) (signs3 : Bs) (i4 : Int) (c5 : UInt8) (is6 : Bool) (k7 : Int) : Option ((Bs × Bs × Int × UInt8 × Bool × Int) ⊕ ((Bs × Bs × Int) ⊕ R11)) :=
  if (decide (k7 < (signs3.length : Int))) = true then
    if is6 = true then
      j11_35 s0 signs3 i4 c5 true k7
    else
      if 0 ≤ k7 ∧ k7 < (signs3.length : Int) then
        j11_35 s0 signs3 i4 c5 ((signs3.getD k7.toNat 0) == c5) k7
      else none
  else
    (j11_36 s0 signs3 i4 is6).map .inr
set_option maxRecDepth 100000 in
theorem s11_25_t (s0 : Bs) (signs3 : Bs) (i4 : Int) (c5 : UInt8) (is6 : Bool) (k7 : Int) :
    stepE (K11_25 (mm := mm)) (loopF (E0 mm) 11 0 (callW (E0 mm)) itW c11_26 [(0, .keep), (3, .keep), (4, .keep), (5, .keep), (6, .keep), (7, .keep)] (none, [.v (.c (.d (.sc (.string (S s0))))), .v (.c (.d (.sc (.string (S signs3))))), .v (.c (.d (.sc (.int .i64 i4)))), .v (.c (.d (.sc (.int .u8 ((c5).toNat : Int))))), .v (.c (.d (.sc (.bool is6)))), .v (.c (.d (.sc (.int .i64 k7))))], [])) = (s11_25 s0 signs3 i4 c5 is6 k7).map (sm en11_25 (sm en11_8 e11)) := by
  simp -implicitDefEqProofs only [s11_25, loopF_eq, c11_26_e, c11_27_e, c11_28_r, (show opsOf c11_28 = _ :: _ from rfl), Tryd.underlying9, (show c11_29 = Code.cond _ c11_30 c11_31 from rfl), setA, setB, String.reduceBEq, Nat.reduceEqDiff, Int.reduceEq, Nat.reduceAdd, Nat.reduceLeDiff, Nat.reduceLT, Int.reduceLE, Int.reduceLT, Int.reduceToNat, Int.reduceNegSucc, Nat.reduceMul, Int.reduceAdd, Nat.reduceBEq, Nat.reduceSub, Nat.reducePow, Int.reduceBEq, reduceCtorEq, E0P, E0hand, E0hard, E0row, E0nw, E0aown, E0glob, ↓reduceIte]
  refine brB (fun yc5 => ?_) (fun yc5 => ?_)
  · simp -implicitDefEqProofs only [c11_30_e, c11_32_e, c11_33_e, c11_34_r, (show opsOf c11_34 = _ :: _ from rfl), yc5, setA, setB, String.reduceBEq, Nat.reduceEqDiff, Int.reduceEq, Nat.reduceAdd, Nat.reduceLeDiff, Nat.reduceLT, Int.reduceLE, Int.reduceLT, Int.reduceToNat, Int.reduceNegSucc, Nat.reduceMul, Int.reduceAdd, Nat.reduceBEq, Nat.reduceSub, Nat.reducePow, Int.reduceBEq, reduceCtorEq, E0P, E0hand, E0hard, E0row, E0nw, E0aown, E0glob, ↓reduceIte]
    refine brB (fun yc6 => ?_) (fun yc6 => ?_)
    · simp -implicitDefEqProofs only [yc5, yc6, setA, setB, String.reduceBEq, Nat.reduceEqDiff, Int.reduceEq, Nat.reduceAdd, Nat.reduceLeDiff, Nat.reduceLT, Int.reduceLE, Int.reduceLT, Int.reduceToNat, Int.reduceNegSucc, Nat.reduceMul, Int.reduceAdd, Nat.reduceBEq, Nat.reduceSub, Nat.reducePow, Int.reduceBEq, reduceCtorEq, E0P, E0hand, E0hard, E0row, E0nw, E0aown, E0glob, ↓reduceIte]
      exact j11_35_t s0 signs3 i4 c5 true k7 _ (by rfl) (by rfl) (by rfl) (by rfl) (by rfl) (by rfl)
    · simp -implicitDefEqProofs only [Tryd.underlying9, yc5, yc6, setA, setB, String.reduceBEq, Nat.reduceEqDiff, Int.reduceEq, Nat.reduceAdd, Nat.reduceLeDiff, Nat.reduceLT, Int.reduceLE, Int.reduceLT, Int.reduceToNat, Int.reduceNegSucc, Nat.reduceMul, Int.reduceAdd, Nat.reduceBEq, Nat.reduceSub, Nat.reducePow, Int.reduceBEq, reduceCtorEq, E0P, E0hand, E0hard, E0row, E0nw, E0aown, E0glob, ↓reduceIte]
      refine brP (fun yc7 => ?_) (fun yc7 => ?_)
      · simp -implicitDefEqProofs only [yc5, yc6, yc7, setA, setB, String.reduceBEq, Nat.reduceEqDiff, Int.reduceEq, Nat.reduceAdd, Nat.reduceLeDiff, Nat.reduceLT, Int.reduceLE, Int.reduceLT, Int.reduceToNat, Int.reduceNegSucc, Nat.reduceMul, Int.reduceAdd, Nat.reduceBEq, Nat.reduceSub, Nat.reducePow, Int.reduceBEq, reduceCtorEq, E0P, E0hand, E0hard, E0row, E0nw, E0aown, E0glob, ↓reduceIte]
        exact j11_35_t s0 signs3 i4 c5 ((signs3.getD k7.toNat 0) == c5) k7 _ (by rfl) (by rfl) (by rfl) (by rfl) (by rfl) (by rfl)
      · simp -implicitDefEqProofs only [yc5, yc6, yc7, setA, setB, String.reduceBEq, Nat.reduceEqDiff, Int.reduceEq, Nat.reduceAdd, Nat.reduceLeDiff, Nat.reduceLT, Int.reduceLE, Int.reduceLT, Int.reduceToNat, Int.reduceNegSucc, Nat.reduceMul, Int.reduceAdd, Nat.reduceBEq, Nat.reduceSub, Nat.reducePow, Int.reduceBEq, reduceCtorEq, E0P, E0hand, E0hard, E0row, E0nw, E0aown, E0glob, ↓reduceIte]
  · simp -implicitDefEqProofs only [c11_31_e, K11_25, yc5, setA, setB, String.reduceBEq, Nat.reduceEqDiff, Int.reduceEq, Nat.reduceAdd, Nat.reduceLeDiff, Nat.reduceLT, Int.reduceLE, Int.reduceLT, Int.reduceToNat, Int.reduceNegSucc, Nat.reduceMul, Int.reduceAdd, Nat.reduceBEq, Nat.reduceSub, Nat.reducePow, Int.reduceBEq, reduceCtorEq, E0P, E0hand, E0hard, E0row, E0nw, E0aown, E0glob, ↓reduceIte]
    exact mi (j11_36_t s0 signs3 i4 is6 _ (by rfl) (by rfl) (by rfl) (by rfl))
noncomputable def l11_25 (s0 : Bs) (signs3 : Bs) (i4 : Int) (c5 : UInt8) (is6 : Bool) (k7 : Int) : Option ((Bs × Bs × Int) ⊕ R11) := iter (fun x : Bs × Bs × Int × UInt8 × Bool × Int => s11_25 x.1 x.2.1 x.2.2.1 x.2.2.2.1 x.2.2.2.2.1 x.2.2.2.2.2) (s0, signs3, i4, c5, is6, k7)
theorem l11_25_t (s0 : Bs) (signs3 : Bs) (i4 : Int) (c5 : UInt8) (is6 : Bool) (k7 : Int) : stepE (K11_8 (mm := mm)) (loopK 0 [(0, .keep), (3, .keep), (4, .keep)] (seqD (E0 mm) 11 0 (callW (E0 mm)) itW c11_43 (blockD 1 (seqD (E0 mm) 11 0 (callW (E0 mm)) itW c11_36 (blockD 2 (itW (loopF (E0 mm) 11 0 (callW (E0 mm)) itW c11_26 [(0, .keep), (3, .keep), (4, .keep), (5, .keep), (6, .keep), (7, .keep)]) (none, [.v (.c (.d (.sc (.string (S s0))))), .v (.c (.d (.sc (.string (S signs3))))), .v (.c (.d (.sc (.int .i64 i4)))), .v (.c (.d (.sc (.int .u8 ((c5).toNat : Int))))), .v (.c (.d (.sc (.bool is6)))), .v (.c (.d (.sc (.int .i64 k7))))], []))))))) = (l11_25 s0 signs3 i4 c5 is6 k7).map (sm en11_8 e11) :=
  it_sim (K := (K11_25 (mm := mm))) rfl (enc := en11_25) (fun x => s11_25_t x.1 x.2.1 x.2.2.1 x.2.2.2.1 x.2.2.2.2.1 x.2.2.2.2.2) (s0, signs3, i4, c5, is6, k7)
noncomputable def j11_21 (s0 : Bs) (signs3 : Bs) (i4 : Int) (c5 : UInt8) (is6 : Bool) : Option ((Bs × Bs × Int) ⊕ R11) :=
  l11_25 s0 signs3 i4 c5 is6 (0 : Int)
set_option maxRecDepth 100000 in
theorem j11_21_t (s0 : Bs) (signs3 : Bs) (i4 : Int) (c5 : UInt8) (is6 : Bool)  (sl : Nat → AV) (zq0 : sl 0 = .v (.c (.d (.sc (.string (S s0)))))) (zq3 : sl 3 = .v (.c (.d (.sc (.string (S signs3)))))) (zq4 : sl 4 = .v (.c (.d (.sc (.int .i64 i4))))) (zq5 : sl 5 = .v (.c (.d (.sc (.int .u8 ((c5).toNat : Int)))))) (zq6 : sl 6 = .v (.c (.d (.sc (.bool is6))))) :
    stepE (K11_8 (mm := mm)) (loopK 0 [(0, .keep), (3, .keep), (4, .keep)] (seqD (E0 mm) 11 0 (callW (E0 mm)) itW c11_43 (blockD 1 (den (E0 mm) 11 0 (callW (E0 mm)) itW c11_21 none ⟨sl, []⟩)))) = (j11_21 s0 signs3 i4 c5 is6).map (sm en11_8 e11) := by
  simp -implicitDefEqProofs only [j11_21, c11_21_e, c11_22_e, c11_23_r, (show opsOf c11_23 = _ :: _ from rfl), c11_24_e, c11_25_l, zq0, zq3, zq4, zq5, zq6, setA, setB, String.reduceBEq, Nat.reduceEqDiff, Int.reduceEq, Nat.reduceAdd, Nat.reduceLeDiff, Nat.reduceLT, Int.reduceLE, Int.reduceLT, Int.reduceToNat, Int.reduceNegSucc, Nat.reduceMul, Int.reduceAdd, Nat.reduceBEq, Nat.reduceSub, Nat.reducePow, Int.reduceBEq, reduceCtorEq, E0P, E0hand, E0hard, E0row, E0nw, E0aown, E0glob, ↓reduceIte]
  exact l11_25_t s0 signs3 i4 c5 is6 (0 : Int)
noncomputable def j11_44 (s0 : Bs) : Option R11 :=
  some (decide (0 < (s0.length : Int)))
set_option maxRecDepth 100000 in
theorem j11_44_t (s0 : Bs)  (sl : Nat → AV) (zq0 : sl 0 = .v (.c (.d (.sc (.string (S s0)))))) :
    bodyD (E0 mm) [.tmp 2] 0 false (den (E0 mm) 11 0 (callW (E0 mm)) itW c11_44 none ⟨sl, []⟩) = (j11_44 s0).map e11 := by
  simp -implicitDefEqProofs only [j11_44, c11_44_e, c11_45_r, (show opsOf c11_45 = _ :: _ from rfl), Tryd.underlying9, c11_46_e, zq0, setA, setB, String.reduceBEq, Nat.reduceEqDiff, Int.reduceEq, Nat.reduceAdd, Nat.reduceLeDiff, Nat.reduceLT, Int.reduceLE, Int.reduceLT, Int.reduceToNat, Int.reduceNegSucc, Nat.reduceMul, Int.reduceAdd, Nat.reduceBEq, Nat.reduceSub, Nat.reducePow, Int.reduceBEq, reduceCtorEq, E0P, E0hand, E0hard, E0row, E0nw, E0aown, E0glob, ↓reduceIte]
  all_goals rfl
noncomputable def s11_8 (s0 : Bs) (signs3 : Bs) (i4 : Int) : Option ((Bs × Bs × Int) ⊕ R11) :=
  if (decide (i4 < (s0.length : Int))) = true then
    if 0 ≤ i4 ∧ i4 < (s0.length : Int) then
      if (decide ((97 : UInt8) ≤ (s0.getD i4.toNat 0))) = true then
        if (decide ((s0.getD i4.toNat 0) ≤ (122 : UInt8))) = true then
          j11_21 s0 signs3 i4 (s0.getD i4.toNat 0) true
        else
          if (decide ((65 : UInt8) ≤ (s0.getD i4.toNat 0))) = true then
            if (decide ((s0.getD i4.toNat 0) ≤ (90 : UInt8))) = true then
              j11_21 s0 signs3 i4 (s0.getD i4.toNat 0) true
            else
              if (decide ((48 : UInt8) ≤ (s0.getD i4.toNat 0))) = true then
                j11_21 s0 signs3 i4 (s0.getD i4.toNat 0) (decide ((s0.getD i4.toNat 0) ≤ (57 : UInt8)))
              else
                j11_21 s0 signs3 i4 (s0.getD i4.toNat 0) false
          else
            if (decide ((48 : UInt8) ≤ (s0.getD i4.toNat 0))) = true then
              j11_21 s0 signs3 i4 (s0.getD i4.toNat 0) (decide ((s0.getD i4.toNat 0) ≤ (57 : UInt8)))
            else
              j11_21 s0 signs3 i4 (s0.getD i4.toNat 0) false
      else
        if (decide ((65 : UInt8) ≤ (s0.getD i4.toNat 0))) = true then
          if (decide ((s0.getD i4.toNat 0) ≤ (90 : UInt8))) = true then
            j11_21 s0 signs3 i4 (s0.getD i4.toNat 0) true
          else
            if (decide ((48 : UInt8) ≤ (s0.getD i4.toNat 0))) = true then
              j11_21 s0 signs3 i4 (s0.getD i4.toNat 0) (decide ((s0.getD i4.toNat 0) ≤ (57 : UInt8)))
            else
              j11_21 s0 signs3 i4 (s0.getD i4.toNat 0) false
        else
          if (decide ((48 : UInt8) ≤ (s0.getD i4.toNat 0))) = true then
            j11_21 s0 signs3 i4 (s0.getD i4.toNat 0) (decide ((s0.getD i4.toNat 0) ≤ (57 : UInt8)))
          else
            j11_21 s0 signs3 i4 (s0.getD i4.toNat 0) false
    else none
  else
    (j11_44 s0).map .inr
set_option maxRecDepth 100000 in
theorem s11_8_t (s0 : Bs) (signs3 : Bs) (i4 : Int) :
    stepE (K11_8 (mm := mm)) (loopF (E0 mm) 11 0 (callW (E0 mm)) itW c11_9 [(0, .keep), (3, .keep), (4, .keep)] (none, [.v (.c (.d (.sc (.string (S s0))))), .v (.c (.d (.sc (.string (S signs3))))), .v (.c (.d (.sc (.int .i64 i4))))], [])) = (s11_8 s0 signs3 i4).map (sm en11_8 e11) := by
  simp -implicitDefEqProofs only [s11_8, loopF_eq, c11_9_e, c11_10_e, c11_11_r, (show opsOf c11_11 = _ :: _ from rfl), Tryd.underlying9, (show c11_12 = Code.cond _ c11_13 c11_14 from rfl), setA, setB, String.reduceBEq, Nat.reduceEqDiff, Int.reduceEq, Nat.reduceAdd, Nat.reduceLeDiff, Nat.reduceLT, Int.reduceLE, Int.reduceLT, Int.reduceToNat, Int.reduceNegSucc, Nat.reduceMul, Int.reduceAdd, Nat.reduceBEq, Nat.reduceSub, Nat.reducePow, Int.reduceBEq, reduceCtorEq, E0P, E0hand, E0hard, E0row, E0nw, E0aown, E0glob, ↓reduceIte]
  refine brB (fun yc1 => ?_) (fun yc1 => ?_)
  · simp -implicitDefEqProofs only [c11_13_e, c11_15_e, c11_16_e, c11_17_e, c11_18_r, (show opsOf c11_18 = _ :: _ from rfl), Tryd.underlying9, yc1, setA, setB, String.reduceBEq, Nat.reduceEqDiff, Int.reduceEq, Nat.reduceAdd, Nat.reduceLeDiff, Nat.reduceLT, Int.reduceLE, Int.reduceLT, Int.reduceToNat, Int.reduceNegSucc, Nat.reduceMul, Int.reduceAdd, Nat.reduceBEq, Nat.reduceSub, Nat.reducePow, Int.reduceBEq, reduceCtorEq, E0P, E0hand, E0hard, E0row, E0nw, E0aown, E0glob, ↓reduceIte]
    refine brP (fun yc2 => ?_) (fun yc2 => ?_)
    · simp -implicitDefEqProofs only [c11_19_e, c11_20_r, (show opsOf c11_20 = _ :: _ from rfl), yc1, yc2, setA, setB, String.reduceBEq, Nat.reduceEqDiff, Int.reduceEq, Nat.reduceAdd, Nat.reduceLeDiff, Nat.reduceLT, Int.reduceLE, Int.reduceLT, Int.reduceToNat, Int.reduceNegSucc, Nat.reduceMul, Int.reduceAdd, Nat.reduceBEq, Nat.reduceSub, Nat.reducePow, Int.reduceBEq, reduceCtorEq, E0P, E0hand, E0hard, E0row, E0nw, E0aown, E0glob, ↓reduceIte]
      refine brB (fun yc3 => ?_) (fun yc3 => ?_)
      · simp -implicitDefEqProofs only [yc1, yc2, yc3, setA, setB, String.reduceBEq, Nat.reduceEqDiff, Int.reduceEq, Nat.reduceAdd, Nat.reduceLeDiff, Nat.reduceLT, Int.reduceLE, Int.reduceLT, Int.reduceToNat, Int.reduceNegSucc, Nat.reduceMul, Int.reduceAdd, Nat.reduceBEq, Nat.reduceSub, Nat.reducePow, Int.reduceBEq, reduceCtorEq, E0P, E0hand, E0hard, E0row, E0nw, E0aown, E0glob, ↓reduceIte]
        refine brB (fun yc4 => ?_) (fun yc4 => ?_)
        · simp -implicitDefEqProofs only [yc1, yc2, yc3, yc4, setA, setB, String.reduceBEq, Nat.reduceEqDiff, Int.reduceEq, Nat.reduceAdd, Nat.reduceLeDiff, Nat.reduceLT, Int.reduceLE, Int.reduceLT, Int.reduceToNat, Int.reduceNegSucc, Nat.reduceMul, Int.reduceAdd, Nat.reduceBEq, Nat.reduceSub, Nat.reducePow, Int.reduceBEq, reduceCtorEq, E0P, E0hand, E0hard, E0row, E0nw, E0aown, E0glob, ↓reduceIte]
          exact j11_21_t s0 signs3 i4 (s0.getD i4.toNat 0) true _ (by rfl) (by rfl) (by rfl) (by rfl) (by rfl)
        · simp -implicitDefEqProofs only [yc1, yc2, yc3, yc4, setA, setB, String.reduceBEq, Nat.reduceEqDiff, Int.reduceEq, Nat.reduceAdd, Nat.reduceLeDiff, Nat.reduceLT, Int.reduceLE, Int.reduceLT, Int.reduceToNat, Int.reduceNegSucc, Nat.reduceMul, Int.reduceAdd, Nat.reduceBEq, Nat.reduceSub, Nat.reducePow, Int.reduceBEq, reduceCtorEq, E0P, E0hand, E0hard, E0row, E0nw, E0aown, E0glob, ↓reduceIte]
          refine brB (fun yc9 => ?_) (fun yc9 => ?_)
          · simp -implicitDefEqProofs only [yc1, yc2, yc3, yc4, yc9, setA, setB, String.reduceBEq, Nat.reduceEqDiff, Int.reduceEq, Nat.reduceAdd, Nat.reduceLeDiff, Nat.reduceLT, Int.reduceLE, Int.reduceLT, Int.reduceToNat, Int.reduceNegSucc, Nat.reduceMul, Int.reduceAdd, Nat.reduceBEq, Nat.reduceSub, Nat.reducePow, Int.reduceBEq, reduceCtorEq, E0P, E0hand, E0hard, E0row, E0nw, E0aown, E0glob, ↓reduceIte]
            refine brB (fun yc10 => ?_) (fun yc10 => ?_)
            · simp -implicitDefEqProofs only [yc1, yc2, yc3, yc4, yc9, yc10, setA, setB, String.reduceBEq, Nat.reduceEqDiff, Int.reduceEq, Nat.reduceAdd, Nat.reduceLeDiff, Nat.reduceLT, Int.reduceLE, Int.reduceLT, Int.reduceToNat, Int.reduceNegSucc, Nat.reduceMul, Int.reduceAdd, Nat.reduceBEq, Nat.reduceSub, Nat.reducePow, Int.reduceBEq, reduceCtorEq, E0P, E0hand, E0hard, E0row, E0nw, E0aown, E0glob, ↓reduceIte]
              exact j11_21_t s0 signs3 i4 (s0.getD i4.toNat 0) true _ (by rfl) (by rfl) (by rfl) (by rfl) (by rfl)
            · simp -implicitDefEqProofs only [yc1, yc2, yc3, yc4, yc9, yc10, setA, setB, String.reduceBEq, Nat.reduceEqDiff, Int.reduceEq, Nat.reduceAdd, Nat.reduceLeDiff, Nat.reduceLT, Int.reduceLE, Int.reduceLT, Int.reduceToNat, Int.reduceNegSucc, Nat.reduceMul, Int.reduceAdd, Nat.reduceBEq, Nat.reduceSub, Nat.reducePow, Int.reduceBEq, reduceCtorEq, E0P, E0hand, E0hard, E0row, E0nw, E0aown, E0glob, ↓reduceIte]
              refine brB (fun yc11 => ?_) (fun yc11 => ?_)
              · simp -implicitDefEqProofs only [yc1, yc2, yc3, yc4, yc9, yc10, yc11, setA, setB, String.reduceBEq, Nat.reduceEqDiff, Int.reduceEq, Nat.reduceAdd, Nat.reduceLeDiff, Nat.reduceLT, Int.reduceLE, Int.reduceLT, Int.reduceToNat, Int.reduceNegSucc, Nat.reduceMul, Int.reduceAdd, Nat.reduceBEq, Nat.reduceSub, Nat.reducePow, Int.reduceBEq, reduceCtorEq, E0P, E0hand, E0hard, E0row, E0nw, E0aown, E0glob, ↓reduceIte]
                exact j11_21_t s0 signs3 i4 (s0.getD i4.toNat 0) (decide ((s0.getD i4.toNat 0) ≤ (57 : UInt8))) _ (by rfl) (by rfl) (by rfl) (by rfl) (by rfl)
              · simp -implicitDefEqProofs only [yc1, yc2, yc3, yc4, yc9, yc10, yc11, setA, setB, String.reduceBEq, Nat.reduceEqDiff, Int.reduceEq, Nat.reduceAdd, Nat.reduceLeDiff, Nat.reduceLT, Int.reduceLE, Int.reduceLT, Int.reduceToNat, Int.reduceNegSucc, Nat.reduceMul, Int.reduceAdd, Nat.reduceBEq, Nat.reduceSub, Nat.reducePow, Int.reduceBEq, reduceCtorEq, E0P, E0hand, E0hard, E0row, E0nw, E0aown, E0glob, ↓reduceIte]
                exact j11_21_t s0 signs3 i4 (s0.getD i4.toNat 0) false _ (by rfl) (by rfl) (by rfl) (by rfl) (by rfl)
          · simp -implicitDefEqProofs only [yc1, yc2, yc3, yc4, yc9, setA, setB, String.reduceBEq, Nat.reduceEqDiff, Int.reduceEq, Nat.reduceAdd, Nat.reduceLeDiff, Nat.reduceLT, Int.reduceLE, Int.reduceLT, Int.reduceToNat, Int.reduceNegSucc, Nat.reduceMul, Int.reduceAdd, Nat.reduceBEq, Nat.reduceSub, Nat.reducePow, Int.reduceBEq, reduceCtorEq, E0P, E0hand, E0hard, E0row, E0nw, E0aown, E0glob, ↓reduceIte]
            refine brB (fun yc12 => ?_) (fun yc12 => ?_)
            · simp -implicitDefEqProofs only [yc1, yc2, yc3, yc4, yc9, yc12, setA, setB, String.reduceBEq, Nat.reduceEqDiff, Int.reduceEq, Nat.reduceAdd, Nat.reduceLeDiff, Nat.reduceLT, Int.reduceLE, Int.reduceLT, Int.reduceToNat, Int.reduceNegSucc, Nat.reduceMul, Int.reduceAdd, Nat.reduceBEq, Nat.reduceSub, Nat.reducePow, Int.reduceBEq, reduceCtorEq, E0P, E0hand, E0hard, E0row, E0nw, E0aown, E0glob, ↓reduceIte]
              exact j11_21_t s0 signs3 i4 (s0.getD i4.toNat 0) (decide ((s0.getD i4.toNat 0) ≤ (57 : UInt8))) _ (by rfl) (by rfl) (by rfl) (by rfl) (by rfl)
            · simp -implicitDefEqProofs only [yc1, yc2, yc3, yc4, yc9, yc12, setA, setB, String.reduceBEq, Nat.reduceEqDiff, Int.reduceEq, Nat.reduceAdd, Nat.reduceLeDiff, Nat.reduceLT, Int.reduceLE, Int.reduceLT, Int.reduceToNat, Int.reduceNegSucc, Nat.reduceMul, Int.reduceAdd, Nat.reduceBEq, Nat.reduceSub, Nat.reducePow, Int.reduceBEq, reduceCtorEq, E0P, E0hand, E0hard, E0row, E0nw, E0aown, E0glob, ↓reduceIte]
              exact j11_21_t s0 signs3 i4 (s0.getD i4.toNat 0) false _ (by rfl) (by rfl) (by rfl) (by rfl) (by rfl)
      · simp -implicitDefEqProofs only [yc1, yc2, yc3, setA, setB, String.reduceBEq, Nat.reduceEqDiff, Int.reduceEq, Nat.reduceAdd, Nat.reduceLeDiff, Nat.reduceLT, Int.reduceLE, Int.reduceLT, Int.reduceToNat, Int.reduceNegSucc, Nat.reduceMul, Int.reduceAdd, Nat.reduceBEq, Nat.reduceSub, Nat.reducePow, Int.reduceBEq, reduceCtorEq, E0P, E0hand, E0hard, E0row, E0nw, E0aown, E0glob, ↓reduceIte]
        refine brB (fun yc13 => ?_) (fun yc13 => ?_)
        · simp -implicitDefEqProofs only [yc1, yc2, yc3, yc13, setA, setB, String.reduceBEq, Nat.reduceEqDiff, Int.reduceEq, Nat.reduceAdd, Nat.reduceLeDiff, Nat.reduceLT, Int.reduceLE, Int.reduceLT, Int.reduceToNat, Int.reduceNegSucc, Nat.reduceMul, Int.reduceAdd, Nat.reduceBEq, Nat.reduceSub, Nat.reducePow, Int.reduceBEq, reduceCtorEq, E0P, E0hand, E0hard, E0row, E0nw, E0aown, E0glob, ↓reduceIte]
          refine brB (fun yc14 => ?_) (fun yc14 => ?_)
          · simp -implicitDefEqProofs only [yc1, yc2, yc3, yc13, yc14, setA, setB, String.reduceBEq, Nat.reduceEqDiff, Int.reduceEq, Nat.reduceAdd, Nat.reduceLeDiff, Nat.reduceLT, Int.reduceLE, Int.reduceLT, Int.reduceToNat, Int.reduceNegSucc, Nat.reduceMul, Int.reduceAdd, Nat.reduceBEq, Nat.reduceSub, Nat.reducePow, Int.reduceBEq, reduceCtorEq, E0P, E0hand, E0hard, E0row, E0nw, E0aown, E0glob, ↓reduceIte]
            exact j11_21_t s0 signs3 i4 (s0.getD i4.toNat 0) true _ (by rfl) (by rfl) (by rfl) (by rfl) (by rfl)
          · simp -implicitDefEqProofs only [yc1, yc2, yc3, yc13, yc14, setA, setB, String.reduceBEq, Nat.reduceEqDiff, Int.reduceEq, Nat.reduceAdd, Nat.reduceLeDiff, Nat.reduceLT, Int.reduceLE, Int.reduceLT, Int.reduceToNat, Int.reduceNegSucc, Nat.reduceMul, Int.reduceAdd, Nat.reduceBEq, Nat.reduceSub, Nat.reducePow, Int.reduceBEq, reduceCtorEq, E0P, E0hand, E0hard, E0row, E0nw, E0aown, E0glob, ↓reduceIte]
            refine brB (fun yc15 => ?_) (fun yc15 => ?_)
            · simp -implicitDefEqProofs only [yc1, yc2, yc3, yc13, yc14, yc15, setA, setB, String.reduceBEq, Nat.reduceEqDiff, Int.reduceEq, Nat.reduceAdd, Nat.reduceLeDiff, Nat.reduceLT, Int.reduceLE, Int.reduceLT, Int.reduceToNat, Int.reduceNegSucc, Nat.reduceMul, Int.reduceAdd, Nat.reduceBEq, Nat.reduceSub, Nat.reducePow, Int.reduceBEq, reduceCtorEq, E0P, E0hand, E0hard, E0row, E0nw, E0aown, E0glob, ↓reduceIte]
              exact j11_21_t s0 signs3 i4 (s0.getD i4.toNat 0) (decide ((s0.getD i4.toNat 0) ≤ (57 : UInt8))) _ (by rfl) (by rfl) (by rfl) (by rfl) (by rfl)
            · simp -implicitDefEqProofs only [yc1, yc2, yc3, yc13, yc14, yc15, setA, setB, String.reduceBEq, Nat.reduceEqDiff, Int.reduceEq, Nat.reduceAdd, Nat.reduceLeDiff, Nat.reduceLT, Int.reduceLE, Int.reduceLT, Int.reduceToNat, Int.reduceNegSucc, Nat.reduceMul, Int.reduceAdd, Nat.reduceBEq, Nat.reduceSub, Nat.reducePow, Int.reduceBEq, reduceCtorEq, E0P, E0hand, E0hard, E0row, E0nw, E0aown, E0glob, ↓reduceIte]
              exact j11_21_t s0 signs3 i4 (s0.getD i4.toNat 0) false _ (by rfl) (by rfl) (by rfl) (by rfl) (by rfl)
        · simp -implicitDefEqProofs only [yc1, yc2, yc3, yc13, setA, setB, String.reduceBEq, Nat.reduceEqDiff, Int.reduceEq, Nat.reduceAdd, Nat.reduceLeDiff, Nat.reduceLT, Int.reduceLE, Int.reduceLT, Int.reduceToNat, Int.reduceNegSucc, Nat.reduceMul, Int.reduceAdd, Nat.reduceBEq, Nat.reduceSub, Nat.reducePow, Int.reduceBEq, reduceCtorEq, E0P, E0hand, E0hard, E0row, E0nw, E0aown, E0glob, ↓reduceIte]
          refine brB (fun yc16 => ?_) (fun yc16 => ?_)
          · simp -implicitDefEqProofs only [yc1, yc2, yc3, yc13, yc16, setA, setB, String.reduceBEq, Nat.reduceEqDiff, Int.reduceEq, Nat.reduceAdd, Nat.reduceLeDiff, Nat.reduceLT, Int.reduceLE, Int.reduceLT, Int.reduceToNat, Int.reduceNegSucc, Nat.reduceMul, Int.reduceAdd, Nat.reduceBEq, Nat.reduceSub, Nat.reducePow, Int.reduceBEq, reduceCtorEq, E0P, E0hand, E0hard, E0row, E0nw, E0aown, E0glob, ↓reduceIte]
            exact j11_21_t s0 signs3 i4 (s0.getD i4.toNat 0) (decide ((s0.getD i4.toNat 0) ≤ (57 : UInt8))) _ (by rfl) (by rfl) (by rfl) (by rfl) (by rfl)
          · simp -implicitDefEqProofs only [yc1, yc2, yc3, yc13, yc16, setA, setB, String.reduceBEq, Nat.reduceEqDiff, Int.reduceEq, Nat.reduceAdd, Nat.reduceLeDiff, Nat.reduceLT, Int.reduceLE, Int.reduceLT, Int.reduceToNat, Int.reduceNegSucc, Nat.reduceMul, Int.reduceAdd, Nat.reduceBEq, Nat.reduceSub, Nat.reducePow, Int.reduceBEq, reduceCtorEq, E0P, E0hand, E0hard, E0row, E0nw, E0aown, E0glob, ↓reduceIte]
            exact j11_21_t s0 signs3 i4 (s0.getD i4.toNat 0) false _ (by rfl) (by rfl) (by rfl) (by rfl) (by rfl)
    · simp -implicitDefEqProofs only [yc1, yc2, setA, setB, String.reduceBEq, Nat.reduceEqDiff, Int.reduceEq, Nat.reduceAdd, Nat.reduceLeDiff, Nat.reduceLT, Int.reduceLE, Int.reduceLT, Int.reduceToNat, Int.reduceNegSucc, Nat.reduceMul, Int.reduceAdd, Nat.reduceBEq, Nat.reduceSub, Nat.reducePow, Int.reduceBEq, reduceCtorEq, E0P, E0hand, E0hard, E0row, E0nw, E0aown, E0glob, ↓reduceIte]
  · simp -implicitDefEqProofs only [c11_14_e, K11_8, yc1, setA, setB, String.reduceBEq, Nat.reduceEqDiff, Int.reduceEq, Nat.reduceAdd, Nat.reduceLeDiff, Nat.reduceLT, Int.reduceLE, Int.reduceLT, Int.reduceToNat, Int.reduceNegSucc, Nat.reduceMul, Int.reduceAdd, Nat.reduceBEq, Nat.reduceSub, Nat.reducePow, Int.reduceBEq, reduceCtorEq, E0P, E0hand, E0hard, E0row, E0nw, E0aown, E0glob, ↓reduceIte]
    exact mi (j11_44_t s0 _ (by rfl))
noncomputable def l11_8 (s0 : Bs) (signs3 : Bs) (i4 : Int) : Option R11 := iter (fun x : Bs × Bs × Int => s11_8 x.1 x.2.1 x.2.2) (s0, signs3, i4)
theorem l11_8_t (s0 : Bs) (signs3 : Bs) (i4 : Int) : bodyD (E0 mm) [.tmp 2] 0 false (seqD (E0 mm) 11 0 (callW (E0 mm)) itW c11_44 (blockD 0 (itW (loopF (E0 mm) 11 0 (callW (E0 mm)) itW c11_9 [(0, .keep), (3, .keep), (4, .keep)]) (none, [.v (.c (.d (.sc (.string (S s0))))), .v (.c (.d (.sc (.string (S signs3))))), .v (.c (.d (.sc (.int .i64 i4))))], [])))) = (l11_8 s0 signs3 i4).map e11 :=
  it_sim (K := (K11_8 (mm := mm))) rfl (enc := en11_8) (fun x => s11_8_t x.1 x.2.1 x.2.2) (s0, signs3, i4)
noncomputable def m11 (s : Bs) : Option R11 :=
  l11_8 s ([33, 35, 36, 37, 38, 39, 42, 43, 45, 46, 94, 95, 96, 124, 126] : Bs) (0 : Int)
set_option maxRecDepth 100000 in
theorem f11_t (s : Bs) :
    callW (E0 mm) 11 [.c (.d (.sc (.string (S s))))] [] = (m11 s).map e11 := by
  rw [callW_run (body := c11_0) (res := [.tmp 2]) Tryd.func11 rfl rfl (by kernel_rfl)]
  simp -implicitDefEqProofs only [m11, slots1, c11_0_e, c11_1_r, (show opsOf c11_1 = _ :: _ from rfl), c11_2_e, c11_3_r, (show opsOf c11_3 = _ :: _ from rfl), c11_4_e, c11_5_e, c11_6_r, (show opsOf c11_6 = _ :: _ from rfl), c11_7_e, c11_8_l, setA, setB, String.reduceBEq, Nat.reduceEqDiff, Int.reduceEq, Nat.reduceAdd, Nat.reduceLeDiff, Nat.reduceLT, Int.reduceLE, Int.reduceLT, Int.reduceToNat, Int.reduceNegSucc, Nat.reduceMul, Int.reduceAdd, Nat.reduceBEq, Nat.reduceSub, Nat.reducePow, Int.reduceBEq, reduceCtorEq, E0P, E0hand, E0hard, E0row, E0nw, E0aown, E0glob, ↓reduceIte]
  exact l11_8_t s ([33, 35, 36, 37, 38, 39, 42, 43, 45, 46, 94, 95, 96, 124, 126] : Bs) (0 : Int)
/-! tollhouse/text.shown -/
noncomputable def c33_0 : Code := bodyOf Tryd.f33
noncomputable def c33_1 : Code := cA c33_0
noncomputable def c33_2 : Code := cB c33_0
noncomputable def c33_3 : Code := cA c33_2
noncomputable def c33_4 : Code := cB c33_2
theorem c33_0_e : c33_0 = .seq c33_1 c33_2 := rfl
theorem c33_1_r (m : Nat) (st : St) : den (E0 mm) 33 m (callW (E0 mm)) itW c33_1 none st = regD (runOps (E0 mm) (callW (E0 mm)) (opsOf c33_1) (opsOf c33_1) st) := den_rg (by rfl)
theorem c33_2_e : c33_2 = .seq c33_3 c33_4 := rfl
theorem c33_3_r (m : Nat) (st : St) : den (E0 mm) 33 m (callW (E0 mm)) itW c33_3 none st = regD (runOps (E0 mm) (callW (E0 mm)) (opsOf c33_3) (opsOf c33_3) st) := den_rg (by rfl)
theorem c33_4_e : c33_4 = .ret := rfl
abbrev R33 := (Bool)
def e33 : R33 → AV × Heap := fun x => (.v (.c (.d (.sc (.bool x)))), [])
noncomputable def m33 (c : UInt8) : Option R33 :=
  if (c == (9 : UInt8)) = true then
    some true
  else
    if (decide ((32 : UInt8) ≤ c)) = true then
      some (!(c == (127 : UInt8)))
    else
      some false
set_option maxRecDepth 100000 in
theorem f33_t (c : UInt8) :
    callW (E0 mm) 33 [.c (.d (.sc (.int .u8 ((c).toNat : Int))))] [] = (m33 c).map e33 := by
  rw [callW_run (body := c33_0) (res := [.tmp 2]) Tryd.func33 rfl rfl (by kernel_rfl)]
  simp -implicitDefEqProofs only [m33, slots1, c33_0_e, c33_1_r, (show opsOf c33_1 = _ :: _ from rfl), c33_2_e, c33_3_r, (show opsOf c33_3 = _ :: _ from rfl), setA, setB, String.reduceBEq, Nat.reduceEqDiff, Int.reduceEq, Nat.reduceAdd, Nat.reduceLeDiff, Nat.reduceLT, Int.reduceLE, Int.reduceLT, Int.reduceToNat, Int.reduceNegSucc, Nat.reduceMul, Int.reduceAdd, Nat.reduceBEq, Nat.reduceSub, Nat.reducePow, Int.reduceBEq, reduceCtorEq, E0P, E0hand, E0hard, E0row, E0nw, E0aown, E0glob, ↓reduceIte]
  refine brB (fun yc1 => ?_) (fun yc1 => ?_)
  · simp -implicitDefEqProofs only [c33_4_e, yc1, setA, setB, String.reduceBEq, Nat.reduceEqDiff, Int.reduceEq, Nat.reduceAdd, Nat.reduceLeDiff, Nat.reduceLT, Int.reduceLE, Int.reduceLT, Int.reduceToNat, Int.reduceNegSucc, Nat.reduceMul, Int.reduceAdd, Nat.reduceBEq, Nat.reduceSub, Nat.reducePow, Int.reduceBEq, reduceCtorEq, E0P, E0hand, E0hard, E0row, E0nw, E0aown, E0glob, ↓reduceIte]
    all_goals rfl
  · simp -implicitDefEqProofs only [yc1, setA, setB, String.reduceBEq, Nat.reduceEqDiff, Int.reduceEq, Nat.reduceAdd, Nat.reduceLeDiff, Nat.reduceLT, Int.reduceLE, Int.reduceLT, Int.reduceToNat, Int.reduceNegSucc, Nat.reduceMul, Int.reduceAdd, Nat.reduceBEq, Nat.reduceSub, Nat.reducePow, Int.reduceBEq, reduceCtorEq, E0P, E0hand, E0hard, E0row, E0nw, E0aown, E0glob, ↓reduceIte]
    refine brB (fun yc2 => ?_) (fun yc2 => ?_)
    · simp -implicitDefEqProofs only [c33_4_e, yc1, yc2, setA, setB, String.reduceBEq, Nat.reduceEqDiff, Int.reduceEq, Nat.reduceAdd, Nat.reduceLeDiff, Nat.reduceLT, Int.reduceLE, Int.reduceLT, Int.reduceToNat, Int.reduceNegSucc, Nat.reduceMul, Int.reduceAdd, Nat.reduceBEq, Nat.reduceSub, Nat.reducePow, Int.reduceBEq, reduceCtorEq, E0P, E0hand, E0hard, E0row, E0nw, E0aown, E0glob, ↓reduceIte]
      all_goals rfl
    · simp -implicitDefEqProofs only [c33_4_e, yc1, yc2, setA, setB, String.reduceBEq, Nat.reduceEqDiff, Int.reduceEq, Nat.reduceAdd, Nat.reduceLeDiff, Nat.reduceLT, Int.reduceLE, Int.reduceLT, Int.reduceToNat, Int.reduceNegSucc, Nat.reduceMul, Int.reduceAdd, Nat.reduceBEq, Nat.reduceSub, Nat.reducePow, Int.reduceBEq, reduceCtorEq, E0P, E0hand, E0hard, E0row, E0nw, E0aown, E0glob, ↓reduceIte]
      all_goals rfl
/-! tollhouse/text.all$1 -/
abbrev R42a := (Bool)
def e42a : R42a → AV × Heap := fun x => (.v (.c (.d (.sc (.bool x)))), [.cells [.d (.sc (.func (.func 33) #[] #[]))]])
noncomputable def m42a (c : UInt8) : Option R42a :=
  (m33 c).bind fun yr2 =>
    some (!yr2)
set_option maxRecDepth 100000 in
theorem f42a_t (c : UInt8) :
    callW (E0 mm) 42 [.c (.d (.sc (.int .u8 ((c).toNat : Int)))), .c (.ptr 0 0)] [.cells [.d (.sc (.func (.func 33) #[] #[]))]] = (m42a c).map e42a := by
  rw [callW_run (body := c42_0) (res := [.tmp 3]) Tryd.func42 rfl rfl (by kernel_rfl)]
  simp -implicitDefEqProofs only [m42a, slots2, c42_0_e, c42_1_r, (show opsOf c42_1 = _ :: _ from rfl), c42_2_e, c42_3_r, (show opsOf c42_3 = _ :: _ from rfl), sz37, ag37, ent33, prm33, f33_t, setA, setB, String.reduceBEq, Nat.reduceEqDiff, Int.reduceEq, Nat.reduceAdd, Nat.reduceLeDiff, Nat.reduceLT, Int.reduceLE, Int.reduceLT, Int.reduceToNat, Int.reduceNegSucc, Nat.reduceMul, Int.reduceAdd, Nat.reduceBEq, Nat.reduceSub, Nat.reducePow, Int.reduceBEq, reduceCtorEq, E0P, E0hand, E0hard, E0row, E0nw, E0aown, E0glob, ↓reduceIte]
  refine brM (fun yc1 => ?_) (fun yr2 yc1 => ?_)
  · simp -implicitDefEqProofs only [yc1, e33, setA, setB, String.reduceBEq, Nat.reduceEqDiff, Int.reduceEq, Nat.reduceAdd, Nat.reduceLeDiff, Nat.reduceLT, Int.reduceLE, Int.reduceLT, Int.reduceToNat, Int.reduceNegSucc, Nat.reduceMul, Int.reduceAdd, Nat.reduceBEq, Nat.reduceSub, Nat.reducePow, Int.reduceBEq, reduceCtorEq, E0P, E0hand, E0hard, E0row, E0nw, E0aown, E0glob, ↓reduceIte]
  · simp -implicitDefEqProofs only [e33, c42_4_e, yc1, setA, setB, String.reduceBEq, Nat.reduceEqDiff, Int.reduceEq, Nat.reduceAdd, Nat.reduceLeDiff, Nat.reduceLT, Int.reduceLE, Int.reduceLT, Int.reduceToNat, Int.reduceNegSucc, Nat.reduceMul, Int.reduceAdd, Nat.reduceBEq, Nat.reduceSub, Nat.reducePow, Int.reduceBEq, reduceCtorEq, E0P, E0hand, E0hard, E0row, E0nw, E0aown, E0glob, ↓reduceIte]
    all_goals rfl
/-! slices.IndexFunc[[]byte,byte] -/
abbrev R53a := (Int)
def e53a : R53a → AV × Heap := fun x => (.v (.c (.d (.sc (.int .i64 x)))), [.cells [.d (.sc (.func (.func 33) #[] #[]))]])
noncomputable def K53a_6 : Option (Ex × St) → Option (AV × Heap) := fun r => bodyD (E0 mm) [.tmp 4] 1 false (seqD (E0 mm) 53 1 (callW (E0 mm)) itW c53_25 (blockD 0 (r)))
def en53a_6 : Bool × List UInt8 × Int × Int → X := fun x => (none, [.v (.c (.d (.lst x.1 (enL enB x.2.1)))), .v (.c (.fn 42 [(0, 0)])), .v (.c (.d (.sc (.int .i64 x.2.2.1)))), .v (.c (.d (.sc (.int .i64 x.2.2.2))))], [.cells [.d (.sc (.func (.func 33) #[] #[]))]])
noncomputable def j53a_25  : Option R53a :=
  some (-1 : Int)
set_option maxRecDepth 100000 in
theorem j53a_25_t   (sl : Nat → AV)  :
    bodyD (E0 mm) [.tmp 4] 1 false (den (E0 mm) 53 1 (callW (E0 mm)) itW c53_25 none ⟨sl, [.cells [.d (.sc (.func (.func 33) #[] #[]))]]⟩) = (j53a_25).map e53a := by
  simp -implicitDefEqProofs only [j53a_25, c53_25_e, c53_26_r, (show opsOf c53_26 = _ :: _ from rfl), c53_27_e, setA, setB, String.reduceBEq, Nat.reduceEqDiff, Int.reduceEq, Nat.reduceAdd, Nat.reduceLeDiff, Nat.reduceLT, Int.reduceLE, Int.reduceLT, Int.reduceToNat, Int.reduceNegSucc, Nat.reduceMul, Int.reduceAdd, Nat.reduceBEq, Nat.reduceSub, Nat.reducePow, Int.reduceBEq, reduceCtorEq, E0P, E0hand, E0hard, E0row, E0nw, E0aown, E0glob, ↓reduceIte]
  all_goals rfl
noncomputable def s53a_6 (s0_0 : Bool) (s0_1 : List UInt8) (t7 : Int) (t8 : Int) : Option ((Bool × List UInt8 × Int × Int) ⊕ R53a) :=
  if (decide (t8 < t7)) = true then
    if 0 ≤ t8 ∧ t8 < (s0_1.length : Int) then
      (m42a (s0_1.getD t8.toNat default)).bind fun yr5 =>
        if yr5 = true then
          some (.inr t8)
        else
          some (.inl (s0_0, s0_1, t7, (w64 (t8 + 1))))
    else none
  else
    (j53a_25).map .inr
set_option maxRecDepth 100000 in
theorem s53a_6_t (s0_0 : Bool) (s0_1 : List UInt8) (t7 : Int) (t8 : Int) :
    stepE (K53a_6 (mm := mm)) (loopF (E0 mm) 53 1 (callW (E0 mm)) itW c53_7 [(0, .keep), (1, .keep), (7, .keep), (8, .keep)] (none, [.v (.c (.d (.lst s0_0 (enL enB s0_1)))), .v (.c (.fn 42 [(0, 0)])), .v (.c (.d (.sc (.int .i64 t7)))), .v (.c (.d (.sc (.int .i64 t8))))], [.cells [.d (.sc (.func (.func 33) #[] #[]))]])) = (s53a_6 s0_0 s0_1 t7 t8).map (sm en53a_6 e53a) := by
  simp -implicitDefEqProofs only [s53a_6, loopF_eq, c53_7_e, c53_8_r, (show opsOf c53_8 = _ :: _ from rfl), c53_9_e, (show c53_10 = Code.cond _ c53_11 c53_12 from rfl), setA, setB, String.reduceBEq, Nat.reduceEqDiff, Int.reduceEq, Nat.reduceAdd, Nat.reduceLeDiff, Nat.reduceLT, Int.reduceLE, Int.reduceLT, Int.reduceToNat, Int.reduceNegSucc, Nat.reduceMul, Int.reduceAdd, Nat.reduceBEq, Nat.reduceSub, Nat.reducePow, Int.reduceBEq, reduceCtorEq, E0P, E0hand, E0hard, E0row, E0nw, E0aown, E0glob, ↓reduceIte]
  refine brB (fun yc1 => ?_) (fun yc1 => ?_)
  · simp -implicitDefEqProofs only [c53_11_e, c53_13_e, c53_14_e, c53_15_e, c53_16_r, (show opsOf c53_16 = _ :: _ from rfl), c53_17_e, c53_18_r, (show opsOf c53_18 = _ :: _ from rfl), Tryd.underlying33, sz5, enB_a, yc1, setA, setB, String.reduceBEq, Nat.reduceEqDiff, Int.reduceEq, Nat.reduceAdd, Nat.reduceLeDiff, Nat.reduceLT, Int.reduceLE, Int.reduceLT, Int.reduceToNat, Int.reduceNegSucc, Nat.reduceMul, Int.reduceAdd, Nat.reduceBEq, Nat.reduceSub, Nat.reducePow, Int.reduceBEq, reduceCtorEq, E0P, E0hand, E0hard, E0row, E0nw, E0aown, E0glob, ↓reduceIte]
    refine brP (fun yc2 => ?_) (fun yc2 => ?_)
    · have yd3 : t8.toNat < s0_1.length := by omega
      simp -implicitDefEqProofs only [(enL_get enB s0_1 t8.toNat yd3), enB_e, sz5, ag5, ent42, prm42, f42a_t, yc1, yc2, yd3, setA, setB, String.reduceBEq, Nat.reduceEqDiff, Int.reduceEq, Nat.reduceAdd, Nat.reduceLeDiff, Nat.reduceLT, Int.reduceLE, Int.reduceLT, Int.reduceToNat, Int.reduceNegSucc, Nat.reduceMul, Int.reduceAdd, Nat.reduceBEq, Nat.reduceSub, Nat.reducePow, Int.reduceBEq, reduceCtorEq, E0P, E0hand, E0hard, E0row, E0nw, E0aown, E0glob, ↓reduceIte]
      refine brM (fun yc4 => ?_) (fun yr5 yc4 => ?_)
      · simp -implicitDefEqProofs only [yc4, yc1, yc2, yd3, e42a, setA, setB, String.reduceBEq, Nat.reduceEqDiff, Int.reduceEq, Nat.reduceAdd, Nat.reduceLeDiff, Nat.reduceLT, Int.reduceLE, Int.reduceLT, Int.reduceToNat, Int.reduceNegSucc, Nat.reduceMul, Int.reduceAdd, Nat.reduceBEq, Nat.reduceSub, Nat.reducePow, Int.reduceBEq, reduceCtorEq, E0P, E0hand, E0hard, E0row, E0nw, E0aown, E0glob, ↓reduceIte]
      · simp -implicitDefEqProofs only [e42a, (show c53_19 = Code.cond _ c53_20 c53_23 from rfl), yc1, yc2, yd3, yc4, setA, setB, String.reduceBEq, Nat.reduceEqDiff, Int.reduceEq, Nat.reduceAdd, Nat.reduceLeDiff, Nat.reduceLT, Int.reduceLE, Int.reduceLT, Int.reduceToNat, Int.reduceNegSucc, Nat.reduceMul, Int.reduceAdd, Nat.reduceBEq, Nat.reduceSub, Nat.reducePow, Int.reduceBEq, reduceCtorEq, E0P, E0hand, E0hard, E0row, E0nw, E0aown, E0glob, ↓reduceIte]
        refine brB (fun yc6 => ?_) (fun yc6 => ?_)
        · simp -implicitDefEqProofs only [c53_20_e, c53_21_r, (show opsOf c53_21 = _ :: _ from rfl), c53_22_e, K53a_6, yc1, yc2, yd3, yc4, yc6, setA, setB, String.reduceBEq, Nat.reduceEqDiff, Int.reduceEq, Nat.reduceAdd, Nat.reduceLeDiff, Nat.reduceLT, Int.reduceLE, Int.reduceLT, Int.reduceToNat, Int.reduceNegSucc, Nat.reduceMul, Int.reduceAdd, Nat.reduceBEq, Nat.reduceSub, Nat.reducePow, Int.reduceBEq, reduceCtorEq, E0P, E0hand, E0hard, E0row, E0nw, E0aown, E0glob, ↓reduceIte]
          all_goals rfl
        · simp -implicitDefEqProofs only [c53_23_e, c53_24_r, (show opsOf c53_24 = _ :: _ from rfl), yc1, yc2, yd3, yc4, yc6, setA, setB, String.reduceBEq, Nat.reduceEqDiff, Int.reduceEq, Nat.reduceAdd, Nat.reduceLeDiff, Nat.reduceLT, Int.reduceLE, Int.reduceLT, Int.reduceToNat, Int.reduceNegSucc, Nat.reduceMul, Int.reduceAdd, Nat.reduceBEq, Nat.reduceSub, Nat.reducePow, Int.reduceBEq, reduceCtorEq, E0P, E0hand, E0hard, E0row, E0nw, E0aown, E0glob, ↓reduceIte]
          all_goals rfl
    · simp -implicitDefEqProofs only [yc1, yc2, setA, setB, String.reduceBEq, Nat.reduceEqDiff, Int.reduceEq, Nat.reduceAdd, Nat.reduceLeDiff, Nat.reduceLT, Int.reduceLE, Int.reduceLT, Int.reduceToNat, Int.reduceNegSucc, Nat.reduceMul, Int.reduceAdd, Nat.reduceBEq, Nat.reduceSub, Nat.reducePow, Int.reduceBEq, reduceCtorEq, E0P, E0hand, E0hard, E0row, E0nw, E0aown, E0glob, ↓reduceIte]
  · simp -implicitDefEqProofs only [c53_12_e, K53a_6, yc1, setA, setB, String.reduceBEq, Nat.reduceEqDiff, Int.reduceEq, Nat.reduceAdd, Nat.reduceLeDiff, Nat.reduceLT, Int.reduceLE, Int.reduceLT, Int.reduceToNat, Int.reduceNegSucc, Nat.reduceMul, Int.reduceAdd, Nat.reduceBEq, Nat.reduceSub, Nat.reducePow, Int.reduceBEq, reduceCtorEq, E0P, E0hand, E0hard, E0row, E0nw, E0aown, E0glob, ↓reduceIte]
    exact mi (j53a_25_t _)
noncomputable def l53a_6 (s0_0 : Bool) (s0_1 : List UInt8) (t7 : Int) (t8 : Int) : Option R53a := iter (fun x : Bool × List UInt8 × Int × Int => s53a_6 x.1 x.2.1 x.2.2.1 x.2.2.2) (s0_0, s0_1, t7, t8)
theorem l53a_6_t (s0_0 : Bool) (s0_1 : List UInt8) (t7 : Int) (t8 : Int) : bodyD (E0 mm) [.tmp 4] 1 false (seqD (E0 mm) 53 1 (callW (E0 mm)) itW c53_25 (blockD 0 (itW (loopF (E0 mm) 53 1 (callW (E0 mm)) itW c53_7 [(0, .keep), (1, .keep), (7, .keep), (8, .keep)]) (none, [.v (.c (.d (.lst s0_0 (enL enB s0_1)))), .v (.c (.fn 42 [(0, 0)])), .v (.c (.d (.sc (.int .i64 t7)))), .v (.c (.d (.sc (.int .i64 t8))))], [.cells [.d (.sc (.func (.func 33) #[] #[]))]])))) = (l53a_6 s0_0 s0_1 t7 t8).map e53a :=
  it_sim (K := (K53a_6 (mm := mm))) rfl (enc := en53a_6) (fun x => s53a_6_t x.1 x.2.1 x.2.2.1 x.2.2.2) (s0_0, s0_1, t7, t8)
noncomputable def m53a (s_0 : Bool) (s_1 : List UInt8) : Option R53a :=
  l53a_6 s_0 s_1 (s_1.length : Int) (0 : Int)
set_option maxRecDepth 100000 in
theorem f53a_t (s_0 : Bool) (s_1 : List UInt8) :
    callW (E0 mm) 53 [.c (.d (.lst s_0 (enL enB s_1))), .c (.fn 42 [(0, 0)])] [.cells [.d (.sc (.func (.func 33) #[] #[]))]] = (m53a s_0 s_1).map e53a := by
  rw [callW_run (body := c53_0) (res := [.tmp 4]) Tryd.func53 rfl rfl (by kernel_rfl)]
  simp -implicitDefEqProofs only [m53a, slots2, c53_0_e, c53_1_r, (show opsOf c53_1 = _ :: _ from rfl), c53_2_e, c53_3_e, c53_4_r, (show opsOf c53_4 = _ :: _ from rfl), Tryd.underlying33, c53_5_e, c53_6_l, setA, setB, String.reduceBEq, Nat.reduceEqDiff, Int.reduceEq, Nat.reduceAdd, Nat.reduceLeDiff, Nat.reduceLT, Int.reduceLE, Int.reduceLT, Int.reduceToNat, Int.reduceNegSucc, Nat.reduceMul, Int.reduceAdd, Nat.reduceBEq, Nat.reduceSub, Nat.reducePow, Int.reduceBEq, reduceCtorEq, E0P, E0hand, E0hard, E0row, E0nw, E0aown, E0glob, ↓reduceIte]
  exact l53a_6_t s_0 s_1 (s_1.length : Int) (0 : Int)
/-! slices.ContainsFunc[[]byte,byte] -/
abbrev R41a := (Bool)
def e41a : R41a → AV × Heap := fun x => (.v (.c (.d (.sc (.bool x)))), [.cells [.d (.sc (.func (.func 33) #[] #[]))]])
noncomputable def m41a (s_0 : Bool) (s_1 : List UInt8) : Option R41a :=
  (m53a s_0 s_1).bind fun yr2 =>
    some (decide (0 ≤ yr2))
set_option maxRecDepth 100000 in
theorem f41a_t (s_0 : Bool) (s_1 : List UInt8) :
    callW (E0 mm) 41 [.c (.d (.lst s_0 (enL enB s_1))), .c (.fn 42 [(0, 0)])] [.cells [.d (.sc (.func (.func 33) #[] #[]))]] = (m41a s_0 s_1).map e41a := by
  rw [callW_run (body := c41_0) (res := [.tmp 4]) Tryd.func41 rfl rfl (by kernel_rfl)]
  simp -implicitDefEqProofs only [m41a, slots2, c41_0_e, c41_1_r, (show opsOf c41_1 = _ :: _ from rfl), c41_2_e, c41_3_r, (show opsOf c41_3 = _ :: _ from rfl), ent53, prm53, f53a_t, setA, setB, String.reduceBEq, Nat.reduceEqDiff, Int.reduceEq, Nat.reduceAdd, Nat.reduceLeDiff, Nat.reduceLT, Int.reduceLE, Int.reduceLT, Int.reduceToNat, Int.reduceNegSucc, Nat.reduceMul, Int.reduceAdd, Nat.reduceBEq, Nat.reduceSub, Nat.reducePow, Int.reduceBEq, reduceCtorEq, E0P, E0hand, E0hard, E0row, E0nw, E0aown, E0glob, ↓reduceIte]
  refine brM (fun yc1 => ?_) (fun yr2 yc1 => ?_)
  · simp -implicitDefEqProofs only [yc1, e53a, setA, setB, String.reduceBEq, Nat.reduceEqDiff, Int.reduceEq, Nat.reduceAdd, Nat.reduceLeDiff, Nat.reduceLT, Int.reduceLE, Int.reduceLT, Int.reduceToNat, Int.reduceNegSucc, Nat.reduceMul, Int.reduceAdd, Nat.reduceBEq, Nat.reduceSub, Nat.reducePow, Int.reduceBEq, reduceCtorEq, E0P, E0hand, E0hard, E0row, E0nw, E0aown, E0glob, ↓reduceIte]
  · simp -implicitDefEqProofs only [e53a, c41_4_e, yc1, setA, setB, String.reduceBEq, Nat.reduceEqDiff, Int.reduceEq, Nat.reduceAdd, Nat.reduceLeDiff, Nat.reduceLT, Int.reduceLE, Int.reduceLT, Int.reduceToNat, Int.reduceNegSucc, Nat.reduceMul, Int.reduceAdd, Nat.reduceBEq, Nat.reduceSub, Nat.reducePow, Int.reduceBEq, reduceCtorEq, E0P, E0hand, E0hard, E0row, E0nw, E0aown, E0glob, ↓reduceIte]
    all_goals rfl
/-! tollhouse/text.all -/
abbrev R30a := (Bool)
def e30a : R30a → AV × Heap := fun x => (.v (.c (.d (.sc (.bool x)))), [])
noncomputable def m30a (s : Bs) : Option R30a :=
  (m41a false s).bind fun yr2 =>
    some (!yr2)
set_option maxRecDepth 100000 in
theorem f30a_t (s : Bs) :
    callW (E0 mm) 30 [.c (.d (.sc (.string (S s)))), .c (.d (.sc (.func (.func 33) #[] #[])))] [] = (m30a s).map e30a := by
  rw [callW_run (body := c30_0) (res := [.tmp 4]) Tryd.func30 rfl rfl (by kernel_rfl)]
  simp -implicitDefEqProofs only [m30a, slots2, c30_0_e, c30_1_r, (show opsOf c30_1 = _ :: _ from rfl), c30_2_e, c30_3_r, (show opsOf c30_3 = _ :: _ from rfl), Tryd.underlying9, Tryd.underlying33, Tryd.underlying5, ent41, prm41, (show callW (E0 mm) 41 [.c (.d (.lst false (enL enB s))), .c (.fn 42 [(0, 0)])] [.cells [.d (.sc (.func (.func 33) #[] #[]))]] = _ from f41a_t false s), setA, setB, String.reduceBEq, Nat.reduceEqDiff, Int.reduceEq, Nat.reduceAdd, Nat.reduceLeDiff, Nat.reduceLT, Int.reduceLE, Int.reduceLT, Int.reduceToNat, Int.reduceNegSucc, Nat.reduceMul, Int.reduceAdd, Nat.reduceBEq, Nat.reduceSub, Nat.reducePow, Int.reduceBEq, reduceCtorEq, E0P, E0hand, E0hard, E0row, E0nw, E0aown, E0glob, ↓reduceIte]
  refine brM (fun yc1 => ?_) (fun yr2 yc1 => ?_)
  · simp -implicitDefEqProofs only [yc1, e41a, setA, setB, String.reduceBEq, Nat.reduceEqDiff, Int.reduceEq, Nat.reduceAdd, Nat.reduceLeDiff, Nat.reduceLT, Int.reduceLE, Int.reduceLT, Int.reduceToNat, Int.reduceNegSucc, Nat.reduceMul, Int.reduceAdd, Nat.reduceBEq, Nat.reduceSub, Nat.reducePow, Int.reduceBEq, reduceCtorEq, E0P, E0hand, E0hard, E0row, E0nw, E0aown, E0glob, ↓reduceIte]
  · simp -implicitDefEqProofs only [e41a, c30_4_e, yc1, setA, setB, String.reduceBEq, Nat.reduceEqDiff, Int.reduceEq, Nat.reduceAdd, Nat.reduceLeDiff, Nat.reduceLT, Int.reduceLE, Int.reduceLT, Int.reduceToNat, Int.reduceNegSucc, Nat.reduceMul, Int.reduceAdd, Nat.reduceBEq, Nat.reduceSub, Nat.reducePow, Int.reduceBEq, reduceCtorEq, E0P, E0hand, E0hard, E0row, E0nw, E0aown, E0glob, ↓reduceIte]
    all_goals rfl
/-! tollhouse/text.Visible -/
noncomputable def c12_0 : Code := bodyOf Tryd.f12
noncomputable def c12_1 : Code := cA c12_0
noncomputable def c12_2 : Code := cB c12_0
noncomputable def c12_3 : Code := cA c12_2
noncomputable def c12_4 : Code := cB c12_2
theorem c12_0_e : c12_0 = .seq c12_1 c12_2 := rfl
theorem c12_1_r (m : Nat) (st : St) : den (E0 mm) 12 m (callW (E0 mm)) itW c12_1 none st = regD (runOps (E0 mm) (callW (E0 mm)) (opsOf c12_1) (opsOf c12_1) st) := den_rg (by rfl)
theorem c12_2_e : c12_2 = .seq c12_3 c12_4 := rfl
theorem c12_3_r (m : Nat) (st : St) : den (E0 mm) 12 m (callW (E0 mm)) itW c12_3 none st = regD (runOps (E0 mm) (callW (E0 mm)) (opsOf c12_3) (opsOf c12_3) st) := den_rg (by rfl)
theorem c12_4_e : c12_4 = .ret := rfl
abbrev R12 := (Bool)
def e12 : R12 → AV × Heap := fun x => (.v (.c (.d (.sc (.bool x)))), [])
noncomputable def m12 (s : Bs) : Option R12 :=
  (m30a s).bind fun yr2 =>
    some yr2
set_option maxRecDepth 100000 in
theorem f12_t (s : Bs) :
    callW (E0 mm) 12 [.c (.d (.sc (.string (S s))))] [] = (m12 s).map e12 := by
  rw [callW_run (body := c12_0) (res := [.tmp 2]) Tryd.func12 rfl rfl (by kernel_rfl)]
  simp -implicitDefEqProofs only [m12, slots1, c12_0_e, c12_1_r, (show opsOf c12_1 = _ :: _ from rfl), c12_2_e, c12_3_r, (show opsOf c12_3 = _ :: _ from rfl), ent30, prm30, f30a_t, setA, setB, String.reduceBEq, Nat.reduceEqDiff, Int.reduceEq, Nat.reduceAdd, Nat.reduceLeDiff, Nat.reduceLT, Int.reduceLE, Int.reduceLT, Int.reduceToNat, Int.reduceNegSucc, Nat.reduceMul, Int.reduceAdd, Nat.reduceBEq, Nat.reduceSub, Nat.reducePow, Int.reduceBEq, reduceCtorEq, E0P, E0hand, E0hard, E0row, E0nw, E0aown, E0glob, ↓reduceIte]
  refine brM (fun yc1 => ?_) (fun yr2 yc1 => ?_)
  · simp -implicitDefEqProofs only [yc1, e30a, setA, setB, String.reduceBEq, Nat.reduceEqDiff, Int.reduceEq, Nat.reduceAdd, Nat.reduceLeDiff, Nat.reduceLT, Int.reduceLE, Int.reduceLT, Int.reduceToNat, Int.reduceNegSucc, Nat.reduceMul, Int.reduceAdd, Nat.reduceBEq, Nat.reduceSub, Nat.reducePow, Int.reduceBEq, reduceCtorEq, E0P, E0hand, E0hard, E0row, E0nw, E0aown, E0glob, ↓reduceIte]
  · simp -implicitDefEqProofs only [e30a, c12_4_e, yc1, setA, setB, String.reduceBEq, Nat.reduceEqDiff, Int.reduceEq, Nat.reduceAdd, Nat.reduceLeDiff, Nat.reduceLT, Int.reduceLE, Int.reduceLT, Int.reduceToNat, Int.reduceNegSucc, Nat.reduceMul, Int.reduceAdd, Nat.reduceBEq, Nat.reduceSub, Nat.reducePow, Int.reduceBEq, reduceCtorEq, E0P, E0hand, E0hard, E0row, E0nw, E0aown, E0glob, ↓reduceIte]
    all_goals rfl
/-! tollhouse/tollhouseref02.shown -/
noncomputable def c34_0 : Code := bodyOf Tryd.f34
noncomputable def c34_1 : Code := cA c34_0
noncomputable def c34_2 : Code := cB c34_0
noncomputable def c34_3 : Code := cA c34_2
noncomputable def c34_4 : Code := cB c34_2
theorem c34_0_e : c34_0 = .seq c34_1 c34_2 := rfl
theorem c34_1_r (m : Nat) (st : St) : den (E0 mm) 34 m (callW (E0 mm)) itW c34_1 none st = regD (runOps (E0 mm) (callW (E0 mm)) (opsOf c34_1) (opsOf c34_1) st) := den_rg (by rfl)
theorem c34_2_e : c34_2 = .seq c34_3 c34_4 := rfl
theorem c34_3_r (m : Nat) (st : St) : den (E0 mm) 34 m (callW (E0 mm)) itW c34_3 none st = regD (runOps (E0 mm) (callW (E0 mm)) (opsOf c34_3) (opsOf c34_3) st) := den_rg (by rfl)
theorem c34_4_e : c34_4 = .ret := rfl
abbrev R34 := (Bool)
def e34 : R34 → AV × Heap := fun x => (.v (.c (.d (.sc (.bool x)))), [])
noncomputable def m34 (c : UInt8) : Option R34 :=
  if (c == (9 : UInt8)) = true then
    some true
  else
    if (decide ((32 : UInt8) ≤ c)) = true then
      if (decide (c ≤ (126 : UInt8))) = true then
        some true
      else
        some (decide ((128 : UInt8) ≤ c))
    else
      some (decide ((128 : UInt8) ≤ c))
set_option maxRecDepth 100000 in
theorem f34_t (c : UInt8) :
    callW (E0 mm) 34 [.c (.d (.sc (.int .u8 ((c).toNat : Int))))] [] = (m34 c).map e34 := by
  rw [callW_run (body := c34_0) (res := [.tmp 2]) Tryd.func34 rfl rfl (by kernel_rfl)]
  simp -implicitDefEqProofs only [m34, slots1, c34_0_e, c34_1_r, (show opsOf c34_1 = _ :: _ from rfl), c34_2_e, c34_3_r, (show opsOf c34_3 = _ :: _ from rfl), setA, setB, String.reduceBEq, Nat.reduceEqDiff, Int.reduceEq, Nat.reduceAdd, Nat.reduceLeDiff, Nat.reduceLT, Int.reduceLE, Int.reduceLT, Int.reduceToNat, Int.reduceNegSucc, Nat.reduceMul, Int.reduceAdd, Nat.reduceBEq, Nat.reduceSub, Nat.reducePow, Int.reduceBEq, reduceCtorEq, E0P, E0hand, E0hard, E0row, E0nw, E0aown, E0glob, ↓reduceIte]
  refine brB (fun yc1 => ?_) (fun yc1 => ?_)
  · simp -implicitDefEqProofs only [c34_4_e, yc1, setA, setB, String.reduceBEq, Nat.reduceEqDiff, Int.reduceEq, Nat.reduceAdd, Nat.reduceLeDiff, Nat.reduceLT, Int.reduceLE, Int.reduceLT, Int.reduceToNat, Int.reduceNegSucc, Nat.reduceMul, Int.reduceAdd, Nat.reduceBEq, Nat.reduceSub, Nat.reducePow, Int.reduceBEq, reduceCtorEq, E0P, E0hand, E0hard, E0row, E0nw, E0aown, E0glob, ↓reduceIte]
    all_goals rfl
  · simp -implicitDefEqProofs only [yc1, setA, setB, String.reduceBEq, Nat.reduceEqDiff, Int.reduceEq, Nat.reduceAdd, Nat.reduceLeDiff, Nat.reduceLT, Int.reduceLE, Int.reduceLT, Int.reduceToNat, Int.reduceNegSucc, Nat.reduceMul, Int.reduceAdd, Nat.reduceBEq, Nat.reduceSub, Nat.reducePow, Int.reduceBEq, reduceCtorEq, E0P, E0hand, E0hard, E0row, E0nw, E0aown, E0glob, ↓reduceIte]
    refine brB (fun yc2 => ?_) (fun yc2 => ?_)
    · simp -implicitDefEqProofs only [yc1, yc2, setA, setB, String.reduceBEq, Nat.reduceEqDiff, Int.reduceEq, Nat.reduceAdd, Nat.reduceLeDiff, Nat.reduceLT, Int.reduceLE, Int.reduceLT, Int.reduceToNat, Int.reduceNegSucc, Nat.reduceMul, Int.reduceAdd, Nat.reduceBEq, Nat.reduceSub, Nat.reducePow, Int.reduceBEq, reduceCtorEq, E0P, E0hand, E0hard, E0row, E0nw, E0aown, E0glob, ↓reduceIte]
      refine brB (fun yc3 => ?_) (fun yc3 => ?_)
      · simp -implicitDefEqProofs only [c34_4_e, yc1, yc2, yc3, setA, setB, String.reduceBEq, Nat.reduceEqDiff, Int.reduceEq, Nat.reduceAdd, Nat.reduceLeDiff, Nat.reduceLT, Int.reduceLE, Int.reduceLT, Int.reduceToNat, Int.reduceNegSucc, Nat.reduceMul, Int.reduceAdd, Nat.reduceBEq, Nat.reduceSub, Nat.reducePow, Int.reduceBEq, reduceCtorEq, E0P, E0hand, E0hard, E0row, E0nw, E0aown, E0glob, ↓reduceIte]
        all_goals rfl
      · simp -implicitDefEqProofs only [c34_4_e, yc1, yc2, yc3, setA, setB, String.reduceBEq, Nat.reduceEqDiff, Int.reduceEq, Nat.reduceAdd, Nat.reduceLeDiff, Nat.reduceLT, Int.reduceLE, Int.reduceLT, Int.reduceToNat, Int.reduceNegSucc, Nat.reduceMul, Int.reduceAdd, Nat.reduceBEq, Nat.reduceSub, Nat.reducePow, Int.reduceBEq, reduceCtorEq, E0P, E0hand, E0hard, E0row, E0nw, E0aown, E0glob, ↓reduceIte]
        all_goals rfl
    · simp -implicitDefEqProofs only [c34_4_e, yc1, yc2, setA, setB, String.reduceBEq, Nat.reduceEqDiff, Int.reduceEq, Nat.reduceAdd, Nat.reduceLeDiff, Nat.reduceLT, Int.reduceLE, Int.reduceLT, Int.reduceToNat, Int.reduceNegSucc, Nat.reduceMul, Int.reduceAdd, Nat.reduceBEq, Nat.reduceSub, Nat.reducePow, Int.reduceBEq, reduceCtorEq, E0P, E0hand, E0hard, E0row, E0nw, E0aown, E0glob, ↓reduceIte]
      all_goals rfl
/-! tollhouse/tollhouseref02.Visible -/
noncomputable def c13_0 : Code := bodyOf Tryd.f13
noncomputable def c13_1 : Code := cA c13_0
noncomputable def c13_2 : Code := cB c13_0
noncomputable def c13_3 : Code := cA c13_2
noncomputable def c13_4 : Code := cA c13_3
noncomputable def c13_5 : Code := cB c13_3
noncomputable def c13_6 : Code := cA c13_5
noncomputable def c13_7 : Code := cA c13_6
noncomputable def c13_8 : Code := cA c13_7
noncomputable def c13_9 : Code := cA c13_8
noncomputable def c13_10 : Code := cB c13_8
noncomputable def c13_11 : Code := cA c13_10
noncomputable def c13_12 : Code := cB c13_10
noncomputable def c13_13 : Code := cB c13_7
noncomputable def c13_14 : Code := cA c13_13
noncomputable def c13_15 : Code := cA c13_14
noncomputable def c13_16 : Code := cA c13_15
noncomputable def c13_17 : Code := cB c13_15
noncomputable def c13_18 : Code := cA c13_17
noncomputable def c13_19 : Code := cA c13_18
noncomputable def c13_20 : Code := cB c13_18
noncomputable def c13_21 : Code := cB c13_17
noncomputable def c13_22 : Code := cB c13_13
noncomputable def c13_23 : Code := cB c13_2
noncomputable def c13_24 : Code := cA c13_23
noncomputable def c13_25 : Code := cB c13_23
theorem c13_0_e : c13_0 = .seq c13_1 c13_2 := rfl
theorem c13_1_r (m : Nat) (st : St) : den (E0 mm) 13 m (callW (E0 mm)) itW c13_1 none st = regD (runOps (E0 mm) (callW (E0 mm)) (opsOf c13_1) (opsOf c13_1) st) := den_rg (by rfl)
theorem c13_2_e : c13_2 = .seq c13_3 c13_23 := rfl
theorem c13_3_e : c13_3 = .seq c13_4 c13_5 := rfl
theorem c13_4_r (m : Nat) (st : St) : den (E0 mm) 13 m (callW (E0 mm)) itW c13_4 none st = regD (runOps (E0 mm) (callW (E0 mm)) (opsOf c13_4) (opsOf c13_4) st) := den_rg (by rfl)
theorem c13_5_e : c13_5 = .block 0 c13_6 := rfl
theorem c13_6_l (m : Nat) (st : St) : den (E0 mm) 13 m (callW (E0 mm)) itW c13_6 none st = loopD itW (loopF (E0 mm) 13 m (callW (E0 mm)) itW c13_7 [(0, .keep), (3, .keep)]) (canon m [(0, .keep), (3, .keep)] st) := rfl
theorem c13_7_e : c13_7 = .seq c13_8 c13_13 := rfl
theorem c13_8_e : c13_8 = .seq c13_9 c13_10 := rfl
theorem c13_9_r (m : Nat) (st : St) : den (E0 mm) 13 m (callW (E0 mm)) itW c13_9 none st = regD (runOps (E0 mm) (callW (E0 mm)) (opsOf c13_9) (opsOf c13_9) st) := den_rg (by rfl)
theorem c13_11_e : c13_11 = .skip := rfl
theorem c13_12_e : c13_12 = .exit 0 := rfl
theorem c13_13_e : c13_13 = .seq c13_14 c13_22 := rfl
theorem c13_14_e : c13_14 = .block 1 c13_15 := rfl
theorem c13_15_e : c13_15 = .seq c13_16 c13_17 := rfl
theorem c13_16_r (m : Nat) (st : St) : den (E0 mm) 13 m (callW (E0 mm)) itW c13_16 none st = regD (runOps (E0 mm) (callW (E0 mm)) (opsOf c13_16) (opsOf c13_16) st) := den_rg (by rfl)
theorem c13_18_e : c13_18 = .seq c13_19 c13_20 := rfl
theorem c13_19_r (m : Nat) (st : St) : den (E0 mm) 13 m (callW (E0 mm)) itW c13_19 none st = regD (runOps (E0 mm) (callW (E0 mm)) (opsOf c13_19) (opsOf c13_19) st) := den_rg (by rfl)
theorem c13_20_e : c13_20 = .ret := rfl
theorem c13_21_e : c13_21 = .skip := rfl
theorem c13_22_r (m : Nat) (st : St) : den (E0 mm) 13 m (callW (E0 mm)) itW c13_22 none st = regD (runOps (E0 mm) (callW (E0 mm)) (opsOf c13_22) (opsOf c13_22) st) := den_rg (by rfl)
theorem c13_23_e : c13_23 = .seq c13_24 c13_25 := rfl
theorem c13_24_r (m : Nat) (st : St) : den (E0 mm) 13 m (callW (E0 mm)) itW c13_24 none st = regD (runOps (E0 mm) (callW (E0 mm)) (opsOf c13_24) (opsOf c13_24) st) := den_rg (by rfl)
theorem c13_25_e : c13_25 = .ret := rfl
abbrev R13 := (Bool)
def e13 : R13 → AV × Heap := fun x => (.v (.c (.d (.sc (.bool x)))), [])
noncomputable def K13_6 : Option (Ex × St) → Option (AV × Heap) := fun r => bodyD (E0 mm) [.tmp 2] 0 false (seqD (E0 mm) 13 0 (callW (E0 mm)) itW c13_23 (blockD 0 (r)))
def en13_6 : Bs × Int → X := fun x => (none, [.v (.c (.d (.sc (.string (S x.1))))), .v (.c (.d (.sc (.int .i64 x.2))))], [])
noncomputable def j13_23  : Option R13 :=
  some true
set_option maxRecDepth 100000 in
theorem j13_23_t   (sl : Nat → AV)  :
    bodyD (E0 mm) [.tmp 2] 0 false (den (E0 mm) 13 0 (callW (E0 mm)) itW c13_23 none ⟨sl, []⟩) = (j13_23).map e13 := by
  simp -implicitDefEqProofs only [j13_23, c13_23_e, c13_24_r, (show opsOf c13_24 = _ :: _ from rfl), c13_25_e, setA, setB, String.reduceBEq, Nat.reduceEqDiff, Int.reduceEq, Nat.reduceAdd, Nat.reduceLeDiff, Nat.reduceLT, Int.reduceLE, Int.reduceLT, Int.reduceToNat, Int.reduceNegSucc, Nat.reduceMul, Int.reduceAdd, Nat.reduceBEq, Nat.reduceSub, Nat.reducePow, Int.reduceBEq, reduceCtorEq, E0P, E0hand, E0hard, E0row, E0nw, E0aown, E0glob, ↓reduceIte]
  all_goals rfl
noncomputable def s13_6 (s0 : Bs) (i3 : Int) : Option ((Bs × Int) ⊕ R13) :=
  if (decide (i3 < (s0.length : Int))) = true then
    if 0 ≤ i3 ∧ i3 < (s0.length : Int) then
      (m34 (s0.getD i3.toNat 0)).bind fun yr4 =>
        if yr4 = true then
          some (.inl (s0, (w64 (i3 + 1))))
        else
          some (.inr false)
    else none
  else
    (j13_23).map .inr
set_option maxRecDepth 100000 in
theorem s13_6_t (s0 : Bs) (i3 : Int) :
    stepE (K13_6 (mm := mm)) (loopF (E0 mm) 13 0 (callW (E0 mm)) itW c13_7 [(0, .keep), (3, .keep)] (none, [.v (.c (.d (.sc (.string (S s0))))), .v (.c (.d (.sc (.int .i64 i3))))], [])) = (s13_6 s0 i3).map (sm en13_6 e13) := by
  simp -implicitDefEqProofs only [s13_6, loopF_eq, c13_7_e, c13_8_e, c13_9_r, (show opsOf c13_9 = _ :: _ from rfl), Tryd.underlying9, (show c13_10 = Code.cond _ c13_11 c13_12 from rfl), setA, setB, String.reduceBEq, Nat.reduceEqDiff, Int.reduceEq, Nat.reduceAdd, Nat.reduceLeDiff, Nat.reduceLT, Int.reduceLE, Int.reduceLT, Int.reduceToNat, Int.reduceNegSucc, Nat.reduceMul, Int.reduceAdd, Nat.reduceBEq, Nat.reduceSub, Nat.reducePow, Int.reduceBEq, reduceCtorEq, E0P, E0hand, E0hard, E0row, E0nw, E0aown, E0glob, ↓reduceIte]
  refine brB (fun yc1 => ?_) (fun yc1 => ?_)
  · simp -implicitDefEqProofs only [c13_11_e, c13_13_e, c13_14_e, c13_15_e, c13_16_r, (show opsOf c13_16 = _ :: _ from rfl), Tryd.underlying9, yc1, setA, setB, String.reduceBEq, Nat.reduceEqDiff, Int.reduceEq, Nat.reduceAdd, Nat.reduceLeDiff, Nat.reduceLT, Int.reduceLE, Int.reduceLT, Int.reduceToNat, Int.reduceNegSucc, Nat.reduceMul, Int.reduceAdd, Nat.reduceBEq, Nat.reduceSub, Nat.reducePow, Int.reduceBEq, reduceCtorEq, E0P, E0hand, E0hard, E0row, E0nw, E0aown, E0glob, ↓reduceIte]
    refine brP (fun yc2 => ?_) (fun yc2 => ?_)
    · simp -implicitDefEqProofs only [ent34, prm34, f34_t, yc1, yc2, setA, setB, String.reduceBEq, Nat.reduceEqDiff, Int.reduceEq, Nat.reduceAdd, Nat.reduceLeDiff, Nat.reduceLT, Int.reduceLE, Int.reduceLT, Int.reduceToNat, Int.reduceNegSucc, Nat.reduceMul, Int.reduceAdd, Nat.reduceBEq, Nat.reduceSub, Nat.reducePow, Int.reduceBEq, reduceCtorEq, E0P, E0hand, E0hard, E0row, E0nw, E0aown, E0glob, ↓reduceIte]
      refine brM (fun yc3 => ?_) (fun yr4 yc3 => ?_)
      · simp -implicitDefEqProofs only [yc3, yc1, yc2, e34, setA, setB, String.reduceBEq, Nat.reduceEqDiff, Int.reduceEq, Nat.reduceAdd, Nat.reduceLeDiff, Nat.reduceLT, Int.reduceLE, Int.reduceLT, Int.reduceToNat, Int.reduceNegSucc, Nat.reduceMul, Int.reduceAdd, Nat.reduceBEq, Nat.reduceSub, Nat.reducePow, Int.reduceBEq, reduceCtorEq, E0P, E0hand, E0hard, E0row, E0nw, E0aown, E0glob, ↓reduceIte]
      · simp -implicitDefEqProofs only [e34, (show c13_17 = Code.cond _ c13_18 c13_21 from rfl), yc1, yc2, yc3, setA, setB, String.reduceBEq, Nat.reduceEqDiff, Int.reduceEq, Nat.reduceAdd, Nat.reduceLeDiff, Nat.reduceLT, Int.reduceLE, Int.reduceLT, Int.reduceToNat, Int.reduceNegSucc, Nat.reduceMul, Int.reduceAdd, Nat.reduceBEq, Nat.reduceSub, Nat.reducePow, Int.reduceBEq, reduceCtorEq, E0P, E0hand, E0hard, E0row, E0nw, E0aown, E0glob, ↓reduceIte]
        refine brB (fun yc5 => ?_) (fun yc5 => ?_)
        · simp -implicitDefEqProofs only [c13_21_e, c13_22_r, (show opsOf c13_22 = _ :: _ from rfl), yc1, yc2, yc3, yc5, setA, setB, String.reduceBEq, Nat.reduceEqDiff, Int.reduceEq, Nat.reduceAdd, Nat.reduceLeDiff, Nat.reduceLT, Int.reduceLE, Int.reduceLT, Int.reduceToNat, Int.reduceNegSucc, Nat.reduceMul, Int.reduceAdd, Nat.reduceBEq, Nat.reduceSub, Nat.reducePow, Int.reduceBEq, reduceCtorEq, E0P, E0hand, E0hard, E0row, E0nw, E0aown, E0glob, ↓reduceIte]
          all_goals rfl
        · simp -implicitDefEqProofs only [c13_18_e, c13_19_r, (show opsOf c13_19 = _ :: _ from rfl), c13_20_e, K13_6, yc1, yc2, yc3, yc5, setA, setB, String.reduceBEq, Nat.reduceEqDiff, Int.reduceEq, Nat.reduceAdd, Nat.reduceLeDiff, Nat.reduceLT, Int.reduceLE, Int.reduceLT, Int.reduceToNat, Int.reduceNegSucc, Nat.reduceMul, Int.reduceAdd, Nat.reduceBEq, Nat.reduceSub, Nat.reducePow, Int.reduceBEq, reduceCtorEq, E0P, E0hand, E0hard, E0row, E0nw, E0aown, E0glob, ↓reduceIte]
          all_goals rfl
    · simp -implicitDefEqProofs only [yc1, yc2, setA, setB, String.reduceBEq, Nat.reduceEqDiff, Int.reduceEq, Nat.reduceAdd, Nat.reduceLeDiff, Nat.reduceLT, Int.reduceLE, Int.reduceLT, Int.reduceToNat, Int.reduceNegSucc, Nat.reduceMul, Int.reduceAdd, Nat.reduceBEq, Nat.reduceSub, Nat.reducePow, Int.reduceBEq, reduceCtorEq, E0P, E0hand, E0hard, E0row, E0nw, E0aown, E0glob, ↓reduceIte]
  · simp -implicitDefEqProofs only [c13_12_e, K13_6, yc1, setA, setB, String.reduceBEq, Nat.reduceEqDiff, Int.reduceEq, Nat.reduceAdd, Nat.reduceLeDiff, Nat.reduceLT, Int.reduceLE, Int.reduceLT, Int.reduceToNat, Int.reduceNegSucc, Nat.reduceMul, Int.reduceAdd, Nat.reduceBEq, Nat.reduceSub, Nat.reducePow, Int.reduceBEq, reduceCtorEq, E0P, E0hand, E0hard, E0row, E0nw, E0aown, E0glob, ↓reduceIte]
    exact mi (j13_23_t _)
noncomputable def l13_6 (s0 : Bs) (i3 : Int) : Option R13 := iter (fun x : Bs × Int => s13_6 x.1 x.2) (s0, i3)
theorem l13_6_t (s0 : Bs) (i3 : Int) : bodyD (E0 mm) [.tmp 2] 0 false (seqD (E0 mm) 13 0 (callW (E0 mm)) itW c13_23 (blockD 0 (itW (loopF (E0 mm) 13 0 (callW (E0 mm)) itW c13_7 [(0, .keep), (3, .keep)]) (none, [.v (.c (.d (.sc (.string (S s0))))), .v (.c (.d (.sc (.int .i64 i3))))], [])))) = (l13_6 s0 i3).map e13 :=
  it_sim (K := (K13_6 (mm := mm))) rfl (enc := en13_6) (fun x => s13_6_t x.1 x.2) (s0, i3)
noncomputable def m13 (s : Bs) : Option R13 :=
  l13_6 s (0 : Int)
set_option maxRecDepth 100000 in
theorem f13_t (s : Bs) :
    callW (E0 mm) 13 [.c (.d (.sc (.string (S s))))] [] = (m13 s).map e13 := by
  rw [callW_run (body := c13_0) (res := [.tmp 2]) Tryd.func13 rfl rfl (by kernel_rfl)]
  simp -implicitDefEqProofs only [m13, slots1, c13_0_e, c13_1_r, (show opsOf c13_1 = _ :: _ from rfl), c13_2_e, c13_3_e, c13_4_r, (show opsOf c13_4 = _ :: _ from rfl), c13_5_e, c13_6_l, setA, setB, String.reduceBEq, Nat.reduceEqDiff, Int.reduceEq, Nat.reduceAdd, Nat.reduceLeDiff, Nat.reduceLT, Int.reduceLE, Int.reduceLT, Int.reduceToNat, Int.reduceNegSucc, Nat.reduceMul, Int.reduceAdd, Nat.reduceBEq, Nat.reduceSub, Nat.reducePow, Int.reduceBEq, reduceCtorEq, E0P, E0hand, E0hard, E0row, E0nw, E0aown, E0glob, ↓reduceIte]
  exact l13_6_t s (0 : Int)
/-! tollhouse/text.Trim -/
noncomputable def c14_0 : Code := bodyOf Tryd.f14
noncomputable def c14_1 : Code := cA c14_0
noncomputable def c14_2 : Code := cB c14_0
noncomputable def c14_3 : Code := cA c14_2
noncomputable def c14_4 : Code := cB c14_2
theorem c14_0_e : c14_0 = .seq c14_1 c14_2 := rfl
theorem c14_1_r (m : Nat) (st : St) : den (E0 mm) 14 m (callW (E0 mm)) itW c14_1 none st = regD (runOps (E0 mm) (callW (E0 mm)) (opsOf c14_1) (opsOf c14_1) st) := den_rg (by rfl)
theorem c14_2_e : c14_2 = .seq c14_3 c14_4 := rfl
theorem c14_3_r (m : Nat) (st : St) : den (E0 mm) 14 m (callW (E0 mm)) itW c14_3 none st = regD (runOps (E0 mm) (callW (E0 mm)) (opsOf c14_3) (opsOf c14_3) st) := den_rg (by rfl)
theorem c14_4_e : c14_4 = .ret := rfl
abbrev R14 := (Bs)
def e14 : R14 → AV × Heap := fun x => (.v (.c (.d (.sc (.string (S x))))), [])
noncomputable def m14 (s : Bs) : Option R14 :=
  (mTrim s ([32, 9] : Bs)).bind fun yr2 =>
    some yr2
set_option maxRecDepth 100000 in
theorem f14_t (s : Bs) :
    callW (E0 mm) 14 [.c (.d (.sc (.string (S s))))] [] = (m14 s).map e14 := by
  rw [callW_run (body := c14_0) (res := [.tmp 2]) Tryd.func14 rfl rfl (by kernel_rfl)]
  simp -implicitDefEqProofs only [m14, slots1, c14_0_e, c14_1_r, (show opsOf c14_1 = _ :: _ from rfl), c14_2_e, c14_3_r, (show opsOf c14_3 = _ :: _ from rfl), ent35, prm35, pTrim_t, setA, setB, String.reduceBEq, Nat.reduceEqDiff, Int.reduceEq, Nat.reduceAdd, Nat.reduceLeDiff, Nat.reduceLT, Int.reduceLE, Int.reduceLT, Int.reduceToNat, Int.reduceNegSucc, Nat.reduceMul, Int.reduceAdd, Nat.reduceBEq, Nat.reduceSub, Nat.reducePow, Int.reduceBEq, reduceCtorEq, E0P, E0hand, E0hard, E0row, E0nw, E0aown, E0glob, ↓reduceIte]
  refine brM (fun yc1 => ?_) (fun yr2 yc1 => ?_)
  · simp -implicitDefEqProofs only [yc1, pTrim_t, setA, setB, String.reduceBEq, Nat.reduceEqDiff, Int.reduceEq, Nat.reduceAdd, Nat.reduceLeDiff, Nat.reduceLT, Int.reduceLE, Int.reduceLT, Int.reduceToNat, Int.reduceNegSucc, Nat.reduceMul, Int.reduceAdd, Nat.reduceBEq, Nat.reduceSub, Nat.reducePow, Int.reduceBEq, reduceCtorEq, E0P, E0hand, E0hard, E0row, E0nw, E0aown, E0glob, ↓reduceIte]
  · simp -implicitDefEqProofs only [pTrim_t, c14_4_e, yc1, setA, setB, String.reduceBEq, Nat.reduceEqDiff, Int.reduceEq, Nat.reduceAdd, Nat.reduceLeDiff, Nat.reduceLT, Int.reduceLE, Int.reduceLT, Int.reduceToNat, Int.reduceNegSucc, Nat.reduceMul, Int.reduceAdd, Nat.reduceBEq, Nat.reduceSub, Nat.reducePow, Int.reduceBEq, reduceCtorEq, E0P, E0hand, E0hard, E0row, E0nw, E0aown, E0glob, ↓reduceIte]
    all_goals rfl
/-! tollhouse/tollhouseref02.Trim -/
noncomputable def c15_0 : Code := bodyOf Tryd.f15
noncomputable def c15_1 : Code := cA c15_0
noncomputable def c15_2 : Code := cB c15_0
noncomputable def c15_3 : Code := cA c15_2
noncomputable def c15_4 : Code := cB c15_2
noncomputable def c15_5 : Code := cA c15_4
noncomputable def c15_6 : Code := cA c15_5
noncomputable def c15_7 : Code := cA c15_6
noncomputable def c15_8 : Code := cA c15_7
noncomputable def c15_9 : Code := cA c15_8
noncomputable def c15_10 : Code := cB c15_8
noncomputable def c15_11 : Code := cA c15_10
noncomputable def c15_12 : Code := cB c15_10
noncomputable def c15_13 : Code := cB c15_7
noncomputable def c15_14 : Code := cA c15_13
noncomputable def c15_15 : Code := cB c15_4
noncomputable def c15_16 : Code := cA c15_15
noncomputable def c15_17 : Code := cA c15_16
noncomputable def c15_18 : Code := cA c15_17
noncomputable def c15_19 : Code := cA c15_18
noncomputable def c15_20 : Code := cA c15_19
noncomputable def c15_21 : Code := cB c15_19
noncomputable def c15_22 : Code := cA c15_21
noncomputable def c15_23 : Code := cB c15_21
noncomputable def c15_24 : Code := cB c15_18
noncomputable def c15_25 : Code := cA c15_24
noncomputable def c15_26 : Code := cB c15_15
noncomputable def c15_27 : Code := cA c15_26
noncomputable def c15_28 : Code := cB c15_26
theorem c15_0_e : c15_0 = .seq c15_1 c15_2 := rfl
theorem c15_1_r (m : Nat) (st : St) : den (E0 mm) 15 m (callW (E0 mm)) itW c15_1 none st = regD (runOps (E0 mm) (callW (E0 mm)) (opsOf c15_1) (opsOf c15_1) st) := den_rg (by rfl)
theorem c15_2_e : c15_2 = .seq c15_3 c15_4 := rfl
theorem c15_3_r (m : Nat) (st : St) : den (E0 mm) 15 m (callW (E0 mm)) itW c15_3 none st = regD (runOps (E0 mm) (callW (E0 mm)) (opsOf c15_3) (opsOf c15_3) st) := den_rg (by rfl)
theorem c15_4_e : c15_4 = .seq c15_5 c15_15 := rfl
theorem c15_5_e : c15_5 = .block 0 c15_6 := rfl
theorem c15_6_l (m : Nat) (st : St) : den (E0 mm) 15 m (callW (E0 mm)) itW c15_6 none st = loopD itW (loopF (E0 mm) 15 m (callW (E0 mm)) itW c15_7 [(0, .keep), (3, .keep), (4, .keep)]) (canon m [(0, .keep), (3, .keep), (4, .keep)] st) := rfl
theorem c15_7_e : c15_7 = .seq c15_8 c15_13 := rfl
theorem c15_8_e : c15_8 = .seq c15_9 c15_10 := rfl
theorem c15_9_r (m : Nat) (st : St) : den (E0 mm) 15 m (callW (E0 mm)) itW c15_9 none st = regD (runOps (E0 mm) (callW (E0 mm)) (opsOf c15_9) (opsOf c15_9) st) := den_rg (by rfl)
theorem c15_11_e : c15_11 = .skip := rfl
theorem c15_12_e : c15_12 = .exit 0 := rfl
theorem c15_13_e : c15_13 = .block 1 c15_14 := rfl
theorem c15_14_r (m : Nat) (st : St) : den (E0 mm) 15 m (callW (E0 mm)) itW c15_14 none st = regD (runOps (E0 mm) (callW (E0 mm)) (opsOf c15_14) (opsOf c15_14) st) := den_rg (by rfl)
theorem c15_15_e : c15_15 = .seq c15_16 c15_26 := rfl
theorem c15_16_e : c15_16 = .block 2 c15_17 := rfl
theorem c15_17_l (m : Nat) (st : St) : den (E0 mm) 15 m (callW (E0 mm)) itW c15_17 none st = loopD itW (loopF (E0 mm) 15 m (callW (E0 mm)) itW c15_18 [(0, .keep), (3, .keep), (4, .keep)]) (canon m [(0, .keep), (3, .keep), (4, .keep)] st) := rfl
theorem c15_18_e : c15_18 = .seq c15_19 c15_24 := rfl
theorem c15_19_e : c15_19 = .seq c15_20 c15_21 := rfl
theorem c15_20_r (m : Nat) (st : St) : den (E0 mm) 15 m (callW (E0 mm)) itW c15_20 none st = regD (runOps (E0 mm) (callW (E0 mm)) (opsOf c15_20) (opsOf c15_20) st) := den_rg (by rfl)
theorem c15_22_e : c15_22 = .skip := rfl
theorem c15_23_e : c15_23 = .exit 2 := rfl
theorem c15_24_e : c15_24 = .block 3 c15_25 := rfl
theorem c15_25_r (m : Nat) (st : St) : den (E0 mm) 15 m (callW (E0 mm)) itW c15_25 none st = regD (runOps (E0 mm) (callW (E0 mm)) (opsOf c15_25) (opsOf c15_25) st) := den_rg (by rfl)
theorem c15_26_e : c15_26 = .seq c15_27 c15_28 := rfl
theorem c15_27_r (m : Nat) (st : St) : den (E0 mm) 15 m (callW (E0 mm)) itW c15_27 none st = regD (runOps (E0 mm) (callW (E0 mm)) (opsOf c15_27) (opsOf c15_27) st) := den_rg (by rfl)
theorem c15_28_e : c15_28 = .ret := rfl
abbrev R15 := (Bs)
def e15 : R15 → AV × Heap := fun x => (.v (.c (.d (.sc (.string (S x))))), [])
noncomputable def K15_6 : Option (Ex × St) → Option (AV × Heap) := fun r => bodyD (E0 mm) [.tmp 2] 0 false (seqD (E0 mm) 15 0 (callW (E0 mm)) itW c15_15 (blockD 0 (r)))
def en15_6 : Bs × Int × Int → X := fun x => (none, [.v (.c (.d (.sc (.string (S x.1))))), .v (.c (.d (.sc (.int .i64 x.2.1)))), .v (.c (.d (.sc (.int .i64 x.2.2))))], [])
noncomputable def K15_17 : Option (Ex × St) → Option (AV × Heap) := fun r => bodyD (E0 mm) [.tmp 2] 0 false (seqD (E0 mm) 15 0 (callW (E0 mm)) itW c15_26 (blockD 2 (r)))
def en15_17 : Bs × Int × Int → X := fun x => (none, [.v (.c (.d (.sc (.string (S x.1))))), .v (.c (.d (.sc (.int .i64 x.2.1)))), .v (.c (.d (.sc (.int .i64 x.2.2))))], [])
noncomputable def j15_26 (s0 : Bs) (from3 : Int) (to4 : Int) : Option R15 :=
  (bnd to4 s0.length).bind fun yk10 =>
    (bnd from3 yk10).bind fun yk12 =>
      some ((s0.take yk10).drop yk12)
set_option maxRecDepth 100000 in
theorem j15_26_t (s0 : Bs) (from3 : Int) (to4 : Int)  (sl : Nat → AV) (zq0 : sl 0 = .v (.c (.d (.sc (.string (S s0)))))) (zq3 : sl 3 = .v (.c (.d (.sc (.int .i64 from3))))) (zq4 : sl 4 = .v (.c (.d (.sc (.int .i64 to4))))) :
    bodyD (E0 mm) [.tmp 2] 0 false (den (E0 mm) 15 0 (callW (E0 mm)) itW c15_26 none ⟨sl, []⟩) = (j15_26 s0 from3 to4).map e15 := by
  simp -implicitDefEqProofs only [j15_26, c15_26_e, c15_27_r, (show opsOf c15_27 = _ :: _ from rfl), Tryd.underlying9, zq0, zq3, zq4, setA, setB, String.reduceBEq, Nat.reduceEqDiff, Int.reduceEq, Nat.reduceAdd, Nat.reduceLeDiff, Nat.reduceLT, Int.reduceLE, Int.reduceLT, Int.reduceToNat, Int.reduceNegSucc, Nat.reduceMul, Int.reduceAdd, Nat.reduceBEq, Nat.reduceSub, Nat.reducePow, Int.reduceBEq, reduceCtorEq, E0P, E0hand, E0hard, E0row, E0nw, E0aown, E0glob, ↓reduceIte]
  refine brM (fun yc9 => ?_) (fun yk10 yc9 => ?_)
  · simp -implicitDefEqProofs only [yc9, zq0, zq3, zq4, setA, setB, String.reduceBEq, Nat.reduceEqDiff, Int.reduceEq, Nat.reduceAdd, Nat.reduceLeDiff, Nat.reduceLT, Int.reduceLE, Int.reduceLT, Int.reduceToNat, Int.reduceNegSucc, Nat.reduceMul, Int.reduceAdd, Nat.reduceBEq, Nat.reduceSub, Nat.reducePow, Int.reduceBEq, reduceCtorEq, E0P, E0hand, E0hard, E0row, E0nw, E0aown, E0glob, ↓reduceIte]
  · simp -implicitDefEqProofs only [zq0, zq3, zq4, yc9, setA, setB, String.reduceBEq, Nat.reduceEqDiff, Int.reduceEq, Nat.reduceAdd, Nat.reduceLeDiff, Nat.reduceLT, Int.reduceLE, Int.reduceLT, Int.reduceToNat, Int.reduceNegSucc, Nat.reduceMul, Int.reduceAdd, Nat.reduceBEq, Nat.reduceSub, Nat.reducePow, Int.reduceBEq, reduceCtorEq, E0P, E0hand, E0hard, E0row, E0nw, E0aown, E0glob, ↓reduceIte]
    refine brM (fun yc11 => ?_) (fun yk12 yc11 => ?_)
    · simp -implicitDefEqProofs only [yc11, zq0, zq3, zq4, yc9, setA, setB, String.reduceBEq, Nat.reduceEqDiff, Int.reduceEq, Nat.reduceAdd, Nat.reduceLeDiff, Nat.reduceLT, Int.reduceLE, Int.reduceLT, Int.reduceToNat, Int.reduceNegSucc, Nat.reduceMul, Int.reduceAdd, Nat.reduceBEq, Nat.reduceSub, Nat.reducePow, Int.reduceBEq, reduceCtorEq, E0P, E0hand, E0hard, E0row, E0nw, E0aown, E0glob, ↓reduceIte]
    · simp -implicitDefEqProofs only [c15_28_e, zq0, zq3, zq4, yc9, yc11, setA, setB, String.reduceBEq, Nat.reduceEqDiff, Int.reduceEq, Nat.reduceAdd, Nat.reduceLeDiff, Nat.reduceLT, Int.reduceLE, Int.reduceLT, Int.reduceToNat, Int.reduceNegSucc, Nat.reduceMul, Int.reduceAdd, Nat.reduceBEq, Nat.reduceSub, Nat.reducePow, Int.reduceBEq, reduceCtorEq, E0P, E0hand, E0hard, E0row, E0nw, E0aown, E0glob, ↓reduceIte]
      all_goals rfl
noncomputable def j15_21 (s0 : Bs) (from3 : Int) (to4 : Int) (t40 : Bool) : Option ((Bs × Int × Int) ⊕ R15) :=
  if t40 = true then
    some (.inl (s0, from3, (w64 (to4 - 1))))
  else
    (j15_26 s0 from3 to4).map .inr
set_option maxRecDepth 100000 in
theorem j15_21_t (s0 : Bs) (from3 : Int) (to4 : Int) (t40 : Bool)  (sl : Nat → AV) (zq0 : sl 0 = .v (.c (.d (.sc (.string (S s0)))))) (zq3 : sl 3 = .v (.c (.d (.sc (.int .i64 from3))))) (zq4 : sl 4 = .v (.c (.d (.sc (.int .i64 to4))))) (zq40 : sl 40 = .v (.c (.d (.sc (.bool t40))))) :
    stepE (K15_17 (mm := mm)) (loopK 0 [(0, .keep), (3, .keep), (4, .keep)] (seqD (E0 mm) 15 0 (callW (E0 mm)) itW c15_24 (den (E0 mm) 15 0 (callW (E0 mm)) itW c15_21 none ⟨sl, []⟩))) = (j15_21 s0 from3 to4 t40).map (sm en15_17 e15) := by
  simp -implicitDefEqProofs only [j15_21, (show c15_21 = Code.cond _ c15_22 c15_23 from rfl), zq0, zq3, zq4, zq40, setA, setB, String.reduceBEq, Nat.reduceEqDiff, Int.reduceEq, Nat.reduceAdd, Nat.reduceLeDiff, Nat.reduceLT, Int.reduceLE, Int.reduceLT, Int.reduceToNat, Int.reduceNegSucc, Nat.reduceMul, Int.reduceAdd, Nat.reduceBEq, Nat.reduceSub, Nat.reducePow, Int.reduceBEq, reduceCtorEq, E0P, E0hand, E0hard, E0row, E0nw, E0aown, E0glob, ↓reduceIte]
  refine brB (fun yc8 => ?_) (fun yc8 => ?_)
  · simp -implicitDefEqProofs only [c15_22_e, c15_24_e, c15_25_r, (show opsOf c15_25 = _ :: _ from rfl), zq0, zq3, zq4, zq40, yc8, setA, setB, String.reduceBEq, Nat.reduceEqDiff, Int.reduceEq, Nat.reduceAdd, Nat.reduceLeDiff, Nat.reduceLT, Int.reduceLE, Int.reduceLT, Int.reduceToNat, Int.reduceNegSucc, Nat.reduceMul, Int.reduceAdd, Nat.reduceBEq, Nat.reduceSub, Nat.reducePow, Int.reduceBEq, reduceCtorEq, E0P, E0hand, E0hard, E0row, E0nw, E0aown, E0glob, ↓reduceIte]
    all_goals rfl
  · simp -implicitDefEqProofs only [c15_23_e, K15_17, zq0, zq3, zq4, zq40, yc8, setA, setB, String.reduceBEq, Nat.reduceEqDiff, Int.reduceEq, Nat.reduceAdd, Nat.reduceLeDiff, Nat.reduceLT, Int.reduceLE, Int.reduceLT, Int.reduceToNat, Int.reduceNegSucc, Nat.reduceMul, Int.reduceAdd, Nat.reduceBEq, Nat.reduceSub, Nat.reducePow, Int.reduceBEq, reduceCtorEq, E0P, E0hand, E0hard, E0row, E0nw, E0aown, E0glob, ↓reduceIte]
    exact mi (j15_26_t s0 from3 to4 _ (by exact zq0) (by exact zq3) (by exact zq4))
noncomputable def s15_17 (s0 : Bs) (from3 : Int) (to4 : Int) : Option ((Bs × Int × Int) ⊕ R15) :=
  if (decide (from3 < to4)) = true then
    if 0 ≤ (w64 (to4 - 1)) ∧ (w64 (to4 - 1)) < (s0.length : Int) then
      if ((s0.getD (w64 (to4 - 1)).toNat 0) == (32 : UInt8)) = true then
        j15_21 s0 from3 to4 true
      else
        j15_21 s0 from3 to4 ((s0.getD (w64 (to4 - 1)).toNat 0) == (9 : UInt8))
    else none
  else
    j15_21 s0 from3 to4 false
set_option maxRecDepth 100000 in
theorem s15_17_t (s0 : Bs) (from3 : Int) (to4 : Int) :
    stepE (K15_17 (mm := mm)) (loopF (E0 mm) 15 0 (callW (E0 mm)) itW c15_18 [(0, .keep), (3, .keep), (4, .keep)] (none, [.v (.c (.d (.sc (.string (S s0))))), .v (.c (.d (.sc (.int .i64 from3)))), .v (.c (.d (.sc (.int .i64 to4))))], [])) = (s15_17 s0 from3 to4).map (sm en15_17 e15) := by
  simp -implicitDefEqProofs only [s15_17, loopF_eq, c15_18_e, c15_19_e, c15_20_r, (show opsOf c15_20 = _ :: _ from rfl), setA, setB, String.reduceBEq, Nat.reduceEqDiff, Int.reduceEq, Nat.reduceAdd, Nat.reduceLeDiff, Nat.reduceLT, Int.reduceLE, Int.reduceLT, Int.reduceToNat, Int.reduceNegSucc, Nat.reduceMul, Int.reduceAdd, Nat.reduceBEq, Nat.reduceSub, Nat.reducePow, Int.reduceBEq, reduceCtorEq, E0P, E0hand, E0hard, E0row, E0nw, E0aown, E0glob, ↓reduceIte]
  refine brB (fun yc5 => ?_) (fun yc5 => ?_)
  · simp -implicitDefEqProofs only [Tryd.underlying9, yc5, setA, setB, String.reduceBEq, Nat.reduceEqDiff, Int.reduceEq, Nat.reduceAdd, Nat.reduceLeDiff, Nat.reduceLT, Int.reduceLE, Int.reduceLT, Int.reduceToNat, Int.reduceNegSucc, Nat.reduceMul, Int.reduceAdd, Nat.reduceBEq, Nat.reduceSub, Nat.reducePow, Int.reduceBEq, reduceCtorEq, E0P, E0hand, E0hard, E0row, E0nw, E0aown, E0glob, ↓reduceIte]
    refine brP (fun yc6 => ?_) (fun yc6 => ?_)
    · simp -implicitDefEqProofs only [yc5, yc6, setA, setB, String.reduceBEq, Nat.reduceEqDiff, Int.reduceEq, Nat.reduceAdd, Nat.reduceLeDiff, Nat.reduceLT, Int.reduceLE, Int.reduceLT, Int.reduceToNat, Int.reduceNegSucc, Nat.reduceMul, Int.reduceAdd, Nat.reduceBEq, Nat.reduceSub, Nat.reducePow, Int.reduceBEq, reduceCtorEq, E0P, E0hand, E0hard, E0row, E0nw, E0aown, E0glob, ↓reduceIte]
      refine brB (fun yc7 => ?_) (fun yc7 => ?_)
      · simp -implicitDefEqProofs only [yc5, yc6, yc7, setA, setB, String.reduceBEq, Nat.reduceEqDiff, Int.reduceEq, Nat.reduceAdd, Nat.reduceLeDiff, Nat.reduceLT, Int.reduceLE, Int.reduceLT, Int.reduceToNat, Int.reduceNegSucc, Nat.reduceMul, Int.reduceAdd, Nat.reduceBEq, Nat.reduceSub, Nat.reducePow, Int.reduceBEq, reduceCtorEq, E0P, E0hand, E0hard, E0row, E0nw, E0aown, E0glob, ↓reduceIte]
        exact j15_21_t s0 from3 to4 true _ (by rfl) (by rfl) (by rfl) (by rfl)
      · simp -implicitDefEqProofs only [Tryd.underlying9, yc5, yc6, yc7, setA, setB, String.reduceBEq, Nat.reduceEqDiff, Int.reduceEq, Nat.reduceAdd, Nat.reduceLeDiff, Nat.reduceLT, Int.reduceLE, Int.reduceLT, Int.reduceToNat, Int.reduceNegSucc, Nat.reduceMul, Int.reduceAdd, Nat.reduceBEq, Nat.reduceSub, Nat.reducePow, Int.reduceBEq, reduceCtorEq, E0P, E0hand, E0hard, E0row, E0nw, E0aown, E0glob, ↓reduceIte]
        exact j15_21_t s0 from3 to4 ((s0.getD (w64 (to4 - 1)).toNat 0) == (9 : UInt8)) _ (by rfl) (by rfl) (by rfl) (by rfl)
    · simp -implicitDefEqProofs only [yc5, yc6, setA, setB, String.reduceBEq, Nat.reduceEqDiff, Int.reduceEq, Nat.reduceAdd, Nat.reduceLeDiff, Nat.reduceLT, Int.reduceLE, Int.reduceLT, Int.reduceToNat, Int.reduceNegSucc, Nat.reduceMul, Int.reduceAdd, Nat.reduceBEq, Nat.reduceSub, Nat.reducePow, Int.reduceBEq, reduceCtorEq, E0P, E0hand, E0hard, E0row, E0nw, E0aown, E0glob, ↓reduceIte]
  · simp -implicitDefEqProofs only [yc5, setA, setB, String.reduceBEq, Nat.reduceEqDiff, Int.reduceEq, Nat.reduceAdd, Nat.reduceLeDiff, Nat.reduceLT, Int.reduceLE, Int.reduceLT, Int.reduceToNat, Int.reduceNegSucc, Nat.reduceMul, Int.reduceAdd, Nat.reduceBEq, Nat.reduceSub, Nat.reducePow, Int.reduceBEq, reduceCtorEq, E0P, E0hand, E0hard, E0row, E0nw, E0aown, E0glob, ↓reduceIte]
    exact j15_21_t s0 from3 to4 false _ (by rfl) (by rfl) (by rfl) (by rfl)
noncomputable def l15_17 (s0 : Bs) (from3 : Int) (to4 : Int) : Option R15 := iter (fun x : Bs × Int × Int => s15_17 x.1 x.2.1 x.2.2) (s0, from3, to4)
theorem l15_17_t (s0 : Bs) (from3 : Int) (to4 : Int) : bodyD (E0 mm) [.tmp 2] 0 false (seqD (E0 mm) 15 0 (callW (E0 mm)) itW c15_26 (blockD 2 (itW (loopF (E0 mm) 15 0 (callW (E0 mm)) itW c15_18 [(0, .keep), (3, .keep), (4, .keep)]) (none, [.v (.c (.d (.sc (.string (S s0))))), .v (.c (.d (.sc (.int .i64 from3)))), .v (.c (.d (.sc (.int .i64 to4))))], [])))) = (l15_17 s0 from3 to4).map e15 :=
  it_sim (K := (K15_17 (mm := mm))) rfl (enc := en15_17) (fun x => s15_17_t x.1 x.2.1 x.2.2) (s0, from3, to4)
noncomputable def j15_15 (s0 : Bs) (from3 : Int) (to4 : Int) : Option R15 :=
  l15_17 s0 from3 to4
set_option maxRecDepth 100000 in
theorem j15_15_t (s0 : Bs) (from3 : Int) (to4 : Int)  (sl : Nat → AV) (zq0 : sl 0 = .v (.c (.d (.sc (.string (S s0)))))) (zq3 : sl 3 = .v (.c (.d (.sc (.int .i64 from3))))) (zq4 : sl 4 = .v (.c (.d (.sc (.int .i64 to4))))) :
    bodyD (E0 mm) [.tmp 2] 0 false (den (E0 mm) 15 0 (callW (E0 mm)) itW c15_15 none ⟨sl, []⟩) = (j15_15 s0 from3 to4).map e15 := by
  simp -implicitDefEqProofs only [j15_15, c15_15_e, c15_16_e, c15_17_l, zq0, zq3, zq4, setA, setB, String.reduceBEq, Nat.reduceEqDiff, Int.reduceEq, Nat.reduceAdd, Nat.reduceLeDiff, Nat.reduceLT, Int.reduceLE, Int.reduceLT, Int.reduceToNat, Int.reduceNegSucc, Nat.reduceMul, Int.reduceAdd, Nat.reduceBEq, Nat.reduceSub, Nat.reducePow, Int.reduceBEq, reduceCtorEq, E0P, E0hand, E0hard, E0row, E0nw, E0aown, E0glob, ↓reduceIte]
  exact l15_17_t s0 from3 to4
noncomputable def j15_10 (s0 : Bs) (from3 : Int) (to4 : Int) (t21 : Bool) : Option ((Bs × Int × Int) ⊕ R15) :=
  if t21 = true then
    some (.inl (s0, (w64 (from3 + 1)), to4))
  else
    (j15_15 s0 from3 to4).map .inr
set_option maxRecDepth 100000 in
theorem j15_10_t (s0 : Bs) (from3 : Int) (to4 : Int) (t21 : Bool)  (sl : Nat → AV) (zq0 : sl 0 = .v (.c (.d (.sc (.string (S s0)))))) (zq3 : sl 3 = .v (.c (.d (.sc (.int .i64 from3))))) (zq4 : sl 4 = .v (.c (.d (.sc (.int .i64 to4))))) (zq21 : sl 21 = .v (.c (.d (.sc (.bool t21))))) :
    stepE (K15_6 (mm := mm)) (loopK 0 [(0, .keep), (3, .keep), (4, .keep)] (seqD (E0 mm) 15 0 (callW (E0 mm)) itW c15_13 (den (E0 mm) 15 0 (callW (E0 mm)) itW c15_10 none ⟨sl, []⟩))) = (j15_10 s0 from3 to4 t21).map (sm en15_6 e15) := by
  simp -implicitDefEqProofs only [j15_10, (show c15_10 = Code.cond _ c15_11 c15_12 from rfl), zq0, zq3, zq4, zq21, setA, setB, String.reduceBEq, Nat.reduceEqDiff, Int.reduceEq, Nat.reduceAdd, Nat.reduceLeDiff, Nat.reduceLT, Int.reduceLE, Int.reduceLT, Int.reduceToNat, Int.reduceNegSucc, Nat.reduceMul, Int.reduceAdd, Nat.reduceBEq, Nat.reduceSub, Nat.reducePow, Int.reduceBEq, reduceCtorEq, E0P, E0hand, E0hard, E0row, E0nw, E0aown, E0glob, ↓reduceIte]
  refine brB (fun yc4 => ?_) (fun yc4 => ?_)
  · simp -implicitDefEqProofs only [c15_11_e, c15_13_e, c15_14_r, (show opsOf c15_14 = _ :: _ from rfl), zq0, zq3, zq4, zq21, yc4, setA, setB, String.reduceBEq, Nat.reduceEqDiff, Int.reduceEq, Nat.reduceAdd, Nat.reduceLeDiff, Nat.reduceLT, Int.reduceLE, Int.reduceLT, Int.reduceToNat, Int.reduceNegSucc, Nat.reduceMul, Int.reduceAdd, Nat.reduceBEq, Nat.reduceSub, Nat.reducePow, Int.reduceBEq, reduceCtorEq, E0P, E0hand, E0hard, E0row, E0nw, E0aown, E0glob, ↓reduceIte]
    all_goals rfl
  · simp -implicitDefEqProofs only [c15_12_e, K15_6, zq0, zq3, zq4, zq21, yc4, setA, setB, String.reduceBEq, Nat.reduceEqDiff, Int.reduceEq, Nat.reduceAdd, Nat.reduceLeDiff, Nat.reduceLT, Int.reduceLE, Int.reduceLT, Int.reduceToNat, Int.reduceNegSucc, Nat.reduceMul, Int.reduceAdd, Nat.reduceBEq, Nat.reduceSub, Nat.reducePow, Int.reduceBEq, reduceCtorEq, E0P, E0hand, E0hard, E0row, E0nw, E0aown, E0glob, ↓reduceIte]
    exact mi (j15_15_t s0 from3 to4 _ (by exact zq0) (by exact zq3) (by exact zq4))
noncomputable def s15_6 (s0 : Bs) (from3 : Int) (to4 : Int) : Option ((Bs × Int × Int) ⊕ R15) :=
  if (decide (from3 < to4)) = true then
    if 0 ≤ from3 ∧ from3 < (s0.length : Int) then
      if ((s0.getD from3.toNat 0) == (32 : UInt8)) = true then
        j15_10 s0 from3 to4 true
      else
        j15_10 s0 from3 to4 ((s0.getD from3.toNat 0) == (9 : UInt8))
    else none
  else
    j15_10 s0 from3 to4 false
set_option maxRecDepth 100000 in
theorem s15_6_t (s0 : Bs) (from3 : Int) (to4 : Int) :
    stepE (K15_6 (mm := mm)) (loopF (E0 mm) 15 0 (callW (E0 mm)) itW c15_7 [(0, .keep), (3, .keep), (4, .keep)] (none, [.v (.c (.d (.sc (.string (S s0))))), .v (.c (.d (.sc (.int .i64 from3)))), .v (.c (.d (.sc (.int .i64 to4))))], [])) = (s15_6 s0 from3 to4).map (sm en15_6 e15) := by
  simp -implicitDefEqProofs only [s15_6, loopF_eq, c15_7_e, c15_8_e, c15_9_r, (show opsOf c15_9 = _ :: _ from rfl), setA, setB, String.reduceBEq, Nat.reduceEqDiff, Int.reduceEq, Nat.reduceAdd, Nat.reduceLeDiff, Nat.reduceLT, Int.reduceLE, Int.reduceLT, Int.reduceToNat, Int.reduceNegSucc, Nat.reduceMul, Int.reduceAdd, Nat.reduceBEq, Nat.reduceSub, Nat.reducePow, Int.reduceBEq, reduceCtorEq, E0P, E0hand, E0hard, E0row, E0nw, E0aown, E0glob, ↓reduceIte]
  refine brB (fun yc1 => ?_) (fun yc1 => ?_)
  · simp -implicitDefEqProofs only [Tryd.underlying9, yc1, setA, setB, String.reduceBEq, Nat.reduceEqDiff, Int.reduceEq, Nat.reduceAdd, Nat.reduceLeDiff, Nat.reduceLT, Int.reduceLE, Int.reduceLT, Int.reduceToNat, Int.reduceNegSucc, Nat.reduceMul, Int.reduceAdd, Nat.reduceBEq, Nat.reduceSub, Nat.reducePow, Int.reduceBEq, reduceCtorEq, E0P, E0hand, E0hard, E0row, E0nw, E0aown, E0glob, ↓reduceIte]
    refine brP (fun yc2 => ?_) (fun yc2 => ?_)
    · simp -implicitDefEqProofs only [yc1, yc2, setA, setB, String.reduceBEq, Nat.reduceEqDiff, Int.reduceEq, Nat.reduceAdd, Nat.reduceLeDiff, Nat.reduceLT, Int.reduceLE, Int.reduceLT, Int.reduceToNat, Int.reduceNegSucc, Nat.reduceMul, Int.reduceAdd, Nat.reduceBEq, Nat.reduceSub, Nat.reducePow, Int.reduceBEq, reduceCtorEq, E0P, E0hand, E0hard, E0row, E0nw, E0aown, E0glob, ↓reduceIte]
      refine brB (fun yc3 => ?_) (fun yc3 => ?_)
      · simp -implicitDefEqProofs only [yc1, yc2, yc3, setA, setB, String.reduceBEq, Nat.reduceEqDiff, Int.reduceEq, Nat.reduceAdd, Nat.reduceLeDiff, Nat.reduceLT, Int.reduceLE, Int.reduceLT, Int.reduceToNat, Int.reduceNegSucc, Nat.reduceMul, Int.reduceAdd, Nat.reduceBEq, Nat.reduceSub, Nat.reducePow, Int.reduceBEq, reduceCtorEq, E0P, E0hand, E0hard, E0row, E0nw, E0aown, E0glob, ↓reduceIte]
        exact j15_10_t s0 from3 to4 true _ (by rfl) (by rfl) (by rfl) (by rfl)
      · simp -implicitDefEqProofs only [Tryd.underlying9, yc1, yc2, yc3, setA, setB, String.reduceBEq, Nat.reduceEqDiff, Int.reduceEq, Nat.reduceAdd, Nat.reduceLeDiff, Nat.reduceLT, Int.reduceLE, Int.reduceLT, Int.reduceToNat, Int.reduceNegSucc, Nat.reduceMul, Int.reduceAdd, Nat.reduceBEq, Nat.reduceSub, Nat.reducePow, Int.reduceBEq, reduceCtorEq, E0P, E0hand, E0hard, E0row, E0nw, E0aown, E0glob, ↓reduceIte]
        exact j15_10_t s0 from3 to4 ((s0.getD from3.toNat 0) == (9 : UInt8)) _ (by rfl) (by rfl) (by rfl) (by rfl)
    · simp -implicitDefEqProofs only [yc1, yc2, setA, setB, String.reduceBEq, Nat.reduceEqDiff, Int.reduceEq, Nat.reduceAdd, Nat.reduceLeDiff, Nat.reduceLT, Int.reduceLE, Int.reduceLT, Int.reduceToNat, Int.reduceNegSucc, Nat.reduceMul, Int.reduceAdd, Nat.reduceBEq, Nat.reduceSub, Nat.reducePow, Int.reduceBEq, reduceCtorEq, E0P, E0hand, E0hard, E0row, E0nw, E0aown, E0glob, ↓reduceIte]
  · simp -implicitDefEqProofs only [yc1, setA, setB, String.reduceBEq, Nat.reduceEqDiff, Int.reduceEq, Nat.reduceAdd, Nat.reduceLeDiff, Nat.reduceLT, Int.reduceLE, Int.reduceLT, Int.reduceToNat, Int.reduceNegSucc, Nat.reduceMul, Int.reduceAdd, Nat.reduceBEq, Nat.reduceSub, Nat.reducePow, Int.reduceBEq, reduceCtorEq, E0P, E0hand, E0hard, E0row, E0nw, E0aown, E0glob, ↓reduceIte]
    exact j15_10_t s0 from3 to4 false _ (by rfl) (by rfl) (by rfl) (by rfl)
noncomputable def l15_6 (s0 : Bs) (from3 : Int) (to4 : Int) : Option R15 := iter (fun x : Bs × Int × Int => s15_6 x.1 x.2.1 x.2.2) (s0, from3, to4)
theorem l15_6_t (s0 : Bs) (from3 : Int) (to4 : Int) : bodyD (E0 mm) [.tmp 2] 0 false (seqD (E0 mm) 15 0 (callW (E0 mm)) itW c15_15 (blockD 0 (itW (loopF (E0 mm) 15 0 (callW (E0 mm)) itW c15_7 [(0, .keep), (3, .keep), (4, .keep)]) (none, [.v (.c (.d (.sc (.string (S s0))))), .v (.c (.d (.sc (.int .i64 from3)))), .v (.c (.d (.sc (.int .i64 to4))))], [])))) = (l15_6 s0 from3 to4).map e15 :=
  it_sim (K := (K15_6 (mm := mm))) rfl (enc := en15_6) (fun x => s15_6_t x.1 x.2.1 x.2.2) (s0, from3, to4)
noncomputable def m15 (s : Bs) : Option R15 :=
  l15_6 s (0 : Int) (s.length : Int)
set_option maxRecDepth 100000 in
theorem f15_t (s : Bs) :
    callW (E0 mm) 15 [.c (.d (.sc (.string (S s))))] [] = (m15 s).map e15 := by
  rw [callW_run (body := c15_0) (res := [.tmp 2]) Tryd.func15 rfl rfl (by kernel_rfl)]
  simp -implicitDefEqProofs only [m15, slots1, c15_0_e, c15_1_r, (show opsOf c15_1 = _ :: _ from rfl), c15_2_e, c15_3_r, (show opsOf c15_3 = _ :: _ from rfl), Tryd.underlying9, c15_4_e, c15_5_e, c15_6_l, setA, setB, String.reduceBEq, Nat.reduceEqDiff, Int.reduceEq, Nat.reduceAdd, Nat.reduceLeDiff, Nat.reduceLT, Int.reduceLE, Int.reduceLT, Int.reduceToNat, Int.reduceNegSucc, Nat.reduceMul, Int.reduceAdd, Nat.reduceBEq, Nat.reduceSub, Nat.reducePow, Int.reduceBEq, reduceCtorEq, E0P, E0hand, E0hard, E0row, E0nw, E0aown, E0glob, ↓reduceIte]
  exact l15_6_t s (0 : Int) (s.length : Int)
/-! tollhouse/text.Lower -/
noncomputable def c16_0 : Code := bodyOf Tryd.f16
noncomputable def c16_1 : Code := cA c16_0
noncomputable def c16_2 : Code := cB c16_0
noncomputable def c16_3 : Code := cA c16_2
noncomputable def c16_4 : Code := cB c16_2
noncomputable def c16_5 : Code := cA c16_4
noncomputable def c16_6 : Code := cA c16_5
noncomputable def c16_7 : Code := cB c16_5
noncomputable def c16_8 : Code := cA c16_7
noncomputable def c16_9 : Code := cA c16_8
noncomputable def c16_10 : Code := cA c16_9
noncomputable def c16_11 : Code := cB c16_9
noncomputable def c16_12 : Code := cA c16_11
noncomputable def c16_13 : Code := cA c16_12
noncomputable def c16_14 : Code := cB c16_12
noncomputable def c16_15 : Code := cB c16_11
noncomputable def c16_16 : Code := cA c16_15
noncomputable def c16_17 : Code := cA c16_16
noncomputable def c16_18 : Code := cA c16_17
noncomputable def c16_19 : Code := cB c16_17
noncomputable def c16_20 : Code := cA c16_19
noncomputable def c16_21 : Code := cB c16_19
noncomputable def c16_22 : Code := cA c16_21
noncomputable def c16_23 : Code := cB c16_21
noncomputable def c16_24 : Code := cB c16_15
noncomputable def c16_25 : Code := cB c16_4
noncomputable def c16_26 : Code := cA c16_25
noncomputable def c16_27 : Code := cB c16_25
theorem c16_0_e : c16_0 = .seq c16_1 c16_2 := rfl
theorem c16_1_r (m : Nat) (st : St) : den (E0 mm) 16 m (callW (E0 mm)) itW c16_1 none st = regD (runOps (E0 mm) (callW (E0 mm)) (opsOf c16_1) (opsOf c16_1) st) := den_rg (by rfl)
theorem c16_2_e : c16_2 = .seq c16_3 c16_4 := rfl
theorem c16_3_r (m : Nat) (st : St) : den (E0 mm) 16 m (callW (E0 mm)) itW c16_3 none st = regD (runOps (E0 mm) (callW (E0 mm)) (opsOf c16_3) (opsOf c16_3) st) := den_rg (by rfl)
theorem c16_4_e : c16_4 = .seq c16_5 c16_25 := rfl
theorem c16_5_e : c16_5 = .seq c16_6 c16_7 := rfl
theorem c16_6_r (m : Nat) (st : St) : den (E0 mm) 16 m (callW (E0 mm)) itW c16_6 none st = regD (runOps (E0 mm) (callW (E0 mm)) (opsOf c16_6) (opsOf c16_6) st) := den_rg (by rfl)
theorem c16_7_e : c16_7 = .block 0 c16_8 := rfl
theorem c16_8_l (m : Nat) (st : St) : den (E0 mm) 16 m (callW (E0 mm)) itW c16_8 none st = loopD itW (loopF (E0 mm) 16 m (callW (E0 mm)) itW c16_9 [(3, .keep), (8, .keep), (9, .keep), (10, .keep)]) (canon m [(3, .keep), (8, .keep), (9, .keep), (10, .keep)] st) := rfl
theorem c16_9_e : c16_9 = .seq c16_10 c16_11 := rfl
theorem c16_10_r (m : Nat) (st : St) : den (E0 mm) 16 m (callW (E0 mm)) itW c16_10 none st = regD (runOps (E0 mm) (callW (E0 mm)) (opsOf c16_10) (opsOf c16_10) st) := den_rg (by rfl)
theorem c16_11_e : c16_11 = .seq c16_12 c16_15 := rfl
theorem c16_13_e : c16_13 = .skip := rfl
theorem c16_14_e : c16_14 = .exit 0 := rfl
theorem c16_15_e : c16_15 = .seq c16_16 c16_24 := rfl
theorem c16_16_e : c16_16 = .block 1 c16_17 := rfl
theorem c16_17_e : c16_17 = .seq c16_18 c16_19 := rfl
theorem c16_18_r (m : Nat) (st : St) : den (E0 mm) 16 m (callW (E0 mm)) itW c16_18 none st = regD (runOps (E0 mm) (callW (E0 mm)) (opsOf c16_18) (opsOf c16_18) st) := den_rg (by rfl)
theorem c16_19_e : c16_19 = .seq c16_20 c16_21 := rfl
theorem c16_20_r (m : Nat) (st : St) : den (E0 mm) 16 m (callW (E0 mm)) itW c16_20 none st = regD (runOps (E0 mm) (callW (E0 mm)) (opsOf c16_20) (opsOf c16_20) st) := den_rg (by rfl)
theorem c16_22_r (m : Nat) (st : St) : den (E0 mm) 16 m (callW (E0 mm)) itW c16_22 none st = regD (runOps (E0 mm) (callW (E0 mm)) (opsOf c16_22) (opsOf c16_22) st) := den_rg (by rfl)
theorem c16_23_e : c16_23 = .skip := rfl
theorem c16_24_r (m : Nat) (st : St) : den (E0 mm) 16 m (callW (E0 mm)) itW c16_24 none st = regD (runOps (E0 mm) (callW (E0 mm)) (opsOf c16_24) (opsOf c16_24) st) := den_rg (by rfl)
theorem c16_25_e : c16_25 = .seq c16_26 c16_27 := rfl
theorem c16_26_r (m : Nat) (st : St) : den (E0 mm) 16 m (callW (E0 mm)) itW c16_26 none st = regD (runOps (E0 mm) (callW (E0 mm)) (opsOf c16_26) (opsOf c16_26) st) := den_rg (by rfl)
theorem c16_27_e : c16_27 = .ret := rfl
abbrev R16 := (Bs)
def e16 : R16 → AV × Heap := fun x => (.v (.c (.d (.sc (.string (S x))))), [])
noncomputable def K16_8 : Option (Ex × St) → Option (AV × Heap) := fun r => bodyD (E0 mm) [.tmp 2] 0 false (seqD (E0 mm) 16 0 (callW (E0 mm)) itW c16_25 (blockD 0 (r)))
def en16_8 : Nat × Nat × Int × Int × List UInt8 → X := fun x => (none, [.v (.c (.slc 0 0 1 x.1 none)), .v (.c (.slc 0 0 1 x.2.1 none)), .v (.c (.d (.sc (.int .i64 x.2.2.1)))), .v (.c (.d (.sc (.int .i64 x.2.2.2.1))))], [.cells (enC x.2.2.2.2)])
noncomputable def j16_24 (b3_1 : Nat) (t8_1 : Nat) (t9 : Int) (t10 : Int) (h0 : List UInt8) : Option ((Nat × Nat × Int × Int × List UInt8) ⊕ R16) :=
  some (.inl (b3_1, t8_1, t9, (w64 (t10 + 1)), h0))
set_option maxRecDepth 100000 in
theorem j16_24_t (b3_1 : Nat) (t8_1 : Nat) (t9 : Int) (t10 : Int) (h0 : List UInt8)  (sl : Nat → AV) (zq3 : sl 3 = .v (.c (.slc 0 0 1 b3_1 none))) (zq8 : sl 8 = .v (.c (.slc 0 0 1 t8_1 none))) (zq9 : sl 9 = .v (.c (.d (.sc (.int .i64 t9))))) (zq10 : sl 10 = .v (.c (.d (.sc (.int .i64 t10))))) :
    stepE (K16_8 (mm := mm)) (loopK 0 [(3, .keep), (8, .keep), (9, .keep), (10, .keep)] (den (E0 mm) 16 0 (callW (E0 mm)) itW c16_24 none ⟨sl, [.cells (enC h0)]⟩)) = (j16_24 b3_1 t8_1 t9 t10 h0).map (sm en16_8 e16) := by
  simp -implicitDefEqProofs only [j16_24, c16_24_r, (show opsOf c16_24 = _ :: _ from rfl), zq3, zq8, zq9, zq10, setA, setB, String.reduceBEq, Nat.reduceEqDiff, Int.reduceEq, Nat.reduceAdd, Nat.reduceLeDiff, Nat.reduceLT, Int.reduceLE, Int.reduceLT, Int.reduceToNat, Int.reduceNegSucc, Nat.reduceMul, Int.reduceAdd, Nat.reduceBEq, Nat.reduceSub, Nat.reducePow, Int.reduceBEq, reduceCtorEq, E0P, E0hand, E0hard, E0row, E0nw, E0aown, E0glob, ↓reduceIte]
  all_goals rfl
noncomputable def j16_21 (b3_1 : Nat) (i4 : Int) (c5 : UInt8) (t8_1 : Nat) (t9 : Int) (t10 : Int) (t20 : Bool) (h0 : List UInt8) : Option ((Nat × Nat × Int × Int × List UInt8) ⊕ R16) :=
  if t20 = true then
    if 0 ≤ i4 ∧ i4 < (b3_1 : Int) then
      if i4.toNat < h0.length then
        j16_24 b3_1 t8_1 t9 t10 (h0.set i4.toNat ((c5 + (97 : UInt8)) - (65 : UInt8)))
      else none
    else none
  else
    j16_24 b3_1 t8_1 t9 t10 h0
set_option maxRecDepth 100000 in
theorem j16_21_t (b3_1 : Nat) (i4 : Int) (c5 : UInt8) (t8_1 : Nat) (t9 : Int) (t10 : Int) (t20 : Bool) (h0 : List UInt8)  (sl : Nat → AV) (zq3 : sl 3 = .v (.c (.slc 0 0 1 b3_1 none))) (zq4 : sl 4 = .v (.c (.d (.sc (.int .i64 i4))))) (zq5 : sl 5 = .v (.c (.d (.sc (.int .u8 ((c5).toNat : Int)))))) (zq8 : sl 8 = .v (.c (.slc 0 0 1 t8_1 none))) (zq9 : sl 9 = .v (.c (.d (.sc (.int .i64 t9))))) (zq10 : sl 10 = .v (.c (.d (.sc (.int .i64 t10))))) (zq20 : sl 20 = .v (.c (.d (.sc (.bool t20))))) :
    stepE (K16_8 (mm := mm)) (loopK 0 [(3, .keep), (8, .keep), (9, .keep), (10, .keep)] (seqD (E0 mm) 16 0 (callW (E0 mm)) itW c16_24 (blockD 1 (den (E0 mm) 16 0 (callW (E0 mm)) itW c16_21 none ⟨sl, [.cells (enC h0)]⟩)))) = (j16_21 b3_1 i4 c5 t8_1 t9 t10 t20 h0).map (sm en16_8 e16) := by
  simp -implicitDefEqProofs only [j16_21, (show c16_21 = Code.cond _ c16_22 c16_23 from rfl), zq3, zq4, zq5, zq8, zq9, zq10, zq20, setA, setB, String.reduceBEq, Nat.reduceEqDiff, Int.reduceEq, Nat.reduceAdd, Nat.reduceLeDiff, Nat.reduceLT, Int.reduceLE, Int.reduceLT, Int.reduceToNat, Int.reduceNegSucc, Nat.reduceMul, Int.reduceAdd, Nat.reduceBEq, Nat.reduceSub, Nat.reducePow, Int.reduceBEq, reduceCtorEq, E0P, E0hand, E0hard, E0row, E0nw, E0aown, E0glob, ↓reduceIte]
  refine brB (fun yc6 => ?_) (fun yc6 => ?_)
  · simp -implicitDefEqProofs only [c16_22_r, (show opsOf c16_22 = _ :: _ from rfl), Tryd.underlying33, sz5, zq3, zq4, zq5, zq8, zq9, zq10, zq20, yc6, setA, setB, String.reduceBEq, Nat.reduceEqDiff, Int.reduceEq, Nat.reduceAdd, Nat.reduceLeDiff, Nat.reduceLT, Int.reduceLE, Int.reduceLT, Int.reduceToNat, Int.reduceNegSucc, Nat.reduceMul, Int.reduceAdd, Nat.reduceBEq, Nat.reduceSub, Nat.reducePow, Int.reduceBEq, reduceCtorEq, E0P, E0hand, E0hard, E0row, E0nw, E0aown, E0glob, ↓reduceIte]
    refine brP (fun yc7 => ?_) (fun yc7 => ?_)
    · have yd8 : i4.toNat < b3_1 := by omega
      simp -implicitDefEqProofs only [sz5, enC_length, enC_wr, zq3, zq4, zq5, zq8, zq9, zq10, zq20, yc6, yc7, yd8, setA, setB, String.reduceBEq, Nat.reduceEqDiff, Int.reduceEq, Nat.reduceAdd, Nat.reduceLeDiff, Nat.reduceLT, Int.reduceLE, Int.reduceLT, Int.reduceToNat, Int.reduceNegSucc, Nat.reduceMul, Int.reduceAdd, Nat.reduceBEq, Nat.reduceSub, Nat.reducePow, Int.reduceBEq, reduceCtorEq, E0P, E0hand, E0hard, E0row, E0nw, E0aown, E0glob, ↓reduceIte]
      refine brP (fun yc9 => ?_) (fun yc9 => ?_)
      · simp -implicitDefEqProofs only [zq3, zq4, zq5, zq8, zq9, zq10, zq20, yc6, yc7, yd8, yc9, setA, setB, String.reduceBEq, Nat.reduceEqDiff, Int.reduceEq, Nat.reduceAdd, Nat.reduceLeDiff, Nat.reduceLT, Int.reduceLE, Int.reduceLT, Int.reduceToNat, Int.reduceNegSucc, Nat.reduceMul, Int.reduceAdd, Nat.reduceBEq, Nat.reduceSub, Nat.reducePow, Int.reduceBEq, reduceCtorEq, E0P, E0hand, E0hard, E0row, E0nw, E0aown, E0glob, ↓reduceIte]
        exact j16_24_t b3_1 t8_1 t9 t10 (h0.set i4.toNat ((c5 + (97 : UInt8)) - (65 : UInt8))) _ (by exact zq3) (by exact zq8) (by exact zq9) (by exact zq10)
      · simp -implicitDefEqProofs only [zq3, zq4, zq5, zq8, zq9, zq10, zq20, yc6, yc7, yd8, yc9, setA, setB, String.reduceBEq, Nat.reduceEqDiff, Int.reduceEq, Nat.reduceAdd, Nat.reduceLeDiff, Nat.reduceLT, Int.reduceLE, Int.reduceLT, Int.reduceToNat, Int.reduceNegSucc, Nat.reduceMul, Int.reduceAdd, Nat.reduceBEq, Nat.reduceSub, Nat.reducePow, Int.reduceBEq, reduceCtorEq, E0P, E0hand, E0hard, E0row, E0nw, E0aown, E0glob, ↓reduceIte]
    · simp -implicitDefEqProofs only [zq3, zq4, zq5, zq8, zq9, zq10, zq20, yc6, yc7, setA, setB, String.reduceBEq, Nat.reduceEqDiff, Int.reduceEq, Nat.reduceAdd, Nat.reduceLeDiff, Nat.reduceLT, Int.reduceLE, Int.reduceLT, Int.reduceToNat, Int.reduceNegSucc, Nat.reduceMul, Int.reduceAdd, Nat.reduceBEq, Nat.reduceSub, Nat.reducePow, Int.reduceBEq, reduceCtorEq, E0P, E0hand, E0hard, E0row, E0nw, E0aown, E0glob, ↓reduceIte]
  · simp -implicitDefEqProofs only [c16_23_e, zq3, zq4, zq5, zq8, zq9, zq10, zq20, yc6, setA, setB, String.reduceBEq, Nat.reduceEqDiff, Int.reduceEq, Nat.reduceAdd, Nat.reduceLeDiff, Nat.reduceLT, Int.reduceLE, Int.reduceLT, Int.reduceToNat, Int.reduceNegSucc, Nat.reduceMul, Int.reduceAdd, Nat.reduceBEq, Nat.reduceSub, Nat.reducePow, Int.reduceBEq, reduceCtorEq, E0P, E0hand, E0hard, E0row, E0nw, E0aown, E0glob, ↓reduceIte]
    exact j16_24_t b3_1 t8_1 t9 t10 h0 _ (by exact zq3) (by exact zq8) (by exact zq9) (by exact zq10)
noncomputable def j16_25 (b3_1 : Nat) (h0 : List UInt8) : Option R16 :=
  if b3_1 ≤ h0.length then
    some (h0.take b3_1)
  else none
set_option maxRecDepth 100000 in
theorem j16_25_t (b3_1 : Nat) (h0 : List UInt8)  (sl : Nat → AV) (zq3 : sl 3 = .v (.c (.slc 0 0 1 b3_1 none))) :
    bodyD (E0 mm) [.tmp 2] 0 false (den (E0 mm) 16 0 (callW (E0 mm)) itW c16_25 none ⟨sl, [.cells (enC h0)]⟩) = (j16_25 b3_1 h0).map e16 := by
  simp -implicitDefEqProofs only [j16_25, c16_25_e, c16_26_r, (show opsOf c16_26 = _ :: _ from rfl), Tryd.underlying33, Tryd.underlying9, Tryd.underlying5, enC_length, enC_take, mapM_enC, zq3, setA, setB, String.reduceBEq, Nat.reduceEqDiff, Int.reduceEq, Nat.reduceAdd, Nat.reduceLeDiff, Nat.reduceLT, Int.reduceLE, Int.reduceLT, Int.reduceToNat, Int.reduceNegSucc, Nat.reduceMul, Int.reduceAdd, Nat.reduceBEq, Nat.reduceSub, Nat.reducePow, Int.reduceBEq, reduceCtorEq, E0P, E0hand, E0hard, E0row, E0nw, E0aown, E0glob, ↓reduceIte]
  refine brP (fun yc10 => ?_) (fun yc10 => ?_)
  · simp -implicitDefEqProofs only [enC_length, enC_take, mapM_enC, (chunk_enD b3_1 h0 yc10), c16_27_e, zq3, yc10, setA, setB, String.reduceBEq, Nat.reduceEqDiff, Int.reduceEq, Nat.reduceAdd, Nat.reduceLeDiff, Nat.reduceLT, Int.reduceLE, Int.reduceLT, Int.reduceToNat, Int.reduceNegSucc, Nat.reduceMul, Int.reduceAdd, Nat.reduceBEq, Nat.reduceSub, Nat.reducePow, Int.reduceBEq, reduceCtorEq, E0P, E0hand, E0hard, E0row, E0nw, E0aown, E0glob, ↓reduceIte]
    all_goals rfl
  · simp -implicitDefEqProofs only [zq3, yc10, setA, setB, String.reduceBEq, Nat.reduceEqDiff, Int.reduceEq, Nat.reduceAdd, Nat.reduceLeDiff, Nat.reduceLT, Int.reduceLE, Int.reduceLT, Int.reduceToNat, Int.reduceNegSucc, Nat.reduceMul, Int.reduceAdd, Nat.reduceBEq, Nat.reduceSub, Nat.reducePow, Int.reduceBEq, reduceCtorEq, E0P, E0hand, E0hard, E0row, E0nw, E0aown, E0glob, ↓reduceIte]
noncomputable def s16_8 (b3_1 : Nat) (t8_1 : Nat) (t9 : Int) (t10 : Int) (h0 : List UInt8) : Option ((Nat × Nat × Int × Int × List UInt8) ⊕ R16) :=
  if (decide (t10 < t9)) = true then
    if 0 ≤ t10 ∧ t10 < (t8_1 : Int) then
      if t10.toNat < h0.length then
        if (decide ((65 : UInt8) ≤ (h0.getD t10.toNat 0))) = true then
          j16_21 b3_1 t10 (h0.getD t10.toNat 0) t8_1 t9 t10 (decide ((h0.getD t10.toNat 0) ≤ (90 : UInt8))) h0
        else
          j16_21 b3_1 t10 (h0.getD t10.toNat 0) t8_1 t9 t10 false h0
      else none
    else none
  else
    (j16_25 b3_1 h0).map .inr
set_option maxRecDepth 100000 in
theorem s16_8_t (b3_1 : Nat) (t8_1 : Nat) (t9 : Int) (t10 : Int) (h0 : List UInt8) :
    stepE (K16_8 (mm := mm)) (loopF (E0 mm) 16 0 (callW (E0 mm)) itW c16_9 [(3, .keep), (8, .keep), (9, .keep), (10, .keep)] (none, [.v (.c (.slc 0 0 1 b3_1 none)), .v (.c (.slc 0 0 1 t8_1 none)), .v (.c (.d (.sc (.int .i64 t9)))), .v (.c (.d (.sc (.int .i64 t10))))], [.cells (enC h0)])) = (s16_8 b3_1 t8_1 t9 t10 h0).map (sm en16_8 e16) := by
  simp -implicitDefEqProofs only [s16_8, loopF_eq, c16_9_e, c16_10_r, (show opsOf c16_10 = _ :: _ from rfl), c16_11_e, (show c16_12 = Code.cond _ c16_13 c16_14 from rfl), setA, setB, String.reduceBEq, Nat.reduceEqDiff, Int.reduceEq, Nat.reduceAdd, Nat.reduceLeDiff, Nat.reduceLT, Int.reduceLE, Int.reduceLT, Int.reduceToNat, Int.reduceNegSucc, Nat.reduceMul, Int.reduceAdd, Nat.reduceBEq, Nat.reduceSub, Nat.reducePow, Int.reduceBEq, reduceCtorEq, E0P, E0hand, E0hard, E0row, E0nw, E0aown, E0glob, ↓reduceIte]
  refine brB (fun yc1 => ?_) (fun yc1 => ?_)
  · simp -implicitDefEqProofs only [c16_13_e, c16_15_e, c16_16_e, c16_17_e, c16_18_r, (show opsOf c16_18 = _ :: _ from rfl), Tryd.underlying33, sz5, yc1, setA, setB, String.reduceBEq, Nat.reduceEqDiff, Int.reduceEq, Nat.reduceAdd, Nat.reduceLeDiff, Nat.reduceLT, Int.reduceLE, Int.reduceLT, Int.reduceToNat, Int.reduceNegSucc, Nat.reduceMul, Int.reduceAdd, Nat.reduceBEq, Nat.reduceSub, Nat.reducePow, Int.reduceBEq, reduceCtorEq, E0P, E0hand, E0hard, E0row, E0nw, E0aown, E0glob, ↓reduceIte]
    refine brP (fun yc2 => ?_) (fun yc2 => ?_)
    · have yd3 : t10.toNat < t8_1 := by omega
      simp -implicitDefEqProofs only [sz5, ag5, enC_length, yc1, yc2, yd3, setA, setB, String.reduceBEq, Nat.reduceEqDiff, Int.reduceEq, Nat.reduceAdd, Nat.reduceLeDiff, Nat.reduceLT, Int.reduceLE, Int.reduceLT, Int.reduceToNat, Int.reduceNegSucc, Nat.reduceMul, Int.reduceAdd, Nat.reduceBEq, Nat.reduceSub, Nat.reducePow, Int.reduceBEq, reduceCtorEq, E0P, E0hand, E0hard, E0row, E0nw, E0aown, E0glob, ↓reduceIte]
      refine brP (fun yc4 => ?_) (fun yc4 => ?_)
      · simp -implicitDefEqProofs only [(enC_load h0 t10.toNat yc4), c16_19_e, c16_20_r, (show opsOf c16_20 = _ :: _ from rfl), yc1, yc2, yd3, yc4, setA, setB, String.reduceBEq, Nat.reduceEqDiff, Int.reduceEq, Nat.reduceAdd, Nat.reduceLeDiff, Nat.reduceLT, Int.reduceLE, Int.reduceLT, Int.reduceToNat, Int.reduceNegSucc, Nat.reduceMul, Int.reduceAdd, Nat.reduceBEq, Nat.reduceSub, Nat.reducePow, Int.reduceBEq, reduceCtorEq, E0P, E0hand, E0hard, E0row, E0nw, E0aown, E0glob, ↓reduceIte]
        refine brB (fun yc5 => ?_) (fun yc5 => ?_)
        · simp -implicitDefEqProofs only [yc1, yc2, yd3, yc4, yc5, setA, setB, String.reduceBEq, Nat.reduceEqDiff, Int.reduceEq, Nat.reduceAdd, Nat.reduceLeDiff, Nat.reduceLT, Int.reduceLE, Int.reduceLT, Int.reduceToNat, Int.reduceNegSucc, Nat.reduceMul, Int.reduceAdd, Nat.reduceBEq, Nat.reduceSub, Nat.reducePow, Int.reduceBEq, reduceCtorEq, E0P, E0hand, E0hard, E0row, E0nw, E0aown, E0glob, ↓reduceIte]
          exact j16_21_t b3_1 t10 (h0.getD t10.toNat 0) t8_1 t9 t10 (decide ((h0.getD t10.toNat 0) ≤ (90 : UInt8))) h0 _ (by rfl) (by rfl) (by rfl) (by rfl) (by rfl) (by rfl) (by rfl)
        · simp -implicitDefEqProofs only [yc1, yc2, yd3, yc4, yc5, setA, setB, String.reduceBEq, Nat.reduceEqDiff, Int.reduceEq, Nat.reduceAdd, Nat.reduceLeDiff, Nat.reduceLT, Int.reduceLE, Int.reduceLT, Int.reduceToNat, Int.reduceNegSucc, Nat.reduceMul, Int.reduceAdd, Nat.reduceBEq, Nat.reduceSub, Nat.reducePow, Int.reduceBEq, reduceCtorEq, E0P, E0hand, E0hard, E0row, E0nw, E0aown, E0glob, ↓reduceIte]
          exact j16_21_t b3_1 t10 (h0.getD t10.toNat 0) t8_1 t9 t10 false h0 _ (by rfl) (by rfl) (by rfl) (by rfl) (by rfl) (by rfl) (by rfl)
      · simp -implicitDefEqProofs only [yc1, yc2, yd3, yc4, setA, setB, String.reduceBEq, Nat.reduceEqDiff, Int.reduceEq, Nat.reduceAdd, Nat.reduceLeDiff, Nat.reduceLT, Int.reduceLE, Int.reduceLT, Int.reduceToNat, Int.reduceNegSucc, Nat.reduceMul, Int.reduceAdd, Nat.reduceBEq, Nat.reduceSub, Nat.reducePow, Int.reduceBEq, reduceCtorEq, E0P, E0hand, E0hard, E0row, E0nw, E0aown, E0glob, ↓reduceIte]
    · simp -implicitDefEqProofs only [yc1, yc2, setA, setB, String.reduceBEq, Nat.reduceEqDiff, Int.reduceEq, Nat.reduceAdd, Nat.reduceLeDiff, Nat.reduceLT, Int.reduceLE, Int.reduceLT, Int.reduceToNat, Int.reduceNegSucc, Nat.reduceMul, Int.reduceAdd, Nat.reduceBEq, Nat.reduceSub, Nat.reducePow, Int.reduceBEq, reduceCtorEq, E0P, E0hand, E0hard, E0row, E0nw, E0aown, E0glob, ↓reduceIte]
  · simp -implicitDefEqProofs only [c16_14_e, K16_8, yc1, setA, setB, String.reduceBEq, Nat.reduceEqDiff, Int.reduceEq, Nat.reduceAdd, Nat.reduceLeDiff, Nat.reduceLT, Int.reduceLE, Int.reduceLT, Int.reduceToNat, Int.reduceNegSucc, Nat.reduceMul, Int.reduceAdd, Nat.reduceBEq, Nat.reduceSub, Nat.reducePow, Int.reduceBEq, reduceCtorEq, E0P, E0hand, E0hard, E0row, E0nw, E0aown, E0glob, ↓reduceIte]
    exact mi (j16_25_t b3_1 h0 _ (by rfl))
noncomputable def l16_8 (b3_1 : Nat) (t8_1 : Nat) (t9 : Int) (t10 : Int) (h0 : List UInt8) : Option R16 := iter (fun x : Nat × Nat × Int × Int × List UInt8 => s16_8 x.1 x.2.1 x.2.2.1 x.2.2.2.1 x.2.2.2.2) (b3_1, t8_1, t9, t10, h0)
theorem l16_8_t (b3_1 : Nat) (t8_1 : Nat) (t9 : Int) (t10 : Int) (h0 : List UInt8) : bodyD (E0 mm) [.tmp 2] 0 false (seqD (E0 mm) 16 0 (callW (E0 mm)) itW c16_25 (blockD 0 (itW (loopF (E0 mm) 16 0 (callW (E0 mm)) itW c16_9 [(3, .keep), (8, .keep), (9, .keep), (10, .keep)]) (none, [.v (.c (.slc 0 0 1 b3_1 none)), .v (.c (.slc 0 0 1 t8_1 none)), .v (.c (.d (.sc (.int .i64 t9)))), .v (.c (.d (.sc (.int .i64 t10))))], [.cells (enC h0)])))) = (l16_8 b3_1 t8_1 t9 t10 h0).map e16 :=
  it_sim (K := (K16_8 (mm := mm))) rfl (enc := en16_8) (fun x => s16_8_t x.1 x.2.1 x.2.2.1 x.2.2.2.1 x.2.2.2.2) (b3_1, t8_1, t9, t10, h0)
noncomputable def m16 (s : Bs) : Option R16 :=
  l16_8 s.length s.length (s.length : Int) (0 : Int) s
set_option maxRecDepth 100000 in
theorem f16_t (s : Bs) :
    callW (E0 mm) 16 [.c (.d (.sc (.string (S s))))] [] = (m16 s).map e16 := by
  rw [callW_run (body := c16_0) (res := [.tmp 2]) Tryd.func16 rfl rfl (by kernel_rfl)]
  simp -implicitDefEqProofs only [m16, slots1, c16_0_e, c16_1_r, (show opsOf c16_1 = _ :: _ from rfl), c16_2_e, c16_3_r, (show opsOf c16_3 = _ :: _ from rfl), Tryd.underlying9, Tryd.underlying33, Tryd.underlying5, enC_S, S_size, c16_4_e, c16_5_e, c16_6_r, (show opsOf c16_6 = _ :: _ from rfl), c16_7_e, c16_8_l, setA, setB, String.reduceBEq, Nat.reduceEqDiff, Int.reduceEq, Nat.reduceAdd, Nat.reduceLeDiff, Nat.reduceLT, Int.reduceLE, Int.reduceLT, Int.reduceToNat, Int.reduceNegSucc, Nat.reduceMul, Int.reduceAdd, Nat.reduceBEq, Nat.reduceSub, Nat.reducePow, Int.reduceBEq, reduceCtorEq, E0P, E0hand, E0hard, E0row, E0nw, E0aown, E0glob, ↓reduceIte]
  exact l16_8_t s.length s.length (s.length : Int) (0 : Int) s
/-! tollhouse/tollhouseref02.Lower -/
noncomputable def c17_0 : Code := bodyOf Tryd.f17
noncomputable def c17_1 : Code := cA c17_0
noncomputable def c17_2 : Code := cB c17_0
noncomputable def c17_3 : Code := cA c17_2
noncomputable def c17_4 : Code := cB c17_2
noncomputable def c17_5 : Code := cA c17_4
noncomputable def c17_6 : Code := cA c17_5
noncomputable def c17_7 : Code := cB c17_5
noncomputable def c17_8 : Code := cA c17_7
noncomputable def c17_9 : Code := cA c17_8
noncomputable def c17_10 : Code := cA c17_9
noncomputable def c17_11 : Code := cA c17_10
noncomputable def c17_12 : Code := cB c17_10
noncomputable def c17_13 : Code := cA c17_12
noncomputable def c17_14 : Code := cB c17_12
noncomputable def c17_15 : Code := cB c17_9
noncomputable def c17_16 : Code := cA c17_15
noncomputable def c17_17 : Code := cA c17_16
noncomputable def c17_18 : Code := cA c17_17
noncomputable def c17_19 : Code := cB c17_17
noncomputable def c17_20 : Code := cA c17_19
noncomputable def c17_21 : Code := cB c17_19
noncomputable def c17_22 : Code := cB c17_15
noncomputable def c17_23 : Code := cB c17_4
noncomputable def c17_24 : Code := cA c17_23
noncomputable def c17_25 : Code := cB c17_23
theorem c17_0_e : c17_0 = .seq c17_1 c17_2 := rfl
theorem c17_1_r (m : Nat) (st : St) : den (E0 mm) 17 m (callW (E0 mm)) itW c17_1 none st = regD (runOps (E0 mm) (callW (E0 mm)) (opsOf c17_1) (opsOf c17_1) st) := den_rg (by rfl)
theorem c17_2_e : c17_2 = .seq c17_3 c17_4 := rfl
theorem c17_3_r (m : Nat) (st : St) : den (E0 mm) 17 m (callW (E0 mm)) itW c17_3 none st = regD (runOps (E0 mm) (callW (E0 mm)) (opsOf c17_3) (opsOf c17_3) st) := den_rg (by rfl)
theorem c17_4_e : c17_4 = .seq c17_5 c17_23 := rfl
theorem c17_5_e : c17_5 = .seq c17_6 c17_7 := rfl
theorem c17_6_r (m : Nat) (st : St) : den (E0 mm) 17 m (callW (E0 mm)) itW c17_6 none st = regD (runOps (E0 mm) (callW (E0 mm)) (opsOf c17_6) (opsOf c17_6) st) := den_rg (by rfl)
theorem c17_7_e : c17_7 = .block 0 c17_8 := rfl
theorem c17_8_l (m : Nat) (st : St) : den (E0 mm) 17 m (callW (E0 mm)) itW c17_8 none st = loopD itW (loopF (E0 mm) 17 m (callW (E0 mm)) itW c17_9 [(0, .keep), (3, .own), (4, .keep)]) (canon m [(0, .keep), (3, .own), (4, .keep)] st) := rfl
theorem c17_9_e : c17_9 = .seq c17_10 c17_15 := rfl
theorem c17_10_e : c17_10 = .seq c17_11 c17_12 := rfl
theorem c17_11_r (m : Nat) (st : St) : den (E0 mm) 17 m (callW (E0 mm)) itW c17_11 none st = regD (runOps (E0 mm) (callW (E0 mm)) (opsOf c17_11) (opsOf c17_11) st) := den_rg (by rfl)
theorem c17_13_e : c17_13 = .skip := rfl
theorem c17_14_e : c17_14 = .exit 0 := rfl
theorem c17_15_e : c17_15 = .seq c17_16 c17_22 := rfl
theorem c17_16_e : c17_16 = .block 1 c17_17 := rfl
theorem c17_17_e : c17_17 = .seq c17_18 c17_19 := rfl
theorem c17_18_r (m : Nat) (st : St) : den (E0 mm) 17 m (callW (E0 mm)) itW c17_18 none st = regD (runOps (E0 mm) (callW (E0 mm)) (opsOf c17_18) (opsOf c17_18) st) := den_rg (by rfl)
theorem c17_20_r (m : Nat) (st : St) : den (E0 mm) 17 m (callW (E0 mm)) itW c17_20 none st = regD (runOps (E0 mm) (callW (E0 mm)) (opsOf c17_20) (opsOf c17_20) st) := den_rg (by rfl)
theorem c17_21_r (m : Nat) (st : St) : den (E0 mm) 17 m (callW (E0 mm)) itW c17_21 none st = regD (runOps (E0 mm) (callW (E0 mm)) (opsOf c17_21) (opsOf c17_21) st) := den_rg (by rfl)
theorem c17_22_r (m : Nat) (st : St) : den (E0 mm) 17 m (callW (E0 mm)) itW c17_22 none st = regD (runOps (E0 mm) (callW (E0 mm)) (opsOf c17_22) (opsOf c17_22) st) := den_rg (by rfl)
theorem c17_23_e : c17_23 = .seq c17_24 c17_25 := rfl
theorem c17_24_r (m : Nat) (st : St) : den (E0 mm) 17 m (callW (E0 mm)) itW c17_24 none st = regD (runOps (E0 mm) (callW (E0 mm)) (opsOf c17_24) (opsOf c17_24) st) := den_rg (by rfl)
theorem c17_25_e : c17_25 = .ret := rfl
abbrev R17 := (Bs)
def e17 : R17 → AV × Heap := fun x => (.v (.c (.d (.sc (.string (S x))))), [])
noncomputable def K17_8 : Option (Ex × St) → Option (AV × Heap) := fun r => bodyD (E0 mm) [.tmp 2] 0 false (seqD (E0 mm) 17 0 (callW (E0 mm)) itW c17_23 (blockD 0 (r)))
def en17_8 : Bs × Bool × List UInt8 × Int → X := fun x => (none, [.v (.c (.d (.sc (.string (S x.1))))), .v (.c (.own x.2.1 (enL enB x.2.2.1) 0)), .v (.c (.d (.sc (.int .i64 x.2.2.2))))], [.row x.2.2.1.length (rz x.2.1 1)])
noncomputable def j17_22 (s0 : Bs) (b3_0 : Bool) (b3_1 : List UInt8) (i4 : Int) : Option ((Bs × Bool × List UInt8 × Int) ⊕ R17) :=
  some (.inl (s0, b3_0, b3_1, (w64 (i4 + 1))))
set_option maxRecDepth 100000 in
theorem j17_22_t (s0 : Bs) (b3_0 : Bool) (b3_1 : List UInt8) (i4 : Int) (g1 : Ob) (sl : Nat → AV) (zq0 : sl 0 = .v (.c (.d (.sc (.string (S s0)))))) (zq3 : sl 3 = .v (.c (.own b3_0 (enL enB b3_1) 0))) (zq4 : sl 4 = .v (.c (.d (.sc (.int .i64 i4))))) :
    stepE (K17_8 (mm := mm)) (loopK 0 [(0, .keep), (3, .own), (4, .keep)] (den (E0 mm) 17 0 (callW (E0 mm)) itW c17_22 none ⟨sl, [.row b3_1.length (rz b3_0 1), g1]⟩)) = (j17_22 s0 b3_0 b3_1 i4).map (sm en17_8 e17) := by
  simp -implicitDefEqProofs only [j17_22, c17_22_r, (show opsOf c17_22 = _ :: _ from rfl), zq0, zq3, zq4, setA, setB, String.reduceBEq, Nat.reduceEqDiff, Int.reduceEq, Nat.reduceAdd, Nat.reduceLeDiff, Nat.reduceLT, Int.reduceLE, Int.reduceLT, Int.reduceToNat, Int.reduceNegSucc, Nat.reduceMul, Int.reduceAdd, Nat.reduceBEq, Nat.reduceSub, Nat.reducePow, Int.reduceBEq, reduceCtorEq, E0P, E0hand, E0hard, E0row, E0nw, E0aown, E0glob, ↓reduceIte]
  all_goals rfl
noncomputable def j17_19 (s0 : Bs) (b3_0 : Bool) (b3_1 : List UInt8) (i4 : Int) (t20 : Bool) : Option ((Bs × Bool × List UInt8 × Int) ⊕ R17) :=
  if t20 = true then
    if 0 ≤ i4 ∧ i4 < (s0.length : Int) then
      if (b3_1.length + 1) * 1 ≤ 140737488355328 then
        j17_22 s0 false (b3_1 ++ ([((s0.getD i4.toNat 0) + (32 : UInt8))] : List UInt8)) i4
      else none
    else none
  else
    if 0 ≤ i4 ∧ i4 < (s0.length : Int) then
      if (b3_1.length + 1) * 1 ≤ 140737488355328 then
        j17_22 s0 false (b3_1 ++ ([(s0.getD i4.toNat 0)] : List UInt8)) i4
      else none
    else none
set_option maxRecDepth 100000 in
theorem j17_19_t (s0 : Bs) (b3_0 : Bool) (b3_1 : List UInt8) (i4 : Int) (t20 : Bool)  (sl : Nat → AV) (zq0 : sl 0 = .v (.c (.d (.sc (.string (S s0)))))) (zq3 : sl 3 = .v (.c (.own b3_0 (enL enB b3_1) 0))) (zq4 : sl 4 = .v (.c (.d (.sc (.int .i64 i4))))) (zq20 : sl 20 = .v (.c (.d (.sc (.bool t20))))) :
    stepE (K17_8 (mm := mm)) (loopK 0 [(0, .keep), (3, .own), (4, .keep)] (seqD (E0 mm) 17 0 (callW (E0 mm)) itW c17_22 (blockD 1 (den (E0 mm) 17 0 (callW (E0 mm)) itW c17_19 none ⟨sl, [.row b3_1.length (rz b3_0 1)]⟩)))) = (j17_19 s0 b3_0 b3_1 i4 t20).map (sm en17_8 e17) := by
  simp -implicitDefEqProofs only [j17_19, (show c17_19 = Code.cond _ c17_20 c17_21 from rfl), zq0, zq3, zq4, zq20, setA, setB, String.reduceBEq, Nat.reduceEqDiff, Int.reduceEq, Nat.reduceAdd, Nat.reduceLeDiff, Nat.reduceLT, Int.reduceLE, Int.reduceLT, Int.reduceToNat, Int.reduceNegSucc, Nat.reduceMul, Int.reduceAdd, Nat.reduceBEq, Nat.reduceSub, Nat.reducePow, Int.reduceBEq, reduceCtorEq, E0P, E0hand, E0hard, E0row, E0nw, E0aown, E0glob, ↓reduceIte]
  refine brB (fun yc4 => ?_) (fun yc4 => ?_)
  · simp -implicitDefEqProofs only [c17_20_r, (show opsOf c17_20 = _ :: _ from rfl), Tryd.underlying9, zq0, zq3, zq4, zq20, yc4, setA, setB, String.reduceBEq, Nat.reduceEqDiff, Int.reduceEq, Nat.reduceAdd, Nat.reduceLeDiff, Nat.reduceLT, Int.reduceLE, Int.reduceLT, Int.reduceToNat, Int.reduceNegSucc, Nat.reduceMul, Int.reduceAdd, Nat.reduceBEq, Nat.reduceSub, Nat.reducePow, Int.reduceBEq, reduceCtorEq, E0P, E0hand, E0hard, E0row, E0nw, E0aown, E0glob, ↓reduceIte]
    refine brP (fun yc5 => ?_) (fun yc5 => ?_)
    · simp -implicitDefEqProofs only [Tryd.underlying33, sz5, zc5, ns0, ap33, zq0, zq3, zq4, zq20, yc4, yc5, setA, setB, String.reduceBEq, Nat.reduceEqDiff, Int.reduceEq, Nat.reduceAdd, Nat.reduceLeDiff, Nat.reduceLT, Int.reduceLE, Int.reduceLT, Int.reduceToNat, Int.reduceNegSucc, Nat.reduceMul, Int.reduceAdd, Nat.reduceBEq, Nat.reduceSub, Nat.reducePow, Int.reduceBEq, reduceCtorEq, E0P, E0hand, E0hard, E0row, E0nw, E0aown, E0glob, ↓reduceIte]
      refine brP (fun yc6 => ?_) (fun yc6 => ?_)
      · simp -implicitDefEqProofs only [zq0, zq3, zq4, zq20, yc4, yc5, yc6, setA, setB, String.reduceBEq, Nat.reduceEqDiff, Int.reduceEq, Nat.reduceAdd, Nat.reduceLeDiff, Nat.reduceLT, Int.reduceLE, Int.reduceLT, Int.reduceToNat, Int.reduceNegSucc, Nat.reduceMul, Int.reduceAdd, Nat.reduceBEq, Nat.reduceSub, Nat.reducePow, Int.reduceBEq, reduceCtorEq, E0P, E0hand, E0hard, E0row, E0nw, E0aown, E0glob, ↓reduceIte]
        exact j17_22_t s0 false (b3_1 ++ ([((s0.getD i4.toNat 0) + (32 : UInt8))] : List UInt8)) i4 _ _ (by exact zq0) (by rfl) (by exact zq4)
      · simp -implicitDefEqProofs only [zq0, zq3, zq4, zq20, yc4, yc5, yc6, setA, setB, String.reduceBEq, Nat.reduceEqDiff, Int.reduceEq, Nat.reduceAdd, Nat.reduceLeDiff, Nat.reduceLT, Int.reduceLE, Int.reduceLT, Int.reduceToNat, Int.reduceNegSucc, Nat.reduceMul, Int.reduceAdd, Nat.reduceBEq, Nat.reduceSub, Nat.reducePow, Int.reduceBEq, reduceCtorEq, E0P, E0hand, E0hard, E0row, E0nw, E0aown, E0glob, ↓reduceIte]
    · simp -implicitDefEqProofs only [zq0, zq3, zq4, zq20, yc4, yc5, setA, setB, String.reduceBEq, Nat.reduceEqDiff, Int.reduceEq, Nat.reduceAdd, Nat.reduceLeDiff, Nat.reduceLT, Int.reduceLE, Int.reduceLT, Int.reduceToNat, Int.reduceNegSucc, Nat.reduceMul, Int.reduceAdd, Nat.reduceBEq, Nat.reduceSub, Nat.reducePow, Int.reduceBEq, reduceCtorEq, E0P, E0hand, E0hard, E0row, E0nw, E0aown, E0glob, ↓reduceIte]
  · simp -implicitDefEqProofs only [c17_21_r, (show opsOf c17_21 = _ :: _ from rfl), Tryd.underlying9, zq0, zq3, zq4, zq20, yc4, setA, setB, String.reduceBEq, Nat.reduceEqDiff, Int.reduceEq, Nat.reduceAdd, Nat.reduceLeDiff, Nat.reduceLT, Int.reduceLE, Int.reduceLT, Int.reduceToNat, Int.reduceNegSucc, Nat.reduceMul, Int.reduceAdd, Nat.reduceBEq, Nat.reduceSub, Nat.reducePow, Int.reduceBEq, reduceCtorEq, E0P, E0hand, E0hard, E0row, E0nw, E0aown, E0glob, ↓reduceIte]
    refine brP (fun yc7 => ?_) (fun yc7 => ?_)
    · simp -implicitDefEqProofs only [Tryd.underlying33, sz5, zc5, ns0, ap33, zq0, zq3, zq4, zq20, yc4, yc7, setA, setB, String.reduceBEq, Nat.reduceEqDiff, Int.reduceEq, Nat.reduceAdd, Nat.reduceLeDiff, Nat.reduceLT, Int.reduceLE, Int.reduceLT, Int.reduceToNat, Int.reduceNegSucc, Nat.reduceMul, Int.reduceAdd, Nat.reduceBEq, Nat.reduceSub, Nat.reducePow, Int.reduceBEq, reduceCtorEq, E0P, E0hand, E0hard, E0row, E0nw, E0aown, E0glob, ↓reduceIte]
      refine brP (fun yc8 => ?_) (fun yc8 => ?_)
      · simp -implicitDefEqProofs only [zq0, zq3, zq4, zq20, yc4, yc7, yc8, setA, setB, String.reduceBEq, Nat.reduceEqDiff, Int.reduceEq, Nat.reduceAdd, Nat.reduceLeDiff, Nat.reduceLT, Int.reduceLE, Int.reduceLT, Int.reduceToNat, Int.reduceNegSucc, Nat.reduceMul, Int.reduceAdd, Nat.reduceBEq, Nat.reduceSub, Nat.reducePow, Int.reduceBEq, reduceCtorEq, E0P, E0hand, E0hard, E0row, E0nw, E0aown, E0glob, ↓reduceIte]
        exact j17_22_t s0 false (b3_1 ++ ([(s0.getD i4.toNat 0)] : List UInt8)) i4 _ _ (by exact zq0) (by rfl) (by exact zq4)
      · simp -implicitDefEqProofs only [zq0, zq3, zq4, zq20, yc4, yc7, yc8, setA, setB, String.reduceBEq, Nat.reduceEqDiff, Int.reduceEq, Nat.reduceAdd, Nat.reduceLeDiff, Nat.reduceLT, Int.reduceLE, Int.reduceLT, Int.reduceToNat, Int.reduceNegSucc, Nat.reduceMul, Int.reduceAdd, Nat.reduceBEq, Nat.reduceSub, Nat.reducePow, Int.reduceBEq, reduceCtorEq, E0P, E0hand, E0hard, E0row, E0nw, E0aown, E0glob, ↓reduceIte]
    · simp -implicitDefEqProofs only [zq0, zq3, zq4, zq20, yc4, yc7, setA, setB, String.reduceBEq, Nat.reduceEqDiff, Int.reduceEq, Nat.reduceAdd, Nat.reduceLeDiff, Nat.reduceLT, Int.reduceLE, Int.reduceLT, Int.reduceToNat, Int.reduceNegSucc, Nat.reduceMul, Int.reduceAdd, Nat.reduceBEq, Nat.reduceSub, Nat.reducePow, Int.reduceBEq, reduceCtorEq, E0P, E0hand, E0hard, E0row, E0nw, E0aown, E0glob, ↓reduceIte]
noncomputable def j17_23 (b3_0 : Bool) (b3_1 : List UInt8) : Option R17 :=
  some b3_1
set_option maxRecDepth 100000 in
theorem j17_23_t (b3_0 : Bool) (b3_1 : List UInt8)  (sl : Nat → AV) (zq3 : sl 3 = .v (.c (.own b3_0 (enL enB b3_1) 0))) :
    bodyD (E0 mm) [.tmp 2] 0 false (den (E0 mm) 17 0 (callW (E0 mm)) itW c17_23 none ⟨sl, [.row b3_1.length (rz b3_0 1)]⟩) = (j17_23 b3_0 b3_1).map e17 := by
  simp -implicitDefEqProofs only [j17_23, c17_23_e, c17_24_r, (show opsOf c17_24 = _ :: _ from rfl), Tryd.underlying33, Tryd.underlying9, Tryd.underlying5, c17_25_e, zq3, setA, setB, String.reduceBEq, Nat.reduceEqDiff, Int.reduceEq, Nat.reduceAdd, Nat.reduceLeDiff, Nat.reduceLT, Int.reduceLE, Int.reduceLT, Int.reduceToNat, Int.reduceNegSucc, Nat.reduceMul, Int.reduceAdd, Nat.reduceBEq, Nat.reduceSub, Nat.reducePow, Int.reduceBEq, reduceCtorEq, E0P, E0hand, E0hard, E0row, E0nw, E0aown, E0glob, ↓reduceIte]
  all_goals rfl
noncomputable def s17_8 (s0 : Bs) (b3_0 : Bool) (b3_1 : List UInt8) (i4 : Int) : Option ((Bs × Bool × List UInt8 × Int) ⊕ R17) :=
  if (decide (i4 < (s0.length : Int))) = true then
    if 0 ≤ i4 ∧ i4 < (s0.length : Int) then
      if (decide ((65 : UInt8) ≤ (s0.getD i4.toNat 0))) = true then
        j17_19 s0 b3_0 b3_1 i4 (decide ((s0.getD i4.toNat 0) ≤ (90 : UInt8)))
      else
        j17_19 s0 b3_0 b3_1 i4 false
    else none
  else
    (j17_23 b3_0 b3_1).map .inr
set_option maxRecDepth 100000 in
theorem s17_8_t (s0 : Bs) (b3_0 : Bool) (b3_1 : List UInt8) (i4 : Int) :
    stepE (K17_8 (mm := mm)) (loopF (E0 mm) 17 0 (callW (E0 mm)) itW c17_9 [(0, .keep), (3, .own), (4, .keep)] (none, [.v (.c (.d (.sc (.string (S s0))))), .v (.c (.own b3_0 (enL enB b3_1) 0)), .v (.c (.d (.sc (.int .i64 i4))))], [.row b3_1.length (rz b3_0 1)])) = (s17_8 s0 b3_0 b3_1 i4).map (sm en17_8 e17) := by
  simp -implicitDefEqProofs only [s17_8, loopF_eq, c17_9_e, c17_10_e, c17_11_r, (show opsOf c17_11 = _ :: _ from rfl), Tryd.underlying9, (show c17_12 = Code.cond _ c17_13 c17_14 from rfl), setA, setB, String.reduceBEq, Nat.reduceEqDiff, Int.reduceEq, Nat.reduceAdd, Nat.reduceLeDiff, Nat.reduceLT, Int.reduceLE, Int.reduceLT, Int.reduceToNat, Int.reduceNegSucc, Nat.reduceMul, Int.reduceAdd, Nat.reduceBEq, Nat.reduceSub, Nat.reducePow, Int.reduceBEq, reduceCtorEq, E0P, E0hand, E0hard, E0row, E0nw, E0aown, E0glob, ↓reduceIte]
  refine brB (fun yc1 => ?_) (fun yc1 => ?_)
  · simp -implicitDefEqProofs only [c17_13_e, c17_15_e, c17_16_e, c17_17_e, c17_18_r, (show opsOf c17_18 = _ :: _ from rfl), Tryd.underlying9, yc1, setA, setB, String.reduceBEq, Nat.reduceEqDiff, Int.reduceEq, Nat.reduceAdd, Nat.reduceLeDiff, Nat.reduceLT, Int.reduceLE, Int.reduceLT, Int.reduceToNat, Int.reduceNegSucc, Nat.reduceMul, Int.reduceAdd, Nat.reduceBEq, Nat.reduceSub, Nat.reducePow, Int.reduceBEq, reduceCtorEq, E0P, E0hand, E0hard, E0row, E0nw, E0aown, E0glob, ↓reduceIte]
    refine brP (fun yc2 => ?_) (fun yc2 => ?_)
    · simp -implicitDefEqProofs only [yc1, yc2, setA, setB, String.reduceBEq, Nat.reduceEqDiff, Int.reduceEq, Nat.reduceAdd, Nat.reduceLeDiff, Nat.reduceLT, Int.reduceLE, Int.reduceLT, Int.reduceToNat, Int.reduceNegSucc, Nat.reduceMul, Int.reduceAdd, Nat.reduceBEq, Nat.reduceSub, Nat.reducePow, Int.reduceBEq, reduceCtorEq, E0P, E0hand, E0hard, E0row, E0nw, E0aown, E0glob, ↓reduceIte]
      refine brB (fun yc3 => ?_) (fun yc3 => ?_)
      · simp -implicitDefEqProofs only [Tryd.underlying9, yc1, yc2, yc3, setA, setB, String.reduceBEq, Nat.reduceEqDiff, Int.reduceEq, Nat.reduceAdd, Nat.reduceLeDiff, Nat.reduceLT, Int.reduceLE, Int.reduceLT, Int.reduceToNat, Int.reduceNegSucc, Nat.reduceMul, Int.reduceAdd, Nat.reduceBEq, Nat.reduceSub, Nat.reducePow, Int.reduceBEq, reduceCtorEq, E0P, E0hand, E0hard, E0row, E0nw, E0aown, E0glob, ↓reduceIte]
        exact j17_19_t s0 b3_0 b3_1 i4 (decide ((s0.getD i4.toNat 0) ≤ (90 : UInt8))) _ (by rfl) (by rfl) (by rfl) (by rfl)
      · simp -implicitDefEqProofs only [yc1, yc2, yc3, setA, setB, String.reduceBEq, Nat.reduceEqDiff, Int.reduceEq, Nat.reduceAdd, Nat.reduceLeDiff, Nat.reduceLT, Int.reduceLE, Int.reduceLT, Int.reduceToNat, Int.reduceNegSucc, Nat.reduceMul, Int.reduceAdd, Nat.reduceBEq, Nat.reduceSub, Nat.reducePow, Int.reduceBEq, reduceCtorEq, E0P, E0hand, E0hard, E0row, E0nw, E0aown, E0glob, ↓reduceIte]
        exact j17_19_t s0 b3_0 b3_1 i4 false _ (by rfl) (by rfl) (by rfl) (by rfl)
    · simp -implicitDefEqProofs only [yc1, yc2, setA, setB, String.reduceBEq, Nat.reduceEqDiff, Int.reduceEq, Nat.reduceAdd, Nat.reduceLeDiff, Nat.reduceLT, Int.reduceLE, Int.reduceLT, Int.reduceToNat, Int.reduceNegSucc, Nat.reduceMul, Int.reduceAdd, Nat.reduceBEq, Nat.reduceSub, Nat.reducePow, Int.reduceBEq, reduceCtorEq, E0P, E0hand, E0hard, E0row, E0nw, E0aown, E0glob, ↓reduceIte]
  · simp -implicitDefEqProofs only [c17_14_e, K17_8, yc1, setA, setB, String.reduceBEq, Nat.reduceEqDiff, Int.reduceEq, Nat.reduceAdd, Nat.reduceLeDiff, Nat.reduceLT, Int.reduceLE, Int.reduceLT, Int.reduceToNat, Int.reduceNegSucc, Nat.reduceMul, Int.reduceAdd, Nat.reduceBEq, Nat.reduceSub, Nat.reducePow, Int.reduceBEq, reduceCtorEq, E0P, E0hand, E0hard, E0row, E0nw, E0aown, E0glob, ↓reduceIte]
    exact mi (j17_23_t b3_0 b3_1 _ (by rfl))
noncomputable def l17_8 (s0 : Bs) (b3_0 : Bool) (b3_1 : List UInt8) (i4 : Int) : Option R17 := iter (fun x : Bs × Bool × List UInt8 × Int => s17_8 x.1 x.2.1 x.2.2.1 x.2.2.2) (s0, b3_0, b3_1, i4)
theorem l17_8_t (s0 : Bs) (b3_0 : Bool) (b3_1 : List UInt8) (i4 : Int) : bodyD (E0 mm) [.tmp 2] 0 false (seqD (E0 mm) 17 0 (callW (E0 mm)) itW c17_23 (blockD 0 (itW (loopF (E0 mm) 17 0 (callW (E0 mm)) itW c17_9 [(0, .keep), (3, .own), (4, .keep)]) (none, [.v (.c (.d (.sc (.string (S s0))))), .v (.c (.own b3_0 (enL enB b3_1) 0)), .v (.c (.d (.sc (.int .i64 i4))))], [.row b3_1.length (rz b3_0 1)])))) = (l17_8 s0 b3_0 b3_1 i4).map e17 :=
  it_sim (K := (K17_8 (mm := mm))) rfl (enc := en17_8) (fun x => s17_8_t x.1 x.2.1 x.2.2.1 x.2.2.2) (s0, b3_0, b3_1, i4)
noncomputable def m17 (s : Bs) : Option R17 :=
  l17_8 s true ([] : List UInt8) (0 : Int)
set_option maxRecDepth 100000 in
theorem f17_t (s : Bs) :
    callW (E0 mm) 17 [.c (.d (.sc (.string (S s))))] [] = (m17 s).map e17 := by
  rw [callW_run (body := c17_0) (res := [.tmp 2]) Tryd.func17 rfl rfl (by kernel_rfl)]
  simp -implicitDefEqProofs only [m17, slots1, c17_0_e, c17_1_r, (show opsOf c17_1 = _ :: _ from rfl), c17_2_e, c17_3_r, (show opsOf c17_3 = _ :: _ from rfl), c17_4_e, c17_5_e, c17_6_r, (show opsOf c17_6 = _ :: _ from rfl), c17_7_e, c17_8_l, setA, setB, String.reduceBEq, Nat.reduceEqDiff, Int.reduceEq, Nat.reduceAdd, Nat.reduceLeDiff, Nat.reduceLT, Int.reduceLE, Int.reduceLT, Int.reduceToNat, Int.reduceNegSucc, Nat.reduceMul, Int.reduceAdd, Nat.reduceBEq, Nat.reduceSub, Nat.reducePow, Int.reduceBEq, reduceCtorEq, E0P, E0hand, E0hard, E0row, E0nw, E0aown, E0glob, ↓reduceIte]
  exact l17_8_t s true ([] : List UInt8) (0 : Int)
/-! tollhouse/text.Same -/
noncomputable def c18_0 : Code := bodyOf Tryd.f18
noncomputable def c18_1 : Code := cA c18_0
noncomputable def c18_2 : Code := cB c18_0
noncomputable def c18_3 : Code := cA c18_2
noncomputable def c18_4 : Code := cB c18_2
theorem c18_0_e : c18_0 = .seq c18_1 c18_2 := rfl
theorem c18_1_r (m : Nat) (st : St) : den (E0 mm) 18 m (callW (E0 mm)) itW c18_1 none st = regD (runOps (E0 mm) (callW (E0 mm)) (opsOf c18_1) (opsOf c18_1) st) := den_rg (by rfl)
theorem c18_2_e : c18_2 = .seq c18_3 c18_4 := rfl
theorem c18_3_r (m : Nat) (st : St) : den (E0 mm) 18 m (callW (E0 mm)) itW c18_3 none st = regD (runOps (E0 mm) (callW (E0 mm)) (opsOf c18_3) (opsOf c18_3) st) := den_rg (by rfl)
theorem c18_4_e : c18_4 = .ret := rfl
abbrev R18 := (Bool)
def e18 : R18 → AV × Heap := fun x => (.v (.c (.d (.sc (.bool x)))), [])
noncomputable def m18 (a : Bs) (b : Bs) : Option R18 :=
  (m16 a).bind fun yr2 =>
    (m16 b).bind fun yr4 =>
      some (yr2 == yr4)
set_option maxRecDepth 100000 in
theorem f18_t (a : Bs) (b : Bs) :
    callW (E0 mm) 18 [.c (.d (.sc (.string (S a)))), .c (.d (.sc (.string (S b))))] [] = (m18 a b).map e18 := by
  rw [callW_run (body := c18_0) (res := [.tmp 4]) Tryd.func18 rfl rfl (by kernel_rfl)]
  simp -implicitDefEqProofs only [m18, slots2, c18_0_e, c18_1_r, (show opsOf c18_1 = _ :: _ from rfl), c18_2_e, c18_3_r, (show opsOf c18_3 = _ :: _ from rfl), ent16, prm16, f16_t, setA, setB, String.reduceBEq, Nat.reduceEqDiff, Int.reduceEq, Nat.reduceAdd, Nat.reduceLeDiff, Nat.reduceLT, Int.reduceLE, Int.reduceLT, Int.reduceToNat, Int.reduceNegSucc, Nat.reduceMul, Int.reduceAdd, Nat.reduceBEq, Nat.reduceSub, Nat.reducePow, Int.reduceBEq, reduceCtorEq, E0P, E0hand, E0hard, E0row, E0nw, E0aown, E0glob, ↓reduceIte]
  refine brM (fun yc1 => ?_) (fun yr2 yc1 => ?_)
  · simp -implicitDefEqProofs only [yc1, e16, setA, setB, String.reduceBEq, Nat.reduceEqDiff, Int.reduceEq, Nat.reduceAdd, Nat.reduceLeDiff, Nat.reduceLT, Int.reduceLE, Int.reduceLT, Int.reduceToNat, Int.reduceNegSucc, Nat.reduceMul, Int.reduceAdd, Nat.reduceBEq, Nat.reduceSub, Nat.reducePow, Int.reduceBEq, reduceCtorEq, E0P, E0hand, E0hard, E0row, E0nw, E0aown, E0glob, ↓reduceIte]
  · simp -implicitDefEqProofs only [e16, ent16, prm16, f16_t, yc1, setA, setB, String.reduceBEq, Nat.reduceEqDiff, Int.reduceEq, Nat.reduceAdd, Nat.reduceLeDiff, Nat.reduceLT, Int.reduceLE, Int.reduceLT, Int.reduceToNat, Int.reduceNegSucc, Nat.reduceMul, Int.reduceAdd, Nat.reduceBEq, Nat.reduceSub, Nat.reducePow, Int.reduceBEq, reduceCtorEq, E0P, E0hand, E0hard, E0row, E0nw, E0aown, E0glob, ↓reduceIte]
    refine brM (fun yc3 => ?_) (fun yr4 yc3 => ?_)
    · simp -implicitDefEqProofs only [yc3, yc1, e16, setA, setB, String.reduceBEq, Nat.reduceEqDiff, Int.reduceEq, Nat.reduceAdd, Nat.reduceLeDiff, Nat.reduceLT, Int.reduceLE, Int.reduceLT, Int.reduceToNat, Int.reduceNegSucc, Nat.reduceMul, Int.reduceAdd, Nat.reduceBEq, Nat.reduceSub, Nat.reducePow, Int.reduceBEq, reduceCtorEq, E0P, E0hand, E0hard, E0row, E0nw, E0aown, E0glob, ↓reduceIte]
    · simp -implicitDefEqProofs only [e16, c18_4_e, yc1, yc3, setA, setB, String.reduceBEq, Nat.reduceEqDiff, Int.reduceEq, Nat.reduceAdd, Nat.reduceLeDiff, Nat.reduceLT, Int.reduceLE, Int.reduceLT, Int.reduceToNat, Int.reduceNegSucc, Nat.reduceMul, Int.reduceAdd, Nat.reduceBEq, Nat.reduceSub, Nat.reducePow, Int.reduceBEq, reduceCtorEq, E0P, E0hand, E0hard, E0row, E0nw, E0aown, E0glob, ↓reduceIte]
      all_goals rfl
/-! tollhouse/tollhouseref02.Same -/
noncomputable def c19_0 : Code := bodyOf Tryd.f19
noncomputable def c19_1 : Code := cA c19_0
noncomputable def c19_2 : Code := cB c19_0
noncomputable def c19_3 : Code := cA c19_2
noncomputable def c19_4 : Code := cB c19_2
theorem c19_0_e : c19_0 = .seq c19_1 c19_2 := rfl
theorem c19_1_r (m : Nat) (st : St) : den (E0 mm) 19 m (callW (E0 mm)) itW c19_1 none st = regD (runOps (E0 mm) (callW (E0 mm)) (opsOf c19_1) (opsOf c19_1) st) := den_rg (by rfl)
theorem c19_2_e : c19_2 = .seq c19_3 c19_4 := rfl
theorem c19_3_r (m : Nat) (st : St) : den (E0 mm) 19 m (callW (E0 mm)) itW c19_3 none st = regD (runOps (E0 mm) (callW (E0 mm)) (opsOf c19_3) (opsOf c19_3) st) := den_rg (by rfl)
theorem c19_4_e : c19_4 = .ret := rfl
abbrev R19 := (Bool)
def e19 : R19 → AV × Heap := fun x => (.v (.c (.d (.sc (.bool x)))), [])
noncomputable def m19 (a : Bs) (b : Bs) : Option R19 :=
  (m17 a).bind fun yr2 =>
    (m17 b).bind fun yr4 =>
      some (yr2 == yr4)
set_option maxRecDepth 100000 in
theorem f19_t (a : Bs) (b : Bs) :
    callW (E0 mm) 19 [.c (.d (.sc (.string (S a)))), .c (.d (.sc (.string (S b))))] [] = (m19 a b).map e19 := by
  rw [callW_run (body := c19_0) (res := [.tmp 4]) Tryd.func19 rfl rfl (by kernel_rfl)]
  simp -implicitDefEqProofs only [m19, slots2, c19_0_e, c19_1_r, (show opsOf c19_1 = _ :: _ from rfl), c19_2_e, c19_3_r, (show opsOf c19_3 = _ :: _ from rfl), ent17, prm17, f17_t, setA, setB, String.reduceBEq, Nat.reduceEqDiff, Int.reduceEq, Nat.reduceAdd, Nat.reduceLeDiff, Nat.reduceLT, Int.reduceLE, Int.reduceLT, Int.reduceToNat, Int.reduceNegSucc, Nat.reduceMul, Int.reduceAdd, Nat.reduceBEq, Nat.reduceSub, Nat.reducePow, Int.reduceBEq, reduceCtorEq, E0P, E0hand, E0hard, E0row, E0nw, E0aown, E0glob, ↓reduceIte]
  refine brM (fun yc1 => ?_) (fun yr2 yc1 => ?_)
  · simp -implicitDefEqProofs only [yc1, e17, setA, setB, String.reduceBEq, Nat.reduceEqDiff, Int.reduceEq, Nat.reduceAdd, Nat.reduceLeDiff, Nat.reduceLT, Int.reduceLE, Int.reduceLT, Int.reduceToNat, Int.reduceNegSucc, Nat.reduceMul, Int.reduceAdd, Nat.reduceBEq, Nat.reduceSub, Nat.reducePow, Int.reduceBEq, reduceCtorEq, E0P, E0hand, E0hard, E0row, E0nw, E0aown, E0glob, ↓reduceIte]
  · simp -implicitDefEqProofs only [e17, ent17, prm17, f17_t, yc1, setA, setB, String.reduceBEq, Nat.reduceEqDiff, Int.reduceEq, Nat.reduceAdd, Nat.reduceLeDiff, Nat.reduceLT, Int.reduceLE, Int.reduceLT, Int.reduceToNat, Int.reduceNegSucc, Nat.reduceMul, Int.reduceAdd, Nat.reduceBEq, Nat.reduceSub, Nat.reducePow, Int.reduceBEq, reduceCtorEq, E0P, E0hand, E0hard, E0row, E0nw, E0aown, E0glob, ↓reduceIte]
    refine brM (fun yc3 => ?_) (fun yr4 yc3 => ?_)
    · simp -implicitDefEqProofs only [yc3, yc1, e17, setA, setB, String.reduceBEq, Nat.reduceEqDiff, Int.reduceEq, Nat.reduceAdd, Nat.reduceLeDiff, Nat.reduceLT, Int.reduceLE, Int.reduceLT, Int.reduceToNat, Int.reduceNegSucc, Nat.reduceMul, Int.reduceAdd, Nat.reduceBEq, Nat.reduceSub, Nat.reducePow, Int.reduceBEq, reduceCtorEq, E0P, E0hand, E0hard, E0row, E0nw, E0aown, E0glob, ↓reduceIte]
    · simp -implicitDefEqProofs only [e17, c19_4_e, yc1, yc3, setA, setB, String.reduceBEq, Nat.reduceEqDiff, Int.reduceEq, Nat.reduceAdd, Nat.reduceLeDiff, Nat.reduceLT, Int.reduceLE, Int.reduceLT, Int.reduceToNat, Int.reduceNegSucc, Nat.reduceMul, Int.reduceAdd, Nat.reduceBEq, Nat.reduceSub, Nat.reducePow, Int.reduceBEq, reduceCtorEq, E0P, E0hand, E0hard, E0row, E0nw, E0aown, E0glob, ↓reduceIte]
      all_goals rfl
/-! tollhouse/text.List$1 -/
noncomputable def c36_0 : Code := bodyOf Tryd.f36
noncomputable def c36_1 : Code := cA c36_0
noncomputable def c36_2 : Code := cA c36_1
noncomputable def c36_3 : Code := cB c36_1
noncomputable def c36_4 : Code := cA c36_3
noncomputable def c36_5 : Code := cB c36_3
noncomputable def c36_6 : Code := cA c36_5
noncomputable def c36_7 : Code := cB c36_5
noncomputable def c36_8 : Code := cB c36_0
theorem c36_0_e : c36_0 = .seq c36_1 c36_8 := rfl
theorem c36_1_e : c36_1 = .seq c36_2 c36_3 := rfl
theorem c36_2_r (m : Nat) (st : St) : den (E0 mm) 36 m (callW (E0 mm)) itW c36_2 none st = regD (runOps (E0 mm) (callW (E0 mm)) (opsOf c36_2) (opsOf c36_2) st) := den_rg (by rfl)
theorem c36_3_e : c36_3 = .seq c36_4 c36_5 := rfl
theorem c36_4_r (m : Nat) (st : St) : den (E0 mm) 36 m (callW (E0 mm)) itW c36_4 none st = regD (runOps (E0 mm) (callW (E0 mm)) (opsOf c36_4) (opsOf c36_4) st) := den_rg (by rfl)
theorem c36_6_r (m : Nat) (st : St) : den (E0 mm) 36 m (callW (E0 mm)) itW c36_6 none st = regD (runOps (E0 mm) (callW (E0 mm)) (opsOf c36_6) (opsOf c36_6) st) := den_rg (by rfl)
theorem c36_7_e : c36_7 = .skip := rfl
theorem c36_8_r (m : Nat) (st : St) : den (E0 mm) 36 m (callW (E0 mm)) itW c36_8 none st = regD (runOps (E0 mm) (callW (E0 mm)) (opsOf c36_8) (opsOf c36_8) st) := den_rg (by rfl)
abbrev R36 := (Bs × Int × Bool × List Bs)
def e36 : R36 → AV × Heap := fun x => (.tup [], [.cells [.d (.sc (.string (S x.1)))], .cells [.d (.sc (.int .i64 x.2.1))], .cells [.own x.2.2.1 (enL en0 x.2.2.2) 3], .row x.2.2.2.length (rz x.2.2.1 1)])
noncomputable def j36_8 (to0 : Int) (h0_0 : Bs) (h1_0 : Int) (h2_0_0 : Bool) (h2_0_1 : List Bs) : Option R36 :=
  some (h0_0, (w64 (to0 + 1)), h2_0_0, h2_0_1)
set_option maxRecDepth 100000 in
theorem j36_8_t (to0 : Int) (h0_0 : Bs) (h1_0 : Int) (h2_0_0 : Bool) (h2_0_1 : List Bs)  (sl : Nat → AV) (zq0 : sl 0 = .v (.c (.d (.sc (.int .i64 to0))))) (zq2 : sl 2 = .v (.c (.ptr 1 0))) :
    bodyD (E0 mm) [] 4 false (den (E0 mm) 36 4 (callW (E0 mm)) itW c36_8 none ⟨sl, [.cells [.d (.sc (.string (S h0_0)))], .cells [.d (.sc (.int .i64 h1_0))], .cells [.own h2_0_0 (enL en0 h2_0_1) 3], .row h2_0_1.length (rz h2_0_0 1)]⟩) = (j36_8 to0 h0_0 h1_0 h2_0_0 h2_0_1).map e36 := by
  simp -implicitDefEqProofs only [j36_8, c36_8_r, (show opsOf c36_8 = _ :: _ from rfl), sz3, zq0, zq2, setA, setB, String.reduceBEq, Nat.reduceEqDiff, Int.reduceEq, Nat.reduceAdd, Nat.reduceLeDiff, Nat.reduceLT, Int.reduceLE, Int.reduceLT, Int.reduceToNat, Int.reduceNegSucc, Nat.reduceMul, Int.reduceAdd, Nat.reduceBEq, Nat.reduceSub, Nat.reducePow, Int.reduceBEq, reduceCtorEq, E0P, E0hand, E0hard, E0row, E0nw, E0aown, E0glob, ↓reduceIte]
  all_goals rfl
noncomputable def j36_8v1 (to0 : Int) (h0_0 : Bs) (h1_0 : Int) (h2_0_0 : Bool) (h2_0_1 : List Bs) : Option R36 :=
  some (h0_0, (w64 (to0 + 1)), h2_0_0, h2_0_1)
set_option maxRecDepth 100000 in
theorem j36_8v1_t (to0 : Int) (h0_0 : Bs) (h1_0 : Int) (h2_0_0 : Bool) (h2_0_1 : List Bs) (g4 : Ob) (sl : Nat → AV) (zq0 : sl 0 = .v (.c (.d (.sc (.int .i64 to0))))) (zq2 : sl 2 = .v (.c (.ptr 1 0))) :
    bodyD (E0 mm) [] 4 false (den (E0 mm) 36 4 (callW (E0 mm)) itW c36_8 none ⟨sl, [.cells [.d (.sc (.string (S h0_0)))], .cells [.d (.sc (.int .i64 h1_0))], .cells [.own h2_0_0 (enL en0 h2_0_1) 3], .row h2_0_1.length (rz h2_0_0 1), g4]⟩) = (j36_8v1 to0 h0_0 h1_0 h2_0_0 h2_0_1).map e36 := by
  simp -implicitDefEqProofs only [j36_8v1, c36_8_r, (show opsOf c36_8 = _ :: _ from rfl), sz3, zq0, zq2, setA, setB, String.reduceBEq, Nat.reduceEqDiff, Int.reduceEq, Nat.reduceAdd, Nat.reduceLeDiff, Nat.reduceLT, Int.reduceLE, Int.reduceLT, Int.reduceToNat, Int.reduceNegSucc, Nat.reduceMul, Int.reduceAdd, Nat.reduceBEq, Nat.reduceSub, Nat.reducePow, Int.reduceBEq, reduceCtorEq, E0P, E0hand, E0hard, E0row, E0nw, E0aown, E0glob, ↓reduceIte]
  all_goals rfl
noncomputable def m36 (to : Int) (h0_0 : Bs) (h1_0 : Int) (h2_0_0 : Bool) (h2_0_1 : List Bs) : Option R36 :=
  (bnd to h0_0.length).bind fun yk2 =>
    (bnd h1_0 yk2).bind fun yk4 =>
      (m14 ((h0_0.take yk2).drop yk4)).bind fun yr6 =>
        if (yr6 == ([] : Bs)) = true then
          j36_8 to h0_0 h1_0 h2_0_0 h2_0_1
        else
          if (h2_0_1.length + 1) * 16 ≤ 140737488355328 then
            j36_8v1 to h0_0 h1_0 false (h2_0_1 ++ ([yr6] : List Bs))
          else none
set_option maxRecDepth 100000 in
theorem f36_t (to : Int) (h0_0 : Bs) (h1_0 : Int) (h2_0_0 : Bool) (h2_0_1 : List Bs) :
    callW (E0 mm) 36 [.c (.d (.sc (.int .i64 to))), .c (.ptr 0 0), .c (.ptr 1 0), .c (.ptr 2 0)] [.cells [.d (.sc (.string (S h0_0)))], .cells [.d (.sc (.int .i64 h1_0))], .cells [.own h2_0_0 (enL en0 h2_0_1) 3], .row h2_0_1.length (rz h2_0_0 1)] = (m36 to h0_0 h1_0 h2_0_0 h2_0_1).map e36 := by
  rw [callW_run (body := c36_0) (res := []) Tryd.func36 rfl rfl (by kernel_rfl)]
  simp -implicitDefEqProofs only [m36, slots4, c36_0_e, c36_1_e, c36_2_r, (show opsOf c36_2 = _ :: _ from rfl), sz9, ag9, sz3, ag3, Tryd.underlying9, setA, setB, String.reduceBEq, Nat.reduceEqDiff, Int.reduceEq, Nat.reduceAdd, Nat.reduceLeDiff, Nat.reduceLT, Int.reduceLE, Int.reduceLT, Int.reduceToNat, Int.reduceNegSucc, Nat.reduceMul, Int.reduceAdd, Nat.reduceBEq, Nat.reduceSub, Nat.reducePow, Int.reduceBEq, reduceCtorEq, E0P, E0hand, E0hard, E0row, E0nw, E0aown, E0glob, ↓reduceIte]
  refine brM (fun yc1 => ?_) (fun yk2 yc1 => ?_)
  · simp -implicitDefEqProofs only [yc1, setA, setB, String.reduceBEq, Nat.reduceEqDiff, Int.reduceEq, Nat.reduceAdd, Nat.reduceLeDiff, Nat.reduceLT, Int.reduceLE, Int.reduceLT, Int.reduceToNat, Int.reduceNegSucc, Nat.reduceMul, Int.reduceAdd, Nat.reduceBEq, Nat.reduceSub, Nat.reducePow, Int.reduceBEq, reduceCtorEq, E0P, E0hand, E0hard, E0row, E0nw, E0aown, E0glob, ↓reduceIte]
  · simp -implicitDefEqProofs only [yc1, setA, setB, String.reduceBEq, Nat.reduceEqDiff, Int.reduceEq, Nat.reduceAdd, Nat.reduceLeDiff, Nat.reduceLT, Int.reduceLE, Int.reduceLT, Int.reduceToNat, Int.reduceNegSucc, Nat.reduceMul, Int.reduceAdd, Nat.reduceBEq, Nat.reduceSub, Nat.reducePow, Int.reduceBEq, reduceCtorEq, E0P, E0hand, E0hard, E0row, E0nw, E0aown, E0glob, ↓reduceIte]
    refine brM (fun yc3 => ?_) (fun yk4 yc3 => ?_)
    · simp -implicitDefEqProofs only [yc3, yc1, setA, setB, String.reduceBEq, Nat.reduceEqDiff, Int.reduceEq, Nat.reduceAdd, Nat.reduceLeDiff, Nat.reduceLT, Int.reduceLE, Int.reduceLT, Int.reduceToNat, Int.reduceNegSucc, Nat.reduceMul, Int.reduceAdd, Nat.reduceBEq, Nat.reduceSub, Nat.reducePow, Int.reduceBEq, reduceCtorEq, E0P, E0hand, E0hard, E0row, E0nw, E0aown, E0glob, ↓reduceIte]
    · simp -implicitDefEqProofs only [ent14, prm14, f14_t, yc1, yc3, setA, setB, String.reduceBEq, Nat.reduceEqDiff, Int.reduceEq, Nat.reduceAdd, Nat.reduceLeDiff, Nat.reduceLT, Int.reduceLE, Int.reduceLT, Int.reduceToNat, Int.reduceNegSucc, Nat.reduceMul, Int.reduceAdd, Nat.reduceBEq, Nat.reduceSub, Nat.reducePow, Int.reduceBEq, reduceCtorEq, E0P, E0hand, E0hard, E0row, E0nw, E0aown, E0glob, ↓reduceIte]
      refine brM (fun yc5 => ?_) (fun yr6 yc5 => ?_)
      · simp -implicitDefEqProofs only [yc5, yc1, yc3, e14, setA, setB, String.reduceBEq, Nat.reduceEqDiff, Int.reduceEq, Nat.reduceAdd, Nat.reduceLeDiff, Nat.reduceLT, Int.reduceLE, Int.reduceLT, Int.reduceToNat, Int.reduceNegSucc, Nat.reduceMul, Int.reduceAdd, Nat.reduceBEq, Nat.reduceSub, Nat.reducePow, Int.reduceBEq, reduceCtorEq, E0P, E0hand, E0hard, E0row, E0nw, E0aown, E0glob, ↓reduceIte]
      · simp -implicitDefEqProofs only [e14, c36_3_e, c36_4_r, (show opsOf c36_4 = _ :: _ from rfl), (show c36_5 = Code.cond _ c36_6 c36_7 from rfl), yc1, yc3, yc5, setA, setB, String.reduceBEq, Nat.reduceEqDiff, Int.reduceEq, Nat.reduceAdd, Nat.reduceLeDiff, Nat.reduceLT, Int.reduceLE, Int.reduceLT, Int.reduceToNat, Int.reduceNegSucc, Nat.reduceMul, Int.reduceAdd, Nat.reduceBEq, Nat.reduceSub, Nat.reducePow, Int.reduceBEq, reduceCtorEq, E0P, E0hand, E0hard, E0row, E0nw, E0aown, E0glob, ↓reduceIte]
        refine brB (fun yc7 => ?_) (fun yc7 => ?_)
        · simp -implicitDefEqProofs only [c36_7_e, yc1, yc3, yc5, yc7, setA, setB, String.reduceBEq, Nat.reduceEqDiff, Int.reduceEq, Nat.reduceAdd, Nat.reduceLeDiff, Nat.reduceLT, Int.reduceLE, Int.reduceLT, Int.reduceToNat, Int.reduceNegSucc, Nat.reduceMul, Int.reduceAdd, Nat.reduceBEq, Nat.reduceSub, Nat.reducePow, Int.reduceBEq, reduceCtorEq, E0P, E0hand, E0hard, E0row, E0nw, E0aown, E0glob, ↓reduceIte]
          exact j36_8_t to h0_0 h1_0 h2_0_0 h2_0_1 _ (by rfl) (by rfl)
        · simp -implicitDefEqProofs only [c36_6_r, (show opsOf c36_6 = _ :: _ from rfl), sz27, ag27, Tryd.underlying27, sz9, zc9, ns2, ap27, yc1, yc3, yc5, yc7, setA, setB, String.reduceBEq, Nat.reduceEqDiff, Int.reduceEq, Nat.reduceAdd, Nat.reduceLeDiff, Nat.reduceLT, Int.reduceLE, Int.reduceLT, Int.reduceToNat, Int.reduceNegSucc, Nat.reduceMul, Int.reduceAdd, Nat.reduceBEq, Nat.reduceSub, Nat.reducePow, Int.reduceBEq, reduceCtorEq, E0P, E0hand, E0hard, E0row, E0nw, E0aown, E0glob, ↓reduceIte]
          refine brP (fun yc8 => ?_) (fun yc8 => ?_)
          · simp -implicitDefEqProofs only [sz27, yc1, yc3, yc5, yc7, yc8, setA, setB, String.reduceBEq, Nat.reduceEqDiff, Int.reduceEq, Nat.reduceAdd, Nat.reduceLeDiff, Nat.reduceLT, Int.reduceLE, Int.reduceLT, Int.reduceToNat, Int.reduceNegSucc, Nat.reduceMul, Int.reduceAdd, Nat.reduceBEq, Nat.reduceSub, Nat.reducePow, Int.reduceBEq, reduceCtorEq, E0P, E0hand, E0hard, E0row, E0nw, E0aown, E0glob, ↓reduceIte]
            exact j36_8v1_t to h0_0 h1_0 false (h2_0_1 ++ ([yr6] : List Bs)) _ _ (by rfl) (by rfl)
          · simp -implicitDefEqProofs only [yc1, yc3, yc5, yc7, yc8, setA, setB, String.reduceBEq, Nat.reduceEqDiff, Int.reduceEq, Nat.reduceAdd, Nat.reduceLeDiff, Nat.reduceLT, Int.reduceLE, Int.reduceLT, Int.reduceToNat, Int.reduceNegSucc, Nat.reduceMul, Int.reduceAdd, Nat.reduceBEq, Nat.reduceSub, Nat.reducePow, Int.reduceBEq, reduceCtorEq, E0P, E0hand, E0hard, E0row, E0nw, E0aown, E0glob, ↓reduceIte]
/-! tollhouse/text.List -/
noncomputable def c22_0 : Code := bodyOf Tryd.f22
noncomputable def c22_1 : Code := cA c22_0
noncomputable def c22_2 : Code := cB c22_0
noncomputable def c22_3 : Code := cA c22_2
noncomputable def c22_4 : Code := cB c22_2
noncomputable def c22_5 : Code := cA c22_4
noncomputable def c22_6 : Code := cB c22_4
noncomputable def c22_7 : Code := cA c22_6
noncomputable def c22_8 : Code := cB c22_6
noncomputable def c22_9 : Code := cA c22_8
noncomputable def c22_10 : Code := cA c22_9
noncomputable def c22_11 : Code := cB c22_9
noncomputable def c22_12 : Code := cA c22_11
noncomputable def c22_13 : Code := cA c22_12
noncomputable def c22_14 : Code := cA c22_13
noncomputable def c22_15 : Code := cB c22_13
noncomputable def c22_16 : Code := cA c22_15
noncomputable def c22_17 : Code := cA c22_16
noncomputable def c22_18 : Code := cB c22_16
noncomputable def c22_19 : Code := cB c22_15
noncomputable def c22_20 : Code := cA c22_19
noncomputable def c22_21 : Code := cA c22_20
noncomputable def c22_22 : Code := cB c22_20
noncomputable def c22_23 : Code := cA c22_22
noncomputable def c22_24 : Code := cA c22_23
noncomputable def c22_25 : Code := cB c22_23
noncomputable def c22_26 : Code := cA c22_25
noncomputable def c22_27 : Code := cB c22_25
noncomputable def c22_28 : Code := cA c22_27
noncomputable def c22_29 : Code := cB c22_27
noncomputable def c22_30 : Code := cA c22_29
noncomputable def c22_31 : Code := cB c22_29
noncomputable def c22_32 : Code := cA c22_31
noncomputable def c22_33 : Code := cB c22_31
noncomputable def c22_34 : Code := cA c22_33
noncomputable def c22_35 : Code := cB c22_33
noncomputable def c22_36 : Code := cA c22_35
noncomputable def c22_37 : Code := cB c22_35
noncomputable def c22_38 : Code := cA c22_37
noncomputable def c22_39 : Code := cB c22_37
noncomputable def c22_40 : Code := cB c22_8
noncomputable def c22_41 : Code := cA c22_40
noncomputable def c22_42 : Code := cB c22_40
noncomputable def c22_43 : Code := cA c22_42
noncomputable def c22_44 : Code := cB c22_42
theorem c22_0_e : c22_0 = .seq c22_1 c22_2 := rfl
theorem c22_1_r (m : Nat) (st : St) : den (E0 mm) 22 m (callW (E0 mm)) itW c22_1 none st = regD (runOps (E0 mm) (callW (E0 mm)) (opsOf c22_1) (opsOf c22_1) st) := den_rg (by rfl)
theorem c22_2_e : c22_2 = .seq c22_3 c22_4 := rfl
theorem c22_3_r (m : Nat) (st : St) : den (E0 mm) 22 m (callW (E0 mm)) itW c22_3 none st = regD (runOps (E0 mm) (callW (E0 mm)) (opsOf c22_3) (opsOf c22_3) st) := den_rg (by rfl)
theorem c22_4_e : c22_4 = .seq c22_5 c22_6 := rfl
theorem c22_5_r (m : Nat) (st : St) : den (E0 mm) 22 m (callW (E0 mm)) itW c22_5 none st = regD (runOps (E0 mm) (callW (E0 mm)) (opsOf c22_5) (opsOf c22_5) st) := den_rg (by rfl)
theorem c22_6_e : c22_6 = .seq c22_7 c22_8 := rfl
theorem c22_7_r (m : Nat) (st : St) : den (E0 mm) 22 m (callW (E0 mm)) itW c22_7 none st = regD (runOps (E0 mm) (callW (E0 mm)) (opsOf c22_7) (opsOf c22_7) st) := den_rg (by rfl)
theorem c22_8_e : c22_8 = .seq c22_9 c22_40 := rfl
theorem c22_9_e : c22_9 = .seq c22_10 c22_11 := rfl
theorem c22_10_r (m : Nat) (st : St) : den (E0 mm) 22 m (callW (E0 mm)) itW c22_10 none st = regD (runOps (E0 mm) (callW (E0 mm)) (opsOf c22_10) (opsOf c22_10) st) := den_rg (by rfl)
theorem c22_11_e : c22_11 = .block 0 c22_12 := rfl
theorem c22_12_l (m : Nat) (st : St) : den (E0 mm) 22 m (callW (E0 mm)) itW c22_12 none st = loopD itW (loopF (E0 mm) 22 m (callW (E0 mm)) itW c22_13 [(1, .keep), (3, .keep), (5, .keep), (6, .keep), (7, .keep), (12, .keep)]) (canon m [(1, .keep), (3, .keep), (5, .keep), (6, .keep), (7, .keep), (12, .keep)] st) := rfl
theorem c22_13_e : c22_13 = .seq c22_14 c22_15 := rfl
theorem c22_14_r (m : Nat) (st : St) : den (E0 mm) 22 m (callW (E0 mm)) itW c22_14 none st = regD (runOps (E0 mm) (callW (E0 mm)) (opsOf c22_14) (opsOf c22_14) st) := den_rg (by rfl)
theorem c22_15_e : c22_15 = .seq c22_16 c22_19 := rfl
theorem c22_17_e : c22_17 = .skip := rfl
theorem c22_18_e : c22_18 = .exit 0 := rfl
theorem c22_19_e : c22_19 = .block 1 c22_20 := rfl
theorem c22_20_e : c22_20 = .seq c22_21 c22_22 := rfl
theorem c22_21_r (m : Nat) (st : St) : den (E0 mm) 22 m (callW (E0 mm)) itW c22_21 none st = regD (runOps (E0 mm) (callW (E0 mm)) (opsOf c22_21) (opsOf c22_21) st) := den_rg (by rfl)
theorem c22_22_e : c22_22 = .block 2 c22_23 := rfl
theorem c22_23_e : c22_23 = .seq c22_24 c22_25 := rfl
theorem c22_24_r (m : Nat) (st : St) : den (E0 mm) 22 m (callW (E0 mm)) itW c22_24 none st = regD (runOps (E0 mm) (callW (E0 mm)) (opsOf c22_24) (opsOf c22_24) st) := den_rg (by rfl)
theorem c22_26_r (m : Nat) (st : St) : den (E0 mm) 22 m (callW (E0 mm)) itW c22_26 none st = regD (runOps (E0 mm) (callW (E0 mm)) (opsOf c22_26) (opsOf c22_26) st) := den_rg (by rfl)
theorem c22_27_e : c22_27 = .seq c22_28 c22_29 := rfl
theorem c22_28_r (m : Nat) (st : St) : den (E0 mm) 22 m (callW (E0 mm)) itW c22_28 none st = regD (runOps (E0 mm) (callW (E0 mm)) (opsOf c22_28) (opsOf c22_28) st) := den_rg (by rfl)
theorem c22_30_r (m : Nat) (st : St) : den (E0 mm) 22 m (callW (E0 mm)) itW c22_30 none st = regD (runOps (E0 mm) (callW (E0 mm)) (opsOf c22_30) (opsOf c22_30) st) := den_rg (by rfl)
theorem c22_31_e : c22_31 = .seq c22_32 c22_33 := rfl
theorem c22_32_r (m : Nat) (st : St) : den (E0 mm) 22 m (callW (E0 mm)) itW c22_32 none st = regD (runOps (E0 mm) (callW (E0 mm)) (opsOf c22_32) (opsOf c22_32) st) := den_rg (by rfl)
theorem c22_34_r (m : Nat) (st : St) : den (E0 mm) 22 m (callW (E0 mm)) itW c22_34 none st = regD (runOps (E0 mm) (callW (E0 mm)) (opsOf c22_34) (opsOf c22_34) st) := den_rg (by rfl)
theorem c22_35_e : c22_35 = .seq c22_36 c22_37 := rfl
theorem c22_36_r (m : Nat) (st : St) : den (E0 mm) 22 m (callW (E0 mm)) itW c22_36 none st = regD (runOps (E0 mm) (callW (E0 mm)) (opsOf c22_36) (opsOf c22_36) st) := den_rg (by rfl)
theorem c22_38_r (m : Nat) (st : St) : den (E0 mm) 22 m (callW (E0 mm)) itW c22_38 none st = regD (runOps (E0 mm) (callW (E0 mm)) (opsOf c22_38) (opsOf c22_38) st) := den_rg (by rfl)
theorem c22_39_e : c22_39 = .skip := rfl
theorem c22_40_e : c22_40 = .seq c22_41 c22_42 := rfl
theorem c22_41_r (m : Nat) (st : St) : den (E0 mm) 22 m (callW (E0 mm)) itW c22_41 none st = regD (runOps (E0 mm) (callW (E0 mm)) (opsOf c22_41) (opsOf c22_41) st) := den_rg (by rfl)
theorem c22_42_e : c22_42 = .seq c22_43 c22_44 := rfl
theorem c22_43_r (m : Nat) (st : St) : den (E0 mm) 22 m (callW (E0 mm)) itW c22_43 none st = regD (runOps (E0 mm) (callW (E0 mm)) (opsOf c22_43) (opsOf c22_43) st) := den_rg (by rfl)
theorem c22_44_e : c22_44 = .ret := rfl
abbrev R22 := (Bool × List Bs)
def e22 : R22 → AV × Heap := fun x => (.v (.c (.own x.1 (enL en0 x.2) 0)), [.row x.2.length (rz x.1 1)])
noncomputable def K22_12 : Option (Ex × St) → Option (AV × Heap) := fun r => bodyD (E0 mm) [.tmp 2] 0 false (seqD (E0 mm) 22 0 (callW (E0 mm)) itW c22_40 (blockD 0 (r)))
def en22_12 : Bool × Bool × Bs × Bool × List Bs × Int × Bs × Nat → X := fun x => (none, [.v (.c (.ptr 0 0)), .v (.c (.ptr 1 0)), .v (.c (.d (.sc (.bool x.1)))), .v (.c (.d (.sc (.bool x.2.1)))), .v (.c (.fn 36 [(0, 0), (3, 0), (1, 0)])), .v (.c (.it 4))], [.cells [.d (.sc (.string (S x.2.2.1)))], .cells [.own x.2.2.2.1 (enL en0 x.2.2.2.2.1) 2], .row x.2.2.2.2.1.length (rz x.2.2.2.1 1), .cells [.d (.sc (.int .i64 x.2.2.2.2.2.1))], .siter (S x.2.2.2.2.2.2.1) x.2.2.2.2.2.2.2])
noncomputable def j22_37 (quoted5 : Bool) (masked6 : Bool) (i8 : Int) (t30 : Bool) (h0_0 : Bs) (h1_0_0 : Bool) (h1_0_1 : List Bs) (h3_0 : Int) (s4 : Bs) (p4 : Nat) : Option ((Bool × Bool × Bs × Bool × List Bs × Int × Bs × Nat) ⊕ R22) :=
  if t30 = true then
    (m36 i8 h0_0 h3_0 h1_0_0 h1_0_1).bind fun yr10 =>
      some (.inl (quoted5, masked6, yr10.1, yr10.2.2.1, yr10.2.2.2, yr10.2.1, s4, p4))
  else
    some (.inl (quoted5, masked6, h0_0, h1_0_0, h1_0_1, h3_0, s4, p4))
set_option maxRecDepth 100000 in
theorem j22_37_t (quoted5 : Bool) (masked6 : Bool) (i8 : Int) (t30 : Bool) (h0_0 : Bs) (h1_0_0 : Bool) (h1_0_1 : List Bs) (h3_0 : Int) (s4 : Bs) (p4 : Nat)  (sl : Nat → AV) (zq1 : sl 1 = .v (.c (.ptr 0 0))) (zq3 : sl 3 = .v (.c (.ptr 1 0))) (zq5 : sl 5 = .v (.c (.d (.sc (.bool quoted5))))) (zq6 : sl 6 = .v (.c (.d (.sc (.bool masked6))))) (zq7 : sl 7 = .v (.c (.fn 36 [(0, 0), (3, 0), (1, 0)]))) (zq8 : sl 8 = .v (.c (.d (.sc (.int .i64 i8))))) (zq12 : sl 12 = .v (.c (.it 4))) (zq30 : sl 30 = .v (.c (.d (.sc (.bool t30))))) :
    stepE (K22_12 (mm := mm)) (loopK 0 [(1, .keep), (3, .keep), (5, .keep), (6, .keep), (7, .keep), (12, .keep)] (blockD 1 (blockD 2 (den (E0 mm) 22 0 (callW (E0 mm)) itW c22_37 none ⟨sl, [.cells [.d (.sc (.string (S h0_0)))], .cells [.own h1_0_0 (enL en0 h1_0_1) 2], .row h1_0_1.length (rz h1_0_0 1), .cells [.d (.sc (.int .i64 h3_0))], .siter (S s4) p4]⟩)))) = (j22_37 quoted5 masked6 i8 t30 h0_0 h1_0_0 h1_0_1 h3_0 s4 p4).map (sm en22_12 e22) := by
  simp -implicitDefEqProofs only [j22_37, (show c22_37 = Code.cond _ c22_38 c22_39 from rfl), zq1, zq3, zq5, zq6, zq7, zq8, zq12, zq30, setA, setB, String.reduceBEq, Nat.reduceEqDiff, Int.reduceEq, Nat.reduceAdd, Nat.reduceLeDiff, Nat.reduceLT, Int.reduceLE, Int.reduceLT, Int.reduceToNat, Int.reduceNegSucc, Nat.reduceMul, Int.reduceAdd, Nat.reduceBEq, Nat.reduceSub, Nat.reducePow, Int.reduceBEq, reduceCtorEq, E0P, E0hand, E0hard, E0row, E0nw, E0aown, E0glob, ↓reduceIte]
  refine brB (fun yc8 => ?_) (fun yc8 => ?_)
  · simp -implicitDefEqProofs only [c22_38_r, (show opsOf c22_38 = _ :: _ from rfl), ent36, prm36, f36_t, zq1, zq3, zq5, zq6, zq7, zq8, zq12, zq30, yc8, setA, setB, String.reduceBEq, Nat.reduceEqDiff, Int.reduceEq, Nat.reduceAdd, Nat.reduceLeDiff, Nat.reduceLT, Int.reduceLE, Int.reduceLT, Int.reduceToNat, Int.reduceNegSucc, Nat.reduceMul, Int.reduceAdd, Nat.reduceBEq, Nat.reduceSub, Nat.reducePow, Int.reduceBEq, reduceCtorEq, E0P, E0hand, E0hard, E0row, E0nw, E0aown, E0glob, ↓reduceIte]
    refine brM (fun yc9 => ?_) (fun yr10 yc9 => ?_)
    · simp -implicitDefEqProofs only [yc9, zq1, zq3, zq5, zq6, zq7, zq8, zq12, zq30, yc8, e36, setA, setB, String.reduceBEq, Nat.reduceEqDiff, Int.reduceEq, Nat.reduceAdd, Nat.reduceLeDiff, Nat.reduceLT, Int.reduceLE, Int.reduceLT, Int.reduceToNat, Int.reduceNegSucc, Nat.reduceMul, Int.reduceAdd, Nat.reduceBEq, Nat.reduceSub, Nat.reducePow, Int.reduceBEq, reduceCtorEq, E0P, E0hand, E0hard, E0row, E0nw, E0aown, E0glob, ↓reduceIte]
    · simp -implicitDefEqProofs only [e36, zq1, zq3, zq5, zq6, zq7, zq8, zq12, zq30, yc8, yc9, setA, setB, String.reduceBEq, Nat.reduceEqDiff, Int.reduceEq, Nat.reduceAdd, Nat.reduceLeDiff, Nat.reduceLT, Int.reduceLE, Int.reduceLT, Int.reduceToNat, Int.reduceNegSucc, Nat.reduceMul, Int.reduceAdd, Nat.reduceBEq, Nat.reduceSub, Nat.reducePow, Int.reduceBEq, reduceCtorEq, E0P, E0hand, E0hard, E0row, E0nw, E0aown, E0glob, ↓reduceIte]
      all_goals rfl
  · simp -implicitDefEqProofs only [c22_39_e, zq1, zq3, zq5, zq6, zq7, zq8, zq12, zq30, yc8, setA, setB, String.reduceBEq, Nat.reduceEqDiff, Int.reduceEq, Nat.reduceAdd, Nat.reduceLeDiff, Nat.reduceLT, Int.reduceLE, Int.reduceLT, Int.reduceToNat, Int.reduceNegSucc, Nat.reduceMul, Int.reduceAdd, Nat.reduceBEq, Nat.reduceSub, Nat.reducePow, Int.reduceBEq, reduceCtorEq, E0P, E0hand, E0hard, E0row, E0nw, E0aown, E0glob, ↓reduceIte]
    all_goals rfl
noncomputable def j22_29 (quoted5 : Bool) (masked6 : Bool) (i8 : Int) (r9 : Int) (t19 : Bool) (h0_0 : Bs) (h1_0_0 : Bool) (h1_0_1 : List Bs) (h3_0 : Int) (s4 : Bs) (p4 : Nat) : Option ((Bool × Bool × Bs × Bool × List Bs × Int × Bs × Nat) ⊕ R22) :=
  if t19 = true then
    some (.inl (quoted5, true, h0_0, h1_0_0, h1_0_1, h3_0, s4, p4))
  else
    if (r9 == 34) = true then
      some (.inl ((!quoted5), masked6, h0_0, h1_0_0, h1_0_1, h3_0, s4, p4))
    else
      if (r9 == 44) = true then
        j22_37 quoted5 masked6 i8 (!quoted5) h0_0 h1_0_0 h1_0_1 h3_0 s4 p4
      else
        j22_37 quoted5 masked6 i8 false h0_0 h1_0_0 h1_0_1 h3_0 s4 p4
set_option maxRecDepth 100000 in
theorem j22_29_t (quoted5 : Bool) (masked6 : Bool) (i8 : Int) (r9 : Int) (t19 : Bool) (h0_0 : Bs) (h1_0_0 : Bool) (h1_0_1 : List Bs) (h3_0 : Int) (s4 : Bs) (p4 : Nat)  (sl : Nat → AV) (zq1 : sl 1 = .v (.c (.ptr 0 0))) (zq3 : sl 3 = .v (.c (.ptr 1 0))) (zq5 : sl 5 = .v (.c (.d (.sc (.bool quoted5))))) (zq6 : sl 6 = .v (.c (.d (.sc (.bool masked6))))) (zq7 : sl 7 = .v (.c (.fn 36 [(0, 0), (3, 0), (1, 0)]))) (zq8 : sl 8 = .v (.c (.d (.sc (.int .i64 i8))))) (zq9 : sl 9 = .v (.c (.d (.sc (.int .i32 r9))))) (zq12 : sl 12 = .v (.c (.it 4))) (zq19 : sl 19 = .v (.c (.d (.sc (.bool t19))))) :
    stepE (K22_12 (mm := mm)) (loopK 0 [(1, .keep), (3, .keep), (5, .keep), (6, .keep), (7, .keep), (12, .keep)] (blockD 1 (blockD 2 (den (E0 mm) 22 0 (callW (E0 mm)) itW c22_29 none ⟨sl, [.cells [.d (.sc (.string (S h0_0)))], .cells [.own h1_0_0 (enL en0 h1_0_1) 2], .row h1_0_1.length (rz h1_0_0 1), .cells [.d (.sc (.int .i64 h3_0))], .siter (S s4) p4]⟩)))) = (j22_29 quoted5 masked6 i8 r9 t19 h0_0 h1_0_0 h1_0_1 h3_0 s4 p4).map (sm en22_12 e22) := by
  simp -implicitDefEqProofs only [j22_29, (show c22_29 = Code.cond _ c22_30 c22_31 from rfl), zq1, zq3, zq5, zq6, zq7, zq8, zq9, zq12, zq19, setA, setB, String.reduceBEq, Nat.reduceEqDiff, Int.reduceEq, Nat.reduceAdd, Nat.reduceLeDiff, Nat.reduceLT, Int.reduceLE, Int.reduceLT, Int.reduceToNat, Int.reduceNegSucc, Nat.reduceMul, Int.reduceAdd, Nat.reduceBEq, Nat.reduceSub, Nat.reducePow, Int.reduceBEq, reduceCtorEq, E0P, E0hand, E0hard, E0row, E0nw, E0aown, E0glob, ↓reduceIte]
  refine brB (fun yc5 => ?_) (fun yc5 => ?_)
  · simp -implicitDefEqProofs only [c22_30_r, (show opsOf c22_30 = _ :: _ from rfl), zq1, zq3, zq5, zq6, zq7, zq8, zq9, zq12, zq19, yc5, setA, setB, String.reduceBEq, Nat.reduceEqDiff, Int.reduceEq, Nat.reduceAdd, Nat.reduceLeDiff, Nat.reduceLT, Int.reduceLE, Int.reduceLT, Int.reduceToNat, Int.reduceNegSucc, Nat.reduceMul, Int.reduceAdd, Nat.reduceBEq, Nat.reduceSub, Nat.reducePow, Int.reduceBEq, reduceCtorEq, E0P, E0hand, E0hard, E0row, E0nw, E0aown, E0glob, ↓reduceIte]
    all_goals rfl
  · simp -implicitDefEqProofs only [c22_31_e, c22_32_r, (show opsOf c22_32 = _ :: _ from rfl), (show c22_33 = Code.cond _ c22_34 c22_35 from rfl), zq1, zq3, zq5, zq6, zq7, zq8, zq9, zq12, zq19, yc5, setA, setB, String.reduceBEq, Nat.reduceEqDiff, Int.reduceEq, Nat.reduceAdd, Nat.reduceLeDiff, Nat.reduceLT, Int.reduceLE, Int.reduceLT, Int.reduceToNat, Int.reduceNegSucc, Nat.reduceMul, Int.reduceAdd, Nat.reduceBEq, Nat.reduceSub, Nat.reducePow, Int.reduceBEq, reduceCtorEq, E0P, E0hand, E0hard, E0row, E0nw, E0aown, E0glob, ↓reduceIte]
    refine brB (fun yc6 => ?_) (fun yc6 => ?_)
    · simp -implicitDefEqProofs only [c22_34_r, (show opsOf c22_34 = _ :: _ from rfl), zq1, zq3, zq5, zq6, zq7, zq8, zq9, zq12, zq19, yc5, yc6, setA, setB, String.reduceBEq, Nat.reduceEqDiff, Int.reduceEq, Nat.reduceAdd, Nat.reduceLeDiff, Nat.reduceLT, Int.reduceLE, Int.reduceLT, Int.reduceToNat, Int.reduceNegSucc, Nat.reduceMul, Int.reduceAdd, Nat.reduceBEq, Nat.reduceSub, Nat.reducePow, Int.reduceBEq, reduceCtorEq, E0P, E0hand, E0hard, E0row, E0nw, E0aown, E0glob, ↓reduceIte]
      all_goals rfl
    · simp -implicitDefEqProofs only [c22_35_e, c22_36_r, (show opsOf c22_36 = _ :: _ from rfl), zq1, zq3, zq5, zq6, zq7, zq8, zq9, zq12, zq19, yc5, yc6, setA, setB, String.reduceBEq, Nat.reduceEqDiff, Int.reduceEq, Nat.reduceAdd, Nat.reduceLeDiff, Nat.reduceLT, Int.reduceLE, Int.reduceLT, Int.reduceToNat, Int.reduceNegSucc, Nat.reduceMul, Int.reduceAdd, Nat.reduceBEq, Nat.reduceSub, Nat.reducePow, Int.reduceBEq, reduceCtorEq, E0P, E0hand, E0hard, E0row, E0nw, E0aown, E0glob, ↓reduceIte]
      refine brB (fun yc7 => ?_) (fun yc7 => ?_)
      · simp -implicitDefEqProofs only [zq1, zq3, zq5, zq6, zq7, zq8, zq9, zq12, zq19, yc5, yc6, yc7, setA, setB, String.reduceBEq, Nat.reduceEqDiff, Int.reduceEq, Nat.reduceAdd, Nat.reduceLeDiff, Nat.reduceLT, Int.reduceLE, Int.reduceLT, Int.reduceToNat, Int.reduceNegSucc, Nat.reduceMul, Int.reduceAdd, Nat.reduceBEq, Nat.reduceSub, Nat.reducePow, Int.reduceBEq, reduceCtorEq, E0P, E0hand, E0hard, E0row, E0nw, E0aown, E0glob, ↓reduceIte]
        exact j22_37_t quoted5 masked6 i8 (!quoted5) h0_0 h1_0_0 h1_0_1 h3_0 s4 p4 _ (by exact zq1) (by exact zq3) (by exact zq5) (by exact zq6) (by exact zq7) (by exact zq8) (by exact zq12) (by rfl)
      · simp -implicitDefEqProofs only [zq1, zq3, zq5, zq6, zq7, zq8, zq9, zq12, zq19, yc5, yc6, yc7, setA, setB, String.reduceBEq, Nat.reduceEqDiff, Int.reduceEq, Nat.reduceAdd, Nat.reduceLeDiff, Nat.reduceLT, Int.reduceLE, Int.reduceLT, Int.reduceToNat, Int.reduceNegSucc, Nat.reduceMul, Int.reduceAdd, Nat.reduceBEq, Nat.reduceSub, Nat.reducePow, Int.reduceBEq, reduceCtorEq, E0P, E0hand, E0hard, E0row, E0nw, E0aown, E0glob, ↓reduceIte]
        exact j22_37_t quoted5 masked6 i8 false h0_0 h1_0_0 h1_0_1 h3_0 s4 p4 _ (by exact zq1) (by exact zq3) (by exact zq5) (by exact zq6) (by exact zq7) (by exact zq8) (by exact zq12) (by rfl)
noncomputable def j22_40 (h0_0 : Bs) (h1_0_0 : Bool) (h1_0_1 : List Bs) (h3_0 : Int) : Option R22 :=
  (m36 (h0_0.length : Int) h0_0 h3_0 h1_0_0 h1_0_1).bind fun yr12 =>
    some (yr12.2.2.1, yr12.2.2.2)
set_option maxRecDepth 100000 in
theorem j22_40_t (h0_0 : Bs) (h1_0_0 : Bool) (h1_0_1 : List Bs) (h3_0 : Int) (g4 : Ob) (sl : Nat → AV) (zq1 : sl 1 = .v (.c (.ptr 0 0))) (zq3 : sl 3 = .v (.c (.ptr 1 0))) (zq7 : sl 7 = .v (.c (.fn 36 [(0, 0), (3, 0), (1, 0)]))) :
    bodyD (E0 mm) [.tmp 2] 0 false (den (E0 mm) 22 0 (callW (E0 mm)) itW c22_40 none ⟨sl, [.cells [.d (.sc (.string (S h0_0)))], .cells [.own h1_0_0 (enL en0 h1_0_1) 2], .row h1_0_1.length (rz h1_0_0 1), .cells [.d (.sc (.int .i64 h3_0))], g4]⟩) = (j22_40 h0_0 h1_0_0 h1_0_1 h3_0).map e22 := by
  simp -implicitDefEqProofs only [j22_40, c22_40_e, c22_41_r, (show opsOf c22_41 = _ :: _ from rfl), sz9, ag9, Tryd.underlying9, ent36, prm36, f36_t, zq1, zq3, zq7, setA, setB, String.reduceBEq, Nat.reduceEqDiff, Int.reduceEq, Nat.reduceAdd, Nat.reduceLeDiff, Nat.reduceLT, Int.reduceLE, Int.reduceLT, Int.reduceToNat, Int.reduceNegSucc, Nat.reduceMul, Int.reduceAdd, Nat.reduceBEq, Nat.reduceSub, Nat.reducePow, Int.reduceBEq, reduceCtorEq, E0P, E0hand, E0hard, E0row, E0nw, E0aown, E0glob, ↓reduceIte]
  refine brM (fun yc11 => ?_) (fun yr12 yc11 => ?_)
  · simp -implicitDefEqProofs only [yc11, zq1, zq3, zq7, e36, setA, setB, String.reduceBEq, Nat.reduceEqDiff, Int.reduceEq, Nat.reduceAdd, Nat.reduceLeDiff, Nat.reduceLT, Int.reduceLE, Int.reduceLT, Int.reduceToNat, Int.reduceNegSucc, Nat.reduceMul, Int.reduceAdd, Nat.reduceBEq, Nat.reduceSub, Nat.reducePow, Int.reduceBEq, reduceCtorEq, E0P, E0hand, E0hard, E0row, E0nw, E0aown, E0glob, ↓reduceIte]
  · simp -implicitDefEqProofs only [e36, c22_42_e, c22_43_r, (show opsOf c22_43 = _ :: _ from rfl), sz27, ag27, c22_44_e, zq1, zq3, zq7, yc11, setA, setB, String.reduceBEq, Nat.reduceEqDiff, Int.reduceEq, Nat.reduceAdd, Nat.reduceLeDiff, Nat.reduceLT, Int.reduceLE, Int.reduceLT, Int.reduceToNat, Int.reduceNegSucc, Nat.reduceMul, Int.reduceAdd, Nat.reduceBEq, Nat.reduceSub, Nat.reducePow, Int.reduceBEq, reduceCtorEq, E0P, E0hand, E0hard, E0row, E0nw, E0aown, E0glob, ↓reduceIte]
    all_goals rfl
noncomputable def s22_12 (quoted5 : Bool) (masked6 : Bool) (h0_0 : Bs) (h1_0_0 : Bool) (h1_0_1 : List Bs) (h3_0 : Int) (s4 : Bs) (p4 : Nat) : Option ((Bool × Bool × Bs × Bool × List Bs × Int × Bs × Nat) ⊕ R22) :=
  if (decide (p4 < s4.length)) = true then
    if masked6 = true then
      some (.inl (quoted5, false, h0_0, h1_0_0, h1_0_1, h3_0, s4, (p4 + uw s4 p4)))
    else
      if quoted5 = true then
        j22_29 true false (p4 : Int) (uc s4 p4 : Int) ((uc s4 p4 : Int) == 92) h0_0 h1_0_0 h1_0_1 h3_0 s4 (p4 + uw s4 p4)
      else
        j22_29 false false (p4 : Int) (uc s4 p4 : Int) false h0_0 h1_0_0 h1_0_1 h3_0 s4 (p4 + uw s4 p4)
  else
    (j22_40 h0_0 h1_0_0 h1_0_1 h3_0).map .inr
set_option maxRecDepth 100000 in
theorem s22_12_t (quoted5 : Bool) (masked6 : Bool) (h0_0 : Bs) (h1_0_0 : Bool) (h1_0_1 : List Bs) (h3_0 : Int) (s4 : Bs) (p4 : Nat) :
    stepE (K22_12 (mm := mm)) (loopF (E0 mm) 22 0 (callW (E0 mm)) itW c22_13 [(1, .keep), (3, .keep), (5, .keep), (6, .keep), (7, .keep), (12, .keep)] (none, [.v (.c (.ptr 0 0)), .v (.c (.ptr 1 0)), .v (.c (.d (.sc (.bool quoted5)))), .v (.c (.d (.sc (.bool masked6)))), .v (.c (.fn 36 [(0, 0), (3, 0), (1, 0)])), .v (.c (.it 4))], [.cells [.d (.sc (.string (S h0_0)))], .cells [.own h1_0_0 (enL en0 h1_0_1) 2], .row h1_0_1.length (rz h1_0_0 1), .cells [.d (.sc (.int .i64 h3_0))], .siter (S s4) p4])) = (s22_12 quoted5 masked6 h0_0 h1_0_0 h1_0_1 h3_0 s4 p4).map (sm en22_12 e22) := by
  simp -implicitDefEqProofs only [s22_12, loopF_eq, c22_13_e, c22_14_r, (show opsOf c22_14 = _ :: _ from rfl), dec_eq, setA, setB, String.reduceBEq, Nat.reduceEqDiff, Int.reduceEq, Nat.reduceAdd, Nat.reduceLeDiff, Nat.reduceLT, Int.reduceLE, Int.reduceLT, Int.reduceToNat, Int.reduceNegSucc, Nat.reduceMul, Int.reduceAdd, Nat.reduceBEq, Nat.reduceSub, Nat.reducePow, Int.reduceBEq, reduceCtorEq, E0P, E0hand, E0hard, E0row, E0nw, E0aown, E0glob, ↓reduceIte]
  refine brB (fun yc1 => ?_) (fun yc1 => ?_)
  · have yd2 := of_decide_eq_true yc1
    simp -implicitDefEqProofs only [c22_15_e, (show c22_16 = Code.cond _ c22_17 c22_18 from rfl), c22_17_e, c22_19_e, c22_20_e, c22_21_r, (show opsOf c22_21 = _ :: _ from rfl), c22_22_e, c22_23_e, c22_24_r, (show opsOf c22_24 = _ :: _ from rfl), (show c22_25 = Code.cond _ c22_26 c22_27 from rfl), yd2, setA, setB, String.reduceBEq, Nat.reduceEqDiff, Int.reduceEq, Nat.reduceAdd, Nat.reduceLeDiff, Nat.reduceLT, Int.reduceLE, Int.reduceLT, Int.reduceToNat, Int.reduceNegSucc, Nat.reduceMul, Int.reduceAdd, Nat.reduceBEq, Nat.reduceSub, Nat.reducePow, Int.reduceBEq, reduceCtorEq, E0P, E0hand, E0hard, E0row, E0nw, E0aown, E0glob, ↓reduceIte]
    refine brB (fun yc3 => ?_) (fun yc3 => ?_)
    · simp -implicitDefEqProofs only [c22_26_r, (show opsOf c22_26 = _ :: _ from rfl), yd2, yc3, setA, setB, String.reduceBEq, Nat.reduceEqDiff, Int.reduceEq, Nat.reduceAdd, Nat.reduceLeDiff, Nat.reduceLT, Int.reduceLE, Int.reduceLT, Int.reduceToNat, Int.reduceNegSucc, Nat.reduceMul, Int.reduceAdd, Nat.reduceBEq, Nat.reduceSub, Nat.reducePow, Int.reduceBEq, reduceCtorEq, E0P, E0hand, E0hard, E0row, E0nw, E0aown, E0glob, ↓reduceIte]
      all_goals rfl
    · simp -implicitDefEqProofs only [c22_27_e, c22_28_r, (show opsOf c22_28 = _ :: _ from rfl), yd2, yc3, setA, setB, String.reduceBEq, Nat.reduceEqDiff, Int.reduceEq, Nat.reduceAdd, Nat.reduceLeDiff, Nat.reduceLT, Int.reduceLE, Int.reduceLT, Int.reduceToNat, Int.reduceNegSucc, Nat.reduceMul, Int.reduceAdd, Nat.reduceBEq, Nat.reduceSub, Nat.reducePow, Int.reduceBEq, reduceCtorEq, E0P, E0hand, E0hard, E0row, E0nw, E0aown, E0glob, ↓reduceIte]
      refine brB (fun yc4 => ?_) (fun yc4 => ?_)
      · simp -implicitDefEqProofs only [yd2, yc3, yc4, setA, setB, String.reduceBEq, Nat.reduceEqDiff, Int.reduceEq, Nat.reduceAdd, Nat.reduceLeDiff, Nat.reduceLT, Int.reduceLE, Int.reduceLT, Int.reduceToNat, Int.reduceNegSucc, Nat.reduceMul, Int.reduceAdd, Nat.reduceBEq, Nat.reduceSub, Nat.reducePow, Int.reduceBEq, reduceCtorEq, E0P, E0hand, E0hard, E0row, E0nw, E0aown, E0glob, ↓reduceIte]
        exact j22_29_t true false (p4 : Int) (uc s4 p4 : Int) ((uc s4 p4 : Int) == 92) h0_0 h1_0_0 h1_0_1 h3_0 s4 (p4 + uw s4 p4) _ (by rfl) (by rfl) (by rfl) (by rfl) (by rfl) (by rfl) (by rfl) (by rfl) (by rfl)
      · simp -implicitDefEqProofs only [yd2, yc3, yc4, setA, setB, String.reduceBEq, Nat.reduceEqDiff, Int.reduceEq, Nat.reduceAdd, Nat.reduceLeDiff, Nat.reduceLT, Int.reduceLE, Int.reduceLT, Int.reduceToNat, Int.reduceNegSucc, Nat.reduceMul, Int.reduceAdd, Nat.reduceBEq, Nat.reduceSub, Nat.reducePow, Int.reduceBEq, reduceCtorEq, E0P, E0hand, E0hard, E0row, E0nw, E0aown, E0glob, ↓reduceIte]
        exact j22_29_t false false (p4 : Int) (uc s4 p4 : Int) false h0_0 h1_0_0 h1_0_1 h3_0 s4 (p4 + uw s4 p4) _ (by rfl) (by rfl) (by rfl) (by rfl) (by rfl) (by rfl) (by rfl) (by rfl) (by rfl)
  · have yd2 := of_decide_eq_false yc1
    simp -implicitDefEqProofs only [c22_15_e, (show c22_16 = Code.cond _ c22_17 c22_18 from rfl), c22_18_e, K22_12, yd2, setA, setB, String.reduceBEq, Nat.reduceEqDiff, Int.reduceEq, Nat.reduceAdd, Nat.reduceLeDiff, Nat.reduceLT, Int.reduceLE, Int.reduceLT, Int.reduceToNat, Int.reduceNegSucc, Nat.reduceMul, Int.reduceAdd, Nat.reduceBEq, Nat.reduceSub, Nat.reducePow, Int.reduceBEq, reduceCtorEq, E0P, E0hand, E0hard, E0row, E0nw, E0aown, E0glob, ↓reduceIte]
    exact mi (j22_40_t h0_0 h1_0_0 h1_0_1 h3_0 _ _ (by rfl) (by rfl) (by rfl))
noncomputable def l22_12 (quoted5 : Bool) (masked6 : Bool) (h0_0 : Bs) (h1_0_0 : Bool) (h1_0_1 : List Bs) (h3_0 : Int) (s4 : Bs) (p4 : Nat) : Option R22 := iter (fun x : Bool × Bool × Bs × Bool × List Bs × Int × Bs × Nat => s22_12 x.1 x.2.1 x.2.2.1 x.2.2.2.1 x.2.2.2.2.1 x.2.2.2.2.2.1 x.2.2.2.2.2.2.1 x.2.2.2.2.2.2.2) (quoted5, masked6, h0_0, h1_0_0, h1_0_1, h3_0, s4, p4)
theorem l22_12_t (quoted5 : Bool) (masked6 : Bool) (h0_0 : Bs) (h1_0_0 : Bool) (h1_0_1 : List Bs) (h3_0 : Int) (s4 : Bs) (p4 : Nat) : bodyD (E0 mm) [.tmp 2] 0 false (seqD (E0 mm) 22 0 (callW (E0 mm)) itW c22_40 (blockD 0 (itW (loopF (E0 mm) 22 0 (callW (E0 mm)) itW c22_13 [(1, .keep), (3, .keep), (5, .keep), (6, .keep), (7, .keep), (12, .keep)]) (none, [.v (.c (.ptr 0 0)), .v (.c (.ptr 1 0)), .v (.c (.d (.sc (.bool quoted5)))), .v (.c (.d (.sc (.bool masked6)))), .v (.c (.fn 36 [(0, 0), (3, 0), (1, 0)])), .v (.c (.it 4))], [.cells [.d (.sc (.string (S h0_0)))], .cells [.own h1_0_0 (enL en0 h1_0_1) 2], .row h1_0_1.length (rz h1_0_0 1), .cells [.d (.sc (.int .i64 h3_0))], .siter (S s4) p4])))) = (l22_12 quoted5 masked6 h0_0 h1_0_0 h1_0_1 h3_0 s4 p4).map e22 :=
  it_sim (K := (K22_12 (mm := mm))) rfl (enc := en22_12) (fun x => s22_12_t x.1 x.2.1 x.2.2.1 x.2.2.2.1 x.2.2.2.2.1 x.2.2.2.2.2.1 x.2.2.2.2.2.2.1 x.2.2.2.2.2.2.2) (quoted5, masked6, h0_0, h1_0_0, h1_0_1, h3_0, s4, p4)
noncomputable def m22 (s : Bs) : Option R22 :=
  l22_12 false false s true ([] : List Bs) (0 : Int) s 0
set_option maxRecDepth 100000 in
theorem f22_t (s : Bs) :
    callW (E0 mm) 22 [.c (.d (.sc (.string (S s))))] [] = (m22 s).map e22 := by
  rw [callW_run (body := c22_0) (res := [.tmp 2]) Tryd.func22 rfl rfl (by kernel_rfl)]
  simp -implicitDefEqProofs only [m22, slots1, c22_0_e, c22_1_r, (show opsOf c22_1 = _ :: _ from rfl), c22_2_e, c22_3_r, (show opsOf c22_3 = _ :: _ from rfl), zc27, c22_4_e, c22_5_r, (show opsOf c22_5 = _ :: _ from rfl), zc3, sz3, c22_6_e, c22_7_r, (show opsOf c22_7 = _ :: _ from rfl), c22_8_e, c22_9_e, c22_10_r, (show opsOf c22_10 = _ :: _ from rfl), sz9, ag9, Tryd.underlying9, c22_11_e, c22_12_l, setA, setB, String.reduceBEq, Nat.reduceEqDiff, Int.reduceEq, Nat.reduceAdd, Nat.reduceLeDiff, Nat.reduceLT, Int.reduceLE, Int.reduceLT, Int.reduceToNat, Int.reduceNegSucc, Nat.reduceMul, Int.reduceAdd, Nat.reduceBEq, Nat.reduceSub, Nat.reducePow, Int.reduceBEq, reduceCtorEq, E0P, E0hand, E0hard, E0row, E0nw, E0aown, E0glob, ↓reduceIte]
  exact l22_12_t false false s true ([] : List Bs) (0 : Int) s 0
/-! tollhouse/tollhouseref02.quoted -/
noncomputable def c37_0 : Code := bodyOf Tryd.f37
noncomputable def c37_1 : Code := cA c37_0
noncomputable def c37_2 : Code := cB c37_0
noncomputable def c37_3 : Code := cA c37_2
noncomputable def c37_4 : Code := cB c37_2
noncomputable def c37_5 : Code := cA c37_4
noncomputable def c37_6 : Code := cA c37_5
noncomputable def c37_7 : Code := cA c37_6
noncomputable def c37_8 : Code := cA c37_7
noncomputable def c37_9 : Code := cA c37_8
noncomputable def c37_10 : Code := cB c37_8
noncomputable def c37_11 : Code := cA c37_10
noncomputable def c37_12 : Code := cB c37_10
noncomputable def c37_13 : Code := cB c37_7
noncomputable def c37_14 : Code := cA c37_13
noncomputable def c37_15 : Code := cA c37_14
noncomputable def c37_16 : Code := cA c37_15
noncomputable def c37_17 : Code := cB c37_15
noncomputable def c37_18 : Code := cA c37_17
noncomputable def c37_19 : Code := cB c37_17
noncomputable def c37_20 : Code := cB c37_14
noncomputable def c37_21 : Code := cB c37_4
noncomputable def c37_22 : Code := cA c37_21
noncomputable def c37_23 : Code := cA c37_22
noncomputable def c37_24 : Code := cB c37_22
noncomputable def c37_25 : Code := cA c37_24
noncomputable def c37_26 : Code := cA c37_25
noncomputable def c37_27 : Code := cB c37_25
noncomputable def c37_28 : Code := cB c37_24
noncomputable def c37_29 : Code := cB c37_21
noncomputable def c37_30 : Code := cA c37_29
noncomputable def c37_31 : Code := cB c37_29
theorem c37_0_e : c37_0 = .seq c37_1 c37_2 := rfl
theorem c37_1_r (m : Nat) (st : St) : den (E0 mm) 37 m (callW (E0 mm)) itW c37_1 none st = regD (runOps (E0 mm) (callW (E0 mm)) (opsOf c37_1) (opsOf c37_1) st) := den_rg (by rfl)
theorem c37_2_e : c37_2 = .seq c37_3 c37_4 := rfl
theorem c37_3_r (m : Nat) (st : St) : den (E0 mm) 37 m (callW (E0 mm)) itW c37_3 none st = regD (runOps (E0 mm) (callW (E0 mm)) (opsOf c37_3) (opsOf c37_3) st) := den_rg (by rfl)
theorem c37_4_e : c37_4 = .seq c37_5 c37_21 := rfl
theorem c37_5_e : c37_5 = .block 0 c37_6 := rfl
theorem c37_6_l (m : Nat) (st : St) : den (E0 mm) 37 m (callW (E0 mm)) itW c37_6 none st = loopD itW (loopF (E0 mm) 37 m (callW (E0 mm)) itW c37_7 [(0, .keep), (1, .keep)]) (canon m [(0, .keep), (1, .keep)] st) := rfl
theorem c37_7_e : c37_7 = .seq c37_8 c37_13 := rfl
theorem c37_8_e : c37_8 = .seq c37_9 c37_10 := rfl
theorem c37_9_r (m : Nat) (st : St) : den (E0 mm) 37 m (callW (E0 mm)) itW c37_9 none st = regD (runOps (E0 mm) (callW (E0 mm)) (opsOf c37_9) (opsOf c37_9) st) := den_rg (by rfl)
theorem c37_11_e : c37_11 = .skip := rfl
theorem c37_12_e : c37_12 = .exit 0 := rfl
theorem c37_13_e : c37_13 = .block 1 c37_14 := rfl
theorem c37_14_e : c37_14 = .seq c37_15 c37_20 := rfl
theorem c37_15_e : c37_15 = .seq c37_16 c37_17 := rfl
theorem c37_16_r (m : Nat) (st : St) : den (E0 mm) 37 m (callW (E0 mm)) itW c37_16 none st = regD (runOps (E0 mm) (callW (E0 mm)) (opsOf c37_16) (opsOf c37_16) st) := den_rg (by rfl)
theorem c37_18_r (m : Nat) (st : St) : den (E0 mm) 37 m (callW (E0 mm)) itW c37_18 none st = regD (runOps (E0 mm) (callW (E0 mm)) (opsOf c37_18) (opsOf c37_18) st) := den_rg (by rfl)
theorem c37_19_e : c37_19 = .skip := rfl
theorem c37_20_r (m : Nat) (st : St) : den (E0 mm) 37 m (callW (E0 mm)) itW c37_20 none st = regD (runOps (E0 mm) (callW (E0 mm)) (opsOf c37_20) (opsOf c37_20) st) := den_rg (by rfl)
theorem c37_21_e : c37_21 = .seq c37_22 c37_29 := rfl
theorem c37_22_e : c37_22 = .seq c37_23 c37_24 := rfl
theorem c37_23_r (m : Nat) (st : St) : den (E0 mm) 37 m (callW (E0 mm)) itW c37_23 none st = regD (runOps (E0 mm) (callW (E0 mm)) (opsOf c37_23) (opsOf c37_23) st) := den_rg (by rfl)
theorem c37_25_e : c37_25 = .seq c37_26 c37_27 := rfl
theorem c37_26_r (m : Nat) (st : St) : den (E0 mm) 37 m (callW (E0 mm)) itW c37_26 none st = regD (runOps (E0 mm) (callW (E0 mm)) (opsOf c37_26) (opsOf c37_26) st) := den_rg (by rfl)
theorem c37_27_e : c37_27 = .ret := rfl
theorem c37_28_e : c37_28 = .skip := rfl
theorem c37_29_e : c37_29 = .seq c37_30 c37_31 := rfl
theorem c37_30_r (m : Nat) (st : St) : den (E0 mm) 37 m (callW (E0 mm)) itW c37_30 none st = regD (runOps (E0 mm) (callW (E0 mm)) (opsOf c37_30) (opsOf c37_30) st) := den_rg (by rfl)
theorem c37_31_e : c37_31 = .ret := rfl
abbrev R37 := (Int)
def e37 : R37 → AV × Heap := fun x => (.v (.c (.d (.sc (.int .i64 x)))), [])
noncomputable def K37_6 : Option (Ex × St) → Option (AV × Heap) := fun r => bodyD (E0 mm) [.tmp 4] 0 false (seqD (E0 mm) 37 0 (callW (E0 mm)) itW c37_21 (blockD 0 (r)))
def en37_6 : Bs × Int → X := fun x => (none, [.v (.c (.d (.sc (.string (S x.1))))), .v (.c (.d (.sc (.int .i64 x.2))))], [])
noncomputable def j37_20 (s0 : Bs) (at1 : Int) : Option ((Bs × Int) ⊕ R37) :=
  some (.inl (s0, (w64 (at1 + 1))))
set_option maxRecDepth 100000 in
theorem j37_20_t (s0 : Bs) (at1 : Int)  (sl : Nat → AV) (zq0 : sl 0 = .v (.c (.d (.sc (.string (S s0)))))) (zq1 : sl 1 = .v (.c (.d (.sc (.int .i64 at1))))) :
    stepE (K37_6 (mm := mm)) (loopK 0 [(0, .keep), (1, .keep)] (blockD 1 (den (E0 mm) 37 0 (callW (E0 mm)) itW c37_20 none ⟨sl, []⟩))) = (j37_20 s0 at1).map (sm en37_6 e37) := by
  simp -implicitDefEqProofs only [j37_20, c37_20_r, (show opsOf c37_20 = _ :: _ from rfl), zq0, zq1, setA, setB, String.reduceBEq, Nat.reduceEqDiff, Int.reduceEq, Nat.reduceAdd, Nat.reduceLeDiff, Nat.reduceLT, Int.reduceLE, Int.reduceLT, Int.reduceToNat, Int.reduceNegSucc, Nat.reduceMul, Int.reduceAdd, Nat.reduceBEq, Nat.reduceSub, Nat.reducePow, Int.reduceBEq, reduceCtorEq, E0P, E0hand, E0hard, E0row, E0nw, E0aown, E0glob, ↓reduceIte]
  all_goals rfl
noncomputable def j37_21 (s0 : Bs) (at1 : Int) : Option R37 :=
  if (decide ((s0.length : Int) ≤ at1)) = true then
    some (s0.length : Int)
  else
    some (w64 (at1 + 1))
set_option maxRecDepth 100000 in
theorem j37_21_t (s0 : Bs) (at1 : Int)  (sl : Nat → AV) (zq0 : sl 0 = .v (.c (.d (.sc (.string (S s0)))))) (zq1 : sl 1 = .v (.c (.d (.sc (.int .i64 at1))))) :
    bodyD (E0 mm) [.tmp 4] 0 false (den (E0 mm) 37 0 (callW (E0 mm)) itW c37_21 none ⟨sl, []⟩) = (j37_21 s0 at1).map e37 := by
  simp -implicitDefEqProofs only [j37_21, c37_21_e, c37_22_e, c37_23_r, (show opsOf c37_23 = _ :: _ from rfl), Tryd.underlying9, (show c37_24 = Code.cond _ c37_25 c37_28 from rfl), zq0, zq1, setA, setB, String.reduceBEq, Nat.reduceEqDiff, Int.reduceEq, Nat.reduceAdd, Nat.reduceLeDiff, Nat.reduceLT, Int.reduceLE, Int.reduceLT, Int.reduceToNat, Int.reduceNegSucc, Nat.reduceMul, Int.reduceAdd, Nat.reduceBEq, Nat.reduceSub, Nat.reducePow, Int.reduceBEq, reduceCtorEq, E0P, E0hand, E0hard, E0row, E0nw, E0aown, E0glob, ↓reduceIte]
  refine brB (fun yc6 => ?_) (fun yc6 => ?_)
  · simp -implicitDefEqProofs only [c37_25_e, c37_26_r, (show opsOf c37_26 = _ :: _ from rfl), Tryd.underlying9, c37_27_e, zq0, zq1, yc6, setA, setB, String.reduceBEq, Nat.reduceEqDiff, Int.reduceEq, Nat.reduceAdd, Nat.reduceLeDiff, Nat.reduceLT, Int.reduceLE, Int.reduceLT, Int.reduceToNat, Int.reduceNegSucc, Nat.reduceMul, Int.reduceAdd, Nat.reduceBEq, Nat.reduceSub, Nat.reducePow, Int.reduceBEq, reduceCtorEq, E0P, E0hand, E0hard, E0row, E0nw, E0aown, E0glob, ↓reduceIte]
    all_goals rfl
  · simp -implicitDefEqProofs only [c37_28_e, c37_29_e, c37_30_r, (show opsOf c37_30 = _ :: _ from rfl), c37_31_e, zq0, zq1, yc6, setA, setB, String.reduceBEq, Nat.reduceEqDiff, Int.reduceEq, Nat.reduceAdd, Nat.reduceLeDiff, Nat.reduceLT, Int.reduceLE, Int.reduceLT, Int.reduceToNat, Int.reduceNegSucc, Nat.reduceMul, Int.reduceAdd, Nat.reduceBEq, Nat.reduceSub, Nat.reducePow, Int.reduceBEq, reduceCtorEq, E0P, E0hand, E0hard, E0row, E0nw, E0aown, E0glob, ↓reduceIte]
    all_goals rfl
noncomputable def j37_10 (s0 : Bs) (at1 : Int) (t16 : Bool) : Option ((Bs × Int) ⊕ R37) :=
  if t16 = true then
    if 0 ≤ at1 ∧ at1 < (s0.length : Int) then
      if ((s0.getD at1.toNat 0) == (92 : UInt8)) = true then
        j37_20 s0 (w64 (at1 + 1))
      else
        j37_20 s0 at1
    else none
  else
    (j37_21 s0 at1).map .inr
set_option maxRecDepth 100000 in
theorem j37_10_t (s0 : Bs) (at1 : Int) (t16 : Bool)  (sl : Nat → AV) (zq0 : sl 0 = .v (.c (.d (.sc (.string (S s0)))))) (zq1 : sl 1 = .v (.c (.d (.sc (.int .i64 at1))))) (zq16 : sl 16 = .v (.c (.d (.sc (.bool t16))))) :
    stepE (K37_6 (mm := mm)) (loopK 0 [(0, .keep), (1, .keep)] (seqD (E0 mm) 37 0 (callW (E0 mm)) itW c37_13 (den (E0 mm) 37 0 (callW (E0 mm)) itW c37_10 none ⟨sl, []⟩))) = (j37_10 s0 at1 t16).map (sm en37_6 e37) := by
  simp -implicitDefEqProofs only [j37_10, (show c37_10 = Code.cond _ c37_11 c37_12 from rfl), zq0, zq1, zq16, setA, setB, String.reduceBEq, Nat.reduceEqDiff, Int.reduceEq, Nat.reduceAdd, Nat.reduceLeDiff, Nat.reduceLT, Int.reduceLE, Int.reduceLT, Int.reduceToNat, Int.reduceNegSucc, Nat.reduceMul, Int.reduceAdd, Nat.reduceBEq, Nat.reduceSub, Nat.reducePow, Int.reduceBEq, reduceCtorEq, E0P, E0hand, E0hard, E0row, E0nw, E0aown, E0glob, ↓reduceIte]
  refine brB (fun yc3 => ?_) (fun yc3 => ?_)
  · simp -implicitDefEqProofs only [c37_11_e, c37_13_e, c37_14_e, c37_15_e, c37_16_r, (show opsOf c37_16 = _ :: _ from rfl), Tryd.underlying9, zq0, zq1, zq16, yc3, setA, setB, String.reduceBEq, Nat.reduceEqDiff, Int.reduceEq, Nat.reduceAdd, Nat.reduceLeDiff, Nat.reduceLT, Int.reduceLE, Int.reduceLT, Int.reduceToNat, Int.reduceNegSucc, Nat.reduceMul, Int.reduceAdd, Nat.reduceBEq, Nat.reduceSub, Nat.reducePow, Int.reduceBEq, reduceCtorEq, E0P, E0hand, E0hard, E0row, E0nw, E0aown, E0glob, ↓reduceIte]
    refine brP (fun yc4 => ?_) (fun yc4 => ?_)
    · simp -implicitDefEqProofs only [(show c37_17 = Code.cond _ c37_18 c37_19 from rfl), zq0, zq1, zq16, yc3, yc4, setA, setB, String.reduceBEq, Nat.reduceEqDiff, Int.reduceEq, Nat.reduceAdd, Nat.reduceLeDiff, Nat.reduceLT, Int.reduceLE, Int.reduceLT, Int.reduceToNat, Int.reduceNegSucc, Nat.reduceMul, Int.reduceAdd, Nat.reduceBEq, Nat.reduceSub, Nat.reducePow, Int.reduceBEq, reduceCtorEq, E0P, E0hand, E0hard, E0row, E0nw, E0aown, E0glob, ↓reduceIte]
      refine brB (fun yc5 => ?_) (fun yc5 => ?_)
      · simp -implicitDefEqProofs only [c37_18_r, (show opsOf c37_18 = _ :: _ from rfl), zq0, zq1, zq16, yc3, yc4, yc5, setA, setB, String.reduceBEq, Nat.reduceEqDiff, Int.reduceEq, Nat.reduceAdd, Nat.reduceLeDiff, Nat.reduceLT, Int.reduceLE, Int.reduceLT, Int.reduceToNat, Int.reduceNegSucc, Nat.reduceMul, Int.reduceAdd, Nat.reduceBEq, Nat.reduceSub, Nat.reducePow, Int.reduceBEq, reduceCtorEq, E0P, E0hand, E0hard, E0row, E0nw, E0aown, E0glob, ↓reduceIte]
        exact j37_20_t s0 (w64 (at1 + 1)) _ (by exact zq0) (by rfl)
      · simp -implicitDefEqProofs only [c37_19_e, zq0, zq1, zq16, yc3, yc4, yc5, setA, setB, String.reduceBEq, Nat.reduceEqDiff, Int.reduceEq, Nat.reduceAdd, Nat.reduceLeDiff, Nat.reduceLT, Int.reduceLE, Int.reduceLT, Int.reduceToNat, Int.reduceNegSucc, Nat.reduceMul, Int.reduceAdd, Nat.reduceBEq, Nat.reduceSub, Nat.reducePow, Int.reduceBEq, reduceCtorEq, E0P, E0hand, E0hard, E0row, E0nw, E0aown, E0glob, ↓reduceIte]
        exact j37_20_t s0 at1 _ (by exact zq0) (by exact zq1)
    · simp -implicitDefEqProofs only [zq0, zq1, zq16, yc3, yc4, setA, setB, String.reduceBEq, Nat.reduceEqDiff, Int.reduceEq, Nat.reduceAdd, Nat.reduceLeDiff, Nat.reduceLT, Int.reduceLE, Int.reduceLT, Int.reduceToNat, Int.reduceNegSucc, Nat.reduceMul, Int.reduceAdd, Nat.reduceBEq, Nat.reduceSub, Nat.reducePow, Int.reduceBEq, reduceCtorEq, E0P, E0hand, E0hard, E0row, E0nw, E0aown, E0glob, ↓reduceIte]
  · simp -implicitDefEqProofs only [c37_12_e, K37_6, zq0, zq1, zq16, yc3, setA, setB, String.reduceBEq, Nat.reduceEqDiff, Int.reduceEq, Nat.reduceAdd, Nat.reduceLeDiff, Nat.reduceLT, Int.reduceLE, Int.reduceLT, Int.reduceToNat, Int.reduceNegSucc, Nat.reduceMul, Int.reduceAdd, Nat.reduceBEq, Nat.reduceSub, Nat.reducePow, Int.reduceBEq, reduceCtorEq, E0P, E0hand, E0hard, E0row, E0nw, E0aown, E0glob, ↓reduceIte]
    exact mi (j37_21_t s0 at1 _ (by exact zq0) (by exact zq1))
noncomputable def s37_6 (s0 : Bs) (at1 : Int) : Option ((Bs × Int) ⊕ R37) :=
  if (decide (at1 < (s0.length : Int))) = true then
    if 0 ≤ at1 ∧ at1 < (s0.length : Int) then
      j37_10 s0 at1 (!((s0.getD at1.toNat 0) == (34 : UInt8)))
    else none
  else
    j37_10 s0 at1 false
set_option maxRecDepth 100000 in
theorem s37_6_t (s0 : Bs) (at1 : Int) :
    stepE (K37_6 (mm := mm)) (loopF (E0 mm) 37 0 (callW (E0 mm)) itW c37_7 [(0, .keep), (1, .keep)] (none, [.v (.c (.d (.sc (.string (S s0))))), .v (.c (.d (.sc (.int .i64 at1))))], [])) = (s37_6 s0 at1).map (sm en37_6 e37) := by
  simp -implicitDefEqProofs only [s37_6, loopF_eq, c37_7_e, c37_8_e, c37_9_r, (show opsOf c37_9 = _ :: _ from rfl), Tryd.underlying9, setA, setB, String.reduceBEq, Nat.reduceEqDiff, Int.reduceEq, Nat.reduceAdd, Nat.reduceLeDiff, Nat.reduceLT, Int.reduceLE, Int.reduceLT, Int.reduceToNat, Int.reduceNegSucc, Nat.reduceMul, Int.reduceAdd, Nat.reduceBEq, Nat.reduceSub, Nat.reducePow, Int.reduceBEq, reduceCtorEq, E0P, E0hand, E0hard, E0row, E0nw, E0aown, E0glob, ↓reduceIte]
  refine brB (fun yc1 => ?_) (fun yc1 => ?_)
  · simp -implicitDefEqProofs only [Tryd.underlying9, yc1, setA, setB, String.reduceBEq, Nat.reduceEqDiff, Int.reduceEq, Nat.reduceAdd, Nat.reduceLeDiff, Nat.reduceLT, Int.reduceLE, Int.reduceLT, Int.reduceToNat, Int.reduceNegSucc, Nat.reduceMul, Int.reduceAdd, Nat.reduceBEq, Nat.reduceSub, Nat.reducePow, Int.reduceBEq, reduceCtorEq, E0P, E0hand, E0hard, E0row, E0nw, E0aown, E0glob, ↓reduceIte]
    refine brP (fun yc2 => ?_) (fun yc2 => ?_)
    · simp -implicitDefEqProofs only [yc1, yc2, setA, setB, String.reduceBEq, Nat.reduceEqDiff, Int.reduceEq, Nat.reduceAdd, Nat.reduceLeDiff, Nat.reduceLT, Int.reduceLE, Int.reduceLT, Int.reduceToNat, Int.reduceNegSucc, Nat.reduceMul, Int.reduceAdd, Nat.reduceBEq, Nat.reduceSub, Nat.reducePow, Int.reduceBEq, reduceCtorEq, E0P, E0hand, E0hard, E0row, E0nw, E0aown, E0glob, ↓reduceIte]
      exact j37_10_t s0 at1 (!((s0.getD at1.toNat 0) == (34 : UInt8))) _ (by rfl) (by rfl) (by rfl)
    · simp -implicitDefEqProofs only [yc1, yc2, setA, setB, String.reduceBEq, Nat.reduceEqDiff, Int.reduceEq, Nat.reduceAdd, Nat.reduceLeDiff, Nat.reduceLT, Int.reduceLE, Int.reduceLT, Int.reduceToNat, Int.reduceNegSucc, Nat.reduceMul, Int.reduceAdd, Nat.reduceBEq, Nat.reduceSub, Nat.reducePow, Int.reduceBEq, reduceCtorEq, E0P, E0hand, E0hard, E0row, E0nw, E0aown, E0glob, ↓reduceIte]
  · simp -implicitDefEqProofs only [yc1, setA, setB, String.reduceBEq, Nat.reduceEqDiff, Int.reduceEq, Nat.reduceAdd, Nat.reduceLeDiff, Nat.reduceLT, Int.reduceLE, Int.reduceLT, Int.reduceToNat, Int.reduceNegSucc, Nat.reduceMul, Int.reduceAdd, Nat.reduceBEq, Nat.reduceSub, Nat.reducePow, Int.reduceBEq, reduceCtorEq, E0P, E0hand, E0hard, E0row, E0nw, E0aown, E0glob, ↓reduceIte]
    exact j37_10_t s0 at1 false _ (by rfl) (by rfl) (by rfl)
noncomputable def l37_6 (s0 : Bs) (at1 : Int) : Option R37 := iter (fun x : Bs × Int => s37_6 x.1 x.2) (s0, at1)
theorem l37_6_t (s0 : Bs) (at1 : Int) : bodyD (E0 mm) [.tmp 4] 0 false (seqD (E0 mm) 37 0 (callW (E0 mm)) itW c37_21 (blockD 0 (itW (loopF (E0 mm) 37 0 (callW (E0 mm)) itW c37_7 [(0, .keep), (1, .keep)]) (none, [.v (.c (.d (.sc (.string (S s0))))), .v (.c (.d (.sc (.int .i64 at1))))], [])))) = (l37_6 s0 at1).map e37 :=
  it_sim (K := (K37_6 (mm := mm))) rfl (enc := en37_6) (fun x => s37_6_t x.1 x.2) (s0, at1)
noncomputable def m37 (s : Bs) (xat : Int) : Option R37 :=
  l37_6 s (w64 (xat + 1))
set_option maxRecDepth 100000 in
theorem f37_t (s : Bs) (xat : Int) :
    callW (E0 mm) 37 [.c (.d (.sc (.string (S s)))), .c (.d (.sc (.int .i64 xat)))] [] = (m37 s xat).map e37 := by
  rw [callW_run (body := c37_0) (res := [.tmp 4]) Tryd.func37 rfl rfl (by kernel_rfl)]
  simp -implicitDefEqProofs only [m37, slots2, c37_0_e, c37_1_r, (show opsOf c37_1 = _ :: _ from rfl), c37_2_e, c37_3_r, (show opsOf c37_3 = _ :: _ from rfl), c37_4_e, c37_5_e, c37_6_l, setA, setB, String.reduceBEq, Nat.reduceEqDiff, Int.reduceEq, Nat.reduceAdd, Nat.reduceLeDiff, Nat.reduceLT, Int.reduceLE, Int.reduceLT, Int.reduceToNat, Int.reduceNegSucc, Nat.reduceMul, Int.reduceAdd, Nat.reduceBEq, Nat.reduceSub, Nat.reducePow, Int.reduceBEq, reduceCtorEq, E0P, E0hand, E0hard, E0row, E0nw, E0aown, E0glob, ↓reduceIte]
  exact l37_6_t s (w64 (xat + 1))
/-! tollhouse/tollhouseref02.List -/
noncomputable def c23_0 : Code := bodyOf Tryd.f23
noncomputable def c23_1 : Code := cA c23_0
noncomputable def c23_2 : Code := cB c23_0
noncomputable def c23_3 : Code := cA c23_2
noncomputable def c23_4 : Code := cB c23_2
noncomputable def c23_5 : Code := cA c23_4
noncomputable def c23_6 : Code := cB c23_4
noncomputable def c23_7 : Code := cA c23_6
noncomputable def c23_8 : Code := cA c23_7
noncomputable def c23_9 : Code := cB c23_7
noncomputable def c23_10 : Code := cA c23_9
noncomputable def c23_11 : Code := cA c23_10
noncomputable def c23_12 : Code := cA c23_11
noncomputable def c23_13 : Code := cA c23_12
noncomputable def c23_14 : Code := cB c23_12
noncomputable def c23_15 : Code := cA c23_14
noncomputable def c23_16 : Code := cB c23_14
noncomputable def c23_17 : Code := cB c23_11
noncomputable def c23_18 : Code := cA c23_17
noncomputable def c23_19 : Code := cA c23_18
noncomputable def c23_20 : Code := cA c23_19
noncomputable def c23_21 : Code := cB c23_19
noncomputable def c23_22 : Code := cA c23_21
noncomputable def c23_23 : Code := cA c23_22
noncomputable def c23_24 : Code := cB c23_22
noncomputable def c23_25 : Code := cB c23_21
noncomputable def c23_26 : Code := cB c23_18
noncomputable def c23_27 : Code := cA c23_26
noncomputable def c23_28 : Code := cA c23_27
noncomputable def c23_29 : Code := cB c23_27
noncomputable def c23_30 : Code := cA c23_29
noncomputable def c23_31 : Code := cA c23_30
noncomputable def c23_32 : Code := cB c23_30
noncomputable def c23_33 : Code := cA c23_32
noncomputable def c23_34 : Code := cA c23_33
noncomputable def c23_35 : Code := cB c23_33
noncomputable def c23_36 : Code := cA c23_35
noncomputable def c23_37 : Code := cB c23_35
noncomputable def c23_38 : Code := cB c23_32
noncomputable def c23_39 : Code := cB c23_29
noncomputable def c23_40 : Code := cB c23_26
noncomputable def c23_41 : Code := cB c23_6
noncomputable def c23_42 : Code := cA c23_41
noncomputable def c23_43 : Code := cB c23_41
theorem c23_0_e : c23_0 = .seq c23_1 c23_2 := rfl
theorem c23_1_r (m : Nat) (st : St) : den (E0 mm) 23 m (callW (E0 mm)) itW c23_1 none st = regD (runOps (E0 mm) (callW (E0 mm)) (opsOf c23_1) (opsOf c23_1) st) := den_rg (by rfl)
theorem c23_2_e : c23_2 = .seq c23_3 c23_4 := rfl
theorem c23_3_r (m : Nat) (st : St) : den (E0 mm) 23 m (callW (E0 mm)) itW c23_3 none st = regD (runOps (E0 mm) (callW (E0 mm)) (opsOf c23_3) (opsOf c23_3) st) := den_rg (by rfl)
theorem c23_4_e : c23_4 = .seq c23_5 c23_6 := rfl
theorem c23_5_r (m : Nat) (st : St) : den (E0 mm) 23 m (callW (E0 mm)) itW c23_5 none st = regD (runOps (E0 mm) (callW (E0 mm)) (opsOf c23_5) (opsOf c23_5) st) := den_rg (by rfl)
theorem c23_6_e : c23_6 = .seq c23_7 c23_41 := rfl
theorem c23_7_e : c23_7 = .seq c23_8 c23_9 := rfl
theorem c23_8_r (m : Nat) (st : St) : den (E0 mm) 23 m (callW (E0 mm)) itW c23_8 none st = regD (runOps (E0 mm) (callW (E0 mm)) (opsOf c23_8) (opsOf c23_8) st) := den_rg (by rfl)
theorem c23_9_e : c23_9 = .block 0 c23_10 := rfl
theorem c23_10_l (m : Nat) (st : St) : den (E0 mm) 23 m (callW (E0 mm)) itW c23_10 none st = loopD itW (loopF (E0 mm) 23 m (callW (E0 mm)) itW c23_11 [(0, .keep), (3, .own), (4, .keep), (5, .keep)]) (canon m [(0, .keep), (3, .own), (4, .keep), (5, .keep)] st) := rfl
theorem c23_11_e : c23_11 = .seq c23_12 c23_17 := rfl
theorem c23_12_e : c23_12 = .seq c23_13 c23_14 := rfl
theorem c23_13_r (m : Nat) (st : St) : den (E0 mm) 23 m (callW (E0 mm)) itW c23_13 none st = regD (runOps (E0 mm) (callW (E0 mm)) (opsOf c23_13) (opsOf c23_13) st) := den_rg (by rfl)
theorem c23_15_e : c23_15 = .skip := rfl
theorem c23_16_e : c23_16 = .exit 0 := rfl
theorem c23_17_e : c23_17 = .block 1 c23_18 := rfl
theorem c23_18_e : c23_18 = .seq c23_19 c23_26 := rfl
theorem c23_19_e : c23_19 = .seq c23_20 c23_21 := rfl
theorem c23_20_r (m : Nat) (st : St) : den (E0 mm) 23 m (callW (E0 mm)) itW c23_20 none st = regD (runOps (E0 mm) (callW (E0 mm)) (opsOf c23_20) (opsOf c23_20) st) := den_rg (by rfl)
theorem c23_22_e : c23_22 = .seq c23_23 c23_24 := rfl
theorem c23_23_r (m : Nat) (st : St) : den (E0 mm) 23 m (callW (E0 mm)) itW c23_23 none st = regD (runOps (E0 mm) (callW (E0 mm)) (opsOf c23_23) (opsOf c23_23) st) := den_rg (by rfl)
theorem c23_24_e : c23_24 = .exit 1 := rfl
theorem c23_25_e : c23_25 = .skip := rfl
theorem c23_26_e : c23_26 = .seq c23_27 c23_40 := rfl
theorem c23_27_e : c23_27 = .seq c23_28 c23_29 := rfl
theorem c23_28_r (m : Nat) (st : St) : den (E0 mm) 23 m (callW (E0 mm)) itW c23_28 none st = regD (runOps (E0 mm) (callW (E0 mm)) (opsOf c23_28) (opsOf c23_28) st) := den_rg (by rfl)
theorem c23_30_e : c23_30 = .seq c23_31 c23_32 := rfl
theorem c23_31_r (m : Nat) (st : St) : den (E0 mm) 23 m (callW (E0 mm)) itW c23_31 none st = regD (runOps (E0 mm) (callW (E0 mm)) (opsOf c23_31) (opsOf c23_31) st) := den_rg (by rfl)
theorem c23_32_e : c23_32 = .seq c23_33 c23_38 := rfl
theorem c23_33_e : c23_33 = .seq c23_34 c23_35 := rfl
theorem c23_34_r (m : Nat) (st : St) : den (E0 mm) 23 m (callW (E0 mm)) itW c23_34 none st = regD (runOps (E0 mm) (callW (E0 mm)) (opsOf c23_34) (opsOf c23_34) st) := den_rg (by rfl)
theorem c23_36_r (m : Nat) (st : St) : den (E0 mm) 23 m (callW (E0 mm)) itW c23_36 none st = regD (runOps (E0 mm) (callW (E0 mm)) (opsOf c23_36) (opsOf c23_36) st) := den_rg (by rfl)
theorem c23_37_e : c23_37 = .skip := rfl
theorem c23_38_r (m : Nat) (st : St) : den (E0 mm) 23 m (callW (E0 mm)) itW c23_38 none st = regD (runOps (E0 mm) (callW (E0 mm)) (opsOf c23_38) (opsOf c23_38) st) := den_rg (by rfl)
theorem c23_39_e : c23_39 = .skip := rfl
theorem c23_40_r (m : Nat) (st : St) : den (E0 mm) 23 m (callW (E0 mm)) itW c23_40 none st = regD (runOps (E0 mm) (callW (E0 mm)) (opsOf c23_40) (opsOf c23_40) st) := den_rg (by rfl)
theorem c23_41_e : c23_41 = .seq c23_42 c23_43 := rfl
theorem c23_42_r (m : Nat) (st : St) : den (E0 mm) 23 m (callW (E0 mm)) itW c23_42 none st = regD (runOps (E0 mm) (callW (E0 mm)) (opsOf c23_42) (opsOf c23_42) st) := den_rg (by rfl)
theorem c23_43_e : c23_43 = .ret := rfl
abbrev R23 := (Bool × List Bs)
def e23 : R23 → AV × Heap := fun x => (.v (.c (.own x.1 (enL en0 x.2) 0)), [.row x.2.length (rz x.1 1)])
noncomputable def K23_10 : Option (Ex × St) → Option (AV × Heap) := fun r => bodyD (E0 mm) [.tmp 2] 0 false (seqD (E0 mm) 23 0 (callW (E0 mm)) itW c23_41 (blockD 0 (r)))
def en23_10 : Bs × Bool × List Bs × Int × Int → X := fun x => (none, [.v (.c (.d (.sc (.string (S x.1))))), .v (.c (.own x.2.1 (enL en0 x.2.2.1) 0)), .v (.c (.d (.sc (.int .i64 x.2.2.2.1)))), .v (.c (.d (.sc (.int .i64 x.2.2.2.2))))], [.row x.2.2.1.length (rz x.2.1 1)])
noncomputable def j23_40 (s0 : Bs) (l3_0 : Bool) (l3_1 : List Bs) (from4 : Int) (at5 : Int) : Option ((Bs × Bool × List Bs × Int × Int) ⊕ R23) :=
  some (.inl (s0, l3_0, l3_1, from4, (w64 (at5 + 1))))
set_option maxRecDepth 100000 in
theorem j23_40_t (s0 : Bs) (l3_0 : Bool) (l3_1 : List Bs) (from4 : Int) (at5 : Int)  (sl : Nat → AV) (zq0 : sl 0 = .v (.c (.d (.sc (.string (S s0)))))) (zq3 : sl 3 = .v (.c (.own l3_0 (enL en0 l3_1) 0))) (zq4 : sl 4 = .v (.c (.d (.sc (.int .i64 from4))))) (zq5 : sl 5 = .v (.c (.d (.sc (.int .i64 at5))))) :
    stepE (K23_10 (mm := mm)) (loopK 0 [(0, .keep), (3, .own), (4, .keep), (5, .keep)] (blockD 1 (den (E0 mm) 23 0 (callW (E0 mm)) itW c23_40 none ⟨sl, [.row l3_1.length (rz l3_0 1)]⟩))) = (j23_40 s0 l3_0 l3_1 from4 at5).map (sm en23_10 e23) := by
  simp -implicitDefEqProofs only [j23_40, c23_40_r, (show opsOf c23_40 = _ :: _ from rfl), zq0, zq3, zq4, zq5, setA, setB, String.reduceBEq, Nat.reduceEqDiff, Int.reduceEq, Nat.reduceAdd, Nat.reduceLeDiff, Nat.reduceLT, Int.reduceLE, Int.reduceLT, Int.reduceToNat, Int.reduceNegSucc, Nat.reduceMul, Int.reduceAdd, Nat.reduceBEq, Nat.reduceSub, Nat.reducePow, Int.reduceBEq, reduceCtorEq, E0P, E0hand, E0hard, E0row, E0nw, E0aown, E0glob, ↓reduceIte]
  all_goals rfl
noncomputable def j23_38 (s0 : Bs) (l3_0 : Bool) (l3_1 : List Bs) (at5 : Int) : Option ((Bs × Bool × List Bs × Int × Int) ⊕ R23) :=
  j23_40 s0 l3_0 l3_1 (w64 (at5 + 1)) at5
set_option maxRecDepth 100000 in
theorem j23_38_t (s0 : Bs) (l3_0 : Bool) (l3_1 : List Bs) (at5 : Int)  (sl : Nat → AV) (zq0 : sl 0 = .v (.c (.d (.sc (.string (S s0)))))) (zq3 : sl 3 = .v (.c (.own l3_0 (enL en0 l3_1) 0))) (zq5 : sl 5 = .v (.c (.d (.sc (.int .i64 at5))))) :
    stepE (K23_10 (mm := mm)) (loopK 0 [(0, .keep), (3, .own), (4, .keep), (5, .keep)] (blockD 1 (seqD (E0 mm) 23 0 (callW (E0 mm)) itW c23_40 (den (E0 mm) 23 0 (callW (E0 mm)) itW c23_38 none ⟨sl, [.row l3_1.length (rz l3_0 1)]⟩)))) = (j23_38 s0 l3_0 l3_1 at5).map (sm en23_10 e23) := by
  simp -implicitDefEqProofs only [j23_38, c23_38_r, (show opsOf c23_38 = _ :: _ from rfl), zq0, zq3, zq5, setA, setB, String.reduceBEq, Nat.reduceEqDiff, Int.reduceEq, Nat.reduceAdd, Nat.reduceLeDiff, Nat.reduceLT, Int.reduceLE, Int.reduceLT, Int.reduceToNat, Int.reduceNegSucc, Nat.reduceMul, Int.reduceAdd, Nat.reduceBEq, Nat.reduceSub, Nat.reducePow, Int.reduceBEq, reduceCtorEq, E0P, E0hand, E0hard, E0row, E0nw, E0aown, E0glob, ↓reduceIte]
  exact j23_40_t s0 l3_0 l3_1 (w64 (at5 + 1)) at5 _ (by exact zq0) (by exact zq3) (by rfl) (by exact zq5)
noncomputable def j23_40v1 (s0 : Bs) (l3_0 : Bool) (l3_1 : List Bs) (from4 : Int) (at5 : Int) : Option ((Bs × Bool × List Bs × Int × Int) ⊕ R23) :=
  some (.inl (s0, l3_0, l3_1, from4, (w64 (at5 + 1))))
set_option maxRecDepth 100000 in
theorem j23_40v1_t (s0 : Bs) (l3_0 : Bool) (l3_1 : List Bs) (from4 : Int) (at5 : Int) (g1 : Ob) (sl : Nat → AV) (zq0 : sl 0 = .v (.c (.d (.sc (.string (S s0)))))) (zq3 : sl 3 = .v (.c (.own l3_0 (enL en0 l3_1) 0))) (zq4 : sl 4 = .v (.c (.d (.sc (.int .i64 from4))))) (zq5 : sl 5 = .v (.c (.d (.sc (.int .i64 at5))))) :
    stepE (K23_10 (mm := mm)) (loopK 0 [(0, .keep), (3, .own), (4, .keep), (5, .keep)] (blockD 1 (den (E0 mm) 23 0 (callW (E0 mm)) itW c23_40 none ⟨sl, [.row l3_1.length (rz l3_0 1), g1]⟩))) = (j23_40v1 s0 l3_0 l3_1 from4 at5).map (sm en23_10 e23) := by
  simp -implicitDefEqProofs only [j23_40v1, c23_40_r, (show opsOf c23_40 = _ :: _ from rfl), zq0, zq3, zq4, zq5, setA, setB, String.reduceBEq, Nat.reduceEqDiff, Int.reduceEq, Nat.reduceAdd, Nat.reduceLeDiff, Nat.reduceLT, Int.reduceLE, Int.reduceLT, Int.reduceToNat, Int.reduceNegSucc, Nat.reduceMul, Int.reduceAdd, Nat.reduceBEq, Nat.reduceSub, Nat.reducePow, Int.reduceBEq, reduceCtorEq, E0P, E0hand, E0hard, E0row, E0nw, E0aown, E0glob, ↓reduceIte]
  all_goals rfl
noncomputable def j23_38v1 (s0 : Bs) (l3_0 : Bool) (l3_1 : List Bs) (at5 : Int) : Option ((Bs × Bool × List Bs × Int × Int) ⊕ R23) :=
  j23_40v1 s0 l3_0 l3_1 (w64 (at5 + 1)) at5
set_option maxRecDepth 100000 in
theorem j23_38v1_t (s0 : Bs) (l3_0 : Bool) (l3_1 : List Bs) (at5 : Int) (g1 : Ob) (sl : Nat → AV) (zq0 : sl 0 = .v (.c (.d (.sc (.string (S s0)))))) (zq3 : sl 3 = .v (.c (.own l3_0 (enL en0 l3_1) 0))) (zq5 : sl 5 = .v (.c (.d (.sc (.int .i64 at5))))) :
    stepE (K23_10 (mm := mm)) (loopK 0 [(0, .keep), (3, .own), (4, .keep), (5, .keep)] (blockD 1 (seqD (E0 mm) 23 0 (callW (E0 mm)) itW c23_40 (den (E0 mm) 23 0 (callW (E0 mm)) itW c23_38 none ⟨sl, [.row l3_1.length (rz l3_0 1), g1]⟩)))) = (j23_38v1 s0 l3_0 l3_1 at5).map (sm en23_10 e23) := by
  simp -implicitDefEqProofs only [j23_38v1, c23_38_r, (show opsOf c23_38 = _ :: _ from rfl), zq0, zq3, zq5, setA, setB, String.reduceBEq, Nat.reduceEqDiff, Int.reduceEq, Nat.reduceAdd, Nat.reduceLeDiff, Nat.reduceLT, Int.reduceLE, Int.reduceLT, Int.reduceToNat, Int.reduceNegSucc, Nat.reduceMul, Int.reduceAdd, Nat.reduceBEq, Nat.reduceSub, Nat.reducePow, Int.reduceBEq, reduceCtorEq, E0P, E0hand, E0hard, E0row, E0nw, E0aown, E0glob, ↓reduceIte]
  exact j23_40v1_t s0 l3_0 l3_1 (w64 (at5 + 1)) at5 _ _ (by exact zq0) (by exact zq3) (by rfl) (by exact zq5)
noncomputable def j23_29 (s0 : Bs) (l3_0 : Bool) (l3_1 : List Bs) (from4 : Int) (at5 : Int) (t33 : Bool) : Option ((Bs × Bool × List Bs × Int × Int) ⊕ R23) :=
  if t33 = true then
    (bnd at5 s0.length).bind fun yk10 =>
      (bnd from4 yk10).bind fun yk12 =>
        (m15 ((s0.take yk10).drop yk12)).bind fun yr14 =>
          if (yr14 == ([] : Bs)) = true then
            j23_38 s0 l3_0 l3_1 at5
          else
            if (l3_1.length + 1) * 16 ≤ 140737488355328 then
              j23_38v1 s0 false (l3_1 ++ ([yr14] : List Bs)) at5
            else none
  else
    j23_40 s0 l3_0 l3_1 from4 at5
set_option maxRecDepth 100000 in
theorem j23_29_t (s0 : Bs) (l3_0 : Bool) (l3_1 : List Bs) (from4 : Int) (at5 : Int) (t33 : Bool)  (sl : Nat → AV) (zq0 : sl 0 = .v (.c (.d (.sc (.string (S s0)))))) (zq3 : sl 3 = .v (.c (.own l3_0 (enL en0 l3_1) 0))) (zq4 : sl 4 = .v (.c (.d (.sc (.int .i64 from4))))) (zq5 : sl 5 = .v (.c (.d (.sc (.int .i64 at5))))) (zq33 : sl 33 = .v (.c (.d (.sc (.bool t33))))) :
    stepE (K23_10 (mm := mm)) (loopK 0 [(0, .keep), (3, .own), (4, .keep), (5, .keep)] (blockD 1 (seqD (E0 mm) 23 0 (callW (E0 mm)) itW c23_40 (den (E0 mm) 23 0 (callW (E0 mm)) itW c23_29 none ⟨sl, [.row l3_1.length (rz l3_0 1)]⟩)))) = (j23_29 s0 l3_0 l3_1 from4 at5 t33).map (sm en23_10 e23) := by
  simp -implicitDefEqProofs only [j23_29, (show c23_29 = Code.cond _ c23_30 c23_39 from rfl), zq0, zq3, zq4, zq5, zq33, setA, setB, String.reduceBEq, Nat.reduceEqDiff, Int.reduceEq, Nat.reduceAdd, Nat.reduceLeDiff, Nat.reduceLT, Int.reduceLE, Int.reduceLT, Int.reduceToNat, Int.reduceNegSucc, Nat.reduceMul, Int.reduceAdd, Nat.reduceBEq, Nat.reduceSub, Nat.reducePow, Int.reduceBEq, reduceCtorEq, E0P, E0hand, E0hard, E0row, E0nw, E0aown, E0glob, ↓reduceIte]
  refine brB (fun yc8 => ?_) (fun yc8 => ?_)
  · simp -implicitDefEqProofs only [c23_30_e, c23_31_r, (show opsOf c23_31 = _ :: _ from rfl), Tryd.underlying9, zq0, zq3, zq4, zq5, zq33, yc8, setA, setB, String.reduceBEq, Nat.reduceEqDiff, Int.reduceEq, Nat.reduceAdd, Nat.reduceLeDiff, Nat.reduceLT, Int.reduceLE, Int.reduceLT, Int.reduceToNat, Int.reduceNegSucc, Nat.reduceMul, Int.reduceAdd, Nat.reduceBEq, Nat.reduceSub, Nat.reducePow, Int.reduceBEq, reduceCtorEq, E0P, E0hand, E0hard, E0row, E0nw, E0aown, E0glob, ↓reduceIte]
    refine brM (fun yc9 => ?_) (fun yk10 yc9 => ?_)
    · simp -implicitDefEqProofs only [yc9, zq0, zq3, zq4, zq5, zq33, yc8, setA, setB, String.reduceBEq, Nat.reduceEqDiff, Int.reduceEq, Nat.reduceAdd, Nat.reduceLeDiff, Nat.reduceLT, Int.reduceLE, Int.reduceLT, Int.reduceToNat, Int.reduceNegSucc, Nat.reduceMul, Int.reduceAdd, Nat.reduceBEq, Nat.reduceSub, Nat.reducePow, Int.reduceBEq, reduceCtorEq, E0P, E0hand, E0hard, E0row, E0nw, E0aown, E0glob, ↓reduceIte]
    · simp -implicitDefEqProofs only [zq0, zq3, zq4, zq5, zq33, yc8, yc9, setA, setB, String.reduceBEq, Nat.reduceEqDiff, Int.reduceEq, Nat.reduceAdd, Nat.reduceLeDiff, Nat.reduceLT, Int.reduceLE, Int.reduceLT, Int.reduceToNat, Int.reduceNegSucc, Nat.reduceMul, Int.reduceAdd, Nat.reduceBEq, Nat.reduceSub, Nat.reducePow, Int.reduceBEq, reduceCtorEq, E0P, E0hand, E0hard, E0row, E0nw, E0aown, E0glob, ↓reduceIte]
      refine brM (fun yc11 => ?_) (fun yk12 yc11 => ?_)
      · simp -implicitDefEqProofs only [yc11, zq0, zq3, zq4, zq5, zq33, yc8, yc9, setA, setB, String.reduceBEq, Nat.reduceEqDiff, Int.reduceEq, Nat.reduceAdd, Nat.reduceLeDiff, Nat.reduceLT, Int.reduceLE, Int.reduceLT, Int.reduceToNat, Int.reduceNegSucc, Nat.reduceMul, Int.reduceAdd, Nat.reduceBEq, Nat.reduceSub, Nat.reducePow, Int.reduceBEq, reduceCtorEq, E0P, E0hand, E0hard, E0row, E0nw, E0aown, E0glob, ↓reduceIte]
      · simp -implicitDefEqProofs only [ent15, prm15, f15_t, zq0, zq3, zq4, zq5, zq33, yc8, yc9, yc11, setA, setB, String.reduceBEq, Nat.reduceEqDiff, Int.reduceEq, Nat.reduceAdd, Nat.reduceLeDiff, Nat.reduceLT, Int.reduceLE, Int.reduceLT, Int.reduceToNat, Int.reduceNegSucc, Nat.reduceMul, Int.reduceAdd, Nat.reduceBEq, Nat.reduceSub, Nat.reducePow, Int.reduceBEq, reduceCtorEq, E0P, E0hand, E0hard, E0row, E0nw, E0aown, E0glob, ↓reduceIte]
        refine brM (fun yc13 => ?_) (fun yr14 yc13 => ?_)
        · simp -implicitDefEqProofs only [yc13, zq0, zq3, zq4, zq5, zq33, yc8, yc9, yc11, e15, setA, setB, String.reduceBEq, Nat.reduceEqDiff, Int.reduceEq, Nat.reduceAdd, Nat.reduceLeDiff, Nat.reduceLT, Int.reduceLE, Int.reduceLT, Int.reduceToNat, Int.reduceNegSucc, Nat.reduceMul, Int.reduceAdd, Nat.reduceBEq, Nat.reduceSub, Nat.reducePow, Int.reduceBEq, reduceCtorEq, E0P, E0hand, E0hard, E0row, E0nw, E0aown, E0glob, ↓reduceIte]
        · simp -implicitDefEqProofs only [e15, c23_32_e, c23_33_e, c23_34_r, (show opsOf c23_34 = _ :: _ from rfl), (show c23_35 = Code.cond _ c23_36 c23_37 from rfl), zq0, zq3, zq4, zq5, zq33, yc8, yc9, yc11, yc13, setA, setB, String.reduceBEq, Nat.reduceEqDiff, Int.reduceEq, Nat.reduceAdd, Nat.reduceLeDiff, Nat.reduceLT, Int.reduceLE, Int.reduceLT, Int.reduceToNat, Int.reduceNegSucc, Nat.reduceMul, Int.reduceAdd, Nat.reduceBEq, Nat.reduceSub, Nat.reducePow, Int.reduceBEq, reduceCtorEq, E0P, E0hand, E0hard, E0row, E0nw, E0aown, E0glob, ↓reduceIte]
          refine brB (fun yc15 => ?_) (fun yc15 => ?_)
          · simp -implicitDefEqProofs only [c23_37_e, zq0, zq3, zq4, zq5, zq33, yc8, yc9, yc11, yc13, yc15, setA, setB, String.reduceBEq, Nat.reduceEqDiff, Int.reduceEq, Nat.reduceAdd, Nat.reduceLeDiff, Nat.reduceLT, Int.reduceLE, Int.reduceLT, Int.reduceToNat, Int.reduceNegSucc, Nat.reduceMul, Int.reduceAdd, Nat.reduceBEq, Nat.reduceSub, Nat.reducePow, Int.reduceBEq, reduceCtorEq, E0P, E0hand, E0hard, E0row, E0nw, E0aown, E0glob, ↓reduceIte]
            exact j23_38_t s0 l3_0 l3_1 at5 _ (by exact zq0) (by exact zq3) (by exact zq5)
          · simp -implicitDefEqProofs only [c23_36_r, (show opsOf c23_36 = _ :: _ from rfl), Tryd.underlying27, sz9, zc9, ns2, ap27, zq0, zq3, zq4, zq5, zq33, yc8, yc9, yc11, yc13, yc15, setA, setB, String.reduceBEq, Nat.reduceEqDiff, Int.reduceEq, Nat.reduceAdd, Nat.reduceLeDiff, Nat.reduceLT, Int.reduceLE, Int.reduceLT, Int.reduceToNat, Int.reduceNegSucc, Nat.reduceMul, Int.reduceAdd, Nat.reduceBEq, Nat.reduceSub, Nat.reducePow, Int.reduceBEq, reduceCtorEq, E0P, E0hand, E0hard, E0row, E0nw, E0aown, E0glob, ↓reduceIte]
            refine brP (fun yc16 => ?_) (fun yc16 => ?_)
            · simp -implicitDefEqProofs only [zq0, zq3, zq4, zq5, zq33, yc8, yc9, yc11, yc13, yc15, yc16, setA, setB, String.reduceBEq, Nat.reduceEqDiff, Int.reduceEq, Nat.reduceAdd, Nat.reduceLeDiff, Nat.reduceLT, Int.reduceLE, Int.reduceLT, Int.reduceToNat, Int.reduceNegSucc, Nat.reduceMul, Int.reduceAdd, Nat.reduceBEq, Nat.reduceSub, Nat.reducePow, Int.reduceBEq, reduceCtorEq, E0P, E0hand, E0hard, E0row, E0nw, E0aown, E0glob, ↓reduceIte]
              exact j23_38v1_t s0 false (l3_1 ++ ([yr14] : List Bs)) at5 _ _ (by exact zq0) (by rfl) (by exact zq5)
            · simp -implicitDefEqProofs only [zq0, zq3, zq4, zq5, zq33, yc8, yc9, yc11, yc13, yc15, yc16, setA, setB, String.reduceBEq, Nat.reduceEqDiff, Int.reduceEq, Nat.reduceAdd, Nat.reduceLeDiff, Nat.reduceLT, Int.reduceLE, Int.reduceLT, Int.reduceToNat, Int.reduceNegSucc, Nat.reduceMul, Int.reduceAdd, Nat.reduceBEq, Nat.reduceSub, Nat.reducePow, Int.reduceBEq, reduceCtorEq, E0P, E0hand, E0hard, E0row, E0nw, E0aown, E0glob, ↓reduceIte]
  · simp -implicitDefEqProofs only [c23_39_e, zq0, zq3, zq4, zq5, zq33, yc8, setA, setB, String.reduceBEq, Nat.reduceEqDiff, Int.reduceEq, Nat.reduceAdd, Nat.reduceLeDiff, Nat.reduceLT, Int.reduceLE, Int.reduceLT, Int.reduceToNat, Int.reduceNegSucc, Nat.reduceMul, Int.reduceAdd, Nat.reduceBEq, Nat.reduceSub, Nat.reducePow, Int.reduceBEq, reduceCtorEq, E0P, E0hand, E0hard, E0row, E0nw, E0aown, E0glob, ↓reduceIte]
    exact j23_40_t s0 l3_0 l3_1 from4 at5 _ (by exact zq0) (by exact zq3) (by exact zq4) (by exact zq5)
noncomputable def j23_21 (s0 : Bs) (l3_0 : Bool) (l3_1 : List Bs) (from4 : Int) (at5 : Int) (t20 : Bool) : Option ((Bs × Bool × List Bs × Int × Int) ⊕ R23) :=
  if t20 = true then
    (m37 s0 at5).bind fun yr6 =>
      some (.inl (s0, l3_0, l3_1, from4, yr6))
  else
    if (at5 == (s0.length : Int)) = true then
      j23_29 s0 l3_0 l3_1 from4 at5 true
    else
      if 0 ≤ at5 ∧ at5 < (s0.length : Int) then
        j23_29 s0 l3_0 l3_1 from4 at5 ((s0.getD at5.toNat 0) == (44 : UInt8))
      else none
set_option maxRecDepth 100000 in
theorem j23_21_t (s0 : Bs) (l3_0 : Bool) (l3_1 : List Bs) (from4 : Int) (at5 : Int) (t20 : Bool)  (sl : Nat → AV) (zq0 : sl 0 = .v (.c (.d (.sc (.string (S s0)))))) (zq3 : sl 3 = .v (.c (.own l3_0 (enL en0 l3_1) 0))) (zq4 : sl 4 = .v (.c (.d (.sc (.int .i64 from4))))) (zq5 : sl 5 = .v (.c (.d (.sc (.int .i64 at5))))) (zq20 : sl 20 = .v (.c (.d (.sc (.bool t20))))) :
    stepE (K23_10 (mm := mm)) (loopK 0 [(0, .keep), (3, .own), (4, .keep), (5, .keep)] (blockD 1 (seqD (E0 mm) 23 0 (callW (E0 mm)) itW c23_26 (den (E0 mm) 23 0 (callW (E0 mm)) itW c23_21 none ⟨sl, [.row l3_1.length (rz l3_0 1)]⟩)))) = (j23_21 s0 l3_0 l3_1 from4 at5 t20).map (sm en23_10 e23) := by
  simp -implicitDefEqProofs only [j23_21, (show c23_21 = Code.cond _ c23_22 c23_25 from rfl), zq0, zq3, zq4, zq5, zq20, setA, setB, String.reduceBEq, Nat.reduceEqDiff, Int.reduceEq, Nat.reduceAdd, Nat.reduceLeDiff, Nat.reduceLT, Int.reduceLE, Int.reduceLT, Int.reduceToNat, Int.reduceNegSucc, Nat.reduceMul, Int.reduceAdd, Nat.reduceBEq, Nat.reduceSub, Nat.reducePow, Int.reduceBEq, reduceCtorEq, E0P, E0hand, E0hard, E0row, E0nw, E0aown, E0glob, ↓reduceIte]
  refine brB (fun yc4 => ?_) (fun yc4 => ?_)
  · simp -implicitDefEqProofs only [c23_22_e, c23_23_r, (show opsOf c23_23 = _ :: _ from rfl), ent37, prm37, f37_t, zq0, zq3, zq4, zq5, zq20, yc4, setA, setB, String.reduceBEq, Nat.reduceEqDiff, Int.reduceEq, Nat.reduceAdd, Nat.reduceLeDiff, Nat.reduceLT, Int.reduceLE, Int.reduceLT, Int.reduceToNat, Int.reduceNegSucc, Nat.reduceMul, Int.reduceAdd, Nat.reduceBEq, Nat.reduceSub, Nat.reducePow, Int.reduceBEq, reduceCtorEq, E0P, E0hand, E0hard, E0row, E0nw, E0aown, E0glob, ↓reduceIte]
    refine brM (fun yc5 => ?_) (fun yr6 yc5 => ?_)
    · simp -implicitDefEqProofs only [yc5, zq0, zq3, zq4, zq5, zq20, yc4, e37, setA, setB, String.reduceBEq, Nat.reduceEqDiff, Int.reduceEq, Nat.reduceAdd, Nat.reduceLeDiff, Nat.reduceLT, Int.reduceLE, Int.reduceLT, Int.reduceToNat, Int.reduceNegSucc, Nat.reduceMul, Int.reduceAdd, Nat.reduceBEq, Nat.reduceSub, Nat.reducePow, Int.reduceBEq, reduceCtorEq, E0P, E0hand, E0hard, E0row, E0nw, E0aown, E0glob, ↓reduceIte]
    · simp -implicitDefEqProofs only [e37, c23_24_e, zq0, zq3, zq4, zq5, zq20, yc4, yc5, setA, setB, String.reduceBEq, Nat.reduceEqDiff, Int.reduceEq, Nat.reduceAdd, Nat.reduceLeDiff, Nat.reduceLT, Int.reduceLE, Int.reduceLT, Int.reduceToNat, Int.reduceNegSucc, Nat.reduceMul, Int.reduceAdd, Nat.reduceBEq, Nat.reduceSub, Nat.reducePow, Int.reduceBEq, reduceCtorEq, E0P, E0hand, E0hard, E0row, E0nw, E0aown, E0glob, ↓reduceIte]
      all_goals rfl
  · simp -implicitDefEqProofs only [c23_25_e, c23_26_e, c23_27_e, c23_28_r, (show opsOf c23_28 = _ :: _ from rfl), Tryd.underlying9, zq0, zq3, zq4, zq5, zq20, yc4, setA, setB, String.reduceBEq, Nat.reduceEqDiff, Int.reduceEq, Nat.reduceAdd, Nat.reduceLeDiff, Nat.reduceLT, Int.reduceLE, Int.reduceLT, Int.reduceToNat, Int.reduceNegSucc, Nat.reduceMul, Int.reduceAdd, Nat.reduceBEq, Nat.reduceSub, Nat.reducePow, Int.reduceBEq, reduceCtorEq, E0P, E0hand, E0hard, E0row, E0nw, E0aown, E0glob, ↓reduceIte]
    refine brB (fun yc7 => ?_) (fun yc7 => ?_)
    · simp -implicitDefEqProofs only [zq0, zq3, zq4, zq5, zq20, yc4, yc7, setA, setB, String.reduceBEq, Nat.reduceEqDiff, Int.reduceEq, Nat.reduceAdd, Nat.reduceLeDiff, Nat.reduceLT, Int.reduceLE, Int.reduceLT, Int.reduceToNat, Int.reduceNegSucc, Nat.reduceMul, Int.reduceAdd, Nat.reduceBEq, Nat.reduceSub, Nat.reducePow, Int.reduceBEq, reduceCtorEq, E0P, E0hand, E0hard, E0row, E0nw, E0aown, E0glob, ↓reduceIte]
      exact j23_29_t s0 l3_0 l3_1 from4 at5 true _ (by exact zq0) (by exact zq3) (by exact zq4) (by exact zq5) (by rfl)
    · simp -implicitDefEqProofs only [Tryd.underlying9, zq0, zq3, zq4, zq5, zq20, yc4, yc7, setA, setB, String.reduceBEq, Nat.reduceEqDiff, Int.reduceEq, Nat.reduceAdd, Nat.reduceLeDiff, Nat.reduceLT, Int.reduceLE, Int.reduceLT, Int.reduceToNat, Int.reduceNegSucc, Nat.reduceMul, Int.reduceAdd, Nat.reduceBEq, Nat.reduceSub, Nat.reducePow, Int.reduceBEq, reduceCtorEq, E0P, E0hand, E0hard, E0row, E0nw, E0aown, E0glob, ↓reduceIte]
      refine brP (fun yc17 => ?_) (fun yc17 => ?_)
      · simp -implicitDefEqProofs only [zq0, zq3, zq4, zq5, zq20, yc4, yc7, yc17, setA, setB, String.reduceBEq, Nat.reduceEqDiff, Int.reduceEq, Nat.reduceAdd, Nat.reduceLeDiff, Nat.reduceLT, Int.reduceLE, Int.reduceLT, Int.reduceToNat, Int.reduceNegSucc, Nat.reduceMul, Int.reduceAdd, Nat.reduceBEq, Nat.reduceSub, Nat.reducePow, Int.reduceBEq, reduceCtorEq, E0P, E0hand, E0hard, E0row, E0nw, E0aown, E0glob, ↓reduceIte]
        exact j23_29_t s0 l3_0 l3_1 from4 at5 ((s0.getD at5.toNat 0) == (44 : UInt8)) _ (by exact zq0) (by exact zq3) (by exact zq4) (by exact zq5) (by rfl)
      · simp -implicitDefEqProofs only [zq0, zq3, zq4, zq5, zq20, yc4, yc7, yc17, setA, setB, String.reduceBEq, Nat.reduceEqDiff, Int.reduceEq, Nat.reduceAdd, Nat.reduceLeDiff, Nat.reduceLT, Int.reduceLE, Int.reduceLT, Int.reduceToNat, Int.reduceNegSucc, Nat.reduceMul, Int.reduceAdd, Nat.reduceBEq, Nat.reduceSub, Nat.reducePow, Int.reduceBEq, reduceCtorEq, E0P, E0hand, E0hard, E0row, E0nw, E0aown, E0glob, ↓reduceIte]
noncomputable def j23_41 (l3_0 : Bool) (l3_1 : List Bs) : Option R23 :=
  some (l3_0, l3_1)
set_option maxRecDepth 100000 in
theorem j23_41_t (l3_0 : Bool) (l3_1 : List Bs)  (sl : Nat → AV) (zq3 : sl 3 = .v (.c (.own l3_0 (enL en0 l3_1) 0))) :
    bodyD (E0 mm) [.tmp 2] 0 false (den (E0 mm) 23 0 (callW (E0 mm)) itW c23_41 none ⟨sl, [.row l3_1.length (rz l3_0 1)]⟩) = (j23_41 l3_0 l3_1).map e23 := by
  simp -implicitDefEqProofs only [j23_41, c23_41_e, c23_42_r, (show opsOf c23_42 = _ :: _ from rfl), c23_43_e, zq3, setA, setB, String.reduceBEq, Nat.reduceEqDiff, Int.reduceEq, Nat.reduceAdd, Nat.reduceLeDiff, Nat.reduceLT, Int.reduceLE, Int.reduceLT, Int.reduceToNat, Int.reduceNegSucc, Nat.reduceMul, Int.reduceAdd, Nat.reduceBEq, Nat.reduceSub, Nat.reducePow, Int.reduceBEq, reduceCtorEq, E0P, E0hand, E0hard, E0row, E0nw, E0aown, E0glob, ↓reduceIte]
  all_goals rfl
noncomputable def s23_10 (s0 : Bs) (l3_0 : Bool) (l3_1 : List Bs) (from4 : Int) (at5 : Int) : Option ((Bs × Bool × List Bs × Int × Int) ⊕ R23) :=
  if (decide (at5 ≤ (s0.length : Int))) = true then
    if (decide (at5 < (s0.length : Int))) = true then
      if 0 ≤ at5 ∧ at5 < (s0.length : Int) then
        j23_21 s0 l3_0 l3_1 from4 at5 ((s0.getD at5.toNat 0) == (34 : UInt8))
      else none
    else
      j23_21 s0 l3_0 l3_1 from4 at5 false
  else
    (j23_41 l3_0 l3_1).map .inr
set_option maxRecDepth 100000 in
theorem s23_10_t (s0 : Bs) (l3_0 : Bool) (l3_1 : List Bs) (from4 : Int) (at5 : Int) :
    stepE (K23_10 (mm := mm)) (loopF (E0 mm) 23 0 (callW (E0 mm)) itW c23_11 [(0, .keep), (3, .own), (4, .keep), (5, .keep)] (none, [.v (.c (.d (.sc (.string (S s0))))), .v (.c (.own l3_0 (enL en0 l3_1) 0)), .v (.c (.d (.sc (.int .i64 from4)))), .v (.c (.d (.sc (.int .i64 at5))))], [.row l3_1.length (rz l3_0 1)])) = (s23_10 s0 l3_0 l3_1 from4 at5).map (sm en23_10 e23) := by
  simp -implicitDefEqProofs only [s23_10, loopF_eq, c23_11_e, c23_12_e, c23_13_r, (show opsOf c23_13 = _ :: _ from rfl), Tryd.underlying9, (show c23_14 = Code.cond _ c23_15 c23_16 from rfl), setA, setB, String.reduceBEq, Nat.reduceEqDiff, Int.reduceEq, Nat.reduceAdd, Nat.reduceLeDiff, Nat.reduceLT, Int.reduceLE, Int.reduceLT, Int.reduceToNat, Int.reduceNegSucc, Nat.reduceMul, Int.reduceAdd, Nat.reduceBEq, Nat.reduceSub, Nat.reducePow, Int.reduceBEq, reduceCtorEq, E0P, E0hand, E0hard, E0row, E0nw, E0aown, E0glob, ↓reduceIte]
  refine brB (fun yc1 => ?_) (fun yc1 => ?_)
  · simp -implicitDefEqProofs only [c23_15_e, c23_17_e, c23_18_e, c23_19_e, c23_20_r, (show opsOf c23_20 = _ :: _ from rfl), Tryd.underlying9, yc1, setA, setB, String.reduceBEq, Nat.reduceEqDiff, Int.reduceEq, Nat.reduceAdd, Nat.reduceLeDiff, Nat.reduceLT, Int.reduceLE, Int.reduceLT, Int.reduceToNat, Int.reduceNegSucc, Nat.reduceMul, Int.reduceAdd, Nat.reduceBEq, Nat.reduceSub, Nat.reducePow, Int.reduceBEq, reduceCtorEq, E0P, E0hand, E0hard, E0row, E0nw, E0aown, E0glob, ↓reduceIte]
    refine brB (fun yc2 => ?_) (fun yc2 => ?_)
    · simp -implicitDefEqProofs only [Tryd.underlying9, yc1, yc2, setA, setB, String.reduceBEq, Nat.reduceEqDiff, Int.reduceEq, Nat.reduceAdd, Nat.reduceLeDiff, Nat.reduceLT, Int.reduceLE, Int.reduceLT, Int.reduceToNat, Int.reduceNegSucc, Nat.reduceMul, Int.reduceAdd, Nat.reduceBEq, Nat.reduceSub, Nat.reducePow, Int.reduceBEq, reduceCtorEq, E0P, E0hand, E0hard, E0row, E0nw, E0aown, E0glob, ↓reduceIte]
      refine brP (fun yc3 => ?_) (fun yc3 => ?_)
      · simp -implicitDefEqProofs only [yc1, yc2, yc3, setA, setB, String.reduceBEq, Nat.reduceEqDiff, Int.reduceEq, Nat.reduceAdd, Nat.reduceLeDiff, Nat.reduceLT, Int.reduceLE, Int.reduceLT, Int.reduceToNat, Int.reduceNegSucc, Nat.reduceMul, Int.reduceAdd, Nat.reduceBEq, Nat.reduceSub, Nat.reducePow, Int.reduceBEq, reduceCtorEq, E0P, E0hand, E0hard, E0row, E0nw, E0aown, E0glob, ↓reduceIte]
        exact j23_21_t s0 l3_0 l3_1 from4 at5 ((s0.getD at5.toNat 0) == (34 : UInt8)) _ (by rfl) (by rfl) (by rfl) (by rfl) (by rfl)
      · simp -implicitDefEqProofs only [yc1, yc2, yc3, setA, setB, String.reduceBEq, Nat.reduceEqDiff, Int.reduceEq, Nat.reduceAdd, Nat.reduceLeDiff, Nat.reduceLT, Int.reduceLE, Int.reduceLT, Int.reduceToNat, Int.reduceNegSucc, Nat.reduceMul, Int.reduceAdd, Nat.reduceBEq, Nat.reduceSub, Nat.reducePow, Int.reduceBEq, reduceCtorEq, E0P, E0hand, E0hard, E0row, E0nw, E0aown, E0glob, ↓reduceIte]
    · simp -implicitDefEqProofs only [yc1, yc2, setA, setB, String.reduceBEq, Nat.reduceEqDiff, Int.reduceEq, Nat.reduceAdd, Nat.reduceLeDiff, Nat.reduceLT, Int.reduceLE, Int.reduceLT, Int.reduceToNat, Int.reduceNegSucc, Nat.reduceMul, Int.reduceAdd, Nat.reduceBEq, Nat.reduceSub, Nat.reducePow, Int.reduceBEq, reduceCtorEq, E0P, E0hand, E0hard, E0row, E0nw, E0aown, E0glob, ↓reduceIte]
      exact j23_21_t s0 l3_0 l3_1 from4 at5 false _ (by rfl) (by rfl) (by rfl) (by rfl) (by rfl)
  · simp -implicitDefEqProofs only [c23_16_e, K23_10, yc1, setA, setB, String.reduceBEq, Nat.reduceEqDiff, Int.reduceEq, Nat.reduceAdd, Nat.reduceLeDiff, Nat.reduceLT, Int.reduceLE, Int.reduceLT, Int.reduceToNat, Int.reduceNegSucc, Nat.reduceMul, Int.reduceAdd, Nat.reduceBEq, Nat.reduceSub, Nat.reducePow, Int.reduceBEq, reduceCtorEq, E0P, E0hand, E0hard, E0row, E0nw, E0aown, E0glob, ↓reduceIte]
    exact mi (j23_41_t l3_0 l3_1 _ (by rfl))
noncomputable def l23_10 (s0 : Bs) (l3_0 : Bool) (l3_1 : List Bs) (from4 : Int) (at5 : Int) : Option R23 := iter (fun x : Bs × Bool × List Bs × Int × Int => s23_10 x.1 x.2.1 x.2.2.1 x.2.2.2.1 x.2.2.2.2) (s0, l3_0, l3_1, from4, at5)
theorem l23_10_t (s0 : Bs) (l3_0 : Bool) (l3_1 : List Bs) (from4 : Int) (at5 : Int) : bodyD (E0 mm) [.tmp 2] 0 false (seqD (E0 mm) 23 0 (callW (E0 mm)) itW c23_41 (blockD 0 (itW (loopF (E0 mm) 23 0 (callW (E0 mm)) itW c23_11 [(0, .keep), (3, .own), (4, .keep), (5, .keep)]) (none, [.v (.c (.d (.sc (.string (S s0))))), .v (.c (.own l3_0 (enL en0 l3_1) 0)), .v (.c (.d (.sc (.int .i64 from4)))), .v (.c (.d (.sc (.int .i64 at5))))], [.row l3_1.length (rz l3_0 1)])))) = (l23_10 s0 l3_0 l3_1 from4 at5).map e23 :=
  it_sim (K := (K23_10 (mm := mm))) rfl (enc := en23_10) (fun x => s23_10_t x.1 x.2.1 x.2.2.1 x.2.2.2.1 x.2.2.2.2) (s0, l3_0, l3_1, from4, at5)
noncomputable def m23 (s : Bs) : Option R23 :=
  l23_10 s true ([] : List Bs) (0 : Int) (0 : Int)
set_option maxRecDepth 100000 in
theorem f23_t (s : Bs) :
    callW (E0 mm) 23 [.c (.d (.sc (.string (S s))))] [] = (m23 s).map e23 := by
  rw [callW_run (body := c23_0) (res := [.tmp 2]) Tryd.func23 rfl rfl (by kernel_rfl)]
  simp -implicitDefEqProofs only [m23, slots1, c23_0_e, c23_1_r, (show opsOf c23_1 = _ :: _ from rfl), c23_2_e, c23_3_r, (show opsOf c23_3 = _ :: _ from rfl), c23_4_e, c23_5_r, (show opsOf c23_5 = _ :: _ from rfl), c23_6_e, c23_7_e, c23_8_r, (show opsOf c23_8 = _ :: _ from rfl), c23_9_e, c23_10_l, setA, setB, String.reduceBEq, Nat.reduceEqDiff, Int.reduceEq, Nat.reduceAdd, Nat.reduceLeDiff, Nat.reduceLT, Int.reduceLE, Int.reduceLT, Int.reduceToNat, Int.reduceNegSucc, Nat.reduceMul, Int.reduceAdd, Nat.reduceBEq, Nat.reduceSub, Nat.reducePow, Int.reduceBEq, reduceCtorEq, E0P, E0hand, E0hard, E0row, E0nw, E0aown, E0glob, ↓reduceIte]
  exact l23_10_t s true ([] : List Bs) (0 : Int) (0 : Int)
end
end Go.Proofs.YtcjkhdkfdnjhaaaDoor
