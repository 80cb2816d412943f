/- The Go functions as plain functions, and that the evaluator computes them. -/
import Derived.Test.YtbdjemdhjanffaaDoorFSays1
set_option linter.all false
set_option maxRecDepth 100000
namespace Go.Proofs.YtbdjemdhjanffaaDoor
open Go Go.Ab
open Nat renaming reduceEqDiff → za, reduceAdd → zb, reduceLeDiff → zc, reduceLT → zd, reduceMul → ze, reduceBEq → zf, reduceSub → zg, reducePow → zh
open Int renaming reduceEq → zi, reduceLE → zj, reduceLT → zk, reduceToNat → zl, reduceNegSucc → zm, reduceAdd → zn, reduceBEq → zo
open String renaming reduceBEq → zp
set_option maxHeartbeats 4000000
noncomputable section
variable {mm : Int}
noncomputable def c32_0 : Code := bodyOf Tryd.f32
def c32_1 := cA c32_0
def c32_2 := cB c32_0
def c32_3 := cA c32_2
def c32_4 := cB c32_2
def c32_5 := cA c32_4
def c32_6 := cA c32_5
def c32_7 := cB c32_5
def c32_8 := cA c32_7
def c32_9 := cA c32_8
def c32_10 := cA c32_9
def c32_11 := cA c32_10
def c32_12 := cB c32_10
def c32_13 := cA c32_12
def c32_14 := cB c32_12
def c32_15 := cB c32_9
def c32_16 := cA c32_15
def c32_17 := cA c32_16
def c32_18 := cA c32_17
def c32_19 := cB c32_17
def c32_20 := cA c32_19
def c32_21 := cB c32_19
def c32_22 := cB c32_15
def c32_23 := cB c32_4
def c32_24 := cA c32_23
def c32_25 := cB c32_23
theorem c32_0_e : c32_0 = .seq c32_1 c32_2 := rfl
theorem c32_1_r : RG (E0 mm) 32 c32_1 := rgN rfl
theorem c32_2_e : c32_2 = .seq c32_3 c32_4 := rfl
theorem c32_3_r : RG (E0 mm) 32 c32_3 := rgN rfl
theorem c32_4_e : c32_4 = .seq c32_5 c32_23 := rfl
theorem c32_5_e : c32_5 = .seq c32_6 c32_7 := rfl
theorem c32_6_r : RG (E0 mm) 32 c32_6 := rgN rfl
theorem c32_7_e : c32_7 = .block 0 c32_8 := rfl
theorem c32_8_l (m : Nat) (st : St) : den (E0 mm) 32 m (callW (E0 mm)) itW c32_8 none st = loopD itW (loopF (E0 mm) 32 m (callW (E0 mm)) itW c32_9 [(0, .keep), (3, .own), (4, .keep)]) (canon m [(0, .keep), (3, .own), (4, .keep)] st) := rfl
theorem c32_9_e : c32_9 = .seq c32_10 c32_15 := rfl
theorem c32_10_e : c32_10 = .seq c32_11 c32_12 := rfl
theorem c32_11_r : RG (E0 mm) 32 c32_11 := rgN rfl
theorem c32_13_e : c32_13 = .skip := rfl
theorem c32_14_e : c32_14 = .exit 0 := rfl
theorem c32_15_e : c32_15 = .seq c32_16 c32_22 := rfl
theorem c32_16_e : c32_16 = .block 1 c32_17 := rfl
theorem c32_17_e : c32_17 = .seq c32_18 c32_19 := rfl
theorem c32_18_r : RG (E0 mm) 32 c32_18 := rgN rfl
theorem c32_20_r : RG (E0 mm) 32 c32_20 := rgN rfl
theorem c32_21_r : RG (E0 mm) 32 c32_21 := rgN rfl
theorem c32_22_r : RG (E0 mm) 32 c32_22 := rgN rfl
theorem c32_23_e : c32_23 = .seq c32_24 c32_25 := rfl
theorem c32_24_r : RG (E0 mm) 32 c32_24 := rgN rfl
theorem c32_25_e : c32_25 = .ret := rfl
abbrev R32 := (Bs)
def e32 : R32 → AV × Heap := fun x => (.v (.c (.d (.sc (.string (S x))))), [])
def K32_8 : Option (Ex × St) → Option (AV × Heap) := fun r => bodyD (E0 mm) [.tmp 2] 0 false (seqD (E0 mm) 32 0 (callW (E0 mm)) itW c32_23 (blockD 0 (r)))
def en32_8 : (Bs × Bool × List UInt8 × Int) → X := fun x => (none, [.v (.c (.d (.sc (.string (S x.1))))), .v (.c (.own x.2.1 (enL enB x.2.2.1) 0)), .v (.c (.d (.sc (.int .i64 x.2.2.2))))], [.row x.2.2.1.length (rz x.2.1 1)])
def j32_22 (s0 : Bs) (b3_0 : Bool) (b3_1 : List UInt8) (i4 : Int) : Option ((Bs × Bool × List UInt8 × Int) ⊕ R32) :=
  some (.inl (s0, b3_0, b3_1, (w64 (i4 + 1))))
theorem j32_22_t (s0 : Bs) (b3_0 : Bool) (b3_1 : List UInt8) (i4 : Int)  (sl : Nat → AV) (zq0 : sl 0 = .v (.c (.d (.sc (.string (S s0)))))) (zq3 : sl 3 = .v (.c (.own b3_0 (enL enB b3_1) 0))) (zq4 : sl 4 = .v (.c (.d (.sc (.int .i64 i4))))) :
    stepE (K32_8 (mm := mm)) (loopK 0 [(0, .keep), (3, .own), (4, .keep)] (den (E0 mm) 32 0 (callW (E0 mm)) itW c32_22 none ⟨sl, [.row b3_1.length (rz b3_0 1)]⟩)) = (j32_22 s0 b3_0 b3_1 i4).map (sm en32_8 e32) := by
  simp -implicitDefEqProofs only [j32_22, c32_22_r, (show opsOf c32_22 = _ :: _ from rfl), zq0, zq3, zq4, setA, setB, za, zb, zc, zd, ze, zf, zg, zh, zi, zj, zk, zl, zm, zn, zo, zp, reduceCtorEq, zE, ↓reduceIte]
  all_goals rfl
def j32_19 (s0 : Bs) (b3_0 : Bool) (b3_1 : List UInt8) (i4 : Int) (t20 : Bool) : Option ((Bs × Bool × List UInt8 × Int) ⊕ R32) :=
  if t20 = true then
    if 0 ≤ i4 ∧ i4 < (s0.length : Int) then
      if (b3_1.length + 1) * 1 ≤ 140737488355328 then
        j32_22 s0 false (b3_1 ++ ([((s0.getD i4.toNat 0) + (32 : UInt8))] : List UInt8)) i4
      else none
    else none
  else
    if 0 ≤ i4 ∧ i4 < (s0.length : Int) then
      if (b3_1.length + 1) * 1 ≤ 140737488355328 then
        j32_22 s0 false (b3_1 ++ ([(s0.getD i4.toNat 0)] : List UInt8)) i4
      else none
    else none
theorem j32_19_t (s0 : Bs) (b3_0 : Bool) (b3_1 : List UInt8) (i4 : Int) (t20 : Bool)  (sl : Nat → AV) (zq0 : sl 0 = .v (.c (.d (.sc (.string (S s0)))))) (zq3 : sl 3 = .v (.c (.own b3_0 (enL enB b3_1) 0))) (zq4 : sl 4 = .v (.c (.d (.sc (.int .i64 i4))))) (zq20 : sl 20 = .v (.c (.d (.sc (.bool t20))))) :
    stepE (K32_8 (mm := mm)) (loopK 0 [(0, .keep), (3, .own), (4, .keep)] (seqD (E0 mm) 32 0 (callW (E0 mm)) itW c32_22 (blockD 1 (den (E0 mm) 32 0 (callW (E0 mm)) itW c32_19 none ⟨sl, [.row b3_1.length (rz b3_0 1)]⟩)))) = (j32_19 s0 b3_0 b3_1 i4 t20).map (sm en32_8 e32) := by
  simp -implicitDefEqProofs only [j32_19, (show c32_19 = Code.cond _ c32_20 c32_21 from rfl), zq0, zq3, zq4, zq20, setA, setB, za, zb, zc, zd, ze, zf, zg, zh, zi, zj, zk, zl, zm, zn, zo, zp, reduceCtorEq, zE, ↓reduceIte]
  refine brB (fun yc4 => ?_) (fun yc4 => ?_)
  · simp -implicitDefEqProofs only [c32_20_r, (show opsOf c32_20 = _ :: _ from rfl), Tryd.underlying9, zq0, zq3, zq4, zq20, yc4, setA, setB, za, zb, zc, zd, ze, zf, zg, zh, zi, zj, zk, zl, zm, zn, zo, zp, reduceCtorEq, zE, ↓reduceIte]
    refine brP (fun yc5 => ?_) (fun yc5 => ?_)
    · simp -implicitDefEqProofs only [Tryd.underlying36, sz5, zc5, hd41, nv42, rw43, ns21, ap36, zq0, zq3, zq4, zq20, yc4, yc5, setA, setB, za, zb, zc, zd, ze, zf, zg, zh, zi, zj, zk, zl, zm, zn, zo, zp, reduceCtorEq, zE, ↓reduceIte]
      refine brP (fun yc6 => ?_) (fun yc6 => ?_)
      · simp -implicitDefEqProofs only [zq0, zq3, zq4, zq20, yc4, yc5, yc6, setA, setB, za, zb, zc, zd, ze, zf, zg, zh, zi, zj, zk, zl, zm, zn, zo, zp, reduceCtorEq, zE, ↓reduceIte]
        exact j32_22_t s0 false (b3_1 ++ ([((s0.getD i4.toNat 0) + (32 : UInt8))] : List UInt8)) i4 _ (by exact zq0) (by rfl) (by exact zq4)
      · rw [if_neg yc6]; rfl
    · rw [if_neg yc5]; rfl
  · simp -implicitDefEqProofs only [c32_21_r, (show opsOf c32_21 = _ :: _ from rfl), Tryd.underlying9, zq0, zq3, zq4, zq20, yc4, setA, setB, za, zb, zc, zd, ze, zf, zg, zh, zi, zj, zk, zl, zm, zn, zo, zp, reduceCtorEq, zE, ↓reduceIte]
    refine brP (fun yc7 => ?_) (fun yc7 => ?_)
    · simp -implicitDefEqProofs only [Tryd.underlying36, sz5, zc5, hd44, nv45, rw46, ns21, ap36, zq0, zq3, zq4, zq20, yc4, yc7, setA, setB, za, zb, zc, zd, ze, zf, zg, zh, zi, zj, zk, zl, zm, zn, zo, zp, reduceCtorEq, zE, ↓reduceIte]
      refine brP (fun yc8 => ?_) (fun yc8 => ?_)
      · simp -implicitDefEqProofs only [zq0, zq3, zq4, zq20, yc4, yc7, yc8, setA, setB, za, zb, zc, zd, ze, zf, zg, zh, zi, zj, zk, zl, zm, zn, zo, zp, reduceCtorEq, zE, ↓reduceIte]
        exact j32_22_t s0 false (b3_1 ++ ([(s0.getD i4.toNat 0)] : List UInt8)) i4 _ (by exact zq0) (by rfl) (by exact zq4)
      · rw [if_neg yc8]; rfl
    · rw [if_neg yc7]; rfl
def j32_23 (b3_0 : Bool) (b3_1 : List UInt8) : Option R32 :=
  some b3_1
theorem j32_23_t (b3_0 : Bool) (b3_1 : List UInt8)  (sl : Nat → AV) (zq3 : sl 3 = .v (.c (.own b3_0 (enL enB b3_1) 0))) :
    bodyD (E0 mm) [.tmp 2] 0 false (den (E0 mm) 32 0 (callW (E0 mm)) itW c32_23 none ⟨sl, [.row b3_1.length (rz b3_0 1)]⟩) = (j32_23 b3_0 b3_1).map e32 := by
  simp -implicitDefEqProofs only [j32_23, c32_23_e, c32_24_r, (show opsOf c32_24 = _ :: _ from rfl), Tryd.underlying36, Tryd.underlying9, Tryd.underlying5, c32_25_e, zq3, setA, setB, za, zb, zc, zd, ze, zf, zg, zh, zi, zj, zk, zl, zm, zn, zo, zp, reduceCtorEq, zE, ↓reduceIte]
  all_goals rfl
def s32_8 (s0 : Bs) (b3_0 : Bool) (b3_1 : List UInt8) (i4 : Int) : Option ((Bs × Bool × List UInt8 × Int) ⊕ R32) :=
  if (decide (i4 < (s0.length : Int))) = true then
    if 0 ≤ i4 ∧ i4 < (s0.length : Int) then
      if (decide ((65 : UInt8) ≤ (s0.getD i4.toNat 0))) = true then
        j32_19 s0 b3_0 b3_1 i4 (decide ((s0.getD i4.toNat 0) ≤ (90 : UInt8)))
      else
        j32_19 s0 b3_0 b3_1 i4 false
    else none
  else
    (j32_23 b3_0 b3_1).map .inr
theorem s32_8_t (s0 : Bs) (b3_0 : Bool) (b3_1 : List UInt8) (i4 : Int) :
    stepE (K32_8 (mm := mm)) (loopF (E0 mm) 32 0 (callW (E0 mm)) itW c32_9 [(0, .keep), (3, .own), (4, .keep)] (none, [.v (.c (.d (.sc (.string (S s0))))), .v (.c (.own b3_0 (enL enB b3_1) 0)), .v (.c (.d (.sc (.int .i64 i4))))], [.row b3_1.length (rz b3_0 1)])) = (s32_8 s0 b3_0 b3_1 i4).map (sm en32_8 e32) := by
  simp -implicitDefEqProofs only [s32_8, loopF_eq, c32_9_e, c32_10_e, c32_11_r, (show opsOf c32_11 = _ :: _ from rfl), Tryd.underlying9, (show c32_12 = Code.cond _ c32_13 c32_14 from rfl), setA, setB, za, zb, zc, zd, ze, zf, zg, zh, zi, zj, zk, zl, zm, zn, zo, zp, reduceCtorEq, zE, ↓reduceIte]
  refine brB (fun yc1 => ?_) (fun yc1 => ?_)
  · simp -implicitDefEqProofs only [c32_13_e, c32_15_e, c32_16_e, c32_17_e, c32_18_r, (show opsOf c32_18 = _ :: _ from rfl), Tryd.underlying9, yc1, setA, setB, za, zb, zc, zd, ze, zf, zg, zh, zi, zj, zk, zl, zm, zn, zo, zp, reduceCtorEq, zE, ↓reduceIte]
    refine brP (fun yc2 => ?_) (fun yc2 => ?_)
    · simp -implicitDefEqProofs only [yc1, yc2, setA, setB, za, zb, zc, zd, ze, zf, zg, zh, zi, zj, zk, zl, zm, zn, zo, zp, reduceCtorEq, zE, ↓reduceIte]
      refine brB (fun yc3 => ?_) (fun yc3 => ?_)
      · simp -implicitDefEqProofs only [Tryd.underlying9, yc1, yc2, yc3, setA, setB, za, zb, zc, zd, ze, zf, zg, zh, zi, zj, zk, zl, zm, zn, zo, zp, reduceCtorEq, zE, ↓reduceIte]
        exact j32_19_t s0 b3_0 b3_1 i4 (decide ((s0.getD i4.toNat 0) ≤ (90 : UInt8))) _ (by rfl) (by rfl) (by rfl) (by rfl)
      · simp -implicitDefEqProofs only [yc1, yc2, yc3, setA, setB, za, zb, zc, zd, ze, zf, zg, zh, zi, zj, zk, zl, zm, zn, zo, zp, reduceCtorEq, zE, ↓reduceIte]
        exact j32_19_t s0 b3_0 b3_1 i4 false _ (by rfl) (by rfl) (by rfl) (by rfl)
    · rw [if_neg yc2]; rfl
  · simp -implicitDefEqProofs only [c32_14_e, K32_8, yc1, setA, setB, za, zb, zc, zd, ze, zf, zg, zh, zi, zj, zk, zl, zm, zn, zo, zp, reduceCtorEq, zE, ↓reduceIte]
    exact mi (j32_23_t b3_0 b3_1 _ (by rfl))
def l32_8 (s0 : Bs) (b3_0 : Bool) (b3_1 : List UInt8) (i4 : Int) : Option R32 := iter (fun x : (Bs × Bool × List UInt8 × Int) => s32_8 x.1 x.2.1 x.2.2.1 x.2.2.2) (s0, b3_0, b3_1, i4)
theorem l32_8_t (s0 : Bs) (b3_0 : Bool) (b3_1 : List UInt8) (i4 : Int) : bodyD (E0 mm) [.tmp 2] 0 false (seqD (E0 mm) 32 0 (callW (E0 mm)) itW c32_23 (blockD 0 (itW (loopF (E0 mm) 32 0 (callW (E0 mm)) itW c32_9 [(0, .keep), (3, .own), (4, .keep)]) (none, [.v (.c (.d (.sc (.string (S s0))))), .v (.c (.own b3_0 (enL enB b3_1) 0)), .v (.c (.d (.sc (.int .i64 i4))))], [.row b3_1.length (rz b3_0 1)])))) = (l32_8 s0 b3_0 b3_1 i4).map e32 :=
  it_sim (K := (K32_8 (mm := mm))) rfl (enc := en32_8) (fun x => s32_8_t x.1 x.2.1 x.2.2.1 x.2.2.2) (s0, b3_0, b3_1, i4)
def m32 (s : Bs) : Option R32 :=
  l32_8 s true ([] : List UInt8) (0 : Int)
theorem f32_t (s : Bs) :
    callW (E0 mm) 32 [.c (.d (.sc (.string (S s))))] [] = (m32 s).map e32 := by
  rw [callW_run (body := c32_0) (res := [.tmp 2]) Tryd.func32 rfl rfl (by kernel_rfl)]
  simp -implicitDefEqProofs only [m32, slots1, c32_0_e, c32_1_r, (show opsOf c32_1 = _ :: _ from rfl), c32_2_e, c32_3_r, (show opsOf c32_3 = _ :: _ from rfl), c32_4_e, c32_5_e, c32_6_r, (show opsOf c32_6 = _ :: _ from rfl), c32_7_e, c32_8_l, setA, setB, za, zb, zc, zd, ze, zf, zg, zh, zi, zj, zk, zl, zm, zn, zo, zp, reduceCtorEq, zE, ↓reduceIte]
  exact l32_8_t s true ([] : List UInt8) (0 : Int)
noncomputable def c31_0 : Code := bodyOf Tryd.f31
def c31_1 := cA c31_0
def c31_2 := cB c31_0
def c31_3 := cA c31_2
def c31_4 := cB c31_2
theorem c31_0_e : c31_0 = .seq c31_1 c31_2 := rfl
theorem c31_1_r : RG (E0 mm) 31 c31_1 := rgN rfl
theorem c31_2_e : c31_2 = .seq c31_3 c31_4 := rfl
theorem c31_3_r : RG (E0 mm) 31 c31_3 := rgN rfl
theorem c31_4_e : c31_4 = .ret := rfl
abbrev R31 := (Bool)
def e31 : R31 → AV × Heap := fun x => (.v (.c (.d (.sc (.bool x)))), [])
def m31 (a b : Bs) : Option R31 :=
  (m32 a).bind fun yr2 =>
    (m32 b).bind fun yr4 =>
      some (yr2 == yr4)
theorem f31_t (a b : Bs) :
    callW (E0 mm) 31 [.c (.d (.sc (.string (S a)))), .c (.d (.sc (.string (S b))))] [] = (m31 a b).map e31 := by
  rw [callW_run (body := c31_0) (res := [.tmp 4]) Tryd.func31 rfl rfl (by kernel_rfl)]
  simp -implicitDefEqProofs only [m31, slots2, c31_0_e, c31_1_r, (show opsOf c31_1 = _ :: _ from rfl), c31_2_e, c31_3_r, (show opsOf c31_3 = _ :: _ from rfl), ent32, prm32, f32_t, setA, setB, za, zb, zc, zd, ze, zf, zg, zh, zi, zj, zk, zl, zm, zn, zo, zp, reduceCtorEq, zE, ↓reduceIte]
  refine brM (fun yc1 => ?_) (fun yr2 yc1 => ?_)
  · rw [yc1]; rfl
  · simp -implicitDefEqProofs only [e32, ent32, prm32, f32_t, yc1, setA, setB, za, zb, zc, zd, ze, zf, zg, zh, zi, zj, zk, zl, zm, zn, zo, zp, reduceCtorEq, zE, ↓reduceIte]
    refine brM (fun yc3 => ?_) (fun yr4 yc3 => ?_)
    · rw [yc3]; rfl
    · simp -implicitDefEqProofs only [e32, c31_4_e, yc1, yc3, setA, setB, za, zb, zc, zd, ze, zf, zg, zh, zi, zj, zk, zl, zm, zn, zo, zp, reduceCtorEq, zE, ↓reduceIte]
      all_goals rfl
noncomputable def c48_0 : Code := bodyOf Tryd.f48
def c48_1 := cA c48_0
def c48_2 := cB c48_0
def c48_3 := cA c48_2
def c48_4 := cB c48_2
def c48_5 := cA c48_4
def c48_6 := cA c48_5
def c48_7 := cA c48_6
def c48_8 := cA c48_7
def c48_9 := cA c48_8
def c48_10 := cB c48_8
def c48_11 := cA c48_10
def c48_12 := cB c48_10
def c48_13 := cB c48_7
def c48_14 := cA c48_13
def c48_15 := cA c48_14
def c48_16 := cA c48_15
def c48_17 := cB c48_15
def c48_18 := cA c48_17
def c48_19 := cB c48_17
def c48_20 := cB c48_14
def c48_21 := cB c48_4
def c48_22 := cA c48_21
def c48_23 := cA c48_22
def c48_24 := cB c48_22
def c48_25 := cA c48_24
def c48_26 := cA c48_25
def c48_27 := cB c48_25
def c48_28 := cB c48_24
def c48_29 := cB c48_21
def c48_30 := cA c48_29
def c48_31 := cB c48_29
theorem c48_0_e : c48_0 = .seq c48_1 c48_2 := rfl
theorem c48_1_r : RG (E0 mm) 48 c48_1 := rgN rfl
theorem c48_2_e : c48_2 = .seq c48_3 c48_4 := rfl
theorem c48_3_r : RG (E0 mm) 48 c48_3 := rgN rfl
theorem c48_4_e : c48_4 = .seq c48_5 c48_21 := rfl
theorem c48_5_e : c48_5 = .block 0 c48_6 := rfl
theorem c48_6_l (m : Nat) (st : St) : den (E0 mm) 48 m (callW (E0 mm)) itW c48_6 none st = loopD itW (loopF (E0 mm) 48 m (callW (E0 mm)) itW c48_7 [(0, .keep), (1, .keep)]) (canon m [(0, .keep), (1, .keep)] st) := rfl
theorem c48_7_e : c48_7 = .seq c48_8 c48_13 := rfl
theorem c48_8_e : c48_8 = .seq c48_9 c48_10 := rfl
theorem c48_9_r : RG (E0 mm) 48 c48_9 := rgN rfl
theorem c48_11_e : c48_11 = .skip := rfl
theorem c48_12_e : c48_12 = .exit 0 := rfl
theorem c48_13_e : c48_13 = .block 1 c48_14 := rfl
theorem c48_14_e : c48_14 = .seq c48_15 c48_20 := rfl
theorem c48_15_e : c48_15 = .seq c48_16 c48_17 := rfl
theorem c48_16_r : RG (E0 mm) 48 c48_16 := rgN rfl
theorem c48_18_r : RG (E0 mm) 48 c48_18 := rgN rfl
theorem c48_19_e : c48_19 = .skip := rfl
theorem c48_20_r : RG (E0 mm) 48 c48_20 := rgN rfl
theorem c48_21_e : c48_21 = .seq c48_22 c48_29 := rfl
theorem c48_22_e : c48_22 = .seq c48_23 c48_24 := rfl
theorem c48_23_r : RG (E0 mm) 48 c48_23 := rgN rfl
theorem c48_25_e : c48_25 = .seq c48_26 c48_27 := rfl
theorem c48_26_r : RG (E0 mm) 48 c48_26 := rgN rfl
theorem c48_27_e : c48_27 = .ret := rfl
theorem c48_28_e : c48_28 = .skip := rfl
theorem c48_29_e : c48_29 = .seq c48_30 c48_31 := rfl
theorem c48_30_r : RG (E0 mm) 48 c48_30 := rgN rfl
theorem c48_31_e : c48_31 = .ret := rfl
abbrev R48 := (Int)
def e48 : R48 → AV × Heap := fun x => (.v (.c (.d (.sc (.int .i64 x)))), [])
def K48_6 : Option (Ex × St) → Option (AV × Heap) := fun r => bodyD (E0 mm) [.tmp 4] 0 false (seqD (E0 mm) 48 0 (callW (E0 mm)) itW c48_21 (blockD 0 (r)))
def en48_6 : (Bs × Int) → X := fun x => (none, [.v (.c (.d (.sc (.string (S x.1))))), .v (.c (.d (.sc (.int .i64 x.2))))], [])
def j48_20 (s0 : Bs) (at1 : Int) : Option ((Bs × Int) ⊕ R48) :=
  some (.inl (s0, (w64 (at1 + 1))))
theorem j48_20_t (s0 : Bs) (at1 : Int)  (sl : Nat → AV) (zq0 : sl 0 = .v (.c (.d (.sc (.string (S s0)))))) (zq1 : sl 1 = .v (.c (.d (.sc (.int .i64 at1))))) :
    stepE (K48_6 (mm := mm)) (loopK 0 [(0, .keep), (1, .keep)] (blockD 1 (den (E0 mm) 48 0 (callW (E0 mm)) itW c48_20 none ⟨sl, []⟩))) = (j48_20 s0 at1).map (sm en48_6 e48) := by
  simp -implicitDefEqProofs only [j48_20, c48_20_r, (show opsOf c48_20 = _ :: _ from rfl), zq0, zq1, setA, setB, za, zb, zc, zd, ze, zf, zg, zh, zi, zj, zk, zl, zm, zn, zo, zp, reduceCtorEq, zE, ↓reduceIte]
  all_goals rfl
def j48_21 (s0 : Bs) (at1 : Int) : Option R48 :=
  if (decide ((s0.length : Int) ≤ at1)) = true then
    some (s0.length : Int)
  else
    some (w64 (at1 + 1))
theorem j48_21_t (s0 : Bs) (at1 : Int)  (sl : Nat → AV) (zq0 : sl 0 = .v (.c (.d (.sc (.string (S s0)))))) (zq1 : sl 1 = .v (.c (.d (.sc (.int .i64 at1))))) :
    bodyD (E0 mm) [.tmp 4] 0 false (den (E0 mm) 48 0 (callW (E0 mm)) itW c48_21 none ⟨sl, []⟩) = (j48_21 s0 at1).map e48 := by
  simp -implicitDefEqProofs only [j48_21, c48_21_e, c48_22_e, c48_23_r, (show opsOf c48_23 = _ :: _ from rfl), Tryd.underlying9, (show c48_24 = Code.cond _ c48_25 c48_28 from rfl), zq0, zq1, setA, setB, za, zb, zc, zd, ze, zf, zg, zh, zi, zj, zk, zl, zm, zn, zo, zp, reduceCtorEq, zE, ↓reduceIte]
  refine brB (fun yc6 => ?_) (fun yc6 => ?_)
  · simp -implicitDefEqProofs only [c48_25_e, c48_26_r, (show opsOf c48_26 = _ :: _ from rfl), Tryd.underlying9, c48_27_e, zq0, zq1, yc6, setA, setB, za, zb, zc, zd, ze, zf, zg, zh, zi, zj, zk, zl, zm, zn, zo, zp, reduceCtorEq, zE, ↓reduceIte]
    all_goals rfl
  · simp -implicitDefEqProofs only [c48_28_e, c48_29_e, c48_30_r, (show opsOf c48_30 = _ :: _ from rfl), c48_31_e, zq0, zq1, yc6, setA, setB, za, zb, zc, zd, ze, zf, zg, zh, zi, zj, zk, zl, zm, zn, zo, zp, reduceCtorEq, zE, ↓reduceIte]
    all_goals rfl
def j48_10 (s0 : Bs) (at1 : Int) (t16 : Bool) : Option ((Bs × Int) ⊕ R48) :=
  if t16 = true then
    if 0 ≤ at1 ∧ at1 < (s0.length : Int) then
      if ((s0.getD at1.toNat 0) == (92 : UInt8)) = true then
        j48_20 s0 (w64 (at1 + 1))
      else
        j48_20 s0 at1
    else none
  else
    (j48_21 s0 at1).map .inr
theorem j48_10_t (s0 : Bs) (at1 : Int) (t16 : Bool)  (sl : Nat → AV) (zq0 : sl 0 = .v (.c (.d (.sc (.string (S s0)))))) (zq1 : sl 1 = .v (.c (.d (.sc (.int .i64 at1))))) (zq16 : sl 16 = .v (.c (.d (.sc (.bool t16))))) :
    stepE (K48_6 (mm := mm)) (loopK 0 [(0, .keep), (1, .keep)] (seqD (E0 mm) 48 0 (callW (E0 mm)) itW c48_13 (den (E0 mm) 48 0 (callW (E0 mm)) itW c48_10 none ⟨sl, []⟩))) = (j48_10 s0 at1 t16).map (sm en48_6 e48) := by
  simp -implicitDefEqProofs only [j48_10, (show c48_10 = Code.cond _ c48_11 c48_12 from rfl), zq0, zq1, zq16, setA, setB, za, zb, zc, zd, ze, zf, zg, zh, zi, zj, zk, zl, zm, zn, zo, zp, reduceCtorEq, zE, ↓reduceIte]
  refine brB (fun yc3 => ?_) (fun yc3 => ?_)
  · simp -implicitDefEqProofs only [c48_11_e, c48_13_e, c48_14_e, c48_15_e, c48_16_r, (show opsOf c48_16 = _ :: _ from rfl), Tryd.underlying9, zq0, zq1, zq16, yc3, setA, setB, za, zb, zc, zd, ze, zf, zg, zh, zi, zj, zk, zl, zm, zn, zo, zp, reduceCtorEq, zE, ↓reduceIte]
    refine brP (fun yc4 => ?_) (fun yc4 => ?_)
    · simp -implicitDefEqProofs only [(show c48_17 = Code.cond _ c48_18 c48_19 from rfl), zq0, zq1, zq16, yc3, yc4, setA, setB, za, zb, zc, zd, ze, zf, zg, zh, zi, zj, zk, zl, zm, zn, zo, zp, reduceCtorEq, zE, ↓reduceIte]
      refine brB (fun yc5 => ?_) (fun yc5 => ?_)
      · simp -implicitDefEqProofs only [c48_18_r, (show opsOf c48_18 = _ :: _ from rfl), zq0, zq1, zq16, yc3, yc4, yc5, setA, setB, za, zb, zc, zd, ze, zf, zg, zh, zi, zj, zk, zl, zm, zn, zo, zp, reduceCtorEq, zE, ↓reduceIte]
        exact j48_20_t s0 (w64 (at1 + 1)) _ (by exact zq0) (by rfl)
      · simp -implicitDefEqProofs only [c48_19_e, zq0, zq1, zq16, yc3, yc4, yc5, setA, setB, za, zb, zc, zd, ze, zf, zg, zh, zi, zj, zk, zl, zm, zn, zo, zp, reduceCtorEq, zE, ↓reduceIte]
        exact j48_20_t s0 at1 _ (by exact zq0) (by exact zq1)
    · rw [if_neg yc4]; rfl
  · simp -implicitDefEqProofs only [c48_12_e, K48_6, zq0, zq1, zq16, yc3, setA, setB, za, zb, zc, zd, ze, zf, zg, zh, zi, zj, zk, zl, zm, zn, zo, zp, reduceCtorEq, zE, ↓reduceIte]
    exact mi (j48_21_t s0 at1 _ (by exact zq0) (by exact zq1))
def s48_6 (s0 : Bs) (at1 : Int) : Option ((Bs × Int) ⊕ R48) :=
  if (decide (at1 < (s0.length : Int))) = true then
    if 0 ≤ at1 ∧ at1 < (s0.length : Int) then
      j48_10 s0 at1 (!((s0.getD at1.toNat 0) == (34 : UInt8)))
    else none
  else
    j48_10 s0 at1 false
theorem s48_6_t (s0 : Bs) (at1 : Int) :
    stepE (K48_6 (mm := mm)) (loopF (E0 mm) 48 0 (callW (E0 mm)) itW c48_7 [(0, .keep), (1, .keep)] (none, [.v (.c (.d (.sc (.string (S s0))))), .v (.c (.d (.sc (.int .i64 at1))))], [])) = (s48_6 s0 at1).map (sm en48_6 e48) := by
  simp -implicitDefEqProofs only [s48_6, loopF_eq, c48_7_e, c48_8_e, c48_9_r, (show opsOf c48_9 = _ :: _ from rfl), Tryd.underlying9, setA, setB, za, zb, zc, zd, ze, zf, zg, zh, zi, zj, zk, zl, zm, zn, zo, zp, reduceCtorEq, zE, ↓reduceIte]
  refine brB (fun yc1 => ?_) (fun yc1 => ?_)
  · simp -implicitDefEqProofs only [Tryd.underlying9, yc1, setA, setB, za, zb, zc, zd, ze, zf, zg, zh, zi, zj, zk, zl, zm, zn, zo, zp, reduceCtorEq, zE, ↓reduceIte]
    refine brP (fun yc2 => ?_) (fun yc2 => ?_)
    · simp -implicitDefEqProofs only [yc1, yc2, setA, setB, za, zb, zc, zd, ze, zf, zg, zh, zi, zj, zk, zl, zm, zn, zo, zp, reduceCtorEq, zE, ↓reduceIte]
      exact j48_10_t s0 at1 (!((s0.getD at1.toNat 0) == (34 : UInt8))) _ (by rfl) (by rfl) (by rfl)
    · rw [if_neg yc2]; rfl
  · simp -implicitDefEqProofs only [yc1, setA, setB, za, zb, zc, zd, ze, zf, zg, zh, zi, zj, zk, zl, zm, zn, zo, zp, reduceCtorEq, zE, ↓reduceIte]
    exact j48_10_t s0 at1 false _ (by rfl) (by rfl) (by rfl)
def l48_6 (s0 : Bs) (at1 : Int) : Option R48 := iter (fun x : (Bs × Int) => s48_6 x.1 x.2) (s0, at1)
theorem l48_6_t (s0 : Bs) (at1 : Int) : bodyD (E0 mm) [.tmp 4] 0 false (seqD (E0 mm) 48 0 (callW (E0 mm)) itW c48_21 (blockD 0 (itW (loopF (E0 mm) 48 0 (callW (E0 mm)) itW c48_7 [(0, .keep), (1, .keep)]) (none, [.v (.c (.d (.sc (.string (S s0))))), .v (.c (.d (.sc (.int .i64 at1))))], [])))) = (l48_6 s0 at1).map e48 :=
  it_sim (K := (K48_6 (mm := mm))) rfl (enc := en48_6) (fun x => s48_6_t x.1 x.2) (s0, at1)
def m48 (s : Bs) (xat : Int) : Option R48 :=
  l48_6 s (w64 (xat + 1))
theorem f48_t (s : Bs) (xat : Int) :
    callW (E0 mm) 48 [.c (.d (.sc (.string (S s)))), .c (.d (.sc (.int .i64 xat)))] [] = (m48 s xat).map e48 := by
  rw [callW_run (body := c48_0) (res := [.tmp 4]) Tryd.func48 rfl rfl (by kernel_rfl)]
  simp -implicitDefEqProofs only [m48, slots2, c48_0_e, c48_1_r, (show opsOf c48_1 = _ :: _ from rfl), c48_2_e, c48_3_r, (show opsOf c48_3 = _ :: _ from rfl), c48_4_e, c48_5_e, c48_6_l, setA, setB, za, zb, zc, zd, ze, zf, zg, zh, zi, zj, zk, zl, zm, zn, zo, zp, reduceCtorEq, zE, ↓reduceIte]
  exact l48_6_t s (w64 (xat + 1))
noncomputable def c49_0 : Code := bodyOf Tryd.f49
def c49_1 := cA c49_0
def c49_2 := cB c49_0
def c49_3 := cA c49_2
def c49_4 := cB c49_2
def c49_5 := cA c49_4
def c49_6 := cA c49_5
def c49_7 := cA c49_6
def c49_8 := cA c49_7
def c49_9 := cA c49_8
def c49_10 := cB c49_8
def c49_11 := cA c49_10
def c49_12 := cB c49_10
def c49_13 := cB c49_7
def c49_14 := cA c49_13
def c49_15 := cB c49_4
def c49_16 := cA c49_15
def c49_17 := cA c49_16
def c49_18 := cA c49_17
def c49_19 := cA c49_18
def c49_20 := cA c49_19
def c49_21 := cB c49_19
def c49_22 := cA c49_21
def c49_23 := cB c49_21
def c49_24 := cB c49_18
def c49_25 := cA c49_24
def c49_26 := cB c49_15
def c49_27 := cA c49_26
def c49_28 := cB c49_26
theorem c49_0_e : c49_0 = .seq c49_1 c49_2 := rfl
theorem c49_1_r : RG (E0 mm) 49 c49_1 := rgN rfl
theorem c49_2_e : c49_2 = .seq c49_3 c49_4 := rfl
theorem c49_3_r : RG (E0 mm) 49 c49_3 := rgN rfl
theorem c49_4_e : c49_4 = .seq c49_5 c49_15 := rfl
theorem c49_5_e : c49_5 = .block 0 c49_6 := rfl
theorem c49_6_l (m : Nat) (st : St) : den (E0 mm) 49 m (callW (E0 mm)) itW c49_6 none st = loopD itW (loopF (E0 mm) 49 m (callW (E0 mm)) itW c49_7 [(0, .keep), (3, .keep), (4, .keep)]) (canon m [(0, .keep), (3, .keep), (4, .keep)] st) := rfl
theorem c49_7_e : c49_7 = .seq c49_8 c49_13 := rfl
theorem c49_8_e : c49_8 = .seq c49_9 c49_10 := rfl
theorem c49_9_r : RG (E0 mm) 49 c49_9 := rgN rfl
theorem c49_11_e : c49_11 = .skip := rfl
theorem c49_12_e : c49_12 = .exit 0 := rfl
theorem c49_13_e : c49_13 = .block 1 c49_14 := rfl
theorem c49_14_r : RG (E0 mm) 49 c49_14 := rgN rfl
theorem c49_15_e : c49_15 = .seq c49_16 c49_26 := rfl
theorem c49_16_e : c49_16 = .block 2 c49_17 := rfl
theorem c49_17_l (m : Nat) (st : St) : den (E0 mm) 49 m (callW (E0 mm)) itW c49_17 none st = loopD itW (loopF (E0 mm) 49 m (callW (E0 mm)) itW c49_18 [(0, .keep), (3, .keep), (4, .keep)]) (canon m [(0, .keep), (3, .keep), (4, .keep)] st) := rfl
theorem c49_18_e : c49_18 = .seq c49_19 c49_24 := rfl
theorem c49_19_e : c49_19 = .seq c49_20 c49_21 := rfl
theorem c49_20_r : RG (E0 mm) 49 c49_20 := rgN rfl
theorem c49_22_e : c49_22 = .skip := rfl
theorem c49_23_e : c49_23 = .exit 2 := rfl
theorem c49_24_e : c49_24 = .block 3 c49_25 := rfl
theorem c49_25_r : RG (E0 mm) 49 c49_25 := rgN rfl
theorem c49_26_e : c49_26 = .seq c49_27 c49_28 := rfl
theorem c49_27_r : RG (E0 mm) 49 c49_27 := rgN rfl
theorem c49_28_e : c49_28 = .ret := rfl
abbrev R49 := (Bs)
def e49 : R49 → AV × Heap := fun x => (.v (.c (.d (.sc (.string (S x))))), [])
def K49_6 : Option (Ex × St) → Option (AV × Heap) := fun r => bodyD (E0 mm) [.tmp 2] 0 false (seqD (E0 mm) 49 0 (callW (E0 mm)) itW c49_15 (blockD 0 (r)))
def en49_6 : (Bs × Int × Int) → X := fun x => (none, [.v (.c (.d (.sc (.string (S x.1))))), .v (.c (.d (.sc (.int .i64 x.2.1)))), .v (.c (.d (.sc (.int .i64 x.2.2))))], [])
def K49_17 : Option (Ex × St) → Option (AV × Heap) := fun r => bodyD (E0 mm) [.tmp 2] 0 false (seqD (E0 mm) 49 0 (callW (E0 mm)) itW c49_26 (blockD 2 (r)))
def en49_17 : (Bs × Int × Int) → X := fun x => (none, [.v (.c (.d (.sc (.string (S x.1))))), .v (.c (.d (.sc (.int .i64 x.2.1)))), .v (.c (.d (.sc (.int .i64 x.2.2))))], [])
def j49_26 (s0 : Bs) (from3 to4 : Int) : Option R49 :=
  (bnd to4 s0.length).bind fun yk10 =>
    (bnd from3 yk10).bind fun yk12 =>
      some ((s0.take yk10).drop yk12)
theorem j49_26_t (s0 : Bs) (from3 to4 : Int)  (sl : Nat → AV) (zq0 : sl 0 = .v (.c (.d (.sc (.string (S s0)))))) (zq3 : sl 3 = .v (.c (.d (.sc (.int .i64 from3))))) (zq4 : sl 4 = .v (.c (.d (.sc (.int .i64 to4))))) :
    bodyD (E0 mm) [.tmp 2] 0 false (den (E0 mm) 49 0 (callW (E0 mm)) itW c49_26 none ⟨sl, []⟩) = (j49_26 s0 from3 to4).map e49 := by
  simp -implicitDefEqProofs only [j49_26, c49_26_e, c49_27_r, (show opsOf c49_27 = _ :: _ from rfl), Tryd.underlying9, zq0, zq3, zq4, setA, setB, za, zb, zc, zd, ze, zf, zg, zh, zi, zj, zk, zl, zm, zn, zo, zp, reduceCtorEq, zE, ↓reduceIte]
  refine brM (fun yc9 => ?_) (fun yk10 yc9 => ?_)
  · rw [yc9]; rfl
  · simp -implicitDefEqProofs only [zq0, zq3, zq4, yc9, setA, setB, za, zb, zc, zd, ze, zf, zg, zh, zi, zj, zk, zl, zm, zn, zo, zp, reduceCtorEq, zE, ↓reduceIte]
    refine brM (fun yc11 => ?_) (fun yk12 yc11 => ?_)
    · rw [yc11]; rfl
    · simp -implicitDefEqProofs only [c49_28_e, zq0, zq3, zq4, yc9, yc11, setA, setB, za, zb, zc, zd, ze, zf, zg, zh, zi, zj, zk, zl, zm, zn, zo, zp, reduceCtorEq, zE, ↓reduceIte]
      all_goals rfl
def j49_21 (s0 : Bs) (from3 to4 : Int) (t40 : Bool) : Option ((Bs × Int × Int) ⊕ R49) :=
  if t40 = true then
    some (.inl (s0, from3, (w64 (to4 - 1))))
  else
    (j49_26 s0 from3 to4).map .inr
theorem j49_21_t (s0 : Bs) (from3 to4 : Int) (t40 : Bool)  (sl : Nat → AV) (zq0 : sl 0 = .v (.c (.d (.sc (.string (S s0)))))) (zq3 : sl 3 = .v (.c (.d (.sc (.int .i64 from3))))) (zq4 : sl 4 = .v (.c (.d (.sc (.int .i64 to4))))) (zq40 : sl 40 = .v (.c (.d (.sc (.bool t40))))) :
    stepE (K49_17 (mm := mm)) (loopK 0 [(0, .keep), (3, .keep), (4, .keep)] (seqD (E0 mm) 49 0 (callW (E0 mm)) itW c49_24 (den (E0 mm) 49 0 (callW (E0 mm)) itW c49_21 none ⟨sl, []⟩))) = (j49_21 s0 from3 to4 t40).map (sm en49_17 e49) := by
  simp -implicitDefEqProofs only [j49_21, (show c49_21 = Code.cond _ c49_22 c49_23 from rfl), zq0, zq3, zq4, zq40, setA, setB, za, zb, zc, zd, ze, zf, zg, zh, zi, zj, zk, zl, zm, zn, zo, zp, reduceCtorEq, zE, ↓reduceIte]
  refine brB (fun yc8 => ?_) (fun yc8 => ?_)
  · simp -implicitDefEqProofs only [c49_22_e, c49_24_e, c49_25_r, (show opsOf c49_25 = _ :: _ from rfl), zq0, zq3, zq4, zq40, yc8, setA, setB, za, zb, zc, zd, ze, zf, zg, zh, zi, zj, zk, zl, zm, zn, zo, zp, reduceCtorEq, zE, ↓reduceIte]
    all_goals rfl
  · simp -implicitDefEqProofs only [c49_23_e, K49_17, zq0, zq3, zq4, zq40, yc8, setA, setB, za, zb, zc, zd, ze, zf, zg, zh, zi, zj, zk, zl, zm, zn, zo, zp, reduceCtorEq, zE, ↓reduceIte]
    exact mi (j49_26_t s0 from3 to4 _ (by exact zq0) (by exact zq3) (by exact zq4))
def s49_17 (s0 : Bs) (from3 to4 : Int) : Option ((Bs × Int × Int) ⊕ R49) :=
  if (decide (from3 < to4)) = true then
    if 0 ≤ (w64 (to4 - 1)) ∧ (w64 (to4 - 1)) < (s0.length : Int) then
      if ((s0.getD (w64 (to4 - 1)).toNat 0) == (32 : UInt8)) = true then
        j49_21 s0 from3 to4 true
      else
        j49_21 s0 from3 to4 ((s0.getD (w64 (to4 - 1)).toNat 0) == (9 : UInt8))
    else none
  else
    j49_21 s0 from3 to4 false
theorem s49_17_t (s0 : Bs) (from3 to4 : Int) :
    stepE (K49_17 (mm := mm)) (loopF (E0 mm) 49 0 (callW (E0 mm)) itW c49_18 [(0, .keep), (3, .keep), (4, .keep)] (none, [.v (.c (.d (.sc (.string (S s0))))), .v (.c (.d (.sc (.int .i64 from3)))), .v (.c (.d (.sc (.int .i64 to4))))], [])) = (s49_17 s0 from3 to4).map (sm en49_17 e49) := by
  simp -implicitDefEqProofs only [s49_17, loopF_eq, c49_18_e, c49_19_e, c49_20_r, (show opsOf c49_20 = _ :: _ from rfl), setA, setB, za, zb, zc, zd, ze, zf, zg, zh, zi, zj, zk, zl, zm, zn, zo, zp, reduceCtorEq, zE, ↓reduceIte]
  refine brB (fun yc5 => ?_) (fun yc5 => ?_)
  · simp -implicitDefEqProofs only [Tryd.underlying9, yc5, setA, setB, za, zb, zc, zd, ze, zf, zg, zh, zi, zj, zk, zl, zm, zn, zo, zp, reduceCtorEq, zE, ↓reduceIte]
    refine brP (fun yc6 => ?_) (fun yc6 => ?_)
    · simp -implicitDefEqProofs only [yc5, yc6, setA, setB, za, zb, zc, zd, ze, zf, zg, zh, zi, zj, zk, zl, zm, zn, zo, zp, reduceCtorEq, zE, ↓reduceIte]
      refine brB (fun yc7 => ?_) (fun yc7 => ?_)
      · simp -implicitDefEqProofs only [yc5, yc6, yc7, setA, setB, za, zb, zc, zd, ze, zf, zg, zh, zi, zj, zk, zl, zm, zn, zo, zp, reduceCtorEq, zE, ↓reduceIte]
        exact j49_21_t s0 from3 to4 true _ (by rfl) (by rfl) (by rfl) (by rfl)
      · simp -implicitDefEqProofs only [Tryd.underlying9, yc5, yc6, yc7, setA, setB, za, zb, zc, zd, ze, zf, zg, zh, zi, zj, zk, zl, zm, zn, zo, zp, reduceCtorEq, zE, ↓reduceIte]
        exact j49_21_t s0 from3 to4 ((s0.getD (w64 (to4 - 1)).toNat 0) == (9 : UInt8)) _ (by rfl) (by rfl) (by rfl) (by rfl)
    · rw [if_neg yc6]; rfl
  · simp -implicitDefEqProofs only [yc5, setA, setB, za, zb, zc, zd, ze, zf, zg, zh, zi, zj, zk, zl, zm, zn, zo, zp, reduceCtorEq, zE, ↓reduceIte]
    exact j49_21_t s0 from3 to4 false _ (by rfl) (by rfl) (by rfl) (by rfl)
def l49_17 (s0 : Bs) (from3 to4 : Int) : Option R49 := iter (fun x : (Bs × Int × Int) => s49_17 x.1 x.2.1 x.2.2) (s0, from3, to4)
theorem l49_17_t (s0 : Bs) (from3 to4 : Int) : bodyD (E0 mm) [.tmp 2] 0 false (seqD (E0 mm) 49 0 (callW (E0 mm)) itW c49_26 (blockD 2 (itW (loopF (E0 mm) 49 0 (callW (E0 mm)) itW c49_18 [(0, .keep), (3, .keep), (4, .keep)]) (none, [.v (.c (.d (.sc (.string (S s0))))), .v (.c (.d (.sc (.int .i64 from3)))), .v (.c (.d (.sc (.int .i64 to4))))], [])))) = (l49_17 s0 from3 to4).map e49 :=
  it_sim (K := (K49_17 (mm := mm))) rfl (enc := en49_17) (fun x => s49_17_t x.1 x.2.1 x.2.2) (s0, from3, to4)
def j49_15 (s0 : Bs) (from3 to4 : Int) : Option R49 :=
  l49_17 s0 from3 to4
theorem j49_15_t (s0 : Bs) (from3 to4 : Int)  (sl : Nat → AV) (zq0 : sl 0 = .v (.c (.d (.sc (.string (S s0)))))) (zq3 : sl 3 = .v (.c (.d (.sc (.int .i64 from3))))) (zq4 : sl 4 = .v (.c (.d (.sc (.int .i64 to4))))) :
    bodyD (E0 mm) [.tmp 2] 0 false (den (E0 mm) 49 0 (callW (E0 mm)) itW c49_15 none ⟨sl, []⟩) = (j49_15 s0 from3 to4).map e49 := by
  simp -implicitDefEqProofs only [j49_15, c49_15_e, c49_16_e, c49_17_l, zq0, zq3, zq4, setA, setB, za, zb, zc, zd, ze, zf, zg, zh, zi, zj, zk, zl, zm, zn, zo, zp, reduceCtorEq, zE, ↓reduceIte]
  exact l49_17_t s0 from3 to4
def j49_10 (s0 : Bs) (from3 to4 : Int) (t21 : Bool) : Option ((Bs × Int × Int) ⊕ R49) :=
  if t21 = true then
    some (.inl (s0, (w64 (from3 + 1)), to4))
  else
    (j49_15 s0 from3 to4).map .inr
theorem j49_10_t (s0 : Bs) (from3 to4 : Int) (t21 : Bool)  (sl : Nat → AV) (zq0 : sl 0 = .v (.c (.d (.sc (.string (S s0)))))) (zq3 : sl 3 = .v (.c (.d (.sc (.int .i64 from3))))) (zq4 : sl 4 = .v (.c (.d (.sc (.int .i64 to4))))) (zq21 : sl 21 = .v (.c (.d (.sc (.bool t21))))) :
    stepE (K49_6 (mm := mm)) (loopK 0 [(0, .keep), (3, .keep), (4, .keep)] (seqD (E0 mm) 49 0 (callW (E0 mm)) itW c49_13 (den (E0 mm) 49 0 (callW (E0 mm)) itW c49_10 none ⟨sl, []⟩))) = (j49_10 s0 from3 to4 t21).map (sm en49_6 e49) := by
  simp -implicitDefEqProofs only [j49_10, (show c49_10 = Code.cond _ c49_11 c49_12 from rfl), zq0, zq3, zq4, zq21, setA, setB, za, zb, zc, zd, ze, zf, zg, zh, zi, zj, zk, zl, zm, zn, zo, zp, reduceCtorEq, zE, ↓reduceIte]
  refine brB (fun yc4 => ?_) (fun yc4 => ?_)
  · simp -implicitDefEqProofs only [c49_11_e, c49_13_e, c49_14_r, (show opsOf c49_14 = _ :: _ from rfl), zq0, zq3, zq4, zq21, yc4, setA, setB, za, zb, zc, zd, ze, zf, zg, zh, zi, zj, zk, zl, zm, zn, zo, zp, reduceCtorEq, zE, ↓reduceIte]
    all_goals rfl
  · simp -implicitDefEqProofs only [c49_12_e, K49_6, zq0, zq3, zq4, zq21, yc4, setA, setB, za, zb, zc, zd, ze, zf, zg, zh, zi, zj, zk, zl, zm, zn, zo, zp, reduceCtorEq, zE, ↓reduceIte]
    exact mi (j49_15_t s0 from3 to4 _ (by exact zq0) (by exact zq3) (by exact zq4))
def s49_6 (s0 : Bs) (from3 to4 : Int) : Option ((Bs × Int × Int) ⊕ R49) :=
  if (decide (from3 < to4)) = true then
    if 0 ≤ from3 ∧ from3 < (s0.length : Int) then
      if ((s0.getD from3.toNat 0) == (32 : UInt8)) = true then
        j49_10 s0 from3 to4 true
      else
        j49_10 s0 from3 to4 ((s0.getD from3.toNat 0) == (9 : UInt8))
    else none
  else
    j49_10 s0 from3 to4 false
theorem s49_6_t (s0 : Bs) (from3 to4 : Int) :
    stepE (K49_6 (mm := mm)) (loopF (E0 mm) 49 0 (callW (E0 mm)) itW c49_7 [(0, .keep), (3, .keep), (4, .keep)] (none, [.v (.c (.d (.sc (.string (S s0))))), .v (.c (.d (.sc (.int .i64 from3)))), .v (.c (.d (.sc (.int .i64 to4))))], [])) = (s49_6 s0 from3 to4).map (sm en49_6 e49) := by
  simp -implicitDefEqProofs only [s49_6, loopF_eq, c49_7_e, c49_8_e, c49_9_r, (show opsOf c49_9 = _ :: _ from rfl), setA, setB, za, zb, zc, zd, ze, zf, zg, zh, zi, zj, zk, zl, zm, zn, zo, zp, reduceCtorEq, zE, ↓reduceIte]
  refine brB (fun yc1 => ?_) (fun yc1 => ?_)
  · simp -implicitDefEqProofs only [Tryd.underlying9, yc1, setA, setB, za, zb, zc, zd, ze, zf, zg, zh, zi, zj, zk, zl, zm, zn, zo, zp, reduceCtorEq, zE, ↓reduceIte]
    refine brP (fun yc2 => ?_) (fun yc2 => ?_)
    · simp -implicitDefEqProofs only [yc1, yc2, setA, setB, za, zb, zc, zd, ze, zf, zg, zh, zi, zj, zk, zl, zm, zn, zo, zp, reduceCtorEq, zE, ↓reduceIte]
      refine brB (fun yc3 => ?_) (fun yc3 => ?_)
      · simp -implicitDefEqProofs only [yc1, yc2, yc3, setA, setB, za, zb, zc, zd, ze, zf, zg, zh, zi, zj, zk, zl, zm, zn, zo, zp, reduceCtorEq, zE, ↓reduceIte]
        exact j49_10_t s0 from3 to4 true _ (by rfl) (by rfl) (by rfl) (by rfl)
      · simp -implicitDefEqProofs only [Tryd.underlying9, yc1, yc2, yc3, setA, setB, za, zb, zc, zd, ze, zf, zg, zh, zi, zj, zk, zl, zm, zn, zo, zp, reduceCtorEq, zE, ↓reduceIte]
        exact j49_10_t s0 from3 to4 ((s0.getD from3.toNat 0) == (9 : UInt8)) _ (by rfl) (by rfl) (by rfl) (by rfl)
    · rw [if_neg yc2]; rfl
  · simp -implicitDefEqProofs only [yc1, setA, setB, za, zb, zc, zd, ze, zf, zg, zh, zi, zj, zk, zl, zm, zn, zo, zp, reduceCtorEq, zE, ↓reduceIte]
    exact j49_10_t s0 from3 to4 false _ (by rfl) (by rfl) (by rfl) (by rfl)
def l49_6 (s0 : Bs) (from3 to4 : Int) : Option R49 := iter (fun x : (Bs × Int × Int) => s49_6 x.1 x.2.1 x.2.2) (s0, from3, to4)
theorem l49_6_t (s0 : Bs) (from3 to4 : Int) : bodyD (E0 mm) [.tmp 2] 0 false (seqD (E0 mm) 49 0 (callW (E0 mm)) itW c49_15 (blockD 0 (itW (loopF (E0 mm) 49 0 (callW (E0 mm)) itW c49_7 [(0, .keep), (3, .keep), (4, .keep)]) (none, [.v (.c (.d (.sc (.string (S s0))))), .v (.c (.d (.sc (.int .i64 from3)))), .v (.c (.d (.sc (.int .i64 to4))))], [])))) = (l49_6 s0 from3 to4).map e49 :=
  it_sim (K := (K49_6 (mm := mm))) rfl (enc := en49_6) (fun x => s49_6_t x.1 x.2.1 x.2.2) (s0, from3, to4)
def m49 (s : Bs) : Option R49 :=
  l49_6 s (0 : Int) (s.length : Int)
theorem f49_t (s : Bs) :
    callW (E0 mm) 49 [.c (.d (.sc (.string (S s))))] [] = (m49 s).map e49 := by
  rw [callW_run (body := c49_0) (res := [.tmp 2]) Tryd.func49 rfl rfl (by kernel_rfl)]
  simp -implicitDefEqProofs only [m49, slots1, c49_0_e, c49_1_r, (show opsOf c49_1 = _ :: _ from rfl), c49_2_e, c49_3_r, (show opsOf c49_3 = _ :: _ from rfl), Tryd.underlying9, c49_4_e, c49_5_e, c49_6_l, setA, setB, za, zb, zc, zd, ze, zf, zg, zh, zi, zj, zk, zl, zm, zn, zo, zp, reduceCtorEq, zE, ↓reduceIte]
  exact l49_6_t s (0 : Int) (s.length : Int)
noncomputable def c40_0 : Code := bodyOf Tryd.f40
def c40_1 := cA c40_0
def c40_2 := cB c40_0
def c40_3 := cA c40_2
def c40_4 := cB c40_2
def c40_5 := cA c40_4
def c40_6 := cB c40_4
def c40_7 := cA c40_6
def c40_8 := cA c40_7
def c40_9 := cB c40_7
def c40_10 := cA c40_9
def c40_11 := cA c40_10
def c40_12 := cA c40_11
def c40_13 := cA c40_12
def c40_14 := cB c40_12
def c40_15 := cA c40_14
def c40_16 := cB c40_14
def c40_17 := cB c40_11
def c40_18 := cA c40_17
def c40_19 := cA c40_18
def c40_20 := cA c40_19
def c40_21 := cB c40_19
def c40_22 := cA c40_21
def c40_23 := cA c40_22
def c40_24 := cB c40_22
def c40_25 := cB c40_21
def c40_26 := cB c40_18
def c40_27 := cA c40_26
def c40_28 := cA c40_27
def c40_29 := cB c40_27
def c40_30 := cA c40_29
def c40_31 := cA c40_30
def c40_32 := cB c40_30
def c40_33 := cA c40_32
def c40_34 := cA c40_33
def c40_35 := cB c40_33
def c40_36 := cA c40_35
def c40_37 := cB c40_35
def c40_38 := cB c40_32
def c40_39 := cB c40_29
def c40_40 := cB c40_26
def c40_41 := cB c40_6
def c40_42 := cA c40_41
def c40_43 := cB c40_41
theorem c40_0_e : c40_0 = .seq c40_1 c40_2 := rfl
theorem c40_1_r : RG (E0 mm) 40 c40_1 := rgN rfl
theorem c40_2_e : c40_2 = .seq c40_3 c40_4 := rfl
theorem c40_3_r : RG (E0 mm) 40 c40_3 := rgN rfl
theorem c40_4_e : c40_4 = .seq c40_5 c40_6 := rfl
theorem c40_5_r : RG (E0 mm) 40 c40_5 := rgN rfl
theorem c40_6_e : c40_6 = .seq c40_7 c40_41 := rfl
theorem c40_7_e : c40_7 = .seq c40_8 c40_9 := rfl
theorem c40_8_r : RG (E0 mm) 40 c40_8 := rgN rfl
theorem c40_9_e : c40_9 = .block 0 c40_10 := rfl
theorem c40_10_l (m : Nat) (st : St) : den (E0 mm) 40 m (callW (E0 mm)) itW c40_10 none st = loopD itW (loopF (E0 mm) 40 m (callW (E0 mm)) itW c40_11 [(0, .keep), (3, .own), (4, .keep), (5, .keep)]) (canon m [(0, .keep), (3, .own), (4, .keep), (5, .keep)] st) := rfl
theorem c40_11_e : c40_11 = .seq c40_12 c40_17 := rfl
theorem c40_12_e : c40_12 = .seq c40_13 c40_14 := rfl
theorem c40_13_r : RG (E0 mm) 40 c40_13 := rgN rfl
theorem c40_15_e : c40_15 = .skip := rfl
theorem c40_16_e : c40_16 = .exit 0 := rfl
theorem c40_17_e : c40_17 = .block 1 c40_18 := rfl
theorem c40_18_e : c40_18 = .seq c40_19 c40_26 := rfl
theorem c40_19_e : c40_19 = .seq c40_20 c40_21 := rfl
theorem c40_20_r : RG (E0 mm) 40 c40_20 := rgN rfl
theorem c40_22_e : c40_22 = .seq c40_23 c40_24 := rfl
theorem c40_23_r : RG (E0 mm) 40 c40_23 := rgN rfl
theorem c40_24_e : c40_24 = .exit 1 := rfl
theorem c40_25_e : c40_25 = .skip := rfl
theorem c40_26_e : c40_26 = .seq c40_27 c40_40 := rfl
theorem c40_27_e : c40_27 = .seq c40_28 c40_29 := rfl
theorem c40_28_r : RG (E0 mm) 40 c40_28 := rgN rfl
theorem c40_30_e : c40_30 = .seq c40_31 c40_32 := rfl
theorem c40_31_r : RG (E0 mm) 40 c40_31 := rgN rfl
theorem c40_32_e : c40_32 = .seq c40_33 c40_38 := rfl
theorem c40_33_e : c40_33 = .seq c40_34 c40_35 := rfl
theorem c40_34_r : RG (E0 mm) 40 c40_34 := rgN rfl
theorem c40_36_r : RG (E0 mm) 40 c40_36 := rgN rfl
theorem c40_37_e : c40_37 = .skip := rfl
theorem c40_38_r : RG (E0 mm) 40 c40_38 := rgN rfl
theorem c40_39_e : c40_39 = .skip := rfl
theorem c40_40_r : RG (E0 mm) 40 c40_40 := rgN rfl
theorem c40_41_e : c40_41 = .seq c40_42 c40_43 := rfl
theorem c40_42_r : RG (E0 mm) 40 c40_42 := rgN rfl
theorem c40_43_e : c40_43 = .ret := rfl
abbrev R40 := (Bool × List Bs)
def e40 : R40 → AV × Heap := fun x => (.v (.c (.own x.1 (enL enS x.2) 0)), [.row x.2.length (rz x.1 1)])
def K40_10 : Option (Ex × St) → Option (AV × Heap) := fun r => bodyD (E0 mm) [.tmp 2] 0 false (seqD (E0 mm) 40 0 (callW (E0 mm)) itW c40_41 (blockD 0 (r)))
def en40_10 : (Bs × Bool × List Bs × Int × Int) → X := fun x => (none, [.v (.c (.d (.sc (.string (S x.1))))), .v (.c (.own x.2.1 (enL enS x.2.2.1) 0)), .v (.c (.d (.sc (.int .i64 x.2.2.2.1)))), .v (.c (.d (.sc (.int .i64 x.2.2.2.2))))], [.row x.2.2.1.length (rz x.2.1 1)])
def j40_40 (s0 : Bs) (l3_0 : Bool) (l3_1 : List Bs) (from4 at5 : Int) : Option ((Bs × Bool × List Bs × Int × Int) ⊕ R40) :=
  some (.inl (s0, l3_0, l3_1, from4, (w64 (at5 + 1))))
theorem j40_40_t (s0 : Bs) (l3_0 : Bool) (l3_1 : List Bs) (from4 at5 : Int)  (sl : Nat → AV) (zq0 : sl 0 = .v (.c (.d (.sc (.string (S s0)))))) (zq3 : sl 3 = .v (.c (.own l3_0 (enL enS l3_1) 0))) (zq4 : sl 4 = .v (.c (.d (.sc (.int .i64 from4))))) (zq5 : sl 5 = .v (.c (.d (.sc (.int .i64 at5))))) :
    stepE (K40_10 (mm := mm)) (loopK 0 [(0, .keep), (3, .own), (4, .keep), (5, .keep)] (blockD 1 (den (E0 mm) 40 0 (callW (E0 mm)) itW c40_40 none ⟨sl, [.row l3_1.length (rz l3_0 1)]⟩))) = (j40_40 s0 l3_0 l3_1 from4 at5).map (sm en40_10 e40) := by
  simp -implicitDefEqProofs only [j40_40, c40_40_r, (show opsOf c40_40 = _ :: _ from rfl), zq0, zq3, zq4, zq5, setA, setB, za, zb, zc, zd, ze, zf, zg, zh, zi, zj, zk, zl, zm, zn, zo, zp, reduceCtorEq, zE, ↓reduceIte]
  all_goals rfl
def j40_38 (s0 : Bs) (l3_0 : Bool) (l3_1 : List Bs) (at5 : Int) : Option ((Bs × Bool × List Bs × Int × Int) ⊕ R40) :=
  j40_40 s0 l3_0 l3_1 (w64 (at5 + 1)) at5
theorem j40_38_t (s0 : Bs) (l3_0 : Bool) (l3_1 : List Bs) (at5 : Int)  (sl : Nat → AV) (zq0 : sl 0 = .v (.c (.d (.sc (.string (S s0)))))) (zq3 : sl 3 = .v (.c (.own l3_0 (enL enS l3_1) 0))) (zq5 : sl 5 = .v (.c (.d (.sc (.int .i64 at5))))) :
    stepE (K40_10 (mm := mm)) (loopK 0 [(0, .keep), (3, .own), (4, .keep), (5, .keep)] (blockD 1 (seqD (E0 mm) 40 0 (callW (E0 mm)) itW c40_40 (den (E0 mm) 40 0 (callW (E0 mm)) itW c40_38 none ⟨sl, [.row l3_1.length (rz l3_0 1)]⟩)))) = (j40_38 s0 l3_0 l3_1 at5).map (sm en40_10 e40) := by
  simp -implicitDefEqProofs only [j40_38, c40_38_r, (show opsOf c40_38 = _ :: _ from rfl), zq0, zq3, zq5, setA, setB, za, zb, zc, zd, ze, zf, zg, zh, zi, zj, zk, zl, zm, zn, zo, zp, reduceCtorEq, zE, ↓reduceIte]
  exact j40_40_t s0 l3_0 l3_1 (w64 (at5 + 1)) at5 _ (by exact zq0) (by exact zq3) (by rfl) (by exact zq5)
def j40_29 (s0 : Bs) (l3_0 : Bool) (l3_1 : List Bs) (from4 at5 : Int) (t33 : Bool) : Option ((Bs × Bool × List Bs × Int × Int) ⊕ R40) :=
  if t33 = true then
    (bnd at5 s0.length).bind fun yk10 =>
      (bnd from4 yk10).bind fun yk12 =>
        (m49 ((s0.take yk10).drop yk12)).bind fun yr14 =>
          if (yr14 == ([] : Bs)) = true then
            j40_38 s0 l3_0 l3_1 at5
          else
            if (l3_1.length + 1) * 16 ≤ 140737488355328 then
              j40_38 s0 false (l3_1 ++ ([yr14] : List Bs)) at5
            else none
  else
    j40_40 s0 l3_0 l3_1 from4 at5
theorem j40_29_t (s0 : Bs) (l3_0 : Bool) (l3_1 : List Bs) (from4 at5 : Int) (t33 : Bool)  (sl : Nat → AV) (zq0 : sl 0 = .v (.c (.d (.sc (.string (S s0)))))) (zq3 : sl 3 = .v (.c (.own l3_0 (enL enS l3_1) 0))) (zq4 : sl 4 = .v (.c (.d (.sc (.int .i64 from4))))) (zq5 : sl 5 = .v (.c (.d (.sc (.int .i64 at5))))) (zq33 : sl 33 = .v (.c (.d (.sc (.bool t33))))) :
    stepE (K40_10 (mm := mm)) (loopK 0 [(0, .keep), (3, .own), (4, .keep), (5, .keep)] (blockD 1 (seqD (E0 mm) 40 0 (callW (E0 mm)) itW c40_40 (den (E0 mm) 40 0 (callW (E0 mm)) itW c40_29 none ⟨sl, [.row l3_1.length (rz l3_0 1)]⟩)))) = (j40_29 s0 l3_0 l3_1 from4 at5 t33).map (sm en40_10 e40) := by
  simp -implicitDefEqProofs only [j40_29, (show c40_29 = Code.cond _ c40_30 c40_39 from rfl), zq0, zq3, zq4, zq5, zq33, setA, setB, za, zb, zc, zd, ze, zf, zg, zh, zi, zj, zk, zl, zm, zn, zo, zp, reduceCtorEq, zE, ↓reduceIte]
  refine brB (fun yc8 => ?_) (fun yc8 => ?_)
  · simp -implicitDefEqProofs only [c40_30_e, c40_31_r, (show opsOf c40_31 = _ :: _ from rfl), Tryd.underlying9, zq0, zq3, zq4, zq5, zq33, yc8, setA, setB, za, zb, zc, zd, ze, zf, zg, zh, zi, zj, zk, zl, zm, zn, zo, zp, reduceCtorEq, zE, ↓reduceIte]
    refine brM (fun yc9 => ?_) (fun yk10 yc9 => ?_)
    · rw [yc9]; rfl
    · simp -implicitDefEqProofs only [zq0, zq3, zq4, zq5, zq33, yc8, yc9, setA, setB, za, zb, zc, zd, ze, zf, zg, zh, zi, zj, zk, zl, zm, zn, zo, zp, reduceCtorEq, zE, ↓reduceIte]
      refine brM (fun yc11 => ?_) (fun yk12 yc11 => ?_)
      · rw [yc11]; rfl
      · simp -implicitDefEqProofs only [ent49, prm49, f49_t, zq0, zq3, zq4, zq5, zq33, yc8, yc9, yc11, setA, setB, za, zb, zc, zd, ze, zf, zg, zh, zi, zj, zk, zl, zm, zn, zo, zp, reduceCtorEq, zE, ↓reduceIte]
        refine brM (fun yc13 => ?_) (fun yr14 yc13 => ?_)
        · rw [yc13]; rfl
        · simp -implicitDefEqProofs only [e49, c40_32_e, c40_33_e, c40_34_r, (show opsOf c40_34 = _ :: _ from rfl), (show c40_35 = Code.cond _ c40_36 c40_37 from rfl), zq0, zq3, zq4, zq5, zq33, yc8, yc9, yc11, yc13, setA, setB, za, zb, zc, zd, ze, zf, zg, zh, zi, zj, zk, zl, zm, zn, zo, zp, reduceCtorEq, zE, ↓reduceIte]
          refine brB (fun yc15 => ?_) (fun yc15 => ?_)
          · simp -implicitDefEqProofs only [c40_37_e, zq0, zq3, zq4, zq5, zq33, yc8, yc9, yc11, yc13, yc15, setA, setB, za, zb, zc, zd, ze, zf, zg, zh, zi, zj, zk, zl, zm, zn, zo, zp, reduceCtorEq, zE, ↓reduceIte]
            exact j40_38_t s0 l3_0 l3_1 at5 _ (by exact zq0) (by exact zq3) (by exact zq5)
          · simp -implicitDefEqProofs only [c40_36_r, (show opsOf c40_36 = _ :: _ from rfl), Tryd.underlying30, sz9, zc9, hd47, nv48, rw49, ns8, ap30, zq0, zq3, zq4, zq5, zq33, yc8, yc9, yc11, yc13, yc15, setA, setB, za, zb, zc, zd, ze, zf, zg, zh, zi, zj, zk, zl, zm, zn, zo, zp, reduceCtorEq, zE, ↓reduceIte]
            refine brP (fun yc16 => ?_) (fun yc16 => ?_)
            · simp -implicitDefEqProofs only [zq0, zq3, zq4, zq5, zq33, yc8, yc9, yc11, yc13, yc15, yc16, setA, setB, za, zb, zc, zd, ze, zf, zg, zh, zi, zj, zk, zl, zm, zn, zo, zp, reduceCtorEq, zE, ↓reduceIte]
              exact j40_38_t s0 false (l3_1 ++ ([yr14] : List Bs)) at5 _ (by exact zq0) (by rfl) (by exact zq5)
            · rw [if_neg yc16]; rfl
  · simp -implicitDefEqProofs only [c40_39_e, zq0, zq3, zq4, zq5, zq33, yc8, setA, setB, za, zb, zc, zd, ze, zf, zg, zh, zi, zj, zk, zl, zm, zn, zo, zp, reduceCtorEq, zE, ↓reduceIte]
    exact j40_40_t s0 l3_0 l3_1 from4 at5 _ (by exact zq0) (by exact zq3) (by exact zq4) (by exact zq5)
def j40_21 (s0 : Bs) (l3_0 : Bool) (l3_1 : List Bs) (from4 at5 : Int) (t20 : Bool) : Option ((Bs × Bool × List Bs × Int × Int) ⊕ R40) :=
  if t20 = true then
    (m48 s0 at5).bind fun yr6 =>
      some (.inl (s0, l3_0, l3_1, from4, yr6))
  else
    if (at5 == (s0.length : Int)) = true then
      j40_29 s0 l3_0 l3_1 from4 at5 true
    else
      if 0 ≤ at5 ∧ at5 < (s0.length : Int) then
        j40_29 s0 l3_0 l3_1 from4 at5 ((s0.getD at5.toNat 0) == (44 : UInt8))
      else none
theorem j40_21_t (s0 : Bs) (l3_0 : Bool) (l3_1 : List Bs) (from4 at5 : Int) (t20 : Bool)  (sl : Nat → AV) (zq0 : sl 0 = .v (.c (.d (.sc (.string (S s0)))))) (zq3 : sl 3 = .v (.c (.own l3_0 (enL enS l3_1) 0))) (zq4 : sl 4 = .v (.c (.d (.sc (.int .i64 from4))))) (zq5 : sl 5 = .v (.c (.d (.sc (.int .i64 at5))))) (zq20 : sl 20 = .v (.c (.d (.sc (.bool t20))))) :
    stepE (K40_10 (mm := mm)) (loopK 0 [(0, .keep), (3, .own), (4, .keep), (5, .keep)] (blockD 1 (seqD (E0 mm) 40 0 (callW (E0 mm)) itW c40_26 (den (E0 mm) 40 0 (callW (E0 mm)) itW c40_21 none ⟨sl, [.row l3_1.length (rz l3_0 1)]⟩)))) = (j40_21 s0 l3_0 l3_1 from4 at5 t20).map (sm en40_10 e40) := by
  simp -implicitDefEqProofs only [j40_21, (show c40_21 = Code.cond _ c40_22 c40_25 from rfl), zq0, zq3, zq4, zq5, zq20, setA, setB, za, zb, zc, zd, ze, zf, zg, zh, zi, zj, zk, zl, zm, zn, zo, zp, reduceCtorEq, zE, ↓reduceIte]
  refine brB (fun yc4 => ?_) (fun yc4 => ?_)
  · simp -implicitDefEqProofs only [c40_22_e, c40_23_r, (show opsOf c40_23 = _ :: _ from rfl), ent48, prm48, f48_t, zq0, zq3, zq4, zq5, zq20, yc4, setA, setB, za, zb, zc, zd, ze, zf, zg, zh, zi, zj, zk, zl, zm, zn, zo, zp, reduceCtorEq, zE, ↓reduceIte]
    refine brM (fun yc5 => ?_) (fun yr6 yc5 => ?_)
    · rw [yc5]; rfl
    · simp -implicitDefEqProofs only [e48, c40_24_e, zq0, zq3, zq4, zq5, zq20, yc4, yc5, setA, setB, za, zb, zc, zd, ze, zf, zg, zh, zi, zj, zk, zl, zm, zn, zo, zp, reduceCtorEq, zE, ↓reduceIte]
      all_goals rfl
  · simp -implicitDefEqProofs only [c40_25_e, c40_26_e, c40_27_e, c40_28_r, (show opsOf c40_28 = _ :: _ from rfl), Tryd.underlying9, zq0, zq3, zq4, zq5, zq20, yc4, setA, setB, za, zb, zc, zd, ze, zf, zg, zh, zi, zj, zk, zl, zm, zn, zo, zp, reduceCtorEq, zE, ↓reduceIte]
    refine brB (fun yc7 => ?_) (fun yc7 => ?_)
    · simp -implicitDefEqProofs only [zq0, zq3, zq4, zq5, zq20, yc4, yc7, setA, setB, za, zb, zc, zd, ze, zf, zg, zh, zi, zj, zk, zl, zm, zn, zo, zp, reduceCtorEq, zE, ↓reduceIte]
      exact j40_29_t s0 l3_0 l3_1 from4 at5 true _ (by exact zq0) (by exact zq3) (by exact zq4) (by exact zq5) (by rfl)
    · simp -implicitDefEqProofs only [Tryd.underlying9, zq0, zq3, zq4, zq5, zq20, yc4, yc7, setA, setB, za, zb, zc, zd, ze, zf, zg, zh, zi, zj, zk, zl, zm, zn, zo, zp, reduceCtorEq, zE, ↓reduceIte]
      refine brP (fun yc17 => ?_) (fun yc17 => ?_)
      · simp -implicitDefEqProofs only [zq0, zq3, zq4, zq5, zq20, yc4, yc7, yc17, setA, setB, za, zb, zc, zd, ze, zf, zg, zh, zi, zj, zk, zl, zm, zn, zo, zp, reduceCtorEq, zE, ↓reduceIte]
        exact j40_29_t s0 l3_0 l3_1 from4 at5 ((s0.getD at5.toNat 0) == (44 : UInt8)) _ (by exact zq0) (by exact zq3) (by exact zq4) (by exact zq5) (by rfl)
      · rw [if_neg yc17]; rfl
def j40_41 (l3_0 : Bool) (l3_1 : List Bs) : Option R40 :=
  some (l3_0, l3_1)
theorem j40_41_t (l3_0 : Bool) (l3_1 : List Bs)  (sl : Nat → AV) (zq3 : sl 3 = .v (.c (.own l3_0 (enL enS l3_1) 0))) :
    bodyD (E0 mm) [.tmp 2] 0 false (den (E0 mm) 40 0 (callW (E0 mm)) itW c40_41 none ⟨sl, [.row l3_1.length (rz l3_0 1)]⟩) = (j40_41 l3_0 l3_1).map e40 := by
  simp -implicitDefEqProofs only [j40_41, c40_41_e, c40_42_r, (show opsOf c40_42 = _ :: _ from rfl), c40_43_e, zq3, setA, setB, za, zb, zc, zd, ze, zf, zg, zh, zi, zj, zk, zl, zm, zn, zo, zp, reduceCtorEq, zE, ↓reduceIte]
  all_goals rfl
def s40_10 (s0 : Bs) (l3_0 : Bool) (l3_1 : List Bs) (from4 at5 : Int) : Option ((Bs × Bool × List Bs × Int × Int) ⊕ R40) :=
  if (decide (at5 ≤ (s0.length : Int))) = true then
    if (decide (at5 < (s0.length : Int))) = true then
      if 0 ≤ at5 ∧ at5 < (s0.length : Int) then
        j40_21 s0 l3_0 l3_1 from4 at5 ((s0.getD at5.toNat 0) == (34 : UInt8))
      else none
    else
      j40_21 s0 l3_0 l3_1 from4 at5 false
  else
    (j40_41 l3_0 l3_1).map .inr
theorem s40_10_t (s0 : Bs) (l3_0 : Bool) (l3_1 : List Bs) (from4 at5 : Int) :
    stepE (K40_10 (mm := mm)) (loopF (E0 mm) 40 0 (callW (E0 mm)) itW c40_11 [(0, .keep), (3, .own), (4, .keep), (5, .keep)] (none, [.v (.c (.d (.sc (.string (S s0))))), .v (.c (.own l3_0 (enL enS l3_1) 0)), .v (.c (.d (.sc (.int .i64 from4)))), .v (.c (.d (.sc (.int .i64 at5))))], [.row l3_1.length (rz l3_0 1)])) = (s40_10 s0 l3_0 l3_1 from4 at5).map (sm en40_10 e40) := by
  simp -implicitDefEqProofs only [s40_10, loopF_eq, c40_11_e, c40_12_e, c40_13_r, (show opsOf c40_13 = _ :: _ from rfl), Tryd.underlying9, (show c40_14 = Code.cond _ c40_15 c40_16 from rfl), setA, setB, za, zb, zc, zd, ze, zf, zg, zh, zi, zj, zk, zl, zm, zn, zo, zp, reduceCtorEq, zE, ↓reduceIte]
  refine brB (fun yc1 => ?_) (fun yc1 => ?_)
  · simp -implicitDefEqProofs only [c40_15_e, c40_17_e, c40_18_e, c40_19_e, c40_20_r, (show opsOf c40_20 = _ :: _ from rfl), Tryd.underlying9, yc1, setA, setB, za, zb, zc, zd, ze, zf, zg, zh, zi, zj, zk, zl, zm, zn, zo, zp, reduceCtorEq, zE, ↓reduceIte]
    refine brB (fun yc2 => ?_) (fun yc2 => ?_)
    · simp -implicitDefEqProofs only [Tryd.underlying9, yc1, yc2, setA, setB, za, zb, zc, zd, ze, zf, zg, zh, zi, zj, zk, zl, zm, zn, zo, zp, reduceCtorEq, zE, ↓reduceIte]
      refine brP (fun yc3 => ?_) (fun yc3 => ?_)
      · simp -implicitDefEqProofs only [yc1, yc2, yc3, setA, setB, za, zb, zc, zd, ze, zf, zg, zh, zi, zj, zk, zl, zm, zn, zo, zp, reduceCtorEq, zE, ↓reduceIte]
        exact j40_21_t s0 l3_0 l3_1 from4 at5 ((s0.getD at5.toNat 0) == (34 : UInt8)) _ (by rfl) (by rfl) (by rfl) (by rfl) (by rfl)
      · rw [if_neg yc3]; rfl
    · simp -implicitDefEqProofs only [yc1, yc2, setA, setB, za, zb, zc, zd, ze, zf, zg, zh, zi, zj, zk, zl, zm, zn, zo, zp, reduceCtorEq, zE, ↓reduceIte]
      exact j40_21_t s0 l3_0 l3_1 from4 at5 false _ (by rfl) (by rfl) (by rfl) (by rfl) (by rfl)
  · simp -implicitDefEqProofs only [c40_16_e, K40_10, yc1, setA, setB, za, zb, zc, zd, ze, zf, zg, zh, zi, zj, zk, zl, zm, zn, zo, zp, reduceCtorEq, zE, ↓reduceIte]
    exact mi (j40_41_t l3_0 l3_1 _ (by rfl))
def l40_10 (s0 : Bs) (l3_0 : Bool) (l3_1 : List Bs) (from4 at5 : Int) : Option R40 := iter (fun x : (Bs × Bool × List Bs × Int × Int) => s40_10 x.1 x.2.1 x.2.2.1 x.2.2.2.1 x.2.2.2.2) (s0, l3_0, l3_1, from4, at5)
theorem l40_10_t (s0 : Bs) (l3_0 : Bool) (l3_1 : List Bs) (from4 at5 : Int) : bodyD (E0 mm) [.tmp 2] 0 false (seqD (E0 mm) 40 0 (callW (E0 mm)) itW c40_41 (blockD 0 (itW (loopF (E0 mm) 40 0 (callW (E0 mm)) itW c40_11 [(0, .keep), (3, .own), (4, .keep), (5, .keep)]) (none, [.v (.c (.d (.sc (.string (S s0))))), .v (.c (.own l3_0 (enL enS l3_1) 0)), .v (.c (.d (.sc (.int .i64 from4)))), .v (.c (.d (.sc (.int .i64 at5))))], [.row l3_1.length (rz l3_0 1)])))) = (l40_10 s0 l3_0 l3_1 from4 at5).map e40 :=
  it_sim (K := (K40_10 (mm := mm))) rfl (enc := en40_10) (fun x => s40_10_t x.1 x.2.1 x.2.2.1 x.2.2.2.1 x.2.2.2.2) (s0, l3_0, l3_1, from4, at5)
def m40 (s : Bs) : Option R40 :=
  l40_10 s true ([] : List Bs) (0 : Int) (0 : Int)
theorem f40_t (s : Bs) :
    callW (E0 mm) 40 [.c (.d (.sc (.string (S s))))] [] = (m40 s).map e40 := by
  rw [callW_run (body := c40_0) (res := [.tmp 2]) Tryd.func40 rfl rfl (by kernel_rfl)]
  simp -implicitDefEqProofs only [m40, slots1, c40_0_e, c40_1_r, (show opsOf c40_1 = _ :: _ from rfl), c40_2_e, c40_3_r, (show opsOf c40_3 = _ :: _ from rfl), c40_4_e, c40_5_r, (show opsOf c40_5 = _ :: _ from rfl), c40_6_e, c40_7_e, c40_8_r, (show opsOf c40_8 = _ :: _ from rfl), c40_9_e, c40_10_l, setA, setB, za, zb, zc, zd, ze, zf, zg, zh, zi, zj, zk, zl, zm, zn, zo, zp, reduceCtorEq, zE, ↓reduceIte]
  exact l40_10_t s true ([] : List Bs) (0 : Int) (0 : Int)
noncomputable def c27_0 : Code := bodyOf Tryd.f27
def c27_1 := cA c27_0
def c27_2 := cB c27_0
def c27_3 := cA c27_2
def c27_4 := cB c27_2
def c27_5 := cA c27_4
def c27_6 := cA c27_5
def c27_7 := cB c27_5
def c27_8 := cA c27_7
def c27_9 := cA c27_8
def c27_10 := cA c27_9
def c27_11 := cA c27_10
def c27_12 := cB c27_10
def c27_13 := cA c27_12
def c27_14 := cB c27_12
def c27_15 := cB c27_9
def c27_16 := cA c27_15
def c27_17 := cA c27_16
def c27_18 := cA c27_17
def c27_19 := cB c27_17
def c27_20 := cA c27_19
def c27_21 := cB c27_19
def c27_22 := cB c27_15
def c27_23 := cB c27_4
def c27_24 := cA c27_23
def c27_25 := cB c27_23
theorem c27_0_e : c27_0 = .seq c27_1 c27_2 := rfl
theorem c27_1_r : RG (E0 mm) 27 c27_1 := rgN rfl
theorem c27_2_e : c27_2 = .seq c27_3 c27_4 := rfl
theorem c27_3_r : RG (E0 mm) 27 c27_3 := rgN rfl
theorem c27_4_e : c27_4 = .seq c27_5 c27_23 := rfl
theorem c27_5_e : c27_5 = .seq c27_6 c27_7 := rfl
theorem c27_6_r : RG (E0 mm) 27 c27_6 := rgN rfl
theorem c27_7_e : c27_7 = .block 0 c27_8 := rfl
theorem c27_8_l (m : Nat) (st : St) : den (E0 mm) 27 m (callW (E0 mm)) itW c27_8 none st = loopD itW (loopF (E0 mm) 27 m (callW (E0 mm)) itW c27_9 [(0, .keep), (1, .keep), (5, .own), (6, .keep)]) (canon m [(0, .keep), (1, .keep), (5, .own), (6, .keep)] st) := rfl
theorem c27_9_e : c27_9 = .seq c27_10 c27_15 := rfl
theorem c27_10_e : c27_10 = .seq c27_11 c27_12 := rfl
theorem c27_11_r : RG (E0 mm) 27 c27_11 := rgN rfl
theorem c27_13_e : c27_13 = .skip := rfl
theorem c27_14_e : c27_14 = .exit 0 := rfl
theorem c27_15_e : c27_15 = .seq c27_16 c27_22 := rfl
theorem c27_16_e : c27_16 = .block 1 c27_17 := rfl
theorem c27_17_e : c27_17 = .seq c27_18 c27_19 := rfl
theorem c27_18_r : RG (E0 mm) 27 c27_18 := rgN rfl
theorem c27_20_r : RG (E0 mm) 27 c27_20 := rgN rfl
theorem c27_21_e : c27_21 = .skip := rfl
theorem c27_22_r : RG (E0 mm) 27 c27_22 := rgN rfl
theorem c27_23_e : c27_23 = .seq c27_24 c27_25 := rfl
theorem c27_24_r : RG (E0 mm) 27 c27_24 := rgN rfl
theorem c27_25_e : c27_25 = .ret := rfl
abbrev R27 := (Bool × List Bs)
def e27 : R27 → AV × Heap := fun x => (.v (.c (.own x.1 (enL enS x.2) 0)), [.row x.2.length (rz x.1 1)])
def K27_8 : Option (Ex × St) → Option (AV × Heap) := fun r => bodyD (E0 mm) [.tmp 4] 0 false (seqD (E0 mm) 27 0 (callW (E0 mm)) itW c27_23 (blockD 0 (r)))
def en27_8 : (Bool × List (Bs × Bs) × Bs × Bool × List Bs × Int) → X := fun x => (none, [.v (.c (.d (.lst x.1 (enL enSS x.2.1)))), .v (.c (.d (.sc (.string (S x.2.2.1))))), .v (.c (.own x.2.2.2.1 (enL enS x.2.2.2.2.1) 0)), .v (.c (.d (.sc (.int .i64 x.2.2.2.2.2))))], [.row x.2.2.2.2.1.length (rz x.2.2.2.1 1)])
def j27_22 (l0_0 : Bool) (l0_1 : List (Bs × Bs)) (name1 : Bs) (out5_0 : Bool) (out5_1 : List Bs) (i6 : Int) : Option ((Bool × List (Bs × Bs) × Bs × Bool × List Bs × Int) ⊕ R27) :=
  some (.inl (l0_0, l0_1, name1, out5_0, out5_1, (w64 (i6 + 1))))
theorem j27_22_t (l0_0 : Bool) (l0_1 : List (Bs × Bs)) (name1 : Bs) (out5_0 : Bool) (out5_1 : List Bs) (i6 : Int) (g1 : Ob) (sl : Nat → AV) (zq0 : sl 0 = .v (.c (.d (.lst l0_0 (enL enSS l0_1))))) (zq1 : sl 1 = .v (.c (.d (.sc (.string (S name1)))))) (zq5 : sl 5 = .v (.c (.own out5_0 (enL enS out5_1) 0))) (zq6 : sl 6 = .v (.c (.d (.sc (.int .i64 i6))))) :
    stepE (K27_8 (mm := mm)) (loopK 0 [(0, .keep), (1, .keep), (5, .own), (6, .keep)] (den (E0 mm) 27 0 (callW (E0 mm)) itW c27_22 none ⟨sl, [.row out5_1.length (rz out5_0 1), g1]⟩)) = (j27_22 l0_0 l0_1 name1 out5_0 out5_1 i6).map (sm en27_8 e27) := by
  simp -implicitDefEqProofs only [j27_22, c27_22_r, (show opsOf c27_22 = _ :: _ from rfl), zq0, zq1, zq5, zq6, setA, setB, za, zb, zc, zd, ze, zf, zg, zh, zi, zj, zk, zl, zm, zn, zo, zp, reduceCtorEq, zE, ↓reduceIte]
  all_goals rfl
def j27_22v1 (l0_0 : Bool) (l0_1 : List (Bs × Bs)) (name1 : Bs) (out5_0 : Bool) (out5_1 : List Bs) (i6 : Int) : Option ((Bool × List (Bs × Bs) × Bs × Bool × List Bs × Int) ⊕ R27) :=
  some (.inl (l0_0, l0_1, name1, out5_0, out5_1, (w64 (i6 + 1))))
theorem j27_22v1_t (l0_0 : Bool) (l0_1 : List (Bs × Bs)) (name1 : Bs) (out5_0 : Bool) (out5_1 : List Bs) (i6 : Int)  (sl : Nat → AV) (zq0 : sl 0 = .v (.c (.d (.lst l0_0 (enL enSS l0_1))))) (zq1 : sl 1 = .v (.c (.d (.sc (.string (S name1)))))) (zq5 : sl 5 = .v (.c (.own out5_0 (enL enS out5_1) 0))) (zq6 : sl 6 = .v (.c (.d (.sc (.int .i64 i6))))) :
    stepE (K27_8 (mm := mm)) (loopK 0 [(0, .keep), (1, .keep), (5, .own), (6, .keep)] (den (E0 mm) 27 0 (callW (E0 mm)) itW c27_22 none ⟨sl, [.row out5_1.length (rz out5_0 1)]⟩)) = (j27_22v1 l0_0 l0_1 name1 out5_0 out5_1 i6).map (sm en27_8 e27) := by
  simp -implicitDefEqProofs only [j27_22v1, c27_22_r, (show opsOf c27_22 = _ :: _ from rfl), zq0, zq1, zq5, zq6, setA, setB, za, zb, zc, zd, ze, zf, zg, zh, zi, zj, zk, zl, zm, zn, zo, zp, reduceCtorEq, zE, ↓reduceIte]
  all_goals rfl
def j27_23 (out5_0 : Bool) (out5_1 : List Bs) : Option R27 :=
  some (out5_0, out5_1)
theorem j27_23_t (out5_0 : Bool) (out5_1 : List Bs)  (sl : Nat → AV) (zq5 : sl 5 = .v (.c (.own out5_0 (enL enS out5_1) 0))) :
    bodyD (E0 mm) [.tmp 4] 0 false (den (E0 mm) 27 0 (callW (E0 mm)) itW c27_23 none ⟨sl, [.row out5_1.length (rz out5_0 1)]⟩) = (j27_23 out5_0 out5_1).map e27 := by
  simp -implicitDefEqProofs only [j27_23, c27_23_e, c27_24_r, (show opsOf c27_24 = _ :: _ from rfl), c27_25_e, zq5, setA, setB, za, zb, zc, zd, ze, zf, zg, zh, zi, zj, zk, zl, zm, zn, zo, zp, reduceCtorEq, zE, ↓reduceIte]
  all_goals rfl
def s27_8 (l0_0 : Bool) (l0_1 : List (Bs × Bs)) (name1 : Bs) (out5_0 : Bool) (out5_1 : List Bs) (i6 : Int) : Option ((Bool × List (Bs × Bs) × Bs × Bool × List Bs × Int) ⊕ R27) :=
  if (decide (i6 < (l0_1.length : Int))) = true then
    if 0 ≤ i6 ∧ i6 < (l0_1.length : Int) then
      (m31 ((l0_1.getD i6.toNat default).1) name1).bind fun yr5 =>
        if yr5 = true then
          (m40 ((l0_1.getD i6.toNat default).2)).bind fun yr8 =>
            if yr8.2 = [] ∨ (out5_1.length + yr8.2.length) * 16 ≤ 140737488355328 then
              j27_22 l0_0 l0_1 name1 (out5_0 && yr8.2.isEmpty) (out5_1 ++ yr8.2) i6
            else none
        else
          j27_22v1 l0_0 l0_1 name1 out5_0 out5_1 i6
    else none
  else
    (j27_23 out5_0 out5_1).map .inr
theorem s27_8_t (l0_0 : Bool) (l0_1 : List (Bs × Bs)) (name1 : Bs) (out5_0 : Bool) (out5_1 : List Bs) (i6 : Int) :
    stepE (K27_8 (mm := mm)) (loopF (E0 mm) 27 0 (callW (E0 mm)) itW c27_9 [(0, .keep), (1, .keep), (5, .own), (6, .keep)] (none, [.v (.c (.d (.lst l0_0 (enL enSS l0_1)))), .v (.c (.d (.sc (.string (S name1))))), .v (.c (.own out5_0 (enL enS out5_1) 0)), .v (.c (.d (.sc (.int .i64 i6))))], [.row out5_1.length (rz out5_0 1)])) = (s27_8 l0_0 l0_1 name1 out5_0 out5_1 i6).map (sm en27_8 e27) := by
  simp -implicitDefEqProofs only [s27_8, loopF_eq, c27_9_e, c27_10_e, c27_11_r, (show opsOf c27_11 = _ :: _ from rfl), Tryd.underlying22, (show c27_12 = Code.cond _ c27_13 c27_14 from rfl), setA, setB, za, zb, zc, zd, ze, zf, zg, zh, zi, zj, zk, zl, zm, zn, zo, zp, reduceCtorEq, zE, ↓reduceIte]
  refine brB (fun yc1 => ?_) (fun yc1 => ?_)
  · simp -implicitDefEqProofs only [c27_13_e, c27_15_e, c27_16_e, c27_17_e, c27_18_r, (show opsOf c27_18 = _ :: _ from rfl), Tryd.underlying22, sz33, enSS_a, yc1, setA, setB, za, zb, zc, zd, ze, zf, zg, zh, zi, zj, zk, zl, zm, zn, zo, zp, reduceCtorEq, zE, ↓reduceIte]
    refine brP (fun yc2 => ?_) (fun yc2 => ?_)
    · have yd3 : i6.toNat < l0_1.length := by omega
      simp -implicitDefEqProofs only [(enL_get enSS l0_1 i6.toNat yd3), enSS_e, Tryd.underlying33, sz9, ag9, ent31, prm31, f31_t, yc1, yc2, yd3, setA, setB, za, zb, zc, zd, ze, zf, zg, zh, zi, zj, zk, zl, zm, zn, zo, zp, reduceCtorEq, zE, ↓reduceIte]
      refine brM (fun yc4 => ?_) (fun yr5 yc4 => ?_)
      · rw [yc4]; rfl
      · simp -implicitDefEqProofs only [e31, (show c27_19 = Code.cond _ c27_20 c27_21 from rfl), yc1, yc2, yd3, yc4, setA, setB, za, zb, zc, zd, ze, zf, zg, zh, zi, zj, zk, zl, zm, zn, zo, zp, reduceCtorEq, zE, ↓reduceIte]
        refine brB (fun yc6 => ?_) (fun yc6 => ?_)
        · simp -implicitDefEqProofs only [c27_20_r, (show opsOf c27_20 = _ :: _ from rfl), Tryd.underlying22, sz33, enSS_a, (enL_get enSS l0_1 i6.toNat yd3), enSS_e, Tryd.underlying33, sz9, ag9, ent40, prm40, f40_t, yc1, yc2, yd3, yc4, yc6, setA, setB, za, zb, zc, zd, ze, zf, zg, zh, zi, zj, zk, zl, zm, zn, zo, zp, reduceCtorEq, zE, ↓reduceIte]
          refine brM (fun yc7 => ?_) (fun yr8 yc7 => ?_)
          · rw [yc7]; rfl
          · simp -implicitDefEqProofs only [e40, Tryd.underlying30, hd50, ap30, yc1, yc2, yd3, yc4, yc6, yc7, setA, setB, za, zb, zc, zd, ze, zf, zg, zh, zi, zj, zk, zl, zm, zn, zo, zp, reduceCtorEq, zE, ↓reduceIte]
            refine brP (fun yc9 => ?_) (fun yc9 => ?_)
            · simp -implicitDefEqProofs only [yc1, yc2, yd3, yc4, yc6, yc7, yc9, setA, setB, za, zb, zc, zd, ze, zf, zg, zh, zi, zj, zk, zl, zm, zn, zo, zp, reduceCtorEq, zE, ↓reduceIte]
              exact j27_22_t l0_0 l0_1 name1 (out5_0 && yr8.2.isEmpty) (out5_1 ++ yr8.2) i6 _ _ (by rfl) (by rfl) (by rfl) (by rfl)
            · rw [if_neg yc9]; rfl
        · simp -implicitDefEqProofs only [c27_21_e, yc1, yc2, yd3, yc4, yc6, setA, setB, za, zb, zc, zd, ze, zf, zg, zh, zi, zj, zk, zl, zm, zn, zo, zp, reduceCtorEq, zE, ↓reduceIte]
          exact j27_22v1_t l0_0 l0_1 name1 out5_0 out5_1 i6 _ (by rfl) (by rfl) (by rfl) (by rfl)
    · rw [if_neg yc2]; rfl
  · simp -implicitDefEqProofs only [c27_14_e, K27_8, yc1, setA, setB, za, zb, zc, zd, ze, zf, zg, zh, zi, zj, zk, zl, zm, zn, zo, zp, reduceCtorEq, zE, ↓reduceIte]
    exact mi (j27_23_t out5_0 out5_1 _ (by rfl))
def l27_8 (l0_0 : Bool) (l0_1 : List (Bs × Bs)) (name1 : Bs) (out5_0 : Bool) (out5_1 : List Bs) (i6 : Int) : Option R27 := iter (fun x : (Bool × List (Bs × Bs) × Bs × Bool × List Bs × Int) => s27_8 x.1 x.2.1 x.2.2.1 x.2.2.2.1 x.2.2.2.2.1 x.2.2.2.2.2) (l0_0, l0_1, name1, out5_0, out5_1, i6)
theorem l27_8_t (l0_0 : Bool) (l0_1 : List (Bs × Bs)) (name1 : Bs) (out5_0 : Bool) (out5_1 : List Bs) (i6 : Int) : bodyD (E0 mm) [.tmp 4] 0 false (seqD (E0 mm) 27 0 (callW (E0 mm)) itW c27_23 (blockD 0 (itW (loopF (E0 mm) 27 0 (callW (E0 mm)) itW c27_9 [(0, .keep), (1, .keep), (5, .own), (6, .keep)]) (none, [.v (.c (.d (.lst l0_0 (enL enSS l0_1)))), .v (.c (.d (.sc (.string (S name1))))), .v (.c (.own out5_0 (enL enS out5_1) 0)), .v (.c (.d (.sc (.int .i64 i6))))], [.row out5_1.length (rz out5_0 1)])))) = (l27_8 l0_0 l0_1 name1 out5_0 out5_1 i6).map e27 :=
  it_sim (K := (K27_8 (mm := mm))) rfl (enc := en27_8) (fun x => s27_8_t x.1 x.2.1 x.2.2.1 x.2.2.2.1 x.2.2.2.2.1 x.2.2.2.2.2) (l0_0, l0_1, name1, out5_0, out5_1, i6)
def m27 (l_0 : Bool) (l_1 : List (Bs × Bs)) (name : Bs) : Option R27 :=
  l27_8 l_0 l_1 name true ([] : List Bs) (0 : Int)
theorem f27_t (l_0 : Bool) (l_1 : List (Bs × Bs)) (name : Bs) :
    callW (E0 mm) 27 [.c (.d (.lst l_0 (enL enSS l_1))), .c (.d (.sc (.string (S name))))] [] = (m27 l_0 l_1 name).map e27 := by
  rw [callW_run (body := c27_0) (res := [.tmp 4]) Tryd.func27 rfl rfl (by kernel_rfl)]
  simp -implicitDefEqProofs only [m27, slots2, c27_0_e, c27_1_r, (show opsOf c27_1 = _ :: _ from rfl), c27_2_e, c27_3_r, (show opsOf c27_3 = _ :: _ from rfl), c27_4_e, c27_5_e, c27_6_r, (show opsOf c27_6 = _ :: _ from rfl), c27_7_e, c27_8_l, setA, setB, za, zb, zc, zd, ze, zf, zg, zh, zi, zj, zk, zl, zm, zn, zo, zp, reduceCtorEq, zE, ↓reduceIte]
  exact l27_8_t l_0 l_1 name true ([] : List Bs) (0 : Int)
noncomputable def c41_0 : Code := bodyOf Tryd.f41
def c41_1 := cA c41_0
def c41_2 := cB c41_0
def c41_3 := cA c41_2
def c41_4 := cB c41_2
def c41_5 := cA c41_4
def c41_6 := cA c41_5
def c41_7 := cB c41_5
def c41_8 := cA c41_7
def c41_9 := cA c41_8
def c41_10 := cA c41_9
def c41_11 := cA c41_10
def c41_12 := cB c41_10
def c41_13 := cA c41_12
def c41_14 := cB c41_12
def c41_15 := cB c41_9
def c41_16 := cA c41_15
def c41_17 := cA c41_16
def c41_18 := cA c41_17
def c41_19 := cB c41_17
def c41_20 := cA c41_19
def c41_21 := cB c41_19
def c41_22 := cA c41_21
def c41_23 := cA c41_22
def c41_24 := cB c41_22
def c41_25 := cA c41_24
def c41_26 := cA c41_25
def c41_27 := cA c41_26
def c41_28 := cA c41_27
def c41_29 := cB c41_27
def c41_30 := cA c41_29
def c41_31 := cB c41_29
def c41_32 := cB c41_26
def c41_33 := cA c41_32
def c41_34 := cA c41_33
def c41_35 := cB c41_32
def c41_36 := cB c41_21
def c41_37 := cA c41_36
def c41_38 := cB c41_36
def c41_39 := cA c41_38
def c41_40 := cA c41_39
def c41_41 := cB c41_39
def c41_42 := cB c41_38
def c41_43 := cB c41_15
def c41_44 := cB c41_4
def c41_45 := cA c41_44
def c41_46 := cB c41_44
theorem c41_0_e : c41_0 = .seq c41_1 c41_2 := rfl
theorem c41_1_r : RG (E0 mm) 41 c41_1 := rgN rfl
theorem c41_2_e : c41_2 = .seq c41_3 c41_4 := rfl
theorem c41_3_r : RG (E0 mm) 41 c41_3 := rgN rfl
theorem c41_4_e : c41_4 = .seq c41_5 c41_44 := rfl
theorem c41_5_e : c41_5 = .seq c41_6 c41_7 := rfl
theorem c41_6_r : RG (E0 mm) 41 c41_6 := rgN rfl
theorem c41_7_e : c41_7 = .block 0 c41_8 := rfl
theorem c41_8_l (m : Nat) (st : St) : den (E0 mm) 41 m (callW (E0 mm)) itW c41_8 none st = loopD itW (loopF (E0 mm) 41 m (callW (E0 mm)) itW c41_9 [(0, .keep), (3, .keep), (4, .keep)]) (canon m [(0, .keep), (3, .keep), (4, .keep)] st) := rfl
theorem c41_9_e : c41_9 = .seq c41_10 c41_15 := rfl
theorem c41_10_e : c41_10 = .seq c41_11 c41_12 := rfl
theorem c41_11_r : RG (E0 mm) 41 c41_11 := rgN rfl
theorem c41_13_e : c41_13 = .skip := rfl
theorem c41_14_e : c41_14 = .exit 0 := rfl
theorem c41_15_e : c41_15 = .seq c41_16 c41_43 := rfl
theorem c41_16_e : c41_16 = .block 1 c41_17 := rfl
theorem c41_17_e : c41_17 = .seq c41_18 c41_19 := rfl
theorem c41_18_r : RG (E0 mm) 41 c41_18 := rgN rfl
theorem c41_19_e : c41_19 = .seq c41_20 c41_21 := rfl
theorem c41_20_r : RG (E0 mm) 41 c41_20 := rgN rfl
theorem c41_21_e : c41_21 = .seq c41_22 c41_36 := rfl
theorem c41_22_e : c41_22 = .seq c41_23 c41_24 := rfl
theorem c41_23_r : RG (E0 mm) 41 c41_23 := rgN rfl
theorem c41_24_e : c41_24 = .block 2 c41_25 := rfl
theorem c41_25_l (m : Nat) (st : St) : den (E0 mm) 41 m (callW (E0 mm)) itW c41_25 none st = loopD itW (loopF (E0 mm) 41 m (callW (E0 mm)) itW c41_26 [(0, .keep), (3, .keep), (4, .keep), (5, .keep), (6, .keep), (7, .keep)]) (canon m [(0, .keep), (3, .keep), (4, .keep), (5, .keep), (6, .keep), (7, .keep)] st) := rfl
theorem c41_26_e : c41_26 = .seq c41_27 c41_32 := rfl
theorem c41_27_e : c41_27 = .seq c41_28 c41_29 := rfl
theorem c41_28_r : RG (E0 mm) 41 c41_28 := rgN rfl
theorem c41_30_e : c41_30 = .skip := rfl
theorem c41_31_e : c41_31 = .exit 2 := rfl
theorem c41_32_e : c41_32 = .seq c41_33 c41_35 := rfl
theorem c41_33_e : c41_33 = .block 3 c41_34 := rfl
theorem c41_34_r : RG (E0 mm) 41 c41_34 := rgN rfl
theorem c41_35_r : RG (E0 mm) 41 c41_35 := rgN rfl
theorem c41_36_e : c41_36 = .seq c41_37 c41_38 := rfl
theorem c41_37_r : RG (E0 mm) 41 c41_37 := rgN rfl
theorem c41_39_e : c41_39 = .seq c41_40 c41_41 := rfl
theorem c41_40_r : RG (E0 mm) 41 c41_40 := rgN rfl
theorem c41_41_e : c41_41 = .ret := rfl
theorem c41_42_e : c41_42 = .skip := rfl
theorem c41_43_r : RG (E0 mm) 41 c41_43 := rgN rfl
theorem c41_44_e : c41_44 = .seq c41_45 c41_46 := rfl
theorem c41_45_r : RG (E0 mm) 41 c41_45 := rgN rfl
theorem c41_46_e : c41_46 = .ret := rfl
abbrev R41 := (Bool)
def e41 : R41 → AV × Heap := fun x => (.v (.c (.d (.sc (.bool x)))), [])
def K41_8 : Option (Ex × St) → Option (AV × Heap) := fun r => bodyD (E0 mm) [.tmp 2] 0 false (seqD (E0 mm) 41 0 (callW (E0 mm)) itW c41_44 (blockD 0 (r)))
def en41_8 : (Bs × Bs × Int) → X := fun x => (none, [.v (.c (.d (.sc (.string (S x.1))))), .v (.c (.d (.sc (.string (S x.2.1))))), .v (.c (.d (.sc (.int .i64 x.2.2))))], [])
def K41_25 : Option (Ex × St) → Option (X ⊕ (AV × Heap)) := fun r => stepE (K41_8 (mm := mm)) (loopK 0 [(0, .keep), (3, .keep), (4, .keep)] (seqD (E0 mm) 41 0 (callW (E0 mm)) itW c41_43 (blockD 1 (seqD (E0 mm) 41 0 (callW (E0 mm)) itW c41_36 (blockD 2 (r))))))
def en41_25 : (Bs × Bs × Int × UInt8 × Bool × Int) → X := fun x => (none, [.v (.c (.d (.sc (.string (S x.1))))), .v (.c (.d (.sc (.string (S x.2.1))))), .v (.c (.d (.sc (.int .i64 x.2.2.1)))), .v (.c (.d (.sc (.int .u8 ((x.2.2.2.1).toNat : Int))))), .v (.c (.d (.sc (.bool x.2.2.2.2.1)))), .v (.c (.d (.sc (.int .i64 x.2.2.2.2.2))))], [])
def j41_35 (s0 signs3 : Bs) (i4 : Int) (c5 : UInt8) (is6 : Bool) (k7 : Int) : Option ((Bs × Bs × Int × UInt8 × Bool × Int) ⊕ ((Bs × Bs × Int) ⊕ R41)) :=
  some (.inl (s0, signs3, i4, c5, is6, (w64 (k7 + 1))))
theorem j41_35_t (s0 signs3 : Bs) (i4 : Int) (c5 : UInt8) (is6 : Bool) (k7 : Int)  (sl : Nat → AV) (zq0 : sl 0 = .v (.c (.d (.sc (.string (S s0)))))) (zq3 : sl 3 = .v (.c (.d (.sc (.string (S signs3)))))) (zq4 : sl 4 = .v (.c (.d (.sc (.int .i64 i4))))) (zq5 : sl 5 = .v (.c (.d (.sc (.int .u8 ((c5).toNat : Int)))))) (zq6 : sl 6 = .v (.c (.d (.sc (.bool is6))))) (zq7 : sl 7 = .v (.c (.d (.sc (.int .i64 k7))))) :
    stepE (K41_25 (mm := mm)) (loopK 0 [(0, .keep), (3, .keep), (4, .keep), (5, .keep), (6, .keep), (7, .keep)] (den (E0 mm) 41 0 (callW (E0 mm)) itW c41_35 none ⟨sl, []⟩)) = (j41_35 s0 signs3 i4 c5 is6 k7).map (sm en41_25 (sm en41_8 e41)) := by
  simp -implicitDefEqProofs only [j41_35, c41_35_r, (show opsOf c41_35 = _ :: _ from rfl), zq0, zq3, zq4, zq5, zq6, zq7, setA, setB, za, zb, zc, zd, ze, zf, zg, zh, zi, zj, zk, zl, zm, zn, zo, zp, reduceCtorEq, zE, ↓reduceIte]
  all_goals rfl
def j41_36 (s0 signs3 : Bs) (i4 : Int) (is6 : Bool) : Option ((Bs × Bs × Int) ⊕ R41) :=
  if is6 = true then
    some (.inl (s0, signs3, (w64 (i4 + 1))))
  else
    some (.inr false)
theorem j41_36_t (s0 signs3 : Bs) (i4 : Int) (is6 : Bool)  (sl : Nat → AV) (zq0 : sl 0 = .v (.c (.d (.sc (.string (S s0)))))) (zq3 : sl 3 = .v (.c (.d (.sc (.string (S signs3)))))) (zq4 : sl 4 = .v (.c (.d (.sc (.int .i64 i4))))) (zq6 : sl 6 = .v (.c (.d (.sc (.bool is6))))) :
    stepE (K41_8 (mm := mm)) (loopK 0 [(0, .keep), (3, .keep), (4, .keep)] (seqD (E0 mm) 41 0 (callW (E0 mm)) itW c41_43 (blockD 1 (den (E0 mm) 41 0 (callW (E0 mm)) itW c41_36 none ⟨sl, []⟩)))) = (j41_36 s0 signs3 i4 is6).map (sm en41_8 e41) := by
  simp -implicitDefEqProofs only [j41_36, c41_36_e, c41_37_r, (show opsOf c41_37 = _ :: _ from rfl), (show c41_38 = Code.cond _ c41_39 c41_42 from rfl), zq0, zq3, zq4, zq6, setA, setB, za, zb, zc, zd, ze, zf, zg, zh, zi, zj, zk, zl, zm, zn, zo, zp, reduceCtorEq, zE, ↓reduceIte]
  refine brB (fun yc8 => ?_) (fun yc8 => ?_)
  · simp -implicitDefEqProofs only [c41_42_e, c41_43_r, (show opsOf c41_43 = _ :: _ from rfl), zq0, zq3, zq4, zq6, yc8, setA, setB, za, zb, zc, zd, ze, zf, zg, zh, zi, zj, zk, zl, zm, zn, zo, zp, reduceCtorEq, zE, ↓reduceIte]
    all_goals rfl
  · simp -implicitDefEqProofs only [c41_39_e, c41_40_r, (show opsOf c41_40 = _ :: _ from rfl), c41_41_e, K41_8, zq0, zq3, zq4, zq6, yc8, setA, setB, za, zb, zc, zd, ze, zf, zg, zh, zi, zj, zk, zl, zm, zn, zo, zp, reduceCtorEq, zE, ↓reduceIte]
    all_goals rfl
def s41_25 (s0 signs3 : Bs) (i4 : Int) (c5 : UInt8) (is6 : Bool) (k7 : Int) : Option ((Bs × Bs × Int × UInt8 × Bool × Int) ⊕ ((Bs × Bs × Int) ⊕ R41)) :=
  if (decide (k7 < (signs3.length : Int))) = true then
    if is6 = true then
      j41_35 s0 signs3 i4 c5 true k7
    else
      if 0 ≤ k7 ∧ k7 < (signs3.length : Int) then
        j41_35 s0 signs3 i4 c5 ((signs3.getD k7.toNat 0) == c5) k7
      else none
  else
    (j41_36 s0 signs3 i4 is6).map .inr
theorem s41_25_t (s0 signs3 : Bs) (i4 : Int) (c5 : UInt8) (is6 : Bool) (k7 : Int) :
    stepE (K41_25 (mm := mm)) (loopF (E0 mm) 41 0 (callW (E0 mm)) itW c41_26 [(0, .keep), (3, .keep), (4, .keep), (5, .keep), (6, .keep), (7, .keep)] (none, [.v (.c (.d (.sc (.string (S s0))))), .v (.c (.d (.sc (.string (S signs3))))), .v (.c (.d (.sc (.int .i64 i4)))), .v (.c (.d (.sc (.int .u8 ((c5).toNat : Int))))), .v (.c (.d (.sc (.bool is6)))), .v (.c (.d (.sc (.int .i64 k7))))], [])) = (s41_25 s0 signs3 i4 c5 is6 k7).map (sm en41_25 (sm en41_8 e41)) := by
  simp -implicitDefEqProofs only [s41_25, loopF_eq, c41_26_e, c41_27_e, c41_28_r, (show opsOf c41_28 = _ :: _ from rfl), Tryd.underlying9, (show c41_29 = Code.cond _ c41_30 c41_31 from rfl), setA, setB, za, zb, zc, zd, ze, zf, zg, zh, zi, zj, zk, zl, zm, zn, zo, zp, reduceCtorEq, zE, ↓reduceIte]
  refine brB (fun yc5 => ?_) (fun yc5 => ?_)
  · simp -implicitDefEqProofs only [c41_30_e, c41_32_e, c41_33_e, c41_34_r, (show opsOf c41_34 = _ :: _ from rfl), yc5, setA, setB, za, zb, zc, zd, ze, zf, zg, zh, zi, zj, zk, zl, zm, zn, zo, zp, reduceCtorEq, zE, ↓reduceIte]
    refine brB (fun yc6 => ?_) (fun yc6 => ?_)
    · simp -implicitDefEqProofs only [yc5, yc6, setA, setB, za, zb, zc, zd, ze, zf, zg, zh, zi, zj, zk, zl, zm, zn, zo, zp, reduceCtorEq, zE, ↓reduceIte]
      exact j41_35_t s0 signs3 i4 c5 true k7 _ (by rfl) (by rfl) (by rfl) (by rfl) (by rfl) (by rfl)
    · simp -implicitDefEqProofs only [Tryd.underlying9, yc5, yc6, setA, setB, za, zb, zc, zd, ze, zf, zg, zh, zi, zj, zk, zl, zm, zn, zo, zp, reduceCtorEq, zE, ↓reduceIte]
      refine brP (fun yc7 => ?_) (fun yc7 => ?_)
      · simp -implicitDefEqProofs only [yc5, yc6, yc7, setA, setB, za, zb, zc, zd, ze, zf, zg, zh, zi, zj, zk, zl, zm, zn, zo, zp, reduceCtorEq, zE, ↓reduceIte]
        exact j41_35_t s0 signs3 i4 c5 ((signs3.getD k7.toNat 0) == c5) k7 _ (by rfl) (by rfl) (by rfl) (by rfl) (by rfl) (by rfl)
      · rw [if_neg yc7]; rfl
  · simp -implicitDefEqProofs only [c41_31_e, K41_25, yc5, setA, setB, za, zb, zc, zd, ze, zf, zg, zh, zi, zj, zk, zl, zm, zn, zo, zp, reduceCtorEq, zE, ↓reduceIte]
    exact mi (j41_36_t s0 signs3 i4 is6 _ (by rfl) (by rfl) (by rfl) (by rfl))
def l41_25 (s0 signs3 : Bs) (i4 : Int) (c5 : UInt8) (is6 : Bool) (k7 : Int) : Option ((Bs × Bs × Int) ⊕ R41) := iter (fun x : (Bs × Bs × Int × UInt8 × Bool × Int) => s41_25 x.1 x.2.1 x.2.2.1 x.2.2.2.1 x.2.2.2.2.1 x.2.2.2.2.2) (s0, signs3, i4, c5, is6, k7)
theorem l41_25_t (s0 signs3 : Bs) (i4 : Int) (c5 : UInt8) (is6 : Bool) (k7 : Int) : stepE (K41_8 (mm := mm)) (loopK 0 [(0, .keep), (3, .keep), (4, .keep)] (seqD (E0 mm) 41 0 (callW (E0 mm)) itW c41_43 (blockD 1 (seqD (E0 mm) 41 0 (callW (E0 mm)) itW c41_36 (blockD 2 (itW (loopF (E0 mm) 41 0 (callW (E0 mm)) itW c41_26 [(0, .keep), (3, .keep), (4, .keep), (5, .keep), (6, .keep), (7, .keep)]) (none, [.v (.c (.d (.sc (.string (S s0))))), .v (.c (.d (.sc (.string (S signs3))))), .v (.c (.d (.sc (.int .i64 i4)))), .v (.c (.d (.sc (.int .u8 ((c5).toNat : Int))))), .v (.c (.d (.sc (.bool is6)))), .v (.c (.d (.sc (.int .i64 k7))))], []))))))) = (l41_25 s0 signs3 i4 c5 is6 k7).map (sm en41_8 e41) :=
  it_sim (K := (K41_25 (mm := mm))) rfl (enc := en41_25) (fun x => s41_25_t x.1 x.2.1 x.2.2.1 x.2.2.2.1 x.2.2.2.2.1 x.2.2.2.2.2) (s0, signs3, i4, c5, is6, k7)
def j41_21 (s0 signs3 : Bs) (i4 : Int) (c5 : UInt8) (is6 : Bool) : Option ((Bs × Bs × Int) ⊕ R41) :=
  l41_25 s0 signs3 i4 c5 is6 (0 : Int)
theorem j41_21_t (s0 signs3 : Bs) (i4 : Int) (c5 : UInt8) (is6 : Bool)  (sl : Nat → AV) (zq0 : sl 0 = .v (.c (.d (.sc (.string (S s0)))))) (zq3 : sl 3 = .v (.c (.d (.sc (.string (S signs3)))))) (zq4 : sl 4 = .v (.c (.d (.sc (.int .i64 i4))))) (zq5 : sl 5 = .v (.c (.d (.sc (.int .u8 ((c5).toNat : Int)))))) (zq6 : sl 6 = .v (.c (.d (.sc (.bool is6))))) :
    stepE (K41_8 (mm := mm)) (loopK 0 [(0, .keep), (3, .keep), (4, .keep)] (seqD (E0 mm) 41 0 (callW (E0 mm)) itW c41_43 (blockD 1 (den (E0 mm) 41 0 (callW (E0 mm)) itW c41_21 none ⟨sl, []⟩)))) = (j41_21 s0 signs3 i4 c5 is6).map (sm en41_8 e41) := by
  simp -implicitDefEqProofs only [j41_21, c41_21_e, c41_22_e, c41_23_r, (show opsOf c41_23 = _ :: _ from rfl), c41_24_e, c41_25_l, zq0, zq3, zq4, zq5, zq6, setA, setB, za, zb, zc, zd, ze, zf, zg, zh, zi, zj, zk, zl, zm, zn, zo, zp, reduceCtorEq, zE, ↓reduceIte]
  exact l41_25_t s0 signs3 i4 c5 is6 (0 : Int)
def j41_44 (s0 : Bs) : Option R41 :=
  some (decide (0 < (s0.length : Int)))
theorem j41_44_t (s0 : Bs)  (sl : Nat → AV) (zq0 : sl 0 = .v (.c (.d (.sc (.string (S s0)))))) :
    bodyD (E0 mm) [.tmp 2] 0 false (den (E0 mm) 41 0 (callW (E0 mm)) itW c41_44 none ⟨sl, []⟩) = (j41_44 s0).map e41 := by
  simp -implicitDefEqProofs only [j41_44, c41_44_e, c41_45_r, (show opsOf c41_45 = _ :: _ from rfl), Tryd.underlying9, c41_46_e, zq0, setA, setB, za, zb, zc, zd, ze, zf, zg, zh, zi, zj, zk, zl, zm, zn, zo, zp, reduceCtorEq, zE, ↓reduceIte]
  all_goals rfl
def s41_8 (s0 signs3 : Bs) (i4 : Int) : Option ((Bs × Bs × Int) ⊕ R41) :=
  if (decide (i4 < (s0.length : Int))) = true then
    if 0 ≤ i4 ∧ i4 < (s0.length : Int) then
      if (decide ((97 : UInt8) ≤ (s0.getD i4.toNat 0))) = true then
        if (decide ((s0.getD i4.toNat 0) ≤ (122 : UInt8))) = true then
          j41_21 s0 signs3 i4 (s0.getD i4.toNat 0) true
        else
          if (decide ((65 : UInt8) ≤ (s0.getD i4.toNat 0))) = true then
            if (decide ((s0.getD i4.toNat 0) ≤ (90 : UInt8))) = true then
              j41_21 s0 signs3 i4 (s0.getD i4.toNat 0) true
            else
              if (decide ((48 : UInt8) ≤ (s0.getD i4.toNat 0))) = true then
                j41_21 s0 signs3 i4 (s0.getD i4.toNat 0) (decide ((s0.getD i4.toNat 0) ≤ (57 : UInt8)))
              else
                j41_21 s0 signs3 i4 (s0.getD i4.toNat 0) false
          else
            if (decide ((48 : UInt8) ≤ (s0.getD i4.toNat 0))) = true then
              j41_21 s0 signs3 i4 (s0.getD i4.toNat 0) (decide ((s0.getD i4.toNat 0) ≤ (57 : UInt8)))
            else
              j41_21 s0 signs3 i4 (s0.getD i4.toNat 0) false
      else
        if (decide ((65 : UInt8) ≤ (s0.getD i4.toNat 0))) = true then
          if (decide ((s0.getD i4.toNat 0) ≤ (90 : UInt8))) = true then
            j41_21 s0 signs3 i4 (s0.getD i4.toNat 0) true
          else
            if (decide ((48 : UInt8) ≤ (s0.getD i4.toNat 0))) = true then
              j41_21 s0 signs3 i4 (s0.getD i4.toNat 0) (decide ((s0.getD i4.toNat 0) ≤ (57 : UInt8)))
            else
              j41_21 s0 signs3 i4 (s0.getD i4.toNat 0) false
        else
          if (decide ((48 : UInt8) ≤ (s0.getD i4.toNat 0))) = true then
            j41_21 s0 signs3 i4 (s0.getD i4.toNat 0) (decide ((s0.getD i4.toNat 0) ≤ (57 : UInt8)))
          else
            j41_21 s0 signs3 i4 (s0.getD i4.toNat 0) false
    else none
  else
    (j41_44 s0).map .inr
theorem s41_8_t (s0 signs3 : Bs) (i4 : Int) :
    stepE (K41_8 (mm := mm)) (loopF (E0 mm) 41 0 (callW (E0 mm)) itW c41_9 [(0, .keep), (3, .keep), (4, .keep)] (none, [.v (.c (.d (.sc (.string (S s0))))), .v (.c (.d (.sc (.string (S signs3))))), .v (.c (.d (.sc (.int .i64 i4))))], [])) = (s41_8 s0 signs3 i4).map (sm en41_8 e41) := by
  simp -implicitDefEqProofs only [s41_8, loopF_eq, c41_9_e, c41_10_e, c41_11_r, (show opsOf c41_11 = _ :: _ from rfl), Tryd.underlying9, (show c41_12 = Code.cond _ c41_13 c41_14 from rfl), setA, setB, za, zb, zc, zd, ze, zf, zg, zh, zi, zj, zk, zl, zm, zn, zo, zp, reduceCtorEq, zE, ↓reduceIte]
  refine brB (fun yc1 => ?_) (fun yc1 => ?_)
  · simp -implicitDefEqProofs only [c41_13_e, c41_15_e, c41_16_e, c41_17_e, c41_18_r, (show opsOf c41_18 = _ :: _ from rfl), Tryd.underlying9, yc1, setA, setB, za, zb, zc, zd, ze, zf, zg, zh, zi, zj, zk, zl, zm, zn, zo, zp, reduceCtorEq, zE, ↓reduceIte]
    refine brP (fun yc2 => ?_) (fun yc2 => ?_)
    · simp -implicitDefEqProofs only [c41_19_e, c41_20_r, (show opsOf c41_20 = _ :: _ from rfl), yc1, yc2, setA, setB, za, zb, zc, zd, ze, zf, zg, zh, zi, zj, zk, zl, zm, zn, zo, zp, reduceCtorEq, zE, ↓reduceIte]
      refine brB (fun yc3 => ?_) (fun yc3 => ?_)
      · simp -implicitDefEqProofs only [yc1, yc2, yc3, setA, setB, za, zb, zc, zd, ze, zf, zg, zh, zi, zj, zk, zl, zm, zn, zo, zp, reduceCtorEq, zE, ↓reduceIte]
        refine brB (fun yc4 => ?_) (fun yc4 => ?_)
        · simp -implicitDefEqProofs only [yc1, yc2, yc3, yc4, setA, setB, za, zb, zc, zd, ze, zf, zg, zh, zi, zj, zk, zl, zm, zn, zo, zp, reduceCtorEq, zE, ↓reduceIte]
          exact j41_21_t s0 signs3 i4 (s0.getD i4.toNat 0) true _ (by rfl) (by rfl) (by rfl) (by rfl) (by rfl)
        · simp -implicitDefEqProofs only [yc1, yc2, yc3, yc4, setA, setB, za, zb, zc, zd, ze, zf, zg, zh, zi, zj, zk, zl, zm, zn, zo, zp, reduceCtorEq, zE, ↓reduceIte]
          refine brB (fun yc9 => ?_) (fun yc9 => ?_)
          · simp -implicitDefEqProofs only [yc1, yc2, yc3, yc4, yc9, setA, setB, za, zb, zc, zd, ze, zf, zg, zh, zi, zj, zk, zl, zm, zn, zo, zp, reduceCtorEq, zE, ↓reduceIte]
            refine brB (fun yc10 => ?_) (fun yc10 => ?_)
            · simp -implicitDefEqProofs only [yc1, yc2, yc3, yc4, yc9, yc10, setA, setB, za, zb, zc, zd, ze, zf, zg, zh, zi, zj, zk, zl, zm, zn, zo, zp, reduceCtorEq, zE, ↓reduceIte]
              exact j41_21_t s0 signs3 i4 (s0.getD i4.toNat 0) true _ (by rfl) (by rfl) (by rfl) (by rfl) (by rfl)
            · simp -implicitDefEqProofs only [yc1, yc2, yc3, yc4, yc9, yc10, setA, setB, za, zb, zc, zd, ze, zf, zg, zh, zi, zj, zk, zl, zm, zn, zo, zp, reduceCtorEq, zE, ↓reduceIte]
              refine brB (fun yc11 => ?_) (fun yc11 => ?_)
              · simp -implicitDefEqProofs only [yc1, yc2, yc3, yc4, yc9, yc10, yc11, setA, setB, za, zb, zc, zd, ze, zf, zg, zh, zi, zj, zk, zl, zm, zn, zo, zp, reduceCtorEq, zE, ↓reduceIte]
                exact j41_21_t s0 signs3 i4 (s0.getD i4.toNat 0) (decide ((s0.getD i4.toNat 0) ≤ (57 : UInt8))) _ (by rfl) (by rfl) (by rfl) (by rfl) (by rfl)
              · simp -implicitDefEqProofs only [yc1, yc2, yc3, yc4, yc9, yc10, yc11, setA, setB, za, zb, zc, zd, ze, zf, zg, zh, zi, zj, zk, zl, zm, zn, zo, zp, reduceCtorEq, zE, ↓reduceIte]
                exact j41_21_t s0 signs3 i4 (s0.getD i4.toNat 0) false _ (by rfl) (by rfl) (by rfl) (by rfl) (by rfl)
          · simp -implicitDefEqProofs only [yc1, yc2, yc3, yc4, yc9, setA, setB, za, zb, zc, zd, ze, zf, zg, zh, zi, zj, zk, zl, zm, zn, zo, zp, reduceCtorEq, zE, ↓reduceIte]
            refine brB (fun yc12 => ?_) (fun yc12 => ?_)
            · simp -implicitDefEqProofs only [yc1, yc2, yc3, yc4, yc9, yc12, setA, setB, za, zb, zc, zd, ze, zf, zg, zh, zi, zj, zk, zl, zm, zn, zo, zp, reduceCtorEq, zE, ↓reduceIte]
              exact j41_21_t s0 signs3 i4 (s0.getD i4.toNat 0) (decide ((s0.getD i4.toNat 0) ≤ (57 : UInt8))) _ (by rfl) (by rfl) (by rfl) (by rfl) (by rfl)
            · simp -implicitDefEqProofs only [yc1, yc2, yc3, yc4, yc9, yc12, setA, setB, za, zb, zc, zd, ze, zf, zg, zh, zi, zj, zk, zl, zm, zn, zo, zp, reduceCtorEq, zE, ↓reduceIte]
              exact j41_21_t s0 signs3 i4 (s0.getD i4.toNat 0) false _ (by rfl) (by rfl) (by rfl) (by rfl) (by rfl)
      · simp -implicitDefEqProofs only [yc1, yc2, yc3, setA, setB, za, zb, zc, zd, ze, zf, zg, zh, zi, zj, zk, zl, zm, zn, zo, zp, reduceCtorEq, zE, ↓reduceIte]
        refine brB (fun yc13 => ?_) (fun yc13 => ?_)
        · simp -implicitDefEqProofs only [yc1, yc2, yc3, yc13, setA, setB, za, zb, zc, zd, ze, zf, zg, zh, zi, zj, zk, zl, zm, zn, zo, zp, reduceCtorEq, zE, ↓reduceIte]
          refine brB (fun yc14 => ?_) (fun yc14 => ?_)
          · simp -implicitDefEqProofs only [yc1, yc2, yc3, yc13, yc14, setA, setB, za, zb, zc, zd, ze, zf, zg, zh, zi, zj, zk, zl, zm, zn, zo, zp, reduceCtorEq, zE, ↓reduceIte]
            exact j41_21_t s0 signs3 i4 (s0.getD i4.toNat 0) true _ (by rfl) (by rfl) (by rfl) (by rfl) (by rfl)
          · simp -implicitDefEqProofs only [yc1, yc2, yc3, yc13, yc14, setA, setB, za, zb, zc, zd, ze, zf, zg, zh, zi, zj, zk, zl, zm, zn, zo, zp, reduceCtorEq, zE, ↓reduceIte]
            refine brB (fun yc15 => ?_) (fun yc15 => ?_)
            · simp -implicitDefEqProofs only [yc1, yc2, yc3, yc13, yc14, yc15, setA, setB, za, zb, zc, zd, ze, zf, zg, zh, zi, zj, zk, zl, zm, zn, zo, zp, reduceCtorEq, zE, ↓reduceIte]
              exact j41_21_t s0 signs3 i4 (s0.getD i4.toNat 0) (decide ((s0.getD i4.toNat 0) ≤ (57 : UInt8))) _ (by rfl) (by rfl) (by rfl) (by rfl) (by rfl)
            · simp -implicitDefEqProofs only [yc1, yc2, yc3, yc13, yc14, yc15, setA, setB, za, zb, zc, zd, ze, zf, zg, zh, zi, zj, zk, zl, zm, zn, zo, zp, reduceCtorEq, zE, ↓reduceIte]
              exact j41_21_t s0 signs3 i4 (s0.getD i4.toNat 0) false _ (by rfl) (by rfl) (by rfl) (by rfl) (by rfl)
        · simp -implicitDefEqProofs only [yc1, yc2, yc3, yc13, setA, setB, za, zb, zc, zd, ze, zf, zg, zh, zi, zj, zk, zl, zm, zn, zo, zp, reduceCtorEq, zE, ↓reduceIte]
          refine brB (fun yc16 => ?_) (fun yc16 => ?_)
          · simp -implicitDefEqProofs only [yc1, yc2, yc3, yc13, yc16, setA, setB, za, zb, zc, zd, ze, zf, zg, zh, zi, zj, zk, zl, zm, zn, zo, zp, reduceCtorEq, zE, ↓reduceIte]
            exact j41_21_t s0 signs3 i4 (s0.getD i4.toNat 0) (decide ((s0.getD i4.toNat 0) ≤ (57 : UInt8))) _ (by rfl) (by rfl) (by rfl) (by rfl) (by rfl)
          · simp -implicitDefEqProofs only [yc1, yc2, yc3, yc13, yc16, setA, setB, za, zb, zc, zd, ze, zf, zg, zh, zi, zj, zk, zl, zm, zn, zo, zp, reduceCtorEq, zE, ↓reduceIte]
            exact j41_21_t s0 signs3 i4 (s0.getD i4.toNat 0) false _ (by rfl) (by rfl) (by rfl) (by rfl) (by rfl)
    · rw [if_neg yc2]; rfl
  · simp -implicitDefEqProofs only [c41_14_e, K41_8, yc1, setA, setB, za, zb, zc, zd, ze, zf, zg, zh, zi, zj, zk, zl, zm, zn, zo, zp, reduceCtorEq, zE, ↓reduceIte]
    exact mi (j41_44_t s0 _ (by rfl))
def l41_8 (s0 signs3 : Bs) (i4 : Int) : Option R41 := iter (fun x : (Bs × Bs × Int) => s41_8 x.1 x.2.1 x.2.2) (s0, signs3, i4)
theorem l41_8_t (s0 signs3 : Bs) (i4 : Int) : bodyD (E0 mm) [.tmp 2] 0 false (seqD (E0 mm) 41 0 (callW (E0 mm)) itW c41_44 (blockD 0 (itW (loopF (E0 mm) 41 0 (callW (E0 mm)) itW c41_9 [(0, .keep), (3, .keep), (4, .keep)]) (none, [.v (.c (.d (.sc (.string (S s0))))), .v (.c (.d (.sc (.string (S signs3))))), .v (.c (.d (.sc (.int .i64 i4))))], [])))) = (l41_8 s0 signs3 i4).map e41 :=
  it_sim (K := (K41_8 (mm := mm))) rfl (enc := en41_8) (fun x => s41_8_t x.1 x.2.1 x.2.2) (s0, signs3, i4)
def m41 (s : Bs) : Option R41 :=
  l41_8 s ([33, 35, 36, 37, 38, 39, 42, 43, 45, 46, 94, 95, 96, 124, 126] : Bs) (0 : Int)
theorem f41_t (s : Bs) :
    callW (E0 mm) 41 [.c (.d (.sc (.string (S s))))] [] = (m41 s).map e41 := by
  rw [callW_run (body := c41_0) (res := [.tmp 2]) Tryd.func41 rfl rfl (by kernel_rfl)]
  simp -implicitDefEqProofs only [m41, slots1, c41_0_e, c41_1_r, (show opsOf c41_1 = _ :: _ from rfl), c41_2_e, c41_3_r, (show opsOf c41_3 = _ :: _ from rfl), c41_4_e, c41_5_e, c41_6_r, (show opsOf c41_6 = _ :: _ from rfl), c41_7_e, c41_8_l, setA, setB, za, zb, zc, zd, ze, zf, zg, zh, zi, zj, zk, zl, zm, zn, zo, zp, reduceCtorEq, zE, ↓reduceIte]
  exact l41_8_t s ([33, 35, 36, 37, 38, 39, 42, 43, 45, 46, 94, 95, 96, 124, 126] : Bs) (0 : Int)
noncomputable def c50_0 : Code := bodyOf Tryd.f50
def c50_1 := cA c50_0
def c50_2 := cB c50_0
def c50_3 := cA c50_2
def c50_4 := cB c50_2
theorem c50_0_e : c50_0 = .seq c50_1 c50_2 := rfl
theorem c50_1_r : RG (E0 mm) 50 c50_1 := rgN rfl
theorem c50_2_e : c50_2 = .seq c50_3 c50_4 := rfl
theorem c50_3_r : RG (E0 mm) 50 c50_3 := rgN rfl
theorem c50_4_e : c50_4 = .ret := rfl
abbrev R50 := (Bool)
def e50 : R50 → AV × Heap := fun x => (.v (.c (.d (.sc (.bool x)))), [])
def m50 (c : UInt8) : Option R50 :=
  if (c == (9 : UInt8)) = true then
    some true
  else
    if (decide ((32 : UInt8) ≤ c)) = true then
      if (decide (c ≤ (126 : UInt8))) = true then
        some true
      else
        some (decide ((128 : UInt8) ≤ c))
    else
      some (decide ((128 : UInt8) ≤ c))
theorem f50_t (c : UInt8) :
    callW (E0 mm) 50 [.c (.d (.sc (.int .u8 ((c).toNat : Int))))] [] = (m50 c).map e50 := by
  rw [callW_run (body := c50_0) (res := [.tmp 2]) Tryd.func50 rfl rfl (by kernel_rfl)]
  simp -implicitDefEqProofs only [m50, slots1, c50_0_e, c50_1_r, (show opsOf c50_1 = _ :: _ from rfl), c50_2_e, c50_3_r, (show opsOf c50_3 = _ :: _ from rfl), setA, setB, za, zb, zc, zd, ze, zf, zg, zh, zi, zj, zk, zl, zm, zn, zo, zp, reduceCtorEq, zE, ↓reduceIte]
  refine brB (fun yc1 => ?_) (fun yc1 => ?_)
  · simp -implicitDefEqProofs only [c50_4_e, yc1, setA, setB, za, zb, zc, zd, ze, zf, zg, zh, zi, zj, zk, zl, zm, zn, zo, zp, reduceCtorEq, zE, ↓reduceIte]
    all_goals rfl
  · simp -implicitDefEqProofs only [yc1, setA, setB, za, zb, zc, zd, ze, zf, zg, zh, zi, zj, zk, zl, zm, zn, zo, zp, reduceCtorEq, zE, ↓reduceIte]
    refine brB (fun yc2 => ?_) (fun yc2 => ?_)
    · simp -implicitDefEqProofs only [yc1, yc2, setA, setB, za, zb, zc, zd, ze, zf, zg, zh, zi, zj, zk, zl, zm, zn, zo, zp, reduceCtorEq, zE, ↓reduceIte]
      refine brB (fun yc3 => ?_) (fun yc3 => ?_)
      · simp -implicitDefEqProofs only [c50_4_e, yc1, yc2, yc3, setA, setB, za, zb, zc, zd, ze, zf, zg, zh, zi, zj, zk, zl, zm, zn, zo, zp, reduceCtorEq, zE, ↓reduceIte]
        all_goals rfl
      · simp -implicitDefEqProofs only [c50_4_e, yc1, yc2, yc3, setA, setB, za, zb, zc, zd, ze, zf, zg, zh, zi, zj, zk, zl, zm, zn, zo, zp, reduceCtorEq, zE, ↓reduceIte]
        all_goals rfl
    · simp -implicitDefEqProofs only [c50_4_e, yc1, yc2, setA, setB, za, zb, zc, zd, ze, zf, zg, zh, zi, zj, zk, zl, zm, zn, zo, zp, reduceCtorEq, zE, ↓reduceIte]
      all_goals rfl
noncomputable def c42_0 : Code := bodyOf Tryd.f42
def c42_1 := cA c42_0
def c42_2 := cB c42_0
def c42_3 := cA c42_2
def c42_4 := cA c42_3
def c42_5 := cB c42_3
def c42_6 := cA c42_5
def c42_7 := cA c42_6
def c42_8 := cB c42_6
def c42_9 := cB c42_5
def c42_10 := cB c42_2
def c42_11 := cA c42_10
def c42_12 := cB c42_10
def c42_13 := cA c42_12
def c42_14 := cB c42_12
def c42_15 := cA c42_14
def c42_16 := cA c42_15
def c42_17 := cA c42_16
def c42_18 := cA c42_17
def c42_19 := cA c42_18
def c42_20 := cB c42_18
def c42_21 := cA c42_20
def c42_22 := cB c42_20
def c42_23 := cB c42_17
def c42_24 := cA c42_23
def c42_25 := cA c42_24
def c42_26 := cA c42_25
def c42_27 := cB c42_25
def c42_28 := cA c42_27
def c42_29 := cB c42_27
def c42_30 := cB c42_24
def c42_31 := cA c42_30
def c42_32 := cA c42_31
def c42_33 := cB c42_31
def c42_34 := cA c42_33
def c42_35 := cA c42_34
def c42_36 := cB c42_34
def c42_37 := cB c42_33
def c42_38 := cB c42_30
def c42_39 := cA c42_38
def c42_40 := cB c42_38
def c42_41 := cB c42_14
def c42_42 := cA c42_41
def c42_43 := cA c42_42
def c42_44 := cB c42_42
def c42_45 := cA c42_44
def c42_46 := cA c42_45
def c42_47 := cB c42_45
def c42_48 := cB c42_44
def c42_49 := cB c42_41
def c42_50 := cA c42_49
def c42_51 := cB c42_49
theorem c42_0_e : c42_0 = .seq c42_1 c42_2 := rfl
theorem c42_1_r : RG (E0 mm) 42 c42_1 := rgN rfl
theorem c42_2_e : c42_2 = .seq c42_3 c42_10 := rfl
theorem c42_3_e : c42_3 = .seq c42_4 c42_5 := rfl
theorem c42_4_r : RG (E0 mm) 42 c42_4 := rgN rfl
theorem c42_6_e : c42_6 = .seq c42_7 c42_8 := rfl
theorem c42_7_r : RG (E0 mm) 42 c42_7 := rgN rfl
theorem c42_8_e : c42_8 = .ret := rfl
theorem c42_9_e : c42_9 = .skip := rfl
theorem c42_10_e : c42_10 = .seq c42_11 c42_12 := rfl
theorem c42_11_r : RG (E0 mm) 42 c42_11 := rgN rfl
theorem c42_12_e : c42_12 = .seq c42_13 c42_14 := rfl
theorem c42_13_r : RG (E0 mm) 42 c42_13 := rgN rfl
theorem c42_14_e : c42_14 = .seq c42_15 c42_41 := rfl
theorem c42_15_e : c42_15 = .block 0 c42_16 := rfl
theorem c42_16_l (m : Nat) (st : St) : den (E0 mm) 42 m (callW (E0 mm)) itW c42_16 none st = loopD itW (loopF (E0 mm) 42 m (callW (E0 mm)) itW c42_17 [(0, .keep), (4, .own), (5, .keep)]) (canon m [(0, .keep), (4, .own), (5, .keep)] st) := rfl
theorem c42_17_e : c42_17 = .seq c42_18 c42_23 := rfl
theorem c42_18_e : c42_18 = .seq c42_19 c42_20 := rfl
theorem c42_19_r : RG (E0 mm) 42 c42_19 := rgN rfl
theorem c42_21_e : c42_21 = .skip := rfl
theorem c42_22_e : c42_22 = .exit 0 := rfl
theorem c42_23_e : c42_23 = .block 1 c42_24 := rfl
theorem c42_24_e : c42_24 = .seq c42_25 c42_30 := rfl
theorem c42_25_e : c42_25 = .seq c42_26 c42_27 := rfl
theorem c42_26_r : RG (E0 mm) 42 c42_26 := rgN rfl
theorem c42_28_r : RG (E0 mm) 42 c42_28 := rgN rfl
theorem c42_29_e : c42_29 = .skip := rfl
theorem c42_30_e : c42_30 = .seq c42_31 c42_38 := rfl
theorem c42_31_e : c42_31 = .seq c42_32 c42_33 := rfl
theorem c42_32_r : RG (E0 mm) 42 c42_32 := rgN rfl
theorem c42_34_e : c42_34 = .seq c42_35 c42_36 := rfl
theorem c42_35_r : RG (E0 mm) 42 c42_35 := rgN rfl
theorem c42_36_e : c42_36 = .ret := rfl
theorem c42_37_e : c42_37 = .skip := rfl
theorem c42_38_e : c42_38 = .seq c42_39 c42_40 := rfl
theorem c42_39_r : RG (E0 mm) 42 c42_39 := rgN rfl
theorem c42_40_r : RG (E0 mm) 42 c42_40 := rgN rfl
theorem c42_41_e : c42_41 = .seq c42_42 c42_49 := rfl
theorem c42_42_e : c42_42 = .seq c42_43 c42_44 := rfl
theorem c42_43_r : RG (E0 mm) 42 c42_43 := rgN rfl
theorem c42_45_e : c42_45 = .seq c42_46 c42_47 := rfl
theorem c42_46_r : RG (E0 mm) 42 c42_46 := rgN rfl
theorem c42_47_e : c42_47 = .ret := rfl
theorem c42_48_e : c42_48 = .skip := rfl
theorem c42_49_e : c42_49 = .seq c42_50 c42_51 := rfl
theorem c42_50_r : RG (E0 mm) 42 c42_50 := rgN rfl
theorem c42_51_e : c42_51 = .ret := rfl
abbrev R42 := (Bs × Bool)
def e42 : R42 → AV × Heap := fun x => (.tup [.c (.d (.sc (.string (S x.1)))), .c (.d (.sc (.bool x.2)))], [])
def K42_16 : Option (Ex × St) → Option (AV × Heap) := fun r => bodyD (E0 mm) [.tmp 2, .tmp 3] 0 false (seqD (E0 mm) 42 0 (callW (E0 mm)) itW c42_41 (blockD 0 (r)))
def en42_16 : (Bs × Bool × List UInt8 × Int) → X := fun x => (none, [.v (.c (.d (.sc (.string (S x.1))))), .v (.c (.own x.2.1 (enL enB x.2.2.1) 0)), .v (.c (.d (.sc (.int .i64 x.2.2.2))))], [.row x.2.2.1.length (rz x.2.1 1)])
def j42_33 (s0 : Bs) (b4_0 : Bool) (b4_1 : List UInt8) (at5 : Int) (t40 : Bool) : Option ((Bs × Bool × List UInt8 × Int) ⊕ R42) :=
  if t40 = true then
    some (.inr (([] : Bs), false))
  else
    if 0 ≤ at5 ∧ at5 < (s0.length : Int) then
      if (b4_1.length + 1) * 1 ≤ 140737488355328 then
        some (.inl (s0, false, (b4_1 ++ ([(s0.getD at5.toNat 0)] : List UInt8)), (w64 (at5 + 1))))
      else none
    else none
theorem j42_33_t (s0 : Bs) (b4_0 : Bool) (b4_1 : List UInt8) (at5 : Int) (t40 : Bool)  (sl : Nat → AV) (zq0 : sl 0 = .v (.c (.d (.sc (.string (S s0)))))) (zq4 : sl 4 = .v (.c (.own b4_0 (enL enB b4_1) 0))) (zq5 : sl 5 = .v (.c (.d (.sc (.int .i64 at5))))) (zq40 : sl 40 = .v (.c (.d (.sc (.bool t40))))) :
    stepE (K42_16 (mm := mm)) (loopK 0 [(0, .keep), (4, .own), (5, .keep)] (blockD 1 (seqD (E0 mm) 42 0 (callW (E0 mm)) itW c42_38 (den (E0 mm) 42 0 (callW (E0 mm)) itW c42_33 none ⟨sl, [.row b4_1.length (rz b4_0 1)]⟩)))) = (j42_33 s0 b4_0 b4_1 at5 t40).map (sm en42_16 e42) := by
  simp -implicitDefEqProofs only [j42_33, (show c42_33 = Code.cond _ c42_34 c42_37 from rfl), zq0, zq4, zq5, zq40, setA, setB, za, zb, zc, zd, ze, zf, zg, zh, zi, zj, zk, zl, zm, zn, zo, zp, reduceCtorEq, zE, ↓reduceIte]
  refine brB (fun yc9 => ?_) (fun yc9 => ?_)
  · simp -implicitDefEqProofs only [c42_34_e, c42_35_r, (show opsOf c42_35 = _ :: _ from rfl), c42_36_e, K42_16, zq0, zq4, zq5, zq40, yc9, setA, setB, za, zb, zc, zd, ze, zf, zg, zh, zi, zj, zk, zl, zm, zn, zo, zp, reduceCtorEq, zE, ↓reduceIte]
    all_goals rfl
  · simp -implicitDefEqProofs only [c42_37_e, c42_38_e, c42_39_r, (show opsOf c42_39 = _ :: _ from rfl), Tryd.underlying9, zq0, zq4, zq5, zq40, yc9, setA, setB, za, zb, zc, zd, ze, zf, zg, zh, zi, zj, zk, zl, zm, zn, zo, zp, reduceCtorEq, zE, ↓reduceIte]
    refine brP (fun yc10 => ?_) (fun yc10 => ?_)
    · simp -implicitDefEqProofs only [Tryd.underlying36, sz5, zc5, hd51, nv52, rw53, ns21, ap36, zq0, zq4, zq5, zq40, yc9, yc10, setA, setB, za, zb, zc, zd, ze, zf, zg, zh, zi, zj, zk, zl, zm, zn, zo, zp, reduceCtorEq, zE, ↓reduceIte]
      refine brP (fun yc11 => ?_) (fun yc11 => ?_)
      · simp -implicitDefEqProofs only [c42_40_r, (show opsOf c42_40 = _ :: _ from rfl), zq0, zq4, zq5, zq40, yc9, yc10, yc11, setA, setB, za, zb, zc, zd, ze, zf, zg, zh, zi, zj, zk, zl, zm, zn, zo, zp, reduceCtorEq, zE, ↓reduceIte]
        all_goals rfl
      · rw [if_neg yc11]; rfl
    · rw [if_neg yc10]; rfl
def j42_30 (s0 : Bs) (b4_0 : Bool) (b4_1 : List UInt8) (at5 : Int) : Option ((Bs × Bool × List UInt8 × Int) ⊕ R42) :=
  if (decide ((s0.length : Int) ≤ at5)) = true then
    j42_33 s0 b4_0 b4_1 at5 true
  else
    if 0 ≤ at5 ∧ at5 < (s0.length : Int) then
      (m50 (s0.getD at5.toNat 0)).bind fun yr14 =>
        j42_33 s0 b4_0 b4_1 at5 (!yr14)
    else none
theorem j42_30_t (s0 : Bs) (b4_0 : Bool) (b4_1 : List UInt8) (at5 : Int)  (sl : Nat → AV) (zq0 : sl 0 = .v (.c (.d (.sc (.string (S s0)))))) (zq4 : sl 4 = .v (.c (.own b4_0 (enL enB b4_1) 0))) (zq5 : sl 5 = .v (.c (.d (.sc (.int .i64 at5))))) :
    stepE (K42_16 (mm := mm)) (loopK 0 [(0, .keep), (4, .own), (5, .keep)] (blockD 1 (den (E0 mm) 42 0 (callW (E0 mm)) itW c42_30 none ⟨sl, [.row b4_1.length (rz b4_0 1)]⟩))) = (j42_30 s0 b4_0 b4_1 at5).map (sm en42_16 e42) := by
  simp -implicitDefEqProofs only [j42_30, c42_30_e, c42_31_e, c42_32_r, (show opsOf c42_32 = _ :: _ from rfl), Tryd.underlying9, zq0, zq4, zq5, setA, setB, za, zb, zc, zd, ze, zf, zg, zh, zi, zj, zk, zl, zm, zn, zo, zp, reduceCtorEq, zE, ↓reduceIte]
  refine brB (fun yc8 => ?_) (fun yc8 => ?_)
  · simp -implicitDefEqProofs only [zq0, zq4, zq5, yc8, setA, setB, za, zb, zc, zd, ze, zf, zg, zh, zi, zj, zk, zl, zm, zn, zo, zp, reduceCtorEq, zE, ↓reduceIte]
    exact j42_33_t s0 b4_0 b4_1 at5 true _ (by exact zq0) (by exact zq4) (by exact zq5) (by rfl)
  · simp -implicitDefEqProofs only [Tryd.underlying9, zq0, zq4, zq5, yc8, setA, setB, za, zb, zc, zd, ze, zf, zg, zh, zi, zj, zk, zl, zm, zn, zo, zp, reduceCtorEq, zE, ↓reduceIte]
    refine brP (fun yc12 => ?_) (fun yc12 => ?_)
    · simp -implicitDefEqProofs only [ent50, prm50, f50_t, zq0, zq4, zq5, yc8, yc12, setA, setB, za, zb, zc, zd, ze, zf, zg, zh, zi, zj, zk, zl, zm, zn, zo, zp, reduceCtorEq, zE, ↓reduceIte]
      refine brM (fun yc13 => ?_) (fun yr14 yc13 => ?_)
      · rw [yc13]; rfl
      · simp -implicitDefEqProofs only [e50, zq0, zq4, zq5, yc8, yc12, yc13, setA, setB, za, zb, zc, zd, ze, zf, zg, zh, zi, zj, zk, zl, zm, zn, zo, zp, reduceCtorEq, zE, ↓reduceIte]
        exact j42_33_t s0 b4_0 b4_1 at5 (!yr14) _ (by exact zq0) (by exact zq4) (by exact zq5) (by rfl)
    · rw [if_neg yc12]; rfl
def j42_41 (s0 : Bs) (b4_0 : Bool) (b4_1 : List UInt8) (at5 : Int) : Option R42 :=
  if (at5 == (w64 ((s0.length : Int) - 1))) = true then
    some (b4_1, true)
  else
    some (([] : Bs), false)
theorem j42_41_t (s0 : Bs) (b4_0 : Bool) (b4_1 : List UInt8) (at5 : Int)  (sl : Nat → AV) (zq0 : sl 0 = .v (.c (.d (.sc (.string (S s0)))))) (zq4 : sl 4 = .v (.c (.own b4_0 (enL enB b4_1) 0))) (zq5 : sl 5 = .v (.c (.d (.sc (.int .i64 at5))))) :
    bodyD (E0 mm) [.tmp 2, .tmp 3] 0 false (den (E0 mm) 42 0 (callW (E0 mm)) itW c42_41 none ⟨sl, [.row b4_1.length (rz b4_0 1)]⟩) = (j42_41 s0 b4_0 b4_1 at5).map e42 := by
  simp -implicitDefEqProofs only [j42_41, c42_41_e, c42_42_e, c42_43_r, (show opsOf c42_43 = _ :: _ from rfl), Tryd.underlying9, (show c42_44 = Code.cond _ c42_45 c42_48 from rfl), zq0, zq4, zq5, setA, setB, za, zb, zc, zd, ze, zf, zg, zh, zi, zj, zk, zl, zm, zn, zo, zp, reduceCtorEq, zE, ↓reduceIte]
  refine brB (fun yc15 => ?_) (fun yc15 => ?_)
  · simp -implicitDefEqProofs only [c42_48_e, c42_49_e, c42_50_r, (show opsOf c42_50 = _ :: _ from rfl), Tryd.underlying36, Tryd.underlying9, Tryd.underlying5, c42_51_e, zq0, zq4, zq5, yc15, setA, setB, za, zb, zc, zd, ze, zf, zg, zh, zi, zj, zk, zl, zm, zn, zo, zp, reduceCtorEq, zE, ↓reduceIte]
    all_goals rfl
  · simp -implicitDefEqProofs only [c42_45_e, c42_46_r, (show opsOf c42_46 = _ :: _ from rfl), c42_47_e, zq0, zq4, zq5, yc15, setA, setB, za, zb, zc, zd, ze, zf, zg, zh, zi, zj, zk, zl, zm, zn, zo, zp, reduceCtorEq, zE, ↓reduceIte]
    all_goals rfl
def j42_20 (s0 : Bs) (b4_0 : Bool) (b4_1 : List UInt8) (at5 : Int) (t23 : Bool) : Option ((Bs × Bool × List UInt8 × Int) ⊕ R42) :=
  if t23 = true then
    if 0 ≤ at5 ∧ at5 < (s0.length : Int) then
      if ((s0.getD at5.toNat 0) == (92 : UInt8)) = true then
        j42_30 s0 b4_0 b4_1 (w64 (at5 + 1))
      else
        j42_30 s0 b4_0 b4_1 at5
    else none
  else
    (j42_41 s0 b4_0 b4_1 at5).map .inr
theorem j42_20_t (s0 : Bs) (b4_0 : Bool) (b4_1 : List UInt8) (at5 : Int) (t23 : Bool)  (sl : Nat → AV) (zq0 : sl 0 = .v (.c (.d (.sc (.string (S s0)))))) (zq4 : sl 4 = .v (.c (.own b4_0 (enL enB b4_1) 0))) (zq5 : sl 5 = .v (.c (.d (.sc (.int .i64 at5))))) (zq23 : sl 23 = .v (.c (.d (.sc (.bool t23))))) :
    stepE (K42_16 (mm := mm)) (loopK 0 [(0, .keep), (4, .own), (5, .keep)] (seqD (E0 mm) 42 0 (callW (E0 mm)) itW c42_23 (den (E0 mm) 42 0 (callW (E0 mm)) itW c42_20 none ⟨sl, [.row b4_1.length (rz b4_0 1)]⟩))) = (j42_20 s0 b4_0 b4_1 at5 t23).map (sm en42_16 e42) := by
  simp -implicitDefEqProofs only [j42_20, (show c42_20 = Code.cond _ c42_21 c42_22 from rfl), zq0, zq4, zq5, zq23, setA, setB, za, zb, zc, zd, ze, zf, zg, zh, zi, zj, zk, zl, zm, zn, zo, zp, reduceCtorEq, zE, ↓reduceIte]
  refine brB (fun yc5 => ?_) (fun yc5 => ?_)
  · simp -implicitDefEqProofs only [c42_21_e, c42_23_e, c42_24_e, c42_25_e, c42_26_r, (show opsOf c42_26 = _ :: _ from rfl), Tryd.underlying9, zq0, zq4, zq5, zq23, yc5, setA, setB, za, zb, zc, zd, ze, zf, zg, zh, zi, zj, zk, zl, zm, zn, zo, zp, reduceCtorEq, zE, ↓reduceIte]
    refine brP (fun yc6 => ?_) (fun yc6 => ?_)
    · simp -implicitDefEqProofs only [(show c42_27 = Code.cond _ c42_28 c42_29 from rfl), zq0, zq4, zq5, zq23, yc5, yc6, setA, setB, za, zb, zc, zd, ze, zf, zg, zh, zi, zj, zk, zl, zm, zn, zo, zp, reduceCtorEq, zE, ↓reduceIte]
      refine brB (fun yc7 => ?_) (fun yc7 => ?_)
      · simp -implicitDefEqProofs only [c42_28_r, (show opsOf c42_28 = _ :: _ from rfl), zq0, zq4, zq5, zq23, yc5, yc6, yc7, setA, setB, za, zb, zc, zd, ze, zf, zg, zh, zi, zj, zk, zl, zm, zn, zo, zp, reduceCtorEq, zE, ↓reduceIte]
        exact j42_30_t s0 b4_0 b4_1 (w64 (at5 + 1)) _ (by exact zq0) (by exact zq4) (by rfl)
      · simp -implicitDefEqProofs only [c42_29_e, zq0, zq4, zq5, zq23, yc5, yc6, yc7, setA, setB, za, zb, zc, zd, ze, zf, zg, zh, zi, zj, zk, zl, zm, zn, zo, zp, reduceCtorEq, zE, ↓reduceIte]
        exact j42_30_t s0 b4_0 b4_1 at5 _ (by exact zq0) (by exact zq4) (by exact zq5)
    · rw [if_neg yc6]; rfl
  · simp -implicitDefEqProofs only [c42_22_e, K42_16, zq0, zq4, zq5, zq23, yc5, setA, setB, za, zb, zc, zd, ze, zf, zg, zh, zi, zj, zk, zl, zm, zn, zo, zp, reduceCtorEq, zE, ↓reduceIte]
    exact mi (j42_41_t s0 b4_0 b4_1 at5 _ (by exact zq0) (by exact zq4) (by exact zq5))
def s42_16 (s0 : Bs) (b4_0 : Bool) (b4_1 : List UInt8) (at5 : Int) : Option ((Bs × Bool × List UInt8 × Int) ⊕ R42) :=
  if (decide (at5 < (s0.length : Int))) = true then
    if 0 ≤ at5 ∧ at5 < (s0.length : Int) then
      j42_20 s0 b4_0 b4_1 at5 (!((s0.getD at5.toNat 0) == (34 : UInt8)))
    else none
  else
    j42_20 s0 b4_0 b4_1 at5 false
theorem s42_16_t (s0 : Bs) (b4_0 : Bool) (b4_1 : List UInt8) (at5 : Int) :
    stepE (K42_16 (mm := mm)) (loopF (E0 mm) 42 0 (callW (E0 mm)) itW c42_17 [(0, .keep), (4, .own), (5, .keep)] (none, [.v (.c (.d (.sc (.string (S s0))))), .v (.c (.own b4_0 (enL enB b4_1) 0)), .v (.c (.d (.sc (.int .i64 at5))))], [.row b4_1.length (rz b4_0 1)])) = (s42_16 s0 b4_0 b4_1 at5).map (sm en42_16 e42) := by
  simp -implicitDefEqProofs only [s42_16, loopF_eq, c42_17_e, c42_18_e, c42_19_r, (show opsOf c42_19 = _ :: _ from rfl), Tryd.underlying9, setA, setB, za, zb, zc, zd, ze, zf, zg, zh, zi, zj, zk, zl, zm, zn, zo, zp, reduceCtorEq, zE, ↓reduceIte]
  refine brB (fun yc3 => ?_) (fun yc3 => ?_)
  · simp -implicitDefEqProofs only [Tryd.underlying9, yc3, setA, setB, za, zb, zc, zd, ze, zf, zg, zh, zi, zj, zk, zl, zm, zn, zo, zp, reduceCtorEq, zE, ↓reduceIte]
    refine brP (fun yc4 => ?_) (fun yc4 => ?_)
    · simp -implicitDefEqProofs only [yc3, yc4, setA, setB, za, zb, zc, zd, ze, zf, zg, zh, zi, zj, zk, zl, zm, zn, zo, zp, reduceCtorEq, zE, ↓reduceIte]
      exact j42_20_t s0 b4_0 b4_1 at5 (!((s0.getD at5.toNat 0) == (34 : UInt8))) _ (by rfl) (by rfl) (by rfl) (by rfl)
    · rw [if_neg yc4]; rfl
  · simp -implicitDefEqProofs only [yc3, setA, setB, za, zb, zc, zd, ze, zf, zg, zh, zi, zj, zk, zl, zm, zn, zo, zp, reduceCtorEq, zE, ↓reduceIte]
    exact j42_20_t s0 b4_0 b4_1 at5 false _ (by rfl) (by rfl) (by rfl) (by rfl)
def l42_16 (s0 : Bs) (b4_0 : Bool) (b4_1 : List UInt8) (at5 : Int) : Option R42 := iter (fun x : (Bs × Bool × List UInt8 × Int) => s42_16 x.1 x.2.1 x.2.2.1 x.2.2.2) (s0, b4_0, b4_1, at5)
theorem l42_16_t (s0 : Bs) (b4_0 : Bool) (b4_1 : List UInt8) (at5 : Int) : bodyD (E0 mm) [.tmp 2, .tmp 3] 0 false (seqD (E0 mm) 42 0 (callW (E0 mm)) itW c42_41 (blockD 0 (itW (loopF (E0 mm) 42 0 (callW (E0 mm)) itW c42_17 [(0, .keep), (4, .own), (5, .keep)]) (none, [.v (.c (.d (.sc (.string (S s0))))), .v (.c (.own b4_0 (enL enB b4_1) 0)), .v (.c (.d (.sc (.int .i64 at5))))], [.row b4_1.length (rz b4_0 1)])))) = (l42_16 s0 b4_0 b4_1 at5).map e42 :=
  it_sim (K := (K42_16 (mm := mm))) rfl (enc := en42_16) (fun x => s42_16_t x.1 x.2.1 x.2.2.1 x.2.2.2) (s0, b4_0, b4_1, at5)
def j42_5 (s0 : Bs) (t13 : Bool) : Option R42 :=
  if t13 = true then
    some (([] : Bs), false)
  else
    l42_16 s0 true ([] : List UInt8) (1 : Int)
theorem j42_5_t (s0 : Bs) (t13 : Bool)  (sl : Nat → AV) (zq0 : sl 0 = .v (.c (.d (.sc (.string (S s0)))))) (zq13 : sl 13 = .v (.c (.d (.sc (.bool t13))))) :
    bodyD (E0 mm) [.tmp 2, .tmp 3] 0 false (seqD (E0 mm) 42 0 (callW (E0 mm)) itW c42_10 (den (E0 mm) 42 0 (callW (E0 mm)) itW c42_5 none ⟨sl, []⟩)) = (j42_5 s0 t13).map e42 := by
  simp -implicitDefEqProofs only [j42_5, (show c42_5 = Code.cond _ c42_6 c42_9 from rfl), zq0, zq13, setA, setB, za, zb, zc, zd, ze, zf, zg, zh, zi, zj, zk, zl, zm, zn, zo, zp, reduceCtorEq, zE, ↓reduceIte]
  refine brB (fun yc2 => ?_) (fun yc2 => ?_)
  · simp -implicitDefEqProofs only [c42_6_e, c42_7_r, (show opsOf c42_7 = _ :: _ from rfl), c42_8_e, zq0, zq13, yc2, setA, setB, za, zb, zc, zd, ze, zf, zg, zh, zi, zj, zk, zl, zm, zn, zo, zp, reduceCtorEq, zE, ↓reduceIte]
    all_goals rfl
  · simp -implicitDefEqProofs only [c42_9_e, c42_10_e, c42_11_r, (show opsOf c42_11 = _ :: _ from rfl), c42_12_e, c42_13_r, (show opsOf c42_13 = _ :: _ from rfl), c42_14_e, c42_15_e, c42_16_l, zq0, zq13, yc2, setA, setB, za, zb, zc, zd, ze, zf, zg, zh, zi, zj, zk, zl, zm, zn, zo, zp, reduceCtorEq, zE, ↓reduceIte]
    exact l42_16_t s0 true ([] : List UInt8) (1 : Int)
def m42 (s : Bs) : Option R42 :=
  if ((s.length : Int) == 0) = true then
    j42_5 s true
  else
    if (0 : Int) < (s.length : Int) then
      j42_5 s (!((s.getD 0 0) == (34 : UInt8)))
    else none
theorem f42_t (s : Bs) :
    callW (E0 mm) 42 [.c (.d (.sc (.string (S s))))] [] = (m42 s).map e42 := by
  rw [callW_run (body := c42_0) (res := [.tmp 2, .tmp 3]) Tryd.func42 rfl rfl (by kernel_rfl)]
  simp -implicitDefEqProofs only [m42, slots1, c42_0_e, c42_1_r, (show opsOf c42_1 = _ :: _ from rfl), c42_2_e, c42_3_e, c42_4_r, (show opsOf c42_4 = _ :: _ from rfl), Tryd.underlying9, setA, setB, za, zb, zc, zd, ze, zf, zg, zh, zi, zj, zk, zl, zm, zn, zo, zp, reduceCtorEq, zE, ↓reduceIte]
  refine brB (fun yc1 => ?_) (fun yc1 => ?_)
  · simp -implicitDefEqProofs only [yc1, setA, setB, za, zb, zc, zd, ze, zf, zg, zh, zi, zj, zk, zl, zm, zn, zo, zp, reduceCtorEq, zE, ↓reduceIte]
    exact j42_5_t s true _ (by rfl) (by rfl)
  · simp -implicitDefEqProofs only [Tryd.underlying9, yc1, setA, setB, za, zb, zc, zd, ze, zf, zg, zh, zi, zj, zk, zl, zm, zn, zo, zp, reduceCtorEq, zE, ↓reduceIte]
    refine brP (fun yc16 => ?_) (fun yc16 => ?_)
    · simp -implicitDefEqProofs only [yc1, yc16, setA, setB, za, zb, zc, zd, ze, zf, zg, zh, zi, zj, zk, zl, zm, zn, zo, zp, reduceCtorEq, zE, ↓reduceIte]
      exact j42_5_t s (!((s.getD 0 0) == (34 : UInt8))) _ (by rfl) (by rfl)
    · rw [if_neg yc16]; rfl
noncomputable def c28_0 : Code := bodyOf Tryd.f28
def c28_1 := cA c28_0
def c28_2 := cB c28_0
def c28_3 := cA c28_2
def c28_4 := cB c28_2
def c28_5 := cA c28_4
def c28_6 := cA c28_5
def c28_7 := cA c28_6
def c28_8 := cA c28_7
def c28_9 := cA c28_8
def c28_10 := cB c28_8
def c28_11 := cA c28_10
def c28_12 := cB c28_10
def c28_13 := cB c28_7
def c28_14 := cA c28_13
def c28_15 := cB c28_4
def c28_16 := cA c28_15
def c28_17 := cA c28_16
def c28_18 := cB c28_16
def c28_19 := cA c28_18
def c28_20 := cA c28_19
def c28_21 := cB c28_19
def c28_22 := cB c28_18
def c28_23 := cB c28_15
def c28_24 := cA c28_23
def c28_25 := cA c28_24
def c28_26 := cB c28_24
def c28_27 := cA c28_26
def c28_28 := cA c28_27
def c28_29 := cB c28_27
def c28_30 := cB c28_26
def c28_31 := cB c28_23
def c28_32 := cA c28_31
def c28_33 := cB c28_31
def c28_34 := cA c28_33
def c28_35 := cA c28_34
def c28_36 := cB c28_34
def c28_37 := cA c28_36
def c28_38 := cA c28_37
def c28_39 := cB c28_37
def c28_40 := cB c28_36
def c28_41 := cB c28_33
def c28_42 := cA c28_41
def c28_43 := cB c28_41
def c28_44 := cA c28_43
def c28_45 := cA c28_44
def c28_46 := cB c28_44
def c28_47 := cA c28_46
def c28_48 := cA c28_47
def c28_49 := cB c28_47
def c28_50 := cB c28_46
def c28_51 := cB c28_43
def c28_52 := cA c28_51
def c28_53 := cB c28_51
theorem c28_0_e : c28_0 = .seq c28_1 c28_2 := rfl
theorem c28_1_r : RG (E0 mm) 28 c28_1 := rgN rfl
theorem c28_2_e : c28_2 = .seq c28_3 c28_4 := rfl
theorem c28_3_r : RG (E0 mm) 28 c28_3 := rgN rfl
theorem c28_4_e : c28_4 = .seq c28_5 c28_15 := rfl
theorem c28_5_e : c28_5 = .block 0 c28_6 := rfl
theorem c28_6_l (m : Nat) (st : St) : den (E0 mm) 28 m (callW (E0 mm)) itW c28_6 none st = loopD itW (loopF (E0 mm) 28 m (callW (E0 mm)) itW c28_7 [(0, .keep), (5, .keep)]) (canon m [(0, .keep), (5, .keep)] st) := rfl
theorem c28_7_e : c28_7 = .seq c28_8 c28_13 := rfl
theorem c28_8_e : c28_8 = .seq c28_9 c28_10 := rfl
theorem c28_9_r : RG (E0 mm) 28 c28_9 := rgN rfl
theorem c28_11_e : c28_11 = .skip := rfl
theorem c28_12_e : c28_12 = .exit 0 := rfl
theorem c28_13_e : c28_13 = .block 1 c28_14 := rfl
theorem c28_14_r : RG (E0 mm) 28 c28_14 := rgN rfl
theorem c28_15_e : c28_15 = .seq c28_16 c28_23 := rfl
theorem c28_16_e : c28_16 = .seq c28_17 c28_18 := rfl
theorem c28_17_r : RG (E0 mm) 28 c28_17 := rgN rfl
theorem c28_19_e : c28_19 = .seq c28_20 c28_21 := rfl
theorem c28_20_r : RG (E0 mm) 28 c28_20 := rgN rfl
theorem c28_21_e : c28_21 = .ret := rfl
theorem c28_22_e : c28_22 = .skip := rfl
theorem c28_23_e : c28_23 = .seq c28_24 c28_31 := rfl
theorem c28_24_e : c28_24 = .seq c28_25 c28_26 := rfl
theorem c28_25_r : RG (E0 mm) 28 c28_25 := rgN rfl
theorem c28_27_e : c28_27 = .seq c28_28 c28_29 := rfl
theorem c28_28_r : RG (E0 mm) 28 c28_28 := rgN rfl
theorem c28_29_e : c28_29 = .ret := rfl
theorem c28_30_e : c28_30 = .skip := rfl
theorem c28_31_e : c28_31 = .seq c28_32 c28_33 := rfl
theorem c28_32_r : RG (E0 mm) 28 c28_32 := rgN rfl
theorem c28_33_e : c28_33 = .seq c28_34 c28_41 := rfl
theorem c28_34_e : c28_34 = .seq c28_35 c28_36 := rfl
theorem c28_35_r : RG (E0 mm) 28 c28_35 := rgN rfl
theorem c28_37_e : c28_37 = .seq c28_38 c28_39 := rfl
theorem c28_38_r : RG (E0 mm) 28 c28_38 := rgN rfl
theorem c28_39_e : c28_39 = .ret := rfl
theorem c28_40_e : c28_40 = .skip := rfl
theorem c28_41_e : c28_41 = .seq c28_42 c28_43 := rfl
theorem c28_42_r : RG (E0 mm) 28 c28_42 := rgN rfl
theorem c28_43_e : c28_43 = .seq c28_44 c28_51 := rfl
theorem c28_44_e : c28_44 = .seq c28_45 c28_46 := rfl
theorem c28_45_r : RG (E0 mm) 28 c28_45 := rgN rfl
theorem c28_47_e : c28_47 = .seq c28_48 c28_49 := rfl
theorem c28_48_r : RG (E0 mm) 28 c28_48 := rgN rfl
theorem c28_49_e : c28_49 = .ret := rfl
theorem c28_50_e : c28_50 = .skip := rfl
theorem c28_51_e : c28_51 = .seq c28_52 c28_53 := rfl
theorem c28_52_r : RG (E0 mm) 28 c28_52 := rgN rfl
theorem c28_53_e : c28_53 = .ret := rfl
abbrev R28 := (Bs × Bs × Bool)
def e28 : R28 → AV × Heap := fun x => (.tup [.c (.d (.sc (.string (S x.1)))), .c (.d (.sc (.string (S x.2.1)))), .c (.d (.sc (.bool x.2.2)))], [])
def K28_6 : Option (Ex × St) → Option (AV × Heap) := fun r => bodyD (E0 mm) [.tmp 2, .tmp 3, .tmp 4] 0 false (seqD (E0 mm) 28 0 (callW (E0 mm)) itW c28_15 (blockD 0 (r)))
def en28_6 : (Bs × Int) → X := fun x => (none, [.v (.c (.d (.sc (.string (S x.1))))), .v (.c (.d (.sc (.int .i64 x.2))))], [])
def j28_15 (s0 : Bs) (n5 : Int) : Option R28 :=
  (bnd n5 s0.length).bind fun yk5 =>
    (m41 (s0.take yk5)).bind fun yr7 =>
      if yr7 = true then
        if (n5 == (s0.length : Int)) = true then
          (m32 s0).bind fun yr11 =>
            some (yr11, ([] : Bs), true)
        else
          (bnd (w64 (n5 + 1)) s0.length).bind fun yk13 =>
            (m41 (s0.drop yk13)).bind fun yr15 =>
              if yr15 = true then
                (m32 (s0.take yk5)).bind fun yr18 =>
                  some (yr18, (s0.drop yk13), true)
              else
                (m42 (s0.drop yk13)).bind fun yr20 =>
                  if yr20.2 = true then
                    (m32 (s0.take yk5)).bind fun yr23 =>
                      some (yr23, yr20.1, true)
                  else
                    some (([] : Bs), ([] : Bs), false)
      else
        some (([] : Bs), ([] : Bs), false)
theorem j28_15_t (s0 : Bs) (n5 : Int)  (sl : Nat → AV) (zq0 : sl 0 = .v (.c (.d (.sc (.string (S s0)))))) (zq5 : sl 5 = .v (.c (.d (.sc (.int .i64 n5))))) :
    bodyD (E0 mm) [.tmp 2, .tmp 3, .tmp 4] 0 false (den (E0 mm) 28 0 (callW (E0 mm)) itW c28_15 none ⟨sl, []⟩) = (j28_15 s0 n5).map e28 := by
  simp -implicitDefEqProofs only [j28_15, c28_15_e, c28_16_e, c28_17_r, (show opsOf c28_17 = _ :: _ from rfl), Tryd.underlying9, zq0, zq5, setA, setB, za, zb, zc, zd, ze, zf, zg, zh, zi, zj, zk, zl, zm, zn, zo, zp, reduceCtorEq, zE, ↓reduceIte]
  refine brM (fun yc4 => ?_) (fun yk5 yc4 => ?_)
  · rw [yc4]; rfl
  · simp -implicitDefEqProofs only [ent41, prm41, f41_t, zq0, zq5, yc4, setA, setB, za, zb, zc, zd, ze, zf, zg, zh, zi, zj, zk, zl, zm, zn, zo, zp, reduceCtorEq, zE, ↓reduceIte]
    refine brM (fun yc6 => ?_) (fun yr7 yc6 => ?_)
    · rw [yc6]; rfl
    · simp -implicitDefEqProofs only [e41, (show c28_18 = Code.cond _ c28_19 c28_22 from rfl), zq0, zq5, yc4, yc6, setA, setB, za, zb, zc, zd, ze, zf, zg, zh, zi, zj, zk, zl, zm, zn, zo, zp, reduceCtorEq, zE, ↓reduceIte]
      refine brB (fun yc8 => ?_) (fun yc8 => ?_)
      · simp -implicitDefEqProofs only [c28_22_e, c28_23_e, c28_24_e, c28_25_r, (show opsOf c28_25 = _ :: _ from rfl), Tryd.underlying9, (show c28_26 = Code.cond _ c28_27 c28_30 from rfl), zq0, zq5, yc4, yc6, yc8, setA, setB, za, zb, zc, zd, ze, zf, zg, zh, zi, zj, zk, zl, zm, zn, zo, zp, reduceCtorEq, zE, ↓reduceIte]
        refine brB (fun yc9 => ?_) (fun yc9 => ?_)
        · simp -implicitDefEqProofs only [c28_27_e, c28_28_r, (show opsOf c28_28 = _ :: _ from rfl), ent32, prm32, f32_t, zq0, zq5, yc4, yc6, yc8, yc9, setA, setB, za, zb, zc, zd, ze, zf, zg, zh, zi, zj, zk, zl, zm, zn, zo, zp, reduceCtorEq, zE, ↓reduceIte]
          refine brM (fun yc10 => ?_) (fun yr11 yc10 => ?_)
          · rw [yc10]; rfl
          · simp -implicitDefEqProofs only [e32, c28_29_e, zq0, zq5, yc4, yc6, yc8, yc9, yc10, setA, setB, za, zb, zc, zd, ze, zf, zg, zh, zi, zj, zk, zl, zm, zn, zo, zp, reduceCtorEq, zE, ↓reduceIte]
            all_goals rfl
        · simp -implicitDefEqProofs only [c28_30_e, c28_31_e, c28_32_r, (show opsOf c28_32 = _ :: _ from rfl), Tryd.underlying9, zq0, zq5, yc4, yc6, yc8, yc9, setA, setB, za, zb, zc, zd, ze, zf, zg, zh, zi, zj, zk, zl, zm, zn, zo, zp, reduceCtorEq, zE, ↓reduceIte]
          refine brM (fun yc12 => ?_) (fun yk13 yc12 => ?_)
          · rw [yc12]; rfl
          · simp -implicitDefEqProofs only [c28_33_e, c28_34_e, c28_35_r, (show opsOf c28_35 = _ :: _ from rfl), ent41, prm41, f41_t, zq0, zq5, yc4, yc6, yc8, yc9, yc12, setA, setB, za, zb, zc, zd, ze, zf, zg, zh, zi, zj, zk, zl, zm, zn, zo, zp, reduceCtorEq, zE, ↓reduceIte]
            refine brM (fun yc14 => ?_) (fun yr15 yc14 => ?_)
            · rw [yc14]; rfl
            · simp -implicitDefEqProofs only [e41, (show c28_36 = Code.cond _ c28_37 c28_40 from rfl), zq0, zq5, yc4, yc6, yc8, yc9, yc12, yc14, setA, setB, za, zb, zc, zd, ze, zf, zg, zh, zi, zj, zk, zl, zm, zn, zo, zp, reduceCtorEq, zE, ↓reduceIte]
              refine brB (fun yc16 => ?_) (fun yc16 => ?_)
              · simp -implicitDefEqProofs only [c28_37_e, c28_38_r, (show opsOf c28_38 = _ :: _ from rfl), Tryd.underlying9, ent32, prm32, f32_t, zq0, zq5, yc4, yc6, yc8, yc9, yc12, yc14, yc16, setA, setB, za, zb, zc, zd, ze, zf, zg, zh, zi, zj, zk, zl, zm, zn, zo, zp, reduceCtorEq, zE, ↓reduceIte]
                refine brM (fun yc17 => ?_) (fun yr18 yc17 => ?_)
                · rw [yc17]; rfl
                · simp -implicitDefEqProofs only [e32, c28_39_e, zq0, zq5, yc4, yc6, yc8, yc9, yc12, yc14, yc16, yc17, setA, setB, za, zb, zc, zd, ze, zf, zg, zh, zi, zj, zk, zl, zm, zn, zo, zp, reduceCtorEq, zE, ↓reduceIte]
                  all_goals rfl
              · simp -implicitDefEqProofs only [c28_40_e, c28_41_e, c28_42_r, (show opsOf c28_42 = _ :: _ from rfl), ent42, prm42, f42_t, zq0, zq5, yc4, yc6, yc8, yc9, yc12, yc14, yc16, setA, setB, za, zb, zc, zd, ze, zf, zg, zh, zi, zj, zk, zl, zm, zn, zo, zp, reduceCtorEq, zE, ↓reduceIte]
                refine brM (fun yc19 => ?_) (fun yr20 yc19 => ?_)
                · rw [yc19]; rfl
                · simp -implicitDefEqProofs only [e42, c28_43_e, c28_44_e, c28_45_r, (show opsOf c28_45 = _ :: _ from rfl), (show c28_46 = Code.cond _ c28_47 c28_50 from rfl), zq0, zq5, yc4, yc6, yc8, yc9, yc12, yc14, yc16, yc19, setA, setB, za, zb, zc, zd, ze, zf, zg, zh, zi, zj, zk, zl, zm, zn, zo, zp, reduceCtorEq, zE, ↓reduceIte]
                  refine brB (fun yc21 => ?_) (fun yc21 => ?_)
                  · simp -implicitDefEqProofs only [c28_50_e, c28_51_e, c28_52_r, (show opsOf c28_52 = _ :: _ from rfl), Tryd.underlying9, ent32, prm32, f32_t, zq0, zq5, yc4, yc6, yc8, yc9, yc12, yc14, yc16, yc19, yc21, setA, setB, za, zb, zc, zd, ze, zf, zg, zh, zi, zj, zk, zl, zm, zn, zo, zp, reduceCtorEq, zE, ↓reduceIte]
                    refine brM (fun yc22 => ?_) (fun yr23 yc22 => ?_)
                    · rw [yc22]; rfl
                    · simp -implicitDefEqProofs only [e32, c28_53_e, zq0, zq5, yc4, yc6, yc8, yc9, yc12, yc14, yc16, yc19, yc21, yc22, setA, setB, za, zb, zc, zd, ze, zf, zg, zh, zi, zj, zk, zl, zm, zn, zo, zp, reduceCtorEq, zE, ↓reduceIte]
                      all_goals rfl
                  · simp -implicitDefEqProofs only [c28_47_e, c28_48_r, (show opsOf c28_48 = _ :: _ from rfl), c28_49_e, zq0, zq5, yc4, yc6, yc8, yc9, yc12, yc14, yc16, yc19, yc21, setA, setB, za, zb, zc, zd, ze, zf, zg, zh, zi, zj, zk, zl, zm, zn, zo, zp, reduceCtorEq, zE, ↓reduceIte]
                    all_goals rfl
      · simp -implicitDefEqProofs only [c28_19_e, c28_20_r, (show opsOf c28_20 = _ :: _ from rfl), c28_21_e, zq0, zq5, yc4, yc6, yc8, setA, setB, za, zb, zc, zd, ze, zf, zg, zh, zi, zj, zk, zl, zm, zn, zo, zp, reduceCtorEq, zE, ↓reduceIte]
        all_goals rfl
def j28_10 (s0 : Bs) (n5 : Int) (t18 : Bool) : Option ((Bs × Int) ⊕ R28) :=
  if t18 = true then
    some (.inl (s0, (w64 (n5 + 1))))
  else
    (j28_15 s0 n5).map .inr
theorem j28_10_t (s0 : Bs) (n5 : Int) (t18 : Bool)  (sl : Nat → AV) (zq0 : sl 0 = .v (.c (.d (.sc (.string (S s0)))))) (zq5 : sl 5 = .v (.c (.d (.sc (.int .i64 n5))))) (zq18 : sl 18 = .v (.c (.d (.sc (.bool t18))))) :
    stepE (K28_6 (mm := mm)) (loopK 0 [(0, .keep), (5, .keep)] (seqD (E0 mm) 28 0 (callW (E0 mm)) itW c28_13 (den (E0 mm) 28 0 (callW (E0 mm)) itW c28_10 none ⟨sl, []⟩))) = (j28_10 s0 n5 t18).map (sm en28_6 e28) := by
  simp -implicitDefEqProofs only [j28_10, (show c28_10 = Code.cond _ c28_11 c28_12 from rfl), zq0, zq5, zq18, setA, setB, za, zb, zc, zd, ze, zf, zg, zh, zi, zj, zk, zl, zm, zn, zo, zp, reduceCtorEq, zE, ↓reduceIte]
  refine brB (fun yc3 => ?_) (fun yc3 => ?_)
  · simp -implicitDefEqProofs only [c28_11_e, c28_13_e, c28_14_r, (show opsOf c28_14 = _ :: _ from rfl), zq0, zq5, zq18, yc3, setA, setB, za, zb, zc, zd, ze, zf, zg, zh, zi, zj, zk, zl, zm, zn, zo, zp, reduceCtorEq, zE, ↓reduceIte]
    all_goals rfl
  · simp -implicitDefEqProofs only [c28_12_e, K28_6, zq0, zq5, zq18, yc3, setA, setB, za, zb, zc, zd, ze, zf, zg, zh, zi, zj, zk, zl, zm, zn, zo, zp, reduceCtorEq, zE, ↓reduceIte]
    exact mi (j28_15_t s0 n5 _ (by exact zq0) (by exact zq5))
def s28_6 (s0 : Bs) (n5 : Int) : Option ((Bs × Int) ⊕ R28) :=
  if (decide (n5 < (s0.length : Int))) = true then
    if 0 ≤ n5 ∧ n5 < (s0.length : Int) then
      j28_10 s0 n5 (!((s0.getD n5.toNat 0) == (61 : UInt8)))
    else none
  else
    j28_10 s0 n5 false
theorem s28_6_t (s0 : Bs) (n5 : Int) :
    stepE (K28_6 (mm := mm)) (loopF (E0 mm) 28 0 (callW (E0 mm)) itW c28_7 [(0, .keep), (5, .keep)] (none, [.v (.c (.d (.sc (.string (S s0))))), .v (.c (.d (.sc (.int .i64 n5))))], [])) = (s28_6 s0 n5).map (sm en28_6 e28) := by
  simp -implicitDefEqProofs only [s28_6, loopF_eq, c28_7_e, c28_8_e, c28_9_r, (show opsOf c28_9 = _ :: _ from rfl), Tryd.underlying9, setA, setB, za, zb, zc, zd, ze, zf, zg, zh, zi, zj, zk, zl, zm, zn, zo, zp, reduceCtorEq, zE, ↓reduceIte]
  refine brB (fun yc1 => ?_) (fun yc1 => ?_)
  · simp -implicitDefEqProofs only [Tryd.underlying9, yc1, setA, setB, za, zb, zc, zd, ze, zf, zg, zh, zi, zj, zk, zl, zm, zn, zo, zp, reduceCtorEq, zE, ↓reduceIte]
    refine brP (fun yc2 => ?_) (fun yc2 => ?_)
    · simp -implicitDefEqProofs only [yc1, yc2, setA, setB, za, zb, zc, zd, ze, zf, zg, zh, zi, zj, zk, zl, zm, zn, zo, zp, reduceCtorEq, zE, ↓reduceIte]
      exact j28_10_t s0 n5 (!((s0.getD n5.toNat 0) == (61 : UInt8))) _ (by rfl) (by rfl) (by rfl)
    · rw [if_neg yc2]; rfl
  · simp -implicitDefEqProofs only [yc1, setA, setB, za, zb, zc, zd, ze, zf, zg, zh, zi, zj, zk, zl, zm, zn, zo, zp, reduceCtorEq, zE, ↓reduceIte]
    exact j28_10_t s0 n5 false _ (by rfl) (by rfl) (by rfl)
def l28_6 (s0 : Bs) (n5 : Int) : Option R28 := iter (fun x : (Bs × Int) => s28_6 x.1 x.2) (s0, n5)
theorem l28_6_t (s0 : Bs) (n5 : Int) : bodyD (E0 mm) [.tmp 2, .tmp 3, .tmp 4] 0 false (seqD (E0 mm) 28 0 (callW (E0 mm)) itW c28_15 (blockD 0 (itW (loopF (E0 mm) 28 0 (callW (E0 mm)) itW c28_7 [(0, .keep), (5, .keep)]) (none, [.v (.c (.d (.sc (.string (S s0))))), .v (.c (.d (.sc (.int .i64 n5))))], [])))) = (l28_6 s0 n5).map e28 :=
  it_sim (K := (K28_6 (mm := mm))) rfl (enc := en28_6) (fun x => s28_6_t x.1 x.2) (s0, n5)
def m28 (s : Bs) : Option R28 :=
  l28_6 s (0 : Int)
theorem f28_t (s : Bs) :
    callW (E0 mm) 28 [.c (.d (.sc (.string (S s))))] [] = (m28 s).map e28 := by
  rw [callW_run (body := c28_0) (res := [.tmp 2, .tmp 3, .tmp 4]) Tryd.func28 rfl rfl (by kernel_rfl)]
  simp -implicitDefEqProofs only [m28, slots1, c28_0_e, c28_1_r, (show opsOf c28_1 = _ :: _ from rfl), c28_2_e, c28_3_r, (show opsOf c28_3 = _ :: _ from rfl), c28_4_e, c28_5_e, c28_6_l, setA, setB, za, zb, zc, zd, ze, zf, zg, zh, zi, zj, zk, zl, zm, zn, zo, zp, reduceCtorEq, zE, ↓reduceIte]
  exact l28_6_t s (0 : Int)
noncomputable def c29_0 : Code := bodyOf Tryd.f29
def c29_1 := cA c29_0
def c29_2 := cB c29_0
def c29_3 := cA c29_2
def c29_4 := cA c29_3
def c29_5 := cB c29_3
def c29_6 := cA c29_5
def c29_7 := cA c29_6
def c29_8 := cB c29_6
def c29_9 := cB c29_5
def c29_10 := cB c29_2
def c29_11 := cA c29_10
def c29_12 := cB c29_10
def c29_13 := cA c29_12
def c29_14 := cA c29_13
def c29_15 := cB c29_13
def c29_16 := cA c29_15
def c29_17 := cA c29_16
def c29_18 := cA c29_17
def c29_19 := cA c29_18
def c29_20 := cB c29_18
def c29_21 := cA c29_20
def c29_22 := cB c29_20
def c29_23 := cB c29_17
def c29_24 := cA c29_23
def c29_25 := cA c29_24
def c29_26 := cA c29_25
def c29_27 := cB c29_25
def c29_28 := cA c29_27
def c29_29 := cA c29_28
def c29_30 := cB c29_28
def c29_31 := cB c29_27
def c29_32 := cB c29_23
def c29_33 := cB c29_12
def c29_34 := cA c29_33
def c29_35 := cA c29_34
def c29_36 := cB c29_34
def c29_37 := cA c29_36
def c29_38 := cA c29_37
def c29_39 := cA c29_38
def c29_40 := cA c29_39
def c29_41 := cB c29_39
def c29_42 := cA c29_41
def c29_43 := cB c29_41
def c29_44 := cB c29_38
def c29_45 := cA c29_44
def c29_46 := cA c29_45
def c29_47 := cA c29_46
def c29_48 := cB c29_46
def c29_49 := cA c29_48
def c29_50 := cB c29_48
def c29_51 := cA c29_50
def c29_52 := cB c29_50
def c29_53 := cB c29_44
def c29_54 := cB c29_33
def c29_55 := cA c29_54
def c29_56 := cB c29_54
theorem c29_0_e : c29_0 = .seq c29_1 c29_2 := rfl
theorem c29_1_r : RG (E0 mm) 29 c29_1 := rgN rfl
theorem c29_2_e : c29_2 = .seq c29_3 c29_10 := rfl
theorem c29_3_e : c29_3 = .seq c29_4 c29_5 := rfl
theorem c29_4_r : RG (E0 mm) 29 c29_4 := rgN rfl
theorem c29_6_e : c29_6 = .seq c29_7 c29_8 := rfl
theorem c29_7_r : RG (E0 mm) 29 c29_7 := rgN rfl
theorem c29_8_e : c29_8 = .ret := rfl
theorem c29_9_e : c29_9 = .skip := rfl
theorem c29_10_e : c29_10 = .seq c29_11 c29_12 := rfl
theorem c29_11_r : RG (E0 mm) 29 c29_11 := rgN rfl
theorem c29_12_e : c29_12 = .seq c29_13 c29_33 := rfl
theorem c29_13_e : c29_13 = .seq c29_14 c29_15 := rfl
theorem c29_14_r : RG (E0 mm) 29 c29_14 := rgN rfl
theorem c29_15_e : c29_15 = .block 0 c29_16 := rfl
theorem c29_16_l (m : Nat) (st : St) : den (E0 mm) 29 m (callW (E0 mm)) itW c29_16 none st = loopD itW (loopF (E0 mm) 29 m (callW (E0 mm)) itW c29_17 [(0, .keep), (3, .keep), (4, .keep)]) (canon m [(0, .keep), (3, .keep), (4, .keep)] st) := rfl
theorem c29_17_e : c29_17 = .seq c29_18 c29_23 := rfl
theorem c29_18_e : c29_18 = .seq c29_19 c29_20 := rfl
theorem c29_19_r : RG (E0 mm) 29 c29_19 := rgN rfl
theorem c29_21_e : c29_21 = .skip := rfl
theorem c29_22_e : c29_22 = .exit 0 := rfl
theorem c29_23_e : c29_23 = .seq c29_24 c29_32 := rfl
theorem c29_24_e : c29_24 = .block 1 c29_25 := rfl
theorem c29_25_e : c29_25 = .seq c29_26 c29_27 := rfl
theorem c29_26_r : RG (E0 mm) 29 c29_26 := rgN rfl
theorem c29_28_e : c29_28 = .seq c29_29 c29_30 := rfl
theorem c29_29_r : RG (E0 mm) 29 c29_29 := rgN rfl
theorem c29_30_e : c29_30 = .ret := rfl
theorem c29_31_e : c29_31 = .skip := rfl
theorem c29_32_r : RG (E0 mm) 29 c29_32 := rgN rfl
theorem c29_33_e : c29_33 = .seq c29_34 c29_54 := rfl
theorem c29_34_e : c29_34 = .seq c29_35 c29_36 := rfl
theorem c29_35_r : RG (E0 mm) 29 c29_35 := rgN rfl
theorem c29_36_e : c29_36 = .block 2 c29_37 := rfl
theorem c29_37_l (m : Nat) (st : St) : den (E0 mm) 29 m (callW (E0 mm)) itW c29_37 none st = loopD itW (loopF (E0 mm) 29 m (callW (E0 mm)) itW c29_38 [(0, .keep), (3, .keep), (5, .keep)]) (canon m [(0, .keep), (3, .keep), (5, .keep)] st) := rfl
theorem c29_38_e : c29_38 = .seq c29_39 c29_44 := rfl
theorem c29_39_e : c29_39 = .seq c29_40 c29_41 := rfl
theorem c29_40_r : RG (E0 mm) 29 c29_40 := rgN rfl
theorem c29_42_e : c29_42 = .skip := rfl
theorem c29_43_e : c29_43 = .exit 2 := rfl
theorem c29_44_e : c29_44 = .seq c29_45 c29_53 := rfl
theorem c29_45_e : c29_45 = .block 3 c29_46 := rfl
theorem c29_46_e : c29_46 = .seq c29_47 c29_48 := rfl
theorem c29_47_r : RG (E0 mm) 29 c29_47 := rgN rfl
theorem c29_48_e : c29_48 = .seq c29_49 c29_50 := rfl
theorem c29_49_r : RG (E0 mm) 29 c29_49 := rgN rfl
theorem c29_51_r : RG (E0 mm) 29 c29_51 := rgN rfl
theorem c29_52_e : c29_52 = .skip := rfl
theorem c29_53_r : RG (E0 mm) 29 c29_53 := rgN rfl
theorem c29_54_e : c29_54 = .seq c29_55 c29_56 := rfl
theorem c29_55_r : RG (E0 mm) 29 c29_55 := rgN rfl
theorem c29_56_e : c29_56 = .ret := rfl
abbrev R29 := (Int)
def e29 : R29 → AV × Heap := fun x => (.v (.c (.d (.sc (.int .i64 x)))), [])
def K29_16 : Option (Ex × St) → Option (AV × Heap) := fun r => bodyD (E0 mm) [.tmp 2] 0 false (seqD (E0 mm) 29 0 (callW (E0 mm)) itW c29_33 (blockD 0 (r)))
def en29_16 : (Bs × Int × Int) → X := fun x => (none, [.v (.c (.d (.sc (.string (S x.1))))), .v (.c (.d (.sc (.int .i64 x.2.1)))), .v (.c (.d (.sc (.int .i64 x.2.2))))], [])
def j29_27 (s0 : Bs) (n3 i4 : Int) (t24 : Bool) : Option ((Bs × Int × Int) ⊕ R29) :=
  if t24 = true then
    some (.inr (0 : Int))
  else
    some (.inl (s0, n3, (w64 (i4 + 1))))
theorem j29_27_t (s0 : Bs) (n3 i4 : Int) (t24 : Bool)  (sl : Nat → AV) (zq0 : sl 0 = .v (.c (.d (.sc (.string (S s0)))))) (zq3 : sl 3 = .v (.c (.d (.sc (.int .i64 n3))))) (zq4 : sl 4 = .v (.c (.d (.sc (.int .i64 i4))))) (zq24 : sl 24 = .v (.c (.d (.sc (.bool t24))))) :
    stepE (K29_16 (mm := mm)) (loopK 0 [(0, .keep), (3, .keep), (4, .keep)] (seqD (E0 mm) 29 0 (callW (E0 mm)) itW c29_32 (blockD 1 (den (E0 mm) 29 0 (callW (E0 mm)) itW c29_27 none ⟨sl, []⟩)))) = (j29_27 s0 n3 i4 t24).map (sm en29_16 e29) := by
  simp -implicitDefEqProofs only [j29_27, (show c29_27 = Code.cond _ c29_28 c29_31 from rfl), zq0, zq3, zq4, zq24, setA, setB, za, zb, zc, zd, ze, zf, zg, zh, zi, zj, zk, zl, zm, zn, zo, zp, reduceCtorEq, zE, ↓reduceIte]
  refine brB (fun yc5 => ?_) (fun yc5 => ?_)
  · simp -implicitDefEqProofs only [c29_28_e, c29_29_r, (show opsOf c29_29 = _ :: _ from rfl), c29_30_e, K29_16, zq0, zq3, zq4, zq24, yc5, setA, setB, za, zb, zc, zd, ze, zf, zg, zh, zi, zj, zk, zl, zm, zn, zo, zp, reduceCtorEq, zE, ↓reduceIte]
    all_goals rfl
  · simp -implicitDefEqProofs only [c29_31_e, c29_32_r, (show opsOf c29_32 = _ :: _ from rfl), zq0, zq3, zq4, zq24, yc5, setA, setB, za, zb, zc, zd, ze, zf, zg, zh, zi, zj, zk, zl, zm, zn, zo, zp, reduceCtorEq, zE, ↓reduceIte]
    all_goals rfl
def K29_37 : Option (Ex × St) → Option (AV × Heap) := fun r => bodyD (E0 mm) [.tmp 2] 0 false (seqD (E0 mm) 29 0 (callW (E0 mm)) itW c29_54 (blockD 2 (r)))
def en29_37 : (Bs × Int × Int) → X := fun x => (none, [.v (.c (.d (.sc (.string (S x.1))))), .v (.c (.d (.sc (.int .i64 x.2.1)))), .v (.c (.d (.sc (.int .i64 x.2.2))))], [])
def j29_53 (s0 : Bs) (n3 i5 : Int) : Option ((Bs × Int × Int) ⊕ R29) :=
  some (.inl (s0, n3, (w64 (i5 + 1))))
theorem j29_53_t (s0 : Bs) (n3 i5 : Int)  (sl : Nat → AV) (zq0 : sl 0 = .v (.c (.d (.sc (.string (S s0)))))) (zq3 : sl 3 = .v (.c (.d (.sc (.int .i64 n3))))) (zq5 : sl 5 = .v (.c (.d (.sc (.int .i64 i5))))) :
    stepE (K29_37 (mm := mm)) (loopK 0 [(0, .keep), (3, .keep), (5, .keep)] (den (E0 mm) 29 0 (callW (E0 mm)) itW c29_53 none ⟨sl, []⟩)) = (j29_53 s0 n3 i5).map (sm en29_37 e29) := by
  simp -implicitDefEqProofs only [j29_53, c29_53_r, (show opsOf c29_53 = _ :: _ from rfl), zq0, zq3, zq5, setA, setB, za, zb, zc, zd, ze, zf, zg, zh, zi, zj, zk, zl, zm, zn, zo, zp, reduceCtorEq, zE, ↓reduceIte]
  all_goals rfl
def j29_54 (n3 : Int) : Option R29 :=
  some n3
theorem j29_54_t (n3 : Int)  (sl : Nat → AV) (zq3 : sl 3 = .v (.c (.d (.sc (.int .i64 n3))))) :
    bodyD (E0 mm) [.tmp 2] 0 false (den (E0 mm) 29 0 (callW (E0 mm)) itW c29_54 none ⟨sl, []⟩) = (j29_54 n3).map e29 := by
  simp -implicitDefEqProofs only [j29_54, c29_54_e, c29_55_r, (show opsOf c29_55 = _ :: _ from rfl), c29_56_e, zq3, setA, setB, za, zb, zc, zd, ze, zf, zg, zh, zi, zj, zk, zl, zm, zn, zo, zp, reduceCtorEq, zE, ↓reduceIte]
  all_goals rfl
def s29_37 (s0 : Bs) (n3 i5 : Int) : Option ((Bs × Int × Int) ⊕ R29) :=
  if (decide (i5 < (s0.length : Int))) = true then
    if 0 ≤ i5 ∧ i5 < (s0.length : Int) then
      if (decide (2147483647 < (w64 ((w64 (10 * n3)) + (((s0.getD i5.toNat 0) - (48 : UInt8)).toNat : Int))))) = true then
        j29_53 s0 (2147483647 : Int) i5
      else
        j29_53 s0 (w64 ((w64 (10 * n3)) + (((s0.getD i5.toNat 0) - (48 : UInt8)).toNat : Int))) i5
    else none
  else
    (j29_54 n3).map .inr
theorem s29_37_t (s0 : Bs) (n3 i5 : Int) :
    stepE (K29_37 (mm := mm)) (loopF (E0 mm) 29 0 (callW (E0 mm)) itW c29_38 [(0, .keep), (3, .keep), (5, .keep)] (none, [.v (.c (.d (.sc (.string (S s0))))), .v (.c (.d (.sc (.int .i64 n3)))), .v (.c (.d (.sc (.int .i64 i5))))], [])) = (s29_37 s0 n3 i5).map (sm en29_37 e29) := by
  simp -implicitDefEqProofs only [s29_37, loopF_eq, c29_38_e, c29_39_e, c29_40_r, (show opsOf c29_40 = _ :: _ from rfl), Tryd.underlying9, (show c29_41 = Code.cond _ c29_42 c29_43 from rfl), setA, setB, za, zb, zc, zd, ze, zf, zg, zh, zi, zj, zk, zl, zm, zn, zo, zp, reduceCtorEq, zE, ↓reduceIte]
  refine brB (fun yc6 => ?_) (fun yc6 => ?_)
  · simp -implicitDefEqProofs only [c29_42_e, c29_44_e, c29_45_e, c29_46_e, c29_47_r, (show opsOf c29_47 = _ :: _ from rfl), Tryd.underlying9, yc6, setA, setB, za, zb, zc, zd, ze, zf, zg, zh, zi, zj, zk, zl, zm, zn, zo, zp, reduceCtorEq, zE, ↓reduceIte]
    refine brP (fun yc7 => ?_) (fun yc7 => ?_)
    · simp -implicitDefEqProofs only [Tryd.underlying5, Tryd.underlying3, c29_48_e, c29_49_r, (show opsOf c29_49 = _ :: _ from rfl), (show c29_50 = Code.cond _ c29_51 c29_52 from rfl), yc6, yc7, setA, setB, za, zb, zc, zd, ze, zf, zg, zh, zi, zj, zk, zl, zm, zn, zo, zp, reduceCtorEq, zE, ↓reduceIte]
      refine brB (fun yc8 => ?_) (fun yc8 => ?_)
      · simp -implicitDefEqProofs only [c29_51_r, (show opsOf c29_51 = _ :: _ from rfl), yc6, yc7, yc8, setA, setB, za, zb, zc, zd, ze, zf, zg, zh, zi, zj, zk, zl, zm, zn, zo, zp, reduceCtorEq, zE, ↓reduceIte]
        exact j29_53_t s0 (2147483647 : Int) i5 _ (by rfl) (by rfl) (by rfl)
      · simp -implicitDefEqProofs only [c29_52_e, yc6, yc7, yc8, setA, setB, za, zb, zc, zd, ze, zf, zg, zh, zi, zj, zk, zl, zm, zn, zo, zp, reduceCtorEq, zE, ↓reduceIte]
        exact j29_53_t s0 (w64 ((w64 (10 * n3)) + (((s0.getD i5.toNat 0) - (48 : UInt8)).toNat : Int))) i5 _ (by rfl) (by rfl) (by rfl)
    · rw [if_neg yc7]; rfl
  · simp -implicitDefEqProofs only [c29_43_e, K29_37, yc6, setA, setB, za, zb, zc, zd, ze, zf, zg, zh, zi, zj, zk, zl, zm, zn, zo, zp, reduceCtorEq, zE, ↓reduceIte]
    exact mi (j29_54_t n3 _ (by rfl))
def l29_37 (s0 : Bs) (n3 i5 : Int) : Option R29 := iter (fun x : (Bs × Int × Int) => s29_37 x.1 x.2.1 x.2.2) (s0, n3, i5)
theorem l29_37_t (s0 : Bs) (n3 i5 : Int) : bodyD (E0 mm) [.tmp 2] 0 false (seqD (E0 mm) 29 0 (callW (E0 mm)) itW c29_54 (blockD 2 (itW (loopF (E0 mm) 29 0 (callW (E0 mm)) itW c29_38 [(0, .keep), (3, .keep), (5, .keep)]) (none, [.v (.c (.d (.sc (.string (S s0))))), .v (.c (.d (.sc (.int .i64 n3)))), .v (.c (.d (.sc (.int .i64 i5))))], [])))) = (l29_37 s0 n3 i5).map e29 :=
  it_sim (K := (K29_37 (mm := mm))) rfl (enc := en29_37) (fun x => s29_37_t x.1 x.2.1 x.2.2) (s0, n3, i5)
def j29_33 (s0 : Bs) (n3 : Int) : Option R29 :=
  l29_37 s0 n3 (0 : Int)
theorem j29_33_t (s0 : Bs) (n3 : Int)  (sl : Nat → AV) (zq0 : sl 0 = .v (.c (.d (.sc (.string (S s0)))))) (zq3 : sl 3 = .v (.c (.d (.sc (.int .i64 n3))))) :
    bodyD (E0 mm) [.tmp 2] 0 false (den (E0 mm) 29 0 (callW (E0 mm)) itW c29_33 none ⟨sl, []⟩) = (j29_33 s0 n3).map e29 := by
  simp -implicitDefEqProofs only [j29_33, c29_33_e, c29_34_e, c29_35_r, (show opsOf c29_35 = _ :: _ from rfl), c29_36_e, c29_37_l, zq0, zq3, setA, setB, za, zb, zc, zd, ze, zf, zg, zh, zi, zj, zk, zl, zm, zn, zo, zp, reduceCtorEq, zE, ↓reduceIte]
  exact l29_37_t s0 n3 (0 : Int)
def s29_16 (s0 : Bs) (n3 i4 : Int) : Option ((Bs × Int × Int) ⊕ R29) :=
  if (decide (i4 < (s0.length : Int))) = true then
    if 0 ≤ i4 ∧ i4 < (s0.length : Int) then
      if (decide ((s0.getD i4.toNat 0) < (48 : UInt8))) = true then
        j29_27 s0 n3 i4 true
      else
        j29_27 s0 n3 i4 (decide ((57 : UInt8) < (s0.getD i4.toNat 0)))
    else none
  else
    (j29_33 s0 n3).map .inr
theorem s29_16_t (s0 : Bs) (n3 i4 : Int) :
    stepE (K29_16 (mm := mm)) (loopF (E0 mm) 29 0 (callW (E0 mm)) itW c29_17 [(0, .keep), (3, .keep), (4, .keep)] (none, [.v (.c (.d (.sc (.string (S s0))))), .v (.c (.d (.sc (.int .i64 n3)))), .v (.c (.d (.sc (.int .i64 i4))))], [])) = (s29_16 s0 n3 i4).map (sm en29_16 e29) := by
  simp -implicitDefEqProofs only [s29_16, loopF_eq, c29_17_e, c29_18_e, c29_19_r, (show opsOf c29_19 = _ :: _ from rfl), Tryd.underlying9, (show c29_20 = Code.cond _ c29_21 c29_22 from rfl), setA, setB, za, zb, zc, zd, ze, zf, zg, zh, zi, zj, zk, zl, zm, zn, zo, zp, reduceCtorEq, zE, ↓reduceIte]
  refine brB (fun yc2 => ?_) (fun yc2 => ?_)
  · simp -implicitDefEqProofs only [c29_21_e, c29_23_e, c29_24_e, c29_25_e, c29_26_r, (show opsOf c29_26 = _ :: _ from rfl), Tryd.underlying9, yc2, setA, setB, za, zb, zc, zd, ze, zf, zg, zh, zi, zj, zk, zl, zm, zn, zo, zp, reduceCtorEq, zE, ↓reduceIte]
    refine brP (fun yc3 => ?_) (fun yc3 => ?_)
    · simp -implicitDefEqProofs only [yc2, yc3, setA, setB, za, zb, zc, zd, ze, zf, zg, zh, zi, zj, zk, zl, zm, zn, zo, zp, reduceCtorEq, zE, ↓reduceIte]
      refine brB (fun yc4 => ?_) (fun yc4 => ?_)
      · simp -implicitDefEqProofs only [yc2, yc3, yc4, setA, setB, za, zb, zc, zd, ze, zf, zg, zh, zi, zj, zk, zl, zm, zn, zo, zp, reduceCtorEq, zE, ↓reduceIte]
        exact j29_27_t s0 n3 i4 true _ (by rfl) (by rfl) (by rfl) (by rfl)
      · simp -implicitDefEqProofs only [Tryd.underlying9, yc2, yc3, yc4, setA, setB, za, zb, zc, zd, ze, zf, zg, zh, zi, zj, zk, zl, zm, zn, zo, zp, reduceCtorEq, zE, ↓reduceIte]
        exact j29_27_t s0 n3 i4 (decide ((57 : UInt8) < (s0.getD i4.toNat 0))) _ (by rfl) (by rfl) (by rfl) (by rfl)
    · rw [if_neg yc3]; rfl
  · simp -implicitDefEqProofs only [c29_22_e, K29_16, yc2, setA, setB, za, zb, zc, zd, ze, zf, zg, zh, zi, zj, zk, zl, zm, zn, zo, zp, reduceCtorEq, zE, ↓reduceIte]
    exact mi (j29_33_t s0 n3 _ (by rfl) (by rfl))
def l29_16 (s0 : Bs) (n3 i4 : Int) : Option R29 := iter (fun x : (Bs × Int × Int) => s29_16 x.1 x.2.1 x.2.2) (s0, n3, i4)
theorem l29_16_t (s0 : Bs) (n3 i4 : Int) : bodyD (E0 mm) [.tmp 2] 0 false (seqD (E0 mm) 29 0 (callW (E0 mm)) itW c29_33 (blockD 0 (itW (loopF (E0 mm) 29 0 (callW (E0 mm)) itW c29_17 [(0, .keep), (3, .keep), (4, .keep)]) (none, [.v (.c (.d (.sc (.string (S s0))))), .v (.c (.d (.sc (.int .i64 n3)))), .v (.c (.d (.sc (.int .i64 i4))))], [])))) = (l29_16 s0 n3 i4).map e29 :=
  it_sim (K := (K29_16 (mm := mm))) rfl (enc := en29_16) (fun x => s29_16_t x.1 x.2.1 x.2.2) (s0, n3, i4)
def m29 (s : Bs) : Option R29 :=
  if ((s.length : Int) == 0) = true then
    some (0 : Int)
  else
    l29_16 s (0 : Int) (0 : Int)
theorem f29_t (s : Bs) :
    callW (E0 mm) 29 [.c (.d (.sc (.string (S s))))] [] = (m29 s).map e29 := by
  rw [callW_run (body := c29_0) (res := [.tmp 2]) Tryd.func29 rfl rfl (by kernel_rfl)]
  simp -implicitDefEqProofs only [m29, slots1, c29_0_e, c29_1_r, (show opsOf c29_1 = _ :: _ from rfl), c29_2_e, c29_3_e, c29_4_r, (show opsOf c29_4 = _ :: _ from rfl), Tryd.underlying9, (show c29_5 = Code.cond _ c29_6 c29_9 from rfl), setA, setB, za, zb, zc, zd, ze, zf, zg, zh, zi, zj, zk, zl, zm, zn, zo, zp, reduceCtorEq, zE, ↓reduceIte]
  refine brB (fun yc1 => ?_) (fun yc1 => ?_)
  · simp -implicitDefEqProofs only [c29_6_e, c29_7_r, (show opsOf c29_7 = _ :: _ from rfl), c29_8_e, yc1, setA, setB, za, zb, zc, zd, ze, zf, zg, zh, zi, zj, zk, zl, zm, zn, zo, zp, reduceCtorEq, zE, ↓reduceIte]
    all_goals rfl
  · simp -implicitDefEqProofs only [c29_9_e, c29_10_e, c29_11_r, (show opsOf c29_11 = _ :: _ from rfl), c29_12_e, c29_13_e, c29_14_r, (show opsOf c29_14 = _ :: _ from rfl), c29_15_e, c29_16_l, yc1, setA, setB, za, zb, zc, zd, ze, zf, zg, zh, zi, zj, zk, zl, zm, zn, zo, zp, reduceCtorEq, zE, ↓reduceIte]
    exact l29_16_t s (0 : Int) (0 : Int)
noncomputable def c30_0 : Code := bodyOf Tryd.f30
def c30_1 := cA c30_0
def c30_2 := cB c30_0
def c30_3 := cA c30_2
def c30_4 := cA c30_3
def c30_5 := cB c30_3
def c30_6 := cA c30_5
def c30_7 := cA c30_6
def c30_8 := cB c30_6
def c30_9 := cB c30_5
def c30_10 := cB c30_2
def c30_11 := cA c30_10
def c30_12 := cB c30_10
theorem c30_0_e : c30_0 = .seq c30_1 c30_2 := rfl
theorem c30_1_r : RG (E0 mm) 30 c30_1 := rgN rfl
theorem c30_2_e : c30_2 = .seq c30_3 c30_10 := rfl
theorem c30_3_e : c30_3 = .seq c30_4 c30_5 := rfl
theorem c30_4_r : RG (E0 mm) 30 c30_4 := rgN rfl
theorem c30_6_e : c30_6 = .seq c30_7 c30_8 := rfl
theorem c30_7_r : RG (E0 mm) 30 c30_7 := rgN rfl
theorem c30_8_e : c30_8 = .ret := rfl
theorem c30_9_e : c30_9 = .skip := rfl
theorem c30_10_e : c30_10 = .seq c30_11 c30_12 := rfl
theorem c30_11_r : RG (E0 mm) 30 c30_11 := rgN rfl
theorem c30_12_e : c30_12 = .ret := rfl
abbrev R30 := (Int)
def e30 : R30 → AV × Heap := fun x => (.v (.c (.d (.sc (.int .i64 x)))), [])
def j30_5 (was0 n1 : Int) (t11 : Bool) : Option R30 :=
  if t11 = true then
    some n1
  else
    some was0
theorem j30_5_t (was0 n1 : Int) (t11 : Bool)  (sl : Nat → AV) (zq0 : sl 0 = .v (.c (.d (.sc (.int .i64 was0))))) (zq1 : sl 1 = .v (.c (.d (.sc (.int .i64 n1))))) (zq11 : sl 11 = .v (.c (.d (.sc (.bool t11))))) :
    bodyD (E0 mm) [.tmp 4] 0 false (seqD (E0 mm) 30 0 (callW (E0 mm)) itW c30_10 (den (E0 mm) 30 0 (callW (E0 mm)) itW c30_5 none ⟨sl, []⟩)) = (j30_5 was0 n1 t11).map e30 := by
  simp -implicitDefEqProofs only [j30_5, (show c30_5 = Code.cond _ c30_6 c30_9 from rfl), zq0, zq1, zq11, setA, setB, za, zb, zc, zd, ze, zf, zg, zh, zi, zj, zk, zl, zm, zn, zo, zp, reduceCtorEq, zE, ↓reduceIte]
  refine brB (fun yc2 => ?_) (fun yc2 => ?_)
  · simp -implicitDefEqProofs only [c30_6_e, c30_7_r, (show opsOf c30_7 = _ :: _ from rfl), c30_8_e, zq0, zq1, zq11, yc2, setA, setB, za, zb, zc, zd, ze, zf, zg, zh, zi, zj, zk, zl, zm, zn, zo, zp, reduceCtorEq, zE, ↓reduceIte]
    all_goals rfl
  · simp -implicitDefEqProofs only [c30_9_e, c30_10_e, c30_11_r, (show opsOf c30_11 = _ :: _ from rfl), c30_12_e, zq0, zq1, zq11, yc2, setA, setB, za, zb, zc, zd, ze, zf, zg, zh, zi, zj, zk, zl, zm, zn, zo, zp, reduceCtorEq, zE, ↓reduceIte]
    all_goals rfl
def m30 (was n : Int) : Option R30 :=
  if (decide (was < 0)) = true then
    j30_5 was n true
  else
    j30_5 was n (decide (n < was))
theorem f30_t (was n : Int) :
    callW (E0 mm) 30 [.c (.d (.sc (.int .i64 was))), .c (.d (.sc (.int .i64 n)))] [] = (m30 was n).map e30 := by
  rw [callW_run (body := c30_0) (res := [.tmp 4]) Tryd.func30 rfl rfl (by kernel_rfl)]
  simp -implicitDefEqProofs only [m30, slots2, c30_0_e, c30_1_r, (show opsOf c30_1 = _ :: _ from rfl), c30_2_e, c30_3_e, c30_4_r, (show opsOf c30_4 = _ :: _ from rfl), setA, setB, za, zb, zc, zd, ze, zf, zg, zh, zi, zj, zk, zl, zm, zn, zo, zp, reduceCtorEq, zE, ↓reduceIte]
  refine brB (fun yc1 => ?_) (fun yc1 => ?_)
  · simp -implicitDefEqProofs only [yc1, setA, setB, za, zb, zc, zd, ze, zf, zg, zh, zi, zj, zk, zl, zm, zn, zo, zp, reduceCtorEq, zE, ↓reduceIte]
    exact j30_5_t was n true _ (by rfl) (by rfl) (by rfl)
  · simp -implicitDefEqProofs only [yc1, setA, setB, za, zb, zc, zd, ze, zf, zg, zh, zi, zj, zk, zl, zm, zn, zo, zp, reduceCtorEq, zE, ↓reduceIte]
    exact j30_5_t was n (decide (n < was)) _ (by rfl) (by rfl) (by rfl)
noncomputable def c8_0 : Code := bodyOf Tryd.f8
def c8_1 := cA c8_0
def c8_2 := cB c8_0
def c8_3 := cA c8_2
def c8_4 := cB c8_2
def c8_5 := cA c8_4
def c8_6 := cB c8_4
def c8_7 := cA c8_6
def c8_8 := cA c8_7
def c8_9 := cB c8_7
def c8_10 := cA c8_9
def c8_11 := cA c8_10
def c8_12 := cA c8_11
def c8_13 := cA c8_12
def c8_14 := cB c8_12
def c8_15 := cA c8_14
def c8_16 := cB c8_14
def c8_17 := cB c8_11
def c8_18 := cA c8_17
def c8_19 := cA c8_18
def c8_20 := cA c8_19
def c8_21 := cB c8_19
def c8_22 := cA c8_21
def c8_23 := cA c8_22
def c8_24 := cB c8_22
def c8_25 := cA c8_24
def c8_26 := cB c8_24
def c8_27 := cB c8_21
def c8_28 := cA c8_27
def c8_29 := cB c8_27
def c8_30 := cA c8_29
def c8_31 := cB c8_29
def c8_32 := cA c8_31
def c8_33 := cA c8_32
def c8_34 := cB c8_32
def c8_35 := cA c8_34
def c8_36 := cB c8_34
def c8_37 := cA c8_36
def c8_38 := cB c8_36
def c8_39 := cA c8_38
def c8_40 := cB c8_38
def c8_41 := cA c8_40
def c8_42 := cB c8_40
def c8_43 := cA c8_42
def c8_44 := cB c8_42
def c8_45 := cA c8_44
def c8_46 := cB c8_44
def c8_47 := cA c8_46
def c8_48 := cB c8_46
def c8_49 := cA c8_48
def c8_50 := cB c8_48
def c8_51 := cA c8_50
def c8_52 := cA c8_51
def c8_53 := cB c8_51
def c8_54 := cA c8_53
def c8_55 := cB c8_53
def c8_56 := cB c8_50
def c8_57 := cA c8_56
def c8_58 := cB c8_56
def c8_59 := cA c8_58
def c8_60 := cA c8_59
def c8_61 := cA c8_60
def c8_62 := cB c8_60
def c8_63 := cA c8_62
def c8_64 := cB c8_62
def c8_65 := cB c8_59
def c8_66 := cB c8_58
def c8_67 := cB c8_17
def c8_68 := cB c8_6
def c8_69 := cA c8_68
def c8_70 := cA c8_69
def c8_71 := cB c8_69
def c8_72 := cA c8_71
def c8_73 := cA c8_72
def c8_74 := cA c8_73
def c8_75 := cA c8_74
def c8_76 := cB c8_74
def c8_77 := cA c8_76
def c8_78 := cB c8_76
def c8_79 := cB c8_73
def c8_80 := cA c8_79
def c8_81 := cA c8_80
def c8_82 := cA c8_81
def c8_83 := cB c8_81
def c8_84 := cA c8_83
def c8_85 := cA c8_84
def c8_86 := cB c8_84
def c8_87 := cB c8_83
def c8_88 := cB c8_79
def c8_89 := cB c8_68
def c8_90 := cA c8_89
def c8_91 := cB c8_89
def c8_92 := cA c8_91
def c8_93 := cA c8_92
def c8_94 := cB c8_92
def c8_95 := cA c8_94
def c8_96 := cA c8_95
def c8_97 := cA c8_96
def c8_98 := cA c8_97
def c8_99 := cB c8_97
def c8_100 := cA c8_99
def c8_101 := cB c8_99
def c8_102 := cB c8_96
def c8_103 := cA c8_102
def c8_104 := cA c8_103
def c8_105 := cA c8_104
def c8_106 := cB c8_104
def c8_107 := cA c8_106
def c8_108 := cB c8_106
def c8_109 := cB c8_102
def c8_110 := cB c8_91
def c8_111 := cA c8_110
def c8_112 := cB c8_110
theorem c8_0_e : c8_0 = .seq c8_1 c8_2 := rfl
theorem c8_1_r : RG (E0 mm) 8 c8_1 := rgN rfl
theorem c8_2_e : c8_2 = .seq c8_3 c8_4 := rfl
theorem c8_3_r : RG (E0 mm) 8 c8_3 := rgN rfl
theorem c8_4_e : c8_4 = .seq c8_5 c8_6 := rfl
theorem c8_5_r : RG (E0 mm) 8 c8_5 := rgN rfl
theorem c8_6_e : c8_6 = .seq c8_7 c8_68 := rfl
theorem c8_7_e : c8_7 = .seq c8_8 c8_9 := rfl
theorem c8_8_r : RG (E0 mm) 8 c8_8 := rgN rfl
theorem c8_9_e : c8_9 = .block 0 c8_10 := rfl
theorem c8_10_l (m : Nat) (st : St) : den (E0 mm) 8 m (callW (E0 mm)) itW c8_10 none st = loopD itW (loopF (E0 mm) 8 m (callW (E0 mm)) itW c8_11 [(0, .keep), (2, .keep), (3, .keep), (4, .keep), (5, .keep)]) (canon m [(0, .keep), (2, .keep), (3, .keep), (4, .keep), (5, .keep)] st) := rfl
theorem c8_11_e : c8_11 = .seq c8_12 c8_17 := rfl
theorem c8_12_e : c8_12 = .seq c8_13 c8_14 := rfl
theorem c8_13_r : RG (E0 mm) 8 c8_13 := rgN rfl
theorem c8_15_e : c8_15 = .skip := rfl
theorem c8_16_e : c8_16 = .exit 0 := rfl
theorem c8_17_e : c8_17 = .seq c8_18 c8_67 := rfl
theorem c8_18_e : c8_18 = .block 1 c8_19 := rfl
theorem c8_19_e : c8_19 = .seq c8_20 c8_21 := rfl
theorem c8_20_r : RG (E0 mm) 8 c8_20 := rgN rfl
theorem c8_21_e : c8_21 = .seq c8_22 c8_27 := rfl
theorem c8_22_e : c8_22 = .seq c8_23 c8_24 := rfl
theorem c8_23_r : RG (E0 mm) 8 c8_23 := rgN rfl
theorem c8_25_e : c8_25 = .exit 1 := rfl
theorem c8_26_e : c8_26 = .skip := rfl
theorem c8_27_e : c8_27 = .seq c8_28 c8_29 := rfl
theorem c8_28_r : RG (E0 mm) 8 c8_28 := rgN rfl
theorem c8_29_e : c8_29 = .seq c8_30 c8_31 := rfl
theorem c8_30_r : RG (E0 mm) 8 c8_30 := rgN rfl
theorem c8_31_e : c8_31 = .block 2 c8_32 := rfl
theorem c8_32_e : c8_32 = .seq c8_33 c8_34 := rfl
theorem c8_33_r : RG (E0 mm) 8 c8_33 := rgN rfl
theorem c8_35_r : RG (E0 mm) 8 c8_35 := rgN rfl
theorem c8_36_e : c8_36 = .seq c8_37 c8_38 := rfl
theorem c8_37_r : RG (E0 mm) 8 c8_37 := rgN rfl
theorem c8_39_r : RG (E0 mm) 8 c8_39 := rgN rfl
theorem c8_40_e : c8_40 = .seq c8_41 c8_42 := rfl
theorem c8_41_r : RG (E0 mm) 8 c8_41 := rgN rfl
theorem c8_43_r : RG (E0 mm) 8 c8_43 := rgN rfl
theorem c8_44_e : c8_44 = .seq c8_45 c8_46 := rfl
theorem c8_45_r : RG (E0 mm) 8 c8_45 := rgN rfl
theorem c8_47_r : RG (E0 mm) 8 c8_47 := rgN rfl
theorem c8_48_e : c8_48 = .seq c8_49 c8_50 := rfl
theorem c8_49_r : RG (E0 mm) 8 c8_49 := rgN rfl
theorem c8_51_e : c8_51 = .seq c8_52 c8_53 := rfl
theorem c8_52_r : RG (E0 mm) 8 c8_52 := rgN rfl
theorem c8_54_r : RG (E0 mm) 8 c8_54 := rgN rfl
theorem c8_55_e : c8_55 = .skip := rfl
theorem c8_56_e : c8_56 = .seq c8_57 c8_58 := rfl
theorem c8_57_r : RG (E0 mm) 8 c8_57 := rgN rfl
theorem c8_59_e : c8_59 = .seq c8_60 c8_65 := rfl
theorem c8_60_e : c8_60 = .seq c8_61 c8_62 := rfl
theorem c8_61_r : RG (E0 mm) 8 c8_61 := rgN rfl
theorem c8_63_r : RG (E0 mm) 8 c8_63 := rgN rfl
theorem c8_64_e : c8_64 = .skip := rfl
theorem c8_65_r : RG (E0 mm) 8 c8_65 := rgN rfl
theorem c8_66_e : c8_66 = .skip := rfl
theorem c8_67_r : RG (E0 mm) 8 c8_67 := rgN rfl
theorem c8_68_e : c8_68 = .seq c8_69 c8_89 := rfl
theorem c8_69_e : c8_69 = .seq c8_70 c8_71 := rfl
theorem c8_70_r : RG (E0 mm) 8 c8_70 := rgN rfl
theorem c8_71_e : c8_71 = .block 3 c8_72 := rfl
theorem c8_72_l (m : Nat) (st : St) : den (E0 mm) 8 m (callW (E0 mm)) itW c8_72 none st = loopD itW (loopF (E0 mm) 8 m (callW (E0 mm)) itW c8_73 [(0, .keep), (2, .keep), (3, .keep), (10, .keep)]) (canon m [(0, .keep), (2, .keep), (3, .keep), (10, .keep)] st) := rfl
theorem c8_73_e : c8_73 = .seq c8_74 c8_79 := rfl
theorem c8_74_e : c8_74 = .seq c8_75 c8_76 := rfl
theorem c8_75_r : RG (E0 mm) 8 c8_75 := rgN rfl
theorem c8_77_e : c8_77 = .skip := rfl
theorem c8_78_e : c8_78 = .exit 3 := rfl
theorem c8_79_e : c8_79 = .seq c8_80 c8_88 := rfl
theorem c8_80_e : c8_80 = .block 4 c8_81 := rfl
theorem c8_81_e : c8_81 = .seq c8_82 c8_83 := rfl
theorem c8_82_r : RG (E0 mm) 8 c8_82 := rgN rfl
theorem c8_84_e : c8_84 = .seq c8_85 c8_86 := rfl
theorem c8_85_r : RG (E0 mm) 8 c8_85 := rgN rfl
theorem c8_86_e : c8_86 = .ret := rfl
theorem c8_87_e : c8_87 = .skip := rfl
theorem c8_88_r : RG (E0 mm) 8 c8_88 := rgN rfl
theorem c8_89_e : c8_89 = .seq c8_90 c8_91 := rfl
theorem c8_90_r : RG (E0 mm) 8 c8_90 := rgN rfl
theorem c8_91_e : c8_91 = .seq c8_92 c8_110 := rfl
theorem c8_92_e : c8_92 = .seq c8_93 c8_94 := rfl
theorem c8_93_r : RG (E0 mm) 8 c8_93 := rgN rfl
theorem c8_94_e : c8_94 = .block 5 c8_95 := rfl
theorem c8_95_l (m : Nat) (st : St) : den (E0 mm) 8 m (callW (E0 mm)) itW c8_95 none st = loopD itW (loopF (E0 mm) 8 m (callW (E0 mm)) itW c8_96 [(2, .keep), (3, .keep), (11, .keep), (12, .keep)]) (canon m [(2, .keep), (3, .keep), (11, .keep), (12, .keep)] st) := rfl
theorem c8_96_e : c8_96 = .seq c8_97 c8_102 := rfl
theorem c8_97_e : c8_97 = .seq c8_98 c8_99 := rfl
theorem c8_98_r : RG (E0 mm) 8 c8_98 := rgN rfl
theorem c8_100_e : c8_100 = .skip := rfl
theorem c8_101_e : c8_101 = .exit 5 := rfl
theorem c8_102_e : c8_102 = .seq c8_103 c8_109 := rfl
theorem c8_103_e : c8_103 = .block 6 c8_104 := rfl
theorem c8_104_e : c8_104 = .seq c8_105 c8_106 := rfl
theorem c8_105_r : RG (E0 mm) 8 c8_105 := rgN rfl
theorem c8_107_r : RG (E0 mm) 8 c8_107 := rgN rfl
theorem c8_108_e : c8_108 = .skip := rfl
theorem c8_109_r : RG (E0 mm) 8 c8_109 := rgN rfl
theorem c8_110_e : c8_110 = .seq c8_111 c8_112 := rfl
theorem c8_111_r : RG (E0 mm) 8 c8_111 := rgN rfl
theorem c8_112_e : c8_112 = .ret := rfl
abbrev R8 := (Bool × Bool × Bool × Bool × Bool × Bool × Int × Int × Int × Int)
def e8 : R8 → AV × Heap := fun x => (.v (.agg [.d (.sc (.bool x.1)), .d (.sc (.bool x.2.1)), .d (.sc (.bool x.2.2.1)), .d (.sc (.bool x.2.2.2.1)), .d (.sc (.bool x.2.2.2.2.1)), .d (.sc (.bool x.2.2.2.2.2.1)), .d (.sc (.int .i64 x.2.2.2.2.2.2.1)), .d (.sc (.int .i64 x.2.2.2.2.2.2.2.1)), .d (.sc (.int .i64 x.2.2.2.2.2.2.2.2.1)), .d (.sc (.int .i64 x.2.2.2.2.2.2.2.2.2))]), [])
def K8_10 : Option (Ex × St) → Option (AV × Heap) := fun r => bodyD (E0 mm) [.cell 2 24] 0 false (seqD (E0 mm) 8 0 (callW (E0 mm)) itW c8_68 (blockD 0 (r)))
def en8_10 : (Bool × List (Bs × Bs) × Bool × List Bs × Int × Bool × Bool × Bool × Bool × Bool × Bool × Int × Int × Int × Int × Bool × Bool × Bool × Bool × Bool × Bool × Int × Int × Int × Int) → X := fun x => (none, [.v (.c (.d (.lst x.1 (enL enSS x.2.1)))), .v (.c (.ptr 0 0)), .v (.c (.ptr 1 0)), .v (.c (.own x.2.2.1 (enL enS x.2.2.2.1) 2)), .v (.c (.d (.sc (.int .i64 x.2.2.2.2.1))))], [.cells [.d (.sc (.bool x.2.2.2.2.2.1)), .d (.sc (.bool x.2.2.2.2.2.2.1)), .d (.sc (.bool x.2.2.2.2.2.2.2.1)), .d (.sc (.bool x.2.2.2.2.2.2.2.2.1)), .d (.sc (.bool x.2.2.2.2.2.2.2.2.2.1)), .d (.sc (.bool x.2.2.2.2.2.2.2.2.2.2.1)), .d (.sc (.int .i64 x.2.2.2.2.2.2.2.2.2.2.2.1)), .d (.sc (.int .i64 x.2.2.2.2.2.2.2.2.2.2.2.2.1)), .d (.sc (.int .i64 x.2.2.2.2.2.2.2.2.2.2.2.2.2.1)), .d (.sc (.int .i64 x.2.2.2.2.2.2.2.2.2.2.2.2.2.2.1))], .cells [.d (.sc (.bool x.2.2.2.2.2.2.2.2.2.2.2.2.2.2.2.1)), .d (.sc (.bool x.2.2.2.2.2.2.2.2.2.2.2.2.2.2.2.2.1)), .d (.sc (.bool x.2.2.2.2.2.2.2.2.2.2.2.2.2.2.2.2.2.1)), .d (.sc (.bool x.2.2.2.2.2.2.2.2.2.2.2.2.2.2.2.2.2.2.1)), .d (.sc (.bool x.2.2.2.2.2.2.2.2.2.2.2.2.2.2.2.2.2.2.2.1)), .d (.sc (.bool x.2.2.2.2.2.2.2.2.2.2.2.2.2.2.2.2.2.2.2.2.1)), .d (.sc (.int .i64 x.2.2.2.2.2.2.2.2.2.2.2.2.2.2.2.2.2.2.2.2.2.1)), .d (.sc (.int .i64 x.2.2.2.2.2.2.2.2.2.2.2.2.2.2.2.2.2.2.2.2.2.2.1)), .d (.sc (.int .i64 x.2.2.2.2.2.2.2.2.2.2.2.2.2.2.2.2.2.2.2.2.2.2.2.1)), .d (.sc (.int .i64 x.2.2.2.2.2.2.2.2.2.2.2.2.2.2.2.2.2.2.2.2.2.2.2.2))], .row x.2.2.2.1.length (rz x.2.2.1 1)])
def j8_67 (l0_0 : Bool) (l0_1 : List (Bs × Bs)) (all4_0 : Bool) (all4_1 : List Bs) (i5 : Int) (h0_0 h0_1 : Bool) (h0_2 h0_3 : Bool) (h0_4 h0_5 : Bool) (h0_6 h0_7 : Int) (h0_8 h0_9 : Int) (h1_0 h1_1 : Bool) (h1_2 h1_3 : Bool) (h1_4 h1_5 : Bool) (h1_6 h1_7 : Int) (h1_8 h1_9 : Int) : Option ((Bool × List (Bs × Bs) × Bool × List Bs × Int × Bool × Bool × Bool × Bool × Bool × Bool × Int × Int × Int × Int × Bool × Bool × Bool × Bool × Bool × Bool × Int × Int × Int × Int) ⊕ R8) :=
  some (.inl (l0_0, l0_1, all4_0, all4_1, (w64 (i5 + 1)), h0_0, h0_1, h0_2, h0_3, h0_4, h0_5, h0_6, h0_7, h0_8, h0_9, h1_0, h1_1, h1_2, h1_3, h1_4, h1_5, h1_6, h1_7, h1_8, h1_9))
theorem j8_67_t (l0_0 : Bool) (l0_1 : List (Bs × Bs)) (all4_0 : Bool) (all4_1 : List Bs) (i5 : Int) (h0_0 h0_1 : Bool) (h0_2 h0_3 : Bool) (h0_4 h0_5 : Bool) (h0_6 h0_7 : Int) (h0_8 h0_9 : Int) (h1_0 h1_1 : Bool) (h1_2 h1_3 : Bool) (h1_4 h1_5 : Bool) (h1_6 h1_7 : Int) (h1_8 h1_9 : Int)  (sl : Nat → AV) (zq0 : sl 0 = .v (.c (.d (.lst l0_0 (enL enSS l0_1))))) (zq2 : sl 2 = .v (.c (.ptr 0 0))) (zq3 : sl 3 = .v (.c (.ptr 1 0))) (zq4 : sl 4 = .v (.c (.own all4_0 (enL enS all4_1) 2))) (zq5 : sl 5 = .v (.c (.d (.sc (.int .i64 i5))))) :
    stepE (K8_10 (mm := mm)) (loopK 0 [(0, .keep), (2, .keep), (3, .keep), (4, .keep), (5, .keep)] (den (E0 mm) 8 0 (callW (E0 mm)) itW c8_67 none ⟨sl, [.cells [.d (.sc (.bool h0_0)), .d (.sc (.bool h0_1)), .d (.sc (.bool h0_2)), .d (.sc (.bool h0_3)), .d (.sc (.bool h0_4)), .d (.sc (.bool h0_5)), .d (.sc (.int .i64 h0_6)), .d (.sc (.int .i64 h0_7)), .d (.sc (.int .i64 h0_8)), .d (.sc (.int .i64 h0_9))], .cells [.d (.sc (.bool h1_0)), .d (.sc (.bool h1_1)), .d (.sc (.bool h1_2)), .d (.sc (.bool h1_3)), .d (.sc (.bool h1_4)), .d (.sc (.bool h1_5)), .d (.sc (.int .i64 h1_6)), .d (.sc (.int .i64 h1_7)), .d (.sc (.int .i64 h1_8)), .d (.sc (.int .i64 h1_9))], .row all4_1.length (rz all4_0 1)]⟩)) = (j8_67 l0_0 l0_1 all4_0 all4_1 i5 h0_0 h0_1 h0_2 h0_3 h0_4 h0_5 h0_6 h0_7 h0_8 h0_9 h1_0 h1_1 h1_2 h1_3 h1_4 h1_5 h1_6 h1_7 h1_8 h1_9).map (sm en8_10 e8) := by
  simp -implicitDefEqProofs only [j8_67, c8_67_r, (show opsOf c8_67 = _ :: _ from rfl), zq0, zq2, zq3, zq4, zq5, setA, setB, za, zb, zc, zd, ze, zf, zg, zh, zi, zj, zk, zl, zm, zn, zo, zp, reduceCtorEq, zE, ↓reduceIte]
  all_goals rfl
def j8_65 (l0_0 : Bool) (l0_1 : List (Bs × Bs)) (all4_0 : Bool) (all4_1 : List Bs) (i5 n9 : Int) (h0_0 h0_1 : Bool) (h0_2 h0_3 : Bool) (h0_4 h0_5 : Bool) (h0_6 h0_7 : Int) (h0_8 h0_9 : Int) (h1_0 h1_1 : Bool) (h1_2 h1_3 : Bool) (h1_4 h1_5 : Bool) (h1_6 h1_7 : Int) (h1_8 h1_9 : Int) : Option ((Bool × List (Bs × Bs) × Bool × List Bs × Int × Bool × Bool × Bool × Bool × Bool × Bool × Int × Int × Int × Int × Bool × Bool × Bool × Bool × Bool × Bool × Int × Int × Int × Int) ⊕ R8) :=
  (m30 h1_9 n9).bind fun yr22 =>
    j8_67 l0_0 l0_1 all4_0 all4_1 i5 h0_0 h0_1 h0_2 h0_3 h0_4 h0_5 h0_6 h0_7 h0_8 h0_9 h1_0 h1_1 h1_2 h1_3 h1_4 h1_5 h1_6 h1_7 h1_8 yr22
theorem j8_65_t (l0_0 : Bool) (l0_1 : List (Bs × Bs)) (all4_0 : Bool) (all4_1 : List Bs) (i5 n9 : Int) (h0_0 h0_1 : Bool) (h0_2 h0_3 : Bool) (h0_4 h0_5 : Bool) (h0_6 h0_7 : Int) (h0_8 h0_9 : Int) (h1_0 h1_1 : Bool) (h1_2 h1_3 : Bool) (h1_4 h1_5 : Bool) (h1_6 h1_7 : Int) (h1_8 h1_9 : Int)  (sl : Nat → AV) (zq0 : sl 0 = .v (.c (.d (.lst l0_0 (enL enSS l0_1))))) (zq2 : sl 2 = .v (.c (.ptr 0 0))) (zq3 : sl 3 = .v (.c (.ptr 1 0))) (zq4 : sl 4 = .v (.c (.own all4_0 (enL enS all4_1) 2))) (zq5 : sl 5 = .v (.c (.d (.sc (.int .i64 i5))))) (zq9 : sl 9 = .v (.c (.d (.sc (.int .i64 n9))))) :
    stepE (K8_10 (mm := mm)) (loopK 0 [(0, .keep), (2, .keep), (3, .keep), (4, .keep), (5, .keep)] (seqD (E0 mm) 8 0 (callW (E0 mm)) itW c8_67 (blockD 1 (blockD 2 (den (E0 mm) 8 0 (callW (E0 mm)) itW c8_65 none ⟨sl, [.cells [.d (.sc (.bool h0_0)), .d (.sc (.bool h0_1)), .d (.sc (.bool h0_2)), .d (.sc (.bool h0_3)), .d (.sc (.bool h0_4)), .d (.sc (.bool h0_5)), .d (.sc (.int .i64 h0_6)), .d (.sc (.int .i64 h0_7)), .d (.sc (.int .i64 h0_8)), .d (.sc (.int .i64 h0_9))], .cells [.d (.sc (.bool h1_0)), .d (.sc (.bool h1_1)), .d (.sc (.bool h1_2)), .d (.sc (.bool h1_3)), .d (.sc (.bool h1_4)), .d (.sc (.bool h1_5)), .d (.sc (.int .i64 h1_6)), .d (.sc (.int .i64 h1_7)), .d (.sc (.int .i64 h1_8)), .d (.sc (.int .i64 h1_9))], .row all4_1.length (rz all4_0 1)]⟩))))) = (j8_65 l0_0 l0_1 all4_0 all4_1 i5 n9 h0_0 h0_1 h0_2 h0_3 h0_4 h0_5 h0_6 h0_7 h0_8 h0_9 h1_0 h1_1 h1_2 h1_3 h1_4 h1_5 h1_6 h1_7 h1_8 h1_9).map (sm en8_10 e8) := by
  simp -implicitDefEqProofs only [j8_65, c8_65_r, (show opsOf c8_65 = _ :: _ from rfl), Tryd.underlying24, sz3, ag3, ent30, prm30, f30_t, zq0, zq2, zq3, zq4, zq5, zq9, setA, setB, za, zb, zc, zd, ze, zf, zg, zh, zi, zj, zk, zl, zm, zn, zo, zp, reduceCtorEq, zE, ↓reduceIte]
  refine brM (fun yc21 => ?_) (fun yr22 yc21 => ?_)
  · rw [yc21]; rfl
  · simp -implicitDefEqProofs only [e30, Tryd.underlying24, sz3, zq0, zq2, zq3, zq4, zq5, zq9, yc21, setA, setB, za, zb, zc, zd, ze, zf, zg, zh, zi, zj, zk, zl, zm, zn, zo, zp, reduceCtorEq, zE, ↓reduceIte]
    exact j8_67_t l0_0 l0_1 all4_0 all4_1 i5 h0_0 h0_1 h0_2 h0_3 h0_4 h0_5 h0_6 h0_7 h0_8 h0_9 h1_0 h1_1 h1_2 h1_3 h1_4 h1_5 h1_6 h1_7 h1_8 yr22 _ (by exact zq0) (by exact zq2) (by exact zq3) (by exact zq4) (by exact zq5)
def K8_72 : Option (Ex × St) → Option (AV × Heap) := fun r => bodyD (E0 mm) [.cell 2 24] 0 false (seqD (E0 mm) 8 0 (callW (E0 mm)) itW c8_89 (blockD 3 (r)))
def en8_72 : (Bool × List (Bs × Bs) × Int × Bool × Bool × Bool × Bool × Bool × Bool × Int × Int × Int × Int × Bool × Bool × Bool × Bool × Bool × Bool × Int × Int × Int × Int) → X := fun x => (none, [.v (.c (.d (.lst x.1 (enL enSS x.2.1)))), .v (.c (.ptr 0 0)), .v (.c (.ptr 1 0)), .v (.c (.d (.sc (.int .i64 x.2.2.1))))], [.cells [.d (.sc (.bool x.2.2.2.1)), .d (.sc (.bool x.2.2.2.2.1)), .d (.sc (.bool x.2.2.2.2.2.1)), .d (.sc (.bool x.2.2.2.2.2.2.1)), .d (.sc (.bool x.2.2.2.2.2.2.2.1)), .d (.sc (.bool x.2.2.2.2.2.2.2.2.1)), .d (.sc (.int .i64 x.2.2.2.2.2.2.2.2.2.1)), .d (.sc (.int .i64 x.2.2.2.2.2.2.2.2.2.2.1)), .d (.sc (.int .i64 x.2.2.2.2.2.2.2.2.2.2.2.1)), .d (.sc (.int .i64 x.2.2.2.2.2.2.2.2.2.2.2.2.1))], .cells [.d (.sc (.bool x.2.2.2.2.2.2.2.2.2.2.2.2.2.1)), .d (.sc (.bool x.2.2.2.2.2.2.2.2.2.2.2.2.2.2.1)), .d (.sc (.bool x.2.2.2.2.2.2.2.2.2.2.2.2.2.2.2.1)), .d (.sc (.bool x.2.2.2.2.2.2.2.2.2.2.2.2.2.2.2.2.1)), .d (.sc (.bool x.2.2.2.2.2.2.2.2.2.2.2.2.2.2.2.2.2.1)), .d (.sc (.bool x.2.2.2.2.2.2.2.2.2.2.2.2.2.2.2.2.2.2.1)), .d (.sc (.int .i64 x.2.2.2.2.2.2.2.2.2.2.2.2.2.2.2.2.2.2.2.1)), .d (.sc (.int .i64 x.2.2.2.2.2.2.2.2.2.2.2.2.2.2.2.2.2.2.2.2.1)), .d (.sc (.int .i64 x.2.2.2.2.2.2.2.2.2.2.2.2.2.2.2.2.2.2.2.2.2.1)), .d (.sc (.int .i64 x.2.2.2.2.2.2.2.2.2.2.2.2.2.2.2.2.2.2.2.2.2.2))]])
def K8_95 : Option (Ex × St) → Option (AV × Heap) := fun r => bodyD (E0 mm) [.cell 2 24] 0 false (seqD (E0 mm) 8 0 (callW (E0 mm)) itW c8_110 (blockD 5 (r)))
def en8_95 : (Bool × List Bs × Int × Bool × Bool × Bool × Bool × Bool × Bool × Int × Int × Int × Int × Bool × Bool × Bool × Bool × Bool × Bool × Int × Int × Int × Int) → X := fun x => (none, [.v (.c (.ptr 0 0)), .v (.c (.ptr 1 0)), .v (.c (.own x.1 (enL enS x.2.1) 2)), .v (.c (.d (.sc (.int .i64 x.2.2.1))))], [.cells [.d (.sc (.bool x.2.2.2.1)), .d (.sc (.bool x.2.2.2.2.1)), .d (.sc (.bool x.2.2.2.2.2.1)), .d (.sc (.bool x.2.2.2.2.2.2.1)), .d (.sc (.bool x.2.2.2.2.2.2.2.1)), .d (.sc (.bool x.2.2.2.2.2.2.2.2.1)), .d (.sc (.int .i64 x.2.2.2.2.2.2.2.2.2.1)), .d (.sc (.int .i64 x.2.2.2.2.2.2.2.2.2.2.1)), .d (.sc (.int .i64 x.2.2.2.2.2.2.2.2.2.2.2.1)), .d (.sc (.int .i64 x.2.2.2.2.2.2.2.2.2.2.2.2.1))], .cells [.d (.sc (.bool x.2.2.2.2.2.2.2.2.2.2.2.2.2.1)), .d (.sc (.bool x.2.2.2.2.2.2.2.2.2.2.2.2.2.2.1)), .d (.sc (.bool x.2.2.2.2.2.2.2.2.2.2.2.2.2.2.2.1)), .d (.sc (.bool x.2.2.2.2.2.2.2.2.2.2.2.2.2.2.2.2.1)), .d (.sc (.bool x.2.2.2.2.2.2.2.2.2.2.2.2.2.2.2.2.2.1)), .d (.sc (.bool x.2.2.2.2.2.2.2.2.2.2.2.2.2.2.2.2.2.2.1)), .d (.sc (.int .i64 x.2.2.2.2.2.2.2.2.2.2.2.2.2.2.2.2.2.2.2.1)), .d (.sc (.int .i64 x.2.2.2.2.2.2.2.2.2.2.2.2.2.2.2.2.2.2.2.2.1)), .d (.sc (.int .i64 x.2.2.2.2.2.2.2.2.2.2.2.2.2.2.2.2.2.2.2.2.2.1)), .d (.sc (.int .i64 x.2.2.2.2.2.2.2.2.2.2.2.2.2.2.2.2.2.2.2.2.2.2))], .row x.2.1.length (rz x.1 1)])
def j8_109 (old11_0 : Bool) (old11_1 : List Bs) (i12 : Int) (h0_0 h0_1 : Bool) (h0_2 h0_3 : Bool) (h0_4 h0_5 : Bool) (h0_6 h0_7 : Int) (h0_8 h0_9 : Int) (h1_0 h1_1 : Bool) (h1_2 h1_3 : Bool) (h1_4 h1_5 : Bool) (h1_6 h1_7 : Int) (h1_8 h1_9 : Int) : Option ((Bool × List Bs × Int × Bool × Bool × Bool × Bool × Bool × Bool × Int × Int × Int × Int × Bool × Bool × Bool × Bool × Bool × Bool × Int × Int × Int × Int) ⊕ R8) :=
  some (.inl (old11_0, old11_1, (w64 (i12 + 1)), h0_0, h0_1, h0_2, h0_3, h0_4, h0_5, h0_6, h0_7, h0_8, h0_9, h1_0, h1_1, h1_2, h1_3, h1_4, h1_5, h1_6, h1_7, h1_8, h1_9))
theorem j8_109_t (old11_0 : Bool) (old11_1 : List Bs) (i12 : Int) (h0_0 h0_1 : Bool) (h0_2 h0_3 : Bool) (h0_4 h0_5 : Bool) (h0_6 h0_7 : Int) (h0_8 h0_9 : Int) (h1_0 h1_1 : Bool) (h1_2 h1_3 : Bool) (h1_4 h1_5 : Bool) (h1_6 h1_7 : Int) (h1_8 h1_9 : Int)  (sl : Nat → AV) (zq2 : sl 2 = .v (.c (.ptr 0 0))) (zq3 : sl 3 = .v (.c (.ptr 1 0))) (zq11 : sl 11 = .v (.c (.own old11_0 (enL enS old11_1) 2))) (zq12 : sl 12 = .v (.c (.d (.sc (.int .i64 i12))))) :
    stepE (K8_95 (mm := mm)) (loopK 0 [(2, .keep), (3, .keep), (11, .keep), (12, .keep)] (den (E0 mm) 8 0 (callW (E0 mm)) itW c8_109 none ⟨sl, [.cells [.d (.sc (.bool h0_0)), .d (.sc (.bool h0_1)), .d (.sc (.bool h0_2)), .d (.sc (.bool h0_3)), .d (.sc (.bool h0_4)), .d (.sc (.bool h0_5)), .d (.sc (.int .i64 h0_6)), .d (.sc (.int .i64 h0_7)), .d (.sc (.int .i64 h0_8)), .d (.sc (.int .i64 h0_9))], .cells [.d (.sc (.bool h1_0)), .d (.sc (.bool h1_1)), .d (.sc (.bool h1_2)), .d (.sc (.bool h1_3)), .d (.sc (.bool h1_4)), .d (.sc (.bool h1_5)), .d (.sc (.int .i64 h1_6)), .d (.sc (.int .i64 h1_7)), .d (.sc (.int .i64 h1_8)), .d (.sc (.int .i64 h1_9))], .row old11_1.length (rz old11_0 1)]⟩)) = (j8_109 old11_0 old11_1 i12 h0_0 h0_1 h0_2 h0_3 h0_4 h0_5 h0_6 h0_7 h0_8 h0_9 h1_0 h1_1 h1_2 h1_3 h1_4 h1_5 h1_6 h1_7 h1_8 h1_9).map (sm en8_95 e8) := by
  simp -implicitDefEqProofs only [j8_109, c8_109_r, (show opsOf c8_109 = _ :: _ from rfl), zq2, zq3, zq11, zq12, setA, setB, za, zb, zc, zd, ze, zf, zg, zh, zi, zj, zk, zl, zm, zn, zo, zp, reduceCtorEq, zE, ↓reduceIte]
  all_goals rfl
def j8_110 (h0_0 h0_1 : Bool) (h0_2 h0_3 : Bool) (h0_4 h0_5 : Bool) (h0_6 h0_7 : Int) (h0_8 h0_9 : Int) (h1_0 h1_1 : Bool) (h1_2 h1_3 : Bool) (h1_4 h1_5 : Bool) (h1_6 h1_7 : Int) (h1_8 h1_9 : Int) : Option R8 :=
  some (h1_0, h1_1, h1_2, h1_3, h1_4, h1_5, h1_6, h1_7, h1_8, h1_9)
theorem j8_110_t (h0_0 h0_1 : Bool) (h0_2 h0_3 : Bool) (h0_4 h0_5 : Bool) (h0_6 h0_7 : Int) (h0_8 h0_9 : Int) (h1_0 h1_1 : Bool) (h1_2 h1_3 : Bool) (h1_4 h1_5 : Bool) (h1_6 h1_7 : Int) (h1_8 h1_9 : Int) (g2 : Ob) (sl : Nat → AV) (zq2 : sl 2 = .v (.c (.ptr 0 0))) (zq3 : sl 3 = .v (.c (.ptr 1 0))) :
    bodyD (E0 mm) [.cell 2 24] 0 false (den (E0 mm) 8 0 (callW (E0 mm)) itW c8_110 none ⟨sl, [.cells [.d (.sc (.bool h0_0)), .d (.sc (.bool h0_1)), .d (.sc (.bool h0_2)), .d (.sc (.bool h0_3)), .d (.sc (.bool h0_4)), .d (.sc (.bool h0_5)), .d (.sc (.int .i64 h0_6)), .d (.sc (.int .i64 h0_7)), .d (.sc (.int .i64 h0_8)), .d (.sc (.int .i64 h0_9))], .cells [.d (.sc (.bool h1_0)), .d (.sc (.bool h1_1)), .d (.sc (.bool h1_2)), .d (.sc (.bool h1_3)), .d (.sc (.bool h1_4)), .d (.sc (.bool h1_5)), .d (.sc (.int .i64 h1_6)), .d (.sc (.int .i64 h1_7)), .d (.sc (.int .i64 h1_8)), .d (.sc (.int .i64 h1_9))], g2]⟩) = (j8_110 h0_0 h0_1 h0_2 h0_3 h0_4 h0_5 h0_6 h0_7 h0_8 h0_9 h1_0 h1_1 h1_2 h1_3 h1_4 h1_5 h1_6 h1_7 h1_8 h1_9).map e8 := by
  simp -implicitDefEqProofs only [j8_110, c8_110_e, c8_111_r, (show opsOf c8_111 = _ :: _ from rfl), sz24, ag24, c8_112_e, zq2, zq3, setA, setB, za, zb, zc, zd, ze, zf, zg, zh, zi, zj, zk, zl, zm, zn, zo, zp, reduceCtorEq, zE, ↓reduceIte]
  all_goals rfl
def s8_95 (old11_0 : Bool) (old11_1 : List Bs) (i12 : Int) (h0_0 h0_1 : Bool) (h0_2 h0_3 : Bool) (h0_4 h0_5 : Bool) (h0_6 h0_7 : Int) (h0_8 h0_9 : Int) (h1_0 h1_1 : Bool) (h1_2 h1_3 : Bool) (h1_4 h1_5 : Bool) (h1_6 h1_7 : Int) (h1_8 h1_9 : Int) : Option ((Bool × List Bs × Int × Bool × Bool × Bool × Bool × Bool × Bool × Int × Int × Int × Int × Bool × Bool × Bool × Bool × Bool × Bool × Int × Int × Int × Int) ⊕ R8) :=
  if (decide (i12 < (old11_1.length : Int))) = true then
    if 0 ≤ i12 ∧ i12 < (old11_1.length : Int) then
      (m32 (old11_1.getD i12.toNat default)).bind fun yr35 =>
        if (yr35 == ([110, 111, 45, 99, 97, 99, 104, 101] : Bs)) = true then
          j8_109 old11_0 old11_1 i12 h0_0 h0_1 h0_2 h0_3 h0_4 h0_5 h0_6 h0_7 h0_8 h0_9 h1_0 true h1_2 h1_3 h1_4 h1_5 h1_6 h1_7 h1_8 h1_9
        else
          j8_109 old11_0 old11_1 i12 h0_0 h0_1 h0_2 h0_3 h0_4 h0_5 h0_6 h0_7 h0_8 h0_9 h1_0 h1_1 h1_2 h1_3 h1_4 h1_5 h1_6 h1_7 h1_8 h1_9
    else none
  else
    (j8_110 h0_0 h0_1 h0_2 h0_3 h0_4 h0_5 h0_6 h0_7 h0_8 h0_9 h1_0 h1_1 h1_2 h1_3 h1_4 h1_5 h1_6 h1_7 h1_8 h1_9).map .inr
theorem s8_95_t (old11_0 : Bool) (old11_1 : List Bs) (i12 : Int) (h0_0 h0_1 : Bool) (h0_2 h0_3 : Bool) (h0_4 h0_5 : Bool) (h0_6 h0_7 : Int) (h0_8 h0_9 : Int) (h1_0 h1_1 : Bool) (h1_2 h1_3 : Bool) (h1_4 h1_5 : Bool) (h1_6 h1_7 : Int) (h1_8 h1_9 : Int) :
    stepE (K8_95 (mm := mm)) (loopF (E0 mm) 8 0 (callW (E0 mm)) itW c8_96 [(2, .keep), (3, .keep), (11, .keep), (12, .keep)] (none, [.v (.c (.ptr 0 0)), .v (.c (.ptr 1 0)), .v (.c (.own old11_0 (enL enS old11_1) 2)), .v (.c (.d (.sc (.int .i64 i12))))], [.cells [.d (.sc (.bool h0_0)), .d (.sc (.bool h0_1)), .d (.sc (.bool h0_2)), .d (.sc (.bool h0_3)), .d (.sc (.bool h0_4)), .d (.sc (.bool h0_5)), .d (.sc (.int .i64 h0_6)), .d (.sc (.int .i64 h0_7)), .d (.sc (.int .i64 h0_8)), .d (.sc (.int .i64 h0_9))], .cells [.d (.sc (.bool h1_0)), .d (.sc (.bool h1_1)), .d (.sc (.bool h1_2)), .d (.sc (.bool h1_3)), .d (.sc (.bool h1_4)), .d (.sc (.bool h1_5)), .d (.sc (.int .i64 h1_6)), .d (.sc (.int .i64 h1_7)), .d (.sc (.int .i64 h1_8)), .d (.sc (.int .i64 h1_9))], .row old11_1.length (rz old11_0 1)])) = (s8_95 old11_0 old11_1 i12 h0_0 h0_1 h0_2 h0_3 h0_4 h0_5 h0_6 h0_7 h0_8 h0_9 h1_0 h1_1 h1_2 h1_3 h1_4 h1_5 h1_6 h1_7 h1_8 h1_9).map (sm en8_95 e8) := by
  simp -implicitDefEqProofs only [s8_95, loopF_eq, c8_96_e, c8_97_e, c8_98_r, (show opsOf c8_98 = _ :: _ from rfl), Tryd.underlying30, (show c8_99 = Code.cond _ c8_100 c8_101 from rfl), setA, setB, za, zb, zc, zd, ze, zf, zg, zh, zi, zj, zk, zl, zm, zn, zo, zp, reduceCtorEq, zE, ↓reduceIte]
  refine brB (fun yc31 => ?_) (fun yc31 => ?_)
  · simp -implicitDefEqProofs only [c8_100_e, c8_102_e, c8_103_e, c8_104_e, c8_105_r, (show opsOf c8_105 = _ :: _ from rfl), Tryd.underlying30, sz9, enS_a, yc31, setA, setB, za, zb, zc, zd, ze, zf, zg, zh, zi, zj, zk, zl, zm, zn, zo, zp, reduceCtorEq, zE, ↓reduceIte]
    refine brP (fun yc32 => ?_) (fun yc32 => ?_)
    · have yd33 : i12.toNat < old11_1.length := by omega
      simp -implicitDefEqProofs only [(enL_get enS old11_1 i12.toNat yd33), enS_e, sz9, ag9, ent32, prm32, f32_t, yc31, yc32, yd33, setA, setB, za, zb, zc, zd, ze, zf, zg, zh, zi, zj, zk, zl, zm, zn, zo, zp, reduceCtorEq, zE, ↓reduceIte]
      refine brM (fun yc34 => ?_) (fun yr35 yc34 => ?_)
      · rw [yc34]; rfl
      · simp -implicitDefEqProofs only [e32, (show c8_106 = Code.cond _ c8_107 c8_108 from rfl), yc31, yc32, yd33, yc34, setA, setB, za, zb, zc, zd, ze, zf, zg, zh, zi, zj, zk, zl, zm, zn, zo, zp, reduceCtorEq, zE, ↓reduceIte]
        refine brB (fun yc36 => ?_) (fun yc36 => ?_)
        · simp -implicitDefEqProofs only [c8_107_r, (show opsOf c8_107 = _ :: _ from rfl), Tryd.underlying24, sz4, yc31, yc32, yd33, yc34, yc36, setA, setB, za, zb, zc, zd, ze, zf, zg, zh, zi, zj, zk, zl, zm, zn, zo, zp, reduceCtorEq, zE, ↓reduceIte]
          exact j8_109_t old11_0 old11_1 i12 h0_0 h0_1 h0_2 h0_3 h0_4 h0_5 h0_6 h0_7 h0_8 h0_9 h1_0 true h1_2 h1_3 h1_4 h1_5 h1_6 h1_7 h1_8 h1_9 _ (by rfl) (by rfl) (by rfl) (by rfl)
        · simp -implicitDefEqProofs only [c8_108_e, yc31, yc32, yd33, yc34, yc36, setA, setB, za, zb, zc, zd, ze, zf, zg, zh, zi, zj, zk, zl, zm, zn, zo, zp, reduceCtorEq, zE, ↓reduceIte]
          exact j8_109_t old11_0 old11_1 i12 h0_0 h0_1 h0_2 h0_3 h0_4 h0_5 h0_6 h0_7 h0_8 h0_9 h1_0 h1_1 h1_2 h1_3 h1_4 h1_5 h1_6 h1_7 h1_8 h1_9 _ (by rfl) (by rfl) (by rfl) (by rfl)
    · rw [if_neg yc32]; rfl
  · simp -implicitDefEqProofs only [c8_101_e, K8_95, yc31, setA, setB, za, zb, zc, zd, ze, zf, zg, zh, zi, zj, zk, zl, zm, zn, zo, zp, reduceCtorEq, zE, ↓reduceIte]
    exact mi (j8_110_t h0_0 h0_1 h0_2 h0_3 h0_4 h0_5 h0_6 h0_7 h0_8 h0_9 h1_0 h1_1 h1_2 h1_3 h1_4 h1_5 h1_6 h1_7 h1_8 h1_9 _ _ (by rfl) (by rfl))
def l8_95 (old11_0 : Bool) (old11_1 : List Bs) (i12 : Int) (h0_0 h0_1 : Bool) (h0_2 h0_3 : Bool) (h0_4 h0_5 : Bool) (h0_6 h0_7 : Int) (h0_8 h0_9 : Int) (h1_0 h1_1 : Bool) (h1_2 h1_3 : Bool) (h1_4 h1_5 : Bool) (h1_6 h1_7 : Int) (h1_8 h1_9 : Int) : Option R8 := iter (fun x : (Bool × List Bs × Int × Bool × Bool × Bool × Bool × Bool × Bool × Int × Int × Int × Int × Bool × Bool × Bool × Bool × Bool × Bool × Int × Int × Int × Int) => s8_95 x.1 x.2.1 x.2.2.1 x.2.2.2.1 x.2.2.2.2.1 x.2.2.2.2.2.1 x.2.2.2.2.2.2.1 x.2.2.2.2.2.2.2.1 x.2.2.2.2.2.2.2.2.1 x.2.2.2.2.2.2.2.2.2.1 x.2.2.2.2.2.2.2.2.2.2.1 x.2.2.2.2.2.2.2.2.2.2.2.1 x.2.2.2.2.2.2.2.2.2.2.2.2.1 x.2.2.2.2.2.2.2.2.2.2.2.2.2.1 x.2.2.2.2.2.2.2.2.2.2.2.2.2.2.1 x.2.2.2.2.2.2.2.2.2.2.2.2.2.2.2.1 x.2.2.2.2.2.2.2.2.2.2.2.2.2.2.2.2.1 x.2.2.2.2.2.2.2.2.2.2.2.2.2.2.2.2.2.1 x.2.2.2.2.2.2.2.2.2.2.2.2.2.2.2.2.2.2.1 x.2.2.2.2.2.2.2.2.2.2.2.2.2.2.2.2.2.2.2.1 x.2.2.2.2.2.2.2.2.2.2.2.2.2.2.2.2.2.2.2.2.1 x.2.2.2.2.2.2.2.2.2.2.2.2.2.2.2.2.2.2.2.2.2.1 x.2.2.2.2.2.2.2.2.2.2.2.2.2.2.2.2.2.2.2.2.2.2) (old11_0, old11_1, i12, h0_0, h0_1, h0_2, h0_3, h0_4, h0_5, h0_6, h0_7, h0_8, h0_9, h1_0, h1_1, h1_2, h1_3, h1_4, h1_5, h1_6, h1_7, h1_8, h1_9)
theorem l8_95_t (old11_0 : Bool) (old11_1 : List Bs) (i12 : Int) (h0_0 h0_1 : Bool) (h0_2 h0_3 : Bool) (h0_4 h0_5 : Bool) (h0_6 h0_7 : Int) (h0_8 h0_9 : Int) (h1_0 h1_1 : Bool) (h1_2 h1_3 : Bool) (h1_4 h1_5 : Bool) (h1_6 h1_7 : Int) (h1_8 h1_9 : Int) : bodyD (E0 mm) [.cell 2 24] 0 false (seqD (E0 mm) 8 0 (callW (E0 mm)) itW c8_110 (blockD 5 (itW (loopF (E0 mm) 8 0 (callW (E0 mm)) itW c8_96 [(2, .keep), (3, .keep), (11, .keep), (12, .keep)]) (none, [.v (.c (.ptr 0 0)), .v (.c (.ptr 1 0)), .v (.c (.own old11_0 (enL enS old11_1) 2)), .v (.c (.d (.sc (.int .i64 i12))))], [.cells [.d (.sc (.bool h0_0)), .d (.sc (.bool h0_1)), .d (.sc (.bool h0_2)), .d (.sc (.bool h0_3)), .d (.sc (.bool h0_4)), .d (.sc (.bool h0_5)), .d (.sc (.int .i64 h0_6)), .d (.sc (.int .i64 h0_7)), .d (.sc (.int .i64 h0_8)), .d (.sc (.int .i64 h0_9))], .cells [.d (.sc (.bool h1_0)), .d (.sc (.bool h1_1)), .d (.sc (.bool h1_2)), .d (.sc (.bool h1_3)), .d (.sc (.bool h1_4)), .d (.sc (.bool h1_5)), .d (.sc (.int .i64 h1_6)), .d (.sc (.int .i64 h1_7)), .d (.sc (.int .i64 h1_8)), .d (.sc (.int .i64 h1_9))], .row old11_1.length (rz old11_0 1)])))) = (l8_95 old11_0 old11_1 i12 h0_0 h0_1 h0_2 h0_3 h0_4 h0_5 h0_6 h0_7 h0_8 h0_9 h1_0 h1_1 h1_2 h1_3 h1_4 h1_5 h1_6 h1_7 h1_8 h1_9).map e8 :=
  it_sim (K := (K8_95 (mm := mm))) rfl (enc := en8_95) (fun x => s8_95_t x.1 x.2.1 x.2.2.1 x.2.2.2.1 x.2.2.2.2.1 x.2.2.2.2.2.1 x.2.2.2.2.2.2.1 x.2.2.2.2.2.2.2.1 x.2.2.2.2.2.2.2.2.1 x.2.2.2.2.2.2.2.2.2.1 x.2.2.2.2.2.2.2.2.2.2.1 x.2.2.2.2.2.2.2.2.2.2.2.1 x.2.2.2.2.2.2.2.2.2.2.2.2.1 x.2.2.2.2.2.2.2.2.2.2.2.2.2.1 x.2.2.2.2.2.2.2.2.2.2.2.2.2.2.1 x.2.2.2.2.2.2.2.2.2.2.2.2.2.2.2.1 x.2.2.2.2.2.2.2.2.2.2.2.2.2.2.2.2.1 x.2.2.2.2.2.2.2.2.2.2.2.2.2.2.2.2.2.1 x.2.2.2.2.2.2.2.2.2.2.2.2.2.2.2.2.2.2.1 x.2.2.2.2.2.2.2.2.2.2.2.2.2.2.2.2.2.2.2.1 x.2.2.2.2.2.2.2.2.2.2.2.2.2.2.2.2.2.2.2.2.1 x.2.2.2.2.2.2.2.2.2.2.2.2.2.2.2.2.2.2.2.2.2.1 x.2.2.2.2.2.2.2.2.2.2.2.2.2.2.2.2.2.2.2.2.2.2) (old11_0, old11_1, i12, h0_0, h0_1, h0_2, h0_3, h0_4, h0_5, h0_6, h0_7, h0_8, h0_9, h1_0, h1_1, h1_2, h1_3, h1_4, h1_5, h1_6, h1_7, h1_8, h1_9)
def j8_89 (l0_0 : Bool) (l0_1 : List (Bs × Bs)) (h0_0 h0_1 : Bool) (h0_2 h0_3 : Bool) (h0_4 h0_5 : Bool) (h0_6 h0_7 : Int) (h0_8 h0_9 : Int) (h1_0 h1_1 : Bool) (h1_2 h1_3 : Bool) (h1_4 h1_5 : Bool) (h1_6 h1_7 : Int) (h1_8 h1_9 : Int) : Option R8 :=
  (m27 l0_0 l0_1 ([112, 114, 97, 103, 109, 97] : Bs)).bind fun yr30 =>
    l8_95 yr30.1 yr30.2 (0 : Int) h0_0 h0_1 h0_2 h0_3 h0_4 h0_5 h0_6 h0_7 h0_8 h0_9 h1_0 h1_1 h1_2 h1_3 h1_4 h1_5 h1_6 h1_7 h1_8 h1_9
theorem j8_89_t (l0_0 : Bool) (l0_1 : List (Bs × Bs)) (h0_0 h0_1 : Bool) (h0_2 h0_3 : Bool) (h0_4 h0_5 : Bool) (h0_6 h0_7 : Int) (h0_8 h0_9 : Int) (h1_0 h1_1 : Bool) (h1_2 h1_3 : Bool) (h1_4 h1_5 : Bool) (h1_6 h1_7 : Int) (h1_8 h1_9 : Int)  (sl : Nat → AV) (zq0 : sl 0 = .v (.c (.d (.lst l0_0 (enL enSS l0_1))))) (zq2 : sl 2 = .v (.c (.ptr 0 0))) (zq3 : sl 3 = .v (.c (.ptr 1 0))) :
    bodyD (E0 mm) [.cell 2 24] 0 false (den (E0 mm) 8 0 (callW (E0 mm)) itW c8_89 none ⟨sl, [.cells [.d (.sc (.bool h0_0)), .d (.sc (.bool h0_1)), .d (.sc (.bool h0_2)), .d (.sc (.bool h0_3)), .d (.sc (.bool h0_4)), .d (.sc (.bool h0_5)), .d (.sc (.int .i64 h0_6)), .d (.sc (.int .i64 h0_7)), .d (.sc (.int .i64 h0_8)), .d (.sc (.int .i64 h0_9))], .cells [.d (.sc (.bool h1_0)), .d (.sc (.bool h1_1)), .d (.sc (.bool h1_2)), .d (.sc (.bool h1_3)), .d (.sc (.bool h1_4)), .d (.sc (.bool h1_5)), .d (.sc (.int .i64 h1_6)), .d (.sc (.int .i64 h1_7)), .d (.sc (.int .i64 h1_8)), .d (.sc (.int .i64 h1_9))]]⟩) = (j8_89 l0_0 l0_1 h0_0 h0_1 h0_2 h0_3 h0_4 h0_5 h0_6 h0_7 h0_8 h0_9 h1_0 h1_1 h1_2 h1_3 h1_4 h1_5 h1_6 h1_7 h1_8 h1_9).map e8 := by
  simp -implicitDefEqProofs only [j8_89, c8_89_e, c8_90_r, (show opsOf c8_90 = _ :: _ from rfl), ent27, prm27, (show callW (E0 mm) 27 [.c (.d (.lst l0_0 (enL enSS l0_1))), .c (.d (.sc (.string (S ([112, 114, 97, 103, 109, 97] : Bs)))))] [] = _ from f27_t l0_0 l0_1 ([112, 114, 97, 103, 109, 97] : Bs)), zq0, zq2, zq3, setA, setB, za, zb, zc, zd, ze, zf, zg, zh, zi, zj, zk, zl, zm, zn, zo, zp, reduceCtorEq, zE, ↓reduceIte]
  refine brM (fun yc29 => ?_) (fun yr30 yc29 => ?_)
  · rw [yc29]; rfl
  · simp -implicitDefEqProofs only [e27, c8_91_e, c8_92_e, c8_93_r, (show opsOf c8_93 = _ :: _ from rfl), c8_94_e, c8_95_l, zq0, zq2, zq3, yc29, setA, setB, za, zb, zc, zd, ze, zf, zg, zh, zi, zj, zk, zl, zm, zn, zo, zp, reduceCtorEq, zE, ↓reduceIte]
    exact l8_95_t yr30.1 yr30.2 (0 : Int) h0_0 h0_1 h0_2 h0_3 h0_4 h0_5 h0_6 h0_7 h0_8 h0_9 h1_0 h1_1 h1_2 h1_3 h1_4 h1_5 h1_6 h1_7 h1_8 h1_9
def s8_72 (l0_0 : Bool) (l0_1 : List (Bs × Bs)) (i10 : Int) (h0_0 h0_1 : Bool) (h0_2 h0_3 : Bool) (h0_4 h0_5 : Bool) (h0_6 h0_7 : Int) (h0_8 h0_9 : Int) (h1_0 h1_1 : Bool) (h1_2 h1_3 : Bool) (h1_4 h1_5 : Bool) (h1_6 h1_7 : Int) (h1_8 h1_9 : Int) : Option ((Bool × List (Bs × Bs) × Int × Bool × Bool × Bool × Bool × Bool × Bool × Int × Int × Int × Int × Bool × Bool × Bool × Bool × Bool × Bool × Int × Int × Int × Int) ⊕ R8) :=
  if (decide (i10 < (l0_1.length : Int))) = true then
    if 0 ≤ i10 ∧ i10 < (l0_1.length : Int) then
      (m31 ((l0_1.getD i10.toNat default).1) ([99, 97, 99, 104, 101, 45, 99, 111, 110, 116, 114, 111, 108] : Bs)).bind fun yr27 =>
        if yr27 = true then
          some (.inr (h1_0, h1_1, h1_2, h1_3, h1_4, h1_5, h1_6, h1_7, h1_8, h1_9))
        else
          some (.inl (l0_0, l0_1, (w64 (i10 + 1)), h0_0, h0_1, h0_2, h0_3, h0_4, h0_5, h0_6, h0_7, h0_8, h0_9, h1_0, h1_1, h1_2, h1_3, h1_4, h1_5, h1_6, h1_7, h1_8, h1_9))
    else none
  else
    (j8_89 l0_0 l0_1 h0_0 h0_1 h0_2 h0_3 h0_4 h0_5 h0_6 h0_7 h0_8 h0_9 h1_0 h1_1 h1_2 h1_3 h1_4 h1_5 h1_6 h1_7 h1_8 h1_9).map .inr
theorem s8_72_t (l0_0 : Bool) (l0_1 : List (Bs × Bs)) (i10 : Int) (h0_0 h0_1 : Bool) (h0_2 h0_3 : Bool) (h0_4 h0_5 : Bool) (h0_6 h0_7 : Int) (h0_8 h0_9 : Int) (h1_0 h1_1 : Bool) (h1_2 h1_3 : Bool) (h1_4 h1_5 : Bool) (h1_6 h1_7 : Int) (h1_8 h1_9 : Int) :
    stepE (K8_72 (mm := mm)) (loopF (E0 mm) 8 0 (callW (E0 mm)) itW c8_73 [(0, .keep), (2, .keep), (3, .keep), (10, .keep)] (none, [.v (.c (.d (.lst l0_0 (enL enSS l0_1)))), .v (.c (.ptr 0 0)), .v (.c (.ptr 1 0)), .v (.c (.d (.sc (.int .i64 i10))))], [.cells [.d (.sc (.bool h0_0)), .d (.sc (.bool h0_1)), .d (.sc (.bool h0_2)), .d (.sc (.bool h0_3)), .d (.sc (.bool h0_4)), .d (.sc (.bool h0_5)), .d (.sc (.int .i64 h0_6)), .d (.sc (.int .i64 h0_7)), .d (.sc (.int .i64 h0_8)), .d (.sc (.int .i64 h0_9))], .cells [.d (.sc (.bool h1_0)), .d (.sc (.bool h1_1)), .d (.sc (.bool h1_2)), .d (.sc (.bool h1_3)), .d (.sc (.bool h1_4)), .d (.sc (.bool h1_5)), .d (.sc (.int .i64 h1_6)), .d (.sc (.int .i64 h1_7)), .d (.sc (.int .i64 h1_8)), .d (.sc (.int .i64 h1_9))]])) = (s8_72 l0_0 l0_1 i10 h0_0 h0_1 h0_2 h0_3 h0_4 h0_5 h0_6 h0_7 h0_8 h0_9 h1_0 h1_1 h1_2 h1_3 h1_4 h1_5 h1_6 h1_7 h1_8 h1_9).map (sm en8_72 e8) := by
  simp -implicitDefEqProofs only [s8_72, loopF_eq, c8_73_e, c8_74_e, c8_75_r, (show opsOf c8_75 = _ :: _ from rfl), Tryd.underlying22, (show c8_76 = Code.cond _ c8_77 c8_78 from rfl), setA, setB, za, zb, zc, zd, ze, zf, zg, zh, zi, zj, zk, zl, zm, zn, zo, zp, reduceCtorEq, zE, ↓reduceIte]
  refine brB (fun yc23 => ?_) (fun yc23 => ?_)
  · simp -implicitDefEqProofs only [c8_77_e, c8_79_e, c8_80_e, c8_81_e, c8_82_r, (show opsOf c8_82 = _ :: _ from rfl), Tryd.underlying22, sz33, enSS_a, yc23, setA, setB, za, zb, zc, zd, ze, zf, zg, zh, zi, zj, zk, zl, zm, zn, zo, zp, reduceCtorEq, zE, ↓reduceIte]
    refine brP (fun yc24 => ?_) (fun yc24 => ?_)
    · have yd25 : i10.toNat < l0_1.length := by omega
      simp -implicitDefEqProofs only [(enL_get enSS l0_1 i10.toNat yd25), enSS_e, Tryd.underlying33, sz9, ag9, ent31, prm31, (show callW (E0 mm) 31 [.c (.d (.sc (.string (S (l0_1.getD i10.toNat default).1)))), .c (.d (.sc (.string (S ([99, 97, 99, 104, 101, 45, 99, 111, 110, 116, 114, 111, 108] : Bs)))))] [] = _ from f31_t ((l0_1.getD i10.toNat default).1) ([99, 97, 99, 104, 101, 45, 99, 111, 110, 116, 114, 111, 108] : Bs)), yc23, yc24, yd25, setA, setB, za, zb, zc, zd, ze, zf, zg, zh, zi, zj, zk, zl, zm, zn, zo, zp, reduceCtorEq, zE, ↓reduceIte]
      refine brM (fun yc26 => ?_) (fun yr27 yc26 => ?_)
      · rw [yc26]; rfl
      · simp -implicitDefEqProofs only [e31, (show c8_83 = Code.cond _ c8_84 c8_87 from rfl), yc23, yc24, yd25, yc26, setA, setB, za, zb, zc, zd, ze, zf, zg, zh, zi, zj, zk, zl, zm, zn, zo, zp, reduceCtorEq, zE, ↓reduceIte]
        refine brB (fun yc28 => ?_) (fun yc28 => ?_)
        · simp -implicitDefEqProofs only [c8_84_e, c8_85_r, (show opsOf c8_85 = _ :: _ from rfl), sz24, ag24, c8_86_e, K8_72, yc23, yc24, yd25, yc26, yc28, setA, setB, za, zb, zc, zd, ze, zf, zg, zh, zi, zj, zk, zl, zm, zn, zo, zp, reduceCtorEq, zE, ↓reduceIte]
          all_goals rfl
        · simp -implicitDefEqProofs only [c8_87_e, c8_88_r, (show opsOf c8_88 = _ :: _ from rfl), yc23, yc24, yd25, yc26, yc28, setA, setB, za, zb, zc, zd, ze, zf, zg, zh, zi, zj, zk, zl, zm, zn, zo, zp, reduceCtorEq, zE, ↓reduceIte]
          all_goals rfl
    · rw [if_neg yc24]; rfl
  · simp -implicitDefEqProofs only [c8_78_e, K8_72, yc23, setA, setB, za, zb, zc, zd, ze, zf, zg, zh, zi, zj, zk, zl, zm, zn, zo, zp, reduceCtorEq, zE, ↓reduceIte]
    exact mi (j8_89_t l0_0 l0_1 h0_0 h0_1 h0_2 h0_3 h0_4 h0_5 h0_6 h0_7 h0_8 h0_9 h1_0 h1_1 h1_2 h1_3 h1_4 h1_5 h1_6 h1_7 h1_8 h1_9 _ (by rfl) (by rfl) (by rfl))
def l8_72 (l0_0 : Bool) (l0_1 : List (Bs × Bs)) (i10 : Int) (h0_0 h0_1 : Bool) (h0_2 h0_3 : Bool) (h0_4 h0_5 : Bool) (h0_6 h0_7 : Int) (h0_8 h0_9 : Int) (h1_0 h1_1 : Bool) (h1_2 h1_3 : Bool) (h1_4 h1_5 : Bool) (h1_6 h1_7 : Int) (h1_8 h1_9 : Int) : Option R8 := iter (fun x : (Bool × List (Bs × Bs) × Int × Bool × Bool × Bool × Bool × Bool × Bool × Int × Int × Int × Int × Bool × Bool × Bool × Bool × Bool × Bool × Int × Int × Int × Int) => s8_72 x.1 x.2.1 x.2.2.1 x.2.2.2.1 x.2.2.2.2.1 x.2.2.2.2.2.1 x.2.2.2.2.2.2.1 x.2.2.2.2.2.2.2.1 x.2.2.2.2.2.2.2.2.1 x.2.2.2.2.2.2.2.2.2.1 x.2.2.2.2.2.2.2.2.2.2.1 x.2.2.2.2.2.2.2.2.2.2.2.1 x.2.2.2.2.2.2.2.2.2.2.2.2.1 x.2.2.2.2.2.2.2.2.2.2.2.2.2.1 x.2.2.2.2.2.2.2.2.2.2.2.2.2.2.1 x.2.2.2.2.2.2.2.2.2.2.2.2.2.2.2.1 x.2.2.2.2.2.2.2.2.2.2.2.2.2.2.2.2.1 x.2.2.2.2.2.2.2.2.2.2.2.2.2.2.2.2.2.1 x.2.2.2.2.2.2.2.2.2.2.2.2.2.2.2.2.2.2.1 x.2.2.2.2.2.2.2.2.2.2.2.2.2.2.2.2.2.2.2.1 x.2.2.2.2.2.2.2.2.2.2.2.2.2.2.2.2.2.2.2.2.1 x.2.2.2.2.2.2.2.2.2.2.2.2.2.2.2.2.2.2.2.2.2.1 x.2.2.2.2.2.2.2.2.2.2.2.2.2.2.2.2.2.2.2.2.2.2) (l0_0, l0_1, i10, h0_0, h0_1, h0_2, h0_3, h0_4, h0_5, h0_6, h0_7, h0_8, h0_9, h1_0, h1_1, h1_2, h1_3, h1_4, h1_5, h1_6, h1_7, h1_8, h1_9)
theorem l8_72_t (l0_0 : Bool) (l0_1 : List (Bs × Bs)) (i10 : Int) (h0_0 h0_1 : Bool) (h0_2 h0_3 : Bool) (h0_4 h0_5 : Bool) (h0_6 h0_7 : Int) (h0_8 h0_9 : Int) (h1_0 h1_1 : Bool) (h1_2 h1_3 : Bool) (h1_4 h1_5 : Bool) (h1_6 h1_7 : Int) (h1_8 h1_9 : Int) : bodyD (E0 mm) [.cell 2 24] 0 false (seqD (E0 mm) 8 0 (callW (E0 mm)) itW c8_89 (blockD 3 (itW (loopF (E0 mm) 8 0 (callW (E0 mm)) itW c8_73 [(0, .keep), (2, .keep), (3, .keep), (10, .keep)]) (none, [.v (.c (.d (.lst l0_0 (enL enSS l0_1)))), .v (.c (.ptr 0 0)), .v (.c (.ptr 1 0)), .v (.c (.d (.sc (.int .i64 i10))))], [.cells [.d (.sc (.bool h0_0)), .d (.sc (.bool h0_1)), .d (.sc (.bool h0_2)), .d (.sc (.bool h0_3)), .d (.sc (.bool h0_4)), .d (.sc (.bool h0_5)), .d (.sc (.int .i64 h0_6)), .d (.sc (.int .i64 h0_7)), .d (.sc (.int .i64 h0_8)), .d (.sc (.int .i64 h0_9))], .cells [.d (.sc (.bool h1_0)), .d (.sc (.bool h1_1)), .d (.sc (.bool h1_2)), .d (.sc (.bool h1_3)), .d (.sc (.bool h1_4)), .d (.sc (.bool h1_5)), .d (.sc (.int .i64 h1_6)), .d (.sc (.int .i64 h1_7)), .d (.sc (.int .i64 h1_8)), .d (.sc (.int .i64 h1_9))]])))) = (l8_72 l0_0 l0_1 i10 h0_0 h0_1 h0_2 h0_3 h0_4 h0_5 h0_6 h0_7 h0_8 h0_9 h1_0 h1_1 h1_2 h1_3 h1_4 h1_5 h1_6 h1_7 h1_8 h1_9).map e8 :=
  it_sim (K := (K8_72 (mm := mm))) rfl (enc := en8_72) (fun x => s8_72_t x.1 x.2.1 x.2.2.1 x.2.2.2.1 x.2.2.2.2.1 x.2.2.2.2.2.1 x.2.2.2.2.2.2.1 x.2.2.2.2.2.2.2.1 x.2.2.2.2.2.2.2.2.1 x.2.2.2.2.2.2.2.2.2.1 x.2.2.2.2.2.2.2.2.2.2.1 x.2.2.2.2.2.2.2.2.2.2.2.1 x.2.2.2.2.2.2.2.2.2.2.2.2.1 x.2.2.2.2.2.2.2.2.2.2.2.2.2.1 x.2.2.2.2.2.2.2.2.2.2.2.2.2.2.1 x.2.2.2.2.2.2.2.2.2.2.2.2.2.2.2.1 x.2.2.2.2.2.2.2.2.2.2.2.2.2.2.2.2.1 x.2.2.2.2.2.2.2.2.2.2.2.2.2.2.2.2.2.1 x.2.2.2.2.2.2.2.2.2.2.2.2.2.2.2.2.2.2.1 x.2.2.2.2.2.2.2.2.2.2.2.2.2.2.2.2.2.2.2.1 x.2.2.2.2.2.2.2.2.2.2.2.2.2.2.2.2.2.2.2.2.1 x.2.2.2.2.2.2.2.2.2.2.2.2.2.2.2.2.2.2.2.2.2.1 x.2.2.2.2.2.2.2.2.2.2.2.2.2.2.2.2.2.2.2.2.2.2) (l0_0, l0_1, i10, h0_0, h0_1, h0_2, h0_3, h0_4, h0_5, h0_6, h0_7, h0_8, h0_9, h1_0, h1_1, h1_2, h1_3, h1_4, h1_5, h1_6, h1_7, h1_8, h1_9)
def j8_68 (l0_0 : Bool) (l0_1 : List (Bs × Bs)) (h0_0 h0_1 : Bool) (h0_2 h0_3 : Bool) (h0_4 h0_5 : Bool) (h0_6 h0_7 : Int) (h0_8 h0_9 : Int) (h1_0 h1_1 : Bool) (h1_2 h1_3 : Bool) (h1_4 h1_5 : Bool) (h1_6 h1_7 : Int) (h1_8 h1_9 : Int) : Option R8 :=
  l8_72 l0_0 l0_1 (0 : Int) h0_0 h0_1 h0_2 h0_3 h0_4 h0_5 h0_6 h0_7 h0_8 h0_9 h1_0 h1_1 h1_2 h1_3 h1_4 h1_5 h1_6 h1_7 h1_8 h1_9
theorem j8_68_t (l0_0 : Bool) (l0_1 : List (Bs × Bs)) (h0_0 h0_1 : Bool) (h0_2 h0_3 : Bool) (h0_4 h0_5 : Bool) (h0_6 h0_7 : Int) (h0_8 h0_9 : Int) (h1_0 h1_1 : Bool) (h1_2 h1_3 : Bool) (h1_4 h1_5 : Bool) (h1_6 h1_7 : Int) (h1_8 h1_9 : Int) (g2 : Ob) (sl : Nat → AV) (zq0 : sl 0 = .v (.c (.d (.lst l0_0 (enL enSS l0_1))))) (zq2 : sl 2 = .v (.c (.ptr 0 0))) (zq3 : sl 3 = .v (.c (.ptr 1 0))) :
    bodyD (E0 mm) [.cell 2 24] 0 false (den (E0 mm) 8 0 (callW (E0 mm)) itW c8_68 none ⟨sl, [.cells [.d (.sc (.bool h0_0)), .d (.sc (.bool h0_1)), .d (.sc (.bool h0_2)), .d (.sc (.bool h0_3)), .d (.sc (.bool h0_4)), .d (.sc (.bool h0_5)), .d (.sc (.int .i64 h0_6)), .d (.sc (.int .i64 h0_7)), .d (.sc (.int .i64 h0_8)), .d (.sc (.int .i64 h0_9))], .cells [.d (.sc (.bool h1_0)), .d (.sc (.bool h1_1)), .d (.sc (.bool h1_2)), .d (.sc (.bool h1_3)), .d (.sc (.bool h1_4)), .d (.sc (.bool h1_5)), .d (.sc (.int .i64 h1_6)), .d (.sc (.int .i64 h1_7)), .d (.sc (.int .i64 h1_8)), .d (.sc (.int .i64 h1_9))], g2]⟩) = (j8_68 l0_0 l0_1 h0_0 h0_1 h0_2 h0_3 h0_4 h0_5 h0_6 h0_7 h0_8 h0_9 h1_0 h1_1 h1_2 h1_3 h1_4 h1_5 h1_6 h1_7 h1_8 h1_9).map e8 := by
  simp -implicitDefEqProofs only [j8_68, c8_68_e, c8_69_e, c8_70_r, (show opsOf c8_70 = _ :: _ from rfl), c8_71_e, c8_72_l, zq0, zq2, zq3, setA, setB, za, zb, zc, zd, ze, zf, zg, zh, zi, zj, zk, zl, zm, zn, zo, zp, reduceCtorEq, zE, ↓reduceIte]
  exact l8_72_t l0_0 l0_1 (0 : Int) h0_0 h0_1 h0_2 h0_3 h0_4 h0_5 h0_6 h0_7 h0_8 h0_9 h1_0 h1_1 h1_2 h1_3 h1_4 h1_5 h1_6 h1_7 h1_8 h1_9
def s8_10 (l0_0 : Bool) (l0_1 : List (Bs × Bs)) (all4_0 : Bool) (all4_1 : List Bs) (i5 : Int) (h0_0 h0_1 : Bool) (h0_2 h0_3 : Bool) (h0_4 h0_5 : Bool) (h0_6 h0_7 : Int) (h0_8 h0_9 : Int) (h1_0 h1_1 : Bool) (h1_2 h1_3 : Bool) (h1_4 h1_5 : Bool) (h1_6 h1_7 : Int) (h1_8 h1_9 : Int) : Option ((Bool × List (Bs × Bs) × Bool × List Bs × Int × Bool × Bool × Bool × Bool × Bool × Bool × Int × Int × Int × Int × Bool × Bool × Bool × Bool × Bool × Bool × Int × Int × Int × Int) ⊕ R8) :=
  if (decide (i5 < (all4_1.length : Int))) = true then
    if 0 ≤ i5 ∧ i5 < (all4_1.length : Int) then
      (m28 (all4_1.getD i5.toNat default)).bind fun yr7 =>
        if yr7.2.2 = true then
          (m29 yr7.2.1).bind fun yr10 =>
            if (yr7.1 == ([110, 111, 45, 115, 116, 111, 114, 101] : Bs)) = true then
              j8_67 l0_0 l0_1 all4_0 all4_1 i5 h0_0 h0_1 h0_2 h0_3 h0_4 h0_5 h0_6 h0_7 h0_8 h0_9 true h1_1 h1_2 h1_3 h1_4 h1_5 h1_6 h1_7 h1_8 h1_9
            else
              if (yr7.1 == ([110, 111, 45, 99, 97, 99, 104, 101] : Bs)) = true then
                j8_67 l0_0 l0_1 all4_0 all4_1 i5 h0_0 h0_1 h0_2 h0_3 h0_4 h0_5 h0_6 h0_7 h0_8 h0_9 h1_0 true h1_2 h1_3 h1_4 h1_5 h1_6 h1_7 h1_8 h1_9
              else
                if (yr7.1 == ([111, 110, 108, 121, 45, 105, 102, 45, 99, 97, 99, 104, 101, 100] : Bs)) = true then
                  j8_67 l0_0 l0_1 all4_0 all4_1 i5 h0_0 h0_1 h0_2 h0_3 h0_4 h0_5 h0_6 h0_7 h0_8 h0_9 h1_0 h1_1 h1_2 h1_3 h1_4 true h1_6 h1_7 h1_8 h1_9
                else
                  if (yr7.1 == ([109, 97, 120, 45, 97, 103, 101] : Bs)) = true then
                    (m30 h1_6 yr10).bind fun yr16 =>
                      j8_67 l0_0 l0_1 all4_0 all4_1 i5 h0_0 h0_1 h0_2 h0_3 h0_4 h0_5 h0_6 h0_7 h0_8 h0_9 h1_0 h1_1 h1_2 h1_3 h1_4 h1_5 yr16 h1_7 h1_8 h1_9
                  else
                    if (yr7.1 == ([109, 105, 110, 45, 102, 114, 101, 115, 104] : Bs)) = true then
                      if (decide (h1_8 < yr10)) = true then
                        j8_67 l0_0 l0_1 all4_0 all4_1 i5 h0_0 h0_1 h0_2 h0_3 h0_4 h0_5 h0_6 h0_7 h0_8 h0_9 h1_0 h1_1 h1_2 h1_3 h1_4 h1_5 h1_6 h1_7 yr10 h1_9
                      else
                        j8_67 l0_0 l0_1 all4_0 all4_1 i5 h0_0 h0_1 h0_2 h0_3 h0_4 h0_5 h0_6 h0_7 h0_8 h0_9 h1_0 h1_1 h1_2 h1_3 h1_4 h1_5 h1_6 h1_7 h1_8 h1_9
                    else
                      if (yr7.1 == ([109, 97, 120, 45, 115, 116, 97, 108, 101] : Bs)) = true then
                        if (yr7.2.1 == ([] : Bs)) = true then
                          j8_65 l0_0 l0_1 all4_0 all4_1 i5 (2147483647 : Int) h0_0 h0_1 h0_2 h0_3 h0_4 h0_5 h0_6 h0_7 h0_8 h0_9 h1_0 h1_1 h1_2 h1_3 h1_4 h1_5 h1_6 h1_7 h1_8 h1_9
                        else
                          j8_65 l0_0 l0_1 all4_0 all4_1 i5 yr10 h0_0 h0_1 h0_2 h0_3 h0_4 h0_5 h0_6 h0_7 h0_8 h0_9 h1_0 h1_1 h1_2 h1_3 h1_4 h1_5 h1_6 h1_7 h1_8 h1_9
                      else
                        j8_67 l0_0 l0_1 all4_0 all4_1 i5 h0_0 h0_1 h0_2 h0_3 h0_4 h0_5 h0_6 h0_7 h0_8 h0_9 h1_0 h1_1 h1_2 h1_3 h1_4 h1_5 h1_6 h1_7 h1_8 h1_9
        else
          j8_67 l0_0 l0_1 all4_0 all4_1 i5 h0_0 h0_1 h0_2 h0_3 h0_4 h0_5 h0_6 h0_7 h0_8 h0_9 h1_0 h1_1 h1_2 h1_3 h1_4 h1_5 h1_6 h1_7 h1_8 h1_9
    else none
  else
    (j8_68 l0_0 l0_1 h0_0 h0_1 h0_2 h0_3 h0_4 h0_5 h0_6 h0_7 h0_8 h0_9 h1_0 h1_1 h1_2 h1_3 h1_4 h1_5 h1_6 h1_7 h1_8 h1_9).map .inr
theorem s8_10_t (l0_0 : Bool) (l0_1 : List (Bs × Bs)) (all4_0 : Bool) (all4_1 : List Bs) (i5 : Int) (h0_0 h0_1 : Bool) (h0_2 h0_3 : Bool) (h0_4 h0_5 : Bool) (h0_6 h0_7 : Int) (h0_8 h0_9 : Int) (h1_0 h1_1 : Bool) (h1_2 h1_3 : Bool) (h1_4 h1_5 : Bool) (h1_6 h1_7 : Int) (h1_8 h1_9 : Int) :
    stepE (K8_10 (mm := mm)) (loopF (E0 mm) 8 0 (callW (E0 mm)) itW c8_11 [(0, .keep), (2, .keep), (3, .keep), (4, .keep), (5, .keep)] (none, [.v (.c (.d (.lst l0_0 (enL enSS l0_1)))), .v (.c (.ptr 0 0)), .v (.c (.ptr 1 0)), .v (.c (.own all4_0 (enL enS all4_1) 2)), .v (.c (.d (.sc (.int .i64 i5))))], [.cells [.d (.sc (.bool h0_0)), .d (.sc (.bool h0_1)), .d (.sc (.bool h0_2)), .d (.sc (.bool h0_3)), .d (.sc (.bool h0_4)), .d (.sc (.bool h0_5)), .d (.sc (.int .i64 h0_6)), .d (.sc (.int .i64 h0_7)), .d (.sc (.int .i64 h0_8)), .d (.sc (.int .i64 h0_9))], .cells [.d (.sc (.bool h1_0)), .d (.sc (.bool h1_1)), .d (.sc (.bool h1_2)), .d (.sc (.bool h1_3)), .d (.sc (.bool h1_4)), .d (.sc (.bool h1_5)), .d (.sc (.int .i64 h1_6)), .d (.sc (.int .i64 h1_7)), .d (.sc (.int .i64 h1_8)), .d (.sc (.int .i64 h1_9))], .row all4_1.length (rz all4_0 1)])) = (s8_10 l0_0 l0_1 all4_0 all4_1 i5 h0_0 h0_1 h0_2 h0_3 h0_4 h0_5 h0_6 h0_7 h0_8 h0_9 h1_0 h1_1 h1_2 h1_3 h1_4 h1_5 h1_6 h1_7 h1_8 h1_9).map (sm en8_10 e8) := by
  simp -implicitDefEqProofs only [s8_10, loopF_eq, c8_11_e, c8_12_e, c8_13_r, (show opsOf c8_13 = _ :: _ from rfl), Tryd.underlying30, (show c8_14 = Code.cond _ c8_15 c8_16 from rfl), setA, setB, za, zb, zc, zd, ze, zf, zg, zh, zi, zj, zk, zl, zm, zn, zo, zp, reduceCtorEq, zE, ↓reduceIte]
  refine brB (fun yc3 => ?_) (fun yc3 => ?_)
  · simp -implicitDefEqProofs only [c8_15_e, c8_17_e, c8_18_e, c8_19_e, c8_20_r, (show opsOf c8_20 = _ :: _ from rfl), Tryd.underlying30, sz9, enS_a, yc3, setA, setB, za, zb, zc, zd, ze, zf, zg, zh, zi, zj, zk, zl, zm, zn, zo, zp, reduceCtorEq, zE, ↓reduceIte]
    refine brP (fun yc4 => ?_) (fun yc4 => ?_)
    · have yd5 : i5.toNat < all4_1.length := by omega
      simp -implicitDefEqProofs only [(enL_get enS all4_1 i5.toNat yd5), enS_e, sz9, ag9, ent28, prm28, f28_t, yc3, yc4, yd5, setA, setB, za, zb, zc, zd, ze, zf, zg, zh, zi, zj, zk, zl, zm, zn, zo, zp, reduceCtorEq, zE, ↓reduceIte]
      refine brM (fun yc6 => ?_) (fun yr7 yc6 => ?_)
      · rw [yc6]; rfl
      · simp -implicitDefEqProofs only [e28, c8_21_e, c8_22_e, c8_23_r, (show opsOf c8_23 = _ :: _ from rfl), (show c8_24 = Code.cond _ c8_25 c8_26 from rfl), yc3, yc4, yd5, yc6, setA, setB, za, zb, zc, zd, ze, zf, zg, zh, zi, zj, zk, zl, zm, zn, zo, zp, reduceCtorEq, zE, ↓reduceIte]
        refine brB (fun yc8 => ?_) (fun yc8 => ?_)
        · simp -implicitDefEqProofs only [c8_26_e, c8_27_e, c8_28_r, (show opsOf c8_28 = _ :: _ from rfl), ent29, prm29, f29_t, yc3, yc4, yd5, yc6, yc8, setA, setB, za, zb, zc, zd, ze, zf, zg, zh, zi, zj, zk, zl, zm, zn, zo, zp, reduceCtorEq, zE, ↓reduceIte]
          refine brM (fun yc9 => ?_) (fun yr10 yc9 => ?_)
          · rw [yc9]; rfl
          · simp -implicitDefEqProofs only [e29, c8_29_e, c8_30_r, (show opsOf c8_30 = _ :: _ from rfl), c8_31_e, c8_32_e, c8_33_r, (show opsOf c8_33 = _ :: _ from rfl), (show c8_34 = Code.cond _ c8_35 c8_36 from rfl), yc3, yc4, yd5, yc6, yc8, yc9, setA, setB, za, zb, zc, zd, ze, zf, zg, zh, zi, zj, zk, zl, zm, zn, zo, zp, reduceCtorEq, zE, ↓reduceIte]
            refine brB (fun yc11 => ?_) (fun yc11 => ?_)
            · simp -implicitDefEqProofs only [c8_35_r, (show opsOf c8_35 = _ :: _ from rfl), Tryd.underlying24, sz4, yc3, yc4, yd5, yc6, yc8, yc9, yc11, setA, setB, za, zb, zc, zd, ze, zf, zg, zh, zi, zj, zk, zl, zm, zn, zo, zp, reduceCtorEq, zE, ↓reduceIte]
              exact j8_67_t l0_0 l0_1 all4_0 all4_1 i5 h0_0 h0_1 h0_2 h0_3 h0_4 h0_5 h0_6 h0_7 h0_8 h0_9 true h1_1 h1_2 h1_3 h1_4 h1_5 h1_6 h1_7 h1_8 h1_9 _ (by rfl) (by rfl) (by rfl) (by rfl) (by rfl)
            · simp -implicitDefEqProofs only [c8_36_e, c8_37_r, (show opsOf c8_37 = _ :: _ from rfl), (show c8_38 = Code.cond _ c8_39 c8_40 from rfl), yc3, yc4, yd5, yc6, yc8, yc9, yc11, setA, setB, za, zb, zc, zd, ze, zf, zg, zh, zi, zj, zk, zl, zm, zn, zo, zp, reduceCtorEq, zE, ↓reduceIte]
              refine brB (fun yc12 => ?_) (fun yc12 => ?_)
              · simp -implicitDefEqProofs only [c8_39_r, (show opsOf c8_39 = _ :: _ from rfl), Tryd.underlying24, sz4, yc3, yc4, yd5, yc6, yc8, yc9, yc11, yc12, setA, setB, za, zb, zc, zd, ze, zf, zg, zh, zi, zj, zk, zl, zm, zn, zo, zp, reduceCtorEq, zE, ↓reduceIte]
                exact j8_67_t l0_0 l0_1 all4_0 all4_1 i5 h0_0 h0_1 h0_2 h0_3 h0_4 h0_5 h0_6 h0_7 h0_8 h0_9 h1_0 true h1_2 h1_3 h1_4 h1_5 h1_6 h1_7 h1_8 h1_9 _ (by rfl) (by rfl) (by rfl) (by rfl) (by rfl)
              · simp -implicitDefEqProofs only [c8_40_e, c8_41_r, (show opsOf c8_41 = _ :: _ from rfl), (show c8_42 = Code.cond _ c8_43 c8_44 from rfl), yc3, yc4, yd5, yc6, yc8, yc9, yc11, yc12, setA, setB, za, zb, zc, zd, ze, zf, zg, zh, zi, zj, zk, zl, zm, zn, zo, zp, reduceCtorEq, zE, ↓reduceIte]
                refine brB (fun yc13 => ?_) (fun yc13 => ?_)
                · simp -implicitDefEqProofs only [c8_43_r, (show opsOf c8_43 = _ :: _ from rfl), Tryd.underlying24, sz4, yc3, yc4, yd5, yc6, yc8, yc9, yc11, yc12, yc13, setA, setB, za, zb, zc, zd, ze, zf, zg, zh, zi, zj, zk, zl, zm, zn, zo, zp, reduceCtorEq, zE, ↓reduceIte]
                  exact j8_67_t l0_0 l0_1 all4_0 all4_1 i5 h0_0 h0_1 h0_2 h0_3 h0_4 h0_5 h0_6 h0_7 h0_8 h0_9 h1_0 h1_1 h1_2 h1_3 h1_4 true h1_6 h1_7 h1_8 h1_9 _ (by rfl) (by rfl) (by rfl) (by rfl) (by rfl)
                · simp -implicitDefEqProofs only [c8_44_e, c8_45_r, (show opsOf c8_45 = _ :: _ from rfl), (show c8_46 = Code.cond _ c8_47 c8_48 from rfl), yc3, yc4, yd5, yc6, yc8, yc9, yc11, yc12, yc13, setA, setB, za, zb, zc, zd, ze, zf, zg, zh, zi, zj, zk, zl, zm, zn, zo, zp, reduceCtorEq, zE, ↓reduceIte]
                  refine brB (fun yc14 => ?_) (fun yc14 => ?_)
                  · simp -implicitDefEqProofs only [c8_47_r, (show opsOf c8_47 = _ :: _ from rfl), Tryd.underlying24, sz3, ag3, ent30, prm30, f30_t, yc3, yc4, yd5, yc6, yc8, yc9, yc11, yc12, yc13, yc14, setA, setB, za, zb, zc, zd, ze, zf, zg, zh, zi, zj, zk, zl, zm, zn, zo, zp, reduceCtorEq, zE, ↓reduceIte]
                    refine brM (fun yc15 => ?_) (fun yr16 yc15 => ?_)
                    · rw [yc15]; rfl
                    · simp -implicitDefEqProofs only [e30, Tryd.underlying24, sz3, yc3, yc4, yd5, yc6, yc8, yc9, yc11, yc12, yc13, yc14, yc15, setA, setB, za, zb, zc, zd, ze, zf, zg, zh, zi, zj, zk, zl, zm, zn, zo, zp, reduceCtorEq, zE, ↓reduceIte]
                      exact j8_67_t l0_0 l0_1 all4_0 all4_1 i5 h0_0 h0_1 h0_2 h0_3 h0_4 h0_5 h0_6 h0_7 h0_8 h0_9 h1_0 h1_1 h1_2 h1_3 h1_4 h1_5 yr16 h1_7 h1_8 h1_9 _ (by rfl) (by rfl) (by rfl) (by rfl) (by rfl)
                  · simp -implicitDefEqProofs only [c8_48_e, c8_49_r, (show opsOf c8_49 = _ :: _ from rfl), (show c8_50 = Code.cond _ c8_51 c8_56 from rfl), yc3, yc4, yd5, yc6, yc8, yc9, yc11, yc12, yc13, yc14, setA, setB, za, zb, zc, zd, ze, zf, zg, zh, zi, zj, zk, zl, zm, zn, zo, zp, reduceCtorEq, zE, ↓reduceIte]
                    refine brB (fun yc17 => ?_) (fun yc17 => ?_)
                    · simp -implicitDefEqProofs only [c8_51_e, c8_52_r, (show opsOf c8_52 = _ :: _ from rfl), Tryd.underlying24, sz3, ag3, (show c8_53 = Code.cond _ c8_54 c8_55 from rfl), yc3, yc4, yd5, yc6, yc8, yc9, yc11, yc12, yc13, yc14, yc17, setA, setB, za, zb, zc, zd, ze, zf, zg, zh, zi, zj, zk, zl, zm, zn, zo, zp, reduceCtorEq, zE, ↓reduceIte]
                      refine brB (fun yc18 => ?_) (fun yc18 => ?_)
                      · simp -implicitDefEqProofs only [c8_54_r, (show opsOf c8_54 = _ :: _ from rfl), Tryd.underlying24, sz3, yc3, yc4, yd5, yc6, yc8, yc9, yc11, yc12, yc13, yc14, yc17, yc18, setA, setB, za, zb, zc, zd, ze, zf, zg, zh, zi, zj, zk, zl, zm, zn, zo, zp, reduceCtorEq, zE, ↓reduceIte]
                        exact j8_67_t l0_0 l0_1 all4_0 all4_1 i5 h0_0 h0_1 h0_2 h0_3 h0_4 h0_5 h0_6 h0_7 h0_8 h0_9 h1_0 h1_1 h1_2 h1_3 h1_4 h1_5 h1_6 h1_7 yr10 h1_9 _ (by rfl) (by rfl) (by rfl) (by rfl) (by rfl)
                      · simp -implicitDefEqProofs only [c8_55_e, yc3, yc4, yd5, yc6, yc8, yc9, yc11, yc12, yc13, yc14, yc17, yc18, setA, setB, za, zb, zc, zd, ze, zf, zg, zh, zi, zj, zk, zl, zm, zn, zo, zp, reduceCtorEq, zE, ↓reduceIte]
                        exact j8_67_t l0_0 l0_1 all4_0 all4_1 i5 h0_0 h0_1 h0_2 h0_3 h0_4 h0_5 h0_6 h0_7 h0_8 h0_9 h1_0 h1_1 h1_2 h1_3 h1_4 h1_5 h1_6 h1_7 h1_8 h1_9 _ (by rfl) (by rfl) (by rfl) (by rfl) (by rfl)
                    · simp -implicitDefEqProofs only [c8_56_e, c8_57_r, (show opsOf c8_57 = _ :: _ from rfl), (show c8_58 = Code.cond _ c8_59 c8_66 from rfl), yc3, yc4, yd5, yc6, yc8, yc9, yc11, yc12, yc13, yc14, yc17, setA, setB, za, zb, zc, zd, ze, zf, zg, zh, zi, zj, zk, zl, zm, zn, zo, zp, reduceCtorEq, zE, ↓reduceIte]
                      refine brB (fun yc19 => ?_) (fun yc19 => ?_)
                      · simp -implicitDefEqProofs only [c8_59_e, c8_60_e, c8_61_r, (show opsOf c8_61 = _ :: _ from rfl), (show c8_62 = Code.cond _ c8_63 c8_64 from rfl), yc3, yc4, yd5, yc6, yc8, yc9, yc11, yc12, yc13, yc14, yc17, yc19, setA, setB, za, zb, zc, zd, ze, zf, zg, zh, zi, zj, zk, zl, zm, zn, zo, zp, reduceCtorEq, zE, ↓reduceIte]
                        refine brB (fun yc20 => ?_) (fun yc20 => ?_)
                        · simp -implicitDefEqProofs only [c8_63_r, (show opsOf c8_63 = _ :: _ from rfl), yc3, yc4, yd5, yc6, yc8, yc9, yc11, yc12, yc13, yc14, yc17, yc19, yc20, setA, setB, za, zb, zc, zd, ze, zf, zg, zh, zi, zj, zk, zl, zm, zn, zo, zp, reduceCtorEq, zE, ↓reduceIte]
                          exact j8_65_t l0_0 l0_1 all4_0 all4_1 i5 (2147483647 : Int) h0_0 h0_1 h0_2 h0_3 h0_4 h0_5 h0_6 h0_7 h0_8 h0_9 h1_0 h1_1 h1_2 h1_3 h1_4 h1_5 h1_6 h1_7 h1_8 h1_9 _ (by rfl) (by rfl) (by rfl) (by rfl) (by rfl) (by rfl)
                        · simp -implicitDefEqProofs only [c8_64_e, yc3, yc4, yd5, yc6, yc8, yc9, yc11, yc12, yc13, yc14, yc17, yc19, yc20, setA, setB, za, zb, zc, zd, ze, zf, zg, zh, zi, zj, zk, zl, zm, zn, zo, zp, reduceCtorEq, zE, ↓reduceIte]
                          exact j8_65_t l0_0 l0_1 all4_0 all4_1 i5 yr10 h0_0 h0_1 h0_2 h0_3 h0_4 h0_5 h0_6 h0_7 h0_8 h0_9 h1_0 h1_1 h1_2 h1_3 h1_4 h1_5 h1_6 h1_7 h1_8 h1_9 _ (by rfl) (by rfl) (by rfl) (by rfl) (by rfl) (by rfl)
                      · simp -implicitDefEqProofs only [c8_66_e, yc3, yc4, yd5, yc6, yc8, yc9, yc11, yc12, yc13, yc14, yc17, yc19, setA, setB, za, zb, zc, zd, ze, zf, zg, zh, zi, zj, zk, zl, zm, zn, zo, zp, reduceCtorEq, zE, ↓reduceIte]
                        exact j8_67_t l0_0 l0_1 all4_0 all4_1 i5 h0_0 h0_1 h0_2 h0_3 h0_4 h0_5 h0_6 h0_7 h0_8 h0_9 h1_0 h1_1 h1_2 h1_3 h1_4 h1_5 h1_6 h1_7 h1_8 h1_9 _ (by rfl) (by rfl) (by rfl) (by rfl) (by rfl)
        · simp -implicitDefEqProofs only [c8_25_e, yc3, yc4, yd5, yc6, yc8, setA, setB, za, zb, zc, zd, ze, zf, zg, zh, zi, zj, zk, zl, zm, zn, zo, zp, reduceCtorEq, zE, ↓reduceIte]
          exact j8_67_t l0_0 l0_1 all4_0 all4_1 i5 h0_0 h0_1 h0_2 h0_3 h0_4 h0_5 h0_6 h0_7 h0_8 h0_9 h1_0 h1_1 h1_2 h1_3 h1_4 h1_5 h1_6 h1_7 h1_8 h1_9 _ (by rfl) (by rfl) (by rfl) (by rfl) (by rfl)
    · rw [if_neg yc4]; rfl
  · simp -implicitDefEqProofs only [c8_16_e, K8_10, yc3, setA, setB, za, zb, zc, zd, ze, zf, zg, zh, zi, zj, zk, zl, zm, zn, zo, zp, reduceCtorEq, zE, ↓reduceIte]
    exact mi (j8_68_t l0_0 l0_1 h0_0 h0_1 h0_2 h0_3 h0_4 h0_5 h0_6 h0_7 h0_8 h0_9 h1_0 h1_1 h1_2 h1_3 h1_4 h1_5 h1_6 h1_7 h1_8 h1_9 _ _ (by rfl) (by rfl) (by rfl))
def l8_10 (l0_0 : Bool) (l0_1 : List (Bs × Bs)) (all4_0 : Bool) (all4_1 : List Bs) (i5 : Int) (h0_0 h0_1 : Bool) (h0_2 h0_3 : Bool) (h0_4 h0_5 : Bool) (h0_6 h0_7 : Int) (h0_8 h0_9 : Int) (h1_0 h1_1 : Bool) (h1_2 h1_3 : Bool) (h1_4 h1_5 : Bool) (h1_6 h1_7 : Int) (h1_8 h1_9 : Int) : Option R8 := iter (fun x : (Bool × List (Bs × Bs) × Bool × List Bs × Int × Bool × Bool × Bool × Bool × Bool × Bool × Int × Int × Int × Int × Bool × Bool × Bool × Bool × Bool × Bool × Int × Int × Int × Int) => s8_10 x.1 x.2.1 x.2.2.1 x.2.2.2.1 x.2.2.2.2.1 x.2.2.2.2.2.1 x.2.2.2.2.2.2.1 x.2.2.2.2.2.2.2.1 x.2.2.2.2.2.2.2.2.1 x.2.2.2.2.2.2.2.2.2.1 x.2.2.2.2.2.2.2.2.2.2.1 x.2.2.2.2.2.2.2.2.2.2.2.1 x.2.2.2.2.2.2.2.2.2.2.2.2.1 x.2.2.2.2.2.2.2.2.2.2.2.2.2.1 x.2.2.2.2.2.2.2.2.2.2.2.2.2.2.1 x.2.2.2.2.2.2.2.2.2.2.2.2.2.2.2.1 x.2.2.2.2.2.2.2.2.2.2.2.2.2.2.2.2.1 x.2.2.2.2.2.2.2.2.2.2.2.2.2.2.2.2.2.1 x.2.2.2.2.2.2.2.2.2.2.2.2.2.2.2.2.2.2.1 x.2.2.2.2.2.2.2.2.2.2.2.2.2.2.2.2.2.2.2.1 x.2.2.2.2.2.2.2.2.2.2.2.2.2.2.2.2.2.2.2.2.1 x.2.2.2.2.2.2.2.2.2.2.2.2.2.2.2.2.2.2.2.2.2.1 x.2.2.2.2.2.2.2.2.2.2.2.2.2.2.2.2.2.2.2.2.2.2.1 x.2.2.2.2.2.2.2.2.2.2.2.2.2.2.2.2.2.2.2.2.2.2.2.1 x.2.2.2.2.2.2.2.2.2.2.2.2.2.2.2.2.2.2.2.2.2.2.2.2) (l0_0, l0_1, all4_0, all4_1, i5, h0_0, h0_1, h0_2, h0_3, h0_4, h0_5, h0_6, h0_7, h0_8, h0_9, h1_0, h1_1, h1_2, h1_3, h1_4, h1_5, h1_6, h1_7, h1_8, h1_9)
theorem l8_10_t (l0_0 : Bool) (l0_1 : List (Bs × Bs)) (all4_0 : Bool) (all4_1 : List Bs) (i5 : Int) (h0_0 h0_1 : Bool) (h0_2 h0_3 : Bool) (h0_4 h0_5 : Bool) (h0_6 h0_7 : Int) (h0_8 h0_9 : Int) (h1_0 h1_1 : Bool) (h1_2 h1_3 : Bool) (h1_4 h1_5 : Bool) (h1_6 h1_7 : Int) (h1_8 h1_9 : Int) : bodyD (E0 mm) [.cell 2 24] 0 false (seqD (E0 mm) 8 0 (callW (E0 mm)) itW c8_68 (blockD 0 (itW (loopF (E0 mm) 8 0 (callW (E0 mm)) itW c8_11 [(0, .keep), (2, .keep), (3, .keep), (4, .keep), (5, .keep)]) (none, [.v (.c (.d (.lst l0_0 (enL enSS l0_1)))), .v (.c (.ptr 0 0)), .v (.c (.ptr 1 0)), .v (.c (.own all4_0 (enL enS all4_1) 2)), .v (.c (.d (.sc (.int .i64 i5))))], [.cells [.d (.sc (.bool h0_0)), .d (.sc (.bool h0_1)), .d (.sc (.bool h0_2)), .d (.sc (.bool h0_3)), .d (.sc (.bool h0_4)), .d (.sc (.bool h0_5)), .d (.sc (.int .i64 h0_6)), .d (.sc (.int .i64 h0_7)), .d (.sc (.int .i64 h0_8)), .d (.sc (.int .i64 h0_9))], .cells [.d (.sc (.bool h1_0)), .d (.sc (.bool h1_1)), .d (.sc (.bool h1_2)), .d (.sc (.bool h1_3)), .d (.sc (.bool h1_4)), .d (.sc (.bool h1_5)), .d (.sc (.int .i64 h1_6)), .d (.sc (.int .i64 h1_7)), .d (.sc (.int .i64 h1_8)), .d (.sc (.int .i64 h1_9))], .row all4_1.length (rz all4_0 1)])))) = (l8_10 l0_0 l0_1 all4_0 all4_1 i5 h0_0 h0_1 h0_2 h0_3 h0_4 h0_5 h0_6 h0_7 h0_8 h0_9 h1_0 h1_1 h1_2 h1_3 h1_4 h1_5 h1_6 h1_7 h1_8 h1_9).map e8 :=
  it_sim (K := (K8_10 (mm := mm))) rfl (enc := en8_10) (fun x => s8_10_t x.1 x.2.1 x.2.2.1 x.2.2.2.1 x.2.2.2.2.1 x.2.2.2.2.2.1 x.2.2.2.2.2.2.1 x.2.2.2.2.2.2.2.1 x.2.2.2.2.2.2.2.2.1 x.2.2.2.2.2.2.2.2.2.1 x.2.2.2.2.2.2.2.2.2.2.1 x.2.2.2.2.2.2.2.2.2.2.2.1 x.2.2.2.2.2.2.2.2.2.2.2.2.1 x.2.2.2.2.2.2.2.2.2.2.2.2.2.1 x.2.2.2.2.2.2.2.2.2.2.2.2.2.2.1 x.2.2.2.2.2.2.2.2.2.2.2.2.2.2.2.1 x.2.2.2.2.2.2.2.2.2.2.2.2.2.2.2.2.1 x.2.2.2.2.2.2.2.2.2.2.2.2.2.2.2.2.2.1 x.2.2.2.2.2.2.2.2.2.2.2.2.2.2.2.2.2.2.1 x.2.2.2.2.2.2.2.2.2.2.2.2.2.2.2.2.2.2.2.1 x.2.2.2.2.2.2.2.2.2.2.2.2.2.2.2.2.2.2.2.2.1 x.2.2.2.2.2.2.2.2.2.2.2.2.2.2.2.2.2.2.2.2.2.1 x.2.2.2.2.2.2.2.2.2.2.2.2.2.2.2.2.2.2.2.2.2.2.1 x.2.2.2.2.2.2.2.2.2.2.2.2.2.2.2.2.2.2.2.2.2.2.2.1 x.2.2.2.2.2.2.2.2.2.2.2.2.2.2.2.2.2.2.2.2.2.2.2.2) (l0_0, l0_1, all4_0, all4_1, i5, h0_0, h0_1, h0_2, h0_3, h0_4, h0_5, h0_6, h0_7, h0_8, h0_9, h1_0, h1_1, h1_2, h1_3, h1_4, h1_5, h1_6, h1_7, h1_8, h1_9)
def m8 (l_0 : Bool) (l_1 : List (Bs × Bs)) : Option R8 :=
  (m27 l_0 l_1 ([99, 97, 99, 104, 101, 45, 99, 111, 110, 116, 114, 111, 108] : Bs)).bind fun yr2 =>
    l8_10 l_0 l_1 yr2.1 yr2.2 (0 : Int) false false false false false false (0 : Int) (0 : Int) (0 : Int) (0 : Int) false false false false false false (-1 : Int) (-1 : Int) (-1 : Int) (-1 : Int)
theorem f8_t (l_0 : Bool) (l_1 : List (Bs × Bs)) :
    callW (E0 mm) 8 [.c (.d (.lst l_0 (enL enSS l_1)))] [] = (m8 l_0 l_1).map e8 := by
  rw [callW_run (body := c8_0) (res := [.cell 2 24]) Tryd.func8 rfl rfl (by kernel_rfl)]
  simp -implicitDefEqProofs only [m8, slots1, c8_0_e, c8_1_r, (show opsOf c8_1 = _ :: _ from rfl), zc24, ao39, c8_2_e, c8_3_r, (show opsOf c8_3 = _ :: _ from rfl), Tryd.underlying24, sz4, sz3, ao40, sz24, c8_4_e, c8_5_r, (show opsOf c8_5 = _ :: _ from rfl), ent27, prm27, (show callW (E0 mm) 27 [.c (.d (.lst l_0 (enL enSS l_1))), .c (.d (.sc (.string (S ([99, 97, 99, 104, 101, 45, 99, 111, 110, 116, 114, 111, 108] : Bs)))))] [] = _ from f27_t l_0 l_1 ([99, 97, 99, 104, 101, 45, 99, 111, 110, 116, 114, 111, 108] : Bs)), setA, setB, za, zb, zc, zd, ze, zf, zg, zh, zi, zj, zk, zl, zm, zn, zo, zp, reduceCtorEq, zE, ↓reduceIte]
  refine brM (fun yc1 => ?_) (fun yr2 yc1 => ?_)
  · rw [yc1]; rfl
  · simp -implicitDefEqProofs only [e27, c8_6_e, c8_7_e, c8_8_r, (show opsOf c8_8 = _ :: _ from rfl), c8_9_e, c8_10_l, yc1, setA, setB, za, zb, zc, zd, ze, zf, zg, zh, zi, zj, zk, zl, zm, zn, zo, zp, reduceCtorEq, zE, ↓reduceIte]
    exact l8_10_t l_0 l_1 yr2.1 yr2.2 (0 : Int) false false false false false false (0 : Int) (0 : Int) (0 : Int) (0 : Int) false false false false false false (-1 : Int) (-1 : Int) (-1 : Int) (-1 : Int)
noncomputable def c9_0 : Code := bodyOf Tryd.f9
def c9_1 := cA c9_0
def c9_2 := cB c9_0
def c9_3 := cA c9_2
def c9_4 := cB c9_2
def c9_5 := cA c9_4
def c9_6 := cB c9_4
theorem c9_0_e : c9_0 = .seq c9_1 c9_2 := rfl
theorem c9_1_r : RG (E0 mm) 9 c9_1 := rgN rfl
theorem c9_2_e : c9_2 = .seq c9_3 c9_4 := rfl
theorem c9_3_r : RG (E0 mm) 9 c9_3 := rgN rfl
theorem c9_4_e : c9_4 = .seq c9_5 c9_6 := rfl
theorem c9_5_r (m : Nat) (st : St) : den (E0 mm) 9 m (callW (E0 mm)) itW c9_5 none st = regD ((runF (E0 mm) (callW (E0 mm)) (opsOf c9_5) (opsOf c9_5) [none, none, some false, none, none, some false, none, none, some false, none, none, some false, none, none, some false, none, some true, some false, none, some true, none, none, none] st []).bind (ckF [(16, 2), (16, 5), (16, 8), (16, 11), (16, 14), (19, 2), (19, 5), (19, 8), (19, 11), (19, 14), (19, 17)])) := den_dF (by kernel_rfl)
theorem c9_6_e : c9_6 = .ret := rfl
abbrev R9 := (Bool × Bool × Bool × Bool × Bool × Bool × Int × Int × Int × Int)
def e9 : R9 → AV × Heap := fun x => (.v (.agg [.d (.sc (.bool x.1)), .d (.sc (.bool x.2.1)), .d (.sc (.bool x.2.2.1)), .d (.sc (.bool x.2.2.2.1)), .d (.sc (.bool x.2.2.2.2.1)), .d (.sc (.bool x.2.2.2.2.2.1)), .d (.sc (.int .i64 x.2.2.2.2.2.2.1)), .d (.sc (.int .i64 x.2.2.2.2.2.2.2.1)), .d (.sc (.int .i64 x.2.2.2.2.2.2.2.2.1)), .d (.sc (.int .i64 x.2.2.2.2.2.2.2.2.2))]), [])
def m9 (l_0 : Bool) (l_1 : List (Bs × Bs)) : Option R9 :=
  (m18 l_0 l_1).bind fun yr2 =>
    (m19 false ([([110, 111, 45, 115, 116, 111, 114, 101] : Bs)] : List Bs) yr2).bind fun yr4 =>
      (m19 false ([([110, 111, 45, 99, 97, 99, 104, 101] : Bs)] : List Bs) yr2).bind fun yr6 =>
        (m19 false ([([112, 114, 105, 118, 97, 116, 101] : Bs)] : List Bs) yr2).bind fun yr8 =>
          (m19 false ([([112, 117, 98, 108, 105, 99] : Bs)] : List Bs) yr2).bind fun yr10 =>
            (m19 false ([([109, 117, 115, 116, 45, 114, 101, 118, 97, 108, 105, 100, 97, 116, 101] : Bs), ([112, 114, 111, 120, 121, 45, 114, 101, 118, 97, 108, 105, 100, 97, 116, 101] : Bs)] : List Bs) yr2).bind fun yr12 =>
              (m20 (!(hasM ([109, 97, 120, 45, 97, 103, 101] : Bs) yr2)) (valM ([109, 97, 120, 45, 97, 103, 101] : Bs) yr2)).bind fun yr14 =>
                (m20 (!(hasM ([115, 45, 109, 97, 120, 97, 103, 101] : Bs) yr2)) (valM ([115, 45, 109, 97, 120, 97, 103, 101] : Bs) yr2)).bind fun yr16 =>
                  some (yr4, yr6, yr8, yr10, yr12, false, yr14, yr16, (-1 : Int), (-1 : Int))
theorem f9_t (l_0 : Bool) (l_1 : List (Bs × Bs)) :
    callW (E0 mm) 9 [.c (.d (.lst l_0 (enL enSS l_1)))] [] = (m9 l_0 l_1).map e9 := by
  rw [callW_run (body := c9_0) (res := [.cell 2 24]) Tryd.func9 rfl rfl (by kernel_rfl)]
  simp -implicitDefEqProofs only [m9, slots1, c9_0_e, c9_1_r, (show opsOf c9_1 = _ :: _ from rfl), zc24, ao55, c9_2_e, c9_3_r, (show opsOf c9_3 = _ :: _ from rfl), ent18, prm18, f18_t, setA, setB, za, zb, zc, zd, ze, zf, zg, zh, zi, zj, zk, zl, zm, zn, zo, zp, reduceCtorEq, zE, ↓reduceIte]
  refine brM (fun yc1 => ?_) (fun yr2 yc1 => ?_)
  · rw [yc1]; rfl
  · simp -implicitDefEqProofs only [e18, c9_4_e, c9_5_r, (show opsOf c9_5 = _ :: _ from rfl), Tryd.underlying30, sz9, zc9, hd56, nv57, rw58, ns8, ent19, prm19, (show callW (E0 mm) 19 [.c (.mp 0), .c (.d (.lst false (enL enS ([([110, 111, 45, 115, 116, 111, 114, 101] : Bs)] : List Bs))))] [.amap (enM yr2)] = _ from f19_t false ([([110, 111, 45, 115, 116, 111, 114, 101] : Bs)] : List Bs) yr2), yc1, runF_nil, runF_none, runF_some, runKF_t, runKF_f, runKF_x, stepKF_s, stepKF_x, tlT_c, tlT_n, hdT_c, hdT_n, footT_n, foot_t, readsO, setA, setB, za, zb, zc, zd, ze, zf, zg, zh, zi, zj, zk, zl, zm, zn, zo, zp, reduceCtorEq, zE, ↓reduceIte]
    refine brM (fun yc3 => ?_) (fun yr4 yc3 => ?_)
    · rw [yc3]; rfl
    · simp -implicitDefEqProofs only [e19, Tryd.underlying30, sz9, zc9, hd56, nv57, rw58, ns8, ent19, prm19, (show callW (E0 mm) 19 [.c (.mp 0), .c (.d (.lst false (enL enS ([([110, 111, 45, 99, 97, 99, 104, 101] : Bs)] : List Bs))))] [.amap (enM yr2)] = _ from f19_t false ([([110, 111, 45, 99, 97, 99, 104, 101] : Bs)] : List Bs) yr2), yc1, runF_nil, runF_none, runF_some, runKF_t, runKF_f, runKF_x, stepKF_s, stepKF_x, tlT_c, tlT_n, hdT_c, hdT_n, footT_n, foot_t, readsO, yc3, setA, setB, za, zb, zc, zd, ze, zf, zg, zh, zi, zj, zk, zl, zm, zn, zo, zp, reduceCtorEq, zE, ↓reduceIte]
      refine brM (fun yc5 => ?_) (fun yr6 yc5 => ?_)
      · rw [yc5]; rfl
      · simp -implicitDefEqProofs only [e19, Tryd.underlying30, sz9, zc9, hd56, nv57, rw58, ns8, ent19, prm19, (show callW (E0 mm) 19 [.c (.mp 0), .c (.d (.lst false (enL enS ([([112, 114, 105, 118, 97, 116, 101] : Bs)] : List Bs))))] [.amap (enM yr2)] = _ from f19_t false ([([112, 114, 105, 118, 97, 116, 101] : Bs)] : List Bs) yr2), yc1, runF_nil, runF_none, runF_some, runKF_t, runKF_f, runKF_x, stepKF_s, stepKF_x, tlT_c, tlT_n, hdT_c, hdT_n, footT_n, foot_t, readsO, yc3, yc5, setA, setB, za, zb, zc, zd, ze, zf, zg, zh, zi, zj, zk, zl, zm, zn, zo, zp, reduceCtorEq, zE, ↓reduceIte]
        refine brM (fun yc7 => ?_) (fun yr8 yc7 => ?_)
        · rw [yc7]; rfl
        · simp -implicitDefEqProofs only [e19, Tryd.underlying30, sz9, zc9, hd56, nv57, rw58, ns8, ent19, prm19, (show callW (E0 mm) 19 [.c (.mp 0), .c (.d (.lst false (enL enS ([([112, 117, 98, 108, 105, 99] : Bs)] : List Bs))))] [.amap (enM yr2)] = _ from f19_t false ([([112, 117, 98, 108, 105, 99] : Bs)] : List Bs) yr2), yc1, runF_nil, runF_none, runF_some, runKF_t, runKF_f, runKF_x, stepKF_s, stepKF_x, tlT_c, tlT_n, hdT_c, hdT_n, footT_n, foot_t, readsO, yc3, yc5, yc7, setA, setB, za, zb, zc, zd, ze, zf, zg, zh, zi, zj, zk, zl, zm, zn, zo, zp, reduceCtorEq, zE, ↓reduceIte]
          refine brM (fun yc9 => ?_) (fun yr10 yc9 => ?_)
          · rw [yc9]; rfl
          · simp -implicitDefEqProofs only [e19, Tryd.underlying30, sz9, zc9, hd56, nv57, rw58, ns59, ent19, prm19, (show callW (E0 mm) 19 [.c (.mp 0), .c (.d (.lst false (enL enS ([([109, 117, 115, 116, 45, 114, 101, 118, 97, 108, 105, 100, 97, 116, 101] : Bs), ([112, 114, 111, 120, 121, 45, 114, 101, 118, 97, 108, 105, 100, 97, 116, 101] : Bs)] : List Bs))))] [.amap (enM yr2)] = _ from f19_t false ([([109, 117, 115, 116, 45, 114, 101, 118, 97, 108, 105, 100, 97, 116, 101] : Bs), ([112, 114, 111, 120, 121, 45, 114, 101, 118, 97, 108, 105, 100, 97, 116, 101] : Bs)] : List Bs) yr2), yc1, runF_nil, runF_none, runF_some, runKF_t, runKF_f, runKF_x, stepKF_s, stepKF_x, tlT_c, tlT_n, hdT_c, hdT_n, footT_n, foot_t, readsO, yc3, yc5, yc7, yc9, setA, setB, za, zb, zc, zd, ze, zf, zg, zh, zi, zj, zk, zl, zm, zn, zo, zp, reduceCtorEq, zE, ↓reduceIte]
            refine brM (fun yc11 => ?_) (fun yr12 yc11 => ?_)
            · rw [yc11]; rfl
            · simp -implicitDefEqProofs only [e19, Tryd.underlying40, Tryd.underlying9, zv30, ent20, prm20, f20_t, yc1, runF_nil, runF_none, runF_some, runKF_t, runKF_f, runKF_x, stepKF_s, stepKF_x, tlT_c, tlT_n, hdT_c, hdT_n, footT_n, foot_t, readsO, yc3, yc5, yc7, yc9, yc11, setA, setB, za, zb, zc, zd, ze, zf, zg, zh, zi, zj, zk, zl, zm, zn, zo, zp, reduceCtorEq, zE, ↓reduceIte]
              refine brM (fun yc13 => ?_) (fun yr14 yc13 => ?_)
              · rw [yc13]; rfl
              · simp -implicitDefEqProofs only [e20, Tryd.underlying40, Tryd.underlying9, zv30, ent20, prm20, f20_t, yc1, runF_nil, runF_none, runF_some, runKF_t, runKF_f, runKF_x, stepKF_s, stepKF_x, tlT_c, tlT_n, hdT_c, hdT_n, footT_n, foot_t, readsO, yc3, yc5, yc7, yc9, yc11, yc13, setA, setB, za, zb, zc, zd, ze, zf, zg, zh, zi, zj, zk, zl, zm, zn, zo, zp, reduceCtorEq, zE, ↓reduceIte]
                refine brM (fun yc15 => ?_) (fun yr16 yc15 => ?_)
                · rw [yc15]; rfl
                · simp -implicitDefEqProofs only [e20, Tryd.underlying24, zc24, sz4, sz3, sz24, ckF, foot_f, pair1, pair0, chgA, eqO, eqOb_cells, eqOb_row, eqOb_siter, eqOb_amapN, eqOb_amapC, eqOb_sm, eqE_S, eqE_SS, eqE_N, eqE_B, eqL, eqC, eqD, eqV, eqV1, eqB_refl, eq_self, decide_true, List.all_nil, List.getD_cons_zero, List.getD_cons_succ, Bool.and_self, c9_6_e, ag24, yc1, runF_nil, runF_none, runF_some, runKF_t, runKF_f, runKF_x, stepKF_s, stepKF_x, tlT_c, tlT_n, hdT_c, hdT_n, footT_n, foot_t, readsO, yc3, yc5, yc7, yc9, yc11, yc13, yc15, setA, setB, za, zb, zc, zd, ze, zf, zg, zh, zi, zj, zk, zl, zm, zn, zo, zp, reduceCtorEq, zE, ↓reduceIte]
                  all_goals rfl
noncomputable def c10_0 : Code := bodyOf Tryd.f10
def c10_1 := cA c10_0
def c10_2 := cB c10_0
def c10_3 := cA c10_2
def c10_4 := cB c10_2
def c10_5 := cA c10_4
def c10_6 := cB c10_4
def c10_7 := cA c10_6
def c10_8 := cA c10_7
def c10_9 := cB c10_7
def c10_10 := cA c10_9
def c10_11 := cA c10_10
def c10_12 := cA c10_11
def c10_13 := cA c10_12
def c10_14 := cB c10_12
def c10_15 := cA c10_14
def c10_16 := cB c10_14
def c10_17 := cB c10_11
def c10_18 := cA c10_17
def c10_19 := cA c10_18
def c10_20 := cA c10_19
def c10_21 := cB c10_19
def c10_22 := cA c10_21
def c10_23 := cA c10_22
def c10_24 := cB c10_22
def c10_25 := cA c10_24
def c10_26 := cB c10_24
def c10_27 := cB c10_21
def c10_28 := cA c10_27
def c10_29 := cB c10_27
def c10_30 := cA c10_29
def c10_31 := cB c10_29
def c10_32 := cA c10_31
def c10_33 := cA c10_32
def c10_34 := cB c10_32
def c10_35 := cA c10_34
def c10_36 := cB c10_34
def c10_37 := cA c10_36
def c10_38 := cB c10_36
def c10_39 := cA c10_38
def c10_40 := cB c10_38
def c10_41 := cA c10_40
def c10_42 := cB c10_40
def c10_43 := cA c10_42
def c10_44 := cB c10_42
def c10_45 := cA c10_44
def c10_46 := cB c10_44
def c10_47 := cA c10_46
def c10_48 := cB c10_46
def c10_49 := cA c10_48
def c10_50 := cA c10_49
def c10_51 := cB c10_49
def c10_52 := cA c10_51
def c10_53 := cB c10_51
def c10_54 := cB c10_48
def c10_55 := cA c10_54
def c10_56 := cB c10_54
def c10_57 := cA c10_56
def c10_58 := cB c10_56
def c10_59 := cA c10_58
def c10_60 := cB c10_58
def c10_61 := cA c10_60
def c10_62 := cB c10_60
def c10_63 := cA c10_62
def c10_64 := cB c10_62
def c10_65 := cB c10_17
def c10_66 := cB c10_6
def c10_67 := cA c10_66
def c10_68 := cB c10_66
theorem c10_0_e : c10_0 = .seq c10_1 c10_2 := rfl
theorem c10_1_r : RG (E0 mm) 10 c10_1 := rgN rfl
theorem c10_2_e : c10_2 = .seq c10_3 c10_4 := rfl
theorem c10_3_r : RG (E0 mm) 10 c10_3 := rgN rfl
theorem c10_4_e : c10_4 = .seq c10_5 c10_6 := rfl
theorem c10_5_r : RG (E0 mm) 10 c10_5 := rgN rfl
theorem c10_6_e : c10_6 = .seq c10_7 c10_66 := rfl
theorem c10_7_e : c10_7 = .seq c10_8 c10_9 := rfl
theorem c10_8_r : RG (E0 mm) 10 c10_8 := rgN rfl
theorem c10_9_e : c10_9 = .block 0 c10_10 := rfl
theorem c10_10_l (m : Nat) (st : St) : den (E0 mm) 10 m (callW (E0 mm)) itW c10_10 none st = loopD itW (loopF (E0 mm) 10 m (callW (E0 mm)) itW c10_11 [(2, .keep), (3, .keep), (4, .keep), (5, .keep)]) (canon m [(2, .keep), (3, .keep), (4, .keep), (5, .keep)] st) := rfl
theorem c10_11_e : c10_11 = .seq c10_12 c10_17 := rfl
theorem c10_12_e : c10_12 = .seq c10_13 c10_14 := rfl
theorem c10_13_r : RG (E0 mm) 10 c10_13 := rgN rfl
theorem c10_15_e : c10_15 = .skip := rfl
theorem c10_16_e : c10_16 = .exit 0 := rfl
theorem c10_17_e : c10_17 = .seq c10_18 c10_65 := rfl
theorem c10_18_e : c10_18 = .block 1 c10_19 := rfl
theorem c10_19_e : c10_19 = .seq c10_20 c10_21 := rfl
theorem c10_20_r : RG (E0 mm) 10 c10_20 := rgN rfl
theorem c10_21_e : c10_21 = .seq c10_22 c10_27 := rfl
theorem c10_22_e : c10_22 = .seq c10_23 c10_24 := rfl
theorem c10_23_r : RG (E0 mm) 10 c10_23 := rgN rfl
theorem c10_25_e : c10_25 = .exit 1 := rfl
theorem c10_26_e : c10_26 = .skip := rfl
theorem c10_27_e : c10_27 = .seq c10_28 c10_29 := rfl
theorem c10_28_r : RG (E0 mm) 10 c10_28 := rgN rfl
theorem c10_29_e : c10_29 = .seq c10_30 c10_31 := rfl
theorem c10_30_r : RG (E0 mm) 10 c10_30 := rgN rfl
theorem c10_31_e : c10_31 = .block 2 c10_32 := rfl
theorem c10_32_e : c10_32 = .seq c10_33 c10_34 := rfl
theorem c10_33_r : RG (E0 mm) 10 c10_33 := rgN rfl
theorem c10_35_r : RG (E0 mm) 10 c10_35 := rgN rfl
theorem c10_36_e : c10_36 = .seq c10_37 c10_38 := rfl
theorem c10_37_r : RG (E0 mm) 10 c10_37 := rgN rfl
theorem c10_39_r : RG (E0 mm) 10 c10_39 := rgN rfl
theorem c10_40_e : c10_40 = .seq c10_41 c10_42 := rfl
theorem c10_41_r : RG (E0 mm) 10 c10_41 := rgN rfl
theorem c10_43_r : RG (E0 mm) 10 c10_43 := rgN rfl
theorem c10_44_e : c10_44 = .seq c10_45 c10_46 := rfl
theorem c10_45_r : RG (E0 mm) 10 c10_45 := rgN rfl
theorem c10_47_r : RG (E0 mm) 10 c10_47 := rgN rfl
theorem c10_48_e : c10_48 = .seq c10_49 c10_54 := rfl
theorem c10_49_e : c10_49 = .seq c10_50 c10_51 := rfl
theorem c10_50_r : RG (E0 mm) 10 c10_50 := rgN rfl
theorem c10_52_e : c10_52 = .skip := rfl
theorem c10_53_r : RG (E0 mm) 10 c10_53 := rgN rfl
theorem c10_55_r : RG (E0 mm) 10 c10_55 := rgN rfl
theorem c10_56_e : c10_56 = .seq c10_57 c10_58 := rfl
theorem c10_57_r : RG (E0 mm) 10 c10_57 := rgN rfl
theorem c10_59_r : RG (E0 mm) 10 c10_59 := rgN rfl
theorem c10_60_e : c10_60 = .seq c10_61 c10_62 := rfl
theorem c10_61_r : RG (E0 mm) 10 c10_61 := rgN rfl
theorem c10_63_r : RG (E0 mm) 10 c10_63 := rgN rfl
theorem c10_64_e : c10_64 = .skip := rfl
theorem c10_65_r : RG (E0 mm) 10 c10_65 := rgN rfl
theorem c10_66_e : c10_66 = .seq c10_67 c10_68 := rfl
theorem c10_67_r : RG (E0 mm) 10 c10_67 := rgN rfl
theorem c10_68_e : c10_68 = .ret := rfl
abbrev R10 := (Bool × Bool × Bool × Bool × Bool × Bool × Int × Int × Int × Int)
def e10 : R10 → AV × Heap := fun x => (.v (.agg [.d (.sc (.bool x.1)), .d (.sc (.bool x.2.1)), .d (.sc (.bool x.2.2.1)), .d (.sc (.bool x.2.2.2.1)), .d (.sc (.bool x.2.2.2.2.1)), .d (.sc (.bool x.2.2.2.2.2.1)), .d (.sc (.int .i64 x.2.2.2.2.2.2.1)), .d (.sc (.int .i64 x.2.2.2.2.2.2.2.1)), .d (.sc (.int .i64 x.2.2.2.2.2.2.2.2.1)), .d (.sc (.int .i64 x.2.2.2.2.2.2.2.2.2))]), [])
def K10_10 : Option (Ex × St) → Option (AV × Heap) := fun r => bodyD (E0 mm) [.cell 2 24] 0 false (seqD (E0 mm) 10 0 (callW (E0 mm)) itW c10_66 (blockD 0 (r)))
def en10_10 : (Bool × List Bs × Int × Bool × Bool × Bool × Bool × Bool × Bool × Int × Int × Int × Int × Bool × Bool × Bool × Bool × Bool × Bool × Int × Int × Int × Int) → X := fun x => (none, [.v (.c (.ptr 0 0)), .v (.c (.ptr 1 0)), .v (.c (.own x.1 (enL enS x.2.1) 2)), .v (.c (.d (.sc (.int .i64 x.2.2.1))))], [.cells [.d (.sc (.bool x.2.2.2.1)), .d (.sc (.bool x.2.2.2.2.1)), .d (.sc (.bool x.2.2.2.2.2.1)), .d (.sc (.bool x.2.2.2.2.2.2.1)), .d (.sc (.bool x.2.2.2.2.2.2.2.1)), .d (.sc (.bool x.2.2.2.2.2.2.2.2.1)), .d (.sc (.int .i64 x.2.2.2.2.2.2.2.2.2.1)), .d (.sc (.int .i64 x.2.2.2.2.2.2.2.2.2.2.1)), .d (.sc (.int .i64 x.2.2.2.2.2.2.2.2.2.2.2.1)), .d (.sc (.int .i64 x.2.2.2.2.2.2.2.2.2.2.2.2.1))], .cells [.d (.sc (.bool x.2.2.2.2.2.2.2.2.2.2.2.2.2.1)), .d (.sc (.bool x.2.2.2.2.2.2.2.2.2.2.2.2.2.2.1)), .d (.sc (.bool x.2.2.2.2.2.2.2.2.2.2.2.2.2.2.2.1)), .d (.sc (.bool x.2.2.2.2.2.2.2.2.2.2.2.2.2.2.2.2.1)), .d (.sc (.bool x.2.2.2.2.2.2.2.2.2.2.2.2.2.2.2.2.2.1)), .d (.sc (.bool x.2.2.2.2.2.2.2.2.2.2.2.2.2.2.2.2.2.2.1)), .d (.sc (.int .i64 x.2.2.2.2.2.2.2.2.2.2.2.2.2.2.2.2.2.2.2.1)), .d (.sc (.int .i64 x.2.2.2.2.2.2.2.2.2.2.2.2.2.2.2.2.2.2.2.2.1)), .d (.sc (.int .i64 x.2.2.2.2.2.2.2.2.2.2.2.2.2.2.2.2.2.2.2.2.2.1)), .d (.sc (.int .i64 x.2.2.2.2.2.2.2.2.2.2.2.2.2.2.2.2.2.2.2.2.2.2))], .row x.2.1.length (rz x.1 1)])
def j10_65 (all4_0 : Bool) (all4_1 : List Bs) (i5 : Int) (h0_0 h0_1 : Bool) (h0_2 h0_3 : Bool) (h0_4 h0_5 : Bool) (h0_6 h0_7 : Int) (h0_8 h0_9 : Int) (h1_0 h1_1 : Bool) (h1_2 h1_3 : Bool) (h1_4 h1_5 : Bool) (h1_6 h1_7 : Int) (h1_8 h1_9 : Int) : Option ((Bool × List Bs × Int × Bool × Bool × Bool × Bool × Bool × Bool × Int × Int × Int × Int × Bool × Bool × Bool × Bool × Bool × Bool × Int × Int × Int × Int) ⊕ R10) :=
  some (.inl (all4_0, all4_1, (w64 (i5 + 1)), h0_0, h0_1, h0_2, h0_3, h0_4, h0_5, h0_6, h0_7, h0_8, h0_9, h1_0, h1_1, h1_2, h1_3, h1_4, h1_5, h1_6, h1_7, h1_8, h1_9))
theorem j10_65_t (all4_0 : Bool) (all4_1 : List Bs) (i5 : Int) (h0_0 h0_1 : Bool) (h0_2 h0_3 : Bool) (h0_4 h0_5 : Bool) (h0_6 h0_7 : Int) (h0_8 h0_9 : Int) (h1_0 h1_1 : Bool) (h1_2 h1_3 : Bool) (h1_4 h1_5 : Bool) (h1_6 h1_7 : Int) (h1_8 h1_9 : Int)  (sl : Nat → AV) (zq2 : sl 2 = .v (.c (.ptr 0 0))) (zq3 : sl 3 = .v (.c (.ptr 1 0))) (zq4 : sl 4 = .v (.c (.own all4_0 (enL enS all4_1) 2))) (zq5 : sl 5 = .v (.c (.d (.sc (.int .i64 i5))))) :
    stepE (K10_10 (mm := mm)) (loopK 0 [(2, .keep), (3, .keep), (4, .keep), (5, .keep)] (den (E0 mm) 10 0 (callW (E0 mm)) itW c10_65 none ⟨sl, [.cells [.d (.sc (.bool h0_0)), .d (.sc (.bool h0_1)), .d (.sc (.bool h0_2)), .d (.sc (.bool h0_3)), .d (.sc (.bool h0_4)), .d (.sc (.bool h0_5)), .d (.sc (.int .i64 h0_6)), .d (.sc (.int .i64 h0_7)), .d (.sc (.int .i64 h0_8)), .d (.sc (.int .i64 h0_9))], .cells [.d (.sc (.bool h1_0)), .d (.sc (.bool h1_1)), .d (.sc (.bool h1_2)), .d (.sc (.bool h1_3)), .d (.sc (.bool h1_4)), .d (.sc (.bool h1_5)), .d (.sc (.int .i64 h1_6)), .d (.sc (.int .i64 h1_7)), .d (.sc (.int .i64 h1_8)), .d (.sc (.int .i64 h1_9))], .row all4_1.length (rz all4_0 1)]⟩)) = (j10_65 all4_0 all4_1 i5 h0_0 h0_1 h0_2 h0_3 h0_4 h0_5 h0_6 h0_7 h0_8 h0_9 h1_0 h1_1 h1_2 h1_3 h1_4 h1_5 h1_6 h1_7 h1_8 h1_9).map (sm en10_10 e10) := by
  simp -implicitDefEqProofs only [j10_65, c10_65_r, (show opsOf c10_65 = _ :: _ from rfl), zq2, zq3, zq4, zq5, setA, setB, za, zb, zc, zd, ze, zf, zg, zh, zi, zj, zk, zl, zm, zn, zo, zp, reduceCtorEq, zE, ↓reduceIte]
  all_goals rfl
def j10_54 (all4_0 : Bool) (all4_1 : List Bs) (i5 n9 : Int) (t32 : Bs) (t45 h0_0 : Bool) (h0_1 h0_2 : Bool) (h0_3 h0_4 h0_5 : Bool) (h0_6 h0_7 : Int) (h0_8 h0_9 : Int) (h1_0 h1_1 : Bool) (h1_2 h1_3 : Bool) (h1_4 h1_5 : Bool) (h1_6 h1_7 : Int) (h1_8 h1_9 : Int) : Option ((Bool × List Bs × Int × Bool × Bool × Bool × Bool × Bool × Bool × Int × Int × Int × Int × Bool × Bool × Bool × Bool × Bool × Bool × Int × Int × Int × Int) ⊕ R10) :=
  if t45 = true then
    j10_65 all4_0 all4_1 i5 h0_0 h0_1 h0_2 h0_3 h0_4 h0_5 h0_6 h0_7 h0_8 h0_9 h1_0 h1_1 h1_2 h1_3 true h1_5 h1_6 h1_7 h1_8 h1_9
  else
    if (t32 == ([109, 97, 120, 45, 97, 103, 101] : Bs)) = true then
      (m30 h1_6 n9).bind fun yr19 =>
        j10_65 all4_0 all4_1 i5 h0_0 h0_1 h0_2 h0_3 h0_4 h0_5 h0_6 h0_7 h0_8 h0_9 h1_0 h1_1 h1_2 h1_3 h1_4 h1_5 yr19 h1_7 h1_8 h1_9
    else
      if (t32 == ([115, 45, 109, 97, 120, 97, 103, 101] : Bs)) = true then
        (m30 h1_7 n9).bind fun yr22 =>
          j10_65 all4_0 all4_1 i5 h0_0 h0_1 h0_2 h0_3 h0_4 h0_5 h0_6 h0_7 h0_8 h0_9 h1_0 h1_1 h1_2 h1_3 h1_4 h1_5 h1_6 yr22 h1_8 h1_9
      else
        j10_65 all4_0 all4_1 i5 h0_0 h0_1 h0_2 h0_3 h0_4 h0_5 h0_6 h0_7 h0_8 h0_9 h1_0 h1_1 h1_2 h1_3 h1_4 h1_5 h1_6 h1_7 h1_8 h1_9
theorem j10_54_t (all4_0 : Bool) (all4_1 : List Bs) (i5 n9 : Int) (t32 : Bs) (t45 h0_0 : Bool) (h0_1 h0_2 : Bool) (h0_3 h0_4 h0_5 : Bool) (h0_6 h0_7 : Int) (h0_8 h0_9 : Int) (h1_0 h1_1 : Bool) (h1_2 h1_3 : Bool) (h1_4 h1_5 : Bool) (h1_6 h1_7 : Int) (h1_8 h1_9 : Int)  (sl : Nat → AV) (zq2 : sl 2 = .v (.c (.ptr 0 0))) (zq3 : sl 3 = .v (.c (.ptr 1 0))) (zq4 : sl 4 = .v (.c (.own all4_0 (enL enS all4_1) 2))) (zq5 : sl 5 = .v (.c (.d (.sc (.int .i64 i5))))) (zq9 : sl 9 = .v (.c (.d (.sc (.int .i64 n9))))) (zq32 : sl 32 = .v (.c (.d (.sc (.string (S t32)))))) (zq45 : sl 45 = .v (.c (.d (.sc (.bool t45))))) :
    stepE (K10_10 (mm := mm)) (loopK 0 [(2, .keep), (3, .keep), (4, .keep), (5, .keep)] (seqD (E0 mm) 10 0 (callW (E0 mm)) itW c10_65 (blockD 1 (blockD 2 (den (E0 mm) 10 0 (callW (E0 mm)) itW c10_54 none ⟨sl, [.cells [.d (.sc (.bool h0_0)), .d (.sc (.bool h0_1)), .d (.sc (.bool h0_2)), .d (.sc (.bool h0_3)), .d (.sc (.bool h0_4)), .d (.sc (.bool h0_5)), .d (.sc (.int .i64 h0_6)), .d (.sc (.int .i64 h0_7)), .d (.sc (.int .i64 h0_8)), .d (.sc (.int .i64 h0_9))], .cells [.d (.sc (.bool h1_0)), .d (.sc (.bool h1_1)), .d (.sc (.bool h1_2)), .d (.sc (.bool h1_3)), .d (.sc (.bool h1_4)), .d (.sc (.bool h1_5)), .d (.sc (.int .i64 h1_6)), .d (.sc (.int .i64 h1_7)), .d (.sc (.int .i64 h1_8)), .d (.sc (.int .i64 h1_9))], .row all4_1.length (rz all4_0 1)]⟩))))) = (j10_54 all4_0 all4_1 i5 n9 t32 t45 h0_0 h0_1 h0_2 h0_3 h0_4 h0_5 h0_6 h0_7 h0_8 h0_9 h1_0 h1_1 h1_2 h1_3 h1_4 h1_5 h1_6 h1_7 h1_8 h1_9).map (sm en10_10 e10) := by
  simp -implicitDefEqProofs only [j10_54, (show c10_54 = Code.cond _ c10_55 c10_56 from rfl), zq2, zq3, zq4, zq5, zq9, zq32, zq45, setA, setB, za, zb, zc, zd, ze, zf, zg, zh, zi, zj, zk, zl, zm, zn, zo, zp, reduceCtorEq, zE, ↓reduceIte]
  refine brB (fun yc16 => ?_) (fun yc16 => ?_)
  · simp -implicitDefEqProofs only [c10_55_r, (show opsOf c10_55 = _ :: _ from rfl), Tryd.underlying24, sz4, zq2, zq3, zq4, zq5, zq9, zq32, zq45, yc16, setA, setB, za, zb, zc, zd, ze, zf, zg, zh, zi, zj, zk, zl, zm, zn, zo, zp, reduceCtorEq, zE, ↓reduceIte]
    exact j10_65_t all4_0 all4_1 i5 h0_0 h0_1 h0_2 h0_3 h0_4 h0_5 h0_6 h0_7 h0_8 h0_9 h1_0 h1_1 h1_2 h1_3 true h1_5 h1_6 h1_7 h1_8 h1_9 _ (by exact zq2) (by exact zq3) (by exact zq4) (by exact zq5)
  · simp -implicitDefEqProofs only [c10_56_e, c10_57_r, (show opsOf c10_57 = _ :: _ from rfl), (show c10_58 = Code.cond _ c10_59 c10_60 from rfl), zq2, zq3, zq4, zq5, zq9, zq32, zq45, yc16, setA, setB, za, zb, zc, zd, ze, zf, zg, zh, zi, zj, zk, zl, zm, zn, zo, zp, reduceCtorEq, zE, ↓reduceIte]
    refine brB (fun yc17 => ?_) (fun yc17 => ?_)
    · simp -implicitDefEqProofs only [c10_59_r, (show opsOf c10_59 = _ :: _ from rfl), Tryd.underlying24, sz3, ag3, ent30, prm30, f30_t, zq2, zq3, zq4, zq5, zq9, zq32, zq45, yc16, yc17, setA, setB, za, zb, zc, zd, ze, zf, zg, zh, zi, zj, zk, zl, zm, zn, zo, zp, reduceCtorEq, zE, ↓reduceIte]
      refine brM (fun yc18 => ?_) (fun yr19 yc18 => ?_)
      · rw [yc18]; rfl
      · simp -implicitDefEqProofs only [e30, Tryd.underlying24, sz3, zq2, zq3, zq4, zq5, zq9, zq32, zq45, yc16, yc17, yc18, setA, setB, za, zb, zc, zd, ze, zf, zg, zh, zi, zj, zk, zl, zm, zn, zo, zp, reduceCtorEq, zE, ↓reduceIte]
        exact j10_65_t all4_0 all4_1 i5 h0_0 h0_1 h0_2 h0_3 h0_4 h0_5 h0_6 h0_7 h0_8 h0_9 h1_0 h1_1 h1_2 h1_3 h1_4 h1_5 yr19 h1_7 h1_8 h1_9 _ (by exact zq2) (by exact zq3) (by exact zq4) (by exact zq5)
    · simp -implicitDefEqProofs only [c10_60_e, c10_61_r, (show opsOf c10_61 = _ :: _ from rfl), (show c10_62 = Code.cond _ c10_63 c10_64 from rfl), zq2, zq3, zq4, zq5, zq9, zq32, zq45, yc16, yc17, setA, setB, za, zb, zc, zd, ze, zf, zg, zh, zi, zj, zk, zl, zm, zn, zo, zp, reduceCtorEq, zE, ↓reduceIte]
      refine brB (fun yc20 => ?_) (fun yc20 => ?_)
      · simp -implicitDefEqProofs only [c10_63_r, (show opsOf c10_63 = _ :: _ from rfl), Tryd.underlying24, sz3, ag3, ent30, prm30, f30_t, zq2, zq3, zq4, zq5, zq9, zq32, zq45, yc16, yc17, yc20, setA, setB, za, zb, zc, zd, ze, zf, zg, zh, zi, zj, zk, zl, zm, zn, zo, zp, reduceCtorEq, zE, ↓reduceIte]
        refine brM (fun yc21 => ?_) (fun yr22 yc21 => ?_)
        · rw [yc21]; rfl
        · simp -implicitDefEqProofs only [e30, Tryd.underlying24, sz3, zq2, zq3, zq4, zq5, zq9, zq32, zq45, yc16, yc17, yc20, yc21, setA, setB, za, zb, zc, zd, ze, zf, zg, zh, zi, zj, zk, zl, zm, zn, zo, zp, reduceCtorEq, zE, ↓reduceIte]
          exact j10_65_t all4_0 all4_1 i5 h0_0 h0_1 h0_2 h0_3 h0_4 h0_5 h0_6 h0_7 h0_8 h0_9 h1_0 h1_1 h1_2 h1_3 h1_4 h1_5 h1_6 yr22 h1_8 h1_9 _ (by exact zq2) (by exact zq3) (by exact zq4) (by exact zq5)
      · simp -implicitDefEqProofs only [c10_64_e, zq2, zq3, zq4, zq5, zq9, zq32, zq45, yc16, yc17, yc20, setA, setB, za, zb, zc, zd, ze, zf, zg, zh, zi, zj, zk, zl, zm, zn, zo, zp, reduceCtorEq, zE, ↓reduceIte]
        exact j10_65_t all4_0 all4_1 i5 h0_0 h0_1 h0_2 h0_3 h0_4 h0_5 h0_6 h0_7 h0_8 h0_9 h1_0 h1_1 h1_2 h1_3 h1_4 h1_5 h1_6 h1_7 h1_8 h1_9 _ (by exact zq2) (by exact zq3) (by exact zq4) (by exact zq5)
def j10_66 (h0_0 h0_1 : Bool) (h0_2 h0_3 : Bool) (h0_4 h0_5 : Bool) (h0_6 h0_7 : Int) (h0_8 h0_9 : Int) (h1_0 h1_1 : Bool) (h1_2 h1_3 : Bool) (h1_4 h1_5 : Bool) (h1_6 h1_7 : Int) (h1_8 h1_9 : Int) : Option R10 :=
  some (h1_0, h1_1, h1_2, h1_3, h1_4, h1_5, h1_6, h1_7, h1_8, h1_9)
theorem j10_66_t (h0_0 h0_1 : Bool) (h0_2 h0_3 : Bool) (h0_4 h0_5 : Bool) (h0_6 h0_7 : Int) (h0_8 h0_9 : Int) (h1_0 h1_1 : Bool) (h1_2 h1_3 : Bool) (h1_4 h1_5 : Bool) (h1_6 h1_7 : Int) (h1_8 h1_9 : Int) (g2 : Ob) (sl : Nat → AV) (zq2 : sl 2 = .v (.c (.ptr 0 0))) (zq3 : sl 3 = .v (.c (.ptr 1 0))) :
    bodyD (E0 mm) [.cell 2 24] 0 false (den (E0 mm) 10 0 (callW (E0 mm)) itW c10_66 none ⟨sl, [.cells [.d (.sc (.bool h0_0)), .d (.sc (.bool h0_1)), .d (.sc (.bool h0_2)), .d (.sc (.bool h0_3)), .d (.sc (.bool h0_4)), .d (.sc (.bool h0_5)), .d (.sc (.int .i64 h0_6)), .d (.sc (.int .i64 h0_7)), .d (.sc (.int .i64 h0_8)), .d (.sc (.int .i64 h0_9))], .cells [.d (.sc (.bool h1_0)), .d (.sc (.bool h1_1)), .d (.sc (.bool h1_2)), .d (.sc (.bool h1_3)), .d (.sc (.bool h1_4)), .d (.sc (.bool h1_5)), .d (.sc (.int .i64 h1_6)), .d (.sc (.int .i64 h1_7)), .d (.sc (.int .i64 h1_8)), .d (.sc (.int .i64 h1_9))], g2]⟩) = (j10_66 h0_0 h0_1 h0_2 h0_3 h0_4 h0_5 h0_6 h0_7 h0_8 h0_9 h1_0 h1_1 h1_2 h1_3 h1_4 h1_5 h1_6 h1_7 h1_8 h1_9).map e10 := by
  simp -implicitDefEqProofs only [j10_66, c10_66_e, c10_67_r, (show opsOf c10_67 = _ :: _ from rfl), sz24, ag24, c10_68_e, zq2, zq3, setA, setB, za, zb, zc, zd, ze, zf, zg, zh, zi, zj, zk, zl, zm, zn, zo, zp, reduceCtorEq, zE, ↓reduceIte]
  all_goals rfl
def s10_10 (all4_0 : Bool) (all4_1 : List Bs) (i5 : Int) (h0_0 h0_1 : Bool) (h0_2 h0_3 : Bool) (h0_4 h0_5 : Bool) (h0_6 h0_7 : Int) (h0_8 h0_9 : Int) (h1_0 h1_1 : Bool) (h1_2 h1_3 : Bool) (h1_4 h1_5 : Bool) (h1_6 h1_7 : Int) (h1_8 h1_9 : Int) : Option ((Bool × List Bs × Int × Bool × Bool × Bool × Bool × Bool × Bool × Int × Int × Int × Int × Bool × Bool × Bool × Bool × Bool × Bool × Int × Int × Int × Int) ⊕ R10) :=
  if (decide (i5 < (all4_1.length : Int))) = true then
    if 0 ≤ i5 ∧ i5 < (all4_1.length : Int) then
      (m28 (all4_1.getD i5.toNat default)).bind fun yr7 =>
        if yr7.2.2 = true then
          (m29 yr7.2.1).bind fun yr10 =>
            if (yr7.1 == ([110, 111, 45, 115, 116, 111, 114, 101] : Bs)) = true then
              j10_65 all4_0 all4_1 i5 h0_0 h0_1 h0_2 h0_3 h0_4 h0_5 h0_6 h0_7 h0_8 h0_9 true h1_1 h1_2 h1_3 h1_4 h1_5 h1_6 h1_7 h1_8 h1_9
            else
              if (yr7.1 == ([110, 111, 45, 99, 97, 99, 104, 101] : Bs)) = true then
                j10_65 all4_0 all4_1 i5 h0_0 h0_1 h0_2 h0_3 h0_4 h0_5 h0_6 h0_7 h0_8 h0_9 h1_0 true h1_2 h1_3 h1_4 h1_5 h1_6 h1_7 h1_8 h1_9
              else
                if (yr7.1 == ([112, 114, 105, 118, 97, 116, 101] : Bs)) = true then
                  j10_65 all4_0 all4_1 i5 h0_0 h0_1 h0_2 h0_3 h0_4 h0_5 h0_6 h0_7 h0_8 h0_9 h1_0 h1_1 true h1_3 h1_4 h1_5 h1_6 h1_7 h1_8 h1_9
                else
                  if (yr7.1 == ([112, 117, 98, 108, 105, 99] : Bs)) = true then
                    j10_65 all4_0 all4_1 i5 h0_0 h0_1 h0_2 h0_3 h0_4 h0_5 h0_6 h0_7 h0_8 h0_9 h1_0 h1_1 h1_2 true h1_4 h1_5 h1_6 h1_7 h1_8 h1_9
                  else
                    if (yr7.1 == ([109, 117, 115, 116, 45, 114, 101, 118, 97, 108, 105, 100, 97, 116, 101] : Bs)) = true then
                      j10_54 all4_0 all4_1 i5 yr10 yr7.1 true h0_0 h0_1 h0_2 h0_3 h0_4 h0_5 h0_6 h0_7 h0_8 h0_9 h1_0 h1_1 h1_2 h1_3 h1_4 h1_5 h1_6 h1_7 h1_8 h1_9
                    else
                      j10_54 all4_0 all4_1 i5 yr10 yr7.1 (yr7.1 == ([112, 114, 111, 120, 121, 45, 114, 101, 118, 97, 108, 105, 100, 97, 116, 101] : Bs)) h0_0 h0_1 h0_2 h0_3 h0_4 h0_5 h0_6 h0_7 h0_8 h0_9 h1_0 h1_1 h1_2 h1_3 h1_4 h1_5 h1_6 h1_7 h1_8 h1_9
        else
          j10_65 all4_0 all4_1 i5 h0_0 h0_1 h0_2 h0_3 h0_4 h0_5 h0_6 h0_7 h0_8 h0_9 h1_0 h1_1 h1_2 h1_3 h1_4 h1_5 h1_6 h1_7 h1_8 h1_9
    else none
  else
    (j10_66 h0_0 h0_1 h0_2 h0_3 h0_4 h0_5 h0_6 h0_7 h0_8 h0_9 h1_0 h1_1 h1_2 h1_3 h1_4 h1_5 h1_6 h1_7 h1_8 h1_9).map .inr
theorem s10_10_t (all4_0 : Bool) (all4_1 : List Bs) (i5 : Int) (h0_0 h0_1 : Bool) (h0_2 h0_3 : Bool) (h0_4 h0_5 : Bool) (h0_6 h0_7 : Int) (h0_8 h0_9 : Int) (h1_0 h1_1 : Bool) (h1_2 h1_3 : Bool) (h1_4 h1_5 : Bool) (h1_6 h1_7 : Int) (h1_8 h1_9 : Int) :
    stepE (K10_10 (mm := mm)) (loopF (E0 mm) 10 0 (callW (E0 mm)) itW c10_11 [(2, .keep), (3, .keep), (4, .keep), (5, .keep)] (none, [.v (.c (.ptr 0 0)), .v (.c (.ptr 1 0)), .v (.c (.own all4_0 (enL enS all4_1) 2)), .v (.c (.d (.sc (.int .i64 i5))))], [.cells [.d (.sc (.bool h0_0)), .d (.sc (.bool h0_1)), .d (.sc (.bool h0_2)), .d (.sc (.bool h0_3)), .d (.sc (.bool h0_4)), .d (.sc (.bool h0_5)), .d (.sc (.int .i64 h0_6)), .d (.sc (.int .i64 h0_7)), .d (.sc (.int .i64 h0_8)), .d (.sc (.int .i64 h0_9))], .cells [.d (.sc (.bool h1_0)), .d (.sc (.bool h1_1)), .d (.sc (.bool h1_2)), .d (.sc (.bool h1_3)), .d (.sc (.bool h1_4)), .d (.sc (.bool h1_5)), .d (.sc (.int .i64 h1_6)), .d (.sc (.int .i64 h1_7)), .d (.sc (.int .i64 h1_8)), .d (.sc (.int .i64 h1_9))], .row all4_1.length (rz all4_0 1)])) = (s10_10 all4_0 all4_1 i5 h0_0 h0_1 h0_2 h0_3 h0_4 h0_5 h0_6 h0_7 h0_8 h0_9 h1_0 h1_1 h1_2 h1_3 h1_4 h1_5 h1_6 h1_7 h1_8 h1_9).map (sm en10_10 e10) := by
  simp -implicitDefEqProofs only [s10_10, loopF_eq, c10_11_e, c10_12_e, c10_13_r, (show opsOf c10_13 = _ :: _ from rfl), Tryd.underlying30, (show c10_14 = Code.cond _ c10_15 c10_16 from rfl), setA, setB, za, zb, zc, zd, ze, zf, zg, zh, zi, zj, zk, zl, zm, zn, zo, zp, reduceCtorEq, zE, ↓reduceIte]
  refine brB (fun yc3 => ?_) (fun yc3 => ?_)
  · simp -implicitDefEqProofs only [c10_15_e, c10_17_e, c10_18_e, c10_19_e, c10_20_r, (show opsOf c10_20 = _ :: _ from rfl), Tryd.underlying30, sz9, enS_a, yc3, setA, setB, za, zb, zc, zd, ze, zf, zg, zh, zi, zj, zk, zl, zm, zn, zo, zp, reduceCtorEq, zE, ↓reduceIte]
    refine brP (fun yc4 => ?_) (fun yc4 => ?_)
    · have yd5 : i5.toNat < all4_1.length := by omega
      simp -implicitDefEqProofs only [(enL_get enS all4_1 i5.toNat yd5), enS_e, sz9, ag9, ent28, prm28, f28_t, yc3, yc4, yd5, setA, setB, za, zb, zc, zd, ze, zf, zg, zh, zi, zj, zk, zl, zm, zn, zo, zp, reduceCtorEq, zE, ↓reduceIte]
      refine brM (fun yc6 => ?_) (fun yr7 yc6 => ?_)
      · rw [yc6]; rfl
      · simp -implicitDefEqProofs only [e28, c10_21_e, c10_22_e, c10_23_r, (show opsOf c10_23 = _ :: _ from rfl), (show c10_24 = Code.cond _ c10_25 c10_26 from rfl), yc3, yc4, yd5, yc6, setA, setB, za, zb, zc, zd, ze, zf, zg, zh, zi, zj, zk, zl, zm, zn, zo, zp, reduceCtorEq, zE, ↓reduceIte]
        refine brB (fun yc8 => ?_) (fun yc8 => ?_)
        · simp -implicitDefEqProofs only [c10_26_e, c10_27_e, c10_28_r, (show opsOf c10_28 = _ :: _ from rfl), ent29, prm29, f29_t, yc3, yc4, yd5, yc6, yc8, setA, setB, za, zb, zc, zd, ze, zf, zg, zh, zi, zj, zk, zl, zm, zn, zo, zp, reduceCtorEq, zE, ↓reduceIte]
          refine brM (fun yc9 => ?_) (fun yr10 yc9 => ?_)
          · rw [yc9]; rfl
          · simp -implicitDefEqProofs only [e29, c10_29_e, c10_30_r, (show opsOf c10_30 = _ :: _ from rfl), c10_31_e, c10_32_e, c10_33_r, (show opsOf c10_33 = _ :: _ from rfl), (show c10_34 = Code.cond _ c10_35 c10_36 from rfl), yc3, yc4, yd5, yc6, yc8, yc9, setA, setB, za, zb, zc, zd, ze, zf, zg, zh, zi, zj, zk, zl, zm, zn, zo, zp, reduceCtorEq, zE, ↓reduceIte]
            refine brB (fun yc11 => ?_) (fun yc11 => ?_)
            · simp -implicitDefEqProofs only [c10_35_r, (show opsOf c10_35 = _ :: _ from rfl), Tryd.underlying24, sz4, yc3, yc4, yd5, yc6, yc8, yc9, yc11, setA, setB, za, zb, zc, zd, ze, zf, zg, zh, zi, zj, zk, zl, zm, zn, zo, zp, reduceCtorEq, zE, ↓reduceIte]
              exact j10_65_t all4_0 all4_1 i5 h0_0 h0_1 h0_2 h0_3 h0_4 h0_5 h0_6 h0_7 h0_8 h0_9 true h1_1 h1_2 h1_3 h1_4 h1_5 h1_6 h1_7 h1_8 h1_9 _ (by rfl) (by rfl) (by rfl) (by rfl)
            · simp -implicitDefEqProofs only [c10_36_e, c10_37_r, (show opsOf c10_37 = _ :: _ from rfl), (show c10_38 = Code.cond _ c10_39 c10_40 from rfl), yc3, yc4, yd5, yc6, yc8, yc9, yc11, setA, setB, za, zb, zc, zd, ze, zf, zg, zh, zi, zj, zk, zl, zm, zn, zo, zp, reduceCtorEq, zE, ↓reduceIte]
              refine brB (fun yc12 => ?_) (fun yc12 => ?_)
              · simp -implicitDefEqProofs only [c10_39_r, (show opsOf c10_39 = _ :: _ from rfl), Tryd.underlying24, sz4, yc3, yc4, yd5, yc6, yc8, yc9, yc11, yc12, setA, setB, za, zb, zc, zd, ze, zf, zg, zh, zi, zj, zk, zl, zm, zn, zo, zp, reduceCtorEq, zE, ↓reduceIte]
                exact j10_65_t all4_0 all4_1 i5 h0_0 h0_1 h0_2 h0_3 h0_4 h0_5 h0_6 h0_7 h0_8 h0_9 h1_0 true h1_2 h1_3 h1_4 h1_5 h1_6 h1_7 h1_8 h1_9 _ (by rfl) (by rfl) (by rfl) (by rfl)
              · simp -implicitDefEqProofs only [c10_40_e, c10_41_r, (show opsOf c10_41 = _ :: _ from rfl), (show c10_42 = Code.cond _ c10_43 c10_44 from rfl), yc3, yc4, yd5, yc6, yc8, yc9, yc11, yc12, setA, setB, za, zb, zc, zd, ze, zf, zg, zh, zi, zj, zk, zl, zm, zn, zo, zp, reduceCtorEq, zE, ↓reduceIte]
                refine brB (fun yc13 => ?_) (fun yc13 => ?_)
                · simp -implicitDefEqProofs only [c10_43_r, (show opsOf c10_43 = _ :: _ from rfl), Tryd.underlying24, sz4, yc3, yc4, yd5, yc6, yc8, yc9, yc11, yc12, yc13, setA, setB, za, zb, zc, zd, ze, zf, zg, zh, zi, zj, zk, zl, zm, zn, zo, zp, reduceCtorEq, zE, ↓reduceIte]
                  exact j10_65_t all4_0 all4_1 i5 h0_0 h0_1 h0_2 h0_3 h0_4 h0_5 h0_6 h0_7 h0_8 h0_9 h1_0 h1_1 true h1_3 h1_4 h1_5 h1_6 h1_7 h1_8 h1_9 _ (by rfl) (by rfl) (by rfl) (by rfl)
                · simp -implicitDefEqProofs only [c10_44_e, c10_45_r, (show opsOf c10_45 = _ :: _ from rfl), (show c10_46 = Code.cond _ c10_47 c10_48 from rfl), yc3, yc4, yd5, yc6, yc8, yc9, yc11, yc12, yc13, setA, setB, za, zb, zc, zd, ze, zf, zg, zh, zi, zj, zk, zl, zm, zn, zo, zp, reduceCtorEq, zE, ↓reduceIte]
                  refine brB (fun yc14 => ?_) (fun yc14 => ?_)
                  · simp -implicitDefEqProofs only [c10_47_r, (show opsOf c10_47 = _ :: _ from rfl), Tryd.underlying24, sz4, yc3, yc4, yd5, yc6, yc8, yc9, yc11, yc12, yc13, yc14, setA, setB, za, zb, zc, zd, ze, zf, zg, zh, zi, zj, zk, zl, zm, zn, zo, zp, reduceCtorEq, zE, ↓reduceIte]
                    exact j10_65_t all4_0 all4_1 i5 h0_0 h0_1 h0_2 h0_3 h0_4 h0_5 h0_6 h0_7 h0_8 h0_9 h1_0 h1_1 h1_2 true h1_4 h1_5 h1_6 h1_7 h1_8 h1_9 _ (by rfl) (by rfl) (by rfl) (by rfl)
                  · simp -implicitDefEqProofs only [c10_48_e, c10_49_e, c10_50_r, (show opsOf c10_50 = _ :: _ from rfl), (show c10_51 = Code.cond _ c10_52 c10_53 from rfl), yc3, yc4, yd5, yc6, yc8, yc9, yc11, yc12, yc13, yc14, setA, setB, za, zb, zc, zd, ze, zf, zg, zh, zi, zj, zk, zl, zm, zn, zo, zp, reduceCtorEq, zE, ↓reduceIte]
                    refine brB (fun yc15 => ?_) (fun yc15 => ?_)
                    · simp -implicitDefEqProofs only [c10_52_e, yc3, yc4, yd5, yc6, yc8, yc9, yc11, yc12, yc13, yc14, yc15, setA, setB, za, zb, zc, zd, ze, zf, zg, zh, zi, zj, zk, zl, zm, zn, zo, zp, reduceCtorEq, zE, ↓reduceIte]
                      exact j10_54_t all4_0 all4_1 i5 yr10 yr7.1 true h0_0 h0_1 h0_2 h0_3 h0_4 h0_5 h0_6 h0_7 h0_8 h0_9 h1_0 h1_1 h1_2 h1_3 h1_4 h1_5 h1_6 h1_7 h1_8 h1_9 _ (by rfl) (by rfl) (by rfl) (by rfl) (by rfl) (by rfl) (by rfl)
                    · simp -implicitDefEqProofs only [c10_53_r, (show opsOf c10_53 = _ :: _ from rfl), yc3, yc4, yd5, yc6, yc8, yc9, yc11, yc12, yc13, yc14, yc15, setA, setB, za, zb, zc, zd, ze, zf, zg, zh, zi, zj, zk, zl, zm, zn, zo, zp, reduceCtorEq, zE, ↓reduceIte]
                      exact j10_54_t all4_0 all4_1 i5 yr10 yr7.1 (yr7.1 == ([112, 114, 111, 120, 121, 45, 114, 101, 118, 97, 108, 105, 100, 97, 116, 101] : Bs)) h0_0 h0_1 h0_2 h0_3 h0_4 h0_5 h0_6 h0_7 h0_8 h0_9 h1_0 h1_1 h1_2 h1_3 h1_4 h1_5 h1_6 h1_7 h1_8 h1_9 _ (by rfl) (by rfl) (by rfl) (by rfl) (by rfl) (by rfl) (by rfl)
        · simp -implicitDefEqProofs only [c10_25_e, yc3, yc4, yd5, yc6, yc8, setA, setB, za, zb, zc, zd, ze, zf, zg, zh, zi, zj, zk, zl, zm, zn, zo, zp, reduceCtorEq, zE, ↓reduceIte]
          exact j10_65_t all4_0 all4_1 i5 h0_0 h0_1 h0_2 h0_3 h0_4 h0_5 h0_6 h0_7 h0_8 h0_9 h1_0 h1_1 h1_2 h1_3 h1_4 h1_5 h1_6 h1_7 h1_8 h1_9 _ (by rfl) (by rfl) (by rfl) (by rfl)
    · rw [if_neg yc4]; rfl
  · simp -implicitDefEqProofs only [c10_16_e, K10_10, yc3, setA, setB, za, zb, zc, zd, ze, zf, zg, zh, zi, zj, zk, zl, zm, zn, zo, zp, reduceCtorEq, zE, ↓reduceIte]
    exact mi (j10_66_t h0_0 h0_1 h0_2 h0_3 h0_4 h0_5 h0_6 h0_7 h0_8 h0_9 h1_0 h1_1 h1_2 h1_3 h1_4 h1_5 h1_6 h1_7 h1_8 h1_9 _ _ (by rfl) (by rfl))
def l10_10 (all4_0 : Bool) (all4_1 : List Bs) (i5 : Int) (h0_0 h0_1 : Bool) (h0_2 h0_3 : Bool) (h0_4 h0_5 : Bool) (h0_6 h0_7 : Int) (h0_8 h0_9 : Int) (h1_0 h1_1 : Bool) (h1_2 h1_3 : Bool) (h1_4 h1_5 : Bool) (h1_6 h1_7 : Int) (h1_8 h1_9 : Int) : Option R10 := iter (fun x : (Bool × List Bs × Int × Bool × Bool × Bool × Bool × Bool × Bool × Int × Int × Int × Int × Bool × Bool × Bool × Bool × Bool × Bool × Int × Int × Int × Int) => s10_10 x.1 x.2.1 x.2.2.1 x.2.2.2.1 x.2.2.2.2.1 x.2.2.2.2.2.1 x.2.2.2.2.2.2.1 x.2.2.2.2.2.2.2.1 x.2.2.2.2.2.2.2.2.1 x.2.2.2.2.2.2.2.2.2.1 x.2.2.2.2.2.2.2.2.2.2.1 x.2.2.2.2.2.2.2.2.2.2.2.1 x.2.2.2.2.2.2.2.2.2.2.2.2.1 x.2.2.2.2.2.2.2.2.2.2.2.2.2.1 x.2.2.2.2.2.2.2.2.2.2.2.2.2.2.1 x.2.2.2.2.2.2.2.2.2.2.2.2.2.2.2.1 x.2.2.2.2.2.2.2.2.2.2.2.2.2.2.2.2.1 x.2.2.2.2.2.2.2.2.2.2.2.2.2.2.2.2.2.1 x.2.2.2.2.2.2.2.2.2.2.2.2.2.2.2.2.2.2.1 x.2.2.2.2.2.2.2.2.2.2.2.2.2.2.2.2.2.2.2.1 x.2.2.2.2.2.2.2.2.2.2.2.2.2.2.2.2.2.2.2.2.1 x.2.2.2.2.2.2.2.2.2.2.2.2.2.2.2.2.2.2.2.2.2.1 x.2.2.2.2.2.2.2.2.2.2.2.2.2.2.2.2.2.2.2.2.2.2) (all4_0, all4_1, i5, h0_0, h0_1, h0_2, h0_3, h0_4, h0_5, h0_6, h0_7, h0_8, h0_9, h1_0, h1_1, h1_2, h1_3, h1_4, h1_5, h1_6, h1_7, h1_8, h1_9)
theorem l10_10_t (all4_0 : Bool) (all4_1 : List Bs) (i5 : Int) (h0_0 h0_1 : Bool) (h0_2 h0_3 : Bool) (h0_4 h0_5 : Bool) (h0_6 h0_7 : Int) (h0_8 h0_9 : Int) (h1_0 h1_1 : Bool) (h1_2 h1_3 : Bool) (h1_4 h1_5 : Bool) (h1_6 h1_7 : Int) (h1_8 h1_9 : Int) : bodyD (E0 mm) [.cell 2 24] 0 false (seqD (E0 mm) 10 0 (callW (E0 mm)) itW c10_66 (blockD 0 (itW (loopF (E0 mm) 10 0 (callW (E0 mm)) itW c10_11 [(2, .keep), (3, .keep), (4, .keep), (5, .keep)]) (none, [.v (.c (.ptr 0 0)), .v (.c (.ptr 1 0)), .v (.c (.own all4_0 (enL enS all4_1) 2)), .v (.c (.d (.sc (.int .i64 i5))))], [.cells [.d (.sc (.bool h0_0)), .d (.sc (.bool h0_1)), .d (.sc (.bool h0_2)), .d (.sc (.bool h0_3)), .d (.sc (.bool h0_4)), .d (.sc (.bool h0_5)), .d (.sc (.int .i64 h0_6)), .d (.sc (.int .i64 h0_7)), .d (.sc (.int .i64 h0_8)), .d (.sc (.int .i64 h0_9))], .cells [.d (.sc (.bool h1_0)), .d (.sc (.bool h1_1)), .d (.sc (.bool h1_2)), .d (.sc (.bool h1_3)), .d (.sc (.bool h1_4)), .d (.sc (.bool h1_5)), .d (.sc (.int .i64 h1_6)), .d (.sc (.int .i64 h1_7)), .d (.sc (.int .i64 h1_8)), .d (.sc (.int .i64 h1_9))], .row all4_1.length (rz all4_0 1)])))) = (l10_10 all4_0 all4_1 i5 h0_0 h0_1 h0_2 h0_3 h0_4 h0_5 h0_6 h0_7 h0_8 h0_9 h1_0 h1_1 h1_2 h1_3 h1_4 h1_5 h1_6 h1_7 h1_8 h1_9).map e10 :=
  it_sim (K := (K10_10 (mm := mm))) rfl (enc := en10_10) (fun x => s10_10_t x.1 x.2.1 x.2.2.1 x.2.2.2.1 x.2.2.2.2.1 x.2.2.2.2.2.1 x.2.2.2.2.2.2.1 x.2.2.2.2.2.2.2.1 x.2.2.2.2.2.2.2.2.1 x.2.2.2.2.2.2.2.2.2.1 x.2.2.2.2.2.2.2.2.2.2.1 x.2.2.2.2.2.2.2.2.2.2.2.1 x.2.2.2.2.2.2.2.2.2.2.2.2.1 x.2.2.2.2.2.2.2.2.2.2.2.2.2.1 x.2.2.2.2.2.2.2.2.2.2.2.2.2.2.1 x.2.2.2.2.2.2.2.2.2.2.2.2.2.2.2.1 x.2.2.2.2.2.2.2.2.2.2.2.2.2.2.2.2.1 x.2.2.2.2.2.2.2.2.2.2.2.2.2.2.2.2.2.1 x.2.2.2.2.2.2.2.2.2.2.2.2.2.2.2.2.2.2.1 x.2.2.2.2.2.2.2.2.2.2.2.2.2.2.2.2.2.2.2.1 x.2.2.2.2.2.2.2.2.2.2.2.2.2.2.2.2.2.2.2.2.1 x.2.2.2.2.2.2.2.2.2.2.2.2.2.2.2.2.2.2.2.2.2.1 x.2.2.2.2.2.2.2.2.2.2.2.2.2.2.2.2.2.2.2.2.2.2) (all4_0, all4_1, i5, h0_0, h0_1, h0_2, h0_3, h0_4, h0_5, h0_6, h0_7, h0_8, h0_9, h1_0, h1_1, h1_2, h1_3, h1_4, h1_5, h1_6, h1_7, h1_8, h1_9)
def m10 (l_0 : Bool) (l_1 : List (Bs × Bs)) : Option R10 :=
  (m27 l_0 l_1 ([99, 97, 99, 104, 101, 45, 99, 111, 110, 116, 114, 111, 108] : Bs)).bind fun yr2 =>
    l10_10 yr2.1 yr2.2 (0 : Int) false false false false false false (0 : Int) (0 : Int) (0 : Int) (0 : Int) false false false false false false (-1 : Int) (-1 : Int) (-1 : Int) (-1 : Int)
theorem f10_t (l_0 : Bool) (l_1 : List (Bs × Bs)) :
    callW (E0 mm) 10 [.c (.d (.lst l_0 (enL enSS l_1)))] [] = (m10 l_0 l_1).map e10 := by
  rw [callW_run (body := c10_0) (res := [.cell 2 24]) Tryd.func10 rfl rfl (by kernel_rfl)]
  simp -implicitDefEqProofs only [m10, slots1, c10_0_e, c10_1_r, (show opsOf c10_1 = _ :: _ from rfl), zc24, ao60, c10_2_e, c10_3_r, (show opsOf c10_3 = _ :: _ from rfl), Tryd.underlying24, sz4, sz3, ao61, sz24, c10_4_e, c10_5_r, (show opsOf c10_5 = _ :: _ from rfl), ent27, prm27, (show callW (E0 mm) 27 [.c (.d (.lst l_0 (enL enSS l_1))), .c (.d (.sc (.string (S ([99, 97, 99, 104, 101, 45, 99, 111, 110, 116, 114, 111, 108] : Bs)))))] [] = _ from f27_t l_0 l_1 ([99, 97, 99, 104, 101, 45, 99, 111, 110, 116, 114, 111, 108] : Bs)), setA, setB, za, zb, zc, zd, ze, zf, zg, zh, zi, zj, zk, zl, zm, zn, zo, zp, reduceCtorEq, zE, ↓reduceIte]
  refine brM (fun yc1 => ?_) (fun yr2 yc1 => ?_)
  · rw [yc1]; rfl
  · simp -implicitDefEqProofs only [e27, c10_6_e, c10_7_e, c10_8_r, (show opsOf c10_8 = _ :: _ from rfl), c10_9_e, c10_10_l, yc1, setA, setB, za, zb, zc, zd, ze, zf, zg, zh, zi, zj, zk, zl, zm, zn, zo, zp, reduceCtorEq, zE, ↓reduceIte]
    exact l10_10_t yr2.1 yr2.2 (0 : Int) false false false false false false (0 : Int) (0 : Int) (0 : Int) (0 : Int) false false false false false false (-1 : Int) (-1 : Int) (-1 : Int) (-1 : Int)
noncomputable def c11_0 : Code := bodyOf Tryd.f11
def c11_1 := cA c11_0
def c11_2 := cB c11_0
def c11_3 := cA c11_2
def c11_4 := cA c11_3
def c11_5 := cB c11_3
def c11_6 := cA c11_5
def c11_7 := cA c11_6
def c11_8 := cB c11_6
def c11_9 := cB c11_5
def c11_10 := cB c11_2
def c11_11 := cA c11_10
def c11_12 := cA c11_11
def c11_13 := cB c11_11
def c11_14 := cA c11_13
def c11_15 := cA c11_14
def c11_16 := cA c11_15
def c11_17 := cA c11_16
def c11_18 := cB c11_16
def c11_19 := cA c11_18
def c11_20 := cB c11_18
def c11_21 := cB c11_15
def c11_22 := cA c11_21
def c11_23 := cA c11_22
def c11_24 := cA c11_23
def c11_25 := cB c11_23
def c11_26 := cA c11_25
def c11_27 := cA c11_26
def c11_28 := cB c11_26
def c11_29 := cB c11_25
def c11_30 := cB c11_21
def c11_31 := cB c11_10
def c11_32 := cA c11_31
def c11_33 := cB c11_31
theorem c11_0_e : c11_0 = .seq c11_1 c11_2 := rfl
theorem c11_1_r : RG (E0 mm) 11 c11_1 := rgN rfl
theorem c11_2_e : c11_2 = .seq c11_3 c11_10 := rfl
theorem c11_3_e : c11_3 = .seq c11_4 c11_5 := rfl
theorem c11_4_r : RG (E0 mm) 11 c11_4 := rgN rfl
theorem c11_6_e : c11_6 = .seq c11_7 c11_8 := rfl
theorem c11_7_r : RG (E0 mm) 11 c11_7 := rgN rfl
theorem c11_8_e : c11_8 = .ret := rfl
theorem c11_9_e : c11_9 = .skip := rfl
theorem c11_10_e : c11_10 = .seq c11_11 c11_31 := rfl
theorem c11_11_e : c11_11 = .seq c11_12 c11_13 := rfl
theorem c11_12_r : RG (E0 mm) 11 c11_12 := rgN rfl
theorem c11_13_e : c11_13 = .block 0 c11_14 := rfl
theorem c11_14_l (m : Nat) (st : St) : den (E0 mm) 11 m (callW (E0 mm)) itW c11_14 none st = loopD itW (loopF (E0 mm) 11 m (callW (E0 mm)) itW c11_15 [(0, .keep), (1, .keep), (5, .keep)]) (canon m [(0, .keep), (1, .keep), (5, .keep)] st) := rfl
theorem c11_15_e : c11_15 = .seq c11_16 c11_21 := rfl
theorem c11_16_e : c11_16 = .seq c11_17 c11_18 := rfl
theorem c11_17_r : RG (E0 mm) 11 c11_17 := rgN rfl
theorem c11_19_e : c11_19 = .skip := rfl
theorem c11_20_e : c11_20 = .exit 0 := rfl
theorem c11_21_e : c11_21 = .seq c11_22 c11_30 := rfl
theorem c11_22_e : c11_22 = .block 1 c11_23 := rfl
theorem c11_23_e : c11_23 = .seq c11_24 c11_25 := rfl
theorem c11_24_r : RG (E0 mm) 11 c11_24 := rgD (by kernel_rfl)
theorem c11_26_e : c11_26 = .seq c11_27 c11_28 := rfl
theorem c11_27_r : RG (E0 mm) 11 c11_27 := rgN rfl
theorem c11_28_e : c11_28 = .ret := rfl
theorem c11_29_e : c11_29 = .skip := rfl
theorem c11_30_r : RG (E0 mm) 11 c11_30 := rgN rfl
theorem c11_31_e : c11_31 = .seq c11_32 c11_33 := rfl
theorem c11_32_r : RG (E0 mm) 11 c11_32 := rgN rfl
theorem c11_33_e : c11_33 = .ret := rfl
abbrev R11 := (Bool)
def e11 : R11 → AV × Heap := fun x => (.v (.c (.d (.sc (.bool x)))), [])
def K11_14 : Option (Ex × St) → Option (AV × Heap) := fun r => bodyD (E0 mm) [.tmp 4] 0 false (seqD (E0 mm) 11 0 (callW (E0 mm)) itW c11_31 (blockD 0 (r)))
def en11_14 : (Bool × List (Bs × Bs) × Bool × List (Bs × Bs) × Int) → X := fun x => (none, [.v (.c (.d (.lst x.1 (enL enSS x.2.1)))), .v (.c (.d (.lst x.2.2.1 (enL enSS x.2.2.2.1)))), .v (.c (.d (.sc (.int .i64 x.2.2.2.2))))], [])
def j11_31  : Option R11 :=
  some true
theorem j11_31_t   (sl : Nat → AV)  :
    bodyD (E0 mm) [.tmp 4] 0 false (den (E0 mm) 11 0 (callW (E0 mm)) itW c11_31 none ⟨sl, []⟩) = (j11_31).map e11 := by
  simp -implicitDefEqProofs only [j11_31, c11_31_e, c11_32_r, (show opsOf c11_32 = _ :: _ from rfl), c11_33_e, setA, setB, za, zb, zc, zd, ze, zf, zg, zh, zi, zj, zk, zl, zm, zn, zo, zp, reduceCtorEq, zE, ↓reduceIte]
  all_goals rfl
def s11_14 (a0_0 : Bool) (a0_1 : List (Bs × Bs)) (b1_0 : Bool) (b1_1 : List (Bs × Bs)) (i5 : Int) : Option ((Bool × List (Bs × Bs) × Bool × List (Bs × Bs) × Int) ⊕ R11) :=
  if (decide (i5 < (a0_1.length : Int))) = true then
    if 0 ≤ i5 ∧ i5 < (a0_1.length : Int) then
      if 0 ≤ i5 ∧ i5 < (b1_1.length : Int) then
        if (((a0_1.getD i5.toNat default).1 == (b1_1.getD i5.toNat default).1) && ((a0_1.getD i5.toNat default).2 == (b1_1.getD i5.toNat default).2)) = true then
          some (.inl (a0_0, a0_1, b1_0, b1_1, (w64 (i5 + 1))))
        else
          some (.inr false)
      else none
    else none
  else
    (j11_31).map .inr
theorem s11_14_t (a0_0 : Bool) (a0_1 : List (Bs × Bs)) (b1_0 : Bool) (b1_1 : List (Bs × Bs)) (i5 : Int) :
    stepE (K11_14 (mm := mm)) (loopF (E0 mm) 11 0 (callW (E0 mm)) itW c11_15 [(0, .keep), (1, .keep), (5, .keep)] (none, [.v (.c (.d (.lst a0_0 (enL enSS a0_1)))), .v (.c (.d (.lst b1_0 (enL enSS b1_1)))), .v (.c (.d (.sc (.int .i64 i5))))], [])) = (s11_14 a0_0 a0_1 b1_0 b1_1 i5).map (sm en11_14 e11) := by
  simp -implicitDefEqProofs only [s11_14, loopF_eq, c11_15_e, c11_16_e, c11_17_r, (show opsOf c11_17 = _ :: _ from rfl), Tryd.underlying22, (show c11_18 = Code.cond _ c11_19 c11_20 from rfl), setA, setB, za, zb, zc, zd, ze, zf, zg, zh, zi, zj, zk, zl, zm, zn, zo, zp, reduceCtorEq, zE, ↓reduceIte]
  refine brB (fun yc2 => ?_) (fun yc2 => ?_)
  · simp -implicitDefEqProofs only [c11_19_e, c11_21_e, c11_22_e, c11_23_e, c11_24_r, (show opsOf c11_24 = _ :: _ from rfl), Tryd.underlying22, sz33, enSS_a, yc2, setA, setB, za, zb, zc, zd, ze, zf, zg, zh, zi, zj, zk, zl, zm, zn, zo, zp, reduceCtorEq, zE, ↓reduceIte]
    refine brP (fun yc3 => ?_) (fun yc3 => ?_)
    · have yd4 : i5.toNat < a0_1.length := by omega
      simp -implicitDefEqProofs only [(enL_get enSS a0_1 i5.toNat yd4), enSS_e, sz33, ag33, Tryd.underlying22, enSS_a, yc2, yc3, yd4, setA, setB, za, zb, zc, zd, ze, zf, zg, zh, zi, zj, zk, zl, zm, zn, zo, zp, reduceCtorEq, zE, ↓reduceIte]
      refine brP (fun yc5 => ?_) (fun yc5 => ?_)
      · have yd6 : i5.toNat < b1_1.length := by omega
        simp -implicitDefEqProofs only [(enL_get enSS b1_1 i5.toNat yd6), enSS_e, sz33, ag33, eqs33n, toV_agg, (show c11_25 = Code.cond _ c11_26 c11_29 from rfl), yc2, yc3, yd4, yc5, yd6, setA, setB, za, zb, zc, zd, ze, zf, zg, zh, zi, zj, zk, zl, zm, zn, zo, zp, reduceCtorEq, zE, ↓reduceIte]
        refine brB (fun yc7 => ?_) (fun yc7 => ?_)
        · simp -implicitDefEqProofs only [c11_29_e, c11_30_r, (show opsOf c11_30 = _ :: _ from rfl), yc2, yc3, yd4, yc5, yd6, yc7, setA, setB, za, zb, zc, zd, ze, zf, zg, zh, zi, zj, zk, zl, zm, zn, zo, zp, reduceCtorEq, zE, ↓reduceIte]
          all_goals rfl
        · simp -implicitDefEqProofs only [c11_26_e, c11_27_r, (show opsOf c11_27 = _ :: _ from rfl), c11_28_e, K11_14, yc2, yc3, yd4, yc5, yd6, yc7, setA, setB, za, zb, zc, zd, ze, zf, zg, zh, zi, zj, zk, zl, zm, zn, zo, zp, reduceCtorEq, zE, ↓reduceIte]
          all_goals rfl
      · rw [if_neg yc5]; rfl
    · rw [if_neg yc3]; rfl
  · simp -implicitDefEqProofs only [c11_20_e, K11_14, yc2, setA, setB, za, zb, zc, zd, ze, zf, zg, zh, zi, zj, zk, zl, zm, zn, zo, zp, reduceCtorEq, zE, ↓reduceIte]
    exact mi (j11_31_t _)
def l11_14 (a0_0 : Bool) (a0_1 : List (Bs × Bs)) (b1_0 : Bool) (b1_1 : List (Bs × Bs)) (i5 : Int) : Option R11 := iter (fun x : (Bool × List (Bs × Bs) × Bool × List (Bs × Bs) × Int) => s11_14 x.1 x.2.1 x.2.2.1 x.2.2.2.1 x.2.2.2.2) (a0_0, a0_1, b1_0, b1_1, i5)
theorem l11_14_t (a0_0 : Bool) (a0_1 : List (Bs × Bs)) (b1_0 : Bool) (b1_1 : List (Bs × Bs)) (i5 : Int) : bodyD (E0 mm) [.tmp 4] 0 false (seqD (E0 mm) 11 0 (callW (E0 mm)) itW c11_31 (blockD 0 (itW (loopF (E0 mm) 11 0 (callW (E0 mm)) itW c11_15 [(0, .keep), (1, .keep), (5, .keep)]) (none, [.v (.c (.d (.lst a0_0 (enL enSS a0_1)))), .v (.c (.d (.lst b1_0 (enL enSS b1_1)))), .v (.c (.d (.sc (.int .i64 i5))))], [])))) = (l11_14 a0_0 a0_1 b1_0 b1_1 i5).map e11 :=
  it_sim (K := (K11_14 (mm := mm))) rfl (enc := en11_14) (fun x => s11_14_t x.1 x.2.1 x.2.2.1 x.2.2.2.1 x.2.2.2.2) (a0_0, a0_1, b1_0, b1_1, i5)
def m11 (a_0 : Bool) (a_1 : List (Bs × Bs)) (b_0 : Bool) (b_1 : List (Bs × Bs)) : Option R11 :=
  if ((a_1.length : Int) == (b_1.length : Int)) = true then
    l11_14 a_0 a_1 b_0 b_1 (0 : Int)
  else
    some false
theorem f11_t (a_0 : Bool) (a_1 : List (Bs × Bs)) (b_0 : Bool) (b_1 : List (Bs × Bs)) :
    callW (E0 mm) 11 [.c (.d (.lst a_0 (enL enSS a_1))), .c (.d (.lst b_0 (enL enSS b_1)))] [] = (m11 a_0 a_1 b_0 b_1).map e11 := by
  rw [callW_run (body := c11_0) (res := [.tmp 4]) Tryd.func11 rfl rfl (by kernel_rfl)]
  simp -implicitDefEqProofs only [m11, slots2, c11_0_e, c11_1_r, (show opsOf c11_1 = _ :: _ from rfl), c11_2_e, c11_3_e, c11_4_r, (show opsOf c11_4 = _ :: _ from rfl), Tryd.underlying22, (show c11_5 = Code.cond _ c11_6 c11_9 from rfl), setA, setB, za, zb, zc, zd, ze, zf, zg, zh, zi, zj, zk, zl, zm, zn, zo, zp, reduceCtorEq, zE, ↓reduceIte]
  refine brB (fun yc1 => ?_) (fun yc1 => ?_)
  · simp -implicitDefEqProofs only [c11_9_e, c11_10_e, c11_11_e, c11_12_r, (show opsOf c11_12 = _ :: _ from rfl), c11_13_e, c11_14_l, yc1, setA, setB, za, zb, zc, zd, ze, zf, zg, zh, zi, zj, zk, zl, zm, zn, zo, zp, reduceCtorEq, zE, ↓reduceIte]
    exact l11_14_t a_0 a_1 b_0 b_1 (0 : Int)
  · simp -implicitDefEqProofs only [c11_6_e, c11_7_r, (show opsOf c11_7 = _ :: _ from rfl), c11_8_e, yc1, setA, setB, za, zb, zc, zd, ze, zf, zg, zh, zi, zj, zk, zl, zm, zn, zo, zp, reduceCtorEq, zE, ↓reduceIte]
    all_goals rfl
noncomputable def c3_0 : Code := bodyOf Tryd.f3
def c3_1 := cA c3_0
def c3_2 := cB c3_0
def c3_3 := cA c3_2
def c3_4 := cB c3_2
def c3_5 := cA c3_4
def c3_6 := cB c3_4
theorem c3_0_e : c3_0 = .seq c3_1 c3_2 := rfl
theorem c3_1_r : RG (E0 mm) 3 c3_1 := rgN rfl
theorem c3_2_e : c3_2 = .seq c3_3 c3_4 := rfl
theorem c3_3_r : RG (E0 mm) 3 c3_3 := rgN rfl
theorem c3_4_e : c3_4 = .seq c3_5 c3_6 := rfl
theorem c3_5_r : RG (E0 mm) 3 c3_5 := rgN rfl
theorem c3_6_e : c3_6 = .ret := rfl
abbrev R3 := (Bool)
def e3 : R3 → AV × Heap := fun x => (.v (.c (.d (.sc (.bool x)))), [])
def m3 (l_0 : Bool) (l_1 : List (Bs × Bs)) : Option R3 :=
  if l_1.isEmpty = true then
    (m7 true ([] : List (Bs × Bs))).bind fun yr3 =>
      (m8 l_0 l_1).bind fun yr5 =>
        if ((((((((((yr3.1 == yr5.1) && (yr3.2.1 == yr5.2.1)) && (yr3.2.2.1 == yr5.2.2.1)) && (yr3.2.2.2.1 == yr5.2.2.2.1)) && (yr3.2.2.2.2.1 == yr5.2.2.2.2.1)) && (yr3.2.2.2.2.2.1 == yr5.2.2.2.2.2.1)) && (yr3.2.2.2.2.2.2.1 == yr5.2.2.2.2.2.2.1)) && (yr3.2.2.2.2.2.2.2.1 == yr5.2.2.2.2.2.2.2.1)) && (yr3.2.2.2.2.2.2.2.2.1 == yr5.2.2.2.2.2.2.2.2.1)) && (yr3.2.2.2.2.2.2.2.2.2 == yr5.2.2.2.2.2.2.2.2.2)) = true then
          (m9 true ([] : List (Bs × Bs))).bind fun yr8 =>
            (m10 l_0 l_1).bind fun yr10 =>
              if ((((((((((yr8.1 == yr10.1) && (yr8.2.1 == yr10.2.1)) && (yr8.2.2.1 == yr10.2.2.1)) && (yr8.2.2.2.1 == yr10.2.2.2.1)) && (yr8.2.2.2.2.1 == yr10.2.2.2.2.1)) && (yr8.2.2.2.2.2.1 == yr10.2.2.2.2.2.1)) && (yr8.2.2.2.2.2.2.1 == yr10.2.2.2.2.2.2.1)) && (yr8.2.2.2.2.2.2.2.1 == yr10.2.2.2.2.2.2.2.1)) && (yr8.2.2.2.2.2.2.2.2.1 == yr10.2.2.2.2.2.2.2.2.1)) && (yr8.2.2.2.2.2.2.2.2.2 == yr10.2.2.2.2.2.2.2.2.2)) = true then
                (m11 true ([] : List (Bs × Bs)) l_0 l_1).bind fun yr13 =>
                  if yr13 = true then
                    some true
                  else
                    some false
              else
                some false
        else
          some false
  else
    if l_1.length * 32 ≤ 140737488355328 then
      (m7 false l_1).bind fun yr17 =>
        (m8 l_0 l_1).bind fun yr19 =>
          if ((((((((((yr17.1 == yr19.1) && (yr17.2.1 == yr19.2.1)) && (yr17.2.2.1 == yr19.2.2.1)) && (yr17.2.2.2.1 == yr19.2.2.2.1)) && (yr17.2.2.2.2.1 == yr19.2.2.2.2.1)) && (yr17.2.2.2.2.2.1 == yr19.2.2.2.2.2.1)) && (yr17.2.2.2.2.2.2.1 == yr19.2.2.2.2.2.2.1)) && (yr17.2.2.2.2.2.2.2.1 == yr19.2.2.2.2.2.2.2.1)) && (yr17.2.2.2.2.2.2.2.2.1 == yr19.2.2.2.2.2.2.2.2.1)) && (yr17.2.2.2.2.2.2.2.2.2 == yr19.2.2.2.2.2.2.2.2.2)) = true then
            (m9 false l_1).bind fun yr22 =>
              (m10 l_0 l_1).bind fun yr24 =>
                if ((((((((((yr22.1 == yr24.1) && (yr22.2.1 == yr24.2.1)) && (yr22.2.2.1 == yr24.2.2.1)) && (yr22.2.2.2.1 == yr24.2.2.2.1)) && (yr22.2.2.2.2.1 == yr24.2.2.2.2.1)) && (yr22.2.2.2.2.2.1 == yr24.2.2.2.2.2.1)) && (yr22.2.2.2.2.2.2.1 == yr24.2.2.2.2.2.2.1)) && (yr22.2.2.2.2.2.2.2.1 == yr24.2.2.2.2.2.2.2.1)) && (yr22.2.2.2.2.2.2.2.2.1 == yr24.2.2.2.2.2.2.2.2.1)) && (yr22.2.2.2.2.2.2.2.2.2 == yr24.2.2.2.2.2.2.2.2.2)) = true then
                  (m11 false l_1 l_0 l_1).bind fun yr27 =>
                    if yr27 = true then
                      some true
                    else
                      some false
                else
                  some false
          else
            some false
    else none
theorem f3_t (l_0 : Bool) (l_1 : List (Bs × Bs)) :
    callW (E0 mm) 3 [.c (.d (.lst l_0 (enL enSS l_1)))] [] = (m3 l_0 l_1).map e3 := by
  rw [callW_run (body := c3_0) (res := [.tmp 2]) Tryd.func3 rfl rfl (by kernel_rfl)]
  simp -implicitDefEqProofs only [m3, slots1, c3_0_e, c3_1_r, (show opsOf c3_1 = _ :: _ from rfl), c3_2_e, c3_3_r, (show opsOf c3_3 = _ :: _ from rfl), Tryd.underlying22, hd0, an22, setA, setB, za, zb, zc, zd, ze, zf, zg, zh, zi, zj, zk, zl, zm, zn, zo, zp, reduceCtorEq, zE, ↓reduceIte]
  refine brB (fun yc1 => ?_) (fun yc1 => ?_)
  · simp -implicitDefEqProofs only [c3_4_e, c3_5_r, (show opsOf c3_5 = _ :: _ from rfl), ent7, prm7, (show callW (E0 mm) 7 [.c (.d (.lst true []))] [] = _ from f7_t true ([] : List (Bs × Bs))), yc1, setA, setB, za, zb, zc, zd, ze, zf, zg, zh, zi, zj, zk, zl, zm, zn, zo, zp, reduceCtorEq, zE, ↓reduceIte]
    refine brM (fun yc2 => ?_) (fun yr3 yc2 => ?_)
    · rw [yc2]; rfl
    · simp -implicitDefEqProofs only [e7, ent8, prm8, f8_t, yc1, yc2, setA, setB, za, zb, zc, zd, ze, zf, zg, zh, zi, zj, zk, zl, zm, zn, zo, zp, reduceCtorEq, zE, ↓reduceIte]
      refine brM (fun yc4 => ?_) (fun yr5 yc4 => ?_)
      · rw [yc4]; rfl
      · simp -implicitDefEqProofs only [e8, eqs24e, toV_agg, yc1, yc2, yc4, setA, setB, za, zb, zc, zd, ze, zf, zg, zh, zi, zj, zk, zl, zm, zn, zo, zp, reduceCtorEq, zE, ↓reduceIte]
        refine brB (fun yc6 => ?_) (fun yc6 => ?_)
        · simp -implicitDefEqProofs only [ent9, prm9, (show callW (E0 mm) 9 [.c (.d (.lst true []))] [] = _ from f9_t true ([] : List (Bs × Bs))), yc1, yc2, yc4, yc6, setA, setB, za, zb, zc, zd, ze, zf, zg, zh, zi, zj, zk, zl, zm, zn, zo, zp, reduceCtorEq, zE, ↓reduceIte]
          refine brM (fun yc7 => ?_) (fun yr8 yc7 => ?_)
          · rw [yc7]; rfl
          · simp -implicitDefEqProofs only [e9, ent10, prm10, f10_t, yc1, yc2, yc4, yc6, yc7, setA, setB, za, zb, zc, zd, ze, zf, zg, zh, zi, zj, zk, zl, zm, zn, zo, zp, reduceCtorEq, zE, ↓reduceIte]
            refine brM (fun yc9 => ?_) (fun yr10 yc9 => ?_)
            · rw [yc9]; rfl
            · simp -implicitDefEqProofs only [e10, eqs24e, toV_agg, yc1, yc2, yc4, yc6, yc7, yc9, setA, setB, za, zb, zc, zd, ze, zf, zg, zh, zi, zj, zk, zl, zm, zn, zo, zp, reduceCtorEq, zE, ↓reduceIte]
              refine brB (fun yc11 => ?_) (fun yc11 => ?_)
              · simp -implicitDefEqProofs only [ent11, prm11, (show callW (E0 mm) 11 [.c (.d (.lst true [])), .c (.d (.lst l_0 (enL enSS l_1)))] [] = _ from f11_t true ([] : List (Bs × Bs)) l_0 l_1), yc1, yc2, yc4, yc6, yc7, yc9, yc11, setA, setB, za, zb, zc, zd, ze, zf, zg, zh, zi, zj, zk, zl, zm, zn, zo, zp, reduceCtorEq, zE, ↓reduceIte]
                refine brM (fun yc12 => ?_) (fun yr13 yc12 => ?_)
                · rw [yc12]; rfl
                · simp -implicitDefEqProofs only [e11, yc1, yc2, yc4, yc6, yc7, yc9, yc11, yc12, setA, setB, za, zb, zc, zd, ze, zf, zg, zh, zi, zj, zk, zl, zm, zn, zo, zp, reduceCtorEq, zE, ↓reduceIte]
                  refine brB (fun yc14 => ?_) (fun yc14 => ?_)
                  · simp -implicitDefEqProofs only [ent12, prm12, f12_t, c3_6_e, yc1, yc2, yc4, yc6, yc7, yc9, yc11, yc12, yc14, setA, setB, za, zb, zc, zd, ze, zf, zg, zh, zi, zj, zk, zl, zm, zn, zo, zp, reduceCtorEq, zE, ↓reduceIte]
                    all_goals rfl
                  · simp -implicitDefEqProofs only [c3_6_e, yc1, yc2, yc4, yc6, yc7, yc9, yc11, yc12, yc14, setA, setB, za, zb, zc, zd, ze, zf, zg, zh, zi, zj, zk, zl, zm, zn, zo, zp, reduceCtorEq, zE, ↓reduceIte]
                    all_goals rfl
              · simp -implicitDefEqProofs only [c3_6_e, yc1, yc2, yc4, yc6, yc7, yc9, yc11, setA, setB, za, zb, zc, zd, ze, zf, zg, zh, zi, zj, zk, zl, zm, zn, zo, zp, reduceCtorEq, zE, ↓reduceIte]
                all_goals rfl
        · simp -implicitDefEqProofs only [c3_6_e, yc1, yc2, yc4, yc6, setA, setB, za, zb, zc, zd, ze, zf, zg, zh, zi, zj, zk, zl, zm, zn, zo, zp, reduceCtorEq, zE, ↓reduceIte]
          all_goals rfl
  · simp -implicitDefEqProofs only [yc1, setA, setB, za, zb, zc, zd, ze, zf, zg, zh, zi, zj, zk, zl, zm, zn, zo, zp, reduceCtorEq, zE, ↓reduceIte]
    refine brP (fun yc15 => ?_) (fun yc15 => ?_)
    · simp -implicitDefEqProofs only [c3_4_e, c3_5_r, (show opsOf c3_5 = _ :: _ from rfl), ent7, prm7, (show callW (E0 mm) 7 [.c (.d (.lst false (enL enSS l_1)))] [] = _ from f7_t false l_1), yc1, yc15, setA, setB, za, zb, zc, zd, ze, zf, zg, zh, zi, zj, zk, zl, zm, zn, zo, zp, reduceCtorEq, zE, ↓reduceIte]
      refine brM (fun yc16 => ?_) (fun yr17 yc16 => ?_)
      · rw [yc16]; rfl
      · simp -implicitDefEqProofs only [e7, ent8, prm8, f8_t, yc1, yc15, yc16, setA, setB, za, zb, zc, zd, ze, zf, zg, zh, zi, zj, zk, zl, zm, zn, zo, zp, reduceCtorEq, zE, ↓reduceIte]
        refine brM (fun yc18 => ?_) (fun yr19 yc18 => ?_)
        · rw [yc18]; rfl
        · simp -implicitDefEqProofs only [e8, eqs24e, toV_agg, yc1, yc15, yc16, yc18, setA, setB, za, zb, zc, zd, ze, zf, zg, zh, zi, zj, zk, zl, zm, zn, zo, zp, reduceCtorEq, zE, ↓reduceIte]
          refine brB (fun yc20 => ?_) (fun yc20 => ?_)
          · simp -implicitDefEqProofs only [ent9, prm9, (show callW (E0 mm) 9 [.c (.d (.lst false (enL enSS l_1)))] [] = _ from f9_t false l_1), yc1, yc15, yc16, yc18, yc20, setA, setB, za, zb, zc, zd, ze, zf, zg, zh, zi, zj, zk, zl, zm, zn, zo, zp, reduceCtorEq, zE, ↓reduceIte]
            refine brM (fun yc21 => ?_) (fun yr22 yc21 => ?_)
            · rw [yc21]; rfl
            · simp -implicitDefEqProofs only [e9, ent10, prm10, f10_t, yc1, yc15, yc16, yc18, yc20, yc21, setA, setB, za, zb, zc, zd, ze, zf, zg, zh, zi, zj, zk, zl, zm, zn, zo, zp, reduceCtorEq, zE, ↓reduceIte]
              refine brM (fun yc23 => ?_) (fun yr24 yc23 => ?_)
              · rw [yc23]; rfl
              · simp -implicitDefEqProofs only [e10, eqs24e, toV_agg, yc1, yc15, yc16, yc18, yc20, yc21, yc23, setA, setB, za, zb, zc, zd, ze, zf, zg, zh, zi, zj, zk, zl, zm, zn, zo, zp, reduceCtorEq, zE, ↓reduceIte]
                refine brB (fun yc25 => ?_) (fun yc25 => ?_)
                · simp -implicitDefEqProofs only [ent11, prm11, (show callW (E0 mm) 11 [.c (.d (.lst false (enL enSS l_1))), .c (.d (.lst l_0 (enL enSS l_1)))] [] = _ from f11_t false l_1 l_0 l_1), yc1, yc15, yc16, yc18, yc20, yc21, yc23, yc25, setA, setB, za, zb, zc, zd, ze, zf, zg, zh, zi, zj, zk, zl, zm, zn, zo, zp, reduceCtorEq, zE, ↓reduceIte]
                  refine brM (fun yc26 => ?_) (fun yr27 yc26 => ?_)
                  · rw [yc26]; rfl
                  · simp -implicitDefEqProofs only [e11, yc1, yc15, yc16, yc18, yc20, yc21, yc23, yc25, yc26, setA, setB, za, zb, zc, zd, ze, zf, zg, zh, zi, zj, zk, zl, zm, zn, zo, zp, reduceCtorEq, zE, ↓reduceIte]
                    refine brB (fun yc28 => ?_) (fun yc28 => ?_)
                    · simp -implicitDefEqProofs only [ent12, prm12, f12_t, c3_6_e, yc1, yc15, yc16, yc18, yc20, yc21, yc23, yc25, yc26, yc28, setA, setB, za, zb, zc, zd, ze, zf, zg, zh, zi, zj, zk, zl, zm, zn, zo, zp, reduceCtorEq, zE, ↓reduceIte]
                      all_goals rfl
                    · simp -implicitDefEqProofs only [c3_6_e, yc1, yc15, yc16, yc18, yc20, yc21, yc23, yc25, yc26, yc28, setA, setB, za, zb, zc, zd, ze, zf, zg, zh, zi, zj, zk, zl, zm, zn, zo, zp, reduceCtorEq, zE, ↓reduceIte]
                      all_goals rfl
                · simp -implicitDefEqProofs only [c3_6_e, yc1, yc15, yc16, yc18, yc20, yc21, yc23, yc25, setA, setB, za, zb, zc, zd, ze, zf, zg, zh, zi, zj, zk, zl, zm, zn, zo, zp, reduceCtorEq, zE, ↓reduceIte]
                  all_goals rfl
          · simp -implicitDefEqProofs only [c3_6_e, yc1, yc15, yc16, yc18, yc20, setA, setB, za, zb, zc, zd, ze, zf, zg, zh, zi, zj, zk, zl, zm, zn, zo, zp, reduceCtorEq, zE, ↓reduceIte]
            all_goals rfl
    · rw [if_neg yc15]; rfl
end
end Go.Proofs.YtbdjemdhjanffaaDoor
