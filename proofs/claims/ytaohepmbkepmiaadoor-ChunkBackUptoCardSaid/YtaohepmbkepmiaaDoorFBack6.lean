/- The Go functions as plain functions, and that the evaluator computes them. -/
import Derived.Test.YtaohepmbkepmiaaDoorFBack5
set_option linter.all false
set_option maxRecDepth 100000
namespace Go.Proofs.YtaohepmbkepmiaaDoor
open Go Go.Ab
open Nat renaming reduceEqDiff → za, reduceAdd → zb, reduceLeDiff → zc, reduceLT → zd, reduceMul → ze, reduceBEq → zf, reduceSub → zg, reducePow → zh
open Int renaming reduceEq → zi, reduceLE → zj, reduceLT → zk, reduceToNat → zl, reduceNegSucc → zm, reduceAdd → zn, reduceBEq → zo
open String renaming reduceBEq → zp
set_option maxHeartbeats 4000000
noncomputable section
variable {mm : Int}
noncomputable def c6_0 : Code := bodyOf Tryd.f6
def c6_1 := cA c6_0
def c6_2 := cB c6_0
def c6_3 := cA c6_2
def c6_4 := cB c6_2
def c6_5 := cA c6_4
def c6_6 := cB c6_4
def c6_7 := cA c6_6
def c6_8 := cA c6_7
def c6_9 := cB c6_7
def c6_10 := cA c6_9
def c6_11 := cA c6_10
def c6_12 := cA c6_11
def c6_13 := cB c6_11
def c6_14 := cA c6_13
def c6_15 := cA c6_14
def c6_16 := cB c6_14
def c6_17 := cB c6_13
def c6_18 := cA c6_17
def c6_19 := cA c6_18
def c6_20 := cA c6_19
def c6_21 := cB c6_19
def c6_22 := cB c6_17
def c6_23 := cB c6_6
def c6_24 := cA c6_23
def c6_25 := cA c6_24
def c6_26 := cB c6_24
def c6_27 := cA c6_26
def c6_28 := cA c6_27
def c6_29 := cB c6_27
def c6_30 := cB c6_26
def c6_31 := cB c6_23
def c6_32 := cA c6_31
def c6_33 := cA c6_32
def c6_34 := cB c6_32
def c6_35 := cA c6_34
def c6_36 := cA c6_35
def c6_37 := cB c6_35
def c6_38 := cB c6_34
def c6_39 := cB c6_31
def c6_40 := cA c6_39
def c6_41 := cB c6_39
def c6_42 := cA c6_41
def c6_43 := cB c6_41
def c6_44 := cA c6_43
def c6_45 := cB c6_43
theorem c6_0_e : c6_0 = .seq c6_1 c6_2 := rfl
theorem c6_1_r : RG (E0 mm) 6 c6_1 := rgN rfl
theorem c6_2_e : c6_2 = .seq c6_3 c6_4 := rfl
theorem c6_3_r : RG (E0 mm) 6 c6_3 := rgN rfl
theorem c6_4_e : c6_4 = .seq c6_5 c6_6 := rfl
theorem c6_5_r : RG (E0 mm) 6 c6_5 := rgN rfl
theorem c6_6_e : c6_6 = .seq c6_7 c6_23 := rfl
theorem c6_7_e : c6_7 = .seq c6_8 c6_9 := rfl
theorem c6_8_r : RG (E0 mm) 6 c6_8 := rgN rfl
theorem c6_9_e : c6_9 = .block 0 c6_10 := rfl
theorem c6_10_l (m : Nat) (st : St) : den (E0 mm) 6 m (callW (E0 mm)) itW c6_10 none st = loopD itW (loopF (E0 mm) 6 m (callW (E0 mm)) itW c6_11 [(0, .keep), (1, .keep), (2, .keep), (7, .keep), (8, .keep), (9, .keep), (23, .keep), (24, .keep), (25, .keep)]) (canon m [(0, .keep), (1, .keep), (2, .keep), (7, .keep), (8, .keep), (9, .keep), (23, .keep), (24, .keep), (25, .keep)] st) := rfl
theorem c6_11_e : c6_11 = .seq c6_12 c6_13 := rfl
theorem c6_12_r : RG (E0 mm) 6 c6_12 := rgN rfl
theorem c6_13_e : c6_13 = .seq c6_14 c6_17 := rfl
theorem c6_15_e : c6_15 = .skip := rfl
theorem c6_16_e : c6_16 = .exit 0 := rfl
theorem c6_17_e : c6_17 = .seq c6_18 c6_22 := rfl
theorem c6_18_e : c6_18 = .block 1 c6_19 := rfl
theorem c6_19_e : c6_19 = .seq c6_20 c6_21 := rfl
theorem c6_20_r : RG (E0 mm) 6 c6_20 := rgN rfl
theorem c6_21_r : RG (E0 mm) 6 c6_21 := rgN rfl
theorem c6_22_r : RG (E0 mm) 6 c6_22 := rgN rfl
theorem c6_23_e : c6_23 = .seq c6_24 c6_31 := rfl
theorem c6_24_e : c6_24 = .seq c6_25 c6_26 := rfl
theorem c6_25_r : RG (E0 mm) 6 c6_25 := rgN rfl
theorem c6_27_e : c6_27 = .seq c6_28 c6_29 := rfl
theorem c6_28_r : RG (E0 mm) 6 c6_28 := rgN rfl
theorem c6_29_e : c6_29 = .ret := rfl
theorem c6_30_e : c6_30 = .skip := rfl
theorem c6_31_e : c6_31 = .seq c6_32 c6_39 := rfl
theorem c6_32_e : c6_32 = .seq c6_33 c6_34 := rfl
theorem c6_33_r : RG (E0 mm) 6 c6_33 := rgN rfl
theorem c6_35_e : c6_35 = .seq c6_36 c6_37 := rfl
theorem c6_36_r : RG (E0 mm) 6 c6_36 := rgN rfl
theorem c6_37_e : c6_37 = .ret := rfl
theorem c6_38_e : c6_38 = .skip := rfl
theorem c6_39_e : c6_39 = .seq c6_40 c6_41 := rfl
theorem c6_40_r : RG (E0 mm) 6 c6_40 := rgN rfl
theorem c6_41_e : c6_41 = .seq c6_42 c6_43 := rfl
theorem c6_42_r : RG (E0 mm) 6 c6_42 := rgN rfl
theorem c6_43_e : c6_43 = .seq c6_44 c6_45 := rfl
theorem c6_44_r : RG (E0 mm) 6 c6_44 := rgN rfl
theorem c6_45_e : c6_45 = .ret := rfl
abbrev R6 := (Bool)
def e6 : R6 → AV × Heap := fun x => (.v (.c (.d (.sc (.bool x)))), [])
def K6_10 : Option (Ex × St) → Option (AV × Heap) := fun r => bodyD (E0 mm) [.tmp 6] 0 false (seqD (E0 mm) 6 0 (callW (E0 mm)) itW c6_23 (blockD 0 (r)))
def en6_10 : (Bool × List (Bool × List UInt8) × Bool × List UInt8 × Int × Bool × List UInt8 × Int × Int × Bool × List (Bool × List UInt8) × Int × Int) → X := fun x => (none, [.v (.c (.d (.lst x.1 (enL en0 x.2.1)))), .v (.c (.d (.lst x.2.2.1 (enL enB x.2.2.2.1)))), .v (.c (.d (.sc (.int .u16 x.2.2.2.2.1)))), .v (.c (.d (.lst x.2.2.2.2.2.1 (enL enB x.2.2.2.2.2.2.1)))), .v (.c (.d (.sc (.int .i64 x.2.2.2.2.2.2.2.1)))), .v (.c (.d (.sc (.int .i64 x.2.2.2.2.2.2.2.2.1)))), .v (.c (.d (.lst x.2.2.2.2.2.2.2.2.2.1 (enL en0 x.2.2.2.2.2.2.2.2.2.2.1)))), .v (.c (.d (.sc (.int .i64 x.2.2.2.2.2.2.2.2.2.2.2.1)))), .v (.c (.d (.sc (.int .i64 x.2.2.2.2.2.2.2.2.2.2.2.2))))], [])
def j6_22 (parts0_0 : Bool) (parts0_1 : List (Bool × List UInt8)) (tail1_0 : Bool) (tail1_1 : List UInt8) (cut2 : Int) (b7_0 : Bool) (b7_1 : List UInt8) (e8 total9 : Int) (t23_0 : Bool) (t23_1 : List (Bool × List UInt8)) (t24 t25 : Int) : Option ((Bool × List (Bool × List UInt8) × Bool × List UInt8 × Int × Bool × List UInt8 × Int × Int × Bool × List (Bool × List UInt8) × Int × Int) ⊕ R6) :=
  some (.inl (parts0_0, parts0_1, tail1_0, tail1_1, cut2, b7_0, b7_1, e8, total9, t23_0, t23_1, t24, (w64 (t25 + 1))))
theorem j6_22_t (parts0_0 : Bool) (parts0_1 : List (Bool × List UInt8)) (tail1_0 : Bool) (tail1_1 : List UInt8) (cut2 : Int) (b7_0 : Bool) (b7_1 : List UInt8) (e8 total9 : Int) (t23_0 : Bool) (t23_1 : List (Bool × List UInt8)) (t24 t25 : Int)  (sl : Nat → AV) (zq0 : sl 0 = .v (.c (.d (.lst parts0_0 (enL en0 parts0_1))))) (zq1 : sl 1 = .v (.c (.d (.lst tail1_0 (enL enB tail1_1))))) (zq2 : sl 2 = .v (.c (.d (.sc (.int .u16 cut2))))) (zq7 : sl 7 = .v (.c (.d (.lst b7_0 (enL enB b7_1))))) (zq8 : sl 8 = .v (.c (.d (.sc (.int .i64 e8))))) (zq9 : sl 9 = .v (.c (.d (.sc (.int .i64 total9))))) (zq23 : sl 23 = .v (.c (.d (.lst t23_0 (enL en0 t23_1))))) (zq24 : sl 24 = .v (.c (.d (.sc (.int .i64 t24))))) (zq25 : sl 25 = .v (.c (.d (.sc (.int .i64 t25))))) :
    stepE (K6_10 (mm := mm)) (loopK 0 [(0, .keep), (1, .keep), (2, .keep), (7, .keep), (8, .keep), (9, .keep), (23, .keep), (24, .keep), (25, .keep)] (den (E0 mm) 6 0 (callW (E0 mm)) itW c6_22 none ⟨sl, []⟩)) = (j6_22 parts0_0 parts0_1 tail1_0 tail1_1 cut2 b7_0 b7_1 e8 total9 t23_0 t23_1 t24 t25).map (sm en6_10 e6) := by
  simp -implicitDefEqProofs only [j6_22, c6_22_r, (show opsOf c6_22 = _ :: _ from rfl), zq0, zq1, zq2, zq7, zq8, zq9, zq23, zq24, zq25, setA, setB, za, zb, zc, zd, ze, zf, zg, zh, zi, zj, zk, zl, zm, zn, zo, zp, reduceCtorEq, zE, ↓reduceIte]
  all_goals rfl
def j6_17 (parts0_0 : Bool) (parts0_1 : List (Bool × List UInt8)) (tail1_0 : Bool) (tail1_1 : List UInt8) (cut2 : Int) (b7_0 : Bool) (b7_1 : List UInt8) (e8 total9 : Int) (t23_0 : Bool) (t23_1 : List (Bool × List UInt8)) (t24 t25 : Int) : Option ((Bool × List (Bool × List UInt8) × Bool × List UInt8 × Int × Bool × List UInt8 × Int × Int × Bool × List (Bool × List UInt8) × Int × Int) ⊕ R6) :=
  if 0 ≤ t25 ∧ t25 < (t23_1.length : Int) then
    j6_22 parts0_0 parts0_1 tail1_0 tail1_1 cut2 b7_0 b7_1 e8 (min2 (w64 (total9 + (((t23_1.getD t25.toNat default).2).length : Int))) 4097) t23_0 t23_1 t24 t25
  else none
theorem j6_17_t (parts0_0 : Bool) (parts0_1 : List (Bool × List UInt8)) (tail1_0 : Bool) (tail1_1 : List UInt8) (cut2 : Int) (b7_0 : Bool) (b7_1 : List UInt8) (e8 total9 : Int) (t23_0 : Bool) (t23_1 : List (Bool × List UInt8)) (t24 t25 : Int)  (sl : Nat → AV) (zq0 : sl 0 = .v (.c (.d (.lst parts0_0 (enL en0 parts0_1))))) (zq1 : sl 1 = .v (.c (.d (.lst tail1_0 (enL enB tail1_1))))) (zq2 : sl 2 = .v (.c (.d (.sc (.int .u16 cut2))))) (zq7 : sl 7 = .v (.c (.d (.lst b7_0 (enL enB b7_1))))) (zq8 : sl 8 = .v (.c (.d (.sc (.int .i64 e8))))) (zq9 : sl 9 = .v (.c (.d (.sc (.int .i64 total9))))) (zq23 : sl 23 = .v (.c (.d (.lst t23_0 (enL en0 t23_1))))) (zq24 : sl 24 = .v (.c (.d (.sc (.int .i64 t24))))) (zq25 : sl 25 = .v (.c (.d (.sc (.int .i64 t25))))) :
    stepE (K6_10 (mm := mm)) (loopK 0 [(0, .keep), (1, .keep), (2, .keep), (7, .keep), (8, .keep), (9, .keep), (23, .keep), (24, .keep), (25, .keep)] (den (E0 mm) 6 0 (callW (E0 mm)) itW c6_17 none ⟨sl, []⟩)) = (j6_17 parts0_0 parts0_1 tail1_0 tail1_1 cut2 b7_0 b7_1 e8 total9 t23_0 t23_1 t24 t25).map (sm en6_10 e6) := by
  simp -implicitDefEqProofs only [j6_17, c6_17_e, c6_18_e, c6_19_e, c6_20_r, (show opsOf c6_20 = _ :: _ from rfl), Tryd.underlying31, sz22, en0_a, zq0, zq1, zq2, zq7, zq8, zq9, zq23, zq24, zq25, setA, setB, za, zb, zc, zd, ze, zf, zg, zh, zi, zj, zk, zl, zm, zn, zo, zp, reduceCtorEq, zE, ↓reduceIte]
  refine brP (fun yc6 => ?_) (fun yc6 => ?_)
  · have yd7 : t25.toNat < t23_1.length := by omega
    simp -implicitDefEqProofs only [(enL_get en0 t23_1 t25.toNat yd7), en0_e, sz22, ag22, c6_21_r, (show opsOf c6_21 = _ :: _ from rfl), Tryd.underlying22, Tryd.underlying3, zq0, zq1, zq2, zq7, zq8, zq9, zq23, zq24, zq25, yc6, yd7, setA, setB, za, zb, zc, zd, ze, zf, zg, zh, zi, zj, zk, zl, zm, zn, zo, zp, reduceCtorEq, zE, ↓reduceIte]
    exact j6_22_t parts0_0 parts0_1 tail1_0 tail1_1 cut2 b7_0 b7_1 e8 (min2 (w64 (total9 + (((t23_1.getD t25.toNat default).2).length : Int))) 4097) t23_0 t23_1 t24 t25 _ (by exact zq0) (by exact zq1) (by exact zq2) (by exact zq7) (by exact zq8) (by rfl) (by exact zq23) (by exact zq24) (by exact zq25)
  · rw [if_neg yc6]; rfl
def r6_44_15 : List Oper := (opsOf c6_44).drop 15
def r6_44_21 : List Oper := (opsOf c6_44).drop 21
def r6_44_25 : List Oper := (opsOf c6_44).drop 25
def r6_44_29 : List Oper := (opsOf c6_44).drop 29
def r6_44_34 : List Oper := (opsOf c6_44).drop 34
def j6_44r34 (t109 : Bool) : Option R6 :=
  some t109
theorem j6_44r34_t (t109 : Bool) (g0 : Ob) (sl : Nat → AV) (zq109 : sl 109 = .v (.c (.d (.sc (.bool t109))))) :
    bodyD (E0 mm) [.tmp 6] 0 false (seqD (E0 mm) 6 0 (callW (E0 mm)) itW c6_45 (regD (runOps (E0 mm) (callW (E0 mm)) (opsOf c6_44) r6_44_34 ⟨sl, [g0]⟩))) = (j6_44r34 t109).map e6 := by
  simp -implicitDefEqProofs only [j6_44r34, (show opsOf c6_44 = _ :: _ from rfl), (show r6_44_34 = _ :: _ from rfl), c6_45_e, zq109, setA, setB, za, zb, zc, zd, ze, zf, zg, zh, zi, zj, zk, zl, zm, zn, zo, zp, reduceCtorEq, zE, ↓reduceIte]
  all_goals rfl
def j6_44r29 (y15_0 : Bool) (y15_1 : List UInt8) (t104 : Bool) : Option R6 :=
  if t104 = true then
    j6_44r34 ((y15_1.length : Int) == 0)
  else
    j6_44r34 false
theorem j6_44r29_t (y15_0 : Bool) (y15_1 : List UInt8) (t104 : Bool) (g0 : Ob) (sl : Nat → AV) (zq15 : sl 15 = .v (.c (.d (.lst y15_0 (enL enB y15_1))))) (zq104 : sl 104 = .v (.c (.d (.sc (.bool t104))))) :
    bodyD (E0 mm) [.tmp 6] 0 false (seqD (E0 mm) 6 0 (callW (E0 mm)) itW c6_45 (regD (runOps (E0 mm) (callW (E0 mm)) (opsOf c6_44) r6_44_29 ⟨sl, [g0]⟩))) = (j6_44r29 y15_0 y15_1 t104).map e6 := by
  simp -implicitDefEqProofs only [j6_44r29, (show opsOf c6_44 = _ :: _ from rfl), (show r6_44_29 = _ :: _ :: _ :: _ :: _ :: r6_44_34 from rfl), zq15, zq104, setA, setB, za, zb, zc, zd, ze, zf, zg, zh, zi, zj, zk, zl, zm, zn, zo, zp, reduceCtorEq, zE, ↓reduceIte]
  refine brB (fun yc30 => ?_) (fun yc30 => ?_)
  · simp -implicitDefEqProofs only [Tryd.underlying22, zq15, zq104, yc30, setA, setB, za, zb, zc, zd, ze, zf, zg, zh, zi, zj, zk, zl, zm, zn, zo, zp, reduceCtorEq, zE, ↓reduceIte]
    exact j6_44r34_t ((y15_1.length : Int) == 0) _ _ (by rfl)
  · simp -implicitDefEqProofs only [zq15, zq104, yc30, setA, setB, za, zb, zc, zd, ze, zf, zg, zh, zi, zj, zk, zl, zm, zn, zo, zp, reduceCtorEq, zE, ↓reduceIte]
    exact j6_44r34_t false _ _ (by rfl)
def j6_44r25 (y15_0 : Bool) (y15_1 : List UInt8) (m16 : Int) (t100 : Bool) : Option R6 :=
  if t100 = true then
    j6_44r29 y15_0 y15_1 (m16 == 0)
  else
    j6_44r29 y15_0 y15_1 false
theorem j6_44r25_t (y15_0 : Bool) (y15_1 : List UInt8) (m16 : Int) (t100 : Bool) (g0 : Ob) (sl : Nat → AV) (zq15 : sl 15 = .v (.c (.d (.lst y15_0 (enL enB y15_1))))) (zq16 : sl 16 = .v (.c (.d (.sc (.int .i64 m16))))) (zq100 : sl 100 = .v (.c (.d (.sc (.bool t100))))) :
    bodyD (E0 mm) [.tmp 6] 0 false (seqD (E0 mm) 6 0 (callW (E0 mm)) itW c6_45 (regD (runOps (E0 mm) (callW (E0 mm)) (opsOf c6_44) r6_44_25 ⟨sl, [g0]⟩))) = (j6_44r25 y15_0 y15_1 m16 t100).map e6 := by
  simp -implicitDefEqProofs only [j6_44r25, (show opsOf c6_44 = _ :: _ from rfl), (show r6_44_25 = _ :: _ :: _ :: _ :: r6_44_29 from rfl), zq15, zq16, zq100, setA, setB, za, zb, zc, zd, ze, zf, zg, zh, zi, zj, zk, zl, zm, zn, zo, zp, reduceCtorEq, zE, ↓reduceIte]
  refine brB (fun yc29 => ?_) (fun yc29 => ?_)
  · simp -implicitDefEqProofs only [zq15, zq16, zq100, yc29, setA, setB, za, zb, zc, zd, ze, zf, zg, zh, zi, zj, zk, zl, zm, zn, zo, zp, reduceCtorEq, zE, ↓reduceIte]
    exact j6_44r29_t y15_0 y15_1 (m16 == 0) _ _ (by exact zq15) (by rfl)
  · simp -implicitDefEqProofs only [zq15, zq16, zq100, yc29, setA, setB, za, zb, zc, zd, ze, zf, zg, zh, zi, zj, zk, zl, zm, zn, zo, zp, reduceCtorEq, zE, ↓reduceIte]
    exact j6_44r29_t y15_0 y15_1 false _ _ (by exact zq15) (by rfl)
def j6_44r21 (y15_0 : Bool) (y15_1 : List UInt8) (m16 g17 : Int) (t96 : Bool) : Option R6 :=
  if t96 = true then
    j6_44r25 y15_0 y15_1 m16 (g17 == 8)
  else
    j6_44r25 y15_0 y15_1 m16 false
theorem j6_44r21_t (y15_0 : Bool) (y15_1 : List UInt8) (m16 g17 : Int) (t96 : Bool) (g0 : Ob) (sl : Nat → AV) (zq15 : sl 15 = .v (.c (.d (.lst y15_0 (enL enB y15_1))))) (zq16 : sl 16 = .v (.c (.d (.sc (.int .i64 m16))))) (zq17 : sl 17 = .v (.c (.d (.sc (.int .i64 g17))))) (zq96 : sl 96 = .v (.c (.d (.sc (.bool t96))))) :
    bodyD (E0 mm) [.tmp 6] 0 false (seqD (E0 mm) 6 0 (callW (E0 mm)) itW c6_45 (regD (runOps (E0 mm) (callW (E0 mm)) (opsOf c6_44) r6_44_21 ⟨sl, [g0]⟩))) = (j6_44r21 y15_0 y15_1 m16 g17 t96).map e6 := by
  simp -implicitDefEqProofs only [j6_44r21, (show opsOf c6_44 = _ :: _ from rfl), (show r6_44_21 = _ :: _ :: _ :: _ :: r6_44_25 from rfl), zq15, zq16, zq17, zq96, setA, setB, za, zb, zc, zd, ze, zf, zg, zh, zi, zj, zk, zl, zm, zn, zo, zp, reduceCtorEq, zE, ↓reduceIte]
  refine brB (fun yc28 => ?_) (fun yc28 => ?_)
  · simp -implicitDefEqProofs only [zq15, zq16, zq17, zq96, yc28, setA, setB, za, zb, zc, zd, ze, zf, zg, zh, zi, zj, zk, zl, zm, zn, zo, zp, reduceCtorEq, zE, ↓reduceIte]
    exact j6_44r25_t y15_0 y15_1 m16 (g17 == 8) _ _ (by exact zq15) (by exact zq16) (by rfl)
  · simp -implicitDefEqProofs only [zq15, zq16, zq17, zq96, yc28, setA, setB, za, zb, zc, zd, ze, zf, zg, zh, zi, zj, zk, zl, zm, zn, zo, zp, reduceCtorEq, zE, ↓reduceIte]
    exact j6_44r25_t y15_0 y15_1 m16 false _ _ (by exact zq15) (by exact zq16) (by rfl)
def j6_44r34v1 (t109 : Bool) : Option R6 :=
  some t109
theorem j6_44r34v1_t (t109 : Bool) (g0 g1 : Ob) (sl : Nat → AV) (zq109 : sl 109 = .v (.c (.d (.sc (.bool t109))))) :
    bodyD (E0 mm) [.tmp 6] 0 false (seqD (E0 mm) 6 0 (callW (E0 mm)) itW c6_45 (regD (runOps (E0 mm) (callW (E0 mm)) (opsOf c6_44) r6_44_34 ⟨sl, [g0, g1]⟩))) = (j6_44r34v1 t109).map e6 := by
  simp -implicitDefEqProofs only [j6_44r34v1, (show opsOf c6_44 = _ :: _ from rfl), (show r6_44_34 = _ :: _ from rfl), c6_45_e, zq109, setA, setB, za, zb, zc, zd, ze, zf, zg, zh, zi, zj, zk, zl, zm, zn, zo, zp, reduceCtorEq, zE, ↓reduceIte]
  all_goals rfl
def j6_44r29v1 (y15_0 : Bool) (y15_1 : List UInt8) (t104 : Bool) : Option R6 :=
  if t104 = true then
    j6_44r34v1 ((y15_1.length : Int) == 0)
  else
    j6_44r34v1 false
theorem j6_44r29v1_t (y15_0 : Bool) (y15_1 : List UInt8) (t104 : Bool) (g0 g1 : Ob) (sl : Nat → AV) (zq15 : sl 15 = .v (.c (.d (.lst y15_0 (enL enB y15_1))))) (zq104 : sl 104 = .v (.c (.d (.sc (.bool t104))))) :
    bodyD (E0 mm) [.tmp 6] 0 false (seqD (E0 mm) 6 0 (callW (E0 mm)) itW c6_45 (regD (runOps (E0 mm) (callW (E0 mm)) (opsOf c6_44) r6_44_29 ⟨sl, [g0, g1]⟩))) = (j6_44r29v1 y15_0 y15_1 t104).map e6 := by
  simp -implicitDefEqProofs only [j6_44r29v1, (show opsOf c6_44 = _ :: _ from rfl), (show r6_44_29 = _ :: _ :: _ :: _ :: _ :: r6_44_34 from rfl), zq15, zq104, setA, setB, za, zb, zc, zd, ze, zf, zg, zh, zi, zj, zk, zl, zm, zn, zo, zp, reduceCtorEq, zE, ↓reduceIte]
  refine brB (fun yc35 => ?_) (fun yc35 => ?_)
  · simp -implicitDefEqProofs only [Tryd.underlying22, zq15, zq104, yc35, setA, setB, za, zb, zc, zd, ze, zf, zg, zh, zi, zj, zk, zl, zm, zn, zo, zp, reduceCtorEq, zE, ↓reduceIte]
    exact j6_44r34v1_t ((y15_1.length : Int) == 0) _ _ _ (by rfl)
  · simp -implicitDefEqProofs only [zq15, zq104, yc35, setA, setB, za, zb, zc, zd, ze, zf, zg, zh, zi, zj, zk, zl, zm, zn, zo, zp, reduceCtorEq, zE, ↓reduceIte]
    exact j6_44r34v1_t false _ _ _ (by rfl)
def j6_44r25v1 (y15_0 : Bool) (y15_1 : List UInt8) (m16 : Int) (t100 : Bool) : Option R6 :=
  if t100 = true then
    j6_44r29v1 y15_0 y15_1 (m16 == 0)
  else
    j6_44r29v1 y15_0 y15_1 false
theorem j6_44r25v1_t (y15_0 : Bool) (y15_1 : List UInt8) (m16 : Int) (t100 : Bool) (g0 g1 : Ob) (sl : Nat → AV) (zq15 : sl 15 = .v (.c (.d (.lst y15_0 (enL enB y15_1))))) (zq16 : sl 16 = .v (.c (.d (.sc (.int .i64 m16))))) (zq100 : sl 100 = .v (.c (.d (.sc (.bool t100))))) :
    bodyD (E0 mm) [.tmp 6] 0 false (seqD (E0 mm) 6 0 (callW (E0 mm)) itW c6_45 (regD (runOps (E0 mm) (callW (E0 mm)) (opsOf c6_44) r6_44_25 ⟨sl, [g0, g1]⟩))) = (j6_44r25v1 y15_0 y15_1 m16 t100).map e6 := by
  simp -implicitDefEqProofs only [j6_44r25v1, (show opsOf c6_44 = _ :: _ from rfl), (show r6_44_25 = _ :: _ :: _ :: _ :: r6_44_29 from rfl), zq15, zq16, zq100, setA, setB, za, zb, zc, zd, ze, zf, zg, zh, zi, zj, zk, zl, zm, zn, zo, zp, reduceCtorEq, zE, ↓reduceIte]
  refine brB (fun yc34 => ?_) (fun yc34 => ?_)
  · simp -implicitDefEqProofs only [zq15, zq16, zq100, yc34, setA, setB, za, zb, zc, zd, ze, zf, zg, zh, zi, zj, zk, zl, zm, zn, zo, zp, reduceCtorEq, zE, ↓reduceIte]
    exact j6_44r29v1_t y15_0 y15_1 (m16 == 0) _ _ _ (by exact zq15) (by rfl)
  · simp -implicitDefEqProofs only [zq15, zq16, zq100, yc34, setA, setB, za, zb, zc, zd, ze, zf, zg, zh, zi, zj, zk, zl, zm, zn, zo, zp, reduceCtorEq, zE, ↓reduceIte]
    exact j6_44r29v1_t y15_0 y15_1 false _ _ _ (by exact zq15) (by rfl)
def j6_44r21v1 (y15_0 : Bool) (y15_1 : List UInt8) (m16 g17 : Int) (t96 : Bool) : Option R6 :=
  if t96 = true then
    j6_44r25v1 y15_0 y15_1 m16 (g17 == 8)
  else
    j6_44r25v1 y15_0 y15_1 m16 false
theorem j6_44r21v1_t (y15_0 : Bool) (y15_1 : List UInt8) (m16 g17 : Int) (t96 : Bool) (g0 g1 : Ob) (sl : Nat → AV) (zq15 : sl 15 = .v (.c (.d (.lst y15_0 (enL enB y15_1))))) (zq16 : sl 16 = .v (.c (.d (.sc (.int .i64 m16))))) (zq17 : sl 17 = .v (.c (.d (.sc (.int .i64 g17))))) (zq96 : sl 96 = .v (.c (.d (.sc (.bool t96))))) :
    bodyD (E0 mm) [.tmp 6] 0 false (seqD (E0 mm) 6 0 (callW (E0 mm)) itW c6_45 (regD (runOps (E0 mm) (callW (E0 mm)) (opsOf c6_44) r6_44_21 ⟨sl, [g0, g1]⟩))) = (j6_44r21v1 y15_0 y15_1 m16 g17 t96).map e6 := by
  simp -implicitDefEqProofs only [j6_44r21v1, (show opsOf c6_44 = _ :: _ from rfl), (show r6_44_21 = _ :: _ :: _ :: _ :: r6_44_25 from rfl), zq15, zq16, zq17, zq96, setA, setB, za, zb, zc, zd, ze, zf, zg, zh, zi, zj, zk, zl, zm, zn, zo, zp, reduceCtorEq, zE, ↓reduceIte]
  refine brB (fun yc33 => ?_) (fun yc33 => ?_)
  · simp -implicitDefEqProofs only [zq15, zq16, zq17, zq96, yc33, setA, setB, za, zb, zc, zd, ze, zf, zg, zh, zi, zj, zk, zl, zm, zn, zo, zp, reduceCtorEq, zE, ↓reduceIte]
    exact j6_44r25v1_t y15_0 y15_1 m16 (g17 == 8) _ _ _ (by exact zq15) (by exact zq16) (by rfl)
  · simp -implicitDefEqProofs only [zq15, zq16, zq17, zq96, yc33, setA, setB, za, zb, zc, zd, ze, zf, zg, zh, zi, zj, zk, zl, zm, zn, zo, zp, reduceCtorEq, zE, ↓reduceIte]
    exact j6_44r25v1_t y15_0 y15_1 m16 false _ _ _ (by exact zq15) (by exact zq16) (by rfl)
def j6_44r15 (parts0_0 : Bool) (parts0_1 : List (Bool × List UInt8)) (x12_0 : Bool) (x12_1 : List UInt8) (y15_0 : Bool) (y15_1 : List UInt8) (m16 g17 : Int) (t90 : Bool) : Option R6 :=
  if t90 = true then
    (m14 parts0_0 parts0_1 true ([] : List UInt8)).bind fun yr23 =>
      match yr23 with
      | .inl yr24 =>
        (m10 x12_0 x12_1 yr24.1 yr24.2).bind fun yr27 =>
          j6_44r21 y15_0 y15_1 m16 g17 yr27
      | .inr yr25 =>
        (m10 x12_0 x12_1 yr25.1 yr25.2).bind fun yr32 =>
          j6_44r21v1 y15_0 y15_1 m16 g17 yr32
  else
    j6_44r21 y15_0 y15_1 m16 g17 false
theorem j6_44r15_t (parts0_0 : Bool) (parts0_1 : List (Bool × List UInt8)) (x12_0 : Bool) (x12_1 : List UInt8) (y15_0 : Bool) (y15_1 : List UInt8) (m16 g17 : Int) (t90 : Bool) (g0 : Ob) (sl : Nat → AV) (zq0 : sl 0 = .v (.c (.d (.lst parts0_0 (enL en0 parts0_1))))) (zq12 : sl 12 = .v (.c (.d (.lst x12_0 (enL enB x12_1))))) (zq15 : sl 15 = .v (.c (.d (.lst y15_0 (enL enB y15_1))))) (zq16 : sl 16 = .v (.c (.d (.sc (.int .i64 m16))))) (zq17 : sl 17 = .v (.c (.d (.sc (.int .i64 g17))))) (zq90 : sl 90 = .v (.c (.d (.sc (.bool t90))))) :
    bodyD (E0 mm) [.tmp 6] 0 false (seqD (E0 mm) 6 0 (callW (E0 mm)) itW c6_45 (regD (runOps (E0 mm) (callW (E0 mm)) (opsOf c6_44) r6_44_15 ⟨sl, [g0]⟩))) = (j6_44r15 parts0_0 parts0_1 x12_0 x12_1 y15_0 y15_1 m16 g17 t90).map e6 := by
  simp -implicitDefEqProofs only [j6_44r15, (show opsOf c6_44 = _ :: _ from rfl), (show r6_44_15 = _ :: _ :: _ :: _ :: _ :: _ :: r6_44_21 from rfl), zq0, zq12, zq15, zq16, zq17, zq90, setA, setB, za, zb, zc, zd, ze, zf, zg, zh, zi, zj, zk, zl, zm, zn, zo, zp, reduceCtorEq, zE, ↓reduceIte]
  refine brB (fun yc21 => ?_) (fun yc21 => ?_)
  · simp -implicitDefEqProofs only [ent14, prm14, (show callW (E0 mm) 14 [.c (.d (.lst parts0_0 (enL en0 parts0_1))), .c (.d (.lst true []))] [] = _ from f14_t parts0_0 parts0_1 true ([] : List UInt8)), zq0, zq12, zq15, zq16, zq17, zq90, yc21, setA, setB, za, zb, zc, zd, ze, zf, zg, zh, zi, zj, zk, zl, zm, zn, zo, zp, reduceCtorEq, zE, ↓reduceIte]
    refine brM (fun yc22 => ?_) (fun yr23 yc22 => ?_)
    · rw [yc22]; rfl
    · rcases yr23 with yr24 | yr25
      · simp -implicitDefEqProofs only [e14, ent10, prm10, f10_t, zq0, zq12, zq15, zq16, zq17, zq90, yc21, yc22, setA, setB, za, zb, zc, zd, ze, zf, zg, zh, zi, zj, zk, zl, zm, zn, zo, zp, reduceCtorEq, zE, ↓reduceIte]
        refine brM (fun yc26 => ?_) (fun yr27 yc26 => ?_)
        · rw [yc26]; rfl
        · simp -implicitDefEqProofs only [e10, zq0, zq12, zq15, zq16, zq17, zq90, yc21, yc22, yc26, setA, setB, za, zb, zc, zd, ze, zf, zg, zh, zi, zj, zk, zl, zm, zn, zo, zp, reduceCtorEq, zE, ↓reduceIte]
          exact j6_44r21_t y15_0 y15_1 m16 g17 yr27 _ _ (by exact zq15) (by exact zq16) (by exact zq17) (by rfl)
      · simp -implicitDefEqProofs only [e14, ent10, prm10, f10_t, zq0, zq12, zq15, zq16, zq17, zq90, yc21, yc22, setA, setB, za, zb, zc, zd, ze, zf, zg, zh, zi, zj, zk, zl, zm, zn, zo, zp, reduceCtorEq, zE, ↓reduceIte]
        refine brM (fun yc31 => ?_) (fun yr32 yc31 => ?_)
        · rw [yc31]; rfl
        · simp -implicitDefEqProofs only [e10, zq0, zq12, zq15, zq16, zq17, zq90, yc21, yc22, yc31, setA, setB, za, zb, zc, zd, ze, zf, zg, zh, zi, zj, zk, zl, zm, zn, zo, zp, reduceCtorEq, zE, ↓reduceIte]
          exact j6_44r21v1_t y15_0 y15_1 m16 g17 yr32 _ _ _ (by exact zq15) (by exact zq16) (by exact zq17) (by rfl)
  · simp -implicitDefEqProofs only [zq0, zq12, zq15, zq16, zq17, zq90, yc21, setA, setB, za, zb, zc, zd, ze, zf, zg, zh, zi, zj, zk, zl, zm, zn, zo, zp, reduceCtorEq, zE, ↓reduceIte]
    exact j6_44r21_t y15_0 y15_1 m16 g17 false _ _ (by exact zq15) (by exact zq16) (by exact zq17) (by rfl)
def j6_39 (parts0_0 : Bool) (parts0_1 : List (Bool × List UInt8)) (tail1_0 : Bool) (tail1_1 : List UInt8) (cut2 : Int) (b7_0 : Bool) (b7_1 : List UInt8) (total9 : Int) : Option R6 :=
  if b7_1 = [] ∨ (0 + b7_1.length) * 1 ≤ 140737488355328 then
    if tail1_1 = [] ∨ (b7_1.length + tail1_1.length) * 1 ≤ 140737488355328 then
      (m8 false (b7_1 ++ tail1_1)).bind fun yr13 =>
        if ((b7_1.length : Int) == 0) = false then
          (bnd ((w64 cut2).tmod (b7_1.length : Int)) b7_1.length).bind fun yk16 =>
            (m8 b7_0 (b7_1.take yk16)).bind fun yr18 =>
              if (decide (total9 ≤ 4096)) = true then
                if (yr13.2.2.2 == 0) = true then
                  j6_44r15 parts0_0 parts0_1 yr13.1 yr13.2.1 yr18.1 yr18.2.1 yr18.2.2.1 yr18.2.2.2 (yr13.2.2.1 == (b7_1.length : Int))
                else
                  j6_44r15 parts0_0 parts0_1 yr13.1 yr13.2.1 yr18.1 yr18.2.1 yr18.2.2.1 yr18.2.2.2 false
              else
                j6_44r15 parts0_0 parts0_1 yr13.1 yr13.2.1 yr18.1 yr18.2.1 yr18.2.2.1 yr18.2.2.2 false
        else none
    else none
  else none
theorem j6_39_t (parts0_0 : Bool) (parts0_1 : List (Bool × List UInt8)) (tail1_0 : Bool) (tail1_1 : List UInt8) (cut2 : Int) (b7_0 : Bool) (b7_1 : List UInt8) (total9 : Int)  (sl : Nat → AV) (zq0 : sl 0 = .v (.c (.d (.lst parts0_0 (enL en0 parts0_1))))) (zq1 : sl 1 = .v (.c (.d (.lst tail1_0 (enL enB tail1_1))))) (zq2 : sl 2 = .v (.c (.d (.sc (.int .u16 cut2))))) (zq7 : sl 7 = .v (.c (.d (.lst b7_0 (enL enB b7_1))))) (zq9 : sl 9 = .v (.c (.d (.sc (.int .i64 total9))))) :
    bodyD (E0 mm) [.tmp 6] 0 false (den (E0 mm) 6 0 (callW (E0 mm)) itW c6_39 none ⟨sl, []⟩) = (j6_39 parts0_0 parts0_1 tail1_0 tail1_1 cut2 b7_0 b7_1 total9).map e6 := by
  simp -implicitDefEqProofs only [j6_39, c6_39_e, c6_40_r, (show opsOf c6_40 = _ :: _ from rfl), Tryd.underlying22, sz5, zc5, hd7, nv8, rw9, ns10, ap22, zq0, zq1, zq2, zq7, zq9, setA, setB, za, zb, zc, zd, ze, zf, zg, zh, zi, zj, zk, zl, zm, zn, zo, zp, reduceCtorEq, zE, ↓reduceIte]
  refine brP (fun yc10 => ?_) (fun yc10 => ?_)
  · simp -implicitDefEqProofs only [Tryd.underlying22, hd7, ap22, zq0, zq1, zq2, zq7, zq9, yc10, setA, setB, za, zb, zc, zd, ze, zf, zg, zh, zi, zj, zk, zl, zm, zn, zo, zp, reduceCtorEq, zE, ↓reduceIte]
    refine brP (fun yc11 => ?_) (fun yc11 => ?_)
    · simp -implicitDefEqProofs only [ent8, prm8, (show callW (E0 mm) 8 [.c (.d (.lst false (enL enB (b7_1 ++ tail1_1))))] [] = _ from f8_t false (b7_1 ++ tail1_1)), zq0, zq1, zq2, zq7, zq9, yc10, yc11, setA, setB, za, zb, zc, zd, ze, zf, zg, zh, zi, zj, zk, zl, zm, zn, zo, zp, reduceCtorEq, zE, ↓reduceIte]
      refine brM (fun yc12 => ?_) (fun yr13 yc12 => ?_)
      · rw [yc12]; rfl
      · simp -implicitDefEqProofs only [e8, c6_41_e, c6_42_r, (show opsOf c6_42 = _ :: _ from rfl), Tryd.underlying37, Tryd.underlying3, Tryd.underlying22, ev_rem0, zq0, zq1, zq2, zq7, zq9, yc10, yc11, yc12, setA, setB, za, zb, zc, zd, ze, zf, zg, zh, zi, zj, zk, zl, zm, zn, zo, zp, reduceCtorEq, zE, ↓reduceIte]
        refine brP (fun yc14 => ?_) (fun yc14 => ?_)
        · simp -implicitDefEqProofs only [Tryd.underlying22, enB_a, sz5, zq0, zq1, zq2, zq7, zq9, yc10, yc11, yc12, yc14, setA, setB, za, zb, zc, zd, ze, zf, zg, zh, zi, zj, zk, zl, zm, zn, zo, zp, reduceCtorEq, zE, ↓reduceIte]
          refine brM (fun yc15 => ?_) (fun yk16 yc15 => ?_)
          · rw [yc15]; rfl
          · simp -implicitDefEqProofs only [Option.isNone_some, Bool.false_and, Bool.and_false, Bool.false_eq_true, if_false, ent8, prm8, f8_t, zq0, zq1, zq2, zq7, zq9, yc10, yc11, yc12, yc14, yc15, setA, setB, za, zb, zc, zd, ze, zf, zg, zh, zi, zj, zk, zl, zm, zn, zo, zp, reduceCtorEq, zE, ↓reduceIte]
            refine brM (fun yc17 => ?_) (fun yr18 yc17 => ?_)
            · rw [yc17]; rfl
            · simp -implicitDefEqProofs only [e8, c6_43_e, c6_44_r, (show opsOf c6_44 = _ :: _ :: _ :: _ :: _ :: _ :: _ :: _ :: _ :: _ :: _ :: _ :: _ :: _ :: _ :: r6_44_15 from rfl), ent11, prm11, f11_t, zq0, zq1, zq2, zq7, zq9, yc10, yc11, yc12, yc14, yc15, yc17, setA, setB, za, zb, zc, zd, ze, zf, zg, zh, zi, zj, zk, zl, zm, zn, zo, zp, reduceCtorEq, zE, ↓reduceIte]
              refine brB (fun yc19 => ?_) (fun yc19 => ?_)
              · simp -implicitDefEqProofs only [zq0, zq1, zq2, zq7, zq9, yc10, yc11, yc12, yc14, yc15, yc17, yc19, setA, setB, za, zb, zc, zd, ze, zf, zg, zh, zi, zj, zk, zl, zm, zn, zo, zp, reduceCtorEq, zE, ↓reduceIte]
                refine brB (fun yc20 => ?_) (fun yc20 => ?_)
                · simp -implicitDefEqProofs only [Tryd.underlying22, zq0, zq1, zq2, zq7, zq9, yc10, yc11, yc12, yc14, yc15, yc17, yc19, yc20, setA, setB, za, zb, zc, zd, ze, zf, zg, zh, zi, zj, zk, zl, zm, zn, zo, zp, reduceCtorEq, zE, ↓reduceIte]
                  exact j6_44r15_t parts0_0 parts0_1 yr13.1 yr13.2.1 yr18.1 yr18.2.1 yr18.2.2.1 yr18.2.2.2 (yr13.2.2.1 == (b7_1.length : Int)) _ _ (by exact zq0) (by rfl) (by rfl) (by rfl) (by rfl) (by rfl)
                · simp -implicitDefEqProofs only [zq0, zq1, zq2, zq7, zq9, yc10, yc11, yc12, yc14, yc15, yc17, yc19, yc20, setA, setB, za, zb, zc, zd, ze, zf, zg, zh, zi, zj, zk, zl, zm, zn, zo, zp, reduceCtorEq, zE, ↓reduceIte]
                  exact j6_44r15_t parts0_0 parts0_1 yr13.1 yr13.2.1 yr18.1 yr18.2.1 yr18.2.2.1 yr18.2.2.2 false _ _ (by exact zq0) (by rfl) (by rfl) (by rfl) (by rfl) (by rfl)
              · simp -implicitDefEqProofs only [zq0, zq1, zq2, zq7, zq9, yc10, yc11, yc12, yc14, yc15, yc17, yc19, setA, setB, za, zb, zc, zd, ze, zf, zg, zh, zi, zj, zk, zl, zm, zn, zo, zp, reduceCtorEq, zE, ↓reduceIte]
                exact j6_44r15_t parts0_0 parts0_1 yr13.1 yr13.2.1 yr18.1 yr18.2.1 yr18.2.2.1 yr18.2.2.2 false _ _ (by exact zq0) (by rfl) (by rfl) (by rfl) (by rfl) (by rfl)
        · rw [if_neg yc14]; rfl
    · rw [if_neg yc11]; rfl
  · rw [if_neg yc10]; rfl
def j6_31 (parts0_0 : Bool) (parts0_1 : List (Bool × List UInt8)) (tail1_0 : Bool) (tail1_1 : List UInt8) (cut2 : Int) (b7_0 : Bool) (b7_1 : List UInt8) (total9 : Int) : Option R6 :=
  if ((b7_1.length : Int) == 0) = true then
    some false
  else
    j6_39 parts0_0 parts0_1 tail1_0 tail1_1 cut2 b7_0 b7_1 total9
theorem j6_31_t (parts0_0 : Bool) (parts0_1 : List (Bool × List UInt8)) (tail1_0 : Bool) (tail1_1 : List UInt8) (cut2 : Int) (b7_0 : Bool) (b7_1 : List UInt8) (total9 : Int)  (sl : Nat → AV) (zq0 : sl 0 = .v (.c (.d (.lst parts0_0 (enL en0 parts0_1))))) (zq1 : sl 1 = .v (.c (.d (.lst tail1_0 (enL enB tail1_1))))) (zq2 : sl 2 = .v (.c (.d (.sc (.int .u16 cut2))))) (zq7 : sl 7 = .v (.c (.d (.lst b7_0 (enL enB b7_1))))) (zq9 : sl 9 = .v (.c (.d (.sc (.int .i64 total9))))) :
    bodyD (E0 mm) [.tmp 6] 0 false (den (E0 mm) 6 0 (callW (E0 mm)) itW c6_31 none ⟨sl, []⟩) = (j6_31 parts0_0 parts0_1 tail1_0 tail1_1 cut2 b7_0 b7_1 total9).map e6 := by
  simp -implicitDefEqProofs only [j6_31, c6_31_e, c6_32_e, c6_33_r, (show opsOf c6_33 = _ :: _ from rfl), Tryd.underlying22, (show c6_34 = Code.cond _ c6_35 c6_38 from rfl), zq0, zq1, zq2, zq7, zq9, setA, setB, za, zb, zc, zd, ze, zf, zg, zh, zi, zj, zk, zl, zm, zn, zo, zp, reduceCtorEq, zE, ↓reduceIte]
  refine brB (fun yc9 => ?_) (fun yc9 => ?_)
  · simp -implicitDefEqProofs only [c6_35_e, c6_36_r, (show opsOf c6_36 = _ :: _ from rfl), c6_37_e, zq0, zq1, zq2, zq7, zq9, yc9, setA, setB, za, zb, zc, zd, ze, zf, zg, zh, zi, zj, zk, zl, zm, zn, zo, zp, reduceCtorEq, zE, ↓reduceIte]
    all_goals rfl
  · simp -implicitDefEqProofs only [c6_38_e, zq0, zq1, zq2, zq7, zq9, yc9, setA, setB, za, zb, zc, zd, ze, zf, zg, zh, zi, zj, zk, zl, zm, zn, zo, zp, reduceCtorEq, zE, ↓reduceIte]
    exact j6_39_t parts0_0 parts0_1 tail1_0 tail1_1 cut2 b7_0 b7_1 total9 _ (by exact zq0) (by exact zq1) (by exact zq2) (by exact zq7) (by exact zq9)
def r6_28_14 : List Oper := (opsOf c6_28).drop 14
def j6_28r14 (t50 : Bool) : Option R6 :=
  some t50
theorem j6_28r14_t (t50 : Bool)  (sl : Nat → AV) (zq50 : sl 50 = .v (.c (.d (.sc (.bool t50))))) :
    bodyD (E0 mm) [.tmp 6] 0 false (seqD (E0 mm) 6 0 (callW (E0 mm)) itW c6_31 (seqD (E0 mm) 6 0 (callW (E0 mm)) itW c6_29 (regD (runOps (E0 mm) (callW (E0 mm)) (opsOf c6_28) r6_28_14 ⟨sl, []⟩)))) = (j6_28r14 t50).map e6 := by
  simp -implicitDefEqProofs only [j6_28r14, (show opsOf c6_28 = _ :: _ from rfl), (show r6_28_14 = _ :: _ from rfl), c6_29_e, zq50, setA, setB, za, zb, zc, zd, ze, zf, zg, zh, zi, zj, zk, zl, zm, zn, zo, zp, reduceCtorEq, zE, ↓reduceIte]
  all_goals rfl
def j6_23 (parts0_0 : Bool) (parts0_1 : List (Bool × List UInt8)) (tail1_0 : Bool) (tail1_1 : List UInt8) (cut2 : Int) (b7_0 : Bool) (b7_1 : List UInt8) (e8 total9 : Int) : Option R6 :=
  if (e8 == 0) = true then
    j6_31 parts0_0 parts0_1 tail1_0 tail1_1 cut2 b7_0 b7_1 total9
  else
    if (e8 == 21) = true then
      if (decide (4096 < total9)) = true then
        j6_28r14 ((b7_1.length : Int) == 0)
      else
        j6_28r14 false
    else
      j6_28r14 false
theorem j6_23_t (parts0_0 : Bool) (parts0_1 : List (Bool × List UInt8)) (tail1_0 : Bool) (tail1_1 : List UInt8) (cut2 : Int) (b7_0 : Bool) (b7_1 : List UInt8) (e8 total9 : Int)  (sl : Nat → AV) (zq0 : sl 0 = .v (.c (.d (.lst parts0_0 (enL en0 parts0_1))))) (zq1 : sl 1 = .v (.c (.d (.lst tail1_0 (enL enB tail1_1))))) (zq2 : sl 2 = .v (.c (.d (.sc (.int .u16 cut2))))) (zq7 : sl 7 = .v (.c (.d (.lst b7_0 (enL enB b7_1))))) (zq8 : sl 8 = .v (.c (.d (.sc (.int .i64 e8))))) (zq9 : sl 9 = .v (.c (.d (.sc (.int .i64 total9))))) :
    bodyD (E0 mm) [.tmp 6] 0 false (den (E0 mm) 6 0 (callW (E0 mm)) itW c6_23 none ⟨sl, []⟩) = (j6_23 parts0_0 parts0_1 tail1_0 tail1_1 cut2 b7_0 b7_1 e8 total9).map e6 := by
  simp -implicitDefEqProofs only [j6_23, c6_23_e, c6_24_e, c6_25_r, (show opsOf c6_25 = _ :: _ from rfl), (show c6_26 = Code.cond _ c6_27 c6_30 from rfl), zq0, zq1, zq2, zq7, zq8, zq9, setA, setB, za, zb, zc, zd, ze, zf, zg, zh, zi, zj, zk, zl, zm, zn, zo, zp, reduceCtorEq, zE, ↓reduceIte]
  refine brB (fun yc8 => ?_) (fun yc8 => ?_)
  · simp -implicitDefEqProofs only [c6_30_e, zq0, zq1, zq2, zq7, zq8, zq9, yc8, setA, setB, za, zb, zc, zd, ze, zf, zg, zh, zi, zj, zk, zl, zm, zn, zo, zp, reduceCtorEq, zE, ↓reduceIte]
    exact j6_31_t parts0_0 parts0_1 tail1_0 tail1_1 cut2 b7_0 b7_1 total9 _ (by exact zq0) (by exact zq1) (by exact zq2) (by exact zq7) (by exact zq9)
  · simp -implicitDefEqProofs only [c6_27_e, c6_28_r, (show opsOf c6_28 = _ :: _ :: _ :: _ :: _ :: _ :: _ :: _ :: _ :: _ :: _ :: _ :: _ :: _ :: r6_28_14 from rfl), ent11, prm11, f11_t, zq0, zq1, zq2, zq7, zq8, zq9, yc8, setA, setB, za, zb, zc, zd, ze, zf, zg, zh, zi, zj, zk, zl, zm, zn, zo, zp, reduceCtorEq, zE, ↓reduceIte]
    refine brB (fun yc36 => ?_) (fun yc36 => ?_)
    · simp -implicitDefEqProofs only [zq0, zq1, zq2, zq7, zq8, zq9, yc8, yc36, setA, setB, za, zb, zc, zd, ze, zf, zg, zh, zi, zj, zk, zl, zm, zn, zo, zp, reduceCtorEq, zE, ↓reduceIte]
      refine brB (fun yc37 => ?_) (fun yc37 => ?_)
      · simp -implicitDefEqProofs only [Tryd.underlying22, zq0, zq1, zq2, zq7, zq8, zq9, yc8, yc36, yc37, setA, setB, za, zb, zc, zd, ze, zf, zg, zh, zi, zj, zk, zl, zm, zn, zo, zp, reduceCtorEq, zE, ↓reduceIte]
        exact j6_28r14_t ((b7_1.length : Int) == 0) _ (by rfl)
      · simp -implicitDefEqProofs only [zq0, zq1, zq2, zq7, zq8, zq9, yc8, yc36, yc37, setA, setB, za, zb, zc, zd, ze, zf, zg, zh, zi, zj, zk, zl, zm, zn, zo, zp, reduceCtorEq, zE, ↓reduceIte]
        exact j6_28r14_t false _ (by rfl)
    · simp -implicitDefEqProofs only [zq0, zq1, zq2, zq7, zq8, zq9, yc8, yc36, setA, setB, za, zb, zc, zd, ze, zf, zg, zh, zi, zj, zk, zl, zm, zn, zo, zp, reduceCtorEq, zE, ↓reduceIte]
      exact j6_28r14_t false _ (by rfl)
def s6_10 (parts0_0 : Bool) (parts0_1 : List (Bool × List UInt8)) (tail1_0 : Bool) (tail1_1 : List UInt8) (cut2 : Int) (b7_0 : Bool) (b7_1 : List UInt8) (e8 total9 : Int) (t23_0 : Bool) (t23_1 : List (Bool × List UInt8)) (t24 t25 : Int) : Option ((Bool × List (Bool × List UInt8) × Bool × List UInt8 × Int × Bool × List UInt8 × Int × Int × Bool × List (Bool × List UInt8) × Int × Int) ⊕ R6) :=
  if (decide (t25 < t24)) = true then
    j6_17 parts0_0 parts0_1 tail1_0 tail1_1 cut2 b7_0 b7_1 e8 total9 t23_0 t23_1 t24 t25
  else
    (j6_23 parts0_0 parts0_1 tail1_0 tail1_1 cut2 b7_0 b7_1 e8 total9).map .inr
theorem s6_10_t (parts0_0 : Bool) (parts0_1 : List (Bool × List UInt8)) (tail1_0 : Bool) (tail1_1 : List UInt8) (cut2 : Int) (b7_0 : Bool) (b7_1 : List UInt8) (e8 total9 : Int) (t23_0 : Bool) (t23_1 : List (Bool × List UInt8)) (t24 t25 : Int) :
    stepE (K6_10 (mm := mm)) (loopF (E0 mm) 6 0 (callW (E0 mm)) itW c6_11 [(0, .keep), (1, .keep), (2, .keep), (7, .keep), (8, .keep), (9, .keep), (23, .keep), (24, .keep), (25, .keep)] (none, [.v (.c (.d (.lst parts0_0 (enL en0 parts0_1)))), .v (.c (.d (.lst tail1_0 (enL enB tail1_1)))), .v (.c (.d (.sc (.int .u16 cut2)))), .v (.c (.d (.lst b7_0 (enL enB b7_1)))), .v (.c (.d (.sc (.int .i64 e8)))), .v (.c (.d (.sc (.int .i64 total9)))), .v (.c (.d (.lst t23_0 (enL en0 t23_1)))), .v (.c (.d (.sc (.int .i64 t24)))), .v (.c (.d (.sc (.int .i64 t25))))], [])) = (s6_10 parts0_0 parts0_1 tail1_0 tail1_1 cut2 b7_0 b7_1 e8 total9 t23_0 t23_1 t24 t25).map (sm en6_10 e6) := by
  simp -implicitDefEqProofs only [s6_10, loopF_eq, c6_11_e, c6_12_r, (show opsOf c6_12 = _ :: _ from rfl), c6_13_e, (show c6_14 = Code.cond _ c6_15 c6_16 from rfl), setA, setB, za, zb, zc, zd, ze, zf, zg, zh, zi, zj, zk, zl, zm, zn, zo, zp, reduceCtorEq, zE, ↓reduceIte]
  refine brB (fun yc5 => ?_) (fun yc5 => ?_)
  · simp -implicitDefEqProofs only [c6_15_e, yc5, setA, setB, za, zb, zc, zd, ze, zf, zg, zh, zi, zj, zk, zl, zm, zn, zo, zp, reduceCtorEq, zE, ↓reduceIte]
    exact j6_17_t parts0_0 parts0_1 tail1_0 tail1_1 cut2 b7_0 b7_1 e8 total9 t23_0 t23_1 t24 t25 _ (by rfl) (by rfl) (by rfl) (by rfl) (by rfl) (by rfl) (by rfl) (by rfl) (by rfl)
  · simp -implicitDefEqProofs only [c6_16_e, K6_10, yc5, setA, setB, za, zb, zc, zd, ze, zf, zg, zh, zi, zj, zk, zl, zm, zn, zo, zp, reduceCtorEq, zE, ↓reduceIte]
    exact mi (j6_23_t parts0_0 parts0_1 tail1_0 tail1_1 cut2 b7_0 b7_1 e8 total9 _ (by rfl) (by rfl) (by rfl) (by rfl) (by rfl) (by rfl))
def l6_10 (parts0_0 : Bool) (parts0_1 : List (Bool × List UInt8)) (tail1_0 : Bool) (tail1_1 : List UInt8) (cut2 : Int) (b7_0 : Bool) (b7_1 : List UInt8) (e8 total9 : Int) (t23_0 : Bool) (t23_1 : List (Bool × List UInt8)) (t24 t25 : Int) : Option R6 := iter (fun x : (Bool × List (Bool × List UInt8) × Bool × List UInt8 × Int × Bool × List UInt8 × Int × Int × Bool × List (Bool × List UInt8) × Int × Int) => s6_10 x.1 x.2.1 x.2.2.1 x.2.2.2.1 x.2.2.2.2.1 x.2.2.2.2.2.1 x.2.2.2.2.2.2.1 x.2.2.2.2.2.2.2.1 x.2.2.2.2.2.2.2.2.1 x.2.2.2.2.2.2.2.2.2.1 x.2.2.2.2.2.2.2.2.2.2.1 x.2.2.2.2.2.2.2.2.2.2.2.1 x.2.2.2.2.2.2.2.2.2.2.2.2) (parts0_0, parts0_1, tail1_0, tail1_1, cut2, b7_0, b7_1, e8, total9, t23_0, t23_1, t24, t25)
theorem l6_10_t (parts0_0 : Bool) (parts0_1 : List (Bool × List UInt8)) (tail1_0 : Bool) (tail1_1 : List UInt8) (cut2 : Int) (b7_0 : Bool) (b7_1 : List UInt8) (e8 total9 : Int) (t23_0 : Bool) (t23_1 : List (Bool × List UInt8)) (t24 t25 : Int) : bodyD (E0 mm) [.tmp 6] 0 false (seqD (E0 mm) 6 0 (callW (E0 mm)) itW c6_23 (blockD 0 (itW (loopF (E0 mm) 6 0 (callW (E0 mm)) itW c6_11 [(0, .keep), (1, .keep), (2, .keep), (7, .keep), (8, .keep), (9, .keep), (23, .keep), (24, .keep), (25, .keep)]) (none, [.v (.c (.d (.lst parts0_0 (enL en0 parts0_1)))), .v (.c (.d (.lst tail1_0 (enL enB tail1_1)))), .v (.c (.d (.sc (.int .u16 cut2)))), .v (.c (.d (.lst b7_0 (enL enB b7_1)))), .v (.c (.d (.sc (.int .i64 e8)))), .v (.c (.d (.sc (.int .i64 total9)))), .v (.c (.d (.lst t23_0 (enL en0 t23_1)))), .v (.c (.d (.sc (.int .i64 t24)))), .v (.c (.d (.sc (.int .i64 t25))))], [])))) = (l6_10 parts0_0 parts0_1 tail1_0 tail1_1 cut2 b7_0 b7_1 e8 total9 t23_0 t23_1 t24 t25).map e6 :=
  it_sim (K := (K6_10 (mm := mm))) rfl (enc := en6_10) (fun x => s6_10_t x.1 x.2.1 x.2.2.1 x.2.2.2.1 x.2.2.2.2.1 x.2.2.2.2.2.1 x.2.2.2.2.2.2.1 x.2.2.2.2.2.2.2.1 x.2.2.2.2.2.2.2.2.1 x.2.2.2.2.2.2.2.2.2.1 x.2.2.2.2.2.2.2.2.2.2.1 x.2.2.2.2.2.2.2.2.2.2.2.1 x.2.2.2.2.2.2.2.2.2.2.2.2) (parts0_0, parts0_1, tail1_0, tail1_1, cut2, b7_0, b7_1, e8, total9, t23_0, t23_1, t24, t25)
def K6_10v1 : Option (Ex × St) → Option (AV × Heap) := fun r => bodyD (E0 mm) [.tmp 6] 0 false (seqD (E0 mm) 6 0 (callW (E0 mm)) itW c6_23 (blockD 0 (r)))
def en6_10v1 : (Bool × List (Bool × List UInt8) × Bool × List UInt8 × Int × Bool × List UInt8 × Int × Int × Bool × List (Bool × List UInt8) × Int × Int) → X := fun x => (none, [.v (.c (.d (.lst x.1 (enL en0 x.2.1)))), .v (.c (.d (.lst x.2.2.1 (enL enB x.2.2.2.1)))), .v (.c (.d (.sc (.int .u16 x.2.2.2.2.1)))), .v (.c (.own x.2.2.2.2.2.1 (enL enB x.2.2.2.2.2.2.1) 0)), .v (.c (.d (.sc (.int .i64 x.2.2.2.2.2.2.2.1)))), .v (.c (.d (.sc (.int .i64 x.2.2.2.2.2.2.2.2.1)))), .v (.c (.d (.lst x.2.2.2.2.2.2.2.2.2.1 (enL en0 x.2.2.2.2.2.2.2.2.2.2.1)))), .v (.c (.d (.sc (.int .i64 x.2.2.2.2.2.2.2.2.2.2.2.1)))), .v (.c (.d (.sc (.int .i64 x.2.2.2.2.2.2.2.2.2.2.2.2))))], [.row x.2.2.2.2.2.2.1.length (rz x.2.2.2.2.2.1 1)])
def j6_22v1 (parts0_0 : Bool) (parts0_1 : List (Bool × List UInt8)) (tail1_0 : Bool) (tail1_1 : List UInt8) (cut2 : Int) (b7_0 : Bool) (b7_1 : List UInt8) (e8 total9 : Int) (t23_0 : Bool) (t23_1 : List (Bool × List UInt8)) (t24 t25 : Int) : Option ((Bool × List (Bool × List UInt8) × Bool × List UInt8 × Int × Bool × List UInt8 × Int × Int × Bool × List (Bool × List UInt8) × Int × Int) ⊕ R6) :=
  some (.inl (parts0_0, parts0_1, tail1_0, tail1_1, cut2, b7_0, b7_1, e8, total9, t23_0, t23_1, t24, (w64 (t25 + 1))))
theorem j6_22v1_t (parts0_0 : Bool) (parts0_1 : List (Bool × List UInt8)) (tail1_0 : Bool) (tail1_1 : List UInt8) (cut2 : Int) (b7_0 : Bool) (b7_1 : List UInt8) (e8 total9 : Int) (t23_0 : Bool) (t23_1 : List (Bool × List UInt8)) (t24 t25 : Int)  (sl : Nat → AV) (zq0 : sl 0 = .v (.c (.d (.lst parts0_0 (enL en0 parts0_1))))) (zq1 : sl 1 = .v (.c (.d (.lst tail1_0 (enL enB tail1_1))))) (zq2 : sl 2 = .v (.c (.d (.sc (.int .u16 cut2))))) (zq7 : sl 7 = .v (.c (.own b7_0 (enL enB b7_1) 0))) (zq8 : sl 8 = .v (.c (.d (.sc (.int .i64 e8))))) (zq9 : sl 9 = .v (.c (.d (.sc (.int .i64 total9))))) (zq23 : sl 23 = .v (.c (.d (.lst t23_0 (enL en0 t23_1))))) (zq24 : sl 24 = .v (.c (.d (.sc (.int .i64 t24))))) (zq25 : sl 25 = .v (.c (.d (.sc (.int .i64 t25))))) :
    stepE (K6_10v1 (mm := mm)) (loopK 0 [(0, .keep), (1, .keep), (2, .keep), (7, .keep), (8, .keep), (9, .keep), (23, .keep), (24, .keep), (25, .keep)] (den (E0 mm) 6 0 (callW (E0 mm)) itW c6_22 none ⟨sl, [.row b7_1.length (rz b7_0 1)]⟩)) = (j6_22v1 parts0_0 parts0_1 tail1_0 tail1_1 cut2 b7_0 b7_1 e8 total9 t23_0 t23_1 t24 t25).map (sm en6_10v1 e6) := by
  simp -implicitDefEqProofs only [j6_22v1, c6_22_r, (show opsOf c6_22 = _ :: _ from rfl), zq0, zq1, zq2, zq7, zq8, zq9, zq23, zq24, zq25, setA, setB, za, zb, zc, zd, ze, zf, zg, zh, zi, zj, zk, zl, zm, zn, zo, zp, reduceCtorEq, zE, ↓reduceIte]
  all_goals rfl
def j6_17v1 (parts0_0 : Bool) (parts0_1 : List (Bool × List UInt8)) (tail1_0 : Bool) (tail1_1 : List UInt8) (cut2 : Int) (b7_0 : Bool) (b7_1 : List UInt8) (e8 total9 : Int) (t23_0 : Bool) (t23_1 : List (Bool × List UInt8)) (t24 t25 : Int) : Option ((Bool × List (Bool × List UInt8) × Bool × List UInt8 × Int × Bool × List UInt8 × Int × Int × Bool × List (Bool × List UInt8) × Int × Int) ⊕ R6) :=
  if 0 ≤ t25 ∧ t25 < (t23_1.length : Int) then
    j6_22v1 parts0_0 parts0_1 tail1_0 tail1_1 cut2 b7_0 b7_1 e8 (min2 (w64 (total9 + (((t23_1.getD t25.toNat default).2).length : Int))) 4097) t23_0 t23_1 t24 t25
  else none
theorem j6_17v1_t (parts0_0 : Bool) (parts0_1 : List (Bool × List UInt8)) (tail1_0 : Bool) (tail1_1 : List UInt8) (cut2 : Int) (b7_0 : Bool) (b7_1 : List UInt8) (e8 total9 : Int) (t23_0 : Bool) (t23_1 : List (Bool × List UInt8)) (t24 t25 : Int)  (sl : Nat → AV) (zq0 : sl 0 = .v (.c (.d (.lst parts0_0 (enL en0 parts0_1))))) (zq1 : sl 1 = .v (.c (.d (.lst tail1_0 (enL enB tail1_1))))) (zq2 : sl 2 = .v (.c (.d (.sc (.int .u16 cut2))))) (zq7 : sl 7 = .v (.c (.own b7_0 (enL enB b7_1) 0))) (zq8 : sl 8 = .v (.c (.d (.sc (.int .i64 e8))))) (zq9 : sl 9 = .v (.c (.d (.sc (.int .i64 total9))))) (zq23 : sl 23 = .v (.c (.d (.lst t23_0 (enL en0 t23_1))))) (zq24 : sl 24 = .v (.c (.d (.sc (.int .i64 t24))))) (zq25 : sl 25 = .v (.c (.d (.sc (.int .i64 t25))))) :
    stepE (K6_10v1 (mm := mm)) (loopK 0 [(0, .keep), (1, .keep), (2, .keep), (7, .keep), (8, .keep), (9, .keep), (23, .keep), (24, .keep), (25, .keep)] (den (E0 mm) 6 0 (callW (E0 mm)) itW c6_17 none ⟨sl, [.row b7_1.length (rz b7_0 1)]⟩)) = (j6_17v1 parts0_0 parts0_1 tail1_0 tail1_1 cut2 b7_0 b7_1 e8 total9 t23_0 t23_1 t24 t25).map (sm en6_10v1 e6) := by
  simp -implicitDefEqProofs only [j6_17v1, c6_17_e, c6_18_e, c6_19_e, c6_20_r, (show opsOf c6_20 = _ :: _ from rfl), Tryd.underlying31, sz22, en0_a, zq0, zq1, zq2, zq7, zq8, zq9, zq23, zq24, zq25, setA, setB, za, zb, zc, zd, ze, zf, zg, zh, zi, zj, zk, zl, zm, zn, zo, zp, reduceCtorEq, zE, ↓reduceIte]
  refine brP (fun yc39 => ?_) (fun yc39 => ?_)
  · have yd40 : t25.toNat < t23_1.length := by omega
    simp -implicitDefEqProofs only [(enL_get en0 t23_1 t25.toNat yd40), en0_e, sz22, ag22, c6_21_r, (show opsOf c6_21 = _ :: _ from rfl), Tryd.underlying22, Tryd.underlying3, zq0, zq1, zq2, zq7, zq8, zq9, zq23, zq24, zq25, yc39, yd40, setA, setB, za, zb, zc, zd, ze, zf, zg, zh, zi, zj, zk, zl, zm, zn, zo, zp, reduceCtorEq, zE, ↓reduceIte]
    exact j6_22v1_t parts0_0 parts0_1 tail1_0 tail1_1 cut2 b7_0 b7_1 e8 (min2 (w64 (total9 + (((t23_1.getD t25.toNat default).2).length : Int))) 4097) t23_0 t23_1 t24 t25 _ (by exact zq0) (by exact zq1) (by exact zq2) (by exact zq7) (by exact zq8) (by rfl) (by exact zq23) (by exact zq24) (by exact zq25)
  · rw [if_neg yc39]; rfl
def j6_44r34v2 (t109 : Bool) : Option R6 :=
  some t109
theorem j6_44r34v2_t (t109 : Bool) (g0 g1 g2 : Ob) (sl : Nat → AV) (zq109 : sl 109 = .v (.c (.d (.sc (.bool t109))))) :
    bodyD (E0 mm) [.tmp 6] 0 false (seqD (E0 mm) 6 0 (callW (E0 mm)) itW c6_45 (regD (runOps (E0 mm) (callW (E0 mm)) (opsOf c6_44) r6_44_34 ⟨sl, [g0, g1, g2]⟩))) = (j6_44r34v2 t109).map e6 := by
  simp -implicitDefEqProofs only [j6_44r34v2, (show opsOf c6_44 = _ :: _ from rfl), (show r6_44_34 = _ :: _ from rfl), c6_45_e, zq109, setA, setB, za, zb, zc, zd, ze, zf, zg, zh, zi, zj, zk, zl, zm, zn, zo, zp, reduceCtorEq, zE, ↓reduceIte]
  all_goals rfl
def j6_44r29v2 (y15_0 : Bool) (y15_1 : List UInt8) (t104 : Bool) : Option R6 :=
  if t104 = true then
    j6_44r34v2 ((y15_1.length : Int) == 0)
  else
    j6_44r34v2 false
theorem j6_44r29v2_t (y15_0 : Bool) (y15_1 : List UInt8) (t104 : Bool) (g0 g1 g2 : Ob) (sl : Nat → AV) (zq15 : sl 15 = .v (.c (.d (.lst y15_0 (enL enB y15_1))))) (zq104 : sl 104 = .v (.c (.d (.sc (.bool t104))))) :
    bodyD (E0 mm) [.tmp 6] 0 false (seqD (E0 mm) 6 0 (callW (E0 mm)) itW c6_45 (regD (runOps (E0 mm) (callW (E0 mm)) (opsOf c6_44) r6_44_29 ⟨sl, [g0, g1, g2]⟩))) = (j6_44r29v2 y15_0 y15_1 t104).map e6 := by
  simp -implicitDefEqProofs only [j6_44r29v2, (show opsOf c6_44 = _ :: _ from rfl), (show r6_44_29 = _ :: _ :: _ :: _ :: _ :: r6_44_34 from rfl), zq15, zq104, setA, setB, za, zb, zc, zd, ze, zf, zg, zh, zi, zj, zk, zl, zm, zn, zo, zp, reduceCtorEq, zE, ↓reduceIte]
  refine brB (fun yc65 => ?_) (fun yc65 => ?_)
  · simp -implicitDefEqProofs only [Tryd.underlying22, zq15, zq104, yc65, setA, setB, za, zb, zc, zd, ze, zf, zg, zh, zi, zj, zk, zl, zm, zn, zo, zp, reduceCtorEq, zE, ↓reduceIte]
    exact j6_44r34v2_t ((y15_1.length : Int) == 0) _ _ _ _ (by rfl)
  · simp -implicitDefEqProofs only [zq15, zq104, yc65, setA, setB, za, zb, zc, zd, ze, zf, zg, zh, zi, zj, zk, zl, zm, zn, zo, zp, reduceCtorEq, zE, ↓reduceIte]
    exact j6_44r34v2_t false _ _ _ _ (by rfl)
def j6_44r25v2 (y15_0 : Bool) (y15_1 : List UInt8) (m16 : Int) (t100 : Bool) : Option R6 :=
  if t100 = true then
    j6_44r29v2 y15_0 y15_1 (m16 == 0)
  else
    j6_44r29v2 y15_0 y15_1 false
theorem j6_44r25v2_t (y15_0 : Bool) (y15_1 : List UInt8) (m16 : Int) (t100 : Bool) (g0 g1 g2 : Ob) (sl : Nat → AV) (zq15 : sl 15 = .v (.c (.d (.lst y15_0 (enL enB y15_1))))) (zq16 : sl 16 = .v (.c (.d (.sc (.int .i64 m16))))) (zq100 : sl 100 = .v (.c (.d (.sc (.bool t100))))) :
    bodyD (E0 mm) [.tmp 6] 0 false (seqD (E0 mm) 6 0 (callW (E0 mm)) itW c6_45 (regD (runOps (E0 mm) (callW (E0 mm)) (opsOf c6_44) r6_44_25 ⟨sl, [g0, g1, g2]⟩))) = (j6_44r25v2 y15_0 y15_1 m16 t100).map e6 := by
  simp -implicitDefEqProofs only [j6_44r25v2, (show opsOf c6_44 = _ :: _ from rfl), (show r6_44_25 = _ :: _ :: _ :: _ :: r6_44_29 from rfl), zq15, zq16, zq100, setA, setB, za, zb, zc, zd, ze, zf, zg, zh, zi, zj, zk, zl, zm, zn, zo, zp, reduceCtorEq, zE, ↓reduceIte]
  refine brB (fun yc64 => ?_) (fun yc64 => ?_)
  · simp -implicitDefEqProofs only [zq15, zq16, zq100, yc64, setA, setB, za, zb, zc, zd, ze, zf, zg, zh, zi, zj, zk, zl, zm, zn, zo, zp, reduceCtorEq, zE, ↓reduceIte]
    exact j6_44r29v2_t y15_0 y15_1 (m16 == 0) _ _ _ _ (by exact zq15) (by rfl)
  · simp -implicitDefEqProofs only [zq15, zq16, zq100, yc64, setA, setB, za, zb, zc, zd, ze, zf, zg, zh, zi, zj, zk, zl, zm, zn, zo, zp, reduceCtorEq, zE, ↓reduceIte]
    exact j6_44r29v2_t y15_0 y15_1 false _ _ _ _ (by exact zq15) (by rfl)
def j6_44r21v2 (y15_0 : Bool) (y15_1 : List UInt8) (m16 g17 : Int) (t96 : Bool) : Option R6 :=
  if t96 = true then
    j6_44r25v2 y15_0 y15_1 m16 (g17 == 8)
  else
    j6_44r25v2 y15_0 y15_1 m16 false
theorem j6_44r21v2_t (y15_0 : Bool) (y15_1 : List UInt8) (m16 g17 : Int) (t96 : Bool) (g0 g1 g2 : Ob) (sl : Nat → AV) (zq15 : sl 15 = .v (.c (.d (.lst y15_0 (enL enB y15_1))))) (zq16 : sl 16 = .v (.c (.d (.sc (.int .i64 m16))))) (zq17 : sl 17 = .v (.c (.d (.sc (.int .i64 g17))))) (zq96 : sl 96 = .v (.c (.d (.sc (.bool t96))))) :
    bodyD (E0 mm) [.tmp 6] 0 false (seqD (E0 mm) 6 0 (callW (E0 mm)) itW c6_45 (regD (runOps (E0 mm) (callW (E0 mm)) (opsOf c6_44) r6_44_21 ⟨sl, [g0, g1, g2]⟩))) = (j6_44r21v2 y15_0 y15_1 m16 g17 t96).map e6 := by
  simp -implicitDefEqProofs only [j6_44r21v2, (show opsOf c6_44 = _ :: _ from rfl), (show r6_44_21 = _ :: _ :: _ :: _ :: r6_44_25 from rfl), zq15, zq16, zq17, zq96, setA, setB, za, zb, zc, zd, ze, zf, zg, zh, zi, zj, zk, zl, zm, zn, zo, zp, reduceCtorEq, zE, ↓reduceIte]
  refine brB (fun yc63 => ?_) (fun yc63 => ?_)
  · simp -implicitDefEqProofs only [zq15, zq16, zq17, zq96, yc63, setA, setB, za, zb, zc, zd, ze, zf, zg, zh, zi, zj, zk, zl, zm, zn, zo, zp, reduceCtorEq, zE, ↓reduceIte]
    exact j6_44r25v2_t y15_0 y15_1 m16 (g17 == 8) _ _ _ _ (by exact zq15) (by exact zq16) (by rfl)
  · simp -implicitDefEqProofs only [zq15, zq16, zq17, zq96, yc63, setA, setB, za, zb, zc, zd, ze, zf, zg, zh, zi, zj, zk, zl, zm, zn, zo, zp, reduceCtorEq, zE, ↓reduceIte]
    exact j6_44r25v2_t y15_0 y15_1 m16 false _ _ _ _ (by exact zq15) (by exact zq16) (by rfl)
def j6_44r15v1 (parts0_0 : Bool) (parts0_1 : List (Bool × List UInt8)) (x12_0 : Bool) (x12_1 : List UInt8) (y15_0 : Bool) (y15_1 : List UInt8) (m16 g17 : Int) (t90 : Bool) : Option R6 :=
  if t90 = true then
    (m14 parts0_0 parts0_1 true ([] : List UInt8)).bind fun yr56 =>
      match yr56 with
      | .inl yr57 =>
        (m10 x12_0 x12_1 yr57.1 yr57.2).bind fun yr60 =>
          j6_44r21v1 y15_0 y15_1 m16 g17 yr60
      | .inr yr58 =>
        (m10 x12_0 x12_1 yr58.1 yr58.2).bind fun yr62 =>
          j6_44r21v2 y15_0 y15_1 m16 g17 yr62
  else
    j6_44r21v1 y15_0 y15_1 m16 g17 false
theorem j6_44r15v1_t (parts0_0 : Bool) (parts0_1 : List (Bool × List UInt8)) (x12_0 : Bool) (x12_1 : List UInt8) (y15_0 : Bool) (y15_1 : List UInt8) (m16 g17 : Int) (t90 : Bool) (g0 g1 : Ob) (sl : Nat → AV) (zq0 : sl 0 = .v (.c (.d (.lst parts0_0 (enL en0 parts0_1))))) (zq12 : sl 12 = .v (.c (.d (.lst x12_0 (enL enB x12_1))))) (zq15 : sl 15 = .v (.c (.d (.lst y15_0 (enL enB y15_1))))) (zq16 : sl 16 = .v (.c (.d (.sc (.int .i64 m16))))) (zq17 : sl 17 = .v (.c (.d (.sc (.int .i64 g17))))) (zq90 : sl 90 = .v (.c (.d (.sc (.bool t90))))) :
    bodyD (E0 mm) [.tmp 6] 0 false (seqD (E0 mm) 6 0 (callW (E0 mm)) itW c6_45 (regD (runOps (E0 mm) (callW (E0 mm)) (opsOf c6_44) r6_44_15 ⟨sl, [g0, g1]⟩))) = (j6_44r15v1 parts0_0 parts0_1 x12_0 x12_1 y15_0 y15_1 m16 g17 t90).map e6 := by
  simp -implicitDefEqProofs only [j6_44r15v1, (show opsOf c6_44 = _ :: _ from rfl), (show r6_44_15 = _ :: _ :: _ :: _ :: _ :: _ :: r6_44_21 from rfl), zq0, zq12, zq15, zq16, zq17, zq90, setA, setB, za, zb, zc, zd, ze, zf, zg, zh, zi, zj, zk, zl, zm, zn, zo, zp, reduceCtorEq, zE, ↓reduceIte]
  refine brB (fun yc54 => ?_) (fun yc54 => ?_)
  · simp -implicitDefEqProofs only [ent14, prm14, (show callW (E0 mm) 14 [.c (.d (.lst parts0_0 (enL en0 parts0_1))), .c (.d (.lst true []))] [] = _ from f14_t parts0_0 parts0_1 true ([] : List UInt8)), zq0, zq12, zq15, zq16, zq17, zq90, yc54, setA, setB, za, zb, zc, zd, ze, zf, zg, zh, zi, zj, zk, zl, zm, zn, zo, zp, reduceCtorEq, zE, ↓reduceIte]
    refine brM (fun yc55 => ?_) (fun yr56 yc55 => ?_)
    · rw [yc55]; rfl
    · rcases yr56 with yr57 | yr58
      · simp -implicitDefEqProofs only [e14, ent10, prm10, f10_t, zq0, zq12, zq15, zq16, zq17, zq90, yc54, yc55, setA, setB, za, zb, zc, zd, ze, zf, zg, zh, zi, zj, zk, zl, zm, zn, zo, zp, reduceCtorEq, zE, ↓reduceIte]
        refine brM (fun yc59 => ?_) (fun yr60 yc59 => ?_)
        · rw [yc59]; rfl
        · simp -implicitDefEqProofs only [e10, zq0, zq12, zq15, zq16, zq17, zq90, yc54, yc55, yc59, setA, setB, za, zb, zc, zd, ze, zf, zg, zh, zi, zj, zk, zl, zm, zn, zo, zp, reduceCtorEq, zE, ↓reduceIte]
          exact j6_44r21v1_t y15_0 y15_1 m16 g17 yr60 _ _ _ (by exact zq15) (by exact zq16) (by exact zq17) (by rfl)
      · simp -implicitDefEqProofs only [e14, ent10, prm10, f10_t, zq0, zq12, zq15, zq16, zq17, zq90, yc54, yc55, setA, setB, za, zb, zc, zd, ze, zf, zg, zh, zi, zj, zk, zl, zm, zn, zo, zp, reduceCtorEq, zE, ↓reduceIte]
        refine brM (fun yc61 => ?_) (fun yr62 yc61 => ?_)
        · rw [yc61]; rfl
        · simp -implicitDefEqProofs only [e10, zq0, zq12, zq15, zq16, zq17, zq90, yc54, yc55, yc61, setA, setB, za, zb, zc, zd, ze, zf, zg, zh, zi, zj, zk, zl, zm, zn, zo, zp, reduceCtorEq, zE, ↓reduceIte]
          exact j6_44r21v2_t y15_0 y15_1 m16 g17 yr62 _ _ _ _ (by exact zq15) (by exact zq16) (by exact zq17) (by rfl)
  · simp -implicitDefEqProofs only [zq0, zq12, zq15, zq16, zq17, zq90, yc54, setA, setB, za, zb, zc, zd, ze, zf, zg, zh, zi, zj, zk, zl, zm, zn, zo, zp, reduceCtorEq, zE, ↓reduceIte]
    exact j6_44r21v1_t y15_0 y15_1 m16 g17 false _ _ _ (by exact zq15) (by exact zq16) (by exact zq17) (by rfl)
def j6_39v1 (parts0_0 : Bool) (parts0_1 : List (Bool × List UInt8)) (tail1_0 : Bool) (tail1_1 : List UInt8) (cut2 : Int) (b7_0 : Bool) (b7_1 : List UInt8) (total9 : Int) : Option R6 :=
  if b7_1 = [] ∨ (0 + b7_1.length) * 1 ≤ 140737488355328 then
    if tail1_1 = [] ∨ (b7_1.length + tail1_1.length) * 1 ≤ 140737488355328 then
      (m8 false (b7_1 ++ tail1_1)).bind fun yr46 =>
        if ((b7_1.length : Int) == 0) = false then
          (bnd ((w64 cut2).tmod (b7_1.length : Int)) b7_1.length).bind fun yk49 =>
            (m8 b7_0 (b7_1.take yk49)).bind fun yr51 =>
              if (decide (total9 ≤ 4096)) = true then
                if (yr46.2.2.2 == 0) = true then
                  j6_44r15v1 parts0_0 parts0_1 yr46.1 yr46.2.1 yr51.1 yr51.2.1 yr51.2.2.1 yr51.2.2.2 (yr46.2.2.1 == (b7_1.length : Int))
                else
                  j6_44r15v1 parts0_0 parts0_1 yr46.1 yr46.2.1 yr51.1 yr51.2.1 yr51.2.2.1 yr51.2.2.2 false
              else
                j6_44r15v1 parts0_0 parts0_1 yr46.1 yr46.2.1 yr51.1 yr51.2.1 yr51.2.2.1 yr51.2.2.2 false
        else none
    else none
  else none
theorem j6_39v1_t (parts0_0 : Bool) (parts0_1 : List (Bool × List UInt8)) (tail1_0 : Bool) (tail1_1 : List UInt8) (cut2 : Int) (b7_0 : Bool) (b7_1 : List UInt8) (total9 : Int)  (sl : Nat → AV) (zq0 : sl 0 = .v (.c (.d (.lst parts0_0 (enL en0 parts0_1))))) (zq1 : sl 1 = .v (.c (.d (.lst tail1_0 (enL enB tail1_1))))) (zq2 : sl 2 = .v (.c (.d (.sc (.int .u16 cut2))))) (zq7 : sl 7 = .v (.c (.own b7_0 (enL enB b7_1) 0))) (zq9 : sl 9 = .v (.c (.d (.sc (.int .i64 total9))))) :
    bodyD (E0 mm) [.tmp 6] 0 false (den (E0 mm) 6 0 (callW (E0 mm)) itW c6_39 none ⟨sl, [.row b7_1.length (rz b7_0 1)]⟩) = (j6_39v1 parts0_0 parts0_1 tail1_0 tail1_1 cut2 b7_0 b7_1 total9).map e6 := by
  simp -implicitDefEqProofs only [j6_39v1, c6_39_e, c6_40_r, (show opsOf c6_40 = _ :: _ from rfl), Tryd.underlying22, sz5, zc5, hd7, nv8, rw9, ns10, ap22, zq0, zq1, zq2, zq7, zq9, setA, setB, za, zb, zc, zd, ze, zf, zg, zh, zi, zj, zk, zl, zm, zn, zo, zp, reduceCtorEq, zE, ↓reduceIte]
  refine brP (fun yc43 => ?_) (fun yc43 => ?_)
  · simp -implicitDefEqProofs only [Tryd.underlying22, hd7, ap22, zq0, zq1, zq2, zq7, zq9, yc43, setA, setB, za, zb, zc, zd, ze, zf, zg, zh, zi, zj, zk, zl, zm, zn, zo, zp, reduceCtorEq, zE, ↓reduceIte]
    refine brP (fun yc44 => ?_) (fun yc44 => ?_)
    · simp -implicitDefEqProofs only [ent8, prm8, (show callW (E0 mm) 8 [.c (.d (.lst false (enL enB (b7_1 ++ tail1_1))))] [] = _ from f8_t false (b7_1 ++ tail1_1)), zq0, zq1, zq2, zq7, zq9, yc43, yc44, setA, setB, za, zb, zc, zd, ze, zf, zg, zh, zi, zj, zk, zl, zm, zn, zo, zp, reduceCtorEq, zE, ↓reduceIte]
      refine brM (fun yc45 => ?_) (fun yr46 yc45 => ?_)
      · rw [yc45]; rfl
      · simp -implicitDefEqProofs only [e8, c6_41_e, c6_42_r, (show opsOf c6_42 = _ :: _ from rfl), Tryd.underlying37, Tryd.underlying3, Tryd.underlying22, ev_rem0, zq0, zq1, zq2, zq7, zq9, yc43, yc44, yc45, setA, setB, za, zb, zc, zd, ze, zf, zg, zh, zi, zj, zk, zl, zm, zn, zo, zp, reduceCtorEq, zE, ↓reduceIte]
        refine brP (fun yc47 => ?_) (fun yc47 => ?_)
        · simp -implicitDefEqProofs only [Tryd.underlying22, enB_a, sz5, zq0, zq1, zq2, zq7, zq9, yc43, yc44, yc45, yc47, setA, setB, za, zb, zc, zd, ze, zf, zg, zh, zi, zj, zk, zl, zm, zn, zo, zp, reduceCtorEq, zE, ↓reduceIte]
          refine brM (fun yc48 => ?_) (fun yk49 yc48 => ?_)
          · rw [yc48]; rfl
          · simp -implicitDefEqProofs only [Option.isNone_some, Bool.false_and, Bool.and_false, Bool.false_eq_true, if_false, ent8, prm8, f8_t, zq0, zq1, zq2, zq7, zq9, yc43, yc44, yc45, yc47, yc48, setA, setB, za, zb, zc, zd, ze, zf, zg, zh, zi, zj, zk, zl, zm, zn, zo, zp, reduceCtorEq, zE, ↓reduceIte]
            refine brM (fun yc50 => ?_) (fun yr51 yc50 => ?_)
            · rw [yc50]; rfl
            · simp -implicitDefEqProofs only [e8, c6_43_e, c6_44_r, (show opsOf c6_44 = _ :: _ :: _ :: _ :: _ :: _ :: _ :: _ :: _ :: _ :: _ :: _ :: _ :: _ :: _ :: r6_44_15 from rfl), ent11, prm11, f11_t, zq0, zq1, zq2, zq7, zq9, yc43, yc44, yc45, yc47, yc48, yc50, setA, setB, za, zb, zc, zd, ze, zf, zg, zh, zi, zj, zk, zl, zm, zn, zo, zp, reduceCtorEq, zE, ↓reduceIte]
              refine brB (fun yc52 => ?_) (fun yc52 => ?_)
              · simp -implicitDefEqProofs only [zq0, zq1, zq2, zq7, zq9, yc43, yc44, yc45, yc47, yc48, yc50, yc52, setA, setB, za, zb, zc, zd, ze, zf, zg, zh, zi, zj, zk, zl, zm, zn, zo, zp, reduceCtorEq, zE, ↓reduceIte]
                refine brB (fun yc53 => ?_) (fun yc53 => ?_)
                · simp -implicitDefEqProofs only [Tryd.underlying22, zq0, zq1, zq2, zq7, zq9, yc43, yc44, yc45, yc47, yc48, yc50, yc52, yc53, setA, setB, za, zb, zc, zd, ze, zf, zg, zh, zi, zj, zk, zl, zm, zn, zo, zp, reduceCtorEq, zE, ↓reduceIte]
                  exact j6_44r15v1_t parts0_0 parts0_1 yr46.1 yr46.2.1 yr51.1 yr51.2.1 yr51.2.2.1 yr51.2.2.2 (yr46.2.2.1 == (b7_1.length : Int)) _ _ _ (by exact zq0) (by rfl) (by rfl) (by rfl) (by rfl) (by rfl)
                · simp -implicitDefEqProofs only [zq0, zq1, zq2, zq7, zq9, yc43, yc44, yc45, yc47, yc48, yc50, yc52, yc53, setA, setB, za, zb, zc, zd, ze, zf, zg, zh, zi, zj, zk, zl, zm, zn, zo, zp, reduceCtorEq, zE, ↓reduceIte]
                  exact j6_44r15v1_t parts0_0 parts0_1 yr46.1 yr46.2.1 yr51.1 yr51.2.1 yr51.2.2.1 yr51.2.2.2 false _ _ _ (by exact zq0) (by rfl) (by rfl) (by rfl) (by rfl) (by rfl)
              · simp -implicitDefEqProofs only [zq0, zq1, zq2, zq7, zq9, yc43, yc44, yc45, yc47, yc48, yc50, yc52, setA, setB, za, zb, zc, zd, ze, zf, zg, zh, zi, zj, zk, zl, zm, zn, zo, zp, reduceCtorEq, zE, ↓reduceIte]
                exact j6_44r15v1_t parts0_0 parts0_1 yr46.1 yr46.2.1 yr51.1 yr51.2.1 yr51.2.2.1 yr51.2.2.2 false _ _ _ (by exact zq0) (by rfl) (by rfl) (by rfl) (by rfl) (by rfl)
        · rw [if_neg yc47]; rfl
    · rw [if_neg yc44]; rfl
  · rw [if_neg yc43]; rfl
def j6_31v1 (parts0_0 : Bool) (parts0_1 : List (Bool × List UInt8)) (tail1_0 : Bool) (tail1_1 : List UInt8) (cut2 : Int) (b7_0 : Bool) (b7_1 : List UInt8) (total9 : Int) : Option R6 :=
  if ((b7_1.length : Int) == 0) = true then
    some false
  else
    j6_39v1 parts0_0 parts0_1 tail1_0 tail1_1 cut2 b7_0 b7_1 total9
theorem j6_31v1_t (parts0_0 : Bool) (parts0_1 : List (Bool × List UInt8)) (tail1_0 : Bool) (tail1_1 : List UInt8) (cut2 : Int) (b7_0 : Bool) (b7_1 : List UInt8) (total9 : Int)  (sl : Nat → AV) (zq0 : sl 0 = .v (.c (.d (.lst parts0_0 (enL en0 parts0_1))))) (zq1 : sl 1 = .v (.c (.d (.lst tail1_0 (enL enB tail1_1))))) (zq2 : sl 2 = .v (.c (.d (.sc (.int .u16 cut2))))) (zq7 : sl 7 = .v (.c (.own b7_0 (enL enB b7_1) 0))) (zq9 : sl 9 = .v (.c (.d (.sc (.int .i64 total9))))) :
    bodyD (E0 mm) [.tmp 6] 0 false (den (E0 mm) 6 0 (callW (E0 mm)) itW c6_31 none ⟨sl, [.row b7_1.length (rz b7_0 1)]⟩) = (j6_31v1 parts0_0 parts0_1 tail1_0 tail1_1 cut2 b7_0 b7_1 total9).map e6 := by
  simp -implicitDefEqProofs only [j6_31v1, c6_31_e, c6_32_e, c6_33_r, (show opsOf c6_33 = _ :: _ from rfl), Tryd.underlying22, (show c6_34 = Code.cond _ c6_35 c6_38 from rfl), zq0, zq1, zq2, zq7, zq9, setA, setB, za, zb, zc, zd, ze, zf, zg, zh, zi, zj, zk, zl, zm, zn, zo, zp, reduceCtorEq, zE, ↓reduceIte]
  refine brB (fun yc42 => ?_) (fun yc42 => ?_)
  · simp -implicitDefEqProofs only [c6_35_e, c6_36_r, (show opsOf c6_36 = _ :: _ from rfl), c6_37_e, zq0, zq1, zq2, zq7, zq9, yc42, setA, setB, za, zb, zc, zd, ze, zf, zg, zh, zi, zj, zk, zl, zm, zn, zo, zp, reduceCtorEq, zE, ↓reduceIte]
    all_goals rfl
  · simp -implicitDefEqProofs only [c6_38_e, zq0, zq1, zq2, zq7, zq9, yc42, setA, setB, za, zb, zc, zd, ze, zf, zg, zh, zi, zj, zk, zl, zm, zn, zo, zp, reduceCtorEq, zE, ↓reduceIte]
    exact j6_39v1_t parts0_0 parts0_1 tail1_0 tail1_1 cut2 b7_0 b7_1 total9 _ (by exact zq0) (by exact zq1) (by exact zq2) (by exact zq7) (by exact zq9)
def j6_28r14v1 (t50 : Bool) : Option R6 :=
  some t50
theorem j6_28r14v1_t (t50 : Bool) (g0 : Ob) (sl : Nat → AV) (zq50 : sl 50 = .v (.c (.d (.sc (.bool t50))))) :
    bodyD (E0 mm) [.tmp 6] 0 false (seqD (E0 mm) 6 0 (callW (E0 mm)) itW c6_31 (seqD (E0 mm) 6 0 (callW (E0 mm)) itW c6_29 (regD (runOps (E0 mm) (callW (E0 mm)) (opsOf c6_28) r6_28_14 ⟨sl, [g0]⟩)))) = (j6_28r14v1 t50).map e6 := by
  simp -implicitDefEqProofs only [j6_28r14v1, (show opsOf c6_28 = _ :: _ from rfl), (show r6_28_14 = _ :: _ from rfl), c6_29_e, zq50, setA, setB, za, zb, zc, zd, ze, zf, zg, zh, zi, zj, zk, zl, zm, zn, zo, zp, reduceCtorEq, zE, ↓reduceIte]
  all_goals rfl
def j6_23v1 (parts0_0 : Bool) (parts0_1 : List (Bool × List UInt8)) (tail1_0 : Bool) (tail1_1 : List UInt8) (cut2 : Int) (b7_0 : Bool) (b7_1 : List UInt8) (e8 total9 : Int) : Option R6 :=
  if (e8 == 0) = true then
    j6_31v1 parts0_0 parts0_1 tail1_0 tail1_1 cut2 b7_0 b7_1 total9
  else
    if (e8 == 21) = true then
      if (decide (4096 < total9)) = true then
        j6_28r14v1 ((b7_1.length : Int) == 0)
      else
        j6_28r14v1 false
    else
      j6_28r14v1 false
theorem j6_23v1_t (parts0_0 : Bool) (parts0_1 : List (Bool × List UInt8)) (tail1_0 : Bool) (tail1_1 : List UInt8) (cut2 : Int) (b7_0 : Bool) (b7_1 : List UInt8) (e8 total9 : Int)  (sl : Nat → AV) (zq0 : sl 0 = .v (.c (.d (.lst parts0_0 (enL en0 parts0_1))))) (zq1 : sl 1 = .v (.c (.d (.lst tail1_0 (enL enB tail1_1))))) (zq2 : sl 2 = .v (.c (.d (.sc (.int .u16 cut2))))) (zq7 : sl 7 = .v (.c (.own b7_0 (enL enB b7_1) 0))) (zq8 : sl 8 = .v (.c (.d (.sc (.int .i64 e8))))) (zq9 : sl 9 = .v (.c (.d (.sc (.int .i64 total9))))) :
    bodyD (E0 mm) [.tmp 6] 0 false (den (E0 mm) 6 0 (callW (E0 mm)) itW c6_23 none ⟨sl, [.row b7_1.length (rz b7_0 1)]⟩) = (j6_23v1 parts0_0 parts0_1 tail1_0 tail1_1 cut2 b7_0 b7_1 e8 total9).map e6 := by
  simp -implicitDefEqProofs only [j6_23v1, c6_23_e, c6_24_e, c6_25_r, (show opsOf c6_25 = _ :: _ from rfl), (show c6_26 = Code.cond _ c6_27 c6_30 from rfl), zq0, zq1, zq2, zq7, zq8, zq9, setA, setB, za, zb, zc, zd, ze, zf, zg, zh, zi, zj, zk, zl, zm, zn, zo, zp, reduceCtorEq, zE, ↓reduceIte]
  refine brB (fun yc41 => ?_) (fun yc41 => ?_)
  · simp -implicitDefEqProofs only [c6_30_e, zq0, zq1, zq2, zq7, zq8, zq9, yc41, setA, setB, za, zb, zc, zd, ze, zf, zg, zh, zi, zj, zk, zl, zm, zn, zo, zp, reduceCtorEq, zE, ↓reduceIte]
    exact j6_31v1_t parts0_0 parts0_1 tail1_0 tail1_1 cut2 b7_0 b7_1 total9 _ (by exact zq0) (by exact zq1) (by exact zq2) (by exact zq7) (by exact zq9)
  · simp -implicitDefEqProofs only [c6_27_e, c6_28_r, (show opsOf c6_28 = _ :: _ :: _ :: _ :: _ :: _ :: _ :: _ :: _ :: _ :: _ :: _ :: _ :: _ :: r6_28_14 from rfl), ent11, prm11, f11_t, zq0, zq1, zq2, zq7, zq8, zq9, yc41, setA, setB, za, zb, zc, zd, ze, zf, zg, zh, zi, zj, zk, zl, zm, zn, zo, zp, reduceCtorEq, zE, ↓reduceIte]
    refine brB (fun yc66 => ?_) (fun yc66 => ?_)
    · simp -implicitDefEqProofs only [zq0, zq1, zq2, zq7, zq8, zq9, yc41, yc66, setA, setB, za, zb, zc, zd, ze, zf, zg, zh, zi, zj, zk, zl, zm, zn, zo, zp, reduceCtorEq, zE, ↓reduceIte]
      refine brB (fun yc67 => ?_) (fun yc67 => ?_)
      · simp -implicitDefEqProofs only [Tryd.underlying22, zq0, zq1, zq2, zq7, zq8, zq9, yc41, yc66, yc67, setA, setB, za, zb, zc, zd, ze, zf, zg, zh, zi, zj, zk, zl, zm, zn, zo, zp, reduceCtorEq, zE, ↓reduceIte]
        exact j6_28r14v1_t ((b7_1.length : Int) == 0) _ _ (by rfl)
      · simp -implicitDefEqProofs only [zq0, zq1, zq2, zq7, zq8, zq9, yc41, yc66, yc67, setA, setB, za, zb, zc, zd, ze, zf, zg, zh, zi, zj, zk, zl, zm, zn, zo, zp, reduceCtorEq, zE, ↓reduceIte]
        exact j6_28r14v1_t false _ _ (by rfl)
    · simp -implicitDefEqProofs only [zq0, zq1, zq2, zq7, zq8, zq9, yc41, yc66, setA, setB, za, zb, zc, zd, ze, zf, zg, zh, zi, zj, zk, zl, zm, zn, zo, zp, reduceCtorEq, zE, ↓reduceIte]
      exact j6_28r14v1_t false _ _ (by rfl)
def s6_10v1 (parts0_0 : Bool) (parts0_1 : List (Bool × List UInt8)) (tail1_0 : Bool) (tail1_1 : List UInt8) (cut2 : Int) (b7_0 : Bool) (b7_1 : List UInt8) (e8 total9 : Int) (t23_0 : Bool) (t23_1 : List (Bool × List UInt8)) (t24 t25 : Int) : Option ((Bool × List (Bool × List UInt8) × Bool × List UInt8 × Int × Bool × List UInt8 × Int × Int × Bool × List (Bool × List UInt8) × Int × Int) ⊕ R6) :=
  if (decide (t25 < t24)) = true then
    j6_17v1 parts0_0 parts0_1 tail1_0 tail1_1 cut2 b7_0 b7_1 e8 total9 t23_0 t23_1 t24 t25
  else
    (j6_23v1 parts0_0 parts0_1 tail1_0 tail1_1 cut2 b7_0 b7_1 e8 total9).map .inr
theorem s6_10v1_t (parts0_0 : Bool) (parts0_1 : List (Bool × List UInt8)) (tail1_0 : Bool) (tail1_1 : List UInt8) (cut2 : Int) (b7_0 : Bool) (b7_1 : List UInt8) (e8 total9 : Int) (t23_0 : Bool) (t23_1 : List (Bool × List UInt8)) (t24 t25 : Int) :
    stepE (K6_10v1 (mm := mm)) (loopF (E0 mm) 6 0 (callW (E0 mm)) itW c6_11 [(0, .keep), (1, .keep), (2, .keep), (7, .keep), (8, .keep), (9, .keep), (23, .keep), (24, .keep), (25, .keep)] (none, [.v (.c (.d (.lst parts0_0 (enL en0 parts0_1)))), .v (.c (.d (.lst tail1_0 (enL enB tail1_1)))), .v (.c (.d (.sc (.int .u16 cut2)))), .v (.c (.own b7_0 (enL enB b7_1) 0)), .v (.c (.d (.sc (.int .i64 e8)))), .v (.c (.d (.sc (.int .i64 total9)))), .v (.c (.d (.lst t23_0 (enL en0 t23_1)))), .v (.c (.d (.sc (.int .i64 t24)))), .v (.c (.d (.sc (.int .i64 t25))))], [.row b7_1.length (rz b7_0 1)])) = (s6_10v1 parts0_0 parts0_1 tail1_0 tail1_1 cut2 b7_0 b7_1 e8 total9 t23_0 t23_1 t24 t25).map (sm en6_10v1 e6) := by
  simp -implicitDefEqProofs only [s6_10v1, loopF_eq, c6_11_e, c6_12_r, (show opsOf c6_12 = _ :: _ from rfl), c6_13_e, (show c6_14 = Code.cond _ c6_15 c6_16 from rfl), setA, setB, za, zb, zc, zd, ze, zf, zg, zh, zi, zj, zk, zl, zm, zn, zo, zp, reduceCtorEq, zE, ↓reduceIte]
  refine brB (fun yc38 => ?_) (fun yc38 => ?_)
  · simp -implicitDefEqProofs only [c6_15_e, yc38, setA, setB, za, zb, zc, zd, ze, zf, zg, zh, zi, zj, zk, zl, zm, zn, zo, zp, reduceCtorEq, zE, ↓reduceIte]
    exact j6_17v1_t parts0_0 parts0_1 tail1_0 tail1_1 cut2 b7_0 b7_1 e8 total9 t23_0 t23_1 t24 t25 _ (by rfl) (by rfl) (by rfl) (by rfl) (by rfl) (by rfl) (by rfl) (by rfl) (by rfl)
  · simp -implicitDefEqProofs only [c6_16_e, K6_10v1, yc38, setA, setB, za, zb, zc, zd, ze, zf, zg, zh, zi, zj, zk, zl, zm, zn, zo, zp, reduceCtorEq, zE, ↓reduceIte]
    exact mi (j6_23v1_t parts0_0 parts0_1 tail1_0 tail1_1 cut2 b7_0 b7_1 e8 total9 _ (by rfl) (by rfl) (by rfl) (by rfl) (by rfl) (by rfl))
def l6_10v1 (parts0_0 : Bool) (parts0_1 : List (Bool × List UInt8)) (tail1_0 : Bool) (tail1_1 : List UInt8) (cut2 : Int) (b7_0 : Bool) (b7_1 : List UInt8) (e8 total9 : Int) (t23_0 : Bool) (t23_1 : List (Bool × List UInt8)) (t24 t25 : Int) : Option R6 := iter (fun x : (Bool × List (Bool × List UInt8) × Bool × List UInt8 × Int × Bool × List UInt8 × Int × Int × Bool × List (Bool × List UInt8) × Int × Int) => s6_10v1 x.1 x.2.1 x.2.2.1 x.2.2.2.1 x.2.2.2.2.1 x.2.2.2.2.2.1 x.2.2.2.2.2.2.1 x.2.2.2.2.2.2.2.1 x.2.2.2.2.2.2.2.2.1 x.2.2.2.2.2.2.2.2.2.1 x.2.2.2.2.2.2.2.2.2.2.1 x.2.2.2.2.2.2.2.2.2.2.2.1 x.2.2.2.2.2.2.2.2.2.2.2.2) (parts0_0, parts0_1, tail1_0, tail1_1, cut2, b7_0, b7_1, e8, total9, t23_0, t23_1, t24, t25)
theorem l6_10v1_t (parts0_0 : Bool) (parts0_1 : List (Bool × List UInt8)) (tail1_0 : Bool) (tail1_1 : List UInt8) (cut2 : Int) (b7_0 : Bool) (b7_1 : List UInt8) (e8 total9 : Int) (t23_0 : Bool) (t23_1 : List (Bool × List UInt8)) (t24 t25 : Int) : bodyD (E0 mm) [.tmp 6] 0 false (seqD (E0 mm) 6 0 (callW (E0 mm)) itW c6_23 (blockD 0 (itW (loopF (E0 mm) 6 0 (callW (E0 mm)) itW c6_11 [(0, .keep), (1, .keep), (2, .keep), (7, .keep), (8, .keep), (9, .keep), (23, .keep), (24, .keep), (25, .keep)]) (none, [.v (.c (.d (.lst parts0_0 (enL en0 parts0_1)))), .v (.c (.d (.lst tail1_0 (enL enB tail1_1)))), .v (.c (.d (.sc (.int .u16 cut2)))), .v (.c (.own b7_0 (enL enB b7_1) 0)), .v (.c (.d (.sc (.int .i64 e8)))), .v (.c (.d (.sc (.int .i64 total9)))), .v (.c (.d (.lst t23_0 (enL en0 t23_1)))), .v (.c (.d (.sc (.int .i64 t24)))), .v (.c (.d (.sc (.int .i64 t25))))], [.row b7_1.length (rz b7_0 1)])))) = (l6_10v1 parts0_0 parts0_1 tail1_0 tail1_1 cut2 b7_0 b7_1 e8 total9 t23_0 t23_1 t24 t25).map e6 :=
  it_sim (K := (K6_10v1 (mm := mm))) rfl (enc := en6_10v1) (fun x => s6_10v1_t x.1 x.2.1 x.2.2.1 x.2.2.2.1 x.2.2.2.2.1 x.2.2.2.2.2.1 x.2.2.2.2.2.2.1 x.2.2.2.2.2.2.2.1 x.2.2.2.2.2.2.2.2.1 x.2.2.2.2.2.2.2.2.2.1 x.2.2.2.2.2.2.2.2.2.2.1 x.2.2.2.2.2.2.2.2.2.2.2.1 x.2.2.2.2.2.2.2.2.2.2.2.2) (parts0_0, parts0_1, tail1_0, tail1_1, cut2, b7_0, b7_1, e8, total9, t23_0, t23_1, t24, t25)
def m6 (parts_0 : Bool) (parts_1 : List (Bool × List UInt8)) (tail_0 : Bool) (tail_1 : List UInt8) (cut : Int) : Option R6 :=
  (m12 parts_0 parts_1).bind fun yr2 =>
    match yr2 with
    | .inl yr3 =>
      l6_10 parts_0 parts_1 tail_0 tail_1 cut yr3.1 yr3.2.1 yr3.2.2 (0 : Int) parts_0 parts_1 (parts_1.length : Int) (0 : Int)
    | .inr yr4 =>
      l6_10v1 parts_0 parts_1 tail_0 tail_1 cut yr4.1 yr4.2.1 yr4.2.2 (0 : Int) parts_0 parts_1 (parts_1.length : Int) (0 : Int)
theorem f6_t (parts_0 : Bool) (parts_1 : List (Bool × List UInt8)) (tail_0 : Bool) (tail_1 : List UInt8) (cut : Int) :
    callW (E0 mm) 6 [.c (.d (.lst parts_0 (enL en0 parts_1))), .c (.d (.lst tail_0 (enL enB tail_1))), .c (.d (.sc (.int .u16 cut)))] [] = (m6 parts_0 parts_1 tail_0 tail_1 cut).map e6 := by
  rw [callW_run (body := c6_0) (res := [.tmp 6]) Tryd.func6 rfl rfl (by kernel_rfl)]
  simp -implicitDefEqProofs only [m6, slots3, c6_0_e, c6_1_r, (show opsOf c6_1 = _ :: _ from rfl), c6_2_e, c6_3_r, (show opsOf c6_3 = _ :: _ from rfl), ent12, prm12, f12_t, setA, setB, za, zb, zc, zd, ze, zf, zg, zh, zi, zj, zk, zl, zm, zn, zo, zp, reduceCtorEq, zE, ↓reduceIte]
  refine brM (fun yc1 => ?_) (fun yr2 yc1 => ?_)
  · rw [yc1]; rfl
  · rcases yr2 with yr3 | yr4
    · simp -implicitDefEqProofs only [e12, c6_4_e, c6_5_r, (show opsOf c6_5 = _ :: _ from rfl), c6_6_e, c6_7_e, c6_8_r, (show opsOf c6_8 = _ :: _ from rfl), Tryd.underlying31, c6_9_e, c6_10_l, yc1, setA, setB, za, zb, zc, zd, ze, zf, zg, zh, zi, zj, zk, zl, zm, zn, zo, zp, reduceCtorEq, zE, ↓reduceIte]
      exact l6_10_t parts_0 parts_1 tail_0 tail_1 cut yr3.1 yr3.2.1 yr3.2.2 (0 : Int) parts_0 parts_1 (parts_1.length : Int) (0 : Int)
    · simp -implicitDefEqProofs only [e12, c6_4_e, c6_5_r, (show opsOf c6_5 = _ :: _ from rfl), c6_6_e, c6_7_e, c6_8_r, (show opsOf c6_8 = _ :: _ from rfl), Tryd.underlying31, c6_9_e, c6_10_l, yc1, setA, setB, za, zb, zc, zd, ze, zf, zg, zh, zi, zj, zk, zl, zm, zn, zo, zp, reduceCtorEq, zE, ↓reduceIte]
      exact l6_10v1_t parts_0 parts_1 tail_0 tail_1 cut yr4.1 yr4.2.1 yr4.2.2 (0 : Int) parts_0 parts_1 (parts_1.length : Int) (0 : Int)
end
end Go.Proofs.YtaohepmbkepmiaaDoor
