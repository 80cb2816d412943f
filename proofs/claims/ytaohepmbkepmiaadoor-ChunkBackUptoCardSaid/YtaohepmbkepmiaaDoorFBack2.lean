/- The Go functions as plain functions, and that the evaluator computes them. -/
import Derived.Test.YtaohepmbkepmiaaDoorFBack1
set_option linter.all false
set_option maxRecDepth 100000
namespace Go.Proofs.YtaohepmbkepmiaaDoor
open Go Go.Ab
open Nat renaming reduceEqDiff → za, reduceAdd → zb, reduceLeDiff → zc, reduceLT → zd, reduceMul → ze, reduceBEq → zf, reduceSub → zg, reducePow → zh
open Int renaming reduceEq → zi, reduceLE → zj, reduceLT → zk, reduceToNat → zl, reduceNegSucc → zm, reduceAdd → zn, reduceBEq → zo
open String renaming reduceBEq → zp
set_option maxHeartbeats 4000000
noncomputable section
variable {mm : Int}
noncomputable def c30_0 : Code := bodyOf Tryd.f30
def c30_1 := cA c30_0
def c30_2 := cB c30_0
def c30_3 := cA c30_2
def c30_4 := cB c30_2
theorem c30_0_e : c30_0 = .seq c30_1 c30_2 := rfl
theorem c30_1_r : RG (E0 mm) 30 c30_1 := rgN rfl
theorem c30_2_e : c30_2 = .seq c30_3 c30_4 := rfl
theorem c30_3_r : RG (E0 mm) 30 c30_3 := rgN rfl
theorem c30_4_e : c30_4 = .ret := rfl
abbrev R30 := (Bool)
def e30 : R30 → AV × Heap := fun x => (.v (.c (.d (.sc (.bool x)))), [])
def m30 (s : Bs) : Option R30 :=
  (m47 s).bind fun yr2 =>
    some yr2
theorem f30_t (s : Bs) :
    callW (E0 mm) 30 [.c (.d (.sc (.string (S s))))] [] = (m30 s).map e30 := by
  rw [callW_run (body := c30_0) (res := [.tmp 2]) Tryd.func30 rfl rfl (by kernel_rfl)]
  simp -implicitDefEqProofs only [m30, slots1, c30_0_e, c30_1_r, (show opsOf c30_1 = _ :: _ from rfl), c30_2_e, c30_3_r, (show opsOf c30_3 = _ :: _ from rfl), ent47, prm47, f47_t, setA, setB, za, zb, zc, zd, ze, zf, zg, zh, zi, zj, zk, zl, zm, zn, zo, zp, reduceCtorEq, zE, ↓reduceIte]
  refine brM (fun yc1 => ?_) (fun yr2 yc1 => ?_)
  · rw [yc1]; rfl
  · simp -implicitDefEqProofs only [e47, c30_4_e, yc1, setA, setB, za, zb, zc, zd, ze, zf, zg, zh, zi, zj, zk, zl, zm, zn, zo, zp, reduceCtorEq, zE, ↓reduceIte]
    all_goals rfl
noncomputable def c50_0 : Code := bodyOf Tryd.f50
def c50_1 := cA c50_0
def c50_2 := cB c50_0
def c50_3 := cA c50_2
def c50_4 := cA c50_3
def c50_5 := cA c50_4
def c50_6 := cB c50_4
def c50_7 := cA c50_6
def c50_8 := cA c50_7
def c50_9 := cB c50_7
def c50_10 := cB c50_6
def c50_11 := cA c50_10
def c50_12 := cB c50_10
def c50_13 := cA c50_12
def c50_14 := cA c50_13
def c50_15 := cB c50_13
def c50_16 := cB c50_12
def c50_17 := cA c50_16
def c50_18 := cB c50_16
def c50_19 := cA c50_18
def c50_20 := cA c50_19
def c50_21 := cB c50_19
def c50_22 := cB c50_18
def c50_23 := cB c50_2
def c50_24 := cA c50_23
def c50_25 := cB c50_23
theorem c50_0_e : c50_0 = .seq c50_1 c50_2 := rfl
theorem c50_1_r : RG (E0 mm) 50 c50_1 := rgN rfl
theorem c50_2_e : c50_2 = .seq c50_3 c50_23 := rfl
theorem c50_3_e : c50_3 = .block 0 c50_4 := rfl
theorem c50_4_e : c50_4 = .seq c50_5 c50_6 := rfl
theorem c50_5_r : RG (E0 mm) 50 c50_5 := rgN rfl
theorem c50_7_e : c50_7 = .seq c50_8 c50_9 := rfl
theorem c50_8_r : RG (E0 mm) 50 c50_8 := rgN rfl
theorem c50_9_e : c50_9 = .ret := rfl
theorem c50_10_e : c50_10 = .seq c50_11 c50_12 := rfl
theorem c50_11_r : RG (E0 mm) 50 c50_11 := rgN rfl
theorem c50_13_e : c50_13 = .seq c50_14 c50_15 := rfl
theorem c50_14_r : RG (E0 mm) 50 c50_14 := rgN rfl
theorem c50_15_e : c50_15 = .ret := rfl
theorem c50_16_e : c50_16 = .seq c50_17 c50_18 := rfl
theorem c50_17_r : RG (E0 mm) 50 c50_17 := rgN rfl
theorem c50_19_e : c50_19 = .seq c50_20 c50_21 := rfl
theorem c50_20_r : RG (E0 mm) 50 c50_20 := rgN rfl
theorem c50_21_e : c50_21 = .ret := rfl
theorem c50_22_e : c50_22 = .skip := rfl
theorem c50_23_e : c50_23 = .seq c50_24 c50_25 := rfl
theorem c50_24_r : RG (E0 mm) 50 c50_24 := rgN rfl
theorem c50_25_e : c50_25 = .ret := rfl
abbrev R50 := (Int)
def e50 : R50 → AV × Heap := fun x => (.v (.c (.d (.sc (.int .i64 x)))), [])
def j50_18 (c0 : Int) (t24 : Bool) : Option R50 :=
  if t24 = true then
    some (w64 ((w64 (w32 (c0 - 65))) + 10))
  else
    some (-1 : Int)
theorem j50_18_t (c0 : Int) (t24 : Bool)  (sl : Nat → AV) (zq0 : sl 0 = .v (.c (.d (.sc (.int .i32 c0))))) (zq24 : sl 24 = .v (.c (.d (.sc (.bool t24))))) :
    bodyD (E0 mm) [.tmp 2] 0 false (seqD (E0 mm) 50 0 (callW (E0 mm)) itW c50_23 (blockD 0 (den (E0 mm) 50 0 (callW (E0 mm)) itW c50_18 none ⟨sl, []⟩))) = (j50_18 c0 t24).map e50 := by
  simp -implicitDefEqProofs only [j50_18, (show c50_18 = Code.cond _ c50_19 c50_22 from rfl), zq0, zq24, setA, setB, za, zb, zc, zd, ze, zf, zg, zh, zi, zj, zk, zl, zm, zn, zo, zp, reduceCtorEq, zE, ↓reduceIte]
  refine brB (fun yc6 => ?_) (fun yc6 => ?_)
  · simp -implicitDefEqProofs only [c50_19_e, c50_20_r, (show opsOf c50_20 = _ :: _ from rfl), Tryd.underlying21, Tryd.underlying3, c50_21_e, zq0, zq24, yc6, setA, setB, za, zb, zc, zd, ze, zf, zg, zh, zi, zj, zk, zl, zm, zn, zo, zp, reduceCtorEq, zE, ↓reduceIte]
    all_goals rfl
  · simp -implicitDefEqProofs only [c50_22_e, c50_23_e, c50_24_r, (show opsOf c50_24 = _ :: _ from rfl), c50_25_e, zq0, zq24, yc6, setA, setB, za, zb, zc, zd, ze, zf, zg, zh, zi, zj, zk, zl, zm, zn, zo, zp, reduceCtorEq, zE, ↓reduceIte]
    all_goals rfl
def j50_12 (c0 : Int) (t13 : Bool) : Option R50 :=
  if t13 = true then
    some (w64 ((w64 (w32 (c0 - 97))) + 10))
  else
    if (decide (65 ≤ c0)) = true then
      j50_18 c0 (decide (c0 ≤ 70))
    else
      j50_18 c0 false
theorem j50_12_t (c0 : Int) (t13 : Bool)  (sl : Nat → AV) (zq0 : sl 0 = .v (.c (.d (.sc (.int .i32 c0))))) (zq13 : sl 13 = .v (.c (.d (.sc (.bool t13))))) :
    bodyD (E0 mm) [.tmp 2] 0 false (seqD (E0 mm) 50 0 (callW (E0 mm)) itW c50_23 (blockD 0 (den (E0 mm) 50 0 (callW (E0 mm)) itW c50_12 none ⟨sl, []⟩))) = (j50_12 c0 t13).map e50 := by
  simp -implicitDefEqProofs only [j50_12, (show c50_12 = Code.cond _ c50_13 c50_16 from rfl), zq0, zq13, setA, setB, za, zb, zc, zd, ze, zf, zg, zh, zi, zj, zk, zl, zm, zn, zo, zp, reduceCtorEq, zE, ↓reduceIte]
  refine brB (fun yc4 => ?_) (fun yc4 => ?_)
  · simp -implicitDefEqProofs only [c50_13_e, c50_14_r, (show opsOf c50_14 = _ :: _ from rfl), Tryd.underlying21, Tryd.underlying3, c50_15_e, zq0, zq13, yc4, setA, setB, za, zb, zc, zd, ze, zf, zg, zh, zi, zj, zk, zl, zm, zn, zo, zp, reduceCtorEq, zE, ↓reduceIte]
    all_goals rfl
  · simp -implicitDefEqProofs only [c50_16_e, c50_17_r, (show opsOf c50_17 = _ :: _ from rfl), zq0, zq13, yc4, setA, setB, za, zb, zc, zd, ze, zf, zg, zh, zi, zj, zk, zl, zm, zn, zo, zp, reduceCtorEq, zE, ↓reduceIte]
    refine brB (fun yc5 => ?_) (fun yc5 => ?_)
    · simp -implicitDefEqProofs only [zq0, zq13, yc4, yc5, setA, setB, za, zb, zc, zd, ze, zf, zg, zh, zi, zj, zk, zl, zm, zn, zo, zp, reduceCtorEq, zE, ↓reduceIte]
      exact j50_18_t c0 (decide (c0 ≤ 70)) _ (by exact zq0) (by rfl)
    · simp -implicitDefEqProofs only [zq0, zq13, yc4, yc5, setA, setB, za, zb, zc, zd, ze, zf, zg, zh, zi, zj, zk, zl, zm, zn, zo, zp, reduceCtorEq, zE, ↓reduceIte]
      exact j50_18_t c0 false _ (by exact zq0) (by rfl)
def j50_6 (c0 : Int) (t3 : Bool) : Option R50 :=
  if t3 = true then
    some (w64 (w32 (c0 - 48)))
  else
    if (decide (97 ≤ c0)) = true then
      j50_12 c0 (decide (c0 ≤ 102))
    else
      j50_12 c0 false
theorem j50_6_t (c0 : Int) (t3 : Bool)  (sl : Nat → AV) (zq0 : sl 0 = .v (.c (.d (.sc (.int .i32 c0))))) (zq3 : sl 3 = .v (.c (.d (.sc (.bool t3))))) :
    bodyD (E0 mm) [.tmp 2] 0 false (seqD (E0 mm) 50 0 (callW (E0 mm)) itW c50_23 (blockD 0 (den (E0 mm) 50 0 (callW (E0 mm)) itW c50_6 none ⟨sl, []⟩))) = (j50_6 c0 t3).map e50 := by
  simp -implicitDefEqProofs only [j50_6, (show c50_6 = Code.cond _ c50_7 c50_10 from rfl), zq0, zq3, setA, setB, za, zb, zc, zd, ze, zf, zg, zh, zi, zj, zk, zl, zm, zn, zo, zp, reduceCtorEq, zE, ↓reduceIte]
  refine brB (fun yc2 => ?_) (fun yc2 => ?_)
  · simp -implicitDefEqProofs only [c50_7_e, c50_8_r, (show opsOf c50_8 = _ :: _ from rfl), Tryd.underlying21, Tryd.underlying3, c50_9_e, zq0, zq3, yc2, setA, setB, za, zb, zc, zd, ze, zf, zg, zh, zi, zj, zk, zl, zm, zn, zo, zp, reduceCtorEq, zE, ↓reduceIte]
    all_goals rfl
  · simp -implicitDefEqProofs only [c50_10_e, c50_11_r, (show opsOf c50_11 = _ :: _ from rfl), zq0, zq3, yc2, setA, setB, za, zb, zc, zd, ze, zf, zg, zh, zi, zj, zk, zl, zm, zn, zo, zp, reduceCtorEq, zE, ↓reduceIte]
    refine brB (fun yc3 => ?_) (fun yc3 => ?_)
    · simp -implicitDefEqProofs only [zq0, zq3, yc2, yc3, setA, setB, za, zb, zc, zd, ze, zf, zg, zh, zi, zj, zk, zl, zm, zn, zo, zp, reduceCtorEq, zE, ↓reduceIte]
      exact j50_12_t c0 (decide (c0 ≤ 102)) _ (by exact zq0) (by rfl)
    · simp -implicitDefEqProofs only [zq0, zq3, yc2, yc3, setA, setB, za, zb, zc, zd, ze, zf, zg, zh, zi, zj, zk, zl, zm, zn, zo, zp, reduceCtorEq, zE, ↓reduceIte]
      exact j50_12_t c0 false _ (by exact zq0) (by rfl)
def m50 (c : Int) : Option R50 :=
  if (decide (48 ≤ c)) = true then
    j50_6 c (decide (c ≤ 57))
  else
    j50_6 c false
theorem f50_t (c : Int) :
    callW (E0 mm) 50 [.c (.d (.sc (.int .i32 c)))] [] = (m50 c).map e50 := by
  rw [callW_run (body := c50_0) (res := [.tmp 2]) Tryd.func50 rfl rfl (by kernel_rfl)]
  simp -implicitDefEqProofs only [m50, slots1, c50_0_e, c50_1_r, (show opsOf c50_1 = _ :: _ from rfl), c50_2_e, c50_3_e, c50_4_e, c50_5_r, (show opsOf c50_5 = _ :: _ from rfl), setA, setB, za, zb, zc, zd, ze, zf, zg, zh, zi, zj, zk, zl, zm, zn, zo, zp, reduceCtorEq, zE, ↓reduceIte]
  refine brB (fun yc1 => ?_) (fun yc1 => ?_)
  · simp -implicitDefEqProofs only [yc1, setA, setB, za, zb, zc, zd, ze, zf, zg, zh, zi, zj, zk, zl, zm, zn, zo, zp, reduceCtorEq, zE, ↓reduceIte]
    exact j50_6_t c (decide (c ≤ 57)) _ (by rfl) (by rfl)
  · simp -implicitDefEqProofs only [yc1, setA, setB, za, zb, zc, zd, ze, zf, zg, zh, zi, zj, zk, zl, zm, zn, zo, zp, reduceCtorEq, zE, ↓reduceIte]
    exact j50_6_t c false _ (by rfl) (by rfl)
noncomputable def c49_0 : Code := bodyOf Tryd.f49
def c49_1 := cA c49_0
def c49_2 := cB c49_0
def c49_3 := cA c49_2
def c49_4 := cA c49_3
def c49_5 := cB c49_3
def c49_6 := cA c49_5
def c49_7 := cA c49_6
def c49_8 := cB c49_6
def c49_9 := cB c49_5
def c49_10 := cB c49_2
def c49_11 := cA c49_10
def c49_12 := cB c49_10
def c49_13 := cA c49_12
def c49_14 := cA c49_13
def c49_15 := cB c49_13
def c49_16 := cA c49_15
def c49_17 := cA c49_16
def c49_18 := cA c49_17
def c49_19 := cB c49_17
def c49_20 := cA c49_19
def c49_21 := cA c49_20
def c49_22 := cB c49_20
def c49_23 := cB c49_19
def c49_24 := cA c49_23
def c49_25 := cA c49_24
def c49_26 := cB c49_24
def c49_27 := cA c49_26
def c49_28 := cB c49_26
def c49_29 := cA c49_28
def c49_30 := cA c49_29
def c49_31 := cB c49_29
def c49_32 := cA c49_31
def c49_33 := cA c49_32
def c49_34 := cB c49_32
def c49_35 := cB c49_31
def c49_36 := cB c49_28
def c49_37 := cA c49_36
def c49_38 := cA c49_37
def c49_39 := cB c49_37
def c49_40 := cA c49_39
def c49_41 := cA c49_40
def c49_42 := cB c49_40
def c49_43 := cB c49_39
def c49_44 := cB c49_36
def c49_45 := cB c49_12
def c49_46 := cA c49_45
def c49_47 := cA c49_46
def c49_48 := cB c49_46
def c49_49 := cA c49_48
def c49_50 := cA c49_49
def c49_51 := cB c49_49
def c49_52 := cB c49_48
def c49_53 := cB c49_45
def c49_54 := cA c49_53
def c49_55 := cB c49_53
theorem c49_0_e : c49_0 = .seq c49_1 c49_2 := rfl
theorem c49_1_r : RG (E0 mm) 49 c49_1 := rgN rfl
theorem c49_2_e : c49_2 = .seq c49_3 c49_10 := rfl
theorem c49_3_e : c49_3 = .seq c49_4 c49_5 := rfl
theorem c49_4_r : RG (E0 mm) 49 c49_4 := rgN rfl
theorem c49_6_e : c49_6 = .seq c49_7 c49_8 := rfl
theorem c49_7_r : RG (E0 mm) 49 c49_7 := rgN rfl
theorem c49_8_e : c49_8 = .ret := rfl
theorem c49_9_e : c49_9 = .skip := rfl
theorem c49_10_e : c49_10 = .seq c49_11 c49_12 := rfl
theorem c49_11_r : RG (E0 mm) 49 c49_11 := rgN rfl
theorem c49_12_e : c49_12 = .seq c49_13 c49_45 := rfl
theorem c49_13_e : c49_13 = .seq c49_14 c49_15 := rfl
theorem c49_14_r : RG (E0 mm) 49 c49_14 := rgN rfl
theorem c49_15_e : c49_15 = .block 0 c49_16 := rfl
theorem c49_16_l (m : Nat) (st : St) : den (E0 mm) 49 m (callW (E0 mm)) itW c49_16 none st = loopD itW (loopF (E0 mm) 49 m (callW (E0 mm)) itW c49_17 [(1, .keep), (2, .keep), (8, .keep), (9, .keep), (16, .keep)]) (canon m [(1, .keep), (2, .keep), (8, .keep), (9, .keep), (16, .keep)] st) := rfl
theorem c49_17_e : c49_17 = .seq c49_18 c49_19 := rfl
theorem c49_18_r : RG (E0 mm) 49 c49_18 := rgN rfl
theorem c49_19_e : c49_19 = .seq c49_20 c49_23 := rfl
theorem c49_21_e : c49_21 = .skip := rfl
theorem c49_22_e : c49_22 = .exit 0 := rfl
theorem c49_23_e : c49_23 = .block 1 c49_24 := rfl
theorem c49_24_e : c49_24 = .seq c49_25 c49_26 := rfl
theorem c49_25_r : RG (E0 mm) 49 c49_25 := rgN rfl
theorem c49_26_e : c49_26 = .seq c49_27 c49_28 := rfl
theorem c49_27_r : RG (E0 mm) 49 c49_27 := rgN rfl
theorem c49_28_e : c49_28 = .seq c49_29 c49_36 := rfl
theorem c49_29_e : c49_29 = .seq c49_30 c49_31 := rfl
theorem c49_30_r : RG (E0 mm) 49 c49_30 := rgN rfl
theorem c49_32_e : c49_32 = .seq c49_33 c49_34 := rfl
theorem c49_33_r : RG (E0 mm) 49 c49_33 := rgN rfl
theorem c49_34_e : c49_34 = .ret := rfl
theorem c49_35_e : c49_35 = .skip := rfl
theorem c49_36_e : c49_36 = .seq c49_37 c49_44 := rfl
theorem c49_37_e : c49_37 = .seq c49_38 c49_39 := rfl
theorem c49_38_r : RG (E0 mm) 49 c49_38 := rgN rfl
theorem c49_40_e : c49_40 = .seq c49_41 c49_42 := rfl
theorem c49_41_r : RG (E0 mm) 49 c49_41 := rgN rfl
theorem c49_42_e : c49_42 = .exit 1 := rfl
theorem c49_43_e : c49_43 = .skip := rfl
theorem c49_44_r : RG (E0 mm) 49 c49_44 := rgN rfl
theorem c49_45_e : c49_45 = .seq c49_46 c49_53 := rfl
theorem c49_46_e : c49_46 = .seq c49_47 c49_48 := rfl
theorem c49_47_r : RG (E0 mm) 49 c49_47 := rgN rfl
theorem c49_49_e : c49_49 = .seq c49_50 c49_51 := rfl
theorem c49_50_r : RG (E0 mm) 49 c49_50 := rgN rfl
theorem c49_51_e : c49_51 = .ret := rfl
theorem c49_52_e : c49_52 = .skip := rfl
theorem c49_53_e : c49_53 = .seq c49_54 c49_55 := rfl
theorem c49_54_r : RG (E0 mm) 49 c49_54 := rgN rfl
theorem c49_55_e : c49_55 = .ret := rfl
abbrev R49 := (Int × Int)
def e49 : R49 → AV × Heap := fun x => (.tup [.c (.d (.sc (.int .u64 x.1))), .c (.d (.sc (.int .i64 x.2)))], [])
def K49_16 : Option (Ex × St) → Option (AV × Heap) := fun r => bodyD (E0 mm) [.tmp 6, .tmp 7] 0 false (seqD (E0 mm) 49 0 (callW (E0 mm)) itW c49_45 (blockD 0 (r)))
def en49_16 : (Int × Int × Bool × Bs × Nat) → X := fun x => (none, [.v (.c (.d (.sc (.int .u64 x.1)))), .v (.c (.d (.sc (.func (.func 50) #[] #[])))), .v (.c (.d (.sc (.int .u64 x.2.1)))), .v (.c (.d (.sc (.bool x.2.2.1)))), .v (.c (.it 0))], [.siter (S x.2.2.2.1) x.2.2.2.2])
def j49_39 (base1 n8 : Int) (long9 : Bool) (d12 : Int) (t34 : Bool) (s0 : Bs) (p0 : Nat) : Option ((Int × Int × Bool × Bs × Nat) ⊕ R49) :=
  if t34 = true then
    some (.inl (base1, n8, true, s0, p0))
  else
    some (.inl (base1, (wu64 ((wu64 (n8 * base1)) + (wu64 d12))), long9, s0, p0))
theorem j49_39_t (base1 n8 : Int) (long9 : Bool) (d12 : Int) (t34 : Bool) (s0 : Bs) (p0 : Nat)  (sl : Nat → AV) (zq1 : sl 1 = .v (.c (.d (.sc (.int .u64 base1))))) (zq2 : sl 2 = .v (.c (.d (.sc (.func (.func 50) #[] #[]))))) (zq8 : sl 8 = .v (.c (.d (.sc (.int .u64 n8))))) (zq9 : sl 9 = .v (.c (.d (.sc (.bool long9))))) (zq12 : sl 12 = .v (.c (.d (.sc (.int .i64 d12))))) (zq16 : sl 16 = .v (.c (.it 0))) (zq34 : sl 34 = .v (.c (.d (.sc (.bool t34))))) :
    stepE (K49_16 (mm := mm)) (loopK 0 [(1, .keep), (2, .keep), (8, .keep), (9, .keep), (16, .keep)] (blockD 1 (seqD (E0 mm) 49 0 (callW (E0 mm)) itW c49_44 (den (E0 mm) 49 0 (callW (E0 mm)) itW c49_39 none ⟨sl, [.siter (S s0) p0]⟩)))) = (j49_39 base1 n8 long9 d12 t34 s0 p0).map (sm en49_16 e49) := by
  simp -implicitDefEqProofs only [j49_39, (show c49_39 = Code.cond _ c49_40 c49_43 from rfl), zq1, zq2, zq8, zq9, zq12, zq16, zq34, setA, setB, za, zb, zc, zd, ze, zf, zg, zh, zi, zj, zk, zl, zm, zn, zo, zp, reduceCtorEq, zE, ↓reduceIte]
  refine brB (fun yc8 => ?_) (fun yc8 => ?_)
  · simp -implicitDefEqProofs only [c49_40_e, c49_41_r, (show opsOf c49_41 = _ :: _ from rfl), c49_42_e, zq1, zq2, zq8, zq9, zq12, zq16, zq34, yc8, setA, setB, za, zb, zc, zd, ze, zf, zg, zh, zi, zj, zk, zl, zm, zn, zo, zp, reduceCtorEq, zE, ↓reduceIte]
    all_goals rfl
  · simp -implicitDefEqProofs only [c49_43_e, c49_44_r, (show opsOf c49_44 = _ :: _ from rfl), Tryd.underlying3, Tryd.underlying43, zq1, zq2, zq8, zq9, zq12, zq16, zq34, yc8, setA, setB, za, zb, zc, zd, ze, zf, zg, zh, zi, zj, zk, zl, zm, zn, zo, zp, reduceCtorEq, zE, ↓reduceIte]
    all_goals rfl
def j49_45 (n8 : Int) (long9 : Bool) : Option R49 :=
  if long9 = true then
    some ((0 : Int), (3 : Int))
  else
    some (n8, (0 : Int))
theorem j49_45_t (n8 : Int) (long9 : Bool) (g0 : Ob) (sl : Nat → AV) (zq8 : sl 8 = .v (.c (.d (.sc (.int .u64 n8))))) (zq9 : sl 9 = .v (.c (.d (.sc (.bool long9))))) :
    bodyD (E0 mm) [.tmp 6, .tmp 7] 0 false (den (E0 mm) 49 0 (callW (E0 mm)) itW c49_45 none ⟨sl, [g0]⟩) = (j49_45 n8 long9).map e49 := by
  simp -implicitDefEqProofs only [j49_45, c49_45_e, c49_46_e, c49_47_r, (show opsOf c49_47 = _ :: _ from rfl), (show c49_48 = Code.cond _ c49_49 c49_52 from rfl), zq8, zq9, setA, setB, za, zb, zc, zd, ze, zf, zg, zh, zi, zj, zk, zl, zm, zn, zo, zp, reduceCtorEq, zE, ↓reduceIte]
  refine brB (fun yc10 => ?_) (fun yc10 => ?_)
  · simp -implicitDefEqProofs only [c49_49_e, c49_50_r, (show opsOf c49_50 = _ :: _ from rfl), c49_51_e, zq8, zq9, yc10, setA, setB, za, zb, zc, zd, ze, zf, zg, zh, zi, zj, zk, zl, zm, zn, zo, zp, reduceCtorEq, zE, ↓reduceIte]
    all_goals rfl
  · simp -implicitDefEqProofs only [c49_52_e, c49_53_e, c49_54_r, (show opsOf c49_54 = _ :: _ from rfl), c49_55_e, zq8, zq9, yc10, setA, setB, za, zb, zc, zd, ze, zf, zg, zh, zi, zj, zk, zl, zm, zn, zo, zp, reduceCtorEq, zE, ↓reduceIte]
    all_goals rfl
def s49_16 (base1 n8 : Int) (long9 : Bool) (s0 : Bs) (p0 : Nat) : Option ((Int × Int × Bool × Bs × Nat) ⊕ R49) :=
  if (decide (p0 < s0.length)) = true then
    (m50 (uc s0 p0 : Int)).bind fun yr5 =>
      if (decide (yr5 < 0)) = true then
        some (.inr ((0 : Int), (5 : Int)))
      else
        if long9 = true then
          j49_39 base1 n8 true yr5 true s0 (p0 + uw s0 p0)
        else
          if (base1 == 0) = false then
            j49_39 base1 n8 false yr5 (decide ((wu64 ((wu64 (9007199254740991 - (wu64 yr5))).tdiv base1)) < n8)) s0 (p0 + uw s0 p0)
          else none
  else
    (j49_45 n8 long9).map .inr
theorem s49_16_t (base1 n8 : Int) (long9 : Bool) (s0 : Bs) (p0 : Nat) :
    stepE (K49_16 (mm := mm)) (loopF (E0 mm) 49 0 (callW (E0 mm)) itW c49_17 [(1, .keep), (2, .keep), (8, .keep), (9, .keep), (16, .keep)] (none, [.v (.c (.d (.sc (.int .u64 base1)))), .v (.c (.d (.sc (.func (.func 50) #[] #[])))), .v (.c (.d (.sc (.int .u64 n8)))), .v (.c (.d (.sc (.bool long9)))), .v (.c (.it 0))], [.siter (S s0) p0])) = (s49_16 base1 n8 long9 s0 p0).map (sm en49_16 e49) := by
  simp -implicitDefEqProofs only [s49_16, loopF_eq, c49_17_e, c49_18_r, (show opsOf c49_18 = _ :: _ from rfl), dec_eq, setA, setB, za, zb, zc, zd, ze, zf, zg, zh, zi, zj, zk, zl, zm, zn, zo, zp, reduceCtorEq, zE, ↓reduceIte]
  refine brB (fun yc2 => ?_) (fun yc2 => ?_)
  · have yd3 := of_decide_eq_true yc2
    simp -implicitDefEqProofs only [c49_19_e, (show c49_20 = Code.cond _ c49_21 c49_22 from rfl), c49_21_e, c49_23_e, c49_24_e, c49_25_r, (show opsOf c49_25 = _ :: _ from rfl), c49_26_e, c49_27_r, (show opsOf c49_27 = _ :: _ from rfl), ent50, prm50, f50_t, yd3, setA, setB, za, zb, zc, zd, ze, zf, zg, zh, zi, zj, zk, zl, zm, zn, zo, zp, reduceCtorEq, zE, ↓reduceIte]
    refine brM (fun yc4 => ?_) (fun yr5 yc4 => ?_)
    · rw [yc4]; rfl
    · simp -implicitDefEqProofs only [e50, c49_28_e, c49_29_e, c49_30_r, (show opsOf c49_30 = _ :: _ from rfl), (show c49_31 = Code.cond _ c49_32 c49_35 from rfl), yd3, yc4, setA, setB, za, zb, zc, zd, ze, zf, zg, zh, zi, zj, zk, zl, zm, zn, zo, zp, reduceCtorEq, zE, ↓reduceIte]
      refine brB (fun yc6 => ?_) (fun yc6 => ?_)
      · simp -implicitDefEqProofs only [c49_32_e, c49_33_r, (show opsOf c49_33 = _ :: _ from rfl), c49_34_e, K49_16, yd3, yc4, yc6, setA, setB, za, zb, zc, zd, ze, zf, zg, zh, zi, zj, zk, zl, zm, zn, zo, zp, reduceCtorEq, zE, ↓reduceIte]
        all_goals rfl
      · simp -implicitDefEqProofs only [c49_35_e, c49_36_e, c49_37_e, c49_38_r, (show opsOf c49_38 = _ :: _ from rfl), yd3, yc4, yc6, setA, setB, za, zb, zc, zd, ze, zf, zg, zh, zi, zj, zk, zl, zm, zn, zo, zp, reduceCtorEq, zE, ↓reduceIte]
        refine brB (fun yc7 => ?_) (fun yc7 => ?_)
        · simp -implicitDefEqProofs only [yd3, yc4, yc6, yc7, setA, setB, za, zb, zc, zd, ze, zf, zg, zh, zi, zj, zk, zl, zm, zn, zo, zp, reduceCtorEq, zE, ↓reduceIte]
          exact j49_39_t base1 n8 true yr5 true s0 (p0 + uw s0 p0) _ (by rfl) (by rfl) (by rfl) (by rfl) (by rfl) (by rfl) (by rfl)
        · simp -implicitDefEqProofs only [Tryd.underlying3, Tryd.underlying43, ev_quo0, yd3, yc4, yc6, yc7, setA, setB, za, zb, zc, zd, ze, zf, zg, zh, zi, zj, zk, zl, zm, zn, zo, zp, reduceCtorEq, zE, ↓reduceIte]
          refine brP (fun yc9 => ?_) (fun yc9 => ?_)
          · simp -implicitDefEqProofs only [yd3, yc4, yc6, yc7, yc9, setA, setB, za, zb, zc, zd, ze, zf, zg, zh, zi, zj, zk, zl, zm, zn, zo, zp, reduceCtorEq, zE, ↓reduceIte]
            exact j49_39_t base1 n8 false yr5 (decide ((wu64 ((wu64 (9007199254740991 - (wu64 yr5))).tdiv base1)) < n8)) s0 (p0 + uw s0 p0) _ (by rfl) (by rfl) (by rfl) (by rfl) (by rfl) (by rfl) (by rfl)
          · rw [if_neg yc9]; rfl
  · have yd3 := of_decide_eq_false yc2
    simp -implicitDefEqProofs only [c49_19_e, (show c49_20 = Code.cond _ c49_21 c49_22 from rfl), c49_22_e, K49_16, yd3, setA, setB, za, zb, zc, zd, ze, zf, zg, zh, zi, zj, zk, zl, zm, zn, zo, zp, reduceCtorEq, zE, ↓reduceIte]
    exact mi (j49_45_t n8 long9 _ _ (by rfl) (by rfl))
def l49_16 (base1 n8 : Int) (long9 : Bool) (s0 : Bs) (p0 : Nat) : Option R49 := iter (fun x : (Int × Int × Bool × Bs × Nat) => s49_16 x.1 x.2.1 x.2.2.1 x.2.2.2.1 x.2.2.2.2) (base1, n8, long9, s0, p0)
theorem l49_16_t (base1 n8 : Int) (long9 : Bool) (s0 : Bs) (p0 : Nat) : bodyD (E0 mm) [.tmp 6, .tmp 7] 0 false (seqD (E0 mm) 49 0 (callW (E0 mm)) itW c49_45 (blockD 0 (itW (loopF (E0 mm) 49 0 (callW (E0 mm)) itW c49_17 [(1, .keep), (2, .keep), (8, .keep), (9, .keep), (16, .keep)]) (none, [.v (.c (.d (.sc (.int .u64 base1)))), .v (.c (.d (.sc (.func (.func 50) #[] #[])))), .v (.c (.d (.sc (.int .u64 n8)))), .v (.c (.d (.sc (.bool long9)))), .v (.c (.it 0))], [.siter (S s0) p0])))) = (l49_16 base1 n8 long9 s0 p0).map e49 :=
  it_sim (K := (K49_16 (mm := mm))) rfl (enc := en49_16) (fun x => s49_16_t x.1 x.2.1 x.2.2.1 x.2.2.2.1 x.2.2.2.2) (base1, n8, long9, s0, p0)
def m49 (s : Bs) (base : Int) : Option R49 :=
  if (s == ([] : Bs)) = true then
    some ((0 : Int), (5 : Int))
  else
    l49_16 base (0 : Int) false s 0
theorem f49_t (s : Bs) (base : Int) :
    callW (E0 mm) 49 [.c (.d (.sc (.string (S s)))), .c (.d (.sc (.int .u64 base))), .c (.d (.sc (.func (.func 50) #[] #[])))] [] = (m49 s base).map e49 := by
  rw [callW_run (body := c49_0) (res := [.tmp 6, .tmp 7]) Tryd.func49 rfl rfl (by kernel_rfl)]
  simp -implicitDefEqProofs only [m49, slots3, c49_0_e, c49_1_r, (show opsOf c49_1 = _ :: _ from rfl), c49_2_e, c49_3_e, c49_4_r, (show opsOf c49_4 = _ :: _ from rfl), (show c49_5 = Code.cond _ c49_6 c49_9 from rfl), setA, setB, za, zb, zc, zd, ze, zf, zg, zh, zi, zj, zk, zl, zm, zn, zo, zp, reduceCtorEq, zE, ↓reduceIte]
  refine brB (fun yc1 => ?_) (fun yc1 => ?_)
  · simp -implicitDefEqProofs only [c49_6_e, c49_7_r, (show opsOf c49_7 = _ :: _ from rfl), c49_8_e, yc1, setA, setB, za, zb, zc, zd, ze, zf, zg, zh, zi, zj, zk, zl, zm, zn, zo, zp, reduceCtorEq, zE, ↓reduceIte]
    all_goals rfl
  · simp -implicitDefEqProofs only [c49_9_e, c49_10_e, c49_11_r, (show opsOf c49_11 = _ :: _ from rfl), c49_12_e, c49_13_e, c49_14_r, (show opsOf c49_14 = _ :: _ from rfl), Tryd.underlying9, c49_15_e, c49_16_l, yc1, setA, setB, za, zb, zc, zd, ze, zf, zg, zh, zi, zj, zk, zl, zm, zn, zo, zp, reduceCtorEq, zE, ↓reduceIte]
    exact l49_16_t base (0 : Int) false s 0
noncomputable def c31_0 : Code := bodyOf Tryd.f31
def c31_1 := cA c31_0
def c31_2 := cB c31_0
def c31_3 := cA c31_2
def c31_4 := cB c31_2
theorem c31_0_e : c31_0 = .seq c31_1 c31_2 := rfl
theorem c31_1_r : RG (E0 mm) 31 c31_1 := rgN rfl
theorem c31_2_e : c31_2 = .seq c31_3 c31_4 := rfl
theorem c31_3_r : RG (E0 mm) 31 c31_3 := rgN rfl
theorem c31_4_e : c31_4 = .ret := rfl
abbrev R31 := (Int × Int)
def e31 : R31 → AV × Heap := fun x => (.tup [.c (.d (.sc (.int .u64 x.1))), .c (.d (.sc (.int .i64 x.2)))], [])
def m31 (s : Bs) : Option R31 :=
  (m49 s (16 : Int)).bind fun yr2 =>
    some (yr2.1, yr2.2)
theorem f31_t (s : Bs) :
    callW (E0 mm) 31 [.c (.d (.sc (.string (S s))))] [] = (m31 s).map e31 := by
  rw [callW_run (body := c31_0) (res := [.tmp 2, .tmp 3]) Tryd.func31 rfl rfl (by kernel_rfl)]
  simp -implicitDefEqProofs only [m31, slots1, c31_0_e, c31_1_r, (show opsOf c31_1 = _ :: _ from rfl), c31_2_e, c31_3_r, (show opsOf c31_3 = _ :: _ from rfl), ent49, prm49, f49_t, setA, setB, za, zb, zc, zd, ze, zf, zg, zh, zi, zj, zk, zl, zm, zn, zo, zp, reduceCtorEq, zE, ↓reduceIte]
  refine brM (fun yc1 => ?_) (fun yr2 yc1 => ?_)
  · rw [yc1]; rfl
  · simp -implicitDefEqProofs only [e49, c31_4_e, yc1, setA, setB, za, zb, zc, zd, ze, zf, zg, zh, zi, zj, zk, zl, zm, zn, zo, zp, reduceCtorEq, zE, ↓reduceIte]
    all_goals rfl
noncomputable def c18_0 : Code := bodyOf Tryd.f18
def c18_1 := cA c18_0
def c18_2 := cB c18_0
def c18_3 := cA c18_2
def c18_4 := cB c18_2
def c18_5 := cA c18_4
def c18_6 := cA c18_5
def c18_7 := cB c18_5
def c18_8 := cA c18_7
def c18_9 := cA c18_8
def c18_10 := cB c18_8
def c18_11 := cB c18_7
def c18_12 := cB c18_4
def c18_13 := cA c18_12
def c18_14 := cB c18_12
def c18_15 := cA c18_14
def c18_16 := cA c18_15
def c18_17 := cB c18_15
def c18_18 := cA c18_17
def c18_19 := cA c18_18
def c18_20 := cB c18_18
def c18_21 := cA c18_20
def c18_22 := cA c18_21
def c18_23 := cB c18_21
def c18_24 := cB c18_20
def c18_25 := cA c18_24
def c18_26 := cB c18_24
def c18_27 := cA c18_26
def c18_28 := cA c18_27
def c18_29 := cB c18_27
def c18_30 := cB c18_26
def c18_31 := cB c18_14
def c18_32 := cA c18_31
def c18_33 := cB c18_31
theorem c18_0_e : c18_0 = .seq c18_1 c18_2 := rfl
theorem c18_1_r : RG (E0 mm) 18 c18_1 := rgN rfl
theorem c18_2_e : c18_2 = .seq c18_3 c18_4 := rfl
theorem c18_3_r : RG (E0 mm) 18 c18_3 := rgN rfl
theorem c18_4_e : c18_4 = .seq c18_5 c18_12 := rfl
theorem c18_5_e : c18_5 = .seq c18_6 c18_7 := rfl
theorem c18_6_r : RG (E0 mm) 18 c18_6 := rgN rfl
theorem c18_8_e : c18_8 = .seq c18_9 c18_10 := rfl
theorem c18_9_r : RG (E0 mm) 18 c18_9 := rgN rfl
theorem c18_10_e : c18_10 = .ret := rfl
theorem c18_11_e : c18_11 = .skip := rfl
theorem c18_12_e : c18_12 = .seq c18_13 c18_14 := rfl
theorem c18_13_r : RG (E0 mm) 18 c18_13 := rgN rfl
theorem c18_14_e : c18_14 = .seq c18_15 c18_31 := rfl
theorem c18_15_e : c18_15 = .seq c18_16 c18_17 := rfl
theorem c18_16_r : RG (E0 mm) 18 c18_16 := rgN rfl
theorem c18_17_e : c18_17 = .block 0 c18_18 := rfl
theorem c18_18_e : c18_18 = .seq c18_19 c18_20 := rfl
theorem c18_19_r : RG (E0 mm) 18 c18_19 := rgN rfl
theorem c18_21_e : c18_21 = .seq c18_22 c18_23 := rfl
theorem c18_22_r : RG (E0 mm) 18 c18_22 := rgN rfl
theorem c18_23_e : c18_23 = .ret := rfl
theorem c18_24_e : c18_24 = .seq c18_25 c18_26 := rfl
theorem c18_25_r : RG (E0 mm) 18 c18_25 := rgN rfl
theorem c18_27_e : c18_27 = .seq c18_28 c18_29 := rfl
theorem c18_28_r : RG (E0 mm) 18 c18_28 := rgN rfl
theorem c18_29_e : c18_29 = .ret := rfl
theorem c18_30_e : c18_30 = .skip := rfl
theorem c18_31_e : c18_31 = .seq c18_32 c18_33 := rfl
theorem c18_32_r : RG (E0 mm) 18 c18_32 := rgN rfl
theorem c18_33_e : c18_33 = .ret := rfl
abbrev R18 := (Int × Int)
def e18 : R18 → AV × Heap := fun x => (.tup [.c (.d (.sc (.int .u64 x.1))), .c (.d (.sc (.int .i64 x.2)))], [])
def j18_7 (digits4 : Bs) (t20 : Bool) : Option R18 :=
  if t20 = true then
    some ((0 : Int), (20 : Int))
  else
    (m31 digits4).bind fun yr8 =>
      if (yr8.2 == 0) = true then
        some (yr8.1, (0 : Int))
      else
        if (yr8.2 == 3) = true then
          some ((0 : Int), (21 : Int))
        else
          some ((0 : Int), (20 : Int))
theorem j18_7_t (digits4 : Bs) (t20 : Bool)  (sl : Nat → AV) (zq4 : sl 4 = .v (.c (.d (.sc (.string (S digits4)))))) (zq20 : sl 20 = .v (.c (.d (.sc (.bool t20))))) :
    bodyD (E0 mm) [.tmp 2, .tmp 3] 0 false (seqD (E0 mm) 18 0 (callW (E0 mm)) itW c18_12 (den (E0 mm) 18 0 (callW (E0 mm)) itW c18_7 none ⟨sl, []⟩)) = (j18_7 digits4 t20).map e18 := by
  simp -implicitDefEqProofs only [j18_7, (show c18_7 = Code.cond _ c18_8 c18_11 from rfl), zq4, zq20, setA, setB, za, zb, zc, zd, ze, zf, zg, zh, zi, zj, zk, zl, zm, zn, zo, zp, reduceCtorEq, zE, ↓reduceIte]
  refine brB (fun yc6 => ?_) (fun yc6 => ?_)
  · simp -implicitDefEqProofs only [c18_8_e, c18_9_r, (show opsOf c18_9 = _ :: _ from rfl), c18_10_e, zq4, zq20, yc6, setA, setB, za, zb, zc, zd, ze, zf, zg, zh, zi, zj, zk, zl, zm, zn, zo, zp, reduceCtorEq, zE, ↓reduceIte]
    all_goals rfl
  · simp -implicitDefEqProofs only [c18_11_e, c18_12_e, c18_13_r, (show opsOf c18_13 = _ :: _ from rfl), ent31, prm31, f31_t, zq4, zq20, yc6, setA, setB, za, zb, zc, zd, ze, zf, zg, zh, zi, zj, zk, zl, zm, zn, zo, zp, reduceCtorEq, zE, ↓reduceIte]
    refine brM (fun yc7 => ?_) (fun yr8 yc7 => ?_)
    · rw [yc7]; rfl
    · simp -implicitDefEqProofs only [e31, c18_14_e, c18_15_e, c18_16_r, (show opsOf c18_16 = _ :: _ from rfl), c18_17_e, c18_18_e, c18_19_r, (show opsOf c18_19 = _ :: _ from rfl), (show c18_20 = Code.cond _ c18_21 c18_24 from rfl), zq4, zq20, yc6, yc7, setA, setB, za, zb, zc, zd, ze, zf, zg, zh, zi, zj, zk, zl, zm, zn, zo, zp, reduceCtorEq, zE, ↓reduceIte]
      refine brB (fun yc9 => ?_) (fun yc9 => ?_)
      · simp -implicitDefEqProofs only [c18_21_e, c18_22_r, (show opsOf c18_22 = _ :: _ from rfl), c18_23_e, zq4, zq20, yc6, yc7, yc9, setA, setB, za, zb, zc, zd, ze, zf, zg, zh, zi, zj, zk, zl, zm, zn, zo, zp, reduceCtorEq, zE, ↓reduceIte]
        all_goals rfl
      · simp -implicitDefEqProofs only [c18_24_e, c18_25_r, (show opsOf c18_25 = _ :: _ from rfl), (show c18_26 = Code.cond _ c18_27 c18_30 from rfl), zq4, zq20, yc6, yc7, yc9, setA, setB, za, zb, zc, zd, ze, zf, zg, zh, zi, zj, zk, zl, zm, zn, zo, zp, reduceCtorEq, zE, ↓reduceIte]
        refine brB (fun yc10 => ?_) (fun yc10 => ?_)
        · simp -implicitDefEqProofs only [c18_27_e, c18_28_r, (show opsOf c18_28 = _ :: _ from rfl), c18_29_e, zq4, zq20, yc6, yc7, yc9, yc10, setA, setB, za, zb, zc, zd, ze, zf, zg, zh, zi, zj, zk, zl, zm, zn, zo, zp, reduceCtorEq, zE, ↓reduceIte]
          all_goals rfl
        · simp -implicitDefEqProofs only [c18_30_e, c18_31_e, c18_32_r, (show opsOf c18_32 = _ :: _ from rfl), c18_33_e, zq4, zq20, yc6, yc7, yc9, yc10, setA, setB, za, zb, zc, zd, ze, zf, zg, zh, zi, zj, zk, zl, zm, zn, zo, zp, reduceCtorEq, zE, ↓reduceIte]
          all_goals rfl
def m18 (line : Bs) : Option R18 :=
  (m29 line ([59] : Bs)).bind fun yr2 =>
    if yr2.2.2 = true then
      (m30 yr2.2.1).bind fun yr5 =>
        j18_7 yr2.1 (!yr5)
    else
      j18_7 yr2.1 false
theorem f18_t (line : Bs) :
    callW (E0 mm) 18 [.c (.d (.sc (.string (S line))))] [] = (m18 line).map e18 := by
  rw [callW_run (body := c18_0) (res := [.tmp 2, .tmp 3]) Tryd.func18 rfl rfl (by kernel_rfl)]
  simp -implicitDefEqProofs only [m18, slots1, c18_0_e, c18_1_r, (show opsOf c18_1 = _ :: _ from rfl), c18_2_e, c18_3_r, (show opsOf c18_3 = _ :: _ from rfl), ent29, prm29, (show callW (E0 mm) 29 [.c (.d (.sc (.string (S line)))), .c (.d (.sc (.string (S ([59] : Bs)))))] [] = _ from f29_t line ([59] : Bs)), setA, setB, za, zb, zc, zd, ze, zf, zg, zh, zi, zj, zk, zl, zm, zn, zo, zp, reduceCtorEq, zE, ↓reduceIte]
  refine brM (fun yc1 => ?_) (fun yr2 yc1 => ?_)
  · rw [yc1]; rfl
  · simp -implicitDefEqProofs only [e29, c18_4_e, c18_5_e, c18_6_r, (show opsOf c18_6 = _ :: _ from rfl), yc1, setA, setB, za, zb, zc, zd, ze, zf, zg, zh, zi, zj, zk, zl, zm, zn, zo, zp, reduceCtorEq, zE, ↓reduceIte]
    refine brB (fun yc3 => ?_) (fun yc3 => ?_)
    · simp -implicitDefEqProofs only [ent30, prm30, f30_t, yc1, yc3, setA, setB, za, zb, zc, zd, ze, zf, zg, zh, zi, zj, zk, zl, zm, zn, zo, zp, reduceCtorEq, zE, ↓reduceIte]
      refine brM (fun yc4 => ?_) (fun yr5 yc4 => ?_)
      · rw [yc4]; rfl
      · simp -implicitDefEqProofs only [e30, yc1, yc3, yc4, setA, setB, za, zb, zc, zd, ze, zf, zg, zh, zi, zj, zk, zl, zm, zn, zo, zp, reduceCtorEq, zE, ↓reduceIte]
        exact j18_7_t yr2.1 (!yr5) _ (by rfl) (by rfl)
    · simp -implicitDefEqProofs only [yc1, yc3, setA, setB, za, zb, zc, zd, ze, zf, zg, zh, zi, zj, zk, zl, zm, zn, zo, zp, reduceCtorEq, zE, ↓reduceIte]
      exact j18_7_t yr2.1 false _ (by rfl) (by rfl)
noncomputable def c33_0 : Code := bodyOf Tryd.f33
def c33_1 := cA c33_0
def c33_2 := cB c33_0
def c33_3 := cA c33_2
def c33_4 := cA c33_3
def c33_5 := cA c33_4
def c33_6 := cB c33_4
def c33_7 := cA c33_6
def c33_8 := cA c33_7
def c33_9 := cB c33_7
def c33_10 := cB c33_6
def c33_11 := cA c33_10
def c33_12 := cB c33_10
def c33_13 := cA c33_12
def c33_14 := cA c33_13
def c33_15 := cB c33_13
def c33_16 := cB c33_12
def c33_17 := cB c33_2
def c33_18 := cA c33_17
def c33_19 := cB c33_17
def c33_20 := cA c33_19
def c33_21 := cB c33_19
def c33_22 := cA c33_21
def c33_23 := cB c33_21
theorem c33_0_e : c33_0 = .seq c33_1 c33_2 := rfl
theorem c33_1_r : RG (E0 mm) 33 c33_1 := rgN rfl
theorem c33_2_e : c33_2 = .seq c33_3 c33_17 := rfl
theorem c33_3_e : c33_3 = .block 0 c33_4 := rfl
theorem c33_4_e : c33_4 = .seq c33_5 c33_6 := rfl
theorem c33_5_r : RG (E0 mm) 33 c33_5 := rgD (by kernel_rfl)
theorem c33_7_e : c33_7 = .seq c33_8 c33_9 := rfl
theorem c33_8_r : RG (E0 mm) 33 c33_8 := rgN rfl
theorem c33_9_e : c33_9 = .ret := rfl
theorem c33_10_e : c33_10 = .seq c33_11 c33_12 := rfl
theorem c33_11_r : RG (E0 mm) 33 c33_11 := rgN rfl
theorem c33_13_e : c33_13 = .seq c33_14 c33_15 := rfl
theorem c33_14_r : RG (E0 mm) 33 c33_14 := rgN rfl
theorem c33_15_e : c33_15 = .ret := rfl
theorem c33_16_e : c33_16 = .skip := rfl
theorem c33_17_e : c33_17 = .seq c33_18 c33_19 := rfl
theorem c33_18_r : RG (E0 mm) 33 c33_18 := rgD (by kernel_rfl)
theorem c33_19_e : c33_19 = .seq c33_20 c33_21 := rfl
theorem c33_20_r : RG (E0 mm) 33 c33_20 := rgN rfl
theorem c33_21_e : c33_21 = .seq c33_22 c33_23 := rfl
theorem c33_22_r : RG (E0 mm) 33 c33_22 := rgN rfl
theorem c33_23_e : c33_23 = .ret := rfl
abbrev R33 := (Int × Bool × List UInt8 × Int × UInt8)
def e33 : R33 → AV × Heap := fun x => (.v (.c (.d (.sc (.int .i64 x.1)))), [.cells [.d (.lst x.2.1 (enL enB x.2.2.1)), .d (.sc (.int .i64 x.2.2.2.1)), .d (.sc (.int .u8 ((x.2.2.2.2).toNat : Int)))]])
def m33 (h0_0_0 : Bool) (h0_0_1 : List UInt8) (h0_1 : Int) (h0_2 : UInt8) : Option R33 :=
  if (h0_1 == (h0_0_1.length : Int)) = true then
    some ((8 : Int), h0_0_0, h0_0_1, h0_1, h0_2)
  else
    if (h0_1 == 2048) = true then
      some ((21 : Int), h0_0_0, h0_0_1, h0_1, h0_2)
    else
      if 0 ≤ h0_1 ∧ h0_1 < (h0_0_1.length : Int) then
        some ((0 : Int), h0_0_0, h0_0_1, (w64 (h0_1 + 1)), (h0_0_1.getD h0_1.toNat default))
      else none
theorem f33_t (h0_0_0 : Bool) (h0_0_1 : List UInt8) (h0_1 : Int) (h0_2 : UInt8) :
    callW (E0 mm) 33 [.c (.ptr 0 0)] [.cells [.d (.lst h0_0_0 (enL enB h0_0_1)), .d (.sc (.int .i64 h0_1)), .d (.sc (.int .u8 ((h0_2).toNat : Int)))]] = (m33 h0_0_0 h0_0_1 h0_1 h0_2).map e33 := by
  rw [callW_run (body := c33_0) (res := [.tmp 2]) Tryd.func33 rfl rfl (by kernel_rfl)]
  simp -implicitDefEqProofs only [m33, slots1, c33_0_e, c33_1_r, (show opsOf c33_1 = _ :: _ from rfl), c33_2_e, c33_3_e, c33_4_e, c33_5_r, (show opsOf c33_5 = _ :: _ from rfl), Tryd.underlying69, sz3, ag3, sz22, ag22, Tryd.underlying22, (show c33_6 = Code.cond _ c33_7 c33_10 from rfl), setA, setB, za, zb, zc, zd, ze, zf, zg, zh, zi, zj, zk, zl, zm, zn, zo, zp, reduceCtorEq, zE, ↓reduceIte]
  refine brB (fun yc1 => ?_) (fun yc1 => ?_)
  · simp -implicitDefEqProofs only [c33_7_e, c33_8_r, (show opsOf c33_8 = _ :: _ from rfl), c33_9_e, yc1, setA, setB, za, zb, zc, zd, ze, zf, zg, zh, zi, zj, zk, zl, zm, zn, zo, zp, reduceCtorEq, zE, ↓reduceIte]
    all_goals rfl
  · simp -implicitDefEqProofs only [c33_10_e, c33_11_r, (show opsOf c33_11 = _ :: _ from rfl), Tryd.underlying69, sz3, ag3, (show c33_12 = Code.cond _ c33_13 c33_16 from rfl), yc1, setA, setB, za, zb, zc, zd, ze, zf, zg, zh, zi, zj, zk, zl, zm, zn, zo, zp, reduceCtorEq, zE, ↓reduceIte]
    refine brB (fun yc2 => ?_) (fun yc2 => ?_)
    · simp -implicitDefEqProofs only [c33_13_e, c33_14_r, (show opsOf c33_14 = _ :: _ from rfl), c33_15_e, yc1, yc2, setA, setB, za, zb, zc, zd, ze, zf, zg, zh, zi, zj, zk, zl, zm, zn, zo, zp, reduceCtorEq, zE, ↓reduceIte]
      all_goals rfl
    · simp -implicitDefEqProofs only [c33_16_e, c33_17_e, c33_18_r, (show opsOf c33_18 = _ :: _ from rfl), Tryd.underlying69, sz22, ag22, sz3, ag3, Tryd.underlying22, sz5, enB_a, yc1, yc2, setA, setB, za, zb, zc, zd, ze, zf, zg, zh, zi, zj, zk, zl, zm, zn, zo, zp, reduceCtorEq, zE, ↓reduceIte]
      refine brP (fun yc3 => ?_) (fun yc3 => ?_)
      · have yd4 : h0_1.toNat < h0_0_1.length := by omega
        simp -implicitDefEqProofs only [(enL_get enB h0_0_1 h0_1.toNat yd4), enB_e, sz5, ag5, Tryd.underlying69, c33_19_e, c33_20_r, (show opsOf c33_20 = _ :: _ from rfl), sz3, ag3, c33_21_e, c33_22_r, (show opsOf c33_22 = _ :: _ from rfl), c33_23_e, yc1, yc2, yc3, yd4, setA, setB, za, zb, zc, zd, ze, zf, zg, zh, zi, zj, zk, zl, zm, zn, zo, zp, reduceCtorEq, zE, ↓reduceIte]
        all_goals rfl
      · rw [if_neg yc3]; rfl
noncomputable def c71_0 : Code := bodyOf Tryd.f71
def c71_1 := cA c71_0
def c71_2 := cB c71_0
def c71_3 := cA c71_2
def c71_4 := cB c71_2
theorem c71_0_e : c71_0 = .seq c71_1 c71_2 := rfl
theorem c71_1_r : RG (E0 mm) 71 c71_1 := rgN rfl
theorem c71_2_e : c71_2 = .seq c71_3 c71_4 := rfl
theorem c71_3_r : RG (E0 mm) 71 c71_3 := rgN rfl
theorem c71_4_e : c71_4 = .ret := rfl
abbrev R71 := (Int)
def e71 : R71 → AV × Heap := fun x => (.v (.c (.d (.sc (.int .i64 x)))), [])
def m71 (s : Bs) (c : UInt8) : Option R71 :=
  some (Lib.indexByte s c)
theorem f71_t (s : Bs) (c : UInt8) :
    callW (E0 mm) 71 [.c (.d (.sc (.string (S s)))), .c (.d (.sc (.int .u8 ((c).toNat : Int))))] [] = (m71 s c).map e71 := by
  rw [callW_run (body := c71_0) (res := [.tmp 4]) Tryd.func71 rfl rfl (by kernel_rfl)]
  simp -implicitDefEqProofs only [m71, slots2, c71_0_e, c71_1_r, (show opsOf c71_1 = _ :: _ from rfl), c71_2_e, c71_3_r, (show opsOf c71_3 = _ :: _ from rfl), entf84, exf84, ext84_t, c71_4_e, setA, setB, za, zb, zc, zd, ze, zf, zg, zh, zi, zj, zk, zl, zm, zn, zo, zp, reduceCtorEq, zE, ↓reduceIte]
  all_goals rfl
noncomputable def c61_0 : Code := bodyOf Tryd.f61
def c61_1 := cA c61_0
def c61_2 := cB c61_0
def c61_3 := cA c61_2
def c61_4 := cB c61_2
theorem c61_0_e : c61_0 = .seq c61_1 c61_2 := rfl
theorem c61_1_r : RG (E0 mm) 61 c61_1 := rgN rfl
theorem c61_2_e : c61_2 = .seq c61_3 c61_4 := rfl
theorem c61_3_r : RG (E0 mm) 61 c61_3 := rgN rfl
theorem c61_4_e : c61_4 = .ret := rfl
abbrev R61 := (Int)
def e61 : R61 → AV × Heap := fun x => (.v (.c (.d (.sc (.int .i64 x)))), [])
def m61 (s : Bs) (c : UInt8) : Option R61 :=
  (m71 s c).bind fun yr2 =>
    some yr2
theorem f61_t (s : Bs) (c : UInt8) :
    callW (E0 mm) 61 [.c (.d (.sc (.string (S s)))), .c (.d (.sc (.int .u8 ((c).toNat : Int))))] [] = (m61 s c).map e61 := by
  rw [callW_run (body := c61_0) (res := [.tmp 4]) Tryd.func61 rfl rfl (by kernel_rfl)]
  simp -implicitDefEqProofs only [m61, slots2, c61_0_e, c61_1_r, (show opsOf c61_1 = _ :: _ from rfl), c61_2_e, c61_3_r, (show opsOf c61_3 = _ :: _ from rfl), ent71, prm71, f71_t, setA, setB, za, zb, zc, zd, ze, zf, zg, zh, zi, zj, zk, zl, zm, zn, zo, zp, reduceCtorEq, zE, ↓reduceIte]
  refine brM (fun yc1 => ?_) (fun yr2 yc1 => ?_)
  · rw [yc1]; rfl
  · simp -implicitDefEqProofs only [e71, c61_4_e, yc1, setA, setB, za, zb, zc, zd, ze, zf, zg, zh, zi, zj, zk, zl, zm, zn, zo, zp, reduceCtorEq, zE, ↓reduceIte]
    all_goals rfl
noncomputable def c60_0 : Code := bodyOf Tryd.f60
def c60_1 := cA c60_0
def c60_2 := cB c60_0
def c60_3 := cA c60_2
def c60_4 := cB c60_2
def c60_5 := cA c60_4
def c60_6 := cB c60_4
theorem c60_0_e : c60_0 = .seq c60_1 c60_2 := rfl
theorem c60_1_r : RG (E0 mm) 60 c60_1 := rgN rfl
theorem c60_2_e : c60_2 = .seq c60_3 c60_4 := rfl
theorem c60_3_r : RG (E0 mm) 60 c60_3 := rgN rfl
theorem c60_4_e : c60_4 = .seq c60_5 c60_6 := rfl
theorem c60_5_r : RG (E0 mm) 60 c60_5 := rgN rfl
theorem c60_6_e : c60_6 = .ret := rfl
abbrev R60 := (Bool)
def e60 : R60 → AV × Heap := fun x => (.v (.c (.d (.sc (.bool x)))), [])
def m60 (c : UInt8) : Option R60 :=
  if (decide ((97 : UInt8) ≤ (c ||| (32 : UInt8)))) = true then
    if (decide ((c ||| (32 : UInt8)) ≤ (122 : UInt8))) = true then
      some true
    else
      if (decide ((48 : UInt8) ≤ c)) = true then
        if (decide (c ≤ (57 : UInt8))) = true then
          some true
        else
          (m61 ([33, 35, 36, 37, 38, 39, 42, 43, 45, 46, 94, 95, 96, 124, 126] : Bs) c).bind fun yr6 =>
            some (decide (0 ≤ yr6))
      else
        (m61 ([33, 35, 36, 37, 38, 39, 42, 43, 45, 46, 94, 95, 96, 124, 126] : Bs) c).bind fun yr8 =>
          some (decide (0 ≤ yr8))
  else
    if (decide ((48 : UInt8) ≤ c)) = true then
      if (decide (c ≤ (57 : UInt8))) = true then
        some true
      else
        (m61 ([33, 35, 36, 37, 38, 39, 42, 43, 45, 46, 94, 95, 96, 124, 126] : Bs) c).bind fun yr12 =>
          some (decide (0 ≤ yr12))
    else
      (m61 ([33, 35, 36, 37, 38, 39, 42, 43, 45, 46, 94, 95, 96, 124, 126] : Bs) c).bind fun yr14 =>
        some (decide (0 ≤ yr14))
theorem f60_t (c : UInt8) :
    callW (E0 mm) 60 [.c (.d (.sc (.int .u8 ((c).toNat : Int))))] [] = (m60 c).map e60 := by
  rw [callW_run (body := c60_0) (res := [.tmp 2]) Tryd.func60 rfl rfl (by kernel_rfl)]
  simp -implicitDefEqProofs only [m60, slots1, c60_0_e, c60_1_r, (show opsOf c60_1 = _ :: _ from rfl), c60_2_e, c60_3_r, (show opsOf c60_3 = _ :: _ from rfl), c60_4_e, c60_5_r, (show opsOf c60_5 = _ :: _ from rfl), setA, setB, za, zb, zc, zd, ze, zf, zg, zh, zi, zj, zk, zl, zm, zn, zo, zp, reduceCtorEq, zE, ↓reduceIte]
  refine brB (fun yc1 => ?_) (fun yc1 => ?_)
  · simp -implicitDefEqProofs only [yc1, setA, setB, za, zb, zc, zd, ze, zf, zg, zh, zi, zj, zk, zl, zm, zn, zo, zp, reduceCtorEq, zE, ↓reduceIte]
    refine brB (fun yc2 => ?_) (fun yc2 => ?_)
    · simp -implicitDefEqProofs only [c60_6_e, yc1, yc2, setA, setB, za, zb, zc, zd, ze, zf, zg, zh, zi, zj, zk, zl, zm, zn, zo, zp, reduceCtorEq, zE, ↓reduceIte]
      all_goals rfl
    · simp -implicitDefEqProofs only [yc1, yc2, setA, setB, za, zb, zc, zd, ze, zf, zg, zh, zi, zj, zk, zl, zm, zn, zo, zp, reduceCtorEq, zE, ↓reduceIte]
      refine brB (fun yc3 => ?_) (fun yc3 => ?_)
      · simp -implicitDefEqProofs only [yc1, yc2, yc3, setA, setB, za, zb, zc, zd, ze, zf, zg, zh, zi, zj, zk, zl, zm, zn, zo, zp, reduceCtorEq, zE, ↓reduceIte]
        refine brB (fun yc4 => ?_) (fun yc4 => ?_)
        · simp -implicitDefEqProofs only [c60_6_e, yc1, yc2, yc3, yc4, setA, setB, za, zb, zc, zd, ze, zf, zg, zh, zi, zj, zk, zl, zm, zn, zo, zp, reduceCtorEq, zE, ↓reduceIte]
          all_goals rfl
        · simp -implicitDefEqProofs only [ent61, prm61, (show callW (E0 mm) 61 [.c (.d (.sc (.string (S ([33, 35, 36, 37, 38, 39, 42, 43, 45, 46, 94, 95, 96, 124, 126] : Bs))))), .c (.d (.sc (.int .u8 ((c).toNat : Int))))] [] = _ from f61_t ([33, 35, 36, 37, 38, 39, 42, 43, 45, 46, 94, 95, 96, 124, 126] : Bs) c), yc1, yc2, yc3, yc4, setA, setB, za, zb, zc, zd, ze, zf, zg, zh, zi, zj, zk, zl, zm, zn, zo, zp, reduceCtorEq, zE, ↓reduceIte]
          refine brM (fun yc5 => ?_) (fun yr6 yc5 => ?_)
          · rw [yc5]; rfl
          · simp -implicitDefEqProofs only [e61, c60_6_e, yc1, yc2, yc3, yc4, yc5, setA, setB, za, zb, zc, zd, ze, zf, zg, zh, zi, zj, zk, zl, zm, zn, zo, zp, reduceCtorEq, zE, ↓reduceIte]
            all_goals rfl
      · simp -implicitDefEqProofs only [ent61, prm61, (show callW (E0 mm) 61 [.c (.d (.sc (.string (S ([33, 35, 36, 37, 38, 39, 42, 43, 45, 46, 94, 95, 96, 124, 126] : Bs))))), .c (.d (.sc (.int .u8 ((c).toNat : Int))))] [] = _ from f61_t ([33, 35, 36, 37, 38, 39, 42, 43, 45, 46, 94, 95, 96, 124, 126] : Bs) c), yc1, yc2, yc3, setA, setB, za, zb, zc, zd, ze, zf, zg, zh, zi, zj, zk, zl, zm, zn, zo, zp, reduceCtorEq, zE, ↓reduceIte]
        refine brM (fun yc7 => ?_) (fun yr8 yc7 => ?_)
        · rw [yc7]; rfl
        · simp -implicitDefEqProofs only [e61, c60_6_e, yc1, yc2, yc3, yc7, setA, setB, za, zb, zc, zd, ze, zf, zg, zh, zi, zj, zk, zl, zm, zn, zo, zp, reduceCtorEq, zE, ↓reduceIte]
          all_goals rfl
  · simp -implicitDefEqProofs only [yc1, setA, setB, za, zb, zc, zd, ze, zf, zg, zh, zi, zj, zk, zl, zm, zn, zo, zp, reduceCtorEq, zE, ↓reduceIte]
    refine brB (fun yc9 => ?_) (fun yc9 => ?_)
    · simp -implicitDefEqProofs only [yc1, yc9, setA, setB, za, zb, zc, zd, ze, zf, zg, zh, zi, zj, zk, zl, zm, zn, zo, zp, reduceCtorEq, zE, ↓reduceIte]
      refine brB (fun yc10 => ?_) (fun yc10 => ?_)
      · simp -implicitDefEqProofs only [c60_6_e, yc1, yc9, yc10, setA, setB, za, zb, zc, zd, ze, zf, zg, zh, zi, zj, zk, zl, zm, zn, zo, zp, reduceCtorEq, zE, ↓reduceIte]
        all_goals rfl
      · simp -implicitDefEqProofs only [ent61, prm61, (show callW (E0 mm) 61 [.c (.d (.sc (.string (S ([33, 35, 36, 37, 38, 39, 42, 43, 45, 46, 94, 95, 96, 124, 126] : Bs))))), .c (.d (.sc (.int .u8 ((c).toNat : Int))))] [] = _ from f61_t ([33, 35, 36, 37, 38, 39, 42, 43, 45, 46, 94, 95, 96, 124, 126] : Bs) c), yc1, yc9, yc10, setA, setB, za, zb, zc, zd, ze, zf, zg, zh, zi, zj, zk, zl, zm, zn, zo, zp, reduceCtorEq, zE, ↓reduceIte]
        refine brM (fun yc11 => ?_) (fun yr12 yc11 => ?_)
        · rw [yc11]; rfl
        · simp -implicitDefEqProofs only [e61, c60_6_e, yc1, yc9, yc10, yc11, setA, setB, za, zb, zc, zd, ze, zf, zg, zh, zi, zj, zk, zl, zm, zn, zo, zp, reduceCtorEq, zE, ↓reduceIte]
          all_goals rfl
    · simp -implicitDefEqProofs only [ent61, prm61, (show callW (E0 mm) 61 [.c (.d (.sc (.string (S ([33, 35, 36, 37, 38, 39, 42, 43, 45, 46, 94, 95, 96, 124, 126] : Bs))))), .c (.d (.sc (.int .u8 ((c).toNat : Int))))] [] = _ from f61_t ([33, 35, 36, 37, 38, 39, 42, 43, 45, 46, 94, 95, 96, 124, 126] : Bs) c), yc1, yc9, setA, setB, za, zb, zc, zd, ze, zf, zg, zh, zi, zj, zk, zl, zm, zn, zo, zp, reduceCtorEq, zE, ↓reduceIte]
      refine brM (fun yc13 => ?_) (fun yr14 yc13 => ?_)
      · rw [yc13]; rfl
      · simp -implicitDefEqProofs only [e61, c60_6_e, yc1, yc9, yc13, setA, setB, za, zb, zc, zd, ze, zf, zg, zh, zi, zj, zk, zl, zm, zn, zo, zp, reduceCtorEq, zE, ↓reduceIte]
        all_goals rfl
abbrev R59a := (Bool)
def e59a : R59a → AV × Heap := fun x => (.v (.c (.d (.sc (.bool x)))), [.cells [.d (.sc (.func (.func 60) #[] #[]))]])
def m59a (c : UInt8) : Option R59a :=
  (m60 c).bind fun yr2 =>
    some (!yr2)
theorem f59a_t (c : UInt8) :
    callW (E0 mm) 59 [.c (.d (.sc (.int .u8 ((c).toNat : Int)))), .c (.ptr 0 0)] [.cells [.d (.sc (.func (.func 60) #[] #[]))]] = (m59a c).map e59a := by
  rw [callW_run (body := c59_0) (res := [.tmp 3]) Tryd.func59 rfl rfl (by kernel_rfl)]
  simp -implicitDefEqProofs only [m59a, slots2, c59_0_e, c59_1_r, (show opsOf c59_1 = _ :: _ from rfl), c59_2_e, c59_3_r, (show opsOf c59_3 = _ :: _ from rfl), sz71, ag71, ent60, prm60, f60_t, setA, setB, za, zb, zc, zd, ze, zf, zg, zh, zi, zj, zk, zl, zm, zn, zo, zp, reduceCtorEq, zE, ↓reduceIte]
  refine brM (fun yc1 => ?_) (fun yr2 yc1 => ?_)
  · rw [yc1]; rfl
  · simp -implicitDefEqProofs only [e60, c59_4_e, yc1, setA, setB, za, zb, zc, zd, ze, zf, zg, zh, zi, zj, zk, zl, zm, zn, zo, zp, reduceCtorEq, zE, ↓reduceIte]
    all_goals rfl
abbrev R75a := (Int)
def e75a : R75a → AV × Heap := fun x => (.v (.c (.d (.sc (.int .i64 x)))), [.cells [.d (.sc (.func (.func 60) #[] #[]))]])
def K75a_6 : Option (Ex × St) → Option (AV × Heap) := fun r => bodyD (E0 mm) [.tmp 4] 1 false (seqD (E0 mm) 75 1 (callW (E0 mm)) itW c75_25 (blockD 0 (r)))
def en75a_6 : (Bool × List UInt8 × Int × Int) → X := fun x => (none, [.v (.c (.d (.lst x.1 (enL enB x.2.1)))), .v (.c (.fn 59 [(0, 0)])), .v (.c (.d (.sc (.int .i64 x.2.2.1)))), .v (.c (.d (.sc (.int .i64 x.2.2.2))))], [.cells [.d (.sc (.func (.func 60) #[] #[]))]])
def j75a_25  : Option R75a :=
  some (-1 : Int)
theorem j75a_25_t   (sl : Nat → AV)  :
    bodyD (E0 mm) [.tmp 4] 1 false (den (E0 mm) 75 1 (callW (E0 mm)) itW c75_25 none ⟨sl, [.cells [.d (.sc (.func (.func 60) #[] #[]))]]⟩) = (j75a_25).map e75a := by
  simp -implicitDefEqProofs only [j75a_25, c75_25_e, c75_26_r, (show opsOf c75_26 = _ :: _ from rfl), c75_27_e, setA, setB, za, zb, zc, zd, ze, zf, zg, zh, zi, zj, zk, zl, zm, zn, zo, zp, reduceCtorEq, zE, ↓reduceIte]
  all_goals rfl
def s75a_6 (s0_0 : Bool) (s0_1 : List UInt8) (t7 t8 : Int) : Option ((Bool × List UInt8 × Int × Int) ⊕ R75a) :=
  if (decide (t8 < t7)) = true then
    if 0 ≤ t8 ∧ t8 < (s0_1.length : Int) then
      (m59a (s0_1.getD t8.toNat default)).bind fun yr5 =>
        if yr5 = true then
          some (.inr t8)
        else
          some (.inl (s0_0, s0_1, t7, (w64 (t8 + 1))))
    else none
  else
    (j75a_25).map .inr
theorem s75a_6_t (s0_0 : Bool) (s0_1 : List UInt8) (t7 t8 : Int) :
    stepE (K75a_6 (mm := mm)) (loopF (E0 mm) 75 1 (callW (E0 mm)) itW c75_7 [(0, .keep), (1, .keep), (7, .keep), (8, .keep)] (none, [.v (.c (.d (.lst s0_0 (enL enB s0_1)))), .v (.c (.fn 59 [(0, 0)])), .v (.c (.d (.sc (.int .i64 t7)))), .v (.c (.d (.sc (.int .i64 t8))))], [.cells [.d (.sc (.func (.func 60) #[] #[]))]])) = (s75a_6 s0_0 s0_1 t7 t8).map (sm en75a_6 e75a) := by
  simp -implicitDefEqProofs only [s75a_6, loopF_eq, c75_7_e, c75_8_r, (show opsOf c75_8 = _ :: _ from rfl), c75_9_e, (show c75_10 = Code.cond _ c75_11 c75_12 from rfl), setA, setB, za, zb, zc, zd, ze, zf, zg, zh, zi, zj, zk, zl, zm, zn, zo, zp, reduceCtorEq, zE, ↓reduceIte]
  refine brB (fun yc1 => ?_) (fun yc1 => ?_)
  · simp -implicitDefEqProofs only [c75_11_e, c75_13_e, c75_14_e, c75_15_e, c75_16_r, (show opsOf c75_16 = _ :: _ from rfl), c75_17_e, c75_18_r, (show opsOf c75_18 = _ :: _ from rfl), Tryd.underlying22, sz5, enB_a, yc1, setA, setB, za, zb, zc, zd, ze, zf, zg, zh, zi, zj, zk, zl, zm, zn, zo, zp, reduceCtorEq, zE, ↓reduceIte]
    refine brP (fun yc2 => ?_) (fun yc2 => ?_)
    · have yd3 : t8.toNat < s0_1.length := by omega
      simp -implicitDefEqProofs only [(enL_get enB s0_1 t8.toNat yd3), enB_e, sz5, ag5, ent59, prm59, f59a_t, yc1, yc2, yd3, setA, setB, za, zb, zc, zd, ze, zf, zg, zh, zi, zj, zk, zl, zm, zn, zo, zp, reduceCtorEq, zE, ↓reduceIte]
      refine brM (fun yc4 => ?_) (fun yr5 yc4 => ?_)
      · rw [yc4]; rfl
      · simp -implicitDefEqProofs only [e59a, (show c75_19 = Code.cond _ c75_20 c75_23 from rfl), yc1, yc2, yd3, yc4, setA, setB, za, zb, zc, zd, ze, zf, zg, zh, zi, zj, zk, zl, zm, zn, zo, zp, reduceCtorEq, zE, ↓reduceIte]
        refine brB (fun yc6 => ?_) (fun yc6 => ?_)
        · simp -implicitDefEqProofs only [c75_20_e, c75_21_r, (show opsOf c75_21 = _ :: _ from rfl), c75_22_e, K75a_6, yc1, yc2, yd3, yc4, yc6, setA, setB, za, zb, zc, zd, ze, zf, zg, zh, zi, zj, zk, zl, zm, zn, zo, zp, reduceCtorEq, zE, ↓reduceIte]
          all_goals rfl
        · simp -implicitDefEqProofs only [c75_23_e, c75_24_r, (show opsOf c75_24 = _ :: _ from rfl), yc1, yc2, yd3, yc4, yc6, setA, setB, za, zb, zc, zd, ze, zf, zg, zh, zi, zj, zk, zl, zm, zn, zo, zp, reduceCtorEq, zE, ↓reduceIte]
          all_goals rfl
    · rw [if_neg yc2]; rfl
  · simp -implicitDefEqProofs only [c75_12_e, K75a_6, yc1, setA, setB, za, zb, zc, zd, ze, zf, zg, zh, zi, zj, zk, zl, zm, zn, zo, zp, reduceCtorEq, zE, ↓reduceIte]
    exact mi (j75a_25_t _)
def l75a_6 (s0_0 : Bool) (s0_1 : List UInt8) (t7 t8 : Int) : Option R75a := iter (fun x : (Bool × List UInt8 × Int × Int) => s75a_6 x.1 x.2.1 x.2.2.1 x.2.2.2) (s0_0, s0_1, t7, t8)
theorem l75a_6_t (s0_0 : Bool) (s0_1 : List UInt8) (t7 t8 : Int) : bodyD (E0 mm) [.tmp 4] 1 false (seqD (E0 mm) 75 1 (callW (E0 mm)) itW c75_25 (blockD 0 (itW (loopF (E0 mm) 75 1 (callW (E0 mm)) itW c75_7 [(0, .keep), (1, .keep), (7, .keep), (8, .keep)]) (none, [.v (.c (.d (.lst s0_0 (enL enB s0_1)))), .v (.c (.fn 59 [(0, 0)])), .v (.c (.d (.sc (.int .i64 t7)))), .v (.c (.d (.sc (.int .i64 t8))))], [.cells [.d (.sc (.func (.func 60) #[] #[]))]])))) = (l75a_6 s0_0 s0_1 t7 t8).map e75a :=
  it_sim (K := (K75a_6 (mm := mm))) rfl (enc := en75a_6) (fun x => s75a_6_t x.1 x.2.1 x.2.2.1 x.2.2.2) (s0_0, s0_1, t7, t8)
def m75a (s_0 : Bool) (s_1 : List UInt8) : Option R75a :=
  l75a_6 s_0 s_1 (s_1.length : Int) (0 : Int)
theorem f75a_t (s_0 : Bool) (s_1 : List UInt8) :
    callW (E0 mm) 75 [.c (.d (.lst s_0 (enL enB s_1))), .c (.fn 59 [(0, 0)])] [.cells [.d (.sc (.func (.func 60) #[] #[]))]] = (m75a s_0 s_1).map e75a := by
  rw [callW_run (body := c75_0) (res := [.tmp 4]) Tryd.func75 rfl rfl (by kernel_rfl)]
  simp -implicitDefEqProofs only [m75a, slots2, c75_0_e, c75_1_r, (show opsOf c75_1 = _ :: _ from rfl), c75_2_e, c75_3_e, c75_4_r, (show opsOf c75_4 = _ :: _ from rfl), Tryd.underlying22, c75_5_e, c75_6_l, setA, setB, za, zb, zc, zd, ze, zf, zg, zh, zi, zj, zk, zl, zm, zn, zo, zp, reduceCtorEq, zE, ↓reduceIte]
  exact l75a_6_t s_0 s_1 (s_1.length : Int) (0 : Int)
abbrev R58a := (Bool)
def e58a : R58a → AV × Heap := fun x => (.v (.c (.d (.sc (.bool x)))), [.cells [.d (.sc (.func (.func 60) #[] #[]))]])
def m58a (s_0 : Bool) (s_1 : List UInt8) : Option R58a :=
  (m75a s_0 s_1).bind fun yr2 =>
    some (decide (0 ≤ yr2))
theorem f58a_t (s_0 : Bool) (s_1 : List UInt8) :
    callW (E0 mm) 58 [.c (.d (.lst s_0 (enL enB s_1))), .c (.fn 59 [(0, 0)])] [.cells [.d (.sc (.func (.func 60) #[] #[]))]] = (m58a s_0 s_1).map e58a := by
  rw [callW_run (body := c58_0) (res := [.tmp 4]) Tryd.func58 rfl rfl (by kernel_rfl)]
  simp -implicitDefEqProofs only [m58a, slots2, c58_0_e, c58_1_r, (show opsOf c58_1 = _ :: _ from rfl), c58_2_e, c58_3_r, (show opsOf c58_3 = _ :: _ from rfl), ent75, prm75, f75a_t, setA, setB, za, zb, zc, zd, ze, zf, zg, zh, zi, zj, zk, zl, zm, zn, zo, zp, reduceCtorEq, zE, ↓reduceIte]
  refine brM (fun yc1 => ?_) (fun yr2 yc1 => ?_)
  · rw [yc1]; rfl
  · simp -implicitDefEqProofs only [e75a, c58_4_e, yc1, setA, setB, za, zb, zc, zd, ze, zf, zg, zh, zi, zj, zk, zl, zm, zn, zo, zp, reduceCtorEq, zE, ↓reduceIte]
    all_goals rfl
abbrev R47a := (Bool)
def e47a : R47a → AV × Heap := fun x => (.v (.c (.d (.sc (.bool x)))), [])
def m47a (s : Bs) : Option R47a :=
  (m58a false s).bind fun yr2 =>
    some (!yr2)
theorem f47a_t (s : Bs) :
    callW (E0 mm) 47 [.c (.d (.sc (.string (S s)))), .c (.d (.sc (.func (.func 60) #[] #[])))] [] = (m47a s).map e47a := by
  rw [callW_run (body := c47_0) (res := [.tmp 4]) Tryd.func47 rfl rfl (by kernel_rfl)]
  simp -implicitDefEqProofs only [m47a, slots2, c47_0_e, c47_1_r, (show opsOf c47_1 = _ :: _ from rfl), c47_2_e, c47_3_r, (show opsOf c47_3 = _ :: _ from rfl), Tryd.underlying9, Tryd.underlying22, Tryd.underlying5, hd11, rw12, ent58, prm58, (show callW (E0 mm) 58 [.c (.d (.lst false (enL enB s))), .c (.fn 59 [(0, 0)])] [.cells [.d (.sc (.func (.func 60) #[] #[]))]] = _ from f58a_t false s), setA, setB, za, zb, zc, zd, ze, zf, zg, zh, zi, zj, zk, zl, zm, zn, zo, zp, reduceCtorEq, zE, ↓reduceIte]
  refine brM (fun yc1 => ?_) (fun yr2 yc1 => ?_)
  · rw [yc1]; rfl
  · simp -implicitDefEqProofs only [e58a, c47_4_e, yc1, setA, setB, za, zb, zc, zd, ze, zf, zg, zh, zi, zj, zk, zl, zm, zn, zo, zp, reduceCtorEq, zE, ↓reduceIte]
    all_goals rfl
noncomputable def c51_0 : Code := bodyOf Tryd.f51
def c51_1 := cA c51_0
def c51_2 := cB c51_0
def c51_3 := cA c51_2
def c51_4 := cB c51_2
theorem c51_0_e : c51_0 = .seq c51_1 c51_2 := rfl
theorem c51_1_r : RG (E0 mm) 51 c51_1 := rgN rfl
theorem c51_2_e : c51_2 = .seq c51_3 c51_4 := rfl
theorem c51_3_r : RG (E0 mm) 51 c51_3 := rgN rfl
theorem c51_4_e : c51_4 = .ret := rfl
abbrev R51 := (Bool)
def e51 : R51 → AV × Heap := fun x => (.v (.c (.d (.sc (.bool x)))), [])
def m51 (s : Bs) : Option R51 :=
  if (s == ([] : Bs)) = true then
    some false
  else
    (m47a s).bind fun yr3 =>
      some yr3
theorem f51_t (s : Bs) :
    callW (E0 mm) 51 [.c (.d (.sc (.string (S s))))] [] = (m51 s).map e51 := by
  rw [callW_run (body := c51_0) (res := [.tmp 2]) Tryd.func51 rfl rfl (by kernel_rfl)]
  simp -implicitDefEqProofs only [m51, slots1, c51_0_e, c51_1_r, (show opsOf c51_1 = _ :: _ from rfl), c51_2_e, c51_3_r, (show opsOf c51_3 = _ :: _ from rfl), setA, setB, za, zb, zc, zd, ze, zf, zg, zh, zi, zj, zk, zl, zm, zn, zo, zp, reduceCtorEq, zE, ↓reduceIte]
  refine brB (fun yc1 => ?_) (fun yc1 => ?_)
  · simp -implicitDefEqProofs only [c51_4_e, yc1, setA, setB, za, zb, zc, zd, ze, zf, zg, zh, zi, zj, zk, zl, zm, zn, zo, zp, reduceCtorEq, zE, ↓reduceIte]
    all_goals rfl
  · simp -implicitDefEqProofs only [ent47, prm47, f47a_t, yc1, setA, setB, za, zb, zc, zd, ze, zf, zg, zh, zi, zj, zk, zl, zm, zn, zo, zp, reduceCtorEq, zE, ↓reduceIte]
    refine brM (fun yc2 => ?_) (fun yr3 yc2 => ?_)
    · rw [yc2]; rfl
    · simp -implicitDefEqProofs only [e47a, c51_4_e, yc1, yc2, setA, setB, za, zb, zc, zd, ze, zf, zg, zh, zi, zj, zk, zl, zm, zn, zo, zp, reduceCtorEq, zE, ↓reduceIte]
      all_goals rfl
noncomputable def c34_0 : Code := bodyOf Tryd.f34
def c34_1 := cA c34_0
def c34_2 := cB c34_0
def c34_3 := cA c34_2
def c34_4 := cB c34_2
theorem c34_0_e : c34_0 = .seq c34_1 c34_2 := rfl
theorem c34_1_r : RG (E0 mm) 34 c34_1 := rgN rfl
theorem c34_2_e : c34_2 = .seq c34_3 c34_4 := rfl
theorem c34_3_r : RG (E0 mm) 34 c34_3 := rgN rfl
theorem c34_4_e : c34_4 = .ret := rfl
abbrev R34 := (Bool)
def e34 : R34 → AV × Heap := fun x => (.v (.c (.d (.sc (.bool x)))), [])
def m34 (c : UInt8) : Option R34 :=
  (m51 ([c] : List UInt8)).bind fun yr2 =>
    some yr2
theorem f34_t (c : UInt8) :
    callW (E0 mm) 34 [.c (.d (.sc (.int .u8 ((c).toNat : Int))))] [] = (m34 c).map e34 := by
  rw [callW_run (body := c34_0) (res := [.tmp 2]) Tryd.func34 rfl rfl (by kernel_rfl)]
  simp -implicitDefEqProofs only [m34, slots1, c34_0_e, c34_1_r, (show opsOf c34_1 = _ :: _ from rfl), c34_2_e, c34_3_r, (show opsOf c34_3 = _ :: _ from rfl), Tryd.underlying22, sz5, zc5, hd13, nv14, rw15, ns16, Tryd.underlying9, Tryd.underlying5, ent51, prm51, (show callW (E0 mm) 51 [.c (.d (.sc (.string (S ([c] : List UInt8)))))] [] = _ from f51_t ([c] : List UInt8)), setA, setB, za, zb, zc, zd, ze, zf, zg, zh, zi, zj, zk, zl, zm, zn, zo, zp, reduceCtorEq, zE, ↓reduceIte]
  refine brM (fun yc1 => ?_) (fun yr2 yc1 => ?_)
  · rw [yc1]; rfl
  · simp -implicitDefEqProofs only [e51, c34_4_e, yc1, setA, setB, za, zb, zc, zd, ze, zf, zg, zh, zi, zj, zk, zl, zm, zn, zo, zp, reduceCtorEq, zE, ↓reduceIte]
    all_goals rfl
noncomputable def c35_0 : Code := bodyOf Tryd.f35
def c35_1 := cA c35_0
def c35_2 := cB c35_0
def c35_3 := cA c35_2
def c35_4 := cB c35_2
theorem c35_0_e : c35_0 = .seq c35_1 c35_2 := rfl
theorem c35_1_r : RG (E0 mm) 35 c35_1 := rgN rfl
theorem c35_2_e : c35_2 = .seq c35_3 c35_4 := rfl
theorem c35_3_r : RG (E0 mm) 35 c35_3 := rgN rfl
theorem c35_4_e : c35_4 = .ret := rfl
abbrev R35 := (Bool)
def e35 : R35 → AV × Heap := fun x => (.v (.c (.d (.sc (.bool x)))), [])
def m35 (c : UInt8) : Option R35 :=
  (m30 ([c] : List UInt8)).bind fun yr2 =>
    some yr2
theorem f35_t (c : UInt8) :
    callW (E0 mm) 35 [.c (.d (.sc (.int .u8 ((c).toNat : Int))))] [] = (m35 c).map e35 := by
  rw [callW_run (body := c35_0) (res := [.tmp 2]) Tryd.func35 rfl rfl (by kernel_rfl)]
  simp -implicitDefEqProofs only [m35, slots1, c35_0_e, c35_1_r, (show opsOf c35_1 = _ :: _ from rfl), c35_2_e, c35_3_r, (show opsOf c35_3 = _ :: _ from rfl), Tryd.underlying22, sz5, zc5, hd17, nv18, rw19, ns16, Tryd.underlying9, Tryd.underlying5, ent30, prm30, (show callW (E0 mm) 30 [.c (.d (.sc (.string (S ([c] : List UInt8)))))] [] = _ from f30_t ([c] : List UInt8)), setA, setB, za, zb, zc, zd, ze, zf, zg, zh, zi, zj, zk, zl, zm, zn, zo, zp, reduceCtorEq, zE, ↓reduceIte]
  refine brM (fun yc1 => ?_) (fun yr2 yc1 => ?_)
  · rw [yc1]; rfl
  · simp -implicitDefEqProofs only [e30, c35_4_e, yc1, setA, setB, za, zb, zc, zd, ze, zf, zg, zh, zi, zj, zk, zl, zm, zn, zo, zp, reduceCtorEq, zE, ↓reduceIte]
    all_goals rfl
noncomputable def c36_0 : Code := bodyOf Tryd.f36
def c36_1 := cA c36_0
def c36_2 := cB c36_0
def c36_3 := cA c36_2
def c36_4 := cB c36_2
theorem c36_0_e : c36_0 = .seq c36_1 c36_2 := rfl
theorem c36_1_r : RG (E0 mm) 36 c36_1 := rgN rfl
theorem c36_2_e : c36_2 = .seq c36_3 c36_4 := rfl
theorem c36_3_r : RG (E0 mm) 36 c36_3 := rgN rfl
theorem c36_4_e : c36_4 = .ret := rfl
abbrev R36 := (Bs)
def e36 : R36 → AV × Heap := fun x => (.v (.c (.d (.sc (.string (S x))))), [])
def m36 (s : Bs) : Option R36 :=
  (mTrim s ([32, 9] : Bs)).bind fun yr2 =>
    some yr2
theorem f36_t (s : Bs) :
    callW (E0 mm) 36 [.c (.d (.sc (.string (S s))))] [] = (m36 s).map e36 := by
  rw [callW_run (body := c36_0) (res := [.tmp 2]) Tryd.func36 rfl rfl (by kernel_rfl)]
  simp -implicitDefEqProofs only [m36, slots1, c36_0_e, c36_1_r, (show opsOf c36_1 = _ :: _ from rfl), c36_2_e, c36_3_r, (show opsOf c36_3 = _ :: _ from rfl), ent52, prm52, pTrim_t, setA, setB, za, zb, zc, zd, ze, zf, zg, zh, zi, zj, zk, zl, zm, zn, zo, zp, reduceCtorEq, zE, ↓reduceIte]
  refine brM (fun yc1 => ?_) (fun yr2 yc1 => ?_)
  · rw [yc1]; rfl
  · simp -implicitDefEqProofs only [pTrim_t, c36_4_e, yc1, setA, setB, za, zb, zc, zd, ze, zf, zg, zh, zi, zj, zk, zl, zm, zn, zo, zp, reduceCtorEq, zE, ↓reduceIte]
    all_goals rfl
end
end Go.Proofs.YtaohepmbkepmiaaDoor
