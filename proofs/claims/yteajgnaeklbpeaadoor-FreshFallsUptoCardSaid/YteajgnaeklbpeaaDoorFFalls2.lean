/- The Go functions as plain functions, and that the evaluator computes them. -/
import Derived.Test.YteajgnaeklbpeaaDoorFFalls1
set_option linter.all false
set_option maxRecDepth 100000
namespace Go.Proofs.YteajgnaeklbpeaaDoor
open Go Go.Ab
open Nat renaming reduceEqDiff → za, reduceAdd → zb, reduceLeDiff → zc, reduceLT → zd, reduceMul → ze, reduceBEq → zf, reduceSub → zg, reducePow → zh
open Int renaming reduceEq → zi, reduceLE → zj, reduceLT → zk, reduceToNat → zl, reduceNegSucc → zm, reduceAdd → zn, reduceBEq → zo
open String renaming reduceBEq → zp
set_option maxHeartbeats 4000000
noncomputable section
variable {mm : Int}
noncomputable def c27_0 : Code := bodyOf Tryd.f27
def c27_1 := cA c27_0
def c27_2 := cB c27_0
def c27_3 := cA c27_2
def c27_4 := cA c27_3
def c27_5 := cB c27_3
def c27_6 := cA c27_5
def c27_7 := cA c27_6
def c27_8 := cA c27_7
def c27_9 := cB c27_7
def c27_10 := cA c27_9
def c27_11 := cA c27_10
def c27_12 := cB c27_10
def c27_13 := cB c27_9
def c27_14 := cA c27_13
def c27_15 := cA c27_14
def c27_16 := cA c27_15
def c27_17 := cB c27_15
def c27_18 := cA c27_17
def c27_19 := cB c27_17
def c27_20 := cA c27_19
def c27_21 := cA c27_20
def c27_22 := cB c27_20
def c27_23 := cB c27_19
def c27_24 := cB c27_13
def c27_25 := cB c27_2
def c27_26 := cA c27_25
def c27_27 := cB c27_25
theorem c27_0_e : c27_0 = .seq c27_1 c27_2 := rfl
theorem c27_1_r : RG (E0 mm) 27 c27_1 := rgN rfl
theorem c27_2_e : c27_2 = .seq c27_3 c27_25 := rfl
theorem c27_3_e : c27_3 = .seq c27_4 c27_5 := rfl
theorem c27_4_r : RG (E0 mm) 27 c27_4 := rgN rfl
theorem c27_5_e : c27_5 = .block 0 c27_6 := rfl
theorem c27_6_l (m : Nat) (st : St) : den (E0 mm) 27 m (callW (E0 mm)) itW c27_6 none st = loopD itW (loopF (E0 mm) 27 m (callW (E0 mm)) itW c27_7 [(0, .keep), (1, .keep), (7, .keep), (8, .keep)]) (canon m [(0, .keep), (1, .keep), (7, .keep), (8, .keep)] st) := rfl
theorem c27_7_e : c27_7 = .seq c27_8 c27_9 := rfl
theorem c27_8_r : RG (E0 mm) 27 c27_8 := rgN rfl
theorem c27_9_e : c27_9 = .seq c27_10 c27_13 := rfl
theorem c27_11_e : c27_11 = .skip := rfl
theorem c27_12_e : c27_12 = .exit 0 := rfl
theorem c27_13_e : c27_13 = .seq c27_14 c27_24 := rfl
theorem c27_14_e : c27_14 = .block 1 c27_15 := rfl
theorem c27_15_e : c27_15 = .seq c27_16 c27_17 := rfl
theorem c27_16_r : RG (E0 mm) 27 c27_16 := rgN rfl
theorem c27_17_e : c27_17 = .seq c27_18 c27_19 := rfl
theorem c27_18_r : RG (E0 mm) 27 c27_18 := rgN rfl
theorem c27_20_e : c27_20 = .seq c27_21 c27_22 := rfl
theorem c27_21_r : RG (E0 mm) 27 c27_21 := rgN rfl
theorem c27_22_e : c27_22 = .ret := rfl
theorem c27_23_e : c27_23 = .skip := rfl
theorem c27_24_r : RG (E0 mm) 27 c27_24 := rgN rfl
theorem c27_25_e : c27_25 = .seq c27_26 c27_27 := rfl
theorem c27_26_r : RG (E0 mm) 27 c27_26 := rgN rfl
theorem c27_27_e : c27_27 = .ret := rfl
abbrev R27 := (Int)
def e27 : R27 → AV × Heap := fun x => (.v (.c (.d (.sc (.int .i64 x)))), [])
def K27_6 : Option (Ex × St) → Option (AV × Heap) := fun r => bodyD (E0 mm) [.tmp 4] 0 false (seqD (E0 mm) 27 0 (callW (E0 mm)) itW c27_25 (blockD 0 (r)))
def en27_6 : (Bool × List Int × Int × Int × Int) → X := fun x => (none, [.v (.c (.d (.lst x.1 (enL enN x.2.1)))), .v (.c (.d (.sc (.int .i64 x.2.2.1)))), .v (.c (.d (.sc (.int .i64 x.2.2.2.1)))), .v (.c (.d (.sc (.int .i64 x.2.2.2.2))))], [])
def j27_25  : Option R27 :=
  some (-1 : Int)
theorem j27_25_t   (sl : Nat → AV)  :
    bodyD (E0 mm) [.tmp 4] 0 false (den (E0 mm) 27 0 (callW (E0 mm)) itW c27_25 none ⟨sl, []⟩) = (j27_25).map e27 := by
  simp -implicitDefEqProofs only [j27_25, c27_25_e, c27_26_r, (show opsOf c27_26 = _ :: _ from rfl), c27_27_e, setA, setB, za, zb, zc, zd, ze, zf, zg, zh, zi, zj, zk, zl, zm, zn, zo, zp, reduceCtorEq, zE, ↓reduceIte]
  all_goals rfl
def s27_6 (s0_0 : Bool) (s0_1 : List Int) (v1 t7 t8 : Int) : Option ((Bool × List Int × Int × Int × Int) ⊕ R27) :=
  if (decide (t8 < t7)) = true then
    if 0 ≤ t8 ∧ t8 < (s0_1.length : Int) then
      if (v1 == (s0_1.getD t8.toNat default)) = true then
        some (.inr t8)
      else
        some (.inl (s0_0, s0_1, v1, t7, (w64 (t8 + 1))))
    else none
  else
    (j27_25).map .inr
theorem s27_6_t (s0_0 : Bool) (s0_1 : List Int) (v1 t7 t8 : Int) :
    stepE (K27_6 (mm := mm)) (loopF (E0 mm) 27 0 (callW (E0 mm)) itW c27_7 [(0, .keep), (1, .keep), (7, .keep), (8, .keep)] (none, [.v (.c (.d (.lst s0_0 (enL enN s0_1)))), .v (.c (.d (.sc (.int .i64 v1)))), .v (.c (.d (.sc (.int .i64 t7)))), .v (.c (.d (.sc (.int .i64 t8))))], [])) = (s27_6 s0_0 s0_1 v1 t7 t8).map (sm en27_6 e27) := by
  simp -implicitDefEqProofs only [s27_6, loopF_eq, c27_7_e, c27_8_r, (show opsOf c27_8 = _ :: _ from rfl), c27_9_e, (show c27_10 = Code.cond _ c27_11 c27_12 from rfl), setA, setB, za, zb, zc, zd, ze, zf, zg, zh, zi, zj, zk, zl, zm, zn, zo, zp, reduceCtorEq, zE, ↓reduceIte]
  refine brB (fun yc1 => ?_) (fun yc1 => ?_)
  · simp -implicitDefEqProofs only [c27_11_e, c27_13_e, c27_14_e, c27_15_e, c27_16_r, (show opsOf c27_16 = _ :: _ from rfl), c27_17_e, c27_18_r, (show opsOf c27_18 = _ :: _ from rfl), Tryd.underlying57, sz3, enN_a, yc1, setA, setB, za, zb, zc, zd, ze, zf, zg, zh, zi, zj, zk, zl, zm, zn, zo, zp, reduceCtorEq, zE, ↓reduceIte]
    refine brP (fun yc2 => ?_) (fun yc2 => ?_)
    · have yd3 : t8.toNat < s0_1.length := by omega
      simp -implicitDefEqProofs only [(enL_get enN s0_1 t8.toNat yd3), enN_e, sz3, ag3, (show c27_19 = Code.cond _ c27_20 c27_23 from rfl), yc1, yc2, yd3, setA, setB, za, zb, zc, zd, ze, zf, zg, zh, zi, zj, zk, zl, zm, zn, zo, zp, reduceCtorEq, zE, ↓reduceIte]
      refine brB (fun yc4 => ?_) (fun yc4 => ?_)
      · simp -implicitDefEqProofs only [c27_20_e, c27_21_r, (show opsOf c27_21 = _ :: _ from rfl), c27_22_e, K27_6, yc1, yc2, yd3, yc4, setA, setB, za, zb, zc, zd, ze, zf, zg, zh, zi, zj, zk, zl, zm, zn, zo, zp, reduceCtorEq, zE, ↓reduceIte]
        all_goals rfl
      · simp -implicitDefEqProofs only [c27_23_e, c27_24_r, (show opsOf c27_24 = _ :: _ from rfl), yc1, yc2, yd3, yc4, setA, setB, za, zb, zc, zd, ze, zf, zg, zh, zi, zj, zk, zl, zm, zn, zo, zp, reduceCtorEq, zE, ↓reduceIte]
        all_goals rfl
    · rw [if_neg yc2]; rfl
  · simp -implicitDefEqProofs only [c27_12_e, K27_6, yc1, setA, setB, za, zb, zc, zd, ze, zf, zg, zh, zi, zj, zk, zl, zm, zn, zo, zp, reduceCtorEq, zE, ↓reduceIte]
    exact mi (j27_25_t _)
def l27_6 (s0_0 : Bool) (s0_1 : List Int) (v1 t7 t8 : Int) : Option R27 := iter (fun x : (Bool × List Int × Int × Int × Int) => s27_6 x.1 x.2.1 x.2.2.1 x.2.2.2.1 x.2.2.2.2) (s0_0, s0_1, v1, t7, t8)
theorem l27_6_t (s0_0 : Bool) (s0_1 : List Int) (v1 t7 t8 : Int) : bodyD (E0 mm) [.tmp 4] 0 false (seqD (E0 mm) 27 0 (callW (E0 mm)) itW c27_25 (blockD 0 (itW (loopF (E0 mm) 27 0 (callW (E0 mm)) itW c27_7 [(0, .keep), (1, .keep), (7, .keep), (8, .keep)]) (none, [.v (.c (.d (.lst s0_0 (enL enN s0_1)))), .v (.c (.d (.sc (.int .i64 v1)))), .v (.c (.d (.sc (.int .i64 t7)))), .v (.c (.d (.sc (.int .i64 t8))))], [])))) = (l27_6 s0_0 s0_1 v1 t7 t8).map e27 :=
  it_sim (K := (K27_6 (mm := mm))) rfl (enc := en27_6) (fun x => s27_6_t x.1 x.2.1 x.2.2.1 x.2.2.2.1 x.2.2.2.2) (s0_0, s0_1, v1, t7, t8)
def m27 (s_0 : Bool) (s_1 : List Int) (v : Int) : Option R27 :=
  l27_6 s_0 s_1 v (s_1.length : Int) (0 : Int)
theorem f27_t (s_0 : Bool) (s_1 : List Int) (v : Int) :
    callW (E0 mm) 27 [.c (.d (.lst s_0 (enL enN s_1))), .c (.d (.sc (.int .i64 v)))] [] = (m27 s_0 s_1 v).map e27 := by
  rw [callW_run (body := c27_0) (res := [.tmp 4]) Tryd.func27 rfl rfl (by kernel_rfl)]
  simp -implicitDefEqProofs only [m27, slots2, c27_0_e, c27_1_r, (show opsOf c27_1 = _ :: _ from rfl), c27_2_e, c27_3_e, c27_4_r, (show opsOf c27_4 = _ :: _ from rfl), Tryd.underlying57, c27_5_e, c27_6_l, setA, setB, za, zb, zc, zd, ze, zf, zg, zh, zi, zj, zk, zl, zm, zn, zo, zp, reduceCtorEq, zE, ↓reduceIte]
  exact l27_6_t s_0 s_1 v (s_1.length : Int) (0 : Int)
noncomputable def c18_0 : Code := bodyOf Tryd.f18
def c18_1 := cA c18_0
def c18_2 := cB c18_0
def c18_3 := cA c18_2
def c18_4 := cB c18_2
theorem c18_0_e : c18_0 = .seq c18_1 c18_2 := rfl
theorem c18_1_r : RG (E0 mm) 18 c18_1 := rgN rfl
theorem c18_2_e : c18_2 = .seq c18_3 c18_4 := rfl
theorem c18_3_r : RG (E0 mm) 18 c18_3 := rgN rfl
theorem c18_4_e : c18_4 = .ret := rfl
abbrev R18 := (Bool)
def e18 : R18 → AV × Heap := fun x => (.v (.c (.d (.sc (.bool x)))), [])
def m18 (s_0 : Bool) (s_1 : List Int) (v : Int) : Option R18 :=
  (m27 s_0 s_1 v).bind fun yr2 =>
    some (decide (0 ≤ yr2))
theorem f18_t (s_0 : Bool) (s_1 : List Int) (v : Int) :
    callW (E0 mm) 18 [.c (.d (.lst s_0 (enL enN s_1))), .c (.d (.sc (.int .i64 v)))] [] = (m18 s_0 s_1 v).map e18 := by
  rw [callW_run (body := c18_0) (res := [.tmp 4]) Tryd.func18 rfl rfl (by kernel_rfl)]
  simp -implicitDefEqProofs only [m18, slots2, c18_0_e, c18_1_r, (show opsOf c18_1 = _ :: _ from rfl), c18_2_e, c18_3_r, (show opsOf c18_3 = _ :: _ from rfl), ent27, prm27, f27_t, setA, setB, za, zb, zc, zd, ze, zf, zg, zh, zi, zj, zk, zl, zm, zn, zo, zp, reduceCtorEq, zE, ↓reduceIte]
  refine brM (fun yc1 => ?_) (fun yr2 yc1 => ?_)
  · rw [yc1]; rfl
  · simp -implicitDefEqProofs only [e27, c18_4_e, yc1, setA, setB, za, zb, zc, zd, ze, zf, zg, zh, zi, zj, zk, zl, zm, zn, zo, zp, reduceCtorEq, zE, ↓reduceIte]
    all_goals rfl
noncomputable def c8_0 : Code := bodyOf Tryd.f8
def c8_1 := cA c8_0
def c8_2 := cB c8_0
def c8_3 := cA c8_2
def c8_4 := cB c8_2
def c8_5 := cA c8_4
def c8_6 := cB c8_4
def c8_7 := cA c8_6
def c8_8 := cA c8_7
def c8_9 := cA c8_8
def c8_10 := cB c8_8
def c8_11 := cA c8_10
def c8_12 := cA c8_11
def c8_13 := cB c8_11
def c8_14 := cB c8_10
def c8_15 := cA c8_14
def c8_16 := cB c8_14
def c8_17 := cA c8_16
def c8_18 := cA c8_17
def c8_19 := cB c8_17
def c8_20 := cB c8_16
def c8_21 := cA c8_20
def c8_22 := cB c8_20
def c8_23 := cA c8_22
def c8_24 := cA c8_23
def c8_25 := cB c8_23
def c8_26 := cA c8_25
def c8_27 := cA c8_26
def c8_28 := cB c8_26
def c8_29 := cA c8_28
def c8_30 := cA c8_29
def c8_31 := cB c8_29
def c8_32 := cB c8_28
def c8_33 := cB c8_25
def c8_34 := cA c8_33
def c8_35 := cB c8_33
def c8_36 := cB c8_22
def c8_37 := cB c8_6
def c8_38 := cA c8_37
def c8_39 := cB c8_37
def c8_40 := cA c8_39
def c8_41 := cA c8_40
def c8_42 := cB c8_40
def c8_43 := cA c8_42
def c8_44 := cA c8_43
def c8_45 := cB c8_43
def c8_46 := cB c8_42
def c8_47 := cB c8_39
def c8_48 := cA c8_47
def c8_49 := cB c8_47
theorem c8_0_e : c8_0 = .seq c8_1 c8_2 := rfl
theorem c8_1_r : RG (E0 mm) 8 c8_1 := rgN rfl
theorem c8_2_e : c8_2 = .seq c8_3 c8_4 := rfl
theorem c8_3_r : RG (E0 mm) 8 c8_3 := rgN rfl
theorem c8_4_e : c8_4 = .seq c8_5 c8_6 := rfl
theorem c8_5_r : RG (E0 mm) 8 c8_5 := rgN rfl
theorem c8_6_e : c8_6 = .seq c8_7 c8_37 := rfl
theorem c8_7_e : c8_7 = .block 0 c8_8 := rfl
theorem c8_8_e : c8_8 = .seq c8_9 c8_10 := rfl
theorem c8_9_r : RG (E0 mm) 8 c8_9 := rgN rfl
theorem c8_11_e : c8_11 = .seq c8_12 c8_13 := rfl
theorem c8_12_r : RG (E0 mm) 8 c8_12 := rgN rfl
theorem c8_13_e : c8_13 = .ret := rfl
theorem c8_14_e : c8_14 = .seq c8_15 c8_16 := rfl
theorem c8_15_r : RG (E0 mm) 8 c8_15 := rgN rfl
theorem c8_17_e : c8_17 = .seq c8_18 c8_19 := rfl
theorem c8_18_r : RG (E0 mm) 8 c8_18 := rgN rfl
theorem c8_19_e : c8_19 = .ret := rfl
theorem c8_20_e : c8_20 = .seq c8_21 c8_22 := rfl
theorem c8_21_r : RG (E0 mm) 8 c8_21 := rgN rfl
theorem c8_23_e : c8_23 = .seq c8_24 c8_25 := rfl
theorem c8_24_r : RG (E0 mm) 8 c8_24 := rgN rfl
theorem c8_25_e : c8_25 = .seq c8_26 c8_33 := rfl
theorem c8_26_e : c8_26 = .seq c8_27 c8_28 := rfl
theorem c8_27_r : RG (E0 mm) 8 c8_27 := rgN rfl
theorem c8_29_e : c8_29 = .seq c8_30 c8_31 := rfl
theorem c8_30_r : RG (E0 mm) 8 c8_30 := rgN rfl
theorem c8_31_e : c8_31 = .ret := rfl
theorem c8_32_e : c8_32 = .skip := rfl
theorem c8_33_e : c8_33 = .seq c8_34 c8_35 := rfl
theorem c8_34_r : RG (E0 mm) 8 c8_34 := rgN rfl
theorem c8_35_e : c8_35 = .ret := rfl
theorem c8_36_e : c8_36 = .skip := rfl
theorem c8_37_e : c8_37 = .seq c8_38 c8_39 := rfl
theorem c8_38_r : RG (E0 mm) 8 c8_38 := rgN rfl
theorem c8_39_e : c8_39 = .seq c8_40 c8_47 := rfl
theorem c8_40_e : c8_40 = .seq c8_41 c8_42 := rfl
theorem c8_41_r : RG (E0 mm) 8 c8_41 := rgN rfl
theorem c8_43_e : c8_43 = .seq c8_44 c8_45 := rfl
theorem c8_44_r : RG (E0 mm) 8 c8_44 := rgN rfl
theorem c8_45_e : c8_45 = .ret := rfl
theorem c8_46_e : c8_46 = .skip := rfl
theorem c8_47_e : c8_47 = .seq c8_48 c8_49 := rfl
theorem c8_48_r : RG (E0 mm) 8 c8_48 := rgN rfl
theorem c8_49_e : c8_49 = .ret := rfl
abbrev R8 := (Int × Bool)
def e8 : R8 → AV × Heap := fun x => (.tup [.c (.d (.sc (.int .i64 x.1))), .c (.d (.sc (.bool x.2)))], [])
def j8_28 (at5 end7 : Int) (t49 : Bool) : Option R8 :=
  if t49 = true then
    some ((0 : Int), true)
  else
    (m17 at5 end7).bind fun yr15 =>
      some ((w64 (min2 yr15 2147483648)), true)
theorem j8_28_t (at5 end7 : Int) (t49 : Bool) (g0 g1 g2 : Ob) (sl : Nat → AV) (zq5 : sl 5 = .v (.c (.d (.sc (.int .u64 at5))))) (zq7 : sl 7 = .v (.c (.d (.sc (.int .u64 end7))))) (zq49 : sl 49 = .v (.c (.d (.sc (.bool t49))))) :
    bodyD (E0 mm) [.tmp 2, .tmp 3] 0 false (seqD (E0 mm) 8 0 (callW (E0 mm)) itW c8_37 (blockD 0 (seqD (E0 mm) 8 0 (callW (E0 mm)) itW c8_33 (den (E0 mm) 8 0 (callW (E0 mm)) itW c8_28 none ⟨sl, [g0, g1, g2]⟩)))) = (j8_28 at5 end7 t49).map e8 := by
  simp -implicitDefEqProofs only [j8_28, (show c8_28 = Code.cond _ c8_29 c8_32 from rfl), zq5, zq7, zq49, setA, setB, za, zb, zc, zd, ze, zf, zg, zh, zi, zj, zk, zl, zm, zn, zo, zp, reduceCtorEq, zE, ↓reduceIte]
  refine brB (fun yc13 => ?_) (fun yc13 => ?_)
  · simp -implicitDefEqProofs only [c8_29_e, c8_30_r, (show opsOf c8_30 = _ :: _ from rfl), c8_31_e, zq5, zq7, zq49, yc13, setA, setB, za, zb, zc, zd, ze, zf, zg, zh, zi, zj, zk, zl, zm, zn, zo, zp, reduceCtorEq, zE, ↓reduceIte]
    all_goals rfl
  · simp -implicitDefEqProofs only [c8_32_e, c8_33_e, c8_34_r, (show opsOf c8_34 = _ :: _ from rfl), ent17, prm17, f17_t, zq5, zq7, zq49, yc13, setA, setB, za, zb, zc, zd, ze, zf, zg, zh, zi, zj, zk, zl, zm, zn, zo, zp, reduceCtorEq, zE, ↓reduceIte]
    refine brM (fun yc14 => ?_) (fun yr15 yc14 => ?_)
    · rw [yc14]; rfl
    · simp -implicitDefEqProofs only [e17, Tryd.underlying40, Tryd.underlying3, c8_35_e, zq5, zq7, zq49, yc13, yc14, setA, setB, za, zb, zc, zd, ze, zf, zg, zh, zi, zj, zk, zl, zm, zn, zo, zp, reduceCtorEq, zE, ↓reduceIte]
      all_goals rfl
def j8_42 (at5 changed9 : Int) (t72 : Bool) : Option R8 :=
  if t72 = true then
    some ((0 : Int), false)
  else
    (m17 changed9 at5).bind fun yr24 =>
      some ((w64 (min2 (wu64 (yr24.tdiv 10)) 86400)), false)
theorem j8_42_t (at5 changed9 : Int) (t72 : Bool) (g0 g1 g2 : Ob) (sl : Nat → AV) (zq5 : sl 5 = .v (.c (.d (.sc (.int .u64 at5))))) (zq9 : sl 9 = .v (.c (.d (.sc (.int .u64 changed9))))) (zq72 : sl 72 = .v (.c (.d (.sc (.bool t72))))) :
    bodyD (E0 mm) [.tmp 2, .tmp 3] 0 false (seqD (E0 mm) 8 0 (callW (E0 mm)) itW c8_47 (den (E0 mm) 8 0 (callW (E0 mm)) itW c8_42 none ⟨sl, [g0, g1, g2]⟩)) = (j8_42 at5 changed9 t72).map e8 := by
  simp -implicitDefEqProofs only [j8_42, (show c8_42 = Code.cond _ c8_43 c8_46 from rfl), zq5, zq9, zq72, setA, setB, za, zb, zc, zd, ze, zf, zg, zh, zi, zj, zk, zl, zm, zn, zo, zp, reduceCtorEq, zE, ↓reduceIte]
  refine brB (fun yc22 => ?_) (fun yc22 => ?_)
  · simp -implicitDefEqProofs only [c8_43_e, c8_44_r, (show opsOf c8_44 = _ :: _ from rfl), c8_45_e, zq5, zq9, zq72, yc22, setA, setB, za, zb, zc, zd, ze, zf, zg, zh, zi, zj, zk, zl, zm, zn, zo, zp, reduceCtorEq, zE, ↓reduceIte]
    all_goals rfl
  · simp -implicitDefEqProofs only [c8_46_e, c8_47_e, c8_48_r, (show opsOf c8_48 = _ :: _ from rfl), ent17, prm17, f17_t, zq5, zq9, zq72, yc22, setA, setB, za, zb, zc, zd, ze, zf, zg, zh, zi, zj, zk, zl, zm, zn, zo, zp, reduceCtorEq, zE, ↓reduceIte]
    refine brM (fun yc23 => ?_) (fun yr24 yc23 => ?_)
    · rw [yc23]; rfl
    · simp -implicitDefEqProofs only [e17, Tryd.underlying40, Tryd.underlying3, c8_49_e, zq5, zq9, zq72, yc22, yc23, setA, setB, za, zb, zc, zd, ze, zf, zg, zh, zi, zj, zk, zl, zm, zn, zo, zp, reduceCtorEq, zE, ↓reduceIte]
      all_goals rfl
def m8 (r0_0 : Int) (r0_1 : Bs) (r0_2 : Int) (r0_3 : Bool) (r0_4 : List (Bs × Bs)) (r0_5 : Bool) (r0_6 : List UInt8) : Option R8 :=
  (m14 r0_3 r0_4).bind fun yr2 =>
    (m12 r0_0 r0_1 r0_2 r0_3 r0_4 r0_5 r0_6).bind fun yr4 =>
      if (decide (0 ≤ yr2.2.2.2.2.2.2.2.1)) = true then
        some ((min2 yr2.2.2.2.2.2.2.2.1 2147483648), true)
      else
        if (decide (0 ≤ yr2.2.2.2.2.2.2.1)) = true then
          some ((min2 yr2.2.2.2.2.2.2.1 2147483648), true)
        else
          (m15 r0_3 r0_4 ([101, 120, 112, 105, 114, 101, 115] : Bs)).bind fun yr8 =>
            if (decide (0 < (yr8.2.length : Int))) = true then
              (m16 r0_0 r0_1 r0_2 r0_3 r0_4 r0_5 r0_6 ([101, 120, 112, 105, 114, 101, 115] : Bs)).bind fun yr11 =>
                if yr11.2 = true then
                  j8_28 yr4.1 yr11.1 (!yr4.2)
                else
                  j8_28 yr4.1 yr11.1 true
            else
              (m16 r0_0 r0_1 r0_2 r0_3 r0_4 r0_5 r0_6 ([108, 97, 115, 116, 45, 109, 111, 100, 105, 102, 105, 101, 100] : Bs)).bind fun yr17 =>
                if yr17.2 = true then
                  if yr4.2 = true then
                    (m18 false ([(200 : Int), (203 : Int), (204 : Int), (300 : Int), (301 : Int), (308 : Int), (404 : Int), (405 : Int), (410 : Int), (414 : Int), (501 : Int)] : List Int) r0_0).bind fun yr21 =>
                      j8_42 yr4.1 yr17.1 (!yr21)
                  else
                    j8_42 yr4.1 yr17.1 true
                else
                  j8_42 yr4.1 yr17.1 true
theorem f8_t (r0_0 : Int) (r0_1 : Bs) (r0_2 : Int) (r0_3 : Bool) (r0_4 : List (Bs × Bs)) (r0_5 : Bool) (r0_6 : List UInt8) :
    callW (E0 mm) 8 [.agg [.d (.sc (.int .i64 r0_0)), .d (.sc (.string (S r0_1))), .d (.sc (.int .i64 r0_2)), .d (.lst r0_3 (enL enSS r0_4)), .d (.lst r0_5 (enL enB r0_6))]] [] = (m8 r0_0 r0_1 r0_2 r0_3 r0_4 r0_5 r0_6).map e8 := by
  rw [callW_run (body := c8_0) (res := [.tmp 2, .tmp 3]) Tryd.func8 rfl rfl (by kernel_rfl)]
  simp -implicitDefEqProofs only [m8, slots1, c8_0_e, c8_1_r, (show opsOf c8_1 = _ :: _ from rfl), c8_2_e, c8_3_r, (show opsOf c8_3 = _ :: _ from rfl), Tryd.underlying35, sz22, ag22, ent14, prm14, f14_t, setA, setB, za, zb, zc, zd, ze, zf, zg, zh, zi, zj, zk, zl, zm, zn, zo, zp, reduceCtorEq, zE, ↓reduceIte]
  refine brM (fun yc1 => ?_) (fun yr2 yc1 => ?_)
  · rw [yc1]; rfl
  · simp -implicitDefEqProofs only [e14, zc51, ao50, sz51, c8_4_e, c8_5_r, (show opsOf c8_5 = _ :: _ from rfl), sz35, ag35, ent12, prm12, f12_t, yc1, setA, setB, za, zb, zc, zd, ze, zf, zg, zh, zi, zj, zk, zl, zm, zn, zo, zp, reduceCtorEq, zE, ↓reduceIte]
    refine brM (fun yc3 => ?_) (fun yr4 yc3 => ?_)
    · rw [yc3]; rfl
    · simp -implicitDefEqProofs only [e12, c8_6_e, c8_7_e, c8_8_e, c8_9_r, (show opsOf c8_9 = _ :: _ from rfl), Tryd.underlying51, sz3, ag3, (show c8_10 = Code.cond _ c8_11 c8_14 from rfl), yc1, yc3, setA, setB, za, zb, zc, zd, ze, zf, zg, zh, zi, zj, zk, zl, zm, zn, zo, zp, reduceCtorEq, zE, ↓reduceIte]
      refine brB (fun yc5 => ?_) (fun yc5 => ?_)
      · simp -implicitDefEqProofs only [c8_11_e, c8_12_r, (show opsOf c8_12 = _ :: _ from rfl), Tryd.underlying51, sz3, ag3, Tryd.underlying3, c8_13_e, yc1, yc3, yc5, setA, setB, za, zb, zc, zd, ze, zf, zg, zh, zi, zj, zk, zl, zm, zn, zo, zp, reduceCtorEq, zE, ↓reduceIte]
        all_goals rfl
      · simp -implicitDefEqProofs only [c8_14_e, c8_15_r, (show opsOf c8_15 = _ :: _ from rfl), Tryd.underlying51, sz3, ag3, (show c8_16 = Code.cond _ c8_17 c8_20 from rfl), yc1, yc3, yc5, setA, setB, za, zb, zc, zd, ze, zf, zg, zh, zi, zj, zk, zl, zm, zn, zo, zp, reduceCtorEq, zE, ↓reduceIte]
        refine brB (fun yc6 => ?_) (fun yc6 => ?_)
        · simp -implicitDefEqProofs only [c8_17_e, c8_18_r, (show opsOf c8_18 = _ :: _ from rfl), Tryd.underlying51, sz3, ag3, Tryd.underlying3, c8_19_e, yc1, yc3, yc5, yc6, setA, setB, za, zb, zc, zd, ze, zf, zg, zh, zi, zj, zk, zl, zm, zn, zo, zp, reduceCtorEq, zE, ↓reduceIte]
          all_goals rfl
        · simp -implicitDefEqProofs only [c8_20_e, c8_21_r, (show opsOf c8_21 = _ :: _ from rfl), Tryd.underlying35, sz22, ag22, ent15, prm15, (show callW (E0 mm) 15 [.c (.d (.lst r0_3 (enL enSS r0_4))), .c (.d (.sc (.string (S ([101, 120, 112, 105, 114, 101, 115] : Bs)))))] [] = _ from f15_t r0_3 r0_4 ([101, 120, 112, 105, 114, 101, 115] : Bs)), yc1, yc3, yc5, yc6, setA, setB, za, zb, zc, zd, ze, zf, zg, zh, zi, zj, zk, zl, zm, zn, zo, zp, reduceCtorEq, zE, ↓reduceIte]
          refine brM (fun yc7 => ?_) (fun yr8 yc7 => ?_)
          · rw [yc7]; rfl
          · simp -implicitDefEqProofs only [e15, Tryd.underlying41, (show c8_22 = Code.cond _ c8_23 c8_36 from rfl), yc1, yc3, yc5, yc6, yc7, setA, setB, za, zb, zc, zd, ze, zf, zg, zh, zi, zj, zk, zl, zm, zn, zo, zp, reduceCtorEq, zE, ↓reduceIte]
            refine brB (fun yc9 => ?_) (fun yc9 => ?_)
            · simp -implicitDefEqProofs only [c8_23_e, c8_24_r, (show opsOf c8_24 = _ :: _ from rfl), sz35, ag35, ent16, prm16, (show callW (E0 mm) 16 [.agg [.d (.sc (.int .i64 r0_0)), .d (.sc (.string (S r0_1))), .d (.sc (.int .i64 r0_2)), .d (.lst r0_3 (enL enSS r0_4)), .d (.lst r0_5 (enL enB r0_6))], .c (.d (.sc (.string (S ([101, 120, 112, 105, 114, 101, 115] : Bs)))))] [] = _ from f16_t r0_0 r0_1 r0_2 r0_3 r0_4 r0_5 r0_6 ([101, 120, 112, 105, 114, 101, 115] : Bs)), yc1, yc3, yc5, yc6, yc7, yc9, setA, setB, za, zb, zc, zd, ze, zf, zg, zh, zi, zj, zk, zl, zm, zn, zo, zp, reduceCtorEq, zE, ↓reduceIte]
              refine brM (fun yc10 => ?_) (fun yr11 yc10 => ?_)
              · rw [yc10]; rfl
              · simp -implicitDefEqProofs only [e16, c8_25_e, c8_26_e, c8_27_r, (show opsOf c8_27 = _ :: _ from rfl), yc1, yc3, yc5, yc6, yc7, yc9, yc10, setA, setB, za, zb, zc, zd, ze, zf, zg, zh, zi, zj, zk, zl, zm, zn, zo, zp, reduceCtorEq, zE, ↓reduceIte]
                refine brB (fun yc12 => ?_) (fun yc12 => ?_)
                · simp -implicitDefEqProofs only [yc1, yc3, yc5, yc6, yc7, yc9, yc10, yc12, setA, setB, za, zb, zc, zd, ze, zf, zg, zh, zi, zj, zk, zl, zm, zn, zo, zp, reduceCtorEq, zE, ↓reduceIte]
                  exact j8_28_t yr4.1 yr11.1 (!yr4.2) _ _ _ _ (by rfl) (by rfl) (by rfl)
                · simp -implicitDefEqProofs only [yc1, yc3, yc5, yc6, yc7, yc9, yc10, yc12, setA, setB, za, zb, zc, zd, ze, zf, zg, zh, zi, zj, zk, zl, zm, zn, zo, zp, reduceCtorEq, zE, ↓reduceIte]
                  exact j8_28_t yr4.1 yr11.1 true _ _ _ _ (by rfl) (by rfl) (by rfl)
            · simp -implicitDefEqProofs only [c8_36_e, c8_37_e, c8_38_r, (show opsOf c8_38 = _ :: _ from rfl), sz35, ag35, ent16, prm16, (show callW (E0 mm) 16 [.agg [.d (.sc (.int .i64 r0_0)), .d (.sc (.string (S r0_1))), .d (.sc (.int .i64 r0_2)), .d (.lst r0_3 (enL enSS r0_4)), .d (.lst r0_5 (enL enB r0_6))], .c (.d (.sc (.string (S ([108, 97, 115, 116, 45, 109, 111, 100, 105, 102, 105, 101, 100] : Bs)))))] [] = _ from f16_t r0_0 r0_1 r0_2 r0_3 r0_4 r0_5 r0_6 ([108, 97, 115, 116, 45, 109, 111, 100, 105, 102, 105, 101, 100] : Bs)), yc1, yc3, yc5, yc6, yc7, yc9, setA, setB, za, zb, zc, zd, ze, zf, zg, zh, zi, zj, zk, zl, zm, zn, zo, zp, reduceCtorEq, zE, ↓reduceIte]
              refine brM (fun yc16 => ?_) (fun yr17 yc16 => ?_)
              · rw [yc16]; rfl
              · simp -implicitDefEqProofs only [e16, c8_39_e, c8_40_e, c8_41_r, (show opsOf c8_41 = _ :: _ from rfl), yc1, yc3, yc5, yc6, yc7, yc9, yc16, setA, setB, za, zb, zc, zd, ze, zf, zg, zh, zi, zj, zk, zl, zm, zn, zo, zp, reduceCtorEq, zE, ↓reduceIte]
                refine brB (fun yc18 => ?_) (fun yc18 => ?_)
                · simp -implicitDefEqProofs only [yc1, yc3, yc5, yc6, yc7, yc9, yc16, yc18, setA, setB, za, zb, zc, zd, ze, zf, zg, zh, zi, zj, zk, zl, zm, zn, zo, zp, reduceCtorEq, zE, ↓reduceIte]
                  refine brB (fun yc19 => ?_) (fun yc19 => ?_)
                  · simp -implicitDefEqProofs only [Tryd.underlying57, sz3, zc3, hd57, nv58, rw59, ns60, Tryd.underlying35, ag3, ent18, prm18, (show callW (E0 mm) 18 [.c (.d (.lst false (enL enN ([(200 : Int), (203 : Int), (204 : Int), (300 : Int), (301 : Int), (308 : Int), (404 : Int), (405 : Int), (410 : Int), (414 : Int), (501 : Int)] : List Int)))), .c (.d (.sc (.int .i64 r0_0)))] [] = _ from f18_t false ([(200 : Int), (203 : Int), (204 : Int), (300 : Int), (301 : Int), (308 : Int), (404 : Int), (405 : Int), (410 : Int), (414 : Int), (501 : Int)] : List Int) r0_0), yc1, yc3, yc5, yc6, yc7, yc9, yc16, yc18, yc19, setA, setB, za, zb, zc, zd, ze, zf, zg, zh, zi, zj, zk, zl, zm, zn, zo, zp, reduceCtorEq, zE, ↓reduceIte]
                    refine brM (fun yc20 => ?_) (fun yr21 yc20 => ?_)
                    · rw [yc20]; rfl
                    · simp -implicitDefEqProofs only [e18, yc1, yc3, yc5, yc6, yc7, yc9, yc16, yc18, yc19, yc20, setA, setB, za, zb, zc, zd, ze, zf, zg, zh, zi, zj, zk, zl, zm, zn, zo, zp, reduceCtorEq, zE, ↓reduceIte]
                      exact j8_42_t yr4.1 yr17.1 (!yr21) _ _ _ _ (by rfl) (by rfl) (by rfl)
                  · simp -implicitDefEqProofs only [yc1, yc3, yc5, yc6, yc7, yc9, yc16, yc18, yc19, setA, setB, za, zb, zc, zd, ze, zf, zg, zh, zi, zj, zk, zl, zm, zn, zo, zp, reduceCtorEq, zE, ↓reduceIte]
                    exact j8_42_t yr4.1 yr17.1 true _ _ _ _ (by rfl) (by rfl) (by rfl)
                · simp -implicitDefEqProofs only [yc1, yc3, yc5, yc6, yc7, yc9, yc16, yc18, setA, setB, za, zb, zc, zd, ze, zf, zg, zh, zi, zj, zk, zl, zm, zn, zo, zp, reduceCtorEq, zE, ↓reduceIte]
                  exact j8_42_t yr4.1 yr17.1 true _ _ _ _ (by rfl) (by rfl) (by rfl)
noncomputable def c19_0 : Code := bodyOf Tryd.f19
def c19_1 := cA c19_0
def c19_2 := cB c19_0
def c19_3 := cA c19_2
def c19_4 := cB c19_2
def c19_5 := cA c19_4
def c19_6 := cA c19_5
def c19_7 := cB c19_5
def c19_8 := cA c19_7
def c19_9 := cA c19_8
def c19_10 := cB c19_8
def c19_11 := cB c19_7
def c19_12 := cB c19_4
def c19_13 := cA c19_12
def c19_14 := cB c19_12
def c19_15 := cA c19_14
def c19_16 := cA c19_15
def c19_17 := cB c19_15
def c19_18 := cA c19_17
def c19_19 := cA c19_18
def c19_20 := cB c19_18
def c19_21 := cA c19_20
def c19_22 := cA c19_21
def c19_23 := cB c19_21
def c19_24 := cB c19_20
def c19_25 := cA c19_24
def c19_26 := cB c19_24
def c19_27 := cA c19_26
def c19_28 := cA c19_27
def c19_29 := cB c19_27
def c19_30 := cB c19_26
def c19_31 := cB c19_14
def c19_32 := cA c19_31
def c19_33 := cB c19_31
theorem c19_0_e : c19_0 = .seq c19_1 c19_2 := rfl
theorem c19_1_r : RG (E0 mm) 19 c19_1 := rgN rfl
theorem c19_2_e : c19_2 = .seq c19_3 c19_4 := rfl
theorem c19_3_r : RG (E0 mm) 19 c19_3 := rgN rfl
theorem c19_4_e : c19_4 = .seq c19_5 c19_12 := rfl
theorem c19_5_e : c19_5 = .seq c19_6 c19_7 := rfl
theorem c19_6_r : RG (E0 mm) 19 c19_6 := rgN rfl
theorem c19_8_e : c19_8 = .seq c19_9 c19_10 := rfl
theorem c19_9_r : RG (E0 mm) 19 c19_9 := rgN rfl
theorem c19_10_e : c19_10 = .ret := rfl
theorem c19_11_e : c19_11 = .skip := rfl
theorem c19_12_e : c19_12 = .seq c19_13 c19_14 := rfl
theorem c19_13_r : RG (E0 mm) 19 c19_13 := rgN rfl
theorem c19_14_e : c19_14 = .seq c19_15 c19_31 := rfl
theorem c19_15_e : c19_15 = .seq c19_16 c19_17 := rfl
theorem c19_16_r : RG (E0 mm) 19 c19_16 := rgN rfl
theorem c19_17_e : c19_17 = .block 0 c19_18 := rfl
theorem c19_18_e : c19_18 = .seq c19_19 c19_20 := rfl
theorem c19_19_r : RG (E0 mm) 19 c19_19 := rgN rfl
theorem c19_21_e : c19_21 = .seq c19_22 c19_23 := rfl
theorem c19_22_r : RG (E0 mm) 19 c19_22 := rgN rfl
theorem c19_23_e : c19_23 = .ret := rfl
theorem c19_24_e : c19_24 = .seq c19_25 c19_26 := rfl
theorem c19_25_r : RG (E0 mm) 19 c19_25 := rgN rfl
theorem c19_27_e : c19_27 = .seq c19_28 c19_29 := rfl
theorem c19_28_r : RG (E0 mm) 19 c19_28 := rgN rfl
theorem c19_29_e : c19_29 = .ret := rfl
theorem c19_30_e : c19_30 = .skip := rfl
theorem c19_31_e : c19_31 = .seq c19_32 c19_33 := rfl
theorem c19_32_r : RG (E0 mm) 19 c19_32 := rgN rfl
theorem c19_33_e : c19_33 = .ret := rfl
abbrev R19 := (Int)
def e19 : R19 → AV × Heap := fun x => (.v (.c (.d (.sc (.int .u64 x)))), [])
def m19 (r0_0 : Int) (r0_1 : Bs) (r0_2 : Int) (r0_3 : Bool) (r0_4 : List (Bs × Bs)) (r0_5 : Bool) (r0_6 : List UInt8) : Option R19 :=
  (m25 r0_0 r0_1 r0_2 r0_3 r0_4 r0_5 r0_6 ([97, 103, 101] : Bs)).bind fun yr2 =>
    if yr2.2 = true then
      (m28 yr2.1).bind fun yr5 =>
        if (yr5.2 == 0) = true then
          some (min2 yr5.1 2147483648)
        else
          if (yr5.2 == 3) = true then
            some (2147483648 : Int)
          else
            some (0 : Int)
    else
      some (0 : Int)
theorem f19_t (r0_0 : Int) (r0_1 : Bs) (r0_2 : Int) (r0_3 : Bool) (r0_4 : List (Bs × Bs)) (r0_5 : Bool) (r0_6 : List UInt8) :
    callW (E0 mm) 19 [.agg [.d (.sc (.int .i64 r0_0)), .d (.sc (.string (S r0_1))), .d (.sc (.int .i64 r0_2)), .d (.lst r0_3 (enL enSS r0_4)), .d (.lst r0_5 (enL enB r0_6))]] [] = (m19 r0_0 r0_1 r0_2 r0_3 r0_4 r0_5 r0_6).map e19 := by
  rw [callW_run (body := c19_0) (res := [.tmp 2]) Tryd.func19 rfl rfl (by kernel_rfl)]
  simp -implicitDefEqProofs only [m19, slots1, c19_0_e, c19_1_r, (show opsOf c19_1 = _ :: _ from rfl), c19_2_e, c19_3_r, (show opsOf c19_3 = _ :: _ from rfl), sz35, ag35, ent25, prm25, (show callW (E0 mm) 25 [.agg [.d (.sc (.int .i64 r0_0)), .d (.sc (.string (S r0_1))), .d (.sc (.int .i64 r0_2)), .d (.lst r0_3 (enL enSS r0_4)), .d (.lst r0_5 (enL enB r0_6))], .c (.d (.sc (.string (S ([97, 103, 101] : Bs)))))] [] = _ from f25_t r0_0 r0_1 r0_2 r0_3 r0_4 r0_5 r0_6 ([97, 103, 101] : Bs)), setA, setB, za, zb, zc, zd, ze, zf, zg, zh, zi, zj, zk, zl, zm, zn, zo, zp, reduceCtorEq, zE, ↓reduceIte]
  refine brM (fun yc1 => ?_) (fun yr2 yc1 => ?_)
  · rw [yc1]; rfl
  · simp -implicitDefEqProofs only [e25, c19_4_e, c19_5_e, c19_6_r, (show opsOf c19_6 = _ :: _ from rfl), (show c19_7 = Code.cond _ c19_8 c19_11 from rfl), yc1, setA, setB, za, zb, zc, zd, ze, zf, zg, zh, zi, zj, zk, zl, zm, zn, zo, zp, reduceCtorEq, zE, ↓reduceIte]
    refine brB (fun yc3 => ?_) (fun yc3 => ?_)
    · simp -implicitDefEqProofs only [c19_11_e, c19_12_e, c19_13_r, (show opsOf c19_13 = _ :: _ from rfl), ent28, prm28, f28_t, yc1, yc3, setA, setB, za, zb, zc, zd, ze, zf, zg, zh, zi, zj, zk, zl, zm, zn, zo, zp, reduceCtorEq, zE, ↓reduceIte]
      refine brM (fun yc4 => ?_) (fun yr5 yc4 => ?_)
      · rw [yc4]; rfl
      · simp -implicitDefEqProofs only [e28, c19_14_e, c19_15_e, c19_16_r, (show opsOf c19_16 = _ :: _ from rfl), c19_17_e, c19_18_e, c19_19_r, (show opsOf c19_19 = _ :: _ from rfl), (show c19_20 = Code.cond _ c19_21 c19_24 from rfl), yc1, yc3, yc4, setA, setB, za, zb, zc, zd, ze, zf, zg, zh, zi, zj, zk, zl, zm, zn, zo, zp, reduceCtorEq, zE, ↓reduceIte]
        refine brB (fun yc6 => ?_) (fun yc6 => ?_)
        · simp -implicitDefEqProofs only [c19_21_e, c19_22_r, (show opsOf c19_22 = _ :: _ from rfl), Tryd.underlying40, c19_23_e, yc1, yc3, yc4, yc6, setA, setB, za, zb, zc, zd, ze, zf, zg, zh, zi, zj, zk, zl, zm, zn, zo, zp, reduceCtorEq, zE, ↓reduceIte]
          all_goals rfl
        · simp -implicitDefEqProofs only [c19_24_e, c19_25_r, (show opsOf c19_25 = _ :: _ from rfl), (show c19_26 = Code.cond _ c19_27 c19_30 from rfl), yc1, yc3, yc4, yc6, setA, setB, za, zb, zc, zd, ze, zf, zg, zh, zi, zj, zk, zl, zm, zn, zo, zp, reduceCtorEq, zE, ↓reduceIte]
          refine brB (fun yc7 => ?_) (fun yc7 => ?_)
          · simp -implicitDefEqProofs only [c19_27_e, c19_28_r, (show opsOf c19_28 = _ :: _ from rfl), c19_29_e, yc1, yc3, yc4, yc6, yc7, setA, setB, za, zb, zc, zd, ze, zf, zg, zh, zi, zj, zk, zl, zm, zn, zo, zp, reduceCtorEq, zE, ↓reduceIte]
            all_goals rfl
          · simp -implicitDefEqProofs only [c19_30_e, c19_31_e, c19_32_r, (show opsOf c19_32 = _ :: _ from rfl), c19_33_e, yc1, yc3, yc4, yc6, yc7, setA, setB, za, zb, zc, zd, ze, zf, zg, zh, zi, zj, zk, zl, zm, zn, zo, zp, reduceCtorEq, zE, ↓reduceIte]
            all_goals rfl
    · simp -implicitDefEqProofs only [c19_8_e, c19_9_r, (show opsOf c19_9 = _ :: _ from rfl), c19_10_e, yc1, yc3, setA, setB, za, zb, zc, zd, ze, zf, zg, zh, zi, zj, zk, zl, zm, zn, zo, zp, reduceCtorEq, zE, ↓reduceIte]
      all_goals rfl
noncomputable def c11_0 : Code := bodyOf Tryd.f11
def c11_1 := cA c11_0
def c11_2 := cB c11_0
def c11_3 := cA c11_2
def c11_4 := cB c11_2
def c11_5 := cA c11_4
def c11_6 := cA c11_5
def c11_7 := cB c11_5
def c11_8 := cA c11_7
def c11_9 := cB c11_7
def c11_10 := cA c11_9
def c11_11 := cB c11_9
def c11_12 := cB c11_4
def c11_13 := cA c11_12
def c11_14 := cB c11_12
theorem c11_0_e : c11_0 = .seq c11_1 c11_2 := rfl
theorem c11_1_r : RG (E0 mm) 11 c11_1 := rgN rfl
theorem c11_2_e : c11_2 = .seq c11_3 c11_4 := rfl
theorem c11_3_r (m : Nat) (st : St) : den (E0 mm) 11 m (callW (E0 mm)) itW c11_3 none st = regD ((runF (E0 mm) (callW (E0 mm)) (opsOf c11_3) (opsOf c11_3) [none, none, some false, none, none, some true, none, some true, none, none, none, none] st []).bind (ckF [(5, 2), (7, 2)])) := den_dF (by kernel_rfl)
theorem c11_4_e : c11_4 = .seq c11_5 c11_12 := rfl
theorem c11_5_e : c11_5 = .seq c11_6 c11_7 := rfl
theorem c11_6_r : RG (E0 mm) 11 c11_6 := rgN rfl
theorem c11_7_e : c11_7 = .seq c11_8 c11_9 := rfl
theorem c11_8_r : RG (E0 mm) 11 c11_8 := rgN rfl
theorem c11_10_r : RG (E0 mm) 11 c11_10 := rgN rfl
theorem c11_11_e : c11_11 = .skip := rfl
theorem c11_12_e : c11_12 = .seq c11_13 c11_14 := rfl
theorem c11_13_r : RG (E0 mm) 11 c11_13 := rgN rfl
theorem c11_14_e : c11_14 = .ret := rfl
abbrev R11 := (Int)
def e11 : R11 → AV × Heap := fun x => (.v (.c (.d (.sc (.int .i64 x)))), [])
def j11_12 (now1 first5 : Int) (h0_0 : Bs) (h0_1 h0_2 : Int) (h0_3_0 : Bool) (h0_3_1 : List (Bs × Bs)) (h0_4 : Int) (h0_5 : Bs) (h0_6 : Int) (h0_7_0 : Bool) (h0_7_1 : List (Bs × Bs)) (h0_8_0 : Bool) (h0_8_1 : List UInt8) : Option R11 :=
  (m17 h0_2 now1).bind fun yr11 =>
    some (w64 (min2 (wu64 ((wu64 (first5 + (min2 yr11 2147483648000))).tdiv 1000)) 2147483648))
theorem j11_12_t (now1 first5 : Int) (h0_0 : Bs) (h0_1 h0_2 : Int) (h0_3_0 : Bool) (h0_3_1 : List (Bs × Bs)) (h0_4 : Int) (h0_5 : Bs) (h0_6 : Int) (h0_7_0 : Bool) (h0_7_1 : List (Bs × Bs)) (h0_8_0 : Bool) (h0_8_1 : List UInt8)  (sl : Nat → AV) (zq1 : sl 1 = .v (.c (.d (.sc (.int .u64 now1))))) (zq2 : sl 2 = .v (.c (.ptr 0 0))) (zq5 : sl 5 = .v (.c (.d (.sc (.int .u64 first5))))) :
    bodyD (E0 mm) [.tmp 4] 0 false (den (E0 mm) 11 0 (callW (E0 mm)) itW c11_12 none ⟨sl, [.cells [.d (.sc (.string (S h0_0))), .d (.sc (.int .u64 h0_1)), .d (.sc (.int .u64 h0_2)), .d (.lst h0_3_0 (enL enSS h0_3_1)), .d (.sc (.int .i64 h0_4)), .d (.sc (.string (S h0_5))), .d (.sc (.int .i64 h0_6)), .d (.lst h0_7_0 (enL enSS h0_7_1)), .d (.lst h0_8_0 (enL enB h0_8_1))]]⟩) = (j11_12 now1 first5 h0_0 h0_1 h0_2 h0_3_0 h0_3_1 h0_4 h0_5 h0_6 h0_7_0 h0_7_1 h0_8_0 h0_8_1).map e11 := by
  simp -implicitDefEqProofs only [j11_12, c11_12_e, c11_13_r, (show opsOf c11_13 = _ :: _ from rfl), Tryd.underlying44, sz40, ag40, ent17, prm17, f17_t, zq1, zq2, zq5, setA, setB, za, zb, zc, zd, ze, zf, zg, zh, zi, zj, zk, zl, zm, zn, zo, zp, reduceCtorEq, zE, ↓reduceIte]
  refine brM (fun yc10 => ?_) (fun yr11 yc10 => ?_)
  · rw [yc10]; rfl
  · simp -implicitDefEqProofs only [e17, Tryd.underlying40, Tryd.underlying3, c11_14_e, zq1, zq2, zq5, yc10, setA, setB, za, zb, zc, zd, ze, zf, zg, zh, zi, zj, zk, zl, zm, zn, zo, zp, reduceCtorEq, zE, ↓reduceIte]
    all_goals rfl
def m11 (e0_0 : Bs) (e0_1 e0_2 : Int) (e0_3 : Bool) (e0_4 : List (Bs × Bs)) (e0_5 : Int) (e0_6 : Bs) (e0_7 : Int) (e0_8 : Bool) (e0_9 : List (Bs × Bs)) (e0_10 : Bool) (e0_11 : List UInt8) (now : Int) : Option R11 :=
  (m19 e0_5 e0_6 e0_7 e0_8 e0_9 e0_10 e0_11).bind fun yr2 =>
    (m17 e0_1 e0_2).bind fun yr4 =>
      (m12 e0_5 e0_6 e0_7 e0_8 e0_9 e0_10 e0_11).bind fun yr6 =>
        if yr6.2 = true then
          (m17 (wu64 (1000 * yr6.1)) e0_2).bind fun yr9 =>
            j11_12 now (max2 (wu64 ((wu64 (1000 * yr2)) + (min2 yr4 2147483648000))) (min2 yr9 2147483648000)) e0_0 e0_1 e0_2 e0_3 e0_4 e0_5 e0_6 e0_7 e0_8 e0_9 e0_10 e0_11
        else
          j11_12 now (wu64 ((wu64 (1000 * yr2)) + (min2 yr4 2147483648000))) e0_0 e0_1 e0_2 e0_3 e0_4 e0_5 e0_6 e0_7 e0_8 e0_9 e0_10 e0_11
theorem f11_t (e0_0 : Bs) (e0_1 e0_2 : Int) (e0_3 : Bool) (e0_4 : List (Bs × Bs)) (e0_5 : Int) (e0_6 : Bs) (e0_7 : Int) (e0_8 : Bool) (e0_9 : List (Bs × Bs)) (e0_10 : Bool) (e0_11 : List UInt8) (now : Int) :
    callW (E0 mm) 11 [.agg [.d (.sc (.string (S e0_0))), .d (.sc (.int .u64 e0_1)), .d (.sc (.int .u64 e0_2)), .d (.lst e0_3 (enL enSS e0_4)), .d (.sc (.int .i64 e0_5)), .d (.sc (.string (S e0_6))), .d (.sc (.int .i64 e0_7)), .d (.lst e0_8 (enL enSS e0_9)), .d (.lst e0_10 (enL enB e0_11))], .c (.d (.sc (.int .u64 now)))] [] = (m11 e0_0 e0_1 e0_2 e0_3 e0_4 e0_5 e0_6 e0_7 e0_8 e0_9 e0_10 e0_11 now).map e11 := by
  rw [callW_run (body := c11_0) (res := [.tmp 4]) Tryd.func11 rfl rfl (by kernel_rfl)]
  simp -implicitDefEqProofs only [m11, slots2, c11_0_e, c11_1_r, (show opsOf c11_1 = _ :: _ from rfl), c11_2_e, c11_3_r, (show opsOf c11_3 = _ :: _ from rfl), Tryd.underlying44, sz35, ag35, ent19, prm19, f19_t, runF_nil, runF_none, runF_some, runKF_t, runKF_f, runKF_x, stepKF_s, stepKF_x, tlT_c, tlT_n, hdT_c, hdT_n, footT_n, foot_t, readsO, setA, setB, za, zb, zc, zd, ze, zf, zg, zh, zi, zj, zk, zl, zm, zn, zo, zp, reduceCtorEq, zE, ↓reduceIte]
  refine brM (fun yc1 => ?_) (fun yr2 yc1 => ?_)
  · rw [yc1]; rfl
  · simp -implicitDefEqProofs only [e19, Tryd.underlying44, sz40, ag40, ent17, prm17, f17_t, runF_nil, runF_none, runF_some, runKF_t, runKF_f, runKF_x, stepKF_s, stepKF_x, tlT_c, tlT_n, hdT_c, hdT_n, footT_n, foot_t, readsO, yc1, setA, setB, za, zb, zc, zd, ze, zf, zg, zh, zi, zj, zk, zl, zm, zn, zo, zp, reduceCtorEq, zE, ↓reduceIte]
    refine brM (fun yc3 => ?_) (fun yr4 yc3 => ?_)
    · rw [yc3]; rfl
    · simp -implicitDefEqProofs only [e17, Tryd.underlying40, ckF, foot_f, pair1, pair0, chgA, eqO, eqOb_cells, eqOb_row, eqOb_siter, eqOb_amapN, eqOb_amapC, eqOb_sm, eqE_S, eqE_SS, eqE_N, eqE_B, eqL, eqC, eqD, eqV, eqV1, eqB_refl, eq_self, decide_true, List.all_nil, List.getD_cons_zero, List.getD_cons_succ, Bool.and_self, c11_4_e, c11_5_e, c11_6_r, (show opsOf c11_6 = _ :: _ from rfl), Tryd.underlying44, sz35, ag35, ent12, prm12, f12_t, runF_nil, runF_none, runF_some, runKF_t, runKF_f, runKF_x, stepKF_s, stepKF_x, tlT_c, tlT_n, hdT_c, hdT_n, footT_n, foot_t, readsO, yc1, yc3, setA, setB, za, zb, zc, zd, ze, zf, zg, zh, zi, zj, zk, zl, zm, zn, zo, zp, reduceCtorEq, zE, ↓reduceIte]
      refine brM (fun yc5 => ?_) (fun yr6 yc5 => ?_)
      · rw [yc5]; rfl
      · simp -implicitDefEqProofs only [e12, c11_7_e, c11_8_r, (show opsOf c11_8 = _ :: _ from rfl), (show c11_9 = Code.cond _ c11_10 c11_11 from rfl), runF_nil, runF_none, runF_some, runKF_t, runKF_f, runKF_x, stepKF_s, stepKF_x, tlT_c, tlT_n, hdT_c, hdT_n, footT_n, foot_t, readsO, yc1, yc3, yc5, setA, setB, za, zb, zc, zd, ze, zf, zg, zh, zi, zj, zk, zl, zm, zn, zo, zp, reduceCtorEq, zE, ↓reduceIte]
        refine brB (fun yc7 => ?_) (fun yc7 => ?_)
        · simp -implicitDefEqProofs only [c11_10_r, (show opsOf c11_10 = _ :: _ from rfl), Tryd.underlying44, sz40, ag40, ent17, prm17, f17_t, runF_nil, runF_none, runF_some, runKF_t, runKF_f, runKF_x, stepKF_s, stepKF_x, tlT_c, tlT_n, hdT_c, hdT_n, footT_n, foot_t, readsO, yc1, yc3, yc5, yc7, setA, setB, za, zb, zc, zd, ze, zf, zg, zh, zi, zj, zk, zl, zm, zn, zo, zp, reduceCtorEq, zE, ↓reduceIte]
          refine brM (fun yc8 => ?_) (fun yr9 yc8 => ?_)
          · rw [yc8]; rfl
          · simp -implicitDefEqProofs only [e17, Tryd.underlying40, runF_nil, runF_none, runF_some, runKF_t, runKF_f, runKF_x, stepKF_s, stepKF_x, tlT_c, tlT_n, hdT_c, hdT_n, footT_n, foot_t, readsO, yc1, yc3, yc5, yc7, yc8, setA, setB, za, zb, zc, zd, ze, zf, zg, zh, zi, zj, zk, zl, zm, zn, zo, zp, reduceCtorEq, zE, ↓reduceIte]
            exact j11_12_t now (max2 (wu64 ((wu64 (1000 * yr2)) + (min2 yr4 2147483648000))) (min2 yr9 2147483648000)) e0_0 e0_1 e0_2 e0_3 e0_4 e0_5 e0_6 e0_7 e0_8 e0_9 e0_10 e0_11 _ (by rfl) (by rfl) (by rfl)
        · simp -implicitDefEqProofs only [c11_11_e, runF_nil, runF_none, runF_some, runKF_t, runKF_f, runKF_x, stepKF_s, stepKF_x, tlT_c, tlT_n, hdT_c, hdT_n, footT_n, foot_t, readsO, yc1, yc3, yc5, yc7, setA, setB, za, zb, zc, zd, ze, zf, zg, zh, zi, zj, zk, zl, zm, zn, zo, zp, reduceCtorEq, zE, ↓reduceIte]
          exact j11_12_t now (wu64 ((wu64 (1000 * yr2)) + (min2 yr4 2147483648000))) e0_0 e0_1 e0_2 e0_3 e0_4 e0_5 e0_6 e0_7 e0_8 e0_9 e0_10 e0_11 _ (by rfl) (by rfl) (by rfl)
noncomputable def c13_0 : Code := bodyOf Tryd.f13
def c13_1 := cA c13_0
def c13_2 := cB c13_0
def c13_3 := cA c13_2
def c13_4 := cB c13_2
def c13_5 := cA c13_4
def c13_6 := cB c13_4
theorem c13_0_e : c13_0 = .seq c13_1 c13_2 := rfl
theorem c13_1_r : RG (E0 mm) 13 c13_1 := rgN rfl
theorem c13_2_e : c13_2 = .seq c13_3 c13_4 := rfl
theorem c13_3_r : RG (E0 mm) 13 c13_3 := rgN rfl
theorem c13_4_e : c13_4 = .seq c13_5 c13_6 := rfl
theorem c13_5_r : RG (E0 mm) 13 c13_5 := rgN rfl
theorem c13_6_e : c13_6 = .ret := rfl
abbrev R13 := (Bool)
def e13 : R13 → AV × Heap := fun x => (.v (.c (.d (.sc (.bool x)))), [])
def m13 (e0_0 : Bs) (e0_1 e0_2 : Int) (e0_3 : Bool) (e0_4 : List (Bs × Bs)) (e0_5 : Int) (e0_6 : Bs) (e0_7 : Int) (e0_8 : Bool) (e0_9 : List (Bs × Bs)) (e0_10 : Bool) (e0_11 : List UInt8) (now : Int) : Option R13 :=
  (m8 e0_5 e0_6 e0_7 e0_8 e0_9 e0_10 e0_11).bind fun yr2 =>
    (m11 e0_0 e0_1 e0_2 e0_3 e0_4 e0_5 e0_6 e0_7 e0_8 e0_9 e0_10 e0_11 now).bind fun yr4 =>
      some (decide (yr4 < yr2.1))
theorem f13_t (e0_0 : Bs) (e0_1 e0_2 : Int) (e0_3 : Bool) (e0_4 : List (Bs × Bs)) (e0_5 : Int) (e0_6 : Bs) (e0_7 : Int) (e0_8 : Bool) (e0_9 : List (Bs × Bs)) (e0_10 : Bool) (e0_11 : List UInt8) (now : Int) :
    callW (E0 mm) 13 [.agg [.d (.sc (.string (S e0_0))), .d (.sc (.int .u64 e0_1)), .d (.sc (.int .u64 e0_2)), .d (.lst e0_3 (enL enSS e0_4)), .d (.sc (.int .i64 e0_5)), .d (.sc (.string (S e0_6))), .d (.sc (.int .i64 e0_7)), .d (.lst e0_8 (enL enSS e0_9)), .d (.lst e0_10 (enL enB e0_11))], .c (.d (.sc (.int .u64 now)))] [] = (m13 e0_0 e0_1 e0_2 e0_3 e0_4 e0_5 e0_6 e0_7 e0_8 e0_9 e0_10 e0_11 now).map e13 := by
  rw [callW_run (body := c13_0) (res := [.tmp 4]) Tryd.func13 rfl rfl (by kernel_rfl)]
  simp -implicitDefEqProofs only [m13, slots2, c13_0_e, c13_1_r, (show opsOf c13_1 = _ :: _ from rfl), c13_2_e, c13_3_r, (show opsOf c13_3 = _ :: _ from rfl), Tryd.underlying44, sz35, ag35, ent8, prm8, f8_t, setA, setB, za, zb, zc, zd, ze, zf, zg, zh, zi, zj, zk, zl, zm, zn, zo, zp, reduceCtorEq, zE, ↓reduceIte]
  refine brM (fun yc1 => ?_) (fun yr2 yc1 => ?_)
  · rw [yc1]; rfl
  · simp -implicitDefEqProofs only [e8, c13_4_e, c13_5_r, (show opsOf c13_5 = _ :: _ from rfl), sz44, ag44, ent11, prm11, f11_t, yc1, setA, setB, za, zb, zc, zd, ze, zf, zg, zh, zi, zj, zk, zl, zm, zn, zo, zp, reduceCtorEq, zE, ↓reduceIte]
    refine brM (fun yc3 => ?_) (fun yr4 yc3 => ?_)
    · rw [yc3]; rfl
    · simp -implicitDefEqProofs only [e11, c13_6_e, yc1, yc3, setA, setB, za, zb, zc, zd, ze, zf, zg, zh, zi, zj, zk, zl, zm, zn, zo, zp, reduceCtorEq, zE, ↓reduceIte]
      all_goals rfl
noncomputable def c5_0 : Code := bodyOf Tryd.f5
def c5_1 := cA c5_0
def c5_2 := cB c5_0
def c5_3 := cA c5_2
def c5_4 := cB c5_2
def c5_5 := cA c5_4
def c5_6 := cB c5_4
def c5_7 := cA c5_6
def c5_8 := cB c5_6
def c5_9 := cA c5_8
def c5_10 := cA c5_9
def c5_11 := cB c5_9
def c5_12 := cA c5_11
def c5_13 := cA c5_12
def c5_14 := cB c5_12
def c5_15 := cB c5_11
def c5_16 := cB c5_8
def c5_17 := cA c5_16
def c5_18 := cA c5_17
def c5_19 := cB c5_17
def c5_20 := cA c5_19
def c5_21 := cA c5_20
def c5_22 := cB c5_20
def c5_23 := cA c5_22
def c5_24 := cA c5_23
def c5_25 := cB c5_23
def c5_26 := cA c5_25
def c5_27 := cA c5_26
def c5_28 := cB c5_26
def c5_29 := cB c5_25
def c5_30 := cB c5_22
def c5_31 := cA c5_30
def c5_32 := cB c5_30
def c5_33 := cA c5_32
def c5_34 := cA c5_33
def c5_35 := cB c5_33
def c5_36 := cA c5_35
def c5_37 := cB c5_35
def c5_38 := cB c5_32
def c5_39 := cA c5_38
def c5_40 := cB c5_38
def c5_41 := cA c5_40
def c5_42 := cA c5_41
def c5_43 := cB c5_41
def c5_44 := cB c5_40
def c5_45 := cB c5_19
def c5_46 := cB c5_16
def c5_47 := cA c5_46
def c5_48 := cB c5_46
def c5_49 := cA c5_48
def c5_50 := cB c5_48
theorem c5_0_e : c5_0 = .seq c5_1 c5_2 := rfl
theorem c5_1_r : RG (E0 mm) 5 c5_1 := rgN rfl
theorem c5_2_e : c5_2 = .seq c5_3 c5_4 := rfl
theorem c5_3_r : RG (E0 mm) 5 c5_3 := rgN rfl
theorem c5_4_e : c5_4 = .seq c5_5 c5_6 := rfl
theorem c5_5_r : RG (E0 mm) 5 c5_5 := rgN rfl
theorem c5_6_e : c5_6 = .seq c5_7 c5_8 := rfl
theorem c5_7_r (m : Nat) (st : St) : den (E0 mm) 5 m (callW (E0 mm)) itW c5_7 none st = regD ((runF (E0 mm) (callW (E0 mm)) (opsOf c5_7) (opsOf c5_7) [none, none, some false, some true, none, none, none, none, none, none] st []).bind (ckF [(3, 2)])) := den_dF (by kernel_rfl)
theorem c5_8_e : c5_8 = .seq c5_9 c5_16 := rfl
theorem c5_9_e : c5_9 = .seq c5_10 c5_11 := rfl
theorem c5_10_r : RG (E0 mm) 5 c5_10 := rgN rfl
theorem c5_12_e : c5_12 = .seq c5_13 c5_14 := rfl
theorem c5_13_r : RG (E0 mm) 5 c5_13 := rgN rfl
theorem c5_14_e : c5_14 = .ret := rfl
theorem c5_15_e : c5_15 = .skip := rfl
theorem c5_16_e : c5_16 = .seq c5_17 c5_46 := rfl
theorem c5_17_e : c5_17 = .seq c5_18 c5_19 := rfl
theorem c5_18_r : RG (E0 mm) 5 c5_18 := rgN rfl
theorem c5_20_e : c5_20 = .seq c5_21 c5_22 := rfl
theorem c5_21_r : RG (E0 mm) 5 c5_21 := rgN rfl
theorem c5_22_e : c5_22 = .seq c5_23 c5_30 := rfl
theorem c5_23_e : c5_23 = .seq c5_24 c5_25 := rfl
theorem c5_24_r : RG (E0 mm) 5 c5_24 := rgN rfl
theorem c5_26_e : c5_26 = .seq c5_27 c5_28 := rfl
theorem c5_27_r : RG (E0 mm) 5 c5_27 := rgN rfl
theorem c5_28_e : c5_28 = .ret := rfl
theorem c5_29_e : c5_29 = .skip := rfl
theorem c5_30_e : c5_30 = .seq c5_31 c5_32 := rfl
theorem c5_31_r : RG (E0 mm) 5 c5_31 := rgN rfl
theorem c5_32_e : c5_32 = .seq c5_33 c5_38 := rfl
theorem c5_33_e : c5_33 = .seq c5_34 c5_35 := rfl
theorem c5_34_r : RG (E0 mm) 5 c5_34 := rgN rfl
theorem c5_36_r : RG (E0 mm) 5 c5_36 := rgN rfl
theorem c5_37_e : c5_37 = .skip := rfl
theorem c5_38_e : c5_38 = .seq c5_39 c5_40 := rfl
theorem c5_39_r : RG (E0 mm) 5 c5_39 := rgN rfl
theorem c5_41_e : c5_41 = .seq c5_42 c5_43 := rfl
theorem c5_42_r : RG (E0 mm) 5 c5_42 := rgN rfl
theorem c5_43_e : c5_43 = .ret := rfl
theorem c5_44_e : c5_44 = .skip := rfl
theorem c5_45_e : c5_45 = .skip := rfl
theorem c5_46_e : c5_46 = .seq c5_47 c5_48 := rfl
theorem c5_47_r : RG (E0 mm) 5 c5_47 := rgN rfl
theorem c5_48_e : c5_48 = .seq c5_49 c5_50 := rfl
theorem c5_49_r : RG (E0 mm) 5 c5_49 := rgN rfl
theorem c5_50_e : c5_50 = .ret := rfl
abbrev R5 := (Bool)
def e5 : R5 → AV × Heap := fun x => (.v (.c (.d (.sc (.bool x)))), [])
def j5_46 (now1 a7 : Int) (h0_0 : Bs) (h0_1 h0_2 : Int) (h0_3_0 : Bool) (h0_3_1 : List (Bs × Bs)) (h0_4 : Int) (h0_5 : Bs) (h0_6 : Int) (h0_7_0 : Bool) (h0_7_1 : List (Bs × Bs)) (h0_8_0 : Bool) (h0_8_1 : List UInt8) : Option R5 :=
  (m8 h0_4 h0_5 h0_6 h0_7_0 h0_7_1 h0_8_0 h0_8_1).bind fun yr14 =>
    if (decide (0 ≤ yr14.1)) = true then
      if (decide (yr14.1 ≤ 2147483648)) = true then
        (m13 h0_0 h0_1 h0_2 h0_3_0 h0_3_1 h0_4 h0_5 h0_6 h0_7_0 h0_7_1 h0_8_0 h0_8_1 now1).bind fun yr18 =>
          some (yr18 == (decide (a7 < yr14.1)))
      else
        some false
    else
      some false
theorem j5_46_t (now1 a7 : Int) (h0_0 : Bs) (h0_1 h0_2 : Int) (h0_3_0 : Bool) (h0_3_1 : List (Bs × Bs)) (h0_4 : Int) (h0_5 : Bs) (h0_6 : Int) (h0_7_0 : Bool) (h0_7_1 : List (Bs × Bs)) (h0_8_0 : Bool) (h0_8_1 : List UInt8)  (sl : Nat → AV) (zq1 : sl 1 = .v (.c (.d (.sc (.int .u64 now1))))) (zq3 : sl 3 = .v (.c (.ptr 0 0))) (zq7 : sl 7 = .v (.c (.d (.sc (.int .i64 a7))))) :
    bodyD (E0 mm) [.tmp 6] 0 false (den (E0 mm) 5 0 (callW (E0 mm)) itW c5_46 none ⟨sl, [.cells [.d (.sc (.string (S h0_0))), .d (.sc (.int .u64 h0_1)), .d (.sc (.int .u64 h0_2)), .d (.lst h0_3_0 (enL enSS h0_3_1)), .d (.sc (.int .i64 h0_4)), .d (.sc (.string (S h0_5))), .d (.sc (.int .i64 h0_6)), .d (.lst h0_7_0 (enL enSS h0_7_1)), .d (.lst h0_8_0 (enL enB h0_8_1))]]⟩) = (j5_46 now1 a7 h0_0 h0_1 h0_2 h0_3_0 h0_3_1 h0_4 h0_5 h0_6 h0_7_0 h0_7_1 h0_8_0 h0_8_1).map e5 := by
  simp -implicitDefEqProofs only [j5_46, c5_46_e, c5_47_r, (show opsOf c5_47 = _ :: _ from rfl), Tryd.underlying44, sz35, ag35, ent8, prm8, f8_t, zq1, zq3, zq7, setA, setB, za, zb, zc, zd, ze, zf, zg, zh, zi, zj, zk, zl, zm, zn, zo, zp, reduceCtorEq, zE, ↓reduceIte]
  refine brM (fun yc13 => ?_) (fun yr14 yc13 => ?_)
  · rw [yc13]; rfl
  · simp -implicitDefEqProofs only [e8, c5_48_e, c5_49_r, (show opsOf c5_49 = _ :: _ from rfl), ent6, prm6, f6_t, zq1, zq3, zq7, yc13, setA, setB, za, zb, zc, zd, ze, zf, zg, zh, zi, zj, zk, zl, zm, zn, zo, zp, reduceCtorEq, zE, ↓reduceIte]
    refine brB (fun yc15 => ?_) (fun yc15 => ?_)
    · simp -implicitDefEqProofs only [zq1, zq3, zq7, yc13, yc15, setA, setB, za, zb, zc, zd, ze, zf, zg, zh, zi, zj, zk, zl, zm, zn, zo, zp, reduceCtorEq, zE, ↓reduceIte]
      refine brB (fun yc16 => ?_) (fun yc16 => ?_)
      · simp -implicitDefEqProofs only [sz44, ag44, ent13, prm13, f13_t, zq1, zq3, zq7, yc13, yc15, yc16, setA, setB, za, zb, zc, zd, ze, zf, zg, zh, zi, zj, zk, zl, zm, zn, zo, zp, reduceCtorEq, zE, ↓reduceIte]
        refine brM (fun yc17 => ?_) (fun yr18 yc17 => ?_)
        · rw [yc17]; rfl
        · simp -implicitDefEqProofs only [e13, Tryd.underlying4, c5_50_e, zq1, zq3, zq7, yc13, yc15, yc16, yc17, setA, setB, za, zb, zc, zd, ze, zf, zg, zh, zi, zj, zk, zl, zm, zn, zo, zp, reduceCtorEq, zE, ↓reduceIte]
          all_goals rfl
      · simp -implicitDefEqProofs only [c5_50_e, zq1, zq3, zq7, yc13, yc15, yc16, setA, setB, za, zb, zc, zd, ze, zf, zg, zh, zi, zj, zk, zl, zm, zn, zo, zp, reduceCtorEq, zE, ↓reduceIte]
        all_goals rfl
    · simp -implicitDefEqProofs only [c5_50_e, zq1, zq3, zq7, yc13, yc15, setA, setB, za, zb, zc, zd, ze, zf, zg, zh, zi, zj, zk, zl, zm, zn, zo, zp, reduceCtorEq, zE, ↓reduceIte]
      all_goals rfl
def j5_38 (now1 a7 here10 : Int) (h0_0 : Bs) (h0_1 h0_2 : Int) (h0_3_0 : Bool) (h0_3_1 : List (Bs × Bs)) (h0_4 : Int) (h0_5 : Bs) (h0_6 : Int) (h0_7_0 : Bool) (h0_7_1 : List (Bs × Bs)) (h0_8_0 : Bool) (h0_8_1 : List UInt8) : Option R5 :=
  if (decide ((wu64 a7) < (min2 (wu64 (here10.tdiv 1000)) 2147483648))) = true then
    some false
  else
    j5_46 now1 a7 h0_0 h0_1 h0_2 h0_3_0 h0_3_1 h0_4 h0_5 h0_6 h0_7_0 h0_7_1 h0_8_0 h0_8_1
theorem j5_38_t (now1 a7 here10 : Int) (h0_0 : Bs) (h0_1 h0_2 : Int) (h0_3_0 : Bool) (h0_3_1 : List (Bs × Bs)) (h0_4 : Int) (h0_5 : Bs) (h0_6 : Int) (h0_7_0 : Bool) (h0_7_1 : List (Bs × Bs)) (h0_8_0 : Bool) (h0_8_1 : List UInt8)  (sl : Nat → AV) (zq1 : sl 1 = .v (.c (.d (.sc (.int .u64 now1))))) (zq3 : sl 3 = .v (.c (.ptr 0 0))) (zq7 : sl 7 = .v (.c (.d (.sc (.int .i64 a7))))) (zq10 : sl 10 = .v (.c (.d (.sc (.int .u64 here10))))) :
    bodyD (E0 mm) [.tmp 6] 0 false (seqD (E0 mm) 5 0 (callW (E0 mm)) itW c5_46 (den (E0 mm) 5 0 (callW (E0 mm)) itW c5_38 none ⟨sl, [.cells [.d (.sc (.string (S h0_0))), .d (.sc (.int .u64 h0_1)), .d (.sc (.int .u64 h0_2)), .d (.lst h0_3_0 (enL enSS h0_3_1)), .d (.sc (.int .i64 h0_4)), .d (.sc (.string (S h0_5))), .d (.sc (.int .i64 h0_6)), .d (.lst h0_7_0 (enL enSS h0_7_1)), .d (.lst h0_8_0 (enL enB h0_8_1))]]⟩)) = (j5_38 now1 a7 here10 h0_0 h0_1 h0_2 h0_3_0 h0_3_1 h0_4 h0_5 h0_6 h0_7_0 h0_7_1 h0_8_0 h0_8_1).map e5 := by
  simp -implicitDefEqProofs only [j5_38, c5_38_e, c5_39_r, (show opsOf c5_39 = _ :: _ from rfl), Tryd.underlying3, Tryd.underlying40, (show c5_40 = Code.cond _ c5_41 c5_44 from rfl), zq1, zq3, zq7, zq10, setA, setB, za, zb, zc, zd, ze, zf, zg, zh, zi, zj, zk, zl, zm, zn, zo, zp, reduceCtorEq, zE, ↓reduceIte]
  refine brB (fun yc12 => ?_) (fun yc12 => ?_)
  · simp -implicitDefEqProofs only [c5_41_e, c5_42_r, (show opsOf c5_42 = _ :: _ from rfl), c5_43_e, zq1, zq3, zq7, zq10, yc12, setA, setB, za, zb, zc, zd, ze, zf, zg, zh, zi, zj, zk, zl, zm, zn, zo, zp, reduceCtorEq, zE, ↓reduceIte]
    all_goals rfl
  · simp -implicitDefEqProofs only [c5_44_e, zq1, zq3, zq7, zq10, yc12, setA, setB, za, zb, zc, zd, ze, zf, zg, zh, zi, zj, zk, zl, zm, zn, zo, zp, reduceCtorEq, zE, ↓reduceIte]
    exact j5_46_t now1 a7 h0_0 h0_1 h0_2 h0_3_0 h0_3_1 h0_4 h0_5 h0_6 h0_7_0 h0_7_1 h0_8_0 h0_8_1 _ (by exact zq1) (by exact zq3) (by exact zq7)
def j5_25 (now1 a7 : Int) (t84 : Bool) (h0_0 : Bs) (h0_1 h0_2 : Int) (h0_3_0 : Bool) (h0_3_1 : List (Bs × Bs)) (h0_4 : Int) (h0_5 : Bs) (h0_6 : Int) (h0_7_0 : Bool) (h0_7_1 : List (Bs × Bs)) (h0_8_0 : Bool) (h0_8_1 : List UInt8) : Option R5 :=
  if t84 = true then
    some false
  else
    if (decide (h0_1 ≤ h0_2)) = true then
      j5_38 now1 a7 (wu64 ((wu64 (now1 - h0_2)) + (wu64 (h0_2 - h0_1)))) h0_0 h0_1 h0_2 h0_3_0 h0_3_1 h0_4 h0_5 h0_6 h0_7_0 h0_7_1 h0_8_0 h0_8_1
    else
      j5_38 now1 a7 (wu64 (now1 - h0_2)) h0_0 h0_1 h0_2 h0_3_0 h0_3_1 h0_4 h0_5 h0_6 h0_7_0 h0_7_1 h0_8_0 h0_8_1
theorem j5_25_t (now1 a7 : Int) (t84 : Bool) (h0_0 : Bs) (h0_1 h0_2 : Int) (h0_3_0 : Bool) (h0_3_1 : List (Bs × Bs)) (h0_4 : Int) (h0_5 : Bs) (h0_6 : Int) (h0_7_0 : Bool) (h0_7_1 : List (Bs × Bs)) (h0_8_0 : Bool) (h0_8_1 : List UInt8)  (sl : Nat → AV) (zq1 : sl 1 = .v (.c (.d (.sc (.int .u64 now1))))) (zq3 : sl 3 = .v (.c (.ptr 0 0))) (zq7 : sl 7 = .v (.c (.d (.sc (.int .i64 a7))))) (zq84 : sl 84 = .v (.c (.d (.sc (.bool t84))))) :
    bodyD (E0 mm) [.tmp 6] 0 false (seqD (E0 mm) 5 0 (callW (E0 mm)) itW c5_46 (seqD (E0 mm) 5 0 (callW (E0 mm)) itW c5_30 (den (E0 mm) 5 0 (callW (E0 mm)) itW c5_25 none ⟨sl, [.cells [.d (.sc (.string (S h0_0))), .d (.sc (.int .u64 h0_1)), .d (.sc (.int .u64 h0_2)), .d (.lst h0_3_0 (enL enSS h0_3_1)), .d (.sc (.int .i64 h0_4)), .d (.sc (.string (S h0_5))), .d (.sc (.int .i64 h0_6)), .d (.lst h0_7_0 (enL enSS h0_7_1)), .d (.lst h0_8_0 (enL enB h0_8_1))]]⟩))) = (j5_25 now1 a7 t84 h0_0 h0_1 h0_2 h0_3_0 h0_3_1 h0_4 h0_5 h0_6 h0_7_0 h0_7_1 h0_8_0 h0_8_1).map e5 := by
  simp -implicitDefEqProofs only [j5_25, (show c5_25 = Code.cond _ c5_26 c5_29 from rfl), zq1, zq3, zq7, zq84, setA, setB, za, zb, zc, zd, ze, zf, zg, zh, zi, zj, zk, zl, zm, zn, zo, zp, reduceCtorEq, zE, ↓reduceIte]
  refine brB (fun yc10 => ?_) (fun yc10 => ?_)
  · simp -implicitDefEqProofs only [c5_26_e, c5_27_r, (show opsOf c5_27 = _ :: _ from rfl), c5_28_e, zq1, zq3, zq7, zq84, yc10, setA, setB, za, zb, zc, zd, ze, zf, zg, zh, zi, zj, zk, zl, zm, zn, zo, zp, reduceCtorEq, zE, ↓reduceIte]
    all_goals rfl
  · simp -implicitDefEqProofs only [c5_29_e, c5_30_e, c5_31_r, (show opsOf c5_31 = _ :: _ from rfl), Tryd.underlying44, sz40, ag40, c5_32_e, c5_33_e, c5_34_r, (show opsOf c5_34 = _ :: _ from rfl), (show c5_35 = Code.cond _ c5_36 c5_37 from rfl), zq1, zq3, zq7, zq84, yc10, setA, setB, za, zb, zc, zd, ze, zf, zg, zh, zi, zj, zk, zl, zm, zn, zo, zp, reduceCtorEq, zE, ↓reduceIte]
    refine brB (fun yc11 => ?_) (fun yc11 => ?_)
    · simp -implicitDefEqProofs only [c5_36_r, (show opsOf c5_36 = _ :: _ from rfl), Tryd.underlying44, sz40, ag40, zq1, zq3, zq7, zq84, yc10, yc11, setA, setB, za, zb, zc, zd, ze, zf, zg, zh, zi, zj, zk, zl, zm, zn, zo, zp, reduceCtorEq, zE, ↓reduceIte]
      exact j5_38_t now1 a7 (wu64 ((wu64 (now1 - h0_2)) + (wu64 (h0_2 - h0_1)))) h0_0 h0_1 h0_2 h0_3_0 h0_3_1 h0_4 h0_5 h0_6 h0_7_0 h0_7_1 h0_8_0 h0_8_1 _ (by exact zq1) (by exact zq3) (by exact zq7) (by rfl)
    · simp -implicitDefEqProofs only [c5_37_e, zq1, zq3, zq7, zq84, yc10, yc11, setA, setB, za, zb, zc, zd, ze, zf, zg, zh, zi, zj, zk, zl, zm, zn, zo, zp, reduceCtorEq, zE, ↓reduceIte]
      exact j5_38_t now1 a7 (wu64 (now1 - h0_2)) h0_0 h0_1 h0_2 h0_3_0 h0_3_1 h0_4 h0_5 h0_6 h0_7_0 h0_7_1 h0_8_0 h0_8_1 _ (by exact zq1) (by exact zq3) (by exact zq7) (by rfl)
def j5_19 (now1 wait2 : Int) (a7 b8 : Int) (t56 : Bool) (h0_0 : Bs) (h0_1 h0_2 : Int) (h0_3_0 : Bool) (h0_3_1 : List (Bs × Bs)) (h0_4 : Int) (h0_5 : Bs) (h0_6 : Int) (h0_7_0 : Bool) (h0_7_1 : List (Bs × Bs)) (h0_8_0 : Bool) (h0_8_1 : List UInt8) : Option R5 :=
  if t56 = true then
    if (decide (b8 < (w64 (a7 + (w64 (wu64 (wait2.tdiv 1000))))))) = true then
      j5_25 now1 a7 true h0_0 h0_1 h0_2 h0_3_0 h0_3_1 h0_4 h0_5 h0_6 h0_7_0 h0_7_1 h0_8_0 h0_8_1
    else
      if (decide ((w64 ((w64 (a7 + (w64 (wu64 (wait2.tdiv 1000))))) + 1)) < b8)) = true then
        j5_25 now1 a7 true h0_0 h0_1 h0_2 h0_3_0 h0_3_1 h0_4 h0_5 h0_6 h0_7_0 h0_7_1 h0_8_0 h0_8_1
      else
        if ((wait2.tmod 1000) == 0) = true then
          j5_25 now1 a7 (!(b8 == (w64 (a7 + (w64 (wu64 (wait2.tdiv 1000))))))) h0_0 h0_1 h0_2 h0_3_0 h0_3_1 h0_4 h0_5 h0_6 h0_7_0 h0_7_1 h0_8_0 h0_8_1
        else
          j5_25 now1 a7 false h0_0 h0_1 h0_2 h0_3_0 h0_3_1 h0_4 h0_5 h0_6 h0_7_0 h0_7_1 h0_8_0 h0_8_1
  else
    j5_46 now1 a7 h0_0 h0_1 h0_2 h0_3_0 h0_3_1 h0_4 h0_5 h0_6 h0_7_0 h0_7_1 h0_8_0 h0_8_1
theorem j5_19_t (now1 wait2 : Int) (a7 b8 : Int) (t56 : Bool) (h0_0 : Bs) (h0_1 h0_2 : Int) (h0_3_0 : Bool) (h0_3_1 : List (Bs × Bs)) (h0_4 : Int) (h0_5 : Bs) (h0_6 : Int) (h0_7_0 : Bool) (h0_7_1 : List (Bs × Bs)) (h0_8_0 : Bool) (h0_8_1 : List UInt8)  (sl : Nat → AV) (zq1 : sl 1 = .v (.c (.d (.sc (.int .u64 now1))))) (zq2 : sl 2 = .v (.c (.d (.sc (.int .u64 wait2))))) (zq3 : sl 3 = .v (.c (.ptr 0 0))) (zq7 : sl 7 = .v (.c (.d (.sc (.int .i64 a7))))) (zq8 : sl 8 = .v (.c (.d (.sc (.int .i64 b8))))) (zq56 : sl 56 = .v (.c (.d (.sc (.bool t56))))) :
    bodyD (E0 mm) [.tmp 6] 0 false (seqD (E0 mm) 5 0 (callW (E0 mm)) itW c5_46 (den (E0 mm) 5 0 (callW (E0 mm)) itW c5_19 none ⟨sl, [.cells [.d (.sc (.string (S h0_0))), .d (.sc (.int .u64 h0_1)), .d (.sc (.int .u64 h0_2)), .d (.lst h0_3_0 (enL enSS h0_3_1)), .d (.sc (.int .i64 h0_4)), .d (.sc (.string (S h0_5))), .d (.sc (.int .i64 h0_6)), .d (.lst h0_7_0 (enL enSS h0_7_1)), .d (.lst h0_8_0 (enL enB h0_8_1))]]⟩)) = (j5_19 now1 wait2 a7 b8 t56 h0_0 h0_1 h0_2 h0_3_0 h0_3_1 h0_4 h0_5 h0_6 h0_7_0 h0_7_1 h0_8_0 h0_8_1).map e5 := by
  simp -implicitDefEqProofs only [j5_19, (show c5_19 = Code.cond _ c5_20 c5_45 from rfl), zq1, zq2, zq3, zq7, zq8, zq56, setA, setB, za, zb, zc, zd, ze, zf, zg, zh, zi, zj, zk, zl, zm, zn, zo, zp, reduceCtorEq, zE, ↓reduceIte]
  refine brB (fun yc8 => ?_) (fun yc8 => ?_)
  · simp -implicitDefEqProofs only [c5_20_e, c5_21_r, (show opsOf c5_21 = _ :: _ from rfl), Tryd.underlying40, Tryd.underlying3, c5_22_e, c5_23_e, c5_24_r, (show opsOf c5_24 = _ :: _ from rfl), zq1, zq2, zq3, zq7, zq8, zq56, yc8, setA, setB, za, zb, zc, zd, ze, zf, zg, zh, zi, zj, zk, zl, zm, zn, zo, zp, reduceCtorEq, zE, ↓reduceIte]
    refine brB (fun yc9 => ?_) (fun yc9 => ?_)
    · simp -implicitDefEqProofs only [zq1, zq2, zq3, zq7, zq8, zq56, yc8, yc9, setA, setB, za, zb, zc, zd, ze, zf, zg, zh, zi, zj, zk, zl, zm, zn, zo, zp, reduceCtorEq, zE, ↓reduceIte]
      exact j5_25_t now1 a7 true h0_0 h0_1 h0_2 h0_3_0 h0_3_1 h0_4 h0_5 h0_6 h0_7_0 h0_7_1 h0_8_0 h0_8_1 _ (by exact zq1) (by exact zq3) (by exact zq7) (by rfl)
    · simp -implicitDefEqProofs only [zq1, zq2, zq3, zq7, zq8, zq56, yc8, yc9, setA, setB, za, zb, zc, zd, ze, zf, zg, zh, zi, zj, zk, zl, zm, zn, zo, zp, reduceCtorEq, zE, ↓reduceIte]
      refine brB (fun yc19 => ?_) (fun yc19 => ?_)
      · simp -implicitDefEqProofs only [zq1, zq2, zq3, zq7, zq8, zq56, yc8, yc9, yc19, setA, setB, za, zb, zc, zd, ze, zf, zg, zh, zi, zj, zk, zl, zm, zn, zo, zp, reduceCtorEq, zE, ↓reduceIte]
        exact j5_25_t now1 a7 true h0_0 h0_1 h0_2 h0_3_0 h0_3_1 h0_4 h0_5 h0_6 h0_7_0 h0_7_1 h0_8_0 h0_8_1 _ (by exact zq1) (by exact zq3) (by exact zq7) (by rfl)
      · simp -implicitDefEqProofs only [zq1, zq2, zq3, zq7, zq8, zq56, yc8, yc9, yc19, setA, setB, za, zb, zc, zd, ze, zf, zg, zh, zi, zj, zk, zl, zm, zn, zo, zp, reduceCtorEq, zE, ↓reduceIte]
        refine brB (fun yc20 => ?_) (fun yc20 => ?_)
        · simp -implicitDefEqProofs only [zq1, zq2, zq3, zq7, zq8, zq56, yc8, yc9, yc19, yc20, setA, setB, za, zb, zc, zd, ze, zf, zg, zh, zi, zj, zk, zl, zm, zn, zo, zp, reduceCtorEq, zE, ↓reduceIte]
          exact j5_25_t now1 a7 (!(b8 == (w64 (a7 + (w64 (wu64 (wait2.tdiv 1000))))))) h0_0 h0_1 h0_2 h0_3_0 h0_3_1 h0_4 h0_5 h0_6 h0_7_0 h0_7_1 h0_8_0 h0_8_1 _ (by exact zq1) (by exact zq3) (by exact zq7) (by rfl)
        · simp -implicitDefEqProofs only [zq1, zq2, zq3, zq7, zq8, zq56, yc8, yc9, yc19, yc20, setA, setB, za, zb, zc, zd, ze, zf, zg, zh, zi, zj, zk, zl, zm, zn, zo, zp, reduceCtorEq, zE, ↓reduceIte]
          exact j5_25_t now1 a7 false h0_0 h0_1 h0_2 h0_3_0 h0_3_1 h0_4 h0_5 h0_6 h0_7_0 h0_7_1 h0_8_0 h0_8_1 _ (by exact zq1) (by exact zq3) (by exact zq7) (by rfl)
  · simp -implicitDefEqProofs only [c5_45_e, zq1, zq2, zq3, zq7, zq8, zq56, yc8, setA, setB, za, zb, zc, zd, ze, zf, zg, zh, zi, zj, zk, zl, zm, zn, zo, zp, reduceCtorEq, zE, ↓reduceIte]
    exact j5_46_t now1 a7 h0_0 h0_1 h0_2 h0_3_0 h0_3_1 h0_4 h0_5 h0_6 h0_7_0 h0_7_1 h0_8_0 h0_8_1 _ (by exact zq1) (by exact zq3) (by exact zq7)
def j5_11 (now1 wait2 : Int) (a7 b8 : Int) (t48 : Bool) (h0_0 : Bs) (h0_1 h0_2 : Int) (h0_3_0 : Bool) (h0_3_1 : List (Bs × Bs)) (h0_4 : Int) (h0_5 : Bs) (h0_6 : Int) (h0_7_0 : Bool) (h0_7_1 : List (Bs × Bs)) (h0_8_0 : Bool) (h0_8_1 : List UInt8) : Option R5 :=
  if t48 = true then
    some false
  else
    if (decide (h0_2 ≤ now1)) = true then
      j5_19 now1 wait2 a7 b8 (decide (b8 < 2147483648)) h0_0 h0_1 h0_2 h0_3_0 h0_3_1 h0_4 h0_5 h0_6 h0_7_0 h0_7_1 h0_8_0 h0_8_1
    else
      j5_19 now1 wait2 a7 b8 false h0_0 h0_1 h0_2 h0_3_0 h0_3_1 h0_4 h0_5 h0_6 h0_7_0 h0_7_1 h0_8_0 h0_8_1
theorem j5_11_t (now1 wait2 : Int) (a7 b8 : Int) (t48 : Bool) (h0_0 : Bs) (h0_1 h0_2 : Int) (h0_3_0 : Bool) (h0_3_1 : List (Bs × Bs)) (h0_4 : Int) (h0_5 : Bs) (h0_6 : Int) (h0_7_0 : Bool) (h0_7_1 : List (Bs × Bs)) (h0_8_0 : Bool) (h0_8_1 : List UInt8)  (sl : Nat → AV) (zq1 : sl 1 = .v (.c (.d (.sc (.int .u64 now1))))) (zq2 : sl 2 = .v (.c (.d (.sc (.int .u64 wait2))))) (zq3 : sl 3 = .v (.c (.ptr 0 0))) (zq7 : sl 7 = .v (.c (.d (.sc (.int .i64 a7))))) (zq8 : sl 8 = .v (.c (.d (.sc (.int .i64 b8))))) (zq48 : sl 48 = .v (.c (.d (.sc (.bool t48))))) :
    bodyD (E0 mm) [.tmp 6] 0 false (seqD (E0 mm) 5 0 (callW (E0 mm)) itW c5_16 (den (E0 mm) 5 0 (callW (E0 mm)) itW c5_11 none ⟨sl, [.cells [.d (.sc (.string (S h0_0))), .d (.sc (.int .u64 h0_1)), .d (.sc (.int .u64 h0_2)), .d (.lst h0_3_0 (enL enSS h0_3_1)), .d (.sc (.int .i64 h0_4)), .d (.sc (.string (S h0_5))), .d (.sc (.int .i64 h0_6)), .d (.lst h0_7_0 (enL enSS h0_7_1)), .d (.lst h0_8_0 (enL enB h0_8_1))]]⟩)) = (j5_11 now1 wait2 a7 b8 t48 h0_0 h0_1 h0_2 h0_3_0 h0_3_1 h0_4 h0_5 h0_6 h0_7_0 h0_7_1 h0_8_0 h0_8_1).map e5 := by
  simp -implicitDefEqProofs only [j5_11, (show c5_11 = Code.cond _ c5_12 c5_15 from rfl), zq1, zq2, zq3, zq7, zq8, zq48, setA, setB, za, zb, zc, zd, ze, zf, zg, zh, zi, zj, zk, zl, zm, zn, zo, zp, reduceCtorEq, zE, ↓reduceIte]
  refine brB (fun yc6 => ?_) (fun yc6 => ?_)
  · simp -implicitDefEqProofs only [c5_12_e, c5_13_r, (show opsOf c5_13 = _ :: _ from rfl), c5_14_e, zq1, zq2, zq3, zq7, zq8, zq48, yc6, setA, setB, za, zb, zc, zd, ze, zf, zg, zh, zi, zj, zk, zl, zm, zn, zo, zp, reduceCtorEq, zE, ↓reduceIte]
    all_goals rfl
  · simp -implicitDefEqProofs only [c5_15_e, c5_16_e, c5_17_e, c5_18_r, (show opsOf c5_18 = _ :: _ from rfl), Tryd.underlying44, sz40, ag40, zq1, zq2, zq3, zq7, zq8, zq48, yc6, setA, setB, za, zb, zc, zd, ze, zf, zg, zh, zi, zj, zk, zl, zm, zn, zo, zp, reduceCtorEq, zE, ↓reduceIte]
    refine brB (fun yc7 => ?_) (fun yc7 => ?_)
    · simp -implicitDefEqProofs only [zq1, zq2, zq3, zq7, zq8, zq48, yc6, yc7, setA, setB, za, zb, zc, zd, ze, zf, zg, zh, zi, zj, zk, zl, zm, zn, zo, zp, reduceCtorEq, zE, ↓reduceIte]
      exact j5_19_t now1 wait2 a7 b8 (decide (b8 < 2147483648)) h0_0 h0_1 h0_2 h0_3_0 h0_3_1 h0_4 h0_5 h0_6 h0_7_0 h0_7_1 h0_8_0 h0_8_1 _ (by exact zq1) (by exact zq2) (by exact zq3) (by exact zq7) (by exact zq8) (by rfl)
    · simp -implicitDefEqProofs only [zq1, zq2, zq3, zq7, zq8, zq48, yc6, yc7, setA, setB, za, zb, zc, zd, ze, zf, zg, zh, zi, zj, zk, zl, zm, zn, zo, zp, reduceCtorEq, zE, ↓reduceIte]
      exact j5_19_t now1 wait2 a7 b8 false h0_0 h0_1 h0_2 h0_3_0 h0_3_1 h0_4 h0_5 h0_6 h0_7_0 h0_7_1 h0_8_0 h0_8_1 _ (by exact zq1) (by exact zq2) (by exact zq3) (by exact zq7) (by exact zq8) (by rfl)
def m5 (e0_0 : Bs) (e0_1 e0_2 : Int) (e0_3 : Bool) (e0_4 : List (Bs × Bs)) (e0_5 : Int) (e0_6 : Bs) (e0_7 : Int) (e0_8 : Bool) (e0_9 : List (Bs × Bs)) (e0_10 : Bool) (e0_11 : List UInt8) (now wait : Int) : Option R5 :=
  (m11 e0_0 e0_1 e0_2 e0_3 e0_4 e0_5 e0_6 e0_7 e0_8 e0_9 e0_10 e0_11 (now.tmod 4503599627370496)).bind fun yr2 =>
    (m11 e0_0 e0_1 e0_2 e0_3 e0_4 e0_5 e0_6 e0_7 e0_8 e0_9 e0_10 e0_11 (wu64 ((now.tmod 4503599627370496) + (wait.tmod 4503599627370496)))).bind fun yr4 =>
      if (decide (yr2 < 0)) = true then
        j5_11 (now.tmod 4503599627370496) (wait.tmod 4503599627370496) yr2 yr4 true e0_0 e0_1 e0_2 e0_3 e0_4 e0_5 e0_6 e0_7 e0_8 e0_9 e0_10 e0_11
      else
        if (decide (yr4 < yr2)) = true then
          j5_11 (now.tmod 4503599627370496) (wait.tmod 4503599627370496) yr2 yr4 true e0_0 e0_1 e0_2 e0_3 e0_4 e0_5 e0_6 e0_7 e0_8 e0_9 e0_10 e0_11
        else
          if (decide (2147483648 < yr4)) = true then
            j5_11 (now.tmod 4503599627370496) (wait.tmod 4503599627370496) yr2 yr4 true e0_0 e0_1 e0_2 e0_3 e0_4 e0_5 e0_6 e0_7 e0_8 e0_9 e0_10 e0_11
          else
            (m13 e0_0 e0_1 e0_2 e0_3 e0_4 e0_5 e0_6 e0_7 e0_8 e0_9 e0_10 e0_11 (wu64 ((now.tmod 4503599627370496) + (wait.tmod 4503599627370496)))).bind fun yr24 =>
              if yr24 = true then
                (m13 e0_0 e0_1 e0_2 e0_3 e0_4 e0_5 e0_6 e0_7 e0_8 e0_9 e0_10 e0_11 (now.tmod 4503599627370496)).bind fun yr27 =>
                  j5_11 (now.tmod 4503599627370496) (wait.tmod 4503599627370496) yr2 yr4 (!yr27) e0_0 e0_1 e0_2 e0_3 e0_4 e0_5 e0_6 e0_7 e0_8 e0_9 e0_10 e0_11
              else
                j5_11 (now.tmod 4503599627370496) (wait.tmod 4503599627370496) yr2 yr4 false e0_0 e0_1 e0_2 e0_3 e0_4 e0_5 e0_6 e0_7 e0_8 e0_9 e0_10 e0_11
theorem f5_t (e0_0 : Bs) (e0_1 e0_2 : Int) (e0_3 : Bool) (e0_4 : List (Bs × Bs)) (e0_5 : Int) (e0_6 : Bs) (e0_7 : Int) (e0_8 : Bool) (e0_9 : List (Bs × Bs)) (e0_10 : Bool) (e0_11 : List UInt8) (now wait : Int) :
    callW (E0 mm) 5 [.agg [.d (.sc (.string (S e0_0))), .d (.sc (.int .u64 e0_1)), .d (.sc (.int .u64 e0_2)), .d (.lst e0_3 (enL enSS e0_4)), .d (.sc (.int .i64 e0_5)), .d (.sc (.string (S e0_6))), .d (.sc (.int .i64 e0_7)), .d (.lst e0_8 (enL enSS e0_9)), .d (.lst e0_10 (enL enB e0_11))], .c (.d (.sc (.int .u64 now))), .c (.d (.sc (.int .u64 wait)))] [] = (m5 e0_0 e0_1 e0_2 e0_3 e0_4 e0_5 e0_6 e0_7 e0_8 e0_9 e0_10 e0_11 now wait).map e5 := by
  rw [callW_run (body := c5_0) (res := [.tmp 6]) Tryd.func5 rfl rfl (by kernel_rfl)]
  simp -implicitDefEqProofs only [m5, slots3, c5_0_e, c5_1_r, (show opsOf c5_1 = _ :: _ from rfl), c5_2_e, c5_3_r, (show opsOf c5_3 = _ :: _ from rfl), c5_4_e, c5_5_r, (show opsOf c5_5 = _ :: _ from rfl), c5_6_e, c5_7_r, (show opsOf c5_7 = _ :: _ from rfl), sz44, ag44, ent11, prm11, f11_t, runF_nil, runF_none, runF_some, runKF_t, runKF_f, runKF_x, stepKF_s, stepKF_x, tlT_c, tlT_n, hdT_c, hdT_n, footT_n, foot_t, readsO, setA, setB, za, zb, zc, zd, ze, zf, zg, zh, zi, zj, zk, zl, zm, zn, zo, zp, reduceCtorEq, zE, ↓reduceIte]
  refine brM (fun yc1 => ?_) (fun yr2 yc1 => ?_)
  · rw [yc1]; rfl
  · simp -implicitDefEqProofs only [e11, sz44, ag44, ent11, prm11, f11_t, runF_nil, runF_none, runF_some, runKF_t, runKF_f, runKF_x, stepKF_s, stepKF_x, tlT_c, tlT_n, hdT_c, hdT_n, footT_n, foot_t, readsO, yc1, setA, setB, za, zb, zc, zd, ze, zf, zg, zh, zi, zj, zk, zl, zm, zn, zo, zp, reduceCtorEq, zE, ↓reduceIte]
    refine brM (fun yc3 => ?_) (fun yr4 yc3 => ?_)
    · rw [yc3]; rfl
    · simp -implicitDefEqProofs only [e11, ckF, foot_f, pair1, pair0, chgA, eqO, eqOb_cells, eqOb_row, eqOb_siter, eqOb_amapN, eqOb_amapC, eqOb_sm, eqE_S, eqE_SS, eqE_N, eqE_B, eqL, eqC, eqD, eqV, eqV1, eqB_refl, eq_self, decide_true, List.all_nil, List.getD_cons_zero, List.getD_cons_succ, Bool.and_self, c5_8_e, c5_9_e, c5_10_r, (show opsOf c5_10 = _ :: _ from rfl), runF_nil, runF_none, runF_some, runKF_t, runKF_f, runKF_x, stepKF_s, stepKF_x, tlT_c, tlT_n, hdT_c, hdT_n, footT_n, foot_t, readsO, yc1, yc3, setA, setB, za, zb, zc, zd, ze, zf, zg, zh, zi, zj, zk, zl, zm, zn, zo, zp, reduceCtorEq, zE, ↓reduceIte]
      refine brB (fun yc5 => ?_) (fun yc5 => ?_)
      · simp -implicitDefEqProofs only [runF_nil, runF_none, runF_some, runKF_t, runKF_f, runKF_x, stepKF_s, stepKF_x, tlT_c, tlT_n, hdT_c, hdT_n, footT_n, foot_t, readsO, yc1, yc3, yc5, setA, setB, za, zb, zc, zd, ze, zf, zg, zh, zi, zj, zk, zl, zm, zn, zo, zp, reduceCtorEq, zE, ↓reduceIte]
        exact j5_11_t (now.tmod 4503599627370496) (wait.tmod 4503599627370496) yr2 yr4 true e0_0 e0_1 e0_2 e0_3 e0_4 e0_5 e0_6 e0_7 e0_8 e0_9 e0_10 e0_11 _ (by rfl) (by rfl) (by rfl) (by rfl) (by rfl) (by rfl)
      · simp -implicitDefEqProofs only [runF_nil, runF_none, runF_some, runKF_t, runKF_f, runKF_x, stepKF_s, stepKF_x, tlT_c, tlT_n, hdT_c, hdT_n, footT_n, foot_t, readsO, yc1, yc3, yc5, setA, setB, za, zb, zc, zd, ze, zf, zg, zh, zi, zj, zk, zl, zm, zn, zo, zp, reduceCtorEq, zE, ↓reduceIte]
        refine brB (fun yc21 => ?_) (fun yc21 => ?_)
        · simp -implicitDefEqProofs only [runF_nil, runF_none, runF_some, runKF_t, runKF_f, runKF_x, stepKF_s, stepKF_x, tlT_c, tlT_n, hdT_c, hdT_n, footT_n, foot_t, readsO, yc1, yc3, yc5, yc21, setA, setB, za, zb, zc, zd, ze, zf, zg, zh, zi, zj, zk, zl, zm, zn, zo, zp, reduceCtorEq, zE, ↓reduceIte]
          exact j5_11_t (now.tmod 4503599627370496) (wait.tmod 4503599627370496) yr2 yr4 true e0_0 e0_1 e0_2 e0_3 e0_4 e0_5 e0_6 e0_7 e0_8 e0_9 e0_10 e0_11 _ (by rfl) (by rfl) (by rfl) (by rfl) (by rfl) (by rfl)
        · simp -implicitDefEqProofs only [runF_nil, runF_none, runF_some, runKF_t, runKF_f, runKF_x, stepKF_s, stepKF_x, tlT_c, tlT_n, hdT_c, hdT_n, footT_n, foot_t, readsO, yc1, yc3, yc5, yc21, setA, setB, za, zb, zc, zd, ze, zf, zg, zh, zi, zj, zk, zl, zm, zn, zo, zp, reduceCtorEq, zE, ↓reduceIte]
          refine brB (fun yc22 => ?_) (fun yc22 => ?_)
          · simp -implicitDefEqProofs only [runF_nil, runF_none, runF_some, runKF_t, runKF_f, runKF_x, stepKF_s, stepKF_x, tlT_c, tlT_n, hdT_c, hdT_n, footT_n, foot_t, readsO, yc1, yc3, yc5, yc21, yc22, setA, setB, za, zb, zc, zd, ze, zf, zg, zh, zi, zj, zk, zl, zm, zn, zo, zp, reduceCtorEq, zE, ↓reduceIte]
            exact j5_11_t (now.tmod 4503599627370496) (wait.tmod 4503599627370496) yr2 yr4 true e0_0 e0_1 e0_2 e0_3 e0_4 e0_5 e0_6 e0_7 e0_8 e0_9 e0_10 e0_11 _ (by rfl) (by rfl) (by rfl) (by rfl) (by rfl) (by rfl)
          · simp -implicitDefEqProofs only [sz44, ag44, ent13, prm13, f13_t, runF_nil, runF_none, runF_some, runKF_t, runKF_f, runKF_x, stepKF_s, stepKF_x, tlT_c, tlT_n, hdT_c, hdT_n, footT_n, foot_t, readsO, yc1, yc3, yc5, yc21, yc22, setA, setB, za, zb, zc, zd, ze, zf, zg, zh, zi, zj, zk, zl, zm, zn, zo, zp, reduceCtorEq, zE, ↓reduceIte]
            refine brM (fun yc23 => ?_) (fun yr24 yc23 => ?_)
            · rw [yc23]; rfl
            · simp -implicitDefEqProofs only [e13, runF_nil, runF_none, runF_some, runKF_t, runKF_f, runKF_x, stepKF_s, stepKF_x, tlT_c, tlT_n, hdT_c, hdT_n, footT_n, foot_t, readsO, yc1, yc3, yc5, yc21, yc22, yc23, setA, setB, za, zb, zc, zd, ze, zf, zg, zh, zi, zj, zk, zl, zm, zn, zo, zp, reduceCtorEq, zE, ↓reduceIte]
              refine brB (fun yc25 => ?_) (fun yc25 => ?_)
              · simp -implicitDefEqProofs only [sz44, ag44, ent13, prm13, f13_t, runF_nil, runF_none, runF_some, runKF_t, runKF_f, runKF_x, stepKF_s, stepKF_x, tlT_c, tlT_n, hdT_c, hdT_n, footT_n, foot_t, readsO, yc1, yc3, yc5, yc21, yc22, yc23, yc25, setA, setB, za, zb, zc, zd, ze, zf, zg, zh, zi, zj, zk, zl, zm, zn, zo, zp, reduceCtorEq, zE, ↓reduceIte]
                refine brM (fun yc26 => ?_) (fun yr27 yc26 => ?_)
                · rw [yc26]; rfl
                · simp -implicitDefEqProofs only [e13, runF_nil, runF_none, runF_some, runKF_t, runKF_f, runKF_x, stepKF_s, stepKF_x, tlT_c, tlT_n, hdT_c, hdT_n, footT_n, foot_t, readsO, yc1, yc3, yc5, yc21, yc22, yc23, yc25, yc26, setA, setB, za, zb, zc, zd, ze, zf, zg, zh, zi, zj, zk, zl, zm, zn, zo, zp, reduceCtorEq, zE, ↓reduceIte]
                  exact j5_11_t (now.tmod 4503599627370496) (wait.tmod 4503599627370496) yr2 yr4 (!yr27) e0_0 e0_1 e0_2 e0_3 e0_4 e0_5 e0_6 e0_7 e0_8 e0_9 e0_10 e0_11 _ (by rfl) (by rfl) (by rfl) (by rfl) (by rfl) (by rfl)
              · simp -implicitDefEqProofs only [runF_nil, runF_none, runF_some, runKF_t, runKF_f, runKF_x, stepKF_s, stepKF_x, tlT_c, tlT_n, hdT_c, hdT_n, footT_n, foot_t, readsO, yc1, yc3, yc5, yc21, yc22, yc23, yc25, setA, setB, za, zb, zc, zd, ze, zf, zg, zh, zi, zj, zk, zl, zm, zn, zo, zp, reduceCtorEq, zE, ↓reduceIte]
                exact j5_11_t (now.tmod 4503599627370496) (wait.tmod 4503599627370496) yr2 yr4 false e0_0 e0_1 e0_2 e0_3 e0_4 e0_5 e0_6 e0_7 e0_8 e0_9 e0_10 e0_11 _ (by rfl) (by rfl) (by rfl) (by rfl) (by rfl) (by rfl)
end
end Go.Proofs.YteajgnaeklbpeaaDoor
