/- The Go functions as plain functions, and that the evaluator computes them. -/
import Derived.Test.YteajgnaeklbpeaaDoorFSays1
set_option linter.all false
set_option maxRecDepth 100000
namespace Go.Proofs.YteajgnaeklbpeaaDoor
open Go Go.Ab
open Nat renaming reduceEqDiff → za, reduceAdd → zb, reduceLeDiff → zc, reduceLT → zd, reduceMul → ze, reduceBEq → zf, reduceSub → zg, reducePow → zh
open Int renaming reduceEq → zi, reduceLE → zj, reduceLT → zk, reduceToNat → zl, reduceNegSucc → zm, reduceAdd → zn, reduceBEq → zo
open String renaming reduceBEq → zp
set_option maxHeartbeats 4000000
noncomputable section
variable {mm : Int}
noncomputable def c12_0 : Code := bodyOf Tryd.f12
def c12_1 := cA c12_0
def c12_2 := cB c12_0
def c12_3 := cA c12_2
def c12_4 := cB c12_2
theorem c12_0_e : c12_0 = .seq c12_1 c12_2 := rfl
theorem c12_1_r : RG (E0 mm) 12 c12_1 := rgN rfl
theorem c12_2_e : c12_2 = .seq c12_3 c12_4 := rfl
theorem c12_3_r : RG (E0 mm) 12 c12_3 := rgN rfl
theorem c12_4_e : c12_4 = .ret := rfl
abbrev R12 := (Int × Bool)
def e12 : R12 → AV × Heap := fun x => (.tup [.c (.d (.sc (.int .u64 x.1))), .c (.d (.sc (.bool x.2)))], [])
def m12 (r0_0 : Int) (r0_1 : Bs) (r0_2 : Int) (r0_3 : Bool) (r0_4 : List (Bs × Bs)) (r0_5 : Bool) (r0_6 : List UInt8) : Option R12 :=
  (m16 r0_0 r0_1 r0_2 r0_3 r0_4 r0_5 r0_6 ([100, 97, 116, 101] : Bs)).bind fun yr2 =>
    some (yr2.1, yr2.2)
theorem f12_t (r0_0 : Int) (r0_1 : Bs) (r0_2 : Int) (r0_3 : Bool) (r0_4 : List (Bs × Bs)) (r0_5 : Bool) (r0_6 : List UInt8) :
    callW (E0 mm) 12 [.agg [.d (.sc (.int .i64 r0_0)), .d (.sc (.string (S r0_1))), .d (.sc (.int .i64 r0_2)), .d (.lst r0_3 (enL enSS r0_4)), .d (.lst r0_5 (enL enB r0_6))]] [] = (m12 r0_0 r0_1 r0_2 r0_3 r0_4 r0_5 r0_6).map e12 := by
  rw [callW_run (body := c12_0) (res := [.tmp 2, .tmp 3]) Tryd.func12 rfl rfl (by kernel_rfl)]
  simp -implicitDefEqProofs only [m12, slots1, c12_0_e, c12_1_r, (show opsOf c12_1 = _ :: _ from rfl), c12_2_e, c12_3_r, (show opsOf c12_3 = _ :: _ from rfl), sz35, ag35, ent16, prm16, (show callW (E0 mm) 16 [.agg [.d (.sc (.int .i64 r0_0)), .d (.sc (.string (S r0_1))), .d (.sc (.int .i64 r0_2)), .d (.lst r0_3 (enL enSS r0_4)), .d (.lst r0_5 (enL enB r0_6))], .c (.d (.sc (.string (S ([100, 97, 116, 101] : Bs)))))] [] = _ from f16_t r0_0 r0_1 r0_2 r0_3 r0_4 r0_5 r0_6 ([100, 97, 116, 101] : Bs)), setA, setB, za, zb, zc, zd, ze, zf, zg, zh, zi, zj, zk, zl, zm, zn, zo, zp, reduceCtorEq, zE, ↓reduceIte]
  refine brM (fun yc1 => ?_) (fun yr2 yc1 => ?_)
  · rw [yc1]; rfl
  · simp -implicitDefEqProofs only [e16, c12_4_e, yc1, setA, setB, za, zb, zc, zd, ze, zf, zg, zh, zi, zj, zk, zl, zm, zn, zo, zp, reduceCtorEq, zE, ↓reduceIte]
    all_goals rfl
noncomputable def c17_0 : Code := bodyOf Tryd.f17
def c17_1 := cA c17_0
def c17_2 := cB c17_0
def c17_3 := cA c17_2
def c17_4 := cA c17_3
def c17_5 := cB c17_3
def c17_6 := cA c17_5
def c17_7 := cA c17_6
def c17_8 := cB c17_6
def c17_9 := cB c17_5
def c17_10 := cB c17_2
def c17_11 := cA c17_10
def c17_12 := cB c17_10
theorem c17_0_e : c17_0 = .seq c17_1 c17_2 := rfl
theorem c17_1_r : RG (E0 mm) 17 c17_1 := rgN rfl
theorem c17_2_e : c17_2 = .seq c17_3 c17_10 := rfl
theorem c17_3_e : c17_3 = .seq c17_4 c17_5 := rfl
theorem c17_4_r : RG (E0 mm) 17 c17_4 := rgN rfl
theorem c17_6_e : c17_6 = .seq c17_7 c17_8 := rfl
theorem c17_7_r : RG (E0 mm) 17 c17_7 := rgN rfl
theorem c17_8_e : c17_8 = .ret := rfl
theorem c17_9_e : c17_9 = .skip := rfl
theorem c17_10_e : c17_10 = .seq c17_11 c17_12 := rfl
theorem c17_11_r : RG (E0 mm) 17 c17_11 := rgN rfl
theorem c17_12_e : c17_12 = .ret := rfl
abbrev R17 := (Int)
def e17 : R17 → AV × Heap := fun x => (.v (.c (.d (.sc (.int .u64 x)))), [])
def m17 (xfrom to : Int) : Option R17 :=
  if (decide (to ≤ xfrom)) = true then
    some (0 : Int)
  else
    some (wu64 (to - xfrom))
theorem f17_t (xfrom to : Int) :
    callW (E0 mm) 17 [.c (.d (.sc (.int .u64 xfrom))), .c (.d (.sc (.int .u64 to)))] [] = (m17 xfrom to).map e17 := by
  rw [callW_run (body := c17_0) (res := [.tmp 4]) Tryd.func17 rfl rfl (by kernel_rfl)]
  simp -implicitDefEqProofs only [m17, slots2, c17_0_e, c17_1_r, (show opsOf c17_1 = _ :: _ from rfl), c17_2_e, c17_3_e, c17_4_r, (show opsOf c17_4 = _ :: _ from rfl), (show c17_5 = Code.cond _ c17_6 c17_9 from rfl), setA, setB, za, zb, zc, zd, ze, zf, zg, zh, zi, zj, zk, zl, zm, zn, zo, zp, reduceCtorEq, zE, ↓reduceIte]
  refine brB (fun yc1 => ?_) (fun yc1 => ?_)
  · simp -implicitDefEqProofs only [c17_6_e, c17_7_r, (show opsOf c17_7 = _ :: _ from rfl), c17_8_e, yc1, setA, setB, za, zb, zc, zd, ze, zf, zg, zh, zi, zj, zk, zl, zm, zn, zo, zp, reduceCtorEq, zE, ↓reduceIte]
    all_goals rfl
  · simp -implicitDefEqProofs only [c17_9_e, c17_10_e, c17_11_r, (show opsOf c17_11 = _ :: _ from rfl), c17_12_e, yc1, setA, setB, za, zb, zc, zd, ze, zf, zg, zh, zi, zj, zk, zl, zm, zn, zo, zp, reduceCtorEq, zE, ↓reduceIte]
    all_goals rfl
noncomputable def c27_0 : Code := bodyOf Tryd.f27
def c27_1 := cA c27_0
def c27_2 := cB c27_0
def c27_3 := cA c27_2
def c27_4 := cA c27_3
def c27_5 := cB c27_3
def c27_6 := cA c27_5
def c27_7 := cA c27_6
def c27_8 := cA c27_7
def c27_9 := cB c27_7
def c27_10 := cA c27_9
def c27_11 := cA c27_10
def c27_12 := cB c27_10
def c27_13 := cB c27_9
def c27_14 := cA c27_13
def c27_15 := cA c27_14
def c27_16 := cA c27_15
def c27_17 := cB c27_15
def c27_18 := cA c27_17
def c27_19 := cB c27_17
def c27_20 := cA c27_19
def c27_21 := cA c27_20
def c27_22 := cB c27_20
def c27_23 := cB c27_19
def c27_24 := cB c27_13
def c27_25 := cB c27_2
def c27_26 := cA c27_25
def c27_27 := cB c27_25
theorem c27_0_e : c27_0 = .seq c27_1 c27_2 := rfl
theorem c27_1_r : RG (E0 mm) 27 c27_1 := rgN rfl
theorem c27_2_e : c27_2 = .seq c27_3 c27_25 := rfl
theorem c27_3_e : c27_3 = .seq c27_4 c27_5 := rfl
theorem c27_4_r : RG (E0 mm) 27 c27_4 := rgN rfl
theorem c27_5_e : c27_5 = .block 0 c27_6 := rfl
theorem c27_6_l (m : Nat) (st : St) : den (E0 mm) 27 m (callW (E0 mm)) itW c27_6 none st = loopD itW (loopF (E0 mm) 27 m (callW (E0 mm)) itW c27_7 [(0, .keep), (1, .keep), (7, .keep), (8, .keep)]) (canon m [(0, .keep), (1, .keep), (7, .keep), (8, .keep)] st) := rfl
theorem c27_7_e : c27_7 = .seq c27_8 c27_9 := rfl
theorem c27_8_r : RG (E0 mm) 27 c27_8 := rgN rfl
theorem c27_9_e : c27_9 = .seq c27_10 c27_13 := rfl
theorem c27_11_e : c27_11 = .skip := rfl
theorem c27_12_e : c27_12 = .exit 0 := rfl
theorem c27_13_e : c27_13 = .seq c27_14 c27_24 := rfl
theorem c27_14_e : c27_14 = .block 1 c27_15 := rfl
theorem c27_15_e : c27_15 = .seq c27_16 c27_17 := rfl
theorem c27_16_r : RG (E0 mm) 27 c27_16 := rgN rfl
theorem c27_17_e : c27_17 = .seq c27_18 c27_19 := rfl
theorem c27_18_r : RG (E0 mm) 27 c27_18 := rgN rfl
theorem c27_20_e : c27_20 = .seq c27_21 c27_22 := rfl
theorem c27_21_r : RG (E0 mm) 27 c27_21 := rgN rfl
theorem c27_22_e : c27_22 = .ret := rfl
theorem c27_23_e : c27_23 = .skip := rfl
theorem c27_24_r : RG (E0 mm) 27 c27_24 := rgN rfl
theorem c27_25_e : c27_25 = .seq c27_26 c27_27 := rfl
theorem c27_26_r : RG (E0 mm) 27 c27_26 := rgN rfl
theorem c27_27_e : c27_27 = .ret := rfl
abbrev R27 := (Int)
def e27 : R27 → AV × Heap := fun x => (.v (.c (.d (.sc (.int .i64 x)))), [])
def K27_6 : Option (Ex × St) → Option (AV × Heap) := fun r => bodyD (E0 mm) [.tmp 4] 0 false (seqD (E0 mm) 27 0 (callW (E0 mm)) itW c27_25 (blockD 0 (r)))
def en27_6 : (Bool × List Int × Int × Int × Int) → X := fun x => (none, [.v (.c (.d (.lst x.1 (enL enN x.2.1)))), .v (.c (.d (.sc (.int .i64 x.2.2.1)))), .v (.c (.d (.sc (.int .i64 x.2.2.2.1)))), .v (.c (.d (.sc (.int .i64 x.2.2.2.2))))], [])
def j27_25  : Option R27 :=
  some (-1 : Int)
theorem j27_25_t   (sl : Nat → AV)  :
    bodyD (E0 mm) [.tmp 4] 0 false (den (E0 mm) 27 0 (callW (E0 mm)) itW c27_25 none ⟨sl, []⟩) = (j27_25).map e27 := by
  simp -implicitDefEqProofs only [j27_25, c27_25_e, c27_26_r, (show opsOf c27_26 = _ :: _ from rfl), c27_27_e, setA, setB, za, zb, zc, zd, ze, zf, zg, zh, zi, zj, zk, zl, zm, zn, zo, zp, reduceCtorEq, zE, ↓reduceIte]
  all_goals rfl
def s27_6 (s0_0 : Bool) (s0_1 : List Int) (v1 t7 t8 : Int) : Option ((Bool × List Int × Int × Int × Int) ⊕ R27) :=
  if (decide (t8 < t7)) = true then
    if 0 ≤ t8 ∧ t8 < (s0_1.length : Int) then
      if (v1 == (s0_1.getD t8.toNat default)) = true then
        some (.inr t8)
      else
        some (.inl (s0_0, s0_1, v1, t7, (w64 (t8 + 1))))
    else none
  else
    (j27_25).map .inr
theorem s27_6_t (s0_0 : Bool) (s0_1 : List Int) (v1 t7 t8 : Int) :
    stepE (K27_6 (mm := mm)) (loopF (E0 mm) 27 0 (callW (E0 mm)) itW c27_7 [(0, .keep), (1, .keep), (7, .keep), (8, .keep)] (none, [.v (.c (.d (.lst s0_0 (enL enN s0_1)))), .v (.c (.d (.sc (.int .i64 v1)))), .v (.c (.d (.sc (.int .i64 t7)))), .v (.c (.d (.sc (.int .i64 t8))))], [])) = (s27_6 s0_0 s0_1 v1 t7 t8).map (sm en27_6 e27) := by
  simp -implicitDefEqProofs only [s27_6, loopF_eq, c27_7_e, c27_8_r, (show opsOf c27_8 = _ :: _ from rfl), c27_9_e, (show c27_10 = Code.cond _ c27_11 c27_12 from rfl), setA, setB, za, zb, zc, zd, ze, zf, zg, zh, zi, zj, zk, zl, zm, zn, zo, zp, reduceCtorEq, zE, ↓reduceIte]
  refine brB (fun yc1 => ?_) (fun yc1 => ?_)
  · simp -implicitDefEqProofs only [c27_11_e, c27_13_e, c27_14_e, c27_15_e, c27_16_r, (show opsOf c27_16 = _ :: _ from rfl), c27_17_e, c27_18_r, (show opsOf c27_18 = _ :: _ from rfl), Tryd.underlying57, sz3, enN_a, yc1, setA, setB, za, zb, zc, zd, ze, zf, zg, zh, zi, zj, zk, zl, zm, zn, zo, zp, reduceCtorEq, zE, ↓reduceIte]
    refine brP (fun yc2 => ?_) (fun yc2 => ?_)
    · have yd3 : t8.toNat < s0_1.length := by omega
      simp -implicitDefEqProofs only [(enL_get enN s0_1 t8.toNat yd3), enN_e, sz3, ag3, (show c27_19 = Code.cond _ c27_20 c27_23 from rfl), yc1, yc2, yd3, setA, setB, za, zb, zc, zd, ze, zf, zg, zh, zi, zj, zk, zl, zm, zn, zo, zp, reduceCtorEq, zE, ↓reduceIte]
      refine brB (fun yc4 => ?_) (fun yc4 => ?_)
      · simp -implicitDefEqProofs only [c27_20_e, c27_21_r, (show opsOf c27_21 = _ :: _ from rfl), c27_22_e, K27_6, yc1, yc2, yd3, yc4, setA, setB, za, zb, zc, zd, ze, zf, zg, zh, zi, zj, zk, zl, zm, zn, zo, zp, reduceCtorEq, zE, ↓reduceIte]
        all_goals rfl
      · simp -implicitDefEqProofs only [c27_23_e, c27_24_r, (show opsOf c27_24 = _ :: _ from rfl), yc1, yc2, yd3, yc4, setA, setB, za, zb, zc, zd, ze, zf, zg, zh, zi, zj, zk, zl, zm, zn, zo, zp, reduceCtorEq, zE, ↓reduceIte]
        all_goals rfl
    · rw [if_neg yc2]; rfl
  · simp -implicitDefEqProofs only [c27_12_e, K27_6, yc1, setA, setB, za, zb, zc, zd, ze, zf, zg, zh, zi, zj, zk, zl, zm, zn, zo, zp, reduceCtorEq, zE, ↓reduceIte]
    exact mi (j27_25_t _)
def l27_6 (s0_0 : Bool) (s0_1 : List Int) (v1 t7 t8 : Int) : Option R27 := iter (fun x : (Bool × List Int × Int × Int × Int) => s27_6 x.1 x.2.1 x.2.2.1 x.2.2.2.1 x.2.2.2.2) (s0_0, s0_1, v1, t7, t8)
theorem l27_6_t (s0_0 : Bool) (s0_1 : List Int) (v1 t7 t8 : Int) : bodyD (E0 mm) [.tmp 4] 0 false (seqD (E0 mm) 27 0 (callW (E0 mm)) itW c27_25 (blockD 0 (itW (loopF (E0 mm) 27 0 (callW (E0 mm)) itW c27_7 [(0, .keep), (1, .keep), (7, .keep), (8, .keep)]) (none, [.v (.c (.d (.lst s0_0 (enL enN s0_1)))), .v (.c (.d (.sc (.int .i64 v1)))), .v (.c (.d (.sc (.int .i64 t7)))), .v (.c (.d (.sc (.int .i64 t8))))], [])))) = (l27_6 s0_0 s0_1 v1 t7 t8).map e27 :=
  it_sim (K := (K27_6 (mm := mm))) rfl (enc := en27_6) (fun x => s27_6_t x.1 x.2.1 x.2.2.1 x.2.2.2.1 x.2.2.2.2) (s0_0, s0_1, v1, t7, t8)
def m27 (s_0 : Bool) (s_1 : List Int) (v : Int) : Option R27 :=
  l27_6 s_0 s_1 v (s_1.length : Int) (0 : Int)
theorem f27_t (s_0 : Bool) (s_1 : List Int) (v : Int) :
    callW (E0 mm) 27 [.c (.d (.lst s_0 (enL enN s_1))), .c (.d (.sc (.int .i64 v)))] [] = (m27 s_0 s_1 v).map e27 := by
  rw [callW_run (body := c27_0) (res := [.tmp 4]) Tryd.func27 rfl rfl (by kernel_rfl)]
  simp -implicitDefEqProofs only [m27, slots2, c27_0_e, c27_1_r, (show opsOf c27_1 = _ :: _ from rfl), c27_2_e, c27_3_e, c27_4_r, (show opsOf c27_4 = _ :: _ from rfl), Tryd.underlying57, c27_5_e, c27_6_l, setA, setB, za, zb, zc, zd, ze, zf, zg, zh, zi, zj, zk, zl, zm, zn, zo, zp, reduceCtorEq, zE, ↓reduceIte]
  exact l27_6_t s_0 s_1 v (s_1.length : Int) (0 : Int)
noncomputable def c18_0 : Code := bodyOf Tryd.f18
def c18_1 := cA c18_0
def c18_2 := cB c18_0
def c18_3 := cA c18_2
def c18_4 := cB c18_2
theorem c18_0_e : c18_0 = .seq c18_1 c18_2 := rfl
theorem c18_1_r : RG (E0 mm) 18 c18_1 := rgN rfl
theorem c18_2_e : c18_2 = .seq c18_3 c18_4 := rfl
theorem c18_3_r : RG (E0 mm) 18 c18_3 := rgN rfl
theorem c18_4_e : c18_4 = .ret := rfl
abbrev R18 := (Bool)
def e18 : R18 → AV × Heap := fun x => (.v (.c (.d (.sc (.bool x)))), [])
def m18 (s_0 : Bool) (s_1 : List Int) (v : Int) : Option R18 :=
  (m27 s_0 s_1 v).bind fun yr2 =>
    some (decide (0 ≤ yr2))
theorem f18_t (s_0 : Bool) (s_1 : List Int) (v : Int) :
    callW (E0 mm) 18 [.c (.d (.lst s_0 (enL enN s_1))), .c (.d (.sc (.int .i64 v)))] [] = (m18 s_0 s_1 v).map e18 := by
  rw [callW_run (body := c18_0) (res := [.tmp 4]) Tryd.func18 rfl rfl (by kernel_rfl)]
  simp -implicitDefEqProofs only [m18, slots2, c18_0_e, c18_1_r, (show opsOf c18_1 = _ :: _ from rfl), c18_2_e, c18_3_r, (show opsOf c18_3 = _ :: _ from rfl), ent27, prm27, f27_t, setA, setB, za, zb, zc, zd, ze, zf, zg, zh, zi, zj, zk, zl, zm, zn, zo, zp, reduceCtorEq, zE, ↓reduceIte]
  refine brM (fun yc1 => ?_) (fun yr2 yc1 => ?_)
  · rw [yc1]; rfl
  · simp -implicitDefEqProofs only [e27, c18_4_e, yc1, setA, setB, za, zb, zc, zd, ze, zf, zg, zh, zi, zj, zk, zl, zm, zn, zo, zp, reduceCtorEq, zE, ↓reduceIte]
    all_goals rfl
noncomputable def c8_0 : Code := bodyOf Tryd.f8
def c8_1 := cA c8_0
def c8_2 := cB c8_0
def c8_3 := cA c8_2
def c8_4 := cB c8_2
def c8_5 := cA c8_4
def c8_6 := cB c8_4
def c8_7 := cA c8_6
def c8_8 := cA c8_7
def c8_9 := cA c8_8
def c8_10 := cB c8_8
def c8_11 := cA c8_10
def c8_12 := cA c8_11
def c8_13 := cB c8_11
def c8_14 := cB c8_10
def c8_15 := cA c8_14
def c8_16 := cB c8_14
def c8_17 := cA c8_16
def c8_18 := cA c8_17
def c8_19 := cB c8_17
def c8_20 := cB c8_16
def c8_21 := cA c8_20
def c8_22 := cB c8_20
def c8_23 := cA c8_22
def c8_24 := cA c8_23
def c8_25 := cB c8_23
def c8_26 := cA c8_25
def c8_27 := cA c8_26
def c8_28 := cB c8_26
def c8_29 := cA c8_28
def c8_30 := cA c8_29
def c8_31 := cB c8_29
def c8_32 := cB c8_28
def c8_33 := cB c8_25
def c8_34 := cA c8_33
def c8_35 := cB c8_33
def c8_36 := cB c8_22
def c8_37 := cB c8_6
def c8_38 := cA c8_37
def c8_39 := cB c8_37
def c8_40 := cA c8_39
def c8_41 := cA c8_40
def c8_42 := cB c8_40
def c8_43 := cA c8_42
def c8_44 := cA c8_43
def c8_45 := cB c8_43
def c8_46 := cB c8_42
def c8_47 := cB c8_39
def c8_48 := cA c8_47
def c8_49 := cB c8_47
theorem c8_0_e : c8_0 = .seq c8_1 c8_2 := rfl
theorem c8_1_r : RG (E0 mm) 8 c8_1 := rgN rfl
theorem c8_2_e : c8_2 = .seq c8_3 c8_4 := rfl
theorem c8_3_r : RG (E0 mm) 8 c8_3 := rgN rfl
theorem c8_4_e : c8_4 = .seq c8_5 c8_6 := rfl
theorem c8_5_r : RG (E0 mm) 8 c8_5 := rgN rfl
theorem c8_6_e : c8_6 = .seq c8_7 c8_37 := rfl
theorem c8_7_e : c8_7 = .block 0 c8_8 := rfl
theorem c8_8_e : c8_8 = .seq c8_9 c8_10 := rfl
theorem c8_9_r : RG (E0 mm) 8 c8_9 := rgN rfl
theorem c8_11_e : c8_11 = .seq c8_12 c8_13 := rfl
theorem c8_12_r : RG (E0 mm) 8 c8_12 := rgN rfl
theorem c8_13_e : c8_13 = .ret := rfl
theorem c8_14_e : c8_14 = .seq c8_15 c8_16 := rfl
theorem c8_15_r : RG (E0 mm) 8 c8_15 := rgN rfl
theorem c8_17_e : c8_17 = .seq c8_18 c8_19 := rfl
theorem c8_18_r : RG (E0 mm) 8 c8_18 := rgN rfl
theorem c8_19_e : c8_19 = .ret := rfl
theorem c8_20_e : c8_20 = .seq c8_21 c8_22 := rfl
theorem c8_21_r : RG (E0 mm) 8 c8_21 := rgN rfl
theorem c8_23_e : c8_23 = .seq c8_24 c8_25 := rfl
theorem c8_24_r : RG (E0 mm) 8 c8_24 := rgN rfl
theorem c8_25_e : c8_25 = .seq c8_26 c8_33 := rfl
theorem c8_26_e : c8_26 = .seq c8_27 c8_28 := rfl
theorem c8_27_r : RG (E0 mm) 8 c8_27 := rgN rfl
theorem c8_29_e : c8_29 = .seq c8_30 c8_31 := rfl
theorem c8_30_r : RG (E0 mm) 8 c8_30 := rgN rfl
theorem c8_31_e : c8_31 = .ret := rfl
theorem c8_32_e : c8_32 = .skip := rfl
theorem c8_33_e : c8_33 = .seq c8_34 c8_35 := rfl
theorem c8_34_r : RG (E0 mm) 8 c8_34 := rgN rfl
theorem c8_35_e : c8_35 = .ret := rfl
theorem c8_36_e : c8_36 = .skip := rfl
theorem c8_37_e : c8_37 = .seq c8_38 c8_39 := rfl
theorem c8_38_r : RG (E0 mm) 8 c8_38 := rgN rfl
theorem c8_39_e : c8_39 = .seq c8_40 c8_47 := rfl
theorem c8_40_e : c8_40 = .seq c8_41 c8_42 := rfl
theorem c8_41_r : RG (E0 mm) 8 c8_41 := rgN rfl
theorem c8_43_e : c8_43 = .seq c8_44 c8_45 := rfl
theorem c8_44_r : RG (E0 mm) 8 c8_44 := rgN rfl
theorem c8_45_e : c8_45 = .ret := rfl
theorem c8_46_e : c8_46 = .skip := rfl
theorem c8_47_e : c8_47 = .seq c8_48 c8_49 := rfl
theorem c8_48_r : RG (E0 mm) 8 c8_48 := rgN rfl
theorem c8_49_e : c8_49 = .ret := rfl
abbrev R8 := (Int × Bool)
def e8 : R8 → AV × Heap := fun x => (.tup [.c (.d (.sc (.int .i64 x.1))), .c (.d (.sc (.bool x.2)))], [])
def j8_28 (at5 end7 : Int) (t49 : Bool) : Option R8 :=
  if t49 = true then
    some ((0 : Int), true)
  else
    (m17 at5 end7).bind fun yr15 =>
      some ((w64 (min2 yr15 2147483648)), true)
theorem j8_28_t (at5 end7 : Int) (t49 : Bool) (g0 g1 g2 : Ob) (sl : Nat → AV) (zq5 : sl 5 = .v (.c (.d (.sc (.int .u64 at5))))) (zq7 : sl 7 = .v (.c (.d (.sc (.int .u64 end7))))) (zq49 : sl 49 = .v (.c (.d (.sc (.bool t49))))) :
    bodyD (E0 mm) [.tmp 2, .tmp 3] 0 false (seqD (E0 mm) 8 0 (callW (E0 mm)) itW c8_37 (blockD 0 (seqD (E0 mm) 8 0 (callW (E0 mm)) itW c8_33 (den (E0 mm) 8 0 (callW (E0 mm)) itW c8_28 none ⟨sl, [g0, g1, g2]⟩)))) = (j8_28 at5 end7 t49).map e8 := by
  simp -implicitDefEqProofs only [j8_28, (show c8_28 = Code.cond _ c8_29 c8_32 from rfl), zq5, zq7, zq49, setA, setB, za, zb, zc, zd, ze, zf, zg, zh, zi, zj, zk, zl, zm, zn, zo, zp, reduceCtorEq, zE, ↓reduceIte]
  refine brB (fun yc13 => ?_) (fun yc13 => ?_)
  · simp -implicitDefEqProofs only [c8_29_e, c8_30_r, (show opsOf c8_30 = _ :: _ from rfl), c8_31_e, zq5, zq7, zq49, yc13, setA, setB, za, zb, zc, zd, ze, zf, zg, zh, zi, zj, zk, zl, zm, zn, zo, zp, reduceCtorEq, zE, ↓reduceIte]
    all_goals rfl
  · simp -implicitDefEqProofs only [c8_32_e, c8_33_e, c8_34_r, (show opsOf c8_34 = _ :: _ from rfl), ent17, prm17, f17_t, zq5, zq7, zq49, yc13, setA, setB, za, zb, zc, zd, ze, zf, zg, zh, zi, zj, zk, zl, zm, zn, zo, zp, reduceCtorEq, zE, ↓reduceIte]
    refine brM (fun yc14 => ?_) (fun yr15 yc14 => ?_)
    · rw [yc14]; rfl
    · simp -implicitDefEqProofs only [e17, Tryd.underlying40, Tryd.underlying3, c8_35_e, zq5, zq7, zq49, yc13, yc14, setA, setB, za, zb, zc, zd, ze, zf, zg, zh, zi, zj, zk, zl, zm, zn, zo, zp, reduceCtorEq, zE, ↓reduceIte]
      all_goals rfl
def j8_42 (at5 changed9 : Int) (t72 : Bool) : Option R8 :=
  if t72 = true then
    some ((0 : Int), false)
  else
    (m17 changed9 at5).bind fun yr24 =>
      some ((w64 (min2 (wu64 (yr24.tdiv 10)) 86400)), false)
theorem j8_42_t (at5 changed9 : Int) (t72 : Bool) (g0 g1 g2 : Ob) (sl : Nat → AV) (zq5 : sl 5 = .v (.c (.d (.sc (.int .u64 at5))))) (zq9 : sl 9 = .v (.c (.d (.sc (.int .u64 changed9))))) (zq72 : sl 72 = .v (.c (.d (.sc (.bool t72))))) :
    bodyD (E0 mm) [.tmp 2, .tmp 3] 0 false (seqD (E0 mm) 8 0 (callW (E0 mm)) itW c8_47 (den (E0 mm) 8 0 (callW (E0 mm)) itW c8_42 none ⟨sl, [g0, g1, g2]⟩)) = (j8_42 at5 changed9 t72).map e8 := by
  simp -implicitDefEqProofs only [j8_42, (show c8_42 = Code.cond _ c8_43 c8_46 from rfl), zq5, zq9, zq72, setA, setB, za, zb, zc, zd, ze, zf, zg, zh, zi, zj, zk, zl, zm, zn, zo, zp, reduceCtorEq, zE, ↓reduceIte]
  refine brB (fun yc22 => ?_) (fun yc22 => ?_)
  · simp -implicitDefEqProofs only [c8_43_e, c8_44_r, (show opsOf c8_44 = _ :: _ from rfl), c8_45_e, zq5, zq9, zq72, yc22, setA, setB, za, zb, zc, zd, ze, zf, zg, zh, zi, zj, zk, zl, zm, zn, zo, zp, reduceCtorEq, zE, ↓reduceIte]
    all_goals rfl
  · simp -implicitDefEqProofs only [c8_46_e, c8_47_e, c8_48_r, (show opsOf c8_48 = _ :: _ from rfl), ent17, prm17, f17_t, zq5, zq9, zq72, yc22, setA, setB, za, zb, zc, zd, ze, zf, zg, zh, zi, zj, zk, zl, zm, zn, zo, zp, reduceCtorEq, zE, ↓reduceIte]
    refine brM (fun yc23 => ?_) (fun yr24 yc23 => ?_)
    · rw [yc23]; rfl
    · simp -implicitDefEqProofs only [e17, Tryd.underlying40, Tryd.underlying3, c8_49_e, zq5, zq9, zq72, yc22, yc23, setA, setB, za, zb, zc, zd, ze, zf, zg, zh, zi, zj, zk, zl, zm, zn, zo, zp, reduceCtorEq, zE, ↓reduceIte]
      all_goals rfl
def m8 (r0_0 : Int) (r0_1 : Bs) (r0_2 : Int) (r0_3 : Bool) (r0_4 : List (Bs × Bs)) (r0_5 : Bool) (r0_6 : List UInt8) : Option R8 :=
  (m14 r0_3 r0_4).bind fun yr2 =>
    (m12 r0_0 r0_1 r0_2 r0_3 r0_4 r0_5 r0_6).bind fun yr4 =>
      if (decide (0 ≤ yr2.2.2.2.2.2.2.2.1)) = true then
        some ((min2 yr2.2.2.2.2.2.2.2.1 2147483648), true)
      else
        if (decide (0 ≤ yr2.2.2.2.2.2.2.1)) = true then
          some ((min2 yr2.2.2.2.2.2.2.1 2147483648), true)
        else
          (m15 r0_3 r0_4 ([101, 120, 112, 105, 114, 101, 115] : Bs)).bind fun yr8 =>
            if (decide (0 < (yr8.2.length : Int))) = true then
              (m16 r0_0 r0_1 r0_2 r0_3 r0_4 r0_5 r0_6 ([101, 120, 112, 105, 114, 101, 115] : Bs)).bind fun yr11 =>
                if yr11.2 = true then
                  j8_28 yr4.1 yr11.1 (!yr4.2)
                else
                  j8_28 yr4.1 yr11.1 true
            else
              (m16 r0_0 r0_1 r0_2 r0_3 r0_4 r0_5 r0_6 ([108, 97, 115, 116, 45, 109, 111, 100, 105, 102, 105, 101, 100] : Bs)).bind fun yr17 =>
                if yr17.2 = true then
                  if yr4.2 = true then
                    (m18 false ([(200 : Int), (203 : Int), (204 : Int), (300 : Int), (301 : Int), (308 : Int), (404 : Int), (405 : Int), (410 : Int), (414 : Int), (501 : Int)] : List Int) r0_0).bind fun yr21 =>
                      j8_42 yr4.1 yr17.1 (!yr21)
                  else
                    j8_42 yr4.1 yr17.1 true
                else
                  j8_42 yr4.1 yr17.1 true
theorem f8_t (r0_0 : Int) (r0_1 : Bs) (r0_2 : Int) (r0_3 : Bool) (r0_4 : List (Bs × Bs)) (r0_5 : Bool) (r0_6 : List UInt8) :
    callW (E0 mm) 8 [.agg [.d (.sc (.int .i64 r0_0)), .d (.sc (.string (S r0_1))), .d (.sc (.int .i64 r0_2)), .d (.lst r0_3 (enL enSS r0_4)), .d (.lst r0_5 (enL enB r0_6))]] [] = (m8 r0_0 r0_1 r0_2 r0_3 r0_4 r0_5 r0_6).map e8 := by
  rw [callW_run (body := c8_0) (res := [.tmp 2, .tmp 3]) Tryd.func8 rfl rfl (by kernel_rfl)]
  simp -implicitDefEqProofs only [m8, slots1, c8_0_e, c8_1_r, (show opsOf c8_1 = _ :: _ from rfl), c8_2_e, c8_3_r, (show opsOf c8_3 = _ :: _ from rfl), Tryd.underlying35, sz22, ag22, ent14, prm14, f14_t, setA, setB, za, zb, zc, zd, ze, zf, zg, zh, zi, zj, zk, zl, zm, zn, zo, zp, reduceCtorEq, zE, ↓reduceIte]
  refine brM (fun yc1 => ?_) (fun yr2 yc1 => ?_)
  · rw [yc1]; rfl
  · simp -implicitDefEqProofs only [e14, zc51, ao50, sz51, c8_4_e, c8_5_r, (show opsOf c8_5 = _ :: _ from rfl), sz35, ag35, ent12, prm12, f12_t, yc1, setA, setB, za, zb, zc, zd, ze, zf, zg, zh, zi, zj, zk, zl, zm, zn, zo, zp, reduceCtorEq, zE, ↓reduceIte]
    refine brM (fun yc3 => ?_) (fun yr4 yc3 => ?_)
    · rw [yc3]; rfl
    · simp -implicitDefEqProofs only [e12, c8_6_e, c8_7_e, c8_8_e, c8_9_r, (show opsOf c8_9 = _ :: _ from rfl), Tryd.underlying51, sz3, ag3, (show c8_10 = Code.cond _ c8_11 c8_14 from rfl), yc1, yc3, setA, setB, za, zb, zc, zd, ze, zf, zg, zh, zi, zj, zk, zl, zm, zn, zo, zp, reduceCtorEq, zE, ↓reduceIte]
      refine brB (fun yc5 => ?_) (fun yc5 => ?_)
      · simp -implicitDefEqProofs only [c8_11_e, c8_12_r, (show opsOf c8_12 = _ :: _ from rfl), Tryd.underlying51, sz3, ag3, Tryd.underlying3, c8_13_e, yc1, yc3, yc5, setA, setB, za, zb, zc, zd, ze, zf, zg, zh, zi, zj, zk, zl, zm, zn, zo, zp, reduceCtorEq, zE, ↓reduceIte]
        all_goals rfl
      · simp -implicitDefEqProofs only [c8_14_e, c8_15_r, (show opsOf c8_15 = _ :: _ from rfl), Tryd.underlying51, sz3, ag3, (show c8_16 = Code.cond _ c8_17 c8_20 from rfl), yc1, yc3, yc5, setA, setB, za, zb, zc, zd, ze, zf, zg, zh, zi, zj, zk, zl, zm, zn, zo, zp, reduceCtorEq, zE, ↓reduceIte]
        refine brB (fun yc6 => ?_) (fun yc6 => ?_)
        · simp -implicitDefEqProofs only [c8_17_e, c8_18_r, (show opsOf c8_18 = _ :: _ from rfl), Tryd.underlying51, sz3, ag3, Tryd.underlying3, c8_19_e, yc1, yc3, yc5, yc6, setA, setB, za, zb, zc, zd, ze, zf, zg, zh, zi, zj, zk, zl, zm, zn, zo, zp, reduceCtorEq, zE, ↓reduceIte]
          all_goals rfl
        · simp -implicitDefEqProofs only [c8_20_e, c8_21_r, (show opsOf c8_21 = _ :: _ from rfl), Tryd.underlying35, sz22, ag22, ent15, prm15, (show callW (E0 mm) 15 [.c (.d (.lst r0_3 (enL enSS r0_4))), .c (.d (.sc (.string (S ([101, 120, 112, 105, 114, 101, 115] : Bs)))))] [] = _ from f15_t r0_3 r0_4 ([101, 120, 112, 105, 114, 101, 115] : Bs)), yc1, yc3, yc5, yc6, setA, setB, za, zb, zc, zd, ze, zf, zg, zh, zi, zj, zk, zl, zm, zn, zo, zp, reduceCtorEq, zE, ↓reduceIte]
          refine brM (fun yc7 => ?_) (fun yr8 yc7 => ?_)
          · rw [yc7]; rfl
          · simp -implicitDefEqProofs only [e15, Tryd.underlying41, (show c8_22 = Code.cond _ c8_23 c8_36 from rfl), yc1, yc3, yc5, yc6, yc7, setA, setB, za, zb, zc, zd, ze, zf, zg, zh, zi, zj, zk, zl, zm, zn, zo, zp, reduceCtorEq, zE, ↓reduceIte]
            refine brB (fun yc9 => ?_) (fun yc9 => ?_)
            · simp -implicitDefEqProofs only [c8_23_e, c8_24_r, (show opsOf c8_24 = _ :: _ from rfl), sz35, ag35, ent16, prm16, (show callW (E0 mm) 16 [.agg [.d (.sc (.int .i64 r0_0)), .d (.sc (.string (S r0_1))), .d (.sc (.int .i64 r0_2)), .d (.lst r0_3 (enL enSS r0_4)), .d (.lst r0_5 (enL enB r0_6))], .c (.d (.sc (.string (S ([101, 120, 112, 105, 114, 101, 115] : Bs)))))] [] = _ from f16_t r0_0 r0_1 r0_2 r0_3 r0_4 r0_5 r0_6 ([101, 120, 112, 105, 114, 101, 115] : Bs)), yc1, yc3, yc5, yc6, yc7, yc9, setA, setB, za, zb, zc, zd, ze, zf, zg, zh, zi, zj, zk, zl, zm, zn, zo, zp, reduceCtorEq, zE, ↓reduceIte]
              refine brM (fun yc10 => ?_) (fun yr11 yc10 => ?_)
              · rw [yc10]; rfl
              · simp -implicitDefEqProofs only [e16, c8_25_e, c8_26_e, c8_27_r, (show opsOf c8_27 = _ :: _ from rfl), yc1, yc3, yc5, yc6, yc7, yc9, yc10, setA, setB, za, zb, zc, zd, ze, zf, zg, zh, zi, zj, zk, zl, zm, zn, zo, zp, reduceCtorEq, zE, ↓reduceIte]
                refine brB (fun yc12 => ?_) (fun yc12 => ?_)
                · simp -implicitDefEqProofs only [yc1, yc3, yc5, yc6, yc7, yc9, yc10, yc12, setA, setB, za, zb, zc, zd, ze, zf, zg, zh, zi, zj, zk, zl, zm, zn, zo, zp, reduceCtorEq, zE, ↓reduceIte]
                  exact j8_28_t yr4.1 yr11.1 (!yr4.2) _ _ _ _ (by rfl) (by rfl) (by rfl)
                · simp -implicitDefEqProofs only [yc1, yc3, yc5, yc6, yc7, yc9, yc10, yc12, setA, setB, za, zb, zc, zd, ze, zf, zg, zh, zi, zj, zk, zl, zm, zn, zo, zp, reduceCtorEq, zE, ↓reduceIte]
                  exact j8_28_t yr4.1 yr11.1 true _ _ _ _ (by rfl) (by rfl) (by rfl)
            · simp -implicitDefEqProofs only [c8_36_e, c8_37_e, c8_38_r, (show opsOf c8_38 = _ :: _ from rfl), sz35, ag35, ent16, prm16, (show callW (E0 mm) 16 [.agg [.d (.sc (.int .i64 r0_0)), .d (.sc (.string (S r0_1))), .d (.sc (.int .i64 r0_2)), .d (.lst r0_3 (enL enSS r0_4)), .d (.lst r0_5 (enL enB r0_6))], .c (.d (.sc (.string (S ([108, 97, 115, 116, 45, 109, 111, 100, 105, 102, 105, 101, 100] : Bs)))))] [] = _ from f16_t r0_0 r0_1 r0_2 r0_3 r0_4 r0_5 r0_6 ([108, 97, 115, 116, 45, 109, 111, 100, 105, 102, 105, 101, 100] : Bs)), yc1, yc3, yc5, yc6, yc7, yc9, setA, setB, za, zb, zc, zd, ze, zf, zg, zh, zi, zj, zk, zl, zm, zn, zo, zp, reduceCtorEq, zE, ↓reduceIte]
              refine brM (fun yc16 => ?_) (fun yr17 yc16 => ?_)
              · rw [yc16]; rfl
              · simp -implicitDefEqProofs only [e16, c8_39_e, c8_40_e, c8_41_r, (show opsOf c8_41 = _ :: _ from rfl), yc1, yc3, yc5, yc6, yc7, yc9, yc16, setA, setB, za, zb, zc, zd, ze, zf, zg, zh, zi, zj, zk, zl, zm, zn, zo, zp, reduceCtorEq, zE, ↓reduceIte]
                refine brB (fun yc18 => ?_) (fun yc18 => ?_)
                · simp -implicitDefEqProofs only [yc1, yc3, yc5, yc6, yc7, yc9, yc16, yc18, setA, setB, za, zb, zc, zd, ze, zf, zg, zh, zi, zj, zk, zl, zm, zn, zo, zp, reduceCtorEq, zE, ↓reduceIte]
                  refine brB (fun yc19 => ?_) (fun yc19 => ?_)
                  · simp -implicitDefEqProofs only [Tryd.underlying57, sz3, zc3, hd57, nv58, rw59, ns60, Tryd.underlying35, ag3, ent18, prm18, (show callW (E0 mm) 18 [.c (.d (.lst false (enL enN ([(200 : Int), (203 : Int), (204 : Int), (300 : Int), (301 : Int), (308 : Int), (404 : Int), (405 : Int), (410 : Int), (414 : Int), (501 : Int)] : List Int)))), .c (.d (.sc (.int .i64 r0_0)))] [] = _ from f18_t false ([(200 : Int), (203 : Int), (204 : Int), (300 : Int), (301 : Int), (308 : Int), (404 : Int), (405 : Int), (410 : Int), (414 : Int), (501 : Int)] : List Int) r0_0), yc1, yc3, yc5, yc6, yc7, yc9, yc16, yc18, yc19, setA, setB, za, zb, zc, zd, ze, zf, zg, zh, zi, zj, zk, zl, zm, zn, zo, zp, reduceCtorEq, zE, ↓reduceIte]
                    refine brM (fun yc20 => ?_) (fun yr21 yc20 => ?_)
                    · rw [yc20]; rfl
                    · simp -implicitDefEqProofs only [e18, yc1, yc3, yc5, yc6, yc7, yc9, yc16, yc18, yc19, yc20, setA, setB, za, zb, zc, zd, ze, zf, zg, zh, zi, zj, zk, zl, zm, zn, zo, zp, reduceCtorEq, zE, ↓reduceIte]
                      exact j8_42_t yr4.1 yr17.1 (!yr21) _ _ _ _ (by rfl) (by rfl) (by rfl)
                  · simp -implicitDefEqProofs only [yc1, yc3, yc5, yc6, yc7, yc9, yc16, yc18, yc19, setA, setB, za, zb, zc, zd, ze, zf, zg, zh, zi, zj, zk, zl, zm, zn, zo, zp, reduceCtorEq, zE, ↓reduceIte]
                    exact j8_42_t yr4.1 yr17.1 true _ _ _ _ (by rfl) (by rfl) (by rfl)
                · simp -implicitDefEqProofs only [yc1, yc3, yc5, yc6, yc7, yc9, yc16, yc18, setA, setB, za, zb, zc, zd, ze, zf, zg, zh, zi, zj, zk, zl, zm, zn, zo, zp, reduceCtorEq, zE, ↓reduceIte]
                  exact j8_42_t yr4.1 yr17.1 true _ _ _ _ (by rfl) (by rfl) (by rfl)
noncomputable def c3_0 : Code := bodyOf Tryd.f3
def c3_1 := cA c3_0
def c3_2 := cB c3_0
def c3_3 := cA c3_2
def c3_4 := cA c3_3
def c3_5 := cB c3_3
def c3_6 := cA c3_5
def c3_9 := cB c3_5
def c3_10 := cB c3_2
def c3_11 := cA c3_10
def c3_12 := cB c3_10
def c3_13 := cA c3_12
def c3_14 := cB c3_12
def c3_15 := cA c3_14
def c3_16 := cA c3_15
def c3_17 := cB c3_15
def c3_18 := cA c3_17
def c3_19 := cA c3_18
def c3_20 := cA c3_19
def c3_21 := cB c3_19
def c3_22 := cA c3_21
def c3_23 := cA c3_22
def c3_24 := cB c3_22
def c3_25 := cB c3_21
def c3_26 := cA c3_25
def c3_27 := cA c3_26
def c3_28 := cA c3_27
def c3_29 := cB c3_27
def c3_30 := cA c3_29
def c3_31 := cB c3_29
def c3_32 := cA c3_31
def c3_33 := cB c3_31
def c3_34 := cB c3_25
def c3_35 := cB c3_14
def c3_36 := cA c3_35
def c3_37 := cB c3_35
def c3_38 := cA c3_37
def c3_39 := cB c3_37
def c3_40 := cA c3_39
def c3_41 := cB c3_39
def c3_42 := cA c3_41
def c3_43 := cB c3_41
def c3_44 := cA c3_43
def c3_45 := cB c3_43
theorem c3_0_e : c3_0 = .seq c3_1 c3_2 := rfl
theorem c3_1_r : RG (E0 mm) 3 c3_1 := rgN rfl
theorem c3_2_e : c3_2 = .seq c3_3 c3_10 := rfl
theorem c3_3_e : c3_3 = .seq c3_4 c3_5 := rfl
theorem c3_4_r : RG (E0 mm) 3 c3_4 := rgN rfl
theorem c3_9_e : c3_9 = .skip := rfl
theorem c3_10_e : c3_10 = .seq c3_11 c3_12 := rfl
theorem c3_11_r : RG (E0 mm) 3 c3_11 := rgD (by kernel_rfl)
theorem c3_12_e : c3_12 = .seq c3_13 c3_14 := rfl
theorem c3_13_r : RG (E0 mm) 3 c3_13 := rgN rfl
theorem c3_14_e : c3_14 = .seq c3_15 c3_35 := rfl
theorem c3_15_e : c3_15 = .seq c3_16 c3_17 := rfl
theorem c3_16_r : RG (E0 mm) 3 c3_16 := rgN rfl
theorem c3_17_e : c3_17 = .block 0 c3_18 := rfl
theorem c3_18_l (m : Nat) (st : St) : den (E0 mm) 3 m (callW (E0 mm)) itW c3_18 none st = loopD itW (loopF (E0 mm) 3 m (callW (E0 mm)) itW c3_19 [(1, .keep), (3, .keep), (4, .keep), (5, .own), (23, .keep), (24, .keep), (25, .keep)]) (canon m [(1, .keep), (3, .keep), (4, .keep), (5, .own), (23, .keep), (24, .keep), (25, .keep)] st) := rfl
theorem c3_19_e : c3_19 = .seq c3_20 c3_21 := rfl
theorem c3_20_r : RG (E0 mm) 3 c3_20 := rgN rfl
theorem c3_21_e : c3_21 = .seq c3_22 c3_25 := rfl
theorem c3_23_e : c3_23 = .skip := rfl
theorem c3_24_e : c3_24 = .exit 0 := rfl
theorem c3_25_e : c3_25 = .seq c3_26 c3_34 := rfl
theorem c3_26_e : c3_26 = .block 1 c3_27 := rfl
theorem c3_27_e : c3_27 = .seq c3_28 c3_29 := rfl
theorem c3_28_r : RG (E0 mm) 3 c3_28 := rgN rfl
theorem c3_29_e : c3_29 = .seq c3_30 c3_31 := rfl
theorem c3_30_r : RG (E0 mm) 3 c3_30 := rgN rfl
theorem c3_32_r : RG (E0 mm) 3 c3_32 := rgN rfl
theorem c3_33_e : c3_33 = .skip := rfl
theorem c3_34_r : RG (E0 mm) 3 c3_34 := rgN rfl
theorem c3_35_e : c3_35 = .seq c3_36 c3_37 := rfl
theorem c3_36_r : RG (E0 mm) 3 c3_36 := rgN rfl
theorem c3_37_e : c3_37 = .seq c3_38 c3_39 := rfl
theorem c3_38_r : RG (E0 mm) 3 c3_38 := rgN rfl
theorem c3_39_e : c3_39 = .seq c3_40 c3_41 := rfl
theorem c3_40_r : RG (E0 mm) 3 c3_40 := rgN rfl
theorem c3_41_e : c3_41 = .seq c3_42 c3_43 := rfl
theorem c3_42_r : RG (E0 mm) 3 c3_42 := rgN rfl
theorem c3_43_e : c3_43 = .seq c3_44 c3_45 := rfl
theorem c3_44_r : RG (E0 mm) 3 c3_44 := rgN rfl
theorem c3_45_e : c3_45 = .ret := rfl
abbrev R3 := (Bool)
def e3 : R3 → AV × Heap := fun x => (.v (.c (.d (.sc (.bool x)))), [])
def K3_18 : Option (Ex × St) → Option (AV × Heap) := fun r => bodyD (E0 mm) [.tmp 2] 0 false (seqD (E0 mm) 3 0 (callW (E0 mm)) itW c3_35 (blockD 0 (r)))
def en3_18 : (Int × Int × Bool × List (Bs × Bs) × Bool × List (Bs × Bs) × Int × Int × Bool × List (Bs × Bs) × Int × Int × Int) → X := fun x => (none, [.v (.c (.ptr 0 0)), .v (.c (.d (.sc (.int .u32 x.1)))), .v (.c (.d (.sc (.int .u32 x.2.1)))), .v (.c (.own x.2.2.1 (enL enSS x.2.2.2.1) 1)), .v (.c (.d (.lst x.2.2.2.2.1 (enL enSS x.2.2.2.2.2.1)))), .v (.c (.d (.sc (.int .i64 x.2.2.2.2.2.2.1)))), .v (.c (.d (.sc (.int .i64 x.2.2.2.2.2.2.2.1))))], [.cells [.d (.lst x.2.2.2.2.2.2.2.2.1 (enL enSS x.2.2.2.2.2.2.2.2.2.1)), .d (.sc (.int .i64 x.2.2.2.2.2.2.2.2.2.2.1)), .d (.sc (.int .u32 x.2.2.2.2.2.2.2.2.2.2.2.1)), .d (.sc (.int .u32 x.2.2.2.2.2.2.2.2.2.2.2.2))], .row x.2.2.2.1.length (rz x.2.2.1 2)])
def j3_34 (shared3 most4 : Int) (rest5_0 : Bool) (rest5_1 : List (Bs × Bs)) (t23_0 : Bool) (t23_1 : List (Bs × Bs)) (t24 t25 : Int) (h0_0_0 : Bool) (h0_0_1 : List (Bs × Bs)) (h0_1 h0_2 h0_3 : Int) : Option ((Int × Int × Bool × List (Bs × Bs) × Bool × List (Bs × Bs) × Int × Int × Bool × List (Bs × Bs) × Int × Int × Int) ⊕ R3) :=
  some (.inl (shared3, most4, rest5_0, rest5_1, t23_0, t23_1, t24, (w64 (t25 + 1)), h0_0_0, h0_0_1, h0_1, h0_2, h0_3))
theorem j3_34_t (shared3 most4 : Int) (rest5_0 : Bool) (rest5_1 : List (Bs × Bs)) (t23_0 : Bool) (t23_1 : List (Bs × Bs)) (t24 t25 : Int) (h0_0_0 : Bool) (h0_0_1 : List (Bs × Bs)) (h0_1 h0_2 h0_3 : Int) (g2 : Ob) (sl : Nat → AV) (zq1 : sl 1 = .v (.c (.ptr 0 0))) (zq3 : sl 3 = .v (.c (.d (.sc (.int .u32 shared3))))) (zq4 : sl 4 = .v (.c (.d (.sc (.int .u32 most4))))) (zq5 : sl 5 = .v (.c (.own rest5_0 (enL enSS rest5_1) 1))) (zq23 : sl 23 = .v (.c (.d (.lst t23_0 (enL enSS t23_1))))) (zq24 : sl 24 = .v (.c (.d (.sc (.int .i64 t24))))) (zq25 : sl 25 = .v (.c (.d (.sc (.int .i64 t25))))) :
    stepE (K3_18 (mm := mm)) (loopK 0 [(1, .keep), (3, .keep), (4, .keep), (5, .own), (23, .keep), (24, .keep), (25, .keep)] (den (E0 mm) 3 0 (callW (E0 mm)) itW c3_34 none ⟨sl, [.cells [.d (.lst h0_0_0 (enL enSS h0_0_1)), .d (.sc (.int .i64 h0_1)), .d (.sc (.int .u32 h0_2)), .d (.sc (.int .u32 h0_3))], .row rest5_1.length (rz rest5_0 2), g2]⟩)) = (j3_34 shared3 most4 rest5_0 rest5_1 t23_0 t23_1 t24 t25 h0_0_0 h0_0_1 h0_1 h0_2 h0_3).map (sm en3_18 e3) := by
  simp -implicitDefEqProofs only [j3_34, c3_34_r, (show opsOf c3_34 = _ :: _ from rfl), zq1, zq3, zq4, zq5, zq23, zq24, zq25, setA, setB, za, zb, zc, zd, ze, zf, zg, zh, zi, zj, zk, zl, zm, zn, zo, zp, reduceCtorEq, zE, ↓reduceIte]
  all_goals rfl
def j3_35 (shared3 most4 : Int) (rest5_0 : Bool) (rest5_1 : List (Bs × Bs)) (h0_0_0 : Bool) (h0_0_1 : List (Bs × Bs)) (h0_1 h0_2 h0_3 : Int) : Option R3 :=
  if rest5_1 = [] ∨ (0 + rest5_1.length) * 32 ≤ 140737488355328 then
    (m7 most4).bind fun yr8 =>
      if 8 + yr8.length < 9223372036854775808 then
        if (rest5_1.length + 1) * 32 ≤ 140737488355328 then
          (m7 shared3).bind fun yr12 =>
            if 9 + yr12.length < 9223372036854775808 then
              if (rest5_1 ++ ([(([67, 97, 99, 104, 101, 45, 67, 111, 110, 116, 114, 111, 108] : Bs), ((109 : UInt8) :: 97 :: 120 :: 45 :: 97 :: 103 :: 101 :: 61 :: yr8))] : List (Bs × Bs))) = [] ∨ (1 + (rest5_1 ++ ([(([67, 97, 99, 104, 101, 45, 67, 111, 110, 116, 114, 111, 108] : Bs), ((109 : UInt8) :: 97 :: 120 :: 45 :: 97 :: 103 :: 101 :: 61 :: yr8))] : List (Bs × Bs))).length) * 32 ≤ 140737488355328 then
                (m8 h0_1 ([] : Bs) (0 : Int) false (rest5_1 ++ ([(([67, 97, 99, 104, 101, 45, 67, 111, 110, 116, 114, 111, 108] : Bs), ((109 : UInt8) :: 97 :: 120 :: 45 :: 97 :: 103 :: 101 :: 61 :: yr8))] : List (Bs × Bs))) true ([] : List UInt8)).bind fun yr16 =>
                  (m8 h0_1 ([] : Bs) (0 : Int) false ((([99, 97, 99, 104, 101, 45, 99, 111, 110, 116, 114, 111, 108] : Bs), ((83 : UInt8) :: 45 :: 77 :: 97 :: 120 :: 65 :: 103 :: 101 :: 61 :: yr12)) :: (rest5_1 ++ ([(([67, 97, 99, 104, 101, 45, 67, 111, 110, 116, 114, 111, 108] : Bs), ((109 : UInt8) :: 97 :: 120 :: 45 :: 97 :: 103 :: 101 :: 61 :: yr8))] : List (Bs × Bs)))) true ([] : List UInt8)).bind fun yr18 =>
                    if (yr16.1 == (w64 most4)) = true then
                      if yr16.2 = true then
                        if (yr18.1 == (w64 shared3)) = true then
                          some yr18.2
                        else
                          some false
                      else
                        some false
                    else
                      some false
              else none
            else none
        else none
      else none
  else none
theorem j3_35_t (shared3 most4 : Int) (rest5_0 : Bool) (rest5_1 : List (Bs × Bs)) (h0_0_0 : Bool) (h0_0_1 : List (Bs × Bs)) (h0_1 h0_2 h0_3 : Int)  (sl : Nat → AV) (zq1 : sl 1 = .v (.c (.ptr 0 0))) (zq3 : sl 3 = .v (.c (.d (.sc (.int .u32 shared3))))) (zq4 : sl 4 = .v (.c (.d (.sc (.int .u32 most4))))) (zq5 : sl 5 = .v (.c (.own rest5_0 (enL enSS rest5_1) 1))) :
    bodyD (E0 mm) [.tmp 2] 0 false (den (E0 mm) 3 0 (callW (E0 mm)) itW c3_35 none ⟨sl, [.cells [.d (.lst h0_0_0 (enL enSS h0_0_1)), .d (.sc (.int .i64 h0_1)), .d (.sc (.int .u32 h0_2)), .d (.sc (.int .u32 h0_3))], .row rest5_1.length (rz rest5_0 2)]⟩) = (j3_35 shared3 most4 rest5_0 rest5_1 h0_0_0 h0_0_1 h0_1 h0_2 h0_3).map e3 := by
  simp -implicitDefEqProofs only [j3_35, c3_35_e, c3_36_r, (show opsOf c3_36 = _ :: _ from rfl), Tryd.underlying22, sz29, zc29, hd6, nv7, rw8, ns9, ap22, zq1, zq3, zq4, zq5, setA, setB, za, zb, zc, zd, ze, zf, zg, zh, zi, zj, zk, zl, zm, zn, zo, zp, reduceCtorEq, zE, ↓reduceIte]
  refine brP (fun yc6 => ?_) (fun yc6 => ?_)
  · simp -implicitDefEqProofs only [ent7, prm7, f7_t, zq1, zq3, zq4, zq5, yc6, setA, setB, za, zb, zc, zd, ze, zf, zg, zh, zi, zj, zk, zl, zm, zn, zo, zp, reduceCtorEq, zE, ↓reduceIte]
    refine brM (fun yc7 => ?_) (fun yr8 yc7 => ?_)
    · rw [yc7]; rfl
    · simp -implicitDefEqProofs only [e7, zq1, zq3, zq4, zq5, yc6, yc7, setA, setB, za, zb, zc, zd, ze, zf, zg, zh, zi, zj, zk, zl, zm, zn, zo, zp, reduceCtorEq, zE, ↓reduceIte]
      refine brP (fun yc9 => ?_) (fun yc9 => ?_)
      · simp -implicitDefEqProofs only [Tryd.underlying29, zc29, sz9, Tryd.underlying22, sz29, hd6, nv7, rw8, ns10, ap22, zq1, zq3, zq4, zq5, yc6, yc7, yc9, setA, setB, za, zb, zc, zd, ze, zf, zg, zh, zi, zj, zk, zl, zm, zn, zo, zp, reduceCtorEq, zE, ↓reduceIte]
        refine brP (fun yc10 => ?_) (fun yc10 => ?_)
        · simp -implicitDefEqProofs only [c3_37_e, c3_38_r, (show opsOf c3_38 = _ :: _ from rfl), ent7, prm7, f7_t, zq1, zq3, zq4, zq5, yc6, yc7, yc9, yc10, setA, setB, za, zb, zc, zd, ze, zf, zg, zh, zi, zj, zk, zl, zm, zn, zo, zp, reduceCtorEq, zE, ↓reduceIte]
          refine brM (fun yc11 => ?_) (fun yr12 yc11 => ?_)
          · rw [yc11]; rfl
          · simp -implicitDefEqProofs only [e7, zq1, zq3, zq4, zq5, yc6, yc7, yc9, yc10, yc11, setA, setB, za, zb, zc, zd, ze, zf, zg, zh, zi, zj, zk, zl, zm, zn, zo, zp, reduceCtorEq, zE, ↓reduceIte]
            refine brP (fun yc13 => ?_) (fun yc13 => ?_)
            · simp -implicitDefEqProofs only [Tryd.underlying29, zc29, sz9, Tryd.underlying22, sz29, hd11, nv12, rw13, ns10, ap22, zq1, zq3, zq4, zq5, yc6, yc7, yc9, yc10, yc11, yc13, setA, setB, za, zb, zc, zd, ze, zf, zg, zh, zi, zj, zk, zl, zm, zn, zo, zp, reduceCtorEq, zE, ↓reduceIte]
              refine brP (fun yc14 => ?_) (fun yc14 => ?_)
              · simp -implicitDefEqProofs only [c3_39_e, c3_40_r, (show opsOf c3_40 = _ :: _ from rfl), Tryd.underlying25, sz3, ag3, Tryd.underlying35, zc35, sz9, sz22, sz33, ent8, prm8, (show callW (E0 mm) 8 [.agg [.d (.sc (.int .i64 h0_1)), .d (.sc (.string (S ([] : Bs)))), .d (.sc (.int .i64 0)), .d (.lst false (enL enSS (rest5_1 ++ ([(([67, 97, 99, 104, 101, 45, 67, 111, 110, 116, 114, 111, 108] : Bs), ((109 : UInt8) :: 97 :: 120 :: 45 :: 97 :: 103 :: 101 :: 61 :: yr8))] : List (Bs × Bs))))), .d (.lst true [])]] [] = _ from f8_t h0_1 ([] : Bs) (0 : Int) false (rest5_1 ++ ([(([67, 97, 99, 104, 101, 45, 67, 111, 110, 116, 114, 111, 108] : Bs), ((109 : UInt8) :: 97 :: 120 :: 45 :: 97 :: 103 :: 101 :: 61 :: yr8))] : List (Bs × Bs))) true ([] : List UInt8)), zq1, zq3, zq4, zq5, yc6, yc7, yc9, yc10, yc11, yc13, yc14, setA, setB, za, zb, zc, zd, ze, zf, zg, zh, zi, zj, zk, zl, zm, zn, zo, zp, reduceCtorEq, zE, ↓reduceIte]
                refine brM (fun yc15 => ?_) (fun yr16 yc15 => ?_)
                · rw [yc15]; rfl
                · simp -implicitDefEqProofs only [e8, c3_41_e, c3_42_r, (show opsOf c3_42 = _ :: _ from rfl), Tryd.underlying25, sz3, ag3, Tryd.underlying35, zc35, sz9, sz22, sz33, ent8, prm8, (show callW (E0 mm) 8 [.agg [.d (.sc (.int .i64 h0_1)), .d (.sc (.string (S ([] : Bs)))), .d (.sc (.int .i64 0)), .d (.lst false (enL enSS ((([99, 97, 99, 104, 101, 45, 99, 111, 110, 116, 114, 111, 108] : Bs), ((83 : UInt8) :: 45 :: 77 :: 97 :: 120 :: 65 :: 103 :: 101 :: 61 :: yr12)) :: (rest5_1 ++ ([(([67, 97, 99, 104, 101, 45, 67, 111, 110, 116, 114, 111, 108] : Bs), ((109 : UInt8) :: 97 :: 120 :: 45 :: 97 :: 103 :: 101 :: 61 :: yr8))] : List (Bs × Bs)))))), .d (.lst true [])]] [] = _ from f8_t h0_1 ([] : Bs) (0 : Int) false ((([99, 97, 99, 104, 101, 45, 99, 111, 110, 116, 114, 111, 108] : Bs), ((83 : UInt8) :: 45 :: 77 :: 97 :: 120 :: 65 :: 103 :: 101 :: 61 :: yr12)) :: (rest5_1 ++ ([(([67, 97, 99, 104, 101, 45, 67, 111, 110, 116, 114, 111, 108] : Bs), ((109 : UInt8) :: 97 :: 120 :: 45 :: 97 :: 103 :: 101 :: 61 :: yr8))] : List (Bs × Bs)))) true ([] : List UInt8)), zq1, zq3, zq4, zq5, yc6, yc7, yc9, yc10, yc11, yc13, yc14, yc15, setA, setB, za, zb, zc, zd, ze, zf, zg, zh, zi, zj, zk, zl, zm, zn, zo, zp, reduceCtorEq, zE, ↓reduceIte]
                  refine brM (fun yc17 => ?_) (fun yr18 yc17 => ?_)
                  · rw [yc17]; rfl
                  · simp -implicitDefEqProofs only [e8, c3_43_e, c3_44_r, (show opsOf c3_44 = _ :: _ from rfl), Tryd.underlying23, Tryd.underlying3, zq1, zq3, zq4, zq5, yc6, yc7, yc9, yc10, yc11, yc13, yc14, yc15, yc17, setA, setB, za, zb, zc, zd, ze, zf, zg, zh, zi, zj, zk, zl, zm, zn, zo, zp, reduceCtorEq, zE, ↓reduceIte]
                    refine brB (fun yc19 => ?_) (fun yc19 => ?_)
                    · simp -implicitDefEqProofs only [zq1, zq3, zq4, zq5, yc6, yc7, yc9, yc10, yc11, yc13, yc14, yc15, yc17, yc19, setA, setB, za, zb, zc, zd, ze, zf, zg, zh, zi, zj, zk, zl, zm, zn, zo, zp, reduceCtorEq, zE, ↓reduceIte]
                      refine brB (fun yc20 => ?_) (fun yc20 => ?_)
                      · simp -implicitDefEqProofs only [Tryd.underlying23, Tryd.underlying3, zq1, zq3, zq4, zq5, yc6, yc7, yc9, yc10, yc11, yc13, yc14, yc15, yc17, yc19, yc20, setA, setB, za, zb, zc, zd, ze, zf, zg, zh, zi, zj, zk, zl, zm, zn, zo, zp, reduceCtorEq, zE, ↓reduceIte]
                        refine brB (fun yc21 => ?_) (fun yc21 => ?_)
                        · simp -implicitDefEqProofs only [c3_45_e, zq1, zq3, zq4, zq5, yc6, yc7, yc9, yc10, yc11, yc13, yc14, yc15, yc17, yc19, yc20, yc21, setA, setB, za, zb, zc, zd, ze, zf, zg, zh, zi, zj, zk, zl, zm, zn, zo, zp, reduceCtorEq, zE, ↓reduceIte]
                          all_goals rfl
                        · simp -implicitDefEqProofs only [c3_45_e, zq1, zq3, zq4, zq5, yc6, yc7, yc9, yc10, yc11, yc13, yc14, yc15, yc17, yc19, yc20, yc21, setA, setB, za, zb, zc, zd, ze, zf, zg, zh, zi, zj, zk, zl, zm, zn, zo, zp, reduceCtorEq, zE, ↓reduceIte]
                          all_goals rfl
                      · simp -implicitDefEqProofs only [c3_45_e, zq1, zq3, zq4, zq5, yc6, yc7, yc9, yc10, yc11, yc13, yc14, yc15, yc17, yc19, yc20, setA, setB, za, zb, zc, zd, ze, zf, zg, zh, zi, zj, zk, zl, zm, zn, zo, zp, reduceCtorEq, zE, ↓reduceIte]
                        all_goals rfl
                    · simp -implicitDefEqProofs only [c3_45_e, zq1, zq3, zq4, zq5, yc6, yc7, yc9, yc10, yc11, yc13, yc14, yc15, yc17, yc19, setA, setB, za, zb, zc, zd, ze, zf, zg, zh, zi, zj, zk, zl, zm, zn, zo, zp, reduceCtorEq, zE, ↓reduceIte]
                      all_goals rfl
              · rw [if_neg yc14]; rfl
            · rw [if_neg yc13]; rfl
        · rw [if_neg yc10]; rfl
      · rw [if_neg yc9]; rfl
  · rw [if_neg yc6]; rfl
def s3_18 (shared3 most4 : Int) (rest5_0 : Bool) (rest5_1 : List (Bs × Bs)) (t23_0 : Bool) (t23_1 : List (Bs × Bs)) (t24 t25 : Int) (h0_0_0 : Bool) (h0_0_1 : List (Bs × Bs)) (h0_1 h0_2 h0_3 : Int) : Option ((Int × Int × Bool × List (Bs × Bs) × Bool × List (Bs × Bs) × Int × Int × Bool × List (Bs × Bs) × Int × Int × Int) ⊕ R3) :=
  if (decide (t25 < t24)) = true then
    if 0 ≤ t25 ∧ t25 < (t23_1.length : Int) then
      if ((((t23_1.getD t25.toNat default).1).length : Int) == 13) = true then
        j3_34 shared3 most4 rest5_0 rest5_1 t23_0 t23_1 t24 t25 h0_0_0 h0_0_1 h0_1 h0_2 h0_3
      else
        if (rest5_1.length + 1) * 32 ≤ 140737488355328 then
          j3_34 shared3 most4 false (rest5_1 ++ ([((t23_1.getD t25.toNat default).1, (t23_1.getD t25.toNat default).2)] : List (Bs × Bs))) t23_0 t23_1 t24 t25 h0_0_0 h0_0_1 h0_1 h0_2 h0_3
        else none
    else none
  else
    (j3_35 shared3 most4 rest5_0 rest5_1 h0_0_0 h0_0_1 h0_1 h0_2 h0_3).map .inr
theorem s3_18_t (shared3 most4 : Int) (rest5_0 : Bool) (rest5_1 : List (Bs × Bs)) (t23_0 : Bool) (t23_1 : List (Bs × Bs)) (t24 t25 : Int) (h0_0_0 : Bool) (h0_0_1 : List (Bs × Bs)) (h0_1 h0_2 h0_3 : Int) :
    stepE (K3_18 (mm := mm)) (loopF (E0 mm) 3 0 (callW (E0 mm)) itW c3_19 [(1, .keep), (3, .keep), (4, .keep), (5, .own), (23, .keep), (24, .keep), (25, .keep)] (none, [.v (.c (.ptr 0 0)), .v (.c (.d (.sc (.int .u32 shared3)))), .v (.c (.d (.sc (.int .u32 most4)))), .v (.c (.own rest5_0 (enL enSS rest5_1) 1)), .v (.c (.d (.lst t23_0 (enL enSS t23_1)))), .v (.c (.d (.sc (.int .i64 t24)))), .v (.c (.d (.sc (.int .i64 t25))))], [.cells [.d (.lst h0_0_0 (enL enSS h0_0_1)), .d (.sc (.int .i64 h0_1)), .d (.sc (.int .u32 h0_2)), .d (.sc (.int .u32 h0_3))], .row rest5_1.length (rz rest5_0 2)])) = (s3_18 shared3 most4 rest5_0 rest5_1 t23_0 t23_1 t24 t25 h0_0_0 h0_0_1 h0_1 h0_2 h0_3).map (sm en3_18 e3) := by
  simp -implicitDefEqProofs only [s3_18, loopF_eq, c3_19_e, c3_20_r, (show opsOf c3_20 = _ :: _ from rfl), c3_21_e, (show c3_22 = Code.cond _ c3_23 c3_24 from rfl), setA, setB, za, zb, zc, zd, ze, zf, zg, zh, zi, zj, zk, zl, zm, zn, zo, zp, reduceCtorEq, zE, ↓reduceIte]
  refine brB (fun yc1 => ?_) (fun yc1 => ?_)
  · simp -implicitDefEqProofs only [c3_23_e, c3_25_e, c3_26_e, c3_27_e, c3_28_r, (show opsOf c3_28 = _ :: _ from rfl), Tryd.underlying22, sz29, enSS_a, yc1, setA, setB, za, zb, zc, zd, ze, zf, zg, zh, zi, zj, zk, zl, zm, zn, zo, zp, reduceCtorEq, zE, ↓reduceIte]
    refine brP (fun yc2 => ?_) (fun yc2 => ?_)
    · have yd3 : t25.toNat < t23_1.length := by omega
      simp -implicitDefEqProofs only [(enL_get enSS t23_1 t25.toNat yd3), enSS_e, sz29, ag29, zc29, ao0, c3_29_e, c3_30_r, (show opsOf c3_30 = _ :: _ from rfl), Tryd.underlying29, sz9, ag9, Tryd.underlying9, (show c3_31 = Code.cond _ c3_32 c3_33 from rfl), yc1, yc2, yd3, setA, setB, za, zb, zc, zd, ze, zf, zg, zh, zi, zj, zk, zl, zm, zn, zo, zp, reduceCtorEq, zE, ↓reduceIte]
      refine brB (fun yc4 => ?_) (fun yc4 => ?_)
      · simp -implicitDefEqProofs only [c3_33_e, yc1, yc2, yd3, yc4, setA, setB, za, zb, zc, zd, ze, zf, zg, zh, zi, zj, zk, zl, zm, zn, zo, zp, reduceCtorEq, zE, ↓reduceIte]
        exact j3_34_t shared3 most4 rest5_0 rest5_1 t23_0 t23_1 t24 t25 h0_0_0 h0_0_1 h0_1 h0_2 h0_3 _ _ (by rfl) (by rfl) (by rfl) (by rfl) (by rfl) (by rfl) (by rfl)
      · simp -implicitDefEqProofs only [c3_32_r, (show opsOf c3_32 = _ :: _ from rfl), sz29, ag29, Tryd.underlying22, zc29, hd1, nv2, rw3, ns4, ap22, yc1, yc2, yd3, yc4, setA, setB, za, zb, zc, zd, ze, zf, zg, zh, zi, zj, zk, zl, zm, zn, zo, zp, reduceCtorEq, zE, ↓reduceIte]
        refine brP (fun yc5 => ?_) (fun yc5 => ?_)
        · simp -implicitDefEqProofs only [yc1, yc2, yd3, yc4, yc5, setA, setB, za, zb, zc, zd, ze, zf, zg, zh, zi, zj, zk, zl, zm, zn, zo, zp, reduceCtorEq, zE, ↓reduceIte]
          exact j3_34_t shared3 most4 false (rest5_1 ++ ([((t23_1.getD t25.toNat default).1, (t23_1.getD t25.toNat default).2)] : List (Bs × Bs))) t23_0 t23_1 t24 t25 h0_0_0 h0_0_1 h0_1 h0_2 h0_3 _ _ (by rfl) (by rfl) (by rfl) (by rfl) (by rfl) (by rfl) (by rfl)
        · rw [if_neg yc5]; rfl
    · rw [if_neg yc2]; rfl
  · simp -implicitDefEqProofs only [c3_24_e, K3_18, yc1, setA, setB, za, zb, zc, zd, ze, zf, zg, zh, zi, zj, zk, zl, zm, zn, zo, zp, reduceCtorEq, zE, ↓reduceIte]
    exact mi (j3_35_t shared3 most4 rest5_0 rest5_1 h0_0_0 h0_0_1 h0_1 h0_2 h0_3 _ (by rfl) (by rfl) (by rfl) (by rfl))
def l3_18 (shared3 most4 : Int) (rest5_0 : Bool) (rest5_1 : List (Bs × Bs)) (t23_0 : Bool) (t23_1 : List (Bs × Bs)) (t24 t25 : Int) (h0_0_0 : Bool) (h0_0_1 : List (Bs × Bs)) (h0_1 h0_2 h0_3 : Int) : Option R3 := iter (fun x : (Int × Int × Bool × List (Bs × Bs) × Bool × List (Bs × Bs) × Int × Int × Bool × List (Bs × Bs) × Int × Int × Int) => s3_18 x.1 x.2.1 x.2.2.1 x.2.2.2.1 x.2.2.2.2.1 x.2.2.2.2.2.1 x.2.2.2.2.2.2.1 x.2.2.2.2.2.2.2.1 x.2.2.2.2.2.2.2.2.1 x.2.2.2.2.2.2.2.2.2.1 x.2.2.2.2.2.2.2.2.2.2.1 x.2.2.2.2.2.2.2.2.2.2.2.1 x.2.2.2.2.2.2.2.2.2.2.2.2) (shared3, most4, rest5_0, rest5_1, t23_0, t23_1, t24, t25, h0_0_0, h0_0_1, h0_1, h0_2, h0_3)
theorem l3_18_t (shared3 most4 : Int) (rest5_0 : Bool) (rest5_1 : List (Bs × Bs)) (t23_0 : Bool) (t23_1 : List (Bs × Bs)) (t24 t25 : Int) (h0_0_0 : Bool) (h0_0_1 : List (Bs × Bs)) (h0_1 h0_2 h0_3 : Int) : bodyD (E0 mm) [.tmp 2] 0 false (seqD (E0 mm) 3 0 (callW (E0 mm)) itW c3_35 (blockD 0 (itW (loopF (E0 mm) 3 0 (callW (E0 mm)) itW c3_19 [(1, .keep), (3, .keep), (4, .keep), (5, .own), (23, .keep), (24, .keep), (25, .keep)]) (none, [.v (.c (.ptr 0 0)), .v (.c (.d (.sc (.int .u32 shared3)))), .v (.c (.d (.sc (.int .u32 most4)))), .v (.c (.own rest5_0 (enL enSS rest5_1) 1)), .v (.c (.d (.lst t23_0 (enL enSS t23_1)))), .v (.c (.d (.sc (.int .i64 t24)))), .v (.c (.d (.sc (.int .i64 t25))))], [.cells [.d (.lst h0_0_0 (enL enSS h0_0_1)), .d (.sc (.int .i64 h0_1)), .d (.sc (.int .u32 h0_2)), .d (.sc (.int .u32 h0_3))], .row rest5_1.length (rz rest5_0 2)])))) = (l3_18 shared3 most4 rest5_0 rest5_1 t23_0 t23_1 t24 t25 h0_0_0 h0_0_1 h0_1 h0_2 h0_3).map e3 :=
  it_sim (K := (K3_18 (mm := mm))) rfl (enc := en3_18) (fun x => s3_18_t x.1 x.2.1 x.2.2.1 x.2.2.2.1 x.2.2.2.2.1 x.2.2.2.2.2.1 x.2.2.2.2.2.2.1 x.2.2.2.2.2.2.2.1 x.2.2.2.2.2.2.2.2.1 x.2.2.2.2.2.2.2.2.2.1 x.2.2.2.2.2.2.2.2.2.2.1 x.2.2.2.2.2.2.2.2.2.2.2.1 x.2.2.2.2.2.2.2.2.2.2.2.2) (shared3, most4, rest5_0, rest5_1, t23_0, t23_1, t24, t25, h0_0_0, h0_0_1, h0_1, h0_2, h0_3)
def m3 (s_0 : Bool) (s_1 : List (Bs × Bs)) (s_2 s_3 s_4 : Int) : Option R3 :=
  l3_18 (ib_shr .u32 s_3 1) (ib_shr .u32 s_4 1) true ([] : List (Bs × Bs)) s_0 s_1 (s_1.length : Int) (0 : Int) s_0 s_1 s_2 s_3 s_4
theorem f3_t (s_0 : Bool) (s_1 : List (Bs × Bs)) (s_2 s_3 s_4 : Int) :
    callW (E0 mm) 3 [.agg [.d (.lst s_0 (enL enSS s_1)), .d (.sc (.int .i64 s_2)), .d (.sc (.int .u32 s_3)), .d (.sc (.int .u32 s_4))]] [] = (m3 s_0 s_1 s_2 s_3 s_4).map e3 := by
  rw [callW_run (body := c3_0) (res := [.tmp 2]) Tryd.func3 rfl rfl (by kernel_rfl)]
  simp -implicitDefEqProofs only [m3, slots1, c3_0_e, c3_1_r, (show opsOf c3_1 = _ :: _ from rfl), c3_2_e, c3_3_e, c3_4_r, (show opsOf c3_4 = _ :: _ from rfl), ent6, prm6, f6_t, (show c3_5 = Code.cond _ c3_6 c3_9 from rfl), c3_9_e, c3_10_e, c3_11_r, (show opsOf c3_11 = _ :: _ from rfl), Tryd.underlying25, sz23, ag23, ev_shr, not_false_eq_true, c3_12_e, c3_13_r, (show opsOf c3_13 = _ :: _ from rfl), c3_14_e, c3_15_e, c3_16_r, (show opsOf c3_16 = _ :: _ from rfl), sz22, ag22, Tryd.underlying22, c3_17_e, c3_18_l, setA, setB, za, zb, zc, zd, ze, zf, zg, zh, zi, zj, zk, zl, zm, zn, zo, zp, reduceCtorEq, zE, ↓reduceIte]
  exact l3_18_t (ib_shr .u32 s_3 1) (ib_shr .u32 s_4 1) true ([] : List (Bs × Bs)) s_0 s_1 (s_1.length : Int) (0 : Int) s_0 s_1 s_2 s_3 s_4
end
end Go.Proofs.YteajgnaeklbpeaaDoor
