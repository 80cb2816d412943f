/- The Go functions as plain functions, and that the evaluator computes them. -/
import Derived.Test.YtoohbnmhjfgclaaGreatDoorHd
set_option linter.all false
set_option maxRecDepth 100000
namespace Go.Proofs.YtoohbnmhjfgclaaGreatDoor
open Go Go.Ab
open Nat renaming reduceEqDiff → za, reduceAdd → zb, reduceLeDiff → zc, reduceLT → zd, reduceMul → ze, reduceBEq → zf, reduceSub → zg, reducePow → zh
open Int renaming reduceEq → zi, reduceLE → zj, reduceLT → zk, reduceToNat → zl, reduceNegSucc → zm, reduceAdd → zn, reduceBEq → zo
open String renaming reduceBEq → zp
set_option maxHeartbeats 4000000
noncomputable section
variable {mm : Int}
set_option maxRecDepth 100000 in
theorem f15_t : callW (E0 mm) 15 [] [] = some (.v (.c (.d (.sc (.bool true)))), []) := callN_W (k := 400) (by kernel_rfl)
noncomputable def c42_0 : Code := bodyOf Tryz.f42
def c42_1 := cA c42_0
def c42_2 := cB c42_0
def c42_3 := cA c42_2
def c42_4 := cA c42_3
def c42_5 := cB c42_3
def c42_6 := cA c42_5
def c42_7 := cA c42_6
def c42_8 := cB c42_6
def c42_9 := cB c42_5
def c42_10 := cB c42_2
def c42_11 := cA c42_10
def c42_12 := cA c42_11
def c42_13 := cB c42_11
def c42_14 := cA c42_13
def c42_15 := cA c42_14
def c42_16 := cA c42_15
def c42_17 := cB c42_15
def c42_18 := cA c42_17
def c42_19 := cA c42_18
def c42_20 := cB c42_18
def c42_21 := cB c42_17
def c42_22 := cA c42_21
def c42_23 := cA c42_22
def c42_24 := cA c42_23
def c42_25 := cB c42_23
def c42_26 := cA c42_25
def c42_27 := cB c42_25
def c42_28 := cA c42_27
def c42_29 := cA c42_28
def c42_30 := cB c42_28
def c42_31 := cB c42_27
def c42_32 := cB c42_21
def c42_33 := cB c42_10
def c42_34 := cA c42_33
def c42_35 := cB c42_33
theorem c42_0_e : c42_0 = .seq c42_1 c42_2 := rfl
theorem c42_1_r : RG (E0 mm) 42 c42_1 := rgN rfl
theorem c42_2_e : c42_2 = .seq c42_3 c42_10 := rfl
theorem c42_3_e : c42_3 = .seq c42_4 c42_5 := rfl
theorem c42_4_r : RG (E0 mm) 42 c42_4 := rgN rfl
theorem c42_6_e : c42_6 = .seq c42_7 c42_8 := rfl
theorem c42_7_r : RG (E0 mm) 42 c42_7 := rgN rfl
theorem c42_8_e : c42_8 = .ret := rfl
theorem c42_9_e : c42_9 = .skip := rfl
theorem c42_10_e : c42_10 = .seq c42_11 c42_33 := rfl
theorem c42_11_e : c42_11 = .seq c42_12 c42_13 := rfl
theorem c42_12_r : RG (E0 mm) 42 c42_12 := rgN rfl
theorem c42_13_e : c42_13 = .block 0 c42_14 := rfl
theorem c42_14_l (m : Nat) (st : St) : den (E0 mm) 42 m (callW (E0 mm)) itW c42_14 none st = loopD itW (loopF (E0 mm) 42 m (callW (E0 mm)) itW c42_15 [(0, .keep), (1, .keep), (12, .keep), (13, .keep)]) (canon m [(0, .keep), (1, .keep), (12, .keep), (13, .keep)] st) := rfl
theorem c42_15_e : c42_15 = .seq c42_16 c42_17 := rfl
theorem c42_16_r : RG (E0 mm) 42 c42_16 := rgN rfl
theorem c42_17_e : c42_17 = .seq c42_18 c42_21 := rfl
theorem c42_19_e : c42_19 = .skip := rfl
theorem c42_20_e : c42_20 = .exit 0 := rfl
theorem c42_21_e : c42_21 = .seq c42_22 c42_32 := rfl
theorem c42_22_e : c42_22 = .block 1 c42_23 := rfl
theorem c42_23_e : c42_23 = .seq c42_24 c42_25 := rfl
theorem c42_24_r : RG (E0 mm) 42 c42_24 := rgN rfl
theorem c42_25_e : c42_25 = .seq c42_26 c42_27 := rfl
theorem c42_26_r : RG (E0 mm) 42 c42_26 := rgD (by kernel_rfl)
theorem c42_28_e : c42_28 = .seq c42_29 c42_30 := rfl
theorem c42_29_r : RG (E0 mm) 42 c42_29 := rgN rfl
theorem c42_30_e : c42_30 = .ret := rfl
theorem c42_31_e : c42_31 = .skip := rfl
theorem c42_32_r : RG (E0 mm) 42 c42_32 := rgN rfl
theorem c42_33_e : c42_33 = .seq c42_34 c42_35 := rfl
theorem c42_34_r : RG (E0 mm) 42 c42_34 := rgN rfl
theorem c42_35_e : c42_35 = .ret := rfl
abbrev R42 := (Bool)
def e42 : R42 → AV × Heap := fun x => (.v (.c (.d (.sc (.bool x)))), [])
def K42_14 : Option (Ex × St) → Option (AV × Heap) := fun r => bodyD (E0 mm) [.tmp 4] 0 false (seqD (E0 mm) 42 0 (callW (E0 mm)) itW c42_33 (blockD 0 (r)))
def en42_14 : (Bool × List (Bs × Bs) × Bool × List (Bs × Bs) × Int × Int) → X := fun x => (none, [.v (.c (.d (.lst x.1 (enL enSS x.2.1)))), .v (.c (.d (.lst x.2.2.1 (enL enSS x.2.2.2.1)))), .v (.c (.d (.sc (.int .i64 x.2.2.2.2.1)))), .v (.c (.d (.sc (.int .i64 x.2.2.2.2.2))))], [])
def j42_33  : Option R42 :=
  some true
theorem j42_33_t   (sl : Nat → AV)  :
    bodyD (E0 mm) [.tmp 4] 0 false (den (E0 mm) 42 0 (callW (E0 mm)) itW c42_33 none ⟨sl, []⟩) = (j42_33).map e42 := by
  simp -implicitDefEqProofs only [j42_33, c42_33_e, c42_34_r, (show opsOf c42_34 = _ :: _ from rfl), c42_35_e, setA, setB, za, zb, zc, zd, ze, zf, zg, zh, zi, zj, zk, zl, zm, zn, zo, zp, reduceCtorEq, zE, ↓reduceIte]
  all_goals rfl
def s42_14 (s10_0 : Bool) (s10_1 : List (Bs × Bs)) (s21_0 : Bool) (s21_1 : List (Bs × Bs)) (t12 t13 : Int) : Option ((Bool × List (Bs × Bs) × Bool × List (Bs × Bs) × Int × Int) ⊕ R42) :=
  if (decide (t13 < t12)) = true then
    if 0 ≤ t13 ∧ t13 < (s10_1.length : Int) then
      if 0 ≤ t13 ∧ t13 < (s21_1.length : Int) then
        if (((s10_1.getD t13.toNat default).1 == (s21_1.getD t13.toNat default).1) && ((s10_1.getD t13.toNat default).2 == (s21_1.getD t13.toNat default).2)) = true then
          some (.inl (s10_0, s10_1, s21_0, s21_1, t12, (w64 (t13 + 1))))
        else
          some (.inr false)
      else none
    else none
  else
    (j42_33).map .inr
theorem s42_14_t (s10_0 : Bool) (s10_1 : List (Bs × Bs)) (s21_0 : Bool) (s21_1 : List (Bs × Bs)) (t12 t13 : Int) :
    stepE (K42_14 (mm := mm)) (loopF (E0 mm) 42 0 (callW (E0 mm)) itW c42_15 [(0, .keep), (1, .keep), (12, .keep), (13, .keep)] (none, [.v (.c (.d (.lst s10_0 (enL enSS s10_1)))), .v (.c (.d (.lst s21_0 (enL enSS s21_1)))), .v (.c (.d (.sc (.int .i64 t12)))), .v (.c (.d (.sc (.int .i64 t13))))], [])) = (s42_14 s10_0 s10_1 s21_0 s21_1 t12 t13).map (sm en42_14 e42) := by
  simp -implicitDefEqProofs only [s42_14, loopF_eq, c42_15_e, c42_16_r, (show opsOf c42_16 = _ :: _ from rfl), c42_17_e, (show c42_18 = Code.cond _ c42_19 c42_20 from rfl), setA, setB, za, zb, zc, zd, ze, zf, zg, zh, zi, zj, zk, zl, zm, zn, zo, zp, reduceCtorEq, zE, ↓reduceIte]
  refine brB (fun yc2 => ?_) (fun yc2 => ?_)
  · simp -implicitDefEqProofs only [c42_19_e, c42_21_e, c42_22_e, c42_23_e, c42_24_r, (show opsOf c42_24 = _ :: _ from rfl), c42_25_e, c42_26_r, (show opsOf c42_26 = _ :: _ from rfl), Tryz.underlying23, sz58, enSS_a, yc2, setA, setB, za, zb, zc, zd, ze, zf, zg, zh, zi, zj, zk, zl, zm, zn, zo, zp, reduceCtorEq, zE, ↓reduceIte]
    refine brP (fun yc3 => ?_) (fun yc3 => ?_)
    · have yd4 : t13.toNat < s10_1.length := by omega
      simp -implicitDefEqProofs only [(enL_get enSS s10_1 t13.toNat yd4), enSS_e, sz58, ag58, Tryz.underlying23, enSS_a, yc2, yc3, yd4, setA, setB, za, zb, zc, zd, ze, zf, zg, zh, zi, zj, zk, zl, zm, zn, zo, zp, reduceCtorEq, zE, ↓reduceIte]
      refine brP (fun yc5 => ?_) (fun yc5 => ?_)
      · have yd6 : t13.toNat < s21_1.length := by omega
        simp -implicitDefEqProofs only [(enL_get enSS s21_1 t13.toNat yd6), enSS_e, sz58, ag58, eqs58n, toV_agg, (show c42_27 = Code.cond _ c42_28 c42_31 from rfl), yc2, yc3, yd4, yc5, yd6, setA, setB, za, zb, zc, zd, ze, zf, zg, zh, zi, zj, zk, zl, zm, zn, zo, zp, reduceCtorEq, zE, ↓reduceIte]
        refine brB (fun yc7 => ?_) (fun yc7 => ?_)
        · simp -implicitDefEqProofs only [c42_31_e, c42_32_r, (show opsOf c42_32 = _ :: _ from rfl), yc2, yc3, yd4, yc5, yd6, yc7, setA, setB, za, zb, zc, zd, ze, zf, zg, zh, zi, zj, zk, zl, zm, zn, zo, zp, reduceCtorEq, zE, ↓reduceIte]
          all_goals rfl
        · simp -implicitDefEqProofs only [c42_28_e, c42_29_r, (show opsOf c42_29 = _ :: _ from rfl), c42_30_e, K42_14, yc2, yc3, yd4, yc5, yd6, yc7, setA, setB, za, zb, zc, zd, ze, zf, zg, zh, zi, zj, zk, zl, zm, zn, zo, zp, reduceCtorEq, zE, ↓reduceIte]
          all_goals rfl
      · rw [if_neg yc5]; rfl
    · rw [if_neg yc3]; rfl
  · simp -implicitDefEqProofs only [c42_20_e, K42_14, yc2, setA, setB, za, zb, zc, zd, ze, zf, zg, zh, zi, zj, zk, zl, zm, zn, zo, zp, reduceCtorEq, zE, ↓reduceIte]
    exact mi (j42_33_t _)
def l42_14 (s10_0 : Bool) (s10_1 : List (Bs × Bs)) (s21_0 : Bool) (s21_1 : List (Bs × Bs)) (t12 t13 : Int) : Option R42 := iter (fun x : (Bool × List (Bs × Bs) × Bool × List (Bs × Bs) × Int × Int) => s42_14 x.1 x.2.1 x.2.2.1 x.2.2.2.1 x.2.2.2.2.1 x.2.2.2.2.2) (s10_0, s10_1, s21_0, s21_1, t12, t13)
theorem l42_14_t (s10_0 : Bool) (s10_1 : List (Bs × Bs)) (s21_0 : Bool) (s21_1 : List (Bs × Bs)) (t12 t13 : Int) : bodyD (E0 mm) [.tmp 4] 0 false (seqD (E0 mm) 42 0 (callW (E0 mm)) itW c42_33 (blockD 0 (itW (loopF (E0 mm) 42 0 (callW (E0 mm)) itW c42_15 [(0, .keep), (1, .keep), (12, .keep), (13, .keep)]) (none, [.v (.c (.d (.lst s10_0 (enL enSS s10_1)))), .v (.c (.d (.lst s21_0 (enL enSS s21_1)))), .v (.c (.d (.sc (.int .i64 t12)))), .v (.c (.d (.sc (.int .i64 t13))))], [])))) = (l42_14 s10_0 s10_1 s21_0 s21_1 t12 t13).map e42 :=
  it_sim (K := (K42_14 (mm := mm))) rfl (enc := en42_14) (fun x => s42_14_t x.1 x.2.1 x.2.2.1 x.2.2.2.1 x.2.2.2.2.1 x.2.2.2.2.2) (s10_0, s10_1, s21_0, s21_1, t12, t13)
def m42 (s1_0 : Bool) (s1_1 : List (Bs × Bs)) (s2_0 : Bool) (s2_1 : List (Bs × Bs)) : Option R42 :=
  if ((s1_1.length : Int) == (s2_1.length : Int)) = true then
    l42_14 s1_0 s1_1 s2_0 s2_1 (s1_1.length : Int) (0 : Int)
  else
    some false
theorem f42_t (s1_0 : Bool) (s1_1 : List (Bs × Bs)) (s2_0 : Bool) (s2_1 : List (Bs × Bs)) :
    callW (E0 mm) 42 [.c (.d (.lst s1_0 (enL enSS s1_1))), .c (.d (.lst s2_0 (enL enSS s2_1)))] [] = (m42 s1_0 s1_1 s2_0 s2_1).map e42 := by
  rw [callW_run (body := c42_0) (res := [.tmp 4]) Tryz.func42 rfl rfl (by kernel_rfl)]
  simp -implicitDefEqProofs only [m42, slots2, c42_0_e, c42_1_r, (show opsOf c42_1 = _ :: _ from rfl), c42_2_e, c42_3_e, c42_4_r, (show opsOf c42_4 = _ :: _ from rfl), Tryz.underlying23, (show c42_5 = Code.cond _ c42_6 c42_9 from rfl), setA, setB, za, zb, zc, zd, ze, zf, zg, zh, zi, zj, zk, zl, zm, zn, zo, zp, reduceCtorEq, zE, ↓reduceIte]
  refine brB (fun yc1 => ?_) (fun yc1 => ?_)
  · simp -implicitDefEqProofs only [c42_9_e, c42_10_e, c42_11_e, c42_12_r, (show opsOf c42_12 = _ :: _ from rfl), Tryz.underlying23, c42_13_e, c42_14_l, yc1, setA, setB, za, zb, zc, zd, ze, zf, zg, zh, zi, zj, zk, zl, zm, zn, zo, zp, reduceCtorEq, zE, ↓reduceIte]
    exact l42_14_t s1_0 s1_1 s2_0 s2_1 (s1_1.length : Int) (0 : Int)
  · simp -implicitDefEqProofs only [c42_6_e, c42_7_r, (show opsOf c42_7 = _ :: _ from rfl), c42_8_e, yc1, setA, setB, za, zb, zc, zd, ze, zf, zg, zh, zi, zj, zk, zl, zm, zn, zo, zp, reduceCtorEq, zE, ↓reduceIte]
    all_goals rfl
noncomputable def c16_0 : Code := bodyOf Tryz.f16
def c16_1 := cA c16_0
def c16_2 := cB c16_0
def c16_3 := cA c16_2
def c16_4 := cB c16_2
theorem c16_0_e : c16_0 = .seq c16_1 c16_2 := rfl
theorem c16_1_r : RG (E0 mm) 16 c16_1 := rgN rfl
theorem c16_2_e : c16_2 = .seq c16_3 c16_4 := rfl
theorem c16_3_r : RG (E0 mm) 16 c16_3 := rgN rfl
theorem c16_4_e : c16_4 = .ret := rfl
abbrev R16 := (Bool)
def e16 : R16 → AV × Heap := fun x => (.v (.c (.d (.sc (.bool x)))), [])
def m16 (a_0 : Bool) (a_1 : List UInt8) (b_0 : Bool) (b_1 : List UInt8) : Option R16 :=
  some (a_1 == b_1)
theorem f16_t (a_0 : Bool) (a_1 : List UInt8) (b_0 : Bool) (b_1 : List UInt8) :
    callW (E0 mm) 16 [.c (.d (.lst a_0 (enL enB a_1))), .c (.d (.lst b_0 (enL enB b_1)))] [] = (m16 a_0 a_1 b_0 b_1).map e16 := by
  rw [callW_run (body := c16_0) (res := [.tmp 4]) Tryz.func16 rfl rfl (by kernel_rfl)]
  simp -implicitDefEqProofs only [m16, slots2, c16_0_e, c16_1_r, (show opsOf c16_1 = _ :: _ from rfl), c16_2_e, c16_3_r, (show opsOf c16_3 = _ :: _ from rfl), Tryz.underlying22, Tryz.underlying9, Tryz.underlying5, c16_4_e, setA, setB, za, zb, zc, zd, ze, zf, zg, zh, zi, zj, zk, zl, zm, zn, zo, zp, reduceCtorEq, zE, ↓reduceIte]
  all_goals rfl
noncomputable def c18_0 : Code := bodyOf Tryz.f18
def c18_1 := cA c18_0
def c18_2 := cB c18_0
def c18_3 := cA c18_2
def c18_4 := cB c18_2
theorem c18_0_e : c18_0 = .seq c18_1 c18_2 := rfl
theorem c18_1_r : RG (E0 mm) 18 c18_1 := rgN rfl
theorem c18_2_e : c18_2 = .seq c18_3 c18_4 := rfl
theorem c18_3_r : RG (E0 mm) 18 c18_3 := rgN rfl
theorem c18_4_e : c18_4 = .ret := rfl
abbrev R18 := (Bool)
def e18 : R18 → AV × Heap := fun x => (.v (.c (.d (.sc (.bool x)))), [])
def m18 (a_0 a_1 : Bs) (a_2 : Int) (a_3 : Bool) (a_4 : List (Bs × Bs)) (a_5 : Bool) (a_6 : List UInt8) (b_0 b_1 : Bs) (b_2 : Int) (b_3 : Bool) (b_4 : List (Bs × Bs)) (b_5 : Bool) (b_6 : List UInt8) : Option R18 :=
  if (a_0 == b_0) = true then
    if (a_1 == b_1) = true then
      if (a_2 == b_2) = true then
        (m42 a_3 a_4 b_3 b_4).bind fun yr5 =>
          if yr5 = true then
            (m16 a_5 a_6 b_5 b_6).bind fun yr8 =>
              some yr8
          else
            some false
      else
        some false
    else
      some false
  else
    some false
theorem f18_t (a_0 a_1 : Bs) (a_2 : Int) (a_3 : Bool) (a_4 : List (Bs × Bs)) (a_5 : Bool) (a_6 : List UInt8) (b_0 b_1 : Bs) (b_2 : Int) (b_3 : Bool) (b_4 : List (Bs × Bs)) (b_5 : Bool) (b_6 : List UInt8) :
    callW (E0 mm) 18 [.agg [.d (.sc (.string (S a_0))), .d (.sc (.string (S a_1))), .d (.sc (.int .i64 a_2)), .d (.lst a_3 (enL enSS a_4)), .d (.lst a_5 (enL enB a_6))], .agg [.d (.sc (.string (S b_0))), .d (.sc (.string (S b_1))), .d (.sc (.int .i64 b_2)), .d (.lst b_3 (enL enSS b_4)), .d (.lst b_5 (enL enB b_6))]] [] = (m18 a_0 a_1 a_2 a_3 a_4 a_5 a_6 b_0 b_1 b_2 b_3 b_4 b_5 b_6).map e18 := by
  rw [callW_run (body := c18_0) (res := [.tmp 4]) Tryz.func18 rfl rfl (by kernel_rfl)]
  simp -implicitDefEqProofs only [m18, slots2, c18_0_e, c18_1_r, (show opsOf c18_1 = _ :: _ from rfl), c18_2_e, c18_3_r, (show opsOf c18_3 = _ :: _ from rfl), Tryz.underlying25, sz9, ag9, setA, setB, za, zb, zc, zd, ze, zf, zg, zh, zi, zj, zk, zl, zm, zn, zo, zp, reduceCtorEq, zE, ↓reduceIte]
  refine brB (fun yc1 => ?_) (fun yc1 => ?_)
  · simp -implicitDefEqProofs only [Tryz.underlying25, sz9, ag9, yc1, setA, setB, za, zb, zc, zd, ze, zf, zg, zh, zi, zj, zk, zl, zm, zn, zo, zp, reduceCtorEq, zE, ↓reduceIte]
    refine brB (fun yc2 => ?_) (fun yc2 => ?_)
    · simp -implicitDefEqProofs only [Tryz.underlying25, sz3, ag3, yc1, yc2, setA, setB, za, zb, zc, zd, ze, zf, zg, zh, zi, zj, zk, zl, zm, zn, zo, zp, reduceCtorEq, zE, ↓reduceIte]
      refine brB (fun yc3 => ?_) (fun yc3 => ?_)
      · simp -implicitDefEqProofs only [Tryz.underlying25, sz23, ag23, ent42, prm42, f42_t, yc1, yc2, yc3, setA, setB, za, zb, zc, zd, ze, zf, zg, zh, zi, zj, zk, zl, zm, zn, zo, zp, reduceCtorEq, zE, ↓reduceIte]
        refine brM (fun yc4 => ?_) (fun yr5 yc4 => ?_)
        · rw [yc4]; rfl
        · simp -implicitDefEqProofs only [e42, yc1, yc2, yc3, yc4, setA, setB, za, zb, zc, zd, ze, zf, zg, zh, zi, zj, zk, zl, zm, zn, zo, zp, reduceCtorEq, zE, ↓reduceIte]
          refine brB (fun yc6 => ?_) (fun yc6 => ?_)
          · simp -implicitDefEqProofs only [Tryz.underlying25, sz22, ag22, ent16, prm16, f16_t, yc1, yc2, yc3, yc4, yc6, setA, setB, za, zb, zc, zd, ze, zf, zg, zh, zi, zj, zk, zl, zm, zn, zo, zp, reduceCtorEq, zE, ↓reduceIte]
            refine brM (fun yc7 => ?_) (fun yr8 yc7 => ?_)
            · rw [yc7]; rfl
            · simp -implicitDefEqProofs only [e16, c18_4_e, yc1, yc2, yc3, yc4, yc6, yc7, setA, setB, za, zb, zc, zd, ze, zf, zg, zh, zi, zj, zk, zl, zm, zn, zo, zp, reduceCtorEq, zE, ↓reduceIte]
              all_goals rfl
          · simp -implicitDefEqProofs only [c18_4_e, yc1, yc2, yc3, yc4, yc6, setA, setB, za, zb, zc, zd, ze, zf, zg, zh, zi, zj, zk, zl, zm, zn, zo, zp, reduceCtorEq, zE, ↓reduceIte]
            all_goals rfl
      · simp -implicitDefEqProofs only [c18_4_e, yc1, yc2, yc3, setA, setB, za, zb, zc, zd, ze, zf, zg, zh, zi, zj, zk, zl, zm, zn, zo, zp, reduceCtorEq, zE, ↓reduceIte]
        all_goals rfl
    · simp -implicitDefEqProofs only [c18_4_e, yc1, yc2, setA, setB, za, zb, zc, zd, ze, zf, zg, zh, zi, zj, zk, zl, zm, zn, zo, zp, reduceCtorEq, zE, ↓reduceIte]
      all_goals rfl
  · simp -implicitDefEqProofs only [c18_4_e, yc1, setA, setB, za, zb, zc, zd, ze, zf, zg, zh, zi, zj, zk, zl, zm, zn, zo, zp, reduceCtorEq, zE, ↓reduceIte]
    all_goals rfl
noncomputable def c39_0 : Code := bodyOf Tryz.f39
def c39_1 := cA c39_0
def c39_2 := cB c39_0
def c39_3 := cA c39_2
def c39_4 := cA c39_3
def c39_5 := cB c39_3
def c39_6 := cA c39_5
def c39_7 := cA c39_6
def c39_8 := cB c39_6
def c39_9 := cB c39_5
def c39_10 := cB c39_2
def c39_11 := cA c39_10
def c39_12 := cA c39_11
def c39_13 := cB c39_11
def c39_14 := cA c39_13
def c39_15 := cA c39_14
def c39_16 := cA c39_15
def c39_17 := cA c39_16
def c39_18 := cB c39_16
def c39_19 := cA c39_18
def c39_20 := cB c39_18
def c39_21 := cB c39_15
def c39_22 := cA c39_21
def c39_23 := cA c39_22
def c39_24 := cA c39_23
def c39_25 := cB c39_23
def c39_26 := cA c39_25
def c39_27 := cA c39_26
def c39_28 := cB c39_26
def c39_29 := cB c39_25
def c39_30 := cB c39_21
def c39_31 := cB c39_10
def c39_32 := cA c39_31
def c39_33 := cB c39_31
theorem c39_0_e : c39_0 = .seq c39_1 c39_2 := rfl
theorem c39_1_r : RG (E0 mm) 39 c39_1 := rgN rfl
theorem c39_2_e : c39_2 = .seq c39_3 c39_10 := rfl
theorem c39_3_e : c39_3 = .seq c39_4 c39_5 := rfl
theorem c39_4_r : RG (E0 mm) 39 c39_4 := rgN rfl
theorem c39_6_e : c39_6 = .seq c39_7 c39_8 := rfl
theorem c39_7_r : RG (E0 mm) 39 c39_7 := rgN rfl
theorem c39_8_e : c39_8 = .ret := rfl
theorem c39_9_e : c39_9 = .skip := rfl
theorem c39_10_e : c39_10 = .seq c39_11 c39_31 := rfl
theorem c39_11_e : c39_11 = .seq c39_12 c39_13 := rfl
theorem c39_12_r : RG (E0 mm) 39 c39_12 := rgN rfl
theorem c39_13_e : c39_13 = .block 0 c39_14 := rfl
theorem c39_14_l (m : Nat) (st : St) : den (E0 mm) 39 m (callW (E0 mm)) itW c39_14 none st = loopD itW (loopF (E0 mm) 39 m (callW (E0 mm)) itW c39_15 [(0, .keep), (1, .keep), (5, .keep)]) (canon m [(0, .keep), (1, .keep), (5, .keep)] st) := rfl
theorem c39_15_e : c39_15 = .seq c39_16 c39_21 := rfl
theorem c39_16_e : c39_16 = .seq c39_17 c39_18 := rfl
theorem c39_17_r : RG (E0 mm) 39 c39_17 := rgN rfl
theorem c39_19_e : c39_19 = .skip := rfl
theorem c39_20_e : c39_20 = .exit 0 := rfl
theorem c39_21_e : c39_21 = .seq c39_22 c39_30 := rfl
theorem c39_22_e : c39_22 = .block 1 c39_23 := rfl
theorem c39_23_e : c39_23 = .seq c39_24 c39_25 := rfl
theorem c39_24_r : RG (E0 mm) 39 c39_24 := rgD (by kernel_rfl)
theorem c39_26_e : c39_26 = .seq c39_27 c39_28 := rfl
theorem c39_27_r : RG (E0 mm) 39 c39_27 := rgN rfl
theorem c39_28_e : c39_28 = .ret := rfl
theorem c39_29_e : c39_29 = .skip := rfl
theorem c39_30_r : RG (E0 mm) 39 c39_30 := rgN rfl
theorem c39_31_e : c39_31 = .seq c39_32 c39_33 := rfl
theorem c39_32_r : RG (E0 mm) 39 c39_32 := rgN rfl
theorem c39_33_e : c39_33 = .ret := rfl
abbrev R39 := (Bool)
def e39 : R39 → AV × Heap := fun x => (.v (.c (.d (.sc (.bool x)))), [])
def K39_14 : Option (Ex × St) → Option (AV × Heap) := fun r => bodyD (E0 mm) [.tmp 4] 0 false (seqD (E0 mm) 39 0 (callW (E0 mm)) itW c39_31 (blockD 0 (r)))
def en39_14 : (Bool × List (Bs × Bs) × Bool × List (Bs × Bs) × Int) → X := fun x => (none, [.v (.c (.d (.lst x.1 (enL enSS x.2.1)))), .v (.c (.d (.lst x.2.2.1 (enL enSS x.2.2.2.1)))), .v (.c (.d (.sc (.int .i64 x.2.2.2.2))))], [])
def j39_31  : Option R39 :=
  some true
theorem j39_31_t   (sl : Nat → AV)  :
    bodyD (E0 mm) [.tmp 4] 0 false (den (E0 mm) 39 0 (callW (E0 mm)) itW c39_31 none ⟨sl, []⟩) = (j39_31).map e39 := by
  simp -implicitDefEqProofs only [j39_31, c39_31_e, c39_32_r, (show opsOf c39_32 = _ :: _ from rfl), c39_33_e, setA, setB, za, zb, zc, zd, ze, zf, zg, zh, zi, zj, zk, zl, zm, zn, zo, zp, reduceCtorEq, zE, ↓reduceIte]
  all_goals rfl
def s39_14 (a0_0 : Bool) (a0_1 : List (Bs × Bs)) (b1_0 : Bool) (b1_1 : List (Bs × Bs)) (i5 : Int) : Option ((Bool × List (Bs × Bs) × Bool × List (Bs × Bs) × Int) ⊕ R39) :=
  if (decide (i5 < (a0_1.length : Int))) = true then
    if 0 ≤ i5 ∧ i5 < (a0_1.length : Int) then
      if 0 ≤ i5 ∧ i5 < (b1_1.length : Int) then
        if (((a0_1.getD i5.toNat default).1 == (b1_1.getD i5.toNat default).1) && ((a0_1.getD i5.toNat default).2 == (b1_1.getD i5.toNat default).2)) = true then
          some (.inl (a0_0, a0_1, b1_0, b1_1, (w64 (i5 + 1))))
        else
          some (.inr false)
      else none
    else none
  else
    (j39_31).map .inr
theorem s39_14_t (a0_0 : Bool) (a0_1 : List (Bs × Bs)) (b1_0 : Bool) (b1_1 : List (Bs × Bs)) (i5 : Int) :
    stepE (K39_14 (mm := mm)) (loopF (E0 mm) 39 0 (callW (E0 mm)) itW c39_15 [(0, .keep), (1, .keep), (5, .keep)] (none, [.v (.c (.d (.lst a0_0 (enL enSS a0_1)))), .v (.c (.d (.lst b1_0 (enL enSS b1_1)))), .v (.c (.d (.sc (.int .i64 i5))))], [])) = (s39_14 a0_0 a0_1 b1_0 b1_1 i5).map (sm en39_14 e39) := by
  simp -implicitDefEqProofs only [s39_14, loopF_eq, c39_15_e, c39_16_e, c39_17_r, (show opsOf c39_17 = _ :: _ from rfl), Tryz.underlying23, (show c39_18 = Code.cond _ c39_19 c39_20 from rfl), setA, setB, za, zb, zc, zd, ze, zf, zg, zh, zi, zj, zk, zl, zm, zn, zo, zp, reduceCtorEq, zE, ↓reduceIte]
  refine brB (fun yc2 => ?_) (fun yc2 => ?_)
  · simp -implicitDefEqProofs only [c39_19_e, c39_21_e, c39_22_e, c39_23_e, c39_24_r, (show opsOf c39_24 = _ :: _ from rfl), Tryz.underlying23, sz58, enSS_a, yc2, setA, setB, za, zb, zc, zd, ze, zf, zg, zh, zi, zj, zk, zl, zm, zn, zo, zp, reduceCtorEq, zE, ↓reduceIte]
    refine brP (fun yc3 => ?_) (fun yc3 => ?_)
    · have yd4 : i5.toNat < a0_1.length := by omega
      simp -implicitDefEqProofs only [(enL_get enSS a0_1 i5.toNat yd4), enSS_e, sz58, ag58, Tryz.underlying23, enSS_a, yc2, yc3, yd4, setA, setB, za, zb, zc, zd, ze, zf, zg, zh, zi, zj, zk, zl, zm, zn, zo, zp, reduceCtorEq, zE, ↓reduceIte]
      refine brP (fun yc5 => ?_) (fun yc5 => ?_)
      · have yd6 : i5.toNat < b1_1.length := by omega
        simp -implicitDefEqProofs only [(enL_get enSS b1_1 i5.toNat yd6), enSS_e, sz58, ag58, eqs58n, toV_agg, (show c39_25 = Code.cond _ c39_26 c39_29 from rfl), yc2, yc3, yd4, yc5, yd6, setA, setB, za, zb, zc, zd, ze, zf, zg, zh, zi, zj, zk, zl, zm, zn, zo, zp, reduceCtorEq, zE, ↓reduceIte]
        refine brB (fun yc7 => ?_) (fun yc7 => ?_)
        · simp -implicitDefEqProofs only [c39_29_e, c39_30_r, (show opsOf c39_30 = _ :: _ from rfl), yc2, yc3, yd4, yc5, yd6, yc7, setA, setB, za, zb, zc, zd, ze, zf, zg, zh, zi, zj, zk, zl, zm, zn, zo, zp, reduceCtorEq, zE, ↓reduceIte]
          all_goals rfl
        · simp -implicitDefEqProofs only [c39_26_e, c39_27_r, (show opsOf c39_27 = _ :: _ from rfl), c39_28_e, K39_14, yc2, yc3, yd4, yc5, yd6, yc7, setA, setB, za, zb, zc, zd, ze, zf, zg, zh, zi, zj, zk, zl, zm, zn, zo, zp, reduceCtorEq, zE, ↓reduceIte]
          all_goals rfl
      · rw [if_neg yc5]; rfl
    · rw [if_neg yc3]; rfl
  · simp -implicitDefEqProofs only [c39_20_e, K39_14, yc2, setA, setB, za, zb, zc, zd, ze, zf, zg, zh, zi, zj, zk, zl, zm, zn, zo, zp, reduceCtorEq, zE, ↓reduceIte]
    exact mi (j39_31_t _)
def l39_14 (a0_0 : Bool) (a0_1 : List (Bs × Bs)) (b1_0 : Bool) (b1_1 : List (Bs × Bs)) (i5 : Int) : Option R39 := iter (fun x : (Bool × List (Bs × Bs) × Bool × List (Bs × Bs) × Int) => s39_14 x.1 x.2.1 x.2.2.1 x.2.2.2.1 x.2.2.2.2) (a0_0, a0_1, b1_0, b1_1, i5)
theorem l39_14_t (a0_0 : Bool) (a0_1 : List (Bs × Bs)) (b1_0 : Bool) (b1_1 : List (Bs × Bs)) (i5 : Int) : bodyD (E0 mm) [.tmp 4] 0 false (seqD (E0 mm) 39 0 (callW (E0 mm)) itW c39_31 (blockD 0 (itW (loopF (E0 mm) 39 0 (callW (E0 mm)) itW c39_15 [(0, .keep), (1, .keep), (5, .keep)]) (none, [.v (.c (.d (.lst a0_0 (enL enSS a0_1)))), .v (.c (.d (.lst b1_0 (enL enSS b1_1)))), .v (.c (.d (.sc (.int .i64 i5))))], [])))) = (l39_14 a0_0 a0_1 b1_0 b1_1 i5).map e39 :=
  it_sim (K := (K39_14 (mm := mm))) rfl (enc := en39_14) (fun x => s39_14_t x.1 x.2.1 x.2.2.1 x.2.2.2.1 x.2.2.2.2) (a0_0, a0_1, b1_0, b1_1, i5)
def m39 (a_0 : Bool) (a_1 : List (Bs × Bs)) (b_0 : Bool) (b_1 : List (Bs × Bs)) : Option R39 :=
  if ((a_1.length : Int) == (b_1.length : Int)) = true then
    l39_14 a_0 a_1 b_0 b_1 (0 : Int)
  else
    some false
theorem f39_t (a_0 : Bool) (a_1 : List (Bs × Bs)) (b_0 : Bool) (b_1 : List (Bs × Bs)) :
    callW (E0 mm) 39 [.c (.d (.lst a_0 (enL enSS a_1))), .c (.d (.lst b_0 (enL enSS b_1)))] [] = (m39 a_0 a_1 b_0 b_1).map e39 := by
  rw [callW_run (body := c39_0) (res := [.tmp 4]) Tryz.func39 rfl rfl (by kernel_rfl)]
  simp -implicitDefEqProofs only [m39, slots2, c39_0_e, c39_1_r, (show opsOf c39_1 = _ :: _ from rfl), c39_2_e, c39_3_e, c39_4_r, (show opsOf c39_4 = _ :: _ from rfl), Tryz.underlying23, (show c39_5 = Code.cond _ c39_6 c39_9 from rfl), setA, setB, za, zb, zc, zd, ze, zf, zg, zh, zi, zj, zk, zl, zm, zn, zo, zp, reduceCtorEq, zE, ↓reduceIte]
  refine brB (fun yc1 => ?_) (fun yc1 => ?_)
  · simp -implicitDefEqProofs only [c39_9_e, c39_10_e, c39_11_e, c39_12_r, (show opsOf c39_12 = _ :: _ from rfl), c39_13_e, c39_14_l, yc1, setA, setB, za, zb, zc, zd, ze, zf, zg, zh, zi, zj, zk, zl, zm, zn, zo, zp, reduceCtorEq, zE, ↓reduceIte]
    exact l39_14_t a_0 a_1 b_0 b_1 (0 : Int)
  · simp -implicitDefEqProofs only [c39_6_e, c39_7_r, (show opsOf c39_7 = _ :: _ from rfl), c39_8_e, yc1, setA, setB, za, zb, zc, zd, ze, zf, zg, zh, zi, zj, zk, zl, zm, zn, zo, zp, reduceCtorEq, zE, ↓reduceIte]
    all_goals rfl
noncomputable def c13_0 : Code := bodyOf Tryz.f13
def c13_1 := cA c13_0
def c13_2 := cB c13_0
def c13_3 := cA c13_2
def c13_4 := cB c13_2
theorem c13_0_e : c13_0 = .seq c13_1 c13_2 := rfl
theorem c13_1_r : RG (E0 mm) 13 c13_1 := rgN rfl
theorem c13_2_e : c13_2 = .seq c13_3 c13_4 := rfl
theorem c13_3_r : RG (E0 mm) 13 c13_3 := rgN rfl
theorem c13_4_e : c13_4 = .ret := rfl
abbrev R13 := (Bool)
def e13 : R13 → AV × Heap := fun x => (.v (.c (.d (.sc (.bool x)))), [])
def m13 (a_0 a_1 : Bs) (a_2 : Int) (a_3 : Bool) (a_4 : List (Bs × Bs)) (a_5 : Bool) (a_6 : List UInt8) (b_0 b_1 : Bs) (b_2 : Int) (b_3 : Bool) (b_4 : List (Bs × Bs)) (b_5 : Bool) (b_6 : List UInt8) : Option R13 :=
  if (a_0 == b_0) = true then
    if (a_1 == b_1) = true then
      if (a_2 == b_2) = true then
        (m39 a_3 a_4 b_3 b_4).bind fun yr5 =>
          if yr5 = true then
            some (a_6 == b_6)
          else
            some false
      else
        some false
    else
      some false
  else
    some false
theorem f13_t (a_0 a_1 : Bs) (a_2 : Int) (a_3 : Bool) (a_4 : List (Bs × Bs)) (a_5 : Bool) (a_6 : List UInt8) (b_0 b_1 : Bs) (b_2 : Int) (b_3 : Bool) (b_4 : List (Bs × Bs)) (b_5 : Bool) (b_6 : List UInt8) :
    callW (E0 mm) 13 [.agg [.d (.sc (.string (S a_0))), .d (.sc (.string (S a_1))), .d (.sc (.int .i64 a_2)), .d (.lst a_3 (enL enSS a_4)), .d (.lst a_5 (enL enB a_6))], .agg [.d (.sc (.string (S b_0))), .d (.sc (.string (S b_1))), .d (.sc (.int .i64 b_2)), .d (.lst b_3 (enL enSS b_4)), .d (.lst b_5 (enL enB b_6))]] [] = (m13 a_0 a_1 a_2 a_3 a_4 a_5 a_6 b_0 b_1 b_2 b_3 b_4 b_5 b_6).map e13 := by
  rw [callW_run (body := c13_0) (res := [.tmp 4]) Tryz.func13 rfl rfl (by kernel_rfl)]
  simp -implicitDefEqProofs only [m13, slots2, c13_0_e, c13_1_r, (show opsOf c13_1 = _ :: _ from rfl), c13_2_e, c13_3_r, (show opsOf c13_3 = _ :: _ from rfl), Tryz.underlying25, sz9, ag9, setA, setB, za, zb, zc, zd, ze, zf, zg, zh, zi, zj, zk, zl, zm, zn, zo, zp, reduceCtorEq, zE, ↓reduceIte]
  refine brB (fun yc1 => ?_) (fun yc1 => ?_)
  · simp -implicitDefEqProofs only [Tryz.underlying25, sz9, ag9, yc1, setA, setB, za, zb, zc, zd, ze, zf, zg, zh, zi, zj, zk, zl, zm, zn, zo, zp, reduceCtorEq, zE, ↓reduceIte]
    refine brB (fun yc2 => ?_) (fun yc2 => ?_)
    · simp -implicitDefEqProofs only [Tryz.underlying25, sz3, ag3, yc1, yc2, setA, setB, za, zb, zc, zd, ze, zf, zg, zh, zi, zj, zk, zl, zm, zn, zo, zp, reduceCtorEq, zE, ↓reduceIte]
      refine brB (fun yc3 => ?_) (fun yc3 => ?_)
      · simp -implicitDefEqProofs only [Tryz.underlying25, sz23, ag23, ent39, prm39, f39_t, yc1, yc2, yc3, setA, setB, za, zb, zc, zd, ze, zf, zg, zh, zi, zj, zk, zl, zm, zn, zo, zp, reduceCtorEq, zE, ↓reduceIte]
        refine brM (fun yc4 => ?_) (fun yr5 yc4 => ?_)
        · rw [yc4]; rfl
        · simp -implicitDefEqProofs only [e39, yc1, yc2, yc3, yc4, setA, setB, za, zb, zc, zd, ze, zf, zg, zh, zi, zj, zk, zl, zm, zn, zo, zp, reduceCtorEq, zE, ↓reduceIte]
          refine brB (fun yc6 => ?_) (fun yc6 => ?_)
          · simp -implicitDefEqProofs only [Tryz.underlying25, sz22, ag22, Tryz.underlying22, Tryz.underlying9, Tryz.underlying5, c13_4_e, yc1, yc2, yc3, yc4, yc6, setA, setB, za, zb, zc, zd, ze, zf, zg, zh, zi, zj, zk, zl, zm, zn, zo, zp, reduceCtorEq, zE, ↓reduceIte]
            all_goals rfl
          · simp -implicitDefEqProofs only [c13_4_e, yc1, yc2, yc3, yc4, yc6, setA, setB, za, zb, zc, zd, ze, zf, zg, zh, zi, zj, zk, zl, zm, zn, zo, zp, reduceCtorEq, zE, ↓reduceIte]
            all_goals rfl
      · simp -implicitDefEqProofs only [c13_4_e, yc1, yc2, yc3, setA, setB, za, zb, zc, zd, ze, zf, zg, zh, zi, zj, zk, zl, zm, zn, zo, zp, reduceCtorEq, zE, ↓reduceIte]
        all_goals rfl
    · simp -implicitDefEqProofs only [c13_4_e, yc1, yc2, setA, setB, za, zb, zc, zd, ze, zf, zg, zh, zi, zj, zk, zl, zm, zn, zo, zp, reduceCtorEq, zE, ↓reduceIte]
      all_goals rfl
  · simp -implicitDefEqProofs only [c13_4_e, yc1, setA, setB, za, zb, zc, zd, ze, zf, zg, zh, zi, zj, zk, zl, zm, zn, zo, zp, reduceCtorEq, zE, ↓reduceIte]
    all_goals rfl
noncomputable def c19_0 : Code := bodyOf Tryz.f19
def c19_1 := cA c19_0
def c19_2 := cB c19_0
def c19_3 := cA c19_2
def c19_4 := cB c19_2
theorem c19_0_e : c19_0 = .seq c19_1 c19_2 := rfl
theorem c19_1_r : RG (E0 mm) 19 c19_1 := rgN rfl
theorem c19_2_e : c19_2 = .seq c19_3 c19_4 := rfl
theorem c19_3_r : RG (E0 mm) 19 c19_3 := rgN rfl
theorem c19_4_e : c19_4 = .ret := rfl
abbrev R19 := (Bool)
def e19 : R19 → AV × Heap := fun x => (.v (.c (.d (.sc (.bool x)))), [])
def m19 (a_0 : Int) (a_1 : Bs) (a_2 : Int) (a_3 : Bool) (a_4 : List (Bs × Bs)) (a_5 : Bool) (a_6 : List UInt8) (b_0 : Int) (b_1 : Bs) (b_2 : Int) (b_3 : Bool) (b_4 : List (Bs × Bs)) (b_5 : Bool) (b_6 : List UInt8) : Option R19 :=
  if (a_0 == b_0) = true then
    if (a_1 == b_1) = true then
      if (a_2 == b_2) = true then
        (m42 a_3 a_4 b_3 b_4).bind fun yr5 =>
          if yr5 = true then
            (m16 a_5 a_6 b_5 b_6).bind fun yr8 =>
              some yr8
          else
            some false
      else
        some false
    else
      some false
  else
    some false
theorem f19_t (a_0 : Int) (a_1 : Bs) (a_2 : Int) (a_3 : Bool) (a_4 : List (Bs × Bs)) (a_5 : Bool) (a_6 : List UInt8) (b_0 : Int) (b_1 : Bs) (b_2 : Int) (b_3 : Bool) (b_4 : List (Bs × Bs)) (b_5 : Bool) (b_6 : List UInt8) :
    callW (E0 mm) 19 [.agg [.d (.sc (.int .i64 a_0)), .d (.sc (.string (S a_1))), .d (.sc (.int .i64 a_2)), .d (.lst a_3 (enL enSS a_4)), .d (.lst a_5 (enL enB a_6))], .agg [.d (.sc (.int .i64 b_0)), .d (.sc (.string (S b_1))), .d (.sc (.int .i64 b_2)), .d (.lst b_3 (enL enSS b_4)), .d (.lst b_5 (enL enB b_6))]] [] = (m19 a_0 a_1 a_2 a_3 a_4 a_5 a_6 b_0 b_1 b_2 b_3 b_4 b_5 b_6).map e19 := by
  rw [callW_run (body := c19_0) (res := [.tmp 4]) Tryz.func19 rfl rfl (by kernel_rfl)]
  simp -implicitDefEqProofs only [m19, slots2, c19_0_e, c19_1_r, (show opsOf c19_1 = _ :: _ from rfl), c19_2_e, c19_3_r, (show opsOf c19_3 = _ :: _ from rfl), Tryz.underlying32, sz3, ag3, setA, setB, za, zb, zc, zd, ze, zf, zg, zh, zi, zj, zk, zl, zm, zn, zo, zp, reduceCtorEq, zE, ↓reduceIte]
  refine brB (fun yc1 => ?_) (fun yc1 => ?_)
  · simp -implicitDefEqProofs only [Tryz.underlying32, sz9, ag9, yc1, setA, setB, za, zb, zc, zd, ze, zf, zg, zh, zi, zj, zk, zl, zm, zn, zo, zp, reduceCtorEq, zE, ↓reduceIte]
    refine brB (fun yc2 => ?_) (fun yc2 => ?_)
    · simp -implicitDefEqProofs only [Tryz.underlying32, sz3, ag3, yc1, yc2, setA, setB, za, zb, zc, zd, ze, zf, zg, zh, zi, zj, zk, zl, zm, zn, zo, zp, reduceCtorEq, zE, ↓reduceIte]
      refine brB (fun yc3 => ?_) (fun yc3 => ?_)
      · simp -implicitDefEqProofs only [Tryz.underlying32, sz23, ag23, ent42, prm42, f42_t, yc1, yc2, yc3, setA, setB, za, zb, zc, zd, ze, zf, zg, zh, zi, zj, zk, zl, zm, zn, zo, zp, reduceCtorEq, zE, ↓reduceIte]
        refine brM (fun yc4 => ?_) (fun yr5 yc4 => ?_)
        · rw [yc4]; rfl
        · simp -implicitDefEqProofs only [e42, yc1, yc2, yc3, yc4, setA, setB, za, zb, zc, zd, ze, zf, zg, zh, zi, zj, zk, zl, zm, zn, zo, zp, reduceCtorEq, zE, ↓reduceIte]
          refine brB (fun yc6 => ?_) (fun yc6 => ?_)
          · simp -implicitDefEqProofs only [Tryz.underlying32, sz22, ag22, ent16, prm16, f16_t, yc1, yc2, yc3, yc4, yc6, setA, setB, za, zb, zc, zd, ze, zf, zg, zh, zi, zj, zk, zl, zm, zn, zo, zp, reduceCtorEq, zE, ↓reduceIte]
            refine brM (fun yc7 => ?_) (fun yr8 yc7 => ?_)
            · rw [yc7]; rfl
            · simp -implicitDefEqProofs only [e16, c19_4_e, yc1, yc2, yc3, yc4, yc6, yc7, setA, setB, za, zb, zc, zd, ze, zf, zg, zh, zi, zj, zk, zl, zm, zn, zo, zp, reduceCtorEq, zE, ↓reduceIte]
              all_goals rfl
          · simp -implicitDefEqProofs only [c19_4_e, yc1, yc2, yc3, yc4, yc6, setA, setB, za, zb, zc, zd, ze, zf, zg, zh, zi, zj, zk, zl, zm, zn, zo, zp, reduceCtorEq, zE, ↓reduceIte]
            all_goals rfl
      · simp -implicitDefEqProofs only [c19_4_e, yc1, yc2, yc3, setA, setB, za, zb, zc, zd, ze, zf, zg, zh, zi, zj, zk, zl, zm, zn, zo, zp, reduceCtorEq, zE, ↓reduceIte]
        all_goals rfl
    · simp -implicitDefEqProofs only [c19_4_e, yc1, yc2, setA, setB, za, zb, zc, zd, ze, zf, zg, zh, zi, zj, zk, zl, zm, zn, zo, zp, reduceCtorEq, zE, ↓reduceIte]
      all_goals rfl
  · simp -implicitDefEqProofs only [c19_4_e, yc1, setA, setB, za, zb, zc, zd, ze, zf, zg, zh, zi, zj, zk, zl, zm, zn, zo, zp, reduceCtorEq, zE, ↓reduceIte]
    all_goals rfl
noncomputable def c14_0 : Code := bodyOf Tryz.f14
def c14_1 := cA c14_0
def c14_2 := cB c14_0
def c14_3 := cA c14_2
def c14_4 := cB c14_2
theorem c14_0_e : c14_0 = .seq c14_1 c14_2 := rfl
theorem c14_1_r : RG (E0 mm) 14 c14_1 := rgN rfl
theorem c14_2_e : c14_2 = .seq c14_3 c14_4 := rfl
theorem c14_3_r : RG (E0 mm) 14 c14_3 := rgN rfl
theorem c14_4_e : c14_4 = .ret := rfl
abbrev R14 := (Bool)
def e14 : R14 → AV × Heap := fun x => (.v (.c (.d (.sc (.bool x)))), [])
def m14 (a_0 : Int) (a_1 : Bs) (a_2 : Int) (a_3 : Bool) (a_4 : List (Bs × Bs)) (a_5 : Bool) (a_6 : List UInt8) (b_0 : Int) (b_1 : Bs) (b_2 : Int) (b_3 : Bool) (b_4 : List (Bs × Bs)) (b_5 : Bool) (b_6 : List UInt8) : Option R14 :=
  if (a_0 == b_0) = true then
    if (a_1 == b_1) = true then
      if (a_2 == b_2) = true then
        (m39 a_3 a_4 b_3 b_4).bind fun yr5 =>
          if yr5 = true then
            some (a_6 == b_6)
          else
            some false
      else
        some false
    else
      some false
  else
    some false
theorem f14_t (a_0 : Int) (a_1 : Bs) (a_2 : Int) (a_3 : Bool) (a_4 : List (Bs × Bs)) (a_5 : Bool) (a_6 : List UInt8) (b_0 : Int) (b_1 : Bs) (b_2 : Int) (b_3 : Bool) (b_4 : List (Bs × Bs)) (b_5 : Bool) (b_6 : List UInt8) :
    callW (E0 mm) 14 [.agg [.d (.sc (.int .i64 a_0)), .d (.sc (.string (S a_1))), .d (.sc (.int .i64 a_2)), .d (.lst a_3 (enL enSS a_4)), .d (.lst a_5 (enL enB a_6))], .agg [.d (.sc (.int .i64 b_0)), .d (.sc (.string (S b_1))), .d (.sc (.int .i64 b_2)), .d (.lst b_3 (enL enSS b_4)), .d (.lst b_5 (enL enB b_6))]] [] = (m14 a_0 a_1 a_2 a_3 a_4 a_5 a_6 b_0 b_1 b_2 b_3 b_4 b_5 b_6).map e14 := by
  rw [callW_run (body := c14_0) (res := [.tmp 4]) Tryz.func14 rfl rfl (by kernel_rfl)]
  simp -implicitDefEqProofs only [m14, slots2, c14_0_e, c14_1_r, (show opsOf c14_1 = _ :: _ from rfl), c14_2_e, c14_3_r, (show opsOf c14_3 = _ :: _ from rfl), Tryz.underlying32, sz3, ag3, setA, setB, za, zb, zc, zd, ze, zf, zg, zh, zi, zj, zk, zl, zm, zn, zo, zp, reduceCtorEq, zE, ↓reduceIte]
  refine brB (fun yc1 => ?_) (fun yc1 => ?_)
  · simp -implicitDefEqProofs only [Tryz.underlying32, sz9, ag9, yc1, setA, setB, za, zb, zc, zd, ze, zf, zg, zh, zi, zj, zk, zl, zm, zn, zo, zp, reduceCtorEq, zE, ↓reduceIte]
    refine brB (fun yc2 => ?_) (fun yc2 => ?_)
    · simp -implicitDefEqProofs only [Tryz.underlying32, sz3, ag3, yc1, yc2, setA, setB, za, zb, zc, zd, ze, zf, zg, zh, zi, zj, zk, zl, zm, zn, zo, zp, reduceCtorEq, zE, ↓reduceIte]
      refine brB (fun yc3 => ?_) (fun yc3 => ?_)
      · simp -implicitDefEqProofs only [Tryz.underlying32, sz23, ag23, ent39, prm39, f39_t, yc1, yc2, yc3, setA, setB, za, zb, zc, zd, ze, zf, zg, zh, zi, zj, zk, zl, zm, zn, zo, zp, reduceCtorEq, zE, ↓reduceIte]
        refine brM (fun yc4 => ?_) (fun yr5 yc4 => ?_)
        · rw [yc4]; rfl
        · simp -implicitDefEqProofs only [e39, yc1, yc2, yc3, yc4, setA, setB, za, zb, zc, zd, ze, zf, zg, zh, zi, zj, zk, zl, zm, zn, zo, zp, reduceCtorEq, zE, ↓reduceIte]
          refine brB (fun yc6 => ?_) (fun yc6 => ?_)
          · simp -implicitDefEqProofs only [Tryz.underlying32, sz22, ag22, Tryz.underlying22, Tryz.underlying9, Tryz.underlying5, c14_4_e, yc1, yc2, yc3, yc4, yc6, setA, setB, za, zb, zc, zd, ze, zf, zg, zh, zi, zj, zk, zl, zm, zn, zo, zp, reduceCtorEq, zE, ↓reduceIte]
            all_goals rfl
          · simp -implicitDefEqProofs only [c14_4_e, yc1, yc2, yc3, yc4, yc6, setA, setB, za, zb, zc, zd, ze, zf, zg, zh, zi, zj, zk, zl, zm, zn, zo, zp, reduceCtorEq, zE, ↓reduceIte]
            all_goals rfl
      · simp -implicitDefEqProofs only [c14_4_e, yc1, yc2, yc3, setA, setB, za, zb, zc, zd, ze, zf, zg, zh, zi, zj, zk, zl, zm, zn, zo, zp, reduceCtorEq, zE, ↓reduceIte]
        all_goals rfl
    · simp -implicitDefEqProofs only [c14_4_e, yc1, yc2, setA, setB, za, zb, zc, zd, ze, zf, zg, zh, zi, zj, zk, zl, zm, zn, zo, zp, reduceCtorEq, zE, ↓reduceIte]
      all_goals rfl
  · simp -implicitDefEqProofs only [c14_4_e, yc1, setA, setB, za, zb, zc, zd, ze, zf, zg, zh, zi, zj, zk, zl, zm, zn, zo, zp, reduceCtorEq, zE, ↓reduceIte]
    all_goals rfl
noncomputable def c5_0 : Code := bodyOf Tryz.f5
def c5_1 := cA c5_0
def c5_2 := cB c5_0
def c5_3 := cA c5_2
def c5_4 := cB c5_2
theorem c5_0_e : c5_0 = .seq c5_1 c5_2 := rfl
theorem c5_1_r : RG (E0 mm) 5 c5_1 := rgN rfl
theorem c5_2_e : c5_2 = .seq c5_3 c5_4 := rfl
theorem c5_3_r (m : Nat) (st : St) : den (E0 mm) 5 m (callW (E0 mm)) itW c5_3 none st = regD ((runF (E0 mm) (callW (E0 mm)) (opsOf c5_3) (opsOf c5_3) [none, none, none, none, none, none, some false, none, some true, none, some true, none, none, none, none, none, none, none, none, some false, none, some true, none, some true, none, none, none, none] st []).bind (ckF [(8, 6), (10, 6), (21, 19), (23, 19)])) := den_dF (by kernel_rfl)
theorem c5_4_e : c5_4 = .ret := rfl
abbrev R5 := (Bool)
def e5 : R5 → AV × Heap := fun x => (.v (.c (.d (.sc (.bool x)))), [])
def m5 (a_0 a_1 : Bs) (a_2 : Int) (a_3 : Bool) (a_4 : List (Bs × Bs)) (a_5 : Bool) (a_6 : List UInt8) (a_7 : Int) (a_8 : Bs) (a_9 : Int) (a_10 : Bool) (a_11 : List (Bs × Bs)) (a_12 : Bool) (a_13 : List UInt8) (a_14 b_0 b_1 : Bs) (b_2 : Int) (b_3 : Bool) (b_4 : List (Bs × Bs)) (b_5 : Bool) (b_6 : List UInt8) (b_7 : Int) (b_8 : Bs) (b_9 : Int) (b_10 : Bool) (b_11 : List (Bs × Bs)) (b_12 : Bool) (b_13 : List UInt8) (b_14 : Bs) : Option R5 :=
  (m18 a_0 a_1 a_2 a_3 a_4 a_5 a_6 b_0 b_1 b_2 b_3 b_4 b_5 b_6).bind fun yr2 =>
    (m13 a_0 a_1 a_2 a_3 a_4 a_5 a_6 b_0 b_1 b_2 b_3 b_4 b_5 b_6).bind fun yr4 =>
      if (yr2 == yr4) = true then
        (m19 a_7 a_8 a_9 a_10 a_11 a_12 a_13 b_7 b_8 b_9 b_10 b_11 b_12 b_13).bind fun yr7 =>
          (m14 a_7 a_8 a_9 a_10 a_11 a_12 a_13 b_7 b_8 b_9 b_10 b_11 b_12 b_13).bind fun yr9 =>
            some (yr7 == yr9)
      else
        some false
theorem f5_t (a_0 a_1 : Bs) (a_2 : Int) (a_3 : Bool) (a_4 : List (Bs × Bs)) (a_5 : Bool) (a_6 : List UInt8) (a_7 : Int) (a_8 : Bs) (a_9 : Int) (a_10 : Bool) (a_11 : List (Bs × Bs)) (a_12 : Bool) (a_13 : List UInt8) (a_14 b_0 b_1 : Bs) (b_2 : Int) (b_3 : Bool) (b_4 : List (Bs × Bs)) (b_5 : Bool) (b_6 : List UInt8) (b_7 : Int) (b_8 : Bs) (b_9 : Int) (b_10 : Bool) (b_11 : List (Bs × Bs)) (b_12 : Bool) (b_13 : List UInt8) (b_14 : Bs) :
    callW (E0 mm) 5 [.agg [.d (.sc (.string (S a_0))), .d (.sc (.string (S a_1))), .d (.sc (.int .i64 a_2)), .d (.lst a_3 (enL enSS a_4)), .d (.lst a_5 (enL enB a_6)), .d (.sc (.int .i64 a_7)), .d (.sc (.string (S a_8))), .d (.sc (.int .i64 a_9)), .d (.lst a_10 (enL enSS a_11)), .d (.lst a_12 (enL enB a_13)), .d (.sc (.string (S a_14)))], .agg [.d (.sc (.string (S b_0))), .d (.sc (.string (S b_1))), .d (.sc (.int .i64 b_2)), .d (.lst b_3 (enL enSS b_4)), .d (.lst b_5 (enL enB b_6)), .d (.sc (.int .i64 b_7)), .d (.sc (.string (S b_8))), .d (.sc (.int .i64 b_9)), .d (.lst b_10 (enL enSS b_11)), .d (.lst b_12 (enL enB b_13)), .d (.sc (.string (S b_14)))]] [] = (m5 a_0 a_1 a_2 a_3 a_4 a_5 a_6 a_7 a_8 a_9 a_10 a_11 a_12 a_13 a_14 b_0 b_1 b_2 b_3 b_4 b_5 b_6 b_7 b_8 b_9 b_10 b_11 b_12 b_13 b_14).map e5 := by
  rw [callW_run (body := c5_0) (res := [.tmp 4]) Tryz.func5 rfl rfl (by kernel_rfl)]
  simp -implicitDefEqProofs only [m5, slots2, c5_0_e, c5_1_r, (show opsOf c5_1 = _ :: _ from rfl), c5_2_e, c5_3_r, (show opsOf c5_3 = _ :: _ from rfl), ent15, prm15, f15_t, Tryz.underlying47, sz25, ag25, ent18, prm18, f18_t, runF_nil, runF_none, runF_some, runKF_t, runKF_f, runKF_x, stepKF_s, stepKF_x, tlT_c, tlT_n, hdT_c, hdT_n, footT_n, foot_t, readsO, setA, setB, za, zb, zc, zd, ze, zf, zg, zh, zi, zj, zk, zl, zm, zn, zo, zp, reduceCtorEq, zE, ↓reduceIte]
  refine brM (fun yc1 => ?_) (fun yr2 yc1 => ?_)
  · rw [yc1]; rfl
  · simp -implicitDefEqProofs only [e18, Tryz.underlying47, sz25, ag25, ent13, prm13, f13_t, runF_nil, runF_none, runF_some, runKF_t, runKF_f, runKF_x, stepKF_s, stepKF_x, tlT_c, tlT_n, hdT_c, hdT_n, footT_n, foot_t, readsO, yc1, setA, setB, za, zb, zc, zd, ze, zf, zg, zh, zi, zj, zk, zl, zm, zn, zo, zp, reduceCtorEq, zE, ↓reduceIte]
    refine brM (fun yc3 => ?_) (fun yr4 yc3 => ?_)
    · rw [yc3]; rfl
    · simp -implicitDefEqProofs only [e13, Tryz.underlying4, runF_nil, runF_none, runF_some, runKF_t, runKF_f, runKF_x, stepKF_s, stepKF_x, tlT_c, tlT_n, hdT_c, hdT_n, footT_n, foot_t, readsO, yc1, yc3, setA, setB, za, zb, zc, zd, ze, zf, zg, zh, zi, zj, zk, zl, zm, zn, zo, zp, reduceCtorEq, zE, ↓reduceIte]
      refine brB (fun yc5 => ?_) (fun yc5 => ?_)
      · simp -implicitDefEqProofs only [Tryz.underlying47, sz32, ag32, ent19, prm19, f19_t, runF_nil, runF_none, runF_some, runKF_t, runKF_f, runKF_x, stepKF_s, stepKF_x, tlT_c, tlT_n, hdT_c, hdT_n, footT_n, foot_t, readsO, yc1, yc3, yc5, setA, setB, za, zb, zc, zd, ze, zf, zg, zh, zi, zj, zk, zl, zm, zn, zo, zp, reduceCtorEq, zE, ↓reduceIte]
        refine brM (fun yc6 => ?_) (fun yr7 yc6 => ?_)
        · rw [yc6]; rfl
        · simp -implicitDefEqProofs only [e19, Tryz.underlying47, sz32, ag32, ent14, prm14, f14_t, runF_nil, runF_none, runF_some, runKF_t, runKF_f, runKF_x, stepKF_s, stepKF_x, tlT_c, tlT_n, hdT_c, hdT_n, footT_n, foot_t, readsO, yc1, yc3, yc5, yc6, setA, setB, za, zb, zc, zd, ze, zf, zg, zh, zi, zj, zk, zl, zm, zn, zo, zp, reduceCtorEq, zE, ↓reduceIte]
          refine brM (fun yc8 => ?_) (fun yr9 yc8 => ?_)
          · rw [yc8]; rfl
          · simp -implicitDefEqProofs only [e14, Tryz.underlying4, ckF, foot_f, pair1, pair0, chgA, eqO, eqOb_cells, eqOb_row, eqOb_siter, eqOb_amapN, eqOb_amapC, eqOb_sm, eqE_S, eqE_SS, eqE_N, eqE_B, eqL, eqC, eqD, eqV, eqV1, eqB_refl, eq_self, decide_true, List.all_nil, List.getD_cons_zero, List.getD_cons_succ, Bool.and_self, c5_4_e, runF_nil, runF_none, runF_some, runKF_t, runKF_f, runKF_x, stepKF_s, stepKF_x, tlT_c, tlT_n, hdT_c, hdT_n, footT_n, foot_t, readsO, yc1, yc3, yc5, yc6, yc8, setA, setB, za, zb, zc, zd, ze, zf, zg, zh, zi, zj, zk, zl, zm, zn, zo, zp, reduceCtorEq, zE, ↓reduceIte]
            all_goals rfl
      · simp -implicitDefEqProofs only [ckF, foot_f, pair1, pair0, chgA, eqO, eqOb_cells, eqOb_row, eqOb_siter, eqOb_amapN, eqOb_amapC, eqOb_sm, eqE_S, eqE_SS, eqE_N, eqE_B, eqL, eqC, eqD, eqV, eqV1, eqB_refl, eq_self, decide_true, List.all_nil, List.getD_cons_zero, List.getD_cons_succ, Bool.and_self, c5_4_e, runF_nil, runF_none, runF_some, runKF_t, runKF_f, runKF_x, stepKF_s, stepKF_x, tlT_c, tlT_n, hdT_c, hdT_n, footT_n, foot_t, readsO, yc1, yc3, yc5, setA, setB, za, zb, zc, zd, ze, zf, zg, zh, zi, zj, zk, zl, zm, zn, zo, zp, reduceCtorEq, zE, ↓reduceIte]
        all_goals rfl
end
end Go.Proofs.YtoohbnmhjfgclaaGreatDoor
