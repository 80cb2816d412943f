/- The Go functions as plain functions, and that the evaluator computes them. -/
import Derived.Test.YtfcjicedphacfaaHd
set_option linter.all false
set_option maxRecDepth 100000
namespace Go.Proofs.Ytfcjicedphacfaa
open Go Go.Ab
open Nat renaming reduceEqDiff → za, reduceAdd → zb, reduceLeDiff → zc, reduceLT → zd, reduceMul → ze, reduceBEq → zf, reduceSub → zg, reducePow → zh
open Int renaming reduceEq → zi, reduceLE → zj, reduceLT → zk, reduceToNat → zl, reduceNegSucc → zm, reduceAdd → zn, reduceBEq → zo
open String renaming reduceBEq → zp
set_option maxHeartbeats 4000000
noncomputable section
variable {mm : Int}
set_option maxRecDepth 100000 in
theorem f12_t : callW (E0 mm) 12 [] [] = some (.v (.c (.d (.sc (.bool true)))), []) := callN_W (k := 400) (by kernel_rfl)
noncomputable def c6_0 : Code := bodyOf Try.f6
def c6_1 := cA c6_0
def c6_2 := cB c6_0
def c6_3 := cA c6_2
def c6_4 := cB c6_2
def c6_5 := cA c6_4
def c6_6 := cA c6_5
def c6_7 := cB c6_5
def c6_8 := cA c6_7
def c6_9 := cB c6_7
def c6_10 := cA c6_9
def c6_11 := cA c6_10
def c6_12 := cB c6_10
def c6_13 := cB c6_9
def c6_14 := cB c6_4
def c6_15 := cA c6_14
def c6_16 := cB c6_14
theorem c6_0_e : c6_0 = .seq c6_1 c6_2 := rfl
theorem c6_1_r : RG (E0 mm) 6 c6_1 := rgN rfl
theorem c6_2_e : c6_2 = .seq c6_3 c6_4 := rfl
theorem c6_3_r : RG (E0 mm) 6 c6_3 := rgN rfl
theorem c6_4_e : c6_4 = .seq c6_5 c6_14 := rfl
theorem c6_5_e : c6_5 = .seq c6_6 c6_7 := rfl
theorem c6_6_r : RG (E0 mm) 6 c6_6 := rgN rfl
theorem c6_7_e : c6_7 = .seq c6_8 c6_9 := rfl
theorem c6_8_r : RG (E0 mm) 6 c6_8 := rgN rfl
theorem c6_10_e : c6_10 = .seq c6_11 c6_12 := rfl
theorem c6_11_r : RG (E0 mm) 6 c6_11 := rgN rfl
theorem c6_12_e : c6_12 = .ret := rfl
theorem c6_13_e : c6_13 = .skip := rfl
theorem c6_14_e : c6_14 = .seq c6_15 c6_16 := rfl
theorem c6_15_r : RG (E0 mm) 6 c6_15 := rgN rfl
theorem c6_16_e : c6_16 = .ret := rfl
abbrev R6 := (Int)
def e6 : R6 → AV × Heap := fun x => (.v (.c (.d (.sc (.int .i64 x)))), [])
def j6_7 (n4 : Int) (is5 : Bool) : Option R6 :=
  if is5 = true then
    some n4
  else
    some (400 : Int)
theorem j6_7_t (n4 : Int) (is5 : Bool) (g0 : Ob) (sl : Nat → AV) (zq4 : sl 4 = .v (.c (.d (.sc (.int .i64 n4))))) (zq5 : sl 5 = .v (.c (.d (.sc (.bool is5))))) :
    bodyD (E0 mm) [.tmp 2] 0 false (seqD (E0 mm) 6 0 (callW (E0 mm)) itW c6_14 (den (E0 mm) 6 0 (callW (E0 mm)) itW c6_7 none ⟨sl, [g0]⟩)) = (j6_7 n4 is5).map e6 := by
  simp -implicitDefEqProofs only [j6_7, c6_7_e, c6_8_r, (show opsOf c6_8 = _ :: _ from rfl), (show c6_9 = Code.cond _ c6_10 c6_13 from rfl), zq4, zq5, setA, setB, za, zb, zc, zd, ze, zf, zg, zh, zi, zj, zk, zl, zm, zn, zo, zp, reduceCtorEq, zE, ↓reduceIte]
  refine brB (fun yc2 => ?_) (fun yc2 => ?_)
  · simp -implicitDefEqProofs only [c6_10_e, c6_11_r, (show opsOf c6_11 = _ :: _ from rfl), c6_12_e, zq4, zq5, yc2, setA, setB, za, zb, zc, zd, ze, zf, zg, zh, zi, zj, zk, zl, zm, zn, zo, zp, reduceCtorEq, zE, ↓reduceIte]
    all_goals rfl
  · simp -implicitDefEqProofs only [c6_13_e, c6_14_e, c6_15_r, (show opsOf c6_15 = _ :: _ from rfl), c6_16_e, zq4, zq5, yc2, setA, setB, za, zb, zc, zd, ze, zf, zg, zh, zi, zj, zk, zl, zm, zn, zo, zp, reduceCtorEq, zE, ↓reduceIte]
    all_goals rfl
def m6 (e0 : Int) : Option R6 :=
  if (e0 == 0) = true then
    j6_7 (200 : Int) true
  else
    if (e0 == 31) = true then
      j6_7 (403 : Int) true
    else
      if (e0 == 30) = true then
        j6_7 (407 : Int) true
      else
        if (e0 == 21) = true then
          j6_7 (413 : Int) true
        else
          if (e0 == 32) = true then
            j6_7 (429 : Int) true
          else
            if (e0 == 3) = true then
              j6_7 (431 : Int) true
            else
              if (e0 == 34) = true then
                j6_7 (502 : Int) true
              else
                if (e0 == 33) = true then
                  j6_7 (503 : Int) true
                else
                  if (e0 == 35) = true then
                    j6_7 (504 : Int) true
                  else
                    j6_7 (0 : Int) false
theorem f6_t (e0 : Int) :
    callW (E0 mm) 6 [.c (.d (.sc (.int .i64 e0)))] [] = (m6 e0).map e6 := by
  rw [callW_run (body := c6_0) (res := [.tmp 2]) Try.func6 rfl rfl (by kernel_rfl)]
  simp -implicitDefEqProofs only [m6, slots1, c6_0_e, c6_1_r, (show opsOf c6_1 = _ :: _ from rfl), c6_2_e, c6_3_r, (show opsOf c6_3 = _ :: _ from rfl), Try.underlying43, Try.underlying22, c6_4_e, c6_5_e, c6_6_r, (show opsOf c6_6 = _ :: _ from rfl), zv3, setA, setB, za, zb, zc, zd, ze, zf, zg, zh, zi, zj, zk, zl, zm, zn, zo, zp, reduceCtorEq, zE, ↓reduceIte]
  refine brB (fun yc1 => ?_) (fun yc1 => ?_)
  · simp -implicitDefEqProofs only [yc1, setA, setB, za, zb, zc, zd, ze, zf, zg, zh, zi, zj, zk, zl, zm, zn, zo, zp, reduceCtorEq, zE, ↓reduceIte]
    exact j6_7_t (200 : Int) true _ _ (by rfl) (by rfl)
  · simp -implicitDefEqProofs only [yc1, setA, setB, za, zb, zc, zd, ze, zf, zg, zh, zi, zj, zk, zl, zm, zn, zo, zp, reduceCtorEq, zE, ↓reduceIte]
    refine brB (fun yc3 => ?_) (fun yc3 => ?_)
    · simp -implicitDefEqProofs only [yc1, yc3, setA, setB, za, zb, zc, zd, ze, zf, zg, zh, zi, zj, zk, zl, zm, zn, zo, zp, reduceCtorEq, zE, ↓reduceIte]
      exact j6_7_t (403 : Int) true _ _ (by rfl) (by rfl)
    · simp -implicitDefEqProofs only [yc1, yc3, setA, setB, za, zb, zc, zd, ze, zf, zg, zh, zi, zj, zk, zl, zm, zn, zo, zp, reduceCtorEq, zE, ↓reduceIte]
      refine brB (fun yc4 => ?_) (fun yc4 => ?_)
      · simp -implicitDefEqProofs only [yc1, yc3, yc4, setA, setB, za, zb, zc, zd, ze, zf, zg, zh, zi, zj, zk, zl, zm, zn, zo, zp, reduceCtorEq, zE, ↓reduceIte]
        exact j6_7_t (407 : Int) true _ _ (by rfl) (by rfl)
      · simp -implicitDefEqProofs only [yc1, yc3, yc4, setA, setB, za, zb, zc, zd, ze, zf, zg, zh, zi, zj, zk, zl, zm, zn, zo, zp, reduceCtorEq, zE, ↓reduceIte]
        refine brB (fun yc5 => ?_) (fun yc5 => ?_)
        · simp -implicitDefEqProofs only [yc1, yc3, yc4, yc5, setA, setB, za, zb, zc, zd, ze, zf, zg, zh, zi, zj, zk, zl, zm, zn, zo, zp, reduceCtorEq, zE, ↓reduceIte]
          exact j6_7_t (413 : Int) true _ _ (by rfl) (by rfl)
        · simp -implicitDefEqProofs only [yc1, yc3, yc4, yc5, setA, setB, za, zb, zc, zd, ze, zf, zg, zh, zi, zj, zk, zl, zm, zn, zo, zp, reduceCtorEq, zE, ↓reduceIte]
          refine brB (fun yc6 => ?_) (fun yc6 => ?_)
          · simp -implicitDefEqProofs only [yc1, yc3, yc4, yc5, yc6, setA, setB, za, zb, zc, zd, ze, zf, zg, zh, zi, zj, zk, zl, zm, zn, zo, zp, reduceCtorEq, zE, ↓reduceIte]
            exact j6_7_t (429 : Int) true _ _ (by rfl) (by rfl)
          · simp -implicitDefEqProofs only [yc1, yc3, yc4, yc5, yc6, setA, setB, za, zb, zc, zd, ze, zf, zg, zh, zi, zj, zk, zl, zm, zn, zo, zp, reduceCtorEq, zE, ↓reduceIte]
            refine brB (fun yc7 => ?_) (fun yc7 => ?_)
            · simp -implicitDefEqProofs only [yc1, yc3, yc4, yc5, yc6, yc7, setA, setB, za, zb, zc, zd, ze, zf, zg, zh, zi, zj, zk, zl, zm, zn, zo, zp, reduceCtorEq, zE, ↓reduceIte]
              exact j6_7_t (431 : Int) true _ _ (by rfl) (by rfl)
            · simp -implicitDefEqProofs only [yc1, yc3, yc4, yc5, yc6, yc7, setA, setB, za, zb, zc, zd, ze, zf, zg, zh, zi, zj, zk, zl, zm, zn, zo, zp, reduceCtorEq, zE, ↓reduceIte]
              refine brB (fun yc8 => ?_) (fun yc8 => ?_)
              · simp -implicitDefEqProofs only [yc1, yc3, yc4, yc5, yc6, yc7, yc8, setA, setB, za, zb, zc, zd, ze, zf, zg, zh, zi, zj, zk, zl, zm, zn, zo, zp, reduceCtorEq, zE, ↓reduceIte]
                exact j6_7_t (502 : Int) true _ _ (by rfl) (by rfl)
              · simp -implicitDefEqProofs only [yc1, yc3, yc4, yc5, yc6, yc7, yc8, setA, setB, za, zb, zc, zd, ze, zf, zg, zh, zi, zj, zk, zl, zm, zn, zo, zp, reduceCtorEq, zE, ↓reduceIte]
                refine brB (fun yc9 => ?_) (fun yc9 => ?_)
                · simp -implicitDefEqProofs only [yc1, yc3, yc4, yc5, yc6, yc7, yc8, yc9, setA, setB, za, zb, zc, zd, ze, zf, zg, zh, zi, zj, zk, zl, zm, zn, zo, zp, reduceCtorEq, zE, ↓reduceIte]
                  exact j6_7_t (503 : Int) true _ _ (by rfl) (by rfl)
                · simp -implicitDefEqProofs only [yc1, yc3, yc4, yc5, yc6, yc7, yc8, yc9, setA, setB, za, zb, zc, zd, ze, zf, zg, zh, zi, zj, zk, zl, zm, zn, zo, zp, reduceCtorEq, zE, ↓reduceIte]
                  refine brB (fun yc10 => ?_) (fun yc10 => ?_)
                  · simp -implicitDefEqProofs only [yc1, yc3, yc4, yc5, yc6, yc7, yc8, yc9, yc10, setA, setB, za, zb, zc, zd, ze, zf, zg, zh, zi, zj, zk, zl, zm, zn, zo, zp, reduceCtorEq, zE, ↓reduceIte]
                    exact j6_7_t (504 : Int) true _ _ (by rfl) (by rfl)
                  · simp -implicitDefEqProofs only [yc1, yc3, yc4, yc5, yc6, yc7, yc8, yc9, yc10, setA, setB, za, zb, zc, zd, ze, zf, zg, zh, zi, zj, zk, zl, zm, zn, zo, zp, reduceCtorEq, zE, ↓reduceIte]
                    exact j6_7_t (0 : Int) false _ _ (by rfl) (by rfl)
noncomputable def c7_0 : Code := bodyOf Try.f7
def c7_1 := cA c7_0
def c7_2 := cB c7_0
def c7_3 := cA c7_2
def c7_4 := cA c7_3
def c7_5 := cB c7_3
def c7_6 := cA c7_5
def c7_7 := cA c7_6
def c7_8 := cB c7_6
def c7_9 := cA c7_8
def c7_10 := cA c7_9
def c7_11 := cB c7_9
def c7_12 := cB c7_8
def c7_13 := cA c7_12
def c7_14 := cB c7_12
def c7_15 := cA c7_14
def c7_16 := cA c7_15
def c7_17 := cB c7_15
def c7_18 := cB c7_14
def c7_19 := cA c7_18
def c7_20 := cB c7_18
def c7_21 := cA c7_20
def c7_22 := cA c7_21
def c7_23 := cB c7_21
def c7_24 := cB c7_20
def c7_25 := cA c7_24
def c7_26 := cB c7_24
def c7_27 := cA c7_26
def c7_28 := cA c7_27
def c7_29 := cB c7_27
def c7_30 := cB c7_26
def c7_31 := cA c7_30
def c7_32 := cB c7_30
def c7_33 := cA c7_32
def c7_34 := cA c7_33
def c7_35 := cB c7_33
def c7_36 := cB c7_32
def c7_37 := cA c7_36
def c7_38 := cB c7_36
def c7_39 := cA c7_38
def c7_40 := cA c7_39
def c7_41 := cB c7_39
def c7_42 := cB c7_38
def c7_43 := cA c7_42
def c7_44 := cB c7_42
def c7_45 := cA c7_44
def c7_46 := cA c7_45
def c7_47 := cB c7_45
def c7_48 := cB c7_44
def c7_49 := cA c7_48
def c7_50 := cB c7_48
def c7_51 := cA c7_50
def c7_52 := cA c7_51
def c7_53 := cB c7_51
def c7_54 := cB c7_50
def c7_55 := cA c7_54
def c7_56 := cB c7_54
def c7_57 := cA c7_56
def c7_58 := cA c7_57
def c7_59 := cB c7_57
def c7_60 := cB c7_56
def c7_61 := cB c7_2
def c7_62 := cA c7_61
def c7_63 := cB c7_61
theorem c7_0_e : c7_0 = .seq c7_1 c7_2 := rfl
theorem c7_1_r : RG (E0 mm) 7 c7_1 := rgN rfl
theorem c7_2_e : c7_2 = .seq c7_3 c7_61 := rfl
theorem c7_3_e : c7_3 = .seq c7_4 c7_5 := rfl
theorem c7_4_r : RG (E0 mm) 7 c7_4 := rgN rfl
theorem c7_5_e : c7_5 = .block 0 c7_6 := rfl
theorem c7_6_e : c7_6 = .seq c7_7 c7_8 := rfl
theorem c7_7_r : RG (E0 mm) 7 c7_7 := rgN rfl
theorem c7_9_e : c7_9 = .seq c7_10 c7_11 := rfl
theorem c7_10_r : RG (E0 mm) 7 c7_10 := rgN rfl
theorem c7_11_e : c7_11 = .ret := rfl
theorem c7_12_e : c7_12 = .seq c7_13 c7_14 := rfl
theorem c7_13_r : RG (E0 mm) 7 c7_13 := rgN rfl
theorem c7_15_e : c7_15 = .seq c7_16 c7_17 := rfl
theorem c7_16_r : RG (E0 mm) 7 c7_16 := rgN rfl
theorem c7_17_e : c7_17 = .ret := rfl
theorem c7_18_e : c7_18 = .seq c7_19 c7_20 := rfl
theorem c7_19_r : RG (E0 mm) 7 c7_19 := rgN rfl
theorem c7_21_e : c7_21 = .seq c7_22 c7_23 := rfl
theorem c7_22_r : RG (E0 mm) 7 c7_22 := rgN rfl
theorem c7_23_e : c7_23 = .ret := rfl
theorem c7_24_e : c7_24 = .seq c7_25 c7_26 := rfl
theorem c7_25_r : RG (E0 mm) 7 c7_25 := rgN rfl
theorem c7_27_e : c7_27 = .seq c7_28 c7_29 := rfl
theorem c7_28_r : RG (E0 mm) 7 c7_28 := rgN rfl
theorem c7_29_e : c7_29 = .ret := rfl
theorem c7_30_e : c7_30 = .seq c7_31 c7_32 := rfl
theorem c7_31_r : RG (E0 mm) 7 c7_31 := rgN rfl
theorem c7_33_e : c7_33 = .seq c7_34 c7_35 := rfl
theorem c7_34_r : RG (E0 mm) 7 c7_34 := rgN rfl
theorem c7_35_e : c7_35 = .ret := rfl
theorem c7_36_e : c7_36 = .seq c7_37 c7_38 := rfl
theorem c7_37_r : RG (E0 mm) 7 c7_37 := rgN rfl
theorem c7_39_e : c7_39 = .seq c7_40 c7_41 := rfl
theorem c7_40_r : RG (E0 mm) 7 c7_40 := rgN rfl
theorem c7_41_e : c7_41 = .ret := rfl
theorem c7_42_e : c7_42 = .seq c7_43 c7_44 := rfl
theorem c7_43_r : RG (E0 mm) 7 c7_43 := rgN rfl
theorem c7_45_e : c7_45 = .seq c7_46 c7_47 := rfl
theorem c7_46_r : RG (E0 mm) 7 c7_46 := rgN rfl
theorem c7_47_e : c7_47 = .ret := rfl
theorem c7_48_e : c7_48 = .seq c7_49 c7_50 := rfl
theorem c7_49_r : RG (E0 mm) 7 c7_49 := rgN rfl
theorem c7_51_e : c7_51 = .seq c7_52 c7_53 := rfl
theorem c7_52_r : RG (E0 mm) 7 c7_52 := rgN rfl
theorem c7_53_e : c7_53 = .ret := rfl
theorem c7_54_e : c7_54 = .seq c7_55 c7_56 := rfl
theorem c7_55_r : RG (E0 mm) 7 c7_55 := rgN rfl
theorem c7_57_e : c7_57 = .seq c7_58 c7_59 := rfl
theorem c7_58_r : RG (E0 mm) 7 c7_58 := rgN rfl
theorem c7_59_e : c7_59 = .ret := rfl
theorem c7_60_e : c7_60 = .skip := rfl
theorem c7_61_e : c7_61 = .seq c7_62 c7_63 := rfl
theorem c7_62_r : RG (E0 mm) 7 c7_62 := rgN rfl
theorem c7_63_e : c7_63 = .ret := rfl
abbrev R7 := (Int)
def e7 : R7 → AV × Heap := fun x => (.v (.c (.d (.sc (.int .i64 x)))), [])
def m7 (e0 : Int) : Option R7 :=
  if (e0 == 0) = true then
    some (200 : Int)
  else
    if (e0 == 31) = true then
      some (403 : Int)
    else
      if (e0 == 30) = true then
        some (407 : Int)
      else
        if (e0 == 21) = true then
          some (413 : Int)
        else
          if (e0 == 32) = true then
            some (429 : Int)
          else
            if (e0 == 3) = true then
              some (431 : Int)
            else
              if (e0 == 34) = true then
                some (502 : Int)
              else
                if (e0 == 33) = true then
                  some (503 : Int)
                else
                  if (e0 == 35) = true then
                    some (504 : Int)
                  else
                    some (400 : Int)
theorem f7_t (e0 : Int) :
    callW (E0 mm) 7 [.c (.d (.sc (.int .i64 e0)))] [] = (m7 e0).map e7 := by
  rw [callW_run (body := c7_0) (res := [.tmp 2]) Try.func7 rfl rfl (by kernel_rfl)]
  simp -implicitDefEqProofs only [m7, slots1, c7_0_e, c7_1_r, (show opsOf c7_1 = _ :: _ from rfl), c7_2_e, c7_3_e, c7_4_r, (show opsOf c7_4 = _ :: _ from rfl), c7_5_e, c7_6_e, c7_7_r, (show opsOf c7_7 = _ :: _ from rfl), (show c7_8 = Code.cond _ c7_9 c7_12 from rfl), setA, setB, za, zb, zc, zd, ze, zf, zg, zh, zi, zj, zk, zl, zm, zn, zo, zp, reduceCtorEq, zE, ↓reduceIte]
  refine brB (fun yc1 => ?_) (fun yc1 => ?_)
  · simp -implicitDefEqProofs only [c7_9_e, c7_10_r, (show opsOf c7_10 = _ :: _ from rfl), c7_11_e, yc1, setA, setB, za, zb, zc, zd, ze, zf, zg, zh, zi, zj, zk, zl, zm, zn, zo, zp, reduceCtorEq, zE, ↓reduceIte]
    all_goals rfl
  · simp -implicitDefEqProofs only [c7_12_e, c7_13_r, (show opsOf c7_13 = _ :: _ from rfl), (show c7_14 = Code.cond _ c7_15 c7_18 from rfl), yc1, setA, setB, za, zb, zc, zd, ze, zf, zg, zh, zi, zj, zk, zl, zm, zn, zo, zp, reduceCtorEq, zE, ↓reduceIte]
    refine brB (fun yc2 => ?_) (fun yc2 => ?_)
    · simp -implicitDefEqProofs only [c7_15_e, c7_16_r, (show opsOf c7_16 = _ :: _ from rfl), c7_17_e, yc1, yc2, setA, setB, za, zb, zc, zd, ze, zf, zg, zh, zi, zj, zk, zl, zm, zn, zo, zp, reduceCtorEq, zE, ↓reduceIte]
      all_goals rfl
    · simp -implicitDefEqProofs only [c7_18_e, c7_19_r, (show opsOf c7_19 = _ :: _ from rfl), (show c7_20 = Code.cond _ c7_21 c7_24 from rfl), yc1, yc2, setA, setB, za, zb, zc, zd, ze, zf, zg, zh, zi, zj, zk, zl, zm, zn, zo, zp, reduceCtorEq, zE, ↓reduceIte]
      refine brB (fun yc3 => ?_) (fun yc3 => ?_)
      · simp -implicitDefEqProofs only [c7_21_e, c7_22_r, (show opsOf c7_22 = _ :: _ from rfl), c7_23_e, yc1, yc2, yc3, setA, setB, za, zb, zc, zd, ze, zf, zg, zh, zi, zj, zk, zl, zm, zn, zo, zp, reduceCtorEq, zE, ↓reduceIte]
        all_goals rfl
      · simp -implicitDefEqProofs only [c7_24_e, c7_25_r, (show opsOf c7_25 = _ :: _ from rfl), (show c7_26 = Code.cond _ c7_27 c7_30 from rfl), yc1, yc2, yc3, setA, setB, za, zb, zc, zd, ze, zf, zg, zh, zi, zj, zk, zl, zm, zn, zo, zp, reduceCtorEq, zE, ↓reduceIte]
        refine brB (fun yc4 => ?_) (fun yc4 => ?_)
        · simp -implicitDefEqProofs only [c7_27_e, c7_28_r, (show opsOf c7_28 = _ :: _ from rfl), c7_29_e, yc1, yc2, yc3, yc4, setA, setB, za, zb, zc, zd, ze, zf, zg, zh, zi, zj, zk, zl, zm, zn, zo, zp, reduceCtorEq, zE, ↓reduceIte]
          all_goals rfl
        · simp -implicitDefEqProofs only [c7_30_e, c7_31_r, (show opsOf c7_31 = _ :: _ from rfl), (show c7_32 = Code.cond _ c7_33 c7_36 from rfl), yc1, yc2, yc3, yc4, setA, setB, za, zb, zc, zd, ze, zf, zg, zh, zi, zj, zk, zl, zm, zn, zo, zp, reduceCtorEq, zE, ↓reduceIte]
          refine brB (fun yc5 => ?_) (fun yc5 => ?_)
          · simp -implicitDefEqProofs only [c7_33_e, c7_34_r, (show opsOf c7_34 = _ :: _ from rfl), c7_35_e, yc1, yc2, yc3, yc4, yc5, setA, setB, za, zb, zc, zd, ze, zf, zg, zh, zi, zj, zk, zl, zm, zn, zo, zp, reduceCtorEq, zE, ↓reduceIte]
            all_goals rfl
          · simp -implicitDefEqProofs only [c7_36_e, c7_37_r, (show opsOf c7_37 = _ :: _ from rfl), (show c7_38 = Code.cond _ c7_39 c7_42 from rfl), yc1, yc2, yc3, yc4, yc5, setA, setB, za, zb, zc, zd, ze, zf, zg, zh, zi, zj, zk, zl, zm, zn, zo, zp, reduceCtorEq, zE, ↓reduceIte]
            refine brB (fun yc6 => ?_) (fun yc6 => ?_)
            · simp -implicitDefEqProofs only [c7_39_e, c7_40_r, (show opsOf c7_40 = _ :: _ from rfl), c7_41_e, yc1, yc2, yc3, yc4, yc5, yc6, setA, setB, za, zb, zc, zd, ze, zf, zg, zh, zi, zj, zk, zl, zm, zn, zo, zp, reduceCtorEq, zE, ↓reduceIte]
              all_goals rfl
            · simp -implicitDefEqProofs only [c7_42_e, c7_43_r, (show opsOf c7_43 = _ :: _ from rfl), (show c7_44 = Code.cond _ c7_45 c7_48 from rfl), yc1, yc2, yc3, yc4, yc5, yc6, setA, setB, za, zb, zc, zd, ze, zf, zg, zh, zi, zj, zk, zl, zm, zn, zo, zp, reduceCtorEq, zE, ↓reduceIte]
              refine brB (fun yc7 => ?_) (fun yc7 => ?_)
              · simp -implicitDefEqProofs only [c7_45_e, c7_46_r, (show opsOf c7_46 = _ :: _ from rfl), c7_47_e, yc1, yc2, yc3, yc4, yc5, yc6, yc7, setA, setB, za, zb, zc, zd, ze, zf, zg, zh, zi, zj, zk, zl, zm, zn, zo, zp, reduceCtorEq, zE, ↓reduceIte]
                all_goals rfl
              · simp -implicitDefEqProofs only [c7_48_e, c7_49_r, (show opsOf c7_49 = _ :: _ from rfl), (show c7_50 = Code.cond _ c7_51 c7_54 from rfl), yc1, yc2, yc3, yc4, yc5, yc6, yc7, setA, setB, za, zb, zc, zd, ze, zf, zg, zh, zi, zj, zk, zl, zm, zn, zo, zp, reduceCtorEq, zE, ↓reduceIte]
                refine brB (fun yc8 => ?_) (fun yc8 => ?_)
                · simp -implicitDefEqProofs only [c7_51_e, c7_52_r, (show opsOf c7_52 = _ :: _ from rfl), c7_53_e, yc1, yc2, yc3, yc4, yc5, yc6, yc7, yc8, setA, setB, za, zb, zc, zd, ze, zf, zg, zh, zi, zj, zk, zl, zm, zn, zo, zp, reduceCtorEq, zE, ↓reduceIte]
                  all_goals rfl
                · simp -implicitDefEqProofs only [c7_54_e, c7_55_r, (show opsOf c7_55 = _ :: _ from rfl), (show c7_56 = Code.cond _ c7_57 c7_60 from rfl), yc1, yc2, yc3, yc4, yc5, yc6, yc7, yc8, setA, setB, za, zb, zc, zd, ze, zf, zg, zh, zi, zj, zk, zl, zm, zn, zo, zp, reduceCtorEq, zE, ↓reduceIte]
                  refine brB (fun yc9 => ?_) (fun yc9 => ?_)
                  · simp -implicitDefEqProofs only [c7_57_e, c7_58_r, (show opsOf c7_58 = _ :: _ from rfl), c7_59_e, yc1, yc2, yc3, yc4, yc5, yc6, yc7, yc8, yc9, setA, setB, za, zb, zc, zd, ze, zf, zg, zh, zi, zj, zk, zl, zm, zn, zo, zp, reduceCtorEq, zE, ↓reduceIte]
                    all_goals rfl
                  · simp -implicitDefEqProofs only [c7_60_e, c7_61_e, c7_62_r, (show opsOf c7_62 = _ :: _ from rfl), c7_63_e, yc1, yc2, yc3, yc4, yc5, yc6, yc7, yc8, yc9, setA, setB, za, zb, zc, zd, ze, zf, zg, zh, zi, zj, zk, zl, zm, zn, zo, zp, reduceCtorEq, zE, ↓reduceIte]
                    all_goals rfl
noncomputable def c13_0 : Code := bodyOf Try.f13
def c13_1 := cA c13_0
def c13_2 := cB c13_0
def c13_3 := cA c13_2
def c13_4 := cB c13_2
theorem c13_0_e : c13_0 = .seq c13_1 c13_2 := rfl
theorem c13_1_r : RG (E0 mm) 13 c13_1 := rgN rfl
theorem c13_2_e : c13_2 = .seq c13_3 c13_4 := rfl
theorem c13_3_r : RG (E0 mm) 13 c13_3 := rgN rfl
theorem c13_4_e : c13_4 = .ret := rfl
abbrev R13 := (Unit)
def e13 : R13 → AV × Heap := fun x => (.v (.agg [.d (.sc (.int .i64 400)), .d (.sc (.int .i64 403)), .d (.sc (.int .i64 407)), .d (.sc (.int .i64 413)), .d (.sc (.int .i64 429)), .d (.sc (.int .i64 431)), .d (.sc (.int .i64 501)), .d (.sc (.int .i64 502)), .d (.sc (.int .i64 503)), .d (.sc (.int .i64 504))]), [])
def m13  : Option R13 :=
  some ()
theorem f13_t  :
    callW (E0 mm) 13 [] [] = (m13).map e13 := by
  rw [callW_run (body := c13_0) (res := [.cell 0 36]) Try.func13 rfl rfl (by kernel_rfl)]
  simp -implicitDefEqProofs only [m13, slots0, c13_0_e, c13_1_r, (show opsOf c13_1 = _ :: _ from rfl), zc36, ao1, c13_2_e, c13_3_r, (show opsOf c13_3 = _ :: _ from rfl), Try.underlying36, sz3, sz36, c13_4_e, ag36, setA, setB, za, zb, zc, zd, ze, zf, zg, zh, zi, zj, zk, zl, zm, zn, zo, zp, reduceCtorEq, zE, ↓reduceIte]
  all_goals rfl
noncomputable def c20_0 : Code := bodyOf Try.f20
def c20_1 := cA c20_0
def c20_2 := cB c20_0
def c20_3 := cA c20_2
def c20_4 := cA c20_3
def c20_5 := cB c20_3
def c20_6 := cA c20_5
def c20_7 := cA c20_6
def c20_8 := cA c20_7
def c20_9 := cB c20_7
def c20_10 := cA c20_9
def c20_11 := cA c20_10
def c20_12 := cB c20_10
def c20_13 := cB c20_9
def c20_14 := cA c20_13
def c20_15 := cA c20_14
def c20_16 := cA c20_15
def c20_17 := cB c20_15
def c20_18 := cA c20_17
def c20_19 := cB c20_17
def c20_20 := cA c20_19
def c20_21 := cA c20_20
def c20_22 := cB c20_20
def c20_23 := cB c20_19
def c20_24 := cB c20_13
def c20_25 := cB c20_2
def c20_26 := cA c20_25
def c20_27 := cB c20_25
theorem c20_0_e : c20_0 = .seq c20_1 c20_2 := rfl
theorem c20_1_r : RG (E0 mm) 20 c20_1 := rgN rfl
theorem c20_2_e : c20_2 = .seq c20_3 c20_25 := rfl
theorem c20_3_e : c20_3 = .seq c20_4 c20_5 := rfl
theorem c20_4_r : RG (E0 mm) 20 c20_4 := rgN rfl
theorem c20_5_e : c20_5 = .block 0 c20_6 := rfl
theorem c20_6_l (m : Nat) (st : St) : den (E0 mm) 20 m (callW (E0 mm)) itW c20_6 none st = loopD itW (loopF (E0 mm) 20 m (callW (E0 mm)) itW c20_7 [(0, .keep), (1, .keep), (7, .keep), (8, .keep)]) (canon m [(0, .keep), (1, .keep), (7, .keep), (8, .keep)] st) := rfl
theorem c20_7_e : c20_7 = .seq c20_8 c20_9 := rfl
theorem c20_8_r : RG (E0 mm) 20 c20_8 := rgN rfl
theorem c20_9_e : c20_9 = .seq c20_10 c20_13 := rfl
theorem c20_11_e : c20_11 = .skip := rfl
theorem c20_12_e : c20_12 = .exit 0 := rfl
theorem c20_13_e : c20_13 = .seq c20_14 c20_24 := rfl
theorem c20_14_e : c20_14 = .block 1 c20_15 := rfl
theorem c20_15_e : c20_15 = .seq c20_16 c20_17 := rfl
theorem c20_16_r : RG (E0 mm) 20 c20_16 := rgN rfl
theorem c20_17_e : c20_17 = .seq c20_18 c20_19 := rfl
theorem c20_18_r : RG (E0 mm) 20 c20_18 := rgN rfl
theorem c20_20_e : c20_20 = .seq c20_21 c20_22 := rfl
theorem c20_21_r : RG (E0 mm) 20 c20_21 := rgN rfl
theorem c20_22_e : c20_22 = .ret := rfl
theorem c20_23_e : c20_23 = .skip := rfl
theorem c20_24_r : RG (E0 mm) 20 c20_24 := rgN rfl
theorem c20_25_e : c20_25 = .seq c20_26 c20_27 := rfl
theorem c20_26_r : RG (E0 mm) 20 c20_26 := rgN rfl
theorem c20_27_e : c20_27 = .ret := rfl
abbrev R20 := (Int)
def e20 : R20 → AV × Heap := fun x => (.v (.c (.d (.sc (.int .i64 x)))), [.cells [.d (.sc (.int .i64 400)), .d (.sc (.int .i64 403)), .d (.sc (.int .i64 407)), .d (.sc (.int .i64 413)), .d (.sc (.int .i64 429)), .d (.sc (.int .i64 431)), .d (.sc (.int .i64 501)), .d (.sc (.int .i64 502)), .d (.sc (.int .i64 503)), .d (.sc (.int .i64 504))]])
def K20_6 : Option (Ex × St) → Option (AV × Heap) := fun r => bodyD (E0 mm) [.tmp 4] 1 false (seqD (E0 mm) 20 1 (callW (E0 mm)) itW c20_25 (blockD 0 (r)))
def en20_6 : (Int × Int × Int) → X := fun x => (none, [.v (.c (.slc 0 0 1 10 (some 10))), .v (.c (.d (.sc (.int .i64 x.1)))), .v (.c (.d (.sc (.int .i64 x.2.1)))), .v (.c (.d (.sc (.int .i64 x.2.2))))], [.cells [.d (.sc (.int .i64 400)), .d (.sc (.int .i64 403)), .d (.sc (.int .i64 407)), .d (.sc (.int .i64 413)), .d (.sc (.int .i64 429)), .d (.sc (.int .i64 431)), .d (.sc (.int .i64 501)), .d (.sc (.int .i64 502)), .d (.sc (.int .i64 503)), .d (.sc (.int .i64 504))]])
def j20_25  : Option R20 :=
  some (-1 : Int)
theorem j20_25_t   (sl : Nat → AV)  :
    bodyD (E0 mm) [.tmp 4] 1 false (den (E0 mm) 20 1 (callW (E0 mm)) itW c20_25 none ⟨sl, [.cells [.d (.sc (.int .i64 400)), .d (.sc (.int .i64 403)), .d (.sc (.int .i64 407)), .d (.sc (.int .i64 413)), .d (.sc (.int .i64 429)), .d (.sc (.int .i64 431)), .d (.sc (.int .i64 501)), .d (.sc (.int .i64 502)), .d (.sc (.int .i64 503)), .d (.sc (.int .i64 504))]]⟩) = (j20_25).map e20 := by
  simp -implicitDefEqProofs only [j20_25, c20_25_e, c20_26_r, (show opsOf c20_26 = _ :: _ from rfl), c20_27_e, setA, setB, za, zb, zc, zd, ze, zf, zg, zh, zi, zj, zk, zl, zm, zn, zo, zp, reduceCtorEq, zE, ↓reduceIte]
  all_goals rfl
def s20_6 (v1 t7 t8 : Int) : Option ((Int × Int × Int) ⊕ R20) :=
  if (decide (t8 < t7)) = true then
    if 0 ≤ t8 ∧ t8 < 10 then
      if (v1 == (([(400 : Int), (403 : Int), (407 : Int), (413 : Int), (429 : Int), (431 : Int), (501 : Int), (502 : Int), (503 : Int), (504 : Int)] : List Int).getD t8.toNat default)) = true then
        some (.inr t8)
      else
        some (.inl (v1, t7, (w64 (t8 + 1))))
    else none
  else
    (j20_25).map .inr
theorem s20_6_t (v1 t7 t8 : Int) :
    stepE (K20_6 (mm := mm)) (loopF (E0 mm) 20 1 (callW (E0 mm)) itW c20_7 [(0, .keep), (1, .keep), (7, .keep), (8, .keep)] (none, [.v (.c (.slc 0 0 1 10 (some 10))), .v (.c (.d (.sc (.int .i64 v1)))), .v (.c (.d (.sc (.int .i64 t7)))), .v (.c (.d (.sc (.int .i64 t8))))], [.cells [.d (.sc (.int .i64 400)), .d (.sc (.int .i64 403)), .d (.sc (.int .i64 407)), .d (.sc (.int .i64 413)), .d (.sc (.int .i64 429)), .d (.sc (.int .i64 431)), .d (.sc (.int .i64 501)), .d (.sc (.int .i64 502)), .d (.sc (.int .i64 503)), .d (.sc (.int .i64 504))]])) = (s20_6 v1 t7 t8).map (sm en20_6 e20) := by
  simp -implicitDefEqProofs only [s20_6, loopF_eq, c20_7_e, c20_8_r, (show opsOf c20_8 = _ :: _ from rfl), c20_9_e, (show c20_10 = Code.cond _ c20_11 c20_12 from rfl), setA, setB, za, zb, zc, zd, ze, zf, zg, zh, zi, zj, zk, zl, zm, zn, zo, zp, reduceCtorEq, zE, ↓reduceIte]
  refine brB (fun yc1 => ?_) (fun yc1 => ?_)
  · simp -implicitDefEqProofs only [c20_11_e, c20_13_e, c20_14_e, c20_15_e, c20_16_r, (show opsOf c20_16 = _ :: _ from rfl), c20_17_e, c20_18_r, (show opsOf c20_18 = _ :: _ from rfl), Try.underlying41, sz3, yc1, setA, setB, za, zb, zc, zd, ze, zf, zg, zh, zi, zj, zk, zl, zm, zn, zo, zp, reduceCtorEq, zE, ↓reduceIte]
    refine brP (fun yc2 => ?_) (fun yc2 => ?_)
    · have yd3 : t8.toNat < 10 := by omega
      simp -implicitDefEqProofs only [sz3, ag3, ar3, (show c20_19 = Code.cond _ c20_20 c20_23 from rfl), yc1, yc2, yd3, setA, setB, za, zb, zc, zd, ze, zf, zg, zh, zi, zj, zk, zl, zm, zn, zo, zp, reduceCtorEq, zE, ↓reduceIte]
      refine brB (fun yc4 => ?_) (fun yc4 => ?_)
      · simp -implicitDefEqProofs only [c20_20_e, c20_21_r, (show opsOf c20_21 = _ :: _ from rfl), c20_22_e, K20_6, yc1, yc2, yd3, yc4, setA, setB, za, zb, zc, zd, ze, zf, zg, zh, zi, zj, zk, zl, zm, zn, zo, zp, reduceCtorEq, zE, ↓reduceIte]
        all_goals rfl
      · simp -implicitDefEqProofs only [c20_23_e, c20_24_r, (show opsOf c20_24 = _ :: _ from rfl), yc1, yc2, yd3, yc4, setA, setB, za, zb, zc, zd, ze, zf, zg, zh, zi, zj, zk, zl, zm, zn, zo, zp, reduceCtorEq, zE, ↓reduceIte]
        all_goals rfl
    · rw [if_neg yc2]; rfl
  · simp -implicitDefEqProofs only [c20_12_e, K20_6, yc1, setA, setB, za, zb, zc, zd, ze, zf, zg, zh, zi, zj, zk, zl, zm, zn, zo, zp, reduceCtorEq, zE, ↓reduceIte]
    exact mi (j20_25_t _)
def l20_6 (v1 t7 t8 : Int) : Option R20 := iter (fun x : (Int × Int × Int) => s20_6 x.1 x.2.1 x.2.2) (v1, t7, t8)
theorem l20_6_t (v1 t7 t8 : Int) : bodyD (E0 mm) [.tmp 4] 1 false (seqD (E0 mm) 20 1 (callW (E0 mm)) itW c20_25 (blockD 0 (itW (loopF (E0 mm) 20 1 (callW (E0 mm)) itW c20_7 [(0, .keep), (1, .keep), (7, .keep), (8, .keep)]) (none, [.v (.c (.slc 0 0 1 10 (some 10))), .v (.c (.d (.sc (.int .i64 v1)))), .v (.c (.d (.sc (.int .i64 t7)))), .v (.c (.d (.sc (.int .i64 t8))))], [.cells [.d (.sc (.int .i64 400)), .d (.sc (.int .i64 403)), .d (.sc (.int .i64 407)), .d (.sc (.int .i64 413)), .d (.sc (.int .i64 429)), .d (.sc (.int .i64 431)), .d (.sc (.int .i64 501)), .d (.sc (.int .i64 502)), .d (.sc (.int .i64 503)), .d (.sc (.int .i64 504))]])))) = (l20_6 v1 t7 t8).map e20 :=
  it_sim (K := (K20_6 (mm := mm))) rfl (enc := en20_6) (fun x => s20_6_t x.1 x.2.1 x.2.2) (v1, t7, t8)
def m20 (v : Int) : Option R20 :=
  l20_6 v (10 : Int) (0 : Int)
theorem f20_t (v : Int) :
    callW (E0 mm) 20 [.c (.slc 0 0 1 10 (some 10)), .c (.d (.sc (.int .i64 v)))] [.cells [.d (.sc (.int .i64 400)), .d (.sc (.int .i64 403)), .d (.sc (.int .i64 407)), .d (.sc (.int .i64 413)), .d (.sc (.int .i64 429)), .d (.sc (.int .i64 431)), .d (.sc (.int .i64 501)), .d (.sc (.int .i64 502)), .d (.sc (.int .i64 503)), .d (.sc (.int .i64 504))]] = (m20 v).map e20 := by
  rw [callW_run (body := c20_0) (res := [.tmp 4]) Try.func20 rfl rfl (by kernel_rfl)]
  simp -implicitDefEqProofs only [m20, slots2, c20_0_e, c20_1_r, (show opsOf c20_1 = _ :: _ from rfl), c20_2_e, c20_3_e, c20_4_r, (show opsOf c20_4 = _ :: _ from rfl), Try.underlying41, c20_5_e, c20_6_l, setA, setB, za, zb, zc, zd, ze, zf, zg, zh, zi, zj, zk, zl, zm, zn, zo, zp, reduceCtorEq, zE, ↓reduceIte]
  exact l20_6_t v (10 : Int) (0 : Int)
noncomputable def c14_0 : Code := bodyOf Try.f14
def c14_1 := cA c14_0
def c14_2 := cB c14_0
def c14_3 := cA c14_2
def c14_4 := cB c14_2
theorem c14_0_e : c14_0 = .seq c14_1 c14_2 := rfl
theorem c14_1_r : RG (E0 mm) 14 c14_1 := rgN rfl
theorem c14_2_e : c14_2 = .seq c14_3 c14_4 := rfl
theorem c14_3_r : RG (E0 mm) 14 c14_3 := rgN rfl
theorem c14_4_e : c14_4 = .ret := rfl
abbrev R14 := (Bool)
def e14 : R14 → AV × Heap := fun x => (.v (.c (.d (.sc (.bool x)))), [.cells [.d (.sc (.int .i64 400)), .d (.sc (.int .i64 403)), .d (.sc (.int .i64 407)), .d (.sc (.int .i64 413)), .d (.sc (.int .i64 429)), .d (.sc (.int .i64 431)), .d (.sc (.int .i64 501)), .d (.sc (.int .i64 502)), .d (.sc (.int .i64 503)), .d (.sc (.int .i64 504))]])
def m14 (v : Int) : Option R14 :=
  (m20 v).bind fun yr2 =>
    some (decide (0 ≤ yr2))
theorem f14_t (v : Int) :
    callW (E0 mm) 14 [.c (.slc 0 0 1 10 (some 10)), .c (.d (.sc (.int .i64 v)))] [.cells [.d (.sc (.int .i64 400)), .d (.sc (.int .i64 403)), .d (.sc (.int .i64 407)), .d (.sc (.int .i64 413)), .d (.sc (.int .i64 429)), .d (.sc (.int .i64 431)), .d (.sc (.int .i64 501)), .d (.sc (.int .i64 502)), .d (.sc (.int .i64 503)), .d (.sc (.int .i64 504))]] = (m14 v).map e14 := by
  rw [callW_run (body := c14_0) (res := [.tmp 4]) Try.func14 rfl rfl (by kernel_rfl)]
  simp -implicitDefEqProofs only [m14, slots2, c14_0_e, c14_1_r, (show opsOf c14_1 = _ :: _ from rfl), c14_2_e, c14_3_r, (show opsOf c14_3 = _ :: _ from rfl), ent20, prm20, f20_t, setA, setB, za, zb, zc, zd, ze, zf, zg, zh, zi, zj, zk, zl, zm, zn, zo, zp, reduceCtorEq, zE, ↓reduceIte]
  refine brM (fun yc1 => ?_) (fun yr2 yc1 => ?_)
  · rw [yc1]; rfl
  · simp -implicitDefEqProofs only [e20, c14_4_e, yc1, setA, setB, za, zb, zc, zd, ze, zf, zg, zh, zi, zj, zk, zl, zm, zn, zo, zp, reduceCtorEq, zE, ↓reduceIte]
    all_goals rfl
noncomputable def c15_0 : Code := bodyOf Try.f15
def c15_1 := cA c15_0
def c15_2 := cB c15_0
def c15_3 := cA c15_2
def c15_4 := cB c15_2
theorem c15_0_e : c15_0 = .seq c15_1 c15_2 := rfl
theorem c15_1_r : RG (E0 mm) 15 c15_1 := rgN rfl
theorem c15_2_e : c15_2 = .seq c15_3 c15_4 := rfl
theorem c15_3_r : RG (E0 mm) 15 c15_3 := rgN rfl
theorem c15_4_e : c15_4 = .ret := rfl
abbrev R15 := (Bs)
def e15 : R15 → AV × Heap := fun x => (.v (.c (.d (.sc (.string (S x))))), [])
def m15 (status : Int) : Option R15 :=
  if (status == 200) = true then
    some ([79, 75] : Bs)
  else
    if (status == 304) = true then
      some ([78, 111, 116, 32, 77, 111, 100, 105, 102, 105, 101, 100] : Bs)
    else
      if (status == 400) = true then
        some ([66, 97, 100, 32, 82, 101, 113, 117, 101, 115, 116] : Bs)
      else
        if (status == 403) = true then
          some ([70, 111, 114, 98, 105, 100, 100, 101, 110] : Bs)
        else
          if (status == 407) = true then
            some ([80, 114, 111, 120, 121, 32, 65, 117, 116, 104, 101, 110, 116, 105, 99, 97, 116, 105, 111, 110, 32, 82, 101, 113, 117, 105, 114, 101, 100] : Bs)
          else
            if (status == 413) = true then
              some ([67, 111, 110, 116, 101, 110, 116, 32, 84, 111, 111, 32, 76, 97, 114, 103, 101] : Bs)
            else
              if (status == 429) = true then
                some ([84, 111, 111, 32, 77, 97, 110, 121, 32, 82, 101, 113, 117, 101, 115, 116, 115] : Bs)
              else
                if (status == 431) = true then
                  some ([82, 101, 113, 117, 101, 115, 116, 32, 72, 101, 97, 100, 101, 114, 32, 70, 105, 101, 108, 100, 115, 32, 84, 111, 111, 32, 76, 97, 114, 103, 101] : Bs)
                else
                  if (status == 501) = true then
                    some ([78, 111, 116, 32, 73, 109, 112, 108, 101, 109, 101, 110, 116, 101, 100] : Bs)
                  else
                    if (status == 502) = true then
                      some ([66, 97, 100, 32, 71, 97, 116, 101, 119, 97, 121] : Bs)
                    else
                      if (status == 503) = true then
                        some ([83, 101, 114, 118, 105, 99, 101, 32, 85, 110, 97, 118, 97, 105, 108, 97, 98, 108, 101] : Bs)
                      else
                        if (status == 504) = true then
                          some ([71, 97, 116, 101, 119, 97, 121, 32, 84, 105, 109, 101, 111, 117, 116] : Bs)
                        else
                          some ([] : Bs)
theorem f15_t (status : Int) :
    callW (E0 mm) 15 [.c (.d (.sc (.int .i64 status)))] [] = (m15 status).map e15 := by
  rw [callW_run (body := c15_0) (res := [.tmp 2]) Try.func15 rfl rfl (by kernel_rfl)]
  simp -implicitDefEqProofs only [m15, slots1, c15_0_e, c15_1_r, (show opsOf c15_1 = _ :: _ from rfl), c15_2_e, c15_3_r, (show opsOf c15_3 = _ :: _ from rfl), Try.underlying48, Try.underlying3, zv9, setA, setB, za, zb, zc, zd, ze, zf, zg, zh, zi, zj, zk, zl, zm, zn, zo, zp, reduceCtorEq, zE, ↓reduceIte]
  refine brB (fun yc1 => ?_) (fun yc1 => ?_)
  · simp -implicitDefEqProofs only [c15_4_e, yc1, setA, setB, za, zb, zc, zd, ze, zf, zg, zh, zi, zj, zk, zl, zm, zn, zo, zp, reduceCtorEq, zE, ↓reduceIte]
    all_goals rfl
  · simp -implicitDefEqProofs only [yc1, setA, setB, za, zb, zc, zd, ze, zf, zg, zh, zi, zj, zk, zl, zm, zn, zo, zp, reduceCtorEq, zE, ↓reduceIte]
    refine brB (fun yc2 => ?_) (fun yc2 => ?_)
    · simp -implicitDefEqProofs only [c15_4_e, yc1, yc2, setA, setB, za, zb, zc, zd, ze, zf, zg, zh, zi, zj, zk, zl, zm, zn, zo, zp, reduceCtorEq, zE, ↓reduceIte]
      all_goals rfl
    · simp -implicitDefEqProofs only [yc1, yc2, setA, setB, za, zb, zc, zd, ze, zf, zg, zh, zi, zj, zk, zl, zm, zn, zo, zp, reduceCtorEq, zE, ↓reduceIte]
      refine brB (fun yc3 => ?_) (fun yc3 => ?_)
      · simp -implicitDefEqProofs only [c15_4_e, yc1, yc2, yc3, setA, setB, za, zb, zc, zd, ze, zf, zg, zh, zi, zj, zk, zl, zm, zn, zo, zp, reduceCtorEq, zE, ↓reduceIte]
        all_goals rfl
      · simp -implicitDefEqProofs only [yc1, yc2, yc3, setA, setB, za, zb, zc, zd, ze, zf, zg, zh, zi, zj, zk, zl, zm, zn, zo, zp, reduceCtorEq, zE, ↓reduceIte]
        refine brB (fun yc4 => ?_) (fun yc4 => ?_)
        · simp -implicitDefEqProofs only [c15_4_e, yc1, yc2, yc3, yc4, setA, setB, za, zb, zc, zd, ze, zf, zg, zh, zi, zj, zk, zl, zm, zn, zo, zp, reduceCtorEq, zE, ↓reduceIte]
          all_goals rfl
        · simp -implicitDefEqProofs only [yc1, yc2, yc3, yc4, setA, setB, za, zb, zc, zd, ze, zf, zg, zh, zi, zj, zk, zl, zm, zn, zo, zp, reduceCtorEq, zE, ↓reduceIte]
          refine brB (fun yc5 => ?_) (fun yc5 => ?_)
          · simp -implicitDefEqProofs only [c15_4_e, yc1, yc2, yc3, yc4, yc5, setA, setB, za, zb, zc, zd, ze, zf, zg, zh, zi, zj, zk, zl, zm, zn, zo, zp, reduceCtorEq, zE, ↓reduceIte]
            all_goals rfl
          · simp -implicitDefEqProofs only [yc1, yc2, yc3, yc4, yc5, setA, setB, za, zb, zc, zd, ze, zf, zg, zh, zi, zj, zk, zl, zm, zn, zo, zp, reduceCtorEq, zE, ↓reduceIte]
            refine brB (fun yc6 => ?_) (fun yc6 => ?_)
            · simp -implicitDefEqProofs only [c15_4_e, yc1, yc2, yc3, yc4, yc5, yc6, setA, setB, za, zb, zc, zd, ze, zf, zg, zh, zi, zj, zk, zl, zm, zn, zo, zp, reduceCtorEq, zE, ↓reduceIte]
              all_goals rfl
            · simp -implicitDefEqProofs only [yc1, yc2, yc3, yc4, yc5, yc6, setA, setB, za, zb, zc, zd, ze, zf, zg, zh, zi, zj, zk, zl, zm, zn, zo, zp, reduceCtorEq, zE, ↓reduceIte]
              refine brB (fun yc7 => ?_) (fun yc7 => ?_)
              · simp -implicitDefEqProofs only [c15_4_e, yc1, yc2, yc3, yc4, yc5, yc6, yc7, setA, setB, za, zb, zc, zd, ze, zf, zg, zh, zi, zj, zk, zl, zm, zn, zo, zp, reduceCtorEq, zE, ↓reduceIte]
                all_goals rfl
              · simp -implicitDefEqProofs only [yc1, yc2, yc3, yc4, yc5, yc6, yc7, setA, setB, za, zb, zc, zd, ze, zf, zg, zh, zi, zj, zk, zl, zm, zn, zo, zp, reduceCtorEq, zE, ↓reduceIte]
                refine brB (fun yc8 => ?_) (fun yc8 => ?_)
                · simp -implicitDefEqProofs only [c15_4_e, yc1, yc2, yc3, yc4, yc5, yc6, yc7, yc8, setA, setB, za, zb, zc, zd, ze, zf, zg, zh, zi, zj, zk, zl, zm, zn, zo, zp, reduceCtorEq, zE, ↓reduceIte]
                  all_goals rfl
                · simp -implicitDefEqProofs only [yc1, yc2, yc3, yc4, yc5, yc6, yc7, yc8, setA, setB, za, zb, zc, zd, ze, zf, zg, zh, zi, zj, zk, zl, zm, zn, zo, zp, reduceCtorEq, zE, ↓reduceIte]
                  refine brB (fun yc9 => ?_) (fun yc9 => ?_)
                  · simp -implicitDefEqProofs only [c15_4_e, yc1, yc2, yc3, yc4, yc5, yc6, yc7, yc8, yc9, setA, setB, za, zb, zc, zd, ze, zf, zg, zh, zi, zj, zk, zl, zm, zn, zo, zp, reduceCtorEq, zE, ↓reduceIte]
                    all_goals rfl
                  · simp -implicitDefEqProofs only [yc1, yc2, yc3, yc4, yc5, yc6, yc7, yc8, yc9, setA, setB, za, zb, zc, zd, ze, zf, zg, zh, zi, zj, zk, zl, zm, zn, zo, zp, reduceCtorEq, zE, ↓reduceIte]
                    refine brB (fun yc10 => ?_) (fun yc10 => ?_)
                    · simp -implicitDefEqProofs only [c15_4_e, yc1, yc2, yc3, yc4, yc5, yc6, yc7, yc8, yc9, yc10, setA, setB, za, zb, zc, zd, ze, zf, zg, zh, zi, zj, zk, zl, zm, zn, zo, zp, reduceCtorEq, zE, ↓reduceIte]
                      all_goals rfl
                    · simp -implicitDefEqProofs only [yc1, yc2, yc3, yc4, yc5, yc6, yc7, yc8, yc9, yc10, setA, setB, za, zb, zc, zd, ze, zf, zg, zh, zi, zj, zk, zl, zm, zn, zo, zp, reduceCtorEq, zE, ↓reduceIte]
                      refine brB (fun yc11 => ?_) (fun yc11 => ?_)
                      · simp -implicitDefEqProofs only [c15_4_e, yc1, yc2, yc3, yc4, yc5, yc6, yc7, yc8, yc9, yc10, yc11, setA, setB, za, zb, zc, zd, ze, zf, zg, zh, zi, zj, zk, zl, zm, zn, zo, zp, reduceCtorEq, zE, ↓reduceIte]
                        all_goals rfl
                      · simp -implicitDefEqProofs only [yc1, yc2, yc3, yc4, yc5, yc6, yc7, yc8, yc9, yc10, yc11, setA, setB, za, zb, zc, zd, ze, zf, zg, zh, zi, zj, zk, zl, zm, zn, zo, zp, reduceCtorEq, zE, ↓reduceIte]
                        refine brB (fun yc12 => ?_) (fun yc12 => ?_)
                        · simp -implicitDefEqProofs only [c15_4_e, yc1, yc2, yc3, yc4, yc5, yc6, yc7, yc8, yc9, yc10, yc11, yc12, setA, setB, za, zb, zc, zd, ze, zf, zg, zh, zi, zj, zk, zl, zm, zn, zo, zp, reduceCtorEq, zE, ↓reduceIte]
                          all_goals rfl
                        · simp -implicitDefEqProofs only [c15_4_e, yc1, yc2, yc3, yc4, yc5, yc6, yc7, yc8, yc9, yc10, yc11, yc12, setA, setB, za, zb, zc, zd, ze, zf, zg, zh, zi, zj, zk, zl, zm, zn, zo, zp, reduceCtorEq, zE, ↓reduceIte]
                          all_goals rfl
noncomputable def c5_0 : Code := bodyOf Try.f5
def c5_1 := cA c5_0
def c5_2 := cB c5_0
def c5_3 := cA c5_2
def c5_4 := cB c5_2
def c5_5 := cA c5_4
def c5_6 := cA c5_5
def c5_7 := cB c5_5
def c5_8 := cA c5_7
def c5_9 := cB c5_7
def c5_10 := cB c5_4
def c5_11 := cA c5_10
def c5_12 := cB c5_10
def c5_13 := cA c5_12
def c5_14 := cA c5_13
def c5_15 := cB c5_13
def c5_16 := cA c5_15
def c5_17 := cB c5_15
def c5_18 := cB c5_12
def c5_19 := cA c5_18
def c5_20 := cB c5_18
def c5_21 := cA c5_20
def c5_22 := cB c5_20
theorem c5_0_e : c5_0 = .seq c5_1 c5_2 := rfl
theorem c5_1_r : RG (E0 mm) 5 c5_1 := rgN rfl
theorem c5_2_e : c5_2 = .seq c5_3 c5_4 := rfl
theorem c5_3_r : RG (E0 mm) 5 c5_3 := rgN rfl
theorem c5_4_e : c5_4 = .seq c5_5 c5_10 := rfl
theorem c5_5_e : c5_5 = .seq c5_6 c5_7 := rfl
theorem c5_6_r : RG (E0 mm) 5 c5_6 := rgN rfl
theorem c5_8_r : RG (E0 mm) 5 c5_8 := rgN rfl
theorem c5_9_e : c5_9 = .skip := rfl
theorem c5_10_e : c5_10 = .seq c5_11 c5_12 := rfl
theorem c5_11_r : RG (E0 mm) 5 c5_11 := rgN rfl
theorem c5_12_e : c5_12 = .seq c5_13 c5_18 := rfl
theorem c5_13_e : c5_13 = .seq c5_14 c5_15 := rfl
theorem c5_14_r : RG (E0 mm) 5 c5_14 := rgN rfl
theorem c5_16_r : RG (E0 mm) 5 c5_16 := rgN rfl
theorem c5_17_e : c5_17 = .skip := rfl
theorem c5_18_e : c5_18 = .seq c5_19 c5_20 := rfl
theorem c5_19_r : RG (E0 mm) 5 c5_19 := rgN rfl
theorem c5_20_e : c5_20 = .seq c5_21 c5_22 := rfl
theorem c5_21_r : RG (E0 mm) 5 c5_21 := rgN rfl
theorem c5_22_e : c5_22 = .ret := rfl
abbrev R5 := (Int × Bs × Int × Bool × List (Bs × Bs) × Bool × List UInt8)
def e5 : R5 → AV × Heap := fun x => (.v (.agg [.d (.sc (.int .i64 x.1)), .d (.sc (.string (S x.2.1))), .d (.sc (.int .i64 x.2.2.1)), .own x.2.2.2.1 (enL enSS x.2.2.2.2.1) 0, .d (.lst x.2.2.2.2.2.1 (enL enB x.2.2.2.2.2.2))]), [.row x.2.2.2.2.1.length (rz x.2.2.2.1 2)])
def j5_18 (h0_0 : Int) (h0_1 : Bs) (h0_2 : Int) (h0_3_0 : Bool) (h0_3_1 : List (Bs × Bs)) (h0_4_0 : Bool) (h0_4_1 : List UInt8) (h3_0 : Int) (h3_1 : Bs) (h3_2 : Int) (h3_3_0 : Bool) (h3_3_1 : List (Bs × Bs)) (h3_4_0 : Bool) (h3_4_1 : List UInt8) : Option R5 :=
  if h3_1.length + 1 < 9223372036854775808 then
    some (h3_0, h3_1, h3_2, h3_3_0, h3_3_1, false, (h3_1 ++ ([10] : Bs)))
  else none
theorem j5_18_t (h0_0 : Int) (h0_1 : Bs) (h0_2 : Int) (h0_3_0 : Bool) (h0_3_1 : List (Bs × Bs)) (h0_4_0 : Bool) (h0_4_1 : List UInt8) (h3_0 : Int) (h3_1 : Bs) (h3_2 : Int) (h3_3_0 : Bool) (h3_3_1 : List (Bs × Bs)) (h3_4_0 : Bool) (h3_4_1 : List UInt8) (g1 g4 : Ob) (sl : Nat → AV) (zq2 : sl 2 = .v (.c (.ptr 0 0))) (zq4 : sl 4 = .v (.c (.ptr 3 0))) :
    bodyD (E0 mm) [.cell 2 26] 0 false (den (E0 mm) 5 0 (callW (E0 mm)) itW c5_18 none ⟨sl, [.cells [.d (.sc (.int .i64 h0_0)), .d (.sc (.string (S h0_1))), .d (.sc (.int .i64 h0_2)), .d (.lst h0_3_0 (enL enSS h0_3_1)), .d (.lst h0_4_0 (enL enB h0_4_1))], g1, .row h3_3_1.length (rz h3_3_0 2), .cells [.d (.sc (.int .i64 h3_0)), .d (.sc (.string (S h3_1))), .d (.sc (.int .i64 h3_2)), .own h3_3_0 (enL enSS h3_3_1) 2, .d (.lst h3_4_0 (enL enB h3_4_1))], g4]⟩) = (j5_18 h0_0 h0_1 h0_2 h0_3_0 h0_3_1 h0_4_0 h0_4_1 h3_0 h3_1 h3_2 h3_3_0 h3_3_1 h3_4_0 h3_4_1).map e5 := by
  simp -implicitDefEqProofs only [j5_18, c5_18_e, c5_19_r, (show opsOf c5_19 = _ :: _ from rfl), Try.underlying26, sz9, ag9, zq2, zq4, setA, setB, za, zb, zc, zd, ze, zf, zg, zh, zi, zj, zk, zl, zm, zn, zo, zp, reduceCtorEq, zE, ↓reduceIte]
  refine brP (fun yc9 => ?_) (fun yc9 => ?_)
  · simp -implicitDefEqProofs only [Try.underlying9, Try.underlying24, Try.underlying5, hd14, rw15, Try.underlying26, sz24, c5_20_e, c5_21_r, (show opsOf c5_21 = _ :: _ from rfl), sz26, ag26, c5_22_e, zq2, zq4, yc9, setA, setB, za, zb, zc, zd, ze, zf, zg, zh, zi, zj, zk, zl, zm, zn, zo, zp, reduceCtorEq, zE, ↓reduceIte]
    all_goals rfl
  · rw [if_neg yc9]; rfl
def j5_18v1 (h0_0 : Int) (h0_1 : Bs) (h0_2 : Int) (h0_3_0 : Bool) (h0_3_1 : List (Bs × Bs)) (h0_4_0 : Bool) (h0_4_1 : List UInt8) (h3_0 : Int) (h3_1 : Bs) (h3_2 : Int) (h3_3_0 : Bool) (h3_3_1 : List (Bs × Bs)) (h3_4_0 : Bool) (h3_4_1 : List UInt8) : Option R5 :=
  if h3_1.length + 1 < 9223372036854775808 then
    some (h3_0, h3_1, h3_2, h3_3_0, h3_3_1, false, (h3_1 ++ ([10] : Bs)))
  else none
theorem j5_18v1_t (h0_0 : Int) (h0_1 : Bs) (h0_2 : Int) (h0_3_0 : Bool) (h0_3_1 : List (Bs × Bs)) (h0_4_0 : Bool) (h0_4_1 : List UInt8) (h3_0 : Int) (h3_1 : Bs) (h3_2 : Int) (h3_3_0 : Bool) (h3_3_1 : List (Bs × Bs)) (h3_4_0 : Bool) (h3_4_1 : List UInt8) (g1 : Ob) (sl : Nat → AV) (zq2 : sl 2 = .v (.c (.ptr 0 0))) (zq4 : sl 4 = .v (.c (.ptr 3 0))) :
    bodyD (E0 mm) [.cell 2 26] 0 false (den (E0 mm) 5 0 (callW (E0 mm)) itW c5_18 none ⟨sl, [.cells [.d (.sc (.int .i64 h0_0)), .d (.sc (.string (S h0_1))), .d (.sc (.int .i64 h0_2)), .d (.lst h0_3_0 (enL enSS h0_3_1)), .d (.lst h0_4_0 (enL enB h0_4_1))], g1, .row h3_3_1.length (rz h3_3_0 2), .cells [.d (.sc (.int .i64 h3_0)), .d (.sc (.string (S h3_1))), .d (.sc (.int .i64 h3_2)), .own h3_3_0 (enL enSS h3_3_1) 2, .d (.lst h3_4_0 (enL enB h3_4_1))]]⟩) = (j5_18v1 h0_0 h0_1 h0_2 h0_3_0 h0_3_1 h0_4_0 h0_4_1 h3_0 h3_1 h3_2 h3_3_0 h3_3_1 h3_4_0 h3_4_1).map e5 := by
  simp -implicitDefEqProofs only [j5_18v1, c5_18_e, c5_19_r, (show opsOf c5_19 = _ :: _ from rfl), Try.underlying26, sz9, ag9, zq2, zq4, setA, setB, za, zb, zc, zd, ze, zf, zg, zh, zi, zj, zk, zl, zm, zn, zo, zp, reduceCtorEq, zE, ↓reduceIte]
  refine brP (fun yc10 => ?_) (fun yc10 => ?_)
  · simp -implicitDefEqProofs only [Try.underlying9, Try.underlying24, Try.underlying5, hd14, rw15, Try.underlying26, sz24, c5_20_e, c5_21_r, (show opsOf c5_21 = _ :: _ from rfl), sz26, ag26, c5_22_e, zq2, zq4, yc10, setA, setB, za, zb, zc, zd, ze, zf, zg, zh, zi, zj, zk, zl, zm, zn, zo, zp, reduceCtorEq, zE, ↓reduceIte]
    all_goals rfl
  · rw [if_neg yc10]; rfl
def j5_10 (status0 h0_0 : Int) (h0_1 : Bs) (h0_2 : Int) (h0_3_0 : Bool) (h0_3_1 : List (Bs × Bs)) (h0_4_0 : Bool) (h0_4_1 : List UInt8) : Option R5 :=
  (m15 status0).bind fun yr7 =>
    if (status0 == 407) = true then
      j5_18 h0_0 h0_1 h0_2 h0_3_0 h0_3_1 h0_4_0 h0_4_1 status0 yr7 (1 : Int) false ([(([67, 111, 110, 116, 101, 110, 116, 45, 84, 121, 112, 101] : Bs), ([116, 101, 120, 116, 47, 112, 108, 97, 105, 110] : Bs)), (([67, 97, 99, 104, 101, 45, 67, 111, 110, 116, 114, 111, 108] : Bs), ([110, 111, 45, 115, 116, 111, 114, 101] : Bs)), (([80, 114, 111, 120, 121, 45, 65, 117, 116, 104, 101, 110, 116, 105, 99, 97, 116, 101] : Bs), ([66, 101, 97, 114, 101, 114] : Bs))] : List (Bs × Bs)) true ([] : List UInt8)
    else
      j5_18v1 h0_0 h0_1 h0_2 h0_3_0 h0_3_1 h0_4_0 h0_4_1 status0 yr7 (1 : Int) false ([(([67, 111, 110, 116, 101, 110, 116, 45, 84, 121, 112, 101] : Bs), ([116, 101, 120, 116, 47, 112, 108, 97, 105, 110] : Bs)), (([67, 97, 99, 104, 101, 45, 67, 111, 110, 116, 114, 111, 108] : Bs), ([110, 111, 45, 115, 116, 111, 114, 101] : Bs))] : List (Bs × Bs)) true ([] : List UInt8)
theorem j5_10_t (status0 h0_0 : Int) (h0_1 : Bs) (h0_2 : Int) (h0_3_0 : Bool) (h0_3_1 : List (Bs × Bs)) (h0_4_0 : Bool) (h0_4_1 : List UInt8) (g1 : Ob) (sl : Nat → AV) (zq0 : sl 0 = .v (.c (.d (.sc (.int .i64 status0))))) (zq2 : sl 2 = .v (.c (.ptr 0 0))) :
    bodyD (E0 mm) [.cell 2 26] 0 false (den (E0 mm) 5 0 (callW (E0 mm)) itW c5_10 none ⟨sl, [.cells [.d (.sc (.int .i64 h0_0)), .d (.sc (.string (S h0_1))), .d (.sc (.int .i64 h0_2)), .d (.lst h0_3_0 (enL enSS h0_3_1)), .d (.lst h0_4_0 (enL enB h0_4_1))], g1]⟩) = (j5_10 status0 h0_0 h0_1 h0_2 h0_3_0 h0_3_1 h0_4_0 h0_4_1).map e5 := by
  simp -implicitDefEqProofs only [j5_10, c5_10_e, c5_11_r, (show opsOf c5_11 = _ :: _ from rfl), ent15, prm15, f15_t, zq0, zq2, setA, setB, za, zb, zc, zd, ze, zf, zg, zh, zi, zj, zk, zl, zm, zn, zo, zp, reduceCtorEq, zE, ↓reduceIte]
  refine brM (fun yc6 => ?_) (fun yr7 yc6 => ?_)
  · rw [yc6]; rfl
  · simp -implicitDefEqProofs only [e15, Try.underlying33, zc33, sz9, Try.underlying23, sz33, hd4, nv5, rw6, ns7, Try.underlying26, zc26, sz3, sz23, sz24, ao8, sz26, c5_12_e, c5_13_e, c5_14_r, (show opsOf c5_14 = _ :: _ from rfl), (show c5_15 = Code.cond _ c5_16 c5_17 from rfl), zq0, zq2, yc6, setA, setB, za, zb, zc, zd, ze, zf, zg, zh, zi, zj, zk, zl, zm, zn, zo, zp, reduceCtorEq, zE, ↓reduceIte]
    refine brB (fun yc8 => ?_) (fun yc8 => ?_)
    · simp -implicitDefEqProofs only [c5_16_r, (show opsOf c5_16 = _ :: _ from rfl), Try.underlying26, sz23, ag23, Try.underlying33, zc33, sz9, Try.underlying23, sz33, hd9, nv10, rw11, ns12, ap23, zq0, zq2, yc6, yc8, setA, setB, za, zb, zc, zd, ze, zf, zg, zh, zi, zj, zk, zl, zm, zn, zo, zp, reduceCtorEq, zE, ↓reduceIte]
      exact j5_18_t h0_0 h0_1 h0_2 h0_3_0 h0_3_1 h0_4_0 h0_4_1 status0 yr7 (1 : Int) false ([(([67, 111, 110, 116, 101, 110, 116, 45, 84, 121, 112, 101] : Bs), ([116, 101, 120, 116, 47, 112, 108, 97, 105, 110] : Bs)), (([67, 97, 99, 104, 101, 45, 67, 111, 110, 116, 114, 111, 108] : Bs), ([110, 111, 45, 115, 116, 111, 114, 101] : Bs)), (([80, 114, 111, 120, 121, 45, 65, 117, 116, 104, 101, 110, 116, 105, 99, 97, 116, 101] : Bs), ([66, 101, 97, 114, 101, 114] : Bs))] : List (Bs × Bs)) true ([] : List UInt8) _ _ _ (by exact zq2) (by rfl)
    · simp -implicitDefEqProofs only [c5_17_e, zq0, zq2, yc6, yc8, setA, setB, za, zb, zc, zd, ze, zf, zg, zh, zi, zj, zk, zl, zm, zn, zo, zp, reduceCtorEq, zE, ↓reduceIte]
      exact j5_18v1_t h0_0 h0_1 h0_2 h0_3_0 h0_3_1 h0_4_0 h0_4_1 status0 yr7 (1 : Int) false ([(([67, 111, 110, 116, 101, 110, 116, 45, 84, 121, 112, 101] : Bs), ([116, 101, 120, 116, 47, 112, 108, 97, 105, 110] : Bs)), (([67, 97, 99, 104, 101, 45, 67, 111, 110, 116, 114, 111, 108] : Bs), ([110, 111, 45, 115, 116, 111, 114, 101] : Bs))] : List (Bs × Bs)) true ([] : List UInt8) _ _ (by exact zq2) (by rfl)
def m5 (status : Int) : Option R5 :=
  (m13).bind fun yr2 =>
    (m14 status).bind fun yr4 =>
      if yr4 = true then
        j5_10 status (0 : Int) ([] : Bs) (0 : Int) true ([] : List (Bs × Bs)) true ([] : List UInt8)
      else
        j5_10 (502 : Int) (0 : Int) ([] : Bs) (0 : Int) true ([] : List (Bs × Bs)) true ([] : List UInt8)
theorem f5_t (status : Int) :
    callW (E0 mm) 5 [.c (.d (.sc (.int .i64 status)))] [] = (m5 status).map e5 := by
  rw [callW_run (body := c5_0) (res := [.cell 2 26]) Try.func5 rfl rfl (by kernel_rfl)]
  simp -implicitDefEqProofs only [m5, slots1, c5_0_e, c5_1_r, (show opsOf c5_1 = _ :: _ from rfl), zc26, ao0, c5_2_e, c5_3_r, (show opsOf c5_3 = _ :: _ from rfl), ent13, prm13, f13_t, setA, setB, za, zb, zc, zd, ze, zf, zg, zh, zi, zj, zk, zl, zm, zn, zo, zp, reduceCtorEq, zE, ↓reduceIte]
  refine brM (fun yc1 => ?_) (fun yr2 yc1 => ?_)
  · rw [yc1]; rfl
  · simp -implicitDefEqProofs only [e13, zc36, ao2, sz36, c5_4_e, c5_5_e, c5_6_r, (show opsOf c5_6 = _ :: _ from rfl), Try.underlying36, sz3, (show bnd 10 10 = some 10 from rfl), ent14, prm14, f14_t, yc1, setA, setB, za, zb, zc, zd, ze, zf, zg, zh, zi, zj, zk, zl, zm, zn, zo, zp, reduceCtorEq, zE, ↓reduceIte]
    refine brM (fun yc3 => ?_) (fun yr4 yc3 => ?_)
    · rw [yc3]; rfl
    · simp -implicitDefEqProofs only [e14, (show c5_7 = Code.cond _ c5_8 c5_9 from rfl), yc1, yc3, setA, setB, za, zb, zc, zd, ze, zf, zg, zh, zi, zj, zk, zl, zm, zn, zo, zp, reduceCtorEq, zE, ↓reduceIte]
      refine brB (fun yc5 => ?_) (fun yc5 => ?_)
      · simp -implicitDefEqProofs only [c5_9_e, yc1, yc3, yc5, setA, setB, za, zb, zc, zd, ze, zf, zg, zh, zi, zj, zk, zl, zm, zn, zo, zp, reduceCtorEq, zE, ↓reduceIte]
        exact j5_10_t status (0 : Int) ([] : Bs) (0 : Int) true ([] : List (Bs × Bs)) true ([] : List UInt8) _ _ (by rfl) (by rfl)
      · simp -implicitDefEqProofs only [c5_8_r, (show opsOf c5_8 = _ :: _ from rfl), yc1, yc3, yc5, setA, setB, za, zb, zc, zd, ze, zf, zg, zh, zi, zj, zk, zl, zm, zn, zo, zp, reduceCtorEq, zE, ↓reduceIte]
        exact j5_10_t (502 : Int) (0 : Int) ([] : Bs) (0 : Int) true ([] : List (Bs × Bs)) true ([] : List UInt8) _ _ (by rfl) (by rfl)
noncomputable def c18_0 : Code := bodyOf Try.f18
def c18_1 := cA c18_0
def c18_2 := cB c18_0
def c18_3 := cA c18_2
def c18_4 := cA c18_3
def c18_5 := cB c18_3
def c18_6 := cA c18_5
def c18_7 := cA c18_6
def c18_8 := cB c18_6
def c18_9 := cB c18_5
def c18_10 := cB c18_2
def c18_11 := cA c18_10
def c18_12 := cA c18_11
def c18_13 := cB c18_11
def c18_14 := cA c18_13
def c18_15 := cA c18_14
def c18_16 := cA c18_15
def c18_17 := cB c18_15
def c18_18 := cA c18_17
def c18_19 := cA c18_18
def c18_20 := cB c18_18
def c18_21 := cB c18_17
def c18_22 := cA c18_21
def c18_23 := cA c18_22
def c18_24 := cA c18_23
def c18_25 := cB c18_23
def c18_26 := cA c18_25
def c18_27 := cB c18_25
def c18_28 := cA c18_27
def c18_29 := cA c18_28
def c18_30 := cB c18_28
def c18_31 := cB c18_27
def c18_32 := cB c18_21
def c18_33 := cB c18_10
def c18_34 := cA c18_33
def c18_35 := cB c18_33
theorem c18_0_e : c18_0 = .seq c18_1 c18_2 := rfl
theorem c18_1_r : RG (E0 mm) 18 c18_1 := rgN rfl
theorem c18_2_e : c18_2 = .seq c18_3 c18_10 := rfl
theorem c18_3_e : c18_3 = .seq c18_4 c18_5 := rfl
theorem c18_4_r : RG (E0 mm) 18 c18_4 := rgN rfl
theorem c18_6_e : c18_6 = .seq c18_7 c18_8 := rfl
theorem c18_7_r : RG (E0 mm) 18 c18_7 := rgN rfl
theorem c18_8_e : c18_8 = .ret := rfl
theorem c18_9_e : c18_9 = .skip := rfl
theorem c18_10_e : c18_10 = .seq c18_11 c18_33 := rfl
theorem c18_11_e : c18_11 = .seq c18_12 c18_13 := rfl
theorem c18_12_r : RG (E0 mm) 18 c18_12 := rgN rfl
theorem c18_13_e : c18_13 = .block 0 c18_14 := rfl
theorem c18_14_l (m : Nat) (st : St) : den (E0 mm) 18 m (callW (E0 mm)) itW c18_14 none st = loopD itW (loopF (E0 mm) 18 m (callW (E0 mm)) itW c18_15 [(0, .keep), (1, .keep), (12, .keep), (13, .keep)]) (canon m [(0, .keep), (1, .keep), (12, .keep), (13, .keep)] st) := rfl
theorem c18_15_e : c18_15 = .seq c18_16 c18_17 := rfl
theorem c18_16_r : RG (E0 mm) 18 c18_16 := rgN rfl
theorem c18_17_e : c18_17 = .seq c18_18 c18_21 := rfl
theorem c18_19_e : c18_19 = .skip := rfl
theorem c18_20_e : c18_20 = .exit 0 := rfl
theorem c18_21_e : c18_21 = .seq c18_22 c18_32 := rfl
theorem c18_22_e : c18_22 = .block 1 c18_23 := rfl
theorem c18_23_e : c18_23 = .seq c18_24 c18_25 := rfl
theorem c18_24_r : RG (E0 mm) 18 c18_24 := rgN rfl
theorem c18_25_e : c18_25 = .seq c18_26 c18_27 := rfl
theorem c18_26_r : RG (E0 mm) 18 c18_26 := rgD (by kernel_rfl)
theorem c18_28_e : c18_28 = .seq c18_29 c18_30 := rfl
theorem c18_29_r : RG (E0 mm) 18 c18_29 := rgN rfl
theorem c18_30_e : c18_30 = .ret := rfl
theorem c18_31_e : c18_31 = .skip := rfl
theorem c18_32_r : RG (E0 mm) 18 c18_32 := rgN rfl
theorem c18_33_e : c18_33 = .seq c18_34 c18_35 := rfl
theorem c18_34_r : RG (E0 mm) 18 c18_34 := rgN rfl
theorem c18_35_e : c18_35 = .ret := rfl
abbrev R18 := (Bool)
def e18 : R18 → AV × Heap := fun x => (.v (.c (.d (.sc (.bool x)))), [])
def K18_14 : Option (Ex × St) → Option (AV × Heap) := fun r => bodyD (E0 mm) [.tmp 4] 0 false (seqD (E0 mm) 18 0 (callW (E0 mm)) itW c18_33 (blockD 0 (r)))
def en18_14 : (Bool × List (Bs × Bs) × Bool × List (Bs × Bs) × Int × Int) → X := fun x => (none, [.v (.c (.d (.lst x.1 (enL enSS x.2.1)))), .v (.c (.d (.lst x.2.2.1 (enL enSS x.2.2.2.1)))), .v (.c (.d (.sc (.int .i64 x.2.2.2.2.1)))), .v (.c (.d (.sc (.int .i64 x.2.2.2.2.2))))], [])
def j18_33  : Option R18 :=
  some true
theorem j18_33_t   (sl : Nat → AV)  :
    bodyD (E0 mm) [.tmp 4] 0 false (den (E0 mm) 18 0 (callW (E0 mm)) itW c18_33 none ⟨sl, []⟩) = (j18_33).map e18 := by
  simp -implicitDefEqProofs only [j18_33, c18_33_e, c18_34_r, (show opsOf c18_34 = _ :: _ from rfl), c18_35_e, setA, setB, za, zb, zc, zd, ze, zf, zg, zh, zi, zj, zk, zl, zm, zn, zo, zp, reduceCtorEq, zE, ↓reduceIte]
  all_goals rfl
def s18_14 (s10_0 : Bool) (s10_1 : List (Bs × Bs)) (s21_0 : Bool) (s21_1 : List (Bs × Bs)) (t12 t13 : Int) : Option ((Bool × List (Bs × Bs) × Bool × List (Bs × Bs) × Int × Int) ⊕ R18) :=
  if (decide (t13 < t12)) = true then
    if 0 ≤ t13 ∧ t13 < (s10_1.length : Int) then
      if 0 ≤ t13 ∧ t13 < (s21_1.length : Int) then
        if (((s10_1.getD t13.toNat default).1 == (s21_1.getD t13.toNat default).1) && ((s10_1.getD t13.toNat default).2 == (s21_1.getD t13.toNat default).2)) = true then
          some (.inl (s10_0, s10_1, s21_0, s21_1, t12, (w64 (t13 + 1))))
        else
          some (.inr false)
      else none
    else none
  else
    (j18_33).map .inr
theorem s18_14_t (s10_0 : Bool) (s10_1 : List (Bs × Bs)) (s21_0 : Bool) (s21_1 : List (Bs × Bs)) (t12 t13 : Int) :
    stepE (K18_14 (mm := mm)) (loopF (E0 mm) 18 0 (callW (E0 mm)) itW c18_15 [(0, .keep), (1, .keep), (12, .keep), (13, .keep)] (none, [.v (.c (.d (.lst s10_0 (enL enSS s10_1)))), .v (.c (.d (.lst s21_0 (enL enSS s21_1)))), .v (.c (.d (.sc (.int .i64 t12)))), .v (.c (.d (.sc (.int .i64 t13))))], [])) = (s18_14 s10_0 s10_1 s21_0 s21_1 t12 t13).map (sm en18_14 e18) := by
  simp -implicitDefEqProofs only [s18_14, loopF_eq, c18_15_e, c18_16_r, (show opsOf c18_16 = _ :: _ from rfl), c18_17_e, (show c18_18 = Code.cond _ c18_19 c18_20 from rfl), setA, setB, za, zb, zc, zd, ze, zf, zg, zh, zi, zj, zk, zl, zm, zn, zo, zp, reduceCtorEq, zE, ↓reduceIte]
  refine brB (fun yc2 => ?_) (fun yc2 => ?_)
  · simp -implicitDefEqProofs only [c18_19_e, c18_21_e, c18_22_e, c18_23_e, c18_24_r, (show opsOf c18_24 = _ :: _ from rfl), c18_25_e, c18_26_r, (show opsOf c18_26 = _ :: _ from rfl), Try.underlying23, sz33, enSS_a, yc2, setA, setB, za, zb, zc, zd, ze, zf, zg, zh, zi, zj, zk, zl, zm, zn, zo, zp, reduceCtorEq, zE, ↓reduceIte]
    refine brP (fun yc3 => ?_) (fun yc3 => ?_)
    · have yd4 : t13.toNat < s10_1.length := by omega
      simp -implicitDefEqProofs only [(enL_get enSS s10_1 t13.toNat yd4), enSS_e, sz33, ag33, Try.underlying23, enSS_a, yc2, yc3, yd4, setA, setB, za, zb, zc, zd, ze, zf, zg, zh, zi, zj, zk, zl, zm, zn, zo, zp, reduceCtorEq, zE, ↓reduceIte]
      refine brP (fun yc5 => ?_) (fun yc5 => ?_)
      · have yd6 : t13.toNat < s21_1.length := by omega
        simp -implicitDefEqProofs only [(enL_get enSS s21_1 t13.toNat yd6), enSS_e, sz33, ag33, eqs33n, toV_agg, (show c18_27 = Code.cond _ c18_28 c18_31 from rfl), yc2, yc3, yd4, yc5, yd6, setA, setB, za, zb, zc, zd, ze, zf, zg, zh, zi, zj, zk, zl, zm, zn, zo, zp, reduceCtorEq, zE, ↓reduceIte]
        refine brB (fun yc7 => ?_) (fun yc7 => ?_)
        · simp -implicitDefEqProofs only [c18_31_e, c18_32_r, (show opsOf c18_32 = _ :: _ from rfl), yc2, yc3, yd4, yc5, yd6, yc7, setA, setB, za, zb, zc, zd, ze, zf, zg, zh, zi, zj, zk, zl, zm, zn, zo, zp, reduceCtorEq, zE, ↓reduceIte]
          all_goals rfl
        · simp -implicitDefEqProofs only [c18_28_e, c18_29_r, (show opsOf c18_29 = _ :: _ from rfl), c18_30_e, K18_14, yc2, yc3, yd4, yc5, yd6, yc7, setA, setB, za, zb, zc, zd, ze, zf, zg, zh, zi, zj, zk, zl, zm, zn, zo, zp, reduceCtorEq, zE, ↓reduceIte]
          all_goals rfl
      · rw [if_neg yc5]; rfl
    · rw [if_neg yc3]; rfl
  · simp -implicitDefEqProofs only [c18_20_e, K18_14, yc2, setA, setB, za, zb, zc, zd, ze, zf, zg, zh, zi, zj, zk, zl, zm, zn, zo, zp, reduceCtorEq, zE, ↓reduceIte]
    exact mi (j18_33_t _)
def l18_14 (s10_0 : Bool) (s10_1 : List (Bs × Bs)) (s21_0 : Bool) (s21_1 : List (Bs × Bs)) (t12 t13 : Int) : Option R18 := iter (fun x : (Bool × List (Bs × Bs) × Bool × List (Bs × Bs) × Int × Int) => s18_14 x.1 x.2.1 x.2.2.1 x.2.2.2.1 x.2.2.2.2.1 x.2.2.2.2.2) (s10_0, s10_1, s21_0, s21_1, t12, t13)
theorem l18_14_t (s10_0 : Bool) (s10_1 : List (Bs × Bs)) (s21_0 : Bool) (s21_1 : List (Bs × Bs)) (t12 t13 : Int) : bodyD (E0 mm) [.tmp 4] 0 false (seqD (E0 mm) 18 0 (callW (E0 mm)) itW c18_33 (blockD 0 (itW (loopF (E0 mm) 18 0 (callW (E0 mm)) itW c18_15 [(0, .keep), (1, .keep), (12, .keep), (13, .keep)]) (none, [.v (.c (.d (.lst s10_0 (enL enSS s10_1)))), .v (.c (.d (.lst s21_0 (enL enSS s21_1)))), .v (.c (.d (.sc (.int .i64 t12)))), .v (.c (.d (.sc (.int .i64 t13))))], [])))) = (l18_14 s10_0 s10_1 s21_0 s21_1 t12 t13).map e18 :=
  it_sim (K := (K18_14 (mm := mm))) rfl (enc := en18_14) (fun x => s18_14_t x.1 x.2.1 x.2.2.1 x.2.2.2.1 x.2.2.2.2.1 x.2.2.2.2.2) (s10_0, s10_1, s21_0, s21_1, t12, t13)
def m18 (s1_0 : Bool) (s1_1 : List (Bs × Bs)) (s2_0 : Bool) (s2_1 : List (Bs × Bs)) : Option R18 :=
  if ((s1_1.length : Int) == (s2_1.length : Int)) = true then
    l18_14 s1_0 s1_1 s2_0 s2_1 (s1_1.length : Int) (0 : Int)
  else
    some false
theorem f18_t (s1_0 : Bool) (s1_1 : List (Bs × Bs)) (s2_0 : Bool) (s2_1 : List (Bs × Bs)) :
    callW (E0 mm) 18 [.c (.d (.lst s1_0 (enL enSS s1_1))), .c (.d (.lst s2_0 (enL enSS s2_1)))] [] = (m18 s1_0 s1_1 s2_0 s2_1).map e18 := by
  rw [callW_run (body := c18_0) (res := [.tmp 4]) Try.func18 rfl rfl (by kernel_rfl)]
  simp -implicitDefEqProofs only [m18, slots2, c18_0_e, c18_1_r, (show opsOf c18_1 = _ :: _ from rfl), c18_2_e, c18_3_e, c18_4_r, (show opsOf c18_4 = _ :: _ from rfl), Try.underlying23, (show c18_5 = Code.cond _ c18_6 c18_9 from rfl), setA, setB, za, zb, zc, zd, ze, zf, zg, zh, zi, zj, zk, zl, zm, zn, zo, zp, reduceCtorEq, zE, ↓reduceIte]
  refine brB (fun yc1 => ?_) (fun yc1 => ?_)
  · simp -implicitDefEqProofs only [c18_9_e, c18_10_e, c18_11_e, c18_12_r, (show opsOf c18_12 = _ :: _ from rfl), Try.underlying23, c18_13_e, c18_14_l, yc1, setA, setB, za, zb, zc, zd, ze, zf, zg, zh, zi, zj, zk, zl, zm, zn, zo, zp, reduceCtorEq, zE, ↓reduceIte]
    exact l18_14_t s1_0 s1_1 s2_0 s2_1 (s1_1.length : Int) (0 : Int)
  · simp -implicitDefEqProofs only [c18_6_e, c18_7_r, (show opsOf c18_7 = _ :: _ from rfl), c18_8_e, yc1, setA, setB, za, zb, zc, zd, ze, zf, zg, zh, zi, zj, zk, zl, zm, zn, zo, zp, reduceCtorEq, zE, ↓reduceIte]
    all_goals rfl
noncomputable def c19_0 : Code := bodyOf Try.f19
def c19_1 := cA c19_0
def c19_2 := cB c19_0
def c19_3 := cA c19_2
def c19_4 := cA c19_3
def c19_5 := cB c19_3
def c19_6 := cA c19_5
def c19_7 := cA c19_6
def c19_8 := cB c19_6
def c19_9 := cB c19_5
def c19_10 := cB c19_2
def c19_11 := cA c19_10
def c19_12 := cA c19_11
def c19_13 := cB c19_11
def c19_14 := cA c19_13
def c19_15 := cA c19_14
def c19_16 := cA c19_15
def c19_17 := cB c19_15
def c19_18 := cA c19_17
def c19_19 := cA c19_18
def c19_20 := cB c19_18
def c19_21 := cB c19_17
def c19_22 := cA c19_21
def c19_23 := cA c19_22
def c19_24 := cA c19_23
def c19_25 := cB c19_23
def c19_26 := cA c19_25
def c19_27 := cB c19_25
def c19_28 := cA c19_27
def c19_29 := cA c19_28
def c19_30 := cB c19_28
def c19_31 := cB c19_27
def c19_32 := cB c19_21
def c19_33 := cB c19_10
def c19_34 := cA c19_33
def c19_35 := cB c19_33
theorem c19_0_e : c19_0 = .seq c19_1 c19_2 := rfl
theorem c19_1_r : RG (E0 mm) 19 c19_1 := rgN rfl
theorem c19_2_e : c19_2 = .seq c19_3 c19_10 := rfl
theorem c19_3_e : c19_3 = .seq c19_4 c19_5 := rfl
theorem c19_4_r : RG (E0 mm) 19 c19_4 := rgN rfl
theorem c19_6_e : c19_6 = .seq c19_7 c19_8 := rfl
theorem c19_7_r : RG (E0 mm) 19 c19_7 := rgN rfl
theorem c19_8_e : c19_8 = .ret := rfl
theorem c19_9_e : c19_9 = .skip := rfl
theorem c19_10_e : c19_10 = .seq c19_11 c19_33 := rfl
theorem c19_11_e : c19_11 = .seq c19_12 c19_13 := rfl
theorem c19_12_r : RG (E0 mm) 19 c19_12 := rgN rfl
theorem c19_13_e : c19_13 = .block 0 c19_14 := rfl
theorem c19_14_l (m : Nat) (st : St) : den (E0 mm) 19 m (callW (E0 mm)) itW c19_14 none st = loopD itW (loopF (E0 mm) 19 m (callW (E0 mm)) itW c19_15 [(0, .keep), (1, .keep), (12, .keep), (13, .keep)]) (canon m [(0, .keep), (1, .keep), (12, .keep), (13, .keep)] st) := rfl
theorem c19_15_e : c19_15 = .seq c19_16 c19_17 := rfl
theorem c19_16_r : RG (E0 mm) 19 c19_16 := rgN rfl
theorem c19_17_e : c19_17 = .seq c19_18 c19_21 := rfl
theorem c19_19_e : c19_19 = .skip := rfl
theorem c19_20_e : c19_20 = .exit 0 := rfl
theorem c19_21_e : c19_21 = .seq c19_22 c19_32 := rfl
theorem c19_22_e : c19_22 = .block 1 c19_23 := rfl
theorem c19_23_e : c19_23 = .seq c19_24 c19_25 := rfl
theorem c19_24_r : RG (E0 mm) 19 c19_24 := rgN rfl
theorem c19_25_e : c19_25 = .seq c19_26 c19_27 := rfl
theorem c19_26_r : RG (E0 mm) 19 c19_26 := rgD (by kernel_rfl)
theorem c19_28_e : c19_28 = .seq c19_29 c19_30 := rfl
theorem c19_29_r : RG (E0 mm) 19 c19_29 := rgN rfl
theorem c19_30_e : c19_30 = .ret := rfl
theorem c19_31_e : c19_31 = .skip := rfl
theorem c19_32_r : RG (E0 mm) 19 c19_32 := rgN rfl
theorem c19_33_e : c19_33 = .seq c19_34 c19_35 := rfl
theorem c19_34_r : RG (E0 mm) 19 c19_34 := rgN rfl
theorem c19_35_e : c19_35 = .ret := rfl
abbrev R19 := (Bool)
def e19 : R19 → AV × Heap := fun x => (.v (.c (.d (.sc (.bool x)))), [])
def K19_14 : Option (Ex × St) → Option (AV × Heap) := fun r => bodyD (E0 mm) [.tmp 4] 0 false (seqD (E0 mm) 19 0 (callW (E0 mm)) itW c19_33 (blockD 0 (r)))
def en19_14 : (Bool × List UInt8 × Bool × List UInt8 × Int × Int) → X := fun x => (none, [.v (.c (.d (.lst x.1 (enL enB x.2.1)))), .v (.c (.d (.lst x.2.2.1 (enL enB x.2.2.2.1)))), .v (.c (.d (.sc (.int .i64 x.2.2.2.2.1)))), .v (.c (.d (.sc (.int .i64 x.2.2.2.2.2))))], [])
def j19_33  : Option R19 :=
  some true
theorem j19_33_t   (sl : Nat → AV)  :
    bodyD (E0 mm) [.tmp 4] 0 false (den (E0 mm) 19 0 (callW (E0 mm)) itW c19_33 none ⟨sl, []⟩) = (j19_33).map e19 := by
  simp -implicitDefEqProofs only [j19_33, c19_33_e, c19_34_r, (show opsOf c19_34 = _ :: _ from rfl), c19_35_e, setA, setB, za, zb, zc, zd, ze, zf, zg, zh, zi, zj, zk, zl, zm, zn, zo, zp, reduceCtorEq, zE, ↓reduceIte]
  all_goals rfl
def s19_14 (s10_0 : Bool) (s10_1 : List UInt8) (s21_0 : Bool) (s21_1 : List UInt8) (t12 t13 : Int) : Option ((Bool × List UInt8 × Bool × List UInt8 × Int × Int) ⊕ R19) :=
  if (decide (t13 < t12)) = true then
    if 0 ≤ t13 ∧ t13 < (s10_1.length : Int) then
      if 0 ≤ t13 ∧ t13 < (s21_1.length : Int) then
        if ((s10_1.getD t13.toNat default) == (s21_1.getD t13.toNat default)) = true then
          some (.inl (s10_0, s10_1, s21_0, s21_1, t12, (w64 (t13 + 1))))
        else
          some (.inr false)
      else none
    else none
  else
    (j19_33).map .inr
theorem s19_14_t (s10_0 : Bool) (s10_1 : List UInt8) (s21_0 : Bool) (s21_1 : List UInt8) (t12 t13 : Int) :
    stepE (K19_14 (mm := mm)) (loopF (E0 mm) 19 0 (callW (E0 mm)) itW c19_15 [(0, .keep), (1, .keep), (12, .keep), (13, .keep)] (none, [.v (.c (.d (.lst s10_0 (enL enB s10_1)))), .v (.c (.d (.lst s21_0 (enL enB s21_1)))), .v (.c (.d (.sc (.int .i64 t12)))), .v (.c (.d (.sc (.int .i64 t13))))], [])) = (s19_14 s10_0 s10_1 s21_0 s21_1 t12 t13).map (sm en19_14 e19) := by
  simp -implicitDefEqProofs only [s19_14, loopF_eq, c19_15_e, c19_16_r, (show opsOf c19_16 = _ :: _ from rfl), c19_17_e, (show c19_18 = Code.cond _ c19_19 c19_20 from rfl), setA, setB, za, zb, zc, zd, ze, zf, zg, zh, zi, zj, zk, zl, zm, zn, zo, zp, reduceCtorEq, zE, ↓reduceIte]
  refine brB (fun yc2 => ?_) (fun yc2 => ?_)
  · simp -implicitDefEqProofs only [c19_19_e, c19_21_e, c19_22_e, c19_23_e, c19_24_r, (show opsOf c19_24 = _ :: _ from rfl), c19_25_e, c19_26_r, (show opsOf c19_26 = _ :: _ from rfl), Try.underlying24, sz5, enB_a, yc2, setA, setB, za, zb, zc, zd, ze, zf, zg, zh, zi, zj, zk, zl, zm, zn, zo, zp, reduceCtorEq, zE, ↓reduceIte]
    refine brP (fun yc3 => ?_) (fun yc3 => ?_)
    · have yd4 : t13.toNat < s10_1.length := by omega
      simp -implicitDefEqProofs only [(enL_get enB s10_1 t13.toNat yd4), enB_e, sz5, ag5, Try.underlying24, enB_a, yc2, yc3, yd4, setA, setB, za, zb, zc, zd, ze, zf, zg, zh, zi, zj, zk, zl, zm, zn, zo, zp, reduceCtorEq, zE, ↓reduceIte]
      refine brP (fun yc5 => ?_) (fun yc5 => ?_)
      · have yd6 : t13.toNat < s21_1.length := by omega
        simp -implicitDefEqProofs only [(enL_get enB s21_1 t13.toNat yd6), enB_e, sz5, ag5, (show c19_27 = Code.cond _ c19_28 c19_31 from rfl), yc2, yc3, yd4, yc5, yd6, setA, setB, za, zb, zc, zd, ze, zf, zg, zh, zi, zj, zk, zl, zm, zn, zo, zp, reduceCtorEq, zE, ↓reduceIte]
        refine brB (fun yc7 => ?_) (fun yc7 => ?_)
        · simp -implicitDefEqProofs only [c19_31_e, c19_32_r, (show opsOf c19_32 = _ :: _ from rfl), yc2, yc3, yd4, yc5, yd6, yc7, setA, setB, za, zb, zc, zd, ze, zf, zg, zh, zi, zj, zk, zl, zm, zn, zo, zp, reduceCtorEq, zE, ↓reduceIte]
          all_goals rfl
        · simp -implicitDefEqProofs only [c19_28_e, c19_29_r, (show opsOf c19_29 = _ :: _ from rfl), c19_30_e, K19_14, yc2, yc3, yd4, yc5, yd6, yc7, setA, setB, za, zb, zc, zd, ze, zf, zg, zh, zi, zj, zk, zl, zm, zn, zo, zp, reduceCtorEq, zE, ↓reduceIte]
          all_goals rfl
      · rw [if_neg yc5]; rfl
    · rw [if_neg yc3]; rfl
  · simp -implicitDefEqProofs only [c19_20_e, K19_14, yc2, setA, setB, za, zb, zc, zd, ze, zf, zg, zh, zi, zj, zk, zl, zm, zn, zo, zp, reduceCtorEq, zE, ↓reduceIte]
    exact mi (j19_33_t _)
def l19_14 (s10_0 : Bool) (s10_1 : List UInt8) (s21_0 : Bool) (s21_1 : List UInt8) (t12 t13 : Int) : Option R19 := iter (fun x : (Bool × List UInt8 × Bool × List UInt8 × Int × Int) => s19_14 x.1 x.2.1 x.2.2.1 x.2.2.2.1 x.2.2.2.2.1 x.2.2.2.2.2) (s10_0, s10_1, s21_0, s21_1, t12, t13)
theorem l19_14_t (s10_0 : Bool) (s10_1 : List UInt8) (s21_0 : Bool) (s21_1 : List UInt8) (t12 t13 : Int) : bodyD (E0 mm) [.tmp 4] 0 false (seqD (E0 mm) 19 0 (callW (E0 mm)) itW c19_33 (blockD 0 (itW (loopF (E0 mm) 19 0 (callW (E0 mm)) itW c19_15 [(0, .keep), (1, .keep), (12, .keep), (13, .keep)]) (none, [.v (.c (.d (.lst s10_0 (enL enB s10_1)))), .v (.c (.d (.lst s21_0 (enL enB s21_1)))), .v (.c (.d (.sc (.int .i64 t12)))), .v (.c (.d (.sc (.int .i64 t13))))], [])))) = (l19_14 s10_0 s10_1 s21_0 s21_1 t12 t13).map e19 :=
  it_sim (K := (K19_14 (mm := mm))) rfl (enc := en19_14) (fun x => s19_14_t x.1 x.2.1 x.2.2.1 x.2.2.2.1 x.2.2.2.2.1 x.2.2.2.2.2) (s10_0, s10_1, s21_0, s21_1, t12, t13)
def m19 (s1_0 : Bool) (s1_1 : List UInt8) (s2_0 : Bool) (s2_1 : List UInt8) : Option R19 :=
  if ((s1_1.length : Int) == (s2_1.length : Int)) = true then
    l19_14 s1_0 s1_1 s2_0 s2_1 (s1_1.length : Int) (0 : Int)
  else
    some false
theorem f19_t (s1_0 : Bool) (s1_1 : List UInt8) (s2_0 : Bool) (s2_1 : List UInt8) :
    callW (E0 mm) 19 [.c (.d (.lst s1_0 (enL enB s1_1))), .c (.d (.lst s2_0 (enL enB s2_1)))] [] = (m19 s1_0 s1_1 s2_0 s2_1).map e19 := by
  rw [callW_run (body := c19_0) (res := [.tmp 4]) Try.func19 rfl rfl (by kernel_rfl)]
  simp -implicitDefEqProofs only [m19, slots2, c19_0_e, c19_1_r, (show opsOf c19_1 = _ :: _ from rfl), c19_2_e, c19_3_e, c19_4_r, (show opsOf c19_4 = _ :: _ from rfl), Try.underlying24, (show c19_5 = Code.cond _ c19_6 c19_9 from rfl), setA, setB, za, zb, zc, zd, ze, zf, zg, zh, zi, zj, zk, zl, zm, zn, zo, zp, reduceCtorEq, zE, ↓reduceIte]
  refine brB (fun yc1 => ?_) (fun yc1 => ?_)
  · simp -implicitDefEqProofs only [c19_9_e, c19_10_e, c19_11_e, c19_12_r, (show opsOf c19_12 = _ :: _ from rfl), Try.underlying24, c19_13_e, c19_14_l, yc1, setA, setB, za, zb, zc, zd, ze, zf, zg, zh, zi, zj, zk, zl, zm, zn, zo, zp, reduceCtorEq, zE, ↓reduceIte]
    exact l19_14_t s1_0 s1_1 s2_0 s2_1 (s1_1.length : Int) (0 : Int)
  · simp -implicitDefEqProofs only [c19_6_e, c19_7_r, (show opsOf c19_7 = _ :: _ from rfl), c19_8_e, yc1, setA, setB, za, zb, zc, zd, ze, zf, zg, zh, zi, zj, zk, zl, zm, zn, zo, zp, reduceCtorEq, zE, ↓reduceIte]
    all_goals rfl
noncomputable def c10_0 : Code := bodyOf Try.f10
def c10_1 := cA c10_0
def c10_2 := cB c10_0
def c10_3 := cA c10_2
def c10_4 := cB c10_2
def c10_5 := cA c10_4
def c10_6 := cB c10_4
theorem c10_0_e : c10_0 = .seq c10_1 c10_2 := rfl
theorem c10_1_r : RG (E0 mm) 10 c10_1 := rgN rfl
theorem c10_2_e : c10_2 = .seq c10_3 c10_4 := rfl
theorem c10_3_r : RG (E0 mm) 10 c10_3 := rgN rfl
theorem c10_4_e : c10_4 = .seq c10_5 c10_6 := rfl
theorem c10_5_r : RG (E0 mm) 10 c10_5 := rgN rfl
theorem c10_6_e : c10_6 = .ret := rfl
abbrev R10 := (Bool)
def e10 : R10 → AV × Heap := fun x => (.v (.c (.d (.sc (.bool x)))), [])
def m10 (r0_0 : Int) (r0_1 : Bs) (r0_2 : Int) (r0_3 : Bool) (r0_4 : List (Bs × Bs)) (r0_5 : Bool) (r0_6 : List UInt8) : Option R10 :=
  (m5 r0_0).bind fun yr2 =>
    if (yr2.1 == r0_0) = true then
      if (yr2.2.1 == r0_1) = true then
        if (yr2.2.2.1 == r0_2) = true then
          (m18 yr2.2.2.2.1 yr2.2.2.2.2.1 r0_3 r0_4).bind fun yr7 =>
            if yr7 = true then
              (m19 yr2.2.2.2.2.2.1 yr2.2.2.2.2.2.2 r0_5 r0_6).bind fun yr10 =>
                some yr10
            else
              some false
        else
          some false
      else
        some false
    else
      some false
theorem f10_t (r0_0 : Int) (r0_1 : Bs) (r0_2 : Int) (r0_3 : Bool) (r0_4 : List (Bs × Bs)) (r0_5 : Bool) (r0_6 : List UInt8) :
    callW (E0 mm) 10 [.agg [.d (.sc (.int .i64 r0_0)), .d (.sc (.string (S r0_1))), .d (.sc (.int .i64 r0_2)), .d (.lst r0_3 (enL enSS r0_4)), .d (.lst r0_5 (enL enB r0_6))]] [] = (m10 r0_0 r0_1 r0_2 r0_3 r0_4 r0_5 r0_6).map e10 := by
  rw [callW_run (body := c10_0) (res := [.tmp 2]) Try.func10 rfl rfl (by kernel_rfl)]
  simp -implicitDefEqProofs only [m10, slots1, c10_0_e, c10_1_r, (show opsOf c10_1 = _ :: _ from rfl), c10_2_e, c10_3_r, (show opsOf c10_3 = _ :: _ from rfl), Try.underlying26, sz3, ag3, ent5, prm5, f5_t, setA, setB, za, zb, zc, zd, ze, zf, zg, zh, zi, zj, zk, zl, zm, zn, zo, zp, reduceCtorEq, zE, ↓reduceIte]
  refine brM (fun yc1 => ?_) (fun yr2 yc1 => ?_)
  · rw [yc1]; rfl
  · simp -implicitDefEqProofs only [e5, zc26, ao16, sz26, c10_4_e, c10_5_r, (show opsOf c10_5 = _ :: _ from rfl), Try.underlying26, sz3, ag3, yc1, setA, setB, za, zb, zc, zd, ze, zf, zg, zh, zi, zj, zk, zl, zm, zn, zo, zp, reduceCtorEq, zE, ↓reduceIte]
    refine brB (fun yc3 => ?_) (fun yc3 => ?_)
    · simp -implicitDefEqProofs only [Try.underlying26, sz9, ag9, yc1, yc3, setA, setB, za, zb, zc, zd, ze, zf, zg, zh, zi, zj, zk, zl, zm, zn, zo, zp, reduceCtorEq, zE, ↓reduceIte]
      refine brB (fun yc4 => ?_) (fun yc4 => ?_)
      · simp -implicitDefEqProofs only [Try.underlying26, sz3, ag3, yc1, yc3, yc4, setA, setB, za, zb, zc, zd, ze, zf, zg, zh, zi, zj, zk, zl, zm, zn, zo, zp, reduceCtorEq, zE, ↓reduceIte]
        refine brB (fun yc5 => ?_) (fun yc5 => ?_)
        · simp -implicitDefEqProofs only [Try.underlying26, sz23, ag23, ent18, prm18, f18_t, yc1, yc3, yc4, yc5, setA, setB, za, zb, zc, zd, ze, zf, zg, zh, zi, zj, zk, zl, zm, zn, zo, zp, reduceCtorEq, zE, ↓reduceIte]
          refine brM (fun yc6 => ?_) (fun yr7 yc6 => ?_)
          · rw [yc6]; rfl
          · simp -implicitDefEqProofs only [e18, yc1, yc3, yc4, yc5, yc6, setA, setB, za, zb, zc, zd, ze, zf, zg, zh, zi, zj, zk, zl, zm, zn, zo, zp, reduceCtorEq, zE, ↓reduceIte]
            refine brB (fun yc8 => ?_) (fun yc8 => ?_)
            · simp -implicitDefEqProofs only [Try.underlying26, sz24, ag24, ent19, prm19, f19_t, yc1, yc3, yc4, yc5, yc6, yc8, setA, setB, za, zb, zc, zd, ze, zf, zg, zh, zi, zj, zk, zl, zm, zn, zo, zp, reduceCtorEq, zE, ↓reduceIte]
              refine brM (fun yc9 => ?_) (fun yr10 yc9 => ?_)
              · rw [yc9]; rfl
              · simp -implicitDefEqProofs only [e19, c10_6_e, yc1, yc3, yc4, yc5, yc6, yc8, yc9, setA, setB, za, zb, zc, zd, ze, zf, zg, zh, zi, zj, zk, zl, zm, zn, zo, zp, reduceCtorEq, zE, ↓reduceIte]
                all_goals rfl
            · simp -implicitDefEqProofs only [c10_6_e, yc1, yc3, yc4, yc5, yc6, yc8, setA, setB, za, zb, zc, zd, ze, zf, zg, zh, zi, zj, zk, zl, zm, zn, zo, zp, reduceCtorEq, zE, ↓reduceIte]
              all_goals rfl
        · simp -implicitDefEqProofs only [c10_6_e, yc1, yc3, yc4, yc5, setA, setB, za, zb, zc, zd, ze, zf, zg, zh, zi, zj, zk, zl, zm, zn, zo, zp, reduceCtorEq, zE, ↓reduceIte]
          all_goals rfl
      · simp -implicitDefEqProofs only [c10_6_e, yc1, yc3, yc4, setA, setB, za, zb, zc, zd, ze, zf, zg, zh, zi, zj, zk, zl, zm, zn, zo, zp, reduceCtorEq, zE, ↓reduceIte]
        all_goals rfl
    · simp -implicitDefEqProofs only [c10_6_e, yc1, yc3, setA, setB, za, zb, zc, zd, ze, zf, zg, zh, zi, zj, zk, zl, zm, zn, zo, zp, reduceCtorEq, zE, ↓reduceIte]
      all_goals rfl
noncomputable def c17_0 : Code := bodyOf Try.f17
def c17_1 := cA c17_0
def c17_2 := cB c17_0
def c17_3 := cA c17_2
def c17_4 := cA c17_3
def c17_5 := cB c17_3
def c17_6 := cA c17_5
def c17_7 := cA c17_6
def c17_8 := cB c17_6
def c17_9 := cA c17_8
def c17_10 := cA c17_9
def c17_11 := cB c17_9
def c17_12 := cB c17_8
def c17_13 := cA c17_12
def c17_14 := cB c17_12
def c17_15 := cA c17_14
def c17_16 := cA c17_15
def c17_17 := cB c17_15
def c17_18 := cB c17_14
def c17_19 := cA c17_18
def c17_20 := cB c17_18
def c17_21 := cA c17_20
def c17_22 := cA c17_21
def c17_23 := cB c17_21
def c17_24 := cB c17_20
def c17_25 := cA c17_24
def c17_26 := cB c17_24
def c17_27 := cA c17_26
def c17_28 := cA c17_27
def c17_29 := cB c17_27
def c17_30 := cB c17_26
def c17_31 := cA c17_30
def c17_32 := cB c17_30
def c17_33 := cA c17_32
def c17_34 := cA c17_33
def c17_35 := cB c17_33
def c17_36 := cB c17_32
def c17_37 := cA c17_36
def c17_38 := cB c17_36
def c17_39 := cA c17_38
def c17_40 := cA c17_39
def c17_41 := cB c17_39
def c17_42 := cB c17_38
def c17_43 := cA c17_42
def c17_44 := cB c17_42
def c17_45 := cA c17_44
def c17_46 := cA c17_45
def c17_47 := cB c17_45
def c17_48 := cB c17_44
def c17_49 := cA c17_48
def c17_50 := cB c17_48
def c17_51 := cA c17_50
def c17_52 := cA c17_51
def c17_53 := cB c17_51
def c17_54 := cB c17_50
def c17_55 := cA c17_54
def c17_56 := cB c17_54
def c17_57 := cA c17_56
def c17_58 := cA c17_57
def c17_59 := cB c17_57
def c17_60 := cB c17_56
def c17_61 := cA c17_60
def c17_62 := cB c17_60
def c17_63 := cA c17_62
def c17_64 := cA c17_63
def c17_65 := cB c17_63
def c17_66 := cB c17_62
def c17_67 := cA c17_66
def c17_68 := cB c17_66
def c17_69 := cA c17_68
def c17_70 := cA c17_69
def c17_71 := cB c17_69
def c17_72 := cB c17_68
def c17_73 := cA c17_72
def c17_74 := cB c17_72
def c17_75 := cA c17_74
def c17_76 := cA c17_75
def c17_77 := cB c17_75
def c17_78 := cB c17_74
def c17_79 := cB c17_2
def c17_80 := cA c17_79
def c17_81 := cB c17_79
theorem c17_0_e : c17_0 = .seq c17_1 c17_2 := rfl
theorem c17_1_r : RG (E0 mm) 17 c17_1 := rgN rfl
theorem c17_2_e : c17_2 = .seq c17_3 c17_79 := rfl
theorem c17_3_e : c17_3 = .seq c17_4 c17_5 := rfl
theorem c17_4_r : RG (E0 mm) 17 c17_4 := rgN rfl
theorem c17_5_e : c17_5 = .block 0 c17_6 := rfl
theorem c17_6_e : c17_6 = .seq c17_7 c17_8 := rfl
theorem c17_7_r : RG (E0 mm) 17 c17_7 := rgN rfl
theorem c17_9_e : c17_9 = .seq c17_10 c17_11 := rfl
theorem c17_10_r : RG (E0 mm) 17 c17_10 := rgN rfl
theorem c17_11_e : c17_11 = .ret := rfl
theorem c17_12_e : c17_12 = .seq c17_13 c17_14 := rfl
theorem c17_13_r : RG (E0 mm) 17 c17_13 := rgN rfl
theorem c17_15_e : c17_15 = .seq c17_16 c17_17 := rfl
theorem c17_16_r : RG (E0 mm) 17 c17_16 := rgN rfl
theorem c17_17_e : c17_17 = .ret := rfl
theorem c17_18_e : c17_18 = .seq c17_19 c17_20 := rfl
theorem c17_19_r : RG (E0 mm) 17 c17_19 := rgN rfl
theorem c17_21_e : c17_21 = .seq c17_22 c17_23 := rfl
theorem c17_22_r : RG (E0 mm) 17 c17_22 := rgN rfl
theorem c17_23_e : c17_23 = .ret := rfl
theorem c17_24_e : c17_24 = .seq c17_25 c17_26 := rfl
theorem c17_25_r : RG (E0 mm) 17 c17_25 := rgN rfl
theorem c17_27_e : c17_27 = .seq c17_28 c17_29 := rfl
theorem c17_28_r : RG (E0 mm) 17 c17_28 := rgN rfl
theorem c17_29_e : c17_29 = .ret := rfl
theorem c17_30_e : c17_30 = .seq c17_31 c17_32 := rfl
theorem c17_31_r : RG (E0 mm) 17 c17_31 := rgN rfl
theorem c17_33_e : c17_33 = .seq c17_34 c17_35 := rfl
theorem c17_34_r : RG (E0 mm) 17 c17_34 := rgN rfl
theorem c17_35_e : c17_35 = .ret := rfl
theorem c17_36_e : c17_36 = .seq c17_37 c17_38 := rfl
theorem c17_37_r : RG (E0 mm) 17 c17_37 := rgN rfl
theorem c17_39_e : c17_39 = .seq c17_40 c17_41 := rfl
theorem c17_40_r : RG (E0 mm) 17 c17_40 := rgN rfl
theorem c17_41_e : c17_41 = .ret := rfl
theorem c17_42_e : c17_42 = .seq c17_43 c17_44 := rfl
theorem c17_43_r : RG (E0 mm) 17 c17_43 := rgN rfl
theorem c17_45_e : c17_45 = .seq c17_46 c17_47 := rfl
theorem c17_46_r : RG (E0 mm) 17 c17_46 := rgN rfl
theorem c17_47_e : c17_47 = .ret := rfl
theorem c17_48_e : c17_48 = .seq c17_49 c17_50 := rfl
theorem c17_49_r : RG (E0 mm) 17 c17_49 := rgN rfl
theorem c17_51_e : c17_51 = .seq c17_52 c17_53 := rfl
theorem c17_52_r : RG (E0 mm) 17 c17_52 := rgN rfl
theorem c17_53_e : c17_53 = .ret := rfl
theorem c17_54_e : c17_54 = .seq c17_55 c17_56 := rfl
theorem c17_55_r : RG (E0 mm) 17 c17_55 := rgN rfl
theorem c17_57_e : c17_57 = .seq c17_58 c17_59 := rfl
theorem c17_58_r : RG (E0 mm) 17 c17_58 := rgN rfl
theorem c17_59_e : c17_59 = .ret := rfl
theorem c17_60_e : c17_60 = .seq c17_61 c17_62 := rfl
theorem c17_61_r : RG (E0 mm) 17 c17_61 := rgN rfl
theorem c17_63_e : c17_63 = .seq c17_64 c17_65 := rfl
theorem c17_64_r : RG (E0 mm) 17 c17_64 := rgN rfl
theorem c17_65_e : c17_65 = .ret := rfl
theorem c17_66_e : c17_66 = .seq c17_67 c17_68 := rfl
theorem c17_67_r : RG (E0 mm) 17 c17_67 := rgN rfl
theorem c17_69_e : c17_69 = .seq c17_70 c17_71 := rfl
theorem c17_70_r : RG (E0 mm) 17 c17_70 := rgN rfl
theorem c17_71_e : c17_71 = .ret := rfl
theorem c17_72_e : c17_72 = .seq c17_73 c17_74 := rfl
theorem c17_73_r : RG (E0 mm) 17 c17_73 := rgN rfl
theorem c17_75_e : c17_75 = .seq c17_76 c17_77 := rfl
theorem c17_76_r : RG (E0 mm) 17 c17_76 := rgN rfl
theorem c17_77_e : c17_77 = .ret := rfl
theorem c17_78_e : c17_78 = .skip := rfl
theorem c17_79_e : c17_79 = .seq c17_80 c17_81 := rfl
theorem c17_80_r : RG (E0 mm) 17 c17_80 := rgN rfl
theorem c17_81_e : c17_81 = .ret := rfl
abbrev R17 := (Bs)
def e17 : R17 → AV × Heap := fun x => (.v (.c (.d (.sc (.string (S x))))), [])
def m17 (status : Int) : Option R17 :=
  if (status == 200) = true then
    some ([79, 75] : Bs)
  else
    if (status == 304) = true then
      some ([78, 111, 116, 32, 77, 111, 100, 105, 102, 105, 101, 100] : Bs)
    else
      if (status == 400) = true then
        some ([66, 97, 100, 32, 82, 101, 113, 117, 101, 115, 116] : Bs)
      else
        if (status == 403) = true then
          some ([70, 111, 114, 98, 105, 100, 100, 101, 110] : Bs)
        else
          if (status == 407) = true then
            some ([80, 114, 111, 120, 121, 32, 65, 117, 116, 104, 101, 110, 116, 105, 99, 97, 116, 105, 111, 110, 32, 82, 101, 113, 117, 105, 114, 101, 100] : Bs)
          else
            if (status == 413) = true then
              some ([67, 111, 110, 116, 101, 110, 116, 32, 84, 111, 111, 32, 76, 97, 114, 103, 101] : Bs)
            else
              if (status == 429) = true then
                some ([84, 111, 111, 32, 77, 97, 110, 121, 32, 82, 101, 113, 117, 101, 115, 116, 115] : Bs)
              else
                if (status == 431) = true then
                  some ([82, 101, 113, 117, 101, 115, 116, 32, 72, 101, 97, 100, 101, 114, 32, 70, 105, 101, 108, 100, 115, 32, 84, 111, 111, 32, 76, 97, 114, 103, 101] : Bs)
                else
                  if (status == 501) = true then
                    some ([78, 111, 116, 32, 73, 109, 112, 108, 101, 109, 101, 110, 116, 101, 100] : Bs)
                  else
                    if (status == 502) = true then
                      some ([66, 97, 100, 32, 71, 97, 116, 101, 119, 97, 121] : Bs)
                    else
                      if (status == 503) = true then
                        some ([83, 101, 114, 118, 105, 99, 101, 32, 85, 110, 97, 118, 97, 105, 108, 97, 98, 108, 101] : Bs)
                      else
                        if (status == 504) = true then
                          some ([71, 97, 116, 101, 119, 97, 121, 32, 84, 105, 109, 101, 111, 117, 116] : Bs)
                        else
                          some ([] : Bs)
theorem f17_t (status : Int) :
    callW (E0 mm) 17 [.c (.d (.sc (.int .i64 status)))] [] = (m17 status).map e17 := by
  rw [callW_run (body := c17_0) (res := [.tmp 2]) Try.func17 rfl rfl (by kernel_rfl)]
  simp -implicitDefEqProofs only [m17, slots1, c17_0_e, c17_1_r, (show opsOf c17_1 = _ :: _ from rfl), c17_2_e, c17_3_e, c17_4_r, (show opsOf c17_4 = _ :: _ from rfl), c17_5_e, c17_6_e, c17_7_r, (show opsOf c17_7 = _ :: _ from rfl), (show c17_8 = Code.cond _ c17_9 c17_12 from rfl), setA, setB, za, zb, zc, zd, ze, zf, zg, zh, zi, zj, zk, zl, zm, zn, zo, zp, reduceCtorEq, zE, ↓reduceIte]
  refine brB (fun yc1 => ?_) (fun yc1 => ?_)
  · simp -implicitDefEqProofs only [c17_9_e, c17_10_r, (show opsOf c17_10 = _ :: _ from rfl), c17_11_e, yc1, setA, setB, za, zb, zc, zd, ze, zf, zg, zh, zi, zj, zk, zl, zm, zn, zo, zp, reduceCtorEq, zE, ↓reduceIte]
    all_goals rfl
  · simp -implicitDefEqProofs only [c17_12_e, c17_13_r, (show opsOf c17_13 = _ :: _ from rfl), (show c17_14 = Code.cond _ c17_15 c17_18 from rfl), yc1, setA, setB, za, zb, zc, zd, ze, zf, zg, zh, zi, zj, zk, zl, zm, zn, zo, zp, reduceCtorEq, zE, ↓reduceIte]
    refine brB (fun yc2 => ?_) (fun yc2 => ?_)
    · simp -implicitDefEqProofs only [c17_15_e, c17_16_r, (show opsOf c17_16 = _ :: _ from rfl), c17_17_e, yc1, yc2, setA, setB, za, zb, zc, zd, ze, zf, zg, zh, zi, zj, zk, zl, zm, zn, zo, zp, reduceCtorEq, zE, ↓reduceIte]
      all_goals rfl
    · simp -implicitDefEqProofs only [c17_18_e, c17_19_r, (show opsOf c17_19 = _ :: _ from rfl), (show c17_20 = Code.cond _ c17_21 c17_24 from rfl), yc1, yc2, setA, setB, za, zb, zc, zd, ze, zf, zg, zh, zi, zj, zk, zl, zm, zn, zo, zp, reduceCtorEq, zE, ↓reduceIte]
      refine brB (fun yc3 => ?_) (fun yc3 => ?_)
      · simp -implicitDefEqProofs only [c17_21_e, c17_22_r, (show opsOf c17_22 = _ :: _ from rfl), c17_23_e, yc1, yc2, yc3, setA, setB, za, zb, zc, zd, ze, zf, zg, zh, zi, zj, zk, zl, zm, zn, zo, zp, reduceCtorEq, zE, ↓reduceIte]
        all_goals rfl
      · simp -implicitDefEqProofs only [c17_24_e, c17_25_r, (show opsOf c17_25 = _ :: _ from rfl), (show c17_26 = Code.cond _ c17_27 c17_30 from rfl), yc1, yc2, yc3, setA, setB, za, zb, zc, zd, ze, zf, zg, zh, zi, zj, zk, zl, zm, zn, zo, zp, reduceCtorEq, zE, ↓reduceIte]
        refine brB (fun yc4 => ?_) (fun yc4 => ?_)
        · simp -implicitDefEqProofs only [c17_27_e, c17_28_r, (show opsOf c17_28 = _ :: _ from rfl), c17_29_e, yc1, yc2, yc3, yc4, setA, setB, za, zb, zc, zd, ze, zf, zg, zh, zi, zj, zk, zl, zm, zn, zo, zp, reduceCtorEq, zE, ↓reduceIte]
          all_goals rfl
        · simp -implicitDefEqProofs only [c17_30_e, c17_31_r, (show opsOf c17_31 = _ :: _ from rfl), (show c17_32 = Code.cond _ c17_33 c17_36 from rfl), yc1, yc2, yc3, yc4, setA, setB, za, zb, zc, zd, ze, zf, zg, zh, zi, zj, zk, zl, zm, zn, zo, zp, reduceCtorEq, zE, ↓reduceIte]
          refine brB (fun yc5 => ?_) (fun yc5 => ?_)
          · simp -implicitDefEqProofs only [c17_33_e, c17_34_r, (show opsOf c17_34 = _ :: _ from rfl), c17_35_e, yc1, yc2, yc3, yc4, yc5, setA, setB, za, zb, zc, zd, ze, zf, zg, zh, zi, zj, zk, zl, zm, zn, zo, zp, reduceCtorEq, zE, ↓reduceIte]
            all_goals rfl
          · simp -implicitDefEqProofs only [c17_36_e, c17_37_r, (show opsOf c17_37 = _ :: _ from rfl), (show c17_38 = Code.cond _ c17_39 c17_42 from rfl), yc1, yc2, yc3, yc4, yc5, setA, setB, za, zb, zc, zd, ze, zf, zg, zh, zi, zj, zk, zl, zm, zn, zo, zp, reduceCtorEq, zE, ↓reduceIte]
            refine brB (fun yc6 => ?_) (fun yc6 => ?_)
            · simp -implicitDefEqProofs only [c17_39_e, c17_40_r, (show opsOf c17_40 = _ :: _ from rfl), c17_41_e, yc1, yc2, yc3, yc4, yc5, yc6, setA, setB, za, zb, zc, zd, ze, zf, zg, zh, zi, zj, zk, zl, zm, zn, zo, zp, reduceCtorEq, zE, ↓reduceIte]
              all_goals rfl
            · simp -implicitDefEqProofs only [c17_42_e, c17_43_r, (show opsOf c17_43 = _ :: _ from rfl), (show c17_44 = Code.cond _ c17_45 c17_48 from rfl), yc1, yc2, yc3, yc4, yc5, yc6, setA, setB, za, zb, zc, zd, ze, zf, zg, zh, zi, zj, zk, zl, zm, zn, zo, zp, reduceCtorEq, zE, ↓reduceIte]
              refine brB (fun yc7 => ?_) (fun yc7 => ?_)
              · simp -implicitDefEqProofs only [c17_45_e, c17_46_r, (show opsOf c17_46 = _ :: _ from rfl), c17_47_e, yc1, yc2, yc3, yc4, yc5, yc6, yc7, setA, setB, za, zb, zc, zd, ze, zf, zg, zh, zi, zj, zk, zl, zm, zn, zo, zp, reduceCtorEq, zE, ↓reduceIte]
                all_goals rfl
              · simp -implicitDefEqProofs only [c17_48_e, c17_49_r, (show opsOf c17_49 = _ :: _ from rfl), (show c17_50 = Code.cond _ c17_51 c17_54 from rfl), yc1, yc2, yc3, yc4, yc5, yc6, yc7, setA, setB, za, zb, zc, zd, ze, zf, zg, zh, zi, zj, zk, zl, zm, zn, zo, zp, reduceCtorEq, zE, ↓reduceIte]
                refine brB (fun yc8 => ?_) (fun yc8 => ?_)
                · simp -implicitDefEqProofs only [c17_51_e, c17_52_r, (show opsOf c17_52 = _ :: _ from rfl), c17_53_e, yc1, yc2, yc3, yc4, yc5, yc6, yc7, yc8, setA, setB, za, zb, zc, zd, ze, zf, zg, zh, zi, zj, zk, zl, zm, zn, zo, zp, reduceCtorEq, zE, ↓reduceIte]
                  all_goals rfl
                · simp -implicitDefEqProofs only [c17_54_e, c17_55_r, (show opsOf c17_55 = _ :: _ from rfl), (show c17_56 = Code.cond _ c17_57 c17_60 from rfl), yc1, yc2, yc3, yc4, yc5, yc6, yc7, yc8, setA, setB, za, zb, zc, zd, ze, zf, zg, zh, zi, zj, zk, zl, zm, zn, zo, zp, reduceCtorEq, zE, ↓reduceIte]
                  refine brB (fun yc9 => ?_) (fun yc9 => ?_)
                  · simp -implicitDefEqProofs only [c17_57_e, c17_58_r, (show opsOf c17_58 = _ :: _ from rfl), c17_59_e, yc1, yc2, yc3, yc4, yc5, yc6, yc7, yc8, yc9, setA, setB, za, zb, zc, zd, ze, zf, zg, zh, zi, zj, zk, zl, zm, zn, zo, zp, reduceCtorEq, zE, ↓reduceIte]
                    all_goals rfl
                  · simp -implicitDefEqProofs only [c17_60_e, c17_61_r, (show opsOf c17_61 = _ :: _ from rfl), (show c17_62 = Code.cond _ c17_63 c17_66 from rfl), yc1, yc2, yc3, yc4, yc5, yc6, yc7, yc8, yc9, setA, setB, za, zb, zc, zd, ze, zf, zg, zh, zi, zj, zk, zl, zm, zn, zo, zp, reduceCtorEq, zE, ↓reduceIte]
                    refine brB (fun yc10 => ?_) (fun yc10 => ?_)
                    · simp -implicitDefEqProofs only [c17_63_e, c17_64_r, (show opsOf c17_64 = _ :: _ from rfl), c17_65_e, yc1, yc2, yc3, yc4, yc5, yc6, yc7, yc8, yc9, yc10, setA, setB, za, zb, zc, zd, ze, zf, zg, zh, zi, zj, zk, zl, zm, zn, zo, zp, reduceCtorEq, zE, ↓reduceIte]
                      all_goals rfl
                    · simp -implicitDefEqProofs only [c17_66_e, c17_67_r, (show opsOf c17_67 = _ :: _ from rfl), (show c17_68 = Code.cond _ c17_69 c17_72 from rfl), yc1, yc2, yc3, yc4, yc5, yc6, yc7, yc8, yc9, yc10, setA, setB, za, zb, zc, zd, ze, zf, zg, zh, zi, zj, zk, zl, zm, zn, zo, zp, reduceCtorEq, zE, ↓reduceIte]
                      refine brB (fun yc11 => ?_) (fun yc11 => ?_)
                      · simp -implicitDefEqProofs only [c17_69_e, c17_70_r, (show opsOf c17_70 = _ :: _ from rfl), c17_71_e, yc1, yc2, yc3, yc4, yc5, yc6, yc7, yc8, yc9, yc10, yc11, setA, setB, za, zb, zc, zd, ze, zf, zg, zh, zi, zj, zk, zl, zm, zn, zo, zp, reduceCtorEq, zE, ↓reduceIte]
                        all_goals rfl
                      · simp -implicitDefEqProofs only [c17_72_e, c17_73_r, (show opsOf c17_73 = _ :: _ from rfl), (show c17_74 = Code.cond _ c17_75 c17_78 from rfl), yc1, yc2, yc3, yc4, yc5, yc6, yc7, yc8, yc9, yc10, yc11, setA, setB, za, zb, zc, zd, ze, zf, zg, zh, zi, zj, zk, zl, zm, zn, zo, zp, reduceCtorEq, zE, ↓reduceIte]
                        refine brB (fun yc12 => ?_) (fun yc12 => ?_)
                        · simp -implicitDefEqProofs only [c17_75_e, c17_76_r, (show opsOf c17_76 = _ :: _ from rfl), c17_77_e, yc1, yc2, yc3, yc4, yc5, yc6, yc7, yc8, yc9, yc10, yc11, yc12, setA, setB, za, zb, zc, zd, ze, zf, zg, zh, zi, zj, zk, zl, zm, zn, zo, zp, reduceCtorEq, zE, ↓reduceIte]
                          all_goals rfl
                        · simp -implicitDefEqProofs only [c17_78_e, c17_79_e, c17_80_r, (show opsOf c17_80 = _ :: _ from rfl), c17_81_e, yc1, yc2, yc3, yc4, yc5, yc6, yc7, yc8, yc9, yc10, yc11, yc12, setA, setB, za, zb, zc, zd, ze, zf, zg, zh, zi, zj, zk, zl, zm, zn, zo, zp, reduceCtorEq, zE, ↓reduceIte]
                          all_goals rfl
noncomputable def c9_0 : Code := bodyOf Try.f9
def c9_1 := cA c9_0
def c9_2 := cB c9_0
def c9_3 := cA c9_2
def c9_4 := cA c9_3
def c9_5 := cB c9_3
def c9_6 := cA c9_5
def c9_7 := cA c9_6
def c9_8 := cA c9_7
def c9_9 := cB c9_7
def c9_10 := cA c9_9
def c9_11 := cB c9_9
def c9_12 := cA c9_11
def c9_13 := cB c9_11
def c9_14 := cA c9_13
def c9_15 := cB c9_13
def c9_16 := cA c9_15
def c9_17 := cB c9_15
def c9_18 := cA c9_17
def c9_19 := cB c9_17
def c9_20 := cA c9_19
def c9_21 := cB c9_19
def c9_22 := cA c9_21
def c9_23 := cB c9_21
def c9_24 := cA c9_23
def c9_25 := cB c9_23
def c9_26 := cA c9_25
def c9_27 := cB c9_25
def c9_28 := cA c9_27
def c9_29 := cB c9_27
def c9_30 := cA c9_29
def c9_31 := cB c9_29
def c9_32 := cA c9_31
def c9_33 := cB c9_31
def c9_34 := cA c9_33
def c9_35 := cB c9_33
def c9_36 := cA c9_35
def c9_37 := cB c9_35
def c9_38 := cA c9_37
def c9_39 := cB c9_37
def c9_40 := cB c9_6
def c9_41 := cA c9_40
def c9_42 := cB c9_40
def c9_43 := cB c9_2
def c9_44 := cA c9_43
def c9_45 := cB c9_43
def c9_46 := cA c9_45
def c9_47 := cB c9_45
def c9_48 := cA c9_47
def c9_49 := cB c9_47
def c9_50 := cA c9_49
def c9_51 := cA c9_50
def c9_52 := cB c9_50
def c9_53 := cA c9_52
def c9_54 := cB c9_52
def c9_55 := cB c9_49
def c9_56 := cA c9_55
def c9_57 := cB c9_55
def c9_58 := cA c9_57
def c9_59 := cB c9_57
theorem c9_0_e : c9_0 = .seq c9_1 c9_2 := rfl
theorem c9_1_r : RG (E0 mm) 9 c9_1 := rgN rfl
theorem c9_2_e : c9_2 = .seq c9_3 c9_43 := rfl
theorem c9_3_e : c9_3 = .seq c9_4 c9_5 := rfl
theorem c9_4_r : RG (E0 mm) 9 c9_4 := rgN rfl
theorem c9_5_e : c9_5 = .block 0 c9_6 := rfl
theorem c9_6_e : c9_6 = .seq c9_7 c9_40 := rfl
theorem c9_7_e : c9_7 = .seq c9_8 c9_9 := rfl
theorem c9_8_r : RG (E0 mm) 9 c9_8 := rgN rfl
theorem c9_10_e : c9_10 = .skip := rfl
theorem c9_11_e : c9_11 = .seq c9_12 c9_13 := rfl
theorem c9_12_r : RG (E0 mm) 9 c9_12 := rgN rfl
theorem c9_14_e : c9_14 = .skip := rfl
theorem c9_15_e : c9_15 = .seq c9_16 c9_17 := rfl
theorem c9_16_r : RG (E0 mm) 9 c9_16 := rgN rfl
theorem c9_18_e : c9_18 = .skip := rfl
theorem c9_19_e : c9_19 = .seq c9_20 c9_21 := rfl
theorem c9_20_r : RG (E0 mm) 9 c9_20 := rgN rfl
theorem c9_22_e : c9_22 = .skip := rfl
theorem c9_23_e : c9_23 = .seq c9_24 c9_25 := rfl
theorem c9_24_r : RG (E0 mm) 9 c9_24 := rgN rfl
theorem c9_26_e : c9_26 = .skip := rfl
theorem c9_27_e : c9_27 = .seq c9_28 c9_29 := rfl
theorem c9_28_r : RG (E0 mm) 9 c9_28 := rgN rfl
theorem c9_30_e : c9_30 = .skip := rfl
theorem c9_31_e : c9_31 = .seq c9_32 c9_33 := rfl
theorem c9_32_r : RG (E0 mm) 9 c9_32 := rgN rfl
theorem c9_34_e : c9_34 = .skip := rfl
theorem c9_35_e : c9_35 = .seq c9_36 c9_37 := rfl
theorem c9_36_r : RG (E0 mm) 9 c9_36 := rgN rfl
theorem c9_38_e : c9_38 = .skip := rfl
theorem c9_39_r : RG (E0 mm) 9 c9_39 := rgN rfl
theorem c9_41_e : c9_41 = .skip := rfl
theorem c9_42_r : RG (E0 mm) 9 c9_42 := rgN rfl
theorem c9_43_e : c9_43 = .seq c9_44 c9_45 := rfl
theorem c9_44_r : RG (E0 mm) 9 c9_44 := rgN rfl
theorem c9_45_e : c9_45 = .seq c9_46 c9_47 := rfl
theorem c9_46_r : RG (E0 mm) 9 c9_46 := rgN rfl
theorem c9_47_e : c9_47 = .seq c9_48 c9_49 := rfl
theorem c9_48_r : RG (E0 mm) 9 c9_48 := rgN rfl
theorem c9_49_e : c9_49 = .seq c9_50 c9_55 := rfl
theorem c9_50_e : c9_50 = .seq c9_51 c9_52 := rfl
theorem c9_51_r : RG (E0 mm) 9 c9_51 := rgN rfl
theorem c9_53_r : RG (E0 mm) 9 c9_53 := rgN rfl
theorem c9_54_e : c9_54 = .skip := rfl
theorem c9_55_e : c9_55 = .seq c9_56 c9_57 := rfl
theorem c9_56_r : RG (E0 mm) 9 c9_56 := rgN rfl
theorem c9_57_e : c9_57 = .seq c9_58 c9_59 := rfl
theorem c9_58_r : RG (E0 mm) 9 c9_58 := rgN rfl
theorem c9_59_e : c9_59 = .ret := rfl
abbrev R9 := (Int × Bs × Int × Bool × List (Bs × Bs) × Bool × List UInt8)
def e9 : R9 → AV × Heap := fun x => (.v (.agg [.d (.sc (.int .i64 x.1)), .d (.sc (.string (S x.2.1))), .d (.sc (.int .i64 x.2.2.1)), .own x.2.2.2.1 (enL enSS x.2.2.2.2.1) 0, .d (.lst x.2.2.2.2.2.1 (enL enB x.2.2.2.2.2.2))]), [.row x.2.2.2.2.1.length (rz x.2.2.2.1 2)])
def j9_55 (status0 : Int) (l3_0 : Bool) (l3_1 : List (Bs × Bs)) (h0_0 : Int) (h0_1 : Bs) (h0_2 : Int) (h0_3_0 : Bool) (h0_3_1 : List (Bs × Bs)) (h0_4_0 : Bool) (h0_4_1 : List UInt8) : Option R9 :=
  (m17 status0).bind fun yr5 =>
    if yr5.length + 1 < 9223372036854775808 then
      some (status0, yr5, (1 : Int), l3_0, l3_1, false, (yr5 ++ ([10] : Bs)))
    else none
theorem j9_55_t (status0 : Int) (l3_0 : Bool) (l3_1 : List (Bs × Bs)) (h0_0 : Int) (h0_1 : Bs) (h0_2 : Int) (h0_3_0 : Bool) (h0_3_1 : List (Bs × Bs)) (h0_4_0 : Bool) (h0_4_1 : List UInt8)  (sl : Nat → AV) (zq0 : sl 0 = .v (.c (.d (.sc (.int .i64 status0))))) (zq2 : sl 2 = .v (.c (.ptr 0 0))) (zq3 : sl 3 = .v (.c (.own l3_0 (enL enSS l3_1) 1))) :
    bodyD (E0 mm) [.cell 2 26] 0 false (den (E0 mm) 9 0 (callW (E0 mm)) itW c9_55 none ⟨sl, [.cells [.d (.sc (.int .i64 h0_0)), .d (.sc (.string (S h0_1))), .d (.sc (.int .i64 h0_2)), .d (.lst h0_3_0 (enL enSS h0_3_1)), .d (.lst h0_4_0 (enL enB h0_4_1))], .row l3_1.length (rz l3_0 2)]⟩) = (j9_55 status0 l3_0 l3_1 h0_0 h0_1 h0_2 h0_3_0 h0_3_1 h0_4_0 h0_4_1).map e9 := by
  simp -implicitDefEqProofs only [j9_55, c9_55_e, c9_56_r, (show opsOf c9_56 = _ :: _ from rfl), ent17, prm17, f17_t, zq0, zq2, zq3, setA, setB, za, zb, zc, zd, ze, zf, zg, zh, zi, zj, zk, zl, zm, zn, zo, zp, reduceCtorEq, zE, ↓reduceIte]
  refine brM (fun yc4 => ?_) (fun yr5 yc4 => ?_)
  · rw [yc4]; rfl
  · simp -implicitDefEqProofs only [e17, c9_57_e, c9_58_r, (show opsOf c9_58 = _ :: _ from rfl), zq0, zq2, zq3, yc4, setA, setB, za, zb, zc, zd, ze, zf, zg, zh, zi, zj, zk, zl, zm, zn, zo, zp, reduceCtorEq, zE, ↓reduceIte]
    refine brP (fun yc6 => ?_) (fun yc6 => ?_)
    · simp -implicitDefEqProofs only [Try.underlying9, Try.underlying24, Try.underlying5, hd30, rw31, Try.underlying26, zc26, sz3, sz9, sz23, sz24, sz26, c9_59_e, ag26, zq0, zq2, zq3, yc4, yc6, setA, setB, za, zb, zc, zd, ze, zf, zg, zh, zi, zj, zk, zl, zm, zn, zo, zp, reduceCtorEq, zE, ↓reduceIte]
      all_goals rfl
    · rw [if_neg yc6]; rfl
def j9_43 (status0 h0_0 : Int) (h0_1 : Bs) (h0_2 : Int) (h0_3_0 : Bool) (h0_3_1 : List (Bs × Bs)) (h0_4_0 : Bool) (h0_4_1 : List UInt8) : Option R9 :=
  if (status0 == 407) = true then
    j9_55 status0 false ([(([67, 111, 110, 116, 101, 110, 116, 45, 84, 121, 112, 101] : Bs), ([116, 101, 120, 116, 47, 112, 108, 97, 105, 110] : Bs)), (([67, 97, 99, 104, 101, 45, 67, 111, 110, 116, 114, 111, 108] : Bs), ([110, 111, 45, 115, 116, 111, 114, 101] : Bs)), (([80, 114, 111, 120, 121, 45, 65, 117, 116, 104, 101, 110, 116, 105, 99, 97, 116, 101] : Bs), ([66, 101, 97, 114, 101, 114] : Bs))] : List (Bs × Bs)) h0_0 h0_1 h0_2 h0_3_0 h0_3_1 h0_4_0 h0_4_1
  else
    j9_55 status0 false ([(([67, 111, 110, 116, 101, 110, 116, 45, 84, 121, 112, 101] : Bs), ([116, 101, 120, 116, 47, 112, 108, 97, 105, 110] : Bs)), (([67, 97, 99, 104, 101, 45, 67, 111, 110, 116, 114, 111, 108] : Bs), ([110, 111, 45, 115, 116, 111, 114, 101] : Bs))] : List (Bs × Bs)) h0_0 h0_1 h0_2 h0_3_0 h0_3_1 h0_4_0 h0_4_1
theorem j9_43_t (status0 h0_0 : Int) (h0_1 : Bs) (h0_2 : Int) (h0_3_0 : Bool) (h0_3_1 : List (Bs × Bs)) (h0_4_0 : Bool) (h0_4_1 : List UInt8)  (sl : Nat → AV) (zq0 : sl 0 = .v (.c (.d (.sc (.int .i64 status0))))) (zq2 : sl 2 = .v (.c (.ptr 0 0))) :
    bodyD (E0 mm) [.cell 2 26] 0 false (den (E0 mm) 9 0 (callW (E0 mm)) itW c9_43 none ⟨sl, [.cells [.d (.sc (.int .i64 h0_0)), .d (.sc (.string (S h0_1))), .d (.sc (.int .i64 h0_2)), .d (.lst h0_3_0 (enL enSS h0_3_1)), .d (.lst h0_4_0 (enL enB h0_4_1))]]⟩) = (j9_43 status0 h0_0 h0_1 h0_2 h0_3_0 h0_3_1 h0_4_0 h0_4_1).map e9 := by
  simp -implicitDefEqProofs only [j9_43, c9_43_e, c9_44_r, (show opsOf c9_44 = _ :: _ from rfl), c9_45_e, c9_46_r, (show opsOf c9_46 = _ :: _ from rfl), Try.underlying33, zc33, sz9, Try.underlying23, sz33, hd19, nv20, rw21, ns22, an23, c9_47_e, c9_48_r, (show opsOf c9_48 = _ :: _ from rfl), hd24, nv25, rw26, ap23, c9_49_e, c9_50_e, c9_51_r, (show opsOf c9_51 = _ :: _ from rfl), (show c9_52 = Code.cond _ c9_53 c9_54 from rfl), zq0, zq2, setA, setB, za, zb, zc, zd, ze, zf, zg, zh, zi, zj, zk, zl, zm, zn, zo, zp, reduceCtorEq, zE, ↓reduceIte]
  refine brB (fun yc3 => ?_) (fun yc3 => ?_)
  · simp -implicitDefEqProofs only [c9_53_r, (show opsOf c9_53 = _ :: _ from rfl), Try.underlying33, zc33, sz9, Try.underlying23, sz33, hd27, nv28, rw29, ns22, ap23, zq0, zq2, yc3, setA, setB, za, zb, zc, zd, ze, zf, zg, zh, zi, zj, zk, zl, zm, zn, zo, zp, reduceCtorEq, zE, ↓reduceIte]
    exact j9_55_t status0 false ([(([67, 111, 110, 116, 101, 110, 116, 45, 84, 121, 112, 101] : Bs), ([116, 101, 120, 116, 47, 112, 108, 97, 105, 110] : Bs)), (([67, 97, 99, 104, 101, 45, 67, 111, 110, 116, 114, 111, 108] : Bs), ([110, 111, 45, 115, 116, 111, 114, 101] : Bs)), (([80, 114, 111, 120, 121, 45, 65, 117, 116, 104, 101, 110, 116, 105, 99, 97, 116, 101] : Bs), ([66, 101, 97, 114, 101, 114] : Bs))] : List (Bs × Bs)) h0_0 h0_1 h0_2 h0_3_0 h0_3_1 h0_4_0 h0_4_1 _ (by exact zq0) (by exact zq2) (by rfl)
  · simp -implicitDefEqProofs only [c9_54_e, zq0, zq2, yc3, setA, setB, za, zb, zc, zd, ze, zf, zg, zh, zi, zj, zk, zl, zm, zn, zo, zp, reduceCtorEq, zE, ↓reduceIte]
    exact j9_55_t status0 false ([(([67, 111, 110, 116, 101, 110, 116, 45, 84, 121, 112, 101] : Bs), ([116, 101, 120, 116, 47, 112, 108, 97, 105, 110] : Bs)), (([67, 97, 99, 104, 101, 45, 67, 111, 110, 116, 114, 111, 108] : Bs), ([110, 111, 45, 115, 116, 111, 114, 101] : Bs))] : List (Bs × Bs)) h0_0 h0_1 h0_2 h0_3_0 h0_3_1 h0_4_0 h0_4_1 _ (by exact zq0) (by exact zq2) (by rfl)
def j9_40 (status0 : Int) (t6 : Bool) (h0_0 : Int) (h0_1 : Bs) (h0_2 : Int) (h0_3_0 : Bool) (h0_3_1 : List (Bs × Bs)) (h0_4_0 : Bool) (h0_4_1 : List UInt8) : Option R9 :=
  if t6 = true then
    j9_43 status0 h0_0 h0_1 h0_2 h0_3_0 h0_3_1 h0_4_0 h0_4_1
  else
    j9_43 (502 : Int) h0_0 h0_1 h0_2 h0_3_0 h0_3_1 h0_4_0 h0_4_1
theorem j9_40_t (status0 : Int) (t6 : Bool) (h0_0 : Int) (h0_1 : Bs) (h0_2 : Int) (h0_3_0 : Bool) (h0_3_1 : List (Bs × Bs)) (h0_4_0 : Bool) (h0_4_1 : List UInt8)  (sl : Nat → AV) (zq0 : sl 0 = .v (.c (.d (.sc (.int .i64 status0))))) (zq2 : sl 2 = .v (.c (.ptr 0 0))) (zq6 : sl 6 = .v (.c (.d (.sc (.bool t6))))) :
    bodyD (E0 mm) [.cell 2 26] 0 false (seqD (E0 mm) 9 0 (callW (E0 mm)) itW c9_43 (blockD 0 (den (E0 mm) 9 0 (callW (E0 mm)) itW c9_40 none ⟨sl, [.cells [.d (.sc (.int .i64 h0_0)), .d (.sc (.string (S h0_1))), .d (.sc (.int .i64 h0_2)), .d (.lst h0_3_0 (enL enSS h0_3_1)), .d (.lst h0_4_0 (enL enB h0_4_1))]]⟩))) = (j9_40 status0 t6 h0_0 h0_1 h0_2 h0_3_0 h0_3_1 h0_4_0 h0_4_1).map e9 := by
  simp -implicitDefEqProofs only [j9_40, (show c9_40 = Code.cond _ c9_41 c9_42 from rfl), zq0, zq2, zq6, setA, setB, za, zb, zc, zd, ze, zf, zg, zh, zi, zj, zk, zl, zm, zn, zo, zp, reduceCtorEq, zE, ↓reduceIte]
  refine brB (fun yc2 => ?_) (fun yc2 => ?_)
  · simp -implicitDefEqProofs only [c9_41_e, zq0, zq2, zq6, yc2, setA, setB, za, zb, zc, zd, ze, zf, zg, zh, zi, zj, zk, zl, zm, zn, zo, zp, reduceCtorEq, zE, ↓reduceIte]
    exact j9_43_t status0 h0_0 h0_1 h0_2 h0_3_0 h0_3_1 h0_4_0 h0_4_1 _ (by exact zq0) (by exact zq2)
  · simp -implicitDefEqProofs only [c9_42_r, (show opsOf c9_42 = _ :: _ from rfl), zq0, zq2, zq6, yc2, setA, setB, za, zb, zc, zd, ze, zf, zg, zh, zi, zj, zk, zl, zm, zn, zo, zp, reduceCtorEq, zE, ↓reduceIte]
    exact j9_43_t (502 : Int) h0_0 h0_1 h0_2 h0_3_0 h0_3_1 h0_4_0 h0_4_1 _ (by rfl) (by exact zq2)
def m9 (status : Int) : Option R9 :=
  if (status == 400) = true then
    j9_40 status true (0 : Int) ([] : Bs) (0 : Int) true ([] : List (Bs × Bs)) true ([] : List UInt8)
  else
    if (status == 403) = true then
      j9_40 status true (0 : Int) ([] : Bs) (0 : Int) true ([] : List (Bs × Bs)) true ([] : List UInt8)
    else
      if (status == 407) = true then
        j9_40 status true (0 : Int) ([] : Bs) (0 : Int) true ([] : List (Bs × Bs)) true ([] : List UInt8)
      else
        if (status == 413) = true then
          j9_40 status true (0 : Int) ([] : Bs) (0 : Int) true ([] : List (Bs × Bs)) true ([] : List UInt8)
        else
          if (status == 429) = true then
            j9_40 status true (0 : Int) ([] : Bs) (0 : Int) true ([] : List (Bs × Bs)) true ([] : List UInt8)
          else
            if (status == 431) = true then
              j9_40 status true (0 : Int) ([] : Bs) (0 : Int) true ([] : List (Bs × Bs)) true ([] : List UInt8)
            else
              if (status == 501) = true then
                j9_40 status true (0 : Int) ([] : Bs) (0 : Int) true ([] : List (Bs × Bs)) true ([] : List UInt8)
              else
                if (status == 503) = true then
                  j9_40 status true (0 : Int) ([] : Bs) (0 : Int) true ([] : List (Bs × Bs)) true ([] : List UInt8)
                else
                  j9_40 status (status == 504) (0 : Int) ([] : Bs) (0 : Int) true ([] : List (Bs × Bs)) true ([] : List UInt8)
theorem f9_t (status : Int) :
    callW (E0 mm) 9 [.c (.d (.sc (.int .i64 status)))] [] = (m9 status).map e9 := by
  rw [callW_run (body := c9_0) (res := [.cell 2 26]) Try.func9 rfl rfl (by kernel_rfl)]
  simp -implicitDefEqProofs only [m9, slots1, c9_0_e, c9_1_r, (show opsOf c9_1 = _ :: _ from rfl), zc26, ao18, c9_2_e, c9_3_e, c9_4_r, (show opsOf c9_4 = _ :: _ from rfl), c9_5_e, c9_6_e, c9_7_e, c9_8_r, (show opsOf c9_8 = _ :: _ from rfl), (show c9_9 = Code.cond _ c9_10 c9_11 from rfl), setA, setB, za, zb, zc, zd, ze, zf, zg, zh, zi, zj, zk, zl, zm, zn, zo, zp, reduceCtorEq, zE, ↓reduceIte]
  refine brB (fun yc1 => ?_) (fun yc1 => ?_)
  · simp -implicitDefEqProofs only [c9_10_e, yc1, setA, setB, za, zb, zc, zd, ze, zf, zg, zh, zi, zj, zk, zl, zm, zn, zo, zp, reduceCtorEq, zE, ↓reduceIte]
    exact j9_40_t status true (0 : Int) ([] : Bs) (0 : Int) true ([] : List (Bs × Bs)) true ([] : List UInt8) _ (by rfl) (by rfl) (by rfl)
  · simp -implicitDefEqProofs only [c9_11_e, c9_12_r, (show opsOf c9_12 = _ :: _ from rfl), (show c9_13 = Code.cond _ c9_14 c9_15 from rfl), yc1, setA, setB, za, zb, zc, zd, ze, zf, zg, zh, zi, zj, zk, zl, zm, zn, zo, zp, reduceCtorEq, zE, ↓reduceIte]
    refine brB (fun yc7 => ?_) (fun yc7 => ?_)
    · simp -implicitDefEqProofs only [c9_14_e, yc1, yc7, setA, setB, za, zb, zc, zd, ze, zf, zg, zh, zi, zj, zk, zl, zm, zn, zo, zp, reduceCtorEq, zE, ↓reduceIte]
      exact j9_40_t status true (0 : Int) ([] : Bs) (0 : Int) true ([] : List (Bs × Bs)) true ([] : List UInt8) _ (by rfl) (by rfl) (by rfl)
    · simp -implicitDefEqProofs only [c9_15_e, c9_16_r, (show opsOf c9_16 = _ :: _ from rfl), (show c9_17 = Code.cond _ c9_18 c9_19 from rfl), yc1, yc7, setA, setB, za, zb, zc, zd, ze, zf, zg, zh, zi, zj, zk, zl, zm, zn, zo, zp, reduceCtorEq, zE, ↓reduceIte]
      refine brB (fun yc8 => ?_) (fun yc8 => ?_)
      · simp -implicitDefEqProofs only [c9_18_e, yc1, yc7, yc8, setA, setB, za, zb, zc, zd, ze, zf, zg, zh, zi, zj, zk, zl, zm, zn, zo, zp, reduceCtorEq, zE, ↓reduceIte]
        exact j9_40_t status true (0 : Int) ([] : Bs) (0 : Int) true ([] : List (Bs × Bs)) true ([] : List UInt8) _ (by rfl) (by rfl) (by rfl)
      · simp -implicitDefEqProofs only [c9_19_e, c9_20_r, (show opsOf c9_20 = _ :: _ from rfl), (show c9_21 = Code.cond _ c9_22 c9_23 from rfl), yc1, yc7, yc8, setA, setB, za, zb, zc, zd, ze, zf, zg, zh, zi, zj, zk, zl, zm, zn, zo, zp, reduceCtorEq, zE, ↓reduceIte]
        refine brB (fun yc9 => ?_) (fun yc9 => ?_)
        · simp -implicitDefEqProofs only [c9_22_e, yc1, yc7, yc8, yc9, setA, setB, za, zb, zc, zd, ze, zf, zg, zh, zi, zj, zk, zl, zm, zn, zo, zp, reduceCtorEq, zE, ↓reduceIte]
          exact j9_40_t status true (0 : Int) ([] : Bs) (0 : Int) true ([] : List (Bs × Bs)) true ([] : List UInt8) _ (by rfl) (by rfl) (by rfl)
        · simp -implicitDefEqProofs only [c9_23_e, c9_24_r, (show opsOf c9_24 = _ :: _ from rfl), (show c9_25 = Code.cond _ c9_26 c9_27 from rfl), yc1, yc7, yc8, yc9, setA, setB, za, zb, zc, zd, ze, zf, zg, zh, zi, zj, zk, zl, zm, zn, zo, zp, reduceCtorEq, zE, ↓reduceIte]
          refine brB (fun yc10 => ?_) (fun yc10 => ?_)
          · simp -implicitDefEqProofs only [c9_26_e, yc1, yc7, yc8, yc9, yc10, setA, setB, za, zb, zc, zd, ze, zf, zg, zh, zi, zj, zk, zl, zm, zn, zo, zp, reduceCtorEq, zE, ↓reduceIte]
            exact j9_40_t status true (0 : Int) ([] : Bs) (0 : Int) true ([] : List (Bs × Bs)) true ([] : List UInt8) _ (by rfl) (by rfl) (by rfl)
          · simp -implicitDefEqProofs only [c9_27_e, c9_28_r, (show opsOf c9_28 = _ :: _ from rfl), (show c9_29 = Code.cond _ c9_30 c9_31 from rfl), yc1, yc7, yc8, yc9, yc10, setA, setB, za, zb, zc, zd, ze, zf, zg, zh, zi, zj, zk, zl, zm, zn, zo, zp, reduceCtorEq, zE, ↓reduceIte]
            refine brB (fun yc11 => ?_) (fun yc11 => ?_)
            · simp -implicitDefEqProofs only [c9_30_e, yc1, yc7, yc8, yc9, yc10, yc11, setA, setB, za, zb, zc, zd, ze, zf, zg, zh, zi, zj, zk, zl, zm, zn, zo, zp, reduceCtorEq, zE, ↓reduceIte]
              exact j9_40_t status true (0 : Int) ([] : Bs) (0 : Int) true ([] : List (Bs × Bs)) true ([] : List UInt8) _ (by rfl) (by rfl) (by rfl)
            · simp -implicitDefEqProofs only [c9_31_e, c9_32_r, (show opsOf c9_32 = _ :: _ from rfl), (show c9_33 = Code.cond _ c9_34 c9_35 from rfl), yc1, yc7, yc8, yc9, yc10, yc11, setA, setB, za, zb, zc, zd, ze, zf, zg, zh, zi, zj, zk, zl, zm, zn, zo, zp, reduceCtorEq, zE, ↓reduceIte]
              refine brB (fun yc12 => ?_) (fun yc12 => ?_)
              · simp -implicitDefEqProofs only [c9_34_e, yc1, yc7, yc8, yc9, yc10, yc11, yc12, setA, setB, za, zb, zc, zd, ze, zf, zg, zh, zi, zj, zk, zl, zm, zn, zo, zp, reduceCtorEq, zE, ↓reduceIte]
                exact j9_40_t status true (0 : Int) ([] : Bs) (0 : Int) true ([] : List (Bs × Bs)) true ([] : List UInt8) _ (by rfl) (by rfl) (by rfl)
              · simp -implicitDefEqProofs only [c9_35_e, c9_36_r, (show opsOf c9_36 = _ :: _ from rfl), (show c9_37 = Code.cond _ c9_38 c9_39 from rfl), yc1, yc7, yc8, yc9, yc10, yc11, yc12, setA, setB, za, zb, zc, zd, ze, zf, zg, zh, zi, zj, zk, zl, zm, zn, zo, zp, reduceCtorEq, zE, ↓reduceIte]
                refine brB (fun yc13 => ?_) (fun yc13 => ?_)
                · simp -implicitDefEqProofs only [c9_38_e, yc1, yc7, yc8, yc9, yc10, yc11, yc12, yc13, setA, setB, za, zb, zc, zd, ze, zf, zg, zh, zi, zj, zk, zl, zm, zn, zo, zp, reduceCtorEq, zE, ↓reduceIte]
                  exact j9_40_t status true (0 : Int) ([] : Bs) (0 : Int) true ([] : List (Bs × Bs)) true ([] : List UInt8) _ (by rfl) (by rfl) (by rfl)
                · simp -implicitDefEqProofs only [c9_39_r, (show opsOf c9_39 = _ :: _ from rfl), yc1, yc7, yc8, yc9, yc10, yc11, yc12, yc13, setA, setB, za, zb, zc, zd, ze, zf, zg, zh, zi, zj, zk, zl, zm, zn, zo, zp, reduceCtorEq, zE, ↓reduceIte]
                  exact j9_40_t status (status == 504) (0 : Int) ([] : Bs) (0 : Int) true ([] : List (Bs × Bs)) true ([] : List UInt8) _ (by rfl) (by rfl) (by rfl)
noncomputable def c16_0 : Code := bodyOf Try.f16
def c16_1 := cA c16_0
def c16_2 := cB c16_0
def c16_3 := cA c16_2
def c16_4 := cA c16_3
def c16_5 := cB c16_3
def c16_6 := cA c16_5
def c16_7 := cA c16_6
def c16_8 := cB c16_6
def c16_9 := cB c16_5
def c16_10 := cB c16_2
def c16_11 := cA c16_10
def c16_12 := cA c16_11
def c16_13 := cB c16_11
def c16_14 := cA c16_13
def c16_15 := cA c16_14
def c16_16 := cA c16_15
def c16_17 := cA c16_16
def c16_18 := cB c16_16
def c16_19 := cA c16_18
def c16_20 := cB c16_18
def c16_21 := cB c16_15
def c16_22 := cA c16_21
def c16_23 := cA c16_22
def c16_24 := cA c16_23
def c16_25 := cB c16_23
def c16_26 := cA c16_25
def c16_27 := cA c16_26
def c16_28 := cB c16_26
def c16_29 := cB c16_25
def c16_30 := cB c16_21
def c16_31 := cB c16_10
def c16_32 := cA c16_31
def c16_33 := cB c16_31
theorem c16_0_e : c16_0 = .seq c16_1 c16_2 := rfl
theorem c16_1_r : RG (E0 mm) 16 c16_1 := rgN rfl
theorem c16_2_e : c16_2 = .seq c16_3 c16_10 := rfl
theorem c16_3_e : c16_3 = .seq c16_4 c16_5 := rfl
theorem c16_4_r : RG (E0 mm) 16 c16_4 := rgN rfl
theorem c16_6_e : c16_6 = .seq c16_7 c16_8 := rfl
theorem c16_7_r : RG (E0 mm) 16 c16_7 := rgN rfl
theorem c16_8_e : c16_8 = .ret := rfl
theorem c16_9_e : c16_9 = .skip := rfl
theorem c16_10_e : c16_10 = .seq c16_11 c16_31 := rfl
theorem c16_11_e : c16_11 = .seq c16_12 c16_13 := rfl
theorem c16_12_r : RG (E0 mm) 16 c16_12 := rgN rfl
theorem c16_13_e : c16_13 = .block 0 c16_14 := rfl
theorem c16_14_l (m : Nat) (st : St) : den (E0 mm) 16 m (callW (E0 mm)) itW c16_14 none st = loopD itW (loopF (E0 mm) 16 m (callW (E0 mm)) itW c16_15 [(0, .keep), (1, .keep), (5, .keep)]) (canon m [(0, .keep), (1, .keep), (5, .keep)] st) := rfl
theorem c16_15_e : c16_15 = .seq c16_16 c16_21 := rfl
theorem c16_16_e : c16_16 = .seq c16_17 c16_18 := rfl
theorem c16_17_r : RG (E0 mm) 16 c16_17 := rgN rfl
theorem c16_19_e : c16_19 = .skip := rfl
theorem c16_20_e : c16_20 = .exit 0 := rfl
theorem c16_21_e : c16_21 = .seq c16_22 c16_30 := rfl
theorem c16_22_e : c16_22 = .block 1 c16_23 := rfl
theorem c16_23_e : c16_23 = .seq c16_24 c16_25 := rfl
theorem c16_24_r : RG (E0 mm) 16 c16_24 := rgD (by kernel_rfl)
theorem c16_26_e : c16_26 = .seq c16_27 c16_28 := rfl
theorem c16_27_r : RG (E0 mm) 16 c16_27 := rgN rfl
theorem c16_28_e : c16_28 = .ret := rfl
theorem c16_29_e : c16_29 = .skip := rfl
theorem c16_30_r : RG (E0 mm) 16 c16_30 := rgN rfl
theorem c16_31_e : c16_31 = .seq c16_32 c16_33 := rfl
theorem c16_32_r : RG (E0 mm) 16 c16_32 := rgN rfl
theorem c16_33_e : c16_33 = .ret := rfl
abbrev R16 := (Bool)
def e16 : R16 → AV × Heap := fun x => (.v (.c (.d (.sc (.bool x)))), [])
def K16_14 : Option (Ex × St) → Option (AV × Heap) := fun r => bodyD (E0 mm) [.tmp 4] 0 false (seqD (E0 mm) 16 0 (callW (E0 mm)) itW c16_31 (blockD 0 (r)))
def en16_14 : (Bool × List (Bs × Bs) × Bool × List (Bs × Bs) × Int) → X := fun x => (none, [.v (.c (.d (.lst x.1 (enL enSS x.2.1)))), .v (.c (.d (.lst x.2.2.1 (enL enSS x.2.2.2.1)))), .v (.c (.d (.sc (.int .i64 x.2.2.2.2))))], [])
def j16_31  : Option R16 :=
  some true
theorem j16_31_t   (sl : Nat → AV)  :
    bodyD (E0 mm) [.tmp 4] 0 false (den (E0 mm) 16 0 (callW (E0 mm)) itW c16_31 none ⟨sl, []⟩) = (j16_31).map e16 := by
  simp -implicitDefEqProofs only [j16_31, c16_31_e, c16_32_r, (show opsOf c16_32 = _ :: _ from rfl), c16_33_e, setA, setB, za, zb, zc, zd, ze, zf, zg, zh, zi, zj, zk, zl, zm, zn, zo, zp, reduceCtorEq, zE, ↓reduceIte]
  all_goals rfl
def s16_14 (a0_0 : Bool) (a0_1 : List (Bs × Bs)) (b1_0 : Bool) (b1_1 : List (Bs × Bs)) (i5 : Int) : Option ((Bool × List (Bs × Bs) × Bool × List (Bs × Bs) × Int) ⊕ R16) :=
  if (decide (i5 < (a0_1.length : Int))) = true then
    if 0 ≤ i5 ∧ i5 < (a0_1.length : Int) then
      if 0 ≤ i5 ∧ i5 < (b1_1.length : Int) then
        if (((a0_1.getD i5.toNat default).1 == (b1_1.getD i5.toNat default).1) && ((a0_1.getD i5.toNat default).2 == (b1_1.getD i5.toNat default).2)) = true then
          some (.inl (a0_0, a0_1, b1_0, b1_1, (w64 (i5 + 1))))
        else
          some (.inr false)
      else none
    else none
  else
    (j16_31).map .inr
theorem s16_14_t (a0_0 : Bool) (a0_1 : List (Bs × Bs)) (b1_0 : Bool) (b1_1 : List (Bs × Bs)) (i5 : Int) :
    stepE (K16_14 (mm := mm)) (loopF (E0 mm) 16 0 (callW (E0 mm)) itW c16_15 [(0, .keep), (1, .keep), (5, .keep)] (none, [.v (.c (.d (.lst a0_0 (enL enSS a0_1)))), .v (.c (.d (.lst b1_0 (enL enSS b1_1)))), .v (.c (.d (.sc (.int .i64 i5))))], [])) = (s16_14 a0_0 a0_1 b1_0 b1_1 i5).map (sm en16_14 e16) := by
  simp -implicitDefEqProofs only [s16_14, loopF_eq, c16_15_e, c16_16_e, c16_17_r, (show opsOf c16_17 = _ :: _ from rfl), Try.underlying23, (show c16_18 = Code.cond _ c16_19 c16_20 from rfl), setA, setB, za, zb, zc, zd, ze, zf, zg, zh, zi, zj, zk, zl, zm, zn, zo, zp, reduceCtorEq, zE, ↓reduceIte]
  refine brB (fun yc2 => ?_) (fun yc2 => ?_)
  · simp -implicitDefEqProofs only [c16_19_e, c16_21_e, c16_22_e, c16_23_e, c16_24_r, (show opsOf c16_24 = _ :: _ from rfl), Try.underlying23, sz33, enSS_a, yc2, setA, setB, za, zb, zc, zd, ze, zf, zg, zh, zi, zj, zk, zl, zm, zn, zo, zp, reduceCtorEq, zE, ↓reduceIte]
    refine brP (fun yc3 => ?_) (fun yc3 => ?_)
    · have yd4 : i5.toNat < a0_1.length := by omega
      simp -implicitDefEqProofs only [(enL_get enSS a0_1 i5.toNat yd4), enSS_e, sz33, ag33, Try.underlying23, enSS_a, yc2, yc3, yd4, setA, setB, za, zb, zc, zd, ze, zf, zg, zh, zi, zj, zk, zl, zm, zn, zo, zp, reduceCtorEq, zE, ↓reduceIte]
      refine brP (fun yc5 => ?_) (fun yc5 => ?_)
      · have yd6 : i5.toNat < b1_1.length := by omega
        simp -implicitDefEqProofs only [(enL_get enSS b1_1 i5.toNat yd6), enSS_e, sz33, ag33, eqs33n, toV_agg, (show c16_25 = Code.cond _ c16_26 c16_29 from rfl), yc2, yc3, yd4, yc5, yd6, setA, setB, za, zb, zc, zd, ze, zf, zg, zh, zi, zj, zk, zl, zm, zn, zo, zp, reduceCtorEq, zE, ↓reduceIte]
        refine brB (fun yc7 => ?_) (fun yc7 => ?_)
        · simp -implicitDefEqProofs only [c16_29_e, c16_30_r, (show opsOf c16_30 = _ :: _ from rfl), yc2, yc3, yd4, yc5, yd6, yc7, setA, setB, za, zb, zc, zd, ze, zf, zg, zh, zi, zj, zk, zl, zm, zn, zo, zp, reduceCtorEq, zE, ↓reduceIte]
          all_goals rfl
        · simp -implicitDefEqProofs only [c16_26_e, c16_27_r, (show opsOf c16_27 = _ :: _ from rfl), c16_28_e, K16_14, yc2, yc3, yd4, yc5, yd6, yc7, setA, setB, za, zb, zc, zd, ze, zf, zg, zh, zi, zj, zk, zl, zm, zn, zo, zp, reduceCtorEq, zE, ↓reduceIte]
          all_goals rfl
      · rw [if_neg yc5]; rfl
    · rw [if_neg yc3]; rfl
  · simp -implicitDefEqProofs only [c16_20_e, K16_14, yc2, setA, setB, za, zb, zc, zd, ze, zf, zg, zh, zi, zj, zk, zl, zm, zn, zo, zp, reduceCtorEq, zE, ↓reduceIte]
    exact mi (j16_31_t _)
def l16_14 (a0_0 : Bool) (a0_1 : List (Bs × Bs)) (b1_0 : Bool) (b1_1 : List (Bs × Bs)) (i5 : Int) : Option R16 := iter (fun x : (Bool × List (Bs × Bs) × Bool × List (Bs × Bs) × Int) => s16_14 x.1 x.2.1 x.2.2.1 x.2.2.2.1 x.2.2.2.2) (a0_0, a0_1, b1_0, b1_1, i5)
theorem l16_14_t (a0_0 : Bool) (a0_1 : List (Bs × Bs)) (b1_0 : Bool) (b1_1 : List (Bs × Bs)) (i5 : Int) : bodyD (E0 mm) [.tmp 4] 0 false (seqD (E0 mm) 16 0 (callW (E0 mm)) itW c16_31 (blockD 0 (itW (loopF (E0 mm) 16 0 (callW (E0 mm)) itW c16_15 [(0, .keep), (1, .keep), (5, .keep)]) (none, [.v (.c (.d (.lst a0_0 (enL enSS a0_1)))), .v (.c (.d (.lst b1_0 (enL enSS b1_1)))), .v (.c (.d (.sc (.int .i64 i5))))], [])))) = (l16_14 a0_0 a0_1 b1_0 b1_1 i5).map e16 :=
  it_sim (K := (K16_14 (mm := mm))) rfl (enc := en16_14) (fun x => s16_14_t x.1 x.2.1 x.2.2.1 x.2.2.2.1 x.2.2.2.2) (a0_0, a0_1, b1_0, b1_1, i5)
def m16 (a_0 : Bool) (a_1 : List (Bs × Bs)) (b_0 : Bool) (b_1 : List (Bs × Bs)) : Option R16 :=
  if ((a_1.length : Int) == (b_1.length : Int)) = true then
    l16_14 a_0 a_1 b_0 b_1 (0 : Int)
  else
    some false
theorem f16_t (a_0 : Bool) (a_1 : List (Bs × Bs)) (b_0 : Bool) (b_1 : List (Bs × Bs)) :
    callW (E0 mm) 16 [.c (.d (.lst a_0 (enL enSS a_1))), .c (.d (.lst b_0 (enL enSS b_1)))] [] = (m16 a_0 a_1 b_0 b_1).map e16 := by
  rw [callW_run (body := c16_0) (res := [.tmp 4]) Try.func16 rfl rfl (by kernel_rfl)]
  simp -implicitDefEqProofs only [m16, slots2, c16_0_e, c16_1_r, (show opsOf c16_1 = _ :: _ from rfl), c16_2_e, c16_3_e, c16_4_r, (show opsOf c16_4 = _ :: _ from rfl), Try.underlying23, (show c16_5 = Code.cond _ c16_6 c16_9 from rfl), setA, setB, za, zb, zc, zd, ze, zf, zg, zh, zi, zj, zk, zl, zm, zn, zo, zp, reduceCtorEq, zE, ↓reduceIte]
  refine brB (fun yc1 => ?_) (fun yc1 => ?_)
  · simp -implicitDefEqProofs only [c16_9_e, c16_10_e, c16_11_e, c16_12_r, (show opsOf c16_12 = _ :: _ from rfl), c16_13_e, c16_14_l, yc1, setA, setB, za, zb, zc, zd, ze, zf, zg, zh, zi, zj, zk, zl, zm, zn, zo, zp, reduceCtorEq, zE, ↓reduceIte]
    exact l16_14_t a_0 a_1 b_0 b_1 (0 : Int)
  · simp -implicitDefEqProofs only [c16_6_e, c16_7_r, (show opsOf c16_7 = _ :: _ from rfl), c16_8_e, yc1, setA, setB, za, zb, zc, zd, ze, zf, zg, zh, zi, zj, zk, zl, zm, zn, zo, zp, reduceCtorEq, zE, ↓reduceIte]
    all_goals rfl
noncomputable def c8_0 : Code := bodyOf Try.f8
def c8_1 := cA c8_0
def c8_2 := cB c8_0
def c8_3 := cA c8_2
def c8_4 := cB c8_2
theorem c8_0_e : c8_0 = .seq c8_1 c8_2 := rfl
theorem c8_1_r : RG (E0 mm) 8 c8_1 := rgN rfl
theorem c8_2_e : c8_2 = .seq c8_3 c8_4 := rfl
theorem c8_3_r : RG (E0 mm) 8 c8_3 := rgN rfl
theorem c8_4_e : c8_4 = .ret := rfl
abbrev R8 := (Bool)
def e8 : R8 → AV × Heap := fun x => (.v (.c (.d (.sc (.bool x)))), [])
def m8 (a_0 : Int) (a_1 : Bs) (a_2 : Int) (a_3 : Bool) (a_4 : List (Bs × Bs)) (a_5 : Bool) (a_6 : List UInt8) (b_0 : Int) (b_1 : Bs) (b_2 : Int) (b_3 : Bool) (b_4 : List (Bs × Bs)) (b_5 : Bool) (b_6 : List UInt8) : Option R8 :=
  if (a_0 == b_0) = true then
    if (a_1 == b_1) = true then
      if (a_2 == b_2) = true then
        (m16 a_3 a_4 b_3 b_4).bind fun yr5 =>
          if yr5 = true then
            some (a_6 == b_6)
          else
            some false
      else
        some false
    else
      some false
  else
    some false
theorem f8_t (a_0 : Int) (a_1 : Bs) (a_2 : Int) (a_3 : Bool) (a_4 : List (Bs × Bs)) (a_5 : Bool) (a_6 : List UInt8) (b_0 : Int) (b_1 : Bs) (b_2 : Int) (b_3 : Bool) (b_4 : List (Bs × Bs)) (b_5 : Bool) (b_6 : List UInt8) :
    callW (E0 mm) 8 [.agg [.d (.sc (.int .i64 a_0)), .d (.sc (.string (S a_1))), .d (.sc (.int .i64 a_2)), .d (.lst a_3 (enL enSS a_4)), .d (.lst a_5 (enL enB a_6))], .agg [.d (.sc (.int .i64 b_0)), .d (.sc (.string (S b_1))), .d (.sc (.int .i64 b_2)), .d (.lst b_3 (enL enSS b_4)), .d (.lst b_5 (enL enB b_6))]] [] = (m8 a_0 a_1 a_2 a_3 a_4 a_5 a_6 b_0 b_1 b_2 b_3 b_4 b_5 b_6).map e8 := by
  rw [callW_run (body := c8_0) (res := [.tmp 4]) Try.func8 rfl rfl (by kernel_rfl)]
  simp -implicitDefEqProofs only [m8, slots2, c8_0_e, c8_1_r, (show opsOf c8_1 = _ :: _ from rfl), c8_2_e, c8_3_r, (show opsOf c8_3 = _ :: _ from rfl), Try.underlying26, sz3, ag3, setA, setB, za, zb, zc, zd, ze, zf, zg, zh, zi, zj, zk, zl, zm, zn, zo, zp, reduceCtorEq, zE, ↓reduceIte]
  refine brB (fun yc1 => ?_) (fun yc1 => ?_)
  · simp -implicitDefEqProofs only [Try.underlying26, sz9, ag9, yc1, setA, setB, za, zb, zc, zd, ze, zf, zg, zh, zi, zj, zk, zl, zm, zn, zo, zp, reduceCtorEq, zE, ↓reduceIte]
    refine brB (fun yc2 => ?_) (fun yc2 => ?_)
    · simp -implicitDefEqProofs only [Try.underlying26, sz3, ag3, yc1, yc2, setA, setB, za, zb, zc, zd, ze, zf, zg, zh, zi, zj, zk, zl, zm, zn, zo, zp, reduceCtorEq, zE, ↓reduceIte]
      refine brB (fun yc3 => ?_) (fun yc3 => ?_)
      · simp -implicitDefEqProofs only [Try.underlying26, sz23, ag23, ent16, prm16, f16_t, yc1, yc2, yc3, setA, setB, za, zb, zc, zd, ze, zf, zg, zh, zi, zj, zk, zl, zm, zn, zo, zp, reduceCtorEq, zE, ↓reduceIte]
        refine brM (fun yc4 => ?_) (fun yr5 yc4 => ?_)
        · rw [yc4]; rfl
        · simp -implicitDefEqProofs only [e16, yc1, yc2, yc3, yc4, setA, setB, za, zb, zc, zd, ze, zf, zg, zh, zi, zj, zk, zl, zm, zn, zo, zp, reduceCtorEq, zE, ↓reduceIte]
          refine brB (fun yc6 => ?_) (fun yc6 => ?_)
          · simp -implicitDefEqProofs only [Try.underlying26, sz24, ag24, Try.underlying24, Try.underlying9, Try.underlying5, c8_4_e, yc1, yc2, yc3, yc4, yc6, setA, setB, za, zb, zc, zd, ze, zf, zg, zh, zi, zj, zk, zl, zm, zn, zo, zp, reduceCtorEq, zE, ↓reduceIte]
            all_goals rfl
          · simp -implicitDefEqProofs only [c8_4_e, yc1, yc2, yc3, yc4, yc6, setA, setB, za, zb, zc, zd, ze, zf, zg, zh, zi, zj, zk, zl, zm, zn, zo, zp, reduceCtorEq, zE, ↓reduceIte]
            all_goals rfl
      · simp -implicitDefEqProofs only [c8_4_e, yc1, yc2, yc3, setA, setB, za, zb, zc, zd, ze, zf, zg, zh, zi, zj, zk, zl, zm, zn, zo, zp, reduceCtorEq, zE, ↓reduceIte]
        all_goals rfl
    · simp -implicitDefEqProofs only [c8_4_e, yc1, yc2, setA, setB, za, zb, zc, zd, ze, zf, zg, zh, zi, zj, zk, zl, zm, zn, zo, zp, reduceCtorEq, zE, ↓reduceIte]
      all_goals rfl
  · simp -implicitDefEqProofs only [c8_4_e, yc1, setA, setB, za, zb, zc, zd, ze, zf, zg, zh, zi, zj, zk, zl, zm, zn, zo, zp, reduceCtorEq, zE, ↓reduceIte]
    all_goals rfl
noncomputable def c11_0 : Code := bodyOf Try.f11
def c11_1 := cA c11_0
def c11_2 := cB c11_0
def c11_3 := cA c11_2
def c11_4 := cB c11_2
theorem c11_0_e : c11_0 = .seq c11_1 c11_2 := rfl
theorem c11_1_r : RG (E0 mm) 11 c11_1 := rgN rfl
theorem c11_2_e : c11_2 = .seq c11_3 c11_4 := rfl
theorem c11_3_r (m : Nat) (st : St) : den (E0 mm) 11 m (callW (E0 mm)) itW c11_3 none st = regD ((runF (E0 mm) (callW (E0 mm)) (opsOf c11_3) (opsOf c11_3) [none, none, some false, some true, none, none] st []).bind (ckF [(3, 2)])) := den_dF (by kernel_rfl)
theorem c11_4_e : c11_4 = .ret := rfl
abbrev R11 := (Bool)
def e11 : R11 → AV × Heap := fun x => (.v (.c (.d (.sc (.bool x)))), [])
def m11 (r0_0 : Int) (r0_1 : Bs) (r0_2 : Int) (r0_3 : Bool) (r0_4 : List (Bs × Bs)) (r0_5 : Bool) (r0_6 : List UInt8) : Option R11 :=
  (m9 r0_0).bind fun yr2 =>
    (m8 yr2.1 yr2.2.1 yr2.2.2.1 yr2.2.2.2.1 yr2.2.2.2.2.1 yr2.2.2.2.2.2.1 yr2.2.2.2.2.2.2 r0_0 r0_1 r0_2 r0_3 r0_4 r0_5 r0_6).bind fun yr4 =>
      some yr4
theorem f11_t (r0_0 : Int) (r0_1 : Bs) (r0_2 : Int) (r0_3 : Bool) (r0_4 : List (Bs × Bs)) (r0_5 : Bool) (r0_6 : List UInt8) :
    callW (E0 mm) 11 [.agg [.d (.sc (.int .i64 r0_0)), .d (.sc (.string (S r0_1))), .d (.sc (.int .i64 r0_2)), .d (.lst r0_3 (enL enSS r0_4)), .d (.lst r0_5 (enL enB r0_6))]] [] = (m11 r0_0 r0_1 r0_2 r0_3 r0_4 r0_5 r0_6).map e11 := by
  rw [callW_run (body := c11_0) (res := [.tmp 2]) Try.func11 rfl rfl (by kernel_rfl)]
  simp -implicitDefEqProofs only [m11, slots1, c11_0_e, c11_1_r, (show opsOf c11_1 = _ :: _ from rfl), c11_2_e, c11_3_r, (show opsOf c11_3 = _ :: _ from rfl), Try.underlying26, sz3, ag3, ent9, prm9, f9_t, runF_nil, runF_none, runF_some, runKF_t, runKF_f, runKF_x, stepKF_s, stepKF_x, tlT_c, tlT_n, hdT_c, hdT_n, footT_n, foot_t, readsO, setA, setB, za, zb, zc, zd, ze, zf, zg, zh, zi, zj, zk, zl, zm, zn, zo, zp, reduceCtorEq, zE, ↓reduceIte]
  refine brM (fun yc1 => ?_) (fun yr2 yc1 => ?_)
  · rw [yc1]; rfl
  · simp -implicitDefEqProofs only [e9, sz26, ag26, ent8, prm8, f8_t, runF_nil, runF_none, runF_some, runKF_t, runKF_f, runKF_x, stepKF_s, stepKF_x, tlT_c, tlT_n, hdT_c, hdT_n, footT_n, foot_t, readsO, yc1, setA, setB, za, zb, zc, zd, ze, zf, zg, zh, zi, zj, zk, zl, zm, zn, zo, zp, reduceCtorEq, zE, ↓reduceIte]
    refine brM (fun yc3 => ?_) (fun yr4 yc3 => ?_)
    · rw [yc3]; rfl
    · simp -implicitDefEqProofs only [e8, ckF, foot_f, pair1, pair0, chgA, eqO, eqOb_cells, eqOb_row, eqOb_siter, eqOb_amapN, eqOb_amapC, eqOb_sm, eqE_S, eqE_SS, eqE_N, eqE_B, eqL, eqC, eqD, eqV, eqV1, eqB_refl, eq_self, decide_true, List.all_nil, List.getD_cons_zero, List.getD_cons_succ, Bool.and_self, c11_4_e, runF_nil, runF_none, runF_some, runKF_t, runKF_f, runKF_x, stepKF_s, stepKF_x, tlT_c, tlT_n, hdT_c, hdT_n, footT_n, foot_t, readsO, yc1, yc3, setA, setB, za, zb, zc, zd, ze, zf, zg, zh, zi, zj, zk, zl, zm, zn, zo, zp, reduceCtorEq, zE, ↓reduceIte]
      all_goals rfl
end
end Go.Proofs.Ytfcjicedphacfaa
