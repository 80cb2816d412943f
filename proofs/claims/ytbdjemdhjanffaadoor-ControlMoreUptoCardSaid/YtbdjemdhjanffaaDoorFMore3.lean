/- The Go functions as plain functions, and that the evaluator computes them. -/
import Derived.Test.YtbdjemdhjanffaaDoorFMore2
set_option linter.all false
set_option maxRecDepth 100000
namespace Go.Proofs.YtbdjemdhjanffaaDoor
open Go Go.Ab
open Nat renaming reduceEqDiff → za, reduceAdd → zb, reduceLeDiff → zc, reduceLT → zd, reduceMul → ze, reduceBEq → zf, reduceSub → zg, reducePow → zh
open Int renaming reduceEq → zi, reduceLE → zj, reduceLT → zk, reduceToNat → zl, reduceNegSucc → zm, reduceAdd → zn, reduceBEq → zo
open String renaming reduceBEq → zp
set_option maxHeartbeats 4000000
noncomputable section
variable {mm : Int}
noncomputable def c4_0 : Code := bodyOf Tryd.f4
def c4_1 := cA c4_0
def c4_2 := cB c4_0
def c4_3 := cA c4_2
def c4_4 := cB c4_2
def c4_5 := cA c4_4
def c4_6 := cB c4_4
def c4_7 := cA c4_6
def c4_8 := cA c4_7
def c4_9 := cB c4_7
def c4_10 := cA c4_9
def c4_11 := cA c4_10
def c4_12 := cB c4_10
def c4_13 := cB c4_9
def c4_14 := cB c4_6
def c4_15 := cA c4_14
def c4_16 := cA c4_15
def c4_17 := cB c4_15
def c4_18 := cA c4_17
def c4_19 := cA c4_18
def c4_20 := cB c4_18
def c4_21 := cB c4_17
def c4_22 := cB c4_14
def c4_23 := cA c4_22
def c4_24 := cB c4_22
def c4_25 := cA c4_24
def c4_26 := cA c4_25
def c4_27 := cB c4_25
def c4_28 := cA c4_27
def c4_29 := cA c4_28
def c4_30 := cB c4_28
def c4_31 := cB c4_27
def c4_32 := cB c4_24
def c4_33 := cA c4_32
def c4_34 := cB c4_32
theorem c4_0_e : c4_0 = .seq c4_1 c4_2 := rfl
theorem c4_1_r : RG (E0 mm) 4 c4_1 := rgN rfl
theorem c4_2_e : c4_2 = .seq c4_3 c4_4 := rfl
theorem c4_3_r : RG (E0 mm) 4 c4_3 := rgN rfl
theorem c4_4_e : c4_4 = .seq c4_5 c4_6 := rfl
theorem c4_5_r : RG (E0 mm) 4 c4_5 := rgN rfl
theorem c4_6_e : c4_6 = .seq c4_7 c4_14 := rfl
theorem c4_7_e : c4_7 = .seq c4_8 c4_9 := rfl
theorem c4_8_r : RG (E0 mm) 4 c4_8 := rgN rfl
theorem c4_10_e : c4_10 = .seq c4_11 c4_12 := rfl
theorem c4_11_r : RG (E0 mm) 4 c4_11 := rgN rfl
theorem c4_12_e : c4_12 = .ret := rfl
theorem c4_13_e : c4_13 = .skip := rfl
theorem c4_14_e : c4_14 = .seq c4_15 c4_22 := rfl
theorem c4_15_e : c4_15 = .seq c4_16 c4_17 := rfl
theorem c4_16_r : RG (E0 mm) 4 c4_16 := rgN rfl
theorem c4_18_e : c4_18 = .seq c4_19 c4_20 := rfl
theorem c4_19_r : RG (E0 mm) 4 c4_19 := rgN rfl
theorem c4_20_e : c4_20 = .ret := rfl
theorem c4_21_e : c4_21 = .skip := rfl
theorem c4_22_e : c4_22 = .seq c4_23 c4_24 := rfl
theorem c4_23_r : RG (E0 mm) 4 c4_23 := rgN rfl
theorem c4_24_e : c4_24 = .seq c4_25 c4_32 := rfl
theorem c4_25_e : c4_25 = .seq c4_26 c4_27 := rfl
theorem c4_26_r : RG (E0 mm) 4 c4_26 := rgN rfl
theorem c4_28_e : c4_28 = .seq c4_29 c4_30 := rfl
theorem c4_29_r : RG (E0 mm) 4 c4_29 := rgN rfl
theorem c4_30_e : c4_30 = .ret := rfl
theorem c4_31_e : c4_31 = .skip := rfl
theorem c4_32_e : c4_32 = .seq c4_33 c4_34 := rfl
theorem c4_33_r : RG (E0 mm) 4 c4_33 := rgN rfl
theorem c4_34_e : c4_34 = .ret := rfl
abbrev R4 := (Bool)
def e4 : R4 → AV × Heap := fun x => (.v (.c (.d (.sc (.bool x)))), [])
def r4_8_7 : List Oper := (opsOf c4_8).drop 7
def r4_8_16 : List Oper := (opsOf c4_8).drop 16
def r4_8_24 : List Oper := (opsOf c4_8).drop 24
def r4_8_32 : List Oper := (opsOf c4_8).drop 32
def r4_26_16 : List Oper := (opsOf c4_26).drop 16
def r4_26_25 : List Oper := (opsOf c4_26).drop 25
def r4_26_34 : List Oper := (opsOf c4_26).drop 34
def r4_33_17 : List Oper := (opsOf c4_33).drop 17
def r4_33_22 : List Oper := (opsOf c4_33).drop 22
def r4_33_27 : List Oper := (opsOf c4_33).drop 27
def r4_33_32 : List Oper := (opsOf c4_33).drop 32
def r4_33_37 : List Oper := (opsOf c4_33).drop 37
def r4_33_42 : List Oper := (opsOf c4_33).drop 42
def r4_33_47 : List Oper := (opsOf c4_33).drop 47
def r4_33_50 : List Oper := (opsOf c4_33).drop 50
def j4_33r50 (t166 : Bool) : Option R4 :=
  some t166
theorem j4_33r50_t (t166 : Bool) (g0 g1 : Ob) (g2 g3 : Ob) (sl : Nat → AV) (zq166 : sl 166 = .v (.c (.d (.sc (.bool t166))))) :
    bodyD (E0 mm) [.tmp 4] 0 false (seqD (E0 mm) 4 0 (callW (E0 mm)) itW c4_34 (regD (runOps (E0 mm) (callW (E0 mm)) (opsOf c4_33) r4_33_50 ⟨sl, [g0, g1, g2, g3]⟩))) = (j4_33r50 t166).map e4 := by
  simp -implicitDefEqProofs only [j4_33r50, (show opsOf c4_33 = _ :: _ from rfl), (show r4_33_50 = _ :: _ from rfl), c4_34_e, zq166, setA, setB, za, zb, zc, zd, ze, zf, zg, zh, zi, zj, zk, zl, zm, zn, zo, zp, reduceCtorEq, zE, ↓reduceIte]
  all_goals rfl
def j4_33r47 (t163 : Bool) : Option R4 :=
  if t163 = true then
    j4_33r50 true
  else
    j4_33r50 false
theorem j4_33r47_t (t163 : Bool) (g0 g1 : Ob) (g2 g3 : Ob) (sl : Nat → AV) (zq163 : sl 163 = .v (.c (.d (.sc (.bool t163))))) :
    bodyD (E0 mm) [.tmp 4] 0 false (seqD (E0 mm) 4 0 (callW (E0 mm)) itW c4_34 (regD (runOps (E0 mm) (callW (E0 mm)) (opsOf c4_33) r4_33_47 ⟨sl, [g0, g1, g2, g3]⟩))) = (j4_33r47 t163).map e4 := by
  simp -implicitDefEqProofs only [j4_33r47, (show opsOf c4_33 = _ :: _ from rfl), (show r4_33_47 = _ :: _ :: _ :: r4_33_50 from rfl), zq163, setA, setB, za, zb, zc, zd, ze, zf, zg, zh, zi, zj, zk, zl, zm, zn, zo, zp, reduceCtorEq, zE, ↓reduceIte]
  refine brB (fun yc39 => ?_) (fun yc39 => ?_)
  · simp -implicitDefEqProofs only [ent12, prm12, f12_t, zq163, yc39, setA, setB, za, zb, zc, zd, ze, zf, zg, zh, zi, zj, zk, zl, zm, zn, zo, zp, reduceCtorEq, zE, ↓reduceIte]
    exact j4_33r50_t true _ _ _ _ _ (by rfl)
  · simp -implicitDefEqProofs only [zq163, yc39, setA, setB, za, zb, zc, zd, ze, zf, zg, zh, zi, zj, zk, zl, zm, zn, zo, zp, reduceCtorEq, zE, ↓reduceIte]
    exact j4_33r50_t false _ _ _ _ _ (by rfl)
def j4_33r42 (t158 h2_0 : Bool) (h2_1 h2_2 : Bool) (h2_3 h2_4 h2_5 : Bool) (h2_6 h2_7 : Int) (h2_8 h2_9 : Int) : Option R4 :=
  if t158 = true then
    j4_33r47 (!h2_5)
  else
    j4_33r47 false
theorem j4_33r42_t (t158 h2_0 : Bool) (h2_1 h2_2 : Bool) (h2_3 h2_4 h2_5 : Bool) (h2_6 h2_7 : Int) (h2_8 h2_9 : Int) (g0 g1 g3 : Ob) (sl : Nat → AV) (zq8 : sl 8 = .v (.c (.ptr 2 0))) (zq158 : sl 158 = .v (.c (.d (.sc (.bool t158))))) :
    bodyD (E0 mm) [.tmp 4] 0 false (seqD (E0 mm) 4 0 (callW (E0 mm)) itW c4_34 (regD (runOps (E0 mm) (callW (E0 mm)) (opsOf c4_33) r4_33_42 ⟨sl, [g0, g1, .cells [.d (.sc (.bool h2_0)), .d (.sc (.bool h2_1)), .d (.sc (.bool h2_2)), .d (.sc (.bool h2_3)), .d (.sc (.bool h2_4)), .d (.sc (.bool h2_5)), .d (.sc (.int .i64 h2_6)), .d (.sc (.int .i64 h2_7)), .d (.sc (.int .i64 h2_8)), .d (.sc (.int .i64 h2_9))], g3]⟩))) = (j4_33r42 t158 h2_0 h2_1 h2_2 h2_3 h2_4 h2_5 h2_6 h2_7 h2_8 h2_9).map e4 := by
  simp -implicitDefEqProofs only [j4_33r42, (show opsOf c4_33 = _ :: _ from rfl), (show r4_33_42 = _ :: _ :: _ :: _ :: _ :: r4_33_47 from rfl), zq8, zq158, setA, setB, za, zb, zc, zd, ze, zf, zg, zh, zi, zj, zk, zl, zm, zn, zo, zp, reduceCtorEq, zE, ↓reduceIte]
  refine brB (fun yc38 => ?_) (fun yc38 => ?_)
  · simp -implicitDefEqProofs only [Tryd.underlying24, sz4, ag4, zq8, zq158, yc38, setA, setB, za, zb, zc, zd, ze, zf, zg, zh, zi, zj, zk, zl, zm, zn, zo, zp, reduceCtorEq, zE, ↓reduceIte]
    exact j4_33r47_t (!h2_5) _ _ _ _ _ (by rfl)
  · simp -implicitDefEqProofs only [zq8, zq158, yc38, setA, setB, za, zb, zc, zd, ze, zf, zg, zh, zi, zj, zk, zl, zm, zn, zo, zp, reduceCtorEq, zE, ↓reduceIte]
    exact j4_33r47_t false _ _ _ _ _ (by rfl)
def j4_33r37 (t153 h0_0 : Bool) (h0_1 h0_2 : Bool) (h0_3 h0_4 h0_5 : Bool) (h0_6 h0_7 : Int) (h0_8 h0_9 : Int) (h2_0 h2_1 : Bool) (h2_2 h2_3 : Bool) (h2_4 h2_5 : Bool) (h2_6 h2_7 : Int) (h2_8 h2_9 : Int) : Option R4 :=
  if t153 = true then
    j4_33r42 (!h0_4) h2_0 h2_1 h2_2 h2_3 h2_4 h2_5 h2_6 h2_7 h2_8 h2_9
  else
    j4_33r42 false h2_0 h2_1 h2_2 h2_3 h2_4 h2_5 h2_6 h2_7 h2_8 h2_9
theorem j4_33r37_t (t153 h0_0 : Bool) (h0_1 h0_2 : Bool) (h0_3 h0_4 h0_5 : Bool) (h0_6 h0_7 : Int) (h0_8 h0_9 : Int) (h2_0 h2_1 : Bool) (h2_2 h2_3 : Bool) (h2_4 h2_5 : Bool) (h2_6 h2_7 : Int) (h2_8 h2_9 : Int) (g1 g3 : Ob) (sl : Nat → AV) (zq6 : sl 6 = .v (.c (.ptr 0 0))) (zq8 : sl 8 = .v (.c (.ptr 2 0))) (zq153 : sl 153 = .v (.c (.d (.sc (.bool t153))))) :
    bodyD (E0 mm) [.tmp 4] 0 false (seqD (E0 mm) 4 0 (callW (E0 mm)) itW c4_34 (regD (runOps (E0 mm) (callW (E0 mm)) (opsOf c4_33) r4_33_37 ⟨sl, [.cells [.d (.sc (.bool h0_0)), .d (.sc (.bool h0_1)), .d (.sc (.bool h0_2)), .d (.sc (.bool h0_3)), .d (.sc (.bool h0_4)), .d (.sc (.bool h0_5)), .d (.sc (.int .i64 h0_6)), .d (.sc (.int .i64 h0_7)), .d (.sc (.int .i64 h0_8)), .d (.sc (.int .i64 h0_9))], g1, .cells [.d (.sc (.bool h2_0)), .d (.sc (.bool h2_1)), .d (.sc (.bool h2_2)), .d (.sc (.bool h2_3)), .d (.sc (.bool h2_4)), .d (.sc (.bool h2_5)), .d (.sc (.int .i64 h2_6)), .d (.sc (.int .i64 h2_7)), .d (.sc (.int .i64 h2_8)), .d (.sc (.int .i64 h2_9))], g3]⟩))) = (j4_33r37 t153 h0_0 h0_1 h0_2 h0_3 h0_4 h0_5 h0_6 h0_7 h0_8 h0_9 h2_0 h2_1 h2_2 h2_3 h2_4 h2_5 h2_6 h2_7 h2_8 h2_9).map e4 := by
  simp -implicitDefEqProofs only [j4_33r37, (show opsOf c4_33 = _ :: _ from rfl), (show r4_33_37 = _ :: _ :: _ :: _ :: _ :: r4_33_42 from rfl), zq6, zq8, zq153, setA, setB, za, zb, zc, zd, ze, zf, zg, zh, zi, zj, zk, zl, zm, zn, zo, zp, reduceCtorEq, zE, ↓reduceIte]
  refine brB (fun yc37 => ?_) (fun yc37 => ?_)
  · simp -implicitDefEqProofs only [Tryd.underlying24, sz4, ag4, zq6, zq8, zq153, yc37, setA, setB, za, zb, zc, zd, ze, zf, zg, zh, zi, zj, zk, zl, zm, zn, zo, zp, reduceCtorEq, zE, ↓reduceIte]
    exact j4_33r42_t (!h0_4) h2_0 h2_1 h2_2 h2_3 h2_4 h2_5 h2_6 h2_7 h2_8 h2_9 _ _ _ _ (by exact zq8) (by rfl)
  · simp -implicitDefEqProofs only [zq6, zq8, zq153, yc37, setA, setB, za, zb, zc, zd, ze, zf, zg, zh, zi, zj, zk, zl, zm, zn, zo, zp, reduceCtorEq, zE, ↓reduceIte]
    exact j4_33r42_t false h2_0 h2_1 h2_2 h2_3 h2_4 h2_5 h2_6 h2_7 h2_8 h2_9 _ _ _ _ (by exact zq8) (by rfl)
def j4_33r32 (t148 h0_0 : Bool) (h0_1 h0_2 : Bool) (h0_3 h0_4 h0_5 : Bool) (h0_6 h0_7 : Int) (h0_8 h0_9 : Int) (h2_0 h2_1 : Bool) (h2_2 h2_3 : Bool) (h2_4 h2_5 : Bool) (h2_6 h2_7 : Int) (h2_8 h2_9 : Int) : Option R4 :=
  if t148 = true then
    j4_33r37 (!h0_3) h0_0 h0_1 h0_2 h0_3 h0_4 h0_5 h0_6 h0_7 h0_8 h0_9 h2_0 h2_1 h2_2 h2_3 h2_4 h2_5 h2_6 h2_7 h2_8 h2_9
  else
    j4_33r37 false h0_0 h0_1 h0_2 h0_3 h0_4 h0_5 h0_6 h0_7 h0_8 h0_9 h2_0 h2_1 h2_2 h2_3 h2_4 h2_5 h2_6 h2_7 h2_8 h2_9
theorem j4_33r32_t (t148 h0_0 : Bool) (h0_1 h0_2 : Bool) (h0_3 h0_4 h0_5 : Bool) (h0_6 h0_7 : Int) (h0_8 h0_9 : Int) (h2_0 h2_1 : Bool) (h2_2 h2_3 : Bool) (h2_4 h2_5 : Bool) (h2_6 h2_7 : Int) (h2_8 h2_9 : Int) (g1 g3 : Ob) (sl : Nat → AV) (zq6 : sl 6 = .v (.c (.ptr 0 0))) (zq8 : sl 8 = .v (.c (.ptr 2 0))) (zq148 : sl 148 = .v (.c (.d (.sc (.bool t148))))) :
    bodyD (E0 mm) [.tmp 4] 0 false (seqD (E0 mm) 4 0 (callW (E0 mm)) itW c4_34 (regD (runOps (E0 mm) (callW (E0 mm)) (opsOf c4_33) r4_33_32 ⟨sl, [.cells [.d (.sc (.bool h0_0)), .d (.sc (.bool h0_1)), .d (.sc (.bool h0_2)), .d (.sc (.bool h0_3)), .d (.sc (.bool h0_4)), .d (.sc (.bool h0_5)), .d (.sc (.int .i64 h0_6)), .d (.sc (.int .i64 h0_7)), .d (.sc (.int .i64 h0_8)), .d (.sc (.int .i64 h0_9))], g1, .cells [.d (.sc (.bool h2_0)), .d (.sc (.bool h2_1)), .d (.sc (.bool h2_2)), .d (.sc (.bool h2_3)), .d (.sc (.bool h2_4)), .d (.sc (.bool h2_5)), .d (.sc (.int .i64 h2_6)), .d (.sc (.int .i64 h2_7)), .d (.sc (.int .i64 h2_8)), .d (.sc (.int .i64 h2_9))], g3]⟩))) = (j4_33r32 t148 h0_0 h0_1 h0_2 h0_3 h0_4 h0_5 h0_6 h0_7 h0_8 h0_9 h2_0 h2_1 h2_2 h2_3 h2_4 h2_5 h2_6 h2_7 h2_8 h2_9).map e4 := by
  simp -implicitDefEqProofs only [j4_33r32, (show opsOf c4_33 = _ :: _ from rfl), (show r4_33_32 = _ :: _ :: _ :: _ :: _ :: r4_33_37 from rfl), zq6, zq8, zq148, setA, setB, za, zb, zc, zd, ze, zf, zg, zh, zi, zj, zk, zl, zm, zn, zo, zp, reduceCtorEq, zE, ↓reduceIte]
  refine brB (fun yc36 => ?_) (fun yc36 => ?_)
  · simp -implicitDefEqProofs only [Tryd.underlying24, sz4, ag4, zq6, zq8, zq148, yc36, setA, setB, za, zb, zc, zd, ze, zf, zg, zh, zi, zj, zk, zl, zm, zn, zo, zp, reduceCtorEq, zE, ↓reduceIte]
    exact j4_33r37_t (!h0_3) h0_0 h0_1 h0_2 h0_3 h0_4 h0_5 h0_6 h0_7 h0_8 h0_9 h2_0 h2_1 h2_2 h2_3 h2_4 h2_5 h2_6 h2_7 h2_8 h2_9 _ _ _ (by exact zq6) (by exact zq8) (by rfl)
  · simp -implicitDefEqProofs only [zq6, zq8, zq148, yc36, setA, setB, za, zb, zc, zd, ze, zf, zg, zh, zi, zj, zk, zl, zm, zn, zo, zp, reduceCtorEq, zE, ↓reduceIte]
    exact j4_33r37_t false h0_0 h0_1 h0_2 h0_3 h0_4 h0_5 h0_6 h0_7 h0_8 h0_9 h2_0 h2_1 h2_2 h2_3 h2_4 h2_5 h2_6 h2_7 h2_8 h2_9 _ _ _ (by exact zq6) (by exact zq8) (by rfl)
def j4_33r27 (t143 h0_0 : Bool) (h0_1 h0_2 : Bool) (h0_3 h0_4 h0_5 : Bool) (h0_6 h0_7 : Int) (h0_8 h0_9 : Int) (h2_0 h2_1 : Bool) (h2_2 h2_3 : Bool) (h2_4 h2_5 : Bool) (h2_6 h2_7 : Int) (h2_8 h2_9 : Int) : Option R4 :=
  if t143 = true then
    j4_33r32 (!h0_2) h0_0 h0_1 h0_2 h0_3 h0_4 h0_5 h0_6 h0_7 h0_8 h0_9 h2_0 h2_1 h2_2 h2_3 h2_4 h2_5 h2_6 h2_7 h2_8 h2_9
  else
    j4_33r32 false h0_0 h0_1 h0_2 h0_3 h0_4 h0_5 h0_6 h0_7 h0_8 h0_9 h2_0 h2_1 h2_2 h2_3 h2_4 h2_5 h2_6 h2_7 h2_8 h2_9
theorem j4_33r27_t (t143 h0_0 : Bool) (h0_1 h0_2 : Bool) (h0_3 h0_4 h0_5 : Bool) (h0_6 h0_7 : Int) (h0_8 h0_9 : Int) (h2_0 h2_1 : Bool) (h2_2 h2_3 : Bool) (h2_4 h2_5 : Bool) (h2_6 h2_7 : Int) (h2_8 h2_9 : Int) (g1 g3 : Ob) (sl : Nat → AV) (zq6 : sl 6 = .v (.c (.ptr 0 0))) (zq8 : sl 8 = .v (.c (.ptr 2 0))) (zq143 : sl 143 = .v (.c (.d (.sc (.bool t143))))) :
    bodyD (E0 mm) [.tmp 4] 0 false (seqD (E0 mm) 4 0 (callW (E0 mm)) itW c4_34 (regD (runOps (E0 mm) (callW (E0 mm)) (opsOf c4_33) r4_33_27 ⟨sl, [.cells [.d (.sc (.bool h0_0)), .d (.sc (.bool h0_1)), .d (.sc (.bool h0_2)), .d (.sc (.bool h0_3)), .d (.sc (.bool h0_4)), .d (.sc (.bool h0_5)), .d (.sc (.int .i64 h0_6)), .d (.sc (.int .i64 h0_7)), .d (.sc (.int .i64 h0_8)), .d (.sc (.int .i64 h0_9))], g1, .cells [.d (.sc (.bool h2_0)), .d (.sc (.bool h2_1)), .d (.sc (.bool h2_2)), .d (.sc (.bool h2_3)), .d (.sc (.bool h2_4)), .d (.sc (.bool h2_5)), .d (.sc (.int .i64 h2_6)), .d (.sc (.int .i64 h2_7)), .d (.sc (.int .i64 h2_8)), .d (.sc (.int .i64 h2_9))], g3]⟩))) = (j4_33r27 t143 h0_0 h0_1 h0_2 h0_3 h0_4 h0_5 h0_6 h0_7 h0_8 h0_9 h2_0 h2_1 h2_2 h2_3 h2_4 h2_5 h2_6 h2_7 h2_8 h2_9).map e4 := by
  simp -implicitDefEqProofs only [j4_33r27, (show opsOf c4_33 = _ :: _ from rfl), (show r4_33_27 = _ :: _ :: _ :: _ :: _ :: r4_33_32 from rfl), zq6, zq8, zq143, setA, setB, za, zb, zc, zd, ze, zf, zg, zh, zi, zj, zk, zl, zm, zn, zo, zp, reduceCtorEq, zE, ↓reduceIte]
  refine brB (fun yc35 => ?_) (fun yc35 => ?_)
  · simp -implicitDefEqProofs only [Tryd.underlying24, sz4, ag4, zq6, zq8, zq143, yc35, setA, setB, za, zb, zc, zd, ze, zf, zg, zh, zi, zj, zk, zl, zm, zn, zo, zp, reduceCtorEq, zE, ↓reduceIte]
    exact j4_33r32_t (!h0_2) h0_0 h0_1 h0_2 h0_3 h0_4 h0_5 h0_6 h0_7 h0_8 h0_9 h2_0 h2_1 h2_2 h2_3 h2_4 h2_5 h2_6 h2_7 h2_8 h2_9 _ _ _ (by exact zq6) (by exact zq8) (by rfl)
  · simp -implicitDefEqProofs only [zq6, zq8, zq143, yc35, setA, setB, za, zb, zc, zd, ze, zf, zg, zh, zi, zj, zk, zl, zm, zn, zo, zp, reduceCtorEq, zE, ↓reduceIte]
    exact j4_33r32_t false h0_0 h0_1 h0_2 h0_3 h0_4 h0_5 h0_6 h0_7 h0_8 h0_9 h2_0 h2_1 h2_2 h2_3 h2_4 h2_5 h2_6 h2_7 h2_8 h2_9 _ _ _ (by exact zq6) (by exact zq8) (by rfl)
def j4_33r22 (t138 h0_0 : Bool) (h0_1 h0_2 : Bool) (h0_3 h0_4 h0_5 : Bool) (h0_6 h0_7 : Int) (h0_8 h0_9 : Int) (h2_0 h2_1 : Bool) (h2_2 h2_3 : Bool) (h2_4 h2_5 : Bool) (h2_6 h2_7 : Int) (h2_8 h2_9 : Int) : Option R4 :=
  if t138 = true then
    j4_33r27 (h2_9 == (-1)) h0_0 h0_1 h0_2 h0_3 h0_4 h0_5 h0_6 h0_7 h0_8 h0_9 h2_0 h2_1 h2_2 h2_3 h2_4 h2_5 h2_6 h2_7 h2_8 h2_9
  else
    j4_33r27 false h0_0 h0_1 h0_2 h0_3 h0_4 h0_5 h0_6 h0_7 h0_8 h0_9 h2_0 h2_1 h2_2 h2_3 h2_4 h2_5 h2_6 h2_7 h2_8 h2_9
theorem j4_33r22_t (t138 h0_0 : Bool) (h0_1 h0_2 : Bool) (h0_3 h0_4 h0_5 : Bool) (h0_6 h0_7 : Int) (h0_8 h0_9 : Int) (h2_0 h2_1 : Bool) (h2_2 h2_3 : Bool) (h2_4 h2_5 : Bool) (h2_6 h2_7 : Int) (h2_8 h2_9 : Int) (g1 g3 : Ob) (sl : Nat → AV) (zq6 : sl 6 = .v (.c (.ptr 0 0))) (zq8 : sl 8 = .v (.c (.ptr 2 0))) (zq138 : sl 138 = .v (.c (.d (.sc (.bool t138))))) :
    bodyD (E0 mm) [.tmp 4] 0 false (seqD (E0 mm) 4 0 (callW (E0 mm)) itW c4_34 (regD (runOps (E0 mm) (callW (E0 mm)) (opsOf c4_33) r4_33_22 ⟨sl, [.cells [.d (.sc (.bool h0_0)), .d (.sc (.bool h0_1)), .d (.sc (.bool h0_2)), .d (.sc (.bool h0_3)), .d (.sc (.bool h0_4)), .d (.sc (.bool h0_5)), .d (.sc (.int .i64 h0_6)), .d (.sc (.int .i64 h0_7)), .d (.sc (.int .i64 h0_8)), .d (.sc (.int .i64 h0_9))], g1, .cells [.d (.sc (.bool h2_0)), .d (.sc (.bool h2_1)), .d (.sc (.bool h2_2)), .d (.sc (.bool h2_3)), .d (.sc (.bool h2_4)), .d (.sc (.bool h2_5)), .d (.sc (.int .i64 h2_6)), .d (.sc (.int .i64 h2_7)), .d (.sc (.int .i64 h2_8)), .d (.sc (.int .i64 h2_9))], g3]⟩))) = (j4_33r22 t138 h0_0 h0_1 h0_2 h0_3 h0_4 h0_5 h0_6 h0_7 h0_8 h0_9 h2_0 h2_1 h2_2 h2_3 h2_4 h2_5 h2_6 h2_7 h2_8 h2_9).map e4 := by
  simp -implicitDefEqProofs only [j4_33r22, (show opsOf c4_33 = _ :: _ from rfl), (show r4_33_22 = _ :: _ :: _ :: _ :: _ :: r4_33_27 from rfl), zq6, zq8, zq138, setA, setB, za, zb, zc, zd, ze, zf, zg, zh, zi, zj, zk, zl, zm, zn, zo, zp, reduceCtorEq, zE, ↓reduceIte]
  refine brB (fun yc34 => ?_) (fun yc34 => ?_)
  · simp -implicitDefEqProofs only [Tryd.underlying24, sz3, ag3, zq6, zq8, zq138, yc34, setA, setB, za, zb, zc, zd, ze, zf, zg, zh, zi, zj, zk, zl, zm, zn, zo, zp, reduceCtorEq, zE, ↓reduceIte]
    exact j4_33r27_t (h2_9 == (-1)) h0_0 h0_1 h0_2 h0_3 h0_4 h0_5 h0_6 h0_7 h0_8 h0_9 h2_0 h2_1 h2_2 h2_3 h2_4 h2_5 h2_6 h2_7 h2_8 h2_9 _ _ _ (by exact zq6) (by exact zq8) (by rfl)
  · simp -implicitDefEqProofs only [zq6, zq8, zq138, yc34, setA, setB, za, zb, zc, zd, ze, zf, zg, zh, zi, zj, zk, zl, zm, zn, zo, zp, reduceCtorEq, zE, ↓reduceIte]
    exact j4_33r27_t false h0_0 h0_1 h0_2 h0_3 h0_4 h0_5 h0_6 h0_7 h0_8 h0_9 h2_0 h2_1 h2_2 h2_3 h2_4 h2_5 h2_6 h2_7 h2_8 h2_9 _ _ _ (by exact zq6) (by exact zq8) (by rfl)
def j4_33r17 (t133 h0_0 : Bool) (h0_1 h0_2 : Bool) (h0_3 h0_4 h0_5 : Bool) (h0_6 h0_7 : Int) (h0_8 h0_9 : Int) (h2_0 h2_1 : Bool) (h2_2 h2_3 : Bool) (h2_4 h2_5 : Bool) (h2_6 h2_7 : Int) (h2_8 h2_9 : Int) : Option R4 :=
  if t133 = true then
    j4_33r22 (h2_8 == (-1)) h0_0 h0_1 h0_2 h0_3 h0_4 h0_5 h0_6 h0_7 h0_8 h0_9 h2_0 h2_1 h2_2 h2_3 h2_4 h2_5 h2_6 h2_7 h2_8 h2_9
  else
    j4_33r22 false h0_0 h0_1 h0_2 h0_3 h0_4 h0_5 h0_6 h0_7 h0_8 h0_9 h2_0 h2_1 h2_2 h2_3 h2_4 h2_5 h2_6 h2_7 h2_8 h2_9
theorem j4_33r17_t (t133 h0_0 : Bool) (h0_1 h0_2 : Bool) (h0_3 h0_4 h0_5 : Bool) (h0_6 h0_7 : Int) (h0_8 h0_9 : Int) (h2_0 h2_1 : Bool) (h2_2 h2_3 : Bool) (h2_4 h2_5 : Bool) (h2_6 h2_7 : Int) (h2_8 h2_9 : Int) (g1 g3 : Ob) (sl : Nat → AV) (zq6 : sl 6 = .v (.c (.ptr 0 0))) (zq8 : sl 8 = .v (.c (.ptr 2 0))) (zq133 : sl 133 = .v (.c (.d (.sc (.bool t133))))) :
    bodyD (E0 mm) [.tmp 4] 0 false (seqD (E0 mm) 4 0 (callW (E0 mm)) itW c4_34 (regD (runOps (E0 mm) (callW (E0 mm)) (opsOf c4_33) r4_33_17 ⟨sl, [.cells [.d (.sc (.bool h0_0)), .d (.sc (.bool h0_1)), .d (.sc (.bool h0_2)), .d (.sc (.bool h0_3)), .d (.sc (.bool h0_4)), .d (.sc (.bool h0_5)), .d (.sc (.int .i64 h0_6)), .d (.sc (.int .i64 h0_7)), .d (.sc (.int .i64 h0_8)), .d (.sc (.int .i64 h0_9))], g1, .cells [.d (.sc (.bool h2_0)), .d (.sc (.bool h2_1)), .d (.sc (.bool h2_2)), .d (.sc (.bool h2_3)), .d (.sc (.bool h2_4)), .d (.sc (.bool h2_5)), .d (.sc (.int .i64 h2_6)), .d (.sc (.int .i64 h2_7)), .d (.sc (.int .i64 h2_8)), .d (.sc (.int .i64 h2_9))], g3]⟩))) = (j4_33r17 t133 h0_0 h0_1 h0_2 h0_3 h0_4 h0_5 h0_6 h0_7 h0_8 h0_9 h2_0 h2_1 h2_2 h2_3 h2_4 h2_5 h2_6 h2_7 h2_8 h2_9).map e4 := by
  simp -implicitDefEqProofs only [j4_33r17, (show opsOf c4_33 = _ :: _ from rfl), (show r4_33_17 = _ :: _ :: _ :: _ :: _ :: r4_33_22 from rfl), zq6, zq8, zq133, setA, setB, za, zb, zc, zd, ze, zf, zg, zh, zi, zj, zk, zl, zm, zn, zo, zp, reduceCtorEq, zE, ↓reduceIte]
  refine brB (fun yc33 => ?_) (fun yc33 => ?_)
  · simp -implicitDefEqProofs only [Tryd.underlying24, sz3, ag3, zq6, zq8, zq133, yc33, setA, setB, za, zb, zc, zd, ze, zf, zg, zh, zi, zj, zk, zl, zm, zn, zo, zp, reduceCtorEq, zE, ↓reduceIte]
    exact j4_33r22_t (h2_8 == (-1)) h0_0 h0_1 h0_2 h0_3 h0_4 h0_5 h0_6 h0_7 h0_8 h0_9 h2_0 h2_1 h2_2 h2_3 h2_4 h2_5 h2_6 h2_7 h2_8 h2_9 _ _ _ (by exact zq6) (by exact zq8) (by rfl)
  · simp -implicitDefEqProofs only [zq6, zq8, zq133, yc33, setA, setB, za, zb, zc, zd, ze, zf, zg, zh, zi, zj, zk, zl, zm, zn, zo, zp, reduceCtorEq, zE, ↓reduceIte]
    exact j4_33r22_t false h0_0 h0_1 h0_2 h0_3 h0_4 h0_5 h0_6 h0_7 h0_8 h0_9 h2_0 h2_1 h2_2 h2_3 h2_4 h2_5 h2_6 h2_7 h2_8 h2_9 _ _ _ (by exact zq6) (by exact zq8) (by rfl)
def j4_32 (h0_0 h0_1 : Bool) (h0_2 h0_3 : Bool) (h0_4 h0_5 : Bool) (h0_6 h0_7 : Int) (h0_8 h0_9 : Int) (h2_0 h2_1 : Bool) (h2_2 h2_3 : Bool) (h2_4 h2_5 : Bool) (h2_6 h2_7 : Int) (h2_8 h2_9 : Int) (h3_0 h3_1 : Bool) (h3_2 h3_3 : Bool) (h3_4 h3_5 : Bool) (h3_6 h3_7 : Int) (h3_8 h3_9 : Int) : Option R4 :=
  (m13 h3_6 h2_6).bind fun yr28 =>
    if yr28 = true then
      (m13 h3_7 h2_7).bind fun yr31 =>
        if yr31 = true then
          j4_33r17 (h0_7 == (-1)) h0_0 h0_1 h0_2 h0_3 h0_4 h0_5 h0_6 h0_7 h0_8 h0_9 h2_0 h2_1 h2_2 h2_3 h2_4 h2_5 h2_6 h2_7 h2_8 h2_9
        else
          j4_33r17 false h0_0 h0_1 h0_2 h0_3 h0_4 h0_5 h0_6 h0_7 h0_8 h0_9 h2_0 h2_1 h2_2 h2_3 h2_4 h2_5 h2_6 h2_7 h2_8 h2_9
    else
      j4_33r17 false h0_0 h0_1 h0_2 h0_3 h0_4 h0_5 h0_6 h0_7 h0_8 h0_9 h2_0 h2_1 h2_2 h2_3 h2_4 h2_5 h2_6 h2_7 h2_8 h2_9
theorem j4_32_t (h0_0 h0_1 : Bool) (h0_2 h0_3 : Bool) (h0_4 h0_5 : Bool) (h0_6 h0_7 : Int) (h0_8 h0_9 : Int) (h2_0 h2_1 : Bool) (h2_2 h2_3 : Bool) (h2_4 h2_5 : Bool) (h2_6 h2_7 : Int) (h2_8 h2_9 : Int) (h3_0 h3_1 : Bool) (h3_2 h3_3 : Bool) (h3_4 h3_5 : Bool) (h3_6 h3_7 : Int) (h3_8 h3_9 : Int) (g1 : Ob) (sl : Nat → AV) (zq6 : sl 6 = .v (.c (.ptr 0 0))) (zq8 : sl 8 = .v (.c (.ptr 2 0))) (zq9 : sl 9 = .v (.c (.ptr 3 0))) :
    bodyD (E0 mm) [.tmp 4] 0 false (den (E0 mm) 4 0 (callW (E0 mm)) itW c4_32 none ⟨sl, [.cells [.d (.sc (.bool h0_0)), .d (.sc (.bool h0_1)), .d (.sc (.bool h0_2)), .d (.sc (.bool h0_3)), .d (.sc (.bool h0_4)), .d (.sc (.bool h0_5)), .d (.sc (.int .i64 h0_6)), .d (.sc (.int .i64 h0_7)), .d (.sc (.int .i64 h0_8)), .d (.sc (.int .i64 h0_9))], g1, .cells [.d (.sc (.bool h2_0)), .d (.sc (.bool h2_1)), .d (.sc (.bool h2_2)), .d (.sc (.bool h2_3)), .d (.sc (.bool h2_4)), .d (.sc (.bool h2_5)), .d (.sc (.int .i64 h2_6)), .d (.sc (.int .i64 h2_7)), .d (.sc (.int .i64 h2_8)), .d (.sc (.int .i64 h2_9))], .cells [.d (.sc (.bool h3_0)), .d (.sc (.bool h3_1)), .d (.sc (.bool h3_2)), .d (.sc (.bool h3_3)), .d (.sc (.bool h3_4)), .d (.sc (.bool h3_5)), .d (.sc (.int .i64 h3_6)), .d (.sc (.int .i64 h3_7)), .d (.sc (.int .i64 h3_8)), .d (.sc (.int .i64 h3_9))]]⟩) = (j4_32 h0_0 h0_1 h0_2 h0_3 h0_4 h0_5 h0_6 h0_7 h0_8 h0_9 h2_0 h2_1 h2_2 h2_3 h2_4 h2_5 h2_6 h2_7 h2_8 h2_9 h3_0 h3_1 h3_2 h3_3 h3_4 h3_5 h3_6 h3_7 h3_8 h3_9).map e4 := by
  simp -implicitDefEqProofs only [j4_32, c4_32_e, c4_33_r, (show opsOf c4_33 = _ :: _ :: _ :: _ :: _ :: _ :: _ :: _ :: _ :: _ :: _ :: _ :: _ :: _ :: _ :: _ :: _ :: r4_33_17 from rfl), Tryd.underlying24, sz3, ag3, ent13, prm13, f13_t, zq6, zq8, zq9, setA, setB, za, zb, zc, zd, ze, zf, zg, zh, zi, zj, zk, zl, zm, zn, zo, zp, reduceCtorEq, zE, ↓reduceIte]
  refine brM (fun yc27 => ?_) (fun yr28 yc27 => ?_)
  · rw [yc27]; rfl
  · simp -implicitDefEqProofs only [e13, zq6, zq8, zq9, yc27, setA, setB, za, zb, zc, zd, ze, zf, zg, zh, zi, zj, zk, zl, zm, zn, zo, zp, reduceCtorEq, zE, ↓reduceIte]
    refine brB (fun yc29 => ?_) (fun yc29 => ?_)
    · simp -implicitDefEqProofs only [Tryd.underlying24, sz3, ag3, ent13, prm13, f13_t, zq6, zq8, zq9, yc27, yc29, setA, setB, za, zb, zc, zd, ze, zf, zg, zh, zi, zj, zk, zl, zm, zn, zo, zp, reduceCtorEq, zE, ↓reduceIte]
      refine brM (fun yc30 => ?_) (fun yr31 yc30 => ?_)
      · rw [yc30]; rfl
      · simp -implicitDefEqProofs only [e13, zq6, zq8, zq9, yc27, yc29, yc30, setA, setB, za, zb, zc, zd, ze, zf, zg, zh, zi, zj, zk, zl, zm, zn, zo, zp, reduceCtorEq, zE, ↓reduceIte]
        refine brB (fun yc32 => ?_) (fun yc32 => ?_)
        · simp -implicitDefEqProofs only [Tryd.underlying24, sz3, ag3, zq6, zq8, zq9, yc27, yc29, yc30, yc32, setA, setB, za, zb, zc, zd, ze, zf, zg, zh, zi, zj, zk, zl, zm, zn, zo, zp, reduceCtorEq, zE, ↓reduceIte]
          exact j4_33r17_t (h0_7 == (-1)) h0_0 h0_1 h0_2 h0_3 h0_4 h0_5 h0_6 h0_7 h0_8 h0_9 h2_0 h2_1 h2_2 h2_3 h2_4 h2_5 h2_6 h2_7 h2_8 h2_9 _ _ _ (by exact zq6) (by exact zq8) (by rfl)
        · simp -implicitDefEqProofs only [zq6, zq8, zq9, yc27, yc29, yc30, yc32, setA, setB, za, zb, zc, zd, ze, zf, zg, zh, zi, zj, zk, zl, zm, zn, zo, zp, reduceCtorEq, zE, ↓reduceIte]
          exact j4_33r17_t false h0_0 h0_1 h0_2 h0_3 h0_4 h0_5 h0_6 h0_7 h0_8 h0_9 h2_0 h2_1 h2_2 h2_3 h2_4 h2_5 h2_6 h2_7 h2_8 h2_9 _ _ _ (by exact zq6) (by exact zq8) (by rfl)
    · simp -implicitDefEqProofs only [zq6, zq8, zq9, yc27, yc29, setA, setB, za, zb, zc, zd, ze, zf, zg, zh, zi, zj, zk, zl, zm, zn, zo, zp, reduceCtorEq, zE, ↓reduceIte]
      exact j4_33r17_t false h0_0 h0_1 h0_2 h0_3 h0_4 h0_5 h0_6 h0_7 h0_8 h0_9 h2_0 h2_1 h2_2 h2_3 h2_4 h2_5 h2_6 h2_7 h2_8 h2_9 _ _ _ (by exact zq6) (by exact zq8) (by rfl)
def j4_27 (t116 h0_0 : Bool) (h0_1 h0_2 : Bool) (h0_3 h0_4 h0_5 : Bool) (h0_6 h0_7 : Int) (h0_8 h0_9 : Int) (h2_0 h2_1 : Bool) (h2_2 h2_3 : Bool) (h2_4 h2_5 : Bool) (h2_6 h2_7 : Int) (h2_8 h2_9 : Int) (h3_0 h3_1 : Bool) (h3_2 h3_3 : Bool) (h3_4 h3_5 : Bool) (h3_6 h3_7 : Int) (h3_8 h3_9 : Int) : Option R4 :=
  if t116 = true then
    some false
  else
    j4_32 h0_0 h0_1 h0_2 h0_3 h0_4 h0_5 h0_6 h0_7 h0_8 h0_9 h2_0 h2_1 h2_2 h2_3 h2_4 h2_5 h2_6 h2_7 h2_8 h2_9 h3_0 h3_1 h3_2 h3_3 h3_4 h3_5 h3_6 h3_7 h3_8 h3_9
theorem j4_27_t (t116 h0_0 : Bool) (h0_1 h0_2 : Bool) (h0_3 h0_4 h0_5 : Bool) (h0_6 h0_7 : Int) (h0_8 h0_9 : Int) (h2_0 h2_1 : Bool) (h2_2 h2_3 : Bool) (h2_4 h2_5 : Bool) (h2_6 h2_7 : Int) (h2_8 h2_9 : Int) (h3_0 h3_1 : Bool) (h3_2 h3_3 : Bool) (h3_4 h3_5 : Bool) (h3_6 h3_7 : Int) (h3_8 h3_9 : Int) (g1 : Ob) (sl : Nat → AV) (zq6 : sl 6 = .v (.c (.ptr 0 0))) (zq8 : sl 8 = .v (.c (.ptr 2 0))) (zq9 : sl 9 = .v (.c (.ptr 3 0))) (zq116 : sl 116 = .v (.c (.d (.sc (.bool t116))))) :
    bodyD (E0 mm) [.tmp 4] 0 false (seqD (E0 mm) 4 0 (callW (E0 mm)) itW c4_32 (den (E0 mm) 4 0 (callW (E0 mm)) itW c4_27 none ⟨sl, [.cells [.d (.sc (.bool h0_0)), .d (.sc (.bool h0_1)), .d (.sc (.bool h0_2)), .d (.sc (.bool h0_3)), .d (.sc (.bool h0_4)), .d (.sc (.bool h0_5)), .d (.sc (.int .i64 h0_6)), .d (.sc (.int .i64 h0_7)), .d (.sc (.int .i64 h0_8)), .d (.sc (.int .i64 h0_9))], g1, .cells [.d (.sc (.bool h2_0)), .d (.sc (.bool h2_1)), .d (.sc (.bool h2_2)), .d (.sc (.bool h2_3)), .d (.sc (.bool h2_4)), .d (.sc (.bool h2_5)), .d (.sc (.int .i64 h2_6)), .d (.sc (.int .i64 h2_7)), .d (.sc (.int .i64 h2_8)), .d (.sc (.int .i64 h2_9))], .cells [.d (.sc (.bool h3_0)), .d (.sc (.bool h3_1)), .d (.sc (.bool h3_2)), .d (.sc (.bool h3_3)), .d (.sc (.bool h3_4)), .d (.sc (.bool h3_5)), .d (.sc (.int .i64 h3_6)), .d (.sc (.int .i64 h3_7)), .d (.sc (.int .i64 h3_8)), .d (.sc (.int .i64 h3_9))]]⟩)) = (j4_27 t116 h0_0 h0_1 h0_2 h0_3 h0_4 h0_5 h0_6 h0_7 h0_8 h0_9 h2_0 h2_1 h2_2 h2_3 h2_4 h2_5 h2_6 h2_7 h2_8 h2_9 h3_0 h3_1 h3_2 h3_3 h3_4 h3_5 h3_6 h3_7 h3_8 h3_9).map e4 := by
  simp -implicitDefEqProofs only [j4_27, (show c4_27 = Code.cond _ c4_28 c4_31 from rfl), zq6, zq8, zq9, zq116, setA, setB, za, zb, zc, zd, ze, zf, zg, zh, zi, zj, zk, zl, zm, zn, zo, zp, reduceCtorEq, zE, ↓reduceIte]
  refine brB (fun yc26 => ?_) (fun yc26 => ?_)
  · simp -implicitDefEqProofs only [c4_28_e, c4_29_r, (show opsOf c4_29 = _ :: _ from rfl), c4_30_e, zq6, zq8, zq9, zq116, yc26, setA, setB, za, zb, zc, zd, ze, zf, zg, zh, zi, zj, zk, zl, zm, zn, zo, zp, reduceCtorEq, zE, ↓reduceIte]
    all_goals rfl
  · simp -implicitDefEqProofs only [c4_31_e, zq6, zq8, zq9, zq116, yc26, setA, setB, za, zb, zc, zd, ze, zf, zg, zh, zi, zj, zk, zl, zm, zn, zo, zp, reduceCtorEq, zE, ↓reduceIte]
    exact j4_32_t h0_0 h0_1 h0_2 h0_3 h0_4 h0_5 h0_6 h0_7 h0_8 h0_9 h2_0 h2_1 h2_2 h2_3 h2_4 h2_5 h2_6 h2_7 h2_8 h2_9 h3_0 h3_1 h3_2 h3_3 h3_4 h3_5 h3_6 h3_7 h3_8 h3_9 _ _ (by exact zq6) (by exact zq8) (by exact zq9)
def j4_26r34 (t107 h0_0 : Bool) (h0_1 h0_2 : Bool) (h0_3 h0_4 h0_5 : Bool) (h0_6 h0_7 : Int) (h0_8 h0_9 : Int) (h2_0 h2_1 : Bool) (h2_2 h2_3 : Bool) (h2_4 h2_5 : Bool) (h2_6 h2_7 : Int) (h2_8 h2_9 : Int) (h3_0 h3_1 : Bool) (h3_2 h3_3 : Bool) (h3_4 h3_5 : Bool) (h3_6 h3_7 : Int) (h3_8 h3_9 : Int) : Option R4 :=
  if t107 = true then
    j4_27 true h0_0 h0_1 h0_2 h0_3 h0_4 h0_5 h0_6 h0_7 h0_8 h0_9 h2_0 h2_1 h2_2 h2_3 h2_4 h2_5 h2_6 h2_7 h2_8 h2_9 h3_0 h3_1 h3_2 h3_3 h3_4 h3_5 h3_6 h3_7 h3_8 h3_9
  else
    if h2_4 = true then
      j4_27 (!h3_4) h0_0 h0_1 h0_2 h0_3 h0_4 h0_5 h0_6 h0_7 h0_8 h0_9 h2_0 h2_1 h2_2 h2_3 true h2_5 h2_6 h2_7 h2_8 h2_9 h3_0 h3_1 h3_2 h3_3 h3_4 h3_5 h3_6 h3_7 h3_8 h3_9
    else
      j4_27 false h0_0 h0_1 h0_2 h0_3 h0_4 h0_5 h0_6 h0_7 h0_8 h0_9 h2_0 h2_1 h2_2 h2_3 false h2_5 h2_6 h2_7 h2_8 h2_9 h3_0 h3_1 h3_2 h3_3 h3_4 h3_5 h3_6 h3_7 h3_8 h3_9
theorem j4_26r34_t (t107 h0_0 : Bool) (h0_1 h0_2 : Bool) (h0_3 h0_4 h0_5 : Bool) (h0_6 h0_7 : Int) (h0_8 h0_9 : Int) (h2_0 h2_1 : Bool) (h2_2 h2_3 : Bool) (h2_4 h2_5 : Bool) (h2_6 h2_7 : Int) (h2_8 h2_9 : Int) (h3_0 h3_1 : Bool) (h3_2 h3_3 : Bool) (h3_4 h3_5 : Bool) (h3_6 h3_7 : Int) (h3_8 h3_9 : Int) (g1 : Ob) (sl : Nat → AV) (zq6 : sl 6 = .v (.c (.ptr 0 0))) (zq8 : sl 8 = .v (.c (.ptr 2 0))) (zq9 : sl 9 = .v (.c (.ptr 3 0))) (zq107 : sl 107 = .v (.c (.d (.sc (.bool t107))))) :
    bodyD (E0 mm) [.tmp 4] 0 false (seqD (E0 mm) 4 0 (callW (E0 mm)) itW c4_32 (seqD (E0 mm) 4 0 (callW (E0 mm)) itW c4_27 (regD (runOps (E0 mm) (callW (E0 mm)) (opsOf c4_26) r4_26_34 ⟨sl, [.cells [.d (.sc (.bool h0_0)), .d (.sc (.bool h0_1)), .d (.sc (.bool h0_2)), .d (.sc (.bool h0_3)), .d (.sc (.bool h0_4)), .d (.sc (.bool h0_5)), .d (.sc (.int .i64 h0_6)), .d (.sc (.int .i64 h0_7)), .d (.sc (.int .i64 h0_8)), .d (.sc (.int .i64 h0_9))], g1, .cells [.d (.sc (.bool h2_0)), .d (.sc (.bool h2_1)), .d (.sc (.bool h2_2)), .d (.sc (.bool h2_3)), .d (.sc (.bool h2_4)), .d (.sc (.bool h2_5)), .d (.sc (.int .i64 h2_6)), .d (.sc (.int .i64 h2_7)), .d (.sc (.int .i64 h2_8)), .d (.sc (.int .i64 h2_9))], .cells [.d (.sc (.bool h3_0)), .d (.sc (.bool h3_1)), .d (.sc (.bool h3_2)), .d (.sc (.bool h3_3)), .d (.sc (.bool h3_4)), .d (.sc (.bool h3_5)), .d (.sc (.int .i64 h3_6)), .d (.sc (.int .i64 h3_7)), .d (.sc (.int .i64 h3_8)), .d (.sc (.int .i64 h3_9))]]⟩)))) = (j4_26r34 t107 h0_0 h0_1 h0_2 h0_3 h0_4 h0_5 h0_6 h0_7 h0_8 h0_9 h2_0 h2_1 h2_2 h2_3 h2_4 h2_5 h2_6 h2_7 h2_8 h2_9 h3_0 h3_1 h3_2 h3_3 h3_4 h3_5 h3_6 h3_7 h3_8 h3_9).map e4 := by
  simp -implicitDefEqProofs only [j4_26r34, (show opsOf c4_26 = _ :: _ from rfl), (show r4_26_34 = _ :: _ from rfl), zq6, zq8, zq9, zq107, setA, setB, za, zb, zc, zd, ze, zf, zg, zh, zi, zj, zk, zl, zm, zn, zo, zp, reduceCtorEq, zE, ↓reduceIte]
  refine brB (fun yc25 => ?_) (fun yc25 => ?_)
  · simp -implicitDefEqProofs only [zq6, zq8, zq9, zq107, yc25, setA, setB, za, zb, zc, zd, ze, zf, zg, zh, zi, zj, zk, zl, zm, zn, zo, zp, reduceCtorEq, zE, ↓reduceIte]
    exact j4_27_t true h0_0 h0_1 h0_2 h0_3 h0_4 h0_5 h0_6 h0_7 h0_8 h0_9 h2_0 h2_1 h2_2 h2_3 h2_4 h2_5 h2_6 h2_7 h2_8 h2_9 h3_0 h3_1 h3_2 h3_3 h3_4 h3_5 h3_6 h3_7 h3_8 h3_9 _ _ (by exact zq6) (by exact zq8) (by exact zq9) (by rfl)
  · simp -implicitDefEqProofs only [Tryd.underlying24, sz4, ag4, zq6, zq8, zq9, zq107, yc25, setA, setB, za, zb, zc, zd, ze, zf, zg, zh, zi, zj, zk, zl, zm, zn, zo, zp, reduceCtorEq, zE, ↓reduceIte]
    refine brB (fun yc40 => ?_) (fun yc40 => ?_)
    · simp -implicitDefEqProofs only [Tryd.underlying24, sz4, ag4, zq6, zq8, zq9, zq107, yc25, yc40, setA, setB, za, zb, zc, zd, ze, zf, zg, zh, zi, zj, zk, zl, zm, zn, zo, zp, reduceCtorEq, zE, ↓reduceIte]
      exact j4_27_t (!h3_4) h0_0 h0_1 h0_2 h0_3 h0_4 h0_5 h0_6 h0_7 h0_8 h0_9 h2_0 h2_1 h2_2 h2_3 true h2_5 h2_6 h2_7 h2_8 h2_9 h3_0 h3_1 h3_2 h3_3 h3_4 h3_5 h3_6 h3_7 h3_8 h3_9 _ _ (by exact zq6) (by exact zq8) (by exact zq9) (by rfl)
    · simp -implicitDefEqProofs only [zq6, zq8, zq9, zq107, yc25, yc40, setA, setB, za, zb, zc, zd, ze, zf, zg, zh, zi, zj, zk, zl, zm, zn, zo, zp, reduceCtorEq, zE, ↓reduceIte]
      exact j4_27_t false h0_0 h0_1 h0_2 h0_3 h0_4 h0_5 h0_6 h0_7 h0_8 h0_9 h2_0 h2_1 h2_2 h2_3 false h2_5 h2_6 h2_7 h2_8 h2_9 h3_0 h3_1 h3_2 h3_3 h3_4 h3_5 h3_6 h3_7 h3_8 h3_9 _ _ (by exact zq6) (by exact zq8) (by exact zq9) (by rfl)
def j4_26r25 (t98 h0_0 : Bool) (h0_1 h0_2 : Bool) (h0_3 h0_4 h0_5 : Bool) (h0_6 h0_7 : Int) (h0_8 h0_9 : Int) (h2_0 h2_1 : Bool) (h2_2 h2_3 : Bool) (h2_4 h2_5 : Bool) (h2_6 h2_7 : Int) (h2_8 h2_9 : Int) (h3_0 h3_1 : Bool) (h3_2 h3_3 : Bool) (h3_4 h3_5 : Bool) (h3_6 h3_7 : Int) (h3_8 h3_9 : Int) : Option R4 :=
  if t98 = true then
    j4_26r34 true h0_0 h0_1 h0_2 h0_3 h0_4 h0_5 h0_6 h0_7 h0_8 h0_9 h2_0 h2_1 h2_2 h2_3 h2_4 h2_5 h2_6 h2_7 h2_8 h2_9 h3_0 h3_1 h3_2 h3_3 h3_4 h3_5 h3_6 h3_7 h3_8 h3_9
  else
    if h2_3 = true then
      j4_26r34 (!h3_3) h0_0 h0_1 h0_2 h0_3 h0_4 h0_5 h0_6 h0_7 h0_8 h0_9 h2_0 h2_1 h2_2 true h2_4 h2_5 h2_6 h2_7 h2_8 h2_9 h3_0 h3_1 h3_2 h3_3 h3_4 h3_5 h3_6 h3_7 h3_8 h3_9
    else
      j4_26r34 false h0_0 h0_1 h0_2 h0_3 h0_4 h0_5 h0_6 h0_7 h0_8 h0_9 h2_0 h2_1 h2_2 false h2_4 h2_5 h2_6 h2_7 h2_8 h2_9 h3_0 h3_1 h3_2 h3_3 h3_4 h3_5 h3_6 h3_7 h3_8 h3_9
theorem j4_26r25_t (t98 h0_0 : Bool) (h0_1 h0_2 : Bool) (h0_3 h0_4 h0_5 : Bool) (h0_6 h0_7 : Int) (h0_8 h0_9 : Int) (h2_0 h2_1 : Bool) (h2_2 h2_3 : Bool) (h2_4 h2_5 : Bool) (h2_6 h2_7 : Int) (h2_8 h2_9 : Int) (h3_0 h3_1 : Bool) (h3_2 h3_3 : Bool) (h3_4 h3_5 : Bool) (h3_6 h3_7 : Int) (h3_8 h3_9 : Int) (g1 : Ob) (sl : Nat → AV) (zq6 : sl 6 = .v (.c (.ptr 0 0))) (zq8 : sl 8 = .v (.c (.ptr 2 0))) (zq9 : sl 9 = .v (.c (.ptr 3 0))) (zq98 : sl 98 = .v (.c (.d (.sc (.bool t98))))) :
    bodyD (E0 mm) [.tmp 4] 0 false (seqD (E0 mm) 4 0 (callW (E0 mm)) itW c4_32 (seqD (E0 mm) 4 0 (callW (E0 mm)) itW c4_27 (regD (runOps (E0 mm) (callW (E0 mm)) (opsOf c4_26) r4_26_25 ⟨sl, [.cells [.d (.sc (.bool h0_0)), .d (.sc (.bool h0_1)), .d (.sc (.bool h0_2)), .d (.sc (.bool h0_3)), .d (.sc (.bool h0_4)), .d (.sc (.bool h0_5)), .d (.sc (.int .i64 h0_6)), .d (.sc (.int .i64 h0_7)), .d (.sc (.int .i64 h0_8)), .d (.sc (.int .i64 h0_9))], g1, .cells [.d (.sc (.bool h2_0)), .d (.sc (.bool h2_1)), .d (.sc (.bool h2_2)), .d (.sc (.bool h2_3)), .d (.sc (.bool h2_4)), .d (.sc (.bool h2_5)), .d (.sc (.int .i64 h2_6)), .d (.sc (.int .i64 h2_7)), .d (.sc (.int .i64 h2_8)), .d (.sc (.int .i64 h2_9))], .cells [.d (.sc (.bool h3_0)), .d (.sc (.bool h3_1)), .d (.sc (.bool h3_2)), .d (.sc (.bool h3_3)), .d (.sc (.bool h3_4)), .d (.sc (.bool h3_5)), .d (.sc (.int .i64 h3_6)), .d (.sc (.int .i64 h3_7)), .d (.sc (.int .i64 h3_8)), .d (.sc (.int .i64 h3_9))]]⟩)))) = (j4_26r25 t98 h0_0 h0_1 h0_2 h0_3 h0_4 h0_5 h0_6 h0_7 h0_8 h0_9 h2_0 h2_1 h2_2 h2_3 h2_4 h2_5 h2_6 h2_7 h2_8 h2_9 h3_0 h3_1 h3_2 h3_3 h3_4 h3_5 h3_6 h3_7 h3_8 h3_9).map e4 := by
  simp -implicitDefEqProofs only [j4_26r25, (show opsOf c4_26 = _ :: _ from rfl), (show r4_26_25 = _ :: _ :: _ :: _ :: _ :: _ :: _ :: _ :: _ :: r4_26_34 from rfl), zq6, zq8, zq9, zq98, setA, setB, za, zb, zc, zd, ze, zf, zg, zh, zi, zj, zk, zl, zm, zn, zo, zp, reduceCtorEq, zE, ↓reduceIte]
  refine brB (fun yc24 => ?_) (fun yc24 => ?_)
  · simp -implicitDefEqProofs only [zq6, zq8, zq9, zq98, yc24, setA, setB, za, zb, zc, zd, ze, zf, zg, zh, zi, zj, zk, zl, zm, zn, zo, zp, reduceCtorEq, zE, ↓reduceIte]
    exact j4_26r34_t true h0_0 h0_1 h0_2 h0_3 h0_4 h0_5 h0_6 h0_7 h0_8 h0_9 h2_0 h2_1 h2_2 h2_3 h2_4 h2_5 h2_6 h2_7 h2_8 h2_9 h3_0 h3_1 h3_2 h3_3 h3_4 h3_5 h3_6 h3_7 h3_8 h3_9 _ _ (by exact zq6) (by exact zq8) (by exact zq9) (by rfl)
  · simp -implicitDefEqProofs only [Tryd.underlying24, sz4, ag4, zq6, zq8, zq9, zq98, yc24, setA, setB, za, zb, zc, zd, ze, zf, zg, zh, zi, zj, zk, zl, zm, zn, zo, zp, reduceCtorEq, zE, ↓reduceIte]
    refine brB (fun yc41 => ?_) (fun yc41 => ?_)
    · simp -implicitDefEqProofs only [Tryd.underlying24, sz4, ag4, zq6, zq8, zq9, zq98, yc24, yc41, setA, setB, za, zb, zc, zd, ze, zf, zg, zh, zi, zj, zk, zl, zm, zn, zo, zp, reduceCtorEq, zE, ↓reduceIte]
      exact j4_26r34_t (!h3_3) h0_0 h0_1 h0_2 h0_3 h0_4 h0_5 h0_6 h0_7 h0_8 h0_9 h2_0 h2_1 h2_2 true h2_4 h2_5 h2_6 h2_7 h2_8 h2_9 h3_0 h3_1 h3_2 h3_3 h3_4 h3_5 h3_6 h3_7 h3_8 h3_9 _ _ (by exact zq6) (by exact zq8) (by exact zq9) (by rfl)
    · simp -implicitDefEqProofs only [zq6, zq8, zq9, zq98, yc24, yc41, setA, setB, za, zb, zc, zd, ze, zf, zg, zh, zi, zj, zk, zl, zm, zn, zo, zp, reduceCtorEq, zE, ↓reduceIte]
      exact j4_26r34_t false h0_0 h0_1 h0_2 h0_3 h0_4 h0_5 h0_6 h0_7 h0_8 h0_9 h2_0 h2_1 h2_2 false h2_4 h2_5 h2_6 h2_7 h2_8 h2_9 h3_0 h3_1 h3_2 h3_3 h3_4 h3_5 h3_6 h3_7 h3_8 h3_9 _ _ (by exact zq6) (by exact zq8) (by exact zq9) (by rfl)
def j4_26r16 (t89 h0_0 : Bool) (h0_1 h0_2 : Bool) (h0_3 h0_4 h0_5 : Bool) (h0_6 h0_7 : Int) (h0_8 h0_9 : Int) (h2_0 h2_1 : Bool) (h2_2 h2_3 : Bool) (h2_4 h2_5 : Bool) (h2_6 h2_7 : Int) (h2_8 h2_9 : Int) (h3_0 h3_1 : Bool) (h3_2 h3_3 : Bool) (h3_4 h3_5 : Bool) (h3_6 h3_7 : Int) (h3_8 h3_9 : Int) : Option R4 :=
  if t89 = true then
    j4_26r25 true h0_0 h0_1 h0_2 h0_3 h0_4 h0_5 h0_6 h0_7 h0_8 h0_9 h2_0 h2_1 h2_2 h2_3 h2_4 h2_5 h2_6 h2_7 h2_8 h2_9 h3_0 h3_1 h3_2 h3_3 h3_4 h3_5 h3_6 h3_7 h3_8 h3_9
  else
    if h2_2 = true then
      j4_26r25 (!h3_2) h0_0 h0_1 h0_2 h0_3 h0_4 h0_5 h0_6 h0_7 h0_8 h0_9 h2_0 h2_1 true h2_3 h2_4 h2_5 h2_6 h2_7 h2_8 h2_9 h3_0 h3_1 h3_2 h3_3 h3_4 h3_5 h3_6 h3_7 h3_8 h3_9
    else
      j4_26r25 false h0_0 h0_1 h0_2 h0_3 h0_4 h0_5 h0_6 h0_7 h0_8 h0_9 h2_0 h2_1 false h2_3 h2_4 h2_5 h2_6 h2_7 h2_8 h2_9 h3_0 h3_1 h3_2 h3_3 h3_4 h3_5 h3_6 h3_7 h3_8 h3_9
theorem j4_26r16_t (t89 h0_0 : Bool) (h0_1 h0_2 : Bool) (h0_3 h0_4 h0_5 : Bool) (h0_6 h0_7 : Int) (h0_8 h0_9 : Int) (h2_0 h2_1 : Bool) (h2_2 h2_3 : Bool) (h2_4 h2_5 : Bool) (h2_6 h2_7 : Int) (h2_8 h2_9 : Int) (h3_0 h3_1 : Bool) (h3_2 h3_3 : Bool) (h3_4 h3_5 : Bool) (h3_6 h3_7 : Int) (h3_8 h3_9 : Int) (g1 : Ob) (sl : Nat → AV) (zq6 : sl 6 = .v (.c (.ptr 0 0))) (zq8 : sl 8 = .v (.c (.ptr 2 0))) (zq9 : sl 9 = .v (.c (.ptr 3 0))) (zq89 : sl 89 = .v (.c (.d (.sc (.bool t89))))) :
    bodyD (E0 mm) [.tmp 4] 0 false (seqD (E0 mm) 4 0 (callW (E0 mm)) itW c4_32 (seqD (E0 mm) 4 0 (callW (E0 mm)) itW c4_27 (regD (runOps (E0 mm) (callW (E0 mm)) (opsOf c4_26) r4_26_16 ⟨sl, [.cells [.d (.sc (.bool h0_0)), .d (.sc (.bool h0_1)), .d (.sc (.bool h0_2)), .d (.sc (.bool h0_3)), .d (.sc (.bool h0_4)), .d (.sc (.bool h0_5)), .d (.sc (.int .i64 h0_6)), .d (.sc (.int .i64 h0_7)), .d (.sc (.int .i64 h0_8)), .d (.sc (.int .i64 h0_9))], g1, .cells [.d (.sc (.bool h2_0)), .d (.sc (.bool h2_1)), .d (.sc (.bool h2_2)), .d (.sc (.bool h2_3)), .d (.sc (.bool h2_4)), .d (.sc (.bool h2_5)), .d (.sc (.int .i64 h2_6)), .d (.sc (.int .i64 h2_7)), .d (.sc (.int .i64 h2_8)), .d (.sc (.int .i64 h2_9))], .cells [.d (.sc (.bool h3_0)), .d (.sc (.bool h3_1)), .d (.sc (.bool h3_2)), .d (.sc (.bool h3_3)), .d (.sc (.bool h3_4)), .d (.sc (.bool h3_5)), .d (.sc (.int .i64 h3_6)), .d (.sc (.int .i64 h3_7)), .d (.sc (.int .i64 h3_8)), .d (.sc (.int .i64 h3_9))]]⟩)))) = (j4_26r16 t89 h0_0 h0_1 h0_2 h0_3 h0_4 h0_5 h0_6 h0_7 h0_8 h0_9 h2_0 h2_1 h2_2 h2_3 h2_4 h2_5 h2_6 h2_7 h2_8 h2_9 h3_0 h3_1 h3_2 h3_3 h3_4 h3_5 h3_6 h3_7 h3_8 h3_9).map e4 := by
  simp -implicitDefEqProofs only [j4_26r16, (show opsOf c4_26 = _ :: _ from rfl), (show r4_26_16 = _ :: _ :: _ :: _ :: _ :: _ :: _ :: _ :: _ :: r4_26_25 from rfl), zq6, zq8, zq9, zq89, setA, setB, za, zb, zc, zd, ze, zf, zg, zh, zi, zj, zk, zl, zm, zn, zo, zp, reduceCtorEq, zE, ↓reduceIte]
  refine brB (fun yc23 => ?_) (fun yc23 => ?_)
  · simp -implicitDefEqProofs only [zq6, zq8, zq9, zq89, yc23, setA, setB, za, zb, zc, zd, ze, zf, zg, zh, zi, zj, zk, zl, zm, zn, zo, zp, reduceCtorEq, zE, ↓reduceIte]
    exact j4_26r25_t true h0_0 h0_1 h0_2 h0_3 h0_4 h0_5 h0_6 h0_7 h0_8 h0_9 h2_0 h2_1 h2_2 h2_3 h2_4 h2_5 h2_6 h2_7 h2_8 h2_9 h3_0 h3_1 h3_2 h3_3 h3_4 h3_5 h3_6 h3_7 h3_8 h3_9 _ _ (by exact zq6) (by exact zq8) (by exact zq9) (by rfl)
  · simp -implicitDefEqProofs only [Tryd.underlying24, sz4, ag4, zq6, zq8, zq9, zq89, yc23, setA, setB, za, zb, zc, zd, ze, zf, zg, zh, zi, zj, zk, zl, zm, zn, zo, zp, reduceCtorEq, zE, ↓reduceIte]
    refine brB (fun yc42 => ?_) (fun yc42 => ?_)
    · simp -implicitDefEqProofs only [Tryd.underlying24, sz4, ag4, zq6, zq8, zq9, zq89, yc23, yc42, setA, setB, za, zb, zc, zd, ze, zf, zg, zh, zi, zj, zk, zl, zm, zn, zo, zp, reduceCtorEq, zE, ↓reduceIte]
      exact j4_26r25_t (!h3_2) h0_0 h0_1 h0_2 h0_3 h0_4 h0_5 h0_6 h0_7 h0_8 h0_9 h2_0 h2_1 true h2_3 h2_4 h2_5 h2_6 h2_7 h2_8 h2_9 h3_0 h3_1 h3_2 h3_3 h3_4 h3_5 h3_6 h3_7 h3_8 h3_9 _ _ (by exact zq6) (by exact zq8) (by exact zq9) (by rfl)
    · simp -implicitDefEqProofs only [zq6, zq8, zq9, zq89, yc23, yc42, setA, setB, za, zb, zc, zd, ze, zf, zg, zh, zi, zj, zk, zl, zm, zn, zo, zp, reduceCtorEq, zE, ↓reduceIte]
      exact j4_26r25_t false h0_0 h0_1 h0_2 h0_3 h0_4 h0_5 h0_6 h0_7 h0_8 h0_9 h2_0 h2_1 false h2_3 h2_4 h2_5 h2_6 h2_7 h2_8 h2_9 h3_0 h3_1 h3_2 h3_3 h3_4 h3_5 h3_6 h3_7 h3_8 h3_9 _ _ (by exact zq6) (by exact zq8) (by exact zq9) (by rfl)
def j4_22 (l0_0 : Bool) (l0_1 : List (Bs × Bs)) (all5_0 : Bool) (all5_1 : List (Bs × Bs)) (h0_0 h0_1 : Bool) (h0_2 h0_3 : Bool) (h0_4 h0_5 : Bool) (h0_6 h0_7 : Int) (h0_8 h0_9 : Int) : Option R4 :=
  (m9 l0_0 l0_1).bind fun yr17 =>
    (m9 all5_0 all5_1).bind fun yr19 =>
      if yr17.1 = true then
        if yr19.1 = true then
          if yr17.2.1 = true then
            j4_26r16 (!yr19.2.1) h0_0 h0_1 h0_2 h0_3 h0_4 h0_5 h0_6 h0_7 h0_8 h0_9 true true yr17.2.2.1 yr17.2.2.2.1 yr17.2.2.2.2.1 yr17.2.2.2.2.2.1 yr17.2.2.2.2.2.2.1 yr17.2.2.2.2.2.2.2.1 yr17.2.2.2.2.2.2.2.2.1 yr17.2.2.2.2.2.2.2.2.2 true yr19.2.1 yr19.2.2.1 yr19.2.2.2.1 yr19.2.2.2.2.1 yr19.2.2.2.2.2.1 yr19.2.2.2.2.2.2.1 yr19.2.2.2.2.2.2.2.1 yr19.2.2.2.2.2.2.2.2.1 yr19.2.2.2.2.2.2.2.2.2
          else
            j4_26r16 false h0_0 h0_1 h0_2 h0_3 h0_4 h0_5 h0_6 h0_7 h0_8 h0_9 true false yr17.2.2.1 yr17.2.2.2.1 yr17.2.2.2.2.1 yr17.2.2.2.2.2.1 yr17.2.2.2.2.2.2.1 yr17.2.2.2.2.2.2.2.1 yr17.2.2.2.2.2.2.2.2.1 yr17.2.2.2.2.2.2.2.2.2 true yr19.2.1 yr19.2.2.1 yr19.2.2.2.1 yr19.2.2.2.2.1 yr19.2.2.2.2.2.1 yr19.2.2.2.2.2.2.1 yr19.2.2.2.2.2.2.2.1 yr19.2.2.2.2.2.2.2.2.1 yr19.2.2.2.2.2.2.2.2.2
        else
          j4_26r16 true h0_0 h0_1 h0_2 h0_3 h0_4 h0_5 h0_6 h0_7 h0_8 h0_9 true yr17.2.1 yr17.2.2.1 yr17.2.2.2.1 yr17.2.2.2.2.1 yr17.2.2.2.2.2.1 yr17.2.2.2.2.2.2.1 yr17.2.2.2.2.2.2.2.1 yr17.2.2.2.2.2.2.2.2.1 yr17.2.2.2.2.2.2.2.2.2 false yr19.2.1 yr19.2.2.1 yr19.2.2.2.1 yr19.2.2.2.2.1 yr19.2.2.2.2.2.1 yr19.2.2.2.2.2.2.1 yr19.2.2.2.2.2.2.2.1 yr19.2.2.2.2.2.2.2.2.1 yr19.2.2.2.2.2.2.2.2.2
      else
        if yr17.2.1 = true then
          j4_26r16 (!yr19.2.1) h0_0 h0_1 h0_2 h0_3 h0_4 h0_5 h0_6 h0_7 h0_8 h0_9 false true yr17.2.2.1 yr17.2.2.2.1 yr17.2.2.2.2.1 yr17.2.2.2.2.2.1 yr17.2.2.2.2.2.2.1 yr17.2.2.2.2.2.2.2.1 yr17.2.2.2.2.2.2.2.2.1 yr17.2.2.2.2.2.2.2.2.2 yr19.1 yr19.2.1 yr19.2.2.1 yr19.2.2.2.1 yr19.2.2.2.2.1 yr19.2.2.2.2.2.1 yr19.2.2.2.2.2.2.1 yr19.2.2.2.2.2.2.2.1 yr19.2.2.2.2.2.2.2.2.1 yr19.2.2.2.2.2.2.2.2.2
        else
          j4_26r16 false h0_0 h0_1 h0_2 h0_3 h0_4 h0_5 h0_6 h0_7 h0_8 h0_9 false false yr17.2.2.1 yr17.2.2.2.1 yr17.2.2.2.2.1 yr17.2.2.2.2.2.1 yr17.2.2.2.2.2.2.1 yr17.2.2.2.2.2.2.2.1 yr17.2.2.2.2.2.2.2.2.1 yr17.2.2.2.2.2.2.2.2.2 yr19.1 yr19.2.1 yr19.2.2.1 yr19.2.2.2.1 yr19.2.2.2.2.1 yr19.2.2.2.2.2.1 yr19.2.2.2.2.2.2.1 yr19.2.2.2.2.2.2.2.1 yr19.2.2.2.2.2.2.2.2.1 yr19.2.2.2.2.2.2.2.2.2
theorem j4_22_t (l0_0 : Bool) (l0_1 : List (Bs × Bs)) (all5_0 : Bool) (all5_1 : List (Bs × Bs)) (h0_0 h0_1 : Bool) (h0_2 h0_3 : Bool) (h0_4 h0_5 : Bool) (h0_6 h0_7 : Int) (h0_8 h0_9 : Int) (g1 : Ob) (sl : Nat → AV) (zq0 : sl 0 = .v (.c (.d (.lst l0_0 (enL enSS l0_1))))) (zq5 : sl 5 = .v (.c (.d (.lst all5_0 (enL enSS all5_1))))) (zq6 : sl 6 = .v (.c (.ptr 0 0))) :
    bodyD (E0 mm) [.tmp 4] 0 false (den (E0 mm) 4 0 (callW (E0 mm)) itW c4_22 none ⟨sl, [.cells [.d (.sc (.bool h0_0)), .d (.sc (.bool h0_1)), .d (.sc (.bool h0_2)), .d (.sc (.bool h0_3)), .d (.sc (.bool h0_4)), .d (.sc (.bool h0_5)), .d (.sc (.int .i64 h0_6)), .d (.sc (.int .i64 h0_7)), .d (.sc (.int .i64 h0_8)), .d (.sc (.int .i64 h0_9))], g1]⟩) = (j4_22 l0_0 l0_1 all5_0 all5_1 h0_0 h0_1 h0_2 h0_3 h0_4 h0_5 h0_6 h0_7 h0_8 h0_9).map e4 := by
  simp -implicitDefEqProofs only [j4_22, c4_22_e, c4_23_r, (show opsOf c4_23 = _ :: _ from rfl), ent9, prm9, f9_t, zq0, zq5, zq6, setA, setB, za, zb, zc, zd, ze, zf, zg, zh, zi, zj, zk, zl, zm, zn, zo, zp, reduceCtorEq, zE, ↓reduceIte]
  refine brM (fun yc16 => ?_) (fun yr17 yc16 => ?_)
  · rw [yc16]; rfl
  · simp -implicitDefEqProofs only [e9, ent9, prm9, f9_t, zq0, zq5, zq6, yc16, setA, setB, za, zb, zc, zd, ze, zf, zg, zh, zi, zj, zk, zl, zm, zn, zo, zp, reduceCtorEq, zE, ↓reduceIte]
    refine brM (fun yc18 => ?_) (fun yr19 yc18 => ?_)
    · rw [yc18]; rfl
    · simp -implicitDefEqProofs only [e9, zc24, ao65, sz24, c4_24_e, c4_25_e, c4_26_r, (show opsOf c4_26 = _ :: _ :: _ :: _ :: _ :: _ :: _ :: _ :: _ :: _ :: _ :: _ :: _ :: _ :: _ :: _ :: r4_26_16 from rfl), Tryd.underlying24, sz4, ag4, zq0, zq5, zq6, yc16, yc18, setA, setB, za, zb, zc, zd, ze, zf, zg, zh, zi, zj, zk, zl, zm, zn, zo, zp, reduceCtorEq, zE, ↓reduceIte]
      refine brB (fun yc20 => ?_) (fun yc20 => ?_)
      · simp -implicitDefEqProofs only [Tryd.underlying24, sz4, ag4, zq0, zq5, zq6, yc16, yc18, yc20, setA, setB, za, zb, zc, zd, ze, zf, zg, zh, zi, zj, zk, zl, zm, zn, zo, zp, reduceCtorEq, zE, ↓reduceIte]
        refine brB (fun yc21 => ?_) (fun yc21 => ?_)
        · simp -implicitDefEqProofs only [Tryd.underlying24, sz4, ag4, zq0, zq5, zq6, yc16, yc18, yc20, yc21, setA, setB, za, zb, zc, zd, ze, zf, zg, zh, zi, zj, zk, zl, zm, zn, zo, zp, reduceCtorEq, zE, ↓reduceIte]
          refine brB (fun yc22 => ?_) (fun yc22 => ?_)
          · simp -implicitDefEqProofs only [Tryd.underlying24, sz4, ag4, zq0, zq5, zq6, yc16, yc18, yc20, yc21, yc22, setA, setB, za, zb, zc, zd, ze, zf, zg, zh, zi, zj, zk, zl, zm, zn, zo, zp, reduceCtorEq, zE, ↓reduceIte]
            exact j4_26r16_t (!yr19.2.1) h0_0 h0_1 h0_2 h0_3 h0_4 h0_5 h0_6 h0_7 h0_8 h0_9 true true yr17.2.2.1 yr17.2.2.2.1 yr17.2.2.2.2.1 yr17.2.2.2.2.2.1 yr17.2.2.2.2.2.2.1 yr17.2.2.2.2.2.2.2.1 yr17.2.2.2.2.2.2.2.2.1 yr17.2.2.2.2.2.2.2.2.2 true yr19.2.1 yr19.2.2.1 yr19.2.2.2.1 yr19.2.2.2.2.1 yr19.2.2.2.2.2.1 yr19.2.2.2.2.2.2.1 yr19.2.2.2.2.2.2.2.1 yr19.2.2.2.2.2.2.2.2.1 yr19.2.2.2.2.2.2.2.2.2 _ _ (by exact zq6) (by rfl) (by rfl) (by rfl)
          · simp -implicitDefEqProofs only [zq0, zq5, zq6, yc16, yc18, yc20, yc21, yc22, setA, setB, za, zb, zc, zd, ze, zf, zg, zh, zi, zj, zk, zl, zm, zn, zo, zp, reduceCtorEq, zE, ↓reduceIte]
            exact j4_26r16_t false h0_0 h0_1 h0_2 h0_3 h0_4 h0_5 h0_6 h0_7 h0_8 h0_9 true false yr17.2.2.1 yr17.2.2.2.1 yr17.2.2.2.2.1 yr17.2.2.2.2.2.1 yr17.2.2.2.2.2.2.1 yr17.2.2.2.2.2.2.2.1 yr17.2.2.2.2.2.2.2.2.1 yr17.2.2.2.2.2.2.2.2.2 true yr19.2.1 yr19.2.2.1 yr19.2.2.2.1 yr19.2.2.2.2.1 yr19.2.2.2.2.2.1 yr19.2.2.2.2.2.2.1 yr19.2.2.2.2.2.2.2.1 yr19.2.2.2.2.2.2.2.2.1 yr19.2.2.2.2.2.2.2.2.2 _ _ (by exact zq6) (by rfl) (by rfl) (by rfl)
        · simp -implicitDefEqProofs only [zq0, zq5, zq6, yc16, yc18, yc20, yc21, setA, setB, za, zb, zc, zd, ze, zf, zg, zh, zi, zj, zk, zl, zm, zn, zo, zp, reduceCtorEq, zE, ↓reduceIte]
          exact j4_26r16_t true h0_0 h0_1 h0_2 h0_3 h0_4 h0_5 h0_6 h0_7 h0_8 h0_9 true yr17.2.1 yr17.2.2.1 yr17.2.2.2.1 yr17.2.2.2.2.1 yr17.2.2.2.2.2.1 yr17.2.2.2.2.2.2.1 yr17.2.2.2.2.2.2.2.1 yr17.2.2.2.2.2.2.2.2.1 yr17.2.2.2.2.2.2.2.2.2 false yr19.2.1 yr19.2.2.1 yr19.2.2.2.1 yr19.2.2.2.2.1 yr19.2.2.2.2.2.1 yr19.2.2.2.2.2.2.1 yr19.2.2.2.2.2.2.2.1 yr19.2.2.2.2.2.2.2.2.1 yr19.2.2.2.2.2.2.2.2.2 _ _ (by exact zq6) (by rfl) (by rfl) (by rfl)
      · simp -implicitDefEqProofs only [Tryd.underlying24, sz4, ag4, zq0, zq5, zq6, yc16, yc18, yc20, setA, setB, za, zb, zc, zd, ze, zf, zg, zh, zi, zj, zk, zl, zm, zn, zo, zp, reduceCtorEq, zE, ↓reduceIte]
        refine brB (fun yc43 => ?_) (fun yc43 => ?_)
        · simp -implicitDefEqProofs only [Tryd.underlying24, sz4, ag4, zq0, zq5, zq6, yc16, yc18, yc20, yc43, setA, setB, za, zb, zc, zd, ze, zf, zg, zh, zi, zj, zk, zl, zm, zn, zo, zp, reduceCtorEq, zE, ↓reduceIte]
          exact j4_26r16_t (!yr19.2.1) h0_0 h0_1 h0_2 h0_3 h0_4 h0_5 h0_6 h0_7 h0_8 h0_9 false true yr17.2.2.1 yr17.2.2.2.1 yr17.2.2.2.2.1 yr17.2.2.2.2.2.1 yr17.2.2.2.2.2.2.1 yr17.2.2.2.2.2.2.2.1 yr17.2.2.2.2.2.2.2.2.1 yr17.2.2.2.2.2.2.2.2.2 yr19.1 yr19.2.1 yr19.2.2.1 yr19.2.2.2.1 yr19.2.2.2.2.1 yr19.2.2.2.2.2.1 yr19.2.2.2.2.2.2.1 yr19.2.2.2.2.2.2.2.1 yr19.2.2.2.2.2.2.2.2.1 yr19.2.2.2.2.2.2.2.2.2 _ _ (by exact zq6) (by rfl) (by rfl) (by rfl)
        · simp -implicitDefEqProofs only [zq0, zq5, zq6, yc16, yc18, yc20, yc43, setA, setB, za, zb, zc, zd, ze, zf, zg, zh, zi, zj, zk, zl, zm, zn, zo, zp, reduceCtorEq, zE, ↓reduceIte]
          exact j4_26r16_t false h0_0 h0_1 h0_2 h0_3 h0_4 h0_5 h0_6 h0_7 h0_8 h0_9 false false yr17.2.2.1 yr17.2.2.2.1 yr17.2.2.2.2.1 yr17.2.2.2.2.2.1 yr17.2.2.2.2.2.2.1 yr17.2.2.2.2.2.2.2.1 yr17.2.2.2.2.2.2.2.2.1 yr17.2.2.2.2.2.2.2.2.2 yr19.1 yr19.2.1 yr19.2.2.1 yr19.2.2.2.1 yr19.2.2.2.2.1 yr19.2.2.2.2.2.1 yr19.2.2.2.2.2.2.1 yr19.2.2.2.2.2.2.2.1 yr19.2.2.2.2.2.2.2.2.1 yr19.2.2.2.2.2.2.2.2.2 _ _ (by exact zq6) (by rfl) (by rfl) (by rfl)
def j4_17 (l0_0 : Bool) (l0_1 : List (Bs × Bs)) (all5_0 : Bool) (all5_1 : List (Bs × Bs)) (t69 h0_0 : Bool) (h0_1 h0_2 : Bool) (h0_3 h0_4 h0_5 : Bool) (h0_6 h0_7 : Int) (h0_8 h0_9 : Int) : Option R4 :=
  if t69 = true then
    some false
  else
    j4_22 l0_0 l0_1 all5_0 all5_1 h0_0 h0_1 h0_2 h0_3 h0_4 h0_5 h0_6 h0_7 h0_8 h0_9
theorem j4_17_t (l0_0 : Bool) (l0_1 : List (Bs × Bs)) (all5_0 : Bool) (all5_1 : List (Bs × Bs)) (t69 h0_0 : Bool) (h0_1 h0_2 : Bool) (h0_3 h0_4 h0_5 : Bool) (h0_6 h0_7 : Int) (h0_8 h0_9 : Int) (g1 : Ob) (sl : Nat → AV) (zq0 : sl 0 = .v (.c (.d (.lst l0_0 (enL enSS l0_1))))) (zq5 : sl 5 = .v (.c (.d (.lst all5_0 (enL enSS all5_1))))) (zq6 : sl 6 = .v (.c (.ptr 0 0))) (zq69 : sl 69 = .v (.c (.d (.sc (.bool t69))))) :
    bodyD (E0 mm) [.tmp 4] 0 false (seqD (E0 mm) 4 0 (callW (E0 mm)) itW c4_22 (den (E0 mm) 4 0 (callW (E0 mm)) itW c4_17 none ⟨sl, [.cells [.d (.sc (.bool h0_0)), .d (.sc (.bool h0_1)), .d (.sc (.bool h0_2)), .d (.sc (.bool h0_3)), .d (.sc (.bool h0_4)), .d (.sc (.bool h0_5)), .d (.sc (.int .i64 h0_6)), .d (.sc (.int .i64 h0_7)), .d (.sc (.int .i64 h0_8)), .d (.sc (.int .i64 h0_9))], g1]⟩)) = (j4_17 l0_0 l0_1 all5_0 all5_1 t69 h0_0 h0_1 h0_2 h0_3 h0_4 h0_5 h0_6 h0_7 h0_8 h0_9).map e4 := by
  simp -implicitDefEqProofs only [j4_17, (show c4_17 = Code.cond _ c4_18 c4_21 from rfl), zq0, zq5, zq6, zq69, setA, setB, za, zb, zc, zd, ze, zf, zg, zh, zi, zj, zk, zl, zm, zn, zo, zp, reduceCtorEq, zE, ↓reduceIte]
  refine brB (fun yc15 => ?_) (fun yc15 => ?_)
  · simp -implicitDefEqProofs only [c4_18_e, c4_19_r, (show opsOf c4_19 = _ :: _ from rfl), c4_20_e, zq0, zq5, zq6, zq69, yc15, setA, setB, za, zb, zc, zd, ze, zf, zg, zh, zi, zj, zk, zl, zm, zn, zo, zp, reduceCtorEq, zE, ↓reduceIte]
    all_goals rfl
  · simp -implicitDefEqProofs only [c4_21_e, zq0, zq5, zq6, zq69, yc15, setA, setB, za, zb, zc, zd, ze, zf, zg, zh, zi, zj, zk, zl, zm, zn, zo, zp, reduceCtorEq, zE, ↓reduceIte]
    exact j4_22_t l0_0 l0_1 all5_0 all5_1 h0_0 h0_1 h0_2 h0_3 h0_4 h0_5 h0_6 h0_7 h0_8 h0_9 _ _ (by exact zq0) (by exact zq5) (by exact zq6)
def j4_33r50v1 (t166 : Bool) : Option R4 :=
  some t166
theorem j4_33r50v1_t (t166 : Bool) (g0 g1 : Ob) (g2 g3 g4 : Ob) (sl : Nat → AV) (zq166 : sl 166 = .v (.c (.d (.sc (.bool t166))))) :
    bodyD (E0 mm) [.tmp 4] 0 false (seqD (E0 mm) 4 0 (callW (E0 mm)) itW c4_34 (regD (runOps (E0 mm) (callW (E0 mm)) (opsOf c4_33) r4_33_50 ⟨sl, [g0, g1, g2, g3, g4]⟩))) = (j4_33r50v1 t166).map e4 := by
  simp -implicitDefEqProofs only [j4_33r50v1, (show opsOf c4_33 = _ :: _ from rfl), (show r4_33_50 = _ :: _ from rfl), c4_34_e, zq166, setA, setB, za, zb, zc, zd, ze, zf, zg, zh, zi, zj, zk, zl, zm, zn, zo, zp, reduceCtorEq, zE, ↓reduceIte]
  all_goals rfl
def j4_33r47v1 (t163 : Bool) : Option R4 :=
  if t163 = true then
    j4_33r50v1 true
  else
    j4_33r50v1 false
theorem j4_33r47v1_t (t163 : Bool) (g0 g1 : Ob) (g2 g3 g4 : Ob) (sl : Nat → AV) (zq163 : sl 163 = .v (.c (.d (.sc (.bool t163))))) :
    bodyD (E0 mm) [.tmp 4] 0 false (seqD (E0 mm) 4 0 (callW (E0 mm)) itW c4_34 (regD (runOps (E0 mm) (callW (E0 mm)) (opsOf c4_33) r4_33_47 ⟨sl, [g0, g1, g2, g3, g4]⟩))) = (j4_33r47v1 t163).map e4 := by
  simp -implicitDefEqProofs only [j4_33r47v1, (show opsOf c4_33 = _ :: _ from rfl), (show r4_33_47 = _ :: _ :: _ :: r4_33_50 from rfl), zq163, setA, setB, za, zb, zc, zd, ze, zf, zg, zh, zi, zj, zk, zl, zm, zn, zo, zp, reduceCtorEq, zE, ↓reduceIte]
  refine brB (fun yc70 => ?_) (fun yc70 => ?_)
  · simp -implicitDefEqProofs only [ent12, prm12, f12_t, zq163, yc70, setA, setB, za, zb, zc, zd, ze, zf, zg, zh, zi, zj, zk, zl, zm, zn, zo, zp, reduceCtorEq, zE, ↓reduceIte]
    exact j4_33r50v1_t true _ _ _ _ _ _ (by rfl)
  · simp -implicitDefEqProofs only [zq163, yc70, setA, setB, za, zb, zc, zd, ze, zf, zg, zh, zi, zj, zk, zl, zm, zn, zo, zp, reduceCtorEq, zE, ↓reduceIte]
    exact j4_33r50v1_t false _ _ _ _ _ _ (by rfl)
def j4_33r42v1 (t158 h3_0 : Bool) (h3_1 h3_2 : Bool) (h3_3 h3_4 h3_5 : Bool) (h3_6 h3_7 : Int) (h3_8 h3_9 : Int) : Option R4 :=
  if t158 = true then
    j4_33r47v1 (!h3_5)
  else
    j4_33r47v1 false
theorem j4_33r42v1_t (t158 h3_0 : Bool) (h3_1 h3_2 : Bool) (h3_3 h3_4 h3_5 : Bool) (h3_6 h3_7 : Int) (h3_8 h3_9 : Int) (g0 g1 : Ob) (g2 g4 : Ob) (sl : Nat → AV) (zq8 : sl 8 = .v (.c (.ptr 3 0))) (zq158 : sl 158 = .v (.c (.d (.sc (.bool t158))))) :
    bodyD (E0 mm) [.tmp 4] 0 false (seqD (E0 mm) 4 0 (callW (E0 mm)) itW c4_34 (regD (runOps (E0 mm) (callW (E0 mm)) (opsOf c4_33) r4_33_42 ⟨sl, [g0, g1, g2, .cells [.d (.sc (.bool h3_0)), .d (.sc (.bool h3_1)), .d (.sc (.bool h3_2)), .d (.sc (.bool h3_3)), .d (.sc (.bool h3_4)), .d (.sc (.bool h3_5)), .d (.sc (.int .i64 h3_6)), .d (.sc (.int .i64 h3_7)), .d (.sc (.int .i64 h3_8)), .d (.sc (.int .i64 h3_9))], g4]⟩))) = (j4_33r42v1 t158 h3_0 h3_1 h3_2 h3_3 h3_4 h3_5 h3_6 h3_7 h3_8 h3_9).map e4 := by
  simp -implicitDefEqProofs only [j4_33r42v1, (show opsOf c4_33 = _ :: _ from rfl), (show r4_33_42 = _ :: _ :: _ :: _ :: _ :: r4_33_47 from rfl), zq8, zq158, setA, setB, za, zb, zc, zd, ze, zf, zg, zh, zi, zj, zk, zl, zm, zn, zo, zp, reduceCtorEq, zE, ↓reduceIte]
  refine brB (fun yc69 => ?_) (fun yc69 => ?_)
  · simp -implicitDefEqProofs only [Tryd.underlying24, sz4, ag4, zq8, zq158, yc69, setA, setB, za, zb, zc, zd, ze, zf, zg, zh, zi, zj, zk, zl, zm, zn, zo, zp, reduceCtorEq, zE, ↓reduceIte]
    exact j4_33r47v1_t (!h3_5) _ _ _ _ _ _ (by rfl)
  · simp -implicitDefEqProofs only [zq8, zq158, yc69, setA, setB, za, zb, zc, zd, ze, zf, zg, zh, zi, zj, zk, zl, zm, zn, zo, zp, reduceCtorEq, zE, ↓reduceIte]
    exact j4_33r47v1_t false _ _ _ _ _ _ (by rfl)
def j4_33r37v1 (t153 h0_0 : Bool) (h0_1 h0_2 : Bool) (h0_3 h0_4 h0_5 : Bool) (h0_6 h0_7 : Int) (h0_8 h0_9 : Int) (h3_0 h3_1 : Bool) (h3_2 h3_3 : Bool) (h3_4 h3_5 : Bool) (h3_6 h3_7 : Int) (h3_8 h3_9 : Int) : Option R4 :=
  if t153 = true then
    j4_33r42v1 (!h0_4) h3_0 h3_1 h3_2 h3_3 h3_4 h3_5 h3_6 h3_7 h3_8 h3_9
  else
    j4_33r42v1 false h3_0 h3_1 h3_2 h3_3 h3_4 h3_5 h3_6 h3_7 h3_8 h3_9
theorem j4_33r37v1_t (t153 h0_0 : Bool) (h0_1 h0_2 : Bool) (h0_3 h0_4 h0_5 : Bool) (h0_6 h0_7 : Int) (h0_8 h0_9 : Int) (h3_0 h3_1 : Bool) (h3_2 h3_3 : Bool) (h3_4 h3_5 : Bool) (h3_6 h3_7 : Int) (h3_8 h3_9 : Int) (g1 g2 g4 : Ob) (sl : Nat → AV) (zq6 : sl 6 = .v (.c (.ptr 0 0))) (zq8 : sl 8 = .v (.c (.ptr 3 0))) (zq153 : sl 153 = .v (.c (.d (.sc (.bool t153))))) :
    bodyD (E0 mm) [.tmp 4] 0 false (seqD (E0 mm) 4 0 (callW (E0 mm)) itW c4_34 (regD (runOps (E0 mm) (callW (E0 mm)) (opsOf c4_33) r4_33_37 ⟨sl, [.cells [.d (.sc (.bool h0_0)), .d (.sc (.bool h0_1)), .d (.sc (.bool h0_2)), .d (.sc (.bool h0_3)), .d (.sc (.bool h0_4)), .d (.sc (.bool h0_5)), .d (.sc (.int .i64 h0_6)), .d (.sc (.int .i64 h0_7)), .d (.sc (.int .i64 h0_8)), .d (.sc (.int .i64 h0_9))], g1, g2, .cells [.d (.sc (.bool h3_0)), .d (.sc (.bool h3_1)), .d (.sc (.bool h3_2)), .d (.sc (.bool h3_3)), .d (.sc (.bool h3_4)), .d (.sc (.bool h3_5)), .d (.sc (.int .i64 h3_6)), .d (.sc (.int .i64 h3_7)), .d (.sc (.int .i64 h3_8)), .d (.sc (.int .i64 h3_9))], g4]⟩))) = (j4_33r37v1 t153 h0_0 h0_1 h0_2 h0_3 h0_4 h0_5 h0_6 h0_7 h0_8 h0_9 h3_0 h3_1 h3_2 h3_3 h3_4 h3_5 h3_6 h3_7 h3_8 h3_9).map e4 := by
  simp -implicitDefEqProofs only [j4_33r37v1, (show opsOf c4_33 = _ :: _ from rfl), (show r4_33_37 = _ :: _ :: _ :: _ :: _ :: r4_33_42 from rfl), zq6, zq8, zq153, setA, setB, za, zb, zc, zd, ze, zf, zg, zh, zi, zj, zk, zl, zm, zn, zo, zp, reduceCtorEq, zE, ↓reduceIte]
  refine brB (fun yc68 => ?_) (fun yc68 => ?_)
  · simp -implicitDefEqProofs only [Tryd.underlying24, sz4, ag4, zq6, zq8, zq153, yc68, setA, setB, za, zb, zc, zd, ze, zf, zg, zh, zi, zj, zk, zl, zm, zn, zo, zp, reduceCtorEq, zE, ↓reduceIte]
    exact j4_33r42v1_t (!h0_4) h3_0 h3_1 h3_2 h3_3 h3_4 h3_5 h3_6 h3_7 h3_8 h3_9 _ _ _ _ _ (by exact zq8) (by rfl)
  · simp -implicitDefEqProofs only [zq6, zq8, zq153, yc68, setA, setB, za, zb, zc, zd, ze, zf, zg, zh, zi, zj, zk, zl, zm, zn, zo, zp, reduceCtorEq, zE, ↓reduceIte]
    exact j4_33r42v1_t false h3_0 h3_1 h3_2 h3_3 h3_4 h3_5 h3_6 h3_7 h3_8 h3_9 _ _ _ _ _ (by exact zq8) (by rfl)
def j4_33r32v1 (t148 h0_0 : Bool) (h0_1 h0_2 : Bool) (h0_3 h0_4 h0_5 : Bool) (h0_6 h0_7 : Int) (h0_8 h0_9 : Int) (h3_0 h3_1 : Bool) (h3_2 h3_3 : Bool) (h3_4 h3_5 : Bool) (h3_6 h3_7 : Int) (h3_8 h3_9 : Int) : Option R4 :=
  if t148 = true then
    j4_33r37v1 (!h0_3) h0_0 h0_1 h0_2 h0_3 h0_4 h0_5 h0_6 h0_7 h0_8 h0_9 h3_0 h3_1 h3_2 h3_3 h3_4 h3_5 h3_6 h3_7 h3_8 h3_9
  else
    j4_33r37v1 false h0_0 h0_1 h0_2 h0_3 h0_4 h0_5 h0_6 h0_7 h0_8 h0_9 h3_0 h3_1 h3_2 h3_3 h3_4 h3_5 h3_6 h3_7 h3_8 h3_9
theorem j4_33r32v1_t (t148 h0_0 : Bool) (h0_1 h0_2 : Bool) (h0_3 h0_4 h0_5 : Bool) (h0_6 h0_7 : Int) (h0_8 h0_9 : Int) (h3_0 h3_1 : Bool) (h3_2 h3_3 : Bool) (h3_4 h3_5 : Bool) (h3_6 h3_7 : Int) (h3_8 h3_9 : Int) (g1 g2 g4 : Ob) (sl : Nat → AV) (zq6 : sl 6 = .v (.c (.ptr 0 0))) (zq8 : sl 8 = .v (.c (.ptr 3 0))) (zq148 : sl 148 = .v (.c (.d (.sc (.bool t148))))) :
    bodyD (E0 mm) [.tmp 4] 0 false (seqD (E0 mm) 4 0 (callW (E0 mm)) itW c4_34 (regD (runOps (E0 mm) (callW (E0 mm)) (opsOf c4_33) r4_33_32 ⟨sl, [.cells [.d (.sc (.bool h0_0)), .d (.sc (.bool h0_1)), .d (.sc (.bool h0_2)), .d (.sc (.bool h0_3)), .d (.sc (.bool h0_4)), .d (.sc (.bool h0_5)), .d (.sc (.int .i64 h0_6)), .d (.sc (.int .i64 h0_7)), .d (.sc (.int .i64 h0_8)), .d (.sc (.int .i64 h0_9))], g1, g2, .cells [.d (.sc (.bool h3_0)), .d (.sc (.bool h3_1)), .d (.sc (.bool h3_2)), .d (.sc (.bool h3_3)), .d (.sc (.bool h3_4)), .d (.sc (.bool h3_5)), .d (.sc (.int .i64 h3_6)), .d (.sc (.int .i64 h3_7)), .d (.sc (.int .i64 h3_8)), .d (.sc (.int .i64 h3_9))], g4]⟩))) = (j4_33r32v1 t148 h0_0 h0_1 h0_2 h0_3 h0_4 h0_5 h0_6 h0_7 h0_8 h0_9 h3_0 h3_1 h3_2 h3_3 h3_4 h3_5 h3_6 h3_7 h3_8 h3_9).map e4 := by
  simp -implicitDefEqProofs only [j4_33r32v1, (show opsOf c4_33 = _ :: _ from rfl), (show r4_33_32 = _ :: _ :: _ :: _ :: _ :: r4_33_37 from rfl), zq6, zq8, zq148, setA, setB, za, zb, zc, zd, ze, zf, zg, zh, zi, zj, zk, zl, zm, zn, zo, zp, reduceCtorEq, zE, ↓reduceIte]
  refine brB (fun yc67 => ?_) (fun yc67 => ?_)
  · simp -implicitDefEqProofs only [Tryd.underlying24, sz4, ag4, zq6, zq8, zq148, yc67, setA, setB, za, zb, zc, zd, ze, zf, zg, zh, zi, zj, zk, zl, zm, zn, zo, zp, reduceCtorEq, zE, ↓reduceIte]
    exact j4_33r37v1_t (!h0_3) h0_0 h0_1 h0_2 h0_3 h0_4 h0_5 h0_6 h0_7 h0_8 h0_9 h3_0 h3_1 h3_2 h3_3 h3_4 h3_5 h3_6 h3_7 h3_8 h3_9 _ _ _ _ (by exact zq6) (by exact zq8) (by rfl)
  · simp -implicitDefEqProofs only [zq6, zq8, zq148, yc67, setA, setB, za, zb, zc, zd, ze, zf, zg, zh, zi, zj, zk, zl, zm, zn, zo, zp, reduceCtorEq, zE, ↓reduceIte]
    exact j4_33r37v1_t false h0_0 h0_1 h0_2 h0_3 h0_4 h0_5 h0_6 h0_7 h0_8 h0_9 h3_0 h3_1 h3_2 h3_3 h3_4 h3_5 h3_6 h3_7 h3_8 h3_9 _ _ _ _ (by exact zq6) (by exact zq8) (by rfl)
def j4_33r27v1 (t143 h0_0 : Bool) (h0_1 h0_2 : Bool) (h0_3 h0_4 h0_5 : Bool) (h0_6 h0_7 : Int) (h0_8 h0_9 : Int) (h3_0 h3_1 : Bool) (h3_2 h3_3 : Bool) (h3_4 h3_5 : Bool) (h3_6 h3_7 : Int) (h3_8 h3_9 : Int) : Option R4 :=
  if t143 = true then
    j4_33r32v1 (!h0_2) h0_0 h0_1 h0_2 h0_3 h0_4 h0_5 h0_6 h0_7 h0_8 h0_9 h3_0 h3_1 h3_2 h3_3 h3_4 h3_5 h3_6 h3_7 h3_8 h3_9
  else
    j4_33r32v1 false h0_0 h0_1 h0_2 h0_3 h0_4 h0_5 h0_6 h0_7 h0_8 h0_9 h3_0 h3_1 h3_2 h3_3 h3_4 h3_5 h3_6 h3_7 h3_8 h3_9
theorem j4_33r27v1_t (t143 h0_0 : Bool) (h0_1 h0_2 : Bool) (h0_3 h0_4 h0_5 : Bool) (h0_6 h0_7 : Int) (h0_8 h0_9 : Int) (h3_0 h3_1 : Bool) (h3_2 h3_3 : Bool) (h3_4 h3_5 : Bool) (h3_6 h3_7 : Int) (h3_8 h3_9 : Int) (g1 g2 g4 : Ob) (sl : Nat → AV) (zq6 : sl 6 = .v (.c (.ptr 0 0))) (zq8 : sl 8 = .v (.c (.ptr 3 0))) (zq143 : sl 143 = .v (.c (.d (.sc (.bool t143))))) :
    bodyD (E0 mm) [.tmp 4] 0 false (seqD (E0 mm) 4 0 (callW (E0 mm)) itW c4_34 (regD (runOps (E0 mm) (callW (E0 mm)) (opsOf c4_33) r4_33_27 ⟨sl, [.cells [.d (.sc (.bool h0_0)), .d (.sc (.bool h0_1)), .d (.sc (.bool h0_2)), .d (.sc (.bool h0_3)), .d (.sc (.bool h0_4)), .d (.sc (.bool h0_5)), .d (.sc (.int .i64 h0_6)), .d (.sc (.int .i64 h0_7)), .d (.sc (.int .i64 h0_8)), .d (.sc (.int .i64 h0_9))], g1, g2, .cells [.d (.sc (.bool h3_0)), .d (.sc (.bool h3_1)), .d (.sc (.bool h3_2)), .d (.sc (.bool h3_3)), .d (.sc (.bool h3_4)), .d (.sc (.bool h3_5)), .d (.sc (.int .i64 h3_6)), .d (.sc (.int .i64 h3_7)), .d (.sc (.int .i64 h3_8)), .d (.sc (.int .i64 h3_9))], g4]⟩))) = (j4_33r27v1 t143 h0_0 h0_1 h0_2 h0_3 h0_4 h0_5 h0_6 h0_7 h0_8 h0_9 h3_0 h3_1 h3_2 h3_3 h3_4 h3_5 h3_6 h3_7 h3_8 h3_9).map e4 := by
  simp -implicitDefEqProofs only [j4_33r27v1, (show opsOf c4_33 = _ :: _ from rfl), (show r4_33_27 = _ :: _ :: _ :: _ :: _ :: r4_33_32 from rfl), zq6, zq8, zq143, setA, setB, za, zb, zc, zd, ze, zf, zg, zh, zi, zj, zk, zl, zm, zn, zo, zp, reduceCtorEq, zE, ↓reduceIte]
  refine brB (fun yc66 => ?_) (fun yc66 => ?_)
  · simp -implicitDefEqProofs only [Tryd.underlying24, sz4, ag4, zq6, zq8, zq143, yc66, setA, setB, za, zb, zc, zd, ze, zf, zg, zh, zi, zj, zk, zl, zm, zn, zo, zp, reduceCtorEq, zE, ↓reduceIte]
    exact j4_33r32v1_t (!h0_2) h0_0 h0_1 h0_2 h0_3 h0_4 h0_5 h0_6 h0_7 h0_8 h0_9 h3_0 h3_1 h3_2 h3_3 h3_4 h3_5 h3_6 h3_7 h3_8 h3_9 _ _ _ _ (by exact zq6) (by exact zq8) (by rfl)
  · simp -implicitDefEqProofs only [zq6, zq8, zq143, yc66, setA, setB, za, zb, zc, zd, ze, zf, zg, zh, zi, zj, zk, zl, zm, zn, zo, zp, reduceCtorEq, zE, ↓reduceIte]
    exact j4_33r32v1_t false h0_0 h0_1 h0_2 h0_3 h0_4 h0_5 h0_6 h0_7 h0_8 h0_9 h3_0 h3_1 h3_2 h3_3 h3_4 h3_5 h3_6 h3_7 h3_8 h3_9 _ _ _ _ (by exact zq6) (by exact zq8) (by rfl)
def j4_33r22v1 (t138 h0_0 : Bool) (h0_1 h0_2 : Bool) (h0_3 h0_4 h0_5 : Bool) (h0_6 h0_7 : Int) (h0_8 h0_9 : Int) (h3_0 h3_1 : Bool) (h3_2 h3_3 : Bool) (h3_4 h3_5 : Bool) (h3_6 h3_7 : Int) (h3_8 h3_9 : Int) : Option R4 :=
  if t138 = true then
    j4_33r27v1 (h3_9 == (-1)) h0_0 h0_1 h0_2 h0_3 h0_4 h0_5 h0_6 h0_7 h0_8 h0_9 h3_0 h3_1 h3_2 h3_3 h3_4 h3_5 h3_6 h3_7 h3_8 h3_9
  else
    j4_33r27v1 false h0_0 h0_1 h0_2 h0_3 h0_4 h0_5 h0_6 h0_7 h0_8 h0_9 h3_0 h3_1 h3_2 h3_3 h3_4 h3_5 h3_6 h3_7 h3_8 h3_9
theorem j4_33r22v1_t (t138 h0_0 : Bool) (h0_1 h0_2 : Bool) (h0_3 h0_4 h0_5 : Bool) (h0_6 h0_7 : Int) (h0_8 h0_9 : Int) (h3_0 h3_1 : Bool) (h3_2 h3_3 : Bool) (h3_4 h3_5 : Bool) (h3_6 h3_7 : Int) (h3_8 h3_9 : Int) (g1 g2 g4 : Ob) (sl : Nat → AV) (zq6 : sl 6 = .v (.c (.ptr 0 0))) (zq8 : sl 8 = .v (.c (.ptr 3 0))) (zq138 : sl 138 = .v (.c (.d (.sc (.bool t138))))) :
    bodyD (E0 mm) [.tmp 4] 0 false (seqD (E0 mm) 4 0 (callW (E0 mm)) itW c4_34 (regD (runOps (E0 mm) (callW (E0 mm)) (opsOf c4_33) r4_33_22 ⟨sl, [.cells [.d (.sc (.bool h0_0)), .d (.sc (.bool h0_1)), .d (.sc (.bool h0_2)), .d (.sc (.bool h0_3)), .d (.sc (.bool h0_4)), .d (.sc (.bool h0_5)), .d (.sc (.int .i64 h0_6)), .d (.sc (.int .i64 h0_7)), .d (.sc (.int .i64 h0_8)), .d (.sc (.int .i64 h0_9))], g1, g2, .cells [.d (.sc (.bool h3_0)), .d (.sc (.bool h3_1)), .d (.sc (.bool h3_2)), .d (.sc (.bool h3_3)), .d (.sc (.bool h3_4)), .d (.sc (.bool h3_5)), .d (.sc (.int .i64 h3_6)), .d (.sc (.int .i64 h3_7)), .d (.sc (.int .i64 h3_8)), .d (.sc (.int .i64 h3_9))], g4]⟩))) = (j4_33r22v1 t138 h0_0 h0_1 h0_2 h0_3 h0_4 h0_5 h0_6 h0_7 h0_8 h0_9 h3_0 h3_1 h3_2 h3_3 h3_4 h3_5 h3_6 h3_7 h3_8 h3_9).map e4 := by
  simp -implicitDefEqProofs only [j4_33r22v1, (show opsOf c4_33 = _ :: _ from rfl), (show r4_33_22 = _ :: _ :: _ :: _ :: _ :: r4_33_27 from rfl), zq6, zq8, zq138, setA, setB, za, zb, zc, zd, ze, zf, zg, zh, zi, zj, zk, zl, zm, zn, zo, zp, reduceCtorEq, zE, ↓reduceIte]
  refine brB (fun yc65 => ?_) (fun yc65 => ?_)
  · simp -implicitDefEqProofs only [Tryd.underlying24, sz3, ag3, zq6, zq8, zq138, yc65, setA, setB, za, zb, zc, zd, ze, zf, zg, zh, zi, zj, zk, zl, zm, zn, zo, zp, reduceCtorEq, zE, ↓reduceIte]
    exact j4_33r27v1_t (h3_9 == (-1)) h0_0 h0_1 h0_2 h0_3 h0_4 h0_5 h0_6 h0_7 h0_8 h0_9 h3_0 h3_1 h3_2 h3_3 h3_4 h3_5 h3_6 h3_7 h3_8 h3_9 _ _ _ _ (by exact zq6) (by exact zq8) (by rfl)
  · simp -implicitDefEqProofs only [zq6, zq8, zq138, yc65, setA, setB, za, zb, zc, zd, ze, zf, zg, zh, zi, zj, zk, zl, zm, zn, zo, zp, reduceCtorEq, zE, ↓reduceIte]
    exact j4_33r27v1_t false h0_0 h0_1 h0_2 h0_3 h0_4 h0_5 h0_6 h0_7 h0_8 h0_9 h3_0 h3_1 h3_2 h3_3 h3_4 h3_5 h3_6 h3_7 h3_8 h3_9 _ _ _ _ (by exact zq6) (by exact zq8) (by rfl)
def j4_33r17v1 (t133 h0_0 : Bool) (h0_1 h0_2 : Bool) (h0_3 h0_4 h0_5 : Bool) (h0_6 h0_7 : Int) (h0_8 h0_9 : Int) (h3_0 h3_1 : Bool) (h3_2 h3_3 : Bool) (h3_4 h3_5 : Bool) (h3_6 h3_7 : Int) (h3_8 h3_9 : Int) : Option R4 :=
  if t133 = true then
    j4_33r22v1 (h3_8 == (-1)) h0_0 h0_1 h0_2 h0_3 h0_4 h0_5 h0_6 h0_7 h0_8 h0_9 h3_0 h3_1 h3_2 h3_3 h3_4 h3_5 h3_6 h3_7 h3_8 h3_9
  else
    j4_33r22v1 false h0_0 h0_1 h0_2 h0_3 h0_4 h0_5 h0_6 h0_7 h0_8 h0_9 h3_0 h3_1 h3_2 h3_3 h3_4 h3_5 h3_6 h3_7 h3_8 h3_9
theorem j4_33r17v1_t (t133 h0_0 : Bool) (h0_1 h0_2 : Bool) (h0_3 h0_4 h0_5 : Bool) (h0_6 h0_7 : Int) (h0_8 h0_9 : Int) (h3_0 h3_1 : Bool) (h3_2 h3_3 : Bool) (h3_4 h3_5 : Bool) (h3_6 h3_7 : Int) (h3_8 h3_9 : Int) (g1 g2 g4 : Ob) (sl : Nat → AV) (zq6 : sl 6 = .v (.c (.ptr 0 0))) (zq8 : sl 8 = .v (.c (.ptr 3 0))) (zq133 : sl 133 = .v (.c (.d (.sc (.bool t133))))) :
    bodyD (E0 mm) [.tmp 4] 0 false (seqD (E0 mm) 4 0 (callW (E0 mm)) itW c4_34 (regD (runOps (E0 mm) (callW (E0 mm)) (opsOf c4_33) r4_33_17 ⟨sl, [.cells [.d (.sc (.bool h0_0)), .d (.sc (.bool h0_1)), .d (.sc (.bool h0_2)), .d (.sc (.bool h0_3)), .d (.sc (.bool h0_4)), .d (.sc (.bool h0_5)), .d (.sc (.int .i64 h0_6)), .d (.sc (.int .i64 h0_7)), .d (.sc (.int .i64 h0_8)), .d (.sc (.int .i64 h0_9))], g1, g2, .cells [.d (.sc (.bool h3_0)), .d (.sc (.bool h3_1)), .d (.sc (.bool h3_2)), .d (.sc (.bool h3_3)), .d (.sc (.bool h3_4)), .d (.sc (.bool h3_5)), .d (.sc (.int .i64 h3_6)), .d (.sc (.int .i64 h3_7)), .d (.sc (.int .i64 h3_8)), .d (.sc (.int .i64 h3_9))], g4]⟩))) = (j4_33r17v1 t133 h0_0 h0_1 h0_2 h0_3 h0_4 h0_5 h0_6 h0_7 h0_8 h0_9 h3_0 h3_1 h3_2 h3_3 h3_4 h3_5 h3_6 h3_7 h3_8 h3_9).map e4 := by
  simp -implicitDefEqProofs only [j4_33r17v1, (show opsOf c4_33 = _ :: _ from rfl), (show r4_33_17 = _ :: _ :: _ :: _ :: _ :: r4_33_22 from rfl), zq6, zq8, zq133, setA, setB, za, zb, zc, zd, ze, zf, zg, zh, zi, zj, zk, zl, zm, zn, zo, zp, reduceCtorEq, zE, ↓reduceIte]
  refine brB (fun yc64 => ?_) (fun yc64 => ?_)
  · simp -implicitDefEqProofs only [Tryd.underlying24, sz3, ag3, zq6, zq8, zq133, yc64, setA, setB, za, zb, zc, zd, ze, zf, zg, zh, zi, zj, zk, zl, zm, zn, zo, zp, reduceCtorEq, zE, ↓reduceIte]
    exact j4_33r22v1_t (h3_8 == (-1)) h0_0 h0_1 h0_2 h0_3 h0_4 h0_5 h0_6 h0_7 h0_8 h0_9 h3_0 h3_1 h3_2 h3_3 h3_4 h3_5 h3_6 h3_7 h3_8 h3_9 _ _ _ _ (by exact zq6) (by exact zq8) (by rfl)
  · simp -implicitDefEqProofs only [zq6, zq8, zq133, yc64, setA, setB, za, zb, zc, zd, ze, zf, zg, zh, zi, zj, zk, zl, zm, zn, zo, zp, reduceCtorEq, zE, ↓reduceIte]
    exact j4_33r22v1_t false h0_0 h0_1 h0_2 h0_3 h0_4 h0_5 h0_6 h0_7 h0_8 h0_9 h3_0 h3_1 h3_2 h3_3 h3_4 h3_5 h3_6 h3_7 h3_8 h3_9 _ _ _ _ (by exact zq6) (by exact zq8) (by rfl)
def j4_32v1 (h0_0 h0_1 : Bool) (h0_2 h0_3 : Bool) (h0_4 h0_5 : Bool) (h0_6 h0_7 : Int) (h0_8 h0_9 : Int) (h3_0 h3_1 : Bool) (h3_2 h3_3 : Bool) (h3_4 h3_5 : Bool) (h3_6 h3_7 : Int) (h3_8 h3_9 : Int) (h4_0 h4_1 : Bool) (h4_2 h4_3 : Bool) (h4_4 h4_5 : Bool) (h4_6 h4_7 : Int) (h4_8 h4_9 : Int) : Option R4 :=
  (m13 h4_6 h3_6).bind fun yr59 =>
    if yr59 = true then
      (m13 h4_7 h3_7).bind fun yr62 =>
        if yr62 = true then
          j4_33r17v1 (h0_7 == (-1)) h0_0 h0_1 h0_2 h0_3 h0_4 h0_5 h0_6 h0_7 h0_8 h0_9 h3_0 h3_1 h3_2 h3_3 h3_4 h3_5 h3_6 h3_7 h3_8 h3_9
        else
          j4_33r17v1 false h0_0 h0_1 h0_2 h0_3 h0_4 h0_5 h0_6 h0_7 h0_8 h0_9 h3_0 h3_1 h3_2 h3_3 h3_4 h3_5 h3_6 h3_7 h3_8 h3_9
    else
      j4_33r17v1 false h0_0 h0_1 h0_2 h0_3 h0_4 h0_5 h0_6 h0_7 h0_8 h0_9 h3_0 h3_1 h3_2 h3_3 h3_4 h3_5 h3_6 h3_7 h3_8 h3_9
theorem j4_32v1_t (h0_0 h0_1 : Bool) (h0_2 h0_3 : Bool) (h0_4 h0_5 : Bool) (h0_6 h0_7 : Int) (h0_8 h0_9 : Int) (h3_0 h3_1 : Bool) (h3_2 h3_3 : Bool) (h3_4 h3_5 : Bool) (h3_6 h3_7 : Int) (h3_8 h3_9 : Int) (h4_0 h4_1 : Bool) (h4_2 h4_3 : Bool) (h4_4 h4_5 : Bool) (h4_6 h4_7 : Int) (h4_8 h4_9 : Int) (g1 g2 : Ob) (sl : Nat → AV) (zq6 : sl 6 = .v (.c (.ptr 0 0))) (zq8 : sl 8 = .v (.c (.ptr 3 0))) (zq9 : sl 9 = .v (.c (.ptr 4 0))) :
    bodyD (E0 mm) [.tmp 4] 0 false (den (E0 mm) 4 0 (callW (E0 mm)) itW c4_32 none ⟨sl, [.cells [.d (.sc (.bool h0_0)), .d (.sc (.bool h0_1)), .d (.sc (.bool h0_2)), .d (.sc (.bool h0_3)), .d (.sc (.bool h0_4)), .d (.sc (.bool h0_5)), .d (.sc (.int .i64 h0_6)), .d (.sc (.int .i64 h0_7)), .d (.sc (.int .i64 h0_8)), .d (.sc (.int .i64 h0_9))], g1, g2, .cells [.d (.sc (.bool h3_0)), .d (.sc (.bool h3_1)), .d (.sc (.bool h3_2)), .d (.sc (.bool h3_3)), .d (.sc (.bool h3_4)), .d (.sc (.bool h3_5)), .d (.sc (.int .i64 h3_6)), .d (.sc (.int .i64 h3_7)), .d (.sc (.int .i64 h3_8)), .d (.sc (.int .i64 h3_9))], .cells [.d (.sc (.bool h4_0)), .d (.sc (.bool h4_1)), .d (.sc (.bool h4_2)), .d (.sc (.bool h4_3)), .d (.sc (.bool h4_4)), .d (.sc (.bool h4_5)), .d (.sc (.int .i64 h4_6)), .d (.sc (.int .i64 h4_7)), .d (.sc (.int .i64 h4_8)), .d (.sc (.int .i64 h4_9))]]⟩) = (j4_32v1 h0_0 h0_1 h0_2 h0_3 h0_4 h0_5 h0_6 h0_7 h0_8 h0_9 h3_0 h3_1 h3_2 h3_3 h3_4 h3_5 h3_6 h3_7 h3_8 h3_9 h4_0 h4_1 h4_2 h4_3 h4_4 h4_5 h4_6 h4_7 h4_8 h4_9).map e4 := by
  simp -implicitDefEqProofs only [j4_32v1, c4_32_e, c4_33_r, (show opsOf c4_33 = _ :: _ :: _ :: _ :: _ :: _ :: _ :: _ :: _ :: _ :: _ :: _ :: _ :: _ :: _ :: _ :: _ :: r4_33_17 from rfl), Tryd.underlying24, sz3, ag3, ent13, prm13, f13_t, zq6, zq8, zq9, setA, setB, za, zb, zc, zd, ze, zf, zg, zh, zi, zj, zk, zl, zm, zn, zo, zp, reduceCtorEq, zE, ↓reduceIte]
  refine brM (fun yc58 => ?_) (fun yr59 yc58 => ?_)
  · rw [yc58]; rfl
  · simp -implicitDefEqProofs only [e13, zq6, zq8, zq9, yc58, setA, setB, za, zb, zc, zd, ze, zf, zg, zh, zi, zj, zk, zl, zm, zn, zo, zp, reduceCtorEq, zE, ↓reduceIte]
    refine brB (fun yc60 => ?_) (fun yc60 => ?_)
    · simp -implicitDefEqProofs only [Tryd.underlying24, sz3, ag3, ent13, prm13, f13_t, zq6, zq8, zq9, yc58, yc60, setA, setB, za, zb, zc, zd, ze, zf, zg, zh, zi, zj, zk, zl, zm, zn, zo, zp, reduceCtorEq, zE, ↓reduceIte]
      refine brM (fun yc61 => ?_) (fun yr62 yc61 => ?_)
      · rw [yc61]; rfl
      · simp -implicitDefEqProofs only [e13, zq6, zq8, zq9, yc58, yc60, yc61, setA, setB, za, zb, zc, zd, ze, zf, zg, zh, zi, zj, zk, zl, zm, zn, zo, zp, reduceCtorEq, zE, ↓reduceIte]
        refine brB (fun yc63 => ?_) (fun yc63 => ?_)
        · simp -implicitDefEqProofs only [Tryd.underlying24, sz3, ag3, zq6, zq8, zq9, yc58, yc60, yc61, yc63, setA, setB, za, zb, zc, zd, ze, zf, zg, zh, zi, zj, zk, zl, zm, zn, zo, zp, reduceCtorEq, zE, ↓reduceIte]
          exact j4_33r17v1_t (h0_7 == (-1)) h0_0 h0_1 h0_2 h0_3 h0_4 h0_5 h0_6 h0_7 h0_8 h0_9 h3_0 h3_1 h3_2 h3_3 h3_4 h3_5 h3_6 h3_7 h3_8 h3_9 _ _ _ _ (by exact zq6) (by exact zq8) (by rfl)
        · simp -implicitDefEqProofs only [zq6, zq8, zq9, yc58, yc60, yc61, yc63, setA, setB, za, zb, zc, zd, ze, zf, zg, zh, zi, zj, zk, zl, zm, zn, zo, zp, reduceCtorEq, zE, ↓reduceIte]
          exact j4_33r17v1_t false h0_0 h0_1 h0_2 h0_3 h0_4 h0_5 h0_6 h0_7 h0_8 h0_9 h3_0 h3_1 h3_2 h3_3 h3_4 h3_5 h3_6 h3_7 h3_8 h3_9 _ _ _ _ (by exact zq6) (by exact zq8) (by rfl)
    · simp -implicitDefEqProofs only [zq6, zq8, zq9, yc58, yc60, setA, setB, za, zb, zc, zd, ze, zf, zg, zh, zi, zj, zk, zl, zm, zn, zo, zp, reduceCtorEq, zE, ↓reduceIte]
      exact j4_33r17v1_t false h0_0 h0_1 h0_2 h0_3 h0_4 h0_5 h0_6 h0_7 h0_8 h0_9 h3_0 h3_1 h3_2 h3_3 h3_4 h3_5 h3_6 h3_7 h3_8 h3_9 _ _ _ _ (by exact zq6) (by exact zq8) (by rfl)
def j4_27v1 (t116 h0_0 : Bool) (h0_1 h0_2 : Bool) (h0_3 h0_4 h0_5 : Bool) (h0_6 h0_7 : Int) (h0_8 h0_9 : Int) (h3_0 h3_1 : Bool) (h3_2 h3_3 : Bool) (h3_4 h3_5 : Bool) (h3_6 h3_7 : Int) (h3_8 h3_9 : Int) (h4_0 h4_1 : Bool) (h4_2 h4_3 : Bool) (h4_4 h4_5 : Bool) (h4_6 h4_7 : Int) (h4_8 h4_9 : Int) : Option R4 :=
  if t116 = true then
    some false
  else
    j4_32v1 h0_0 h0_1 h0_2 h0_3 h0_4 h0_5 h0_6 h0_7 h0_8 h0_9 h3_0 h3_1 h3_2 h3_3 h3_4 h3_5 h3_6 h3_7 h3_8 h3_9 h4_0 h4_1 h4_2 h4_3 h4_4 h4_5 h4_6 h4_7 h4_8 h4_9
theorem j4_27v1_t (t116 h0_0 : Bool) (h0_1 h0_2 : Bool) (h0_3 h0_4 h0_5 : Bool) (h0_6 h0_7 : Int) (h0_8 h0_9 : Int) (h3_0 h3_1 : Bool) (h3_2 h3_3 : Bool) (h3_4 h3_5 : Bool) (h3_6 h3_7 : Int) (h3_8 h3_9 : Int) (h4_0 h4_1 : Bool) (h4_2 h4_3 : Bool) (h4_4 h4_5 : Bool) (h4_6 h4_7 : Int) (h4_8 h4_9 : Int) (g1 g2 : Ob) (sl : Nat → AV) (zq6 : sl 6 = .v (.c (.ptr 0 0))) (zq8 : sl 8 = .v (.c (.ptr 3 0))) (zq9 : sl 9 = .v (.c (.ptr 4 0))) (zq116 : sl 116 = .v (.c (.d (.sc (.bool t116))))) :
    bodyD (E0 mm) [.tmp 4] 0 false (seqD (E0 mm) 4 0 (callW (E0 mm)) itW c4_32 (den (E0 mm) 4 0 (callW (E0 mm)) itW c4_27 none ⟨sl, [.cells [.d (.sc (.bool h0_0)), .d (.sc (.bool h0_1)), .d (.sc (.bool h0_2)), .d (.sc (.bool h0_3)), .d (.sc (.bool h0_4)), .d (.sc (.bool h0_5)), .d (.sc (.int .i64 h0_6)), .d (.sc (.int .i64 h0_7)), .d (.sc (.int .i64 h0_8)), .d (.sc (.int .i64 h0_9))], g1, g2, .cells [.d (.sc (.bool h3_0)), .d (.sc (.bool h3_1)), .d (.sc (.bool h3_2)), .d (.sc (.bool h3_3)), .d (.sc (.bool h3_4)), .d (.sc (.bool h3_5)), .d (.sc (.int .i64 h3_6)), .d (.sc (.int .i64 h3_7)), .d (.sc (.int .i64 h3_8)), .d (.sc (.int .i64 h3_9))], .cells [.d (.sc (.bool h4_0)), .d (.sc (.bool h4_1)), .d (.sc (.bool h4_2)), .d (.sc (.bool h4_3)), .d (.sc (.bool h4_4)), .d (.sc (.bool h4_5)), .d (.sc (.int .i64 h4_6)), .d (.sc (.int .i64 h4_7)), .d (.sc (.int .i64 h4_8)), .d (.sc (.int .i64 h4_9))]]⟩)) = (j4_27v1 t116 h0_0 h0_1 h0_2 h0_3 h0_4 h0_5 h0_6 h0_7 h0_8 h0_9 h3_0 h3_1 h3_2 h3_3 h3_4 h3_5 h3_6 h3_7 h3_8 h3_9 h4_0 h4_1 h4_2 h4_3 h4_4 h4_5 h4_6 h4_7 h4_8 h4_9).map e4 := by
  simp -implicitDefEqProofs only [j4_27v1, (show c4_27 = Code.cond _ c4_28 c4_31 from rfl), zq6, zq8, zq9, zq116, setA, setB, za, zb, zc, zd, ze, zf, zg, zh, zi, zj, zk, zl, zm, zn, zo, zp, reduceCtorEq, zE, ↓reduceIte]
  refine brB (fun yc57 => ?_) (fun yc57 => ?_)
  · simp -implicitDefEqProofs only [c4_28_e, c4_29_r, (show opsOf c4_29 = _ :: _ from rfl), c4_30_e, zq6, zq8, zq9, zq116, yc57, setA, setB, za, zb, zc, zd, ze, zf, zg, zh, zi, zj, zk, zl, zm, zn, zo, zp, reduceCtorEq, zE, ↓reduceIte]
    all_goals rfl
  · simp -implicitDefEqProofs only [c4_31_e, zq6, zq8, zq9, zq116, yc57, setA, setB, za, zb, zc, zd, ze, zf, zg, zh, zi, zj, zk, zl, zm, zn, zo, zp, reduceCtorEq, zE, ↓reduceIte]
    exact j4_32v1_t h0_0 h0_1 h0_2 h0_3 h0_4 h0_5 h0_6 h0_7 h0_8 h0_9 h3_0 h3_1 h3_2 h3_3 h3_4 h3_5 h3_6 h3_7 h3_8 h3_9 h4_0 h4_1 h4_2 h4_3 h4_4 h4_5 h4_6 h4_7 h4_8 h4_9 _ _ _ (by exact zq6) (by exact zq8) (by exact zq9)
def j4_26r34v1 (t107 h0_0 : Bool) (h0_1 h0_2 : Bool) (h0_3 h0_4 h0_5 : Bool) (h0_6 h0_7 : Int) (h0_8 h0_9 : Int) (h3_0 h3_1 : Bool) (h3_2 h3_3 : Bool) (h3_4 h3_5 : Bool) (h3_6 h3_7 : Int) (h3_8 h3_9 : Int) (h4_0 h4_1 : Bool) (h4_2 h4_3 : Bool) (h4_4 h4_5 : Bool) (h4_6 h4_7 : Int) (h4_8 h4_9 : Int) : Option R4 :=
  if t107 = true then
    j4_27v1 true h0_0 h0_1 h0_2 h0_3 h0_4 h0_5 h0_6 h0_7 h0_8 h0_9 h3_0 h3_1 h3_2 h3_3 h3_4 h3_5 h3_6 h3_7 h3_8 h3_9 h4_0 h4_1 h4_2 h4_3 h4_4 h4_5 h4_6 h4_7 h4_8 h4_9
  else
    if h3_4 = true then
      j4_27v1 (!h4_4) h0_0 h0_1 h0_2 h0_3 h0_4 h0_5 h0_6 h0_7 h0_8 h0_9 h3_0 h3_1 h3_2 h3_3 true h3_5 h3_6 h3_7 h3_8 h3_9 h4_0 h4_1 h4_2 h4_3 h4_4 h4_5 h4_6 h4_7 h4_8 h4_9
    else
      j4_27v1 false h0_0 h0_1 h0_2 h0_3 h0_4 h0_5 h0_6 h0_7 h0_8 h0_9 h3_0 h3_1 h3_2 h3_3 false h3_5 h3_6 h3_7 h3_8 h3_9 h4_0 h4_1 h4_2 h4_3 h4_4 h4_5 h4_6 h4_7 h4_8 h4_9
theorem j4_26r34v1_t (t107 h0_0 : Bool) (h0_1 h0_2 : Bool) (h0_3 h0_4 h0_5 : Bool) (h0_6 h0_7 : Int) (h0_8 h0_9 : Int) (h3_0 h3_1 : Bool) (h3_2 h3_3 : Bool) (h3_4 h3_5 : Bool) (h3_6 h3_7 : Int) (h3_8 h3_9 : Int) (h4_0 h4_1 : Bool) (h4_2 h4_3 : Bool) (h4_4 h4_5 : Bool) (h4_6 h4_7 : Int) (h4_8 h4_9 : Int) (g1 g2 : Ob) (sl : Nat → AV) (zq6 : sl 6 = .v (.c (.ptr 0 0))) (zq8 : sl 8 = .v (.c (.ptr 3 0))) (zq9 : sl 9 = .v (.c (.ptr 4 0))) (zq107 : sl 107 = .v (.c (.d (.sc (.bool t107))))) :
    bodyD (E0 mm) [.tmp 4] 0 false (seqD (E0 mm) 4 0 (callW (E0 mm)) itW c4_32 (seqD (E0 mm) 4 0 (callW (E0 mm)) itW c4_27 (regD (runOps (E0 mm) (callW (E0 mm)) (opsOf c4_26) r4_26_34 ⟨sl, [.cells [.d (.sc (.bool h0_0)), .d (.sc (.bool h0_1)), .d (.sc (.bool h0_2)), .d (.sc (.bool h0_3)), .d (.sc (.bool h0_4)), .d (.sc (.bool h0_5)), .d (.sc (.int .i64 h0_6)), .d (.sc (.int .i64 h0_7)), .d (.sc (.int .i64 h0_8)), .d (.sc (.int .i64 h0_9))], g1, g2, .cells [.d (.sc (.bool h3_0)), .d (.sc (.bool h3_1)), .d (.sc (.bool h3_2)), .d (.sc (.bool h3_3)), .d (.sc (.bool h3_4)), .d (.sc (.bool h3_5)), .d (.sc (.int .i64 h3_6)), .d (.sc (.int .i64 h3_7)), .d (.sc (.int .i64 h3_8)), .d (.sc (.int .i64 h3_9))], .cells [.d (.sc (.bool h4_0)), .d (.sc (.bool h4_1)), .d (.sc (.bool h4_2)), .d (.sc (.bool h4_3)), .d (.sc (.bool h4_4)), .d (.sc (.bool h4_5)), .d (.sc (.int .i64 h4_6)), .d (.sc (.int .i64 h4_7)), .d (.sc (.int .i64 h4_8)), .d (.sc (.int .i64 h4_9))]]⟩)))) = (j4_26r34v1 t107 h0_0 h0_1 h0_2 h0_3 h0_4 h0_5 h0_6 h0_7 h0_8 h0_9 h3_0 h3_1 h3_2 h3_3 h3_4 h3_5 h3_6 h3_7 h3_8 h3_9 h4_0 h4_1 h4_2 h4_3 h4_4 h4_5 h4_6 h4_7 h4_8 h4_9).map e4 := by
  simp -implicitDefEqProofs only [j4_26r34v1, (show opsOf c4_26 = _ :: _ from rfl), (show r4_26_34 = _ :: _ from rfl), zq6, zq8, zq9, zq107, setA, setB, za, zb, zc, zd, ze, zf, zg, zh, zi, zj, zk, zl, zm, zn, zo, zp, reduceCtorEq, zE, ↓reduceIte]
  refine brB (fun yc56 => ?_) (fun yc56 => ?_)
  · simp -implicitDefEqProofs only [zq6, zq8, zq9, zq107, yc56, setA, setB, za, zb, zc, zd, ze, zf, zg, zh, zi, zj, zk, zl, zm, zn, zo, zp, reduceCtorEq, zE, ↓reduceIte]
    exact j4_27v1_t true h0_0 h0_1 h0_2 h0_3 h0_4 h0_5 h0_6 h0_7 h0_8 h0_9 h3_0 h3_1 h3_2 h3_3 h3_4 h3_5 h3_6 h3_7 h3_8 h3_9 h4_0 h4_1 h4_2 h4_3 h4_4 h4_5 h4_6 h4_7 h4_8 h4_9 _ _ _ (by exact zq6) (by exact zq8) (by exact zq9) (by rfl)
  · simp -implicitDefEqProofs only [Tryd.underlying24, sz4, ag4, zq6, zq8, zq9, zq107, yc56, setA, setB, za, zb, zc, zd, ze, zf, zg, zh, zi, zj, zk, zl, zm, zn, zo, zp, reduceCtorEq, zE, ↓reduceIte]
    refine brB (fun yc71 => ?_) (fun yc71 => ?_)
    · simp -implicitDefEqProofs only [Tryd.underlying24, sz4, ag4, zq6, zq8, zq9, zq107, yc56, yc71, setA, setB, za, zb, zc, zd, ze, zf, zg, zh, zi, zj, zk, zl, zm, zn, zo, zp, reduceCtorEq, zE, ↓reduceIte]
      exact j4_27v1_t (!h4_4) h0_0 h0_1 h0_2 h0_3 h0_4 h0_5 h0_6 h0_7 h0_8 h0_9 h3_0 h3_1 h3_2 h3_3 true h3_5 h3_6 h3_7 h3_8 h3_9 h4_0 h4_1 h4_2 h4_3 h4_4 h4_5 h4_6 h4_7 h4_8 h4_9 _ _ _ (by exact zq6) (by exact zq8) (by exact zq9) (by rfl)
    · simp -implicitDefEqProofs only [zq6, zq8, zq9, zq107, yc56, yc71, setA, setB, za, zb, zc, zd, ze, zf, zg, zh, zi, zj, zk, zl, zm, zn, zo, zp, reduceCtorEq, zE, ↓reduceIte]
      exact j4_27v1_t false h0_0 h0_1 h0_2 h0_3 h0_4 h0_5 h0_6 h0_7 h0_8 h0_9 h3_0 h3_1 h3_2 h3_3 false h3_5 h3_6 h3_7 h3_8 h3_9 h4_0 h4_1 h4_2 h4_3 h4_4 h4_5 h4_6 h4_7 h4_8 h4_9 _ _ _ (by exact zq6) (by exact zq8) (by exact zq9) (by rfl)
def j4_26r25v1 (t98 h0_0 : Bool) (h0_1 h0_2 : Bool) (h0_3 h0_4 h0_5 : Bool) (h0_6 h0_7 : Int) (h0_8 h0_9 : Int) (h3_0 h3_1 : Bool) (h3_2 h3_3 : Bool) (h3_4 h3_5 : Bool) (h3_6 h3_7 : Int) (h3_8 h3_9 : Int) (h4_0 h4_1 : Bool) (h4_2 h4_3 : Bool) (h4_4 h4_5 : Bool) (h4_6 h4_7 : Int) (h4_8 h4_9 : Int) : Option R4 :=
  if t98 = true then
    j4_26r34v1 true h0_0 h0_1 h0_2 h0_3 h0_4 h0_5 h0_6 h0_7 h0_8 h0_9 h3_0 h3_1 h3_2 h3_3 h3_4 h3_5 h3_6 h3_7 h3_8 h3_9 h4_0 h4_1 h4_2 h4_3 h4_4 h4_5 h4_6 h4_7 h4_8 h4_9
  else
    if h3_3 = true then
      j4_26r34v1 (!h4_3) h0_0 h0_1 h0_2 h0_3 h0_4 h0_5 h0_6 h0_7 h0_8 h0_9 h3_0 h3_1 h3_2 true h3_4 h3_5 h3_6 h3_7 h3_8 h3_9 h4_0 h4_1 h4_2 h4_3 h4_4 h4_5 h4_6 h4_7 h4_8 h4_9
    else
      j4_26r34v1 false h0_0 h0_1 h0_2 h0_3 h0_4 h0_5 h0_6 h0_7 h0_8 h0_9 h3_0 h3_1 h3_2 false h3_4 h3_5 h3_6 h3_7 h3_8 h3_9 h4_0 h4_1 h4_2 h4_3 h4_4 h4_5 h4_6 h4_7 h4_8 h4_9
theorem j4_26r25v1_t (t98 h0_0 : Bool) (h0_1 h0_2 : Bool) (h0_3 h0_4 h0_5 : Bool) (h0_6 h0_7 : Int) (h0_8 h0_9 : Int) (h3_0 h3_1 : Bool) (h3_2 h3_3 : Bool) (h3_4 h3_5 : Bool) (h3_6 h3_7 : Int) (h3_8 h3_9 : Int) (h4_0 h4_1 : Bool) (h4_2 h4_3 : Bool) (h4_4 h4_5 : Bool) (h4_6 h4_7 : Int) (h4_8 h4_9 : Int) (g1 g2 : Ob) (sl : Nat → AV) (zq6 : sl 6 = .v (.c (.ptr 0 0))) (zq8 : sl 8 = .v (.c (.ptr 3 0))) (zq9 : sl 9 = .v (.c (.ptr 4 0))) (zq98 : sl 98 = .v (.c (.d (.sc (.bool t98))))) :
    bodyD (E0 mm) [.tmp 4] 0 false (seqD (E0 mm) 4 0 (callW (E0 mm)) itW c4_32 (seqD (E0 mm) 4 0 (callW (E0 mm)) itW c4_27 (regD (runOps (E0 mm) (callW (E0 mm)) (opsOf c4_26) r4_26_25 ⟨sl, [.cells [.d (.sc (.bool h0_0)), .d (.sc (.bool h0_1)), .d (.sc (.bool h0_2)), .d (.sc (.bool h0_3)), .d (.sc (.bool h0_4)), .d (.sc (.bool h0_5)), .d (.sc (.int .i64 h0_6)), .d (.sc (.int .i64 h0_7)), .d (.sc (.int .i64 h0_8)), .d (.sc (.int .i64 h0_9))], g1, g2, .cells [.d (.sc (.bool h3_0)), .d (.sc (.bool h3_1)), .d (.sc (.bool h3_2)), .d (.sc (.bool h3_3)), .d (.sc (.bool h3_4)), .d (.sc (.bool h3_5)), .d (.sc (.int .i64 h3_6)), .d (.sc (.int .i64 h3_7)), .d (.sc (.int .i64 h3_8)), .d (.sc (.int .i64 h3_9))], .cells [.d (.sc (.bool h4_0)), .d (.sc (.bool h4_1)), .d (.sc (.bool h4_2)), .d (.sc (.bool h4_3)), .d (.sc (.bool h4_4)), .d (.sc (.bool h4_5)), .d (.sc (.int .i64 h4_6)), .d (.sc (.int .i64 h4_7)), .d (.sc (.int .i64 h4_8)), .d (.sc (.int .i64 h4_9))]]⟩)))) = (j4_26r25v1 t98 h0_0 h0_1 h0_2 h0_3 h0_4 h0_5 h0_6 h0_7 h0_8 h0_9 h3_0 h3_1 h3_2 h3_3 h3_4 h3_5 h3_6 h3_7 h3_8 h3_9 h4_0 h4_1 h4_2 h4_3 h4_4 h4_5 h4_6 h4_7 h4_8 h4_9).map e4 := by
  simp -implicitDefEqProofs only [j4_26r25v1, (show opsOf c4_26 = _ :: _ from rfl), (show r4_26_25 = _ :: _ :: _ :: _ :: _ :: _ :: _ :: _ :: _ :: r4_26_34 from rfl), zq6, zq8, zq9, zq98, setA, setB, za, zb, zc, zd, ze, zf, zg, zh, zi, zj, zk, zl, zm, zn, zo, zp, reduceCtorEq, zE, ↓reduceIte]
  refine brB (fun yc55 => ?_) (fun yc55 => ?_)
  · simp -implicitDefEqProofs only [zq6, zq8, zq9, zq98, yc55, setA, setB, za, zb, zc, zd, ze, zf, zg, zh, zi, zj, zk, zl, zm, zn, zo, zp, reduceCtorEq, zE, ↓reduceIte]
    exact j4_26r34v1_t true h0_0 h0_1 h0_2 h0_3 h0_4 h0_5 h0_6 h0_7 h0_8 h0_9 h3_0 h3_1 h3_2 h3_3 h3_4 h3_5 h3_6 h3_7 h3_8 h3_9 h4_0 h4_1 h4_2 h4_3 h4_4 h4_5 h4_6 h4_7 h4_8 h4_9 _ _ _ (by exact zq6) (by exact zq8) (by exact zq9) (by rfl)
  · simp -implicitDefEqProofs only [Tryd.underlying24, sz4, ag4, zq6, zq8, zq9, zq98, yc55, setA, setB, za, zb, zc, zd, ze, zf, zg, zh, zi, zj, zk, zl, zm, zn, zo, zp, reduceCtorEq, zE, ↓reduceIte]
    refine brB (fun yc72 => ?_) (fun yc72 => ?_)
    · simp -implicitDefEqProofs only [Tryd.underlying24, sz4, ag4, zq6, zq8, zq9, zq98, yc55, yc72, setA, setB, za, zb, zc, zd, ze, zf, zg, zh, zi, zj, zk, zl, zm, zn, zo, zp, reduceCtorEq, zE, ↓reduceIte]
      exact j4_26r34v1_t (!h4_3) h0_0 h0_1 h0_2 h0_3 h0_4 h0_5 h0_6 h0_7 h0_8 h0_9 h3_0 h3_1 h3_2 true h3_4 h3_5 h3_6 h3_7 h3_8 h3_9 h4_0 h4_1 h4_2 h4_3 h4_4 h4_5 h4_6 h4_7 h4_8 h4_9 _ _ _ (by exact zq6) (by exact zq8) (by exact zq9) (by rfl)
    · simp -implicitDefEqProofs only [zq6, zq8, zq9, zq98, yc55, yc72, setA, setB, za, zb, zc, zd, ze, zf, zg, zh, zi, zj, zk, zl, zm, zn, zo, zp, reduceCtorEq, zE, ↓reduceIte]
      exact j4_26r34v1_t false h0_0 h0_1 h0_2 h0_3 h0_4 h0_5 h0_6 h0_7 h0_8 h0_9 h3_0 h3_1 h3_2 false h3_4 h3_5 h3_6 h3_7 h3_8 h3_9 h4_0 h4_1 h4_2 h4_3 h4_4 h4_5 h4_6 h4_7 h4_8 h4_9 _ _ _ (by exact zq6) (by exact zq8) (by exact zq9) (by rfl)
def j4_26r16v1 (t89 h0_0 : Bool) (h0_1 h0_2 : Bool) (h0_3 h0_4 h0_5 : Bool) (h0_6 h0_7 : Int) (h0_8 h0_9 : Int) (h3_0 h3_1 : Bool) (h3_2 h3_3 : Bool) (h3_4 h3_5 : Bool) (h3_6 h3_7 : Int) (h3_8 h3_9 : Int) (h4_0 h4_1 : Bool) (h4_2 h4_3 : Bool) (h4_4 h4_5 : Bool) (h4_6 h4_7 : Int) (h4_8 h4_9 : Int) : Option R4 :=
  if t89 = true then
    j4_26r25v1 true h0_0 h0_1 h0_2 h0_3 h0_4 h0_5 h0_6 h0_7 h0_8 h0_9 h3_0 h3_1 h3_2 h3_3 h3_4 h3_5 h3_6 h3_7 h3_8 h3_9 h4_0 h4_1 h4_2 h4_3 h4_4 h4_5 h4_6 h4_7 h4_8 h4_9
  else
    if h3_2 = true then
      j4_26r25v1 (!h4_2) h0_0 h0_1 h0_2 h0_3 h0_4 h0_5 h0_6 h0_7 h0_8 h0_9 h3_0 h3_1 true h3_3 h3_4 h3_5 h3_6 h3_7 h3_8 h3_9 h4_0 h4_1 h4_2 h4_3 h4_4 h4_5 h4_6 h4_7 h4_8 h4_9
    else
      j4_26r25v1 false h0_0 h0_1 h0_2 h0_3 h0_4 h0_5 h0_6 h0_7 h0_8 h0_9 h3_0 h3_1 false h3_3 h3_4 h3_5 h3_6 h3_7 h3_8 h3_9 h4_0 h4_1 h4_2 h4_3 h4_4 h4_5 h4_6 h4_7 h4_8 h4_9
theorem j4_26r16v1_t (t89 h0_0 : Bool) (h0_1 h0_2 : Bool) (h0_3 h0_4 h0_5 : Bool) (h0_6 h0_7 : Int) (h0_8 h0_9 : Int) (h3_0 h3_1 : Bool) (h3_2 h3_3 : Bool) (h3_4 h3_5 : Bool) (h3_6 h3_7 : Int) (h3_8 h3_9 : Int) (h4_0 h4_1 : Bool) (h4_2 h4_3 : Bool) (h4_4 h4_5 : Bool) (h4_6 h4_7 : Int) (h4_8 h4_9 : Int) (g1 g2 : Ob) (sl : Nat → AV) (zq6 : sl 6 = .v (.c (.ptr 0 0))) (zq8 : sl 8 = .v (.c (.ptr 3 0))) (zq9 : sl 9 = .v (.c (.ptr 4 0))) (zq89 : sl 89 = .v (.c (.d (.sc (.bool t89))))) :
    bodyD (E0 mm) [.tmp 4] 0 false (seqD (E0 mm) 4 0 (callW (E0 mm)) itW c4_32 (seqD (E0 mm) 4 0 (callW (E0 mm)) itW c4_27 (regD (runOps (E0 mm) (callW (E0 mm)) (opsOf c4_26) r4_26_16 ⟨sl, [.cells [.d (.sc (.bool h0_0)), .d (.sc (.bool h0_1)), .d (.sc (.bool h0_2)), .d (.sc (.bool h0_3)), .d (.sc (.bool h0_4)), .d (.sc (.bool h0_5)), .d (.sc (.int .i64 h0_6)), .d (.sc (.int .i64 h0_7)), .d (.sc (.int .i64 h0_8)), .d (.sc (.int .i64 h0_9))], g1, g2, .cells [.d (.sc (.bool h3_0)), .d (.sc (.bool h3_1)), .d (.sc (.bool h3_2)), .d (.sc (.bool h3_3)), .d (.sc (.bool h3_4)), .d (.sc (.bool h3_5)), .d (.sc (.int .i64 h3_6)), .d (.sc (.int .i64 h3_7)), .d (.sc (.int .i64 h3_8)), .d (.sc (.int .i64 h3_9))], .cells [.d (.sc (.bool h4_0)), .d (.sc (.bool h4_1)), .d (.sc (.bool h4_2)), .d (.sc (.bool h4_3)), .d (.sc (.bool h4_4)), .d (.sc (.bool h4_5)), .d (.sc (.int .i64 h4_6)), .d (.sc (.int .i64 h4_7)), .d (.sc (.int .i64 h4_8)), .d (.sc (.int .i64 h4_9))]]⟩)))) = (j4_26r16v1 t89 h0_0 h0_1 h0_2 h0_3 h0_4 h0_5 h0_6 h0_7 h0_8 h0_9 h3_0 h3_1 h3_2 h3_3 h3_4 h3_5 h3_6 h3_7 h3_8 h3_9 h4_0 h4_1 h4_2 h4_3 h4_4 h4_5 h4_6 h4_7 h4_8 h4_9).map e4 := by
  simp -implicitDefEqProofs only [j4_26r16v1, (show opsOf c4_26 = _ :: _ from rfl), (show r4_26_16 = _ :: _ :: _ :: _ :: _ :: _ :: _ :: _ :: _ :: r4_26_25 from rfl), zq6, zq8, zq9, zq89, setA, setB, za, zb, zc, zd, ze, zf, zg, zh, zi, zj, zk, zl, zm, zn, zo, zp, reduceCtorEq, zE, ↓reduceIte]
  refine brB (fun yc54 => ?_) (fun yc54 => ?_)
  · simp -implicitDefEqProofs only [zq6, zq8, zq9, zq89, yc54, setA, setB, za, zb, zc, zd, ze, zf, zg, zh, zi, zj, zk, zl, zm, zn, zo, zp, reduceCtorEq, zE, ↓reduceIte]
    exact j4_26r25v1_t true h0_0 h0_1 h0_2 h0_3 h0_4 h0_5 h0_6 h0_7 h0_8 h0_9 h3_0 h3_1 h3_2 h3_3 h3_4 h3_5 h3_6 h3_7 h3_8 h3_9 h4_0 h4_1 h4_2 h4_3 h4_4 h4_5 h4_6 h4_7 h4_8 h4_9 _ _ _ (by exact zq6) (by exact zq8) (by exact zq9) (by rfl)
  · simp -implicitDefEqProofs only [Tryd.underlying24, sz4, ag4, zq6, zq8, zq9, zq89, yc54, setA, setB, za, zb, zc, zd, ze, zf, zg, zh, zi, zj, zk, zl, zm, zn, zo, zp, reduceCtorEq, zE, ↓reduceIte]
    refine brB (fun yc73 => ?_) (fun yc73 => ?_)
    · simp -implicitDefEqProofs only [Tryd.underlying24, sz4, ag4, zq6, zq8, zq9, zq89, yc54, yc73, setA, setB, za, zb, zc, zd, ze, zf, zg, zh, zi, zj, zk, zl, zm, zn, zo, zp, reduceCtorEq, zE, ↓reduceIte]
      exact j4_26r25v1_t (!h4_2) h0_0 h0_1 h0_2 h0_3 h0_4 h0_5 h0_6 h0_7 h0_8 h0_9 h3_0 h3_1 true h3_3 h3_4 h3_5 h3_6 h3_7 h3_8 h3_9 h4_0 h4_1 h4_2 h4_3 h4_4 h4_5 h4_6 h4_7 h4_8 h4_9 _ _ _ (by exact zq6) (by exact zq8) (by exact zq9) (by rfl)
    · simp -implicitDefEqProofs only [zq6, zq8, zq9, zq89, yc54, yc73, setA, setB, za, zb, zc, zd, ze, zf, zg, zh, zi, zj, zk, zl, zm, zn, zo, zp, reduceCtorEq, zE, ↓reduceIte]
      exact j4_26r25v1_t false h0_0 h0_1 h0_2 h0_3 h0_4 h0_5 h0_6 h0_7 h0_8 h0_9 h3_0 h3_1 false h3_3 h3_4 h3_5 h3_6 h3_7 h3_8 h3_9 h4_0 h4_1 h4_2 h4_3 h4_4 h4_5 h4_6 h4_7 h4_8 h4_9 _ _ _ (by exact zq6) (by exact zq8) (by exact zq9) (by rfl)
def j4_22v1 (l0_0 : Bool) (l0_1 : List (Bs × Bs)) (all5_0 : Bool) (all5_1 : List (Bs × Bs)) (h0_0 h0_1 : Bool) (h0_2 h0_3 : Bool) (h0_4 h0_5 : Bool) (h0_6 h0_7 : Int) (h0_8 h0_9 : Int) : Option R4 :=
  (m9 l0_0 l0_1).bind fun yr48 =>
    (m9 all5_0 all5_1).bind fun yr50 =>
      if yr48.1 = true then
        if yr50.1 = true then
          if yr48.2.1 = true then
            j4_26r16v1 (!yr50.2.1) h0_0 h0_1 h0_2 h0_3 h0_4 h0_5 h0_6 h0_7 h0_8 h0_9 true true yr48.2.2.1 yr48.2.2.2.1 yr48.2.2.2.2.1 yr48.2.2.2.2.2.1 yr48.2.2.2.2.2.2.1 yr48.2.2.2.2.2.2.2.1 yr48.2.2.2.2.2.2.2.2.1 yr48.2.2.2.2.2.2.2.2.2 true yr50.2.1 yr50.2.2.1 yr50.2.2.2.1 yr50.2.2.2.2.1 yr50.2.2.2.2.2.1 yr50.2.2.2.2.2.2.1 yr50.2.2.2.2.2.2.2.1 yr50.2.2.2.2.2.2.2.2.1 yr50.2.2.2.2.2.2.2.2.2
          else
            j4_26r16v1 false h0_0 h0_1 h0_2 h0_3 h0_4 h0_5 h0_6 h0_7 h0_8 h0_9 true false yr48.2.2.1 yr48.2.2.2.1 yr48.2.2.2.2.1 yr48.2.2.2.2.2.1 yr48.2.2.2.2.2.2.1 yr48.2.2.2.2.2.2.2.1 yr48.2.2.2.2.2.2.2.2.1 yr48.2.2.2.2.2.2.2.2.2 true yr50.2.1 yr50.2.2.1 yr50.2.2.2.1 yr50.2.2.2.2.1 yr50.2.2.2.2.2.1 yr50.2.2.2.2.2.2.1 yr50.2.2.2.2.2.2.2.1 yr50.2.2.2.2.2.2.2.2.1 yr50.2.2.2.2.2.2.2.2.2
        else
          j4_26r16v1 true h0_0 h0_1 h0_2 h0_3 h0_4 h0_5 h0_6 h0_7 h0_8 h0_9 true yr48.2.1 yr48.2.2.1 yr48.2.2.2.1 yr48.2.2.2.2.1 yr48.2.2.2.2.2.1 yr48.2.2.2.2.2.2.1 yr48.2.2.2.2.2.2.2.1 yr48.2.2.2.2.2.2.2.2.1 yr48.2.2.2.2.2.2.2.2.2 false yr50.2.1 yr50.2.2.1 yr50.2.2.2.1 yr50.2.2.2.2.1 yr50.2.2.2.2.2.1 yr50.2.2.2.2.2.2.1 yr50.2.2.2.2.2.2.2.1 yr50.2.2.2.2.2.2.2.2.1 yr50.2.2.2.2.2.2.2.2.2
      else
        if yr48.2.1 = true then
          j4_26r16v1 (!yr50.2.1) h0_0 h0_1 h0_2 h0_3 h0_4 h0_5 h0_6 h0_7 h0_8 h0_9 false true yr48.2.2.1 yr48.2.2.2.1 yr48.2.2.2.2.1 yr48.2.2.2.2.2.1 yr48.2.2.2.2.2.2.1 yr48.2.2.2.2.2.2.2.1 yr48.2.2.2.2.2.2.2.2.1 yr48.2.2.2.2.2.2.2.2.2 yr50.1 yr50.2.1 yr50.2.2.1 yr50.2.2.2.1 yr50.2.2.2.2.1 yr50.2.2.2.2.2.1 yr50.2.2.2.2.2.2.1 yr50.2.2.2.2.2.2.2.1 yr50.2.2.2.2.2.2.2.2.1 yr50.2.2.2.2.2.2.2.2.2
        else
          j4_26r16v1 false h0_0 h0_1 h0_2 h0_3 h0_4 h0_5 h0_6 h0_7 h0_8 h0_9 false false yr48.2.2.1 yr48.2.2.2.1 yr48.2.2.2.2.1 yr48.2.2.2.2.2.1 yr48.2.2.2.2.2.2.1 yr48.2.2.2.2.2.2.2.1 yr48.2.2.2.2.2.2.2.2.1 yr48.2.2.2.2.2.2.2.2.2 yr50.1 yr50.2.1 yr50.2.2.1 yr50.2.2.2.1 yr50.2.2.2.2.1 yr50.2.2.2.2.2.1 yr50.2.2.2.2.2.2.1 yr50.2.2.2.2.2.2.2.1 yr50.2.2.2.2.2.2.2.2.1 yr50.2.2.2.2.2.2.2.2.2
theorem j4_22v1_t (l0_0 : Bool) (l0_1 : List (Bs × Bs)) (all5_0 : Bool) (all5_1 : List (Bs × Bs)) (h0_0 h0_1 : Bool) (h0_2 h0_3 : Bool) (h0_4 h0_5 : Bool) (h0_6 h0_7 : Int) (h0_8 h0_9 : Int) (g1 g2 : Ob) (sl : Nat → AV) (zq0 : sl 0 = .v (.c (.d (.lst l0_0 (enL enSS l0_1))))) (zq5 : sl 5 = .v (.c (.d (.lst all5_0 (enL enSS all5_1))))) (zq6 : sl 6 = .v (.c (.ptr 0 0))) :
    bodyD (E0 mm) [.tmp 4] 0 false (den (E0 mm) 4 0 (callW (E0 mm)) itW c4_22 none ⟨sl, [.cells [.d (.sc (.bool h0_0)), .d (.sc (.bool h0_1)), .d (.sc (.bool h0_2)), .d (.sc (.bool h0_3)), .d (.sc (.bool h0_4)), .d (.sc (.bool h0_5)), .d (.sc (.int .i64 h0_6)), .d (.sc (.int .i64 h0_7)), .d (.sc (.int .i64 h0_8)), .d (.sc (.int .i64 h0_9))], g1, g2]⟩) = (j4_22v1 l0_0 l0_1 all5_0 all5_1 h0_0 h0_1 h0_2 h0_3 h0_4 h0_5 h0_6 h0_7 h0_8 h0_9).map e4 := by
  simp -implicitDefEqProofs only [j4_22v1, c4_22_e, c4_23_r, (show opsOf c4_23 = _ :: _ from rfl), ent9, prm9, f9_t, zq0, zq5, zq6, setA, setB, za, zb, zc, zd, ze, zf, zg, zh, zi, zj, zk, zl, zm, zn, zo, zp, reduceCtorEq, zE, ↓reduceIte]
  refine brM (fun yc47 => ?_) (fun yr48 yc47 => ?_)
  · rw [yc47]; rfl
  · simp -implicitDefEqProofs only [e9, ent9, prm9, f9_t, zq0, zq5, zq6, yc47, setA, setB, za, zb, zc, zd, ze, zf, zg, zh, zi, zj, zk, zl, zm, zn, zo, zp, reduceCtorEq, zE, ↓reduceIte]
    refine brM (fun yc49 => ?_) (fun yr50 yc49 => ?_)
    · rw [yc49]; rfl
    · simp -implicitDefEqProofs only [e9, zc24, ao65, sz24, c4_24_e, c4_25_e, c4_26_r, (show opsOf c4_26 = _ :: _ :: _ :: _ :: _ :: _ :: _ :: _ :: _ :: _ :: _ :: _ :: _ :: _ :: _ :: _ :: r4_26_16 from rfl), Tryd.underlying24, sz4, ag4, zq0, zq5, zq6, yc47, yc49, setA, setB, za, zb, zc, zd, ze, zf, zg, zh, zi, zj, zk, zl, zm, zn, zo, zp, reduceCtorEq, zE, ↓reduceIte]
      refine brB (fun yc51 => ?_) (fun yc51 => ?_)
      · simp -implicitDefEqProofs only [Tryd.underlying24, sz4, ag4, zq0, zq5, zq6, yc47, yc49, yc51, setA, setB, za, zb, zc, zd, ze, zf, zg, zh, zi, zj, zk, zl, zm, zn, zo, zp, reduceCtorEq, zE, ↓reduceIte]
        refine brB (fun yc52 => ?_) (fun yc52 => ?_)
        · simp -implicitDefEqProofs only [Tryd.underlying24, sz4, ag4, zq0, zq5, zq6, yc47, yc49, yc51, yc52, setA, setB, za, zb, zc, zd, ze, zf, zg, zh, zi, zj, zk, zl, zm, zn, zo, zp, reduceCtorEq, zE, ↓reduceIte]
          refine brB (fun yc53 => ?_) (fun yc53 => ?_)
          · simp -implicitDefEqProofs only [Tryd.underlying24, sz4, ag4, zq0, zq5, zq6, yc47, yc49, yc51, yc52, yc53, setA, setB, za, zb, zc, zd, ze, zf, zg, zh, zi, zj, zk, zl, zm, zn, zo, zp, reduceCtorEq, zE, ↓reduceIte]
            exact j4_26r16v1_t (!yr50.2.1) h0_0 h0_1 h0_2 h0_3 h0_4 h0_5 h0_6 h0_7 h0_8 h0_9 true true yr48.2.2.1 yr48.2.2.2.1 yr48.2.2.2.2.1 yr48.2.2.2.2.2.1 yr48.2.2.2.2.2.2.1 yr48.2.2.2.2.2.2.2.1 yr48.2.2.2.2.2.2.2.2.1 yr48.2.2.2.2.2.2.2.2.2 true yr50.2.1 yr50.2.2.1 yr50.2.2.2.1 yr50.2.2.2.2.1 yr50.2.2.2.2.2.1 yr50.2.2.2.2.2.2.1 yr50.2.2.2.2.2.2.2.1 yr50.2.2.2.2.2.2.2.2.1 yr50.2.2.2.2.2.2.2.2.2 _ _ _ (by exact zq6) (by rfl) (by rfl) (by rfl)
          · simp -implicitDefEqProofs only [zq0, zq5, zq6, yc47, yc49, yc51, yc52, yc53, setA, setB, za, zb, zc, zd, ze, zf, zg, zh, zi, zj, zk, zl, zm, zn, zo, zp, reduceCtorEq, zE, ↓reduceIte]
            exact j4_26r16v1_t false h0_0 h0_1 h0_2 h0_3 h0_4 h0_5 h0_6 h0_7 h0_8 h0_9 true false yr48.2.2.1 yr48.2.2.2.1 yr48.2.2.2.2.1 yr48.2.2.2.2.2.1 yr48.2.2.2.2.2.2.1 yr48.2.2.2.2.2.2.2.1 yr48.2.2.2.2.2.2.2.2.1 yr48.2.2.2.2.2.2.2.2.2 true yr50.2.1 yr50.2.2.1 yr50.2.2.2.1 yr50.2.2.2.2.1 yr50.2.2.2.2.2.1 yr50.2.2.2.2.2.2.1 yr50.2.2.2.2.2.2.2.1 yr50.2.2.2.2.2.2.2.2.1 yr50.2.2.2.2.2.2.2.2.2 _ _ _ (by exact zq6) (by rfl) (by rfl) (by rfl)
        · simp -implicitDefEqProofs only [zq0, zq5, zq6, yc47, yc49, yc51, yc52, setA, setB, za, zb, zc, zd, ze, zf, zg, zh, zi, zj, zk, zl, zm, zn, zo, zp, reduceCtorEq, zE, ↓reduceIte]
          exact j4_26r16v1_t true h0_0 h0_1 h0_2 h0_3 h0_4 h0_5 h0_6 h0_7 h0_8 h0_9 true yr48.2.1 yr48.2.2.1 yr48.2.2.2.1 yr48.2.2.2.2.1 yr48.2.2.2.2.2.1 yr48.2.2.2.2.2.2.1 yr48.2.2.2.2.2.2.2.1 yr48.2.2.2.2.2.2.2.2.1 yr48.2.2.2.2.2.2.2.2.2 false yr50.2.1 yr50.2.2.1 yr50.2.2.2.1 yr50.2.2.2.2.1 yr50.2.2.2.2.2.1 yr50.2.2.2.2.2.2.1 yr50.2.2.2.2.2.2.2.1 yr50.2.2.2.2.2.2.2.2.1 yr50.2.2.2.2.2.2.2.2.2 _ _ _ (by exact zq6) (by rfl) (by rfl) (by rfl)
      · simp -implicitDefEqProofs only [Tryd.underlying24, sz4, ag4, zq0, zq5, zq6, yc47, yc49, yc51, setA, setB, za, zb, zc, zd, ze, zf, zg, zh, zi, zj, zk, zl, zm, zn, zo, zp, reduceCtorEq, zE, ↓reduceIte]
        refine brB (fun yc74 => ?_) (fun yc74 => ?_)
        · simp -implicitDefEqProofs only [Tryd.underlying24, sz4, ag4, zq0, zq5, zq6, yc47, yc49, yc51, yc74, setA, setB, za, zb, zc, zd, ze, zf, zg, zh, zi, zj, zk, zl, zm, zn, zo, zp, reduceCtorEq, zE, ↓reduceIte]
          exact j4_26r16v1_t (!yr50.2.1) h0_0 h0_1 h0_2 h0_3 h0_4 h0_5 h0_6 h0_7 h0_8 h0_9 false true yr48.2.2.1 yr48.2.2.2.1 yr48.2.2.2.2.1 yr48.2.2.2.2.2.1 yr48.2.2.2.2.2.2.1 yr48.2.2.2.2.2.2.2.1 yr48.2.2.2.2.2.2.2.2.1 yr48.2.2.2.2.2.2.2.2.2 yr50.1 yr50.2.1 yr50.2.2.1 yr50.2.2.2.1 yr50.2.2.2.2.1 yr50.2.2.2.2.2.1 yr50.2.2.2.2.2.2.1 yr50.2.2.2.2.2.2.2.1 yr50.2.2.2.2.2.2.2.2.1 yr50.2.2.2.2.2.2.2.2.2 _ _ _ (by exact zq6) (by rfl) (by rfl) (by rfl)
        · simp -implicitDefEqProofs only [zq0, zq5, zq6, yc47, yc49, yc51, yc74, setA, setB, za, zb, zc, zd, ze, zf, zg, zh, zi, zj, zk, zl, zm, zn, zo, zp, reduceCtorEq, zE, ↓reduceIte]
          exact j4_26r16v1_t false h0_0 h0_1 h0_2 h0_3 h0_4 h0_5 h0_6 h0_7 h0_8 h0_9 false false yr48.2.2.1 yr48.2.2.2.1 yr48.2.2.2.2.1 yr48.2.2.2.2.2.1 yr48.2.2.2.2.2.2.1 yr48.2.2.2.2.2.2.2.1 yr48.2.2.2.2.2.2.2.2.1 yr48.2.2.2.2.2.2.2.2.2 yr50.1 yr50.2.1 yr50.2.2.1 yr50.2.2.2.1 yr50.2.2.2.2.1 yr50.2.2.2.2.2.1 yr50.2.2.2.2.2.2.1 yr50.2.2.2.2.2.2.2.1 yr50.2.2.2.2.2.2.2.2.1 yr50.2.2.2.2.2.2.2.2.2 _ _ _ (by exact zq6) (by rfl) (by rfl) (by rfl)
def j4_17v1 (l0_0 : Bool) (l0_1 : List (Bs × Bs)) (all5_0 : Bool) (all5_1 : List (Bs × Bs)) (t69 h0_0 : Bool) (h0_1 h0_2 : Bool) (h0_3 h0_4 h0_5 : Bool) (h0_6 h0_7 : Int) (h0_8 h0_9 : Int) : Option R4 :=
  if t69 = true then
    some false
  else
    j4_22v1 l0_0 l0_1 all5_0 all5_1 h0_0 h0_1 h0_2 h0_3 h0_4 h0_5 h0_6 h0_7 h0_8 h0_9
theorem j4_17v1_t (l0_0 : Bool) (l0_1 : List (Bs × Bs)) (all5_0 : Bool) (all5_1 : List (Bs × Bs)) (t69 h0_0 : Bool) (h0_1 h0_2 : Bool) (h0_3 h0_4 h0_5 : Bool) (h0_6 h0_7 : Int) (h0_8 h0_9 : Int) (g1 g2 : Ob) (sl : Nat → AV) (zq0 : sl 0 = .v (.c (.d (.lst l0_0 (enL enSS l0_1))))) (zq5 : sl 5 = .v (.c (.d (.lst all5_0 (enL enSS all5_1))))) (zq6 : sl 6 = .v (.c (.ptr 0 0))) (zq69 : sl 69 = .v (.c (.d (.sc (.bool t69))))) :
    bodyD (E0 mm) [.tmp 4] 0 false (seqD (E0 mm) 4 0 (callW (E0 mm)) itW c4_22 (den (E0 mm) 4 0 (callW (E0 mm)) itW c4_17 none ⟨sl, [.cells [.d (.sc (.bool h0_0)), .d (.sc (.bool h0_1)), .d (.sc (.bool h0_2)), .d (.sc (.bool h0_3)), .d (.sc (.bool h0_4)), .d (.sc (.bool h0_5)), .d (.sc (.int .i64 h0_6)), .d (.sc (.int .i64 h0_7)), .d (.sc (.int .i64 h0_8)), .d (.sc (.int .i64 h0_9))], g1, g2]⟩)) = (j4_17v1 l0_0 l0_1 all5_0 all5_1 t69 h0_0 h0_1 h0_2 h0_3 h0_4 h0_5 h0_6 h0_7 h0_8 h0_9).map e4 := by
  simp -implicitDefEqProofs only [j4_17v1, (show c4_17 = Code.cond _ c4_18 c4_21 from rfl), zq0, zq5, zq6, zq69, setA, setB, za, zb, zc, zd, ze, zf, zg, zh, zi, zj, zk, zl, zm, zn, zo, zp, reduceCtorEq, zE, ↓reduceIte]
  refine brB (fun yc46 => ?_) (fun yc46 => ?_)
  · simp -implicitDefEqProofs only [c4_18_e, c4_19_r, (show opsOf c4_19 = _ :: _ from rfl), c4_20_e, zq0, zq5, zq6, zq69, yc46, setA, setB, za, zb, zc, zd, ze, zf, zg, zh, zi, zj, zk, zl, zm, zn, zo, zp, reduceCtorEq, zE, ↓reduceIte]
    all_goals rfl
  · simp -implicitDefEqProofs only [c4_21_e, zq0, zq5, zq6, zq69, yc46, setA, setB, za, zb, zc, zd, ze, zf, zg, zh, zi, zj, zk, zl, zm, zn, zo, zp, reduceCtorEq, zE, ↓reduceIte]
    exact j4_22v1_t l0_0 l0_1 all5_0 all5_1 h0_0 h0_1 h0_2 h0_3 h0_4 h0_5 h0_6 h0_7 h0_8 h0_9 _ _ _ (by exact zq0) (by exact zq5) (by exact zq6)
def j4_14 (l0_0 : Bool) (l0_1 : List (Bs × Bs)) (all5_0 : Bool) (all5_1 : List (Bs × Bs)) (h0_0 h0_1 : Bool) (h0_2 h0_3 : Bool) (h0_4 h0_5 : Bool) (h0_6 h0_7 : Int) (h0_8 h0_9 : Int) (h1_0 h1_1 : Bool) (h1_2 h1_3 : Bool) (h1_4 h1_5 : Bool) (h1_6 h1_7 : Int) (h1_8 h1_9 : Int) : Option R4 :=
  if h0_1 = true then
    if h1_1 = true then
      j4_17 l0_0 l0_1 all5_0 all5_1 false h0_0 true h0_2 h0_3 h0_4 h0_5 h0_6 h0_7 h0_8 h0_9
    else
      (m14 l0_0 l0_1 ([112, 114, 97, 103, 109, 97] : Bs)).bind fun yr45 =>
        j4_17v1 l0_0 l0_1 all5_0 all5_1 ((yr45.2.length : Int) == 0) h0_0 true h0_2 h0_3 h0_4 h0_5 h0_6 h0_7 h0_8 h0_9
  else
    j4_17 l0_0 l0_1 all5_0 all5_1 false h0_0 false h0_2 h0_3 h0_4 h0_5 h0_6 h0_7 h0_8 h0_9
theorem j4_14_t (l0_0 : Bool) (l0_1 : List (Bs × Bs)) (all5_0 : Bool) (all5_1 : List (Bs × Bs)) (h0_0 h0_1 : Bool) (h0_2 h0_3 : Bool) (h0_4 h0_5 : Bool) (h0_6 h0_7 : Int) (h0_8 h0_9 : Int) (h1_0 h1_1 : Bool) (h1_2 h1_3 : Bool) (h1_4 h1_5 : Bool) (h1_6 h1_7 : Int) (h1_8 h1_9 : Int)  (sl : Nat → AV) (zq0 : sl 0 = .v (.c (.d (.lst l0_0 (enL enSS l0_1))))) (zq5 : sl 5 = .v (.c (.d (.lst all5_0 (enL enSS all5_1))))) (zq6 : sl 6 = .v (.c (.ptr 0 0))) (zq7 : sl 7 = .v (.c (.ptr 1 0))) :
    bodyD (E0 mm) [.tmp 4] 0 false (den (E0 mm) 4 0 (callW (E0 mm)) itW c4_14 none ⟨sl, [.cells [.d (.sc (.bool h0_0)), .d (.sc (.bool h0_1)), .d (.sc (.bool h0_2)), .d (.sc (.bool h0_3)), .d (.sc (.bool h0_4)), .d (.sc (.bool h0_5)), .d (.sc (.int .i64 h0_6)), .d (.sc (.int .i64 h0_7)), .d (.sc (.int .i64 h0_8)), .d (.sc (.int .i64 h0_9))], .cells [.d (.sc (.bool h1_0)), .d (.sc (.bool h1_1)), .d (.sc (.bool h1_2)), .d (.sc (.bool h1_3)), .d (.sc (.bool h1_4)), .d (.sc (.bool h1_5)), .d (.sc (.int .i64 h1_6)), .d (.sc (.int .i64 h1_7)), .d (.sc (.int .i64 h1_8)), .d (.sc (.int .i64 h1_9))]]⟩) = (j4_14 l0_0 l0_1 all5_0 all5_1 h0_0 h0_1 h0_2 h0_3 h0_4 h0_5 h0_6 h0_7 h0_8 h0_9 h1_0 h1_1 h1_2 h1_3 h1_4 h1_5 h1_6 h1_7 h1_8 h1_9).map e4 := by
  simp -implicitDefEqProofs only [j4_14, c4_14_e, c4_15_e, c4_16_r, (show opsOf c4_16 = _ :: _ from rfl), Tryd.underlying24, sz4, ag4, zq0, zq5, zq6, zq7, setA, setB, za, zb, zc, zd, ze, zf, zg, zh, zi, zj, zk, zl, zm, zn, zo, zp, reduceCtorEq, zE, ↓reduceIte]
  refine brB (fun yc13 => ?_) (fun yc13 => ?_)
  · simp -implicitDefEqProofs only [Tryd.underlying24, sz4, ag4, zq0, zq5, zq6, zq7, yc13, setA, setB, za, zb, zc, zd, ze, zf, zg, zh, zi, zj, zk, zl, zm, zn, zo, zp, reduceCtorEq, zE, ↓reduceIte]
    refine brB (fun yc14 => ?_) (fun yc14 => ?_)
    · simp -implicitDefEqProofs only [zq0, zq5, zq6, zq7, yc13, yc14, setA, setB, za, zb, zc, zd, ze, zf, zg, zh, zi, zj, zk, zl, zm, zn, zo, zp, reduceCtorEq, zE, ↓reduceIte]
      exact j4_17_t l0_0 l0_1 all5_0 all5_1 false h0_0 true h0_2 h0_3 h0_4 h0_5 h0_6 h0_7 h0_8 h0_9 _ _ (by exact zq0) (by exact zq5) (by exact zq6) (by rfl)
    · simp -implicitDefEqProofs only [ent14, prm14, (show callW (E0 mm) 14 [.c (.d (.lst l0_0 (enL enSS l0_1))), .c (.d (.sc (.string (S ([112, 114, 97, 103, 109, 97] : Bs)))))] [] = _ from f14_t l0_0 l0_1 ([112, 114, 97, 103, 109, 97] : Bs)), zq0, zq5, zq6, zq7, yc13, yc14, setA, setB, za, zb, zc, zd, ze, zf, zg, zh, zi, zj, zk, zl, zm, zn, zo, zp, reduceCtorEq, zE, ↓reduceIte]
      refine brM (fun yc44 => ?_) (fun yr45 yc44 => ?_)
      · rw [yc44]; rfl
      · simp -implicitDefEqProofs only [e14, Tryd.underlying30, zq0, zq5, zq6, zq7, yc13, yc14, yc44, setA, setB, za, zb, zc, zd, ze, zf, zg, zh, zi, zj, zk, zl, zm, zn, zo, zp, reduceCtorEq, zE, ↓reduceIte]
        exact j4_17v1_t l0_0 l0_1 all5_0 all5_1 ((yr45.2.length : Int) == 0) h0_0 true h0_2 h0_3 h0_4 h0_5 h0_6 h0_7 h0_8 h0_9 _ _ _ (by exact zq0) (by exact zq5) (by exact zq6) (by rfl)
  · simp -implicitDefEqProofs only [zq0, zq5, zq6, zq7, yc13, setA, setB, za, zb, zc, zd, ze, zf, zg, zh, zi, zj, zk, zl, zm, zn, zo, zp, reduceCtorEq, zE, ↓reduceIte]
    exact j4_17_t l0_0 l0_1 all5_0 all5_1 false h0_0 false h0_2 h0_3 h0_4 h0_5 h0_6 h0_7 h0_8 h0_9 _ _ (by exact zq0) (by exact zq5) (by exact zq6) (by rfl)
def j4_9 (l0_0 : Bool) (l0_1 : List (Bs × Bs)) (all5_0 : Bool) (all5_1 : List (Bs × Bs)) (t56 h0_0 : Bool) (h0_1 h0_2 : Bool) (h0_3 h0_4 h0_5 : Bool) (h0_6 h0_7 : Int) (h0_8 h0_9 : Int) (h1_0 h1_1 : Bool) (h1_2 h1_3 : Bool) (h1_4 h1_5 : Bool) (h1_6 h1_7 : Int) (h1_8 h1_9 : Int) : Option R4 :=
  if t56 = true then
    some false
  else
    j4_14 l0_0 l0_1 all5_0 all5_1 h0_0 h0_1 h0_2 h0_3 h0_4 h0_5 h0_6 h0_7 h0_8 h0_9 h1_0 h1_1 h1_2 h1_3 h1_4 h1_5 h1_6 h1_7 h1_8 h1_9
theorem j4_9_t (l0_0 : Bool) (l0_1 : List (Bs × Bs)) (all5_0 : Bool) (all5_1 : List (Bs × Bs)) (t56 h0_0 : Bool) (h0_1 h0_2 : Bool) (h0_3 h0_4 h0_5 : Bool) (h0_6 h0_7 : Int) (h0_8 h0_9 : Int) (h1_0 h1_1 : Bool) (h1_2 h1_3 : Bool) (h1_4 h1_5 : Bool) (h1_6 h1_7 : Int) (h1_8 h1_9 : Int)  (sl : Nat → AV) (zq0 : sl 0 = .v (.c (.d (.lst l0_0 (enL enSS l0_1))))) (zq5 : sl 5 = .v (.c (.d (.lst all5_0 (enL enSS all5_1))))) (zq6 : sl 6 = .v (.c (.ptr 0 0))) (zq7 : sl 7 = .v (.c (.ptr 1 0))) (zq56 : sl 56 = .v (.c (.d (.sc (.bool t56))))) :
    bodyD (E0 mm) [.tmp 4] 0 false (seqD (E0 mm) 4 0 (callW (E0 mm)) itW c4_14 (den (E0 mm) 4 0 (callW (E0 mm)) itW c4_9 none ⟨sl, [.cells [.d (.sc (.bool h0_0)), .d (.sc (.bool h0_1)), .d (.sc (.bool h0_2)), .d (.sc (.bool h0_3)), .d (.sc (.bool h0_4)), .d (.sc (.bool h0_5)), .d (.sc (.int .i64 h0_6)), .d (.sc (.int .i64 h0_7)), .d (.sc (.int .i64 h0_8)), .d (.sc (.int .i64 h0_9))], .cells [.d (.sc (.bool h1_0)), .d (.sc (.bool h1_1)), .d (.sc (.bool h1_2)), .d (.sc (.bool h1_3)), .d (.sc (.bool h1_4)), .d (.sc (.bool h1_5)), .d (.sc (.int .i64 h1_6)), .d (.sc (.int .i64 h1_7)), .d (.sc (.int .i64 h1_8)), .d (.sc (.int .i64 h1_9))]]⟩)) = (j4_9 l0_0 l0_1 all5_0 all5_1 t56 h0_0 h0_1 h0_2 h0_3 h0_4 h0_5 h0_6 h0_7 h0_8 h0_9 h1_0 h1_1 h1_2 h1_3 h1_4 h1_5 h1_6 h1_7 h1_8 h1_9).map e4 := by
  simp -implicitDefEqProofs only [j4_9, (show c4_9 = Code.cond _ c4_10 c4_13 from rfl), zq0, zq5, zq6, zq7, zq56, setA, setB, za, zb, zc, zd, ze, zf, zg, zh, zi, zj, zk, zl, zm, zn, zo, zp, reduceCtorEq, zE, ↓reduceIte]
  refine brB (fun yc12 => ?_) (fun yc12 => ?_)
  · simp -implicitDefEqProofs only [c4_10_e, c4_11_r, (show opsOf c4_11 = _ :: _ from rfl), c4_12_e, zq0, zq5, zq6, zq7, zq56, yc12, setA, setB, za, zb, zc, zd, ze, zf, zg, zh, zi, zj, zk, zl, zm, zn, zo, zp, reduceCtorEq, zE, ↓reduceIte]
    all_goals rfl
  · simp -implicitDefEqProofs only [c4_13_e, zq0, zq5, zq6, zq7, zq56, yc12, setA, setB, za, zb, zc, zd, ze, zf, zg, zh, zi, zj, zk, zl, zm, zn, zo, zp, reduceCtorEq, zE, ↓reduceIte]
    exact j4_14_t l0_0 l0_1 all5_0 all5_1 h0_0 h0_1 h0_2 h0_3 h0_4 h0_5 h0_6 h0_7 h0_8 h0_9 h1_0 h1_1 h1_2 h1_3 h1_4 h1_5 h1_6 h1_7 h1_8 h1_9 _ (by exact zq0) (by exact zq5) (by exact zq6) (by exact zq7)
def j4_8r32 (l0_0 : Bool) (l0_1 : List (Bs × Bs)) (all5_0 : Bool) (all5_1 : List (Bs × Bs)) (t49 h0_0 : Bool) (h0_1 h0_2 : Bool) (h0_3 h0_4 h0_5 : Bool) (h0_6 h0_7 : Int) (h0_8 h0_9 : Int) (h1_0 h1_1 : Bool) (h1_2 h1_3 : Bool) (h1_4 h1_5 : Bool) (h1_6 h1_7 : Int) (h1_8 h1_9 : Int) : Option R4 :=
  if t49 = true then
    j4_9 l0_0 l0_1 all5_0 all5_1 true h0_0 h0_1 h0_2 h0_3 h0_4 h0_5 h0_6 h0_7 h0_8 h0_9 h1_0 h1_1 h1_2 h1_3 h1_4 h1_5 h1_6 h1_7 h1_8 h1_9
  else
    j4_9 l0_0 l0_1 all5_0 all5_1 (decide (h1_8 < h0_8)) h0_0 h0_1 h0_2 h0_3 h0_4 h0_5 h0_6 h0_7 h0_8 h0_9 h1_0 h1_1 h1_2 h1_3 h1_4 h1_5 h1_6 h1_7 h1_8 h1_9
theorem j4_8r32_t (l0_0 : Bool) (l0_1 : List (Bs × Bs)) (all5_0 : Bool) (all5_1 : List (Bs × Bs)) (t49 h0_0 : Bool) (h0_1 h0_2 : Bool) (h0_3 h0_4 h0_5 : Bool) (h0_6 h0_7 : Int) (h0_8 h0_9 : Int) (h1_0 h1_1 : Bool) (h1_2 h1_3 : Bool) (h1_4 h1_5 : Bool) (h1_6 h1_7 : Int) (h1_8 h1_9 : Int)  (sl : Nat → AV) (zq0 : sl 0 = .v (.c (.d (.lst l0_0 (enL enSS l0_1))))) (zq5 : sl 5 = .v (.c (.d (.lst all5_0 (enL enSS all5_1))))) (zq6 : sl 6 = .v (.c (.ptr 0 0))) (zq7 : sl 7 = .v (.c (.ptr 1 0))) (zq49 : sl 49 = .v (.c (.d (.sc (.bool t49))))) :
    bodyD (E0 mm) [.tmp 4] 0 false (seqD (E0 mm) 4 0 (callW (E0 mm)) itW c4_14 (seqD (E0 mm) 4 0 (callW (E0 mm)) itW c4_9 (regD (runOps (E0 mm) (callW (E0 mm)) (opsOf c4_8) r4_8_32 ⟨sl, [.cells [.d (.sc (.bool h0_0)), .d (.sc (.bool h0_1)), .d (.sc (.bool h0_2)), .d (.sc (.bool h0_3)), .d (.sc (.bool h0_4)), .d (.sc (.bool h0_5)), .d (.sc (.int .i64 h0_6)), .d (.sc (.int .i64 h0_7)), .d (.sc (.int .i64 h0_8)), .d (.sc (.int .i64 h0_9))], .cells [.d (.sc (.bool h1_0)), .d (.sc (.bool h1_1)), .d (.sc (.bool h1_2)), .d (.sc (.bool h1_3)), .d (.sc (.bool h1_4)), .d (.sc (.bool h1_5)), .d (.sc (.int .i64 h1_6)), .d (.sc (.int .i64 h1_7)), .d (.sc (.int .i64 h1_8)), .d (.sc (.int .i64 h1_9))]]⟩)))) = (j4_8r32 l0_0 l0_1 all5_0 all5_1 t49 h0_0 h0_1 h0_2 h0_3 h0_4 h0_5 h0_6 h0_7 h0_8 h0_9 h1_0 h1_1 h1_2 h1_3 h1_4 h1_5 h1_6 h1_7 h1_8 h1_9).map e4 := by
  simp -implicitDefEqProofs only [j4_8r32, (show opsOf c4_8 = _ :: _ from rfl), (show r4_8_32 = _ :: _ from rfl), zq0, zq5, zq6, zq7, zq49, setA, setB, za, zb, zc, zd, ze, zf, zg, zh, zi, zj, zk, zl, zm, zn, zo, zp, reduceCtorEq, zE, ↓reduceIte]
  refine brB (fun yc11 => ?_) (fun yc11 => ?_)
  · simp -implicitDefEqProofs only [zq0, zq5, zq6, zq7, zq49, yc11, setA, setB, za, zb, zc, zd, ze, zf, zg, zh, zi, zj, zk, zl, zm, zn, zo, zp, reduceCtorEq, zE, ↓reduceIte]
    exact j4_9_t l0_0 l0_1 all5_0 all5_1 true h0_0 h0_1 h0_2 h0_3 h0_4 h0_5 h0_6 h0_7 h0_8 h0_9 h1_0 h1_1 h1_2 h1_3 h1_4 h1_5 h1_6 h1_7 h1_8 h1_9 _ (by exact zq0) (by exact zq5) (by exact zq6) (by exact zq7) (by rfl)
  · simp -implicitDefEqProofs only [Tryd.underlying24, sz3, ag3, zq0, zq5, zq6, zq7, zq49, yc11, setA, setB, za, zb, zc, zd, ze, zf, zg, zh, zi, zj, zk, zl, zm, zn, zo, zp, reduceCtorEq, zE, ↓reduceIte]
    exact j4_9_t l0_0 l0_1 all5_0 all5_1 (decide (h1_8 < h0_8)) h0_0 h0_1 h0_2 h0_3 h0_4 h0_5 h0_6 h0_7 h0_8 h0_9 h1_0 h1_1 h1_2 h1_3 h1_4 h1_5 h1_6 h1_7 h1_8 h1_9 _ (by exact zq0) (by exact zq5) (by exact zq6) (by exact zq7) (by rfl)
def j4_8r24 (l0_0 : Bool) (l0_1 : List (Bs × Bs)) (all5_0 : Bool) (all5_1 : List (Bs × Bs)) (t41 h0_0 : Bool) (h0_1 h0_2 : Bool) (h0_3 h0_4 h0_5 : Bool) (h0_6 h0_7 : Int) (h0_8 h0_9 : Int) (h1_0 h1_1 : Bool) (h1_2 h1_3 : Bool) (h1_4 h1_5 : Bool) (h1_6 h1_7 : Int) (h1_8 h1_9 : Int) : Option R4 :=
  if t41 = true then
    j4_8r32 l0_0 l0_1 all5_0 all5_1 true h0_0 h0_1 h0_2 h0_3 h0_4 h0_5 h0_6 h0_7 h0_8 h0_9 h1_0 h1_1 h1_2 h1_3 h1_4 h1_5 h1_6 h1_7 h1_8 h1_9
  else
    (m13 h1_9 h0_9).bind fun yr76 =>
      j4_8r32 l0_0 l0_1 all5_0 all5_1 (!yr76) h0_0 h0_1 h0_2 h0_3 h0_4 h0_5 h0_6 h0_7 h0_8 h0_9 h1_0 h1_1 h1_2 h1_3 h1_4 h1_5 h1_6 h1_7 h1_8 h1_9
theorem j4_8r24_t (l0_0 : Bool) (l0_1 : List (Bs × Bs)) (all5_0 : Bool) (all5_1 : List (Bs × Bs)) (t41 h0_0 : Bool) (h0_1 h0_2 : Bool) (h0_3 h0_4 h0_5 : Bool) (h0_6 h0_7 : Int) (h0_8 h0_9 : Int) (h1_0 h1_1 : Bool) (h1_2 h1_3 : Bool) (h1_4 h1_5 : Bool) (h1_6 h1_7 : Int) (h1_8 h1_9 : Int)  (sl : Nat → AV) (zq0 : sl 0 = .v (.c (.d (.lst l0_0 (enL enSS l0_1))))) (zq5 : sl 5 = .v (.c (.d (.lst all5_0 (enL enSS all5_1))))) (zq6 : sl 6 = .v (.c (.ptr 0 0))) (zq7 : sl 7 = .v (.c (.ptr 1 0))) (zq41 : sl 41 = .v (.c (.d (.sc (.bool t41))))) :
    bodyD (E0 mm) [.tmp 4] 0 false (seqD (E0 mm) 4 0 (callW (E0 mm)) itW c4_14 (seqD (E0 mm) 4 0 (callW (E0 mm)) itW c4_9 (regD (runOps (E0 mm) (callW (E0 mm)) (opsOf c4_8) r4_8_24 ⟨sl, [.cells [.d (.sc (.bool h0_0)), .d (.sc (.bool h0_1)), .d (.sc (.bool h0_2)), .d (.sc (.bool h0_3)), .d (.sc (.bool h0_4)), .d (.sc (.bool h0_5)), .d (.sc (.int .i64 h0_6)), .d (.sc (.int .i64 h0_7)), .d (.sc (.int .i64 h0_8)), .d (.sc (.int .i64 h0_9))], .cells [.d (.sc (.bool h1_0)), .d (.sc (.bool h1_1)), .d (.sc (.bool h1_2)), .d (.sc (.bool h1_3)), .d (.sc (.bool h1_4)), .d (.sc (.bool h1_5)), .d (.sc (.int .i64 h1_6)), .d (.sc (.int .i64 h1_7)), .d (.sc (.int .i64 h1_8)), .d (.sc (.int .i64 h1_9))]]⟩)))) = (j4_8r24 l0_0 l0_1 all5_0 all5_1 t41 h0_0 h0_1 h0_2 h0_3 h0_4 h0_5 h0_6 h0_7 h0_8 h0_9 h1_0 h1_1 h1_2 h1_3 h1_4 h1_5 h1_6 h1_7 h1_8 h1_9).map e4 := by
  simp -implicitDefEqProofs only [j4_8r24, (show opsOf c4_8 = _ :: _ from rfl), (show r4_8_24 = _ :: _ :: _ :: _ :: _ :: _ :: _ :: _ :: r4_8_32 from rfl), zq0, zq5, zq6, zq7, zq41, setA, setB, za, zb, zc, zd, ze, zf, zg, zh, zi, zj, zk, zl, zm, zn, zo, zp, reduceCtorEq, zE, ↓reduceIte]
  refine brB (fun yc10 => ?_) (fun yc10 => ?_)
  · simp -implicitDefEqProofs only [zq0, zq5, zq6, zq7, zq41, yc10, setA, setB, za, zb, zc, zd, ze, zf, zg, zh, zi, zj, zk, zl, zm, zn, zo, zp, reduceCtorEq, zE, ↓reduceIte]
    exact j4_8r32_t l0_0 l0_1 all5_0 all5_1 true h0_0 h0_1 h0_2 h0_3 h0_4 h0_5 h0_6 h0_7 h0_8 h0_9 h1_0 h1_1 h1_2 h1_3 h1_4 h1_5 h1_6 h1_7 h1_8 h1_9 _ (by exact zq0) (by exact zq5) (by exact zq6) (by exact zq7) (by rfl)
  · simp -implicitDefEqProofs only [Tryd.underlying24, sz3, ag3, ent13, prm13, f13_t, zq0, zq5, zq6, zq7, zq41, yc10, setA, setB, za, zb, zc, zd, ze, zf, zg, zh, zi, zj, zk, zl, zm, zn, zo, zp, reduceCtorEq, zE, ↓reduceIte]
    refine brM (fun yc75 => ?_) (fun yr76 yc75 => ?_)
    · rw [yc75]; rfl
    · simp -implicitDefEqProofs only [e13, zq0, zq5, zq6, zq7, zq41, yc10, yc75, setA, setB, za, zb, zc, zd, ze, zf, zg, zh, zi, zj, zk, zl, zm, zn, zo, zp, reduceCtorEq, zE, ↓reduceIte]
      exact j4_8r32_t l0_0 l0_1 all5_0 all5_1 (!yr76) h0_0 h0_1 h0_2 h0_3 h0_4 h0_5 h0_6 h0_7 h0_8 h0_9 h1_0 h1_1 h1_2 h1_3 h1_4 h1_5 h1_6 h1_7 h1_8 h1_9 _ (by exact zq0) (by exact zq5) (by exact zq6) (by exact zq7) (by rfl)
def j4_8r16 (l0_0 : Bool) (l0_1 : List (Bs × Bs)) (all5_0 : Bool) (all5_1 : List (Bs × Bs)) (t33 h0_0 : Bool) (h0_1 h0_2 : Bool) (h0_3 h0_4 h0_5 : Bool) (h0_6 h0_7 : Int) (h0_8 h0_9 : Int) (h1_0 h1_1 : Bool) (h1_2 h1_3 : Bool) (h1_4 h1_5 : Bool) (h1_6 h1_7 : Int) (h1_8 h1_9 : Int) : Option R4 :=
  if t33 = true then
    j4_8r24 l0_0 l0_1 all5_0 all5_1 true h0_0 h0_1 h0_2 h0_3 h0_4 h0_5 h0_6 h0_7 h0_8 h0_9 h1_0 h1_1 h1_2 h1_3 h1_4 h1_5 h1_6 h1_7 h1_8 h1_9
  else
    (m13 h1_6 h0_6).bind fun yr78 =>
      j4_8r24 l0_0 l0_1 all5_0 all5_1 (!yr78) h0_0 h0_1 h0_2 h0_3 h0_4 h0_5 h0_6 h0_7 h0_8 h0_9 h1_0 h1_1 h1_2 h1_3 h1_4 h1_5 h1_6 h1_7 h1_8 h1_9
theorem j4_8r16_t (l0_0 : Bool) (l0_1 : List (Bs × Bs)) (all5_0 : Bool) (all5_1 : List (Bs × Bs)) (t33 h0_0 : Bool) (h0_1 h0_2 : Bool) (h0_3 h0_4 h0_5 : Bool) (h0_6 h0_7 : Int) (h0_8 h0_9 : Int) (h1_0 h1_1 : Bool) (h1_2 h1_3 : Bool) (h1_4 h1_5 : Bool) (h1_6 h1_7 : Int) (h1_8 h1_9 : Int)  (sl : Nat → AV) (zq0 : sl 0 = .v (.c (.d (.lst l0_0 (enL enSS l0_1))))) (zq5 : sl 5 = .v (.c (.d (.lst all5_0 (enL enSS all5_1))))) (zq6 : sl 6 = .v (.c (.ptr 0 0))) (zq7 : sl 7 = .v (.c (.ptr 1 0))) (zq33 : sl 33 = .v (.c (.d (.sc (.bool t33))))) :
    bodyD (E0 mm) [.tmp 4] 0 false (seqD (E0 mm) 4 0 (callW (E0 mm)) itW c4_14 (seqD (E0 mm) 4 0 (callW (E0 mm)) itW c4_9 (regD (runOps (E0 mm) (callW (E0 mm)) (opsOf c4_8) r4_8_16 ⟨sl, [.cells [.d (.sc (.bool h0_0)), .d (.sc (.bool h0_1)), .d (.sc (.bool h0_2)), .d (.sc (.bool h0_3)), .d (.sc (.bool h0_4)), .d (.sc (.bool h0_5)), .d (.sc (.int .i64 h0_6)), .d (.sc (.int .i64 h0_7)), .d (.sc (.int .i64 h0_8)), .d (.sc (.int .i64 h0_9))], .cells [.d (.sc (.bool h1_0)), .d (.sc (.bool h1_1)), .d (.sc (.bool h1_2)), .d (.sc (.bool h1_3)), .d (.sc (.bool h1_4)), .d (.sc (.bool h1_5)), .d (.sc (.int .i64 h1_6)), .d (.sc (.int .i64 h1_7)), .d (.sc (.int .i64 h1_8)), .d (.sc (.int .i64 h1_9))]]⟩)))) = (j4_8r16 l0_0 l0_1 all5_0 all5_1 t33 h0_0 h0_1 h0_2 h0_3 h0_4 h0_5 h0_6 h0_7 h0_8 h0_9 h1_0 h1_1 h1_2 h1_3 h1_4 h1_5 h1_6 h1_7 h1_8 h1_9).map e4 := by
  simp -implicitDefEqProofs only [j4_8r16, (show opsOf c4_8 = _ :: _ from rfl), (show r4_8_16 = _ :: _ :: _ :: _ :: _ :: _ :: _ :: _ :: r4_8_24 from rfl), zq0, zq5, zq6, zq7, zq33, setA, setB, za, zb, zc, zd, ze, zf, zg, zh, zi, zj, zk, zl, zm, zn, zo, zp, reduceCtorEq, zE, ↓reduceIte]
  refine brB (fun yc9 => ?_) (fun yc9 => ?_)
  · simp -implicitDefEqProofs only [zq0, zq5, zq6, zq7, zq33, yc9, setA, setB, za, zb, zc, zd, ze, zf, zg, zh, zi, zj, zk, zl, zm, zn, zo, zp, reduceCtorEq, zE, ↓reduceIte]
    exact j4_8r24_t l0_0 l0_1 all5_0 all5_1 true h0_0 h0_1 h0_2 h0_3 h0_4 h0_5 h0_6 h0_7 h0_8 h0_9 h1_0 h1_1 h1_2 h1_3 h1_4 h1_5 h1_6 h1_7 h1_8 h1_9 _ (by exact zq0) (by exact zq5) (by exact zq6) (by exact zq7) (by rfl)
  · simp -implicitDefEqProofs only [Tryd.underlying24, sz3, ag3, ent13, prm13, f13_t, zq0, zq5, zq6, zq7, zq33, yc9, setA, setB, za, zb, zc, zd, ze, zf, zg, zh, zi, zj, zk, zl, zm, zn, zo, zp, reduceCtorEq, zE, ↓reduceIte]
    refine brM (fun yc77 => ?_) (fun yr78 yc77 => ?_)
    · rw [yc77]; rfl
    · simp -implicitDefEqProofs only [e13, zq0, zq5, zq6, zq7, zq33, yc9, yc77, setA, setB, za, zb, zc, zd, ze, zf, zg, zh, zi, zj, zk, zl, zm, zn, zo, zp, reduceCtorEq, zE, ↓reduceIte]
      exact j4_8r24_t l0_0 l0_1 all5_0 all5_1 (!yr78) h0_0 h0_1 h0_2 h0_3 h0_4 h0_5 h0_6 h0_7 h0_8 h0_9 h1_0 h1_1 h1_2 h1_3 h1_4 h1_5 h1_6 h1_7 h1_8 h1_9 _ (by exact zq0) (by exact zq5) (by exact zq6) (by exact zq7) (by rfl)
def j4_8r7 (l0_0 : Bool) (l0_1 : List (Bs × Bs)) (all5_0 : Bool) (all5_1 : List (Bs × Bs)) (t24 h0_0 : Bool) (h0_1 h0_2 : Bool) (h0_3 h0_4 h0_5 : Bool) (h0_6 h0_7 : Int) (h0_8 h0_9 : Int) (h1_0 h1_1 : Bool) (h1_2 h1_3 : Bool) (h1_4 h1_5 : Bool) (h1_6 h1_7 : Int) (h1_8 h1_9 : Int) : Option R4 :=
  if t24 = true then
    j4_8r16 l0_0 l0_1 all5_0 all5_1 true h0_0 h0_1 h0_2 h0_3 h0_4 h0_5 h0_6 h0_7 h0_8 h0_9 h1_0 h1_1 h1_2 h1_3 h1_4 h1_5 h1_6 h1_7 h1_8 h1_9
  else
    if h0_5 = true then
      j4_8r16 l0_0 l0_1 all5_0 all5_1 (!h1_5) h0_0 h0_1 h0_2 h0_3 h0_4 true h0_6 h0_7 h0_8 h0_9 h1_0 h1_1 h1_2 h1_3 h1_4 h1_5 h1_6 h1_7 h1_8 h1_9
    else
      j4_8r16 l0_0 l0_1 all5_0 all5_1 false h0_0 h0_1 h0_2 h0_3 h0_4 false h0_6 h0_7 h0_8 h0_9 h1_0 h1_1 h1_2 h1_3 h1_4 h1_5 h1_6 h1_7 h1_8 h1_9
theorem j4_8r7_t (l0_0 : Bool) (l0_1 : List (Bs × Bs)) (all5_0 : Bool) (all5_1 : List (Bs × Bs)) (t24 h0_0 : Bool) (h0_1 h0_2 : Bool) (h0_3 h0_4 h0_5 : Bool) (h0_6 h0_7 : Int) (h0_8 h0_9 : Int) (h1_0 h1_1 : Bool) (h1_2 h1_3 : Bool) (h1_4 h1_5 : Bool) (h1_6 h1_7 : Int) (h1_8 h1_9 : Int)  (sl : Nat → AV) (zq0 : sl 0 = .v (.c (.d (.lst l0_0 (enL enSS l0_1))))) (zq5 : sl 5 = .v (.c (.d (.lst all5_0 (enL enSS all5_1))))) (zq6 : sl 6 = .v (.c (.ptr 0 0))) (zq7 : sl 7 = .v (.c (.ptr 1 0))) (zq24 : sl 24 = .v (.c (.d (.sc (.bool t24))))) :
    bodyD (E0 mm) [.tmp 4] 0 false (seqD (E0 mm) 4 0 (callW (E0 mm)) itW c4_14 (seqD (E0 mm) 4 0 (callW (E0 mm)) itW c4_9 (regD (runOps (E0 mm) (callW (E0 mm)) (opsOf c4_8) r4_8_7 ⟨sl, [.cells [.d (.sc (.bool h0_0)), .d (.sc (.bool h0_1)), .d (.sc (.bool h0_2)), .d (.sc (.bool h0_3)), .d (.sc (.bool h0_4)), .d (.sc (.bool h0_5)), .d (.sc (.int .i64 h0_6)), .d (.sc (.int .i64 h0_7)), .d (.sc (.int .i64 h0_8)), .d (.sc (.int .i64 h0_9))], .cells [.d (.sc (.bool h1_0)), .d (.sc (.bool h1_1)), .d (.sc (.bool h1_2)), .d (.sc (.bool h1_3)), .d (.sc (.bool h1_4)), .d (.sc (.bool h1_5)), .d (.sc (.int .i64 h1_6)), .d (.sc (.int .i64 h1_7)), .d (.sc (.int .i64 h1_8)), .d (.sc (.int .i64 h1_9))]]⟩)))) = (j4_8r7 l0_0 l0_1 all5_0 all5_1 t24 h0_0 h0_1 h0_2 h0_3 h0_4 h0_5 h0_6 h0_7 h0_8 h0_9 h1_0 h1_1 h1_2 h1_3 h1_4 h1_5 h1_6 h1_7 h1_8 h1_9).map e4 := by
  simp -implicitDefEqProofs only [j4_8r7, (show opsOf c4_8 = _ :: _ from rfl), (show r4_8_7 = _ :: _ :: _ :: _ :: _ :: _ :: _ :: _ :: _ :: r4_8_16 from rfl), zq0, zq5, zq6, zq7, zq24, setA, setB, za, zb, zc, zd, ze, zf, zg, zh, zi, zj, zk, zl, zm, zn, zo, zp, reduceCtorEq, zE, ↓reduceIte]
  refine brB (fun yc8 => ?_) (fun yc8 => ?_)
  · simp -implicitDefEqProofs only [zq0, zq5, zq6, zq7, zq24, yc8, setA, setB, za, zb, zc, zd, ze, zf, zg, zh, zi, zj, zk, zl, zm, zn, zo, zp, reduceCtorEq, zE, ↓reduceIte]
    exact j4_8r16_t l0_0 l0_1 all5_0 all5_1 true h0_0 h0_1 h0_2 h0_3 h0_4 h0_5 h0_6 h0_7 h0_8 h0_9 h1_0 h1_1 h1_2 h1_3 h1_4 h1_5 h1_6 h1_7 h1_8 h1_9 _ (by exact zq0) (by exact zq5) (by exact zq6) (by exact zq7) (by rfl)
  · simp -implicitDefEqProofs only [Tryd.underlying24, sz4, ag4, zq0, zq5, zq6, zq7, zq24, yc8, setA, setB, za, zb, zc, zd, ze, zf, zg, zh, zi, zj, zk, zl, zm, zn, zo, zp, reduceCtorEq, zE, ↓reduceIte]
    refine brB (fun yc79 => ?_) (fun yc79 => ?_)
    · simp -implicitDefEqProofs only [Tryd.underlying24, sz4, ag4, zq0, zq5, zq6, zq7, zq24, yc8, yc79, setA, setB, za, zb, zc, zd, ze, zf, zg, zh, zi, zj, zk, zl, zm, zn, zo, zp, reduceCtorEq, zE, ↓reduceIte]
      exact j4_8r16_t l0_0 l0_1 all5_0 all5_1 (!h1_5) h0_0 h0_1 h0_2 h0_3 h0_4 true h0_6 h0_7 h0_8 h0_9 h1_0 h1_1 h1_2 h1_3 h1_4 h1_5 h1_6 h1_7 h1_8 h1_9 _ (by exact zq0) (by exact zq5) (by exact zq6) (by exact zq7) (by rfl)
    · simp -implicitDefEqProofs only [zq0, zq5, zq6, zq7, zq24, yc8, yc79, setA, setB, za, zb, zc, zd, ze, zf, zg, zh, zi, zj, zk, zl, zm, zn, zo, zp, reduceCtorEq, zE, ↓reduceIte]
      exact j4_8r16_t l0_0 l0_1 all5_0 all5_1 false h0_0 h0_1 h0_2 h0_3 h0_4 false h0_6 h0_7 h0_8 h0_9 h1_0 h1_1 h1_2 h1_3 h1_4 h1_5 h1_6 h1_7 h1_8 h1_9 _ (by exact zq0) (by exact zq5) (by exact zq6) (by exact zq7) (by rfl)
def j4_33r37v2 (t153 h1_0 : Bool) (h1_1 h1_2 : Bool) (h1_3 h1_4 h1_5 : Bool) (h1_6 h1_7 : Int) (h1_8 h1_9 : Int) (h3_0 h3_1 : Bool) (h3_2 h3_3 : Bool) (h3_4 h3_5 : Bool) (h3_6 h3_7 : Int) (h3_8 h3_9 : Int) : Option R4 :=
  if t153 = true then
    j4_33r42v1 (!h1_4) h3_0 h3_1 h3_2 h3_3 h3_4 h3_5 h3_6 h3_7 h3_8 h3_9
  else
    j4_33r42v1 false h3_0 h3_1 h3_2 h3_3 h3_4 h3_5 h3_6 h3_7 h3_8 h3_9
theorem j4_33r37v2_t (t153 h1_0 : Bool) (h1_1 h1_2 : Bool) (h1_3 h1_4 h1_5 : Bool) (h1_6 h1_7 : Int) (h1_8 h1_9 : Int) (h3_0 h3_1 : Bool) (h3_2 h3_3 : Bool) (h3_4 h3_5 : Bool) (h3_6 h3_7 : Int) (h3_8 h3_9 : Int) (g0 g2 g4 : Ob) (sl : Nat → AV) (zq6 : sl 6 = .v (.c (.ptr 1 0))) (zq8 : sl 8 = .v (.c (.ptr 3 0))) (zq153 : sl 153 = .v (.c (.d (.sc (.bool t153))))) :
    bodyD (E0 mm) [.tmp 4] 0 false (seqD (E0 mm) 4 0 (callW (E0 mm)) itW c4_34 (regD (runOps (E0 mm) (callW (E0 mm)) (opsOf c4_33) r4_33_37 ⟨sl, [g0, .cells [.d (.sc (.bool h1_0)), .d (.sc (.bool h1_1)), .d (.sc (.bool h1_2)), .d (.sc (.bool h1_3)), .d (.sc (.bool h1_4)), .d (.sc (.bool h1_5)), .d (.sc (.int .i64 h1_6)), .d (.sc (.int .i64 h1_7)), .d (.sc (.int .i64 h1_8)), .d (.sc (.int .i64 h1_9))], g2, .cells [.d (.sc (.bool h3_0)), .d (.sc (.bool h3_1)), .d (.sc (.bool h3_2)), .d (.sc (.bool h3_3)), .d (.sc (.bool h3_4)), .d (.sc (.bool h3_5)), .d (.sc (.int .i64 h3_6)), .d (.sc (.int .i64 h3_7)), .d (.sc (.int .i64 h3_8)), .d (.sc (.int .i64 h3_9))], g4]⟩))) = (j4_33r37v2 t153 h1_0 h1_1 h1_2 h1_3 h1_4 h1_5 h1_6 h1_7 h1_8 h1_9 h3_0 h3_1 h3_2 h3_3 h3_4 h3_5 h3_6 h3_7 h3_8 h3_9).map e4 := by
  simp -implicitDefEqProofs only [j4_33r37v2, (show opsOf c4_33 = _ :: _ from rfl), (show r4_33_37 = _ :: _ :: _ :: _ :: _ :: r4_33_42 from rfl), zq6, zq8, zq153, setA, setB, za, zb, zc, zd, ze, zf, zg, zh, zi, zj, zk, zl, zm, zn, zo, zp, reduceCtorEq, zE, ↓reduceIte]
  refine brB (fun yc115 => ?_) (fun yc115 => ?_)
  · simp -implicitDefEqProofs only [Tryd.underlying24, sz4, ag4, zq6, zq8, zq153, yc115, setA, setB, za, zb, zc, zd, ze, zf, zg, zh, zi, zj, zk, zl, zm, zn, zo, zp, reduceCtorEq, zE, ↓reduceIte]
    exact j4_33r42v1_t (!h1_4) h3_0 h3_1 h3_2 h3_3 h3_4 h3_5 h3_6 h3_7 h3_8 h3_9 _ _ _ _ _ (by exact zq8) (by rfl)
  · simp -implicitDefEqProofs only [zq6, zq8, zq153, yc115, setA, setB, za, zb, zc, zd, ze, zf, zg, zh, zi, zj, zk, zl, zm, zn, zo, zp, reduceCtorEq, zE, ↓reduceIte]
    exact j4_33r42v1_t false h3_0 h3_1 h3_2 h3_3 h3_4 h3_5 h3_6 h3_7 h3_8 h3_9 _ _ _ _ _ (by exact zq8) (by rfl)
def j4_33r32v2 (t148 h1_0 : Bool) (h1_1 h1_2 : Bool) (h1_3 h1_4 h1_5 : Bool) (h1_6 h1_7 : Int) (h1_8 h1_9 : Int) (h3_0 h3_1 : Bool) (h3_2 h3_3 : Bool) (h3_4 h3_5 : Bool) (h3_6 h3_7 : Int) (h3_8 h3_9 : Int) : Option R4 :=
  if t148 = true then
    j4_33r37v2 (!h1_3) h1_0 h1_1 h1_2 h1_3 h1_4 h1_5 h1_6 h1_7 h1_8 h1_9 h3_0 h3_1 h3_2 h3_3 h3_4 h3_5 h3_6 h3_7 h3_8 h3_9
  else
    j4_33r37v2 false h1_0 h1_1 h1_2 h1_3 h1_4 h1_5 h1_6 h1_7 h1_8 h1_9 h3_0 h3_1 h3_2 h3_3 h3_4 h3_5 h3_6 h3_7 h3_8 h3_9
theorem j4_33r32v2_t (t148 h1_0 : Bool) (h1_1 h1_2 : Bool) (h1_3 h1_4 h1_5 : Bool) (h1_6 h1_7 : Int) (h1_8 h1_9 : Int) (h3_0 h3_1 : Bool) (h3_2 h3_3 : Bool) (h3_4 h3_5 : Bool) (h3_6 h3_7 : Int) (h3_8 h3_9 : Int) (g0 g2 g4 : Ob) (sl : Nat → AV) (zq6 : sl 6 = .v (.c (.ptr 1 0))) (zq8 : sl 8 = .v (.c (.ptr 3 0))) (zq148 : sl 148 = .v (.c (.d (.sc (.bool t148))))) :
    bodyD (E0 mm) [.tmp 4] 0 false (seqD (E0 mm) 4 0 (callW (E0 mm)) itW c4_34 (regD (runOps (E0 mm) (callW (E0 mm)) (opsOf c4_33) r4_33_32 ⟨sl, [g0, .cells [.d (.sc (.bool h1_0)), .d (.sc (.bool h1_1)), .d (.sc (.bool h1_2)), .d (.sc (.bool h1_3)), .d (.sc (.bool h1_4)), .d (.sc (.bool h1_5)), .d (.sc (.int .i64 h1_6)), .d (.sc (.int .i64 h1_7)), .d (.sc (.int .i64 h1_8)), .d (.sc (.int .i64 h1_9))], g2, .cells [.d (.sc (.bool h3_0)), .d (.sc (.bool h3_1)), .d (.sc (.bool h3_2)), .d (.sc (.bool h3_3)), .d (.sc (.bool h3_4)), .d (.sc (.bool h3_5)), .d (.sc (.int .i64 h3_6)), .d (.sc (.int .i64 h3_7)), .d (.sc (.int .i64 h3_8)), .d (.sc (.int .i64 h3_9))], g4]⟩))) = (j4_33r32v2 t148 h1_0 h1_1 h1_2 h1_3 h1_4 h1_5 h1_6 h1_7 h1_8 h1_9 h3_0 h3_1 h3_2 h3_3 h3_4 h3_5 h3_6 h3_7 h3_8 h3_9).map e4 := by
  simp -implicitDefEqProofs only [j4_33r32v2, (show opsOf c4_33 = _ :: _ from rfl), (show r4_33_32 = _ :: _ :: _ :: _ :: _ :: r4_33_37 from rfl), zq6, zq8, zq148, setA, setB, za, zb, zc, zd, ze, zf, zg, zh, zi, zj, zk, zl, zm, zn, zo, zp, reduceCtorEq, zE, ↓reduceIte]
  refine brB (fun yc114 => ?_) (fun yc114 => ?_)
  · simp -implicitDefEqProofs only [Tryd.underlying24, sz4, ag4, zq6, zq8, zq148, yc114, setA, setB, za, zb, zc, zd, ze, zf, zg, zh, zi, zj, zk, zl, zm, zn, zo, zp, reduceCtorEq, zE, ↓reduceIte]
    exact j4_33r37v2_t (!h1_3) h1_0 h1_1 h1_2 h1_3 h1_4 h1_5 h1_6 h1_7 h1_8 h1_9 h3_0 h3_1 h3_2 h3_3 h3_4 h3_5 h3_6 h3_7 h3_8 h3_9 _ _ _ _ (by exact zq6) (by exact zq8) (by rfl)
  · simp -implicitDefEqProofs only [zq6, zq8, zq148, yc114, setA, setB, za, zb, zc, zd, ze, zf, zg, zh, zi, zj, zk, zl, zm, zn, zo, zp, reduceCtorEq, zE, ↓reduceIte]
    exact j4_33r37v2_t false h1_0 h1_1 h1_2 h1_3 h1_4 h1_5 h1_6 h1_7 h1_8 h1_9 h3_0 h3_1 h3_2 h3_3 h3_4 h3_5 h3_6 h3_7 h3_8 h3_9 _ _ _ _ (by exact zq6) (by exact zq8) (by rfl)
def j4_33r27v2 (t143 h1_0 : Bool) (h1_1 h1_2 : Bool) (h1_3 h1_4 h1_5 : Bool) (h1_6 h1_7 : Int) (h1_8 h1_9 : Int) (h3_0 h3_1 : Bool) (h3_2 h3_3 : Bool) (h3_4 h3_5 : Bool) (h3_6 h3_7 : Int) (h3_8 h3_9 : Int) : Option R4 :=
  if t143 = true then
    j4_33r32v2 (!h1_2) h1_0 h1_1 h1_2 h1_3 h1_4 h1_5 h1_6 h1_7 h1_8 h1_9 h3_0 h3_1 h3_2 h3_3 h3_4 h3_5 h3_6 h3_7 h3_8 h3_9
  else
    j4_33r32v2 false h1_0 h1_1 h1_2 h1_3 h1_4 h1_5 h1_6 h1_7 h1_8 h1_9 h3_0 h3_1 h3_2 h3_3 h3_4 h3_5 h3_6 h3_7 h3_8 h3_9
theorem j4_33r27v2_t (t143 h1_0 : Bool) (h1_1 h1_2 : Bool) (h1_3 h1_4 h1_5 : Bool) (h1_6 h1_7 : Int) (h1_8 h1_9 : Int) (h3_0 h3_1 : Bool) (h3_2 h3_3 : Bool) (h3_4 h3_5 : Bool) (h3_6 h3_7 : Int) (h3_8 h3_9 : Int) (g0 g2 g4 : Ob) (sl : Nat → AV) (zq6 : sl 6 = .v (.c (.ptr 1 0))) (zq8 : sl 8 = .v (.c (.ptr 3 0))) (zq143 : sl 143 = .v (.c (.d (.sc (.bool t143))))) :
    bodyD (E0 mm) [.tmp 4] 0 false (seqD (E0 mm) 4 0 (callW (E0 mm)) itW c4_34 (regD (runOps (E0 mm) (callW (E0 mm)) (opsOf c4_33) r4_33_27 ⟨sl, [g0, .cells [.d (.sc (.bool h1_0)), .d (.sc (.bool h1_1)), .d (.sc (.bool h1_2)), .d (.sc (.bool h1_3)), .d (.sc (.bool h1_4)), .d (.sc (.bool h1_5)), .d (.sc (.int .i64 h1_6)), .d (.sc (.int .i64 h1_7)), .d (.sc (.int .i64 h1_8)), .d (.sc (.int .i64 h1_9))], g2, .cells [.d (.sc (.bool h3_0)), .d (.sc (.bool h3_1)), .d (.sc (.bool h3_2)), .d (.sc (.bool h3_3)), .d (.sc (.bool h3_4)), .d (.sc (.bool h3_5)), .d (.sc (.int .i64 h3_6)), .d (.sc (.int .i64 h3_7)), .d (.sc (.int .i64 h3_8)), .d (.sc (.int .i64 h3_9))], g4]⟩))) = (j4_33r27v2 t143 h1_0 h1_1 h1_2 h1_3 h1_4 h1_5 h1_6 h1_7 h1_8 h1_9 h3_0 h3_1 h3_2 h3_3 h3_4 h3_5 h3_6 h3_7 h3_8 h3_9).map e4 := by
  simp -implicitDefEqProofs only [j4_33r27v2, (show opsOf c4_33 = _ :: _ from rfl), (show r4_33_27 = _ :: _ :: _ :: _ :: _ :: r4_33_32 from rfl), zq6, zq8, zq143, setA, setB, za, zb, zc, zd, ze, zf, zg, zh, zi, zj, zk, zl, zm, zn, zo, zp, reduceCtorEq, zE, ↓reduceIte]
  refine brB (fun yc113 => ?_) (fun yc113 => ?_)
  · simp -implicitDefEqProofs only [Tryd.underlying24, sz4, ag4, zq6, zq8, zq143, yc113, setA, setB, za, zb, zc, zd, ze, zf, zg, zh, zi, zj, zk, zl, zm, zn, zo, zp, reduceCtorEq, zE, ↓reduceIte]
    exact j4_33r32v2_t (!h1_2) h1_0 h1_1 h1_2 h1_3 h1_4 h1_5 h1_6 h1_7 h1_8 h1_9 h3_0 h3_1 h3_2 h3_3 h3_4 h3_5 h3_6 h3_7 h3_8 h3_9 _ _ _ _ (by exact zq6) (by exact zq8) (by rfl)
  · simp -implicitDefEqProofs only [zq6, zq8, zq143, yc113, setA, setB, za, zb, zc, zd, ze, zf, zg, zh, zi, zj, zk, zl, zm, zn, zo, zp, reduceCtorEq, zE, ↓reduceIte]
    exact j4_33r32v2_t false h1_0 h1_1 h1_2 h1_3 h1_4 h1_5 h1_6 h1_7 h1_8 h1_9 h3_0 h3_1 h3_2 h3_3 h3_4 h3_5 h3_6 h3_7 h3_8 h3_9 _ _ _ _ (by exact zq6) (by exact zq8) (by rfl)
def j4_33r22v2 (t138 h1_0 : Bool) (h1_1 h1_2 : Bool) (h1_3 h1_4 h1_5 : Bool) (h1_6 h1_7 : Int) (h1_8 h1_9 : Int) (h3_0 h3_1 : Bool) (h3_2 h3_3 : Bool) (h3_4 h3_5 : Bool) (h3_6 h3_7 : Int) (h3_8 h3_9 : Int) : Option R4 :=
  if t138 = true then
    j4_33r27v2 (h3_9 == (-1)) h1_0 h1_1 h1_2 h1_3 h1_4 h1_5 h1_6 h1_7 h1_8 h1_9 h3_0 h3_1 h3_2 h3_3 h3_4 h3_5 h3_6 h3_7 h3_8 h3_9
  else
    j4_33r27v2 false h1_0 h1_1 h1_2 h1_3 h1_4 h1_5 h1_6 h1_7 h1_8 h1_9 h3_0 h3_1 h3_2 h3_3 h3_4 h3_5 h3_6 h3_7 h3_8 h3_9
theorem j4_33r22v2_t (t138 h1_0 : Bool) (h1_1 h1_2 : Bool) (h1_3 h1_4 h1_5 : Bool) (h1_6 h1_7 : Int) (h1_8 h1_9 : Int) (h3_0 h3_1 : Bool) (h3_2 h3_3 : Bool) (h3_4 h3_5 : Bool) (h3_6 h3_7 : Int) (h3_8 h3_9 : Int) (g0 g2 g4 : Ob) (sl : Nat → AV) (zq6 : sl 6 = .v (.c (.ptr 1 0))) (zq8 : sl 8 = .v (.c (.ptr 3 0))) (zq138 : sl 138 = .v (.c (.d (.sc (.bool t138))))) :
    bodyD (E0 mm) [.tmp 4] 0 false (seqD (E0 mm) 4 0 (callW (E0 mm)) itW c4_34 (regD (runOps (E0 mm) (callW (E0 mm)) (opsOf c4_33) r4_33_22 ⟨sl, [g0, .cells [.d (.sc (.bool h1_0)), .d (.sc (.bool h1_1)), .d (.sc (.bool h1_2)), .d (.sc (.bool h1_3)), .d (.sc (.bool h1_4)), .d (.sc (.bool h1_5)), .d (.sc (.int .i64 h1_6)), .d (.sc (.int .i64 h1_7)), .d (.sc (.int .i64 h1_8)), .d (.sc (.int .i64 h1_9))], g2, .cells [.d (.sc (.bool h3_0)), .d (.sc (.bool h3_1)), .d (.sc (.bool h3_2)), .d (.sc (.bool h3_3)), .d (.sc (.bool h3_4)), .d (.sc (.bool h3_5)), .d (.sc (.int .i64 h3_6)), .d (.sc (.int .i64 h3_7)), .d (.sc (.int .i64 h3_8)), .d (.sc (.int .i64 h3_9))], g4]⟩))) = (j4_33r22v2 t138 h1_0 h1_1 h1_2 h1_3 h1_4 h1_5 h1_6 h1_7 h1_8 h1_9 h3_0 h3_1 h3_2 h3_3 h3_4 h3_5 h3_6 h3_7 h3_8 h3_9).map e4 := by
  simp -implicitDefEqProofs only [j4_33r22v2, (show opsOf c4_33 = _ :: _ from rfl), (show r4_33_22 = _ :: _ :: _ :: _ :: _ :: r4_33_27 from rfl), zq6, zq8, zq138, setA, setB, za, zb, zc, zd, ze, zf, zg, zh, zi, zj, zk, zl, zm, zn, zo, zp, reduceCtorEq, zE, ↓reduceIte]
  refine brB (fun yc112 => ?_) (fun yc112 => ?_)
  · simp -implicitDefEqProofs only [Tryd.underlying24, sz3, ag3, zq6, zq8, zq138, yc112, setA, setB, za, zb, zc, zd, ze, zf, zg, zh, zi, zj, zk, zl, zm, zn, zo, zp, reduceCtorEq, zE, ↓reduceIte]
    exact j4_33r27v2_t (h3_9 == (-1)) h1_0 h1_1 h1_2 h1_3 h1_4 h1_5 h1_6 h1_7 h1_8 h1_9 h3_0 h3_1 h3_2 h3_3 h3_4 h3_5 h3_6 h3_7 h3_8 h3_9 _ _ _ _ (by exact zq6) (by exact zq8) (by rfl)
  · simp -implicitDefEqProofs only [zq6, zq8, zq138, yc112, setA, setB, za, zb, zc, zd, ze, zf, zg, zh, zi, zj, zk, zl, zm, zn, zo, zp, reduceCtorEq, zE, ↓reduceIte]
    exact j4_33r27v2_t false h1_0 h1_1 h1_2 h1_3 h1_4 h1_5 h1_6 h1_7 h1_8 h1_9 h3_0 h3_1 h3_2 h3_3 h3_4 h3_5 h3_6 h3_7 h3_8 h3_9 _ _ _ _ (by exact zq6) (by exact zq8) (by rfl)
def j4_33r17v2 (t133 h1_0 : Bool) (h1_1 h1_2 : Bool) (h1_3 h1_4 h1_5 : Bool) (h1_6 h1_7 : Int) (h1_8 h1_9 : Int) (h3_0 h3_1 : Bool) (h3_2 h3_3 : Bool) (h3_4 h3_5 : Bool) (h3_6 h3_7 : Int) (h3_8 h3_9 : Int) : Option R4 :=
  if t133 = true then
    j4_33r22v2 (h3_8 == (-1)) h1_0 h1_1 h1_2 h1_3 h1_4 h1_5 h1_6 h1_7 h1_8 h1_9 h3_0 h3_1 h3_2 h3_3 h3_4 h3_5 h3_6 h3_7 h3_8 h3_9
  else
    j4_33r22v2 false h1_0 h1_1 h1_2 h1_3 h1_4 h1_5 h1_6 h1_7 h1_8 h1_9 h3_0 h3_1 h3_2 h3_3 h3_4 h3_5 h3_6 h3_7 h3_8 h3_9
theorem j4_33r17v2_t (t133 h1_0 : Bool) (h1_1 h1_2 : Bool) (h1_3 h1_4 h1_5 : Bool) (h1_6 h1_7 : Int) (h1_8 h1_9 : Int) (h3_0 h3_1 : Bool) (h3_2 h3_3 : Bool) (h3_4 h3_5 : Bool) (h3_6 h3_7 : Int) (h3_8 h3_9 : Int) (g0 g2 g4 : Ob) (sl : Nat → AV) (zq6 : sl 6 = .v (.c (.ptr 1 0))) (zq8 : sl 8 = .v (.c (.ptr 3 0))) (zq133 : sl 133 = .v (.c (.d (.sc (.bool t133))))) :
    bodyD (E0 mm) [.tmp 4] 0 false (seqD (E0 mm) 4 0 (callW (E0 mm)) itW c4_34 (regD (runOps (E0 mm) (callW (E0 mm)) (opsOf c4_33) r4_33_17 ⟨sl, [g0, .cells [.d (.sc (.bool h1_0)), .d (.sc (.bool h1_1)), .d (.sc (.bool h1_2)), .d (.sc (.bool h1_3)), .d (.sc (.bool h1_4)), .d (.sc (.bool h1_5)), .d (.sc (.int .i64 h1_6)), .d (.sc (.int .i64 h1_7)), .d (.sc (.int .i64 h1_8)), .d (.sc (.int .i64 h1_9))], g2, .cells [.d (.sc (.bool h3_0)), .d (.sc (.bool h3_1)), .d (.sc (.bool h3_2)), .d (.sc (.bool h3_3)), .d (.sc (.bool h3_4)), .d (.sc (.bool h3_5)), .d (.sc (.int .i64 h3_6)), .d (.sc (.int .i64 h3_7)), .d (.sc (.int .i64 h3_8)), .d (.sc (.int .i64 h3_9))], g4]⟩))) = (j4_33r17v2 t133 h1_0 h1_1 h1_2 h1_3 h1_4 h1_5 h1_6 h1_7 h1_8 h1_9 h3_0 h3_1 h3_2 h3_3 h3_4 h3_5 h3_6 h3_7 h3_8 h3_9).map e4 := by
  simp -implicitDefEqProofs only [j4_33r17v2, (show opsOf c4_33 = _ :: _ from rfl), (show r4_33_17 = _ :: _ :: _ :: _ :: _ :: r4_33_22 from rfl), zq6, zq8, zq133, setA, setB, za, zb, zc, zd, ze, zf, zg, zh, zi, zj, zk, zl, zm, zn, zo, zp, reduceCtorEq, zE, ↓reduceIte]
  refine brB (fun yc111 => ?_) (fun yc111 => ?_)
  · simp -implicitDefEqProofs only [Tryd.underlying24, sz3, ag3, zq6, zq8, zq133, yc111, setA, setB, za, zb, zc, zd, ze, zf, zg, zh, zi, zj, zk, zl, zm, zn, zo, zp, reduceCtorEq, zE, ↓reduceIte]
    exact j4_33r22v2_t (h3_8 == (-1)) h1_0 h1_1 h1_2 h1_3 h1_4 h1_5 h1_6 h1_7 h1_8 h1_9 h3_0 h3_1 h3_2 h3_3 h3_4 h3_5 h3_6 h3_7 h3_8 h3_9 _ _ _ _ (by exact zq6) (by exact zq8) (by rfl)
  · simp -implicitDefEqProofs only [zq6, zq8, zq133, yc111, setA, setB, za, zb, zc, zd, ze, zf, zg, zh, zi, zj, zk, zl, zm, zn, zo, zp, reduceCtorEq, zE, ↓reduceIte]
    exact j4_33r22v2_t false h1_0 h1_1 h1_2 h1_3 h1_4 h1_5 h1_6 h1_7 h1_8 h1_9 h3_0 h3_1 h3_2 h3_3 h3_4 h3_5 h3_6 h3_7 h3_8 h3_9 _ _ _ _ (by exact zq6) (by exact zq8) (by rfl)
def j4_32v2 (h1_0 h1_1 : Bool) (h1_2 h1_3 : Bool) (h1_4 h1_5 : Bool) (h1_6 h1_7 : Int) (h1_8 h1_9 : Int) (h3_0 h3_1 : Bool) (h3_2 h3_3 : Bool) (h3_4 h3_5 : Bool) (h3_6 h3_7 : Int) (h3_8 h3_9 : Int) (h4_0 h4_1 : Bool) (h4_2 h4_3 : Bool) (h4_4 h4_5 : Bool) (h4_6 h4_7 : Int) (h4_8 h4_9 : Int) : Option R4 :=
  (m13 h4_6 h3_6).bind fun yr106 =>
    if yr106 = true then
      (m13 h4_7 h3_7).bind fun yr109 =>
        if yr109 = true then
          j4_33r17v2 (h1_7 == (-1)) h1_0 h1_1 h1_2 h1_3 h1_4 h1_5 h1_6 h1_7 h1_8 h1_9 h3_0 h3_1 h3_2 h3_3 h3_4 h3_5 h3_6 h3_7 h3_8 h3_9
        else
          j4_33r17v2 false h1_0 h1_1 h1_2 h1_3 h1_4 h1_5 h1_6 h1_7 h1_8 h1_9 h3_0 h3_1 h3_2 h3_3 h3_4 h3_5 h3_6 h3_7 h3_8 h3_9
    else
      j4_33r17v2 false h1_0 h1_1 h1_2 h1_3 h1_4 h1_5 h1_6 h1_7 h1_8 h1_9 h3_0 h3_1 h3_2 h3_3 h3_4 h3_5 h3_6 h3_7 h3_8 h3_9
theorem j4_32v2_t (h1_0 h1_1 : Bool) (h1_2 h1_3 : Bool) (h1_4 h1_5 : Bool) (h1_6 h1_7 : Int) (h1_8 h1_9 : Int) (h3_0 h3_1 : Bool) (h3_2 h3_3 : Bool) (h3_4 h3_5 : Bool) (h3_6 h3_7 : Int) (h3_8 h3_9 : Int) (h4_0 h4_1 : Bool) (h4_2 h4_3 : Bool) (h4_4 h4_5 : Bool) (h4_6 h4_7 : Int) (h4_8 h4_9 : Int) (g0 g2 : Ob) (sl : Nat → AV) (zq6 : sl 6 = .v (.c (.ptr 1 0))) (zq8 : sl 8 = .v (.c (.ptr 3 0))) (zq9 : sl 9 = .v (.c (.ptr 4 0))) :
    bodyD (E0 mm) [.tmp 4] 0 false (den (E0 mm) 4 0 (callW (E0 mm)) itW c4_32 none ⟨sl, [g0, .cells [.d (.sc (.bool h1_0)), .d (.sc (.bool h1_1)), .d (.sc (.bool h1_2)), .d (.sc (.bool h1_3)), .d (.sc (.bool h1_4)), .d (.sc (.bool h1_5)), .d (.sc (.int .i64 h1_6)), .d (.sc (.int .i64 h1_7)), .d (.sc (.int .i64 h1_8)), .d (.sc (.int .i64 h1_9))], g2, .cells [.d (.sc (.bool h3_0)), .d (.sc (.bool h3_1)), .d (.sc (.bool h3_2)), .d (.sc (.bool h3_3)), .d (.sc (.bool h3_4)), .d (.sc (.bool h3_5)), .d (.sc (.int .i64 h3_6)), .d (.sc (.int .i64 h3_7)), .d (.sc (.int .i64 h3_8)), .d (.sc (.int .i64 h3_9))], .cells [.d (.sc (.bool h4_0)), .d (.sc (.bool h4_1)), .d (.sc (.bool h4_2)), .d (.sc (.bool h4_3)), .d (.sc (.bool h4_4)), .d (.sc (.bool h4_5)), .d (.sc (.int .i64 h4_6)), .d (.sc (.int .i64 h4_7)), .d (.sc (.int .i64 h4_8)), .d (.sc (.int .i64 h4_9))]]⟩) = (j4_32v2 h1_0 h1_1 h1_2 h1_3 h1_4 h1_5 h1_6 h1_7 h1_8 h1_9 h3_0 h3_1 h3_2 h3_3 h3_4 h3_5 h3_6 h3_7 h3_8 h3_9 h4_0 h4_1 h4_2 h4_3 h4_4 h4_5 h4_6 h4_7 h4_8 h4_9).map e4 := by
  simp -implicitDefEqProofs only [j4_32v2, c4_32_e, c4_33_r, (show opsOf c4_33 = _ :: _ :: _ :: _ :: _ :: _ :: _ :: _ :: _ :: _ :: _ :: _ :: _ :: _ :: _ :: _ :: _ :: r4_33_17 from rfl), Tryd.underlying24, sz3, ag3, ent13, prm13, f13_t, zq6, zq8, zq9, setA, setB, za, zb, zc, zd, ze, zf, zg, zh, zi, zj, zk, zl, zm, zn, zo, zp, reduceCtorEq, zE, ↓reduceIte]
  refine brM (fun yc105 => ?_) (fun yr106 yc105 => ?_)
  · rw [yc105]; rfl
  · simp -implicitDefEqProofs only [e13, zq6, zq8, zq9, yc105, setA, setB, za, zb, zc, zd, ze, zf, zg, zh, zi, zj, zk, zl, zm, zn, zo, zp, reduceCtorEq, zE, ↓reduceIte]
    refine brB (fun yc107 => ?_) (fun yc107 => ?_)
    · simp -implicitDefEqProofs only [Tryd.underlying24, sz3, ag3, ent13, prm13, f13_t, zq6, zq8, zq9, yc105, yc107, setA, setB, za, zb, zc, zd, ze, zf, zg, zh, zi, zj, zk, zl, zm, zn, zo, zp, reduceCtorEq, zE, ↓reduceIte]
      refine brM (fun yc108 => ?_) (fun yr109 yc108 => ?_)
      · rw [yc108]; rfl
      · simp -implicitDefEqProofs only [e13, zq6, zq8, zq9, yc105, yc107, yc108, setA, setB, za, zb, zc, zd, ze, zf, zg, zh, zi, zj, zk, zl, zm, zn, zo, zp, reduceCtorEq, zE, ↓reduceIte]
        refine brB (fun yc110 => ?_) (fun yc110 => ?_)
        · simp -implicitDefEqProofs only [Tryd.underlying24, sz3, ag3, zq6, zq8, zq9, yc105, yc107, yc108, yc110, setA, setB, za, zb, zc, zd, ze, zf, zg, zh, zi, zj, zk, zl, zm, zn, zo, zp, reduceCtorEq, zE, ↓reduceIte]
          exact j4_33r17v2_t (h1_7 == (-1)) h1_0 h1_1 h1_2 h1_3 h1_4 h1_5 h1_6 h1_7 h1_8 h1_9 h3_0 h3_1 h3_2 h3_3 h3_4 h3_5 h3_6 h3_7 h3_8 h3_9 _ _ _ _ (by exact zq6) (by exact zq8) (by rfl)
        · simp -implicitDefEqProofs only [zq6, zq8, zq9, yc105, yc107, yc108, yc110, setA, setB, za, zb, zc, zd, ze, zf, zg, zh, zi, zj, zk, zl, zm, zn, zo, zp, reduceCtorEq, zE, ↓reduceIte]
          exact j4_33r17v2_t false h1_0 h1_1 h1_2 h1_3 h1_4 h1_5 h1_6 h1_7 h1_8 h1_9 h3_0 h3_1 h3_2 h3_3 h3_4 h3_5 h3_6 h3_7 h3_8 h3_9 _ _ _ _ (by exact zq6) (by exact zq8) (by rfl)
    · simp -implicitDefEqProofs only [zq6, zq8, zq9, yc105, yc107, setA, setB, za, zb, zc, zd, ze, zf, zg, zh, zi, zj, zk, zl, zm, zn, zo, zp, reduceCtorEq, zE, ↓reduceIte]
      exact j4_33r17v2_t false h1_0 h1_1 h1_2 h1_3 h1_4 h1_5 h1_6 h1_7 h1_8 h1_9 h3_0 h3_1 h3_2 h3_3 h3_4 h3_5 h3_6 h3_7 h3_8 h3_9 _ _ _ _ (by exact zq6) (by exact zq8) (by rfl)
def j4_27v2 (t116 h1_0 : Bool) (h1_1 h1_2 : Bool) (h1_3 h1_4 h1_5 : Bool) (h1_6 h1_7 : Int) (h1_8 h1_9 : Int) (h3_0 h3_1 : Bool) (h3_2 h3_3 : Bool) (h3_4 h3_5 : Bool) (h3_6 h3_7 : Int) (h3_8 h3_9 : Int) (h4_0 h4_1 : Bool) (h4_2 h4_3 : Bool) (h4_4 h4_5 : Bool) (h4_6 h4_7 : Int) (h4_8 h4_9 : Int) : Option R4 :=
  if t116 = true then
    some false
  else
    j4_32v2 h1_0 h1_1 h1_2 h1_3 h1_4 h1_5 h1_6 h1_7 h1_8 h1_9 h3_0 h3_1 h3_2 h3_3 h3_4 h3_5 h3_6 h3_7 h3_8 h3_9 h4_0 h4_1 h4_2 h4_3 h4_4 h4_5 h4_6 h4_7 h4_8 h4_9
theorem j4_27v2_t (t116 h1_0 : Bool) (h1_1 h1_2 : Bool) (h1_3 h1_4 h1_5 : Bool) (h1_6 h1_7 : Int) (h1_8 h1_9 : Int) (h3_0 h3_1 : Bool) (h3_2 h3_3 : Bool) (h3_4 h3_5 : Bool) (h3_6 h3_7 : Int) (h3_8 h3_9 : Int) (h4_0 h4_1 : Bool) (h4_2 h4_3 : Bool) (h4_4 h4_5 : Bool) (h4_6 h4_7 : Int) (h4_8 h4_9 : Int) (g0 g2 : Ob) (sl : Nat → AV) (zq6 : sl 6 = .v (.c (.ptr 1 0))) (zq8 : sl 8 = .v (.c (.ptr 3 0))) (zq9 : sl 9 = .v (.c (.ptr 4 0))) (zq116 : sl 116 = .v (.c (.d (.sc (.bool t116))))) :
    bodyD (E0 mm) [.tmp 4] 0 false (seqD (E0 mm) 4 0 (callW (E0 mm)) itW c4_32 (den (E0 mm) 4 0 (callW (E0 mm)) itW c4_27 none ⟨sl, [g0, .cells [.d (.sc (.bool h1_0)), .d (.sc (.bool h1_1)), .d (.sc (.bool h1_2)), .d (.sc (.bool h1_3)), .d (.sc (.bool h1_4)), .d (.sc (.bool h1_5)), .d (.sc (.int .i64 h1_6)), .d (.sc (.int .i64 h1_7)), .d (.sc (.int .i64 h1_8)), .d (.sc (.int .i64 h1_9))], g2, .cells [.d (.sc (.bool h3_0)), .d (.sc (.bool h3_1)), .d (.sc (.bool h3_2)), .d (.sc (.bool h3_3)), .d (.sc (.bool h3_4)), .d (.sc (.bool h3_5)), .d (.sc (.int .i64 h3_6)), .d (.sc (.int .i64 h3_7)), .d (.sc (.int .i64 h3_8)), .d (.sc (.int .i64 h3_9))], .cells [.d (.sc (.bool h4_0)), .d (.sc (.bool h4_1)), .d (.sc (.bool h4_2)), .d (.sc (.bool h4_3)), .d (.sc (.bool h4_4)), .d (.sc (.bool h4_5)), .d (.sc (.int .i64 h4_6)), .d (.sc (.int .i64 h4_7)), .d (.sc (.int .i64 h4_8)), .d (.sc (.int .i64 h4_9))]]⟩)) = (j4_27v2 t116 h1_0 h1_1 h1_2 h1_3 h1_4 h1_5 h1_6 h1_7 h1_8 h1_9 h3_0 h3_1 h3_2 h3_3 h3_4 h3_5 h3_6 h3_7 h3_8 h3_9 h4_0 h4_1 h4_2 h4_3 h4_4 h4_5 h4_6 h4_7 h4_8 h4_9).map e4 := by
  simp -implicitDefEqProofs only [j4_27v2, (show c4_27 = Code.cond _ c4_28 c4_31 from rfl), zq6, zq8, zq9, zq116, setA, setB, za, zb, zc, zd, ze, zf, zg, zh, zi, zj, zk, zl, zm, zn, zo, zp, reduceCtorEq, zE, ↓reduceIte]
  refine brB (fun yc104 => ?_) (fun yc104 => ?_)
  · simp -implicitDefEqProofs only [c4_28_e, c4_29_r, (show opsOf c4_29 = _ :: _ from rfl), c4_30_e, zq6, zq8, zq9, zq116, yc104, setA, setB, za, zb, zc, zd, ze, zf, zg, zh, zi, zj, zk, zl, zm, zn, zo, zp, reduceCtorEq, zE, ↓reduceIte]
    all_goals rfl
  · simp -implicitDefEqProofs only [c4_31_e, zq6, zq8, zq9, zq116, yc104, setA, setB, za, zb, zc, zd, ze, zf, zg, zh, zi, zj, zk, zl, zm, zn, zo, zp, reduceCtorEq, zE, ↓reduceIte]
    exact j4_32v2_t h1_0 h1_1 h1_2 h1_3 h1_4 h1_5 h1_6 h1_7 h1_8 h1_9 h3_0 h3_1 h3_2 h3_3 h3_4 h3_5 h3_6 h3_7 h3_8 h3_9 h4_0 h4_1 h4_2 h4_3 h4_4 h4_5 h4_6 h4_7 h4_8 h4_9 _ _ _ (by exact zq6) (by exact zq8) (by exact zq9)
def j4_26r34v2 (t107 h1_0 : Bool) (h1_1 h1_2 : Bool) (h1_3 h1_4 h1_5 : Bool) (h1_6 h1_7 : Int) (h1_8 h1_9 : Int) (h3_0 h3_1 : Bool) (h3_2 h3_3 : Bool) (h3_4 h3_5 : Bool) (h3_6 h3_7 : Int) (h3_8 h3_9 : Int) (h4_0 h4_1 : Bool) (h4_2 h4_3 : Bool) (h4_4 h4_5 : Bool) (h4_6 h4_7 : Int) (h4_8 h4_9 : Int) : Option R4 :=
  if t107 = true then
    j4_27v2 true h1_0 h1_1 h1_2 h1_3 h1_4 h1_5 h1_6 h1_7 h1_8 h1_9 h3_0 h3_1 h3_2 h3_3 h3_4 h3_5 h3_6 h3_7 h3_8 h3_9 h4_0 h4_1 h4_2 h4_3 h4_4 h4_5 h4_6 h4_7 h4_8 h4_9
  else
    if h3_4 = true then
      j4_27v2 (!h4_4) h1_0 h1_1 h1_2 h1_3 h1_4 h1_5 h1_6 h1_7 h1_8 h1_9 h3_0 h3_1 h3_2 h3_3 true h3_5 h3_6 h3_7 h3_8 h3_9 h4_0 h4_1 h4_2 h4_3 h4_4 h4_5 h4_6 h4_7 h4_8 h4_9
    else
      j4_27v2 false h1_0 h1_1 h1_2 h1_3 h1_4 h1_5 h1_6 h1_7 h1_8 h1_9 h3_0 h3_1 h3_2 h3_3 false h3_5 h3_6 h3_7 h3_8 h3_9 h4_0 h4_1 h4_2 h4_3 h4_4 h4_5 h4_6 h4_7 h4_8 h4_9
theorem j4_26r34v2_t (t107 h1_0 : Bool) (h1_1 h1_2 : Bool) (h1_3 h1_4 h1_5 : Bool) (h1_6 h1_7 : Int) (h1_8 h1_9 : Int) (h3_0 h3_1 : Bool) (h3_2 h3_3 : Bool) (h3_4 h3_5 : Bool) (h3_6 h3_7 : Int) (h3_8 h3_9 : Int) (h4_0 h4_1 : Bool) (h4_2 h4_3 : Bool) (h4_4 h4_5 : Bool) (h4_6 h4_7 : Int) (h4_8 h4_9 : Int) (g0 g2 : Ob) (sl : Nat → AV) (zq6 : sl 6 = .v (.c (.ptr 1 0))) (zq8 : sl 8 = .v (.c (.ptr 3 0))) (zq9 : sl 9 = .v (.c (.ptr 4 0))) (zq107 : sl 107 = .v (.c (.d (.sc (.bool t107))))) :
    bodyD (E0 mm) [.tmp 4] 0 false (seqD (E0 mm) 4 0 (callW (E0 mm)) itW c4_32 (seqD (E0 mm) 4 0 (callW (E0 mm)) itW c4_27 (regD (runOps (E0 mm) (callW (E0 mm)) (opsOf c4_26) r4_26_34 ⟨sl, [g0, .cells [.d (.sc (.bool h1_0)), .d (.sc (.bool h1_1)), .d (.sc (.bool h1_2)), .d (.sc (.bool h1_3)), .d (.sc (.bool h1_4)), .d (.sc (.bool h1_5)), .d (.sc (.int .i64 h1_6)), .d (.sc (.int .i64 h1_7)), .d (.sc (.int .i64 h1_8)), .d (.sc (.int .i64 h1_9))], g2, .cells [.d (.sc (.bool h3_0)), .d (.sc (.bool h3_1)), .d (.sc (.bool h3_2)), .d (.sc (.bool h3_3)), .d (.sc (.bool h3_4)), .d (.sc (.bool h3_5)), .d (.sc (.int .i64 h3_6)), .d (.sc (.int .i64 h3_7)), .d (.sc (.int .i64 h3_8)), .d (.sc (.int .i64 h3_9))], .cells [.d (.sc (.bool h4_0)), .d (.sc (.bool h4_1)), .d (.sc (.bool h4_2)), .d (.sc (.bool h4_3)), .d (.sc (.bool h4_4)), .d (.sc (.bool h4_5)), .d (.sc (.int .i64 h4_6)), .d (.sc (.int .i64 h4_7)), .d (.sc (.int .i64 h4_8)), .d (.sc (.int .i64 h4_9))]]⟩)))) = (j4_26r34v2 t107 h1_0 h1_1 h1_2 h1_3 h1_4 h1_5 h1_6 h1_7 h1_8 h1_9 h3_0 h3_1 h3_2 h3_3 h3_4 h3_5 h3_6 h3_7 h3_8 h3_9 h4_0 h4_1 h4_2 h4_3 h4_4 h4_5 h4_6 h4_7 h4_8 h4_9).map e4 := by
  simp -implicitDefEqProofs only [j4_26r34v2, (show opsOf c4_26 = _ :: _ from rfl), (show r4_26_34 = _ :: _ from rfl), zq6, zq8, zq9, zq107, setA, setB, za, zb, zc, zd, ze, zf, zg, zh, zi, zj, zk, zl, zm, zn, zo, zp, reduceCtorEq, zE, ↓reduceIte]
  refine brB (fun yc103 => ?_) (fun yc103 => ?_)
  · simp -implicitDefEqProofs only [zq6, zq8, zq9, zq107, yc103, setA, setB, za, zb, zc, zd, ze, zf, zg, zh, zi, zj, zk, zl, zm, zn, zo, zp, reduceCtorEq, zE, ↓reduceIte]
    exact j4_27v2_t true h1_0 h1_1 h1_2 h1_3 h1_4 h1_5 h1_6 h1_7 h1_8 h1_9 h3_0 h3_1 h3_2 h3_3 h3_4 h3_5 h3_6 h3_7 h3_8 h3_9 h4_0 h4_1 h4_2 h4_3 h4_4 h4_5 h4_6 h4_7 h4_8 h4_9 _ _ _ (by exact zq6) (by exact zq8) (by exact zq9) (by rfl)
  · simp -implicitDefEqProofs only [Tryd.underlying24, sz4, ag4, zq6, zq8, zq9, zq107, yc103, setA, setB, za, zb, zc, zd, ze, zf, zg, zh, zi, zj, zk, zl, zm, zn, zo, zp, reduceCtorEq, zE, ↓reduceIte]
    refine brB (fun yc116 => ?_) (fun yc116 => ?_)
    · simp -implicitDefEqProofs only [Tryd.underlying24, sz4, ag4, zq6, zq8, zq9, zq107, yc103, yc116, setA, setB, za, zb, zc, zd, ze, zf, zg, zh, zi, zj, zk, zl, zm, zn, zo, zp, reduceCtorEq, zE, ↓reduceIte]
      exact j4_27v2_t (!h4_4) h1_0 h1_1 h1_2 h1_3 h1_4 h1_5 h1_6 h1_7 h1_8 h1_9 h3_0 h3_1 h3_2 h3_3 true h3_5 h3_6 h3_7 h3_8 h3_9 h4_0 h4_1 h4_2 h4_3 h4_4 h4_5 h4_6 h4_7 h4_8 h4_9 _ _ _ (by exact zq6) (by exact zq8) (by exact zq9) (by rfl)
    · simp -implicitDefEqProofs only [zq6, zq8, zq9, zq107, yc103, yc116, setA, setB, za, zb, zc, zd, ze, zf, zg, zh, zi, zj, zk, zl, zm, zn, zo, zp, reduceCtorEq, zE, ↓reduceIte]
      exact j4_27v2_t false h1_0 h1_1 h1_2 h1_3 h1_4 h1_5 h1_6 h1_7 h1_8 h1_9 h3_0 h3_1 h3_2 h3_3 false h3_5 h3_6 h3_7 h3_8 h3_9 h4_0 h4_1 h4_2 h4_3 h4_4 h4_5 h4_6 h4_7 h4_8 h4_9 _ _ _ (by exact zq6) (by exact zq8) (by exact zq9) (by rfl)
def j4_26r25v2 (t98 h1_0 : Bool) (h1_1 h1_2 : Bool) (h1_3 h1_4 h1_5 : Bool) (h1_6 h1_7 : Int) (h1_8 h1_9 : Int) (h3_0 h3_1 : Bool) (h3_2 h3_3 : Bool) (h3_4 h3_5 : Bool) (h3_6 h3_7 : Int) (h3_8 h3_9 : Int) (h4_0 h4_1 : Bool) (h4_2 h4_3 : Bool) (h4_4 h4_5 : Bool) (h4_6 h4_7 : Int) (h4_8 h4_9 : Int) : Option R4 :=
  if t98 = true then
    j4_26r34v2 true h1_0 h1_1 h1_2 h1_3 h1_4 h1_5 h1_6 h1_7 h1_8 h1_9 h3_0 h3_1 h3_2 h3_3 h3_4 h3_5 h3_6 h3_7 h3_8 h3_9 h4_0 h4_1 h4_2 h4_3 h4_4 h4_5 h4_6 h4_7 h4_8 h4_9
  else
    if h3_3 = true then
      j4_26r34v2 (!h4_3) h1_0 h1_1 h1_2 h1_3 h1_4 h1_5 h1_6 h1_7 h1_8 h1_9 h3_0 h3_1 h3_2 true h3_4 h3_5 h3_6 h3_7 h3_8 h3_9 h4_0 h4_1 h4_2 h4_3 h4_4 h4_5 h4_6 h4_7 h4_8 h4_9
    else
      j4_26r34v2 false h1_0 h1_1 h1_2 h1_3 h1_4 h1_5 h1_6 h1_7 h1_8 h1_9 h3_0 h3_1 h3_2 false h3_4 h3_5 h3_6 h3_7 h3_8 h3_9 h4_0 h4_1 h4_2 h4_3 h4_4 h4_5 h4_6 h4_7 h4_8 h4_9
theorem j4_26r25v2_t (t98 h1_0 : Bool) (h1_1 h1_2 : Bool) (h1_3 h1_4 h1_5 : Bool) (h1_6 h1_7 : Int) (h1_8 h1_9 : Int) (h3_0 h3_1 : Bool) (h3_2 h3_3 : Bool) (h3_4 h3_5 : Bool) (h3_6 h3_7 : Int) (h3_8 h3_9 : Int) (h4_0 h4_1 : Bool) (h4_2 h4_3 : Bool) (h4_4 h4_5 : Bool) (h4_6 h4_7 : Int) (h4_8 h4_9 : Int) (g0 g2 : Ob) (sl : Nat → AV) (zq6 : sl 6 = .v (.c (.ptr 1 0))) (zq8 : sl 8 = .v (.c (.ptr 3 0))) (zq9 : sl 9 = .v (.c (.ptr 4 0))) (zq98 : sl 98 = .v (.c (.d (.sc (.bool t98))))) :
    bodyD (E0 mm) [.tmp 4] 0 false (seqD (E0 mm) 4 0 (callW (E0 mm)) itW c4_32 (seqD (E0 mm) 4 0 (callW (E0 mm)) itW c4_27 (regD (runOps (E0 mm) (callW (E0 mm)) (opsOf c4_26) r4_26_25 ⟨sl, [g0, .cells [.d (.sc (.bool h1_0)), .d (.sc (.bool h1_1)), .d (.sc (.bool h1_2)), .d (.sc (.bool h1_3)), .d (.sc (.bool h1_4)), .d (.sc (.bool h1_5)), .d (.sc (.int .i64 h1_6)), .d (.sc (.int .i64 h1_7)), .d (.sc (.int .i64 h1_8)), .d (.sc (.int .i64 h1_9))], g2, .cells [.d (.sc (.bool h3_0)), .d (.sc (.bool h3_1)), .d (.sc (.bool h3_2)), .d (.sc (.bool h3_3)), .d (.sc (.bool h3_4)), .d (.sc (.bool h3_5)), .d (.sc (.int .i64 h3_6)), .d (.sc (.int .i64 h3_7)), .d (.sc (.int .i64 h3_8)), .d (.sc (.int .i64 h3_9))], .cells [.d (.sc (.bool h4_0)), .d (.sc (.bool h4_1)), .d (.sc (.bool h4_2)), .d (.sc (.bool h4_3)), .d (.sc (.bool h4_4)), .d (.sc (.bool h4_5)), .d (.sc (.int .i64 h4_6)), .d (.sc (.int .i64 h4_7)), .d (.sc (.int .i64 h4_8)), .d (.sc (.int .i64 h4_9))]]⟩)))) = (j4_26r25v2 t98 h1_0 h1_1 h1_2 h1_3 h1_4 h1_5 h1_6 h1_7 h1_8 h1_9 h3_0 h3_1 h3_2 h3_3 h3_4 h3_5 h3_6 h3_7 h3_8 h3_9 h4_0 h4_1 h4_2 h4_3 h4_4 h4_5 h4_6 h4_7 h4_8 h4_9).map e4 := by
  simp -implicitDefEqProofs only [j4_26r25v2, (show opsOf c4_26 = _ :: _ from rfl), (show r4_26_25 = _ :: _ :: _ :: _ :: _ :: _ :: _ :: _ :: _ :: r4_26_34 from rfl), zq6, zq8, zq9, zq98, setA, setB, za, zb, zc, zd, ze, zf, zg, zh, zi, zj, zk, zl, zm, zn, zo, zp, reduceCtorEq, zE, ↓reduceIte]
  refine brB (fun yc102 => ?_) (fun yc102 => ?_)
  · simp -implicitDefEqProofs only [zq6, zq8, zq9, zq98, yc102, setA, setB, za, zb, zc, zd, ze, zf, zg, zh, zi, zj, zk, zl, zm, zn, zo, zp, reduceCtorEq, zE, ↓reduceIte]
    exact j4_26r34v2_t true h1_0 h1_1 h1_2 h1_3 h1_4 h1_5 h1_6 h1_7 h1_8 h1_9 h3_0 h3_1 h3_2 h3_3 h3_4 h3_5 h3_6 h3_7 h3_8 h3_9 h4_0 h4_1 h4_2 h4_3 h4_4 h4_5 h4_6 h4_7 h4_8 h4_9 _ _ _ (by exact zq6) (by exact zq8) (by exact zq9) (by rfl)
  · simp -implicitDefEqProofs only [Tryd.underlying24, sz4, ag4, zq6, zq8, zq9, zq98, yc102, setA, setB, za, zb, zc, zd, ze, zf, zg, zh, zi, zj, zk, zl, zm, zn, zo, zp, reduceCtorEq, zE, ↓reduceIte]
    refine brB (fun yc117 => ?_) (fun yc117 => ?_)
    · simp -implicitDefEqProofs only [Tryd.underlying24, sz4, ag4, zq6, zq8, zq9, zq98, yc102, yc117, setA, setB, za, zb, zc, zd, ze, zf, zg, zh, zi, zj, zk, zl, zm, zn, zo, zp, reduceCtorEq, zE, ↓reduceIte]
      exact j4_26r34v2_t (!h4_3) h1_0 h1_1 h1_2 h1_3 h1_4 h1_5 h1_6 h1_7 h1_8 h1_9 h3_0 h3_1 h3_2 true h3_4 h3_5 h3_6 h3_7 h3_8 h3_9 h4_0 h4_1 h4_2 h4_3 h4_4 h4_5 h4_6 h4_7 h4_8 h4_9 _ _ _ (by exact zq6) (by exact zq8) (by exact zq9) (by rfl)
    · simp -implicitDefEqProofs only [zq6, zq8, zq9, zq98, yc102, yc117, setA, setB, za, zb, zc, zd, ze, zf, zg, zh, zi, zj, zk, zl, zm, zn, zo, zp, reduceCtorEq, zE, ↓reduceIte]
      exact j4_26r34v2_t false h1_0 h1_1 h1_2 h1_3 h1_4 h1_5 h1_6 h1_7 h1_8 h1_9 h3_0 h3_1 h3_2 false h3_4 h3_5 h3_6 h3_7 h3_8 h3_9 h4_0 h4_1 h4_2 h4_3 h4_4 h4_5 h4_6 h4_7 h4_8 h4_9 _ _ _ (by exact zq6) (by exact zq8) (by exact zq9) (by rfl)
def j4_26r16v2 (t89 h1_0 : Bool) (h1_1 h1_2 : Bool) (h1_3 h1_4 h1_5 : Bool) (h1_6 h1_7 : Int) (h1_8 h1_9 : Int) (h3_0 h3_1 : Bool) (h3_2 h3_3 : Bool) (h3_4 h3_5 : Bool) (h3_6 h3_7 : Int) (h3_8 h3_9 : Int) (h4_0 h4_1 : Bool) (h4_2 h4_3 : Bool) (h4_4 h4_5 : Bool) (h4_6 h4_7 : Int) (h4_8 h4_9 : Int) : Option R4 :=
  if t89 = true then
    j4_26r25v2 true h1_0 h1_1 h1_2 h1_3 h1_4 h1_5 h1_6 h1_7 h1_8 h1_9 h3_0 h3_1 h3_2 h3_3 h3_4 h3_5 h3_6 h3_7 h3_8 h3_9 h4_0 h4_1 h4_2 h4_3 h4_4 h4_5 h4_6 h4_7 h4_8 h4_9
  else
    if h3_2 = true then
      j4_26r25v2 (!h4_2) h1_0 h1_1 h1_2 h1_3 h1_4 h1_5 h1_6 h1_7 h1_8 h1_9 h3_0 h3_1 true h3_3 h3_4 h3_5 h3_6 h3_7 h3_8 h3_9 h4_0 h4_1 h4_2 h4_3 h4_4 h4_5 h4_6 h4_7 h4_8 h4_9
    else
      j4_26r25v2 false h1_0 h1_1 h1_2 h1_3 h1_4 h1_5 h1_6 h1_7 h1_8 h1_9 h3_0 h3_1 false h3_3 h3_4 h3_5 h3_6 h3_7 h3_8 h3_9 h4_0 h4_1 h4_2 h4_3 h4_4 h4_5 h4_6 h4_7 h4_8 h4_9
theorem j4_26r16v2_t (t89 h1_0 : Bool) (h1_1 h1_2 : Bool) (h1_3 h1_4 h1_5 : Bool) (h1_6 h1_7 : Int) (h1_8 h1_9 : Int) (h3_0 h3_1 : Bool) (h3_2 h3_3 : Bool) (h3_4 h3_5 : Bool) (h3_6 h3_7 : Int) (h3_8 h3_9 : Int) (h4_0 h4_1 : Bool) (h4_2 h4_3 : Bool) (h4_4 h4_5 : Bool) (h4_6 h4_7 : Int) (h4_8 h4_9 : Int) (g0 g2 : Ob) (sl : Nat → AV) (zq6 : sl 6 = .v (.c (.ptr 1 0))) (zq8 : sl 8 = .v (.c (.ptr 3 0))) (zq9 : sl 9 = .v (.c (.ptr 4 0))) (zq89 : sl 89 = .v (.c (.d (.sc (.bool t89))))) :
    bodyD (E0 mm) [.tmp 4] 0 false (seqD (E0 mm) 4 0 (callW (E0 mm)) itW c4_32 (seqD (E0 mm) 4 0 (callW (E0 mm)) itW c4_27 (regD (runOps (E0 mm) (callW (E0 mm)) (opsOf c4_26) r4_26_16 ⟨sl, [g0, .cells [.d (.sc (.bool h1_0)), .d (.sc (.bool h1_1)), .d (.sc (.bool h1_2)), .d (.sc (.bool h1_3)), .d (.sc (.bool h1_4)), .d (.sc (.bool h1_5)), .d (.sc (.int .i64 h1_6)), .d (.sc (.int .i64 h1_7)), .d (.sc (.int .i64 h1_8)), .d (.sc (.int .i64 h1_9))], g2, .cells [.d (.sc (.bool h3_0)), .d (.sc (.bool h3_1)), .d (.sc (.bool h3_2)), .d (.sc (.bool h3_3)), .d (.sc (.bool h3_4)), .d (.sc (.bool h3_5)), .d (.sc (.int .i64 h3_6)), .d (.sc (.int .i64 h3_7)), .d (.sc (.int .i64 h3_8)), .d (.sc (.int .i64 h3_9))], .cells [.d (.sc (.bool h4_0)), .d (.sc (.bool h4_1)), .d (.sc (.bool h4_2)), .d (.sc (.bool h4_3)), .d (.sc (.bool h4_4)), .d (.sc (.bool h4_5)), .d (.sc (.int .i64 h4_6)), .d (.sc (.int .i64 h4_7)), .d (.sc (.int .i64 h4_8)), .d (.sc (.int .i64 h4_9))]]⟩)))) = (j4_26r16v2 t89 h1_0 h1_1 h1_2 h1_3 h1_4 h1_5 h1_6 h1_7 h1_8 h1_9 h3_0 h3_1 h3_2 h3_3 h3_4 h3_5 h3_6 h3_7 h3_8 h3_9 h4_0 h4_1 h4_2 h4_3 h4_4 h4_5 h4_6 h4_7 h4_8 h4_9).map e4 := by
  simp -implicitDefEqProofs only [j4_26r16v2, (show opsOf c4_26 = _ :: _ from rfl), (show r4_26_16 = _ :: _ :: _ :: _ :: _ :: _ :: _ :: _ :: _ :: r4_26_25 from rfl), zq6, zq8, zq9, zq89, setA, setB, za, zb, zc, zd, ze, zf, zg, zh, zi, zj, zk, zl, zm, zn, zo, zp, reduceCtorEq, zE, ↓reduceIte]
  refine brB (fun yc101 => ?_) (fun yc101 => ?_)
  · simp -implicitDefEqProofs only [zq6, zq8, zq9, zq89, yc101, setA, setB, za, zb, zc, zd, ze, zf, zg, zh, zi, zj, zk, zl, zm, zn, zo, zp, reduceCtorEq, zE, ↓reduceIte]
    exact j4_26r25v2_t true h1_0 h1_1 h1_2 h1_3 h1_4 h1_5 h1_6 h1_7 h1_8 h1_9 h3_0 h3_1 h3_2 h3_3 h3_4 h3_5 h3_6 h3_7 h3_8 h3_9 h4_0 h4_1 h4_2 h4_3 h4_4 h4_5 h4_6 h4_7 h4_8 h4_9 _ _ _ (by exact zq6) (by exact zq8) (by exact zq9) (by rfl)
  · simp -implicitDefEqProofs only [Tryd.underlying24, sz4, ag4, zq6, zq8, zq9, zq89, yc101, setA, setB, za, zb, zc, zd, ze, zf, zg, zh, zi, zj, zk, zl, zm, zn, zo, zp, reduceCtorEq, zE, ↓reduceIte]
    refine brB (fun yc118 => ?_) (fun yc118 => ?_)
    · simp -implicitDefEqProofs only [Tryd.underlying24, sz4, ag4, zq6, zq8, zq9, zq89, yc101, yc118, setA, setB, za, zb, zc, zd, ze, zf, zg, zh, zi, zj, zk, zl, zm, zn, zo, zp, reduceCtorEq, zE, ↓reduceIte]
      exact j4_26r25v2_t (!h4_2) h1_0 h1_1 h1_2 h1_3 h1_4 h1_5 h1_6 h1_7 h1_8 h1_9 h3_0 h3_1 true h3_3 h3_4 h3_5 h3_6 h3_7 h3_8 h3_9 h4_0 h4_1 h4_2 h4_3 h4_4 h4_5 h4_6 h4_7 h4_8 h4_9 _ _ _ (by exact zq6) (by exact zq8) (by exact zq9) (by rfl)
    · simp -implicitDefEqProofs only [zq6, zq8, zq9, zq89, yc101, yc118, setA, setB, za, zb, zc, zd, ze, zf, zg, zh, zi, zj, zk, zl, zm, zn, zo, zp, reduceCtorEq, zE, ↓reduceIte]
      exact j4_26r25v2_t false h1_0 h1_1 h1_2 h1_3 h1_4 h1_5 h1_6 h1_7 h1_8 h1_9 h3_0 h3_1 false h3_3 h3_4 h3_5 h3_6 h3_7 h3_8 h3_9 h4_0 h4_1 h4_2 h4_3 h4_4 h4_5 h4_6 h4_7 h4_8 h4_9 _ _ _ (by exact zq6) (by exact zq8) (by exact zq9) (by rfl)
def j4_22v2 (l0_0 : Bool) (l0_1 : List (Bs × Bs)) (all5_0 : Bool) (all5_1 : List (Bs × Bs)) (h1_0 h1_1 : Bool) (h1_2 h1_3 : Bool) (h1_4 h1_5 : Bool) (h1_6 h1_7 : Int) (h1_8 h1_9 : Int) : Option R4 :=
  (m9 l0_0 l0_1).bind fun yr95 =>
    (m9 all5_0 all5_1).bind fun yr97 =>
      if yr95.1 = true then
        if yr97.1 = true then
          if yr95.2.1 = true then
            j4_26r16v2 (!yr97.2.1) h1_0 h1_1 h1_2 h1_3 h1_4 h1_5 h1_6 h1_7 h1_8 h1_9 true true yr95.2.2.1 yr95.2.2.2.1 yr95.2.2.2.2.1 yr95.2.2.2.2.2.1 yr95.2.2.2.2.2.2.1 yr95.2.2.2.2.2.2.2.1 yr95.2.2.2.2.2.2.2.2.1 yr95.2.2.2.2.2.2.2.2.2 true yr97.2.1 yr97.2.2.1 yr97.2.2.2.1 yr97.2.2.2.2.1 yr97.2.2.2.2.2.1 yr97.2.2.2.2.2.2.1 yr97.2.2.2.2.2.2.2.1 yr97.2.2.2.2.2.2.2.2.1 yr97.2.2.2.2.2.2.2.2.2
          else
            j4_26r16v2 false h1_0 h1_1 h1_2 h1_3 h1_4 h1_5 h1_6 h1_7 h1_8 h1_9 true false yr95.2.2.1 yr95.2.2.2.1 yr95.2.2.2.2.1 yr95.2.2.2.2.2.1 yr95.2.2.2.2.2.2.1 yr95.2.2.2.2.2.2.2.1 yr95.2.2.2.2.2.2.2.2.1 yr95.2.2.2.2.2.2.2.2.2 true yr97.2.1 yr97.2.2.1 yr97.2.2.2.1 yr97.2.2.2.2.1 yr97.2.2.2.2.2.1 yr97.2.2.2.2.2.2.1 yr97.2.2.2.2.2.2.2.1 yr97.2.2.2.2.2.2.2.2.1 yr97.2.2.2.2.2.2.2.2.2
        else
          j4_26r16v2 true h1_0 h1_1 h1_2 h1_3 h1_4 h1_5 h1_6 h1_7 h1_8 h1_9 true yr95.2.1 yr95.2.2.1 yr95.2.2.2.1 yr95.2.2.2.2.1 yr95.2.2.2.2.2.1 yr95.2.2.2.2.2.2.1 yr95.2.2.2.2.2.2.2.1 yr95.2.2.2.2.2.2.2.2.1 yr95.2.2.2.2.2.2.2.2.2 false yr97.2.1 yr97.2.2.1 yr97.2.2.2.1 yr97.2.2.2.2.1 yr97.2.2.2.2.2.1 yr97.2.2.2.2.2.2.1 yr97.2.2.2.2.2.2.2.1 yr97.2.2.2.2.2.2.2.2.1 yr97.2.2.2.2.2.2.2.2.2
      else
        if yr95.2.1 = true then
          j4_26r16v2 (!yr97.2.1) h1_0 h1_1 h1_2 h1_3 h1_4 h1_5 h1_6 h1_7 h1_8 h1_9 false true yr95.2.2.1 yr95.2.2.2.1 yr95.2.2.2.2.1 yr95.2.2.2.2.2.1 yr95.2.2.2.2.2.2.1 yr95.2.2.2.2.2.2.2.1 yr95.2.2.2.2.2.2.2.2.1 yr95.2.2.2.2.2.2.2.2.2 yr97.1 yr97.2.1 yr97.2.2.1 yr97.2.2.2.1 yr97.2.2.2.2.1 yr97.2.2.2.2.2.1 yr97.2.2.2.2.2.2.1 yr97.2.2.2.2.2.2.2.1 yr97.2.2.2.2.2.2.2.2.1 yr97.2.2.2.2.2.2.2.2.2
        else
          j4_26r16v2 false h1_0 h1_1 h1_2 h1_3 h1_4 h1_5 h1_6 h1_7 h1_8 h1_9 false false yr95.2.2.1 yr95.2.2.2.1 yr95.2.2.2.2.1 yr95.2.2.2.2.2.1 yr95.2.2.2.2.2.2.1 yr95.2.2.2.2.2.2.2.1 yr95.2.2.2.2.2.2.2.2.1 yr95.2.2.2.2.2.2.2.2.2 yr97.1 yr97.2.1 yr97.2.2.1 yr97.2.2.2.1 yr97.2.2.2.2.1 yr97.2.2.2.2.2.1 yr97.2.2.2.2.2.2.1 yr97.2.2.2.2.2.2.2.1 yr97.2.2.2.2.2.2.2.2.1 yr97.2.2.2.2.2.2.2.2.2
theorem j4_22v2_t (l0_0 : Bool) (l0_1 : List (Bs × Bs)) (all5_0 : Bool) (all5_1 : List (Bs × Bs)) (h1_0 h1_1 : Bool) (h1_2 h1_3 : Bool) (h1_4 h1_5 : Bool) (h1_6 h1_7 : Int) (h1_8 h1_9 : Int) (g2 : Ob) (sl : Nat → AV) (zq0 : sl 0 = .v (.c (.d (.lst l0_0 (enL enSS l0_1))))) (zq5 : sl 5 = .v (.c (.own all5_0 (enL enSS all5_1) 0))) (zq6 : sl 6 = .v (.c (.ptr 1 0))) :
    bodyD (E0 mm) [.tmp 4] 0 false (den (E0 mm) 4 0 (callW (E0 mm)) itW c4_22 none ⟨sl, [.row all5_1.length (rz all5_0 2), .cells [.d (.sc (.bool h1_0)), .d (.sc (.bool h1_1)), .d (.sc (.bool h1_2)), .d (.sc (.bool h1_3)), .d (.sc (.bool h1_4)), .d (.sc (.bool h1_5)), .d (.sc (.int .i64 h1_6)), .d (.sc (.int .i64 h1_7)), .d (.sc (.int .i64 h1_8)), .d (.sc (.int .i64 h1_9))], g2]⟩) = (j4_22v2 l0_0 l0_1 all5_0 all5_1 h1_0 h1_1 h1_2 h1_3 h1_4 h1_5 h1_6 h1_7 h1_8 h1_9).map e4 := by
  simp -implicitDefEqProofs only [j4_22v2, c4_22_e, c4_23_r, (show opsOf c4_23 = _ :: _ from rfl), ent9, prm9, f9_t, zq0, zq5, zq6, setA, setB, za, zb, zc, zd, ze, zf, zg, zh, zi, zj, zk, zl, zm, zn, zo, zp, reduceCtorEq, zE, ↓reduceIte]
  refine brM (fun yc94 => ?_) (fun yr95 yc94 => ?_)
  · rw [yc94]; rfl
  · simp -implicitDefEqProofs only [e9, ent9, prm9, f9_t, zq0, zq5, zq6, yc94, setA, setB, za, zb, zc, zd, ze, zf, zg, zh, zi, zj, zk, zl, zm, zn, zo, zp, reduceCtorEq, zE, ↓reduceIte]
    refine brM (fun yc96 => ?_) (fun yr97 yc96 => ?_)
    · rw [yc96]; rfl
    · simp -implicitDefEqProofs only [e9, zc24, ao65, sz24, c4_24_e, c4_25_e, c4_26_r, (show opsOf c4_26 = _ :: _ :: _ :: _ :: _ :: _ :: _ :: _ :: _ :: _ :: _ :: _ :: _ :: _ :: _ :: _ :: r4_26_16 from rfl), Tryd.underlying24, sz4, ag4, zq0, zq5, zq6, yc94, yc96, setA, setB, za, zb, zc, zd, ze, zf, zg, zh, zi, zj, zk, zl, zm, zn, zo, zp, reduceCtorEq, zE, ↓reduceIte]
      refine brB (fun yc98 => ?_) (fun yc98 => ?_)
      · simp -implicitDefEqProofs only [Tryd.underlying24, sz4, ag4, zq0, zq5, zq6, yc94, yc96, yc98, setA, setB, za, zb, zc, zd, ze, zf, zg, zh, zi, zj, zk, zl, zm, zn, zo, zp, reduceCtorEq, zE, ↓reduceIte]
        refine brB (fun yc99 => ?_) (fun yc99 => ?_)
        · simp -implicitDefEqProofs only [Tryd.underlying24, sz4, ag4, zq0, zq5, zq6, yc94, yc96, yc98, yc99, setA, setB, za, zb, zc, zd, ze, zf, zg, zh, zi, zj, zk, zl, zm, zn, zo, zp, reduceCtorEq, zE, ↓reduceIte]
          refine brB (fun yc100 => ?_) (fun yc100 => ?_)
          · simp -implicitDefEqProofs only [Tryd.underlying24, sz4, ag4, zq0, zq5, zq6, yc94, yc96, yc98, yc99, yc100, setA, setB, za, zb, zc, zd, ze, zf, zg, zh, zi, zj, zk, zl, zm, zn, zo, zp, reduceCtorEq, zE, ↓reduceIte]
            exact j4_26r16v2_t (!yr97.2.1) h1_0 h1_1 h1_2 h1_3 h1_4 h1_5 h1_6 h1_7 h1_8 h1_9 true true yr95.2.2.1 yr95.2.2.2.1 yr95.2.2.2.2.1 yr95.2.2.2.2.2.1 yr95.2.2.2.2.2.2.1 yr95.2.2.2.2.2.2.2.1 yr95.2.2.2.2.2.2.2.2.1 yr95.2.2.2.2.2.2.2.2.2 true yr97.2.1 yr97.2.2.1 yr97.2.2.2.1 yr97.2.2.2.2.1 yr97.2.2.2.2.2.1 yr97.2.2.2.2.2.2.1 yr97.2.2.2.2.2.2.2.1 yr97.2.2.2.2.2.2.2.2.1 yr97.2.2.2.2.2.2.2.2.2 _ _ _ (by exact zq6) (by rfl) (by rfl) (by rfl)
          · simp -implicitDefEqProofs only [zq0, zq5, zq6, yc94, yc96, yc98, yc99, yc100, setA, setB, za, zb, zc, zd, ze, zf, zg, zh, zi, zj, zk, zl, zm, zn, zo, zp, reduceCtorEq, zE, ↓reduceIte]
            exact j4_26r16v2_t false h1_0 h1_1 h1_2 h1_3 h1_4 h1_5 h1_6 h1_7 h1_8 h1_9 true false yr95.2.2.1 yr95.2.2.2.1 yr95.2.2.2.2.1 yr95.2.2.2.2.2.1 yr95.2.2.2.2.2.2.1 yr95.2.2.2.2.2.2.2.1 yr95.2.2.2.2.2.2.2.2.1 yr95.2.2.2.2.2.2.2.2.2 true yr97.2.1 yr97.2.2.1 yr97.2.2.2.1 yr97.2.2.2.2.1 yr97.2.2.2.2.2.1 yr97.2.2.2.2.2.2.1 yr97.2.2.2.2.2.2.2.1 yr97.2.2.2.2.2.2.2.2.1 yr97.2.2.2.2.2.2.2.2.2 _ _ _ (by exact zq6) (by rfl) (by rfl) (by rfl)
        · simp -implicitDefEqProofs only [zq0, zq5, zq6, yc94, yc96, yc98, yc99, setA, setB, za, zb, zc, zd, ze, zf, zg, zh, zi, zj, zk, zl, zm, zn, zo, zp, reduceCtorEq, zE, ↓reduceIte]
          exact j4_26r16v2_t true h1_0 h1_1 h1_2 h1_3 h1_4 h1_5 h1_6 h1_7 h1_8 h1_9 true yr95.2.1 yr95.2.2.1 yr95.2.2.2.1 yr95.2.2.2.2.1 yr95.2.2.2.2.2.1 yr95.2.2.2.2.2.2.1 yr95.2.2.2.2.2.2.2.1 yr95.2.2.2.2.2.2.2.2.1 yr95.2.2.2.2.2.2.2.2.2 false yr97.2.1 yr97.2.2.1 yr97.2.2.2.1 yr97.2.2.2.2.1 yr97.2.2.2.2.2.1 yr97.2.2.2.2.2.2.1 yr97.2.2.2.2.2.2.2.1 yr97.2.2.2.2.2.2.2.2.1 yr97.2.2.2.2.2.2.2.2.2 _ _ _ (by exact zq6) (by rfl) (by rfl) (by rfl)
      · simp -implicitDefEqProofs only [Tryd.underlying24, sz4, ag4, zq0, zq5, zq6, yc94, yc96, yc98, setA, setB, za, zb, zc, zd, ze, zf, zg, zh, zi, zj, zk, zl, zm, zn, zo, zp, reduceCtorEq, zE, ↓reduceIte]
        refine brB (fun yc119 => ?_) (fun yc119 => ?_)
        · simp -implicitDefEqProofs only [Tryd.underlying24, sz4, ag4, zq0, zq5, zq6, yc94, yc96, yc98, yc119, setA, setB, za, zb, zc, zd, ze, zf, zg, zh, zi, zj, zk, zl, zm, zn, zo, zp, reduceCtorEq, zE, ↓reduceIte]
          exact j4_26r16v2_t (!yr97.2.1) h1_0 h1_1 h1_2 h1_3 h1_4 h1_5 h1_6 h1_7 h1_8 h1_9 false true yr95.2.2.1 yr95.2.2.2.1 yr95.2.2.2.2.1 yr95.2.2.2.2.2.1 yr95.2.2.2.2.2.2.1 yr95.2.2.2.2.2.2.2.1 yr95.2.2.2.2.2.2.2.2.1 yr95.2.2.2.2.2.2.2.2.2 yr97.1 yr97.2.1 yr97.2.2.1 yr97.2.2.2.1 yr97.2.2.2.2.1 yr97.2.2.2.2.2.1 yr97.2.2.2.2.2.2.1 yr97.2.2.2.2.2.2.2.1 yr97.2.2.2.2.2.2.2.2.1 yr97.2.2.2.2.2.2.2.2.2 _ _ _ (by exact zq6) (by rfl) (by rfl) (by rfl)
        · simp -implicitDefEqProofs only [zq0, zq5, zq6, yc94, yc96, yc98, yc119, setA, setB, za, zb, zc, zd, ze, zf, zg, zh, zi, zj, zk, zl, zm, zn, zo, zp, reduceCtorEq, zE, ↓reduceIte]
          exact j4_26r16v2_t false h1_0 h1_1 h1_2 h1_3 h1_4 h1_5 h1_6 h1_7 h1_8 h1_9 false false yr95.2.2.1 yr95.2.2.2.1 yr95.2.2.2.2.1 yr95.2.2.2.2.2.1 yr95.2.2.2.2.2.2.1 yr95.2.2.2.2.2.2.2.1 yr95.2.2.2.2.2.2.2.2.1 yr95.2.2.2.2.2.2.2.2.2 yr97.1 yr97.2.1 yr97.2.2.1 yr97.2.2.2.1 yr97.2.2.2.2.1 yr97.2.2.2.2.2.1 yr97.2.2.2.2.2.2.1 yr97.2.2.2.2.2.2.2.1 yr97.2.2.2.2.2.2.2.2.1 yr97.2.2.2.2.2.2.2.2.2 _ _ _ (by exact zq6) (by rfl) (by rfl) (by rfl)
def j4_17v2 (l0_0 : Bool) (l0_1 : List (Bs × Bs)) (all5_0 : Bool) (all5_1 : List (Bs × Bs)) (t69 h1_0 : Bool) (h1_1 h1_2 : Bool) (h1_3 h1_4 h1_5 : Bool) (h1_6 h1_7 : Int) (h1_8 h1_9 : Int) : Option R4 :=
  if t69 = true then
    some false
  else
    j4_22v2 l0_0 l0_1 all5_0 all5_1 h1_0 h1_1 h1_2 h1_3 h1_4 h1_5 h1_6 h1_7 h1_8 h1_9
theorem j4_17v2_t (l0_0 : Bool) (l0_1 : List (Bs × Bs)) (all5_0 : Bool) (all5_1 : List (Bs × Bs)) (t69 h1_0 : Bool) (h1_1 h1_2 : Bool) (h1_3 h1_4 h1_5 : Bool) (h1_6 h1_7 : Int) (h1_8 h1_9 : Int) (g2 : Ob) (sl : Nat → AV) (zq0 : sl 0 = .v (.c (.d (.lst l0_0 (enL enSS l0_1))))) (zq5 : sl 5 = .v (.c (.own all5_0 (enL enSS all5_1) 0))) (zq6 : sl 6 = .v (.c (.ptr 1 0))) (zq69 : sl 69 = .v (.c (.d (.sc (.bool t69))))) :
    bodyD (E0 mm) [.tmp 4] 0 false (seqD (E0 mm) 4 0 (callW (E0 mm)) itW c4_22 (den (E0 mm) 4 0 (callW (E0 mm)) itW c4_17 none ⟨sl, [.row all5_1.length (rz all5_0 2), .cells [.d (.sc (.bool h1_0)), .d (.sc (.bool h1_1)), .d (.sc (.bool h1_2)), .d (.sc (.bool h1_3)), .d (.sc (.bool h1_4)), .d (.sc (.bool h1_5)), .d (.sc (.int .i64 h1_6)), .d (.sc (.int .i64 h1_7)), .d (.sc (.int .i64 h1_8)), .d (.sc (.int .i64 h1_9))], g2]⟩)) = (j4_17v2 l0_0 l0_1 all5_0 all5_1 t69 h1_0 h1_1 h1_2 h1_3 h1_4 h1_5 h1_6 h1_7 h1_8 h1_9).map e4 := by
  simp -implicitDefEqProofs only [j4_17v2, (show c4_17 = Code.cond _ c4_18 c4_21 from rfl), zq0, zq5, zq6, zq69, setA, setB, za, zb, zc, zd, ze, zf, zg, zh, zi, zj, zk, zl, zm, zn, zo, zp, reduceCtorEq, zE, ↓reduceIte]
  refine brB (fun yc93 => ?_) (fun yc93 => ?_)
  · simp -implicitDefEqProofs only [c4_18_e, c4_19_r, (show opsOf c4_19 = _ :: _ from rfl), c4_20_e, zq0, zq5, zq6, zq69, yc93, setA, setB, za, zb, zc, zd, ze, zf, zg, zh, zi, zj, zk, zl, zm, zn, zo, zp, reduceCtorEq, zE, ↓reduceIte]
    all_goals rfl
  · simp -implicitDefEqProofs only [c4_21_e, zq0, zq5, zq6, zq69, yc93, setA, setB, za, zb, zc, zd, ze, zf, zg, zh, zi, zj, zk, zl, zm, zn, zo, zp, reduceCtorEq, zE, ↓reduceIte]
    exact j4_22v2_t l0_0 l0_1 all5_0 all5_1 h1_0 h1_1 h1_2 h1_3 h1_4 h1_5 h1_6 h1_7 h1_8 h1_9 _ _ (by exact zq0) (by exact zq5) (by exact zq6)
def j4_33r50v2 (t166 : Bool) : Option R4 :=
  some t166
theorem j4_33r50v2_t (t166 : Bool) (g0 g1 : Ob) (g2 g3 : Ob) (g4 g5 : Ob) (sl : Nat → AV) (zq166 : sl 166 = .v (.c (.d (.sc (.bool t166))))) :
    bodyD (E0 mm) [.tmp 4] 0 false (seqD (E0 mm) 4 0 (callW (E0 mm)) itW c4_34 (regD (runOps (E0 mm) (callW (E0 mm)) (opsOf c4_33) r4_33_50 ⟨sl, [g0, g1, g2, g3, g4, g5]⟩))) = (j4_33r50v2 t166).map e4 := by
  simp -implicitDefEqProofs only [j4_33r50v2, (show opsOf c4_33 = _ :: _ from rfl), (show r4_33_50 = _ :: _ from rfl), c4_34_e, zq166, setA, setB, za, zb, zc, zd, ze, zf, zg, zh, zi, zj, zk, zl, zm, zn, zo, zp, reduceCtorEq, zE, ↓reduceIte]
  all_goals rfl
def j4_33r47v2 (t163 : Bool) : Option R4 :=
  if t163 = true then
    j4_33r50v2 true
  else
    j4_33r50v2 false
theorem j4_33r47v2_t (t163 : Bool) (g0 g1 : Ob) (g2 g3 : Ob) (g4 g5 : Ob) (sl : Nat → AV) (zq163 : sl 163 = .v (.c (.d (.sc (.bool t163))))) :
    bodyD (E0 mm) [.tmp 4] 0 false (seqD (E0 mm) 4 0 (callW (E0 mm)) itW c4_34 (regD (runOps (E0 mm) (callW (E0 mm)) (opsOf c4_33) r4_33_47 ⟨sl, [g0, g1, g2, g3, g4, g5]⟩))) = (j4_33r47v2 t163).map e4 := by
  simp -implicitDefEqProofs only [j4_33r47v2, (show opsOf c4_33 = _ :: _ from rfl), (show r4_33_47 = _ :: _ :: _ :: r4_33_50 from rfl), zq163, setA, setB, za, zb, zc, zd, ze, zf, zg, zh, zi, zj, zk, zl, zm, zn, zo, zp, reduceCtorEq, zE, ↓reduceIte]
  refine brB (fun yc146 => ?_) (fun yc146 => ?_)
  · simp -implicitDefEqProofs only [ent12, prm12, f12_t, zq163, yc146, setA, setB, za, zb, zc, zd, ze, zf, zg, zh, zi, zj, zk, zl, zm, zn, zo, zp, reduceCtorEq, zE, ↓reduceIte]
    exact j4_33r50v2_t true _ _ _ _ _ _ _ (by rfl)
  · simp -implicitDefEqProofs only [zq163, yc146, setA, setB, za, zb, zc, zd, ze, zf, zg, zh, zi, zj, zk, zl, zm, zn, zo, zp, reduceCtorEq, zE, ↓reduceIte]
    exact j4_33r50v2_t false _ _ _ _ _ _ _ (by rfl)
def j4_33r42v2 (t158 h4_0 : Bool) (h4_1 h4_2 : Bool) (h4_3 h4_4 h4_5 : Bool) (h4_6 h4_7 : Int) (h4_8 h4_9 : Int) : Option R4 :=
  if t158 = true then
    j4_33r47v2 (!h4_5)
  else
    j4_33r47v2 false
theorem j4_33r42v2_t (t158 h4_0 : Bool) (h4_1 h4_2 : Bool) (h4_3 h4_4 h4_5 : Bool) (h4_6 h4_7 : Int) (h4_8 h4_9 : Int) (g0 g1 : Ob) (g2 g3 g5 : Ob) (sl : Nat → AV) (zq8 : sl 8 = .v (.c (.ptr 4 0))) (zq158 : sl 158 = .v (.c (.d (.sc (.bool t158))))) :
    bodyD (E0 mm) [.tmp 4] 0 false (seqD (E0 mm) 4 0 (callW (E0 mm)) itW c4_34 (regD (runOps (E0 mm) (callW (E0 mm)) (opsOf c4_33) r4_33_42 ⟨sl, [g0, g1, g2, g3, .cells [.d (.sc (.bool h4_0)), .d (.sc (.bool h4_1)), .d (.sc (.bool h4_2)), .d (.sc (.bool h4_3)), .d (.sc (.bool h4_4)), .d (.sc (.bool h4_5)), .d (.sc (.int .i64 h4_6)), .d (.sc (.int .i64 h4_7)), .d (.sc (.int .i64 h4_8)), .d (.sc (.int .i64 h4_9))], g5]⟩))) = (j4_33r42v2 t158 h4_0 h4_1 h4_2 h4_3 h4_4 h4_5 h4_6 h4_7 h4_8 h4_9).map e4 := by
  simp -implicitDefEqProofs only [j4_33r42v2, (show opsOf c4_33 = _ :: _ from rfl), (show r4_33_42 = _ :: _ :: _ :: _ :: _ :: r4_33_47 from rfl), zq8, zq158, setA, setB, za, zb, zc, zd, ze, zf, zg, zh, zi, zj, zk, zl, zm, zn, zo, zp, reduceCtorEq, zE, ↓reduceIte]
  refine brB (fun yc145 => ?_) (fun yc145 => ?_)
  · simp -implicitDefEqProofs only [Tryd.underlying24, sz4, ag4, zq8, zq158, yc145, setA, setB, za, zb, zc, zd, ze, zf, zg, zh, zi, zj, zk, zl, zm, zn, zo, zp, reduceCtorEq, zE, ↓reduceIte]
    exact j4_33r47v2_t (!h4_5) _ _ _ _ _ _ _ (by rfl)
  · simp -implicitDefEqProofs only [zq8, zq158, yc145, setA, setB, za, zb, zc, zd, ze, zf, zg, zh, zi, zj, zk, zl, zm, zn, zo, zp, reduceCtorEq, zE, ↓reduceIte]
    exact j4_33r47v2_t false _ _ _ _ _ _ _ (by rfl)
def j4_33r37v3 (t153 h1_0 : Bool) (h1_1 h1_2 : Bool) (h1_3 h1_4 h1_5 : Bool) (h1_6 h1_7 : Int) (h1_8 h1_9 : Int) (h4_0 h4_1 : Bool) (h4_2 h4_3 : Bool) (h4_4 h4_5 : Bool) (h4_6 h4_7 : Int) (h4_8 h4_9 : Int) : Option R4 :=
  if t153 = true then
    j4_33r42v2 (!h1_4) h4_0 h4_1 h4_2 h4_3 h4_4 h4_5 h4_6 h4_7 h4_8 h4_9
  else
    j4_33r42v2 false h4_0 h4_1 h4_2 h4_3 h4_4 h4_5 h4_6 h4_7 h4_8 h4_9
theorem j4_33r37v3_t (t153 h1_0 : Bool) (h1_1 h1_2 : Bool) (h1_3 h1_4 h1_5 : Bool) (h1_6 h1_7 : Int) (h1_8 h1_9 : Int) (h4_0 h4_1 : Bool) (h4_2 h4_3 : Bool) (h4_4 h4_5 : Bool) (h4_6 h4_7 : Int) (h4_8 h4_9 : Int) (g0 g2 : Ob) (g3 g5 : Ob) (sl : Nat → AV) (zq6 : sl 6 = .v (.c (.ptr 1 0))) (zq8 : sl 8 = .v (.c (.ptr 4 0))) (zq153 : sl 153 = .v (.c (.d (.sc (.bool t153))))) :
    bodyD (E0 mm) [.tmp 4] 0 false (seqD (E0 mm) 4 0 (callW (E0 mm)) itW c4_34 (regD (runOps (E0 mm) (callW (E0 mm)) (opsOf c4_33) r4_33_37 ⟨sl, [g0, .cells [.d (.sc (.bool h1_0)), .d (.sc (.bool h1_1)), .d (.sc (.bool h1_2)), .d (.sc (.bool h1_3)), .d (.sc (.bool h1_4)), .d (.sc (.bool h1_5)), .d (.sc (.int .i64 h1_6)), .d (.sc (.int .i64 h1_7)), .d (.sc (.int .i64 h1_8)), .d (.sc (.int .i64 h1_9))], g2, g3, .cells [.d (.sc (.bool h4_0)), .d (.sc (.bool h4_1)), .d (.sc (.bool h4_2)), .d (.sc (.bool h4_3)), .d (.sc (.bool h4_4)), .d (.sc (.bool h4_5)), .d (.sc (.int .i64 h4_6)), .d (.sc (.int .i64 h4_7)), .d (.sc (.int .i64 h4_8)), .d (.sc (.int .i64 h4_9))], g5]⟩))) = (j4_33r37v3 t153 h1_0 h1_1 h1_2 h1_3 h1_4 h1_5 h1_6 h1_7 h1_8 h1_9 h4_0 h4_1 h4_2 h4_3 h4_4 h4_5 h4_6 h4_7 h4_8 h4_9).map e4 := by
  simp -implicitDefEqProofs only [j4_33r37v3, (show opsOf c4_33 = _ :: _ from rfl), (show r4_33_37 = _ :: _ :: _ :: _ :: _ :: r4_33_42 from rfl), zq6, zq8, zq153, setA, setB, za, zb, zc, zd, ze, zf, zg, zh, zi, zj, zk, zl, zm, zn, zo, zp, reduceCtorEq, zE, ↓reduceIte]
  refine brB (fun yc144 => ?_) (fun yc144 => ?_)
  · simp -implicitDefEqProofs only [Tryd.underlying24, sz4, ag4, zq6, zq8, zq153, yc144, setA, setB, za, zb, zc, zd, ze, zf, zg, zh, zi, zj, zk, zl, zm, zn, zo, zp, reduceCtorEq, zE, ↓reduceIte]
    exact j4_33r42v2_t (!h1_4) h4_0 h4_1 h4_2 h4_3 h4_4 h4_5 h4_6 h4_7 h4_8 h4_9 _ _ _ _ _ _ (by exact zq8) (by rfl)
  · simp -implicitDefEqProofs only [zq6, zq8, zq153, yc144, setA, setB, za, zb, zc, zd, ze, zf, zg, zh, zi, zj, zk, zl, zm, zn, zo, zp, reduceCtorEq, zE, ↓reduceIte]
    exact j4_33r42v2_t false h4_0 h4_1 h4_2 h4_3 h4_4 h4_5 h4_6 h4_7 h4_8 h4_9 _ _ _ _ _ _ (by exact zq8) (by rfl)
def j4_33r32v3 (t148 h1_0 : Bool) (h1_1 h1_2 : Bool) (h1_3 h1_4 h1_5 : Bool) (h1_6 h1_7 : Int) (h1_8 h1_9 : Int) (h4_0 h4_1 : Bool) (h4_2 h4_3 : Bool) (h4_4 h4_5 : Bool) (h4_6 h4_7 : Int) (h4_8 h4_9 : Int) : Option R4 :=
  if t148 = true then
    j4_33r37v3 (!h1_3) h1_0 h1_1 h1_2 h1_3 h1_4 h1_5 h1_6 h1_7 h1_8 h1_9 h4_0 h4_1 h4_2 h4_3 h4_4 h4_5 h4_6 h4_7 h4_8 h4_9
  else
    j4_33r37v3 false h1_0 h1_1 h1_2 h1_3 h1_4 h1_5 h1_6 h1_7 h1_8 h1_9 h4_0 h4_1 h4_2 h4_3 h4_4 h4_5 h4_6 h4_7 h4_8 h4_9
theorem j4_33r32v3_t (t148 h1_0 : Bool) (h1_1 h1_2 : Bool) (h1_3 h1_4 h1_5 : Bool) (h1_6 h1_7 : Int) (h1_8 h1_9 : Int) (h4_0 h4_1 : Bool) (h4_2 h4_3 : Bool) (h4_4 h4_5 : Bool) (h4_6 h4_7 : Int) (h4_8 h4_9 : Int) (g0 g2 : Ob) (g3 g5 : Ob) (sl : Nat → AV) (zq6 : sl 6 = .v (.c (.ptr 1 0))) (zq8 : sl 8 = .v (.c (.ptr 4 0))) (zq148 : sl 148 = .v (.c (.d (.sc (.bool t148))))) :
    bodyD (E0 mm) [.tmp 4] 0 false (seqD (E0 mm) 4 0 (callW (E0 mm)) itW c4_34 (regD (runOps (E0 mm) (callW (E0 mm)) (opsOf c4_33) r4_33_32 ⟨sl, [g0, .cells [.d (.sc (.bool h1_0)), .d (.sc (.bool h1_1)), .d (.sc (.bool h1_2)), .d (.sc (.bool h1_3)), .d (.sc (.bool h1_4)), .d (.sc (.bool h1_5)), .d (.sc (.int .i64 h1_6)), .d (.sc (.int .i64 h1_7)), .d (.sc (.int .i64 h1_8)), .d (.sc (.int .i64 h1_9))], g2, g3, .cells [.d (.sc (.bool h4_0)), .d (.sc (.bool h4_1)), .d (.sc (.bool h4_2)), .d (.sc (.bool h4_3)), .d (.sc (.bool h4_4)), .d (.sc (.bool h4_5)), .d (.sc (.int .i64 h4_6)), .d (.sc (.int .i64 h4_7)), .d (.sc (.int .i64 h4_8)), .d (.sc (.int .i64 h4_9))], g5]⟩))) = (j4_33r32v3 t148 h1_0 h1_1 h1_2 h1_3 h1_4 h1_5 h1_6 h1_7 h1_8 h1_9 h4_0 h4_1 h4_2 h4_3 h4_4 h4_5 h4_6 h4_7 h4_8 h4_9).map e4 := by
  simp -implicitDefEqProofs only [j4_33r32v3, (show opsOf c4_33 = _ :: _ from rfl), (show r4_33_32 = _ :: _ :: _ :: _ :: _ :: r4_33_37 from rfl), zq6, zq8, zq148, setA, setB, za, zb, zc, zd, ze, zf, zg, zh, zi, zj, zk, zl, zm, zn, zo, zp, reduceCtorEq, zE, ↓reduceIte]
  refine brB (fun yc143 => ?_) (fun yc143 => ?_)
  · simp -implicitDefEqProofs only [Tryd.underlying24, sz4, ag4, zq6, zq8, zq148, yc143, setA, setB, za, zb, zc, zd, ze, zf, zg, zh, zi, zj, zk, zl, zm, zn, zo, zp, reduceCtorEq, zE, ↓reduceIte]
    exact j4_33r37v3_t (!h1_3) h1_0 h1_1 h1_2 h1_3 h1_4 h1_5 h1_6 h1_7 h1_8 h1_9 h4_0 h4_1 h4_2 h4_3 h4_4 h4_5 h4_6 h4_7 h4_8 h4_9 _ _ _ _ _ (by exact zq6) (by exact zq8) (by rfl)
  · simp -implicitDefEqProofs only [zq6, zq8, zq148, yc143, setA, setB, za, zb, zc, zd, ze, zf, zg, zh, zi, zj, zk, zl, zm, zn, zo, zp, reduceCtorEq, zE, ↓reduceIte]
    exact j4_33r37v3_t false h1_0 h1_1 h1_2 h1_3 h1_4 h1_5 h1_6 h1_7 h1_8 h1_9 h4_0 h4_1 h4_2 h4_3 h4_4 h4_5 h4_6 h4_7 h4_8 h4_9 _ _ _ _ _ (by exact zq6) (by exact zq8) (by rfl)
def j4_33r27v3 (t143 h1_0 : Bool) (h1_1 h1_2 : Bool) (h1_3 h1_4 h1_5 : Bool) (h1_6 h1_7 : Int) (h1_8 h1_9 : Int) (h4_0 h4_1 : Bool) (h4_2 h4_3 : Bool) (h4_4 h4_5 : Bool) (h4_6 h4_7 : Int) (h4_8 h4_9 : Int) : Option R4 :=
  if t143 = true then
    j4_33r32v3 (!h1_2) h1_0 h1_1 h1_2 h1_3 h1_4 h1_5 h1_6 h1_7 h1_8 h1_9 h4_0 h4_1 h4_2 h4_3 h4_4 h4_5 h4_6 h4_7 h4_8 h4_9
  else
    j4_33r32v3 false h1_0 h1_1 h1_2 h1_3 h1_4 h1_5 h1_6 h1_7 h1_8 h1_9 h4_0 h4_1 h4_2 h4_3 h4_4 h4_5 h4_6 h4_7 h4_8 h4_9
theorem j4_33r27v3_t (t143 h1_0 : Bool) (h1_1 h1_2 : Bool) (h1_3 h1_4 h1_5 : Bool) (h1_6 h1_7 : Int) (h1_8 h1_9 : Int) (h4_0 h4_1 : Bool) (h4_2 h4_3 : Bool) (h4_4 h4_5 : Bool) (h4_6 h4_7 : Int) (h4_8 h4_9 : Int) (g0 g2 : Ob) (g3 g5 : Ob) (sl : Nat → AV) (zq6 : sl 6 = .v (.c (.ptr 1 0))) (zq8 : sl 8 = .v (.c (.ptr 4 0))) (zq143 : sl 143 = .v (.c (.d (.sc (.bool t143))))) :
    bodyD (E0 mm) [.tmp 4] 0 false (seqD (E0 mm) 4 0 (callW (E0 mm)) itW c4_34 (regD (runOps (E0 mm) (callW (E0 mm)) (opsOf c4_33) r4_33_27 ⟨sl, [g0, .cells [.d (.sc (.bool h1_0)), .d (.sc (.bool h1_1)), .d (.sc (.bool h1_2)), .d (.sc (.bool h1_3)), .d (.sc (.bool h1_4)), .d (.sc (.bool h1_5)), .d (.sc (.int .i64 h1_6)), .d (.sc (.int .i64 h1_7)), .d (.sc (.int .i64 h1_8)), .d (.sc (.int .i64 h1_9))], g2, g3, .cells [.d (.sc (.bool h4_0)), .d (.sc (.bool h4_1)), .d (.sc (.bool h4_2)), .d (.sc (.bool h4_3)), .d (.sc (.bool h4_4)), .d (.sc (.bool h4_5)), .d (.sc (.int .i64 h4_6)), .d (.sc (.int .i64 h4_7)), .d (.sc (.int .i64 h4_8)), .d (.sc (.int .i64 h4_9))], g5]⟩))) = (j4_33r27v3 t143 h1_0 h1_1 h1_2 h1_3 h1_4 h1_5 h1_6 h1_7 h1_8 h1_9 h4_0 h4_1 h4_2 h4_3 h4_4 h4_5 h4_6 h4_7 h4_8 h4_9).map e4 := by
  simp -implicitDefEqProofs only [j4_33r27v3, (show opsOf c4_33 = _ :: _ from rfl), (show r4_33_27 = _ :: _ :: _ :: _ :: _ :: r4_33_32 from rfl), zq6, zq8, zq143, setA, setB, za, zb, zc, zd, ze, zf, zg, zh, zi, zj, zk, zl, zm, zn, zo, zp, reduceCtorEq, zE, ↓reduceIte]
  refine brB (fun yc142 => ?_) (fun yc142 => ?_)
  · simp -implicitDefEqProofs only [Tryd.underlying24, sz4, ag4, zq6, zq8, zq143, yc142, setA, setB, za, zb, zc, zd, ze, zf, zg, zh, zi, zj, zk, zl, zm, zn, zo, zp, reduceCtorEq, zE, ↓reduceIte]
    exact j4_33r32v3_t (!h1_2) h1_0 h1_1 h1_2 h1_3 h1_4 h1_5 h1_6 h1_7 h1_8 h1_9 h4_0 h4_1 h4_2 h4_3 h4_4 h4_5 h4_6 h4_7 h4_8 h4_9 _ _ _ _ _ (by exact zq6) (by exact zq8) (by rfl)
  · simp -implicitDefEqProofs only [zq6, zq8, zq143, yc142, setA, setB, za, zb, zc, zd, ze, zf, zg, zh, zi, zj, zk, zl, zm, zn, zo, zp, reduceCtorEq, zE, ↓reduceIte]
    exact j4_33r32v3_t false h1_0 h1_1 h1_2 h1_3 h1_4 h1_5 h1_6 h1_7 h1_8 h1_9 h4_0 h4_1 h4_2 h4_3 h4_4 h4_5 h4_6 h4_7 h4_8 h4_9 _ _ _ _ _ (by exact zq6) (by exact zq8) (by rfl)
def j4_33r22v3 (t138 h1_0 : Bool) (h1_1 h1_2 : Bool) (h1_3 h1_4 h1_5 : Bool) (h1_6 h1_7 : Int) (h1_8 h1_9 : Int) (h4_0 h4_1 : Bool) (h4_2 h4_3 : Bool) (h4_4 h4_5 : Bool) (h4_6 h4_7 : Int) (h4_8 h4_9 : Int) : Option R4 :=
  if t138 = true then
    j4_33r27v3 (h4_9 == (-1)) h1_0 h1_1 h1_2 h1_3 h1_4 h1_5 h1_6 h1_7 h1_8 h1_9 h4_0 h4_1 h4_2 h4_3 h4_4 h4_5 h4_6 h4_7 h4_8 h4_9
  else
    j4_33r27v3 false h1_0 h1_1 h1_2 h1_3 h1_4 h1_5 h1_6 h1_7 h1_8 h1_9 h4_0 h4_1 h4_2 h4_3 h4_4 h4_5 h4_6 h4_7 h4_8 h4_9
theorem j4_33r22v3_t (t138 h1_0 : Bool) (h1_1 h1_2 : Bool) (h1_3 h1_4 h1_5 : Bool) (h1_6 h1_7 : Int) (h1_8 h1_9 : Int) (h4_0 h4_1 : Bool) (h4_2 h4_3 : Bool) (h4_4 h4_5 : Bool) (h4_6 h4_7 : Int) (h4_8 h4_9 : Int) (g0 g2 : Ob) (g3 g5 : Ob) (sl : Nat → AV) (zq6 : sl 6 = .v (.c (.ptr 1 0))) (zq8 : sl 8 = .v (.c (.ptr 4 0))) (zq138 : sl 138 = .v (.c (.d (.sc (.bool t138))))) :
    bodyD (E0 mm) [.tmp 4] 0 false (seqD (E0 mm) 4 0 (callW (E0 mm)) itW c4_34 (regD (runOps (E0 mm) (callW (E0 mm)) (opsOf c4_33) r4_33_22 ⟨sl, [g0, .cells [.d (.sc (.bool h1_0)), .d (.sc (.bool h1_1)), .d (.sc (.bool h1_2)), .d (.sc (.bool h1_3)), .d (.sc (.bool h1_4)), .d (.sc (.bool h1_5)), .d (.sc (.int .i64 h1_6)), .d (.sc (.int .i64 h1_7)), .d (.sc (.int .i64 h1_8)), .d (.sc (.int .i64 h1_9))], g2, g3, .cells [.d (.sc (.bool h4_0)), .d (.sc (.bool h4_1)), .d (.sc (.bool h4_2)), .d (.sc (.bool h4_3)), .d (.sc (.bool h4_4)), .d (.sc (.bool h4_5)), .d (.sc (.int .i64 h4_6)), .d (.sc (.int .i64 h4_7)), .d (.sc (.int .i64 h4_8)), .d (.sc (.int .i64 h4_9))], g5]⟩))) = (j4_33r22v3 t138 h1_0 h1_1 h1_2 h1_3 h1_4 h1_5 h1_6 h1_7 h1_8 h1_9 h4_0 h4_1 h4_2 h4_3 h4_4 h4_5 h4_6 h4_7 h4_8 h4_9).map e4 := by
  simp -implicitDefEqProofs only [j4_33r22v3, (show opsOf c4_33 = _ :: _ from rfl), (show r4_33_22 = _ :: _ :: _ :: _ :: _ :: r4_33_27 from rfl), zq6, zq8, zq138, setA, setB, za, zb, zc, zd, ze, zf, zg, zh, zi, zj, zk, zl, zm, zn, zo, zp, reduceCtorEq, zE, ↓reduceIte]
  refine brB (fun yc141 => ?_) (fun yc141 => ?_)
  · simp -implicitDefEqProofs only [Tryd.underlying24, sz3, ag3, zq6, zq8, zq138, yc141, setA, setB, za, zb, zc, zd, ze, zf, zg, zh, zi, zj, zk, zl, zm, zn, zo, zp, reduceCtorEq, zE, ↓reduceIte]
    exact j4_33r27v3_t (h4_9 == (-1)) h1_0 h1_1 h1_2 h1_3 h1_4 h1_5 h1_6 h1_7 h1_8 h1_9 h4_0 h4_1 h4_2 h4_3 h4_4 h4_5 h4_6 h4_7 h4_8 h4_9 _ _ _ _ _ (by exact zq6) (by exact zq8) (by rfl)
  · simp -implicitDefEqProofs only [zq6, zq8, zq138, yc141, setA, setB, za, zb, zc, zd, ze, zf, zg, zh, zi, zj, zk, zl, zm, zn, zo, zp, reduceCtorEq, zE, ↓reduceIte]
    exact j4_33r27v3_t false h1_0 h1_1 h1_2 h1_3 h1_4 h1_5 h1_6 h1_7 h1_8 h1_9 h4_0 h4_1 h4_2 h4_3 h4_4 h4_5 h4_6 h4_7 h4_8 h4_9 _ _ _ _ _ (by exact zq6) (by exact zq8) (by rfl)
def j4_33r17v3 (t133 h1_0 : Bool) (h1_1 h1_2 : Bool) (h1_3 h1_4 h1_5 : Bool) (h1_6 h1_7 : Int) (h1_8 h1_9 : Int) (h4_0 h4_1 : Bool) (h4_2 h4_3 : Bool) (h4_4 h4_5 : Bool) (h4_6 h4_7 : Int) (h4_8 h4_9 : Int) : Option R4 :=
  if t133 = true then
    j4_33r22v3 (h4_8 == (-1)) h1_0 h1_1 h1_2 h1_3 h1_4 h1_5 h1_6 h1_7 h1_8 h1_9 h4_0 h4_1 h4_2 h4_3 h4_4 h4_5 h4_6 h4_7 h4_8 h4_9
  else
    j4_33r22v3 false h1_0 h1_1 h1_2 h1_3 h1_4 h1_5 h1_6 h1_7 h1_8 h1_9 h4_0 h4_1 h4_2 h4_3 h4_4 h4_5 h4_6 h4_7 h4_8 h4_9
theorem j4_33r17v3_t (t133 h1_0 : Bool) (h1_1 h1_2 : Bool) (h1_3 h1_4 h1_5 : Bool) (h1_6 h1_7 : Int) (h1_8 h1_9 : Int) (h4_0 h4_1 : Bool) (h4_2 h4_3 : Bool) (h4_4 h4_5 : Bool) (h4_6 h4_7 : Int) (h4_8 h4_9 : Int) (g0 g2 : Ob) (g3 g5 : Ob) (sl : Nat → AV) (zq6 : sl 6 = .v (.c (.ptr 1 0))) (zq8 : sl 8 = .v (.c (.ptr 4 0))) (zq133 : sl 133 = .v (.c (.d (.sc (.bool t133))))) :
    bodyD (E0 mm) [.tmp 4] 0 false (seqD (E0 mm) 4 0 (callW (E0 mm)) itW c4_34 (regD (runOps (E0 mm) (callW (E0 mm)) (opsOf c4_33) r4_33_17 ⟨sl, [g0, .cells [.d (.sc (.bool h1_0)), .d (.sc (.bool h1_1)), .d (.sc (.bool h1_2)), .d (.sc (.bool h1_3)), .d (.sc (.bool h1_4)), .d (.sc (.bool h1_5)), .d (.sc (.int .i64 h1_6)), .d (.sc (.int .i64 h1_7)), .d (.sc (.int .i64 h1_8)), .d (.sc (.int .i64 h1_9))], g2, g3, .cells [.d (.sc (.bool h4_0)), .d (.sc (.bool h4_1)), .d (.sc (.bool h4_2)), .d (.sc (.bool h4_3)), .d (.sc (.bool h4_4)), .d (.sc (.bool h4_5)), .d (.sc (.int .i64 h4_6)), .d (.sc (.int .i64 h4_7)), .d (.sc (.int .i64 h4_8)), .d (.sc (.int .i64 h4_9))], g5]⟩))) = (j4_33r17v3 t133 h1_0 h1_1 h1_2 h1_3 h1_4 h1_5 h1_6 h1_7 h1_8 h1_9 h4_0 h4_1 h4_2 h4_3 h4_4 h4_5 h4_6 h4_7 h4_8 h4_9).map e4 := by
  simp -implicitDefEqProofs only [j4_33r17v3, (show opsOf c4_33 = _ :: _ from rfl), (show r4_33_17 = _ :: _ :: _ :: _ :: _ :: r4_33_22 from rfl), zq6, zq8, zq133, setA, setB, za, zb, zc, zd, ze, zf, zg, zh, zi, zj, zk, zl, zm, zn, zo, zp, reduceCtorEq, zE, ↓reduceIte]
  refine brB (fun yc140 => ?_) (fun yc140 => ?_)
  · simp -implicitDefEqProofs only [Tryd.underlying24, sz3, ag3, zq6, zq8, zq133, yc140, setA, setB, za, zb, zc, zd, ze, zf, zg, zh, zi, zj, zk, zl, zm, zn, zo, zp, reduceCtorEq, zE, ↓reduceIte]
    exact j4_33r22v3_t (h4_8 == (-1)) h1_0 h1_1 h1_2 h1_3 h1_4 h1_5 h1_6 h1_7 h1_8 h1_9 h4_0 h4_1 h4_2 h4_3 h4_4 h4_5 h4_6 h4_7 h4_8 h4_9 _ _ _ _ _ (by exact zq6) (by exact zq8) (by rfl)
  · simp -implicitDefEqProofs only [zq6, zq8, zq133, yc140, setA, setB, za, zb, zc, zd, ze, zf, zg, zh, zi, zj, zk, zl, zm, zn, zo, zp, reduceCtorEq, zE, ↓reduceIte]
    exact j4_33r22v3_t false h1_0 h1_1 h1_2 h1_3 h1_4 h1_5 h1_6 h1_7 h1_8 h1_9 h4_0 h4_1 h4_2 h4_3 h4_4 h4_5 h4_6 h4_7 h4_8 h4_9 _ _ _ _ _ (by exact zq6) (by exact zq8) (by rfl)
def j4_32v3 (h1_0 h1_1 : Bool) (h1_2 h1_3 : Bool) (h1_4 h1_5 : Bool) (h1_6 h1_7 : Int) (h1_8 h1_9 : Int) (h4_0 h4_1 : Bool) (h4_2 h4_3 : Bool) (h4_4 h4_5 : Bool) (h4_6 h4_7 : Int) (h4_8 h4_9 : Int) (h5_0 h5_1 : Bool) (h5_2 h5_3 : Bool) (h5_4 h5_5 : Bool) (h5_6 h5_7 : Int) (h5_8 h5_9 : Int) : Option R4 :=
  (m13 h5_6 h4_6).bind fun yr135 =>
    if yr135 = true then
      (m13 h5_7 h4_7).bind fun yr138 =>
        if yr138 = true then
          j4_33r17v3 (h1_7 == (-1)) h1_0 h1_1 h1_2 h1_3 h1_4 h1_5 h1_6 h1_7 h1_8 h1_9 h4_0 h4_1 h4_2 h4_3 h4_4 h4_5 h4_6 h4_7 h4_8 h4_9
        else
          j4_33r17v3 false h1_0 h1_1 h1_2 h1_3 h1_4 h1_5 h1_6 h1_7 h1_8 h1_9 h4_0 h4_1 h4_2 h4_3 h4_4 h4_5 h4_6 h4_7 h4_8 h4_9
    else
      j4_33r17v3 false h1_0 h1_1 h1_2 h1_3 h1_4 h1_5 h1_6 h1_7 h1_8 h1_9 h4_0 h4_1 h4_2 h4_3 h4_4 h4_5 h4_6 h4_7 h4_8 h4_9
theorem j4_32v3_t (h1_0 h1_1 : Bool) (h1_2 h1_3 : Bool) (h1_4 h1_5 : Bool) (h1_6 h1_7 : Int) (h1_8 h1_9 : Int) (h4_0 h4_1 : Bool) (h4_2 h4_3 : Bool) (h4_4 h4_5 : Bool) (h4_6 h4_7 : Int) (h4_8 h4_9 : Int) (h5_0 h5_1 : Bool) (h5_2 h5_3 : Bool) (h5_4 h5_5 : Bool) (h5_6 h5_7 : Int) (h5_8 h5_9 : Int) (g0 g2 g3 : Ob) (sl : Nat → AV) (zq6 : sl 6 = .v (.c (.ptr 1 0))) (zq8 : sl 8 = .v (.c (.ptr 4 0))) (zq9 : sl 9 = .v (.c (.ptr 5 0))) :
    bodyD (E0 mm) [.tmp 4] 0 false (den (E0 mm) 4 0 (callW (E0 mm)) itW c4_32 none ⟨sl, [g0, .cells [.d (.sc (.bool h1_0)), .d (.sc (.bool h1_1)), .d (.sc (.bool h1_2)), .d (.sc (.bool h1_3)), .d (.sc (.bool h1_4)), .d (.sc (.bool h1_5)), .d (.sc (.int .i64 h1_6)), .d (.sc (.int .i64 h1_7)), .d (.sc (.int .i64 h1_8)), .d (.sc (.int .i64 h1_9))], g2, g3, .cells [.d (.sc (.bool h4_0)), .d (.sc (.bool h4_1)), .d (.sc (.bool h4_2)), .d (.sc (.bool h4_3)), .d (.sc (.bool h4_4)), .d (.sc (.bool h4_5)), .d (.sc (.int .i64 h4_6)), .d (.sc (.int .i64 h4_7)), .d (.sc (.int .i64 h4_8)), .d (.sc (.int .i64 h4_9))], .cells [.d (.sc (.bool h5_0)), .d (.sc (.bool h5_1)), .d (.sc (.bool h5_2)), .d (.sc (.bool h5_3)), .d (.sc (.bool h5_4)), .d (.sc (.bool h5_5)), .d (.sc (.int .i64 h5_6)), .d (.sc (.int .i64 h5_7)), .d (.sc (.int .i64 h5_8)), .d (.sc (.int .i64 h5_9))]]⟩) = (j4_32v3 h1_0 h1_1 h1_2 h1_3 h1_4 h1_5 h1_6 h1_7 h1_8 h1_9 h4_0 h4_1 h4_2 h4_3 h4_4 h4_5 h4_6 h4_7 h4_8 h4_9 h5_0 h5_1 h5_2 h5_3 h5_4 h5_5 h5_6 h5_7 h5_8 h5_9).map e4 := by
  simp -implicitDefEqProofs only [j4_32v3, c4_32_e, c4_33_r, (show opsOf c4_33 = _ :: _ :: _ :: _ :: _ :: _ :: _ :: _ :: _ :: _ :: _ :: _ :: _ :: _ :: _ :: _ :: _ :: r4_33_17 from rfl), Tryd.underlying24, sz3, ag3, ent13, prm13, f13_t, zq6, zq8, zq9, setA, setB, za, zb, zc, zd, ze, zf, zg, zh, zi, zj, zk, zl, zm, zn, zo, zp, reduceCtorEq, zE, ↓reduceIte]
  refine brM (fun yc134 => ?_) (fun yr135 yc134 => ?_)
  · rw [yc134]; rfl
  · simp -implicitDefEqProofs only [e13, zq6, zq8, zq9, yc134, setA, setB, za, zb, zc, zd, ze, zf, zg, zh, zi, zj, zk, zl, zm, zn, zo, zp, reduceCtorEq, zE, ↓reduceIte]
    refine brB (fun yc136 => ?_) (fun yc136 => ?_)
    · simp -implicitDefEqProofs only [Tryd.underlying24, sz3, ag3, ent13, prm13, f13_t, zq6, zq8, zq9, yc134, yc136, setA, setB, za, zb, zc, zd, ze, zf, zg, zh, zi, zj, zk, zl, zm, zn, zo, zp, reduceCtorEq, zE, ↓reduceIte]
      refine brM (fun yc137 => ?_) (fun yr138 yc137 => ?_)
      · rw [yc137]; rfl
      · simp -implicitDefEqProofs only [e13, zq6, zq8, zq9, yc134, yc136, yc137, setA, setB, za, zb, zc, zd, ze, zf, zg, zh, zi, zj, zk, zl, zm, zn, zo, zp, reduceCtorEq, zE, ↓reduceIte]
        refine brB (fun yc139 => ?_) (fun yc139 => ?_)
        · simp -implicitDefEqProofs only [Tryd.underlying24, sz3, ag3, zq6, zq8, zq9, yc134, yc136, yc137, yc139, setA, setB, za, zb, zc, zd, ze, zf, zg, zh, zi, zj, zk, zl, zm, zn, zo, zp, reduceCtorEq, zE, ↓reduceIte]
          exact j4_33r17v3_t (h1_7 == (-1)) h1_0 h1_1 h1_2 h1_3 h1_4 h1_5 h1_6 h1_7 h1_8 h1_9 h4_0 h4_1 h4_2 h4_3 h4_4 h4_5 h4_6 h4_7 h4_8 h4_9 _ _ _ _ _ (by exact zq6) (by exact zq8) (by rfl)
        · simp -implicitDefEqProofs only [zq6, zq8, zq9, yc134, yc136, yc137, yc139, setA, setB, za, zb, zc, zd, ze, zf, zg, zh, zi, zj, zk, zl, zm, zn, zo, zp, reduceCtorEq, zE, ↓reduceIte]
          exact j4_33r17v3_t false h1_0 h1_1 h1_2 h1_3 h1_4 h1_5 h1_6 h1_7 h1_8 h1_9 h4_0 h4_1 h4_2 h4_3 h4_4 h4_5 h4_6 h4_7 h4_8 h4_9 _ _ _ _ _ (by exact zq6) (by exact zq8) (by rfl)
    · simp -implicitDefEqProofs only [zq6, zq8, zq9, yc134, yc136, setA, setB, za, zb, zc, zd, ze, zf, zg, zh, zi, zj, zk, zl, zm, zn, zo, zp, reduceCtorEq, zE, ↓reduceIte]
      exact j4_33r17v3_t false h1_0 h1_1 h1_2 h1_3 h1_4 h1_5 h1_6 h1_7 h1_8 h1_9 h4_0 h4_1 h4_2 h4_3 h4_4 h4_5 h4_6 h4_7 h4_8 h4_9 _ _ _ _ _ (by exact zq6) (by exact zq8) (by rfl)
def j4_27v3 (t116 h1_0 : Bool) (h1_1 h1_2 : Bool) (h1_3 h1_4 h1_5 : Bool) (h1_6 h1_7 : Int) (h1_8 h1_9 : Int) (h4_0 h4_1 : Bool) (h4_2 h4_3 : Bool) (h4_4 h4_5 : Bool) (h4_6 h4_7 : Int) (h4_8 h4_9 : Int) (h5_0 h5_1 : Bool) (h5_2 h5_3 : Bool) (h5_4 h5_5 : Bool) (h5_6 h5_7 : Int) (h5_8 h5_9 : Int) : Option R4 :=
  if t116 = true then
    some false
  else
    j4_32v3 h1_0 h1_1 h1_2 h1_3 h1_4 h1_5 h1_6 h1_7 h1_8 h1_9 h4_0 h4_1 h4_2 h4_3 h4_4 h4_5 h4_6 h4_7 h4_8 h4_9 h5_0 h5_1 h5_2 h5_3 h5_4 h5_5 h5_6 h5_7 h5_8 h5_9
theorem j4_27v3_t (t116 h1_0 : Bool) (h1_1 h1_2 : Bool) (h1_3 h1_4 h1_5 : Bool) (h1_6 h1_7 : Int) (h1_8 h1_9 : Int) (h4_0 h4_1 : Bool) (h4_2 h4_3 : Bool) (h4_4 h4_5 : Bool) (h4_6 h4_7 : Int) (h4_8 h4_9 : Int) (h5_0 h5_1 : Bool) (h5_2 h5_3 : Bool) (h5_4 h5_5 : Bool) (h5_6 h5_7 : Int) (h5_8 h5_9 : Int) (g0 g2 g3 : Ob) (sl : Nat → AV) (zq6 : sl 6 = .v (.c (.ptr 1 0))) (zq8 : sl 8 = .v (.c (.ptr 4 0))) (zq9 : sl 9 = .v (.c (.ptr 5 0))) (zq116 : sl 116 = .v (.c (.d (.sc (.bool t116))))) :
    bodyD (E0 mm) [.tmp 4] 0 false (seqD (E0 mm) 4 0 (callW (E0 mm)) itW c4_32 (den (E0 mm) 4 0 (callW (E0 mm)) itW c4_27 none ⟨sl, [g0, .cells [.d (.sc (.bool h1_0)), .d (.sc (.bool h1_1)), .d (.sc (.bool h1_2)), .d (.sc (.bool h1_3)), .d (.sc (.bool h1_4)), .d (.sc (.bool h1_5)), .d (.sc (.int .i64 h1_6)), .d (.sc (.int .i64 h1_7)), .d (.sc (.int .i64 h1_8)), .d (.sc (.int .i64 h1_9))], g2, g3, .cells [.d (.sc (.bool h4_0)), .d (.sc (.bool h4_1)), .d (.sc (.bool h4_2)), .d (.sc (.bool h4_3)), .d (.sc (.bool h4_4)), .d (.sc (.bool h4_5)), .d (.sc (.int .i64 h4_6)), .d (.sc (.int .i64 h4_7)), .d (.sc (.int .i64 h4_8)), .d (.sc (.int .i64 h4_9))], .cells [.d (.sc (.bool h5_0)), .d (.sc (.bool h5_1)), .d (.sc (.bool h5_2)), .d (.sc (.bool h5_3)), .d (.sc (.bool h5_4)), .d (.sc (.bool h5_5)), .d (.sc (.int .i64 h5_6)), .d (.sc (.int .i64 h5_7)), .d (.sc (.int .i64 h5_8)), .d (.sc (.int .i64 h5_9))]]⟩)) = (j4_27v3 t116 h1_0 h1_1 h1_2 h1_3 h1_4 h1_5 h1_6 h1_7 h1_8 h1_9 h4_0 h4_1 h4_2 h4_3 h4_4 h4_5 h4_6 h4_7 h4_8 h4_9 h5_0 h5_1 h5_2 h5_3 h5_4 h5_5 h5_6 h5_7 h5_8 h5_9).map e4 := by
  simp -implicitDefEqProofs only [j4_27v3, (show c4_27 = Code.cond _ c4_28 c4_31 from rfl), zq6, zq8, zq9, zq116, setA, setB, za, zb, zc, zd, ze, zf, zg, zh, zi, zj, zk, zl, zm, zn, zo, zp, reduceCtorEq, zE, ↓reduceIte]
  refine brB (fun yc133 => ?_) (fun yc133 => ?_)
  · simp -implicitDefEqProofs only [c4_28_e, c4_29_r, (show opsOf c4_29 = _ :: _ from rfl), c4_30_e, zq6, zq8, zq9, zq116, yc133, setA, setB, za, zb, zc, zd, ze, zf, zg, zh, zi, zj, zk, zl, zm, zn, zo, zp, reduceCtorEq, zE, ↓reduceIte]
    all_goals rfl
  · simp -implicitDefEqProofs only [c4_31_e, zq6, zq8, zq9, zq116, yc133, setA, setB, za, zb, zc, zd, ze, zf, zg, zh, zi, zj, zk, zl, zm, zn, zo, zp, reduceCtorEq, zE, ↓reduceIte]
    exact j4_32v3_t h1_0 h1_1 h1_2 h1_3 h1_4 h1_5 h1_6 h1_7 h1_8 h1_9 h4_0 h4_1 h4_2 h4_3 h4_4 h4_5 h4_6 h4_7 h4_8 h4_9 h5_0 h5_1 h5_2 h5_3 h5_4 h5_5 h5_6 h5_7 h5_8 h5_9 _ _ _ _ (by exact zq6) (by exact zq8) (by exact zq9)
def j4_26r34v3 (t107 h1_0 : Bool) (h1_1 h1_2 : Bool) (h1_3 h1_4 h1_5 : Bool) (h1_6 h1_7 : Int) (h1_8 h1_9 : Int) (h4_0 h4_1 : Bool) (h4_2 h4_3 : Bool) (h4_4 h4_5 : Bool) (h4_6 h4_7 : Int) (h4_8 h4_9 : Int) (h5_0 h5_1 : Bool) (h5_2 h5_3 : Bool) (h5_4 h5_5 : Bool) (h5_6 h5_7 : Int) (h5_8 h5_9 : Int) : Option R4 :=
  if t107 = true then
    j4_27v3 true h1_0 h1_1 h1_2 h1_3 h1_4 h1_5 h1_6 h1_7 h1_8 h1_9 h4_0 h4_1 h4_2 h4_3 h4_4 h4_5 h4_6 h4_7 h4_8 h4_9 h5_0 h5_1 h5_2 h5_3 h5_4 h5_5 h5_6 h5_7 h5_8 h5_9
  else
    if h4_4 = true then
      j4_27v3 (!h5_4) h1_0 h1_1 h1_2 h1_3 h1_4 h1_5 h1_6 h1_7 h1_8 h1_9 h4_0 h4_1 h4_2 h4_3 true h4_5 h4_6 h4_7 h4_8 h4_9 h5_0 h5_1 h5_2 h5_3 h5_4 h5_5 h5_6 h5_7 h5_8 h5_9
    else
      j4_27v3 false h1_0 h1_1 h1_2 h1_3 h1_4 h1_5 h1_6 h1_7 h1_8 h1_9 h4_0 h4_1 h4_2 h4_3 false h4_5 h4_6 h4_7 h4_8 h4_9 h5_0 h5_1 h5_2 h5_3 h5_4 h5_5 h5_6 h5_7 h5_8 h5_9
theorem j4_26r34v3_t (t107 h1_0 : Bool) (h1_1 h1_2 : Bool) (h1_3 h1_4 h1_5 : Bool) (h1_6 h1_7 : Int) (h1_8 h1_9 : Int) (h4_0 h4_1 : Bool) (h4_2 h4_3 : Bool) (h4_4 h4_5 : Bool) (h4_6 h4_7 : Int) (h4_8 h4_9 : Int) (h5_0 h5_1 : Bool) (h5_2 h5_3 : Bool) (h5_4 h5_5 : Bool) (h5_6 h5_7 : Int) (h5_8 h5_9 : Int) (g0 g2 g3 : Ob) (sl : Nat → AV) (zq6 : sl 6 = .v (.c (.ptr 1 0))) (zq8 : sl 8 = .v (.c (.ptr 4 0))) (zq9 : sl 9 = .v (.c (.ptr 5 0))) (zq107 : sl 107 = .v (.c (.d (.sc (.bool t107))))) :
    bodyD (E0 mm) [.tmp 4] 0 false (seqD (E0 mm) 4 0 (callW (E0 mm)) itW c4_32 (seqD (E0 mm) 4 0 (callW (E0 mm)) itW c4_27 (regD (runOps (E0 mm) (callW (E0 mm)) (opsOf c4_26) r4_26_34 ⟨sl, [g0, .cells [.d (.sc (.bool h1_0)), .d (.sc (.bool h1_1)), .d (.sc (.bool h1_2)), .d (.sc (.bool h1_3)), .d (.sc (.bool h1_4)), .d (.sc (.bool h1_5)), .d (.sc (.int .i64 h1_6)), .d (.sc (.int .i64 h1_7)), .d (.sc (.int .i64 h1_8)), .d (.sc (.int .i64 h1_9))], g2, g3, .cells [.d (.sc (.bool h4_0)), .d (.sc (.bool h4_1)), .d (.sc (.bool h4_2)), .d (.sc (.bool h4_3)), .d (.sc (.bool h4_4)), .d (.sc (.bool h4_5)), .d (.sc (.int .i64 h4_6)), .d (.sc (.int .i64 h4_7)), .d (.sc (.int .i64 h4_8)), .d (.sc (.int .i64 h4_9))], .cells [.d (.sc (.bool h5_0)), .d (.sc (.bool h5_1)), .d (.sc (.bool h5_2)), .d (.sc (.bool h5_3)), .d (.sc (.bool h5_4)), .d (.sc (.bool h5_5)), .d (.sc (.int .i64 h5_6)), .d (.sc (.int .i64 h5_7)), .d (.sc (.int .i64 h5_8)), .d (.sc (.int .i64 h5_9))]]⟩)))) = (j4_26r34v3 t107 h1_0 h1_1 h1_2 h1_3 h1_4 h1_5 h1_6 h1_7 h1_8 h1_9 h4_0 h4_1 h4_2 h4_3 h4_4 h4_5 h4_6 h4_7 h4_8 h4_9 h5_0 h5_1 h5_2 h5_3 h5_4 h5_5 h5_6 h5_7 h5_8 h5_9).map e4 := by
  simp -implicitDefEqProofs only [j4_26r34v3, (show opsOf c4_26 = _ :: _ from rfl), (show r4_26_34 = _ :: _ from rfl), zq6, zq8, zq9, zq107, setA, setB, za, zb, zc, zd, ze, zf, zg, zh, zi, zj, zk, zl, zm, zn, zo, zp, reduceCtorEq, zE, ↓reduceIte]
  refine brB (fun yc132 => ?_) (fun yc132 => ?_)
  · simp -implicitDefEqProofs only [zq6, zq8, zq9, zq107, yc132, setA, setB, za, zb, zc, zd, ze, zf, zg, zh, zi, zj, zk, zl, zm, zn, zo, zp, reduceCtorEq, zE, ↓reduceIte]
    exact j4_27v3_t true h1_0 h1_1 h1_2 h1_3 h1_4 h1_5 h1_6 h1_7 h1_8 h1_9 h4_0 h4_1 h4_2 h4_3 h4_4 h4_5 h4_6 h4_7 h4_8 h4_9 h5_0 h5_1 h5_2 h5_3 h5_4 h5_5 h5_6 h5_7 h5_8 h5_9 _ _ _ _ (by exact zq6) (by exact zq8) (by exact zq9) (by rfl)
  · simp -implicitDefEqProofs only [Tryd.underlying24, sz4, ag4, zq6, zq8, zq9, zq107, yc132, setA, setB, za, zb, zc, zd, ze, zf, zg, zh, zi, zj, zk, zl, zm, zn, zo, zp, reduceCtorEq, zE, ↓reduceIte]
    refine brB (fun yc147 => ?_) (fun yc147 => ?_)
    · simp -implicitDefEqProofs only [Tryd.underlying24, sz4, ag4, zq6, zq8, zq9, zq107, yc132, yc147, setA, setB, za, zb, zc, zd, ze, zf, zg, zh, zi, zj, zk, zl, zm, zn, zo, zp, reduceCtorEq, zE, ↓reduceIte]
      exact j4_27v3_t (!h5_4) h1_0 h1_1 h1_2 h1_3 h1_4 h1_5 h1_6 h1_7 h1_8 h1_9 h4_0 h4_1 h4_2 h4_3 true h4_5 h4_6 h4_7 h4_8 h4_9 h5_0 h5_1 h5_2 h5_3 h5_4 h5_5 h5_6 h5_7 h5_8 h5_9 _ _ _ _ (by exact zq6) (by exact zq8) (by exact zq9) (by rfl)
    · simp -implicitDefEqProofs only [zq6, zq8, zq9, zq107, yc132, yc147, setA, setB, za, zb, zc, zd, ze, zf, zg, zh, zi, zj, zk, zl, zm, zn, zo, zp, reduceCtorEq, zE, ↓reduceIte]
      exact j4_27v3_t false h1_0 h1_1 h1_2 h1_3 h1_4 h1_5 h1_6 h1_7 h1_8 h1_9 h4_0 h4_1 h4_2 h4_3 false h4_5 h4_6 h4_7 h4_8 h4_9 h5_0 h5_1 h5_2 h5_3 h5_4 h5_5 h5_6 h5_7 h5_8 h5_9 _ _ _ _ (by exact zq6) (by exact zq8) (by exact zq9) (by rfl)
def j4_26r25v3 (t98 h1_0 : Bool) (h1_1 h1_2 : Bool) (h1_3 h1_4 h1_5 : Bool) (h1_6 h1_7 : Int) (h1_8 h1_9 : Int) (h4_0 h4_1 : Bool) (h4_2 h4_3 : Bool) (h4_4 h4_5 : Bool) (h4_6 h4_7 : Int) (h4_8 h4_9 : Int) (h5_0 h5_1 : Bool) (h5_2 h5_3 : Bool) (h5_4 h5_5 : Bool) (h5_6 h5_7 : Int) (h5_8 h5_9 : Int) : Option R4 :=
  if t98 = true then
    j4_26r34v3 true h1_0 h1_1 h1_2 h1_3 h1_4 h1_5 h1_6 h1_7 h1_8 h1_9 h4_0 h4_1 h4_2 h4_3 h4_4 h4_5 h4_6 h4_7 h4_8 h4_9 h5_0 h5_1 h5_2 h5_3 h5_4 h5_5 h5_6 h5_7 h5_8 h5_9
  else
    if h4_3 = true then
      j4_26r34v3 (!h5_3) h1_0 h1_1 h1_2 h1_3 h1_4 h1_5 h1_6 h1_7 h1_8 h1_9 h4_0 h4_1 h4_2 true h4_4 h4_5 h4_6 h4_7 h4_8 h4_9 h5_0 h5_1 h5_2 h5_3 h5_4 h5_5 h5_6 h5_7 h5_8 h5_9
    else
      j4_26r34v3 false h1_0 h1_1 h1_2 h1_3 h1_4 h1_5 h1_6 h1_7 h1_8 h1_9 h4_0 h4_1 h4_2 false h4_4 h4_5 h4_6 h4_7 h4_8 h4_9 h5_0 h5_1 h5_2 h5_3 h5_4 h5_5 h5_6 h5_7 h5_8 h5_9
theorem j4_26r25v3_t (t98 h1_0 : Bool) (h1_1 h1_2 : Bool) (h1_3 h1_4 h1_5 : Bool) (h1_6 h1_7 : Int) (h1_8 h1_9 : Int) (h4_0 h4_1 : Bool) (h4_2 h4_3 : Bool) (h4_4 h4_5 : Bool) (h4_6 h4_7 : Int) (h4_8 h4_9 : Int) (h5_0 h5_1 : Bool) (h5_2 h5_3 : Bool) (h5_4 h5_5 : Bool) (h5_6 h5_7 : Int) (h5_8 h5_9 : Int) (g0 g2 g3 : Ob) (sl : Nat → AV) (zq6 : sl 6 = .v (.c (.ptr 1 0))) (zq8 : sl 8 = .v (.c (.ptr 4 0))) (zq9 : sl 9 = .v (.c (.ptr 5 0))) (zq98 : sl 98 = .v (.c (.d (.sc (.bool t98))))) :
    bodyD (E0 mm) [.tmp 4] 0 false (seqD (E0 mm) 4 0 (callW (E0 mm)) itW c4_32 (seqD (E0 mm) 4 0 (callW (E0 mm)) itW c4_27 (regD (runOps (E0 mm) (callW (E0 mm)) (opsOf c4_26) r4_26_25 ⟨sl, [g0, .cells [.d (.sc (.bool h1_0)), .d (.sc (.bool h1_1)), .d (.sc (.bool h1_2)), .d (.sc (.bool h1_3)), .d (.sc (.bool h1_4)), .d (.sc (.bool h1_5)), .d (.sc (.int .i64 h1_6)), .d (.sc (.int .i64 h1_7)), .d (.sc (.int .i64 h1_8)), .d (.sc (.int .i64 h1_9))], g2, g3, .cells [.d (.sc (.bool h4_0)), .d (.sc (.bool h4_1)), .d (.sc (.bool h4_2)), .d (.sc (.bool h4_3)), .d (.sc (.bool h4_4)), .d (.sc (.bool h4_5)), .d (.sc (.int .i64 h4_6)), .d (.sc (.int .i64 h4_7)), .d (.sc (.int .i64 h4_8)), .d (.sc (.int .i64 h4_9))], .cells [.d (.sc (.bool h5_0)), .d (.sc (.bool h5_1)), .d (.sc (.bool h5_2)), .d (.sc (.bool h5_3)), .d (.sc (.bool h5_4)), .d (.sc (.bool h5_5)), .d (.sc (.int .i64 h5_6)), .d (.sc (.int .i64 h5_7)), .d (.sc (.int .i64 h5_8)), .d (.sc (.int .i64 h5_9))]]⟩)))) = (j4_26r25v3 t98 h1_0 h1_1 h1_2 h1_3 h1_4 h1_5 h1_6 h1_7 h1_8 h1_9 h4_0 h4_1 h4_2 h4_3 h4_4 h4_5 h4_6 h4_7 h4_8 h4_9 h5_0 h5_1 h5_2 h5_3 h5_4 h5_5 h5_6 h5_7 h5_8 h5_9).map e4 := by
  simp -implicitDefEqProofs only [j4_26r25v3, (show opsOf c4_26 = _ :: _ from rfl), (show r4_26_25 = _ :: _ :: _ :: _ :: _ :: _ :: _ :: _ :: _ :: r4_26_34 from rfl), zq6, zq8, zq9, zq98, setA, setB, za, zb, zc, zd, ze, zf, zg, zh, zi, zj, zk, zl, zm, zn, zo, zp, reduceCtorEq, zE, ↓reduceIte]
  refine brB (fun yc131 => ?_) (fun yc131 => ?_)
  · simp -implicitDefEqProofs only [zq6, zq8, zq9, zq98, yc131, setA, setB, za, zb, zc, zd, ze, zf, zg, zh, zi, zj, zk, zl, zm, zn, zo, zp, reduceCtorEq, zE, ↓reduceIte]
    exact j4_26r34v3_t true h1_0 h1_1 h1_2 h1_3 h1_4 h1_5 h1_6 h1_7 h1_8 h1_9 h4_0 h4_1 h4_2 h4_3 h4_4 h4_5 h4_6 h4_7 h4_8 h4_9 h5_0 h5_1 h5_2 h5_3 h5_4 h5_5 h5_6 h5_7 h5_8 h5_9 _ _ _ _ (by exact zq6) (by exact zq8) (by exact zq9) (by rfl)
  · simp -implicitDefEqProofs only [Tryd.underlying24, sz4, ag4, zq6, zq8, zq9, zq98, yc131, setA, setB, za, zb, zc, zd, ze, zf, zg, zh, zi, zj, zk, zl, zm, zn, zo, zp, reduceCtorEq, zE, ↓reduceIte]
    refine brB (fun yc148 => ?_) (fun yc148 => ?_)
    · simp -implicitDefEqProofs only [Tryd.underlying24, sz4, ag4, zq6, zq8, zq9, zq98, yc131, yc148, setA, setB, za, zb, zc, zd, ze, zf, zg, zh, zi, zj, zk, zl, zm, zn, zo, zp, reduceCtorEq, zE, ↓reduceIte]
      exact j4_26r34v3_t (!h5_3) h1_0 h1_1 h1_2 h1_3 h1_4 h1_5 h1_6 h1_7 h1_8 h1_9 h4_0 h4_1 h4_2 true h4_4 h4_5 h4_6 h4_7 h4_8 h4_9 h5_0 h5_1 h5_2 h5_3 h5_4 h5_5 h5_6 h5_7 h5_8 h5_9 _ _ _ _ (by exact zq6) (by exact zq8) (by exact zq9) (by rfl)
    · simp -implicitDefEqProofs only [zq6, zq8, zq9, zq98, yc131, yc148, setA, setB, za, zb, zc, zd, ze, zf, zg, zh, zi, zj, zk, zl, zm, zn, zo, zp, reduceCtorEq, zE, ↓reduceIte]
      exact j4_26r34v3_t false h1_0 h1_1 h1_2 h1_3 h1_4 h1_5 h1_6 h1_7 h1_8 h1_9 h4_0 h4_1 h4_2 false h4_4 h4_5 h4_6 h4_7 h4_8 h4_9 h5_0 h5_1 h5_2 h5_3 h5_4 h5_5 h5_6 h5_7 h5_8 h5_9 _ _ _ _ (by exact zq6) (by exact zq8) (by exact zq9) (by rfl)
def j4_26r16v3 (t89 h1_0 : Bool) (h1_1 h1_2 : Bool) (h1_3 h1_4 h1_5 : Bool) (h1_6 h1_7 : Int) (h1_8 h1_9 : Int) (h4_0 h4_1 : Bool) (h4_2 h4_3 : Bool) (h4_4 h4_5 : Bool) (h4_6 h4_7 : Int) (h4_8 h4_9 : Int) (h5_0 h5_1 : Bool) (h5_2 h5_3 : Bool) (h5_4 h5_5 : Bool) (h5_6 h5_7 : Int) (h5_8 h5_9 : Int) : Option R4 :=
  if t89 = true then
    j4_26r25v3 true h1_0 h1_1 h1_2 h1_3 h1_4 h1_5 h1_6 h1_7 h1_8 h1_9 h4_0 h4_1 h4_2 h4_3 h4_4 h4_5 h4_6 h4_7 h4_8 h4_9 h5_0 h5_1 h5_2 h5_3 h5_4 h5_5 h5_6 h5_7 h5_8 h5_9
  else
    if h4_2 = true then
      j4_26r25v3 (!h5_2) h1_0 h1_1 h1_2 h1_3 h1_4 h1_5 h1_6 h1_7 h1_8 h1_9 h4_0 h4_1 true h4_3 h4_4 h4_5 h4_6 h4_7 h4_8 h4_9 h5_0 h5_1 h5_2 h5_3 h5_4 h5_5 h5_6 h5_7 h5_8 h5_9
    else
      j4_26r25v3 false h1_0 h1_1 h1_2 h1_3 h1_4 h1_5 h1_6 h1_7 h1_8 h1_9 h4_0 h4_1 false h4_3 h4_4 h4_5 h4_6 h4_7 h4_8 h4_9 h5_0 h5_1 h5_2 h5_3 h5_4 h5_5 h5_6 h5_7 h5_8 h5_9
theorem j4_26r16v3_t (t89 h1_0 : Bool) (h1_1 h1_2 : Bool) (h1_3 h1_4 h1_5 : Bool) (h1_6 h1_7 : Int) (h1_8 h1_9 : Int) (h4_0 h4_1 : Bool) (h4_2 h4_3 : Bool) (h4_4 h4_5 : Bool) (h4_6 h4_7 : Int) (h4_8 h4_9 : Int) (h5_0 h5_1 : Bool) (h5_2 h5_3 : Bool) (h5_4 h5_5 : Bool) (h5_6 h5_7 : Int) (h5_8 h5_9 : Int) (g0 g2 g3 : Ob) (sl : Nat → AV) (zq6 : sl 6 = .v (.c (.ptr 1 0))) (zq8 : sl 8 = .v (.c (.ptr 4 0))) (zq9 : sl 9 = .v (.c (.ptr 5 0))) (zq89 : sl 89 = .v (.c (.d (.sc (.bool t89))))) :
    bodyD (E0 mm) [.tmp 4] 0 false (seqD (E0 mm) 4 0 (callW (E0 mm)) itW c4_32 (seqD (E0 mm) 4 0 (callW (E0 mm)) itW c4_27 (regD (runOps (E0 mm) (callW (E0 mm)) (opsOf c4_26) r4_26_16 ⟨sl, [g0, .cells [.d (.sc (.bool h1_0)), .d (.sc (.bool h1_1)), .d (.sc (.bool h1_2)), .d (.sc (.bool h1_3)), .d (.sc (.bool h1_4)), .d (.sc (.bool h1_5)), .d (.sc (.int .i64 h1_6)), .d (.sc (.int .i64 h1_7)), .d (.sc (.int .i64 h1_8)), .d (.sc (.int .i64 h1_9))], g2, g3, .cells [.d (.sc (.bool h4_0)), .d (.sc (.bool h4_1)), .d (.sc (.bool h4_2)), .d (.sc (.bool h4_3)), .d (.sc (.bool h4_4)), .d (.sc (.bool h4_5)), .d (.sc (.int .i64 h4_6)), .d (.sc (.int .i64 h4_7)), .d (.sc (.int .i64 h4_8)), .d (.sc (.int .i64 h4_9))], .cells [.d (.sc (.bool h5_0)), .d (.sc (.bool h5_1)), .d (.sc (.bool h5_2)), .d (.sc (.bool h5_3)), .d (.sc (.bool h5_4)), .d (.sc (.bool h5_5)), .d (.sc (.int .i64 h5_6)), .d (.sc (.int .i64 h5_7)), .d (.sc (.int .i64 h5_8)), .d (.sc (.int .i64 h5_9))]]⟩)))) = (j4_26r16v3 t89 h1_0 h1_1 h1_2 h1_3 h1_4 h1_5 h1_6 h1_7 h1_8 h1_9 h4_0 h4_1 h4_2 h4_3 h4_4 h4_5 h4_6 h4_7 h4_8 h4_9 h5_0 h5_1 h5_2 h5_3 h5_4 h5_5 h5_6 h5_7 h5_8 h5_9).map e4 := by
  simp -implicitDefEqProofs only [j4_26r16v3, (show opsOf c4_26 = _ :: _ from rfl), (show r4_26_16 = _ :: _ :: _ :: _ :: _ :: _ :: _ :: _ :: _ :: r4_26_25 from rfl), zq6, zq8, zq9, zq89, setA, setB, za, zb, zc, zd, ze, zf, zg, zh, zi, zj, zk, zl, zm, zn, zo, zp, reduceCtorEq, zE, ↓reduceIte]
  refine brB (fun yc130 => ?_) (fun yc130 => ?_)
  · simp -implicitDefEqProofs only [zq6, zq8, zq9, zq89, yc130, setA, setB, za, zb, zc, zd, ze, zf, zg, zh, zi, zj, zk, zl, zm, zn, zo, zp, reduceCtorEq, zE, ↓reduceIte]
    exact j4_26r25v3_t true h1_0 h1_1 h1_2 h1_3 h1_4 h1_5 h1_6 h1_7 h1_8 h1_9 h4_0 h4_1 h4_2 h4_3 h4_4 h4_5 h4_6 h4_7 h4_8 h4_9 h5_0 h5_1 h5_2 h5_3 h5_4 h5_5 h5_6 h5_7 h5_8 h5_9 _ _ _ _ (by exact zq6) (by exact zq8) (by exact zq9) (by rfl)
  · simp -implicitDefEqProofs only [Tryd.underlying24, sz4, ag4, zq6, zq8, zq9, zq89, yc130, setA, setB, za, zb, zc, zd, ze, zf, zg, zh, zi, zj, zk, zl, zm, zn, zo, zp, reduceCtorEq, zE, ↓reduceIte]
    refine brB (fun yc149 => ?_) (fun yc149 => ?_)
    · simp -implicitDefEqProofs only [Tryd.underlying24, sz4, ag4, zq6, zq8, zq9, zq89, yc130, yc149, setA, setB, za, zb, zc, zd, ze, zf, zg, zh, zi, zj, zk, zl, zm, zn, zo, zp, reduceCtorEq, zE, ↓reduceIte]
      exact j4_26r25v3_t (!h5_2) h1_0 h1_1 h1_2 h1_3 h1_4 h1_5 h1_6 h1_7 h1_8 h1_9 h4_0 h4_1 true h4_3 h4_4 h4_5 h4_6 h4_7 h4_8 h4_9 h5_0 h5_1 h5_2 h5_3 h5_4 h5_5 h5_6 h5_7 h5_8 h5_9 _ _ _ _ (by exact zq6) (by exact zq8) (by exact zq9) (by rfl)
    · simp -implicitDefEqProofs only [zq6, zq8, zq9, zq89, yc130, yc149, setA, setB, za, zb, zc, zd, ze, zf, zg, zh, zi, zj, zk, zl, zm, zn, zo, zp, reduceCtorEq, zE, ↓reduceIte]
      exact j4_26r25v3_t false h1_0 h1_1 h1_2 h1_3 h1_4 h1_5 h1_6 h1_7 h1_8 h1_9 h4_0 h4_1 false h4_3 h4_4 h4_5 h4_6 h4_7 h4_8 h4_9 h5_0 h5_1 h5_2 h5_3 h5_4 h5_5 h5_6 h5_7 h5_8 h5_9 _ _ _ _ (by exact zq6) (by exact zq8) (by exact zq9) (by rfl)
def j4_22v3 (l0_0 : Bool) (l0_1 : List (Bs × Bs)) (all5_0 : Bool) (all5_1 : List (Bs × Bs)) (h1_0 h1_1 : Bool) (h1_2 h1_3 : Bool) (h1_4 h1_5 : Bool) (h1_6 h1_7 : Int) (h1_8 h1_9 : Int) : Option R4 :=
  (m9 l0_0 l0_1).bind fun yr124 =>
    (m9 all5_0 all5_1).bind fun yr126 =>
      if yr124.1 = true then
        if yr126.1 = true then
          if yr124.2.1 = true then
            j4_26r16v3 (!yr126.2.1) h1_0 h1_1 h1_2 h1_3 h1_4 h1_5 h1_6 h1_7 h1_8 h1_9 true true yr124.2.2.1 yr124.2.2.2.1 yr124.2.2.2.2.1 yr124.2.2.2.2.2.1 yr124.2.2.2.2.2.2.1 yr124.2.2.2.2.2.2.2.1 yr124.2.2.2.2.2.2.2.2.1 yr124.2.2.2.2.2.2.2.2.2 true yr126.2.1 yr126.2.2.1 yr126.2.2.2.1 yr126.2.2.2.2.1 yr126.2.2.2.2.2.1 yr126.2.2.2.2.2.2.1 yr126.2.2.2.2.2.2.2.1 yr126.2.2.2.2.2.2.2.2.1 yr126.2.2.2.2.2.2.2.2.2
          else
            j4_26r16v3 false h1_0 h1_1 h1_2 h1_3 h1_4 h1_5 h1_6 h1_7 h1_8 h1_9 true false yr124.2.2.1 yr124.2.2.2.1 yr124.2.2.2.2.1 yr124.2.2.2.2.2.1 yr124.2.2.2.2.2.2.1 yr124.2.2.2.2.2.2.2.1 yr124.2.2.2.2.2.2.2.2.1 yr124.2.2.2.2.2.2.2.2.2 true yr126.2.1 yr126.2.2.1 yr126.2.2.2.1 yr126.2.2.2.2.1 yr126.2.2.2.2.2.1 yr126.2.2.2.2.2.2.1 yr126.2.2.2.2.2.2.2.1 yr126.2.2.2.2.2.2.2.2.1 yr126.2.2.2.2.2.2.2.2.2
        else
          j4_26r16v3 true h1_0 h1_1 h1_2 h1_3 h1_4 h1_5 h1_6 h1_7 h1_8 h1_9 true yr124.2.1 yr124.2.2.1 yr124.2.2.2.1 yr124.2.2.2.2.1 yr124.2.2.2.2.2.1 yr124.2.2.2.2.2.2.1 yr124.2.2.2.2.2.2.2.1 yr124.2.2.2.2.2.2.2.2.1 yr124.2.2.2.2.2.2.2.2.2 false yr126.2.1 yr126.2.2.1 yr126.2.2.2.1 yr126.2.2.2.2.1 yr126.2.2.2.2.2.1 yr126.2.2.2.2.2.2.1 yr126.2.2.2.2.2.2.2.1 yr126.2.2.2.2.2.2.2.2.1 yr126.2.2.2.2.2.2.2.2.2
      else
        if yr124.2.1 = true then
          j4_26r16v3 (!yr126.2.1) h1_0 h1_1 h1_2 h1_3 h1_4 h1_5 h1_6 h1_7 h1_8 h1_9 false true yr124.2.2.1 yr124.2.2.2.1 yr124.2.2.2.2.1 yr124.2.2.2.2.2.1 yr124.2.2.2.2.2.2.1 yr124.2.2.2.2.2.2.2.1 yr124.2.2.2.2.2.2.2.2.1 yr124.2.2.2.2.2.2.2.2.2 yr126.1 yr126.2.1 yr126.2.2.1 yr126.2.2.2.1 yr126.2.2.2.2.1 yr126.2.2.2.2.2.1 yr126.2.2.2.2.2.2.1 yr126.2.2.2.2.2.2.2.1 yr126.2.2.2.2.2.2.2.2.1 yr126.2.2.2.2.2.2.2.2.2
        else
          j4_26r16v3 false h1_0 h1_1 h1_2 h1_3 h1_4 h1_5 h1_6 h1_7 h1_8 h1_9 false false yr124.2.2.1 yr124.2.2.2.1 yr124.2.2.2.2.1 yr124.2.2.2.2.2.1 yr124.2.2.2.2.2.2.1 yr124.2.2.2.2.2.2.2.1 yr124.2.2.2.2.2.2.2.2.1 yr124.2.2.2.2.2.2.2.2.2 yr126.1 yr126.2.1 yr126.2.2.1 yr126.2.2.2.1 yr126.2.2.2.2.1 yr126.2.2.2.2.2.1 yr126.2.2.2.2.2.2.1 yr126.2.2.2.2.2.2.2.1 yr126.2.2.2.2.2.2.2.2.1 yr126.2.2.2.2.2.2.2.2.2
theorem j4_22v3_t (l0_0 : Bool) (l0_1 : List (Bs × Bs)) (all5_0 : Bool) (all5_1 : List (Bs × Bs)) (h1_0 h1_1 : Bool) (h1_2 h1_3 : Bool) (h1_4 h1_5 : Bool) (h1_6 h1_7 : Int) (h1_8 h1_9 : Int) (g2 g3 : Ob) (sl : Nat → AV) (zq0 : sl 0 = .v (.c (.d (.lst l0_0 (enL enSS l0_1))))) (zq5 : sl 5 = .v (.c (.own all5_0 (enL enSS all5_1) 0))) (zq6 : sl 6 = .v (.c (.ptr 1 0))) :
    bodyD (E0 mm) [.tmp 4] 0 false (den (E0 mm) 4 0 (callW (E0 mm)) itW c4_22 none ⟨sl, [.row all5_1.length (rz all5_0 2), .cells [.d (.sc (.bool h1_0)), .d (.sc (.bool h1_1)), .d (.sc (.bool h1_2)), .d (.sc (.bool h1_3)), .d (.sc (.bool h1_4)), .d (.sc (.bool h1_5)), .d (.sc (.int .i64 h1_6)), .d (.sc (.int .i64 h1_7)), .d (.sc (.int .i64 h1_8)), .d (.sc (.int .i64 h1_9))], g2, g3]⟩) = (j4_22v3 l0_0 l0_1 all5_0 all5_1 h1_0 h1_1 h1_2 h1_3 h1_4 h1_5 h1_6 h1_7 h1_8 h1_9).map e4 := by
  simp -implicitDefEqProofs only [j4_22v3, c4_22_e, c4_23_r, (show opsOf c4_23 = _ :: _ from rfl), ent9, prm9, f9_t, zq0, zq5, zq6, setA, setB, za, zb, zc, zd, ze, zf, zg, zh, zi, zj, zk, zl, zm, zn, zo, zp, reduceCtorEq, zE, ↓reduceIte]
  refine brM (fun yc123 => ?_) (fun yr124 yc123 => ?_)
  · rw [yc123]; rfl
  · simp -implicitDefEqProofs only [e9, ent9, prm9, f9_t, zq0, zq5, zq6, yc123, setA, setB, za, zb, zc, zd, ze, zf, zg, zh, zi, zj, zk, zl, zm, zn, zo, zp, reduceCtorEq, zE, ↓reduceIte]
    refine brM (fun yc125 => ?_) (fun yr126 yc125 => ?_)
    · rw [yc125]; rfl
    · simp -implicitDefEqProofs only [e9, zc24, ao65, sz24, c4_24_e, c4_25_e, c4_26_r, (show opsOf c4_26 = _ :: _ :: _ :: _ :: _ :: _ :: _ :: _ :: _ :: _ :: _ :: _ :: _ :: _ :: _ :: _ :: r4_26_16 from rfl), Tryd.underlying24, sz4, ag4, zq0, zq5, zq6, yc123, yc125, setA, setB, za, zb, zc, zd, ze, zf, zg, zh, zi, zj, zk, zl, zm, zn, zo, zp, reduceCtorEq, zE, ↓reduceIte]
      refine brB (fun yc127 => ?_) (fun yc127 => ?_)
      · simp -implicitDefEqProofs only [Tryd.underlying24, sz4, ag4, zq0, zq5, zq6, yc123, yc125, yc127, setA, setB, za, zb, zc, zd, ze, zf, zg, zh, zi, zj, zk, zl, zm, zn, zo, zp, reduceCtorEq, zE, ↓reduceIte]
        refine brB (fun yc128 => ?_) (fun yc128 => ?_)
        · simp -implicitDefEqProofs only [Tryd.underlying24, sz4, ag4, zq0, zq5, zq6, yc123, yc125, yc127, yc128, setA, setB, za, zb, zc, zd, ze, zf, zg, zh, zi, zj, zk, zl, zm, zn, zo, zp, reduceCtorEq, zE, ↓reduceIte]
          refine brB (fun yc129 => ?_) (fun yc129 => ?_)
          · simp -implicitDefEqProofs only [Tryd.underlying24, sz4, ag4, zq0, zq5, zq6, yc123, yc125, yc127, yc128, yc129, setA, setB, za, zb, zc, zd, ze, zf, zg, zh, zi, zj, zk, zl, zm, zn, zo, zp, reduceCtorEq, zE, ↓reduceIte]
            exact j4_26r16v3_t (!yr126.2.1) h1_0 h1_1 h1_2 h1_3 h1_4 h1_5 h1_6 h1_7 h1_8 h1_9 true true yr124.2.2.1 yr124.2.2.2.1 yr124.2.2.2.2.1 yr124.2.2.2.2.2.1 yr124.2.2.2.2.2.2.1 yr124.2.2.2.2.2.2.2.1 yr124.2.2.2.2.2.2.2.2.1 yr124.2.2.2.2.2.2.2.2.2 true yr126.2.1 yr126.2.2.1 yr126.2.2.2.1 yr126.2.2.2.2.1 yr126.2.2.2.2.2.1 yr126.2.2.2.2.2.2.1 yr126.2.2.2.2.2.2.2.1 yr126.2.2.2.2.2.2.2.2.1 yr126.2.2.2.2.2.2.2.2.2 _ _ _ _ (by exact zq6) (by rfl) (by rfl) (by rfl)
          · simp -implicitDefEqProofs only [zq0, zq5, zq6, yc123, yc125, yc127, yc128, yc129, setA, setB, za, zb, zc, zd, ze, zf, zg, zh, zi, zj, zk, zl, zm, zn, zo, zp, reduceCtorEq, zE, ↓reduceIte]
            exact j4_26r16v3_t false h1_0 h1_1 h1_2 h1_3 h1_4 h1_5 h1_6 h1_7 h1_8 h1_9 true false yr124.2.2.1 yr124.2.2.2.1 yr124.2.2.2.2.1 yr124.2.2.2.2.2.1 yr124.2.2.2.2.2.2.1 yr124.2.2.2.2.2.2.2.1 yr124.2.2.2.2.2.2.2.2.1 yr124.2.2.2.2.2.2.2.2.2 true yr126.2.1 yr126.2.2.1 yr126.2.2.2.1 yr126.2.2.2.2.1 yr126.2.2.2.2.2.1 yr126.2.2.2.2.2.2.1 yr126.2.2.2.2.2.2.2.1 yr126.2.2.2.2.2.2.2.2.1 yr126.2.2.2.2.2.2.2.2.2 _ _ _ _ (by exact zq6) (by rfl) (by rfl) (by rfl)
        · simp -implicitDefEqProofs only [zq0, zq5, zq6, yc123, yc125, yc127, yc128, setA, setB, za, zb, zc, zd, ze, zf, zg, zh, zi, zj, zk, zl, zm, zn, zo, zp, reduceCtorEq, zE, ↓reduceIte]
          exact j4_26r16v3_t true h1_0 h1_1 h1_2 h1_3 h1_4 h1_5 h1_6 h1_7 h1_8 h1_9 true yr124.2.1 yr124.2.2.1 yr124.2.2.2.1 yr124.2.2.2.2.1 yr124.2.2.2.2.2.1 yr124.2.2.2.2.2.2.1 yr124.2.2.2.2.2.2.2.1 yr124.2.2.2.2.2.2.2.2.1 yr124.2.2.2.2.2.2.2.2.2 false yr126.2.1 yr126.2.2.1 yr126.2.2.2.1 yr126.2.2.2.2.1 yr126.2.2.2.2.2.1 yr126.2.2.2.2.2.2.1 yr126.2.2.2.2.2.2.2.1 yr126.2.2.2.2.2.2.2.2.1 yr126.2.2.2.2.2.2.2.2.2 _ _ _ _ (by exact zq6) (by rfl) (by rfl) (by rfl)
      · simp -implicitDefEqProofs only [Tryd.underlying24, sz4, ag4, zq0, zq5, zq6, yc123, yc125, yc127, setA, setB, za, zb, zc, zd, ze, zf, zg, zh, zi, zj, zk, zl, zm, zn, zo, zp, reduceCtorEq, zE, ↓reduceIte]
        refine brB (fun yc150 => ?_) (fun yc150 => ?_)
        · simp -implicitDefEqProofs only [Tryd.underlying24, sz4, ag4, zq0, zq5, zq6, yc123, yc125, yc127, yc150, setA, setB, za, zb, zc, zd, ze, zf, zg, zh, zi, zj, zk, zl, zm, zn, zo, zp, reduceCtorEq, zE, ↓reduceIte]
          exact j4_26r16v3_t (!yr126.2.1) h1_0 h1_1 h1_2 h1_3 h1_4 h1_5 h1_6 h1_7 h1_8 h1_9 false true yr124.2.2.1 yr124.2.2.2.1 yr124.2.2.2.2.1 yr124.2.2.2.2.2.1 yr124.2.2.2.2.2.2.1 yr124.2.2.2.2.2.2.2.1 yr124.2.2.2.2.2.2.2.2.1 yr124.2.2.2.2.2.2.2.2.2 yr126.1 yr126.2.1 yr126.2.2.1 yr126.2.2.2.1 yr126.2.2.2.2.1 yr126.2.2.2.2.2.1 yr126.2.2.2.2.2.2.1 yr126.2.2.2.2.2.2.2.1 yr126.2.2.2.2.2.2.2.2.1 yr126.2.2.2.2.2.2.2.2.2 _ _ _ _ (by exact zq6) (by rfl) (by rfl) (by rfl)
        · simp -implicitDefEqProofs only [zq0, zq5, zq6, yc123, yc125, yc127, yc150, setA, setB, za, zb, zc, zd, ze, zf, zg, zh, zi, zj, zk, zl, zm, zn, zo, zp, reduceCtorEq, zE, ↓reduceIte]
          exact j4_26r16v3_t false h1_0 h1_1 h1_2 h1_3 h1_4 h1_5 h1_6 h1_7 h1_8 h1_9 false false yr124.2.2.1 yr124.2.2.2.1 yr124.2.2.2.2.1 yr124.2.2.2.2.2.1 yr124.2.2.2.2.2.2.1 yr124.2.2.2.2.2.2.2.1 yr124.2.2.2.2.2.2.2.2.1 yr124.2.2.2.2.2.2.2.2.2 yr126.1 yr126.2.1 yr126.2.2.1 yr126.2.2.2.1 yr126.2.2.2.2.1 yr126.2.2.2.2.2.1 yr126.2.2.2.2.2.2.1 yr126.2.2.2.2.2.2.2.1 yr126.2.2.2.2.2.2.2.2.1 yr126.2.2.2.2.2.2.2.2.2 _ _ _ _ (by exact zq6) (by rfl) (by rfl) (by rfl)
def j4_17v3 (l0_0 : Bool) (l0_1 : List (Bs × Bs)) (all5_0 : Bool) (all5_1 : List (Bs × Bs)) (t69 h1_0 : Bool) (h1_1 h1_2 : Bool) (h1_3 h1_4 h1_5 : Bool) (h1_6 h1_7 : Int) (h1_8 h1_9 : Int) : Option R4 :=
  if t69 = true then
    some false
  else
    j4_22v3 l0_0 l0_1 all5_0 all5_1 h1_0 h1_1 h1_2 h1_3 h1_4 h1_5 h1_6 h1_7 h1_8 h1_9
theorem j4_17v3_t (l0_0 : Bool) (l0_1 : List (Bs × Bs)) (all5_0 : Bool) (all5_1 : List (Bs × Bs)) (t69 h1_0 : Bool) (h1_1 h1_2 : Bool) (h1_3 h1_4 h1_5 : Bool) (h1_6 h1_7 : Int) (h1_8 h1_9 : Int) (g2 g3 : Ob) (sl : Nat → AV) (zq0 : sl 0 = .v (.c (.d (.lst l0_0 (enL enSS l0_1))))) (zq5 : sl 5 = .v (.c (.own all5_0 (enL enSS all5_1) 0))) (zq6 : sl 6 = .v (.c (.ptr 1 0))) (zq69 : sl 69 = .v (.c (.d (.sc (.bool t69))))) :
    bodyD (E0 mm) [.tmp 4] 0 false (seqD (E0 mm) 4 0 (callW (E0 mm)) itW c4_22 (den (E0 mm) 4 0 (callW (E0 mm)) itW c4_17 none ⟨sl, [.row all5_1.length (rz all5_0 2), .cells [.d (.sc (.bool h1_0)), .d (.sc (.bool h1_1)), .d (.sc (.bool h1_2)), .d (.sc (.bool h1_3)), .d (.sc (.bool h1_4)), .d (.sc (.bool h1_5)), .d (.sc (.int .i64 h1_6)), .d (.sc (.int .i64 h1_7)), .d (.sc (.int .i64 h1_8)), .d (.sc (.int .i64 h1_9))], g2, g3]⟩)) = (j4_17v3 l0_0 l0_1 all5_0 all5_1 t69 h1_0 h1_1 h1_2 h1_3 h1_4 h1_5 h1_6 h1_7 h1_8 h1_9).map e4 := by
  simp -implicitDefEqProofs only [j4_17v3, (show c4_17 = Code.cond _ c4_18 c4_21 from rfl), zq0, zq5, zq6, zq69, setA, setB, za, zb, zc, zd, ze, zf, zg, zh, zi, zj, zk, zl, zm, zn, zo, zp, reduceCtorEq, zE, ↓reduceIte]
  refine brB (fun yc122 => ?_) (fun yc122 => ?_)
  · simp -implicitDefEqProofs only [c4_18_e, c4_19_r, (show opsOf c4_19 = _ :: _ from rfl), c4_20_e, zq0, zq5, zq6, zq69, yc122, setA, setB, za, zb, zc, zd, ze, zf, zg, zh, zi, zj, zk, zl, zm, zn, zo, zp, reduceCtorEq, zE, ↓reduceIte]
    all_goals rfl
  · simp -implicitDefEqProofs only [c4_21_e, zq0, zq5, zq6, zq69, yc122, setA, setB, za, zb, zc, zd, ze, zf, zg, zh, zi, zj, zk, zl, zm, zn, zo, zp, reduceCtorEq, zE, ↓reduceIte]
    exact j4_22v3_t l0_0 l0_1 all5_0 all5_1 h1_0 h1_1 h1_2 h1_3 h1_4 h1_5 h1_6 h1_7 h1_8 h1_9 _ _ _ (by exact zq0) (by exact zq5) (by exact zq6)
def j4_14v1 (l0_0 : Bool) (l0_1 : List (Bs × Bs)) (all5_0 : Bool) (all5_1 : List (Bs × Bs)) (h1_0 h1_1 : Bool) (h1_2 h1_3 : Bool) (h1_4 h1_5 : Bool) (h1_6 h1_7 : Int) (h1_8 h1_9 : Int) (h2_0 h2_1 : Bool) (h2_2 h2_3 : Bool) (h2_4 h2_5 : Bool) (h2_6 h2_7 : Int) (h2_8 h2_9 : Int) : Option R4 :=
  if h1_1 = true then
    if h2_1 = true then
      j4_17v2 l0_0 l0_1 all5_0 all5_1 false h1_0 true h1_2 h1_3 h1_4 h1_5 h1_6 h1_7 h1_8 h1_9
    else
      (m14 l0_0 l0_1 ([112, 114, 97, 103, 109, 97] : Bs)).bind fun yr121 =>
        j4_17v3 l0_0 l0_1 all5_0 all5_1 ((yr121.2.length : Int) == 0) h1_0 true h1_2 h1_3 h1_4 h1_5 h1_6 h1_7 h1_8 h1_9
  else
    j4_17v2 l0_0 l0_1 all5_0 all5_1 false h1_0 false h1_2 h1_3 h1_4 h1_5 h1_6 h1_7 h1_8 h1_9
theorem j4_14v1_t (l0_0 : Bool) (l0_1 : List (Bs × Bs)) (all5_0 : Bool) (all5_1 : List (Bs × Bs)) (h1_0 h1_1 : Bool) (h1_2 h1_3 : Bool) (h1_4 h1_5 : Bool) (h1_6 h1_7 : Int) (h1_8 h1_9 : Int) (h2_0 h2_1 : Bool) (h2_2 h2_3 : Bool) (h2_4 h2_5 : Bool) (h2_6 h2_7 : Int) (h2_8 h2_9 : Int)  (sl : Nat → AV) (zq0 : sl 0 = .v (.c (.d (.lst l0_0 (enL enSS l0_1))))) (zq5 : sl 5 = .v (.c (.own all5_0 (enL enSS all5_1) 0))) (zq6 : sl 6 = .v (.c (.ptr 1 0))) (zq7 : sl 7 = .v (.c (.ptr 2 0))) :
    bodyD (E0 mm) [.tmp 4] 0 false (den (E0 mm) 4 0 (callW (E0 mm)) itW c4_14 none ⟨sl, [.row all5_1.length (rz all5_0 2), .cells [.d (.sc (.bool h1_0)), .d (.sc (.bool h1_1)), .d (.sc (.bool h1_2)), .d (.sc (.bool h1_3)), .d (.sc (.bool h1_4)), .d (.sc (.bool h1_5)), .d (.sc (.int .i64 h1_6)), .d (.sc (.int .i64 h1_7)), .d (.sc (.int .i64 h1_8)), .d (.sc (.int .i64 h1_9))], .cells [.d (.sc (.bool h2_0)), .d (.sc (.bool h2_1)), .d (.sc (.bool h2_2)), .d (.sc (.bool h2_3)), .d (.sc (.bool h2_4)), .d (.sc (.bool h2_5)), .d (.sc (.int .i64 h2_6)), .d (.sc (.int .i64 h2_7)), .d (.sc (.int .i64 h2_8)), .d (.sc (.int .i64 h2_9))]]⟩) = (j4_14v1 l0_0 l0_1 all5_0 all5_1 h1_0 h1_1 h1_2 h1_3 h1_4 h1_5 h1_6 h1_7 h1_8 h1_9 h2_0 h2_1 h2_2 h2_3 h2_4 h2_5 h2_6 h2_7 h2_8 h2_9).map e4 := by
  simp -implicitDefEqProofs only [j4_14v1, c4_14_e, c4_15_e, c4_16_r, (show opsOf c4_16 = _ :: _ from rfl), Tryd.underlying24, sz4, ag4, zq0, zq5, zq6, zq7, setA, setB, za, zb, zc, zd, ze, zf, zg, zh, zi, zj, zk, zl, zm, zn, zo, zp, reduceCtorEq, zE, ↓reduceIte]
  refine brB (fun yc91 => ?_) (fun yc91 => ?_)
  · simp -implicitDefEqProofs only [Tryd.underlying24, sz4, ag4, zq0, zq5, zq6, zq7, yc91, setA, setB, za, zb, zc, zd, ze, zf, zg, zh, zi, zj, zk, zl, zm, zn, zo, zp, reduceCtorEq, zE, ↓reduceIte]
    refine brB (fun yc92 => ?_) (fun yc92 => ?_)
    · simp -implicitDefEqProofs only [zq0, zq5, zq6, zq7, yc91, yc92, setA, setB, za, zb, zc, zd, ze, zf, zg, zh, zi, zj, zk, zl, zm, zn, zo, zp, reduceCtorEq, zE, ↓reduceIte]
      exact j4_17v2_t l0_0 l0_1 all5_0 all5_1 false h1_0 true h1_2 h1_3 h1_4 h1_5 h1_6 h1_7 h1_8 h1_9 _ _ (by exact zq0) (by exact zq5) (by exact zq6) (by rfl)
    · simp -implicitDefEqProofs only [ent14, prm14, (show callW (E0 mm) 14 [.c (.d (.lst l0_0 (enL enSS l0_1))), .c (.d (.sc (.string (S ([112, 114, 97, 103, 109, 97] : Bs)))))] [] = _ from f14_t l0_0 l0_1 ([112, 114, 97, 103, 109, 97] : Bs)), zq0, zq5, zq6, zq7, yc91, yc92, setA, setB, za, zb, zc, zd, ze, zf, zg, zh, zi, zj, zk, zl, zm, zn, zo, zp, reduceCtorEq, zE, ↓reduceIte]
      refine brM (fun yc120 => ?_) (fun yr121 yc120 => ?_)
      · rw [yc120]; rfl
      · simp -implicitDefEqProofs only [e14, Tryd.underlying30, zq0, zq5, zq6, zq7, yc91, yc92, yc120, setA, setB, za, zb, zc, zd, ze, zf, zg, zh, zi, zj, zk, zl, zm, zn, zo, zp, reduceCtorEq, zE, ↓reduceIte]
        exact j4_17v3_t l0_0 l0_1 all5_0 all5_1 ((yr121.2.length : Int) == 0) h1_0 true h1_2 h1_3 h1_4 h1_5 h1_6 h1_7 h1_8 h1_9 _ _ _ (by exact zq0) (by exact zq5) (by exact zq6) (by rfl)
  · simp -implicitDefEqProofs only [zq0, zq5, zq6, zq7, yc91, setA, setB, za, zb, zc, zd, ze, zf, zg, zh, zi, zj, zk, zl, zm, zn, zo, zp, reduceCtorEq, zE, ↓reduceIte]
    exact j4_17v2_t l0_0 l0_1 all5_0 all5_1 false h1_0 false h1_2 h1_3 h1_4 h1_5 h1_6 h1_7 h1_8 h1_9 _ _ (by exact zq0) (by exact zq5) (by exact zq6) (by rfl)
def j4_9v1 (l0_0 : Bool) (l0_1 : List (Bs × Bs)) (all5_0 : Bool) (all5_1 : List (Bs × Bs)) (t56 h1_0 : Bool) (h1_1 h1_2 : Bool) (h1_3 h1_4 h1_5 : Bool) (h1_6 h1_7 : Int) (h1_8 h1_9 : Int) (h2_0 h2_1 : Bool) (h2_2 h2_3 : Bool) (h2_4 h2_5 : Bool) (h2_6 h2_7 : Int) (h2_8 h2_9 : Int) : Option R4 :=
  if t56 = true then
    some false
  else
    j4_14v1 l0_0 l0_1 all5_0 all5_1 h1_0 h1_1 h1_2 h1_3 h1_4 h1_5 h1_6 h1_7 h1_8 h1_9 h2_0 h2_1 h2_2 h2_3 h2_4 h2_5 h2_6 h2_7 h2_8 h2_9
theorem j4_9v1_t (l0_0 : Bool) (l0_1 : List (Bs × Bs)) (all5_0 : Bool) (all5_1 : List (Bs × Bs)) (t56 h1_0 : Bool) (h1_1 h1_2 : Bool) (h1_3 h1_4 h1_5 : Bool) (h1_6 h1_7 : Int) (h1_8 h1_9 : Int) (h2_0 h2_1 : Bool) (h2_2 h2_3 : Bool) (h2_4 h2_5 : Bool) (h2_6 h2_7 : Int) (h2_8 h2_9 : Int)  (sl : Nat → AV) (zq0 : sl 0 = .v (.c (.d (.lst l0_0 (enL enSS l0_1))))) (zq5 : sl 5 = .v (.c (.own all5_0 (enL enSS all5_1) 0))) (zq6 : sl 6 = .v (.c (.ptr 1 0))) (zq7 : sl 7 = .v (.c (.ptr 2 0))) (zq56 : sl 56 = .v (.c (.d (.sc (.bool t56))))) :
    bodyD (E0 mm) [.tmp 4] 0 false (seqD (E0 mm) 4 0 (callW (E0 mm)) itW c4_14 (den (E0 mm) 4 0 (callW (E0 mm)) itW c4_9 none ⟨sl, [.row all5_1.length (rz all5_0 2), .cells [.d (.sc (.bool h1_0)), .d (.sc (.bool h1_1)), .d (.sc (.bool h1_2)), .d (.sc (.bool h1_3)), .d (.sc (.bool h1_4)), .d (.sc (.bool h1_5)), .d (.sc (.int .i64 h1_6)), .d (.sc (.int .i64 h1_7)), .d (.sc (.int .i64 h1_8)), .d (.sc (.int .i64 h1_9))], .cells [.d (.sc (.bool h2_0)), .d (.sc (.bool h2_1)), .d (.sc (.bool h2_2)), .d (.sc (.bool h2_3)), .d (.sc (.bool h2_4)), .d (.sc (.bool h2_5)), .d (.sc (.int .i64 h2_6)), .d (.sc (.int .i64 h2_7)), .d (.sc (.int .i64 h2_8)), .d (.sc (.int .i64 h2_9))]]⟩)) = (j4_9v1 l0_0 l0_1 all5_0 all5_1 t56 h1_0 h1_1 h1_2 h1_3 h1_4 h1_5 h1_6 h1_7 h1_8 h1_9 h2_0 h2_1 h2_2 h2_3 h2_4 h2_5 h2_6 h2_7 h2_8 h2_9).map e4 := by
  simp -implicitDefEqProofs only [j4_9v1, (show c4_9 = Code.cond _ c4_10 c4_13 from rfl), zq0, zq5, zq6, zq7, zq56, setA, setB, za, zb, zc, zd, ze, zf, zg, zh, zi, zj, zk, zl, zm, zn, zo, zp, reduceCtorEq, zE, ↓reduceIte]
  refine brB (fun yc90 => ?_) (fun yc90 => ?_)
  · simp -implicitDefEqProofs only [c4_10_e, c4_11_r, (show opsOf c4_11 = _ :: _ from rfl), c4_12_e, zq0, zq5, zq6, zq7, zq56, yc90, setA, setB, za, zb, zc, zd, ze, zf, zg, zh, zi, zj, zk, zl, zm, zn, zo, zp, reduceCtorEq, zE, ↓reduceIte]
    all_goals rfl
  · simp -implicitDefEqProofs only [c4_13_e, zq0, zq5, zq6, zq7, zq56, yc90, setA, setB, za, zb, zc, zd, ze, zf, zg, zh, zi, zj, zk, zl, zm, zn, zo, zp, reduceCtorEq, zE, ↓reduceIte]
    exact j4_14v1_t l0_0 l0_1 all5_0 all5_1 h1_0 h1_1 h1_2 h1_3 h1_4 h1_5 h1_6 h1_7 h1_8 h1_9 h2_0 h2_1 h2_2 h2_3 h2_4 h2_5 h2_6 h2_7 h2_8 h2_9 _ (by exact zq0) (by exact zq5) (by exact zq6) (by exact zq7)
def j4_8r32v1 (l0_0 : Bool) (l0_1 : List (Bs × Bs)) (all5_0 : Bool) (all5_1 : List (Bs × Bs)) (t49 h1_0 : Bool) (h1_1 h1_2 : Bool) (h1_3 h1_4 h1_5 : Bool) (h1_6 h1_7 : Int) (h1_8 h1_9 : Int) (h2_0 h2_1 : Bool) (h2_2 h2_3 : Bool) (h2_4 h2_5 : Bool) (h2_6 h2_7 : Int) (h2_8 h2_9 : Int) : Option R4 :=
  if t49 = true then
    j4_9v1 l0_0 l0_1 all5_0 all5_1 true h1_0 h1_1 h1_2 h1_3 h1_4 h1_5 h1_6 h1_7 h1_8 h1_9 h2_0 h2_1 h2_2 h2_3 h2_4 h2_5 h2_6 h2_7 h2_8 h2_9
  else
    j4_9v1 l0_0 l0_1 all5_0 all5_1 (decide (h2_8 < h1_8)) h1_0 h1_1 h1_2 h1_3 h1_4 h1_5 h1_6 h1_7 h1_8 h1_9 h2_0 h2_1 h2_2 h2_3 h2_4 h2_5 h2_6 h2_7 h2_8 h2_9
theorem j4_8r32v1_t (l0_0 : Bool) (l0_1 : List (Bs × Bs)) (all5_0 : Bool) (all5_1 : List (Bs × Bs)) (t49 h1_0 : Bool) (h1_1 h1_2 : Bool) (h1_3 h1_4 h1_5 : Bool) (h1_6 h1_7 : Int) (h1_8 h1_9 : Int) (h2_0 h2_1 : Bool) (h2_2 h2_3 : Bool) (h2_4 h2_5 : Bool) (h2_6 h2_7 : Int) (h2_8 h2_9 : Int)  (sl : Nat → AV) (zq0 : sl 0 = .v (.c (.d (.lst l0_0 (enL enSS l0_1))))) (zq5 : sl 5 = .v (.c (.own all5_0 (enL enSS all5_1) 0))) (zq6 : sl 6 = .v (.c (.ptr 1 0))) (zq7 : sl 7 = .v (.c (.ptr 2 0))) (zq49 : sl 49 = .v (.c (.d (.sc (.bool t49))))) :
    bodyD (E0 mm) [.tmp 4] 0 false (seqD (E0 mm) 4 0 (callW (E0 mm)) itW c4_14 (seqD (E0 mm) 4 0 (callW (E0 mm)) itW c4_9 (regD (runOps (E0 mm) (callW (E0 mm)) (opsOf c4_8) r4_8_32 ⟨sl, [.row all5_1.length (rz all5_0 2), .cells [.d (.sc (.bool h1_0)), .d (.sc (.bool h1_1)), .d (.sc (.bool h1_2)), .d (.sc (.bool h1_3)), .d (.sc (.bool h1_4)), .d (.sc (.bool h1_5)), .d (.sc (.int .i64 h1_6)), .d (.sc (.int .i64 h1_7)), .d (.sc (.int .i64 h1_8)), .d (.sc (.int .i64 h1_9))], .cells [.d (.sc (.bool h2_0)), .d (.sc (.bool h2_1)), .d (.sc (.bool h2_2)), .d (.sc (.bool h2_3)), .d (.sc (.bool h2_4)), .d (.sc (.bool h2_5)), .d (.sc (.int .i64 h2_6)), .d (.sc (.int .i64 h2_7)), .d (.sc (.int .i64 h2_8)), .d (.sc (.int .i64 h2_9))]]⟩)))) = (j4_8r32v1 l0_0 l0_1 all5_0 all5_1 t49 h1_0 h1_1 h1_2 h1_3 h1_4 h1_5 h1_6 h1_7 h1_8 h1_9 h2_0 h2_1 h2_2 h2_3 h2_4 h2_5 h2_6 h2_7 h2_8 h2_9).map e4 := by
  simp -implicitDefEqProofs only [j4_8r32v1, (show opsOf c4_8 = _ :: _ from rfl), (show r4_8_32 = _ :: _ from rfl), zq0, zq5, zq6, zq7, zq49, setA, setB, za, zb, zc, zd, ze, zf, zg, zh, zi, zj, zk, zl, zm, zn, zo, zp, reduceCtorEq, zE, ↓reduceIte]
  refine brB (fun yc89 => ?_) (fun yc89 => ?_)
  · simp -implicitDefEqProofs only [zq0, zq5, zq6, zq7, zq49, yc89, setA, setB, za, zb, zc, zd, ze, zf, zg, zh, zi, zj, zk, zl, zm, zn, zo, zp, reduceCtorEq, zE, ↓reduceIte]
    exact j4_9v1_t l0_0 l0_1 all5_0 all5_1 true h1_0 h1_1 h1_2 h1_3 h1_4 h1_5 h1_6 h1_7 h1_8 h1_9 h2_0 h2_1 h2_2 h2_3 h2_4 h2_5 h2_6 h2_7 h2_8 h2_9 _ (by exact zq0) (by exact zq5) (by exact zq6) (by exact zq7) (by rfl)
  · simp -implicitDefEqProofs only [Tryd.underlying24, sz3, ag3, zq0, zq5, zq6, zq7, zq49, yc89, setA, setB, za, zb, zc, zd, ze, zf, zg, zh, zi, zj, zk, zl, zm, zn, zo, zp, reduceCtorEq, zE, ↓reduceIte]
    exact j4_9v1_t l0_0 l0_1 all5_0 all5_1 (decide (h2_8 < h1_8)) h1_0 h1_1 h1_2 h1_3 h1_4 h1_5 h1_6 h1_7 h1_8 h1_9 h2_0 h2_1 h2_2 h2_3 h2_4 h2_5 h2_6 h2_7 h2_8 h2_9 _ (by exact zq0) (by exact zq5) (by exact zq6) (by exact zq7) (by rfl)
def j4_8r24v1 (l0_0 : Bool) (l0_1 : List (Bs × Bs)) (all5_0 : Bool) (all5_1 : List (Bs × Bs)) (t41 h1_0 : Bool) (h1_1 h1_2 : Bool) (h1_3 h1_4 h1_5 : Bool) (h1_6 h1_7 : Int) (h1_8 h1_9 : Int) (h2_0 h2_1 : Bool) (h2_2 h2_3 : Bool) (h2_4 h2_5 : Bool) (h2_6 h2_7 : Int) (h2_8 h2_9 : Int) : Option R4 :=
  if t41 = true then
    j4_8r32v1 l0_0 l0_1 all5_0 all5_1 true h1_0 h1_1 h1_2 h1_3 h1_4 h1_5 h1_6 h1_7 h1_8 h1_9 h2_0 h2_1 h2_2 h2_3 h2_4 h2_5 h2_6 h2_7 h2_8 h2_9
  else
    (m13 h2_9 h1_9).bind fun yr152 =>
      j4_8r32v1 l0_0 l0_1 all5_0 all5_1 (!yr152) h1_0 h1_1 h1_2 h1_3 h1_4 h1_5 h1_6 h1_7 h1_8 h1_9 h2_0 h2_1 h2_2 h2_3 h2_4 h2_5 h2_6 h2_7 h2_8 h2_9
theorem j4_8r24v1_t (l0_0 : Bool) (l0_1 : List (Bs × Bs)) (all5_0 : Bool) (all5_1 : List (Bs × Bs)) (t41 h1_0 : Bool) (h1_1 h1_2 : Bool) (h1_3 h1_4 h1_5 : Bool) (h1_6 h1_7 : Int) (h1_8 h1_9 : Int) (h2_0 h2_1 : Bool) (h2_2 h2_3 : Bool) (h2_4 h2_5 : Bool) (h2_6 h2_7 : Int) (h2_8 h2_9 : Int)  (sl : Nat → AV) (zq0 : sl 0 = .v (.c (.d (.lst l0_0 (enL enSS l0_1))))) (zq5 : sl 5 = .v (.c (.own all5_0 (enL enSS all5_1) 0))) (zq6 : sl 6 = .v (.c (.ptr 1 0))) (zq7 : sl 7 = .v (.c (.ptr 2 0))) (zq41 : sl 41 = .v (.c (.d (.sc (.bool t41))))) :
    bodyD (E0 mm) [.tmp 4] 0 false (seqD (E0 mm) 4 0 (callW (E0 mm)) itW c4_14 (seqD (E0 mm) 4 0 (callW (E0 mm)) itW c4_9 (regD (runOps (E0 mm) (callW (E0 mm)) (opsOf c4_8) r4_8_24 ⟨sl, [.row all5_1.length (rz all5_0 2), .cells [.d (.sc (.bool h1_0)), .d (.sc (.bool h1_1)), .d (.sc (.bool h1_2)), .d (.sc (.bool h1_3)), .d (.sc (.bool h1_4)), .d (.sc (.bool h1_5)), .d (.sc (.int .i64 h1_6)), .d (.sc (.int .i64 h1_7)), .d (.sc (.int .i64 h1_8)), .d (.sc (.int .i64 h1_9))], .cells [.d (.sc (.bool h2_0)), .d (.sc (.bool h2_1)), .d (.sc (.bool h2_2)), .d (.sc (.bool h2_3)), .d (.sc (.bool h2_4)), .d (.sc (.bool h2_5)), .d (.sc (.int .i64 h2_6)), .d (.sc (.int .i64 h2_7)), .d (.sc (.int .i64 h2_8)), .d (.sc (.int .i64 h2_9))]]⟩)))) = (j4_8r24v1 l0_0 l0_1 all5_0 all5_1 t41 h1_0 h1_1 h1_2 h1_3 h1_4 h1_5 h1_6 h1_7 h1_8 h1_9 h2_0 h2_1 h2_2 h2_3 h2_4 h2_5 h2_6 h2_7 h2_8 h2_9).map e4 := by
  simp -implicitDefEqProofs only [j4_8r24v1, (show opsOf c4_8 = _ :: _ from rfl), (show r4_8_24 = _ :: _ :: _ :: _ :: _ :: _ :: _ :: _ :: r4_8_32 from rfl), zq0, zq5, zq6, zq7, zq41, setA, setB, za, zb, zc, zd, ze, zf, zg, zh, zi, zj, zk, zl, zm, zn, zo, zp, reduceCtorEq, zE, ↓reduceIte]
  refine brB (fun yc88 => ?_) (fun yc88 => ?_)
  · simp -implicitDefEqProofs only [zq0, zq5, zq6, zq7, zq41, yc88, setA, setB, za, zb, zc, zd, ze, zf, zg, zh, zi, zj, zk, zl, zm, zn, zo, zp, reduceCtorEq, zE, ↓reduceIte]
    exact j4_8r32v1_t l0_0 l0_1 all5_0 all5_1 true h1_0 h1_1 h1_2 h1_3 h1_4 h1_5 h1_6 h1_7 h1_8 h1_9 h2_0 h2_1 h2_2 h2_3 h2_4 h2_5 h2_6 h2_7 h2_8 h2_9 _ (by exact zq0) (by exact zq5) (by exact zq6) (by exact zq7) (by rfl)
  · simp -implicitDefEqProofs only [Tryd.underlying24, sz3, ag3, ent13, prm13, f13_t, zq0, zq5, zq6, zq7, zq41, yc88, setA, setB, za, zb, zc, zd, ze, zf, zg, zh, zi, zj, zk, zl, zm, zn, zo, zp, reduceCtorEq, zE, ↓reduceIte]
    refine brM (fun yc151 => ?_) (fun yr152 yc151 => ?_)
    · rw [yc151]; rfl
    · simp -implicitDefEqProofs only [e13, zq0, zq5, zq6, zq7, zq41, yc88, yc151, setA, setB, za, zb, zc, zd, ze, zf, zg, zh, zi, zj, zk, zl, zm, zn, zo, zp, reduceCtorEq, zE, ↓reduceIte]
      exact j4_8r32v1_t l0_0 l0_1 all5_0 all5_1 (!yr152) h1_0 h1_1 h1_2 h1_3 h1_4 h1_5 h1_6 h1_7 h1_8 h1_9 h2_0 h2_1 h2_2 h2_3 h2_4 h2_5 h2_6 h2_7 h2_8 h2_9 _ (by exact zq0) (by exact zq5) (by exact zq6) (by exact zq7) (by rfl)
def j4_8r16v1 (l0_0 : Bool) (l0_1 : List (Bs × Bs)) (all5_0 : Bool) (all5_1 : List (Bs × Bs)) (t33 h1_0 : Bool) (h1_1 h1_2 : Bool) (h1_3 h1_4 h1_5 : Bool) (h1_6 h1_7 : Int) (h1_8 h1_9 : Int) (h2_0 h2_1 : Bool) (h2_2 h2_3 : Bool) (h2_4 h2_5 : Bool) (h2_6 h2_7 : Int) (h2_8 h2_9 : Int) : Option R4 :=
  if t33 = true then
    j4_8r24v1 l0_0 l0_1 all5_0 all5_1 true h1_0 h1_1 h1_2 h1_3 h1_4 h1_5 h1_6 h1_7 h1_8 h1_9 h2_0 h2_1 h2_2 h2_3 h2_4 h2_5 h2_6 h2_7 h2_8 h2_9
  else
    (m13 h2_6 h1_6).bind fun yr154 =>
      j4_8r24v1 l0_0 l0_1 all5_0 all5_1 (!yr154) h1_0 h1_1 h1_2 h1_3 h1_4 h1_5 h1_6 h1_7 h1_8 h1_9 h2_0 h2_1 h2_2 h2_3 h2_4 h2_5 h2_6 h2_7 h2_8 h2_9
theorem j4_8r16v1_t (l0_0 : Bool) (l0_1 : List (Bs × Bs)) (all5_0 : Bool) (all5_1 : List (Bs × Bs)) (t33 h1_0 : Bool) (h1_1 h1_2 : Bool) (h1_3 h1_4 h1_5 : Bool) (h1_6 h1_7 : Int) (h1_8 h1_9 : Int) (h2_0 h2_1 : Bool) (h2_2 h2_3 : Bool) (h2_4 h2_5 : Bool) (h2_6 h2_7 : Int) (h2_8 h2_9 : Int)  (sl : Nat → AV) (zq0 : sl 0 = .v (.c (.d (.lst l0_0 (enL enSS l0_1))))) (zq5 : sl 5 = .v (.c (.own all5_0 (enL enSS all5_1) 0))) (zq6 : sl 6 = .v (.c (.ptr 1 0))) (zq7 : sl 7 = .v (.c (.ptr 2 0))) (zq33 : sl 33 = .v (.c (.d (.sc (.bool t33))))) :
    bodyD (E0 mm) [.tmp 4] 0 false (seqD (E0 mm) 4 0 (callW (E0 mm)) itW c4_14 (seqD (E0 mm) 4 0 (callW (E0 mm)) itW c4_9 (regD (runOps (E0 mm) (callW (E0 mm)) (opsOf c4_8) r4_8_16 ⟨sl, [.row all5_1.length (rz all5_0 2), .cells [.d (.sc (.bool h1_0)), .d (.sc (.bool h1_1)), .d (.sc (.bool h1_2)), .d (.sc (.bool h1_3)), .d (.sc (.bool h1_4)), .d (.sc (.bool h1_5)), .d (.sc (.int .i64 h1_6)), .d (.sc (.int .i64 h1_7)), .d (.sc (.int .i64 h1_8)), .d (.sc (.int .i64 h1_9))], .cells [.d (.sc (.bool h2_0)), .d (.sc (.bool h2_1)), .d (.sc (.bool h2_2)), .d (.sc (.bool h2_3)), .d (.sc (.bool h2_4)), .d (.sc (.bool h2_5)), .d (.sc (.int .i64 h2_6)), .d (.sc (.int .i64 h2_7)), .d (.sc (.int .i64 h2_8)), .d (.sc (.int .i64 h2_9))]]⟩)))) = (j4_8r16v1 l0_0 l0_1 all5_0 all5_1 t33 h1_0 h1_1 h1_2 h1_3 h1_4 h1_5 h1_6 h1_7 h1_8 h1_9 h2_0 h2_1 h2_2 h2_3 h2_4 h2_5 h2_6 h2_7 h2_8 h2_9).map e4 := by
  simp -implicitDefEqProofs only [j4_8r16v1, (show opsOf c4_8 = _ :: _ from rfl), (show r4_8_16 = _ :: _ :: _ :: _ :: _ :: _ :: _ :: _ :: r4_8_24 from rfl), zq0, zq5, zq6, zq7, zq33, setA, setB, za, zb, zc, zd, ze, zf, zg, zh, zi, zj, zk, zl, zm, zn, zo, zp, reduceCtorEq, zE, ↓reduceIte]
  refine brB (fun yc87 => ?_) (fun yc87 => ?_)
  · simp -implicitDefEqProofs only [zq0, zq5, zq6, zq7, zq33, yc87, setA, setB, za, zb, zc, zd, ze, zf, zg, zh, zi, zj, zk, zl, zm, zn, zo, zp, reduceCtorEq, zE, ↓reduceIte]
    exact j4_8r24v1_t l0_0 l0_1 all5_0 all5_1 true h1_0 h1_1 h1_2 h1_3 h1_4 h1_5 h1_6 h1_7 h1_8 h1_9 h2_0 h2_1 h2_2 h2_3 h2_4 h2_5 h2_6 h2_7 h2_8 h2_9 _ (by exact zq0) (by exact zq5) (by exact zq6) (by exact zq7) (by rfl)
  · simp -implicitDefEqProofs only [Tryd.underlying24, sz3, ag3, ent13, prm13, f13_t, zq0, zq5, zq6, zq7, zq33, yc87, setA, setB, za, zb, zc, zd, ze, zf, zg, zh, zi, zj, zk, zl, zm, zn, zo, zp, reduceCtorEq, zE, ↓reduceIte]
    refine brM (fun yc153 => ?_) (fun yr154 yc153 => ?_)
    · rw [yc153]; rfl
    · simp -implicitDefEqProofs only [e13, zq0, zq5, zq6, zq7, zq33, yc87, yc153, setA, setB, za, zb, zc, zd, ze, zf, zg, zh, zi, zj, zk, zl, zm, zn, zo, zp, reduceCtorEq, zE, ↓reduceIte]
      exact j4_8r24v1_t l0_0 l0_1 all5_0 all5_1 (!yr154) h1_0 h1_1 h1_2 h1_3 h1_4 h1_5 h1_6 h1_7 h1_8 h1_9 h2_0 h2_1 h2_2 h2_3 h2_4 h2_5 h2_6 h2_7 h2_8 h2_9 _ (by exact zq0) (by exact zq5) (by exact zq6) (by exact zq7) (by rfl)
def j4_8r7v1 (l0_0 : Bool) (l0_1 : List (Bs × Bs)) (all5_0 : Bool) (all5_1 : List (Bs × Bs)) (t24 h1_0 : Bool) (h1_1 h1_2 : Bool) (h1_3 h1_4 h1_5 : Bool) (h1_6 h1_7 : Int) (h1_8 h1_9 : Int) (h2_0 h2_1 : Bool) (h2_2 h2_3 : Bool) (h2_4 h2_5 : Bool) (h2_6 h2_7 : Int) (h2_8 h2_9 : Int) : Option R4 :=
  if t24 = true then
    j4_8r16v1 l0_0 l0_1 all5_0 all5_1 true h1_0 h1_1 h1_2 h1_3 h1_4 h1_5 h1_6 h1_7 h1_8 h1_9 h2_0 h2_1 h2_2 h2_3 h2_4 h2_5 h2_6 h2_7 h2_8 h2_9
  else
    if h1_5 = true then
      j4_8r16v1 l0_0 l0_1 all5_0 all5_1 (!h2_5) h1_0 h1_1 h1_2 h1_3 h1_4 true h1_6 h1_7 h1_8 h1_9 h2_0 h2_1 h2_2 h2_3 h2_4 h2_5 h2_6 h2_7 h2_8 h2_9
    else
      j4_8r16v1 l0_0 l0_1 all5_0 all5_1 false h1_0 h1_1 h1_2 h1_3 h1_4 false h1_6 h1_7 h1_8 h1_9 h2_0 h2_1 h2_2 h2_3 h2_4 h2_5 h2_6 h2_7 h2_8 h2_9
theorem j4_8r7v1_t (l0_0 : Bool) (l0_1 : List (Bs × Bs)) (all5_0 : Bool) (all5_1 : List (Bs × Bs)) (t24 h1_0 : Bool) (h1_1 h1_2 : Bool) (h1_3 h1_4 h1_5 : Bool) (h1_6 h1_7 : Int) (h1_8 h1_9 : Int) (h2_0 h2_1 : Bool) (h2_2 h2_3 : Bool) (h2_4 h2_5 : Bool) (h2_6 h2_7 : Int) (h2_8 h2_9 : Int)  (sl : Nat → AV) (zq0 : sl 0 = .v (.c (.d (.lst l0_0 (enL enSS l0_1))))) (zq5 : sl 5 = .v (.c (.own all5_0 (enL enSS all5_1) 0))) (zq6 : sl 6 = .v (.c (.ptr 1 0))) (zq7 : sl 7 = .v (.c (.ptr 2 0))) (zq24 : sl 24 = .v (.c (.d (.sc (.bool t24))))) :
    bodyD (E0 mm) [.tmp 4] 0 false (seqD (E0 mm) 4 0 (callW (E0 mm)) itW c4_14 (seqD (E0 mm) 4 0 (callW (E0 mm)) itW c4_9 (regD (runOps (E0 mm) (callW (E0 mm)) (opsOf c4_8) r4_8_7 ⟨sl, [.row all5_1.length (rz all5_0 2), .cells [.d (.sc (.bool h1_0)), .d (.sc (.bool h1_1)), .d (.sc (.bool h1_2)), .d (.sc (.bool h1_3)), .d (.sc (.bool h1_4)), .d (.sc (.bool h1_5)), .d (.sc (.int .i64 h1_6)), .d (.sc (.int .i64 h1_7)), .d (.sc (.int .i64 h1_8)), .d (.sc (.int .i64 h1_9))], .cells [.d (.sc (.bool h2_0)), .d (.sc (.bool h2_1)), .d (.sc (.bool h2_2)), .d (.sc (.bool h2_3)), .d (.sc (.bool h2_4)), .d (.sc (.bool h2_5)), .d (.sc (.int .i64 h2_6)), .d (.sc (.int .i64 h2_7)), .d (.sc (.int .i64 h2_8)), .d (.sc (.int .i64 h2_9))]]⟩)))) = (j4_8r7v1 l0_0 l0_1 all5_0 all5_1 t24 h1_0 h1_1 h1_2 h1_3 h1_4 h1_5 h1_6 h1_7 h1_8 h1_9 h2_0 h2_1 h2_2 h2_3 h2_4 h2_5 h2_6 h2_7 h2_8 h2_9).map e4 := by
  simp -implicitDefEqProofs only [j4_8r7v1, (show opsOf c4_8 = _ :: _ from rfl), (show r4_8_7 = _ :: _ :: _ :: _ :: _ :: _ :: _ :: _ :: _ :: r4_8_16 from rfl), zq0, zq5, zq6, zq7, zq24, setA, setB, za, zb, zc, zd, ze, zf, zg, zh, zi, zj, zk, zl, zm, zn, zo, zp, reduceCtorEq, zE, ↓reduceIte]
  refine brB (fun yc86 => ?_) (fun yc86 => ?_)
  · simp -implicitDefEqProofs only [zq0, zq5, zq6, zq7, zq24, yc86, setA, setB, za, zb, zc, zd, ze, zf, zg, zh, zi, zj, zk, zl, zm, zn, zo, zp, reduceCtorEq, zE, ↓reduceIte]
    exact j4_8r16v1_t l0_0 l0_1 all5_0 all5_1 true h1_0 h1_1 h1_2 h1_3 h1_4 h1_5 h1_6 h1_7 h1_8 h1_9 h2_0 h2_1 h2_2 h2_3 h2_4 h2_5 h2_6 h2_7 h2_8 h2_9 _ (by exact zq0) (by exact zq5) (by exact zq6) (by exact zq7) (by rfl)
  · simp -implicitDefEqProofs only [Tryd.underlying24, sz4, ag4, zq0, zq5, zq6, zq7, zq24, yc86, setA, setB, za, zb, zc, zd, ze, zf, zg, zh, zi, zj, zk, zl, zm, zn, zo, zp, reduceCtorEq, zE, ↓reduceIte]
    refine brB (fun yc155 => ?_) (fun yc155 => ?_)
    · simp -implicitDefEqProofs only [Tryd.underlying24, sz4, ag4, zq0, zq5, zq6, zq7, zq24, yc86, yc155, setA, setB, za, zb, zc, zd, ze, zf, zg, zh, zi, zj, zk, zl, zm, zn, zo, zp, reduceCtorEq, zE, ↓reduceIte]
      exact j4_8r16v1_t l0_0 l0_1 all5_0 all5_1 (!h2_5) h1_0 h1_1 h1_2 h1_3 h1_4 true h1_6 h1_7 h1_8 h1_9 h2_0 h2_1 h2_2 h2_3 h2_4 h2_5 h2_6 h2_7 h2_8 h2_9 _ (by exact zq0) (by exact zq5) (by exact zq6) (by exact zq7) (by rfl)
    · simp -implicitDefEqProofs only [zq0, zq5, zq6, zq7, zq24, yc86, yc155, setA, setB, za, zb, zc, zd, ze, zf, zg, zh, zi, zj, zk, zl, zm, zn, zo, zp, reduceCtorEq, zE, ↓reduceIte]
      exact j4_8r16v1_t l0_0 l0_1 all5_0 all5_1 false h1_0 h1_1 h1_2 h1_3 h1_4 false h1_6 h1_7 h1_8 h1_9 h2_0 h2_1 h2_2 h2_3 h2_4 h2_5 h2_6 h2_7 h2_8 h2_9 _ (by exact zq0) (by exact zq5) (by exact zq6) (by exact zq7) (by rfl)
def m4 (l_0 : Bool) (l_1 : List (Bs × Bs)) (more_0 : Bool) (more_1 : List (Bs × Bs)) : Option R4 :=
  if l_1.isEmpty = true then
    if more_1.isEmpty = true then
      (m7 l_0 l_1).bind fun yr4 =>
        (m7 true ([] : List (Bs × Bs))).bind fun yr6 =>
          if yr4.1 = true then
            j4_8r7 l_0 l_1 true ([] : List (Bs × Bs)) (!yr6.1) true yr4.2.1 yr4.2.2.1 yr4.2.2.2.1 yr4.2.2.2.2.1 yr4.2.2.2.2.2.1 yr4.2.2.2.2.2.2.1 yr4.2.2.2.2.2.2.2.1 yr4.2.2.2.2.2.2.2.2.1 yr4.2.2.2.2.2.2.2.2.2 yr6.1 yr6.2.1 yr6.2.2.1 yr6.2.2.2.1 yr6.2.2.2.2.1 yr6.2.2.2.2.2.1 yr6.2.2.2.2.2.2.1 yr6.2.2.2.2.2.2.2.1 yr6.2.2.2.2.2.2.2.2.1 yr6.2.2.2.2.2.2.2.2.2
          else
            j4_8r7 l_0 l_1 true ([] : List (Bs × Bs)) false false yr4.2.1 yr4.2.2.1 yr4.2.2.2.1 yr4.2.2.2.2.1 yr4.2.2.2.2.2.1 yr4.2.2.2.2.2.2.1 yr4.2.2.2.2.2.2.2.1 yr4.2.2.2.2.2.2.2.2.1 yr4.2.2.2.2.2.2.2.2.2 yr6.1 yr6.2.1 yr6.2.2.1 yr6.2.2.2.1 yr6.2.2.2.2.1 yr6.2.2.2.2.2.1 yr6.2.2.2.2.2.2.1 yr6.2.2.2.2.2.2.2.1 yr6.2.2.2.2.2.2.2.2.1 yr6.2.2.2.2.2.2.2.2.2
    else
      if more_1.length * 32 ≤ 140737488355328 then
        (m7 l_0 l_1).bind fun yr82 =>
          (m7 false more_1).bind fun yr84 =>
            if yr82.1 = true then
              j4_8r7v1 l_0 l_1 false more_1 (!yr84.1) true yr82.2.1 yr82.2.2.1 yr82.2.2.2.1 yr82.2.2.2.2.1 yr82.2.2.2.2.2.1 yr82.2.2.2.2.2.2.1 yr82.2.2.2.2.2.2.2.1 yr82.2.2.2.2.2.2.2.2.1 yr82.2.2.2.2.2.2.2.2.2 yr84.1 yr84.2.1 yr84.2.2.1 yr84.2.2.2.1 yr84.2.2.2.2.1 yr84.2.2.2.2.2.1 yr84.2.2.2.2.2.2.1 yr84.2.2.2.2.2.2.2.1 yr84.2.2.2.2.2.2.2.2.1 yr84.2.2.2.2.2.2.2.2.2
            else
              j4_8r7v1 l_0 l_1 false more_1 false false yr82.2.1 yr82.2.2.1 yr82.2.2.2.1 yr82.2.2.2.2.1 yr82.2.2.2.2.2.1 yr82.2.2.2.2.2.2.1 yr82.2.2.2.2.2.2.2.1 yr82.2.2.2.2.2.2.2.2.1 yr82.2.2.2.2.2.2.2.2.2 yr84.1 yr84.2.1 yr84.2.2.1 yr84.2.2.2.1 yr84.2.2.2.2.1 yr84.2.2.2.2.2.1 yr84.2.2.2.2.2.2.1 yr84.2.2.2.2.2.2.2.1 yr84.2.2.2.2.2.2.2.2.1 yr84.2.2.2.2.2.2.2.2.2
      else none
  else
    if l_1.length * 32 ≤ 140737488355328 then
      if more_1 = [] ∨ (l_1.length + more_1.length) * 32 ≤ 140737488355328 then
        (m7 l_0 l_1).bind fun yr159 =>
          (m7 false (l_1 ++ more_1)).bind fun yr161 =>
            if yr159.1 = true then
              j4_8r7v1 l_0 l_1 false (l_1 ++ more_1) (!yr161.1) true yr159.2.1 yr159.2.2.1 yr159.2.2.2.1 yr159.2.2.2.2.1 yr159.2.2.2.2.2.1 yr159.2.2.2.2.2.2.1 yr159.2.2.2.2.2.2.2.1 yr159.2.2.2.2.2.2.2.2.1 yr159.2.2.2.2.2.2.2.2.2 yr161.1 yr161.2.1 yr161.2.2.1 yr161.2.2.2.1 yr161.2.2.2.2.1 yr161.2.2.2.2.2.1 yr161.2.2.2.2.2.2.1 yr161.2.2.2.2.2.2.2.1 yr161.2.2.2.2.2.2.2.2.1 yr161.2.2.2.2.2.2.2.2.2
            else
              j4_8r7v1 l_0 l_1 false (l_1 ++ more_1) false false yr159.2.1 yr159.2.2.1 yr159.2.2.2.1 yr159.2.2.2.2.1 yr159.2.2.2.2.2.1 yr159.2.2.2.2.2.2.1 yr159.2.2.2.2.2.2.2.1 yr159.2.2.2.2.2.2.2.2.1 yr159.2.2.2.2.2.2.2.2.2 yr161.1 yr161.2.1 yr161.2.2.1 yr161.2.2.2.1 yr161.2.2.2.2.1 yr161.2.2.2.2.2.1 yr161.2.2.2.2.2.2.1 yr161.2.2.2.2.2.2.2.1 yr161.2.2.2.2.2.2.2.2.1 yr161.2.2.2.2.2.2.2.2.2
      else none
    else none
theorem f4_t (l_0 : Bool) (l_1 : List (Bs × Bs)) (more_0 : Bool) (more_1 : List (Bs × Bs)) :
    callW (E0 mm) 4 [.c (.d (.lst l_0 (enL enSS l_1))), .c (.d (.lst more_0 (enL enSS more_1)))] [] = (m4 l_0 l_1 more_0 more_1).map e4 := by
  rw [callW_run (body := c4_0) (res := [.tmp 4]) Tryd.func4 rfl rfl (by kernel_rfl)]
  simp -implicitDefEqProofs only [m4, slots2, c4_0_e, c4_1_r, (show opsOf c4_1 = _ :: _ from rfl), c4_2_e, c4_3_r, (show opsOf c4_3 = _ :: _ from rfl), Tryd.underlying22, hd63, an22, setA, setB, za, zb, zc, zd, ze, zf, zg, zh, zi, zj, zk, zl, zm, zn, zo, zp, reduceCtorEq, zE, ↓reduceIte]
  refine brB (fun yc1 => ?_) (fun yc1 => ?_)
  · simp -implicitDefEqProofs only [Tryd.underlying22, hd63, an22, yc1, setA, setB, za, zb, zc, zd, ze, zf, zg, zh, zi, zj, zk, zl, zm, zn, zo, zp, reduceCtorEq, zE, ↓reduceIte]
    refine brB (fun yc2 => ?_) (fun yc2 => ?_)
    · simp -implicitDefEqProofs only [c4_4_e, c4_5_r, (show opsOf c4_5 = _ :: _ from rfl), ent7, prm7, f7_t, yc1, yc2, setA, setB, za, zb, zc, zd, ze, zf, zg, zh, zi, zj, zk, zl, zm, zn, zo, zp, reduceCtorEq, zE, ↓reduceIte]
      refine brM (fun yc3 => ?_) (fun yr4 yc3 => ?_)
      · rw [yc3]; rfl
      · simp -implicitDefEqProofs only [e7, ent7, prm7, (show callW (E0 mm) 7 [.c (.d (.lst true []))] [] = _ from f7_t true ([] : List (Bs × Bs))), yc1, yc2, yc3, setA, setB, za, zb, zc, zd, ze, zf, zg, zh, zi, zj, zk, zl, zm, zn, zo, zp, reduceCtorEq, zE, ↓reduceIte]
        refine brM (fun yc5 => ?_) (fun yr6 yc5 => ?_)
        · rw [yc5]; rfl
        · simp -implicitDefEqProofs only [e7, zc24, ao64, sz24, c4_6_e, c4_7_e, c4_8_r, (show opsOf c4_8 = _ :: _ :: _ :: _ :: _ :: _ :: _ :: r4_8_7 from rfl), Tryd.underlying24, sz4, ag4, yc1, yc2, yc3, yc5, setA, setB, za, zb, zc, zd, ze, zf, zg, zh, zi, zj, zk, zl, zm, zn, zo, zp, reduceCtorEq, zE, ↓reduceIte]
          refine brB (fun yc7 => ?_) (fun yc7 => ?_)
          · simp -implicitDefEqProofs only [Tryd.underlying24, sz4, ag4, yc1, yc2, yc3, yc5, yc7, setA, setB, za, zb, zc, zd, ze, zf, zg, zh, zi, zj, zk, zl, zm, zn, zo, zp, reduceCtorEq, zE, ↓reduceIte]
            exact j4_8r7_t l_0 l_1 true ([] : List (Bs × Bs)) (!yr6.1) true yr4.2.1 yr4.2.2.1 yr4.2.2.2.1 yr4.2.2.2.2.1 yr4.2.2.2.2.2.1 yr4.2.2.2.2.2.2.1 yr4.2.2.2.2.2.2.2.1 yr4.2.2.2.2.2.2.2.2.1 yr4.2.2.2.2.2.2.2.2.2 yr6.1 yr6.2.1 yr6.2.2.1 yr6.2.2.2.1 yr6.2.2.2.2.1 yr6.2.2.2.2.2.1 yr6.2.2.2.2.2.2.1 yr6.2.2.2.2.2.2.2.1 yr6.2.2.2.2.2.2.2.2.1 yr6.2.2.2.2.2.2.2.2.2 _ (by rfl) (by rfl) (by rfl) (by rfl) (by rfl)
          · simp -implicitDefEqProofs only [yc1, yc2, yc3, yc5, yc7, setA, setB, za, zb, zc, zd, ze, zf, zg, zh, zi, zj, zk, zl, zm, zn, zo, zp, reduceCtorEq, zE, ↓reduceIte]
            exact j4_8r7_t l_0 l_1 true ([] : List (Bs × Bs)) false false yr4.2.1 yr4.2.2.1 yr4.2.2.2.1 yr4.2.2.2.2.1 yr4.2.2.2.2.2.1 yr4.2.2.2.2.2.2.1 yr4.2.2.2.2.2.2.2.1 yr4.2.2.2.2.2.2.2.2.1 yr4.2.2.2.2.2.2.2.2.2 yr6.1 yr6.2.1 yr6.2.2.1 yr6.2.2.2.1 yr6.2.2.2.2.1 yr6.2.2.2.2.2.1 yr6.2.2.2.2.2.2.1 yr6.2.2.2.2.2.2.2.1 yr6.2.2.2.2.2.2.2.2.1 yr6.2.2.2.2.2.2.2.2.2 _ (by rfl) (by rfl) (by rfl) (by rfl) (by rfl)
    · simp -implicitDefEqProofs only [yc1, yc2, setA, setB, za, zb, zc, zd, ze, zf, zg, zh, zi, zj, zk, zl, zm, zn, zo, zp, reduceCtorEq, zE, ↓reduceIte]
      refine brP (fun yc80 => ?_) (fun yc80 => ?_)
      · simp -implicitDefEqProofs only [c4_4_e, c4_5_r, (show opsOf c4_5 = _ :: _ from rfl), ent7, prm7, f7_t, yc1, yc2, yc80, setA, setB, za, zb, zc, zd, ze, zf, zg, zh, zi, zj, zk, zl, zm, zn, zo, zp, reduceCtorEq, zE, ↓reduceIte]
        refine brM (fun yc81 => ?_) (fun yr82 yc81 => ?_)
        · rw [yc81]; rfl
        · simp -implicitDefEqProofs only [e7, ent7, prm7, (show callW (E0 mm) 7 [.c (.d (.lst false (enL enSS more_1)))] [] = _ from f7_t false more_1), yc1, yc2, yc80, yc81, setA, setB, za, zb, zc, zd, ze, zf, zg, zh, zi, zj, zk, zl, zm, zn, zo, zp, reduceCtorEq, zE, ↓reduceIte]
          refine brM (fun yc83 => ?_) (fun yr84 yc83 => ?_)
          · rw [yc83]; rfl
          · simp -implicitDefEqProofs only [e7, zc24, ao64, sz24, c4_6_e, c4_7_e, c4_8_r, (show opsOf c4_8 = _ :: _ :: _ :: _ :: _ :: _ :: _ :: r4_8_7 from rfl), Tryd.underlying24, sz4, ag4, yc1, yc2, yc80, yc81, yc83, setA, setB, za, zb, zc, zd, ze, zf, zg, zh, zi, zj, zk, zl, zm, zn, zo, zp, reduceCtorEq, zE, ↓reduceIte]
            refine brB (fun yc85 => ?_) (fun yc85 => ?_)
            · simp -implicitDefEqProofs only [Tryd.underlying24, sz4, ag4, yc1, yc2, yc80, yc81, yc83, yc85, setA, setB, za, zb, zc, zd, ze, zf, zg, zh, zi, zj, zk, zl, zm, zn, zo, zp, reduceCtorEq, zE, ↓reduceIte]
              exact j4_8r7v1_t l_0 l_1 false more_1 (!yr84.1) true yr82.2.1 yr82.2.2.1 yr82.2.2.2.1 yr82.2.2.2.2.1 yr82.2.2.2.2.2.1 yr82.2.2.2.2.2.2.1 yr82.2.2.2.2.2.2.2.1 yr82.2.2.2.2.2.2.2.2.1 yr82.2.2.2.2.2.2.2.2.2 yr84.1 yr84.2.1 yr84.2.2.1 yr84.2.2.2.1 yr84.2.2.2.2.1 yr84.2.2.2.2.2.1 yr84.2.2.2.2.2.2.1 yr84.2.2.2.2.2.2.2.1 yr84.2.2.2.2.2.2.2.2.1 yr84.2.2.2.2.2.2.2.2.2 _ (by rfl) (by rfl) (by rfl) (by rfl) (by rfl)
            · simp -implicitDefEqProofs only [yc1, yc2, yc80, yc81, yc83, yc85, setA, setB, za, zb, zc, zd, ze, zf, zg, zh, zi, zj, zk, zl, zm, zn, zo, zp, reduceCtorEq, zE, ↓reduceIte]
              exact j4_8r7v1_t l_0 l_1 false more_1 false false yr82.2.1 yr82.2.2.1 yr82.2.2.2.1 yr82.2.2.2.2.1 yr82.2.2.2.2.2.1 yr82.2.2.2.2.2.2.1 yr82.2.2.2.2.2.2.2.1 yr82.2.2.2.2.2.2.2.2.1 yr82.2.2.2.2.2.2.2.2.2 yr84.1 yr84.2.1 yr84.2.2.1 yr84.2.2.2.1 yr84.2.2.2.2.1 yr84.2.2.2.2.2.1 yr84.2.2.2.2.2.2.1 yr84.2.2.2.2.2.2.2.1 yr84.2.2.2.2.2.2.2.2.1 yr84.2.2.2.2.2.2.2.2.2 _ (by rfl) (by rfl) (by rfl) (by rfl) (by rfl)
      · rw [if_neg yc80]; rfl
  · simp -implicitDefEqProofs only [yc1, setA, setB, za, zb, zc, zd, ze, zf, zg, zh, zi, zj, zk, zl, zm, zn, zo, zp, reduceCtorEq, zE, ↓reduceIte]
    refine brP (fun yc156 => ?_) (fun yc156 => ?_)
    · simp -implicitDefEqProofs only [Tryd.underlying22, hd63, ap22, yc1, yc156, setA, setB, za, zb, zc, zd, ze, zf, zg, zh, zi, zj, zk, zl, zm, zn, zo, zp, reduceCtorEq, zE, ↓reduceIte]
      refine brP (fun yc157 => ?_) (fun yc157 => ?_)
      · simp -implicitDefEqProofs only [c4_4_e, c4_5_r, (show opsOf c4_5 = _ :: _ from rfl), ent7, prm7, f7_t, yc1, yc156, yc157, setA, setB, za, zb, zc, zd, ze, zf, zg, zh, zi, zj, zk, zl, zm, zn, zo, zp, reduceCtorEq, zE, ↓reduceIte]
        refine brM (fun yc158 => ?_) (fun yr159 yc158 => ?_)
        · rw [yc158]; rfl
        · simp -implicitDefEqProofs only [e7, ent7, prm7, (show callW (E0 mm) 7 [.c (.d (.lst false (enL enSS (l_1 ++ more_1))))] [] = _ from f7_t false (l_1 ++ more_1)), yc1, yc156, yc157, yc158, setA, setB, za, zb, zc, zd, ze, zf, zg, zh, zi, zj, zk, zl, zm, zn, zo, zp, reduceCtorEq, zE, ↓reduceIte]
          refine brM (fun yc160 => ?_) (fun yr161 yc160 => ?_)
          · rw [yc160]; rfl
          · simp -implicitDefEqProofs only [e7, zc24, ao64, sz24, c4_6_e, c4_7_e, c4_8_r, (show opsOf c4_8 = _ :: _ :: _ :: _ :: _ :: _ :: _ :: r4_8_7 from rfl), Tryd.underlying24, sz4, ag4, yc1, yc156, yc157, yc158, yc160, setA, setB, za, zb, zc, zd, ze, zf, zg, zh, zi, zj, zk, zl, zm, zn, zo, zp, reduceCtorEq, zE, ↓reduceIte]
            refine brB (fun yc162 => ?_) (fun yc162 => ?_)
            · simp -implicitDefEqProofs only [Tryd.underlying24, sz4, ag4, yc1, yc156, yc157, yc158, yc160, yc162, setA, setB, za, zb, zc, zd, ze, zf, zg, zh, zi, zj, zk, zl, zm, zn, zo, zp, reduceCtorEq, zE, ↓reduceIte]
              exact j4_8r7v1_t l_0 l_1 false (l_1 ++ more_1) (!yr161.1) true yr159.2.1 yr159.2.2.1 yr159.2.2.2.1 yr159.2.2.2.2.1 yr159.2.2.2.2.2.1 yr159.2.2.2.2.2.2.1 yr159.2.2.2.2.2.2.2.1 yr159.2.2.2.2.2.2.2.2.1 yr159.2.2.2.2.2.2.2.2.2 yr161.1 yr161.2.1 yr161.2.2.1 yr161.2.2.2.1 yr161.2.2.2.2.1 yr161.2.2.2.2.2.1 yr161.2.2.2.2.2.2.1 yr161.2.2.2.2.2.2.2.1 yr161.2.2.2.2.2.2.2.2.1 yr161.2.2.2.2.2.2.2.2.2 _ (by rfl) (by rfl) (by rfl) (by rfl) (by rfl)
            · simp -implicitDefEqProofs only [yc1, yc156, yc157, yc158, yc160, yc162, setA, setB, za, zb, zc, zd, ze, zf, zg, zh, zi, zj, zk, zl, zm, zn, zo, zp, reduceCtorEq, zE, ↓reduceIte]
              exact j4_8r7v1_t l_0 l_1 false (l_1 ++ more_1) false false yr159.2.1 yr159.2.2.1 yr159.2.2.2.1 yr159.2.2.2.2.1 yr159.2.2.2.2.2.1 yr159.2.2.2.2.2.2.1 yr159.2.2.2.2.2.2.2.1 yr159.2.2.2.2.2.2.2.2.1 yr159.2.2.2.2.2.2.2.2.2 yr161.1 yr161.2.1 yr161.2.2.1 yr161.2.2.2.1 yr161.2.2.2.2.1 yr161.2.2.2.2.2.1 yr161.2.2.2.2.2.2.1 yr161.2.2.2.2.2.2.2.1 yr161.2.2.2.2.2.2.2.2.1 yr161.2.2.2.2.2.2.2.2.2 _ (by rfl) (by rfl) (by rfl) (by rfl) (by rfl)
      · rw [if_neg yc157]; rfl
    · rw [if_neg yc156]; rfl
end
end Go.Proofs.YtbdjemdhjanffaaDoor
