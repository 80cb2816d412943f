/- The Go functions as plain functions, and that the evaluator computes them. -/
import Derived.Test.YtaohepmbkepmiaaDoorFTakes3
set_option linter.all false
set_option maxRecDepth 100000
namespace Go.Proofs.YtaohepmbkepmiaaDoor
open Go Go.Ab
open Nat renaming reduceEqDiff → za, reduceAdd → zb, reduceLeDiff → zc, reduceLT → zd, reduceMul → ze, reduceBEq → zf, reduceSub → zg, reducePow → zh
open Int renaming reduceEq → zi, reduceLE → zj, reduceLT → zk, reduceToNat → zl, reduceNegSucc → zm, reduceAdd → zn, reduceBEq → zo
open String renaming reduceBEq → zp
set_option maxHeartbeats 4000000
noncomputable section
variable {mm : Int}
noncomputable def c53_0 : Code := bodyOf Tryd.f53
def c53_1 := cA c53_0
def c53_2 := cB c53_0
def c53_3 := cA c53_2
def c53_4 := cB c53_2
theorem c53_0_e : c53_0 = .seq c53_1 c53_2 := rfl
theorem c53_1_r : RG (E0 mm) 53 c53_1 := rgN rfl
theorem c53_2_e : c53_2 = .seq c53_3 c53_4 := rfl
theorem c53_3_r : RG (E0 mm) 53 c53_3 := rgN rfl
theorem c53_4_e : c53_4 = .ret := rfl
abbrev R53 := (Bool)
def e53 : R53 → AV × Heap := fun x => (.v (.c (.d (.sc (.bool x)))), [])
def m53 (c : UInt8) : Option R53 :=
  if (c == (9 : UInt8)) = true then
    some true
  else
    if (decide ((32 : UInt8) ≤ c)) = true then
      if (decide (c ≤ (126 : UInt8))) = true then
        some true
      else
        some (decide ((128 : UInt8) ≤ c))
    else
      some (decide ((128 : UInt8) ≤ c))
theorem f53_t (c : UInt8) :
    callW (E0 mm) 53 [.c (.d (.sc (.int .u8 ((c).toNat : Int))))] [] = (m53 c).map e53 := by
  rw [callW_run (body := c53_0) (res := [.tmp 2]) Tryd.func53 rfl rfl (by kernel_rfl)]
  simp -implicitDefEqProofs only [m53, slots1, c53_0_e, c53_1_r, (show opsOf c53_1 = _ :: _ from rfl), c53_2_e, c53_3_r, (show opsOf c53_3 = _ :: _ from rfl), setA, setB, za, zb, zc, zd, ze, zf, zg, zh, zi, zj, zk, zl, zm, zn, zo, zp, reduceCtorEq, zE, ↓reduceIte]
  refine brB (fun yc1 => ?_) (fun yc1 => ?_)
  · simp -implicitDefEqProofs only [c53_4_e, yc1, setA, setB, za, zb, zc, zd, ze, zf, zg, zh, zi, zj, zk, zl, zm, zn, zo, zp, reduceCtorEq, zE, ↓reduceIte]
    all_goals rfl
  · simp -implicitDefEqProofs only [yc1, setA, setB, za, zb, zc, zd, ze, zf, zg, zh, zi, zj, zk, zl, zm, zn, zo, zp, reduceCtorEq, zE, ↓reduceIte]
    refine brB (fun yc2 => ?_) (fun yc2 => ?_)
    · simp -implicitDefEqProofs only [yc1, yc2, setA, setB, za, zb, zc, zd, ze, zf, zg, zh, zi, zj, zk, zl, zm, zn, zo, zp, reduceCtorEq, zE, ↓reduceIte]
      refine brB (fun yc3 => ?_) (fun yc3 => ?_)
      · simp -implicitDefEqProofs only [c53_4_e, yc1, yc2, yc3, setA, setB, za, zb, zc, zd, ze, zf, zg, zh, zi, zj, zk, zl, zm, zn, zo, zp, reduceCtorEq, zE, ↓reduceIte]
        all_goals rfl
      · simp -implicitDefEqProofs only [c53_4_e, yc1, yc2, yc3, setA, setB, za, zb, zc, zd, ze, zf, zg, zh, zi, zj, zk, zl, zm, zn, zo, zp, reduceCtorEq, zE, ↓reduceIte]
        all_goals rfl
    · simp -implicitDefEqProofs only [c53_4_e, yc1, yc2, setA, setB, za, zb, zc, zd, ze, zf, zg, zh, zi, zj, zk, zl, zm, zn, zo, zp, reduceCtorEq, zE, ↓reduceIte]
      all_goals rfl
noncomputable def c37_0 : Code := bodyOf Tryd.f37
def c37_1 := cA c37_0
def c37_2 := cB c37_0
def c37_3 := cA c37_2
def c37_4 := cA c37_3
def c37_5 := cB c37_3
def c37_6 := cA c37_5
def c37_7 := cA c37_6
def c37_8 := cA c37_7
def c37_9 := cA c37_8
def c37_10 := cB c37_8
def c37_11 := cA c37_10
def c37_12 := cB c37_10
def c37_13 := cB c37_7
def c37_14 := cA c37_13
def c37_15 := cA c37_14
def c37_16 := cA c37_15
def c37_17 := cB c37_15
def c37_18 := cA c37_17
def c37_19 := cA c37_18
def c37_20 := cB c37_18
def c37_21 := cB c37_17
def c37_22 := cB c37_13
def c37_23 := cB c37_2
def c37_24 := cA c37_23
def c37_25 := cB c37_23
theorem c37_0_e : c37_0 = .seq c37_1 c37_2 := rfl
theorem c37_1_r : RG (E0 mm) 37 c37_1 := rgN rfl
theorem c37_2_e : c37_2 = .seq c37_3 c37_23 := rfl
theorem c37_3_e : c37_3 = .seq c37_4 c37_5 := rfl
theorem c37_4_r : RG (E0 mm) 37 c37_4 := rgN rfl
theorem c37_5_e : c37_5 = .block 0 c37_6 := rfl
theorem c37_6_l (m : Nat) (st : St) : den (E0 mm) 37 m (callW (E0 mm)) itW c37_6 none st = loopD itW (loopF (E0 mm) 37 m (callW (E0 mm)) itW c37_7 [(0, .keep), (3, .keep)]) (canon m [(0, .keep), (3, .keep)] st) := rfl
theorem c37_7_e : c37_7 = .seq c37_8 c37_13 := rfl
theorem c37_8_e : c37_8 = .seq c37_9 c37_10 := rfl
theorem c37_9_r : RG (E0 mm) 37 c37_9 := rgN rfl
theorem c37_11_e : c37_11 = .skip := rfl
theorem c37_12_e : c37_12 = .exit 0 := rfl
theorem c37_13_e : c37_13 = .seq c37_14 c37_22 := rfl
theorem c37_14_e : c37_14 = .block 1 c37_15 := rfl
theorem c37_15_e : c37_15 = .seq c37_16 c37_17 := rfl
theorem c37_16_r : RG (E0 mm) 37 c37_16 := rgN rfl
theorem c37_18_e : c37_18 = .seq c37_19 c37_20 := rfl
theorem c37_19_r : RG (E0 mm) 37 c37_19 := rgN rfl
theorem c37_20_e : c37_20 = .ret := rfl
theorem c37_21_e : c37_21 = .skip := rfl
theorem c37_22_r : RG (E0 mm) 37 c37_22 := rgN rfl
theorem c37_23_e : c37_23 = .seq c37_24 c37_25 := rfl
theorem c37_24_r : RG (E0 mm) 37 c37_24 := rgN rfl
theorem c37_25_e : c37_25 = .ret := rfl
abbrev R37 := (Bool)
def e37 : R37 → AV × Heap := fun x => (.v (.c (.d (.sc (.bool x)))), [])
def K37_6 : Option (Ex × St) → Option (AV × Heap) := fun r => bodyD (E0 mm) [.tmp 2] 0 false (seqD (E0 mm) 37 0 (callW (E0 mm)) itW c37_23 (blockD 0 (r)))
def en37_6 : (Bs × Int) → X := fun x => (none, [.v (.c (.d (.sc (.string (S x.1))))), .v (.c (.d (.sc (.int .i64 x.2))))], [])
def j37_23  : Option R37 :=
  some true
theorem j37_23_t   (sl : Nat → AV)  :
    bodyD (E0 mm) [.tmp 2] 0 false (den (E0 mm) 37 0 (callW (E0 mm)) itW c37_23 none ⟨sl, []⟩) = (j37_23).map e37 := by
  simp -implicitDefEqProofs only [j37_23, c37_23_e, c37_24_r, (show opsOf c37_24 = _ :: _ from rfl), c37_25_e, setA, setB, za, zb, zc, zd, ze, zf, zg, zh, zi, zj, zk, zl, zm, zn, zo, zp, reduceCtorEq, zE, ↓reduceIte]
  all_goals rfl
def s37_6 (s0 : Bs) (i3 : Int) : Option ((Bs × Int) ⊕ R37) :=
  if (decide (i3 < (s0.length : Int))) = true then
    if 0 ≤ i3 ∧ i3 < (s0.length : Int) then
      (m53 (s0.getD i3.toNat 0)).bind fun yr4 =>
        if yr4 = true then
          some (.inl (s0, (w64 (i3 + 1))))
        else
          some (.inr false)
    else none
  else
    (j37_23).map .inr
theorem s37_6_t (s0 : Bs) (i3 : Int) :
    stepE (K37_6 (mm := mm)) (loopF (E0 mm) 37 0 (callW (E0 mm)) itW c37_7 [(0, .keep), (3, .keep)] (none, [.v (.c (.d (.sc (.string (S s0))))), .v (.c (.d (.sc (.int .i64 i3))))], [])) = (s37_6 s0 i3).map (sm en37_6 e37) := by
  simp -implicitDefEqProofs only [s37_6, loopF_eq, c37_7_e, c37_8_e, c37_9_r, (show opsOf c37_9 = _ :: _ from rfl), Tryd.underlying9, (show c37_10 = Code.cond _ c37_11 c37_12 from rfl), setA, setB, za, zb, zc, zd, ze, zf, zg, zh, zi, zj, zk, zl, zm, zn, zo, zp, reduceCtorEq, zE, ↓reduceIte]
  refine brB (fun yc1 => ?_) (fun yc1 => ?_)
  · simp -implicitDefEqProofs only [c37_11_e, c37_13_e, c37_14_e, c37_15_e, c37_16_r, (show opsOf c37_16 = _ :: _ from rfl), Tryd.underlying9, yc1, setA, setB, za, zb, zc, zd, ze, zf, zg, zh, zi, zj, zk, zl, zm, zn, zo, zp, reduceCtorEq, zE, ↓reduceIte]
    refine brP (fun yc2 => ?_) (fun yc2 => ?_)
    · simp -implicitDefEqProofs only [ent53, prm53, f53_t, yc1, yc2, setA, setB, za, zb, zc, zd, ze, zf, zg, zh, zi, zj, zk, zl, zm, zn, zo, zp, reduceCtorEq, zE, ↓reduceIte]
      refine brM (fun yc3 => ?_) (fun yr4 yc3 => ?_)
      · rw [yc3]; rfl
      · simp -implicitDefEqProofs only [e53, (show c37_17 = Code.cond _ c37_18 c37_21 from rfl), yc1, yc2, yc3, setA, setB, za, zb, zc, zd, ze, zf, zg, zh, zi, zj, zk, zl, zm, zn, zo, zp, reduceCtorEq, zE, ↓reduceIte]
        refine brB (fun yc5 => ?_) (fun yc5 => ?_)
        · simp -implicitDefEqProofs only [c37_21_e, c37_22_r, (show opsOf c37_22 = _ :: _ from rfl), yc1, yc2, yc3, yc5, setA, setB, za, zb, zc, zd, ze, zf, zg, zh, zi, zj, zk, zl, zm, zn, zo, zp, reduceCtorEq, zE, ↓reduceIte]
          all_goals rfl
        · simp -implicitDefEqProofs only [c37_18_e, c37_19_r, (show opsOf c37_19 = _ :: _ from rfl), c37_20_e, K37_6, yc1, yc2, yc3, yc5, setA, setB, za, zb, zc, zd, ze, zf, zg, zh, zi, zj, zk, zl, zm, zn, zo, zp, reduceCtorEq, zE, ↓reduceIte]
          all_goals rfl
    · rw [if_neg yc2]; rfl
  · simp -implicitDefEqProofs only [c37_12_e, K37_6, yc1, setA, setB, za, zb, zc, zd, ze, zf, zg, zh, zi, zj, zk, zl, zm, zn, zo, zp, reduceCtorEq, zE, ↓reduceIte]
    exact mi (j37_23_t _)
def l37_6 (s0 : Bs) (i3 : Int) : Option R37 := iter (fun x : (Bs × Int) => s37_6 x.1 x.2) (s0, i3)
theorem l37_6_t (s0 : Bs) (i3 : Int) : bodyD (E0 mm) [.tmp 2] 0 false (seqD (E0 mm) 37 0 (callW (E0 mm)) itW c37_23 (blockD 0 (itW (loopF (E0 mm) 37 0 (callW (E0 mm)) itW c37_7 [(0, .keep), (3, .keep)]) (none, [.v (.c (.d (.sc (.string (S s0))))), .v (.c (.d (.sc (.int .i64 i3))))], [])))) = (l37_6 s0 i3).map e37 :=
  it_sim (K := (K37_6 (mm := mm))) rfl (enc := en37_6) (fun x => s37_6_t x.1 x.2) (s0, i3)
def m37 (s : Bs) : Option R37 :=
  l37_6 s (0 : Int)
theorem f37_t (s : Bs) :
    callW (E0 mm) 37 [.c (.d (.sc (.string (S s))))] [] = (m37 s).map e37 := by
  rw [callW_run (body := c37_0) (res := [.tmp 2]) Tryd.func37 rfl rfl (by kernel_rfl)]
  simp -implicitDefEqProofs only [m37, slots1, c37_0_e, c37_1_r, (show opsOf c37_1 = _ :: _ from rfl), c37_2_e, c37_3_e, c37_4_r, (show opsOf c37_4 = _ :: _ from rfl), c37_5_e, c37_6_l, setA, setB, za, zb, zc, zd, ze, zf, zg, zh, zi, zj, zk, zl, zm, zn, zo, zp, reduceCtorEq, zE, ↓reduceIte]
  exact l37_6_t s (0 : Int)
noncomputable def c69_0 : Code := bodyOf Tryd.f69
def c69_1 := cA c69_0
def c69_2 := cB c69_0
def c69_3 := cA c69_2
def c69_4 := cB c69_2
def c69_5 := cA c69_4
def c69_6 := cA c69_5
def c69_7 := cB c69_5
def c69_8 := cA c69_7
def c69_9 := cB c69_7
def c69_10 := cB c69_4
def c69_11 := cA c69_10
def c69_12 := cA c69_11
def c69_13 := cB c69_11
def c69_14 := cA c69_13
def c69_15 := cB c69_13
def c69_16 := cB c69_10
def c69_17 := cA c69_16
def c69_18 := cA c69_17
def c69_19 := cB c69_17
def c69_20 := cA c69_19
def c69_21 := cB c69_19
def c69_22 := cB c69_16
def c69_23 := cA c69_22
def c69_24 := cA c69_23
def c69_25 := cB c69_23
def c69_26 := cA c69_25
def c69_27 := cA c69_26
def c69_28 := cB c69_26
def c69_29 := cB c69_25
def c69_30 := cB c69_22
def c69_31 := cA c69_30
def c69_32 := cB c69_30
theorem c69_0_e : c69_0 = .seq c69_1 c69_2 := rfl
theorem c69_1_r : RG (E0 mm) 69 c69_1 := rgN rfl
theorem c69_2_e : c69_2 = .seq c69_3 c69_4 := rfl
theorem c69_3_r : RG (E0 mm) 69 c69_3 := rgN rfl
theorem c69_4_e : c69_4 = .seq c69_5 c69_10 := rfl
theorem c69_5_e : c69_5 = .seq c69_6 c69_7 := rfl
theorem c69_6_r : RG (E0 mm) 69 c69_6 := rgN rfl
theorem c69_8_r : RG (E0 mm) 69 c69_8 := rgN rfl
theorem c69_9_e : c69_9 = .skip := rfl
theorem c69_10_e : c69_10 = .seq c69_11 c69_16 := rfl
theorem c69_11_e : c69_11 = .seq c69_12 c69_13 := rfl
theorem c69_12_r : RG (E0 mm) 69 c69_12 := rgN rfl
theorem c69_14_r : RG (E0 mm) 69 c69_14 := rgN rfl
theorem c69_15_e : c69_15 = .skip := rfl
theorem c69_16_e : c69_16 = .seq c69_17 c69_22 := rfl
theorem c69_17_e : c69_17 = .seq c69_18 c69_19 := rfl
theorem c69_18_r : RG (E0 mm) 69 c69_18 := rgN rfl
theorem c69_20_r : RG (E0 mm) 69 c69_20 := rgN rfl
theorem c69_21_e : c69_21 = .skip := rfl
theorem c69_22_e : c69_22 = .seq c69_23 c69_30 := rfl
theorem c69_23_e : c69_23 = .seq c69_24 c69_25 := rfl
theorem c69_24_r : RG (E0 mm) 69 c69_24 := rgN rfl
theorem c69_26_e : c69_26 = .seq c69_27 c69_28 := rfl
theorem c69_27_r : RG (E0 mm) 69 c69_27 := rgN rfl
theorem c69_28_e : c69_28 = .ret := rfl
theorem c69_29_e : c69_29 = .skip := rfl
theorem c69_30_e : c69_30 = .seq c69_31 c69_32 := rfl
theorem c69_31_r : RG (E0 mm) 69 c69_31 := rgN rfl
theorem c69_32_e : c69_32 = .ret := rfl
abbrev R69 := (Int)
def e69 : R69 → AV × Heap := fun x => (.v (.c (.d (.sc (.int .i64 x)))), [])
def j69_22 (base1 d5 : Int) : Option R69 :=
  if (decide ((w64 base1) ≤ d5)) = true then
    some (-1 : Int)
  else
    some d5
theorem j69_22_t (base1 d5 : Int)  (sl : Nat → AV) (zq1 : sl 1 = .v (.c (.d (.sc (.int .u64 base1))))) (zq5 : sl 5 = .v (.c (.d (.sc (.int .i64 d5))))) :
    bodyD (E0 mm) [.tmp 4] 0 false (den (E0 mm) 69 0 (callW (E0 mm)) itW c69_22 none ⟨sl, []⟩) = (j69_22 base1 d5).map e69 := by
  simp -implicitDefEqProofs only [j69_22, c69_22_e, c69_23_e, c69_24_r, (show opsOf c69_24 = _ :: _ from rfl), Tryd.underlying43, Tryd.underlying3, (show c69_25 = Code.cond _ c69_26 c69_29 from rfl), zq1, zq5, setA, setB, za, zb, zc, zd, ze, zf, zg, zh, zi, zj, zk, zl, zm, zn, zo, zp, reduceCtorEq, zE, ↓reduceIte]
  refine brB (fun yc7 => ?_) (fun yc7 => ?_)
  · simp -implicitDefEqProofs only [c69_26_e, c69_27_r, (show opsOf c69_27 = _ :: _ from rfl), c69_28_e, zq1, zq5, yc7, setA, setB, za, zb, zc, zd, ze, zf, zg, zh, zi, zj, zk, zl, zm, zn, zo, zp, reduceCtorEq, zE, ↓reduceIte]
    all_goals rfl
  · simp -implicitDefEqProofs only [c69_29_e, c69_30_e, c69_31_r, (show opsOf c69_31 = _ :: _ from rfl), c69_32_e, zq1, zq5, yc7, setA, setB, za, zb, zc, zd, ze, zf, zg, zh, zi, zj, zk, zl, zm, zn, zo, zp, reduceCtorEq, zE, ↓reduceIte]
    all_goals rfl
def j69_19 (c0 : UInt8) (base1 d5 : Int) (t30 : Bool) : Option R69 :=
  if t30 = true then
    j69_22 base1 (w64 ((w64 ((c0.toNat : Int) - 65)) + 10))
  else
    j69_22 base1 d5
theorem j69_19_t (c0 : UInt8) (base1 d5 : Int) (t30 : Bool)  (sl : Nat → AV) (zq0 : sl 0 = .v (.c (.d (.sc (.int .u8 ((c0).toNat : Int)))))) (zq1 : sl 1 = .v (.c (.d (.sc (.int .u64 base1))))) (zq5 : sl 5 = .v (.c (.d (.sc (.int .i64 d5))))) (zq30 : sl 30 = .v (.c (.d (.sc (.bool t30))))) :
    bodyD (E0 mm) [.tmp 4] 0 false (seqD (E0 mm) 69 0 (callW (E0 mm)) itW c69_22 (den (E0 mm) 69 0 (callW (E0 mm)) itW c69_19 none ⟨sl, []⟩)) = (j69_19 c0 base1 d5 t30).map e69 := by
  simp -implicitDefEqProofs only [j69_19, (show c69_19 = Code.cond _ c69_20 c69_21 from rfl), zq0, zq1, zq5, zq30, setA, setB, za, zb, zc, zd, ze, zf, zg, zh, zi, zj, zk, zl, zm, zn, zo, zp, reduceCtorEq, zE, ↓reduceIte]
  refine brB (fun yc6 => ?_) (fun yc6 => ?_)
  · simp -implicitDefEqProofs only [c69_20_r, (show opsOf c69_20 = _ :: _ from rfl), Tryd.underlying5, Tryd.underlying3, zq0, zq1, zq5, zq30, yc6, setA, setB, za, zb, zc, zd, ze, zf, zg, zh, zi, zj, zk, zl, zm, zn, zo, zp, reduceCtorEq, zE, ↓reduceIte]
    exact j69_22_t base1 (w64 ((w64 ((c0.toNat : Int) - 65)) + 10)) _ (by exact zq1) (by rfl)
  · simp -implicitDefEqProofs only [c69_21_e, zq0, zq1, zq5, zq30, yc6, setA, setB, za, zb, zc, zd, ze, zf, zg, zh, zi, zj, zk, zl, zm, zn, zo, zp, reduceCtorEq, zE, ↓reduceIte]
    exact j69_22_t base1 d5 _ (by exact zq1) (by exact zq5)
def j69_16 (c0 : UInt8) (base1 d5 : Int) : Option R69 :=
  if (decide ((65 : UInt8) ≤ c0)) = true then
    j69_19 c0 base1 d5 (decide (c0 ≤ (70 : UInt8)))
  else
    j69_19 c0 base1 d5 false
theorem j69_16_t (c0 : UInt8) (base1 d5 : Int)  (sl : Nat → AV) (zq0 : sl 0 = .v (.c (.d (.sc (.int .u8 ((c0).toNat : Int)))))) (zq1 : sl 1 = .v (.c (.d (.sc (.int .u64 base1))))) (zq5 : sl 5 = .v (.c (.d (.sc (.int .i64 d5))))) :
    bodyD (E0 mm) [.tmp 4] 0 false (den (E0 mm) 69 0 (callW (E0 mm)) itW c69_16 none ⟨sl, []⟩) = (j69_16 c0 base1 d5).map e69 := by
  simp -implicitDefEqProofs only [j69_16, c69_16_e, c69_17_e, c69_18_r, (show opsOf c69_18 = _ :: _ from rfl), zq0, zq1, zq5, setA, setB, za, zb, zc, zd, ze, zf, zg, zh, zi, zj, zk, zl, zm, zn, zo, zp, reduceCtorEq, zE, ↓reduceIte]
  refine brB (fun yc5 => ?_) (fun yc5 => ?_)
  · simp -implicitDefEqProofs only [zq0, zq1, zq5, yc5, setA, setB, za, zb, zc, zd, ze, zf, zg, zh, zi, zj, zk, zl, zm, zn, zo, zp, reduceCtorEq, zE, ↓reduceIte]
    exact j69_19_t c0 base1 d5 (decide (c0 ≤ (70 : UInt8))) _ (by exact zq0) (by exact zq1) (by exact zq5) (by rfl)
  · simp -implicitDefEqProofs only [zq0, zq1, zq5, yc5, setA, setB, za, zb, zc, zd, ze, zf, zg, zh, zi, zj, zk, zl, zm, zn, zo, zp, reduceCtorEq, zE, ↓reduceIte]
    exact j69_19_t c0 base1 d5 false _ (by exact zq0) (by exact zq1) (by exact zq5) (by rfl)
def j69_13 (c0 : UInt8) (base1 d5 : Int) (t20 : Bool) : Option R69 :=
  if t20 = true then
    j69_16 c0 base1 (w64 ((w64 ((c0.toNat : Int) - 97)) + 10))
  else
    j69_16 c0 base1 d5
theorem j69_13_t (c0 : UInt8) (base1 d5 : Int) (t20 : Bool)  (sl : Nat → AV) (zq0 : sl 0 = .v (.c (.d (.sc (.int .u8 ((c0).toNat : Int)))))) (zq1 : sl 1 = .v (.c (.d (.sc (.int .u64 base1))))) (zq5 : sl 5 = .v (.c (.d (.sc (.int .i64 d5))))) (zq20 : sl 20 = .v (.c (.d (.sc (.bool t20))))) :
    bodyD (E0 mm) [.tmp 4] 0 false (seqD (E0 mm) 69 0 (callW (E0 mm)) itW c69_16 (den (E0 mm) 69 0 (callW (E0 mm)) itW c69_13 none ⟨sl, []⟩)) = (j69_13 c0 base1 d5 t20).map e69 := by
  simp -implicitDefEqProofs only [j69_13, (show c69_13 = Code.cond _ c69_14 c69_15 from rfl), zq0, zq1, zq5, zq20, setA, setB, za, zb, zc, zd, ze, zf, zg, zh, zi, zj, zk, zl, zm, zn, zo, zp, reduceCtorEq, zE, ↓reduceIte]
  refine brB (fun yc4 => ?_) (fun yc4 => ?_)
  · simp -implicitDefEqProofs only [c69_14_r, (show opsOf c69_14 = _ :: _ from rfl), Tryd.underlying5, Tryd.underlying3, zq0, zq1, zq5, zq20, yc4, setA, setB, za, zb, zc, zd, ze, zf, zg, zh, zi, zj, zk, zl, zm, zn, zo, zp, reduceCtorEq, zE, ↓reduceIte]
    exact j69_16_t c0 base1 (w64 ((w64 ((c0.toNat : Int) - 97)) + 10)) _ (by exact zq0) (by exact zq1) (by rfl)
  · simp -implicitDefEqProofs only [c69_15_e, zq0, zq1, zq5, zq20, yc4, setA, setB, za, zb, zc, zd, ze, zf, zg, zh, zi, zj, zk, zl, zm, zn, zo, zp, reduceCtorEq, zE, ↓reduceIte]
    exact j69_16_t c0 base1 d5 _ (by exact zq0) (by exact zq1) (by exact zq5)
def j69_10 (c0 : UInt8) (base1 d5 : Int) : Option R69 :=
  if (decide ((97 : UInt8) ≤ c0)) = true then
    j69_13 c0 base1 d5 (decide (c0 ≤ (102 : UInt8)))
  else
    j69_13 c0 base1 d5 false
theorem j69_10_t (c0 : UInt8) (base1 d5 : Int)  (sl : Nat → AV) (zq0 : sl 0 = .v (.c (.d (.sc (.int .u8 ((c0).toNat : Int)))))) (zq1 : sl 1 = .v (.c (.d (.sc (.int .u64 base1))))) (zq5 : sl 5 = .v (.c (.d (.sc (.int .i64 d5))))) :
    bodyD (E0 mm) [.tmp 4] 0 false (den (E0 mm) 69 0 (callW (E0 mm)) itW c69_10 none ⟨sl, []⟩) = (j69_10 c0 base1 d5).map e69 := by
  simp -implicitDefEqProofs only [j69_10, c69_10_e, c69_11_e, c69_12_r, (show opsOf c69_12 = _ :: _ from rfl), zq0, zq1, zq5, setA, setB, za, zb, zc, zd, ze, zf, zg, zh, zi, zj, zk, zl, zm, zn, zo, zp, reduceCtorEq, zE, ↓reduceIte]
  refine brB (fun yc3 => ?_) (fun yc3 => ?_)
  · simp -implicitDefEqProofs only [zq0, zq1, zq5, yc3, setA, setB, za, zb, zc, zd, ze, zf, zg, zh, zi, zj, zk, zl, zm, zn, zo, zp, reduceCtorEq, zE, ↓reduceIte]
    exact j69_13_t c0 base1 d5 (decide (c0 ≤ (102 : UInt8))) _ (by exact zq0) (by exact zq1) (by exact zq5) (by rfl)
  · simp -implicitDefEqProofs only [zq0, zq1, zq5, yc3, setA, setB, za, zb, zc, zd, ze, zf, zg, zh, zi, zj, zk, zl, zm, zn, zo, zp, reduceCtorEq, zE, ↓reduceIte]
    exact j69_13_t c0 base1 d5 false _ (by exact zq0) (by exact zq1) (by exact zq5) (by rfl)
def j69_7 (c0 : UInt8) (base1 d5 : Int) (t11 : Bool) : Option R69 :=
  if t11 = true then
    j69_10 c0 base1 (w64 ((c0.toNat : Int) - 48))
  else
    j69_10 c0 base1 d5
theorem j69_7_t (c0 : UInt8) (base1 d5 : Int) (t11 : Bool)  (sl : Nat → AV) (zq0 : sl 0 = .v (.c (.d (.sc (.int .u8 ((c0).toNat : Int)))))) (zq1 : sl 1 = .v (.c (.d (.sc (.int .u64 base1))))) (zq5 : sl 5 = .v (.c (.d (.sc (.int .i64 d5))))) (zq11 : sl 11 = .v (.c (.d (.sc (.bool t11))))) :
    bodyD (E0 mm) [.tmp 4] 0 false (seqD (E0 mm) 69 0 (callW (E0 mm)) itW c69_10 (den (E0 mm) 69 0 (callW (E0 mm)) itW c69_7 none ⟨sl, []⟩)) = (j69_7 c0 base1 d5 t11).map e69 := by
  simp -implicitDefEqProofs only [j69_7, (show c69_7 = Code.cond _ c69_8 c69_9 from rfl), zq0, zq1, zq5, zq11, setA, setB, za, zb, zc, zd, ze, zf, zg, zh, zi, zj, zk, zl, zm, zn, zo, zp, reduceCtorEq, zE, ↓reduceIte]
  refine brB (fun yc2 => ?_) (fun yc2 => ?_)
  · simp -implicitDefEqProofs only [c69_8_r, (show opsOf c69_8 = _ :: _ from rfl), Tryd.underlying5, Tryd.underlying3, zq0, zq1, zq5, zq11, yc2, setA, setB, za, zb, zc, zd, ze, zf, zg, zh, zi, zj, zk, zl, zm, zn, zo, zp, reduceCtorEq, zE, ↓reduceIte]
    exact j69_10_t c0 base1 (w64 ((c0.toNat : Int) - 48)) _ (by exact zq0) (by exact zq1) (by rfl)
  · simp -implicitDefEqProofs only [c69_9_e, zq0, zq1, zq5, zq11, yc2, setA, setB, za, zb, zc, zd, ze, zf, zg, zh, zi, zj, zk, zl, zm, zn, zo, zp, reduceCtorEq, zE, ↓reduceIte]
    exact j69_10_t c0 base1 d5 _ (by exact zq0) (by exact zq1) (by exact zq5)
def m69 (c : UInt8) (base : Int) : Option R69 :=
  if (decide ((48 : UInt8) ≤ c)) = true then
    j69_7 c base (-1 : Int) (decide (c ≤ (57 : UInt8)))
  else
    j69_7 c base (-1 : Int) false
theorem f69_t (c : UInt8) (base : Int) :
    callW (E0 mm) 69 [.c (.d (.sc (.int .u8 ((c).toNat : Int)))), .c (.d (.sc (.int .u64 base)))] [] = (m69 c base).map e69 := by
  rw [callW_run (body := c69_0) (res := [.tmp 4]) Tryd.func69 rfl rfl (by kernel_rfl)]
  simp -implicitDefEqProofs only [m69, slots2, c69_0_e, c69_1_r, (show opsOf c69_1 = _ :: _ from rfl), c69_2_e, c69_3_r, (show opsOf c69_3 = _ :: _ from rfl), c69_4_e, c69_5_e, c69_6_r, (show opsOf c69_6 = _ :: _ from rfl), setA, setB, za, zb, zc, zd, ze, zf, zg, zh, zi, zj, zk, zl, zm, zn, zo, zp, reduceCtorEq, zE, ↓reduceIte]
  refine brB (fun yc1 => ?_) (fun yc1 => ?_)
  · simp -implicitDefEqProofs only [yc1, setA, setB, za, zb, zc, zd, ze, zf, zg, zh, zi, zj, zk, zl, zm, zn, zo, zp, reduceCtorEq, zE, ↓reduceIte]
    exact j69_7_t c base (-1 : Int) (decide (c ≤ (57 : UInt8))) _ (by rfl) (by rfl) (by rfl) (by rfl)
  · simp -implicitDefEqProofs only [yc1, setA, setB, za, zb, zc, zd, ze, zf, zg, zh, zi, zj, zk, zl, zm, zn, zo, zp, reduceCtorEq, zE, ↓reduceIte]
    exact j69_7_t c base (-1 : Int) false _ (by rfl) (by rfl) (by rfl) (by rfl)
noncomputable def c54_0 : Code := bodyOf Tryd.f54
def c54_1 := cA c54_0
def c54_2 := cB c54_0
def c54_3 := cA c54_2
def c54_4 := cA c54_3
def c54_5 := cB c54_3
def c54_6 := cA c54_5
def c54_7 := cA c54_6
def c54_8 := cB c54_6
def c54_9 := cB c54_5
def c54_10 := cB c54_2
def c54_11 := cA c54_10
def c54_12 := cA c54_11
def c54_13 := cB c54_11
def c54_14 := cA c54_13
def c54_15 := cA c54_14
def c54_16 := cA c54_15
def c54_17 := cA c54_16
def c54_18 := cB c54_16
def c54_19 := cA c54_18
def c54_20 := cB c54_18
def c54_21 := cB c54_15
def c54_22 := cA c54_21
def c54_23 := cA c54_22
def c54_24 := cA c54_23
def c54_25 := cB c54_23
def c54_26 := cA c54_25
def c54_27 := cA c54_26
def c54_28 := cB c54_26
def c54_29 := cB c54_25
def c54_30 := cB c54_21
def c54_31 := cB c54_10
def c54_32 := cA c54_31
def c54_33 := cA c54_32
def c54_34 := cA c54_33
def c54_35 := cA c54_34
def c54_36 := cA c54_35
def c54_37 := cB c54_35
def c54_38 := cA c54_37
def c54_39 := cB c54_37
def c54_40 := cB c54_34
def c54_41 := cA c54_40
def c54_42 := cB c54_31
def c54_43 := cA c54_42
def c54_44 := cA c54_43
def c54_45 := cB c54_43
def c54_46 := cA c54_45
def c54_47 := cA c54_46
def c54_48 := cB c54_46
def c54_49 := cB c54_45
def c54_50 := cB c54_42
def c54_51 := cA c54_50
def c54_52 := cB c54_50
def c54_53 := cA c54_52
def c54_54 := cA c54_53
def c54_55 := cB c54_53
def c54_56 := cA c54_55
def c54_57 := cA c54_56
def c54_58 := cA c54_57
def c54_59 := cA c54_58
def c54_60 := cB c54_58
def c54_61 := cA c54_60
def c54_62 := cB c54_60
def c54_63 := cB c54_57
def c54_64 := cA c54_63
def c54_65 := cA c54_64
def c54_66 := cA c54_65
def c54_67 := cB c54_65
def c54_68 := cA c54_67
def c54_69 := cB c54_67
def c54_70 := cA c54_69
def c54_71 := cA c54_70
def c54_72 := cB c54_70
def c54_73 := cB c54_69
def c54_74 := cB c54_63
def c54_75 := cB c54_52
def c54_76 := cA c54_75
def c54_77 := cB c54_75
theorem c54_0_e : c54_0 = .seq c54_1 c54_2 := rfl
theorem c54_1_r : RG (E0 mm) 54 c54_1 := rgN rfl
theorem c54_2_e : c54_2 = .seq c54_3 c54_10 := rfl
theorem c54_3_e : c54_3 = .seq c54_4 c54_5 := rfl
theorem c54_4_r : RG (E0 mm) 54 c54_4 := rgN rfl
theorem c54_6_e : c54_6 = .seq c54_7 c54_8 := rfl
theorem c54_7_r : RG (E0 mm) 54 c54_7 := rgN rfl
theorem c54_8_e : c54_8 = .ret := rfl
theorem c54_9_e : c54_9 = .skip := rfl
theorem c54_10_e : c54_10 = .seq c54_11 c54_31 := rfl
theorem c54_11_e : c54_11 = .seq c54_12 c54_13 := rfl
theorem c54_12_r : RG (E0 mm) 54 c54_12 := rgN rfl
theorem c54_13_e : c54_13 = .block 0 c54_14 := rfl
theorem c54_14_l (m : Nat) (st : St) : den (E0 mm) 54 m (callW (E0 mm)) itW c54_14 none st = loopD itW (loopF (E0 mm) 54 m (callW (E0 mm)) itW c54_15 [(0, .keep), (1, .keep), (6, .keep)]) (canon m [(0, .keep), (1, .keep), (6, .keep)] st) := rfl
theorem c54_15_e : c54_15 = .seq c54_16 c54_21 := rfl
theorem c54_16_e : c54_16 = .seq c54_17 c54_18 := rfl
theorem c54_17_r : RG (E0 mm) 54 c54_17 := rgN rfl
theorem c54_19_e : c54_19 = .skip := rfl
theorem c54_20_e : c54_20 = .exit 0 := rfl
theorem c54_21_e : c54_21 = .seq c54_22 c54_30 := rfl
theorem c54_22_e : c54_22 = .block 1 c54_23 := rfl
theorem c54_23_e : c54_23 = .seq c54_24 c54_25 := rfl
theorem c54_24_r : RG (E0 mm) 54 c54_24 := rgN rfl
theorem c54_26_e : c54_26 = .seq c54_27 c54_28 := rfl
theorem c54_27_r : RG (E0 mm) 54 c54_27 := rgN rfl
theorem c54_28_e : c54_28 = .ret := rfl
theorem c54_29_e : c54_29 = .skip := rfl
theorem c54_30_r : RG (E0 mm) 54 c54_30 := rgN rfl
theorem c54_31_e : c54_31 = .seq c54_32 c54_42 := rfl
theorem c54_32_e : c54_32 = .block 2 c54_33 := rfl
theorem c54_33_l (m : Nat) (st : St) : den (E0 mm) 54 m (callW (E0 mm)) itW c54_33 none st = loopD itW (loopF (E0 mm) 54 m (callW (E0 mm)) itW c54_34 [(0, .keep), (1, .keep)]) (canon m [(0, .keep), (1, .keep)] st) := rfl
theorem c54_34_e : c54_34 = .seq c54_35 c54_40 := rfl
theorem c54_35_e : c54_35 = .seq c54_36 c54_37 := rfl
theorem c54_36_r : RG (E0 mm) 54 c54_36 := rgN rfl
theorem c54_38_e : c54_38 = .skip := rfl
theorem c54_39_e : c54_39 = .exit 2 := rfl
theorem c54_40_e : c54_40 = .block 3 c54_41 := rfl
theorem c54_41_r : RG (E0 mm) 54 c54_41 := rgN rfl
theorem c54_42_e : c54_42 = .seq c54_43 c54_50 := rfl
theorem c54_43_e : c54_43 = .seq c54_44 c54_45 := rfl
theorem c54_44_r : RG (E0 mm) 54 c54_44 := rgN rfl
theorem c54_46_e : c54_46 = .seq c54_47 c54_48 := rfl
theorem c54_47_r : RG (E0 mm) 54 c54_47 := rgN rfl
theorem c54_48_e : c54_48 = .ret := rfl
theorem c54_49_e : c54_49 = .skip := rfl
theorem c54_50_e : c54_50 = .seq c54_51 c54_52 := rfl
theorem c54_51_r : RG (E0 mm) 54 c54_51 := rgN rfl
theorem c54_52_e : c54_52 = .seq c54_53 c54_75 := rfl
theorem c54_53_e : c54_53 = .seq c54_54 c54_55 := rfl
theorem c54_54_r : RG (E0 mm) 54 c54_54 := rgN rfl
theorem c54_55_e : c54_55 = .block 4 c54_56 := rfl
theorem c54_56_l (m : Nat) (st : St) : den (E0 mm) 54 m (callW (E0 mm)) itW c54_56 none st = loopD itW (loopF (E0 mm) 54 m (callW (E0 mm)) itW c54_57 [(0, .keep), (1, .keep), (7, .keep), (8, .keep)]) (canon m [(0, .keep), (1, .keep), (7, .keep), (8, .keep)] st) := rfl
theorem c54_57_e : c54_57 = .seq c54_58 c54_63 := rfl
theorem c54_58_e : c54_58 = .seq c54_59 c54_60 := rfl
theorem c54_59_r : RG (E0 mm) 54 c54_59 := rgN rfl
theorem c54_61_e : c54_61 = .skip := rfl
theorem c54_62_e : c54_62 = .exit 4 := rfl
theorem c54_63_e : c54_63 = .seq c54_64 c54_74 := rfl
theorem c54_64_e : c54_64 = .block 5 c54_65 := rfl
theorem c54_65_e : c54_65 = .seq c54_66 c54_67 := rfl
theorem c54_66_r : RG (E0 mm) 54 c54_66 := rgN rfl
theorem c54_67_e : c54_67 = .seq c54_68 c54_69 := rfl
theorem c54_68_r : RG (E0 mm) 54 c54_68 := rgN rfl
theorem c54_70_e : c54_70 = .seq c54_71 c54_72 := rfl
theorem c54_71_r : RG (E0 mm) 54 c54_71 := rgN rfl
theorem c54_72_e : c54_72 = .ret := rfl
theorem c54_73_e : c54_73 = .skip := rfl
theorem c54_74_r : RG (E0 mm) 54 c54_74 := rgN rfl
theorem c54_75_e : c54_75 = .seq c54_76 c54_77 := rfl
theorem c54_76_r : RG (E0 mm) 54 c54_76 := rgN rfl
theorem c54_77_e : c54_77 = .ret := rfl
abbrev R54 := (Int × Int)
def e54 : R54 → AV × Heap := fun x => (.tup [.c (.d (.sc (.int .u64 x.1))), .c (.d (.sc (.int .i64 x.2)))], [])
def K54_14 : Option (Ex × St) → Option (AV × Heap) := fun r => bodyD (E0 mm) [.tmp 4, .tmp 5] 0 false (seqD (E0 mm) 54 0 (callW (E0 mm)) itW c54_31 (blockD 0 (r)))
def en54_14 : (Bs × Int × Int) → X := fun x => (none, [.v (.c (.d (.sc (.string (S x.1))))), .v (.c (.d (.sc (.int .u64 x.2.1)))), .v (.c (.d (.sc (.int .i64 x.2.2))))], [])
def K54_33 : Option (Ex × St) → Option (AV × Heap) := fun r => bodyD (E0 mm) [.tmp 4, .tmp 5] 0 false (seqD (E0 mm) 54 0 (callW (E0 mm)) itW c54_42 (blockD 2 (r)))
def en54_33 : (Bs × Int) → X := fun x => (none, [.v (.c (.d (.sc (.string (S x.1))))), .v (.c (.d (.sc (.int .u64 x.2))))], [])
def K54_56 : Option (Ex × St) → Option (AV × Heap) := fun r => bodyD (E0 mm) [.tmp 4, .tmp 5] 0 false (seqD (E0 mm) 54 0 (callW (E0 mm)) itW c54_75 (blockD 4 (r)))
def en54_56 : (Bs × Int × Int × Int) → X := fun x => (none, [.v (.c (.d (.sc (.string (S x.1))))), .v (.c (.d (.sc (.int .u64 x.2.1)))), .v (.c (.d (.sc (.int .u64 x.2.2.1)))), .v (.c (.d (.sc (.int .i64 x.2.2.2))))], [])
def j54_75 (n7 : Int) : Option R54 :=
  some (n7, (0 : Int))
theorem j54_75_t (n7 : Int)  (sl : Nat → AV) (zq7 : sl 7 = .v (.c (.d (.sc (.int .u64 n7))))) :
    bodyD (E0 mm) [.tmp 4, .tmp 5] 0 false (den (E0 mm) 54 0 (callW (E0 mm)) itW c54_75 none ⟨sl, []⟩) = (j54_75 n7).map e54 := by
  simp -implicitDefEqProofs only [j54_75, c54_75_e, c54_76_r, (show opsOf c54_76 = _ :: _ from rfl), c54_77_e, zq7, setA, setB, za, zb, zc, zd, ze, zf, zg, zh, zi, zj, zk, zl, zm, zn, zo, zp, reduceCtorEq, zE, ↓reduceIte]
  all_goals rfl
def s54_56 (s0 : Bs) (base1 n7 i8 : Int) : Option ((Bs × Int × Int × Int) ⊕ R54) :=
  if (decide (i8 < (s0.length : Int))) = true then
    if 0 ≤ i8 ∧ i8 < (s0.length : Int) then
      (m69 (s0.getD i8.toNat 0) base1).bind fun yr16 =>
        if (decide (9007199254740991 < (wu64 ((wu64 (base1 * n7)) + (wu64 yr16))))) = true then
          some (.inr ((0 : Int), (3 : Int)))
        else
          some (.inl (s0, base1, (wu64 ((wu64 (base1 * n7)) + (wu64 yr16))), (w64 (i8 + 1))))
    else none
  else
    (j54_75 n7).map .inr
theorem s54_56_t (s0 : Bs) (base1 n7 i8 : Int) :
    stepE (K54_56 (mm := mm)) (loopF (E0 mm) 54 0 (callW (E0 mm)) itW c54_57 [(0, .keep), (1, .keep), (7, .keep), (8, .keep)] (none, [.v (.c (.d (.sc (.string (S s0))))), .v (.c (.d (.sc (.int .u64 base1)))), .v (.c (.d (.sc (.int .u64 n7)))), .v (.c (.d (.sc (.int .i64 i8))))], [])) = (s54_56 s0 base1 n7 i8).map (sm en54_56 e54) := by
  simp -implicitDefEqProofs only [s54_56, loopF_eq, c54_57_e, c54_58_e, c54_59_r, (show opsOf c54_59 = _ :: _ from rfl), Tryd.underlying9, (show c54_60 = Code.cond _ c54_61 c54_62 from rfl), setA, setB, za, zb, zc, zd, ze, zf, zg, zh, zi, zj, zk, zl, zm, zn, zo, zp, reduceCtorEq, zE, ↓reduceIte]
  refine brB (fun yc13 => ?_) (fun yc13 => ?_)
  · simp -implicitDefEqProofs only [c54_61_e, c54_63_e, c54_64_e, c54_65_e, c54_66_r, (show opsOf c54_66 = _ :: _ from rfl), Tryd.underlying9, yc13, setA, setB, za, zb, zc, zd, ze, zf, zg, zh, zi, zj, zk, zl, zm, zn, zo, zp, reduceCtorEq, zE, ↓reduceIte]
    refine brP (fun yc14 => ?_) (fun yc14 => ?_)
    · simp -implicitDefEqProofs only [ent69, prm69, f69_t, yc13, yc14, setA, setB, za, zb, zc, zd, ze, zf, zg, zh, zi, zj, zk, zl, zm, zn, zo, zp, reduceCtorEq, zE, ↓reduceIte]
      refine brM (fun yc15 => ?_) (fun yr16 yc15 => ?_)
      · rw [yc15]; rfl
      · simp -implicitDefEqProofs only [e69, Tryd.underlying3, Tryd.underlying43, c54_67_e, c54_68_r, (show opsOf c54_68 = _ :: _ from rfl), (show c54_69 = Code.cond _ c54_70 c54_73 from rfl), yc13, yc14, yc15, setA, setB, za, zb, zc, zd, ze, zf, zg, zh, zi, zj, zk, zl, zm, zn, zo, zp, reduceCtorEq, zE, ↓reduceIte]
        refine brB (fun yc17 => ?_) (fun yc17 => ?_)
        · simp -implicitDefEqProofs only [c54_70_e, c54_71_r, (show opsOf c54_71 = _ :: _ from rfl), c54_72_e, K54_56, yc13, yc14, yc15, yc17, setA, setB, za, zb, zc, zd, ze, zf, zg, zh, zi, zj, zk, zl, zm, zn, zo, zp, reduceCtorEq, zE, ↓reduceIte]
          all_goals rfl
        · simp -implicitDefEqProofs only [c54_73_e, c54_74_r, (show opsOf c54_74 = _ :: _ from rfl), yc13, yc14, yc15, yc17, setA, setB, za, zb, zc, zd, ze, zf, zg, zh, zi, zj, zk, zl, zm, zn, zo, zp, reduceCtorEq, zE, ↓reduceIte]
          all_goals rfl
    · rw [if_neg yc14]; rfl
  · simp -implicitDefEqProofs only [c54_62_e, K54_56, yc13, setA, setB, za, zb, zc, zd, ze, zf, zg, zh, zi, zj, zk, zl, zm, zn, zo, zp, reduceCtorEq, zE, ↓reduceIte]
    exact mi (j54_75_t n7 _ (by rfl))
def l54_56 (s0 : Bs) (base1 n7 i8 : Int) : Option R54 := iter (fun x : (Bs × Int × Int × Int) => s54_56 x.1 x.2.1 x.2.2.1 x.2.2.2) (s0, base1, n7, i8)
theorem l54_56_t (s0 : Bs) (base1 n7 i8 : Int) : bodyD (E0 mm) [.tmp 4, .tmp 5] 0 false (seqD (E0 mm) 54 0 (callW (E0 mm)) itW c54_75 (blockD 4 (itW (loopF (E0 mm) 54 0 (callW (E0 mm)) itW c54_57 [(0, .keep), (1, .keep), (7, .keep), (8, .keep)]) (none, [.v (.c (.d (.sc (.string (S s0))))), .v (.c (.d (.sc (.int .u64 base1)))), .v (.c (.d (.sc (.int .u64 n7)))), .v (.c (.d (.sc (.int .i64 i8))))], [])))) = (l54_56 s0 base1 n7 i8).map e54 :=
  it_sim (K := (K54_56 (mm := mm))) rfl (enc := en54_56) (fun x => s54_56_t x.1 x.2.1 x.2.2.1 x.2.2.2) (s0, base1, n7, i8)
def j54_42 (s0 : Bs) (base1 : Int) : Option R54 :=
  if (decide (16 < (s0.length : Int))) = true then
    some ((0 : Int), (3 : Int))
  else
    l54_56 s0 base1 (0 : Int) (0 : Int)
theorem j54_42_t (s0 : Bs) (base1 : Int)  (sl : Nat → AV) (zq0 : sl 0 = .v (.c (.d (.sc (.string (S s0)))))) (zq1 : sl 1 = .v (.c (.d (.sc (.int .u64 base1))))) :
    bodyD (E0 mm) [.tmp 4, .tmp 5] 0 false (den (E0 mm) 54 0 (callW (E0 mm)) itW c54_42 none ⟨sl, []⟩) = (j54_42 s0 base1).map e54 := by
  simp -implicitDefEqProofs only [j54_42, c54_42_e, c54_43_e, c54_44_r, (show opsOf c54_44 = _ :: _ from rfl), Tryd.underlying9, (show c54_45 = Code.cond _ c54_46 c54_49 from rfl), zq0, zq1, setA, setB, za, zb, zc, zd, ze, zf, zg, zh, zi, zj, zk, zl, zm, zn, zo, zp, reduceCtorEq, zE, ↓reduceIte]
  refine brB (fun yc12 => ?_) (fun yc12 => ?_)
  · simp -implicitDefEqProofs only [c54_46_e, c54_47_r, (show opsOf c54_47 = _ :: _ from rfl), c54_48_e, zq0, zq1, yc12, setA, setB, za, zb, zc, zd, ze, zf, zg, zh, zi, zj, zk, zl, zm, zn, zo, zp, reduceCtorEq, zE, ↓reduceIte]
    all_goals rfl
  · simp -implicitDefEqProofs only [c54_49_e, c54_50_e, c54_51_r, (show opsOf c54_51 = _ :: _ from rfl), c54_52_e, c54_53_e, c54_54_r, (show opsOf c54_54 = _ :: _ from rfl), c54_55_e, c54_56_l, zq0, zq1, yc12, setA, setB, za, zb, zc, zd, ze, zf, zg, zh, zi, zj, zk, zl, zm, zn, zo, zp, reduceCtorEq, zE, ↓reduceIte]
    exact l54_56_t s0 base1 (0 : Int) (0 : Int)
def j54_37 (s0 : Bs) (base1 : Int) (t31 : Bool) : Option ((Bs × Int) ⊕ R54) :=
  if t31 = true then
    (bnd 1 s0.length).bind fun yk11 =>
      some (.inl ((s0.drop yk11), base1))
  else
    (j54_42 s0 base1).map .inr
theorem j54_37_t (s0 : Bs) (base1 : Int) (t31 : Bool)  (sl : Nat → AV) (zq0 : sl 0 = .v (.c (.d (.sc (.string (S s0)))))) (zq1 : sl 1 = .v (.c (.d (.sc (.int .u64 base1))))) (zq31 : sl 31 = .v (.c (.d (.sc (.bool t31))))) :
    stepE (K54_33 (mm := mm)) (loopK 0 [(0, .keep), (1, .keep)] (seqD (E0 mm) 54 0 (callW (E0 mm)) itW c54_40 (den (E0 mm) 54 0 (callW (E0 mm)) itW c54_37 none ⟨sl, []⟩))) = (j54_37 s0 base1 t31).map (sm en54_33 e54) := by
  simp -implicitDefEqProofs only [j54_37, (show c54_37 = Code.cond _ c54_38 c54_39 from rfl), zq0, zq1, zq31, setA, setB, za, zb, zc, zd, ze, zf, zg, zh, zi, zj, zk, zl, zm, zn, zo, zp, reduceCtorEq, zE, ↓reduceIte]
  refine brB (fun yc9 => ?_) (fun yc9 => ?_)
  · simp -implicitDefEqProofs only [c54_38_e, c54_40_e, c54_41_r, (show opsOf c54_41 = _ :: _ from rfl), Tryd.underlying9, zq0, zq1, zq31, yc9, setA, setB, za, zb, zc, zd, ze, zf, zg, zh, zi, zj, zk, zl, zm, zn, zo, zp, reduceCtorEq, zE, ↓reduceIte]
    refine brM (fun yc10 => ?_) (fun yk11 yc10 => ?_)
    · rw [yc10]; rfl
    · simp -implicitDefEqProofs only [zq0, zq1, zq31, yc9, yc10, setA, setB, za, zb, zc, zd, ze, zf, zg, zh, zi, zj, zk, zl, zm, zn, zo, zp, reduceCtorEq, zE, ↓reduceIte]
      all_goals rfl
  · simp -implicitDefEqProofs only [c54_39_e, K54_33, zq0, zq1, zq31, yc9, setA, setB, za, zb, zc, zd, ze, zf, zg, zh, zi, zj, zk, zl, zm, zn, zo, zp, reduceCtorEq, zE, ↓reduceIte]
    exact mi (j54_42_t s0 base1 _ (by exact zq0) (by exact zq1))
def s54_33 (s0 : Bs) (base1 : Int) : Option ((Bs × Int) ⊕ R54) :=
  if (decide (1 < (s0.length : Int))) = true then
    if (0 : Int) < (s0.length : Int) then
      j54_37 s0 base1 ((s0.getD 0 0) == (48 : UInt8))
    else none
  else
    j54_37 s0 base1 false
theorem s54_33_t (s0 : Bs) (base1 : Int) :
    stepE (K54_33 (mm := mm)) (loopF (E0 mm) 54 0 (callW (E0 mm)) itW c54_34 [(0, .keep), (1, .keep)] (none, [.v (.c (.d (.sc (.string (S s0))))), .v (.c (.d (.sc (.int .u64 base1))))], [])) = (s54_33 s0 base1).map (sm en54_33 e54) := by
  simp -implicitDefEqProofs only [s54_33, loopF_eq, c54_34_e, c54_35_e, c54_36_r, (show opsOf c54_36 = _ :: _ from rfl), Tryd.underlying9, setA, setB, za, zb, zc, zd, ze, zf, zg, zh, zi, zj, zk, zl, zm, zn, zo, zp, reduceCtorEq, zE, ↓reduceIte]
  refine brB (fun yc7 => ?_) (fun yc7 => ?_)
  · simp -implicitDefEqProofs only [Tryd.underlying9, yc7, setA, setB, za, zb, zc, zd, ze, zf, zg, zh, zi, zj, zk, zl, zm, zn, zo, zp, reduceCtorEq, zE, ↓reduceIte]
    refine brP (fun yc8 => ?_) (fun yc8 => ?_)
    · simp -implicitDefEqProofs only [yc7, yc8, setA, setB, za, zb, zc, zd, ze, zf, zg, zh, zi, zj, zk, zl, zm, zn, zo, zp, reduceCtorEq, zE, ↓reduceIte]
      exact j54_37_t s0 base1 ((s0.getD 0 0) == (48 : UInt8)) _ (by rfl) (by rfl) (by rfl)
    · rw [if_neg yc8]; rfl
  · simp -implicitDefEqProofs only [yc7, setA, setB, za, zb, zc, zd, ze, zf, zg, zh, zi, zj, zk, zl, zm, zn, zo, zp, reduceCtorEq, zE, ↓reduceIte]
    exact j54_37_t s0 base1 false _ (by rfl) (by rfl) (by rfl)
def l54_33 (s0 : Bs) (base1 : Int) : Option R54 := iter (fun x : (Bs × Int) => s54_33 x.1 x.2) (s0, base1)
theorem l54_33_t (s0 : Bs) (base1 : Int) : bodyD (E0 mm) [.tmp 4, .tmp 5] 0 false (seqD (E0 mm) 54 0 (callW (E0 mm)) itW c54_42 (blockD 2 (itW (loopF (E0 mm) 54 0 (callW (E0 mm)) itW c54_34 [(0, .keep), (1, .keep)]) (none, [.v (.c (.d (.sc (.string (S s0))))), .v (.c (.d (.sc (.int .u64 base1))))], [])))) = (l54_33 s0 base1).map e54 :=
  it_sim (K := (K54_33 (mm := mm))) rfl (enc := en54_33) (fun x => s54_33_t x.1 x.2) (s0, base1)
def j54_31 (s0 : Bs) (base1 : Int) : Option R54 :=
  l54_33 s0 base1
theorem j54_31_t (s0 : Bs) (base1 : Int)  (sl : Nat → AV) (zq0 : sl 0 = .v (.c (.d (.sc (.string (S s0)))))) (zq1 : sl 1 = .v (.c (.d (.sc (.int .u64 base1))))) :
    bodyD (E0 mm) [.tmp 4, .tmp 5] 0 false (den (E0 mm) 54 0 (callW (E0 mm)) itW c54_31 none ⟨sl, []⟩) = (j54_31 s0 base1).map e54 := by
  simp -implicitDefEqProofs only [j54_31, c54_31_e, c54_32_e, c54_33_l, zq0, zq1, setA, setB, za, zb, zc, zd, ze, zf, zg, zh, zi, zj, zk, zl, zm, zn, zo, zp, reduceCtorEq, zE, ↓reduceIte]
  exact l54_33_t s0 base1
def s54_14 (s0 : Bs) (base1 i6 : Int) : Option ((Bs × Int × Int) ⊕ R54) :=
  if (decide (i6 < (s0.length : Int))) = true then
    if 0 ≤ i6 ∧ i6 < (s0.length : Int) then
      (m69 (s0.getD i6.toNat 0) base1).bind fun yr5 =>
        if (decide (yr5 < 0)) = true then
          some (.inr ((0 : Int), (5 : Int)))
        else
          some (.inl (s0, base1, (w64 (i6 + 1))))
    else none
  else
    (j54_31 s0 base1).map .inr
theorem s54_14_t (s0 : Bs) (base1 i6 : Int) :
    stepE (K54_14 (mm := mm)) (loopF (E0 mm) 54 0 (callW (E0 mm)) itW c54_15 [(0, .keep), (1, .keep), (6, .keep)] (none, [.v (.c (.d (.sc (.string (S s0))))), .v (.c (.d (.sc (.int .u64 base1)))), .v (.c (.d (.sc (.int .i64 i6))))], [])) = (s54_14 s0 base1 i6).map (sm en54_14 e54) := by
  simp -implicitDefEqProofs only [s54_14, loopF_eq, c54_15_e, c54_16_e, c54_17_r, (show opsOf c54_17 = _ :: _ from rfl), Tryd.underlying9, (show c54_18 = Code.cond _ c54_19 c54_20 from rfl), setA, setB, za, zb, zc, zd, ze, zf, zg, zh, zi, zj, zk, zl, zm, zn, zo, zp, reduceCtorEq, zE, ↓reduceIte]
  refine brB (fun yc2 => ?_) (fun yc2 => ?_)
  · simp -implicitDefEqProofs only [c54_19_e, c54_21_e, c54_22_e, c54_23_e, c54_24_r, (show opsOf c54_24 = _ :: _ from rfl), Tryd.underlying9, yc2, setA, setB, za, zb, zc, zd, ze, zf, zg, zh, zi, zj, zk, zl, zm, zn, zo, zp, reduceCtorEq, zE, ↓reduceIte]
    refine brP (fun yc3 => ?_) (fun yc3 => ?_)
    · simp -implicitDefEqProofs only [ent69, prm69, f69_t, yc2, yc3, setA, setB, za, zb, zc, zd, ze, zf, zg, zh, zi, zj, zk, zl, zm, zn, zo, zp, reduceCtorEq, zE, ↓reduceIte]
      refine brM (fun yc4 => ?_) (fun yr5 yc4 => ?_)
      · rw [yc4]; rfl
      · simp -implicitDefEqProofs only [e69, (show c54_25 = Code.cond _ c54_26 c54_29 from rfl), yc2, yc3, yc4, setA, setB, za, zb, zc, zd, ze, zf, zg, zh, zi, zj, zk, zl, zm, zn, zo, zp, reduceCtorEq, zE, ↓reduceIte]
        refine brB (fun yc6 => ?_) (fun yc6 => ?_)
        · simp -implicitDefEqProofs only [c54_26_e, c54_27_r, (show opsOf c54_27 = _ :: _ from rfl), c54_28_e, K54_14, yc2, yc3, yc4, yc6, setA, setB, za, zb, zc, zd, ze, zf, zg, zh, zi, zj, zk, zl, zm, zn, zo, zp, reduceCtorEq, zE, ↓reduceIte]
          all_goals rfl
        · simp -implicitDefEqProofs only [c54_29_e, c54_30_r, (show opsOf c54_30 = _ :: _ from rfl), yc2, yc3, yc4, yc6, setA, setB, za, zb, zc, zd, ze, zf, zg, zh, zi, zj, zk, zl, zm, zn, zo, zp, reduceCtorEq, zE, ↓reduceIte]
          all_goals rfl
    · rw [if_neg yc3]; rfl
  · simp -implicitDefEqProofs only [c54_20_e, K54_14, yc2, setA, setB, za, zb, zc, zd, ze, zf, zg, zh, zi, zj, zk, zl, zm, zn, zo, zp, reduceCtorEq, zE, ↓reduceIte]
    exact mi (j54_31_t s0 base1 _ (by rfl) (by rfl))
def l54_14 (s0 : Bs) (base1 i6 : Int) : Option R54 := iter (fun x : (Bs × Int × Int) => s54_14 x.1 x.2.1 x.2.2) (s0, base1, i6)
theorem l54_14_t (s0 : Bs) (base1 i6 : Int) : bodyD (E0 mm) [.tmp 4, .tmp 5] 0 false (seqD (E0 mm) 54 0 (callW (E0 mm)) itW c54_31 (blockD 0 (itW (loopF (E0 mm) 54 0 (callW (E0 mm)) itW c54_15 [(0, .keep), (1, .keep), (6, .keep)]) (none, [.v (.c (.d (.sc (.string (S s0))))), .v (.c (.d (.sc (.int .u64 base1)))), .v (.c (.d (.sc (.int .i64 i6))))], [])))) = (l54_14 s0 base1 i6).map e54 :=
  it_sim (K := (K54_14 (mm := mm))) rfl (enc := en54_14) (fun x => s54_14_t x.1 x.2.1 x.2.2) (s0, base1, i6)
def m54 (s : Bs) (base : Int) : Option R54 :=
  if ((s.length : Int) == 0) = true then
    some ((0 : Int), (5 : Int))
  else
    l54_14 s base (0 : Int)
theorem f54_t (s : Bs) (base : Int) :
    callW (E0 mm) 54 [.c (.d (.sc (.string (S s)))), .c (.d (.sc (.int .u64 base)))] [] = (m54 s base).map e54 := by
  rw [callW_run (body := c54_0) (res := [.tmp 4, .tmp 5]) Tryd.func54 rfl rfl (by kernel_rfl)]
  simp -implicitDefEqProofs only [m54, slots2, c54_0_e, c54_1_r, (show opsOf c54_1 = _ :: _ from rfl), c54_2_e, c54_3_e, c54_4_r, (show opsOf c54_4 = _ :: _ from rfl), Tryd.underlying9, (show c54_5 = Code.cond _ c54_6 c54_9 from rfl), setA, setB, za, zb, zc, zd, ze, zf, zg, zh, zi, zj, zk, zl, zm, zn, zo, zp, reduceCtorEq, zE, ↓reduceIte]
  refine brB (fun yc1 => ?_) (fun yc1 => ?_)
  · simp -implicitDefEqProofs only [c54_6_e, c54_7_r, (show opsOf c54_7 = _ :: _ from rfl), c54_8_e, yc1, setA, setB, za, zb, zc, zd, ze, zf, zg, zh, zi, zj, zk, zl, zm, zn, zo, zp, reduceCtorEq, zE, ↓reduceIte]
    all_goals rfl
  · simp -implicitDefEqProofs only [c54_9_e, c54_10_e, c54_11_e, c54_12_r, (show opsOf c54_12 = _ :: _ from rfl), c54_13_e, c54_14_l, yc1, setA, setB, za, zb, zc, zd, ze, zf, zg, zh, zi, zj, zk, zl, zm, zn, zo, zp, reduceCtorEq, zE, ↓reduceIte]
    exact l54_14_t s base (0 : Int)
noncomputable def c38_0 : Code := bodyOf Tryd.f38
def c38_1 := cA c38_0
def c38_2 := cB c38_0
def c38_3 := cA c38_2
def c38_4 := cB c38_2
theorem c38_0_e : c38_0 = .seq c38_1 c38_2 := rfl
theorem c38_1_r : RG (E0 mm) 38 c38_1 := rgN rfl
theorem c38_2_e : c38_2 = .seq c38_3 c38_4 := rfl
theorem c38_3_r : RG (E0 mm) 38 c38_3 := rgN rfl
theorem c38_4_e : c38_4 = .ret := rfl
abbrev R38 := (Int × Int)
def e38 : R38 → AV × Heap := fun x => (.tup [.c (.d (.sc (.int .u64 x.1))), .c (.d (.sc (.int .i64 x.2)))], [])
def m38 (s : Bs) : Option R38 :=
  (m54 s (16 : Int)).bind fun yr2 =>
    some (yr2.1, yr2.2)
theorem f38_t (s : Bs) :
    callW (E0 mm) 38 [.c (.d (.sc (.string (S s))))] [] = (m38 s).map e38 := by
  rw [callW_run (body := c38_0) (res := [.tmp 2, .tmp 3]) Tryd.func38 rfl rfl (by kernel_rfl)]
  simp -implicitDefEqProofs only [m38, slots1, c38_0_e, c38_1_r, (show opsOf c38_1 = _ :: _ from rfl), c38_2_e, c38_3_r, (show opsOf c38_3 = _ :: _ from rfl), ent54, prm54, f54_t, setA, setB, za, zb, zc, zd, ze, zf, zg, zh, zi, zj, zk, zl, zm, zn, zo, zp, reduceCtorEq, zE, ↓reduceIte]
  refine brM (fun yc1 => ?_) (fun yr2 yc1 => ?_)
  · rw [yc1]; rfl
  · simp -implicitDefEqProofs only [e54, c38_4_e, yc1, setA, setB, za, zb, zc, zd, ze, zf, zg, zh, zi, zj, zk, zl, zm, zn, zo, zp, reduceCtorEq, zE, ↓reduceIte]
    all_goals rfl
noncomputable def c21_0 : Code := bodyOf Tryd.f21
def c21_1 := cA c21_0
def c21_2 := cB c21_0
def c21_3 := cA c21_2
def c21_4 := cA c21_3
def c21_5 := cB c21_3
def c21_6 := cA c21_5
def c21_7 := cA c21_6
def c21_8 := cB c21_6
def c21_9 := cB c21_5
def c21_10 := cB c21_2
def c21_11 := cA c21_10
def c21_12 := cB c21_10
def c21_13 := cA c21_12
def c21_14 := cB c21_12
def c21_15 := cA c21_14
def c21_16 := cA c21_15
def c21_17 := cA c21_16
def c21_18 := cA c21_17
def c21_19 := cA c21_18
def c21_20 := cB c21_18
def c21_21 := cA c21_20
def c21_22 := cB c21_20
def c21_23 := cB c21_17
def c21_24 := cA c21_23
def c21_25 := cB c21_14
def c21_26 := cA c21_25
def c21_27 := cA c21_26
def c21_28 := cB c21_26
def c21_29 := cA c21_28
def c21_30 := cA c21_29
def c21_31 := cB c21_29
def c21_32 := cB c21_28
def c21_33 := cB c21_25
def c21_34 := cA c21_33
def c21_35 := cB c21_33
def c21_36 := cA c21_35
def c21_37 := cA c21_36
def c21_38 := cB c21_36
def c21_39 := cA c21_38
def c21_40 := cA c21_39
def c21_41 := cB c21_39
def c21_42 := cB c21_38
def c21_43 := cB c21_35
def c21_44 := cA c21_43
def c21_45 := cA c21_44
def c21_46 := cB c21_44
def c21_47 := cA c21_46
def c21_48 := cA c21_47
def c21_49 := cB c21_47
def c21_50 := cB c21_46
def c21_51 := cB c21_43
def c21_52 := cA c21_51
def c21_53 := cB c21_51
theorem c21_0_e : c21_0 = .seq c21_1 c21_2 := rfl
theorem c21_1_r : RG (E0 mm) 21 c21_1 := rgN rfl
theorem c21_2_e : c21_2 = .seq c21_3 c21_10 := rfl
theorem c21_3_e : c21_3 = .seq c21_4 c21_5 := rfl
theorem c21_4_r : RG (E0 mm) 21 c21_4 := rgN rfl
theorem c21_6_e : c21_6 = .seq c21_7 c21_8 := rfl
theorem c21_7_r : RG (E0 mm) 21 c21_7 := rgN rfl
theorem c21_8_e : c21_8 = .ret := rfl
theorem c21_9_e : c21_9 = .skip := rfl
theorem c21_10_e : c21_10 = .seq c21_11 c21_12 := rfl
theorem c21_11_r : RG (E0 mm) 21 c21_11 := rgN rfl
theorem c21_12_e : c21_12 = .seq c21_13 c21_14 := rfl
theorem c21_13_r : RG (E0 mm) 21 c21_13 := rgN rfl
theorem c21_14_e : c21_14 = .seq c21_15 c21_25 := rfl
theorem c21_15_e : c21_15 = .block 0 c21_16 := rfl
theorem c21_16_l (m : Nat) (st : St) : den (E0 mm) 21 m (callW (E0 mm)) itW c21_16 none st = loopD itW (loopF (E0 mm) 21 m (callW (E0 mm)) itW c21_17 [(0, .keep), (4, .keep)]) (canon m [(0, .keep), (4, .keep)] st) := rfl
theorem c21_17_e : c21_17 = .seq c21_18 c21_23 := rfl
theorem c21_18_e : c21_18 = .seq c21_19 c21_20 := rfl
theorem c21_19_r : RG (E0 mm) 21 c21_19 := rgN rfl
theorem c21_21_e : c21_21 = .skip := rfl
theorem c21_22_e : c21_22 = .exit 0 := rfl
theorem c21_23_e : c21_23 = .block 1 c21_24 := rfl
theorem c21_24_r : RG (E0 mm) 21 c21_24 := rgN rfl
theorem c21_25_e : c21_25 = .seq c21_26 c21_33 := rfl
theorem c21_26_e : c21_26 = .seq c21_27 c21_28 := rfl
theorem c21_27_r : RG (E0 mm) 21 c21_27 := rgN rfl
theorem c21_29_e : c21_29 = .seq c21_30 c21_31 := rfl
theorem c21_30_r : RG (E0 mm) 21 c21_30 := rgN rfl
theorem c21_31_e : c21_31 = .ret := rfl
theorem c21_32_e : c21_32 = .skip := rfl
theorem c21_33_e : c21_33 = .seq c21_34 c21_35 := rfl
theorem c21_34_r : RG (E0 mm) 21 c21_34 := rgN rfl
theorem c21_35_e : c21_35 = .seq c21_36 c21_43 := rfl
theorem c21_36_e : c21_36 = .seq c21_37 c21_38 := rfl
theorem c21_37_r : RG (E0 mm) 21 c21_37 := rgN rfl
theorem c21_39_e : c21_39 = .seq c21_40 c21_41 := rfl
theorem c21_40_r : RG (E0 mm) 21 c21_40 := rgN rfl
theorem c21_41_e : c21_41 = .ret := rfl
theorem c21_42_e : c21_42 = .skip := rfl
theorem c21_43_e : c21_43 = .seq c21_44 c21_51 := rfl
theorem c21_44_e : c21_44 = .seq c21_45 c21_46 := rfl
theorem c21_45_r : RG (E0 mm) 21 c21_45 := rgN rfl
theorem c21_47_e : c21_47 = .seq c21_48 c21_49 := rfl
theorem c21_48_r : RG (E0 mm) 21 c21_48 := rgN rfl
theorem c21_49_e : c21_49 = .ret := rfl
theorem c21_50_e : c21_50 = .skip := rfl
theorem c21_51_e : c21_51 = .seq c21_52 c21_53 := rfl
theorem c21_52_r : RG (E0 mm) 21 c21_52 := rgN rfl
theorem c21_53_e : c21_53 = .ret := rfl
abbrev R21 := (Int × Int)
def e21 : R21 → AV × Heap := fun x => (.tup [.c (.d (.sc (.int .u64 x.1))), .c (.d (.sc (.int .i64 x.2)))], [])
def K21_16 : Option (Ex × St) → Option (AV × Heap) := fun r => bodyD (E0 mm) [.tmp 2, .tmp 3] 0 false (seqD (E0 mm) 21 0 (callW (E0 mm)) itW c21_25 (blockD 0 (r)))
def en21_16 : (Bs × Int) → X := fun x => (none, [.v (.c (.d (.sc (.string (S x.1))))), .v (.c (.d (.sc (.int .i64 x.2))))], [])
def j21_28 (line0 : Bs) (i4 : Int) (t54 : Bool) : Option R21 :=
  if t54 = true then
    some ((0 : Int), (20 : Int))
  else
    (bnd i4 line0.length).bind fun yk15 =>
      (m38 (line0.take yk15)).bind fun yr17 =>
        if (yr17.2 == 3) = true then
          some ((0 : Int), (21 : Int))
        else
          if (yr17.2 == 0) = true then
            some (yr17.1, (0 : Int))
          else
            some ((0 : Int), (20 : Int))
theorem j21_28_t (line0 : Bs) (i4 : Int) (t54 : Bool)  (sl : Nat → AV) (zq0 : sl 0 = .v (.c (.d (.sc (.string (S line0)))))) (zq4 : sl 4 = .v (.c (.d (.sc (.int .i64 i4))))) (zq54 : sl 54 = .v (.c (.d (.sc (.bool t54))))) :
    bodyD (E0 mm) [.tmp 2, .tmp 3] 0 false (seqD (E0 mm) 21 0 (callW (E0 mm)) itW c21_33 (den (E0 mm) 21 0 (callW (E0 mm)) itW c21_28 none ⟨sl, []⟩)) = (j21_28 line0 i4 t54).map e21 := by
  simp -implicitDefEqProofs only [j21_28, (show c21_28 = Code.cond _ c21_29 c21_32 from rfl), zq0, zq4, zq54, setA, setB, za, zb, zc, zd, ze, zf, zg, zh, zi, zj, zk, zl, zm, zn, zo, zp, reduceCtorEq, zE, ↓reduceIte]
  refine brB (fun yc13 => ?_) (fun yc13 => ?_)
  · simp -implicitDefEqProofs only [c21_29_e, c21_30_r, (show opsOf c21_30 = _ :: _ from rfl), c21_31_e, zq0, zq4, zq54, yc13, setA, setB, za, zb, zc, zd, ze, zf, zg, zh, zi, zj, zk, zl, zm, zn, zo, zp, reduceCtorEq, zE, ↓reduceIte]
    all_goals rfl
  · simp -implicitDefEqProofs only [c21_32_e, c21_33_e, c21_34_r, (show opsOf c21_34 = _ :: _ from rfl), Tryd.underlying9, zq0, zq4, zq54, yc13, setA, setB, za, zb, zc, zd, ze, zf, zg, zh, zi, zj, zk, zl, zm, zn, zo, zp, reduceCtorEq, zE, ↓reduceIte]
    refine brM (fun yc14 => ?_) (fun yk15 yc14 => ?_)
    · rw [yc14]; rfl
    · simp -implicitDefEqProofs only [ent38, prm38, f38_t, zq0, zq4, zq54, yc13, yc14, setA, setB, za, zb, zc, zd, ze, zf, zg, zh, zi, zj, zk, zl, zm, zn, zo, zp, reduceCtorEq, zE, ↓reduceIte]
      refine brM (fun yc16 => ?_) (fun yr17 yc16 => ?_)
      · rw [yc16]; rfl
      · simp -implicitDefEqProofs only [e38, c21_35_e, c21_36_e, c21_37_r, (show opsOf c21_37 = _ :: _ from rfl), (show c21_38 = Code.cond _ c21_39 c21_42 from rfl), zq0, zq4, zq54, yc13, yc14, yc16, setA, setB, za, zb, zc, zd, ze, zf, zg, zh, zi, zj, zk, zl, zm, zn, zo, zp, reduceCtorEq, zE, ↓reduceIte]
        refine brB (fun yc18 => ?_) (fun yc18 => ?_)
        · simp -implicitDefEqProofs only [c21_39_e, c21_40_r, (show opsOf c21_40 = _ :: _ from rfl), c21_41_e, zq0, zq4, zq54, yc13, yc14, yc16, yc18, setA, setB, za, zb, zc, zd, ze, zf, zg, zh, zi, zj, zk, zl, zm, zn, zo, zp, reduceCtorEq, zE, ↓reduceIte]
          all_goals rfl
        · simp -implicitDefEqProofs only [c21_42_e, c21_43_e, c21_44_e, c21_45_r, (show opsOf c21_45 = _ :: _ from rfl), (show c21_46 = Code.cond _ c21_47 c21_50 from rfl), zq0, zq4, zq54, yc13, yc14, yc16, yc18, setA, setB, za, zb, zc, zd, ze, zf, zg, zh, zi, zj, zk, zl, zm, zn, zo, zp, reduceCtorEq, zE, ↓reduceIte]
          refine brB (fun yc19 => ?_) (fun yc19 => ?_)
          · simp -implicitDefEqProofs only [c21_50_e, c21_51_e, c21_52_r, (show opsOf c21_52 = _ :: _ from rfl), c21_53_e, zq0, zq4, zq54, yc13, yc14, yc16, yc18, yc19, setA, setB, za, zb, zc, zd, ze, zf, zg, zh, zi, zj, zk, zl, zm, zn, zo, zp, reduceCtorEq, zE, ↓reduceIte]
            all_goals rfl
          · simp -implicitDefEqProofs only [c21_47_e, c21_48_r, (show opsOf c21_48 = _ :: _ from rfl), c21_49_e, zq0, zq4, zq54, yc13, yc14, yc16, yc18, yc19, setA, setB, za, zb, zc, zd, ze, zf, zg, zh, zi, zj, zk, zl, zm, zn, zo, zp, reduceCtorEq, zE, ↓reduceIte]
            all_goals rfl
def j21_25 (line0 : Bs) (i4 : Int) : Option R21 :=
  if (decide (i4 < (line0.length : Int))) = true then
    (bnd (w64 (i4 + 1)) line0.length).bind fun yk10 =>
      (m37 (line0.drop yk10)).bind fun yr12 =>
        j21_28 line0 i4 (!yr12)
  else
    j21_28 line0 i4 false
theorem j21_25_t (line0 : Bs) (i4 : Int)  (sl : Nat → AV) (zq0 : sl 0 = .v (.c (.d (.sc (.string (S line0)))))) (zq4 : sl 4 = .v (.c (.d (.sc (.int .i64 i4))))) :
    bodyD (E0 mm) [.tmp 2, .tmp 3] 0 false (den (E0 mm) 21 0 (callW (E0 mm)) itW c21_25 none ⟨sl, []⟩) = (j21_25 line0 i4).map e21 := by
  simp -implicitDefEqProofs only [j21_25, c21_25_e, c21_26_e, c21_27_r, (show opsOf c21_27 = _ :: _ from rfl), Tryd.underlying9, zq0, zq4, setA, setB, za, zb, zc, zd, ze, zf, zg, zh, zi, zj, zk, zl, zm, zn, zo, zp, reduceCtorEq, zE, ↓reduceIte]
  refine brB (fun yc8 => ?_) (fun yc8 => ?_)
  · simp -implicitDefEqProofs only [Tryd.underlying9, zq0, zq4, yc8, setA, setB, za, zb, zc, zd, ze, zf, zg, zh, zi, zj, zk, zl, zm, zn, zo, zp, reduceCtorEq, zE, ↓reduceIte]
    refine brM (fun yc9 => ?_) (fun yk10 yc9 => ?_)
    · rw [yc9]; rfl
    · simp -implicitDefEqProofs only [ent37, prm37, f37_t, zq0, zq4, yc8, yc9, setA, setB, za, zb, zc, zd, ze, zf, zg, zh, zi, zj, zk, zl, zm, zn, zo, zp, reduceCtorEq, zE, ↓reduceIte]
      refine brM (fun yc11 => ?_) (fun yr12 yc11 => ?_)
      · rw [yc11]; rfl
      · simp -implicitDefEqProofs only [e37, zq0, zq4, yc8, yc9, yc11, setA, setB, za, zb, zc, zd, ze, zf, zg, zh, zi, zj, zk, zl, zm, zn, zo, zp, reduceCtorEq, zE, ↓reduceIte]
        exact j21_28_t line0 i4 (!yr12) _ (by exact zq0) (by exact zq4) (by rfl)
  · simp -implicitDefEqProofs only [zq0, zq4, yc8, setA, setB, za, zb, zc, zd, ze, zf, zg, zh, zi, zj, zk, zl, zm, zn, zo, zp, reduceCtorEq, zE, ↓reduceIte]
    exact j21_28_t line0 i4 false _ (by exact zq0) (by exact zq4) (by rfl)
def j21_20 (line0 : Bs) (i4 : Int) (t40 : Bool) : Option ((Bs × Int) ⊕ R21) :=
  if t40 = true then
    some (.inl (line0, (w64 (i4 + 1))))
  else
    (j21_25 line0 i4).map .inr
theorem j21_20_t (line0 : Bs) (i4 : Int) (t40 : Bool)  (sl : Nat → AV) (zq0 : sl 0 = .v (.c (.d (.sc (.string (S line0)))))) (zq4 : sl 4 = .v (.c (.d (.sc (.int .i64 i4))))) (zq40 : sl 40 = .v (.c (.d (.sc (.bool t40))))) :
    stepE (K21_16 (mm := mm)) (loopK 0 [(0, .keep), (4, .keep)] (seqD (E0 mm) 21 0 (callW (E0 mm)) itW c21_23 (den (E0 mm) 21 0 (callW (E0 mm)) itW c21_20 none ⟨sl, []⟩))) = (j21_20 line0 i4 t40).map (sm en21_16 e21) := by
  simp -implicitDefEqProofs only [j21_20, (show c21_20 = Code.cond _ c21_21 c21_22 from rfl), zq0, zq4, zq40, setA, setB, za, zb, zc, zd, ze, zf, zg, zh, zi, zj, zk, zl, zm, zn, zo, zp, reduceCtorEq, zE, ↓reduceIte]
  refine brB (fun yc7 => ?_) (fun yc7 => ?_)
  · simp -implicitDefEqProofs only [c21_21_e, c21_23_e, c21_24_r, (show opsOf c21_24 = _ :: _ from rfl), zq0, zq4, zq40, yc7, setA, setB, za, zb, zc, zd, ze, zf, zg, zh, zi, zj, zk, zl, zm, zn, zo, zp, reduceCtorEq, zE, ↓reduceIte]
    all_goals rfl
  · simp -implicitDefEqProofs only [c21_22_e, K21_16, zq0, zq4, zq40, yc7, setA, setB, za, zb, zc, zd, ze, zf, zg, zh, zi, zj, zk, zl, zm, zn, zo, zp, reduceCtorEq, zE, ↓reduceIte]
    exact mi (j21_25_t line0 i4 _ (by exact zq0) (by exact zq4))
def s21_16 (line0 : Bs) (i4 : Int) : Option ((Bs × Int) ⊕ R21) :=
  if (decide (i4 < (line0.length : Int))) = true then
    if 0 ≤ i4 ∧ i4 < (line0.length : Int) then
      j21_20 line0 i4 (!((line0.getD i4.toNat 0) == (59 : UInt8)))
    else none
  else
    j21_20 line0 i4 false
theorem s21_16_t (line0 : Bs) (i4 : Int) :
    stepE (K21_16 (mm := mm)) (loopF (E0 mm) 21 0 (callW (E0 mm)) itW c21_17 [(0, .keep), (4, .keep)] (none, [.v (.c (.d (.sc (.string (S line0))))), .v (.c (.d (.sc (.int .i64 i4))))], [])) = (s21_16 line0 i4).map (sm en21_16 e21) := by
  simp -implicitDefEqProofs only [s21_16, loopF_eq, c21_17_e, c21_18_e, c21_19_r, (show opsOf c21_19 = _ :: _ from rfl), Tryd.underlying9, setA, setB, za, zb, zc, zd, ze, zf, zg, zh, zi, zj, zk, zl, zm, zn, zo, zp, reduceCtorEq, zE, ↓reduceIte]
  refine brB (fun yc5 => ?_) (fun yc5 => ?_)
  · simp -implicitDefEqProofs only [Tryd.underlying9, yc5, setA, setB, za, zb, zc, zd, ze, zf, zg, zh, zi, zj, zk, zl, zm, zn, zo, zp, reduceCtorEq, zE, ↓reduceIte]
    refine brP (fun yc6 => ?_) (fun yc6 => ?_)
    · simp -implicitDefEqProofs only [yc5, yc6, setA, setB, za, zb, zc, zd, ze, zf, zg, zh, zi, zj, zk, zl, zm, zn, zo, zp, reduceCtorEq, zE, ↓reduceIte]
      exact j21_20_t line0 i4 (!((line0.getD i4.toNat 0) == (59 : UInt8))) _ (by rfl) (by rfl) (by rfl)
    · rw [if_neg yc6]; rfl
  · simp -implicitDefEqProofs only [yc5, setA, setB, za, zb, zc, zd, ze, zf, zg, zh, zi, zj, zk, zl, zm, zn, zo, zp, reduceCtorEq, zE, ↓reduceIte]
    exact j21_20_t line0 i4 false _ (by rfl) (by rfl) (by rfl)
def l21_16 (line0 : Bs) (i4 : Int) : Option R21 := iter (fun x : (Bs × Int) => s21_16 x.1 x.2) (line0, i4)
theorem l21_16_t (line0 : Bs) (i4 : Int) : bodyD (E0 mm) [.tmp 2, .tmp 3] 0 false (seqD (E0 mm) 21 0 (callW (E0 mm)) itW c21_25 (blockD 0 (itW (loopF (E0 mm) 21 0 (callW (E0 mm)) itW c21_17 [(0, .keep), (4, .keep)]) (none, [.v (.c (.d (.sc (.string (S line0))))), .v (.c (.d (.sc (.int .i64 i4))))], [])))) = (l21_16 line0 i4).map e21 :=
  it_sim (K := (K21_16 (mm := mm))) rfl (enc := en21_16) (fun x => s21_16_t x.1 x.2) (line0, i4)
def j21_5 (line0 : Bs) (t25 : Bool) : Option R21 :=
  if t25 = true then
    some ((0 : Int), (20 : Int))
  else
    (bnd (w64 ((line0.length : Int) - 2)) line0.length).bind fun yk4 =>
      l21_16 (line0.take yk4) (0 : Int)
theorem j21_5_t (line0 : Bs) (t25 : Bool)  (sl : Nat → AV) (zq0 : sl 0 = .v (.c (.d (.sc (.string (S line0)))))) (zq25 : sl 25 = .v (.c (.d (.sc (.bool t25))))) :
    bodyD (E0 mm) [.tmp 2, .tmp 3] 0 false (seqD (E0 mm) 21 0 (callW (E0 mm)) itW c21_10 (den (E0 mm) 21 0 (callW (E0 mm)) itW c21_5 none ⟨sl, []⟩)) = (j21_5 line0 t25).map e21 := by
  simp -implicitDefEqProofs only [j21_5, (show c21_5 = Code.cond _ c21_6 c21_9 from rfl), zq0, zq25, setA, setB, za, zb, zc, zd, ze, zf, zg, zh, zi, zj, zk, zl, zm, zn, zo, zp, reduceCtorEq, zE, ↓reduceIte]
  refine brB (fun yc2 => ?_) (fun yc2 => ?_)
  · simp -implicitDefEqProofs only [c21_6_e, c21_7_r, (show opsOf c21_7 = _ :: _ from rfl), c21_8_e, zq0, zq25, yc2, setA, setB, za, zb, zc, zd, ze, zf, zg, zh, zi, zj, zk, zl, zm, zn, zo, zp, reduceCtorEq, zE, ↓reduceIte]
    all_goals rfl
  · simp -implicitDefEqProofs only [c21_9_e, c21_10_e, c21_11_r, (show opsOf c21_11 = _ :: _ from rfl), Tryd.underlying9, zq0, zq25, yc2, setA, setB, za, zb, zc, zd, ze, zf, zg, zh, zi, zj, zk, zl, zm, zn, zo, zp, reduceCtorEq, zE, ↓reduceIte]
    refine brM (fun yc3 => ?_) (fun yk4 yc3 => ?_)
    · rw [yc3]; rfl
    · simp -implicitDefEqProofs only [c21_12_e, c21_13_r, (show opsOf c21_13 = _ :: _ from rfl), c21_14_e, c21_15_e, c21_16_l, zq0, zq25, yc2, yc3, setA, setB, za, zb, zc, zd, ze, zf, zg, zh, zi, zj, zk, zl, zm, zn, zo, zp, reduceCtorEq, zE, ↓reduceIte]
      exact l21_16_t (line0.take yk4) (0 : Int)
def m21 (line : Bs) : Option R21 :=
  if (decide ((line.length : Int) < 2)) = true then
    j21_5 line true
  else
    if 0 ≤ (w64 ((line.length : Int) - 2)) ∧ (w64 ((line.length : Int) - 2)) < (line.length : Int) then
      if ((line.getD (w64 ((line.length : Int) - 2)).toNat 0) == (13 : UInt8)) = true then
        if 0 ≤ (w64 ((line.length : Int) - 1)) ∧ (w64 ((line.length : Int) - 1)) < (line.length : Int) then
          j21_5 line (!((line.getD (w64 ((line.length : Int) - 1)).toNat 0) == (10 : UInt8)))
        else none
      else
        j21_5 line true
    else none
theorem f21_t (line : Bs) :
    callW (E0 mm) 21 [.c (.d (.sc (.string (S line))))] [] = (m21 line).map e21 := by
  rw [callW_run (body := c21_0) (res := [.tmp 2, .tmp 3]) Tryd.func21 rfl rfl (by kernel_rfl)]
  simp -implicitDefEqProofs only [m21, slots1, c21_0_e, c21_1_r, (show opsOf c21_1 = _ :: _ from rfl), c21_2_e, c21_3_e, c21_4_r, (show opsOf c21_4 = _ :: _ from rfl), Tryd.underlying9, setA, setB, za, zb, zc, zd, ze, zf, zg, zh, zi, zj, zk, zl, zm, zn, zo, zp, reduceCtorEq, zE, ↓reduceIte]
  refine brB (fun yc1 => ?_) (fun yc1 => ?_)
  · simp -implicitDefEqProofs only [yc1, setA, setB, za, zb, zc, zd, ze, zf, zg, zh, zi, zj, zk, zl, zm, zn, zo, zp, reduceCtorEq, zE, ↓reduceIte]
    exact j21_5_t line true _ (by rfl) (by rfl)
  · simp -implicitDefEqProofs only [Tryd.underlying9, yc1, setA, setB, za, zb, zc, zd, ze, zf, zg, zh, zi, zj, zk, zl, zm, zn, zo, zp, reduceCtorEq, zE, ↓reduceIte]
    refine brP (fun yc20 => ?_) (fun yc20 => ?_)
    · simp -implicitDefEqProofs only [yc1, yc20, setA, setB, za, zb, zc, zd, ze, zf, zg, zh, zi, zj, zk, zl, zm, zn, zo, zp, reduceCtorEq, zE, ↓reduceIte]
      refine brB (fun yc21 => ?_) (fun yc21 => ?_)
      · simp -implicitDefEqProofs only [Tryd.underlying9, yc1, yc20, yc21, setA, setB, za, zb, zc, zd, ze, zf, zg, zh, zi, zj, zk, zl, zm, zn, zo, zp, reduceCtorEq, zE, ↓reduceIte]
        refine brP (fun yc22 => ?_) (fun yc22 => ?_)
        · simp -implicitDefEqProofs only [yc1, yc20, yc21, yc22, setA, setB, za, zb, zc, zd, ze, zf, zg, zh, zi, zj, zk, zl, zm, zn, zo, zp, reduceCtorEq, zE, ↓reduceIte]
          exact j21_5_t line (!((line.getD (w64 ((line.length : Int) - 1)).toNat 0) == (10 : UInt8))) _ (by rfl) (by rfl)
        · rw [if_neg yc22]; rfl
      · simp -implicitDefEqProofs only [yc1, yc20, yc21, setA, setB, za, zb, zc, zd, ze, zf, zg, zh, zi, zj, zk, zl, zm, zn, zo, zp, reduceCtorEq, zE, ↓reduceIte]
        exact j21_5_t line true _ (by rfl) (by rfl)
    · rw [if_neg yc20]; rfl
noncomputable def c55_0 : Code := bodyOf Tryd.f55
def c55_1 := cA c55_0
def c55_2 := cB c55_0
def c55_3 := cA c55_2
def c55_4 := cB c55_2
def c55_5 := cA c55_4
def c55_6 := cA c55_5
def c55_7 := cB c55_5
def c55_8 := cA c55_7
def c55_9 := cA c55_8
def c55_10 := cA c55_9
def c55_11 := cA c55_10
def c55_12 := cB c55_10
def c55_13 := cA c55_12
def c55_14 := cB c55_12
def c55_15 := cB c55_9
def c55_16 := cA c55_15
def c55_17 := cA c55_16
def c55_18 := cA c55_17
def c55_19 := cB c55_17
def c55_20 := cA c55_19
def c55_21 := cB c55_19
def c55_22 := cA c55_21
def c55_23 := cA c55_22
def c55_24 := cB c55_22
def c55_25 := cA c55_24
def c55_26 := cA c55_25
def c55_27 := cA c55_26
def c55_28 := cA c55_27
def c55_29 := cB c55_27
def c55_30 := cA c55_29
def c55_31 := cB c55_29
def c55_32 := cB c55_26
def c55_33 := cA c55_32
def c55_34 := cA c55_33
def c55_35 := cB c55_32
def c55_36 := cB c55_21
def c55_37 := cA c55_36
def c55_38 := cB c55_36
def c55_39 := cA c55_38
def c55_40 := cA c55_39
def c55_41 := cB c55_39
def c55_42 := cB c55_38
def c55_43 := cB c55_15
def c55_44 := cB c55_4
def c55_45 := cA c55_44
def c55_46 := cB c55_44
theorem c55_0_e : c55_0 = .seq c55_1 c55_2 := rfl
theorem c55_1_r : RG (E0 mm) 55 c55_1 := rgN rfl
theorem c55_2_e : c55_2 = .seq c55_3 c55_4 := rfl
theorem c55_3_r : RG (E0 mm) 55 c55_3 := rgN rfl
theorem c55_4_e : c55_4 = .seq c55_5 c55_44 := rfl
theorem c55_5_e : c55_5 = .seq c55_6 c55_7 := rfl
theorem c55_6_r : RG (E0 mm) 55 c55_6 := rgN rfl
theorem c55_7_e : c55_7 = .block 0 c55_8 := rfl
theorem c55_8_l (m : Nat) (st : St) : den (E0 mm) 55 m (callW (E0 mm)) itW c55_8 none st = loopD itW (loopF (E0 mm) 55 m (callW (E0 mm)) itW c55_9 [(0, .keep), (3, .keep), (4, .keep)]) (canon m [(0, .keep), (3, .keep), (4, .keep)] st) := rfl
theorem c55_9_e : c55_9 = .seq c55_10 c55_15 := rfl
theorem c55_10_e : c55_10 = .seq c55_11 c55_12 := rfl
theorem c55_11_r : RG (E0 mm) 55 c55_11 := rgN rfl
theorem c55_13_e : c55_13 = .skip := rfl
theorem c55_14_e : c55_14 = .exit 0 := rfl
theorem c55_15_e : c55_15 = .seq c55_16 c55_43 := rfl
theorem c55_16_e : c55_16 = .block 1 c55_17 := rfl
theorem c55_17_e : c55_17 = .seq c55_18 c55_19 := rfl
theorem c55_18_r : RG (E0 mm) 55 c55_18 := rgN rfl
theorem c55_19_e : c55_19 = .seq c55_20 c55_21 := rfl
theorem c55_20_r : RG (E0 mm) 55 c55_20 := rgN rfl
theorem c55_21_e : c55_21 = .seq c55_22 c55_36 := rfl
theorem c55_22_e : c55_22 = .seq c55_23 c55_24 := rfl
theorem c55_23_r : RG (E0 mm) 55 c55_23 := rgN rfl
theorem c55_24_e : c55_24 = .block 2 c55_25 := rfl
theorem c55_25_l (m : Nat) (st : St) : den (E0 mm) 55 m (callW (E0 mm)) itW c55_25 none st = loopD itW (loopF (E0 mm) 55 m (callW (E0 mm)) itW c55_26 [(0, .keep), (3, .keep), (4, .keep), (5, .keep), (6, .keep), (7, .keep)]) (canon m [(0, .keep), (3, .keep), (4, .keep), (5, .keep), (6, .keep), (7, .keep)] st) := rfl
theorem c55_26_e : c55_26 = .seq c55_27 c55_32 := rfl
theorem c55_27_e : c55_27 = .seq c55_28 c55_29 := rfl
theorem c55_28_r : RG (E0 mm) 55 c55_28 := rgN rfl
theorem c55_30_e : c55_30 = .skip := rfl
theorem c55_31_e : c55_31 = .exit 2 := rfl
theorem c55_32_e : c55_32 = .seq c55_33 c55_35 := rfl
theorem c55_33_e : c55_33 = .block 3 c55_34 := rfl
theorem c55_34_r : RG (E0 mm) 55 c55_34 := rgN rfl
theorem c55_35_r : RG (E0 mm) 55 c55_35 := rgN rfl
theorem c55_36_e : c55_36 = .seq c55_37 c55_38 := rfl
theorem c55_37_r : RG (E0 mm) 55 c55_37 := rgN rfl
theorem c55_39_e : c55_39 = .seq c55_40 c55_41 := rfl
theorem c55_40_r : RG (E0 mm) 55 c55_40 := rgN rfl
theorem c55_41_e : c55_41 = .ret := rfl
theorem c55_42_e : c55_42 = .skip := rfl
theorem c55_43_r : RG (E0 mm) 55 c55_43 := rgN rfl
theorem c55_44_e : c55_44 = .seq c55_45 c55_46 := rfl
theorem c55_45_r : RG (E0 mm) 55 c55_45 := rgN rfl
theorem c55_46_e : c55_46 = .ret := rfl
abbrev R55 := (Bool)
def e55 : R55 → AV × Heap := fun x => (.v (.c (.d (.sc (.bool x)))), [])
def K55_8 : Option (Ex × St) → Option (AV × Heap) := fun r => bodyD (E0 mm) [.tmp 2] 0 false (seqD (E0 mm) 55 0 (callW (E0 mm)) itW c55_44 (blockD 0 (r)))
def en55_8 : (Bs × Bs × Int) → X := fun x => (none, [.v (.c (.d (.sc (.string (S x.1))))), .v (.c (.d (.sc (.string (S x.2.1))))), .v (.c (.d (.sc (.int .i64 x.2.2))))], [])
def K55_25 : Option (Ex × St) → Option (X ⊕ (AV × Heap)) := fun r => stepE (K55_8 (mm := mm)) (loopK 0 [(0, .keep), (3, .keep), (4, .keep)] (seqD (E0 mm) 55 0 (callW (E0 mm)) itW c55_43 (blockD 1 (seqD (E0 mm) 55 0 (callW (E0 mm)) itW c55_36 (blockD 2 (r))))))
def en55_25 : (Bs × Bs × Int × UInt8 × Bool × Int) → X := fun x => (none, [.v (.c (.d (.sc (.string (S x.1))))), .v (.c (.d (.sc (.string (S x.2.1))))), .v (.c (.d (.sc (.int .i64 x.2.2.1)))), .v (.c (.d (.sc (.int .u8 ((x.2.2.2.1).toNat : Int))))), .v (.c (.d (.sc (.bool x.2.2.2.2.1)))), .v (.c (.d (.sc (.int .i64 x.2.2.2.2.2))))], [])
def j55_35 (s0 signs3 : Bs) (i4 : Int) (c5 : UInt8) (is6 : Bool) (k7 : Int) : Option ((Bs × Bs × Int × UInt8 × Bool × Int) ⊕ ((Bs × Bs × Int) ⊕ R55)) :=
  some (.inl (s0, signs3, i4, c5, is6, (w64 (k7 + 1))))
theorem j55_35_t (s0 signs3 : Bs) (i4 : Int) (c5 : UInt8) (is6 : Bool) (k7 : Int)  (sl : Nat → AV) (zq0 : sl 0 = .v (.c (.d (.sc (.string (S s0)))))) (zq3 : sl 3 = .v (.c (.d (.sc (.string (S signs3)))))) (zq4 : sl 4 = .v (.c (.d (.sc (.int .i64 i4))))) (zq5 : sl 5 = .v (.c (.d (.sc (.int .u8 ((c5).toNat : Int)))))) (zq6 : sl 6 = .v (.c (.d (.sc (.bool is6))))) (zq7 : sl 7 = .v (.c (.d (.sc (.int .i64 k7))))) :
    stepE (K55_25 (mm := mm)) (loopK 0 [(0, .keep), (3, .keep), (4, .keep), (5, .keep), (6, .keep), (7, .keep)] (den (E0 mm) 55 0 (callW (E0 mm)) itW c55_35 none ⟨sl, []⟩)) = (j55_35 s0 signs3 i4 c5 is6 k7).map (sm en55_25 (sm en55_8 e55)) := by
  simp -implicitDefEqProofs only [j55_35, c55_35_r, (show opsOf c55_35 = _ :: _ from rfl), zq0, zq3, zq4, zq5, zq6, zq7, setA, setB, za, zb, zc, zd, ze, zf, zg, zh, zi, zj, zk, zl, zm, zn, zo, zp, reduceCtorEq, zE, ↓reduceIte]
  all_goals rfl
def j55_36 (s0 signs3 : Bs) (i4 : Int) (is6 : Bool) : Option ((Bs × Bs × Int) ⊕ R55) :=
  if is6 = true then
    some (.inl (s0, signs3, (w64 (i4 + 1))))
  else
    some (.inr false)
theorem j55_36_t (s0 signs3 : Bs) (i4 : Int) (is6 : Bool)  (sl : Nat → AV) (zq0 : sl 0 = .v (.c (.d (.sc (.string (S s0)))))) (zq3 : sl 3 = .v (.c (.d (.sc (.string (S signs3)))))) (zq4 : sl 4 = .v (.c (.d (.sc (.int .i64 i4))))) (zq6 : sl 6 = .v (.c (.d (.sc (.bool is6))))) :
    stepE (K55_8 (mm := mm)) (loopK 0 [(0, .keep), (3, .keep), (4, .keep)] (seqD (E0 mm) 55 0 (callW (E0 mm)) itW c55_43 (blockD 1 (den (E0 mm) 55 0 (callW (E0 mm)) itW c55_36 none ⟨sl, []⟩)))) = (j55_36 s0 signs3 i4 is6).map (sm en55_8 e55) := by
  simp -implicitDefEqProofs only [j55_36, c55_36_e, c55_37_r, (show opsOf c55_37 = _ :: _ from rfl), (show c55_38 = Code.cond _ c55_39 c55_42 from rfl), zq0, zq3, zq4, zq6, setA, setB, za, zb, zc, zd, ze, zf, zg, zh, zi, zj, zk, zl, zm, zn, zo, zp, reduceCtorEq, zE, ↓reduceIte]
  refine brB (fun yc8 => ?_) (fun yc8 => ?_)
  · simp -implicitDefEqProofs only [c55_42_e, c55_43_r, (show opsOf c55_43 = _ :: _ from rfl), zq0, zq3, zq4, zq6, yc8, setA, setB, za, zb, zc, zd, ze, zf, zg, zh, zi, zj, zk, zl, zm, zn, zo, zp, reduceCtorEq, zE, ↓reduceIte]
    all_goals rfl
  · simp -implicitDefEqProofs only [c55_39_e, c55_40_r, (show opsOf c55_40 = _ :: _ from rfl), c55_41_e, K55_8, zq0, zq3, zq4, zq6, yc8, setA, setB, za, zb, zc, zd, ze, zf, zg, zh, zi, zj, zk, zl, zm, zn, zo, zp, reduceCtorEq, zE, ↓reduceIte]
    all_goals rfl
def s55_25 (s0 signs3 : Bs) (i4 : Int) (c5 : UInt8) (is6 : Bool) (k7 : Int) : Option ((Bs × Bs × Int × UInt8 × Bool × Int) ⊕ ((Bs × Bs × Int) ⊕ R55)) :=
  if (decide (k7 < (signs3.length : Int))) = true then
    if is6 = true then
      j55_35 s0 signs3 i4 c5 true k7
    else
      if 0 ≤ k7 ∧ k7 < (signs3.length : Int) then
        j55_35 s0 signs3 i4 c5 ((signs3.getD k7.toNat 0) == c5) k7
      else none
  else
    (j55_36 s0 signs3 i4 is6).map .inr
theorem s55_25_t (s0 signs3 : Bs) (i4 : Int) (c5 : UInt8) (is6 : Bool) (k7 : Int) :
    stepE (K55_25 (mm := mm)) (loopF (E0 mm) 55 0 (callW (E0 mm)) itW c55_26 [(0, .keep), (3, .keep), (4, .keep), (5, .keep), (6, .keep), (7, .keep)] (none, [.v (.c (.d (.sc (.string (S s0))))), .v (.c (.d (.sc (.string (S signs3))))), .v (.c (.d (.sc (.int .i64 i4)))), .v (.c (.d (.sc (.int .u8 ((c5).toNat : Int))))), .v (.c (.d (.sc (.bool is6)))), .v (.c (.d (.sc (.int .i64 k7))))], [])) = (s55_25 s0 signs3 i4 c5 is6 k7).map (sm en55_25 (sm en55_8 e55)) := by
  simp -implicitDefEqProofs only [s55_25, loopF_eq, c55_26_e, c55_27_e, c55_28_r, (show opsOf c55_28 = _ :: _ from rfl), Tryd.underlying9, (show c55_29 = Code.cond _ c55_30 c55_31 from rfl), setA, setB, za, zb, zc, zd, ze, zf, zg, zh, zi, zj, zk, zl, zm, zn, zo, zp, reduceCtorEq, zE, ↓reduceIte]
  refine brB (fun yc5 => ?_) (fun yc5 => ?_)
  · simp -implicitDefEqProofs only [c55_30_e, c55_32_e, c55_33_e, c55_34_r, (show opsOf c55_34 = _ :: _ from rfl), yc5, setA, setB, za, zb, zc, zd, ze, zf, zg, zh, zi, zj, zk, zl, zm, zn, zo, zp, reduceCtorEq, zE, ↓reduceIte]
    refine brB (fun yc6 => ?_) (fun yc6 => ?_)
    · simp -implicitDefEqProofs only [yc5, yc6, setA, setB, za, zb, zc, zd, ze, zf, zg, zh, zi, zj, zk, zl, zm, zn, zo, zp, reduceCtorEq, zE, ↓reduceIte]
      exact j55_35_t s0 signs3 i4 c5 true k7 _ (by rfl) (by rfl) (by rfl) (by rfl) (by rfl) (by rfl)
    · simp -implicitDefEqProofs only [Tryd.underlying9, yc5, yc6, setA, setB, za, zb, zc, zd, ze, zf, zg, zh, zi, zj, zk, zl, zm, zn, zo, zp, reduceCtorEq, zE, ↓reduceIte]
      refine brP (fun yc7 => ?_) (fun yc7 => ?_)
      · simp -implicitDefEqProofs only [yc5, yc6, yc7, setA, setB, za, zb, zc, zd, ze, zf, zg, zh, zi, zj, zk, zl, zm, zn, zo, zp, reduceCtorEq, zE, ↓reduceIte]
        exact j55_35_t s0 signs3 i4 c5 ((signs3.getD k7.toNat 0) == c5) k7 _ (by rfl) (by rfl) (by rfl) (by rfl) (by rfl) (by rfl)
      · rw [if_neg yc7]; rfl
  · simp -implicitDefEqProofs only [c55_31_e, K55_25, yc5, setA, setB, za, zb, zc, zd, ze, zf, zg, zh, zi, zj, zk, zl, zm, zn, zo, zp, reduceCtorEq, zE, ↓reduceIte]
    exact mi (j55_36_t s0 signs3 i4 is6 _ (by rfl) (by rfl) (by rfl) (by rfl))
def l55_25 (s0 signs3 : Bs) (i4 : Int) (c5 : UInt8) (is6 : Bool) (k7 : Int) : Option ((Bs × Bs × Int) ⊕ R55) := iter (fun x : (Bs × Bs × Int × UInt8 × Bool × Int) => s55_25 x.1 x.2.1 x.2.2.1 x.2.2.2.1 x.2.2.2.2.1 x.2.2.2.2.2) (s0, signs3, i4, c5, is6, k7)
theorem l55_25_t (s0 signs3 : Bs) (i4 : Int) (c5 : UInt8) (is6 : Bool) (k7 : Int) : stepE (K55_8 (mm := mm)) (loopK 0 [(0, .keep), (3, .keep), (4, .keep)] (seqD (E0 mm) 55 0 (callW (E0 mm)) itW c55_43 (blockD 1 (seqD (E0 mm) 55 0 (callW (E0 mm)) itW c55_36 (blockD 2 (itW (loopF (E0 mm) 55 0 (callW (E0 mm)) itW c55_26 [(0, .keep), (3, .keep), (4, .keep), (5, .keep), (6, .keep), (7, .keep)]) (none, [.v (.c (.d (.sc (.string (S s0))))), .v (.c (.d (.sc (.string (S signs3))))), .v (.c (.d (.sc (.int .i64 i4)))), .v (.c (.d (.sc (.int .u8 ((c5).toNat : Int))))), .v (.c (.d (.sc (.bool is6)))), .v (.c (.d (.sc (.int .i64 k7))))], []))))))) = (l55_25 s0 signs3 i4 c5 is6 k7).map (sm en55_8 e55) :=
  it_sim (K := (K55_25 (mm := mm))) rfl (enc := en55_25) (fun x => s55_25_t x.1 x.2.1 x.2.2.1 x.2.2.2.1 x.2.2.2.2.1 x.2.2.2.2.2) (s0, signs3, i4, c5, is6, k7)
def j55_21 (s0 signs3 : Bs) (i4 : Int) (c5 : UInt8) (is6 : Bool) : Option ((Bs × Bs × Int) ⊕ R55) :=
  l55_25 s0 signs3 i4 c5 is6 (0 : Int)
theorem j55_21_t (s0 signs3 : Bs) (i4 : Int) (c5 : UInt8) (is6 : Bool)  (sl : Nat → AV) (zq0 : sl 0 = .v (.c (.d (.sc (.string (S s0)))))) (zq3 : sl 3 = .v (.c (.d (.sc (.string (S signs3)))))) (zq4 : sl 4 = .v (.c (.d (.sc (.int .i64 i4))))) (zq5 : sl 5 = .v (.c (.d (.sc (.int .u8 ((c5).toNat : Int)))))) (zq6 : sl 6 = .v (.c (.d (.sc (.bool is6))))) :
    stepE (K55_8 (mm := mm)) (loopK 0 [(0, .keep), (3, .keep), (4, .keep)] (seqD (E0 mm) 55 0 (callW (E0 mm)) itW c55_43 (blockD 1 (den (E0 mm) 55 0 (callW (E0 mm)) itW c55_21 none ⟨sl, []⟩)))) = (j55_21 s0 signs3 i4 c5 is6).map (sm en55_8 e55) := by
  simp -implicitDefEqProofs only [j55_21, c55_21_e, c55_22_e, c55_23_r, (show opsOf c55_23 = _ :: _ from rfl), c55_24_e, c55_25_l, zq0, zq3, zq4, zq5, zq6, setA, setB, za, zb, zc, zd, ze, zf, zg, zh, zi, zj, zk, zl, zm, zn, zo, zp, reduceCtorEq, zE, ↓reduceIte]
  exact l55_25_t s0 signs3 i4 c5 is6 (0 : Int)
def j55_44 (s0 : Bs) : Option R55 :=
  some (decide (0 < (s0.length : Int)))
theorem j55_44_t (s0 : Bs)  (sl : Nat → AV) (zq0 : sl 0 = .v (.c (.d (.sc (.string (S s0)))))) :
    bodyD (E0 mm) [.tmp 2] 0 false (den (E0 mm) 55 0 (callW (E0 mm)) itW c55_44 none ⟨sl, []⟩) = (j55_44 s0).map e55 := by
  simp -implicitDefEqProofs only [j55_44, c55_44_e, c55_45_r, (show opsOf c55_45 = _ :: _ from rfl), Tryd.underlying9, c55_46_e, zq0, setA, setB, za, zb, zc, zd, ze, zf, zg, zh, zi, zj, zk, zl, zm, zn, zo, zp, reduceCtorEq, zE, ↓reduceIte]
  all_goals rfl
def s55_8 (s0 signs3 : Bs) (i4 : Int) : Option ((Bs × Bs × Int) ⊕ R55) :=
  if (decide (i4 < (s0.length : Int))) = true then
    if 0 ≤ i4 ∧ i4 < (s0.length : Int) then
      if (decide ((97 : UInt8) ≤ (s0.getD i4.toNat 0))) = true then
        if (decide ((s0.getD i4.toNat 0) ≤ (122 : UInt8))) = true then
          j55_21 s0 signs3 i4 (s0.getD i4.toNat 0) true
        else
          if (decide ((65 : UInt8) ≤ (s0.getD i4.toNat 0))) = true then
            if (decide ((s0.getD i4.toNat 0) ≤ (90 : UInt8))) = true then
              j55_21 s0 signs3 i4 (s0.getD i4.toNat 0) true
            else
              if (decide ((48 : UInt8) ≤ (s0.getD i4.toNat 0))) = true then
                j55_21 s0 signs3 i4 (s0.getD i4.toNat 0) (decide ((s0.getD i4.toNat 0) ≤ (57 : UInt8)))
              else
                j55_21 s0 signs3 i4 (s0.getD i4.toNat 0) false
          else
            if (decide ((48 : UInt8) ≤ (s0.getD i4.toNat 0))) = true then
              j55_21 s0 signs3 i4 (s0.getD i4.toNat 0) (decide ((s0.getD i4.toNat 0) ≤ (57 : UInt8)))
            else
              j55_21 s0 signs3 i4 (s0.getD i4.toNat 0) false
      else
        if (decide ((65 : UInt8) ≤ (s0.getD i4.toNat 0))) = true then
          if (decide ((s0.getD i4.toNat 0) ≤ (90 : UInt8))) = true then
            j55_21 s0 signs3 i4 (s0.getD i4.toNat 0) true
          else
            if (decide ((48 : UInt8) ≤ (s0.getD i4.toNat 0))) = true then
              j55_21 s0 signs3 i4 (s0.getD i4.toNat 0) (decide ((s0.getD i4.toNat 0) ≤ (57 : UInt8)))
            else
              j55_21 s0 signs3 i4 (s0.getD i4.toNat 0) false
        else
          if (decide ((48 : UInt8) ≤ (s0.getD i4.toNat 0))) = true then
            j55_21 s0 signs3 i4 (s0.getD i4.toNat 0) (decide ((s0.getD i4.toNat 0) ≤ (57 : UInt8)))
          else
            j55_21 s0 signs3 i4 (s0.getD i4.toNat 0) false
    else none
  else
    (j55_44 s0).map .inr
theorem s55_8_t (s0 signs3 : Bs) (i4 : Int) :
    stepE (K55_8 (mm := mm)) (loopF (E0 mm) 55 0 (callW (E0 mm)) itW c55_9 [(0, .keep), (3, .keep), (4, .keep)] (none, [.v (.c (.d (.sc (.string (S s0))))), .v (.c (.d (.sc (.string (S signs3))))), .v (.c (.d (.sc (.int .i64 i4))))], [])) = (s55_8 s0 signs3 i4).map (sm en55_8 e55) := by
  simp -implicitDefEqProofs only [s55_8, loopF_eq, c55_9_e, c55_10_e, c55_11_r, (show opsOf c55_11 = _ :: _ from rfl), Tryd.underlying9, (show c55_12 = Code.cond _ c55_13 c55_14 from rfl), setA, setB, za, zb, zc, zd, ze, zf, zg, zh, zi, zj, zk, zl, zm, zn, zo, zp, reduceCtorEq, zE, ↓reduceIte]
  refine brB (fun yc1 => ?_) (fun yc1 => ?_)
  · simp -implicitDefEqProofs only [c55_13_e, c55_15_e, c55_16_e, c55_17_e, c55_18_r, (show opsOf c55_18 = _ :: _ from rfl), Tryd.underlying9, yc1, setA, setB, za, zb, zc, zd, ze, zf, zg, zh, zi, zj, zk, zl, zm, zn, zo, zp, reduceCtorEq, zE, ↓reduceIte]
    refine brP (fun yc2 => ?_) (fun yc2 => ?_)
    · simp -implicitDefEqProofs only [c55_19_e, c55_20_r, (show opsOf c55_20 = _ :: _ from rfl), yc1, yc2, setA, setB, za, zb, zc, zd, ze, zf, zg, zh, zi, zj, zk, zl, zm, zn, zo, zp, reduceCtorEq, zE, ↓reduceIte]
      refine brB (fun yc3 => ?_) (fun yc3 => ?_)
      · simp -implicitDefEqProofs only [yc1, yc2, yc3, setA, setB, za, zb, zc, zd, ze, zf, zg, zh, zi, zj, zk, zl, zm, zn, zo, zp, reduceCtorEq, zE, ↓reduceIte]
        refine brB (fun yc4 => ?_) (fun yc4 => ?_)
        · simp -implicitDefEqProofs only [yc1, yc2, yc3, yc4, setA, setB, za, zb, zc, zd, ze, zf, zg, zh, zi, zj, zk, zl, zm, zn, zo, zp, reduceCtorEq, zE, ↓reduceIte]
          exact j55_21_t s0 signs3 i4 (s0.getD i4.toNat 0) true _ (by rfl) (by rfl) (by rfl) (by rfl) (by rfl)
        · simp -implicitDefEqProofs only [yc1, yc2, yc3, yc4, setA, setB, za, zb, zc, zd, ze, zf, zg, zh, zi, zj, zk, zl, zm, zn, zo, zp, reduceCtorEq, zE, ↓reduceIte]
          refine brB (fun yc9 => ?_) (fun yc9 => ?_)
          · simp -implicitDefEqProofs only [yc1, yc2, yc3, yc4, yc9, setA, setB, za, zb, zc, zd, ze, zf, zg, zh, zi, zj, zk, zl, zm, zn, zo, zp, reduceCtorEq, zE, ↓reduceIte]
            refine brB (fun yc10 => ?_) (fun yc10 => ?_)
            · simp -implicitDefEqProofs only [yc1, yc2, yc3, yc4, yc9, yc10, setA, setB, za, zb, zc, zd, ze, zf, zg, zh, zi, zj, zk, zl, zm, zn, zo, zp, reduceCtorEq, zE, ↓reduceIte]
              exact j55_21_t s0 signs3 i4 (s0.getD i4.toNat 0) true _ (by rfl) (by rfl) (by rfl) (by rfl) (by rfl)
            · simp -implicitDefEqProofs only [yc1, yc2, yc3, yc4, yc9, yc10, setA, setB, za, zb, zc, zd, ze, zf, zg, zh, zi, zj, zk, zl, zm, zn, zo, zp, reduceCtorEq, zE, ↓reduceIte]
              refine brB (fun yc11 => ?_) (fun yc11 => ?_)
              · simp -implicitDefEqProofs only [yc1, yc2, yc3, yc4, yc9, yc10, yc11, setA, setB, za, zb, zc, zd, ze, zf, zg, zh, zi, zj, zk, zl, zm, zn, zo, zp, reduceCtorEq, zE, ↓reduceIte]
                exact j55_21_t s0 signs3 i4 (s0.getD i4.toNat 0) (decide ((s0.getD i4.toNat 0) ≤ (57 : UInt8))) _ (by rfl) (by rfl) (by rfl) (by rfl) (by rfl)
              · simp -implicitDefEqProofs only [yc1, yc2, yc3, yc4, yc9, yc10, yc11, setA, setB, za, zb, zc, zd, ze, zf, zg, zh, zi, zj, zk, zl, zm, zn, zo, zp, reduceCtorEq, zE, ↓reduceIte]
                exact j55_21_t s0 signs3 i4 (s0.getD i4.toNat 0) false _ (by rfl) (by rfl) (by rfl) (by rfl) (by rfl)
          · simp -implicitDefEqProofs only [yc1, yc2, yc3, yc4, yc9, setA, setB, za, zb, zc, zd, ze, zf, zg, zh, zi, zj, zk, zl, zm, zn, zo, zp, reduceCtorEq, zE, ↓reduceIte]
            refine brB (fun yc12 => ?_) (fun yc12 => ?_)
            · simp -implicitDefEqProofs only [yc1, yc2, yc3, yc4, yc9, yc12, setA, setB, za, zb, zc, zd, ze, zf, zg, zh, zi, zj, zk, zl, zm, zn, zo, zp, reduceCtorEq, zE, ↓reduceIte]
              exact j55_21_t s0 signs3 i4 (s0.getD i4.toNat 0) (decide ((s0.getD i4.toNat 0) ≤ (57 : UInt8))) _ (by rfl) (by rfl) (by rfl) (by rfl) (by rfl)
            · simp -implicitDefEqProofs only [yc1, yc2, yc3, yc4, yc9, yc12, setA, setB, za, zb, zc, zd, ze, zf, zg, zh, zi, zj, zk, zl, zm, zn, zo, zp, reduceCtorEq, zE, ↓reduceIte]
              exact j55_21_t s0 signs3 i4 (s0.getD i4.toNat 0) false _ (by rfl) (by rfl) (by rfl) (by rfl) (by rfl)
      · simp -implicitDefEqProofs only [yc1, yc2, yc3, setA, setB, za, zb, zc, zd, ze, zf, zg, zh, zi, zj, zk, zl, zm, zn, zo, zp, reduceCtorEq, zE, ↓reduceIte]
        refine brB (fun yc13 => ?_) (fun yc13 => ?_)
        · simp -implicitDefEqProofs only [yc1, yc2, yc3, yc13, setA, setB, za, zb, zc, zd, ze, zf, zg, zh, zi, zj, zk, zl, zm, zn, zo, zp, reduceCtorEq, zE, ↓reduceIte]
          refine brB (fun yc14 => ?_) (fun yc14 => ?_)
          · simp -implicitDefEqProofs only [yc1, yc2, yc3, yc13, yc14, setA, setB, za, zb, zc, zd, ze, zf, zg, zh, zi, zj, zk, zl, zm, zn, zo, zp, reduceCtorEq, zE, ↓reduceIte]
            exact j55_21_t s0 signs3 i4 (s0.getD i4.toNat 0) true _ (by rfl) (by rfl) (by rfl) (by rfl) (by rfl)
          · simp -implicitDefEqProofs only [yc1, yc2, yc3, yc13, yc14, setA, setB, za, zb, zc, zd, ze, zf, zg, zh, zi, zj, zk, zl, zm, zn, zo, zp, reduceCtorEq, zE, ↓reduceIte]
            refine brB (fun yc15 => ?_) (fun yc15 => ?_)
            · simp -implicitDefEqProofs only [yc1, yc2, yc3, yc13, yc14, yc15, setA, setB, za, zb, zc, zd, ze, zf, zg, zh, zi, zj, zk, zl, zm, zn, zo, zp, reduceCtorEq, zE, ↓reduceIte]
              exact j55_21_t s0 signs3 i4 (s0.getD i4.toNat 0) (decide ((s0.getD i4.toNat 0) ≤ (57 : UInt8))) _ (by rfl) (by rfl) (by rfl) (by rfl) (by rfl)
            · simp -implicitDefEqProofs only [yc1, yc2, yc3, yc13, yc14, yc15, setA, setB, za, zb, zc, zd, ze, zf, zg, zh, zi, zj, zk, zl, zm, zn, zo, zp, reduceCtorEq, zE, ↓reduceIte]
              exact j55_21_t s0 signs3 i4 (s0.getD i4.toNat 0) false _ (by rfl) (by rfl) (by rfl) (by rfl) (by rfl)
        · simp -implicitDefEqProofs only [yc1, yc2, yc3, yc13, setA, setB, za, zb, zc, zd, ze, zf, zg, zh, zi, zj, zk, zl, zm, zn, zo, zp, reduceCtorEq, zE, ↓reduceIte]
          refine brB (fun yc16 => ?_) (fun yc16 => ?_)
          · simp -implicitDefEqProofs only [yc1, yc2, yc3, yc13, yc16, setA, setB, za, zb, zc, zd, ze, zf, zg, zh, zi, zj, zk, zl, zm, zn, zo, zp, reduceCtorEq, zE, ↓reduceIte]
            exact j55_21_t s0 signs3 i4 (s0.getD i4.toNat 0) (decide ((s0.getD i4.toNat 0) ≤ (57 : UInt8))) _ (by rfl) (by rfl) (by rfl) (by rfl) (by rfl)
          · simp -implicitDefEqProofs only [yc1, yc2, yc3, yc13, yc16, setA, setB, za, zb, zc, zd, ze, zf, zg, zh, zi, zj, zk, zl, zm, zn, zo, zp, reduceCtorEq, zE, ↓reduceIte]
            exact j55_21_t s0 signs3 i4 (s0.getD i4.toNat 0) false _ (by rfl) (by rfl) (by rfl) (by rfl) (by rfl)
    · rw [if_neg yc2]; rfl
  · simp -implicitDefEqProofs only [c55_14_e, K55_8, yc1, setA, setB, za, zb, zc, zd, ze, zf, zg, zh, zi, zj, zk, zl, zm, zn, zo, zp, reduceCtorEq, zE, ↓reduceIte]
    exact mi (j55_44_t s0 _ (by rfl))
def l55_8 (s0 signs3 : Bs) (i4 : Int) : Option R55 := iter (fun x : (Bs × Bs × Int) => s55_8 x.1 x.2.1 x.2.2) (s0, signs3, i4)
theorem l55_8_t (s0 signs3 : Bs) (i4 : Int) : bodyD (E0 mm) [.tmp 2] 0 false (seqD (E0 mm) 55 0 (callW (E0 mm)) itW c55_44 (blockD 0 (itW (loopF (E0 mm) 55 0 (callW (E0 mm)) itW c55_9 [(0, .keep), (3, .keep), (4, .keep)]) (none, [.v (.c (.d (.sc (.string (S s0))))), .v (.c (.d (.sc (.string (S signs3))))), .v (.c (.d (.sc (.int .i64 i4))))], [])))) = (l55_8 s0 signs3 i4).map e55 :=
  it_sim (K := (K55_8 (mm := mm))) rfl (enc := en55_8) (fun x => s55_8_t x.1 x.2.1 x.2.2) (s0, signs3, i4)
def m55 (s : Bs) : Option R55 :=
  l55_8 s ([33, 35, 36, 37, 38, 39, 42, 43, 45, 46, 94, 95, 96, 124, 126] : Bs) (0 : Int)
theorem f55_t (s : Bs) :
    callW (E0 mm) 55 [.c (.d (.sc (.string (S s))))] [] = (m55 s).map e55 := by
  rw [callW_run (body := c55_0) (res := [.tmp 2]) Tryd.func55 rfl rfl (by kernel_rfl)]
  simp -implicitDefEqProofs only [m55, slots1, c55_0_e, c55_1_r, (show opsOf c55_1 = _ :: _ from rfl), c55_2_e, c55_3_r, (show opsOf c55_3 = _ :: _ from rfl), c55_4_e, c55_5_e, c55_6_r, (show opsOf c55_6 = _ :: _ from rfl), c55_7_e, c55_8_l, setA, setB, za, zb, zc, zd, ze, zf, zg, zh, zi, zj, zk, zl, zm, zn, zo, zp, reduceCtorEq, zE, ↓reduceIte]
  exact l55_8_t s ([33, 35, 36, 37, 38, 39, 42, 43, 45, 46, 94, 95, 96, 124, 126] : Bs) (0 : Int)
noncomputable def c39_0 : Code := bodyOf Tryd.f39
def c39_1 := cA c39_0
def c39_2 := cB c39_0
def c39_3 := cA c39_2
def c39_4 := cB c39_2
theorem c39_0_e : c39_0 = .seq c39_1 c39_2 := rfl
theorem c39_1_r : RG (E0 mm) 39 c39_1 := rgN rfl
theorem c39_2_e : c39_2 = .seq c39_3 c39_4 := rfl
theorem c39_3_r : RG (E0 mm) 39 c39_3 := rgN rfl
theorem c39_4_e : c39_4 = .ret := rfl
abbrev R39 := (Bool)
def e39 : R39 → AV × Heap := fun x => (.v (.c (.d (.sc (.bool x)))), [])
def m39 (c : UInt8) : Option R39 :=
  (m55 ([c] : List UInt8)).bind fun yr2 =>
    some yr2
theorem f39_t (c : UInt8) :
    callW (E0 mm) 39 [.c (.d (.sc (.int .u8 ((c).toNat : Int))))] [] = (m39 c).map e39 := by
  rw [callW_run (body := c39_0) (res := [.tmp 2]) Tryd.func39 rfl rfl (by kernel_rfl)]
  simp -implicitDefEqProofs only [m39, slots1, c39_0_e, c39_1_r, (show opsOf c39_1 = _ :: _ from rfl), c39_2_e, c39_3_r, (show opsOf c39_3 = _ :: _ from rfl), Tryd.underlying22, sz5, zc5, hd19, nv20, rw21, ns10, Tryd.underlying9, Tryd.underlying5, ent55, prm55, (show callW (E0 mm) 55 [.c (.d (.sc (.string (S ([c] : List UInt8)))))] [] = _ from f55_t ([c] : List UInt8)), setA, setB, za, zb, zc, zd, ze, zf, zg, zh, zi, zj, zk, zl, zm, zn, zo, zp, reduceCtorEq, zE, ↓reduceIte]
  refine brM (fun yc1 => ?_) (fun yr2 yc1 => ?_)
  · rw [yc1]; rfl
  · simp -implicitDefEqProofs only [e55, c39_4_e, yc1, setA, setB, za, zb, zc, zd, ze, zf, zg, zh, zi, zj, zk, zl, zm, zn, zo, zp, reduceCtorEq, zE, ↓reduceIte]
    all_goals rfl
noncomputable def c40_0 : Code := bodyOf Tryd.f40
def c40_1 := cA c40_0
def c40_2 := cB c40_0
def c40_3 := cA c40_2
def c40_4 := cB c40_2
theorem c40_0_e : c40_0 = .seq c40_1 c40_2 := rfl
theorem c40_1_r : RG (E0 mm) 40 c40_1 := rgN rfl
theorem c40_2_e : c40_2 = .seq c40_3 c40_4 := rfl
theorem c40_3_r : RG (E0 mm) 40 c40_3 := rgN rfl
theorem c40_4_e : c40_4 = .ret := rfl
abbrev R40 := (Bool)
def e40 : R40 → AV × Heap := fun x => (.v (.c (.d (.sc (.bool x)))), [])
def m40 (c : UInt8) : Option R40 :=
  if (c == (9 : UInt8)) = true then
    some true
  else
    if (decide ((32 : UInt8) ≤ c)) = true then
      some (!(c == (127 : UInt8)))
    else
      some false
theorem f40_t (c : UInt8) :
    callW (E0 mm) 40 [.c (.d (.sc (.int .u8 ((c).toNat : Int))))] [] = (m40 c).map e40 := by
  rw [callW_run (body := c40_0) (res := [.tmp 2]) Tryd.func40 rfl rfl (by kernel_rfl)]
  simp -implicitDefEqProofs only [m40, slots1, c40_0_e, c40_1_r, (show opsOf c40_1 = _ :: _ from rfl), c40_2_e, c40_3_r, (show opsOf c40_3 = _ :: _ from rfl), setA, setB, za, zb, zc, zd, ze, zf, zg, zh, zi, zj, zk, zl, zm, zn, zo, zp, reduceCtorEq, zE, ↓reduceIte]
  refine brB (fun yc1 => ?_) (fun yc1 => ?_)
  · simp -implicitDefEqProofs only [c40_4_e, yc1, setA, setB, za, zb, zc, zd, ze, zf, zg, zh, zi, zj, zk, zl, zm, zn, zo, zp, reduceCtorEq, zE, ↓reduceIte]
    all_goals rfl
  · simp -implicitDefEqProofs only [yc1, setA, setB, za, zb, zc, zd, ze, zf, zg, zh, zi, zj, zk, zl, zm, zn, zo, zp, reduceCtorEq, zE, ↓reduceIte]
    refine brB (fun yc2 => ?_) (fun yc2 => ?_)
    · simp -implicitDefEqProofs only [c40_4_e, yc1, yc2, setA, setB, za, zb, zc, zd, ze, zf, zg, zh, zi, zj, zk, zl, zm, zn, zo, zp, reduceCtorEq, zE, ↓reduceIte]
      all_goals rfl
    · simp -implicitDefEqProofs only [c40_4_e, yc1, yc2, setA, setB, za, zb, zc, zd, ze, zf, zg, zh, zi, zj, zk, zl, zm, zn, zo, zp, reduceCtorEq, zE, ↓reduceIte]
      all_goals rfl
end
end Go.Proofs.YtaohepmbkepmiaaDoor
