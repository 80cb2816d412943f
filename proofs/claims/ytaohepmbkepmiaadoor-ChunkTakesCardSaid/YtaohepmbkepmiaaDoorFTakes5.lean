/- The Go functions as plain functions, and that the evaluator computes them. -/
import Derived.Test.YtaohepmbkepmiaaDoorFTakes4
set_option linter.all false
set_option maxRecDepth 100000
namespace Go.Proofs.YtaohepmbkepmiaaDoor
open Go Go.Ab
open Nat renaming reduceEqDiff → za, reduceAdd → zb, reduceLeDiff → zc, reduceLT → zd, reduceMul → ze, reduceBEq → zf, reduceSub → zg, reducePow → zh
open Int renaming reduceEq → zi, reduceLE → zj, reduceLT → zk, reduceToNat → zl, reduceNegSucc → zm, reduceAdd → zn, reduceBEq → zo
open String renaming reduceBEq → zp
set_option maxHeartbeats 4000000
noncomputable section
variable {mm : Int}
noncomputable def c41_0 : Code := bodyOf Tryd.f41
def c41_1 := cA c41_0
def c41_2 := cB c41_0
def c41_3 := cA c41_2
def c41_4 := cB c41_2
def c41_5 := cA c41_4
def c41_6 := cA c41_5
def c41_7 := cA c41_6
def c41_8 := cA c41_7
def c41_9 := cA c41_8
def c41_10 := cB c41_8
def c41_11 := cA c41_10
def c41_12 := cB c41_10
def c41_13 := cB c41_7
def c41_14 := cA c41_13
def c41_15 := cB c41_4
def c41_16 := cA c41_15
def c41_17 := cA c41_16
def c41_18 := cA c41_17
def c41_19 := cA c41_18
def c41_20 := cA c41_19
def c41_21 := cB c41_19
def c41_22 := cA c41_21
def c41_23 := cB c41_21
def c41_24 := cB c41_18
def c41_25 := cA c41_24
def c41_26 := cB c41_15
def c41_27 := cA c41_26
def c41_28 := cB c41_26
theorem c41_0_e : c41_0 = .seq c41_1 c41_2 := rfl
theorem c41_1_r : RG (E0 mm) 41 c41_1 := rgN rfl
theorem c41_2_e : c41_2 = .seq c41_3 c41_4 := rfl
theorem c41_3_r : RG (E0 mm) 41 c41_3 := rgN rfl
theorem c41_4_e : c41_4 = .seq c41_5 c41_15 := rfl
theorem c41_5_e : c41_5 = .block 0 c41_6 := rfl
theorem c41_6_l (m : Nat) (st : St) : den (E0 mm) 41 m (callW (E0 mm)) itW c41_6 none st = loopD itW (loopF (E0 mm) 41 m (callW (E0 mm)) itW c41_7 [(0, .keep), (3, .keep), (4, .keep)]) (canon m [(0, .keep), (3, .keep), (4, .keep)] st) := rfl
theorem c41_7_e : c41_7 = .seq c41_8 c41_13 := rfl
theorem c41_8_e : c41_8 = .seq c41_9 c41_10 := rfl
theorem c41_9_r : RG (E0 mm) 41 c41_9 := rgN rfl
theorem c41_11_e : c41_11 = .skip := rfl
theorem c41_12_e : c41_12 = .exit 0 := rfl
theorem c41_13_e : c41_13 = .block 1 c41_14 := rfl
theorem c41_14_r : RG (E0 mm) 41 c41_14 := rgN rfl
theorem c41_15_e : c41_15 = .seq c41_16 c41_26 := rfl
theorem c41_16_e : c41_16 = .block 2 c41_17 := rfl
theorem c41_17_l (m : Nat) (st : St) : den (E0 mm) 41 m (callW (E0 mm)) itW c41_17 none st = loopD itW (loopF (E0 mm) 41 m (callW (E0 mm)) itW c41_18 [(0, .keep), (3, .keep), (4, .keep)]) (canon m [(0, .keep), (3, .keep), (4, .keep)] st) := rfl
theorem c41_18_e : c41_18 = .seq c41_19 c41_24 := rfl
theorem c41_19_e : c41_19 = .seq c41_20 c41_21 := rfl
theorem c41_20_r : RG (E0 mm) 41 c41_20 := rgN rfl
theorem c41_22_e : c41_22 = .skip := rfl
theorem c41_23_e : c41_23 = .exit 2 := rfl
theorem c41_24_e : c41_24 = .block 3 c41_25 := rfl
theorem c41_25_r : RG (E0 mm) 41 c41_25 := rgN rfl
theorem c41_26_e : c41_26 = .seq c41_27 c41_28 := rfl
theorem c41_27_r : RG (E0 mm) 41 c41_27 := rgN rfl
theorem c41_28_e : c41_28 = .ret := rfl
abbrev R41 := (Bs)
def e41 : R41 → AV × Heap := fun x => (.v (.c (.d (.sc (.string (S x))))), [])
def K41_6 : Option (Ex × St) → Option (AV × Heap) := fun r => bodyD (E0 mm) [.tmp 2] 0 false (seqD (E0 mm) 41 0 (callW (E0 mm)) itW c41_15 (blockD 0 (r)))
def en41_6 : (Bs × Int × Int) → X := fun x => (none, [.v (.c (.d (.sc (.string (S x.1))))), .v (.c (.d (.sc (.int .i64 x.2.1)))), .v (.c (.d (.sc (.int .i64 x.2.2))))], [])
def K41_17 : Option (Ex × St) → Option (AV × Heap) := fun r => bodyD (E0 mm) [.tmp 2] 0 false (seqD (E0 mm) 41 0 (callW (E0 mm)) itW c41_26 (blockD 2 (r)))
def en41_17 : (Bs × Int × Int) → X := fun x => (none, [.v (.c (.d (.sc (.string (S x.1))))), .v (.c (.d (.sc (.int .i64 x.2.1)))), .v (.c (.d (.sc (.int .i64 x.2.2))))], [])
def j41_26 (s0 : Bs) (from3 to4 : Int) : Option R41 :=
  (bnd to4 s0.length).bind fun yk10 =>
    (bnd from3 yk10).bind fun yk12 =>
      some ((s0.take yk10).drop yk12)
theorem j41_26_t (s0 : Bs) (from3 to4 : Int)  (sl : Nat → AV) (zq0 : sl 0 = .v (.c (.d (.sc (.string (S s0)))))) (zq3 : sl 3 = .v (.c (.d (.sc (.int .i64 from3))))) (zq4 : sl 4 = .v (.c (.d (.sc (.int .i64 to4))))) :
    bodyD (E0 mm) [.tmp 2] 0 false (den (E0 mm) 41 0 (callW (E0 mm)) itW c41_26 none ⟨sl, []⟩) = (j41_26 s0 from3 to4).map e41 := by
  simp -implicitDefEqProofs only [j41_26, c41_26_e, c41_27_r, (show opsOf c41_27 = _ :: _ from rfl), Tryd.underlying9, zq0, zq3, zq4, setA, setB, za, zb, zc, zd, ze, zf, zg, zh, zi, zj, zk, zl, zm, zn, zo, zp, reduceCtorEq, zE, ↓reduceIte]
  refine brM (fun yc9 => ?_) (fun yk10 yc9 => ?_)
  · rw [yc9]; rfl
  · simp -implicitDefEqProofs only [zq0, zq3, zq4, yc9, setA, setB, za, zb, zc, zd, ze, zf, zg, zh, zi, zj, zk, zl, zm, zn, zo, zp, reduceCtorEq, zE, ↓reduceIte]
    refine brM (fun yc11 => ?_) (fun yk12 yc11 => ?_)
    · rw [yc11]; rfl
    · simp -implicitDefEqProofs only [c41_28_e, zq0, zq3, zq4, yc9, yc11, setA, setB, za, zb, zc, zd, ze, zf, zg, zh, zi, zj, zk, zl, zm, zn, zo, zp, reduceCtorEq, zE, ↓reduceIte]
      all_goals rfl
def j41_21 (s0 : Bs) (from3 to4 : Int) (t40 : Bool) : Option ((Bs × Int × Int) ⊕ R41) :=
  if t40 = true then
    some (.inl (s0, from3, (w64 (to4 - 1))))
  else
    (j41_26 s0 from3 to4).map .inr
theorem j41_21_t (s0 : Bs) (from3 to4 : Int) (t40 : Bool)  (sl : Nat → AV) (zq0 : sl 0 = .v (.c (.d (.sc (.string (S s0)))))) (zq3 : sl 3 = .v (.c (.d (.sc (.int .i64 from3))))) (zq4 : sl 4 = .v (.c (.d (.sc (.int .i64 to4))))) (zq40 : sl 40 = .v (.c (.d (.sc (.bool t40))))) :
    stepE (K41_17 (mm := mm)) (loopK 0 [(0, .keep), (3, .keep), (4, .keep)] (seqD (E0 mm) 41 0 (callW (E0 mm)) itW c41_24 (den (E0 mm) 41 0 (callW (E0 mm)) itW c41_21 none ⟨sl, []⟩))) = (j41_21 s0 from3 to4 t40).map (sm en41_17 e41) := by
  simp -implicitDefEqProofs only [j41_21, (show c41_21 = Code.cond _ c41_22 c41_23 from rfl), zq0, zq3, zq4, zq40, setA, setB, za, zb, zc, zd, ze, zf, zg, zh, zi, zj, zk, zl, zm, zn, zo, zp, reduceCtorEq, zE, ↓reduceIte]
  refine brB (fun yc8 => ?_) (fun yc8 => ?_)
  · simp -implicitDefEqProofs only [c41_22_e, c41_24_e, c41_25_r, (show opsOf c41_25 = _ :: _ from rfl), zq0, zq3, zq4, zq40, yc8, setA, setB, za, zb, zc, zd, ze, zf, zg, zh, zi, zj, zk, zl, zm, zn, zo, zp, reduceCtorEq, zE, ↓reduceIte]
    all_goals rfl
  · simp -implicitDefEqProofs only [c41_23_e, K41_17, zq0, zq3, zq4, zq40, yc8, setA, setB, za, zb, zc, zd, ze, zf, zg, zh, zi, zj, zk, zl, zm, zn, zo, zp, reduceCtorEq, zE, ↓reduceIte]
    exact mi (j41_26_t s0 from3 to4 _ (by exact zq0) (by exact zq3) (by exact zq4))
def s41_17 (s0 : Bs) (from3 to4 : Int) : Option ((Bs × Int × Int) ⊕ R41) :=
  if (decide (from3 < to4)) = true then
    if 0 ≤ (w64 (to4 - 1)) ∧ (w64 (to4 - 1)) < (s0.length : Int) then
      if ((s0.getD (w64 (to4 - 1)).toNat 0) == (32 : UInt8)) = true then
        j41_21 s0 from3 to4 true
      else
        j41_21 s0 from3 to4 ((s0.getD (w64 (to4 - 1)).toNat 0) == (9 : UInt8))
    else none
  else
    j41_21 s0 from3 to4 false
theorem s41_17_t (s0 : Bs) (from3 to4 : Int) :
    stepE (K41_17 (mm := mm)) (loopF (E0 mm) 41 0 (callW (E0 mm)) itW c41_18 [(0, .keep), (3, .keep), (4, .keep)] (none, [.v (.c (.d (.sc (.string (S s0))))), .v (.c (.d (.sc (.int .i64 from3)))), .v (.c (.d (.sc (.int .i64 to4))))], [])) = (s41_17 s0 from3 to4).map (sm en41_17 e41) := by
  simp -implicitDefEqProofs only [s41_17, loopF_eq, c41_18_e, c41_19_e, c41_20_r, (show opsOf c41_20 = _ :: _ from rfl), setA, setB, za, zb, zc, zd, ze, zf, zg, zh, zi, zj, zk, zl, zm, zn, zo, zp, reduceCtorEq, zE, ↓reduceIte]
  refine brB (fun yc5 => ?_) (fun yc5 => ?_)
  · simp -implicitDefEqProofs only [Tryd.underlying9, yc5, setA, setB, za, zb, zc, zd, ze, zf, zg, zh, zi, zj, zk, zl, zm, zn, zo, zp, reduceCtorEq, zE, ↓reduceIte]
    refine brP (fun yc6 => ?_) (fun yc6 => ?_)
    · simp -implicitDefEqProofs only [yc5, yc6, setA, setB, za, zb, zc, zd, ze, zf, zg, zh, zi, zj, zk, zl, zm, zn, zo, zp, reduceCtorEq, zE, ↓reduceIte]
      refine brB (fun yc7 => ?_) (fun yc7 => ?_)
      · simp -implicitDefEqProofs only [yc5, yc6, yc7, setA, setB, za, zb, zc, zd, ze, zf, zg, zh, zi, zj, zk, zl, zm, zn, zo, zp, reduceCtorEq, zE, ↓reduceIte]
        exact j41_21_t s0 from3 to4 true _ (by rfl) (by rfl) (by rfl) (by rfl)
      · simp -implicitDefEqProofs only [Tryd.underlying9, yc5, yc6, yc7, setA, setB, za, zb, zc, zd, ze, zf, zg, zh, zi, zj, zk, zl, zm, zn, zo, zp, reduceCtorEq, zE, ↓reduceIte]
        exact j41_21_t s0 from3 to4 ((s0.getD (w64 (to4 - 1)).toNat 0) == (9 : UInt8)) _ (by rfl) (by rfl) (by rfl) (by rfl)
    · rw [if_neg yc6]; rfl
  · simp -implicitDefEqProofs only [yc5, setA, setB, za, zb, zc, zd, ze, zf, zg, zh, zi, zj, zk, zl, zm, zn, zo, zp, reduceCtorEq, zE, ↓reduceIte]
    exact j41_21_t s0 from3 to4 false _ (by rfl) (by rfl) (by rfl) (by rfl)
def l41_17 (s0 : Bs) (from3 to4 : Int) : Option R41 := iter (fun x : (Bs × Int × Int) => s41_17 x.1 x.2.1 x.2.2) (s0, from3, to4)
theorem l41_17_t (s0 : Bs) (from3 to4 : Int) : bodyD (E0 mm) [.tmp 2] 0 false (seqD (E0 mm) 41 0 (callW (E0 mm)) itW c41_26 (blockD 2 (itW (loopF (E0 mm) 41 0 (callW (E0 mm)) itW c41_18 [(0, .keep), (3, .keep), (4, .keep)]) (none, [.v (.c (.d (.sc (.string (S s0))))), .v (.c (.d (.sc (.int .i64 from3)))), .v (.c (.d (.sc (.int .i64 to4))))], [])))) = (l41_17 s0 from3 to4).map e41 :=
  it_sim (K := (K41_17 (mm := mm))) rfl (enc := en41_17) (fun x => s41_17_t x.1 x.2.1 x.2.2) (s0, from3, to4)
def j41_15 (s0 : Bs) (from3 to4 : Int) : Option R41 :=
  l41_17 s0 from3 to4
theorem j41_15_t (s0 : Bs) (from3 to4 : Int)  (sl : Nat → AV) (zq0 : sl 0 = .v (.c (.d (.sc (.string (S s0)))))) (zq3 : sl 3 = .v (.c (.d (.sc (.int .i64 from3))))) (zq4 : sl 4 = .v (.c (.d (.sc (.int .i64 to4))))) :
    bodyD (E0 mm) [.tmp 2] 0 false (den (E0 mm) 41 0 (callW (E0 mm)) itW c41_15 none ⟨sl, []⟩) = (j41_15 s0 from3 to4).map e41 := by
  simp -implicitDefEqProofs only [j41_15, c41_15_e, c41_16_e, c41_17_l, zq0, zq3, zq4, setA, setB, za, zb, zc, zd, ze, zf, zg, zh, zi, zj, zk, zl, zm, zn, zo, zp, reduceCtorEq, zE, ↓reduceIte]
  exact l41_17_t s0 from3 to4
def j41_10 (s0 : Bs) (from3 to4 : Int) (t21 : Bool) : Option ((Bs × Int × Int) ⊕ R41) :=
  if t21 = true then
    some (.inl (s0, (w64 (from3 + 1)), to4))
  else
    (j41_15 s0 from3 to4).map .inr
theorem j41_10_t (s0 : Bs) (from3 to4 : Int) (t21 : Bool)  (sl : Nat → AV) (zq0 : sl 0 = .v (.c (.d (.sc (.string (S s0)))))) (zq3 : sl 3 = .v (.c (.d (.sc (.int .i64 from3))))) (zq4 : sl 4 = .v (.c (.d (.sc (.int .i64 to4))))) (zq21 : sl 21 = .v (.c (.d (.sc (.bool t21))))) :
    stepE (K41_6 (mm := mm)) (loopK 0 [(0, .keep), (3, .keep), (4, .keep)] (seqD (E0 mm) 41 0 (callW (E0 mm)) itW c41_13 (den (E0 mm) 41 0 (callW (E0 mm)) itW c41_10 none ⟨sl, []⟩))) = (j41_10 s0 from3 to4 t21).map (sm en41_6 e41) := by
  simp -implicitDefEqProofs only [j41_10, (show c41_10 = Code.cond _ c41_11 c41_12 from rfl), zq0, zq3, zq4, zq21, setA, setB, za, zb, zc, zd, ze, zf, zg, zh, zi, zj, zk, zl, zm, zn, zo, zp, reduceCtorEq, zE, ↓reduceIte]
  refine brB (fun yc4 => ?_) (fun yc4 => ?_)
  · simp -implicitDefEqProofs only [c41_11_e, c41_13_e, c41_14_r, (show opsOf c41_14 = _ :: _ from rfl), zq0, zq3, zq4, zq21, yc4, setA, setB, za, zb, zc, zd, ze, zf, zg, zh, zi, zj, zk, zl, zm, zn, zo, zp, reduceCtorEq, zE, ↓reduceIte]
    all_goals rfl
  · simp -implicitDefEqProofs only [c41_12_e, K41_6, zq0, zq3, zq4, zq21, yc4, setA, setB, za, zb, zc, zd, ze, zf, zg, zh, zi, zj, zk, zl, zm, zn, zo, zp, reduceCtorEq, zE, ↓reduceIte]
    exact mi (j41_15_t s0 from3 to4 _ (by exact zq0) (by exact zq3) (by exact zq4))
def s41_6 (s0 : Bs) (from3 to4 : Int) : Option ((Bs × Int × Int) ⊕ R41) :=
  if (decide (from3 < to4)) = true then
    if 0 ≤ from3 ∧ from3 < (s0.length : Int) then
      if ((s0.getD from3.toNat 0) == (32 : UInt8)) = true then
        j41_10 s0 from3 to4 true
      else
        j41_10 s0 from3 to4 ((s0.getD from3.toNat 0) == (9 : UInt8))
    else none
  else
    j41_10 s0 from3 to4 false
theorem s41_6_t (s0 : Bs) (from3 to4 : Int) :
    stepE (K41_6 (mm := mm)) (loopF (E0 mm) 41 0 (callW (E0 mm)) itW c41_7 [(0, .keep), (3, .keep), (4, .keep)] (none, [.v (.c (.d (.sc (.string (S s0))))), .v (.c (.d (.sc (.int .i64 from3)))), .v (.c (.d (.sc (.int .i64 to4))))], [])) = (s41_6 s0 from3 to4).map (sm en41_6 e41) := by
  simp -implicitDefEqProofs only [s41_6, loopF_eq, c41_7_e, c41_8_e, c41_9_r, (show opsOf c41_9 = _ :: _ from rfl), setA, setB, za, zb, zc, zd, ze, zf, zg, zh, zi, zj, zk, zl, zm, zn, zo, zp, reduceCtorEq, zE, ↓reduceIte]
  refine brB (fun yc1 => ?_) (fun yc1 => ?_)
  · simp -implicitDefEqProofs only [Tryd.underlying9, yc1, setA, setB, za, zb, zc, zd, ze, zf, zg, zh, zi, zj, zk, zl, zm, zn, zo, zp, reduceCtorEq, zE, ↓reduceIte]
    refine brP (fun yc2 => ?_) (fun yc2 => ?_)
    · simp -implicitDefEqProofs only [yc1, yc2, setA, setB, za, zb, zc, zd, ze, zf, zg, zh, zi, zj, zk, zl, zm, zn, zo, zp, reduceCtorEq, zE, ↓reduceIte]
      refine brB (fun yc3 => ?_) (fun yc3 => ?_)
      · simp -implicitDefEqProofs only [yc1, yc2, yc3, setA, setB, za, zb, zc, zd, ze, zf, zg, zh, zi, zj, zk, zl, zm, zn, zo, zp, reduceCtorEq, zE, ↓reduceIte]
        exact j41_10_t s0 from3 to4 true _ (by rfl) (by rfl) (by rfl) (by rfl)
      · simp -implicitDefEqProofs only [Tryd.underlying9, yc1, yc2, yc3, setA, setB, za, zb, zc, zd, ze, zf, zg, zh, zi, zj, zk, zl, zm, zn, zo, zp, reduceCtorEq, zE, ↓reduceIte]
        exact j41_10_t s0 from3 to4 ((s0.getD from3.toNat 0) == (9 : UInt8)) _ (by rfl) (by rfl) (by rfl) (by rfl)
    · rw [if_neg yc2]; rfl
  · simp -implicitDefEqProofs only [yc1, setA, setB, za, zb, zc, zd, ze, zf, zg, zh, zi, zj, zk, zl, zm, zn, zo, zp, reduceCtorEq, zE, ↓reduceIte]
    exact j41_10_t s0 from3 to4 false _ (by rfl) (by rfl) (by rfl) (by rfl)
def l41_6 (s0 : Bs) (from3 to4 : Int) : Option R41 := iter (fun x : (Bs × Int × Int) => s41_6 x.1 x.2.1 x.2.2) (s0, from3, to4)
theorem l41_6_t (s0 : Bs) (from3 to4 : Int) : bodyD (E0 mm) [.tmp 2] 0 false (seqD (E0 mm) 41 0 (callW (E0 mm)) itW c41_15 (blockD 0 (itW (loopF (E0 mm) 41 0 (callW (E0 mm)) itW c41_7 [(0, .keep), (3, .keep), (4, .keep)]) (none, [.v (.c (.d (.sc (.string (S s0))))), .v (.c (.d (.sc (.int .i64 from3)))), .v (.c (.d (.sc (.int .i64 to4))))], [])))) = (l41_6 s0 from3 to4).map e41 :=
  it_sim (K := (K41_6 (mm := mm))) rfl (enc := en41_6) (fun x => s41_6_t x.1 x.2.1 x.2.2) (s0, from3, to4)
def m41 (s : Bs) : Option R41 :=
  l41_6 s (0 : Int) (s.length : Int)
theorem f41_t (s : Bs) :
    callW (E0 mm) 41 [.c (.d (.sc (.string (S s))))] [] = (m41 s).map e41 := by
  rw [callW_run (body := c41_0) (res := [.tmp 2]) Tryd.func41 rfl rfl (by kernel_rfl)]
  simp -implicitDefEqProofs only [m41, slots1, c41_0_e, c41_1_r, (show opsOf c41_1 = _ :: _ from rfl), c41_2_e, c41_3_r, (show opsOf c41_3 = _ :: _ from rfl), Tryd.underlying9, c41_4_e, c41_5_e, c41_6_l, setA, setB, za, zb, zc, zd, ze, zf, zg, zh, zi, zj, zk, zl, zm, zn, zo, zp, reduceCtorEq, zE, ↓reduceIte]
  exact l41_6_t s (0 : Int) (s.length : Int)
noncomputable def c22_0 : Code := bodyOf Tryd.f22
def c22_1 := cA c22_0
def c22_2 := cB c22_0
def c22_3 := cA c22_2
def c22_4 := cB c22_2
def c22_5 := cA c22_4
def c22_6 := cB c22_4
def c22_7 := cA c22_6
def c22_8 := cB c22_6
def c22_9 := cA c22_8
def c22_10 := cA c22_9
def c22_11 := cB c22_9
def c22_12 := cA c22_11
def c22_13 := cA c22_12
def c22_14 := cA c22_13
def c22_15 := cA c22_14
def c22_16 := cB c22_14
def c22_17 := cA c22_16
def c22_18 := cB c22_16
def c22_19 := cB c22_13
def c22_20 := cA c22_19
def c22_21 := cA c22_20
def c22_22 := cA c22_21
def c22_23 := cB c22_21
def c22_24 := cA c22_23
def c22_25 := cA c22_24
def c22_26 := cB c22_24
def c22_27 := cA c22_26
def c22_28 := cA c22_27
def c22_29 := cB c22_27
def c22_30 := cB c22_26
def c22_31 := cB c22_23
def c22_32 := cA c22_31
def c22_33 := cA c22_32
def c22_34 := cB c22_32
def c22_35 := cA c22_34
def c22_36 := cA c22_35
def c22_37 := cA c22_36
def c22_38 := cB c22_36
def c22_39 := cA c22_38
def c22_40 := cA c22_39
def c22_41 := cB c22_39
def c22_42 := cB c22_38
def c22_43 := cB c22_35
def c22_44 := cA c22_43
def c22_45 := cB c22_43
def c22_46 := cA c22_45
def c22_47 := cB c22_45
def c22_48 := cA c22_47
def c22_49 := cA c22_48
def c22_50 := cB c22_48
def c22_51 := cB c22_47
def c22_52 := cB c22_34
def c22_53 := cB c22_31
def c22_54 := cA c22_53
def c22_55 := cB c22_53
def c22_56 := cA c22_55
def c22_57 := cA c22_56
def c22_58 := cB c22_56
def c22_59 := cA c22_58
def c22_60 := cA c22_59
def c22_61 := cB c22_59
def c22_62 := cA c22_61
def c22_63 := cB c22_61
def c22_64 := cA c22_63
def c22_65 := cB c22_63
def c22_66 := cA c22_65
def c22_67 := cA c22_66
def c22_68 := cB c22_66
def c22_69 := cB c22_65
def c22_70 := cA c22_69
def c22_71 := cB c22_69
def c22_72 := cB c22_58
def c22_73 := cA c22_72
def c22_74 := cB c22_72
def c22_75 := cA c22_74
def c22_76 := cA c22_75
def c22_77 := cB c22_75
def c22_78 := cA c22_77
def c22_79 := cA c22_78
def c22_80 := cB c22_78
def c22_81 := cB c22_77
def c22_82 := cA c22_81
def c22_83 := cB c22_81
def c22_84 := cA c22_83
def c22_85 := cB c22_83
def c22_86 := cA c22_85
def c22_87 := cB c22_85
def c22_88 := cB c22_74
def c22_89 := cA c22_88
def c22_90 := cB c22_88
def c22_91 := cA c22_90
def c22_92 := cA c22_91
def c22_93 := cB c22_91
def c22_94 := cA c22_93
def c22_95 := cB c22_93
def c22_96 := cA c22_95
def c22_97 := cB c22_95
def c22_98 := cA c22_97
def c22_99 := cB c22_97
def c22_100 := cA c22_99
def c22_101 := cB c22_99
def c22_102 := cB c22_90
def c22_103 := cA c22_102
def c22_104 := cB c22_102
def c22_105 := cA c22_104
def c22_106 := cA c22_105
def c22_107 := cA c22_106
def c22_108 := cB c22_106
def c22_109 := cA c22_108
def c22_110 := cA c22_109
def c22_111 := cB c22_109
def c22_112 := cB c22_108
def c22_113 := cB c22_105
def c22_114 := cA c22_113
def c22_115 := cB c22_113
def c22_116 := cA c22_115
def c22_117 := cB c22_115
def c22_118 := cB c22_104
def c22_119 := cA c22_118
def c22_120 := cB c22_118
def c22_121 := cA c22_120
def c22_122 := cA c22_121
def c22_123 := cA c22_122
def c22_124 := cB c22_122
def c22_125 := cA c22_124
def c22_126 := cA c22_125
def c22_127 := cB c22_125
def c22_128 := cB c22_124
def c22_129 := cB c22_121
def c22_130 := cA c22_129
def c22_131 := cB c22_129
def c22_132 := cB c22_120
def c22_133 := cB c22_19
def c22_134 := cB c22_8
def c22_135 := cA c22_134
def c22_136 := cB c22_134
theorem c22_0_e : c22_0 = .seq c22_1 c22_2 := rfl
theorem c22_1_r : RG (E0 mm) 22 c22_1 := rgN rfl
theorem c22_2_e : c22_2 = .seq c22_3 c22_4 := rfl
theorem c22_3_r : RG (E0 mm) 22 c22_3 := rgN rfl
theorem c22_4_e : c22_4 = .seq c22_5 c22_6 := rfl
theorem c22_5_r : RG (E0 mm) 22 c22_5 := rgN rfl
theorem c22_6_e : c22_6 = .seq c22_7 c22_8 := rfl
theorem c22_7_r : RG (E0 mm) 22 c22_7 := rgN rfl
theorem c22_8_e : c22_8 = .seq c22_9 c22_134 := rfl
theorem c22_9_e : c22_9 = .seq c22_10 c22_11 := rfl
theorem c22_10_r : RG (E0 mm) 22 c22_10 := rgN rfl
theorem c22_11_e : c22_11 = .block 0 c22_12 := rfl
theorem c22_12_l (m : Nat) (st : St) : den (E0 mm) 22 m (callW (E0 mm)) itW c22_12 none st = loopD itW (loopF (E0 mm) 22 m (callW (E0 mm)) itW c22_13 [(0, .keep), (5, .own), (6, .keep), (7, .keep), (8, .keep), (9, .keep), (10, .keep)]) (canon m [(0, .keep), (5, .own), (6, .keep), (7, .keep), (8, .keep), (9, .keep), (10, .keep)] st) := rfl
theorem c22_13_e : c22_13 = .seq c22_14 c22_19 := rfl
theorem c22_14_e : c22_14 = .seq c22_15 c22_16 := rfl
theorem c22_15_r : RG (E0 mm) 22 c22_15 := rgN rfl
theorem c22_17_e : c22_17 = .skip := rfl
theorem c22_18_e : c22_18 = .exit 0 := rfl
theorem c22_19_e : c22_19 = .seq c22_20 c22_133 := rfl
theorem c22_20_e : c22_20 = .block 1 c22_21 := rfl
theorem c22_21_e : c22_21 = .seq c22_22 c22_23 := rfl
theorem c22_22_r : RG (E0 mm) 22 c22_22 := rgN rfl
theorem c22_23_e : c22_23 = .seq c22_24 c22_31 := rfl
theorem c22_24_e : c22_24 = .seq c22_25 c22_26 := rfl
theorem c22_25_r : RG (E0 mm) 22 c22_25 := rgN rfl
theorem c22_27_e : c22_27 = .seq c22_28 c22_29 := rfl
theorem c22_28_r : RG (E0 mm) 22 c22_28 := rgN rfl
theorem c22_29_e : c22_29 = .ret := rfl
theorem c22_30_e : c22_30 = .skip := rfl
theorem c22_31_e : c22_31 = .seq c22_32 c22_53 := rfl
theorem c22_32_e : c22_32 = .seq c22_33 c22_34 := rfl
theorem c22_33_r : RG (E0 mm) 22 c22_33 := rgN rfl
theorem c22_35_e : c22_35 = .seq c22_36 c22_43 := rfl
theorem c22_36_e : c22_36 = .seq c22_37 c22_38 := rfl
theorem c22_37_r : RG (E0 mm) 22 c22_37 := rgN rfl
theorem c22_39_e : c22_39 = .seq c22_40 c22_41 := rfl
theorem c22_40_r : RG (E0 mm) 22 c22_40 := rgN rfl
theorem c22_41_e : c22_41 = .ret := rfl
theorem c22_42_e : c22_42 = .skip := rfl
theorem c22_43_e : c22_43 = .seq c22_44 c22_45 := rfl
theorem c22_44_r : RG (E0 mm) 22 c22_44 := rgN rfl
theorem c22_45_e : c22_45 = .seq c22_46 c22_47 := rfl
theorem c22_46_r : RG (E0 mm) 22 c22_46 := rgN rfl
theorem c22_48_e : c22_48 = .seq c22_49 c22_50 := rfl
theorem c22_49_r : RG (E0 mm) 22 c22_49 := rgN rfl
theorem c22_50_e : c22_50 = .ret := rfl
theorem c22_51_e : c22_51 = .skip := rfl
theorem c22_52_e : c22_52 = .skip := rfl
theorem c22_53_e : c22_53 = .seq c22_54 c22_55 := rfl
theorem c22_54_r : RG (E0 mm) 22 c22_54 := rgN rfl
theorem c22_55_e : c22_55 = .block 2 c22_56 := rfl
theorem c22_56_e : c22_56 = .seq c22_57 c22_58 := rfl
theorem c22_57_r : RG (E0 mm) 22 c22_57 := rgN rfl
theorem c22_59_e : c22_59 = .seq c22_60 c22_61 := rfl
theorem c22_60_r : RG (E0 mm) 22 c22_60 := rgN rfl
theorem c22_62_r : RG (E0 mm) 22 c22_62 := rgN rfl
theorem c22_63_e : c22_63 = .seq c22_64 c22_65 := rfl
theorem c22_64_r : RG (E0 mm) 22 c22_64 := rgN rfl
theorem c22_66_e : c22_66 = .seq c22_67 c22_68 := rfl
theorem c22_67_r : RG (E0 mm) 22 c22_67 := rgN rfl
theorem c22_68_r : RG (E0 mm) 22 c22_68 := rgN rfl
theorem c22_69_e : c22_69 = .seq c22_70 c22_71 := rfl
theorem c22_70_r : RG (E0 mm) 22 c22_70 := rgN rfl
theorem c22_71_e : c22_71 = .ret := rfl
theorem c22_72_e : c22_72 = .seq c22_73 c22_74 := rfl
theorem c22_73_r : RG (E0 mm) 22 c22_73 := rgN rfl
theorem c22_75_e : c22_75 = .seq c22_76 c22_77 := rfl
theorem c22_76_r : RG (E0 mm) 22 c22_76 := rgN rfl
theorem c22_78_e : c22_78 = .seq c22_79 c22_80 := rfl
theorem c22_79_r : RG (E0 mm) 22 c22_79 := rgN rfl
theorem c22_80_r : RG (E0 mm) 22 c22_80 := rgN rfl
theorem c22_81_e : c22_81 = .seq c22_82 c22_83 := rfl
theorem c22_82_r : RG (E0 mm) 22 c22_82 := rgN rfl
theorem c22_84_r : RG (E0 mm) 22 c22_84 := rgN rfl
theorem c22_85_e : c22_85 = .seq c22_86 c22_87 := rfl
theorem c22_86_r : RG (E0 mm) 22 c22_86 := rgN rfl
theorem c22_87_e : c22_87 = .ret := rfl
theorem c22_88_e : c22_88 = .seq c22_89 c22_90 := rfl
theorem c22_89_r : RG (E0 mm) 22 c22_89 := rgN rfl
theorem c22_91_e : c22_91 = .seq c22_92 c22_93 := rfl
theorem c22_92_r : RG (E0 mm) 22 c22_92 := rgN rfl
theorem c22_94_r : RG (E0 mm) 22 c22_94 := rgN rfl
theorem c22_95_e : c22_95 = .seq c22_96 c22_97 := rfl
theorem c22_96_r : RG (E0 mm) 22 c22_96 := rgN rfl
theorem c22_98_r : RG (E0 mm) 22 c22_98 := rgN rfl
theorem c22_99_e : c22_99 = .seq c22_100 c22_101 := rfl
theorem c22_100_r : RG (E0 mm) 22 c22_100 := rgN rfl
theorem c22_101_e : c22_101 = .ret := rfl
theorem c22_102_e : c22_102 = .seq c22_103 c22_104 := rfl
theorem c22_103_r : RG (E0 mm) 22 c22_103 := rgN rfl
theorem c22_105_e : c22_105 = .seq c22_106 c22_113 := rfl
theorem c22_106_e : c22_106 = .seq c22_107 c22_108 := rfl
theorem c22_107_r : RG (E0 mm) 22 c22_107 := rgN rfl
theorem c22_109_e : c22_109 = .seq c22_110 c22_111 := rfl
theorem c22_110_r : RG (E0 mm) 22 c22_110 := rgN rfl
theorem c22_111_e : c22_111 = .ret := rfl
theorem c22_112_e : c22_112 = .skip := rfl
theorem c22_113_e : c22_113 = .seq c22_114 c22_115 := rfl
theorem c22_114_r : RG (E0 mm) 22 c22_114 := rgN rfl
theorem c22_115_e : c22_115 = .seq c22_116 c22_117 := rfl
theorem c22_116_r : RG (E0 mm) 22 c22_116 := rgN rfl
theorem c22_117_r : RG (E0 mm) 22 c22_117 := rgN rfl
theorem c22_118_e : c22_118 = .seq c22_119 c22_120 := rfl
theorem c22_119_r : RG (E0 mm) 22 c22_119 := rgN rfl
theorem c22_121_e : c22_121 = .seq c22_122 c22_129 := rfl
theorem c22_122_e : c22_122 = .seq c22_123 c22_124 := rfl
theorem c22_123_r : RG (E0 mm) 22 c22_123 := rgN rfl
theorem c22_125_e : c22_125 = .seq c22_126 c22_127 := rfl
theorem c22_126_r : RG (E0 mm) 22 c22_126 := rgN rfl
theorem c22_127_e : c22_127 = .ret := rfl
theorem c22_128_e : c22_128 = .skip := rfl
theorem c22_129_e : c22_129 = .seq c22_130 c22_131 := rfl
theorem c22_130_r : RG (E0 mm) 22 c22_130 := rgN rfl
theorem c22_131_e : c22_131 = .ret := rfl
theorem c22_132_e : c22_132 = .skip := rfl
theorem c22_133_r : RG (E0 mm) 22 c22_133 := rgN rfl
theorem c22_134_e : c22_134 = .seq c22_135 c22_136 := rfl
theorem c22_135_r : RG (E0 mm) 22 c22_135 := rgN rfl
theorem c22_136_e : c22_136 = .ret := rfl
abbrev R22 := (Bool × List (Bs × Bs) × Int × Int) ⊕ (Bool × List (Bs × Bs) × Int × Int)
def e22 : R22 → AV × Heap := fun x => match x with
  | .inl x => (.tup [.c (.d (.lst x.1 (enL enSS x.2.1))), .c (.d (.sc (.int .i64 x.2.2.1))), .c (.d (.sc (.int .i64 x.2.2.2)))], [])
  | .inr x => (.tup [.c (.own x.1 (enL enSS x.2.1) 0), .c (.d (.sc (.int .i64 x.2.2.1))), .c (.d (.sc (.int .i64 x.2.2.2)))], [.row x.2.1.length (rz x.1 2)])
def K22_12 : Option (Ex × St) → Option (AV × Heap) := fun r => bodyD (E0 mm) [.tmp 2, .tmp 3, .tmp 4] 0 false (seqD (E0 mm) 22 0 (callW (E0 mm)) itW c22_134 (blockD 0 (r)))
def en22_12 : (Bool × List UInt8 × Bool × List (Bs × Bs) × Bs × Bs × Int × Int × Int) → X := fun x => (none, [.v (.c (.d (.lst x.1 (enL enB x.2.1)))), .v (.c (.own x.2.2.1 (enL enSS x.2.2.2.1) 0)), .v (.c (.d (.sc (.string (S x.2.2.2.2.1))))), .v (.c (.d (.sc (.string (S x.2.2.2.2.2.1))))), .v (.c (.d (.sc (.int .i64 x.2.2.2.2.2.2.1)))), .v (.c (.d (.sc (.int .i64 x.2.2.2.2.2.2.2.1)))), .v (.c (.d (.sc (.int .i64 x.2.2.2.2.2.2.2.2))))], [.row x.2.2.2.1.length (rz x.2.2.1 2)])
def j22_133 (b0_0 : Bool) (b0_1 : List UInt8) (l5_0 : Bool) (l5_1 : List (Bs × Bs)) (name6 value7 : Bs) (part8 long9 at10 : Int) : Option ((Bool × List UInt8 × Bool × List (Bs × Bs) × Bs × Bs × Int × Int × Int) ⊕ R22) :=
  some (.inl (b0_0, b0_1, l5_0, l5_1, name6, value7, part8, long9, (w64 (at10 + 1))))
theorem j22_133_t (b0_0 : Bool) (b0_1 : List UInt8) (l5_0 : Bool) (l5_1 : List (Bs × Bs)) (name6 value7 : Bs) (part8 long9 at10 : Int)  (sl : Nat → AV) (zq0 : sl 0 = .v (.c (.d (.lst b0_0 (enL enB b0_1))))) (zq5 : sl 5 = .v (.c (.own l5_0 (enL enSS l5_1) 0))) (zq6 : sl 6 = .v (.c (.d (.sc (.string (S name6)))))) (zq7 : sl 7 = .v (.c (.d (.sc (.string (S value7)))))) (zq8 : sl 8 = .v (.c (.d (.sc (.int .i64 part8))))) (zq9 : sl 9 = .v (.c (.d (.sc (.int .i64 long9))))) (zq10 : sl 10 = .v (.c (.d (.sc (.int .i64 at10))))) :
    stepE (K22_12 (mm := mm)) (loopK 0 [(0, .keep), (5, .own), (6, .keep), (7, .keep), (8, .keep), (9, .keep), (10, .keep)] (den (E0 mm) 22 0 (callW (E0 mm)) itW c22_133 none ⟨sl, [.row l5_1.length (rz l5_0 2)]⟩)) = (j22_133 b0_0 b0_1 l5_0 l5_1 name6 value7 part8 long9 at10).map (sm en22_12 e22) := by
  simp -implicitDefEqProofs only [j22_133, c22_133_r, (show opsOf c22_133 = _ :: _ from rfl), zq0, zq5, zq6, zq7, zq8, zq9, zq10, setA, setB, za, zb, zc, zd, ze, zf, zg, zh, zi, zj, zk, zl, zm, zn, zo, zp, reduceCtorEq, zE, ↓reduceIte]
  all_goals rfl
def j22_53 (b0_0 : Bool) (b0_1 : List UInt8) (l5_0 : Bool) (l5_1 : List (Bs × Bs)) (name6 value7 : Bs) (part8 long9 at10 : Int) (c11 : UInt8) : Option ((Bool × List UInt8 × Bool × List (Bs × Bs) × Bs × Bs × Int × Int × Int) ⊕ R22) :=
  if (part8 == 0) = true then
    if (c11 == (13 : UInt8)) = true then
      j22_133 b0_0 b0_1 l5_0 l5_1 name6 value7 (4 : Int) long9 at10
    else
      (m39 c11).bind fun yr13 =>
        if yr13 = true then
          j22_133 b0_0 b0_1 l5_0 l5_1 ([c11] : List UInt8) value7 (1 : Int) long9 at10
        else
          some (.inr (.inl (true, ([] : List (Bs × Bs)), (0 : Int), (20 : Int))))
  else
    if (part8 == 1) = true then
      if (c11 == (58 : UInt8)) = true then
        j22_133 b0_0 b0_1 l5_0 l5_1 name6 ([] : Bs) (2 : Int) long9 at10
      else
        (m39 c11).bind fun yr18 =>
          if yr18 = true then
            if name6.length + ([c11] : List UInt8).length < 9223372036854775808 then
              j22_133 b0_0 b0_1 l5_0 l5_1 (name6 ++ ([c11] : List UInt8)) value7 part8 long9 at10
            else none
          else
            some (.inr (.inl (true, ([] : List (Bs × Bs)), (0 : Int), (20 : Int))))
    else
      if (part8 == 2) = true then
        if (c11 == (13 : UInt8)) = true then
          j22_133 b0_0 b0_1 l5_0 l5_1 name6 value7 (3 : Int) long9 at10
        else
          (m40 c11).bind fun yr24 =>
            if yr24 = true then
              if value7.length + ([c11] : List UInt8).length < 9223372036854775808 then
                j22_133 b0_0 b0_1 l5_0 l5_1 name6 (value7 ++ ([c11] : List UInt8)) part8 long9 at10
              else none
            else
              some (.inr (.inl (true, ([] : List (Bs × Bs)), (0 : Int), (20 : Int))))
      else
        if (part8 == 3) = true then
          if (c11 == (10 : UInt8)) = true then
            (m41 value7).bind fun yr30 =>
              if (l5_1.length + 1) * 32 ≤ 140737488355328 then
                j22_133 b0_0 b0_1 false (l5_1 ++ ([(name6, yr30)] : List (Bs × Bs))) name6 value7 (0 : Int) (0 : Int) at10
              else none
          else
            some (.inr (.inl (true, ([] : List (Bs × Bs)), (0 : Int), (20 : Int))))
        else
          if (part8 == 4) = true then
            if (c11 == (10 : UInt8)) = true then
              some (.inr (.inr (l5_0, l5_1, (w64 (at10 + 1)), (0 : Int))))
            else
              some (.inr (.inl (true, ([] : List (Bs × Bs)), (0 : Int), (20 : Int))))
          else
            j22_133 b0_0 b0_1 l5_0 l5_1 name6 value7 part8 long9 at10
theorem j22_53_t (b0_0 : Bool) (b0_1 : List UInt8) (l5_0 : Bool) (l5_1 : List (Bs × Bs)) (name6 value7 : Bs) (part8 long9 at10 : Int) (c11 : UInt8)  (sl : Nat → AV) (zq0 : sl 0 = .v (.c (.d (.lst b0_0 (enL enB b0_1))))) (zq5 : sl 5 = .v (.c (.own l5_0 (enL enSS l5_1) 0))) (zq6 : sl 6 = .v (.c (.d (.sc (.string (S name6)))))) (zq7 : sl 7 = .v (.c (.d (.sc (.string (S value7)))))) (zq8 : sl 8 = .v (.c (.d (.sc (.int .i64 part8))))) (zq9 : sl 9 = .v (.c (.d (.sc (.int .i64 long9))))) (zq10 : sl 10 = .v (.c (.d (.sc (.int .i64 at10))))) (zq11 : sl 11 = .v (.c (.d (.sc (.int .u8 ((c11).toNat : Int)))))) :
    stepE (K22_12 (mm := mm)) (loopK 0 [(0, .keep), (5, .own), (6, .keep), (7, .keep), (8, .keep), (9, .keep), (10, .keep)] (seqD (E0 mm) 22 0 (callW (E0 mm)) itW c22_133 (blockD 1 (den (E0 mm) 22 0 (callW (E0 mm)) itW c22_53 none ⟨sl, [.row l5_1.length (rz l5_0 2)]⟩)))) = (j22_53 b0_0 b0_1 l5_0 l5_1 name6 value7 part8 long9 at10 c11).map (sm en22_12 e22) := by
  simp -implicitDefEqProofs only [j22_53, c22_53_e, c22_54_r, (show opsOf c22_54 = _ :: _ from rfl), c22_55_e, c22_56_e, c22_57_r, (show opsOf c22_57 = _ :: _ from rfl), (show c22_58 = Code.cond _ c22_59 c22_72 from rfl), zq0, zq5, zq6, zq7, zq8, zq9, zq10, zq11, setA, setB, za, zb, zc, zd, ze, zf, zg, zh, zi, zj, zk, zl, zm, zn, zo, zp, reduceCtorEq, zE, ↓reduceIte]
  refine brB (fun yc10 => ?_) (fun yc10 => ?_)
  · simp -implicitDefEqProofs only [c22_59_e, c22_60_r, (show opsOf c22_60 = _ :: _ from rfl), (show c22_61 = Code.cond _ c22_62 c22_63 from rfl), zq0, zq5, zq6, zq7, zq8, zq9, zq10, zq11, yc10, setA, setB, za, zb, zc, zd, ze, zf, zg, zh, zi, zj, zk, zl, zm, zn, zo, zp, reduceCtorEq, zE, ↓reduceIte]
    refine brB (fun yc11 => ?_) (fun yc11 => ?_)
    · simp -implicitDefEqProofs only [c22_62_r, (show opsOf c22_62 = _ :: _ from rfl), zq0, zq5, zq6, zq7, zq8, zq9, zq10, zq11, yc10, yc11, setA, setB, za, zb, zc, zd, ze, zf, zg, zh, zi, zj, zk, zl, zm, zn, zo, zp, reduceCtorEq, zE, ↓reduceIte]
      exact j22_133_t b0_0 b0_1 l5_0 l5_1 name6 value7 (4 : Int) long9 at10 _ (by exact zq0) (by exact zq5) (by exact zq6) (by exact zq7) (by rfl) (by exact zq9) (by exact zq10)
    · simp -implicitDefEqProofs only [c22_63_e, c22_64_r, (show opsOf c22_64 = _ :: _ from rfl), ent39, prm39, f39_t, zq0, zq5, zq6, zq7, zq8, zq9, zq10, zq11, yc10, yc11, setA, setB, za, zb, zc, zd, ze, zf, zg, zh, zi, zj, zk, zl, zm, zn, zo, zp, reduceCtorEq, zE, ↓reduceIte]
      refine brM (fun yc12 => ?_) (fun yr13 yc12 => ?_)
      · rw [yc12]; rfl
      · simp -implicitDefEqProofs only [e39, (show c22_65 = Code.cond _ c22_66 c22_69 from rfl), zq0, zq5, zq6, zq7, zq8, zq9, zq10, zq11, yc10, yc11, yc12, setA, setB, za, zb, zc, zd, ze, zf, zg, zh, zi, zj, zk, zl, zm, zn, zo, zp, reduceCtorEq, zE, ↓reduceIte]
        refine brB (fun yc14 => ?_) (fun yc14 => ?_)
        · simp -implicitDefEqProofs only [c22_66_e, c22_67_r, (show opsOf c22_67 = _ :: _ from rfl), Tryd.underlying22, sz5, zc5, hd22, nv23, rw24, ns10, Tryd.underlying9, Tryd.underlying5, c22_68_r, (show opsOf c22_68 = _ :: _ from rfl), zq0, zq5, zq6, zq7, zq8, zq9, zq10, zq11, yc10, yc11, yc12, yc14, setA, setB, za, zb, zc, zd, ze, zf, zg, zh, zi, zj, zk, zl, zm, zn, zo, zp, reduceCtorEq, zE, ↓reduceIte]
          exact j22_133_t b0_0 b0_1 l5_0 l5_1 ([c11] : List UInt8) value7 (1 : Int) long9 at10 _ (by exact zq0) (by exact zq5) (by rfl) (by exact zq7) (by rfl) (by exact zq9) (by exact zq10)
        · simp -implicitDefEqProofs only [c22_69_e, c22_70_r, (show opsOf c22_70 = _ :: _ from rfl), c22_71_e, K22_12, zq0, zq5, zq6, zq7, zq8, zq9, zq10, zq11, yc10, yc11, yc12, yc14, setA, setB, za, zb, zc, zd, ze, zf, zg, zh, zi, zj, zk, zl, zm, zn, zo, zp, reduceCtorEq, zE, ↓reduceIte]
          all_goals rfl
  · simp -implicitDefEqProofs only [c22_72_e, c22_73_r, (show opsOf c22_73 = _ :: _ from rfl), (show c22_74 = Code.cond _ c22_75 c22_88 from rfl), zq0, zq5, zq6, zq7, zq8, zq9, zq10, zq11, yc10, setA, setB, za, zb, zc, zd, ze, zf, zg, zh, zi, zj, zk, zl, zm, zn, zo, zp, reduceCtorEq, zE, ↓reduceIte]
    refine brB (fun yc15 => ?_) (fun yc15 => ?_)
    · simp -implicitDefEqProofs only [c22_75_e, c22_76_r, (show opsOf c22_76 = _ :: _ from rfl), (show c22_77 = Code.cond _ c22_78 c22_81 from rfl), zq0, zq5, zq6, zq7, zq8, zq9, zq10, zq11, yc10, yc15, setA, setB, za, zb, zc, zd, ze, zf, zg, zh, zi, zj, zk, zl, zm, zn, zo, zp, reduceCtorEq, zE, ↓reduceIte]
      refine brB (fun yc16 => ?_) (fun yc16 => ?_)
      · simp -implicitDefEqProofs only [c22_78_e, c22_79_r, (show opsOf c22_79 = _ :: _ from rfl), c22_80_r, (show opsOf c22_80 = _ :: _ from rfl), zq0, zq5, zq6, zq7, zq8, zq9, zq10, zq11, yc10, yc15, yc16, setA, setB, za, zb, zc, zd, ze, zf, zg, zh, zi, zj, zk, zl, zm, zn, zo, zp, reduceCtorEq, zE, ↓reduceIte]
        exact j22_133_t b0_0 b0_1 l5_0 l5_1 name6 ([] : Bs) (2 : Int) long9 at10 _ (by exact zq0) (by exact zq5) (by exact zq6) (by rfl) (by rfl) (by exact zq9) (by exact zq10)
      · simp -implicitDefEqProofs only [c22_81_e, c22_82_r, (show opsOf c22_82 = _ :: _ from rfl), ent39, prm39, f39_t, zq0, zq5, zq6, zq7, zq8, zq9, zq10, zq11, yc10, yc15, yc16, setA, setB, za, zb, zc, zd, ze, zf, zg, zh, zi, zj, zk, zl, zm, zn, zo, zp, reduceCtorEq, zE, ↓reduceIte]
        refine brM (fun yc17 => ?_) (fun yr18 yc17 => ?_)
        · rw [yc17]; rfl
        · simp -implicitDefEqProofs only [e39, (show c22_83 = Code.cond _ c22_84 c22_85 from rfl), zq0, zq5, zq6, zq7, zq8, zq9, zq10, zq11, yc10, yc15, yc16, yc17, setA, setB, za, zb, zc, zd, ze, zf, zg, zh, zi, zj, zk, zl, zm, zn, zo, zp, reduceCtorEq, zE, ↓reduceIte]
          refine brB (fun yc19 => ?_) (fun yc19 => ?_)
          · simp -implicitDefEqProofs only [c22_84_r, (show opsOf c22_84 = _ :: _ from rfl), Tryd.underlying22, sz5, zc5, hd25, nv26, rw27, ns10, Tryd.underlying9, Tryd.underlying5, zq0, zq5, zq6, zq7, zq8, zq9, zq10, zq11, yc10, yc15, yc16, yc17, yc19, setA, setB, za, zb, zc, zd, ze, zf, zg, zh, zi, zj, zk, zl, zm, zn, zo, zp, reduceCtorEq, zE, ↓reduceIte]
            refine brP (fun yc20 => ?_) (fun yc20 => ?_)
            · simp -implicitDefEqProofs only [zq0, zq5, zq6, zq7, zq8, zq9, zq10, zq11, yc10, yc15, yc16, yc17, yc19, yc20, setA, setB, za, zb, zc, zd, ze, zf, zg, zh, zi, zj, zk, zl, zm, zn, zo, zp, reduceCtorEq, zE, ↓reduceIte]
              exact j22_133_t b0_0 b0_1 l5_0 l5_1 (name6 ++ ([c11] : List UInt8)) value7 part8 long9 at10 _ (by exact zq0) (by exact zq5) (by rfl) (by exact zq7) (by exact zq8) (by exact zq9) (by exact zq10)
            · rw [if_neg yc20]; rfl
          · simp -implicitDefEqProofs only [c22_85_e, c22_86_r, (show opsOf c22_86 = _ :: _ from rfl), c22_87_e, K22_12, zq0, zq5, zq6, zq7, zq8, zq9, zq10, zq11, yc10, yc15, yc16, yc17, yc19, setA, setB, za, zb, zc, zd, ze, zf, zg, zh, zi, zj, zk, zl, zm, zn, zo, zp, reduceCtorEq, zE, ↓reduceIte]
            all_goals rfl
    · simp -implicitDefEqProofs only [c22_88_e, c22_89_r, (show opsOf c22_89 = _ :: _ from rfl), (show c22_90 = Code.cond _ c22_91 c22_102 from rfl), zq0, zq5, zq6, zq7, zq8, zq9, zq10, zq11, yc10, yc15, setA, setB, za, zb, zc, zd, ze, zf, zg, zh, zi, zj, zk, zl, zm, zn, zo, zp, reduceCtorEq, zE, ↓reduceIte]
      refine brB (fun yc21 => ?_) (fun yc21 => ?_)
      · simp -implicitDefEqProofs only [c22_91_e, c22_92_r, (show opsOf c22_92 = _ :: _ from rfl), (show c22_93 = Code.cond _ c22_94 c22_95 from rfl), zq0, zq5, zq6, zq7, zq8, zq9, zq10, zq11, yc10, yc15, yc21, setA, setB, za, zb, zc, zd, ze, zf, zg, zh, zi, zj, zk, zl, zm, zn, zo, zp, reduceCtorEq, zE, ↓reduceIte]
        refine brB (fun yc22 => ?_) (fun yc22 => ?_)
        · simp -implicitDefEqProofs only [c22_94_r, (show opsOf c22_94 = _ :: _ from rfl), zq0, zq5, zq6, zq7, zq8, zq9, zq10, zq11, yc10, yc15, yc21, yc22, setA, setB, za, zb, zc, zd, ze, zf, zg, zh, zi, zj, zk, zl, zm, zn, zo, zp, reduceCtorEq, zE, ↓reduceIte]
          exact j22_133_t b0_0 b0_1 l5_0 l5_1 name6 value7 (3 : Int) long9 at10 _ (by exact zq0) (by exact zq5) (by exact zq6) (by exact zq7) (by rfl) (by exact zq9) (by exact zq10)
        · simp -implicitDefEqProofs only [c22_95_e, c22_96_r, (show opsOf c22_96 = _ :: _ from rfl), ent40, prm40, f40_t, zq0, zq5, zq6, zq7, zq8, zq9, zq10, zq11, yc10, yc15, yc21, yc22, setA, setB, za, zb, zc, zd, ze, zf, zg, zh, zi, zj, zk, zl, zm, zn, zo, zp, reduceCtorEq, zE, ↓reduceIte]
          refine brM (fun yc23 => ?_) (fun yr24 yc23 => ?_)
          · rw [yc23]; rfl
          · simp -implicitDefEqProofs only [e40, (show c22_97 = Code.cond _ c22_98 c22_99 from rfl), zq0, zq5, zq6, zq7, zq8, zq9, zq10, zq11, yc10, yc15, yc21, yc22, yc23, setA, setB, za, zb, zc, zd, ze, zf, zg, zh, zi, zj, zk, zl, zm, zn, zo, zp, reduceCtorEq, zE, ↓reduceIte]
            refine brB (fun yc25 => ?_) (fun yc25 => ?_)
            · simp -implicitDefEqProofs only [c22_98_r, (show opsOf c22_98 = _ :: _ from rfl), Tryd.underlying22, sz5, zc5, hd28, nv29, rw30, ns10, Tryd.underlying9, Tryd.underlying5, zq0, zq5, zq6, zq7, zq8, zq9, zq10, zq11, yc10, yc15, yc21, yc22, yc23, yc25, setA, setB, za, zb, zc, zd, ze, zf, zg, zh, zi, zj, zk, zl, zm, zn, zo, zp, reduceCtorEq, zE, ↓reduceIte]
              refine brP (fun yc26 => ?_) (fun yc26 => ?_)
              · simp -implicitDefEqProofs only [zq0, zq5, zq6, zq7, zq8, zq9, zq10, zq11, yc10, yc15, yc21, yc22, yc23, yc25, yc26, setA, setB, za, zb, zc, zd, ze, zf, zg, zh, zi, zj, zk, zl, zm, zn, zo, zp, reduceCtorEq, zE, ↓reduceIte]
                exact j22_133_t b0_0 b0_1 l5_0 l5_1 name6 (value7 ++ ([c11] : List UInt8)) part8 long9 at10 _ (by exact zq0) (by exact zq5) (by exact zq6) (by rfl) (by exact zq8) (by exact zq9) (by exact zq10)
              · rw [if_neg yc26]; rfl
            · simp -implicitDefEqProofs only [c22_99_e, c22_100_r, (show opsOf c22_100 = _ :: _ from rfl), c22_101_e, K22_12, zq0, zq5, zq6, zq7, zq8, zq9, zq10, zq11, yc10, yc15, yc21, yc22, yc23, yc25, setA, setB, za, zb, zc, zd, ze, zf, zg, zh, zi, zj, zk, zl, zm, zn, zo, zp, reduceCtorEq, zE, ↓reduceIte]
              all_goals rfl
      · simp -implicitDefEqProofs only [c22_102_e, c22_103_r, (show opsOf c22_103 = _ :: _ from rfl), (show c22_104 = Code.cond _ c22_105 c22_118 from rfl), zq0, zq5, zq6, zq7, zq8, zq9, zq10, zq11, yc10, yc15, yc21, setA, setB, za, zb, zc, zd, ze, zf, zg, zh, zi, zj, zk, zl, zm, zn, zo, zp, reduceCtorEq, zE, ↓reduceIte]
        refine brB (fun yc27 => ?_) (fun yc27 => ?_)
        · simp -implicitDefEqProofs only [c22_105_e, c22_106_e, c22_107_r, (show opsOf c22_107 = _ :: _ from rfl), (show c22_108 = Code.cond _ c22_109 c22_112 from rfl), zq0, zq5, zq6, zq7, zq8, zq9, zq10, zq11, yc10, yc15, yc21, yc27, setA, setB, za, zb, zc, zd, ze, zf, zg, zh, zi, zj, zk, zl, zm, zn, zo, zp, reduceCtorEq, zE, ↓reduceIte]
          refine brB (fun yc28 => ?_) (fun yc28 => ?_)
          · simp -implicitDefEqProofs only [c22_112_e, c22_113_e, c22_114_r, (show opsOf c22_114 = _ :: _ from rfl), ent41, prm41, f41_t, zq0, zq5, zq6, zq7, zq8, zq9, zq10, zq11, yc10, yc15, yc21, yc27, yc28, setA, setB, za, zb, zc, zd, ze, zf, zg, zh, zi, zj, zk, zl, zm, zn, zo, zp, reduceCtorEq, zE, ↓reduceIte]
            refine brM (fun yc29 => ?_) (fun yr30 yc29 => ?_)
            · rw [yc29]; rfl
            · simp -implicitDefEqProofs only [e41, Tryd.underlying74, zc74, sz9, Tryd.underlying49, sz74, hd31, nv32, rw33, ns17, ap49, zq0, zq5, zq6, zq7, zq8, zq9, zq10, zq11, yc10, yc15, yc21, yc27, yc28, yc29, setA, setB, za, zb, zc, zd, ze, zf, zg, zh, zi, zj, zk, zl, zm, zn, zo, zp, reduceCtorEq, zE, ↓reduceIte]
              refine brP (fun yc31 => ?_) (fun yc31 => ?_)
              · simp -implicitDefEqProofs only [c22_115_e, c22_116_r, (show opsOf c22_116 = _ :: _ from rfl), c22_117_r, (show opsOf c22_117 = _ :: _ from rfl), zq0, zq5, zq6, zq7, zq8, zq9, zq10, zq11, yc10, yc15, yc21, yc27, yc28, yc29, yc31, setA, setB, za, zb, zc, zd, ze, zf, zg, zh, zi, zj, zk, zl, zm, zn, zo, zp, reduceCtorEq, zE, ↓reduceIte]
                exact j22_133_t b0_0 b0_1 false (l5_1 ++ ([(name6, yr30)] : List (Bs × Bs))) name6 value7 (0 : Int) (0 : Int) at10 _ (by exact zq0) (by rfl) (by exact zq6) (by exact zq7) (by rfl) (by rfl) (by exact zq10)
              · rw [if_neg yc31]; rfl
          · simp -implicitDefEqProofs only [c22_109_e, c22_110_r, (show opsOf c22_110 = _ :: _ from rfl), c22_111_e, K22_12, zq0, zq5, zq6, zq7, zq8, zq9, zq10, zq11, yc10, yc15, yc21, yc27, yc28, setA, setB, za, zb, zc, zd, ze, zf, zg, zh, zi, zj, zk, zl, zm, zn, zo, zp, reduceCtorEq, zE, ↓reduceIte]
            all_goals rfl
        · simp -implicitDefEqProofs only [c22_118_e, c22_119_r, (show opsOf c22_119 = _ :: _ from rfl), (show c22_120 = Code.cond _ c22_121 c22_132 from rfl), zq0, zq5, zq6, zq7, zq8, zq9, zq10, zq11, yc10, yc15, yc21, yc27, setA, setB, za, zb, zc, zd, ze, zf, zg, zh, zi, zj, zk, zl, zm, zn, zo, zp, reduceCtorEq, zE, ↓reduceIte]
          refine brB (fun yc32 => ?_) (fun yc32 => ?_)
          · simp -implicitDefEqProofs only [c22_121_e, c22_122_e, c22_123_r, (show opsOf c22_123 = _ :: _ from rfl), (show c22_124 = Code.cond _ c22_125 c22_128 from rfl), zq0, zq5, zq6, zq7, zq8, zq9, zq10, zq11, yc10, yc15, yc21, yc27, yc32, setA, setB, za, zb, zc, zd, ze, zf, zg, zh, zi, zj, zk, zl, zm, zn, zo, zp, reduceCtorEq, zE, ↓reduceIte]
            refine brB (fun yc33 => ?_) (fun yc33 => ?_)
            · simp -implicitDefEqProofs only [c22_128_e, c22_129_e, c22_130_r, (show opsOf c22_130 = _ :: _ from rfl), c22_131_e, K22_12, zq0, zq5, zq6, zq7, zq8, zq9, zq10, zq11, yc10, yc15, yc21, yc27, yc32, yc33, setA, setB, za, zb, zc, zd, ze, zf, zg, zh, zi, zj, zk, zl, zm, zn, zo, zp, reduceCtorEq, zE, ↓reduceIte]
              all_goals rfl
            · simp -implicitDefEqProofs only [c22_125_e, c22_126_r, (show opsOf c22_126 = _ :: _ from rfl), c22_127_e, K22_12, zq0, zq5, zq6, zq7, zq8, zq9, zq10, zq11, yc10, yc15, yc21, yc27, yc32, yc33, setA, setB, za, zb, zc, zd, ze, zf, zg, zh, zi, zj, zk, zl, zm, zn, zo, zp, reduceCtorEq, zE, ↓reduceIte]
              all_goals rfl
          · simp -implicitDefEqProofs only [c22_132_e, zq0, zq5, zq6, zq7, zq8, zq9, zq10, zq11, yc10, yc15, yc21, yc27, yc32, setA, setB, za, zb, zc, zd, ze, zf, zg, zh, zi, zj, zk, zl, zm, zn, zo, zp, reduceCtorEq, zE, ↓reduceIte]
            exact j22_133_t b0_0 b0_1 l5_0 l5_1 name6 value7 part8 long9 at10 _ (by exact zq0) (by exact zq5) (by exact zq6) (by exact zq7) (by exact zq8) (by exact zq9) (by exact zq10)
def j22_38 (b0_0 : Bool) (b0_1 : List UInt8) (l5_0 : Bool) (l5_1 : List (Bs × Bs)) (name6 value7 : Bs) (part8 long9 at10 : Int) (c11 : UInt8) (t36 : Bool) : Option ((Bool × List UInt8 × Bool × List (Bs × Bs) × Bs × Bs × Int × Int × Int) ⊕ R22) :=
  if t36 = true then
    some (.inr (.inl (true, ([] : List (Bs × Bs)), (0 : Int), (21 : Int))))
  else
    if (decide (512 < (w64 (long9 + 1)))) = true then
      some (.inr (.inl (true, ([] : List (Bs × Bs)), (0 : Int), (21 : Int))))
    else
      j22_53 b0_0 b0_1 l5_0 l5_1 name6 value7 part8 (w64 (long9 + 1)) at10 c11
theorem j22_38_t (b0_0 : Bool) (b0_1 : List UInt8) (l5_0 : Bool) (l5_1 : List (Bs × Bs)) (name6 value7 : Bs) (part8 long9 at10 : Int) (c11 : UInt8) (t36 : Bool)  (sl : Nat → AV) (zq0 : sl 0 = .v (.c (.d (.lst b0_0 (enL enB b0_1))))) (zq5 : sl 5 = .v (.c (.own l5_0 (enL enSS l5_1) 0))) (zq6 : sl 6 = .v (.c (.d (.sc (.string (S name6)))))) (zq7 : sl 7 = .v (.c (.d (.sc (.string (S value7)))))) (zq8 : sl 8 = .v (.c (.d (.sc (.int .i64 part8))))) (zq9 : sl 9 = .v (.c (.d (.sc (.int .i64 long9))))) (zq10 : sl 10 = .v (.c (.d (.sc (.int .i64 at10))))) (zq11 : sl 11 = .v (.c (.d (.sc (.int .u8 ((c11).toNat : Int)))))) (zq36 : sl 36 = .v (.c (.d (.sc (.bool t36))))) :
    stepE (K22_12 (mm := mm)) (loopK 0 [(0, .keep), (5, .own), (6, .keep), (7, .keep), (8, .keep), (9, .keep), (10, .keep)] (seqD (E0 mm) 22 0 (callW (E0 mm)) itW c22_133 (blockD 1 (seqD (E0 mm) 22 0 (callW (E0 mm)) itW c22_53 (seqD (E0 mm) 22 0 (callW (E0 mm)) itW c22_43 (den (E0 mm) 22 0 (callW (E0 mm)) itW c22_38 none ⟨sl, [.row l5_1.length (rz l5_0 2)]⟩)))))) = (j22_38 b0_0 b0_1 l5_0 l5_1 name6 value7 part8 long9 at10 c11 t36).map (sm en22_12 e22) := by
  simp -implicitDefEqProofs only [j22_38, (show c22_38 = Code.cond _ c22_39 c22_42 from rfl), zq0, zq5, zq6, zq7, zq8, zq9, zq10, zq11, zq36, setA, setB, za, zb, zc, zd, ze, zf, zg, zh, zi, zj, zk, zl, zm, zn, zo, zp, reduceCtorEq, zE, ↓reduceIte]
  refine brB (fun yc8 => ?_) (fun yc8 => ?_)
  · simp -implicitDefEqProofs only [c22_39_e, c22_40_r, (show opsOf c22_40 = _ :: _ from rfl), c22_41_e, K22_12, zq0, zq5, zq6, zq7, zq8, zq9, zq10, zq11, zq36, yc8, setA, setB, za, zb, zc, zd, ze, zf, zg, zh, zi, zj, zk, zl, zm, zn, zo, zp, reduceCtorEq, zE, ↓reduceIte]
    all_goals rfl
  · simp -implicitDefEqProofs only [c22_42_e, c22_43_e, c22_44_r, (show opsOf c22_44 = _ :: _ from rfl), c22_45_e, c22_46_r, (show opsOf c22_46 = _ :: _ from rfl), (show c22_47 = Code.cond _ c22_48 c22_51 from rfl), zq0, zq5, zq6, zq7, zq8, zq9, zq10, zq11, zq36, yc8, setA, setB, za, zb, zc, zd, ze, zf, zg, zh, zi, zj, zk, zl, zm, zn, zo, zp, reduceCtorEq, zE, ↓reduceIte]
    refine brB (fun yc9 => ?_) (fun yc9 => ?_)
    · simp -implicitDefEqProofs only [c22_48_e, c22_49_r, (show opsOf c22_49 = _ :: _ from rfl), c22_50_e, K22_12, zq0, zq5, zq6, zq7, zq8, zq9, zq10, zq11, zq36, yc8, yc9, setA, setB, za, zb, zc, zd, ze, zf, zg, zh, zi, zj, zk, zl, zm, zn, zo, zp, reduceCtorEq, zE, ↓reduceIte]
      all_goals rfl
    · simp -implicitDefEqProofs only [c22_51_e, zq0, zq5, zq6, zq7, zq8, zq9, zq10, zq11, zq36, yc8, yc9, setA, setB, za, zb, zc, zd, ze, zf, zg, zh, zi, zj, zk, zl, zm, zn, zo, zp, reduceCtorEq, zE, ↓reduceIte]
      exact j22_53_t b0_0 b0_1 l5_0 l5_1 name6 value7 part8 (w64 (long9 + 1)) at10 c11 _ (by exact zq0) (by exact zq5) (by exact zq6) (by exact zq7) (by exact zq8) (by rfl) (by exact zq10) (by exact zq11)
def j22_34 (b0_0 : Bool) (b0_1 : List UInt8) (l5_0 : Bool) (l5_1 : List (Bs × Bs)) (name6 value7 : Bs) (part8 long9 at10 : Int) (c11 : UInt8) (t29 : Bool) : Option ((Bool × List UInt8 × Bool × List (Bs × Bs) × Bs × Bs × Int × Int × Int) ⊕ R22) :=
  if t29 = true then
    if (part8 == 0) = true then
      j22_38 b0_0 b0_1 l5_0 l5_1 name6 value7 part8 long9 at10 c11 ((l5_1.length : Int) == 32)
    else
      j22_38 b0_0 b0_1 l5_0 l5_1 name6 value7 part8 long9 at10 c11 false
  else
    j22_53 b0_0 b0_1 l5_0 l5_1 name6 value7 part8 long9 at10 c11
theorem j22_34_t (b0_0 : Bool) (b0_1 : List UInt8) (l5_0 : Bool) (l5_1 : List (Bs × Bs)) (name6 value7 : Bs) (part8 long9 at10 : Int) (c11 : UInt8) (t29 : Bool)  (sl : Nat → AV) (zq0 : sl 0 = .v (.c (.d (.lst b0_0 (enL enB b0_1))))) (zq5 : sl 5 = .v (.c (.own l5_0 (enL enSS l5_1) 0))) (zq6 : sl 6 = .v (.c (.d (.sc (.string (S name6)))))) (zq7 : sl 7 = .v (.c (.d (.sc (.string (S value7)))))) (zq8 : sl 8 = .v (.c (.d (.sc (.int .i64 part8))))) (zq9 : sl 9 = .v (.c (.d (.sc (.int .i64 long9))))) (zq10 : sl 10 = .v (.c (.d (.sc (.int .i64 at10))))) (zq11 : sl 11 = .v (.c (.d (.sc (.int .u8 ((c11).toNat : Int)))))) (zq29 : sl 29 = .v (.c (.d (.sc (.bool t29))))) :
    stepE (K22_12 (mm := mm)) (loopK 0 [(0, .keep), (5, .own), (6, .keep), (7, .keep), (8, .keep), (9, .keep), (10, .keep)] (seqD (E0 mm) 22 0 (callW (E0 mm)) itW c22_133 (blockD 1 (seqD (E0 mm) 22 0 (callW (E0 mm)) itW c22_53 (den (E0 mm) 22 0 (callW (E0 mm)) itW c22_34 none ⟨sl, [.row l5_1.length (rz l5_0 2)]⟩))))) = (j22_34 b0_0 b0_1 l5_0 l5_1 name6 value7 part8 long9 at10 c11 t29).map (sm en22_12 e22) := by
  simp -implicitDefEqProofs only [j22_34, (show c22_34 = Code.cond _ c22_35 c22_52 from rfl), zq0, zq5, zq6, zq7, zq8, zq9, zq10, zq11, zq29, setA, setB, za, zb, zc, zd, ze, zf, zg, zh, zi, zj, zk, zl, zm, zn, zo, zp, reduceCtorEq, zE, ↓reduceIte]
  refine brB (fun yc6 => ?_) (fun yc6 => ?_)
  · simp -implicitDefEqProofs only [c22_35_e, c22_36_e, c22_37_r, (show opsOf c22_37 = _ :: _ from rfl), zq0, zq5, zq6, zq7, zq8, zq9, zq10, zq11, zq29, yc6, setA, setB, za, zb, zc, zd, ze, zf, zg, zh, zi, zj, zk, zl, zm, zn, zo, zp, reduceCtorEq, zE, ↓reduceIte]
    refine brB (fun yc7 => ?_) (fun yc7 => ?_)
    · simp -implicitDefEqProofs only [Tryd.underlying49, zq0, zq5, zq6, zq7, zq8, zq9, zq10, zq11, zq29, yc6, yc7, setA, setB, za, zb, zc, zd, ze, zf, zg, zh, zi, zj, zk, zl, zm, zn, zo, zp, reduceCtorEq, zE, ↓reduceIte]
      exact j22_38_t b0_0 b0_1 l5_0 l5_1 name6 value7 part8 long9 at10 c11 ((l5_1.length : Int) == 32) _ (by exact zq0) (by exact zq5) (by exact zq6) (by exact zq7) (by exact zq8) (by exact zq9) (by exact zq10) (by exact zq11) (by rfl)
    · simp -implicitDefEqProofs only [zq0, zq5, zq6, zq7, zq8, zq9, zq10, zq11, zq29, yc6, yc7, setA, setB, za, zb, zc, zd, ze, zf, zg, zh, zi, zj, zk, zl, zm, zn, zo, zp, reduceCtorEq, zE, ↓reduceIte]
      exact j22_38_t b0_0 b0_1 l5_0 l5_1 name6 value7 part8 long9 at10 c11 false _ (by exact zq0) (by exact zq5) (by exact zq6) (by exact zq7) (by exact zq8) (by exact zq9) (by exact zq10) (by exact zq11) (by rfl)
  · simp -implicitDefEqProofs only [c22_52_e, zq0, zq5, zq6, zq7, zq8, zq9, zq10, zq11, zq29, yc6, setA, setB, za, zb, zc, zd, ze, zf, zg, zh, zi, zj, zk, zl, zm, zn, zo, zp, reduceCtorEq, zE, ↓reduceIte]
    exact j22_53_t b0_0 b0_1 l5_0 l5_1 name6 value7 part8 long9 at10 c11 _ (by exact zq0) (by exact zq5) (by exact zq6) (by exact zq7) (by exact zq8) (by exact zq9) (by exact zq10) (by exact zq11)
def j22_134  : Option R22 :=
  some (.inl (true, ([] : List (Bs × Bs)), (0 : Int), (8 : Int)))
theorem j22_134_t  (g0 : Ob) (sl : Nat → AV)  :
    bodyD (E0 mm) [.tmp 2, .tmp 3, .tmp 4] 0 false (den (E0 mm) 22 0 (callW (E0 mm)) itW c22_134 none ⟨sl, [g0]⟩) = (j22_134).map e22 := by
  simp -implicitDefEqProofs only [j22_134, c22_134_e, c22_135_r, (show opsOf c22_135 = _ :: _ from rfl), c22_136_e, setA, setB, za, zb, zc, zd, ze, zf, zg, zh, zi, zj, zk, zl, zm, zn, zo, zp, reduceCtorEq, zE, ↓reduceIte]
  all_goals rfl
def s22_12 (b0_0 : Bool) (b0_1 : List UInt8) (l5_0 : Bool) (l5_1 : List (Bs × Bs)) (name6 value7 : Bs) (part8 long9 at10 : Int) : Option ((Bool × List UInt8 × Bool × List (Bs × Bs) × Bs × Bs × Int × Int × Int) ⊕ R22) :=
  if (decide (at10 < (b0_1.length : Int))) = true then
    if 0 ≤ at10 ∧ at10 < (b0_1.length : Int) then
      if (decide (2048 ≤ at10)) = true then
        some (.inr (.inl (true, ([] : List (Bs × Bs)), (0 : Int), (21 : Int))))
      else
        if (decide (part8 ≤ 2)) = true then
          j22_34 b0_0 b0_1 l5_0 l5_1 name6 value7 part8 long9 at10 (b0_1.getD at10.toNat default) (!((b0_1.getD at10.toNat default) == (13 : UInt8)))
        else
          j22_34 b0_0 b0_1 l5_0 l5_1 name6 value7 part8 long9 at10 (b0_1.getD at10.toNat default) false
    else none
  else
    (j22_134).map .inr
theorem s22_12_t (b0_0 : Bool) (b0_1 : List UInt8) (l5_0 : Bool) (l5_1 : List (Bs × Bs)) (name6 value7 : Bs) (part8 long9 at10 : Int) :
    stepE (K22_12 (mm := mm)) (loopF (E0 mm) 22 0 (callW (E0 mm)) itW c22_13 [(0, .keep), (5, .own), (6, .keep), (7, .keep), (8, .keep), (9, .keep), (10, .keep)] (none, [.v (.c (.d (.lst b0_0 (enL enB b0_1)))), .v (.c (.own l5_0 (enL enSS l5_1) 0)), .v (.c (.d (.sc (.string (S name6))))), .v (.c (.d (.sc (.string (S value7))))), .v (.c (.d (.sc (.int .i64 part8)))), .v (.c (.d (.sc (.int .i64 long9)))), .v (.c (.d (.sc (.int .i64 at10))))], [.row l5_1.length (rz l5_0 2)])) = (s22_12 b0_0 b0_1 l5_0 l5_1 name6 value7 part8 long9 at10).map (sm en22_12 e22) := by
  simp -implicitDefEqProofs only [s22_12, loopF_eq, c22_13_e, c22_14_e, c22_15_r, (show opsOf c22_15 = _ :: _ from rfl), Tryd.underlying22, (show c22_16 = Code.cond _ c22_17 c22_18 from rfl), setA, setB, za, zb, zc, zd, ze, zf, zg, zh, zi, zj, zk, zl, zm, zn, zo, zp, reduceCtorEq, zE, ↓reduceIte]
  refine brB (fun yc1 => ?_) (fun yc1 => ?_)
  · simp -implicitDefEqProofs only [c22_17_e, c22_19_e, c22_20_e, c22_21_e, c22_22_r, (show opsOf c22_22 = _ :: _ from rfl), Tryd.underlying22, sz5, enB_a, yc1, setA, setB, za, zb, zc, zd, ze, zf, zg, zh, zi, zj, zk, zl, zm, zn, zo, zp, reduceCtorEq, zE, ↓reduceIte]
    refine brP (fun yc2 => ?_) (fun yc2 => ?_)
    · have yd3 : at10.toNat < b0_1.length := by omega
      simp -implicitDefEqProofs only [(enL_get enB b0_1 at10.toNat yd3), enB_e, sz5, ag5, c22_23_e, c22_24_e, c22_25_r, (show opsOf c22_25 = _ :: _ from rfl), (show c22_26 = Code.cond _ c22_27 c22_30 from rfl), yc1, yc2, yd3, setA, setB, za, zb, zc, zd, ze, zf, zg, zh, zi, zj, zk, zl, zm, zn, zo, zp, reduceCtorEq, zE, ↓reduceIte]
      refine brB (fun yc4 => ?_) (fun yc4 => ?_)
      · simp -implicitDefEqProofs only [c22_27_e, c22_28_r, (show opsOf c22_28 = _ :: _ from rfl), c22_29_e, K22_12, yc1, yc2, yd3, yc4, setA, setB, za, zb, zc, zd, ze, zf, zg, zh, zi, zj, zk, zl, zm, zn, zo, zp, reduceCtorEq, zE, ↓reduceIte]
        all_goals rfl
      · simp -implicitDefEqProofs only [c22_30_e, c22_31_e, c22_32_e, c22_33_r, (show opsOf c22_33 = _ :: _ from rfl), yc1, yc2, yd3, yc4, setA, setB, za, zb, zc, zd, ze, zf, zg, zh, zi, zj, zk, zl, zm, zn, zo, zp, reduceCtorEq, zE, ↓reduceIte]
        refine brB (fun yc5 => ?_) (fun yc5 => ?_)
        · simp -implicitDefEqProofs only [yc1, yc2, yd3, yc4, yc5, setA, setB, za, zb, zc, zd, ze, zf, zg, zh, zi, zj, zk, zl, zm, zn, zo, zp, reduceCtorEq, zE, ↓reduceIte]
          exact j22_34_t b0_0 b0_1 l5_0 l5_1 name6 value7 part8 long9 at10 (b0_1.getD at10.toNat default) (!((b0_1.getD at10.toNat default) == (13 : UInt8))) _ (by rfl) (by rfl) (by rfl) (by rfl) (by rfl) (by rfl) (by rfl) (by rfl) (by rfl)
        · simp -implicitDefEqProofs only [yc1, yc2, yd3, yc4, yc5, setA, setB, za, zb, zc, zd, ze, zf, zg, zh, zi, zj, zk, zl, zm, zn, zo, zp, reduceCtorEq, zE, ↓reduceIte]
          exact j22_34_t b0_0 b0_1 l5_0 l5_1 name6 value7 part8 long9 at10 (b0_1.getD at10.toNat default) false _ (by rfl) (by rfl) (by rfl) (by rfl) (by rfl) (by rfl) (by rfl) (by rfl) (by rfl)
    · rw [if_neg yc2]; rfl
  · simp -implicitDefEqProofs only [c22_18_e, K22_12, yc1, setA, setB, za, zb, zc, zd, ze, zf, zg, zh, zi, zj, zk, zl, zm, zn, zo, zp, reduceCtorEq, zE, ↓reduceIte]
    exact mi (j22_134_t _ _)
def l22_12 (b0_0 : Bool) (b0_1 : List UInt8) (l5_0 : Bool) (l5_1 : List (Bs × Bs)) (name6 value7 : Bs) (part8 long9 at10 : Int) : Option R22 := iter (fun x : (Bool × List UInt8 × Bool × List (Bs × Bs) × Bs × Bs × Int × Int × Int) => s22_12 x.1 x.2.1 x.2.2.1 x.2.2.2.1 x.2.2.2.2.1 x.2.2.2.2.2.1 x.2.2.2.2.2.2.1 x.2.2.2.2.2.2.2.1 x.2.2.2.2.2.2.2.2) (b0_0, b0_1, l5_0, l5_1, name6, value7, part8, long9, at10)
theorem l22_12_t (b0_0 : Bool) (b0_1 : List UInt8) (l5_0 : Bool) (l5_1 : List (Bs × Bs)) (name6 value7 : Bs) (part8 long9 at10 : Int) : bodyD (E0 mm) [.tmp 2, .tmp 3, .tmp 4] 0 false (seqD (E0 mm) 22 0 (callW (E0 mm)) itW c22_134 (blockD 0 (itW (loopF (E0 mm) 22 0 (callW (E0 mm)) itW c22_13 [(0, .keep), (5, .own), (6, .keep), (7, .keep), (8, .keep), (9, .keep), (10, .keep)]) (none, [.v (.c (.d (.lst b0_0 (enL enB b0_1)))), .v (.c (.own l5_0 (enL enSS l5_1) 0)), .v (.c (.d (.sc (.string (S name6))))), .v (.c (.d (.sc (.string (S value7))))), .v (.c (.d (.sc (.int .i64 part8)))), .v (.c (.d (.sc (.int .i64 long9)))), .v (.c (.d (.sc (.int .i64 at10))))], [.row l5_1.length (rz l5_0 2)])))) = (l22_12 b0_0 b0_1 l5_0 l5_1 name6 value7 part8 long9 at10).map e22 :=
  it_sim (K := (K22_12 (mm := mm))) rfl (enc := en22_12) (fun x => s22_12_t x.1 x.2.1 x.2.2.1 x.2.2.2.1 x.2.2.2.2.1 x.2.2.2.2.2.1 x.2.2.2.2.2.2.1 x.2.2.2.2.2.2.2.1 x.2.2.2.2.2.2.2.2) (b0_0, b0_1, l5_0, l5_1, name6, value7, part8, long9, at10)
def m22 (b_0 : Bool) (b_1 : List UInt8) : Option R22 :=
  l22_12 b_0 b_1 true ([] : List (Bs × Bs)) ([] : Bs) ([] : Bs) (0 : Int) (0 : Int) (0 : Int)
theorem f22_t (b_0 : Bool) (b_1 : List UInt8) :
    callW (E0 mm) 22 [.c (.d (.lst b_0 (enL enB b_1)))] [] = (m22 b_0 b_1).map e22 := by
  rw [callW_run (body := c22_0) (res := [.tmp 2, .tmp 3, .tmp 4]) Tryd.func22 rfl rfl (by kernel_rfl)]
  simp -implicitDefEqProofs only [m22, slots1, c22_0_e, c22_1_r, (show opsOf c22_1 = _ :: _ from rfl), c22_2_e, c22_3_r, (show opsOf c22_3 = _ :: _ from rfl), c22_4_e, c22_5_r, (show opsOf c22_5 = _ :: _ from rfl), c22_6_e, c22_7_r, (show opsOf c22_7 = _ :: _ from rfl), c22_8_e, c22_9_e, c22_10_r, (show opsOf c22_10 = _ :: _ from rfl), c22_11_e, c22_12_l, setA, setB, za, zb, zc, zd, ze, zf, zg, zh, zi, zj, zk, zl, zm, zn, zo, zp, reduceCtorEq, zE, ↓reduceIte]
  exact l22_12_t b_0 b_1 true ([] : List (Bs × Bs)) ([] : Bs) ([] : Bs) (0 : Int) (0 : Int) (0 : Int)
end
end Go.Proofs.YtaohepmbkepmiaaDoor
