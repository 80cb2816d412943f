/- The Go functions as plain functions, and that the evaluator computes them. -/
import Derived.Test.YtbdjemdhjanffaaDoorHd
set_option linter.all false
set_option maxRecDepth 100000
namespace Go.Proofs.YtbdjemdhjanffaaDoor
open Go Go.Ab
open Nat renaming reduceEqDiff → za, reduceAdd → zb, reduceLeDiff → zc, reduceLT → zd, reduceMul → ze, reduceBEq → zf, reduceSub → zg, reducePow → zh
open Int renaming reduceEq → zi, reduceLE → zj, reduceLT → zk, reduceToNat → zl, reduceNegSucc → zm, reduceAdd → zn, reduceBEq → zo
open String renaming reduceBEq → zp
set_option maxHeartbeats 4000000
noncomputable section
variable {mm : Int}
set_option maxRecDepth 100000 in
theorem f12_t : callW (E0 mm) 12 [] [] = some (.v (.c (.d (.sc (.bool true)))), []) := callN_W (k := 400) (by kernel_rfl)
noncomputable def c33_0 : Code := bodyOf Tryd.f33
def c33_1 := cA c33_0
def c33_2 := cB c33_0
def c33_3 := cA c33_2
def c33_4 := cB c33_2
def c33_5 := cA c33_4
def c33_6 := cA c33_5
def c33_7 := cB c33_5
def c33_8 := cA c33_7
def c33_9 := cA c33_8
def c33_10 := cA c33_9
def c33_11 := cB c33_9
def c33_12 := cA c33_11
def c33_13 := cA c33_12
def c33_14 := cB c33_12
def c33_15 := cB c33_11
def c33_16 := cA c33_15
def c33_17 := cA c33_16
def c33_18 := cA c33_17
def c33_19 := cB c33_17
def c33_20 := cA c33_19
def c33_21 := cB c33_19
def c33_22 := cA c33_21
def c33_23 := cB c33_21
def c33_24 := cB c33_15
def c33_25 := cB c33_4
def c33_26 := cA c33_25
def c33_27 := cB c33_25
theorem c33_0_e : c33_0 = .seq c33_1 c33_2 := rfl
theorem c33_1_r : RG (E0 mm) 33 c33_1 := rgN rfl
theorem c33_2_e : c33_2 = .seq c33_3 c33_4 := rfl
theorem c33_3_r : RG (E0 mm) 33 c33_3 := rgN rfl
theorem c33_4_e : c33_4 = .seq c33_5 c33_25 := rfl
theorem c33_5_e : c33_5 = .seq c33_6 c33_7 := rfl
theorem c33_6_r : RG (E0 mm) 33 c33_6 := rgN rfl
theorem c33_7_e : c33_7 = .block 0 c33_8 := rfl
theorem c33_8_l (m : Nat) (st : St) : den (E0 mm) 33 m (callW (E0 mm)) itW c33_8 none st = loopD itW (loopF (E0 mm) 33 m (callW (E0 mm)) itW c33_9 [(3, .keep), (8, .keep), (9, .keep), (10, .keep)]) (canon m [(3, .keep), (8, .keep), (9, .keep), (10, .keep)] st) := rfl
theorem c33_9_e : c33_9 = .seq c33_10 c33_11 := rfl
theorem c33_10_r : RG (E0 mm) 33 c33_10 := rgN rfl
theorem c33_11_e : c33_11 = .seq c33_12 c33_15 := rfl
theorem c33_13_e : c33_13 = .skip := rfl
theorem c33_14_e : c33_14 = .exit 0 := rfl
theorem c33_15_e : c33_15 = .seq c33_16 c33_24 := rfl
theorem c33_16_e : c33_16 = .block 1 c33_17 := rfl
theorem c33_17_e : c33_17 = .seq c33_18 c33_19 := rfl
theorem c33_18_r : RG (E0 mm) 33 c33_18 := rgN rfl
theorem c33_19_e : c33_19 = .seq c33_20 c33_21 := rfl
theorem c33_20_r : RG (E0 mm) 33 c33_20 := rgN rfl
theorem c33_22_r : RG (E0 mm) 33 c33_22 := rgN rfl
theorem c33_23_e : c33_23 = .skip := rfl
theorem c33_24_r : RG (E0 mm) 33 c33_24 := rgN rfl
theorem c33_25_e : c33_25 = .seq c33_26 c33_27 := rfl
theorem c33_26_r : RG (E0 mm) 33 c33_26 := rgN rfl
theorem c33_27_e : c33_27 = .ret := rfl
abbrev R33 := (Bs)
def e33 : R33 → AV × Heap := fun x => (.v (.c (.d (.sc (.string (S x))))), [])
def K33_8 : Option (Ex × St) → Option (AV × Heap) := fun r => bodyD (E0 mm) [.tmp 2] 0 false (seqD (E0 mm) 33 0 (callW (E0 mm)) itW c33_25 (blockD 0 (r)))
def en33_8 : (Nat × Nat × Int × Int × List UInt8) → X := fun x => (none, [.v (.c (.slc 0 0 1 x.1 none)), .v (.c (.slc 0 0 1 x.2.1 none)), .v (.c (.d (.sc (.int .i64 x.2.2.1)))), .v (.c (.d (.sc (.int .i64 x.2.2.2.1))))], [.cells (enC x.2.2.2.2)])
def j33_24 (b3_1 t8_1 : Nat) (t9 t10 : Int) (h0 : List UInt8) : Option ((Nat × Nat × Int × Int × List UInt8) ⊕ R33) :=
  some (.inl (b3_1, t8_1, t9, (w64 (t10 + 1)), h0))
theorem j33_24_t (b3_1 t8_1 : Nat) (t9 t10 : Int) (h0 : List UInt8)  (sl : Nat → AV) (zq3 : sl 3 = .v (.c (.slc 0 0 1 b3_1 none))) (zq8 : sl 8 = .v (.c (.slc 0 0 1 t8_1 none))) (zq9 : sl 9 = .v (.c (.d (.sc (.int .i64 t9))))) (zq10 : sl 10 = .v (.c (.d (.sc (.int .i64 t10))))) :
    stepE (K33_8 (mm := mm)) (loopK 0 [(3, .keep), (8, .keep), (9, .keep), (10, .keep)] (den (E0 mm) 33 0 (callW (E0 mm)) itW c33_24 none ⟨sl, [.cells (enC h0)]⟩)) = (j33_24 b3_1 t8_1 t9 t10 h0).map (sm en33_8 e33) := by
  simp -implicitDefEqProofs only [j33_24, c33_24_r, (show opsOf c33_24 = _ :: _ from rfl), zq3, zq8, zq9, zq10, setA, setB, za, zb, zc, zd, ze, zf, zg, zh, zi, zj, zk, zl, zm, zn, zo, zp, reduceCtorEq, zE, ↓reduceIte]
  all_goals rfl
def j33_21 (b3_1 : Nat) (i4 : Int) (c5 : UInt8) (t8_1 : Nat) (t9 t10 : Int) (t20 : Bool) (h0 : List UInt8) : Option ((Nat × Nat × Int × Int × List UInt8) ⊕ R33) :=
  if t20 = true then
    if 0 ≤ i4 ∧ i4 < (b3_1 : Int) then
      if i4.toNat < h0.length then
        j33_24 b3_1 t8_1 t9 t10 (h0.set i4.toNat ((c5 + (97 : UInt8)) - (65 : UInt8)))
      else none
    else none
  else
    j33_24 b3_1 t8_1 t9 t10 h0
theorem j33_21_t (b3_1 : Nat) (i4 : Int) (c5 : UInt8) (t8_1 : Nat) (t9 t10 : Int) (t20 : Bool) (h0 : List UInt8)  (sl : Nat → AV) (zq3 : sl 3 = .v (.c (.slc 0 0 1 b3_1 none))) (zq4 : sl 4 = .v (.c (.d (.sc (.int .i64 i4))))) (zq5 : sl 5 = .v (.c (.d (.sc (.int .u8 ((c5).toNat : Int)))))) (zq8 : sl 8 = .v (.c (.slc 0 0 1 t8_1 none))) (zq9 : sl 9 = .v (.c (.d (.sc (.int .i64 t9))))) (zq10 : sl 10 = .v (.c (.d (.sc (.int .i64 t10))))) (zq20 : sl 20 = .v (.c (.d (.sc (.bool t20))))) :
    stepE (K33_8 (mm := mm)) (loopK 0 [(3, .keep), (8, .keep), (9, .keep), (10, .keep)] (seqD (E0 mm) 33 0 (callW (E0 mm)) itW c33_24 (blockD 1 (den (E0 mm) 33 0 (callW (E0 mm)) itW c33_21 none ⟨sl, [.cells (enC h0)]⟩)))) = (j33_21 b3_1 i4 c5 t8_1 t9 t10 t20 h0).map (sm en33_8 e33) := by
  simp -implicitDefEqProofs only [j33_21, (show c33_21 = Code.cond _ c33_22 c33_23 from rfl), zq3, zq4, zq5, zq8, zq9, zq10, zq20, setA, setB, za, zb, zc, zd, ze, zf, zg, zh, zi, zj, zk, zl, zm, zn, zo, zp, reduceCtorEq, zE, ↓reduceIte]
  refine brB (fun yc6 => ?_) (fun yc6 => ?_)
  · simp -implicitDefEqProofs only [c33_22_r, (show opsOf c33_22 = _ :: _ from rfl), Tryd.underlying36, sz5, zq3, zq4, zq5, zq8, zq9, zq10, zq20, yc6, setA, setB, za, zb, zc, zd, ze, zf, zg, zh, zi, zj, zk, zl, zm, zn, zo, zp, reduceCtorEq, zE, ↓reduceIte]
    refine brP (fun yc7 => ?_) (fun yc7 => ?_)
    · have yd8 : i4.toNat < b3_1 := by omega
      simp -implicitDefEqProofs only [sz5, enC_length, enC_wr, zq3, zq4, zq5, zq8, zq9, zq10, zq20, yc6, yc7, yd8, setA, setB, za, zb, zc, zd, ze, zf, zg, zh, zi, zj, zk, zl, zm, zn, zo, zp, reduceCtorEq, zE, ↓reduceIte]
      refine brP (fun yc9 => ?_) (fun yc9 => ?_)
      · simp -implicitDefEqProofs only [zq3, zq4, zq5, zq8, zq9, zq10, zq20, yc6, yc7, yd8, yc9, setA, setB, za, zb, zc, zd, ze, zf, zg, zh, zi, zj, zk, zl, zm, zn, zo, zp, reduceCtorEq, zE, ↓reduceIte]
        exact j33_24_t b3_1 t8_1 t9 t10 (h0.set i4.toNat ((c5 + (97 : UInt8)) - (65 : UInt8))) _ (by exact zq3) (by exact zq8) (by exact zq9) (by exact zq10)
      · rw [if_neg yc9]; rfl
    · rw [if_neg yc7]; rfl
  · simp -implicitDefEqProofs only [c33_23_e, zq3, zq4, zq5, zq8, zq9, zq10, zq20, yc6, setA, setB, za, zb, zc, zd, ze, zf, zg, zh, zi, zj, zk, zl, zm, zn, zo, zp, reduceCtorEq, zE, ↓reduceIte]
    exact j33_24_t b3_1 t8_1 t9 t10 h0 _ (by exact zq3) (by exact zq8) (by exact zq9) (by exact zq10)
def j33_25 (b3_1 : Nat) (h0 : List UInt8) : Option R33 :=
  if b3_1 ≤ h0.length then
    some (h0.take b3_1)
  else none
theorem j33_25_t (b3_1 : Nat) (h0 : List UInt8)  (sl : Nat → AV) (zq3 : sl 3 = .v (.c (.slc 0 0 1 b3_1 none))) :
    bodyD (E0 mm) [.tmp 2] 0 false (den (E0 mm) 33 0 (callW (E0 mm)) itW c33_25 none ⟨sl, [.cells (enC h0)]⟩) = (j33_25 b3_1 h0).map e33 := by
  simp -implicitDefEqProofs only [j33_25, c33_25_e, c33_26_r, (show opsOf c33_26 = _ :: _ from rfl), Tryd.underlying36, Tryd.underlying9, Tryd.underlying5, enC_length, enC_take, mapM_enC, zq3, setA, setB, za, zb, zc, zd, ze, zf, zg, zh, zi, zj, zk, zl, zm, zn, zo, zp, reduceCtorEq, zE, ↓reduceIte]
  refine brP (fun yc10 => ?_) (fun yc10 => ?_)
  · simp -implicitDefEqProofs only [enC_length, enC_take, mapM_enC, (chunk_enD b3_1 h0 yc10), c33_27_e, zq3, yc10, setA, setB, za, zb, zc, zd, ze, zf, zg, zh, zi, zj, zk, zl, zm, zn, zo, zp, reduceCtorEq, zE, ↓reduceIte]
    all_goals rfl
  · rw [if_neg yc10]; rfl
def s33_8 (b3_1 t8_1 : Nat) (t9 t10 : Int) (h0 : List UInt8) : Option ((Nat × Nat × Int × Int × List UInt8) ⊕ R33) :=
  if (decide (t10 < t9)) = true then
    if 0 ≤ t10 ∧ t10 < (t8_1 : Int) then
      if t10.toNat < h0.length then
        if (decide ((65 : UInt8) ≤ (h0.getD t10.toNat 0))) = true then
          j33_21 b3_1 t10 (h0.getD t10.toNat 0) t8_1 t9 t10 (decide ((h0.getD t10.toNat 0) ≤ (90 : UInt8))) h0
        else
          j33_21 b3_1 t10 (h0.getD t10.toNat 0) t8_1 t9 t10 false h0
      else none
    else none
  else
    (j33_25 b3_1 h0).map .inr
theorem s33_8_t (b3_1 t8_1 : Nat) (t9 t10 : Int) (h0 : List UInt8) :
    stepE (K33_8 (mm := mm)) (loopF (E0 mm) 33 0 (callW (E0 mm)) itW c33_9 [(3, .keep), (8, .keep), (9, .keep), (10, .keep)] (none, [.v (.c (.slc 0 0 1 b3_1 none)), .v (.c (.slc 0 0 1 t8_1 none)), .v (.c (.d (.sc (.int .i64 t9)))), .v (.c (.d (.sc (.int .i64 t10))))], [.cells (enC h0)])) = (s33_8 b3_1 t8_1 t9 t10 h0).map (sm en33_8 e33) := by
  simp -implicitDefEqProofs only [s33_8, loopF_eq, c33_9_e, c33_10_r, (show opsOf c33_10 = _ :: _ from rfl), c33_11_e, (show c33_12 = Code.cond _ c33_13 c33_14 from rfl), setA, setB, za, zb, zc, zd, ze, zf, zg, zh, zi, zj, zk, zl, zm, zn, zo, zp, reduceCtorEq, zE, ↓reduceIte]
  refine brB (fun yc1 => ?_) (fun yc1 => ?_)
  · simp -implicitDefEqProofs only [c33_13_e, c33_15_e, c33_16_e, c33_17_e, c33_18_r, (show opsOf c33_18 = _ :: _ from rfl), Tryd.underlying36, sz5, yc1, setA, setB, za, zb, zc, zd, ze, zf, zg, zh, zi, zj, zk, zl, zm, zn, zo, zp, reduceCtorEq, zE, ↓reduceIte]
    refine brP (fun yc2 => ?_) (fun yc2 => ?_)
    · have yd3 : t10.toNat < t8_1 := by omega
      simp -implicitDefEqProofs only [sz5, ag5, enC_length, yc1, yc2, yd3, setA, setB, za, zb, zc, zd, ze, zf, zg, zh, zi, zj, zk, zl, zm, zn, zo, zp, reduceCtorEq, zE, ↓reduceIte]
      refine brP (fun yc4 => ?_) (fun yc4 => ?_)
      · simp -implicitDefEqProofs only [(enC_load h0 t10.toNat yc4), c33_19_e, c33_20_r, (show opsOf c33_20 = _ :: _ from rfl), yc1, yc2, yd3, yc4, setA, setB, za, zb, zc, zd, ze, zf, zg, zh, zi, zj, zk, zl, zm, zn, zo, zp, reduceCtorEq, zE, ↓reduceIte]
        refine brB (fun yc5 => ?_) (fun yc5 => ?_)
        · simp -implicitDefEqProofs only [yc1, yc2, yd3, yc4, yc5, setA, setB, za, zb, zc, zd, ze, zf, zg, zh, zi, zj, zk, zl, zm, zn, zo, zp, reduceCtorEq, zE, ↓reduceIte]
          exact j33_21_t b3_1 t10 (h0.getD t10.toNat 0) t8_1 t9 t10 (decide ((h0.getD t10.toNat 0) ≤ (90 : UInt8))) h0 _ (by rfl) (by rfl) (by rfl) (by rfl) (by rfl) (by rfl) (by rfl)
        · simp -implicitDefEqProofs only [yc1, yc2, yd3, yc4, yc5, setA, setB, za, zb, zc, zd, ze, zf, zg, zh, zi, zj, zk, zl, zm, zn, zo, zp, reduceCtorEq, zE, ↓reduceIte]
          exact j33_21_t b3_1 t10 (h0.getD t10.toNat 0) t8_1 t9 t10 false h0 _ (by rfl) (by rfl) (by rfl) (by rfl) (by rfl) (by rfl) (by rfl)
      · rw [if_neg yc4]; rfl
    · rw [if_neg yc2]; rfl
  · simp -implicitDefEqProofs only [c33_14_e, K33_8, yc1, setA, setB, za, zb, zc, zd, ze, zf, zg, zh, zi, zj, zk, zl, zm, zn, zo, zp, reduceCtorEq, zE, ↓reduceIte]
    exact mi (j33_25_t b3_1 h0 _ (by rfl))
def l33_8 (b3_1 t8_1 : Nat) (t9 t10 : Int) (h0 : List UInt8) : Option R33 := iter (fun x : (Nat × Nat × Int × Int × List UInt8) => s33_8 x.1 x.2.1 x.2.2.1 x.2.2.2.1 x.2.2.2.2) (b3_1, t8_1, t9, t10, h0)
theorem l33_8_t (b3_1 t8_1 : Nat) (t9 t10 : Int) (h0 : List UInt8) : bodyD (E0 mm) [.tmp 2] 0 false (seqD (E0 mm) 33 0 (callW (E0 mm)) itW c33_25 (blockD 0 (itW (loopF (E0 mm) 33 0 (callW (E0 mm)) itW c33_9 [(3, .keep), (8, .keep), (9, .keep), (10, .keep)]) (none, [.v (.c (.slc 0 0 1 b3_1 none)), .v (.c (.slc 0 0 1 t8_1 none)), .v (.c (.d (.sc (.int .i64 t9)))), .v (.c (.d (.sc (.int .i64 t10))))], [.cells (enC h0)])))) = (l33_8 b3_1 t8_1 t9 t10 h0).map e33 :=
  it_sim (K := (K33_8 (mm := mm))) rfl (enc := en33_8) (fun x => s33_8_t x.1 x.2.1 x.2.2.1 x.2.2.2.1 x.2.2.2.2) (b3_1, t8_1, t9, t10, h0)
def m33 (s : Bs) : Option R33 :=
  l33_8 s.length s.length (s.length : Int) (0 : Int) s
theorem f33_t (s : Bs) :
    callW (E0 mm) 33 [.c (.d (.sc (.string (S s))))] [] = (m33 s).map e33 := by
  rw [callW_run (body := c33_0) (res := [.tmp 2]) Tryd.func33 rfl rfl (by kernel_rfl)]
  simp -implicitDefEqProofs only [m33, slots1, c33_0_e, c33_1_r, (show opsOf c33_1 = _ :: _ from rfl), c33_2_e, c33_3_r, (show opsOf c33_3 = _ :: _ from rfl), Tryd.underlying9, Tryd.underlying36, Tryd.underlying5, hd4, enC_S, S_size, c33_4_e, c33_5_e, c33_6_r, (show opsOf c33_6 = _ :: _ from rfl), c33_7_e, c33_8_l, setA, setB, za, zb, zc, zd, ze, zf, zg, zh, zi, zj, zk, zl, zm, zn, zo, zp, reduceCtorEq, zE, ↓reduceIte]
  exact l33_8_t s.length s.length (s.length : Int) (0 : Int) s
noncomputable def c15_0 : Code := bodyOf Tryd.f15
def c15_1 := cA c15_0
def c15_2 := cB c15_0
def c15_3 := cA c15_2
def c15_4 := cB c15_2
theorem c15_0_e : c15_0 = .seq c15_1 c15_2 := rfl
theorem c15_1_r : RG (E0 mm) 15 c15_1 := rgN rfl
theorem c15_2_e : c15_2 = .seq c15_3 c15_4 := rfl
theorem c15_3_r : RG (E0 mm) 15 c15_3 := rgN rfl
theorem c15_4_e : c15_4 = .ret := rfl
abbrev R15 := (Bool)
def e15 : R15 → AV × Heap := fun x => (.v (.c (.d (.sc (.bool x)))), [])
def m15 (a b : Bs) : Option R15 :=
  (m33 a).bind fun yr2 =>
    (m33 b).bind fun yr4 =>
      some (yr2 == yr4)
theorem f15_t (a b : Bs) :
    callW (E0 mm) 15 [.c (.d (.sc (.string (S a)))), .c (.d (.sc (.string (S b))))] [] = (m15 a b).map e15 := by
  rw [callW_run (body := c15_0) (res := [.tmp 4]) Tryd.func15 rfl rfl (by kernel_rfl)]
  simp -implicitDefEqProofs only [m15, slots2, c15_0_e, c15_1_r, (show opsOf c15_1 = _ :: _ from rfl), c15_2_e, c15_3_r, (show opsOf c15_3 = _ :: _ from rfl), ent33, prm33, f33_t, setA, setB, za, zb, zc, zd, ze, zf, zg, zh, zi, zj, zk, zl, zm, zn, zo, zp, reduceCtorEq, zE, ↓reduceIte]
  refine brM (fun yc1 => ?_) (fun yr2 yc1 => ?_)
  · rw [yc1]; rfl
  · simp -implicitDefEqProofs only [e33, ent33, prm33, f33_t, yc1, setA, setB, za, zb, zc, zd, ze, zf, zg, zh, zi, zj, zk, zl, zm, zn, zo, zp, reduceCtorEq, zE, ↓reduceIte]
    refine brM (fun yc3 => ?_) (fun yr4 yc3 => ?_)
    · rw [yc3]; rfl
    · simp -implicitDefEqProofs only [e33, c15_4_e, yc1, yc3, setA, setB, za, zb, zc, zd, ze, zf, zg, zh, zi, zj, zk, zl, zm, zn, zo, zp, reduceCtorEq, zE, ↓reduceIte]
      all_goals rfl
noncomputable def c24_0 : Code := bodyOf Tryd.f24
def c24_1 := cA c24_0
def c24_2 := cB c24_0
def c24_3 := cA c24_2
def c24_4 := cB c24_2
def c24_5 := cA c24_4
def c24_6 := cA c24_5
def c24_7 := cB c24_5
def c24_8 := cA c24_7
def c24_9 := cA c24_8
def c24_10 := cA c24_9
def c24_11 := cB c24_9
def c24_12 := cA c24_11
def c24_13 := cA c24_12
def c24_14 := cB c24_12
def c24_15 := cB c24_11
def c24_16 := cA c24_15
def c24_17 := cA c24_16
def c24_18 := cA c24_17
def c24_19 := cB c24_17
def c24_20 := cA c24_19
def c24_21 := cB c24_19
def c24_22 := cA c24_21
def c24_23 := cB c24_21
def c24_24 := cB c24_15
def c24_25 := cB c24_4
def c24_26 := cA c24_25
def c24_27 := cB c24_25
theorem c24_0_e : c24_0 = .seq c24_1 c24_2 := rfl
theorem c24_1_r : RG (E0 mm) 24 c24_1 := rgN rfl
theorem c24_2_e : c24_2 = .seq c24_3 c24_4 := rfl
theorem c24_3_r : RG (E0 mm) 24 c24_3 := rgN rfl
theorem c24_4_e : c24_4 = .seq c24_5 c24_25 := rfl
theorem c24_5_e : c24_5 = .seq c24_6 c24_7 := rfl
theorem c24_6_r : RG (E0 mm) 24 c24_6 := rgN rfl
theorem c24_7_e : c24_7 = .block 0 c24_8 := rfl
theorem c24_8_l (m : Nat) (st : St) : den (E0 mm) 24 m (callW (E0 mm)) itW c24_8 none st = loopD itW (loopF (E0 mm) 24 m (callW (E0 mm)) itW c24_9 [(1, .keep), (5, .own), (8, .keep), (9, .keep), (10, .keep)]) (canon m [(1, .keep), (5, .own), (8, .keep), (9, .keep), (10, .keep)] st) := rfl
theorem c24_9_e : c24_9 = .seq c24_10 c24_11 := rfl
theorem c24_10_r : RG (E0 mm) 24 c24_10 := rgN rfl
theorem c24_11_e : c24_11 = .seq c24_12 c24_15 := rfl
theorem c24_13_e : c24_13 = .skip := rfl
theorem c24_14_e : c24_14 = .exit 0 := rfl
theorem c24_15_e : c24_15 = .seq c24_16 c24_24 := rfl
theorem c24_16_e : c24_16 = .block 1 c24_17 := rfl
theorem c24_17_e : c24_17 = .seq c24_18 c24_19 := rfl
theorem c24_18_r : RG (E0 mm) 24 c24_18 := rgN rfl
theorem c24_19_e : c24_19 = .seq c24_20 c24_21 := rfl
theorem c24_20_r : RG (E0 mm) 24 c24_20 := rgN rfl
theorem c24_22_r : RG (E0 mm) 24 c24_22 := rgN rfl
theorem c24_23_e : c24_23 = .skip := rfl
theorem c24_24_r : RG (E0 mm) 24 c24_24 := rgN rfl
theorem c24_25_e : c24_25 = .seq c24_26 c24_27 := rfl
theorem c24_26_r : RG (E0 mm) 24 c24_26 := rgN rfl
theorem c24_27_e : c24_27 = .ret := rfl
abbrev R24 := (Bool × List Bs)
def e24 : R24 → AV × Heap := fun x => (.v (.c (.own x.1 (enL enS x.2) 0)), [.row x.2.length (rz x.1 1)])
def K24_8 : Option (Ex × St) → Option (AV × Heap) := fun r => bodyD (E0 mm) [.tmp 4] 0 false (seqD (E0 mm) 24 0 (callW (E0 mm)) itW c24_25 (blockD 0 (r)))
def en24_8 : (Bs × Bool × List Bs × Bool × List (Bs × Bs) × Int × Int) → X := fun x => (none, [.v (.c (.d (.sc (.string (S x.1))))), .v (.c (.own x.2.1 (enL enS x.2.2.1) 0)), .v (.c (.d (.lst x.2.2.2.1 (enL enSS x.2.2.2.2.1)))), .v (.c (.d (.sc (.int .i64 x.2.2.2.2.2.1)))), .v (.c (.d (.sc (.int .i64 x.2.2.2.2.2.2))))], [.row x.2.2.1.length (rz x.2.1 1)])
def j24_24 (name1 : Bs) (out5_0 : Bool) (out5_1 : List Bs) (t8_0 : Bool) (t8_1 : List (Bs × Bs)) (t9 t10 : Int) : Option ((Bs × Bool × List Bs × Bool × List (Bs × Bs) × Int × Int) ⊕ R24) :=
  some (.inl (name1, out5_0, out5_1, t8_0, t8_1, t9, (w64 (t10 + 1))))
theorem j24_24_t (name1 : Bs) (out5_0 : Bool) (out5_1 : List Bs) (t8_0 : Bool) (t8_1 : List (Bs × Bs)) (t9 t10 : Int) (g1 : Ob) (sl : Nat → AV) (zq1 : sl 1 = .v (.c (.d (.sc (.string (S name1)))))) (zq5 : sl 5 = .v (.c (.own out5_0 (enL enS out5_1) 0))) (zq8 : sl 8 = .v (.c (.d (.lst t8_0 (enL enSS t8_1))))) (zq9 : sl 9 = .v (.c (.d (.sc (.int .i64 t9))))) (zq10 : sl 10 = .v (.c (.d (.sc (.int .i64 t10))))) :
    stepE (K24_8 (mm := mm)) (loopK 0 [(1, .keep), (5, .own), (8, .keep), (9, .keep), (10, .keep)] (den (E0 mm) 24 0 (callW (E0 mm)) itW c24_24 none ⟨sl, [.row out5_1.length (rz out5_0 1), g1]⟩)) = (j24_24 name1 out5_0 out5_1 t8_0 t8_1 t9 t10).map (sm en24_8 e24) := by
  simp -implicitDefEqProofs only [j24_24, c24_24_r, (show opsOf c24_24 = _ :: _ from rfl), zq1, zq5, zq8, zq9, zq10, setA, setB, za, zb, zc, zd, ze, zf, zg, zh, zi, zj, zk, zl, zm, zn, zo, zp, reduceCtorEq, zE, ↓reduceIte]
  all_goals rfl
def j24_25 (out5_0 : Bool) (out5_1 : List Bs) : Option R24 :=
  some (out5_0, out5_1)
theorem j24_25_t (out5_0 : Bool) (out5_1 : List Bs)  (sl : Nat → AV) (zq5 : sl 5 = .v (.c (.own out5_0 (enL enS out5_1) 0))) :
    bodyD (E0 mm) [.tmp 4] 0 false (den (E0 mm) 24 0 (callW (E0 mm)) itW c24_25 none ⟨sl, [.row out5_1.length (rz out5_0 1)]⟩) = (j24_25 out5_0 out5_1).map e24 := by
  simp -implicitDefEqProofs only [j24_25, c24_25_e, c24_26_r, (show opsOf c24_26 = _ :: _ from rfl), c24_27_e, zq5, setA, setB, za, zb, zc, zd, ze, zf, zg, zh, zi, zj, zk, zl, zm, zn, zo, zp, reduceCtorEq, zE, ↓reduceIte]
  all_goals rfl
def s24_8 (name1 : Bs) (out5_0 : Bool) (out5_1 : List Bs) (t8_0 : Bool) (t8_1 : List (Bs × Bs)) (t9 t10 : Int) : Option ((Bs × Bool × List Bs × Bool × List (Bs × Bs) × Int × Int) ⊕ R24) :=
  if (decide (t10 < t9)) = true then
    if 0 ≤ t10 ∧ t10 < (t8_1.length : Int) then
      (m15 ((t8_1.getD t10.toNat default).1) name1).bind fun yr5 =>
        if yr5 = true then
          if (out5_1.length + 1) * 16 ≤ 140737488355328 then
            j24_24 name1 false (out5_1 ++ ([(t8_1.getD t10.toNat default).2] : List Bs)) t8_0 t8_1 t9 t10
          else none
        else
          j24_24 name1 out5_0 out5_1 t8_0 t8_1 t9 t10
    else none
  else
    (j24_25 out5_0 out5_1).map .inr
theorem s24_8_t (name1 : Bs) (out5_0 : Bool) (out5_1 : List Bs) (t8_0 : Bool) (t8_1 : List (Bs × Bs)) (t9 t10 : Int) :
    stepE (K24_8 (mm := mm)) (loopF (E0 mm) 24 0 (callW (E0 mm)) itW c24_9 [(1, .keep), (5, .own), (8, .keep), (9, .keep), (10, .keep)] (none, [.v (.c (.d (.sc (.string (S name1))))), .v (.c (.own out5_0 (enL enS out5_1) 0)), .v (.c (.d (.lst t8_0 (enL enSS t8_1)))), .v (.c (.d (.sc (.int .i64 t9)))), .v (.c (.d (.sc (.int .i64 t10))))], [.row out5_1.length (rz out5_0 1)])) = (s24_8 name1 out5_0 out5_1 t8_0 t8_1 t9 t10).map (sm en24_8 e24) := by
  simp -implicitDefEqProofs only [s24_8, loopF_eq, c24_9_e, c24_10_r, (show opsOf c24_10 = _ :: _ from rfl), c24_11_e, (show c24_12 = Code.cond _ c24_13 c24_14 from rfl), setA, setB, za, zb, zc, zd, ze, zf, zg, zh, zi, zj, zk, zl, zm, zn, zo, zp, reduceCtorEq, zE, ↓reduceIte]
  refine brB (fun yc1 => ?_) (fun yc1 => ?_)
  · simp -implicitDefEqProofs only [c24_13_e, c24_15_e, c24_16_e, c24_17_e, c24_18_r, (show opsOf c24_18 = _ :: _ from rfl), Tryd.underlying22, sz33, enSS_a, yc1, setA, setB, za, zb, zc, zd, ze, zf, zg, zh, zi, zj, zk, zl, zm, zn, zo, zp, reduceCtorEq, zE, ↓reduceIte]
    refine brP (fun yc2 => ?_) (fun yc2 => ?_)
    · have yd3 : t10.toNat < t8_1.length := by omega
      simp -implicitDefEqProofs only [(enL_get enSS t8_1 t10.toNat yd3), enSS_e, sz33, ag33, zc33, ao3, c24_19_e, c24_20_r, (show opsOf c24_20 = _ :: _ from rfl), Tryd.underlying33, sz9, ag9, ent15, prm15, f15_t, yc1, yc2, yd3, setA, setB, za, zb, zc, zd, ze, zf, zg, zh, zi, zj, zk, zl, zm, zn, zo, zp, reduceCtorEq, zE, ↓reduceIte]
      refine brM (fun yc4 => ?_) (fun yr5 yc4 => ?_)
      · rw [yc4]; rfl
      · simp -implicitDefEqProofs only [e15, (show c24_21 = Code.cond _ c24_22 c24_23 from rfl), yc1, yc2, yd3, yc4, setA, setB, za, zb, zc, zd, ze, zf, zg, zh, zi, zj, zk, zl, zm, zn, zo, zp, reduceCtorEq, zE, ↓reduceIte]
        refine brB (fun yc6 => ?_) (fun yc6 => ?_)
        · simp -implicitDefEqProofs only [c24_22_r, (show opsOf c24_22 = _ :: _ from rfl), Tryd.underlying33, sz9, ag9, Tryd.underlying30, zc9, hd5, nv6, rw7, ns8, ap30, yc1, yc2, yd3, yc4, yc6, setA, setB, za, zb, zc, zd, ze, zf, zg, zh, zi, zj, zk, zl, zm, zn, zo, zp, reduceCtorEq, zE, ↓reduceIte]
          refine brP (fun yc7 => ?_) (fun yc7 => ?_)
          · simp -implicitDefEqProofs only [yc1, yc2, yd3, yc4, yc6, yc7, setA, setB, za, zb, zc, zd, ze, zf, zg, zh, zi, zj, zk, zl, zm, zn, zo, zp, reduceCtorEq, zE, ↓reduceIte]
            exact j24_24_t name1 false (out5_1 ++ ([(t8_1.getD t10.toNat default).2] : List Bs)) t8_0 t8_1 t9 t10 _ _ (by rfl) (by rfl) (by rfl) (by rfl) (by rfl)
          · rw [if_neg yc7]; rfl
        · simp -implicitDefEqProofs only [c24_23_e, yc1, yc2, yd3, yc4, yc6, setA, setB, za, zb, zc, zd, ze, zf, zg, zh, zi, zj, zk, zl, zm, zn, zo, zp, reduceCtorEq, zE, ↓reduceIte]
          exact j24_24_t name1 out5_0 out5_1 t8_0 t8_1 t9 t10 _ _ (by rfl) (by rfl) (by rfl) (by rfl) (by rfl)
    · rw [if_neg yc2]; rfl
  · simp -implicitDefEqProofs only [c24_14_e, K24_8, yc1, setA, setB, za, zb, zc, zd, ze, zf, zg, zh, zi, zj, zk, zl, zm, zn, zo, zp, reduceCtorEq, zE, ↓reduceIte]
    exact mi (j24_25_t out5_0 out5_1 _ (by rfl))
def l24_8 (name1 : Bs) (out5_0 : Bool) (out5_1 : List Bs) (t8_0 : Bool) (t8_1 : List (Bs × Bs)) (t9 t10 : Int) : Option R24 := iter (fun x : (Bs × Bool × List Bs × Bool × List (Bs × Bs) × Int × Int) => s24_8 x.1 x.2.1 x.2.2.1 x.2.2.2.1 x.2.2.2.2.1 x.2.2.2.2.2.1 x.2.2.2.2.2.2) (name1, out5_0, out5_1, t8_0, t8_1, t9, t10)
theorem l24_8_t (name1 : Bs) (out5_0 : Bool) (out5_1 : List Bs) (t8_0 : Bool) (t8_1 : List (Bs × Bs)) (t9 t10 : Int) : bodyD (E0 mm) [.tmp 4] 0 false (seqD (E0 mm) 24 0 (callW (E0 mm)) itW c24_25 (blockD 0 (itW (loopF (E0 mm) 24 0 (callW (E0 mm)) itW c24_9 [(1, .keep), (5, .own), (8, .keep), (9, .keep), (10, .keep)]) (none, [.v (.c (.d (.sc (.string (S name1))))), .v (.c (.own out5_0 (enL enS out5_1) 0)), .v (.c (.d (.lst t8_0 (enL enSS t8_1)))), .v (.c (.d (.sc (.int .i64 t9)))), .v (.c (.d (.sc (.int .i64 t10))))], [.row out5_1.length (rz out5_0 1)])))) = (l24_8 name1 out5_0 out5_1 t8_0 t8_1 t9 t10).map e24 :=
  it_sim (K := (K24_8 (mm := mm))) rfl (enc := en24_8) (fun x => s24_8_t x.1 x.2.1 x.2.2.1 x.2.2.2.1 x.2.2.2.2.1 x.2.2.2.2.2.1 x.2.2.2.2.2.2) (name1, out5_0, out5_1, t8_0, t8_1, t9, t10)
def m24 (l_0 : Bool) (l_1 : List (Bs × Bs)) (name : Bs) : Option R24 :=
  l24_8 name true ([] : List Bs) l_0 l_1 (l_1.length : Int) (0 : Int)
theorem f24_t (l_0 : Bool) (l_1 : List (Bs × Bs)) (name : Bs) :
    callW (E0 mm) 24 [.c (.d (.lst l_0 (enL enSS l_1))), .c (.d (.sc (.string (S name))))] [] = (m24 l_0 l_1 name).map e24 := by
  rw [callW_run (body := c24_0) (res := [.tmp 4]) Tryd.func24 rfl rfl (by kernel_rfl)]
  simp -implicitDefEqProofs only [m24, slots2, c24_0_e, c24_1_r, (show opsOf c24_1 = _ :: _ from rfl), c24_2_e, c24_3_r, (show opsOf c24_3 = _ :: _ from rfl), c24_4_e, c24_5_e, c24_6_r, (show opsOf c24_6 = _ :: _ from rfl), Tryd.underlying22, c24_7_e, c24_8_l, setA, setB, za, zb, zc, zd, ze, zf, zg, zh, zi, zj, zk, zl, zm, zn, zo, zp, reduceCtorEq, zE, ↓reduceIte]
  exact l24_8_t name true ([] : List Bs) l_0 l_1 (l_1.length : Int) (0 : Int)
noncomputable def c35_0 : Code := bodyOf Tryd.f35
def c35_1 := cA c35_0
def c35_2 := cB c35_0
def c35_3 := cA c35_2
def c35_4 := cB c35_2
theorem c35_0_e : c35_0 = .seq c35_1 c35_2 := rfl
theorem c35_1_r : RG (E0 mm) 35 c35_1 := rgN rfl
theorem c35_2_e : c35_2 = .seq c35_3 c35_4 := rfl
theorem c35_3_r : RG (E0 mm) 35 c35_3 := rgN rfl
theorem c35_4_e : c35_4 = .ret := rfl
abbrev R35 := (Bs)
def e35 : R35 → AV × Heap := fun x => (.v (.c (.d (.sc (.string (S x))))), [])
def m35 (s : Bs) : Option R35 :=
  (mTrim s ([32, 9] : Bs)).bind fun yr2 =>
    some yr2
theorem f35_t (s : Bs) :
    callW (E0 mm) 35 [.c (.d (.sc (.string (S s))))] [] = (m35 s).map e35 := by
  rw [callW_run (body := c35_0) (res := [.tmp 2]) Tryd.func35 rfl rfl (by kernel_rfl)]
  simp -implicitDefEqProofs only [m35, slots1, c35_0_e, c35_1_r, (show opsOf c35_1 = _ :: _ from rfl), c35_2_e, c35_3_r, (show opsOf c35_3 = _ :: _ from rfl), ent43, prm43, pTrim_t, setA, setB, za, zb, zc, zd, ze, zf, zg, zh, zi, zj, zk, zl, zm, zn, zo, zp, reduceCtorEq, zE, ↓reduceIte]
  refine brM (fun yc1 => ?_) (fun yr2 yc1 => ?_)
  · rw [yc1]; rfl
  · simp -implicitDefEqProofs only [pTrim_t, c35_4_e, yc1, setA, setB, za, zb, zc, zd, ze, zf, zg, zh, zi, zj, zk, zl, zm, zn, zo, zp, reduceCtorEq, zE, ↓reduceIte]
    all_goals rfl
noncomputable def c34_0 : Code := bodyOf Tryd.f34
def c34_1 := cA c34_0
def c34_2 := cA c34_1
def c34_3 := cB c34_1
def c34_4 := cA c34_3
def c34_5 := cB c34_3
def c34_6 := cA c34_5
def c34_7 := cB c34_5
def c34_8 := cB c34_0
theorem c34_0_e : c34_0 = .seq c34_1 c34_8 := rfl
theorem c34_1_e : c34_1 = .seq c34_2 c34_3 := rfl
theorem c34_2_r : RG (E0 mm) 34 c34_2 := rgN rfl
theorem c34_3_e : c34_3 = .seq c34_4 c34_5 := rfl
theorem c34_4_r : RG (E0 mm) 34 c34_4 := rgN rfl
theorem c34_6_r : RG (E0 mm) 34 c34_6 := rgN rfl
theorem c34_7_e : c34_7 = .skip := rfl
theorem c34_8_r : RG (E0 mm) 34 c34_8 := rgN rfl
abbrev R34 := (Bs × Int × Bool × List Bs)
def e34 : R34 → AV × Heap := fun x => (.tup [], [.cells [.d (.sc (.string (S x.1)))], .cells [.d (.sc (.int .i64 x.2.1))], .cells [.own x.2.2.1 (enL enS x.2.2.2) 3], .row x.2.2.2.length (rz x.2.2.1 1)])
def j34_8 (to0 : Int) (h0_0 : Bs) (h1_0 : Int) (h2_0_0 : Bool) (h2_0_1 : List Bs) : Option R34 :=
  some (h0_0, (w64 (to0 + 1)), h2_0_0, h2_0_1)
theorem j34_8_t (to0 : Int) (h0_0 : Bs) (h1_0 : Int) (h2_0_0 : Bool) (h2_0_1 : List Bs)  (sl : Nat → AV) (zq0 : sl 0 = .v (.c (.d (.sc (.int .i64 to0))))) (zq2 : sl 2 = .v (.c (.ptr 1 0))) :
    bodyD (E0 mm) [] 4 false (den (E0 mm) 34 4 (callW (E0 mm)) itW c34_8 none ⟨sl, [.cells [.d (.sc (.string (S h0_0)))], .cells [.d (.sc (.int .i64 h1_0))], .cells [.own h2_0_0 (enL enS h2_0_1) 3], .row h2_0_1.length (rz h2_0_0 1)]⟩) = (j34_8 to0 h0_0 h1_0 h2_0_0 h2_0_1).map e34 := by
  simp -implicitDefEqProofs only [j34_8, c34_8_r, (show opsOf c34_8 = _ :: _ from rfl), sz3, zq0, zq2, setA, setB, za, zb, zc, zd, ze, zf, zg, zh, zi, zj, zk, zl, zm, zn, zo, zp, reduceCtorEq, zE, ↓reduceIte]
  all_goals rfl
def m34 (to : Int) (h0_0 : Bs) (h1_0 : Int) (h2_0_0 : Bool) (h2_0_1 : List Bs) : Option R34 :=
  (bnd to h0_0.length).bind fun yk2 =>
    (bnd h1_0 yk2).bind fun yk4 =>
      (m35 ((h0_0.take yk2).drop yk4)).bind fun yr6 =>
        if (yr6 == ([] : Bs)) = true then
          j34_8 to h0_0 h1_0 h2_0_0 h2_0_1
        else
          if (h2_0_1.length + 1) * 16 ≤ 140737488355328 then
            j34_8 to h0_0 h1_0 false (h2_0_1 ++ ([yr6] : List Bs))
          else none
theorem f34_t (to : Int) (h0_0 : Bs) (h1_0 : Int) (h2_0_0 : Bool) (h2_0_1 : List Bs) :
    callW (E0 mm) 34 [.c (.d (.sc (.int .i64 to))), .c (.ptr 0 0), .c (.ptr 1 0), .c (.ptr 2 0)] [.cells [.d (.sc (.string (S h0_0)))], .cells [.d (.sc (.int .i64 h1_0))], .cells [.own h2_0_0 (enL enS h2_0_1) 3], .row h2_0_1.length (rz h2_0_0 1)] = (m34 to h0_0 h1_0 h2_0_0 h2_0_1).map e34 := by
  rw [callW_run (body := c34_0) (res := []) Tryd.func34 rfl rfl (by kernel_rfl)]
  simp -implicitDefEqProofs only [m34, slots4, c34_0_e, c34_1_e, c34_2_r, (show opsOf c34_2 = _ :: _ from rfl), sz9, ag9, sz3, ag3, Tryd.underlying9, setA, setB, za, zb, zc, zd, ze, zf, zg, zh, zi, zj, zk, zl, zm, zn, zo, zp, reduceCtorEq, zE, ↓reduceIte]
  refine brM (fun yc1 => ?_) (fun yk2 yc1 => ?_)
  · rw [yc1]; rfl
  · simp -implicitDefEqProofs only [yc1, setA, setB, za, zb, zc, zd, ze, zf, zg, zh, zi, zj, zk, zl, zm, zn, zo, zp, reduceCtorEq, zE, ↓reduceIte]
    refine brM (fun yc3 => ?_) (fun yk4 yc3 => ?_)
    · rw [yc3]; rfl
    · simp -implicitDefEqProofs only [ent35, prm35, f35_t, yc1, yc3, setA, setB, za, zb, zc, zd, ze, zf, zg, zh, zi, zj, zk, zl, zm, zn, zo, zp, reduceCtorEq, zE, ↓reduceIte]
      refine brM (fun yc5 => ?_) (fun yr6 yc5 => ?_)
      · rw [yc5]; rfl
      · simp -implicitDefEqProofs only [e35, c34_3_e, c34_4_r, (show opsOf c34_4 = _ :: _ from rfl), (show c34_5 = Code.cond _ c34_6 c34_7 from rfl), yc1, yc3, yc5, setA, setB, za, zb, zc, zd, ze, zf, zg, zh, zi, zj, zk, zl, zm, zn, zo, zp, reduceCtorEq, zE, ↓reduceIte]
        refine brB (fun yc7 => ?_) (fun yc7 => ?_)
        · simp -implicitDefEqProofs only [c34_7_e, yc1, yc3, yc5, yc7, setA, setB, za, zb, zc, zd, ze, zf, zg, zh, zi, zj, zk, zl, zm, zn, zo, zp, reduceCtorEq, zE, ↓reduceIte]
          exact j34_8_t to h0_0 h1_0 h2_0_0 h2_0_1 _ (by rfl) (by rfl)
        · simp -implicitDefEqProofs only [c34_6_r, (show opsOf c34_6 = _ :: _ from rfl), sz30, ag30, Tryd.underlying30, sz9, zc9, hd12, nv13, rw14, ns8, ap30, yc1, yc3, yc5, yc7, setA, setB, za, zb, zc, zd, ze, zf, zg, zh, zi, zj, zk, zl, zm, zn, zo, zp, reduceCtorEq, zE, ↓reduceIte]
          refine brP (fun yc8 => ?_) (fun yc8 => ?_)
          · simp -implicitDefEqProofs only [sz30, yc1, yc3, yc5, yc7, yc8, setA, setB, za, zb, zc, zd, ze, zf, zg, zh, zi, zj, zk, zl, zm, zn, zo, zp, reduceCtorEq, zE, ↓reduceIte]
            exact j34_8_t to h0_0 h1_0 false (h2_0_1 ++ ([yr6] : List Bs)) _ (by rfl) (by rfl)
          · rw [if_neg yc8]; rfl
noncomputable def c16_0 : Code := bodyOf Tryd.f16
def c16_1 := cA c16_0
def c16_2 := cB c16_0
def c16_3 := cA c16_2
def c16_4 := cB c16_2
def c16_5 := cA c16_4
def c16_6 := cB c16_4
def c16_7 := cA c16_6
def c16_8 := cB c16_6
def c16_9 := cA c16_8
def c16_10 := cA c16_9
def c16_11 := cB c16_9
def c16_12 := cA c16_11
def c16_13 := cA c16_12
def c16_14 := cA c16_13
def c16_15 := cB c16_13
def c16_16 := cA c16_15
def c16_17 := cA c16_16
def c16_18 := cB c16_16
def c16_19 := cB c16_15
def c16_20 := cA c16_19
def c16_21 := cA c16_20
def c16_22 := cB c16_20
def c16_23 := cA c16_22
def c16_24 := cA c16_23
def c16_25 := cB c16_23
def c16_26 := cA c16_25
def c16_27 := cB c16_25
def c16_28 := cA c16_27
def c16_29 := cB c16_27
def c16_30 := cA c16_29
def c16_31 := cB c16_29
def c16_32 := cA c16_31
def c16_33 := cB c16_31
def c16_34 := cA c16_33
def c16_35 := cB c16_33
def c16_36 := cA c16_35
def c16_37 := cB c16_35
def c16_38 := cA c16_37
def c16_39 := cB c16_37
def c16_40 := cB c16_8
def c16_41 := cA c16_40
def c16_42 := cB c16_40
def c16_43 := cA c16_42
def c16_44 := cB c16_42
theorem c16_0_e : c16_0 = .seq c16_1 c16_2 := rfl
theorem c16_1_r : RG (E0 mm) 16 c16_1 := rgN rfl
theorem c16_2_e : c16_2 = .seq c16_3 c16_4 := rfl
theorem c16_3_r : RG (E0 mm) 16 c16_3 := rgN rfl
theorem c16_4_e : c16_4 = .seq c16_5 c16_6 := rfl
theorem c16_5_r : RG (E0 mm) 16 c16_5 := rgN rfl
theorem c16_6_e : c16_6 = .seq c16_7 c16_8 := rfl
theorem c16_7_r : RG (E0 mm) 16 c16_7 := rgN rfl
theorem c16_8_e : c16_8 = .seq c16_9 c16_40 := rfl
theorem c16_9_e : c16_9 = .seq c16_10 c16_11 := rfl
theorem c16_10_r : RG (E0 mm) 16 c16_10 := rgN rfl
theorem c16_11_e : c16_11 = .block 0 c16_12 := rfl
theorem c16_12_l (m : Nat) (st : St) : den (E0 mm) 16 m (callW (E0 mm)) itW c16_12 none st = loopD itW (loopF (E0 mm) 16 m (callW (E0 mm)) itW c16_13 [(1, .keep), (3, .keep), (5, .keep), (6, .keep), (7, .keep), (12, .keep)]) (canon m [(1, .keep), (3, .keep), (5, .keep), (6, .keep), (7, .keep), (12, .keep)] st) := rfl
theorem c16_13_e : c16_13 = .seq c16_14 c16_15 := rfl
theorem c16_14_r : RG (E0 mm) 16 c16_14 := rgN rfl
theorem c16_15_e : c16_15 = .seq c16_16 c16_19 := rfl
theorem c16_17_e : c16_17 = .skip := rfl
theorem c16_18_e : c16_18 = .exit 0 := rfl
theorem c16_19_e : c16_19 = .block 1 c16_20 := rfl
theorem c16_20_e : c16_20 = .seq c16_21 c16_22 := rfl
theorem c16_21_r : RG (E0 mm) 16 c16_21 := rgN rfl
theorem c16_22_e : c16_22 = .block 2 c16_23 := rfl
theorem c16_23_e : c16_23 = .seq c16_24 c16_25 := rfl
theorem c16_24_r : RG (E0 mm) 16 c16_24 := rgN rfl
theorem c16_26_r : RG (E0 mm) 16 c16_26 := rgN rfl
theorem c16_27_e : c16_27 = .seq c16_28 c16_29 := rfl
theorem c16_28_r : RG (E0 mm) 16 c16_28 := rgN rfl
theorem c16_30_r : RG (E0 mm) 16 c16_30 := rgN rfl
theorem c16_31_e : c16_31 = .seq c16_32 c16_33 := rfl
theorem c16_32_r : RG (E0 mm) 16 c16_32 := rgN rfl
theorem c16_34_r : RG (E0 mm) 16 c16_34 := rgN rfl
theorem c16_35_e : c16_35 = .seq c16_36 c16_37 := rfl
theorem c16_36_r : RG (E0 mm) 16 c16_36 := rgN rfl
theorem c16_38_r : RG (E0 mm) 16 c16_38 := rgN rfl
theorem c16_39_e : c16_39 = .skip := rfl
theorem c16_40_e : c16_40 = .seq c16_41 c16_42 := rfl
theorem c16_41_r : RG (E0 mm) 16 c16_41 := rgN rfl
theorem c16_42_e : c16_42 = .seq c16_43 c16_44 := rfl
theorem c16_43_r : RG (E0 mm) 16 c16_43 := rgN rfl
theorem c16_44_e : c16_44 = .ret := rfl
abbrev R16 := (Bool × List Bs)
def e16 : R16 → AV × Heap := fun x => (.v (.c (.own x.1 (enL enS x.2) 0)), [.row x.2.length (rz x.1 1)])
def K16_12 : Option (Ex × St) → Option (AV × Heap) := fun r => bodyD (E0 mm) [.tmp 2] 0 false (seqD (E0 mm) 16 0 (callW (E0 mm)) itW c16_40 (blockD 0 (r)))
def en16_12 : (Bool × Bool × Bs × Bool × List Bs × Int × Bs × Nat) → X := fun x => (none, [.v (.c (.ptr 0 0)), .v (.c (.ptr 1 0)), .v (.c (.d (.sc (.bool x.1)))), .v (.c (.d (.sc (.bool x.2.1)))), .v (.c (.fn 34 [(0, 0), (3, 0), (1, 0)])), .v (.c (.it 4))], [.cells [.d (.sc (.string (S x.2.2.1)))], .cells [.own x.2.2.2.1 (enL enS x.2.2.2.2.1) 2], .row x.2.2.2.2.1.length (rz x.2.2.2.1 1), .cells [.d (.sc (.int .i64 x.2.2.2.2.2.1))], .siter (S x.2.2.2.2.2.2.1) x.2.2.2.2.2.2.2])
def j16_37 (quoted5 masked6 : Bool) (i8 : Int) (t30 : Bool) (h0_0 : Bs) (h1_0_0 : Bool) (h1_0_1 : List Bs) (h3_0 : Int) (s4 : Bs) (p4 : Nat) : Option ((Bool × Bool × Bs × Bool × List Bs × Int × Bs × Nat) ⊕ R16) :=
  if t30 = true then
    (m34 i8 h0_0 h3_0 h1_0_0 h1_0_1).bind fun yr10 =>
      some (.inl (quoted5, masked6, yr10.1, yr10.2.2.1, yr10.2.2.2, yr10.2.1, s4, p4))
  else
    some (.inl (quoted5, masked6, h0_0, h1_0_0, h1_0_1, h3_0, s4, p4))
theorem j16_37_t (quoted5 masked6 : Bool) (i8 : Int) (t30 : Bool) (h0_0 : Bs) (h1_0_0 : Bool) (h1_0_1 : List Bs) (h3_0 : Int) (s4 : Bs) (p4 : Nat)  (sl : Nat → AV) (zq1 : sl 1 = .v (.c (.ptr 0 0))) (zq3 : sl 3 = .v (.c (.ptr 1 0))) (zq5 : sl 5 = .v (.c (.d (.sc (.bool quoted5))))) (zq6 : sl 6 = .v (.c (.d (.sc (.bool masked6))))) (zq7 : sl 7 = .v (.c (.fn 34 [(0, 0), (3, 0), (1, 0)]))) (zq8 : sl 8 = .v (.c (.d (.sc (.int .i64 i8))))) (zq12 : sl 12 = .v (.c (.it 4))) (zq30 : sl 30 = .v (.c (.d (.sc (.bool t30))))) :
    stepE (K16_12 (mm := mm)) (loopK 0 [(1, .keep), (3, .keep), (5, .keep), (6, .keep), (7, .keep), (12, .keep)] (blockD 1 (blockD 2 (den (E0 mm) 16 0 (callW (E0 mm)) itW c16_37 none ⟨sl, [.cells [.d (.sc (.string (S h0_0)))], .cells [.own h1_0_0 (enL enS h1_0_1) 2], .row h1_0_1.length (rz h1_0_0 1), .cells [.d (.sc (.int .i64 h3_0))], .siter (S s4) p4]⟩)))) = (j16_37 quoted5 masked6 i8 t30 h0_0 h1_0_0 h1_0_1 h3_0 s4 p4).map (sm en16_12 e16) := by
  simp -implicitDefEqProofs only [j16_37, (show c16_37 = Code.cond _ c16_38 c16_39 from rfl), zq1, zq3, zq5, zq6, zq7, zq8, zq12, zq30, setA, setB, za, zb, zc, zd, ze, zf, zg, zh, zi, zj, zk, zl, zm, zn, zo, zp, reduceCtorEq, zE, ↓reduceIte]
  refine brB (fun yc8 => ?_) (fun yc8 => ?_)
  · simp -implicitDefEqProofs only [c16_38_r, (show opsOf c16_38 = _ :: _ from rfl), ent34, prm34, f34_t, zq1, zq3, zq5, zq6, zq7, zq8, zq12, zq30, yc8, setA, setB, za, zb, zc, zd, ze, zf, zg, zh, zi, zj, zk, zl, zm, zn, zo, zp, reduceCtorEq, zE, ↓reduceIte]
    refine brM (fun yc9 => ?_) (fun yr10 yc9 => ?_)
    · rw [yc9]; rfl
    · simp -implicitDefEqProofs only [e34, zq1, zq3, zq5, zq6, zq7, zq8, zq12, zq30, yc8, yc9, setA, setB, za, zb, zc, zd, ze, zf, zg, zh, zi, zj, zk, zl, zm, zn, zo, zp, reduceCtorEq, zE, ↓reduceIte]
      all_goals rfl
  · simp -implicitDefEqProofs only [c16_39_e, zq1, zq3, zq5, zq6, zq7, zq8, zq12, zq30, yc8, setA, setB, za, zb, zc, zd, ze, zf, zg, zh, zi, zj, zk, zl, zm, zn, zo, zp, reduceCtorEq, zE, ↓reduceIte]
    all_goals rfl
def j16_29 (quoted5 masked6 : Bool) (i8 r9 : Int) (t19 : Bool) (h0_0 : Bs) (h1_0_0 : Bool) (h1_0_1 : List Bs) (h3_0 : Int) (s4 : Bs) (p4 : Nat) : Option ((Bool × Bool × Bs × Bool × List Bs × Int × Bs × Nat) ⊕ R16) :=
  if t19 = true then
    some (.inl (quoted5, true, h0_0, h1_0_0, h1_0_1, h3_0, s4, p4))
  else
    if (r9 == 34) = true then
      some (.inl ((!quoted5), masked6, h0_0, h1_0_0, h1_0_1, h3_0, s4, p4))
    else
      if (r9 == 44) = true then
        j16_37 quoted5 masked6 i8 (!quoted5) h0_0 h1_0_0 h1_0_1 h3_0 s4 p4
      else
        j16_37 quoted5 masked6 i8 false h0_0 h1_0_0 h1_0_1 h3_0 s4 p4
theorem j16_29_t (quoted5 masked6 : Bool) (i8 r9 : Int) (t19 : Bool) (h0_0 : Bs) (h1_0_0 : Bool) (h1_0_1 : List Bs) (h3_0 : Int) (s4 : Bs) (p4 : Nat)  (sl : Nat → AV) (zq1 : sl 1 = .v (.c (.ptr 0 0))) (zq3 : sl 3 = .v (.c (.ptr 1 0))) (zq5 : sl 5 = .v (.c (.d (.sc (.bool quoted5))))) (zq6 : sl 6 = .v (.c (.d (.sc (.bool masked6))))) (zq7 : sl 7 = .v (.c (.fn 34 [(0, 0), (3, 0), (1, 0)]))) (zq8 : sl 8 = .v (.c (.d (.sc (.int .i64 i8))))) (zq9 : sl 9 = .v (.c (.d (.sc (.int .i32 r9))))) (zq12 : sl 12 = .v (.c (.it 4))) (zq19 : sl 19 = .v (.c (.d (.sc (.bool t19))))) :
    stepE (K16_12 (mm := mm)) (loopK 0 [(1, .keep), (3, .keep), (5, .keep), (6, .keep), (7, .keep), (12, .keep)] (blockD 1 (blockD 2 (den (E0 mm) 16 0 (callW (E0 mm)) itW c16_29 none ⟨sl, [.cells [.d (.sc (.string (S h0_0)))], .cells [.own h1_0_0 (enL enS h1_0_1) 2], .row h1_0_1.length (rz h1_0_0 1), .cells [.d (.sc (.int .i64 h3_0))], .siter (S s4) p4]⟩)))) = (j16_29 quoted5 masked6 i8 r9 t19 h0_0 h1_0_0 h1_0_1 h3_0 s4 p4).map (sm en16_12 e16) := by
  simp -implicitDefEqProofs only [j16_29, (show c16_29 = Code.cond _ c16_30 c16_31 from rfl), zq1, zq3, zq5, zq6, zq7, zq8, zq9, zq12, zq19, setA, setB, za, zb, zc, zd, ze, zf, zg, zh, zi, zj, zk, zl, zm, zn, zo, zp, reduceCtorEq, zE, ↓reduceIte]
  refine brB (fun yc5 => ?_) (fun yc5 => ?_)
  · simp -implicitDefEqProofs only [c16_30_r, (show opsOf c16_30 = _ :: _ from rfl), zq1, zq3, zq5, zq6, zq7, zq8, zq9, zq12, zq19, yc5, setA, setB, za, zb, zc, zd, ze, zf, zg, zh, zi, zj, zk, zl, zm, zn, zo, zp, reduceCtorEq, zE, ↓reduceIte]
    all_goals rfl
  · simp -implicitDefEqProofs only [c16_31_e, c16_32_r, (show opsOf c16_32 = _ :: _ from rfl), (show c16_33 = Code.cond _ c16_34 c16_35 from rfl), zq1, zq3, zq5, zq6, zq7, zq8, zq9, zq12, zq19, yc5, setA, setB, za, zb, zc, zd, ze, zf, zg, zh, zi, zj, zk, zl, zm, zn, zo, zp, reduceCtorEq, zE, ↓reduceIte]
    refine brB (fun yc6 => ?_) (fun yc6 => ?_)
    · simp -implicitDefEqProofs only [c16_34_r, (show opsOf c16_34 = _ :: _ from rfl), zq1, zq3, zq5, zq6, zq7, zq8, zq9, zq12, zq19, yc5, yc6, setA, setB, za, zb, zc, zd, ze, zf, zg, zh, zi, zj, zk, zl, zm, zn, zo, zp, reduceCtorEq, zE, ↓reduceIte]
      all_goals rfl
    · simp -implicitDefEqProofs only [c16_35_e, c16_36_r, (show opsOf c16_36 = _ :: _ from rfl), zq1, zq3, zq5, zq6, zq7, zq8, zq9, zq12, zq19, yc5, yc6, setA, setB, za, zb, zc, zd, ze, zf, zg, zh, zi, zj, zk, zl, zm, zn, zo, zp, reduceCtorEq, zE, ↓reduceIte]
      refine brB (fun yc7 => ?_) (fun yc7 => ?_)
      · simp -implicitDefEqProofs only [zq1, zq3, zq5, zq6, zq7, zq8, zq9, zq12, zq19, yc5, yc6, yc7, setA, setB, za, zb, zc, zd, ze, zf, zg, zh, zi, zj, zk, zl, zm, zn, zo, zp, reduceCtorEq, zE, ↓reduceIte]
        exact j16_37_t quoted5 masked6 i8 (!quoted5) h0_0 h1_0_0 h1_0_1 h3_0 s4 p4 _ (by exact zq1) (by exact zq3) (by exact zq5) (by exact zq6) (by exact zq7) (by exact zq8) (by exact zq12) (by rfl)
      · simp -implicitDefEqProofs only [zq1, zq3, zq5, zq6, zq7, zq8, zq9, zq12, zq19, yc5, yc6, yc7, setA, setB, za, zb, zc, zd, ze, zf, zg, zh, zi, zj, zk, zl, zm, zn, zo, zp, reduceCtorEq, zE, ↓reduceIte]
        exact j16_37_t quoted5 masked6 i8 false h0_0 h1_0_0 h1_0_1 h3_0 s4 p4 _ (by exact zq1) (by exact zq3) (by exact zq5) (by exact zq6) (by exact zq7) (by exact zq8) (by exact zq12) (by rfl)
def j16_40 (h0_0 : Bs) (h1_0_0 : Bool) (h1_0_1 : List Bs) (h3_0 : Int) : Option R16 :=
  (m34 (h0_0.length : Int) h0_0 h3_0 h1_0_0 h1_0_1).bind fun yr12 =>
    some (yr12.2.2.1, yr12.2.2.2)
theorem j16_40_t (h0_0 : Bs) (h1_0_0 : Bool) (h1_0_1 : List Bs) (h3_0 : Int) (g4 : Ob) (sl : Nat → AV) (zq1 : sl 1 = .v (.c (.ptr 0 0))) (zq3 : sl 3 = .v (.c (.ptr 1 0))) (zq7 : sl 7 = .v (.c (.fn 34 [(0, 0), (3, 0), (1, 0)]))) :
    bodyD (E0 mm) [.tmp 2] 0 false (den (E0 mm) 16 0 (callW (E0 mm)) itW c16_40 none ⟨sl, [.cells [.d (.sc (.string (S h0_0)))], .cells [.own h1_0_0 (enL enS h1_0_1) 2], .row h1_0_1.length (rz h1_0_0 1), .cells [.d (.sc (.int .i64 h3_0))], g4]⟩) = (j16_40 h0_0 h1_0_0 h1_0_1 h3_0).map e16 := by
  simp -implicitDefEqProofs only [j16_40, c16_40_e, c16_41_r, (show opsOf c16_41 = _ :: _ from rfl), sz9, ag9, Tryd.underlying9, ent34, prm34, f34_t, zq1, zq3, zq7, setA, setB, za, zb, zc, zd, ze, zf, zg, zh, zi, zj, zk, zl, zm, zn, zo, zp, reduceCtorEq, zE, ↓reduceIte]
  refine brM (fun yc11 => ?_) (fun yr12 yc11 => ?_)
  · rw [yc11]; rfl
  · simp -implicitDefEqProofs only [e34, c16_42_e, c16_43_r, (show opsOf c16_43 = _ :: _ from rfl), sz30, ag30, c16_44_e, zq1, zq3, zq7, yc11, setA, setB, za, zb, zc, zd, ze, zf, zg, zh, zi, zj, zk, zl, zm, zn, zo, zp, reduceCtorEq, zE, ↓reduceIte]
    all_goals rfl
def s16_12 (quoted5 masked6 : Bool) (h0_0 : Bs) (h1_0_0 : Bool) (h1_0_1 : List Bs) (h3_0 : Int) (s4 : Bs) (p4 : Nat) : Option ((Bool × Bool × Bs × Bool × List Bs × Int × Bs × Nat) ⊕ R16) :=
  if (decide (p4 < s4.length)) = true then
    if masked6 = true then
      some (.inl (quoted5, false, h0_0, h1_0_0, h1_0_1, h3_0, s4, (p4 + uw s4 p4)))
    else
      if quoted5 = true then
        j16_29 true false (p4 : Int) (uc s4 p4 : Int) ((uc s4 p4 : Int) == 92) h0_0 h1_0_0 h1_0_1 h3_0 s4 (p4 + uw s4 p4)
      else
        j16_29 false false (p4 : Int) (uc s4 p4 : Int) false h0_0 h1_0_0 h1_0_1 h3_0 s4 (p4 + uw s4 p4)
  else
    (j16_40 h0_0 h1_0_0 h1_0_1 h3_0).map .inr
theorem s16_12_t (quoted5 masked6 : Bool) (h0_0 : Bs) (h1_0_0 : Bool) (h1_0_1 : List Bs) (h3_0 : Int) (s4 : Bs) (p4 : Nat) :
    stepE (K16_12 (mm := mm)) (loopF (E0 mm) 16 0 (callW (E0 mm)) itW c16_13 [(1, .keep), (3, .keep), (5, .keep), (6, .keep), (7, .keep), (12, .keep)] (none, [.v (.c (.ptr 0 0)), .v (.c (.ptr 1 0)), .v (.c (.d (.sc (.bool quoted5)))), .v (.c (.d (.sc (.bool masked6)))), .v (.c (.fn 34 [(0, 0), (3, 0), (1, 0)])), .v (.c (.it 4))], [.cells [.d (.sc (.string (S h0_0)))], .cells [.own h1_0_0 (enL enS h1_0_1) 2], .row h1_0_1.length (rz h1_0_0 1), .cells [.d (.sc (.int .i64 h3_0))], .siter (S s4) p4])) = (s16_12 quoted5 masked6 h0_0 h1_0_0 h1_0_1 h3_0 s4 p4).map (sm en16_12 e16) := by
  simp -implicitDefEqProofs only [s16_12, loopF_eq, c16_13_e, c16_14_r, (show opsOf c16_14 = _ :: _ from rfl), dec_eq, setA, setB, za, zb, zc, zd, ze, zf, zg, zh, zi, zj, zk, zl, zm, zn, zo, zp, reduceCtorEq, zE, ↓reduceIte]
  refine brB (fun yc1 => ?_) (fun yc1 => ?_)
  · have yd2 := of_decide_eq_true yc1
    simp -implicitDefEqProofs only [c16_15_e, (show c16_16 = Code.cond _ c16_17 c16_18 from rfl), c16_17_e, c16_19_e, c16_20_e, c16_21_r, (show opsOf c16_21 = _ :: _ from rfl), c16_22_e, c16_23_e, c16_24_r, (show opsOf c16_24 = _ :: _ from rfl), (show c16_25 = Code.cond _ c16_26 c16_27 from rfl), yd2, setA, setB, za, zb, zc, zd, ze, zf, zg, zh, zi, zj, zk, zl, zm, zn, zo, zp, reduceCtorEq, zE, ↓reduceIte]
    refine brB (fun yc3 => ?_) (fun yc3 => ?_)
    · simp -implicitDefEqProofs only [c16_26_r, (show opsOf c16_26 = _ :: _ from rfl), yd2, yc3, setA, setB, za, zb, zc, zd, ze, zf, zg, zh, zi, zj, zk, zl, zm, zn, zo, zp, reduceCtorEq, zE, ↓reduceIte]
      all_goals rfl
    · simp -implicitDefEqProofs only [c16_27_e, c16_28_r, (show opsOf c16_28 = _ :: _ from rfl), yd2, yc3, setA, setB, za, zb, zc, zd, ze, zf, zg, zh, zi, zj, zk, zl, zm, zn, zo, zp, reduceCtorEq, zE, ↓reduceIte]
      refine brB (fun yc4 => ?_) (fun yc4 => ?_)
      · simp -implicitDefEqProofs only [yd2, yc3, yc4, setA, setB, za, zb, zc, zd, ze, zf, zg, zh, zi, zj, zk, zl, zm, zn, zo, zp, reduceCtorEq, zE, ↓reduceIte]
        exact j16_29_t true false (p4 : Int) (uc s4 p4 : Int) ((uc s4 p4 : Int) == 92) h0_0 h1_0_0 h1_0_1 h3_0 s4 (p4 + uw s4 p4) _ (by rfl) (by rfl) (by rfl) (by rfl) (by rfl) (by rfl) (by rfl) (by rfl) (by rfl)
      · simp -implicitDefEqProofs only [yd2, yc3, yc4, setA, setB, za, zb, zc, zd, ze, zf, zg, zh, zi, zj, zk, zl, zm, zn, zo, zp, reduceCtorEq, zE, ↓reduceIte]
        exact j16_29_t false false (p4 : Int) (uc s4 p4 : Int) false h0_0 h1_0_0 h1_0_1 h3_0 s4 (p4 + uw s4 p4) _ (by rfl) (by rfl) (by rfl) (by rfl) (by rfl) (by rfl) (by rfl) (by rfl) (by rfl)
  · have yd2 := of_decide_eq_false yc1
    simp -implicitDefEqProofs only [c16_15_e, (show c16_16 = Code.cond _ c16_17 c16_18 from rfl), c16_18_e, K16_12, yd2, setA, setB, za, zb, zc, zd, ze, zf, zg, zh, zi, zj, zk, zl, zm, zn, zo, zp, reduceCtorEq, zE, ↓reduceIte]
    exact mi (j16_40_t h0_0 h1_0_0 h1_0_1 h3_0 _ _ (by rfl) (by rfl) (by rfl))
def l16_12 (quoted5 masked6 : Bool) (h0_0 : Bs) (h1_0_0 : Bool) (h1_0_1 : List Bs) (h3_0 : Int) (s4 : Bs) (p4 : Nat) : Option R16 := iter (fun x : (Bool × Bool × Bs × Bool × List Bs × Int × Bs × Nat) => s16_12 x.1 x.2.1 x.2.2.1 x.2.2.2.1 x.2.2.2.2.1 x.2.2.2.2.2.1 x.2.2.2.2.2.2.1 x.2.2.2.2.2.2.2) (quoted5, masked6, h0_0, h1_0_0, h1_0_1, h3_0, s4, p4)
theorem l16_12_t (quoted5 masked6 : Bool) (h0_0 : Bs) (h1_0_0 : Bool) (h1_0_1 : List Bs) (h3_0 : Int) (s4 : Bs) (p4 : Nat) : bodyD (E0 mm) [.tmp 2] 0 false (seqD (E0 mm) 16 0 (callW (E0 mm)) itW c16_40 (blockD 0 (itW (loopF (E0 mm) 16 0 (callW (E0 mm)) itW c16_13 [(1, .keep), (3, .keep), (5, .keep), (6, .keep), (7, .keep), (12, .keep)]) (none, [.v (.c (.ptr 0 0)), .v (.c (.ptr 1 0)), .v (.c (.d (.sc (.bool quoted5)))), .v (.c (.d (.sc (.bool masked6)))), .v (.c (.fn 34 [(0, 0), (3, 0), (1, 0)])), .v (.c (.it 4))], [.cells [.d (.sc (.string (S h0_0)))], .cells [.own h1_0_0 (enL enS h1_0_1) 2], .row h1_0_1.length (rz h1_0_0 1), .cells [.d (.sc (.int .i64 h3_0))], .siter (S s4) p4])))) = (l16_12 quoted5 masked6 h0_0 h1_0_0 h1_0_1 h3_0 s4 p4).map e16 :=
  it_sim (K := (K16_12 (mm := mm))) rfl (enc := en16_12) (fun x => s16_12_t x.1 x.2.1 x.2.2.1 x.2.2.2.1 x.2.2.2.2.1 x.2.2.2.2.2.1 x.2.2.2.2.2.2.1 x.2.2.2.2.2.2.2) (quoted5, masked6, h0_0, h1_0_0, h1_0_1, h3_0, s4, p4)
def m16 (s : Bs) : Option R16 :=
  l16_12 false false s true ([] : List Bs) (0 : Int) s 0
theorem f16_t (s : Bs) :
    callW (E0 mm) 16 [.c (.d (.sc (.string (S s))))] [] = (m16 s).map e16 := by
  rw [callW_run (body := c16_0) (res := [.tmp 2]) Tryd.func16 rfl rfl (by kernel_rfl)]
  simp -implicitDefEqProofs only [m16, slots1, c16_0_e, c16_1_r, (show opsOf c16_1 = _ :: _ from rfl), c16_2_e, c16_3_r, (show opsOf c16_3 = _ :: _ from rfl), zc30, ao10, c16_4_e, c16_5_r, (show opsOf c16_5 = _ :: _ from rfl), zc3, ao11, sz3, c16_6_e, c16_7_r, (show opsOf c16_7 = _ :: _ from rfl), c16_8_e, c16_9_e, c16_10_r, (show opsOf c16_10 = _ :: _ from rfl), sz9, ag9, Tryd.underlying9, c16_11_e, c16_12_l, setA, setB, za, zb, zc, zd, ze, zf, zg, zh, zi, zj, zk, zl, zm, zn, zo, zp, reduceCtorEq, zE, ↓reduceIte]
  exact l16_12_t false false s true ([] : List Bs) (0 : Int) s 0
noncomputable def c14_0 : Code := bodyOf Tryd.f14
def c14_1 := cA c14_0
def c14_2 := cB c14_0
def c14_3 := cA c14_2
def c14_4 := cB c14_2
def c14_5 := cA c14_4
def c14_6 := cA c14_5
def c14_7 := cB c14_5
def c14_8 := cA c14_7
def c14_9 := cA c14_8
def c14_10 := cA c14_9
def c14_11 := cB c14_9
def c14_12 := cA c14_11
def c14_13 := cA c14_12
def c14_14 := cB c14_12
def c14_15 := cB c14_11
def c14_16 := cA c14_15
def c14_17 := cA c14_16
def c14_18 := cA c14_17
def c14_19 := cB c14_17
def c14_20 := cB c14_15
def c14_21 := cB c14_4
def c14_22 := cA c14_21
def c14_23 := cB c14_21
theorem c14_0_e : c14_0 = .seq c14_1 c14_2 := rfl
theorem c14_1_r : RG (E0 mm) 14 c14_1 := rgN rfl
theorem c14_2_e : c14_2 = .seq c14_3 c14_4 := rfl
theorem c14_3_r : RG (E0 mm) 14 c14_3 := rgN rfl
theorem c14_4_e : c14_4 = .seq c14_5 c14_21 := rfl
theorem c14_5_e : c14_5 = .seq c14_6 c14_7 := rfl
theorem c14_6_r : RG (E0 mm) 14 c14_6 := rgN rfl
theorem c14_7_e : c14_7 = .block 0 c14_8 := rfl
theorem c14_8_l (m : Nat) (st : St) : den (E0 mm) 14 m (callW (E0 mm)) itW c14_8 none st = loopD itW (loopF (E0 mm) 14 m (callW (E0 mm)) itW c14_9 [(5, .own), (10, .keep), (11, .keep), (12, .keep)]) (canon m [(5, .own), (10, .keep), (11, .keep), (12, .keep)] st) := rfl
theorem c14_9_e : c14_9 = .seq c14_10 c14_11 := rfl
theorem c14_10_r : RG (E0 mm) 14 c14_10 := rgN rfl
theorem c14_11_e : c14_11 = .seq c14_12 c14_15 := rfl
theorem c14_13_e : c14_13 = .skip := rfl
theorem c14_14_e : c14_14 = .exit 0 := rfl
theorem c14_15_e : c14_15 = .seq c14_16 c14_20 := rfl
theorem c14_16_e : c14_16 = .block 1 c14_17 := rfl
theorem c14_17_e : c14_17 = .seq c14_18 c14_19 := rfl
theorem c14_18_r : RG (E0 mm) 14 c14_18 := rgN rfl
theorem c14_19_r : RG (E0 mm) 14 c14_19 := rgN rfl
theorem c14_20_r : RG (E0 mm) 14 c14_20 := rgN rfl
theorem c14_21_e : c14_21 = .seq c14_22 c14_23 := rfl
theorem c14_22_r : RG (E0 mm) 14 c14_22 := rgN rfl
theorem c14_23_e : c14_23 = .ret := rfl
abbrev R14 := (Bool × List Bs)
def e14 : R14 → AV × Heap := fun x => (.v (.c (.own x.1 (enL enS x.2) 0)), [.row x.2.length (rz x.1 1)])
def K14_8 : Option (Ex × St) → Option (AV × Heap) := fun r => bodyD (E0 mm) [.tmp 4] 0 false (seqD (E0 mm) 14 0 (callW (E0 mm)) itW c14_21 (blockD 0 (r)))
def en14_8 : (Bool × List Bs × Bool × List Bs × Int × Int) → X := fun x => (none, [.v (.c (.own x.1 (enL enS x.2.1) 0)), .v (.c (.own x.2.2.1 (enL enS x.2.2.2.1) 1)), .v (.c (.d (.sc (.int .i64 x.2.2.2.2.1)))), .v (.c (.d (.sc (.int .i64 x.2.2.2.2.2))))], [.row x.2.1.length (rz x.1 1), .row x.2.2.2.1.length (rz x.2.2.1 1)])
def j14_21 (out5_0 : Bool) (out5_1 : List Bs) : Option R14 :=
  some (out5_0, out5_1)
theorem j14_21_t (out5_0 : Bool) (out5_1 : List Bs) (g1 : Ob) (sl : Nat → AV) (zq5 : sl 5 = .v (.c (.own out5_0 (enL enS out5_1) 0))) :
    bodyD (E0 mm) [.tmp 4] 0 false (den (E0 mm) 14 0 (callW (E0 mm)) itW c14_21 none ⟨sl, [.row out5_1.length (rz out5_0 1), g1]⟩) = (j14_21 out5_0 out5_1).map e14 := by
  simp -implicitDefEqProofs only [j14_21, c14_21_e, c14_22_r, (show opsOf c14_22 = _ :: _ from rfl), c14_23_e, zq5, setA, setB, za, zb, zc, zd, ze, zf, zg, zh, zi, zj, zk, zl, zm, zn, zo, zp, reduceCtorEq, zE, ↓reduceIte]
  all_goals rfl
def s14_8 (out5_0 : Bool) (out5_1 : List Bs) (t10_0 : Bool) (t10_1 : List Bs) (t11 t12 : Int) : Option ((Bool × List Bs × Bool × List Bs × Int × Int) ⊕ R14) :=
  if (decide (t12 < t11)) = true then
    if 0 ≤ t12 ∧ t12 < (t10_1.length : Int) then
      (m16 (t10_1.getD t12.toNat default)).bind fun yr7 =>
        if yr7.2 = [] ∨ (out5_1.length + yr7.2.length) * 16 ≤ 140737488355328 then
          some (.inl ((out5_0 && yr7.2.isEmpty), (out5_1 ++ yr7.2), t10_0, t10_1, t11, (w64 (t12 + 1))))
        else none
    else none
  else
    (j14_21 out5_0 out5_1).map .inr
theorem s14_8_t (out5_0 : Bool) (out5_1 : List Bs) (t10_0 : Bool) (t10_1 : List Bs) (t11 t12 : Int) :
    stepE (K14_8 (mm := mm)) (loopF (E0 mm) 14 0 (callW (E0 mm)) itW c14_9 [(5, .own), (10, .keep), (11, .keep), (12, .keep)] (none, [.v (.c (.own out5_0 (enL enS out5_1) 0)), .v (.c (.own t10_0 (enL enS t10_1) 1)), .v (.c (.d (.sc (.int .i64 t11)))), .v (.c (.d (.sc (.int .i64 t12))))], [.row out5_1.length (rz out5_0 1), .row t10_1.length (rz t10_0 1)])) = (s14_8 out5_0 out5_1 t10_0 t10_1 t11 t12).map (sm en14_8 e14) := by
  simp -implicitDefEqProofs only [s14_8, loopF_eq, c14_9_e, c14_10_r, (show opsOf c14_10 = _ :: _ from rfl), c14_11_e, (show c14_12 = Code.cond _ c14_13 c14_14 from rfl), setA, setB, za, zb, zc, zd, ze, zf, zg, zh, zi, zj, zk, zl, zm, zn, zo, zp, reduceCtorEq, zE, ↓reduceIte]
  refine brB (fun yc3 => ?_) (fun yc3 => ?_)
  · simp -implicitDefEqProofs only [c14_13_e, c14_15_e, c14_16_e, c14_17_e, c14_18_r, (show opsOf c14_18 = _ :: _ from rfl), Tryd.underlying30, sz9, enS_a, yc3, setA, setB, za, zb, zc, zd, ze, zf, zg, zh, zi, zj, zk, zl, zm, zn, zo, zp, reduceCtorEq, zE, ↓reduceIte]
    refine brP (fun yc4 => ?_) (fun yc4 => ?_)
    · have yd5 : t12.toNat < t10_1.length := by omega
      simp -implicitDefEqProofs only [(enL_get enS t10_1 t12.toNat yd5), enS_e, sz9, ag9, c14_19_r, (show opsOf c14_19 = _ :: _ from rfl), ent16, prm16, f16_t, yc3, yc4, yd5, setA, setB, za, zb, zc, zd, ze, zf, zg, zh, zi, zj, zk, zl, zm, zn, zo, zp, reduceCtorEq, zE, ↓reduceIte]
      refine brM (fun yc6 => ?_) (fun yr7 yc6 => ?_)
      · rw [yc6]; rfl
      · simp -implicitDefEqProofs only [e16, Tryd.underlying30, hd15, ap30, yc3, yc4, yd5, yc6, setA, setB, za, zb, zc, zd, ze, zf, zg, zh, zi, zj, zk, zl, zm, zn, zo, zp, reduceCtorEq, zE, ↓reduceIte]
        refine brP (fun yc8 => ?_) (fun yc8 => ?_)
        · simp -implicitDefEqProofs only [c14_20_r, (show opsOf c14_20 = _ :: _ from rfl), yc3, yc4, yd5, yc6, yc8, setA, setB, za, zb, zc, zd, ze, zf, zg, zh, zi, zj, zk, zl, zm, zn, zo, zp, reduceCtorEq, zE, ↓reduceIte]
          all_goals rfl
        · rw [if_neg yc8]; rfl
    · rw [if_neg yc4]; rfl
  · simp -implicitDefEqProofs only [c14_14_e, K14_8, yc3, setA, setB, za, zb, zc, zd, ze, zf, zg, zh, zi, zj, zk, zl, zm, zn, zo, zp, reduceCtorEq, zE, ↓reduceIte]
    exact mi (j14_21_t out5_0 out5_1 _ _ (by rfl))
def l14_8 (out5_0 : Bool) (out5_1 : List Bs) (t10_0 : Bool) (t10_1 : List Bs) (t11 t12 : Int) : Option R14 := iter (fun x : (Bool × List Bs × Bool × List Bs × Int × Int) => s14_8 x.1 x.2.1 x.2.2.1 x.2.2.2.1 x.2.2.2.2.1 x.2.2.2.2.2) (out5_0, out5_1, t10_0, t10_1, t11, t12)
theorem l14_8_t (out5_0 : Bool) (out5_1 : List Bs) (t10_0 : Bool) (t10_1 : List Bs) (t11 t12 : Int) : bodyD (E0 mm) [.tmp 4] 0 false (seqD (E0 mm) 14 0 (callW (E0 mm)) itW c14_21 (blockD 0 (itW (loopF (E0 mm) 14 0 (callW (E0 mm)) itW c14_9 [(5, .own), (10, .keep), (11, .keep), (12, .keep)]) (none, [.v (.c (.own out5_0 (enL enS out5_1) 0)), .v (.c (.own t10_0 (enL enS t10_1) 1)), .v (.c (.d (.sc (.int .i64 t11)))), .v (.c (.d (.sc (.int .i64 t12))))], [.row out5_1.length (rz out5_0 1), .row t10_1.length (rz t10_0 1)])))) = (l14_8 out5_0 out5_1 t10_0 t10_1 t11 t12).map e14 :=
  it_sim (K := (K14_8 (mm := mm))) rfl (enc := en14_8) (fun x => s14_8_t x.1 x.2.1 x.2.2.1 x.2.2.2.1 x.2.2.2.2.1 x.2.2.2.2.2) (out5_0, out5_1, t10_0, t10_1, t11, t12)
def m14 (l_0 : Bool) (l_1 : List (Bs × Bs)) (name : Bs) : Option R14 :=
  (m24 l_0 l_1 name).bind fun yr2 =>
    l14_8 true ([] : List Bs) yr2.1 yr2.2 (yr2.2.length : Int) (0 : Int)
theorem f14_t (l_0 : Bool) (l_1 : List (Bs × Bs)) (name : Bs) :
    callW (E0 mm) 14 [.c (.d (.lst l_0 (enL enSS l_1))), .c (.d (.sc (.string (S name))))] [] = (m14 l_0 l_1 name).map e14 := by
  rw [callW_run (body := c14_0) (res := [.tmp 4]) Tryd.func14 rfl rfl (by kernel_rfl)]
  simp -implicitDefEqProofs only [m14, slots2, c14_0_e, c14_1_r, (show opsOf c14_1 = _ :: _ from rfl), c14_2_e, c14_3_r, (show opsOf c14_3 = _ :: _ from rfl), c14_4_e, c14_5_e, c14_6_r, (show opsOf c14_6 = _ :: _ from rfl), ent24, prm24, f24_t, setA, setB, za, zb, zc, zd, ze, zf, zg, zh, zi, zj, zk, zl, zm, zn, zo, zp, reduceCtorEq, zE, ↓reduceIte]
  refine brM (fun yc1 => ?_) (fun yr2 yc1 => ?_)
  · rw [yc1]; rfl
  · simp -implicitDefEqProofs only [e24, Tryd.underlying30, c14_7_e, c14_8_l, yc1, setA, setB, za, zb, zc, zd, ze, zf, zg, zh, zi, zj, zk, zl, zm, zn, zo, zp, reduceCtorEq, zE, ↓reduceIte]
    exact l14_8_t true ([] : List Bs) yr2.1 yr2.2 (yr2.2.length : Int) (0 : Int)
noncomputable def c58_0 : Code := bodyOf Tryd.f58
def c58_1 := cA c58_0
def c58_2 := cB c58_0
def c58_3 := cA c58_2
def c58_4 := cA c58_3
def c58_5 := cB c58_3
def c58_6 := cA c58_5
def c58_7 := cB c58_5
def c58_8 := cA c58_7
def c58_9 := cA c58_8
def c58_10 := cB c58_8
def c58_11 := cB c58_7
def c58_12 := cB c58_2
def c58_13 := cA c58_12
def c58_14 := cB c58_12
theorem c58_0_e : c58_0 = .seq c58_1 c58_2 := rfl
theorem c58_1_r : RG (E0 mm) 58 c58_1 := rgN rfl
theorem c58_2_e : c58_2 = .seq c58_3 c58_12 := rfl
theorem c58_3_e : c58_3 = .seq c58_4 c58_5 := rfl
theorem c58_4_r : RG (E0 mm) 58 c58_4 := rgN rfl
theorem c58_5_e : c58_5 = .seq c58_6 c58_7 := rfl
theorem c58_6_r : RG (E0 mm) 58 c58_6 := rgN rfl
theorem c58_8_e : c58_8 = .seq c58_9 c58_10 := rfl
theorem c58_9_r : RG (E0 mm) 58 c58_9 := rgD (by kernel_rfl)
theorem c58_10_e : c58_10 = .ret := rfl
theorem c58_11_e : c58_11 = .skip := rfl
theorem c58_12_e : c58_12 = .seq c58_13 c58_14 := rfl
theorem c58_13_r : RG (E0 mm) 58 c58_13 := rgN rfl
theorem c58_14_e : c58_14 = .ret := rfl
abbrev R58 := (Bs × Bs × Bool)
def e58 : R58 → AV × Heap := fun x => (.tup [.c (.d (.sc (.string (S x.1)))), .c (.d (.sc (.string (S x.2.1)))), .c (.d (.sc (.bool x.2.2)))], [])
def m58 (s sep : Bs) : Option R58 :=
  (mIx s sep).bind fun yr2 =>
    if (decide (0 ≤ yr2)) = true then
      (bnd yr2 s.length).bind fun yk5 =>
        (bnd (w64 (yr2 + (sep.length : Int))) s.length).bind fun yk7 =>
          some ((s.take yk5), (s.drop yk7), true)
    else
      some (s, ([] : Bs), false)
theorem f58_t (s sep : Bs) :
    callW (E0 mm) 58 [.c (.d (.sc (.string (S s)))), .c (.d (.sc (.string (S sep))))] [] = (m58 s sep).map e58 := by
  rw [callW_run (body := c58_0) (res := [.tmp 4, .tmp 5, .tmp 6]) Tryd.func58 rfl rfl (by kernel_rfl)]
  simp -implicitDefEqProofs only [m58, slots2, c58_0_e, c58_1_r, (show opsOf c58_1 = _ :: _ from rfl), c58_2_e, c58_3_e, c58_4_r, (show opsOf c58_4 = _ :: _ from rfl), ent69, prm69, pIndex_t, setA, setB, za, zb, zc, zd, ze, zf, zg, zh, zi, zj, zk, zl, zm, zn, zo, zp, reduceCtorEq, zE, ↓reduceIte]
  refine brM (fun yc1 => ?_) (fun yr2 yc1 => ?_)
  · rw [yc1]; rfl
  · simp -implicitDefEqProofs only [pIndex_t, c58_5_e, c58_6_r, (show opsOf c58_6 = _ :: _ from rfl), (show c58_7 = Code.cond _ c58_8 c58_11 from rfl), yc1, setA, setB, za, zb, zc, zd, ze, zf, zg, zh, zi, zj, zk, zl, zm, zn, zo, zp, reduceCtorEq, zE, ↓reduceIte]
    refine brB (fun yc3 => ?_) (fun yc3 => ?_)
    · simp -implicitDefEqProofs only [c58_8_e, c58_9_r, (show opsOf c58_9 = _ :: _ from rfl), Tryd.underlying9, yc1, yc3, setA, setB, za, zb, zc, zd, ze, zf, zg, zh, zi, zj, zk, zl, zm, zn, zo, zp, reduceCtorEq, zE, ↓reduceIte]
      refine brM (fun yc4 => ?_) (fun yk5 yc4 => ?_)
      · rw [yc4]; rfl
      · simp -implicitDefEqProofs only [Tryd.underlying9, yc1, yc3, yc4, setA, setB, za, zb, zc, zd, ze, zf, zg, zh, zi, zj, zk, zl, zm, zn, zo, zp, reduceCtorEq, zE, ↓reduceIte]
        refine brM (fun yc6 => ?_) (fun yk7 yc6 => ?_)
        · rw [yc6]; rfl
        · simp -implicitDefEqProofs only [c58_10_e, yc1, yc3, yc4, yc6, setA, setB, za, zb, zc, zd, ze, zf, zg, zh, zi, zj, zk, zl, zm, zn, zo, zp, reduceCtorEq, zE, ↓reduceIte]
          all_goals rfl
    · simp -implicitDefEqProofs only [c58_11_e, c58_12_e, c58_13_r, (show opsOf c58_13 = _ :: _ from rfl), c58_14_e, yc1, yc3, setA, setB, za, zb, zc, zd, ze, zf, zg, zh, zi, zj, zk, zl, zm, zn, zo, zp, reduceCtorEq, zE, ↓reduceIte]
      all_goals rfl
noncomputable def c44_0 : Code := bodyOf Tryd.f44
def c44_1 := cA c44_0
def c44_2 := cB c44_0
def c44_3 := cA c44_2
def c44_4 := cB c44_2
theorem c44_0_e : c44_0 = .seq c44_1 c44_2 := rfl
theorem c44_1_r : RG (E0 mm) 44 c44_1 := rgN rfl
theorem c44_2_e : c44_2 = .seq c44_3 c44_4 := rfl
theorem c44_3_r : RG (E0 mm) 44 c44_3 := rgN rfl
theorem c44_4_e : c44_4 = .ret := rfl
abbrev R44 := (Bs × Bs × Bool)
def e44 : R44 → AV × Heap := fun x => (.tup [.c (.d (.sc (.string (S x.1)))), .c (.d (.sc (.string (S x.2.1)))), .c (.d (.sc (.bool x.2.2)))], [])
def m44 (s sep : Bs) : Option R44 :=
  (m58 s sep).bind fun yr2 =>
    some (yr2.1, yr2.2.1, yr2.2.2)
theorem f44_t (s sep : Bs) :
    callW (E0 mm) 44 [.c (.d (.sc (.string (S s)))), .c (.d (.sc (.string (S sep))))] [] = (m44 s sep).map e44 := by
  rw [callW_run (body := c44_0) (res := [.tmp 4, .tmp 5, .tmp 6]) Tryd.func44 rfl rfl (by kernel_rfl)]
  simp -implicitDefEqProofs only [m44, slots2, c44_0_e, c44_1_r, (show opsOf c44_1 = _ :: _ from rfl), c44_2_e, c44_3_r, (show opsOf c44_3 = _ :: _ from rfl), ent58, prm58, f58_t, setA, setB, za, zb, zc, zd, ze, zf, zg, zh, zi, zj, zk, zl, zm, zn, zo, zp, reduceCtorEq, zE, ↓reduceIte]
  refine brM (fun yc1 => ?_) (fun yr2 yc1 => ?_)
  · rw [yc1]; rfl
  · simp -implicitDefEqProofs only [e58, c44_4_e, yc1, setA, setB, za, zb, zc, zd, ze, zf, zg, zh, zi, zj, zk, zl, zm, zn, zo, zp, reduceCtorEq, zE, ↓reduceIte]
    all_goals rfl
noncomputable def c72_0 : Code := bodyOf Tryd.f72
def c72_1 := cA c72_0
def c72_2 := cB c72_0
def c72_3 := cA c72_2
def c72_4 := cB c72_2
theorem c72_0_e : c72_0 = .seq c72_1 c72_2 := rfl
theorem c72_1_r : RG (E0 mm) 72 c72_1 := rgN rfl
theorem c72_2_e : c72_2 = .seq c72_3 c72_4 := rfl
theorem c72_3_r : RG (E0 mm) 72 c72_3 := rgN rfl
theorem c72_4_e : c72_4 = .ret := rfl
abbrev R72 := (Int)
def e72 : R72 → AV × Heap := fun x => (.v (.c (.d (.sc (.int .i64 x)))), [])
def m72 (s : Bs) (c : UInt8) : Option R72 :=
  some (Lib.indexByte s c)
theorem f72_t (s : Bs) (c : UInt8) :
    callW (E0 mm) 72 [.c (.d (.sc (.string (S s)))), .c (.d (.sc (.int .u8 ((c).toNat : Int))))] [] = (m72 s c).map e72 := by
  rw [callW_run (body := c72_0) (res := [.tmp 4]) Tryd.func72 rfl rfl (by kernel_rfl)]
  simp -implicitDefEqProofs only [m72, slots2, c72_0_e, c72_1_r, (show opsOf c72_1 = _ :: _ from rfl), c72_2_e, c72_3_r, (show opsOf c72_3 = _ :: _ from rfl), entf80, exf80, ext80_t, c72_4_e, setA, setB, za, zb, zc, zd, ze, zf, zg, zh, zi, zj, zk, zl, zm, zn, zo, zp, reduceCtorEq, zE, ↓reduceIte]
  all_goals rfl
noncomputable def c61_0 : Code := bodyOf Tryd.f61
def c61_1 := cA c61_0
def c61_2 := cB c61_0
def c61_3 := cA c61_2
def c61_4 := cB c61_2
theorem c61_0_e : c61_0 = .seq c61_1 c61_2 := rfl
theorem c61_1_r : RG (E0 mm) 61 c61_1 := rgN rfl
theorem c61_2_e : c61_2 = .seq c61_3 c61_4 := rfl
theorem c61_3_r : RG (E0 mm) 61 c61_3 := rgN rfl
theorem c61_4_e : c61_4 = .ret := rfl
abbrev R61 := (Int)
def e61 : R61 → AV × Heap := fun x => (.v (.c (.d (.sc (.int .i64 x)))), [])
def m61 (s : Bs) (c : UInt8) : Option R61 :=
  (m72 s c).bind fun yr2 =>
    some yr2
theorem f61_t (s : Bs) (c : UInt8) :
    callW (E0 mm) 61 [.c (.d (.sc (.string (S s)))), .c (.d (.sc (.int .u8 ((c).toNat : Int))))] [] = (m61 s c).map e61 := by
  rw [callW_run (body := c61_0) (res := [.tmp 4]) Tryd.func61 rfl rfl (by kernel_rfl)]
  simp -implicitDefEqProofs only [m61, slots2, c61_0_e, c61_1_r, (show opsOf c61_1 = _ :: _ from rfl), c61_2_e, c61_3_r, (show opsOf c61_3 = _ :: _ from rfl), ent72, prm72, f72_t, setA, setB, za, zb, zc, zd, ze, zf, zg, zh, zi, zj, zk, zl, zm, zn, zo, zp, reduceCtorEq, zE, ↓reduceIte]
  refine brM (fun yc1 => ?_) (fun yr2 yc1 => ?_)
  · rw [yc1]; rfl
  · simp -implicitDefEqProofs only [e72, c61_4_e, yc1, setA, setB, za, zb, zc, zd, ze, zf, zg, zh, zi, zj, zk, zl, zm, zn, zo, zp, reduceCtorEq, zE, ↓reduceIte]
    all_goals rfl
noncomputable def c60_0 : Code := bodyOf Tryd.f60
def c60_1 := cA c60_0
def c60_2 := cB c60_0
def c60_3 := cA c60_2
def c60_4 := cB c60_2
def c60_5 := cA c60_4
def c60_6 := cB c60_4
theorem c60_0_e : c60_0 = .seq c60_1 c60_2 := rfl
theorem c60_1_r : RG (E0 mm) 60 c60_1 := rgN rfl
theorem c60_2_e : c60_2 = .seq c60_3 c60_4 := rfl
theorem c60_3_r : RG (E0 mm) 60 c60_3 := rgN rfl
theorem c60_4_e : c60_4 = .seq c60_5 c60_6 := rfl
theorem c60_5_r : RG (E0 mm) 60 c60_5 := rgN rfl
theorem c60_6_e : c60_6 = .ret := rfl
abbrev R60 := (Bool)
def e60 : R60 → AV × Heap := fun x => (.v (.c (.d (.sc (.bool x)))), [])
def m60 (c : UInt8) : Option R60 :=
  if (decide ((97 : UInt8) ≤ (c ||| (32 : UInt8)))) = true then
    if (decide ((c ||| (32 : UInt8)) ≤ (122 : UInt8))) = true then
      some true
    else
      if (decide ((48 : UInt8) ≤ c)) = true then
        if (decide (c ≤ (57 : UInt8))) = true then
          some true
        else
          (m61 ([33, 35, 36, 37, 38, 39, 42, 43, 45, 46, 94, 95, 96, 124, 126] : Bs) c).bind fun yr6 =>
            some (decide (0 ≤ yr6))
      else
        (m61 ([33, 35, 36, 37, 38, 39, 42, 43, 45, 46, 94, 95, 96, 124, 126] : Bs) c).bind fun yr8 =>
          some (decide (0 ≤ yr8))
  else
    if (decide ((48 : UInt8) ≤ c)) = true then
      if (decide (c ≤ (57 : UInt8))) = true then
        some true
      else
        (m61 ([33, 35, 36, 37, 38, 39, 42, 43, 45, 46, 94, 95, 96, 124, 126] : Bs) c).bind fun yr12 =>
          some (decide (0 ≤ yr12))
    else
      (m61 ([33, 35, 36, 37, 38, 39, 42, 43, 45, 46, 94, 95, 96, 124, 126] : Bs) c).bind fun yr14 =>
        some (decide (0 ≤ yr14))
theorem f60_t (c : UInt8) :
    callW (E0 mm) 60 [.c (.d (.sc (.int .u8 ((c).toNat : Int))))] [] = (m60 c).map e60 := by
  rw [callW_run (body := c60_0) (res := [.tmp 2]) Tryd.func60 rfl rfl (by kernel_rfl)]
  simp -implicitDefEqProofs only [m60, slots1, c60_0_e, c60_1_r, (show opsOf c60_1 = _ :: _ from rfl), c60_2_e, c60_3_r, (show opsOf c60_3 = _ :: _ from rfl), c60_4_e, c60_5_r, (show opsOf c60_5 = _ :: _ from rfl), setA, setB, za, zb, zc, zd, ze, zf, zg, zh, zi, zj, zk, zl, zm, zn, zo, zp, reduceCtorEq, zE, ↓reduceIte]
  refine brB (fun yc1 => ?_) (fun yc1 => ?_)
  · simp -implicitDefEqProofs only [yc1, setA, setB, za, zb, zc, zd, ze, zf, zg, zh, zi, zj, zk, zl, zm, zn, zo, zp, reduceCtorEq, zE, ↓reduceIte]
    refine brB (fun yc2 => ?_) (fun yc2 => ?_)
    · simp -implicitDefEqProofs only [c60_6_e, yc1, yc2, setA, setB, za, zb, zc, zd, ze, zf, zg, zh, zi, zj, zk, zl, zm, zn, zo, zp, reduceCtorEq, zE, ↓reduceIte]
      all_goals rfl
    · simp -implicitDefEqProofs only [yc1, yc2, setA, setB, za, zb, zc, zd, ze, zf, zg, zh, zi, zj, zk, zl, zm, zn, zo, zp, reduceCtorEq, zE, ↓reduceIte]
      refine brB (fun yc3 => ?_) (fun yc3 => ?_)
      · simp -implicitDefEqProofs only [yc1, yc2, yc3, setA, setB, za, zb, zc, zd, ze, zf, zg, zh, zi, zj, zk, zl, zm, zn, zo, zp, reduceCtorEq, zE, ↓reduceIte]
        refine brB (fun yc4 => ?_) (fun yc4 => ?_)
        · simp -implicitDefEqProofs only [c60_6_e, yc1, yc2, yc3, yc4, setA, setB, za, zb, zc, zd, ze, zf, zg, zh, zi, zj, zk, zl, zm, zn, zo, zp, reduceCtorEq, zE, ↓reduceIte]
          all_goals rfl
        · simp -implicitDefEqProofs only [ent61, prm61, (show callW (E0 mm) 61 [.c (.d (.sc (.string (S ([33, 35, 36, 37, 38, 39, 42, 43, 45, 46, 94, 95, 96, 124, 126] : Bs))))), .c (.d (.sc (.int .u8 ((c).toNat : Int))))] [] = _ from f61_t ([33, 35, 36, 37, 38, 39, 42, 43, 45, 46, 94, 95, 96, 124, 126] : Bs) c), yc1, yc2, yc3, yc4, setA, setB, za, zb, zc, zd, ze, zf, zg, zh, zi, zj, zk, zl, zm, zn, zo, zp, reduceCtorEq, zE, ↓reduceIte]
          refine brM (fun yc5 => ?_) (fun yr6 yc5 => ?_)
          · rw [yc5]; rfl
          · simp -implicitDefEqProofs only [e61, c60_6_e, yc1, yc2, yc3, yc4, yc5, setA, setB, za, zb, zc, zd, ze, zf, zg, zh, zi, zj, zk, zl, zm, zn, zo, zp, reduceCtorEq, zE, ↓reduceIte]
            all_goals rfl
      · simp -implicitDefEqProofs only [ent61, prm61, (show callW (E0 mm) 61 [.c (.d (.sc (.string (S ([33, 35, 36, 37, 38, 39, 42, 43, 45, 46, 94, 95, 96, 124, 126] : Bs))))), .c (.d (.sc (.int .u8 ((c).toNat : Int))))] [] = _ from f61_t ([33, 35, 36, 37, 38, 39, 42, 43, 45, 46, 94, 95, 96, 124, 126] : Bs) c), yc1, yc2, yc3, setA, setB, za, zb, zc, zd, ze, zf, zg, zh, zi, zj, zk, zl, zm, zn, zo, zp, reduceCtorEq, zE, ↓reduceIte]
        refine brM (fun yc7 => ?_) (fun yr8 yc7 => ?_)
        · rw [yc7]; rfl
        · simp -implicitDefEqProofs only [e61, c60_6_e, yc1, yc2, yc3, yc7, setA, setB, za, zb, zc, zd, ze, zf, zg, zh, zi, zj, zk, zl, zm, zn, zo, zp, reduceCtorEq, zE, ↓reduceIte]
          all_goals rfl
  · simp -implicitDefEqProofs only [yc1, setA, setB, za, zb, zc, zd, ze, zf, zg, zh, zi, zj, zk, zl, zm, zn, zo, zp, reduceCtorEq, zE, ↓reduceIte]
    refine brB (fun yc9 => ?_) (fun yc9 => ?_)
    · simp -implicitDefEqProofs only [yc1, yc9, setA, setB, za, zb, zc, zd, ze, zf, zg, zh, zi, zj, zk, zl, zm, zn, zo, zp, reduceCtorEq, zE, ↓reduceIte]
      refine brB (fun yc10 => ?_) (fun yc10 => ?_)
      · simp -implicitDefEqProofs only [c60_6_e, yc1, yc9, yc10, setA, setB, za, zb, zc, zd, ze, zf, zg, zh, zi, zj, zk, zl, zm, zn, zo, zp, reduceCtorEq, zE, ↓reduceIte]
        all_goals rfl
      · simp -implicitDefEqProofs only [ent61, prm61, (show callW (E0 mm) 61 [.c (.d (.sc (.string (S ([33, 35, 36, 37, 38, 39, 42, 43, 45, 46, 94, 95, 96, 124, 126] : Bs))))), .c (.d (.sc (.int .u8 ((c).toNat : Int))))] [] = _ from f61_t ([33, 35, 36, 37, 38, 39, 42, 43, 45, 46, 94, 95, 96, 124, 126] : Bs) c), yc1, yc9, yc10, setA, setB, za, zb, zc, zd, ze, zf, zg, zh, zi, zj, zk, zl, zm, zn, zo, zp, reduceCtorEq, zE, ↓reduceIte]
        refine brM (fun yc11 => ?_) (fun yr12 yc11 => ?_)
        · rw [yc11]; rfl
        · simp -implicitDefEqProofs only [e61, c60_6_e, yc1, yc9, yc10, yc11, setA, setB, za, zb, zc, zd, ze, zf, zg, zh, zi, zj, zk, zl, zm, zn, zo, zp, reduceCtorEq, zE, ↓reduceIte]
          all_goals rfl
    · simp -implicitDefEqProofs only [ent61, prm61, (show callW (E0 mm) 61 [.c (.d (.sc (.string (S ([33, 35, 36, 37, 38, 39, 42, 43, 45, 46, 94, 95, 96, 124, 126] : Bs))))), .c (.d (.sc (.int .u8 ((c).toNat : Int))))] [] = _ from f61_t ([33, 35, 36, 37, 38, 39, 42, 43, 45, 46, 94, 95, 96, 124, 126] : Bs) c), yc1, yc9, setA, setB, za, zb, zc, zd, ze, zf, zg, zh, zi, zj, zk, zl, zm, zn, zo, zp, reduceCtorEq, zE, ↓reduceIte]
      refine brM (fun yc13 => ?_) (fun yr14 yc13 => ?_)
      · rw [yc13]; rfl
      · simp -implicitDefEqProofs only [e61, c60_6_e, yc1, yc9, yc13, setA, setB, za, zb, zc, zd, ze, zf, zg, zh, zi, zj, zk, zl, zm, zn, zo, zp, reduceCtorEq, zE, ↓reduceIte]
        all_goals rfl
noncomputable def c71_0 : Code := bodyOf Tryd.f71
def c71_1 := cA c71_0
def c71_2 := cB c71_0
def c71_3 := cA c71_2
def c71_4 := cB c71_2
theorem c71_0_e : c71_0 = .seq c71_1 c71_2 := rfl
theorem c71_1_r : RG (E0 mm) 71 c71_1 := rgN rfl
theorem c71_2_e : c71_2 = .seq c71_3 c71_4 := rfl
theorem c71_3_r : RG (E0 mm) 71 c71_3 := rgN rfl
theorem c71_4_e : c71_4 = .ret := rfl
abbrev R71 := (Bool)
def e71 : R71 → AV × Heap := fun x => (.v (.c (.d (.sc (.bool x)))), [.cells [.d (.sc (.func (.func 60) #[] #[]))]])
def m71 (c : UInt8) : Option R71 :=
  (m60 c).bind fun yr2 =>
    some (!yr2)
theorem f71_t (c : UInt8) :
    callW (E0 mm) 71 [.c (.d (.sc (.int .u8 ((c).toNat : Int)))), .c (.ptr 0 0)] [.cells [.d (.sc (.func (.func 60) #[] #[]))]] = (m71 c).map e71 := by
  rw [callW_run (body := c71_0) (res := [.tmp 3]) Tryd.func71 rfl rfl (by kernel_rfl)]
  simp -implicitDefEqProofs only [m71, slots2, c71_0_e, c71_1_r, (show opsOf c71_1 = _ :: _ from rfl), c71_2_e, c71_3_r, (show opsOf c71_3 = _ :: _ from rfl), sz65, ag65, ent60, prm60, f60_t, setA, setB, za, zb, zc, zd, ze, zf, zg, zh, zi, zj, zk, zl, zm, zn, zo, zp, reduceCtorEq, zE, ↓reduceIte]
  refine brM (fun yc1 => ?_) (fun yr2 yc1 => ?_)
  · rw [yc1]; rfl
  · simp -implicitDefEqProofs only [e60, c71_4_e, yc1, setA, setB, za, zb, zc, zd, ze, zf, zg, zh, zi, zj, zk, zl, zm, zn, zo, zp, reduceCtorEq, zE, ↓reduceIte]
    all_goals rfl
noncomputable def c79_0 : Code := bodyOf Tryd.f79
def c79_1 := cA c79_0
def c79_2 := cB c79_0
def c79_3 := cA c79_2
def c79_4 := cA c79_3
def c79_5 := cB c79_3
def c79_6 := cA c79_5
def c79_7 := cA c79_6
def c79_8 := cA c79_7
def c79_9 := cB c79_7
def c79_10 := cA c79_9
def c79_11 := cA c79_10
def c79_12 := cB c79_10
def c79_13 := cB c79_9
def c79_14 := cA c79_13
def c79_15 := cA c79_14
def c79_16 := cA c79_15
def c79_17 := cB c79_15
def c79_18 := cA c79_17
def c79_19 := cB c79_17
def c79_20 := cA c79_19
def c79_21 := cA c79_20
def c79_22 := cB c79_20
def c79_23 := cB c79_19
def c79_24 := cB c79_13
def c79_25 := cB c79_2
def c79_26 := cA c79_25
def c79_27 := cB c79_25
theorem c79_0_e : c79_0 = .seq c79_1 c79_2 := rfl
theorem c79_1_r : RG (E0 mm) 79 c79_1 := rgN rfl
theorem c79_2_e : c79_2 = .seq c79_3 c79_25 := rfl
theorem c79_3_e : c79_3 = .seq c79_4 c79_5 := rfl
theorem c79_4_r : RG (E0 mm) 79 c79_4 := rgN rfl
theorem c79_5_e : c79_5 = .block 0 c79_6 := rfl
theorem c79_6_l (m : Nat) (st : St) : den (E0 mm) 79 m (callW (E0 mm)) itW c79_6 none st = loopD itW (loopF (E0 mm) 79 m (callW (E0 mm)) itW c79_7 [(0, .keep), (1, .keep), (7, .keep), (8, .keep)]) (canon m [(0, .keep), (1, .keep), (7, .keep), (8, .keep)] st) := rfl
theorem c79_7_e : c79_7 = .seq c79_8 c79_9 := rfl
theorem c79_8_r : RG (E0 mm) 79 c79_8 := rgN rfl
theorem c79_9_e : c79_9 = .seq c79_10 c79_13 := rfl
theorem c79_11_e : c79_11 = .skip := rfl
theorem c79_12_e : c79_12 = .exit 0 := rfl
theorem c79_13_e : c79_13 = .seq c79_14 c79_24 := rfl
theorem c79_14_e : c79_14 = .block 1 c79_15 := rfl
theorem c79_15_e : c79_15 = .seq c79_16 c79_17 := rfl
theorem c79_16_r : RG (E0 mm) 79 c79_16 := rgN rfl
theorem c79_17_e : c79_17 = .seq c79_18 c79_19 := rfl
theorem c79_18_r : RG (E0 mm) 79 c79_18 := rgN rfl
theorem c79_20_e : c79_20 = .seq c79_21 c79_22 := rfl
theorem c79_21_r : RG (E0 mm) 79 c79_21 := rgN rfl
theorem c79_22_e : c79_22 = .ret := rfl
theorem c79_23_e : c79_23 = .skip := rfl
theorem c79_24_r : RG (E0 mm) 79 c79_24 := rgN rfl
theorem c79_25_e : c79_25 = .seq c79_26 c79_27 := rfl
theorem c79_26_r : RG (E0 mm) 79 c79_26 := rgN rfl
theorem c79_27_e : c79_27 = .ret := rfl
abbrev R79 := (Int)
def e79 : R79 → AV × Heap := fun x => (.v (.c (.d (.sc (.int .i64 x)))), [.cells [.d (.sc (.func (.func 60) #[] #[]))]])
def K79_6 : Option (Ex × St) → Option (AV × Heap) := fun r => bodyD (E0 mm) [.tmp 4] 1 false (seqD (E0 mm) 79 1 (callW (E0 mm)) itW c79_25 (blockD 0 (r)))
def en79_6 : (Bool × List UInt8 × Int × Int) → X := fun x => (none, [.v (.c (.d (.lst x.1 (enL enB x.2.1)))), .v (.c (.fn 71 [(0, 0)])), .v (.c (.d (.sc (.int .i64 x.2.2.1)))), .v (.c (.d (.sc (.int .i64 x.2.2.2))))], [.cells [.d (.sc (.func (.func 60) #[] #[]))]])
def j79_25  : Option R79 :=
  some (-1 : Int)
theorem j79_25_t   (sl : Nat → AV)  :
    bodyD (E0 mm) [.tmp 4] 1 false (den (E0 mm) 79 1 (callW (E0 mm)) itW c79_25 none ⟨sl, [.cells [.d (.sc (.func (.func 60) #[] #[]))]]⟩) = (j79_25).map e79 := by
  simp -implicitDefEqProofs only [j79_25, c79_25_e, c79_26_r, (show opsOf c79_26 = _ :: _ from rfl), c79_27_e, setA, setB, za, zb, zc, zd, ze, zf, zg, zh, zi, zj, zk, zl, zm, zn, zo, zp, reduceCtorEq, zE, ↓reduceIte]
  all_goals rfl
def s79_6 (s0_0 : Bool) (s0_1 : List UInt8) (t7 t8 : Int) : Option ((Bool × List UInt8 × Int × Int) ⊕ R79) :=
  if (decide (t8 < t7)) = true then
    if 0 ≤ t8 ∧ t8 < (s0_1.length : Int) then
      (m71 (s0_1.getD t8.toNat default)).bind fun yr5 =>
        if yr5 = true then
          some (.inr t8)
        else
          some (.inl (s0_0, s0_1, t7, (w64 (t8 + 1))))
    else none
  else
    (j79_25).map .inr
theorem s79_6_t (s0_0 : Bool) (s0_1 : List UInt8) (t7 t8 : Int) :
    stepE (K79_6 (mm := mm)) (loopF (E0 mm) 79 1 (callW (E0 mm)) itW c79_7 [(0, .keep), (1, .keep), (7, .keep), (8, .keep)] (none, [.v (.c (.d (.lst s0_0 (enL enB s0_1)))), .v (.c (.fn 71 [(0, 0)])), .v (.c (.d (.sc (.int .i64 t7)))), .v (.c (.d (.sc (.int .i64 t8))))], [.cells [.d (.sc (.func (.func 60) #[] #[]))]])) = (s79_6 s0_0 s0_1 t7 t8).map (sm en79_6 e79) := by
  simp -implicitDefEqProofs only [s79_6, loopF_eq, c79_7_e, c79_8_r, (show opsOf c79_8 = _ :: _ from rfl), c79_9_e, (show c79_10 = Code.cond _ c79_11 c79_12 from rfl), setA, setB, za, zb, zc, zd, ze, zf, zg, zh, zi, zj, zk, zl, zm, zn, zo, zp, reduceCtorEq, zE, ↓reduceIte]
  refine brB (fun yc1 => ?_) (fun yc1 => ?_)
  · simp -implicitDefEqProofs only [c79_11_e, c79_13_e, c79_14_e, c79_15_e, c79_16_r, (show opsOf c79_16 = _ :: _ from rfl), c79_17_e, c79_18_r, (show opsOf c79_18 = _ :: _ from rfl), Tryd.underlying36, sz5, enB_a, yc1, setA, setB, za, zb, zc, zd, ze, zf, zg, zh, zi, zj, zk, zl, zm, zn, zo, zp, reduceCtorEq, zE, ↓reduceIte]
    refine brP (fun yc2 => ?_) (fun yc2 => ?_)
    · have yd3 : t8.toNat < s0_1.length := by omega
      simp -implicitDefEqProofs only [(enL_get enB s0_1 t8.toNat yd3), enB_e, sz5, ag5, ent71, prm71, f71_t, yc1, yc2, yd3, setA, setB, za, zb, zc, zd, ze, zf, zg, zh, zi, zj, zk, zl, zm, zn, zo, zp, reduceCtorEq, zE, ↓reduceIte]
      refine brM (fun yc4 => ?_) (fun yr5 yc4 => ?_)
      · rw [yc4]; rfl
      · simp -implicitDefEqProofs only [e71, (show c79_19 = Code.cond _ c79_20 c79_23 from rfl), yc1, yc2, yd3, yc4, setA, setB, za, zb, zc, zd, ze, zf, zg, zh, zi, zj, zk, zl, zm, zn, zo, zp, reduceCtorEq, zE, ↓reduceIte]
        refine brB (fun yc6 => ?_) (fun yc6 => ?_)
        · simp -implicitDefEqProofs only [c79_20_e, c79_21_r, (show opsOf c79_21 = _ :: _ from rfl), c79_22_e, K79_6, yc1, yc2, yd3, yc4, yc6, setA, setB, za, zb, zc, zd, ze, zf, zg, zh, zi, zj, zk, zl, zm, zn, zo, zp, reduceCtorEq, zE, ↓reduceIte]
          all_goals rfl
        · simp -implicitDefEqProofs only [c79_23_e, c79_24_r, (show opsOf c79_24 = _ :: _ from rfl), yc1, yc2, yd3, yc4, yc6, setA, setB, za, zb, zc, zd, ze, zf, zg, zh, zi, zj, zk, zl, zm, zn, zo, zp, reduceCtorEq, zE, ↓reduceIte]
          all_goals rfl
    · rw [if_neg yc2]; rfl
  · simp -implicitDefEqProofs only [c79_12_e, K79_6, yc1, setA, setB, za, zb, zc, zd, ze, zf, zg, zh, zi, zj, zk, zl, zm, zn, zo, zp, reduceCtorEq, zE, ↓reduceIte]
    exact mi (j79_25_t _)
def l79_6 (s0_0 : Bool) (s0_1 : List UInt8) (t7 t8 : Int) : Option R79 := iter (fun x : (Bool × List UInt8 × Int × Int) => s79_6 x.1 x.2.1 x.2.2.1 x.2.2.2) (s0_0, s0_1, t7, t8)
theorem l79_6_t (s0_0 : Bool) (s0_1 : List UInt8) (t7 t8 : Int) : bodyD (E0 mm) [.tmp 4] 1 false (seqD (E0 mm) 79 1 (callW (E0 mm)) itW c79_25 (blockD 0 (itW (loopF (E0 mm) 79 1 (callW (E0 mm)) itW c79_7 [(0, .keep), (1, .keep), (7, .keep), (8, .keep)]) (none, [.v (.c (.d (.lst s0_0 (enL enB s0_1)))), .v (.c (.fn 71 [(0, 0)])), .v (.c (.d (.sc (.int .i64 t7)))), .v (.c (.d (.sc (.int .i64 t8))))], [.cells [.d (.sc (.func (.func 60) #[] #[]))]])))) = (l79_6 s0_0 s0_1 t7 t8).map e79 :=
  it_sim (K := (K79_6 (mm := mm))) rfl (enc := en79_6) (fun x => s79_6_t x.1 x.2.1 x.2.2.1 x.2.2.2) (s0_0, s0_1, t7, t8)
def m79 (s_0 : Bool) (s_1 : List UInt8) : Option R79 :=
  l79_6 s_0 s_1 (s_1.length : Int) (0 : Int)
theorem f79_t (s_0 : Bool) (s_1 : List UInt8) :
    callW (E0 mm) 79 [.c (.d (.lst s_0 (enL enB s_1))), .c (.fn 71 [(0, 0)])] [.cells [.d (.sc (.func (.func 60) #[] #[]))]] = (m79 s_0 s_1).map e79 := by
  rw [callW_run (body := c79_0) (res := [.tmp 4]) Tryd.func79 rfl rfl (by kernel_rfl)]
  simp -implicitDefEqProofs only [m79, slots2, c79_0_e, c79_1_r, (show opsOf c79_1 = _ :: _ from rfl), c79_2_e, c79_3_e, c79_4_r, (show opsOf c79_4 = _ :: _ from rfl), Tryd.underlying36, c79_5_e, c79_6_l, setA, setB, za, zb, zc, zd, ze, zf, zg, zh, zi, zj, zk, zl, zm, zn, zo, zp, reduceCtorEq, zE, ↓reduceIte]
  exact l79_6_t s_0 s_1 (s_1.length : Int) (0 : Int)
noncomputable def c70_0 : Code := bodyOf Tryd.f70
def c70_1 := cA c70_0
def c70_2 := cB c70_0
def c70_3 := cA c70_2
def c70_4 := cB c70_2
theorem c70_0_e : c70_0 = .seq c70_1 c70_2 := rfl
theorem c70_1_r : RG (E0 mm) 70 c70_1 := rgN rfl
theorem c70_2_e : c70_2 = .seq c70_3 c70_4 := rfl
theorem c70_3_r : RG (E0 mm) 70 c70_3 := rgN rfl
theorem c70_4_e : c70_4 = .ret := rfl
abbrev R70 := (Bool)
def e70 : R70 → AV × Heap := fun x => (.v (.c (.d (.sc (.bool x)))), [.cells [.d (.sc (.func (.func 60) #[] #[]))]])
def m70 (s_0 : Bool) (s_1 : List UInt8) : Option R70 :=
  (m79 s_0 s_1).bind fun yr2 =>
    some (decide (0 ≤ yr2))
theorem f70_t (s_0 : Bool) (s_1 : List UInt8) :
    callW (E0 mm) 70 [.c (.d (.lst s_0 (enL enB s_1))), .c (.fn 71 [(0, 0)])] [.cells [.d (.sc (.func (.func 60) #[] #[]))]] = (m70 s_0 s_1).map e70 := by
  rw [callW_run (body := c70_0) (res := [.tmp 4]) Tryd.func70 rfl rfl (by kernel_rfl)]
  simp -implicitDefEqProofs only [m70, slots2, c70_0_e, c70_1_r, (show opsOf c70_1 = _ :: _ from rfl), c70_2_e, c70_3_r, (show opsOf c70_3 = _ :: _ from rfl), ent79, prm79, f79_t, setA, setB, za, zb, zc, zd, ze, zf, zg, zh, zi, zj, zk, zl, zm, zn, zo, zp, reduceCtorEq, zE, ↓reduceIte]
  refine brM (fun yc1 => ?_) (fun yr2 yc1 => ?_)
  · rw [yc1]; rfl
  · simp -implicitDefEqProofs only [e79, c70_4_e, yc1, setA, setB, za, zb, zc, zd, ze, zf, zg, zh, zi, zj, zk, zl, zm, zn, zo, zp, reduceCtorEq, zE, ↓reduceIte]
    all_goals rfl
noncomputable def c59_0 : Code := bodyOf Tryd.f59
def c59_1 := cA c59_0
def c59_2 := cB c59_0
def c59_3 := cA c59_2
def c59_4 := cB c59_2
theorem c59_0_e : c59_0 = .seq c59_1 c59_2 := rfl
theorem c59_1_r : RG (E0 mm) 59 c59_1 := rgN rfl
theorem c59_2_e : c59_2 = .seq c59_3 c59_4 := rfl
theorem c59_3_r : RG (E0 mm) 59 c59_3 := rgN rfl
theorem c59_4_e : c59_4 = .ret := rfl
abbrev R59 := (Bool)
def e59 : R59 → AV × Heap := fun x => (.v (.c (.d (.sc (.bool x)))), [])
def m59 (s : Bs) : Option R59 :=
  (m70 false s).bind fun yr2 =>
    some (!yr2)
theorem f59_t (s : Bs) :
    callW (E0 mm) 59 [.c (.d (.sc (.string (S s)))), .c (.d (.sc (.func (.func 60) #[] #[])))] [] = (m59 s).map e59 := by
  rw [callW_run (body := c59_0) (res := [.tmp 4]) Tryd.func59 rfl rfl (by kernel_rfl)]
  simp -implicitDefEqProofs only [m59, slots2, c59_0_e, c59_1_r, (show opsOf c59_1 = _ :: _ from rfl), c59_2_e, c59_3_r, (show opsOf c59_3 = _ :: _ from rfl), Tryd.underlying9, Tryd.underlying36, Tryd.underlying5, hd16, rw17, ent70, prm70, (show callW (E0 mm) 70 [.c (.d (.lst false (enL enB s))), .c (.fn 71 [(0, 0)])] [.cells [.d (.sc (.func (.func 60) #[] #[]))]] = _ from f70_t false s), setA, setB, za, zb, zc, zd, ze, zf, zg, zh, zi, zj, zk, zl, zm, zn, zo, zp, reduceCtorEq, zE, ↓reduceIte]
  refine brM (fun yc1 => ?_) (fun yr2 yc1 => ?_)
  · rw [yc1]; rfl
  · simp -implicitDefEqProofs only [e70, c59_4_e, yc1, setA, setB, za, zb, zc, zd, ze, zf, zg, zh, zi, zj, zk, zl, zm, zn, zo, zp, reduceCtorEq, zE, ↓reduceIte]
    all_goals rfl
noncomputable def c45_0 : Code := bodyOf Tryd.f45
def c45_1 := cA c45_0
def c45_2 := cB c45_0
def c45_3 := cA c45_2
def c45_4 := cB c45_2
theorem c45_0_e : c45_0 = .seq c45_1 c45_2 := rfl
theorem c45_1_r : RG (E0 mm) 45 c45_1 := rgN rfl
theorem c45_2_e : c45_2 = .seq c45_3 c45_4 := rfl
theorem c45_3_r : RG (E0 mm) 45 c45_3 := rgN rfl
theorem c45_4_e : c45_4 = .ret := rfl
abbrev R45 := (Bool)
def e45 : R45 → AV × Heap := fun x => (.v (.c (.d (.sc (.bool x)))), [])
def m45 (s : Bs) : Option R45 :=
  if (s == ([] : Bs)) = true then
    some false
  else
    (m59 s).bind fun yr3 =>
      some yr3
theorem f45_t (s : Bs) :
    callW (E0 mm) 45 [.c (.d (.sc (.string (S s))))] [] = (m45 s).map e45 := by
  rw [callW_run (body := c45_0) (res := [.tmp 2]) Tryd.func45 rfl rfl (by kernel_rfl)]
  simp -implicitDefEqProofs only [m45, slots1, c45_0_e, c45_1_r, (show opsOf c45_1 = _ :: _ from rfl), c45_2_e, c45_3_r, (show opsOf c45_3 = _ :: _ from rfl), setA, setB, za, zb, zc, zd, ze, zf, zg, zh, zi, zj, zk, zl, zm, zn, zo, zp, reduceCtorEq, zE, ↓reduceIte]
  refine brB (fun yc1 => ?_) (fun yc1 => ?_)
  · simp -implicitDefEqProofs only [c45_4_e, yc1, setA, setB, za, zb, zc, zd, ze, zf, zg, zh, zi, zj, zk, zl, zm, zn, zo, zp, reduceCtorEq, zE, ↓reduceIte]
    all_goals rfl
  · simp -implicitDefEqProofs only [ent59, prm59, f59_t, yc1, setA, setB, za, zb, zc, zd, ze, zf, zg, zh, zi, zj, zk, zl, zm, zn, zo, zp, reduceCtorEq, zE, ↓reduceIte]
    refine brM (fun yc2 => ?_) (fun yr3 yc2 => ?_)
    · rw [yc2]; rfl
    · simp -implicitDefEqProofs only [e59, c45_4_e, yc1, yc2, setA, setB, za, zb, zc, zd, ze, zf, zg, zh, zi, zj, zk, zl, zm, zn, zo, zp, reduceCtorEq, zE, ↓reduceIte]
      all_goals rfl
noncomputable def c62_0 : Code := bodyOf Tryd.f62
def c62_1 := cA c62_0
def c62_2 := cB c62_0
def c62_3 := cA c62_2
def c62_4 := cB c62_2
theorem c62_0_e : c62_0 = .seq c62_1 c62_2 := rfl
theorem c62_1_r : RG (E0 mm) 62 c62_1 := rgN rfl
theorem c62_2_e : c62_2 = .seq c62_3 c62_4 := rfl
theorem c62_3_r : RG (E0 mm) 62 c62_3 := rgN rfl
theorem c62_4_e : c62_4 = .ret := rfl
abbrev R62 := (Bool)
def e62 : R62 → AV × Heap := fun x => (.v (.c (.d (.sc (.bool x)))), [])
def m62 (c : UInt8) : Option R62 :=
  if (c == (9 : UInt8)) = true then
    some true
  else
    if (decide ((32 : UInt8) ≤ c)) = true then
      some (!(c == (127 : UInt8)))
    else
      some false
theorem f62_t (c : UInt8) :
    callW (E0 mm) 62 [.c (.d (.sc (.int .u8 ((c).toNat : Int))))] [] = (m62 c).map e62 := by
  rw [callW_run (body := c62_0) (res := [.tmp 2]) Tryd.func62 rfl rfl (by kernel_rfl)]
  simp -implicitDefEqProofs only [m62, slots1, c62_0_e, c62_1_r, (show opsOf c62_1 = _ :: _ from rfl), c62_2_e, c62_3_r, (show opsOf c62_3 = _ :: _ from rfl), setA, setB, za, zb, zc, zd, ze, zf, zg, zh, zi, zj, zk, zl, zm, zn, zo, zp, reduceCtorEq, zE, ↓reduceIte]
  refine brB (fun yc1 => ?_) (fun yc1 => ?_)
  · simp -implicitDefEqProofs only [c62_4_e, yc1, setA, setB, za, zb, zc, zd, ze, zf, zg, zh, zi, zj, zk, zl, zm, zn, zo, zp, reduceCtorEq, zE, ↓reduceIte]
    all_goals rfl
  · simp -implicitDefEqProofs only [yc1, setA, setB, za, zb, zc, zd, ze, zf, zg, zh, zi, zj, zk, zl, zm, zn, zo, zp, reduceCtorEq, zE, ↓reduceIte]
    refine brB (fun yc2 => ?_) (fun yc2 => ?_)
    · simp -implicitDefEqProofs only [c62_4_e, yc1, yc2, setA, setB, za, zb, zc, zd, ze, zf, zg, zh, zi, zj, zk, zl, zm, zn, zo, zp, reduceCtorEq, zE, ↓reduceIte]
      all_goals rfl
    · simp -implicitDefEqProofs only [c62_4_e, yc1, yc2, setA, setB, za, zb, zc, zd, ze, zf, zg, zh, zi, zj, zk, zl, zm, zn, zo, zp, reduceCtorEq, zE, ↓reduceIte]
      all_goals rfl
noncomputable def c46_0 : Code := bodyOf Tryd.f46
def c46_1 := cA c46_0
def c46_2 := cB c46_0
def c46_3 := cA c46_2
def c46_4 := cA c46_3
def c46_5 := cB c46_3
def c46_6 := cA c46_5
def c46_7 := cA c46_6
def c46_8 := cB c46_6
def c46_9 := cB c46_5
def c46_10 := cB c46_2
def c46_11 := cA c46_10
def c46_12 := cB c46_10
def c46_13 := cA c46_12
def c46_14 := cB c46_12
def c46_15 := cA c46_14
def c46_16 := cA c46_15
def c46_17 := cB c46_15
def c46_18 := cA c46_17
def c46_19 := cA c46_18
def c46_20 := cA c46_19
def c46_21 := cA c46_20
def c46_22 := cB c46_20
def c46_23 := cA c46_22
def c46_24 := cB c46_22
def c46_25 := cB c46_19
def c46_26 := cA c46_25
def c46_27 := cA c46_26
def c46_28 := cA c46_27
def c46_29 := cA c46_28
def c46_30 := cA c46_29
def c46_31 := cB c46_29
def c46_32 := cA c46_31
def c46_33 := cA c46_32
def c46_34 := cB c46_32
def c46_35 := cB c46_31
def c46_36 := cA c46_35
def c46_37 := cB c46_35
def c46_38 := cA c46_37
def c46_39 := cA c46_38
def c46_40 := cB c46_38
def c46_41 := cA c46_40
def c46_42 := cB c46_40
def c46_43 := cA c46_42
def c46_44 := cA c46_43
def c46_45 := cB c46_43
def c46_46 := cB c46_42
def c46_47 := cB c46_37
def c46_48 := cB c46_27
def c46_49 := cA c46_48
def c46_50 := cA c46_49
def c46_51 := cB c46_49
def c46_52 := cA c46_51
def c46_53 := cA c46_52
def c46_54 := cB c46_52
def c46_55 := cB c46_51
def c46_56 := cB c46_48
def c46_57 := cB c46_25
def c46_58 := cB c46_14
def c46_59 := cA c46_58
def c46_60 := cB c46_58
theorem c46_0_e : c46_0 = .seq c46_1 c46_2 := rfl
theorem c46_1_r : RG (E0 mm) 46 c46_1 := rgN rfl
theorem c46_2_e : c46_2 = .seq c46_3 c46_10 := rfl
theorem c46_3_e : c46_3 = .seq c46_4 c46_5 := rfl
theorem c46_4_r : RG (E0 mm) 46 c46_4 := rgN rfl
theorem c46_6_e : c46_6 = .seq c46_7 c46_8 := rfl
theorem c46_7_r : RG (E0 mm) 46 c46_7 := rgN rfl
theorem c46_8_e : c46_8 = .ret := rfl
theorem c46_9_e : c46_9 = .skip := rfl
theorem c46_10_e : c46_10 = .seq c46_11 c46_12 := rfl
theorem c46_11_r : RG (E0 mm) 46 c46_11 := rgN rfl
theorem c46_12_e : c46_12 = .seq c46_13 c46_14 := rfl
theorem c46_13_r : RG (E0 mm) 46 c46_13 := rgN rfl
theorem c46_14_e : c46_14 = .seq c46_15 c46_58 := rfl
theorem c46_15_e : c46_15 = .seq c46_16 c46_17 := rfl
theorem c46_16_r : RG (E0 mm) 46 c46_16 := rgN rfl
theorem c46_17_e : c46_17 = .block 0 c46_18 := rfl
theorem c46_18_l (m : Nat) (st : St) : den (E0 mm) 46 m (callW (E0 mm)) itW c46_18 none st = loopD itW (loopF (E0 mm) 46 m (callW (E0 mm)) itW c46_19 [(4, .own), (5, .keep), (6, .keep)]) (canon m [(4, .own), (5, .keep), (6, .keep)] st) := rfl
theorem c46_19_e : c46_19 = .seq c46_20 c46_25 := rfl
theorem c46_20_e : c46_20 = .seq c46_21 c46_22 := rfl
theorem c46_21_r : RG (E0 mm) 46 c46_21 := rgN rfl
theorem c46_23_e : c46_23 = .skip := rfl
theorem c46_24_e : c46_24 = .exit 0 := rfl
theorem c46_25_e : c46_25 = .seq c46_26 c46_57 := rfl
theorem c46_26_e : c46_26 = .block 1 c46_27 := rfl
theorem c46_27_e : c46_27 = .seq c46_28 c46_48 := rfl
theorem c46_28_e : c46_28 = .block 2 c46_29 := rfl
theorem c46_29_e : c46_29 = .seq c46_30 c46_31 := rfl
theorem c46_30_r : RG (E0 mm) 46 c46_30 := rgN rfl
theorem c46_32_e : c46_32 = .seq c46_33 c46_34 := rfl
theorem c46_33_r : RG (E0 mm) 46 c46_33 := rgN rfl
theorem c46_34_e : c46_34 = .ret := rfl
theorem c46_35_e : c46_35 = .seq c46_36 c46_37 := rfl
theorem c46_36_r : RG (E0 mm) 46 c46_36 := rgN rfl
theorem c46_38_e : c46_38 = .seq c46_39 c46_40 := rfl
theorem c46_39_r : RG (E0 mm) 46 c46_39 := rgN rfl
theorem c46_40_e : c46_40 = .seq c46_41 c46_42 := rfl
theorem c46_41_r : RG (E0 mm) 46 c46_41 := rgN rfl
theorem c46_43_e : c46_43 = .seq c46_44 c46_45 := rfl
theorem c46_44_r : RG (E0 mm) 46 c46_44 := rgN rfl
theorem c46_45_e : c46_45 = .ret := rfl
theorem c46_46_e : c46_46 = .skip := rfl
theorem c46_47_e : c46_47 = .skip := rfl
theorem c46_48_e : c46_48 = .seq c46_49 c46_56 := rfl
theorem c46_49_e : c46_49 = .seq c46_50 c46_51 := rfl
theorem c46_50_r : RG (E0 mm) 46 c46_50 := rgN rfl
theorem c46_52_e : c46_52 = .seq c46_53 c46_54 := rfl
theorem c46_53_r : RG (E0 mm) 46 c46_53 := rgN rfl
theorem c46_54_e : c46_54 = .ret := rfl
theorem c46_55_e : c46_55 = .skip := rfl
theorem c46_56_r : RG (E0 mm) 46 c46_56 := rgN rfl
theorem c46_57_r : RG (E0 mm) 46 c46_57 := rgN rfl
theorem c46_58_e : c46_58 = .seq c46_59 c46_60 := rfl
theorem c46_59_r : RG (E0 mm) 46 c46_59 := rgN rfl
theorem c46_60_e : c46_60 = .ret := rfl
abbrev R46 := (Bs × Bool)
def e46 : R46 → AV × Heap := fun x => (.tup [.c (.d (.sc (.string (S x.1)))), .c (.d (.sc (.bool x.2)))], [])
def K46_18 : Option (Ex × St) → Option (AV × Heap) := fun r => bodyD (E0 mm) [.tmp 2, .tmp 3] 0 false (seqD (E0 mm) 46 0 (callW (E0 mm)) itW c46_58 (blockD 0 (r)))
def en46_18 : (Bool × List UInt8 × Bs × Int) → X := fun x => (none, [.v (.c (.own x.1 (enL enB x.2.1) 0)), .v (.c (.d (.sc (.string (S x.2.2.1))))), .v (.c (.d (.sc (.int .i64 x.2.2.2))))], [.row x.2.1.length (rz x.1 1)])
def j46_48 (b4_0 : Bool) (b4_1 : List UInt8) (in5 : Bs) (i6 : Int) : Option ((Bool × List UInt8 × Bs × Int) ⊕ R46) :=
  if 0 ≤ i6 ∧ i6 < (in5.length : Int) then
    (m62 (in5.getD i6.toNat 0)).bind fun yr14 =>
      if yr14 = true then
        if (b4_1.length + 1) * 1 ≤ 140737488355328 then
          some (.inl (false, (b4_1 ++ ([(in5.getD i6.toNat 0)] : List UInt8)), in5, (w64 (i6 + 1))))
        else none
      else
        some (.inr (([] : Bs), false))
  else none
theorem j46_48_t (b4_0 : Bool) (b4_1 : List UInt8) (in5 : Bs) (i6 : Int)  (sl : Nat → AV) (zq4 : sl 4 = .v (.c (.own b4_0 (enL enB b4_1) 0))) (zq5 : sl 5 = .v (.c (.d (.sc (.string (S in5)))))) (zq6 : sl 6 = .v (.c (.d (.sc (.int .i64 i6))))) :
    stepE (K46_18 (mm := mm)) (loopK 0 [(4, .own), (5, .keep), (6, .keep)] (seqD (E0 mm) 46 0 (callW (E0 mm)) itW c46_57 (blockD 1 (den (E0 mm) 46 0 (callW (E0 mm)) itW c46_48 none ⟨sl, [.row b4_1.length (rz b4_0 1)]⟩)))) = (j46_48 b4_0 b4_1 in5 i6).map (sm en46_18 e46) := by
  simp -implicitDefEqProofs only [j46_48, c46_48_e, c46_49_e, c46_50_r, (show opsOf c46_50 = _ :: _ from rfl), Tryd.underlying9, zq4, zq5, zq6, setA, setB, za, zb, zc, zd, ze, zf, zg, zh, zi, zj, zk, zl, zm, zn, zo, zp, reduceCtorEq, zE, ↓reduceIte]
  refine brP (fun yc12 => ?_) (fun yc12 => ?_)
  · simp -implicitDefEqProofs only [ent62, prm62, f62_t, zq4, zq5, zq6, yc12, setA, setB, za, zb, zc, zd, ze, zf, zg, zh, zi, zj, zk, zl, zm, zn, zo, zp, reduceCtorEq, zE, ↓reduceIte]
    refine brM (fun yc13 => ?_) (fun yr14 yc13 => ?_)
    · rw [yc13]; rfl
    · simp -implicitDefEqProofs only [e62, (show c46_51 = Code.cond _ c46_52 c46_55 from rfl), zq4, zq5, zq6, yc12, yc13, setA, setB, za, zb, zc, zd, ze, zf, zg, zh, zi, zj, zk, zl, zm, zn, zo, zp, reduceCtorEq, zE, ↓reduceIte]
      refine brB (fun yc15 => ?_) (fun yc15 => ?_)
      · simp -implicitDefEqProofs only [c46_55_e, c46_56_r, (show opsOf c46_56 = _ :: _ from rfl), Tryd.underlying9, Tryd.underlying36, sz5, zc5, hd18, nv19, rw20, ns21, ap36, zq4, zq5, zq6, yc12, yc13, yc15, setA, setB, za, zb, zc, zd, ze, zf, zg, zh, zi, zj, zk, zl, zm, zn, zo, zp, reduceCtorEq, zE, ↓reduceIte]
        refine brP (fun yc16 => ?_) (fun yc16 => ?_)
        · simp -implicitDefEqProofs only [c46_57_r, (show opsOf c46_57 = _ :: _ from rfl), zq4, zq5, zq6, yc12, yc13, yc15, yc16, setA, setB, za, zb, zc, zd, ze, zf, zg, zh, zi, zj, zk, zl, zm, zn, zo, zp, reduceCtorEq, zE, ↓reduceIte]
          all_goals rfl
        · rw [if_neg yc16]; rfl
      · simp -implicitDefEqProofs only [c46_52_e, c46_53_r, (show opsOf c46_53 = _ :: _ from rfl), c46_54_e, K46_18, zq4, zq5, zq6, yc12, yc13, yc15, setA, setB, za, zb, zc, zd, ze, zf, zg, zh, zi, zj, zk, zl, zm, zn, zo, zp, reduceCtorEq, zE, ↓reduceIte]
        all_goals rfl
  · rw [if_neg yc12]; rfl
def j46_58 (b4_0 : Bool) (b4_1 : List UInt8) : Option R46 :=
  some (b4_1, true)
theorem j46_58_t (b4_0 : Bool) (b4_1 : List UInt8)  (sl : Nat → AV) (zq4 : sl 4 = .v (.c (.own b4_0 (enL enB b4_1) 0))) :
    bodyD (E0 mm) [.tmp 2, .tmp 3] 0 false (den (E0 mm) 46 0 (callW (E0 mm)) itW c46_58 none ⟨sl, [.row b4_1.length (rz b4_0 1)]⟩) = (j46_58 b4_0 b4_1).map e46 := by
  simp -implicitDefEqProofs only [j46_58, c46_58_e, c46_59_r, (show opsOf c46_59 = _ :: _ from rfl), Tryd.underlying36, Tryd.underlying9, Tryd.underlying5, c46_60_e, zq4, setA, setB, za, zb, zc, zd, ze, zf, zg, zh, zi, zj, zk, zl, zm, zn, zo, zp, reduceCtorEq, zE, ↓reduceIte]
  all_goals rfl
def s46_18 (b4_0 : Bool) (b4_1 : List UInt8) (in5 : Bs) (i6 : Int) : Option ((Bool × List UInt8 × Bs × Int) ⊕ R46) :=
  if (decide (i6 < (in5.length : Int))) = true then
    if 0 ≤ i6 ∧ i6 < (in5.length : Int) then
      if ((in5.getD i6.toNat 0) == (34 : UInt8)) = true then
        some (.inr (([] : Bs), false))
      else
        if ((in5.getD i6.toNat 0) == (92 : UInt8)) = true then
          if ((w64 (i6 + 1)) == (in5.length : Int)) = true then
            some (.inr (([] : Bs), false))
          else
            j46_48 b4_0 b4_1 in5 (w64 (i6 + 1))
        else
          j46_48 b4_0 b4_1 in5 i6
    else none
  else
    (j46_58 b4_0 b4_1).map .inr
theorem s46_18_t (b4_0 : Bool) (b4_1 : List UInt8) (in5 : Bs) (i6 : Int) :
    stepE (K46_18 (mm := mm)) (loopF (E0 mm) 46 0 (callW (E0 mm)) itW c46_19 [(4, .own), (5, .keep), (6, .keep)] (none, [.v (.c (.own b4_0 (enL enB b4_1) 0)), .v (.c (.d (.sc (.string (S in5))))), .v (.c (.d (.sc (.int .i64 i6))))], [.row b4_1.length (rz b4_0 1)])) = (s46_18 b4_0 b4_1 in5 i6).map (sm en46_18 e46) := by
  simp -implicitDefEqProofs only [s46_18, loopF_eq, c46_19_e, c46_20_e, c46_21_r, (show opsOf c46_21 = _ :: _ from rfl), Tryd.underlying9, (show c46_22 = Code.cond _ c46_23 c46_24 from rfl), setA, setB, za, zb, zc, zd, ze, zf, zg, zh, zi, zj, zk, zl, zm, zn, zo, zp, reduceCtorEq, zE, ↓reduceIte]
  refine brB (fun yc7 => ?_) (fun yc7 => ?_)
  · simp -implicitDefEqProofs only [c46_23_e, c46_25_e, c46_26_e, c46_27_e, c46_28_e, c46_29_e, c46_30_r, (show opsOf c46_30 = _ :: _ from rfl), Tryd.underlying9, yc7, setA, setB, za, zb, zc, zd, ze, zf, zg, zh, zi, zj, zk, zl, zm, zn, zo, zp, reduceCtorEq, zE, ↓reduceIte]
    refine brP (fun yc8 => ?_) (fun yc8 => ?_)
    · simp -implicitDefEqProofs only [(show c46_31 = Code.cond _ c46_32 c46_35 from rfl), yc7, yc8, setA, setB, za, zb, zc, zd, ze, zf, zg, zh, zi, zj, zk, zl, zm, zn, zo, zp, reduceCtorEq, zE, ↓reduceIte]
      refine brB (fun yc9 => ?_) (fun yc9 => ?_)
      · simp -implicitDefEqProofs only [c46_32_e, c46_33_r, (show opsOf c46_33 = _ :: _ from rfl), c46_34_e, K46_18, yc7, yc8, yc9, setA, setB, za, zb, zc, zd, ze, zf, zg, zh, zi, zj, zk, zl, zm, zn, zo, zp, reduceCtorEq, zE, ↓reduceIte]
        all_goals rfl
      · simp -implicitDefEqProofs only [c46_35_e, c46_36_r, (show opsOf c46_36 = _ :: _ from rfl), Tryd.underlying9, (show c46_37 = Code.cond _ c46_38 c46_47 from rfl), yc7, yc8, yc9, setA, setB, za, zb, zc, zd, ze, zf, zg, zh, zi, zj, zk, zl, zm, zn, zo, zp, reduceCtorEq, zE, ↓reduceIte]
        refine brB (fun yc10 => ?_) (fun yc10 => ?_)
        · simp -implicitDefEqProofs only [c46_38_e, c46_39_r, (show opsOf c46_39 = _ :: _ from rfl), c46_40_e, c46_41_r, (show opsOf c46_41 = _ :: _ from rfl), Tryd.underlying9, (show c46_42 = Code.cond _ c46_43 c46_46 from rfl), yc7, yc8, yc9, yc10, setA, setB, za, zb, zc, zd, ze, zf, zg, zh, zi, zj, zk, zl, zm, zn, zo, zp, reduceCtorEq, zE, ↓reduceIte]
          refine brB (fun yc11 => ?_) (fun yc11 => ?_)
          · simp -implicitDefEqProofs only [c46_43_e, c46_44_r, (show opsOf c46_44 = _ :: _ from rfl), c46_45_e, K46_18, yc7, yc8, yc9, yc10, yc11, setA, setB, za, zb, zc, zd, ze, zf, zg, zh, zi, zj, zk, zl, zm, zn, zo, zp, reduceCtorEq, zE, ↓reduceIte]
            all_goals rfl
          · simp -implicitDefEqProofs only [c46_46_e, yc7, yc8, yc9, yc10, yc11, setA, setB, za, zb, zc, zd, ze, zf, zg, zh, zi, zj, zk, zl, zm, zn, zo, zp, reduceCtorEq, zE, ↓reduceIte]
            exact j46_48_t b4_0 b4_1 in5 (w64 (i6 + 1)) _ (by rfl) (by rfl) (by rfl)
        · simp -implicitDefEqProofs only [c46_47_e, yc7, yc8, yc9, yc10, setA, setB, za, zb, zc, zd, ze, zf, zg, zh, zi, zj, zk, zl, zm, zn, zo, zp, reduceCtorEq, zE, ↓reduceIte]
          exact j46_48_t b4_0 b4_1 in5 i6 _ (by rfl) (by rfl) (by rfl)
    · rw [if_neg yc8]; rfl
  · simp -implicitDefEqProofs only [c46_24_e, K46_18, yc7, setA, setB, za, zb, zc, zd, ze, zf, zg, zh, zi, zj, zk, zl, zm, zn, zo, zp, reduceCtorEq, zE, ↓reduceIte]
    exact mi (j46_58_t b4_0 b4_1 _ (by rfl))
def l46_18 (b4_0 : Bool) (b4_1 : List UInt8) (in5 : Bs) (i6 : Int) : Option R46 := iter (fun x : (Bool × List UInt8 × Bs × Int) => s46_18 x.1 x.2.1 x.2.2.1 x.2.2.2) (b4_0, b4_1, in5, i6)
theorem l46_18_t (b4_0 : Bool) (b4_1 : List UInt8) (in5 : Bs) (i6 : Int) : bodyD (E0 mm) [.tmp 2, .tmp 3] 0 false (seqD (E0 mm) 46 0 (callW (E0 mm)) itW c46_58 (blockD 0 (itW (loopF (E0 mm) 46 0 (callW (E0 mm)) itW c46_19 [(4, .own), (5, .keep), (6, .keep)]) (none, [.v (.c (.own b4_0 (enL enB b4_1) 0)), .v (.c (.d (.sc (.string (S in5))))), .v (.c (.d (.sc (.int .i64 i6))))], [.row b4_1.length (rz b4_0 1)])))) = (l46_18 b4_0 b4_1 in5 i6).map e46 :=
  it_sim (K := (K46_18 (mm := mm))) rfl (enc := en46_18) (fun x => s46_18_t x.1 x.2.1 x.2.2.1 x.2.2.2) (b4_0, b4_1, in5, i6)
def j46_5 (s0 : Bs) (t22 : Bool) : Option R46 :=
  if t22 = true then
    some (([] : Bs), false)
  else
    (bnd (w64 ((s0.length : Int) - 1)) s0.length).bind fun yk4 =>
      (bnd 1 yk4).bind fun yk6 =>
        l46_18 true ([] : List UInt8) ((s0.take yk4).drop yk6) (0 : Int)
theorem j46_5_t (s0 : Bs) (t22 : Bool)  (sl : Nat → AV) (zq0 : sl 0 = .v (.c (.d (.sc (.string (S s0)))))) (zq22 : sl 22 = .v (.c (.d (.sc (.bool t22))))) :
    bodyD (E0 mm) [.tmp 2, .tmp 3] 0 false (seqD (E0 mm) 46 0 (callW (E0 mm)) itW c46_10 (den (E0 mm) 46 0 (callW (E0 mm)) itW c46_5 none ⟨sl, []⟩)) = (j46_5 s0 t22).map e46 := by
  simp -implicitDefEqProofs only [j46_5, (show c46_5 = Code.cond _ c46_6 c46_9 from rfl), zq0, zq22, setA, setB, za, zb, zc, zd, ze, zf, zg, zh, zi, zj, zk, zl, zm, zn, zo, zp, reduceCtorEq, zE, ↓reduceIte]
  refine brB (fun yc2 => ?_) (fun yc2 => ?_)
  · simp -implicitDefEqProofs only [c46_6_e, c46_7_r, (show opsOf c46_7 = _ :: _ from rfl), c46_8_e, zq0, zq22, yc2, setA, setB, za, zb, zc, zd, ze, zf, zg, zh, zi, zj, zk, zl, zm, zn, zo, zp, reduceCtorEq, zE, ↓reduceIte]
    all_goals rfl
  · simp -implicitDefEqProofs only [c46_9_e, c46_10_e, c46_11_r, (show opsOf c46_11 = _ :: _ from rfl), c46_12_e, c46_13_r, (show opsOf c46_13 = _ :: _ from rfl), Tryd.underlying9, zq0, zq22, yc2, setA, setB, za, zb, zc, zd, ze, zf, zg, zh, zi, zj, zk, zl, zm, zn, zo, zp, reduceCtorEq, zE, ↓reduceIte]
    refine brM (fun yc3 => ?_) (fun yk4 yc3 => ?_)
    · rw [yc3]; rfl
    · simp -implicitDefEqProofs only [zq0, zq22, yc2, yc3, setA, setB, za, zb, zc, zd, ze, zf, zg, zh, zi, zj, zk, zl, zm, zn, zo, zp, reduceCtorEq, zE, ↓reduceIte]
      refine brM (fun yc5 => ?_) (fun yk6 yc5 => ?_)
      · rw [yc5]; rfl
      · simp -implicitDefEqProofs only [c46_14_e, c46_15_e, c46_16_r, (show opsOf c46_16 = _ :: _ from rfl), c46_17_e, c46_18_l, zq0, zq22, yc2, yc3, yc5, setA, setB, za, zb, zc, zd, ze, zf, zg, zh, zi, zj, zk, zl, zm, zn, zo, zp, reduceCtorEq, zE, ↓reduceIte]
        exact l46_18_t true ([] : List UInt8) ((s0.take yk4).drop yk6) (0 : Int)
def m46 (s : Bs) : Option R46 :=
  if (decide ((s.length : Int) < 2)) = true then
    j46_5 s true
  else
    if (0 : Int) < (s.length : Int) then
      if ((s.getD 0 0) == (34 : UInt8)) = true then
        if 0 ≤ (w64 ((s.length : Int) - 1)) ∧ (w64 ((s.length : Int) - 1)) < (s.length : Int) then
          j46_5 s (!((s.getD (w64 ((s.length : Int) - 1)).toNat 0) == (34 : UInt8)))
        else none
      else
        j46_5 s true
    else none
theorem f46_t (s : Bs) :
    callW (E0 mm) 46 [.c (.d (.sc (.string (S s))))] [] = (m46 s).map e46 := by
  rw [callW_run (body := c46_0) (res := [.tmp 2, .tmp 3]) Tryd.func46 rfl rfl (by kernel_rfl)]
  simp -implicitDefEqProofs only [m46, slots1, c46_0_e, c46_1_r, (show opsOf c46_1 = _ :: _ from rfl), c46_2_e, c46_3_e, c46_4_r, (show opsOf c46_4 = _ :: _ from rfl), Tryd.underlying9, setA, setB, za, zb, zc, zd, ze, zf, zg, zh, zi, zj, zk, zl, zm, zn, zo, zp, reduceCtorEq, zE, ↓reduceIte]
  refine brB (fun yc1 => ?_) (fun yc1 => ?_)
  · simp -implicitDefEqProofs only [yc1, setA, setB, za, zb, zc, zd, ze, zf, zg, zh, zi, zj, zk, zl, zm, zn, zo, zp, reduceCtorEq, zE, ↓reduceIte]
    exact j46_5_t s true _ (by rfl) (by rfl)
  · simp -implicitDefEqProofs only [Tryd.underlying9, yc1, setA, setB, za, zb, zc, zd, ze, zf, zg, zh, zi, zj, zk, zl, zm, zn, zo, zp, reduceCtorEq, zE, ↓reduceIte]
    refine brP (fun yc17 => ?_) (fun yc17 => ?_)
    · simp -implicitDefEqProofs only [yc1, yc17, setA, setB, za, zb, zc, zd, ze, zf, zg, zh, zi, zj, zk, zl, zm, zn, zo, zp, reduceCtorEq, zE, ↓reduceIte]
      refine brB (fun yc18 => ?_) (fun yc18 => ?_)
      · simp -implicitDefEqProofs only [Tryd.underlying9, yc1, yc17, yc18, setA, setB, za, zb, zc, zd, ze, zf, zg, zh, zi, zj, zk, zl, zm, zn, zo, zp, reduceCtorEq, zE, ↓reduceIte]
        refine brP (fun yc19 => ?_) (fun yc19 => ?_)
        · simp -implicitDefEqProofs only [yc1, yc17, yc18, yc19, setA, setB, za, zb, zc, zd, ze, zf, zg, zh, zi, zj, zk, zl, zm, zn, zo, zp, reduceCtorEq, zE, ↓reduceIte]
          exact j46_5_t s (!((s.getD (w64 ((s.length : Int) - 1)).toNat 0) == (34 : UInt8))) _ (by rfl) (by rfl)
        · rw [if_neg yc19]; rfl
      · simp -implicitDefEqProofs only [yc1, yc17, yc18, setA, setB, za, zb, zc, zd, ze, zf, zg, zh, zi, zj, zk, zl, zm, zn, zo, zp, reduceCtorEq, zE, ↓reduceIte]
        exact j46_5_t s true _ (by rfl) (by rfl)
    · rw [if_neg yc17]; rfl
noncomputable def c36_0 : Code := bodyOf Tryd.f36
def c36_1 := cA c36_0
def c36_2 := cB c36_0
def c36_3 := cA c36_2
def c36_4 := cB c36_2
def c36_5 := cA c36_4
def c36_6 := cA c36_5
def c36_7 := cB c36_5
def c36_8 := cA c36_7
def c36_9 := cA c36_8
def c36_10 := cB c36_8
def c36_11 := cB c36_7
def c36_12 := cB c36_4
def c36_13 := cA c36_12
def c36_14 := cA c36_13
def c36_15 := cB c36_13
def c36_16 := cA c36_15
def c36_17 := cA c36_16
def c36_18 := cB c36_16
def c36_19 := cB c36_15
def c36_20 := cB c36_12
def c36_21 := cA c36_20
def c36_22 := cB c36_20
def c36_23 := cA c36_22
def c36_24 := cA c36_23
def c36_25 := cB c36_23
def c36_26 := cA c36_25
def c36_27 := cA c36_26
def c36_28 := cB c36_26
def c36_29 := cB c36_25
def c36_30 := cB c36_22
def c36_31 := cA c36_30
def c36_32 := cB c36_30
theorem c36_0_e : c36_0 = .seq c36_1 c36_2 := rfl
theorem c36_1_r : RG (E0 mm) 36 c36_1 := rgN rfl
theorem c36_2_e : c36_2 = .seq c36_3 c36_4 := rfl
theorem c36_3_r : RG (E0 mm) 36 c36_3 := rgN rfl
theorem c36_4_e : c36_4 = .seq c36_5 c36_12 := rfl
theorem c36_5_e : c36_5 = .seq c36_6 c36_7 := rfl
theorem c36_6_r : RG (E0 mm) 36 c36_6 := rgN rfl
theorem c36_8_e : c36_8 = .seq c36_9 c36_10 := rfl
theorem c36_9_r : RG (E0 mm) 36 c36_9 := rgN rfl
theorem c36_10_e : c36_10 = .ret := rfl
theorem c36_11_e : c36_11 = .skip := rfl
theorem c36_12_e : c36_12 = .seq c36_13 c36_20 := rfl
theorem c36_13_e : c36_13 = .seq c36_14 c36_15 := rfl
theorem c36_14_r : RG (E0 mm) 36 c36_14 := rgN rfl
theorem c36_16_e : c36_16 = .seq c36_17 c36_18 := rfl
theorem c36_17_r : RG (E0 mm) 36 c36_17 := rgN rfl
theorem c36_18_e : c36_18 = .ret := rfl
theorem c36_19_e : c36_19 = .skip := rfl
theorem c36_20_e : c36_20 = .seq c36_21 c36_22 := rfl
theorem c36_21_r : RG (E0 mm) 36 c36_21 := rgN rfl
theorem c36_22_e : c36_22 = .seq c36_23 c36_30 := rfl
theorem c36_23_e : c36_23 = .seq c36_24 c36_25 := rfl
theorem c36_24_r : RG (E0 mm) 36 c36_24 := rgN rfl
theorem c36_26_e : c36_26 = .seq c36_27 c36_28 := rfl
theorem c36_27_r : RG (E0 mm) 36 c36_27 := rgN rfl
theorem c36_28_e : c36_28 = .ret := rfl
theorem c36_29_e : c36_29 = .skip := rfl
theorem c36_30_e : c36_30 = .seq c36_31 c36_32 := rfl
theorem c36_31_r : RG (E0 mm) 36 c36_31 := rgN rfl
theorem c36_32_e : c36_32 = .ret := rfl
abbrev R36 := (Bs × Bs × Bool)
def e36 : R36 → AV × Heap := fun x => (.tup [.c (.d (.sc (.string (S x.1)))), .c (.d (.sc (.string (S x.2.1)))), .c (.d (.sc (.bool x.2.2)))], [])
def j36_15 (name5 value6 : Bs) (t24 : Bool) : Option R36 :=
  if t24 = true then
    (m33 name5).bind fun yr11 =>
      some (yr11, value6, true)
  else
    (m46 value6).bind fun yr13 =>
      if yr13.2 = true then
        (m33 name5).bind fun yr16 =>
          some (yr16, yr13.1, true)
      else
        some (([] : Bs), ([] : Bs), false)
theorem j36_15_t (name5 value6 : Bs) (t24 : Bool)  (sl : Nat → AV) (zq5 : sl 5 = .v (.c (.d (.sc (.string (S name5)))))) (zq6 : sl 6 = .v (.c (.d (.sc (.string (S value6)))))) (zq24 : sl 24 = .v (.c (.d (.sc (.bool t24))))) :
    bodyD (E0 mm) [.tmp 2, .tmp 3, .tmp 4] 0 false (seqD (E0 mm) 36 0 (callW (E0 mm)) itW c36_20 (den (E0 mm) 36 0 (callW (E0 mm)) itW c36_15 none ⟨sl, []⟩)) = (j36_15 name5 value6 t24).map e36 := by
  simp -implicitDefEqProofs only [j36_15, (show c36_15 = Code.cond _ c36_16 c36_19 from rfl), zq5, zq6, zq24, setA, setB, za, zb, zc, zd, ze, zf, zg, zh, zi, zj, zk, zl, zm, zn, zo, zp, reduceCtorEq, zE, ↓reduceIte]
  refine brB (fun yc9 => ?_) (fun yc9 => ?_)
  · simp -implicitDefEqProofs only [c36_16_e, c36_17_r, (show opsOf c36_17 = _ :: _ from rfl), ent33, prm33, f33_t, zq5, zq6, zq24, yc9, setA, setB, za, zb, zc, zd, ze, zf, zg, zh, zi, zj, zk, zl, zm, zn, zo, zp, reduceCtorEq, zE, ↓reduceIte]
    refine brM (fun yc10 => ?_) (fun yr11 yc10 => ?_)
    · rw [yc10]; rfl
    · simp -implicitDefEqProofs only [e33, c36_18_e, zq5, zq6, zq24, yc9, yc10, setA, setB, za, zb, zc, zd, ze, zf, zg, zh, zi, zj, zk, zl, zm, zn, zo, zp, reduceCtorEq, zE, ↓reduceIte]
      all_goals rfl
  · simp -implicitDefEqProofs only [c36_19_e, c36_20_e, c36_21_r, (show opsOf c36_21 = _ :: _ from rfl), ent46, prm46, f46_t, zq5, zq6, zq24, yc9, setA, setB, za, zb, zc, zd, ze, zf, zg, zh, zi, zj, zk, zl, zm, zn, zo, zp, reduceCtorEq, zE, ↓reduceIte]
    refine brM (fun yc12 => ?_) (fun yr13 yc12 => ?_)
    · rw [yc12]; rfl
    · simp -implicitDefEqProofs only [e46, c36_22_e, c36_23_e, c36_24_r, (show opsOf c36_24 = _ :: _ from rfl), (show c36_25 = Code.cond _ c36_26 c36_29 from rfl), zq5, zq6, zq24, yc9, yc12, setA, setB, za, zb, zc, zd, ze, zf, zg, zh, zi, zj, zk, zl, zm, zn, zo, zp, reduceCtorEq, zE, ↓reduceIte]
      refine brB (fun yc14 => ?_) (fun yc14 => ?_)
      · simp -implicitDefEqProofs only [c36_29_e, c36_30_e, c36_31_r, (show opsOf c36_31 = _ :: _ from rfl), ent33, prm33, f33_t, zq5, zq6, zq24, yc9, yc12, yc14, setA, setB, za, zb, zc, zd, ze, zf, zg, zh, zi, zj, zk, zl, zm, zn, zo, zp, reduceCtorEq, zE, ↓reduceIte]
        refine brM (fun yc15 => ?_) (fun yr16 yc15 => ?_)
        · rw [yc15]; rfl
        · simp -implicitDefEqProofs only [e33, c36_32_e, zq5, zq6, zq24, yc9, yc12, yc14, yc15, setA, setB, za, zb, zc, zd, ze, zf, zg, zh, zi, zj, zk, zl, zm, zn, zo, zp, reduceCtorEq, zE, ↓reduceIte]
          all_goals rfl
      · simp -implicitDefEqProofs only [c36_26_e, c36_27_r, (show opsOf c36_27 = _ :: _ from rfl), c36_28_e, zq5, zq6, zq24, yc9, yc12, yc14, setA, setB, za, zb, zc, zd, ze, zf, zg, zh, zi, zj, zk, zl, zm, zn, zo, zp, reduceCtorEq, zE, ↓reduceIte]
        all_goals rfl
def m36 (s : Bs) : Option R36 :=
  (m44 s ([61] : Bs)).bind fun yr2 =>
    (m45 yr2.1).bind fun yr4 =>
      if yr4 = true then
        if yr2.2.2 = true then
          (m45 yr2.2.1).bind fun yr8 =>
            j36_15 yr2.1 yr2.2.1 yr8
        else
          j36_15 yr2.1 yr2.2.1 true
      else
        some (([] : Bs), ([] : Bs), false)
theorem f36_t (s : Bs) :
    callW (E0 mm) 36 [.c (.d (.sc (.string (S s))))] [] = (m36 s).map e36 := by
  rw [callW_run (body := c36_0) (res := [.tmp 2, .tmp 3, .tmp 4]) Tryd.func36 rfl rfl (by kernel_rfl)]
  simp -implicitDefEqProofs only [m36, slots1, c36_0_e, c36_1_r, (show opsOf c36_1 = _ :: _ from rfl), c36_2_e, c36_3_r, (show opsOf c36_3 = _ :: _ from rfl), ent44, prm44, (show callW (E0 mm) 44 [.c (.d (.sc (.string (S s)))), .c (.d (.sc (.string (S ([61] : Bs)))))] [] = _ from f44_t s ([61] : Bs)), setA, setB, za, zb, zc, zd, ze, zf, zg, zh, zi, zj, zk, zl, zm, zn, zo, zp, reduceCtorEq, zE, ↓reduceIte]
  refine brM (fun yc1 => ?_) (fun yr2 yc1 => ?_)
  · rw [yc1]; rfl
  · simp -implicitDefEqProofs only [e44, c36_4_e, c36_5_e, c36_6_r, (show opsOf c36_6 = _ :: _ from rfl), ent45, prm45, f45_t, yc1, setA, setB, za, zb, zc, zd, ze, zf, zg, zh, zi, zj, zk, zl, zm, zn, zo, zp, reduceCtorEq, zE, ↓reduceIte]
    refine brM (fun yc3 => ?_) (fun yr4 yc3 => ?_)
    · rw [yc3]; rfl
    · simp -implicitDefEqProofs only [e45, (show c36_7 = Code.cond _ c36_8 c36_11 from rfl), yc1, yc3, setA, setB, za, zb, zc, zd, ze, zf, zg, zh, zi, zj, zk, zl, zm, zn, zo, zp, reduceCtorEq, zE, ↓reduceIte]
      refine brB (fun yc5 => ?_) (fun yc5 => ?_)
      · simp -implicitDefEqProofs only [c36_11_e, c36_12_e, c36_13_e, c36_14_r, (show opsOf c36_14 = _ :: _ from rfl), yc1, yc3, yc5, setA, setB, za, zb, zc, zd, ze, zf, zg, zh, zi, zj, zk, zl, zm, zn, zo, zp, reduceCtorEq, zE, ↓reduceIte]
        refine brB (fun yc6 => ?_) (fun yc6 => ?_)
        · simp -implicitDefEqProofs only [ent45, prm45, f45_t, yc1, yc3, yc5, yc6, setA, setB, za, zb, zc, zd, ze, zf, zg, zh, zi, zj, zk, zl, zm, zn, zo, zp, reduceCtorEq, zE, ↓reduceIte]
          refine brM (fun yc7 => ?_) (fun yr8 yc7 => ?_)
          · rw [yc7]; rfl
          · simp -implicitDefEqProofs only [e45, yc1, yc3, yc5, yc6, yc7, setA, setB, za, zb, zc, zd, ze, zf, zg, zh, zi, zj, zk, zl, zm, zn, zo, zp, reduceCtorEq, zE, ↓reduceIte]
            exact j36_15_t yr2.1 yr2.2.1 yr8 _ (by rfl) (by rfl) (by rfl)
        · simp -implicitDefEqProofs only [yc1, yc3, yc5, yc6, setA, setB, za, zb, zc, zd, ze, zf, zg, zh, zi, zj, zk, zl, zm, zn, zo, zp, reduceCtorEq, zE, ↓reduceIte]
          exact j36_15_t yr2.1 yr2.2.1 true _ (by rfl) (by rfl) (by rfl)
      · simp -implicitDefEqProofs only [c36_8_e, c36_9_r, (show opsOf c36_9 = _ :: _ from rfl), c36_10_e, yc1, yc3, yc5, setA, setB, za, zb, zc, zd, ze, zf, zg, zh, zi, zj, zk, zl, zm, zn, zo, zp, reduceCtorEq, zE, ↓reduceIte]
        all_goals rfl
noncomputable def c18_0 : Code := bodyOf Tryd.f18
def c18_1 := cA c18_0
def c18_2 := cB c18_0
def c18_3 := cA c18_2
def c18_4 := cB c18_2
def c18_5 := cA c18_4
def c18_6 := cA c18_5
def c18_7 := cB c18_5
def c18_8 := cA c18_7
def c18_9 := cA c18_8
def c18_10 := cA c18_9
def c18_11 := cB c18_9
def c18_12 := cA c18_11
def c18_13 := cA c18_12
def c18_14 := cB c18_12
def c18_15 := cB c18_11
def c18_16 := cA c18_15
def c18_17 := cA c18_16
def c18_18 := cA c18_17
def c18_19 := cB c18_17
def c18_20 := cA c18_19
def c18_21 := cB c18_19
def c18_22 := cA c18_21
def c18_23 := cB c18_21
def c18_24 := cA c18_23
def c18_25 := cB c18_23
def c18_26 := cB c18_15
def c18_27 := cB c18_4
def c18_28 := cA c18_27
def c18_29 := cB c18_27
theorem c18_0_e : c18_0 = .seq c18_1 c18_2 := rfl
theorem c18_1_r : RG (E0 mm) 18 c18_1 := rgN rfl
theorem c18_2_e : c18_2 = .seq c18_3 c18_4 := rfl
theorem c18_3_r : RG (E0 mm) 18 c18_3 := rgN rfl
theorem c18_4_e : c18_4 = .seq c18_5 c18_27 := rfl
theorem c18_5_e : c18_5 = .seq c18_6 c18_7 := rfl
theorem c18_6_r : RG (E0 mm) 18 c18_6 := rgN rfl
theorem c18_7_e : c18_7 = .block 0 c18_8 := rfl
theorem c18_8_l (m : Nat) (st : St) : den (E0 mm) 18 m (callW (E0 mm)) itW c18_8 none st = loopD itW (loopF (E0 mm) 18 m (callW (E0 mm)) itW c18_9 [(3, .freeze), (11, .freeze), (12, .freeze), (13, .freeze)]) (canon m [(3, .freeze), (11, .freeze), (12, .freeze), (13, .freeze)] st) := rfl
theorem c18_9_e : c18_9 = .seq c18_10 c18_11 := rfl
theorem c18_10_r : RG (E0 mm) 18 c18_10 := rgN rfl
theorem c18_11_e : c18_11 = .seq c18_12 c18_15 := rfl
theorem c18_13_e : c18_13 = .skip := rfl
theorem c18_14_e : c18_14 = .exit 0 := rfl
theorem c18_15_e : c18_15 = .seq c18_16 c18_26 := rfl
theorem c18_16_e : c18_16 = .block 1 c18_17 := rfl
theorem c18_17_e : c18_17 = .seq c18_18 c18_19 := rfl
theorem c18_18_r : RG (E0 mm) 18 c18_18 := rgN rfl
theorem c18_19_e : c18_19 = .seq c18_20 c18_21 := rfl
theorem c18_20_r : RG (E0 mm) 18 c18_20 := rgN rfl
theorem c18_21_e : c18_21 = .seq c18_22 c18_23 := rfl
theorem c18_22_r : RG (E0 mm) 18 c18_22 := rgN rfl
theorem c18_24_r : RG (E0 mm) 18 c18_24 := rgN rfl
theorem c18_25_e : c18_25 = .skip := rfl
theorem c18_26_r : RG (E0 mm) 18 c18_26 := rgN rfl
theorem c18_27_e : c18_27 = .seq c18_28 c18_29 := rfl
theorem c18_28_r : RG (E0 mm) 18 c18_28 := rgN rfl
theorem c18_29_e : c18_29 = .ret := rfl
abbrev R18 := (List (Bs × List Bs))
def e18 : R18 → AV × Heap := fun x => (.v (.c (.mp 0)), [.amap (enM x)])
def K18_8 : Option (Ex × St) → Option (AV × Heap) := fun r => bodyD (E0 mm) [.tmp 2] 0 false (seqD (E0 mm) 18 0 (callW (E0 mm)) itW c18_27 (blockD 0 (r)))
def en18_8 : (Bool × List Bs × Int × Int × Kvs) → X := fun x => (none, [.v (.c (.mp 0)), .v (.c (.d (.lst x.1 (enL enS x.2.1)))), .v (.c (.d (.sc (.int .i64 x.2.2.1)))), .v (.c (.d (.sc (.int .i64 x.2.2.2.1))))], (HO x.2.2.2.2))
def j18_26 (t11_0 : Bool) (t11_1 : List Bs) (t12 t13 : Int) (kv0 : Kvs) : Option ((Bool × List Bs × Int × Int × Kvs) ⊕ R18) :=
  some (.inl (t11_0, t11_1, t12, (w64 (t13 + 1)), kv0))
theorem j18_26_t (t11_0 : Bool) (t11_1 : List Bs) (t12 t13 : Int) (kv0 : Kvs)  (sl : Nat → AV) (zq3 : sl 3 = .v (.c (.mp 0))) (zq11 : sl 11 = .v (.c (.d (.lst t11_0 (enL enS t11_1))))) (zq12 : sl 12 = .v (.c (.d (.sc (.int .i64 t12))))) (zq13 : sl 13 = .v (.c (.d (.sc (.int .i64 t13))))) :
    stepE (K18_8 (mm := mm)) (loopK 0 [(3, .freeze), (11, .freeze), (12, .freeze), (13, .freeze)] (den (E0 mm) 18 0 (callW (E0 mm)) itW c18_26 none ⟨sl, (HO kv0)⟩)) = (j18_26 t11_0 t11_1 t12 t13 kv0).map (sm en18_8 e18) := by
  simp -implicitDefEqProofs only [j18_26, c18_26_r, (show opsOf c18_26 = _ :: _ from rfl), closeHO_c, renHO, idxHO0, zq3, zq11, zq12, zq13, setA, setB, za, zb, zc, zd, ze, zf, zg, zh, zi, zj, zk, zl, zm, zn, zo, zp, reduceCtorEq, zE, ↓reduceIte]
  all_goals rfl
def j18_27 (kv0 : Kvs) : Option R18 :=
  some kv0
theorem j18_27_t (kv0 : Kvs)  (sl : Nat → AV) (zq3 : sl 3 = .v (.c (.mp 0))) :
    bodyD (E0 mm) [.tmp 2] 0 false (den (E0 mm) 18 0 (callW (E0 mm)) itW c18_27 none ⟨sl, (HO kv0)⟩) = (j18_27 kv0).map e18 := by
  simp -implicitDefEqProofs only [j18_27, c18_27_e, c18_28_r, (show opsOf c18_28 = _ :: _ from rfl), c18_29_e, frzHO, closeHF_c, HF_0, zq3, setA, setB, za, zb, zc, zd, ze, zf, zg, zh, zi, zj, zk, zl, zm, zn, zo, zp, reduceCtorEq, zE, ↓reduceIte]
  all_goals rfl
def s18_8 (t11_0 : Bool) (t11_1 : List Bs) (t12 t13 : Int) (kv0 : Kvs) : Option ((Bool × List Bs × Int × Int × Kvs) ⊕ R18) :=
  if (decide (t13 < t12)) = true then
    if 0 ≤ t13 ∧ t13 < (t11_1.length : Int) then
      (m36 (t11_1.getD t13.toNat default)).bind fun yr7 =>
        if yr7.2.2 = true then
          if (hasM yr7.1 kv0) = true then
            if ((valM yr7.1 kv0).length + 1) * 16 ≤ 140737488355328 then
              j18_26 t11_0 t11_1 t12 t13 (appM yr7.1 yr7.2.1 kv0)
            else none
          else
            j18_26 t11_0 t11_1 t12 t13 (kv0 ++ [(yr7.1, [yr7.2.1])])
        else
          j18_26 t11_0 t11_1 t12 t13 kv0
    else none
  else
    (j18_27 kv0).map .inr
theorem s18_8_t (t11_0 : Bool) (t11_1 : List Bs) (t12 t13 : Int) (kv0 : Kvs) :
    stepE (K18_8 (mm := mm)) (loopF (E0 mm) 18 0 (callW (E0 mm)) itW c18_9 [(3, .freeze), (11, .freeze), (12, .freeze), (13, .freeze)] (none, [.v (.c (.mp 0)), .v (.c (.d (.lst t11_0 (enL enS t11_1)))), .v (.c (.d (.sc (.int .i64 t12)))), .v (.c (.d (.sc (.int .i64 t13))))], (HO kv0))) = (s18_8 t11_0 t11_1 t12 t13 kv0).map (sm en18_8 e18) := by
  simp -implicitDefEqProofs only [s18_8, loopF_eq, c18_9_e, c18_10_r, (show opsOf c18_10 = _ :: _ from rfl), c18_11_e, (show c18_12 = Code.cond _ c18_13 c18_14 from rfl), setA, setB, za, zb, zc, zd, ze, zf, zg, zh, zi, zj, zk, zl, zm, zn, zo, zp, reduceCtorEq, zE, ↓reduceIte]
  refine brB (fun yc3 => ?_) (fun yc3 => ?_)
  · simp -implicitDefEqProofs only [c18_13_e, c18_15_e, c18_16_e, c18_17_e, c18_18_r, (show opsOf c18_18 = _ :: _ from rfl), Tryd.underlying30, sz9, enS_a, yc3, setA, setB, za, zb, zc, zd, ze, zf, zg, zh, zi, zj, zk, zl, zm, zn, zo, zp, reduceCtorEq, zE, ↓reduceIte]
    refine brP (fun yc4 => ?_) (fun yc4 => ?_)
    · have yd5 : t13.toNat < t11_1.length := by omega
      simp -implicitDefEqProofs only [(enL_get enS t11_1 t13.toNat yd5), enS_e, sz9, ag9, c18_19_e, c18_20_r, (show opsOf c18_20 = _ :: _ from rfl), ent36, prm36, f36_t, yc3, yc4, yd5, setA, setB, za, zb, zc, zd, ze, zf, zg, zh, zi, zj, zk, zl, zm, zn, zo, zp, reduceCtorEq, zE, ↓reduceIte]
      refine brM (fun yc6 => ?_) (fun yr7 yc6 => ?_)
      · rw [yc6]; rfl
      · simp -implicitDefEqProofs only [e36, c18_21_e, c18_22_r, (show opsOf c18_22 = _ :: _ from rfl), (show c18_23 = Code.cond _ c18_24 c18_25 from rfl), yc3, yc4, yd5, yc6, setA, setB, za, zb, zc, zd, ze, zf, zg, zh, zi, zj, zk, zl, zm, zn, zo, zp, reduceCtorEq, zE, ↓reduceIte]
        refine brB (fun yc8 => ?_) (fun yc8 => ?_)
        · simp -implicitDefEqProofs only [c18_24_r, (show opsOf c18_24 = _ :: _ from rfl), Tryd.underlying40, Tryd.underlying9, zv30, HO_0, yc3, yc4, yd5, yc6, yc8, setA, setB, za, zb, zc, zd, ze, zf, zg, zh, zi, zj, zk, zl, zm, zn, zo, zp, reduceCtorEq, zE, ↓reduceIte]
          refine brB (fun yc9 => ?_) (fun yc9 => ?_)
          · simp -implicitDefEqProofs only [HO_0, findO, Option.getD_some, Option.getD_none, Tryd.underlying30, sz9, zc9, hd23, nv24, rw25, ns8, ao30O, yc3, yc4, yd5, yc6, yc8, yc9, setA, setB, za, zb, zc, zd, ze, zf, zg, zh, zi, zj, zk, zl, zm, zn, zo, zp, reduceCtorEq, zE, ↓reduceIte]
            refine brP (fun yc10 => ?_) (fun yc10 => ?_)
            · simp -implicitDefEqProofs only [ao30O, HO_s0, HO_put, findO, Tryd.underlying40, Tryd.underlying9, yc3, yc4, yd5, yc6, yc8, yc9, yc10, setA, setB, za, zb, zc, zd, ze, zf, zg, zh, zi, zj, zk, zl, zm, zn, zo, zp, reduceCtorEq, zE, ↓reduceIte]
              exact j18_26_t t11_0 t11_1 t12 t13 (appM yr7.1 yr7.2.1 kv0) _ (by rfl) (by rfl) (by rfl) (by rfl)
            · rw [if_neg yc10]; rfl
          · simp -implicitDefEqProofs only [HO_0, findO0, Option.getD_some, Option.getD_none, Tryd.underlying30, sz9, zc9, hd23, nv24, rw25, ns8, ao30O0, HO_a0, HO_put0, Tryd.underlying40, Tryd.underlying9, yc3, yc4, yd5, yc6, yc8, yc9, setA, setB, za, zb, zc, zd, ze, zf, zg, zh, zi, zj, zk, zl, zm, zn, zo, zp, reduceCtorEq, zE, ↓reduceIte]
            exact j18_26_t t11_0 t11_1 t12 t13 (kv0 ++ [(yr7.1, [yr7.2.1])]) _ (by rfl) (by rfl) (by rfl) (by rfl)
        · simp -implicitDefEqProofs only [c18_25_e, yc3, yc4, yd5, yc6, yc8, setA, setB, za, zb, zc, zd, ze, zf, zg, zh, zi, zj, zk, zl, zm, zn, zo, zp, reduceCtorEq, zE, ↓reduceIte]
          exact j18_26_t t11_0 t11_1 t12 t13 kv0 _ (by rfl) (by rfl) (by rfl) (by rfl)
    · rw [if_neg yc4]; rfl
  · simp -implicitDefEqProofs only [c18_14_e, K18_8, yc3, setA, setB, za, zb, zc, zd, ze, zf, zg, zh, zi, zj, zk, zl, zm, zn, zo, zp, reduceCtorEq, zE, ↓reduceIte]
    exact mi (j18_27_t kv0 _ (by rfl))
def l18_8 (t11_0 : Bool) (t11_1 : List Bs) (t12 t13 : Int) (kv0 : Kvs) : Option R18 := iter (fun x : (Bool × List Bs × Int × Int × Kvs) => s18_8 x.1 x.2.1 x.2.2.1 x.2.2.2.1 x.2.2.2.2) (t11_0, t11_1, t12, t13, kv0)
theorem l18_8_t (t11_0 : Bool) (t11_1 : List Bs) (t12 t13 : Int) (kv0 : Kvs) : bodyD (E0 mm) [.tmp 2] 0 false (seqD (E0 mm) 18 0 (callW (E0 mm)) itW c18_27 (blockD 0 (itW (loopF (E0 mm) 18 0 (callW (E0 mm)) itW c18_9 [(3, .freeze), (11, .freeze), (12, .freeze), (13, .freeze)]) (none, [.v (.c (.mp 0)), .v (.c (.d (.lst t11_0 (enL enS t11_1)))), .v (.c (.d (.sc (.int .i64 t12)))), .v (.c (.d (.sc (.int .i64 t13))))], (HO kv0))))) = (l18_8 t11_0 t11_1 t12 t13 kv0).map e18 :=
  it_sim (K := (K18_8 (mm := mm))) rfl (enc := en18_8) (fun x => s18_8_t x.1 x.2.1 x.2.2.1 x.2.2.2.1 x.2.2.2.2) (t11_0, t11_1, t12, t13, kv0)
def m18 (l_0 : Bool) (l_1 : List (Bs × Bs)) : Option R18 :=
  (m14 l_0 l_1 ([99, 97, 99, 104, 101, 45, 99, 111, 110, 116, 114, 111, 108] : Bs)).bind fun yr2 =>
    l18_8 yr2.1 yr2.2 (yr2.2.length : Int) (0 : Int) ([] : Kvs)
theorem f18_t (l_0 : Bool) (l_1 : List (Bs × Bs)) :
    callW (E0 mm) 18 [.c (.d (.lst l_0 (enL enSS l_1)))] [] = (m18 l_0 l_1).map e18 := by
  rw [callW_run (body := c18_0) (res := [.tmp 2]) Tryd.func18 rfl rfl (by kernel_rfl)]
  simp -implicitDefEqProofs only [m18, slots1, c18_0_e, c18_1_r, (show opsOf c18_1 = _ :: _ from rfl), c18_2_e, c18_3_r, (show opsOf c18_3 = _ :: _ from rfl), c18_4_e, c18_5_e, c18_6_r, (show opsOf c18_6 = _ :: _ from rfl), ent14, prm14, (show callW (E0 mm) 14 [.c (.d (.lst l_0 (enL enSS l_1))), .c (.d (.sc (.string (S ([99, 97, 99, 104, 101, 45, 99, 111, 110, 116, 114, 111, 108] : Bs)))))] [] = _ from f14_t l_0 l_1 ([99, 97, 99, 104, 101, 45, 99, 111, 110, 116, 114, 111, 108] : Bs)), setA, setB, za, zb, zc, zd, ze, zf, zg, zh, zi, zj, zk, zl, zm, zn, zo, zp, reduceCtorEq, zE, ↓reduceIte]
  refine brM (fun yc1 => ?_) (fun yr2 yc1 => ?_)
  · rw [yc1]; rfl
  · simp -implicitDefEqProofs only [e14, Tryd.underlying30, c18_7_e, c18_8_l, yc1, setA, setB, za, zb, zc, zd, ze, zf, zg, zh, zi, zj, zk, zl, zm, zn, zo, zp, reduceCtorEq, zE, ↓reduceIte]
    exact l18_8_t yr2.1 yr2.2 (yr2.2.length : Int) (0 : Int) ([] : Kvs)
noncomputable def c37_0 : Code := bodyOf Tryd.f37
def c37_1 := cA c37_0
def c37_2 := cB c37_0
def c37_3 := cA c37_2
def c37_4 := cB c37_2
def c37_5 := cA c37_4
def c37_6 := cB c37_4
theorem c37_0_e : c37_0 = .seq c37_1 c37_2 := rfl
theorem c37_1_r : RG (E0 mm) 37 c37_1 := rgN rfl
theorem c37_2_e : c37_2 = .seq c37_3 c37_4 := rfl
theorem c37_3_r : RG (E0 mm) 37 c37_3 := rgN rfl
theorem c37_4_e : c37_4 = .seq c37_5 c37_6 := rfl
theorem c37_5_r : RG (E0 mm) 37 c37_5 := rgN rfl
theorem c37_6_e : c37_6 = .ret := rfl
abbrev R37 := (Bool)
def e37 (gm1 : List (Bs × List Bs)) : R37 → AV × Heap := fun x => (.v (.c (.d (.sc (.bool x)))), [.cells [.mp 1], .amap (enM gm1)])
def m37 (name : Bs) (gm1 : List (Bs × List Bs)) : Option R37 :=
  some (hasM name gm1)
theorem f37_t (name : Bs) (gm1 : List (Bs × List Bs)) :
    callW (E0 mm) 37 [.c (.d (.sc (.string (S name)))), .c (.ptr 0 0)] [.cells [.mp 1], .amap (enM gm1)] = (m37 name gm1).map (e37 gm1) := by
  rw [callW_run (body := c37_0) (res := [.tmp 3]) Tryd.func37 rfl rfl (by kernel_rfl)]
  simp -implicitDefEqProofs only [m37, slots2, c37_0_e, c37_1_r, (show opsOf c37_1 = _ :: _ from rfl), c37_2_e, c37_3_r, (show opsOf c37_3 = _ :: _ from rfl), sz40, ag40, Tryd.underlying40, Tryd.underlying9, zv30, c37_4_e, c37_5_r, (show opsOf c37_5 = _ :: _ from rfl), c37_6_e, setA, setB, za, zb, zc, zd, ze, zf, zg, zh, zi, zj, zk, zl, zm, zn, zo, zp, reduceCtorEq, zE, ↓reduceIte]
  all_goals rfl
noncomputable def c39_0 : Code := bodyOf Tryd.f39
def c39_1 := cA c39_0
def c39_2 := cB c39_0
def c39_3 := cA c39_2
def c39_4 := cA c39_3
def c39_5 := cB c39_3
def c39_6 := cA c39_5
def c39_7 := cA c39_6
def c39_8 := cA c39_7
def c39_9 := cB c39_7
def c39_10 := cA c39_9
def c39_11 := cA c39_10
def c39_12 := cB c39_10
def c39_13 := cB c39_9
def c39_14 := cA c39_13
def c39_15 := cA c39_14
def c39_16 := cA c39_15
def c39_17 := cB c39_15
def c39_18 := cA c39_17
def c39_19 := cB c39_17
def c39_20 := cA c39_19
def c39_21 := cA c39_20
def c39_22 := cB c39_20
def c39_23 := cB c39_19
def c39_24 := cB c39_13
def c39_25 := cB c39_2
def c39_26 := cA c39_25
def c39_27 := cB c39_25
theorem c39_0_e : c39_0 = .seq c39_1 c39_2 := rfl
theorem c39_1_r : RG (E0 mm) 39 c39_1 := rgN rfl
theorem c39_2_e : c39_2 = .seq c39_3 c39_25 := rfl
theorem c39_3_e : c39_3 = .seq c39_4 c39_5 := rfl
theorem c39_4_r : RG (E0 mm) 39 c39_4 := rgN rfl
theorem c39_5_e : c39_5 = .block 0 c39_6 := rfl
theorem c39_6_l (m : Nat) (st : St) : den (E0 mm) 39 m (callW (E0 mm)) itW c39_6 none st = loopD itW (loopF (E0 mm) 39 m (callW (E0 mm)) itW c39_7 [(0, .keep), (1, .keep), (7, .keep), (8, .keep)]) (canon m [(0, .keep), (1, .keep), (7, .keep), (8, .keep)] st) := rfl
theorem c39_7_e : c39_7 = .seq c39_8 c39_9 := rfl
theorem c39_8_r : RG (E0 mm) 39 c39_8 := rgN rfl
theorem c39_9_e : c39_9 = .seq c39_10 c39_13 := rfl
theorem c39_11_e : c39_11 = .skip := rfl
theorem c39_12_e : c39_12 = .exit 0 := rfl
theorem c39_13_e : c39_13 = .seq c39_14 c39_24 := rfl
theorem c39_14_e : c39_14 = .block 1 c39_15 := rfl
theorem c39_15_e : c39_15 = .seq c39_16 c39_17 := rfl
theorem c39_16_r : RG (E0 mm) 39 c39_16 := rgN rfl
theorem c39_17_e : c39_17 = .seq c39_18 c39_19 := rfl
theorem c39_18_r : RG (E0 mm) 39 c39_18 := rgN rfl
theorem c39_20_e : c39_20 = .seq c39_21 c39_22 := rfl
theorem c39_21_r : RG (E0 mm) 39 c39_21 := rgN rfl
theorem c39_22_e : c39_22 = .ret := rfl
theorem c39_23_e : c39_23 = .skip := rfl
theorem c39_24_r : RG (E0 mm) 39 c39_24 := rgN rfl
theorem c39_25_e : c39_25 = .seq c39_26 c39_27 := rfl
theorem c39_26_r : RG (E0 mm) 39 c39_26 := rgN rfl
theorem c39_27_e : c39_27 = .ret := rfl
abbrev R39 := (Int)
def e39 (gm1 : List (Bs × List Bs)) : R39 → AV × Heap := fun x => (.v (.c (.d (.sc (.int .i64 x)))), [.cells [.mp 1], .amap (enM gm1)])
def K39_6 : Option (Ex × St) → Option (AV × Heap) := fun r => bodyD (E0 mm) [.tmp 4] 2 false (seqD (E0 mm) 39 2 (callW (E0 mm)) itW c39_25 (blockD 0 (r)))
def en39_6 (gm1 : List (Bs × List Bs)) : (Bool × List Bs × Int × Int) → X := fun x => (none, [.v (.c (.d (.lst x.1 (enL enS x.2.1)))), .v (.c (.fn 37 [(0, 0)])), .v (.c (.d (.sc (.int .i64 x.2.2.1)))), .v (.c (.d (.sc (.int .i64 x.2.2.2))))], [.cells [.mp 1], .amap (enM gm1)])
def j39_25 (gm1 : List (Bs × List Bs))  : Option R39 :=
  some (-1 : Int)
theorem j39_25_t (gm1 : List (Bs × List Bs))   (sl : Nat → AV)  :
    bodyD (E0 mm) [.tmp 4] 2 false (den (E0 mm) 39 2 (callW (E0 mm)) itW c39_25 none ⟨sl, [.cells [.mp 1], .amap (enM gm1)]⟩) = (j39_25 gm1).map (e39 gm1) := by
  simp -implicitDefEqProofs only [j39_25, c39_25_e, c39_26_r, (show opsOf c39_26 = _ :: _ from rfl), c39_27_e, setA, setB, za, zb, zc, zd, ze, zf, zg, zh, zi, zj, zk, zl, zm, zn, zo, zp, reduceCtorEq, zE, ↓reduceIte]
  all_goals rfl
def s39_6 (gm1 : List (Bs × List Bs)) (s0_0 : Bool) (s0_1 : List Bs) (t7 t8 : Int) : Option ((Bool × List Bs × Int × Int) ⊕ R39) :=
  if (decide (t8 < t7)) = true then
    if 0 ≤ t8 ∧ t8 < (s0_1.length : Int) then
      (m37 (s0_1.getD t8.toNat default) gm1).bind fun yr5 =>
        if yr5 = true then
          some (.inr t8)
        else
          some (.inl (s0_0, s0_1, t7, (w64 (t8 + 1))))
    else none
  else
    (j39_25 gm1).map .inr
theorem s39_6_t (gm1 : List (Bs × List Bs)) (s0_0 : Bool) (s0_1 : List Bs) (t7 t8 : Int) :
    stepE (K39_6 (mm := mm)) (loopF (E0 mm) 39 2 (callW (E0 mm)) itW c39_7 [(0, .keep), (1, .keep), (7, .keep), (8, .keep)] (none, [.v (.c (.d (.lst s0_0 (enL enS s0_1)))), .v (.c (.fn 37 [(0, 0)])), .v (.c (.d (.sc (.int .i64 t7)))), .v (.c (.d (.sc (.int .i64 t8))))], [.cells [.mp 1], .amap (enM gm1)])) = (s39_6 gm1 s0_0 s0_1 t7 t8).map (sm (en39_6 gm1) (e39 gm1)) := by
  simp -implicitDefEqProofs only [s39_6, loopF_eq, c39_7_e, c39_8_r, (show opsOf c39_8 = _ :: _ from rfl), c39_9_e, (show c39_10 = Code.cond _ c39_11 c39_12 from rfl), setA, setB, za, zb, zc, zd, ze, zf, zg, zh, zi, zj, zk, zl, zm, zn, zo, zp, reduceCtorEq, zE, ↓reduceIte]
  refine brB (fun yc1 => ?_) (fun yc1 => ?_)
  · simp -implicitDefEqProofs only [c39_11_e, c39_13_e, c39_14_e, c39_15_e, c39_16_r, (show opsOf c39_16 = _ :: _ from rfl), c39_17_e, c39_18_r, (show opsOf c39_18 = _ :: _ from rfl), Tryd.underlying30, sz9, enS_a, yc1, setA, setB, za, zb, zc, zd, ze, zf, zg, zh, zi, zj, zk, zl, zm, zn, zo, zp, reduceCtorEq, zE, ↓reduceIte]
    refine brP (fun yc2 => ?_) (fun yc2 => ?_)
    · have yd3 : t8.toNat < s0_1.length := by omega
      simp -implicitDefEqProofs only [(enL_get enS s0_1 t8.toNat yd3), enS_e, sz9, ag9, ent37, prm37, f37_t, yc1, yc2, yd3, setA, setB, za, zb, zc, zd, ze, zf, zg, zh, zi, zj, zk, zl, zm, zn, zo, zp, reduceCtorEq, zE, ↓reduceIte]
      refine brM (fun yc4 => ?_) (fun yr5 yc4 => ?_)
      · rw [yc4]; rfl
      · simp -implicitDefEqProofs only [e37, (show c39_19 = Code.cond _ c39_20 c39_23 from rfl), yc1, yc2, yd3, yc4, setA, setB, za, zb, zc, zd, ze, zf, zg, zh, zi, zj, zk, zl, zm, zn, zo, zp, reduceCtorEq, zE, ↓reduceIte]
        refine brB (fun yc6 => ?_) (fun yc6 => ?_)
        · simp -implicitDefEqProofs only [c39_20_e, c39_21_r, (show opsOf c39_21 = _ :: _ from rfl), c39_22_e, K39_6, yc1, yc2, yd3, yc4, yc6, setA, setB, za, zb, zc, zd, ze, zf, zg, zh, zi, zj, zk, zl, zm, zn, zo, zp, reduceCtorEq, zE, ↓reduceIte]
          all_goals rfl
        · simp -implicitDefEqProofs only [c39_23_e, c39_24_r, (show opsOf c39_24 = _ :: _ from rfl), yc1, yc2, yd3, yc4, yc6, setA, setB, za, zb, zc, zd, ze, zf, zg, zh, zi, zj, zk, zl, zm, zn, zo, zp, reduceCtorEq, zE, ↓reduceIte]
          all_goals rfl
    · rw [if_neg yc2]; rfl
  · simp -implicitDefEqProofs only [c39_12_e, K39_6, yc1, setA, setB, za, zb, zc, zd, ze, zf, zg, zh, zi, zj, zk, zl, zm, zn, zo, zp, reduceCtorEq, zE, ↓reduceIte]
    exact mi (j39_25_t gm1 _)
def l39_6 (gm1 : List (Bs × List Bs)) (s0_0 : Bool) (s0_1 : List Bs) (t7 t8 : Int) : Option R39 := iter (fun x : (Bool × List Bs × Int × Int) => s39_6 gm1 x.1 x.2.1 x.2.2.1 x.2.2.2) (s0_0, s0_1, t7, t8)
theorem l39_6_t (gm1 : List (Bs × List Bs)) (s0_0 : Bool) (s0_1 : List Bs) (t7 t8 : Int) : bodyD (E0 mm) [.tmp 4] 2 false (seqD (E0 mm) 39 2 (callW (E0 mm)) itW c39_25 (blockD 0 (itW (loopF (E0 mm) 39 2 (callW (E0 mm)) itW c39_7 [(0, .keep), (1, .keep), (7, .keep), (8, .keep)]) (none, [.v (.c (.d (.lst s0_0 (enL enS s0_1)))), .v (.c (.fn 37 [(0, 0)])), .v (.c (.d (.sc (.int .i64 t7)))), .v (.c (.d (.sc (.int .i64 t8))))], [.cells [.mp 1], .amap (enM gm1)])))) = (l39_6 gm1 s0_0 s0_1 t7 t8).map (e39 gm1) :=
  it_sim (K := (K39_6 (mm := mm))) rfl (enc := (en39_6 gm1)) (fun x => s39_6_t gm1 x.1 x.2.1 x.2.2.1 x.2.2.2) (s0_0, s0_1, t7, t8)
def m39 (s_0 : Bool) (s_1 : List Bs) (gm1 : List (Bs × List Bs)) : Option R39 :=
  l39_6 gm1 s_0 s_1 (s_1.length : Int) (0 : Int)
theorem f39_t (s_0 : Bool) (s_1 : List Bs) (gm1 : List (Bs × List Bs)) :
    callW (E0 mm) 39 [.c (.d (.lst s_0 (enL enS s_1))), .c (.fn 37 [(0, 0)])] [.cells [.mp 1], .amap (enM gm1)] = (m39 s_0 s_1 gm1).map (e39 gm1) := by
  rw [callW_run (body := c39_0) (res := [.tmp 4]) Tryd.func39 rfl rfl (by kernel_rfl)]
  simp -implicitDefEqProofs only [m39, slots2, c39_0_e, c39_1_r, (show opsOf c39_1 = _ :: _ from rfl), c39_2_e, c39_3_e, c39_4_r, (show opsOf c39_4 = _ :: _ from rfl), Tryd.underlying30, c39_5_e, c39_6_l, setA, setB, za, zb, zc, zd, ze, zf, zg, zh, zi, zj, zk, zl, zm, zn, zo, zp, reduceCtorEq, zE, ↓reduceIte]
  exact l39_6_t gm1 s_0 s_1 (s_1.length : Int) (0 : Int)
noncomputable def c25_0 : Code := bodyOf Tryd.f25
def c25_1 := cA c25_0
def c25_2 := cB c25_0
def c25_3 := cA c25_2
def c25_4 := cB c25_2
theorem c25_0_e : c25_0 = .seq c25_1 c25_2 := rfl
theorem c25_1_r : RG (E0 mm) 25 c25_1 := rgN rfl
theorem c25_2_e : c25_2 = .seq c25_3 c25_4 := rfl
theorem c25_3_r : RG (E0 mm) 25 c25_3 := rgN rfl
theorem c25_4_e : c25_4 = .ret := rfl
abbrev R25 := (Bool)
def e25 (gm1 : List (Bs × List Bs)) : R25 → AV × Heap := fun x => (.v (.c (.d (.sc (.bool x)))), [.cells [.mp 1], .amap (enM gm1)])
def m25 (s_0 : Bool) (s_1 : List Bs) (gm1 : List (Bs × List Bs)) : Option R25 :=
  (m39 s_0 s_1 gm1).bind fun yr2 =>
    some (decide (0 ≤ yr2))
theorem f25_t (s_0 : Bool) (s_1 : List Bs) (gm1 : List (Bs × List Bs)) :
    callW (E0 mm) 25 [.c (.d (.lst s_0 (enL enS s_1))), .c (.fn 37 [(0, 0)])] [.cells [.mp 1], .amap (enM gm1)] = (m25 s_0 s_1 gm1).map (e25 gm1) := by
  rw [callW_run (body := c25_0) (res := [.tmp 4]) Tryd.func25 rfl rfl (by kernel_rfl)]
  simp -implicitDefEqProofs only [m25, slots2, c25_0_e, c25_1_r, (show opsOf c25_1 = _ :: _ from rfl), c25_2_e, c25_3_r, (show opsOf c25_3 = _ :: _ from rfl), ent39, prm39, f39_t, setA, setB, za, zb, zc, zd, ze, zf, zg, zh, zi, zj, zk, zl, zm, zn, zo, zp, reduceCtorEq, zE, ↓reduceIte]
  refine brM (fun yc1 => ?_) (fun yr2 yc1 => ?_)
  · rw [yc1]; rfl
  · simp -implicitDefEqProofs only [e39, c25_4_e, yc1, setA, setB, za, zb, zc, zd, ze, zf, zg, zh, zi, zj, zk, zl, zm, zn, zo, zp, reduceCtorEq, zE, ↓reduceIte]
    all_goals rfl
noncomputable def c19_0 : Code := bodyOf Tryd.f19
def c19_1 := cA c19_0
def c19_2 := cB c19_0
def c19_3 := cA c19_2
def c19_4 := cB c19_2
theorem c19_0_e : c19_0 = .seq c19_1 c19_2 := rfl
theorem c19_1_r : RG (E0 mm) 19 c19_1 := rgN rfl
theorem c19_2_e : c19_2 = .seq c19_3 c19_4 := rfl
theorem c19_3_r : RG (E0 mm) 19 c19_3 := rgN rfl
theorem c19_4_e : c19_4 = .ret := rfl
abbrev R19 := (Bool)
def e19 (gm0 : List (Bs × List Bs)) : R19 → AV × Heap := fun x => (.v (.c (.d (.sc (.bool x)))), [.amap (enM gm0)])
def m19 (names_0 : Bool) (names_1 : List Bs) (gm0 : List (Bs × List Bs)) : Option R19 :=
  (m25 names_0 names_1 gm0).bind fun yr2 =>
    some yr2
theorem f19_t (names_0 : Bool) (names_1 : List Bs) (gm0 : List (Bs × List Bs)) :
    callW (E0 mm) 19 [.c (.mp 0), .c (.d (.lst names_0 (enL enS names_1)))] [.amap (enM gm0)] = (m19 names_0 names_1 gm0).map (e19 gm0) := by
  rw [callW_run (body := c19_0) (res := [.tmp 4]) Tryd.func19 rfl rfl (by kernel_rfl)]
  simp -implicitDefEqProofs only [m19, slots2, c19_0_e, c19_1_r, (show opsOf c19_1 = _ :: _ from rfl), c19_2_e, c19_3_r, (show opsOf c19_3 = _ :: _ from rfl), ent25, prm25, f25_t, setA, setB, za, zb, zc, zd, ze, zf, zg, zh, zi, zj, zk, zl, zm, zn, zo, zp, reduceCtorEq, zE, ↓reduceIte]
  refine brM (fun yc1 => ?_) (fun yr2 yc1 => ?_)
  · rw [yc1]; rfl
  · simp -implicitDefEqProofs only [e25, c19_4_e, yc1, setA, setB, za, zb, zc, zd, ze, zf, zg, zh, zi, zj, zk, zl, zm, zn, zo, zp, reduceCtorEq, zE, ↓reduceIte]
    all_goals rfl
noncomputable def c64_0 : Code := bodyOf Tryd.f64
def c64_1 := cA c64_0
def c64_2 := cB c64_0
def c64_3 := cA c64_2
def c64_4 := cA c64_3
def c64_5 := cB c64_3
def c64_6 := cA c64_5
def c64_7 := cA c64_6
def c64_8 := cB c64_6
def c64_9 := cB c64_5
def c64_10 := cB c64_2
def c64_11 := cA c64_10
def c64_12 := cB c64_10
theorem c64_0_e : c64_0 = .seq c64_1 c64_2 := rfl
theorem c64_1_r : RG (E0 mm) 64 c64_1 := rgN rfl
theorem c64_2_e : c64_2 = .seq c64_3 c64_10 := rfl
theorem c64_3_e : c64_3 = .seq c64_4 c64_5 := rfl
theorem c64_4_r : RG (E0 mm) 64 c64_4 := rgN rfl
theorem c64_6_e : c64_6 = .seq c64_7 c64_8 := rfl
theorem c64_7_r : RG (E0 mm) 64 c64_7 := rgN rfl
theorem c64_8_e : c64_8 = .ret := rfl
theorem c64_9_e : c64_9 = .skip := rfl
theorem c64_10_e : c64_10 = .seq c64_11 c64_12 := rfl
theorem c64_11_r : RG (E0 mm) 64 c64_11 := rgN rfl
theorem c64_12_e : c64_12 = .ret := rfl
abbrev R64 := (Int)
def e64 : R64 → AV × Heap := fun x => (.v (.c (.d (.sc (.int .i64 x)))), [])
def j64_5 (c0 : Int) (t8 : Bool) : Option R64 :=
  if t8 = true then
    some (w64 (w32 (c0 - 48)))
  else
    some (-1 : Int)
theorem j64_5_t (c0 : Int) (t8 : Bool)  (sl : Nat → AV) (zq0 : sl 0 = .v (.c (.d (.sc (.int .i32 c0))))) (zq8 : sl 8 = .v (.c (.d (.sc (.bool t8))))) :
    bodyD (E0 mm) [.tmp 2] 0 false (seqD (E0 mm) 64 0 (callW (E0 mm)) itW c64_10 (den (E0 mm) 64 0 (callW (E0 mm)) itW c64_5 none ⟨sl, []⟩)) = (j64_5 c0 t8).map e64 := by
  simp -implicitDefEqProofs only [j64_5, (show c64_5 = Code.cond _ c64_6 c64_9 from rfl), zq0, zq8, setA, setB, za, zb, zc, zd, ze, zf, zg, zh, zi, zj, zk, zl, zm, zn, zo, zp, reduceCtorEq, zE, ↓reduceIte]
  refine brB (fun yc2 => ?_) (fun yc2 => ?_)
  · simp -implicitDefEqProofs only [c64_6_e, c64_7_r, (show opsOf c64_7 = _ :: _ from rfl), Tryd.underlying21, Tryd.underlying3, c64_8_e, zq0, zq8, yc2, setA, setB, za, zb, zc, zd, ze, zf, zg, zh, zi, zj, zk, zl, zm, zn, zo, zp, reduceCtorEq, zE, ↓reduceIte]
    all_goals rfl
  · simp -implicitDefEqProofs only [c64_9_e, c64_10_e, c64_11_r, (show opsOf c64_11 = _ :: _ from rfl), c64_12_e, zq0, zq8, yc2, setA, setB, za, zb, zc, zd, ze, zf, zg, zh, zi, zj, zk, zl, zm, zn, zo, zp, reduceCtorEq, zE, ↓reduceIte]
    all_goals rfl
def m64 (c : Int) : Option R64 :=
  if (decide (48 ≤ c)) = true then
    j64_5 c (decide (c ≤ 57))
  else
    j64_5 c false
theorem f64_t (c : Int) :
    callW (E0 mm) 64 [.c (.d (.sc (.int .i32 c)))] [] = (m64 c).map e64 := by
  rw [callW_run (body := c64_0) (res := [.tmp 2]) Tryd.func64 rfl rfl (by kernel_rfl)]
  simp -implicitDefEqProofs only [m64, slots1, c64_0_e, c64_1_r, (show opsOf c64_1 = _ :: _ from rfl), c64_2_e, c64_3_e, c64_4_r, (show opsOf c64_4 = _ :: _ from rfl), setA, setB, za, zb, zc, zd, ze, zf, zg, zh, zi, zj, zk, zl, zm, zn, zo, zp, reduceCtorEq, zE, ↓reduceIte]
  refine brB (fun yc1 => ?_) (fun yc1 => ?_)
  · simp -implicitDefEqProofs only [yc1, setA, setB, za, zb, zc, zd, ze, zf, zg, zh, zi, zj, zk, zl, zm, zn, zo, zp, reduceCtorEq, zE, ↓reduceIte]
    exact j64_5_t c (decide (c ≤ 57)) _ (by rfl) (by rfl)
  · simp -implicitDefEqProofs only [yc1, setA, setB, za, zb, zc, zd, ze, zf, zg, zh, zi, zj, zk, zl, zm, zn, zo, zp, reduceCtorEq, zE, ↓reduceIte]
    exact j64_5_t c false _ (by rfl) (by rfl)
noncomputable def c63_0 : Code := bodyOf Tryd.f63
def c63_1 := cA c63_0
def c63_2 := cB c63_0
def c63_3 := cA c63_2
def c63_4 := cA c63_3
def c63_5 := cB c63_3
def c63_6 := cA c63_5
def c63_7 := cA c63_6
def c63_8 := cB c63_6
def c63_9 := cB c63_5
def c63_10 := cB c63_2
def c63_11 := cA c63_10
def c63_12 := cB c63_10
def c63_13 := cA c63_12
def c63_14 := cA c63_13
def c63_15 := cB c63_13
def c63_16 := cA c63_15
def c63_17 := cA c63_16
def c63_18 := cA c63_17
def c63_19 := cB c63_17
def c63_20 := cA c63_19
def c63_21 := cA c63_20
def c63_22 := cB c63_20
def c63_23 := cB c63_19
def c63_24 := cA c63_23
def c63_25 := cA c63_24
def c63_26 := cB c63_24
def c63_27 := cA c63_26
def c63_28 := cB c63_26
def c63_29 := cA c63_28
def c63_30 := cA c63_29
def c63_31 := cB c63_29
def c63_32 := cA c63_31
def c63_33 := cA c63_32
def c63_34 := cB c63_32
def c63_35 := cB c63_31
def c63_36 := cB c63_28
def c63_37 := cA c63_36
def c63_38 := cA c63_37
def c63_39 := cB c63_37
def c63_40 := cA c63_39
def c63_41 := cA c63_40
def c63_42 := cB c63_40
def c63_43 := cB c63_39
def c63_44 := cB c63_36
def c63_45 := cB c63_12
def c63_46 := cA c63_45
def c63_47 := cA c63_46
def c63_48 := cB c63_46
def c63_49 := cA c63_48
def c63_50 := cA c63_49
def c63_51 := cB c63_49
def c63_52 := cB c63_48
def c63_53 := cB c63_45
def c63_54 := cA c63_53
def c63_55 := cB c63_53
theorem c63_0_e : c63_0 = .seq c63_1 c63_2 := rfl
theorem c63_1_r : RG (E0 mm) 63 c63_1 := rgN rfl
theorem c63_2_e : c63_2 = .seq c63_3 c63_10 := rfl
theorem c63_3_e : c63_3 = .seq c63_4 c63_5 := rfl
theorem c63_4_r : RG (E0 mm) 63 c63_4 := rgN rfl
theorem c63_6_e : c63_6 = .seq c63_7 c63_8 := rfl
theorem c63_7_r : RG (E0 mm) 63 c63_7 := rgN rfl
theorem c63_8_e : c63_8 = .ret := rfl
theorem c63_9_e : c63_9 = .skip := rfl
theorem c63_10_e : c63_10 = .seq c63_11 c63_12 := rfl
theorem c63_11_r : RG (E0 mm) 63 c63_11 := rgN rfl
theorem c63_12_e : c63_12 = .seq c63_13 c63_45 := rfl
theorem c63_13_e : c63_13 = .seq c63_14 c63_15 := rfl
theorem c63_14_r : RG (E0 mm) 63 c63_14 := rgN rfl
theorem c63_15_e : c63_15 = .block 0 c63_16 := rfl
theorem c63_16_l (m : Nat) (st : St) : den (E0 mm) 63 m (callW (E0 mm)) itW c63_16 none st = loopD itW (loopF (E0 mm) 63 m (callW (E0 mm)) itW c63_17 [(1, .keep), (2, .keep), (8, .keep), (9, .keep), (16, .keep)]) (canon m [(1, .keep), (2, .keep), (8, .keep), (9, .keep), (16, .keep)] st) := rfl
theorem c63_17_e : c63_17 = .seq c63_18 c63_19 := rfl
theorem c63_18_r : RG (E0 mm) 63 c63_18 := rgN rfl
theorem c63_19_e : c63_19 = .seq c63_20 c63_23 := rfl
theorem c63_21_e : c63_21 = .skip := rfl
theorem c63_22_e : c63_22 = .exit 0 := rfl
theorem c63_23_e : c63_23 = .block 1 c63_24 := rfl
theorem c63_24_e : c63_24 = .seq c63_25 c63_26 := rfl
theorem c63_25_r : RG (E0 mm) 63 c63_25 := rgN rfl
theorem c63_26_e : c63_26 = .seq c63_27 c63_28 := rfl
theorem c63_27_r : RG (E0 mm) 63 c63_27 := rgN rfl
theorem c63_28_e : c63_28 = .seq c63_29 c63_36 := rfl
theorem c63_29_e : c63_29 = .seq c63_30 c63_31 := rfl
theorem c63_30_r : RG (E0 mm) 63 c63_30 := rgN rfl
theorem c63_32_e : c63_32 = .seq c63_33 c63_34 := rfl
theorem c63_33_r : RG (E0 mm) 63 c63_33 := rgN rfl
theorem c63_34_e : c63_34 = .ret := rfl
theorem c63_35_e : c63_35 = .skip := rfl
theorem c63_36_e : c63_36 = .seq c63_37 c63_44 := rfl
theorem c63_37_e : c63_37 = .seq c63_38 c63_39 := rfl
theorem c63_38_r : RG (E0 mm) 63 c63_38 := rgN rfl
theorem c63_40_e : c63_40 = .seq c63_41 c63_42 := rfl
theorem c63_41_r : RG (E0 mm) 63 c63_41 := rgN rfl
theorem c63_42_e : c63_42 = .exit 1 := rfl
theorem c63_43_e : c63_43 = .skip := rfl
theorem c63_44_r : RG (E0 mm) 63 c63_44 := rgN rfl
theorem c63_45_e : c63_45 = .seq c63_46 c63_53 := rfl
theorem c63_46_e : c63_46 = .seq c63_47 c63_48 := rfl
theorem c63_47_r : RG (E0 mm) 63 c63_47 := rgN rfl
theorem c63_49_e : c63_49 = .seq c63_50 c63_51 := rfl
theorem c63_50_r : RG (E0 mm) 63 c63_50 := rgN rfl
theorem c63_51_e : c63_51 = .ret := rfl
theorem c63_52_e : c63_52 = .skip := rfl
theorem c63_53_e : c63_53 = .seq c63_54 c63_55 := rfl
theorem c63_54_r : RG (E0 mm) 63 c63_54 := rgN rfl
theorem c63_55_e : c63_55 = .ret := rfl
abbrev R63 := (Int × Int)
def e63 : R63 → AV × Heap := fun x => (.tup [.c (.d (.sc (.int .u64 x.1))), .c (.d (.sc (.int .i64 x.2)))], [])
def K63_16 : Option (Ex × St) → Option (AV × Heap) := fun r => bodyD (E0 mm) [.tmp 6, .tmp 7] 0 false (seqD (E0 mm) 63 0 (callW (E0 mm)) itW c63_45 (blockD 0 (r)))
def en63_16 : (Int × Int × Bool × Bs × Nat) → X := fun x => (none, [.v (.c (.d (.sc (.int .u64 x.1)))), .v (.c (.d (.sc (.func (.func 64) #[] #[])))), .v (.c (.d (.sc (.int .u64 x.2.1)))), .v (.c (.d (.sc (.bool x.2.2.1)))), .v (.c (.it 0))], [.siter (S x.2.2.2.1) x.2.2.2.2])
def j63_39 (base1 n8 : Int) (long9 : Bool) (d12 : Int) (t34 : Bool) (s0 : Bs) (p0 : Nat) : Option ((Int × Int × Bool × Bs × Nat) ⊕ R63) :=
  if t34 = true then
    some (.inl (base1, n8, true, s0, p0))
  else
    some (.inl (base1, (wu64 ((wu64 (n8 * base1)) + (wu64 d12))), long9, s0, p0))
theorem j63_39_t (base1 n8 : Int) (long9 : Bool) (d12 : Int) (t34 : Bool) (s0 : Bs) (p0 : Nat)  (sl : Nat → AV) (zq1 : sl 1 = .v (.c (.d (.sc (.int .u64 base1))))) (zq2 : sl 2 = .v (.c (.d (.sc (.func (.func 64) #[] #[]))))) (zq8 : sl 8 = .v (.c (.d (.sc (.int .u64 n8))))) (zq9 : sl 9 = .v (.c (.d (.sc (.bool long9))))) (zq12 : sl 12 = .v (.c (.d (.sc (.int .i64 d12))))) (zq16 : sl 16 = .v (.c (.it 0))) (zq34 : sl 34 = .v (.c (.d (.sc (.bool t34))))) :
    stepE (K63_16 (mm := mm)) (loopK 0 [(1, .keep), (2, .keep), (8, .keep), (9, .keep), (16, .keep)] (blockD 1 (seqD (E0 mm) 63 0 (callW (E0 mm)) itW c63_44 (den (E0 mm) 63 0 (callW (E0 mm)) itW c63_39 none ⟨sl, [.siter (S s0) p0]⟩)))) = (j63_39 base1 n8 long9 d12 t34 s0 p0).map (sm en63_16 e63) := by
  simp -implicitDefEqProofs only [j63_39, (show c63_39 = Code.cond _ c63_40 c63_43 from rfl), zq1, zq2, zq8, zq9, zq12, zq16, zq34, setA, setB, za, zb, zc, zd, ze, zf, zg, zh, zi, zj, zk, zl, zm, zn, zo, zp, reduceCtorEq, zE, ↓reduceIte]
  refine brB (fun yc8 => ?_) (fun yc8 => ?_)
  · simp -implicitDefEqProofs only [c63_40_e, c63_41_r, (show opsOf c63_41 = _ :: _ from rfl), c63_42_e, zq1, zq2, zq8, zq9, zq12, zq16, zq34, yc8, setA, setB, za, zb, zc, zd, ze, zf, zg, zh, zi, zj, zk, zl, zm, zn, zo, zp, reduceCtorEq, zE, ↓reduceIte]
    all_goals rfl
  · simp -implicitDefEqProofs only [c63_43_e, c63_44_r, (show opsOf c63_44 = _ :: _ from rfl), Tryd.underlying3, Tryd.underlying60, zq1, zq2, zq8, zq9, zq12, zq16, zq34, yc8, setA, setB, za, zb, zc, zd, ze, zf, zg, zh, zi, zj, zk, zl, zm, zn, zo, zp, reduceCtorEq, zE, ↓reduceIte]
    all_goals rfl
def j63_45 (n8 : Int) (long9 : Bool) : Option R63 :=
  if long9 = true then
    some ((0 : Int), (3 : Int))
  else
    some (n8, (0 : Int))
theorem j63_45_t (n8 : Int) (long9 : Bool) (g0 : Ob) (sl : Nat → AV) (zq8 : sl 8 = .v (.c (.d (.sc (.int .u64 n8))))) (zq9 : sl 9 = .v (.c (.d (.sc (.bool long9))))) :
    bodyD (E0 mm) [.tmp 6, .tmp 7] 0 false (den (E0 mm) 63 0 (callW (E0 mm)) itW c63_45 none ⟨sl, [g0]⟩) = (j63_45 n8 long9).map e63 := by
  simp -implicitDefEqProofs only [j63_45, c63_45_e, c63_46_e, c63_47_r, (show opsOf c63_47 = _ :: _ from rfl), (show c63_48 = Code.cond _ c63_49 c63_52 from rfl), zq8, zq9, setA, setB, za, zb, zc, zd, ze, zf, zg, zh, zi, zj, zk, zl, zm, zn, zo, zp, reduceCtorEq, zE, ↓reduceIte]
  refine brB (fun yc10 => ?_) (fun yc10 => ?_)
  · simp -implicitDefEqProofs only [c63_49_e, c63_50_r, (show opsOf c63_50 = _ :: _ from rfl), c63_51_e, zq8, zq9, yc10, setA, setB, za, zb, zc, zd, ze, zf, zg, zh, zi, zj, zk, zl, zm, zn, zo, zp, reduceCtorEq, zE, ↓reduceIte]
    all_goals rfl
  · simp -implicitDefEqProofs only [c63_52_e, c63_53_e, c63_54_r, (show opsOf c63_54 = _ :: _ from rfl), c63_55_e, zq8, zq9, yc10, setA, setB, za, zb, zc, zd, ze, zf, zg, zh, zi, zj, zk, zl, zm, zn, zo, zp, reduceCtorEq, zE, ↓reduceIte]
    all_goals rfl
def s63_16 (base1 n8 : Int) (long9 : Bool) (s0 : Bs) (p0 : Nat) : Option ((Int × Int × Bool × Bs × Nat) ⊕ R63) :=
  if (decide (p0 < s0.length)) = true then
    (m64 (uc s0 p0 : Int)).bind fun yr5 =>
      if (decide (yr5 < 0)) = true then
        some (.inr ((0 : Int), (5 : Int)))
      else
        if long9 = true then
          j63_39 base1 n8 true yr5 true s0 (p0 + uw s0 p0)
        else
          if (base1 == 0) = false then
            j63_39 base1 n8 false yr5 (decide ((wu64 ((wu64 (9007199254740991 - (wu64 yr5))).tdiv base1)) < n8)) s0 (p0 + uw s0 p0)
          else none
  else
    (j63_45 n8 long9).map .inr
theorem s63_16_t (base1 n8 : Int) (long9 : Bool) (s0 : Bs) (p0 : Nat) :
    stepE (K63_16 (mm := mm)) (loopF (E0 mm) 63 0 (callW (E0 mm)) itW c63_17 [(1, .keep), (2, .keep), (8, .keep), (9, .keep), (16, .keep)] (none, [.v (.c (.d (.sc (.int .u64 base1)))), .v (.c (.d (.sc (.func (.func 64) #[] #[])))), .v (.c (.d (.sc (.int .u64 n8)))), .v (.c (.d (.sc (.bool long9)))), .v (.c (.it 0))], [.siter (S s0) p0])) = (s63_16 base1 n8 long9 s0 p0).map (sm en63_16 e63) := by
  simp -implicitDefEqProofs only [s63_16, loopF_eq, c63_17_e, c63_18_r, (show opsOf c63_18 = _ :: _ from rfl), dec_eq, setA, setB, za, zb, zc, zd, ze, zf, zg, zh, zi, zj, zk, zl, zm, zn, zo, zp, reduceCtorEq, zE, ↓reduceIte]
  refine brB (fun yc2 => ?_) (fun yc2 => ?_)
  · have yd3 := of_decide_eq_true yc2
    simp -implicitDefEqProofs only [c63_19_e, (show c63_20 = Code.cond _ c63_21 c63_22 from rfl), c63_21_e, c63_23_e, c63_24_e, c63_25_r, (show opsOf c63_25 = _ :: _ from rfl), c63_26_e, c63_27_r, (show opsOf c63_27 = _ :: _ from rfl), ent64, prm64, f64_t, yd3, setA, setB, za, zb, zc, zd, ze, zf, zg, zh, zi, zj, zk, zl, zm, zn, zo, zp, reduceCtorEq, zE, ↓reduceIte]
    refine brM (fun yc4 => ?_) (fun yr5 yc4 => ?_)
    · rw [yc4]; rfl
    · simp -implicitDefEqProofs only [e64, c63_28_e, c63_29_e, c63_30_r, (show opsOf c63_30 = _ :: _ from rfl), (show c63_31 = Code.cond _ c63_32 c63_35 from rfl), yd3, yc4, setA, setB, za, zb, zc, zd, ze, zf, zg, zh, zi, zj, zk, zl, zm, zn, zo, zp, reduceCtorEq, zE, ↓reduceIte]
      refine brB (fun yc6 => ?_) (fun yc6 => ?_)
      · simp -implicitDefEqProofs only [c63_32_e, c63_33_r, (show opsOf c63_33 = _ :: _ from rfl), c63_34_e, K63_16, yd3, yc4, yc6, setA, setB, za, zb, zc, zd, ze, zf, zg, zh, zi, zj, zk, zl, zm, zn, zo, zp, reduceCtorEq, zE, ↓reduceIte]
        all_goals rfl
      · simp -implicitDefEqProofs only [c63_35_e, c63_36_e, c63_37_e, c63_38_r, (show opsOf c63_38 = _ :: _ from rfl), yd3, yc4, yc6, setA, setB, za, zb, zc, zd, ze, zf, zg, zh, zi, zj, zk, zl, zm, zn, zo, zp, reduceCtorEq, zE, ↓reduceIte]
        refine brB (fun yc7 => ?_) (fun yc7 => ?_)
        · simp -implicitDefEqProofs only [yd3, yc4, yc6, yc7, setA, setB, za, zb, zc, zd, ze, zf, zg, zh, zi, zj, zk, zl, zm, zn, zo, zp, reduceCtorEq, zE, ↓reduceIte]
          exact j63_39_t base1 n8 true yr5 true s0 (p0 + uw s0 p0) _ (by rfl) (by rfl) (by rfl) (by rfl) (by rfl) (by rfl) (by rfl)
        · simp -implicitDefEqProofs only [Tryd.underlying3, Tryd.underlying60, ev_quo0, yd3, yc4, yc6, yc7, setA, setB, za, zb, zc, zd, ze, zf, zg, zh, zi, zj, zk, zl, zm, zn, zo, zp, reduceCtorEq, zE, ↓reduceIte]
          refine brP (fun yc9 => ?_) (fun yc9 => ?_)
          · simp -implicitDefEqProofs only [yd3, yc4, yc6, yc7, yc9, setA, setB, za, zb, zc, zd, ze, zf, zg, zh, zi, zj, zk, zl, zm, zn, zo, zp, reduceCtorEq, zE, ↓reduceIte]
            exact j63_39_t base1 n8 false yr5 (decide ((wu64 ((wu64 (9007199254740991 - (wu64 yr5))).tdiv base1)) < n8)) s0 (p0 + uw s0 p0) _ (by rfl) (by rfl) (by rfl) (by rfl) (by rfl) (by rfl) (by rfl)
          · rw [if_neg yc9]; rfl
  · have yd3 := of_decide_eq_false yc2
    simp -implicitDefEqProofs only [c63_19_e, (show c63_20 = Code.cond _ c63_21 c63_22 from rfl), c63_22_e, K63_16, yd3, setA, setB, za, zb, zc, zd, ze, zf, zg, zh, zi, zj, zk, zl, zm, zn, zo, zp, reduceCtorEq, zE, ↓reduceIte]
    exact mi (j63_45_t n8 long9 _ _ (by rfl) (by rfl))
def l63_16 (base1 n8 : Int) (long9 : Bool) (s0 : Bs) (p0 : Nat) : Option R63 := iter (fun x : (Int × Int × Bool × Bs × Nat) => s63_16 x.1 x.2.1 x.2.2.1 x.2.2.2.1 x.2.2.2.2) (base1, n8, long9, s0, p0)
theorem l63_16_t (base1 n8 : Int) (long9 : Bool) (s0 : Bs) (p0 : Nat) : bodyD (E0 mm) [.tmp 6, .tmp 7] 0 false (seqD (E0 mm) 63 0 (callW (E0 mm)) itW c63_45 (blockD 0 (itW (loopF (E0 mm) 63 0 (callW (E0 mm)) itW c63_17 [(1, .keep), (2, .keep), (8, .keep), (9, .keep), (16, .keep)]) (none, [.v (.c (.d (.sc (.int .u64 base1)))), .v (.c (.d (.sc (.func (.func 64) #[] #[])))), .v (.c (.d (.sc (.int .u64 n8)))), .v (.c (.d (.sc (.bool long9)))), .v (.c (.it 0))], [.siter (S s0) p0])))) = (l63_16 base1 n8 long9 s0 p0).map e63 :=
  it_sim (K := (K63_16 (mm := mm))) rfl (enc := en63_16) (fun x => s63_16_t x.1 x.2.1 x.2.2.1 x.2.2.2.1 x.2.2.2.2) (base1, n8, long9, s0, p0)
def m63 (s : Bs) (base : Int) : Option R63 :=
  if (s == ([] : Bs)) = true then
    some ((0 : Int), (5 : Int))
  else
    l63_16 base (0 : Int) false s 0
theorem f63_t (s : Bs) (base : Int) :
    callW (E0 mm) 63 [.c (.d (.sc (.string (S s)))), .c (.d (.sc (.int .u64 base))), .c (.d (.sc (.func (.func 64) #[] #[])))] [] = (m63 s base).map e63 := by
  rw [callW_run (body := c63_0) (res := [.tmp 6, .tmp 7]) Tryd.func63 rfl rfl (by kernel_rfl)]
  simp -implicitDefEqProofs only [m63, slots3, c63_0_e, c63_1_r, (show opsOf c63_1 = _ :: _ from rfl), c63_2_e, c63_3_e, c63_4_r, (show opsOf c63_4 = _ :: _ from rfl), (show c63_5 = Code.cond _ c63_6 c63_9 from rfl), setA, setB, za, zb, zc, zd, ze, zf, zg, zh, zi, zj, zk, zl, zm, zn, zo, zp, reduceCtorEq, zE, ↓reduceIte]
  refine brB (fun yc1 => ?_) (fun yc1 => ?_)
  · simp -implicitDefEqProofs only [c63_6_e, c63_7_r, (show opsOf c63_7 = _ :: _ from rfl), c63_8_e, yc1, setA, setB, za, zb, zc, zd, ze, zf, zg, zh, zi, zj, zk, zl, zm, zn, zo, zp, reduceCtorEq, zE, ↓reduceIte]
    all_goals rfl
  · simp -implicitDefEqProofs only [c63_9_e, c63_10_e, c63_11_r, (show opsOf c63_11 = _ :: _ from rfl), c63_12_e, c63_13_e, c63_14_r, (show opsOf c63_14 = _ :: _ from rfl), Tryd.underlying9, c63_15_e, c63_16_l, yc1, setA, setB, za, zb, zc, zd, ze, zf, zg, zh, zi, zj, zk, zl, zm, zn, zo, zp, reduceCtorEq, zE, ↓reduceIte]
    exact l63_16_t base (0 : Int) false s 0
noncomputable def c47_0 : Code := bodyOf Tryd.f47
def c47_1 := cA c47_0
def c47_2 := cB c47_0
def c47_3 := cA c47_2
def c47_4 := cB c47_2
theorem c47_0_e : c47_0 = .seq c47_1 c47_2 := rfl
theorem c47_1_r : RG (E0 mm) 47 c47_1 := rgN rfl
theorem c47_2_e : c47_2 = .seq c47_3 c47_4 := rfl
theorem c47_3_r : RG (E0 mm) 47 c47_3 := rgN rfl
theorem c47_4_e : c47_4 = .ret := rfl
abbrev R47 := (Int × Int)
def e47 : R47 → AV × Heap := fun x => (.tup [.c (.d (.sc (.int .u64 x.1))), .c (.d (.sc (.int .i64 x.2)))], [])
def m47 (s : Bs) : Option R47 :=
  (m63 s (10 : Int)).bind fun yr2 =>
    some (yr2.1, yr2.2)
theorem f47_t (s : Bs) :
    callW (E0 mm) 47 [.c (.d (.sc (.string (S s))))] [] = (m47 s).map e47 := by
  rw [callW_run (body := c47_0) (res := [.tmp 2, .tmp 3]) Tryd.func47 rfl rfl (by kernel_rfl)]
  simp -implicitDefEqProofs only [m47, slots1, c47_0_e, c47_1_r, (show opsOf c47_1 = _ :: _ from rfl), c47_2_e, c47_3_r, (show opsOf c47_3 = _ :: _ from rfl), ent63, prm63, f63_t, setA, setB, za, zb, zc, zd, ze, zf, zg, zh, zi, zj, zk, zl, zm, zn, zo, zp, reduceCtorEq, zE, ↓reduceIte]
  refine brM (fun yc1 => ?_) (fun yr2 yc1 => ?_)
  · rw [yc1]; rfl
  · simp -implicitDefEqProofs only [e63, c47_4_e, yc1, setA, setB, za, zb, zc, zd, ze, zf, zg, zh, zi, zj, zk, zl, zm, zn, zo, zp, reduceCtorEq, zE, ↓reduceIte]
    all_goals rfl
noncomputable def c38_0 : Code := bodyOf Tryd.f38
def c38_1 := cA c38_0
def c38_2 := cB c38_0
def c38_3 := cA c38_2
def c38_4 := cB c38_2
def c38_5 := cA c38_4
def c38_6 := cA c38_5
def c38_7 := cB c38_5
def c38_8 := cA c38_7
def c38_9 := cA c38_8
def c38_10 := cB c38_8
def c38_11 := cA c38_10
def c38_12 := cA c38_11
def c38_13 := cB c38_11
def c38_14 := cB c38_10
def c38_15 := cA c38_14
def c38_16 := cB c38_14
def c38_17 := cA c38_16
def c38_18 := cA c38_17
def c38_19 := cB c38_17
def c38_20 := cB c38_16
def c38_21 := cB c38_4
def c38_22 := cA c38_21
def c38_23 := cB c38_21
theorem c38_0_e : c38_0 = .seq c38_1 c38_2 := rfl
theorem c38_1_r : RG (E0 mm) 38 c38_1 := rgN rfl
theorem c38_2_e : c38_2 = .seq c38_3 c38_4 := rfl
theorem c38_3_r : RG (E0 mm) 38 c38_3 := rgN rfl
theorem c38_4_e : c38_4 = .seq c38_5 c38_21 := rfl
theorem c38_5_e : c38_5 = .seq c38_6 c38_7 := rfl
theorem c38_6_r : RG (E0 mm) 38 c38_6 := rgN rfl
theorem c38_7_e : c38_7 = .block 0 c38_8 := rfl
theorem c38_8_e : c38_8 = .seq c38_9 c38_10 := rfl
theorem c38_9_r : RG (E0 mm) 38 c38_9 := rgN rfl
theorem c38_11_e : c38_11 = .seq c38_12 c38_13 := rfl
theorem c38_12_r : RG (E0 mm) 38 c38_12 := rgN rfl
theorem c38_13_e : c38_13 = .ret := rfl
theorem c38_14_e : c38_14 = .seq c38_15 c38_16 := rfl
theorem c38_15_r : RG (E0 mm) 38 c38_15 := rgN rfl
theorem c38_17_e : c38_17 = .seq c38_18 c38_19 := rfl
theorem c38_18_r : RG (E0 mm) 38 c38_18 := rgN rfl
theorem c38_19_e : c38_19 = .ret := rfl
theorem c38_20_e : c38_20 = .skip := rfl
theorem c38_21_e : c38_21 = .seq c38_22 c38_23 := rfl
theorem c38_22_r : RG (E0 mm) 38 c38_22 := rgN rfl
theorem c38_23_e : c38_23 = .ret := rfl
abbrev R38 := (Int)
def e38 : R38 → AV × Heap := fun x => (.v (.c (.d (.sc (.int .i64 x)))), [])
def m38 (s : Bs) : Option R38 :=
  (m47 s).bind fun yr2 =>
    if (yr2.2 == 0) = true then
      some (w64 (min2 yr2.1 2147483647))
    else
      if (yr2.2 == 3) = true then
        some (2147483647 : Int)
      else
        some (0 : Int)
theorem f38_t (s : Bs) :
    callW (E0 mm) 38 [.c (.d (.sc (.string (S s))))] [] = (m38 s).map e38 := by
  rw [callW_run (body := c38_0) (res := [.tmp 2]) Tryd.func38 rfl rfl (by kernel_rfl)]
  simp -implicitDefEqProofs only [m38, slots1, c38_0_e, c38_1_r, (show opsOf c38_1 = _ :: _ from rfl), c38_2_e, c38_3_r, (show opsOf c38_3 = _ :: _ from rfl), ent47, prm47, f47_t, setA, setB, za, zb, zc, zd, ze, zf, zg, zh, zi, zj, zk, zl, zm, zn, zo, zp, reduceCtorEq, zE, ↓reduceIte]
  refine brM (fun yc1 => ?_) (fun yr2 yc1 => ?_)
  · rw [yc1]; rfl
  · simp -implicitDefEqProofs only [e47, c38_4_e, c38_5_e, c38_6_r, (show opsOf c38_6 = _ :: _ from rfl), c38_7_e, c38_8_e, c38_9_r, (show opsOf c38_9 = _ :: _ from rfl), (show c38_10 = Code.cond _ c38_11 c38_14 from rfl), yc1, setA, setB, za, zb, zc, zd, ze, zf, zg, zh, zi, zj, zk, zl, zm, zn, zo, zp, reduceCtorEq, zE, ↓reduceIte]
    refine brB (fun yc3 => ?_) (fun yc3 => ?_)
    · simp -implicitDefEqProofs only [c38_11_e, c38_12_r, (show opsOf c38_12 = _ :: _ from rfl), Tryd.underlying60, Tryd.underlying3, c38_13_e, yc1, yc3, setA, setB, za, zb, zc, zd, ze, zf, zg, zh, zi, zj, zk, zl, zm, zn, zo, zp, reduceCtorEq, zE, ↓reduceIte]
      all_goals rfl
    · simp -implicitDefEqProofs only [c38_14_e, c38_15_r, (show opsOf c38_15 = _ :: _ from rfl), (show c38_16 = Code.cond _ c38_17 c38_20 from rfl), yc1, yc3, setA, setB, za, zb, zc, zd, ze, zf, zg, zh, zi, zj, zk, zl, zm, zn, zo, zp, reduceCtorEq, zE, ↓reduceIte]
      refine brB (fun yc4 => ?_) (fun yc4 => ?_)
      · simp -implicitDefEqProofs only [c38_17_e, c38_18_r, (show opsOf c38_18 = _ :: _ from rfl), c38_19_e, yc1, yc3, yc4, setA, setB, za, zb, zc, zd, ze, zf, zg, zh, zi, zj, zk, zl, zm, zn, zo, zp, reduceCtorEq, zE, ↓reduceIte]
        all_goals rfl
      · simp -implicitDefEqProofs only [c38_20_e, c38_21_e, c38_22_r, (show opsOf c38_22 = _ :: _ from rfl), c38_23_e, yc1, yc3, yc4, setA, setB, za, zb, zc, zd, ze, zf, zg, zh, zi, zj, zk, zl, zm, zn, zo, zp, reduceCtorEq, zE, ↓reduceIte]
        all_goals rfl
noncomputable def c21_0 : Code := bodyOf Tryd.f21
def c21_1 := cA c21_0
def c21_2 := cB c21_0
def c21_3 := cA c21_2
def c21_4 := cA c21_3
def c21_5 := cB c21_3
def c21_6 := cA c21_5
def c21_7 := cB c21_5
def c21_8 := cB c21_2
def c21_9 := cA c21_8
def c21_10 := cB c21_8
def c21_11 := cA c21_10
def c21_12 := cA c21_11
def c21_13 := cB c21_11
def c21_14 := cA c21_13
def c21_15 := cA c21_14
def c21_16 := cA c21_15
def c21_17 := cA c21_16
def c21_18 := cB c21_16
def c21_19 := cA c21_18
def c21_20 := cB c21_18
def c21_21 := cB c21_15
def c21_22 := cA c21_21
def c21_23 := cA c21_22
def c21_24 := cB c21_21
def c21_25 := cB c21_10
def c21_26 := cA c21_25
def c21_27 := cB c21_25
theorem c21_0_e : c21_0 = .seq c21_1 c21_2 := rfl
theorem c21_1_r : RG (E0 mm) 21 c21_1 := rgN rfl
theorem c21_2_e : c21_2 = .seq c21_3 c21_8 := rfl
theorem c21_3_e : c21_3 = .seq c21_4 c21_5 := rfl
theorem c21_4_r : RG (E0 mm) 21 c21_4 := rgN rfl
theorem c21_6_r : RG (E0 mm) 21 c21_6 := rgN rfl
theorem c21_7_e : c21_7 = .skip := rfl
theorem c21_8_e : c21_8 = .seq c21_9 c21_10 := rfl
theorem c21_9_r : RG (E0 mm) 21 c21_9 := rgN rfl
theorem c21_10_e : c21_10 = .seq c21_11 c21_25 := rfl
theorem c21_11_e : c21_11 = .seq c21_12 c21_13 := rfl
theorem c21_12_r : RG (E0 mm) 21 c21_12 := rgN rfl
theorem c21_13_e : c21_13 = .block 0 c21_14 := rfl
theorem c21_14_l (m : Nat) (st : St) : den (E0 mm) 21 m (callW (E0 mm)) itW c21_14 none st = loopD itW (loopF (E0 mm) 21 m (callW (E0 mm)) itW c21_15 [(0, .keep), (3, .keep), (4, .keep)]) (canon m [(0, .keep), (3, .keep), (4, .keep)] st) := rfl
theorem c21_15_e : c21_15 = .seq c21_16 c21_21 := rfl
theorem c21_16_e : c21_16 = .seq c21_17 c21_18 := rfl
theorem c21_17_r : RG (E0 mm) 21 c21_17 := rgN rfl
theorem c21_19_e : c21_19 = .skip := rfl
theorem c21_20_e : c21_20 = .exit 0 := rfl
theorem c21_21_e : c21_21 = .seq c21_22 c21_24 := rfl
theorem c21_22_e : c21_22 = .block 1 c21_23 := rfl
theorem c21_23_r : RG (E0 mm) 21 c21_23 := rgN rfl
theorem c21_24_r : RG (E0 mm) 21 c21_24 := rgN rfl
theorem c21_25_e : c21_25 = .seq c21_26 c21_27 := rfl
theorem c21_26_r : RG (E0 mm) 21 c21_26 := rgN rfl
theorem c21_27_e : c21_27 = .ret := rfl
abbrev R21 := (Int × List Int)
def e21 : R21 → AV × Heap := fun x => (.v (.c (.d (.sc (.int .i64 x.1)))), [.cells (enI x.2)])
def K21_14 : Option (Ex × St) → Option (AV × Heap) := fun r => bodyD (E0 mm) [.tmp 2] 1 false (seqD (E0 mm) 21 1 (callW (E0 mm)) itW c21_25 (blockD 0 (r)))
def en21_14 : (Int × Int × List Int) → X := fun x => (none, [.v (.c (.slc 0 0 1 x.2.2.length none)), .v (.c (.d (.sc (.int .i64 x.1)))), .v (.c (.d (.sc (.int .i64 x.2.1))))], [.cells (enI x.2.2)])
def j21_25 (m3 : Int) (h0 : List Int) : Option R21 :=
  some (m3, h0)
theorem j21_25_t (m3 : Int) (h0 : List Int)  (sl : Nat → AV) (zq3 : sl 3 = .v (.c (.d (.sc (.int .i64 m3))))) :
    bodyD (E0 mm) [.tmp 2] 1 false (den (E0 mm) 21 1 (callW (E0 mm)) itW c21_25 none ⟨sl, [.cells (enI h0)]⟩) = (j21_25 m3 h0).map e21 := by
  simp -implicitDefEqProofs only [j21_25, c21_25_e, c21_26_r, (show opsOf c21_26 = _ :: _ from rfl), c21_27_e, zq3, setA, setB, za, zb, zc, zd, ze, zf, zg, zh, zi, zj, zk, zl, zm, zn, zo, zp, reduceCtorEq, zE, ↓reduceIte]
  all_goals rfl
def s21_14 (m3 i4 : Int) (h0 : List Int) : Option ((Int × Int × List Int) ⊕ R21) :=
  if (decide (i4 < (h0.length : Int))) = true then
    if 0 ≤ i4 ∧ i4 < (h0.length : Int) then
      some (.inl ((min2 m3 (h0.getD i4.toNat default)), (w64 (i4 + 1)), h0))
    else none
  else
    (j21_25 m3 h0).map .inr
theorem s21_14_t (m3 i4 : Int) (h0 : List Int) :
    stepE (K21_14 (mm := mm)) (loopF (E0 mm) 21 1 (callW (E0 mm)) itW c21_15 [(0, .keep), (3, .keep), (4, .keep)] (none, [.v (.c (.slc 0 0 1 h0.length none)), .v (.c (.d (.sc (.int .i64 m3)))), .v (.c (.d (.sc (.int .i64 i4))))], [.cells (enI h0)])) = (s21_14 m3 i4 h0).map (sm en21_14 e21) := by
  simp -implicitDefEqProofs only [s21_14, loopF_eq, c21_15_e, c21_16_e, c21_17_r, (show opsOf c21_17 = _ :: _ from rfl), Tryd.underlying45, (show c21_18 = Code.cond _ c21_19 c21_20 from rfl), setA, setB, za, zb, zc, zd, ze, zf, zg, zh, zi, zj, zk, zl, zm, zn, zo, zp, reduceCtorEq, zE, ↓reduceIte]
  refine brB (fun yc4 => ?_) (fun yc4 => ?_)
  · simp -implicitDefEqProofs only [c21_19_e, c21_21_e, c21_22_e, c21_23_r, (show opsOf c21_23 = _ :: _ from rfl), Tryd.underlying45, sz3, yc4, setA, setB, za, zb, zc, zd, ze, zf, zg, zh, zi, zj, zk, zl, zm, zn, zo, zp, reduceCtorEq, zE, ↓reduceIte]
    refine brP (fun yc5 => ?_) (fun yc5 => ?_)
    · have yd6 : i4.toNat < h0.length := by omega
      simp -implicitDefEqProofs only [sz3, ag3, enI_length, (enI_load h0 i4.toNat yd6), Tryd.underlying3, c21_24_r, (show opsOf c21_24 = _ :: _ from rfl), yc4, yc5, yd6, setA, setB, za, zb, zc, zd, ze, zf, zg, zh, zi, zj, zk, zl, zm, zn, zo, zp, reduceCtorEq, zE, ↓reduceIte]
      all_goals rfl
    · rw [if_neg yc5]; rfl
  · simp -implicitDefEqProofs only [c21_20_e, K21_14, yc4, setA, setB, za, zb, zc, zd, ze, zf, zg, zh, zi, zj, zk, zl, zm, zn, zo, zp, reduceCtorEq, zE, ↓reduceIte]
    exact mi (j21_25_t m3 h0 _ (by rfl))
def l21_14 (m3 i4 : Int) (h0 : List Int) : Option R21 := iter (fun x : (Int × Int × List Int) => s21_14 x.1 x.2.1 x.2.2) (m3, i4, h0)
theorem l21_14_t (m3 i4 : Int) (h0 : List Int) : bodyD (E0 mm) [.tmp 2] 1 false (seqD (E0 mm) 21 1 (callW (E0 mm)) itW c21_25 (blockD 0 (itW (loopF (E0 mm) 21 1 (callW (E0 mm)) itW c21_15 [(0, .keep), (3, .keep), (4, .keep)]) (none, [.v (.c (.slc 0 0 1 h0.length none)), .v (.c (.d (.sc (.int .i64 m3)))), .v (.c (.d (.sc (.int .i64 i4))))], [.cells (enI h0)])))) = (l21_14 m3 i4 h0).map e21 :=
  it_sim (K := (K21_14 (mm := mm))) rfl (enc := en21_14) (fun x => s21_14_t x.1 x.2.1 x.2.2) (m3, i4, h0)
def m21 (h0 : List Int) : Option R21 :=
  if (decide ((h0.length : Int) < 1)) = true then
    none
  else
    if (0 : Int) < (h0.length : Int) then
      l21_14 (h0.getD 0 default) (1 : Int) h0
    else none
theorem f21_t (h0 : List Int) :
    callW (E0 mm) 21 [.c (.slc 0 0 1 h0.length none)] [.cells (enI h0)] = (m21 h0).map e21 := by
  rw [callW_run (body := c21_0) (res := [.tmp 2]) Tryd.func21 rfl rfl (by kernel_rfl)]
  simp -implicitDefEqProofs only [m21, slots1, c21_0_e, c21_1_r, (show opsOf c21_1 = _ :: _ from rfl), c21_2_e, c21_3_e, c21_4_r, (show opsOf c21_4 = _ :: _ from rfl), Tryd.underlying45, (show c21_5 = Code.cond _ c21_6 c21_7 from rfl), setA, setB, za, zb, zc, zd, ze, zf, zg, zh, zi, zj, zk, zl, zm, zn, zo, zp, reduceCtorEq, zE, ↓reduceIte]
  refine brB (fun yc1 => ?_) (fun yc1 => ?_)
  · simp -implicitDefEqProofs only [c21_6_r, (runOps_dead (E := (E0 mm)) (call := callW (E0 mm)) (all := opsOf c21_6) (os := opsOf c21_6) (by kernel_rfl)), regD_none, seqD_none, blockD_none, stepE_none, loopK_none, bodyD_none, Option.map_none, yc1, setA, setB, za, zb, zc, zd, ze, zf, zg, zh, zi, zj, zk, zl, zm, zn, zo, zp, reduceCtorEq, zE, ↓reduceIte]
  · simp -implicitDefEqProofs only [c21_7_e, c21_8_e, c21_9_r, (show opsOf c21_9 = _ :: _ from rfl), Tryd.underlying45, sz3, yc1, setA, setB, za, zb, zc, zd, ze, zf, zg, zh, zi, zj, zk, zl, zm, zn, zo, zp, reduceCtorEq, zE, ↓reduceIte]
    refine brP (fun yc2 => ?_) (fun yc2 => ?_)
    · have yd3 : 0 < h0.length := by omega
      simp -implicitDefEqProofs only [sz3, ag3, enI_length, (enI_load0 h0 0 yd3), c21_10_e, c21_11_e, c21_12_r, (show opsOf c21_12 = _ :: _ from rfl), c21_13_e, c21_14_l, yc1, yc2, yd3, setA, setB, za, zb, zc, zd, ze, zf, zg, zh, zi, zj, zk, zl, zm, zn, zo, zp, reduceCtorEq, zE, ↓reduceIte]
      exact l21_14_t (h0.getD 0 default) (1 : Int) h0
    · rw [if_neg yc2]; rfl
noncomputable def c20_0 : Code := bodyOf Tryd.f20
def c20_1 := cA c20_0
def c20_2 := cB c20_0
def c20_3 := cA c20_2
def c20_4 := cB c20_2
def c20_5 := cA c20_4
def c20_6 := cA c20_5
def c20_7 := cB c20_5
def c20_8 := cA c20_7
def c20_9 := cA c20_8
def c20_10 := cA c20_9
def c20_11 := cB c20_9
def c20_12 := cA c20_11
def c20_13 := cA c20_12
def c20_14 := cB c20_12
def c20_15 := cB c20_11
def c20_16 := cA c20_15
def c20_17 := cA c20_16
def c20_18 := cA c20_17
def c20_19 := cB c20_17
def c20_20 := cB c20_15
def c20_21 := cB c20_4
def c20_22 := cA c20_21
def c20_23 := cA c20_22
def c20_24 := cB c20_22
def c20_25 := cA c20_24
def c20_26 := cA c20_25
def c20_27 := cB c20_25
def c20_28 := cB c20_24
def c20_29 := cB c20_21
def c20_30 := cA c20_29
def c20_31 := cB c20_29
theorem c20_0_e : c20_0 = .seq c20_1 c20_2 := rfl
theorem c20_1_r : RG (E0 mm) 20 c20_1 := rgN rfl
theorem c20_2_e : c20_2 = .seq c20_3 c20_4 := rfl
theorem c20_3_r : RG (E0 mm) 20 c20_3 := rgN rfl
theorem c20_4_e : c20_4 = .seq c20_5 c20_21 := rfl
theorem c20_5_e : c20_5 = .seq c20_6 c20_7 := rfl
theorem c20_6_r : RG (E0 mm) 20 c20_6 := rgN rfl
theorem c20_7_e : c20_7 = .block 0 c20_8 := rfl
theorem c20_8_l (m : Nat) (st : St) : den (E0 mm) 20 m (callW (E0 mm)) itW c20_8 none st = loopD itW (loopF (E0 mm) 20 m (callW (E0 mm)) itW c20_9 [(1, .keep), (5, .keep), (8, .keep), (9, .keep), (10, .keep)]) (canon m [(1, .keep), (5, .keep), (8, .keep), (9, .keep), (10, .keep)] st) := rfl
theorem c20_9_e : c20_9 = .seq c20_10 c20_11 := rfl
theorem c20_10_r : RG (E0 mm) 20 c20_10 := rgN rfl
theorem c20_11_e : c20_11 = .seq c20_12 c20_15 := rfl
theorem c20_13_e : c20_13 = .skip := rfl
theorem c20_14_e : c20_14 = .exit 0 := rfl
theorem c20_15_e : c20_15 = .seq c20_16 c20_20 := rfl
theorem c20_16_e : c20_16 = .block 1 c20_17 := rfl
theorem c20_17_e : c20_17 = .seq c20_18 c20_19 := rfl
theorem c20_18_r : RG (E0 mm) 20 c20_18 := rgN rfl
theorem c20_19_r : RG (E0 mm) 20 c20_19 := rgN rfl
theorem c20_20_r : RG (E0 mm) 20 c20_20 := rgN rfl
theorem c20_21_e : c20_21 = .seq c20_22 c20_29 := rfl
theorem c20_22_e : c20_22 = .seq c20_23 c20_24 := rfl
theorem c20_23_r : RG (E0 mm) 20 c20_23 := rgN rfl
theorem c20_25_e : c20_25 = .seq c20_26 c20_27 := rfl
theorem c20_26_r : RG (E0 mm) 20 c20_26 := rgN rfl
theorem c20_27_e : c20_27 = .ret := rfl
theorem c20_28_e : c20_28 = .skip := rfl
theorem c20_29_e : c20_29 = .seq c20_30 c20_31 := rfl
theorem c20_30_r : RG (E0 mm) 20 c20_30 := rgN rfl
theorem c20_31_e : c20_31 = .ret := rfl
abbrev R20 := (Int)
def e20 : R20 → AV × Heap := fun x => (.v (.c (.d (.sc (.int .i64 x)))), [])
def K20_8 : Option (Ex × St) → Option (AV × Heap) := fun r => bodyD (E0 mm) [.tmp 4] 0 false (seqD (E0 mm) 20 0 (callW (E0 mm)) itW c20_21 (blockD 0 (r)))
def en20_8 : ((Bool × List Bs × Int × Int) ⊕ (Bool × List Bs × Int × Int × List Int)) → X := fun x => match x with
  | (.inl x) => (none, [.v (.c (.d (.sc (.func (.func 21) #[] #[])))), .v (.c (.d (.lst true []))), .v (.c (.d (.lst x.1 (enL enS x.2.1)))), .v (.c (.d (.sc (.int .i64 x.2.2.1)))), .v (.c (.d (.sc (.int .i64 x.2.2.2))))], [])
  | (.inr x) => (none, [.v (.c (.d (.sc (.func (.func 21) #[] #[])))), .v (.c (.slc 0 0 1 x.2.2.2.2.length none)), .v (.c (.d (.lst x.1 (enL enS x.2.1)))), .v (.c (.d (.sc (.int .i64 x.2.2.1)))), .v (.c (.d (.sc (.int .i64 x.2.2.2.1))))], [.cells (enI x.2.2.2.2)])
def j20_20 (t8_0 : Bool) (t8_1 : List Bs) (t9 t10 : Int) (h1 : List Int) : Option (((Bool × List Bs × Int × Int) ⊕ (Bool × List Bs × Int × Int × List Int)) ⊕ R20) :=
  some (.inl (.inr (t8_0, t8_1, t9, (w64 (t10 + 1)), h1)))
theorem j20_20_t (t8_0 : Bool) (t8_1 : List Bs) (t9 t10 : Int) (h1 : List Int) (g0 : Ob) (sl : Nat → AV) (zq1 : sl 1 = .v (.c (.d (.sc (.func (.func 21) #[] #[]))))) (zq5 : sl 5 = .v (.c (.slc 1 0 1 h1.length none))) (zq8 : sl 8 = .v (.c (.d (.lst t8_0 (enL enS t8_1))))) (zq9 : sl 9 = .v (.c (.d (.sc (.int .i64 t9))))) (zq10 : sl 10 = .v (.c (.d (.sc (.int .i64 t10))))) :
    stepE (K20_8 (mm := mm)) (loopK 0 [(1, .keep), (5, .keep), (8, .keep), (9, .keep), (10, .keep)] (den (E0 mm) 20 0 (callW (E0 mm)) itW c20_20 none ⟨sl, [g0, .cells (enI h1)]⟩)) = (j20_20 t8_0 t8_1 t9 t10 h1).map (sm en20_8 e20) := by
  simp -implicitDefEqProofs only [j20_20, c20_20_r, (show opsOf c20_20 = _ :: _ from rfl), zq1, zq5, zq8, zq9, zq10, setA, setB, za, zb, zc, zd, ze, zf, zg, zh, zi, zj, zk, zl, zm, zn, zo, zp, reduceCtorEq, zE, ↓reduceIte]
  all_goals rfl
def j20_15 (t8_0 : Bool) (t8_1 : List Bs) (t9 t10 : Int) : Option (((Bool × List Bs × Int × Int) ⊕ (Bool × List Bs × Int × Int × List Int)) ⊕ R20) :=
  if 0 ≤ t10 ∧ t10 < (t8_1.length : Int) then
    (m38 (t8_1.getD t10.toNat default)).bind fun yr5 =>
      j20_20 t8_0 t8_1 t9 t10 ([yr5] : List Int)
  else none
theorem j20_15_t (t8_0 : Bool) (t8_1 : List Bs) (t9 t10 : Int)  (sl : Nat → AV) (zq1 : sl 1 = .v (.c (.d (.sc (.func (.func 21) #[] #[]))))) (zq5 : sl 5 = .v (.c (.d (.lst true [])))) (zq8 : sl 8 = .v (.c (.d (.lst t8_0 (enL enS t8_1))))) (zq9 : sl 9 = .v (.c (.d (.sc (.int .i64 t9))))) (zq10 : sl 10 = .v (.c (.d (.sc (.int .i64 t10))))) :
    stepE (K20_8 (mm := mm)) (loopK 0 [(1, .keep), (5, .keep), (8, .keep), (9, .keep), (10, .keep)] (den (E0 mm) 20 0 (callW (E0 mm)) itW c20_15 none ⟨sl, []⟩)) = (j20_15 t8_0 t8_1 t9 t10).map (sm en20_8 e20) := by
  simp -implicitDefEqProofs only [j20_15, c20_15_e, c20_16_e, c20_17_e, c20_18_r, (show opsOf c20_18 = _ :: _ from rfl), Tryd.underlying30, sz9, enS_a, zq1, zq5, zq8, zq9, zq10, setA, setB, za, zb, zc, zd, ze, zf, zg, zh, zi, zj, zk, zl, zm, zn, zo, zp, reduceCtorEq, zE, ↓reduceIte]
  refine brP (fun yc2 => ?_) (fun yc2 => ?_)
  · have yd3 : t10.toNat < t8_1.length := by omega
    simp -implicitDefEqProofs only [(enL_get enS t8_1 t10.toNat yd3), enS_e, sz9, ag9, c20_19_r, (show opsOf c20_19 = _ :: _ from rfl), ent38, prm38, f38_t, zq1, zq5, zq8, zq9, zq10, yc2, yd3, setA, setB, za, zb, zc, zd, ze, zf, zg, zh, zi, zj, zk, zl, zm, zn, zo, zp, reduceCtorEq, zE, ↓reduceIte]
    refine brM (fun yc4 => ?_) (fun yr5 yc4 => ?_)
    · rw [yc4]; rfl
    · simp -implicitDefEqProofs only [e38, Tryd.underlying45, sz3, zc3, hd33, nv34, rw35, nh36, enI_length, enI1_src, ah45hnil, zq1, zq5, zq8, zq9, zq10, yc2, yd3, yc4, setA, setB, za, zb, zc, zd, ze, zf, zg, zh, zi, zj, zk, zl, zm, zn, zo, zp, reduceCtorEq, zE, ↓reduceIte]
      exact j20_20_t t8_0 t8_1 t9 t10 ([yr5] : List Int) _ _ (by exact zq1) (by rfl) (by exact zq8) (by exact zq9) (by exact zq10)
  · rw [if_neg yc2]; rfl
def j20_21  : Option R20 :=
  some (-1 : Int)
theorem j20_21_t   (sl : Nat → AV) (zq1 : sl 1 = .v (.c (.d (.sc (.func (.func 21) #[] #[]))))) (zq5 : sl 5 = .v (.c (.d (.lst true [])))) :
    bodyD (E0 mm) [.tmp 4] 0 false (den (E0 mm) 20 0 (callW (E0 mm)) itW c20_21 none ⟨sl, []⟩) = (j20_21).map e20 := by
  simp -implicitDefEqProofs only [j20_21, c20_21_e, c20_22_e, c20_23_r, (show opsOf c20_23 = _ :: _ from rfl), Tryd.underlying45, (show c20_24 = Code.cond _ c20_25 c20_28 from rfl), c20_25_e, c20_26_r, (show opsOf c20_26 = _ :: _ from rfl), c20_27_e, zq1, zq5, setA, setB, za, zb, zc, zd, ze, zf, zg, zh, zi, zj, zk, zl, zm, zn, zo, zp, reduceCtorEq, zE, ↓reduceIte]
  all_goals rfl
def s20_8x0 (t8_0 : Bool) (t8_1 : List Bs) (t9 t10 : Int) : Option (((Bool × List Bs × Int × Int) ⊕ (Bool × List Bs × Int × Int × List Int)) ⊕ R20) :=
  if (decide (t10 < t9)) = true then
    j20_15 t8_0 t8_1 t9 t10
  else
    (j20_21).map .inr
theorem s20_8x0_t (t8_0 : Bool) (t8_1 : List Bs) (t9 t10 : Int) :
    stepE (K20_8 (mm := mm)) (loopF (E0 mm) 20 0 (callW (E0 mm)) itW c20_9 [(1, .keep), (5, .keep), (8, .keep), (9, .keep), (10, .keep)] (none, [.v (.c (.d (.sc (.func (.func 21) #[] #[])))), .v (.c (.d (.lst true []))), .v (.c (.d (.lst t8_0 (enL enS t8_1)))), .v (.c (.d (.sc (.int .i64 t9)))), .v (.c (.d (.sc (.int .i64 t10))))], [])) = (s20_8x0 t8_0 t8_1 t9 t10).map (sm en20_8 e20) := by
  simp -implicitDefEqProofs only [s20_8x0, loopF_eq, c20_9_e, c20_10_r, (show opsOf c20_10 = _ :: _ from rfl), c20_11_e, (show c20_12 = Code.cond _ c20_13 c20_14 from rfl), setA, setB, za, zb, zc, zd, ze, zf, zg, zh, zi, zj, zk, zl, zm, zn, zo, zp, reduceCtorEq, zE, ↓reduceIte]
  refine brB (fun yc1 => ?_) (fun yc1 => ?_)
  · simp -implicitDefEqProofs only [c20_13_e, yc1, setA, setB, za, zb, zc, zd, ze, zf, zg, zh, zi, zj, zk, zl, zm, zn, zo, zp, reduceCtorEq, zE, ↓reduceIte]
    exact j20_15_t t8_0 t8_1 t9 t10 _ (by rfl) (by rfl) (by rfl) (by rfl) (by rfl)
  · simp -implicitDefEqProofs only [c20_14_e, K20_8, yc1, setA, setB, za, zb, zc, zd, ze, zf, zg, zh, zi, zj, zk, zl, zm, zn, zo, zp, reduceCtorEq, zE, ↓reduceIte]
    exact mi (j20_21_t _ (by rfl) (by rfl))
def j20_20v1 (t8_0 : Bool) (t8_1 : List Bs) (t9 t10 : Int) (h2 : List Int) : Option (((Bool × List Bs × Int × Int) ⊕ (Bool × List Bs × Int × Int × List Int)) ⊕ R20) :=
  some (.inl (.inr (t8_0, t8_1, t9, (w64 (t10 + 1)), h2)))
theorem j20_20v1_t (t8_0 : Bool) (t8_1 : List Bs) (t9 t10 : Int) (h2 : List Int) (g0 g1 : Ob) (sl : Nat → AV) (zq1 : sl 1 = .v (.c (.d (.sc (.func (.func 21) #[] #[]))))) (zq5 : sl 5 = .v (.c (.slc 2 0 1 h2.length none))) (zq8 : sl 8 = .v (.c (.d (.lst t8_0 (enL enS t8_1))))) (zq9 : sl 9 = .v (.c (.d (.sc (.int .i64 t9))))) (zq10 : sl 10 = .v (.c (.d (.sc (.int .i64 t10))))) :
    stepE (K20_8 (mm := mm)) (loopK 0 [(1, .keep), (5, .keep), (8, .keep), (9, .keep), (10, .keep)] (den (E0 mm) 20 0 (callW (E0 mm)) itW c20_20 none ⟨sl, [g0, g1, .cells (enI h2)]⟩)) = (j20_20v1 t8_0 t8_1 t9 t10 h2).map (sm en20_8 e20) := by
  simp -implicitDefEqProofs only [j20_20v1, c20_20_r, (show opsOf c20_20 = _ :: _ from rfl), zq1, zq5, zq8, zq9, zq10, setA, setB, za, zb, zc, zd, ze, zf, zg, zh, zi, zj, zk, zl, zm, zn, zo, zp, reduceCtorEq, zE, ↓reduceIte]
  all_goals rfl
def j20_15v1 (t8_0 : Bool) (t8_1 : List Bs) (t9 t10 : Int) (h0 : List Int) : Option (((Bool × List Bs × Int × Int) ⊕ (Bool × List Bs × Int × Int × List Int)) ⊕ R20) :=
  if 0 ≤ t10 ∧ t10 < (t8_1.length : Int) then
    (m38 (t8_1.getD t10.toNat default)).bind fun yr10 =>
      if (h0.length + 1) * 8 ≤ 140737488355328 then
        j20_20v1 t8_0 t8_1 t9 t10 (h0 ++ ([yr10] : List Int))
      else none
  else none
theorem j20_15v1_t (t8_0 : Bool) (t8_1 : List Bs) (t9 t10 : Int) (h0 : List Int)  (sl : Nat → AV) (zq1 : sl 1 = .v (.c (.d (.sc (.func (.func 21) #[] #[]))))) (zq5 : sl 5 = .v (.c (.slc 0 0 1 h0.length none))) (zq8 : sl 8 = .v (.c (.d (.lst t8_0 (enL enS t8_1))))) (zq9 : sl 9 = .v (.c (.d (.sc (.int .i64 t9))))) (zq10 : sl 10 = .v (.c (.d (.sc (.int .i64 t10))))) :
    stepE (K20_8 (mm := mm)) (loopK 0 [(1, .keep), (5, .keep), (8, .keep), (9, .keep), (10, .keep)] (den (E0 mm) 20 0 (callW (E0 mm)) itW c20_15 none ⟨sl, [.cells (enI h0)]⟩)) = (j20_15v1 t8_0 t8_1 t9 t10 h0).map (sm en20_8 e20) := by
  simp -implicitDefEqProofs only [j20_15v1, c20_15_e, c20_16_e, c20_17_e, c20_18_r, (show opsOf c20_18 = _ :: _ from rfl), Tryd.underlying30, sz9, enS_a, zq1, zq5, zq8, zq9, zq10, setA, setB, za, zb, zc, zd, ze, zf, zg, zh, zi, zj, zk, zl, zm, zn, zo, zp, reduceCtorEq, zE, ↓reduceIte]
  refine brP (fun yc7 => ?_) (fun yc7 => ?_)
  · have yd8 : t10.toNat < t8_1.length := by omega
    simp -implicitDefEqProofs only [(enL_get enS t8_1 t10.toNat yd8), enS_e, sz9, ag9, c20_19_r, (show opsOf c20_19 = _ :: _ from rfl), ent38, prm38, f38_t, zq1, zq5, zq8, zq9, zq10, yc7, yd8, setA, setB, za, zb, zc, zd, ze, zf, zg, zh, zi, zj, zk, zl, zm, zn, zo, zp, reduceCtorEq, zE, ↓reduceIte]
    refine brM (fun yc9 => ?_) (fun yr10 yc9 => ?_)
    · rw [yc9]; rfl
    · simp -implicitDefEqProofs only [e38, Tryd.underlying45, sz3, zc3, hd33, nv34, rw35, nh36, enI_length, enI1_src, ah45hslc, zq1, zq5, zq8, zq9, zq10, yc7, yd8, yc9, setA, setB, za, zb, zc, zd, ze, zf, zg, zh, zi, zj, zk, zl, zm, zn, zo, zp, reduceCtorEq, zE, ↓reduceIte]
      refine brP (fun yc11 => ?_) (fun yc11 => ?_)
      · simp -implicitDefEqProofs only [zq1, zq5, zq8, zq9, zq10, yc7, yd8, yc9, yc11, setA, setB, za, zb, zc, zd, ze, zf, zg, zh, zi, zj, zk, zl, zm, zn, zo, zp, reduceCtorEq, zE, ↓reduceIte]
        exact j20_20v1_t t8_0 t8_1 t9 t10 (h0 ++ ([yr10] : List Int)) _ _ _ (by exact zq1) (by rfl) (by exact zq8) (by exact zq9) (by exact zq10)
      · rw [if_neg yc11]; rfl
  · rw [if_neg yc7]; rfl
def j20_21v1 (h0 : List Int) : Option R20 :=
  if ((h0.length : Int) == 0) = true then
    some (-1 : Int)
  else
    (m21 h0).bind fun yr14 =>
      some yr14.1
theorem j20_21v1_t (h0 : List Int)  (sl : Nat → AV) (zq1 : sl 1 = .v (.c (.d (.sc (.func (.func 21) #[] #[]))))) (zq5 : sl 5 = .v (.c (.slc 0 0 1 h0.length none))) :
    bodyD (E0 mm) [.tmp 4] 0 false (den (E0 mm) 20 0 (callW (E0 mm)) itW c20_21 none ⟨sl, [.cells (enI h0)]⟩) = (j20_21v1 h0).map e20 := by
  simp -implicitDefEqProofs only [j20_21v1, c20_21_e, c20_22_e, c20_23_r, (show opsOf c20_23 = _ :: _ from rfl), Tryd.underlying45, (show c20_24 = Code.cond _ c20_25 c20_28 from rfl), zq1, zq5, setA, setB, za, zb, zc, zd, ze, zf, zg, zh, zi, zj, zk, zl, zm, zn, zo, zp, reduceCtorEq, zE, ↓reduceIte]
  refine brB (fun yc12 => ?_) (fun yc12 => ?_)
  · simp -implicitDefEqProofs only [c20_25_e, c20_26_r, (show opsOf c20_26 = _ :: _ from rfl), c20_27_e, zq1, zq5, yc12, setA, setB, za, zb, zc, zd, ze, zf, zg, zh, zi, zj, zk, zl, zm, zn, zo, zp, reduceCtorEq, zE, ↓reduceIte]
    all_goals rfl
  · simp -implicitDefEqProofs only [c20_28_e, c20_29_e, c20_30_r, (show opsOf c20_30 = _ :: _ from rfl), ent21, prm21, f21_t, zq1, zq5, yc12, setA, setB, za, zb, zc, zd, ze, zf, zg, zh, zi, zj, zk, zl, zm, zn, zo, zp, reduceCtorEq, zE, ↓reduceIte]
    refine brM (fun yc13 => ?_) (fun yr14 yc13 => ?_)
    · rw [yc13]; rfl
    · simp -implicitDefEqProofs only [e21, c20_31_e, zq1, zq5, yc12, yc13, setA, setB, za, zb, zc, zd, ze, zf, zg, zh, zi, zj, zk, zl, zm, zn, zo, zp, reduceCtorEq, zE, ↓reduceIte]
      all_goals rfl
def s20_8x1 (t8_0 : Bool) (t8_1 : List Bs) (t9 t10 : Int) (h0 : List Int) : Option (((Bool × List Bs × Int × Int) ⊕ (Bool × List Bs × Int × Int × List Int)) ⊕ R20) :=
  if (decide (t10 < t9)) = true then
    j20_15v1 t8_0 t8_1 t9 t10 h0
  else
    (j20_21v1 h0).map .inr
theorem s20_8x1_t (t8_0 : Bool) (t8_1 : List Bs) (t9 t10 : Int) (h0 : List Int) :
    stepE (K20_8 (mm := mm)) (loopF (E0 mm) 20 0 (callW (E0 mm)) itW c20_9 [(1, .keep), (5, .keep), (8, .keep), (9, .keep), (10, .keep)] (none, [.v (.c (.d (.sc (.func (.func 21) #[] #[])))), .v (.c (.slc 0 0 1 h0.length none)), .v (.c (.d (.lst t8_0 (enL enS t8_1)))), .v (.c (.d (.sc (.int .i64 t9)))), .v (.c (.d (.sc (.int .i64 t10))))], [.cells (enI h0)])) = (s20_8x1 t8_0 t8_1 t9 t10 h0).map (sm en20_8 e20) := by
  simp -implicitDefEqProofs only [s20_8x1, loopF_eq, c20_9_e, c20_10_r, (show opsOf c20_10 = _ :: _ from rfl), c20_11_e, (show c20_12 = Code.cond _ c20_13 c20_14 from rfl), setA, setB, za, zb, zc, zd, ze, zf, zg, zh, zi, zj, zk, zl, zm, zn, zo, zp, reduceCtorEq, zE, ↓reduceIte]
  refine brB (fun yc6 => ?_) (fun yc6 => ?_)
  · simp -implicitDefEqProofs only [c20_13_e, yc6, setA, setB, za, zb, zc, zd, ze, zf, zg, zh, zi, zj, zk, zl, zm, zn, zo, zp, reduceCtorEq, zE, ↓reduceIte]
    exact j20_15v1_t t8_0 t8_1 t9 t10 h0 _ (by rfl) (by rfl) (by rfl) (by rfl) (by rfl)
  · simp -implicitDefEqProofs only [c20_14_e, K20_8, yc6, setA, setB, za, zb, zc, zd, ze, zf, zg, zh, zi, zj, zk, zl, zm, zn, zo, zp, reduceCtorEq, zE, ↓reduceIte]
    exact mi (j20_21v1_t h0 _ (by rfl) (by rfl))
def s20_8 : ((Bool × List Bs × Int × Int) ⊕ (Bool × List Bs × Int × Int × List Int)) → Option (((Bool × List Bs × Int × Int) ⊕ (Bool × List Bs × Int × Int × List Int)) ⊕ R20) := fun x => match x with
  | (.inl x) => s20_8x0 x.1 x.2.1 x.2.2.1 x.2.2.2
  | (.inr x) => s20_8x1 x.1 x.2.1 x.2.2.1 x.2.2.2.1 x.2.2.2.2
def l20_8 (t8_0 : Bool) (t8_1 : List Bs) (t9 t10 : Int) : Option R20 := iter s20_8 (.inl (t8_0, t8_1, t9, t10))
theorem l20_8_t (t8_0 : Bool) (t8_1 : List Bs) (t9 t10 : Int) : bodyD (E0 mm) [.tmp 4] 0 false (seqD (E0 mm) 20 0 (callW (E0 mm)) itW c20_21 (blockD 0 (itW (loopF (E0 mm) 20 0 (callW (E0 mm)) itW c20_9 [(1, .keep), (5, .keep), (8, .keep), (9, .keep), (10, .keep)]) (none, [.v (.c (.d (.sc (.func (.func 21) #[] #[])))), .v (.c (.d (.lst true []))), .v (.c (.d (.lst t8_0 (enL enS t8_1)))), .v (.c (.d (.sc (.int .i64 t9)))), .v (.c (.d (.sc (.int .i64 t10))))], [])))) = (l20_8 t8_0 t8_1 t9 t10).map e20 :=
  it_sim (K := (K20_8 (mm := mm))) rfl (enc := en20_8) (fun x => match x with
  | (.inl x) => s20_8x0_t x.1 x.2.1 x.2.2.1 x.2.2.2
  | (.inr x) => s20_8x1_t x.1 x.2.1 x.2.2.1 x.2.2.2.1 x.2.2.2.2) (.inl (t8_0, t8_1, t9, t10))
def m20 (values_0 : Bool) (values_1 : List Bs) : Option R20 :=
  l20_8 values_0 values_1 (values_1.length : Int) (0 : Int)
theorem f20_t (values_0 : Bool) (values_1 : List Bs) :
    callW (E0 mm) 20 [.c (.d (.lst values_0 (enL enS values_1))), .c (.d (.sc (.func (.func 21) #[] #[])))] [] = (m20 values_0 values_1).map e20 := by
  rw [callW_run (body := c20_0) (res := [.tmp 4]) Tryd.func20 rfl rfl (by kernel_rfl)]
  simp -implicitDefEqProofs only [m20, slots2, c20_0_e, c20_1_r, (show opsOf c20_1 = _ :: _ from rfl), c20_2_e, c20_3_r, (show opsOf c20_3 = _ :: _ from rfl), c20_4_e, c20_5_e, c20_6_r, (show opsOf c20_6 = _ :: _ from rfl), Tryd.underlying30, c20_7_e, c20_8_l, setA, setB, za, zb, zc, zd, ze, zf, zg, zh, zi, zj, zk, zl, zm, zn, zo, zp, reduceCtorEq, zE, ↓reduceIte]
  exact l20_8_t values_0 values_1 (values_1.length : Int) (0 : Int)
noncomputable def c22_0 : Code := bodyOf Tryd.f22
def c22_1 := cA c22_0
def c22_2 := cB c22_0
def c22_3 := cA c22_2
def c22_4 := cA c22_3
def c22_5 := cB c22_3
def c22_6 := cA c22_5
def c22_7 := cB c22_5
def c22_8 := cB c22_2
def c22_9 := cA c22_8
def c22_10 := cB c22_8
def c22_11 := cA c22_10
def c22_12 := cA c22_11
def c22_13 := cB c22_11
def c22_14 := cA c22_13
def c22_15 := cA c22_14
def c22_16 := cA c22_15
def c22_17 := cA c22_16
def c22_18 := cB c22_16
def c22_19 := cA c22_18
def c22_20 := cB c22_18
def c22_21 := cB c22_15
def c22_22 := cA c22_21
def c22_23 := cA c22_22
def c22_24 := cB c22_21
def c22_25 := cB c22_10
def c22_26 := cA c22_25
def c22_27 := cB c22_25
theorem c22_0_e : c22_0 = .seq c22_1 c22_2 := rfl
theorem c22_1_r : RG (E0 mm) 22 c22_1 := rgN rfl
theorem c22_2_e : c22_2 = .seq c22_3 c22_8 := rfl
theorem c22_3_e : c22_3 = .seq c22_4 c22_5 := rfl
theorem c22_4_r : RG (E0 mm) 22 c22_4 := rgN rfl
theorem c22_6_r : RG (E0 mm) 22 c22_6 := rgN rfl
theorem c22_7_e : c22_7 = .skip := rfl
theorem c22_8_e : c22_8 = .seq c22_9 c22_10 := rfl
theorem c22_9_r : RG (E0 mm) 22 c22_9 := rgN rfl
theorem c22_10_e : c22_10 = .seq c22_11 c22_25 := rfl
theorem c22_11_e : c22_11 = .seq c22_12 c22_13 := rfl
theorem c22_12_r : RG (E0 mm) 22 c22_12 := rgN rfl
theorem c22_13_e : c22_13 = .block 0 c22_14 := rfl
theorem c22_14_l (m : Nat) (st : St) : den (E0 mm) 22 m (callW (E0 mm)) itW c22_14 none st = loopD itW (loopF (E0 mm) 22 m (callW (E0 mm)) itW c22_15 [(0, .keep), (3, .keep), (4, .keep)]) (canon m [(0, .keep), (3, .keep), (4, .keep)] st) := rfl
theorem c22_15_e : c22_15 = .seq c22_16 c22_21 := rfl
theorem c22_16_e : c22_16 = .seq c22_17 c22_18 := rfl
theorem c22_17_r : RG (E0 mm) 22 c22_17 := rgN rfl
theorem c22_19_e : c22_19 = .skip := rfl
theorem c22_20_e : c22_20 = .exit 0 := rfl
theorem c22_21_e : c22_21 = .seq c22_22 c22_24 := rfl
theorem c22_22_e : c22_22 = .block 1 c22_23 := rfl
theorem c22_23_r : RG (E0 mm) 22 c22_23 := rgN rfl
theorem c22_24_r : RG (E0 mm) 22 c22_24 := rgN rfl
theorem c22_25_e : c22_25 = .seq c22_26 c22_27 := rfl
theorem c22_26_r : RG (E0 mm) 22 c22_26 := rgN rfl
theorem c22_27_e : c22_27 = .ret := rfl
abbrev R22 := (Int × List Int)
def e22 : R22 → AV × Heap := fun x => (.v (.c (.d (.sc (.int .i64 x.1)))), [.cells (enI x.2)])
def K22_14 : Option (Ex × St) → Option (AV × Heap) := fun r => bodyD (E0 mm) [.tmp 2] 1 false (seqD (E0 mm) 22 1 (callW (E0 mm)) itW c22_25 (blockD 0 (r)))
def en22_14 : (Int × Int × List Int) → X := fun x => (none, [.v (.c (.slc 0 0 1 x.2.2.length none)), .v (.c (.d (.sc (.int .i64 x.1)))), .v (.c (.d (.sc (.int .i64 x.2.1))))], [.cells (enI x.2.2)])
def j22_25 (m3 : Int) (h0 : List Int) : Option R22 :=
  some (m3, h0)
theorem j22_25_t (m3 : Int) (h0 : List Int)  (sl : Nat → AV) (zq3 : sl 3 = .v (.c (.d (.sc (.int .i64 m3))))) :
    bodyD (E0 mm) [.tmp 2] 1 false (den (E0 mm) 22 1 (callW (E0 mm)) itW c22_25 none ⟨sl, [.cells (enI h0)]⟩) = (j22_25 m3 h0).map e22 := by
  simp -implicitDefEqProofs only [j22_25, c22_25_e, c22_26_r, (show opsOf c22_26 = _ :: _ from rfl), c22_27_e, zq3, setA, setB, za, zb, zc, zd, ze, zf, zg, zh, zi, zj, zk, zl, zm, zn, zo, zp, reduceCtorEq, zE, ↓reduceIte]
  all_goals rfl
def s22_14 (m3 i4 : Int) (h0 : List Int) : Option ((Int × Int × List Int) ⊕ R22) :=
  if (decide (i4 < (h0.length : Int))) = true then
    if 0 ≤ i4 ∧ i4 < (h0.length : Int) then
      some (.inl ((max2 m3 (h0.getD i4.toNat default)), (w64 (i4 + 1)), h0))
    else none
  else
    (j22_25 m3 h0).map .inr
theorem s22_14_t (m3 i4 : Int) (h0 : List Int) :
    stepE (K22_14 (mm := mm)) (loopF (E0 mm) 22 1 (callW (E0 mm)) itW c22_15 [(0, .keep), (3, .keep), (4, .keep)] (none, [.v (.c (.slc 0 0 1 h0.length none)), .v (.c (.d (.sc (.int .i64 m3)))), .v (.c (.d (.sc (.int .i64 i4))))], [.cells (enI h0)])) = (s22_14 m3 i4 h0).map (sm en22_14 e22) := by
  simp -implicitDefEqProofs only [s22_14, loopF_eq, c22_15_e, c22_16_e, c22_17_r, (show opsOf c22_17 = _ :: _ from rfl), Tryd.underlying45, (show c22_18 = Code.cond _ c22_19 c22_20 from rfl), setA, setB, za, zb, zc, zd, ze, zf, zg, zh, zi, zj, zk, zl, zm, zn, zo, zp, reduceCtorEq, zE, ↓reduceIte]
  refine brB (fun yc4 => ?_) (fun yc4 => ?_)
  · simp -implicitDefEqProofs only [c22_19_e, c22_21_e, c22_22_e, c22_23_r, (show opsOf c22_23 = _ :: _ from rfl), Tryd.underlying45, sz3, yc4, setA, setB, za, zb, zc, zd, ze, zf, zg, zh, zi, zj, zk, zl, zm, zn, zo, zp, reduceCtorEq, zE, ↓reduceIte]
    refine brP (fun yc5 => ?_) (fun yc5 => ?_)
    · have yd6 : i4.toNat < h0.length := by omega
      simp -implicitDefEqProofs only [sz3, ag3, enI_length, (enI_load h0 i4.toNat yd6), Tryd.underlying3, c22_24_r, (show opsOf c22_24 = _ :: _ from rfl), yc4, yc5, yd6, setA, setB, za, zb, zc, zd, ze, zf, zg, zh, zi, zj, zk, zl, zm, zn, zo, zp, reduceCtorEq, zE, ↓reduceIte]
      all_goals rfl
    · rw [if_neg yc5]; rfl
  · simp -implicitDefEqProofs only [c22_20_e, K22_14, yc4, setA, setB, za, zb, zc, zd, ze, zf, zg, zh, zi, zj, zk, zl, zm, zn, zo, zp, reduceCtorEq, zE, ↓reduceIte]
    exact mi (j22_25_t m3 h0 _ (by rfl))
def l22_14 (m3 i4 : Int) (h0 : List Int) : Option R22 := iter (fun x : (Int × Int × List Int) => s22_14 x.1 x.2.1 x.2.2) (m3, i4, h0)
theorem l22_14_t (m3 i4 : Int) (h0 : List Int) : bodyD (E0 mm) [.tmp 2] 1 false (seqD (E0 mm) 22 1 (callW (E0 mm)) itW c22_25 (blockD 0 (itW (loopF (E0 mm) 22 1 (callW (E0 mm)) itW c22_15 [(0, .keep), (3, .keep), (4, .keep)]) (none, [.v (.c (.slc 0 0 1 h0.length none)), .v (.c (.d (.sc (.int .i64 m3)))), .v (.c (.d (.sc (.int .i64 i4))))], [.cells (enI h0)])))) = (l22_14 m3 i4 h0).map e22 :=
  it_sim (K := (K22_14 (mm := mm))) rfl (enc := en22_14) (fun x => s22_14_t x.1 x.2.1 x.2.2) (m3, i4, h0)
def m22 (h0 : List Int) : Option R22 :=
  if (decide ((h0.length : Int) < 1)) = true then
    none
  else
    if (0 : Int) < (h0.length : Int) then
      l22_14 (h0.getD 0 default) (1 : Int) h0
    else none
theorem f22_t (h0 : List Int) :
    callW (E0 mm) 22 [.c (.slc 0 0 1 h0.length none)] [.cells (enI h0)] = (m22 h0).map e22 := by
  rw [callW_run (body := c22_0) (res := [.tmp 2]) Tryd.func22 rfl rfl (by kernel_rfl)]
  simp -implicitDefEqProofs only [m22, slots1, c22_0_e, c22_1_r, (show opsOf c22_1 = _ :: _ from rfl), c22_2_e, c22_3_e, c22_4_r, (show opsOf c22_4 = _ :: _ from rfl), Tryd.underlying45, (show c22_5 = Code.cond _ c22_6 c22_7 from rfl), setA, setB, za, zb, zc, zd, ze, zf, zg, zh, zi, zj, zk, zl, zm, zn, zo, zp, reduceCtorEq, zE, ↓reduceIte]
  refine brB (fun yc1 => ?_) (fun yc1 => ?_)
  · simp -implicitDefEqProofs only [c22_6_r, (runOps_dead (E := (E0 mm)) (call := callW (E0 mm)) (all := opsOf c22_6) (os := opsOf c22_6) (by kernel_rfl)), regD_none, seqD_none, blockD_none, stepE_none, loopK_none, bodyD_none, Option.map_none, yc1, setA, setB, za, zb, zc, zd, ze, zf, zg, zh, zi, zj, zk, zl, zm, zn, zo, zp, reduceCtorEq, zE, ↓reduceIte]
  · simp -implicitDefEqProofs only [c22_7_e, c22_8_e, c22_9_r, (show opsOf c22_9 = _ :: _ from rfl), Tryd.underlying45, sz3, yc1, setA, setB, za, zb, zc, zd, ze, zf, zg, zh, zi, zj, zk, zl, zm, zn, zo, zp, reduceCtorEq, zE, ↓reduceIte]
    refine brP (fun yc2 => ?_) (fun yc2 => ?_)
    · have yd3 : 0 < h0.length := by omega
      simp -implicitDefEqProofs only [sz3, ag3, enI_length, (enI_load0 h0 0 yd3), c22_10_e, c22_11_e, c22_12_r, (show opsOf c22_12 = _ :: _ from rfl), c22_13_e, c22_14_l, yc1, yc2, yd3, setA, setB, za, zb, zc, zd, ze, zf, zg, zh, zi, zj, zk, zl, zm, zn, zo, zp, reduceCtorEq, zE, ↓reduceIte]
      exact l22_14_t (h0.getD 0 default) (1 : Int) h0
    · rw [if_neg yc2]; rfl
abbrev R20a := (Int)
def e20a : R20a → AV × Heap := fun x => (.v (.c (.d (.sc (.int .i64 x)))), [])
def K20a_8 : Option (Ex × St) → Option (AV × Heap) := fun r => bodyD (E0 mm) [.tmp 4] 0 false (seqD (E0 mm) 20 0 (callW (E0 mm)) itW c20_21 (blockD 0 (r)))
def en20a_8 : ((Bool × List Bs × Int × Int) ⊕ (Bool × List Bs × Int × Int × List Int)) → X := fun x => match x with
  | (.inl x) => (none, [.v (.c (.d (.sc (.func (.func 22) #[] #[])))), .v (.c (.d (.lst true []))), .v (.c (.d (.lst x.1 (enL enS x.2.1)))), .v (.c (.d (.sc (.int .i64 x.2.2.1)))), .v (.c (.d (.sc (.int .i64 x.2.2.2))))], [])
  | (.inr x) => (none, [.v (.c (.d (.sc (.func (.func 22) #[] #[])))), .v (.c (.slc 0 0 1 x.2.2.2.2.length none)), .v (.c (.d (.lst x.1 (enL enS x.2.1)))), .v (.c (.d (.sc (.int .i64 x.2.2.1)))), .v (.c (.d (.sc (.int .i64 x.2.2.2.1))))], [.cells (enI x.2.2.2.2)])
def j20a_20 (t8_0 : Bool) (t8_1 : List Bs) (t9 t10 : Int) (h1 : List Int) : Option (((Bool × List Bs × Int × Int) ⊕ (Bool × List Bs × Int × Int × List Int)) ⊕ R20a) :=
  some (.inl (.inr (t8_0, t8_1, t9, (w64 (t10 + 1)), h1)))
theorem j20a_20_t (t8_0 : Bool) (t8_1 : List Bs) (t9 t10 : Int) (h1 : List Int) (g0 : Ob) (sl : Nat → AV) (zq1 : sl 1 = .v (.c (.d (.sc (.func (.func 22) #[] #[]))))) (zq5 : sl 5 = .v (.c (.slc 1 0 1 h1.length none))) (zq8 : sl 8 = .v (.c (.d (.lst t8_0 (enL enS t8_1))))) (zq9 : sl 9 = .v (.c (.d (.sc (.int .i64 t9))))) (zq10 : sl 10 = .v (.c (.d (.sc (.int .i64 t10))))) :
    stepE (K20a_8 (mm := mm)) (loopK 0 [(1, .keep), (5, .keep), (8, .keep), (9, .keep), (10, .keep)] (den (E0 mm) 20 0 (callW (E0 mm)) itW c20_20 none ⟨sl, [g0, .cells (enI h1)]⟩)) = (j20a_20 t8_0 t8_1 t9 t10 h1).map (sm en20a_8 e20a) := by
  simp -implicitDefEqProofs only [j20a_20, c20_20_r, (show opsOf c20_20 = _ :: _ from rfl), zq1, zq5, zq8, zq9, zq10, setA, setB, za, zb, zc, zd, ze, zf, zg, zh, zi, zj, zk, zl, zm, zn, zo, zp, reduceCtorEq, zE, ↓reduceIte]
  all_goals rfl
def j20a_15 (t8_0 : Bool) (t8_1 : List Bs) (t9 t10 : Int) : Option (((Bool × List Bs × Int × Int) ⊕ (Bool × List Bs × Int × Int × List Int)) ⊕ R20a) :=
  if 0 ≤ t10 ∧ t10 < (t8_1.length : Int) then
    (m38 (t8_1.getD t10.toNat default)).bind fun yr5 =>
      j20a_20 t8_0 t8_1 t9 t10 ([yr5] : List Int)
  else none
theorem j20a_15_t (t8_0 : Bool) (t8_1 : List Bs) (t9 t10 : Int)  (sl : Nat → AV) (zq1 : sl 1 = .v (.c (.d (.sc (.func (.func 22) #[] #[]))))) (zq5 : sl 5 = .v (.c (.d (.lst true [])))) (zq8 : sl 8 = .v (.c (.d (.lst t8_0 (enL enS t8_1))))) (zq9 : sl 9 = .v (.c (.d (.sc (.int .i64 t9))))) (zq10 : sl 10 = .v (.c (.d (.sc (.int .i64 t10))))) :
    stepE (K20a_8 (mm := mm)) (loopK 0 [(1, .keep), (5, .keep), (8, .keep), (9, .keep), (10, .keep)] (den (E0 mm) 20 0 (callW (E0 mm)) itW c20_15 none ⟨sl, []⟩)) = (j20a_15 t8_0 t8_1 t9 t10).map (sm en20a_8 e20a) := by
  simp -implicitDefEqProofs only [j20a_15, c20_15_e, c20_16_e, c20_17_e, c20_18_r, (show opsOf c20_18 = _ :: _ from rfl), Tryd.underlying30, sz9, enS_a, zq1, zq5, zq8, zq9, zq10, setA, setB, za, zb, zc, zd, ze, zf, zg, zh, zi, zj, zk, zl, zm, zn, zo, zp, reduceCtorEq, zE, ↓reduceIte]
  refine brP (fun yc2 => ?_) (fun yc2 => ?_)
  · have yd3 : t10.toNat < t8_1.length := by omega
    simp -implicitDefEqProofs only [(enL_get enS t8_1 t10.toNat yd3), enS_e, sz9, ag9, c20_19_r, (show opsOf c20_19 = _ :: _ from rfl), ent38, prm38, f38_t, zq1, zq5, zq8, zq9, zq10, yc2, yd3, setA, setB, za, zb, zc, zd, ze, zf, zg, zh, zi, zj, zk, zl, zm, zn, zo, zp, reduceCtorEq, zE, ↓reduceIte]
    refine brM (fun yc4 => ?_) (fun yr5 yc4 => ?_)
    · rw [yc4]; rfl
    · simp -implicitDefEqProofs only [e38, Tryd.underlying45, sz3, zc3, hd33, nv34, rw35, nh36, enI_length, enI1_src, ah45hnil, zq1, zq5, zq8, zq9, zq10, yc2, yd3, yc4, setA, setB, za, zb, zc, zd, ze, zf, zg, zh, zi, zj, zk, zl, zm, zn, zo, zp, reduceCtorEq, zE, ↓reduceIte]
      exact j20a_20_t t8_0 t8_1 t9 t10 ([yr5] : List Int) _ _ (by exact zq1) (by rfl) (by exact zq8) (by exact zq9) (by exact zq10)
  · rw [if_neg yc2]; rfl
def j20a_21  : Option R20a :=
  some (-1 : Int)
theorem j20a_21_t   (sl : Nat → AV) (zq1 : sl 1 = .v (.c (.d (.sc (.func (.func 22) #[] #[]))))) (zq5 : sl 5 = .v (.c (.d (.lst true [])))) :
    bodyD (E0 mm) [.tmp 4] 0 false (den (E0 mm) 20 0 (callW (E0 mm)) itW c20_21 none ⟨sl, []⟩) = (j20a_21).map e20a := by
  simp -implicitDefEqProofs only [j20a_21, c20_21_e, c20_22_e, c20_23_r, (show opsOf c20_23 = _ :: _ from rfl), Tryd.underlying45, (show c20_24 = Code.cond _ c20_25 c20_28 from rfl), c20_25_e, c20_26_r, (show opsOf c20_26 = _ :: _ from rfl), c20_27_e, zq1, zq5, setA, setB, za, zb, zc, zd, ze, zf, zg, zh, zi, zj, zk, zl, zm, zn, zo, zp, reduceCtorEq, zE, ↓reduceIte]
  all_goals rfl
def s20a_8x0 (t8_0 : Bool) (t8_1 : List Bs) (t9 t10 : Int) : Option (((Bool × List Bs × Int × Int) ⊕ (Bool × List Bs × Int × Int × List Int)) ⊕ R20a) :=
  if (decide (t10 < t9)) = true then
    j20a_15 t8_0 t8_1 t9 t10
  else
    (j20a_21).map .inr
theorem s20a_8x0_t (t8_0 : Bool) (t8_1 : List Bs) (t9 t10 : Int) :
    stepE (K20a_8 (mm := mm)) (loopF (E0 mm) 20 0 (callW (E0 mm)) itW c20_9 [(1, .keep), (5, .keep), (8, .keep), (9, .keep), (10, .keep)] (none, [.v (.c (.d (.sc (.func (.func 22) #[] #[])))), .v (.c (.d (.lst true []))), .v (.c (.d (.lst t8_0 (enL enS t8_1)))), .v (.c (.d (.sc (.int .i64 t9)))), .v (.c (.d (.sc (.int .i64 t10))))], [])) = (s20a_8x0 t8_0 t8_1 t9 t10).map (sm en20a_8 e20a) := by
  simp -implicitDefEqProofs only [s20a_8x0, loopF_eq, c20_9_e, c20_10_r, (show opsOf c20_10 = _ :: _ from rfl), c20_11_e, (show c20_12 = Code.cond _ c20_13 c20_14 from rfl), setA, setB, za, zb, zc, zd, ze, zf, zg, zh, zi, zj, zk, zl, zm, zn, zo, zp, reduceCtorEq, zE, ↓reduceIte]
  refine brB (fun yc1 => ?_) (fun yc1 => ?_)
  · simp -implicitDefEqProofs only [c20_13_e, yc1, setA, setB, za, zb, zc, zd, ze, zf, zg, zh, zi, zj, zk, zl, zm, zn, zo, zp, reduceCtorEq, zE, ↓reduceIte]
    exact j20a_15_t t8_0 t8_1 t9 t10 _ (by rfl) (by rfl) (by rfl) (by rfl) (by rfl)
  · simp -implicitDefEqProofs only [c20_14_e, K20a_8, yc1, setA, setB, za, zb, zc, zd, ze, zf, zg, zh, zi, zj, zk, zl, zm, zn, zo, zp, reduceCtorEq, zE, ↓reduceIte]
    exact mi (j20a_21_t _ (by rfl) (by rfl))
def j20a_20v1 (t8_0 : Bool) (t8_1 : List Bs) (t9 t10 : Int) (h2 : List Int) : Option (((Bool × List Bs × Int × Int) ⊕ (Bool × List Bs × Int × Int × List Int)) ⊕ R20a) :=
  some (.inl (.inr (t8_0, t8_1, t9, (w64 (t10 + 1)), h2)))
theorem j20a_20v1_t (t8_0 : Bool) (t8_1 : List Bs) (t9 t10 : Int) (h2 : List Int) (g0 g1 : Ob) (sl : Nat → AV) (zq1 : sl 1 = .v (.c (.d (.sc (.func (.func 22) #[] #[]))))) (zq5 : sl 5 = .v (.c (.slc 2 0 1 h2.length none))) (zq8 : sl 8 = .v (.c (.d (.lst t8_0 (enL enS t8_1))))) (zq9 : sl 9 = .v (.c (.d (.sc (.int .i64 t9))))) (zq10 : sl 10 = .v (.c (.d (.sc (.int .i64 t10))))) :
    stepE (K20a_8 (mm := mm)) (loopK 0 [(1, .keep), (5, .keep), (8, .keep), (9, .keep), (10, .keep)] (den (E0 mm) 20 0 (callW (E0 mm)) itW c20_20 none ⟨sl, [g0, g1, .cells (enI h2)]⟩)) = (j20a_20v1 t8_0 t8_1 t9 t10 h2).map (sm en20a_8 e20a) := by
  simp -implicitDefEqProofs only [j20a_20v1, c20_20_r, (show opsOf c20_20 = _ :: _ from rfl), zq1, zq5, zq8, zq9, zq10, setA, setB, za, zb, zc, zd, ze, zf, zg, zh, zi, zj, zk, zl, zm, zn, zo, zp, reduceCtorEq, zE, ↓reduceIte]
  all_goals rfl
def j20a_15v1 (t8_0 : Bool) (t8_1 : List Bs) (t9 t10 : Int) (h0 : List Int) : Option (((Bool × List Bs × Int × Int) ⊕ (Bool × List Bs × Int × Int × List Int)) ⊕ R20a) :=
  if 0 ≤ t10 ∧ t10 < (t8_1.length : Int) then
    (m38 (t8_1.getD t10.toNat default)).bind fun yr10 =>
      if (h0.length + 1) * 8 ≤ 140737488355328 then
        j20a_20v1 t8_0 t8_1 t9 t10 (h0 ++ ([yr10] : List Int))
      else none
  else none
theorem j20a_15v1_t (t8_0 : Bool) (t8_1 : List Bs) (t9 t10 : Int) (h0 : List Int)  (sl : Nat → AV) (zq1 : sl 1 = .v (.c (.d (.sc (.func (.func 22) #[] #[]))))) (zq5 : sl 5 = .v (.c (.slc 0 0 1 h0.length none))) (zq8 : sl 8 = .v (.c (.d (.lst t8_0 (enL enS t8_1))))) (zq9 : sl 9 = .v (.c (.d (.sc (.int .i64 t9))))) (zq10 : sl 10 = .v (.c (.d (.sc (.int .i64 t10))))) :
    stepE (K20a_8 (mm := mm)) (loopK 0 [(1, .keep), (5, .keep), (8, .keep), (9, .keep), (10, .keep)] (den (E0 mm) 20 0 (callW (E0 mm)) itW c20_15 none ⟨sl, [.cells (enI h0)]⟩)) = (j20a_15v1 t8_0 t8_1 t9 t10 h0).map (sm en20a_8 e20a) := by
  simp -implicitDefEqProofs only [j20a_15v1, c20_15_e, c20_16_e, c20_17_e, c20_18_r, (show opsOf c20_18 = _ :: _ from rfl), Tryd.underlying30, sz9, enS_a, zq1, zq5, zq8, zq9, zq10, setA, setB, za, zb, zc, zd, ze, zf, zg, zh, zi, zj, zk, zl, zm, zn, zo, zp, reduceCtorEq, zE, ↓reduceIte]
  refine brP (fun yc7 => ?_) (fun yc7 => ?_)
  · have yd8 : t10.toNat < t8_1.length := by omega
    simp -implicitDefEqProofs only [(enL_get enS t8_1 t10.toNat yd8), enS_e, sz9, ag9, c20_19_r, (show opsOf c20_19 = _ :: _ from rfl), ent38, prm38, f38_t, zq1, zq5, zq8, zq9, zq10, yc7, yd8, setA, setB, za, zb, zc, zd, ze, zf, zg, zh, zi, zj, zk, zl, zm, zn, zo, zp, reduceCtorEq, zE, ↓reduceIte]
    refine brM (fun yc9 => ?_) (fun yr10 yc9 => ?_)
    · rw [yc9]; rfl
    · simp -implicitDefEqProofs only [e38, Tryd.underlying45, sz3, zc3, hd33, nv34, rw35, nh36, enI_length, enI1_src, ah45hslc, zq1, zq5, zq8, zq9, zq10, yc7, yd8, yc9, setA, setB, za, zb, zc, zd, ze, zf, zg, zh, zi, zj, zk, zl, zm, zn, zo, zp, reduceCtorEq, zE, ↓reduceIte]
      refine brP (fun yc11 => ?_) (fun yc11 => ?_)
      · simp -implicitDefEqProofs only [zq1, zq5, zq8, zq9, zq10, yc7, yd8, yc9, yc11, setA, setB, za, zb, zc, zd, ze, zf, zg, zh, zi, zj, zk, zl, zm, zn, zo, zp, reduceCtorEq, zE, ↓reduceIte]
        exact j20a_20v1_t t8_0 t8_1 t9 t10 (h0 ++ ([yr10] : List Int)) _ _ _ (by exact zq1) (by rfl) (by exact zq8) (by exact zq9) (by exact zq10)
      · rw [if_neg yc11]; rfl
  · rw [if_neg yc7]; rfl
def j20a_21v1 (h0 : List Int) : Option R20a :=
  if ((h0.length : Int) == 0) = true then
    some (-1 : Int)
  else
    (m22 h0).bind fun yr14 =>
      some yr14.1
theorem j20a_21v1_t (h0 : List Int)  (sl : Nat → AV) (zq1 : sl 1 = .v (.c (.d (.sc (.func (.func 22) #[] #[]))))) (zq5 : sl 5 = .v (.c (.slc 0 0 1 h0.length none))) :
    bodyD (E0 mm) [.tmp 4] 0 false (den (E0 mm) 20 0 (callW (E0 mm)) itW c20_21 none ⟨sl, [.cells (enI h0)]⟩) = (j20a_21v1 h0).map e20a := by
  simp -implicitDefEqProofs only [j20a_21v1, c20_21_e, c20_22_e, c20_23_r, (show opsOf c20_23 = _ :: _ from rfl), Tryd.underlying45, (show c20_24 = Code.cond _ c20_25 c20_28 from rfl), zq1, zq5, setA, setB, za, zb, zc, zd, ze, zf, zg, zh, zi, zj, zk, zl, zm, zn, zo, zp, reduceCtorEq, zE, ↓reduceIte]
  refine brB (fun yc12 => ?_) (fun yc12 => ?_)
  · simp -implicitDefEqProofs only [c20_25_e, c20_26_r, (show opsOf c20_26 = _ :: _ from rfl), c20_27_e, zq1, zq5, yc12, setA, setB, za, zb, zc, zd, ze, zf, zg, zh, zi, zj, zk, zl, zm, zn, zo, zp, reduceCtorEq, zE, ↓reduceIte]
    all_goals rfl
  · simp -implicitDefEqProofs only [c20_28_e, c20_29_e, c20_30_r, (show opsOf c20_30 = _ :: _ from rfl), ent22, prm22, f22_t, zq1, zq5, yc12, setA, setB, za, zb, zc, zd, ze, zf, zg, zh, zi, zj, zk, zl, zm, zn, zo, zp, reduceCtorEq, zE, ↓reduceIte]
    refine brM (fun yc13 => ?_) (fun yr14 yc13 => ?_)
    · rw [yc13]; rfl
    · simp -implicitDefEqProofs only [e22, c20_31_e, zq1, zq5, yc12, yc13, setA, setB, za, zb, zc, zd, ze, zf, zg, zh, zi, zj, zk, zl, zm, zn, zo, zp, reduceCtorEq, zE, ↓reduceIte]
      all_goals rfl
def s20a_8x1 (t8_0 : Bool) (t8_1 : List Bs) (t9 t10 : Int) (h0 : List Int) : Option (((Bool × List Bs × Int × Int) ⊕ (Bool × List Bs × Int × Int × List Int)) ⊕ R20a) :=
  if (decide (t10 < t9)) = true then
    j20a_15v1 t8_0 t8_1 t9 t10 h0
  else
    (j20a_21v1 h0).map .inr
theorem s20a_8x1_t (t8_0 : Bool) (t8_1 : List Bs) (t9 t10 : Int) (h0 : List Int) :
    stepE (K20a_8 (mm := mm)) (loopF (E0 mm) 20 0 (callW (E0 mm)) itW c20_9 [(1, .keep), (5, .keep), (8, .keep), (9, .keep), (10, .keep)] (none, [.v (.c (.d (.sc (.func (.func 22) #[] #[])))), .v (.c (.slc 0 0 1 h0.length none)), .v (.c (.d (.lst t8_0 (enL enS t8_1)))), .v (.c (.d (.sc (.int .i64 t9)))), .v (.c (.d (.sc (.int .i64 t10))))], [.cells (enI h0)])) = (s20a_8x1 t8_0 t8_1 t9 t10 h0).map (sm en20a_8 e20a) := by
  simp -implicitDefEqProofs only [s20a_8x1, loopF_eq, c20_9_e, c20_10_r, (show opsOf c20_10 = _ :: _ from rfl), c20_11_e, (show c20_12 = Code.cond _ c20_13 c20_14 from rfl), setA, setB, za, zb, zc, zd, ze, zf, zg, zh, zi, zj, zk, zl, zm, zn, zo, zp, reduceCtorEq, zE, ↓reduceIte]
  refine brB (fun yc6 => ?_) (fun yc6 => ?_)
  · simp -implicitDefEqProofs only [c20_13_e, yc6, setA, setB, za, zb, zc, zd, ze, zf, zg, zh, zi, zj, zk, zl, zm, zn, zo, zp, reduceCtorEq, zE, ↓reduceIte]
    exact j20a_15v1_t t8_0 t8_1 t9 t10 h0 _ (by rfl) (by rfl) (by rfl) (by rfl) (by rfl)
  · simp -implicitDefEqProofs only [c20_14_e, K20a_8, yc6, setA, setB, za, zb, zc, zd, ze, zf, zg, zh, zi, zj, zk, zl, zm, zn, zo, zp, reduceCtorEq, zE, ↓reduceIte]
    exact mi (j20a_21v1_t h0 _ (by rfl) (by rfl))
def s20a_8 : ((Bool × List Bs × Int × Int) ⊕ (Bool × List Bs × Int × Int × List Int)) → Option (((Bool × List Bs × Int × Int) ⊕ (Bool × List Bs × Int × Int × List Int)) ⊕ R20a) := fun x => match x with
  | (.inl x) => s20a_8x0 x.1 x.2.1 x.2.2.1 x.2.2.2
  | (.inr x) => s20a_8x1 x.1 x.2.1 x.2.2.1 x.2.2.2.1 x.2.2.2.2
def l20a_8 (t8_0 : Bool) (t8_1 : List Bs) (t9 t10 : Int) : Option R20a := iter s20a_8 (.inl (t8_0, t8_1, t9, t10))
theorem l20a_8_t (t8_0 : Bool) (t8_1 : List Bs) (t9 t10 : Int) : bodyD (E0 mm) [.tmp 4] 0 false (seqD (E0 mm) 20 0 (callW (E0 mm)) itW c20_21 (blockD 0 (itW (loopF (E0 mm) 20 0 (callW (E0 mm)) itW c20_9 [(1, .keep), (5, .keep), (8, .keep), (9, .keep), (10, .keep)]) (none, [.v (.c (.d (.sc (.func (.func 22) #[] #[])))), .v (.c (.d (.lst true []))), .v (.c (.d (.lst t8_0 (enL enS t8_1)))), .v (.c (.d (.sc (.int .i64 t9)))), .v (.c (.d (.sc (.int .i64 t10))))], [])))) = (l20a_8 t8_0 t8_1 t9 t10).map e20a :=
  it_sim (K := (K20a_8 (mm := mm))) rfl (enc := en20a_8) (fun x => match x with
  | (.inl x) => s20a_8x0_t x.1 x.2.1 x.2.2.1 x.2.2.2
  | (.inr x) => s20a_8x1_t x.1 x.2.1 x.2.2.1 x.2.2.2.1 x.2.2.2.2) (.inl (t8_0, t8_1, t9, t10))
def m20a (values_0 : Bool) (values_1 : List Bs) : Option R20a :=
  l20a_8 values_0 values_1 (values_1.length : Int) (0 : Int)
theorem f20a_t (values_0 : Bool) (values_1 : List Bs) :
    callW (E0 mm) 20 [.c (.d (.lst values_0 (enL enS values_1))), .c (.d (.sc (.func (.func 22) #[] #[])))] [] = (m20a values_0 values_1).map e20a := by
  rw [callW_run (body := c20_0) (res := [.tmp 4]) Tryd.func20 rfl rfl (by kernel_rfl)]
  simp -implicitDefEqProofs only [m20a, slots2, c20_0_e, c20_1_r, (show opsOf c20_1 = _ :: _ from rfl), c20_2_e, c20_3_r, (show opsOf c20_3 = _ :: _ from rfl), c20_4_e, c20_5_e, c20_6_r, (show opsOf c20_6 = _ :: _ from rfl), Tryd.underlying30, c20_7_e, c20_8_l, setA, setB, za, zb, zc, zd, ze, zf, zg, zh, zi, zj, zk, zl, zm, zn, zo, zp, reduceCtorEq, zE, ↓reduceIte]
  exact l20a_8_t values_0 values_1 (values_1.length : Int) (0 : Int)
abbrev R21a := (Int × List Int)
def e21a : R21a → AV × Heap := fun x => (.v (.c (.d (.sc (.int .i64 x.1)))), [.cells (enI x.2)])
def K21a_14 : Option (Ex × St) → Option (AV × Heap) := fun r => bodyD (E0 mm) [.tmp 2] 1 false (seqD (E0 mm) 21 1 (callW (E0 mm)) itW c21_25 (blockD 0 (r)))
def en21a_14 : (Nat × Int × Int × List Int) → X := fun x => (none, [.v (.c (.slc 0 0 1 x.1 none)), .v (.c (.d (.sc (.int .i64 x.2.1)))), .v (.c (.d (.sc (.int .i64 x.2.2.1))))], [.cells (enI x.2.2.2)])
def j21a_25 (m3 : Int) (h0 : List Int) : Option R21a :=
  some (m3, h0)
theorem j21a_25_t (m3 : Int) (h0 : List Int)  (sl : Nat → AV) (zq3 : sl 3 = .v (.c (.d (.sc (.int .i64 m3))))) :
    bodyD (E0 mm) [.tmp 2] 1 false (den (E0 mm) 21 1 (callW (E0 mm)) itW c21_25 none ⟨sl, [.cells (enI h0)]⟩) = (j21a_25 m3 h0).map e21a := by
  simp -implicitDefEqProofs only [j21a_25, c21_25_e, c21_26_r, (show opsOf c21_26 = _ :: _ from rfl), c21_27_e, zq3, setA, setB, za, zb, zc, zd, ze, zf, zg, zh, zi, zj, zk, zl, zm, zn, zo, zp, reduceCtorEq, zE, ↓reduceIte]
  all_goals rfl
def s21a_14 (x0_1 : Nat) (m3 i4 : Int) (h0 : List Int) : Option ((Nat × Int × Int × List Int) ⊕ R21a) :=
  if (decide (i4 < (x0_1 : Int))) = true then
    if 0 ≤ i4 ∧ i4 < (x0_1 : Int) then
      if i4.toNat < h0.length then
        some (.inl (x0_1, (min2 m3 (h0.getD i4.toNat default)), (w64 (i4 + 1)), h0))
      else none
    else none
  else
    (j21a_25 m3 h0).map .inr
theorem s21a_14_t (x0_1 : Nat) (m3 i4 : Int) (h0 : List Int) :
    stepE (K21a_14 (mm := mm)) (loopF (E0 mm) 21 1 (callW (E0 mm)) itW c21_15 [(0, .keep), (3, .keep), (4, .keep)] (none, [.v (.c (.slc 0 0 1 x0_1 none)), .v (.c (.d (.sc (.int .i64 m3)))), .v (.c (.d (.sc (.int .i64 i4))))], [.cells (enI h0)])) = (s21a_14 x0_1 m3 i4 h0).map (sm en21a_14 e21a) := by
  simp -implicitDefEqProofs only [s21a_14, loopF_eq, c21_15_e, c21_16_e, c21_17_r, (show opsOf c21_17 = _ :: _ from rfl), Tryd.underlying45, (show c21_18 = Code.cond _ c21_19 c21_20 from rfl), setA, setB, za, zb, zc, zd, ze, zf, zg, zh, zi, zj, zk, zl, zm, zn, zo, zp, reduceCtorEq, zE, ↓reduceIte]
  refine brB (fun yc5 => ?_) (fun yc5 => ?_)
  · simp -implicitDefEqProofs only [c21_19_e, c21_21_e, c21_22_e, c21_23_r, (show opsOf c21_23 = _ :: _ from rfl), Tryd.underlying45, sz3, yc5, setA, setB, za, zb, zc, zd, ze, zf, zg, zh, zi, zj, zk, zl, zm, zn, zo, zp, reduceCtorEq, zE, ↓reduceIte]
    refine brP (fun yc6 => ?_) (fun yc6 => ?_)
    · have yd7 : i4.toNat < x0_1 := by omega
      simp -implicitDefEqProofs only [sz3, ag3, enI_length, yc5, yc6, yd7, setA, setB, za, zb, zc, zd, ze, zf, zg, zh, zi, zj, zk, zl, zm, zn, zo, zp, reduceCtorEq, zE, ↓reduceIte]
      refine brP (fun yc8 => ?_) (fun yc8 => ?_)
      · simp -implicitDefEqProofs only [(enI_load h0 i4.toNat yc8), Tryd.underlying3, c21_24_r, (show opsOf c21_24 = _ :: _ from rfl), yc5, yc6, yd7, yc8, setA, setB, za, zb, zc, zd, ze, zf, zg, zh, zi, zj, zk, zl, zm, zn, zo, zp, reduceCtorEq, zE, ↓reduceIte]
        all_goals rfl
      · rw [if_neg yc8]; rfl
    · rw [if_neg yc6]; rfl
  · simp -implicitDefEqProofs only [c21_20_e, K21a_14, yc5, setA, setB, za, zb, zc, zd, ze, zf, zg, zh, zi, zj, zk, zl, zm, zn, zo, zp, reduceCtorEq, zE, ↓reduceIte]
    exact mi (j21a_25_t m3 h0 _ (by rfl))
def l21a_14 (x0_1 : Nat) (m3 i4 : Int) (h0 : List Int) : Option R21a := iter (fun x : (Nat × Int × Int × List Int) => s21a_14 x.1 x.2.1 x.2.2.1 x.2.2.2) (x0_1, m3, i4, h0)
theorem l21a_14_t (x0_1 : Nat) (m3 i4 : Int) (h0 : List Int) : bodyD (E0 mm) [.tmp 2] 1 false (seqD (E0 mm) 21 1 (callW (E0 mm)) itW c21_25 (blockD 0 (itW (loopF (E0 mm) 21 1 (callW (E0 mm)) itW c21_15 [(0, .keep), (3, .keep), (4, .keep)]) (none, [.v (.c (.slc 0 0 1 x0_1 none)), .v (.c (.d (.sc (.int .i64 m3)))), .v (.c (.d (.sc (.int .i64 i4))))], [.cells (enI h0)])))) = (l21a_14 x0_1 m3 i4 h0).map e21a :=
  it_sim (K := (K21a_14 (mm := mm))) rfl (enc := en21a_14) (fun x => s21a_14_t x.1 x.2.1 x.2.2.1 x.2.2.2) (x0_1, m3, i4, h0)
def m21a (x0_1 : Nat) (h0 : List Int) : Option R21a :=
  if (decide ((x0_1 : Int) < 1)) = true then
    none
  else
    if (0 : Int) < (x0_1 : Int) then
      if 0 < h0.length then
        l21a_14 x0_1 (h0.getD 0 default) (1 : Int) h0
      else none
    else none
theorem f21a_t (x0_1 : Nat) (h0 : List Int) :
    callW (E0 mm) 21 [.c (.slc 0 0 1 x0_1 none)] [.cells (enI h0)] = (m21a x0_1 h0).map e21a := by
  rw [callW_run (body := c21_0) (res := [.tmp 2]) Tryd.func21 rfl rfl (by kernel_rfl)]
  simp -implicitDefEqProofs only [m21a, slots1, c21_0_e, c21_1_r, (show opsOf c21_1 = _ :: _ from rfl), c21_2_e, c21_3_e, c21_4_r, (show opsOf c21_4 = _ :: _ from rfl), Tryd.underlying45, (show c21_5 = Code.cond _ c21_6 c21_7 from rfl), setA, setB, za, zb, zc, zd, ze, zf, zg, zh, zi, zj, zk, zl, zm, zn, zo, zp, reduceCtorEq, zE, ↓reduceIte]
  refine brB (fun yc1 => ?_) (fun yc1 => ?_)
  · simp -implicitDefEqProofs only [c21_6_r, (runOps_dead (E := (E0 mm)) (call := callW (E0 mm)) (all := opsOf c21_6) (os := opsOf c21_6) (by kernel_rfl)), regD_none, seqD_none, blockD_none, stepE_none, loopK_none, bodyD_none, Option.map_none, yc1, setA, setB, za, zb, zc, zd, ze, zf, zg, zh, zi, zj, zk, zl, zm, zn, zo, zp, reduceCtorEq, zE, ↓reduceIte]
  · simp -implicitDefEqProofs only [c21_7_e, c21_8_e, c21_9_r, (show opsOf c21_9 = _ :: _ from rfl), Tryd.underlying45, sz3, yc1, setA, setB, za, zb, zc, zd, ze, zf, zg, zh, zi, zj, zk, zl, zm, zn, zo, zp, reduceCtorEq, zE, ↓reduceIte]
    refine brP (fun yc2 => ?_) (fun yc2 => ?_)
    · have yd3 : 0 < x0_1 := by omega
      simp -implicitDefEqProofs only [sz3, ag3, enI_length, yc1, yc2, yd3, setA, setB, za, zb, zc, zd, ze, zf, zg, zh, zi, zj, zk, zl, zm, zn, zo, zp, reduceCtorEq, zE, ↓reduceIte]
      refine brP (fun yc4 => ?_) (fun yc4 => ?_)
      · simp -implicitDefEqProofs only [(enI_load0 h0 0 yc4), c21_10_e, c21_11_e, c21_12_r, (show opsOf c21_12 = _ :: _ from rfl), c21_13_e, c21_14_l, yc1, yc2, yd3, yc4, setA, setB, za, zb, zc, zd, ze, zf, zg, zh, zi, zj, zk, zl, zm, zn, zo, zp, reduceCtorEq, zE, ↓reduceIte]
        exact l21a_14_t x0_1 (h0.getD 0 default) (1 : Int) h0
      · rw [if_neg yc4]; rfl
    · rw [if_neg yc2]; rfl
noncomputable def c23_0 : Code := bodyOf Tryd.f23
def c23_1 := cA c23_0
def c23_2 := cB c23_0
def c23_3 := cA c23_2
def c23_4 := cA c23_3
def c23_5 := cB c23_3
def c23_6 := cA c23_5
def c23_7 := cA c23_6
def c23_8 := cA c23_7
def c23_9 := cB c23_7
def c23_10 := cA c23_9
def c23_11 := cA c23_10
def c23_12 := cB c23_10
def c23_13 := cB c23_9
def c23_14 := cA c23_13
def c23_15 := cA c23_14
def c23_16 := cA c23_15
def c23_17 := cB c23_15
def c23_18 := cA c23_17
def c23_19 := cB c23_17
def c23_20 := cA c23_19
def c23_21 := cB c23_19
def c23_22 := cB c23_13
def c23_23 := cB c23_2
def c23_24 := cA c23_23
def c23_25 := cB c23_23
theorem c23_0_e : c23_0 = .seq c23_1 c23_2 := rfl
theorem c23_1_r : RG (E0 mm) 23 c23_1 := rgN rfl
theorem c23_2_e : c23_2 = .seq c23_3 c23_23 := rfl
theorem c23_3_e : c23_3 = .seq c23_4 c23_5 := rfl
theorem c23_4_r : RG (E0 mm) 23 c23_4 := rgN rfl
theorem c23_5_e : c23_5 = .block 0 c23_6 := rfl
theorem c23_6_l (m : Nat) (st : St) : den (E0 mm) 23 m (callW (E0 mm)) itW c23_6 none st = loopD itW (loopF (E0 mm) 23 m (callW (E0 mm)) itW c23_7 [(0, .keep), (7, .keep), (8, .keep), (9, .keep)]) (canon m [(0, .keep), (7, .keep), (8, .keep), (9, .keep)] st) := rfl
theorem c23_7_e : c23_7 = .seq c23_8 c23_9 := rfl
theorem c23_8_r : RG (E0 mm) 23 c23_8 := rgN rfl
theorem c23_9_e : c23_9 = .seq c23_10 c23_13 := rfl
theorem c23_11_e : c23_11 = .skip := rfl
theorem c23_12_e : c23_12 = .exit 0 := rfl
theorem c23_13_e : c23_13 = .seq c23_14 c23_22 := rfl
theorem c23_14_e : c23_14 = .block 1 c23_15 := rfl
theorem c23_15_e : c23_15 = .seq c23_16 c23_17 := rfl
theorem c23_16_r : RG (E0 mm) 23 c23_16 := rgN rfl
theorem c23_17_e : c23_17 = .seq c23_18 c23_19 := rfl
theorem c23_18_r : RG (E0 mm) 23 c23_18 := rgN rfl
theorem c23_20_r : RG (E0 mm) 23 c23_20 := rgN rfl
theorem c23_21_e : c23_21 = .skip := rfl
theorem c23_22_r : RG (E0 mm) 23 c23_22 := rgN rfl
theorem c23_23_e : c23_23 = .seq c23_24 c23_25 := rfl
theorem c23_24_r : RG (E0 mm) 23 c23_24 := rgN rfl
theorem c23_25_e : c23_25 = .ret := rfl
abbrev R23 := (Int × List Int)
def e23 (gm2 : List (Bs × List Bs)) : R23 → AV × Heap := fun x => (.v (.c (.d (.sc (.int .i64 x.1)))), [.cells (enI x.2), .cells [.mp 2], .amap (enM gm2)])
def K23_6 : Option (Ex × St) → Option (AV × Heap) := fun r => bodyD (E0 mm) [.tmp 3] 3 false (seqD (E0 mm) 23 3 (callW (E0 mm)) itW c23_23 (blockD 0 (r)))
def en23_6 (gm2 : List (Bs × List Bs)) : ((Bool × List Bs × Int × Int × List Int) ⊕ (Nat × Bool × List Bs × Int × Int × List Int)) → X := fun x => match x with
  | (.inl x) => (none, [.v (.c (.slc 0 0 1 x.2.2.2.2.length none)), .v (.c (.d (.lst x.1 (enL enS x.2.1)))), .v (.c (.d (.sc (.int .i64 x.2.2.1)))), .v (.c (.d (.sc (.int .i64 x.2.2.2.1))))], [.cells (enI x.2.2.2.2), .cells [.mp 2], .amap (enM gm2)])
  | (.inr x) => (none, [.v (.c (.slc 0 0 1 x.1 none)), .v (.c (.d (.lst x.2.1 (enL enS x.2.2.1)))), .v (.c (.d (.sc (.int .i64 x.2.2.2.1)))), .v (.c (.d (.sc (.int .i64 x.2.2.2.2.1))))], [.cells (enI x.2.2.2.2.2), .cells [.mp 2], .amap (enM gm2)])
def j23_22 (gm2 : List (Bs × List Bs)) (numbers0_1 : Nat) (t7_0 : Bool) (t7_1 : List Bs) (t8 t9 : Int) (h0 : List Int) : Option (((Bool × List Bs × Int × Int × List Int) ⊕ (Nat × Bool × List Bs × Int × Int × List Int)) ⊕ R23) :=
  some (.inl (.inr (numbers0_1, t7_0, t7_1, t8, (w64 (t9 + 1)), h0)))
theorem j23_22_t (gm2 : List (Bs × List Bs)) (numbers0_1 : Nat) (t7_0 : Bool) (t7_1 : List Bs) (t8 t9 : Int) (h0 : List Int)  (sl : Nat → AV) (zq0 : sl 0 = .v (.c (.slc 0 0 1 numbers0_1 none))) (zq7 : sl 7 = .v (.c (.d (.lst t7_0 (enL enS t7_1))))) (zq8 : sl 8 = .v (.c (.d (.sc (.int .i64 t8))))) (zq9 : sl 9 = .v (.c (.d (.sc (.int .i64 t9))))) :
    stepE (K23_6 (mm := mm)) (loopK 3 [(0, .keep), (7, .keep), (8, .keep), (9, .keep)] (den (E0 mm) 23 3 (callW (E0 mm)) itW c23_22 none ⟨sl, [.cells (enI h0), .cells [.mp 2], .amap (enM gm2)]⟩)) = (j23_22 gm2 numbers0_1 t7_0 t7_1 t8 t9 h0).map (sm (en23_6 gm2) (e23 gm2)) := by
  simp -implicitDefEqProofs only [j23_22, c23_22_r, (show opsOf c23_22 = _ :: _ from rfl), zq0, zq7, zq8, zq9, setA, setB, za, zb, zc, zd, ze, zf, zg, zh, zi, zj, zk, zl, zm, zn, zo, zp, reduceCtorEq, zE, ↓reduceIte]
  all_goals rfl
def j23_22v1 (gm2 : List (Bs × List Bs)) (t7_0 : Bool) (t7_1 : List Bs) (t8 t9 : Int) (h0 : List Int) : Option (((Bool × List Bs × Int × Int × List Int) ⊕ (Nat × Bool × List Bs × Int × Int × List Int)) ⊕ R23) :=
  some (.inl (.inl (t7_0, t7_1, t8, (w64 (t9 + 1)), h0)))
theorem j23_22v1_t (gm2 : List (Bs × List Bs)) (t7_0 : Bool) (t7_1 : List Bs) (t8 t9 : Int) (h0 : List Int)  (sl : Nat → AV) (zq0 : sl 0 = .v (.c (.slc 0 0 1 h0.length none))) (zq7 : sl 7 = .v (.c (.d (.lst t7_0 (enL enS t7_1))))) (zq8 : sl 8 = .v (.c (.d (.sc (.int .i64 t8))))) (zq9 : sl 9 = .v (.c (.d (.sc (.int .i64 t9))))) :
    stepE (K23_6 (mm := mm)) (loopK 3 [(0, .keep), (7, .keep), (8, .keep), (9, .keep)] (den (E0 mm) 23 3 (callW (E0 mm)) itW c23_22 none ⟨sl, [.cells (enI h0), .cells [.mp 2], .amap (enM gm2)]⟩)) = (j23_22v1 gm2 t7_0 t7_1 t8 t9 h0).map (sm (en23_6 gm2) (e23 gm2)) := by
  simp -implicitDefEqProofs only [j23_22v1, c23_22_r, (show opsOf c23_22 = _ :: _ from rfl), zq0, zq7, zq8, zq9, setA, setB, za, zb, zc, zd, ze, zf, zg, zh, zi, zj, zk, zl, zm, zn, zo, zp, reduceCtorEq, zE, ↓reduceIte]
  all_goals rfl
def j23_13 (gm2 : List (Bs × List Bs)) (t7_0 : Bool) (t7_1 : List Bs) (t8 t9 : Int) (h0 : List Int) : Option (((Bool × List Bs × Int × Int × List Int) ⊕ (Nat × Bool × List Bs × Int × Int × List Int)) ⊕ R23) :=
  if 0 ≤ t9 ∧ t9 < (t7_1.length : Int) then
    if ((t7_1.getD t9.toNat default) == ([] : Bs)) = true then
      if 0 ≤ t9 ∧ t9 < (h0.length : Int) then
        j23_22 gm2 h0.length t7_0 t7_1 t8 t9 (h0.set t9.toNat (2147483647 : Int))
      else none
    else
      j23_22v1 gm2 t7_0 t7_1 t8 t9 h0
  else none
theorem j23_13_t (gm2 : List (Bs × List Bs)) (t7_0 : Bool) (t7_1 : List Bs) (t8 t9 : Int) (h0 : List Int)  (sl : Nat → AV) (zq0 : sl 0 = .v (.c (.slc 0 0 1 h0.length none))) (zq7 : sl 7 = .v (.c (.d (.lst t7_0 (enL enS t7_1))))) (zq8 : sl 8 = .v (.c (.d (.sc (.int .i64 t8))))) (zq9 : sl 9 = .v (.c (.d (.sc (.int .i64 t9))))) :
    stepE (K23_6 (mm := mm)) (loopK 3 [(0, .keep), (7, .keep), (8, .keep), (9, .keep)] (den (E0 mm) 23 3 (callW (E0 mm)) itW c23_13 none ⟨sl, [.cells (enI h0), .cells [.mp 2], .amap (enM gm2)]⟩)) = (j23_13 gm2 t7_0 t7_1 t8 t9 h0).map (sm (en23_6 gm2) (e23 gm2)) := by
  simp -implicitDefEqProofs only [j23_13, c23_13_e, c23_14_e, c23_15_e, c23_16_r, (show opsOf c23_16 = _ :: _ from rfl), Tryd.underlying30, sz9, enS_a, zq0, zq7, zq8, zq9, setA, setB, za, zb, zc, zd, ze, zf, zg, zh, zi, zj, zk, zl, zm, zn, zo, zp, reduceCtorEq, zE, ↓reduceIte]
  refine brP (fun yc2 => ?_) (fun yc2 => ?_)
  · have yd3 : t9.toNat < t7_1.length := by omega
    simp -implicitDefEqProofs only [(enL_get enS t7_1 t9.toNat yd3), enS_e, sz9, ag9, c23_17_e, c23_18_r, (show opsOf c23_18 = _ :: _ from rfl), (show c23_19 = Code.cond _ c23_20 c23_21 from rfl), zq0, zq7, zq8, zq9, yc2, yd3, setA, setB, za, zb, zc, zd, ze, zf, zg, zh, zi, zj, zk, zl, zm, zn, zo, zp, reduceCtorEq, zE, ↓reduceIte]
    refine brB (fun yc4 => ?_) (fun yc4 => ?_)
    · simp -implicitDefEqProofs only [c23_20_r, (show opsOf c23_20 = _ :: _ from rfl), Tryd.underlying45, sz3, zq0, zq7, zq8, zq9, yc2, yd3, yc4, setA, setB, za, zb, zc, zd, ze, zf, zg, zh, zi, zj, zk, zl, zm, zn, zo, zp, reduceCtorEq, zE, ↓reduceIte]
      refine brP (fun yc5 => ?_) (fun yc5 => ?_)
      · have yd6 : t9.toNat < h0.length := by omega
        simp -implicitDefEqProofs only [sz3, enI_length, enI_wr, zq0, zq7, zq8, zq9, yc2, yd3, yc4, yc5, yd6, setA, setB, za, zb, zc, zd, ze, zf, zg, zh, zi, zj, zk, zl, zm, zn, zo, zp, reduceCtorEq, zE, ↓reduceIte]
        exact j23_22_t gm2 h0.length t7_0 t7_1 t8 t9 (h0.set t9.toNat (2147483647 : Int)) _ (by exact zq0) (by exact zq7) (by exact zq8) (by exact zq9)
      · rw [if_neg yc5]; rfl
    · simp -implicitDefEqProofs only [c23_21_e, zq0, zq7, zq8, zq9, yc2, yd3, yc4, setA, setB, za, zb, zc, zd, ze, zf, zg, zh, zi, zj, zk, zl, zm, zn, zo, zp, reduceCtorEq, zE, ↓reduceIte]
      exact j23_22v1_t gm2 t7_0 t7_1 t8 t9 h0 _ (by exact zq0) (by exact zq7) (by exact zq8) (by exact zq9)
  · rw [if_neg yc2]; rfl
def j23_23 (gm2 : List (Bs × List Bs)) (h0 : List Int) : Option R23 :=
  (m21 h0).bind fun yr8 =>
    some (yr8.1, yr8.2)
theorem j23_23_t (gm2 : List (Bs × List Bs)) (h0 : List Int)  (sl : Nat → AV) (zq0 : sl 0 = .v (.c (.slc 0 0 1 h0.length none))) :
    bodyD (E0 mm) [.tmp 3] 3 false (den (E0 mm) 23 3 (callW (E0 mm)) itW c23_23 none ⟨sl, [.cells (enI h0), .cells [.mp 2], .amap (enM gm2)]⟩) = (j23_23 gm2 h0).map (e23 gm2) := by
  simp -implicitDefEqProofs only [j23_23, c23_23_e, c23_24_r, (show opsOf c23_24 = _ :: _ from rfl), ent21, prm21, f21_t, zq0, setA, setB, za, zb, zc, zd, ze, zf, zg, zh, zi, zj, zk, zl, zm, zn, zo, zp, reduceCtorEq, zE, ↓reduceIte]
  refine brM (fun yc7 => ?_) (fun yr8 yc7 => ?_)
  · rw [yc7]; rfl
  · simp -implicitDefEqProofs only [e21, c23_25_e, zq0, yc7, setA, setB, za, zb, zc, zd, ze, zf, zg, zh, zi, zj, zk, zl, zm, zn, zo, zp, reduceCtorEq, zE, ↓reduceIte]
    all_goals rfl
def s23_6x0 (gm2 : List (Bs × List Bs)) (t7_0 : Bool) (t7_1 : List Bs) (t8 t9 : Int) (h0 : List Int) : Option (((Bool × List Bs × Int × Int × List Int) ⊕ (Nat × Bool × List Bs × Int × Int × List Int)) ⊕ R23) :=
  if (decide (t9 < t8)) = true then
    j23_13 gm2 t7_0 t7_1 t8 t9 h0
  else
    (j23_23 gm2 h0).map .inr
theorem s23_6x0_t (gm2 : List (Bs × List Bs)) (t7_0 : Bool) (t7_1 : List Bs) (t8 t9 : Int) (h0 : List Int) :
    stepE (K23_6 (mm := mm)) (loopF (E0 mm) 23 3 (callW (E0 mm)) itW c23_7 [(0, .keep), (7, .keep), (8, .keep), (9, .keep)] (none, [.v (.c (.slc 0 0 1 h0.length none)), .v (.c (.d (.lst t7_0 (enL enS t7_1)))), .v (.c (.d (.sc (.int .i64 t8)))), .v (.c (.d (.sc (.int .i64 t9))))], [.cells (enI h0), .cells [.mp 2], .amap (enM gm2)])) = (s23_6x0 gm2 t7_0 t7_1 t8 t9 h0).map (sm (en23_6 gm2) (e23 gm2)) := by
  simp -implicitDefEqProofs only [s23_6x0, loopF_eq, c23_7_e, c23_8_r, (show opsOf c23_8 = _ :: _ from rfl), c23_9_e, (show c23_10 = Code.cond _ c23_11 c23_12 from rfl), setA, setB, za, zb, zc, zd, ze, zf, zg, zh, zi, zj, zk, zl, zm, zn, zo, zp, reduceCtorEq, zE, ↓reduceIte]
  refine brB (fun yc1 => ?_) (fun yc1 => ?_)
  · simp -implicitDefEqProofs only [c23_11_e, yc1, setA, setB, za, zb, zc, zd, ze, zf, zg, zh, zi, zj, zk, zl, zm, zn, zo, zp, reduceCtorEq, zE, ↓reduceIte]
    exact j23_13_t gm2 t7_0 t7_1 t8 t9 h0 _ (by rfl) (by rfl) (by rfl) (by rfl)
  · simp -implicitDefEqProofs only [c23_12_e, K23_6, yc1, setA, setB, za, zb, zc, zd, ze, zf, zg, zh, zi, zj, zk, zl, zm, zn, zo, zp, reduceCtorEq, zE, ↓reduceIte]
    exact mi (j23_23_t gm2 h0 _ (by rfl))
def j23_13v1 (gm2 : List (Bs × List Bs)) (numbers0_1 : Nat) (t7_0 : Bool) (t7_1 : List Bs) (t8 t9 : Int) (h0 : List Int) : Option (((Bool × List Bs × Int × Int × List Int) ⊕ (Nat × Bool × List Bs × Int × Int × List Int)) ⊕ R23) :=
  if 0 ≤ t9 ∧ t9 < (t7_1.length : Int) then
    if ((t7_1.getD t9.toNat default) == ([] : Bs)) = true then
      if 0 ≤ t9 ∧ t9 < (numbers0_1 : Int) then
        if t9.toNat < h0.length then
          j23_22 gm2 numbers0_1 t7_0 t7_1 t8 t9 (h0.set t9.toNat (2147483647 : Int))
        else none
      else none
    else
      j23_22 gm2 numbers0_1 t7_0 t7_1 t8 t9 h0
  else none
theorem j23_13v1_t (gm2 : List (Bs × List Bs)) (numbers0_1 : Nat) (t7_0 : Bool) (t7_1 : List Bs) (t8 t9 : Int) (h0 : List Int)  (sl : Nat → AV) (zq0 : sl 0 = .v (.c (.slc 0 0 1 numbers0_1 none))) (zq7 : sl 7 = .v (.c (.d (.lst t7_0 (enL enS t7_1))))) (zq8 : sl 8 = .v (.c (.d (.sc (.int .i64 t8))))) (zq9 : sl 9 = .v (.c (.d (.sc (.int .i64 t9))))) :
    stepE (K23_6 (mm := mm)) (loopK 3 [(0, .keep), (7, .keep), (8, .keep), (9, .keep)] (den (E0 mm) 23 3 (callW (E0 mm)) itW c23_13 none ⟨sl, [.cells (enI h0), .cells [.mp 2], .amap (enM gm2)]⟩)) = (j23_13v1 gm2 numbers0_1 t7_0 t7_1 t8 t9 h0).map (sm (en23_6 gm2) (e23 gm2)) := by
  simp -implicitDefEqProofs only [j23_13v1, c23_13_e, c23_14_e, c23_15_e, c23_16_r, (show opsOf c23_16 = _ :: _ from rfl), Tryd.underlying30, sz9, enS_a, zq0, zq7, zq8, zq9, setA, setB, za, zb, zc, zd, ze, zf, zg, zh, zi, zj, zk, zl, zm, zn, zo, zp, reduceCtorEq, zE, ↓reduceIte]
  refine brP (fun yc10 => ?_) (fun yc10 => ?_)
  · have yd11 : t9.toNat < t7_1.length := by omega
    simp -implicitDefEqProofs only [(enL_get enS t7_1 t9.toNat yd11), enS_e, sz9, ag9, c23_17_e, c23_18_r, (show opsOf c23_18 = _ :: _ from rfl), (show c23_19 = Code.cond _ c23_20 c23_21 from rfl), zq0, zq7, zq8, zq9, yc10, yd11, setA, setB, za, zb, zc, zd, ze, zf, zg, zh, zi, zj, zk, zl, zm, zn, zo, zp, reduceCtorEq, zE, ↓reduceIte]
    refine brB (fun yc12 => ?_) (fun yc12 => ?_)
    · simp -implicitDefEqProofs only [c23_20_r, (show opsOf c23_20 = _ :: _ from rfl), Tryd.underlying45, sz3, zq0, zq7, zq8, zq9, yc10, yd11, yc12, setA, setB, za, zb, zc, zd, ze, zf, zg, zh, zi, zj, zk, zl, zm, zn, zo, zp, reduceCtorEq, zE, ↓reduceIte]
      refine brP (fun yc13 => ?_) (fun yc13 => ?_)
      · have yd14 : t9.toNat < numbers0_1 := by omega
        simp -implicitDefEqProofs only [sz3, enI_length, enI_wr, zq0, zq7, zq8, zq9, yc10, yd11, yc12, yc13, yd14, setA, setB, za, zb, zc, zd, ze, zf, zg, zh, zi, zj, zk, zl, zm, zn, zo, zp, reduceCtorEq, zE, ↓reduceIte]
        refine brP (fun yc15 => ?_) (fun yc15 => ?_)
        · simp -implicitDefEqProofs only [zq0, zq7, zq8, zq9, yc10, yd11, yc12, yc13, yd14, yc15, setA, setB, za, zb, zc, zd, ze, zf, zg, zh, zi, zj, zk, zl, zm, zn, zo, zp, reduceCtorEq, zE, ↓reduceIte]
          exact j23_22_t gm2 numbers0_1 t7_0 t7_1 t8 t9 (h0.set t9.toNat (2147483647 : Int)) _ (by exact zq0) (by exact zq7) (by exact zq8) (by exact zq9)
        · rw [if_neg yc15]; rfl
      · rw [if_neg yc13]; rfl
    · simp -implicitDefEqProofs only [c23_21_e, zq0, zq7, zq8, zq9, yc10, yd11, yc12, setA, setB, za, zb, zc, zd, ze, zf, zg, zh, zi, zj, zk, zl, zm, zn, zo, zp, reduceCtorEq, zE, ↓reduceIte]
      exact j23_22_t gm2 numbers0_1 t7_0 t7_1 t8 t9 h0 _ (by exact zq0) (by exact zq7) (by exact zq8) (by exact zq9)
  · rw [if_neg yc10]; rfl
def j23_23v1 (gm2 : List (Bs × List Bs)) (numbers0_1 : Nat) (h0 : List Int) : Option R23 :=
  (m21a numbers0_1 h0).bind fun yr17 =>
    some (yr17.1, yr17.2)
theorem j23_23v1_t (gm2 : List (Bs × List Bs)) (numbers0_1 : Nat) (h0 : List Int)  (sl : Nat → AV) (zq0 : sl 0 = .v (.c (.slc 0 0 1 numbers0_1 none))) :
    bodyD (E0 mm) [.tmp 3] 3 false (den (E0 mm) 23 3 (callW (E0 mm)) itW c23_23 none ⟨sl, [.cells (enI h0), .cells [.mp 2], .amap (enM gm2)]⟩) = (j23_23v1 gm2 numbers0_1 h0).map (e23 gm2) := by
  simp -implicitDefEqProofs only [j23_23v1, c23_23_e, c23_24_r, (show opsOf c23_24 = _ :: _ from rfl), ent21, prm21, f21a_t, zq0, setA, setB, za, zb, zc, zd, ze, zf, zg, zh, zi, zj, zk, zl, zm, zn, zo, zp, reduceCtorEq, zE, ↓reduceIte]
  refine brM (fun yc16 => ?_) (fun yr17 yc16 => ?_)
  · rw [yc16]; rfl
  · simp -implicitDefEqProofs only [e21a, c23_25_e, zq0, yc16, setA, setB, za, zb, zc, zd, ze, zf, zg, zh, zi, zj, zk, zl, zm, zn, zo, zp, reduceCtorEq, zE, ↓reduceIte]
    all_goals rfl
def s23_6x1 (gm2 : List (Bs × List Bs)) (numbers0_1 : Nat) (t7_0 : Bool) (t7_1 : List Bs) (t8 t9 : Int) (h0 : List Int) : Option (((Bool × List Bs × Int × Int × List Int) ⊕ (Nat × Bool × List Bs × Int × Int × List Int)) ⊕ R23) :=
  if (decide (t9 < t8)) = true then
    j23_13v1 gm2 numbers0_1 t7_0 t7_1 t8 t9 h0
  else
    (j23_23v1 gm2 numbers0_1 h0).map .inr
theorem s23_6x1_t (gm2 : List (Bs × List Bs)) (numbers0_1 : Nat) (t7_0 : Bool) (t7_1 : List Bs) (t8 t9 : Int) (h0 : List Int) :
    stepE (K23_6 (mm := mm)) (loopF (E0 mm) 23 3 (callW (E0 mm)) itW c23_7 [(0, .keep), (7, .keep), (8, .keep), (9, .keep)] (none, [.v (.c (.slc 0 0 1 numbers0_1 none)), .v (.c (.d (.lst t7_0 (enL enS t7_1)))), .v (.c (.d (.sc (.int .i64 t8)))), .v (.c (.d (.sc (.int .i64 t9))))], [.cells (enI h0), .cells [.mp 2], .amap (enM gm2)])) = (s23_6x1 gm2 numbers0_1 t7_0 t7_1 t8 t9 h0).map (sm (en23_6 gm2) (e23 gm2)) := by
  simp -implicitDefEqProofs only [s23_6x1, loopF_eq, c23_7_e, c23_8_r, (show opsOf c23_8 = _ :: _ from rfl), c23_9_e, (show c23_10 = Code.cond _ c23_11 c23_12 from rfl), setA, setB, za, zb, zc, zd, ze, zf, zg, zh, zi, zj, zk, zl, zm, zn, zo, zp, reduceCtorEq, zE, ↓reduceIte]
  refine brB (fun yc9 => ?_) (fun yc9 => ?_)
  · simp -implicitDefEqProofs only [c23_11_e, yc9, setA, setB, za, zb, zc, zd, ze, zf, zg, zh, zi, zj, zk, zl, zm, zn, zo, zp, reduceCtorEq, zE, ↓reduceIte]
    exact j23_13v1_t gm2 numbers0_1 t7_0 t7_1 t8 t9 h0 _ (by rfl) (by rfl) (by rfl) (by rfl)
  · simp -implicitDefEqProofs only [c23_12_e, K23_6, yc9, setA, setB, za, zb, zc, zd, ze, zf, zg, zh, zi, zj, zk, zl, zm, zn, zo, zp, reduceCtorEq, zE, ↓reduceIte]
    exact mi (j23_23v1_t gm2 numbers0_1 h0 _ (by rfl))
def s23_6 (gm2 : List (Bs × List Bs)) : ((Bool × List Bs × Int × Int × List Int) ⊕ (Nat × Bool × List Bs × Int × Int × List Int)) → Option (((Bool × List Bs × Int × Int × List Int) ⊕ (Nat × Bool × List Bs × Int × Int × List Int)) ⊕ R23) := fun x => match x with
  | (.inl x) => s23_6x0 gm2 x.1 x.2.1 x.2.2.1 x.2.2.2.1 x.2.2.2.2
  | (.inr x) => s23_6x1 gm2 x.1 x.2.1 x.2.2.1 x.2.2.2.1 x.2.2.2.2.1 x.2.2.2.2.2
def l23_6 (gm2 : List (Bs × List Bs)) (t7_0 : Bool) (t7_1 : List Bs) (t8 t9 : Int) (h0 : List Int) : Option R23 := iter (s23_6 gm2) (.inl (t7_0, t7_1, t8, t9, h0))
theorem l23_6_t (gm2 : List (Bs × List Bs)) (t7_0 : Bool) (t7_1 : List Bs) (t8 t9 : Int) (h0 : List Int) : bodyD (E0 mm) [.tmp 3] 3 false (seqD (E0 mm) 23 3 (callW (E0 mm)) itW c23_23 (blockD 0 (itW (loopF (E0 mm) 23 3 (callW (E0 mm)) itW c23_7 [(0, .keep), (7, .keep), (8, .keep), (9, .keep)]) (none, [.v (.c (.slc 0 0 1 h0.length none)), .v (.c (.d (.lst t7_0 (enL enS t7_1)))), .v (.c (.d (.sc (.int .i64 t8)))), .v (.c (.d (.sc (.int .i64 t9))))], [.cells (enI h0), .cells [.mp 2], .amap (enM gm2)])))) = (l23_6 gm2 t7_0 t7_1 t8 t9 h0).map (e23 gm2) :=
  it_sim (K := (K23_6 (mm := mm))) rfl (enc := (en23_6 gm2)) (fun x => match x with
  | (.inl x) => s23_6x0_t gm2 x.1 x.2.1 x.2.2.1 x.2.2.2.1 x.2.2.2.2
  | (.inr x) => s23_6x1_t gm2 x.1 x.2.1 x.2.2.1 x.2.2.2.1 x.2.2.2.2.1 x.2.2.2.2.2) (.inl (t7_0, t7_1, t8, t9, h0))
def m23 (h0 : List Int) (gm2 : List (Bs × List Bs)) : Option R23 :=
  l23_6 gm2 (!(hasM ([109, 97, 120, 45, 115, 116, 97, 108, 101] : Bs) gm2)) (valM ([109, 97, 120, 45, 115, 116, 97, 108, 101] : Bs) gm2) ((valM ([109, 97, 120, 45, 115, 116, 97, 108, 101] : Bs) gm2).length : Int) (0 : Int) h0
theorem f23_t (h0 : List Int) (gm2 : List (Bs × List Bs)) :
    callW (E0 mm) 23 [.c (.slc 0 0 1 h0.length none), .c (.ptr 1 0)] [.cells (enI h0), .cells [.mp 2], .amap (enM gm2)] = (m23 h0 gm2).map (e23 gm2) := by
  rw [callW_run (body := c23_0) (res := [.tmp 3]) Tryd.func23 rfl rfl (by kernel_rfl)]
  simp -implicitDefEqProofs only [m23, slots2, c23_0_e, c23_1_r, (show opsOf c23_1 = _ :: _ from rfl), c23_2_e, c23_3_e, c23_4_r, (show opsOf c23_4 = _ :: _ from rfl), sz40, ag40, Tryd.underlying40, Tryd.underlying9, zv30, Tryd.underlying30, c23_5_e, c23_6_l, setA, setB, za, zb, zc, zd, ze, zf, zg, zh, zi, zj, zk, zl, zm, zn, zo, zp, reduceCtorEq, zE, ↓reduceIte]
  exact l23_6_t gm2 (!(hasM ([109, 97, 120, 45, 115, 116, 97, 108, 101] : Bs) gm2)) (valM ([109, 97, 120, 45, 115, 116, 97, 108, 101] : Bs) gm2) ((valM ([109, 97, 120, 45, 115, 116, 97, 108, 101] : Bs) gm2).length : Int) (0 : Int) h0
abbrev R20b := (Int)
def e20b (gm1 : List (Bs × List Bs)) : R20b → AV × Heap := fun x => (.v (.c (.d (.sc (.int .i64 x)))), [.cells [.mp 1], .amap (enM gm1)])
def K20b_8 : Option (Ex × St) → Option (AV × Heap) := fun r => bodyD (E0 mm) [.tmp 4] 2 false (seqD (E0 mm) 20 2 (callW (E0 mm)) itW c20_21 (blockD 0 (r)))
def en20b_8 (gm1 : List (Bs × List Bs)) : ((Bool × List Bs × Int × Int) ⊕ (Bool × List Bs × Int × Int × List Int)) → X := fun x => match x with
  | (.inl x) => (none, [.v (.c (.fn 23 [(0, 0)])), .v (.c (.d (.lst true []))), .v (.c (.d (.lst x.1 (enL enS x.2.1)))), .v (.c (.d (.sc (.int .i64 x.2.2.1)))), .v (.c (.d (.sc (.int .i64 x.2.2.2))))], [.cells [.mp 1], .amap (enM gm1)])
  | (.inr x) => (none, [.v (.c (.fn 23 [(0, 0)])), .v (.c (.slc 2 0 1 x.2.2.2.2.length none)), .v (.c (.d (.lst x.1 (enL enS x.2.1)))), .v (.c (.d (.sc (.int .i64 x.2.2.1)))), .v (.c (.d (.sc (.int .i64 x.2.2.2.1))))], [.cells [.mp 1], .amap (enM gm1), .cells (enI x.2.2.2.2)])
def j20b_20 (gm1 : List (Bs × List Bs)) (t8_0 : Bool) (t8_1 : List Bs) (t9 t10 : Int) (h3 : List Int) : Option (((Bool × List Bs × Int × Int) ⊕ (Bool × List Bs × Int × Int × List Int)) ⊕ R20b) :=
  some (.inl (.inr (t8_0, t8_1, t9, (w64 (t10 + 1)), h3)))
theorem j20b_20_t (gm1 : List (Bs × List Bs)) (t8_0 : Bool) (t8_1 : List Bs) (t9 t10 : Int) (h3 : List Int) (g2 : Ob) (sl : Nat → AV) (zq1 : sl 1 = .v (.c (.fn 23 [(0, 0)]))) (zq5 : sl 5 = .v (.c (.slc 3 0 1 h3.length none))) (zq8 : sl 8 = .v (.c (.d (.lst t8_0 (enL enS t8_1))))) (zq9 : sl 9 = .v (.c (.d (.sc (.int .i64 t9))))) (zq10 : sl 10 = .v (.c (.d (.sc (.int .i64 t10))))) :
    stepE (K20b_8 (mm := mm)) (loopK 2 [(1, .keep), (5, .keep), (8, .keep), (9, .keep), (10, .keep)] (den (E0 mm) 20 2 (callW (E0 mm)) itW c20_20 none ⟨sl, [.cells [.mp 1], .amap (enM gm1), g2, .cells (enI h3)]⟩)) = (j20b_20 gm1 t8_0 t8_1 t9 t10 h3).map (sm (en20b_8 gm1) (e20b gm1)) := by
  simp -implicitDefEqProofs only [j20b_20, c20_20_r, (show opsOf c20_20 = _ :: _ from rfl), zq1, zq5, zq8, zq9, zq10, setA, setB, za, zb, zc, zd, ze, zf, zg, zh, zi, zj, zk, zl, zm, zn, zo, zp, reduceCtorEq, zE, ↓reduceIte]
  all_goals rfl
def j20b_15 (gm1 : List (Bs × List Bs)) (t8_0 : Bool) (t8_1 : List Bs) (t9 t10 : Int) : Option (((Bool × List Bs × Int × Int) ⊕ (Bool × List Bs × Int × Int × List Int)) ⊕ R20b) :=
  if 0 ≤ t10 ∧ t10 < (t8_1.length : Int) then
    (m38 (t8_1.getD t10.toNat default)).bind fun yr5 =>
      j20b_20 gm1 t8_0 t8_1 t9 t10 ([yr5] : List Int)
  else none
theorem j20b_15_t (gm1 : List (Bs × List Bs)) (t8_0 : Bool) (t8_1 : List Bs) (t9 t10 : Int)  (sl : Nat → AV) (zq1 : sl 1 = .v (.c (.fn 23 [(0, 0)]))) (zq5 : sl 5 = .v (.c (.d (.lst true [])))) (zq8 : sl 8 = .v (.c (.d (.lst t8_0 (enL enS t8_1))))) (zq9 : sl 9 = .v (.c (.d (.sc (.int .i64 t9))))) (zq10 : sl 10 = .v (.c (.d (.sc (.int .i64 t10))))) :
    stepE (K20b_8 (mm := mm)) (loopK 2 [(1, .keep), (5, .keep), (8, .keep), (9, .keep), (10, .keep)] (den (E0 mm) 20 2 (callW (E0 mm)) itW c20_15 none ⟨sl, [.cells [.mp 1], .amap (enM gm1)]⟩)) = (j20b_15 gm1 t8_0 t8_1 t9 t10).map (sm (en20b_8 gm1) (e20b gm1)) := by
  simp -implicitDefEqProofs only [j20b_15, c20_15_e, c20_16_e, c20_17_e, c20_18_r, (show opsOf c20_18 = _ :: _ from rfl), Tryd.underlying30, sz9, enS_a, zq1, zq5, zq8, zq9, zq10, setA, setB, za, zb, zc, zd, ze, zf, zg, zh, zi, zj, zk, zl, zm, zn, zo, zp, reduceCtorEq, zE, ↓reduceIte]
  refine brP (fun yc2 => ?_) (fun yc2 => ?_)
  · have yd3 : t10.toNat < t8_1.length := by omega
    simp -implicitDefEqProofs only [(enL_get enS t8_1 t10.toNat yd3), enS_e, sz9, ag9, c20_19_r, (show opsOf c20_19 = _ :: _ from rfl), ent38, prm38, f38_t, zq1, zq5, zq8, zq9, zq10, yc2, yd3, setA, setB, za, zb, zc, zd, ze, zf, zg, zh, zi, zj, zk, zl, zm, zn, zo, zp, reduceCtorEq, zE, ↓reduceIte]
    refine brM (fun yc4 => ?_) (fun yr5 yc4 => ?_)
    · rw [yc4]; rfl
    · simp -implicitDefEqProofs only [e38, Tryd.underlying45, sz3, zc3, hd33, nv34, rw35, nh36, enI_length, enI1_src, ah45hnil, zq1, zq5, zq8, zq9, zq10, yc2, yd3, yc4, setA, setB, za, zb, zc, zd, ze, zf, zg, zh, zi, zj, zk, zl, zm, zn, zo, zp, reduceCtorEq, zE, ↓reduceIte]
      exact j20b_20_t gm1 t8_0 t8_1 t9 t10 ([yr5] : List Int) _ _ (by exact zq1) (by rfl) (by exact zq8) (by exact zq9) (by exact zq10)
  · rw [if_neg yc2]; rfl
def j20b_21 (gm1 : List (Bs × List Bs))  : Option R20b :=
  some (-1 : Int)
theorem j20b_21_t (gm1 : List (Bs × List Bs))   (sl : Nat → AV) (zq1 : sl 1 = .v (.c (.fn 23 [(0, 0)]))) (zq5 : sl 5 = .v (.c (.d (.lst true [])))) :
    bodyD (E0 mm) [.tmp 4] 2 false (den (E0 mm) 20 2 (callW (E0 mm)) itW c20_21 none ⟨sl, [.cells [.mp 1], .amap (enM gm1)]⟩) = (j20b_21 gm1).map (e20b gm1) := by
  simp -implicitDefEqProofs only [j20b_21, c20_21_e, c20_22_e, c20_23_r, (show opsOf c20_23 = _ :: _ from rfl), Tryd.underlying45, (show c20_24 = Code.cond _ c20_25 c20_28 from rfl), c20_25_e, c20_26_r, (show opsOf c20_26 = _ :: _ from rfl), c20_27_e, zq1, zq5, setA, setB, za, zb, zc, zd, ze, zf, zg, zh, zi, zj, zk, zl, zm, zn, zo, zp, reduceCtorEq, zE, ↓reduceIte]
  all_goals rfl
def s20b_8x0 (gm1 : List (Bs × List Bs)) (t8_0 : Bool) (t8_1 : List Bs) (t9 t10 : Int) : Option (((Bool × List Bs × Int × Int) ⊕ (Bool × List Bs × Int × Int × List Int)) ⊕ R20b) :=
  if (decide (t10 < t9)) = true then
    j20b_15 gm1 t8_0 t8_1 t9 t10
  else
    (j20b_21 gm1).map .inr
theorem s20b_8x0_t (gm1 : List (Bs × List Bs)) (t8_0 : Bool) (t8_1 : List Bs) (t9 t10 : Int) :
    stepE (K20b_8 (mm := mm)) (loopF (E0 mm) 20 2 (callW (E0 mm)) itW c20_9 [(1, .keep), (5, .keep), (8, .keep), (9, .keep), (10, .keep)] (none, [.v (.c (.fn 23 [(0, 0)])), .v (.c (.d (.lst true []))), .v (.c (.d (.lst t8_0 (enL enS t8_1)))), .v (.c (.d (.sc (.int .i64 t9)))), .v (.c (.d (.sc (.int .i64 t10))))], [.cells [.mp 1], .amap (enM gm1)])) = (s20b_8x0 gm1 t8_0 t8_1 t9 t10).map (sm (en20b_8 gm1) (e20b gm1)) := by
  simp -implicitDefEqProofs only [s20b_8x0, loopF_eq, c20_9_e, c20_10_r, (show opsOf c20_10 = _ :: _ from rfl), c20_11_e, (show c20_12 = Code.cond _ c20_13 c20_14 from rfl), setA, setB, za, zb, zc, zd, ze, zf, zg, zh, zi, zj, zk, zl, zm, zn, zo, zp, reduceCtorEq, zE, ↓reduceIte]
  refine brB (fun yc1 => ?_) (fun yc1 => ?_)
  · simp -implicitDefEqProofs only [c20_13_e, yc1, setA, setB, za, zb, zc, zd, ze, zf, zg, zh, zi, zj, zk, zl, zm, zn, zo, zp, reduceCtorEq, zE, ↓reduceIte]
    exact j20b_15_t gm1 t8_0 t8_1 t9 t10 _ (by rfl) (by rfl) (by rfl) (by rfl) (by rfl)
  · simp -implicitDefEqProofs only [c20_14_e, K20b_8, yc1, setA, setB, za, zb, zc, zd, ze, zf, zg, zh, zi, zj, zk, zl, zm, zn, zo, zp, reduceCtorEq, zE, ↓reduceIte]
    exact mi (j20b_21_t gm1 _ (by rfl) (by rfl))
def j20b_20v1 (gm1 : List (Bs × List Bs)) (t8_0 : Bool) (t8_1 : List Bs) (t9 t10 : Int) (h4 : List Int) : Option (((Bool × List Bs × Int × Int) ⊕ (Bool × List Bs × Int × Int × List Int)) ⊕ R20b) :=
  some (.inl (.inr (t8_0, t8_1, t9, (w64 (t10 + 1)), h4)))
theorem j20b_20v1_t (gm1 : List (Bs × List Bs)) (t8_0 : Bool) (t8_1 : List Bs) (t9 t10 : Int) (h4 : List Int) (g2 g3 : Ob) (sl : Nat → AV) (zq1 : sl 1 = .v (.c (.fn 23 [(0, 0)]))) (zq5 : sl 5 = .v (.c (.slc 4 0 1 h4.length none))) (zq8 : sl 8 = .v (.c (.d (.lst t8_0 (enL enS t8_1))))) (zq9 : sl 9 = .v (.c (.d (.sc (.int .i64 t9))))) (zq10 : sl 10 = .v (.c (.d (.sc (.int .i64 t10))))) :
    stepE (K20b_8 (mm := mm)) (loopK 2 [(1, .keep), (5, .keep), (8, .keep), (9, .keep), (10, .keep)] (den (E0 mm) 20 2 (callW (E0 mm)) itW c20_20 none ⟨sl, [.cells [.mp 1], .amap (enM gm1), g2, g3, .cells (enI h4)]⟩)) = (j20b_20v1 gm1 t8_0 t8_1 t9 t10 h4).map (sm (en20b_8 gm1) (e20b gm1)) := by
  simp -implicitDefEqProofs only [j20b_20v1, c20_20_r, (show opsOf c20_20 = _ :: _ from rfl), zq1, zq5, zq8, zq9, zq10, setA, setB, za, zb, zc, zd, ze, zf, zg, zh, zi, zj, zk, zl, zm, zn, zo, zp, reduceCtorEq, zE, ↓reduceIte]
  all_goals rfl
def j20b_15v1 (gm1 : List (Bs × List Bs)) (t8_0 : Bool) (t8_1 : List Bs) (t9 t10 : Int) (h2 : List Int) : Option (((Bool × List Bs × Int × Int) ⊕ (Bool × List Bs × Int × Int × List Int)) ⊕ R20b) :=
  if 0 ≤ t10 ∧ t10 < (t8_1.length : Int) then
    (m38 (t8_1.getD t10.toNat default)).bind fun yr10 =>
      if (h2.length + 1) * 8 ≤ 140737488355328 then
        j20b_20v1 gm1 t8_0 t8_1 t9 t10 (h2 ++ ([yr10] : List Int))
      else none
  else none
theorem j20b_15v1_t (gm1 : List (Bs × List Bs)) (t8_0 : Bool) (t8_1 : List Bs) (t9 t10 : Int) (h2 : List Int)  (sl : Nat → AV) (zq1 : sl 1 = .v (.c (.fn 23 [(0, 0)]))) (zq5 : sl 5 = .v (.c (.slc 2 0 1 h2.length none))) (zq8 : sl 8 = .v (.c (.d (.lst t8_0 (enL enS t8_1))))) (zq9 : sl 9 = .v (.c (.d (.sc (.int .i64 t9))))) (zq10 : sl 10 = .v (.c (.d (.sc (.int .i64 t10))))) :
    stepE (K20b_8 (mm := mm)) (loopK 2 [(1, .keep), (5, .keep), (8, .keep), (9, .keep), (10, .keep)] (den (E0 mm) 20 2 (callW (E0 mm)) itW c20_15 none ⟨sl, [.cells [.mp 1], .amap (enM gm1), .cells (enI h2)]⟩)) = (j20b_15v1 gm1 t8_0 t8_1 t9 t10 h2).map (sm (en20b_8 gm1) (e20b gm1)) := by
  simp -implicitDefEqProofs only [j20b_15v1, c20_15_e, c20_16_e, c20_17_e, c20_18_r, (show opsOf c20_18 = _ :: _ from rfl), Tryd.underlying30, sz9, enS_a, zq1, zq5, zq8, zq9, zq10, setA, setB, za, zb, zc, zd, ze, zf, zg, zh, zi, zj, zk, zl, zm, zn, zo, zp, reduceCtorEq, zE, ↓reduceIte]
  refine brP (fun yc7 => ?_) (fun yc7 => ?_)
  · have yd8 : t10.toNat < t8_1.length := by omega
    simp -implicitDefEqProofs only [(enL_get enS t8_1 t10.toNat yd8), enS_e, sz9, ag9, c20_19_r, (show opsOf c20_19 = _ :: _ from rfl), ent38, prm38, f38_t, zq1, zq5, zq8, zq9, zq10, yc7, yd8, setA, setB, za, zb, zc, zd, ze, zf, zg, zh, zi, zj, zk, zl, zm, zn, zo, zp, reduceCtorEq, zE, ↓reduceIte]
    refine brM (fun yc9 => ?_) (fun yr10 yc9 => ?_)
    · rw [yc9]; rfl
    · simp -implicitDefEqProofs only [e38, Tryd.underlying45, sz3, zc3, hd33, nv34, rw35, nh36, enI_length, enI1_src, ah45hslc, zq1, zq5, zq8, zq9, zq10, yc7, yd8, yc9, setA, setB, za, zb, zc, zd, ze, zf, zg, zh, zi, zj, zk, zl, zm, zn, zo, zp, reduceCtorEq, zE, ↓reduceIte]
      refine brP (fun yc11 => ?_) (fun yc11 => ?_)
      · simp -implicitDefEqProofs only [zq1, zq5, zq8, zq9, zq10, yc7, yd8, yc9, yc11, setA, setB, za, zb, zc, zd, ze, zf, zg, zh, zi, zj, zk, zl, zm, zn, zo, zp, reduceCtorEq, zE, ↓reduceIte]
        exact j20b_20v1_t gm1 t8_0 t8_1 t9 t10 (h2 ++ ([yr10] : List Int)) _ _ _ (by exact zq1) (by rfl) (by exact zq8) (by exact zq9) (by exact zq10)
      · rw [if_neg yc11]; rfl
  · rw [if_neg yc7]; rfl
def j20b_21v1 (gm1 : List (Bs × List Bs)) (h2 : List Int) : Option R20b :=
  if ((h2.length : Int) == 0) = true then
    some (-1 : Int)
  else
    (m23 h2 gm1).bind fun yr14 =>
      some yr14.1
theorem j20b_21v1_t (gm1 : List (Bs × List Bs)) (h2 : List Int)  (sl : Nat → AV) (zq1 : sl 1 = .v (.c (.fn 23 [(0, 0)]))) (zq5 : sl 5 = .v (.c (.slc 2 0 1 h2.length none))) :
    bodyD (E0 mm) [.tmp 4] 2 false (den (E0 mm) 20 2 (callW (E0 mm)) itW c20_21 none ⟨sl, [.cells [.mp 1], .amap (enM gm1), .cells (enI h2)]⟩) = (j20b_21v1 gm1 h2).map (e20b gm1) := by
  simp -implicitDefEqProofs only [j20b_21v1, c20_21_e, c20_22_e, c20_23_r, (show opsOf c20_23 = _ :: _ from rfl), Tryd.underlying45, (show c20_24 = Code.cond _ c20_25 c20_28 from rfl), zq1, zq5, setA, setB, za, zb, zc, zd, ze, zf, zg, zh, zi, zj, zk, zl, zm, zn, zo, zp, reduceCtorEq, zE, ↓reduceIte]
  refine brB (fun yc12 => ?_) (fun yc12 => ?_)
  · simp -implicitDefEqProofs only [c20_25_e, c20_26_r, (show opsOf c20_26 = _ :: _ from rfl), c20_27_e, zq1, zq5, yc12, setA, setB, za, zb, zc, zd, ze, zf, zg, zh, zi, zj, zk, zl, zm, zn, zo, zp, reduceCtorEq, zE, ↓reduceIte]
    all_goals rfl
  · simp -implicitDefEqProofs only [c20_28_e, c20_29_e, c20_30_r, (show opsOf c20_30 = _ :: _ from rfl), ent23, prm23, f23_t, zq1, zq5, yc12, setA, setB, za, zb, zc, zd, ze, zf, zg, zh, zi, zj, zk, zl, zm, zn, zo, zp, reduceCtorEq, zE, ↓reduceIte]
    refine brM (fun yc13 => ?_) (fun yr14 yc13 => ?_)
    · rw [yc13]; rfl
    · simp -implicitDefEqProofs only [e23, c20_31_e, zq1, zq5, yc12, yc13, setA, setB, za, zb, zc, zd, ze, zf, zg, zh, zi, zj, zk, zl, zm, zn, zo, zp, reduceCtorEq, zE, ↓reduceIte]
      all_goals rfl
def s20b_8x1 (gm1 : List (Bs × List Bs)) (t8_0 : Bool) (t8_1 : List Bs) (t9 t10 : Int) (h2 : List Int) : Option (((Bool × List Bs × Int × Int) ⊕ (Bool × List Bs × Int × Int × List Int)) ⊕ R20b) :=
  if (decide (t10 < t9)) = true then
    j20b_15v1 gm1 t8_0 t8_1 t9 t10 h2
  else
    (j20b_21v1 gm1 h2).map .inr
theorem s20b_8x1_t (gm1 : List (Bs × List Bs)) (t8_0 : Bool) (t8_1 : List Bs) (t9 t10 : Int) (h2 : List Int) :
    stepE (K20b_8 (mm := mm)) (loopF (E0 mm) 20 2 (callW (E0 mm)) itW c20_9 [(1, .keep), (5, .keep), (8, .keep), (9, .keep), (10, .keep)] (none, [.v (.c (.fn 23 [(0, 0)])), .v (.c (.slc 2 0 1 h2.length none)), .v (.c (.d (.lst t8_0 (enL enS t8_1)))), .v (.c (.d (.sc (.int .i64 t9)))), .v (.c (.d (.sc (.int .i64 t10))))], [.cells [.mp 1], .amap (enM gm1), .cells (enI h2)])) = (s20b_8x1 gm1 t8_0 t8_1 t9 t10 h2).map (sm (en20b_8 gm1) (e20b gm1)) := by
  simp -implicitDefEqProofs only [s20b_8x1, loopF_eq, c20_9_e, c20_10_r, (show opsOf c20_10 = _ :: _ from rfl), c20_11_e, (show c20_12 = Code.cond _ c20_13 c20_14 from rfl), setA, setB, za, zb, zc, zd, ze, zf, zg, zh, zi, zj, zk, zl, zm, zn, zo, zp, reduceCtorEq, zE, ↓reduceIte]
  refine brB (fun yc6 => ?_) (fun yc6 => ?_)
  · simp -implicitDefEqProofs only [c20_13_e, yc6, setA, setB, za, zb, zc, zd, ze, zf, zg, zh, zi, zj, zk, zl, zm, zn, zo, zp, reduceCtorEq, zE, ↓reduceIte]
    exact j20b_15v1_t gm1 t8_0 t8_1 t9 t10 h2 _ (by rfl) (by rfl) (by rfl) (by rfl) (by rfl)
  · simp -implicitDefEqProofs only [c20_14_e, K20b_8, yc6, setA, setB, za, zb, zc, zd, ze, zf, zg, zh, zi, zj, zk, zl, zm, zn, zo, zp, reduceCtorEq, zE, ↓reduceIte]
    exact mi (j20b_21v1_t gm1 h2 _ (by rfl) (by rfl))
def s20b_8 (gm1 : List (Bs × List Bs)) : ((Bool × List Bs × Int × Int) ⊕ (Bool × List Bs × Int × Int × List Int)) → Option (((Bool × List Bs × Int × Int) ⊕ (Bool × List Bs × Int × Int × List Int)) ⊕ R20b) := fun x => match x with
  | (.inl x) => s20b_8x0 gm1 x.1 x.2.1 x.2.2.1 x.2.2.2
  | (.inr x) => s20b_8x1 gm1 x.1 x.2.1 x.2.2.1 x.2.2.2.1 x.2.2.2.2
def l20b_8 (gm1 : List (Bs × List Bs)) (t8_0 : Bool) (t8_1 : List Bs) (t9 t10 : Int) : Option R20b := iter (s20b_8 gm1) (.inl (t8_0, t8_1, t9, t10))
theorem l20b_8_t (gm1 : List (Bs × List Bs)) (t8_0 : Bool) (t8_1 : List Bs) (t9 t10 : Int) : bodyD (E0 mm) [.tmp 4] 2 false (seqD (E0 mm) 20 2 (callW (E0 mm)) itW c20_21 (blockD 0 (itW (loopF (E0 mm) 20 2 (callW (E0 mm)) itW c20_9 [(1, .keep), (5, .keep), (8, .keep), (9, .keep), (10, .keep)]) (none, [.v (.c (.fn 23 [(0, 0)])), .v (.c (.d (.lst true []))), .v (.c (.d (.lst t8_0 (enL enS t8_1)))), .v (.c (.d (.sc (.int .i64 t9)))), .v (.c (.d (.sc (.int .i64 t10))))], [.cells [.mp 1], .amap (enM gm1)])))) = (l20b_8 gm1 t8_0 t8_1 t9 t10).map (e20b gm1) :=
  it_sim (K := (K20b_8 (mm := mm))) rfl (enc := (en20b_8 gm1)) (fun x => match x with
  | (.inl x) => s20b_8x0_t gm1 x.1 x.2.1 x.2.2.1 x.2.2.2
  | (.inr x) => s20b_8x1_t gm1 x.1 x.2.1 x.2.2.1 x.2.2.2.1 x.2.2.2.2) (.inl (t8_0, t8_1, t9, t10))
def m20b (values_0 : Bool) (values_1 : List Bs) (gm1 : List (Bs × List Bs)) : Option R20b :=
  l20b_8 gm1 values_0 values_1 (values_1.length : Int) (0 : Int)
theorem f20b_t (values_0 : Bool) (values_1 : List Bs) (gm1 : List (Bs × List Bs)) :
    callW (E0 mm) 20 [.c (.d (.lst values_0 (enL enS values_1))), .c (.fn 23 [(0, 0)])] [.cells [.mp 1], .amap (enM gm1)] = (m20b values_0 values_1 gm1).map (e20b gm1) := by
  rw [callW_run (body := c20_0) (res := [.tmp 4]) Tryd.func20 rfl rfl (by kernel_rfl)]
  simp -implicitDefEqProofs only [m20b, slots2, c20_0_e, c20_1_r, (show opsOf c20_1 = _ :: _ from rfl), c20_2_e, c20_3_r, (show opsOf c20_3 = _ :: _ from rfl), c20_4_e, c20_5_e, c20_6_r, (show opsOf c20_6 = _ :: _ from rfl), Tryd.underlying30, c20_7_e, c20_8_l, setA, setB, za, zb, zc, zd, ze, zf, zg, zh, zi, zj, zk, zl, zm, zn, zo, zp, reduceCtorEq, zE, ↓reduceIte]
  exact l20b_8_t gm1 values_0 values_1 (values_1.length : Int) (0 : Int)
noncomputable def c26_0 : Code := bodyOf Tryd.f26
def c26_1 := cA c26_0
def c26_2 := cB c26_0
def c26_3 := cA c26_2
def c26_4 := cB c26_2
theorem c26_0_e : c26_0 = .seq c26_1 c26_2 := rfl
theorem c26_1_r : RG (E0 mm) 26 c26_1 := rgN rfl
theorem c26_2_e : c26_2 = .seq c26_3 c26_4 := rfl
theorem c26_3_r : RG (E0 mm) 26 c26_3 := rgN rfl
theorem c26_4_e : c26_4 = .ret := rfl
abbrev R26 := (Bool)
def e26 : R26 → AV × Heap := fun x => (.v (.c (.d (.sc (.bool x)))), [])
def m26 (x0 : Bs) : Option R26 :=
  (m15 x0 ([110, 111, 45, 99, 97, 99, 104, 101] : Bs)).bind fun yr2 =>
    some yr2
theorem f26_t (x0 : Bs) :
    callW (E0 mm) 26 [.c (.d (.sc (.string (S x0))))] [] = (m26 x0).map e26 := by
  rw [callW_run (body := c26_0) (res := [.tmp 2]) Tryd.func26 rfl rfl (by kernel_rfl)]
  simp -implicitDefEqProofs only [m26, slots1, c26_0_e, c26_1_r, (show opsOf c26_1 = _ :: _ from rfl), c26_2_e, c26_3_r, (show opsOf c26_3 = _ :: _ from rfl), ent15, prm15, (show callW (E0 mm) 15 [.c (.d (.sc (.string (S x0)))), .c (.d (.sc (.string (S ([110, 111, 45, 99, 97, 99, 104, 101] : Bs)))))] [] = _ from f15_t x0 ([110, 111, 45, 99, 97, 99, 104, 101] : Bs)), setA, setB, za, zb, zc, zd, ze, zf, zg, zh, zi, zj, zk, zl, zm, zn, zo, zp, reduceCtorEq, zE, ↓reduceIte]
  refine brM (fun yc1 => ?_) (fun yr2 yc1 => ?_)
  · rw [yc1]; rfl
  · simp -implicitDefEqProofs only [e15, c26_4_e, yc1, setA, setB, za, zb, zc, zd, ze, zf, zg, zh, zi, zj, zk, zl, zm, zn, zo, zp, reduceCtorEq, zE, ↓reduceIte]
    all_goals rfl
abbrev R39a := (Int)
def e39a : R39a → AV × Heap := fun x => (.v (.c (.d (.sc (.int .i64 x)))), [])
def K39a_6 : Option (Ex × St) → Option (AV × Heap) := fun r => bodyD (E0 mm) [.tmp 4] 0 false (seqD (E0 mm) 39 0 (callW (E0 mm)) itW c39_25 (blockD 0 (r)))
def en39a_6 : (Bool × List Bs × Int × Int) → X := fun x => (none, [.v (.c (.d (.lst x.1 (enL enS x.2.1)))), .v (.c (.d (.sc (.func (.func 26) #[] #[])))), .v (.c (.d (.sc (.int .i64 x.2.2.1)))), .v (.c (.d (.sc (.int .i64 x.2.2.2))))], [])
def j39a_25  : Option R39a :=
  some (-1 : Int)
theorem j39a_25_t   (sl : Nat → AV)  :
    bodyD (E0 mm) [.tmp 4] 0 false (den (E0 mm) 39 0 (callW (E0 mm)) itW c39_25 none ⟨sl, []⟩) = (j39a_25).map e39a := by
  simp -implicitDefEqProofs only [j39a_25, c39_25_e, c39_26_r, (show opsOf c39_26 = _ :: _ from rfl), c39_27_e, setA, setB, za, zb, zc, zd, ze, zf, zg, zh, zi, zj, zk, zl, zm, zn, zo, zp, reduceCtorEq, zE, ↓reduceIte]
  all_goals rfl
def s39a_6 (s0_0 : Bool) (s0_1 : List Bs) (t7 t8 : Int) : Option ((Bool × List Bs × Int × Int) ⊕ R39a) :=
  if (decide (t8 < t7)) = true then
    if 0 ≤ t8 ∧ t8 < (s0_1.length : Int) then
      (m26 (s0_1.getD t8.toNat default)).bind fun yr5 =>
        if yr5 = true then
          some (.inr t8)
        else
          some (.inl (s0_0, s0_1, t7, (w64 (t8 + 1))))
    else none
  else
    (j39a_25).map .inr
theorem s39a_6_t (s0_0 : Bool) (s0_1 : List Bs) (t7 t8 : Int) :
    stepE (K39a_6 (mm := mm)) (loopF (E0 mm) 39 0 (callW (E0 mm)) itW c39_7 [(0, .keep), (1, .keep), (7, .keep), (8, .keep)] (none, [.v (.c (.d (.lst s0_0 (enL enS s0_1)))), .v (.c (.d (.sc (.func (.func 26) #[] #[])))), .v (.c (.d (.sc (.int .i64 t7)))), .v (.c (.d (.sc (.int .i64 t8))))], [])) = (s39a_6 s0_0 s0_1 t7 t8).map (sm en39a_6 e39a) := by
  simp -implicitDefEqProofs only [s39a_6, loopF_eq, c39_7_e, c39_8_r, (show opsOf c39_8 = _ :: _ from rfl), c39_9_e, (show c39_10 = Code.cond _ c39_11 c39_12 from rfl), setA, setB, za, zb, zc, zd, ze, zf, zg, zh, zi, zj, zk, zl, zm, zn, zo, zp, reduceCtorEq, zE, ↓reduceIte]
  refine brB (fun yc1 => ?_) (fun yc1 => ?_)
  · simp -implicitDefEqProofs only [c39_11_e, c39_13_e, c39_14_e, c39_15_e, c39_16_r, (show opsOf c39_16 = _ :: _ from rfl), c39_17_e, c39_18_r, (show opsOf c39_18 = _ :: _ from rfl), Tryd.underlying30, sz9, enS_a, yc1, setA, setB, za, zb, zc, zd, ze, zf, zg, zh, zi, zj, zk, zl, zm, zn, zo, zp, reduceCtorEq, zE, ↓reduceIte]
    refine brP (fun yc2 => ?_) (fun yc2 => ?_)
    · have yd3 : t8.toNat < s0_1.length := by omega
      simp -implicitDefEqProofs only [(enL_get enS s0_1 t8.toNat yd3), enS_e, sz9, ag9, ent26, prm26, f26_t, yc1, yc2, yd3, setA, setB, za, zb, zc, zd, ze, zf, zg, zh, zi, zj, zk, zl, zm, zn, zo, zp, reduceCtorEq, zE, ↓reduceIte]
      refine brM (fun yc4 => ?_) (fun yr5 yc4 => ?_)
      · rw [yc4]; rfl
      · simp -implicitDefEqProofs only [e26, (show c39_19 = Code.cond _ c39_20 c39_23 from rfl), yc1, yc2, yd3, yc4, setA, setB, za, zb, zc, zd, ze, zf, zg, zh, zi, zj, zk, zl, zm, zn, zo, zp, reduceCtorEq, zE, ↓reduceIte]
        refine brB (fun yc6 => ?_) (fun yc6 => ?_)
        · simp -implicitDefEqProofs only [c39_20_e, c39_21_r, (show opsOf c39_21 = _ :: _ from rfl), c39_22_e, K39a_6, yc1, yc2, yd3, yc4, yc6, setA, setB, za, zb, zc, zd, ze, zf, zg, zh, zi, zj, zk, zl, zm, zn, zo, zp, reduceCtorEq, zE, ↓reduceIte]
          all_goals rfl
        · simp -implicitDefEqProofs only [c39_23_e, c39_24_r, (show opsOf c39_24 = _ :: _ from rfl), yc1, yc2, yd3, yc4, yc6, setA, setB, za, zb, zc, zd, ze, zf, zg, zh, zi, zj, zk, zl, zm, zn, zo, zp, reduceCtorEq, zE, ↓reduceIte]
          all_goals rfl
    · rw [if_neg yc2]; rfl
  · simp -implicitDefEqProofs only [c39_12_e, K39a_6, yc1, setA, setB, za, zb, zc, zd, ze, zf, zg, zh, zi, zj, zk, zl, zm, zn, zo, zp, reduceCtorEq, zE, ↓reduceIte]
    exact mi (j39a_25_t _)
def l39a_6 (s0_0 : Bool) (s0_1 : List Bs) (t7 t8 : Int) : Option R39a := iter (fun x : (Bool × List Bs × Int × Int) => s39a_6 x.1 x.2.1 x.2.2.1 x.2.2.2) (s0_0, s0_1, t7, t8)
theorem l39a_6_t (s0_0 : Bool) (s0_1 : List Bs) (t7 t8 : Int) : bodyD (E0 mm) [.tmp 4] 0 false (seqD (E0 mm) 39 0 (callW (E0 mm)) itW c39_25 (blockD 0 (itW (loopF (E0 mm) 39 0 (callW (E0 mm)) itW c39_7 [(0, .keep), (1, .keep), (7, .keep), (8, .keep)]) (none, [.v (.c (.d (.lst s0_0 (enL enS s0_1)))), .v (.c (.d (.sc (.func (.func 26) #[] #[])))), .v (.c (.d (.sc (.int .i64 t7)))), .v (.c (.d (.sc (.int .i64 t8))))], [])))) = (l39a_6 s0_0 s0_1 t7 t8).map e39a :=
  it_sim (K := (K39a_6 (mm := mm))) rfl (enc := en39a_6) (fun x => s39a_6_t x.1 x.2.1 x.2.2.1 x.2.2.2) (s0_0, s0_1, t7, t8)
def m39a (s_0 : Bool) (s_1 : List Bs) : Option R39a :=
  l39a_6 s_0 s_1 (s_1.length : Int) (0 : Int)
theorem f39a_t (s_0 : Bool) (s_1 : List Bs) :
    callW (E0 mm) 39 [.c (.d (.lst s_0 (enL enS s_1))), .c (.d (.sc (.func (.func 26) #[] #[])))] [] = (m39a s_0 s_1).map e39a := by
  rw [callW_run (body := c39_0) (res := [.tmp 4]) Tryd.func39 rfl rfl (by kernel_rfl)]
  simp -implicitDefEqProofs only [m39a, slots2, c39_0_e, c39_1_r, (show opsOf c39_1 = _ :: _ from rfl), c39_2_e, c39_3_e, c39_4_r, (show opsOf c39_4 = _ :: _ from rfl), Tryd.underlying30, c39_5_e, c39_6_l, setA, setB, za, zb, zc, zd, ze, zf, zg, zh, zi, zj, zk, zl, zm, zn, zo, zp, reduceCtorEq, zE, ↓reduceIte]
  exact l39a_6_t s_0 s_1 (s_1.length : Int) (0 : Int)
abbrev R25a := (Bool)
def e25a : R25a → AV × Heap := fun x => (.v (.c (.d (.sc (.bool x)))), [])
def m25a (s_0 : Bool) (s_1 : List Bs) : Option R25a :=
  (m39a s_0 s_1).bind fun yr2 =>
    some (decide (0 ≤ yr2))
theorem f25a_t (s_0 : Bool) (s_1 : List Bs) :
    callW (E0 mm) 25 [.c (.d (.lst s_0 (enL enS s_1))), .c (.d (.sc (.func (.func 26) #[] #[])))] [] = (m25a s_0 s_1).map e25a := by
  rw [callW_run (body := c25_0) (res := [.tmp 4]) Tryd.func25 rfl rfl (by kernel_rfl)]
  simp -implicitDefEqProofs only [m25a, slots2, c25_0_e, c25_1_r, (show opsOf c25_1 = _ :: _ from rfl), c25_2_e, c25_3_r, (show opsOf c25_3 = _ :: _ from rfl), ent39, prm39, f39a_t, setA, setB, za, zb, zc, zd, ze, zf, zg, zh, zi, zj, zk, zl, zm, zn, zo, zp, reduceCtorEq, zE, ↓reduceIte]
  refine brM (fun yc1 => ?_) (fun yr2 yc1 => ?_)
  · rw [yc1]; rfl
  · simp -implicitDefEqProofs only [e39a, c25_4_e, yc1, setA, setB, za, zb, zc, zd, ze, zf, zg, zh, zi, zj, zk, zl, zm, zn, zo, zp, reduceCtorEq, zE, ↓reduceIte]
    all_goals rfl
noncomputable def c7_0 : Code := bodyOf Tryd.f7
def c7_1 := cA c7_0
def c7_2 := cB c7_0
def c7_3 := cA c7_2
def c7_4 := cB c7_2
def c7_5 := cA c7_4
def c7_6 := cB c7_4
def c7_7 := cA c7_6
def c7_8 := cB c7_6
def c7_9 := cA c7_8
def c7_10 := cB c7_8
def c7_11 := cA c7_10
def c7_12 := cA c7_11
def c7_13 := cB c7_11
def c7_14 := cA c7_13
def c7_15 := cB c7_13
def c7_16 := cB c7_10
def c7_17 := cA c7_16
def c7_18 := cB c7_16
theorem c7_0_e : c7_0 = .seq c7_1 c7_2 := rfl
theorem c7_1_r : RG (E0 mm) 7 c7_1 := rgN rfl
theorem c7_2_e : c7_2 = .seq c7_3 c7_4 := rfl
theorem c7_3_r : RG (E0 mm) 7 c7_3 := rgN rfl
theorem c7_4_e : c7_4 = .seq c7_5 c7_6 := rfl
theorem c7_5_r (m : Nat) (st : St) : den (E0 mm) 7 m (callW (E0 mm)) itW c7_5 none st = regD ((runF (E0 mm) (callW (E0 mm)) (opsOf c7_5) (opsOf c7_5) [some true, none, some false, some true, none, some false, some true, none, none, none, some false, none] st []).bind (ckF [(0, 10), (3, 2), (3, 10), (6, 2), (6, 5), (6, 10)])) := den_dF (by kernel_rfl)
theorem c7_6_e : c7_6 = .seq c7_7 c7_8 := rfl
theorem c7_7_r (m : Nat) (st : St) : den (E0 mm) 7 m (callW (E0 mm)) itW c7_7 none st = regD ((runF (E0 mm) (callW (E0 mm)) (opsOf c7_7) (opsOf c7_7) [none, none, some false, some true, some true, none, none, none, none, none] st []).bind (ckF [(3, 2), (4, 2)])) := den_dF (by kernel_rfl)
theorem c7_8_e : c7_8 = .seq c7_9 c7_10 := rfl
theorem c7_9_r : RG (E0 mm) 7 c7_9 := rgN rfl
theorem c7_10_e : c7_10 = .seq c7_11 c7_16 := rfl
theorem c7_11_e : c7_11 = .seq c7_12 c7_13 := rfl
theorem c7_12_r : RG (E0 mm) 7 c7_12 := rgN rfl
theorem c7_14_r : RG (E0 mm) 7 c7_14 := rgN rfl
theorem c7_15_e : c7_15 = .skip := rfl
theorem c7_16_e : c7_16 = .seq c7_17 c7_18 := rfl
theorem c7_17_r : RG (E0 mm) 7 c7_17 := rgN rfl
theorem c7_18_e : c7_18 = .ret := rfl
abbrev R7 := (Bool × Bool × Bool × Bool × Bool × Bool × Int × Int × Int × Int)
def e7 : R7 → AV × Heap := fun x => (.v (.agg [.d (.sc (.bool x.1)), .d (.sc (.bool x.2.1)), .d (.sc (.bool x.2.2.1)), .d (.sc (.bool x.2.2.2.1)), .d (.sc (.bool x.2.2.2.2.1)), .d (.sc (.bool x.2.2.2.2.2.1)), .d (.sc (.int .i64 x.2.2.2.2.2.2.1)), .d (.sc (.int .i64 x.2.2.2.2.2.2.2.1)), .d (.sc (.int .i64 x.2.2.2.2.2.2.2.2.1)), .d (.sc (.int .i64 x.2.2.2.2.2.2.2.2.2))]), [])
def j7_16 (h0_0 h0_1 : Bool) (h0_2 h0_3 : Bool) (h0_4 h0_5 : Bool) (h0_6 h0_7 : Int) (h0_8 h0_9 : Int) (h3_0 h3_1 : Bool) (h3_2 h3_3 : Bool) (h3_4 h3_5 : Bool) (h3_6 h3_7 : Int) (h3_8 h3_9 : Int) : Option R7 :=
  some (h3_0, h3_1, h3_2, h3_3, h3_4, h3_5, h3_6, h3_7, h3_8, h3_9)
theorem j7_16_t (h0_0 h0_1 : Bool) (h0_2 h0_3 : Bool) (h0_4 h0_5 : Bool) (h0_6 h0_7 : Int) (h0_8 h0_9 : Int) (h3_0 h3_1 : Bool) (h3_2 h3_3 : Bool) (h3_4 h3_5 : Bool) (h3_6 h3_7 : Int) (h3_8 h3_9 : Int) (g1 g2 : Ob) (g4 g5 : Ob) (sl : Nat → AV) (zq2 : sl 2 = .v (.c (.ptr 0 0))) (zq4 : sl 4 = .v (.c (.ptr 3 0))) :
    bodyD (E0 mm) [.cell 2 24] 0 false (den (E0 mm) 7 0 (callW (E0 mm)) itW c7_16 none ⟨sl, [.cells [.d (.sc (.bool h0_0)), .d (.sc (.bool h0_1)), .d (.sc (.bool h0_2)), .d (.sc (.bool h0_3)), .d (.sc (.bool h0_4)), .d (.sc (.bool h0_5)), .d (.sc (.int .i64 h0_6)), .d (.sc (.int .i64 h0_7)), .d (.sc (.int .i64 h0_8)), .d (.sc (.int .i64 h0_9))], g1, g2, .cells [.d (.sc (.bool h3_0)), .d (.sc (.bool h3_1)), .d (.sc (.bool h3_2)), .d (.sc (.bool h3_3)), .d (.sc (.bool h3_4)), .d (.sc (.bool h3_5)), .d (.sc (.int .i64 h3_6)), .d (.sc (.int .i64 h3_7)), .d (.sc (.int .i64 h3_8)), .d (.sc (.int .i64 h3_9))], g4, g5]⟩) = (j7_16 h0_0 h0_1 h0_2 h0_3 h0_4 h0_5 h0_6 h0_7 h0_8 h0_9 h3_0 h3_1 h3_2 h3_3 h3_4 h3_5 h3_6 h3_7 h3_8 h3_9).map e7 := by
  simp -implicitDefEqProofs only [j7_16, c7_16_e, c7_17_r, (show opsOf c7_17 = _ :: _ from rfl), sz24, ag24, c7_18_e, zq2, zq4, setA, setB, za, zb, zc, zd, ze, zf, zg, zh, zi, zj, zk, zl, zm, zn, zo, zp, reduceCtorEq, zE, ↓reduceIte]
  all_goals rfl
def j7_16v1 (h0_0 h0_1 : Bool) (h0_2 h0_3 : Bool) (h0_4 h0_5 : Bool) (h0_6 h0_7 : Int) (h0_8 h0_9 : Int) (h3_0 h3_1 : Bool) (h3_2 h3_3 : Bool) (h3_4 h3_5 : Bool) (h3_6 h3_7 : Int) (h3_8 h3_9 : Int) : Option R7 :=
  some (h3_0, h3_1, h3_2, h3_3, h3_4, h3_5, h3_6, h3_7, h3_8, h3_9)
theorem j7_16v1_t (h0_0 h0_1 : Bool) (h0_2 h0_3 : Bool) (h0_4 h0_5 : Bool) (h0_6 h0_7 : Int) (h0_8 h0_9 : Int) (h3_0 h3_1 : Bool) (h3_2 h3_3 : Bool) (h3_4 h3_5 : Bool) (h3_6 h3_7 : Int) (h3_8 h3_9 : Int) (g1 g2 g4 : Ob) (sl : Nat → AV) (zq2 : sl 2 = .v (.c (.ptr 0 0))) (zq4 : sl 4 = .v (.c (.ptr 3 0))) :
    bodyD (E0 mm) [.cell 2 24] 0 false (den (E0 mm) 7 0 (callW (E0 mm)) itW c7_16 none ⟨sl, [.cells [.d (.sc (.bool h0_0)), .d (.sc (.bool h0_1)), .d (.sc (.bool h0_2)), .d (.sc (.bool h0_3)), .d (.sc (.bool h0_4)), .d (.sc (.bool h0_5)), .d (.sc (.int .i64 h0_6)), .d (.sc (.int .i64 h0_7)), .d (.sc (.int .i64 h0_8)), .d (.sc (.int .i64 h0_9))], g1, g2, .cells [.d (.sc (.bool h3_0)), .d (.sc (.bool h3_1)), .d (.sc (.bool h3_2)), .d (.sc (.bool h3_3)), .d (.sc (.bool h3_4)), .d (.sc (.bool h3_5)), .d (.sc (.int .i64 h3_6)), .d (.sc (.int .i64 h3_7)), .d (.sc (.int .i64 h3_8)), .d (.sc (.int .i64 h3_9))], g4]⟩) = (j7_16v1 h0_0 h0_1 h0_2 h0_3 h0_4 h0_5 h0_6 h0_7 h0_8 h0_9 h3_0 h3_1 h3_2 h3_3 h3_4 h3_5 h3_6 h3_7 h3_8 h3_9).map e7 := by
  simp -implicitDefEqProofs only [j7_16v1, c7_16_e, c7_17_r, (show opsOf c7_17 = _ :: _ from rfl), sz24, ag24, c7_18_e, zq2, zq4, setA, setB, za, zb, zc, zd, ze, zf, zg, zh, zi, zj, zk, zl, zm, zn, zo, zp, reduceCtorEq, zE, ↓reduceIte]
  all_goals rfl
def m7 (l_0 : Bool) (l_1 : List (Bs × Bs)) : Option R7 :=
  (m18 l_0 l_1).bind fun yr2 =>
    (m19 false ([([110, 111, 45, 115, 116, 111, 114, 101] : Bs)] : List Bs) yr2).bind fun yr4 =>
      (m19 false ([([110, 111, 45, 99, 97, 99, 104, 101] : Bs)] : List Bs) yr2).bind fun yr6 =>
        (m19 false ([([111, 110, 108, 121, 45, 105, 102, 45, 99, 97, 99, 104, 101, 100] : Bs)] : List Bs) yr2).bind fun yr8 =>
          (m20 (!(hasM ([109, 97, 120, 45, 97, 103, 101] : Bs) yr2)) (valM ([109, 97, 120, 45, 97, 103, 101] : Bs) yr2)).bind fun yr10 =>
            (m20a (!(hasM ([109, 105, 110, 45, 102, 114, 101, 115, 104] : Bs) yr2)) (valM ([109, 105, 110, 45, 102, 114, 101, 115, 104] : Bs) yr2)).bind fun yr12 =>
              (m20b (!(hasM ([109, 97, 120, 45, 115, 116, 97, 108, 101] : Bs) yr2)) (valM ([109, 97, 120, 45, 115, 116, 97, 108, 101] : Bs) yr2) yr2).bind fun yr14 =>
                (m24 l_0 l_1 ([99, 97, 99, 104, 101, 45, 99, 111, 110, 116, 114, 111, 108] : Bs)).bind fun yr16 =>
                  if ((yr16.2.length : Int) == 0) = true then
                    (m14 l_0 l_1 ([112, 114, 97, 103, 109, 97] : Bs)).bind fun yr19 =>
                      (m25a yr19.1 yr19.2).bind fun yr21 =>
                        j7_16 false false false false false false (0 : Int) (0 : Int) (0 : Int) (0 : Int) yr4 yr21 false false false yr8 yr10 (-1 : Int) yr12 yr14
                  else
                    j7_16v1 false false false false false false (0 : Int) (0 : Int) (0 : Int) (0 : Int) yr4 yr6 false false false yr8 yr10 (-1 : Int) yr12 yr14
theorem f7_t (l_0 : Bool) (l_1 : List (Bs × Bs)) :
    callW (E0 mm) 7 [.c (.d (.lst l_0 (enL enSS l_1)))] [] = (m7 l_0 l_1).map e7 := by
  rw [callW_run (body := c7_0) (res := [.cell 2 24]) Tryd.func7 rfl rfl (by kernel_rfl)]
  simp -implicitDefEqProofs only [m7, slots1, c7_0_e, c7_1_r, (show opsOf c7_1 = _ :: _ from rfl), zc24, ao2, c7_2_e, c7_3_r, (show opsOf c7_3 = _ :: _ from rfl), ent18, prm18, f18_t, setA, setB, za, zb, zc, zd, ze, zf, zg, zh, zi, zj, zk, zl, zm, zn, zo, zp, reduceCtorEq, zE, ↓reduceIte]
  refine brM (fun yc1 => ?_) (fun yr2 yc1 => ?_)
  · rw [yc1]; rfl
  · simp -implicitDefEqProofs only [e18, zc40, ao28, sz40, c7_4_e, c7_5_r, (show opsOf c7_5 = _ :: _ from rfl), ag40, Tryd.underlying30, sz9, zc9, hd29, nv30, rw31, ns8, ent19, prm19, (show callW (E0 mm) 19 [.c (.mp 0), .c (.d (.lst false (enL enS ([([110, 111, 45, 115, 116, 111, 114, 101] : Bs)] : List Bs))))] [.amap (enM yr2)] = _ from f19_t false ([([110, 111, 45, 115, 116, 111, 114, 101] : Bs)] : List Bs) yr2), yc1, runF_nil, runF_none, runF_some, runKF_t, runKF_f, runKF_x, stepKF_s, stepKF_x, tlT_c, tlT_n, hdT_c, hdT_n, footT_n, foot_t, readsO, setA, setB, za, zb, zc, zd, ze, zf, zg, zh, zi, zj, zk, zl, zm, zn, zo, zp, reduceCtorEq, zE, ↓reduceIte]
    refine brM (fun yc3 => ?_) (fun yr4 yc3 => ?_)
    · rw [yc3]; rfl
    · simp -implicitDefEqProofs only [e19, sz40, ag40, Tryd.underlying30, sz9, zc9, hd29, nv30, rw31, ns8, ent19, prm19, (show callW (E0 mm) 19 [.c (.mp 0), .c (.d (.lst false (enL enS ([([110, 111, 45, 99, 97, 99, 104, 101] : Bs)] : List Bs))))] [.amap (enM yr2)] = _ from f19_t false ([([110, 111, 45, 99, 97, 99, 104, 101] : Bs)] : List Bs) yr2), yc1, runF_nil, runF_none, runF_some, runKF_t, runKF_f, runKF_x, stepKF_s, stepKF_x, tlT_c, tlT_n, hdT_c, hdT_n, footT_n, foot_t, readsO, yc3, setA, setB, za, zb, zc, zd, ze, zf, zg, zh, zi, zj, zk, zl, zm, zn, zo, zp, reduceCtorEq, zE, ↓reduceIte]
      refine brM (fun yc5 => ?_) (fun yr6 yc5 => ?_)
      · rw [yc5]; rfl
      · simp -implicitDefEqProofs only [e19, sz40, ag40, Tryd.underlying30, sz9, zc9, hd29, nv30, rw31, ns8, ent19, prm19, (show callW (E0 mm) 19 [.c (.mp 0), .c (.d (.lst false (enL enS ([([111, 110, 108, 121, 45, 105, 102, 45, 99, 97, 99, 104, 101, 100] : Bs)] : List Bs))))] [.amap (enM yr2)] = _ from f19_t false ([([111, 110, 108, 121, 45, 105, 102, 45, 99, 97, 99, 104, 101, 100] : Bs)] : List Bs) yr2), yc1, runF_nil, runF_none, runF_some, runKF_t, runKF_f, runKF_x, stepKF_s, stepKF_x, tlT_c, tlT_n, hdT_c, hdT_n, footT_n, foot_t, readsO, yc3, yc5, setA, setB, za, zb, zc, zd, ze, zf, zg, zh, zi, zj, zk, zl, zm, zn, zo, zp, reduceCtorEq, zE, ↓reduceIte]
        refine brM (fun yc7 => ?_) (fun yr8 yc7 => ?_)
        · rw [yc7]; rfl
        · simp -implicitDefEqProofs only [e19, Tryd.underlying24, zc24, sz4, sz3, ao32, sz24, ckF, foot_f, pair1, pair0, chgA, eqO, eqOb_cells, eqOb_row, eqOb_siter, eqOb_amapN, eqOb_amapC, eqOb_sm, eqE_S, eqE_SS, eqE_N, eqE_B, eqL, eqC, eqD, eqV, eqV1, eqB_refl, eq_self, decide_true, List.all_nil, List.getD_cons_zero, List.getD_cons_succ, Bool.and_self, c7_6_e, c7_7_r, (show opsOf c7_7 = _ :: _ from rfl), sz40, ag40, Tryd.underlying40, Tryd.underlying9, zv30, ent20, prm20, f20_t, yc1, runF_nil, runF_none, runF_some, runKF_t, runKF_f, runKF_x, stepKF_s, stepKF_x, tlT_c, tlT_n, hdT_c, hdT_n, footT_n, foot_t, readsO, yc3, yc5, yc7, setA, setB, za, zb, zc, zd, ze, zf, zg, zh, zi, zj, zk, zl, zm, zn, zo, zp, reduceCtorEq, zE, ↓reduceIte]
          refine brM (fun yc9 => ?_) (fun yr10 yc9 => ?_)
          · rw [yc9]; rfl
          · simp -implicitDefEqProofs only [e20, sz40, ag40, Tryd.underlying40, Tryd.underlying9, zv30, ent20, prm20, f20a_t, yc1, runF_nil, runF_none, runF_some, runKF_t, runKF_f, runKF_x, stepKF_s, stepKF_x, tlT_c, tlT_n, hdT_c, hdT_n, footT_n, foot_t, readsO, yc3, yc5, yc7, yc9, setA, setB, za, zb, zc, zd, ze, zf, zg, zh, zi, zj, zk, zl, zm, zn, zo, zp, reduceCtorEq, zE, ↓reduceIte]
            refine brM (fun yc11 => ?_) (fun yr12 yc11 => ?_)
            · rw [yc11]; rfl
            · simp -implicitDefEqProofs only [e20a, Tryd.underlying24, sz3, ckF, foot_f, pair1, pair0, chgA, eqO, eqOb_cells, eqOb_row, eqOb_siter, eqOb_amapN, eqOb_amapC, eqOb_sm, eqE_S, eqE_SS, eqE_N, eqE_B, eqL, eqC, eqD, eqV, eqV1, eqB_refl, eq_self, decide_true, List.all_nil, List.getD_cons_zero, List.getD_cons_succ, Bool.and_self, c7_8_e, c7_9_r, (show opsOf c7_9 = _ :: _ from rfl), sz40, ag40, Tryd.underlying40, Tryd.underlying9, zv30, ent20, prm20, f20b_t, yc1, runF_nil, runF_none, runF_some, runKF_t, runKF_f, runKF_x, stepKF_s, stepKF_x, tlT_c, tlT_n, hdT_c, hdT_n, footT_n, foot_t, readsO, yc3, yc5, yc7, yc9, yc11, setA, setB, za, zb, zc, zd, ze, zf, zg, zh, zi, zj, zk, zl, zm, zn, zo, zp, reduceCtorEq, zE, ↓reduceIte]
              refine brM (fun yc13 => ?_) (fun yr14 yc13 => ?_)
              · rw [yc13]; rfl
              · simp -implicitDefEqProofs only [e20b, Tryd.underlying24, sz3, c7_10_e, c7_11_e, c7_12_r, (show opsOf c7_12 = _ :: _ from rfl), ent24, prm24, (show callW (E0 mm) 24 [.c (.d (.lst l_0 (enL enSS l_1))), .c (.d (.sc (.string (S ([99, 97, 99, 104, 101, 45, 99, 111, 110, 116, 114, 111, 108] : Bs)))))] [] = _ from f24_t l_0 l_1 ([99, 97, 99, 104, 101, 45, 99, 111, 110, 116, 114, 111, 108] : Bs)), yc1, runF_nil, runF_none, runF_some, runKF_t, runKF_f, runKF_x, stepKF_s, stepKF_x, tlT_c, tlT_n, hdT_c, hdT_n, footT_n, foot_t, readsO, yc3, yc5, yc7, yc9, yc11, yc13, setA, setB, za, zb, zc, zd, ze, zf, zg, zh, zi, zj, zk, zl, zm, zn, zo, zp, reduceCtorEq, zE, ↓reduceIte]
                refine brM (fun yc15 => ?_) (fun yr16 yc15 => ?_)
                · rw [yc15]; rfl
                · simp -implicitDefEqProofs only [e24, Tryd.underlying30, (show c7_13 = Code.cond _ c7_14 c7_15 from rfl), yc1, runF_nil, runF_none, runF_some, runKF_t, runKF_f, runKF_x, stepKF_s, stepKF_x, tlT_c, tlT_n, hdT_c, hdT_n, footT_n, foot_t, readsO, yc3, yc5, yc7, yc9, yc11, yc13, yc15, setA, setB, za, zb, zc, zd, ze, zf, zg, zh, zi, zj, zk, zl, zm, zn, zo, zp, reduceCtorEq, zE, ↓reduceIte]
                  refine brB (fun yc17 => ?_) (fun yc17 => ?_)
                  · simp -implicitDefEqProofs only [c7_14_r, (show opsOf c7_14 = _ :: _ from rfl), ent14, prm14, (show callW (E0 mm) 14 [.c (.d (.lst l_0 (enL enSS l_1))), .c (.d (.sc (.string (S ([112, 114, 97, 103, 109, 97] : Bs)))))] [] = _ from f14_t l_0 l_1 ([112, 114, 97, 103, 109, 97] : Bs)), yc1, runF_nil, runF_none, runF_some, runKF_t, runKF_f, runKF_x, stepKF_s, stepKF_x, tlT_c, tlT_n, hdT_c, hdT_n, footT_n, foot_t, readsO, yc3, yc5, yc7, yc9, yc11, yc13, yc15, yc17, setA, setB, za, zb, zc, zd, ze, zf, zg, zh, zi, zj, zk, zl, zm, zn, zo, zp, reduceCtorEq, zE, ↓reduceIte]
                    refine brM (fun yc18 => ?_) (fun yr19 yc18 => ?_)
                    · rw [yc18]; rfl
                    · simp -implicitDefEqProofs only [e14, ent25, prm25, f25a_t, yc1, runF_nil, runF_none, runF_some, runKF_t, runKF_f, runKF_x, stepKF_s, stepKF_x, tlT_c, tlT_n, hdT_c, hdT_n, footT_n, foot_t, readsO, yc3, yc5, yc7, yc9, yc11, yc13, yc15, yc17, yc18, setA, setB, za, zb, zc, zd, ze, zf, zg, zh, zi, zj, zk, zl, zm, zn, zo, zp, reduceCtorEq, zE, ↓reduceIte]
                      refine brM (fun yc20 => ?_) (fun yr21 yc20 => ?_)
                      · rw [yc20]; rfl
                      · simp -implicitDefEqProofs only [e25a, Tryd.underlying24, sz4, yc1, runF_nil, runF_none, runF_some, runKF_t, runKF_f, runKF_x, stepKF_s, stepKF_x, tlT_c, tlT_n, hdT_c, hdT_n, footT_n, foot_t, readsO, yc3, yc5, yc7, yc9, yc11, yc13, yc15, yc17, yc18, yc20, setA, setB, za, zb, zc, zd, ze, zf, zg, zh, zi, zj, zk, zl, zm, zn, zo, zp, reduceCtorEq, zE, ↓reduceIte]
                        exact j7_16_t false false false false false false (0 : Int) (0 : Int) (0 : Int) (0 : Int) yr4 yr21 false false false yr8 yr10 (-1 : Int) yr12 yr14 _ _ _ _ _ (by rfl) (by rfl)
                  · simp -implicitDefEqProofs only [c7_15_e, yc1, runF_nil, runF_none, runF_some, runKF_t, runKF_f, runKF_x, stepKF_s, stepKF_x, tlT_c, tlT_n, hdT_c, hdT_n, footT_n, foot_t, readsO, yc3, yc5, yc7, yc9, yc11, yc13, yc15, yc17, setA, setB, za, zb, zc, zd, ze, zf, zg, zh, zi, zj, zk, zl, zm, zn, zo, zp, reduceCtorEq, zE, ↓reduceIte]
                    exact j7_16v1_t false false false false false false (0 : Int) (0 : Int) (0 : Int) (0 : Int) yr4 yr6 false false false yr8 yr10 (-1 : Int) yr12 yr14 _ _ _ _ (by rfl) (by rfl)
end
end Go.Proofs.YtbdjemdhjanffaaDoor
