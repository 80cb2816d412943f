/- The Go functions as plain functions, and that the evaluator computes them. -/
import Derived.Test.YteajgnaeklbpeaaDoorHd
set_option linter.all false
set_option maxRecDepth 100000
namespace Go.Proofs.YteajgnaeklbpeaaDoor
open Go Go.Ab
open Nat renaming reduceEqDiff → za, reduceAdd → zb, reduceLeDiff → zc, reduceLT → zd, reduceMul → ze, reduceBEq → zf, reduceSub → zg, reducePow → zh
open Int renaming reduceEq → zi, reduceLE → zj, reduceLT → zk, reduceToNat → zl, reduceNegSucc → zm, reduceAdd → zn, reduceBEq → zo
open String renaming reduceBEq → zp
set_option maxHeartbeats 4000000
noncomputable section
variable {mm : Int}
set_option maxRecDepth 100000 in
theorem f6_t : callW (E0 mm) 6 [] [] = some (.v (.c (.d (.sc (.bool true)))), []) := callN_W (k := 400) (by kernel_rfl)
noncomputable def c34_0 : Code := bodyOf Tryd.f34
def c34_1 := cA c34_0
def c34_2 := cB c34_0
def c34_3 := cA c34_2
def c34_4 := cB c34_2
def c34_5 := cA c34_4
def c34_6 := cA c34_5
def c34_7 := cB c34_5
def c34_8 := cA c34_7
def c34_9 := cA c34_8
def c34_10 := cA c34_9
def c34_11 := cB c34_9
def c34_12 := cA c34_11
def c34_13 := cA c34_12
def c34_14 := cB c34_12
def c34_15 := cB c34_11
def c34_16 := cA c34_15
def c34_17 := cA c34_16
def c34_18 := cA c34_17
def c34_19 := cB c34_17
def c34_20 := cA c34_19
def c34_21 := cB c34_19
def c34_22 := cA c34_21
def c34_23 := cB c34_21
def c34_24 := cB c34_15
def c34_25 := cB c34_4
def c34_26 := cA c34_25
def c34_27 := cB c34_25
theorem c34_0_e : c34_0 = .seq c34_1 c34_2 := rfl
theorem c34_1_r : RG (E0 mm) 34 c34_1 := rgN rfl
theorem c34_2_e : c34_2 = .seq c34_3 c34_4 := rfl
theorem c34_3_r : RG (E0 mm) 34 c34_3 := rgN rfl
theorem c34_4_e : c34_4 = .seq c34_5 c34_25 := rfl
theorem c34_5_e : c34_5 = .seq c34_6 c34_7 := rfl
theorem c34_6_r : RG (E0 mm) 34 c34_6 := rgN rfl
theorem c34_7_e : c34_7 = .block 0 c34_8 := rfl
theorem c34_8_l (m : Nat) (st : St) : den (E0 mm) 34 m (callW (E0 mm)) itW c34_8 none st = loopD itW (loopF (E0 mm) 34 m (callW (E0 mm)) itW c34_9 [(3, .keep), (8, .keep), (9, .keep), (10, .keep)]) (canon m [(3, .keep), (8, .keep), (9, .keep), (10, .keep)] st) := rfl
theorem c34_9_e : c34_9 = .seq c34_10 c34_11 := rfl
theorem c34_10_r : RG (E0 mm) 34 c34_10 := rgN rfl
theorem c34_11_e : c34_11 = .seq c34_12 c34_15 := rfl
theorem c34_13_e : c34_13 = .skip := rfl
theorem c34_14_e : c34_14 = .exit 0 := rfl
theorem c34_15_e : c34_15 = .seq c34_16 c34_24 := rfl
theorem c34_16_e : c34_16 = .block 1 c34_17 := rfl
theorem c34_17_e : c34_17 = .seq c34_18 c34_19 := rfl
theorem c34_18_r : RG (E0 mm) 34 c34_18 := rgN rfl
theorem c34_19_e : c34_19 = .seq c34_20 c34_21 := rfl
theorem c34_20_r : RG (E0 mm) 34 c34_20 := rgN rfl
theorem c34_22_r : RG (E0 mm) 34 c34_22 := rgN rfl
theorem c34_23_e : c34_23 = .skip := rfl
theorem c34_24_r : RG (E0 mm) 34 c34_24 := rgN rfl
theorem c34_25_e : c34_25 = .seq c34_26 c34_27 := rfl
theorem c34_26_r : RG (E0 mm) 34 c34_26 := rgN rfl
theorem c34_27_e : c34_27 = .ret := rfl
abbrev R34 := (Bs)
def e34 : R34 → AV × Heap := fun x => (.v (.c (.d (.sc (.string (S x))))), [])
def K34_8 : Option (Ex × St) → Option (AV × Heap) := fun r => bodyD (E0 mm) [.tmp 2] 0 false (seqD (E0 mm) 34 0 (callW (E0 mm)) itW c34_25 (blockD 0 (r)))
def en34_8 : (Nat × Nat × Int × Int × List UInt8) → X := fun x => (none, [.v (.c (.slc 0 0 1 x.1 none)), .v (.c (.slc 0 0 1 x.2.1 none)), .v (.c (.d (.sc (.int .i64 x.2.2.1)))), .v (.c (.d (.sc (.int .i64 x.2.2.2.1))))], [.cells (enC x.2.2.2.2)])
def j34_24 (b3_1 t8_1 : Nat) (t9 t10 : Int) (h0 : List UInt8) : Option ((Nat × Nat × Int × Int × List UInt8) ⊕ R34) :=
  some (.inl (b3_1, t8_1, t9, (w64 (t10 + 1)), h0))
theorem j34_24_t (b3_1 t8_1 : Nat) (t9 t10 : Int) (h0 : List UInt8)  (sl : Nat → AV) (zq3 : sl 3 = .v (.c (.slc 0 0 1 b3_1 none))) (zq8 : sl 8 = .v (.c (.slc 0 0 1 t8_1 none))) (zq9 : sl 9 = .v (.c (.d (.sc (.int .i64 t9))))) (zq10 : sl 10 = .v (.c (.d (.sc (.int .i64 t10))))) :
    stepE (K34_8 (mm := mm)) (loopK 0 [(3, .keep), (8, .keep), (9, .keep), (10, .keep)] (den (E0 mm) 34 0 (callW (E0 mm)) itW c34_24 none ⟨sl, [.cells (enC h0)]⟩)) = (j34_24 b3_1 t8_1 t9 t10 h0).map (sm en34_8 e34) := by
  simp -implicitDefEqProofs only [j34_24, c34_24_r, (show opsOf c34_24 = _ :: _ from rfl), zq3, zq8, zq9, zq10, setA, setB, za, zb, zc, zd, ze, zf, zg, zh, zi, zj, zk, zl, zm, zn, zo, zp, reduceCtorEq, zE, ↓reduceIte]
  all_goals rfl
def j34_21 (b3_1 : Nat) (i4 : Int) (c5 : UInt8) (t8_1 : Nat) (t9 t10 : Int) (t20 : Bool) (h0 : List UInt8) : Option ((Nat × Nat × Int × Int × List UInt8) ⊕ R34) :=
  if t20 = true then
    if 0 ≤ i4 ∧ i4 < (b3_1 : Int) then
      if i4.toNat < h0.length then
        j34_24 b3_1 t8_1 t9 t10 (h0.set i4.toNat ((c5 + (97 : UInt8)) - (65 : UInt8)))
      else none
    else none
  else
    j34_24 b3_1 t8_1 t9 t10 h0
theorem j34_21_t (b3_1 : Nat) (i4 : Int) (c5 : UInt8) (t8_1 : Nat) (t9 t10 : Int) (t20 : Bool) (h0 : List UInt8)  (sl : Nat → AV) (zq3 : sl 3 = .v (.c (.slc 0 0 1 b3_1 none))) (zq4 : sl 4 = .v (.c (.d (.sc (.int .i64 i4))))) (zq5 : sl 5 = .v (.c (.d (.sc (.int .u8 ((c5).toNat : Int)))))) (zq8 : sl 8 = .v (.c (.slc 0 0 1 t8_1 none))) (zq9 : sl 9 = .v (.c (.d (.sc (.int .i64 t9))))) (zq10 : sl 10 = .v (.c (.d (.sc (.int .i64 t10))))) (zq20 : sl 20 = .v (.c (.d (.sc (.bool t20))))) :
    stepE (K34_8 (mm := mm)) (loopK 0 [(3, .keep), (8, .keep), (9, .keep), (10, .keep)] (seqD (E0 mm) 34 0 (callW (E0 mm)) itW c34_24 (blockD 1 (den (E0 mm) 34 0 (callW (E0 mm)) itW c34_21 none ⟨sl, [.cells (enC h0)]⟩)))) = (j34_21 b3_1 i4 c5 t8_1 t9 t10 t20 h0).map (sm en34_8 e34) := by
  simp -implicitDefEqProofs only [j34_21, (show c34_21 = Code.cond _ c34_22 c34_23 from rfl), zq3, zq4, zq5, zq8, zq9, zq10, zq20, setA, setB, za, zb, zc, zd, ze, zf, zg, zh, zi, zj, zk, zl, zm, zn, zo, zp, reduceCtorEq, zE, ↓reduceIte]
  refine brB (fun yc6 => ?_) (fun yc6 => ?_)
  · simp -implicitDefEqProofs only [c34_22_r, (show opsOf c34_22 = _ :: _ from rfl), Tryd.underlying33, sz5, zq3, zq4, zq5, zq8, zq9, zq10, zq20, yc6, setA, setB, za, zb, zc, zd, ze, zf, zg, zh, zi, zj, zk, zl, zm, zn, zo, zp, reduceCtorEq, zE, ↓reduceIte]
    refine brP (fun yc7 => ?_) (fun yc7 => ?_)
    · have yd8 : i4.toNat < b3_1 := by omega
      simp -implicitDefEqProofs only [sz5, enC_length, enC_wr, zq3, zq4, zq5, zq8, zq9, zq10, zq20, yc6, yc7, yd8, setA, setB, za, zb, zc, zd, ze, zf, zg, zh, zi, zj, zk, zl, zm, zn, zo, zp, reduceCtorEq, zE, ↓reduceIte]
      refine brP (fun yc9 => ?_) (fun yc9 => ?_)
      · simp -implicitDefEqProofs only [zq3, zq4, zq5, zq8, zq9, zq10, zq20, yc6, yc7, yd8, yc9, setA, setB, za, zb, zc, zd, ze, zf, zg, zh, zi, zj, zk, zl, zm, zn, zo, zp, reduceCtorEq, zE, ↓reduceIte]
        exact j34_24_t b3_1 t8_1 t9 t10 (h0.set i4.toNat ((c5 + (97 : UInt8)) - (65 : UInt8))) _ (by exact zq3) (by exact zq8) (by exact zq9) (by exact zq10)
      · rw [if_neg yc9]; rfl
    · rw [if_neg yc7]; rfl
  · simp -implicitDefEqProofs only [c34_23_e, zq3, zq4, zq5, zq8, zq9, zq10, zq20, yc6, setA, setB, za, zb, zc, zd, ze, zf, zg, zh, zi, zj, zk, zl, zm, zn, zo, zp, reduceCtorEq, zE, ↓reduceIte]
    exact j34_24_t b3_1 t8_1 t9 t10 h0 _ (by exact zq3) (by exact zq8) (by exact zq9) (by exact zq10)
def j34_25 (b3_1 : Nat) (h0 : List UInt8) : Option R34 :=
  if b3_1 ≤ h0.length then
    some (h0.take b3_1)
  else none
theorem j34_25_t (b3_1 : Nat) (h0 : List UInt8)  (sl : Nat → AV) (zq3 : sl 3 = .v (.c (.slc 0 0 1 b3_1 none))) :
    bodyD (E0 mm) [.tmp 2] 0 false (den (E0 mm) 34 0 (callW (E0 mm)) itW c34_25 none ⟨sl, [.cells (enC h0)]⟩) = (j34_25 b3_1 h0).map e34 := by
  simp -implicitDefEqProofs only [j34_25, c34_25_e, c34_26_r, (show opsOf c34_26 = _ :: _ from rfl), Tryd.underlying33, Tryd.underlying9, Tryd.underlying5, enC_length, enC_take, mapM_enC, zq3, setA, setB, za, zb, zc, zd, ze, zf, zg, zh, zi, zj, zk, zl, zm, zn, zo, zp, reduceCtorEq, zE, ↓reduceIte]
  refine brP (fun yc10 => ?_) (fun yc10 => ?_)
  · simp -implicitDefEqProofs only [enC_length, enC_take, mapM_enC, (chunk_enD b3_1 h0 yc10), c34_27_e, zq3, yc10, setA, setB, za, zb, zc, zd, ze, zf, zg, zh, zi, zj, zk, zl, zm, zn, zo, zp, reduceCtorEq, zE, ↓reduceIte]
    all_goals rfl
  · rw [if_neg yc10]; rfl
def s34_8 (b3_1 t8_1 : Nat) (t9 t10 : Int) (h0 : List UInt8) : Option ((Nat × Nat × Int × Int × List UInt8) ⊕ R34) :=
  if (decide (t10 < t9)) = true then
    if 0 ≤ t10 ∧ t10 < (t8_1 : Int) then
      if t10.toNat < h0.length then
        if (decide ((65 : UInt8) ≤ (h0.getD t10.toNat 0))) = true then
          j34_21 b3_1 t10 (h0.getD t10.toNat 0) t8_1 t9 t10 (decide ((h0.getD t10.toNat 0) ≤ (90 : UInt8))) h0
        else
          j34_21 b3_1 t10 (h0.getD t10.toNat 0) t8_1 t9 t10 false h0
      else none
    else none
  else
    (j34_25 b3_1 h0).map .inr
theorem s34_8_t (b3_1 t8_1 : Nat) (t9 t10 : Int) (h0 : List UInt8) :
    stepE (K34_8 (mm := mm)) (loopF (E0 mm) 34 0 (callW (E0 mm)) itW c34_9 [(3, .keep), (8, .keep), (9, .keep), (10, .keep)] (none, [.v (.c (.slc 0 0 1 b3_1 none)), .v (.c (.slc 0 0 1 t8_1 none)), .v (.c (.d (.sc (.int .i64 t9)))), .v (.c (.d (.sc (.int .i64 t10))))], [.cells (enC h0)])) = (s34_8 b3_1 t8_1 t9 t10 h0).map (sm en34_8 e34) := by
  simp -implicitDefEqProofs only [s34_8, loopF_eq, c34_9_e, c34_10_r, (show opsOf c34_10 = _ :: _ from rfl), c34_11_e, (show c34_12 = Code.cond _ c34_13 c34_14 from rfl), setA, setB, za, zb, zc, zd, ze, zf, zg, zh, zi, zj, zk, zl, zm, zn, zo, zp, reduceCtorEq, zE, ↓reduceIte]
  refine brB (fun yc1 => ?_) (fun yc1 => ?_)
  · simp -implicitDefEqProofs only [c34_13_e, c34_15_e, c34_16_e, c34_17_e, c34_18_r, (show opsOf c34_18 = _ :: _ from rfl), Tryd.underlying33, sz5, yc1, setA, setB, za, zb, zc, zd, ze, zf, zg, zh, zi, zj, zk, zl, zm, zn, zo, zp, reduceCtorEq, zE, ↓reduceIte]
    refine brP (fun yc2 => ?_) (fun yc2 => ?_)
    · have yd3 : t10.toNat < t8_1 := by omega
      simp -implicitDefEqProofs only [sz5, ag5, enC_length, yc1, yc2, yd3, setA, setB, za, zb, zc, zd, ze, zf, zg, zh, zi, zj, zk, zl, zm, zn, zo, zp, reduceCtorEq, zE, ↓reduceIte]
      refine brP (fun yc4 => ?_) (fun yc4 => ?_)
      · simp -implicitDefEqProofs only [(enC_load h0 t10.toNat yc4), c34_19_e, c34_20_r, (show opsOf c34_20 = _ :: _ from rfl), yc1, yc2, yd3, yc4, setA, setB, za, zb, zc, zd, ze, zf, zg, zh, zi, zj, zk, zl, zm, zn, zo, zp, reduceCtorEq, zE, ↓reduceIte]
        refine brB (fun yc5 => ?_) (fun yc5 => ?_)
        · simp -implicitDefEqProofs only [yc1, yc2, yd3, yc4, yc5, setA, setB, za, zb, zc, zd, ze, zf, zg, zh, zi, zj, zk, zl, zm, zn, zo, zp, reduceCtorEq, zE, ↓reduceIte]
          exact j34_21_t b3_1 t10 (h0.getD t10.toNat 0) t8_1 t9 t10 (decide ((h0.getD t10.toNat 0) ≤ (90 : UInt8))) h0 _ (by rfl) (by rfl) (by rfl) (by rfl) (by rfl) (by rfl) (by rfl)
        · simp -implicitDefEqProofs only [yc1, yc2, yd3, yc4, yc5, setA, setB, za, zb, zc, zd, ze, zf, zg, zh, zi, zj, zk, zl, zm, zn, zo, zp, reduceCtorEq, zE, ↓reduceIte]
          exact j34_21_t b3_1 t10 (h0.getD t10.toNat 0) t8_1 t9 t10 false h0 _ (by rfl) (by rfl) (by rfl) (by rfl) (by rfl) (by rfl) (by rfl)
      · rw [if_neg yc4]; rfl
    · rw [if_neg yc2]; rfl
  · simp -implicitDefEqProofs only [c34_14_e, K34_8, yc1, setA, setB, za, zb, zc, zd, ze, zf, zg, zh, zi, zj, zk, zl, zm, zn, zo, zp, reduceCtorEq, zE, ↓reduceIte]
    exact mi (j34_25_t b3_1 h0 _ (by rfl))
def l34_8 (b3_1 t8_1 : Nat) (t9 t10 : Int) (h0 : List UInt8) : Option R34 := iter (fun x : (Nat × Nat × Int × Int × List UInt8) => s34_8 x.1 x.2.1 x.2.2.1 x.2.2.2.1 x.2.2.2.2) (b3_1, t8_1, t9, t10, h0)
theorem l34_8_t (b3_1 t8_1 : Nat) (t9 t10 : Int) (h0 : List UInt8) : bodyD (E0 mm) [.tmp 2] 0 false (seqD (E0 mm) 34 0 (callW (E0 mm)) itW c34_25 (blockD 0 (itW (loopF (E0 mm) 34 0 (callW (E0 mm)) itW c34_9 [(3, .keep), (8, .keep), (9, .keep), (10, .keep)]) (none, [.v (.c (.slc 0 0 1 b3_1 none)), .v (.c (.slc 0 0 1 t8_1 none)), .v (.c (.d (.sc (.int .i64 t9)))), .v (.c (.d (.sc (.int .i64 t10))))], [.cells (enC h0)])))) = (l34_8 b3_1 t8_1 t9 t10 h0).map e34 :=
  it_sim (K := (K34_8 (mm := mm))) rfl (enc := en34_8) (fun x => s34_8_t x.1 x.2.1 x.2.2.1 x.2.2.2.1 x.2.2.2.2) (b3_1, t8_1, t9, t10, h0)
def m34 (s : Bs) : Option R34 :=
  l34_8 s.length s.length (s.length : Int) (0 : Int) s
theorem f34_t (s : Bs) :
    callW (E0 mm) 34 [.c (.d (.sc (.string (S s))))] [] = (m34 s).map e34 := by
  rw [callW_run (body := c34_0) (res := [.tmp 2]) Tryd.func34 rfl rfl (by kernel_rfl)]
  simp -implicitDefEqProofs only [m34, slots1, c34_0_e, c34_1_r, (show opsOf c34_1 = _ :: _ from rfl), c34_2_e, c34_3_r, (show opsOf c34_3 = _ :: _ from rfl), Tryd.underlying9, Tryd.underlying33, Tryd.underlying5, hd16, enC_S, S_size, c34_4_e, c34_5_e, c34_6_r, (show opsOf c34_6 = _ :: _ from rfl), c34_7_e, c34_8_l, setA, setB, za, zb, zc, zd, ze, zf, zg, zh, zi, zj, zk, zl, zm, zn, zo, zp, reduceCtorEq, zE, ↓reduceIte]
  exact l34_8_t s.length s.length (s.length : Int) (0 : Int) s
noncomputable def c24_0 : Code := bodyOf Tryd.f24
def c24_1 := cA c24_0
def c24_2 := cB c24_0
def c24_3 := cA c24_2
def c24_4 := cB c24_2
theorem c24_0_e : c24_0 = .seq c24_1 c24_2 := rfl
theorem c24_1_r : RG (E0 mm) 24 c24_1 := rgN rfl
theorem c24_2_e : c24_2 = .seq c24_3 c24_4 := rfl
theorem c24_3_r : RG (E0 mm) 24 c24_3 := rgN rfl
theorem c24_4_e : c24_4 = .ret := rfl
abbrev R24 := (Bool)
def e24 : R24 → AV × Heap := fun x => (.v (.c (.d (.sc (.bool x)))), [])
def m24 (a b : Bs) : Option R24 :=
  (m34 a).bind fun yr2 =>
    (m34 b).bind fun yr4 =>
      some (yr2 == yr4)
theorem f24_t (a b : Bs) :
    callW (E0 mm) 24 [.c (.d (.sc (.string (S a)))), .c (.d (.sc (.string (S b))))] [] = (m24 a b).map e24 := by
  rw [callW_run (body := c24_0) (res := [.tmp 4]) Tryd.func24 rfl rfl (by kernel_rfl)]
  simp -implicitDefEqProofs only [m24, slots2, c24_0_e, c24_1_r, (show opsOf c24_1 = _ :: _ from rfl), c24_2_e, c24_3_r, (show opsOf c24_3 = _ :: _ from rfl), ent34, prm34, f34_t, setA, setB, za, zb, zc, zd, ze, zf, zg, zh, zi, zj, zk, zl, zm, zn, zo, zp, reduceCtorEq, zE, ↓reduceIte]
  refine brM (fun yc1 => ?_) (fun yr2 yc1 => ?_)
  · rw [yc1]; rfl
  · simp -implicitDefEqProofs only [e34, ent34, prm34, f34_t, yc1, setA, setB, za, zb, zc, zd, ze, zf, zg, zh, zi, zj, zk, zl, zm, zn, zo, zp, reduceCtorEq, zE, ↓reduceIte]
    refine brM (fun yc3 => ?_) (fun yr4 yc3 => ?_)
    · rw [yc3]; rfl
    · simp -implicitDefEqProofs only [e34, c24_4_e, yc1, yc3, setA, setB, za, zb, zc, zd, ze, zf, zg, zh, zi, zj, zk, zl, zm, zn, zo, zp, reduceCtorEq, zE, ↓reduceIte]
      all_goals rfl
noncomputable def c15_0 : Code := bodyOf Tryd.f15
def c15_1 := cA c15_0
def c15_2 := cB c15_0
def c15_3 := cA c15_2
def c15_4 := cB c15_2
def c15_5 := cA c15_4
def c15_6 := cA c15_5
def c15_7 := cB c15_5
def c15_8 := cA c15_7
def c15_9 := cA c15_8
def c15_10 := cA c15_9
def c15_11 := cB c15_9
def c15_12 := cA c15_11
def c15_13 := cA c15_12
def c15_14 := cB c15_12
def c15_15 := cB c15_11
def c15_16 := cA c15_15
def c15_17 := cA c15_16
def c15_18 := cA c15_17
def c15_19 := cB c15_17
def c15_20 := cA c15_19
def c15_21 := cB c15_19
def c15_22 := cA c15_21
def c15_23 := cB c15_21
def c15_24 := cB c15_15
def c15_25 := cB c15_4
def c15_26 := cA c15_25
def c15_27 := cB c15_25
theorem c15_0_e : c15_0 = .seq c15_1 c15_2 := rfl
theorem c15_1_r : RG (E0 mm) 15 c15_1 := rgN rfl
theorem c15_2_e : c15_2 = .seq c15_3 c15_4 := rfl
theorem c15_3_r : RG (E0 mm) 15 c15_3 := rgN rfl
theorem c15_4_e : c15_4 = .seq c15_5 c15_25 := rfl
theorem c15_5_e : c15_5 = .seq c15_6 c15_7 := rfl
theorem c15_6_r : RG (E0 mm) 15 c15_6 := rgN rfl
theorem c15_7_e : c15_7 = .block 0 c15_8 := rfl
theorem c15_8_l (m : Nat) (st : St) : den (E0 mm) 15 m (callW (E0 mm)) itW c15_8 none st = loopD itW (loopF (E0 mm) 15 m (callW (E0 mm)) itW c15_9 [(1, .keep), (5, .own), (8, .keep), (9, .keep), (10, .keep)]) (canon m [(1, .keep), (5, .own), (8, .keep), (9, .keep), (10, .keep)] st) := rfl
theorem c15_9_e : c15_9 = .seq c15_10 c15_11 := rfl
theorem c15_10_r : RG (E0 mm) 15 c15_10 := rgN rfl
theorem c15_11_e : c15_11 = .seq c15_12 c15_15 := rfl
theorem c15_13_e : c15_13 = .skip := rfl
theorem c15_14_e : c15_14 = .exit 0 := rfl
theorem c15_15_e : c15_15 = .seq c15_16 c15_24 := rfl
theorem c15_16_e : c15_16 = .block 1 c15_17 := rfl
theorem c15_17_e : c15_17 = .seq c15_18 c15_19 := rfl
theorem c15_18_r : RG (E0 mm) 15 c15_18 := rgN rfl
theorem c15_19_e : c15_19 = .seq c15_20 c15_21 := rfl
theorem c15_20_r : RG (E0 mm) 15 c15_20 := rgN rfl
theorem c15_22_r : RG (E0 mm) 15 c15_22 := rgN rfl
theorem c15_23_e : c15_23 = .skip := rfl
theorem c15_24_r : RG (E0 mm) 15 c15_24 := rgN rfl
theorem c15_25_e : c15_25 = .seq c15_26 c15_27 := rfl
theorem c15_26_r : RG (E0 mm) 15 c15_26 := rgN rfl
theorem c15_27_e : c15_27 = .ret := rfl
abbrev R15 := (Bool × List Bs)
def e15 : R15 → AV × Heap := fun x => (.v (.c (.own x.1 (enL enS x.2) 0)), [.row x.2.length (rz x.1 1)])
def K15_8 : Option (Ex × St) → Option (AV × Heap) := fun r => bodyD (E0 mm) [.tmp 4] 0 false (seqD (E0 mm) 15 0 (callW (E0 mm)) itW c15_25 (blockD 0 (r)))
def en15_8 : (Bs × Bool × List Bs × Bool × List (Bs × Bs) × Int × Int) → X := fun x => (none, [.v (.c (.d (.sc (.string (S x.1))))), .v (.c (.own x.2.1 (enL enS x.2.2.1) 0)), .v (.c (.d (.lst x.2.2.2.1 (enL enSS x.2.2.2.2.1)))), .v (.c (.d (.sc (.int .i64 x.2.2.2.2.2.1)))), .v (.c (.d (.sc (.int .i64 x.2.2.2.2.2.2))))], [.row x.2.2.1.length (rz x.2.1 1)])
def j15_24 (name1 : Bs) (out5_0 : Bool) (out5_1 : List Bs) (t8_0 : Bool) (t8_1 : List (Bs × Bs)) (t9 t10 : Int) : Option ((Bs × Bool × List Bs × Bool × List (Bs × Bs) × Int × Int) ⊕ R15) :=
  some (.inl (name1, out5_0, out5_1, t8_0, t8_1, t9, (w64 (t10 + 1))))
theorem j15_24_t (name1 : Bs) (out5_0 : Bool) (out5_1 : List Bs) (t8_0 : Bool) (t8_1 : List (Bs × Bs)) (t9 t10 : Int) (g1 : Ob) (sl : Nat → AV) (zq1 : sl 1 = .v (.c (.d (.sc (.string (S name1)))))) (zq5 : sl 5 = .v (.c (.own out5_0 (enL enS out5_1) 0))) (zq8 : sl 8 = .v (.c (.d (.lst t8_0 (enL enSS t8_1))))) (zq9 : sl 9 = .v (.c (.d (.sc (.int .i64 t9))))) (zq10 : sl 10 = .v (.c (.d (.sc (.int .i64 t10))))) :
    stepE (K15_8 (mm := mm)) (loopK 0 [(1, .keep), (5, .own), (8, .keep), (9, .keep), (10, .keep)] (den (E0 mm) 15 0 (callW (E0 mm)) itW c15_24 none ⟨sl, [.row out5_1.length (rz out5_0 1), g1]⟩)) = (j15_24 name1 out5_0 out5_1 t8_0 t8_1 t9 t10).map (sm en15_8 e15) := by
  simp -implicitDefEqProofs only [j15_24, c15_24_r, (show opsOf c15_24 = _ :: _ from rfl), zq1, zq5, zq8, zq9, zq10, setA, setB, za, zb, zc, zd, ze, zf, zg, zh, zi, zj, zk, zl, zm, zn, zo, zp, reduceCtorEq, zE, ↓reduceIte]
  all_goals rfl
def j15_25 (out5_0 : Bool) (out5_1 : List Bs) : Option R15 :=
  some (out5_0, out5_1)
theorem j15_25_t (out5_0 : Bool) (out5_1 : List Bs)  (sl : Nat → AV) (zq5 : sl 5 = .v (.c (.own out5_0 (enL enS out5_1) 0))) :
    bodyD (E0 mm) [.tmp 4] 0 false (den (E0 mm) 15 0 (callW (E0 mm)) itW c15_25 none ⟨sl, [.row out5_1.length (rz out5_0 1)]⟩) = (j15_25 out5_0 out5_1).map e15 := by
  simp -implicitDefEqProofs only [j15_25, c15_25_e, c15_26_r, (show opsOf c15_26 = _ :: _ from rfl), c15_27_e, zq5, setA, setB, za, zb, zc, zd, ze, zf, zg, zh, zi, zj, zk, zl, zm, zn, zo, zp, reduceCtorEq, zE, ↓reduceIte]
  all_goals rfl
def s15_8 (name1 : Bs) (out5_0 : Bool) (out5_1 : List Bs) (t8_0 : Bool) (t8_1 : List (Bs × Bs)) (t9 t10 : Int) : Option ((Bs × Bool × List Bs × Bool × List (Bs × Bs) × Int × Int) ⊕ R15) :=
  if (decide (t10 < t9)) = true then
    if 0 ≤ t10 ∧ t10 < (t8_1.length : Int) then
      (m24 ((t8_1.getD t10.toNat default).1) name1).bind fun yr5 =>
        if yr5 = true then
          if (out5_1.length + 1) * 16 ≤ 140737488355328 then
            j15_24 name1 false (out5_1 ++ ([(t8_1.getD t10.toNat default).2] : List Bs)) t8_0 t8_1 t9 t10
          else none
        else
          j15_24 name1 out5_0 out5_1 t8_0 t8_1 t9 t10
    else none
  else
    (j15_25 out5_0 out5_1).map .inr
theorem s15_8_t (name1 : Bs) (out5_0 : Bool) (out5_1 : List Bs) (t8_0 : Bool) (t8_1 : List (Bs × Bs)) (t9 t10 : Int) :
    stepE (K15_8 (mm := mm)) (loopF (E0 mm) 15 0 (callW (E0 mm)) itW c15_9 [(1, .keep), (5, .own), (8, .keep), (9, .keep), (10, .keep)] (none, [.v (.c (.d (.sc (.string (S name1))))), .v (.c (.own out5_0 (enL enS out5_1) 0)), .v (.c (.d (.lst t8_0 (enL enSS t8_1)))), .v (.c (.d (.sc (.int .i64 t9)))), .v (.c (.d (.sc (.int .i64 t10))))], [.row out5_1.length (rz out5_0 1)])) = (s15_8 name1 out5_0 out5_1 t8_0 t8_1 t9 t10).map (sm en15_8 e15) := by
  simp -implicitDefEqProofs only [s15_8, loopF_eq, c15_9_e, c15_10_r, (show opsOf c15_10 = _ :: _ from rfl), c15_11_e, (show c15_12 = Code.cond _ c15_13 c15_14 from rfl), setA, setB, za, zb, zc, zd, ze, zf, zg, zh, zi, zj, zk, zl, zm, zn, zo, zp, reduceCtorEq, zE, ↓reduceIte]
  refine brB (fun yc1 => ?_) (fun yc1 => ?_)
  · simp -implicitDefEqProofs only [c15_13_e, c15_15_e, c15_16_e, c15_17_e, c15_18_r, (show opsOf c15_18 = _ :: _ from rfl), Tryd.underlying22, sz29, enSS_a, yc1, setA, setB, za, zb, zc, zd, ze, zf, zg, zh, zi, zj, zk, zl, zm, zn, zo, zp, reduceCtorEq, zE, ↓reduceIte]
    refine brP (fun yc2 => ?_) (fun yc2 => ?_)
    · have yd3 : t10.toNat < t8_1.length := by omega
      simp -implicitDefEqProofs only [(enL_get enSS t8_1 t10.toNat yd3), enSS_e, sz29, ag29, zc29, ao15, c15_19_e, c15_20_r, (show opsOf c15_20 = _ :: _ from rfl), Tryd.underlying29, sz9, ag9, ent24, prm24, f24_t, yc1, yc2, yd3, setA, setB, za, zb, zc, zd, ze, zf, zg, zh, zi, zj, zk, zl, zm, zn, zo, zp, reduceCtorEq, zE, ↓reduceIte]
      refine brM (fun yc4 => ?_) (fun yr5 yc4 => ?_)
      · rw [yc4]; rfl
      · simp -implicitDefEqProofs only [e24, (show c15_21 = Code.cond _ c15_22 c15_23 from rfl), yc1, yc2, yd3, yc4, setA, setB, za, zb, zc, zd, ze, zf, zg, zh, zi, zj, zk, zl, zm, zn, zo, zp, reduceCtorEq, zE, ↓reduceIte]
        refine brB (fun yc6 => ?_) (fun yc6 => ?_)
        · simp -implicitDefEqProofs only [c15_22_r, (show opsOf c15_22 = _ :: _ from rfl), Tryd.underlying29, sz9, ag9, Tryd.underlying41, zc9, hd17, nv18, rw19, ns20, ap41, yc1, yc2, yd3, yc4, yc6, setA, setB, za, zb, zc, zd, ze, zf, zg, zh, zi, zj, zk, zl, zm, zn, zo, zp, reduceCtorEq, zE, ↓reduceIte]
          refine brP (fun yc7 => ?_) (fun yc7 => ?_)
          · simp -implicitDefEqProofs only [yc1, yc2, yd3, yc4, yc6, yc7, setA, setB, za, zb, zc, zd, ze, zf, zg, zh, zi, zj, zk, zl, zm, zn, zo, zp, reduceCtorEq, zE, ↓reduceIte]
            exact j15_24_t name1 false (out5_1 ++ ([(t8_1.getD t10.toNat default).2] : List Bs)) t8_0 t8_1 t9 t10 _ _ (by rfl) (by rfl) (by rfl) (by rfl) (by rfl)
          · rw [if_neg yc7]; rfl
        · simp -implicitDefEqProofs only [c15_23_e, yc1, yc2, yd3, yc4, yc6, setA, setB, za, zb, zc, zd, ze, zf, zg, zh, zi, zj, zk, zl, zm, zn, zo, zp, reduceCtorEq, zE, ↓reduceIte]
          exact j15_24_t name1 out5_0 out5_1 t8_0 t8_1 t9 t10 _ _ (by rfl) (by rfl) (by rfl) (by rfl) (by rfl)
    · rw [if_neg yc2]; rfl
  · simp -implicitDefEqProofs only [c15_14_e, K15_8, yc1, setA, setB, za, zb, zc, zd, ze, zf, zg, zh, zi, zj, zk, zl, zm, zn, zo, zp, reduceCtorEq, zE, ↓reduceIte]
    exact mi (j15_25_t out5_0 out5_1 _ (by rfl))
def l15_8 (name1 : Bs) (out5_0 : Bool) (out5_1 : List Bs) (t8_0 : Bool) (t8_1 : List (Bs × Bs)) (t9 t10 : Int) : Option R15 := iter (fun x : (Bs × Bool × List Bs × Bool × List (Bs × Bs) × Int × Int) => s15_8 x.1 x.2.1 x.2.2.1 x.2.2.2.1 x.2.2.2.2.1 x.2.2.2.2.2.1 x.2.2.2.2.2.2) (name1, out5_0, out5_1, t8_0, t8_1, t9, t10)
theorem l15_8_t (name1 : Bs) (out5_0 : Bool) (out5_1 : List Bs) (t8_0 : Bool) (t8_1 : List (Bs × Bs)) (t9 t10 : Int) : bodyD (E0 mm) [.tmp 4] 0 false (seqD (E0 mm) 15 0 (callW (E0 mm)) itW c15_25 (blockD 0 (itW (loopF (E0 mm) 15 0 (callW (E0 mm)) itW c15_9 [(1, .keep), (5, .own), (8, .keep), (9, .keep), (10, .keep)]) (none, [.v (.c (.d (.sc (.string (S name1))))), .v (.c (.own out5_0 (enL enS out5_1) 0)), .v (.c (.d (.lst t8_0 (enL enSS t8_1)))), .v (.c (.d (.sc (.int .i64 t9)))), .v (.c (.d (.sc (.int .i64 t10))))], [.row out5_1.length (rz out5_0 1)])))) = (l15_8 name1 out5_0 out5_1 t8_0 t8_1 t9 t10).map e15 :=
  it_sim (K := (K15_8 (mm := mm))) rfl (enc := en15_8) (fun x => s15_8_t x.1 x.2.1 x.2.2.1 x.2.2.2.1 x.2.2.2.2.1 x.2.2.2.2.2.1 x.2.2.2.2.2.2) (name1, out5_0, out5_1, t8_0, t8_1, t9, t10)
def m15 (l_0 : Bool) (l_1 : List (Bs × Bs)) (name : Bs) : Option R15 :=
  l15_8 name true ([] : List Bs) l_0 l_1 (l_1.length : Int) (0 : Int)
theorem f15_t (l_0 : Bool) (l_1 : List (Bs × Bs)) (name : Bs) :
    callW (E0 mm) 15 [.c (.d (.lst l_0 (enL enSS l_1))), .c (.d (.sc (.string (S name))))] [] = (m15 l_0 l_1 name).map e15 := by
  rw [callW_run (body := c15_0) (res := [.tmp 4]) Tryd.func15 rfl rfl (by kernel_rfl)]
  simp -implicitDefEqProofs only [m15, slots2, c15_0_e, c15_1_r, (show opsOf c15_1 = _ :: _ from rfl), c15_2_e, c15_3_r, (show opsOf c15_3 = _ :: _ from rfl), c15_4_e, c15_5_e, c15_6_r, (show opsOf c15_6 = _ :: _ from rfl), Tryd.underlying22, c15_7_e, c15_8_l, setA, setB, za, zb, zc, zd, ze, zf, zg, zh, zi, zj, zk, zl, zm, zn, zo, zp, reduceCtorEq, zE, ↓reduceIte]
  exact l15_8_t name true ([] : List Bs) l_0 l_1 (l_1.length : Int) (0 : Int)
noncomputable def c51_0 : Code := bodyOf Tryd.f51
def c51_1 := cA c51_0
def c51_2 := cB c51_0
def c51_3 := cA c51_2
def c51_4 := cB c51_2
theorem c51_0_e : c51_0 = .seq c51_1 c51_2 := rfl
theorem c51_1_r : RG (E0 mm) 51 c51_1 := rgN rfl
theorem c51_2_e : c51_2 = .seq c51_3 c51_4 := rfl
theorem c51_3_r : RG (E0 mm) 51 c51_3 := rgN rfl
theorem c51_4_e : c51_4 = .ret := rfl
abbrev R51 := (Bs)
def e51 : R51 → AV × Heap := fun x => (.v (.c (.d (.sc (.string (S x))))), [])
def m51 (s : Bs) : Option R51 :=
  (mTrim s ([32, 9] : Bs)).bind fun yr2 =>
    some yr2
theorem f51_t (s : Bs) :
    callW (E0 mm) 51 [.c (.d (.sc (.string (S s))))] [] = (m51 s).map e51 := by
  rw [callW_run (body := c51_0) (res := [.tmp 2]) Tryd.func51 rfl rfl (by kernel_rfl)]
  simp -implicitDefEqProofs only [m51, slots1, c51_0_e, c51_1_r, (show opsOf c51_1 = _ :: _ from rfl), c51_2_e, c51_3_r, (show opsOf c51_3 = _ :: _ from rfl), ent61, prm61, pTrim_t, setA, setB, za, zb, zc, zd, ze, zf, zg, zh, zi, zj, zk, zl, zm, zn, zo, zp, reduceCtorEq, zE, ↓reduceIte]
  refine brM (fun yc1 => ?_) (fun yr2 yc1 => ?_)
  · rw [yc1]; rfl
  · simp -implicitDefEqProofs only [pTrim_t, c51_4_e, yc1, setA, setB, za, zb, zc, zd, ze, zf, zg, zh, zi, zj, zk, zl, zm, zn, zo, zp, reduceCtorEq, zE, ↓reduceIte]
    all_goals rfl
noncomputable def c50_0 : Code := bodyOf Tryd.f50
def c50_1 := cA c50_0
def c50_2 := cA c50_1
def c50_3 := cB c50_1
def c50_4 := cA c50_3
def c50_5 := cB c50_3
def c50_6 := cA c50_5
def c50_7 := cB c50_5
def c50_8 := cB c50_0
theorem c50_0_e : c50_0 = .seq c50_1 c50_8 := rfl
theorem c50_1_e : c50_1 = .seq c50_2 c50_3 := rfl
theorem c50_2_r : RG (E0 mm) 50 c50_2 := rgN rfl
theorem c50_3_e : c50_3 = .seq c50_4 c50_5 := rfl
theorem c50_4_r : RG (E0 mm) 50 c50_4 := rgN rfl
theorem c50_6_r : RG (E0 mm) 50 c50_6 := rgN rfl
theorem c50_7_e : c50_7 = .skip := rfl
theorem c50_8_r : RG (E0 mm) 50 c50_8 := rgN rfl
abbrev R50 := (Bs × Int × Bool × List Bs)
def e50 : R50 → AV × Heap := fun x => (.tup [], [.cells [.d (.sc (.string (S x.1)))], .cells [.d (.sc (.int .i64 x.2.1))], .cells [.own x.2.2.1 (enL enS x.2.2.2) 3], .row x.2.2.2.length (rz x.2.2.1 1)])
def j50_8 (to0 : Int) (h0_0 : Bs) (h1_0 : Int) (h2_0_0 : Bool) (h2_0_1 : List Bs) : Option R50 :=
  some (h0_0, (w64 (to0 + 1)), h2_0_0, h2_0_1)
theorem j50_8_t (to0 : Int) (h0_0 : Bs) (h1_0 : Int) (h2_0_0 : Bool) (h2_0_1 : List Bs)  (sl : Nat → AV) (zq0 : sl 0 = .v (.c (.d (.sc (.int .i64 to0))))) (zq2 : sl 2 = .v (.c (.ptr 1 0))) :
    bodyD (E0 mm) [] 4 false (den (E0 mm) 50 4 (callW (E0 mm)) itW c50_8 none ⟨sl, [.cells [.d (.sc (.string (S h0_0)))], .cells [.d (.sc (.int .i64 h1_0))], .cells [.own h2_0_0 (enL enS h2_0_1) 3], .row h2_0_1.length (rz h2_0_0 1)]⟩) = (j50_8 to0 h0_0 h1_0 h2_0_0 h2_0_1).map e50 := by
  simp -implicitDefEqProofs only [j50_8, c50_8_r, (show opsOf c50_8 = _ :: _ from rfl), sz3, zq0, zq2, setA, setB, za, zb, zc, zd, ze, zf, zg, zh, zi, zj, zk, zl, zm, zn, zo, zp, reduceCtorEq, zE, ↓reduceIte]
  all_goals rfl
def m50 (to : Int) (h0_0 : Bs) (h1_0 : Int) (h2_0_0 : Bool) (h2_0_1 : List Bs) : Option R50 :=
  (bnd to h0_0.length).bind fun yk2 =>
    (bnd h1_0 yk2).bind fun yk4 =>
      (m51 ((h0_0.take yk2).drop yk4)).bind fun yr6 =>
        if (yr6 == ([] : Bs)) = true then
          j50_8 to h0_0 h1_0 h2_0_0 h2_0_1
        else
          if (h2_0_1.length + 1) * 16 ≤ 140737488355328 then
            j50_8 to h0_0 h1_0 false (h2_0_1 ++ ([yr6] : List Bs))
          else none
theorem f50_t (to : Int) (h0_0 : Bs) (h1_0 : Int) (h2_0_0 : Bool) (h2_0_1 : List Bs) :
    callW (E0 mm) 50 [.c (.d (.sc (.int .i64 to))), .c (.ptr 0 0), .c (.ptr 1 0), .c (.ptr 2 0)] [.cells [.d (.sc (.string (S h0_0)))], .cells [.d (.sc (.int .i64 h1_0))], .cells [.own h2_0_0 (enL enS h2_0_1) 3], .row h2_0_1.length (rz h2_0_0 1)] = (m50 to h0_0 h1_0 h2_0_0 h2_0_1).map e50 := by
  rw [callW_run (body := c50_0) (res := []) Tryd.func50 rfl rfl (by kernel_rfl)]
  simp -implicitDefEqProofs only [m50, slots4, c50_0_e, c50_1_e, c50_2_r, (show opsOf c50_2 = _ :: _ from rfl), sz9, ag9, sz3, ag3, Tryd.underlying9, setA, setB, za, zb, zc, zd, ze, zf, zg, zh, zi, zj, zk, zl, zm, zn, zo, zp, reduceCtorEq, zE, ↓reduceIte]
  refine brM (fun yc1 => ?_) (fun yk2 yc1 => ?_)
  · rw [yc1]; rfl
  · simp -implicitDefEqProofs only [yc1, setA, setB, za, zb, zc, zd, ze, zf, zg, zh, zi, zj, zk, zl, zm, zn, zo, zp, reduceCtorEq, zE, ↓reduceIte]
    refine brM (fun yc3 => ?_) (fun yk4 yc3 => ?_)
    · rw [yc3]; rfl
    · simp -implicitDefEqProofs only [ent51, prm51, f51_t, yc1, yc3, setA, setB, za, zb, zc, zd, ze, zf, zg, zh, zi, zj, zk, zl, zm, zn, zo, zp, reduceCtorEq, zE, ↓reduceIte]
      refine brM (fun yc5 => ?_) (fun yr6 yc5 => ?_)
      · rw [yc5]; rfl
      · simp -implicitDefEqProofs only [e51, c50_3_e, c50_4_r, (show opsOf c50_4 = _ :: _ from rfl), (show c50_5 = Code.cond _ c50_6 c50_7 from rfl), yc1, yc3, yc5, setA, setB, za, zb, zc, zd, ze, zf, zg, zh, zi, zj, zk, zl, zm, zn, zo, zp, reduceCtorEq, zE, ↓reduceIte]
        refine brB (fun yc7 => ?_) (fun yc7 => ?_)
        · simp -implicitDefEqProofs only [c50_7_e, yc1, yc3, yc5, yc7, setA, setB, za, zb, zc, zd, ze, zf, zg, zh, zi, zj, zk, zl, zm, zn, zo, zp, reduceCtorEq, zE, ↓reduceIte]
          exact j50_8_t to h0_0 h1_0 h2_0_0 h2_0_1 _ (by rfl) (by rfl)
        · simp -implicitDefEqProofs only [c50_6_r, (show opsOf c50_6 = _ :: _ from rfl), sz41, ag41, Tryd.underlying41, sz9, zc9, hd24, nv25, rw26, ns20, ap41, yc1, yc3, yc5, yc7, setA, setB, za, zb, zc, zd, ze, zf, zg, zh, zi, zj, zk, zl, zm, zn, zo, zp, reduceCtorEq, zE, ↓reduceIte]
          refine brP (fun yc8 => ?_) (fun yc8 => ?_)
          · simp -implicitDefEqProofs only [sz41, yc1, yc3, yc5, yc7, yc8, setA, setB, za, zb, zc, zd, ze, zf, zg, zh, zi, zj, zk, zl, zm, zn, zo, zp, reduceCtorEq, zE, ↓reduceIte]
            exact j50_8_t to h0_0 h1_0 false (h2_0_1 ++ ([yr6] : List Bs)) _ (by rfl) (by rfl)
          · rw [if_neg yc8]; rfl
noncomputable def c42_0 : Code := bodyOf Tryd.f42
def c42_1 := cA c42_0
def c42_2 := cB c42_0
def c42_3 := cA c42_2
def c42_4 := cB c42_2
def c42_5 := cA c42_4
def c42_6 := cB c42_4
def c42_7 := cA c42_6
def c42_8 := cB c42_6
def c42_9 := cA c42_8
def c42_10 := cA c42_9
def c42_11 := cB c42_9
def c42_12 := cA c42_11
def c42_13 := cA c42_12
def c42_14 := cA c42_13
def c42_15 := cB c42_13
def c42_16 := cA c42_15
def c42_17 := cA c42_16
def c42_18 := cB c42_16
def c42_19 := cB c42_15
def c42_20 := cA c42_19
def c42_21 := cA c42_20
def c42_22 := cB c42_20
def c42_23 := cA c42_22
def c42_24 := cA c42_23
def c42_25 := cB c42_23
def c42_26 := cA c42_25
def c42_27 := cB c42_25
def c42_28 := cA c42_27
def c42_29 := cB c42_27
def c42_30 := cA c42_29
def c42_31 := cB c42_29
def c42_32 := cA c42_31
def c42_33 := cB c42_31
def c42_34 := cA c42_33
def c42_35 := cB c42_33
def c42_36 := cA c42_35
def c42_37 := cB c42_35
def c42_38 := cA c42_37
def c42_39 := cB c42_37
def c42_40 := cB c42_8
def c42_41 := cA c42_40
def c42_42 := cB c42_40
def c42_43 := cA c42_42
def c42_44 := cB c42_42
theorem c42_0_e : c42_0 = .seq c42_1 c42_2 := rfl
theorem c42_1_r : RG (E0 mm) 42 c42_1 := rgN rfl
theorem c42_2_e : c42_2 = .seq c42_3 c42_4 := rfl
theorem c42_3_r : RG (E0 mm) 42 c42_3 := rgN rfl
theorem c42_4_e : c42_4 = .seq c42_5 c42_6 := rfl
theorem c42_5_r : RG (E0 mm) 42 c42_5 := rgN rfl
theorem c42_6_e : c42_6 = .seq c42_7 c42_8 := rfl
theorem c42_7_r : RG (E0 mm) 42 c42_7 := rgN rfl
theorem c42_8_e : c42_8 = .seq c42_9 c42_40 := rfl
theorem c42_9_e : c42_9 = .seq c42_10 c42_11 := rfl
theorem c42_10_r : RG (E0 mm) 42 c42_10 := rgN rfl
theorem c42_11_e : c42_11 = .block 0 c42_12 := rfl
theorem c42_12_l (m : Nat) (st : St) : den (E0 mm) 42 m (callW (E0 mm)) itW c42_12 none st = loopD itW (loopF (E0 mm) 42 m (callW (E0 mm)) itW c42_13 [(1, .keep), (3, .keep), (5, .keep), (6, .keep), (7, .keep), (12, .keep)]) (canon m [(1, .keep), (3, .keep), (5, .keep), (6, .keep), (7, .keep), (12, .keep)] st) := rfl
theorem c42_13_e : c42_13 = .seq c42_14 c42_15 := rfl
theorem c42_14_r : RG (E0 mm) 42 c42_14 := rgN rfl
theorem c42_15_e : c42_15 = .seq c42_16 c42_19 := rfl
theorem c42_17_e : c42_17 = .skip := rfl
theorem c42_18_e : c42_18 = .exit 0 := rfl
theorem c42_19_e : c42_19 = .block 1 c42_20 := rfl
theorem c42_20_e : c42_20 = .seq c42_21 c42_22 := rfl
theorem c42_21_r : RG (E0 mm) 42 c42_21 := rgN rfl
theorem c42_22_e : c42_22 = .block 2 c42_23 := rfl
theorem c42_23_e : c42_23 = .seq c42_24 c42_25 := rfl
theorem c42_24_r : RG (E0 mm) 42 c42_24 := rgN rfl
theorem c42_26_r : RG (E0 mm) 42 c42_26 := rgN rfl
theorem c42_27_e : c42_27 = .seq c42_28 c42_29 := rfl
theorem c42_28_r : RG (E0 mm) 42 c42_28 := rgN rfl
theorem c42_30_r : RG (E0 mm) 42 c42_30 := rgN rfl
theorem c42_31_e : c42_31 = .seq c42_32 c42_33 := rfl
theorem c42_32_r : RG (E0 mm) 42 c42_32 := rgN rfl
theorem c42_34_r : RG (E0 mm) 42 c42_34 := rgN rfl
theorem c42_35_e : c42_35 = .seq c42_36 c42_37 := rfl
theorem c42_36_r : RG (E0 mm) 42 c42_36 := rgN rfl
theorem c42_38_r : RG (E0 mm) 42 c42_38 := rgN rfl
theorem c42_39_e : c42_39 = .skip := rfl
theorem c42_40_e : c42_40 = .seq c42_41 c42_42 := rfl
theorem c42_41_r : RG (E0 mm) 42 c42_41 := rgN rfl
theorem c42_42_e : c42_42 = .seq c42_43 c42_44 := rfl
theorem c42_43_r : RG (E0 mm) 42 c42_43 := rgN rfl
theorem c42_44_e : c42_44 = .ret := rfl
abbrev R42 := (Bool × List Bs)
def e42 : R42 → AV × Heap := fun x => (.v (.c (.own x.1 (enL enS x.2) 0)), [.row x.2.length (rz x.1 1)])
def K42_12 : Option (Ex × St) → Option (AV × Heap) := fun r => bodyD (E0 mm) [.tmp 2] 0 false (seqD (E0 mm) 42 0 (callW (E0 mm)) itW c42_40 (blockD 0 (r)))
def en42_12 : (Bool × Bool × Bs × Bool × List Bs × Int × Bs × Nat) → X := fun x => (none, [.v (.c (.ptr 0 0)), .v (.c (.ptr 1 0)), .v (.c (.d (.sc (.bool x.1)))), .v (.c (.d (.sc (.bool x.2.1)))), .v (.c (.fn 50 [(0, 0), (3, 0), (1, 0)])), .v (.c (.it 4))], [.cells [.d (.sc (.string (S x.2.2.1)))], .cells [.own x.2.2.2.1 (enL enS x.2.2.2.2.1) 2], .row x.2.2.2.2.1.length (rz x.2.2.2.1 1), .cells [.d (.sc (.int .i64 x.2.2.2.2.2.1))], .siter (S x.2.2.2.2.2.2.1) x.2.2.2.2.2.2.2])
def j42_37 (quoted5 masked6 : Bool) (i8 : Int) (t30 : Bool) (h0_0 : Bs) (h1_0_0 : Bool) (h1_0_1 : List Bs) (h3_0 : Int) (s4 : Bs) (p4 : Nat) : Option ((Bool × Bool × Bs × Bool × List Bs × Int × Bs × Nat) ⊕ R42) :=
  if t30 = true then
    (m50 i8 h0_0 h3_0 h1_0_0 h1_0_1).bind fun yr10 =>
      some (.inl (quoted5, masked6, yr10.1, yr10.2.2.1, yr10.2.2.2, yr10.2.1, s4, p4))
  else
    some (.inl (quoted5, masked6, h0_0, h1_0_0, h1_0_1, h3_0, s4, p4))
theorem j42_37_t (quoted5 masked6 : Bool) (i8 : Int) (t30 : Bool) (h0_0 : Bs) (h1_0_0 : Bool) (h1_0_1 : List Bs) (h3_0 : Int) (s4 : Bs) (p4 : Nat)  (sl : Nat → AV) (zq1 : sl 1 = .v (.c (.ptr 0 0))) (zq3 : sl 3 = .v (.c (.ptr 1 0))) (zq5 : sl 5 = .v (.c (.d (.sc (.bool quoted5))))) (zq6 : sl 6 = .v (.c (.d (.sc (.bool masked6))))) (zq7 : sl 7 = .v (.c (.fn 50 [(0, 0), (3, 0), (1, 0)]))) (zq8 : sl 8 = .v (.c (.d (.sc (.int .i64 i8))))) (zq12 : sl 12 = .v (.c (.it 4))) (zq30 : sl 30 = .v (.c (.d (.sc (.bool t30))))) :
    stepE (K42_12 (mm := mm)) (loopK 0 [(1, .keep), (3, .keep), (5, .keep), (6, .keep), (7, .keep), (12, .keep)] (blockD 1 (blockD 2 (den (E0 mm) 42 0 (callW (E0 mm)) itW c42_37 none ⟨sl, [.cells [.d (.sc (.string (S h0_0)))], .cells [.own h1_0_0 (enL enS h1_0_1) 2], .row h1_0_1.length (rz h1_0_0 1), .cells [.d (.sc (.int .i64 h3_0))], .siter (S s4) p4]⟩)))) = (j42_37 quoted5 masked6 i8 t30 h0_0 h1_0_0 h1_0_1 h3_0 s4 p4).map (sm en42_12 e42) := by
  simp -implicitDefEqProofs only [j42_37, (show c42_37 = Code.cond _ c42_38 c42_39 from rfl), zq1, zq3, zq5, zq6, zq7, zq8, zq12, zq30, setA, setB, za, zb, zc, zd, ze, zf, zg, zh, zi, zj, zk, zl, zm, zn, zo, zp, reduceCtorEq, zE, ↓reduceIte]
  refine brB (fun yc8 => ?_) (fun yc8 => ?_)
  · simp -implicitDefEqProofs only [c42_38_r, (show opsOf c42_38 = _ :: _ from rfl), ent50, prm50, f50_t, zq1, zq3, zq5, zq6, zq7, zq8, zq12, zq30, yc8, setA, setB, za, zb, zc, zd, ze, zf, zg, zh, zi, zj, zk, zl, zm, zn, zo, zp, reduceCtorEq, zE, ↓reduceIte]
    refine brM (fun yc9 => ?_) (fun yr10 yc9 => ?_)
    · rw [yc9]; rfl
    · simp -implicitDefEqProofs only [e50, zq1, zq3, zq5, zq6, zq7, zq8, zq12, zq30, yc8, yc9, setA, setB, za, zb, zc, zd, ze, zf, zg, zh, zi, zj, zk, zl, zm, zn, zo, zp, reduceCtorEq, zE, ↓reduceIte]
      all_goals rfl
  · simp -implicitDefEqProofs only [c42_39_e, zq1, zq3, zq5, zq6, zq7, zq8, zq12, zq30, yc8, setA, setB, za, zb, zc, zd, ze, zf, zg, zh, zi, zj, zk, zl, zm, zn, zo, zp, reduceCtorEq, zE, ↓reduceIte]
    all_goals rfl
def j42_29 (quoted5 masked6 : Bool) (i8 r9 : Int) (t19 : Bool) (h0_0 : Bs) (h1_0_0 : Bool) (h1_0_1 : List Bs) (h3_0 : Int) (s4 : Bs) (p4 : Nat) : Option ((Bool × Bool × Bs × Bool × List Bs × Int × Bs × Nat) ⊕ R42) :=
  if t19 = true then
    some (.inl (quoted5, true, h0_0, h1_0_0, h1_0_1, h3_0, s4, p4))
  else
    if (r9 == 34) = true then
      some (.inl ((!quoted5), masked6, h0_0, h1_0_0, h1_0_1, h3_0, s4, p4))
    else
      if (r9 == 44) = true then
        j42_37 quoted5 masked6 i8 (!quoted5) h0_0 h1_0_0 h1_0_1 h3_0 s4 p4
      else
        j42_37 quoted5 masked6 i8 false h0_0 h1_0_0 h1_0_1 h3_0 s4 p4
theorem j42_29_t (quoted5 masked6 : Bool) (i8 r9 : Int) (t19 : Bool) (h0_0 : Bs) (h1_0_0 : Bool) (h1_0_1 : List Bs) (h3_0 : Int) (s4 : Bs) (p4 : Nat)  (sl : Nat → AV) (zq1 : sl 1 = .v (.c (.ptr 0 0))) (zq3 : sl 3 = .v (.c (.ptr 1 0))) (zq5 : sl 5 = .v (.c (.d (.sc (.bool quoted5))))) (zq6 : sl 6 = .v (.c (.d (.sc (.bool masked6))))) (zq7 : sl 7 = .v (.c (.fn 50 [(0, 0), (3, 0), (1, 0)]))) (zq8 : sl 8 = .v (.c (.d (.sc (.int .i64 i8))))) (zq9 : sl 9 = .v (.c (.d (.sc (.int .i32 r9))))) (zq12 : sl 12 = .v (.c (.it 4))) (zq19 : sl 19 = .v (.c (.d (.sc (.bool t19))))) :
    stepE (K42_12 (mm := mm)) (loopK 0 [(1, .keep), (3, .keep), (5, .keep), (6, .keep), (7, .keep), (12, .keep)] (blockD 1 (blockD 2 (den (E0 mm) 42 0 (callW (E0 mm)) itW c42_29 none ⟨sl, [.cells [.d (.sc (.string (S h0_0)))], .cells [.own h1_0_0 (enL enS h1_0_1) 2], .row h1_0_1.length (rz h1_0_0 1), .cells [.d (.sc (.int .i64 h3_0))], .siter (S s4) p4]⟩)))) = (j42_29 quoted5 masked6 i8 r9 t19 h0_0 h1_0_0 h1_0_1 h3_0 s4 p4).map (sm en42_12 e42) := by
  simp -implicitDefEqProofs only [j42_29, (show c42_29 = Code.cond _ c42_30 c42_31 from rfl), zq1, zq3, zq5, zq6, zq7, zq8, zq9, zq12, zq19, setA, setB, za, zb, zc, zd, ze, zf, zg, zh, zi, zj, zk, zl, zm, zn, zo, zp, reduceCtorEq, zE, ↓reduceIte]
  refine brB (fun yc5 => ?_) (fun yc5 => ?_)
  · simp -implicitDefEqProofs only [c42_30_r, (show opsOf c42_30 = _ :: _ from rfl), zq1, zq3, zq5, zq6, zq7, zq8, zq9, zq12, zq19, yc5, setA, setB, za, zb, zc, zd, ze, zf, zg, zh, zi, zj, zk, zl, zm, zn, zo, zp, reduceCtorEq, zE, ↓reduceIte]
    all_goals rfl
  · simp -implicitDefEqProofs only [c42_31_e, c42_32_r, (show opsOf c42_32 = _ :: _ from rfl), (show c42_33 = Code.cond _ c42_34 c42_35 from rfl), zq1, zq3, zq5, zq6, zq7, zq8, zq9, zq12, zq19, yc5, setA, setB, za, zb, zc, zd, ze, zf, zg, zh, zi, zj, zk, zl, zm, zn, zo, zp, reduceCtorEq, zE, ↓reduceIte]
    refine brB (fun yc6 => ?_) (fun yc6 => ?_)
    · simp -implicitDefEqProofs only [c42_34_r, (show opsOf c42_34 = _ :: _ from rfl), zq1, zq3, zq5, zq6, zq7, zq8, zq9, zq12, zq19, yc5, yc6, setA, setB, za, zb, zc, zd, ze, zf, zg, zh, zi, zj, zk, zl, zm, zn, zo, zp, reduceCtorEq, zE, ↓reduceIte]
      all_goals rfl
    · simp -implicitDefEqProofs only [c42_35_e, c42_36_r, (show opsOf c42_36 = _ :: _ from rfl), zq1, zq3, zq5, zq6, zq7, zq8, zq9, zq12, zq19, yc5, yc6, setA, setB, za, zb, zc, zd, ze, zf, zg, zh, zi, zj, zk, zl, zm, zn, zo, zp, reduceCtorEq, zE, ↓reduceIte]
      refine brB (fun yc7 => ?_) (fun yc7 => ?_)
      · simp -implicitDefEqProofs only [zq1, zq3, zq5, zq6, zq7, zq8, zq9, zq12, zq19, yc5, yc6, yc7, setA, setB, za, zb, zc, zd, ze, zf, zg, zh, zi, zj, zk, zl, zm, zn, zo, zp, reduceCtorEq, zE, ↓reduceIte]
        exact j42_37_t quoted5 masked6 i8 (!quoted5) h0_0 h1_0_0 h1_0_1 h3_0 s4 p4 _ (by exact zq1) (by exact zq3) (by exact zq5) (by exact zq6) (by exact zq7) (by exact zq8) (by exact zq12) (by rfl)
      · simp -implicitDefEqProofs only [zq1, zq3, zq5, zq6, zq7, zq8, zq9, zq12, zq19, yc5, yc6, yc7, setA, setB, za, zb, zc, zd, ze, zf, zg, zh, zi, zj, zk, zl, zm, zn, zo, zp, reduceCtorEq, zE, ↓reduceIte]
        exact j42_37_t quoted5 masked6 i8 false h0_0 h1_0_0 h1_0_1 h3_0 s4 p4 _ (by exact zq1) (by exact zq3) (by exact zq5) (by exact zq6) (by exact zq7) (by exact zq8) (by exact zq12) (by rfl)
def j42_40 (h0_0 : Bs) (h1_0_0 : Bool) (h1_0_1 : List Bs) (h3_0 : Int) : Option R42 :=
  (m50 (h0_0.length : Int) h0_0 h3_0 h1_0_0 h1_0_1).bind fun yr12 =>
    some (yr12.2.2.1, yr12.2.2.2)
theorem j42_40_t (h0_0 : Bs) (h1_0_0 : Bool) (h1_0_1 : List Bs) (h3_0 : Int) (g4 : Ob) (sl : Nat → AV) (zq1 : sl 1 = .v (.c (.ptr 0 0))) (zq3 : sl 3 = .v (.c (.ptr 1 0))) (zq7 : sl 7 = .v (.c (.fn 50 [(0, 0), (3, 0), (1, 0)]))) :
    bodyD (E0 mm) [.tmp 2] 0 false (den (E0 mm) 42 0 (callW (E0 mm)) itW c42_40 none ⟨sl, [.cells [.d (.sc (.string (S h0_0)))], .cells [.own h1_0_0 (enL enS h1_0_1) 2], .row h1_0_1.length (rz h1_0_0 1), .cells [.d (.sc (.int .i64 h3_0))], g4]⟩) = (j42_40 h0_0 h1_0_0 h1_0_1 h3_0).map e42 := by
  simp -implicitDefEqProofs only [j42_40, c42_40_e, c42_41_r, (show opsOf c42_41 = _ :: _ from rfl), sz9, ag9, Tryd.underlying9, ent50, prm50, f50_t, zq1, zq3, zq7, setA, setB, za, zb, zc, zd, ze, zf, zg, zh, zi, zj, zk, zl, zm, zn, zo, zp, reduceCtorEq, zE, ↓reduceIte]
  refine brM (fun yc11 => ?_) (fun yr12 yc11 => ?_)
  · rw [yc11]; rfl
  · simp -implicitDefEqProofs only [e50, c42_42_e, c42_43_r, (show opsOf c42_43 = _ :: _ from rfl), sz41, ag41, c42_44_e, zq1, zq3, zq7, yc11, setA, setB, za, zb, zc, zd, ze, zf, zg, zh, zi, zj, zk, zl, zm, zn, zo, zp, reduceCtorEq, zE, ↓reduceIte]
    all_goals rfl
def s42_12 (quoted5 masked6 : Bool) (h0_0 : Bs) (h1_0_0 : Bool) (h1_0_1 : List Bs) (h3_0 : Int) (s4 : Bs) (p4 : Nat) : Option ((Bool × Bool × Bs × Bool × List Bs × Int × Bs × Nat) ⊕ R42) :=
  if (decide (p4 < s4.length)) = true then
    if masked6 = true then
      some (.inl (quoted5, false, h0_0, h1_0_0, h1_0_1, h3_0, s4, (p4 + uw s4 p4)))
    else
      if quoted5 = true then
        j42_29 true false (p4 : Int) (uc s4 p4 : Int) ((uc s4 p4 : Int) == 92) h0_0 h1_0_0 h1_0_1 h3_0 s4 (p4 + uw s4 p4)
      else
        j42_29 false false (p4 : Int) (uc s4 p4 : Int) false h0_0 h1_0_0 h1_0_1 h3_0 s4 (p4 + uw s4 p4)
  else
    (j42_40 h0_0 h1_0_0 h1_0_1 h3_0).map .inr
theorem s42_12_t (quoted5 masked6 : Bool) (h0_0 : Bs) (h1_0_0 : Bool) (h1_0_1 : List Bs) (h3_0 : Int) (s4 : Bs) (p4 : Nat) :
    stepE (K42_12 (mm := mm)) (loopF (E0 mm) 42 0 (callW (E0 mm)) itW c42_13 [(1, .keep), (3, .keep), (5, .keep), (6, .keep), (7, .keep), (12, .keep)] (none, [.v (.c (.ptr 0 0)), .v (.c (.ptr 1 0)), .v (.c (.d (.sc (.bool quoted5)))), .v (.c (.d (.sc (.bool masked6)))), .v (.c (.fn 50 [(0, 0), (3, 0), (1, 0)])), .v (.c (.it 4))], [.cells [.d (.sc (.string (S h0_0)))], .cells [.own h1_0_0 (enL enS h1_0_1) 2], .row h1_0_1.length (rz h1_0_0 1), .cells [.d (.sc (.int .i64 h3_0))], .siter (S s4) p4])) = (s42_12 quoted5 masked6 h0_0 h1_0_0 h1_0_1 h3_0 s4 p4).map (sm en42_12 e42) := by
  simp -implicitDefEqProofs only [s42_12, loopF_eq, c42_13_e, c42_14_r, (show opsOf c42_14 = _ :: _ from rfl), dec_eq, setA, setB, za, zb, zc, zd, ze, zf, zg, zh, zi, zj, zk, zl, zm, zn, zo, zp, reduceCtorEq, zE, ↓reduceIte]
  refine brB (fun yc1 => ?_) (fun yc1 => ?_)
  · have yd2 := of_decide_eq_true yc1
    simp -implicitDefEqProofs only [c42_15_e, (show c42_16 = Code.cond _ c42_17 c42_18 from rfl), c42_17_e, c42_19_e, c42_20_e, c42_21_r, (show opsOf c42_21 = _ :: _ from rfl), c42_22_e, c42_23_e, c42_24_r, (show opsOf c42_24 = _ :: _ from rfl), (show c42_25 = Code.cond _ c42_26 c42_27 from rfl), yd2, setA, setB, za, zb, zc, zd, ze, zf, zg, zh, zi, zj, zk, zl, zm, zn, zo, zp, reduceCtorEq, zE, ↓reduceIte]
    refine brB (fun yc3 => ?_) (fun yc3 => ?_)
    · simp -implicitDefEqProofs only [c42_26_r, (show opsOf c42_26 = _ :: _ from rfl), yd2, yc3, setA, setB, za, zb, zc, zd, ze, zf, zg, zh, zi, zj, zk, zl, zm, zn, zo, zp, reduceCtorEq, zE, ↓reduceIte]
      all_goals rfl
    · simp -implicitDefEqProofs only [c42_27_e, c42_28_r, (show opsOf c42_28 = _ :: _ from rfl), yd2, yc3, setA, setB, za, zb, zc, zd, ze, zf, zg, zh, zi, zj, zk, zl, zm, zn, zo, zp, reduceCtorEq, zE, ↓reduceIte]
      refine brB (fun yc4 => ?_) (fun yc4 => ?_)
      · simp -implicitDefEqProofs only [yd2, yc3, yc4, setA, setB, za, zb, zc, zd, ze, zf, zg, zh, zi, zj, zk, zl, zm, zn, zo, zp, reduceCtorEq, zE, ↓reduceIte]
        exact j42_29_t true false (p4 : Int) (uc s4 p4 : Int) ((uc s4 p4 : Int) == 92) h0_0 h1_0_0 h1_0_1 h3_0 s4 (p4 + uw s4 p4) _ (by rfl) (by rfl) (by rfl) (by rfl) (by rfl) (by rfl) (by rfl) (by rfl) (by rfl)
      · simp -implicitDefEqProofs only [yd2, yc3, yc4, setA, setB, za, zb, zc, zd, ze, zf, zg, zh, zi, zj, zk, zl, zm, zn, zo, zp, reduceCtorEq, zE, ↓reduceIte]
        exact j42_29_t false false (p4 : Int) (uc s4 p4 : Int) false h0_0 h1_0_0 h1_0_1 h3_0 s4 (p4 + uw s4 p4) _ (by rfl) (by rfl) (by rfl) (by rfl) (by rfl) (by rfl) (by rfl) (by rfl) (by rfl)
  · have yd2 := of_decide_eq_false yc1
    simp -implicitDefEqProofs only [c42_15_e, (show c42_16 = Code.cond _ c42_17 c42_18 from rfl), c42_18_e, K42_12, yd2, setA, setB, za, zb, zc, zd, ze, zf, zg, zh, zi, zj, zk, zl, zm, zn, zo, zp, reduceCtorEq, zE, ↓reduceIte]
    exact mi (j42_40_t h0_0 h1_0_0 h1_0_1 h3_0 _ _ (by rfl) (by rfl) (by rfl))
def l42_12 (quoted5 masked6 : Bool) (h0_0 : Bs) (h1_0_0 : Bool) (h1_0_1 : List Bs) (h3_0 : Int) (s4 : Bs) (p4 : Nat) : Option R42 := iter (fun x : (Bool × Bool × Bs × Bool × List Bs × Int × Bs × Nat) => s42_12 x.1 x.2.1 x.2.2.1 x.2.2.2.1 x.2.2.2.2.1 x.2.2.2.2.2.1 x.2.2.2.2.2.2.1 x.2.2.2.2.2.2.2) (quoted5, masked6, h0_0, h1_0_0, h1_0_1, h3_0, s4, p4)
theorem l42_12_t (quoted5 masked6 : Bool) (h0_0 : Bs) (h1_0_0 : Bool) (h1_0_1 : List Bs) (h3_0 : Int) (s4 : Bs) (p4 : Nat) : bodyD (E0 mm) [.tmp 2] 0 false (seqD (E0 mm) 42 0 (callW (E0 mm)) itW c42_40 (blockD 0 (itW (loopF (E0 mm) 42 0 (callW (E0 mm)) itW c42_13 [(1, .keep), (3, .keep), (5, .keep), (6, .keep), (7, .keep), (12, .keep)]) (none, [.v (.c (.ptr 0 0)), .v (.c (.ptr 1 0)), .v (.c (.d (.sc (.bool quoted5)))), .v (.c (.d (.sc (.bool masked6)))), .v (.c (.fn 50 [(0, 0), (3, 0), (1, 0)])), .v (.c (.it 4))], [.cells [.d (.sc (.string (S h0_0)))], .cells [.own h1_0_0 (enL enS h1_0_1) 2], .row h1_0_1.length (rz h1_0_0 1), .cells [.d (.sc (.int .i64 h3_0))], .siter (S s4) p4])))) = (l42_12 quoted5 masked6 h0_0 h1_0_0 h1_0_1 h3_0 s4 p4).map e42 :=
  it_sim (K := (K42_12 (mm := mm))) rfl (enc := en42_12) (fun x => s42_12_t x.1 x.2.1 x.2.2.1 x.2.2.2.1 x.2.2.2.2.1 x.2.2.2.2.2.1 x.2.2.2.2.2.2.1 x.2.2.2.2.2.2.2) (quoted5, masked6, h0_0, h1_0_0, h1_0_1, h3_0, s4, p4)
def m42 (s : Bs) : Option R42 :=
  l42_12 false false s true ([] : List Bs) (0 : Int) s 0
theorem f42_t (s : Bs) :
    callW (E0 mm) 42 [.c (.d (.sc (.string (S s))))] [] = (m42 s).map e42 := by
  rw [callW_run (body := c42_0) (res := [.tmp 2]) Tryd.func42 rfl rfl (by kernel_rfl)]
  simp -implicitDefEqProofs only [m42, slots1, c42_0_e, c42_1_r, (show opsOf c42_1 = _ :: _ from rfl), c42_2_e, c42_3_r, (show opsOf c42_3 = _ :: _ from rfl), zc41, ao22, c42_4_e, c42_5_r, (show opsOf c42_5 = _ :: _ from rfl), zc3, ao23, sz3, c42_6_e, c42_7_r, (show opsOf c42_7 = _ :: _ from rfl), c42_8_e, c42_9_e, c42_10_r, (show opsOf c42_10 = _ :: _ from rfl), sz9, ag9, Tryd.underlying9, c42_11_e, c42_12_l, setA, setB, za, zb, zc, zd, ze, zf, zg, zh, zi, zj, zk, zl, zm, zn, zo, zp, reduceCtorEq, zE, ↓reduceIte]
  exact l42_12_t false false s true ([] : List Bs) (0 : Int) s 0
noncomputable def c29_0 : Code := bodyOf Tryd.f29
def c29_1 := cA c29_0
def c29_2 := cB c29_0
def c29_3 := cA c29_2
def c29_4 := cB c29_2
def c29_5 := cA c29_4
def c29_6 := cA c29_5
def c29_7 := cB c29_5
def c29_8 := cA c29_7
def c29_9 := cA c29_8
def c29_10 := cA c29_9
def c29_11 := cB c29_9
def c29_12 := cA c29_11
def c29_13 := cA c29_12
def c29_14 := cB c29_12
def c29_15 := cB c29_11
def c29_16 := cA c29_15
def c29_17 := cA c29_16
def c29_18 := cA c29_17
def c29_19 := cB c29_17
def c29_20 := cB c29_15
def c29_21 := cB c29_4
def c29_22 := cA c29_21
def c29_23 := cB c29_21
theorem c29_0_e : c29_0 = .seq c29_1 c29_2 := rfl
theorem c29_1_r : RG (E0 mm) 29 c29_1 := rgN rfl
theorem c29_2_e : c29_2 = .seq c29_3 c29_4 := rfl
theorem c29_3_r : RG (E0 mm) 29 c29_3 := rgN rfl
theorem c29_4_e : c29_4 = .seq c29_5 c29_21 := rfl
theorem c29_5_e : c29_5 = .seq c29_6 c29_7 := rfl
theorem c29_6_r : RG (E0 mm) 29 c29_6 := rgN rfl
theorem c29_7_e : c29_7 = .block 0 c29_8 := rfl
theorem c29_8_l (m : Nat) (st : St) : den (E0 mm) 29 m (callW (E0 mm)) itW c29_8 none st = loopD itW (loopF (E0 mm) 29 m (callW (E0 mm)) itW c29_9 [(5, .own), (10, .keep), (11, .keep), (12, .keep)]) (canon m [(5, .own), (10, .keep), (11, .keep), (12, .keep)] st) := rfl
theorem c29_9_e : c29_9 = .seq c29_10 c29_11 := rfl
theorem c29_10_r : RG (E0 mm) 29 c29_10 := rgN rfl
theorem c29_11_e : c29_11 = .seq c29_12 c29_15 := rfl
theorem c29_13_e : c29_13 = .skip := rfl
theorem c29_14_e : c29_14 = .exit 0 := rfl
theorem c29_15_e : c29_15 = .seq c29_16 c29_20 := rfl
theorem c29_16_e : c29_16 = .block 1 c29_17 := rfl
theorem c29_17_e : c29_17 = .seq c29_18 c29_19 := rfl
theorem c29_18_r : RG (E0 mm) 29 c29_18 := rgN rfl
theorem c29_19_r : RG (E0 mm) 29 c29_19 := rgN rfl
theorem c29_20_r : RG (E0 mm) 29 c29_20 := rgN rfl
theorem c29_21_e : c29_21 = .seq c29_22 c29_23 := rfl
theorem c29_22_r : RG (E0 mm) 29 c29_22 := rgN rfl
theorem c29_23_e : c29_23 = .ret := rfl
abbrev R29 := (Bool × List Bs)
def e29 : R29 → AV × Heap := fun x => (.v (.c (.own x.1 (enL enS x.2) 0)), [.row x.2.length (rz x.1 1)])
def K29_8 : Option (Ex × St) → Option (AV × Heap) := fun r => bodyD (E0 mm) [.tmp 4] 0 false (seqD (E0 mm) 29 0 (callW (E0 mm)) itW c29_21 (blockD 0 (r)))
def en29_8 : (Bool × List Bs × Bool × List Bs × Int × Int) → X := fun x => (none, [.v (.c (.own x.1 (enL enS x.2.1) 0)), .v (.c (.own x.2.2.1 (enL enS x.2.2.2.1) 1)), .v (.c (.d (.sc (.int .i64 x.2.2.2.2.1)))), .v (.c (.d (.sc (.int .i64 x.2.2.2.2.2))))], [.row x.2.1.length (rz x.1 1), .row x.2.2.2.1.length (rz x.2.2.1 1)])
def j29_21 (out5_0 : Bool) (out5_1 : List Bs) : Option R29 :=
  some (out5_0, out5_1)
theorem j29_21_t (out5_0 : Bool) (out5_1 : List Bs) (g1 : Ob) (sl : Nat → AV) (zq5 : sl 5 = .v (.c (.own out5_0 (enL enS out5_1) 0))) :
    bodyD (E0 mm) [.tmp 4] 0 false (den (E0 mm) 29 0 (callW (E0 mm)) itW c29_21 none ⟨sl, [.row out5_1.length (rz out5_0 1), g1]⟩) = (j29_21 out5_0 out5_1).map e29 := by
  simp -implicitDefEqProofs only [j29_21, c29_21_e, c29_22_r, (show opsOf c29_22 = _ :: _ from rfl), c29_23_e, zq5, setA, setB, za, zb, zc, zd, ze, zf, zg, zh, zi, zj, zk, zl, zm, zn, zo, zp, reduceCtorEq, zE, ↓reduceIte]
  all_goals rfl
def s29_8 (out5_0 : Bool) (out5_1 : List Bs) (t10_0 : Bool) (t10_1 : List Bs) (t11 t12 : Int) : Option ((Bool × List Bs × Bool × List Bs × Int × Int) ⊕ R29) :=
  if (decide (t12 < t11)) = true then
    if 0 ≤ t12 ∧ t12 < (t10_1.length : Int) then
      (m42 (t10_1.getD t12.toNat default)).bind fun yr7 =>
        if yr7.2 = [] ∨ (out5_1.length + yr7.2.length) * 16 ≤ 140737488355328 then
          some (.inl ((out5_0 && yr7.2.isEmpty), (out5_1 ++ yr7.2), t10_0, t10_1, t11, (w64 (t12 + 1))))
        else none
    else none
  else
    (j29_21 out5_0 out5_1).map .inr
theorem s29_8_t (out5_0 : Bool) (out5_1 : List Bs) (t10_0 : Bool) (t10_1 : List Bs) (t11 t12 : Int) :
    stepE (K29_8 (mm := mm)) (loopF (E0 mm) 29 0 (callW (E0 mm)) itW c29_9 [(5, .own), (10, .keep), (11, .keep), (12, .keep)] (none, [.v (.c (.own out5_0 (enL enS out5_1) 0)), .v (.c (.own t10_0 (enL enS t10_1) 1)), .v (.c (.d (.sc (.int .i64 t11)))), .v (.c (.d (.sc (.int .i64 t12))))], [.row out5_1.length (rz out5_0 1), .row t10_1.length (rz t10_0 1)])) = (s29_8 out5_0 out5_1 t10_0 t10_1 t11 t12).map (sm en29_8 e29) := by
  simp -implicitDefEqProofs only [s29_8, loopF_eq, c29_9_e, c29_10_r, (show opsOf c29_10 = _ :: _ from rfl), c29_11_e, (show c29_12 = Code.cond _ c29_13 c29_14 from rfl), setA, setB, za, zb, zc, zd, ze, zf, zg, zh, zi, zj, zk, zl, zm, zn, zo, zp, reduceCtorEq, zE, ↓reduceIte]
  refine brB (fun yc3 => ?_) (fun yc3 => ?_)
  · simp -implicitDefEqProofs only [c29_13_e, c29_15_e, c29_16_e, c29_17_e, c29_18_r, (show opsOf c29_18 = _ :: _ from rfl), Tryd.underlying41, sz9, enS_a, yc3, setA, setB, za, zb, zc, zd, ze, zf, zg, zh, zi, zj, zk, zl, zm, zn, zo, zp, reduceCtorEq, zE, ↓reduceIte]
    refine brP (fun yc4 => ?_) (fun yc4 => ?_)
    · have yd5 : t12.toNat < t10_1.length := by omega
      simp -implicitDefEqProofs only [(enL_get enS t10_1 t12.toNat yd5), enS_e, sz9, ag9, c29_19_r, (show opsOf c29_19 = _ :: _ from rfl), ent42, prm42, f42_t, yc3, yc4, yd5, setA, setB, za, zb, zc, zd, ze, zf, zg, zh, zi, zj, zk, zl, zm, zn, zo, zp, reduceCtorEq, zE, ↓reduceIte]
      refine brM (fun yc6 => ?_) (fun yr7 yc6 => ?_)
      · rw [yc6]; rfl
      · simp -implicitDefEqProofs only [e42, Tryd.underlying41, hd27, ap41, yc3, yc4, yd5, yc6, setA, setB, za, zb, zc, zd, ze, zf, zg, zh, zi, zj, zk, zl, zm, zn, zo, zp, reduceCtorEq, zE, ↓reduceIte]
        refine brP (fun yc8 => ?_) (fun yc8 => ?_)
        · simp -implicitDefEqProofs only [c29_20_r, (show opsOf c29_20 = _ :: _ from rfl), yc3, yc4, yd5, yc6, yc8, setA, setB, za, zb, zc, zd, ze, zf, zg, zh, zi, zj, zk, zl, zm, zn, zo, zp, reduceCtorEq, zE, ↓reduceIte]
          all_goals rfl
        · rw [if_neg yc8]; rfl
    · rw [if_neg yc4]; rfl
  · simp -implicitDefEqProofs only [c29_14_e, K29_8, yc3, setA, setB, za, zb, zc, zd, ze, zf, zg, zh, zi, zj, zk, zl, zm, zn, zo, zp, reduceCtorEq, zE, ↓reduceIte]
    exact mi (j29_21_t out5_0 out5_1 _ _ (by rfl))
def l29_8 (out5_0 : Bool) (out5_1 : List Bs) (t10_0 : Bool) (t10_1 : List Bs) (t11 t12 : Int) : Option R29 := iter (fun x : (Bool × List Bs × Bool × List Bs × Int × Int) => s29_8 x.1 x.2.1 x.2.2.1 x.2.2.2.1 x.2.2.2.2.1 x.2.2.2.2.2) (out5_0, out5_1, t10_0, t10_1, t11, t12)
theorem l29_8_t (out5_0 : Bool) (out5_1 : List Bs) (t10_0 : Bool) (t10_1 : List Bs) (t11 t12 : Int) : bodyD (E0 mm) [.tmp 4] 0 false (seqD (E0 mm) 29 0 (callW (E0 mm)) itW c29_21 (blockD 0 (itW (loopF (E0 mm) 29 0 (callW (E0 mm)) itW c29_9 [(5, .own), (10, .keep), (11, .keep), (12, .keep)]) (none, [.v (.c (.own out5_0 (enL enS out5_1) 0)), .v (.c (.own t10_0 (enL enS t10_1) 1)), .v (.c (.d (.sc (.int .i64 t11)))), .v (.c (.d (.sc (.int .i64 t12))))], [.row out5_1.length (rz out5_0 1), .row t10_1.length (rz t10_0 1)])))) = (l29_8 out5_0 out5_1 t10_0 t10_1 t11 t12).map e29 :=
  it_sim (K := (K29_8 (mm := mm))) rfl (enc := en29_8) (fun x => s29_8_t x.1 x.2.1 x.2.2.1 x.2.2.2.1 x.2.2.2.2.1 x.2.2.2.2.2) (out5_0, out5_1, t10_0, t10_1, t11, t12)
def m29 (l_0 : Bool) (l_1 : List (Bs × Bs)) (name : Bs) : Option R29 :=
  (m15 l_0 l_1 name).bind fun yr2 =>
    l29_8 true ([] : List Bs) yr2.1 yr2.2 (yr2.2.length : Int) (0 : Int)
theorem f29_t (l_0 : Bool) (l_1 : List (Bs × Bs)) (name : Bs) :
    callW (E0 mm) 29 [.c (.d (.lst l_0 (enL enSS l_1))), .c (.d (.sc (.string (S name))))] [] = (m29 l_0 l_1 name).map e29 := by
  rw [callW_run (body := c29_0) (res := [.tmp 4]) Tryd.func29 rfl rfl (by kernel_rfl)]
  simp -implicitDefEqProofs only [m29, slots2, c29_0_e, c29_1_r, (show opsOf c29_1 = _ :: _ from rfl), c29_2_e, c29_3_r, (show opsOf c29_3 = _ :: _ from rfl), c29_4_e, c29_5_e, c29_6_r, (show opsOf c29_6 = _ :: _ from rfl), ent15, prm15, f15_t, setA, setB, za, zb, zc, zd, ze, zf, zg, zh, zi, zj, zk, zl, zm, zn, zo, zp, reduceCtorEq, zE, ↓reduceIte]
  refine brM (fun yc1 => ?_) (fun yr2 yc1 => ?_)
  · rw [yc1]; rfl
  · simp -implicitDefEqProofs only [e15, Tryd.underlying41, c29_7_e, c29_8_l, yc1, setA, setB, za, zb, zc, zd, ze, zf, zg, zh, zi, zj, zk, zl, zm, zn, zo, zp, reduceCtorEq, zE, ↓reduceIte]
    exact l29_8_t true ([] : List Bs) yr2.1 yr2.2 (yr2.2.length : Int) (0 : Int)
noncomputable def c52_0 : Code := bodyOf Tryd.f52
def c52_1 := cA c52_0
def c52_2 := cB c52_0
def c52_3 := cA c52_2
def c52_4 := cA c52_3
def c52_5 := cB c52_3
def c52_6 := cA c52_5
def c52_7 := cB c52_5
def c52_8 := cA c52_7
def c52_9 := cA c52_8
def c52_10 := cB c52_8
def c52_11 := cB c52_7
def c52_12 := cB c52_2
def c52_13 := cA c52_12
def c52_14 := cB c52_12
theorem c52_0_e : c52_0 = .seq c52_1 c52_2 := rfl
theorem c52_1_r : RG (E0 mm) 52 c52_1 := rgN rfl
theorem c52_2_e : c52_2 = .seq c52_3 c52_12 := rfl
theorem c52_3_e : c52_3 = .seq c52_4 c52_5 := rfl
theorem c52_4_r : RG (E0 mm) 52 c52_4 := rgN rfl
theorem c52_5_e : c52_5 = .seq c52_6 c52_7 := rfl
theorem c52_6_r : RG (E0 mm) 52 c52_6 := rgN rfl
theorem c52_8_e : c52_8 = .seq c52_9 c52_10 := rfl
theorem c52_9_r : RG (E0 mm) 52 c52_9 := rgD (by kernel_rfl)
theorem c52_10_e : c52_10 = .ret := rfl
theorem c52_11_e : c52_11 = .skip := rfl
theorem c52_12_e : c52_12 = .seq c52_13 c52_14 := rfl
theorem c52_13_r : RG (E0 mm) 52 c52_13 := rgN rfl
theorem c52_14_e : c52_14 = .ret := rfl
abbrev R52 := (Bs × Bs × Bool)
def e52 : R52 → AV × Heap := fun x => (.tup [.c (.d (.sc (.string (S x.1)))), .c (.d (.sc (.string (S x.2.1)))), .c (.d (.sc (.bool x.2.2)))], [])
def m52 (s sep : Bs) : Option R52 :=
  (mIx s sep).bind fun yr2 =>
    if (decide (0 ≤ yr2)) = true then
      (bnd yr2 s.length).bind fun yk5 =>
        (bnd (w64 (yr2 + (sep.length : Int))) s.length).bind fun yk7 =>
          some ((s.take yk5), (s.drop yk7), true)
    else
      some (s, ([] : Bs), false)
theorem f52_t (s sep : Bs) :
    callW (E0 mm) 52 [.c (.d (.sc (.string (S s)))), .c (.d (.sc (.string (S sep))))] [] = (m52 s sep).map e52 := by
  rw [callW_run (body := c52_0) (res := [.tmp 4, .tmp 5, .tmp 6]) Tryd.func52 rfl rfl (by kernel_rfl)]
  simp -implicitDefEqProofs only [m52, slots2, c52_0_e, c52_1_r, (show opsOf c52_1 = _ :: _ from rfl), c52_2_e, c52_3_e, c52_4_r, (show opsOf c52_4 = _ :: _ from rfl), ent47, prm47, pIndex_t, setA, setB, za, zb, zc, zd, ze, zf, zg, zh, zi, zj, zk, zl, zm, zn, zo, zp, reduceCtorEq, zE, ↓reduceIte]
  refine brM (fun yc1 => ?_) (fun yr2 yc1 => ?_)
  · rw [yc1]; rfl
  · simp -implicitDefEqProofs only [pIndex_t, c52_5_e, c52_6_r, (show opsOf c52_6 = _ :: _ from rfl), (show c52_7 = Code.cond _ c52_8 c52_11 from rfl), yc1, setA, setB, za, zb, zc, zd, ze, zf, zg, zh, zi, zj, zk, zl, zm, zn, zo, zp, reduceCtorEq, zE, ↓reduceIte]
    refine brB (fun yc3 => ?_) (fun yc3 => ?_)
    · simp -implicitDefEqProofs only [c52_8_e, c52_9_r, (show opsOf c52_9 = _ :: _ from rfl), Tryd.underlying9, yc1, yc3, setA, setB, za, zb, zc, zd, ze, zf, zg, zh, zi, zj, zk, zl, zm, zn, zo, zp, reduceCtorEq, zE, ↓reduceIte]
      refine brM (fun yc4 => ?_) (fun yk5 yc4 => ?_)
      · rw [yc4]; rfl
      · simp -implicitDefEqProofs only [Tryd.underlying9, yc1, yc3, yc4, setA, setB, za, zb, zc, zd, ze, zf, zg, zh, zi, zj, zk, zl, zm, zn, zo, zp, reduceCtorEq, zE, ↓reduceIte]
        refine brM (fun yc6 => ?_) (fun yk7 yc6 => ?_)
        · rw [yc6]; rfl
        · simp -implicitDefEqProofs only [c52_10_e, yc1, yc3, yc4, yc6, setA, setB, za, zb, zc, zd, ze, zf, zg, zh, zi, zj, zk, zl, zm, zn, zo, zp, reduceCtorEq, zE, ↓reduceIte]
          all_goals rfl
    · simp -implicitDefEqProofs only [c52_11_e, c52_12_e, c52_13_r, (show opsOf c52_13 = _ :: _ from rfl), c52_14_e, yc1, yc3, setA, setB, za, zb, zc, zd, ze, zf, zg, zh, zi, zj, zk, zl, zm, zn, zo, zp, reduceCtorEq, zE, ↓reduceIte]
      all_goals rfl
noncomputable def c43_0 : Code := bodyOf Tryd.f43
def c43_1 := cA c43_0
def c43_2 := cB c43_0
def c43_3 := cA c43_2
def c43_4 := cB c43_2
theorem c43_0_e : c43_0 = .seq c43_1 c43_2 := rfl
theorem c43_1_r : RG (E0 mm) 43 c43_1 := rgN rfl
theorem c43_2_e : c43_2 = .seq c43_3 c43_4 := rfl
theorem c43_3_r : RG (E0 mm) 43 c43_3 := rgN rfl
theorem c43_4_e : c43_4 = .ret := rfl
abbrev R43 := (Bs × Bs × Bool)
def e43 : R43 → AV × Heap := fun x => (.tup [.c (.d (.sc (.string (S x.1)))), .c (.d (.sc (.string (S x.2.1)))), .c (.d (.sc (.bool x.2.2)))], [])
def m43 (s sep : Bs) : Option R43 :=
  (m52 s sep).bind fun yr2 =>
    some (yr2.1, yr2.2.1, yr2.2.2)
theorem f43_t (s sep : Bs) :
    callW (E0 mm) 43 [.c (.d (.sc (.string (S s)))), .c (.d (.sc (.string (S sep))))] [] = (m43 s sep).map e43 := by
  rw [callW_run (body := c43_0) (res := [.tmp 4, .tmp 5, .tmp 6]) Tryd.func43 rfl rfl (by kernel_rfl)]
  simp -implicitDefEqProofs only [m43, slots2, c43_0_e, c43_1_r, (show opsOf c43_1 = _ :: _ from rfl), c43_2_e, c43_3_r, (show opsOf c43_3 = _ :: _ from rfl), ent52, prm52, f52_t, setA, setB, za, zb, zc, zd, ze, zf, zg, zh, zi, zj, zk, zl, zm, zn, zo, zp, reduceCtorEq, zE, ↓reduceIte]
  refine brM (fun yc1 => ?_) (fun yr2 yc1 => ?_)
  · rw [yc1]; rfl
  · simp -implicitDefEqProofs only [e52, c43_4_e, yc1, setA, setB, za, zb, zc, zd, ze, zf, zg, zh, zi, zj, zk, zl, zm, zn, zo, zp, reduceCtorEq, zE, ↓reduceIte]
    all_goals rfl
noncomputable def c57_0 : Code := bodyOf Tryd.f57
def c57_1 := cA c57_0
def c57_2 := cB c57_0
def c57_3 := cA c57_2
def c57_4 := cB c57_2
theorem c57_0_e : c57_0 = .seq c57_1 c57_2 := rfl
theorem c57_1_r : RG (E0 mm) 57 c57_1 := rgN rfl
theorem c57_2_e : c57_2 = .seq c57_3 c57_4 := rfl
theorem c57_3_r : RG (E0 mm) 57 c57_3 := rgN rfl
theorem c57_4_e : c57_4 = .ret := rfl
abbrev R57 := (Int)
def e57 : R57 → AV × Heap := fun x => (.v (.c (.d (.sc (.int .i64 x)))), [])
def m57 (s : Bs) (c : UInt8) : Option R57 :=
  some (Lib.indexByte s c)
theorem f57_t (s : Bs) (c : UInt8) :
    callW (E0 mm) 57 [.c (.d (.sc (.string (S s)))), .c (.d (.sc (.int .u8 ((c).toNat : Int))))] [] = (m57 s c).map e57 := by
  rw [callW_run (body := c57_0) (res := [.tmp 4]) Tryd.func57 rfl rfl (by kernel_rfl)]
  simp -implicitDefEqProofs only [m57, slots2, c57_0_e, c57_1_r, (show opsOf c57_1 = _ :: _ from rfl), c57_2_e, c57_3_r, (show opsOf c57_3 = _ :: _ from rfl), entf64, exf64, ext64_t, c57_4_e, setA, setB, za, zb, zc, zd, ze, zf, zg, zh, zi, zj, zk, zl, zm, zn, zo, zp, reduceCtorEq, zE, ↓reduceIte]
  all_goals rfl
noncomputable def c55_0 : Code := bodyOf Tryd.f55
def c55_1 := cA c55_0
def c55_2 := cB c55_0
def c55_3 := cA c55_2
def c55_4 := cB c55_2
theorem c55_0_e : c55_0 = .seq c55_1 c55_2 := rfl
theorem c55_1_r : RG (E0 mm) 55 c55_1 := rgN rfl
theorem c55_2_e : c55_2 = .seq c55_3 c55_4 := rfl
theorem c55_3_r : RG (E0 mm) 55 c55_3 := rgN rfl
theorem c55_4_e : c55_4 = .ret := rfl
abbrev R55 := (Int)
def e55 : R55 → AV × Heap := fun x => (.v (.c (.d (.sc (.int .i64 x)))), [])
def m55 (s : Bs) (c : UInt8) : Option R55 :=
  (m57 s c).bind fun yr2 =>
    some yr2
theorem f55_t (s : Bs) (c : UInt8) :
    callW (E0 mm) 55 [.c (.d (.sc (.string (S s)))), .c (.d (.sc (.int .u8 ((c).toNat : Int))))] [] = (m55 s c).map e55 := by
  rw [callW_run (body := c55_0) (res := [.tmp 4]) Tryd.func55 rfl rfl (by kernel_rfl)]
  simp -implicitDefEqProofs only [m55, slots2, c55_0_e, c55_1_r, (show opsOf c55_1 = _ :: _ from rfl), c55_2_e, c55_3_r, (show opsOf c55_3 = _ :: _ from rfl), ent57, prm57, f57_t, setA, setB, za, zb, zc, zd, ze, zf, zg, zh, zi, zj, zk, zl, zm, zn, zo, zp, reduceCtorEq, zE, ↓reduceIte]
  refine brM (fun yc1 => ?_) (fun yr2 yc1 => ?_)
  · rw [yc1]; rfl
  · simp -implicitDefEqProofs only [e57, c55_4_e, yc1, setA, setB, za, zb, zc, zd, ze, zf, zg, zh, zi, zj, zk, zl, zm, zn, zo, zp, reduceCtorEq, zE, ↓reduceIte]
    all_goals rfl
noncomputable def c54_0 : Code := bodyOf Tryd.f54
def c54_1 := cA c54_0
def c54_2 := cB c54_0
def c54_3 := cA c54_2
def c54_4 := cB c54_2
def c54_5 := cA c54_4
def c54_6 := cB c54_4
theorem c54_0_e : c54_0 = .seq c54_1 c54_2 := rfl
theorem c54_1_r : RG (E0 mm) 54 c54_1 := rgN rfl
theorem c54_2_e : c54_2 = .seq c54_3 c54_4 := rfl
theorem c54_3_r : RG (E0 mm) 54 c54_3 := rgN rfl
theorem c54_4_e : c54_4 = .seq c54_5 c54_6 := rfl
theorem c54_5_r : RG (E0 mm) 54 c54_5 := rgN rfl
theorem c54_6_e : c54_6 = .ret := rfl
abbrev R54 := (Bool)
def e54 : R54 → AV × Heap := fun x => (.v (.c (.d (.sc (.bool x)))), [])
def m54 (c : UInt8) : Option R54 :=
  if (decide ((97 : UInt8) ≤ (c ||| (32 : UInt8)))) = true then
    if (decide ((c ||| (32 : UInt8)) ≤ (122 : UInt8))) = true then
      some true
    else
      if (decide ((48 : UInt8) ≤ c)) = true then
        if (decide (c ≤ (57 : UInt8))) = true then
          some true
        else
          (m55 ([33, 35, 36, 37, 38, 39, 42, 43, 45, 46, 94, 95, 96, 124, 126] : Bs) c).bind fun yr6 =>
            some (decide (0 ≤ yr6))
      else
        (m55 ([33, 35, 36, 37, 38, 39, 42, 43, 45, 46, 94, 95, 96, 124, 126] : Bs) c).bind fun yr8 =>
          some (decide (0 ≤ yr8))
  else
    if (decide ((48 : UInt8) ≤ c)) = true then
      if (decide (c ≤ (57 : UInt8))) = true then
        some true
      else
        (m55 ([33, 35, 36, 37, 38, 39, 42, 43, 45, 46, 94, 95, 96, 124, 126] : Bs) c).bind fun yr12 =>
          some (decide (0 ≤ yr12))
    else
      (m55 ([33, 35, 36, 37, 38, 39, 42, 43, 45, 46, 94, 95, 96, 124, 126] : Bs) c).bind fun yr14 =>
        some (decide (0 ≤ yr14))
theorem f54_t (c : UInt8) :
    callW (E0 mm) 54 [.c (.d (.sc (.int .u8 ((c).toNat : Int))))] [] = (m54 c).map e54 := by
  rw [callW_run (body := c54_0) (res := [.tmp 2]) Tryd.func54 rfl rfl (by kernel_rfl)]
  simp -implicitDefEqProofs only [m54, slots1, c54_0_e, c54_1_r, (show opsOf c54_1 = _ :: _ from rfl), c54_2_e, c54_3_r, (show opsOf c54_3 = _ :: _ from rfl), c54_4_e, c54_5_r, (show opsOf c54_5 = _ :: _ from rfl), setA, setB, za, zb, zc, zd, ze, zf, zg, zh, zi, zj, zk, zl, zm, zn, zo, zp, reduceCtorEq, zE, ↓reduceIte]
  refine brB (fun yc1 => ?_) (fun yc1 => ?_)
  · simp -implicitDefEqProofs only [yc1, setA, setB, za, zb, zc, zd, ze, zf, zg, zh, zi, zj, zk, zl, zm, zn, zo, zp, reduceCtorEq, zE, ↓reduceIte]
    refine brB (fun yc2 => ?_) (fun yc2 => ?_)
    · simp -implicitDefEqProofs only [c54_6_e, yc1, yc2, setA, setB, za, zb, zc, zd, ze, zf, zg, zh, zi, zj, zk, zl, zm, zn, zo, zp, reduceCtorEq, zE, ↓reduceIte]
      all_goals rfl
    · simp -implicitDefEqProofs only [yc1, yc2, setA, setB, za, zb, zc, zd, ze, zf, zg, zh, zi, zj, zk, zl, zm, zn, zo, zp, reduceCtorEq, zE, ↓reduceIte]
      refine brB (fun yc3 => ?_) (fun yc3 => ?_)
      · simp -implicitDefEqProofs only [yc1, yc2, yc3, setA, setB, za, zb, zc, zd, ze, zf, zg, zh, zi, zj, zk, zl, zm, zn, zo, zp, reduceCtorEq, zE, ↓reduceIte]
        refine brB (fun yc4 => ?_) (fun yc4 => ?_)
        · simp -implicitDefEqProofs only [c54_6_e, yc1, yc2, yc3, yc4, setA, setB, za, zb, zc, zd, ze, zf, zg, zh, zi, zj, zk, zl, zm, zn, zo, zp, reduceCtorEq, zE, ↓reduceIte]
          all_goals rfl
        · simp -implicitDefEqProofs only [ent55, prm55, (show callW (E0 mm) 55 [.c (.d (.sc (.string (S ([33, 35, 36, 37, 38, 39, 42, 43, 45, 46, 94, 95, 96, 124, 126] : Bs))))), .c (.d (.sc (.int .u8 ((c).toNat : Int))))] [] = _ from f55_t ([33, 35, 36, 37, 38, 39, 42, 43, 45, 46, 94, 95, 96, 124, 126] : Bs) c), yc1, yc2, yc3, yc4, setA, setB, za, zb, zc, zd, ze, zf, zg, zh, zi, zj, zk, zl, zm, zn, zo, zp, reduceCtorEq, zE, ↓reduceIte]
          refine brM (fun yc5 => ?_) (fun yr6 yc5 => ?_)
          · rw [yc5]; rfl
          · simp -implicitDefEqProofs only [e55, c54_6_e, yc1, yc2, yc3, yc4, yc5, setA, setB, za, zb, zc, zd, ze, zf, zg, zh, zi, zj, zk, zl, zm, zn, zo, zp, reduceCtorEq, zE, ↓reduceIte]
            all_goals rfl
      · simp -implicitDefEqProofs only [ent55, prm55, (show callW (E0 mm) 55 [.c (.d (.sc (.string (S ([33, 35, 36, 37, 38, 39, 42, 43, 45, 46, 94, 95, 96, 124, 126] : Bs))))), .c (.d (.sc (.int .u8 ((c).toNat : Int))))] [] = _ from f55_t ([33, 35, 36, 37, 38, 39, 42, 43, 45, 46, 94, 95, 96, 124, 126] : Bs) c), yc1, yc2, yc3, setA, setB, za, zb, zc, zd, ze, zf, zg, zh, zi, zj, zk, zl, zm, zn, zo, zp, reduceCtorEq, zE, ↓reduceIte]
        refine brM (fun yc7 => ?_) (fun yr8 yc7 => ?_)
        · rw [yc7]; rfl
        · simp -implicitDefEqProofs only [e55, c54_6_e, yc1, yc2, yc3, yc7, setA, setB, za, zb, zc, zd, ze, zf, zg, zh, zi, zj, zk, zl, zm, zn, zo, zp, reduceCtorEq, zE, ↓reduceIte]
          all_goals rfl
  · simp -implicitDefEqProofs only [yc1, setA, setB, za, zb, zc, zd, ze, zf, zg, zh, zi, zj, zk, zl, zm, zn, zo, zp, reduceCtorEq, zE, ↓reduceIte]
    refine brB (fun yc9 => ?_) (fun yc9 => ?_)
    · simp -implicitDefEqProofs only [yc1, yc9, setA, setB, za, zb, zc, zd, ze, zf, zg, zh, zi, zj, zk, zl, zm, zn, zo, zp, reduceCtorEq, zE, ↓reduceIte]
      refine brB (fun yc10 => ?_) (fun yc10 => ?_)
      · simp -implicitDefEqProofs only [c54_6_e, yc1, yc9, yc10, setA, setB, za, zb, zc, zd, ze, zf, zg, zh, zi, zj, zk, zl, zm, zn, zo, zp, reduceCtorEq, zE, ↓reduceIte]
        all_goals rfl
      · simp -implicitDefEqProofs only [ent55, prm55, (show callW (E0 mm) 55 [.c (.d (.sc (.string (S ([33, 35, 36, 37, 38, 39, 42, 43, 45, 46, 94, 95, 96, 124, 126] : Bs))))), .c (.d (.sc (.int .u8 ((c).toNat : Int))))] [] = _ from f55_t ([33, 35, 36, 37, 38, 39, 42, 43, 45, 46, 94, 95, 96, 124, 126] : Bs) c), yc1, yc9, yc10, setA, setB, za, zb, zc, zd, ze, zf, zg, zh, zi, zj, zk, zl, zm, zn, zo, zp, reduceCtorEq, zE, ↓reduceIte]
        refine brM (fun yc11 => ?_) (fun yr12 yc11 => ?_)
        · rw [yc11]; rfl
        · simp -implicitDefEqProofs only [e55, c54_6_e, yc1, yc9, yc10, yc11, setA, setB, za, zb, zc, zd, ze, zf, zg, zh, zi, zj, zk, zl, zm, zn, zo, zp, reduceCtorEq, zE, ↓reduceIte]
          all_goals rfl
    · simp -implicitDefEqProofs only [ent55, prm55, (show callW (E0 mm) 55 [.c (.d (.sc (.string (S ([33, 35, 36, 37, 38, 39, 42, 43, 45, 46, 94, 95, 96, 124, 126] : Bs))))), .c (.d (.sc (.int .u8 ((c).toNat : Int))))] [] = _ from f55_t ([33, 35, 36, 37, 38, 39, 42, 43, 45, 46, 94, 95, 96, 124, 126] : Bs) c), yc1, yc9, setA, setB, za, zb, zc, zd, ze, zf, zg, zh, zi, zj, zk, zl, zm, zn, zo, zp, reduceCtorEq, zE, ↓reduceIte]
      refine brM (fun yc13 => ?_) (fun yr14 yc13 => ?_)
      · rw [yc13]; rfl
      · simp -implicitDefEqProofs only [e55, c54_6_e, yc1, yc9, yc13, setA, setB, za, zb, zc, zd, ze, zf, zg, zh, zi, zj, zk, zl, zm, zn, zo, zp, reduceCtorEq, zE, ↓reduceIte]
        all_goals rfl
noncomputable def c63_0 : Code := bodyOf Tryd.f63
def c63_1 := cA c63_0
def c63_2 := cB c63_0
def c63_3 := cA c63_2
def c63_4 := cB c63_2
theorem c63_0_e : c63_0 = .seq c63_1 c63_2 := rfl
theorem c63_1_r : RG (E0 mm) 63 c63_1 := rgN rfl
theorem c63_2_e : c63_2 = .seq c63_3 c63_4 := rfl
theorem c63_3_r : RG (E0 mm) 63 c63_3 := rgN rfl
theorem c63_4_e : c63_4 = .ret := rfl
abbrev R63 := (Bool)
def e63 : R63 → AV × Heap := fun x => (.v (.c (.d (.sc (.bool x)))), [.cells [.d (.sc (.func (.func 54) #[] #[]))]])
def m63 (c : UInt8) : Option R63 :=
  (m54 c).bind fun yr2 =>
    some (!yr2)
theorem f63_t (c : UInt8) :
    callW (E0 mm) 63 [.c (.d (.sc (.int .u8 ((c).toNat : Int)))), .c (.ptr 0 0)] [.cells [.d (.sc (.func (.func 54) #[] #[]))]] = (m63 c).map e63 := by
  rw [callW_run (body := c63_0) (res := [.tmp 3]) Tryd.func63 rfl rfl (by kernel_rfl)]
  simp -implicitDefEqProofs only [m63, slots2, c63_0_e, c63_1_r, (show opsOf c63_1 = _ :: _ from rfl), c63_2_e, c63_3_r, (show opsOf c63_3 = _ :: _ from rfl), sz95, ag95, ent54, prm54, f54_t, setA, setB, za, zb, zc, zd, ze, zf, zg, zh, zi, zj, zk, zl, zm, zn, zo, zp, reduceCtorEq, zE, ↓reduceIte]
  refine brM (fun yc1 => ?_) (fun yr2 yc1 => ?_)
  · rw [yc1]; rfl
  · simp -implicitDefEqProofs only [e54, c63_4_e, yc1, setA, setB, za, zb, zc, zd, ze, zf, zg, zh, zi, zj, zk, zl, zm, zn, zo, zp, reduceCtorEq, zE, ↓reduceIte]
    all_goals rfl
noncomputable def c73_0 : Code := bodyOf Tryd.f73
def c73_1 := cA c73_0
def c73_2 := cB c73_0
def c73_3 := cA c73_2
def c73_4 := cA c73_3
def c73_5 := cB c73_3
def c73_6 := cA c73_5
def c73_7 := cA c73_6
def c73_8 := cA c73_7
def c73_9 := cB c73_7
def c73_10 := cA c73_9
def c73_11 := cA c73_10
def c73_12 := cB c73_10
def c73_13 := cB c73_9
def c73_14 := cA c73_13
def c73_15 := cA c73_14
def c73_16 := cA c73_15
def c73_17 := cB c73_15
def c73_18 := cA c73_17
def c73_19 := cB c73_17
def c73_20 := cA c73_19
def c73_21 := cA c73_20
def c73_22 := cB c73_20
def c73_23 := cB c73_19
def c73_24 := cB c73_13
def c73_25 := cB c73_2
def c73_26 := cA c73_25
def c73_27 := cB c73_25
theorem c73_0_e : c73_0 = .seq c73_1 c73_2 := rfl
theorem c73_1_r : RG (E0 mm) 73 c73_1 := rgN rfl
theorem c73_2_e : c73_2 = .seq c73_3 c73_25 := rfl
theorem c73_3_e : c73_3 = .seq c73_4 c73_5 := rfl
theorem c73_4_r : RG (E0 mm) 73 c73_4 := rgN rfl
theorem c73_5_e : c73_5 = .block 0 c73_6 := rfl
theorem c73_6_l (m : Nat) (st : St) : den (E0 mm) 73 m (callW (E0 mm)) itW c73_6 none st = loopD itW (loopF (E0 mm) 73 m (callW (E0 mm)) itW c73_7 [(0, .keep), (1, .keep), (7, .keep), (8, .keep)]) (canon m [(0, .keep), (1, .keep), (7, .keep), (8, .keep)] st) := rfl
theorem c73_7_e : c73_7 = .seq c73_8 c73_9 := rfl
theorem c73_8_r : RG (E0 mm) 73 c73_8 := rgN rfl
theorem c73_9_e : c73_9 = .seq c73_10 c73_13 := rfl
theorem c73_11_e : c73_11 = .skip := rfl
theorem c73_12_e : c73_12 = .exit 0 := rfl
theorem c73_13_e : c73_13 = .seq c73_14 c73_24 := rfl
theorem c73_14_e : c73_14 = .block 1 c73_15 := rfl
theorem c73_15_e : c73_15 = .seq c73_16 c73_17 := rfl
theorem c73_16_r : RG (E0 mm) 73 c73_16 := rgN rfl
theorem c73_17_e : c73_17 = .seq c73_18 c73_19 := rfl
theorem c73_18_r : RG (E0 mm) 73 c73_18 := rgN rfl
theorem c73_20_e : c73_20 = .seq c73_21 c73_22 := rfl
theorem c73_21_r : RG (E0 mm) 73 c73_21 := rgN rfl
theorem c73_22_e : c73_22 = .ret := rfl
theorem c73_23_e : c73_23 = .skip := rfl
theorem c73_24_r : RG (E0 mm) 73 c73_24 := rgN rfl
theorem c73_25_e : c73_25 = .seq c73_26 c73_27 := rfl
theorem c73_26_r : RG (E0 mm) 73 c73_26 := rgN rfl
theorem c73_27_e : c73_27 = .ret := rfl
abbrev R73 := (Int)
def e73 : R73 → AV × Heap := fun x => (.v (.c (.d (.sc (.int .i64 x)))), [.cells [.d (.sc (.func (.func 54) #[] #[]))]])
def K73_6 : Option (Ex × St) → Option (AV × Heap) := fun r => bodyD (E0 mm) [.tmp 4] 1 false (seqD (E0 mm) 73 1 (callW (E0 mm)) itW c73_25 (blockD 0 (r)))
def en73_6 : (Bool × List UInt8 × Int × Int) → X := fun x => (none, [.v (.c (.d (.lst x.1 (enL enB x.2.1)))), .v (.c (.fn 63 [(0, 0)])), .v (.c (.d (.sc (.int .i64 x.2.2.1)))), .v (.c (.d (.sc (.int .i64 x.2.2.2))))], [.cells [.d (.sc (.func (.func 54) #[] #[]))]])
def j73_25  : Option R73 :=
  some (-1 : Int)
theorem j73_25_t   (sl : Nat → AV)  :
    bodyD (E0 mm) [.tmp 4] 1 false (den (E0 mm) 73 1 (callW (E0 mm)) itW c73_25 none ⟨sl, [.cells [.d (.sc (.func (.func 54) #[] #[]))]]⟩) = (j73_25).map e73 := by
  simp -implicitDefEqProofs only [j73_25, c73_25_e, c73_26_r, (show opsOf c73_26 = _ :: _ from rfl), c73_27_e, setA, setB, za, zb, zc, zd, ze, zf, zg, zh, zi, zj, zk, zl, zm, zn, zo, zp, reduceCtorEq, zE, ↓reduceIte]
  all_goals rfl
def s73_6 (s0_0 : Bool) (s0_1 : List UInt8) (t7 t8 : Int) : Option ((Bool × List UInt8 × Int × Int) ⊕ R73) :=
  if (decide (t8 < t7)) = true then
    if 0 ≤ t8 ∧ t8 < (s0_1.length : Int) then
      (m63 (s0_1.getD t8.toNat default)).bind fun yr5 =>
        if yr5 = true then
          some (.inr t8)
        else
          some (.inl (s0_0, s0_1, t7, (w64 (t8 + 1))))
    else none
  else
    (j73_25).map .inr
theorem s73_6_t (s0_0 : Bool) (s0_1 : List UInt8) (t7 t8 : Int) :
    stepE (K73_6 (mm := mm)) (loopF (E0 mm) 73 1 (callW (E0 mm)) itW c73_7 [(0, .keep), (1, .keep), (7, .keep), (8, .keep)] (none, [.v (.c (.d (.lst s0_0 (enL enB s0_1)))), .v (.c (.fn 63 [(0, 0)])), .v (.c (.d (.sc (.int .i64 t7)))), .v (.c (.d (.sc (.int .i64 t8))))], [.cells [.d (.sc (.func (.func 54) #[] #[]))]])) = (s73_6 s0_0 s0_1 t7 t8).map (sm en73_6 e73) := by
  simp -implicitDefEqProofs only [s73_6, loopF_eq, c73_7_e, c73_8_r, (show opsOf c73_8 = _ :: _ from rfl), c73_9_e, (show c73_10 = Code.cond _ c73_11 c73_12 from rfl), setA, setB, za, zb, zc, zd, ze, zf, zg, zh, zi, zj, zk, zl, zm, zn, zo, zp, reduceCtorEq, zE, ↓reduceIte]
  refine brB (fun yc1 => ?_) (fun yc1 => ?_)
  · simp -implicitDefEqProofs only [c73_11_e, c73_13_e, c73_14_e, c73_15_e, c73_16_r, (show opsOf c73_16 = _ :: _ from rfl), c73_17_e, c73_18_r, (show opsOf c73_18 = _ :: _ from rfl), Tryd.underlying33, sz5, enB_a, yc1, setA, setB, za, zb, zc, zd, ze, zf, zg, zh, zi, zj, zk, zl, zm, zn, zo, zp, reduceCtorEq, zE, ↓reduceIte]
    refine brP (fun yc2 => ?_) (fun yc2 => ?_)
    · have yd3 : t8.toNat < s0_1.length := by omega
      simp -implicitDefEqProofs only [(enL_get enB s0_1 t8.toNat yd3), enB_e, sz5, ag5, ent63, prm63, f63_t, yc1, yc2, yd3, setA, setB, za, zb, zc, zd, ze, zf, zg, zh, zi, zj, zk, zl, zm, zn, zo, zp, reduceCtorEq, zE, ↓reduceIte]
      refine brM (fun yc4 => ?_) (fun yr5 yc4 => ?_)
      · rw [yc4]; rfl
      · simp -implicitDefEqProofs only [e63, (show c73_19 = Code.cond _ c73_20 c73_23 from rfl), yc1, yc2, yd3, yc4, setA, setB, za, zb, zc, zd, ze, zf, zg, zh, zi, zj, zk, zl, zm, zn, zo, zp, reduceCtorEq, zE, ↓reduceIte]
        refine brB (fun yc6 => ?_) (fun yc6 => ?_)
        · simp -implicitDefEqProofs only [c73_20_e, c73_21_r, (show opsOf c73_21 = _ :: _ from rfl), c73_22_e, K73_6, yc1, yc2, yd3, yc4, yc6, setA, setB, za, zb, zc, zd, ze, zf, zg, zh, zi, zj, zk, zl, zm, zn, zo, zp, reduceCtorEq, zE, ↓reduceIte]
          all_goals rfl
        · simp -implicitDefEqProofs only [c73_23_e, c73_24_r, (show opsOf c73_24 = _ :: _ from rfl), yc1, yc2, yd3, yc4, yc6, setA, setB, za, zb, zc, zd, ze, zf, zg, zh, zi, zj, zk, zl, zm, zn, zo, zp, reduceCtorEq, zE, ↓reduceIte]
          all_goals rfl
    · rw [if_neg yc2]; rfl
  · simp -implicitDefEqProofs only [c73_12_e, K73_6, yc1, setA, setB, za, zb, zc, zd, ze, zf, zg, zh, zi, zj, zk, zl, zm, zn, zo, zp, reduceCtorEq, zE, ↓reduceIte]
    exact mi (j73_25_t _)
def l73_6 (s0_0 : Bool) (s0_1 : List UInt8) (t7 t8 : Int) : Option R73 := iter (fun x : (Bool × List UInt8 × Int × Int) => s73_6 x.1 x.2.1 x.2.2.1 x.2.2.2) (s0_0, s0_1, t7, t8)
theorem l73_6_t (s0_0 : Bool) (s0_1 : List UInt8) (t7 t8 : Int) : bodyD (E0 mm) [.tmp 4] 1 false (seqD (E0 mm) 73 1 (callW (E0 mm)) itW c73_25 (blockD 0 (itW (loopF (E0 mm) 73 1 (callW (E0 mm)) itW c73_7 [(0, .keep), (1, .keep), (7, .keep), (8, .keep)]) (none, [.v (.c (.d (.lst s0_0 (enL enB s0_1)))), .v (.c (.fn 63 [(0, 0)])), .v (.c (.d (.sc (.int .i64 t7)))), .v (.c (.d (.sc (.int .i64 t8))))], [.cells [.d (.sc (.func (.func 54) #[] #[]))]])))) = (l73_6 s0_0 s0_1 t7 t8).map e73 :=
  it_sim (K := (K73_6 (mm := mm))) rfl (enc := en73_6) (fun x => s73_6_t x.1 x.2.1 x.2.2.1 x.2.2.2) (s0_0, s0_1, t7, t8)
def m73 (s_0 : Bool) (s_1 : List UInt8) : Option R73 :=
  l73_6 s_0 s_1 (s_1.length : Int) (0 : Int)
theorem f73_t (s_0 : Bool) (s_1 : List UInt8) :
    callW (E0 mm) 73 [.c (.d (.lst s_0 (enL enB s_1))), .c (.fn 63 [(0, 0)])] [.cells [.d (.sc (.func (.func 54) #[] #[]))]] = (m73 s_0 s_1).map e73 := by
  rw [callW_run (body := c73_0) (res := [.tmp 4]) Tryd.func73 rfl rfl (by kernel_rfl)]
  simp -implicitDefEqProofs only [m73, slots2, c73_0_e, c73_1_r, (show opsOf c73_1 = _ :: _ from rfl), c73_2_e, c73_3_e, c73_4_r, (show opsOf c73_4 = _ :: _ from rfl), Tryd.underlying33, c73_5_e, c73_6_l, setA, setB, za, zb, zc, zd, ze, zf, zg, zh, zi, zj, zk, zl, zm, zn, zo, zp, reduceCtorEq, zE, ↓reduceIte]
  exact l73_6_t s_0 s_1 (s_1.length : Int) (0 : Int)
noncomputable def c62_0 : Code := bodyOf Tryd.f62
def c62_1 := cA c62_0
def c62_2 := cB c62_0
def c62_3 := cA c62_2
def c62_4 := cB c62_2
theorem c62_0_e : c62_0 = .seq c62_1 c62_2 := rfl
theorem c62_1_r : RG (E0 mm) 62 c62_1 := rgN rfl
theorem c62_2_e : c62_2 = .seq c62_3 c62_4 := rfl
theorem c62_3_r : RG (E0 mm) 62 c62_3 := rgN rfl
theorem c62_4_e : c62_4 = .ret := rfl
abbrev R62 := (Bool)
def e62 : R62 → AV × Heap := fun x => (.v (.c (.d (.sc (.bool x)))), [.cells [.d (.sc (.func (.func 54) #[] #[]))]])
def m62 (s_0 : Bool) (s_1 : List UInt8) : Option R62 :=
  (m73 s_0 s_1).bind fun yr2 =>
    some (decide (0 ≤ yr2))
theorem f62_t (s_0 : Bool) (s_1 : List UInt8) :
    callW (E0 mm) 62 [.c (.d (.lst s_0 (enL enB s_1))), .c (.fn 63 [(0, 0)])] [.cells [.d (.sc (.func (.func 54) #[] #[]))]] = (m62 s_0 s_1).map e62 := by
  rw [callW_run (body := c62_0) (res := [.tmp 4]) Tryd.func62 rfl rfl (by kernel_rfl)]
  simp -implicitDefEqProofs only [m62, slots2, c62_0_e, c62_1_r, (show opsOf c62_1 = _ :: _ from rfl), c62_2_e, c62_3_r, (show opsOf c62_3 = _ :: _ from rfl), ent73, prm73, f73_t, setA, setB, za, zb, zc, zd, ze, zf, zg, zh, zi, zj, zk, zl, zm, zn, zo, zp, reduceCtorEq, zE, ↓reduceIte]
  refine brM (fun yc1 => ?_) (fun yr2 yc1 => ?_)
  · rw [yc1]; rfl
  · simp -implicitDefEqProofs only [e73, c62_4_e, yc1, setA, setB, za, zb, zc, zd, ze, zf, zg, zh, zi, zj, zk, zl, zm, zn, zo, zp, reduceCtorEq, zE, ↓reduceIte]
    all_goals rfl
noncomputable def c53_0 : Code := bodyOf Tryd.f53
def c53_1 := cA c53_0
def c53_2 := cB c53_0
def c53_3 := cA c53_2
def c53_4 := cB c53_2
theorem c53_0_e : c53_0 = .seq c53_1 c53_2 := rfl
theorem c53_1_r : RG (E0 mm) 53 c53_1 := rgN rfl
theorem c53_2_e : c53_2 = .seq c53_3 c53_4 := rfl
theorem c53_3_r : RG (E0 mm) 53 c53_3 := rgN rfl
theorem c53_4_e : c53_4 = .ret := rfl
abbrev R53 := (Bool)
def e53 : R53 → AV × Heap := fun x => (.v (.c (.d (.sc (.bool x)))), [])
def m53 (s : Bs) : Option R53 :=
  (m62 false s).bind fun yr2 =>
    some (!yr2)
theorem f53_t (s : Bs) :
    callW (E0 mm) 53 [.c (.d (.sc (.string (S s)))), .c (.d (.sc (.func (.func 54) #[] #[])))] [] = (m53 s).map e53 := by
  rw [callW_run (body := c53_0) (res := [.tmp 4]) Tryd.func53 rfl rfl (by kernel_rfl)]
  simp -implicitDefEqProofs only [m53, slots2, c53_0_e, c53_1_r, (show opsOf c53_1 = _ :: _ from rfl), c53_2_e, c53_3_r, (show opsOf c53_3 = _ :: _ from rfl), Tryd.underlying9, Tryd.underlying33, Tryd.underlying5, hd28, rw29, ent62, prm62, (show callW (E0 mm) 62 [.c (.d (.lst false (enL enB s))), .c (.fn 63 [(0, 0)])] [.cells [.d (.sc (.func (.func 54) #[] #[]))]] = _ from f62_t false s), setA, setB, za, zb, zc, zd, ze, zf, zg, zh, zi, zj, zk, zl, zm, zn, zo, zp, reduceCtorEq, zE, ↓reduceIte]
  refine brM (fun yc1 => ?_) (fun yr2 yc1 => ?_)
  · rw [yc1]; rfl
  · simp -implicitDefEqProofs only [e62, c53_4_e, yc1, setA, setB, za, zb, zc, zd, ze, zf, zg, zh, zi, zj, zk, zl, zm, zn, zo, zp, reduceCtorEq, zE, ↓reduceIte]
    all_goals rfl
noncomputable def c44_0 : Code := bodyOf Tryd.f44
def c44_1 := cA c44_0
def c44_2 := cB c44_0
def c44_3 := cA c44_2
def c44_4 := cB c44_2
theorem c44_0_e : c44_0 = .seq c44_1 c44_2 := rfl
theorem c44_1_r : RG (E0 mm) 44 c44_1 := rgN rfl
theorem c44_2_e : c44_2 = .seq c44_3 c44_4 := rfl
theorem c44_3_r : RG (E0 mm) 44 c44_3 := rgN rfl
theorem c44_4_e : c44_4 = .ret := rfl
abbrev R44 := (Bool)
def e44 : R44 → AV × Heap := fun x => (.v (.c (.d (.sc (.bool x)))), [])
def m44 (s : Bs) : Option R44 :=
  if (s == ([] : Bs)) = true then
    some false
  else
    (m53 s).bind fun yr3 =>
      some yr3
theorem f44_t (s : Bs) :
    callW (E0 mm) 44 [.c (.d (.sc (.string (S s))))] [] = (m44 s).map e44 := by
  rw [callW_run (body := c44_0) (res := [.tmp 2]) Tryd.func44 rfl rfl (by kernel_rfl)]
  simp -implicitDefEqProofs only [m44, slots1, c44_0_e, c44_1_r, (show opsOf c44_1 = _ :: _ from rfl), c44_2_e, c44_3_r, (show opsOf c44_3 = _ :: _ from rfl), setA, setB, za, zb, zc, zd, ze, zf, zg, zh, zi, zj, zk, zl, zm, zn, zo, zp, reduceCtorEq, zE, ↓reduceIte]
  refine brB (fun yc1 => ?_) (fun yc1 => ?_)
  · simp -implicitDefEqProofs only [c44_4_e, yc1, setA, setB, za, zb, zc, zd, ze, zf, zg, zh, zi, zj, zk, zl, zm, zn, zo, zp, reduceCtorEq, zE, ↓reduceIte]
    all_goals rfl
  · simp -implicitDefEqProofs only [ent53, prm53, f53_t, yc1, setA, setB, za, zb, zc, zd, ze, zf, zg, zh, zi, zj, zk, zl, zm, zn, zo, zp, reduceCtorEq, zE, ↓reduceIte]
    refine brM (fun yc2 => ?_) (fun yr3 yc2 => ?_)
    · rw [yc2]; rfl
    · simp -implicitDefEqProofs only [e53, c44_4_e, yc1, yc2, setA, setB, za, zb, zc, zd, ze, zf, zg, zh, zi, zj, zk, zl, zm, zn, zo, zp, reduceCtorEq, zE, ↓reduceIte]
      all_goals rfl
noncomputable def c56_0 : Code := bodyOf Tryd.f56
def c56_1 := cA c56_0
def c56_2 := cB c56_0
def c56_3 := cA c56_2
def c56_4 := cB c56_2
theorem c56_0_e : c56_0 = .seq c56_1 c56_2 := rfl
theorem c56_1_r : RG (E0 mm) 56 c56_1 := rgN rfl
theorem c56_2_e : c56_2 = .seq c56_3 c56_4 := rfl
theorem c56_3_r : RG (E0 mm) 56 c56_3 := rgN rfl
theorem c56_4_e : c56_4 = .ret := rfl
abbrev R56 := (Bool)
def e56 : R56 → AV × Heap := fun x => (.v (.c (.d (.sc (.bool x)))), [])
def m56 (c : UInt8) : Option R56 :=
  if (c == (9 : UInt8)) = true then
    some true
  else
    if (decide ((32 : UInt8) ≤ c)) = true then
      some (!(c == (127 : UInt8)))
    else
      some false
theorem f56_t (c : UInt8) :
    callW (E0 mm) 56 [.c (.d (.sc (.int .u8 ((c).toNat : Int))))] [] = (m56 c).map e56 := by
  rw [callW_run (body := c56_0) (res := [.tmp 2]) Tryd.func56 rfl rfl (by kernel_rfl)]
  simp -implicitDefEqProofs only [m56, slots1, c56_0_e, c56_1_r, (show opsOf c56_1 = _ :: _ from rfl), c56_2_e, c56_3_r, (show opsOf c56_3 = _ :: _ from rfl), setA, setB, za, zb, zc, zd, ze, zf, zg, zh, zi, zj, zk, zl, zm, zn, zo, zp, reduceCtorEq, zE, ↓reduceIte]
  refine brB (fun yc1 => ?_) (fun yc1 => ?_)
  · simp -implicitDefEqProofs only [c56_4_e, yc1, setA, setB, za, zb, zc, zd, ze, zf, zg, zh, zi, zj, zk, zl, zm, zn, zo, zp, reduceCtorEq, zE, ↓reduceIte]
    all_goals rfl
  · simp -implicitDefEqProofs only [yc1, setA, setB, za, zb, zc, zd, ze, zf, zg, zh, zi, zj, zk, zl, zm, zn, zo, zp, reduceCtorEq, zE, ↓reduceIte]
    refine brB (fun yc2 => ?_) (fun yc2 => ?_)
    · simp -implicitDefEqProofs only [c56_4_e, yc1, yc2, setA, setB, za, zb, zc, zd, ze, zf, zg, zh, zi, zj, zk, zl, zm, zn, zo, zp, reduceCtorEq, zE, ↓reduceIte]
      all_goals rfl
    · simp -implicitDefEqProofs only [c56_4_e, yc1, yc2, setA, setB, za, zb, zc, zd, ze, zf, zg, zh, zi, zj, zk, zl, zm, zn, zo, zp, reduceCtorEq, zE, ↓reduceIte]
      all_goals rfl
noncomputable def c45_0 : Code := bodyOf Tryd.f45
def c45_1 := cA c45_0
def c45_2 := cB c45_0
def c45_3 := cA c45_2
def c45_4 := cA c45_3
def c45_5 := cB c45_3
def c45_6 := cA c45_5
def c45_7 := cA c45_6
def c45_8 := cB c45_6
def c45_9 := cB c45_5
def c45_10 := cB c45_2
def c45_11 := cA c45_10
def c45_12 := cB c45_10
def c45_13 := cA c45_12
def c45_14 := cB c45_12
def c45_15 := cA c45_14
def c45_16 := cA c45_15
def c45_17 := cB c45_15
def c45_18 := cA c45_17
def c45_19 := cA c45_18
def c45_20 := cA c45_19
def c45_21 := cA c45_20
def c45_22 := cB c45_20
def c45_23 := cA c45_22
def c45_24 := cB c45_22
def c45_25 := cB c45_19
def c45_26 := cA c45_25
def c45_27 := cA c45_26
def c45_28 := cA c45_27
def c45_29 := cA c45_28
def c45_30 := cA c45_29
def c45_31 := cB c45_29
def c45_32 := cA c45_31
def c45_33 := cA c45_32
def c45_34 := cB c45_32
def c45_35 := cB c45_31
def c45_36 := cA c45_35
def c45_37 := cB c45_35
def c45_38 := cA c45_37
def c45_39 := cA c45_38
def c45_40 := cB c45_38
def c45_41 := cA c45_40
def c45_42 := cB c45_40
def c45_43 := cA c45_42
def c45_44 := cA c45_43
def c45_45 := cB c45_43
def c45_46 := cB c45_42
def c45_47 := cB c45_37
def c45_48 := cB c45_27
def c45_49 := cA c45_48
def c45_50 := cA c45_49
def c45_51 := cB c45_49
def c45_52 := cA c45_51
def c45_53 := cA c45_52
def c45_54 := cB c45_52
def c45_55 := cB c45_51
def c45_56 := cB c45_48
def c45_57 := cB c45_25
def c45_58 := cB c45_14
def c45_59 := cA c45_58
def c45_60 := cB c45_58
theorem c45_0_e : c45_0 = .seq c45_1 c45_2 := rfl
theorem c45_1_r : RG (E0 mm) 45 c45_1 := rgN rfl
theorem c45_2_e : c45_2 = .seq c45_3 c45_10 := rfl
theorem c45_3_e : c45_3 = .seq c45_4 c45_5 := rfl
theorem c45_4_r : RG (E0 mm) 45 c45_4 := rgN rfl
theorem c45_6_e : c45_6 = .seq c45_7 c45_8 := rfl
theorem c45_7_r : RG (E0 mm) 45 c45_7 := rgN rfl
theorem c45_8_e : c45_8 = .ret := rfl
theorem c45_9_e : c45_9 = .skip := rfl
theorem c45_10_e : c45_10 = .seq c45_11 c45_12 := rfl
theorem c45_11_r : RG (E0 mm) 45 c45_11 := rgN rfl
theorem c45_12_e : c45_12 = .seq c45_13 c45_14 := rfl
theorem c45_13_r : RG (E0 mm) 45 c45_13 := rgN rfl
theorem c45_14_e : c45_14 = .seq c45_15 c45_58 := rfl
theorem c45_15_e : c45_15 = .seq c45_16 c45_17 := rfl
theorem c45_16_r : RG (E0 mm) 45 c45_16 := rgN rfl
theorem c45_17_e : c45_17 = .block 0 c45_18 := rfl
theorem c45_18_l (m : Nat) (st : St) : den (E0 mm) 45 m (callW (E0 mm)) itW c45_18 none st = loopD itW (loopF (E0 mm) 45 m (callW (E0 mm)) itW c45_19 [(4, .own), (5, .keep), (6, .keep)]) (canon m [(4, .own), (5, .keep), (6, .keep)] st) := rfl
theorem c45_19_e : c45_19 = .seq c45_20 c45_25 := rfl
theorem c45_20_e : c45_20 = .seq c45_21 c45_22 := rfl
theorem c45_21_r : RG (E0 mm) 45 c45_21 := rgN rfl
theorem c45_23_e : c45_23 = .skip := rfl
theorem c45_24_e : c45_24 = .exit 0 := rfl
theorem c45_25_e : c45_25 = .seq c45_26 c45_57 := rfl
theorem c45_26_e : c45_26 = .block 1 c45_27 := rfl
theorem c45_27_e : c45_27 = .seq c45_28 c45_48 := rfl
theorem c45_28_e : c45_28 = .block 2 c45_29 := rfl
theorem c45_29_e : c45_29 = .seq c45_30 c45_31 := rfl
theorem c45_30_r : RG (E0 mm) 45 c45_30 := rgN rfl
theorem c45_32_e : c45_32 = .seq c45_33 c45_34 := rfl
theorem c45_33_r : RG (E0 mm) 45 c45_33 := rgN rfl
theorem c45_34_e : c45_34 = .ret := rfl
theorem c45_35_e : c45_35 = .seq c45_36 c45_37 := rfl
theorem c45_36_r : RG (E0 mm) 45 c45_36 := rgN rfl
theorem c45_38_e : c45_38 = .seq c45_39 c45_40 := rfl
theorem c45_39_r : RG (E0 mm) 45 c45_39 := rgN rfl
theorem c45_40_e : c45_40 = .seq c45_41 c45_42 := rfl
theorem c45_41_r : RG (E0 mm) 45 c45_41 := rgN rfl
theorem c45_43_e : c45_43 = .seq c45_44 c45_45 := rfl
theorem c45_44_r : RG (E0 mm) 45 c45_44 := rgN rfl
theorem c45_45_e : c45_45 = .ret := rfl
theorem c45_46_e : c45_46 = .skip := rfl
theorem c45_47_e : c45_47 = .skip := rfl
theorem c45_48_e : c45_48 = .seq c45_49 c45_56 := rfl
theorem c45_49_e : c45_49 = .seq c45_50 c45_51 := rfl
theorem c45_50_r : RG (E0 mm) 45 c45_50 := rgN rfl
theorem c45_52_e : c45_52 = .seq c45_53 c45_54 := rfl
theorem c45_53_r : RG (E0 mm) 45 c45_53 := rgN rfl
theorem c45_54_e : c45_54 = .ret := rfl
theorem c45_55_e : c45_55 = .skip := rfl
theorem c45_56_r : RG (E0 mm) 45 c45_56 := rgN rfl
theorem c45_57_r : RG (E0 mm) 45 c45_57 := rgN rfl
theorem c45_58_e : c45_58 = .seq c45_59 c45_60 := rfl
theorem c45_59_r : RG (E0 mm) 45 c45_59 := rgN rfl
theorem c45_60_e : c45_60 = .ret := rfl
abbrev R45 := (Bs × Bool)
def e45 : R45 → AV × Heap := fun x => (.tup [.c (.d (.sc (.string (S x.1)))), .c (.d (.sc (.bool x.2)))], [])
def K45_18 : Option (Ex × St) → Option (AV × Heap) := fun r => bodyD (E0 mm) [.tmp 2, .tmp 3] 0 false (seqD (E0 mm) 45 0 (callW (E0 mm)) itW c45_58 (blockD 0 (r)))
def en45_18 : (Bool × List UInt8 × Bs × Int) → X := fun x => (none, [.v (.c (.own x.1 (enL enB x.2.1) 0)), .v (.c (.d (.sc (.string (S x.2.2.1))))), .v (.c (.d (.sc (.int .i64 x.2.2.2))))], [.row x.2.1.length (rz x.1 1)])
def j45_48 (b4_0 : Bool) (b4_1 : List UInt8) (in5 : Bs) (i6 : Int) : Option ((Bool × List UInt8 × Bs × Int) ⊕ R45) :=
  if 0 ≤ i6 ∧ i6 < (in5.length : Int) then
    (m56 (in5.getD i6.toNat 0)).bind fun yr14 =>
      if yr14 = true then
        if (b4_1.length + 1) * 1 ≤ 140737488355328 then
          some (.inl (false, (b4_1 ++ ([(in5.getD i6.toNat 0)] : List UInt8)), in5, (w64 (i6 + 1))))
        else none
      else
        some (.inr (([] : Bs), false))
  else none
theorem j45_48_t (b4_0 : Bool) (b4_1 : List UInt8) (in5 : Bs) (i6 : Int)  (sl : Nat → AV) (zq4 : sl 4 = .v (.c (.own b4_0 (enL enB b4_1) 0))) (zq5 : sl 5 = .v (.c (.d (.sc (.string (S in5)))))) (zq6 : sl 6 = .v (.c (.d (.sc (.int .i64 i6))))) :
    stepE (K45_18 (mm := mm)) (loopK 0 [(4, .own), (5, .keep), (6, .keep)] (seqD (E0 mm) 45 0 (callW (E0 mm)) itW c45_57 (blockD 1 (den (E0 mm) 45 0 (callW (E0 mm)) itW c45_48 none ⟨sl, [.row b4_1.length (rz b4_0 1)]⟩)))) = (j45_48 b4_0 b4_1 in5 i6).map (sm en45_18 e45) := by
  simp -implicitDefEqProofs only [j45_48, c45_48_e, c45_49_e, c45_50_r, (show opsOf c45_50 = _ :: _ from rfl), Tryd.underlying9, zq4, zq5, zq6, setA, setB, za, zb, zc, zd, ze, zf, zg, zh, zi, zj, zk, zl, zm, zn, zo, zp, reduceCtorEq, zE, ↓reduceIte]
  refine brP (fun yc12 => ?_) (fun yc12 => ?_)
  · simp -implicitDefEqProofs only [ent56, prm56, f56_t, zq4, zq5, zq6, yc12, setA, setB, za, zb, zc, zd, ze, zf, zg, zh, zi, zj, zk, zl, zm, zn, zo, zp, reduceCtorEq, zE, ↓reduceIte]
    refine brM (fun yc13 => ?_) (fun yr14 yc13 => ?_)
    · rw [yc13]; rfl
    · simp -implicitDefEqProofs only [e56, (show c45_51 = Code.cond _ c45_52 c45_55 from rfl), zq4, zq5, zq6, yc12, yc13, setA, setB, za, zb, zc, zd, ze, zf, zg, zh, zi, zj, zk, zl, zm, zn, zo, zp, reduceCtorEq, zE, ↓reduceIte]
      refine brB (fun yc15 => ?_) (fun yc15 => ?_)
      · simp -implicitDefEqProofs only [c45_55_e, c45_56_r, (show opsOf c45_56 = _ :: _ from rfl), Tryd.underlying9, Tryd.underlying33, sz5, zc5, hd30, nv31, rw32, ns33, ap33, zq4, zq5, zq6, yc12, yc13, yc15, setA, setB, za, zb, zc, zd, ze, zf, zg, zh, zi, zj, zk, zl, zm, zn, zo, zp, reduceCtorEq, zE, ↓reduceIte]
        refine brP (fun yc16 => ?_) (fun yc16 => ?_)
        · simp -implicitDefEqProofs only [c45_57_r, (show opsOf c45_57 = _ :: _ from rfl), zq4, zq5, zq6, yc12, yc13, yc15, yc16, setA, setB, za, zb, zc, zd, ze, zf, zg, zh, zi, zj, zk, zl, zm, zn, zo, zp, reduceCtorEq, zE, ↓reduceIte]
          all_goals rfl
        · rw [if_neg yc16]; rfl
      · simp -implicitDefEqProofs only [c45_52_e, c45_53_r, (show opsOf c45_53 = _ :: _ from rfl), c45_54_e, K45_18, zq4, zq5, zq6, yc12, yc13, yc15, setA, setB, za, zb, zc, zd, ze, zf, zg, zh, zi, zj, zk, zl, zm, zn, zo, zp, reduceCtorEq, zE, ↓reduceIte]
        all_goals rfl
  · rw [if_neg yc12]; rfl
def j45_58 (b4_0 : Bool) (b4_1 : List UInt8) : Option R45 :=
  some (b4_1, true)
theorem j45_58_t (b4_0 : Bool) (b4_1 : List UInt8)  (sl : Nat → AV) (zq4 : sl 4 = .v (.c (.own b4_0 (enL enB b4_1) 0))) :
    bodyD (E0 mm) [.tmp 2, .tmp 3] 0 false (den (E0 mm) 45 0 (callW (E0 mm)) itW c45_58 none ⟨sl, [.row b4_1.length (rz b4_0 1)]⟩) = (j45_58 b4_0 b4_1).map e45 := by
  simp -implicitDefEqProofs only [j45_58, c45_58_e, c45_59_r, (show opsOf c45_59 = _ :: _ from rfl), Tryd.underlying33, Tryd.underlying9, Tryd.underlying5, c45_60_e, zq4, setA, setB, za, zb, zc, zd, ze, zf, zg, zh, zi, zj, zk, zl, zm, zn, zo, zp, reduceCtorEq, zE, ↓reduceIte]
  all_goals rfl
def s45_18 (b4_0 : Bool) (b4_1 : List UInt8) (in5 : Bs) (i6 : Int) : Option ((Bool × List UInt8 × Bs × Int) ⊕ R45) :=
  if (decide (i6 < (in5.length : Int))) = true then
    if 0 ≤ i6 ∧ i6 < (in5.length : Int) then
      if ((in5.getD i6.toNat 0) == (34 : UInt8)) = true then
        some (.inr (([] : Bs), false))
      else
        if ((in5.getD i6.toNat 0) == (92 : UInt8)) = true then
          if ((w64 (i6 + 1)) == (in5.length : Int)) = true then
            some (.inr (([] : Bs), false))
          else
            j45_48 b4_0 b4_1 in5 (w64 (i6 + 1))
        else
          j45_48 b4_0 b4_1 in5 i6
    else none
  else
    (j45_58 b4_0 b4_1).map .inr
theorem s45_18_t (b4_0 : Bool) (b4_1 : List UInt8) (in5 : Bs) (i6 : Int) :
    stepE (K45_18 (mm := mm)) (loopF (E0 mm) 45 0 (callW (E0 mm)) itW c45_19 [(4, .own), (5, .keep), (6, .keep)] (none, [.v (.c (.own b4_0 (enL enB b4_1) 0)), .v (.c (.d (.sc (.string (S in5))))), .v (.c (.d (.sc (.int .i64 i6))))], [.row b4_1.length (rz b4_0 1)])) = (s45_18 b4_0 b4_1 in5 i6).map (sm en45_18 e45) := by
  simp -implicitDefEqProofs only [s45_18, loopF_eq, c45_19_e, c45_20_e, c45_21_r, (show opsOf c45_21 = _ :: _ from rfl), Tryd.underlying9, (show c45_22 = Code.cond _ c45_23 c45_24 from rfl), setA, setB, za, zb, zc, zd, ze, zf, zg, zh, zi, zj, zk, zl, zm, zn, zo, zp, reduceCtorEq, zE, ↓reduceIte]
  refine brB (fun yc7 => ?_) (fun yc7 => ?_)
  · simp -implicitDefEqProofs only [c45_23_e, c45_25_e, c45_26_e, c45_27_e, c45_28_e, c45_29_e, c45_30_r, (show opsOf c45_30 = _ :: _ from rfl), Tryd.underlying9, yc7, setA, setB, za, zb, zc, zd, ze, zf, zg, zh, zi, zj, zk, zl, zm, zn, zo, zp, reduceCtorEq, zE, ↓reduceIte]
    refine brP (fun yc8 => ?_) (fun yc8 => ?_)
    · simp -implicitDefEqProofs only [(show c45_31 = Code.cond _ c45_32 c45_35 from rfl), yc7, yc8, setA, setB, za, zb, zc, zd, ze, zf, zg, zh, zi, zj, zk, zl, zm, zn, zo, zp, reduceCtorEq, zE, ↓reduceIte]
      refine brB (fun yc9 => ?_) (fun yc9 => ?_)
      · simp -implicitDefEqProofs only [c45_32_e, c45_33_r, (show opsOf c45_33 = _ :: _ from rfl), c45_34_e, K45_18, yc7, yc8, yc9, setA, setB, za, zb, zc, zd, ze, zf, zg, zh, zi, zj, zk, zl, zm, zn, zo, zp, reduceCtorEq, zE, ↓reduceIte]
        all_goals rfl
      · simp -implicitDefEqProofs only [c45_35_e, c45_36_r, (show opsOf c45_36 = _ :: _ from rfl), Tryd.underlying9, (show c45_37 = Code.cond _ c45_38 c45_47 from rfl), yc7, yc8, yc9, setA, setB, za, zb, zc, zd, ze, zf, zg, zh, zi, zj, zk, zl, zm, zn, zo, zp, reduceCtorEq, zE, ↓reduceIte]
        refine brB (fun yc10 => ?_) (fun yc10 => ?_)
        · simp -implicitDefEqProofs only [c45_38_e, c45_39_r, (show opsOf c45_39 = _ :: _ from rfl), c45_40_e, c45_41_r, (show opsOf c45_41 = _ :: _ from rfl), Tryd.underlying9, (show c45_42 = Code.cond _ c45_43 c45_46 from rfl), yc7, yc8, yc9, yc10, setA, setB, za, zb, zc, zd, ze, zf, zg, zh, zi, zj, zk, zl, zm, zn, zo, zp, reduceCtorEq, zE, ↓reduceIte]
          refine brB (fun yc11 => ?_) (fun yc11 => ?_)
          · simp -implicitDefEqProofs only [c45_43_e, c45_44_r, (show opsOf c45_44 = _ :: _ from rfl), c45_45_e, K45_18, yc7, yc8, yc9, yc10, yc11, setA, setB, za, zb, zc, zd, ze, zf, zg, zh, zi, zj, zk, zl, zm, zn, zo, zp, reduceCtorEq, zE, ↓reduceIte]
            all_goals rfl
          · simp -implicitDefEqProofs only [c45_46_e, yc7, yc8, yc9, yc10, yc11, setA, setB, za, zb, zc, zd, ze, zf, zg, zh, zi, zj, zk, zl, zm, zn, zo, zp, reduceCtorEq, zE, ↓reduceIte]
            exact j45_48_t b4_0 b4_1 in5 (w64 (i6 + 1)) _ (by rfl) (by rfl) (by rfl)
        · simp -implicitDefEqProofs only [c45_47_e, yc7, yc8, yc9, yc10, setA, setB, za, zb, zc, zd, ze, zf, zg, zh, zi, zj, zk, zl, zm, zn, zo, zp, reduceCtorEq, zE, ↓reduceIte]
          exact j45_48_t b4_0 b4_1 in5 i6 _ (by rfl) (by rfl) (by rfl)
    · rw [if_neg yc8]; rfl
  · simp -implicitDefEqProofs only [c45_24_e, K45_18, yc7, setA, setB, za, zb, zc, zd, ze, zf, zg, zh, zi, zj, zk, zl, zm, zn, zo, zp, reduceCtorEq, zE, ↓reduceIte]
    exact mi (j45_58_t b4_0 b4_1 _ (by rfl))
def l45_18 (b4_0 : Bool) (b4_1 : List UInt8) (in5 : Bs) (i6 : Int) : Option R45 := iter (fun x : (Bool × List UInt8 × Bs × Int) => s45_18 x.1 x.2.1 x.2.2.1 x.2.2.2) (b4_0, b4_1, in5, i6)
theorem l45_18_t (b4_0 : Bool) (b4_1 : List UInt8) (in5 : Bs) (i6 : Int) : bodyD (E0 mm) [.tmp 2, .tmp 3] 0 false (seqD (E0 mm) 45 0 (callW (E0 mm)) itW c45_58 (blockD 0 (itW (loopF (E0 mm) 45 0 (callW (E0 mm)) itW c45_19 [(4, .own), (5, .keep), (6, .keep)]) (none, [.v (.c (.own b4_0 (enL enB b4_1) 0)), .v (.c (.d (.sc (.string (S in5))))), .v (.c (.d (.sc (.int .i64 i6))))], [.row b4_1.length (rz b4_0 1)])))) = (l45_18 b4_0 b4_1 in5 i6).map e45 :=
  it_sim (K := (K45_18 (mm := mm))) rfl (enc := en45_18) (fun x => s45_18_t x.1 x.2.1 x.2.2.1 x.2.2.2) (b4_0, b4_1, in5, i6)
def j45_5 (s0 : Bs) (t22 : Bool) : Option R45 :=
  if t22 = true then
    some (([] : Bs), false)
  else
    (bnd (w64 ((s0.length : Int) - 1)) s0.length).bind fun yk4 =>
      (bnd 1 yk4).bind fun yk6 =>
        l45_18 true ([] : List UInt8) ((s0.take yk4).drop yk6) (0 : Int)
theorem j45_5_t (s0 : Bs) (t22 : Bool)  (sl : Nat → AV) (zq0 : sl 0 = .v (.c (.d (.sc (.string (S s0)))))) (zq22 : sl 22 = .v (.c (.d (.sc (.bool t22))))) :
    bodyD (E0 mm) [.tmp 2, .tmp 3] 0 false (seqD (E0 mm) 45 0 (callW (E0 mm)) itW c45_10 (den (E0 mm) 45 0 (callW (E0 mm)) itW c45_5 none ⟨sl, []⟩)) = (j45_5 s0 t22).map e45 := by
  simp -implicitDefEqProofs only [j45_5, (show c45_5 = Code.cond _ c45_6 c45_9 from rfl), zq0, zq22, setA, setB, za, zb, zc, zd, ze, zf, zg, zh, zi, zj, zk, zl, zm, zn, zo, zp, reduceCtorEq, zE, ↓reduceIte]
  refine brB (fun yc2 => ?_) (fun yc2 => ?_)
  · simp -implicitDefEqProofs only [c45_6_e, c45_7_r, (show opsOf c45_7 = _ :: _ from rfl), c45_8_e, zq0, zq22, yc2, setA, setB, za, zb, zc, zd, ze, zf, zg, zh, zi, zj, zk, zl, zm, zn, zo, zp, reduceCtorEq, zE, ↓reduceIte]
    all_goals rfl
  · simp -implicitDefEqProofs only [c45_9_e, c45_10_e, c45_11_r, (show opsOf c45_11 = _ :: _ from rfl), c45_12_e, c45_13_r, (show opsOf c45_13 = _ :: _ from rfl), Tryd.underlying9, zq0, zq22, yc2, setA, setB, za, zb, zc, zd, ze, zf, zg, zh, zi, zj, zk, zl, zm, zn, zo, zp, reduceCtorEq, zE, ↓reduceIte]
    refine brM (fun yc3 => ?_) (fun yk4 yc3 => ?_)
    · rw [yc3]; rfl
    · simp -implicitDefEqProofs only [zq0, zq22, yc2, yc3, setA, setB, za, zb, zc, zd, ze, zf, zg, zh, zi, zj, zk, zl, zm, zn, zo, zp, reduceCtorEq, zE, ↓reduceIte]
      refine brM (fun yc5 => ?_) (fun yk6 yc5 => ?_)
      · rw [yc5]; rfl
      · simp -implicitDefEqProofs only [c45_14_e, c45_15_e, c45_16_r, (show opsOf c45_16 = _ :: _ from rfl), c45_17_e, c45_18_l, zq0, zq22, yc2, yc3, yc5, setA, setB, za, zb, zc, zd, ze, zf, zg, zh, zi, zj, zk, zl, zm, zn, zo, zp, reduceCtorEq, zE, ↓reduceIte]
        exact l45_18_t true ([] : List UInt8) ((s0.take yk4).drop yk6) (0 : Int)
def m45 (s : Bs) : Option R45 :=
  if (decide ((s.length : Int) < 2)) = true then
    j45_5 s true
  else
    if (0 : Int) < (s.length : Int) then
      if ((s.getD 0 0) == (34 : UInt8)) = true then
        if 0 ≤ (w64 ((s.length : Int) - 1)) ∧ (w64 ((s.length : Int) - 1)) < (s.length : Int) then
          j45_5 s (!((s.getD (w64 ((s.length : Int) - 1)).toNat 0) == (34 : UInt8)))
        else none
      else
        j45_5 s true
    else none
theorem f45_t (s : Bs) :
    callW (E0 mm) 45 [.c (.d (.sc (.string (S s))))] [] = (m45 s).map e45 := by
  rw [callW_run (body := c45_0) (res := [.tmp 2, .tmp 3]) Tryd.func45 rfl rfl (by kernel_rfl)]
  simp -implicitDefEqProofs only [m45, slots1, c45_0_e, c45_1_r, (show opsOf c45_1 = _ :: _ from rfl), c45_2_e, c45_3_e, c45_4_r, (show opsOf c45_4 = _ :: _ from rfl), Tryd.underlying9, setA, setB, za, zb, zc, zd, ze, zf, zg, zh, zi, zj, zk, zl, zm, zn, zo, zp, reduceCtorEq, zE, ↓reduceIte]
  refine brB (fun yc1 => ?_) (fun yc1 => ?_)
  · simp -implicitDefEqProofs only [yc1, setA, setB, za, zb, zc, zd, ze, zf, zg, zh, zi, zj, zk, zl, zm, zn, zo, zp, reduceCtorEq, zE, ↓reduceIte]
    exact j45_5_t s true _ (by rfl) (by rfl)
  · simp -implicitDefEqProofs only [Tryd.underlying9, yc1, setA, setB, za, zb, zc, zd, ze, zf, zg, zh, zi, zj, zk, zl, zm, zn, zo, zp, reduceCtorEq, zE, ↓reduceIte]
    refine brP (fun yc17 => ?_) (fun yc17 => ?_)
    · simp -implicitDefEqProofs only [yc1, yc17, setA, setB, za, zb, zc, zd, ze, zf, zg, zh, zi, zj, zk, zl, zm, zn, zo, zp, reduceCtorEq, zE, ↓reduceIte]
      refine brB (fun yc18 => ?_) (fun yc18 => ?_)
      · simp -implicitDefEqProofs only [Tryd.underlying9, yc1, yc17, yc18, setA, setB, za, zb, zc, zd, ze, zf, zg, zh, zi, zj, zk, zl, zm, zn, zo, zp, reduceCtorEq, zE, ↓reduceIte]
        refine brP (fun yc19 => ?_) (fun yc19 => ?_)
        · simp -implicitDefEqProofs only [yc1, yc17, yc18, yc19, setA, setB, za, zb, zc, zd, ze, zf, zg, zh, zi, zj, zk, zl, zm, zn, zo, zp, reduceCtorEq, zE, ↓reduceIte]
          exact j45_5_t s (!((s.getD (w64 ((s.length : Int) - 1)).toNat 0) == (34 : UInt8))) _ (by rfl) (by rfl)
        · rw [if_neg yc19]; rfl
      · simp -implicitDefEqProofs only [yc1, yc17, yc18, setA, setB, za, zb, zc, zd, ze, zf, zg, zh, zi, zj, zk, zl, zm, zn, zo, zp, reduceCtorEq, zE, ↓reduceIte]
        exact j45_5_t s true _ (by rfl) (by rfl)
    · rw [if_neg yc17]; rfl
noncomputable def c30_0 : Code := bodyOf Tryd.f30
def c30_1 := cA c30_0
def c30_2 := cB c30_0
def c30_3 := cA c30_2
def c30_4 := cB c30_2
def c30_5 := cA c30_4
def c30_6 := cA c30_5
def c30_7 := cB c30_5
def c30_8 := cA c30_7
def c30_9 := cA c30_8
def c30_10 := cB c30_8
def c30_11 := cB c30_7
def c30_12 := cB c30_4
def c30_13 := cA c30_12
def c30_14 := cA c30_13
def c30_15 := cB c30_13
def c30_16 := cA c30_15
def c30_17 := cA c30_16
def c30_18 := cB c30_16
def c30_19 := cB c30_15
def c30_20 := cB c30_12
def c30_21 := cA c30_20
def c30_22 := cB c30_20
def c30_23 := cA c30_22
def c30_24 := cA c30_23
def c30_25 := cB c30_23
def c30_26 := cA c30_25
def c30_27 := cA c30_26
def c30_28 := cB c30_26
def c30_29 := cB c30_25
def c30_30 := cB c30_22
def c30_31 := cA c30_30
def c30_32 := cB c30_30
theorem c30_0_e : c30_0 = .seq c30_1 c30_2 := rfl
theorem c30_1_r : RG (E0 mm) 30 c30_1 := rgN rfl
theorem c30_2_e : c30_2 = .seq c30_3 c30_4 := rfl
theorem c30_3_r : RG (E0 mm) 30 c30_3 := rgN rfl
theorem c30_4_e : c30_4 = .seq c30_5 c30_12 := rfl
theorem c30_5_e : c30_5 = .seq c30_6 c30_7 := rfl
theorem c30_6_r : RG (E0 mm) 30 c30_6 := rgN rfl
theorem c30_8_e : c30_8 = .seq c30_9 c30_10 := rfl
theorem c30_9_r : RG (E0 mm) 30 c30_9 := rgN rfl
theorem c30_10_e : c30_10 = .ret := rfl
theorem c30_11_e : c30_11 = .skip := rfl
theorem c30_12_e : c30_12 = .seq c30_13 c30_20 := rfl
theorem c30_13_e : c30_13 = .seq c30_14 c30_15 := rfl
theorem c30_14_r : RG (E0 mm) 30 c30_14 := rgN rfl
theorem c30_16_e : c30_16 = .seq c30_17 c30_18 := rfl
theorem c30_17_r : RG (E0 mm) 30 c30_17 := rgN rfl
theorem c30_18_e : c30_18 = .ret := rfl
theorem c30_19_e : c30_19 = .skip := rfl
theorem c30_20_e : c30_20 = .seq c30_21 c30_22 := rfl
theorem c30_21_r : RG (E0 mm) 30 c30_21 := rgN rfl
theorem c30_22_e : c30_22 = .seq c30_23 c30_30 := rfl
theorem c30_23_e : c30_23 = .seq c30_24 c30_25 := rfl
theorem c30_24_r : RG (E0 mm) 30 c30_24 := rgN rfl
theorem c30_26_e : c30_26 = .seq c30_27 c30_28 := rfl
theorem c30_27_r : RG (E0 mm) 30 c30_27 := rgN rfl
theorem c30_28_e : c30_28 = .ret := rfl
theorem c30_29_e : c30_29 = .skip := rfl
theorem c30_30_e : c30_30 = .seq c30_31 c30_32 := rfl
theorem c30_31_r : RG (E0 mm) 30 c30_31 := rgN rfl
theorem c30_32_e : c30_32 = .ret := rfl
abbrev R30 := (Bs × Bs × Bool)
def e30 : R30 → AV × Heap := fun x => (.tup [.c (.d (.sc (.string (S x.1)))), .c (.d (.sc (.string (S x.2.1)))), .c (.d (.sc (.bool x.2.2)))], [])
def j30_15 (name5 value6 : Bs) (t24 : Bool) : Option R30 :=
  if t24 = true then
    (m34 name5).bind fun yr11 =>
      some (yr11, value6, true)
  else
    (m45 value6).bind fun yr13 =>
      if yr13.2 = true then
        (m34 name5).bind fun yr16 =>
          some (yr16, yr13.1, true)
      else
        some (([] : Bs), ([] : Bs), false)
theorem j30_15_t (name5 value6 : Bs) (t24 : Bool)  (sl : Nat → AV) (zq5 : sl 5 = .v (.c (.d (.sc (.string (S name5)))))) (zq6 : sl 6 = .v (.c (.d (.sc (.string (S value6)))))) (zq24 : sl 24 = .v (.c (.d (.sc (.bool t24))))) :
    bodyD (E0 mm) [.tmp 2, .tmp 3, .tmp 4] 0 false (seqD (E0 mm) 30 0 (callW (E0 mm)) itW c30_20 (den (E0 mm) 30 0 (callW (E0 mm)) itW c30_15 none ⟨sl, []⟩)) = (j30_15 name5 value6 t24).map e30 := by
  simp -implicitDefEqProofs only [j30_15, (show c30_15 = Code.cond _ c30_16 c30_19 from rfl), zq5, zq6, zq24, setA, setB, za, zb, zc, zd, ze, zf, zg, zh, zi, zj, zk, zl, zm, zn, zo, zp, reduceCtorEq, zE, ↓reduceIte]
  refine brB (fun yc9 => ?_) (fun yc9 => ?_)
  · simp -implicitDefEqProofs only [c30_16_e, c30_17_r, (show opsOf c30_17 = _ :: _ from rfl), ent34, prm34, f34_t, zq5, zq6, zq24, yc9, setA, setB, za, zb, zc, zd, ze, zf, zg, zh, zi, zj, zk, zl, zm, zn, zo, zp, reduceCtorEq, zE, ↓reduceIte]
    refine brM (fun yc10 => ?_) (fun yr11 yc10 => ?_)
    · rw [yc10]; rfl
    · simp -implicitDefEqProofs only [e34, c30_18_e, zq5, zq6, zq24, yc9, yc10, setA, setB, za, zb, zc, zd, ze, zf, zg, zh, zi, zj, zk, zl, zm, zn, zo, zp, reduceCtorEq, zE, ↓reduceIte]
      all_goals rfl
  · simp -implicitDefEqProofs only [c30_19_e, c30_20_e, c30_21_r, (show opsOf c30_21 = _ :: _ from rfl), ent45, prm45, f45_t, zq5, zq6, zq24, yc9, setA, setB, za, zb, zc, zd, ze, zf, zg, zh, zi, zj, zk, zl, zm, zn, zo, zp, reduceCtorEq, zE, ↓reduceIte]
    refine brM (fun yc12 => ?_) (fun yr13 yc12 => ?_)
    · rw [yc12]; rfl
    · simp -implicitDefEqProofs only [e45, c30_22_e, c30_23_e, c30_24_r, (show opsOf c30_24 = _ :: _ from rfl), (show c30_25 = Code.cond _ c30_26 c30_29 from rfl), zq5, zq6, zq24, yc9, yc12, setA, setB, za, zb, zc, zd, ze, zf, zg, zh, zi, zj, zk, zl, zm, zn, zo, zp, reduceCtorEq, zE, ↓reduceIte]
      refine brB (fun yc14 => ?_) (fun yc14 => ?_)
      · simp -implicitDefEqProofs only [c30_29_e, c30_30_e, c30_31_r, (show opsOf c30_31 = _ :: _ from rfl), ent34, prm34, f34_t, zq5, zq6, zq24, yc9, yc12, yc14, setA, setB, za, zb, zc, zd, ze, zf, zg, zh, zi, zj, zk, zl, zm, zn, zo, zp, reduceCtorEq, zE, ↓reduceIte]
        refine brM (fun yc15 => ?_) (fun yr16 yc15 => ?_)
        · rw [yc15]; rfl
        · simp -implicitDefEqProofs only [e34, c30_32_e, zq5, zq6, zq24, yc9, yc12, yc14, yc15, setA, setB, za, zb, zc, zd, ze, zf, zg, zh, zi, zj, zk, zl, zm, zn, zo, zp, reduceCtorEq, zE, ↓reduceIte]
          all_goals rfl
      · simp -implicitDefEqProofs only [c30_26_e, c30_27_r, (show opsOf c30_27 = _ :: _ from rfl), c30_28_e, zq5, zq6, zq24, yc9, yc12, yc14, setA, setB, za, zb, zc, zd, ze, zf, zg, zh, zi, zj, zk, zl, zm, zn, zo, zp, reduceCtorEq, zE, ↓reduceIte]
        all_goals rfl
def m30 (s : Bs) : Option R30 :=
  (m43 s ([61] : Bs)).bind fun yr2 =>
    (m44 yr2.1).bind fun yr4 =>
      if yr4 = true then
        if yr2.2.2 = true then
          (m44 yr2.2.1).bind fun yr8 =>
            j30_15 yr2.1 yr2.2.1 yr8
        else
          j30_15 yr2.1 yr2.2.1 true
      else
        some (([] : Bs), ([] : Bs), false)
theorem f30_t (s : Bs) :
    callW (E0 mm) 30 [.c (.d (.sc (.string (S s))))] [] = (m30 s).map e30 := by
  rw [callW_run (body := c30_0) (res := [.tmp 2, .tmp 3, .tmp 4]) Tryd.func30 rfl rfl (by kernel_rfl)]
  simp -implicitDefEqProofs only [m30, slots1, c30_0_e, c30_1_r, (show opsOf c30_1 = _ :: _ from rfl), c30_2_e, c30_3_r, (show opsOf c30_3 = _ :: _ from rfl), ent43, prm43, (show callW (E0 mm) 43 [.c (.d (.sc (.string (S s)))), .c (.d (.sc (.string (S ([61] : Bs)))))] [] = _ from f43_t s ([61] : Bs)), setA, setB, za, zb, zc, zd, ze, zf, zg, zh, zi, zj, zk, zl, zm, zn, zo, zp, reduceCtorEq, zE, ↓reduceIte]
  refine brM (fun yc1 => ?_) (fun yr2 yc1 => ?_)
  · rw [yc1]; rfl
  · simp -implicitDefEqProofs only [e43, c30_4_e, c30_5_e, c30_6_r, (show opsOf c30_6 = _ :: _ from rfl), ent44, prm44, f44_t, yc1, setA, setB, za, zb, zc, zd, ze, zf, zg, zh, zi, zj, zk, zl, zm, zn, zo, zp, reduceCtorEq, zE, ↓reduceIte]
    refine brM (fun yc3 => ?_) (fun yr4 yc3 => ?_)
    · rw [yc3]; rfl
    · simp -implicitDefEqProofs only [e44, (show c30_7 = Code.cond _ c30_8 c30_11 from rfl), yc1, yc3, setA, setB, za, zb, zc, zd, ze, zf, zg, zh, zi, zj, zk, zl, zm, zn, zo, zp, reduceCtorEq, zE, ↓reduceIte]
      refine brB (fun yc5 => ?_) (fun yc5 => ?_)
      · simp -implicitDefEqProofs only [c30_11_e, c30_12_e, c30_13_e, c30_14_r, (show opsOf c30_14 = _ :: _ from rfl), yc1, yc3, yc5, setA, setB, za, zb, zc, zd, ze, zf, zg, zh, zi, zj, zk, zl, zm, zn, zo, zp, reduceCtorEq, zE, ↓reduceIte]
        refine brB (fun yc6 => ?_) (fun yc6 => ?_)
        · simp -implicitDefEqProofs only [ent44, prm44, f44_t, yc1, yc3, yc5, yc6, setA, setB, za, zb, zc, zd, ze, zf, zg, zh, zi, zj, zk, zl, zm, zn, zo, zp, reduceCtorEq, zE, ↓reduceIte]
          refine brM (fun yc7 => ?_) (fun yr8 yc7 => ?_)
          · rw [yc7]; rfl
          · simp -implicitDefEqProofs only [e44, yc1, yc3, yc5, yc6, yc7, setA, setB, za, zb, zc, zd, ze, zf, zg, zh, zi, zj, zk, zl, zm, zn, zo, zp, reduceCtorEq, zE, ↓reduceIte]
            exact j30_15_t yr2.1 yr2.2.1 yr8 _ (by rfl) (by rfl) (by rfl)
        · simp -implicitDefEqProofs only [yc1, yc3, yc5, yc6, setA, setB, za, zb, zc, zd, ze, zf, zg, zh, zi, zj, zk, zl, zm, zn, zo, zp, reduceCtorEq, zE, ↓reduceIte]
          exact j30_15_t yr2.1 yr2.2.1 true _ (by rfl) (by rfl) (by rfl)
      · simp -implicitDefEqProofs only [c30_8_e, c30_9_r, (show opsOf c30_9 = _ :: _ from rfl), c30_10_e, yc1, yc3, yc5, setA, setB, za, zb, zc, zd, ze, zf, zg, zh, zi, zj, zk, zl, zm, zn, zo, zp, reduceCtorEq, zE, ↓reduceIte]
        all_goals rfl
noncomputable def c20_0 : Code := bodyOf Tryd.f20
def c20_1 := cA c20_0
def c20_2 := cB c20_0
def c20_3 := cA c20_2
def c20_4 := cB c20_2
def c20_5 := cA c20_4
def c20_6 := cA c20_5
def c20_7 := cB c20_5
def c20_8 := cA c20_7
def c20_9 := cA c20_8
def c20_10 := cA c20_9
def c20_11 := cB c20_9
def c20_12 := cA c20_11
def c20_13 := cA c20_12
def c20_14 := cB c20_12
def c20_15 := cB c20_11
def c20_16 := cA c20_15
def c20_17 := cA c20_16
def c20_18 := cA c20_17
def c20_19 := cB c20_17
def c20_20 := cA c20_19
def c20_21 := cB c20_19
def c20_22 := cA c20_21
def c20_23 := cB c20_21
def c20_24 := cA c20_23
def c20_25 := cB c20_23
def c20_26 := cB c20_15
def c20_27 := cB c20_4
def c20_28 := cA c20_27
def c20_29 := cB c20_27
theorem c20_0_e : c20_0 = .seq c20_1 c20_2 := rfl
theorem c20_1_r : RG (E0 mm) 20 c20_1 := rgN rfl
theorem c20_2_e : c20_2 = .seq c20_3 c20_4 := rfl
theorem c20_3_r : RG (E0 mm) 20 c20_3 := rgN rfl
theorem c20_4_e : c20_4 = .seq c20_5 c20_27 := rfl
theorem c20_5_e : c20_5 = .seq c20_6 c20_7 := rfl
theorem c20_6_r : RG (E0 mm) 20 c20_6 := rgN rfl
theorem c20_7_e : c20_7 = .block 0 c20_8 := rfl
theorem c20_8_l (m : Nat) (st : St) : den (E0 mm) 20 m (callW (E0 mm)) itW c20_8 none st = loopD itW (loopF (E0 mm) 20 m (callW (E0 mm)) itW c20_9 [(3, .freeze), (11, .freeze), (12, .freeze), (13, .freeze)]) (canon m [(3, .freeze), (11, .freeze), (12, .freeze), (13, .freeze)] st) := rfl
theorem c20_9_e : c20_9 = .seq c20_10 c20_11 := rfl
theorem c20_10_r : RG (E0 mm) 20 c20_10 := rgN rfl
theorem c20_11_e : c20_11 = .seq c20_12 c20_15 := rfl
theorem c20_13_e : c20_13 = .skip := rfl
theorem c20_14_e : c20_14 = .exit 0 := rfl
theorem c20_15_e : c20_15 = .seq c20_16 c20_26 := rfl
theorem c20_16_e : c20_16 = .block 1 c20_17 := rfl
theorem c20_17_e : c20_17 = .seq c20_18 c20_19 := rfl
theorem c20_18_r : RG (E0 mm) 20 c20_18 := rgN rfl
theorem c20_19_e : c20_19 = .seq c20_20 c20_21 := rfl
theorem c20_20_r : RG (E0 mm) 20 c20_20 := rgN rfl
theorem c20_21_e : c20_21 = .seq c20_22 c20_23 := rfl
theorem c20_22_r : RG (E0 mm) 20 c20_22 := rgN rfl
theorem c20_24_r : RG (E0 mm) 20 c20_24 := rgN rfl
theorem c20_25_e : c20_25 = .skip := rfl
theorem c20_26_r : RG (E0 mm) 20 c20_26 := rgN rfl
theorem c20_27_e : c20_27 = .seq c20_28 c20_29 := rfl
theorem c20_28_r : RG (E0 mm) 20 c20_28 := rgN rfl
theorem c20_29_e : c20_29 = .ret := rfl
abbrev R20 := (List (Bs × List Bs))
def e20 : R20 → AV × Heap := fun x => (.v (.c (.mp 0)), [.amap (enM x)])
def K20_8 : Option (Ex × St) → Option (AV × Heap) := fun r => bodyD (E0 mm) [.tmp 2] 0 false (seqD (E0 mm) 20 0 (callW (E0 mm)) itW c20_27 (blockD 0 (r)))
def en20_8 : (Bool × List Bs × Int × Int × Kvs) → X := fun x => (none, [.v (.c (.mp 0)), .v (.c (.d (.lst x.1 (enL enS x.2.1)))), .v (.c (.d (.sc (.int .i64 x.2.2.1)))), .v (.c (.d (.sc (.int .i64 x.2.2.2.1))))], (HO x.2.2.2.2))
def j20_26 (t11_0 : Bool) (t11_1 : List Bs) (t12 t13 : Int) (kv0 : Kvs) : Option ((Bool × List Bs × Int × Int × Kvs) ⊕ R20) :=
  some (.inl (t11_0, t11_1, t12, (w64 (t13 + 1)), kv0))
theorem j20_26_t (t11_0 : Bool) (t11_1 : List Bs) (t12 t13 : Int) (kv0 : Kvs)  (sl : Nat → AV) (zq3 : sl 3 = .v (.c (.mp 0))) (zq11 : sl 11 = .v (.c (.d (.lst t11_0 (enL enS t11_1))))) (zq12 : sl 12 = .v (.c (.d (.sc (.int .i64 t12))))) (zq13 : sl 13 = .v (.c (.d (.sc (.int .i64 t13))))) :
    stepE (K20_8 (mm := mm)) (loopK 0 [(3, .freeze), (11, .freeze), (12, .freeze), (13, .freeze)] (den (E0 mm) 20 0 (callW (E0 mm)) itW c20_26 none ⟨sl, (HO kv0)⟩)) = (j20_26 t11_0 t11_1 t12 t13 kv0).map (sm en20_8 e20) := by
  simp -implicitDefEqProofs only [j20_26, c20_26_r, (show opsOf c20_26 = _ :: _ from rfl), closeHO_c, renHO, idxHO0, zq3, zq11, zq12, zq13, setA, setB, za, zb, zc, zd, ze, zf, zg, zh, zi, zj, zk, zl, zm, zn, zo, zp, reduceCtorEq, zE, ↓reduceIte]
  all_goals rfl
def j20_27 (kv0 : Kvs) : Option R20 :=
  some kv0
theorem j20_27_t (kv0 : Kvs)  (sl : Nat → AV) (zq3 : sl 3 = .v (.c (.mp 0))) :
    bodyD (E0 mm) [.tmp 2] 0 false (den (E0 mm) 20 0 (callW (E0 mm)) itW c20_27 none ⟨sl, (HO kv0)⟩) = (j20_27 kv0).map e20 := by
  simp -implicitDefEqProofs only [j20_27, c20_27_e, c20_28_r, (show opsOf c20_28 = _ :: _ from rfl), c20_29_e, frzHO, closeHF_c, HF_0, zq3, setA, setB, za, zb, zc, zd, ze, zf, zg, zh, zi, zj, zk, zl, zm, zn, zo, zp, reduceCtorEq, zE, ↓reduceIte]
  all_goals rfl
def s20_8 (t11_0 : Bool) (t11_1 : List Bs) (t12 t13 : Int) (kv0 : Kvs) : Option ((Bool × List Bs × Int × Int × Kvs) ⊕ R20) :=
  if (decide (t13 < t12)) = true then
    if 0 ≤ t13 ∧ t13 < (t11_1.length : Int) then
      (m30 (t11_1.getD t13.toNat default)).bind fun yr7 =>
        if yr7.2.2 = true then
          if (hasM yr7.1 kv0) = true then
            if ((valM yr7.1 kv0).length + 1) * 16 ≤ 140737488355328 then
              j20_26 t11_0 t11_1 t12 t13 (appM yr7.1 yr7.2.1 kv0)
            else none
          else
            j20_26 t11_0 t11_1 t12 t13 (kv0 ++ [(yr7.1, [yr7.2.1])])
        else
          j20_26 t11_0 t11_1 t12 t13 kv0
    else none
  else
    (j20_27 kv0).map .inr
theorem s20_8_t (t11_0 : Bool) (t11_1 : List Bs) (t12 t13 : Int) (kv0 : Kvs) :
    stepE (K20_8 (mm := mm)) (loopF (E0 mm) 20 0 (callW (E0 mm)) itW c20_9 [(3, .freeze), (11, .freeze), (12, .freeze), (13, .freeze)] (none, [.v (.c (.mp 0)), .v (.c (.d (.lst t11_0 (enL enS t11_1)))), .v (.c (.d (.sc (.int .i64 t12)))), .v (.c (.d (.sc (.int .i64 t13))))], (HO kv0))) = (s20_8 t11_0 t11_1 t12 t13 kv0).map (sm en20_8 e20) := by
  simp -implicitDefEqProofs only [s20_8, loopF_eq, c20_9_e, c20_10_r, (show opsOf c20_10 = _ :: _ from rfl), c20_11_e, (show c20_12 = Code.cond _ c20_13 c20_14 from rfl), setA, setB, za, zb, zc, zd, ze, zf, zg, zh, zi, zj, zk, zl, zm, zn, zo, zp, reduceCtorEq, zE, ↓reduceIte]
  refine brB (fun yc3 => ?_) (fun yc3 => ?_)
  · simp -implicitDefEqProofs only [c20_13_e, c20_15_e, c20_16_e, c20_17_e, c20_18_r, (show opsOf c20_18 = _ :: _ from rfl), Tryd.underlying41, sz9, enS_a, yc3, setA, setB, za, zb, zc, zd, ze, zf, zg, zh, zi, zj, zk, zl, zm, zn, zo, zp, reduceCtorEq, zE, ↓reduceIte]
    refine brP (fun yc4 => ?_) (fun yc4 => ?_)
    · have yd5 : t13.toNat < t11_1.length := by omega
      simp -implicitDefEqProofs only [(enL_get enS t11_1 t13.toNat yd5), enS_e, sz9, ag9, c20_19_e, c20_20_r, (show opsOf c20_20 = _ :: _ from rfl), ent30, prm30, f30_t, yc3, yc4, yd5, setA, setB, za, zb, zc, zd, ze, zf, zg, zh, zi, zj, zk, zl, zm, zn, zo, zp, reduceCtorEq, zE, ↓reduceIte]
      refine brM (fun yc6 => ?_) (fun yr7 yc6 => ?_)
      · rw [yc6]; rfl
      · simp -implicitDefEqProofs only [e30, c20_21_e, c20_22_r, (show opsOf c20_22 = _ :: _ from rfl), (show c20_23 = Code.cond _ c20_24 c20_25 from rfl), yc3, yc4, yd5, yc6, setA, setB, za, zb, zc, zd, ze, zf, zg, zh, zi, zj, zk, zl, zm, zn, zo, zp, reduceCtorEq, zE, ↓reduceIte]
        refine brB (fun yc8 => ?_) (fun yc8 => ?_)
        · simp -implicitDefEqProofs only [c20_24_r, (show opsOf c20_24 = _ :: _ from rfl), Tryd.underlying59, Tryd.underlying9, zv41, HO_0, yc3, yc4, yd5, yc6, yc8, setA, setB, za, zb, zc, zd, ze, zf, zg, zh, zi, zj, zk, zl, zm, zn, zo, zp, reduceCtorEq, zE, ↓reduceIte]
          refine brB (fun yc9 => ?_) (fun yc9 => ?_)
          · simp -implicitDefEqProofs only [HO_0, findO, Option.getD_some, Option.getD_none, Tryd.underlying41, sz9, zc9, hd35, nv36, rw37, ns20, ao41O, yc3, yc4, yd5, yc6, yc8, yc9, setA, setB, za, zb, zc, zd, ze, zf, zg, zh, zi, zj, zk, zl, zm, zn, zo, zp, reduceCtorEq, zE, ↓reduceIte]
            refine brP (fun yc10 => ?_) (fun yc10 => ?_)
            · simp -implicitDefEqProofs only [ao41O, HO_s0, HO_put, findO, Tryd.underlying59, Tryd.underlying9, yc3, yc4, yd5, yc6, yc8, yc9, yc10, setA, setB, za, zb, zc, zd, ze, zf, zg, zh, zi, zj, zk, zl, zm, zn, zo, zp, reduceCtorEq, zE, ↓reduceIte]
              exact j20_26_t t11_0 t11_1 t12 t13 (appM yr7.1 yr7.2.1 kv0) _ (by rfl) (by rfl) (by rfl) (by rfl)
            · rw [if_neg yc10]; rfl
          · simp -implicitDefEqProofs only [HO_0, findO0, Option.getD_some, Option.getD_none, Tryd.underlying41, sz9, zc9, hd35, nv36, rw37, ns20, ao41O0, HO_a0, HO_put0, Tryd.underlying59, Tryd.underlying9, yc3, yc4, yd5, yc6, yc8, yc9, setA, setB, za, zb, zc, zd, ze, zf, zg, zh, zi, zj, zk, zl, zm, zn, zo, zp, reduceCtorEq, zE, ↓reduceIte]
            exact j20_26_t t11_0 t11_1 t12 t13 (kv0 ++ [(yr7.1, [yr7.2.1])]) _ (by rfl) (by rfl) (by rfl) (by rfl)
        · simp -implicitDefEqProofs only [c20_25_e, yc3, yc4, yd5, yc6, yc8, setA, setB, za, zb, zc, zd, ze, zf, zg, zh, zi, zj, zk, zl, zm, zn, zo, zp, reduceCtorEq, zE, ↓reduceIte]
          exact j20_26_t t11_0 t11_1 t12 t13 kv0 _ (by rfl) (by rfl) (by rfl) (by rfl)
    · rw [if_neg yc4]; rfl
  · simp -implicitDefEqProofs only [c20_14_e, K20_8, yc3, setA, setB, za, zb, zc, zd, ze, zf, zg, zh, zi, zj, zk, zl, zm, zn, zo, zp, reduceCtorEq, zE, ↓reduceIte]
    exact mi (j20_27_t kv0 _ (by rfl))
def l20_8 (t11_0 : Bool) (t11_1 : List Bs) (t12 t13 : Int) (kv0 : Kvs) : Option R20 := iter (fun x : (Bool × List Bs × Int × Int × Kvs) => s20_8 x.1 x.2.1 x.2.2.1 x.2.2.2.1 x.2.2.2.2) (t11_0, t11_1, t12, t13, kv0)
theorem l20_8_t (t11_0 : Bool) (t11_1 : List Bs) (t12 t13 : Int) (kv0 : Kvs) : bodyD (E0 mm) [.tmp 2] 0 false (seqD (E0 mm) 20 0 (callW (E0 mm)) itW c20_27 (blockD 0 (itW (loopF (E0 mm) 20 0 (callW (E0 mm)) itW c20_9 [(3, .freeze), (11, .freeze), (12, .freeze), (13, .freeze)]) (none, [.v (.c (.mp 0)), .v (.c (.d (.lst t11_0 (enL enS t11_1)))), .v (.c (.d (.sc (.int .i64 t12)))), .v (.c (.d (.sc (.int .i64 t13))))], (HO kv0))))) = (l20_8 t11_0 t11_1 t12 t13 kv0).map e20 :=
  it_sim (K := (K20_8 (mm := mm))) rfl (enc := en20_8) (fun x => s20_8_t x.1 x.2.1 x.2.2.1 x.2.2.2.1 x.2.2.2.2) (t11_0, t11_1, t12, t13, kv0)
def m20 (l_0 : Bool) (l_1 : List (Bs × Bs)) : Option R20 :=
  (m29 l_0 l_1 ([99, 97, 99, 104, 101, 45, 99, 111, 110, 116, 114, 111, 108] : Bs)).bind fun yr2 =>
    l20_8 yr2.1 yr2.2 (yr2.2.length : Int) (0 : Int) ([] : Kvs)
theorem f20_t (l_0 : Bool) (l_1 : List (Bs × Bs)) :
    callW (E0 mm) 20 [.c (.d (.lst l_0 (enL enSS l_1)))] [] = (m20 l_0 l_1).map e20 := by
  rw [callW_run (body := c20_0) (res := [.tmp 2]) Tryd.func20 rfl rfl (by kernel_rfl)]
  simp -implicitDefEqProofs only [m20, slots1, c20_0_e, c20_1_r, (show opsOf c20_1 = _ :: _ from rfl), c20_2_e, c20_3_r, (show opsOf c20_3 = _ :: _ from rfl), c20_4_e, c20_5_e, c20_6_r, (show opsOf c20_6 = _ :: _ from rfl), ent29, prm29, (show callW (E0 mm) 29 [.c (.d (.lst l_0 (enL enSS l_1))), .c (.d (.sc (.string (S ([99, 97, 99, 104, 101, 45, 99, 111, 110, 116, 114, 111, 108] : Bs)))))] [] = _ from f29_t l_0 l_1 ([99, 97, 99, 104, 101, 45, 99, 111, 110, 116, 114, 111, 108] : Bs)), setA, setB, za, zb, zc, zd, ze, zf, zg, zh, zi, zj, zk, zl, zm, zn, zo, zp, reduceCtorEq, zE, ↓reduceIte]
  refine brM (fun yc1 => ?_) (fun yr2 yc1 => ?_)
  · rw [yc1]; rfl
  · simp -implicitDefEqProofs only [e29, Tryd.underlying41, c20_7_e, c20_8_l, yc1, setA, setB, za, zb, zc, zd, ze, zf, zg, zh, zi, zj, zk, zl, zm, zn, zo, zp, reduceCtorEq, zE, ↓reduceIte]
    exact l20_8_t yr2.1 yr2.2 (yr2.2.length : Int) (0 : Int) ([] : Kvs)
noncomputable def c32_0 : Code := bodyOf Tryd.f32
def c32_1 := cA c32_0
def c32_2 := cB c32_0
def c32_3 := cA c32_2
def c32_4 := cB c32_2
def c32_5 := cA c32_4
def c32_6 := cB c32_4
theorem c32_0_e : c32_0 = .seq c32_1 c32_2 := rfl
theorem c32_1_r : RG (E0 mm) 32 c32_1 := rgN rfl
theorem c32_2_e : c32_2 = .seq c32_3 c32_4 := rfl
theorem c32_3_r : RG (E0 mm) 32 c32_3 := rgN rfl
theorem c32_4_e : c32_4 = .seq c32_5 c32_6 := rfl
theorem c32_5_r : RG (E0 mm) 32 c32_5 := rgN rfl
theorem c32_6_e : c32_6 = .ret := rfl
abbrev R32 := (Bool)
def e32 (gm1 : List (Bs × List Bs)) : R32 → AV × Heap := fun x => (.v (.c (.d (.sc (.bool x)))), [.cells [.mp 1], .amap (enM gm1)])
def m32 (name : Bs) (gm1 : List (Bs × List Bs)) : Option R32 :=
  some (hasM name gm1)
theorem f32_t (name : Bs) (gm1 : List (Bs × List Bs)) :
    callW (E0 mm) 32 [.c (.d (.sc (.string (S name)))), .c (.ptr 0 0)] [.cells [.mp 1], .amap (enM gm1)] = (m32 name gm1).map (e32 gm1) := by
  rw [callW_run (body := c32_0) (res := [.tmp 3]) Tryd.func32 rfl rfl (by kernel_rfl)]
  simp -implicitDefEqProofs only [m32, slots2, c32_0_e, c32_1_r, (show opsOf c32_1 = _ :: _ from rfl), c32_2_e, c32_3_r, (show opsOf c32_3 = _ :: _ from rfl), sz59, ag59, Tryd.underlying59, Tryd.underlying9, zv41, c32_4_e, c32_5_r, (show opsOf c32_5 = _ :: _ from rfl), c32_6_e, setA, setB, za, zb, zc, zd, ze, zf, zg, zh, zi, zj, zk, zl, zm, zn, zo, zp, reduceCtorEq, zE, ↓reduceIte]
  all_goals rfl
noncomputable def c46_0 : Code := bodyOf Tryd.f46
def c46_1 := cA c46_0
def c46_2 := cB c46_0
def c46_3 := cA c46_2
def c46_4 := cA c46_3
def c46_5 := cB c46_3
def c46_6 := cA c46_5
def c46_7 := cA c46_6
def c46_8 := cA c46_7
def c46_9 := cB c46_7
def c46_10 := cA c46_9
def c46_11 := cA c46_10
def c46_12 := cB c46_10
def c46_13 := cB c46_9
def c46_14 := cA c46_13
def c46_15 := cA c46_14
def c46_16 := cA c46_15
def c46_17 := cB c46_15
def c46_18 := cA c46_17
def c46_19 := cB c46_17
def c46_20 := cA c46_19
def c46_21 := cA c46_20
def c46_22 := cB c46_20
def c46_23 := cB c46_19
def c46_24 := cB c46_13
def c46_25 := cB c46_2
def c46_26 := cA c46_25
def c46_27 := cB c46_25
theorem c46_0_e : c46_0 = .seq c46_1 c46_2 := rfl
theorem c46_1_r : RG (E0 mm) 46 c46_1 := rgN rfl
theorem c46_2_e : c46_2 = .seq c46_3 c46_25 := rfl
theorem c46_3_e : c46_3 = .seq c46_4 c46_5 := rfl
theorem c46_4_r : RG (E0 mm) 46 c46_4 := rgN rfl
theorem c46_5_e : c46_5 = .block 0 c46_6 := rfl
theorem c46_6_l (m : Nat) (st : St) : den (E0 mm) 46 m (callW (E0 mm)) itW c46_6 none st = loopD itW (loopF (E0 mm) 46 m (callW (E0 mm)) itW c46_7 [(0, .keep), (1, .keep), (7, .keep), (8, .keep)]) (canon m [(0, .keep), (1, .keep), (7, .keep), (8, .keep)] st) := rfl
theorem c46_7_e : c46_7 = .seq c46_8 c46_9 := rfl
theorem c46_8_r : RG (E0 mm) 46 c46_8 := rgN rfl
theorem c46_9_e : c46_9 = .seq c46_10 c46_13 := rfl
theorem c46_11_e : c46_11 = .skip := rfl
theorem c46_12_e : c46_12 = .exit 0 := rfl
theorem c46_13_e : c46_13 = .seq c46_14 c46_24 := rfl
theorem c46_14_e : c46_14 = .block 1 c46_15 := rfl
theorem c46_15_e : c46_15 = .seq c46_16 c46_17 := rfl
theorem c46_16_r : RG (E0 mm) 46 c46_16 := rgN rfl
theorem c46_17_e : c46_17 = .seq c46_18 c46_19 := rfl
theorem c46_18_r : RG (E0 mm) 46 c46_18 := rgN rfl
theorem c46_20_e : c46_20 = .seq c46_21 c46_22 := rfl
theorem c46_21_r : RG (E0 mm) 46 c46_21 := rgN rfl
theorem c46_22_e : c46_22 = .ret := rfl
theorem c46_23_e : c46_23 = .skip := rfl
theorem c46_24_r : RG (E0 mm) 46 c46_24 := rgN rfl
theorem c46_25_e : c46_25 = .seq c46_26 c46_27 := rfl
theorem c46_26_r : RG (E0 mm) 46 c46_26 := rgN rfl
theorem c46_27_e : c46_27 = .ret := rfl
abbrev R46 := (Int)
def e46 (gm1 : List (Bs × List Bs)) : R46 → AV × Heap := fun x => (.v (.c (.d (.sc (.int .i64 x)))), [.cells [.mp 1], .amap (enM gm1)])
def K46_6 : Option (Ex × St) → Option (AV × Heap) := fun r => bodyD (E0 mm) [.tmp 4] 2 false (seqD (E0 mm) 46 2 (callW (E0 mm)) itW c46_25 (blockD 0 (r)))
def en46_6 (gm1 : List (Bs × List Bs)) : (Bool × List Bs × Int × Int) → X := fun x => (none, [.v (.c (.d (.lst x.1 (enL enS x.2.1)))), .v (.c (.fn 32 [(0, 0)])), .v (.c (.d (.sc (.int .i64 x.2.2.1)))), .v (.c (.d (.sc (.int .i64 x.2.2.2))))], [.cells [.mp 1], .amap (enM gm1)])
def j46_25 (gm1 : List (Bs × List Bs))  : Option R46 :=
  some (-1 : Int)
theorem j46_25_t (gm1 : List (Bs × List Bs))   (sl : Nat → AV)  :
    bodyD (E0 mm) [.tmp 4] 2 false (den (E0 mm) 46 2 (callW (E0 mm)) itW c46_25 none ⟨sl, [.cells [.mp 1], .amap (enM gm1)]⟩) = (j46_25 gm1).map (e46 gm1) := by
  simp -implicitDefEqProofs only [j46_25, c46_25_e, c46_26_r, (show opsOf c46_26 = _ :: _ from rfl), c46_27_e, setA, setB, za, zb, zc, zd, ze, zf, zg, zh, zi, zj, zk, zl, zm, zn, zo, zp, reduceCtorEq, zE, ↓reduceIte]
  all_goals rfl
def s46_6 (gm1 : List (Bs × List Bs)) (s0_0 : Bool) (s0_1 : List Bs) (t7 t8 : Int) : Option ((Bool × List Bs × Int × Int) ⊕ R46) :=
  if (decide (t8 < t7)) = true then
    if 0 ≤ t8 ∧ t8 < (s0_1.length : Int) then
      (m32 (s0_1.getD t8.toNat default) gm1).bind fun yr5 =>
        if yr5 = true then
          some (.inr t8)
        else
          some (.inl (s0_0, s0_1, t7, (w64 (t8 + 1))))
    else none
  else
    (j46_25 gm1).map .inr
theorem s46_6_t (gm1 : List (Bs × List Bs)) (s0_0 : Bool) (s0_1 : List Bs) (t7 t8 : Int) :
    stepE (K46_6 (mm := mm)) (loopF (E0 mm) 46 2 (callW (E0 mm)) itW c46_7 [(0, .keep), (1, .keep), (7, .keep), (8, .keep)] (none, [.v (.c (.d (.lst s0_0 (enL enS s0_1)))), .v (.c (.fn 32 [(0, 0)])), .v (.c (.d (.sc (.int .i64 t7)))), .v (.c (.d (.sc (.int .i64 t8))))], [.cells [.mp 1], .amap (enM gm1)])) = (s46_6 gm1 s0_0 s0_1 t7 t8).map (sm (en46_6 gm1) (e46 gm1)) := by
  simp -implicitDefEqProofs only [s46_6, loopF_eq, c46_7_e, c46_8_r, (show opsOf c46_8 = _ :: _ from rfl), c46_9_e, (show c46_10 = Code.cond _ c46_11 c46_12 from rfl), setA, setB, za, zb, zc, zd, ze, zf, zg, zh, zi, zj, zk, zl, zm, zn, zo, zp, reduceCtorEq, zE, ↓reduceIte]
  refine brB (fun yc1 => ?_) (fun yc1 => ?_)
  · simp -implicitDefEqProofs only [c46_11_e, c46_13_e, c46_14_e, c46_15_e, c46_16_r, (show opsOf c46_16 = _ :: _ from rfl), c46_17_e, c46_18_r, (show opsOf c46_18 = _ :: _ from rfl), Tryd.underlying41, sz9, enS_a, yc1, setA, setB, za, zb, zc, zd, ze, zf, zg, zh, zi, zj, zk, zl, zm, zn, zo, zp, reduceCtorEq, zE, ↓reduceIte]
    refine brP (fun yc2 => ?_) (fun yc2 => ?_)
    · have yd3 : t8.toNat < s0_1.length := by omega
      simp -implicitDefEqProofs only [(enL_get enS s0_1 t8.toNat yd3), enS_e, sz9, ag9, ent32, prm32, f32_t, yc1, yc2, yd3, setA, setB, za, zb, zc, zd, ze, zf, zg, zh, zi, zj, zk, zl, zm, zn, zo, zp, reduceCtorEq, zE, ↓reduceIte]
      refine brM (fun yc4 => ?_) (fun yr5 yc4 => ?_)
      · rw [yc4]; rfl
      · simp -implicitDefEqProofs only [e32, (show c46_19 = Code.cond _ c46_20 c46_23 from rfl), yc1, yc2, yd3, yc4, setA, setB, za, zb, zc, zd, ze, zf, zg, zh, zi, zj, zk, zl, zm, zn, zo, zp, reduceCtorEq, zE, ↓reduceIte]
        refine brB (fun yc6 => ?_) (fun yc6 => ?_)
        · simp -implicitDefEqProofs only [c46_20_e, c46_21_r, (show opsOf c46_21 = _ :: _ from rfl), c46_22_e, K46_6, yc1, yc2, yd3, yc4, yc6, setA, setB, za, zb, zc, zd, ze, zf, zg, zh, zi, zj, zk, zl, zm, zn, zo, zp, reduceCtorEq, zE, ↓reduceIte]
          all_goals rfl
        · simp -implicitDefEqProofs only [c46_23_e, c46_24_r, (show opsOf c46_24 = _ :: _ from rfl), yc1, yc2, yd3, yc4, yc6, setA, setB, za, zb, zc, zd, ze, zf, zg, zh, zi, zj, zk, zl, zm, zn, zo, zp, reduceCtorEq, zE, ↓reduceIte]
          all_goals rfl
    · rw [if_neg yc2]; rfl
  · simp -implicitDefEqProofs only [c46_12_e, K46_6, yc1, setA, setB, za, zb, zc, zd, ze, zf, zg, zh, zi, zj, zk, zl, zm, zn, zo, zp, reduceCtorEq, zE, ↓reduceIte]
    exact mi (j46_25_t gm1 _)
def l46_6 (gm1 : List (Bs × List Bs)) (s0_0 : Bool) (s0_1 : List Bs) (t7 t8 : Int) : Option R46 := iter (fun x : (Bool × List Bs × Int × Int) => s46_6 gm1 x.1 x.2.1 x.2.2.1 x.2.2.2) (s0_0, s0_1, t7, t8)
theorem l46_6_t (gm1 : List (Bs × List Bs)) (s0_0 : Bool) (s0_1 : List Bs) (t7 t8 : Int) : bodyD (E0 mm) [.tmp 4] 2 false (seqD (E0 mm) 46 2 (callW (E0 mm)) itW c46_25 (blockD 0 (itW (loopF (E0 mm) 46 2 (callW (E0 mm)) itW c46_7 [(0, .keep), (1, .keep), (7, .keep), (8, .keep)]) (none, [.v (.c (.d (.lst s0_0 (enL enS s0_1)))), .v (.c (.fn 32 [(0, 0)])), .v (.c (.d (.sc (.int .i64 t7)))), .v (.c (.d (.sc (.int .i64 t8))))], [.cells [.mp 1], .amap (enM gm1)])))) = (l46_6 gm1 s0_0 s0_1 t7 t8).map (e46 gm1) :=
  it_sim (K := (K46_6 (mm := mm))) rfl (enc := (en46_6 gm1)) (fun x => s46_6_t gm1 x.1 x.2.1 x.2.2.1 x.2.2.2) (s0_0, s0_1, t7, t8)
def m46 (s_0 : Bool) (s_1 : List Bs) (gm1 : List (Bs × List Bs)) : Option R46 :=
  l46_6 gm1 s_0 s_1 (s_1.length : Int) (0 : Int)
theorem f46_t (s_0 : Bool) (s_1 : List Bs) (gm1 : List (Bs × List Bs)) :
    callW (E0 mm) 46 [.c (.d (.lst s_0 (enL enS s_1))), .c (.fn 32 [(0, 0)])] [.cells [.mp 1], .amap (enM gm1)] = (m46 s_0 s_1 gm1).map (e46 gm1) := by
  rw [callW_run (body := c46_0) (res := [.tmp 4]) Tryd.func46 rfl rfl (by kernel_rfl)]
  simp -implicitDefEqProofs only [m46, slots2, c46_0_e, c46_1_r, (show opsOf c46_1 = _ :: _ from rfl), c46_2_e, c46_3_e, c46_4_r, (show opsOf c46_4 = _ :: _ from rfl), Tryd.underlying41, c46_5_e, c46_6_l, setA, setB, za, zb, zc, zd, ze, zf, zg, zh, zi, zj, zk, zl, zm, zn, zo, zp, reduceCtorEq, zE, ↓reduceIte]
  exact l46_6_t gm1 s_0 s_1 (s_1.length : Int) (0 : Int)
noncomputable def c31_0 : Code := bodyOf Tryd.f31
def c31_1 := cA c31_0
def c31_2 := cB c31_0
def c31_3 := cA c31_2
def c31_4 := cB c31_2
theorem c31_0_e : c31_0 = .seq c31_1 c31_2 := rfl
theorem c31_1_r : RG (E0 mm) 31 c31_1 := rgN rfl
theorem c31_2_e : c31_2 = .seq c31_3 c31_4 := rfl
theorem c31_3_r : RG (E0 mm) 31 c31_3 := rgN rfl
theorem c31_4_e : c31_4 = .ret := rfl
abbrev R31 := (Bool)
def e31 (gm1 : List (Bs × List Bs)) : R31 → AV × Heap := fun x => (.v (.c (.d (.sc (.bool x)))), [.cells [.mp 1], .amap (enM gm1)])
def m31 (s_0 : Bool) (s_1 : List Bs) (gm1 : List (Bs × List Bs)) : Option R31 :=
  (m46 s_0 s_1 gm1).bind fun yr2 =>
    some (decide (0 ≤ yr2))
theorem f31_t (s_0 : Bool) (s_1 : List Bs) (gm1 : List (Bs × List Bs)) :
    callW (E0 mm) 31 [.c (.d (.lst s_0 (enL enS s_1))), .c (.fn 32 [(0, 0)])] [.cells [.mp 1], .amap (enM gm1)] = (m31 s_0 s_1 gm1).map (e31 gm1) := by
  rw [callW_run (body := c31_0) (res := [.tmp 4]) Tryd.func31 rfl rfl (by kernel_rfl)]
  simp -implicitDefEqProofs only [m31, slots2, c31_0_e, c31_1_r, (show opsOf c31_1 = _ :: _ from rfl), c31_2_e, c31_3_r, (show opsOf c31_3 = _ :: _ from rfl), ent46, prm46, f46_t, setA, setB, za, zb, zc, zd, ze, zf, zg, zh, zi, zj, zk, zl, zm, zn, zo, zp, reduceCtorEq, zE, ↓reduceIte]
  refine brM (fun yc1 => ?_) (fun yr2 yc1 => ?_)
  · rw [yc1]; rfl
  · simp -implicitDefEqProofs only [e46, c31_4_e, yc1, setA, setB, za, zb, zc, zd, ze, zf, zg, zh, zi, zj, zk, zl, zm, zn, zo, zp, reduceCtorEq, zE, ↓reduceIte]
    all_goals rfl
noncomputable def c21_0 : Code := bodyOf Tryd.f21
def c21_1 := cA c21_0
def c21_2 := cB c21_0
def c21_3 := cA c21_2
def c21_4 := cB c21_2
theorem c21_0_e : c21_0 = .seq c21_1 c21_2 := rfl
theorem c21_1_r : RG (E0 mm) 21 c21_1 := rgN rfl
theorem c21_2_e : c21_2 = .seq c21_3 c21_4 := rfl
theorem c21_3_r : RG (E0 mm) 21 c21_3 := rgN rfl
theorem c21_4_e : c21_4 = .ret := rfl
abbrev R21 := (Bool)
def e21 (gm0 : List (Bs × List Bs)) : R21 → AV × Heap := fun x => (.v (.c (.d (.sc (.bool x)))), [.amap (enM gm0)])
def m21 (names_0 : Bool) (names_1 : List Bs) (gm0 : List (Bs × List Bs)) : Option R21 :=
  (m31 names_0 names_1 gm0).bind fun yr2 =>
    some yr2
theorem f21_t (names_0 : Bool) (names_1 : List Bs) (gm0 : List (Bs × List Bs)) :
    callW (E0 mm) 21 [.c (.mp 0), .c (.d (.lst names_0 (enL enS names_1)))] [.amap (enM gm0)] = (m21 names_0 names_1 gm0).map (e21 gm0) := by
  rw [callW_run (body := c21_0) (res := [.tmp 4]) Tryd.func21 rfl rfl (by kernel_rfl)]
  simp -implicitDefEqProofs only [m21, slots2, c21_0_e, c21_1_r, (show opsOf c21_1 = _ :: _ from rfl), c21_2_e, c21_3_r, (show opsOf c21_3 = _ :: _ from rfl), ent31, prm31, f31_t, setA, setB, za, zb, zc, zd, ze, zf, zg, zh, zi, zj, zk, zl, zm, zn, zo, zp, reduceCtorEq, zE, ↓reduceIte]
  refine brM (fun yc1 => ?_) (fun yr2 yc1 => ?_)
  · rw [yc1]; rfl
  · simp -implicitDefEqProofs only [e31, c21_4_e, yc1, setA, setB, za, zb, zc, zd, ze, zf, zg, zh, zi, zj, zk, zl, zm, zn, zo, zp, reduceCtorEq, zE, ↓reduceIte]
    all_goals rfl
noncomputable def c41_0 : Code := bodyOf Tryd.f41
def c41_1 := cA c41_0
def c41_2 := cB c41_0
def c41_3 := cA c41_2
def c41_4 := cA c41_3
def c41_5 := cB c41_3
def c41_6 := cA c41_5
def c41_7 := cA c41_6
def c41_8 := cB c41_6
def c41_9 := cB c41_5
def c41_10 := cB c41_2
def c41_11 := cA c41_10
def c41_12 := cB c41_10
theorem c41_0_e : c41_0 = .seq c41_1 c41_2 := rfl
theorem c41_1_r : RG (E0 mm) 41 c41_1 := rgN rfl
theorem c41_2_e : c41_2 = .seq c41_3 c41_10 := rfl
theorem c41_3_e : c41_3 = .seq c41_4 c41_5 := rfl
theorem c41_4_r : RG (E0 mm) 41 c41_4 := rgN rfl
theorem c41_6_e : c41_6 = .seq c41_7 c41_8 := rfl
theorem c41_7_r : RG (E0 mm) 41 c41_7 := rgN rfl
theorem c41_8_e : c41_8 = .ret := rfl
theorem c41_9_e : c41_9 = .skip := rfl
theorem c41_10_e : c41_10 = .seq c41_11 c41_12 := rfl
theorem c41_11_r : RG (E0 mm) 41 c41_11 := rgN rfl
theorem c41_12_e : c41_12 = .ret := rfl
abbrev R41 := (Int)
def e41 : R41 → AV × Heap := fun x => (.v (.c (.d (.sc (.int .i64 x)))), [])
def j41_5 (c0 : Int) (t8 : Bool) : Option R41 :=
  if t8 = true then
    some (w64 (w32 (c0 - 48)))
  else
    some (-1 : Int)
theorem j41_5_t (c0 : Int) (t8 : Bool)  (sl : Nat → AV) (zq0 : sl 0 = .v (.c (.d (.sc (.int .i32 c0))))) (zq8 : sl 8 = .v (.c (.d (.sc (.bool t8))))) :
    bodyD (E0 mm) [.tmp 2] 0 false (seqD (E0 mm) 41 0 (callW (E0 mm)) itW c41_10 (den (E0 mm) 41 0 (callW (E0 mm)) itW c41_5 none ⟨sl, []⟩)) = (j41_5 c0 t8).map e41 := by
  simp -implicitDefEqProofs only [j41_5, (show c41_5 = Code.cond _ c41_6 c41_9 from rfl), zq0, zq8, setA, setB, za, zb, zc, zd, ze, zf, zg, zh, zi, zj, zk, zl, zm, zn, zo, zp, reduceCtorEq, zE, ↓reduceIte]
  refine brB (fun yc2 => ?_) (fun yc2 => ?_)
  · simp -implicitDefEqProofs only [c41_6_e, c41_7_r, (show opsOf c41_7 = _ :: _ from rfl), Tryd.underlying21, Tryd.underlying3, c41_8_e, zq0, zq8, yc2, setA, setB, za, zb, zc, zd, ze, zf, zg, zh, zi, zj, zk, zl, zm, zn, zo, zp, reduceCtorEq, zE, ↓reduceIte]
    all_goals rfl
  · simp -implicitDefEqProofs only [c41_9_e, c41_10_e, c41_11_r, (show opsOf c41_11 = _ :: _ from rfl), c41_12_e, zq0, zq8, yc2, setA, setB, za, zb, zc, zd, ze, zf, zg, zh, zi, zj, zk, zl, zm, zn, zo, zp, reduceCtorEq, zE, ↓reduceIte]
    all_goals rfl
def m41 (c : Int) : Option R41 :=
  if (decide (48 ≤ c)) = true then
    j41_5 c (decide (c ≤ 57))
  else
    j41_5 c false
theorem f41_t (c : Int) :
    callW (E0 mm) 41 [.c (.d (.sc (.int .i32 c)))] [] = (m41 c).map e41 := by
  rw [callW_run (body := c41_0) (res := [.tmp 2]) Tryd.func41 rfl rfl (by kernel_rfl)]
  simp -implicitDefEqProofs only [m41, slots1, c41_0_e, c41_1_r, (show opsOf c41_1 = _ :: _ from rfl), c41_2_e, c41_3_e, c41_4_r, (show opsOf c41_4 = _ :: _ from rfl), setA, setB, za, zb, zc, zd, ze, zf, zg, zh, zi, zj, zk, zl, zm, zn, zo, zp, reduceCtorEq, zE, ↓reduceIte]
  refine brB (fun yc1 => ?_) (fun yc1 => ?_)
  · simp -implicitDefEqProofs only [yc1, setA, setB, za, zb, zc, zd, ze, zf, zg, zh, zi, zj, zk, zl, zm, zn, zo, zp, reduceCtorEq, zE, ↓reduceIte]
    exact j41_5_t c (decide (c ≤ 57)) _ (by rfl) (by rfl)
  · simp -implicitDefEqProofs only [yc1, setA, setB, za, zb, zc, zd, ze, zf, zg, zh, zi, zj, zk, zl, zm, zn, zo, zp, reduceCtorEq, zE, ↓reduceIte]
    exact j41_5_t c false _ (by rfl) (by rfl)
noncomputable def c40_0 : Code := bodyOf Tryd.f40
def c40_1 := cA c40_0
def c40_2 := cB c40_0
def c40_3 := cA c40_2
def c40_4 := cA c40_3
def c40_5 := cB c40_3
def c40_6 := cA c40_5
def c40_7 := cA c40_6
def c40_8 := cB c40_6
def c40_9 := cB c40_5
def c40_10 := cB c40_2
def c40_11 := cA c40_10
def c40_12 := cB c40_10
def c40_13 := cA c40_12
def c40_14 := cA c40_13
def c40_15 := cB c40_13
def c40_16 := cA c40_15
def c40_17 := cA c40_16
def c40_18 := cA c40_17
def c40_19 := cB c40_17
def c40_20 := cA c40_19
def c40_21 := cA c40_20
def c40_22 := cB c40_20
def c40_23 := cB c40_19
def c40_24 := cA c40_23
def c40_25 := cA c40_24
def c40_26 := cB c40_24
def c40_27 := cA c40_26
def c40_28 := cB c40_26
def c40_29 := cA c40_28
def c40_30 := cA c40_29
def c40_31 := cB c40_29
def c40_32 := cA c40_31
def c40_33 := cA c40_32
def c40_34 := cB c40_32
def c40_35 := cB c40_31
def c40_36 := cB c40_28
def c40_37 := cA c40_36
def c40_38 := cA c40_37
def c40_39 := cB c40_37
def c40_40 := cA c40_39
def c40_41 := cA c40_40
def c40_42 := cB c40_40
def c40_43 := cB c40_39
def c40_44 := cB c40_36
def c40_45 := cB c40_12
def c40_46 := cA c40_45
def c40_47 := cA c40_46
def c40_48 := cB c40_46
def c40_49 := cA c40_48
def c40_50 := cA c40_49
def c40_51 := cB c40_49
def c40_52 := cB c40_48
def c40_53 := cB c40_45
def c40_54 := cA c40_53
def c40_55 := cB c40_53
theorem c40_0_e : c40_0 = .seq c40_1 c40_2 := rfl
theorem c40_1_r : RG (E0 mm) 40 c40_1 := rgN rfl
theorem c40_2_e : c40_2 = .seq c40_3 c40_10 := rfl
theorem c40_3_e : c40_3 = .seq c40_4 c40_5 := rfl
theorem c40_4_r : RG (E0 mm) 40 c40_4 := rgN rfl
theorem c40_6_e : c40_6 = .seq c40_7 c40_8 := rfl
theorem c40_7_r : RG (E0 mm) 40 c40_7 := rgN rfl
theorem c40_8_e : c40_8 = .ret := rfl
theorem c40_9_e : c40_9 = .skip := rfl
theorem c40_10_e : c40_10 = .seq c40_11 c40_12 := rfl
theorem c40_11_r : RG (E0 mm) 40 c40_11 := rgN rfl
theorem c40_12_e : c40_12 = .seq c40_13 c40_45 := rfl
theorem c40_13_e : c40_13 = .seq c40_14 c40_15 := rfl
theorem c40_14_r : RG (E0 mm) 40 c40_14 := rgN rfl
theorem c40_15_e : c40_15 = .block 0 c40_16 := rfl
theorem c40_16_l (m : Nat) (st : St) : den (E0 mm) 40 m (callW (E0 mm)) itW c40_16 none st = loopD itW (loopF (E0 mm) 40 m (callW (E0 mm)) itW c40_17 [(1, .keep), (2, .keep), (8, .keep), (9, .keep), (16, .keep)]) (canon m [(1, .keep), (2, .keep), (8, .keep), (9, .keep), (16, .keep)] st) := rfl
theorem c40_17_e : c40_17 = .seq c40_18 c40_19 := rfl
theorem c40_18_r : RG (E0 mm) 40 c40_18 := rgN rfl
theorem c40_19_e : c40_19 = .seq c40_20 c40_23 := rfl
theorem c40_21_e : c40_21 = .skip := rfl
theorem c40_22_e : c40_22 = .exit 0 := rfl
theorem c40_23_e : c40_23 = .block 1 c40_24 := rfl
theorem c40_24_e : c40_24 = .seq c40_25 c40_26 := rfl
theorem c40_25_r : RG (E0 mm) 40 c40_25 := rgN rfl
theorem c40_26_e : c40_26 = .seq c40_27 c40_28 := rfl
theorem c40_27_r : RG (E0 mm) 40 c40_27 := rgN rfl
theorem c40_28_e : c40_28 = .seq c40_29 c40_36 := rfl
theorem c40_29_e : c40_29 = .seq c40_30 c40_31 := rfl
theorem c40_30_r : RG (E0 mm) 40 c40_30 := rgN rfl
theorem c40_32_e : c40_32 = .seq c40_33 c40_34 := rfl
theorem c40_33_r : RG (E0 mm) 40 c40_33 := rgN rfl
theorem c40_34_e : c40_34 = .ret := rfl
theorem c40_35_e : c40_35 = .skip := rfl
theorem c40_36_e : c40_36 = .seq c40_37 c40_44 := rfl
theorem c40_37_e : c40_37 = .seq c40_38 c40_39 := rfl
theorem c40_38_r : RG (E0 mm) 40 c40_38 := rgN rfl
theorem c40_40_e : c40_40 = .seq c40_41 c40_42 := rfl
theorem c40_41_r : RG (E0 mm) 40 c40_41 := rgN rfl
theorem c40_42_e : c40_42 = .exit 1 := rfl
theorem c40_43_e : c40_43 = .skip := rfl
theorem c40_44_r : RG (E0 mm) 40 c40_44 := rgN rfl
theorem c40_45_e : c40_45 = .seq c40_46 c40_53 := rfl
theorem c40_46_e : c40_46 = .seq c40_47 c40_48 := rfl
theorem c40_47_r : RG (E0 mm) 40 c40_47 := rgN rfl
theorem c40_49_e : c40_49 = .seq c40_50 c40_51 := rfl
theorem c40_50_r : RG (E0 mm) 40 c40_50 := rgN rfl
theorem c40_51_e : c40_51 = .ret := rfl
theorem c40_52_e : c40_52 = .skip := rfl
theorem c40_53_e : c40_53 = .seq c40_54 c40_55 := rfl
theorem c40_54_r : RG (E0 mm) 40 c40_54 := rgN rfl
theorem c40_55_e : c40_55 = .ret := rfl
abbrev R40 := (Int × Int)
def e40 : R40 → AV × Heap := fun x => (.tup [.c (.d (.sc (.int .u64 x.1))), .c (.d (.sc (.int .i64 x.2)))], [])
def K40_16 : Option (Ex × St) → Option (AV × Heap) := fun r => bodyD (E0 mm) [.tmp 6, .tmp 7] 0 false (seqD (E0 mm) 40 0 (callW (E0 mm)) itW c40_45 (blockD 0 (r)))
def en40_16 : (Int × Int × Bool × Bs × Nat) → X := fun x => (none, [.v (.c (.d (.sc (.int .u64 x.1)))), .v (.c (.d (.sc (.func (.func 41) #[] #[])))), .v (.c (.d (.sc (.int .u64 x.2.1)))), .v (.c (.d (.sc (.bool x.2.2.1)))), .v (.c (.it 0))], [.siter (S x.2.2.2.1) x.2.2.2.2])
def j40_39 (base1 n8 : Int) (long9 : Bool) (d12 : Int) (t34 : Bool) (s0 : Bs) (p0 : Nat) : Option ((Int × Int × Bool × Bs × Nat) ⊕ R40) :=
  if t34 = true then
    some (.inl (base1, n8, true, s0, p0))
  else
    some (.inl (base1, (wu64 ((wu64 (n8 * base1)) + (wu64 d12))), long9, s0, p0))
theorem j40_39_t (base1 n8 : Int) (long9 : Bool) (d12 : Int) (t34 : Bool) (s0 : Bs) (p0 : Nat)  (sl : Nat → AV) (zq1 : sl 1 = .v (.c (.d (.sc (.int .u64 base1))))) (zq2 : sl 2 = .v (.c (.d (.sc (.func (.func 41) #[] #[]))))) (zq8 : sl 8 = .v (.c (.d (.sc (.int .u64 n8))))) (zq9 : sl 9 = .v (.c (.d (.sc (.bool long9))))) (zq12 : sl 12 = .v (.c (.d (.sc (.int .i64 d12))))) (zq16 : sl 16 = .v (.c (.it 0))) (zq34 : sl 34 = .v (.c (.d (.sc (.bool t34))))) :
    stepE (K40_16 (mm := mm)) (loopK 0 [(1, .keep), (2, .keep), (8, .keep), (9, .keep), (16, .keep)] (blockD 1 (seqD (E0 mm) 40 0 (callW (E0 mm)) itW c40_44 (den (E0 mm) 40 0 (callW (E0 mm)) itW c40_39 none ⟨sl, [.siter (S s0) p0]⟩)))) = (j40_39 base1 n8 long9 d12 t34 s0 p0).map (sm en40_16 e40) := by
  simp -implicitDefEqProofs only [j40_39, (show c40_39 = Code.cond _ c40_40 c40_43 from rfl), zq1, zq2, zq8, zq9, zq12, zq16, zq34, setA, setB, za, zb, zc, zd, ze, zf, zg, zh, zi, zj, zk, zl, zm, zn, zo, zp, reduceCtorEq, zE, ↓reduceIte]
  refine brB (fun yc8 => ?_) (fun yc8 => ?_)
  · simp -implicitDefEqProofs only [c40_40_e, c40_41_r, (show opsOf c40_41 = _ :: _ from rfl), c40_42_e, zq1, zq2, zq8, zq9, zq12, zq16, zq34, yc8, setA, setB, za, zb, zc, zd, ze, zf, zg, zh, zi, zj, zk, zl, zm, zn, zo, zp, reduceCtorEq, zE, ↓reduceIte]
    all_goals rfl
  · simp -implicitDefEqProofs only [c40_43_e, c40_44_r, (show opsOf c40_44 = _ :: _ from rfl), Tryd.underlying3, Tryd.underlying40, zq1, zq2, zq8, zq9, zq12, zq16, zq34, yc8, setA, setB, za, zb, zc, zd, ze, zf, zg, zh, zi, zj, zk, zl, zm, zn, zo, zp, reduceCtorEq, zE, ↓reduceIte]
    all_goals rfl
def j40_45 (n8 : Int) (long9 : Bool) : Option R40 :=
  if long9 = true then
    some ((0 : Int), (3 : Int))
  else
    some (n8, (0 : Int))
theorem j40_45_t (n8 : Int) (long9 : Bool) (g0 : Ob) (sl : Nat → AV) (zq8 : sl 8 = .v (.c (.d (.sc (.int .u64 n8))))) (zq9 : sl 9 = .v (.c (.d (.sc (.bool long9))))) :
    bodyD (E0 mm) [.tmp 6, .tmp 7] 0 false (den (E0 mm) 40 0 (callW (E0 mm)) itW c40_45 none ⟨sl, [g0]⟩) = (j40_45 n8 long9).map e40 := by
  simp -implicitDefEqProofs only [j40_45, c40_45_e, c40_46_e, c40_47_r, (show opsOf c40_47 = _ :: _ from rfl), (show c40_48 = Code.cond _ c40_49 c40_52 from rfl), zq8, zq9, setA, setB, za, zb, zc, zd, ze, zf, zg, zh, zi, zj, zk, zl, zm, zn, zo, zp, reduceCtorEq, zE, ↓reduceIte]
  refine brB (fun yc10 => ?_) (fun yc10 => ?_)
  · simp -implicitDefEqProofs only [c40_49_e, c40_50_r, (show opsOf c40_50 = _ :: _ from rfl), c40_51_e, zq8, zq9, yc10, setA, setB, za, zb, zc, zd, ze, zf, zg, zh, zi, zj, zk, zl, zm, zn, zo, zp, reduceCtorEq, zE, ↓reduceIte]
    all_goals rfl
  · simp -implicitDefEqProofs only [c40_52_e, c40_53_e, c40_54_r, (show opsOf c40_54 = _ :: _ from rfl), c40_55_e, zq8, zq9, yc10, setA, setB, za, zb, zc, zd, ze, zf, zg, zh, zi, zj, zk, zl, zm, zn, zo, zp, reduceCtorEq, zE, ↓reduceIte]
    all_goals rfl
def s40_16 (base1 n8 : Int) (long9 : Bool) (s0 : Bs) (p0 : Nat) : Option ((Int × Int × Bool × Bs × Nat) ⊕ R40) :=
  if (decide (p0 < s0.length)) = true then
    (m41 (uc s0 p0 : Int)).bind fun yr5 =>
      if (decide (yr5 < 0)) = true then
        some (.inr ((0 : Int), (5 : Int)))
      else
        if long9 = true then
          j40_39 base1 n8 true yr5 true s0 (p0 + uw s0 p0)
        else
          if (base1 == 0) = false then
            j40_39 base1 n8 false yr5 (decide ((wu64 ((wu64 (9007199254740991 - (wu64 yr5))).tdiv base1)) < n8)) s0 (p0 + uw s0 p0)
          else none
  else
    (j40_45 n8 long9).map .inr
theorem s40_16_t (base1 n8 : Int) (long9 : Bool) (s0 : Bs) (p0 : Nat) :
    stepE (K40_16 (mm := mm)) (loopF (E0 mm) 40 0 (callW (E0 mm)) itW c40_17 [(1, .keep), (2, .keep), (8, .keep), (9, .keep), (16, .keep)] (none, [.v (.c (.d (.sc (.int .u64 base1)))), .v (.c (.d (.sc (.func (.func 41) #[] #[])))), .v (.c (.d (.sc (.int .u64 n8)))), .v (.c (.d (.sc (.bool long9)))), .v (.c (.it 0))], [.siter (S s0) p0])) = (s40_16 base1 n8 long9 s0 p0).map (sm en40_16 e40) := by
  simp -implicitDefEqProofs only [s40_16, loopF_eq, c40_17_e, c40_18_r, (show opsOf c40_18 = _ :: _ from rfl), dec_eq, setA, setB, za, zb, zc, zd, ze, zf, zg, zh, zi, zj, zk, zl, zm, zn, zo, zp, reduceCtorEq, zE, ↓reduceIte]
  refine brB (fun yc2 => ?_) (fun yc2 => ?_)
  · have yd3 := of_decide_eq_true yc2
    simp -implicitDefEqProofs only [c40_19_e, (show c40_20 = Code.cond _ c40_21 c40_22 from rfl), c40_21_e, c40_23_e, c40_24_e, c40_25_r, (show opsOf c40_25 = _ :: _ from rfl), c40_26_e, c40_27_r, (show opsOf c40_27 = _ :: _ from rfl), ent41, prm41, f41_t, yd3, setA, setB, za, zb, zc, zd, ze, zf, zg, zh, zi, zj, zk, zl, zm, zn, zo, zp, reduceCtorEq, zE, ↓reduceIte]
    refine brM (fun yc4 => ?_) (fun yr5 yc4 => ?_)
    · rw [yc4]; rfl
    · simp -implicitDefEqProofs only [e41, c40_28_e, c40_29_e, c40_30_r, (show opsOf c40_30 = _ :: _ from rfl), (show c40_31 = Code.cond _ c40_32 c40_35 from rfl), yd3, yc4, setA, setB, za, zb, zc, zd, ze, zf, zg, zh, zi, zj, zk, zl, zm, zn, zo, zp, reduceCtorEq, zE, ↓reduceIte]
      refine brB (fun yc6 => ?_) (fun yc6 => ?_)
      · simp -implicitDefEqProofs only [c40_32_e, c40_33_r, (show opsOf c40_33 = _ :: _ from rfl), c40_34_e, K40_16, yd3, yc4, yc6, setA, setB, za, zb, zc, zd, ze, zf, zg, zh, zi, zj, zk, zl, zm, zn, zo, zp, reduceCtorEq, zE, ↓reduceIte]
        all_goals rfl
      · simp -implicitDefEqProofs only [c40_35_e, c40_36_e, c40_37_e, c40_38_r, (show opsOf c40_38 = _ :: _ from rfl), yd3, yc4, yc6, setA, setB, za, zb, zc, zd, ze, zf, zg, zh, zi, zj, zk, zl, zm, zn, zo, zp, reduceCtorEq, zE, ↓reduceIte]
        refine brB (fun yc7 => ?_) (fun yc7 => ?_)
        · simp -implicitDefEqProofs only [yd3, yc4, yc6, yc7, setA, setB, za, zb, zc, zd, ze, zf, zg, zh, zi, zj, zk, zl, zm, zn, zo, zp, reduceCtorEq, zE, ↓reduceIte]
          exact j40_39_t base1 n8 true yr5 true s0 (p0 + uw s0 p0) _ (by rfl) (by rfl) (by rfl) (by rfl) (by rfl) (by rfl) (by rfl)
        · simp -implicitDefEqProofs only [Tryd.underlying3, Tryd.underlying40, ev_quo0, yd3, yc4, yc6, yc7, setA, setB, za, zb, zc, zd, ze, zf, zg, zh, zi, zj, zk, zl, zm, zn, zo, zp, reduceCtorEq, zE, ↓reduceIte]
          refine brP (fun yc9 => ?_) (fun yc9 => ?_)
          · simp -implicitDefEqProofs only [yd3, yc4, yc6, yc7, yc9, setA, setB, za, zb, zc, zd, ze, zf, zg, zh, zi, zj, zk, zl, zm, zn, zo, zp, reduceCtorEq, zE, ↓reduceIte]
            exact j40_39_t base1 n8 false yr5 (decide ((wu64 ((wu64 (9007199254740991 - (wu64 yr5))).tdiv base1)) < n8)) s0 (p0 + uw s0 p0) _ (by rfl) (by rfl) (by rfl) (by rfl) (by rfl) (by rfl) (by rfl)
          · rw [if_neg yc9]; rfl
  · have yd3 := of_decide_eq_false yc2
    simp -implicitDefEqProofs only [c40_19_e, (show c40_20 = Code.cond _ c40_21 c40_22 from rfl), c40_22_e, K40_16, yd3, setA, setB, za, zb, zc, zd, ze, zf, zg, zh, zi, zj, zk, zl, zm, zn, zo, zp, reduceCtorEq, zE, ↓reduceIte]
    exact mi (j40_45_t n8 long9 _ _ (by rfl) (by rfl))
def l40_16 (base1 n8 : Int) (long9 : Bool) (s0 : Bs) (p0 : Nat) : Option R40 := iter (fun x : (Int × Int × Bool × Bs × Nat) => s40_16 x.1 x.2.1 x.2.2.1 x.2.2.2.1 x.2.2.2.2) (base1, n8, long9, s0, p0)
theorem l40_16_t (base1 n8 : Int) (long9 : Bool) (s0 : Bs) (p0 : Nat) : bodyD (E0 mm) [.tmp 6, .tmp 7] 0 false (seqD (E0 mm) 40 0 (callW (E0 mm)) itW c40_45 (blockD 0 (itW (loopF (E0 mm) 40 0 (callW (E0 mm)) itW c40_17 [(1, .keep), (2, .keep), (8, .keep), (9, .keep), (16, .keep)]) (none, [.v (.c (.d (.sc (.int .u64 base1)))), .v (.c (.d (.sc (.func (.func 41) #[] #[])))), .v (.c (.d (.sc (.int .u64 n8)))), .v (.c (.d (.sc (.bool long9)))), .v (.c (.it 0))], [.siter (S s0) p0])))) = (l40_16 base1 n8 long9 s0 p0).map e40 :=
  it_sim (K := (K40_16 (mm := mm))) rfl (enc := en40_16) (fun x => s40_16_t x.1 x.2.1 x.2.2.1 x.2.2.2.1 x.2.2.2.2) (base1, n8, long9, s0, p0)
def m40 (s : Bs) (base : Int) : Option R40 :=
  if (s == ([] : Bs)) = true then
    some ((0 : Int), (5 : Int))
  else
    l40_16 base (0 : Int) false s 0
theorem f40_t (s : Bs) (base : Int) :
    callW (E0 mm) 40 [.c (.d (.sc (.string (S s)))), .c (.d (.sc (.int .u64 base))), .c (.d (.sc (.func (.func 41) #[] #[])))] [] = (m40 s base).map e40 := by
  rw [callW_run (body := c40_0) (res := [.tmp 6, .tmp 7]) Tryd.func40 rfl rfl (by kernel_rfl)]
  simp -implicitDefEqProofs only [m40, slots3, c40_0_e, c40_1_r, (show opsOf c40_1 = _ :: _ from rfl), c40_2_e, c40_3_e, c40_4_r, (show opsOf c40_4 = _ :: _ from rfl), (show c40_5 = Code.cond _ c40_6 c40_9 from rfl), setA, setB, za, zb, zc, zd, ze, zf, zg, zh, zi, zj, zk, zl, zm, zn, zo, zp, reduceCtorEq, zE, ↓reduceIte]
  refine brB (fun yc1 => ?_) (fun yc1 => ?_)
  · simp -implicitDefEqProofs only [c40_6_e, c40_7_r, (show opsOf c40_7 = _ :: _ from rfl), c40_8_e, yc1, setA, setB, za, zb, zc, zd, ze, zf, zg, zh, zi, zj, zk, zl, zm, zn, zo, zp, reduceCtorEq, zE, ↓reduceIte]
    all_goals rfl
  · simp -implicitDefEqProofs only [c40_9_e, c40_10_e, c40_11_r, (show opsOf c40_11 = _ :: _ from rfl), c40_12_e, c40_13_e, c40_14_r, (show opsOf c40_14 = _ :: _ from rfl), Tryd.underlying9, c40_15_e, c40_16_l, yc1, setA, setB, za, zb, zc, zd, ze, zf, zg, zh, zi, zj, zk, zl, zm, zn, zo, zp, reduceCtorEq, zE, ↓reduceIte]
    exact l40_16_t base (0 : Int) false s 0
noncomputable def c28_0 : Code := bodyOf Tryd.f28
def c28_1 := cA c28_0
def c28_2 := cB c28_0
def c28_3 := cA c28_2
def c28_4 := cB c28_2
theorem c28_0_e : c28_0 = .seq c28_1 c28_2 := rfl
theorem c28_1_r : RG (E0 mm) 28 c28_1 := rgN rfl
theorem c28_2_e : c28_2 = .seq c28_3 c28_4 := rfl
theorem c28_3_r : RG (E0 mm) 28 c28_3 := rgN rfl
theorem c28_4_e : c28_4 = .ret := rfl
abbrev R28 := (Int × Int)
def e28 : R28 → AV × Heap := fun x => (.tup [.c (.d (.sc (.int .u64 x.1))), .c (.d (.sc (.int .i64 x.2)))], [])
def m28 (s : Bs) : Option R28 :=
  (m40 s (10 : Int)).bind fun yr2 =>
    some (yr2.1, yr2.2)
theorem f28_t (s : Bs) :
    callW (E0 mm) 28 [.c (.d (.sc (.string (S s))))] [] = (m28 s).map e28 := by
  rw [callW_run (body := c28_0) (res := [.tmp 2, .tmp 3]) Tryd.func28 rfl rfl (by kernel_rfl)]
  simp -implicitDefEqProofs only [m28, slots1, c28_0_e, c28_1_r, (show opsOf c28_1 = _ :: _ from rfl), c28_2_e, c28_3_r, (show opsOf c28_3 = _ :: _ from rfl), ent40, prm40, f40_t, setA, setB, za, zb, zc, zd, ze, zf, zg, zh, zi, zj, zk, zl, zm, zn, zo, zp, reduceCtorEq, zE, ↓reduceIte]
  refine brM (fun yc1 => ?_) (fun yr2 yc1 => ?_)
  · rw [yc1]; rfl
  · simp -implicitDefEqProofs only [e40, c28_4_e, yc1, setA, setB, za, zb, zc, zd, ze, zf, zg, zh, zi, zj, zk, zl, zm, zn, zo, zp, reduceCtorEq, zE, ↓reduceIte]
    all_goals rfl
noncomputable def c33_0 : Code := bodyOf Tryd.f33
def c33_1 := cA c33_0
def c33_2 := cB c33_0
def c33_3 := cA c33_2
def c33_4 := cB c33_2
def c33_5 := cA c33_4
def c33_6 := cA c33_5
def c33_7 := cB c33_5
def c33_8 := cA c33_7
def c33_9 := cA c33_8
def c33_10 := cB c33_8
def c33_11 := cA c33_10
def c33_12 := cA c33_11
def c33_13 := cB c33_11
def c33_14 := cB c33_10
def c33_15 := cA c33_14
def c33_16 := cB c33_14
def c33_17 := cA c33_16
def c33_18 := cA c33_17
def c33_19 := cB c33_17
def c33_20 := cB c33_16
def c33_21 := cB c33_4
def c33_22 := cA c33_21
def c33_23 := cB c33_21
theorem c33_0_e : c33_0 = .seq c33_1 c33_2 := rfl
theorem c33_1_r : RG (E0 mm) 33 c33_1 := rgN rfl
theorem c33_2_e : c33_2 = .seq c33_3 c33_4 := rfl
theorem c33_3_r : RG (E0 mm) 33 c33_3 := rgN rfl
theorem c33_4_e : c33_4 = .seq c33_5 c33_21 := rfl
theorem c33_5_e : c33_5 = .seq c33_6 c33_7 := rfl
theorem c33_6_r : RG (E0 mm) 33 c33_6 := rgN rfl
theorem c33_7_e : c33_7 = .block 0 c33_8 := rfl
theorem c33_8_e : c33_8 = .seq c33_9 c33_10 := rfl
theorem c33_9_r : RG (E0 mm) 33 c33_9 := rgN rfl
theorem c33_11_e : c33_11 = .seq c33_12 c33_13 := rfl
theorem c33_12_r : RG (E0 mm) 33 c33_12 := rgN rfl
theorem c33_13_e : c33_13 = .ret := rfl
theorem c33_14_e : c33_14 = .seq c33_15 c33_16 := rfl
theorem c33_15_r : RG (E0 mm) 33 c33_15 := rgN rfl
theorem c33_17_e : c33_17 = .seq c33_18 c33_19 := rfl
theorem c33_18_r : RG (E0 mm) 33 c33_18 := rgN rfl
theorem c33_19_e : c33_19 = .ret := rfl
theorem c33_20_e : c33_20 = .skip := rfl
theorem c33_21_e : c33_21 = .seq c33_22 c33_23 := rfl
theorem c33_22_r : RG (E0 mm) 33 c33_22 := rgN rfl
theorem c33_23_e : c33_23 = .ret := rfl
abbrev R33 := (Int)
def e33 : R33 → AV × Heap := fun x => (.v (.c (.d (.sc (.int .i64 x)))), [])
def m33 (s : Bs) : Option R33 :=
  (m28 s).bind fun yr2 =>
    if (yr2.2 == 0) = true then
      some (w64 (min2 yr2.1 2147483647))
    else
      if (yr2.2 == 3) = true then
        some (2147483647 : Int)
      else
        some (0 : Int)
theorem f33_t (s : Bs) :
    callW (E0 mm) 33 [.c (.d (.sc (.string (S s))))] [] = (m33 s).map e33 := by
  rw [callW_run (body := c33_0) (res := [.tmp 2]) Tryd.func33 rfl rfl (by kernel_rfl)]
  simp -implicitDefEqProofs only [m33, slots1, c33_0_e, c33_1_r, (show opsOf c33_1 = _ :: _ from rfl), c33_2_e, c33_3_r, (show opsOf c33_3 = _ :: _ from rfl), ent28, prm28, f28_t, setA, setB, za, zb, zc, zd, ze, zf, zg, zh, zi, zj, zk, zl, zm, zn, zo, zp, reduceCtorEq, zE, ↓reduceIte]
  refine brM (fun yc1 => ?_) (fun yr2 yc1 => ?_)
  · rw [yc1]; rfl
  · simp -implicitDefEqProofs only [e28, c33_4_e, c33_5_e, c33_6_r, (show opsOf c33_6 = _ :: _ from rfl), c33_7_e, c33_8_e, c33_9_r, (show opsOf c33_9 = _ :: _ from rfl), (show c33_10 = Code.cond _ c33_11 c33_14 from rfl), yc1, setA, setB, za, zb, zc, zd, ze, zf, zg, zh, zi, zj, zk, zl, zm, zn, zo, zp, reduceCtorEq, zE, ↓reduceIte]
    refine brB (fun yc3 => ?_) (fun yc3 => ?_)
    · simp -implicitDefEqProofs only [c33_11_e, c33_12_r, (show opsOf c33_12 = _ :: _ from rfl), Tryd.underlying40, Tryd.underlying3, c33_13_e, yc1, yc3, setA, setB, za, zb, zc, zd, ze, zf, zg, zh, zi, zj, zk, zl, zm, zn, zo, zp, reduceCtorEq, zE, ↓reduceIte]
      all_goals rfl
    · simp -implicitDefEqProofs only [c33_14_e, c33_15_r, (show opsOf c33_15 = _ :: _ from rfl), (show c33_16 = Code.cond _ c33_17 c33_20 from rfl), yc1, yc3, setA, setB, za, zb, zc, zd, ze, zf, zg, zh, zi, zj, zk, zl, zm, zn, zo, zp, reduceCtorEq, zE, ↓reduceIte]
      refine brB (fun yc4 => ?_) (fun yc4 => ?_)
      · simp -implicitDefEqProofs only [c33_17_e, c33_18_r, (show opsOf c33_18 = _ :: _ from rfl), c33_19_e, yc1, yc3, yc4, setA, setB, za, zb, zc, zd, ze, zf, zg, zh, zi, zj, zk, zl, zm, zn, zo, zp, reduceCtorEq, zE, ↓reduceIte]
        all_goals rfl
      · simp -implicitDefEqProofs only [c33_20_e, c33_21_e, c33_22_r, (show opsOf c33_22 = _ :: _ from rfl), c33_23_e, yc1, yc3, yc4, setA, setB, za, zb, zc, zd, ze, zf, zg, zh, zi, zj, zk, zl, zm, zn, zo, zp, reduceCtorEq, zE, ↓reduceIte]
        all_goals rfl
noncomputable def c23_0 : Code := bodyOf Tryd.f23
def c23_1 := cA c23_0
def c23_2 := cB c23_0
def c23_3 := cA c23_2
def c23_4 := cA c23_3
def c23_5 := cB c23_3
def c23_6 := cA c23_5
def c23_7 := cB c23_5
def c23_8 := cB c23_2
def c23_9 := cA c23_8
def c23_10 := cB c23_8
def c23_11 := cA c23_10
def c23_12 := cA c23_11
def c23_13 := cB c23_11
def c23_14 := cA c23_13
def c23_15 := cA c23_14
def c23_16 := cA c23_15
def c23_17 := cA c23_16
def c23_18 := cB c23_16
def c23_19 := cA c23_18
def c23_20 := cB c23_18
def c23_21 := cB c23_15
def c23_22 := cA c23_21
def c23_23 := cA c23_22
def c23_24 := cB c23_21
def c23_25 := cB c23_10
def c23_26 := cA c23_25
def c23_27 := cB c23_25
theorem c23_0_e : c23_0 = .seq c23_1 c23_2 := rfl
theorem c23_1_r : RG (E0 mm) 23 c23_1 := rgN rfl
theorem c23_2_e : c23_2 = .seq c23_3 c23_8 := rfl
theorem c23_3_e : c23_3 = .seq c23_4 c23_5 := rfl
theorem c23_4_r : RG (E0 mm) 23 c23_4 := rgN rfl
theorem c23_6_r : RG (E0 mm) 23 c23_6 := rgN rfl
theorem c23_7_e : c23_7 = .skip := rfl
theorem c23_8_e : c23_8 = .seq c23_9 c23_10 := rfl
theorem c23_9_r : RG (E0 mm) 23 c23_9 := rgN rfl
theorem c23_10_e : c23_10 = .seq c23_11 c23_25 := rfl
theorem c23_11_e : c23_11 = .seq c23_12 c23_13 := rfl
theorem c23_12_r : RG (E0 mm) 23 c23_12 := rgN rfl
theorem c23_13_e : c23_13 = .block 0 c23_14 := rfl
theorem c23_14_l (m : Nat) (st : St) : den (E0 mm) 23 m (callW (E0 mm)) itW c23_14 none st = loopD itW (loopF (E0 mm) 23 m (callW (E0 mm)) itW c23_15 [(0, .keep), (3, .keep), (4, .keep)]) (canon m [(0, .keep), (3, .keep), (4, .keep)] st) := rfl
theorem c23_15_e : c23_15 = .seq c23_16 c23_21 := rfl
theorem c23_16_e : c23_16 = .seq c23_17 c23_18 := rfl
theorem c23_17_r : RG (E0 mm) 23 c23_17 := rgN rfl
theorem c23_19_e : c23_19 = .skip := rfl
theorem c23_20_e : c23_20 = .exit 0 := rfl
theorem c23_21_e : c23_21 = .seq c23_22 c23_24 := rfl
theorem c23_22_e : c23_22 = .block 1 c23_23 := rfl
theorem c23_23_r : RG (E0 mm) 23 c23_23 := rgN rfl
theorem c23_24_r : RG (E0 mm) 23 c23_24 := rgN rfl
theorem c23_25_e : c23_25 = .seq c23_26 c23_27 := rfl
theorem c23_26_r : RG (E0 mm) 23 c23_26 := rgN rfl
theorem c23_27_e : c23_27 = .ret := rfl
abbrev R23 := (Int × List Int)
def e23 : R23 → AV × Heap := fun x => (.v (.c (.d (.sc (.int .i64 x.1)))), [.cells (enI x.2)])
def K23_14 : Option (Ex × St) → Option (AV × Heap) := fun r => bodyD (E0 mm) [.tmp 2] 1 false (seqD (E0 mm) 23 1 (callW (E0 mm)) itW c23_25 (blockD 0 (r)))
def en23_14 : (Int × Int × List Int) → X := fun x => (none, [.v (.c (.slc 0 0 1 x.2.2.length none)), .v (.c (.d (.sc (.int .i64 x.1)))), .v (.c (.d (.sc (.int .i64 x.2.1))))], [.cells (enI x.2.2)])
def j23_25 (m3 : Int) (h0 : List Int) : Option R23 :=
  some (m3, h0)
theorem j23_25_t (m3 : Int) (h0 : List Int)  (sl : Nat → AV) (zq3 : sl 3 = .v (.c (.d (.sc (.int .i64 m3))))) :
    bodyD (E0 mm) [.tmp 2] 1 false (den (E0 mm) 23 1 (callW (E0 mm)) itW c23_25 none ⟨sl, [.cells (enI h0)]⟩) = (j23_25 m3 h0).map e23 := by
  simp -implicitDefEqProofs only [j23_25, c23_25_e, c23_26_r, (show opsOf c23_26 = _ :: _ from rfl), c23_27_e, zq3, setA, setB, za, zb, zc, zd, ze, zf, zg, zh, zi, zj, zk, zl, zm, zn, zo, zp, reduceCtorEq, zE, ↓reduceIte]
  all_goals rfl
def s23_14 (m3 i4 : Int) (h0 : List Int) : Option ((Int × Int × List Int) ⊕ R23) :=
  if (decide (i4 < (h0.length : Int))) = true then
    if 0 ≤ i4 ∧ i4 < (h0.length : Int) then
      some (.inl ((min2 m3 (h0.getD i4.toNat default)), (w64 (i4 + 1)), h0))
    else none
  else
    (j23_25 m3 h0).map .inr
theorem s23_14_t (m3 i4 : Int) (h0 : List Int) :
    stepE (K23_14 (mm := mm)) (loopF (E0 mm) 23 1 (callW (E0 mm)) itW c23_15 [(0, .keep), (3, .keep), (4, .keep)] (none, [.v (.c (.slc 0 0 1 h0.length none)), .v (.c (.d (.sc (.int .i64 m3)))), .v (.c (.d (.sc (.int .i64 i4))))], [.cells (enI h0)])) = (s23_14 m3 i4 h0).map (sm en23_14 e23) := by
  simp -implicitDefEqProofs only [s23_14, loopF_eq, c23_15_e, c23_16_e, c23_17_r, (show opsOf c23_17 = _ :: _ from rfl), Tryd.underlying57, (show c23_18 = Code.cond _ c23_19 c23_20 from rfl), setA, setB, za, zb, zc, zd, ze, zf, zg, zh, zi, zj, zk, zl, zm, zn, zo, zp, reduceCtorEq, zE, ↓reduceIte]
  refine brB (fun yc4 => ?_) (fun yc4 => ?_)
  · simp -implicitDefEqProofs only [c23_19_e, c23_21_e, c23_22_e, c23_23_r, (show opsOf c23_23 = _ :: _ from rfl), Tryd.underlying57, sz3, yc4, setA, setB, za, zb, zc, zd, ze, zf, zg, zh, zi, zj, zk, zl, zm, zn, zo, zp, reduceCtorEq, zE, ↓reduceIte]
    refine brP (fun yc5 => ?_) (fun yc5 => ?_)
    · have yd6 : i4.toNat < h0.length := by omega
      simp -implicitDefEqProofs only [sz3, ag3, enI_length, (enI_load h0 i4.toNat yd6), Tryd.underlying3, c23_24_r, (show opsOf c23_24 = _ :: _ from rfl), yc4, yc5, yd6, setA, setB, za, zb, zc, zd, ze, zf, zg, zh, zi, zj, zk, zl, zm, zn, zo, zp, reduceCtorEq, zE, ↓reduceIte]
      all_goals rfl
    · rw [if_neg yc5]; rfl
  · simp -implicitDefEqProofs only [c23_20_e, K23_14, yc4, setA, setB, za, zb, zc, zd, ze, zf, zg, zh, zi, zj, zk, zl, zm, zn, zo, zp, reduceCtorEq, zE, ↓reduceIte]
    exact mi (j23_25_t m3 h0 _ (by rfl))
def l23_14 (m3 i4 : Int) (h0 : List Int) : Option R23 := iter (fun x : (Int × Int × List Int) => s23_14 x.1 x.2.1 x.2.2) (m3, i4, h0)
theorem l23_14_t (m3 i4 : Int) (h0 : List Int) : bodyD (E0 mm) [.tmp 2] 1 false (seqD (E0 mm) 23 1 (callW (E0 mm)) itW c23_25 (blockD 0 (itW (loopF (E0 mm) 23 1 (callW (E0 mm)) itW c23_15 [(0, .keep), (3, .keep), (4, .keep)]) (none, [.v (.c (.slc 0 0 1 h0.length none)), .v (.c (.d (.sc (.int .i64 m3)))), .v (.c (.d (.sc (.int .i64 i4))))], [.cells (enI h0)])))) = (l23_14 m3 i4 h0).map e23 :=
  it_sim (K := (K23_14 (mm := mm))) rfl (enc := en23_14) (fun x => s23_14_t x.1 x.2.1 x.2.2) (m3, i4, h0)
def m23 (h0 : List Int) : Option R23 :=
  if (decide ((h0.length : Int) < 1)) = true then
    none
  else
    if (0 : Int) < (h0.length : Int) then
      l23_14 (h0.getD 0 default) (1 : Int) h0
    else none
theorem f23_t (h0 : List Int) :
    callW (E0 mm) 23 [.c (.slc 0 0 1 h0.length none)] [.cells (enI h0)] = (m23 h0).map e23 := by
  rw [callW_run (body := c23_0) (res := [.tmp 2]) Tryd.func23 rfl rfl (by kernel_rfl)]
  simp -implicitDefEqProofs only [m23, slots1, c23_0_e, c23_1_r, (show opsOf c23_1 = _ :: _ from rfl), c23_2_e, c23_3_e, c23_4_r, (show opsOf c23_4 = _ :: _ from rfl), Tryd.underlying57, (show c23_5 = Code.cond _ c23_6 c23_7 from rfl), setA, setB, za, zb, zc, zd, ze, zf, zg, zh, zi, zj, zk, zl, zm, zn, zo, zp, reduceCtorEq, zE, ↓reduceIte]
  refine brB (fun yc1 => ?_) (fun yc1 => ?_)
  · simp -implicitDefEqProofs only [c23_6_r, (runOps_dead (E := (E0 mm)) (call := callW (E0 mm)) (all := opsOf c23_6) (os := opsOf c23_6) (by kernel_rfl)), regD_none, seqD_none, blockD_none, stepE_none, loopK_none, bodyD_none, Option.map_none, yc1, setA, setB, za, zb, zc, zd, ze, zf, zg, zh, zi, zj, zk, zl, zm, zn, zo, zp, reduceCtorEq, zE, ↓reduceIte]
  · simp -implicitDefEqProofs only [c23_7_e, c23_8_e, c23_9_r, (show opsOf c23_9 = _ :: _ from rfl), Tryd.underlying57, sz3, yc1, setA, setB, za, zb, zc, zd, ze, zf, zg, zh, zi, zj, zk, zl, zm, zn, zo, zp, reduceCtorEq, zE, ↓reduceIte]
    refine brP (fun yc2 => ?_) (fun yc2 => ?_)
    · have yd3 : 0 < h0.length := by omega
      simp -implicitDefEqProofs only [sz3, ag3, enI_length, (enI_load0 h0 0 yd3), c23_10_e, c23_11_e, c23_12_r, (show opsOf c23_12 = _ :: _ from rfl), c23_13_e, c23_14_l, yc1, yc2, yd3, setA, setB, za, zb, zc, zd, ze, zf, zg, zh, zi, zj, zk, zl, zm, zn, zo, zp, reduceCtorEq, zE, ↓reduceIte]
      exact l23_14_t (h0.getD 0 default) (1 : Int) h0
    · rw [if_neg yc2]; rfl
noncomputable def c22_0 : Code := bodyOf Tryd.f22
def c22_1 := cA c22_0
def c22_2 := cB c22_0
def c22_3 := cA c22_2
def c22_4 := cB c22_2
def c22_5 := cA c22_4
def c22_6 := cA c22_5
def c22_7 := cB c22_5
def c22_8 := cA c22_7
def c22_9 := cA c22_8
def c22_10 := cA c22_9
def c22_11 := cB c22_9
def c22_12 := cA c22_11
def c22_13 := cA c22_12
def c22_14 := cB c22_12
def c22_15 := cB c22_11
def c22_16 := cA c22_15
def c22_17 := cA c22_16
def c22_18 := cA c22_17
def c22_19 := cB c22_17
def c22_20 := cB c22_15
def c22_21 := cB c22_4
def c22_22 := cA c22_21
def c22_23 := cA c22_22
def c22_24 := cB c22_22
def c22_25 := cA c22_24
def c22_26 := cA c22_25
def c22_27 := cB c22_25
def c22_28 := cB c22_24
def c22_29 := cB c22_21
def c22_30 := cA c22_29
def c22_31 := cB c22_29
theorem c22_0_e : c22_0 = .seq c22_1 c22_2 := rfl
theorem c22_1_r : RG (E0 mm) 22 c22_1 := rgN rfl
theorem c22_2_e : c22_2 = .seq c22_3 c22_4 := rfl
theorem c22_3_r : RG (E0 mm) 22 c22_3 := rgN rfl
theorem c22_4_e : c22_4 = .seq c22_5 c22_21 := rfl
theorem c22_5_e : c22_5 = .seq c22_6 c22_7 := rfl
theorem c22_6_r : RG (E0 mm) 22 c22_6 := rgN rfl
theorem c22_7_e : c22_7 = .block 0 c22_8 := rfl
theorem c22_8_l (m : Nat) (st : St) : den (E0 mm) 22 m (callW (E0 mm)) itW c22_8 none st = loopD itW (loopF (E0 mm) 22 m (callW (E0 mm)) itW c22_9 [(1, .keep), (5, .keep), (8, .keep), (9, .keep), (10, .keep)]) (canon m [(1, .keep), (5, .keep), (8, .keep), (9, .keep), (10, .keep)] st) := rfl
theorem c22_9_e : c22_9 = .seq c22_10 c22_11 := rfl
theorem c22_10_r : RG (E0 mm) 22 c22_10 := rgN rfl
theorem c22_11_e : c22_11 = .seq c22_12 c22_15 := rfl
theorem c22_13_e : c22_13 = .skip := rfl
theorem c22_14_e : c22_14 = .exit 0 := rfl
theorem c22_15_e : c22_15 = .seq c22_16 c22_20 := rfl
theorem c22_16_e : c22_16 = .block 1 c22_17 := rfl
theorem c22_17_e : c22_17 = .seq c22_18 c22_19 := rfl
theorem c22_18_r : RG (E0 mm) 22 c22_18 := rgN rfl
theorem c22_19_r : RG (E0 mm) 22 c22_19 := rgN rfl
theorem c22_20_r : RG (E0 mm) 22 c22_20 := rgN rfl
theorem c22_21_e : c22_21 = .seq c22_22 c22_29 := rfl
theorem c22_22_e : c22_22 = .seq c22_23 c22_24 := rfl
theorem c22_23_r : RG (E0 mm) 22 c22_23 := rgN rfl
theorem c22_25_e : c22_25 = .seq c22_26 c22_27 := rfl
theorem c22_26_r : RG (E0 mm) 22 c22_26 := rgN rfl
theorem c22_27_e : c22_27 = .ret := rfl
theorem c22_28_e : c22_28 = .skip := rfl
theorem c22_29_e : c22_29 = .seq c22_30 c22_31 := rfl
theorem c22_30_r : RG (E0 mm) 22 c22_30 := rgN rfl
theorem c22_31_e : c22_31 = .ret := rfl
abbrev R22 := (Int)
def e22 : R22 → AV × Heap := fun x => (.v (.c (.d (.sc (.int .i64 x)))), [])
def K22_8 : Option (Ex × St) → Option (AV × Heap) := fun r => bodyD (E0 mm) [.tmp 4] 0 false (seqD (E0 mm) 22 0 (callW (E0 mm)) itW c22_21 (blockD 0 (r)))
def en22_8 : ((Bool × List Bs × Int × Int) ⊕ (Bool × List Bs × Int × Int × List Int)) → X := fun x => match x with
  | (.inl x) => (none, [.v (.c (.d (.sc (.func (.func 23) #[] #[])))), .v (.c (.d (.lst true []))), .v (.c (.d (.lst x.1 (enL enS x.2.1)))), .v (.c (.d (.sc (.int .i64 x.2.2.1)))), .v (.c (.d (.sc (.int .i64 x.2.2.2))))], [])
  | (.inr x) => (none, [.v (.c (.d (.sc (.func (.func 23) #[] #[])))), .v (.c (.slc 0 0 1 x.2.2.2.2.length none)), .v (.c (.d (.lst x.1 (enL enS x.2.1)))), .v (.c (.d (.sc (.int .i64 x.2.2.1)))), .v (.c (.d (.sc (.int .i64 x.2.2.2.1))))], [.cells (enI x.2.2.2.2)])
def j22_20 (t8_0 : Bool) (t8_1 : List Bs) (t9 t10 : Int) (h1 : List Int) : Option (((Bool × List Bs × Int × Int) ⊕ (Bool × List Bs × Int × Int × List Int)) ⊕ R22) :=
  some (.inl (.inr (t8_0, t8_1, t9, (w64 (t10 + 1)), h1)))
theorem j22_20_t (t8_0 : Bool) (t8_1 : List Bs) (t9 t10 : Int) (h1 : List Int) (g0 : Ob) (sl : Nat → AV) (zq1 : sl 1 = .v (.c (.d (.sc (.func (.func 23) #[] #[]))))) (zq5 : sl 5 = .v (.c (.slc 1 0 1 h1.length none))) (zq8 : sl 8 = .v (.c (.d (.lst t8_0 (enL enS t8_1))))) (zq9 : sl 9 = .v (.c (.d (.sc (.int .i64 t9))))) (zq10 : sl 10 = .v (.c (.d (.sc (.int .i64 t10))))) :
    stepE (K22_8 (mm := mm)) (loopK 0 [(1, .keep), (5, .keep), (8, .keep), (9, .keep), (10, .keep)] (den (E0 mm) 22 0 (callW (E0 mm)) itW c22_20 none ⟨sl, [g0, .cells (enI h1)]⟩)) = (j22_20 t8_0 t8_1 t9 t10 h1).map (sm en22_8 e22) := by
  simp -implicitDefEqProofs only [j22_20, c22_20_r, (show opsOf c22_20 = _ :: _ from rfl), zq1, zq5, zq8, zq9, zq10, setA, setB, za, zb, zc, zd, ze, zf, zg, zh, zi, zj, zk, zl, zm, zn, zo, zp, reduceCtorEq, zE, ↓reduceIte]
  all_goals rfl
def j22_15 (t8_0 : Bool) (t8_1 : List Bs) (t9 t10 : Int) : Option (((Bool × List Bs × Int × Int) ⊕ (Bool × List Bs × Int × Int × List Int)) ⊕ R22) :=
  if 0 ≤ t10 ∧ t10 < (t8_1.length : Int) then
    (m33 (t8_1.getD t10.toNat default)).bind fun yr5 =>
      j22_20 t8_0 t8_1 t9 t10 ([yr5] : List Int)
  else none
theorem j22_15_t (t8_0 : Bool) (t8_1 : List Bs) (t9 t10 : Int)  (sl : Nat → AV) (zq1 : sl 1 = .v (.c (.d (.sc (.func (.func 23) #[] #[]))))) (zq5 : sl 5 = .v (.c (.d (.lst true [])))) (zq8 : sl 8 = .v (.c (.d (.lst t8_0 (enL enS t8_1))))) (zq9 : sl 9 = .v (.c (.d (.sc (.int .i64 t9))))) (zq10 : sl 10 = .v (.c (.d (.sc (.int .i64 t10))))) :
    stepE (K22_8 (mm := mm)) (loopK 0 [(1, .keep), (5, .keep), (8, .keep), (9, .keep), (10, .keep)] (den (E0 mm) 22 0 (callW (E0 mm)) itW c22_15 none ⟨sl, []⟩)) = (j22_15 t8_0 t8_1 t9 t10).map (sm en22_8 e22) := by
  simp -implicitDefEqProofs only [j22_15, c22_15_e, c22_16_e, c22_17_e, c22_18_r, (show opsOf c22_18 = _ :: _ from rfl), Tryd.underlying41, sz9, enS_a, zq1, zq5, zq8, zq9, zq10, setA, setB, za, zb, zc, zd, ze, zf, zg, zh, zi, zj, zk, zl, zm, zn, zo, zp, reduceCtorEq, zE, ↓reduceIte]
  refine brP (fun yc2 => ?_) (fun yc2 => ?_)
  · have yd3 : t10.toNat < t8_1.length := by omega
    simp -implicitDefEqProofs only [(enL_get enS t8_1 t10.toNat yd3), enS_e, sz9, ag9, c22_19_r, (show opsOf c22_19 = _ :: _ from rfl), ent33, prm33, f33_t, zq1, zq5, zq8, zq9, zq10, yc2, yd3, setA, setB, za, zb, zc, zd, ze, zf, zg, zh, zi, zj, zk, zl, zm, zn, zo, zp, reduceCtorEq, zE, ↓reduceIte]
    refine brM (fun yc4 => ?_) (fun yr5 yc4 => ?_)
    · rw [yc4]; rfl
    · simp -implicitDefEqProofs only [e33, Tryd.underlying57, sz3, zc3, hd44, nv45, rw46, nh47, enI_length, enI1_src, ah57hnil, zq1, zq5, zq8, zq9, zq10, yc2, yd3, yc4, setA, setB, za, zb, zc, zd, ze, zf, zg, zh, zi, zj, zk, zl, zm, zn, zo, zp, reduceCtorEq, zE, ↓reduceIte]
      exact j22_20_t t8_0 t8_1 t9 t10 ([yr5] : List Int) _ _ (by exact zq1) (by rfl) (by exact zq8) (by exact zq9) (by exact zq10)
  · rw [if_neg yc2]; rfl
def j22_21  : Option R22 :=
  some (-1 : Int)
theorem j22_21_t   (sl : Nat → AV) (zq1 : sl 1 = .v (.c (.d (.sc (.func (.func 23) #[] #[]))))) (zq5 : sl 5 = .v (.c (.d (.lst true [])))) :
    bodyD (E0 mm) [.tmp 4] 0 false (den (E0 mm) 22 0 (callW (E0 mm)) itW c22_21 none ⟨sl, []⟩) = (j22_21).map e22 := by
  simp -implicitDefEqProofs only [j22_21, c22_21_e, c22_22_e, c22_23_r, (show opsOf c22_23 = _ :: _ from rfl), Tryd.underlying57, (show c22_24 = Code.cond _ c22_25 c22_28 from rfl), c22_25_e, c22_26_r, (show opsOf c22_26 = _ :: _ from rfl), c22_27_e, zq1, zq5, setA, setB, za, zb, zc, zd, ze, zf, zg, zh, zi, zj, zk, zl, zm, zn, zo, zp, reduceCtorEq, zE, ↓reduceIte]
  all_goals rfl
def s22_8x0 (t8_0 : Bool) (t8_1 : List Bs) (t9 t10 : Int) : Option (((Bool × List Bs × Int × Int) ⊕ (Bool × List Bs × Int × Int × List Int)) ⊕ R22) :=
  if (decide (t10 < t9)) = true then
    j22_15 t8_0 t8_1 t9 t10
  else
    (j22_21).map .inr
theorem s22_8x0_t (t8_0 : Bool) (t8_1 : List Bs) (t9 t10 : Int) :
    stepE (K22_8 (mm := mm)) (loopF (E0 mm) 22 0 (callW (E0 mm)) itW c22_9 [(1, .keep), (5, .keep), (8, .keep), (9, .keep), (10, .keep)] (none, [.v (.c (.d (.sc (.func (.func 23) #[] #[])))), .v (.c (.d (.lst true []))), .v (.c (.d (.lst t8_0 (enL enS t8_1)))), .v (.c (.d (.sc (.int .i64 t9)))), .v (.c (.d (.sc (.int .i64 t10))))], [])) = (s22_8x0 t8_0 t8_1 t9 t10).map (sm en22_8 e22) := by
  simp -implicitDefEqProofs only [s22_8x0, loopF_eq, c22_9_e, c22_10_r, (show opsOf c22_10 = _ :: _ from rfl), c22_11_e, (show c22_12 = Code.cond _ c22_13 c22_14 from rfl), setA, setB, za, zb, zc, zd, ze, zf, zg, zh, zi, zj, zk, zl, zm, zn, zo, zp, reduceCtorEq, zE, ↓reduceIte]
  refine brB (fun yc1 => ?_) (fun yc1 => ?_)
  · simp -implicitDefEqProofs only [c22_13_e, yc1, setA, setB, za, zb, zc, zd, ze, zf, zg, zh, zi, zj, zk, zl, zm, zn, zo, zp, reduceCtorEq, zE, ↓reduceIte]
    exact j22_15_t t8_0 t8_1 t9 t10 _ (by rfl) (by rfl) (by rfl) (by rfl) (by rfl)
  · simp -implicitDefEqProofs only [c22_14_e, K22_8, yc1, setA, setB, za, zb, zc, zd, ze, zf, zg, zh, zi, zj, zk, zl, zm, zn, zo, zp, reduceCtorEq, zE, ↓reduceIte]
    exact mi (j22_21_t _ (by rfl) (by rfl))
def j22_20v1 (t8_0 : Bool) (t8_1 : List Bs) (t9 t10 : Int) (h2 : List Int) : Option (((Bool × List Bs × Int × Int) ⊕ (Bool × List Bs × Int × Int × List Int)) ⊕ R22) :=
  some (.inl (.inr (t8_0, t8_1, t9, (w64 (t10 + 1)), h2)))
theorem j22_20v1_t (t8_0 : Bool) (t8_1 : List Bs) (t9 t10 : Int) (h2 : List Int) (g0 g1 : Ob) (sl : Nat → AV) (zq1 : sl 1 = .v (.c (.d (.sc (.func (.func 23) #[] #[]))))) (zq5 : sl 5 = .v (.c (.slc 2 0 1 h2.length none))) (zq8 : sl 8 = .v (.c (.d (.lst t8_0 (enL enS t8_1))))) (zq9 : sl 9 = .v (.c (.d (.sc (.int .i64 t9))))) (zq10 : sl 10 = .v (.c (.d (.sc (.int .i64 t10))))) :
    stepE (K22_8 (mm := mm)) (loopK 0 [(1, .keep), (5, .keep), (8, .keep), (9, .keep), (10, .keep)] (den (E0 mm) 22 0 (callW (E0 mm)) itW c22_20 none ⟨sl, [g0, g1, .cells (enI h2)]⟩)) = (j22_20v1 t8_0 t8_1 t9 t10 h2).map (sm en22_8 e22) := by
  simp -implicitDefEqProofs only [j22_20v1, c22_20_r, (show opsOf c22_20 = _ :: _ from rfl), zq1, zq5, zq8, zq9, zq10, setA, setB, za, zb, zc, zd, ze, zf, zg, zh, zi, zj, zk, zl, zm, zn, zo, zp, reduceCtorEq, zE, ↓reduceIte]
  all_goals rfl
def j22_15v1 (t8_0 : Bool) (t8_1 : List Bs) (t9 t10 : Int) (h0 : List Int) : Option (((Bool × List Bs × Int × Int) ⊕ (Bool × List Bs × Int × Int × List Int)) ⊕ R22) :=
  if 0 ≤ t10 ∧ t10 < (t8_1.length : Int) then
    (m33 (t8_1.getD t10.toNat default)).bind fun yr10 =>
      if (h0.length + 1) * 8 ≤ 140737488355328 then
        j22_20v1 t8_0 t8_1 t9 t10 (h0 ++ ([yr10] : List Int))
      else none
  else none
theorem j22_15v1_t (t8_0 : Bool) (t8_1 : List Bs) (t9 t10 : Int) (h0 : List Int)  (sl : Nat → AV) (zq1 : sl 1 = .v (.c (.d (.sc (.func (.func 23) #[] #[]))))) (zq5 : sl 5 = .v (.c (.slc 0 0 1 h0.length none))) (zq8 : sl 8 = .v (.c (.d (.lst t8_0 (enL enS t8_1))))) (zq9 : sl 9 = .v (.c (.d (.sc (.int .i64 t9))))) (zq10 : sl 10 = .v (.c (.d (.sc (.int .i64 t10))))) :
    stepE (K22_8 (mm := mm)) (loopK 0 [(1, .keep), (5, .keep), (8, .keep), (9, .keep), (10, .keep)] (den (E0 mm) 22 0 (callW (E0 mm)) itW c22_15 none ⟨sl, [.cells (enI h0)]⟩)) = (j22_15v1 t8_0 t8_1 t9 t10 h0).map (sm en22_8 e22) := by
  simp -implicitDefEqProofs only [j22_15v1, c22_15_e, c22_16_e, c22_17_e, c22_18_r, (show opsOf c22_18 = _ :: _ from rfl), Tryd.underlying41, sz9, enS_a, zq1, zq5, zq8, zq9, zq10, setA, setB, za, zb, zc, zd, ze, zf, zg, zh, zi, zj, zk, zl, zm, zn, zo, zp, reduceCtorEq, zE, ↓reduceIte]
  refine brP (fun yc7 => ?_) (fun yc7 => ?_)
  · have yd8 : t10.toNat < t8_1.length := by omega
    simp -implicitDefEqProofs only [(enL_get enS t8_1 t10.toNat yd8), enS_e, sz9, ag9, c22_19_r, (show opsOf c22_19 = _ :: _ from rfl), ent33, prm33, f33_t, zq1, zq5, zq8, zq9, zq10, yc7, yd8, setA, setB, za, zb, zc, zd, ze, zf, zg, zh, zi, zj, zk, zl, zm, zn, zo, zp, reduceCtorEq, zE, ↓reduceIte]
    refine brM (fun yc9 => ?_) (fun yr10 yc9 => ?_)
    · rw [yc9]; rfl
    · simp -implicitDefEqProofs only [e33, Tryd.underlying57, sz3, zc3, hd44, nv45, rw46, nh47, enI_length, enI1_src, ah57hslc, zq1, zq5, zq8, zq9, zq10, yc7, yd8, yc9, setA, setB, za, zb, zc, zd, ze, zf, zg, zh, zi, zj, zk, zl, zm, zn, zo, zp, reduceCtorEq, zE, ↓reduceIte]
      refine brP (fun yc11 => ?_) (fun yc11 => ?_)
      · simp -implicitDefEqProofs only [zq1, zq5, zq8, zq9, zq10, yc7, yd8, yc9, yc11, setA, setB, za, zb, zc, zd, ze, zf, zg, zh, zi, zj, zk, zl, zm, zn, zo, zp, reduceCtorEq, zE, ↓reduceIte]
        exact j22_20v1_t t8_0 t8_1 t9 t10 (h0 ++ ([yr10] : List Int)) _ _ _ (by exact zq1) (by rfl) (by exact zq8) (by exact zq9) (by exact zq10)
      · rw [if_neg yc11]; rfl
  · rw [if_neg yc7]; rfl
def j22_21v1 (h0 : List Int) : Option R22 :=
  if ((h0.length : Int) == 0) = true then
    some (-1 : Int)
  else
    (m23 h0).bind fun yr14 =>
      some yr14.1
theorem j22_21v1_t (h0 : List Int)  (sl : Nat → AV) (zq1 : sl 1 = .v (.c (.d (.sc (.func (.func 23) #[] #[]))))) (zq5 : sl 5 = .v (.c (.slc 0 0 1 h0.length none))) :
    bodyD (E0 mm) [.tmp 4] 0 false (den (E0 mm) 22 0 (callW (E0 mm)) itW c22_21 none ⟨sl, [.cells (enI h0)]⟩) = (j22_21v1 h0).map e22 := by
  simp -implicitDefEqProofs only [j22_21v1, c22_21_e, c22_22_e, c22_23_r, (show opsOf c22_23 = _ :: _ from rfl), Tryd.underlying57, (show c22_24 = Code.cond _ c22_25 c22_28 from rfl), zq1, zq5, setA, setB, za, zb, zc, zd, ze, zf, zg, zh, zi, zj, zk, zl, zm, zn, zo, zp, reduceCtorEq, zE, ↓reduceIte]
  refine brB (fun yc12 => ?_) (fun yc12 => ?_)
  · simp -implicitDefEqProofs only [c22_25_e, c22_26_r, (show opsOf c22_26 = _ :: _ from rfl), c22_27_e, zq1, zq5, yc12, setA, setB, za, zb, zc, zd, ze, zf, zg, zh, zi, zj, zk, zl, zm, zn, zo, zp, reduceCtorEq, zE, ↓reduceIte]
    all_goals rfl
  · simp -implicitDefEqProofs only [c22_28_e, c22_29_e, c22_30_r, (show opsOf c22_30 = _ :: _ from rfl), ent23, prm23, f23_t, zq1, zq5, yc12, setA, setB, za, zb, zc, zd, ze, zf, zg, zh, zi, zj, zk, zl, zm, zn, zo, zp, reduceCtorEq, zE, ↓reduceIte]
    refine brM (fun yc13 => ?_) (fun yr14 yc13 => ?_)
    · rw [yc13]; rfl
    · simp -implicitDefEqProofs only [e23, c22_31_e, zq1, zq5, yc12, yc13, setA, setB, za, zb, zc, zd, ze, zf, zg, zh, zi, zj, zk, zl, zm, zn, zo, zp, reduceCtorEq, zE, ↓reduceIte]
      all_goals rfl
def s22_8x1 (t8_0 : Bool) (t8_1 : List Bs) (t9 t10 : Int) (h0 : List Int) : Option (((Bool × List Bs × Int × Int) ⊕ (Bool × List Bs × Int × Int × List Int)) ⊕ R22) :=
  if (decide (t10 < t9)) = true then
    j22_15v1 t8_0 t8_1 t9 t10 h0
  else
    (j22_21v1 h0).map .inr
theorem s22_8x1_t (t8_0 : Bool) (t8_1 : List Bs) (t9 t10 : Int) (h0 : List Int) :
    stepE (K22_8 (mm := mm)) (loopF (E0 mm) 22 0 (callW (E0 mm)) itW c22_9 [(1, .keep), (5, .keep), (8, .keep), (9, .keep), (10, .keep)] (none, [.v (.c (.d (.sc (.func (.func 23) #[] #[])))), .v (.c (.slc 0 0 1 h0.length none)), .v (.c (.d (.lst t8_0 (enL enS t8_1)))), .v (.c (.d (.sc (.int .i64 t9)))), .v (.c (.d (.sc (.int .i64 t10))))], [.cells (enI h0)])) = (s22_8x1 t8_0 t8_1 t9 t10 h0).map (sm en22_8 e22) := by
  simp -implicitDefEqProofs only [s22_8x1, loopF_eq, c22_9_e, c22_10_r, (show opsOf c22_10 = _ :: _ from rfl), c22_11_e, (show c22_12 = Code.cond _ c22_13 c22_14 from rfl), setA, setB, za, zb, zc, zd, ze, zf, zg, zh, zi, zj, zk, zl, zm, zn, zo, zp, reduceCtorEq, zE, ↓reduceIte]
  refine brB (fun yc6 => ?_) (fun yc6 => ?_)
  · simp -implicitDefEqProofs only [c22_13_e, yc6, setA, setB, za, zb, zc, zd, ze, zf, zg, zh, zi, zj, zk, zl, zm, zn, zo, zp, reduceCtorEq, zE, ↓reduceIte]
    exact j22_15v1_t t8_0 t8_1 t9 t10 h0 _ (by rfl) (by rfl) (by rfl) (by rfl) (by rfl)
  · simp -implicitDefEqProofs only [c22_14_e, K22_8, yc6, setA, setB, za, zb, zc, zd, ze, zf, zg, zh, zi, zj, zk, zl, zm, zn, zo, zp, reduceCtorEq, zE, ↓reduceIte]
    exact mi (j22_21v1_t h0 _ (by rfl) (by rfl))
def s22_8 : ((Bool × List Bs × Int × Int) ⊕ (Bool × List Bs × Int × Int × List Int)) → Option (((Bool × List Bs × Int × Int) ⊕ (Bool × List Bs × Int × Int × List Int)) ⊕ R22) := fun x => match x with
  | (.inl x) => s22_8x0 x.1 x.2.1 x.2.2.1 x.2.2.2
  | (.inr x) => s22_8x1 x.1 x.2.1 x.2.2.1 x.2.2.2.1 x.2.2.2.2
def l22_8 (t8_0 : Bool) (t8_1 : List Bs) (t9 t10 : Int) : Option R22 := iter s22_8 (.inl (t8_0, t8_1, t9, t10))
theorem l22_8_t (t8_0 : Bool) (t8_1 : List Bs) (t9 t10 : Int) : bodyD (E0 mm) [.tmp 4] 0 false (seqD (E0 mm) 22 0 (callW (E0 mm)) itW c22_21 (blockD 0 (itW (loopF (E0 mm) 22 0 (callW (E0 mm)) itW c22_9 [(1, .keep), (5, .keep), (8, .keep), (9, .keep), (10, .keep)]) (none, [.v (.c (.d (.sc (.func (.func 23) #[] #[])))), .v (.c (.d (.lst true []))), .v (.c (.d (.lst t8_0 (enL enS t8_1)))), .v (.c (.d (.sc (.int .i64 t9)))), .v (.c (.d (.sc (.int .i64 t10))))], [])))) = (l22_8 t8_0 t8_1 t9 t10).map e22 :=
  it_sim (K := (K22_8 (mm := mm))) rfl (enc := en22_8) (fun x => match x with
  | (.inl x) => s22_8x0_t x.1 x.2.1 x.2.2.1 x.2.2.2
  | (.inr x) => s22_8x1_t x.1 x.2.1 x.2.2.1 x.2.2.2.1 x.2.2.2.2) (.inl (t8_0, t8_1, t9, t10))
def m22 (values_0 : Bool) (values_1 : List Bs) : Option R22 :=
  l22_8 values_0 values_1 (values_1.length : Int) (0 : Int)
theorem f22_t (values_0 : Bool) (values_1 : List Bs) :
    callW (E0 mm) 22 [.c (.d (.lst values_0 (enL enS values_1))), .c (.d (.sc (.func (.func 23) #[] #[])))] [] = (m22 values_0 values_1).map e22 := by
  rw [callW_run (body := c22_0) (res := [.tmp 4]) Tryd.func22 rfl rfl (by kernel_rfl)]
  simp -implicitDefEqProofs only [m22, slots2, c22_0_e, c22_1_r, (show opsOf c22_1 = _ :: _ from rfl), c22_2_e, c22_3_r, (show opsOf c22_3 = _ :: _ from rfl), c22_4_e, c22_5_e, c22_6_r, (show opsOf c22_6 = _ :: _ from rfl), Tryd.underlying41, c22_7_e, c22_8_l, setA, setB, za, zb, zc, zd, ze, zf, zg, zh, zi, zj, zk, zl, zm, zn, zo, zp, reduceCtorEq, zE, ↓reduceIte]
  exact l22_8_t values_0 values_1 (values_1.length : Int) (0 : Int)
noncomputable def c14_0 : Code := bodyOf Tryd.f14
def c14_1 := cA c14_0
def c14_2 := cB c14_0
def c14_3 := cA c14_2
def c14_4 := cB c14_2
def c14_5 := cA c14_4
def c14_6 := cB c14_4
theorem c14_0_e : c14_0 = .seq c14_1 c14_2 := rfl
theorem c14_1_r : RG (E0 mm) 14 c14_1 := rgN rfl
theorem c14_2_e : c14_2 = .seq c14_3 c14_4 := rfl
theorem c14_3_r : RG (E0 mm) 14 c14_3 := rgN rfl
theorem c14_4_e : c14_4 = .seq c14_5 c14_6 := rfl
theorem c14_5_r (m : Nat) (st : St) : den (E0 mm) 14 m (callW (E0 mm)) itW c14_5 none st = regD ((runF (E0 mm) (callW (E0 mm)) (opsOf c14_5) (opsOf c14_5) [none, none, some false, none, none, some false, none, none, some false, none, none, some false, none, none, some false, none, some true, some false, none, some true, none, none, none] st []).bind (ckF [(16, 2), (16, 5), (16, 8), (16, 11), (16, 14), (19, 2), (19, 5), (19, 8), (19, 11), (19, 14), (19, 17)])) := den_dF (by kernel_rfl)
theorem c14_6_e : c14_6 = .ret := rfl
abbrev R14 := (Bool × Bool × Bool × Bool × Bool × Bool × Int × Int × Int × Int)
def e14 : R14 → AV × Heap := fun x => (.v (.agg [.d (.sc (.bool x.1)), .d (.sc (.bool x.2.1)), .d (.sc (.bool x.2.2.1)), .d (.sc (.bool x.2.2.2.1)), .d (.sc (.bool x.2.2.2.2.1)), .d (.sc (.bool x.2.2.2.2.2.1)), .d (.sc (.int .i64 x.2.2.2.2.2.2.1)), .d (.sc (.int .i64 x.2.2.2.2.2.2.2.1)), .d (.sc (.int .i64 x.2.2.2.2.2.2.2.2.1)), .d (.sc (.int .i64 x.2.2.2.2.2.2.2.2.2))]), [])
def m14 (l_0 : Bool) (l_1 : List (Bs × Bs)) : Option R14 :=
  (m20 l_0 l_1).bind fun yr2 =>
    (m21 false ([([110, 111, 45, 115, 116, 111, 114, 101] : Bs)] : List Bs) yr2).bind fun yr4 =>
      (m21 false ([([110, 111, 45, 99, 97, 99, 104, 101] : Bs)] : List Bs) yr2).bind fun yr6 =>
        (m21 false ([([112, 114, 105, 118, 97, 116, 101] : Bs)] : List Bs) yr2).bind fun yr8 =>
          (m21 false ([([112, 117, 98, 108, 105, 99] : Bs)] : List Bs) yr2).bind fun yr10 =>
            (m21 false ([([109, 117, 115, 116, 45, 114, 101, 118, 97, 108, 105, 100, 97, 116, 101] : Bs), ([112, 114, 111, 120, 121, 45, 114, 101, 118, 97, 108, 105, 100, 97, 116, 101] : Bs)] : List Bs) yr2).bind fun yr12 =>
              (m22 (!(hasM ([109, 97, 120, 45, 97, 103, 101] : Bs) yr2)) (valM ([109, 97, 120, 45, 97, 103, 101] : Bs) yr2)).bind fun yr14 =>
                (m22 (!(hasM ([115, 45, 109, 97, 120, 97, 103, 101] : Bs) yr2)) (valM ([115, 45, 109, 97, 120, 97, 103, 101] : Bs) yr2)).bind fun yr16 =>
                  some (yr4, yr6, yr8, yr10, yr12, false, yr14, yr16, (-1 : Int), (-1 : Int))
theorem f14_t (l_0 : Bool) (l_1 : List (Bs × Bs)) :
    callW (E0 mm) 14 [.c (.d (.lst l_0 (enL enSS l_1)))] [] = (m14 l_0 l_1).map e14 := by
  rw [callW_run (body := c14_0) (res := [.cell 2 51]) Tryd.func14 rfl rfl (by kernel_rfl)]
  simp -implicitDefEqProofs only [m14, slots1, c14_0_e, c14_1_r, (show opsOf c14_1 = _ :: _ from rfl), zc51, ao14, c14_2_e, c14_3_r, (show opsOf c14_3 = _ :: _ from rfl), ent20, prm20, f20_t, setA, setB, za, zb, zc, zd, ze, zf, zg, zh, zi, zj, zk, zl, zm, zn, zo, zp, reduceCtorEq, zE, ↓reduceIte]
  refine brM (fun yc1 => ?_) (fun yr2 yc1 => ?_)
  · rw [yc1]; rfl
  · simp -implicitDefEqProofs only [e20, c14_4_e, c14_5_r, (show opsOf c14_5 = _ :: _ from rfl), Tryd.underlying41, sz9, zc9, hd40, nv41, rw42, ns20, ent21, prm21, (show callW (E0 mm) 21 [.c (.mp 0), .c (.d (.lst false (enL enS ([([110, 111, 45, 115, 116, 111, 114, 101] : Bs)] : List Bs))))] [.amap (enM yr2)] = _ from f21_t false ([([110, 111, 45, 115, 116, 111, 114, 101] : Bs)] : List Bs) yr2), yc1, runF_nil, runF_none, runF_some, runKF_t, runKF_f, runKF_x, stepKF_s, stepKF_x, tlT_c, tlT_n, hdT_c, hdT_n, footT_n, foot_t, readsO, setA, setB, za, zb, zc, zd, ze, zf, zg, zh, zi, zj, zk, zl, zm, zn, zo, zp, reduceCtorEq, zE, ↓reduceIte]
    refine brM (fun yc3 => ?_) (fun yr4 yc3 => ?_)
    · rw [yc3]; rfl
    · simp -implicitDefEqProofs only [e21, Tryd.underlying41, sz9, zc9, hd40, nv41, rw42, ns20, ent21, prm21, (show callW (E0 mm) 21 [.c (.mp 0), .c (.d (.lst false (enL enS ([([110, 111, 45, 99, 97, 99, 104, 101] : Bs)] : List Bs))))] [.amap (enM yr2)] = _ from f21_t false ([([110, 111, 45, 99, 97, 99, 104, 101] : Bs)] : List Bs) yr2), yc1, runF_nil, runF_none, runF_some, runKF_t, runKF_f, runKF_x, stepKF_s, stepKF_x, tlT_c, tlT_n, hdT_c, hdT_n, footT_n, foot_t, readsO, yc3, setA, setB, za, zb, zc, zd, ze, zf, zg, zh, zi, zj, zk, zl, zm, zn, zo, zp, reduceCtorEq, zE, ↓reduceIte]
      refine brM (fun yc5 => ?_) (fun yr6 yc5 => ?_)
      · rw [yc5]; rfl
      · simp -implicitDefEqProofs only [e21, Tryd.underlying41, sz9, zc9, hd40, nv41, rw42, ns20, ent21, prm21, (show callW (E0 mm) 21 [.c (.mp 0), .c (.d (.lst false (enL enS ([([112, 114, 105, 118, 97, 116, 101] : Bs)] : List Bs))))] [.amap (enM yr2)] = _ from f21_t false ([([112, 114, 105, 118, 97, 116, 101] : Bs)] : List Bs) yr2), yc1, runF_nil, runF_none, runF_some, runKF_t, runKF_f, runKF_x, stepKF_s, stepKF_x, tlT_c, tlT_n, hdT_c, hdT_n, footT_n, foot_t, readsO, yc3, yc5, setA, setB, za, zb, zc, zd, ze, zf, zg, zh, zi, zj, zk, zl, zm, zn, zo, zp, reduceCtorEq, zE, ↓reduceIte]
        refine brM (fun yc7 => ?_) (fun yr8 yc7 => ?_)
        · rw [yc7]; rfl
        · simp -implicitDefEqProofs only [e21, Tryd.underlying41, sz9, zc9, hd40, nv41, rw42, ns20, ent21, prm21, (show callW (E0 mm) 21 [.c (.mp 0), .c (.d (.lst false (enL enS ([([112, 117, 98, 108, 105, 99] : Bs)] : List Bs))))] [.amap (enM yr2)] = _ from f21_t false ([([112, 117, 98, 108, 105, 99] : Bs)] : List Bs) yr2), yc1, runF_nil, runF_none, runF_some, runKF_t, runKF_f, runKF_x, stepKF_s, stepKF_x, tlT_c, tlT_n, hdT_c, hdT_n, footT_n, foot_t, readsO, yc3, yc5, yc7, setA, setB, za, zb, zc, zd, ze, zf, zg, zh, zi, zj, zk, zl, zm, zn, zo, zp, reduceCtorEq, zE, ↓reduceIte]
          refine brM (fun yc9 => ?_) (fun yr10 yc9 => ?_)
          · rw [yc9]; rfl
          · simp -implicitDefEqProofs only [e21, Tryd.underlying41, sz9, zc9, hd40, nv41, rw42, ns43, ent21, prm21, (show callW (E0 mm) 21 [.c (.mp 0), .c (.d (.lst false (enL enS ([([109, 117, 115, 116, 45, 114, 101, 118, 97, 108, 105, 100, 97, 116, 101] : Bs), ([112, 114, 111, 120, 121, 45, 114, 101, 118, 97, 108, 105, 100, 97, 116, 101] : Bs)] : List Bs))))] [.amap (enM yr2)] = _ from f21_t false ([([109, 117, 115, 116, 45, 114, 101, 118, 97, 108, 105, 100, 97, 116, 101] : Bs), ([112, 114, 111, 120, 121, 45, 114, 101, 118, 97, 108, 105, 100, 97, 116, 101] : Bs)] : List Bs) yr2), yc1, runF_nil, runF_none, runF_some, runKF_t, runKF_f, runKF_x, stepKF_s, stepKF_x, tlT_c, tlT_n, hdT_c, hdT_n, footT_n, foot_t, readsO, yc3, yc5, yc7, yc9, setA, setB, za, zb, zc, zd, ze, zf, zg, zh, zi, zj, zk, zl, zm, zn, zo, zp, reduceCtorEq, zE, ↓reduceIte]
            refine brM (fun yc11 => ?_) (fun yr12 yc11 => ?_)
            · rw [yc11]; rfl
            · simp -implicitDefEqProofs only [e21, Tryd.underlying59, Tryd.underlying9, zv41, ent22, prm22, f22_t, yc1, runF_nil, runF_none, runF_some, runKF_t, runKF_f, runKF_x, stepKF_s, stepKF_x, tlT_c, tlT_n, hdT_c, hdT_n, footT_n, foot_t, readsO, yc3, yc5, yc7, yc9, yc11, setA, setB, za, zb, zc, zd, ze, zf, zg, zh, zi, zj, zk, zl, zm, zn, zo, zp, reduceCtorEq, zE, ↓reduceIte]
              refine brM (fun yc13 => ?_) (fun yr14 yc13 => ?_)
              · rw [yc13]; rfl
              · simp -implicitDefEqProofs only [e22, Tryd.underlying59, Tryd.underlying9, zv41, ent22, prm22, f22_t, yc1, runF_nil, runF_none, runF_some, runKF_t, runKF_f, runKF_x, stepKF_s, stepKF_x, tlT_c, tlT_n, hdT_c, hdT_n, footT_n, foot_t, readsO, yc3, yc5, yc7, yc9, yc11, yc13, setA, setB, za, zb, zc, zd, ze, zf, zg, zh, zi, zj, zk, zl, zm, zn, zo, zp, reduceCtorEq, zE, ↓reduceIte]
                refine brM (fun yc15 => ?_) (fun yr16 yc15 => ?_)
                · rw [yc15]; rfl
                · simp -implicitDefEqProofs only [e22, Tryd.underlying51, zc51, sz4, sz3, sz51, ckF, foot_f, pair1, pair0, chgA, eqO, eqOb_cells, eqOb_row, eqOb_siter, eqOb_amapN, eqOb_amapC, eqOb_sm, eqE_S, eqE_SS, eqE_N, eqE_B, eqL, eqC, eqD, eqV, eqV1, eqB_refl, eq_self, decide_true, List.all_nil, List.getD_cons_zero, List.getD_cons_succ, Bool.and_self, c14_6_e, ag51, yc1, runF_nil, runF_none, runF_some, runKF_t, runKF_f, runKF_x, stepKF_s, stepKF_x, tlT_c, tlT_n, hdT_c, hdT_n, footT_n, foot_t, readsO, yc3, yc5, yc7, yc9, yc11, yc13, yc15, setA, setB, za, zb, zc, zd, ze, zf, zg, zh, zi, zj, zk, zl, zm, zn, zo, zp, reduceCtorEq, zE, ↓reduceIte]
                  all_goals rfl
noncomputable def c25_0 : Code := bodyOf Tryd.f25
def c25_1 := cA c25_0
def c25_2 := cB c25_0
def c25_3 := cA c25_2
def c25_4 := cB c25_2
def c25_5 := cA c25_4
def c25_6 := cA c25_5
def c25_7 := cB c25_5
def c25_8 := cA c25_7
def c25_9 := cA c25_8
def c25_10 := cB c25_8
def c25_11 := cB c25_7
def c25_12 := cB c25_4
def c25_13 := cA c25_12
def c25_14 := cB c25_12
theorem c25_0_e : c25_0 = .seq c25_1 c25_2 := rfl
theorem c25_1_r : RG (E0 mm) 25 c25_1 := rgN rfl
theorem c25_2_e : c25_2 = .seq c25_3 c25_4 := rfl
theorem c25_3_r : RG (E0 mm) 25 c25_3 := rgN rfl
theorem c25_4_e : c25_4 = .seq c25_5 c25_12 := rfl
theorem c25_5_e : c25_5 = .seq c25_6 c25_7 := rfl
theorem c25_6_r : RG (E0 mm) 25 c25_6 := rgN rfl
theorem c25_8_e : c25_8 = .seq c25_9 c25_10 := rfl
theorem c25_9_r : RG (E0 mm) 25 c25_9 := rgN rfl
theorem c25_10_e : c25_10 = .ret := rfl
theorem c25_11_e : c25_11 = .skip := rfl
theorem c25_12_e : c25_12 = .seq c25_13 c25_14 := rfl
theorem c25_13_r : RG (E0 mm) 25 c25_13 := rgN rfl
theorem c25_14_e : c25_14 = .ret := rfl
abbrev R25 := (Bs × Bool)
def e25 : R25 → AV × Heap := fun x => (.tup [.c (.d (.sc (.string (S x.1)))), .c (.d (.sc (.bool x.2)))], [])
def m25 (r0_0 : Int) (r0_1 : Bs) (r0_2 : Int) (r0_3 : Bool) (r0_4 : List (Bs × Bs)) (r0_5 : Bool) (r0_6 : List UInt8) (name : Bs) : Option R25 :=
  (m15 r0_3 r0_4 name).bind fun yr2 =>
    if ((yr2.2.length : Int) == 1) = true then
      if (0 : Int) < (yr2.2.length : Int) then
        some ((yr2.2.getD 0 default), true)
      else none
    else
      some (([] : Bs), false)
theorem f25_t (r0_0 : Int) (r0_1 : Bs) (r0_2 : Int) (r0_3 : Bool) (r0_4 : List (Bs × Bs)) (r0_5 : Bool) (r0_6 : List UInt8) (name : Bs) :
    callW (E0 mm) 25 [.agg [.d (.sc (.int .i64 r0_0)), .d (.sc (.string (S r0_1))), .d (.sc (.int .i64 r0_2)), .d (.lst r0_3 (enL enSS r0_4)), .d (.lst r0_5 (enL enB r0_6))], .c (.d (.sc (.string (S name))))] [] = (m25 r0_0 r0_1 r0_2 r0_3 r0_4 r0_5 r0_6 name).map e25 := by
  rw [callW_run (body := c25_0) (res := [.tmp 4, .tmp 5]) Tryd.func25 rfl rfl (by kernel_rfl)]
  simp -implicitDefEqProofs only [m25, slots2, c25_0_e, c25_1_r, (show opsOf c25_1 = _ :: _ from rfl), c25_2_e, c25_3_r, (show opsOf c25_3 = _ :: _ from rfl), Tryd.underlying35, sz22, ag22, ent15, prm15, f15_t, setA, setB, za, zb, zc, zd, ze, zf, zg, zh, zi, zj, zk, zl, zm, zn, zo, zp, reduceCtorEq, zE, ↓reduceIte]
  refine brM (fun yc1 => ?_) (fun yr2 yc1 => ?_)
  · rw [yc1]; rfl
  · simp -implicitDefEqProofs only [e15, c25_4_e, c25_5_e, c25_6_r, (show opsOf c25_6 = _ :: _ from rfl), Tryd.underlying41, (show c25_7 = Code.cond _ c25_8 c25_11 from rfl), yc1, setA, setB, za, zb, zc, zd, ze, zf, zg, zh, zi, zj, zk, zl, zm, zn, zo, zp, reduceCtorEq, zE, ↓reduceIte]
    refine brB (fun yc3 => ?_) (fun yc3 => ?_)
    · simp -implicitDefEqProofs only [c25_11_e, c25_12_e, c25_13_r, (show opsOf c25_13 = _ :: _ from rfl), Tryd.underlying41, sz9, enS_a, yc1, yc3, setA, setB, za, zb, zc, zd, ze, zf, zg, zh, zi, zj, zk, zl, zm, zn, zo, zp, reduceCtorEq, zE, ↓reduceIte]
      refine brP (fun yc4 => ?_) (fun yc4 => ?_)
      · have yd5 : 0 < yr2.2.length := by omega
        simp -implicitDefEqProofs only [(enL_get enS yr2.2 0 yd5), enS_e, sz9, ag9, c25_14_e, yc1, yc3, yc4, yd5, setA, setB, za, zb, zc, zd, ze, zf, zg, zh, zi, zj, zk, zl, zm, zn, zo, zp, reduceCtorEq, zE, ↓reduceIte]
        all_goals rfl
      · rw [if_neg yc4]; rfl
    · simp -implicitDefEqProofs only [c25_8_e, c25_9_r, (show opsOf c25_9 = _ :: _ from rfl), c25_10_e, yc1, yc3, setA, setB, za, zb, zc, zd, ze, zf, zg, zh, zi, zj, zk, zl, zm, zn, zo, zp, reduceCtorEq, zE, ↓reduceIte]
      all_goals rfl
noncomputable def c35_0 : Code := bodyOf Tryd.f35
def c35_1 := cA c35_0
def c35_2 := cB c35_0
def c35_3 := cA c35_2
def c35_4 := cB c35_2
theorem c35_0_e : c35_0 = .seq c35_1 c35_2 := rfl
theorem c35_1_r : RG (E0 mm) 35 c35_1 := rgN rfl
theorem c35_2_e : c35_2 = .seq c35_3 c35_4 := rfl
theorem c35_3_r : RG (E0 mm) 35 c35_3 := rgN rfl
theorem c35_4_e : c35_4 = .ret := rfl
abbrev R35 := (Int)
def e35 : R35 → AV × Heap := fun x => (.v (.c (.d (.sc (.int .i64 x)))), [])
def m35 (s substr : Bs) : Option R35 :=
  (mIx s substr).bind fun yr2 =>
    some yr2
theorem f35_t (s substr : Bs) :
    callW (E0 mm) 35 [.c (.d (.sc (.string (S s)))), .c (.d (.sc (.string (S substr))))] [] = (m35 s substr).map e35 := by
  rw [callW_run (body := c35_0) (res := [.tmp 4]) Tryd.func35 rfl rfl (by kernel_rfl)]
  simp -implicitDefEqProofs only [m35, slots2, c35_0_e, c35_1_r, (show opsOf c35_1 = _ :: _ from rfl), c35_2_e, c35_3_r, (show opsOf c35_3 = _ :: _ from rfl), ent47, prm47, pIndex_t, setA, setB, za, zb, zc, zd, ze, zf, zg, zh, zi, zj, zk, zl, zm, zn, zo, zp, reduceCtorEq, zE, ↓reduceIte]
  refine brM (fun yc1 => ?_) (fun yr2 yc1 => ?_)
  · rw [yc1]; rfl
  · simp -implicitDefEqProofs only [pIndex_t, c35_4_e, yc1, setA, setB, za, zb, zc, zd, ze, zf, zg, zh, zi, zj, zk, zl, zm, zn, zo, zp, reduceCtorEq, zE, ↓reduceIte]
    all_goals rfl
noncomputable def c36_0 : Code := bodyOf Tryd.f36
def c36_1 := cA c36_0
def c36_2 := cB c36_0
def c36_3 := cA c36_2
def c36_4 := cB c36_2
def c36_5 := cA c36_4
def c36_6 := cA c36_5
def c36_7 := cB c36_5
def c36_8 := cA c36_7
def c36_9 := cA c36_8
def c36_10 := cA c36_9
def c36_11 := cB c36_9
def c36_12 := cA c36_11
def c36_13 := cA c36_12
def c36_14 := cB c36_12
def c36_15 := cB c36_11
def c36_16 := cA c36_15
def c36_17 := cA c36_16
def c36_18 := cA c36_17
def c36_19 := cB c36_17
def c36_20 := cB c36_15
def c36_21 := cB c36_4
def c36_22 := cA c36_21
def c36_23 := cB c36_21
theorem c36_0_e : c36_0 = .seq c36_1 c36_2 := rfl
theorem c36_1_r : RG (E0 mm) 36 c36_1 := rgN rfl
theorem c36_2_e : c36_2 = .seq c36_3 c36_4 := rfl
theorem c36_3_r : RG (E0 mm) 36 c36_3 := rgN rfl
theorem c36_4_e : c36_4 = .seq c36_5 c36_21 := rfl
theorem c36_5_e : c36_5 = .seq c36_6 c36_7 := rfl
theorem c36_6_r : RG (E0 mm) 36 c36_6 := rgN rfl
theorem c36_7_e : c36_7 = .block 0 c36_8 := rfl
theorem c36_8_l (m : Nat) (st : St) : den (E0 mm) 36 m (callW (E0 mm)) itW c36_8 none st = loopD itW (loopF (E0 mm) 36 m (callW (E0 mm)) itW c36_9 [(0, .keep), (3, .keep), (6, .keep), (7, .keep)]) (canon m [(0, .keep), (3, .keep), (6, .keep), (7, .keep)] st) := rfl
theorem c36_9_e : c36_9 = .seq c36_10 c36_11 := rfl
theorem c36_10_r : RG (E0 mm) 36 c36_10 := rgN rfl
theorem c36_11_e : c36_11 = .seq c36_12 c36_15 := rfl
theorem c36_13_e : c36_13 = .skip := rfl
theorem c36_14_e : c36_14 = .exit 0 := rfl
theorem c36_15_e : c36_15 = .seq c36_16 c36_20 := rfl
theorem c36_16_e : c36_16 = .block 1 c36_17 := rfl
theorem c36_17_e : c36_17 = .seq c36_18 c36_19 := rfl
theorem c36_18_r : RG (E0 mm) 36 c36_18 := rgN rfl
theorem c36_19_r : RG (E0 mm) 36 c36_19 := rgN rfl
theorem c36_20_r : RG (E0 mm) 36 c36_20 := rgN rfl
theorem c36_21_e : c36_21 = .seq c36_22 c36_23 := rfl
theorem c36_22_r : RG (E0 mm) 36 c36_22 := rgN rfl
theorem c36_23_e : c36_23 = .ret := rfl
abbrev R36 := (Int)
def e36 : R36 → AV × Heap := fun x => (.v (.c (.d (.sc (.int .i64 x)))), [])
def K36_8 : Option (Ex × St) → Option (AV × Heap) := fun r => bodyD (E0 mm) [.tmp 2] 0 false (seqD (E0 mm) 36 0 (callW (E0 mm)) itW c36_21 (blockD 0 (r)))
def en36_8 : (Bs × Int × Int × Int) → X := fun x => (none, [.v (.c (.d (.sc (.string (S x.1))))), .v (.c (.d (.sc (.int .i64 x.2.1)))), .v (.c (.d (.sc (.int .i64 x.2.2.1)))), .v (.c (.d (.sc (.int .i64 x.2.2.2))))], [])
def j36_21 (n3 : Int) : Option R36 :=
  some n3
theorem j36_21_t (n3 : Int)  (sl : Nat → AV) (zq3 : sl 3 = .v (.c (.d (.sc (.int .i64 n3))))) :
    bodyD (E0 mm) [.tmp 2] 0 false (den (E0 mm) 36 0 (callW (E0 mm)) itW c36_21 none ⟨sl, []⟩) = (j36_21 n3).map e36 := by
  simp -implicitDefEqProofs only [j36_21, c36_21_e, c36_22_r, (show opsOf c36_22 = _ :: _ from rfl), c36_23_e, zq3, setA, setB, za, zb, zc, zd, ze, zf, zg, zh, zi, zj, zk, zl, zm, zn, zo, zp, reduceCtorEq, zE, ↓reduceIte]
  all_goals rfl
def s36_8 (s0 : Bs) (n3 t6 t7 : Int) : Option ((Bs × Int × Int × Int) ⊕ R36) :=
  if (decide (t7 < t6)) = true then
    if 0 ≤ t7 ∧ t7 < (s0.length : Int) then
      some (.inl (s0, (w64 ((w64 (10 * n3)) + ((((s0.getD t7.toNat 0) - (48 : UInt8)).toNat : Int).tmod 10))), t6, (w64 (t7 + 1))))
    else none
  else
    (j36_21 n3).map .inr
theorem s36_8_t (s0 : Bs) (n3 t6 t7 : Int) :
    stepE (K36_8 (mm := mm)) (loopF (E0 mm) 36 0 (callW (E0 mm)) itW c36_9 [(0, .keep), (3, .keep), (6, .keep), (7, .keep)] (none, [.v (.c (.d (.sc (.string (S s0))))), .v (.c (.d (.sc (.int .i64 n3)))), .v (.c (.d (.sc (.int .i64 t6)))), .v (.c (.d (.sc (.int .i64 t7))))], [])) = (s36_8 s0 n3 t6 t7).map (sm en36_8 e36) := by
  simp -implicitDefEqProofs only [s36_8, loopF_eq, c36_9_e, c36_10_r, (show opsOf c36_10 = _ :: _ from rfl), c36_11_e, (show c36_12 = Code.cond _ c36_13 c36_14 from rfl), setA, setB, za, zb, zc, zd, ze, zf, zg, zh, zi, zj, zk, zl, zm, zn, zo, zp, reduceCtorEq, zE, ↓reduceIte]
  refine brB (fun yc1 => ?_) (fun yc1 => ?_)
  · simp -implicitDefEqProofs only [c36_13_e, c36_15_e, c36_16_e, c36_17_e, c36_18_r, (show opsOf c36_18 = _ :: _ from rfl), c36_19_r, (show opsOf c36_19 = _ :: _ from rfl), Tryd.underlying9, yc1, setA, setB, za, zb, zc, zd, ze, zf, zg, zh, zi, zj, zk, zl, zm, zn, zo, zp, reduceCtorEq, zE, ↓reduceIte]
    refine brP (fun yc2 => ?_) (fun yc2 => ?_)
    · simp -implicitDefEqProofs only [Tryd.underlying5, Tryd.underlying3, c36_20_r, (show opsOf c36_20 = _ :: _ from rfl), yc1, yc2, setA, setB, za, zb, zc, zd, ze, zf, zg, zh, zi, zj, zk, zl, zm, zn, zo, zp, reduceCtorEq, zE, ↓reduceIte]
      all_goals rfl
    · rw [if_neg yc2]; rfl
  · simp -implicitDefEqProofs only [c36_14_e, K36_8, yc1, setA, setB, za, zb, zc, zd, ze, zf, zg, zh, zi, zj, zk, zl, zm, zn, zo, zp, reduceCtorEq, zE, ↓reduceIte]
    exact mi (j36_21_t n3 _ (by rfl))
def l36_8 (s0 : Bs) (n3 t6 t7 : Int) : Option R36 := iter (fun x : (Bs × Int × Int × Int) => s36_8 x.1 x.2.1 x.2.2.1 x.2.2.2) (s0, n3, t6, t7)
theorem l36_8_t (s0 : Bs) (n3 t6 t7 : Int) : bodyD (E0 mm) [.tmp 2] 0 false (seqD (E0 mm) 36 0 (callW (E0 mm)) itW c36_21 (blockD 0 (itW (loopF (E0 mm) 36 0 (callW (E0 mm)) itW c36_9 [(0, .keep), (3, .keep), (6, .keep), (7, .keep)]) (none, [.v (.c (.d (.sc (.string (S s0))))), .v (.c (.d (.sc (.int .i64 n3)))), .v (.c (.d (.sc (.int .i64 t6)))), .v (.c (.d (.sc (.int .i64 t7))))], [])))) = (l36_8 s0 n3 t6 t7).map e36 :=
  it_sim (K := (K36_8 (mm := mm))) rfl (enc := en36_8) (fun x => s36_8_t x.1 x.2.1 x.2.2.1 x.2.2.2) (s0, n3, t6, t7)
def m36 (s : Bs) : Option R36 :=
  l36_8 s (0 : Int) (s.length : Int) (0 : Int)
theorem f36_t (s : Bs) :
    callW (E0 mm) 36 [.c (.d (.sc (.string (S s))))] [] = (m36 s).map e36 := by
  rw [callW_run (body := c36_0) (res := [.tmp 2]) Tryd.func36 rfl rfl (by kernel_rfl)]
  simp -implicitDefEqProofs only [m36, slots1, c36_0_e, c36_1_r, (show opsOf c36_1 = _ :: _ from rfl), c36_2_e, c36_3_r, (show opsOf c36_3 = _ :: _ from rfl), c36_4_e, c36_5_e, c36_6_r, (show opsOf c36_6 = _ :: _ from rfl), Tryd.underlying9, c36_7_e, c36_8_l, setA, setB, za, zb, zc, zd, ze, zf, zg, zh, zi, zj, zk, zl, zm, zn, zo, zp, reduceCtorEq, zE, ↓reduceIte]
  exact l36_8_t s (0 : Int) (s.length : Int) (0 : Int)
noncomputable def c38_0 : Code := bodyOf Tryd.f38
def c38_1 := cA c38_0
def c38_2 := cB c38_0
def c38_3 := cA c38_2
def c38_4 := cB c38_2
def c38_5 := cA c38_4
def c38_6 := cB c38_4
def c38_7 := cA c38_6
def c38_8 := cB c38_6
theorem c38_0_e : c38_0 = .seq c38_1 c38_2 := rfl
theorem c38_1_r : RG (E0 mm) 38 c38_1 := rgN rfl
theorem c38_2_e : c38_2 = .seq c38_3 c38_4 := rfl
theorem c38_3_r : RG (E0 mm) 38 c38_3 := rgN rfl
theorem c38_4_e : c38_4 = .seq c38_5 c38_6 := rfl
theorem c38_5_r : RG (E0 mm) 38 c38_5 := rgN rfl
theorem c38_6_e : c38_6 = .seq c38_7 c38_8 := rfl
theorem c38_7_r : RG (E0 mm) 38 c38_7 := rgN rfl
theorem c38_8_e : c38_8 = .ret := rfl
abbrev R38 := (Int)
def e38 : R38 → AV × Heap := fun x => (.v (.c (.d (.sc (.int .i64 x)))), [])
def m38 (year : Int) : Option R38 :=
  some (w64 ((w64 ((w64 (365 * (w64 (year - 1970)))) + (w64 ((w64 ((w64 ((w64 (year - 1)).tdiv 4)) - (w64 ((w64 (year - 1)).tdiv 100)))) + (w64 ((w64 (year - 1)).tdiv 400)))))) - 477))
theorem f38_t (year : Int) :
    callW (E0 mm) 38 [.c (.d (.sc (.int .i64 year)))] [] = (m38 year).map e38 := by
  rw [callW_run (body := c38_0) (res := [.tmp 2]) Tryd.func38 rfl rfl (by kernel_rfl)]
  simp -implicitDefEqProofs only [m38, slots1, c38_0_e, c38_1_r, (show opsOf c38_1 = _ :: _ from rfl), c38_2_e, c38_3_r, (show opsOf c38_3 = _ :: _ from rfl), c38_4_e, c38_5_r, (show opsOf c38_5 = _ :: _ from rfl), c38_6_e, c38_7_r, (show opsOf c38_7 = _ :: _ from rfl), c38_8_e, setA, setB, za, zb, zc, zd, ze, zf, zg, zh, zi, zj, zk, zl, zm, zn, zo, zp, reduceCtorEq, zE, ↓reduceIte]
  all_goals rfl
noncomputable def c48_0 : Code := bodyOf Tryd.f48
def c48_1 := cA c48_0
def c48_2 := cB c48_0
def c48_3 := cA c48_2
def c48_4 := cB c48_2
theorem c48_0_e : c48_0 = .seq c48_1 c48_2 := rfl
theorem c48_1_r : RG (E0 mm) 48 c48_1 := rgN rfl
theorem c48_2_e : c48_2 = .seq c48_3 c48_4 := rfl
theorem c48_3_r : RG (E0 mm) 48 c48_3 := rgN rfl
theorem c48_4_e : c48_4 = .ret := rfl
abbrev R48 := (Bool)
def e48 : R48 → AV × Heap := fun x => (.v (.c (.d (.sc (.bool x)))), [])
def m48 (year : Int) : Option R48 :=
  if ((year.tmod 4) == 0) = true then
    if ((year.tmod 100) == 0) = true then
      some ((year.tmod 400) == 0)
    else
      some true
  else
    some ((year.tmod 400) == 0)
theorem f48_t (year : Int) :
    callW (E0 mm) 48 [.c (.d (.sc (.int .i64 year)))] [] = (m48 year).map e48 := by
  rw [callW_run (body := c48_0) (res := [.tmp 2]) Tryd.func48 rfl rfl (by kernel_rfl)]
  simp -implicitDefEqProofs only [m48, slots1, c48_0_e, c48_1_r, (show opsOf c48_1 = _ :: _ from rfl), c48_2_e, c48_3_r, (show opsOf c48_3 = _ :: _ from rfl), setA, setB, za, zb, zc, zd, ze, zf, zg, zh, zi, zj, zk, zl, zm, zn, zo, zp, reduceCtorEq, zE, ↓reduceIte]
  refine brB (fun yc1 => ?_) (fun yc1 => ?_)
  · simp -implicitDefEqProofs only [yc1, setA, setB, za, zb, zc, zd, ze, zf, zg, zh, zi, zj, zk, zl, zm, zn, zo, zp, reduceCtorEq, zE, ↓reduceIte]
    refine brB (fun yc2 => ?_) (fun yc2 => ?_)
    · simp -implicitDefEqProofs only [c48_4_e, yc1, yc2, setA, setB, za, zb, zc, zd, ze, zf, zg, zh, zi, zj, zk, zl, zm, zn, zo, zp, reduceCtorEq, zE, ↓reduceIte]
      all_goals rfl
    · simp -implicitDefEqProofs only [c48_4_e, yc1, yc2, setA, setB, za, zb, zc, zd, ze, zf, zg, zh, zi, zj, zk, zl, zm, zn, zo, zp, reduceCtorEq, zE, ↓reduceIte]
      all_goals rfl
  · simp -implicitDefEqProofs only [c48_4_e, yc1, setA, setB, za, zb, zc, zd, ze, zf, zg, zh, zi, zj, zk, zl, zm, zn, zo, zp, reduceCtorEq, zE, ↓reduceIte]
    all_goals rfl
noncomputable def c37_0 : Code := bodyOf Tryd.f37
def c37_1 := cA c37_0
def c37_2 := cB c37_0
def c37_3 := cA c37_2
def c37_4 := cB c37_2
def c37_5 := cA c37_4
def c37_6 := cA c37_5
def c37_7 := cB c37_5
def c37_8 := cA c37_7
def c37_9 := cA c37_8
def c37_10 := cB c37_8
def c37_11 := cB c37_7
def c37_12 := cB c37_4
def c37_13 := cA c37_12
def c37_14 := cB c37_12
theorem c37_0_e : c37_0 = .seq c37_1 c37_2 := rfl
theorem c37_1_r : RG (E0 mm) 37 c37_1 := rgN rfl
theorem c37_2_e : c37_2 = .seq c37_3 c37_4 := rfl
theorem c37_3_r : RG (E0 mm) 37 c37_3 := rgN rfl
theorem c37_4_e : c37_4 = .seq c37_5 c37_12 := rfl
theorem c37_5_e : c37_5 = .seq c37_6 c37_7 := rfl
theorem c37_6_r : RG (E0 mm) 37 c37_6 := rgN rfl
theorem c37_8_e : c37_8 = .seq c37_9 c37_10 := rfl
theorem c37_9_r : RG (E0 mm) 37 c37_9 := rgN rfl
theorem c37_10_e : c37_10 = .ret := rfl
theorem c37_11_e : c37_11 = .skip := rfl
theorem c37_12_e : c37_12 = .seq c37_13 c37_14 := rfl
theorem c37_13_r : RG (E0 mm) 37 c37_13 := rgN rfl
theorem c37_14_e : c37_14 = .ret := rfl
abbrev R37 := (Int)
def e37 : R37 → AV × Heap := fun x => (.v (.c (.d (.sc (.int .i64 x)))), [])
def j37_7 (month1 : Int) (t12 : Bool) : Option R37 :=
  if t12 = true then
    some (29 : Int)
  else
    if 0 ≤ month1 ∧ month1 < 12 then
      some (([(31 : Int), (28 : Int), (31 : Int), (30 : Int), (31 : Int), (30 : Int), (31 : Int), (31 : Int), (30 : Int), (31 : Int), (30 : Int), (31 : Int)] : List Int).getD month1.toNat default)
    else none
theorem j37_7_t (month1 : Int) (t12 : Bool)  (sl : Nat → AV) (zq1 : sl 1 = .v (.c (.d (.sc (.int .i64 month1))))) (zq5 : sl 5 = .v (.c (.ptr 0 0))) (zq12 : sl 12 = .v (.c (.d (.sc (.bool t12))))) :
    bodyD (E0 mm) [.tmp 4] 0 false (seqD (E0 mm) 37 0 (callW (E0 mm)) itW c37_12 (den (E0 mm) 37 0 (callW (E0 mm)) itW c37_7 none ⟨sl, [.cells [.d (.sc (.int .i64 31)), .d (.sc (.int .i64 28)), .d (.sc (.int .i64 31)), .d (.sc (.int .i64 30)), .d (.sc (.int .i64 31)), .d (.sc (.int .i64 30)), .d (.sc (.int .i64 31)), .d (.sc (.int .i64 31)), .d (.sc (.int .i64 30)), .d (.sc (.int .i64 31)), .d (.sc (.int .i64 30)), .d (.sc (.int .i64 31))]]⟩)) = (j37_7 month1 t12).map e37 := by
  simp -implicitDefEqProofs only [j37_7, (show c37_7 = Code.cond _ c37_8 c37_11 from rfl), zq1, zq5, zq12, setA, setB, za, zb, zc, zd, ze, zf, zg, zh, zi, zj, zk, zl, zm, zn, zo, zp, reduceCtorEq, zE, ↓reduceIte]
  refine brB (fun yc4 => ?_) (fun yc4 => ?_)
  · simp -implicitDefEqProofs only [c37_8_e, c37_9_r, (show opsOf c37_9 = _ :: _ from rfl), c37_10_e, zq1, zq5, zq12, yc4, setA, setB, za, zb, zc, zd, ze, zf, zg, zh, zi, zj, zk, zl, zm, zn, zo, zp, reduceCtorEq, zE, ↓reduceIte]
    all_goals rfl
  · simp -implicitDefEqProofs only [c37_11_e, c37_12_e, c37_13_r, (show opsOf c37_13 = _ :: _ from rfl), Tryd.underlying89, sz3, zq1, zq5, zq12, yc4, setA, setB, za, zb, zc, zd, ze, zf, zg, zh, zi, zj, zk, zl, zm, zn, zo, zp, reduceCtorEq, zE, ↓reduceIte]
    refine brP (fun yc5 => ?_) (fun yc5 => ?_)
    · have yd6 : month1.toNat < 12 := by omega
      simp -implicitDefEqProofs only [sz3, ag3, ar52, c37_14_e, zq1, zq5, zq12, yc4, yc5, yd6, setA, setB, za, zb, zc, zd, ze, zf, zg, zh, zi, zj, zk, zl, zm, zn, zo, zp, reduceCtorEq, zE, ↓reduceIte]
      all_goals rfl
    · rw [if_neg yc5]; rfl
def m37 (year month : Int) : Option R37 :=
  if (month == 1) = true then
    (m48 year).bind fun yr3 =>
      j37_7 month yr3
  else
    j37_7 month false
theorem f37_t (year month : Int) :
    callW (E0 mm) 37 [.c (.d (.sc (.int .i64 year))), .c (.d (.sc (.int .i64 month)))] [] = (m37 year month).map e37 := by
  rw [callW_run (body := c37_0) (res := [.tmp 4]) Tryd.func37 rfl rfl (by kernel_rfl)]
  simp -implicitDefEqProofs only [m37, slots2, c37_0_e, c37_1_r, (show opsOf c37_1 = _ :: _ from rfl), c37_2_e, c37_3_r, (show opsOf c37_3 = _ :: _ from rfl), Tryd.underlying89, zc89, sz3, ao51, sz89, c37_4_e, c37_5_e, c37_6_r, (show opsOf c37_6 = _ :: _ from rfl), setA, setB, za, zb, zc, zd, ze, zf, zg, zh, zi, zj, zk, zl, zm, zn, zo, zp, reduceCtorEq, zE, ↓reduceIte]
  refine brB (fun yc1 => ?_) (fun yc1 => ?_)
  · simp -implicitDefEqProofs only [ent48, prm48, f48_t, yc1, setA, setB, za, zb, zc, zd, ze, zf, zg, zh, zi, zj, zk, zl, zm, zn, zo, zp, reduceCtorEq, zE, ↓reduceIte]
    refine brM (fun yc2 => ?_) (fun yr3 yc2 => ?_)
    · rw [yc2]; rfl
    · simp -implicitDefEqProofs only [e48, yc1, yc2, setA, setB, za, zb, zc, zd, ze, zf, zg, zh, zi, zj, zk, zl, zm, zn, zo, zp, reduceCtorEq, zE, ↓reduceIte]
      exact j37_7_t month yr3 _ (by rfl) (by rfl) (by rfl)
  · simp -implicitDefEqProofs only [yc1, setA, setB, za, zb, zc, zd, ze, zf, zg, zh, zi, zj, zk, zl, zm, zn, zo, zp, reduceCtorEq, zE, ↓reduceIte]
    exact j37_7_t month false _ (by rfl) (by rfl) (by rfl)
noncomputable def c49_0 : Code := bodyOf Tryd.f49
def c49_1 := cA c49_0
def c49_2 := cB c49_0
def c49_3 := cA c49_2
def c49_4 := cB c49_2
theorem c49_0_e : c49_0 = .seq c49_1 c49_2 := rfl
theorem c49_1_r : RG (E0 mm) 49 c49_1 := rgN rfl
theorem c49_2_e : c49_2 = .seq c49_3 c49_4 := rfl
theorem c49_3_r : RG (E0 mm) 49 c49_3 := rgN rfl
theorem c49_4_e : c49_4 = .ret := rfl
abbrev R49 := (Bs)
def e49 : R49 → AV × Heap := fun x => (.v (.c (.d (.sc (.string (S x))))), [])
def m49 (n : Int) : Option R49 :=
  some ([(u8 (w64 (48 + ((w64 (n.tdiv 10)).tmod 10)))), (u8 (w64 (48 + (n.tmod 10))))] : List UInt8)
theorem f49_t (n : Int) :
    callW (E0 mm) 49 [.c (.d (.sc (.int .i64 n)))] [] = (m49 n).map e49 := by
  rw [callW_run (body := c49_0) (res := [.tmp 2]) Tryd.func49 rfl rfl (by kernel_rfl)]
  simp -implicitDefEqProofs only [m49, slots1, c49_0_e, c49_1_r, (show opsOf c49_1 = _ :: _ from rfl), c49_2_e, c49_3_r, (show opsOf c49_3 = _ :: _ from rfl), Tryd.underlying3, Tryd.underlying5, Tryd.underlying33, sz5, zc5, hd53, nv54, rw55, ns56, Tryd.underlying9, c49_4_e, setA, setB, za, zb, zc, zd, ze, zf, zg, zh, zi, zj, zk, zl, zm, zn, zo, zp, reduceCtorEq, zE, ↓reduceIte]
  all_goals rfl
noncomputable def c39_0 : Code := bodyOf Tryd.f39
def c39_1 := cA c39_0
def c39_2 := cB c39_0
def c39_3 := cA c39_2
def c39_4 := cA c39_3
def c39_5 := cB c39_3
def c39_6 := cA c39_5
def c39_7 := cA c39_6
def c39_8 := cB c39_6
def c39_9 := cB c39_5
def c39_10 := cB c39_2
def c39_11 := cA c39_10
def c39_12 := cB c39_10
def c39_13 := cA c39_12
def c39_14 := cB c39_12
def c39_15 := cA c39_14
def c39_16 := cA c39_15
def c39_17 := cA c39_16
def c39_18 := cA c39_17
def c39_19 := cA c39_18
def c39_20 := cB c39_18
def c39_21 := cA c39_20
def c39_22 := cB c39_20
def c39_23 := cB c39_17
def c39_24 := cA c39_23
def c39_25 := cB c39_14
def c39_26 := cA c39_25
def c39_27 := cB c39_25
def c39_28 := cA c39_27
def c39_29 := cA c39_28
def c39_30 := cA c39_29
def c39_31 := cA c39_30
def c39_32 := cA c39_31
def c39_33 := cB c39_31
def c39_34 := cA c39_33
def c39_35 := cB c39_33
def c39_36 := cB c39_30
def c39_37 := cA c39_36
def c39_38 := cA c39_37
def c39_39 := cB c39_37
def c39_40 := cB c39_27
def c39_41 := cA c39_40
def c39_42 := cB c39_40
def c39_43 := cA c39_42
def c39_44 := cB c39_42
theorem c39_0_e : c39_0 = .seq c39_1 c39_2 := rfl
theorem c39_1_r : RG (E0 mm) 39 c39_1 := rgN rfl
theorem c39_2_e : c39_2 = .seq c39_3 c39_10 := rfl
theorem c39_3_e : c39_3 = .seq c39_4 c39_5 := rfl
theorem c39_4_r : RG (E0 mm) 39 c39_4 := rgN rfl
theorem c39_6_e : c39_6 = .seq c39_7 c39_8 := rfl
theorem c39_7_r : RG (E0 mm) 39 c39_7 := rgN rfl
theorem c39_8_e : c39_8 = .ret := rfl
theorem c39_9_e : c39_9 = .skip := rfl
theorem c39_10_e : c39_10 = .seq c39_11 c39_12 := rfl
theorem c39_11_r : RG (E0 mm) 39 c39_11 := rgN rfl
theorem c39_12_e : c39_12 = .seq c39_13 c39_14 := rfl
theorem c39_13_r : RG (E0 mm) 39 c39_13 := rgN rfl
theorem c39_14_e : c39_14 = .seq c39_15 c39_25 := rfl
theorem c39_15_e : c39_15 = .block 0 c39_16 := rfl
theorem c39_16_l (m : Nat) (st : St) : den (E0 mm) 39 m (callW (E0 mm)) itW c39_16 none st = loopD itW (loopF (E0 mm) 39 m (callW (E0 mm)) itW c39_17 [(4, .keep), (5, .keep), (6, .keep)]) (canon m [(4, .keep), (5, .keep), (6, .keep)] st) := rfl
theorem c39_17_e : c39_17 = .seq c39_18 c39_23 := rfl
theorem c39_18_e : c39_18 = .seq c39_19 c39_20 := rfl
theorem c39_19_r : RG (E0 mm) 39 c39_19 := rgN rfl
theorem c39_21_e : c39_21 = .skip := rfl
theorem c39_22_e : c39_22 = .exit 0 := rfl
theorem c39_23_e : c39_23 = .block 1 c39_24 := rfl
theorem c39_24_r : RG (E0 mm) 39 c39_24 := rgN rfl
theorem c39_25_e : c39_25 = .seq c39_26 c39_27 := rfl
theorem c39_26_r : RG (E0 mm) 39 c39_26 := rgN rfl
theorem c39_27_e : c39_27 = .seq c39_28 c39_40 := rfl
theorem c39_28_e : c39_28 = .block 2 c39_29 := rfl
theorem c39_29_l (m : Nat) (st : St) : den (E0 mm) 39 m (callW (E0 mm)) itW c39_29 none st = loopD itW (loopF (E0 mm) 39 m (callW (E0 mm)) itW c39_30 [(4, .keep), (5, .keep), (6, .keep), (7, .keep), (8, .keep)]) (canon m [(4, .keep), (5, .keep), (6, .keep), (7, .keep), (8, .keep)] st) := rfl
theorem c39_30_e : c39_30 = .seq c39_31 c39_36 := rfl
theorem c39_31_e : c39_31 = .seq c39_32 c39_33 := rfl
theorem c39_32_r : RG (E0 mm) 39 c39_32 := rgN rfl
theorem c39_34_e : c39_34 = .skip := rfl
theorem c39_35_e : c39_35 = .exit 2 := rfl
theorem c39_36_e : c39_36 = .block 3 c39_37 := rfl
theorem c39_37_e : c39_37 = .seq c39_38 c39_39 := rfl
theorem c39_38_r : RG (E0 mm) 39 c39_38 := rgN rfl
theorem c39_39_r : RG (E0 mm) 39 c39_39 := rgN rfl
theorem c39_40_e : c39_40 = .seq c39_41 c39_42 := rfl
theorem c39_41_r : RG (E0 mm) 39 c39_41 := rgN rfl
theorem c39_42_e : c39_42 = .seq c39_43 c39_44 := rfl
theorem c39_43_r : RG (E0 mm) 39 c39_43 := rgD (by kernel_rfl)
theorem c39_44_e : c39_44 = .ret := rfl
abbrev R39 := (Bs × Int)
def e39 : R39 → AV × Heap := fun x => (.tup [.c (.d (.sc (.string (S x.1)))), .c (.d (.sc (.int .i64 x.2)))], [])
def K39_16 : Option (Ex × St) → Option (AV × Heap) := fun r => bodyD (E0 mm) [.tmp 2, .tmp 3] 0 false (seqD (E0 mm) 39 0 (callW (E0 mm)) itW c39_25 (blockD 0 (r)))
def en39_16 : (Int × Int × Int) → X := fun x => (none, [.v (.c (.d (.sc (.int .i64 x.1)))), .v (.c (.d (.sc (.int .i64 x.2.1)))), .v (.c (.d (.sc (.int .i64 x.2.2))))], [])
def K39_29 : Option (Ex × St) → Option (AV × Heap) := fun r => bodyD (E0 mm) [.tmp 2, .tmp 3] 0 false (seqD (E0 mm) 39 0 (callW (E0 mm)) itW c39_40 (blockD 2 (r)))
def en39_29 : (Int × Int × Int × Int × Int) → X := fun x => (none, [.v (.c (.d (.sc (.int .i64 x.1)))), .v (.c (.d (.sc (.int .i64 x.2.1)))), .v (.c (.d (.sc (.int .i64 x.2.2.1)))), .v (.c (.d (.sc (.int .i64 x.2.2.2.1)))), .v (.c (.d (.sc (.int .i64 x.2.2.2.2))))], [])
def j39_40 (d4 s5 : Int) (year6 rest7 month8 : Int) : Option R39 :=
  (bnd (w64 ((w64 (3 * (d4.tmod 7))) + 3)) 21).bind fun yk11 =>
    (bnd (w64 (3 * (d4.tmod 7))) yk11).bind fun yk13 =>
      if ((([84, 104, 117, 70, 114, 105, 83, 97, 116, 83, 117, 110, 77, 111, 110, 84, 117, 101, 87, 101, 100] : Bs).take yk11).drop yk13).length + 2 < 9223372036854775808 then
        (m49 (w64 (rest7 + 1))).bind fun yr16 =>
          if (((([84, 104, 117, 70, 114, 105, 83, 97, 116, 83, 117, 110, 77, 111, 110, 84, 117, 101, 87, 101, 100] : Bs).take yk11).drop yk13) ++ ([44, 32] : Bs)).length + yr16.length < 9223372036854775808 then
            if ((((([84, 104, 117, 70, 114, 105, 83, 97, 116, 83, 117, 110, 77, 111, 110, 84, 117, 101, 87, 101, 100] : Bs).take yk11).drop yk13) ++ ([44, 32] : Bs)) ++ yr16).length + 1 < 9223372036854775808 then
              (bnd (w64 ((w64 (3 * month8)) + 3)) 36).bind fun yk20 =>
                (bnd (w64 (3 * month8)) yk20).bind fun yk22 =>
                  if (((((([84, 104, 117, 70, 114, 105, 83, 97, 116, 83, 117, 110, 77, 111, 110, 84, 117, 101, 87, 101, 100] : Bs).take yk11).drop yk13) ++ ([44, 32] : Bs)) ++ yr16) ++ ([32] : Bs)).length + ((([74, 97, 110, 70, 101, 98, 77, 97, 114, 65, 112, 114, 77, 97, 121, 74, 117, 110, 74, 117, 108, 65, 117, 103, 83, 101, 112, 79, 99, 116, 78, 111, 118, 68, 101, 99] : Bs).take yk20).drop yk22).length < 9223372036854775808 then
                    if ((((((([84, 104, 117, 70, 114, 105, 83, 97, 116, 83, 117, 110, 77, 111, 110, 84, 117, 101, 87, 101, 100] : Bs).take yk11).drop yk13) ++ ([44, 32] : Bs)) ++ yr16) ++ ([32] : Bs)) ++ ((([74, 97, 110, 70, 101, 98, 77, 97, 114, 65, 112, 114, 77, 97, 121, 74, 117, 110, 74, 117, 108, 65, 117, 103, 83, 101, 112, 79, 99, 116, 78, 111, 118, 68, 101, 99] : Bs).take yk20).drop yk22)).length + 1 < 9223372036854775808 then
                      (m49 (w64 (year6.tdiv 100))).bind fun yr26 =>
                        if (((((((([84, 104, 117, 70, 114, 105, 83, 97, 116, 83, 117, 110, 77, 111, 110, 84, 117, 101, 87, 101, 100] : Bs).take yk11).drop yk13) ++ ([44, 32] : Bs)) ++ yr16) ++ ([32] : Bs)) ++ ((([74, 97, 110, 70, 101, 98, 77, 97, 114, 65, 112, 114, 77, 97, 121, 74, 117, 110, 74, 117, 108, 65, 117, 103, 83, 101, 112, 79, 99, 116, 78, 111, 118, 68, 101, 99] : Bs).take yk20).drop yk22)) ++ ([32] : Bs)).length + yr26.length < 9223372036854775808 then
                          (m49 (year6.tmod 100)).bind fun yr29 =>
                            if ((((((((([84, 104, 117, 70, 114, 105, 83, 97, 116, 83, 117, 110, 77, 111, 110, 84, 117, 101, 87, 101, 100] : Bs).take yk11).drop yk13) ++ ([44, 32] : Bs)) ++ yr16) ++ ([32] : Bs)) ++ ((([74, 97, 110, 70, 101, 98, 77, 97, 114, 65, 112, 114, 77, 97, 121, 74, 117, 110, 74, 117, 108, 65, 117, 103, 83, 101, 112, 79, 99, 116, 78, 111, 118, 68, 101, 99] : Bs).take yk20).drop yk22)) ++ ([32] : Bs)) ++ yr26).length + yr29.length < 9223372036854775808 then
                              if (((((((((([84, 104, 117, 70, 114, 105, 83, 97, 116, 83, 117, 110, 77, 111, 110, 84, 117, 101, 87, 101, 100] : Bs).take yk11).drop yk13) ++ ([44, 32] : Bs)) ++ yr16) ++ ([32] : Bs)) ++ ((([74, 97, 110, 70, 101, 98, 77, 97, 114, 65, 112, 114, 77, 97, 121, 74, 117, 110, 74, 117, 108, 65, 117, 103, 83, 101, 112, 79, 99, 116, 78, 111, 118, 68, 101, 99] : Bs).take yk20).drop yk22)) ++ ([32] : Bs)) ++ yr26) ++ yr29).length + 1 < 9223372036854775808 then
                                (m49 (w64 (s5.tdiv 3600))).bind fun yr33 =>
                                  if ((((((((((([84, 104, 117, 70, 114, 105, 83, 97, 116, 83, 117, 110, 77, 111, 110, 84, 117, 101, 87, 101, 100] : Bs).take yk11).drop yk13) ++ ([44, 32] : Bs)) ++ yr16) ++ ([32] : Bs)) ++ ((([74, 97, 110, 70, 101, 98, 77, 97, 114, 65, 112, 114, 77, 97, 121, 74, 117, 110, 74, 117, 108, 65, 117, 103, 83, 101, 112, 79, 99, 116, 78, 111, 118, 68, 101, 99] : Bs).take yk20).drop yk22)) ++ ([32] : Bs)) ++ yr26) ++ yr29) ++ ([32] : Bs)).length + yr33.length < 9223372036854775808 then
                                    if (((((((((((([84, 104, 117, 70, 114, 105, 83, 97, 116, 83, 117, 110, 77, 111, 110, 84, 117, 101, 87, 101, 100] : Bs).take yk11).drop yk13) ++ ([44, 32] : Bs)) ++ yr16) ++ ([32] : Bs)) ++ ((([74, 97, 110, 70, 101, 98, 77, 97, 114, 65, 112, 114, 77, 97, 121, 74, 117, 110, 74, 117, 108, 65, 117, 103, 83, 101, 112, 79, 99, 116, 78, 111, 118, 68, 101, 99] : Bs).take yk20).drop yk22)) ++ ([32] : Bs)) ++ yr26) ++ yr29) ++ ([32] : Bs)) ++ yr33).length + 1 < 9223372036854775808 then
                                      (m49 ((w64 (s5.tdiv 60)).tmod 60)).bind fun yr37 =>
                                        if ((((((((((((([84, 104, 117, 70, 114, 105, 83, 97, 116, 83, 117, 110, 77, 111, 110, 84, 117, 101, 87, 101, 100] : Bs).take yk11).drop yk13) ++ ([44, 32] : Bs)) ++ yr16) ++ ([32] : Bs)) ++ ((([74, 97, 110, 70, 101, 98, 77, 97, 114, 65, 112, 114, 77, 97, 121, 74, 117, 110, 74, 117, 108, 65, 117, 103, 83, 101, 112, 79, 99, 116, 78, 111, 118, 68, 101, 99] : Bs).take yk20).drop yk22)) ++ ([32] : Bs)) ++ yr26) ++ yr29) ++ ([32] : Bs)) ++ yr33) ++ ([58] : Bs)).length + yr37.length < 9223372036854775808 then
                                          if (((((((((((((([84, 104, 117, 70, 114, 105, 83, 97, 116, 83, 117, 110, 77, 111, 110, 84, 117, 101, 87, 101, 100] : Bs).take yk11).drop yk13) ++ ([44, 32] : Bs)) ++ yr16) ++ ([32] : Bs)) ++ ((([74, 97, 110, 70, 101, 98, 77, 97, 114, 65, 112, 114, 77, 97, 121, 74, 117, 110, 74, 117, 108, 65, 117, 103, 83, 101, 112, 79, 99, 116, 78, 111, 118, 68, 101, 99] : Bs).take yk20).drop yk22)) ++ ([32] : Bs)) ++ yr26) ++ yr29) ++ ([32] : Bs)) ++ yr33) ++ ([58] : Bs)) ++ yr37).length + 1 < 9223372036854775808 then
                                            (m49 (s5.tmod 60)).bind fun yr41 =>
                                              if ((((((((((((((([84, 104, 117, 70, 114, 105, 83, 97, 116, 83, 117, 110, 77, 111, 110, 84, 117, 101, 87, 101, 100] : Bs).take yk11).drop yk13) ++ ([44, 32] : Bs)) ++ yr16) ++ ([32] : Bs)) ++ ((([74, 97, 110, 70, 101, 98, 77, 97, 114, 65, 112, 114, 77, 97, 121, 74, 117, 110, 74, 117, 108, 65, 117, 103, 83, 101, 112, 79, 99, 116, 78, 111, 118, 68, 101, 99] : Bs).take yk20).drop yk22)) ++ ([32] : Bs)) ++ yr26) ++ yr29) ++ ([32] : Bs)) ++ yr33) ++ ([58] : Bs)) ++ yr37) ++ ([58] : Bs)).length + yr41.length < 9223372036854775808 then
                                                if (((((((((((((((([84, 104, 117, 70, 114, 105, 83, 97, 116, 83, 117, 110, 77, 111, 110, 84, 117, 101, 87, 101, 100] : Bs).take yk11).drop yk13) ++ ([44, 32] : Bs)) ++ yr16) ++ ([32] : Bs)) ++ ((([74, 97, 110, 70, 101, 98, 77, 97, 114, 65, 112, 114, 77, 97, 121, 74, 117, 110, 74, 117, 108, 65, 117, 103, 83, 101, 112, 79, 99, 116, 78, 111, 118, 68, 101, 99] : Bs).take yk20).drop yk22)) ++ ([32] : Bs)) ++ yr26) ++ yr29) ++ ([32] : Bs)) ++ yr33) ++ ([58] : Bs)) ++ yr37) ++ ([58] : Bs)) ++ yr41).length + 4 < 9223372036854775808 then
                                                  some (((((((((((((((((([84, 104, 117, 70, 114, 105, 83, 97, 116, 83, 117, 110, 77, 111, 110, 84, 117, 101, 87, 101, 100] : Bs).take yk11).drop yk13) ++ ([44, 32] : Bs)) ++ yr16) ++ ([32] : Bs)) ++ ((([74, 97, 110, 70, 101, 98, 77, 97, 114, 65, 112, 114, 77, 97, 121, 74, 117, 110, 74, 117, 108, 65, 117, 103, 83, 101, 112, 79, 99, 116, 78, 111, 118, 68, 101, 99] : Bs).take yk20).drop yk22)) ++ ([32] : Bs)) ++ yr26) ++ yr29) ++ ([32] : Bs)) ++ yr33) ++ ([58] : Bs)) ++ yr37) ++ ([58] : Bs)) ++ yr41) ++ ([32, 71, 77, 84] : Bs)), (0 : Int))
                                                else none
                                              else none
                                          else none
                                        else none
                                    else none
                                  else none
                              else none
                            else none
                        else none
                    else none
                  else none
            else none
          else none
      else none
theorem j39_40_t (d4 s5 : Int) (year6 rest7 month8 : Int)  (sl : Nat → AV) (zq4 : sl 4 = .v (.c (.d (.sc (.int .i64 d4))))) (zq5 : sl 5 = .v (.c (.d (.sc (.int .i64 s5))))) (zq6 : sl 6 = .v (.c (.d (.sc (.int .i64 year6))))) (zq7 : sl 7 = .v (.c (.d (.sc (.int .i64 rest7))))) (zq8 : sl 8 = .v (.c (.d (.sc (.int .i64 month8))))) :
    bodyD (E0 mm) [.tmp 2, .tmp 3] 0 false (den (E0 mm) 39 0 (callW (E0 mm)) itW c39_40 none ⟨sl, []⟩) = (j39_40 d4 s5 year6 rest7 month8).map e39 := by
  simp -implicitDefEqProofs only [j39_40, c39_40_e, c39_41_r, (show opsOf c39_41 = _ :: _ from rfl), c39_42_e, c39_43_r, (show opsOf c39_43 = _ :: _ from rfl), Tryd.underlying9, zq4, zq5, zq6, zq7, zq8, setA, setB, za, zb, zc, zd, ze, zf, zg, zh, zi, zj, zk, zl, zm, zn, zo, zp, reduceCtorEq, zE, ↓reduceIte]
  refine brM (fun yc10 => ?_) (fun yk11 yc10 => ?_)
  · rw [yc10]; rfl
  · simp -implicitDefEqProofs only [zq4, zq5, zq6, zq7, zq8, yc10, setA, setB, za, zb, zc, zd, ze, zf, zg, zh, zi, zj, zk, zl, zm, zn, zo, zp, reduceCtorEq, zE, ↓reduceIte]
    refine brM (fun yc12 => ?_) (fun yk13 yc12 => ?_)
    · rw [yc12]; rfl
    · simp -implicitDefEqProofs only [zq4, zq5, zq6, zq7, zq8, yc10, yc12, setA, setB, za, zb, zc, zd, ze, zf, zg, zh, zi, zj, zk, zl, zm, zn, zo, zp, reduceCtorEq, zE, ↓reduceIte]
      refine brP (fun yc14 => ?_) (fun yc14 => ?_)
      · simp -implicitDefEqProofs only [ent49, prm49, f49_t, zq4, zq5, zq6, zq7, zq8, yc10, yc12, yc14, setA, setB, za, zb, zc, zd, ze, zf, zg, zh, zi, zj, zk, zl, zm, zn, zo, zp, reduceCtorEq, zE, ↓reduceIte]
        refine brM (fun yc15 => ?_) (fun yr16 yc15 => ?_)
        · rw [yc15]; rfl
        · simp -implicitDefEqProofs only [e49, zq4, zq5, zq6, zq7, zq8, yc10, yc12, yc14, yc15, setA, setB, za, zb, zc, zd, ze, zf, zg, zh, zi, zj, zk, zl, zm, zn, zo, zp, reduceCtorEq, zE, ↓reduceIte]
          refine brP (fun yc17 => ?_) (fun yc17 => ?_)
          · simp -implicitDefEqProofs only [zq4, zq5, zq6, zq7, zq8, yc10, yc12, yc14, yc15, yc17, setA, setB, za, zb, zc, zd, ze, zf, zg, zh, zi, zj, zk, zl, zm, zn, zo, zp, reduceCtorEq, zE, ↓reduceIte]
            refine brP (fun yc18 => ?_) (fun yc18 => ?_)
            · simp -implicitDefEqProofs only [Tryd.underlying9, zq4, zq5, zq6, zq7, zq8, yc10, yc12, yc14, yc15, yc17, yc18, setA, setB, za, zb, zc, zd, ze, zf, zg, zh, zi, zj, zk, zl, zm, zn, zo, zp, reduceCtorEq, zE, ↓reduceIte]
              refine brM (fun yc19 => ?_) (fun yk20 yc19 => ?_)
              · rw [yc19]; rfl
              · simp -implicitDefEqProofs only [zq4, zq5, zq6, zq7, zq8, yc10, yc12, yc14, yc15, yc17, yc18, yc19, setA, setB, za, zb, zc, zd, ze, zf, zg, zh, zi, zj, zk, zl, zm, zn, zo, zp, reduceCtorEq, zE, ↓reduceIte]
                refine brM (fun yc21 => ?_) (fun yk22 yc21 => ?_)
                · rw [yc21]; rfl
                · simp -implicitDefEqProofs only [zq4, zq5, zq6, zq7, zq8, yc10, yc12, yc14, yc15, yc17, yc18, yc19, yc21, setA, setB, za, zb, zc, zd, ze, zf, zg, zh, zi, zj, zk, zl, zm, zn, zo, zp, reduceCtorEq, zE, ↓reduceIte]
                  refine brP (fun yc23 => ?_) (fun yc23 => ?_)
                  · simp -implicitDefEqProofs only [zq4, zq5, zq6, zq7, zq8, yc10, yc12, yc14, yc15, yc17, yc18, yc19, yc21, yc23, setA, setB, za, zb, zc, zd, ze, zf, zg, zh, zi, zj, zk, zl, zm, zn, zo, zp, reduceCtorEq, zE, ↓reduceIte]
                    refine brP (fun yc24 => ?_) (fun yc24 => ?_)
                    · simp -implicitDefEqProofs only [ent49, prm49, f49_t, zq4, zq5, zq6, zq7, zq8, yc10, yc12, yc14, yc15, yc17, yc18, yc19, yc21, yc23, yc24, setA, setB, za, zb, zc, zd, ze, zf, zg, zh, zi, zj, zk, zl, zm, zn, zo, zp, reduceCtorEq, zE, ↓reduceIte]
                      refine brM (fun yc25 => ?_) (fun yr26 yc25 => ?_)
                      · rw [yc25]; rfl
                      · simp -implicitDefEqProofs only [e49, zq4, zq5, zq6, zq7, zq8, yc10, yc12, yc14, yc15, yc17, yc18, yc19, yc21, yc23, yc24, yc25, setA, setB, za, zb, zc, zd, ze, zf, zg, zh, zi, zj, zk, zl, zm, zn, zo, zp, reduceCtorEq, zE, ↓reduceIte]
                        refine brP (fun yc27 => ?_) (fun yc27 => ?_)
                        · simp -implicitDefEqProofs only [ent49, prm49, f49_t, zq4, zq5, zq6, zq7, zq8, yc10, yc12, yc14, yc15, yc17, yc18, yc19, yc21, yc23, yc24, yc25, yc27, setA, setB, za, zb, zc, zd, ze, zf, zg, zh, zi, zj, zk, zl, zm, zn, zo, zp, reduceCtorEq, zE, ↓reduceIte]
                          refine brM (fun yc28 => ?_) (fun yr29 yc28 => ?_)
                          · rw [yc28]; rfl
                          · simp -implicitDefEqProofs only [e49, zq4, zq5, zq6, zq7, zq8, yc10, yc12, yc14, yc15, yc17, yc18, yc19, yc21, yc23, yc24, yc25, yc27, yc28, setA, setB, za, zb, zc, zd, ze, zf, zg, zh, zi, zj, zk, zl, zm, zn, zo, zp, reduceCtorEq, zE, ↓reduceIte]
                            refine brP (fun yc30 => ?_) (fun yc30 => ?_)
                            · simp -implicitDefEqProofs only [zq4, zq5, zq6, zq7, zq8, yc10, yc12, yc14, yc15, yc17, yc18, yc19, yc21, yc23, yc24, yc25, yc27, yc28, yc30, setA, setB, za, zb, zc, zd, ze, zf, zg, zh, zi, zj, zk, zl, zm, zn, zo, zp, reduceCtorEq, zE, ↓reduceIte]
                              refine brP (fun yc31 => ?_) (fun yc31 => ?_)
                              · simp -implicitDefEqProofs only [ent49, prm49, f49_t, zq4, zq5, zq6, zq7, zq8, yc10, yc12, yc14, yc15, yc17, yc18, yc19, yc21, yc23, yc24, yc25, yc27, yc28, yc30, yc31, setA, setB, za, zb, zc, zd, ze, zf, zg, zh, zi, zj, zk, zl, zm, zn, zo, zp, reduceCtorEq, zE, ↓reduceIte]
                                refine brM (fun yc32 => ?_) (fun yr33 yc32 => ?_)
                                · rw [yc32]; rfl
                                · simp -implicitDefEqProofs only [e49, zq4, zq5, zq6, zq7, zq8, yc10, yc12, yc14, yc15, yc17, yc18, yc19, yc21, yc23, yc24, yc25, yc27, yc28, yc30, yc31, yc32, setA, setB, za, zb, zc, zd, ze, zf, zg, zh, zi, zj, zk, zl, zm, zn, zo, zp, reduceCtorEq, zE, ↓reduceIte]
                                  refine brP (fun yc34 => ?_) (fun yc34 => ?_)
                                  · simp -implicitDefEqProofs only [zq4, zq5, zq6, zq7, zq8, yc10, yc12, yc14, yc15, yc17, yc18, yc19, yc21, yc23, yc24, yc25, yc27, yc28, yc30, yc31, yc32, yc34, setA, setB, za, zb, zc, zd, ze, zf, zg, zh, zi, zj, zk, zl, zm, zn, zo, zp, reduceCtorEq, zE, ↓reduceIte]
                                    refine brP (fun yc35 => ?_) (fun yc35 => ?_)
                                    · simp -implicitDefEqProofs only [ent49, prm49, f49_t, zq4, zq5, zq6, zq7, zq8, yc10, yc12, yc14, yc15, yc17, yc18, yc19, yc21, yc23, yc24, yc25, yc27, yc28, yc30, yc31, yc32, yc34, yc35, setA, setB, za, zb, zc, zd, ze, zf, zg, zh, zi, zj, zk, zl, zm, zn, zo, zp, reduceCtorEq, zE, ↓reduceIte]
                                      refine brM (fun yc36 => ?_) (fun yr37 yc36 => ?_)
                                      · rw [yc36]; rfl
                                      · simp -implicitDefEqProofs only [e49, zq4, zq5, zq6, zq7, zq8, yc10, yc12, yc14, yc15, yc17, yc18, yc19, yc21, yc23, yc24, yc25, yc27, yc28, yc30, yc31, yc32, yc34, yc35, yc36, setA, setB, za, zb, zc, zd, ze, zf, zg, zh, zi, zj, zk, zl, zm, zn, zo, zp, reduceCtorEq, zE, ↓reduceIte]
                                        refine brP (fun yc38 => ?_) (fun yc38 => ?_)
                                        · simp -implicitDefEqProofs only [zq4, zq5, zq6, zq7, zq8, yc10, yc12, yc14, yc15, yc17, yc18, yc19, yc21, yc23, yc24, yc25, yc27, yc28, yc30, yc31, yc32, yc34, yc35, yc36, yc38, setA, setB, za, zb, zc, zd, ze, zf, zg, zh, zi, zj, zk, zl, zm, zn, zo, zp, reduceCtorEq, zE, ↓reduceIte]
                                          refine brP (fun yc39 => ?_) (fun yc39 => ?_)
                                          · simp -implicitDefEqProofs only [ent49, prm49, f49_t, zq4, zq5, zq6, zq7, zq8, yc10, yc12, yc14, yc15, yc17, yc18, yc19, yc21, yc23, yc24, yc25, yc27, yc28, yc30, yc31, yc32, yc34, yc35, yc36, yc38, yc39, setA, setB, za, zb, zc, zd, ze, zf, zg, zh, zi, zj, zk, zl, zm, zn, zo, zp, reduceCtorEq, zE, ↓reduceIte]
                                            refine brM (fun yc40 => ?_) (fun yr41 yc40 => ?_)
                                            · rw [yc40]; rfl
                                            · simp -implicitDefEqProofs only [e49, zq4, zq5, zq6, zq7, zq8, yc10, yc12, yc14, yc15, yc17, yc18, yc19, yc21, yc23, yc24, yc25, yc27, yc28, yc30, yc31, yc32, yc34, yc35, yc36, yc38, yc39, yc40, setA, setB, za, zb, zc, zd, ze, zf, zg, zh, zi, zj, zk, zl, zm, zn, zo, zp, reduceCtorEq, zE, ↓reduceIte]
                                              refine brP (fun yc42 => ?_) (fun yc42 => ?_)
                                              · simp -implicitDefEqProofs only [zq4, zq5, zq6, zq7, zq8, yc10, yc12, yc14, yc15, yc17, yc18, yc19, yc21, yc23, yc24, yc25, yc27, yc28, yc30, yc31, yc32, yc34, yc35, yc36, yc38, yc39, yc40, yc42, setA, setB, za, zb, zc, zd, ze, zf, zg, zh, zi, zj, zk, zl, zm, zn, zo, zp, reduceCtorEq, zE, ↓reduceIte]
                                                refine brP (fun yc43 => ?_) (fun yc43 => ?_)
                                                · simp -implicitDefEqProofs only [c39_44_e, zq4, zq5, zq6, zq7, zq8, yc10, yc12, yc14, yc15, yc17, yc18, yc19, yc21, yc23, yc24, yc25, yc27, yc28, yc30, yc31, yc32, yc34, yc35, yc36, yc38, yc39, yc40, yc42, yc43, setA, setB, za, zb, zc, zd, ze, zf, zg, zh, zi, zj, zk, zl, zm, zn, zo, zp, reduceCtorEq, zE, ↓reduceIte]
                                                  all_goals rfl
                                                · rw [if_neg yc43]; rfl
                                              · rw [if_neg yc42]; rfl
                                          · rw [if_neg yc39]; rfl
                                        · rw [if_neg yc38]; rfl
                                    · rw [if_neg yc35]; rfl
                                  · rw [if_neg yc34]; rfl
                              · rw [if_neg yc31]; rfl
                            · rw [if_neg yc30]; rfl
                        · rw [if_neg yc27]; rfl
                    · rw [if_neg yc24]; rfl
                  · rw [if_neg yc23]; rfl
            · rw [if_neg yc18]; rfl
          · rw [if_neg yc17]; rfl
      · rw [if_neg yc14]; rfl
def s39_29 (d4 s5 : Int) (year6 rest7 month8 : Int) : Option ((Int × Int × Int × Int × Int) ⊕ R39) :=
  (m37 year6 month8).bind fun yr8 =>
    if (decide (yr8 ≤ rest7)) = true then
      some (.inl (d4, s5, year6, (w64 (rest7 - yr8)), (w64 (month8 + 1))))
    else
      (j39_40 d4 s5 year6 rest7 month8).map .inr
theorem s39_29_t (d4 s5 : Int) (year6 rest7 month8 : Int) :
    stepE (K39_29 (mm := mm)) (loopF (E0 mm) 39 0 (callW (E0 mm)) itW c39_30 [(4, .keep), (5, .keep), (6, .keep), (7, .keep), (8, .keep)] (none, [.v (.c (.d (.sc (.int .i64 d4)))), .v (.c (.d (.sc (.int .i64 s5)))), .v (.c (.d (.sc (.int .i64 year6)))), .v (.c (.d (.sc (.int .i64 rest7)))), .v (.c (.d (.sc (.int .i64 month8))))], [])) = (s39_29 d4 s5 year6 rest7 month8).map (sm en39_29 e39) := by
  simp -implicitDefEqProofs only [s39_29, loopF_eq, c39_30_e, c39_31_e, c39_32_r, (show opsOf c39_32 = _ :: _ from rfl), ent37, prm37, f37_t, setA, setB, za, zb, zc, zd, ze, zf, zg, zh, zi, zj, zk, zl, zm, zn, zo, zp, reduceCtorEq, zE, ↓reduceIte]
  refine brM (fun yc7 => ?_) (fun yr8 yc7 => ?_)
  · rw [yc7]; rfl
  · simp -implicitDefEqProofs only [e37, (show c39_33 = Code.cond _ c39_34 c39_35 from rfl), yc7, setA, setB, za, zb, zc, zd, ze, zf, zg, zh, zi, zj, zk, zl, zm, zn, zo, zp, reduceCtorEq, zE, ↓reduceIte]
    refine brB (fun yc9 => ?_) (fun yc9 => ?_)
    · simp -implicitDefEqProofs only [c39_34_e, c39_36_e, c39_37_e, c39_38_r, (show opsOf c39_38 = _ :: _ from rfl), ent37, prm37, f37_t, e37, c39_39_r, (show opsOf c39_39 = _ :: _ from rfl), yc7, yc9, setA, setB, za, zb, zc, zd, ze, zf, zg, zh, zi, zj, zk, zl, zm, zn, zo, zp, reduceCtorEq, zE, ↓reduceIte]
      all_goals rfl
    · simp -implicitDefEqProofs only [c39_35_e, K39_29, yc7, yc9, setA, setB, za, zb, zc, zd, ze, zf, zg, zh, zi, zj, zk, zl, zm, zn, zo, zp, reduceCtorEq, zE, ↓reduceIte]
      exact mi (j39_40_t d4 s5 year6 rest7 month8 _ (by rfl) (by rfl) (by rfl) (by rfl) (by rfl))
def l39_29 (d4 s5 : Int) (year6 rest7 month8 : Int) : Option R39 := iter (fun x : (Int × Int × Int × Int × Int) => s39_29 x.1 x.2.1 x.2.2.1 x.2.2.2.1 x.2.2.2.2) (d4, s5, year6, rest7, month8)
theorem l39_29_t (d4 s5 : Int) (year6 rest7 month8 : Int) : bodyD (E0 mm) [.tmp 2, .tmp 3] 0 false (seqD (E0 mm) 39 0 (callW (E0 mm)) itW c39_40 (blockD 2 (itW (loopF (E0 mm) 39 0 (callW (E0 mm)) itW c39_30 [(4, .keep), (5, .keep), (6, .keep), (7, .keep), (8, .keep)]) (none, [.v (.c (.d (.sc (.int .i64 d4)))), .v (.c (.d (.sc (.int .i64 s5)))), .v (.c (.d (.sc (.int .i64 year6)))), .v (.c (.d (.sc (.int .i64 rest7)))), .v (.c (.d (.sc (.int .i64 month8))))], [])))) = (l39_29 d4 s5 year6 rest7 month8).map e39 :=
  it_sim (K := (K39_29 (mm := mm))) rfl (enc := en39_29) (fun x => s39_29_t x.1 x.2.1 x.2.2.1 x.2.2.2.1 x.2.2.2.2) (d4, s5, year6, rest7, month8)
def j39_25 (d4 s5 year6 : Int) : Option R39 :=
  (m38 year6).bind fun yr6 =>
    l39_29 d4 s5 year6 (w64 (d4 - yr6)) (0 : Int)
theorem j39_25_t (d4 s5 year6 : Int)  (sl : Nat → AV) (zq4 : sl 4 = .v (.c (.d (.sc (.int .i64 d4))))) (zq5 : sl 5 = .v (.c (.d (.sc (.int .i64 s5))))) (zq6 : sl 6 = .v (.c (.d (.sc (.int .i64 year6))))) :
    bodyD (E0 mm) [.tmp 2, .tmp 3] 0 false (den (E0 mm) 39 0 (callW (E0 mm)) itW c39_25 none ⟨sl, []⟩) = (j39_25 d4 s5 year6).map e39 := by
  simp -implicitDefEqProofs only [j39_25, c39_25_e, c39_26_r, (show opsOf c39_26 = _ :: _ from rfl), ent38, prm38, f38_t, zq4, zq5, zq6, setA, setB, za, zb, zc, zd, ze, zf, zg, zh, zi, zj, zk, zl, zm, zn, zo, zp, reduceCtorEq, zE, ↓reduceIte]
  refine brM (fun yc5 => ?_) (fun yr6 yc5 => ?_)
  · rw [yc5]; rfl
  · simp -implicitDefEqProofs only [e38, c39_27_e, c39_28_e, c39_29_l, zq4, zq5, zq6, yc5, setA, setB, za, zb, zc, zd, ze, zf, zg, zh, zi, zj, zk, zl, zm, zn, zo, zp, reduceCtorEq, zE, ↓reduceIte]
    exact l39_29_t d4 s5 year6 (w64 (d4 - yr6)) (0 : Int)
def s39_16 (d4 s5 year6 : Int) : Option ((Int × Int × Int) ⊕ R39) :=
  (m38 (w64 (year6 + 1))).bind fun yr3 =>
    if (decide (yr3 ≤ d4)) = true then
      some (.inl (d4, s5, (w64 (year6 + 1))))
    else
      (j39_25 d4 s5 year6).map .inr
theorem s39_16_t (d4 s5 year6 : Int) :
    stepE (K39_16 (mm := mm)) (loopF (E0 mm) 39 0 (callW (E0 mm)) itW c39_17 [(4, .keep), (5, .keep), (6, .keep)] (none, [.v (.c (.d (.sc (.int .i64 d4)))), .v (.c (.d (.sc (.int .i64 s5)))), .v (.c (.d (.sc (.int .i64 year6))))], [])) = (s39_16 d4 s5 year6).map (sm en39_16 e39) := by
  simp -implicitDefEqProofs only [s39_16, loopF_eq, c39_17_e, c39_18_e, c39_19_r, (show opsOf c39_19 = _ :: _ from rfl), ent38, prm38, f38_t, setA, setB, za, zb, zc, zd, ze, zf, zg, zh, zi, zj, zk, zl, zm, zn, zo, zp, reduceCtorEq, zE, ↓reduceIte]
  refine brM (fun yc2 => ?_) (fun yr3 yc2 => ?_)
  · rw [yc2]; rfl
  · simp -implicitDefEqProofs only [e38, (show c39_20 = Code.cond _ c39_21 c39_22 from rfl), yc2, setA, setB, za, zb, zc, zd, ze, zf, zg, zh, zi, zj, zk, zl, zm, zn, zo, zp, reduceCtorEq, zE, ↓reduceIte]
    refine brB (fun yc4 => ?_) (fun yc4 => ?_)
    · simp -implicitDefEqProofs only [c39_21_e, c39_23_e, c39_24_r, (show opsOf c39_24 = _ :: _ from rfl), yc2, yc4, setA, setB, za, zb, zc, zd, ze, zf, zg, zh, zi, zj, zk, zl, zm, zn, zo, zp, reduceCtorEq, zE, ↓reduceIte]
      all_goals rfl
    · simp -implicitDefEqProofs only [c39_22_e, K39_16, yc2, yc4, setA, setB, za, zb, zc, zd, ze, zf, zg, zh, zi, zj, zk, zl, zm, zn, zo, zp, reduceCtorEq, zE, ↓reduceIte]
      exact mi (j39_25_t d4 s5 year6 _ (by rfl) (by rfl) (by rfl))
def l39_16 (d4 s5 year6 : Int) : Option R39 := iter (fun x : (Int × Int × Int) => s39_16 x.1 x.2.1 x.2.2) (d4, s5, year6)
theorem l39_16_t (d4 s5 year6 : Int) : bodyD (E0 mm) [.tmp 2, .tmp 3] 0 false (seqD (E0 mm) 39 0 (callW (E0 mm)) itW c39_25 (blockD 0 (itW (loopF (E0 mm) 39 0 (callW (E0 mm)) itW c39_17 [(4, .keep), (5, .keep), (6, .keep)]) (none, [.v (.c (.d (.sc (.int .i64 d4)))), .v (.c (.d (.sc (.int .i64 s5)))), .v (.c (.d (.sc (.int .i64 year6))))], [])))) = (l39_16 d4 s5 year6).map e39 :=
  it_sim (K := (K39_16 (mm := mm))) rfl (enc := en39_16) (fun x => s39_16_t x.1 x.2.1 x.2.2) (d4, s5, year6)
def m39 (n : Int) : Option R39 :=
  if (decide (253402300799 < n)) = true then
    some (([] : Bs), (3 : Int))
  else
    l39_16 (w64 (wu64 (n.tdiv 86400))) (w64 (n.tmod 86400)) (w64 (1970 + (w64 ((w64 (wu64 (n.tdiv 86400))).tdiv 366))))
theorem f39_t (n : Int) :
    callW (E0 mm) 39 [.c (.d (.sc (.int .u64 n)))] [] = (m39 n).map e39 := by
  rw [callW_run (body := c39_0) (res := [.tmp 2, .tmp 3]) Tryd.func39 rfl rfl (by kernel_rfl)]
  simp -implicitDefEqProofs only [m39, slots1, c39_0_e, c39_1_r, (show opsOf c39_1 = _ :: _ from rfl), c39_2_e, c39_3_e, c39_4_r, (show opsOf c39_4 = _ :: _ from rfl), (show c39_5 = Code.cond _ c39_6 c39_9 from rfl), setA, setB, za, zb, zc, zd, ze, zf, zg, zh, zi, zj, zk, zl, zm, zn, zo, zp, reduceCtorEq, zE, ↓reduceIte]
  refine brB (fun yc1 => ?_) (fun yc1 => ?_)
  · simp -implicitDefEqProofs only [c39_6_e, c39_7_r, (show opsOf c39_7 = _ :: _ from rfl), c39_8_e, yc1, setA, setB, za, zb, zc, zd, ze, zf, zg, zh, zi, zj, zk, zl, zm, zn, zo, zp, reduceCtorEq, zE, ↓reduceIte]
    all_goals rfl
  · simp -implicitDefEqProofs only [c39_9_e, c39_10_e, c39_11_r, (show opsOf c39_11 = _ :: _ from rfl), Tryd.underlying40, Tryd.underlying3, c39_12_e, c39_13_r, (show opsOf c39_13 = _ :: _ from rfl), c39_14_e, c39_15_e, c39_16_l, yc1, setA, setB, za, zb, zc, zd, ze, zf, zg, zh, zi, zj, zk, zl, zm, zn, zo, zp, reduceCtorEq, zE, ↓reduceIte]
    exact l39_16_t (w64 (wu64 (n.tdiv 86400))) (w64 (n.tmod 86400)) (w64 (1970 + (w64 ((w64 (wu64 (n.tdiv 86400))).tdiv 366))))
noncomputable def c26_0 : Code := bodyOf Tryd.f26
def c26_1 := cA c26_0
def c26_2 := cB c26_0
def c26_3 := cA c26_2
def c26_4 := cA c26_3
def c26_5 := cB c26_3
def c26_6 := cA c26_5
def c26_7 := cA c26_6
def c26_8 := cB c26_6
def c26_9 := cB c26_5
def c26_10 := cB c26_2
def c26_11 := cA c26_10
def c26_12 := cB c26_10
def c26_13 := cA c26_12
def c26_14 := cB c26_12
def c26_15 := cA c26_14
def c26_16 := cA c26_15
def c26_17 := cB c26_15
def c26_18 := cA c26_17
def c26_19 := cA c26_18
def c26_20 := cB c26_18
def c26_21 := cB c26_17
def c26_22 := cB c26_14
def c26_23 := cA c26_22
def c26_24 := cB c26_22
def c26_25 := cA c26_24
def c26_26 := cA c26_25
def c26_27 := cB c26_25
def c26_28 := cA c26_27
def c26_29 := cA c26_28
def c26_30 := cA c26_29
def c26_31 := cB c26_29
def c26_32 := cA c26_31
def c26_33 := cA c26_32
def c26_34 := cB c26_32
def c26_35 := cB c26_31
def c26_36 := cA c26_35
def c26_37 := cA c26_36
def c26_38 := cA c26_37
def c26_39 := cB c26_37
def c26_40 := cB c26_35
def c26_41 := cB c26_24
def c26_42 := cA c26_41
def c26_43 := cB c26_41
def c26_44 := cA c26_43
def c26_45 := cA c26_44
def c26_46 := cB c26_44
def c26_47 := cA c26_46
def c26_48 := cB c26_46
def c26_49 := cA c26_48
def c26_50 := cA c26_49
def c26_51 := cB c26_49
def c26_52 := cB c26_48
def c26_53 := cB c26_43
def c26_54 := cA c26_53
def c26_55 := cB c26_53
theorem c26_0_e : c26_0 = .seq c26_1 c26_2 := rfl
theorem c26_1_r : RG (E0 mm) 26 c26_1 := rgN rfl
theorem c26_2_e : c26_2 = .seq c26_3 c26_10 := rfl
theorem c26_3_e : c26_3 = .seq c26_4 c26_5 := rfl
theorem c26_4_r : RG (E0 mm) 26 c26_4 := rgN rfl
theorem c26_6_e : c26_6 = .seq c26_7 c26_8 := rfl
theorem c26_7_r : RG (E0 mm) 26 c26_7 := rgN rfl
theorem c26_8_e : c26_8 = .ret := rfl
theorem c26_9_e : c26_9 = .skip := rfl
theorem c26_10_e : c26_10 = .seq c26_11 c26_12 := rfl
theorem c26_11_r : RG (E0 mm) 26 c26_11 := rgN rfl
theorem c26_12_e : c26_12 = .seq c26_13 c26_14 := rfl
theorem c26_13_r : RG (E0 mm) 26 c26_13 := rgD (by kernel_rfl)
theorem c26_14_e : c26_14 = .seq c26_15 c26_22 := rfl
theorem c26_15_e : c26_15 = .seq c26_16 c26_17 := rfl
theorem c26_16_r : RG (E0 mm) 26 c26_16 := rgN rfl
theorem c26_18_e : c26_18 = .seq c26_19 c26_20 := rfl
theorem c26_19_r : RG (E0 mm) 26 c26_19 := rgN rfl
theorem c26_20_e : c26_20 = .ret := rfl
theorem c26_21_e : c26_21 = .skip := rfl
theorem c26_22_e : c26_22 = .seq c26_23 c26_24 := rfl
theorem c26_23_r : RG (E0 mm) 26 c26_23 := rgN rfl
theorem c26_24_e : c26_24 = .seq c26_25 c26_41 := rfl
theorem c26_25_e : c26_25 = .seq c26_26 c26_27 := rfl
theorem c26_26_r : RG (E0 mm) 26 c26_26 := rgN rfl
theorem c26_27_e : c26_27 = .block 0 c26_28 := rfl
theorem c26_28_l (m : Nat) (st : St) : den (E0 mm) 26 m (callW (E0 mm)) itW c26_28 none st = loopD itW (loopF (E0 mm) 26 m (callW (E0 mm)) itW c26_29 [(0, .keep), (5, .keep), (7, .keep), (53, .keep), (54, .keep)]) (canon m [(0, .keep), (5, .keep), (7, .keep), (53, .keep), (54, .keep)] st) := rfl
theorem c26_29_e : c26_29 = .seq c26_30 c26_31 := rfl
theorem c26_30_r : RG (E0 mm) 26 c26_30 := rgN rfl
theorem c26_31_e : c26_31 = .seq c26_32 c26_35 := rfl
theorem c26_33_e : c26_33 = .skip := rfl
theorem c26_34_e : c26_34 = .exit 0 := rfl
theorem c26_35_e : c26_35 = .seq c26_36 c26_40 := rfl
theorem c26_36_e : c26_36 = .block 1 c26_37 := rfl
theorem c26_37_e : c26_37 = .seq c26_38 c26_39 := rfl
theorem c26_38_r : RG (E0 mm) 26 c26_38 := rgN rfl
theorem c26_39_r : RG (E0 mm) 26 c26_39 := rgN rfl
theorem c26_40_r : RG (E0 mm) 26 c26_40 := rgN rfl
theorem c26_41_e : c26_41 = .seq c26_42 c26_43 := rfl
theorem c26_42_r : RG (E0 mm) 26 c26_42 := rgD (by kernel_rfl)
theorem c26_43_e : c26_43 = .seq c26_44 c26_53 := rfl
theorem c26_44_e : c26_44 = .seq c26_45 c26_46 := rfl
theorem c26_45_r : RG (E0 mm) 26 c26_45 := rgN rfl
theorem c26_46_e : c26_46 = .seq c26_47 c26_48 := rfl
theorem c26_47_r : RG (E0 mm) 26 c26_47 := rgN rfl
theorem c26_49_e : c26_49 = .seq c26_50 c26_51 := rfl
theorem c26_50_r : RG (E0 mm) 26 c26_50 := rgN rfl
theorem c26_51_e : c26_51 = .ret := rfl
theorem c26_52_e : c26_52 = .skip := rfl
theorem c26_53_e : c26_53 = .seq c26_54 c26_55 := rfl
theorem c26_54_r : RG (E0 mm) 26 c26_54 := rgN rfl
theorem c26_55_e : c26_55 = .ret := rfl
abbrev R26 := (Int × Int)
def e26 : R26 → AV × Heap := fun x => (.tup [.c (.d (.sc (.int .u64 x.1))), .c (.d (.sc (.int .i64 x.2)))], [])
def K26_28 : Option (Ex × St) → Option (AV × Heap) := fun r => bodyD (E0 mm) [.tmp 2, .tmp 3] 0 false (seqD (E0 mm) 26 0 (callW (E0 mm)) itW c26_41 (blockD 0 (r)))
def en26_28 : (Bs × Int × Int × Int × Int) → X := fun x => (none, [.v (.c (.d (.sc (.string (S x.1))))), .v (.c (.d (.sc (.int .i64 x.2.1)))), .v (.c (.d (.sc (.int .i64 x.2.2.1)))), .v (.c (.d (.sc (.int .i64 x.2.2.2.1)))), .v (.c (.d (.sc (.int .i64 x.2.2.2.2))))], [])
def j26_48 (n9 : Int) (t91 : Bool) : Option R26 :=
  if t91 = true then
    some ((0 : Int), (5 : Int))
  else
    some (n9, (0 : Int))
theorem j26_48_t (n9 : Int) (t91 : Bool)  (sl : Nat → AV) (zq9 : sl 9 = .v (.c (.d (.sc (.int .u64 n9))))) (zq91 : sl 91 = .v (.c (.d (.sc (.bool t91))))) :
    bodyD (E0 mm) [.tmp 2, .tmp 3] 0 false (seqD (E0 mm) 26 0 (callW (E0 mm)) itW c26_53 (den (E0 mm) 26 0 (callW (E0 mm)) itW c26_48 none ⟨sl, []⟩)) = (j26_48 n9 t91).map e26 := by
  simp -implicitDefEqProofs only [j26_48, (show c26_48 = Code.cond _ c26_49 c26_52 from rfl), zq9, zq91, setA, setB, za, zb, zc, zd, ze, zf, zg, zh, zi, zj, zk, zl, zm, zn, zo, zp, reduceCtorEq, zE, ↓reduceIte]
  refine brB (fun yc48 => ?_) (fun yc48 => ?_)
  · simp -implicitDefEqProofs only [c26_49_e, c26_50_r, (show opsOf c26_50 = _ :: _ from rfl), c26_51_e, zq9, zq91, yc48, setA, setB, za, zb, zc, zd, ze, zf, zg, zh, zi, zj, zk, zl, zm, zn, zo, zp, reduceCtorEq, zE, ↓reduceIte]
    all_goals rfl
  · simp -implicitDefEqProofs only [c26_52_e, c26_53_e, c26_54_r, (show opsOf c26_54 = _ :: _ from rfl), c26_55_e, zq9, zq91, yc48, setA, setB, za, zb, zc, zd, ze, zf, zg, zh, zi, zj, zk, zl, zm, zn, zo, zp, reduceCtorEq, zE, ↓reduceIte]
    all_goals rfl
def j26_41 (s0 : Bs) (d7 : Int) : Option R26 :=
  (bnd 19 s0.length).bind fun yk28 =>
    (bnd 17 yk28).bind fun yk30 =>
      (m36 ((s0.take yk28).drop yk30)).bind fun yr32 =>
        (bnd 22 s0.length).bind fun yk34 =>
          (bnd 20 yk34).bind fun yk36 =>
            (m36 ((s0.take yk34).drop yk36)).bind fun yr38 =>
              (bnd 25 s0.length).bind fun yk40 =>
                (bnd 23 yk40).bind fun yk42 =>
                  (m36 ((s0.take yk40).drop yk42)).bind fun yr44 =>
                    (m39 (wu64 (w64 ((w64 ((w64 ((w64 (d7 * 86400)) + (w64 (yr32 * 3600)))) + (w64 (yr38 * 60)))) + yr44)))).bind fun yr46 =>
                      if (yr46.2 == 0) = true then
                        j26_48 (wu64 (w64 ((w64 ((w64 ((w64 (d7 * 86400)) + (w64 (yr32 * 3600)))) + (w64 (yr38 * 60)))) + yr44))) (!(yr46.1 == s0))
                      else
                        j26_48 (wu64 (w64 ((w64 ((w64 ((w64 (d7 * 86400)) + (w64 (yr32 * 3600)))) + (w64 (yr38 * 60)))) + yr44))) true
theorem j26_41_t (s0 : Bs) (d7 : Int)  (sl : Nat → AV) (zq0 : sl 0 = .v (.c (.d (.sc (.string (S s0)))))) (zq7 : sl 7 = .v (.c (.d (.sc (.int .i64 d7))))) :
    bodyD (E0 mm) [.tmp 2, .tmp 3] 0 false (den (E0 mm) 26 0 (callW (E0 mm)) itW c26_41 none ⟨sl, []⟩) = (j26_41 s0 d7).map e26 := by
  simp -implicitDefEqProofs only [j26_41, c26_41_e, c26_42_r, (show opsOf c26_42 = _ :: _ from rfl), Tryd.underlying9, zq0, zq7, setA, setB, za, zb, zc, zd, ze, zf, zg, zh, zi, zj, zk, zl, zm, zn, zo, zp, reduceCtorEq, zE, ↓reduceIte]
  refine brM (fun yc27 => ?_) (fun yk28 yc27 => ?_)
  · rw [yc27]; rfl
  · simp -implicitDefEqProofs only [zq0, zq7, yc27, setA, setB, za, zb, zc, zd, ze, zf, zg, zh, zi, zj, zk, zl, zm, zn, zo, zp, reduceCtorEq, zE, ↓reduceIte]
    refine brM (fun yc29 => ?_) (fun yk30 yc29 => ?_)
    · rw [yc29]; rfl
    · simp -implicitDefEqProofs only [ent36, prm36, f36_t, zq0, zq7, yc27, yc29, setA, setB, za, zb, zc, zd, ze, zf, zg, zh, zi, zj, zk, zl, zm, zn, zo, zp, reduceCtorEq, zE, ↓reduceIte]
      refine brM (fun yc31 => ?_) (fun yr32 yc31 => ?_)
      · rw [yc31]; rfl
      · simp -implicitDefEqProofs only [e36, Tryd.underlying9, zq0, zq7, yc27, yc29, yc31, setA, setB, za, zb, zc, zd, ze, zf, zg, zh, zi, zj, zk, zl, zm, zn, zo, zp, reduceCtorEq, zE, ↓reduceIte]
        refine brM (fun yc33 => ?_) (fun yk34 yc33 => ?_)
        · rw [yc33]; rfl
        · simp -implicitDefEqProofs only [zq0, zq7, yc27, yc29, yc31, yc33, setA, setB, za, zb, zc, zd, ze, zf, zg, zh, zi, zj, zk, zl, zm, zn, zo, zp, reduceCtorEq, zE, ↓reduceIte]
          refine brM (fun yc35 => ?_) (fun yk36 yc35 => ?_)
          · rw [yc35]; rfl
          · simp -implicitDefEqProofs only [ent36, prm36, f36_t, zq0, zq7, yc27, yc29, yc31, yc33, yc35, setA, setB, za, zb, zc, zd, ze, zf, zg, zh, zi, zj, zk, zl, zm, zn, zo, zp, reduceCtorEq, zE, ↓reduceIte]
            refine brM (fun yc37 => ?_) (fun yr38 yc37 => ?_)
            · rw [yc37]; rfl
            · simp -implicitDefEqProofs only [e36, Tryd.underlying9, zq0, zq7, yc27, yc29, yc31, yc33, yc35, yc37, setA, setB, za, zb, zc, zd, ze, zf, zg, zh, zi, zj, zk, zl, zm, zn, zo, zp, reduceCtorEq, zE, ↓reduceIte]
              refine brM (fun yc39 => ?_) (fun yk40 yc39 => ?_)
              · rw [yc39]; rfl
              · simp -implicitDefEqProofs only [zq0, zq7, yc27, yc29, yc31, yc33, yc35, yc37, yc39, setA, setB, za, zb, zc, zd, ze, zf, zg, zh, zi, zj, zk, zl, zm, zn, zo, zp, reduceCtorEq, zE, ↓reduceIte]
                refine brM (fun yc41 => ?_) (fun yk42 yc41 => ?_)
                · rw [yc41]; rfl
                · simp -implicitDefEqProofs only [ent36, prm36, f36_t, zq0, zq7, yc27, yc29, yc31, yc33, yc35, yc37, yc39, yc41, setA, setB, za, zb, zc, zd, ze, zf, zg, zh, zi, zj, zk, zl, zm, zn, zo, zp, reduceCtorEq, zE, ↓reduceIte]
                  refine brM (fun yc43 => ?_) (fun yr44 yc43 => ?_)
                  · rw [yc43]; rfl
                  · simp -implicitDefEqProofs only [e36, Tryd.underlying3, Tryd.underlying40, c26_43_e, c26_44_e, c26_45_r, (show opsOf c26_45 = _ :: _ from rfl), ent39, prm39, f39_t, zq0, zq7, yc27, yc29, yc31, yc33, yc35, yc37, yc39, yc41, yc43, setA, setB, za, zb, zc, zd, ze, zf, zg, zh, zi, zj, zk, zl, zm, zn, zo, zp, reduceCtorEq, zE, ↓reduceIte]
                    refine brM (fun yc45 => ?_) (fun yr46 yc45 => ?_)
                    · rw [yc45]; rfl
                    · simp -implicitDefEqProofs only [e39, c26_46_e, c26_47_r, (show opsOf c26_47 = _ :: _ from rfl), zq0, zq7, yc27, yc29, yc31, yc33, yc35, yc37, yc39, yc41, yc43, yc45, setA, setB, za, zb, zc, zd, ze, zf, zg, zh, zi, zj, zk, zl, zm, zn, zo, zp, reduceCtorEq, zE, ↓reduceIte]
                      refine brB (fun yc47 => ?_) (fun yc47 => ?_)
                      · simp -implicitDefEqProofs only [zq0, zq7, yc27, yc29, yc31, yc33, yc35, yc37, yc39, yc41, yc43, yc45, yc47, setA, setB, za, zb, zc, zd, ze, zf, zg, zh, zi, zj, zk, zl, zm, zn, zo, zp, reduceCtorEq, zE, ↓reduceIte]
                        exact j26_48_t (wu64 (w64 ((w64 ((w64 ((w64 (d7 * 86400)) + (w64 (yr32 * 3600)))) + (w64 (yr38 * 60)))) + yr44))) (!(yr46.1 == s0)) _ (by rfl) (by rfl)
                      · simp -implicitDefEqProofs only [zq0, zq7, yc27, yc29, yc31, yc33, yc35, yc37, yc39, yc41, yc43, yc45, yc47, setA, setB, za, zb, zc, zd, ze, zf, zg, zh, zi, zj, zk, zl, zm, zn, zo, zp, reduceCtorEq, zE, ↓reduceIte]
                        exact j26_48_t (wu64 (w64 ((w64 ((w64 ((w64 (d7 * 86400)) + (w64 (yr32 * 3600)))) + (w64 (yr38 * 60)))) + yr44))) true _ (by rfl) (by rfl)
def s26_28 (s0 : Bs) (year5 d7 : Int) (t53 t54 : Int) : Option ((Bs × Int × Int × Int × Int) ⊕ R26) :=
  if (decide (t54 < t53)) = true then
    (m37 year5 t54).bind fun yr26 =>
      some (.inl (s0, year5, (w64 (d7 + yr26)), t53, (w64 (t54 + 1))))
  else
    (j26_41 s0 d7).map .inr
theorem s26_28_t (s0 : Bs) (year5 d7 : Int) (t53 t54 : Int) :
    stepE (K26_28 (mm := mm)) (loopF (E0 mm) 26 0 (callW (E0 mm)) itW c26_29 [(0, .keep), (5, .keep), (7, .keep), (53, .keep), (54, .keep)] (none, [.v (.c (.d (.sc (.string (S s0))))), .v (.c (.d (.sc (.int .i64 year5)))), .v (.c (.d (.sc (.int .i64 d7)))), .v (.c (.d (.sc (.int .i64 t53)))), .v (.c (.d (.sc (.int .i64 t54))))], [])) = (s26_28 s0 year5 d7 t53 t54).map (sm en26_28 e26) := by
  simp -implicitDefEqProofs only [s26_28, loopF_eq, c26_29_e, c26_30_r, (show opsOf c26_30 = _ :: _ from rfl), c26_31_e, (show c26_32 = Code.cond _ c26_33 c26_34 from rfl), setA, setB, za, zb, zc, zd, ze, zf, zg, zh, zi, zj, zk, zl, zm, zn, zo, zp, reduceCtorEq, zE, ↓reduceIte]
  refine brB (fun yc24 => ?_) (fun yc24 => ?_)
  · simp -implicitDefEqProofs only [c26_33_e, c26_35_e, c26_36_e, c26_37_e, c26_38_r, (show opsOf c26_38 = _ :: _ from rfl), c26_39_r, (show opsOf c26_39 = _ :: _ from rfl), ent37, prm37, f37_t, yc24, setA, setB, za, zb, zc, zd, ze, zf, zg, zh, zi, zj, zk, zl, zm, zn, zo, zp, reduceCtorEq, zE, ↓reduceIte]
    refine brM (fun yc25 => ?_) (fun yr26 yc25 => ?_)
    · rw [yc25]; rfl
    · simp -implicitDefEqProofs only [e37, c26_40_r, (show opsOf c26_40 = _ :: _ from rfl), yc24, yc25, setA, setB, za, zb, zc, zd, ze, zf, zg, zh, zi, zj, zk, zl, zm, zn, zo, zp, reduceCtorEq, zE, ↓reduceIte]
      all_goals rfl
  · simp -implicitDefEqProofs only [c26_34_e, K26_28, yc24, setA, setB, za, zb, zc, zd, ze, zf, zg, zh, zi, zj, zk, zl, zm, zn, zo, zp, reduceCtorEq, zE, ↓reduceIte]
    exact mi (j26_41_t s0 d7 _ (by rfl) (by rfl))
def l26_28 (s0 : Bs) (year5 d7 : Int) (t53 t54 : Int) : Option R26 := iter (fun x : (Bs × Int × Int × Int × Int) => s26_28 x.1 x.2.1 x.2.2.1 x.2.2.2.1 x.2.2.2.2) (s0, year5, d7, t53, t54)
theorem l26_28_t (s0 : Bs) (year5 d7 : Int) (t53 t54 : Int) : bodyD (E0 mm) [.tmp 2, .tmp 3] 0 false (seqD (E0 mm) 26 0 (callW (E0 mm)) itW c26_41 (blockD 0 (itW (loopF (E0 mm) 26 0 (callW (E0 mm)) itW c26_29 [(0, .keep), (5, .keep), (7, .keep), (53, .keep), (54, .keep)]) (none, [.v (.c (.d (.sc (.string (S s0))))), .v (.c (.d (.sc (.int .i64 year5)))), .v (.c (.d (.sc (.int .i64 d7)))), .v (.c (.d (.sc (.int .i64 t53)))), .v (.c (.d (.sc (.int .i64 t54))))], [])))) = (l26_28 s0 year5 d7 t53 t54).map e26 :=
  it_sim (K := (K26_28 (mm := mm))) rfl (enc := en26_28) (fun x => s26_28_t x.1 x.2.1 x.2.2.1 x.2.2.2.1 x.2.2.2.2) (s0, year5, d7, t53, t54)
def j26_17 (s0 : Bs) (at4 year5 date6 : Int) (t46 : Bool) : Option R26 :=
  if t46 = true then
    some ((0 : Int), (5 : Int))
  else
    (m38 year5).bind fun yr23 =>
      l26_28 s0 year5 (w64 ((w64 (yr23 + date6)) - 1)) (w64 (at4.tdiv 3)) (0 : Int)
theorem j26_17_t (s0 : Bs) (at4 year5 date6 : Int) (t46 : Bool)  (sl : Nat → AV) (zq0 : sl 0 = .v (.c (.d (.sc (.string (S s0)))))) (zq4 : sl 4 = .v (.c (.d (.sc (.int .i64 at4))))) (zq5 : sl 5 = .v (.c (.d (.sc (.int .i64 year5))))) (zq6 : sl 6 = .v (.c (.d (.sc (.int .i64 date6))))) (zq46 : sl 46 = .v (.c (.d (.sc (.bool t46))))) :
    bodyD (E0 mm) [.tmp 2, .tmp 3] 0 false (seqD (E0 mm) 26 0 (callW (E0 mm)) itW c26_22 (den (E0 mm) 26 0 (callW (E0 mm)) itW c26_17 none ⟨sl, []⟩)) = (j26_17 s0 at4 year5 date6 t46).map e26 := by
  simp -implicitDefEqProofs only [j26_17, (show c26_17 = Code.cond _ c26_18 c26_21 from rfl), zq0, zq4, zq5, zq6, zq46, setA, setB, za, zb, zc, zd, ze, zf, zg, zh, zi, zj, zk, zl, zm, zn, zo, zp, reduceCtorEq, zE, ↓reduceIte]
  refine brB (fun yc21 => ?_) (fun yc21 => ?_)
  · simp -implicitDefEqProofs only [c26_18_e, c26_19_r, (show opsOf c26_19 = _ :: _ from rfl), c26_20_e, zq0, zq4, zq5, zq6, zq46, yc21, setA, setB, za, zb, zc, zd, ze, zf, zg, zh, zi, zj, zk, zl, zm, zn, zo, zp, reduceCtorEq, zE, ↓reduceIte]
    all_goals rfl
  · simp -implicitDefEqProofs only [c26_21_e, c26_22_e, c26_23_r, (show opsOf c26_23 = _ :: _ from rfl), ent38, prm38, f38_t, zq0, zq4, zq5, zq6, zq46, yc21, setA, setB, za, zb, zc, zd, ze, zf, zg, zh, zi, zj, zk, zl, zm, zn, zo, zp, reduceCtorEq, zE, ↓reduceIte]
    refine brM (fun yc22 => ?_) (fun yr23 yc22 => ?_)
    · rw [yc22]; rfl
    · simp -implicitDefEqProofs only [e38, c26_24_e, c26_25_e, c26_26_r, (show opsOf c26_26 = _ :: _ from rfl), c26_27_e, c26_28_l, zq0, zq4, zq5, zq6, zq46, yc21, yc22, setA, setB, za, zb, zc, zd, ze, zf, zg, zh, zi, zj, zk, zl, zm, zn, zo, zp, reduceCtorEq, zE, ↓reduceIte]
      exact l26_28_t s0 year5 (w64 ((w64 (yr23 + date6)) - 1)) (w64 (at4.tdiv 3)) (0 : Int)
def m26 (s : Bs) : Option R26 :=
  if ((s.length : Int) == 29) = true then
    (bnd 11 s.length).bind fun yk3 =>
      (bnd 8 yk3).bind fun yk5 =>
        (m35 ([74, 97, 110, 70, 101, 98, 77, 97, 114, 65, 112, 114, 77, 97, 121, 74, 117, 110, 74, 117, 108, 65, 117, 103, 83, 101, 112, 79, 99, 116, 78, 111, 118, 68, 101, 99] : Bs) ((s.take yk3).drop yk5)).bind fun yr7 =>
          (bnd 16 s.length).bind fun yk9 =>
            (bnd 12 yk9).bind fun yk11 =>
              (m36 ((s.take yk9).drop yk11)).bind fun yr13 =>
                (bnd 7 s.length).bind fun yk15 =>
                  (bnd 5 yk15).bind fun yk17 =>
                    (m36 ((s.take yk15).drop yk17)).bind fun yr19 =>
                      if (decide (yr7 < 0)) = true then
                        j26_17 s yr7 yr13 yr19 true
                      else
                        if ((yr7.tmod 3) == 0) = true then
                          if (decide (yr13 < 1970)) = true then
                            j26_17 s yr7 yr13 yr19 true
                          else
                            if (decide (yr19 < 1)) = true then
                              j26_17 s yr7 yr13 yr19 true
                            else
                              (m37 yr13 (w64 (yr7.tdiv 3))).bind fun yr53 =>
                                j26_17 s yr7 yr13 yr19 (decide (yr53 < yr19))
                        else
                          j26_17 s yr7 yr13 yr19 true
  else
    some ((0 : Int), (5 : Int))
theorem f26_t (s : Bs) :
    callW (E0 mm) 26 [.c (.d (.sc (.string (S s))))] [] = (m26 s).map e26 := by
  rw [callW_run (body := c26_0) (res := [.tmp 2, .tmp 3]) Tryd.func26 rfl rfl (by kernel_rfl)]
  simp -implicitDefEqProofs only [m26, slots1, c26_0_e, c26_1_r, (show opsOf c26_1 = _ :: _ from rfl), c26_2_e, c26_3_e, c26_4_r, (show opsOf c26_4 = _ :: _ from rfl), Tryd.underlying9, (show c26_5 = Code.cond _ c26_6 c26_9 from rfl), setA, setB, za, zb, zc, zd, ze, zf, zg, zh, zi, zj, zk, zl, zm, zn, zo, zp, reduceCtorEq, zE, ↓reduceIte]
  refine brB (fun yc1 => ?_) (fun yc1 => ?_)
  · simp -implicitDefEqProofs only [c26_9_e, c26_10_e, c26_11_r, (show opsOf c26_11 = _ :: _ from rfl), Tryd.underlying9, yc1, setA, setB, za, zb, zc, zd, ze, zf, zg, zh, zi, zj, zk, zl, zm, zn, zo, zp, reduceCtorEq, zE, ↓reduceIte]
    refine brM (fun yc2 => ?_) (fun yk3 yc2 => ?_)
    · rw [yc2]; rfl
    · simp -implicitDefEqProofs only [yc1, yc2, setA, setB, za, zb, zc, zd, ze, zf, zg, zh, zi, zj, zk, zl, zm, zn, zo, zp, reduceCtorEq, zE, ↓reduceIte]
      refine brM (fun yc4 => ?_) (fun yk5 yc4 => ?_)
      · rw [yc4]; rfl
      · simp -implicitDefEqProofs only [ent35, prm35, (show callW (E0 mm) 35 [.c (.d (.sc (.string (S ([74, 97, 110, 70, 101, 98, 77, 97, 114, 65, 112, 114, 77, 97, 121, 74, 117, 110, 74, 117, 108, 65, 117, 103, 83, 101, 112, 79, 99, 116, 78, 111, 118, 68, 101, 99] : Bs))))), .c (.d (.sc (.string (S ((s.take yk3).drop yk5)))))] [] = _ from f35_t ([74, 97, 110, 70, 101, 98, 77, 97, 114, 65, 112, 114, 77, 97, 121, 74, 117, 110, 74, 117, 108, 65, 117, 103, 83, 101, 112, 79, 99, 116, 78, 111, 118, 68, 101, 99] : Bs) ((s.take yk3).drop yk5)), yc1, yc2, yc4, setA, setB, za, zb, zc, zd, ze, zf, zg, zh, zi, zj, zk, zl, zm, zn, zo, zp, reduceCtorEq, zE, ↓reduceIte]
        refine brM (fun yc6 => ?_) (fun yr7 yc6 => ?_)
        · rw [yc6]; rfl
        · simp -implicitDefEqProofs only [e35, c26_12_e, c26_13_r, (show opsOf c26_13 = _ :: _ from rfl), Tryd.underlying9, yc1, yc2, yc4, yc6, setA, setB, za, zb, zc, zd, ze, zf, zg, zh, zi, zj, zk, zl, zm, zn, zo, zp, reduceCtorEq, zE, ↓reduceIte]
          refine brM (fun yc8 => ?_) (fun yk9 yc8 => ?_)
          · rw [yc8]; rfl
          · simp -implicitDefEqProofs only [yc1, yc2, yc4, yc6, yc8, setA, setB, za, zb, zc, zd, ze, zf, zg, zh, zi, zj, zk, zl, zm, zn, zo, zp, reduceCtorEq, zE, ↓reduceIte]
            refine brM (fun yc10 => ?_) (fun yk11 yc10 => ?_)
            · rw [yc10]; rfl
            · simp -implicitDefEqProofs only [ent36, prm36, f36_t, yc1, yc2, yc4, yc6, yc8, yc10, setA, setB, za, zb, zc, zd, ze, zf, zg, zh, zi, zj, zk, zl, zm, zn, zo, zp, reduceCtorEq, zE, ↓reduceIte]
              refine brM (fun yc12 => ?_) (fun yr13 yc12 => ?_)
              · rw [yc12]; rfl
              · simp -implicitDefEqProofs only [e36, Tryd.underlying9, yc1, yc2, yc4, yc6, yc8, yc10, yc12, setA, setB, za, zb, zc, zd, ze, zf, zg, zh, zi, zj, zk, zl, zm, zn, zo, zp, reduceCtorEq, zE, ↓reduceIte]
                refine brM (fun yc14 => ?_) (fun yk15 yc14 => ?_)
                · rw [yc14]; rfl
                · simp -implicitDefEqProofs only [yc1, yc2, yc4, yc6, yc8, yc10, yc12, yc14, setA, setB, za, zb, zc, zd, ze, zf, zg, zh, zi, zj, zk, zl, zm, zn, zo, zp, reduceCtorEq, zE, ↓reduceIte]
                  refine brM (fun yc16 => ?_) (fun yk17 yc16 => ?_)
                  · rw [yc16]; rfl
                  · simp -implicitDefEqProofs only [ent36, prm36, f36_t, yc1, yc2, yc4, yc6, yc8, yc10, yc12, yc14, yc16, setA, setB, za, zb, zc, zd, ze, zf, zg, zh, zi, zj, zk, zl, zm, zn, zo, zp, reduceCtorEq, zE, ↓reduceIte]
                    refine brM (fun yc18 => ?_) (fun yr19 yc18 => ?_)
                    · rw [yc18]; rfl
                    · simp -implicitDefEqProofs only [e36, c26_14_e, c26_15_e, c26_16_r, (show opsOf c26_16 = _ :: _ from rfl), yc1, yc2, yc4, yc6, yc8, yc10, yc12, yc14, yc16, yc18, setA, setB, za, zb, zc, zd, ze, zf, zg, zh, zi, zj, zk, zl, zm, zn, zo, zp, reduceCtorEq, zE, ↓reduceIte]
                      refine brB (fun yc20 => ?_) (fun yc20 => ?_)
                      · simp -implicitDefEqProofs only [yc1, yc2, yc4, yc6, yc8, yc10, yc12, yc14, yc16, yc18, yc20, setA, setB, za, zb, zc, zd, ze, zf, zg, zh, zi, zj, zk, zl, zm, zn, zo, zp, reduceCtorEq, zE, ↓reduceIte]
                        exact j26_17_t s yr7 yr13 yr19 true _ (by rfl) (by rfl) (by rfl) (by rfl) (by rfl)
                      · simp -implicitDefEqProofs only [yc1, yc2, yc4, yc6, yc8, yc10, yc12, yc14, yc16, yc18, yc20, setA, setB, za, zb, zc, zd, ze, zf, zg, zh, zi, zj, zk, zl, zm, zn, zo, zp, reduceCtorEq, zE, ↓reduceIte]
                        refine brB (fun yc49 => ?_) (fun yc49 => ?_)
                        · simp -implicitDefEqProofs only [yc1, yc2, yc4, yc6, yc8, yc10, yc12, yc14, yc16, yc18, yc20, yc49, setA, setB, za, zb, zc, zd, ze, zf, zg, zh, zi, zj, zk, zl, zm, zn, zo, zp, reduceCtorEq, zE, ↓reduceIte]
                          refine brB (fun yc50 => ?_) (fun yc50 => ?_)
                          · simp -implicitDefEqProofs only [yc1, yc2, yc4, yc6, yc8, yc10, yc12, yc14, yc16, yc18, yc20, yc49, yc50, setA, setB, za, zb, zc, zd, ze, zf, zg, zh, zi, zj, zk, zl, zm, zn, zo, zp, reduceCtorEq, zE, ↓reduceIte]
                            exact j26_17_t s yr7 yr13 yr19 true _ (by rfl) (by rfl) (by rfl) (by rfl) (by rfl)
                          · simp -implicitDefEqProofs only [yc1, yc2, yc4, yc6, yc8, yc10, yc12, yc14, yc16, yc18, yc20, yc49, yc50, setA, setB, za, zb, zc, zd, ze, zf, zg, zh, zi, zj, zk, zl, zm, zn, zo, zp, reduceCtorEq, zE, ↓reduceIte]
                            refine brB (fun yc51 => ?_) (fun yc51 => ?_)
                            · simp -implicitDefEqProofs only [yc1, yc2, yc4, yc6, yc8, yc10, yc12, yc14, yc16, yc18, yc20, yc49, yc50, yc51, setA, setB, za, zb, zc, zd, ze, zf, zg, zh, zi, zj, zk, zl, zm, zn, zo, zp, reduceCtorEq, zE, ↓reduceIte]
                              exact j26_17_t s yr7 yr13 yr19 true _ (by rfl) (by rfl) (by rfl) (by rfl) (by rfl)
                            · simp -implicitDefEqProofs only [ent37, prm37, f37_t, yc1, yc2, yc4, yc6, yc8, yc10, yc12, yc14, yc16, yc18, yc20, yc49, yc50, yc51, setA, setB, za, zb, zc, zd, ze, zf, zg, zh, zi, zj, zk, zl, zm, zn, zo, zp, reduceCtorEq, zE, ↓reduceIte]
                              refine brM (fun yc52 => ?_) (fun yr53 yc52 => ?_)
                              · rw [yc52]; rfl
                              · simp -implicitDefEqProofs only [e37, yc1, yc2, yc4, yc6, yc8, yc10, yc12, yc14, yc16, yc18, yc20, yc49, yc50, yc51, yc52, setA, setB, za, zb, zc, zd, ze, zf, zg, zh, zi, zj, zk, zl, zm, zn, zo, zp, reduceCtorEq, zE, ↓reduceIte]
                                exact j26_17_t s yr7 yr13 yr19 (decide (yr53 < yr19)) _ (by rfl) (by rfl) (by rfl) (by rfl) (by rfl)
                        · simp -implicitDefEqProofs only [yc1, yc2, yc4, yc6, yc8, yc10, yc12, yc14, yc16, yc18, yc20, yc49, setA, setB, za, zb, zc, zd, ze, zf, zg, zh, zi, zj, zk, zl, zm, zn, zo, zp, reduceCtorEq, zE, ↓reduceIte]
                          exact j26_17_t s yr7 yr13 yr19 true _ (by rfl) (by rfl) (by rfl) (by rfl) (by rfl)
  · simp -implicitDefEqProofs only [c26_6_e, c26_7_r, (show opsOf c26_7 = _ :: _ from rfl), c26_8_e, yc1, setA, setB, za, zb, zc, zd, ze, zf, zg, zh, zi, zj, zk, zl, zm, zn, zo, zp, reduceCtorEq, zE, ↓reduceIte]
    all_goals rfl
noncomputable def c16_0 : Code := bodyOf Tryd.f16
def c16_1 := cA c16_0
def c16_2 := cB c16_0
def c16_3 := cA c16_2
def c16_4 := cB c16_2
def c16_5 := cA c16_4
def c16_6 := cA c16_5
def c16_7 := cB c16_5
def c16_8 := cA c16_7
def c16_9 := cA c16_8
def c16_10 := cB c16_8
def c16_11 := cB c16_7
def c16_12 := cB c16_4
def c16_13 := cA c16_12
def c16_14 := cB c16_12
def c16_15 := cA c16_14
def c16_16 := cB c16_14
theorem c16_0_e : c16_0 = .seq c16_1 c16_2 := rfl
theorem c16_1_r : RG (E0 mm) 16 c16_1 := rgN rfl
theorem c16_2_e : c16_2 = .seq c16_3 c16_4 := rfl
theorem c16_3_r : RG (E0 mm) 16 c16_3 := rgN rfl
theorem c16_4_e : c16_4 = .seq c16_5 c16_12 := rfl
theorem c16_5_e : c16_5 = .seq c16_6 c16_7 := rfl
theorem c16_6_r : RG (E0 mm) 16 c16_6 := rgN rfl
theorem c16_8_e : c16_8 = .seq c16_9 c16_10 := rfl
theorem c16_9_r : RG (E0 mm) 16 c16_9 := rgN rfl
theorem c16_10_e : c16_10 = .ret := rfl
theorem c16_11_e : c16_11 = .skip := rfl
theorem c16_12_e : c16_12 = .seq c16_13 c16_14 := rfl
theorem c16_13_r : RG (E0 mm) 16 c16_13 := rgN rfl
theorem c16_14_e : c16_14 = .seq c16_15 c16_16 := rfl
theorem c16_15_r : RG (E0 mm) 16 c16_15 := rgN rfl
theorem c16_16_e : c16_16 = .ret := rfl
abbrev R16 := (Int × Bool)
def e16 : R16 → AV × Heap := fun x => (.tup [.c (.d (.sc (.int .u64 x.1))), .c (.d (.sc (.bool x.2)))], [])
def m16 (r0_0 : Int) (r0_1 : Bs) (r0_2 : Int) (r0_3 : Bool) (r0_4 : List (Bs × Bs)) (r0_5 : Bool) (r0_6 : List UInt8) (name : Bs) : Option R16 :=
  (m25 r0_0 r0_1 r0_2 r0_3 r0_4 r0_5 r0_6 name).bind fun yr2 =>
    if yr2.2 = true then
      (m26 yr2.1).bind fun yr5 =>
        some (yr5.1, (yr5.2 == 0))
    else
      some ((0 : Int), false)
theorem f16_t (r0_0 : Int) (r0_1 : Bs) (r0_2 : Int) (r0_3 : Bool) (r0_4 : List (Bs × Bs)) (r0_5 : Bool) (r0_6 : List UInt8) (name : Bs) :
    callW (E0 mm) 16 [.agg [.d (.sc (.int .i64 r0_0)), .d (.sc (.string (S r0_1))), .d (.sc (.int .i64 r0_2)), .d (.lst r0_3 (enL enSS r0_4)), .d (.lst r0_5 (enL enB r0_6))], .c (.d (.sc (.string (S name))))] [] = (m16 r0_0 r0_1 r0_2 r0_3 r0_4 r0_5 r0_6 name).map e16 := by
  rw [callW_run (body := c16_0) (res := [.tmp 4, .tmp 5]) Tryd.func16 rfl rfl (by kernel_rfl)]
  simp -implicitDefEqProofs only [m16, slots2, c16_0_e, c16_1_r, (show opsOf c16_1 = _ :: _ from rfl), c16_2_e, c16_3_r, (show opsOf c16_3 = _ :: _ from rfl), sz35, ag35, ent25, prm25, f25_t, setA, setB, za, zb, zc, zd, ze, zf, zg, zh, zi, zj, zk, zl, zm, zn, zo, zp, reduceCtorEq, zE, ↓reduceIte]
  refine brM (fun yc1 => ?_) (fun yr2 yc1 => ?_)
  · rw [yc1]; rfl
  · simp -implicitDefEqProofs only [e25, c16_4_e, c16_5_e, c16_6_r, (show opsOf c16_6 = _ :: _ from rfl), (show c16_7 = Code.cond _ c16_8 c16_11 from rfl), yc1, setA, setB, za, zb, zc, zd, ze, zf, zg, zh, zi, zj, zk, zl, zm, zn, zo, zp, reduceCtorEq, zE, ↓reduceIte]
    refine brB (fun yc3 => ?_) (fun yc3 => ?_)
    · simp -implicitDefEqProofs only [c16_11_e, c16_12_e, c16_13_r, (show opsOf c16_13 = _ :: _ from rfl), ent26, prm26, f26_t, yc1, yc3, setA, setB, za, zb, zc, zd, ze, zf, zg, zh, zi, zj, zk, zl, zm, zn, zo, zp, reduceCtorEq, zE, ↓reduceIte]
      refine brM (fun yc4 => ?_) (fun yr5 yc4 => ?_)
      · rw [yc4]; rfl
      · simp -implicitDefEqProofs only [e26, c16_14_e, c16_15_r, (show opsOf c16_15 = _ :: _ from rfl), c16_16_e, yc1, yc3, yc4, setA, setB, za, zb, zc, zd, ze, zf, zg, zh, zi, zj, zk, zl, zm, zn, zo, zp, reduceCtorEq, zE, ↓reduceIte]
        all_goals rfl
    · simp -implicitDefEqProofs only [c16_8_e, c16_9_r, (show opsOf c16_9 = _ :: _ from rfl), c16_10_e, yc1, yc3, setA, setB, za, zb, zc, zd, ze, zf, zg, zh, zi, zj, zk, zl, zm, zn, zo, zp, reduceCtorEq, zE, ↓reduceIte]
      all_goals rfl
noncomputable def c12_0 : Code := bodyOf Tryd.f12
def c12_1 := cA c12_0
def c12_2 := cB c12_0
def c12_3 := cA c12_2
def c12_4 := cB c12_2
theorem c12_0_e : c12_0 = .seq c12_1 c12_2 := rfl
theorem c12_1_r : RG (E0 mm) 12 c12_1 := rgN rfl
theorem c12_2_e : c12_2 = .seq c12_3 c12_4 := rfl
theorem c12_3_r : RG (E0 mm) 12 c12_3 := rgN rfl
theorem c12_4_e : c12_4 = .ret := rfl
abbrev R12 := (Int × Bool)
def e12 : R12 → AV × Heap := fun x => (.tup [.c (.d (.sc (.int .u64 x.1))), .c (.d (.sc (.bool x.2)))], [])
def m12 (r0_0 : Int) (r0_1 : Bs) (r0_2 : Int) (r0_3 : Bool) (r0_4 : List (Bs × Bs)) (r0_5 : Bool) (r0_6 : List UInt8) : Option R12 :=
  (m16 r0_0 r0_1 r0_2 r0_3 r0_4 r0_5 r0_6 ([100, 97, 116, 101] : Bs)).bind fun yr2 =>
    some (yr2.1, yr2.2)
theorem f12_t (r0_0 : Int) (r0_1 : Bs) (r0_2 : Int) (r0_3 : Bool) (r0_4 : List (Bs × Bs)) (r0_5 : Bool) (r0_6 : List UInt8) :
    callW (E0 mm) 12 [.agg [.d (.sc (.int .i64 r0_0)), .d (.sc (.string (S r0_1))), .d (.sc (.int .i64 r0_2)), .d (.lst r0_3 (enL enSS r0_4)), .d (.lst r0_5 (enL enB r0_6))]] [] = (m12 r0_0 r0_1 r0_2 r0_3 r0_4 r0_5 r0_6).map e12 := by
  rw [callW_run (body := c12_0) (res := [.tmp 2, .tmp 3]) Tryd.func12 rfl rfl (by kernel_rfl)]
  simp -implicitDefEqProofs only [m12, slots1, c12_0_e, c12_1_r, (show opsOf c12_1 = _ :: _ from rfl), c12_2_e, c12_3_r, (show opsOf c12_3 = _ :: _ from rfl), sz35, ag35, ent16, prm16, (show callW (E0 mm) 16 [.agg [.d (.sc (.int .i64 r0_0)), .d (.sc (.string (S r0_1))), .d (.sc (.int .i64 r0_2)), .d (.lst r0_3 (enL enSS r0_4)), .d (.lst r0_5 (enL enB r0_6))], .c (.d (.sc (.string (S ([100, 97, 116, 101] : Bs)))))] [] = _ from f16_t r0_0 r0_1 r0_2 r0_3 r0_4 r0_5 r0_6 ([100, 97, 116, 101] : Bs)), setA, setB, za, zb, zc, zd, ze, zf, zg, zh, zi, zj, zk, zl, zm, zn, zo, zp, reduceCtorEq, zE, ↓reduceIte]
  refine brM (fun yc1 => ?_) (fun yr2 yc1 => ?_)
  · rw [yc1]; rfl
  · simp -implicitDefEqProofs only [e16, c12_4_e, yc1, setA, setB, za, zb, zc, zd, ze, zf, zg, zh, zi, zj, zk, zl, zm, zn, zo, zp, reduceCtorEq, zE, ↓reduceIte]
    all_goals rfl
noncomputable def c17_0 : Code := bodyOf Tryd.f17
def c17_1 := cA c17_0
def c17_2 := cB c17_0
def c17_3 := cA c17_2
def c17_4 := cA c17_3
def c17_5 := cB c17_3
def c17_6 := cA c17_5
def c17_7 := cA c17_6
def c17_8 := cB c17_6
def c17_9 := cB c17_5
def c17_10 := cB c17_2
def c17_11 := cA c17_10
def c17_12 := cB c17_10
theorem c17_0_e : c17_0 = .seq c17_1 c17_2 := rfl
theorem c17_1_r : RG (E0 mm) 17 c17_1 := rgN rfl
theorem c17_2_e : c17_2 = .seq c17_3 c17_10 := rfl
theorem c17_3_e : c17_3 = .seq c17_4 c17_5 := rfl
theorem c17_4_r : RG (E0 mm) 17 c17_4 := rgN rfl
theorem c17_6_e : c17_6 = .seq c17_7 c17_8 := rfl
theorem c17_7_r : RG (E0 mm) 17 c17_7 := rgN rfl
theorem c17_8_e : c17_8 = .ret := rfl
theorem c17_9_e : c17_9 = .skip := rfl
theorem c17_10_e : c17_10 = .seq c17_11 c17_12 := rfl
theorem c17_11_r : RG (E0 mm) 17 c17_11 := rgN rfl
theorem c17_12_e : c17_12 = .ret := rfl
abbrev R17 := (Int)
def e17 : R17 → AV × Heap := fun x => (.v (.c (.d (.sc (.int .u64 x)))), [])
def m17 (xfrom to : Int) : Option R17 :=
  if (decide (to ≤ xfrom)) = true then
    some (0 : Int)
  else
    some (wu64 (to - xfrom))
theorem f17_t (xfrom to : Int) :
    callW (E0 mm) 17 [.c (.d (.sc (.int .u64 xfrom))), .c (.d (.sc (.int .u64 to)))] [] = (m17 xfrom to).map e17 := by
  rw [callW_run (body := c17_0) (res := [.tmp 4]) Tryd.func17 rfl rfl (by kernel_rfl)]
  simp -implicitDefEqProofs only [m17, slots2, c17_0_e, c17_1_r, (show opsOf c17_1 = _ :: _ from rfl), c17_2_e, c17_3_e, c17_4_r, (show opsOf c17_4 = _ :: _ from rfl), (show c17_5 = Code.cond _ c17_6 c17_9 from rfl), setA, setB, za, zb, zc, zd, ze, zf, zg, zh, zi, zj, zk, zl, zm, zn, zo, zp, reduceCtorEq, zE, ↓reduceIte]
  refine brB (fun yc1 => ?_) (fun yc1 => ?_)
  · simp -implicitDefEqProofs only [c17_6_e, c17_7_r, (show opsOf c17_7 = _ :: _ from rfl), c17_8_e, yc1, setA, setB, za, zb, zc, zd, ze, zf, zg, zh, zi, zj, zk, zl, zm, zn, zo, zp, reduceCtorEq, zE, ↓reduceIte]
    all_goals rfl
  · simp -implicitDefEqProofs only [c17_9_e, c17_10_e, c17_11_r, (show opsOf c17_11 = _ :: _ from rfl), c17_12_e, yc1, setA, setB, za, zb, zc, zd, ze, zf, zg, zh, zi, zj, zk, zl, zm, zn, zo, zp, reduceCtorEq, zE, ↓reduceIte]
    all_goals rfl
end
end Go.Proofs.YteajgnaeklbpeaaDoor
