/- The Go functions as plain functions, and that the evaluator computes them. -/
import Derived.Test.YtbkobjepahlegaaGreatDoorFMore1
set_option linter.all false
set_option maxRecDepth 100000
namespace Go.Proofs.YtbkobjepahlegaaGreatDoor
open Go Go.Ab
open Nat renaming reduceEqDiff → za, reduceAdd → zb, reduceLeDiff → zc, reduceLT → zd, reduceMul → ze, reduceBEq → zf, reduceSub → zg, reducePow → zh
open Int renaming reduceEq → zi, reduceLE → zj, reduceLT → zk, reduceToNat → zl, reduceNegSucc → zm, reduceAdd → zn, reduceBEq → zo
open String renaming reduceBEq → zp
set_option maxHeartbeats 4000000
noncomputable section
variable {mm : Int}
noncomputable def c61_0 : Code := bodyOf Tryz.f61
def c61_1 := cA c61_0
def c61_3 := cA (cB c61_0)
def c61_6 := cA (cA (cB (cB c61_0)))
def c61_8 := cA (cB (cA (cB (cB c61_0))))
def c61_9 := cA c61_8
def c61_10 := cA c61_9
def c61_15 := cB (cB c61_9)
def c61_18 := cA (cA (cA c61_15))
def c61_19 := cB (cA (cA c61_15))
def c61_20 := cB c61_15
def c61_21 := cB (cB (cB c61_0))
def c61_23 := cA (cA c61_21)
def c61_26 := cA (cA (cB (cA c61_21)))
def c61_30 := cA (cB c61_21)
def L61_8 : List (Nat × Co) := [(1, .keep), (5, .keep), (8, .keep), (9, .keep), (10, .keep)]
abbrev b61 (mm : Int) := bodyD (E0 mm) [.tmp 4] 0 false
abbrev R61 := (Int)
def e61 (x : R61) : AV × Heap := (vd (dI x), [])
def j61_20 (t8_0 : Bool) (t8_1 : List Bs) (t9 t10 : Int) (h1 : List Int) : Option (((Bool × List Bs × Int × Int) ⊕ (Bool × List Bs × Int × Int × List Int)) ⊕ R61) :=
  some (.inl (.inr (t8_0, t8_1, t9, (w64 (t10 + 1)), h1)))
def K61_8 (mm : Int) (r : Option (Ex × St)) : Option (AV × Heap) := b61 mm (sq (E0 mm) 61 0 c61_21 (blockD 0 (r)))
def en61_8 : ((Bool × List Bs × Int × Int) ⊕ (Bool × List Bs × Int × Int × List Int)) → X := fun x => match x with
  | (.inl x) => (none, [vd (.sc (.func (.func 62) #[] #[])), vd (.lst true []), vd (.lst x.1 (enL enS x.2.1)), vd (dI x.2.2.1), vd (dI x.2.2.2)], [])
  | (.inr x) => (none, [vd (.sc (.func (.func 62) #[] #[])), .v (.c (.slc 0 0 1 x.2.2.2.2.length none)), vd (.lst x.1 (enL enS x.2.1)), vd (dI x.2.2.1), vd (dI x.2.2.2.1)], [.cells (enI x.2.2.2.2)])
def k61 := Q (rx c61_18) (Q (rx c61_19) (Q @f109_t (Q @e109.eq_1 (Q @enI_length (Q @enI1_src (Q (rx c61_23) (Q (rx c61_26) (Q (rx c61_10) (Q @K61_8.eq_1 (Q (rx c61_30) (Q @f62_t (Q @e62.eq_1 (Q (rx c61_1) (Q (rx c61_3) (Q (rx c61_6) (Q (fun mm => lx (E0 mm) 61 c61_8 c61_9 L61_8) (Q (nE c61_0 (.seq c61_1 (.seq c61_3 (.seq (.seq c61_6 (.block 0 c61_8)) c61_21)))) (Q (nE c61_9 (.seq c61_10 (.seq (.cond _ .skip (.exit 0)) c61_15))) (Q @L61_8.eq_1 hA)))))))))))))))))))
theorem j61_20_t (t8_0 : Bool) (t8_1 : List Bs) (t9 t10 : Int) (h1 : List Int) (g0 : Ob) (sl : Sl) (_ : sl 1 = vd (.sc (.func (.func 62) #[] #[]))) (_ : sl 5 = .v (.c (.slc 1 0 1 h1.length none))) (_ : sl 8 = vd (.lst t8_0 (enL enS t8_1))) (_ : sl 9 = vd (dI t9)) (_ : sl 10 = vd (dI t10)) :
    stepE (K61_8 mm) (loopK 0 L61_8 (dn (E0 mm) 61 0 c61_20 sl [g0, .cells (enI h1)])) = (j61_20 t8_0 t8_1 t9 t10 h1).map (sm en61_8 e61) := by
  unfold j61_20; exact go (Q (rx c61_20) k61) trivial
def j61_15 (t8_0 : Bool) (t8_1 : List Bs) (t9 t10 : Int) : Option (((Bool × List Bs × Int × Int) ⊕ (Bool × List Bs × Int × Int × List Int)) ⊕ R61) :=
  if 0 ≤ t10 ∧ t10 < (t8_1.length : Int) then
    (m109 (t8_1.getD t10.toNat default)).bind fun yr5 =>
      j61_20 t8_0 t8_1 t9 t10 ([yr5] : List Int)
  else none
theorem j61_15_t (t8_0 : Bool) (t8_1 : List Bs) (t9 t10 : Int)  (sl : Sl) (_ : sl 1 = vd (.sc (.func (.func 62) #[] #[]))) (_ : sl 5 = vd (.lst true [])) (_ : sl 8 = vd (.lst t8_0 (enL enS t8_1))) (_ : sl 9 = vd (dI t9)) (_ : sl 10 = vd (dI t10)) :
    stepE (K61_8 mm) (loopK 0 L61_8 (dn (E0 mm) 61 0 c61_15 sl [])) = (j61_15 t8_0 t8_1 t9 t10).map (sm en61_8 e61) := by
  unfold j61_15; exact go (Q (nE c61_15 (.seq (.block 1 (.seq c61_18 c61_19)) c61_20)) k61) @j61_20_t
def j61_21  : Option R61 :=
  some (-1 : Int)
theorem j61_21_t (sl : Sl) (_ : sl 1 = vd (.sc (.func (.func 62) #[] #[]))) (_ : sl 5 = vd (.lst true [])) :
    b61 mm (dn (E0 mm) 61 0 c61_21 sl []) = (j61_21).map e61 := by
  unfold j61_21; exact go (Q (nE c61_21 (.seq (.seq c61_23 (.cond _ (.seq c61_26 .ret) .skip)) (.seq c61_30 .ret))) k61) trivial
def s61_8x0 (t8_0 : Bool) (t8_1 : List Bs) (t9 t10 : Int) : Option (((Bool × List Bs × Int × Int) ⊕ (Bool × List Bs × Int × Int × List Int)) ⊕ R61) :=
  if (decide (t10 < t9)) = true then
    j61_15 t8_0 t8_1 t9 t10
  else
    (j61_21).map .inr
theorem s61_8x0_t (t8_0 : Bool) (t8_1 : List Bs) (t9 t10 : Int) :
    stepE (K61_8 mm) (lp (E0 mm) 61 0 c61_9 L61_8 (none, [vd (.sc (.func (.func 62) #[] #[])), vd (.lst true []), vd (.lst t8_0 (enL enS t8_1)), vd (dI t9), vd (dI t10)], [])) = (s61_8x0 t8_0 t8_1 t9 t10).map (sm en61_8 e61) := by
  unfold s61_8x0; exact go k61 (Q @j61_15_t @j61_21_t)
def j61_20v1 (t8_0 : Bool) (t8_1 : List Bs) (t9 t10 : Int) (h2 : List Int) : Option (((Bool × List Bs × Int × Int) ⊕ (Bool × List Bs × Int × Int × List Int)) ⊕ R61) :=
  some (.inl (.inr (t8_0, t8_1, t9, (w64 (t10 + 1)), h2)))
theorem j61_20v1_t (t8_0 : Bool) (t8_1 : List Bs) (t9 t10 : Int) (h2 : List Int) (g0 g1 : Ob) (sl : Sl) (_ : sl 1 = vd (.sc (.func (.func 62) #[] #[]))) (_ : sl 5 = .v (.c (.slc 2 0 1 h2.length none))) (_ : sl 8 = vd (.lst t8_0 (enL enS t8_1))) (_ : sl 9 = vd (dI t9)) (_ : sl 10 = vd (dI t10)) :
    stepE (K61_8 mm) (loopK 0 L61_8 (dn (E0 mm) 61 0 c61_20 sl [g0, g1, .cells (enI h2)])) = (j61_20v1 t8_0 t8_1 t9 t10 h2).map (sm en61_8 e61) := by
  unfold j61_20v1; exact go (Q (rx c61_20) k61) trivial
def j61_15v1 (t8_0 : Bool) (t8_1 : List Bs) (t9 t10 : Int) (h0 : List Int) : Option (((Bool × List Bs × Int × Int) ⊕ (Bool × List Bs × Int × Int × List Int)) ⊕ R61) :=
  if 0 ≤ t10 ∧ t10 < (t8_1.length : Int) then
    (m109 (t8_1.getD t10.toNat default)).bind fun yr10 =>
      if (h0.length + 1) * 8 ≤ 140737488355328 then
        j61_20v1 t8_0 t8_1 t9 t10 (h0 ++ ([yr10] : List Int))
      else none
  else none
theorem j61_15v1_t (t8_0 : Bool) (t8_1 : List Bs) (t9 t10 : Int) (h0 : List Int)  (sl : Sl) (_ : sl 1 = vd (.sc (.func (.func 62) #[] #[]))) (_ : sl 5 = .v (.c (.slc 0 0 1 h0.length none))) (_ : sl 8 = vd (.lst t8_0 (enL enS t8_1))) (_ : sl 9 = vd (dI t9)) (_ : sl 10 = vd (dI t10)) :
    stepE (K61_8 mm) (loopK 0 L61_8 (dn (E0 mm) 61 0 c61_15 sl [.cells (enI h0)])) = (j61_15v1 t8_0 t8_1 t9 t10 h0).map (sm en61_8 e61) := by
  unfold j61_15v1; exact go (Q (nE c61_15 (.seq (.block 1 (.seq c61_18 c61_19)) c61_20)) k61) @j61_20v1_t
def j61_21v1 (h0 : List Int) : Option R61 :=
  if ((h0.length : Int) == 0) = true then
    some (-1 : Int)
  else
    (m62 h0).bind fun yr14 =>
      some yr14.1
theorem j61_21v1_t (h0 : List Int)  (sl : Sl) (_ : sl 1 = vd (.sc (.func (.func 62) #[] #[]))) (_ : sl 5 = .v (.c (.slc 0 0 1 h0.length none))) :
    b61 mm (dn (E0 mm) 61 0 c61_21 sl [.cells (enI h0)]) = (j61_21v1 h0).map e61 := by
  unfold j61_21v1; exact go (Q (nE c61_21 (.seq (.seq c61_23 (.cond _ (.seq c61_26 .ret) .skip)) (.seq c61_30 .ret))) k61) trivial
def s61_8x1 (t8_0 : Bool) (t8_1 : List Bs) (t9 t10 : Int) (h0 : List Int) : Option (((Bool × List Bs × Int × Int) ⊕ (Bool × List Bs × Int × Int × List Int)) ⊕ R61) :=
  if (decide (t10 < t9)) = true then
    j61_15v1 t8_0 t8_1 t9 t10 h0
  else
    (j61_21v1 h0).map .inr
theorem s61_8x1_t (t8_0 : Bool) (t8_1 : List Bs) (t9 t10 : Int) (h0 : List Int) :
    stepE (K61_8 mm) (lp (E0 mm) 61 0 c61_9 L61_8 (none, [vd (.sc (.func (.func 62) #[] #[])), .v (.c (.slc 0 0 1 h0.length none)), vd (.lst t8_0 (enL enS t8_1)), vd (dI t9), vd (dI t10)], [.cells (enI h0)])) = (s61_8x1 t8_0 t8_1 t9 t10 h0).map (sm en61_8 e61) := by
  unfold s61_8x1; exact go k61 (Q @j61_15v1_t @j61_21v1_t)
def s61_8 : ((Bool × List Bs × Int × Int) ⊕ (Bool × List Bs × Int × Int × List Int)) → Option (((Bool × List Bs × Int × Int) ⊕ (Bool × List Bs × Int × Int × List Int)) ⊕ R61) := fun x => match x with
  | (.inl x) => s61_8x0 x.1 x.2.1 x.2.2.1 x.2.2.2
  | (.inr x) => s61_8x1 x.1 x.2.1 x.2.2.1 x.2.2.2.1 x.2.2.2.2
def l61_8 (t8_0 : Bool) (t8_1 : List Bs) (t9 t10 : Int) : Option R61 := iter s61_8 (.inl (t8_0, t8_1, t9, t10))
theorem l61_8_t (t8_0 : Bool) (t8_1 : List Bs) (t9 t10 : Int) : b61 mm (sq (E0 mm) 61 0 c61_21 (blockD 0 (itW (lp (E0 mm) 61 0 c61_9 L61_8) (none, [vd (.sc (.func (.func 62) #[] #[])), vd (.lst true []), vd (.lst t8_0 (enL enS t8_1)), vd (dI t9), vd (dI t10)], [])))) = (l61_8 t8_0 t8_1 t9 t10).map e61 :=
  it_sim (K := (K61_8 mm)) rfl (enc := en61_8) (fun x => match x with
  | (.inl x) => s61_8x0_t x.1 x.2.1 x.2.2.1 x.2.2.2
  | (.inr x) => s61_8x1_t x.1 x.2.1 x.2.2.1 x.2.2.2.1 x.2.2.2.2) (.inl (t8_0, t8_1, t9, t10))
def m61 (values_0 : Bool) (values_1 : List Bs) : Option R61 :=
  l61_8 values_0 values_1 (values_1.length : Int) (0 : Int)
theorem f61_t (values_0 : Bool) (values_1 : List Bs) :
    callW (E0 mm) 61 [cd (.lst values_0 (enL enS values_1)), cd (.sc (.func (.func 62) #[] #[]))] [] = (m61 values_0 values_1).map e61 := by
  rw [cR c61_0 [.tmp 4] Tryz.func61]
  unfold m61; exact go k61 @l61_8_t
noncomputable def c81_0 : Code := bodyOf Tryz.f81
def c81_1 := cA c81_0
def c81_4 := cA (cA (cB c81_0))
def c81_6 := cA (cB (cA (cB c81_0)))
def c81_9 := cA (cB (cB c81_0))
def c81_12 := cA (cA (cB (cB (cB c81_0))))
def c81_14 := cA (cB (cA (cB (cB (cB c81_0)))))
def c81_15 := cA c81_14
def c81_17 := cA (cA c81_15)
def c81_23 := cA (cA (cB c81_15))
def c81_24 := cB (cB c81_15)
def c81_25 := cB (cB (cB (cB c81_0)))
def c81_26 := cA c81_25
theorem c81_6_r : RG (E0 mm) 81 c81_6 := rgN rfl
def L81_14 : List (Nat × Co) := [(0, .keep), (3, .keep), (4, .keep)]
abbrev R81 := (Int × List Int)
def e81 (x : R81) : AV × Heap := (vd (dI x.1), [.cells (enI x.2)])
def j81_25 (m3 : Int) (h0 : List Int) : Option R81 :=
  some (m3, h0)
def K81_14 (mm : Int) (r : Option (Ex × St)) : Option (AV × Heap) := bodyD (E0 mm) [.tmp 2] 1 false (sq (E0 mm) 81 1 c81_25 (blockD 0 (r)))
def en81_14 (x : (Int × Int × List Int)) : X := (none, [.v (.c (.slc 0 0 1 x.2.2.length none)), vd (dI x.1), vd (dI x.2.1)], [.cells (enI x.2.2)])
def k81 (mm : Int) := Q (rx c81_26) (Q (rx c81_17) (Q (rx c81_23) (Q @enI_length (Q @enI_load (Q (rx c81_24) (Q @K81_14.eq_1 (Q (rx c81_1) (Q (rx c81_4) (Q @c81_6_r (Q (runOps_dead (E := (E0 mm)) (call := callW (E0 mm)) (all := opsOf c81_6) (os := opsOf c81_6) (by kernel_rfl)) (Q (rx c81_9) (Q (fun l => enI_load0 l 0) (Q (rx c81_12) (Q (fun mm => lx (E0 mm) 81 c81_14 c81_15 L81_14) (Q (nE c81_0 (.seq c81_1 (.seq (.seq c81_4 (.cond _ c81_6 .skip)) (.seq c81_9 (.seq (.seq c81_12 (.block 0 c81_14)) c81_25))))) (Q (nE c81_15 (.seq (.seq c81_17 (.cond _ .skip (.exit 0))) (.seq (.block 1 c81_23) c81_24))) (Q @en81_14.eq_1 (Q @L81_14.eq_1 hA))))))))))))))))))
theorem j81_25_t (m3 : Int) (h0 : List Int)  (sl : Sl) (_ : sl 3 = vd (dI m3)) :
    bodyD (E0 mm) [.tmp 2] 1 false (dn (E0 mm) 81 1 c81_25 sl [.cells (enI h0)]) = (j81_25 m3 h0).map e81 := by
  unfold j81_25; exact go (Q (nE c81_25 (.seq c81_26 .ret)) (k81 mm)) trivial
def s81_14 (m3 i4 : Int) (h0 : List Int) : Option ((Int × Int × List Int) ⊕ R81) :=
  if (decide (i4 < (h0.length : Int))) = true then
    if 0 ≤ i4 ∧ i4 < (h0.length : Int) then
      some (.inl ((max2 m3 (h0.getD i4.toNat default)), (w64 (i4 + 1)), h0))
    else none
  else
    (j81_25 m3 h0).map .inr
theorem s81_14_t (m3 i4 : Int) (h0 : List Int) :
    stepE (K81_14 mm) (lp (E0 mm) 81 1 c81_15 L81_14 (en81_14 (m3, i4, h0))) = (s81_14 m3 i4 h0).map (sm en81_14 e81) := by
  unfold s81_14; exact go (k81 mm) @j81_25_t
def l81_14 (m3 i4 : Int) (h0 : List Int) : Option R81 := iter (fun x : (Int × Int × List Int) => s81_14 x.1 x.2.1 x.2.2) (m3, i4, h0)
theorem l81_14_t (m3 i4 : Int) (h0 : List Int) : (K81_14 mm) (itW (lp (E0 mm) 81 1 c81_15 L81_14) (en81_14 (m3, i4, h0))) = (l81_14 m3 i4 h0).map e81 :=
  it_sim (K := (K81_14 mm)) rfl (enc := en81_14) (fun x => s81_14_t x.1 x.2.1 x.2.2) (m3, i4, h0)
def m81 (h0 : List Int) : Option R81 :=
  if (decide ((h0.length : Int) < 1)) = true then
    none
  else
    if (0 : Int) < (h0.length : Int) then
      l81_14 (h0.getD 0 default) (1 : Int) h0
    else none
theorem f81_t (h0 : List Int) :
    callW (E0 mm) 81 [.c (.slc 0 0 1 h0.length none)] [.cells (enI h0)] = (m81 h0).map e81 := by
  rw [cR c81_0 [.tmp 2] Tryz.func81]
  unfold m81; exact go (k81 mm) @l81_14_t
abbrev b61a (mm : Int) := bodyD (E0 mm) [.tmp 4] 0 false
abbrev R61a := (Int)
def L61a_8 : List (Nat × Co) := [(1, .keep), (5, .keep), (8, .keep), (9, .keep), (10, .keep)]
def e61a (x : R61a) : AV × Heap := (vd (dI x), [])
def j61a_20 (t8_0 : Bool) (t8_1 : List Bs) (t9 t10 : Int) (h1 : List Int) : Option (((Bool × List Bs × Int × Int) ⊕ (Bool × List Bs × Int × Int × List Int)) ⊕ R61a) :=
  some (.inl (.inr (t8_0, t8_1, t9, (w64 (t10 + 1)), h1)))
def K61a_8 (mm : Int) (r : Option (Ex × St)) : Option (AV × Heap) := b61a mm (sq (E0 mm) 61 0 c61_21 (blockD 0 (r)))
def en61a_8 : ((Bool × List Bs × Int × Int) ⊕ (Bool × List Bs × Int × Int × List Int)) → X := fun x => match x with
  | (.inl x) => (none, [vd (.sc (.func (.func 81) #[] #[])), vd (.lst true []), vd (.lst x.1 (enL enS x.2.1)), vd (dI x.2.2.1), vd (dI x.2.2.2)], [])
  | (.inr x) => (none, [vd (.sc (.func (.func 81) #[] #[])), .v (.c (.slc 0 0 1 x.2.2.2.2.length none)), vd (.lst x.1 (enL enS x.2.1)), vd (dI x.2.2.1), vd (dI x.2.2.2.1)], [.cells (enI x.2.2.2.2)])
def k61a := Q (rx c61_18) (Q (rx c61_19) (Q @f109_t (Q @e109.eq_1 (Q @enI_length (Q @enI1_src (Q (rx c61_23) (Q (rx c61_26) (Q (rx c61_10) (Q @K61a_8.eq_1 (Q (rx c61_30) (Q @ent81 (Q @prm81 (Q @f81_t (Q @e81.eq_1 (Q (rx c61_1) (Q (rx c61_3) (Q (rx c61_6) (Q (fun mm => lx (E0 mm) 61 c61_8 c61_9 L61a_8) (Q (nE c61_0 (.seq c61_1 (.seq c61_3 (.seq (.seq c61_6 (.block 0 c61_8)) c61_21)))) (Q (nE c61_9 (.seq c61_10 (.seq (.cond _ .skip (.exit 0)) c61_15))) (Q @L61a_8.eq_1 hA)))))))))))))))))))))
theorem j61a_20_t (t8_0 : Bool) (t8_1 : List Bs) (t9 t10 : Int) (h1 : List Int) (g0 : Ob) (sl : Sl) (_ : sl 1 = vd (.sc (.func (.func 81) #[] #[]))) (_ : sl 5 = .v (.c (.slc 1 0 1 h1.length none))) (_ : sl 8 = vd (.lst t8_0 (enL enS t8_1))) (_ : sl 9 = vd (dI t9)) (_ : sl 10 = vd (dI t10)) :
    stepE (K61a_8 mm) (loopK 0 L61a_8 (dn (E0 mm) 61 0 c61_20 sl [g0, .cells (enI h1)])) = (j61a_20 t8_0 t8_1 t9 t10 h1).map (sm en61a_8 e61a) := by
  unfold j61a_20; exact go (Q (rx c61_20) k61a) trivial
def j61a_15 (t8_0 : Bool) (t8_1 : List Bs) (t9 t10 : Int) : Option (((Bool × List Bs × Int × Int) ⊕ (Bool × List Bs × Int × Int × List Int)) ⊕ R61a) :=
  if 0 ≤ t10 ∧ t10 < (t8_1.length : Int) then
    (m109 (t8_1.getD t10.toNat default)).bind fun yr5 =>
      j61a_20 t8_0 t8_1 t9 t10 ([yr5] : List Int)
  else none
theorem j61a_15_t (t8_0 : Bool) (t8_1 : List Bs) (t9 t10 : Int)  (sl : Sl) (_ : sl 1 = vd (.sc (.func (.func 81) #[] #[]))) (_ : sl 5 = vd (.lst true [])) (_ : sl 8 = vd (.lst t8_0 (enL enS t8_1))) (_ : sl 9 = vd (dI t9)) (_ : sl 10 = vd (dI t10)) :
    stepE (K61a_8 mm) (loopK 0 L61a_8 (dn (E0 mm) 61 0 c61_15 sl [])) = (j61a_15 t8_0 t8_1 t9 t10).map (sm en61a_8 e61a) := by
  unfold j61a_15; exact go (Q (nE c61_15 (.seq (.block 1 (.seq c61_18 c61_19)) c61_20)) k61a) @j61a_20_t
def j61a_21  : Option R61a :=
  some (-1 : Int)
theorem j61a_21_t (sl : Sl) (_ : sl 1 = vd (.sc (.func (.func 81) #[] #[]))) (_ : sl 5 = vd (.lst true [])) :
    b61a mm (dn (E0 mm) 61 0 c61_21 sl []) = (j61a_21).map e61a := by
  unfold j61a_21; exact go (Q (nE c61_21 (.seq (.seq c61_23 (.cond _ (.seq c61_26 .ret) .skip)) (.seq c61_30 .ret))) k61a) trivial
def s61a_8x0 (t8_0 : Bool) (t8_1 : List Bs) (t9 t10 : Int) : Option (((Bool × List Bs × Int × Int) ⊕ (Bool × List Bs × Int × Int × List Int)) ⊕ R61a) :=
  if (decide (t10 < t9)) = true then
    j61a_15 t8_0 t8_1 t9 t10
  else
    (j61a_21).map .inr
theorem s61a_8x0_t (t8_0 : Bool) (t8_1 : List Bs) (t9 t10 : Int) :
    stepE (K61a_8 mm) (lp (E0 mm) 61 0 c61_9 L61a_8 (none, [vd (.sc (.func (.func 81) #[] #[])), vd (.lst true []), vd (.lst t8_0 (enL enS t8_1)), vd (dI t9), vd (dI t10)], [])) = (s61a_8x0 t8_0 t8_1 t9 t10).map (sm en61a_8 e61a) := by
  unfold s61a_8x0; exact go k61a (Q @j61a_15_t @j61a_21_t)
def j61a_20v1 (t8_0 : Bool) (t8_1 : List Bs) (t9 t10 : Int) (h2 : List Int) : Option (((Bool × List Bs × Int × Int) ⊕ (Bool × List Bs × Int × Int × List Int)) ⊕ R61a) :=
  some (.inl (.inr (t8_0, t8_1, t9, (w64 (t10 + 1)), h2)))
theorem j61a_20v1_t (t8_0 : Bool) (t8_1 : List Bs) (t9 t10 : Int) (h2 : List Int) (g0 g1 : Ob) (sl : Sl) (_ : sl 1 = vd (.sc (.func (.func 81) #[] #[]))) (_ : sl 5 = .v (.c (.slc 2 0 1 h2.length none))) (_ : sl 8 = vd (.lst t8_0 (enL enS t8_1))) (_ : sl 9 = vd (dI t9)) (_ : sl 10 = vd (dI t10)) :
    stepE (K61a_8 mm) (loopK 0 L61a_8 (dn (E0 mm) 61 0 c61_20 sl [g0, g1, .cells (enI h2)])) = (j61a_20v1 t8_0 t8_1 t9 t10 h2).map (sm en61a_8 e61a) := by
  unfold j61a_20v1; exact go (Q (rx c61_20) k61a) trivial
def j61a_15v1 (t8_0 : Bool) (t8_1 : List Bs) (t9 t10 : Int) (h0 : List Int) : Option (((Bool × List Bs × Int × Int) ⊕ (Bool × List Bs × Int × Int × List Int)) ⊕ R61a) :=
  if 0 ≤ t10 ∧ t10 < (t8_1.length : Int) then
    (m109 (t8_1.getD t10.toNat default)).bind fun yr10 =>
      if (h0.length + 1) * 8 ≤ 140737488355328 then
        j61a_20v1 t8_0 t8_1 t9 t10 (h0 ++ ([yr10] : List Int))
      else none
  else none
theorem j61a_15v1_t (t8_0 : Bool) (t8_1 : List Bs) (t9 t10 : Int) (h0 : List Int)  (sl : Sl) (_ : sl 1 = vd (.sc (.func (.func 81) #[] #[]))) (_ : sl 5 = .v (.c (.slc 0 0 1 h0.length none))) (_ : sl 8 = vd (.lst t8_0 (enL enS t8_1))) (_ : sl 9 = vd (dI t9)) (_ : sl 10 = vd (dI t10)) :
    stepE (K61a_8 mm) (loopK 0 L61a_8 (dn (E0 mm) 61 0 c61_15 sl [.cells (enI h0)])) = (j61a_15v1 t8_0 t8_1 t9 t10 h0).map (sm en61a_8 e61a) := by
  unfold j61a_15v1; exact go (Q (nE c61_15 (.seq (.block 1 (.seq c61_18 c61_19)) c61_20)) k61a) @j61a_20v1_t
def j61a_21v1 (h0 : List Int) : Option R61a :=
  if ((h0.length : Int) == 0) = true then
    some (-1 : Int)
  else
    (m81 h0).bind fun yr14 =>
      some yr14.1
theorem j61a_21v1_t (h0 : List Int)  (sl : Sl) (_ : sl 1 = vd (.sc (.func (.func 81) #[] #[]))) (_ : sl 5 = .v (.c (.slc 0 0 1 h0.length none))) :
    b61a mm (dn (E0 mm) 61 0 c61_21 sl [.cells (enI h0)]) = (j61a_21v1 h0).map e61a := by
  unfold j61a_21v1; exact go (Q (nE c61_21 (.seq (.seq c61_23 (.cond _ (.seq c61_26 .ret) .skip)) (.seq c61_30 .ret))) k61a) trivial
def s61a_8x1 (t8_0 : Bool) (t8_1 : List Bs) (t9 t10 : Int) (h0 : List Int) : Option (((Bool × List Bs × Int × Int) ⊕ (Bool × List Bs × Int × Int × List Int)) ⊕ R61a) :=
  if (decide (t10 < t9)) = true then
    j61a_15v1 t8_0 t8_1 t9 t10 h0
  else
    (j61a_21v1 h0).map .inr
theorem s61a_8x1_t (t8_0 : Bool) (t8_1 : List Bs) (t9 t10 : Int) (h0 : List Int) :
    stepE (K61a_8 mm) (lp (E0 mm) 61 0 c61_9 L61a_8 (none, [vd (.sc (.func (.func 81) #[] #[])), .v (.c (.slc 0 0 1 h0.length none)), vd (.lst t8_0 (enL enS t8_1)), vd (dI t9), vd (dI t10)], [.cells (enI h0)])) = (s61a_8x1 t8_0 t8_1 t9 t10 h0).map (sm en61a_8 e61a) := by
  unfold s61a_8x1; exact go k61a (Q @j61a_15v1_t @j61a_21v1_t)
def s61a_8 : ((Bool × List Bs × Int × Int) ⊕ (Bool × List Bs × Int × Int × List Int)) → Option (((Bool × List Bs × Int × Int) ⊕ (Bool × List Bs × Int × Int × List Int)) ⊕ R61a) := fun x => match x with
  | (.inl x) => s61a_8x0 x.1 x.2.1 x.2.2.1 x.2.2.2
  | (.inr x) => s61a_8x1 x.1 x.2.1 x.2.2.1 x.2.2.2.1 x.2.2.2.2
def l61a_8 (t8_0 : Bool) (t8_1 : List Bs) (t9 t10 : Int) : Option R61a := iter s61a_8 (.inl (t8_0, t8_1, t9, t10))
theorem l61a_8_t (t8_0 : Bool) (t8_1 : List Bs) (t9 t10 : Int) : b61a mm (sq (E0 mm) 61 0 c61_21 (blockD 0 (itW (lp (E0 mm) 61 0 c61_9 L61a_8) (none, [vd (.sc (.func (.func 81) #[] #[])), vd (.lst true []), vd (.lst t8_0 (enL enS t8_1)), vd (dI t9), vd (dI t10)], [])))) = (l61a_8 t8_0 t8_1 t9 t10).map e61a :=
  it_sim (K := (K61a_8 mm)) rfl (enc := en61a_8) (fun x => match x with
  | (.inl x) => s61a_8x0_t x.1 x.2.1 x.2.2.1 x.2.2.2
  | (.inr x) => s61a_8x1_t x.1 x.2.1 x.2.2.1 x.2.2.2.1 x.2.2.2.2) (.inl (t8_0, t8_1, t9, t10))
def m61a (values_0 : Bool) (values_1 : List Bs) : Option R61a :=
  l61a_8 values_0 values_1 (values_1.length : Int) (0 : Int)
theorem f61a_t (values_0 : Bool) (values_1 : List Bs) :
    callW (E0 mm) 61 [cd (.lst values_0 (enL enS values_1)), cd (.sc (.func (.func 81) #[] #[]))] [] = (m61a values_0 values_1).map e61a := by
  rw [cR c61_0 [.tmp 4] Tryz.func61]
  unfold m61a; exact go k61a @l61a_8_t
abbrev R62a := (Int × List Int)
def L62a_14 : List (Nat × Co) := [(0, .keep), (3, .keep), (4, .keep)]
def e62a (x : R62a) : AV × Heap := (vd (dI x.1), [.cells (enI x.2)])
def j62a_25 (m3 : Int) (h0 : List Int) : Option R62a :=
  some (m3, h0)
def K62a_14 (mm : Int) (r : Option (Ex × St)) : Option (AV × Heap) := bodyD (E0 mm) [.tmp 2] 1 false (sq (E0 mm) 62 1 c62_25 (blockD 0 (r)))
def en62a_14 (x : (Nat × Int × Int × List Int)) : X := (none, [.v (.c (.slc 0 0 1 x.1 none)), vd (dI x.2.1), vd (dI x.2.2.1)], [.cells (enI x.2.2.2)])
def k62a (mm : Int) := Q (rx c62_26) (Q (rx c62_17) (Q (rx c62_23) (Q @enI_length (Q @enI_load (Q (rx c62_24) (Q @K62a_14.eq_1 (Q (rx c62_1) (Q (rx c62_4) (Q @c62_6_r (Q (runOps_dead (E := (E0 mm)) (call := callW (E0 mm)) (all := opsOf c62_6) (os := opsOf c62_6) (by kernel_rfl)) (Q (rx c62_9) (Q (fun l => enI_load0 l 0) (Q (rx c62_12) (Q (fun mm => lx (E0 mm) 62 c62_14 c62_15 L62a_14) (Q (nE c62_0 (.seq c62_1 (.seq (.seq c62_4 (.cond _ c62_6 .skip)) (.seq c62_9 (.seq (.seq c62_12 (.block 0 c62_14)) c62_25))))) (Q (nE c62_15 (.seq (.seq c62_17 (.cond _ .skip (.exit 0))) (.seq (.block 1 c62_23) c62_24))) (Q @en62a_14.eq_1 (Q @L62a_14.eq_1 hA))))))))))))))))))
theorem j62a_25_t (m3 : Int) (h0 : List Int)  (sl : Sl) (_ : sl 3 = vd (dI m3)) :
    bodyD (E0 mm) [.tmp 2] 1 false (dn (E0 mm) 62 1 c62_25 sl [.cells (enI h0)]) = (j62a_25 m3 h0).map e62a := by
  unfold j62a_25; exact go (Q (nE c62_25 (.seq c62_26 .ret)) (k62a mm)) trivial
def s62a_14 (x0_1 : Nat) (m3 i4 : Int) (h0 : List Int) : Option ((Nat × Int × Int × List Int) ⊕ R62a) :=
  if (decide (i4 < (x0_1 : Int))) = true then
    if 0 ≤ i4 ∧ i4 < (x0_1 : Int) then
      if i4.toNat < h0.length then
        some (.inl (x0_1, (min2 m3 (h0.getD i4.toNat default)), (w64 (i4 + 1)), h0))
      else none
    else none
  else
    (j62a_25 m3 h0).map .inr
theorem s62a_14_t (x0_1 : Nat) (m3 i4 : Int) (h0 : List Int) :
    stepE (K62a_14 mm) (lp (E0 mm) 62 1 c62_15 L62a_14 (en62a_14 (x0_1, m3, i4, h0))) = (s62a_14 x0_1 m3 i4 h0).map (sm en62a_14 e62a) := by
  unfold s62a_14; exact go (k62a mm) @j62a_25_t
def l62a_14 (x0_1 : Nat) (m3 i4 : Int) (h0 : List Int) : Option R62a := iter (fun x : (Nat × Int × Int × List Int) => s62a_14 x.1 x.2.1 x.2.2.1 x.2.2.2) (x0_1, m3, i4, h0)
theorem l62a_14_t (x0_1 : Nat) (m3 i4 : Int) (h0 : List Int) : (K62a_14 mm) (itW (lp (E0 mm) 62 1 c62_15 L62a_14) (en62a_14 (x0_1, m3, i4, h0))) = (l62a_14 x0_1 m3 i4 h0).map e62a :=
  it_sim (K := (K62a_14 mm)) rfl (enc := en62a_14) (fun x => s62a_14_t x.1 x.2.1 x.2.2.1 x.2.2.2) (x0_1, m3, i4, h0)
def m62a (x0_1 : Nat) (h0 : List Int) : Option R62a :=
  if (decide ((x0_1 : Int) < 1)) = true then
    none
  else
    if (0 : Int) < (x0_1 : Int) then
      if 0 < h0.length then
        l62a_14 x0_1 (h0.getD 0 default) (1 : Int) h0
      else none
    else none
theorem f62a_t (x0_1 : Nat) (h0 : List Int) :
    callW (E0 mm) 62 [.c (.slc 0 0 1 x0_1 none)] [.cells (enI h0)] = (m62a x0_1 h0).map e62a := by
  rw [cR c62_0 [.tmp 2] Tryz.func62]
  unfold m62a; exact go (k62a mm) @l62a_14_t
noncomputable def c82_0 : Code := bodyOf Tryz.f82
def c82_1 := cA c82_0
def c82_4 := cA (cA (cB c82_0))
def c82_6 := cA (cB (cA (cB c82_0)))
def c82_7 := cA c82_6
def c82_8 := cA c82_7
def c82_13 := cB (cB c82_7)
def c82_16 := cA (cA (cA c82_13))
def c82_18 := cA (cB (cA (cA c82_13)))
def c82_20 := cA (cB (cB (cA (cA c82_13))))
def c82_22 := cB c82_13
def c82_23 := cB (cB c82_0)
def c82_24 := cA c82_23
def L82_6 : List (Nat × Co) := [(0, .keep), (7, .keep), (8, .keep), (9, .keep)]
abbrev b82 (mm : Int) := bodyD (E0 mm) [.tmp 3] 3 false
abbrev R82 := (Int × List Int)
def e82 (gm2 : List (Bs × List Bs)) (x : R82) : AV × Heap := (vd (dI x.1), [.cells (enI x.2), .cells [.mp 2], .amap (enM gm2)])
def j82_22 (gm2 : List (Bs × List Bs)) (numbers0_1 : Nat) (t7_0 : Bool) (t7_1 : List Bs) (t8 t9 : Int) (h0 : List Int) : Option (((Bool × List Bs × Int × Int × List Int) ⊕ (Nat × Bool × List Bs × Int × Int × List Int)) ⊕ R82) :=
  some (.inl (.inr (numbers0_1, t7_0, t7_1, t8, (w64 (t9 + 1)), h0)))
def K82_6 (mm : Int) (r : Option (Ex × St)) : Option (AV × Heap) := b82 mm (sq (E0 mm) 82 3 c82_23 (blockD 0 (r)))
def en82_6 (gm2 : List (Bs × List Bs)) : ((Bool × List Bs × Int × Int × List Int) ⊕ (Nat × Bool × List Bs × Int × Int × List Int)) → X := fun x => match x with
  | (.inl x) => (none, [.v (.c (.slc 0 0 1 x.2.2.2.2.length none)), vd (.lst x.1 (enL enS x.2.1)), vd (dI x.2.2.1), vd (dI x.2.2.2.1)], [.cells (enI x.2.2.2.2), .cells [.mp 2], .amap (enM gm2)])
  | (.inr x) => (none, [.v (.c (.slc 0 0 1 x.1 none)), vd (.lst x.2.1 (enL enS x.2.2.1)), vd (dI x.2.2.2.1), vd (dI x.2.2.2.2.1)], [.cells (enI x.2.2.2.2.2), .cells [.mp 2], .amap (enM gm2)])
def k82 := Q (rx c82_16) (Q (rx c82_18) (Q (rx c82_20) (Q @enI_length (Q @enI_wr (Q (rx c82_24) (Q @f62_t (Q @e62.eq_1 (Q (rx c82_8) (Q @K82_6.eq_1 (Q @f62a_t (Q @e62a.eq_1 (Q (rx c82_1) (Q (rx c82_4) (Q (fun mm => lx (E0 mm) 82 c82_6 c82_7 L82_6) (Q (nE c82_0 (.seq c82_1 (.seq (.seq c82_4 (.block 0 c82_6)) c82_23))) (Q (nE c82_7 (.seq c82_8 (.seq (.cond _ .skip (.exit 0)) c82_13))) (Q @L82_6.eq_1 hA)))))))))))))))))
theorem j82_22_t (gm2 : List (Bs × List Bs)) (numbers0_1 : Nat) (t7_0 : Bool) (t7_1 : List Bs) (t8 t9 : Int) (h0 : List Int)  (sl : Sl) (_ : sl 0 = .v (.c (.slc 0 0 1 numbers0_1 none))) (_ : sl 7 = vd (.lst t7_0 (enL enS t7_1))) (_ : sl 8 = vd (dI t8)) (_ : sl 9 = vd (dI t9)) :
    stepE (K82_6 mm) (loopK 3 L82_6 (dn (E0 mm) 82 3 c82_22 sl [.cells (enI h0), .cells [.mp 2], .amap (enM gm2)])) = (j82_22 gm2 numbers0_1 t7_0 t7_1 t8 t9 h0).map (sm (en82_6 gm2) (e82 gm2)) := by
  unfold j82_22; exact go (Q (rx c82_22) k82) trivial
def j82_22v1 (gm2 : List (Bs × List Bs)) (t7_0 : Bool) (t7_1 : List Bs) (t8 t9 : Int) (h0 : List Int) : Option (((Bool × List Bs × Int × Int × List Int) ⊕ (Nat × Bool × List Bs × Int × Int × List Int)) ⊕ R82) :=
  some (.inl (.inl (t7_0, t7_1, t8, (w64 (t9 + 1)), h0)))
theorem j82_22v1_t (gm2 : List (Bs × List Bs)) (t7_0 : Bool) (t7_1 : List Bs) (t8 t9 : Int) (h0 : List Int)  (sl : Sl) (_ : sl 0 = .v (.c (.slc 0 0 1 h0.length none))) (_ : sl 7 = vd (.lst t7_0 (enL enS t7_1))) (_ : sl 8 = vd (dI t8)) (_ : sl 9 = vd (dI t9)) :
    stepE (K82_6 mm) (loopK 3 L82_6 (dn (E0 mm) 82 3 c82_22 sl [.cells (enI h0), .cells [.mp 2], .amap (enM gm2)])) = (j82_22v1 gm2 t7_0 t7_1 t8 t9 h0).map (sm (en82_6 gm2) (e82 gm2)) := by
  unfold j82_22v1; exact go (Q (rx c82_22) k82) trivial
def j82_13 (gm2 : List (Bs × List Bs)) (t7_0 : Bool) (t7_1 : List Bs) (t8 t9 : Int) (h0 : List Int) : Option (((Bool × List Bs × Int × Int × List Int) ⊕ (Nat × Bool × List Bs × Int × Int × List Int)) ⊕ R82) :=
  if 0 ≤ t9 ∧ t9 < (t7_1.length : Int) then
    if ((t7_1.getD t9.toNat default) == ([] : Bs)) = true then
      if 0 ≤ t9 ∧ t9 < (h0.length : Int) then
        j82_22 gm2 h0.length t7_0 t7_1 t8 t9 (h0.set t9.toNat (2147483647 : Int))
      else none
    else
      j82_22v1 gm2 t7_0 t7_1 t8 t9 h0
  else none
theorem j82_13_t (gm2 : List (Bs × List Bs)) (t7_0 : Bool) (t7_1 : List Bs) (t8 t9 : Int) (h0 : List Int)  (sl : Sl) (_ : sl 0 = .v (.c (.slc 0 0 1 h0.length none))) (_ : sl 7 = vd (.lst t7_0 (enL enS t7_1))) (_ : sl 8 = vd (dI t8)) (_ : sl 9 = vd (dI t9)) :
    stepE (K82_6 mm) (loopK 3 L82_6 (dn (E0 mm) 82 3 c82_13 sl [.cells (enI h0), .cells [.mp 2], .amap (enM gm2)])) = (j82_13 gm2 t7_0 t7_1 t8 t9 h0).map (sm (en82_6 gm2) (e82 gm2)) := by
  unfold j82_13; exact go (Q (nE c82_13 (.seq (.block 1 (.seq c82_16 (.seq c82_18 (.cond _ c82_20 .skip)))) c82_22)) k82) (Q @j82_22_t @j82_22v1_t)
def j82_23 (gm2 : List (Bs × List Bs)) (h0 : List Int) : Option R82 :=
  (m62 h0).bind fun yr8 =>
    some (yr8.1, yr8.2)
theorem j82_23_t (gm2 : List (Bs × List Bs)) (h0 : List Int)  (sl : Sl) (_ : sl 0 = .v (.c (.slc 0 0 1 h0.length none))) :
    b82 mm (dn (E0 mm) 82 3 c82_23 sl [.cells (enI h0), .cells [.mp 2], .amap (enM gm2)]) = (j82_23 gm2 h0).map (e82 gm2) := by
  unfold j82_23; exact go (Q (nE c82_23 (.seq c82_24 .ret)) k82) trivial
def s82_6x0 (gm2 : List (Bs × List Bs)) (t7_0 : Bool) (t7_1 : List Bs) (t8 t9 : Int) (h0 : List Int) : Option (((Bool × List Bs × Int × Int × List Int) ⊕ (Nat × Bool × List Bs × Int × Int × List Int)) ⊕ R82) :=
  if (decide (t9 < t8)) = true then
    j82_13 gm2 t7_0 t7_1 t8 t9 h0
  else
    (j82_23 gm2 h0).map .inr
theorem s82_6x0_t (gm2 : List (Bs × List Bs)) (t7_0 : Bool) (t7_1 : List Bs) (t8 t9 : Int) (h0 : List Int) :
    stepE (K82_6 mm) (lp (E0 mm) 82 3 c82_7 L82_6 (none, [.v (.c (.slc 0 0 1 h0.length none)), vd (.lst t7_0 (enL enS t7_1)), vd (dI t8), vd (dI t9)], [.cells (enI h0), .cells [.mp 2], .amap (enM gm2)])) = (s82_6x0 gm2 t7_0 t7_1 t8 t9 h0).map (sm (en82_6 gm2) (e82 gm2)) := by
  unfold s82_6x0; exact go k82 (Q @j82_13_t @j82_23_t)
def j82_13v1 (gm2 : List (Bs × List Bs)) (numbers0_1 : Nat) (t7_0 : Bool) (t7_1 : List Bs) (t8 t9 : Int) (h0 : List Int) : Option (((Bool × List Bs × Int × Int × List Int) ⊕ (Nat × Bool × List Bs × Int × Int × List Int)) ⊕ R82) :=
  if 0 ≤ t9 ∧ t9 < (t7_1.length : Int) then
    if ((t7_1.getD t9.toNat default) == ([] : Bs)) = true then
      if 0 ≤ t9 ∧ t9 < (numbers0_1 : Int) then
        if t9.toNat < h0.length then
          j82_22 gm2 numbers0_1 t7_0 t7_1 t8 t9 (h0.set t9.toNat (2147483647 : Int))
        else none
      else none
    else
      j82_22 gm2 numbers0_1 t7_0 t7_1 t8 t9 h0
  else none
theorem j82_13v1_t (gm2 : List (Bs × List Bs)) (numbers0_1 : Nat) (t7_0 : Bool) (t7_1 : List Bs) (t8 t9 : Int) (h0 : List Int)  (sl : Sl) (_ : sl 0 = .v (.c (.slc 0 0 1 numbers0_1 none))) (_ : sl 7 = vd (.lst t7_0 (enL enS t7_1))) (_ : sl 8 = vd (dI t8)) (_ : sl 9 = vd (dI t9)) :
    stepE (K82_6 mm) (loopK 3 L82_6 (dn (E0 mm) 82 3 c82_13 sl [.cells (enI h0), .cells [.mp 2], .amap (enM gm2)])) = (j82_13v1 gm2 numbers0_1 t7_0 t7_1 t8 t9 h0).map (sm (en82_6 gm2) (e82 gm2)) := by
  unfold j82_13v1; exact go (Q (nE c82_13 (.seq (.block 1 (.seq c82_16 (.seq c82_18 (.cond _ c82_20 .skip)))) c82_22)) k82) @j82_22_t
def j82_23v1 (gm2 : List (Bs × List Bs)) (numbers0_1 : Nat) (h0 : List Int) : Option R82 :=
  (m62a numbers0_1 h0).bind fun yr17 =>
    some (yr17.1, yr17.2)
theorem j82_23v1_t (gm2 : List (Bs × List Bs)) (numbers0_1 : Nat) (h0 : List Int)  (sl : Sl) (_ : sl 0 = .v (.c (.slc 0 0 1 numbers0_1 none))) :
    b82 mm (dn (E0 mm) 82 3 c82_23 sl [.cells (enI h0), .cells [.mp 2], .amap (enM gm2)]) = (j82_23v1 gm2 numbers0_1 h0).map (e82 gm2) := by
  unfold j82_23v1; exact go (Q (nE c82_23 (.seq c82_24 .ret)) k82) trivial
def s82_6x1 (gm2 : List (Bs × List Bs)) (numbers0_1 : Nat) (t7_0 : Bool) (t7_1 : List Bs) (t8 t9 : Int) (h0 : List Int) : Option (((Bool × List Bs × Int × Int × List Int) ⊕ (Nat × Bool × List Bs × Int × Int × List Int)) ⊕ R82) :=
  if (decide (t9 < t8)) = true then
    j82_13v1 gm2 numbers0_1 t7_0 t7_1 t8 t9 h0
  else
    (j82_23v1 gm2 numbers0_1 h0).map .inr
theorem s82_6x1_t (gm2 : List (Bs × List Bs)) (numbers0_1 : Nat) (t7_0 : Bool) (t7_1 : List Bs) (t8 t9 : Int) (h0 : List Int) :
    stepE (K82_6 mm) (lp (E0 mm) 82 3 c82_7 L82_6 (none, [.v (.c (.slc 0 0 1 numbers0_1 none)), vd (.lst t7_0 (enL enS t7_1)), vd (dI t8), vd (dI t9)], [.cells (enI h0), .cells [.mp 2], .amap (enM gm2)])) = (s82_6x1 gm2 numbers0_1 t7_0 t7_1 t8 t9 h0).map (sm (en82_6 gm2) (e82 gm2)) := by
  unfold s82_6x1; exact go k82 (Q @j82_13v1_t @j82_23v1_t)
def s82_6 (gm2 : List (Bs × List Bs)) : ((Bool × List Bs × Int × Int × List Int) ⊕ (Nat × Bool × List Bs × Int × Int × List Int)) → Option (((Bool × List Bs × Int × Int × List Int) ⊕ (Nat × Bool × List Bs × Int × Int × List Int)) ⊕ R82) := fun x => match x with
  | (.inl x) => s82_6x0 gm2 x.1 x.2.1 x.2.2.1 x.2.2.2.1 x.2.2.2.2
  | (.inr x) => s82_6x1 gm2 x.1 x.2.1 x.2.2.1 x.2.2.2.1 x.2.2.2.2.1 x.2.2.2.2.2
def l82_6 (gm2 : List (Bs × List Bs)) (t7_0 : Bool) (t7_1 : List Bs) (t8 t9 : Int) (h0 : List Int) : Option R82 := iter (s82_6 gm2) (.inl (t7_0, t7_1, t8, t9, h0))
theorem l82_6_t (gm2 : List (Bs × List Bs)) (t7_0 : Bool) (t7_1 : List Bs) (t8 t9 : Int) (h0 : List Int) : b82 mm (sq (E0 mm) 82 3 c82_23 (blockD 0 (itW (lp (E0 mm) 82 3 c82_7 L82_6) (none, [.v (.c (.slc 0 0 1 h0.length none)), vd (.lst t7_0 (enL enS t7_1)), vd (dI t8), vd (dI t9)], [.cells (enI h0), .cells [.mp 2], .amap (enM gm2)])))) = (l82_6 gm2 t7_0 t7_1 t8 t9 h0).map (e82 gm2) :=
  it_sim (K := (K82_6 mm)) rfl (enc := (en82_6 gm2)) (fun x => match x with
  | (.inl x) => s82_6x0_t gm2 x.1 x.2.1 x.2.2.1 x.2.2.2.1 x.2.2.2.2
  | (.inr x) => s82_6x1_t gm2 x.1 x.2.1 x.2.2.1 x.2.2.2.1 x.2.2.2.2.1 x.2.2.2.2.2) (.inl (t7_0, t7_1, t8, t9, h0))
def m82 (h0 : List Int) (gm2 : List (Bs × List Bs)) : Option R82 :=
  l82_6 gm2 (!(hasM ([109, 97, 120, 45, 115, 116, 97, 108, 101] : Bs) gm2)) (valM ([109, 97, 120, 45, 115, 116, 97, 108, 101] : Bs) gm2) ((valM ([109, 97, 120, 45, 115, 116, 97, 108, 101] : Bs) gm2).length : Int) (0 : Int) h0
theorem f82_t (h0 : List Int) (gm2 : List (Bs × List Bs)) :
    callW (E0 mm) 82 [.c (.slc 0 0 1 h0.length none), .c (.ptr 1 0)] [.cells (enI h0), .cells [.mp 2], .amap (enM gm2)] = (m82 h0 gm2).map (e82 gm2) := by
  rw [cR c82_0 [.tmp 3] Tryz.func82]
  unfold m82; exact go k82 @l82_6_t
abbrev b61b (mm : Int) := bodyD (E0 mm) [.tmp 4] 2 false
abbrev R61b := (Int)
def L61b_8 : List (Nat × Co) := [(1, .keep), (5, .keep), (8, .keep), (9, .keep), (10, .keep)]
def e61b (gm1 : List (Bs × List Bs)) (x : R61b) : AV × Heap := (vd (dI x), [.cells [.mp 1], .amap (enM gm1)])
def j61b_20 (gm1 : List (Bs × List Bs)) (t8_0 : Bool) (t8_1 : List Bs) (t9 t10 : Int) (h3 : List Int) : Option (((Bool × List Bs × Int × Int) ⊕ (Bool × List Bs × Int × Int × List Int)) ⊕ R61b) :=
  some (.inl (.inr (t8_0, t8_1, t9, (w64 (t10 + 1)), h3)))
def K61b_8 (mm : Int) (r : Option (Ex × St)) : Option (AV × Heap) := b61b mm (sq (E0 mm) 61 2 c61_21 (blockD 0 (r)))
def en61b_8 (gm1 : List (Bs × List Bs)) : ((Bool × List Bs × Int × Int) ⊕ (Bool × List Bs × Int × Int × List Int)) → X := fun x => match x with
  | (.inl x) => (none, [.v (.c (.fn 82 [(0, 0)])), vd (.lst true []), vd (.lst x.1 (enL enS x.2.1)), vd (dI x.2.2.1), vd (dI x.2.2.2)], [.cells [.mp 1], .amap (enM gm1)])
  | (.inr x) => (none, [.v (.c (.fn 82 [(0, 0)])), .v (.c (.slc 2 0 1 x.2.2.2.2.length none)), vd (.lst x.1 (enL enS x.2.1)), vd (dI x.2.2.1), vd (dI x.2.2.2.1)], [.cells [.mp 1], .amap (enM gm1), .cells (enI x.2.2.2.2)])
def k61b := Q (rx c61_18) (Q (rx c61_19) (Q @f109_t (Q @e109.eq_1 (Q @enI_length (Q @enI1_src (Q (rx c61_23) (Q (rx c61_26) (Q (rx c61_10) (Q @K61b_8.eq_1 (Q (rx c61_30) (Q @ent82 (Q @prm82 (Q @f82_t (Q @e82.eq_1 (Q (rx c61_1) (Q (rx c61_3) (Q (rx c61_6) (Q (fun mm => lx (E0 mm) 61 c61_8 c61_9 L61b_8) (Q (nE c61_0 (.seq c61_1 (.seq c61_3 (.seq (.seq c61_6 (.block 0 c61_8)) c61_21)))) (Q (nE c61_9 (.seq c61_10 (.seq (.cond _ .skip (.exit 0)) c61_15))) (Q @L61b_8.eq_1 hA)))))))))))))))))))))
theorem j61b_20_t (gm1 : List (Bs × List Bs)) (t8_0 : Bool) (t8_1 : List Bs) (t9 t10 : Int) (h3 : List Int) (g2 : Ob) (sl : Sl) (_ : sl 1 = .v (.c (.fn 82 [(0, 0)]))) (_ : sl 5 = .v (.c (.slc 3 0 1 h3.length none))) (_ : sl 8 = vd (.lst t8_0 (enL enS t8_1))) (_ : sl 9 = vd (dI t9)) (_ : sl 10 = vd (dI t10)) :
    stepE (K61b_8 mm) (loopK 2 L61b_8 (dn (E0 mm) 61 2 c61_20 sl [.cells [.mp 1], .amap (enM gm1), g2, .cells (enI h3)])) = (j61b_20 gm1 t8_0 t8_1 t9 t10 h3).map (sm (en61b_8 gm1) (e61b gm1)) := by
  unfold j61b_20; exact go (Q (rx c61_20) k61b) trivial
def j61b_15 (gm1 : List (Bs × List Bs)) (t8_0 : Bool) (t8_1 : List Bs) (t9 t10 : Int) : Option (((Bool × List Bs × Int × Int) ⊕ (Bool × List Bs × Int × Int × List Int)) ⊕ R61b) :=
  if 0 ≤ t10 ∧ t10 < (t8_1.length : Int) then
    (m109 (t8_1.getD t10.toNat default)).bind fun yr5 =>
      j61b_20 gm1 t8_0 t8_1 t9 t10 ([yr5] : List Int)
  else none
theorem j61b_15_t (gm1 : List (Bs × List Bs)) (t8_0 : Bool) (t8_1 : List Bs) (t9 t10 : Int)  (sl : Sl) (_ : sl 1 = .v (.c (.fn 82 [(0, 0)]))) (_ : sl 5 = vd (.lst true [])) (_ : sl 8 = vd (.lst t8_0 (enL enS t8_1))) (_ : sl 9 = vd (dI t9)) (_ : sl 10 = vd (dI t10)) :
    stepE (K61b_8 mm) (loopK 2 L61b_8 (dn (E0 mm) 61 2 c61_15 sl [.cells [.mp 1], .amap (enM gm1)])) = (j61b_15 gm1 t8_0 t8_1 t9 t10).map (sm (en61b_8 gm1) (e61b gm1)) := by
  unfold j61b_15; exact go (Q (nE c61_15 (.seq (.block 1 (.seq c61_18 c61_19)) c61_20)) k61b) @j61b_20_t
def j61b_21 (gm1 : List (Bs × List Bs))  : Option R61b :=
  some (-1 : Int)
theorem j61b_21_t (gm1 : List (Bs × List Bs))   (sl : Sl) (_ : sl 1 = .v (.c (.fn 82 [(0, 0)]))) (_ : sl 5 = vd (.lst true [])) :
    b61b mm (dn (E0 mm) 61 2 c61_21 sl [.cells [.mp 1], .amap (enM gm1)]) = (j61b_21 gm1).map (e61b gm1) := by
  unfold j61b_21; exact go (Q (nE c61_21 (.seq (.seq c61_23 (.cond _ (.seq c61_26 .ret) .skip)) (.seq c61_30 .ret))) k61b) trivial
def s61b_8x0 (gm1 : List (Bs × List Bs)) (t8_0 : Bool) (t8_1 : List Bs) (t9 t10 : Int) : Option (((Bool × List Bs × Int × Int) ⊕ (Bool × List Bs × Int × Int × List Int)) ⊕ R61b) :=
  if (decide (t10 < t9)) = true then
    j61b_15 gm1 t8_0 t8_1 t9 t10
  else
    (j61b_21 gm1).map .inr
theorem s61b_8x0_t (gm1 : List (Bs × List Bs)) (t8_0 : Bool) (t8_1 : List Bs) (t9 t10 : Int) :
    stepE (K61b_8 mm) (lp (E0 mm) 61 2 c61_9 L61b_8 (none, [.v (.c (.fn 82 [(0, 0)])), vd (.lst true []), vd (.lst t8_0 (enL enS t8_1)), vd (dI t9), vd (dI t10)], [.cells [.mp 1], .amap (enM gm1)])) = (s61b_8x0 gm1 t8_0 t8_1 t9 t10).map (sm (en61b_8 gm1) (e61b gm1)) := by
  unfold s61b_8x0; exact go k61b (Q @j61b_15_t @j61b_21_t)
def j61b_20v1 (gm1 : List (Bs × List Bs)) (t8_0 : Bool) (t8_1 : List Bs) (t9 t10 : Int) (h4 : List Int) : Option (((Bool × List Bs × Int × Int) ⊕ (Bool × List Bs × Int × Int × List Int)) ⊕ R61b) :=
  some (.inl (.inr (t8_0, t8_1, t9, (w64 (t10 + 1)), h4)))
theorem j61b_20v1_t (gm1 : List (Bs × List Bs)) (t8_0 : Bool) (t8_1 : List Bs) (t9 t10 : Int) (h4 : List Int) (g2 g3 : Ob) (sl : Sl) (_ : sl 1 = .v (.c (.fn 82 [(0, 0)]))) (_ : sl 5 = .v (.c (.slc 4 0 1 h4.length none))) (_ : sl 8 = vd (.lst t8_0 (enL enS t8_1))) (_ : sl 9 = vd (dI t9)) (_ : sl 10 = vd (dI t10)) :
    stepE (K61b_8 mm) (loopK 2 L61b_8 (dn (E0 mm) 61 2 c61_20 sl [.cells [.mp 1], .amap (enM gm1), g2, g3, .cells (enI h4)])) = (j61b_20v1 gm1 t8_0 t8_1 t9 t10 h4).map (sm (en61b_8 gm1) (e61b gm1)) := by
  unfold j61b_20v1; exact go (Q (rx c61_20) k61b) trivial
def j61b_15v1 (gm1 : List (Bs × List Bs)) (t8_0 : Bool) (t8_1 : List Bs) (t9 t10 : Int) (h2 : List Int) : Option (((Bool × List Bs × Int × Int) ⊕ (Bool × List Bs × Int × Int × List Int)) ⊕ R61b) :=
  if 0 ≤ t10 ∧ t10 < (t8_1.length : Int) then
    (m109 (t8_1.getD t10.toNat default)).bind fun yr10 =>
      if (h2.length + 1) * 8 ≤ 140737488355328 then
        j61b_20v1 gm1 t8_0 t8_1 t9 t10 (h2 ++ ([yr10] : List Int))
      else none
  else none
theorem j61b_15v1_t (gm1 : List (Bs × List Bs)) (t8_0 : Bool) (t8_1 : List Bs) (t9 t10 : Int) (h2 : List Int)  (sl : Sl) (_ : sl 1 = .v (.c (.fn 82 [(0, 0)]))) (_ : sl 5 = .v (.c (.slc 2 0 1 h2.length none))) (_ : sl 8 = vd (.lst t8_0 (enL enS t8_1))) (_ : sl 9 = vd (dI t9)) (_ : sl 10 = vd (dI t10)) :
    stepE (K61b_8 mm) (loopK 2 L61b_8 (dn (E0 mm) 61 2 c61_15 sl [.cells [.mp 1], .amap (enM gm1), .cells (enI h2)])) = (j61b_15v1 gm1 t8_0 t8_1 t9 t10 h2).map (sm (en61b_8 gm1) (e61b gm1)) := by
  unfold j61b_15v1; exact go (Q (nE c61_15 (.seq (.block 1 (.seq c61_18 c61_19)) c61_20)) k61b) @j61b_20v1_t
def j61b_21v1 (gm1 : List (Bs × List Bs)) (h2 : List Int) : Option R61b :=
  if ((h2.length : Int) == 0) = true then
    some (-1 : Int)
  else
    (m82 h2 gm1).bind fun yr14 =>
      some yr14.1
theorem j61b_21v1_t (gm1 : List (Bs × List Bs)) (h2 : List Int)  (sl : Sl) (_ : sl 1 = .v (.c (.fn 82 [(0, 0)]))) (_ : sl 5 = .v (.c (.slc 2 0 1 h2.length none))) :
    b61b mm (dn (E0 mm) 61 2 c61_21 sl [.cells [.mp 1], .amap (enM gm1), .cells (enI h2)]) = (j61b_21v1 gm1 h2).map (e61b gm1) := by
  unfold j61b_21v1; exact go (Q (nE c61_21 (.seq (.seq c61_23 (.cond _ (.seq c61_26 .ret) .skip)) (.seq c61_30 .ret))) k61b) trivial
def s61b_8x1 (gm1 : List (Bs × List Bs)) (t8_0 : Bool) (t8_1 : List Bs) (t9 t10 : Int) (h2 : List Int) : Option (((Bool × List Bs × Int × Int) ⊕ (Bool × List Bs × Int × Int × List Int)) ⊕ R61b) :=
  if (decide (t10 < t9)) = true then
    j61b_15v1 gm1 t8_0 t8_1 t9 t10 h2
  else
    (j61b_21v1 gm1 h2).map .inr
theorem s61b_8x1_t (gm1 : List (Bs × List Bs)) (t8_0 : Bool) (t8_1 : List Bs) (t9 t10 : Int) (h2 : List Int) :
    stepE (K61b_8 mm) (lp (E0 mm) 61 2 c61_9 L61b_8 (none, [.v (.c (.fn 82 [(0, 0)])), .v (.c (.slc 2 0 1 h2.length none)), vd (.lst t8_0 (enL enS t8_1)), vd (dI t9), vd (dI t10)], [.cells [.mp 1], .amap (enM gm1), .cells (enI h2)])) = (s61b_8x1 gm1 t8_0 t8_1 t9 t10 h2).map (sm (en61b_8 gm1) (e61b gm1)) := by
  unfold s61b_8x1; exact go k61b (Q @j61b_15v1_t @j61b_21v1_t)
def s61b_8 (gm1 : List (Bs × List Bs)) : ((Bool × List Bs × Int × Int) ⊕ (Bool × List Bs × Int × Int × List Int)) → Option (((Bool × List Bs × Int × Int) ⊕ (Bool × List Bs × Int × Int × List Int)) ⊕ R61b) := fun x => match x with
  | (.inl x) => s61b_8x0 gm1 x.1 x.2.1 x.2.2.1 x.2.2.2
  | (.inr x) => s61b_8x1 gm1 x.1 x.2.1 x.2.2.1 x.2.2.2.1 x.2.2.2.2
def l61b_8 (gm1 : List (Bs × List Bs)) (t8_0 : Bool) (t8_1 : List Bs) (t9 t10 : Int) : Option R61b := iter (s61b_8 gm1) (.inl (t8_0, t8_1, t9, t10))
theorem l61b_8_t (gm1 : List (Bs × List Bs)) (t8_0 : Bool) (t8_1 : List Bs) (t9 t10 : Int) : b61b mm (sq (E0 mm) 61 2 c61_21 (blockD 0 (itW (lp (E0 mm) 61 2 c61_9 L61b_8) (none, [.v (.c (.fn 82 [(0, 0)])), vd (.lst true []), vd (.lst t8_0 (enL enS t8_1)), vd (dI t9), vd (dI t10)], [.cells [.mp 1], .amap (enM gm1)])))) = (l61b_8 gm1 t8_0 t8_1 t9 t10).map (e61b gm1) :=
  it_sim (K := (K61b_8 mm)) rfl (enc := (en61b_8 gm1)) (fun x => match x with
  | (.inl x) => s61b_8x0_t gm1 x.1 x.2.1 x.2.2.1 x.2.2.2
  | (.inr x) => s61b_8x1_t gm1 x.1 x.2.1 x.2.2.1 x.2.2.2.1 x.2.2.2.2) (.inl (t8_0, t8_1, t9, t10))
def m61b (values_0 : Bool) (values_1 : List Bs) (gm1 : List (Bs × List Bs)) : Option R61b :=
  l61b_8 gm1 values_0 values_1 (values_1.length : Int) (0 : Int)
theorem f61b_t (values_0 : Bool) (values_1 : List Bs) (gm1 : List (Bs × List Bs)) :
    callW (E0 mm) 61 [cd (.lst values_0 (enL enS values_1)), .c (.fn 82 [(0, 0)])] [.cells [.mp 1], .amap (enM gm1)] = (m61b values_0 values_1 gm1).map (e61b gm1) := by
  rw [cR c61_0 [.tmp 4] Tryz.func61]
  unfold m61b; exact go k61b @l61b_8_t
noncomputable def c83_0 : Code := bodyOf Tryz.f83
def c83_1 := cA c83_0
def c83_3 := cA (cB c83_0)
abbrev R83 := (Bool)
def e83 (x : R83) : AV × Heap := (vd (dB x), [])
def m83 (x0 : Bs) : Option R83 :=
  (m73 x0 ([110, 111, 45, 99, 97, 99, 104, 101] : Bs)).bind fun yr2 =>
    some yr2
def k83 := Q (rx c83_1) (Q (rx c83_3) (Q (fun (mm : Int) (x0 : Bs) => (show callW (E0 mm) 73 [cd (dS x0), cd (dS ([110, 111, 45, 99, 97, 99, 104, 101] : Bs))] [] = _ from f73_t x0 ([110, 111, 45, 99, 97, 99, 104, 101] : Bs))) (Q @e73.eq_1 (Q (nE c83_0 (.seq c83_1 (.seq c83_3 .ret))) hA))))
theorem f83_t (x0 : Bs) :
    callW (E0 mm) 83 [cd (dS x0)] [] = (m83 x0).map e83 := by
  rw [cR c83_0 [.tmp 2] Tryz.func83]
  unfold m83; exact go k83 trivial
abbrev R123b := (Int)
def L123b_6 : List (Nat × Co) := [(0, .keep), (1, .keep), (7, .keep), (8, .keep)]
def e123b (x : R123b) : AV × Heap := (vd (dI x), [])
def j123b_25  : Option R123b :=
  some (-1 : Int)
def K123b_6 (mm : Int) (r : Option (Ex × St)) : Option (AV × Heap) := bodyD (E0 mm) [.tmp 4] 0 false (sq (E0 mm) 123 0 c123_25 (blockD 0 (r)))
def en123b_6 (x : (Bool × List Bs × Int × Int)) : X := (none, [vd (.lst x.1 (enL enS x.2.1)), vd (.sc (.func (.func 83) #[] #[])), vd (dI x.2.2.1), vd (dI x.2.2.2)], [])
def k123b := Q (rx c123_26) (Q (rx c123_8) (Q (rx c123_16) (Q (rx c123_18) (Q @ent83 (Q @prm83 (Q @f83_t (Q @e83.eq_1 (Q (rx c123_21) (Q @K123b_6.eq_1 (Q (rx c123_24) (Q (rx c123_1) (Q (rx c123_4) (Q (fun mm => lx (E0 mm) 123 c123_6 c123_7 L123b_6) (Q (nE c123_0 (.seq c123_1 (.seq (.seq c123_4 (.block 0 c123_6)) c123_25))) (Q (nE c123_7 (.seq c123_8 (.seq (.cond _ .skip (.exit 0)) (.seq (.block 1 (.seq c123_16 (.seq c123_18 (.cond _ (.seq c123_21 .ret) .skip)))) c123_24)))) (Q @en123b_6.eq_1 (Q @L123b_6.eq_1 hA)))))))))))))))))
theorem j123b_25_t (sl : Sl)  :
    bodyD (E0 mm) [.tmp 4] 0 false (dn (E0 mm) 123 0 c123_25 sl []) = (j123b_25).map e123b := by
  unfold j123b_25; exact go (Q (nE c123_25 (.seq c123_26 .ret)) k123b) trivial
def s123b_6 (s0_0 : Bool) (s0_1 : List Bs) (t7 t8 : Int) : Option ((Bool × List Bs × Int × Int) ⊕ R123b) :=
  if (decide (t8 < t7)) = true then
    if 0 ≤ t8 ∧ t8 < (s0_1.length : Int) then
      (m83 (s0_1.getD t8.toNat default)).bind fun yr5 =>
        if yr5 = true then
          some (.inr t8)
        else
          some (.inl (s0_0, s0_1, t7, (w64 (t8 + 1))))
    else none
  else
    (j123b_25).map .inr
theorem s123b_6_t (s0_0 : Bool) (s0_1 : List Bs) (t7 t8 : Int) :
    stepE (K123b_6 mm) (lp (E0 mm) 123 0 c123_7 L123b_6 (en123b_6 (s0_0, s0_1, t7, t8))) = (s123b_6 s0_0 s0_1 t7 t8).map (sm en123b_6 e123b) := by
  unfold s123b_6; exact go k123b @j123b_25_t
def l123b_6 (s0_0 : Bool) (s0_1 : List Bs) (t7 t8 : Int) : Option R123b := iter (fun x : (Bool × List Bs × Int × Int) => s123b_6 x.1 x.2.1 x.2.2.1 x.2.2.2) (s0_0, s0_1, t7, t8)
theorem l123b_6_t (s0_0 : Bool) (s0_1 : List Bs) (t7 t8 : Int) : (K123b_6 mm) (itW (lp (E0 mm) 123 0 c123_7 L123b_6) (en123b_6 (s0_0, s0_1, t7, t8))) = (l123b_6 s0_0 s0_1 t7 t8).map e123b :=
  it_sim (K := (K123b_6 mm)) rfl (enc := en123b_6) (fun x => s123b_6_t x.1 x.2.1 x.2.2.1 x.2.2.2) (s0_0, s0_1, t7, t8)
def m123b (s_0 : Bool) (s_1 : List Bs) : Option R123b :=
  l123b_6 s_0 s_1 (s_1.length : Int) (0 : Int)
theorem f123b_t (s_0 : Bool) (s_1 : List Bs) :
    callW (E0 mm) 123 [cd (.lst s_0 (enL enS s_1)), cd (.sc (.func (.func 83) #[] #[]))] [] = (m123b s_0 s_1).map e123b := by
  rw [cR c123_0 [.tmp 4] Tryz.func123]
  unfold m123b; exact go k123b @l123b_6_t
abbrev R79b := (Bool)
def e79b (x : R79b) : AV × Heap := (vd (dB x), [])
def m79b (s_0 : Bool) (s_1 : List Bs) : Option R79b :=
  (m123b s_0 s_1).bind fun yr2 =>
    some (decide (0 ≤ yr2))
def k79b := Q (rx c79_1) (Q (rx c79_3) (Q @f123b_t (Q @e123b.eq_1 (Q (nE c79_0 (.seq c79_1 (.seq c79_3 .ret))) hA))))
theorem f79b_t (s_0 : Bool) (s_1 : List Bs) :
    callW (E0 mm) 79 [cd (.lst s_0 (enL enS s_1)), cd (.sc (.func (.func 83) #[] #[]))] [] = (m79b s_0 s_1).map e79b := by
  rw [cR c79_0 [.tmp 4] Tryz.func79]
  unfold m79b; exact go k79b trivial
noncomputable def c41_0 : Code := bodyOf Tryz.f41
def c41_1 := cA c41_0
def c41_3 := cA (cB c41_0)
def c41_5 := cA (cB (cB c41_0))
def c41_7 := cA (cB (cB (cB c41_0)))
def c41_9 := cA (cB (cB (cB (cB c41_0))))
def c41_12 := cA (cA (cB (cB (cB (cB (cB c41_0))))))
def c41_14 := cA (cB (cA (cB (cB (cB (cB (cB c41_0)))))))
def c41_16 := cB (cB (cB (cB (cB (cB c41_0)))))
def c41_17 := cA c41_16
theorem c41_5_r (m : Nat) (st : St) : den (E0 mm) 41 m (callW (E0 mm)) itW c41_5 none st = regD ((runF (E0 mm) (callW (E0 mm)) (opsOf c41_5) (opsOf c41_5) [some true, none, some false, some true, none, some false, some true, none, none, none, some false, none] st []).bind (ckF [(0, 10), (3, 2), (3, 10), (6, 2), (6, 5), (6, 10)])) := den_dF (by kernel_rfl)
theorem c41_7_r (m : Nat) (st : St) : den (E0 mm) 41 m (callW (E0 mm)) itW c41_7 none st = regD ((runF (E0 mm) (callW (E0 mm)) (opsOf c41_7) (opsOf c41_7) [none, none, some false, some true, some true, none, none, none, none, none] st []).bind (ckF [(3, 2), (4, 2)])) := den_dF (by kernel_rfl)
abbrev R41 := (Bool × Bool × Bool × Bool × Bool × Bool × Int × Int × Int × Int)
def e41 (x : R41) : AV × Heap := (.v (.agg [.d (dB x.1), .d (dB x.2.1), .d (dB x.2.2.1), .d (dB x.2.2.2.1), .d (dB x.2.2.2.2.1), .d (dB x.2.2.2.2.2.1), .d (dI x.2.2.2.2.2.2.1), .d (dI x.2.2.2.2.2.2.2.1), .d (dI x.2.2.2.2.2.2.2.2.1), .d (dI x.2.2.2.2.2.2.2.2.2)]), [])
def j41_16 (h0_0 h0_1 : Bool) (h0_2 h0_3 : Bool) (h0_4 h0_5 : Bool) (h0_6 h0_7 : Int) (h0_8 h0_9 : Int) (h3_0 h3_1 : Bool) (h3_2 h3_3 : Bool) (h3_4 h3_5 : Bool) (h3_6 h3_7 : Int) (h3_8 h3_9 : Int) : Option R41 :=
  some (h3_0, h3_1, h3_2, h3_3, h3_4, h3_5, h3_6, h3_7, h3_8, h3_9)
def k41 := Q (rx c41_17) (Q (rx c41_1) (Q @ao37 (Q (rx c41_3) (Q @f59_t (Q @e59.eq_1 (Q @zc73 (Q @ao54 (Q @c41_5_r (Q (show opsOf c41_5 = _ :: _ from rfl) (Q @hd55 (Q @nv56 (Q @rw57 (Q (fun (mm : Int) (yr2 : R59) => (show callW (E0 mm) 60 [.c (.mp 0), cd (.lst false (enL enS ([([110, 111, 45, 115, 116, 111, 114, 101] : Bs)] : List Bs)))] [.amap (enM yr2)] = _ from f60_t false ([([110, 111, 45, 115, 116, 111, 114, 101] : Bs)] : List Bs) yr2)) (Q setF (Q @e60.eq_1 (Q (fun (mm : Int) (yr2 : R59) => (show callW (E0 mm) 60 [.c (.mp 0), cd (.lst false (enL enS ([([110, 111, 45, 99, 97, 99, 104, 101] : Bs)] : List Bs)))] [.amap (enM yr2)] = _ from f60_t false ([([110, 111, 45, 99, 97, 99, 104, 101] : Bs)] : List Bs) yr2)) (Q (fun (mm : Int) (yr2 : R59) => (show callW (E0 mm) 60 [.c (.mp 0), cd (.lst false (enL enS ([([111, 110, 108, 121, 45, 105, 102, 45, 99, 97, 99, 104, 101, 100] : Bs)] : List Bs)))] [.amap (enM yr2)] = _ from f60_t false ([([111, 110, 108, 121, 45, 105, 102, 45, 99, 97, 99, 104, 101, 100] : Bs)] : List Bs) yr2)) (Q @ao58 (Q @c41_7_r (Q (show opsOf c41_7 = _ :: _ from rfl) (Q @f61_t (Q @e61.eq_1 (Q @f61a_t (Q @e61a.eq_1 (Q (rx c41_9) (Q @f61b_t (Q @e61b.eq_1 (Q (rx c41_12) (Q (fun (mm : Int) (l_0 : Bool) (l_1 : List (Bs × Bs)) => (show callW (E0 mm) 29 [cd (.lst l_0 (enL enSS l_1)), cd (dS ([99, 97, 99, 104, 101, 45, 99, 111, 110, 116, 114, 111, 108] : Bs))] [] = _ from f29_t l_0 l_1 ([99, 97, 99, 104, 101, 45, 99, 111, 110, 116, 114, 111, 108] : Bs))) (Q @e29.eq_1 (Q (rx c41_14) (Q (fun (mm : Int) (l_0 : Bool) (l_1 : List (Bs × Bs)) => (show callW (E0 mm) 26 [cd (.lst l_0 (enL enSS l_1)), cd (dS ([112, 114, 97, 103, 109, 97] : Bs))] [] = _ from f26_t l_0 l_1 ([112, 114, 97, 103, 109, 97] : Bs))) (Q @e26.eq_1 (Q @f79b_t (Q @e79b.eq_1 (Q (nE c41_0 (.seq c41_1 (.seq c41_3 (.seq c41_5 (.seq c41_7 (.seq c41_9 (.seq (.seq c41_12 (.cond _ c41_14 .skip)) c41_16))))))) hA))))))))))))))))))))))))))))))))))))
theorem j41_16_t (h0_0 h0_1 : Bool) (h0_2 h0_3 : Bool) (h0_4 h0_5 : Bool) (h0_6 h0_7 : Int) (h0_8 h0_9 : Int) (h3_0 h3_1 : Bool) (h3_2 h3_3 : Bool) (h3_4 h3_5 : Bool) (h3_6 h3_7 : Int) (h3_8 h3_9 : Int) (g1 g2 : Ob) (g4 g5 : Ob) (sl : Sl) (_ : sl 2 = .v (.c (.ptr 0 0))) (_ : sl 4 = .v (.c (.ptr 3 0))) :
    bodyD (E0 mm) [.cell 2 37] 0 false (dn (E0 mm) 41 0 c41_16 sl [.cells [.d (dB h0_0), .d (dB h0_1), .d (dB h0_2), .d (dB h0_3), .d (dB h0_4), .d (dB h0_5), .d (dI h0_6), .d (dI h0_7), .d (dI h0_8), .d (dI h0_9)], g1, g2, .cells [.d (dB h3_0), .d (dB h3_1), .d (dB h3_2), .d (dB h3_3), .d (dB h3_4), .d (dB h3_5), .d (dI h3_6), .d (dI h3_7), .d (dI h3_8), .d (dI h3_9)], g4, g5]) = (j41_16 h0_0 h0_1 h0_2 h0_3 h0_4 h0_5 h0_6 h0_7 h0_8 h0_9 h3_0 h3_1 h3_2 h3_3 h3_4 h3_5 h3_6 h3_7 h3_8 h3_9).map e41 := by
  unfold j41_16; exact go (Q (nE c41_16 (.seq c41_17 .ret)) k41) trivial
def j41_16v1 (h0_0 h0_1 : Bool) (h0_2 h0_3 : Bool) (h0_4 h0_5 : Bool) (h0_6 h0_7 : Int) (h0_8 h0_9 : Int) (h3_0 h3_1 : Bool) (h3_2 h3_3 : Bool) (h3_4 h3_5 : Bool) (h3_6 h3_7 : Int) (h3_8 h3_9 : Int) : Option R41 :=
  some (h3_0, h3_1, h3_2, h3_3, h3_4, h3_5, h3_6, h3_7, h3_8, h3_9)
theorem j41_16v1_t (h0_0 h0_1 : Bool) (h0_2 h0_3 : Bool) (h0_4 h0_5 : Bool) (h0_6 h0_7 : Int) (h0_8 h0_9 : Int) (h3_0 h3_1 : Bool) (h3_2 h3_3 : Bool) (h3_4 h3_5 : Bool) (h3_6 h3_7 : Int) (h3_8 h3_9 : Int) (g1 g2 g4 : Ob) (sl : Sl) (_ : sl 2 = .v (.c (.ptr 0 0))) (_ : sl 4 = .v (.c (.ptr 3 0))) :
    bodyD (E0 mm) [.cell 2 37] 0 false (dn (E0 mm) 41 0 c41_16 sl [.cells [.d (dB h0_0), .d (dB h0_1), .d (dB h0_2), .d (dB h0_3), .d (dB h0_4), .d (dB h0_5), .d (dI h0_6), .d (dI h0_7), .d (dI h0_8), .d (dI h0_9)], g1, g2, .cells [.d (dB h3_0), .d (dB h3_1), .d (dB h3_2), .d (dB h3_3), .d (dB h3_4), .d (dB h3_5), .d (dI h3_6), .d (dI h3_7), .d (dI h3_8), .d (dI h3_9)], g4]) = (j41_16v1 h0_0 h0_1 h0_2 h0_3 h0_4 h0_5 h0_6 h0_7 h0_8 h0_9 h3_0 h3_1 h3_2 h3_3 h3_4 h3_5 h3_6 h3_7 h3_8 h3_9).map e41 := by
  unfold j41_16v1; exact go (Q (nE c41_16 (.seq c41_17 .ret)) k41) trivial
def m41 (l_0 : Bool) (l_1 : List (Bs × Bs)) : Option R41 :=
  (m59 l_0 l_1).bind fun yr2 =>
    (m60 false ([([110, 111, 45, 115, 116, 111, 114, 101] : Bs)] : List Bs) yr2).bind fun yr4 =>
      (m60 false ([([110, 111, 45, 99, 97, 99, 104, 101] : Bs)] : List Bs) yr2).bind fun yr6 =>
        (m60 false ([([111, 110, 108, 121, 45, 105, 102, 45, 99, 97, 99, 104, 101, 100] : Bs)] : List Bs) yr2).bind fun yr8 =>
          (m61 (!(hasM ([109, 97, 120, 45, 97, 103, 101] : Bs) yr2)) (valM ([109, 97, 120, 45, 97, 103, 101] : Bs) yr2)).bind fun yr10 =>
            (m61a (!(hasM ([109, 105, 110, 45, 102, 114, 101, 115, 104] : Bs) yr2)) (valM ([109, 105, 110, 45, 102, 114, 101, 115, 104] : Bs) yr2)).bind fun yr12 =>
              (m61b (!(hasM ([109, 97, 120, 45, 115, 116, 97, 108, 101] : Bs) yr2)) (valM ([109, 97, 120, 45, 115, 116, 97, 108, 101] : Bs) yr2) yr2).bind fun yr14 =>
                (m29 l_0 l_1 ([99, 97, 99, 104, 101, 45, 99, 111, 110, 116, 114, 111, 108] : Bs)).bind fun yr16 =>
                  if ((yr16.2.length : Int) == 0) = true then
                    (m26 l_0 l_1 ([112, 114, 97, 103, 109, 97] : Bs)).bind fun yr19 =>
                      (m79b yr19.1 yr19.2).bind fun yr21 =>
                        j41_16 false false false false false false (0 : Int) (0 : Int) (0 : Int) (0 : Int) yr4 yr21 false false false yr8 yr10 (-1 : Int) yr12 yr14
                  else
                    j41_16v1 false false false false false false (0 : Int) (0 : Int) (0 : Int) (0 : Int) yr4 yr6 false false false yr8 yr10 (-1 : Int) yr12 yr14
theorem f41_t (l_0 : Bool) (l_1 : List (Bs × Bs)) :
    callW (E0 mm) 41 [cd (.lst l_0 (enL enSS l_1))] [] = (m41 l_0 l_1).map e41 := by
  rw [cR c41_0 [.cell 2 37] Tryz.func41]
  unfold m41; exact go k41 (Q @j41_16_t @j41_16v1_t)
noncomputable def c23_0 : Code := bodyOf Tryz.f23
def c23_1 := cA c23_0
def c23_3 := cA (cB c23_0)
def c23_5 := cA (cB (cB c23_0))
theorem c23_5_r (m : Nat) (st : St) : den (E0 mm) 23 m (callW (E0 mm)) itW c23_5 none st = regD ((runF (E0 mm) (callW (E0 mm)) (opsOf c23_5) (opsOf c23_5) [none, none, some false, none, none, some false, none, none, some false, none, none, some false, none, none, some false, none, some true, some false, none, some true, none, none, none] st []).bind (ckF [(16, 2), (16, 5), (16, 8), (16, 11), (16, 14), (19, 2), (19, 5), (19, 8), (19, 11), (19, 14), (19, 17)])) := den_dF (by kernel_rfl)
abbrev R23 := (Bool × Bool × Bool × Bool × Bool × Bool × Int × Int × Int × Int)
def e23 (x : R23) : AV × Heap := (.v (.agg [.d (dB x.1), .d (dB x.2.1), .d (dB x.2.2.1), .d (dB x.2.2.2.1), .d (dB x.2.2.2.2.1), .d (dB x.2.2.2.2.2.1), .d (dI x.2.2.2.2.2.2.1), .d (dI x.2.2.2.2.2.2.2.1), .d (dI x.2.2.2.2.2.2.2.2.1), .d (dI x.2.2.2.2.2.2.2.2.2)]), [])
def m23 (l_0 : Bool) (l_1 : List (Bs × Bs)) : Option R23 :=
  (m59 l_0 l_1).bind fun yr2 =>
    (m60 false ([([110, 111, 45, 115, 116, 111, 114, 101] : Bs)] : List Bs) yr2).bind fun yr4 =>
      (m60 false ([([110, 111, 45, 99, 97, 99, 104, 101] : Bs)] : List Bs) yr2).bind fun yr6 =>
        (m60 false ([([112, 114, 105, 118, 97, 116, 101] : Bs)] : List Bs) yr2).bind fun yr8 =>
          (m60 false ([([112, 117, 98, 108, 105, 99] : Bs)] : List Bs) yr2).bind fun yr10 =>
            (m60 false ([([109, 117, 115, 116, 45, 114, 101, 118, 97, 108, 105, 100, 97, 116, 101] : Bs), ([112, 114, 111, 120, 121, 45, 114, 101, 118, 97, 108, 105, 100, 97, 116, 101] : Bs)] : List Bs) yr2).bind fun yr12 =>
              (m61 (!(hasM ([109, 97, 120, 45, 97, 103, 101] : Bs) yr2)) (valM ([109, 97, 120, 45, 97, 103, 101] : Bs) yr2)).bind fun yr14 =>
                (m61 (!(hasM ([115, 45, 109, 97, 120, 97, 103, 101] : Bs) yr2)) (valM ([115, 45, 109, 97, 120, 97, 103, 101] : Bs) yr2)).bind fun yr16 =>
                  some (yr4, yr6, yr8, yr10, yr12, false, yr14, yr16, (-1 : Int), (-1 : Int))
def k23 := Q (rx c23_1) (Q @ao78 (Q (rx c23_3) (Q @f59_t (Q @e59.eq_1 (Q @c23_5_r (Q (show opsOf c23_5 = _ :: _ from rfl) (Q @hd79 (Q @nv80 (Q @rw81 (Q (fun (mm : Int) (yr2 : R59) => (show callW (E0 mm) 60 [.c (.mp 0), cd (.lst false (enL enS ([([110, 111, 45, 115, 116, 111, 114, 101] : Bs)] : List Bs)))] [.amap (enM yr2)] = _ from f60_t false ([([110, 111, 45, 115, 116, 111, 114, 101] : Bs)] : List Bs) yr2)) (Q setF (Q @e60.eq_1 (Q (fun (mm : Int) (yr2 : R59) => (show callW (E0 mm) 60 [.c (.mp 0), cd (.lst false (enL enS ([([110, 111, 45, 99, 97, 99, 104, 101] : Bs)] : List Bs)))] [.amap (enM yr2)] = _ from f60_t false ([([110, 111, 45, 99, 97, 99, 104, 101] : Bs)] : List Bs) yr2)) (Q (fun (mm : Int) (yr2 : R59) => (show callW (E0 mm) 60 [.c (.mp 0), cd (.lst false (enL enS ([([112, 114, 105, 118, 97, 116, 101] : Bs)] : List Bs)))] [.amap (enM yr2)] = _ from f60_t false ([([112, 114, 105, 118, 97, 116, 101] : Bs)] : List Bs) yr2)) (Q (fun (mm : Int) (yr2 : R59) => (show callW (E0 mm) 60 [.c (.mp 0), cd (.lst false (enL enS ([([112, 117, 98, 108, 105, 99] : Bs)] : List Bs)))] [.amap (enM yr2)] = _ from f60_t false ([([112, 117, 98, 108, 105, 99] : Bs)] : List Bs) yr2)) (Q @ns82 (Q (fun (mm : Int) (yr2 : R59) => (show callW (E0 mm) 60 [.c (.mp 0), cd (.lst false (enL enS ([([109, 117, 115, 116, 45, 114, 101, 118, 97, 108, 105, 100, 97, 116, 101] : Bs), ([112, 114, 111, 120, 121, 45, 114, 101, 118, 97, 108, 105, 100, 97, 116, 101] : Bs)] : List Bs)))] [.amap (enM yr2)] = _ from f60_t false ([([109, 117, 115, 116, 45, 114, 101, 118, 97, 108, 105, 100, 97, 116, 101] : Bs), ([112, 114, 111, 120, 121, 45, 114, 101, 118, 97, 108, 105, 100, 97, 116, 101] : Bs)] : List Bs) yr2)) (Q @f61_t (Q @e61.eq_1 (Q (nE c23_0 (.seq c23_1 (.seq c23_3 (.seq c23_5 .ret)))) hA))))))))))))))))))))
theorem f23_t (l_0 : Bool) (l_1 : List (Bs × Bs)) :
    callW (E0 mm) 23 [cd (.lst l_0 (enL enSS l_1))] [] = (m23 l_0 l_1).map e23 := by
  rw [cR c23_0 [.cell 2 37] Tryz.func23]
  unfold m23; exact go k23 trivial
noncomputable def c110_0 : Code := bodyOf Tryz.f110
def c110_1 := cA c110_0
def c110_3 := cA (cB c110_0)
def c110_6 := cA (cA (cB (cB c110_0)))
def c110_9 := cA (cA (cB (cA (cB (cB c110_0)))))
def c110_13 := cA (cB (cB (cB c110_0)))
abbrev R110 := (Bs × Bool)
def e110 (x : R110) : AV × Heap := (.tup [cd (dS x.1), cd (dB x.2)], [])
def m110 (r0_0 : Int) (r0_1 : Bs) (r0_2 : Int) (r0_3 : Bool) (r0_4 : List (Bs × Bs)) (r0_5 : Bool) (r0_6 : List UInt8) (name : Bs) : Option R110 :=
  (m29 r0_3 r0_4 name).bind fun yr2 =>
    if ((yr2.2.length : Int) == 1) = true then
      if (0 : Int) < (yr2.2.length : Int) then
        some ((yr2.2.getD 0 default), true)
      else none
    else
      some (([] : Bs), false)
def k110 := Q (rx c110_1) (Q (rx c110_3) (Q @f29_t (Q @e29.eq_1 (Q (rx c110_6) (Q (rx c110_13) (Q (rx c110_9) (Q (nE c110_0 (.seq c110_1 (.seq c110_3 (.seq (.seq c110_6 (.cond _ (.seq c110_9 .ret) .skip)) (.seq c110_13 .ret))))) hA)))))))
theorem f110_t (r0_0 : Int) (r0_1 : Bs) (r0_2 : Int) (r0_3 : Bool) (r0_4 : List (Bs × Bs)) (r0_5 : Bool) (r0_6 : List UInt8) (name : Bs) :
    callW (E0 mm) 110 [.agg [.d (dI r0_0), .d (dS r0_1), .d (dI r0_2), .d (.lst r0_3 (enL enSS r0_4)), .d (.lst r0_5 (enL enB r0_6))], cd (dS name)] [] = (m110 r0_0 r0_1 r0_2 r0_3 r0_4 r0_5 r0_6 name).map e110 := by
  rw [cR c110_0 [.tmp 4, .tmp 5] Tryz.func110]
  unfold m110; exact go k110 trivial
noncomputable def c117_0 : Code := bodyOf Tryz.f117
def c117_1 := cA c117_0
def c117_3 := cA (cB c117_0)
abbrev R117 := (Int)
def e117 (x : R117) : AV × Heap := (vd (dI x), [])
def m117 (s substr : Bs) : Option R117 :=
  (mIx s substr).bind fun yr2 =>
    some yr2
def k117 := Q (rx c117_1) (Q (rx c117_3) (Q @pIndex_t (Q (nE c117_0 (.seq c117_1 (.seq c117_3 .ret))) hA)))
theorem f117_t (s substr : Bs) :
    callW (E0 mm) 117 [cd (dS s), cd (dS substr)] [] = (m117 s substr).map e117 := by
  rw [cR c117_0 [.tmp 4] Tryz.func117]
  unfold m117; exact go k117 trivial
noncomputable def c134_0 : Code := bodyOf Tryz.f134
def c134_1 := cA c134_0
def c134_3 := cA (cB c134_0)
def c134_6 := cA (cA (cB (cB c134_0)))
def c134_8 := cA (cB (cA (cB (cB c134_0))))
def c134_9 := cA c134_8
def c134_10 := cA c134_9
def c134_18 := cA (cA (cA (cB (cB c134_9))))
def c134_19 := cB (cA (cA (cB (cB c134_9))))
def c134_20 := cB (cB (cB c134_9))
def c134_21 := cB (cB (cB c134_0))
def c134_22 := cA c134_21
def L134_8 : List (Nat × Co) := [(0, .keep), (3, .keep), (6, .keep), (7, .keep)]
abbrev R134 := (Int)
def e134 (x : R134) : AV × Heap := (vd (dI x), [])
def j134_21 (n3 : Int) : Option R134 :=
  some n3
def K134_8 (mm : Int) (r : Option (Ex × St)) : Option (AV × Heap) := bodyD (E0 mm) [.tmp 2] 0 false (sq (E0 mm) 134 0 c134_21 (blockD 0 (r)))
def en134_8 (x : (Bs × Int × Int × Int)) : X := (none, [vd (dS x.1), vd (dI x.2.1), vd (dI x.2.2.1), vd (dI x.2.2.2)], [])
def k134 := Q (rx c134_22) (Q (rx c134_10) (Q (rx c134_18) (Q (rx c134_19) (Q (rx c134_20) (Q @K134_8.eq_1 (Q (rx c134_1) (Q (rx c134_3) (Q (rx c134_6) (Q (fun mm => lx (E0 mm) 134 c134_8 c134_9 L134_8) (Q (nE c134_0 (.seq c134_1 (.seq c134_3 (.seq (.seq c134_6 (.block 0 c134_8)) c134_21)))) (Q (nE c134_9 (.seq c134_10 (.seq (.cond _ .skip (.exit 0)) (.seq (.block 1 (.seq c134_18 c134_19)) c134_20)))) (Q @en134_8.eq_1 (Q @L134_8.eq_1 hA)))))))))))))
theorem j134_21_t (n3 : Int)  (sl : Sl) (_ : sl 3 = vd (dI n3)) :
    bodyD (E0 mm) [.tmp 2] 0 false (dn (E0 mm) 134 0 c134_21 sl []) = (j134_21 n3).map e134 := by
  unfold j134_21; exact go (Q (nE c134_21 (.seq c134_22 .ret)) k134) trivial
def s134_8 (s0 : Bs) (n3 t6 t7 : Int) : Option ((Bs × Int × Int × Int) ⊕ R134) :=
  if (decide (t7 < t6)) = true then
    if 0 ≤ t7 ∧ t7 < (s0.length : Int) then
      some (.inl (s0, (w64 ((w64 (10 * n3)) + ((((s0.getD t7.toNat 0) - (48 : UInt8)).toNat : Int).tmod 10))), t6, (w64 (t7 + 1))))
    else none
  else
    (j134_21 n3).map .inr
theorem s134_8_t (s0 : Bs) (n3 t6 t7 : Int) :
    stepE (K134_8 mm) (lp (E0 mm) 134 0 c134_9 L134_8 (en134_8 (s0, n3, t6, t7))) = (s134_8 s0 n3 t6 t7).map (sm en134_8 e134) := by
  unfold s134_8; exact go k134 @j134_21_t
def l134_8 (s0 : Bs) (n3 t6 t7 : Int) : Option R134 := iter (fun x : (Bs × Int × Int × Int) => s134_8 x.1 x.2.1 x.2.2.1 x.2.2.2) (s0, n3, t6, t7)
theorem l134_8_t (s0 : Bs) (n3 t6 t7 : Int) : (K134_8 mm) (itW (lp (E0 mm) 134 0 c134_9 L134_8) (en134_8 (s0, n3, t6, t7))) = (l134_8 s0 n3 t6 t7).map e134 :=
  it_sim (K := (K134_8 mm)) rfl (enc := en134_8) (fun x => s134_8_t x.1 x.2.1 x.2.2.1 x.2.2.2) (s0, n3, t6, t7)
def m134 (s : Bs) : Option R134 :=
  l134_8 s (0 : Int) (s.length : Int) (0 : Int)
theorem f134_t (s : Bs) :
    callW (E0 mm) 134 [cd (dS s)] [] = (m134 s).map e134 := by
  rw [cR c134_0 [.tmp 2] Tryz.func134]
  unfold m134; exact go k134 @l134_8_t
noncomputable def c136_0 : Code := bodyOf Tryz.f136
def c136_1 := cA c136_0
def c136_3 := cA (cB c136_0)
def c136_5 := cA (cB (cB c136_0))
def c136_7 := cA (cB (cB (cB c136_0)))
abbrev R136 := (Int)
def e136 (x : R136) : AV × Heap := (vd (dI x), [])
def m136 (year : Int) : Option R136 :=
  some (w64 ((w64 ((w64 (365 * (w64 (year - 1970)))) + (w64 ((w64 ((w64 ((w64 (year - 1)).tdiv 4)) - (w64 ((w64 (year - 1)).tdiv 100)))) + (w64 ((w64 (year - 1)).tdiv 400)))))) - 477))
def k136 := Q (rx c136_1) (Q (rx c136_3) (Q (rx c136_5) (Q (rx c136_7) (Q (nE c136_0 (.seq c136_1 (.seq c136_3 (.seq c136_5 (.seq c136_7 .ret))))) hA))))
theorem f136_t (year : Int) :
    callW (E0 mm) 136 [cd (dI year)] [] = (m136 year).map e136 := by
  rw [cR c136_0 [.tmp 2] Tryz.func136]
  unfold m136; exact go k136 trivial
noncomputable def c149_0 : Code := bodyOf Tryz.f149
def c149_1 := cA c149_0
def c149_3 := cA (cB c149_0)
abbrev R149 := (Bool)
def e149 (x : R149) : AV × Heap := (vd (dB x), [])
def m149 (year : Int) : Option R149 :=
  if ((year.tmod 4) == 0) = true then
    if ((year.tmod 100) == 0) = true then
      some ((year.tmod 400) == 0)
    else
      some true
  else
    some ((year.tmod 400) == 0)
def k149 := Q (rx c149_1) (Q (rx c149_3) (Q (nE c149_0 (.seq c149_1 (.seq c149_3 .ret))) hA))
theorem f149_t (year : Int) :
    callW (E0 mm) 149 [cd (dI year)] [] = (m149 year).map e149 := by
  rw [cR c149_0 [.tmp 2] Tryz.func149]
  unfold m149; exact go k149 trivial
noncomputable def c135_0 : Code := bodyOf Tryz.f135
def c135_1 := cA c135_0
def c135_3 := cA (cB c135_0)
def c135_6 := cA (cA (cB (cB c135_0)))
def c135_7 := cB (cA (cB (cB c135_0)))
def c135_9 := cA (cA c135_7)
def c135_12 := cB (cB (cB c135_0))
def c135_13 := cA c135_12
abbrev R135 := (Int)
def e135 (x : R135) : AV × Heap := (vd (dI x), [])
def j135_7 (month1 : Int) (t12 : Bool) : Option R135 :=
  if t12 = true then
    some (29 : Int)
  else
    if 0 ≤ month1 ∧ month1 < 12 then
      some (([(31 : Int), (28 : Int), (31 : Int), (30 : Int), (31 : Int), (30 : Int), (31 : Int), (31 : Int), (30 : Int), (31 : Int), (30 : Int), (31 : Int)] : List Int).getD month1.toNat default)
    else none
def k135 := Q (rx c135_9) (Q (rx c135_13) (Q (rx c135_1) (Q (rx c135_3) (Q @ao85 (Q (rx c135_6) (Q @ent149 (Q @prm149 (Q @f149_t (Q @e149.eq_1 (Q (nE c135_0 (.seq c135_1 (.seq c135_3 (.seq (.seq c135_6 c135_7) c135_12)))) (Q (nE c135_12 (.seq c135_13 .ret)) hA)))))))))))
theorem j135_7_t (month1 : Int) (t12 : Bool)  (sl : Sl) (_ : sl 1 = vd (dI month1)) (_ : sl 5 = .v (.c (.ptr 0 0))) (_ : sl 12 = vd (dB t12)) :
    bodyD (E0 mm) [.tmp 4] 0 false (sq (E0 mm) 135 0 c135_12 (dn (E0 mm) 135 0 c135_7 sl [.cells [.d (dI 31), .d (dI 28), .d (dI 31), .d (dI 30), .d (dI 31), .d (dI 30), .d (dI 31), .d (dI 31), .d (dI 30), .d (dI 31), .d (dI 30), .d (dI 31)]])) = (j135_7 month1 t12).map e135 := by
  unfold j135_7; exact go (Q (nE c135_7 (.cond _ (.seq c135_9 .ret) .skip)) k135) trivial
def m135 (year month : Int) : Option R135 :=
  if (month == 1) = true then
    (m149 year).bind fun yr3 =>
      j135_7 month yr3
  else
    j135_7 month false
theorem f135_t (year month : Int) :
    callW (E0 mm) 135 [cd (dI year), cd (dI month)] [] = (m135 year month).map e135 := by
  rw [cR c135_0 [.tmp 4] Tryz.func135]
  unfold m135; exact go k135 @j135_7_t
noncomputable def c150_0 : Code := bodyOf Tryz.f150
def c150_1 := cA c150_0
def c150_3 := cA (cB c150_0)
abbrev R150 := (Bs)
def e150 (x : R150) : AV × Heap := (vd (dS x), [])
def m150 (n : Int) : Option R150 :=
  some ([(u8 (w64 (48 + ((w64 (n.tdiv 10)).tmod 10)))), (u8 (w64 (48 + (n.tmod 10))))] : List UInt8)
def k150 := Q (rx c150_1) (Q (rx c150_3) (Q @hd87 (Q @nv88 (Q @rw89 (Q @ns90 (Q (nE c150_0 (.seq c150_1 (.seq c150_3 .ret))) hA))))))
theorem f150_t (n : Int) :
    callW (E0 mm) 150 [cd (dI n)] [] = (m150 n).map e150 := by
  rw [cR c150_0 [.tmp 2] Tryz.func150]
  unfold m150; exact go k150 trivial
noncomputable def c137_0 : Code := bodyOf Tryz.f137
def c137_1 := cA c137_0
def c137_4 := cA (cA (cB c137_0))
def c137_7 := cA (cA (cB (cA (cB c137_0))))
def c137_11 := cA (cB (cB c137_0))
def c137_13 := cA (cB (cB (cB c137_0)))
def c137_16 := cA (cA (cB (cB (cB (cB c137_0)))))
def c137_17 := cA c137_16
def c137_19 := cA (cA c137_17)
def c137_24 := cA (cB c137_17)
def c137_25 := cB (cB (cB (cB (cB c137_0))))
def c137_26 := cA c137_25
def c137_29 := cA (cA (cB c137_25))
def c137_30 := cA c137_29
def c137_32 := cA (cA c137_30)
def c137_38 := cA (cA (cB c137_30))
def c137_39 := cB (cA (cB c137_30))
def c137_40 := cB (cB c137_25)
def c137_41 := cA c137_40
def c137_43 := cA (cB c137_40)
def L137_16 : List (Nat × Co) := [(4, .keep), (5, .keep), (6, .keep)]
def L137_29 : List (Nat × Co) := [(4, .keep), (5, .keep), (6, .keep), (7, .keep), (8, .keep)]
abbrev b137 (mm : Int) := bodyD (E0 mm) [.tmp 2, .tmp 3] 0 false
abbrev R137 := (Bs × Int)
def e137 (x : R137) : AV × Heap := (.tup [cd (dS x.1), cd (dI x.2)], [])
def j137_40 (d4 s5 : Int) (year6 rest7 month8 : Int) : Option R137 :=
  (bnd (w64 ((w64 (3 * (d4.tmod 7))) + 3)) 21).bind fun yk11 =>
    (bnd (w64 (3 * (d4.tmod 7))) yk11).bind fun yk13 =>
      if ((([84, 104, 117, 70, 114, 105, 83, 97, 116, 83, 117, 110, 77, 111, 110, 84, 117, 101, 87, 101, 100] : Bs).take yk11).drop yk13).length + 2 < 9223372036854775808 then
        (m150 (w64 (rest7 + 1))).bind fun yr16 =>
          if (((([84, 104, 117, 70, 114, 105, 83, 97, 116, 83, 117, 110, 77, 111, 110, 84, 117, 101, 87, 101, 100] : Bs).take yk11).drop yk13) ++ ([44, 32] : Bs)).length + yr16.length < 9223372036854775808 then
            if ((((([84, 104, 117, 70, 114, 105, 83, 97, 116, 83, 117, 110, 77, 111, 110, 84, 117, 101, 87, 101, 100] : Bs).take yk11).drop yk13) ++ ([44, 32] : Bs)) ++ yr16).length + 1 < 9223372036854775808 then
              (bnd (w64 ((w64 (3 * month8)) + 3)) 36).bind fun yk20 =>
                (bnd (w64 (3 * month8)) yk20).bind fun yk22 =>
                  if (((((([84, 104, 117, 70, 114, 105, 83, 97, 116, 83, 117, 110, 77, 111, 110, 84, 117, 101, 87, 101, 100] : Bs).take yk11).drop yk13) ++ ([44, 32] : Bs)) ++ yr16) ++ ([32] : Bs)).length + ((([74, 97, 110, 70, 101, 98, 77, 97, 114, 65, 112, 114, 77, 97, 121, 74, 117, 110, 74, 117, 108, 65, 117, 103, 83, 101, 112, 79, 99, 116, 78, 111, 118, 68, 101, 99] : Bs).take yk20).drop yk22).length < 9223372036854775808 then
                    if ((((((([84, 104, 117, 70, 114, 105, 83, 97, 116, 83, 117, 110, 77, 111, 110, 84, 117, 101, 87, 101, 100] : Bs).take yk11).drop yk13) ++ ([44, 32] : Bs)) ++ yr16) ++ ([32] : Bs)) ++ ((([74, 97, 110, 70, 101, 98, 77, 97, 114, 65, 112, 114, 77, 97, 121, 74, 117, 110, 74, 117, 108, 65, 117, 103, 83, 101, 112, 79, 99, 116, 78, 111, 118, 68, 101, 99] : Bs).take yk20).drop yk22)).length + 1 < 9223372036854775808 then
                      (m150 (w64 (year6.tdiv 100))).bind fun yr26 =>
                        if (((((((([84, 104, 117, 70, 114, 105, 83, 97, 116, 83, 117, 110, 77, 111, 110, 84, 117, 101, 87, 101, 100] : Bs).take yk11).drop yk13) ++ ([44, 32] : Bs)) ++ yr16) ++ ([32] : Bs)) ++ ((([74, 97, 110, 70, 101, 98, 77, 97, 114, 65, 112, 114, 77, 97, 121, 74, 117, 110, 74, 117, 108, 65, 117, 103, 83, 101, 112, 79, 99, 116, 78, 111, 118, 68, 101, 99] : Bs).take yk20).drop yk22)) ++ ([32] : Bs)).length + yr26.length < 9223372036854775808 then
                          (m150 (year6.tmod 100)).bind fun yr29 =>
                            if ((((((((([84, 104, 117, 70, 114, 105, 83, 97, 116, 83, 117, 110, 77, 111, 110, 84, 117, 101, 87, 101, 100] : Bs).take yk11).drop yk13) ++ ([44, 32] : Bs)) ++ yr16) ++ ([32] : Bs)) ++ ((([74, 97, 110, 70, 101, 98, 77, 97, 114, 65, 112, 114, 77, 97, 121, 74, 117, 110, 74, 117, 108, 65, 117, 103, 83, 101, 112, 79, 99, 116, 78, 111, 118, 68, 101, 99] : Bs).take yk20).drop yk22)) ++ ([32] : Bs)) ++ yr26).length + yr29.length < 9223372036854775808 then
                              if (((((((((([84, 104, 117, 70, 114, 105, 83, 97, 116, 83, 117, 110, 77, 111, 110, 84, 117, 101, 87, 101, 100] : Bs).take yk11).drop yk13) ++ ([44, 32] : Bs)) ++ yr16) ++ ([32] : Bs)) ++ ((([74, 97, 110, 70, 101, 98, 77, 97, 114, 65, 112, 114, 77, 97, 121, 74, 117, 110, 74, 117, 108, 65, 117, 103, 83, 101, 112, 79, 99, 116, 78, 111, 118, 68, 101, 99] : Bs).take yk20).drop yk22)) ++ ([32] : Bs)) ++ yr26) ++ yr29).length + 1 < 9223372036854775808 then
                                (m150 (w64 (s5.tdiv 3600))).bind fun yr33 =>
                                  if ((((((((((([84, 104, 117, 70, 114, 105, 83, 97, 116, 83, 117, 110, 77, 111, 110, 84, 117, 101, 87, 101, 100] : Bs).take yk11).drop yk13) ++ ([44, 32] : Bs)) ++ yr16) ++ ([32] : Bs)) ++ ((([74, 97, 110, 70, 101, 98, 77, 97, 114, 65, 112, 114, 77, 97, 121, 74, 117, 110, 74, 117, 108, 65, 117, 103, 83, 101, 112, 79, 99, 116, 78, 111, 118, 68, 101, 99] : Bs).take yk20).drop yk22)) ++ ([32] : Bs)) ++ yr26) ++ yr29) ++ ([32] : Bs)).length + yr33.length < 9223372036854775808 then
                                    if (((((((((((([84, 104, 117, 70, 114, 105, 83, 97, 116, 83, 117, 110, 77, 111, 110, 84, 117, 101, 87, 101, 100] : Bs).take yk11).drop yk13) ++ ([44, 32] : Bs)) ++ yr16) ++ ([32] : Bs)) ++ ((([74, 97, 110, 70, 101, 98, 77, 97, 114, 65, 112, 114, 77, 97, 121, 74, 117, 110, 74, 117, 108, 65, 117, 103, 83, 101, 112, 79, 99, 116, 78, 111, 118, 68, 101, 99] : Bs).take yk20).drop yk22)) ++ ([32] : Bs)) ++ yr26) ++ yr29) ++ ([32] : Bs)) ++ yr33).length + 1 < 9223372036854775808 then
                                      (m150 ((w64 (s5.tdiv 60)).tmod 60)).bind fun yr37 =>
                                        if ((((((((((((([84, 104, 117, 70, 114, 105, 83, 97, 116, 83, 117, 110, 77, 111, 110, 84, 117, 101, 87, 101, 100] : Bs).take yk11).drop yk13) ++ ([44, 32] : Bs)) ++ yr16) ++ ([32] : Bs)) ++ ((([74, 97, 110, 70, 101, 98, 77, 97, 114, 65, 112, 114, 77, 97, 121, 74, 117, 110, 74, 117, 108, 65, 117, 103, 83, 101, 112, 79, 99, 116, 78, 111, 118, 68, 101, 99] : Bs).take yk20).drop yk22)) ++ ([32] : Bs)) ++ yr26) ++ yr29) ++ ([32] : Bs)) ++ yr33) ++ ([58] : Bs)).length + yr37.length < 9223372036854775808 then
                                          if (((((((((((((([84, 104, 117, 70, 114, 105, 83, 97, 116, 83, 117, 110, 77, 111, 110, 84, 117, 101, 87, 101, 100] : Bs).take yk11).drop yk13) ++ ([44, 32] : Bs)) ++ yr16) ++ ([32] : Bs)) ++ ((([74, 97, 110, 70, 101, 98, 77, 97, 114, 65, 112, 114, 77, 97, 121, 74, 117, 110, 74, 117, 108, 65, 117, 103, 83, 101, 112, 79, 99, 116, 78, 111, 118, 68, 101, 99] : Bs).take yk20).drop yk22)) ++ ([32] : Bs)) ++ yr26) ++ yr29) ++ ([32] : Bs)) ++ yr33) ++ ([58] : Bs)) ++ yr37).length + 1 < 9223372036854775808 then
                                            (m150 (s5.tmod 60)).bind fun yr41 =>
                                              if ((((((((((((((([84, 104, 117, 70, 114, 105, 83, 97, 116, 83, 117, 110, 77, 111, 110, 84, 117, 101, 87, 101, 100] : Bs).take yk11).drop yk13) ++ ([44, 32] : Bs)) ++ yr16) ++ ([32] : Bs)) ++ ((([74, 97, 110, 70, 101, 98, 77, 97, 114, 65, 112, 114, 77, 97, 121, 74, 117, 110, 74, 117, 108, 65, 117, 103, 83, 101, 112, 79, 99, 116, 78, 111, 118, 68, 101, 99] : Bs).take yk20).drop yk22)) ++ ([32] : Bs)) ++ yr26) ++ yr29) ++ ([32] : Bs)) ++ yr33) ++ ([58] : Bs)) ++ yr37) ++ ([58] : Bs)).length + yr41.length < 9223372036854775808 then
                                                if (((((((((((((((([84, 104, 117, 70, 114, 105, 83, 97, 116, 83, 117, 110, 77, 111, 110, 84, 117, 101, 87, 101, 100] : Bs).take yk11).drop yk13) ++ ([44, 32] : Bs)) ++ yr16) ++ ([32] : Bs)) ++ ((([74, 97, 110, 70, 101, 98, 77, 97, 114, 65, 112, 114, 77, 97, 121, 74, 117, 110, 74, 117, 108, 65, 117, 103, 83, 101, 112, 79, 99, 116, 78, 111, 118, 68, 101, 99] : Bs).take yk20).drop yk22)) ++ ([32] : Bs)) ++ yr26) ++ yr29) ++ ([32] : Bs)) ++ yr33) ++ ([58] : Bs)) ++ yr37) ++ ([58] : Bs)) ++ yr41).length + 4 < 9223372036854775808 then
                                                  some (((((((((((((((((([84, 104, 117, 70, 114, 105, 83, 97, 116, 83, 117, 110, 77, 111, 110, 84, 117, 101, 87, 101, 100] : Bs).take yk11).drop yk13) ++ ([44, 32] : Bs)) ++ yr16) ++ ([32] : Bs)) ++ ((([74, 97, 110, 70, 101, 98, 77, 97, 114, 65, 112, 114, 77, 97, 121, 74, 117, 110, 74, 117, 108, 65, 117, 103, 83, 101, 112, 79, 99, 116, 78, 111, 118, 68, 101, 99] : Bs).take yk20).drop yk22)) ++ ([32] : Bs)) ++ yr26) ++ yr29) ++ ([32] : Bs)) ++ yr33) ++ ([58] : Bs)) ++ yr37) ++ ([58] : Bs)) ++ yr41) ++ ([32, 71, 77, 84] : Bs)), (0 : Int))
                                                else none
                                              else none
                                          else none
                                        else none
                                    else none
                                  else none
                              else none
                            else none
                        else none
                    else none
                  else none
            else none
          else none
      else none
def K137_16 (mm : Int) (r : Option (Ex × St)) : Option (AV × Heap) := b137 mm (sq (E0 mm) 137 0 c137_25 (blockD 0 (r)))
def en137_16 (x : (Int × Int × Int)) : X := (none, [vd (dI x.1), vd (dI x.2.1), vd (dI x.2.2)], [])
def K137_29 (mm : Int) (r : Option (Ex × St)) : Option (AV × Heap) := b137 mm (sq (E0 mm) 137 0 c137_40 (blockD 2 (r)))
def en137_29 (x : (Int × Int × Int × Int × Int)) : X := (none, [vd (dI x.1), vd (dI x.2.1), vd (dI x.2.2.1), vd (dI x.2.2.2.1), vd (dI x.2.2.2.2)], [])
def k137 := Q (rx c137_41) (Q (fun mm => ry (E0 mm) c137_43) (Q @ent150 (Q @prm150 (Q @f150_t (Q @e150.eq_1 (Q (rx c137_32) (Q @f135_t (Q @e135.eq_1 (Q (rx c137_38) (Q (rx c137_39) (Q @K137_29.eq_1 (Q (rx c137_26) (Q @f136_t (Q @e136.eq_1 (Q (fun mm => lx (E0 mm) 137 c137_29 c137_30 L137_29) (Q (rx c137_19) (Q (rx c137_24) (Q @K137_16.eq_1 (Q (rx c137_1) (Q (rx c137_4) (Q (rx c137_7) (Q (rx c137_11) (Q (rx c137_13) (Q (fun mm => lx (E0 mm) 137 c137_16 c137_17 L137_16) (Q (nE c137_0 (.seq c137_1 (.seq (.seq c137_4 (.cond _ (.seq c137_7 .ret) .skip)) (.seq c137_11 (.seq c137_13 (.seq (.block 0 c137_16) c137_25)))))) (Q (nE c137_17 (.seq (.seq c137_19 (.cond _ .skip (.exit 0))) (.block 1 c137_24))) (Q (nE c137_30 (.seq (.seq c137_32 (.cond _ .skip (.exit 2))) (.block 3 (.seq c137_38 c137_39)))) (Q @en137_16.eq_1 (Q @en137_29.eq_1 (Q @L137_16.eq_1 (Q @L137_29.eq_1 hA)))))))))))))))))))))))))))))))
theorem j137_40_t (d4 s5 : Int) (year6 rest7 month8 : Int)  (sl : Sl) (_ : sl 4 = vd (dI d4)) (_ : sl 5 = vd (dI s5)) (_ : sl 6 = vd (dI year6)) (_ : sl 7 = vd (dI rest7)) (_ : sl 8 = vd (dI month8)) :
    b137 mm (dn (E0 mm) 137 0 c137_40 sl []) = (j137_40 d4 s5 year6 rest7 month8).map e137 := by
  unfold j137_40; exact go (Q (nE c137_40 (.seq c137_41 (.seq c137_43 .ret))) k137) trivial
def s137_29 (d4 s5 : Int) (year6 rest7 month8 : Int) : Option ((Int × Int × Int × Int × Int) ⊕ R137) :=
  (m135 year6 month8).bind fun yr8 =>
    if (decide (yr8 ≤ rest7)) = true then
      some (.inl (d4, s5, year6, (w64 (rest7 - yr8)), (w64 (month8 + 1))))
    else
      (j137_40 d4 s5 year6 rest7 month8).map .inr
theorem s137_29_t (d4 s5 : Int) (year6 rest7 month8 : Int) :
    stepE (K137_29 mm) (lp (E0 mm) 137 0 c137_30 L137_29 (en137_29 (d4, s5, year6, rest7, month8))) = (s137_29 d4 s5 year6 rest7 month8).map (sm en137_29 e137) := by
  unfold s137_29; exact go k137 @j137_40_t
def l137_29 (d4 s5 : Int) (year6 rest7 month8 : Int) : Option R137 := iter (fun x : (Int × Int × Int × Int × Int) => s137_29 x.1 x.2.1 x.2.2.1 x.2.2.2.1 x.2.2.2.2) (d4, s5, year6, rest7, month8)
theorem l137_29_t (d4 s5 : Int) (year6 rest7 month8 : Int) : (K137_29 mm) (itW (lp (E0 mm) 137 0 c137_30 L137_29) (en137_29 (d4, s5, year6, rest7, month8))) = (l137_29 d4 s5 year6 rest7 month8).map e137 :=
  it_sim (K := (K137_29 mm)) rfl (enc := en137_29) (fun x => s137_29_t x.1 x.2.1 x.2.2.1 x.2.2.2.1 x.2.2.2.2) (d4, s5, year6, rest7, month8)
def j137_25 (d4 s5 year6 : Int) : Option R137 :=
  (m136 year6).bind fun yr6 =>
    l137_29 d4 s5 year6 (w64 (d4 - yr6)) (0 : Int)
theorem j137_25_t (d4 s5 year6 : Int)  (sl : Sl) (_ : sl 4 = vd (dI d4)) (_ : sl 5 = vd (dI s5)) (_ : sl 6 = vd (dI year6)) :
    b137 mm (dn (E0 mm) 137 0 c137_25 sl []) = (j137_25 d4 s5 year6).map e137 := by
  unfold j137_25; exact go (Q (nE c137_25 (.seq c137_26 (.seq (.block 2 c137_29) c137_40))) k137) @l137_29_t
def s137_16 (d4 s5 year6 : Int) : Option ((Int × Int × Int) ⊕ R137) :=
  (m136 (w64 (year6 + 1))).bind fun yr3 =>
    if (decide (yr3 ≤ d4)) = true then
      some (.inl (d4, s5, (w64 (year6 + 1))))
    else
      (j137_25 d4 s5 year6).map .inr
theorem s137_16_t (d4 s5 year6 : Int) :
    stepE (K137_16 mm) (lp (E0 mm) 137 0 c137_17 L137_16 (en137_16 (d4, s5, year6))) = (s137_16 d4 s5 year6).map (sm en137_16 e137) := by
  unfold s137_16; exact go k137 @j137_25_t
def l137_16 (d4 s5 year6 : Int) : Option R137 := iter (fun x : (Int × Int × Int) => s137_16 x.1 x.2.1 x.2.2) (d4, s5, year6)
theorem l137_16_t (d4 s5 year6 : Int) : (K137_16 mm) (itW (lp (E0 mm) 137 0 c137_17 L137_16) (en137_16 (d4, s5, year6))) = (l137_16 d4 s5 year6).map e137 :=
  it_sim (K := (K137_16 mm)) rfl (enc := en137_16) (fun x => s137_16_t x.1 x.2.1 x.2.2) (d4, s5, year6)
def m137 (n : Int) : Option R137 :=
  if (decide (253402300799 < n)) = true then
    some (([] : Bs), (3 : Int))
  else
    l137_16 (w64 (wu64 (n.tdiv 86400))) (w64 (n.tmod 86400)) (w64 (1970 + (w64 ((w64 (wu64 (n.tdiv 86400))).tdiv 366))))
theorem f137_t (n : Int) :
    callW (E0 mm) 137 [cd (dU n)] [] = (m137 n).map e137 := by
  rw [cR c137_0 [.tmp 2, .tmp 3] Tryz.func137]
  unfold m137; exact go k137 @l137_16_t
noncomputable def c104_0 : Code := bodyOf Tryz.f104
def c104_1 := cA c104_0
def c104_4 := cA (cA (cB c104_0))
def c104_7 := cA (cA (cB (cA (cB c104_0))))
def c104_11 := cA (cB (cB c104_0))
def c104_13 := cA (cB (cB (cB c104_0)))
def c104_16 := cA (cA (cB (cB (cB (cB c104_0)))))
def c104_17 := cB (cA (cB (cB (cB (cB c104_0)))))
def c104_19 := cA (cA c104_17)
def c104_22 := cB (cB (cB (cB (cB c104_0))))
def c104_23 := cA c104_22
def c104_26 := cA (cA (cB c104_22))
def c104_28 := cA (cB (cA (cB c104_22)))
def c104_29 := cA c104_28
def c104_30 := cA c104_29
def c104_38 := cA (cA (cA (cB (cB c104_29))))
def c104_39 := cB (cA (cA (cB (cB c104_29))))
def c104_40 := cB (cB (cB c104_29))
def c104_41 := cB (cB c104_22)
def c104_42 := cA c104_41
def c104_45 := cA (cA (cB c104_41))
def c104_47 := cA (cB (cA (cB c104_41)))
def c104_48 := cB (cB (cA (cB c104_41)))
def c104_50 := cA (cA c104_48)
def c104_53 := cB (cB c104_41)
def c104_54 := cA c104_53
def L104_28 : List (Nat × Co) := [(0, .keep), (5, .keep), (7, .keep), (53, .keep), (54, .keep)]
abbrev b104 (mm : Int) := bodyD (E0 mm) [.tmp 2, .tmp 3] 0 false
abbrev R104 := (Int × Int)
def e104 (x : R104) : AV × Heap := (.tup [cd (dU x.1), cd (dI x.2)], [])
def j104_48 (n9 : Int) (t91 : Bool) : Option R104 :=
  if t91 = true then
    some ((0 : Int), (5 : Int))
  else
    some (n9, (0 : Int))
def K104_28 (mm : Int) (r : Option (Ex × St)) : Option (AV × Heap) := b104 mm (sq (E0 mm) 104 0 c104_41 (blockD 0 (r)))
def en104_28 (x : (Bs × Int × Int × Int × Int)) : X := (none, [vd (dS x.1), vd (dI x.2.1), vd (dI x.2.2.1), vd (dI x.2.2.2.1), vd (dI x.2.2.2.2)], [])
def k104 := Q (rx c104_50) (Q (rx c104_54) (Q (fun mm => ry (E0 mm) c104_42) (Q @ent134 (Q @prm134 (Q @f134_t (Q @e134.eq_1 (Q (rx c104_45) (Q @ent137 (Q @prm137 (Q @f137_t (Q @e137.eq_1 (Q (rx c104_47) (Q (rx c104_30) (Q (rx c104_38) (Q (rx c104_39) (Q @f135_t (Q @e135.eq_1 (Q (rx c104_40) (Q @K104_28.eq_1 (Q (rx c104_19) (Q (rx c104_23) (Q @f136_t (Q @e136.eq_1 (Q (rx c104_26) (Q (fun mm => lx (E0 mm) 104 c104_28 c104_29 L104_28) (Q (rx c104_1) (Q (rx c104_4) (Q (rx c104_11) (Q @ent117 (Q @prm117 (Q (fun (mm : Int) (s : Bs) (yk3 : Nat) (yk5 : Nat) => (show callW (E0 mm) 117 [cd (dS ([74, 97, 110, 70, 101, 98, 77, 97, 114, 65, 112, 114, 77, 97, 121, 74, 117, 110, 74, 117, 108, 65, 117, 103, 83, 101, 112, 79, 99, 116, 78, 111, 118, 68, 101, 99] : Bs)), cd (dS ((s.take yk3).drop yk5))] [] = _ from f117_t ([74, 97, 110, 70, 101, 98, 77, 97, 114, 65, 112, 114, 77, 97, 121, 74, 117, 110, 74, 117, 108, 65, 117, 103, 83, 101, 112, 79, 99, 116, 78, 111, 118, 68, 101, 99] : Bs) ((s.take yk3).drop yk5))) (Q @e117.eq_1 (Q (fun mm => ry (E0 mm) c104_13) (Q (rx c104_16) (Q (rx c104_7) (Q (nE c104_0 (.seq c104_1 (.seq (.seq c104_4 (.cond _ (.seq c104_7 .ret) .skip)) (.seq c104_11 (.seq c104_13 (.seq (.seq c104_16 c104_17) c104_22)))))) (Q (nE c104_22 (.seq c104_23 (.seq (.seq c104_26 (.block 0 c104_28)) c104_41))) (Q (nE c104_29 (.seq c104_30 (.seq (.cond _ .skip (.exit 0)) (.seq (.block 1 (.seq c104_38 c104_39)) c104_40)))) (Q (nE c104_53 (.seq c104_54 .ret)) (Q @en104_28.eq_1 (Q @L104_28.eq_1 hA)))))))))))))))))))))))))))))))))))))))))
theorem j104_48_t (n9 : Int) (t91 : Bool)  (sl : Sl) (_ : sl 9 = vd (dU n9)) (_ : sl 91 = vd (dB t91)) :
    b104 mm (sq (E0 mm) 104 0 c104_53 (dn (E0 mm) 104 0 c104_48 sl [])) = (j104_48 n9 t91).map e104 := by
  unfold j104_48; exact go (Q (nE c104_48 (.cond _ (.seq c104_50 .ret) .skip)) k104) trivial
def j104_41 (s0 : Bs) (d7 : Int) : Option R104 :=
  (bnd 19 s0.length).bind fun yk28 =>
    (bnd 17 yk28).bind fun yk30 =>
      (m134 ((s0.take yk28).drop yk30)).bind fun yr32 =>
        (bnd 22 s0.length).bind fun yk34 =>
          (bnd 20 yk34).bind fun yk36 =>
            (m134 ((s0.take yk34).drop yk36)).bind fun yr38 =>
              (bnd 25 s0.length).bind fun yk40 =>
                (bnd 23 yk40).bind fun yk42 =>
                  (m134 ((s0.take yk40).drop yk42)).bind fun yr44 =>
                    (m137 (wu64 (w64 ((w64 ((w64 ((w64 (d7 * 86400)) + (w64 (yr32 * 3600)))) + (w64 (yr38 * 60)))) + yr44)))).bind fun yr46 =>
                      if (yr46.2 == 0) = true then
                        j104_48 (wu64 (w64 ((w64 ((w64 ((w64 (d7 * 86400)) + (w64 (yr32 * 3600)))) + (w64 (yr38 * 60)))) + yr44))) (!(yr46.1 == s0))
                      else
                        j104_48 (wu64 (w64 ((w64 ((w64 ((w64 (d7 * 86400)) + (w64 (yr32 * 3600)))) + (w64 (yr38 * 60)))) + yr44))) true
theorem j104_41_t (s0 : Bs) (d7 : Int)  (sl : Sl) (_ : sl 0 = vd (dS s0)) (_ : sl 7 = vd (dI d7)) :
    b104 mm (dn (E0 mm) 104 0 c104_41 sl []) = (j104_41 s0 d7).map e104 := by
  unfold j104_41; exact go (Q (nE c104_41 (.seq c104_42 (.seq (.seq c104_45 (.seq c104_47 c104_48)) c104_53))) k104) @j104_48_t
def s104_28 (s0 : Bs) (year5 d7 : Int) (t53 t54 : Int) : Option ((Bs × Int × Int × Int × Int) ⊕ R104) :=
  if (decide (t54 < t53)) = true then
    (m135 year5 t54).bind fun yr26 =>
      some (.inl (s0, year5, (w64 (d7 + yr26)), t53, (w64 (t54 + 1))))
  else
    (j104_41 s0 d7).map .inr
theorem s104_28_t (s0 : Bs) (year5 d7 : Int) (t53 t54 : Int) :
    stepE (K104_28 mm) (lp (E0 mm) 104 0 c104_29 L104_28 (en104_28 (s0, year5, d7, t53, t54))) = (s104_28 s0 year5 d7 t53 t54).map (sm en104_28 e104) := by
  unfold s104_28; exact go k104 @j104_41_t
def l104_28 (s0 : Bs) (year5 d7 : Int) (t53 t54 : Int) : Option R104 := iter (fun x : (Bs × Int × Int × Int × Int) => s104_28 x.1 x.2.1 x.2.2.1 x.2.2.2.1 x.2.2.2.2) (s0, year5, d7, t53, t54)
theorem l104_28_t (s0 : Bs) (year5 d7 : Int) (t53 t54 : Int) : (K104_28 mm) (itW (lp (E0 mm) 104 0 c104_29 L104_28) (en104_28 (s0, year5, d7, t53, t54))) = (l104_28 s0 year5 d7 t53 t54).map e104 :=
  it_sim (K := (K104_28 mm)) rfl (enc := en104_28) (fun x => s104_28_t x.1 x.2.1 x.2.2.1 x.2.2.2.1 x.2.2.2.2) (s0, year5, d7, t53, t54)
def j104_17 (s0 : Bs) (at4 year5 date6 : Int) (t46 : Bool) : Option R104 :=
  if t46 = true then
    some ((0 : Int), (5 : Int))
  else
    (m136 year5).bind fun yr23 =>
      l104_28 s0 year5 (w64 ((w64 (yr23 + date6)) - 1)) (w64 (at4.tdiv 3)) (0 : Int)
theorem j104_17_t (s0 : Bs) (at4 year5 date6 : Int) (t46 : Bool)  (sl : Sl) (_ : sl 0 = vd (dS s0)) (_ : sl 4 = vd (dI at4)) (_ : sl 5 = vd (dI year5)) (_ : sl 6 = vd (dI date6)) (_ : sl 46 = vd (dB t46)) :
    b104 mm (sq (E0 mm) 104 0 c104_22 (dn (E0 mm) 104 0 c104_17 sl [])) = (j104_17 s0 at4 year5 date6 t46).map e104 := by
  unfold j104_17; exact go (Q (nE c104_17 (.cond _ (.seq c104_19 .ret) .skip)) k104) @l104_28_t
def m104 (s : Bs) : Option R104 :=
  if ((s.length : Int) == 29) = true then
    (bnd 11 s.length).bind fun yk3 =>
      (bnd 8 yk3).bind fun yk5 =>
        (m117 ([74, 97, 110, 70, 101, 98, 77, 97, 114, 65, 112, 114, 77, 97, 121, 74, 117, 110, 74, 117, 108, 65, 117, 103, 83, 101, 112, 79, 99, 116, 78, 111, 118, 68, 101, 99] : Bs) ((s.take yk3).drop yk5)).bind fun yr7 =>
          (bnd 16 s.length).bind fun yk9 =>
            (bnd 12 yk9).bind fun yk11 =>
              (m134 ((s.take yk9).drop yk11)).bind fun yr13 =>
                (bnd 7 s.length).bind fun yk15 =>
                  (bnd 5 yk15).bind fun yk17 =>
                    (m134 ((s.take yk15).drop yk17)).bind fun yr19 =>
                      if (decide (yr7 < 0)) = true then
                        j104_17 s yr7 yr13 yr19 true
                      else
                        if ((yr7.tmod 3) == 0) = true then
                          if (decide (yr13 < 1970)) = true then
                            j104_17 s yr7 yr13 yr19 true
                          else
                            if (decide (yr19 < 1)) = true then
                              j104_17 s yr7 yr13 yr19 true
                            else
                              (m135 yr13 (w64 (yr7.tdiv 3))).bind fun yr53 =>
                                j104_17 s yr7 yr13 yr19 (decide (yr53 < yr19))
                        else
                          j104_17 s yr7 yr13 yr19 true
  else
    some ((0 : Int), (5 : Int))
theorem f104_t (s : Bs) :
    callW (E0 mm) 104 [cd (dS s)] [] = (m104 s).map e104 := by
  rw [cR c104_0 [.tmp 2, .tmp 3] Tryz.func104]
  unfold m104; exact go k104 @j104_17_t
end
end Go.Proofs.YtbkobjepahlegaaGreatDoor
