/- The Go functions as plain functions, and that the evaluator computes them. -/
import Derived.Test.YtaohepmbkepmiaaDoorFPuts1
set_option linter.all false
set_option maxRecDepth 100000
namespace Go.Proofs.YtaohepmbkepmiaaDoor
open Go Go.Ab
open Nat renaming reduceEqDiff → za, reduceAdd → zb, reduceLeDiff → zc, reduceLT → zd, reduceMul → ze, reduceBEq → zf, reduceSub → zg, reducePow → zh
open Int renaming reduceEq → zi, reduceLE → zj, reduceLT → zk, reduceToNat → zl, reduceNegSucc → zm, reduceAdd → zn, reduceBEq → zo
open String renaming reduceBEq → zp
set_option maxHeartbeats 4000000
noncomputable section
variable {mm : Int}
noncomputable def c43_0 : Code := bodyOf Tryd.f43
def c43_1 := cA c43_0
def c43_2 := cB c43_0
def c43_3 := cA c43_2
def c43_4 := cA c43_3
def c43_5 := cB c43_3
def c43_6 := cA c43_5
def c43_7 := cA c43_6
def c43_8 := cB c43_6
def c43_9 := cB c43_5
def c43_10 := cB c43_2
def c43_11 := cA c43_10
def c43_12 := cB c43_10
def c43_13 := cA c43_12
def c43_14 := cA c43_13
def c43_15 := cA c43_14
def c43_16 := cA c43_15
def c43_17 := cB c43_15
def c43_18 := cA c43_17
def c43_19 := cB c43_17
def c43_20 := cA c43_19
def c43_21 := cB c43_19
def c43_22 := cA c43_21
def c43_23 := cA c43_22
def c43_24 := cB c43_22
def c43_25 := cB c43_21
theorem c43_0_e : c43_0 = .seq c43_1 c43_2 := rfl
theorem c43_1_r : RG (E0 mm) 43 c43_1 := rgN rfl
theorem c43_2_e : c43_2 = .seq c43_3 c43_10 := rfl
theorem c43_3_e : c43_3 = .seq c43_4 c43_5 := rfl
theorem c43_4_r : RG (E0 mm) 43 c43_4 := rgN rfl
theorem c43_6_e : c43_6 = .seq c43_7 c43_8 := rfl
theorem c43_7_r : RG (E0 mm) 43 c43_7 := rgN rfl
theorem c43_8_e : c43_8 = .ret := rfl
theorem c43_9_e : c43_9 = .skip := rfl
theorem c43_10_e : c43_10 = .seq c43_11 c43_12 := rfl
theorem c43_11_r : RG (E0 mm) 43 c43_11 := rgN rfl
theorem c43_12_e : c43_12 = .block 0 c43_13 := rfl
theorem c43_13_l (m : Nat) (st : St) : den (E0 mm) 43 m (callW (E0 mm)) itW c43_13 none st = loopD itW (loopF (E0 mm) 43 m (callW (E0 mm)) itW c43_14 [(0, .keep), (1, .keep), (6, .keep)]) (canon m [(0, .keep), (1, .keep), (6, .keep)] st) := rfl
theorem c43_14_e : c43_14 = .block 1 c43_15 := rfl
theorem c43_15_e : c43_15 = .seq c43_16 c43_17 := rfl
theorem c43_16_r : RG (E0 mm) 43 c43_16 := rgN rfl
theorem c43_17_e : c43_17 = .seq c43_18 c43_19 := rfl
theorem c43_18_r : RG (E0 mm) 43 c43_18 := rgN rfl
theorem c43_19_e : c43_19 = .seq c43_20 c43_21 := rfl
theorem c43_20_r : RG (E0 mm) 43 c43_20 := rgN rfl
theorem c43_22_e : c43_22 = .seq c43_23 c43_24 := rfl
theorem c43_23_r : RG (E0 mm) 43 c43_23 := rgN rfl
theorem c43_24_e : c43_24 = .ret := rfl
theorem c43_25_e : c43_25 = .skip := rfl
abbrev R43 := (Bs × Int)
def e43 : R43 → AV × Heap := fun x => (.tup [.c (.d (.sc (.string (S x.1)))), .c (.d (.sc (.int .i64 x.2)))], [])
def K43_13 : Option (Ex × St) → Option (AV × Heap) := fun r => bodyD (E0 mm) [.tmp 4, .tmp 5] 0 false (blockD 0 (r))
def en43_13 : (Int × Int × Bs) → X := fun x => (none, [.v (.c (.d (.sc (.int .u64 x.1)))), .v (.c (.d (.sc (.int .u64 x.2.1)))), .v (.c (.d (.sc (.string (S x.2.2)))))], [])
def s43_13 (n0 base1 : Int) (s6 : Bs) : Option ((Int × Int × Bs) ⊕ R43) :=
  if (base1 == 0) = false then
    if 0 ≤ (n0.tmod base1) ∧ (n0.tmod base1) < 16 then
      if (runeS ((([48, 49, 50, 51, 52, 53, 54, 55, 56, 57, 97, 98, 99, 100, 101, 102] : Bs).getD (n0.tmod base1).toNat 0).toNat : Int)).length + s6.length < 9223372036854775808 then
        if ((wu64 (n0.tdiv base1)) == 0) = true then
          some (.inr (((runeS ((([48, 49, 50, 51, 52, 53, 54, 55, 56, 57, 97, 98, 99, 100, 101, 102] : Bs).getD (n0.tmod base1).toNat 0).toNat : Int)) ++ s6), (0 : Int)))
        else
          some (.inl ((wu64 (n0.tdiv base1)), base1, ((runeS ((([48, 49, 50, 51, 52, 53, 54, 55, 56, 57, 97, 98, 99, 100, 101, 102] : Bs).getD (n0.tmod base1).toNat 0).toNat : Int)) ++ s6)))
      else none
    else none
  else none
theorem s43_13_t (n0 base1 : Int) (s6 : Bs) :
    stepE (K43_13 (mm := mm)) (loopF (E0 mm) 43 0 (callW (E0 mm)) itW c43_14 [(0, .keep), (1, .keep), (6, .keep)] (none, [.v (.c (.d (.sc (.int .u64 n0)))), .v (.c (.d (.sc (.int .u64 base1)))), .v (.c (.d (.sc (.string (S s6)))))], [])) = (s43_13 n0 base1 s6).map (sm en43_13 e43) := by
  simp -implicitDefEqProofs only [s43_13, loopF_eq, c43_14_e, c43_15_e, c43_16_r, (show opsOf c43_16 = _ :: _ from rfl), ev_rem0, setA, setB, za, zb, zc, zd, ze, zf, zg, zh, zi, zj, zk, zl, zm, zn, zo, zp, reduceCtorEq, zE, ↓reduceIte]
  refine brP (fun yc2 => ?_) (fun yc2 => ?_)
  · simp -implicitDefEqProofs only [Tryd.underlying9, yc2, setA, setB, za, zb, zc, zd, ze, zf, zg, zh, zi, zj, zk, zl, zm, zn, zo, zp, reduceCtorEq, zE, ↓reduceIte]
    refine brP (fun yc3 => ?_) (fun yc3 => ?_)
    · simp -implicitDefEqProofs only [Tryd.underlying5, Tryd.underlying9, (convF_is Tryd.underlying5 Tryd.underlying9), yc2, yc3, setA, setB, za, zb, zc, zd, ze, zf, zg, zh, zi, zj, zk, zl, zm, zn, zo, zp, reduceCtorEq, zE, ↓reduceIte]
      refine brP (fun yc4 => ?_) (fun yc4 => ?_)
      · simp -implicitDefEqProofs only [c43_17_e, c43_18_r, (show opsOf c43_18 = _ :: _ from rfl), ev_quo0, c43_19_e, c43_20_r, (show opsOf c43_20 = _ :: _ from rfl), (show c43_21 = Code.cond _ c43_22 c43_25 from rfl), yc2, yc3, yc4, setA, setB, za, zb, zc, zd, ze, zf, zg, zh, zi, zj, zk, zl, zm, zn, zo, zp, reduceCtorEq, zE, ↓reduceIte]
        refine brB (fun yc5 => ?_) (fun yc5 => ?_)
        · simp -implicitDefEqProofs only [c43_22_e, c43_23_r, (show opsOf c43_23 = _ :: _ from rfl), c43_24_e, K43_13, yc2, yc3, yc4, yc5, setA, setB, za, zb, zc, zd, ze, zf, zg, zh, zi, zj, zk, zl, zm, zn, zo, zp, reduceCtorEq, zE, ↓reduceIte]
          all_goals rfl
        · simp -implicitDefEqProofs only [c43_25_e, yc2, yc3, yc4, yc5, setA, setB, za, zb, zc, zd, ze, zf, zg, zh, zi, zj, zk, zl, zm, zn, zo, zp, reduceCtorEq, zE, ↓reduceIte]
          all_goals rfl
      · rw [if_neg yc4]; rfl
    · rw [if_neg yc3]; rfl
  · rw [if_neg yc2]; rfl
def l43_13 (n0 base1 : Int) (s6 : Bs) : Option R43 := iter (fun x : (Int × Int × Bs) => s43_13 x.1 x.2.1 x.2.2) (n0, base1, s6)
theorem l43_13_t (n0 base1 : Int) (s6 : Bs) : bodyD (E0 mm) [.tmp 4, .tmp 5] 0 false (blockD 0 (itW (loopF (E0 mm) 43 0 (callW (E0 mm)) itW c43_14 [(0, .keep), (1, .keep), (6, .keep)]) (none, [.v (.c (.d (.sc (.int .u64 n0)))), .v (.c (.d (.sc (.int .u64 base1)))), .v (.c (.d (.sc (.string (S s6)))))], []))) = (l43_13 n0 base1 s6).map e43 :=
  it_sim (K := (K43_13 (mm := mm))) rfl (enc := en43_13) (fun x => s43_13_t x.1 x.2.1 x.2.2) (n0, base1, s6)
def m43 (n base : Int) : Option R43 :=
  if (decide (9007199254740991 < n)) = true then
    some (([] : Bs), (1 : Int))
  else
    l43_13 n base ([] : Bs)
theorem f43_t (n base : Int) :
    callW (E0 mm) 43 [.c (.d (.sc (.int .u64 n))), .c (.d (.sc (.int .u64 base)))] [] = (m43 n base).map e43 := by
  rw [callW_run (body := c43_0) (res := [.tmp 4, .tmp 5]) Tryd.func43 rfl rfl (by kernel_rfl)]
  simp -implicitDefEqProofs only [m43, slots2, c43_0_e, c43_1_r, (show opsOf c43_1 = _ :: _ from rfl), c43_2_e, c43_3_e, c43_4_r, (show opsOf c43_4 = _ :: _ from rfl), (show c43_5 = Code.cond _ c43_6 c43_9 from rfl), setA, setB, za, zb, zc, zd, ze, zf, zg, zh, zi, zj, zk, zl, zm, zn, zo, zp, reduceCtorEq, zE, ↓reduceIte]
  refine brB (fun yc1 => ?_) (fun yc1 => ?_)
  · simp -implicitDefEqProofs only [c43_6_e, c43_7_r, (show opsOf c43_7 = _ :: _ from rfl), c43_8_e, yc1, setA, setB, za, zb, zc, zd, ze, zf, zg, zh, zi, zj, zk, zl, zm, zn, zo, zp, reduceCtorEq, zE, ↓reduceIte]
    all_goals rfl
  · simp -implicitDefEqProofs only [c43_9_e, c43_10_e, c43_11_r, (show opsOf c43_11 = _ :: _ from rfl), c43_12_e, c43_13_l, yc1, setA, setB, za, zb, zc, zd, ze, zf, zg, zh, zi, zj, zk, zl, zm, zn, zo, zp, reduceCtorEq, zE, ↓reduceIte]
    exact l43_13_t n base ([] : Bs)
noncomputable def c24_0 : Code := bodyOf Tryd.f24
def c24_1 := cA c24_0
def c24_2 := cB c24_0
def c24_3 := cA c24_2
def c24_4 := cB c24_2
theorem c24_0_e : c24_0 = .seq c24_1 c24_2 := rfl
theorem c24_1_r : RG (E0 mm) 24 c24_1 := rgN rfl
theorem c24_2_e : c24_2 = .seq c24_3 c24_4 := rfl
theorem c24_3_r : RG (E0 mm) 24 c24_3 := rgN rfl
theorem c24_4_e : c24_4 = .ret := rfl
abbrev R24 := (Bs × Int)
def e24 : R24 → AV × Heap := fun x => (.tup [.c (.d (.sc (.string (S x.1)))), .c (.d (.sc (.int .i64 x.2)))], [])
def m24 (n : Int) : Option R24 :=
  (m43 n (16 : Int)).bind fun yr2 =>
    some (yr2.1, yr2.2)
theorem f24_t (n : Int) :
    callW (E0 mm) 24 [.c (.d (.sc (.int .u64 n)))] [] = (m24 n).map e24 := by
  rw [callW_run (body := c24_0) (res := [.tmp 2, .tmp 3]) Tryd.func24 rfl rfl (by kernel_rfl)]
  simp -implicitDefEqProofs only [m24, slots1, c24_0_e, c24_1_r, (show opsOf c24_1 = _ :: _ from rfl), c24_2_e, c24_3_r, (show opsOf c24_3 = _ :: _ from rfl), ent43, prm43, f43_t, setA, setB, za, zb, zc, zd, ze, zf, zg, zh, zi, zj, zk, zl, zm, zn, zo, zp, reduceCtorEq, zE, ↓reduceIte]
  refine brM (fun yc1 => ?_) (fun yr2 yc1 => ?_)
  · rw [yc1]; rfl
  · simp -implicitDefEqProofs only [e43, c24_4_e, yc1, setA, setB, za, zb, zc, zd, ze, zf, zg, zh, zi, zj, zk, zl, zm, zn, zo, zp, reduceCtorEq, zE, ↓reduceIte]
    all_goals rfl
noncomputable def c13_0 : Code := bodyOf Tryd.f13
def c13_1 := cA c13_0
def c13_2 := cB c13_0
def c13_3 := cA c13_2
def c13_4 := cB c13_2
def c13_5 := cA c13_4
def c13_6 := cB c13_4
def c13_7 := cA c13_6
def c13_8 := cA c13_7
def c13_9 := cB c13_7
def c13_10 := cA c13_9
def c13_11 := cA c13_10
def c13_12 := cA c13_11
def c13_13 := cA c13_12
def c13_14 := cB c13_12
def c13_15 := cA c13_14
def c13_16 := cB c13_14
def c13_17 := cB c13_11
def c13_18 := cA c13_17
def c13_19 := cA c13_18
def c13_20 := cA c13_19
def c13_21 := cB c13_19
def c13_22 := cA c13_21
def c13_23 := cA c13_22
def c13_24 := cB c13_22
def c13_25 := cA c13_24
def c13_26 := cA c13_25
def c13_27 := cB c13_25
def c13_28 := cB c13_24
def c13_29 := cB c13_21
def c13_30 := cA c13_29
def c13_31 := cB c13_29
def c13_32 := cA c13_31
def c13_33 := cA c13_32
def c13_34 := cB c13_32
def c13_35 := cA c13_34
def c13_36 := cB c13_34
def c13_37 := cA c13_36
def c13_38 := cB c13_36
def c13_39 := cA c13_38
def c13_40 := cB c13_38
def c13_41 := cB c13_31
def c13_42 := cB c13_17
def c13_43 := cB c13_6
def c13_44 := cA c13_43
def c13_45 := cB c13_43
theorem c13_0_e : c13_0 = .seq c13_1 c13_2 := rfl
theorem c13_1_r : RG (E0 mm) 13 c13_1 := rgN rfl
theorem c13_2_e : c13_2 = .seq c13_3 c13_4 := rfl
theorem c13_3_r : RG (E0 mm) 13 c13_3 := rgN rfl
theorem c13_4_e : c13_4 = .seq c13_5 c13_6 := rfl
theorem c13_5_r : RG (E0 mm) 13 c13_5 := rgN rfl
theorem c13_6_e : c13_6 = .seq c13_7 c13_43 := rfl
theorem c13_7_e : c13_7 = .seq c13_8 c13_9 := rfl
theorem c13_8_r : RG (E0 mm) 13 c13_8 := rgN rfl
theorem c13_9_e : c13_9 = .block 0 c13_10 := rfl
theorem c13_10_l (m : Nat) (st : St) : den (E0 mm) 13 m (callW (E0 mm)) itW c13_10 none st = loopD itW (loopF (E0 mm) 13 m (callW (E0 mm)) itW c13_11 [(0, .keep), (4, .keep), (5, .own), (6, .keep)]) (canon m [(0, .keep), (4, .keep), (5, .own), (6, .keep)] st) := rfl
theorem c13_11_e : c13_11 = .seq c13_12 c13_17 := rfl
theorem c13_12_e : c13_12 = .seq c13_13 c13_14 := rfl
theorem c13_13_r : RG (E0 mm) 13 c13_13 := rgN rfl
theorem c13_15_e : c13_15 = .skip := rfl
theorem c13_16_e : c13_16 = .exit 0 := rfl
theorem c13_17_e : c13_17 = .seq c13_18 c13_42 := rfl
theorem c13_18_e : c13_18 = .block 1 c13_19 := rfl
theorem c13_19_e : c13_19 = .seq c13_20 c13_21 := rfl
theorem c13_20_r : RG (E0 mm) 13 c13_20 := rgN rfl
theorem c13_21_e : c13_21 = .seq c13_22 c13_29 := rfl
theorem c13_22_e : c13_22 = .seq c13_23 c13_24 := rfl
theorem c13_23_r : RG (E0 mm) 13 c13_23 := rgN rfl
theorem c13_25_e : c13_25 = .seq c13_26 c13_27 := rfl
theorem c13_26_r : RG (E0 mm) 13 c13_26 := rgN rfl
theorem c13_27_e : c13_27 = .ret := rfl
theorem c13_28_e : c13_28 = .skip := rfl
theorem c13_29_e : c13_29 = .seq c13_30 c13_31 := rfl
theorem c13_30_r : RG (E0 mm) 13 c13_30 := rgN rfl
theorem c13_32_e : c13_32 = .seq c13_33 c13_34 := rfl
theorem c13_33_r : RG (E0 mm) 13 c13_33 := rgN rfl
theorem c13_34_e : c13_34 = .seq c13_35 c13_36 := rfl
theorem c13_35_r : RG (E0 mm) 13 c13_35 := rgN rfl
theorem c13_36_e : c13_36 = .seq c13_37 c13_38 := rfl
theorem c13_37_r : RG (E0 mm) 13 c13_37 := rgN rfl
theorem c13_38_e : c13_38 = .seq c13_39 c13_40 := rfl
theorem c13_39_r : RG (E0 mm) 13 c13_39 := rgN rfl
theorem c13_40_r : RG (E0 mm) 13 c13_40 := rgN rfl
theorem c13_41_e : c13_41 = .skip := rfl
theorem c13_42_r : RG (E0 mm) 13 c13_42 := rgN rfl
theorem c13_43_e : c13_43 = .seq c13_44 c13_45 := rfl
theorem c13_44_r : RG (E0 mm) 13 c13_44 := rgN rfl
theorem c13_45_e : c13_45 = .ret := rfl
abbrev R13 := (Bool × List UInt8 × Int) ⊕ (Bool × List UInt8 × Int)
def e13 : R13 → AV × Heap := fun x => match x with
  | .inl x => (.tup [.c (.d (.lst x.1 (enL enB x.2.1))), .c (.d (.sc (.int .i64 x.2.2)))], [])
  | .inr x => (.tup [.c (.own x.1 (enL enB x.2.1) 0), .c (.d (.sc (.int .i64 x.2.2)))], [.row x.2.1.length (rz x.1 1)])
def K13_10 : Option (Ex × St) → Option (AV × Heap) := fun r => bodyD (E0 mm) [.tmp 2, .tmp 3] 0 false (seqD (E0 mm) 13 0 (callW (E0 mm)) itW c13_43 (blockD 0 (r)))
def en13_10 : (Bool × List (Bool × List UInt8) × Int × Bool × List UInt8 × Int) → X := fun x => (none, [.v (.c (.d (.lst x.1 (enL en0 x.2.1)))), .v (.c (.d (.sc (.int .i64 x.2.2.1)))), .v (.c (.own x.2.2.2.1 (enL enB x.2.2.2.2.1) 0)), .v (.c (.d (.sc (.int .i64 x.2.2.2.2.2))))], [.row x.2.2.2.2.1.length (rz x.2.2.2.1 1)])
def j13_42 (parts0_0 : Bool) (parts0_1 : List (Bool × List UInt8)) (total4 : Int) (out5_0 : Bool) (out5_1 : List UInt8) (i6 : Int) : Option ((Bool × List (Bool × List UInt8) × Int × Bool × List UInt8 × Int) ⊕ R13) :=
  some (.inl (parts0_0, parts0_1, total4, out5_0, out5_1, (w64 (i6 + 1))))
theorem j13_42_t (parts0_0 : Bool) (parts0_1 : List (Bool × List UInt8)) (total4 : Int) (out5_0 : Bool) (out5_1 : List UInt8) (i6 : Int)  (sl : Nat → AV) (zq0 : sl 0 = .v (.c (.d (.lst parts0_0 (enL en0 parts0_1))))) (zq4 : sl 4 = .v (.c (.d (.sc (.int .i64 total4))))) (zq5 : sl 5 = .v (.c (.own out5_0 (enL enB out5_1) 0))) (zq6 : sl 6 = .v (.c (.d (.sc (.int .i64 i6))))) :
    stepE (K13_10 (mm := mm)) (loopK 0 [(0, .keep), (4, .keep), (5, .own), (6, .keep)] (den (E0 mm) 13 0 (callW (E0 mm)) itW c13_42 none ⟨sl, [.row out5_1.length (rz out5_0 1)]⟩)) = (j13_42 parts0_0 parts0_1 total4 out5_0 out5_1 i6).map (sm en13_10 e13) := by
  simp -implicitDefEqProofs only [j13_42, c13_42_r, (show opsOf c13_42 = _ :: _ from rfl), zq0, zq4, zq5, zq6, setA, setB, za, zb, zc, zd, ze, zf, zg, zh, zi, zj, zk, zl, zm, zn, zo, zp, reduceCtorEq, zE, ↓reduceIte]
  all_goals rfl
def j13_43 (out5_0 : Bool) (out5_1 : List UInt8) : Option R13 :=
  if (out5_1.length + 5) * 1 ≤ 140737488355328 then
    some (.inr (false, (out5_1 ++ ([(48 : UInt8), (13 : UInt8), (10 : UInt8), (13 : UInt8), (10 : UInt8)] : List UInt8)), (0 : Int)))
  else none
theorem j13_43_t (out5_0 : Bool) (out5_1 : List UInt8)  (sl : Nat → AV) (zq5 : sl 5 = .v (.c (.own out5_0 (enL enB out5_1) 0))) :
    bodyD (E0 mm) [.tmp 2, .tmp 3] 0 false (den (E0 mm) 13 0 (callW (E0 mm)) itW c13_43 none ⟨sl, [.row out5_1.length (rz out5_0 1)]⟩) = (j13_43 out5_0 out5_1).map e13 := by
  simp -implicitDefEqProofs only [j13_43, c13_43_e, c13_44_r, (show opsOf c13_44 = _ :: _ from rfl), Tryd.underlying22, sz5, zc5, hd24, nv25, rw26, ns27, ap22, zq5, setA, setB, za, zb, zc, zd, ze, zf, zg, zh, zi, zj, zk, zl, zm, zn, zo, zp, reduceCtorEq, zE, ↓reduceIte]
  refine brP (fun yc12 => ?_) (fun yc12 => ?_)
  · simp -implicitDefEqProofs only [c13_45_e, zq5, yc12, setA, setB, za, zb, zc, zd, ze, zf, zg, zh, zi, zj, zk, zl, zm, zn, zo, zp, reduceCtorEq, zE, ↓reduceIte]
    all_goals rfl
  · rw [if_neg yc12]; rfl
def s13_10 (parts0_0 : Bool) (parts0_1 : List (Bool × List UInt8)) (total4 : Int) (out5_0 : Bool) (out5_1 : List UInt8) (i6 : Int) : Option ((Bool × List (Bool × List UInt8) × Int × Bool × List UInt8 × Int) ⊕ R13) :=
  if (decide (i6 < (parts0_1.length : Int))) = true then
    if 0 ≤ i6 ∧ i6 < (parts0_1.length : Int) then
      if (decide (4096 < (w64 (total4 + (((parts0_1.getD i6.toNat default).2).length : Int))))) = true then
        some (.inr (.inl (true, ([] : List UInt8), (21 : Int))))
      else
        if (decide (0 < (((parts0_1.getD i6.toNat default).2).length : Int))) = true then
          (m24 (wu64 (((parts0_1.getD i6.toNat default).2).length : Int))).bind fun yr7 =>
            if yr7.1 = [] ∨ (out5_1.length + yr7.1.length) * 1 ≤ 140737488355328 then
              if ((out5_1 ++ yr7.1).length + 2) * 1 ≤ 140737488355328 then
                if (parts0_1.getD i6.toNat default).2 = [] ∨ (((out5_1 ++ yr7.1) ++ ([(13 : UInt8), (10 : UInt8)] : List UInt8)).length + ((parts0_1.getD i6.toNat default).2).length) * 1 ≤ 140737488355328 then
                  if ((((out5_1 ++ yr7.1) ++ ([(13 : UInt8), (10 : UInt8)] : List UInt8)) ++ (parts0_1.getD i6.toNat default).2).length + 2) * 1 ≤ 140737488355328 then
                    j13_42 parts0_0 parts0_1 (w64 (total4 + (((parts0_1.getD i6.toNat default).2).length : Int))) false ((((out5_1 ++ yr7.1) ++ ([(13 : UInt8), (10 : UInt8)] : List UInt8)) ++ (parts0_1.getD i6.toNat default).2) ++ ([(13 : UInt8), (10 : UInt8)] : List UInt8)) i6
                  else none
                else none
              else none
            else none
        else
          j13_42 parts0_0 parts0_1 (w64 (total4 + (((parts0_1.getD i6.toNat default).2).length : Int))) out5_0 out5_1 i6
    else none
  else
    (j13_43 out5_0 out5_1).map .inr
theorem s13_10_t (parts0_0 : Bool) (parts0_1 : List (Bool × List UInt8)) (total4 : Int) (out5_0 : Bool) (out5_1 : List UInt8) (i6 : Int) :
    stepE (K13_10 (mm := mm)) (loopF (E0 mm) 13 0 (callW (E0 mm)) itW c13_11 [(0, .keep), (4, .keep), (5, .own), (6, .keep)] (none, [.v (.c (.d (.lst parts0_0 (enL en0 parts0_1)))), .v (.c (.d (.sc (.int .i64 total4)))), .v (.c (.own out5_0 (enL enB out5_1) 0)), .v (.c (.d (.sc (.int .i64 i6))))], [.row out5_1.length (rz out5_0 1)])) = (s13_10 parts0_0 parts0_1 total4 out5_0 out5_1 i6).map (sm en13_10 e13) := by
  simp -implicitDefEqProofs only [s13_10, loopF_eq, c13_11_e, c13_12_e, c13_13_r, (show opsOf c13_13 = _ :: _ from rfl), Tryd.underlying31, (show c13_14 = Code.cond _ c13_15 c13_16 from rfl), setA, setB, za, zb, zc, zd, ze, zf, zg, zh, zi, zj, zk, zl, zm, zn, zo, zp, reduceCtorEq, zE, ↓reduceIte]
  refine brB (fun yc1 => ?_) (fun yc1 => ?_)
  · simp -implicitDefEqProofs only [c13_15_e, c13_17_e, c13_18_e, c13_19_e, c13_20_r, (show opsOf c13_20 = _ :: _ from rfl), Tryd.underlying31, sz22, en0_a, yc1, setA, setB, za, zb, zc, zd, ze, zf, zg, zh, zi, zj, zk, zl, zm, zn, zo, zp, reduceCtorEq, zE, ↓reduceIte]
    refine brP (fun yc2 => ?_) (fun yc2 => ?_)
    · have yd3 : i6.toNat < parts0_1.length := by omega
      simp -implicitDefEqProofs only [(enL_get en0 parts0_1 i6.toNat yd3), en0_e, sz22, ag22, Tryd.underlying22, c13_21_e, c13_22_e, c13_23_r, (show opsOf c13_23 = _ :: _ from rfl), (show c13_24 = Code.cond _ c13_25 c13_28 from rfl), yc1, yc2, yd3, setA, setB, za, zb, zc, zd, ze, zf, zg, zh, zi, zj, zk, zl, zm, zn, zo, zp, reduceCtorEq, zE, ↓reduceIte]
      refine brB (fun yc4 => ?_) (fun yc4 => ?_)
      · simp -implicitDefEqProofs only [c13_25_e, c13_26_r, (show opsOf c13_26 = _ :: _ from rfl), c13_27_e, K13_10, yc1, yc2, yd3, yc4, setA, setB, za, zb, zc, zd, ze, zf, zg, zh, zi, zj, zk, zl, zm, zn, zo, zp, reduceCtorEq, zE, ↓reduceIte]
        all_goals rfl
      · simp -implicitDefEqProofs only [c13_28_e, c13_29_e, c13_30_r, (show opsOf c13_30 = _ :: _ from rfl), Tryd.underlying31, sz22, en0_a, (enL_get en0 parts0_1 i6.toNat yd3), en0_e, ag22, Tryd.underlying22, (show c13_31 = Code.cond _ c13_32 c13_41 from rfl), yc1, yc2, yd3, yc4, setA, setB, za, zb, zc, zd, ze, zf, zg, zh, zi, zj, zk, zl, zm, zn, zo, zp, reduceCtorEq, zE, ↓reduceIte]
        refine brB (fun yc5 => ?_) (fun yc5 => ?_)
        · simp -implicitDefEqProofs only [c13_32_e, c13_33_r, (show opsOf c13_33 = _ :: _ from rfl), Tryd.underlying31, sz22, en0_a, (enL_get en0 parts0_1 i6.toNat yd3), en0_e, ag22, Tryd.underlying22, Tryd.underlying3, Tryd.underlying43, ent24, prm24, f24_t, yc1, yc2, yd3, yc4, yc5, setA, setB, za, zb, zc, zd, ze, zf, zg, zh, zi, zj, zk, zl, zm, zn, zo, zp, reduceCtorEq, zE, ↓reduceIte]
          refine brM (fun yc6 => ?_) (fun yr7 yc6 => ?_)
          · rw [yc6]; rfl
          · simp -implicitDefEqProofs only [e24, c13_34_e, c13_35_r, (show opsOf c13_35 = _ :: _ from rfl), Tryd.underlying22, Tryd.underlying9, hd15, ap22, yc1, yc2, yd3, yc4, yc5, yc6, setA, setB, za, zb, zc, zd, ze, zf, zg, zh, zi, zj, zk, zl, zm, zn, zo, zp, reduceCtorEq, zE, ↓reduceIte]
            refine brP (fun yc8 => ?_) (fun yc8 => ?_)
            · simp -implicitDefEqProofs only [c13_36_e, c13_37_r, (show opsOf c13_37 = _ :: _ from rfl), Tryd.underlying22, sz5, zc5, hd16, nv17, rw18, ns19, ap22, yc1, yc2, yd3, yc4, yc5, yc6, yc8, setA, setB, za, zb, zc, zd, ze, zf, zg, zh, zi, zj, zk, zl, zm, zn, zo, zp, reduceCtorEq, zE, ↓reduceIte]
              refine brP (fun yc9 => ?_) (fun yc9 => ?_)
              · simp -implicitDefEqProofs only [c13_38_e, c13_39_r, (show opsOf c13_39 = _ :: _ from rfl), Tryd.underlying31, sz22, en0_a, (enL_get en0 parts0_1 i6.toNat yd3), en0_e, ag22, Tryd.underlying22, hd20, ap22, yc1, yc2, yd3, yc4, yc5, yc6, yc8, yc9, setA, setB, za, zb, zc, zd, ze, zf, zg, zh, zi, zj, zk, zl, zm, zn, zo, zp, reduceCtorEq, zE, ↓reduceIte]
                refine brP (fun yc10 => ?_) (fun yc10 => ?_)
                · simp -implicitDefEqProofs only [c13_40_r, (show opsOf c13_40 = _ :: _ from rfl), Tryd.underlying22, sz5, zc5, hd21, nv22, rw23, ns19, ap22, yc1, yc2, yd3, yc4, yc5, yc6, yc8, yc9, yc10, setA, setB, za, zb, zc, zd, ze, zf, zg, zh, zi, zj, zk, zl, zm, zn, zo, zp, reduceCtorEq, zE, ↓reduceIte]
                  refine brP (fun yc11 => ?_) (fun yc11 => ?_)
                  · simp -implicitDefEqProofs only [yc1, yc2, yd3, yc4, yc5, yc6, yc8, yc9, yc10, yc11, setA, setB, za, zb, zc, zd, ze, zf, zg, zh, zi, zj, zk, zl, zm, zn, zo, zp, reduceCtorEq, zE, ↓reduceIte]
                    exact j13_42_t parts0_0 parts0_1 (w64 (total4 + (((parts0_1.getD i6.toNat default).2).length : Int))) false ((((out5_1 ++ yr7.1) ++ ([(13 : UInt8), (10 : UInt8)] : List UInt8)) ++ (parts0_1.getD i6.toNat default).2) ++ ([(13 : UInt8), (10 : UInt8)] : List UInt8)) i6 _ (by rfl) (by rfl) (by rfl) (by rfl)
                  · rw [if_neg yc11]; rfl
                · rw [if_neg yc10]; rfl
              · rw [if_neg yc9]; rfl
            · rw [if_neg yc8]; rfl
        · simp -implicitDefEqProofs only [c13_41_e, yc1, yc2, yd3, yc4, yc5, setA, setB, za, zb, zc, zd, ze, zf, zg, zh, zi, zj, zk, zl, zm, zn, zo, zp, reduceCtorEq, zE, ↓reduceIte]
          exact j13_42_t parts0_0 parts0_1 (w64 (total4 + (((parts0_1.getD i6.toNat default).2).length : Int))) out5_0 out5_1 i6 _ (by rfl) (by rfl) (by rfl) (by rfl)
    · rw [if_neg yc2]; rfl
  · simp -implicitDefEqProofs only [c13_16_e, K13_10, yc1, setA, setB, za, zb, zc, zd, ze, zf, zg, zh, zi, zj, zk, zl, zm, zn, zo, zp, reduceCtorEq, zE, ↓reduceIte]
    exact mi (j13_43_t out5_0 out5_1 _ (by rfl))
def l13_10 (parts0_0 : Bool) (parts0_1 : List (Bool × List UInt8)) (total4 : Int) (out5_0 : Bool) (out5_1 : List UInt8) (i6 : Int) : Option R13 := iter (fun x : (Bool × List (Bool × List UInt8) × Int × Bool × List UInt8 × Int) => s13_10 x.1 x.2.1 x.2.2.1 x.2.2.2.1 x.2.2.2.2.1 x.2.2.2.2.2) (parts0_0, parts0_1, total4, out5_0, out5_1, i6)
theorem l13_10_t (parts0_0 : Bool) (parts0_1 : List (Bool × List UInt8)) (total4 : Int) (out5_0 : Bool) (out5_1 : List UInt8) (i6 : Int) : bodyD (E0 mm) [.tmp 2, .tmp 3] 0 false (seqD (E0 mm) 13 0 (callW (E0 mm)) itW c13_43 (blockD 0 (itW (loopF (E0 mm) 13 0 (callW (E0 mm)) itW c13_11 [(0, .keep), (4, .keep), (5, .own), (6, .keep)]) (none, [.v (.c (.d (.lst parts0_0 (enL en0 parts0_1)))), .v (.c (.d (.sc (.int .i64 total4)))), .v (.c (.own out5_0 (enL enB out5_1) 0)), .v (.c (.d (.sc (.int .i64 i6))))], [.row out5_1.length (rz out5_0 1)])))) = (l13_10 parts0_0 parts0_1 total4 out5_0 out5_1 i6).map e13 :=
  it_sim (K := (K13_10 (mm := mm))) rfl (enc := en13_10) (fun x => s13_10_t x.1 x.2.1 x.2.2.1 x.2.2.2.1 x.2.2.2.2.1 x.2.2.2.2.2) (parts0_0, parts0_1, total4, out5_0, out5_1, i6)
def m13 (parts_0 : Bool) (parts_1 : List (Bool × List UInt8)) : Option R13 :=
  l13_10 parts_0 parts_1 (0 : Int) true ([] : List UInt8) (0 : Int)
theorem f13_t (parts_0 : Bool) (parts_1 : List (Bool × List UInt8)) :
    callW (E0 mm) 13 [.c (.d (.lst parts_0 (enL en0 parts_1)))] [] = (m13 parts_0 parts_1).map e13 := by
  rw [callW_run (body := c13_0) (res := [.tmp 2, .tmp 3]) Tryd.func13 rfl rfl (by kernel_rfl)]
  simp -implicitDefEqProofs only [m13, slots1, c13_0_e, c13_1_r, (show opsOf c13_1 = _ :: _ from rfl), c13_2_e, c13_3_r, (show opsOf c13_3 = _ :: _ from rfl), c13_4_e, c13_5_r, (show opsOf c13_5 = _ :: _ from rfl), c13_6_e, c13_7_e, c13_8_r, (show opsOf c13_8 = _ :: _ from rfl), c13_9_e, c13_10_l, setA, setB, za, zb, zc, zd, ze, zf, zg, zh, zi, zj, zk, zl, zm, zn, zo, zp, reduceCtorEq, zE, ↓reduceIte]
  exact l13_10_t parts_0 parts_1 (0 : Int) true ([] : List UInt8) (0 : Int)
noncomputable def c10_0 : Code := bodyOf Tryd.f10
def c10_1 := cA c10_0
def c10_2 := cB c10_0
def c10_3 := cA c10_2
def c10_4 := cB c10_2
theorem c10_0_e : c10_0 = .seq c10_1 c10_2 := rfl
theorem c10_1_r : RG (E0 mm) 10 c10_1 := rgN rfl
theorem c10_2_e : c10_2 = .seq c10_3 c10_4 := rfl
theorem c10_3_r : RG (E0 mm) 10 c10_3 := rgN rfl
theorem c10_4_e : c10_4 = .ret := rfl
abbrev R10 := (Bool)
def e10 : R10 → AV × Heap := fun x => (.v (.c (.d (.sc (.bool x)))), [])
def m10 (a_0 : Bool) (a_1 : List UInt8) (b_0 : Bool) (b_1 : List UInt8) : Option R10 :=
  some (a_1 == b_1)
theorem f10_t (a_0 : Bool) (a_1 : List UInt8) (b_0 : Bool) (b_1 : List UInt8) :
    callW (E0 mm) 10 [.c (.d (.lst a_0 (enL enB a_1))), .c (.d (.lst b_0 (enL enB b_1)))] [] = (m10 a_0 a_1 b_0 b_1).map e10 := by
  rw [callW_run (body := c10_0) (res := [.tmp 4]) Tryd.func10 rfl rfl (by kernel_rfl)]
  simp -implicitDefEqProofs only [m10, slots2, c10_0_e, c10_1_r, (show opsOf c10_1 = _ :: _ from rfl), c10_2_e, c10_3_r, (show opsOf c10_3 = _ :: _ from rfl), Tryd.underlying22, Tryd.underlying9, Tryd.underlying5, c10_4_e, setA, setB, za, zb, zc, zd, ze, zf, zg, zh, zi, zj, zk, zl, zm, zn, zo, zp, reduceCtorEq, zE, ↓reduceIte]
  all_goals rfl
abbrev R10a := (Bool × List UInt8)
def e10a : R10a → AV × Heap := fun x => (.v (.c (.d (.sc (.bool x.1)))), [.cells (enC x.2)])
def m10a (a_1 : Nat) (b_0 : Bool) (b_1 h0 : List UInt8) : Option R10a :=
  if a_1 ≤ h0.length then
    some (((h0.take a_1) == b_1), h0)
  else none
theorem f10a_t (a_1 : Nat) (b_0 : Bool) (b_1 h0 : List UInt8) :
    callW (E0 mm) 10 [.c (.slc 0 0 1 a_1 none), .c (.d (.lst b_0 (enL enB b_1)))] [.cells (enC h0)] = (m10a a_1 b_0 b_1 h0).map e10a := by
  rw [callW_run (body := c10_0) (res := [.tmp 4]) Tryd.func10 rfl rfl (by kernel_rfl)]
  simp -implicitDefEqProofs only [m10a, slots2, c10_0_e, c10_1_r, (show opsOf c10_1 = _ :: _ from rfl), c10_2_e, c10_3_r, (show opsOf c10_3 = _ :: _ from rfl), Tryd.underlying22, Tryd.underlying9, Tryd.underlying5, enC_length, enC_take, mapM_enC, setA, setB, za, zb, zc, zd, ze, zf, zg, zh, zi, zj, zk, zl, zm, zn, zo, zp, reduceCtorEq, zE, ↓reduceIte]
  refine brP (fun yc1 => ?_) (fun yc1 => ?_)
  · simp -implicitDefEqProofs only [enC_length, enC_take, mapM_enC, (chunk_enD a_1 h0 yc1), Tryd.underlying22, Tryd.underlying9, Tryd.underlying5, c10_4_e, yc1, setA, setB, za, zb, zc, zd, ze, zf, zg, zh, zi, zj, zk, zl, zm, zn, zo, zp, reduceCtorEq, zE, ↓reduceIte]
    all_goals rfl
  · rw [if_neg yc1]; rfl
noncomputable def c4_0 : Code := bodyOf Tryd.f4
def c4_1 := cA c4_0
def c4_2 := cB c4_0
def c4_3 := cA c4_2
def c4_4 := cB c4_2
def c4_5 := cA c4_4
def c4_6 := cA c4_5
def c4_7 := cB c4_5
def c4_8 := cA c4_7
def c4_9 := cA c4_8
def c4_10 := cA c4_9
def c4_11 := cB c4_9
def c4_12 := cA c4_11
def c4_13 := cA c4_12
def c4_14 := cB c4_12
def c4_15 := cB c4_11
def c4_16 := cA c4_15
def c4_17 := cA c4_16
def c4_18 := cA c4_17
def c4_19 := cB c4_17
def c4_20 := cB c4_15
def c4_21 := cB c4_4
def c4_22 := cA c4_21
def c4_23 := cB c4_21
def c4_24 := cA c4_23
def c4_25 := cB c4_23
def c4_26 := cA c4_25
def c4_27 := cA c4_26
def c4_28 := cB c4_26
def c4_29 := cA c4_28
def c4_30 := cA c4_29
def c4_31 := cB c4_29
def c4_32 := cB c4_28
def c4_33 := cB c4_25
def c4_34 := cA c4_33
def c4_35 := cA c4_34
def c4_36 := cB c4_34
def c4_37 := cA c4_36
def c4_38 := cA c4_37
def c4_39 := cA c4_38
def c4_40 := cB c4_38
def c4_41 := cA c4_40
def c4_42 := cA c4_41
def c4_43 := cB c4_41
def c4_44 := cB c4_40
def c4_45 := cA c4_44
def c4_46 := cA c4_45
def c4_47 := cA c4_46
def c4_48 := cB c4_46
def c4_49 := cB c4_44
def c4_50 := cB c4_33
def c4_51 := cA c4_50
def c4_52 := cA c4_51
def c4_53 := cB c4_51
def c4_54 := cA c4_53
def c4_55 := cA c4_54
def c4_56 := cA c4_55
def c4_57 := cB c4_55
def c4_58 := cA c4_57
def c4_59 := cA c4_58
def c4_60 := cB c4_58
def c4_61 := cB c4_57
def c4_62 := cA c4_61
def c4_63 := cA c4_62
def c4_64 := cA c4_63
def c4_65 := cB c4_63
def c4_66 := cA c4_65
def c4_67 := cB c4_65
def c4_68 := cA c4_67
def c4_69 := cA c4_68
def c4_70 := cB c4_68
def c4_71 := cB c4_67
def c4_72 := cB c4_61
def c4_73 := cB c4_50
def c4_74 := cA c4_73
def c4_75 := cB c4_73
theorem c4_0_e : c4_0 = .seq c4_1 c4_2 := rfl
theorem c4_1_r : RG (E0 mm) 4 c4_1 := rgN rfl
theorem c4_2_e : c4_2 = .seq c4_3 c4_4 := rfl
theorem c4_3_r : RG (E0 mm) 4 c4_3 := rgN rfl
theorem c4_4_e : c4_4 = .seq c4_5 c4_21 := rfl
theorem c4_5_e : c4_5 = .seq c4_6 c4_7 := rfl
theorem c4_6_r : RG (E0 mm) 4 c4_6 := rgN rfl
theorem c4_7_e : c4_7 = .block 0 c4_8 := rfl
theorem c4_8_l (m : Nat) (st : St) : den (E0 mm) 4 m (callW (E0 mm)) itW c4_8 none st = loopD itW (loopF (E0 mm) 4 m (callW (E0 mm)) itW c4_9 [(0, .keep), (3, .own), (12, .keep), (13, .keep), (14, .keep)]) (canon m [(0, .keep), (3, .own), (12, .keep), (13, .keep), (14, .keep)] st) := rfl
theorem c4_9_e : c4_9 = .seq c4_10 c4_11 := rfl
theorem c4_10_r : RG (E0 mm) 4 c4_10 := rgN rfl
theorem c4_11_e : c4_11 = .seq c4_12 c4_15 := rfl
theorem c4_13_e : c4_13 = .skip := rfl
theorem c4_14_e : c4_14 = .exit 0 := rfl
theorem c4_15_e : c4_15 = .seq c4_16 c4_20 := rfl
theorem c4_16_e : c4_16 = .block 1 c4_17 := rfl
theorem c4_17_e : c4_17 = .seq c4_18 c4_19 := rfl
theorem c4_18_r : RG (E0 mm) 4 c4_18 := rgN rfl
theorem c4_19_r : RG (E0 mm) 4 c4_19 := rgN rfl
theorem c4_20_r : RG (E0 mm) 4 c4_20 := rgN rfl
theorem c4_21_e : c4_21 = .seq c4_22 c4_23 := rfl
theorem c4_22_r : RG (E0 mm) 4 c4_22 := rgN rfl
theorem c4_23_e : c4_23 = .seq c4_24 c4_25 := rfl
theorem c4_24_r : RG (E0 mm) 4 c4_24 := rgN rfl
theorem c4_25_e : c4_25 = .seq c4_26 c4_33 := rfl
theorem c4_26_e : c4_26 = .seq c4_27 c4_28 := rfl
theorem c4_27_r : RG (E0 mm) 4 c4_27 := rgN rfl
theorem c4_29_e : c4_29 = .seq c4_30 c4_31 := rfl
theorem c4_30_r : RG (E0 mm) 4 c4_30 := rgN rfl
theorem c4_31_e : c4_31 = .ret := rfl
theorem c4_32_e : c4_32 = .skip := rfl
theorem c4_33_e : c4_33 = .seq c4_34 c4_50 := rfl
theorem c4_34_e : c4_34 = .seq c4_35 c4_36 := rfl
theorem c4_35_r : RG (E0 mm) 4 c4_35 := rgN rfl
theorem c4_36_e : c4_36 = .block 2 c4_37 := rfl
theorem c4_37_l (m : Nat) (st : St) : den (E0 mm) 4 m (callW (E0 mm)) itW c4_37 none st = loopD itW (loopF (E0 mm) 4 m (callW (E0 mm)) itW c4_38 [(0, .keep), (3, .keep), (6, .keep), (45, .keep), (46, .keep)]) (canon m [(0, .keep), (3, .keep), (6, .keep), (45, .keep), (46, .keep)] st) := rfl
theorem c4_38_e : c4_38 = .seq c4_39 c4_40 := rfl
theorem c4_39_r : RG (E0 mm) 4 c4_39 := rgN rfl
theorem c4_40_e : c4_40 = .seq c4_41 c4_44 := rfl
theorem c4_42_e : c4_42 = .skip := rfl
theorem c4_43_e : c4_43 = .exit 2 := rfl
theorem c4_44_e : c4_44 = .seq c4_45 c4_49 := rfl
theorem c4_45_e : c4_45 = .block 3 c4_46 := rfl
theorem c4_46_e : c4_46 = .seq c4_47 c4_48 := rfl
theorem c4_47_r : RG (E0 mm) 4 c4_47 := rgN rfl
theorem c4_48_r : RG (E0 mm) 4 c4_48 := rgN rfl
theorem c4_49_r : RG (E0 mm) 4 c4_49 := rgN rfl
theorem c4_50_e : c4_50 = .seq c4_51 c4_73 := rfl
theorem c4_51_e : c4_51 = .seq c4_52 c4_53 := rfl
theorem c4_52_r : RG (E0 mm) 4 c4_52 := rgN rfl
theorem c4_53_e : c4_53 = .block 4 c4_54 := rfl
theorem c4_54_l (m : Nat) (st : St) : den (E0 mm) 4 m (callW (E0 mm)) itW c4_54 none st = loopD itW (loopF (E0 mm) 4 m (callW (E0 mm)) itW c4_55 [(0, .keep), (3, .keep), (57, .keep), (58, .keep)]) (canon m [(0, .keep), (3, .keep), (57, .keep), (58, .keep)] st) := rfl
theorem c4_55_e : c4_55 = .seq c4_56 c4_57 := rfl
theorem c4_56_r : RG (E0 mm) 4 c4_56 := rgN rfl
theorem c4_57_e : c4_57 = .seq c4_58 c4_61 := rfl
theorem c4_59_e : c4_59 = .skip := rfl
theorem c4_60_e : c4_60 = .exit 4 := rfl
theorem c4_61_e : c4_61 = .seq c4_62 c4_72 := rfl
theorem c4_62_e : c4_62 = .block 5 c4_63 := rfl
theorem c4_63_e : c4_63 = .seq c4_64 c4_65 := rfl
theorem c4_64_r : RG (E0 mm) 4 c4_64 := rgN rfl
theorem c4_65_e : c4_65 = .seq c4_66 c4_67 := rfl
theorem c4_66_r : RG (E0 mm) 4 c4_66 := rgD (by kernel_rfl)
theorem c4_68_e : c4_68 = .seq c4_69 c4_70 := rfl
theorem c4_69_r : RG (E0 mm) 4 c4_69 := rgN rfl
theorem c4_70_e : c4_70 = .ret := rfl
theorem c4_71_e : c4_71 = .skip := rfl
theorem c4_72_r : RG (E0 mm) 4 c4_72 := rgN rfl
theorem c4_73_e : c4_73 = .seq c4_74 c4_75 := rfl
theorem c4_74_r : RG (E0 mm) 4 c4_74 := rgN rfl
theorem c4_75_e : c4_75 = .ret := rfl
abbrev R4 := (Bool)
def e4 : R4 → AV × Heap := fun x => (.v (.c (.d (.sc (.bool x)))), [])
def K4_8 : Option (Ex × St) → Option (AV × Heap) := fun r => bodyD (E0 mm) [.tmp 2] 0 false (seqD (E0 mm) 4 0 (callW (E0 mm)) itW c4_21 (blockD 0 (r)))
def en4_8 : (Bool × List (Bool × List UInt8) × Bool × List (Bool × List UInt8) × Bool × List (Bool × List UInt8) × Int × Int) → X := fun x => (none, [.v (.c (.d (.lst x.1 (enL en0 x.2.1)))), .v (.c (.own x.2.2.1 (enL en0 x.2.2.2.1) 0)), .v (.c (.d (.lst x.2.2.2.2.1 (enL en0 x.2.2.2.2.2.1)))), .v (.c (.d (.sc (.int .i64 x.2.2.2.2.2.2.1)))), .v (.c (.d (.sc (.int .i64 x.2.2.2.2.2.2.2))))], [.row x.2.2.2.1.length (rz x.2.2.1 1)])
def K4_37 : Option (Ex × St) → Option (AV × Heap) := fun r => bodyD (E0 mm) [.tmp 2] 0 false (seqD (E0 mm) 4 0 (callW (E0 mm)) itW c4_50 (blockD 2 (r)))
def en4_37 : (Bool × List (Bool × List UInt8) × Bool × List (Bool × List UInt8) × Int × Int) → X := fun x => (none, [.v (.c (.d (.lst x.1 (enL en0 x.2.1)))), .v (.c (.own x.2.2.1 (enL en0 x.2.2.2.1) 0)), .v (.c (.d (.lst true []))), .v (.c (.d (.sc (.int .i64 x.2.2.2.2.1)))), .v (.c (.d (.sc (.int .i64 x.2.2.2.2.2))))], [.row x.2.2.2.1.length (rz x.2.2.1 1)])
def j4_44 (parts0_0 : Bool) (parts0_1 : List (Bool × List UInt8)) (own3_0 : Bool) (own3_1 : List (Bool × List UInt8)) (t45 t46 : Int) : Option ((Bool × List (Bool × List UInt8) × Bool × List (Bool × List UInt8) × Int × Int) ⊕ R4) :=
  none
theorem j4_44_t (parts0_0 : Bool) (parts0_1 : List (Bool × List UInt8)) (own3_0 : Bool) (own3_1 : List (Bool × List UInt8)) (t45 t46 : Int)  (sl : Nat → AV) (zq0 : sl 0 = .v (.c (.d (.lst parts0_0 (enL en0 parts0_1))))) (zq3 : sl 3 = .v (.c (.own own3_0 (enL en0 own3_1) 0))) (zq6 : sl 6 = .v (.c (.d (.lst true [])))) (zq45 : sl 45 = .v (.c (.d (.sc (.int .i64 t45))))) (zq46 : sl 46 = .v (.c (.d (.sc (.int .i64 t46))))) :
    stepE (K4_37 (mm := mm)) (loopK 0 [(0, .keep), (3, .keep), (6, .keep), (45, .keep), (46, .keep)] (den (E0 mm) 4 0 (callW (E0 mm)) itW c4_44 none ⟨sl, [.row own3_1.length (rz own3_0 1)]⟩)) = (j4_44 parts0_0 parts0_1 own3_0 own3_1 t45 t46).map (sm en4_37 e4) := by
  simp -implicitDefEqProofs only [j4_44, c4_44_e, c4_45_e, c4_46_e, c4_47_r, (show opsOf c4_47 = _ :: _ from rfl), c4_48_r, (show opsOf c4_48 = _ :: _ from rfl), Tryd.underlying22, sz5, List.length_nil, zq0, zq3, zq6, zq45, zq46, setA, setB, za, zb, zc, zd, ze, zf, zg, zh, zi, zj, zk, zl, zm, zn, zo, zp, reduceCtorEq, zE, ↓reduceIte]
  first | rfl | (rw [if_neg (by omega)]; rfl)
def K4_54 : Option (Ex × St) → Option (AV × Heap) := fun r => bodyD (E0 mm) [.tmp 2] 0 false (seqD (E0 mm) 4 0 (callW (E0 mm)) itW c4_73 (blockD 4 (r)))
def en4_54 : (Bool × List (Bool × List UInt8) × Bool × List (Bool × List UInt8) × Int × Int) → X := fun x => (none, [.v (.c (.d (.lst x.1 (enL en0 x.2.1)))), .v (.c (.own x.2.2.1 (enL en0 x.2.2.2.1) 0)), .v (.c (.d (.sc (.int .i64 x.2.2.2.2.1)))), .v (.c (.d (.sc (.int .i64 x.2.2.2.2.2))))], [.row x.2.2.2.1.length (rz x.2.2.1 1)])
def j4_73  : Option R4 :=
  some true
theorem j4_73_t  (g0 : Ob) (sl : Nat → AV)  :
    bodyD (E0 mm) [.tmp 2] 0 false (den (E0 mm) 4 0 (callW (E0 mm)) itW c4_73 none ⟨sl, [g0]⟩) = (j4_73).map e4 := by
  simp -implicitDefEqProofs only [j4_73, c4_73_e, c4_74_r, (show opsOf c4_74 = _ :: _ from rfl), ent11, prm11, f11_t, c4_75_e, setA, setB, za, zb, zc, zd, ze, zf, zg, zh, zi, zj, zk, zl, zm, zn, zo, zp, reduceCtorEq, zE, ↓reduceIte]
  all_goals rfl
def s4_54 (parts0_0 : Bool) (parts0_1 : List (Bool × List UInt8)) (own3_0 : Bool) (own3_1 : List (Bool × List UInt8)) (t57 t58 : Int) : Option ((Bool × List (Bool × List UInt8) × Bool × List (Bool × List UInt8) × Int × Int) ⊕ R4) :=
  if (decide (t58 < t57)) = true then
    if 0 ≤ t58 ∧ t58 < (own3_1.length : Int) then
      if 0 ≤ t58 ∧ t58 < (parts0_1.length : Int) then
        (m10 ((own3_1.getD t58.toNat default).1) ((own3_1.getD t58.toNat default).2) ((parts0_1.getD t58.toNat default).1) ((parts0_1.getD t58.toNat default).2)).bind fun yr25 =>
          if yr25 = true then
            some (.inl (parts0_0, parts0_1, own3_0, own3_1, t57, (w64 (t58 + 1))))
          else
            some (.inr false)
      else none
    else none
  else
    (j4_73).map .inr
theorem s4_54_t (parts0_0 : Bool) (parts0_1 : List (Bool × List UInt8)) (own3_0 : Bool) (own3_1 : List (Bool × List UInt8)) (t57 t58 : Int) :
    stepE (K4_54 (mm := mm)) (loopF (E0 mm) 4 0 (callW (E0 mm)) itW c4_55 [(0, .keep), (3, .keep), (57, .keep), (58, .keep)] (none, [.v (.c (.d (.lst parts0_0 (enL en0 parts0_1)))), .v (.c (.own own3_0 (enL en0 own3_1) 0)), .v (.c (.d (.sc (.int .i64 t57)))), .v (.c (.d (.sc (.int .i64 t58))))], [.row own3_1.length (rz own3_0 1)])) = (s4_54 parts0_0 parts0_1 own3_0 own3_1 t57 t58).map (sm en4_54 e4) := by
  simp -implicitDefEqProofs only [s4_54, loopF_eq, c4_55_e, c4_56_r, (show opsOf c4_56 = _ :: _ from rfl), c4_57_e, (show c4_58 = Code.cond _ c4_59 c4_60 from rfl), setA, setB, za, zb, zc, zd, ze, zf, zg, zh, zi, zj, zk, zl, zm, zn, zo, zp, reduceCtorEq, zE, ↓reduceIte]
  refine brB (fun yc19 => ?_) (fun yc19 => ?_)
  · simp -implicitDefEqProofs only [c4_59_e, c4_61_e, c4_62_e, c4_63_e, c4_64_r, (show opsOf c4_64 = _ :: _ from rfl), c4_65_e, c4_66_r, (show opsOf c4_66 = _ :: _ from rfl), Tryd.underlying31, sz22, en0_a, yc19, setA, setB, za, zb, zc, zd, ze, zf, zg, zh, zi, zj, zk, zl, zm, zn, zo, zp, reduceCtorEq, zE, ↓reduceIte]
    refine brP (fun yc20 => ?_) (fun yc20 => ?_)
    · have yd21 : t58.toNat < own3_1.length := by omega
      simp -implicitDefEqProofs only [(enL_get en0 own3_1 t58.toNat yd21), en0_e, sz22, ag22, Tryd.underlying31, en0_a, yc19, yc20, yd21, setA, setB, za, zb, zc, zd, ze, zf, zg, zh, zi, zj, zk, zl, zm, zn, zo, zp, reduceCtorEq, zE, ↓reduceIte]
      refine brP (fun yc22 => ?_) (fun yc22 => ?_)
      · have yd23 : t58.toNat < parts0_1.length := by omega
        simp -implicitDefEqProofs only [(enL_get en0 parts0_1 t58.toNat yd23), en0_e, sz22, ag22, ent10, prm10, f10_t, yc19, yc20, yd21, yc22, yd23, setA, setB, za, zb, zc, zd, ze, zf, zg, zh, zi, zj, zk, zl, zm, zn, zo, zp, reduceCtorEq, zE, ↓reduceIte]
        refine brM (fun yc24 => ?_) (fun yr25 yc24 => ?_)
        · rw [yc24]; rfl
        · simp -implicitDefEqProofs only [e10, (show c4_67 = Code.cond _ c4_68 c4_71 from rfl), yc19, yc20, yd21, yc22, yd23, yc24, setA, setB, za, zb, zc, zd, ze, zf, zg, zh, zi, zj, zk, zl, zm, zn, zo, zp, reduceCtorEq, zE, ↓reduceIte]
          refine brB (fun yc26 => ?_) (fun yc26 => ?_)
          · simp -implicitDefEqProofs only [c4_71_e, c4_72_r, (show opsOf c4_72 = _ :: _ from rfl), yc19, yc20, yd21, yc22, yd23, yc24, yc26, setA, setB, za, zb, zc, zd, ze, zf, zg, zh, zi, zj, zk, zl, zm, zn, zo, zp, reduceCtorEq, zE, ↓reduceIte]
            all_goals rfl
          · simp -implicitDefEqProofs only [c4_68_e, c4_69_r, (show opsOf c4_69 = _ :: _ from rfl), c4_70_e, K4_54, yc19, yc20, yd21, yc22, yd23, yc24, yc26, setA, setB, za, zb, zc, zd, ze, zf, zg, zh, zi, zj, zk, zl, zm, zn, zo, zp, reduceCtorEq, zE, ↓reduceIte]
            all_goals rfl
      · rw [if_neg yc22]; rfl
    · rw [if_neg yc20]; rfl
  · simp -implicitDefEqProofs only [c4_60_e, K4_54, yc19, setA, setB, za, zb, zc, zd, ze, zf, zg, zh, zi, zj, zk, zl, zm, zn, zo, zp, reduceCtorEq, zE, ↓reduceIte]
    exact mi (j4_73_t _ _)
def l4_54 (parts0_0 : Bool) (parts0_1 : List (Bool × List UInt8)) (own3_0 : Bool) (own3_1 : List (Bool × List UInt8)) (t57 t58 : Int) : Option R4 := iter (fun x : (Bool × List (Bool × List UInt8) × Bool × List (Bool × List UInt8) × Int × Int) => s4_54 x.1 x.2.1 x.2.2.1 x.2.2.2.1 x.2.2.2.2.1 x.2.2.2.2.2) (parts0_0, parts0_1, own3_0, own3_1, t57, t58)
theorem l4_54_t (parts0_0 : Bool) (parts0_1 : List (Bool × List UInt8)) (own3_0 : Bool) (own3_1 : List (Bool × List UInt8)) (t57 t58 : Int) : bodyD (E0 mm) [.tmp 2] 0 false (seqD (E0 mm) 4 0 (callW (E0 mm)) itW c4_73 (blockD 4 (itW (loopF (E0 mm) 4 0 (callW (E0 mm)) itW c4_55 [(0, .keep), (3, .keep), (57, .keep), (58, .keep)]) (none, [.v (.c (.d (.lst parts0_0 (enL en0 parts0_1)))), .v (.c (.own own3_0 (enL en0 own3_1) 0)), .v (.c (.d (.sc (.int .i64 t57)))), .v (.c (.d (.sc (.int .i64 t58))))], [.row own3_1.length (rz own3_0 1)])))) = (l4_54 parts0_0 parts0_1 own3_0 own3_1 t57 t58).map e4 :=
  it_sim (K := (K4_54 (mm := mm))) rfl (enc := en4_54) (fun x => s4_54_t x.1 x.2.1 x.2.2.1 x.2.2.2.1 x.2.2.2.2.1 x.2.2.2.2.2) (parts0_0, parts0_1, own3_0, own3_1, t57, t58)
def j4_50 (parts0_0 : Bool) (parts0_1 : List (Bool × List UInt8)) (own3_0 : Bool) (own3_1 : List (Bool × List UInt8)) : Option R4 :=
  l4_54 parts0_0 parts0_1 own3_0 own3_1 (parts0_1.length : Int) (0 : Int)
theorem j4_50_t (parts0_0 : Bool) (parts0_1 : List (Bool × List UInt8)) (own3_0 : Bool) (own3_1 : List (Bool × List UInt8))  (sl : Nat → AV) (zq0 : sl 0 = .v (.c (.d (.lst parts0_0 (enL en0 parts0_1))))) (zq3 : sl 3 = .v (.c (.own own3_0 (enL en0 own3_1) 0))) :
    bodyD (E0 mm) [.tmp 2] 0 false (den (E0 mm) 4 0 (callW (E0 mm)) itW c4_50 none ⟨sl, [.row own3_1.length (rz own3_0 1)]⟩) = (j4_50 parts0_0 parts0_1 own3_0 own3_1).map e4 := by
  simp -implicitDefEqProofs only [j4_50, c4_50_e, c4_51_e, c4_52_r, (show opsOf c4_52 = _ :: _ from rfl), Tryd.underlying31, c4_53_e, c4_54_l, zq0, zq3, setA, setB, za, zb, zc, zd, ze, zf, zg, zh, zi, zj, zk, zl, zm, zn, zo, zp, reduceCtorEq, zE, ↓reduceIte]
  exact l4_54_t parts0_0 parts0_1 own3_0 own3_1 (parts0_1.length : Int) (0 : Int)
def s4_37 (parts0_0 : Bool) (parts0_1 : List (Bool × List UInt8)) (own3_0 : Bool) (own3_1 : List (Bool × List UInt8)) (t45 t46 : Int) : Option ((Bool × List (Bool × List UInt8) × Bool × List (Bool × List UInt8) × Int × Int) ⊕ R4) :=
  if (decide (t46 < t45)) = true then
    j4_44 parts0_0 parts0_1 own3_0 own3_1 t45 t46
  else
    (j4_50 parts0_0 parts0_1 own3_0 own3_1).map .inr
theorem s4_37_t (parts0_0 : Bool) (parts0_1 : List (Bool × List UInt8)) (own3_0 : Bool) (own3_1 : List (Bool × List UInt8)) (t45 t46 : Int) :
    stepE (K4_37 (mm := mm)) (loopF (E0 mm) 4 0 (callW (E0 mm)) itW c4_38 [(0, .keep), (3, .keep), (6, .keep), (45, .keep), (46, .keep)] (none, [.v (.c (.d (.lst parts0_0 (enL en0 parts0_1)))), .v (.c (.own own3_0 (enL en0 own3_1) 0)), .v (.c (.d (.lst true []))), .v (.c (.d (.sc (.int .i64 t45)))), .v (.c (.d (.sc (.int .i64 t46))))], [.row own3_1.length (rz own3_0 1)])) = (s4_37 parts0_0 parts0_1 own3_0 own3_1 t45 t46).map (sm en4_37 e4) := by
  simp -implicitDefEqProofs only [s4_37, loopF_eq, c4_38_e, c4_39_r, (show opsOf c4_39 = _ :: _ from rfl), c4_40_e, (show c4_41 = Code.cond _ c4_42 c4_43 from rfl), setA, setB, za, zb, zc, zd, ze, zf, zg, zh, zi, zj, zk, zl, zm, zn, zo, zp, reduceCtorEq, zE, ↓reduceIte]
  refine brB (fun yc18 => ?_) (fun yc18 => ?_)
  · simp -implicitDefEqProofs only [c4_42_e, yc18, setA, setB, za, zb, zc, zd, ze, zf, zg, zh, zi, zj, zk, zl, zm, zn, zo, zp, reduceCtorEq, zE, ↓reduceIte]
    exact j4_44_t parts0_0 parts0_1 own3_0 own3_1 t45 t46 _ (by rfl) (by rfl) (by rfl) (by rfl) (by rfl)
  · simp -implicitDefEqProofs only [c4_43_e, K4_37, yc18, setA, setB, za, zb, zc, zd, ze, zf, zg, zh, zi, zj, zk, zl, zm, zn, zo, zp, reduceCtorEq, zE, ↓reduceIte]
    exact mi (j4_50_t parts0_0 parts0_1 own3_0 own3_1 _ (by rfl) (by rfl))
def l4_37 (parts0_0 : Bool) (parts0_1 : List (Bool × List UInt8)) (own3_0 : Bool) (own3_1 : List (Bool × List UInt8)) (t45 t46 : Int) : Option R4 := iter (fun x : (Bool × List (Bool × List UInt8) × Bool × List (Bool × List UInt8) × Int × Int) => s4_37 x.1 x.2.1 x.2.2.1 x.2.2.2.1 x.2.2.2.2.1 x.2.2.2.2.2) (parts0_0, parts0_1, own3_0, own3_1, t45, t46)
theorem l4_37_t (parts0_0 : Bool) (parts0_1 : List (Bool × List UInt8)) (own3_0 : Bool) (own3_1 : List (Bool × List UInt8)) (t45 t46 : Int) : bodyD (E0 mm) [.tmp 2] 0 false (seqD (E0 mm) 4 0 (callW (E0 mm)) itW c4_50 (blockD 2 (itW (loopF (E0 mm) 4 0 (callW (E0 mm)) itW c4_38 [(0, .keep), (3, .keep), (6, .keep), (45, .keep), (46, .keep)]) (none, [.v (.c (.d (.lst parts0_0 (enL en0 parts0_1)))), .v (.c (.own own3_0 (enL en0 own3_1) 0)), .v (.c (.d (.lst true []))), .v (.c (.d (.sc (.int .i64 t45)))), .v (.c (.d (.sc (.int .i64 t46))))], [.row own3_1.length (rz own3_0 1)])))) = (l4_37 parts0_0 parts0_1 own3_0 own3_1 t45 t46).map e4 :=
  it_sim (K := (K4_37 (mm := mm))) rfl (enc := en4_37) (fun x => s4_37_t x.1 x.2.1 x.2.2.1 x.2.2.2.1 x.2.2.2.2.1 x.2.2.2.2.2) (parts0_0, parts0_1, own3_0, own3_1, t45, t46)
def j4_33 (parts0_0 : Bool) (parts0_1 : List (Bool × List UInt8)) (own3_0 : Bool) (own3_1 : List (Bool × List UInt8)) : Option R4 :=
  l4_37 parts0_0 parts0_1 own3_0 own3_1 (0 : Int) (0 : Int)
theorem j4_33_t (parts0_0 : Bool) (parts0_1 : List (Bool × List UInt8)) (own3_0 : Bool) (own3_1 : List (Bool × List UInt8))  (sl : Nat → AV) (zq0 : sl 0 = .v (.c (.d (.lst parts0_0 (enL en0 parts0_1))))) (zq3 : sl 3 = .v (.c (.own own3_0 (enL en0 own3_1) 0))) (zq6 : sl 6 = .v (.c (.d (.lst true [])))) :
    bodyD (E0 mm) [.tmp 2] 0 false (den (E0 mm) 4 0 (callW (E0 mm)) itW c4_33 none ⟨sl, [.row own3_1.length (rz own3_0 1)]⟩) = (j4_33 parts0_0 parts0_1 own3_0 own3_1).map e4 := by
  simp -implicitDefEqProofs only [j4_33, c4_33_e, c4_34_e, c4_35_r, (show opsOf c4_35 = _ :: _ from rfl), Tryd.underlying22, c4_36_e, c4_37_l, zq0, zq3, zq6, setA, setB, za, zb, zc, zd, ze, zf, zg, zh, zi, zj, zk, zl, zm, zn, zo, zp, reduceCtorEq, zE, ↓reduceIte]
  exact l4_37_t parts0_0 parts0_1 own3_0 own3_1 (0 : Int) (0 : Int)
def j4_28 (parts0_0 : Bool) (parts0_1 : List (Bool × List UInt8)) (own3_0 : Bool) (own3_1 : List (Bool × List UInt8)) (t43 : Bool) : Option R4 :=
  if t43 = true then
    some false
  else
    j4_33 parts0_0 parts0_1 own3_0 own3_1
theorem j4_28_t (parts0_0 : Bool) (parts0_1 : List (Bool × List UInt8)) (own3_0 : Bool) (own3_1 : List (Bool × List UInt8)) (t43 : Bool)  (sl : Nat → AV) (zq0 : sl 0 = .v (.c (.d (.lst parts0_0 (enL en0 parts0_1))))) (zq3 : sl 3 = .v (.c (.own own3_0 (enL en0 own3_1) 0))) (zq6 : sl 6 = .v (.c (.d (.lst true [])))) (zq43 : sl 43 = .v (.c (.d (.sc (.bool t43))))) :
    bodyD (E0 mm) [.tmp 2] 0 false (seqD (E0 mm) 4 0 (callW (E0 mm)) itW c4_33 (den (E0 mm) 4 0 (callW (E0 mm)) itW c4_28 none ⟨sl, [.row own3_1.length (rz own3_0 1)]⟩)) = (j4_28 parts0_0 parts0_1 own3_0 own3_1 t43).map e4 := by
  simp -implicitDefEqProofs only [j4_28, (show c4_28 = Code.cond _ c4_29 c4_32 from rfl), zq0, zq3, zq6, zq43, setA, setB, za, zb, zc, zd, ze, zf, zg, zh, zi, zj, zk, zl, zm, zn, zo, zp, reduceCtorEq, zE, ↓reduceIte]
  refine brB (fun yc17 => ?_) (fun yc17 => ?_)
  · simp -implicitDefEqProofs only [c4_29_e, c4_30_r, (show opsOf c4_30 = _ :: _ from rfl), c4_31_e, zq0, zq3, zq6, zq43, yc17, setA, setB, za, zb, zc, zd, ze, zf, zg, zh, zi, zj, zk, zl, zm, zn, zo, zp, reduceCtorEq, zE, ↓reduceIte]
    all_goals rfl
  · simp -implicitDefEqProofs only [c4_32_e, zq0, zq3, zq6, zq43, yc17, setA, setB, za, zb, zc, zd, ze, zf, zg, zh, zi, zj, zk, zl, zm, zn, zo, zp, reduceCtorEq, zE, ↓reduceIte]
    exact j4_33_t parts0_0 parts0_1 own3_0 own3_1 _ (by exact zq0) (by exact zq3) (by exact zq6)
def j4_33v1 (parts0_0 : Bool) (parts0_1 : List (Bool × List UInt8)) (own3_0 : Bool) (own3_1 : List (Bool × List UInt8)) : Option R4 :=
  l4_37 parts0_0 parts0_1 own3_0 own3_1 (0 : Int) (0 : Int)
theorem j4_33v1_t (parts0_0 : Bool) (parts0_1 : List (Bool × List UInt8)) (own3_0 : Bool) (own3_1 : List (Bool × List UInt8)) (g1 : Ob) (sl : Nat → AV) (zq0 : sl 0 = .v (.c (.d (.lst parts0_0 (enL en0 parts0_1))))) (zq3 : sl 3 = .v (.c (.own own3_0 (enL en0 own3_1) 0))) (zq6 : sl 6 = .v (.c (.d (.lst true [])))) :
    bodyD (E0 mm) [.tmp 2] 0 false (den (E0 mm) 4 0 (callW (E0 mm)) itW c4_33 none ⟨sl, [.row own3_1.length (rz own3_0 1), g1]⟩) = (j4_33v1 parts0_0 parts0_1 own3_0 own3_1).map e4 := by
  simp -implicitDefEqProofs only [j4_33v1, c4_33_e, c4_34_e, c4_35_r, (show opsOf c4_35 = _ :: _ from rfl), Tryd.underlying22, c4_36_e, c4_37_l, zq0, zq3, zq6, setA, setB, za, zb, zc, zd, ze, zf, zg, zh, zi, zj, zk, zl, zm, zn, zo, zp, reduceCtorEq, zE, ↓reduceIte]
  exact l4_37_t parts0_0 parts0_1 own3_0 own3_1 (0 : Int) (0 : Int)
def j4_28v1 (parts0_0 : Bool) (parts0_1 : List (Bool × List UInt8)) (own3_0 : Bool) (own3_1 : List (Bool × List UInt8)) (t43 : Bool) : Option R4 :=
  if t43 = true then
    some false
  else
    j4_33v1 parts0_0 parts0_1 own3_0 own3_1
theorem j4_28v1_t (parts0_0 : Bool) (parts0_1 : List (Bool × List UInt8)) (own3_0 : Bool) (own3_1 : List (Bool × List UInt8)) (t43 : Bool) (g1 : Ob) (sl : Nat → AV) (zq0 : sl 0 = .v (.c (.d (.lst parts0_0 (enL en0 parts0_1))))) (zq3 : sl 3 = .v (.c (.own own3_0 (enL en0 own3_1) 0))) (zq6 : sl 6 = .v (.c (.d (.lst true [])))) (zq43 : sl 43 = .v (.c (.d (.sc (.bool t43))))) :
    bodyD (E0 mm) [.tmp 2] 0 false (seqD (E0 mm) 4 0 (callW (E0 mm)) itW c4_33 (den (E0 mm) 4 0 (callW (E0 mm)) itW c4_28 none ⟨sl, [.row own3_1.length (rz own3_0 1), g1]⟩)) = (j4_28v1 parts0_0 parts0_1 own3_0 own3_1 t43).map e4 := by
  simp -implicitDefEqProofs only [j4_28v1, (show c4_28 = Code.cond _ c4_29 c4_32 from rfl), zq0, zq3, zq6, zq43, setA, setB, za, zb, zc, zd, ze, zf, zg, zh, zi, zj, zk, zl, zm, zn, zo, zp, reduceCtorEq, zE, ↓reduceIte]
  refine brB (fun yc30 => ?_) (fun yc30 => ?_)
  · simp -implicitDefEqProofs only [c4_29_e, c4_30_r, (show opsOf c4_30 = _ :: _ from rfl), c4_31_e, zq0, zq3, zq6, zq43, yc30, setA, setB, za, zb, zc, zd, ze, zf, zg, zh, zi, zj, zk, zl, zm, zn, zo, zp, reduceCtorEq, zE, ↓reduceIte]
    all_goals rfl
  · simp -implicitDefEqProofs only [c4_32_e, zq0, zq3, zq6, zq43, yc30, setA, setB, za, zb, zc, zd, ze, zf, zg, zh, zi, zj, zk, zl, zm, zn, zo, zp, reduceCtorEq, zE, ↓reduceIte]
    exact j4_33v1_t parts0_0 parts0_1 own3_0 own3_1 _ _ (by exact zq0) (by exact zq3) (by exact zq6)
def K4_37v1 : Option (Ex × St) → Option (AV × Heap) := fun r => bodyD (E0 mm) [.tmp 2] 0 false (seqD (E0 mm) 4 0 (callW (E0 mm)) itW c4_50 (blockD 2 (r)))
def en4_37v1 : (Bool × List (Bool × List UInt8) × Bool × List (Bool × List UInt8) × Nat × Int × Int × List UInt8) → X := fun x => (none, [.v (.c (.d (.lst x.1 (enL en0 x.2.1)))), .v (.c (.own x.2.2.1 (enL en0 x.2.2.2.1) 0)), .v (.c (.slc 1 0 1 x.2.2.2.2.1 none)), .v (.c (.d (.sc (.int .i64 x.2.2.2.2.2.1)))), .v (.c (.d (.sc (.int .i64 x.2.2.2.2.2.2.1))))], [.row x.2.2.2.1.length (rz x.2.2.1 1), .cells (enC x.2.2.2.2.2.2.2)])
def j4_44v1 (parts0_0 : Bool) (parts0_1 : List (Bool × List UInt8)) (own3_0 : Bool) (own3_1 : List (Bool × List UInt8)) (x6_1 : Nat) (t45 t46 : Int) (h1 : List UInt8) : Option ((Bool × List (Bool × List UInt8) × Bool × List (Bool × List UInt8) × Nat × Int × Int × List UInt8) ⊕ R4) :=
  if 0 ≤ t46 ∧ t46 < (x6_1 : Int) then
    if t46.toNat < h1.length then
      some (.inl (parts0_0, parts0_1, own3_0, own3_1, x6_1, t45, (w64 (t46 + 1)), (h1.set t46.toNat ((h1.getD t46.toNat 0) ^^^ (255 : UInt8)))))
    else none
  else none
theorem j4_44v1_t (parts0_0 : Bool) (parts0_1 : List (Bool × List UInt8)) (own3_0 : Bool) (own3_1 : List (Bool × List UInt8)) (x6_1 : Nat) (t45 t46 : Int) (h1 : List UInt8)  (sl : Nat → AV) (zq0 : sl 0 = .v (.c (.d (.lst parts0_0 (enL en0 parts0_1))))) (zq3 : sl 3 = .v (.c (.own own3_0 (enL en0 own3_1) 0))) (zq6 : sl 6 = .v (.c (.slc 1 0 1 x6_1 none))) (zq45 : sl 45 = .v (.c (.d (.sc (.int .i64 t45))))) (zq46 : sl 46 = .v (.c (.d (.sc (.int .i64 t46))))) :
    stepE (K4_37v1 (mm := mm)) (loopK 0 [(0, .keep), (3, .keep), (6, .keep), (45, .keep), (46, .keep)] (den (E0 mm) 4 0 (callW (E0 mm)) itW c4_44 none ⟨sl, [.row own3_1.length (rz own3_0 1), .cells (enC h1)]⟩)) = (j4_44v1 parts0_0 parts0_1 own3_0 own3_1 x6_1 t45 t46 h1).map (sm en4_37v1 e4) := by
  simp -implicitDefEqProofs only [j4_44v1, c4_44_e, c4_45_e, c4_46_e, c4_47_r, (show opsOf c4_47 = _ :: _ from rfl), c4_48_r, (show opsOf c4_48 = _ :: _ from rfl), Tryd.underlying22, sz5, zq0, zq3, zq6, zq45, zq46, setA, setB, za, zb, zc, zd, ze, zf, zg, zh, zi, zj, zk, zl, zm, zn, zo, zp, reduceCtorEq, zE, ↓reduceIte]
  refine brP (fun yc40 => ?_) (fun yc40 => ?_)
  · have yd41 : t46.toNat < x6_1 := by omega
    simp -implicitDefEqProofs only [sz5, ag5, enC_length, zq0, zq3, zq6, zq45, zq46, yc40, yd41, setA, setB, za, zb, zc, zd, ze, zf, zg, zh, zi, zj, zk, zl, zm, zn, zo, zp, reduceCtorEq, zE, ↓reduceIte]
    refine brP (fun yc42 => ?_) (fun yc42 => ?_)
    · simp -implicitDefEqProofs only [(enC_load h1 t46.toNat yc42), Tryd.underlying22, sz5, enC_length, enC_wr, c4_49_r, (show opsOf c4_49 = _ :: _ from rfl), zq0, zq3, zq6, zq45, zq46, yc40, yd41, yc42, setA, setB, za, zb, zc, zd, ze, zf, zg, zh, zi, zj, zk, zl, zm, zn, zo, zp, reduceCtorEq, zE, ↓reduceIte]
      all_goals rfl
    · rw [if_neg yc42]; rfl
  · rw [if_neg yc40]; rfl
def j4_50v1 (parts0_0 : Bool) (parts0_1 : List (Bool × List UInt8)) (own3_0 : Bool) (own3_1 : List (Bool × List UInt8)) : Option R4 :=
  l4_54 parts0_0 parts0_1 own3_0 own3_1 (parts0_1.length : Int) (0 : Int)
theorem j4_50v1_t (parts0_0 : Bool) (parts0_1 : List (Bool × List UInt8)) (own3_0 : Bool) (own3_1 : List (Bool × List UInt8)) (g1 : Ob) (sl : Nat → AV) (zq0 : sl 0 = .v (.c (.d (.lst parts0_0 (enL en0 parts0_1))))) (zq3 : sl 3 = .v (.c (.own own3_0 (enL en0 own3_1) 0))) :
    bodyD (E0 mm) [.tmp 2] 0 false (den (E0 mm) 4 0 (callW (E0 mm)) itW c4_50 none ⟨sl, [.row own3_1.length (rz own3_0 1), g1]⟩) = (j4_50v1 parts0_0 parts0_1 own3_0 own3_1).map e4 := by
  simp -implicitDefEqProofs only [j4_50v1, c4_50_e, c4_51_e, c4_52_r, (show opsOf c4_52 = _ :: _ from rfl), Tryd.underlying31, c4_53_e, c4_54_l, zq0, zq3, setA, setB, za, zb, zc, zd, ze, zf, zg, zh, zi, zj, zk, zl, zm, zn, zo, zp, reduceCtorEq, zE, ↓reduceIte]
  exact l4_54_t parts0_0 parts0_1 own3_0 own3_1 (parts0_1.length : Int) (0 : Int)
def s4_37v1 (parts0_0 : Bool) (parts0_1 : List (Bool × List UInt8)) (own3_0 : Bool) (own3_1 : List (Bool × List UInt8)) (x6_1 : Nat) (t45 t46 : Int) (h1 : List UInt8) : Option ((Bool × List (Bool × List UInt8) × Bool × List (Bool × List UInt8) × Nat × Int × Int × List UInt8) ⊕ R4) :=
  if (decide (t46 < t45)) = true then
    j4_44v1 parts0_0 parts0_1 own3_0 own3_1 x6_1 t45 t46 h1
  else
    (j4_50v1 parts0_0 parts0_1 own3_0 own3_1).map .inr
theorem s4_37v1_t (parts0_0 : Bool) (parts0_1 : List (Bool × List UInt8)) (own3_0 : Bool) (own3_1 : List (Bool × List UInt8)) (x6_1 : Nat) (t45 t46 : Int) (h1 : List UInt8) :
    stepE (K4_37v1 (mm := mm)) (loopF (E0 mm) 4 0 (callW (E0 mm)) itW c4_38 [(0, .keep), (3, .keep), (6, .keep), (45, .keep), (46, .keep)] (none, [.v (.c (.d (.lst parts0_0 (enL en0 parts0_1)))), .v (.c (.own own3_0 (enL en0 own3_1) 0)), .v (.c (.slc 1 0 1 x6_1 none)), .v (.c (.d (.sc (.int .i64 t45)))), .v (.c (.d (.sc (.int .i64 t46))))], [.row own3_1.length (rz own3_0 1), .cells (enC h1)])) = (s4_37v1 parts0_0 parts0_1 own3_0 own3_1 x6_1 t45 t46 h1).map (sm en4_37v1 e4) := by
  simp -implicitDefEqProofs only [s4_37v1, loopF_eq, c4_38_e, c4_39_r, (show opsOf c4_39 = _ :: _ from rfl), c4_40_e, (show c4_41 = Code.cond _ c4_42 c4_43 from rfl), setA, setB, za, zb, zc, zd, ze, zf, zg, zh, zi, zj, zk, zl, zm, zn, zo, zp, reduceCtorEq, zE, ↓reduceIte]
  refine brB (fun yc39 => ?_) (fun yc39 => ?_)
  · simp -implicitDefEqProofs only [c4_42_e, yc39, setA, setB, za, zb, zc, zd, ze, zf, zg, zh, zi, zj, zk, zl, zm, zn, zo, zp, reduceCtorEq, zE, ↓reduceIte]
    exact j4_44v1_t parts0_0 parts0_1 own3_0 own3_1 x6_1 t45 t46 h1 _ (by rfl) (by rfl) (by rfl) (by rfl) (by rfl)
  · simp -implicitDefEqProofs only [c4_43_e, K4_37v1, yc39, setA, setB, za, zb, zc, zd, ze, zf, zg, zh, zi, zj, zk, zl, zm, zn, zo, zp, reduceCtorEq, zE, ↓reduceIte]
    exact mi (j4_50v1_t parts0_0 parts0_1 own3_0 own3_1 _ _ (by rfl) (by rfl))
def l4_37v1 (parts0_0 : Bool) (parts0_1 : List (Bool × List UInt8)) (own3_0 : Bool) (own3_1 : List (Bool × List UInt8)) (x6_1 : Nat) (t45 t46 : Int) (h1 : List UInt8) : Option R4 := iter (fun x : (Bool × List (Bool × List UInt8) × Bool × List (Bool × List UInt8) × Nat × Int × Int × List UInt8) => s4_37v1 x.1 x.2.1 x.2.2.1 x.2.2.2.1 x.2.2.2.2.1 x.2.2.2.2.2.1 x.2.2.2.2.2.2.1 x.2.2.2.2.2.2.2) (parts0_0, parts0_1, own3_0, own3_1, x6_1, t45, t46, h1)
theorem l4_37v1_t (parts0_0 : Bool) (parts0_1 : List (Bool × List UInt8)) (own3_0 : Bool) (own3_1 : List (Bool × List UInt8)) (x6_1 : Nat) (t45 t46 : Int) (h1 : List UInt8) : bodyD (E0 mm) [.tmp 2] 0 false (seqD (E0 mm) 4 0 (callW (E0 mm)) itW c4_50 (blockD 2 (itW (loopF (E0 mm) 4 0 (callW (E0 mm)) itW c4_38 [(0, .keep), (3, .keep), (6, .keep), (45, .keep), (46, .keep)]) (none, [.v (.c (.d (.lst parts0_0 (enL en0 parts0_1)))), .v (.c (.own own3_0 (enL en0 own3_1) 0)), .v (.c (.slc 1 0 1 x6_1 none)), .v (.c (.d (.sc (.int .i64 t45)))), .v (.c (.d (.sc (.int .i64 t46))))], [.row own3_1.length (rz own3_0 1), .cells (enC h1)])))) = (l4_37v1 parts0_0 parts0_1 own3_0 own3_1 x6_1 t45 t46 h1).map e4 :=
  it_sim (K := (K4_37v1 (mm := mm))) rfl (enc := en4_37v1) (fun x => s4_37v1_t x.1 x.2.1 x.2.2.1 x.2.2.2.1 x.2.2.2.2.1 x.2.2.2.2.2.1 x.2.2.2.2.2.2.1 x.2.2.2.2.2.2.2) (parts0_0, parts0_1, own3_0, own3_1, x6_1, t45, t46, h1)
def j4_33v2 (parts0_0 : Bool) (parts0_1 : List (Bool × List UInt8)) (own3_0 : Bool) (own3_1 : List (Bool × List UInt8)) (x6_1 : Nat) (h1 : List UInt8) : Option R4 :=
  l4_37v1 parts0_0 parts0_1 own3_0 own3_1 x6_1 (x6_1 : Int) (0 : Int) h1
theorem j4_33v2_t (parts0_0 : Bool) (parts0_1 : List (Bool × List UInt8)) (own3_0 : Bool) (own3_1 : List (Bool × List UInt8)) (x6_1 : Nat) (h1 : List UInt8)  (sl : Nat → AV) (zq0 : sl 0 = .v (.c (.d (.lst parts0_0 (enL en0 parts0_1))))) (zq3 : sl 3 = .v (.c (.own own3_0 (enL en0 own3_1) 0))) (zq6 : sl 6 = .v (.c (.slc 1 0 1 x6_1 none))) :
    bodyD (E0 mm) [.tmp 2] 0 false (den (E0 mm) 4 0 (callW (E0 mm)) itW c4_33 none ⟨sl, [.row own3_1.length (rz own3_0 1), .cells (enC h1)]⟩) = (j4_33v2 parts0_0 parts0_1 own3_0 own3_1 x6_1 h1).map e4 := by
  simp -implicitDefEqProofs only [j4_33v2, c4_33_e, c4_34_e, c4_35_r, (show opsOf c4_35 = _ :: _ from rfl), Tryd.underlying22, c4_36_e, c4_37_l, zq0, zq3, zq6, setA, setB, za, zb, zc, zd, ze, zf, zg, zh, zi, zj, zk, zl, zm, zn, zo, zp, reduceCtorEq, zE, ↓reduceIte]
  exact l4_37v1_t parts0_0 parts0_1 own3_0 own3_1 x6_1 (x6_1 : Int) (0 : Int) h1
def j4_28v2 (parts0_0 : Bool) (parts0_1 : List (Bool × List UInt8)) (own3_0 : Bool) (own3_1 : List (Bool × List UInt8)) (x6_1 : Nat) (t43 : Bool) (h1 : List UInt8) : Option R4 :=
  if t43 = true then
    some false
  else
    j4_33v2 parts0_0 parts0_1 own3_0 own3_1 x6_1 h1
theorem j4_28v2_t (parts0_0 : Bool) (parts0_1 : List (Bool × List UInt8)) (own3_0 : Bool) (own3_1 : List (Bool × List UInt8)) (x6_1 : Nat) (t43 : Bool) (h1 : List UInt8)  (sl : Nat → AV) (zq0 : sl 0 = .v (.c (.d (.lst parts0_0 (enL en0 parts0_1))))) (zq3 : sl 3 = .v (.c (.own own3_0 (enL en0 own3_1) 0))) (zq6 : sl 6 = .v (.c (.slc 1 0 1 x6_1 none))) (zq43 : sl 43 = .v (.c (.d (.sc (.bool t43))))) :
    bodyD (E0 mm) [.tmp 2] 0 false (seqD (E0 mm) 4 0 (callW (E0 mm)) itW c4_33 (den (E0 mm) 4 0 (callW (E0 mm)) itW c4_28 none ⟨sl, [.row own3_1.length (rz own3_0 1), .cells (enC h1)]⟩)) = (j4_28v2 parts0_0 parts0_1 own3_0 own3_1 x6_1 t43 h1).map e4 := by
  simp -implicitDefEqProofs only [j4_28v2, (show c4_28 = Code.cond _ c4_29 c4_32 from rfl), zq0, zq3, zq6, zq43, setA, setB, za, zb, zc, zd, ze, zf, zg, zh, zi, zj, zk, zl, zm, zn, zo, zp, reduceCtorEq, zE, ↓reduceIte]
  refine brB (fun yc38 => ?_) (fun yc38 => ?_)
  · simp -implicitDefEqProofs only [c4_29_e, c4_30_r, (show opsOf c4_30 = _ :: _ from rfl), c4_31_e, zq0, zq3, zq6, zq43, yc38, setA, setB, za, zb, zc, zd, ze, zf, zg, zh, zi, zj, zk, zl, zm, zn, zo, zp, reduceCtorEq, zE, ↓reduceIte]
    all_goals rfl
  · simp -implicitDefEqProofs only [c4_32_e, zq0, zq3, zq6, zq43, yc38, setA, setB, za, zb, zc, zd, ze, zf, zg, zh, zi, zj, zk, zl, zm, zn, zo, zp, reduceCtorEq, zE, ↓reduceIte]
    exact j4_33v2_t parts0_0 parts0_1 own3_0 own3_1 x6_1 h1 _ (by exact zq0) (by exact zq3) (by exact zq6)
def j4_33v3 (parts0_0 : Bool) (parts0_1 : List (Bool × List UInt8)) (own3_0 : Bool) (own3_1 : List (Bool × List UInt8)) (x6_1 : Nat) (h1 : List UInt8) : Option R4 :=
  l4_37v1 parts0_0 parts0_1 own3_0 own3_1 x6_1 (x6_1 : Int) (0 : Int) h1
theorem j4_33v3_t (parts0_0 : Bool) (parts0_1 : List (Bool × List UInt8)) (own3_0 : Bool) (own3_1 : List (Bool × List UInt8)) (x6_1 : Nat) (h1 : List UInt8) (g2 : Ob) (sl : Nat → AV) (zq0 : sl 0 = .v (.c (.d (.lst parts0_0 (enL en0 parts0_1))))) (zq3 : sl 3 = .v (.c (.own own3_0 (enL en0 own3_1) 0))) (zq6 : sl 6 = .v (.c (.slc 1 0 1 x6_1 none))) :
    bodyD (E0 mm) [.tmp 2] 0 false (den (E0 mm) 4 0 (callW (E0 mm)) itW c4_33 none ⟨sl, [.row own3_1.length (rz own3_0 1), .cells (enC h1), g2]⟩) = (j4_33v3 parts0_0 parts0_1 own3_0 own3_1 x6_1 h1).map e4 := by
  simp -implicitDefEqProofs only [j4_33v3, c4_33_e, c4_34_e, c4_35_r, (show opsOf c4_35 = _ :: _ from rfl), Tryd.underlying22, c4_36_e, c4_37_l, zq0, zq3, zq6, setA, setB, za, zb, zc, zd, ze, zf, zg, zh, zi, zj, zk, zl, zm, zn, zo, zp, reduceCtorEq, zE, ↓reduceIte]
  exact l4_37v1_t parts0_0 parts0_1 own3_0 own3_1 x6_1 (x6_1 : Int) (0 : Int) h1
def j4_28v3 (parts0_0 : Bool) (parts0_1 : List (Bool × List UInt8)) (own3_0 : Bool) (own3_1 : List (Bool × List UInt8)) (x6_1 : Nat) (t43 : Bool) (h1 : List UInt8) : Option R4 :=
  if t43 = true then
    some false
  else
    j4_33v3 parts0_0 parts0_1 own3_0 own3_1 x6_1 h1
theorem j4_28v3_t (parts0_0 : Bool) (parts0_1 : List (Bool × List UInt8)) (own3_0 : Bool) (own3_1 : List (Bool × List UInt8)) (x6_1 : Nat) (t43 : Bool) (h1 : List UInt8) (g2 : Ob) (sl : Nat → AV) (zq0 : sl 0 = .v (.c (.d (.lst parts0_0 (enL en0 parts0_1))))) (zq3 : sl 3 = .v (.c (.own own3_0 (enL en0 own3_1) 0))) (zq6 : sl 6 = .v (.c (.slc 1 0 1 x6_1 none))) (zq43 : sl 43 = .v (.c (.d (.sc (.bool t43))))) :
    bodyD (E0 mm) [.tmp 2] 0 false (seqD (E0 mm) 4 0 (callW (E0 mm)) itW c4_33 (den (E0 mm) 4 0 (callW (E0 mm)) itW c4_28 none ⟨sl, [.row own3_1.length (rz own3_0 1), .cells (enC h1), g2]⟩)) = (j4_28v3 parts0_0 parts0_1 own3_0 own3_1 x6_1 t43 h1).map e4 := by
  simp -implicitDefEqProofs only [j4_28v3, (show c4_28 = Code.cond _ c4_29 c4_32 from rfl), zq0, zq3, zq6, zq43, setA, setB, za, zb, zc, zd, ze, zf, zg, zh, zi, zj, zk, zl, zm, zn, zo, zp, reduceCtorEq, zE, ↓reduceIte]
  refine brB (fun yc46 => ?_) (fun yc46 => ?_)
  · simp -implicitDefEqProofs only [c4_29_e, c4_30_r, (show opsOf c4_30 = _ :: _ from rfl), c4_31_e, zq0, zq3, zq6, zq43, yc46, setA, setB, za, zb, zc, zd, ze, zf, zg, zh, zi, zj, zk, zl, zm, zn, zo, zp, reduceCtorEq, zE, ↓reduceIte]
    all_goals rfl
  · simp -implicitDefEqProofs only [c4_32_e, zq0, zq3, zq6, zq43, yc46, setA, setB, za, zb, zc, zd, ze, zf, zg, zh, zi, zj, zk, zl, zm, zn, zo, zp, reduceCtorEq, zE, ↓reduceIte]
    exact j4_33v3_t parts0_0 parts0_1 own3_0 own3_1 x6_1 h1 _ _ (by exact zq0) (by exact zq3) (by exact zq6)
def j4_21 (parts0_0 : Bool) (parts0_1 : List (Bool × List UInt8)) (own3_0 : Bool) (own3_1 : List (Bool × List UInt8)) : Option R4 :=
  (m12 own3_0 own3_1).bind fun yr7 =>
    match yr7 with
    | .inl yr8 =>
      (m13 parts0_0 parts0_1).bind fun yr11 =>
        match yr11 with
        | .inl yr12 =>
          if (yr8 == yr12.2.2) = true then
            (m10 true ([] : List UInt8) yr12.1 yr12.2.1).bind fun yr16 =>
              j4_28 parts0_0 parts0_1 own3_0 own3_1 (!yr16)
          else
            j4_28 parts0_0 parts0_1 own3_0 own3_1 true
        | .inr yr13 =>
          if (yr8 == yr13.2.2) = true then
            (m10 true ([] : List UInt8) yr13.1 yr13.2.1).bind fun yr29 =>
              j4_28v1 parts0_0 parts0_1 own3_0 own3_1 (!yr29)
          else
            j4_28v1 parts0_0 parts0_1 own3_0 own3_1 true
    | .inr yr9 =>
      (m13 parts0_0 parts0_1).bind fun yr32 =>
        match yr32 with
        | .inl yr33 =>
          if (yr9.1 == yr33.2.2) = true then
            (m10a yr9.2.length yr33.1 yr33.2.1 yr9.2).bind fun yr37 =>
              j4_28v2 parts0_0 parts0_1 own3_0 own3_1 yr9.2.length (!yr37.1) yr37.2
          else
            j4_28v2 parts0_0 parts0_1 own3_0 own3_1 yr9.2.length true yr9.2
        | .inr yr34 =>
          if (yr9.1 == yr34.2.2) = true then
            (m10a yr9.2.length yr34.1 yr34.2.1 yr9.2).bind fun yr45 =>
              j4_28v3 parts0_0 parts0_1 own3_0 own3_1 yr9.2.length (!yr45.1) yr45.2
          else
            j4_28v3 parts0_0 parts0_1 own3_0 own3_1 yr9.2.length true yr9.2
theorem j4_21_t (parts0_0 : Bool) (parts0_1 : List (Bool × List UInt8)) (own3_0 : Bool) (own3_1 : List (Bool × List UInt8))  (sl : Nat → AV) (zq0 : sl 0 = .v (.c (.d (.lst parts0_0 (enL en0 parts0_1))))) (zq3 : sl 3 = .v (.c (.own own3_0 (enL en0 own3_1) 0))) :
    bodyD (E0 mm) [.tmp 2] 0 false (den (E0 mm) 4 0 (callW (E0 mm)) itW c4_21 none ⟨sl, [.row own3_1.length (rz own3_0 1)]⟩) = (j4_21 parts0_0 parts0_1 own3_0 own3_1).map e4 := by
  simp -implicitDefEqProofs only [j4_21, c4_21_e, c4_22_r, (show opsOf c4_22 = _ :: _ from rfl), ent12, prm12, f12_t, zq0, zq3, setA, setB, za, zb, zc, zd, ze, zf, zg, zh, zi, zj, zk, zl, zm, zn, zo, zp, reduceCtorEq, zE, ↓reduceIte]
  refine brM (fun yc6 => ?_) (fun yr7 yc6 => ?_)
  · rw [yc6]; rfl
  · rcases yr7 with yr8 | yr9
    · simp -implicitDefEqProofs only [e12, c4_23_e, c4_24_r, (show opsOf c4_24 = _ :: _ from rfl), ent13, prm13, f13_t, zq0, zq3, yc6, setA, setB, za, zb, zc, zd, ze, zf, zg, zh, zi, zj, zk, zl, zm, zn, zo, zp, reduceCtorEq, zE, ↓reduceIte]
      refine brM (fun yc10 => ?_) (fun yr11 yc10 => ?_)
      · rw [yc10]; rfl
      · rcases yr11 with yr12 | yr13
        · simp -implicitDefEqProofs only [e13, c4_25_e, c4_26_e, c4_27_r, (show opsOf c4_27 = _ :: _ from rfl), zq0, zq3, yc6, yc10, setA, setB, za, zb, zc, zd, ze, zf, zg, zh, zi, zj, zk, zl, zm, zn, zo, zp, reduceCtorEq, zE, ↓reduceIte]
          refine brB (fun yc14 => ?_) (fun yc14 => ?_)
          · simp -implicitDefEqProofs only [ent10, prm10, (show callW (E0 mm) 10 [.c (.d (.lst true [])), .c (.d (.lst yr12.1 (enL enB yr12.2.1)))] [] = _ from f10_t true ([] : List UInt8) yr12.1 yr12.2.1), zq0, zq3, yc6, yc10, yc14, setA, setB, za, zb, zc, zd, ze, zf, zg, zh, zi, zj, zk, zl, zm, zn, zo, zp, reduceCtorEq, zE, ↓reduceIte]
            refine brM (fun yc15 => ?_) (fun yr16 yc15 => ?_)
            · rw [yc15]; rfl
            · simp -implicitDefEqProofs only [e10, zq0, zq3, yc6, yc10, yc14, yc15, setA, setB, za, zb, zc, zd, ze, zf, zg, zh, zi, zj, zk, zl, zm, zn, zo, zp, reduceCtorEq, zE, ↓reduceIte]
              exact j4_28_t parts0_0 parts0_1 own3_0 own3_1 (!yr16) _ (by exact zq0) (by exact zq3) (by rfl) (by rfl)
          · simp -implicitDefEqProofs only [zq0, zq3, yc6, yc10, yc14, setA, setB, za, zb, zc, zd, ze, zf, zg, zh, zi, zj, zk, zl, zm, zn, zo, zp, reduceCtorEq, zE, ↓reduceIte]
            exact j4_28_t parts0_0 parts0_1 own3_0 own3_1 true _ (by exact zq0) (by exact zq3) (by rfl) (by rfl)
        · simp -implicitDefEqProofs only [e13, c4_25_e, c4_26_e, c4_27_r, (show opsOf c4_27 = _ :: _ from rfl), zq0, zq3, yc6, yc10, setA, setB, za, zb, zc, zd, ze, zf, zg, zh, zi, zj, zk, zl, zm, zn, zo, zp, reduceCtorEq, zE, ↓reduceIte]
          refine brB (fun yc27 => ?_) (fun yc27 => ?_)
          · simp -implicitDefEqProofs only [ent10, prm10, (show callW (E0 mm) 10 [.c (.d (.lst true [])), .c (.d (.lst yr13.1 (enL enB yr13.2.1)))] [] = _ from f10_t true ([] : List UInt8) yr13.1 yr13.2.1), zq0, zq3, yc6, yc10, yc27, setA, setB, za, zb, zc, zd, ze, zf, zg, zh, zi, zj, zk, zl, zm, zn, zo, zp, reduceCtorEq, zE, ↓reduceIte]
            refine brM (fun yc28 => ?_) (fun yr29 yc28 => ?_)
            · rw [yc28]; rfl
            · simp -implicitDefEqProofs only [e10, zq0, zq3, yc6, yc10, yc27, yc28, setA, setB, za, zb, zc, zd, ze, zf, zg, zh, zi, zj, zk, zl, zm, zn, zo, zp, reduceCtorEq, zE, ↓reduceIte]
              exact j4_28v1_t parts0_0 parts0_1 own3_0 own3_1 (!yr29) _ _ (by exact zq0) (by exact zq3) (by rfl) (by rfl)
          · simp -implicitDefEqProofs only [zq0, zq3, yc6, yc10, yc27, setA, setB, za, zb, zc, zd, ze, zf, zg, zh, zi, zj, zk, zl, zm, zn, zo, zp, reduceCtorEq, zE, ↓reduceIte]
            exact j4_28v1_t parts0_0 parts0_1 own3_0 own3_1 true _ _ (by exact zq0) (by exact zq3) (by rfl) (by rfl)
    · simp -implicitDefEqProofs only [e12, c4_23_e, c4_24_r, (show opsOf c4_24 = _ :: _ from rfl), ent13, prm13, f13_t, zq0, zq3, yc6, setA, setB, za, zb, zc, zd, ze, zf, zg, zh, zi, zj, zk, zl, zm, zn, zo, zp, reduceCtorEq, zE, ↓reduceIte]
      refine brM (fun yc31 => ?_) (fun yr32 yc31 => ?_)
      · rw [yc31]; rfl
      · rcases yr32 with yr33 | yr34
        · simp -implicitDefEqProofs only [e13, c4_25_e, c4_26_e, c4_27_r, (show opsOf c4_27 = _ :: _ from rfl), zq0, zq3, yc6, yc31, setA, setB, za, zb, zc, zd, ze, zf, zg, zh, zi, zj, zk, zl, zm, zn, zo, zp, reduceCtorEq, zE, ↓reduceIte]
          refine brB (fun yc35 => ?_) (fun yc35 => ?_)
          · simp -implicitDefEqProofs only [ent10, prm10, f10a_t, zq0, zq3, yc6, yc31, yc35, setA, setB, za, zb, zc, zd, ze, zf, zg, zh, zi, zj, zk, zl, zm, zn, zo, zp, reduceCtorEq, zE, ↓reduceIte]
            refine brM (fun yc36 => ?_) (fun yr37 yc36 => ?_)
            · rw [yc36]; rfl
            · simp -implicitDefEqProofs only [e10a, zq0, zq3, yc6, yc31, yc35, yc36, setA, setB, za, zb, zc, zd, ze, zf, zg, zh, zi, zj, zk, zl, zm, zn, zo, zp, reduceCtorEq, zE, ↓reduceIte]
              exact j4_28v2_t parts0_0 parts0_1 own3_0 own3_1 yr9.2.length (!yr37.1) yr37.2 _ (by exact zq0) (by exact zq3) (by rfl) (by rfl)
          · simp -implicitDefEqProofs only [zq0, zq3, yc6, yc31, yc35, setA, setB, za, zb, zc, zd, ze, zf, zg, zh, zi, zj, zk, zl, zm, zn, zo, zp, reduceCtorEq, zE, ↓reduceIte]
            exact j4_28v2_t parts0_0 parts0_1 own3_0 own3_1 yr9.2.length true yr9.2 _ (by exact zq0) (by exact zq3) (by rfl) (by rfl)
        · simp -implicitDefEqProofs only [e13, c4_25_e, c4_26_e, c4_27_r, (show opsOf c4_27 = _ :: _ from rfl), zq0, zq3, yc6, yc31, setA, setB, za, zb, zc, zd, ze, zf, zg, zh, zi, zj, zk, zl, zm, zn, zo, zp, reduceCtorEq, zE, ↓reduceIte]
          refine brB (fun yc43 => ?_) (fun yc43 => ?_)
          · simp -implicitDefEqProofs only [ent10, prm10, f10a_t, zq0, zq3, yc6, yc31, yc43, setA, setB, za, zb, zc, zd, ze, zf, zg, zh, zi, zj, zk, zl, zm, zn, zo, zp, reduceCtorEq, zE, ↓reduceIte]
            refine brM (fun yc44 => ?_) (fun yr45 yc44 => ?_)
            · rw [yc44]; rfl
            · simp -implicitDefEqProofs only [e10a, zq0, zq3, yc6, yc31, yc43, yc44, setA, setB, za, zb, zc, zd, ze, zf, zg, zh, zi, zj, zk, zl, zm, zn, zo, zp, reduceCtorEq, zE, ↓reduceIte]
              exact j4_28v3_t parts0_0 parts0_1 own3_0 own3_1 yr9.2.length (!yr45.1) yr45.2 _ _ (by exact zq0) (by exact zq3) (by rfl) (by rfl)
          · simp -implicitDefEqProofs only [zq0, zq3, yc6, yc31, yc43, setA, setB, za, zb, zc, zd, ze, zf, zg, zh, zi, zj, zk, zl, zm, zn, zo, zp, reduceCtorEq, zE, ↓reduceIte]
            exact j4_28v3_t parts0_0 parts0_1 own3_0 own3_1 yr9.2.length true yr9.2 _ _ (by exact zq0) (by exact zq3) (by rfl) (by rfl)
def s4_8 (parts0_0 : Bool) (parts0_1 : List (Bool × List UInt8)) (own3_0 : Bool) (own3_1 : List (Bool × List UInt8)) (t12_0 : Bool) (t12_1 : List (Bool × List UInt8)) (t13 t14 : Int) : Option ((Bool × List (Bool × List UInt8) × Bool × List (Bool × List UInt8) × Bool × List (Bool × List UInt8) × Int × Int) ⊕ R4) :=
  if (decide (t14 < t13)) = true then
    if 0 ≤ t14 ∧ t14 < (t12_1.length : Int) then
      if (t12_1.getD t14.toNat default).2 = [] ∨ (0 + ((t12_1.getD t14.toNat default).2).length) * 1 ≤ 140737488355328 then
        if (own3_1.length + 1) * 24 ≤ 140737488355328 then
          some (.inl (parts0_0, parts0_1, false, (own3_1 ++ ([(false, (t12_1.getD t14.toNat default).2)] : List (Bool × List UInt8))), t12_0, t12_1, t13, (w64 (t14 + 1))))
        else none
      else none
    else none
  else
    (j4_21 parts0_0 parts0_1 own3_0 own3_1).map .inr
theorem s4_8_t (parts0_0 : Bool) (parts0_1 : List (Bool × List UInt8)) (own3_0 : Bool) (own3_1 : List (Bool × List UInt8)) (t12_0 : Bool) (t12_1 : List (Bool × List UInt8)) (t13 t14 : Int) :
    stepE (K4_8 (mm := mm)) (loopF (E0 mm) 4 0 (callW (E0 mm)) itW c4_9 [(0, .keep), (3, .own), (12, .keep), (13, .keep), (14, .keep)] (none, [.v (.c (.d (.lst parts0_0 (enL en0 parts0_1)))), .v (.c (.own own3_0 (enL en0 own3_1) 0)), .v (.c (.d (.lst t12_0 (enL en0 t12_1)))), .v (.c (.d (.sc (.int .i64 t13)))), .v (.c (.d (.sc (.int .i64 t14))))], [.row own3_1.length (rz own3_0 1)])) = (s4_8 parts0_0 parts0_1 own3_0 own3_1 t12_0 t12_1 t13 t14).map (sm en4_8 e4) := by
  simp -implicitDefEqProofs only [s4_8, loopF_eq, c4_9_e, c4_10_r, (show opsOf c4_10 = _ :: _ from rfl), c4_11_e, (show c4_12 = Code.cond _ c4_13 c4_14 from rfl), setA, setB, za, zb, zc, zd, ze, zf, zg, zh, zi, zj, zk, zl, zm, zn, zo, zp, reduceCtorEq, zE, ↓reduceIte]
  refine brB (fun yc1 => ?_) (fun yc1 => ?_)
  · simp -implicitDefEqProofs only [c4_13_e, c4_15_e, c4_16_e, c4_17_e, c4_18_r, (show opsOf c4_18 = _ :: _ from rfl), Tryd.underlying31, sz22, en0_a, yc1, setA, setB, za, zb, zc, zd, ze, zf, zg, zh, zi, zj, zk, zl, zm, zn, zo, zp, reduceCtorEq, zE, ↓reduceIte]
    refine brP (fun yc2 => ?_) (fun yc2 => ?_)
    · have yd3 : t14.toNat < t12_1.length := by omega
      simp -implicitDefEqProofs only [(enL_get en0 t12_1 t14.toNat yd3), en0_e, sz22, ag22, c4_19_r, (show opsOf c4_19 = _ :: _ from rfl), Tryd.underlying22, sz5, zc5, hd0, nv1, rw2, ns3, ap22, yc1, yc2, yd3, setA, setB, za, zb, zc, zd, ze, zf, zg, zh, zi, zj, zk, zl, zm, zn, zo, zp, reduceCtorEq, zE, ↓reduceIte]
      refine brP (fun yc4 => ?_) (fun yc4 => ?_)
      · simp -implicitDefEqProofs only [Tryd.underlying31, sz22, zc22, hd0, nv1, rw2, ns5, ap31, yc1, yc2, yd3, yc4, setA, setB, za, zb, zc, zd, ze, zf, zg, zh, zi, zj, zk, zl, zm, zn, zo, zp, reduceCtorEq, zE, ↓reduceIte]
        refine brP (fun yc5 => ?_) (fun yc5 => ?_)
        · simp -implicitDefEqProofs only [c4_20_r, (show opsOf c4_20 = _ :: _ from rfl), yc1, yc2, yd3, yc4, yc5, setA, setB, za, zb, zc, zd, ze, zf, zg, zh, zi, zj, zk, zl, zm, zn, zo, zp, reduceCtorEq, zE, ↓reduceIte]
          all_goals rfl
        · rw [if_neg yc5]; rfl
      · rw [if_neg yc4]; rfl
    · rw [if_neg yc2]; rfl
  · simp -implicitDefEqProofs only [c4_14_e, K4_8, yc1, setA, setB, za, zb, zc, zd, ze, zf, zg, zh, zi, zj, zk, zl, zm, zn, zo, zp, reduceCtorEq, zE, ↓reduceIte]
    exact mi (j4_21_t parts0_0 parts0_1 own3_0 own3_1 _ (by rfl) (by rfl))
def l4_8 (parts0_0 : Bool) (parts0_1 : List (Bool × List UInt8)) (own3_0 : Bool) (own3_1 : List (Bool × List UInt8)) (t12_0 : Bool) (t12_1 : List (Bool × List UInt8)) (t13 t14 : Int) : Option R4 := iter (fun x : (Bool × List (Bool × List UInt8) × Bool × List (Bool × List UInt8) × Bool × List (Bool × List UInt8) × Int × Int) => s4_8 x.1 x.2.1 x.2.2.1 x.2.2.2.1 x.2.2.2.2.1 x.2.2.2.2.2.1 x.2.2.2.2.2.2.1 x.2.2.2.2.2.2.2) (parts0_0, parts0_1, own3_0, own3_1, t12_0, t12_1, t13, t14)
theorem l4_8_t (parts0_0 : Bool) (parts0_1 : List (Bool × List UInt8)) (own3_0 : Bool) (own3_1 : List (Bool × List UInt8)) (t12_0 : Bool) (t12_1 : List (Bool × List UInt8)) (t13 t14 : Int) : bodyD (E0 mm) [.tmp 2] 0 false (seqD (E0 mm) 4 0 (callW (E0 mm)) itW c4_21 (blockD 0 (itW (loopF (E0 mm) 4 0 (callW (E0 mm)) itW c4_9 [(0, .keep), (3, .own), (12, .keep), (13, .keep), (14, .keep)]) (none, [.v (.c (.d (.lst parts0_0 (enL en0 parts0_1)))), .v (.c (.own own3_0 (enL en0 own3_1) 0)), .v (.c (.d (.lst t12_0 (enL en0 t12_1)))), .v (.c (.d (.sc (.int .i64 t13)))), .v (.c (.d (.sc (.int .i64 t14))))], [.row own3_1.length (rz own3_0 1)])))) = (l4_8 parts0_0 parts0_1 own3_0 own3_1 t12_0 t12_1 t13 t14).map e4 :=
  it_sim (K := (K4_8 (mm := mm))) rfl (enc := en4_8) (fun x => s4_8_t x.1 x.2.1 x.2.2.1 x.2.2.2.1 x.2.2.2.2.1 x.2.2.2.2.2.1 x.2.2.2.2.2.2.1 x.2.2.2.2.2.2.2) (parts0_0, parts0_1, own3_0, own3_1, t12_0, t12_1, t13, t14)
def m4 (parts_0 : Bool) (parts_1 : List (Bool × List UInt8)) : Option R4 :=
  l4_8 parts_0 parts_1 true ([] : List (Bool × List UInt8)) parts_0 parts_1 (parts_1.length : Int) (0 : Int)
theorem f4_t (parts_0 : Bool) (parts_1 : List (Bool × List UInt8)) :
    callW (E0 mm) 4 [.c (.d (.lst parts_0 (enL en0 parts_1)))] [] = (m4 parts_0 parts_1).map e4 := by
  rw [callW_run (body := c4_0) (res := [.tmp 2]) Tryd.func4 rfl rfl (by kernel_rfl)]
  simp -implicitDefEqProofs only [m4, slots1, c4_0_e, c4_1_r, (show opsOf c4_1 = _ :: _ from rfl), c4_2_e, c4_3_r, (show opsOf c4_3 = _ :: _ from rfl), c4_4_e, c4_5_e, c4_6_r, (show opsOf c4_6 = _ :: _ from rfl), Tryd.underlying31, c4_7_e, c4_8_l, setA, setB, za, zb, zc, zd, ze, zf, zg, zh, zi, zj, zk, zl, zm, zn, zo, zp, reduceCtorEq, zE, ↓reduceIte]
  exact l4_8_t parts_0 parts_1 true ([] : List (Bool × List UInt8)) parts_0 parts_1 (parts_1.length : Int) (0 : Int)
end
end Go.Proofs.YtaohepmbkepmiaaDoor
