/- The Go functions as plain functions, and that the evaluator computes them. -/
import Derived.Test.YtaohepmbkepmiaaDoorHd
set_option linter.all false
set_option maxRecDepth 100000
namespace Go.Proofs.YtaohepmbkepmiaaDoor
open Go Go.Ab
open Nat renaming reduceEqDiff → za, reduceAdd → zb, reduceLeDiff → zc, reduceLT → zd, reduceMul → ze, reduceBEq → zf, reduceSub → zg, reducePow → zh
open Int renaming reduceEq → zi, reduceLE → zj, reduceLT → zk, reduceToNat → zl, reduceNegSucc → zm, reduceAdd → zn, reduceBEq → zo
open String renaming reduceBEq → zp
set_option maxHeartbeats 4000000
noncomputable section
variable {mm : Int}
set_option maxRecDepth 100000 in
theorem f11_t : callW (E0 mm) 11 [] [] = some (.v (.c (.d (.sc (.bool true)))), []) := callN_W (k := 400) (by kernel_rfl)
set_option maxRecDepth 100000 in
theorem f93_t : callW (E0 mm) 93 [.c (.d (.sc (.int .u64 16)))] [] = some (.v (.c (.d (.sc (.int .i64 4)))), []) := callN_W (k := 60) (by kernel_rfl)
noncomputable def c92_0 : Code := bodyOf Tryd.f92
def c92_1 := cA c92_0
def c92_2 := cB c92_0
def c92_3 := cA c92_2
def c92_4 := cB c92_2
theorem c92_0_e : c92_0 = .seq c92_1 c92_2 := rfl
theorem c92_1_r : RG (E0 mm) 92 c92_1 := rgN rfl
theorem c92_2_e : c92_2 = .seq c92_3 c92_4 := rfl
theorem c92_3_r : RG (E0 mm) 92 c92_3 := rgN rfl
theorem c92_4_e : c92_4 = .ret := rfl
abbrev R92 := (Bool)
def e92 : R92 → AV × Heap := fun x => (.v (.c (.d (.sc (.bool x)))), [])
def m92  : Option R92 :=
  some true
theorem f92_t  :
    callW (E0 mm) 92 [.c (.d (.sc (.int .i64 16)))] [] = (m92).map e92 := by
  rw [callW_run (body := c92_0) (res := [.tmp 2]) Tryd.func92 rfl rfl (by kernel_rfl)]
  simp -implicitDefEqProofs only [m92, slots1, c92_0_e, c92_1_r, (show opsOf c92_1 = _ :: _ from rfl), c92_2_e, c92_3_r, (show opsOf c92_3 = _ :: _ from rfl), ev_and, (show ib_and .i64 16 15 = 0 from rfl), c92_4_e, setA, setB, za, zb, zc, zd, ze, zf, zg, zh, zi, zj, zk, zl, zm, zn, zo, zp, reduceCtorEq, zE, ↓reduceIte]
  all_goals rfl
noncomputable def c83_0 : Code := bodyOf Tryd.f83
def c83_1 := cA c83_0
def c83_2 := cB c83_0
def c83_3 := cA c83_2
def c83_4 := cA c83_3
def c83_5 := cB c83_3
def c83_6 := cA c83_5
def c83_7 := cB c83_5
def c83_8 := cB c83_2
def c83_9 := cA c83_8
def c83_10 := cB c83_8
def c83_11 := cA c83_10
def c83_12 := cB c83_10
def c83_13 := cA c83_12
def c83_14 := cA c83_13
def c83_15 := cB c83_13
def c83_16 := cA c83_15
def c83_17 := cB c83_15
def c83_18 := cB c83_12
def c83_19 := cA c83_18
def c83_20 := cA c83_19
def c83_21 := cB c83_19
def c83_22 := cA c83_21
def c83_23 := cA c83_22
def c83_24 := cB c83_22
def c83_25 := cA c83_24
def c83_26 := cB c83_24
def c83_27 := cA c83_26
def c83_28 := cB c83_26
def c83_29 := cA c83_28
def c83_30 := cA c83_29
def c83_31 := cA c83_30
def c83_32 := cA c83_31
def c83_33 := cA c83_32
def c83_34 := cB c83_32
def c83_35 := cA c83_34
def c83_36 := cB c83_34
def c83_37 := cB c83_31
def c83_38 := cA c83_37
def c83_39 := cA c83_38
def c83_40 := cB c83_38
def c83_41 := cA c83_40
def c83_42 := cB c83_40
def c83_43 := cB c83_28
def c83_44 := cA c83_43
def c83_45 := cB c83_43
def c83_46 := cB c83_21
def c83_47 := cA c83_46
def c83_48 := cB c83_46
def c83_49 := cA c83_48
def c83_50 := cA c83_49
def c83_51 := cA c83_50
def c83_52 := cA c83_51
def c83_53 := cA c83_52
def c83_54 := cB c83_52
def c83_55 := cA c83_54
def c83_56 := cB c83_54
def c83_57 := cB c83_51
def c83_58 := cA c83_57
def c83_59 := cA c83_58
def c83_60 := cB c83_58
def c83_61 := cA c83_60
def c83_62 := cB c83_60
def c83_63 := cA c83_62
def c83_64 := cB c83_62
def c83_65 := cB c83_48
def c83_66 := cA c83_65
def c83_67 := cB c83_65
def c83_68 := cB c83_18
def c83_69 := cA c83_68
def c83_70 := cA c83_69
def c83_71 := cB c83_69
def c83_72 := cA c83_71
def c83_75 := cB c83_71
def c83_76 := cB c83_68
def c83_77 := cA c83_76
def c83_78 := cA c83_77
def c83_79 := cB c83_77
def c83_80 := cA c83_79
def c83_83 := cB c83_79
def c83_84 := cB c83_76
def c83_85 := cA c83_84
def c83_86 := cB c83_84
theorem c83_0_e : c83_0 = .seq c83_1 c83_2 := rfl
theorem c83_1_r : RG (E0 mm) 83 c83_1 := rgN rfl
theorem c83_2_e : c83_2 = .seq c83_3 c83_8 := rfl
theorem c83_3_e : c83_3 = .seq c83_4 c83_5 := rfl
theorem c83_4_r : RG (E0 mm) 83 c83_4 := rgN rfl
theorem c83_7_e : c83_7 = .skip := rfl
theorem c83_8_e : c83_8 = .seq c83_9 c83_10 := rfl
theorem c83_9_r : RG (E0 mm) 83 c83_9 := rgN rfl
theorem c83_10_e : c83_10 = .seq c83_11 c83_12 := rfl
theorem c83_11_r : RG (E0 mm) 83 c83_11 := rgN rfl
theorem c83_12_e : c83_12 = .seq c83_13 c83_18 := rfl
theorem c83_13_e : c83_13 = .seq c83_14 c83_15 := rfl
theorem c83_14_r : RG (E0 mm) 83 c83_14 := rgN rfl
theorem c83_17_e : c83_17 = .skip := rfl
theorem c83_18_e : c83_18 = .seq c83_19 c83_68 := rfl
theorem c83_19_e : c83_19 = .seq c83_20 c83_21 := rfl
theorem c83_20_r : RG (E0 mm) 83 c83_20 := rgN rfl
theorem c83_22_e : c83_22 = .seq c83_23 c83_24 := rfl
theorem c83_23_r : RG (E0 mm) 83 c83_23 := rgN rfl
theorem c83_24_e : c83_24 = .seq c83_25 c83_26 := rfl
theorem c83_25_r : RG (E0 mm) 83 c83_25 := rgN rfl
theorem c83_26_e : c83_26 = .seq c83_27 c83_28 := rfl
theorem c83_27_r : RG (E0 mm) 83 c83_27 := rgN rfl
theorem c83_28_e : c83_28 = .seq c83_29 c83_43 := rfl
theorem c83_29_e : c83_29 = .block 0 c83_30 := rfl
theorem c83_30_l (m : Nat) (st : St) : den (E0 mm) 83 m (callW (E0 mm)) itW c83_30 none st = loopD itW (loopF (E0 mm) 83 m (callW (E0 mm)) itW c83_31 [(0, .keep), (1, .keep), (3, .keep), (4, .keep), (10, .keep), (11, .keep), (12, .keep), (13, .keep), (14, .keep), (15, .keep), (16, .keep)]) (canon m [(0, .keep), (1, .keep), (3, .keep), (4, .keep), (10, .keep), (11, .keep), (12, .keep), (13, .keep), (14, .keep), (15, .keep), (16, .keep)] st) := rfl
theorem c83_31_e : c83_31 = .seq c83_32 c83_37 := rfl
theorem c83_32_e : c83_32 = .seq c83_33 c83_34 := rfl
theorem c83_33_r : RG (E0 mm) 83 c83_33 := rgN rfl
theorem c83_35_e : c83_35 = .skip := rfl
theorem c83_36_e : c83_36 = .exit 0 := rfl
theorem c83_37_e : c83_37 = .block 1 c83_38 := rfl
theorem c83_38_e : c83_38 = .seq c83_39 c83_40 := rfl
theorem c83_39_r : RG (E0 mm) 83 c83_39 := rgN rfl
theorem c83_40_e : c83_40 = .seq c83_41 c83_42 := rfl
theorem c83_41_r : RG (E0 mm) 83 c83_41 := rgN rfl
theorem c83_42_r : RG (E0 mm) 83 c83_42 := rgN rfl
theorem c83_43_e : c83_43 = .seq c83_44 c83_45 := rfl
theorem c83_44_r : RG (E0 mm) 83 c83_44 := rgN rfl
theorem c83_45_r : RG (E0 mm) 83 c83_45 := rgN rfl
theorem c83_46_e : c83_46 = .seq c83_47 c83_48 := rfl
theorem c83_47_r : RG (E0 mm) 83 c83_47 := rgN rfl
theorem c83_48_e : c83_48 = .seq c83_49 c83_65 := rfl
theorem c83_49_e : c83_49 = .block 2 c83_50 := rfl
theorem c83_50_l (m : Nat) (st : St) : den (E0 mm) 83 m (callW (E0 mm)) itW c83_50 none st = loopD itW (loopF (E0 mm) 83 m (callW (E0 mm)) itW c83_51 [(0, .keep), (1, .keep), (3, .keep), (4, .keep), (10, .keep), (11, .keep), (12, .keep), (13, .keep), (17, .keep)]) (canon m [(0, .keep), (1, .keep), (3, .keep), (4, .keep), (10, .keep), (11, .keep), (12, .keep), (13, .keep), (17, .keep)] st) := rfl
theorem c83_51_e : c83_51 = .seq c83_52 c83_57 := rfl
theorem c83_52_e : c83_52 = .seq c83_53 c83_54 := rfl
theorem c83_53_r : RG (E0 mm) 83 c83_53 := rgN rfl
theorem c83_55_e : c83_55 = .skip := rfl
theorem c83_56_e : c83_56 = .exit 2 := rfl
theorem c83_57_e : c83_57 = .block 3 c83_58 := rfl
theorem c83_58_e : c83_58 = .seq c83_59 c83_60 := rfl
theorem c83_59_r : RG (E0 mm) 83 c83_59 := rgN rfl
theorem c83_60_e : c83_60 = .seq c83_61 c83_62 := rfl
theorem c83_61_r : RG (E0 mm) 83 c83_61 := rgN rfl
theorem c83_62_e : c83_62 = .seq c83_63 c83_64 := rfl
theorem c83_63_r : RG (E0 mm) 83 c83_63 := rgN rfl
theorem c83_64_r : RG (E0 mm) 83 c83_64 := rgN rfl
theorem c83_65_e : c83_65 = .seq c83_66 c83_67 := rfl
theorem c83_66_r : RG (E0 mm) 83 c83_66 := rgN rfl
theorem c83_67_r : RG (E0 mm) 83 c83_67 := rgN rfl
theorem c83_68_e : c83_68 = .seq c83_69 c83_76 := rfl
theorem c83_69_e : c83_69 = .seq c83_70 c83_71 := rfl
theorem c83_70_r : RG (E0 mm) 83 c83_70 := rgN rfl
theorem c83_75_e : c83_75 = .skip := rfl
theorem c83_76_e : c83_76 = .seq c83_77 c83_84 := rfl
theorem c83_77_e : c83_77 = .seq c83_78 c83_79 := rfl
theorem c83_78_r : RG (E0 mm) 83 c83_78 := rgN rfl
theorem c83_83_e : c83_83 = .skip := rfl
theorem c83_84_e : c83_84 = .seq c83_85 c83_86 := rfl
theorem c83_85_r : RG (E0 mm) 83 c83_85 := rgN rfl
theorem c83_86_e : c83_86 = .ret := rfl
abbrev R83 := (Bool × List UInt8 × Bs)
def e83 : R83 → AV × Heap := fun x => (.tup [.c (.d (.lst x.1 (enL enB x.2.1))), .c (.d (.sc (.string (S x.2.2))))], [])
def K83_30 : Option (Ex × St) → Option (AV × Heap) := fun r => bodyD (E0 mm) [.tmp 10, .tmp 11] 0 false (seqD (E0 mm) 83 0 (callW (E0 mm)) itW c83_68 (seqD (E0 mm) 83 0 (callW (E0 mm)) itW c83_43 (blockD 0 (r))))
def en83_30 : (List UInt8 × Int × List UInt8 × Bs × Int × List UInt8) → X := fun x => (none, [.v (.c (.d (.lst true (enL enB x.1)))), .v (.c (.d (.sc (.int .u64 x.2.1)))), .v (.c (.d (.sc (.bool false)))), .v (.c (.d (.sc (.bool false)))), .v (.c (.d (.lst true (enL enB x.2.2.1)))), .v (.c (.d (.sc (.string (S x.2.2.2.1))))), .v (.c (.ptr 0 0)), .v (.c (.d (.sc (.int .i64 x.2.2.2.2.1)))), .v (.c (.d (.sc (.int .u64 4)))), .v (.c (.d (.sc (.int .u64 16)))), .v (.c (.d (.sc (.int .u64 15))))], [.cells (enC x.2.2.2.2.2)])
def j83_68 (dst0_1 d10_1 : List UInt8) (s11 : Bs) (i13 : Int) (h0 : List UInt8) : Option R83 :=
  (bnd i13 65).bind fun yk14 =>
    if yk14 + (65 - yk14) ≤ h0.length then
      some (true, d10_1, ((h0.drop yk14).take (65 - yk14)))
    else none
theorem j83_68_t (dst0_1 d10_1 : List UInt8) (s11 : Bs) (i13 : Int) (h0 : List UInt8)  (sl : Nat → AV) (zq0 : sl 0 = .v (.c (.d (.lst true (enL enB dst0_1))))) (zq3 : sl 3 = .v (.c (.d (.sc (.bool false))))) (zq4 : sl 4 = .v (.c (.d (.sc (.bool false))))) (zq10 : sl 10 = .v (.c (.d (.lst true (enL enB d10_1))))) (zq11 : sl 11 = .v (.c (.d (.sc (.string (S s11)))))) (zq12 : sl 12 = .v (.c (.ptr 0 0))) (zq13 : sl 13 = .v (.c (.d (.sc (.int .i64 i13))))) :
    bodyD (E0 mm) [.tmp 10, .tmp 11] 0 false (den (E0 mm) 83 0 (callW (E0 mm)) itW c83_68 none ⟨sl, [.cells (enC h0)]⟩) = (j83_68 dst0_1 d10_1 s11 i13 h0).map e83 := by
  simp -implicitDefEqProofs only [j83_68, c83_68_e, c83_69_e, c83_70_r, (show opsOf c83_70 = _ :: _ from rfl), (show c83_71 = Code.cond _ c83_72 c83_75 from rfl), c83_75_e, c83_76_e, c83_77_e, c83_78_r, (show opsOf c83_78 = _ :: _ from rfl), (show c83_79 = Code.cond _ c83_80 c83_83 from rfl), c83_83_e, c83_84_e, c83_85_r, (show opsOf c83_85 = _ :: _ from rfl), Tryd.underlying113, sz5, Option.getD_none, Option.getD_some, Option.map_none, Option.map_some, Nat.zero_add, Nat.sub_zero, Nat.zero_mul, Nat.mul_one, (show bnd 65 65 = some 65 from rfl), zq0, zq3, zq4, zq10, zq11, zq12, zq13, setA, setB, za, zb, zc, zd, ze, zf, zg, zh, zi, zj, zk, zl, zm, zn, zo, zp, reduceCtorEq, zE, ↓reduceIte]
  refine brM (fun yc13 => ?_) (fun yk14 yc13 => ?_)
  · rw [yc13]; rfl
  · simp -implicitDefEqProofs only [Tryd.underlying22, Tryd.underlying9, Tryd.underlying5, enC_length, enC_take, mapM_enC, enC_drop, zq0, zq3, zq4, zq10, zq11, zq12, zq13, yc13, setA, setB, za, zb, zc, zd, ze, zf, zg, zh, zi, zj, zk, zl, zm, zn, zo, zp, reduceCtorEq, zE, ↓reduceIte]
    refine brP (fun yc15 => ?_) (fun yc15 => ?_)
    · simp -implicitDefEqProofs only [enC_length, enC_take, mapM_enC, enC_drop, (chunk_enDd yk14 (65 - yk14) h0 yc15), c83_86_e, zq0, zq3, zq4, zq10, zq11, zq12, zq13, yc13, yc15, setA, setB, za, zb, zc, zd, ze, zf, zg, zh, zi, zj, zk, zl, zm, zn, zo, zp, reduceCtorEq, zE, ↓reduceIte]
      all_goals rfl
    · rw [if_neg yc15]; rfl
def j83_43 (dst0_1 : List UInt8) (u1 : Int) (d10_1 : List UInt8) (s11 : Bs) (i13 : Int) (h0 : List UInt8) : Option R83 :=
  if 0 ≤ u1 ∧ u1 < 36 then
    if 0 ≤ (w64 (i13 - 1)) ∧ (w64 (i13 - 1)) < 65 then
      if (w64 (i13 - 1)).toNat < h0.length then
        j83_68 dst0_1 d10_1 s11 (w64 (i13 - 1)) (h0.set ((w64 (i13 - 1)).toNat) (([48, 49, 50, 51, 52, 53, 54, 55, 56, 57, 97, 98, 99, 100, 101, 102, 103, 104, 105, 106, 107, 108, 109, 110, 111, 112, 113, 114, 115, 116, 117, 118, 119, 120, 121, 122] : Bs).getD u1.toNat 0))
      else none
    else none
  else none
theorem j83_43_t (dst0_1 : List UInt8) (u1 : Int) (d10_1 : List UInt8) (s11 : Bs) (i13 : Int) (h0 : List UInt8)  (sl : Nat → AV) (zq0 : sl 0 = .v (.c (.d (.lst true (enL enB dst0_1))))) (zq1 : sl 1 = .v (.c (.d (.sc (.int .u64 u1))))) (zq3 : sl 3 = .v (.c (.d (.sc (.bool false))))) (zq4 : sl 4 = .v (.c (.d (.sc (.bool false))))) (zq10 : sl 10 = .v (.c (.d (.lst true (enL enB d10_1))))) (zq11 : sl 11 = .v (.c (.d (.sc (.string (S s11)))))) (zq12 : sl 12 = .v (.c (.ptr 0 0))) (zq13 : sl 13 = .v (.c (.d (.sc (.int .i64 i13))))) :
    bodyD (E0 mm) [.tmp 10, .tmp 11] 0 false (seqD (E0 mm) 83 0 (callW (E0 mm)) itW c83_68 (den (E0 mm) 83 0 (callW (E0 mm)) itW c83_43 none ⟨sl, [.cells (enC h0)]⟩)) = (j83_43 dst0_1 u1 d10_1 s11 i13 h0).map e83 := by
  simp -implicitDefEqProofs only [j83_43, c83_43_e, c83_44_r, (show opsOf c83_44 = _ :: _ from rfl), c83_45_r, (show opsOf c83_45 = _ :: _ from rfl), Tryd.underlying9, zq0, zq1, zq3, zq4, zq10, zq11, zq12, zq13, setA, setB, za, zb, zc, zd, ze, zf, zg, zh, zi, zj, zk, zl, zm, zn, zo, zp, reduceCtorEq, zE, ↓reduceIte]
  refine brP (fun yc9 => ?_) (fun yc9 => ?_)
  · simp -implicitDefEqProofs only [Tryd.underlying113, sz5, zq0, zq1, zq3, zq4, zq10, zq11, zq12, zq13, yc9, setA, setB, za, zb, zc, zd, ze, zf, zg, zh, zi, zj, zk, zl, zm, zn, zo, zp, reduceCtorEq, zE, ↓reduceIte]
    refine brP (fun yc10 => ?_) (fun yc10 => ?_)
    · have yd11 : (w64 (i13 - 1)).toNat < 65 := by omega
      simp -implicitDefEqProofs only [sz5, enC_length, enC_wr, zq0, zq1, zq3, zq4, zq10, zq11, zq12, zq13, yc9, yc10, yd11, setA, setB, za, zb, zc, zd, ze, zf, zg, zh, zi, zj, zk, zl, zm, zn, zo, zp, reduceCtorEq, zE, ↓reduceIte]
      refine brP (fun yc12 => ?_) (fun yc12 => ?_)
      · simp -implicitDefEqProofs only [zq0, zq1, zq3, zq4, zq10, zq11, zq12, zq13, yc9, yc10, yd11, yc12, setA, setB, za, zb, zc, zd, ze, zf, zg, zh, zi, zj, zk, zl, zm, zn, zo, zp, reduceCtorEq, zE, ↓reduceIte]
        exact j83_68_t dst0_1 d10_1 s11 (w64 (i13 - 1)) (h0.set ((w64 (i13 - 1)).toNat) (([48, 49, 50, 51, 52, 53, 54, 55, 56, 57, 97, 98, 99, 100, 101, 102, 103, 104, 105, 106, 107, 108, 109, 110, 111, 112, 113, 114, 115, 116, 117, 118, 119, 120, 121, 122] : Bs).getD u1.toNat 0)) _ (by exact zq0) (by exact zq3) (by exact zq4) (by exact zq10) (by exact zq11) (by exact zq12) (by rfl)
      · rw [if_neg yc12]; rfl
    · rw [if_neg yc10]; rfl
  · rw [if_neg yc9]; rfl
def s83_30 (dst0_1 : List UInt8) (u1 : Int) (d10_1 : List UInt8) (s11 : Bs) (i13 : Int) (h0 : List UInt8) : Option ((List UInt8 × Int × List UInt8 × Bs × Int × List UInt8) ⊕ R83) :=
  if (decide (16 ≤ u1)) = true then
    if 0 ≤ (ib_and .u64 u1 15) ∧ (ib_and .u64 u1 15) < 36 then
      if 0 ≤ (w64 (i13 - 1)) ∧ (w64 (i13 - 1)) < 65 then
        if (w64 (i13 - 1)).toNat < h0.length then
          some (.inl (dst0_1, (ib_shr .u64 u1 4), d10_1, s11, (w64 (i13 - 1)), (h0.set ((w64 (i13 - 1)).toNat) (([48, 49, 50, 51, 52, 53, 54, 55, 56, 57, 97, 98, 99, 100, 101, 102, 103, 104, 105, 106, 107, 108, 109, 110, 111, 112, 113, 114, 115, 116, 117, 118, 119, 120, 121, 122] : Bs).getD (ib_and .u64 u1 15).toNat 0))))
        else none
      else none
    else none
  else
    (j83_43 dst0_1 u1 d10_1 s11 i13 h0).map .inr
theorem s83_30_t (dst0_1 : List UInt8) (u1 : Int) (d10_1 : List UInt8) (s11 : Bs) (i13 : Int) (h0 : List UInt8) :
    stepE (K83_30 (mm := mm)) (loopF (E0 mm) 83 0 (callW (E0 mm)) itW c83_31 [(0, .keep), (1, .keep), (3, .keep), (4, .keep), (10, .keep), (11, .keep), (12, .keep), (13, .keep), (14, .keep), (15, .keep), (16, .keep)] (none, [.v (.c (.d (.lst true (enL enB dst0_1)))), .v (.c (.d (.sc (.int .u64 u1)))), .v (.c (.d (.sc (.bool false)))), .v (.c (.d (.sc (.bool false)))), .v (.c (.d (.lst true (enL enB d10_1)))), .v (.c (.d (.sc (.string (S s11))))), .v (.c (.ptr 0 0)), .v (.c (.d (.sc (.int .i64 i13)))), .v (.c (.d (.sc (.int .u64 4)))), .v (.c (.d (.sc (.int .u64 16)))), .v (.c (.d (.sc (.int .u64 15))))], [.cells (enC h0)])) = (s83_30 dst0_1 u1 d10_1 s11 i13 h0).map (sm en83_30 e83) := by
  simp -implicitDefEqProofs only [s83_30, loopF_eq, c83_31_e, c83_32_e, c83_33_r, (show opsOf c83_33 = _ :: _ from rfl), (show c83_34 = Code.cond _ c83_35 c83_36 from rfl), setA, setB, za, zb, zc, zd, ze, zf, zg, zh, zi, zj, zk, zl, zm, zn, zo, zp, reduceCtorEq, zE, ↓reduceIte]
  refine brB (fun yc4 => ?_) (fun yc4 => ?_)
  · simp -implicitDefEqProofs only [c83_35_e, c83_37_e, c83_38_e, c83_39_r, (show opsOf c83_39 = _ :: _ from rfl), c83_40_e, c83_41_r, (show opsOf c83_41 = _ :: _ from rfl), ev_and, Tryd.underlying9, yc4, setA, setB, za, zb, zc, zd, ze, zf, zg, zh, zi, zj, zk, zl, zm, zn, zo, zp, reduceCtorEq, zE, ↓reduceIte]
    refine brP (fun yc5 => ?_) (fun yc5 => ?_)
    · simp -implicitDefEqProofs only [Tryd.underlying113, sz5, yc4, yc5, setA, setB, za, zb, zc, zd, ze, zf, zg, zh, zi, zj, zk, zl, zm, zn, zo, zp, reduceCtorEq, zE, ↓reduceIte]
      refine brP (fun yc6 => ?_) (fun yc6 => ?_)
      · have yd7 : (w64 (i13 - 1)).toNat < 65 := by omega
        simp -implicitDefEqProofs only [sz5, enC_length, enC_wr, yc4, yc5, yc6, yd7, setA, setB, za, zb, zc, zd, ze, zf, zg, zh, zi, zj, zk, zl, zm, zn, zo, zp, reduceCtorEq, zE, ↓reduceIte]
        refine brP (fun yc8 => ?_) (fun yc8 => ?_)
        · simp -implicitDefEqProofs only [c83_42_r, (show opsOf c83_42 = _ :: _ from rfl), ev_shr, not_false_eq_true, yc4, yc5, yc6, yd7, yc8, setA, setB, za, zb, zc, zd, ze, zf, zg, zh, zi, zj, zk, zl, zm, zn, zo, zp, reduceCtorEq, zE, ↓reduceIte]
          all_goals rfl
        · rw [if_neg yc8]; rfl
      · rw [if_neg yc6]; rfl
    · rw [if_neg yc5]; rfl
  · simp -implicitDefEqProofs only [c83_36_e, K83_30, yc4, setA, setB, za, zb, zc, zd, ze, zf, zg, zh, zi, zj, zk, zl, zm, zn, zo, zp, reduceCtorEq, zE, ↓reduceIte]
    exact mi (j83_43_t dst0_1 u1 d10_1 s11 i13 h0 _ (by rfl) (by rfl) (by rfl) (by rfl) (by rfl) (by rfl) (by rfl) (by rfl))
def l83_30 (dst0_1 : List UInt8) (u1 : Int) (d10_1 : List UInt8) (s11 : Bs) (i13 : Int) (h0 : List UInt8) : Option R83 := iter (fun x : (List UInt8 × Int × List UInt8 × Bs × Int × List UInt8) => s83_30 x.1 x.2.1 x.2.2.1 x.2.2.2.1 x.2.2.2.2.1 x.2.2.2.2.2) (dst0_1, u1, d10_1, s11, i13, h0)
theorem l83_30_t (dst0_1 : List UInt8) (u1 : Int) (d10_1 : List UInt8) (s11 : Bs) (i13 : Int) (h0 : List UInt8) : bodyD (E0 mm) [.tmp 10, .tmp 11] 0 false (seqD (E0 mm) 83 0 (callW (E0 mm)) itW c83_68 (seqD (E0 mm) 83 0 (callW (E0 mm)) itW c83_43 (blockD 0 (itW (loopF (E0 mm) 83 0 (callW (E0 mm)) itW c83_31 [(0, .keep), (1, .keep), (3, .keep), (4, .keep), (10, .keep), (11, .keep), (12, .keep), (13, .keep), (14, .keep), (15, .keep), (16, .keep)]) (none, [.v (.c (.d (.lst true (enL enB dst0_1)))), .v (.c (.d (.sc (.int .u64 u1)))), .v (.c (.d (.sc (.bool false)))), .v (.c (.d (.sc (.bool false)))), .v (.c (.d (.lst true (enL enB d10_1)))), .v (.c (.d (.sc (.string (S s11))))), .v (.c (.ptr 0 0)), .v (.c (.d (.sc (.int .i64 i13)))), .v (.c (.d (.sc (.int .u64 4)))), .v (.c (.d (.sc (.int .u64 16)))), .v (.c (.d (.sc (.int .u64 15))))], [.cells (enC h0)]))))) = (l83_30 dst0_1 u1 d10_1 s11 i13 h0).map e83 :=
  it_sim (K := (K83_30 (mm := mm))) rfl (enc := en83_30) (fun x => s83_30_t x.1 x.2.1 x.2.2.1 x.2.2.2.1 x.2.2.2.2.1 x.2.2.2.2.2) (dst0_1, u1, d10_1, s11, i13, h0)
def K83_50 : Option (Ex × St) → Option (AV × Heap) := fun r => bodyD (E0 mm) [.tmp 10, .tmp 11] 0 false (seqD (E0 mm) 83 0 (callW (E0 mm)) itW c83_68 (seqD (E0 mm) 83 0 (callW (E0 mm)) itW c83_65 (blockD 2 (r))))
def en83_50 : (List UInt8 × Int × List UInt8 × Bs × Int × List UInt8) → X := fun x => (none, [.v (.c (.d (.lst true (enL enB x.1)))), .v (.c (.d (.sc (.int .u64 x.2.1)))), .v (.c (.d (.sc (.bool false)))), .v (.c (.d (.sc (.bool false)))), .v (.c (.d (.lst true (enL enB x.2.2.1)))), .v (.c (.d (.sc (.string (S x.2.2.2.1))))), .v (.c (.ptr 0 0)), .v (.c (.d (.sc (.int .i64 x.2.2.2.2.1)))), .v (.c (.d (.sc (.int .u64 16))))], [.cells (enC x.2.2.2.2.2)])
def j83_65 (dst0_1 : List UInt8) (u1 : Int) (d10_1 : List UInt8) (s11 : Bs) (i13 : Int) (h0 : List UInt8) : Option R83 :=
  if 0 ≤ u1 ∧ u1 < 36 then
    if 0 ≤ (w64 (i13 - 1)) ∧ (w64 (i13 - 1)) < 65 then
      if (w64 (i13 - 1)).toNat < h0.length then
        j83_68 dst0_1 d10_1 s11 (w64 (i13 - 1)) (h0.set ((w64 (i13 - 1)).toNat) (([48, 49, 50, 51, 52, 53, 54, 55, 56, 57, 97, 98, 99, 100, 101, 102, 103, 104, 105, 106, 107, 108, 109, 110, 111, 112, 113, 114, 115, 116, 117, 118, 119, 120, 121, 122] : Bs).getD u1.toNat 0))
      else none
    else none
  else none
theorem j83_65_t (dst0_1 : List UInt8) (u1 : Int) (d10_1 : List UInt8) (s11 : Bs) (i13 : Int) (h0 : List UInt8)  (sl : Nat → AV) (zq0 : sl 0 = .v (.c (.d (.lst true (enL enB dst0_1))))) (zq1 : sl 1 = .v (.c (.d (.sc (.int .u64 u1))))) (zq3 : sl 3 = .v (.c (.d (.sc (.bool false))))) (zq4 : sl 4 = .v (.c (.d (.sc (.bool false))))) (zq10 : sl 10 = .v (.c (.d (.lst true (enL enB d10_1))))) (zq11 : sl 11 = .v (.c (.d (.sc (.string (S s11)))))) (zq12 : sl 12 = .v (.c (.ptr 0 0))) (zq13 : sl 13 = .v (.c (.d (.sc (.int .i64 i13))))) :
    bodyD (E0 mm) [.tmp 10, .tmp 11] 0 false (seqD (E0 mm) 83 0 (callW (E0 mm)) itW c83_68 (den (E0 mm) 83 0 (callW (E0 mm)) itW c83_65 none ⟨sl, [.cells (enC h0)]⟩)) = (j83_65 dst0_1 u1 d10_1 s11 i13 h0).map e83 := by
  simp -implicitDefEqProofs only [j83_65, c83_65_e, c83_66_r, (show opsOf c83_66 = _ :: _ from rfl), c83_67_r, (show opsOf c83_67 = _ :: _ from rfl), Tryd.underlying9, zq0, zq1, zq3, zq4, zq10, zq11, zq12, zq13, setA, setB, za, zb, zc, zd, ze, zf, zg, zh, zi, zj, zk, zl, zm, zn, zo, zp, reduceCtorEq, zE, ↓reduceIte]
  refine brP (fun yc21 => ?_) (fun yc21 => ?_)
  · simp -implicitDefEqProofs only [Tryd.underlying113, sz5, zq0, zq1, zq3, zq4, zq10, zq11, zq12, zq13, yc21, setA, setB, za, zb, zc, zd, ze, zf, zg, zh, zi, zj, zk, zl, zm, zn, zo, zp, reduceCtorEq, zE, ↓reduceIte]
    refine brP (fun yc22 => ?_) (fun yc22 => ?_)
    · have yd23 : (w64 (i13 - 1)).toNat < 65 := by omega
      simp -implicitDefEqProofs only [sz5, enC_length, enC_wr, zq0, zq1, zq3, zq4, zq10, zq11, zq12, zq13, yc21, yc22, yd23, setA, setB, za, zb, zc, zd, ze, zf, zg, zh, zi, zj, zk, zl, zm, zn, zo, zp, reduceCtorEq, zE, ↓reduceIte]
      refine brP (fun yc24 => ?_) (fun yc24 => ?_)
      · simp -implicitDefEqProofs only [zq0, zq1, zq3, zq4, zq10, zq11, zq12, zq13, yc21, yc22, yd23, yc24, setA, setB, za, zb, zc, zd, ze, zf, zg, zh, zi, zj, zk, zl, zm, zn, zo, zp, reduceCtorEq, zE, ↓reduceIte]
        exact j83_68_t dst0_1 d10_1 s11 (w64 (i13 - 1)) (h0.set ((w64 (i13 - 1)).toNat) (([48, 49, 50, 51, 52, 53, 54, 55, 56, 57, 97, 98, 99, 100, 101, 102, 103, 104, 105, 106, 107, 108, 109, 110, 111, 112, 113, 114, 115, 116, 117, 118, 119, 120, 121, 122] : Bs).getD u1.toNat 0)) _ (by exact zq0) (by exact zq3) (by exact zq4) (by exact zq10) (by exact zq11) (by exact zq12) (by rfl)
      · rw [if_neg yc24]; rfl
    · rw [if_neg yc22]; rfl
  · rw [if_neg yc21]; rfl
def s83_50 (dst0_1 : List UInt8) (u1 : Int) (d10_1 : List UInt8) (s11 : Bs) (i13 : Int) (h0 : List UInt8) : Option ((List UInt8 × Int × List UInt8 × Bs × Int × List UInt8) ⊕ R83) :=
  if (decide (16 ≤ u1)) = true then
    if 0 ≤ (wu64 (u1 - (wu64 ((wu64 (u1.tdiv 16)) * 16)))) ∧ (wu64 (u1 - (wu64 ((wu64 (u1.tdiv 16)) * 16)))) < 36 then
      if 0 ≤ (w64 (i13 - 1)) ∧ (w64 (i13 - 1)) < 65 then
        if (w64 (i13 - 1)).toNat < h0.length then
          some (.inl (dst0_1, (wu64 (u1.tdiv 16)), d10_1, s11, (w64 (i13 - 1)), (h0.set ((w64 (i13 - 1)).toNat) (([48, 49, 50, 51, 52, 53, 54, 55, 56, 57, 97, 98, 99, 100, 101, 102, 103, 104, 105, 106, 107, 108, 109, 110, 111, 112, 113, 114, 115, 116, 117, 118, 119, 120, 121, 122] : Bs).getD (wu64 (u1 - (wu64 ((wu64 (u1.tdiv 16)) * 16)))).toNat 0))))
        else none
      else none
    else none
  else
    (j83_65 dst0_1 u1 d10_1 s11 i13 h0).map .inr
theorem s83_50_t (dst0_1 : List UInt8) (u1 : Int) (d10_1 : List UInt8) (s11 : Bs) (i13 : Int) (h0 : List UInt8) :
    stepE (K83_50 (mm := mm)) (loopF (E0 mm) 83 0 (callW (E0 mm)) itW c83_51 [(0, .keep), (1, .keep), (3, .keep), (4, .keep), (10, .keep), (11, .keep), (12, .keep), (13, .keep), (17, .keep)] (none, [.v (.c (.d (.lst true (enL enB dst0_1)))), .v (.c (.d (.sc (.int .u64 u1)))), .v (.c (.d (.sc (.bool false)))), .v (.c (.d (.sc (.bool false)))), .v (.c (.d (.lst true (enL enB d10_1)))), .v (.c (.d (.sc (.string (S s11))))), .v (.c (.ptr 0 0)), .v (.c (.d (.sc (.int .i64 i13)))), .v (.c (.d (.sc (.int .u64 16))))], [.cells (enC h0)])) = (s83_50 dst0_1 u1 d10_1 s11 i13 h0).map (sm en83_50 e83) := by
  simp -implicitDefEqProofs only [s83_50, loopF_eq, c83_51_e, c83_52_e, c83_53_r, (show opsOf c83_53 = _ :: _ from rfl), (show c83_54 = Code.cond _ c83_55 c83_56 from rfl), setA, setB, za, zb, zc, zd, ze, zf, zg, zh, zi, zj, zk, zl, zm, zn, zo, zp, reduceCtorEq, zE, ↓reduceIte]
  refine brB (fun yc16 => ?_) (fun yc16 => ?_)
  · simp -implicitDefEqProofs only [c83_55_e, c83_57_e, c83_58_e, c83_59_r, (show opsOf c83_59 = _ :: _ from rfl), c83_60_e, c83_61_r, (show opsOf c83_61 = _ :: _ from rfl), c83_62_e, c83_63_r, (show opsOf c83_63 = _ :: _ from rfl), Tryd.underlying9, yc16, setA, setB, za, zb, zc, zd, ze, zf, zg, zh, zi, zj, zk, zl, zm, zn, zo, zp, reduceCtorEq, zE, ↓reduceIte]
    refine brP (fun yc17 => ?_) (fun yc17 => ?_)
    · simp -implicitDefEqProofs only [Tryd.underlying113, sz5, yc16, yc17, setA, setB, za, zb, zc, zd, ze, zf, zg, zh, zi, zj, zk, zl, zm, zn, zo, zp, reduceCtorEq, zE, ↓reduceIte]
      refine brP (fun yc18 => ?_) (fun yc18 => ?_)
      · have yd19 : (w64 (i13 - 1)).toNat < 65 := by omega
        simp -implicitDefEqProofs only [sz5, enC_length, enC_wr, yc16, yc17, yc18, yd19, setA, setB, za, zb, zc, zd, ze, zf, zg, zh, zi, zj, zk, zl, zm, zn, zo, zp, reduceCtorEq, zE, ↓reduceIte]
        refine brP (fun yc20 => ?_) (fun yc20 => ?_)
        · simp -implicitDefEqProofs only [c83_64_r, (show opsOf c83_64 = _ :: _ from rfl), yc16, yc17, yc18, yd19, yc20, setA, setB, za, zb, zc, zd, ze, zf, zg, zh, zi, zj, zk, zl, zm, zn, zo, zp, reduceCtorEq, zE, ↓reduceIte]
          all_goals rfl
        · rw [if_neg yc20]; rfl
      · rw [if_neg yc18]; rfl
    · rw [if_neg yc17]; rfl
  · simp -implicitDefEqProofs only [c83_56_e, K83_50, yc16, setA, setB, za, zb, zc, zd, ze, zf, zg, zh, zi, zj, zk, zl, zm, zn, zo, zp, reduceCtorEq, zE, ↓reduceIte]
    exact mi (j83_65_t dst0_1 u1 d10_1 s11 i13 h0 _ (by rfl) (by rfl) (by rfl) (by rfl) (by rfl) (by rfl) (by rfl) (by rfl))
def l83_50 (dst0_1 : List UInt8) (u1 : Int) (d10_1 : List UInt8) (s11 : Bs) (i13 : Int) (h0 : List UInt8) : Option R83 := iter (fun x : (List UInt8 × Int × List UInt8 × Bs × Int × List UInt8) => s83_50 x.1 x.2.1 x.2.2.1 x.2.2.2.1 x.2.2.2.2.1 x.2.2.2.2.2) (dst0_1, u1, d10_1, s11, i13, h0)
theorem l83_50_t (dst0_1 : List UInt8) (u1 : Int) (d10_1 : List UInt8) (s11 : Bs) (i13 : Int) (h0 : List UInt8) : bodyD (E0 mm) [.tmp 10, .tmp 11] 0 false (seqD (E0 mm) 83 0 (callW (E0 mm)) itW c83_68 (seqD (E0 mm) 83 0 (callW (E0 mm)) itW c83_65 (blockD 2 (itW (loopF (E0 mm) 83 0 (callW (E0 mm)) itW c83_51 [(0, .keep), (1, .keep), (3, .keep), (4, .keep), (10, .keep), (11, .keep), (12, .keep), (13, .keep), (17, .keep)]) (none, [.v (.c (.d (.lst true (enL enB dst0_1)))), .v (.c (.d (.sc (.int .u64 u1)))), .v (.c (.d (.sc (.bool false)))), .v (.c (.d (.sc (.bool false)))), .v (.c (.d (.lst true (enL enB d10_1)))), .v (.c (.d (.sc (.string (S s11))))), .v (.c (.ptr 0 0)), .v (.c (.d (.sc (.int .i64 i13)))), .v (.c (.d (.sc (.int .u64 16))))], [.cells (enC h0)]))))) = (l83_50 dst0_1 u1 d10_1 s11 i13 h0).map e83 :=
  it_sim (K := (K83_50 (mm := mm))) rfl (enc := en83_50) (fun x => s83_50_t x.1 x.2.1 x.2.2.1 x.2.2.2.1 x.2.2.2.2.1 x.2.2.2.2.2) (dst0_1, u1, d10_1, s11, i13, h0)
def m83 (u : Int) : Option R83 :=
  (m92).bind fun yr2 =>
    if yr2 = true then
      l83_30 ([] : List UInt8) u ([] : List UInt8) ([] : Bs) (65 : Int) (zB 65)
    else
      l83_50 ([] : List UInt8) u ([] : List UInt8) ([] : Bs) (65 : Int) (zB 65)
theorem f83_t (u : Int) :
    callW (E0 mm) 83 [.c (.d (.lst true [])), .c (.d (.sc (.int .u64 u))), .c (.d (.sc (.int .i64 16))), .c (.d (.sc (.bool false))), .c (.d (.sc (.bool false)))] [] = (m83 u).map e83 := by
  rw [callW_run (body := c83_0) (res := [.tmp 10, .tmp 11]) Tryd.func83 rfl rfl (by kernel_rfl)]
  simp -implicitDefEqProofs only [m83, slots5, c83_0_e, c83_1_r, (show opsOf c83_1 = _ :: _ from rfl), c83_2_e, c83_3_e, c83_4_r, (show opsOf c83_4 = _ :: _ from rfl), (show c83_5 = Code.cond _ c83_6 c83_7 from rfl), c83_7_e, c83_8_e, c83_9_r, (show opsOf c83_9 = _ :: _ from rfl), ao0, zy113, c83_10_e, c83_11_r, (show opsOf c83_11 = _ :: _ from rfl), c83_12_e, c83_13_e, c83_14_r, (show opsOf c83_14 = _ :: _ from rfl), (show c83_15 = Code.cond _ c83_16 c83_17 from rfl), c83_17_e, c83_18_e, c83_19_e, c83_20_r, (show opsOf c83_20 = _ :: _ from rfl), ent92, prm92, f92_t, setA, setB, za, zb, zc, zd, ze, zf, zg, zh, zi, zj, zk, zl, zm, zn, zo, zp, reduceCtorEq, zE, ↓reduceIte]
  refine brM (fun yc1 => ?_) (fun yr2 yc1 => ?_)
  · rw [yc1]; rfl
  · simp -implicitDefEqProofs only [e92, (show c83_21 = Code.cond _ c83_22 c83_46 from rfl), yc1, setA, setB, za, zb, zc, zd, ze, zf, zg, zh, zi, zj, zk, zl, zm, zn, zo, zp, reduceCtorEq, zE, ↓reduceIte]
    refine brB (fun yc3 => ?_) (fun yc3 => ?_)
    · simp -implicitDefEqProofs only [c83_22_e, c83_23_r, (show opsOf c83_23 = _ :: _ from rfl), Tryd.underlying3, Tryd.underlying61, ent93, prm93, f93_t, c83_24_e, c83_25_r, (show opsOf c83_25 = _ :: _ from rfl), Tryd.underlying43, c83_26_e, c83_27_r, (show opsOf c83_27 = _ :: _ from rfl), c83_28_e, c83_29_e, c83_30_l, yc1, yc3, setA, setB, za, zb, zc, zd, ze, zf, zg, zh, zi, zj, zk, zl, zm, zn, zo, zp, reduceCtorEq, zE, ↓reduceIte]
      exact l83_30_t ([] : List UInt8) u ([] : List UInt8) ([] : Bs) (65 : Int) (zB 65)
    · simp -implicitDefEqProofs only [c83_46_e, c83_47_r, (show opsOf c83_47 = _ :: _ from rfl), Tryd.underlying3, Tryd.underlying43, c83_48_e, c83_49_e, c83_50_l, yc1, yc3, setA, setB, za, zb, zc, zd, ze, zf, zg, zh, zi, zj, zk, zl, zm, zn, zo, zp, reduceCtorEq, zE, ↓reduceIte]
      exact l83_50_t ([] : List UInt8) u ([] : List UInt8) ([] : Bs) (65 : Int) (zB 65)
noncomputable def c70_0 : Code := bodyOf Tryd.f70
def c70_1 := cA c70_0
def c70_2 := cB c70_0
def c70_3 := cA c70_2
def c70_4 := cA c70_3
def c70_5 := cB c70_3
def c70_6 := cA c70_5
def c70_23 := cB c70_5
def c70_24 := cB c70_2
def c70_25 := cA c70_24
def c70_26 := cB c70_24
def c70_27 := cA c70_26
def c70_28 := cB c70_26
theorem c70_0_e : c70_0 = .seq c70_1 c70_2 := rfl
theorem c70_1_r : RG (E0 mm) 70 c70_1 := rgN rfl
theorem c70_2_e : c70_2 = .seq c70_3 c70_24 := rfl
theorem c70_3_e : c70_3 = .seq c70_4 c70_5 := rfl
theorem c70_4_r : RG (E0 mm) 70 c70_4 := rgN rfl
theorem c70_23_e : c70_23 = .skip := rfl
theorem c70_24_e : c70_24 = .seq c70_25 c70_26 := rfl
theorem c70_25_r : RG (E0 mm) 70 c70_25 := rgN rfl
theorem c70_26_e : c70_26 = .seq c70_27 c70_28 := rfl
theorem c70_27_r : RG (E0 mm) 70 c70_27 := rgN rfl
theorem c70_28_e : c70_28 = .ret := rfl
abbrev R70 := (Bs)
def e70 : R70 → AV × Heap := fun x => (.v (.c (.d (.sc (.string (S x))))), [])
def m70 (i : Int) : Option R70 :=
  (m83 i).bind fun yr2 =>
    some yr2.2.2
theorem f70_t (i : Int) :
    callW (E0 mm) 70 [.c (.d (.sc (.int .u64 i))), .c (.d (.sc (.int .i64 16)))] [] = (m70 i).map e70 := by
  rw [callW_run (body := c70_0) (res := [.tmp 4]) Tryd.func70 rfl rfl (by kernel_rfl)]
  simp -implicitDefEqProofs only [m70, slots2, c70_0_e, c70_1_r, (show opsOf c70_1 = _ :: _ from rfl), c70_2_e, c70_3_e, c70_4_r, (show opsOf c70_4 = _ :: _ from rfl), (show c70_5 = Code.cond _ c70_6 c70_23 from rfl), c70_23_e, c70_24_e, c70_25_r, (show opsOf c70_25 = _ :: _ from rfl), ent83, prm83, f83_t, setA, setB, za, zb, zc, zd, ze, zf, zg, zh, zi, zj, zk, zl, zm, zn, zo, zp, reduceCtorEq, zE, ↓reduceIte]
  refine brM (fun yc1 => ?_) (fun yr2 yc1 => ?_)
  · rw [yc1]; rfl
  · simp -implicitDefEqProofs only [e83, c70_26_e, c70_27_r, (show opsOf c70_27 = _ :: _ from rfl), c70_28_e, yc1, setA, setB, za, zb, zc, zd, ze, zf, zg, zh, zi, zj, zk, zl, zm, zn, zo, zp, reduceCtorEq, zE, ↓reduceIte]
    all_goals rfl
noncomputable def c56_0 : Code := bodyOf Tryd.f56
def c56_1 := cA c56_0
def c56_2 := cB c56_0
def c56_3 := cA c56_2
def c56_4 := cB c56_2
theorem c56_0_e : c56_0 = .seq c56_1 c56_2 := rfl
theorem c56_1_r : RG (E0 mm) 56 c56_1 := rgN rfl
theorem c56_2_e : c56_2 = .seq c56_3 c56_4 := rfl
theorem c56_3_r : RG (E0 mm) 56 c56_3 := rgN rfl
theorem c56_4_e : c56_4 = .ret := rfl
abbrev R56 := (Bs)
def e56 : R56 → AV × Heap := fun x => (.v (.c (.d (.sc (.string (S x))))), [])
def m56 (i : Int) : Option R56 :=
  (m70 i).bind fun yr2 =>
    some yr2
theorem f56_t (i : Int) :
    callW (E0 mm) 56 [.c (.d (.sc (.int .u64 i))), .c (.d (.sc (.int .i64 16)))] [] = (m56 i).map e56 := by
  rw [callW_run (body := c56_0) (res := [.tmp 4]) Tryd.func56 rfl rfl (by kernel_rfl)]
  simp -implicitDefEqProofs only [m56, slots2, c56_0_e, c56_1_r, (show opsOf c56_1 = _ :: _ from rfl), c56_2_e, c56_3_r, (show opsOf c56_3 = _ :: _ from rfl), ent70, prm70, f70_t, setA, setB, za, zb, zc, zd, ze, zf, zg, zh, zi, zj, zk, zl, zm, zn, zo, zp, reduceCtorEq, zE, ↓reduceIte]
  refine brM (fun yc1 => ?_) (fun yr2 yc1 => ?_)
  · rw [yc1]; rfl
  · simp -implicitDefEqProofs only [e70, c56_4_e, yc1, setA, setB, za, zb, zc, zd, ze, zf, zg, zh, zi, zj, zk, zl, zm, zn, zo, zp, reduceCtorEq, zE, ↓reduceIte]
    all_goals rfl
noncomputable def c42_0 : Code := bodyOf Tryd.f42
def c42_1 := cA c42_0
def c42_2 := cB c42_0
def c42_3 := cA c42_2
def c42_4 := cA c42_3
def c42_5 := cB c42_3
def c42_6 := cA c42_5
def c42_7 := cA c42_6
def c42_8 := cB c42_6
def c42_9 := cB c42_5
def c42_10 := cB c42_2
def c42_11 := cA c42_10
def c42_12 := cB c42_10
theorem c42_0_e : c42_0 = .seq c42_1 c42_2 := rfl
theorem c42_1_r : RG (E0 mm) 42 c42_1 := rgN rfl
theorem c42_2_e : c42_2 = .seq c42_3 c42_10 := rfl
theorem c42_3_e : c42_3 = .seq c42_4 c42_5 := rfl
theorem c42_4_r : RG (E0 mm) 42 c42_4 := rgN rfl
theorem c42_6_e : c42_6 = .seq c42_7 c42_8 := rfl
theorem c42_7_r : RG (E0 mm) 42 c42_7 := rgN rfl
theorem c42_8_e : c42_8 = .ret := rfl
theorem c42_9_e : c42_9 = .skip := rfl
theorem c42_10_e : c42_10 = .seq c42_11 c42_12 := rfl
theorem c42_11_r : RG (E0 mm) 42 c42_11 := rgN rfl
theorem c42_12_e : c42_12 = .ret := rfl
abbrev R42 := (Bs × Int)
def e42 : R42 → AV × Heap := fun x => (.tup [.c (.d (.sc (.string (S x.1)))), .c (.d (.sc (.int .i64 x.2)))], [])
def m42 (n : Int) : Option R42 :=
  if (decide (9007199254740991 < n)) = true then
    some (([] : Bs), (1 : Int))
  else
    (m56 n).bind fun yr3 =>
      some (yr3, (0 : Int))
theorem f42_t (n : Int) :
    callW (E0 mm) 42 [.c (.d (.sc (.int .u64 n))), .c (.d (.sc (.int .i64 16)))] [] = (m42 n).map e42 := by
  rw [callW_run (body := c42_0) (res := [.tmp 4, .tmp 5]) Tryd.func42 rfl rfl (by kernel_rfl)]
  simp -implicitDefEqProofs only [m42, slots2, c42_0_e, c42_1_r, (show opsOf c42_1 = _ :: _ from rfl), c42_2_e, c42_3_e, c42_4_r, (show opsOf c42_4 = _ :: _ from rfl), (show c42_5 = Code.cond _ c42_6 c42_9 from rfl), setA, setB, za, zb, zc, zd, ze, zf, zg, zh, zi, zj, zk, zl, zm, zn, zo, zp, reduceCtorEq, zE, ↓reduceIte]
  refine brB (fun yc1 => ?_) (fun yc1 => ?_)
  · simp -implicitDefEqProofs only [c42_6_e, c42_7_r, (show opsOf c42_7 = _ :: _ from rfl), c42_8_e, yc1, setA, setB, za, zb, zc, zd, ze, zf, zg, zh, zi, zj, zk, zl, zm, zn, zo, zp, reduceCtorEq, zE, ↓reduceIte]
    all_goals rfl
  · simp -implicitDefEqProofs only [c42_9_e, c42_10_e, c42_11_r, (show opsOf c42_11 = _ :: _ from rfl), ent56, prm56, f56_t, yc1, setA, setB, za, zb, zc, zd, ze, zf, zg, zh, zi, zj, zk, zl, zm, zn, zo, zp, reduceCtorEq, zE, ↓reduceIte]
    refine brM (fun yc2 => ?_) (fun yr3 yc2 => ?_)
    · rw [yc2]; rfl
    · simp -implicitDefEqProofs only [e56, c42_12_e, yc1, yc2, setA, setB, za, zb, zc, zd, ze, zf, zg, zh, zi, zj, zk, zl, zm, zn, zo, zp, reduceCtorEq, zE, ↓reduceIte]
      all_goals rfl
noncomputable def c23_0 : Code := bodyOf Tryd.f23
def c23_1 := cA c23_0
def c23_2 := cB c23_0
def c23_3 := cA c23_2
def c23_4 := cB c23_2
theorem c23_0_e : c23_0 = .seq c23_1 c23_2 := rfl
theorem c23_1_r : RG (E0 mm) 23 c23_1 := rgN rfl
theorem c23_2_e : c23_2 = .seq c23_3 c23_4 := rfl
theorem c23_3_r : RG (E0 mm) 23 c23_3 := rgN rfl
theorem c23_4_e : c23_4 = .ret := rfl
abbrev R23 := (Bs × Int)
def e23 : R23 → AV × Heap := fun x => (.tup [.c (.d (.sc (.string (S x.1)))), .c (.d (.sc (.int .i64 x.2)))], [])
def m23 (n : Int) : Option R23 :=
  (m42 n).bind fun yr2 =>
    some (yr2.1, yr2.2)
theorem f23_t (n : Int) :
    callW (E0 mm) 23 [.c (.d (.sc (.int .u64 n)))] [] = (m23 n).map e23 := by
  rw [callW_run (body := c23_0) (res := [.tmp 2, .tmp 3]) Tryd.func23 rfl rfl (by kernel_rfl)]
  simp -implicitDefEqProofs only [m23, slots1, c23_0_e, c23_1_r, (show opsOf c23_1 = _ :: _ from rfl), c23_2_e, c23_3_r, (show opsOf c23_3 = _ :: _ from rfl), ent42, prm42, f42_t, setA, setB, za, zb, zc, zd, ze, zf, zg, zh, zi, zj, zk, zl, zm, zn, zo, zp, reduceCtorEq, zE, ↓reduceIte]
  refine brM (fun yc1 => ?_) (fun yr2 yc1 => ?_)
  · rw [yc1]; rfl
  · simp -implicitDefEqProofs only [e42, c23_4_e, yc1, setA, setB, za, zb, zc, zd, ze, zf, zg, zh, zi, zj, zk, zl, zm, zn, zo, zp, reduceCtorEq, zE, ↓reduceIte]
    all_goals rfl
noncomputable def c12_0 : Code := bodyOf Tryd.f12
def c12_1 := cA c12_0
def c12_2 := cB c12_0
def c12_3 := cA c12_2
def c12_4 := cB c12_2
def c12_5 := cA c12_4
def c12_6 := cA c12_5
def c12_7 := cB c12_5
def c12_8 := cA c12_7
def c12_9 := cA c12_8
def c12_10 := cA c12_9
def c12_11 := cB c12_9
def c12_12 := cA c12_11
def c12_13 := cA c12_12
def c12_14 := cB c12_12
def c12_15 := cB c12_11
def c12_16 := cA c12_15
def c12_17 := cA c12_16
def c12_18 := cA c12_17
def c12_19 := cB c12_17
def c12_20 := cA c12_19
def c12_21 := cA c12_20
def c12_22 := cB c12_20
def c12_23 := cA c12_22
def c12_24 := cA c12_23
def c12_25 := cB c12_23
def c12_26 := cB c12_22
def c12_27 := cB c12_19
def c12_28 := cB c12_15
def c12_29 := cB c12_4
def c12_30 := cA c12_29
def c12_31 := cB c12_29
def c12_32 := cA c12_31
def c12_33 := cA c12_32
def c12_34 := cB c12_32
def c12_35 := cA c12_34
def c12_36 := cA c12_35
def c12_37 := cA c12_36
def c12_38 := cB c12_36
def c12_39 := cA c12_38
def c12_40 := cA c12_39
def c12_41 := cB c12_39
def c12_42 := cB c12_38
def c12_43 := cA c12_42
def c12_44 := cA c12_43
def c12_45 := cA c12_44
def c12_46 := cB c12_44
def c12_47 := cA c12_46
def c12_48 := cA c12_47
def c12_49 := cB c12_47
def c12_50 := cA c12_49
def c12_51 := cB c12_49
def c12_52 := cB c12_46
def c12_53 := cA c12_52
def c12_54 := cB c12_52
def c12_55 := cA c12_54
def c12_56 := cB c12_54
def c12_57 := cA c12_56
def c12_58 := cB c12_56
def c12_59 := cA c12_58
def c12_60 := cB c12_58
def c12_61 := cB c12_42
def c12_62 := cB c12_31
def c12_63 := cA c12_62
def c12_64 := cB c12_62
theorem c12_0_e : c12_0 = .seq c12_1 c12_2 := rfl
theorem c12_1_r : RG (E0 mm) 12 c12_1 := rgN rfl
theorem c12_2_e : c12_2 = .seq c12_3 c12_4 := rfl
theorem c12_3_r : RG (E0 mm) 12 c12_3 := rgN rfl
theorem c12_4_e : c12_4 = .seq c12_5 c12_29 := rfl
theorem c12_5_e : c12_5 = .seq c12_6 c12_7 := rfl
theorem c12_6_r : RG (E0 mm) 12 c12_6 := rgN rfl
theorem c12_7_e : c12_7 = .block 0 c12_8 := rfl
theorem c12_8_l (m : Nat) (st : St) : den (E0 mm) 12 m (callW (E0 mm)) itW c12_8 none st = loopD itW (loopF (E0 mm) 12 m (callW (E0 mm)) itW c12_9 [(0, .keep), (4, .keep), (12, .keep), (13, .keep), (14, .keep)]) (canon m [(0, .keep), (4, .keep), (12, .keep), (13, .keep), (14, .keep)] st) := rfl
theorem c12_9_e : c12_9 = .seq c12_10 c12_11 := rfl
theorem c12_10_r : RG (E0 mm) 12 c12_10 := rgN rfl
theorem c12_11_e : c12_11 = .seq c12_12 c12_15 := rfl
theorem c12_13_e : c12_13 = .skip := rfl
theorem c12_14_e : c12_14 = .exit 0 := rfl
theorem c12_15_e : c12_15 = .seq c12_16 c12_28 := rfl
theorem c12_16_e : c12_16 = .block 1 c12_17 := rfl
theorem c12_17_e : c12_17 = .seq c12_18 c12_19 := rfl
theorem c12_18_r : RG (E0 mm) 12 c12_18 := rgN rfl
theorem c12_19_e : c12_19 = .seq c12_20 c12_27 := rfl
theorem c12_20_e : c12_20 = .seq c12_21 c12_22 := rfl
theorem c12_21_r : RG (E0 mm) 12 c12_21 := rgN rfl
theorem c12_23_e : c12_23 = .seq c12_24 c12_25 := rfl
theorem c12_24_r : RG (E0 mm) 12 c12_24 := rgN rfl
theorem c12_25_e : c12_25 = .ret := rfl
theorem c12_26_e : c12_26 = .skip := rfl
theorem c12_27_r : RG (E0 mm) 12 c12_27 := rgN rfl
theorem c12_28_r : RG (E0 mm) 12 c12_28 := rgN rfl
theorem c12_29_e : c12_29 = .seq c12_30 c12_31 := rfl
theorem c12_30_r : RG (E0 mm) 12 c12_30 := rgN rfl
theorem c12_31_e : c12_31 = .seq c12_32 c12_62 := rfl
theorem c12_32_e : c12_32 = .seq c12_33 c12_34 := rfl
theorem c12_33_r : RG (E0 mm) 12 c12_33 := rgN rfl
theorem c12_34_e : c12_34 = .block 2 c12_35 := rfl
theorem c12_35_l (m : Nat) (st : St) : den (E0 mm) 12 m (callW (E0 mm)) itW c12_35 none st = loopD itW (loopF (E0 mm) 12 m (callW (E0 mm)) itW c12_36 [(7, .own), (28, .keep), (29, .keep), (30, .keep)]) (canon m [(7, .own), (28, .keep), (29, .keep), (30, .keep)] st) := rfl
theorem c12_36_e : c12_36 = .seq c12_37 c12_38 := rfl
theorem c12_37_r : RG (E0 mm) 12 c12_37 := rgN rfl
theorem c12_38_e : c12_38 = .seq c12_39 c12_42 := rfl
theorem c12_40_e : c12_40 = .skip := rfl
theorem c12_41_e : c12_41 = .exit 2 := rfl
theorem c12_42_e : c12_42 = .seq c12_43 c12_61 := rfl
theorem c12_43_e : c12_43 = .block 3 c12_44 := rfl
theorem c12_44_e : c12_44 = .seq c12_45 c12_46 := rfl
theorem c12_45_r : RG (E0 mm) 12 c12_45 := rgN rfl
theorem c12_46_e : c12_46 = .seq c12_47 c12_52 := rfl
theorem c12_47_e : c12_47 = .seq c12_48 c12_49 := rfl
theorem c12_48_r : RG (E0 mm) 12 c12_48 := rgN rfl
theorem c12_50_e : c12_50 = .exit 3 := rfl
theorem c12_51_e : c12_51 = .skip := rfl
theorem c12_52_e : c12_52 = .seq c12_53 c12_54 := rfl
theorem c12_53_r : RG (E0 mm) 12 c12_53 := rgN rfl
theorem c12_54_e : c12_54 = .seq c12_55 c12_56 := rfl
theorem c12_55_r : RG (E0 mm) 12 c12_55 := rgN rfl
theorem c12_56_e : c12_56 = .seq c12_57 c12_58 := rfl
theorem c12_57_r : RG (E0 mm) 12 c12_57 := rgN rfl
theorem c12_58_e : c12_58 = .seq c12_59 c12_60 := rfl
theorem c12_59_r : RG (E0 mm) 12 c12_59 := rgN rfl
theorem c12_60_r : RG (E0 mm) 12 c12_60 := rgN rfl
theorem c12_61_r : RG (E0 mm) 12 c12_61 := rgN rfl
theorem c12_62_e : c12_62 = .seq c12_63 c12_64 := rfl
theorem c12_63_r : RG (E0 mm) 12 c12_63 := rgN rfl
theorem c12_64_e : c12_64 = .ret := rfl
abbrev R12 := (Bool × List UInt8 × Int) ⊕ (Bool × List UInt8 × Int)
def e12 : R12 → AV × Heap := fun x => match x with
  | .inl x => (.tup [.c (.d (.lst x.1 (enL enB x.2.1))), .c (.d (.sc (.int .i64 x.2.2)))], [])
  | .inr x => (.tup [.c (.own x.1 (enL enB x.2.1) 0), .c (.d (.sc (.int .i64 x.2.2)))], [.row x.2.1.length (rz x.1 1)])
def K12_8 : Option (Ex × St) → Option (AV × Heap) := fun r => bodyD (E0 mm) [.tmp 2, .tmp 3] 0 false (seqD (E0 mm) 12 0 (callW (E0 mm)) itW c12_29 (blockD 0 (r)))
def en12_8 : (Bool × List (Bool × List UInt8) × Int × Bool × List (Bool × List UInt8) × Int × Int) → X := fun x => (none, [.v (.c (.d (.lst x.1 (enL en0 x.2.1)))), .v (.c (.d (.sc (.int .i64 x.2.2.1)))), .v (.c (.d (.lst x.2.2.2.1 (enL en0 x.2.2.2.2.1)))), .v (.c (.d (.sc (.int .i64 x.2.2.2.2.2.1)))), .v (.c (.d (.sc (.int .i64 x.2.2.2.2.2.2))))], [])
def K12_35 : Option (Ex × St) → Option (AV × Heap) := fun r => bodyD (E0 mm) [.tmp 2, .tmp 3] 0 false (seqD (E0 mm) 12 0 (callW (E0 mm)) itW c12_62 (blockD 2 (r)))
def en12_35 : (Bool × List UInt8 × Bool × List (Bool × List UInt8) × Int × Int) → X := fun x => (none, [.v (.c (.own x.1 (enL enB x.2.1) 0)), .v (.c (.d (.lst x.2.2.1 (enL en0 x.2.2.2.1)))), .v (.c (.d (.sc (.int .i64 x.2.2.2.2.1)))), .v (.c (.d (.sc (.int .i64 x.2.2.2.2.2))))], [.row x.2.1.length (rz x.1 1)])
def j12_61 (out7_0 : Bool) (out7_1 : List UInt8) (t28_0 : Bool) (t28_1 : List (Bool × List UInt8)) (t29 t30 : Int) : Option ((Bool × List UInt8 × Bool × List (Bool × List UInt8) × Int × Int) ⊕ R12) :=
  some (.inl (out7_0, out7_1, t28_0, t28_1, t29, (w64 (t30 + 1))))
theorem j12_61_t (out7_0 : Bool) (out7_1 : List UInt8) (t28_0 : Bool) (t28_1 : List (Bool × List UInt8)) (t29 t30 : Int)  (sl : Nat → AV) (zq7 : sl 7 = .v (.c (.own out7_0 (enL enB out7_1) 0))) (zq28 : sl 28 = .v (.c (.d (.lst t28_0 (enL en0 t28_1))))) (zq29 : sl 29 = .v (.c (.d (.sc (.int .i64 t29))))) (zq30 : sl 30 = .v (.c (.d (.sc (.int .i64 t30))))) :
    stepE (K12_35 (mm := mm)) (loopK 0 [(7, .own), (28, .keep), (29, .keep), (30, .keep)] (den (E0 mm) 12 0 (callW (E0 mm)) itW c12_61 none ⟨sl, [.row out7_1.length (rz out7_0 1)]⟩)) = (j12_61 out7_0 out7_1 t28_0 t28_1 t29 t30).map (sm en12_35 e12) := by
  simp -implicitDefEqProofs only [j12_61, c12_61_r, (show opsOf c12_61 = _ :: _ from rfl), zq7, zq28, zq29, zq30, setA, setB, za, zb, zc, zd, ze, zf, zg, zh, zi, zj, zk, zl, zm, zn, zo, zp, reduceCtorEq, zE, ↓reduceIte]
  all_goals rfl
def j12_62 (out7_0 : Bool) (out7_1 : List UInt8) : Option R12 :=
  if (out7_1.length + 5) * 1 ≤ 140737488355328 then
    some (.inr (false, (out7_1 ++ ([48, 13, 10, 13, 10] : Bs)), (0 : Int)))
  else none
theorem j12_62_t (out7_0 : Bool) (out7_1 : List UInt8)  (sl : Nat → AV) (zq7 : sl 7 = .v (.c (.own out7_0 (enL enB out7_1) 0))) :
    bodyD (E0 mm) [.tmp 2, .tmp 3] 0 false (den (E0 mm) 12 0 (callW (E0 mm)) itW c12_62 none ⟨sl, [.row out7_1.length (rz out7_0 1)]⟩) = (j12_62 out7_0 out7_1).map e12 := by
  simp -implicitDefEqProofs only [j12_62, c12_62_e, c12_63_r, (show opsOf c12_63 = _ :: _ from rfl), Tryd.underlying22, Tryd.underlying9, hd6, ap22, zq7, setA, setB, za, zb, zc, zd, ze, zf, zg, zh, zi, zj, zk, zl, zm, zn, zo, zp, reduceCtorEq, zE, ↓reduceIte]
  refine brP (fun yc15 => ?_) (fun yc15 => ?_)
  · simp -implicitDefEqProofs only [c12_64_e, zq7, yc15, setA, setB, za, zb, zc, zd, ze, zf, zg, zh, zi, zj, zk, zl, zm, zn, zo, zp, reduceCtorEq, zE, ↓reduceIte]
    all_goals rfl
  · rw [if_neg yc15]; rfl
def s12_35 (out7_0 : Bool) (out7_1 : List UInt8) (t28_0 : Bool) (t28_1 : List (Bool × List UInt8)) (t29 t30 : Int) : Option ((Bool × List UInt8 × Bool × List (Bool × List UInt8) × Int × Int) ⊕ R12) :=
  if (decide (t30 < t29)) = true then
    if 0 ≤ t30 ∧ t30 < (t28_1.length : Int) then
      if ((((t28_1.getD t30.toNat default).2).length : Int) == 0) = true then
        j12_61 out7_0 out7_1 t28_0 t28_1 t29 t30
      else
        (m23 (wu64 (((t28_1.getD t30.toNat default).2).length : Int))).bind fun yr10 =>
          if yr10.1 = [] ∨ (out7_1.length + yr10.1.length) * 1 ≤ 140737488355328 then
            if ((out7_1 ++ yr10.1).length + 2) * 1 ≤ 140737488355328 then
              if (t28_1.getD t30.toNat default).2 = [] ∨ (((out7_1 ++ yr10.1) ++ ([13, 10] : Bs)).length + ((t28_1.getD t30.toNat default).2).length) * 1 ≤ 140737488355328 then
                if ((((out7_1 ++ yr10.1) ++ ([13, 10] : Bs)) ++ (t28_1.getD t30.toNat default).2).length + 2) * 1 ≤ 140737488355328 then
                  j12_61 false ((((out7_1 ++ yr10.1) ++ ([13, 10] : Bs)) ++ (t28_1.getD t30.toNat default).2) ++ ([13, 10] : Bs)) t28_0 t28_1 t29 t30
                else none
              else none
            else none
          else none
    else none
  else
    (j12_62 out7_0 out7_1).map .inr
theorem s12_35_t (out7_0 : Bool) (out7_1 : List UInt8) (t28_0 : Bool) (t28_1 : List (Bool × List UInt8)) (t29 t30 : Int) :
    stepE (K12_35 (mm := mm)) (loopF (E0 mm) 12 0 (callW (E0 mm)) itW c12_36 [(7, .own), (28, .keep), (29, .keep), (30, .keep)] (none, [.v (.c (.own out7_0 (enL enB out7_1) 0)), .v (.c (.d (.lst t28_0 (enL en0 t28_1)))), .v (.c (.d (.sc (.int .i64 t29)))), .v (.c (.d (.sc (.int .i64 t30))))], [.row out7_1.length (rz out7_0 1)])) = (s12_35 out7_0 out7_1 t28_0 t28_1 t29 t30).map (sm en12_35 e12) := by
  simp -implicitDefEqProofs only [s12_35, loopF_eq, c12_36_e, c12_37_r, (show opsOf c12_37 = _ :: _ from rfl), c12_38_e, (show c12_39 = Code.cond _ c12_40 c12_41 from rfl), setA, setB, za, zb, zc, zd, ze, zf, zg, zh, zi, zj, zk, zl, zm, zn, zo, zp, reduceCtorEq, zE, ↓reduceIte]
  refine brB (fun yc5 => ?_) (fun yc5 => ?_)
  · simp -implicitDefEqProofs only [c12_40_e, c12_42_e, c12_43_e, c12_44_e, c12_45_r, (show opsOf c12_45 = _ :: _ from rfl), Tryd.underlying31, sz22, en0_a, yc5, setA, setB, za, zb, zc, zd, ze, zf, zg, zh, zi, zj, zk, zl, zm, zn, zo, zp, reduceCtorEq, zE, ↓reduceIte]
    refine brP (fun yc6 => ?_) (fun yc6 => ?_)
    · have yd7 : t30.toNat < t28_1.length := by omega
      simp -implicitDefEqProofs only [(enL_get en0 t28_1 t30.toNat yd7), en0_e, sz22, ag22, c12_46_e, c12_47_e, c12_48_r, (show opsOf c12_48 = _ :: _ from rfl), Tryd.underlying22, (show c12_49 = Code.cond _ c12_50 c12_51 from rfl), yc5, yc6, yd7, setA, setB, za, zb, zc, zd, ze, zf, zg, zh, zi, zj, zk, zl, zm, zn, zo, zp, reduceCtorEq, zE, ↓reduceIte]
      refine brB (fun yc8 => ?_) (fun yc8 => ?_)
      · simp -implicitDefEqProofs only [c12_50_e, yc5, yc6, yd7, yc8, setA, setB, za, zb, zc, zd, ze, zf, zg, zh, zi, zj, zk, zl, zm, zn, zo, zp, reduceCtorEq, zE, ↓reduceIte]
        exact j12_61_t out7_0 out7_1 t28_0 t28_1 t29 t30 _ (by rfl) (by rfl) (by rfl) (by rfl)
      · simp -implicitDefEqProofs only [c12_51_e, c12_52_e, c12_53_r, (show opsOf c12_53 = _ :: _ from rfl), Tryd.underlying22, Tryd.underlying3, Tryd.underlying43, ent23, prm23, f23_t, yc5, yc6, yd7, yc8, setA, setB, za, zb, zc, zd, ze, zf, zg, zh, zi, zj, zk, zl, zm, zn, zo, zp, reduceCtorEq, zE, ↓reduceIte]
        refine brM (fun yc9 => ?_) (fun yr10 yc9 => ?_)
        · rw [yc9]; rfl
        · simp -implicitDefEqProofs only [e23, c12_54_e, c12_55_r, (show opsOf c12_55 = _ :: _ from rfl), Tryd.underlying22, Tryd.underlying9, hd1, ap22, yc5, yc6, yd7, yc8, yc9, setA, setB, za, zb, zc, zd, ze, zf, zg, zh, zi, zj, zk, zl, zm, zn, zo, zp, reduceCtorEq, zE, ↓reduceIte]
          refine brP (fun yc11 => ?_) (fun yc11 => ?_)
          · simp -implicitDefEqProofs only [c12_56_e, c12_57_r, (show opsOf c12_57 = _ :: _ from rfl), Tryd.underlying22, Tryd.underlying9, hd3, ap22, yc5, yc6, yd7, yc8, yc9, yc11, setA, setB, za, zb, zc, zd, ze, zf, zg, zh, zi, zj, zk, zl, zm, zn, zo, zp, reduceCtorEq, zE, ↓reduceIte]
            refine brP (fun yc12 => ?_) (fun yc12 => ?_)
            · simp -implicitDefEqProofs only [c12_58_e, c12_59_r, (show opsOf c12_59 = _ :: _ from rfl), Tryd.underlying22, hd4, ap22, yc5, yc6, yd7, yc8, yc9, yc11, yc12, setA, setB, za, zb, zc, zd, ze, zf, zg, zh, zi, zj, zk, zl, zm, zn, zo, zp, reduceCtorEq, zE, ↓reduceIte]
              refine brP (fun yc13 => ?_) (fun yc13 => ?_)
              · simp -implicitDefEqProofs only [c12_60_r, (show opsOf c12_60 = _ :: _ from rfl), Tryd.underlying22, Tryd.underlying9, hd5, ap22, yc5, yc6, yd7, yc8, yc9, yc11, yc12, yc13, setA, setB, za, zb, zc, zd, ze, zf, zg, zh, zi, zj, zk, zl, zm, zn, zo, zp, reduceCtorEq, zE, ↓reduceIte]
                refine brP (fun yc14 => ?_) (fun yc14 => ?_)
                · simp -implicitDefEqProofs only [yc5, yc6, yd7, yc8, yc9, yc11, yc12, yc13, yc14, setA, setB, za, zb, zc, zd, ze, zf, zg, zh, zi, zj, zk, zl, zm, zn, zo, zp, reduceCtorEq, zE, ↓reduceIte]
                  exact j12_61_t false ((((out7_1 ++ yr10.1) ++ ([13, 10] : Bs)) ++ (t28_1.getD t30.toNat default).2) ++ ([13, 10] : Bs)) t28_0 t28_1 t29 t30 _ (by rfl) (by rfl) (by rfl) (by rfl)
                · rw [if_neg yc14]; rfl
              · rw [if_neg yc13]; rfl
            · rw [if_neg yc12]; rfl
          · rw [if_neg yc11]; rfl
    · rw [if_neg yc6]; rfl
  · simp -implicitDefEqProofs only [c12_41_e, K12_35, yc5, setA, setB, za, zb, zc, zd, ze, zf, zg, zh, zi, zj, zk, zl, zm, zn, zo, zp, reduceCtorEq, zE, ↓reduceIte]
    exact mi (j12_62_t out7_0 out7_1 _ (by rfl))
def l12_35 (out7_0 : Bool) (out7_1 : List UInt8) (t28_0 : Bool) (t28_1 : List (Bool × List UInt8)) (t29 t30 : Int) : Option R12 := iter (fun x : (Bool × List UInt8 × Bool × List (Bool × List UInt8) × Int × Int) => s12_35 x.1 x.2.1 x.2.2.1 x.2.2.2.1 x.2.2.2.2.1 x.2.2.2.2.2) (out7_0, out7_1, t28_0, t28_1, t29, t30)
theorem l12_35_t (out7_0 : Bool) (out7_1 : List UInt8) (t28_0 : Bool) (t28_1 : List (Bool × List UInt8)) (t29 t30 : Int) : bodyD (E0 mm) [.tmp 2, .tmp 3] 0 false (seqD (E0 mm) 12 0 (callW (E0 mm)) itW c12_62 (blockD 2 (itW (loopF (E0 mm) 12 0 (callW (E0 mm)) itW c12_36 [(7, .own), (28, .keep), (29, .keep), (30, .keep)]) (none, [.v (.c (.own out7_0 (enL enB out7_1) 0)), .v (.c (.d (.lst t28_0 (enL en0 t28_1)))), .v (.c (.d (.sc (.int .i64 t29)))), .v (.c (.d (.sc (.int .i64 t30))))], [.row out7_1.length (rz out7_0 1)])))) = (l12_35 out7_0 out7_1 t28_0 t28_1 t29 t30).map e12 :=
  it_sim (K := (K12_35 (mm := mm))) rfl (enc := en12_35) (fun x => s12_35_t x.1 x.2.1 x.2.2.1 x.2.2.2.1 x.2.2.2.2.1 x.2.2.2.2.2) (out7_0, out7_1, t28_0, t28_1, t29, t30)
def j12_29 (parts0_0 : Bool) (parts0_1 : List (Bool × List UInt8)) : Option R12 :=
  l12_35 true ([] : List UInt8) parts0_0 parts0_1 (parts0_1.length : Int) (0 : Int)
theorem j12_29_t (parts0_0 : Bool) (parts0_1 : List (Bool × List UInt8))  (sl : Nat → AV) (zq0 : sl 0 = .v (.c (.d (.lst parts0_0 (enL en0 parts0_1))))) :
    bodyD (E0 mm) [.tmp 2, .tmp 3] 0 false (den (E0 mm) 12 0 (callW (E0 mm)) itW c12_29 none ⟨sl, []⟩) = (j12_29 parts0_0 parts0_1).map e12 := by
  simp -implicitDefEqProofs only [j12_29, c12_29_e, c12_30_r, (show opsOf c12_30 = _ :: _ from rfl), c12_31_e, c12_32_e, c12_33_r, (show opsOf c12_33 = _ :: _ from rfl), Tryd.underlying31, c12_34_e, c12_35_l, zq0, setA, setB, za, zb, zc, zd, ze, zf, zg, zh, zi, zj, zk, zl, zm, zn, zo, zp, reduceCtorEq, zE, ↓reduceIte]
  exact l12_35_t true ([] : List UInt8) parts0_0 parts0_1 (parts0_1.length : Int) (0 : Int)
def s12_8 (parts0_0 : Bool) (parts0_1 : List (Bool × List UInt8)) (total4 : Int) (t12_0 : Bool) (t12_1 : List (Bool × List UInt8)) (t13 t14 : Int) : Option ((Bool × List (Bool × List UInt8) × Int × Bool × List (Bool × List UInt8) × Int × Int) ⊕ R12) :=
  if (decide (t14 < t13)) = true then
    if 0 ≤ t14 ∧ t14 < (t12_1.length : Int) then
      if (decide ((w64 (4096 - total4)) < (((t12_1.getD t14.toNat default).2).length : Int))) = true then
        some (.inr (.inl (true, ([] : List UInt8), (21 : Int))))
      else
        some (.inl (parts0_0, parts0_1, (w64 (total4 + (((t12_1.getD t14.toNat default).2).length : Int))), t12_0, t12_1, t13, (w64 (t14 + 1))))
    else none
  else
    (j12_29 parts0_0 parts0_1).map .inr
theorem s12_8_t (parts0_0 : Bool) (parts0_1 : List (Bool × List UInt8)) (total4 : Int) (t12_0 : Bool) (t12_1 : List (Bool × List UInt8)) (t13 t14 : Int) :
    stepE (K12_8 (mm := mm)) (loopF (E0 mm) 12 0 (callW (E0 mm)) itW c12_9 [(0, .keep), (4, .keep), (12, .keep), (13, .keep), (14, .keep)] (none, [.v (.c (.d (.lst parts0_0 (enL en0 parts0_1)))), .v (.c (.d (.sc (.int .i64 total4)))), .v (.c (.d (.lst t12_0 (enL en0 t12_1)))), .v (.c (.d (.sc (.int .i64 t13)))), .v (.c (.d (.sc (.int .i64 t14))))], [])) = (s12_8 parts0_0 parts0_1 total4 t12_0 t12_1 t13 t14).map (sm en12_8 e12) := by
  simp -implicitDefEqProofs only [s12_8, loopF_eq, c12_9_e, c12_10_r, (show opsOf c12_10 = _ :: _ from rfl), c12_11_e, (show c12_12 = Code.cond _ c12_13 c12_14 from rfl), setA, setB, za, zb, zc, zd, ze, zf, zg, zh, zi, zj, zk, zl, zm, zn, zo, zp, reduceCtorEq, zE, ↓reduceIte]
  refine brB (fun yc1 => ?_) (fun yc1 => ?_)
  · simp -implicitDefEqProofs only [c12_13_e, c12_15_e, c12_16_e, c12_17_e, c12_18_r, (show opsOf c12_18 = _ :: _ from rfl), Tryd.underlying31, sz22, en0_a, yc1, setA, setB, za, zb, zc, zd, ze, zf, zg, zh, zi, zj, zk, zl, zm, zn, zo, zp, reduceCtorEq, zE, ↓reduceIte]
    refine brP (fun yc2 => ?_) (fun yc2 => ?_)
    · have yd3 : t14.toNat < t12_1.length := by omega
      simp -implicitDefEqProofs only [(enL_get en0 t12_1 t14.toNat yd3), en0_e, sz22, ag22, c12_19_e, c12_20_e, c12_21_r, (show opsOf c12_21 = _ :: _ from rfl), Tryd.underlying22, (show c12_22 = Code.cond _ c12_23 c12_26 from rfl), yc1, yc2, yd3, setA, setB, za, zb, zc, zd, ze, zf, zg, zh, zi, zj, zk, zl, zm, zn, zo, zp, reduceCtorEq, zE, ↓reduceIte]
      refine brB (fun yc4 => ?_) (fun yc4 => ?_)
      · simp -implicitDefEqProofs only [c12_23_e, c12_24_r, (show opsOf c12_24 = _ :: _ from rfl), c12_25_e, K12_8, yc1, yc2, yd3, yc4, setA, setB, za, zb, zc, zd, ze, zf, zg, zh, zi, zj, zk, zl, zm, zn, zo, zp, reduceCtorEq, zE, ↓reduceIte]
        all_goals rfl
      · simp -implicitDefEqProofs only [c12_26_e, c12_27_r, (show opsOf c12_27 = _ :: _ from rfl), Tryd.underlying22, c12_28_r, (show opsOf c12_28 = _ :: _ from rfl), yc1, yc2, yd3, yc4, setA, setB, za, zb, zc, zd, ze, zf, zg, zh, zi, zj, zk, zl, zm, zn, zo, zp, reduceCtorEq, zE, ↓reduceIte]
        all_goals rfl
    · rw [if_neg yc2]; rfl
  · simp -implicitDefEqProofs only [c12_14_e, K12_8, yc1, setA, setB, za, zb, zc, zd, ze, zf, zg, zh, zi, zj, zk, zl, zm, zn, zo, zp, reduceCtorEq, zE, ↓reduceIte]
    exact mi (j12_29_t parts0_0 parts0_1 _ (by rfl))
def l12_8 (parts0_0 : Bool) (parts0_1 : List (Bool × List UInt8)) (total4 : Int) (t12_0 : Bool) (t12_1 : List (Bool × List UInt8)) (t13 t14 : Int) : Option R12 := iter (fun x : (Bool × List (Bool × List UInt8) × Int × Bool × List (Bool × List UInt8) × Int × Int) => s12_8 x.1 x.2.1 x.2.2.1 x.2.2.2.1 x.2.2.2.2.1 x.2.2.2.2.2.1 x.2.2.2.2.2.2) (parts0_0, parts0_1, total4, t12_0, t12_1, t13, t14)
theorem l12_8_t (parts0_0 : Bool) (parts0_1 : List (Bool × List UInt8)) (total4 : Int) (t12_0 : Bool) (t12_1 : List (Bool × List UInt8)) (t13 t14 : Int) : bodyD (E0 mm) [.tmp 2, .tmp 3] 0 false (seqD (E0 mm) 12 0 (callW (E0 mm)) itW c12_29 (blockD 0 (itW (loopF (E0 mm) 12 0 (callW (E0 mm)) itW c12_9 [(0, .keep), (4, .keep), (12, .keep), (13, .keep), (14, .keep)]) (none, [.v (.c (.d (.lst parts0_0 (enL en0 parts0_1)))), .v (.c (.d (.sc (.int .i64 total4)))), .v (.c (.d (.lst t12_0 (enL en0 t12_1)))), .v (.c (.d (.sc (.int .i64 t13)))), .v (.c (.d (.sc (.int .i64 t14))))], [])))) = (l12_8 parts0_0 parts0_1 total4 t12_0 t12_1 t13 t14).map e12 :=
  it_sim (K := (K12_8 (mm := mm))) rfl (enc := en12_8) (fun x => s12_8_t x.1 x.2.1 x.2.2.1 x.2.2.2.1 x.2.2.2.2.1 x.2.2.2.2.2.1 x.2.2.2.2.2.2) (parts0_0, parts0_1, total4, t12_0, t12_1, t13, t14)
def m12 (parts_0 : Bool) (parts_1 : List (Bool × List UInt8)) : Option R12 :=
  l12_8 parts_0 parts_1 (0 : Int) parts_0 parts_1 (parts_1.length : Int) (0 : Int)
theorem f12_t (parts_0 : Bool) (parts_1 : List (Bool × List UInt8)) :
    callW (E0 mm) 12 [.c (.d (.lst parts_0 (enL en0 parts_1)))] [] = (m12 parts_0 parts_1).map e12 := by
  rw [callW_run (body := c12_0) (res := [.tmp 2, .tmp 3]) Tryd.func12 rfl rfl (by kernel_rfl)]
  simp -implicitDefEqProofs only [m12, slots1, c12_0_e, c12_1_r, (show opsOf c12_1 = _ :: _ from rfl), c12_2_e, c12_3_r, (show opsOf c12_3 = _ :: _ from rfl), c12_4_e, c12_5_e, c12_6_r, (show opsOf c12_6 = _ :: _ from rfl), Tryd.underlying31, c12_7_e, c12_8_l, setA, setB, za, zb, zc, zd, ze, zf, zg, zh, zi, zj, zk, zl, zm, zn, zo, zp, reduceCtorEq, zE, ↓reduceIte]
  exact l12_8_t parts_0 parts_1 (0 : Int) parts_0 parts_1 (parts_1.length : Int) (0 : Int)
noncomputable def c16_0 : Code := bodyOf Tryd.f16
def c16_1 := cA c16_0
def c16_2 := cB c16_0
def c16_3 := cA c16_2
def c16_4 := cB c16_2
theorem c16_0_e : c16_0 = .seq c16_1 c16_2 := rfl
theorem c16_1_r : RG (E0 mm) 16 c16_1 := rgN rfl
theorem c16_2_e : c16_2 = .seq c16_3 c16_4 := rfl
theorem c16_3_r : RG (E0 mm) 16 c16_3 := rgN rfl
theorem c16_4_e : c16_4 = .ret := rfl
abbrev R16 := (Int)
def e16 : R16 → AV × Heap := fun x => (.v (.c (.d (.sc (.int .i64 x)))), [])
def m16 (b_0 : Bool) (b_1 : List UInt8) (c : UInt8) : Option R16 :=
  some (Lib.indexByte b_1 c)
theorem f16_t (b_0 : Bool) (b_1 : List UInt8) (c : UInt8) :
    callW (E0 mm) 16 [.c (.d (.lst b_0 (enL enB b_1))), .c (.d (.sc (.int .u8 ((c).toNat : Int))))] [] = (m16 b_0 b_1 c).map e16 := by
  rw [callW_run (body := c16_0) (res := [.tmp 4]) Tryd.func16 rfl rfl (by kernel_rfl)]
  simp -implicitDefEqProofs only [m16, slots2, c16_0_e, c16_1_r, (show opsOf c16_1 = _ :: _ from rfl), c16_2_e, c16_3_r, (show opsOf c16_3 = _ :: _ from rfl), entf27, exf27, pIndexB_lst, c16_4_e, setA, setB, za, zb, zc, zd, ze, zf, zg, zh, zi, zj, zk, zl, zm, zn, zo, zp, reduceCtorEq, zE, ↓reduceIte]
  all_goals rfl
noncomputable def c28_0 : Code := bodyOf Tryd.f28
def c28_1 := cA c28_0
def c28_2 := cB c28_0
def c28_3 := cA c28_2
def c28_4 := cB c28_2
theorem c28_0_e : c28_0 = .seq c28_1 c28_2 := rfl
theorem c28_1_r : RG (E0 mm) 28 c28_1 := rgN rfl
theorem c28_2_e : c28_2 = .seq c28_3 c28_4 := rfl
theorem c28_3_r : RG (E0 mm) 28 c28_3 := rgN rfl
theorem c28_4_e : c28_4 = .ret := rfl
abbrev R28 := (Bool)
def e28 : R28 → AV × Heap := fun x => (.v (.c (.d (.sc (.bool x)))), [])
def m28 (s suffix : Bs) : Option R28 :=
  if (decide ((suffix.length : Int) ≤ (s.length : Int))) = true then
    (bnd (w64 ((s.length : Int) - (suffix.length : Int))) s.length).bind fun yk3 =>
      some ((s.drop yk3) == suffix)
  else
    some false
theorem f28_t (s suffix : Bs) :
    callW (E0 mm) 28 [.c (.d (.sc (.string (S s)))), .c (.d (.sc (.string (S suffix))))] [] = (m28 s suffix).map e28 := by
  rw [callW_run (body := c28_0) (res := [.tmp 4]) Tryd.func28 rfl rfl (by kernel_rfl)]
  simp -implicitDefEqProofs only [m28, slots2, c28_0_e, c28_1_r, (show opsOf c28_1 = _ :: _ from rfl), c28_2_e, c28_3_r, (show opsOf c28_3 = _ :: _ from rfl), Tryd.underlying9, setA, setB, za, zb, zc, zd, ze, zf, zg, zh, zi, zj, zk, zl, zm, zn, zo, zp, reduceCtorEq, zE, ↓reduceIte]
  refine brB (fun yc1 => ?_) (fun yc1 => ?_)
  · simp -implicitDefEqProofs only [Tryd.underlying9, yc1, setA, setB, za, zb, zc, zd, ze, zf, zg, zh, zi, zj, zk, zl, zm, zn, zo, zp, reduceCtorEq, zE, ↓reduceIte]
    refine brM (fun yc2 => ?_) (fun yk3 yc2 => ?_)
    · rw [yc2]; rfl
    · simp -implicitDefEqProofs only [c28_4_e, yc1, yc2, setA, setB, za, zb, zc, zd, ze, zf, zg, zh, zi, zj, zk, zl, zm, zn, zo, zp, reduceCtorEq, zE, ↓reduceIte]
      all_goals rfl
  · simp -implicitDefEqProofs only [c28_4_e, yc1, setA, setB, za, zb, zc, zd, ze, zf, zg, zh, zi, zj, zk, zl, zm, zn, zo, zp, reduceCtorEq, zE, ↓reduceIte]
    all_goals rfl
noncomputable def c17_0 : Code := bodyOf Tryd.f17
def c17_1 := cA c17_0
def c17_2 := cB c17_0
def c17_3 := cA c17_2
def c17_4 := cB c17_2
theorem c17_0_e : c17_0 = .seq c17_1 c17_2 := rfl
theorem c17_1_r : RG (E0 mm) 17 c17_1 := rgN rfl
theorem c17_2_e : c17_2 = .seq c17_3 c17_4 := rfl
theorem c17_3_r : RG (E0 mm) 17 c17_3 := rgN rfl
theorem c17_4_e : c17_4 = .ret := rfl
abbrev R17 := (Bool)
def e17 : R17 → AV × Heap := fun x => (.v (.c (.d (.sc (.bool x)))), [])
def m17 (s suffix : Bs) : Option R17 :=
  (m28 s suffix).bind fun yr2 =>
    some yr2
theorem f17_t (s suffix : Bs) :
    callW (E0 mm) 17 [.c (.d (.sc (.string (S s)))), .c (.d (.sc (.string (S suffix))))] [] = (m17 s suffix).map e17 := by
  rw [callW_run (body := c17_0) (res := [.tmp 4]) Tryd.func17 rfl rfl (by kernel_rfl)]
  simp -implicitDefEqProofs only [m17, slots2, c17_0_e, c17_1_r, (show opsOf c17_1 = _ :: _ from rfl), c17_2_e, c17_3_r, (show opsOf c17_3 = _ :: _ from rfl), ent28, prm28, f28_t, setA, setB, za, zb, zc, zd, ze, zf, zg, zh, zi, zj, zk, zl, zm, zn, zo, zp, reduceCtorEq, zE, ↓reduceIte]
  refine brM (fun yc1 => ?_) (fun yr2 yc1 => ?_)
  · rw [yc1]; rfl
  · simp -implicitDefEqProofs only [e28, c17_4_e, yc1, setA, setB, za, zb, zc, zd, ze, zf, zg, zh, zi, zj, zk, zl, zm, zn, zo, zp, reduceCtorEq, zE, ↓reduceIte]
    all_goals rfl
noncomputable def c32_0 : Code := bodyOf Tryd.f32
def c32_1 := cA c32_0
def c32_2 := cB c32_0
def c32_3 := cA c32_2
def c32_4 := cA c32_3
def c32_5 := cB c32_3
def c32_6 := cA c32_5
def c32_7 := cA c32_6
def c32_8 := cB c32_6
def c32_9 := cB c32_5
def c32_10 := cB c32_2
def c32_11 := cA c32_10
def c32_12 := cB c32_10
theorem c32_0_e : c32_0 = .seq c32_1 c32_2 := rfl
theorem c32_1_r : RG (E0 mm) 32 c32_1 := rgN rfl
theorem c32_2_e : c32_2 = .seq c32_3 c32_10 := rfl
theorem c32_3_e : c32_3 = .seq c32_4 c32_5 := rfl
theorem c32_4_r : RG (E0 mm) 32 c32_4 := rgN rfl
theorem c32_6_e : c32_6 = .seq c32_7 c32_8 := rfl
theorem c32_7_r : RG (E0 mm) 32 c32_7 := rgN rfl
theorem c32_8_e : c32_8 = .ret := rfl
theorem c32_9_e : c32_9 = .skip := rfl
theorem c32_10_e : c32_10 = .seq c32_11 c32_12 := rfl
theorem c32_11_r : RG (E0 mm) 32 c32_11 := rgN rfl
theorem c32_12_e : c32_12 = .ret := rfl
abbrev R32 := (Bs)
def e32 : R32 → AV × Heap := fun x => (.v (.c (.d (.sc (.string (S x))))), [])
def m32 (s suffix : Bs) : Option R32 :=
  (m28 s suffix).bind fun yr2 =>
    if yr2 = true then
      (bnd (w64 ((s.length : Int) - (suffix.length : Int))) s.length).bind fun yk5 =>
        some (s.take yk5)
    else
      some s
theorem f32_t (s suffix : Bs) :
    callW (E0 mm) 32 [.c (.d (.sc (.string (S s)))), .c (.d (.sc (.string (S suffix))))] [] = (m32 s suffix).map e32 := by
  rw [callW_run (body := c32_0) (res := [.tmp 4]) Tryd.func32 rfl rfl (by kernel_rfl)]
  simp -implicitDefEqProofs only [m32, slots2, c32_0_e, c32_1_r, (show opsOf c32_1 = _ :: _ from rfl), c32_2_e, c32_3_e, c32_4_r, (show opsOf c32_4 = _ :: _ from rfl), ent28, prm28, f28_t, setA, setB, za, zb, zc, zd, ze, zf, zg, zh, zi, zj, zk, zl, zm, zn, zo, zp, reduceCtorEq, zE, ↓reduceIte]
  refine brM (fun yc1 => ?_) (fun yr2 yc1 => ?_)
  · rw [yc1]; rfl
  · simp -implicitDefEqProofs only [e28, (show c32_5 = Code.cond _ c32_6 c32_9 from rfl), yc1, setA, setB, za, zb, zc, zd, ze, zf, zg, zh, zi, zj, zk, zl, zm, zn, zo, zp, reduceCtorEq, zE, ↓reduceIte]
    refine brB (fun yc3 => ?_) (fun yc3 => ?_)
    · simp -implicitDefEqProofs only [c32_6_e, c32_7_r, (show opsOf c32_7 = _ :: _ from rfl), Tryd.underlying9, yc1, yc3, setA, setB, za, zb, zc, zd, ze, zf, zg, zh, zi, zj, zk, zl, zm, zn, zo, zp, reduceCtorEq, zE, ↓reduceIte]
      refine brM (fun yc4 => ?_) (fun yk5 yc4 => ?_)
      · rw [yc4]; rfl
      · simp -implicitDefEqProofs only [c32_8_e, yc1, yc3, yc4, setA, setB, za, zb, zc, zd, ze, zf, zg, zh, zi, zj, zk, zl, zm, zn, zo, zp, reduceCtorEq, zE, ↓reduceIte]
        all_goals rfl
    · simp -implicitDefEqProofs only [c32_9_e, c32_10_e, c32_11_r, (show opsOf c32_11 = _ :: _ from rfl), c32_12_e, yc1, yc3, setA, setB, za, zb, zc, zd, ze, zf, zg, zh, zi, zj, zk, zl, zm, zn, zo, zp, reduceCtorEq, zE, ↓reduceIte]
      all_goals rfl
noncomputable def c19_0 : Code := bodyOf Tryd.f19
def c19_1 := cA c19_0
def c19_2 := cB c19_0
def c19_3 := cA c19_2
def c19_4 := cB c19_2
theorem c19_0_e : c19_0 = .seq c19_1 c19_2 := rfl
theorem c19_1_r : RG (E0 mm) 19 c19_1 := rgN rfl
theorem c19_2_e : c19_2 = .seq c19_3 c19_4 := rfl
theorem c19_3_r : RG (E0 mm) 19 c19_3 := rgN rfl
theorem c19_4_e : c19_4 = .ret := rfl
abbrev R19 := (Bs)
def e19 : R19 → AV × Heap := fun x => (.v (.c (.d (.sc (.string (S x))))), [])
def m19 (s suffix : Bs) : Option R19 :=
  (m32 s suffix).bind fun yr2 =>
    some yr2
theorem f19_t (s suffix : Bs) :
    callW (E0 mm) 19 [.c (.d (.sc (.string (S s)))), .c (.d (.sc (.string (S suffix))))] [] = (m19 s suffix).map e19 := by
  rw [callW_run (body := c19_0) (res := [.tmp 4]) Tryd.func19 rfl rfl (by kernel_rfl)]
  simp -implicitDefEqProofs only [m19, slots2, c19_0_e, c19_1_r, (show opsOf c19_1 = _ :: _ from rfl), c19_2_e, c19_3_r, (show opsOf c19_3 = _ :: _ from rfl), ent32, prm32, f32_t, setA, setB, za, zb, zc, zd, ze, zf, zg, zh, zi, zj, zk, zl, zm, zn, zo, zp, reduceCtorEq, zE, ↓reduceIte]
  refine brM (fun yc1 => ?_) (fun yr2 yc1 => ?_)
  · rw [yc1]; rfl
  · simp -implicitDefEqProofs only [e32, c19_4_e, yc1, setA, setB, za, zb, zc, zd, ze, zf, zg, zh, zi, zj, zk, zl, zm, zn, zo, zp, reduceCtorEq, zE, ↓reduceIte]
    all_goals rfl
noncomputable def c46_0 : Code := bodyOf Tryd.f46
def c46_1 := cA c46_0
def c46_2 := cB c46_0
def c46_3 := cA c46_2
def c46_4 := cA c46_3
def c46_5 := cB c46_3
def c46_6 := cA c46_5
def c46_7 := cB c46_5
def c46_8 := cA c46_7
def c46_9 := cA c46_8
def c46_10 := cB c46_8
def c46_11 := cB c46_7
def c46_12 := cB c46_2
def c46_13 := cA c46_12
def c46_14 := cB c46_12
theorem c46_0_e : c46_0 = .seq c46_1 c46_2 := rfl
theorem c46_1_r : RG (E0 mm) 46 c46_1 := rgN rfl
theorem c46_2_e : c46_2 = .seq c46_3 c46_12 := rfl
theorem c46_3_e : c46_3 = .seq c46_4 c46_5 := rfl
theorem c46_4_r : RG (E0 mm) 46 c46_4 := rgN rfl
theorem c46_5_e : c46_5 = .seq c46_6 c46_7 := rfl
theorem c46_6_r : RG (E0 mm) 46 c46_6 := rgN rfl
theorem c46_8_e : c46_8 = .seq c46_9 c46_10 := rfl
theorem c46_9_r : RG (E0 mm) 46 c46_9 := rgD (by kernel_rfl)
theorem c46_10_e : c46_10 = .ret := rfl
theorem c46_11_e : c46_11 = .skip := rfl
theorem c46_12_e : c46_12 = .seq c46_13 c46_14 := rfl
theorem c46_13_r : RG (E0 mm) 46 c46_13 := rgN rfl
theorem c46_14_e : c46_14 = .ret := rfl
abbrev R46 := (Bs × Bs × Bool)
def e46 : R46 → AV × Heap := fun x => (.tup [.c (.d (.sc (.string (S x.1)))), .c (.d (.sc (.string (S x.2.1)))), .c (.d (.sc (.bool x.2.2)))], [])
def m46 (s sep : Bs) : Option R46 :=
  (mIx s sep).bind fun yr2 =>
    if (decide (0 ≤ yr2)) = true then
      (bnd yr2 s.length).bind fun yk5 =>
        (bnd (w64 (yr2 + (sep.length : Int))) s.length).bind fun yk7 =>
          some ((s.take yk5), (s.drop yk7), true)
    else
      some (s, ([] : Bs), false)
theorem f46_t (s sep : Bs) :
    callW (E0 mm) 46 [.c (.d (.sc (.string (S s)))), .c (.d (.sc (.string (S sep))))] [] = (m46 s sep).map e46 := by
  rw [callW_run (body := c46_0) (res := [.tmp 4, .tmp 5, .tmp 6]) Tryd.func46 rfl rfl (by kernel_rfl)]
  simp -implicitDefEqProofs only [m46, slots2, c46_0_e, c46_1_r, (show opsOf c46_1 = _ :: _ from rfl), c46_2_e, c46_3_e, c46_4_r, (show opsOf c46_4 = _ :: _ from rfl), ent57, prm57, pIndex_t, setA, setB, za, zb, zc, zd, ze, zf, zg, zh, zi, zj, zk, zl, zm, zn, zo, zp, reduceCtorEq, zE, ↓reduceIte]
  refine brM (fun yc1 => ?_) (fun yr2 yc1 => ?_)
  · rw [yc1]; rfl
  · simp -implicitDefEqProofs only [pIndex_t, c46_5_e, c46_6_r, (show opsOf c46_6 = _ :: _ from rfl), (show c46_7 = Code.cond _ c46_8 c46_11 from rfl), yc1, setA, setB, za, zb, zc, zd, ze, zf, zg, zh, zi, zj, zk, zl, zm, zn, zo, zp, reduceCtorEq, zE, ↓reduceIte]
    refine brB (fun yc3 => ?_) (fun yc3 => ?_)
    · simp -implicitDefEqProofs only [c46_8_e, c46_9_r, (show opsOf c46_9 = _ :: _ from rfl), Tryd.underlying9, yc1, yc3, setA, setB, za, zb, zc, zd, ze, zf, zg, zh, zi, zj, zk, zl, zm, zn, zo, zp, reduceCtorEq, zE, ↓reduceIte]
      refine brM (fun yc4 => ?_) (fun yk5 yc4 => ?_)
      · rw [yc4]; rfl
      · simp -implicitDefEqProofs only [Tryd.underlying9, yc1, yc3, yc4, setA, setB, za, zb, zc, zd, ze, zf, zg, zh, zi, zj, zk, zl, zm, zn, zo, zp, reduceCtorEq, zE, ↓reduceIte]
        refine brM (fun yc6 => ?_) (fun yk7 yc6 => ?_)
        · rw [yc6]; rfl
        · simp -implicitDefEqProofs only [c46_10_e, yc1, yc3, yc4, yc6, setA, setB, za, zb, zc, zd, ze, zf, zg, zh, zi, zj, zk, zl, zm, zn, zo, zp, reduceCtorEq, zE, ↓reduceIte]
          all_goals rfl
    · simp -implicitDefEqProofs only [c46_11_e, c46_12_e, c46_13_r, (show opsOf c46_13 = _ :: _ from rfl), c46_14_e, yc1, yc3, setA, setB, za, zb, zc, zd, ze, zf, zg, zh, zi, zj, zk, zl, zm, zn, zo, zp, reduceCtorEq, zE, ↓reduceIte]
      all_goals rfl
noncomputable def c29_0 : Code := bodyOf Tryd.f29
def c29_1 := cA c29_0
def c29_2 := cB c29_0
def c29_3 := cA c29_2
def c29_4 := cB c29_2
theorem c29_0_e : c29_0 = .seq c29_1 c29_2 := rfl
theorem c29_1_r : RG (E0 mm) 29 c29_1 := rgN rfl
theorem c29_2_e : c29_2 = .seq c29_3 c29_4 := rfl
theorem c29_3_r : RG (E0 mm) 29 c29_3 := rgN rfl
theorem c29_4_e : c29_4 = .ret := rfl
abbrev R29 := (Bs × Bs × Bool)
def e29 : R29 → AV × Heap := fun x => (.tup [.c (.d (.sc (.string (S x.1)))), .c (.d (.sc (.string (S x.2.1)))), .c (.d (.sc (.bool x.2.2)))], [])
def m29 (s sep : Bs) : Option R29 :=
  (m46 s sep).bind fun yr2 =>
    some (yr2.1, yr2.2.1, yr2.2.2)
theorem f29_t (s sep : Bs) :
    callW (E0 mm) 29 [.c (.d (.sc (.string (S s)))), .c (.d (.sc (.string (S sep))))] [] = (m29 s sep).map e29 := by
  rw [callW_run (body := c29_0) (res := [.tmp 4, .tmp 5, .tmp 6]) Tryd.func29 rfl rfl (by kernel_rfl)]
  simp -implicitDefEqProofs only [m29, slots2, c29_0_e, c29_1_r, (show opsOf c29_1 = _ :: _ from rfl), c29_2_e, c29_3_r, (show opsOf c29_3 = _ :: _ from rfl), ent46, prm46, f46_t, setA, setB, za, zb, zc, zd, ze, zf, zg, zh, zi, zj, zk, zl, zm, zn, zo, zp, reduceCtorEq, zE, ↓reduceIte]
  refine brM (fun yc1 => ?_) (fun yr2 yc1 => ?_)
  · rw [yc1]; rfl
  · simp -implicitDefEqProofs only [e46, c29_4_e, yc1, setA, setB, za, zb, zc, zd, ze, zf, zg, zh, zi, zj, zk, zl, zm, zn, zo, zp, reduceCtorEq, zE, ↓reduceIte]
    all_goals rfl
noncomputable def c48_0 : Code := bodyOf Tryd.f48
def c48_1 := cA c48_0
def c48_2 := cB c48_0
def c48_3 := cA c48_2
def c48_4 := cB c48_2
theorem c48_0_e : c48_0 = .seq c48_1 c48_2 := rfl
theorem c48_1_r : RG (E0 mm) 48 c48_1 := rgN rfl
theorem c48_2_e : c48_2 = .seq c48_3 c48_4 := rfl
theorem c48_3_r : RG (E0 mm) 48 c48_3 := rgN rfl
theorem c48_4_e : c48_4 = .ret := rfl
abbrev R48 := (Bool)
def e48 : R48 → AV × Heap := fun x => (.v (.c (.d (.sc (.bool x)))), [])
def m48 (c : UInt8) : Option R48 :=
  if (c == (9 : UInt8)) = true then
    some true
  else
    if (decide ((32 : UInt8) ≤ c)) = true then
      some (!(c == (127 : UInt8)))
    else
      some false
theorem f48_t (c : UInt8) :
    callW (E0 mm) 48 [.c (.d (.sc (.int .u8 ((c).toNat : Int))))] [] = (m48 c).map e48 := by
  rw [callW_run (body := c48_0) (res := [.tmp 2]) Tryd.func48 rfl rfl (by kernel_rfl)]
  simp -implicitDefEqProofs only [m48, slots1, c48_0_e, c48_1_r, (show opsOf c48_1 = _ :: _ from rfl), c48_2_e, c48_3_r, (show opsOf c48_3 = _ :: _ from rfl), setA, setB, za, zb, zc, zd, ze, zf, zg, zh, zi, zj, zk, zl, zm, zn, zo, zp, reduceCtorEq, zE, ↓reduceIte]
  refine brB (fun yc1 => ?_) (fun yc1 => ?_)
  · simp -implicitDefEqProofs only [c48_4_e, yc1, setA, setB, za, zb, zc, zd, ze, zf, zg, zh, zi, zj, zk, zl, zm, zn, zo, zp, reduceCtorEq, zE, ↓reduceIte]
    all_goals rfl
  · simp -implicitDefEqProofs only [yc1, setA, setB, za, zb, zc, zd, ze, zf, zg, zh, zi, zj, zk, zl, zm, zn, zo, zp, reduceCtorEq, zE, ↓reduceIte]
    refine brB (fun yc2 => ?_) (fun yc2 => ?_)
    · simp -implicitDefEqProofs only [c48_4_e, yc1, yc2, setA, setB, za, zb, zc, zd, ze, zf, zg, zh, zi, zj, zk, zl, zm, zn, zo, zp, reduceCtorEq, zE, ↓reduceIte]
      all_goals rfl
    · simp -implicitDefEqProofs only [c48_4_e, yc1, yc2, setA, setB, za, zb, zc, zd, ze, zf, zg, zh, zi, zj, zk, zl, zm, zn, zo, zp, reduceCtorEq, zE, ↓reduceIte]
      all_goals rfl
noncomputable def c59_0 : Code := bodyOf Tryd.f59
def c59_1 := cA c59_0
def c59_2 := cB c59_0
def c59_3 := cA c59_2
def c59_4 := cB c59_2
theorem c59_0_e : c59_0 = .seq c59_1 c59_2 := rfl
theorem c59_1_r : RG (E0 mm) 59 c59_1 := rgN rfl
theorem c59_2_e : c59_2 = .seq c59_3 c59_4 := rfl
theorem c59_3_r : RG (E0 mm) 59 c59_3 := rgN rfl
theorem c59_4_e : c59_4 = .ret := rfl
abbrev R59 := (Bool)
def e59 : R59 → AV × Heap := fun x => (.v (.c (.d (.sc (.bool x)))), [.cells [.d (.sc (.func (.func 48) #[] #[]))]])
def m59 (c : UInt8) : Option R59 :=
  (m48 c).bind fun yr2 =>
    some (!yr2)
theorem f59_t (c : UInt8) :
    callW (E0 mm) 59 [.c (.d (.sc (.int .u8 ((c).toNat : Int)))), .c (.ptr 0 0)] [.cells [.d (.sc (.func (.func 48) #[] #[]))]] = (m59 c).map e59 := by
  rw [callW_run (body := c59_0) (res := [.tmp 3]) Tryd.func59 rfl rfl (by kernel_rfl)]
  simp -implicitDefEqProofs only [m59, slots2, c59_0_e, c59_1_r, (show opsOf c59_1 = _ :: _ from rfl), c59_2_e, c59_3_r, (show opsOf c59_3 = _ :: _ from rfl), sz71, ag71, ent48, prm48, f48_t, setA, setB, za, zb, zc, zd, ze, zf, zg, zh, zi, zj, zk, zl, zm, zn, zo, zp, reduceCtorEq, zE, ↓reduceIte]
  refine brM (fun yc1 => ?_) (fun yr2 yc1 => ?_)
  · rw [yc1]; rfl
  · simp -implicitDefEqProofs only [e48, c59_4_e, yc1, setA, setB, za, zb, zc, zd, ze, zf, zg, zh, zi, zj, zk, zl, zm, zn, zo, zp, reduceCtorEq, zE, ↓reduceIte]
    all_goals rfl
noncomputable def c75_0 : Code := bodyOf Tryd.f75
def c75_1 := cA c75_0
def c75_2 := cB c75_0
def c75_3 := cA c75_2
def c75_4 := cA c75_3
def c75_5 := cB c75_3
def c75_6 := cA c75_5
def c75_7 := cA c75_6
def c75_8 := cA c75_7
def c75_9 := cB c75_7
def c75_10 := cA c75_9
def c75_11 := cA c75_10
def c75_12 := cB c75_10
def c75_13 := cB c75_9
def c75_14 := cA c75_13
def c75_15 := cA c75_14
def c75_16 := cA c75_15
def c75_17 := cB c75_15
def c75_18 := cA c75_17
def c75_19 := cB c75_17
def c75_20 := cA c75_19
def c75_21 := cA c75_20
def c75_22 := cB c75_20
def c75_23 := cB c75_19
def c75_24 := cB c75_13
def c75_25 := cB c75_2
def c75_26 := cA c75_25
def c75_27 := cB c75_25
theorem c75_0_e : c75_0 = .seq c75_1 c75_2 := rfl
theorem c75_1_r : RG (E0 mm) 75 c75_1 := rgN rfl
theorem c75_2_e : c75_2 = .seq c75_3 c75_25 := rfl
theorem c75_3_e : c75_3 = .seq c75_4 c75_5 := rfl
theorem c75_4_r : RG (E0 mm) 75 c75_4 := rgN rfl
theorem c75_5_e : c75_5 = .block 0 c75_6 := rfl
theorem c75_6_l (m : Nat) (st : St) : den (E0 mm) 75 m (callW (E0 mm)) itW c75_6 none st = loopD itW (loopF (E0 mm) 75 m (callW (E0 mm)) itW c75_7 [(0, .keep), (1, .keep), (7, .keep), (8, .keep)]) (canon m [(0, .keep), (1, .keep), (7, .keep), (8, .keep)] st) := rfl
theorem c75_7_e : c75_7 = .seq c75_8 c75_9 := rfl
theorem c75_8_r : RG (E0 mm) 75 c75_8 := rgN rfl
theorem c75_9_e : c75_9 = .seq c75_10 c75_13 := rfl
theorem c75_11_e : c75_11 = .skip := rfl
theorem c75_12_e : c75_12 = .exit 0 := rfl
theorem c75_13_e : c75_13 = .seq c75_14 c75_24 := rfl
theorem c75_14_e : c75_14 = .block 1 c75_15 := rfl
theorem c75_15_e : c75_15 = .seq c75_16 c75_17 := rfl
theorem c75_16_r : RG (E0 mm) 75 c75_16 := rgN rfl
theorem c75_17_e : c75_17 = .seq c75_18 c75_19 := rfl
theorem c75_18_r : RG (E0 mm) 75 c75_18 := rgN rfl
theorem c75_20_e : c75_20 = .seq c75_21 c75_22 := rfl
theorem c75_21_r : RG (E0 mm) 75 c75_21 := rgN rfl
theorem c75_22_e : c75_22 = .ret := rfl
theorem c75_23_e : c75_23 = .skip := rfl
theorem c75_24_r : RG (E0 mm) 75 c75_24 := rgN rfl
theorem c75_25_e : c75_25 = .seq c75_26 c75_27 := rfl
theorem c75_26_r : RG (E0 mm) 75 c75_26 := rgN rfl
theorem c75_27_e : c75_27 = .ret := rfl
abbrev R75 := (Int)
def e75 : R75 → AV × Heap := fun x => (.v (.c (.d (.sc (.int .i64 x)))), [.cells [.d (.sc (.func (.func 48) #[] #[]))]])
def K75_6 : Option (Ex × St) → Option (AV × Heap) := fun r => bodyD (E0 mm) [.tmp 4] 1 false (seqD (E0 mm) 75 1 (callW (E0 mm)) itW c75_25 (blockD 0 (r)))
def en75_6 : (Bool × List UInt8 × Int × Int) → X := fun x => (none, [.v (.c (.d (.lst x.1 (enL enB x.2.1)))), .v (.c (.fn 59 [(0, 0)])), .v (.c (.d (.sc (.int .i64 x.2.2.1)))), .v (.c (.d (.sc (.int .i64 x.2.2.2))))], [.cells [.d (.sc (.func (.func 48) #[] #[]))]])
def j75_25  : Option R75 :=
  some (-1 : Int)
theorem j75_25_t   (sl : Nat → AV)  :
    bodyD (E0 mm) [.tmp 4] 1 false (den (E0 mm) 75 1 (callW (E0 mm)) itW c75_25 none ⟨sl, [.cells [.d (.sc (.func (.func 48) #[] #[]))]]⟩) = (j75_25).map e75 := by
  simp -implicitDefEqProofs only [j75_25, c75_25_e, c75_26_r, (show opsOf c75_26 = _ :: _ from rfl), c75_27_e, setA, setB, za, zb, zc, zd, ze, zf, zg, zh, zi, zj, zk, zl, zm, zn, zo, zp, reduceCtorEq, zE, ↓reduceIte]
  all_goals rfl
def s75_6 (s0_0 : Bool) (s0_1 : List UInt8) (t7 t8 : Int) : Option ((Bool × List UInt8 × Int × Int) ⊕ R75) :=
  if (decide (t8 < t7)) = true then
    if 0 ≤ t8 ∧ t8 < (s0_1.length : Int) then
      (m59 (s0_1.getD t8.toNat default)).bind fun yr5 =>
        if yr5 = true then
          some (.inr t8)
        else
          some (.inl (s0_0, s0_1, t7, (w64 (t8 + 1))))
    else none
  else
    (j75_25).map .inr
theorem s75_6_t (s0_0 : Bool) (s0_1 : List UInt8) (t7 t8 : Int) :
    stepE (K75_6 (mm := mm)) (loopF (E0 mm) 75 1 (callW (E0 mm)) itW c75_7 [(0, .keep), (1, .keep), (7, .keep), (8, .keep)] (none, [.v (.c (.d (.lst s0_0 (enL enB s0_1)))), .v (.c (.fn 59 [(0, 0)])), .v (.c (.d (.sc (.int .i64 t7)))), .v (.c (.d (.sc (.int .i64 t8))))], [.cells [.d (.sc (.func (.func 48) #[] #[]))]])) = (s75_6 s0_0 s0_1 t7 t8).map (sm en75_6 e75) := by
  simp -implicitDefEqProofs only [s75_6, loopF_eq, c75_7_e, c75_8_r, (show opsOf c75_8 = _ :: _ from rfl), c75_9_e, (show c75_10 = Code.cond _ c75_11 c75_12 from rfl), setA, setB, za, zb, zc, zd, ze, zf, zg, zh, zi, zj, zk, zl, zm, zn, zo, zp, reduceCtorEq, zE, ↓reduceIte]
  refine brB (fun yc1 => ?_) (fun yc1 => ?_)
  · simp -implicitDefEqProofs only [c75_11_e, c75_13_e, c75_14_e, c75_15_e, c75_16_r, (show opsOf c75_16 = _ :: _ from rfl), c75_17_e, c75_18_r, (show opsOf c75_18 = _ :: _ from rfl), Tryd.underlying22, sz5, enB_a, yc1, setA, setB, za, zb, zc, zd, ze, zf, zg, zh, zi, zj, zk, zl, zm, zn, zo, zp, reduceCtorEq, zE, ↓reduceIte]
    refine brP (fun yc2 => ?_) (fun yc2 => ?_)
    · have yd3 : t8.toNat < s0_1.length := by omega
      simp -implicitDefEqProofs only [(enL_get enB s0_1 t8.toNat yd3), enB_e, sz5, ag5, ent59, prm59, f59_t, yc1, yc2, yd3, setA, setB, za, zb, zc, zd, ze, zf, zg, zh, zi, zj, zk, zl, zm, zn, zo, zp, reduceCtorEq, zE, ↓reduceIte]
      refine brM (fun yc4 => ?_) (fun yr5 yc4 => ?_)
      · rw [yc4]; rfl
      · simp -implicitDefEqProofs only [e59, (show c75_19 = Code.cond _ c75_20 c75_23 from rfl), yc1, yc2, yd3, yc4, setA, setB, za, zb, zc, zd, ze, zf, zg, zh, zi, zj, zk, zl, zm, zn, zo, zp, reduceCtorEq, zE, ↓reduceIte]
        refine brB (fun yc6 => ?_) (fun yc6 => ?_)
        · simp -implicitDefEqProofs only [c75_20_e, c75_21_r, (show opsOf c75_21 = _ :: _ from rfl), c75_22_e, K75_6, yc1, yc2, yd3, yc4, yc6, setA, setB, za, zb, zc, zd, ze, zf, zg, zh, zi, zj, zk, zl, zm, zn, zo, zp, reduceCtorEq, zE, ↓reduceIte]
          all_goals rfl
        · simp -implicitDefEqProofs only [c75_23_e, c75_24_r, (show opsOf c75_24 = _ :: _ from rfl), yc1, yc2, yd3, yc4, yc6, setA, setB, za, zb, zc, zd, ze, zf, zg, zh, zi, zj, zk, zl, zm, zn, zo, zp, reduceCtorEq, zE, ↓reduceIte]
          all_goals rfl
    · rw [if_neg yc2]; rfl
  · simp -implicitDefEqProofs only [c75_12_e, K75_6, yc1, setA, setB, za, zb, zc, zd, ze, zf, zg, zh, zi, zj, zk, zl, zm, zn, zo, zp, reduceCtorEq, zE, ↓reduceIte]
    exact mi (j75_25_t _)
def l75_6 (s0_0 : Bool) (s0_1 : List UInt8) (t7 t8 : Int) : Option R75 := iter (fun x : (Bool × List UInt8 × Int × Int) => s75_6 x.1 x.2.1 x.2.2.1 x.2.2.2) (s0_0, s0_1, t7, t8)
theorem l75_6_t (s0_0 : Bool) (s0_1 : List UInt8) (t7 t8 : Int) : bodyD (E0 mm) [.tmp 4] 1 false (seqD (E0 mm) 75 1 (callW (E0 mm)) itW c75_25 (blockD 0 (itW (loopF (E0 mm) 75 1 (callW (E0 mm)) itW c75_7 [(0, .keep), (1, .keep), (7, .keep), (8, .keep)]) (none, [.v (.c (.d (.lst s0_0 (enL enB s0_1)))), .v (.c (.fn 59 [(0, 0)])), .v (.c (.d (.sc (.int .i64 t7)))), .v (.c (.d (.sc (.int .i64 t8))))], [.cells [.d (.sc (.func (.func 48) #[] #[]))]])))) = (l75_6 s0_0 s0_1 t7 t8).map e75 :=
  it_sim (K := (K75_6 (mm := mm))) rfl (enc := en75_6) (fun x => s75_6_t x.1 x.2.1 x.2.2.1 x.2.2.2) (s0_0, s0_1, t7, t8)
def m75 (s_0 : Bool) (s_1 : List UInt8) : Option R75 :=
  l75_6 s_0 s_1 (s_1.length : Int) (0 : Int)
theorem f75_t (s_0 : Bool) (s_1 : List UInt8) :
    callW (E0 mm) 75 [.c (.d (.lst s_0 (enL enB s_1))), .c (.fn 59 [(0, 0)])] [.cells [.d (.sc (.func (.func 48) #[] #[]))]] = (m75 s_0 s_1).map e75 := by
  rw [callW_run (body := c75_0) (res := [.tmp 4]) Tryd.func75 rfl rfl (by kernel_rfl)]
  simp -implicitDefEqProofs only [m75, slots2, c75_0_e, c75_1_r, (show opsOf c75_1 = _ :: _ from rfl), c75_2_e, c75_3_e, c75_4_r, (show opsOf c75_4 = _ :: _ from rfl), Tryd.underlying22, c75_5_e, c75_6_l, setA, setB, za, zb, zc, zd, ze, zf, zg, zh, zi, zj, zk, zl, zm, zn, zo, zp, reduceCtorEq, zE, ↓reduceIte]
  exact l75_6_t s_0 s_1 (s_1.length : Int) (0 : Int)
noncomputable def c58_0 : Code := bodyOf Tryd.f58
def c58_1 := cA c58_0
def c58_2 := cB c58_0
def c58_3 := cA c58_2
def c58_4 := cB c58_2
theorem c58_0_e : c58_0 = .seq c58_1 c58_2 := rfl
theorem c58_1_r : RG (E0 mm) 58 c58_1 := rgN rfl
theorem c58_2_e : c58_2 = .seq c58_3 c58_4 := rfl
theorem c58_3_r : RG (E0 mm) 58 c58_3 := rgN rfl
theorem c58_4_e : c58_4 = .ret := rfl
abbrev R58 := (Bool)
def e58 : R58 → AV × Heap := fun x => (.v (.c (.d (.sc (.bool x)))), [.cells [.d (.sc (.func (.func 48) #[] #[]))]])
def m58 (s_0 : Bool) (s_1 : List UInt8) : Option R58 :=
  (m75 s_0 s_1).bind fun yr2 =>
    some (decide (0 ≤ yr2))
theorem f58_t (s_0 : Bool) (s_1 : List UInt8) :
    callW (E0 mm) 58 [.c (.d (.lst s_0 (enL enB s_1))), .c (.fn 59 [(0, 0)])] [.cells [.d (.sc (.func (.func 48) #[] #[]))]] = (m58 s_0 s_1).map e58 := by
  rw [callW_run (body := c58_0) (res := [.tmp 4]) Tryd.func58 rfl rfl (by kernel_rfl)]
  simp -implicitDefEqProofs only [m58, slots2, c58_0_e, c58_1_r, (show opsOf c58_1 = _ :: _ from rfl), c58_2_e, c58_3_r, (show opsOf c58_3 = _ :: _ from rfl), ent75, prm75, f75_t, setA, setB, za, zb, zc, zd, ze, zf, zg, zh, zi, zj, zk, zl, zm, zn, zo, zp, reduceCtorEq, zE, ↓reduceIte]
  refine brM (fun yc1 => ?_) (fun yr2 yc1 => ?_)
  · rw [yc1]; rfl
  · simp -implicitDefEqProofs only [e75, c58_4_e, yc1, setA, setB, za, zb, zc, zd, ze, zf, zg, zh, zi, zj, zk, zl, zm, zn, zo, zp, reduceCtorEq, zE, ↓reduceIte]
    all_goals rfl
noncomputable def c47_0 : Code := bodyOf Tryd.f47
def c47_1 := cA c47_0
def c47_2 := cB c47_0
def c47_3 := cA c47_2
def c47_4 := cB c47_2
theorem c47_0_e : c47_0 = .seq c47_1 c47_2 := rfl
theorem c47_1_r : RG (E0 mm) 47 c47_1 := rgN rfl
theorem c47_2_e : c47_2 = .seq c47_3 c47_4 := rfl
theorem c47_3_r : RG (E0 mm) 47 c47_3 := rgN rfl
theorem c47_4_e : c47_4 = .ret := rfl
abbrev R47 := (Bool)
def e47 : R47 → AV × Heap := fun x => (.v (.c (.d (.sc (.bool x)))), [])
def m47 (s : Bs) : Option R47 :=
  (m58 false s).bind fun yr2 =>
    some (!yr2)
theorem f47_t (s : Bs) :
    callW (E0 mm) 47 [.c (.d (.sc (.string (S s)))), .c (.d (.sc (.func (.func 48) #[] #[])))] [] = (m47 s).map e47 := by
  rw [callW_run (body := c47_0) (res := [.tmp 4]) Tryd.func47 rfl rfl (by kernel_rfl)]
  simp -implicitDefEqProofs only [m47, slots2, c47_0_e, c47_1_r, (show opsOf c47_1 = _ :: _ from rfl), c47_2_e, c47_3_r, (show opsOf c47_3 = _ :: _ from rfl), Tryd.underlying9, Tryd.underlying22, Tryd.underlying5, hd11, rw12, ent58, prm58, (show callW (E0 mm) 58 [.c (.d (.lst false (enL enB s))), .c (.fn 59 [(0, 0)])] [.cells [.d (.sc (.func (.func 48) #[] #[]))]] = _ from f58_t false s), setA, setB, za, zb, zc, zd, ze, zf, zg, zh, zi, zj, zk, zl, zm, zn, zo, zp, reduceCtorEq, zE, ↓reduceIte]
  refine brM (fun yc1 => ?_) (fun yr2 yc1 => ?_)
  · rw [yc1]; rfl
  · simp -implicitDefEqProofs only [e58, c47_4_e, yc1, setA, setB, za, zb, zc, zd, ze, zf, zg, zh, zi, zj, zk, zl, zm, zn, zo, zp, reduceCtorEq, zE, ↓reduceIte]
    all_goals rfl
end
end Go.Proofs.YtaohepmbkepmiaaDoor
