/- The Go functions as plain functions, and that the evaluator computes them. -/
import Derived.Test.YtaohepmbkepmiaaDoorHd
set_option linter.all false
set_option maxRecDepth 100000
namespace Go.Proofs.YtaohepmbkepmiaaDoor
open Go Go.Ab
open Nat renaming reduceEqDiff → za, reduceAdd → zb, reduceLeDiff → zc, reduceLT → zd, reduceMul → ze, reduceBEq → zf, reduceSub → zg, reducePow → zh
open Int renaming reduceEq → zi, reduceLE → zj, reduceLT → zk, reduceToNat → zl, reduceNegSucc → zm, reduceAdd → zn, reduceBEq → zo
open String renaming reduceBEq → zp
set_option maxHeartbeats 4000000
noncomputable section
variable {mm : Int}
set_option maxRecDepth 100000 in
theorem f11_t : callW (E0 mm) 11 [] [] = some (.v (.c (.d (.sc (.bool true)))), []) := callN_W (k := 400) (by kernel_rfl)
set_option maxRecDepth 100000 in
theorem f93_t : callW (E0 mm) 93 [.c (.d (.sc (.int .u64 16)))] [] = some (.v (.c (.d (.sc (.int .i64 4)))), []) := callN_W (k := 60) (by kernel_rfl)
noncomputable def c92_0 : Code := bodyOf Tryd.f92
def c92_1 := cA c92_0
def c92_2 := cB c92_0
def c92_3 := cA c92_2
def c92_4 := cB c92_2
theorem c92_0_e : c92_0 = .seq c92_1 c92_2 := rfl
theorem c92_1_r : RG (E0 mm) 92 c92_1 := rgN rfl
theorem c92_2_e : c92_2 = .seq c92_3 c92_4 := rfl
theorem c92_3_r : RG (E0 mm) 92 c92_3 := rgN rfl
theorem c92_4_e : c92_4 = .ret := rfl
abbrev R92 := (Bool)
def e92 : R92 → AV × Heap := fun x => (.v (.c (.d (.sc (.bool x)))), [])
def m92  : Option R92 :=
  some true
theorem f92_t  :
    callW (E0 mm) 92 [.c (.d (.sc (.int .i64 16)))] [] = (m92).map e92 := by
  rw [callW_run (body := c92_0) (res := [.tmp 2]) Tryd.func92 rfl rfl (by kernel_rfl)]
  simp -implicitDefEqProofs only [m92, slots1, c92_0_e, c92_1_r, (show opsOf c92_1 = _ :: _ from rfl), c92_2_e, c92_3_r, (show opsOf c92_3 = _ :: _ from rfl), ev_and, (show ib_and .i64 16 15 = 0 from rfl), c92_4_e, setA, setB, za, zb, zc, zd, ze, zf, zg, zh, zi, zj, zk, zl, zm, zn, zo, zp, reduceCtorEq, zE, ↓reduceIte]
  all_goals rfl
noncomputable def c83_0 : Code := bodyOf Tryd.f83
def c83_1 := cA c83_0
def c83_2 := cB c83_0
def c83_3 := cA c83_2
def c83_4 := cA c83_3
def c83_5 := cB c83_3
def c83_6 := cA c83_5
def c83_7 := cB c83_5
def c83_8 := cB c83_2
def c83_9 := cA c83_8
def c83_10 := cB c83_8
def c83_11 := cA c83_10
def c83_12 := cB c83_10
def c83_13 := cA c83_12
def c83_14 := cA c83_13
def c83_15 := cB c83_13
def c83_16 := cA c83_15
def c83_17 := cB c83_15
def c83_18 := cB c83_12
def c83_19 := cA c83_18
def c83_20 := cA c83_19
def c83_21 := cB c83_19
def c83_22 := cA c83_21
def c83_23 := cA c83_22
def c83_24 := cB c83_22
def c83_25 := cA c83_24
def c83_26 := cB c83_24
def c83_27 := cA c83_26
def c83_28 := cB c83_26
def c83_29 := cA c83_28
def c83_30 := cA c83_29
def c83_31 := cA c83_30
def c83_32 := cA c83_31
def c83_33 := cA c83_32
def c83_34 := cB c83_32
def c83_35 := cA c83_34
def c83_36 := cB c83_34
def c83_37 := cB c83_31
def c83_38 := cA c83_37
def c83_39 := cA c83_38
def c83_40 := cB c83_38
def c83_41 := cA c83_40
def c83_42 := cB c83_40
def c83_43 := cB c83_28
def c83_44 := cA c83_43
def c83_45 := cB c83_43
def c83_46 := cB c83_21
def c83_47 := cA c83_46
def c83_48 := cB c83_46
def c83_49 := cA c83_48
def c83_50 := cA c83_49
def c83_51 := cA c83_50
def c83_52 := cA c83_51
def c83_53 := cA c83_52
def c83_54 := cB c83_52
def c83_55 := cA c83_54
def c83_56 := cB c83_54
def c83_57 := cB c83_51
def c83_58 := cA c83_57
def c83_59 := cA c83_58
def c83_60 := cB c83_58
def c83_61 := cA c83_60
def c83_62 := cB c83_60
def c83_63 := cA c83_62
def c83_64 := cB c83_62
def c83_65 := cB c83_48
def c83_66 := cA c83_65
def c83_67 := cB c83_65
def c83_68 := cB c83_18
def c83_69 := cA c83_68
def c83_70 := cA c83_69
def c83_71 := cB c83_69
def c83_72 := cA c83_71
def c83_75 := cB c83_71
def c83_76 := cB c83_68
def c83_77 := cA c83_76
def c83_78 := cA c83_77
def c83_79 := cB c83_77
def c83_80 := cA c83_79
def c83_83 := cB c83_79
def c83_84 := cB c83_76
def c83_85 := cA c83_84
def c83_86 := cB c83_84
theorem c83_0_e : c83_0 = .seq c83_1 c83_2 := rfl
theorem c83_1_r : RG (E0 mm) 83 c83_1 := rgN rfl
theorem c83_2_e : c83_2 = .seq c83_3 c83_8 := rfl
theorem c83_3_e : c83_3 = .seq c83_4 c83_5 := rfl
theorem c83_4_r : RG (E0 mm) 83 c83_4 := rgN rfl
theorem c83_7_e : c83_7 = .skip := rfl
theorem c83_8_e : c83_8 = .seq c83_9 c83_10 := rfl
theorem c83_9_r : RG (E0 mm) 83 c83_9 := rgN rfl
theorem c83_10_e : c83_10 = .seq c83_11 c83_12 := rfl
theorem c83_11_r : RG (E0 mm) 83 c83_11 := rgN rfl
theorem c83_12_e : c83_12 = .seq c83_13 c83_18 := rfl
theorem c83_13_e : c83_13 = .seq c83_14 c83_15 := rfl
theorem c83_14_r : RG (E0 mm) 83 c83_14 := rgN rfl
theorem c83_17_e : c83_17 = .skip := rfl
theorem c83_18_e : c83_18 = .seq c83_19 c83_68 := rfl
theorem c83_19_e : c83_19 = .seq c83_20 c83_21 := rfl
theorem c83_20_r : RG (E0 mm) 83 c83_20 := rgN rfl
theorem c83_22_e : c83_22 = .seq c83_23 c83_24 := rfl
theorem c83_23_r : RG (E0 mm) 83 c83_23 := rgN rfl
theorem c83_24_e : c83_24 = .seq c83_25 c83_26 := rfl
theorem c83_25_r : RG (E0 mm) 83 c83_25 := rgN rfl
theorem c83_26_e : c83_26 = .seq c83_27 c83_28 := rfl
theorem c83_27_r : RG (E0 mm) 83 c83_27 := rgN rfl
theorem c83_28_e : c83_28 = .seq c83_29 c83_43 := rfl
theorem c83_29_e : c83_29 = .block 0 c83_30 := rfl
theorem c83_30_l (m : Nat) (st : St) : den (E0 mm) 83 m (callW (E0 mm)) itW c83_30 none st = loopD itW (loopF (E0 mm) 83 m (callW (E0 mm)) itW c83_31 [(0, .keep), (1, .keep), (3, .keep), (4, .keep), (10, .keep), (11, .keep), (12, .keep), (13, .keep), (14, .keep), (15, .keep), (16, .keep)]) (canon m [(0, .keep), (1, .keep), (3, .keep), (4, .keep), (10, .keep), (11, .keep), (12, .keep), (13, .keep), (14, .keep), (15, .keep), (16, .keep)] st) := rfl
theorem c83_31_e : c83_31 = .seq c83_32 c83_37 := rfl
theorem c83_32_e : c83_32 = .seq c83_33 c83_34 := rfl
theorem c83_33_r : RG (E0 mm) 83 c83_33 := rgN rfl
theorem c83_35_e : c83_35 = .skip := rfl
theorem c83_36_e : c83_36 = .exit 0 := rfl
theorem c83_37_e : c83_37 = .block 1 c83_38 := rfl
theorem c83_38_e : c83_38 = .seq c83_39 c83_40 := rfl
theorem c83_39_r : RG (E0 mm) 83 c83_39 := rgN rfl
theorem c83_40_e : c83_40 = .seq c83_41 c83_42 := rfl
theorem c83_41_r : RG (E0 mm) 83 c83_41 := rgN rfl
theorem c83_42_r : RG (E0 mm) 83 c83_42 := rgN rfl
theorem c83_43_e : c83_43 = .seq c83_44 c83_45 := rfl
theorem c83_44_r : RG (E0 mm) 83 c83_44 := rgN rfl
theorem c83_45_r : RG (E0 mm) 83 c83_45 := rgN rfl
theorem c83_46_e : c83_46 = .seq c83_47 c83_48 := rfl
theorem c83_47_r : RG (E0 mm) 83 c83_47 := rgN rfl
theorem c83_48_e : c83_48 = .seq c83_49 c83_65 := rfl
theorem c83_49_e : c83_49 = .block 2 c83_50 := rfl
theorem c83_50_l (m : Nat) (st : St) : den (E0 mm) 83 m (callW (E0 mm)) itW c83_50 none st = loopD itW (loopF (E0 mm) 83 m (callW (E0 mm)) itW c83_51 [(0, .keep), (1, .keep), (3, .keep), (4, .keep), (10, .keep), (11, .keep), (12, .keep), (13, .keep), (17, .keep)]) (canon m [(0, .keep), (1, .keep), (3, .keep), (4, .keep), (10, .keep), (11, .keep), (12, .keep), (13, .keep), (17, .keep)] st) := rfl
theorem c83_51_e : c83_51 = .seq c83_52 c83_57 := rfl
theorem c83_52_e : c83_52 = .seq c83_53 c83_54 := rfl
theorem c83_53_r : RG (E0 mm) 83 c83_53 := rgN rfl
theorem c83_55_e : c83_55 = .skip := rfl
theorem c83_56_e : c83_56 = .exit 2 := rfl
theorem c83_57_e : c83_57 = .block 3 c83_58 := rfl
theorem c83_58_e : c83_58 = .seq c83_59 c83_60 := rfl
theorem c83_59_r : RG (E0 mm) 83 c83_59 := rgN rfl
theorem c83_60_e : c83_60 = .seq c83_61 c83_62 := rfl
theorem c83_61_r : RG (E0 mm) 83 c83_61 := rgN rfl
theorem c83_62_e : c83_62 = .seq c83_63 c83_64 := rfl
theorem c83_63_r : RG (E0 mm) 83 c83_63 := rgN rfl
theorem c83_64_r : RG (E0 mm) 83 c83_64 := rgN rfl
theorem c83_65_e : c83_65 = .seq c83_66 c83_67 := rfl
theorem c83_66_r : RG (E0 mm) 83 c83_66 := rgN rfl
theorem c83_67_r : RG (E0 mm) 83 c83_67 := rgN rfl
theorem c83_68_e : c83_68 = .seq c83_69 c83_76 := rfl
theorem c83_69_e : c83_69 = .seq c83_70 c83_71 := rfl
theorem c83_70_r : RG (E0 mm) 83 c83_70 := rgN rfl
theorem c83_75_e : c83_75 = .skip := rfl
theorem c83_76_e : c83_76 = .seq c83_77 c83_84 := rfl
theorem c83_77_e : c83_77 = .seq c83_78 c83_79 := rfl
theorem c83_78_r : RG (E0 mm) 83 c83_78 := rgN rfl
theorem c83_83_e : c83_83 = .skip := rfl
theorem c83_84_e : c83_84 = .seq c83_85 c83_86 := rfl
theorem c83_85_r : RG (E0 mm) 83 c83_85 := rgN rfl
theorem c83_86_e : c83_86 = .ret := rfl
abbrev R83 := (Bool × List UInt8 × Bs)
def e83 : R83 → AV × Heap := fun x => (.tup [.c (.d (.lst x.1 (enL enB x.2.1))), .c (.d (.sc (.string (S x.2.2))))], [])
def K83_30 : Option (Ex × St) → Option (AV × Heap) := fun r => bodyD (E0 mm) [.tmp 10, .tmp 11] 0 false (seqD (E0 mm) 83 0 (callW (E0 mm)) itW c83_68 (seqD (E0 mm) 83 0 (callW (E0 mm)) itW c83_43 (blockD 0 (r))))
def en83_30 : (List UInt8 × Int × List UInt8 × Bs × Int × List UInt8) → X := fun x => (none, [.v (.c (.d (.lst true (enL enB x.1)))), .v (.c (.d (.sc (.int .u64 x.2.1)))), .v (.c (.d (.sc (.bool false)))), .v (.c (.d (.sc (.bool false)))), .v (.c (.d (.lst true (enL enB x.2.2.1)))), .v (.c (.d (.sc (.string (S x.2.2.2.1))))), .v (.c (.ptr 0 0)), .v (.c (.d (.sc (.int .i64 x.2.2.2.2.1)))), .v (.c (.d (.sc (.int .u64 4)))), .v (.c (.d (.sc (.int .u64 16)))), .v (.c (.d (.sc (.int .u64 15))))], [.cells (enC x.2.2.2.2.2)])
def j83_68 (dst0_1 d10_1 : List UInt8) (s11 : Bs) (i13 : Int) (h0 : List UInt8) : Option R83 :=
  (bnd i13 65).bind fun yk14 =>
    if yk14 + (65 - yk14) ≤ h0.length then
      some (true, d10_1, ((h0.drop yk14).take (65 - yk14)))
    else none
theorem j83_68_t (dst0_1 d10_1 : List UInt8) (s11 : Bs) (i13 : Int) (h0 : List UInt8)  (sl : Nat → AV) (zq0 : sl 0 = .v (.c (.d (.lst true (enL enB dst0_1))))) (zq3 : sl 3 = .v (.c (.d (.sc (.bool false))))) (zq4 : sl 4 = .v (.c (.d (.sc (.bool false))))) (zq10 : sl 10 = .v (.c (.d (.lst true (enL enB d10_1))))) (zq11 : sl 11 = .v (.c (.d (.sc (.string (S s11)))))) (zq12 : sl 12 = .v (.c (.ptr 0 0))) (zq13 : sl 13 = .v (.c (.d (.sc (.int .i64 i13))))) :
    bodyD (E0 mm) [.tmp 10, .tmp 11] 0 false (den (E0 mm) 83 0 (callW (E0 mm)) itW c83_68 none ⟨sl, [.cells (enC h0)]⟩) = (j83_68 dst0_1 d10_1 s11 i13 h0).map e83 := by
  simp -implicitDefEqProofs only [j83_68, c83_68_e, c83_69_e, c83_70_r, (show opsOf c83_70 = _ :: _ from rfl), (show c83_71 = Code.cond _ c83_72 c83_75 from rfl), c83_75_e, c83_76_e, c83_77_e, c83_78_r, (show opsOf c83_78 = _ :: _ from rfl), (show c83_79 = Code.cond _ c83_80 c83_83 from rfl), c83_83_e, c83_84_e, c83_85_r, (show opsOf c83_85 = _ :: _ from rfl), Tryd.underlying113, sz5, Option.getD_none, Option.getD_some, Option.map_none, Option.map_some, Nat.zero_add, Nat.sub_zero, Nat.zero_mul, Nat.mul_one, (show bnd 65 65 = some 65 from rfl), zq0, zq3, zq4, zq10, zq11, zq12, zq13, setA, setB, za, zb, zc, zd, ze, zf, zg, zh, zi, zj, zk, zl, zm, zn, zo, zp, reduceCtorEq, zE, ↓reduceIte]
  refine brM (fun yc13 => ?_) (fun yk14 yc13 => ?_)
  · rw [yc13]; rfl
  · simp -implicitDefEqProofs only [Tryd.underlying22, Tryd.underlying9, Tryd.underlying5, enC_length, enC_take, mapM_enC, enC_drop, zq0, zq3, zq4, zq10, zq11, zq12, zq13, yc13, setA, setB, za, zb, zc, zd, ze, zf, zg, zh, zi, zj, zk, zl, zm, zn, zo, zp, reduceCtorEq, zE, ↓reduceIte]
    refine brP (fun yc15 => ?_) (fun yc15 => ?_)
    · simp -implicitDefEqProofs only [enC_length, enC_take, mapM_enC, enC_drop, (chunk_enDd yk14 (65 - yk14) h0 yc15), c83_86_e, zq0, zq3, zq4, zq10, zq11, zq12, zq13, yc13, yc15, setA, setB, za, zb, zc, zd, ze, zf, zg, zh, zi, zj, zk, zl, zm, zn, zo, zp, reduceCtorEq, zE, ↓reduceIte]
      all_goals rfl
    · rw [if_neg yc15]; rfl
def j83_43 (dst0_1 : List UInt8) (u1 : Int) (d10_1 : List UInt8) (s11 : Bs) (i13 : Int) (h0 : List UInt8) : Option R83 :=
  if 0 ≤ u1 ∧ u1 < 36 then
    if 0 ≤ (w64 (i13 - 1)) ∧ (w64 (i13 - 1)) < 65 then
      if (w64 (i13 - 1)).toNat < h0.length then
        j83_68 dst0_1 d10_1 s11 (w64 (i13 - 1)) (h0.set ((w64 (i13 - 1)).toNat) (([48, 49, 50, 51, 52, 53, 54, 55, 56, 57, 97, 98, 99, 100, 101, 102, 103, 104, 105, 106, 107, 108, 109, 110, 111, 112, 113, 114, 115, 116, 117, 118, 119, 120, 121, 122] : Bs).getD u1.toNat 0))
      else none
    else none
  else none
theorem j83_43_t (dst0_1 : List UInt8) (u1 : Int) (d10_1 : List UInt8) (s11 : Bs) (i13 : Int) (h0 : List UInt8)  (sl : Nat → AV) (zq0 : sl 0 = .v (.c (.d (.lst true (enL enB dst0_1))))) (zq1 : sl 1 = .v (.c (.d (.sc (.int .u64 u1))))) (zq3 : sl 3 = .v (.c (.d (.sc (.bool false))))) (zq4 : sl 4 = .v (.c (.d (.sc (.bool false))))) (zq10 : sl 10 = .v (.c (.d (.lst true (enL enB d10_1))))) (zq11 : sl 11 = .v (.c (.d (.sc (.string (S s11)))))) (zq12 : sl 12 = .v (.c (.ptr 0 0))) (zq13 : sl 13 = .v (.c (.d (.sc (.int .i64 i13))))) :
    bodyD (E0 mm) [.tmp 10, .tmp 11] 0 false (seqD (E0 mm) 83 0 (callW (E0 mm)) itW c83_68 (den (E0 mm) 83 0 (callW (E0 mm)) itW c83_43 none ⟨sl, [.cells (enC h0)]⟩)) = (j83_43 dst0_1 u1 d10_1 s11 i13 h0).map e83 := by
  simp -implicitDefEqProofs only [j83_43, c83_43_e, c83_44_r, (show opsOf c83_44 = _ :: _ from rfl), c83_45_r, (show opsOf c83_45 = _ :: _ from rfl), Tryd.underlying9, zq0, zq1, zq3, zq4, zq10, zq11, zq12, zq13, setA, setB, za, zb, zc, zd, ze, zf, zg, zh, zi, zj, zk, zl, zm, zn, zo, zp, reduceCtorEq, zE, ↓reduceIte]
  refine brP (fun yc9 => ?_) (fun yc9 => ?_)
  · simp -implicitDefEqProofs only [Tryd.underlying113, sz5, zq0, zq1, zq3, zq4, zq10, zq11, zq12, zq13, yc9, setA, setB, za, zb, zc, zd, ze, zf, zg, zh, zi, zj, zk, zl, zm, zn, zo, zp, reduceCtorEq, zE, ↓reduceIte]
    refine brP (fun yc10 => ?_) (fun yc10 => ?_)
    · have yd11 : (w64 (i13 - 1)).toNat < 65 := by omega
      simp -implicitDefEqProofs only [sz5, enC_length, enC_wr, zq0, zq1, zq3, zq4, zq10, zq11, zq12, zq13, yc9, yc10, yd11, setA, setB, za, zb, zc, zd, ze, zf, zg, zh, zi, zj, zk, zl, zm, zn, zo, zp, reduceCtorEq, zE, ↓reduceIte]
      refine brP (fun yc12 => ?_) (fun yc12 => ?_)
      · simp -implicitDefEqProofs only [zq0, zq1, zq3, zq4, zq10, zq11, zq12, zq13, yc9, yc10, yd11, yc12, setA, setB, za, zb, zc, zd, ze, zf, zg, zh, zi, zj, zk, zl, zm, zn, zo, zp, reduceCtorEq, zE, ↓reduceIte]
        exact j83_68_t dst0_1 d10_1 s11 (w64 (i13 - 1)) (h0.set ((w64 (i13 - 1)).toNat) (([48, 49, 50, 51, 52, 53, 54, 55, 56, 57, 97, 98, 99, 100, 101, 102, 103, 104, 105, 106, 107, 108, 109, 110, 111, 112, 113, 114, 115, 116, 117, 118, 119, 120, 121, 122] : Bs).getD u1.toNat 0)) _ (by exact zq0) (by exact zq3) (by exact zq4) (by exact zq10) (by exact zq11) (by exact zq12) (by rfl)
      · rw [if_neg yc12]; rfl
    · rw [if_neg yc10]; rfl
  · rw [if_neg yc9]; rfl
def s83_30 (dst0_1 : List UInt8) (u1 : Int) (d10_1 : List UInt8) (s11 : Bs) (i13 : Int) (h0 : List UInt8) : Option ((List UInt8 × Int × List UInt8 × Bs × Int × List UInt8) ⊕ R83) :=
  if (decide (16 ≤ u1)) = true then
    if 0 ≤ (ib_and .u64 u1 15) ∧ (ib_and .u64 u1 15) < 36 then
      if 0 ≤ (w64 (i13 - 1)) ∧ (w64 (i13 - 1)) < 65 then
        if (w64 (i13 - 1)).toNat < h0.length then
          some (.inl (dst0_1, (ib_shr .u64 u1 4), d10_1, s11, (w64 (i13 - 1)), (h0.set ((w64 (i13 - 1)).toNat) (([48, 49, 50, 51, 52, 53, 54, 55, 56, 57, 97, 98, 99, 100, 101, 102, 103, 104, 105, 106, 107, 108, 109, 110, 111, 112, 113, 114, 115, 116, 117, 118, 119, 120, 121, 122] : Bs).getD (ib_and .u64 u1 15).toNat 0))))
        else none
      else none
    else none
  else
    (j83_43 dst0_1 u1 d10_1 s11 i13 h0).map .inr
theorem s83_30_t (dst0_1 : List UInt8) (u1 : Int) (d10_1 : List UInt8) (s11 : Bs) (i13 : Int) (h0 : List UInt8) :
    stepE (K83_30 (mm := mm)) (loopF (E0 mm) 83 0 (callW (E0 mm)) itW c83_31 [(0, .keep), (1, .keep), (3, .keep), (4, .keep), (10, .keep), (11, .keep), (12, .keep), (13, .keep), (14, .keep), (15, .keep), (16, .keep)] (none, [.v (.c (.d (.lst true (enL enB dst0_1)))), .v (.c (.d (.sc (.int .u64 u1)))), .v (.c (.d (.sc (.bool false)))), .v (.c (.d (.sc (.bool false)))), .v (.c (.d (.lst true (enL enB d10_1)))), .v (.c (.d (.sc (.string (S s11))))), .v (.c (.ptr 0 0)), .v (.c (.d (.sc (.int .i64 i13)))), .v (.c (.d (.sc (.int .u64 4)))), .v (.c (.d (.sc (.int .u64 16)))), .v (.c (.d (.sc (.int .u64 15))))], [.cells (enC h0)])) = (s83_30 dst0_1 u1 d10_1 s11 i13 h0).map (sm en83_30 e83) := by
  simp -implicitDefEqProofs only [s83_30, loopF_eq, c83_31_e, c83_32_e, c83_33_r, (show opsOf c83_33 = _ :: _ from rfl), (show c83_34 = Code.cond _ c83_35 c83_36 from rfl), setA, setB, za, zb, zc, zd, ze, zf, zg, zh, zi, zj, zk, zl, zm, zn, zo, zp, reduceCtorEq, zE, ↓reduceIte]
  refine brB (fun yc4 => ?_) (fun yc4 => ?_)
  · simp -implicitDefEqProofs only [c83_35_e, c83_37_e, c83_38_e, c83_39_r, (show opsOf c83_39 = _ :: _ from rfl), c83_40_e, c83_41_r, (show opsOf c83_41 = _ :: _ from rfl), ev_and, Tryd.underlying9, yc4, setA, setB, za, zb, zc, zd, ze, zf, zg, zh, zi, zj, zk, zl, zm, zn, zo, zp, reduceCtorEq, zE, ↓reduceIte]
    refine brP (fun yc5 => ?_) (fun yc5 => ?_)
    · simp -implicitDefEqProofs only [Tryd.underlying113, sz5, yc4, yc5, setA, setB, za, zb, zc, zd, ze, zf, zg, zh, zi, zj, zk, zl, zm, zn, zo, zp, reduceCtorEq, zE, ↓reduceIte]
      refine brP (fun yc6 => ?_) (fun yc6 => ?_)
      · have yd7 : (w64 (i13 - 1)).toNat < 65 := by omega
        simp -implicitDefEqProofs only [sz5, enC_length, enC_wr, yc4, yc5, yc6, yd7, setA, setB, za, zb, zc, zd, ze, zf, zg, zh, zi, zj, zk, zl, zm, zn, zo, zp, reduceCtorEq, zE, ↓reduceIte]
        refine brP (fun yc8 => ?_) (fun yc8 => ?_)
        · simp -implicitDefEqProofs only [c83_42_r, (show opsOf c83_42 = _ :: _ from rfl), ev_shr, not_false_eq_true, yc4, yc5, yc6, yd7, yc8, setA, setB, za, zb, zc, zd, ze, zf, zg, zh, zi, zj, zk, zl, zm, zn, zo, zp, reduceCtorEq, zE, ↓reduceIte]
          all_goals rfl
        · rw [if_neg yc8]; rfl
      · rw [if_neg yc6]; rfl
    · rw [if_neg yc5]; rfl
  · simp -implicitDefEqProofs only [c83_36_e, K83_30, yc4, setA, setB, za, zb, zc, zd, ze, zf, zg, zh, zi, zj, zk, zl, zm, zn, zo, zp, reduceCtorEq, zE, ↓reduceIte]
    exact mi (j83_43_t dst0_1 u1 d10_1 s11 i13 h0 _ (by rfl) (by rfl) (by rfl) (by rfl) (by rfl) (by rfl) (by rfl) (by rfl))
def l83_30 (dst0_1 : List UInt8) (u1 : Int) (d10_1 : List UInt8) (s11 : Bs) (i13 : Int) (h0 : List UInt8) : Option R83 := iter (fun x : (List UInt8 × Int × List UInt8 × Bs × Int × List UInt8) => s83_30 x.1 x.2.1 x.2.2.1 x.2.2.2.1 x.2.2.2.2.1 x.2.2.2.2.2) (dst0_1, u1, d10_1, s11, i13, h0)
theorem l83_30_t (dst0_1 : List UInt8) (u1 : Int) (d10_1 : List UInt8) (s11 : Bs) (i13 : Int) (h0 : List UInt8) : bodyD (E0 mm) [.tmp 10, .tmp 11] 0 false (seqD (E0 mm) 83 0 (callW (E0 mm)) itW c83_68 (seqD (E0 mm) 83 0 (callW (E0 mm)) itW c83_43 (blockD 0 (itW (loopF (E0 mm) 83 0 (callW (E0 mm)) itW c83_31 [(0, .keep), (1, .keep), (3, .keep), (4, .keep), (10, .keep), (11, .keep), (12, .keep), (13, .keep), (14, .keep), (15, .keep), (16, .keep)]) (none, [.v (.c (.d (.lst true (enL enB dst0_1)))), .v (.c (.d (.sc (.int .u64 u1)))), .v (.c (.d (.sc (.bool false)))), .v (.c (.d (.sc (.bool false)))), .v (.c (.d (.lst true (enL enB d10_1)))), .v (.c (.d (.sc (.string (S s11))))), .v (.c (.ptr 0 0)), .v (.c (.d (.sc (.int .i64 i13)))), .v (.c (.d (.sc (.int .u64 4)))), .v (.c (.d (.sc (.int .u64 16)))), .v (.c (.d (.sc (.int .u64 15))))], [.cells (enC h0)]))))) = (l83_30 dst0_1 u1 d10_1 s11 i13 h0).map e83 :=
  it_sim (K := (K83_30 (mm := mm))) rfl (enc := en83_30) (fun x => s83_30_t x.1 x.2.1 x.2.2.1 x.2.2.2.1 x.2.2.2.2.1 x.2.2.2.2.2) (dst0_1, u1, d10_1, s11, i13, h0)
def K83_50 : Option (Ex × St) → Option (AV × Heap) := fun r => bodyD (E0 mm) [.tmp 10, .tmp 11] 0 false (seqD (E0 mm) 83 0 (callW (E0 mm)) itW c83_68 (seqD (E0 mm) 83 0 (callW (E0 mm)) itW c83_65 (blockD 2 (r))))
def en83_50 : (List UInt8 × Int × List UInt8 × Bs × Int × List UInt8) → X := fun x => (none, [.v (.c (.d (.lst true (enL enB x.1)))), .v (.c (.d (.sc (.int .u64 x.2.1)))), .v (.c (.d (.sc (.bool false)))), .v (.c (.d (.sc (.bool false)))), .v (.c (.d (.lst true (enL enB x.2.2.1)))), .v (.c (.d (.sc (.string (S x.2.2.2.1))))), .v (.c (.ptr 0 0)), .v (.c (.d (.sc (.int .i64 x.2.2.2.2.1)))), .v (.c (.d (.sc (.int .u64 16))))], [.cells (enC x.2.2.2.2.2)])
def j83_65 (dst0_1 : List UInt8) (u1 : Int) (d10_1 : List UInt8) (s11 : Bs) (i13 : Int) (h0 : List UInt8) : Option R83 :=
  if 0 ≤ u1 ∧ u1 < 36 then
    if 0 ≤ (w64 (i13 - 1)) ∧ (w64 (i13 - 1)) < 65 then
      if (w64 (i13 - 1)).toNat < h0.length then
        j83_68 dst0_1 d10_1 s11 (w64 (i13 - 1)) (h0.set ((w64 (i13 - 1)).toNat) (([48, 49, 50, 51, 52, 53, 54, 55, 56, 57, 97, 98, 99, 100, 101, 102, 103, 104, 105, 106, 107, 108, 109, 110, 111, 112, 113, 114, 115, 116, 117, 118, 119, 120, 121, 122] : Bs).getD u1.toNat 0))
      else none
    else none
  else none
theorem j83_65_t (dst0_1 : List UInt8) (u1 : Int) (d10_1 : List UInt8) (s11 : Bs) (i13 : Int) (h0 : List UInt8)  (sl : Nat → AV) (zq0 : sl 0 = .v (.c (.d (.lst true (enL enB dst0_1))))) (zq1 : sl 1 = .v (.c (.d (.sc (.int .u64 u1))))) (zq3 : sl 3 = .v (.c (.d (.sc (.bool false))))) (zq4 : sl 4 = .v (.c (.d (.sc (.bool false))))) (zq10 : sl 10 = .v (.c (.d (.lst true (enL enB d10_1))))) (zq11 : sl 11 = .v (.c (.d (.sc (.string (S s11)))))) (zq12 : sl 12 = .v (.c (.ptr 0 0))) (zq13 : sl 13 = .v (.c (.d (.sc (.int .i64 i13))))) :
    bodyD (E0 mm) [.tmp 10, .tmp 11] 0 false (seqD (E0 mm) 83 0 (callW (E0 mm)) itW c83_68 (den (E0 mm) 83 0 (callW (E0 mm)) itW c83_65 none ⟨sl, [.cells (enC h0)]⟩)) = (j83_65 dst0_1 u1 d10_1 s11 i13 h0).map e83 := by
  simp -implicitDefEqProofs only [j83_65, c83_65_e, c83_66_r, (show opsOf c83_66 = _ :: _ from rfl), c83_67_r, (show opsOf c83_67 = _ :: _ from rfl), Tryd.underlying9, zq0, zq1, zq3, zq4, zq10, zq11, zq12, zq13, setA, setB, za, zb, zc, zd, ze, zf, zg, zh, zi, zj, zk, zl, zm, zn, zo, zp, reduceCtorEq, zE, ↓reduceIte]
  refine brP (fun yc21 => ?_) (fun yc21 => ?_)
  · simp -implicitDefEqProofs only [Tryd.underlying113, sz5, zq0, zq1, zq3, zq4, zq10, zq11, zq12, zq13, yc21, setA, setB, za, zb, zc, zd, ze, zf, zg, zh, zi, zj, zk, zl, zm, zn, zo, zp, reduceCtorEq, zE, ↓reduceIte]
    refine brP (fun yc22 => ?_) (fun yc22 => ?_)
    · have yd23 : (w64 (i13 - 1)).toNat < 65 := by omega
      simp -implicitDefEqProofs only [sz5, enC_length, enC_wr, zq0, zq1, zq3, zq4, zq10, zq11, zq12, zq13, yc21, yc22, yd23, setA, setB, za, zb, zc, zd, ze, zf, zg, zh, zi, zj, zk, zl, zm, zn, zo, zp, reduceCtorEq, zE, ↓reduceIte]
      refine brP (fun yc24 => ?_) (fun yc24 => ?_)
      · simp -implicitDefEqProofs only [zq0, zq1, zq3, zq4, zq10, zq11, zq12, zq13, yc21, yc22, yd23, yc24, setA, setB, za, zb, zc, zd, ze, zf, zg, zh, zi, zj, zk, zl, zm, zn, zo, zp, reduceCtorEq, zE, ↓reduceIte]
        exact j83_68_t dst0_1 d10_1 s11 (w64 (i13 - 1)) (h0.set ((w64 (i13 - 1)).toNat) (([48, 49, 50, 51, 52, 53, 54, 55, 56, 57, 97, 98, 99, 100, 101, 102, 103, 104, 105, 106, 107, 108, 109, 110, 111, 112, 113, 114, 115, 116, 117, 118, 119, 120, 121, 122] : Bs).getD u1.toNat 0)) _ (by exact zq0) (by exact zq3) (by exact zq4) (by exact zq10) (by exact zq11) (by exact zq12) (by rfl)
      · rw [if_neg yc24]; rfl
    · rw [if_neg yc22]; rfl
  · rw [if_neg yc21]; rfl
def s83_50 (dst0_1 : List UInt8) (u1 : Int) (d10_1 : List UInt8) (s11 : Bs) (i13 : Int) (h0 : List UInt8) : Option ((List UInt8 × Int × List UInt8 × Bs × Int × List UInt8) ⊕ R83) :=
  if (decide (16 ≤ u1)) = true then
    if 0 ≤ (wu64 (u1 - (wu64 ((wu64 (u1.tdiv 16)) * 16)))) ∧ (wu64 (u1 - (wu64 ((wu64 (u1.tdiv 16)) * 16)))) < 36 then
      if 0 ≤ (w64 (i13 - 1)) ∧ (w64 (i13 - 1)) < 65 then
        if (w64 (i13 - 1)).toNat < h0.length then
          some (.inl (dst0_1, (wu64 (u1.tdiv 16)), d10_1, s11, (w64 (i13 - 1)), (h0.set ((w64 (i13 - 1)).toNat) (([48, 49, 50, 51, 52, 53, 54, 55, 56, 57, 97, 98, 99, 100, 101, 102, 103, 104, 105, 106, 107, 108, 109, 110, 111, 112, 113, 114, 115, 116, 117, 118, 119, 120, 121, 122] : Bs).getD (wu64 (u1 - (wu64 ((wu64 (u1.tdiv 16)) * 16)))).toNat 0))))
        else none
      else none
    else none
  else
    (j83_65 dst0_1 u1 d10_1 s11 i13 h0).map .inr
theorem s83_50_t (dst0_1 : List UInt8) (u1 : Int) (d10_1 : List UInt8) (s11 : Bs) (i13 : Int) (h0 : List UInt8) :
    stepE (K83_50 (mm := mm)) (loopF (E0 mm) 83 0 (callW (E0 mm)) itW c83_51 [(0, .keep), (1, .keep), (3, .keep), (4, .keep), (10, .keep), (11, .keep), (12, .keep), (13, .keep), (17, .keep)] (none, [.v (.c (.d (.lst true (enL enB dst0_1)))), .v (.c (.d (.sc (.int .u64 u1)))), .v (.c (.d (.sc (.bool false)))), .v (.c (.d (.sc (.bool false)))), .v (.c (.d (.lst true (enL enB d10_1)))), .v (.c (.d (.sc (.string (S s11))))), .v (.c (.ptr 0 0)), .v (.c (.d (.sc (.int .i64 i13)))), .v (.c (.d (.sc (.int .u64 16))))], [.cells (enC h0)])) = (s83_50 dst0_1 u1 d10_1 s11 i13 h0).map (sm en83_50 e83) := by
  simp -implicitDefEqProofs only [s83_50, loopF_eq, c83_51_e, c83_52_e, c83_53_r, (show opsOf c83_53 = _ :: _ from rfl), (show c83_54 = Code.cond _ c83_55 c83_56 from rfl), setA, setB, za, zb, zc, zd, ze, zf, zg, zh, zi, zj, zk, zl, zm, zn, zo, zp, reduceCtorEq, zE, ↓reduceIte]
  refine brB (fun yc16 => ?_) (fun yc16 => ?_)
  · simp -implicitDefEqProofs only [c83_55_e, c83_57_e, c83_58_e, c83_59_r, (show opsOf c83_59 = _ :: _ from rfl), c83_60_e, c83_61_r, (show opsOf c83_61 = _ :: _ from rfl), c83_62_e, c83_63_r, (show opsOf c83_63 = _ :: _ from rfl), Tryd.underlying9, yc16, setA, setB, za, zb, zc, zd, ze, zf, zg, zh, zi, zj, zk, zl, zm, zn, zo, zp, reduceCtorEq, zE, ↓reduceIte]
    refine brP (fun yc17 => ?_) (fun yc17 => ?_)
    · simp -implicitDefEqProofs only [Tryd.underlying113, sz5, yc16, yc17, setA, setB, za, zb, zc, zd, ze, zf, zg, zh, zi, zj, zk, zl, zm, zn, zo, zp, reduceCtorEq, zE, ↓reduceIte]
      refine brP (fun yc18 => ?_) (fun yc18 => ?_)
      · have yd19 : (w64 (i13 - 1)).toNat < 65 := by omega
        simp -implicitDefEqProofs only [sz5, enC_length, enC_wr, yc16, yc17, yc18, yd19, setA, setB, za, zb, zc, zd, ze, zf, zg, zh, zi, zj, zk, zl, zm, zn, zo, zp, reduceCtorEq, zE, ↓reduceIte]
        refine brP (fun yc20 => ?_) (fun yc20 => ?_)
        · simp -implicitDefEqProofs only [c83_64_r, (show opsOf c83_64 = _ :: _ from rfl), yc16, yc17, yc18, yd19, yc20, setA, setB, za, zb, zc, zd, ze, zf, zg, zh, zi, zj, zk, zl, zm, zn, zo, zp, reduceCtorEq, zE, ↓reduceIte]
          all_goals rfl
        · rw [if_neg yc20]; rfl
      · rw [if_neg yc18]; rfl
    · rw [if_neg yc17]; rfl
  · simp -implicitDefEqProofs only [c83_56_e, K83_50, yc16, setA, setB, za, zb, zc, zd, ze, zf, zg, zh, zi, zj, zk, zl, zm, zn, zo, zp, reduceCtorEq, zE, ↓reduceIte]
    exact mi (j83_65_t dst0_1 u1 d10_1 s11 i13 h0 _ (by rfl) (by rfl) (by rfl) (by rfl) (by rfl) (by rfl) (by rfl) (by rfl))
def l83_50 (dst0_1 : List UInt8) (u1 : Int) (d10_1 : List UInt8) (s11 : Bs) (i13 : Int) (h0 : List UInt8) : Option R83 := iter (fun x : (List UInt8 × Int × List UInt8 × Bs × Int × List UInt8) => s83_50 x.1 x.2.1 x.2.2.1 x.2.2.2.1 x.2.2.2.2.1 x.2.2.2.2.2) (dst0_1, u1, d10_1, s11, i13, h0)
theorem l83_50_t (dst0_1 : List UInt8) (u1 : Int) (d10_1 : List UInt8) (s11 : Bs) (i13 : Int) (h0 : List UInt8) : bodyD (E0 mm) [.tmp 10, .tmp 11] 0 false (seqD (E0 mm) 83 0 (callW (E0 mm)) itW c83_68 (seqD (E0 mm) 83 0 (callW (E0 mm)) itW c83_65 (blockD 2 (itW (loopF (E0 mm) 83 0 (callW (E0 mm)) itW c83_51 [(0, .keep), (1, .keep), (3, .keep), (4, .keep), (10, .keep), (11, .keep), (12, .keep), (13, .keep), (17, .keep)]) (none, [.v (.c (.d (.lst true (enL enB dst0_1)))), .v (.c (.d (.sc (.int .u64 u1)))), .v (.c (.d (.sc (.bool false)))), .v (.c (.d (.sc (.bool false)))), .v (.c (.d (.lst true (enL enB d10_1)))), .v (.c (.d (.sc (.string (S s11))))), .v (.c (.ptr 0 0)), .v (.c (.d (.sc (.int .i64 i13)))), .v (.c (.d (.sc (.int .u64 16))))], [.cells (enC h0)]))))) = (l83_50 dst0_1 u1 d10_1 s11 i13 h0).map e83 :=
  it_sim (K := (K83_50 (mm := mm))) rfl (enc := en83_50) (fun x => s83_50_t x.1 x.2.1 x.2.2.1 x.2.2.2.1 x.2.2.2.2.1 x.2.2.2.2.2) (dst0_1, u1, d10_1, s11, i13, h0)
def m83 (u : Int) : Option R83 :=
  (m92).bind fun yr2 =>
    if yr2 = true then
      l83_30 ([] : List UInt8) u ([] : List UInt8) ([] : Bs) (65 : Int) (zB 65)
    else
      l83_50 ([] : List UInt8) u ([] : List UInt8) ([] : Bs) (65 : Int) (zB 65)
theorem f83_t (u : Int) :
    callW (E0 mm) 83 [.c (.d (.lst true [])), .c (.d (.sc (.int .u64 u))), .c (.d (.sc (.int .i64 16))), .c (.d (.sc (.bool false))), .c (.d (.sc (.bool false)))] [] = (m83 u).map e83 := by
  rw [callW_run (body := c83_0) (res := [.tmp 10, .tmp 11]) Tryd.func83 rfl rfl (by kernel_rfl)]
  simp -implicitDefEqProofs only [m83, slots5, c83_0_e, c83_1_r, (show opsOf c83_1 = _ :: _ from rfl), c83_2_e, c83_3_e, c83_4_r, (show opsOf c83_4 = _ :: _ from rfl), (show c83_5 = Code.cond _ c83_6 c83_7 from rfl), c83_7_e, c83_8_e, c83_9_r, (show opsOf c83_9 = _ :: _ from rfl), ao7, zy113, c83_10_e, c83_11_r, (show opsOf c83_11 = _ :: _ from rfl), c83_12_e, c83_13_e, c83_14_r, (show opsOf c83_14 = _ :: _ from rfl), (show c83_15 = Code.cond _ c83_16 c83_17 from rfl), c83_17_e, c83_18_e, c83_19_e, c83_20_r, (show opsOf c83_20 = _ :: _ from rfl), ent92, prm92, f92_t, setA, setB, za, zb, zc, zd, ze, zf, zg, zh, zi, zj, zk, zl, zm, zn, zo, zp, reduceCtorEq, zE, ↓reduceIte]
  refine brM (fun yc1 => ?_) (fun yr2 yc1 => ?_)
  · rw [yc1]; rfl
  · simp -implicitDefEqProofs only [e92, (show c83_21 = Code.cond _ c83_22 c83_46 from rfl), yc1, setA, setB, za, zb, zc, zd, ze, zf, zg, zh, zi, zj, zk, zl, zm, zn, zo, zp, reduceCtorEq, zE, ↓reduceIte]
    refine brB (fun yc3 => ?_) (fun yc3 => ?_)
    · simp -implicitDefEqProofs only [c83_22_e, c83_23_r, (show opsOf c83_23 = _ :: _ from rfl), Tryd.underlying3, Tryd.underlying61, ent93, prm93, f93_t, c83_24_e, c83_25_r, (show opsOf c83_25 = _ :: _ from rfl), Tryd.underlying43, c83_26_e, c83_27_r, (show opsOf c83_27 = _ :: _ from rfl), c83_28_e, c83_29_e, c83_30_l, yc1, yc3, setA, setB, za, zb, zc, zd, ze, zf, zg, zh, zi, zj, zk, zl, zm, zn, zo, zp, reduceCtorEq, zE, ↓reduceIte]
      exact l83_30_t ([] : List UInt8) u ([] : List UInt8) ([] : Bs) (65 : Int) (zB 65)
    · simp -implicitDefEqProofs only [c83_46_e, c83_47_r, (show opsOf c83_47 = _ :: _ from rfl), Tryd.underlying3, Tryd.underlying43, c83_48_e, c83_49_e, c83_50_l, yc1, yc3, setA, setB, za, zb, zc, zd, ze, zf, zg, zh, zi, zj, zk, zl, zm, zn, zo, zp, reduceCtorEq, zE, ↓reduceIte]
      exact l83_50_t ([] : List UInt8) u ([] : List UInt8) ([] : Bs) (65 : Int) (zB 65)
noncomputable def c70_0 : Code := bodyOf Tryd.f70
def c70_1 := cA c70_0
def c70_2 := cB c70_0
def c70_3 := cA c70_2
def c70_4 := cA c70_3
def c70_5 := cB c70_3
def c70_6 := cA c70_5
def c70_23 := cB c70_5
def c70_24 := cB c70_2
def c70_25 := cA c70_24
def c70_26 := cB c70_24
def c70_27 := cA c70_26
def c70_28 := cB c70_26
theorem c70_0_e : c70_0 = .seq c70_1 c70_2 := rfl
theorem c70_1_r : RG (E0 mm) 70 c70_1 := rgN rfl
theorem c70_2_e : c70_2 = .seq c70_3 c70_24 := rfl
theorem c70_3_e : c70_3 = .seq c70_4 c70_5 := rfl
theorem c70_4_r : RG (E0 mm) 70 c70_4 := rgN rfl
theorem c70_23_e : c70_23 = .skip := rfl
theorem c70_24_e : c70_24 = .seq c70_25 c70_26 := rfl
theorem c70_25_r : RG (E0 mm) 70 c70_25 := rgN rfl
theorem c70_26_e : c70_26 = .seq c70_27 c70_28 := rfl
theorem c70_27_r : RG (E0 mm) 70 c70_27 := rgN rfl
theorem c70_28_e : c70_28 = .ret := rfl
abbrev R70 := (Bs)
def e70 : R70 → AV × Heap := fun x => (.v (.c (.d (.sc (.string (S x))))), [])
def m70 (i : Int) : Option R70 :=
  (m83 i).bind fun yr2 =>
    some yr2.2.2
theorem f70_t (i : Int) :
    callW (E0 mm) 70 [.c (.d (.sc (.int .u64 i))), .c (.d (.sc (.int .i64 16)))] [] = (m70 i).map e70 := by
  rw [callW_run (body := c70_0) (res := [.tmp 4]) Tryd.func70 rfl rfl (by kernel_rfl)]
  simp -implicitDefEqProofs only [m70, slots2, c70_0_e, c70_1_r, (show opsOf c70_1 = _ :: _ from rfl), c70_2_e, c70_3_e, c70_4_r, (show opsOf c70_4 = _ :: _ from rfl), (show c70_5 = Code.cond _ c70_6 c70_23 from rfl), c70_23_e, c70_24_e, c70_25_r, (show opsOf c70_25 = _ :: _ from rfl), ent83, prm83, f83_t, setA, setB, za, zb, zc, zd, ze, zf, zg, zh, zi, zj, zk, zl, zm, zn, zo, zp, reduceCtorEq, zE, ↓reduceIte]
  refine brM (fun yc1 => ?_) (fun yr2 yc1 => ?_)
  · rw [yc1]; rfl
  · simp -implicitDefEqProofs only [e83, c70_26_e, c70_27_r, (show opsOf c70_27 = _ :: _ from rfl), c70_28_e, yc1, setA, setB, za, zb, zc, zd, ze, zf, zg, zh, zi, zj, zk, zl, zm, zn, zo, zp, reduceCtorEq, zE, ↓reduceIte]
    all_goals rfl
noncomputable def c56_0 : Code := bodyOf Tryd.f56
def c56_1 := cA c56_0
def c56_2 := cB c56_0
def c56_3 := cA c56_2
def c56_4 := cB c56_2
theorem c56_0_e : c56_0 = .seq c56_1 c56_2 := rfl
theorem c56_1_r : RG (E0 mm) 56 c56_1 := rgN rfl
theorem c56_2_e : c56_2 = .seq c56_3 c56_4 := rfl
theorem c56_3_r : RG (E0 mm) 56 c56_3 := rgN rfl
theorem c56_4_e : c56_4 = .ret := rfl
abbrev R56 := (Bs)
def e56 : R56 → AV × Heap := fun x => (.v (.c (.d (.sc (.string (S x))))), [])
def m56 (i : Int) : Option R56 :=
  (m70 i).bind fun yr2 =>
    some yr2
theorem f56_t (i : Int) :
    callW (E0 mm) 56 [.c (.d (.sc (.int .u64 i))), .c (.d (.sc (.int .i64 16)))] [] = (m56 i).map e56 := by
  rw [callW_run (body := c56_0) (res := [.tmp 4]) Tryd.func56 rfl rfl (by kernel_rfl)]
  simp -implicitDefEqProofs only [m56, slots2, c56_0_e, c56_1_r, (show opsOf c56_1 = _ :: _ from rfl), c56_2_e, c56_3_r, (show opsOf c56_3 = _ :: _ from rfl), ent70, prm70, f70_t, setA, setB, za, zb, zc, zd, ze, zf, zg, zh, zi, zj, zk, zl, zm, zn, zo, zp, reduceCtorEq, zE, ↓reduceIte]
  refine brM (fun yc1 => ?_) (fun yr2 yc1 => ?_)
  · rw [yc1]; rfl
  · simp -implicitDefEqProofs only [e70, c56_4_e, yc1, setA, setB, za, zb, zc, zd, ze, zf, zg, zh, zi, zj, zk, zl, zm, zn, zo, zp, reduceCtorEq, zE, ↓reduceIte]
    all_goals rfl
noncomputable def c42_0 : Code := bodyOf Tryd.f42
def c42_1 := cA c42_0
def c42_2 := cB c42_0
def c42_3 := cA c42_2
def c42_4 := cA c42_3
def c42_5 := cB c42_3
def c42_6 := cA c42_5
def c42_7 := cA c42_6
def c42_8 := cB c42_6
def c42_9 := cB c42_5
def c42_10 := cB c42_2
def c42_11 := cA c42_10
def c42_12 := cB c42_10
theorem c42_0_e : c42_0 = .seq c42_1 c42_2 := rfl
theorem c42_1_r : RG (E0 mm) 42 c42_1 := rgN rfl
theorem c42_2_e : c42_2 = .seq c42_3 c42_10 := rfl
theorem c42_3_e : c42_3 = .seq c42_4 c42_5 := rfl
theorem c42_4_r : RG (E0 mm) 42 c42_4 := rgN rfl
theorem c42_6_e : c42_6 = .seq c42_7 c42_8 := rfl
theorem c42_7_r : RG (E0 mm) 42 c42_7 := rgN rfl
theorem c42_8_e : c42_8 = .ret := rfl
theorem c42_9_e : c42_9 = .skip := rfl
theorem c42_10_e : c42_10 = .seq c42_11 c42_12 := rfl
theorem c42_11_r : RG (E0 mm) 42 c42_11 := rgN rfl
theorem c42_12_e : c42_12 = .ret := rfl
abbrev R42 := (Bs × Int)
def e42 : R42 → AV × Heap := fun x => (.tup [.c (.d (.sc (.string (S x.1)))), .c (.d (.sc (.int .i64 x.2)))], [])
def m42 (n : Int) : Option R42 :=
  if (decide (9007199254740991 < n)) = true then
    some (([] : Bs), (1 : Int))
  else
    (m56 n).bind fun yr3 =>
      some (yr3, (0 : Int))
theorem f42_t (n : Int) :
    callW (E0 mm) 42 [.c (.d (.sc (.int .u64 n))), .c (.d (.sc (.int .i64 16)))] [] = (m42 n).map e42 := by
  rw [callW_run (body := c42_0) (res := [.tmp 4, .tmp 5]) Tryd.func42 rfl rfl (by kernel_rfl)]
  simp -implicitDefEqProofs only [m42, slots2, c42_0_e, c42_1_r, (show opsOf c42_1 = _ :: _ from rfl), c42_2_e, c42_3_e, c42_4_r, (show opsOf c42_4 = _ :: _ from rfl), (show c42_5 = Code.cond _ c42_6 c42_9 from rfl), setA, setB, za, zb, zc, zd, ze, zf, zg, zh, zi, zj, zk, zl, zm, zn, zo, zp, reduceCtorEq, zE, ↓reduceIte]
  refine brB (fun yc1 => ?_) (fun yc1 => ?_)
  · simp -implicitDefEqProofs only [c42_6_e, c42_7_r, (show opsOf c42_7 = _ :: _ from rfl), c42_8_e, yc1, setA, setB, za, zb, zc, zd, ze, zf, zg, zh, zi, zj, zk, zl, zm, zn, zo, zp, reduceCtorEq, zE, ↓reduceIte]
    all_goals rfl
  · simp -implicitDefEqProofs only [c42_9_e, c42_10_e, c42_11_r, (show opsOf c42_11 = _ :: _ from rfl), ent56, prm56, f56_t, yc1, setA, setB, za, zb, zc, zd, ze, zf, zg, zh, zi, zj, zk, zl, zm, zn, zo, zp, reduceCtorEq, zE, ↓reduceIte]
    refine brM (fun yc2 => ?_) (fun yr3 yc2 => ?_)
    · rw [yc2]; rfl
    · simp -implicitDefEqProofs only [e56, c42_12_e, yc1, yc2, setA, setB, za, zb, zc, zd, ze, zf, zg, zh, zi, zj, zk, zl, zm, zn, zo, zp, reduceCtorEq, zE, ↓reduceIte]
      all_goals rfl
noncomputable def c23_0 : Code := bodyOf Tryd.f23
def c23_1 := cA c23_0
def c23_2 := cB c23_0
def c23_3 := cA c23_2
def c23_4 := cB c23_2
theorem c23_0_e : c23_0 = .seq c23_1 c23_2 := rfl
theorem c23_1_r : RG (E0 mm) 23 c23_1 := rgN rfl
theorem c23_2_e : c23_2 = .seq c23_3 c23_4 := rfl
theorem c23_3_r : RG (E0 mm) 23 c23_3 := rgN rfl
theorem c23_4_e : c23_4 = .ret := rfl
abbrev R23 := (Bs × Int)
def e23 : R23 → AV × Heap := fun x => (.tup [.c (.d (.sc (.string (S x.1)))), .c (.d (.sc (.int .i64 x.2)))], [])
def m23 (n : Int) : Option R23 :=
  (m42 n).bind fun yr2 =>
    some (yr2.1, yr2.2)
theorem f23_t (n : Int) :
    callW (E0 mm) 23 [.c (.d (.sc (.int .u64 n)))] [] = (m23 n).map e23 := by
  rw [callW_run (body := c23_0) (res := [.tmp 2, .tmp 3]) Tryd.func23 rfl rfl (by kernel_rfl)]
  simp -implicitDefEqProofs only [m23, slots1, c23_0_e, c23_1_r, (show opsOf c23_1 = _ :: _ from rfl), c23_2_e, c23_3_r, (show opsOf c23_3 = _ :: _ from rfl), ent42, prm42, f42_t, setA, setB, za, zb, zc, zd, ze, zf, zg, zh, zi, zj, zk, zl, zm, zn, zo, zp, reduceCtorEq, zE, ↓reduceIte]
  refine brM (fun yc1 => ?_) (fun yr2 yc1 => ?_)
  · rw [yc1]; rfl
  · simp -implicitDefEqProofs only [e42, c23_4_e, yc1, setA, setB, za, zb, zc, zd, ze, zf, zg, zh, zi, zj, zk, zl, zm, zn, zo, zp, reduceCtorEq, zE, ↓reduceIte]
    all_goals rfl
noncomputable def c12_0 : Code := bodyOf Tryd.f12
def c12_1 := cA c12_0
def c12_2 := cB c12_0
def c12_3 := cA c12_2
def c12_4 := cB c12_2
def c12_5 := cA c12_4
def c12_6 := cA c12_5
def c12_7 := cB c12_5
def c12_8 := cA c12_7
def c12_9 := cA c12_8
def c12_10 := cA c12_9
def c12_11 := cB c12_9
def c12_12 := cA c12_11
def c12_13 := cA c12_12
def c12_14 := cB c12_12
def c12_15 := cB c12_11
def c12_16 := cA c12_15
def c12_17 := cA c12_16
def c12_18 := cA c12_17
def c12_19 := cB c12_17
def c12_20 := cA c12_19
def c12_21 := cA c12_20
def c12_22 := cB c12_20
def c12_23 := cA c12_22
def c12_24 := cA c12_23
def c12_25 := cB c12_23
def c12_26 := cB c12_22
def c12_27 := cB c12_19
def c12_28 := cB c12_15
def c12_29 := cB c12_4
def c12_30 := cA c12_29
def c12_31 := cB c12_29
def c12_32 := cA c12_31
def c12_33 := cA c12_32
def c12_34 := cB c12_32
def c12_35 := cA c12_34
def c12_36 := cA c12_35
def c12_37 := cA c12_36
def c12_38 := cB c12_36
def c12_39 := cA c12_38
def c12_40 := cA c12_39
def c12_41 := cB c12_39
def c12_42 := cB c12_38
def c12_43 := cA c12_42
def c12_44 := cA c12_43
def c12_45 := cA c12_44
def c12_46 := cB c12_44
def c12_47 := cA c12_46
def c12_48 := cA c12_47
def c12_49 := cB c12_47
def c12_50 := cA c12_49
def c12_51 := cB c12_49
def c12_52 := cB c12_46
def c12_53 := cA c12_52
def c12_54 := cB c12_52
def c12_55 := cA c12_54
def c12_56 := cB c12_54
def c12_57 := cA c12_56
def c12_58 := cB c12_56
def c12_59 := cA c12_58
def c12_60 := cB c12_58
def c12_61 := cB c12_42
def c12_62 := cB c12_31
def c12_63 := cA c12_62
def c12_64 := cB c12_62
theorem c12_0_e : c12_0 = .seq c12_1 c12_2 := rfl
theorem c12_1_r : RG (E0 mm) 12 c12_1 := rgN rfl
theorem c12_2_e : c12_2 = .seq c12_3 c12_4 := rfl
theorem c12_3_r : RG (E0 mm) 12 c12_3 := rgN rfl
theorem c12_4_e : c12_4 = .seq c12_5 c12_29 := rfl
theorem c12_5_e : c12_5 = .seq c12_6 c12_7 := rfl
theorem c12_6_r : RG (E0 mm) 12 c12_6 := rgN rfl
theorem c12_7_e : c12_7 = .block 0 c12_8 := rfl
theorem c12_8_l (m : Nat) (st : St) : den (E0 mm) 12 m (callW (E0 mm)) itW c12_8 none st = loopD itW (loopF (E0 mm) 12 m (callW (E0 mm)) itW c12_9 [(0, .keep), (4, .keep), (12, .keep), (13, .keep), (14, .keep)]) (canon m [(0, .keep), (4, .keep), (12, .keep), (13, .keep), (14, .keep)] st) := rfl
theorem c12_9_e : c12_9 = .seq c12_10 c12_11 := rfl
theorem c12_10_r : RG (E0 mm) 12 c12_10 := rgN rfl
theorem c12_11_e : c12_11 = .seq c12_12 c12_15 := rfl
theorem c12_13_e : c12_13 = .skip := rfl
theorem c12_14_e : c12_14 = .exit 0 := rfl
theorem c12_15_e : c12_15 = .seq c12_16 c12_28 := rfl
theorem c12_16_e : c12_16 = .block 1 c12_17 := rfl
theorem c12_17_e : c12_17 = .seq c12_18 c12_19 := rfl
theorem c12_18_r : RG (E0 mm) 12 c12_18 := rgN rfl
theorem c12_19_e : c12_19 = .seq c12_20 c12_27 := rfl
theorem c12_20_e : c12_20 = .seq c12_21 c12_22 := rfl
theorem c12_21_r : RG (E0 mm) 12 c12_21 := rgN rfl
theorem c12_23_e : c12_23 = .seq c12_24 c12_25 := rfl
theorem c12_24_r : RG (E0 mm) 12 c12_24 := rgN rfl
theorem c12_25_e : c12_25 = .ret := rfl
theorem c12_26_e : c12_26 = .skip := rfl
theorem c12_27_r : RG (E0 mm) 12 c12_27 := rgN rfl
theorem c12_28_r : RG (E0 mm) 12 c12_28 := rgN rfl
theorem c12_29_e : c12_29 = .seq c12_30 c12_31 := rfl
theorem c12_30_r : RG (E0 mm) 12 c12_30 := rgN rfl
theorem c12_31_e : c12_31 = .seq c12_32 c12_62 := rfl
theorem c12_32_e : c12_32 = .seq c12_33 c12_34 := rfl
theorem c12_33_r : RG (E0 mm) 12 c12_33 := rgN rfl
theorem c12_34_e : c12_34 = .block 2 c12_35 := rfl
theorem c12_35_l (m : Nat) (st : St) : den (E0 mm) 12 m (callW (E0 mm)) itW c12_35 none st = loopD itW (loopF (E0 mm) 12 m (callW (E0 mm)) itW c12_36 [(7, .keep), (28, .keep), (29, .keep), (30, .keep)]) (canon m [(7, .keep), (28, .keep), (29, .keep), (30, .keep)] st) := rfl
theorem c12_36_e : c12_36 = .seq c12_37 c12_38 := rfl
theorem c12_37_r : RG (E0 mm) 12 c12_37 := rgN rfl
theorem c12_38_e : c12_38 = .seq c12_39 c12_42 := rfl
theorem c12_40_e : c12_40 = .skip := rfl
theorem c12_41_e : c12_41 = .exit 2 := rfl
theorem c12_42_e : c12_42 = .seq c12_43 c12_61 := rfl
theorem c12_43_e : c12_43 = .block 3 c12_44 := rfl
theorem c12_44_e : c12_44 = .seq c12_45 c12_46 := rfl
theorem c12_45_r : RG (E0 mm) 12 c12_45 := rgN rfl
theorem c12_46_e : c12_46 = .seq c12_47 c12_52 := rfl
theorem c12_47_e : c12_47 = .seq c12_48 c12_49 := rfl
theorem c12_48_r : RG (E0 mm) 12 c12_48 := rgN rfl
theorem c12_50_e : c12_50 = .exit 3 := rfl
theorem c12_51_e : c12_51 = .skip := rfl
theorem c12_52_e : c12_52 = .seq c12_53 c12_54 := rfl
theorem c12_53_r : RG (E0 mm) 12 c12_53 := rgN rfl
theorem c12_54_e : c12_54 = .seq c12_55 c12_56 := rfl
theorem c12_55_r : RG (E0 mm) 12 c12_55 := rgN rfl
theorem c12_56_e : c12_56 = .seq c12_57 c12_58 := rfl
theorem c12_57_r : RG (E0 mm) 12 c12_57 := rgN rfl
theorem c12_58_e : c12_58 = .seq c12_59 c12_60 := rfl
theorem c12_59_r : RG (E0 mm) 12 c12_59 := rgN rfl
theorem c12_60_r : RG (E0 mm) 12 c12_60 := rgN rfl
theorem c12_61_r : RG (E0 mm) 12 c12_61 := rgN rfl
theorem c12_62_e : c12_62 = .seq c12_63 c12_64 := rfl
theorem c12_63_r : RG (E0 mm) 12 c12_63 := rgN rfl
theorem c12_64_e : c12_64 = .ret := rfl
abbrev R12 := (Int) ⊕ (Int × List UInt8)
def e12 : R12 → AV × Heap := fun x => match x with
  | .inl x => (.tup [.c (.d (.lst true [])), .c (.d (.sc (.int .i64 x)))], [])
  | .inr x => (.tup [.c (.slc 0 0 1 x.2.length none), .c (.d (.sc (.int .i64 x.1)))], [.cells (enC x.2)])
def K12_8 : Option (Ex × St) → Option (AV × Heap) := fun r => bodyD (E0 mm) [.tmp 2, .tmp 3] 0 true (seqD (E0 mm) 12 0 (callW (E0 mm)) itW c12_29 (blockD 0 (r)))
def en12_8 : (Bool × List (Bool × List UInt8) × Int × Bool × List (Bool × List UInt8) × Int × Int) → X := fun x => (none, [.v (.c (.d (.lst x.1 (enL en0 x.2.1)))), .v (.c (.d (.sc (.int .i64 x.2.2.1)))), .v (.c (.d (.lst x.2.2.2.1 (enL en0 x.2.2.2.2.1)))), .v (.c (.d (.sc (.int .i64 x.2.2.2.2.2.1)))), .v (.c (.d (.sc (.int .i64 x.2.2.2.2.2.2))))], [])
def K12_35 : Option (Ex × St) → Option (AV × Heap) := fun r => bodyD (E0 mm) [.tmp 2, .tmp 3] 0 true (seqD (E0 mm) 12 0 (callW (E0 mm)) itW c12_62 (blockD 2 (r)))
def en12_35 : ((Bool × List (Bool × List UInt8) × Int × Int) ⊕ (Bool × List (Bool × List UInt8) × Int × Int × List UInt8)) → X := fun x => match x with
  | (.inl x) => (none, [.v (.c (.d (.lst true []))), .v (.c (.d (.lst x.1 (enL en0 x.2.1)))), .v (.c (.d (.sc (.int .i64 x.2.2.1)))), .v (.c (.d (.sc (.int .i64 x.2.2.2))))], [])
  | (.inr x) => (none, [.v (.c (.slc 0 0 1 x.2.2.2.2.length none)), .v (.c (.d (.lst x.1 (enL en0 x.2.1)))), .v (.c (.d (.sc (.int .i64 x.2.2.1)))), .v (.c (.d (.sc (.int .i64 x.2.2.2.1))))], [.cells (enC x.2.2.2.2)])
def j12_61 (t28_0 : Bool) (t28_1 : List (Bool × List UInt8)) (t29 t30 : Int) : Option (((Bool × List (Bool × List UInt8) × Int × Int) ⊕ (Bool × List (Bool × List UInt8) × Int × Int × List UInt8)) ⊕ R12) :=
  some (.inl (.inl (t28_0, t28_1, t29, (w64 (t30 + 1)))))
theorem j12_61_t (t28_0 : Bool) (t28_1 : List (Bool × List UInt8)) (t29 t30 : Int)  (sl : Nat → AV) (zq7 : sl 7 = .v (.c (.d (.lst true [])))) (zq28 : sl 28 = .v (.c (.d (.lst t28_0 (enL en0 t28_1))))) (zq29 : sl 29 = .v (.c (.d (.sc (.int .i64 t29))))) (zq30 : sl 30 = .v (.c (.d (.sc (.int .i64 t30))))) :
    stepE (K12_35 (mm := mm)) (loopK 0 [(7, .keep), (28, .keep), (29, .keep), (30, .keep)] (den (E0 mm) 12 0 (callW (E0 mm)) itW c12_61 none ⟨sl, []⟩)) = (j12_61 t28_0 t28_1 t29 t30).map (sm en12_35 e12) := by
  simp -implicitDefEqProofs only [j12_61, c12_61_r, (show opsOf c12_61 = _ :: _ from rfl), zq7, zq28, zq29, zq30, setA, setB, za, zb, zc, zd, ze, zf, zg, zh, zi, zj, zk, zl, zm, zn, zo, zp, reduceCtorEq, zE, ↓reduceIte]
  all_goals rfl
def j12_61v1 (t28_0 : Bool) (t28_1 : List (Bool × List UInt8)) (t29 t30 : Int) (h1 : List UInt8) : Option (((Bool × List (Bool × List UInt8) × Int × Int) ⊕ (Bool × List (Bool × List UInt8) × Int × Int × List UInt8)) ⊕ R12) :=
  some (.inl (.inr (t28_0, t28_1, t29, (w64 (t30 + 1)), h1)))
theorem j12_61v1_t (t28_0 : Bool) (t28_1 : List (Bool × List UInt8)) (t29 t30 : Int) (h1 : List UInt8) (g0 : Ob) (sl : Nat → AV) (zq7 : sl 7 = .v (.c (.slc 1 0 1 h1.length none))) (zq28 : sl 28 = .v (.c (.d (.lst t28_0 (enL en0 t28_1))))) (zq29 : sl 29 = .v (.c (.d (.sc (.int .i64 t29))))) (zq30 : sl 30 = .v (.c (.d (.sc (.int .i64 t30))))) :
    stepE (K12_35 (mm := mm)) (loopK 0 [(7, .keep), (28, .keep), (29, .keep), (30, .keep)] (den (E0 mm) 12 0 (callW (E0 mm)) itW c12_61 none ⟨sl, [g0, .cells (enC h1)]⟩)) = (j12_61v1 t28_0 t28_1 t29 t30 h1).map (sm en12_35 e12) := by
  simp -implicitDefEqProofs only [j12_61v1, c12_61_r, (show opsOf c12_61 = _ :: _ from rfl), zq7, zq28, zq29, zq30, setA, setB, za, zb, zc, zd, ze, zf, zg, zh, zi, zj, zk, zl, zm, zn, zo, zp, reduceCtorEq, zE, ↓reduceIte]
  all_goals rfl
def j12_61v2 (t28_0 : Bool) (t28_1 : List (Bool × List UInt8)) (t29 t30 : Int) (h2 : List UInt8) : Option (((Bool × List (Bool × List UInt8) × Int × Int) ⊕ (Bool × List (Bool × List UInt8) × Int × Int × List UInt8)) ⊕ R12) :=
  some (.inl (.inr (t28_0, t28_1, t29, (w64 (t30 + 1)), h2)))
theorem j12_61v2_t (t28_0 : Bool) (t28_1 : List (Bool × List UInt8)) (t29 t30 : Int) (h2 : List UInt8) (g0 g1 : Ob) (sl : Nat → AV) (zq7 : sl 7 = .v (.c (.slc 2 0 1 h2.length none))) (zq28 : sl 28 = .v (.c (.d (.lst t28_0 (enL en0 t28_1))))) (zq29 : sl 29 = .v (.c (.d (.sc (.int .i64 t29))))) (zq30 : sl 30 = .v (.c (.d (.sc (.int .i64 t30))))) :
    stepE (K12_35 (mm := mm)) (loopK 0 [(7, .keep), (28, .keep), (29, .keep), (30, .keep)] (den (E0 mm) 12 0 (callW (E0 mm)) itW c12_61 none ⟨sl, [g0, g1, .cells (enC h2)]⟩)) = (j12_61v2 t28_0 t28_1 t29 t30 h2).map (sm en12_35 e12) := by
  simp -implicitDefEqProofs only [j12_61v2, c12_61_r, (show opsOf c12_61 = _ :: _ from rfl), zq7, zq28, zq29, zq30, setA, setB, za, zb, zc, zd, ze, zf, zg, zh, zi, zj, zk, zl, zm, zn, zo, zp, reduceCtorEq, zE, ↓reduceIte]
  all_goals rfl
def j12_61v3 (t28_0 : Bool) (t28_1 : List (Bool × List UInt8)) (t29 t30 : Int) (h3 : List UInt8) : Option (((Bool × List (Bool × List UInt8) × Int × Int) ⊕ (Bool × List (Bool × List UInt8) × Int × Int × List UInt8)) ⊕ R12) :=
  some (.inl (.inr (t28_0, t28_1, t29, (w64 (t30 + 1)), h3)))
theorem j12_61v3_t (t28_0 : Bool) (t28_1 : List (Bool × List UInt8)) (t29 t30 : Int) (h3 : List UInt8) (g0 g1 g2 : Ob) (sl : Nat → AV) (zq7 : sl 7 = .v (.c (.slc 3 0 1 h3.length none))) (zq28 : sl 28 = .v (.c (.d (.lst t28_0 (enL en0 t28_1))))) (zq29 : sl 29 = .v (.c (.d (.sc (.int .i64 t29))))) (zq30 : sl 30 = .v (.c (.d (.sc (.int .i64 t30))))) :
    stepE (K12_35 (mm := mm)) (loopK 0 [(7, .keep), (28, .keep), (29, .keep), (30, .keep)] (den (E0 mm) 12 0 (callW (E0 mm)) itW c12_61 none ⟨sl, [g0, g1, g2, .cells (enC h3)]⟩)) = (j12_61v3 t28_0 t28_1 t29 t30 h3).map (sm en12_35 e12) := by
  simp -implicitDefEqProofs only [j12_61v3, c12_61_r, (show opsOf c12_61 = _ :: _ from rfl), zq7, zq28, zq29, zq30, setA, setB, za, zb, zc, zd, ze, zf, zg, zh, zi, zj, zk, zl, zm, zn, zo, zp, reduceCtorEq, zE, ↓reduceIte]
  all_goals rfl
def j12_52 (p9_0 : Bool) (p9_1 : List UInt8) (t28_0 : Bool) (t28_1 : List (Bool × List UInt8)) (t29 t30 : Int) : Option (((Bool × List (Bool × List UInt8) × Int × Int) ⊕ (Bool × List (Bool × List UInt8) × Int × Int × List UInt8)) ⊕ R12) :=
  (m23 (wu64 (p9_1.length : Int))).bind fun yr10 =>
    if yr10.1.isEmpty = true then
      if p9_1.isEmpty = true then
        if ((lB [13, 10]).length + 2) * 1 ≤ 140737488355328 then
          j12_61v1 t28_0 t28_1 t29 t30 ((lB [13, 10]) ++ ([13, 10] : Bs))
        else none
      else
        if ((lB [13, 10]).length + p9_1.length) * 1 ≤ 140737488355328 then
          if (((lB [13, 10]) ++ p9_1).length + 2) * 1 ≤ 140737488355328 then
            j12_61v2 t28_0 t28_1 t29 t30 (((lB [13, 10]) ++ p9_1) ++ ([13, 10] : Bs))
          else none
        else none
    else
      if yr10.1.length * 1 ≤ 140737488355328 then
        if (yr10.1.length + 2) * 1 ≤ 140737488355328 then
          if p9_1.isEmpty = true then
            if ((yr10.1 ++ ([13, 10] : Bs)).length + 2) * 1 ≤ 140737488355328 then
              j12_61v2 t28_0 t28_1 t29 t30 ((yr10.1 ++ ([13, 10] : Bs)) ++ ([13, 10] : Bs))
            else none
          else
            if ((yr10.1 ++ ([13, 10] : Bs)).length + p9_1.length) * 1 ≤ 140737488355328 then
              if (((yr10.1 ++ ([13, 10] : Bs)) ++ p9_1).length + 2) * 1 ≤ 140737488355328 then
                j12_61v3 t28_0 t28_1 t29 t30 (((yr10.1 ++ ([13, 10] : Bs)) ++ p9_1) ++ ([13, 10] : Bs))
              else none
            else none
        else none
      else none
theorem j12_52_t (p9_0 : Bool) (p9_1 : List UInt8) (t28_0 : Bool) (t28_1 : List (Bool × List UInt8)) (t29 t30 : Int)  (sl : Nat → AV) (zq7 : sl 7 = .v (.c (.d (.lst true [])))) (zq9 : sl 9 = .v (.c (.d (.lst p9_0 (enL enB p9_1))))) (zq28 : sl 28 = .v (.c (.d (.lst t28_0 (enL en0 t28_1))))) (zq29 : sl 29 = .v (.c (.d (.sc (.int .i64 t29))))) (zq30 : sl 30 = .v (.c (.d (.sc (.int .i64 t30))))) :
    stepE (K12_35 (mm := mm)) (loopK 0 [(7, .keep), (28, .keep), (29, .keep), (30, .keep)] (seqD (E0 mm) 12 0 (callW (E0 mm)) itW c12_61 (blockD 3 (den (E0 mm) 12 0 (callW (E0 mm)) itW c12_52 none ⟨sl, []⟩)))) = (j12_52 p9_0 p9_1 t28_0 t28_1 t29 t30).map (sm en12_35 e12) := by
  simp -implicitDefEqProofs only [j12_52, c12_52_e, c12_53_r, (show opsOf c12_53 = _ :: _ from rfl), Tryd.underlying22, Tryd.underlying3, Tryd.underlying43, ent23, prm23, f23_t, zq7, zq9, zq28, zq29, zq30, setA, setB, za, zb, zc, zd, ze, zf, zg, zh, zi, zj, zk, zl, zm, zn, zo, zp, reduceCtorEq, zE, ↓reduceIte]
  refine brM (fun yc9 => ?_) (fun yr10 yc9 => ?_)
  · rw [yc9]; rfl
  · simp -implicitDefEqProofs only [e23, c12_54_e, c12_55_r, (show opsOf c12_55 = _ :: _ from rfl), Tryd.underlying22, Tryd.underlying9, hd8, ah22bnil, zq7, zq9, zq28, zq29, zq30, yc9, setA, setB, za, zb, zc, zd, ze, zf, zg, zh, zi, zj, zk, zl, zm, zn, zo, zp, reduceCtorEq, zE, ↓reduceIte]
    refine brB (fun yc11 => ?_) (fun yc11 => ?_)
    · simp -implicitDefEqProofs only [c12_56_e, c12_57_r, (show opsOf c12_57 = _ :: _ from rfl), Tryd.underlying22, Tryd.underlying9, hd10, (show ∀ hp : Heap, appendA Tryd.prog true hp 22 (.d (.lst true [])) (enL enB ([13, 10] : Bs)) = some (.c (.slc hp.length 0 1 (lB [13, 10]).length none), hp ++ [.cells (enC (lB [13, 10]))]) from fun hp => ah22bnil (hp := hp) (b := (lB [13, 10]))), c12_58_e, c12_59_r, (show opsOf c12_59 = _ :: _ from rfl), hd11, ah22bslc, zq7, zq9, zq28, zq29, zq30, yc9, yc11, setA, setB, za, zb, zc, zd, ze, zf, zg, zh, zi, zj, zk, zl, zm, zn, zo, zp, reduceCtorEq, zE, ↓reduceIte]
      refine brB (fun yc12 => ?_) (fun yc12 => ?_)
      · simp -implicitDefEqProofs only [c12_60_r, (show opsOf c12_60 = _ :: _ from rfl), Tryd.underlying22, Tryd.underlying9, hd13, ah22bslc, zq7, zq9, zq28, zq29, zq30, yc9, yc11, yc12, setA, setB, za, zb, zc, zd, ze, zf, zg, zh, zi, zj, zk, zl, zm, zn, zo, zp, reduceCtorEq, zE, ↓reduceIte]
        refine brP (fun yc13 => ?_) (fun yc13 => ?_)
        · simp -implicitDefEqProofs only [zq7, zq9, zq28, zq29, zq30, yc9, yc11, yc12, yc13, setA, setB, za, zb, zc, zd, ze, zf, zg, zh, zi, zj, zk, zl, zm, zn, zo, zp, reduceCtorEq, zE, ↓reduceIte]
          exact j12_61v1_t t28_0 t28_1 t29 t30 ((lB [13, 10]) ++ ([13, 10] : Bs)) _ _ (by rfl) (by exact zq28) (by exact zq29) (by exact zq30)
        · rw [if_neg yc13]; rfl
      · simp -implicitDefEqProofs only [zq7, zq9, zq28, zq29, zq30, yc9, yc11, yc12, setA, setB, za, zb, zc, zd, ze, zf, zg, zh, zi, zj, zk, zl, zm, zn, zo, zp, reduceCtorEq, zE, ↓reduceIte]
        refine brP (fun yc14 => ?_) (fun yc14 => ?_)
        · simp -implicitDefEqProofs only [c12_60_r, (show opsOf c12_60 = _ :: _ from rfl), Tryd.underlying22, Tryd.underlying9, hd13, ah22bslc, zq7, zq9, zq28, zq29, zq30, yc9, yc11, yc12, yc14, setA, setB, za, zb, zc, zd, ze, zf, zg, zh, zi, zj, zk, zl, zm, zn, zo, zp, reduceCtorEq, zE, ↓reduceIte]
          refine brP (fun yc15 => ?_) (fun yc15 => ?_)
          · simp -implicitDefEqProofs only [zq7, zq9, zq28, zq29, zq30, yc9, yc11, yc12, yc14, yc15, setA, setB, za, zb, zc, zd, ze, zf, zg, zh, zi, zj, zk, zl, zm, zn, zo, zp, reduceCtorEq, zE, ↓reduceIte]
            exact j12_61v2_t t28_0 t28_1 t29 t30 (((lB [13, 10]) ++ p9_1) ++ ([13, 10] : Bs)) _ _ _ (by rfl) (by exact zq28) (by exact zq29) (by exact zq30)
          · rw [if_neg yc15]; rfl
        · rw [if_neg yc14]; rfl
    · simp -implicitDefEqProofs only [zq7, zq9, zq28, zq29, zq30, yc9, yc11, setA, setB, za, zb, zc, zd, ze, zf, zg, zh, zi, zj, zk, zl, zm, zn, zo, zp, reduceCtorEq, zE, ↓reduceIte]
      refine brP (fun yc16 => ?_) (fun yc16 => ?_)
      · simp -implicitDefEqProofs only [c12_56_e, c12_57_r, (show opsOf c12_57 = _ :: _ from rfl), Tryd.underlying22, Tryd.underlying9, hd10, ah22bslc, zq7, zq9, zq28, zq29, zq30, yc9, yc11, yc16, setA, setB, za, zb, zc, zd, ze, zf, zg, zh, zi, zj, zk, zl, zm, zn, zo, zp, reduceCtorEq, zE, ↓reduceIte]
        refine brP (fun yc17 => ?_) (fun yc17 => ?_)
        · simp -implicitDefEqProofs only [c12_58_e, c12_59_r, (show opsOf c12_59 = _ :: _ from rfl), Tryd.underlying22, hd11, ah22bslc, zq7, zq9, zq28, zq29, zq30, yc9, yc11, yc16, yc17, setA, setB, za, zb, zc, zd, ze, zf, zg, zh, zi, zj, zk, zl, zm, zn, zo, zp, reduceCtorEq, zE, ↓reduceIte]
          refine brB (fun yc18 => ?_) (fun yc18 => ?_)
          · simp -implicitDefEqProofs only [c12_60_r, (show opsOf c12_60 = _ :: _ from rfl), Tryd.underlying22, Tryd.underlying9, hd13, ah22bslc, zq7, zq9, zq28, zq29, zq30, yc9, yc11, yc16, yc17, yc18, setA, setB, za, zb, zc, zd, ze, zf, zg, zh, zi, zj, zk, zl, zm, zn, zo, zp, reduceCtorEq, zE, ↓reduceIte]
            refine brP (fun yc19 => ?_) (fun yc19 => ?_)
            · simp -implicitDefEqProofs only [zq7, zq9, zq28, zq29, zq30, yc9, yc11, yc16, yc17, yc18, yc19, setA, setB, za, zb, zc, zd, ze, zf, zg, zh, zi, zj, zk, zl, zm, zn, zo, zp, reduceCtorEq, zE, ↓reduceIte]
              exact j12_61v2_t t28_0 t28_1 t29 t30 ((yr10.1 ++ ([13, 10] : Bs)) ++ ([13, 10] : Bs)) _ _ _ (by rfl) (by exact zq28) (by exact zq29) (by exact zq30)
            · rw [if_neg yc19]; rfl
          · simp -implicitDefEqProofs only [zq7, zq9, zq28, zq29, zq30, yc9, yc11, yc16, yc17, yc18, setA, setB, za, zb, zc, zd, ze, zf, zg, zh, zi, zj, zk, zl, zm, zn, zo, zp, reduceCtorEq, zE, ↓reduceIte]
            refine brP (fun yc20 => ?_) (fun yc20 => ?_)
            · simp -implicitDefEqProofs only [c12_60_r, (show opsOf c12_60 = _ :: _ from rfl), Tryd.underlying22, Tryd.underlying9, hd13, ah22bslc, zq7, zq9, zq28, zq29, zq30, yc9, yc11, yc16, yc17, yc18, yc20, setA, setB, za, zb, zc, zd, ze, zf, zg, zh, zi, zj, zk, zl, zm, zn, zo, zp, reduceCtorEq, zE, ↓reduceIte]
              refine brP (fun yc21 => ?_) (fun yc21 => ?_)
              · simp -implicitDefEqProofs only [zq7, zq9, zq28, zq29, zq30, yc9, yc11, yc16, yc17, yc18, yc20, yc21, setA, setB, za, zb, zc, zd, ze, zf, zg, zh, zi, zj, zk, zl, zm, zn, zo, zp, reduceCtorEq, zE, ↓reduceIte]
                exact j12_61v3_t t28_0 t28_1 t29 t30 (((yr10.1 ++ ([13, 10] : Bs)) ++ p9_1) ++ ([13, 10] : Bs)) _ _ _ _ (by rfl) (by exact zq28) (by exact zq29) (by exact zq30)
              · rw [if_neg yc21]; rfl
            · rw [if_neg yc20]; rfl
        · rw [if_neg yc17]; rfl
      · rw [if_neg yc16]; rfl
def j12_42 (t28_0 : Bool) (t28_1 : List (Bool × List UInt8)) (t29 t30 : Int) : Option (((Bool × List (Bool × List UInt8) × Int × Int) ⊕ (Bool × List (Bool × List UInt8) × Int × Int × List UInt8)) ⊕ R12) :=
  if 0 ≤ t30 ∧ t30 < (t28_1.length : Int) then
    if ((((t28_1.getD t30.toNat default).2).length : Int) == 0) = true then
      j12_61 t28_0 t28_1 t29 t30
    else
      j12_52 ((t28_1.getD t30.toNat default).1) ((t28_1.getD t30.toNat default).2) t28_0 t28_1 t29 t30
  else none
theorem j12_42_t (t28_0 : Bool) (t28_1 : List (Bool × List UInt8)) (t29 t30 : Int)  (sl : Nat → AV) (zq7 : sl 7 = .v (.c (.d (.lst true [])))) (zq28 : sl 28 = .v (.c (.d (.lst t28_0 (enL en0 t28_1))))) (zq29 : sl 29 = .v (.c (.d (.sc (.int .i64 t29))))) (zq30 : sl 30 = .v (.c (.d (.sc (.int .i64 t30))))) :
    stepE (K12_35 (mm := mm)) (loopK 0 [(7, .keep), (28, .keep), (29, .keep), (30, .keep)] (den (E0 mm) 12 0 (callW (E0 mm)) itW c12_42 none ⟨sl, []⟩)) = (j12_42 t28_0 t28_1 t29 t30).map (sm en12_35 e12) := by
  simp -implicitDefEqProofs only [j12_42, c12_42_e, c12_43_e, c12_44_e, c12_45_r, (show opsOf c12_45 = _ :: _ from rfl), Tryd.underlying31, sz22, en0_a, zq7, zq28, zq29, zq30, setA, setB, za, zb, zc, zd, ze, zf, zg, zh, zi, zj, zk, zl, zm, zn, zo, zp, reduceCtorEq, zE, ↓reduceIte]
  refine brP (fun yc6 => ?_) (fun yc6 => ?_)
  · have yd7 : t30.toNat < t28_1.length := by omega
    simp -implicitDefEqProofs only [(enL_get en0 t28_1 t30.toNat yd7), en0_e, sz22, ag22, c12_46_e, c12_47_e, c12_48_r, (show opsOf c12_48 = _ :: _ from rfl), Tryd.underlying22, (show c12_49 = Code.cond _ c12_50 c12_51 from rfl), zq7, zq28, zq29, zq30, yc6, yd7, setA, setB, za, zb, zc, zd, ze, zf, zg, zh, zi, zj, zk, zl, zm, zn, zo, zp, reduceCtorEq, zE, ↓reduceIte]
    refine brB (fun yc8 => ?_) (fun yc8 => ?_)
    · simp -implicitDefEqProofs only [c12_50_e, zq7, zq28, zq29, zq30, yc6, yd7, yc8, setA, setB, za, zb, zc, zd, ze, zf, zg, zh, zi, zj, zk, zl, zm, zn, zo, zp, reduceCtorEq, zE, ↓reduceIte]
      exact j12_61_t t28_0 t28_1 t29 t30 _ (by exact zq7) (by exact zq28) (by exact zq29) (by exact zq30)
    · simp -implicitDefEqProofs only [c12_51_e, zq7, zq28, zq29, zq30, yc6, yd7, yc8, setA, setB, za, zb, zc, zd, ze, zf, zg, zh, zi, zj, zk, zl, zm, zn, zo, zp, reduceCtorEq, zE, ↓reduceIte]
      exact j12_52_t ((t28_1.getD t30.toNat default).1) ((t28_1.getD t30.toNat default).2) t28_0 t28_1 t29 t30 _ (by exact zq7) (by rfl) (by exact zq28) (by exact zq29) (by exact zq30)
  · rw [if_neg yc6]; rfl
def j12_62  : Option R12 :=
  some (.inr ((0 : Int), (lB [48, 13, 10, 13, 10])))
theorem j12_62_t   (sl : Nat → AV) (zq7 : sl 7 = .v (.c (.d (.lst true [])))) :
    bodyD (E0 mm) [.tmp 2, .tmp 3] 0 true (den (E0 mm) 12 0 (callW (E0 mm)) itW c12_62 none ⟨sl, []⟩) = (j12_62).map e12 := by
  simp -implicitDefEqProofs only [j12_62, c12_62_e, c12_63_r, (show opsOf c12_63 = _ :: _ from rfl), Tryd.underlying22, Tryd.underlying9, hd14, (show ∀ hp : Heap, appendA Tryd.prog true hp 22 (.d (.lst true [])) (enL enB ([48, 13, 10, 13, 10] : Bs)) = some (.c (.slc hp.length 0 1 (lB [48, 13, 10, 13, 10]).length none), hp ++ [.cells (enC (lB [48, 13, 10, 13, 10]))]) from fun hp => ah22bnil (hp := hp) (b := (lB [48, 13, 10, 13, 10]))), c12_64_e, zq7, setA, setB, za, zb, zc, zd, ze, zf, zg, zh, zi, zj, zk, zl, zm, zn, zo, zp, reduceCtorEq, zE, ↓reduceIte]
  all_goals rfl
def s12_35x0 (t28_0 : Bool) (t28_1 : List (Bool × List UInt8)) (t29 t30 : Int) : Option (((Bool × List (Bool × List UInt8) × Int × Int) ⊕ (Bool × List (Bool × List UInt8) × Int × Int × List UInt8)) ⊕ R12) :=
  if (decide (t30 < t29)) = true then
    j12_42 t28_0 t28_1 t29 t30
  else
    (j12_62).map .inr
theorem s12_35x0_t (t28_0 : Bool) (t28_1 : List (Bool × List UInt8)) (t29 t30 : Int) :
    stepE (K12_35 (mm := mm)) (loopF (E0 mm) 12 0 (callW (E0 mm)) itW c12_36 [(7, .keep), (28, .keep), (29, .keep), (30, .keep)] (none, [.v (.c (.d (.lst true []))), .v (.c (.d (.lst t28_0 (enL en0 t28_1)))), .v (.c (.d (.sc (.int .i64 t29)))), .v (.c (.d (.sc (.int .i64 t30))))], [])) = (s12_35x0 t28_0 t28_1 t29 t30).map (sm en12_35 e12) := by
  simp -implicitDefEqProofs only [s12_35x0, loopF_eq, c12_36_e, c12_37_r, (show opsOf c12_37 = _ :: _ from rfl), c12_38_e, (show c12_39 = Code.cond _ c12_40 c12_41 from rfl), setA, setB, za, zb, zc, zd, ze, zf, zg, zh, zi, zj, zk, zl, zm, zn, zo, zp, reduceCtorEq, zE, ↓reduceIte]
  refine brB (fun yc5 => ?_) (fun yc5 => ?_)
  · simp -implicitDefEqProofs only [c12_40_e, yc5, setA, setB, za, zb, zc, zd, ze, zf, zg, zh, zi, zj, zk, zl, zm, zn, zo, zp, reduceCtorEq, zE, ↓reduceIte]
    exact j12_42_t t28_0 t28_1 t29 t30 _ (by rfl) (by rfl) (by rfl) (by rfl)
  · simp -implicitDefEqProofs only [c12_41_e, K12_35, yc5, setA, setB, za, zb, zc, zd, ze, zf, zg, zh, zi, zj, zk, zl, zm, zn, zo, zp, reduceCtorEq, zE, ↓reduceIte]
    exact mi (j12_62_t _ (by rfl))
def j12_61v4 (t28_0 : Bool) (t28_1 : List (Bool × List UInt8)) (t29 t30 : Int) (h0 : List UInt8) : Option (((Bool × List (Bool × List UInt8) × Int × Int) ⊕ (Bool × List (Bool × List UInt8) × Int × Int × List UInt8)) ⊕ R12) :=
  some (.inl (.inr (t28_0, t28_1, t29, (w64 (t30 + 1)), h0)))
theorem j12_61v4_t (t28_0 : Bool) (t28_1 : List (Bool × List UInt8)) (t29 t30 : Int) (h0 : List UInt8)  (sl : Nat → AV) (zq7 : sl 7 = .v (.c (.slc 0 0 1 h0.length none))) (zq28 : sl 28 = .v (.c (.d (.lst t28_0 (enL en0 t28_1))))) (zq29 : sl 29 = .v (.c (.d (.sc (.int .i64 t29))))) (zq30 : sl 30 = .v (.c (.d (.sc (.int .i64 t30))))) :
    stepE (K12_35 (mm := mm)) (loopK 0 [(7, .keep), (28, .keep), (29, .keep), (30, .keep)] (den (E0 mm) 12 0 (callW (E0 mm)) itW c12_61 none ⟨sl, [.cells (enC h0)]⟩)) = (j12_61v4 t28_0 t28_1 t29 t30 h0).map (sm en12_35 e12) := by
  simp -implicitDefEqProofs only [j12_61v4, c12_61_r, (show opsOf c12_61 = _ :: _ from rfl), zq7, zq28, zq29, zq30, setA, setB, za, zb, zc, zd, ze, zf, zg, zh, zi, zj, zk, zl, zm, zn, zo, zp, reduceCtorEq, zE, ↓reduceIte]
  all_goals rfl
def j12_61v5 (t28_0 : Bool) (t28_1 : List (Bool × List UInt8)) (t29 t30 : Int) (h4 : List UInt8) : Option (((Bool × List (Bool × List UInt8) × Int × Int) ⊕ (Bool × List (Bool × List UInt8) × Int × Int × List UInt8)) ⊕ R12) :=
  some (.inl (.inr (t28_0, t28_1, t29, (w64 (t30 + 1)), h4)))
theorem j12_61v5_t (t28_0 : Bool) (t28_1 : List (Bool × List UInt8)) (t29 t30 : Int) (h4 : List UInt8) (g0 g1 : Ob) (g2 g3 : Ob) (sl : Nat → AV) (zq7 : sl 7 = .v (.c (.slc 4 0 1 h4.length none))) (zq28 : sl 28 = .v (.c (.d (.lst t28_0 (enL en0 t28_1))))) (zq29 : sl 29 = .v (.c (.d (.sc (.int .i64 t29))))) (zq30 : sl 30 = .v (.c (.d (.sc (.int .i64 t30))))) :
    stepE (K12_35 (mm := mm)) (loopK 0 [(7, .keep), (28, .keep), (29, .keep), (30, .keep)] (den (E0 mm) 12 0 (callW (E0 mm)) itW c12_61 none ⟨sl, [g0, g1, g2, g3, .cells (enC h4)]⟩)) = (j12_61v5 t28_0 t28_1 t29 t30 h4).map (sm en12_35 e12) := by
  simp -implicitDefEqProofs only [j12_61v5, c12_61_r, (show opsOf c12_61 = _ :: _ from rfl), (show List.range 5 = [0, 1, 2, 3, 4] from rfl), zq7, zq28, zq29, zq30, setA, setB, za, zb, zc, zd, ze, zf, zg, zh, zi, zj, zk, zl, zm, zn, zo, zp, reduceCtorEq, zE, ↓reduceIte]
  all_goals rfl
def j12_52v1 (p9_0 : Bool) (p9_1 : List UInt8) (t28_0 : Bool) (t28_1 : List (Bool × List UInt8)) (t29 t30 : Int) (h0 : List UInt8) : Option (((Bool × List (Bool × List UInt8) × Int × Int) ⊕ (Bool × List (Bool × List UInt8) × Int × Int × List UInt8)) ⊕ R12) :=
  (m23 (wu64 (p9_1.length : Int))).bind fun yr27 =>
    if yr27.1.isEmpty = true then
      if (h0.length + 2) * 1 ≤ 140737488355328 then
        if p9_1.isEmpty = true then
          if ((h0 ++ ([13, 10] : Bs)).length + 2) * 1 ≤ 140737488355328 then
            j12_61v2 t28_0 t28_1 t29 t30 ((h0 ++ ([13, 10] : Bs)) ++ ([13, 10] : Bs))
          else none
        else
          if ((h0 ++ ([13, 10] : Bs)).length + p9_1.length) * 1 ≤ 140737488355328 then
            if (((h0 ++ ([13, 10] : Bs)) ++ p9_1).length + 2) * 1 ≤ 140737488355328 then
              j12_61v3 t28_0 t28_1 t29 t30 (((h0 ++ ([13, 10] : Bs)) ++ p9_1) ++ ([13, 10] : Bs))
            else none
          else none
      else none
    else
      if (h0.length + yr27.1.length) * 1 ≤ 140737488355328 then
        if ((h0 ++ yr27.1).length + 2) * 1 ≤ 140737488355328 then
          if p9_1.isEmpty = true then
            if (((h0 ++ yr27.1) ++ ([13, 10] : Bs)).length + 2) * 1 ≤ 140737488355328 then
              j12_61v3 t28_0 t28_1 t29 t30 (((h0 ++ yr27.1) ++ ([13, 10] : Bs)) ++ ([13, 10] : Bs))
            else none
          else
            if (((h0 ++ yr27.1) ++ ([13, 10] : Bs)).length + p9_1.length) * 1 ≤ 140737488355328 then
              if ((((h0 ++ yr27.1) ++ ([13, 10] : Bs)) ++ p9_1).length + 2) * 1 ≤ 140737488355328 then
                j12_61v5 t28_0 t28_1 t29 t30 ((((h0 ++ yr27.1) ++ ([13, 10] : Bs)) ++ p9_1) ++ ([13, 10] : Bs))
              else none
            else none
        else none
      else none
theorem j12_52v1_t (p9_0 : Bool) (p9_1 : List UInt8) (t28_0 : Bool) (t28_1 : List (Bool × List UInt8)) (t29 t30 : Int) (h0 : List UInt8)  (sl : Nat → AV) (zq7 : sl 7 = .v (.c (.slc 0 0 1 h0.length none))) (zq9 : sl 9 = .v (.c (.d (.lst p9_0 (enL enB p9_1))))) (zq28 : sl 28 = .v (.c (.d (.lst t28_0 (enL en0 t28_1))))) (zq29 : sl 29 = .v (.c (.d (.sc (.int .i64 t29))))) (zq30 : sl 30 = .v (.c (.d (.sc (.int .i64 t30))))) :
    stepE (K12_35 (mm := mm)) (loopK 0 [(7, .keep), (28, .keep), (29, .keep), (30, .keep)] (seqD (E0 mm) 12 0 (callW (E0 mm)) itW c12_61 (blockD 3 (den (E0 mm) 12 0 (callW (E0 mm)) itW c12_52 none ⟨sl, [.cells (enC h0)]⟩)))) = (j12_52v1 p9_0 p9_1 t28_0 t28_1 t29 t30 h0).map (sm en12_35 e12) := by
  simp -implicitDefEqProofs only [j12_52v1, c12_52_e, c12_53_r, (show opsOf c12_53 = _ :: _ from rfl), Tryd.underlying22, Tryd.underlying3, Tryd.underlying43, ent23, prm23, f23_t, zq7, zq9, zq28, zq29, zq30, setA, setB, za, zb, zc, zd, ze, zf, zg, zh, zi, zj, zk, zl, zm, zn, zo, zp, reduceCtorEq, zE, ↓reduceIte]
  refine brM (fun yc26 => ?_) (fun yr27 yc26 => ?_)
  · rw [yc26]; rfl
  · simp -implicitDefEqProofs only [e23, c12_54_e, c12_55_r, (show opsOf c12_55 = _ :: _ from rfl), Tryd.underlying22, Tryd.underlying9, hd8, ah22bslc, zq7, zq9, zq28, zq29, zq30, yc26, setA, setB, za, zb, zc, zd, ze, zf, zg, zh, zi, zj, zk, zl, zm, zn, zo, zp, reduceCtorEq, zE, ↓reduceIte]
    refine brB (fun yc28 => ?_) (fun yc28 => ?_)
    · simp -implicitDefEqProofs only [c12_56_e, c12_57_r, (show opsOf c12_57 = _ :: _ from rfl), Tryd.underlying22, Tryd.underlying9, hd10, ah22bslc, zq7, zq9, zq28, zq29, zq30, yc26, yc28, setA, setB, za, zb, zc, zd, ze, zf, zg, zh, zi, zj, zk, zl, zm, zn, zo, zp, reduceCtorEq, zE, ↓reduceIte]
      refine brP (fun yc29 => ?_) (fun yc29 => ?_)
      · simp -implicitDefEqProofs only [c12_58_e, c12_59_r, (show opsOf c12_59 = _ :: _ from rfl), Tryd.underlying22, hd11, ah22bslc, zq7, zq9, zq28, zq29, zq30, yc26, yc28, yc29, setA, setB, za, zb, zc, zd, ze, zf, zg, zh, zi, zj, zk, zl, zm, zn, zo, zp, reduceCtorEq, zE, ↓reduceIte]
        refine brB (fun yc30 => ?_) (fun yc30 => ?_)
        · simp -implicitDefEqProofs only [c12_60_r, (show opsOf c12_60 = _ :: _ from rfl), Tryd.underlying22, Tryd.underlying9, hd13, ah22bslc, zq7, zq9, zq28, zq29, zq30, yc26, yc28, yc29, yc30, setA, setB, za, zb, zc, zd, ze, zf, zg, zh, zi, zj, zk, zl, zm, zn, zo, zp, reduceCtorEq, zE, ↓reduceIte]
          refine brP (fun yc31 => ?_) (fun yc31 => ?_)
          · simp -implicitDefEqProofs only [zq7, zq9, zq28, zq29, zq30, yc26, yc28, yc29, yc30, yc31, setA, setB, za, zb, zc, zd, ze, zf, zg, zh, zi, zj, zk, zl, zm, zn, zo, zp, reduceCtorEq, zE, ↓reduceIte]
            exact j12_61v2_t t28_0 t28_1 t29 t30 ((h0 ++ ([13, 10] : Bs)) ++ ([13, 10] : Bs)) _ _ _ (by rfl) (by exact zq28) (by exact zq29) (by exact zq30)
          · rw [if_neg yc31]; rfl
        · simp -implicitDefEqProofs only [zq7, zq9, zq28, zq29, zq30, yc26, yc28, yc29, yc30, setA, setB, za, zb, zc, zd, ze, zf, zg, zh, zi, zj, zk, zl, zm, zn, zo, zp, reduceCtorEq, zE, ↓reduceIte]
          refine brP (fun yc32 => ?_) (fun yc32 => ?_)
          · simp -implicitDefEqProofs only [c12_60_r, (show opsOf c12_60 = _ :: _ from rfl), Tryd.underlying22, Tryd.underlying9, hd13, ah22bslc, zq7, zq9, zq28, zq29, zq30, yc26, yc28, yc29, yc30, yc32, setA, setB, za, zb, zc, zd, ze, zf, zg, zh, zi, zj, zk, zl, zm, zn, zo, zp, reduceCtorEq, zE, ↓reduceIte]
            refine brP (fun yc33 => ?_) (fun yc33 => ?_)
            · simp -implicitDefEqProofs only [zq7, zq9, zq28, zq29, zq30, yc26, yc28, yc29, yc30, yc32, yc33, setA, setB, za, zb, zc, zd, ze, zf, zg, zh, zi, zj, zk, zl, zm, zn, zo, zp, reduceCtorEq, zE, ↓reduceIte]
              exact j12_61v3_t t28_0 t28_1 t29 t30 (((h0 ++ ([13, 10] : Bs)) ++ p9_1) ++ ([13, 10] : Bs)) _ _ _ _ (by rfl) (by exact zq28) (by exact zq29) (by exact zq30)
            · rw [if_neg yc33]; rfl
          · rw [if_neg yc32]; rfl
      · rw [if_neg yc29]; rfl
    · simp -implicitDefEqProofs only [zq7, zq9, zq28, zq29, zq30, yc26, yc28, setA, setB, za, zb, zc, zd, ze, zf, zg, zh, zi, zj, zk, zl, zm, zn, zo, zp, reduceCtorEq, zE, ↓reduceIte]
      refine brP (fun yc34 => ?_) (fun yc34 => ?_)
      · simp -implicitDefEqProofs only [c12_56_e, c12_57_r, (show opsOf c12_57 = _ :: _ from rfl), Tryd.underlying22, Tryd.underlying9, hd10, ah22bslc, zq7, zq9, zq28, zq29, zq30, yc26, yc28, yc34, setA, setB, za, zb, zc, zd, ze, zf, zg, zh, zi, zj, zk, zl, zm, zn, zo, zp, reduceCtorEq, zE, ↓reduceIte]
        refine brP (fun yc35 => ?_) (fun yc35 => ?_)
        · simp -implicitDefEqProofs only [c12_58_e, c12_59_r, (show opsOf c12_59 = _ :: _ from rfl), Tryd.underlying22, hd11, ah22bslc, zq7, zq9, zq28, zq29, zq30, yc26, yc28, yc34, yc35, setA, setB, za, zb, zc, zd, ze, zf, zg, zh, zi, zj, zk, zl, zm, zn, zo, zp, reduceCtorEq, zE, ↓reduceIte]
          refine brB (fun yc36 => ?_) (fun yc36 => ?_)
          · simp -implicitDefEqProofs only [c12_60_r, (show opsOf c12_60 = _ :: _ from rfl), Tryd.underlying22, Tryd.underlying9, hd13, ah22bslc, zq7, zq9, zq28, zq29, zq30, yc26, yc28, yc34, yc35, yc36, setA, setB, za, zb, zc, zd, ze, zf, zg, zh, zi, zj, zk, zl, zm, zn, zo, zp, reduceCtorEq, zE, ↓reduceIte]
            refine brP (fun yc37 => ?_) (fun yc37 => ?_)
            · simp -implicitDefEqProofs only [zq7, zq9, zq28, zq29, zq30, yc26, yc28, yc34, yc35, yc36, yc37, setA, setB, za, zb, zc, zd, ze, zf, zg, zh, zi, zj, zk, zl, zm, zn, zo, zp, reduceCtorEq, zE, ↓reduceIte]
              exact j12_61v3_t t28_0 t28_1 t29 t30 (((h0 ++ yr27.1) ++ ([13, 10] : Bs)) ++ ([13, 10] : Bs)) _ _ _ _ (by rfl) (by exact zq28) (by exact zq29) (by exact zq30)
            · rw [if_neg yc37]; rfl
          · simp -implicitDefEqProofs only [zq7, zq9, zq28, zq29, zq30, yc26, yc28, yc34, yc35, yc36, setA, setB, za, zb, zc, zd, ze, zf, zg, zh, zi, zj, zk, zl, zm, zn, zo, zp, reduceCtorEq, zE, ↓reduceIte]
            refine brP (fun yc38 => ?_) (fun yc38 => ?_)
            · simp -implicitDefEqProofs only [c12_60_r, (show opsOf c12_60 = _ :: _ from rfl), Tryd.underlying22, Tryd.underlying9, hd13, ah22bslc, zq7, zq9, zq28, zq29, zq30, yc26, yc28, yc34, yc35, yc36, yc38, setA, setB, za, zb, zc, zd, ze, zf, zg, zh, zi, zj, zk, zl, zm, zn, zo, zp, reduceCtorEq, zE, ↓reduceIte]
              refine brP (fun yc39 => ?_) (fun yc39 => ?_)
              · simp -implicitDefEqProofs only [(show List.range 5 = [0, 1, 2, 3, 4] from rfl), zq7, zq9, zq28, zq29, zq30, yc26, yc28, yc34, yc35, yc36, yc38, yc39, setA, setB, za, zb, zc, zd, ze, zf, zg, zh, zi, zj, zk, zl, zm, zn, zo, zp, reduceCtorEq, zE, ↓reduceIte]
                exact j12_61v5_t t28_0 t28_1 t29 t30 ((((h0 ++ yr27.1) ++ ([13, 10] : Bs)) ++ p9_1) ++ ([13, 10] : Bs)) _ _ _ _ _ (by rfl) (by exact zq28) (by exact zq29) (by exact zq30)
              · rw [if_neg yc39]; rfl
            · rw [if_neg yc38]; rfl
        · rw [if_neg yc35]; rfl
      · rw [if_neg yc34]; rfl
def j12_42v1 (t28_0 : Bool) (t28_1 : List (Bool × List UInt8)) (t29 t30 : Int) (h0 : List UInt8) : Option (((Bool × List (Bool × List UInt8) × Int × Int) ⊕ (Bool × List (Bool × List UInt8) × Int × Int × List UInt8)) ⊕ R12) :=
  if 0 ≤ t30 ∧ t30 < (t28_1.length : Int) then
    if ((((t28_1.getD t30.toNat default).2).length : Int) == 0) = true then
      j12_61v4 t28_0 t28_1 t29 t30 h0
    else
      j12_52v1 ((t28_1.getD t30.toNat default).1) ((t28_1.getD t30.toNat default).2) t28_0 t28_1 t29 t30 h0
  else none
theorem j12_42v1_t (t28_0 : Bool) (t28_1 : List (Bool × List UInt8)) (t29 t30 : Int) (h0 : List UInt8)  (sl : Nat → AV) (zq7 : sl 7 = .v (.c (.slc 0 0 1 h0.length none))) (zq28 : sl 28 = .v (.c (.d (.lst t28_0 (enL en0 t28_1))))) (zq29 : sl 29 = .v (.c (.d (.sc (.int .i64 t29))))) (zq30 : sl 30 = .v (.c (.d (.sc (.int .i64 t30))))) :
    stepE (K12_35 (mm := mm)) (loopK 0 [(7, .keep), (28, .keep), (29, .keep), (30, .keep)] (den (E0 mm) 12 0 (callW (E0 mm)) itW c12_42 none ⟨sl, [.cells (enC h0)]⟩)) = (j12_42v1 t28_0 t28_1 t29 t30 h0).map (sm en12_35 e12) := by
  simp -implicitDefEqProofs only [j12_42v1, c12_42_e, c12_43_e, c12_44_e, c12_45_r, (show opsOf c12_45 = _ :: _ from rfl), Tryd.underlying31, sz22, en0_a, zq7, zq28, zq29, zq30, setA, setB, za, zb, zc, zd, ze, zf, zg, zh, zi, zj, zk, zl, zm, zn, zo, zp, reduceCtorEq, zE, ↓reduceIte]
  refine brP (fun yc23 => ?_) (fun yc23 => ?_)
  · have yd24 : t30.toNat < t28_1.length := by omega
    simp -implicitDefEqProofs only [(enL_get en0 t28_1 t30.toNat yd24), en0_e, sz22, ag22, c12_46_e, c12_47_e, c12_48_r, (show opsOf c12_48 = _ :: _ from rfl), Tryd.underlying22, (show c12_49 = Code.cond _ c12_50 c12_51 from rfl), zq7, zq28, zq29, zq30, yc23, yd24, setA, setB, za, zb, zc, zd, ze, zf, zg, zh, zi, zj, zk, zl, zm, zn, zo, zp, reduceCtorEq, zE, ↓reduceIte]
    refine brB (fun yc25 => ?_) (fun yc25 => ?_)
    · simp -implicitDefEqProofs only [c12_50_e, zq7, zq28, zq29, zq30, yc23, yd24, yc25, setA, setB, za, zb, zc, zd, ze, zf, zg, zh, zi, zj, zk, zl, zm, zn, zo, zp, reduceCtorEq, zE, ↓reduceIte]
      exact j12_61v4_t t28_0 t28_1 t29 t30 h0 _ (by exact zq7) (by exact zq28) (by exact zq29) (by exact zq30)
    · simp -implicitDefEqProofs only [c12_51_e, zq7, zq28, zq29, zq30, yc23, yd24, yc25, setA, setB, za, zb, zc, zd, ze, zf, zg, zh, zi, zj, zk, zl, zm, zn, zo, zp, reduceCtorEq, zE, ↓reduceIte]
      exact j12_52v1_t ((t28_1.getD t30.toNat default).1) ((t28_1.getD t30.toNat default).2) t28_0 t28_1 t29 t30 h0 _ (by exact zq7) (by rfl) (by exact zq28) (by exact zq29) (by exact zq30)
  · rw [if_neg yc23]; rfl
def j12_62v1 (h0 : List UInt8) : Option R12 :=
  if (h0.length + 5) * 1 ≤ 140737488355328 then
    some (.inr ((0 : Int), (h0 ++ ([48, 13, 10, 13, 10] : Bs))))
  else none
theorem j12_62v1_t (h0 : List UInt8)  (sl : Nat → AV) (zq7 : sl 7 = .v (.c (.slc 0 0 1 h0.length none))) :
    bodyD (E0 mm) [.tmp 2, .tmp 3] 0 true (den (E0 mm) 12 0 (callW (E0 mm)) itW c12_62 none ⟨sl, [.cells (enC h0)]⟩) = (j12_62v1 h0).map e12 := by
  simp -implicitDefEqProofs only [j12_62v1, c12_62_e, c12_63_r, (show opsOf c12_63 = _ :: _ from rfl), Tryd.underlying22, Tryd.underlying9, hd14, ah22bslc, zq7, setA, setB, za, zb, zc, zd, ze, zf, zg, zh, zi, zj, zk, zl, zm, zn, zo, zp, reduceCtorEq, zE, ↓reduceIte]
  refine brP (fun yc40 => ?_) (fun yc40 => ?_)
  · simp -implicitDefEqProofs only [c12_64_e, zq7, yc40, setA, setB, za, zb, zc, zd, ze, zf, zg, zh, zi, zj, zk, zl, zm, zn, zo, zp, reduceCtorEq, zE, ↓reduceIte]
    all_goals rfl
  · rw [if_neg yc40]; rfl
def s12_35x1 (t28_0 : Bool) (t28_1 : List (Bool × List UInt8)) (t29 t30 : Int) (h0 : List UInt8) : Option (((Bool × List (Bool × List UInt8) × Int × Int) ⊕ (Bool × List (Bool × List UInt8) × Int × Int × List UInt8)) ⊕ R12) :=
  if (decide (t30 < t29)) = true then
    j12_42v1 t28_0 t28_1 t29 t30 h0
  else
    (j12_62v1 h0).map .inr
theorem s12_35x1_t (t28_0 : Bool) (t28_1 : List (Bool × List UInt8)) (t29 t30 : Int) (h0 : List UInt8) :
    stepE (K12_35 (mm := mm)) (loopF (E0 mm) 12 0 (callW (E0 mm)) itW c12_36 [(7, .keep), (28, .keep), (29, .keep), (30, .keep)] (none, [.v (.c (.slc 0 0 1 h0.length none)), .v (.c (.d (.lst t28_0 (enL en0 t28_1)))), .v (.c (.d (.sc (.int .i64 t29)))), .v (.c (.d (.sc (.int .i64 t30))))], [.cells (enC h0)])) = (s12_35x1 t28_0 t28_1 t29 t30 h0).map (sm en12_35 e12) := by
  simp -implicitDefEqProofs only [s12_35x1, loopF_eq, c12_36_e, c12_37_r, (show opsOf c12_37 = _ :: _ from rfl), c12_38_e, (show c12_39 = Code.cond _ c12_40 c12_41 from rfl), setA, setB, za, zb, zc, zd, ze, zf, zg, zh, zi, zj, zk, zl, zm, zn, zo, zp, reduceCtorEq, zE, ↓reduceIte]
  refine brB (fun yc22 => ?_) (fun yc22 => ?_)
  · simp -implicitDefEqProofs only [c12_40_e, yc22, setA, setB, za, zb, zc, zd, ze, zf, zg, zh, zi, zj, zk, zl, zm, zn, zo, zp, reduceCtorEq, zE, ↓reduceIte]
    exact j12_42v1_t t28_0 t28_1 t29 t30 h0 _ (by rfl) (by rfl) (by rfl) (by rfl)
  · simp -implicitDefEqProofs only [c12_41_e, K12_35, yc22, setA, setB, za, zb, zc, zd, ze, zf, zg, zh, zi, zj, zk, zl, zm, zn, zo, zp, reduceCtorEq, zE, ↓reduceIte]
    exact mi (j12_62v1_t h0 _ (by rfl))
def s12_35 : ((Bool × List (Bool × List UInt8) × Int × Int) ⊕ (Bool × List (Bool × List UInt8) × Int × Int × List UInt8)) → Option (((Bool × List (Bool × List UInt8) × Int × Int) ⊕ (Bool × List (Bool × List UInt8) × Int × Int × List UInt8)) ⊕ R12) := fun x => match x with
  | (.inl x) => s12_35x0 x.1 x.2.1 x.2.2.1 x.2.2.2
  | (.inr x) => s12_35x1 x.1 x.2.1 x.2.2.1 x.2.2.2.1 x.2.2.2.2
def l12_35 (t28_0 : Bool) (t28_1 : List (Bool × List UInt8)) (t29 t30 : Int) : Option R12 := iter s12_35 (.inl (t28_0, t28_1, t29, t30))
theorem l12_35_t (t28_0 : Bool) (t28_1 : List (Bool × List UInt8)) (t29 t30 : Int) : bodyD (E0 mm) [.tmp 2, .tmp 3] 0 true (seqD (E0 mm) 12 0 (callW (E0 mm)) itW c12_62 (blockD 2 (itW (loopF (E0 mm) 12 0 (callW (E0 mm)) itW c12_36 [(7, .keep), (28, .keep), (29, .keep), (30, .keep)]) (none, [.v (.c (.d (.lst true []))), .v (.c (.d (.lst t28_0 (enL en0 t28_1)))), .v (.c (.d (.sc (.int .i64 t29)))), .v (.c (.d (.sc (.int .i64 t30))))], [])))) = (l12_35 t28_0 t28_1 t29 t30).map e12 :=
  it_sim (K := (K12_35 (mm := mm))) rfl (enc := en12_35) (fun x => match x with
  | (.inl x) => s12_35x0_t x.1 x.2.1 x.2.2.1 x.2.2.2
  | (.inr x) => s12_35x1_t x.1 x.2.1 x.2.2.1 x.2.2.2.1 x.2.2.2.2) (.inl (t28_0, t28_1, t29, t30))
def j12_29 (parts0_0 : Bool) (parts0_1 : List (Bool × List UInt8)) : Option R12 :=
  l12_35 parts0_0 parts0_1 (parts0_1.length : Int) (0 : Int)
theorem j12_29_t (parts0_0 : Bool) (parts0_1 : List (Bool × List UInt8))  (sl : Nat → AV) (zq0 : sl 0 = .v (.c (.d (.lst parts0_0 (enL en0 parts0_1))))) :
    bodyD (E0 mm) [.tmp 2, .tmp 3] 0 true (den (E0 mm) 12 0 (callW (E0 mm)) itW c12_29 none ⟨sl, []⟩) = (j12_29 parts0_0 parts0_1).map e12 := by
  simp -implicitDefEqProofs only [j12_29, c12_29_e, c12_30_r, (show opsOf c12_30 = _ :: _ from rfl), c12_31_e, c12_32_e, c12_33_r, (show opsOf c12_33 = _ :: _ from rfl), Tryd.underlying31, c12_34_e, c12_35_l, zq0, setA, setB, za, zb, zc, zd, ze, zf, zg, zh, zi, zj, zk, zl, zm, zn, zo, zp, reduceCtorEq, zE, ↓reduceIte]
  exact l12_35_t parts0_0 parts0_1 (parts0_1.length : Int) (0 : Int)
def s12_8 (parts0_0 : Bool) (parts0_1 : List (Bool × List UInt8)) (total4 : Int) (t12_0 : Bool) (t12_1 : List (Bool × List UInt8)) (t13 t14 : Int) : Option ((Bool × List (Bool × List UInt8) × Int × Bool × List (Bool × List UInt8) × Int × Int) ⊕ R12) :=
  if (decide (t14 < t13)) = true then
    if 0 ≤ t14 ∧ t14 < (t12_1.length : Int) then
      if (decide ((w64 (4096 - total4)) < (((t12_1.getD t14.toNat default).2).length : Int))) = true then
        some (.inr (.inl (21 : Int)))
      else
        some (.inl (parts0_0, parts0_1, (w64 (total4 + (((t12_1.getD t14.toNat default).2).length : Int))), t12_0, t12_1, t13, (w64 (t14 + 1))))
    else none
  else
    (j12_29 parts0_0 parts0_1).map .inr
theorem s12_8_t (parts0_0 : Bool) (parts0_1 : List (Bool × List UInt8)) (total4 : Int) (t12_0 : Bool) (t12_1 : List (Bool × List UInt8)) (t13 t14 : Int) :
    stepE (K12_8 (mm := mm)) (loopF (E0 mm) 12 0 (callW (E0 mm)) itW c12_9 [(0, .keep), (4, .keep), (12, .keep), (13, .keep), (14, .keep)] (none, [.v (.c (.d (.lst parts0_0 (enL en0 parts0_1)))), .v (.c (.d (.sc (.int .i64 total4)))), .v (.c (.d (.lst t12_0 (enL en0 t12_1)))), .v (.c (.d (.sc (.int .i64 t13)))), .v (.c (.d (.sc (.int .i64 t14))))], [])) = (s12_8 parts0_0 parts0_1 total4 t12_0 t12_1 t13 t14).map (sm en12_8 e12) := by
  simp -implicitDefEqProofs only [s12_8, loopF_eq, c12_9_e, c12_10_r, (show opsOf c12_10 = _ :: _ from rfl), c12_11_e, (show c12_12 = Code.cond _ c12_13 c12_14 from rfl), setA, setB, za, zb, zc, zd, ze, zf, zg, zh, zi, zj, zk, zl, zm, zn, zo, zp, reduceCtorEq, zE, ↓reduceIte]
  refine brB (fun yc1 => ?_) (fun yc1 => ?_)
  · simp -implicitDefEqProofs only [c12_13_e, c12_15_e, c12_16_e, c12_17_e, c12_18_r, (show opsOf c12_18 = _ :: _ from rfl), Tryd.underlying31, sz22, en0_a, yc1, setA, setB, za, zb, zc, zd, ze, zf, zg, zh, zi, zj, zk, zl, zm, zn, zo, zp, reduceCtorEq, zE, ↓reduceIte]
    refine brP (fun yc2 => ?_) (fun yc2 => ?_)
    · have yd3 : t14.toNat < t12_1.length := by omega
      simp -implicitDefEqProofs only [(enL_get en0 t12_1 t14.toNat yd3), en0_e, sz22, ag22, c12_19_e, c12_20_e, c12_21_r, (show opsOf c12_21 = _ :: _ from rfl), Tryd.underlying22, (show c12_22 = Code.cond _ c12_23 c12_26 from rfl), yc1, yc2, yd3, setA, setB, za, zb, zc, zd, ze, zf, zg, zh, zi, zj, zk, zl, zm, zn, zo, zp, reduceCtorEq, zE, ↓reduceIte]
      refine brB (fun yc4 => ?_) (fun yc4 => ?_)
      · simp -implicitDefEqProofs only [c12_23_e, c12_24_r, (show opsOf c12_24 = _ :: _ from rfl), c12_25_e, K12_8, yc1, yc2, yd3, yc4, setA, setB, za, zb, zc, zd, ze, zf, zg, zh, zi, zj, zk, zl, zm, zn, zo, zp, reduceCtorEq, zE, ↓reduceIte]
        all_goals rfl
      · simp -implicitDefEqProofs only [c12_26_e, c12_27_r, (show opsOf c12_27 = _ :: _ from rfl), Tryd.underlying22, c12_28_r, (show opsOf c12_28 = _ :: _ from rfl), yc1, yc2, yd3, yc4, setA, setB, za, zb, zc, zd, ze, zf, zg, zh, zi, zj, zk, zl, zm, zn, zo, zp, reduceCtorEq, zE, ↓reduceIte]
        all_goals rfl
    · rw [if_neg yc2]; rfl
  · simp -implicitDefEqProofs only [c12_14_e, K12_8, yc1, setA, setB, za, zb, zc, zd, ze, zf, zg, zh, zi, zj, zk, zl, zm, zn, zo, zp, reduceCtorEq, zE, ↓reduceIte]
    exact mi (j12_29_t parts0_0 parts0_1 _ (by rfl))
def l12_8 (parts0_0 : Bool) (parts0_1 : List (Bool × List UInt8)) (total4 : Int) (t12_0 : Bool) (t12_1 : List (Bool × List UInt8)) (t13 t14 : Int) : Option R12 := iter (fun x : (Bool × List (Bool × List UInt8) × Int × Bool × List (Bool × List UInt8) × Int × Int) => s12_8 x.1 x.2.1 x.2.2.1 x.2.2.2.1 x.2.2.2.2.1 x.2.2.2.2.2.1 x.2.2.2.2.2.2) (parts0_0, parts0_1, total4, t12_0, t12_1, t13, t14)
theorem l12_8_t (parts0_0 : Bool) (parts0_1 : List (Bool × List UInt8)) (total4 : Int) (t12_0 : Bool) (t12_1 : List (Bool × List UInt8)) (t13 t14 : Int) : bodyD (E0 mm) [.tmp 2, .tmp 3] 0 true (seqD (E0 mm) 12 0 (callW (E0 mm)) itW c12_29 (blockD 0 (itW (loopF (E0 mm) 12 0 (callW (E0 mm)) itW c12_9 [(0, .keep), (4, .keep), (12, .keep), (13, .keep), (14, .keep)]) (none, [.v (.c (.d (.lst parts0_0 (enL en0 parts0_1)))), .v (.c (.d (.sc (.int .i64 total4)))), .v (.c (.d (.lst t12_0 (enL en0 t12_1)))), .v (.c (.d (.sc (.int .i64 t13)))), .v (.c (.d (.sc (.int .i64 t14))))], [])))) = (l12_8 parts0_0 parts0_1 total4 t12_0 t12_1 t13 t14).map e12 :=
  it_sim (K := (K12_8 (mm := mm))) rfl (enc := en12_8) (fun x => s12_8_t x.1 x.2.1 x.2.2.1 x.2.2.2.1 x.2.2.2.2.1 x.2.2.2.2.2.1 x.2.2.2.2.2.2) (parts0_0, parts0_1, total4, t12_0, t12_1, t13, t14)
def m12 (parts_0 : Bool) (parts_1 : List (Bool × List UInt8)) : Option R12 :=
  l12_8 parts_0 parts_1 (0 : Int) parts_0 parts_1 (parts_1.length : Int) (0 : Int)
theorem f12_t (parts_0 : Bool) (parts_1 : List (Bool × List UInt8)) :
    callW (E0 mm) 12 [.c (.d (.lst parts_0 (enL en0 parts_1)))] [] = (m12 parts_0 parts_1).map e12 := by
  rw [callW_run (body := c12_0) (res := [.tmp 2, .tmp 3]) Tryd.func12 rfl rfl (by kernel_rfl)]
  simp -implicitDefEqProofs only [m12, slots1, c12_0_e, c12_1_r, (show opsOf c12_1 = _ :: _ from rfl), c12_2_e, c12_3_r, (show opsOf c12_3 = _ :: _ from rfl), c12_4_e, c12_5_e, c12_6_r, (show opsOf c12_6 = _ :: _ from rfl), Tryd.underlying31, c12_7_e, c12_8_l, setA, setB, za, zb, zc, zd, ze, zf, zg, zh, zi, zj, zk, zl, zm, zn, zo, zp, reduceCtorEq, zE, ↓reduceIte]
  exact l12_8_t parts_0 parts_1 (0 : Int) parts_0 parts_1 (parts_1.length : Int) (0 : Int)
end
end Go.Proofs.YtaohepmbkepmiaaDoor
