/- The Go functions as plain functions, and that the evaluator computes them. -/
import Derived.Test.YtaohepmbkepmiaaDoorFTakes5
set_option linter.all false
set_option maxRecDepth 100000
namespace Go.Proofs.YtaohepmbkepmiaaDoor
open Go Go.Ab
open Nat renaming reduceEqDiff → za, reduceAdd → zb, reduceLeDiff → zc, reduceLT → zd, reduceMul → ze, reduceBEq → zf, reduceSub → zg, reducePow → zh
open Int renaming reduceEq → zi, reduceLE → zj, reduceLT → zk, reduceToNat → zl, reduceNegSucc → zm, reduceAdd → zn, reduceBEq → zo
open String renaming reduceBEq → zp
set_option maxHeartbeats 4000000
noncomputable section
variable {mm : Int}
noncomputable def c9_0 : Code := bodyOf Tryd.f9
def c9_1 := cA c9_0
def c9_2 := cB c9_0
def c9_3 := cA c9_2
def c9_4 := cB c9_2
def c9_5 := cA c9_4
def c9_6 := cB c9_4
def c9_7 := cA c9_6
def c9_8 := cA c9_7
def c9_9 := cA c9_8
def c9_10 := cA c9_9
def c9_11 := cB c9_9
def c9_12 := cA c9_11
def c9_13 := cA c9_12
def c9_14 := cA c9_13
def c9_15 := cA c9_14
def c9_16 := cA c9_15
def c9_17 := cB c9_15
def c9_18 := cA c9_17
def c9_19 := cB c9_17
def c9_20 := cB c9_14
def c9_21 := cA c9_20
def c9_22 := cB c9_11
def c9_23 := cA c9_22
def c9_24 := cA c9_23
def c9_25 := cB c9_23
def c9_26 := cA c9_25
def c9_27 := cA c9_26
def c9_28 := cB c9_26
def c9_29 := cB c9_25
def c9_30 := cB c9_22
def c9_31 := cA c9_30
def c9_32 := cA c9_31
def c9_33 := cB c9_31
def c9_34 := cA c9_33
def c9_35 := cA c9_34
def c9_36 := cB c9_34
def c9_37 := cB c9_33
def c9_38 := cB c9_30
def c9_39 := cA c9_38
def c9_40 := cB c9_38
def c9_41 := cA c9_40
def c9_42 := cA c9_41
def c9_43 := cB c9_41
def c9_44 := cA c9_43
def c9_45 := cA c9_44
def c9_46 := cB c9_44
def c9_47 := cB c9_43
def c9_48 := cB c9_40
def c9_49 := cA c9_48
def c9_50 := cA c9_49
def c9_51 := cB c9_49
def c9_52 := cA c9_51
def c9_53 := cA c9_52
def c9_54 := cB c9_52
def c9_55 := cB c9_51
def c9_56 := cB c9_48
def c9_57 := cA c9_56
def c9_58 := cB c9_56
def c9_59 := cA c9_58
def c9_60 := cA c9_59
def c9_61 := cB c9_59
def c9_62 := cA c9_61
def c9_63 := cA c9_62
def c9_64 := cB c9_62
def c9_65 := cA c9_64
def c9_66 := cA c9_65
def c9_67 := cB c9_65
def c9_68 := cA c9_67
def c9_69 := cA c9_68
def c9_70 := cB c9_68
def c9_71 := cB c9_67
def c9_72 := cB c9_64
def c9_73 := cA c9_72
def c9_74 := cB c9_72
def c9_75 := cB c9_61
def c9_76 := cB c9_58
def c9_77 := cA c9_76
def c9_78 := cA c9_77
def c9_79 := cB c9_77
def c9_80 := cA c9_79
def c9_81 := cA c9_80
def c9_82 := cB c9_80
def c9_83 := cB c9_79
def c9_84 := cB c9_76
def c9_85 := cA c9_84
def c9_86 := cB c9_84
def c9_87 := cA c9_86
def c9_88 := cB c9_86
def c9_89 := cA c9_88
def c9_90 := cA c9_89
def c9_91 := cB c9_89
def c9_92 := cA c9_91
def c9_93 := cA c9_92
def c9_94 := cB c9_92
def c9_95 := cB c9_91
def c9_96 := cB c9_88
theorem c9_0_e : c9_0 = .seq c9_1 c9_2 := rfl
theorem c9_1_r : RG (E0 mm) 9 c9_1 := rgN rfl
theorem c9_2_e : c9_2 = .seq c9_3 c9_4 := rfl
theorem c9_3_r : RG (E0 mm) 9 c9_3 := rgN rfl
theorem c9_4_e : c9_4 = .seq c9_5 c9_6 := rfl
theorem c9_5_r : RG (E0 mm) 9 c9_5 := rgN rfl
theorem c9_6_e : c9_6 = .block 0 c9_7 := rfl
theorem c9_7_l (m : Nat) (st : St) : den (E0 mm) 9 m (callW (E0 mm)) itW c9_7 none st = loopD itW (loopF (E0 mm) 9 m (callW (E0 mm)) itW c9_8 [(0, .keep), (5, .own), (6, .keep)]) (canon m [(0, .keep), (5, .own), (6, .keep)] st) := rfl
theorem c9_8_e : c9_8 = .block 1 c9_9 := rfl
theorem c9_9_e : c9_9 = .seq c9_10 c9_11 := rfl
theorem c9_10_r : RG (E0 mm) 9 c9_10 := rgN rfl
theorem c9_11_e : c9_11 = .seq c9_12 c9_22 := rfl
theorem c9_12_e : c9_12 = .block 2 c9_13 := rfl
theorem c9_13_l (m : Nat) (st : St) : den (E0 mm) 9 m (callW (E0 mm)) itW c9_13 none st = loopD itW (loopF (E0 mm) 9 m (callW (E0 mm)) itW c9_14 [(0, .keep), (5, .keep), (6, .keep), (7, .keep)]) (canon m [(0, .keep), (5, .keep), (6, .keep), (7, .keep)] st) := rfl
theorem c9_14_e : c9_14 = .seq c9_15 c9_20 := rfl
theorem c9_15_e : c9_15 = .seq c9_16 c9_17 := rfl
theorem c9_16_r : RG (E0 mm) 9 c9_16 := rgN rfl
theorem c9_18_e : c9_18 = .skip := rfl
theorem c9_19_e : c9_19 = .exit 2 := rfl
theorem c9_20_e : c9_20 = .block 3 c9_21 := rfl
theorem c9_21_r : RG (E0 mm) 9 c9_21 := rgN rfl
theorem c9_22_e : c9_22 = .seq c9_23 c9_30 := rfl
theorem c9_23_e : c9_23 = .seq c9_24 c9_25 := rfl
theorem c9_24_r : RG (E0 mm) 9 c9_24 := rgN rfl
theorem c9_26_e : c9_26 = .seq c9_27 c9_28 := rfl
theorem c9_27_r : RG (E0 mm) 9 c9_27 := rgN rfl
theorem c9_28_e : c9_28 = .ret := rfl
theorem c9_29_e : c9_29 = .skip := rfl
theorem c9_30_e : c9_30 = .seq c9_31 c9_38 := rfl
theorem c9_31_e : c9_31 = .seq c9_32 c9_33 := rfl
theorem c9_32_r : RG (E0 mm) 9 c9_32 := rgN rfl
theorem c9_34_e : c9_34 = .seq c9_35 c9_36 := rfl
theorem c9_35_r : RG (E0 mm) 9 c9_35 := rgN rfl
theorem c9_36_e : c9_36 = .ret := rfl
theorem c9_37_e : c9_37 = .skip := rfl
theorem c9_38_e : c9_38 = .seq c9_39 c9_40 := rfl
theorem c9_39_r : RG (E0 mm) 9 c9_39 := rgN rfl
theorem c9_40_e : c9_40 = .seq c9_41 c9_48 := rfl
theorem c9_41_e : c9_41 = .seq c9_42 c9_43 := rfl
theorem c9_42_r : RG (E0 mm) 9 c9_42 := rgN rfl
theorem c9_44_e : c9_44 = .seq c9_45 c9_46 := rfl
theorem c9_45_r : RG (E0 mm) 9 c9_45 := rgN rfl
theorem c9_46_e : c9_46 = .ret := rfl
theorem c9_47_e : c9_47 = .skip := rfl
theorem c9_48_e : c9_48 = .seq c9_49 c9_56 := rfl
theorem c9_49_e : c9_49 = .seq c9_50 c9_51 := rfl
theorem c9_50_r : RG (E0 mm) 9 c9_50 := rgN rfl
theorem c9_52_e : c9_52 = .seq c9_53 c9_54 := rfl
theorem c9_53_r : RG (E0 mm) 9 c9_53 := rgN rfl
theorem c9_54_e : c9_54 = .ret := rfl
theorem c9_55_e : c9_55 = .skip := rfl
theorem c9_56_e : c9_56 = .seq c9_57 c9_58 := rfl
theorem c9_57_r : RG (E0 mm) 9 c9_57 := rgN rfl
theorem c9_58_e : c9_58 = .seq c9_59 c9_76 := rfl
theorem c9_59_e : c9_59 = .seq c9_60 c9_61 := rfl
theorem c9_60_r : RG (E0 mm) 9 c9_60 := rgN rfl
theorem c9_62_e : c9_62 = .seq c9_63 c9_64 := rfl
theorem c9_63_r : RG (E0 mm) 9 c9_63 := rgN rfl
theorem c9_64_e : c9_64 = .seq c9_65 c9_72 := rfl
theorem c9_65_e : c9_65 = .seq c9_66 c9_67 := rfl
theorem c9_66_r : RG (E0 mm) 9 c9_66 := rgN rfl
theorem c9_68_e : c9_68 = .seq c9_69 c9_70 := rfl
theorem c9_69_r : RG (E0 mm) 9 c9_69 := rgN rfl
theorem c9_70_e : c9_70 = .ret := rfl
theorem c9_71_e : c9_71 = .skip := rfl
theorem c9_72_e : c9_72 = .seq c9_73 c9_74 := rfl
theorem c9_73_r : RG (E0 mm) 9 c9_73 := rgN rfl
theorem c9_74_e : c9_74 = .ret := rfl
theorem c9_75_e : c9_75 = .skip := rfl
theorem c9_76_e : c9_76 = .seq c9_77 c9_84 := rfl
theorem c9_77_e : c9_77 = .seq c9_78 c9_79 := rfl
theorem c9_78_r : RG (E0 mm) 9 c9_78 := rgN rfl
theorem c9_80_e : c9_80 = .seq c9_81 c9_82 := rfl
theorem c9_81_r : RG (E0 mm) 9 c9_81 := rgN rfl
theorem c9_82_e : c9_82 = .ret := rfl
theorem c9_83_e : c9_83 = .skip := rfl
theorem c9_84_e : c9_84 = .seq c9_85 c9_86 := rfl
theorem c9_85_r : RG (E0 mm) 9 c9_85 := rgN rfl
theorem c9_86_e : c9_86 = .seq c9_87 c9_88 := rfl
theorem c9_87_r : RG (E0 mm) 9 c9_87 := rgN rfl
theorem c9_88_e : c9_88 = .seq c9_89 c9_96 := rfl
theorem c9_89_e : c9_89 = .seq c9_90 c9_91 := rfl
theorem c9_90_r : RG (E0 mm) 9 c9_90 := rgN rfl
theorem c9_92_e : c9_92 = .seq c9_93 c9_94 := rfl
theorem c9_93_r : RG (E0 mm) 9 c9_93 := rgN rfl
theorem c9_94_e : c9_94 = .ret := rfl
theorem c9_95_e : c9_95 = .skip := rfl
theorem c9_96_r : RG (E0 mm) 9 c9_96 := rgN rfl
abbrev R9 := (Bool × List UInt8 × Int × Int) ⊕ (Bool × List UInt8 × Int × Int)
def e9 : R9 → AV × Heap := fun x => match x with
  | .inl x => (.tup [.c (.d (.lst x.1 (enL enB x.2.1))), .c (.d (.sc (.int .i64 x.2.2.1))), .c (.d (.sc (.int .i64 x.2.2.2)))], [])
  | .inr x => (.tup [.c (.own x.1 (enL enB x.2.1) 0), .c (.d (.sc (.int .i64 x.2.2.1))), .c (.d (.sc (.int .i64 x.2.2.2)))], [.row x.2.1.length (rz x.1 1)])
def K9_7 : Option (Ex × St) → Option (AV × Heap) := fun r => bodyD (E0 mm) [.tmp 2, .tmp 3, .tmp 4] 0 false (blockD 0 (r))
def en9_7 : (Bool × List UInt8 × Bool × List UInt8 × Int) → X := fun x => (none, [.v (.c (.d (.lst x.1 (enL enB x.2.1)))), .v (.c (.own x.2.2.1 (enL enB x.2.2.2.1) 0)), .v (.c (.d (.sc (.int .i64 x.2.2.2.2))))], [.row x.2.2.2.1.length (rz x.2.2.1 1)])
def K9_13 : Option (Ex × St) → Option (X ⊕ (AV × Heap)) := fun r => stepE (K9_7 (mm := mm)) (loopK 0 [(0, .keep), (5, .own), (6, .keep)] (blockD 1 (seqD (E0 mm) 9 0 (callW (E0 mm)) itW c9_22 (blockD 2 (r)))))
def en9_13 : (Bool × List UInt8 × Bool × List UInt8 × Int × Int) → X := fun x => (none, [.v (.c (.d (.lst x.1 (enL enB x.2.1)))), .v (.c (.own x.2.2.1 (enL enB x.2.2.2.1) 0)), .v (.c (.d (.sc (.int .i64 x.2.2.2.2.1)))), .v (.c (.d (.sc (.int .i64 x.2.2.2.2.2))))], [.row x.2.2.2.1.length (rz x.2.2.1 1)])
def j9_72 (body5_0 : Bool) (body5_1 : List UInt8) (at6 used11 : Int) : Option ((Bool × List UInt8 × Bool × List UInt8 × Int) ⊕ R9) :=
  some (.inr (.inr (body5_0, body5_1, (w64 (at6 + used11)), (0 : Int))))
theorem j9_72_t (body5_0 : Bool) (body5_1 : List UInt8) (at6 used11 : Int)  (sl : Nat → AV) (zq5 : sl 5 = .v (.c (.own body5_0 (enL enB body5_1) 0))) (zq6 : sl 6 = .v (.c (.d (.sc (.int .i64 at6))))) (zq11 : sl 11 = .v (.c (.d (.sc (.int .i64 used11))))) :
    stepE (K9_7 (mm := mm)) (loopK 0 [(0, .keep), (5, .own), (6, .keep)] (blockD 1 (seqD (E0 mm) 9 0 (callW (E0 mm)) itW c9_76 (den (E0 mm) 9 0 (callW (E0 mm)) itW c9_72 none ⟨sl, [.row body5_1.length (rz body5_0 1)]⟩)))) = (j9_72 body5_0 body5_1 at6 used11).map (sm en9_7 e9) := by
  simp -implicitDefEqProofs only [j9_72, c9_72_e, c9_73_r, (show opsOf c9_73 = _ :: _ from rfl), c9_74_e, K9_7, zq5, zq6, zq11, setA, setB, za, zb, zc, zd, ze, zf, zg, zh, zi, zj, zk, zl, zm, zn, zo, zp, reduceCtorEq, zE, ↓reduceIte]
  all_goals rfl
def j9_72v1 (body5_0 : Bool) (body5_1 : List UInt8) (at6 used11 : Int) : Option ((Bool × List UInt8 × Bool × List UInt8 × Int) ⊕ R9) :=
  some (.inr (.inr (body5_0, body5_1, (w64 (at6 + used11)), (0 : Int))))
theorem j9_72v1_t (body5_0 : Bool) (body5_1 : List UInt8) (at6 used11 : Int) (g1 : Ob) (sl : Nat → AV) (zq5 : sl 5 = .v (.c (.own body5_0 (enL enB body5_1) 0))) (zq6 : sl 6 = .v (.c (.d (.sc (.int .i64 at6))))) (zq11 : sl 11 = .v (.c (.d (.sc (.int .i64 used11))))) :
    stepE (K9_7 (mm := mm)) (loopK 0 [(0, .keep), (5, .own), (6, .keep)] (blockD 1 (seqD (E0 mm) 9 0 (callW (E0 mm)) itW c9_76 (den (E0 mm) 9 0 (callW (E0 mm)) itW c9_72 none ⟨sl, [.row body5_1.length (rz body5_0 1), g1]⟩)))) = (j9_72v1 body5_0 body5_1 at6 used11).map (sm en9_7 e9) := by
  simp -implicitDefEqProofs only [j9_72v1, c9_72_e, c9_73_r, (show opsOf c9_73 = _ :: _ from rfl), c9_74_e, K9_7, zq5, zq6, zq11, setA, setB, za, zb, zc, zd, ze, zf, zg, zh, zi, zj, zk, zl, zm, zn, zo, zp, reduceCtorEq, zE, ↓reduceIte]
  all_goals rfl
def j9_91 (b0_0 : Bool) (b0_1 : List UInt8) (body5_0 : Bool) (body5_1 : List UInt8) (at6 : Int) (t116 : Bool) : Option ((Bool × List UInt8 × Bool × List UInt8 × Int) ⊕ R9) :=
  if t116 = true then
    some (.inr (.inl (true, ([] : List UInt8), (0 : Int), (20 : Int))))
  else
    some (.inl (b0_0, b0_1, body5_0, body5_1, (w64 (at6 + 2))))
theorem j9_91_t (b0_0 : Bool) (b0_1 : List UInt8) (body5_0 : Bool) (body5_1 : List UInt8) (at6 : Int) (t116 : Bool)  (sl : Nat → AV) (zq0 : sl 0 = .v (.c (.d (.lst b0_0 (enL enB b0_1))))) (zq5 : sl 5 = .v (.c (.own body5_0 (enL enB body5_1) 0))) (zq6 : sl 6 = .v (.c (.d (.sc (.int .i64 at6))))) (zq116 : sl 116 = .v (.c (.d (.sc (.bool t116))))) :
    stepE (K9_7 (mm := mm)) (loopK 0 [(0, .keep), (5, .own), (6, .keep)] (blockD 1 (seqD (E0 mm) 9 0 (callW (E0 mm)) itW c9_96 (den (E0 mm) 9 0 (callW (E0 mm)) itW c9_91 none ⟨sl, [.row body5_1.length (rz body5_0 1)]⟩)))) = (j9_91 b0_0 b0_1 body5_0 body5_1 at6 t116).map (sm en9_7 e9) := by
  simp -implicitDefEqProofs only [j9_91, (show c9_91 = Code.cond _ c9_92 c9_95 from rfl), zq0, zq5, zq6, zq116, setA, setB, za, zb, zc, zd, ze, zf, zg, zh, zi, zj, zk, zl, zm, zn, zo, zp, reduceCtorEq, zE, ↓reduceIte]
  refine brB (fun yc37 => ?_) (fun yc37 => ?_)
  · simp -implicitDefEqProofs only [c9_92_e, c9_93_r, (show opsOf c9_93 = _ :: _ from rfl), c9_94_e, K9_7, zq0, zq5, zq6, zq116, yc37, setA, setB, za, zb, zc, zd, ze, zf, zg, zh, zi, zj, zk, zl, zm, zn, zo, zp, reduceCtorEq, zE, ↓reduceIte]
    all_goals rfl
  · simp -implicitDefEqProofs only [c9_95_e, c9_96_r, (show opsOf c9_96 = _ :: _ from rfl), zq0, zq5, zq6, zq116, yc37, setA, setB, za, zb, zc, zd, ze, zf, zg, zh, zi, zj, zk, zl, zm, zn, zo, zp, reduceCtorEq, zE, ↓reduceIte]
    all_goals rfl
def j9_51 (b0_0 : Bool) (b0_1 : List UInt8) (body5_0 : Bool) (body5_1 : List UInt8) (end7 n8 : Int) (t63 : Bool) : Option ((Bool × List UInt8 × Bool × List UInt8 × Int) ⊕ R9) :=
  if t63 = true then
    some (.inr (.inl (true, ([] : List UInt8), (0 : Int), (21 : Int))))
  else
    if (n8 == 0) = true then
      (bnd (w64 (end7 + 1)) b0_1.length).bind fun yk19 =>
        (m22 b0_0 (b0_1.drop yk19)).bind fun yr21 =>
          match yr21 with
          | .inl yr22 =>
            if (yr22.2.2.2 == 0) = true then
              j9_72 body5_0 body5_1 (w64 (end7 + 1)) yr22.2.2.1
            else
              some (.inr (.inl (true, ([] : List UInt8), (0 : Int), yr22.2.2.2)))
          | .inr yr23 =>
            if (yr23.2.2.2 == 0) = true then
              j9_72v1 body5_0 body5_1 (w64 (end7 + 1)) yr23.2.2.1
            else
              some (.inr (.inl (true, ([] : List UInt8), (0 : Int), yr23.2.2.2)))
    else
      if (decide ((b0_1.length : Int) < (w64 ((w64 ((w64 (end7 + 1)) + (w64 n8))) + 2)))) = true then
        some (.inr (.inl (true, ([] : List UInt8), (0 : Int), (8 : Int))))
      else
        (bnd (w64 ((w64 (end7 + 1)) + (w64 n8))) b0_1.length).bind fun yk28 =>
          (bnd (w64 (end7 + 1)) yk28).bind fun yk30 =>
            if ((b0_1.take yk28).drop yk30) = [] ∨ (body5_1.length + ((b0_1.take yk28).drop yk30).length) * 1 ≤ 140737488355328 then
              if 0 ≤ (w64 ((w64 (end7 + 1)) + (w64 n8))) ∧ (w64 ((w64 (end7 + 1)) + (w64 n8))) < (b0_1.length : Int) then
                if ((b0_1.getD ((w64 ((w64 (end7 + 1)) + (w64 n8))).toNat) default) == (13 : UInt8)) = true then
                  if 0 ≤ (w64 ((w64 ((w64 (end7 + 1)) + (w64 n8))) + 1)) ∧ (w64 ((w64 ((w64 (end7 + 1)) + (w64 n8))) + 1)) < (b0_1.length : Int) then
                    j9_91 b0_0 b0_1 (body5_0 && ((b0_1.take yk28).drop yk30).isEmpty) (body5_1 ++ ((b0_1.take yk28).drop yk30)) (w64 ((w64 (end7 + 1)) + (w64 n8))) (!((b0_1.getD ((w64 ((w64 ((w64 (end7 + 1)) + (w64 n8))) + 1)).toNat) default) == (10 : UInt8)))
                  else none
                else
                  j9_91 b0_0 b0_1 (body5_0 && ((b0_1.take yk28).drop yk30).isEmpty) (body5_1 ++ ((b0_1.take yk28).drop yk30)) (w64 ((w64 (end7 + 1)) + (w64 n8))) true
              else none
            else none
theorem j9_51_t (b0_0 : Bool) (b0_1 : List UInt8) (body5_0 : Bool) (body5_1 : List UInt8) (end7 n8 : Int) (t63 : Bool)  (sl : Nat → AV) (zq0 : sl 0 = .v (.c (.d (.lst b0_0 (enL enB b0_1))))) (zq5 : sl 5 = .v (.c (.own body5_0 (enL enB body5_1) 0))) (zq7 : sl 7 = .v (.c (.d (.sc (.int .i64 end7))))) (zq8 : sl 8 = .v (.c (.d (.sc (.int .u64 n8))))) (zq63 : sl 63 = .v (.c (.d (.sc (.bool t63))))) :
    stepE (K9_7 (mm := mm)) (loopK 0 [(0, .keep), (5, .own), (6, .keep)] (blockD 1 (seqD (E0 mm) 9 0 (callW (E0 mm)) itW c9_56 (den (E0 mm) 9 0 (callW (E0 mm)) itW c9_51 none ⟨sl, [.row body5_1.length (rz body5_0 1)]⟩)))) = (j9_51 b0_0 b0_1 body5_0 body5_1 end7 n8 t63).map (sm en9_7 e9) := by
  simp -implicitDefEqProofs only [j9_51, (show c9_51 = Code.cond _ c9_52 c9_55 from rfl), zq0, zq5, zq7, zq8, zq63, setA, setB, za, zb, zc, zd, ze, zf, zg, zh, zi, zj, zk, zl, zm, zn, zo, zp, reduceCtorEq, zE, ↓reduceIte]
  refine brB (fun yc16 => ?_) (fun yc16 => ?_)
  · simp -implicitDefEqProofs only [c9_52_e, c9_53_r, (show opsOf c9_53 = _ :: _ from rfl), c9_54_e, K9_7, zq0, zq5, zq7, zq8, zq63, yc16, setA, setB, za, zb, zc, zd, ze, zf, zg, zh, zi, zj, zk, zl, zm, zn, zo, zp, reduceCtorEq, zE, ↓reduceIte]
    all_goals rfl
  · simp -implicitDefEqProofs only [c9_55_e, c9_56_e, c9_57_r, (show opsOf c9_57 = _ :: _ from rfl), c9_58_e, c9_59_e, c9_60_r, (show opsOf c9_60 = _ :: _ from rfl), (show c9_61 = Code.cond _ c9_62 c9_75 from rfl), zq0, zq5, zq7, zq8, zq63, yc16, setA, setB, za, zb, zc, zd, ze, zf, zg, zh, zi, zj, zk, zl, zm, zn, zo, zp, reduceCtorEq, zE, ↓reduceIte]
    refine brB (fun yc17 => ?_) (fun yc17 => ?_)
    · simp -implicitDefEqProofs only [c9_62_e, c9_63_r, (show opsOf c9_63 = _ :: _ from rfl), Tryd.underlying22, enB_a, sz5, zq0, zq5, zq7, zq8, zq63, yc16, yc17, setA, setB, za, zb, zc, zd, ze, zf, zg, zh, zi, zj, zk, zl, zm, zn, zo, zp, reduceCtorEq, zE, ↓reduceIte]
      refine brM (fun yc18 => ?_) (fun yk19 yc18 => ?_)
      · rw [yc18]; rfl
      · simp -implicitDefEqProofs only [Option.isNone_some, Bool.false_and, Bool.and_false, Bool.false_eq_true, if_false, ent22, prm22, f22_t, zq0, zq5, zq7, zq8, zq63, yc16, yc17, yc18, setA, setB, za, zb, zc, zd, ze, zf, zg, zh, zi, zj, zk, zl, zm, zn, zo, zp, reduceCtorEq, zE, ↓reduceIte]
        refine brM (fun yc20 => ?_) (fun yr21 yc20 => ?_)
        · rw [yc20]; rfl
        · rcases yr21 with yr22 | yr23
          · simp -implicitDefEqProofs only [e22, c9_64_e, c9_65_e, c9_66_r, (show opsOf c9_66 = _ :: _ from rfl), (show c9_67 = Code.cond _ c9_68 c9_71 from rfl), zq0, zq5, zq7, zq8, zq63, yc16, yc17, yc18, yc20, setA, setB, za, zb, zc, zd, ze, zf, zg, zh, zi, zj, zk, zl, zm, zn, zo, zp, reduceCtorEq, zE, ↓reduceIte]
            refine brB (fun yc24 => ?_) (fun yc24 => ?_)
            · simp -implicitDefEqProofs only [c9_71_e, zq0, zq5, zq7, zq8, zq63, yc16, yc17, yc18, yc20, yc24, setA, setB, za, zb, zc, zd, ze, zf, zg, zh, zi, zj, zk, zl, zm, zn, zo, zp, reduceCtorEq, zE, ↓reduceIte]
              exact j9_72_t body5_0 body5_1 (w64 (end7 + 1)) yr22.2.2.1 _ (by exact zq5) (by rfl) (by rfl)
            · simp -implicitDefEqProofs only [c9_68_e, c9_69_r, (show opsOf c9_69 = _ :: _ from rfl), c9_70_e, K9_7, zq0, zq5, zq7, zq8, zq63, yc16, yc17, yc18, yc20, yc24, setA, setB, za, zb, zc, zd, ze, zf, zg, zh, zi, zj, zk, zl, zm, zn, zo, zp, reduceCtorEq, zE, ↓reduceIte]
              all_goals rfl
          · simp -implicitDefEqProofs only [e22, c9_64_e, c9_65_e, c9_66_r, (show opsOf c9_66 = _ :: _ from rfl), (show c9_67 = Code.cond _ c9_68 c9_71 from rfl), zq0, zq5, zq7, zq8, zq63, yc16, yc17, yc18, yc20, setA, setB, za, zb, zc, zd, ze, zf, zg, zh, zi, zj, zk, zl, zm, zn, zo, zp, reduceCtorEq, zE, ↓reduceIte]
            refine brB (fun yc25 => ?_) (fun yc25 => ?_)
            · simp -implicitDefEqProofs only [c9_71_e, zq0, zq5, zq7, zq8, zq63, yc16, yc17, yc18, yc20, yc25, setA, setB, za, zb, zc, zd, ze, zf, zg, zh, zi, zj, zk, zl, zm, zn, zo, zp, reduceCtorEq, zE, ↓reduceIte]
              exact j9_72v1_t body5_0 body5_1 (w64 (end7 + 1)) yr23.2.2.1 _ _ (by exact zq5) (by rfl) (by rfl)
            · simp -implicitDefEqProofs only [c9_68_e, c9_69_r, (show opsOf c9_69 = _ :: _ from rfl), c9_70_e, K9_7, zq0, zq5, zq7, zq8, zq63, yc16, yc17, yc18, yc20, yc25, setA, setB, za, zb, zc, zd, ze, zf, zg, zh, zi, zj, zk, zl, zm, zn, zo, zp, reduceCtorEq, zE, ↓reduceIte]
              all_goals rfl
    · simp -implicitDefEqProofs only [c9_75_e, c9_76_e, c9_77_e, c9_78_r, (show opsOf c9_78 = _ :: _ from rfl), Tryd.underlying22, Tryd.underlying43, Tryd.underlying3, (show c9_79 = Code.cond _ c9_80 c9_83 from rfl), zq0, zq5, zq7, zq8, zq63, yc16, yc17, setA, setB, za, zb, zc, zd, ze, zf, zg, zh, zi, zj, zk, zl, zm, zn, zo, zp, reduceCtorEq, zE, ↓reduceIte]
      refine brB (fun yc26 => ?_) (fun yc26 => ?_)
      · simp -implicitDefEqProofs only [c9_80_e, c9_81_r, (show opsOf c9_81 = _ :: _ from rfl), c9_82_e, K9_7, zq0, zq5, zq7, zq8, zq63, yc16, yc17, yc26, setA, setB, za, zb, zc, zd, ze, zf, zg, zh, zi, zj, zk, zl, zm, zn, zo, zp, reduceCtorEq, zE, ↓reduceIte]
        all_goals rfl
      · simp -implicitDefEqProofs only [c9_83_e, c9_84_e, c9_85_r, (show opsOf c9_85 = _ :: _ from rfl), Tryd.underlying43, Tryd.underlying3, Tryd.underlying22, enB_a, sz5, zq0, zq5, zq7, zq8, zq63, yc16, yc17, yc26, setA, setB, za, zb, zc, zd, ze, zf, zg, zh, zi, zj, zk, zl, zm, zn, zo, zp, reduceCtorEq, zE, ↓reduceIte]
        refine brM (fun yc27 => ?_) (fun yk28 yc27 => ?_)
        · rw [yc27]; rfl
        · simp -implicitDefEqProofs only [zq0, zq5, zq7, zq8, zq63, yc16, yc17, yc26, yc27, setA, setB, za, zb, zc, zd, ze, zf, zg, zh, zi, zj, zk, zl, zm, zn, zo, zp, reduceCtorEq, zE, ↓reduceIte]
          refine brM (fun yc29 => ?_) (fun yk30 yc29 => ?_)
          · rw [yc29]; rfl
          · simp -implicitDefEqProofs only [Option.isNone_some, Bool.false_and, Bool.and_false, Bool.false_eq_true, if_false, Tryd.underlying22, hd34, ap22, zq0, zq5, zq7, zq8, zq63, yc16, yc17, yc26, yc27, yc29, setA, setB, za, zb, zc, zd, ze, zf, zg, zh, zi, zj, zk, zl, zm, zn, zo, zp, reduceCtorEq, zE, ↓reduceIte]
            refine brP (fun yc31 => ?_) (fun yc31 => ?_)
            · simp -implicitDefEqProofs only [c9_86_e, c9_87_r, (show opsOf c9_87 = _ :: _ from rfl), Tryd.underlying43, Tryd.underlying3, c9_88_e, c9_89_e, c9_90_r, (show opsOf c9_90 = _ :: _ from rfl), Tryd.underlying22, sz5, enB_a, zq0, zq5, zq7, zq8, zq63, yc16, yc17, yc26, yc27, yc29, yc31, setA, setB, za, zb, zc, zd, ze, zf, zg, zh, zi, zj, zk, zl, zm, zn, zo, zp, reduceCtorEq, zE, ↓reduceIte]
              refine brP (fun yc32 => ?_) (fun yc32 => ?_)
              · have yd33 : (w64 ((w64 (end7 + 1)) + (w64 n8))).toNat < b0_1.length := by omega
                simp -implicitDefEqProofs only [(enL_get enB b0_1 ((w64 ((w64 (end7 + 1)) + (w64 n8))).toNat) yd33), enB_e, sz5, ag5, zq0, zq5, zq7, zq8, zq63, yc16, yc17, yc26, yc27, yc29, yc31, yc32, yd33, setA, setB, za, zb, zc, zd, ze, zf, zg, zh, zi, zj, zk, zl, zm, zn, zo, zp, reduceCtorEq, zE, ↓reduceIte]
                refine brB (fun yc34 => ?_) (fun yc34 => ?_)
                · simp -implicitDefEqProofs only [Tryd.underlying22, sz5, enB_a, zq0, zq5, zq7, zq8, zq63, yc16, yc17, yc26, yc27, yc29, yc31, yc32, yd33, yc34, setA, setB, za, zb, zc, zd, ze, zf, zg, zh, zi, zj, zk, zl, zm, zn, zo, zp, reduceCtorEq, zE, ↓reduceIte]
                  refine brP (fun yc35 => ?_) (fun yc35 => ?_)
                  · have yd36 : (w64 ((w64 ((w64 (end7 + 1)) + (w64 n8))) + 1)).toNat < b0_1.length := by omega
                    simp -implicitDefEqProofs only [(enL_get enB b0_1 ((w64 ((w64 ((w64 (end7 + 1)) + (w64 n8))) + 1)).toNat) yd36), enB_e, sz5, ag5, zq0, zq5, zq7, zq8, zq63, yc16, yc17, yc26, yc27, yc29, yc31, yc32, yd33, yc34, yc35, yd36, setA, setB, za, zb, zc, zd, ze, zf, zg, zh, zi, zj, zk, zl, zm, zn, zo, zp, reduceCtorEq, zE, ↓reduceIte]
                    exact j9_91_t b0_0 b0_1 (body5_0 && ((b0_1.take yk28).drop yk30).isEmpty) (body5_1 ++ ((b0_1.take yk28).drop yk30)) (w64 ((w64 (end7 + 1)) + (w64 n8))) (!((b0_1.getD ((w64 ((w64 ((w64 (end7 + 1)) + (w64 n8))) + 1)).toNat) default) == (10 : UInt8))) _ (by exact zq0) (by rfl) (by rfl) (by rfl)
                  · rw [if_neg yc35]; rfl
                · simp -implicitDefEqProofs only [zq0, zq5, zq7, zq8, zq63, yc16, yc17, yc26, yc27, yc29, yc31, yc32, yd33, yc34, setA, setB, za, zb, zc, zd, ze, zf, zg, zh, zi, zj, zk, zl, zm, zn, zo, zp, reduceCtorEq, zE, ↓reduceIte]
                  exact j9_91_t b0_0 b0_1 (body5_0 && ((b0_1.take yk28).drop yk30).isEmpty) (body5_1 ++ ((b0_1.take yk28).drop yk30)) (w64 ((w64 (end7 + 1)) + (w64 n8))) true _ (by exact zq0) (by rfl) (by rfl) (by rfl)
              · rw [if_neg yc32]; rfl
            · rw [if_neg yc31]; rfl
def j9_22 (b0_0 : Bool) (b0_1 : List UInt8) (body5_0 : Bool) (body5_1 : List UInt8) (at6 end7 : Int) : Option ((Bool × List UInt8 × Bool × List UInt8 × Int) ⊕ R9) :=
  if (end7 == (w64 (at6 + 64))) = true then
    some (.inr (.inl (true, ([] : List UInt8), (0 : Int), (21 : Int))))
  else
    if (end7 == (b0_1.length : Int)) = true then
      some (.inr (.inl (true, ([] : List UInt8), (0 : Int), (8 : Int))))
    else
      (bnd (w64 (end7 + 1)) b0_1.length).bind fun yk9 =>
        (bnd at6 yk9).bind fun yk11 =>
          (m21 ((b0_1.take yk9).drop yk11)).bind fun yr13 =>
            if (yr13.2 == 0) = true then
              if (decide (4096 < yr13.1)) = true then
                j9_51 b0_0 b0_1 body5_0 body5_1 end7 yr13.1 true
              else
                j9_51 b0_0 b0_1 body5_0 body5_1 end7 yr13.1 (decide (4096 < (w64 ((body5_1.length : Int) + (w64 yr13.1)))))
            else
              some (.inr (.inl (true, ([] : List UInt8), (0 : Int), yr13.2)))
theorem j9_22_t (b0_0 : Bool) (b0_1 : List UInt8) (body5_0 : Bool) (body5_1 : List UInt8) (at6 end7 : Int)  (sl : Nat → AV) (zq0 : sl 0 = .v (.c (.d (.lst b0_0 (enL enB b0_1))))) (zq5 : sl 5 = .v (.c (.own body5_0 (enL enB body5_1) 0))) (zq6 : sl 6 = .v (.c (.d (.sc (.int .i64 at6))))) (zq7 : sl 7 = .v (.c (.d (.sc (.int .i64 end7))))) :
    stepE (K9_7 (mm := mm)) (loopK 0 [(0, .keep), (5, .own), (6, .keep)] (blockD 1 (den (E0 mm) 9 0 (callW (E0 mm)) itW c9_22 none ⟨sl, [.row body5_1.length (rz body5_0 1)]⟩))) = (j9_22 b0_0 b0_1 body5_0 body5_1 at6 end7).map (sm en9_7 e9) := by
  simp -implicitDefEqProofs only [j9_22, c9_22_e, c9_23_e, c9_24_r, (show opsOf c9_24 = _ :: _ from rfl), (show c9_25 = Code.cond _ c9_26 c9_29 from rfl), zq0, zq5, zq6, zq7, setA, setB, za, zb, zc, zd, ze, zf, zg, zh, zi, zj, zk, zl, zm, zn, zo, zp, reduceCtorEq, zE, ↓reduceIte]
  refine brB (fun yc6 => ?_) (fun yc6 => ?_)
  · simp -implicitDefEqProofs only [c9_26_e, c9_27_r, (show opsOf c9_27 = _ :: _ from rfl), c9_28_e, K9_7, zq0, zq5, zq6, zq7, yc6, setA, setB, za, zb, zc, zd, ze, zf, zg, zh, zi, zj, zk, zl, zm, zn, zo, zp, reduceCtorEq, zE, ↓reduceIte]
    all_goals rfl
  · simp -implicitDefEqProofs only [c9_29_e, c9_30_e, c9_31_e, c9_32_r, (show opsOf c9_32 = _ :: _ from rfl), Tryd.underlying22, (show c9_33 = Code.cond _ c9_34 c9_37 from rfl), zq0, zq5, zq6, zq7, yc6, setA, setB, za, zb, zc, zd, ze, zf, zg, zh, zi, zj, zk, zl, zm, zn, zo, zp, reduceCtorEq, zE, ↓reduceIte]
    refine brB (fun yc7 => ?_) (fun yc7 => ?_)
    · simp -implicitDefEqProofs only [c9_34_e, c9_35_r, (show opsOf c9_35 = _ :: _ from rfl), c9_36_e, K9_7, zq0, zq5, zq6, zq7, yc6, yc7, setA, setB, za, zb, zc, zd, ze, zf, zg, zh, zi, zj, zk, zl, zm, zn, zo, zp, reduceCtorEq, zE, ↓reduceIte]
      all_goals rfl
    · simp -implicitDefEqProofs only [c9_37_e, c9_38_e, c9_39_r, (show opsOf c9_39 = _ :: _ from rfl), Tryd.underlying22, enB_a, sz5, zq0, zq5, zq6, zq7, yc6, yc7, setA, setB, za, zb, zc, zd, ze, zf, zg, zh, zi, zj, zk, zl, zm, zn, zo, zp, reduceCtorEq, zE, ↓reduceIte]
      refine brM (fun yc8 => ?_) (fun yk9 yc8 => ?_)
      · rw [yc8]; rfl
      · simp -implicitDefEqProofs only [zq0, zq5, zq6, zq7, yc6, yc7, yc8, setA, setB, za, zb, zc, zd, ze, zf, zg, zh, zi, zj, zk, zl, zm, zn, zo, zp, reduceCtorEq, zE, ↓reduceIte]
        refine brM (fun yc10 => ?_) (fun yk11 yc10 => ?_)
        · rw [yc10]; rfl
        · simp -implicitDefEqProofs only [Option.isNone_some, Bool.false_and, Bool.and_false, Bool.false_eq_true, if_false, Tryd.underlying22, Tryd.underlying9, Tryd.underlying5, ent21, prm21, f21_t, zq0, zq5, zq6, zq7, yc6, yc7, yc8, yc10, setA, setB, za, zb, zc, zd, ze, zf, zg, zh, zi, zj, zk, zl, zm, zn, zo, zp, reduceCtorEq, zE, ↓reduceIte]
          refine brM (fun yc12 => ?_) (fun yr13 yc12 => ?_)
          · rw [yc12]; rfl
          · simp -implicitDefEqProofs only [e21, c9_40_e, c9_41_e, c9_42_r, (show opsOf c9_42 = _ :: _ from rfl), (show c9_43 = Code.cond _ c9_44 c9_47 from rfl), zq0, zq5, zq6, zq7, yc6, yc7, yc8, yc10, yc12, setA, setB, za, zb, zc, zd, ze, zf, zg, zh, zi, zj, zk, zl, zm, zn, zo, zp, reduceCtorEq, zE, ↓reduceIte]
            refine brB (fun yc14 => ?_) (fun yc14 => ?_)
            · simp -implicitDefEqProofs only [c9_47_e, c9_48_e, c9_49_e, c9_50_r, (show opsOf c9_50 = _ :: _ from rfl), zq0, zq5, zq6, zq7, yc6, yc7, yc8, yc10, yc12, yc14, setA, setB, za, zb, zc, zd, ze, zf, zg, zh, zi, zj, zk, zl, zm, zn, zo, zp, reduceCtorEq, zE, ↓reduceIte]
              refine brB (fun yc15 => ?_) (fun yc15 => ?_)
              · simp -implicitDefEqProofs only [zq0, zq5, zq6, zq7, yc6, yc7, yc8, yc10, yc12, yc14, yc15, setA, setB, za, zb, zc, zd, ze, zf, zg, zh, zi, zj, zk, zl, zm, zn, zo, zp, reduceCtorEq, zE, ↓reduceIte]
                exact j9_51_t b0_0 b0_1 body5_0 body5_1 end7 yr13.1 true _ (by exact zq0) (by exact zq5) (by exact zq7) (by rfl) (by rfl)
              · simp -implicitDefEqProofs only [Tryd.underlying22, Tryd.underlying43, Tryd.underlying3, zq0, zq5, zq6, zq7, yc6, yc7, yc8, yc10, yc12, yc14, yc15, setA, setB, za, zb, zc, zd, ze, zf, zg, zh, zi, zj, zk, zl, zm, zn, zo, zp, reduceCtorEq, zE, ↓reduceIte]
                exact j9_51_t b0_0 b0_1 body5_0 body5_1 end7 yr13.1 (decide (4096 < (w64 ((body5_1.length : Int) + (w64 yr13.1))))) _ (by exact zq0) (by exact zq5) (by exact zq7) (by rfl) (by rfl)
            · simp -implicitDefEqProofs only [c9_44_e, c9_45_r, (show opsOf c9_45 = _ :: _ from rfl), c9_46_e, K9_7, zq0, zq5, zq6, zq7, yc6, yc7, yc8, yc10, yc12, yc14, setA, setB, za, zb, zc, zd, ze, zf, zg, zh, zi, zj, zk, zl, zm, zn, zo, zp, reduceCtorEq, zE, ↓reduceIte]
              all_goals rfl
def j9_17 (b0_0 : Bool) (b0_1 : List UInt8) (body5_0 : Bool) (body5_1 : List UInt8) (at6 end7 : Int) (t30 : Bool) : Option ((Bool × List UInt8 × Bool × List UInt8 × Int × Int) ⊕ ((Bool × List UInt8 × Bool × List UInt8 × Int) ⊕ R9)) :=
  if t30 = true then
    some (.inl (b0_0, b0_1, body5_0, body5_1, at6, (w64 (end7 + 1))))
  else
    (j9_22 b0_0 b0_1 body5_0 body5_1 at6 end7).map .inr
theorem j9_17_t (b0_0 : Bool) (b0_1 : List UInt8) (body5_0 : Bool) (body5_1 : List UInt8) (at6 end7 : Int) (t30 : Bool)  (sl : Nat → AV) (zq0 : sl 0 = .v (.c (.d (.lst b0_0 (enL enB b0_1))))) (zq5 : sl 5 = .v (.c (.own body5_0 (enL enB body5_1) 0))) (zq6 : sl 6 = .v (.c (.d (.sc (.int .i64 at6))))) (zq7 : sl 7 = .v (.c (.d (.sc (.int .i64 end7))))) (zq30 : sl 30 = .v (.c (.d (.sc (.bool t30))))) :
    stepE (K9_13 (mm := mm)) (loopK 0 [(0, .keep), (5, .keep), (6, .keep), (7, .keep)] (seqD (E0 mm) 9 0 (callW (E0 mm)) itW c9_20 (den (E0 mm) 9 0 (callW (E0 mm)) itW c9_17 none ⟨sl, [.row body5_1.length (rz body5_0 1)]⟩))) = (j9_17 b0_0 b0_1 body5_0 body5_1 at6 end7 t30).map (sm en9_13 (sm en9_7 e9)) := by
  simp -implicitDefEqProofs only [j9_17, (show c9_17 = Code.cond _ c9_18 c9_19 from rfl), zq0, zq5, zq6, zq7, zq30, setA, setB, za, zb, zc, zd, ze, zf, zg, zh, zi, zj, zk, zl, zm, zn, zo, zp, reduceCtorEq, zE, ↓reduceIte]
  refine brB (fun yc5 => ?_) (fun yc5 => ?_)
  · simp -implicitDefEqProofs only [c9_18_e, c9_20_e, c9_21_r, (show opsOf c9_21 = _ :: _ from rfl), zq0, zq5, zq6, zq7, zq30, yc5, setA, setB, za, zb, zc, zd, ze, zf, zg, zh, zi, zj, zk, zl, zm, zn, zo, zp, reduceCtorEq, zE, ↓reduceIte]
    all_goals rfl
  · simp -implicitDefEqProofs only [c9_19_e, K9_13, zq0, zq5, zq6, zq7, zq30, yc5, setA, setB, za, zb, zc, zd, ze, zf, zg, zh, zi, zj, zk, zl, zm, zn, zo, zp, reduceCtorEq, zE, ↓reduceIte]
    exact mi (j9_22_t b0_0 b0_1 body5_0 body5_1 at6 end7 _ (by exact zq0) (by exact zq5) (by exact zq6) (by exact zq7))
def s9_13 (b0_0 : Bool) (b0_1 : List UInt8) (body5_0 : Bool) (body5_1 : List UInt8) (at6 end7 : Int) : Option ((Bool × List UInt8 × Bool × List UInt8 × Int × Int) ⊕ ((Bool × List UInt8 × Bool × List UInt8 × Int) ⊕ R9)) :=
  if (decide (end7 < (b0_1.length : Int))) = true then
    if (decide (end7 < (w64 (at6 + 64)))) = true then
      if 0 ≤ end7 ∧ end7 < (b0_1.length : Int) then
        j9_17 b0_0 b0_1 body5_0 body5_1 at6 end7 (!((b0_1.getD end7.toNat default) == (10 : UInt8)))
      else none
    else
      j9_17 b0_0 b0_1 body5_0 body5_1 at6 end7 false
  else
    j9_17 b0_0 b0_1 body5_0 body5_1 at6 end7 false
theorem s9_13_t (b0_0 : Bool) (b0_1 : List UInt8) (body5_0 : Bool) (body5_1 : List UInt8) (at6 end7 : Int) :
    stepE (K9_13 (mm := mm)) (loopF (E0 mm) 9 0 (callW (E0 mm)) itW c9_14 [(0, .keep), (5, .keep), (6, .keep), (7, .keep)] (none, [.v (.c (.d (.lst b0_0 (enL enB b0_1)))), .v (.c (.own body5_0 (enL enB body5_1) 0)), .v (.c (.d (.sc (.int .i64 at6)))), .v (.c (.d (.sc (.int .i64 end7))))], [.row body5_1.length (rz body5_0 1)])) = (s9_13 b0_0 b0_1 body5_0 body5_1 at6 end7).map (sm en9_13 (sm en9_7 e9)) := by
  simp -implicitDefEqProofs only [s9_13, loopF_eq, c9_14_e, c9_15_e, c9_16_r, (show opsOf c9_16 = _ :: _ from rfl), Tryd.underlying22, setA, setB, za, zb, zc, zd, ze, zf, zg, zh, zi, zj, zk, zl, zm, zn, zo, zp, reduceCtorEq, zE, ↓reduceIte]
  refine brB (fun yc1 => ?_) (fun yc1 => ?_)
  · simp -implicitDefEqProofs only [yc1, setA, setB, za, zb, zc, zd, ze, zf, zg, zh, zi, zj, zk, zl, zm, zn, zo, zp, reduceCtorEq, zE, ↓reduceIte]
    refine brB (fun yc2 => ?_) (fun yc2 => ?_)
    · simp -implicitDefEqProofs only [Tryd.underlying22, sz5, enB_a, yc1, yc2, setA, setB, za, zb, zc, zd, ze, zf, zg, zh, zi, zj, zk, zl, zm, zn, zo, zp, reduceCtorEq, zE, ↓reduceIte]
      refine brP (fun yc3 => ?_) (fun yc3 => ?_)
      · have yd4 : end7.toNat < b0_1.length := by omega
        simp -implicitDefEqProofs only [(enL_get enB b0_1 end7.toNat yd4), enB_e, sz5, ag5, yc1, yc2, yc3, yd4, setA, setB, za, zb, zc, zd, ze, zf, zg, zh, zi, zj, zk, zl, zm, zn, zo, zp, reduceCtorEq, zE, ↓reduceIte]
        exact j9_17_t b0_0 b0_1 body5_0 body5_1 at6 end7 (!((b0_1.getD end7.toNat default) == (10 : UInt8))) _ (by rfl) (by rfl) (by rfl) (by rfl) (by rfl)
      · rw [if_neg yc3]; rfl
    · simp -implicitDefEqProofs only [yc1, yc2, setA, setB, za, zb, zc, zd, ze, zf, zg, zh, zi, zj, zk, zl, zm, zn, zo, zp, reduceCtorEq, zE, ↓reduceIte]
      exact j9_17_t b0_0 b0_1 body5_0 body5_1 at6 end7 false _ (by rfl) (by rfl) (by rfl) (by rfl) (by rfl)
  · simp -implicitDefEqProofs only [yc1, setA, setB, za, zb, zc, zd, ze, zf, zg, zh, zi, zj, zk, zl, zm, zn, zo, zp, reduceCtorEq, zE, ↓reduceIte]
    exact j9_17_t b0_0 b0_1 body5_0 body5_1 at6 end7 false _ (by rfl) (by rfl) (by rfl) (by rfl) (by rfl)
def l9_13 (b0_0 : Bool) (b0_1 : List UInt8) (body5_0 : Bool) (body5_1 : List UInt8) (at6 end7 : Int) : Option ((Bool × List UInt8 × Bool × List UInt8 × Int) ⊕ R9) := iter (fun x : (Bool × List UInt8 × Bool × List UInt8 × Int × Int) => s9_13 x.1 x.2.1 x.2.2.1 x.2.2.2.1 x.2.2.2.2.1 x.2.2.2.2.2) (b0_0, b0_1, body5_0, body5_1, at6, end7)
theorem l9_13_t (b0_0 : Bool) (b0_1 : List UInt8) (body5_0 : Bool) (body5_1 : List UInt8) (at6 end7 : Int) : stepE (K9_7 (mm := mm)) (loopK 0 [(0, .keep), (5, .own), (6, .keep)] (blockD 1 (seqD (E0 mm) 9 0 (callW (E0 mm)) itW c9_22 (blockD 2 (itW (loopF (E0 mm) 9 0 (callW (E0 mm)) itW c9_14 [(0, .keep), (5, .keep), (6, .keep), (7, .keep)]) (none, [.v (.c (.d (.lst b0_0 (enL enB b0_1)))), .v (.c (.own body5_0 (enL enB body5_1) 0)), .v (.c (.d (.sc (.int .i64 at6)))), .v (.c (.d (.sc (.int .i64 end7))))], [.row body5_1.length (rz body5_0 1)])))))) = (l9_13 b0_0 b0_1 body5_0 body5_1 at6 end7).map (sm en9_7 e9) :=
  it_sim (K := (K9_13 (mm := mm))) rfl (enc := en9_13) (fun x => s9_13_t x.1 x.2.1 x.2.2.1 x.2.2.2.1 x.2.2.2.2.1 x.2.2.2.2.2) (b0_0, b0_1, body5_0, body5_1, at6, end7)
def s9_7 (b0_0 : Bool) (b0_1 : List UInt8) (body5_0 : Bool) (body5_1 : List UInt8) (at6 : Int) : Option ((Bool × List UInt8 × Bool × List UInt8 × Int) ⊕ R9) :=
  l9_13 b0_0 b0_1 body5_0 body5_1 at6 at6
theorem s9_7_t (b0_0 : Bool) (b0_1 : List UInt8) (body5_0 : Bool) (body5_1 : List UInt8) (at6 : Int) :
    stepE (K9_7 (mm := mm)) (loopF (E0 mm) 9 0 (callW (E0 mm)) itW c9_8 [(0, .keep), (5, .own), (6, .keep)] (none, [.v (.c (.d (.lst b0_0 (enL enB b0_1)))), .v (.c (.own body5_0 (enL enB body5_1) 0)), .v (.c (.d (.sc (.int .i64 at6))))], [.row body5_1.length (rz body5_0 1)])) = (s9_7 b0_0 b0_1 body5_0 body5_1 at6).map (sm en9_7 e9) := by
  simp -implicitDefEqProofs only [s9_7, loopF_eq, c9_8_e, c9_9_e, c9_10_r, (show opsOf c9_10 = _ :: _ from rfl), c9_11_e, c9_12_e, c9_13_l, setA, setB, za, zb, zc, zd, ze, zf, zg, zh, zi, zj, zk, zl, zm, zn, zo, zp, reduceCtorEq, zE, ↓reduceIte]
  exact l9_13_t b0_0 b0_1 body5_0 body5_1 at6 at6
def l9_7 (b0_0 : Bool) (b0_1 : List UInt8) (body5_0 : Bool) (body5_1 : List UInt8) (at6 : Int) : Option R9 := iter (fun x : (Bool × List UInt8 × Bool × List UInt8 × Int) => s9_7 x.1 x.2.1 x.2.2.1 x.2.2.2.1 x.2.2.2.2) (b0_0, b0_1, body5_0, body5_1, at6)
theorem l9_7_t (b0_0 : Bool) (b0_1 : List UInt8) (body5_0 : Bool) (body5_1 : List UInt8) (at6 : Int) : bodyD (E0 mm) [.tmp 2, .tmp 3, .tmp 4] 0 false (blockD 0 (itW (loopF (E0 mm) 9 0 (callW (E0 mm)) itW c9_8 [(0, .keep), (5, .own), (6, .keep)]) (none, [.v (.c (.d (.lst b0_0 (enL enB b0_1)))), .v (.c (.own body5_0 (enL enB body5_1) 0)), .v (.c (.d (.sc (.int .i64 at6))))], [.row body5_1.length (rz body5_0 1)]))) = (l9_7 b0_0 b0_1 body5_0 body5_1 at6).map e9 :=
  it_sim (K := (K9_7 (mm := mm))) rfl (enc := en9_7) (fun x => s9_7_t x.1 x.2.1 x.2.2.1 x.2.2.2.1 x.2.2.2.2) (b0_0, b0_1, body5_0, body5_1, at6)
def m9 (b_0 : Bool) (b_1 : List UInt8) : Option R9 :=
  l9_7 b_0 b_1 true ([] : List UInt8) (0 : Int)
theorem f9_t (b_0 : Bool) (b_1 : List UInt8) :
    callW (E0 mm) 9 [.c (.d (.lst b_0 (enL enB b_1)))] [] = (m9 b_0 b_1).map e9 := by
  rw [callW_run (body := c9_0) (res := [.tmp 2, .tmp 3, .tmp 4]) Tryd.func9 rfl rfl (by kernel_rfl)]
  simp -implicitDefEqProofs only [m9, slots1, c9_0_e, c9_1_r, (show opsOf c9_1 = _ :: _ from rfl), c9_2_e, c9_3_r, (show opsOf c9_3 = _ :: _ from rfl), c9_4_e, c9_5_r, (show opsOf c9_5 = _ :: _ from rfl), c9_6_e, c9_7_l, setA, setB, za, zb, zc, zd, ze, zf, zg, zh, zi, zj, zk, zl, zm, zn, zo, zp, reduceCtorEq, zE, ↓reduceIte]
  exact l9_7_t b_0 b_1 true ([] : List UInt8) (0 : Int)
noncomputable def c10_0 : Code := bodyOf Tryd.f10
def c10_1 := cA c10_0
def c10_2 := cB c10_0
def c10_3 := cA c10_2
def c10_4 := cB c10_2
theorem c10_0_e : c10_0 = .seq c10_1 c10_2 := rfl
theorem c10_1_r : RG (E0 mm) 10 c10_1 := rgN rfl
theorem c10_2_e : c10_2 = .seq c10_3 c10_4 := rfl
theorem c10_3_r : RG (E0 mm) 10 c10_3 := rgN rfl
theorem c10_4_e : c10_4 = .ret := rfl
abbrev R10 := (Bool)
def e10 : R10 → AV × Heap := fun x => (.v (.c (.d (.sc (.bool x)))), [])
def m10 (a_0 : Bool) (a_1 : List UInt8) (b_0 : Bool) (b_1 : List UInt8) : Option R10 :=
  some (a_1 == b_1)
theorem f10_t (a_0 : Bool) (a_1 : List UInt8) (b_0 : Bool) (b_1 : List UInt8) :
    callW (E0 mm) 10 [.c (.d (.lst a_0 (enL enB a_1))), .c (.d (.lst b_0 (enL enB b_1)))] [] = (m10 a_0 a_1 b_0 b_1).map e10 := by
  rw [callW_run (body := c10_0) (res := [.tmp 4]) Tryd.func10 rfl rfl (by kernel_rfl)]
  simp -implicitDefEqProofs only [m10, slots2, c10_0_e, c10_1_r, (show opsOf c10_1 = _ :: _ from rfl), c10_2_e, c10_3_r, (show opsOf c10_3 = _ :: _ from rfl), Tryd.underlying22, Tryd.underlying9, Tryd.underlying5, c10_4_e, setA, setB, za, zb, zc, zd, ze, zf, zg, zh, zi, zj, zk, zl, zm, zn, zo, zp, reduceCtorEq, zE, ↓reduceIte]
  all_goals rfl
abbrev R10a := (Bool × List UInt8)
def e10a : R10a → AV × Heap := fun x => (.v (.c (.d (.sc (.bool x.1)))), [.cells (enC x.2)])
def m10a (a_1 a_2 : Nat) (b_0 : Bool) (b_1 h0 : List UInt8) : Option R10a :=
  if a_1 ≤ h0.length then
    some (((h0.take a_1) == b_1), h0)
  else none
theorem f10a_t (a_1 a_2 : Nat) (b_0 : Bool) (b_1 h0 : List UInt8) :
    callW (E0 mm) 10 [.c (.slc 0 0 1 a_1 (some a_2)), .c (.d (.lst b_0 (enL enB b_1)))] [.cells (enC h0)] = (m10a a_1 a_2 b_0 b_1 h0).map e10a := by
  rw [callW_run (body := c10_0) (res := [.tmp 4]) Tryd.func10 rfl rfl (by kernel_rfl)]
  simp -implicitDefEqProofs only [m10a, slots2, c10_0_e, c10_1_r, (show opsOf c10_1 = _ :: _ from rfl), c10_2_e, c10_3_r, (show opsOf c10_3 = _ :: _ from rfl), Tryd.underlying22, Tryd.underlying9, Tryd.underlying5, enC_length, enC_take, mapM_enC, setA, setB, za, zb, zc, zd, ze, zf, zg, zh, zi, zj, zk, zl, zm, zn, zo, zp, reduceCtorEq, zE, ↓reduceIte]
  refine brP (fun yc1 => ?_) (fun yc1 => ?_)
  · simp -implicitDefEqProofs only [enC_length, enC_take, mapM_enC, (chunk_enD a_1 h0 yc1), Tryd.underlying22, Tryd.underlying9, Tryd.underlying5, c10_4_e, yc1, setA, setB, za, zb, zc, zd, ze, zf, zg, zh, zi, zj, zk, zl, zm, zn, zo, zp, reduceCtorEq, zE, ↓reduceIte]
    all_goals rfl
  · rw [if_neg yc1]; rfl
noncomputable def c3_0 : Code := bodyOf Tryd.f3
def c3_1 := cA c3_0
def c3_2 := cB c3_0
def c3_3 := cA c3_2
def c3_4 := cB c3_2
def c3_5 := cA c3_4
def c3_6 := cB c3_4
def c3_7 := cA c3_6
def c3_8 := cB c3_6
def c3_9 := cA c3_8
def c3_10 := cB c3_8
def c3_11 := cA c3_10
def c3_12 := cA c3_11
def c3_13 := cB c3_11
def c3_14 := cA c3_13
def c3_15 := cA c3_14
def c3_16 := cA c3_15
def c3_17 := cB c3_15
def c3_18 := cA c3_17
def c3_19 := cA c3_18
def c3_20 := cB c3_18
def c3_21 := cB c3_17
def c3_22 := cA c3_21
def c3_23 := cA c3_22
def c3_24 := cA c3_23
def c3_25 := cB c3_23
def c3_26 := cB c3_21
def c3_27 := cB c3_10
def c3_28 := cA c3_27
def c3_29 := cB c3_27
theorem c3_0_e : c3_0 = .seq c3_1 c3_2 := rfl
theorem c3_1_r : RG (E0 mm) 3 c3_1 := rgN rfl
theorem c3_2_e : c3_2 = .seq c3_3 c3_4 := rfl
theorem c3_3_r : RG (E0 mm) 3 c3_3 := rgN rfl
theorem c3_4_e : c3_4 = .seq c3_5 c3_6 := rfl
theorem c3_5_r : RG (E0 mm) 3 c3_5 := rgN rfl
theorem c3_6_e : c3_6 = .seq c3_7 c3_8 := rfl
theorem c3_7_r : RG (E0 mm) 3 c3_7 := rgN rfl
theorem c3_8_e : c3_8 = .seq c3_9 c3_10 := rfl
theorem c3_9_r : RG (E0 mm) 3 c3_9 := rgN rfl
theorem c3_10_e : c3_10 = .seq c3_11 c3_27 := rfl
theorem c3_11_e : c3_11 = .seq c3_12 c3_13 := rfl
theorem c3_12_r : RG (E0 mm) 3 c3_12 := rgN rfl
theorem c3_13_e : c3_13 = .block 0 c3_14 := rfl
theorem c3_14_l (m : Nat) (st : St) : den (E0 mm) 3 m (callW (E0 mm)) itW c3_14 none st = loopD itW (loopF (E0 mm) 3 m (callW (E0 mm)) itW c3_15 [(0, .keep), (3, .keep), (4, .keep), (10, .keep), (41, .keep), (42, .keep)]) (canon m [(0, .keep), (3, .keep), (4, .keep), (10, .keep), (41, .keep), (42, .keep)] st) := rfl
theorem c3_15_e : c3_15 = .seq c3_16 c3_17 := rfl
theorem c3_16_r : RG (E0 mm) 3 c3_16 := rgN rfl
theorem c3_17_e : c3_17 = .seq c3_18 c3_21 := rfl
theorem c3_19_e : c3_19 = .skip := rfl
theorem c3_20_e : c3_20 = .exit 0 := rfl
theorem c3_21_e : c3_21 = .seq c3_22 c3_26 := rfl
theorem c3_22_e : c3_22 = .block 1 c3_23 := rfl
theorem c3_23_e : c3_23 = .seq c3_24 c3_25 := rfl
theorem c3_24_r : RG (E0 mm) 3 c3_24 := rgN rfl
theorem c3_25_r : RG (E0 mm) 3 c3_25 := rgN rfl
theorem c3_26_r : RG (E0 mm) 3 c3_26 := rgN rfl
theorem c3_27_e : c3_27 = .seq c3_28 c3_29 := rfl
theorem c3_28_r : RG (E0 mm) 3 c3_28 := rgN rfl
theorem c3_29_e : c3_29 = .ret := rfl
abbrev R3 := (Bool)
def e3 : R3 → AV × Heap := fun x => (.v (.c (.d (.sc (.bool x)))), [])
def K3_14 : Option (Ex × St) → Option (AV × Heap) := fun r => bodyD (E0 mm) [.tmp 2] 0 false (seqD (E0 mm) 3 0 (callW (E0 mm)) itW c3_27 (blockD 0 (r)))
def en3_14 : (Bool × List UInt8 × Bool × List UInt8 × Bool × Int × Int) → X := fun x => (none, [.v (.c (.d (.lst x.1 (enL enB x.2.1)))), .v (.c (.own x.2.2.1 (enL enB x.2.2.2.1) 0)), .v (.c (.d (.lst true []))), .v (.c (.d (.sc (.bool x.2.2.2.2.1)))), .v (.c (.d (.sc (.int .i64 x.2.2.2.2.2.1)))), .v (.c (.d (.sc (.int .i64 x.2.2.2.2.2.2))))], [.row x.2.2.2.1.length (rz x.2.2.1 1)])
def j3_21 (b0_0 : Bool) (b0_1 : List UInt8) (own3_0 : Bool) (own3_1 : List UInt8) (ok10 : Bool) (t41 t42 : Int) : Option ((Bool × List UInt8 × Bool × List UInt8 × Bool × Int × Int) ⊕ R3) :=
  none
theorem j3_21_t (b0_0 : Bool) (b0_1 : List UInt8) (own3_0 : Bool) (own3_1 : List UInt8) (ok10 : Bool) (t41 t42 : Int)  (sl : Nat → AV) (zq0 : sl 0 = .v (.c (.d (.lst b0_0 (enL enB b0_1))))) (zq3 : sl 3 = .v (.c (.own own3_0 (enL enB own3_1) 0))) (zq4 : sl 4 = .v (.c (.d (.lst true [])))) (zq10 : sl 10 = .v (.c (.d (.sc (.bool ok10))))) (zq41 : sl 41 = .v (.c (.d (.sc (.int .i64 t41))))) (zq42 : sl 42 = .v (.c (.d (.sc (.int .i64 t42))))) :
    stepE (K3_14 (mm := mm)) (loopK 0 [(0, .keep), (3, .keep), (4, .keep), (10, .keep), (41, .keep), (42, .keep)] (den (E0 mm) 3 0 (callW (E0 mm)) itW c3_21 none ⟨sl, [.row own3_1.length (rz own3_0 1)]⟩)) = (j3_21 b0_0 b0_1 own3_0 own3_1 ok10 t41 t42).map (sm en3_14 e3) := by
  simp -implicitDefEqProofs only [j3_21, c3_21_e, c3_22_e, c3_23_e, c3_24_r, (show opsOf c3_24 = _ :: _ from rfl), c3_25_r, (show opsOf c3_25 = _ :: _ from rfl), Tryd.underlying22, sz5, List.length_nil, zq0, zq3, zq4, zq10, zq41, zq42, setA, setB, za, zb, zc, zd, ze, zf, zg, zh, zi, zj, zk, zl, zm, zn, zo, zp, reduceCtorEq, zE, ↓reduceIte]
  first | rfl | (rw [if_neg (by omega)]; rfl)
def j3_27 (b0_0 : Bool) (b0_1 : List UInt8) (own3_0 : Bool) (own3_1 : List UInt8) (ok10 : Bool) : Option R3 :=
  if ok10 = true then
    (m10 own3_0 own3_1 b0_0 b0_1).bind fun yr17 =>
      some yr17
  else
    some false
theorem j3_27_t (b0_0 : Bool) (b0_1 : List UInt8) (own3_0 : Bool) (own3_1 : List UInt8) (ok10 : Bool)  (sl : Nat → AV) (zq0 : sl 0 = .v (.c (.d (.lst b0_0 (enL enB b0_1))))) (zq3 : sl 3 = .v (.c (.own own3_0 (enL enB own3_1) 0))) (zq10 : sl 10 = .v (.c (.d (.sc (.bool ok10))))) :
    bodyD (E0 mm) [.tmp 2] 0 false (den (E0 mm) 3 0 (callW (E0 mm)) itW c3_27 none ⟨sl, [.row own3_1.length (rz own3_0 1)]⟩) = (j3_27 b0_0 b0_1 own3_0 own3_1 ok10).map e3 := by
  simp -implicitDefEqProofs only [j3_27, c3_27_e, c3_28_r, (show opsOf c3_28 = _ :: _ from rfl), ent11, prm11, f11_t, zq0, zq3, zq10, setA, setB, za, zb, zc, zd, ze, zf, zg, zh, zi, zj, zk, zl, zm, zn, zo, zp, reduceCtorEq, zE, ↓reduceIte]
  refine brB (fun yc15 => ?_) (fun yc15 => ?_)
  · simp -implicitDefEqProofs only [ent10, prm10, f10_t, zq0, zq3, zq10, yc15, setA, setB, za, zb, zc, zd, ze, zf, zg, zh, zi, zj, zk, zl, zm, zn, zo, zp, reduceCtorEq, zE, ↓reduceIte]
    refine brM (fun yc16 => ?_) (fun yr17 yc16 => ?_)
    · rw [yc16]; rfl
    · simp -implicitDefEqProofs only [e10, c3_29_e, zq0, zq3, zq10, yc15, yc16, setA, setB, za, zb, zc, zd, ze, zf, zg, zh, zi, zj, zk, zl, zm, zn, zo, zp, reduceCtorEq, zE, ↓reduceIte]
      all_goals rfl
  · simp -implicitDefEqProofs only [c3_29_e, zq0, zq3, zq10, yc15, setA, setB, za, zb, zc, zd, ze, zf, zg, zh, zi, zj, zk, zl, zm, zn, zo, zp, reduceCtorEq, zE, ↓reduceIte]
    all_goals rfl
def s3_14 (b0_0 : Bool) (b0_1 : List UInt8) (own3_0 : Bool) (own3_1 : List UInt8) (ok10 : Bool) (t41 t42 : Int) : Option ((Bool × List UInt8 × Bool × List UInt8 × Bool × Int × Int) ⊕ R3) :=
  if (decide (t42 < t41)) = true then
    j3_21 b0_0 b0_1 own3_0 own3_1 ok10 t41 t42
  else
    (j3_27 b0_0 b0_1 own3_0 own3_1 ok10).map .inr
theorem s3_14_t (b0_0 : Bool) (b0_1 : List UInt8) (own3_0 : Bool) (own3_1 : List UInt8) (ok10 : Bool) (t41 t42 : Int) :
    stepE (K3_14 (mm := mm)) (loopF (E0 mm) 3 0 (callW (E0 mm)) itW c3_15 [(0, .keep), (3, .keep), (4, .keep), (10, .keep), (41, .keep), (42, .keep)] (none, [.v (.c (.d (.lst b0_0 (enL enB b0_1)))), .v (.c (.own own3_0 (enL enB own3_1) 0)), .v (.c (.d (.lst true []))), .v (.c (.d (.sc (.bool ok10)))), .v (.c (.d (.sc (.int .i64 t41)))), .v (.c (.d (.sc (.int .i64 t42))))], [.row own3_1.length (rz own3_0 1)])) = (s3_14 b0_0 b0_1 own3_0 own3_1 ok10 t41 t42).map (sm en3_14 e3) := by
  simp -implicitDefEqProofs only [s3_14, loopF_eq, c3_15_e, c3_16_r, (show opsOf c3_16 = _ :: _ from rfl), c3_17_e, (show c3_18 = Code.cond _ c3_19 c3_20 from rfl), setA, setB, za, zb, zc, zd, ze, zf, zg, zh, zi, zj, zk, zl, zm, zn, zo, zp, reduceCtorEq, zE, ↓reduceIte]
  refine brB (fun yc14 => ?_) (fun yc14 => ?_)
  · simp -implicitDefEqProofs only [c3_19_e, yc14, setA, setB, za, zb, zc, zd, ze, zf, zg, zh, zi, zj, zk, zl, zm, zn, zo, zp, reduceCtorEq, zE, ↓reduceIte]
    exact j3_21_t b0_0 b0_1 own3_0 own3_1 ok10 t41 t42 _ (by rfl) (by rfl) (by rfl) (by rfl) (by rfl) (by rfl)
  · simp -implicitDefEqProofs only [c3_20_e, K3_14, yc14, setA, setB, za, zb, zc, zd, ze, zf, zg, zh, zi, zj, zk, zl, zm, zn, zo, zp, reduceCtorEq, zE, ↓reduceIte]
    exact mi (j3_27_t b0_0 b0_1 own3_0 own3_1 ok10 _ (by rfl) (by rfl) (by rfl))
def l3_14 (b0_0 : Bool) (b0_1 : List UInt8) (own3_0 : Bool) (own3_1 : List UInt8) (ok10 : Bool) (t41 t42 : Int) : Option R3 := iter (fun x : (Bool × List UInt8 × Bool × List UInt8 × Bool × Int × Int) => s3_14 x.1 x.2.1 x.2.2.1 x.2.2.2.1 x.2.2.2.2.1 x.2.2.2.2.2.1 x.2.2.2.2.2.2) (b0_0, b0_1, own3_0, own3_1, ok10, t41, t42)
theorem l3_14_t (b0_0 : Bool) (b0_1 : List UInt8) (own3_0 : Bool) (own3_1 : List UInt8) (ok10 : Bool) (t41 t42 : Int) : bodyD (E0 mm) [.tmp 2] 0 false (seqD (E0 mm) 3 0 (callW (E0 mm)) itW c3_27 (blockD 0 (itW (loopF (E0 mm) 3 0 (callW (E0 mm)) itW c3_15 [(0, .keep), (3, .keep), (4, .keep), (10, .keep), (41, .keep), (42, .keep)]) (none, [.v (.c (.d (.lst b0_0 (enL enB b0_1)))), .v (.c (.own own3_0 (enL enB own3_1) 0)), .v (.c (.d (.lst true []))), .v (.c (.d (.sc (.bool ok10)))), .v (.c (.d (.sc (.int .i64 t41)))), .v (.c (.d (.sc (.int .i64 t42))))], [.row own3_1.length (rz own3_0 1)])))) = (l3_14 b0_0 b0_1 own3_0 own3_1 ok10 t41 t42).map e3 :=
  it_sim (K := (K3_14 (mm := mm))) rfl (enc := en3_14) (fun x => s3_14_t x.1 x.2.1 x.2.2.1 x.2.2.2.1 x.2.2.2.2.1 x.2.2.2.2.2.1 x.2.2.2.2.2.2) (b0_0, b0_1, own3_0, own3_1, ok10, t41, t42)
def j3_10 (b0_0 : Bool) (b0_1 : List UInt8) (own3_0 : Bool) (own3_1 : List UInt8) (ok10 : Bool) : Option R3 :=
  l3_14 b0_0 b0_1 own3_0 own3_1 ok10 (0 : Int) (0 : Int)
theorem j3_10_t (b0_0 : Bool) (b0_1 : List UInt8) (own3_0 : Bool) (own3_1 : List UInt8) (ok10 : Bool)  (sl : Nat → AV) (zq0 : sl 0 = .v (.c (.d (.lst b0_0 (enL enB b0_1))))) (zq3 : sl 3 = .v (.c (.own own3_0 (enL enB own3_1) 0))) (zq4 : sl 4 = .v (.c (.d (.lst true [])))) (zq10 : sl 10 = .v (.c (.d (.sc (.bool ok10))))) :
    bodyD (E0 mm) [.tmp 2] 0 false (den (E0 mm) 3 0 (callW (E0 mm)) itW c3_10 none ⟨sl, [.row own3_1.length (rz own3_0 1)]⟩) = (j3_10 b0_0 b0_1 own3_0 own3_1 ok10).map e3 := by
  simp -implicitDefEqProofs only [j3_10, c3_10_e, c3_11_e, c3_12_r, (show opsOf c3_12 = _ :: _ from rfl), Tryd.underlying22, c3_13_e, c3_14_l, zq0, zq3, zq4, zq10, setA, setB, za, zb, zc, zd, ze, zf, zg, zh, zi, zj, zk, zl, zm, zn, zo, zp, reduceCtorEq, zE, ↓reduceIte]
  exact l3_14_t b0_0 b0_1 own3_0 own3_1 ok10 (0 : Int) (0 : Int)
def j3_10v1 (b0_0 : Bool) (b0_1 : List UInt8) (own3_0 : Bool) (own3_1 : List UInt8) (ok10 : Bool) : Option R3 :=
  l3_14 b0_0 b0_1 own3_0 own3_1 ok10 (0 : Int) (0 : Int)
theorem j3_10v1_t (b0_0 : Bool) (b0_1 : List UInt8) (own3_0 : Bool) (own3_1 : List UInt8) (ok10 : Bool) (g1 : Ob) (sl : Nat → AV) (zq0 : sl 0 = .v (.c (.d (.lst b0_0 (enL enB b0_1))))) (zq3 : sl 3 = .v (.c (.own own3_0 (enL enB own3_1) 0))) (zq4 : sl 4 = .v (.c (.d (.lst true [])))) (zq10 : sl 10 = .v (.c (.d (.sc (.bool ok10))))) :
    bodyD (E0 mm) [.tmp 2] 0 false (den (E0 mm) 3 0 (callW (E0 mm)) itW c3_10 none ⟨sl, [.row own3_1.length (rz own3_0 1), g1]⟩) = (j3_10v1 b0_0 b0_1 own3_0 own3_1 ok10).map e3 := by
  simp -implicitDefEqProofs only [j3_10v1, c3_10_e, c3_11_e, c3_12_r, (show opsOf c3_12 = _ :: _ from rfl), Tryd.underlying22, c3_13_e, c3_14_l, zq0, zq3, zq4, zq10, setA, setB, za, zb, zc, zd, ze, zf, zg, zh, zi, zj, zk, zl, zm, zn, zo, zp, reduceCtorEq, zE, ↓reduceIte]
  exact l3_14_t b0_0 b0_1 own3_0 own3_1 ok10 (0 : Int) (0 : Int)
def K3_14v1 : Option (Ex × St) → Option (AV × Heap) := fun r => bodyD (E0 mm) [.tmp 2] 0 false (seqD (E0 mm) 3 0 (callW (E0 mm)) itW c3_27 (blockD 0 (r)))
def en3_14v1 : (Bool × List UInt8 × Bool × List UInt8 × Nat × Nat × Bool × Int × Int × List UInt8) → X := fun x => (none, [.v (.c (.d (.lst x.1 (enL enB x.2.1)))), .v (.c (.own x.2.2.1 (enL enB x.2.2.2.1) 0)), .v (.c (.slc 1 0 1 x.2.2.2.2.1 (some x.2.2.2.2.2.1))), .v (.c (.d (.sc (.bool x.2.2.2.2.2.2.1)))), .v (.c (.d (.sc (.int .i64 x.2.2.2.2.2.2.2.1)))), .v (.c (.d (.sc (.int .i64 x.2.2.2.2.2.2.2.2.1))))], [.row x.2.2.2.1.length (rz x.2.2.1 1), .cells (enC x.2.2.2.2.2.2.2.2.2)])
def j3_21v1 (b0_0 : Bool) (b0_1 : List UInt8) (own3_0 : Bool) (own3_1 : List UInt8) (x4_1 x4_2 : Nat) (ok10 : Bool) (t41 t42 : Int) (h1 : List UInt8) : Option ((Bool × List UInt8 × Bool × List UInt8 × Nat × Nat × Bool × Int × Int × List UInt8) ⊕ R3) :=
  if 0 ≤ t42 ∧ t42 < (x4_1 : Int) then
    if t42.toNat < h1.length then
      some (.inl (b0_0, b0_1, own3_0, own3_1, x4_1, x4_2, ok10, t41, (w64 (t42 + 1)), (h1.set t42.toNat ((h1.getD t42.toNat 0) ^^^ (255 : UInt8)))))
    else none
  else none
theorem j3_21v1_t (b0_0 : Bool) (b0_1 : List UInt8) (own3_0 : Bool) (own3_1 : List UInt8) (x4_1 x4_2 : Nat) (ok10 : Bool) (t41 t42 : Int) (h1 : List UInt8)  (sl : Nat → AV) (zq0 : sl 0 = .v (.c (.d (.lst b0_0 (enL enB b0_1))))) (zq3 : sl 3 = .v (.c (.own own3_0 (enL enB own3_1) 0))) (zq4 : sl 4 = .v (.c (.slc 1 0 1 x4_1 (some x4_2)))) (zq10 : sl 10 = .v (.c (.d (.sc (.bool ok10))))) (zq41 : sl 41 = .v (.c (.d (.sc (.int .i64 t41))))) (zq42 : sl 42 = .v (.c (.d (.sc (.int .i64 t42))))) :
    stepE (K3_14v1 (mm := mm)) (loopK 0 [(0, .keep), (3, .keep), (4, .keep), (10, .keep), (41, .keep), (42, .keep)] (den (E0 mm) 3 0 (callW (E0 mm)) itW c3_21 none ⟨sl, [.row own3_1.length (rz own3_0 1), .cells (enC h1)]⟩)) = (j3_21v1 b0_0 b0_1 own3_0 own3_1 x4_1 x4_2 ok10 t41 t42 h1).map (sm en3_14v1 e3) := by
  simp -implicitDefEqProofs only [j3_21v1, c3_21_e, c3_22_e, c3_23_e, c3_24_r, (show opsOf c3_24 = _ :: _ from rfl), c3_25_r, (show opsOf c3_25 = _ :: _ from rfl), Tryd.underlying22, sz5, zq0, zq3, zq4, zq10, zq41, zq42, setA, setB, za, zb, zc, zd, ze, zf, zg, zh, zi, zj, zk, zl, zm, zn, zo, zp, reduceCtorEq, zE, ↓reduceIte]
  refine brP (fun yc31 => ?_) (fun yc31 => ?_)
  · have yd32 : t42.toNat < x4_1 := by omega
    simp -implicitDefEqProofs only [sz5, ag5, enC_length, zq0, zq3, zq4, zq10, zq41, zq42, yc31, yd32, setA, setB, za, zb, zc, zd, ze, zf, zg, zh, zi, zj, zk, zl, zm, zn, zo, zp, reduceCtorEq, zE, ↓reduceIte]
    refine brP (fun yc33 => ?_) (fun yc33 => ?_)
    · simp -implicitDefEqProofs only [(enC_load h1 t42.toNat yc33), Tryd.underlying22, sz5, enC_length, enC_wr, c3_26_r, (show opsOf c3_26 = _ :: _ from rfl), zq0, zq3, zq4, zq10, zq41, zq42, yc31, yd32, yc33, setA, setB, za, zb, zc, zd, ze, zf, zg, zh, zi, zj, zk, zl, zm, zn, zo, zp, reduceCtorEq, zE, ↓reduceIte]
      all_goals rfl
    · rw [if_neg yc33]; rfl
  · rw [if_neg yc31]; rfl
def j3_27v1 (b0_0 : Bool) (b0_1 : List UInt8) (own3_0 : Bool) (own3_1 : List UInt8) (ok10 : Bool) : Option R3 :=
  if ok10 = true then
    (m10 own3_0 own3_1 b0_0 b0_1).bind fun yr36 =>
      some yr36
  else
    some false
theorem j3_27v1_t (b0_0 : Bool) (b0_1 : List UInt8) (own3_0 : Bool) (own3_1 : List UInt8) (ok10 : Bool) (g1 : Ob) (sl : Nat → AV) (zq0 : sl 0 = .v (.c (.d (.lst b0_0 (enL enB b0_1))))) (zq3 : sl 3 = .v (.c (.own own3_0 (enL enB own3_1) 0))) (zq10 : sl 10 = .v (.c (.d (.sc (.bool ok10))))) :
    bodyD (E0 mm) [.tmp 2] 0 false (den (E0 mm) 3 0 (callW (E0 mm)) itW c3_27 none ⟨sl, [.row own3_1.length (rz own3_0 1), g1]⟩) = (j3_27v1 b0_0 b0_1 own3_0 own3_1 ok10).map e3 := by
  simp -implicitDefEqProofs only [j3_27v1, c3_27_e, c3_28_r, (show opsOf c3_28 = _ :: _ from rfl), ent11, prm11, f11_t, zq0, zq3, zq10, setA, setB, za, zb, zc, zd, ze, zf, zg, zh, zi, zj, zk, zl, zm, zn, zo, zp, reduceCtorEq, zE, ↓reduceIte]
  refine brB (fun yc34 => ?_) (fun yc34 => ?_)
  · simp -implicitDefEqProofs only [ent10, prm10, f10_t, zq0, zq3, zq10, yc34, setA, setB, za, zb, zc, zd, ze, zf, zg, zh, zi, zj, zk, zl, zm, zn, zo, zp, reduceCtorEq, zE, ↓reduceIte]
    refine brM (fun yc35 => ?_) (fun yr36 yc35 => ?_)
    · rw [yc35]; rfl
    · simp -implicitDefEqProofs only [e10, c3_29_e, zq0, zq3, zq10, yc34, yc35, setA, setB, za, zb, zc, zd, ze, zf, zg, zh, zi, zj, zk, zl, zm, zn, zo, zp, reduceCtorEq, zE, ↓reduceIte]
      all_goals rfl
  · simp -implicitDefEqProofs only [c3_29_e, zq0, zq3, zq10, yc34, setA, setB, za, zb, zc, zd, ze, zf, zg, zh, zi, zj, zk, zl, zm, zn, zo, zp, reduceCtorEq, zE, ↓reduceIte]
    all_goals rfl
def s3_14v1 (b0_0 : Bool) (b0_1 : List UInt8) (own3_0 : Bool) (own3_1 : List UInt8) (x4_1 x4_2 : Nat) (ok10 : Bool) (t41 t42 : Int) (h1 : List UInt8) : Option ((Bool × List UInt8 × Bool × List UInt8 × Nat × Nat × Bool × Int × Int × List UInt8) ⊕ R3) :=
  if (decide (t42 < t41)) = true then
    j3_21v1 b0_0 b0_1 own3_0 own3_1 x4_1 x4_2 ok10 t41 t42 h1
  else
    (j3_27v1 b0_0 b0_1 own3_0 own3_1 ok10).map .inr
theorem s3_14v1_t (b0_0 : Bool) (b0_1 : List UInt8) (own3_0 : Bool) (own3_1 : List UInt8) (x4_1 x4_2 : Nat) (ok10 : Bool) (t41 t42 : Int) (h1 : List UInt8) :
    stepE (K3_14v1 (mm := mm)) (loopF (E0 mm) 3 0 (callW (E0 mm)) itW c3_15 [(0, .keep), (3, .keep), (4, .keep), (10, .keep), (41, .keep), (42, .keep)] (none, [.v (.c (.d (.lst b0_0 (enL enB b0_1)))), .v (.c (.own own3_0 (enL enB own3_1) 0)), .v (.c (.slc 1 0 1 x4_1 (some x4_2))), .v (.c (.d (.sc (.bool ok10)))), .v (.c (.d (.sc (.int .i64 t41)))), .v (.c (.d (.sc (.int .i64 t42))))], [.row own3_1.length (rz own3_0 1), .cells (enC h1)])) = (s3_14v1 b0_0 b0_1 own3_0 own3_1 x4_1 x4_2 ok10 t41 t42 h1).map (sm en3_14v1 e3) := by
  simp -implicitDefEqProofs only [s3_14v1, loopF_eq, c3_15_e, c3_16_r, (show opsOf c3_16 = _ :: _ from rfl), c3_17_e, (show c3_18 = Code.cond _ c3_19 c3_20 from rfl), setA, setB, za, zb, zc, zd, ze, zf, zg, zh, zi, zj, zk, zl, zm, zn, zo, zp, reduceCtorEq, zE, ↓reduceIte]
  refine brB (fun yc30 => ?_) (fun yc30 => ?_)
  · simp -implicitDefEqProofs only [c3_19_e, yc30, setA, setB, za, zb, zc, zd, ze, zf, zg, zh, zi, zj, zk, zl, zm, zn, zo, zp, reduceCtorEq, zE, ↓reduceIte]
    exact j3_21v1_t b0_0 b0_1 own3_0 own3_1 x4_1 x4_2 ok10 t41 t42 h1 _ (by rfl) (by rfl) (by rfl) (by rfl) (by rfl) (by rfl)
  · simp -implicitDefEqProofs only [c3_20_e, K3_14v1, yc30, setA, setB, za, zb, zc, zd, ze, zf, zg, zh, zi, zj, zk, zl, zm, zn, zo, zp, reduceCtorEq, zE, ↓reduceIte]
    exact mi (j3_27v1_t b0_0 b0_1 own3_0 own3_1 ok10 _ _ (by rfl) (by rfl) (by rfl))
def l3_14v1 (b0_0 : Bool) (b0_1 : List UInt8) (own3_0 : Bool) (own3_1 : List UInt8) (x4_1 x4_2 : Nat) (ok10 : Bool) (t41 t42 : Int) (h1 : List UInt8) : Option R3 := iter (fun x : (Bool × List UInt8 × Bool × List UInt8 × Nat × Nat × Bool × Int × Int × List UInt8) => s3_14v1 x.1 x.2.1 x.2.2.1 x.2.2.2.1 x.2.2.2.2.1 x.2.2.2.2.2.1 x.2.2.2.2.2.2.1 x.2.2.2.2.2.2.2.1 x.2.2.2.2.2.2.2.2.1 x.2.2.2.2.2.2.2.2.2) (b0_0, b0_1, own3_0, own3_1, x4_1, x4_2, ok10, t41, t42, h1)
theorem l3_14v1_t (b0_0 : Bool) (b0_1 : List UInt8) (own3_0 : Bool) (own3_1 : List UInt8) (x4_1 x4_2 : Nat) (ok10 : Bool) (t41 t42 : Int) (h1 : List UInt8) : bodyD (E0 mm) [.tmp 2] 0 false (seqD (E0 mm) 3 0 (callW (E0 mm)) itW c3_27 (blockD 0 (itW (loopF (E0 mm) 3 0 (callW (E0 mm)) itW c3_15 [(0, .keep), (3, .keep), (4, .keep), (10, .keep), (41, .keep), (42, .keep)]) (none, [.v (.c (.d (.lst b0_0 (enL enB b0_1)))), .v (.c (.own own3_0 (enL enB own3_1) 0)), .v (.c (.slc 1 0 1 x4_1 (some x4_2))), .v (.c (.d (.sc (.bool ok10)))), .v (.c (.d (.sc (.int .i64 t41)))), .v (.c (.d (.sc (.int .i64 t42))))], [.row own3_1.length (rz own3_0 1), .cells (enC h1)])))) = (l3_14v1 b0_0 b0_1 own3_0 own3_1 x4_1 x4_2 ok10 t41 t42 h1).map e3 :=
  it_sim (K := (K3_14v1 (mm := mm))) rfl (enc := en3_14v1) (fun x => s3_14v1_t x.1 x.2.1 x.2.2.1 x.2.2.2.1 x.2.2.2.2.1 x.2.2.2.2.2.1 x.2.2.2.2.2.2.1 x.2.2.2.2.2.2.2.1 x.2.2.2.2.2.2.2.2.1 x.2.2.2.2.2.2.2.2.2) (b0_0, b0_1, own3_0, own3_1, x4_1, x4_2, ok10, t41, t42, h1)
def j3_10v2 (b0_0 : Bool) (b0_1 : List UInt8) (own3_0 : Bool) (own3_1 : List UInt8) (x4_1 x4_2 : Nat) (ok10 : Bool) (h1 : List UInt8) : Option R3 :=
  l3_14v1 b0_0 b0_1 own3_0 own3_1 x4_1 x4_2 ok10 (x4_1 : Int) (0 : Int) h1
theorem j3_10v2_t (b0_0 : Bool) (b0_1 : List UInt8) (own3_0 : Bool) (own3_1 : List UInt8) (x4_1 x4_2 : Nat) (ok10 : Bool) (h1 : List UInt8)  (sl : Nat → AV) (zq0 : sl 0 = .v (.c (.d (.lst b0_0 (enL enB b0_1))))) (zq3 : sl 3 = .v (.c (.own own3_0 (enL enB own3_1) 0))) (zq4 : sl 4 = .v (.c (.slc 1 0 1 x4_1 (some x4_2)))) (zq10 : sl 10 = .v (.c (.d (.sc (.bool ok10))))) :
    bodyD (E0 mm) [.tmp 2] 0 false (den (E0 mm) 3 0 (callW (E0 mm)) itW c3_10 none ⟨sl, [.row own3_1.length (rz own3_0 1), .cells (enC h1)]⟩) = (j3_10v2 b0_0 b0_1 own3_0 own3_1 x4_1 x4_2 ok10 h1).map e3 := by
  simp -implicitDefEqProofs only [j3_10v2, c3_10_e, c3_11_e, c3_12_r, (show opsOf c3_12 = _ :: _ from rfl), Tryd.underlying22, c3_13_e, c3_14_l, zq0, zq3, zq4, zq10, setA, setB, za, zb, zc, zd, ze, zf, zg, zh, zi, zj, zk, zl, zm, zn, zo, zp, reduceCtorEq, zE, ↓reduceIte]
  exact l3_14v1_t b0_0 b0_1 own3_0 own3_1 x4_1 x4_2 ok10 (x4_1 : Int) (0 : Int) h1
def j3_10v3 (b0_0 : Bool) (b0_1 : List UInt8) (own3_0 : Bool) (own3_1 : List UInt8) (x4_1 x4_2 : Nat) (ok10 : Bool) (h1 : List UInt8) : Option R3 :=
  l3_14v1 b0_0 b0_1 own3_0 own3_1 x4_1 x4_2 ok10 (x4_1 : Int) (0 : Int) h1
theorem j3_10v3_t (b0_0 : Bool) (b0_1 : List UInt8) (own3_0 : Bool) (own3_1 : List UInt8) (x4_1 x4_2 : Nat) (ok10 : Bool) (h1 : List UInt8) (g2 : Ob) (sl : Nat → AV) (zq0 : sl 0 = .v (.c (.d (.lst b0_0 (enL enB b0_1))))) (zq3 : sl 3 = .v (.c (.own own3_0 (enL enB own3_1) 0))) (zq4 : sl 4 = .v (.c (.slc 1 0 1 x4_1 (some x4_2)))) (zq10 : sl 10 = .v (.c (.d (.sc (.bool ok10))))) :
    bodyD (E0 mm) [.tmp 2] 0 false (den (E0 mm) 3 0 (callW (E0 mm)) itW c3_10 none ⟨sl, [.row own3_1.length (rz own3_0 1), .cells (enC h1), g2]⟩) = (j3_10v3 b0_0 b0_1 own3_0 own3_1 x4_1 x4_2 ok10 h1).map e3 := by
  simp -implicitDefEqProofs only [j3_10v3, c3_10_e, c3_11_e, c3_12_r, (show opsOf c3_12 = _ :: _ from rfl), Tryd.underlying22, c3_13_e, c3_14_l, zq0, zq3, zq4, zq10, setA, setB, za, zb, zc, zd, ze, zf, zg, zh, zi, zj, zk, zl, zm, zn, zo, zp, reduceCtorEq, zE, ↓reduceIte]
  exact l3_14v1_t b0_0 b0_1 own3_0 own3_1 x4_1 x4_2 ok10 (x4_1 : Int) (0 : Int) h1
def m3 (b_0 : Bool) (b_1 : List UInt8) : Option R3 :=
  if b_1 = [] ∨ (0 + b_1.length) * 1 ≤ 140737488355328 then
    (m8 false b_1).bind fun yr3 =>
      match yr3 with
      | .inl yr4 =>
        (m9 b_0 b_1).bind fun yr7 =>
          match yr7 with
          | .inl yr8 =>
            if (yr4.2 == yr8.2.2.2) = true then
              if (yr4.1 == yr8.2.2.1) = true then
                (m10 true ([] : List UInt8) yr8.1 yr8.2.1).bind fun yr13 =>
                  j3_10 b_0 b_1 false b_1 yr13
              else
                j3_10 b_0 b_1 false b_1 false
            else
              j3_10 b_0 b_1 false b_1 false
          | .inr yr9 =>
            if (yr4.2 == yr9.2.2.2) = true then
              if (yr4.1 == yr9.2.2.1) = true then
                (m10 true ([] : List UInt8) yr9.1 yr9.2.1).bind fun yr21 =>
                  j3_10v1 b_0 b_1 false b_1 yr21
              else
                j3_10v1 b_0 b_1 false b_1 false
            else
              j3_10v1 b_0 b_1 false b_1 false
      | .inr yr5 =>
        (m9 b_0 b_1).bind fun yr23 =>
          match yr23 with
          | .inl yr24 =>
            if (yr5.2.2.2.1 == yr24.2.2.2) = true then
              if (yr5.2.2.1 == yr24.2.2.1) = true then
                (m10a yr5.1 yr5.2.1 yr24.1 yr24.2.1 yr5.2.2.2.2).bind fun yr29 =>
                  j3_10v2 b_0 b_1 false b_1 yr5.1 yr5.2.1 yr29.1 yr29.2
              else
                j3_10v2 b_0 b_1 false b_1 yr5.1 yr5.2.1 false yr5.2.2.2.2
            else
              j3_10v2 b_0 b_1 false b_1 yr5.1 yr5.2.1 false yr5.2.2.2.2
          | .inr yr25 =>
            if (yr5.2.2.2.1 == yr25.2.2.2) = true then
              if (yr5.2.2.1 == yr25.2.2.1) = true then
                (m10a yr5.1 yr5.2.1 yr25.1 yr25.2.1 yr5.2.2.2.2).bind fun yr40 =>
                  j3_10v3 b_0 b_1 false b_1 yr5.1 yr5.2.1 yr40.1 yr40.2
              else
                j3_10v3 b_0 b_1 false b_1 yr5.1 yr5.2.1 false yr5.2.2.2.2
            else
              j3_10v3 b_0 b_1 false b_1 yr5.1 yr5.2.1 false yr5.2.2.2.2
  else none
theorem f3_t (b_0 : Bool) (b_1 : List UInt8) :
    callW (E0 mm) 3 [.c (.d (.lst b_0 (enL enB b_1)))] [] = (m3 b_0 b_1).map e3 := by
  rw [callW_run (body := c3_0) (res := [.tmp 2]) Tryd.func3 rfl rfl (by kernel_rfl)]
  simp -implicitDefEqProofs only [m3, slots1, c3_0_e, c3_1_r, (show opsOf c3_1 = _ :: _ from rfl), c3_2_e, c3_3_r, (show opsOf c3_3 = _ :: _ from rfl), Tryd.underlying22, sz5, zc5, hd0, nv1, rw2, ns3, ap22, setA, setB, za, zb, zc, zd, ze, zf, zg, zh, zi, zj, zk, zl, zm, zn, zo, zp, reduceCtorEq, zE, ↓reduceIte]
  refine brP (fun yc1 => ?_) (fun yc1 => ?_)
  · simp -implicitDefEqProofs only [c3_4_e, c3_5_r, (show opsOf c3_5 = _ :: _ from rfl), ent8, prm8, (show callW (E0 mm) 8 [.c (.d (.lst false (enL enB b_1)))] [] = _ from f8_t false b_1), yc1, setA, setB, za, zb, zc, zd, ze, zf, zg, zh, zi, zj, zk, zl, zm, zn, zo, zp, reduceCtorEq, zE, ↓reduceIte]
    refine brM (fun yc2 => ?_) (fun yr3 yc2 => ?_)
    · rw [yc2]; rfl
    · rcases yr3 with yr4 | yr5
      · simp -implicitDefEqProofs only [e8, c3_6_e, c3_7_r, (show opsOf c3_7 = _ :: _ from rfl), ent9, prm9, f9_t, yc1, yc2, setA, setB, za, zb, zc, zd, ze, zf, zg, zh, zi, zj, zk, zl, zm, zn, zo, zp, reduceCtorEq, zE, ↓reduceIte]
        refine brM (fun yc6 => ?_) (fun yr7 yc6 => ?_)
        · rw [yc6]; rfl
        · rcases yr7 with yr8 | yr9
          · simp -implicitDefEqProofs only [e9, c3_8_e, c3_9_r, (show opsOf c3_9 = _ :: _ from rfl), yc1, yc2, yc6, setA, setB, za, zb, zc, zd, ze, zf, zg, zh, zi, zj, zk, zl, zm, zn, zo, zp, reduceCtorEq, zE, ↓reduceIte]
            refine brB (fun yc10 => ?_) (fun yc10 => ?_)
            · simp -implicitDefEqProofs only [yc1, yc2, yc6, yc10, setA, setB, za, zb, zc, zd, ze, zf, zg, zh, zi, zj, zk, zl, zm, zn, zo, zp, reduceCtorEq, zE, ↓reduceIte]
              refine brB (fun yc11 => ?_) (fun yc11 => ?_)
              · simp -implicitDefEqProofs only [ent10, prm10, (show callW (E0 mm) 10 [.c (.d (.lst true [])), .c (.d (.lst yr8.1 (enL enB yr8.2.1)))] [] = _ from f10_t true ([] : List UInt8) yr8.1 yr8.2.1), yc1, yc2, yc6, yc10, yc11, setA, setB, za, zb, zc, zd, ze, zf, zg, zh, zi, zj, zk, zl, zm, zn, zo, zp, reduceCtorEq, zE, ↓reduceIte]
                refine brM (fun yc12 => ?_) (fun yr13 yc12 => ?_)
                · rw [yc12]; rfl
                · simp -implicitDefEqProofs only [e10, yc1, yc2, yc6, yc10, yc11, yc12, setA, setB, za, zb, zc, zd, ze, zf, zg, zh, zi, zj, zk, zl, zm, zn, zo, zp, reduceCtorEq, zE, ↓reduceIte]
                  exact j3_10_t b_0 b_1 false b_1 yr13 _ (by rfl) (by rfl) (by rfl) (by rfl)
              · simp -implicitDefEqProofs only [yc1, yc2, yc6, yc10, yc11, setA, setB, za, zb, zc, zd, ze, zf, zg, zh, zi, zj, zk, zl, zm, zn, zo, zp, reduceCtorEq, zE, ↓reduceIte]
                exact j3_10_t b_0 b_1 false b_1 false _ (by rfl) (by rfl) (by rfl) (by rfl)
            · simp -implicitDefEqProofs only [yc1, yc2, yc6, yc10, setA, setB, za, zb, zc, zd, ze, zf, zg, zh, zi, zj, zk, zl, zm, zn, zo, zp, reduceCtorEq, zE, ↓reduceIte]
              exact j3_10_t b_0 b_1 false b_1 false _ (by rfl) (by rfl) (by rfl) (by rfl)
          · simp -implicitDefEqProofs only [e9, c3_8_e, c3_9_r, (show opsOf c3_9 = _ :: _ from rfl), yc1, yc2, yc6, setA, setB, za, zb, zc, zd, ze, zf, zg, zh, zi, zj, zk, zl, zm, zn, zo, zp, reduceCtorEq, zE, ↓reduceIte]
            refine brB (fun yc18 => ?_) (fun yc18 => ?_)
            · simp -implicitDefEqProofs only [yc1, yc2, yc6, yc18, setA, setB, za, zb, zc, zd, ze, zf, zg, zh, zi, zj, zk, zl, zm, zn, zo, zp, reduceCtorEq, zE, ↓reduceIte]
              refine brB (fun yc19 => ?_) (fun yc19 => ?_)
              · simp -implicitDefEqProofs only [ent10, prm10, (show callW (E0 mm) 10 [.c (.d (.lst true [])), .c (.d (.lst yr9.1 (enL enB yr9.2.1)))] [] = _ from f10_t true ([] : List UInt8) yr9.1 yr9.2.1), yc1, yc2, yc6, yc18, yc19, setA, setB, za, zb, zc, zd, ze, zf, zg, zh, zi, zj, zk, zl, zm, zn, zo, zp, reduceCtorEq, zE, ↓reduceIte]
                refine brM (fun yc20 => ?_) (fun yr21 yc20 => ?_)
                · rw [yc20]; rfl
                · simp -implicitDefEqProofs only [e10, yc1, yc2, yc6, yc18, yc19, yc20, setA, setB, za, zb, zc, zd, ze, zf, zg, zh, zi, zj, zk, zl, zm, zn, zo, zp, reduceCtorEq, zE, ↓reduceIte]
                  exact j3_10v1_t b_0 b_1 false b_1 yr21 _ _ (by rfl) (by rfl) (by rfl) (by rfl)
              · simp -implicitDefEqProofs only [yc1, yc2, yc6, yc18, yc19, setA, setB, za, zb, zc, zd, ze, zf, zg, zh, zi, zj, zk, zl, zm, zn, zo, zp, reduceCtorEq, zE, ↓reduceIte]
                exact j3_10v1_t b_0 b_1 false b_1 false _ _ (by rfl) (by rfl) (by rfl) (by rfl)
            · simp -implicitDefEqProofs only [yc1, yc2, yc6, yc18, setA, setB, za, zb, zc, zd, ze, zf, zg, zh, zi, zj, zk, zl, zm, zn, zo, zp, reduceCtorEq, zE, ↓reduceIte]
              exact j3_10v1_t b_0 b_1 false b_1 false _ _ (by rfl) (by rfl) (by rfl) (by rfl)
      · simp -implicitDefEqProofs only [e8, c3_6_e, c3_7_r, (show opsOf c3_7 = _ :: _ from rfl), ent9, prm9, f9_t, yc1, yc2, setA, setB, za, zb, zc, zd, ze, zf, zg, zh, zi, zj, zk, zl, zm, zn, zo, zp, reduceCtorEq, zE, ↓reduceIte]
        refine brM (fun yc22 => ?_) (fun yr23 yc22 => ?_)
        · rw [yc22]; rfl
        · rcases yr23 with yr24 | yr25
          · simp -implicitDefEqProofs only [e9, c3_8_e, c3_9_r, (show opsOf c3_9 = _ :: _ from rfl), yc1, yc2, yc22, setA, setB, za, zb, zc, zd, ze, zf, zg, zh, zi, zj, zk, zl, zm, zn, zo, zp, reduceCtorEq, zE, ↓reduceIte]
            refine brB (fun yc26 => ?_) (fun yc26 => ?_)
            · simp -implicitDefEqProofs only [yc1, yc2, yc22, yc26, setA, setB, za, zb, zc, zd, ze, zf, zg, zh, zi, zj, zk, zl, zm, zn, zo, zp, reduceCtorEq, zE, ↓reduceIte]
              refine brB (fun yc27 => ?_) (fun yc27 => ?_)
              · simp -implicitDefEqProofs only [ent10, prm10, f10a_t, yc1, yc2, yc22, yc26, yc27, setA, setB, za, zb, zc, zd, ze, zf, zg, zh, zi, zj, zk, zl, zm, zn, zo, zp, reduceCtorEq, zE, ↓reduceIte]
                refine brM (fun yc28 => ?_) (fun yr29 yc28 => ?_)
                · rw [yc28]; rfl
                · simp -implicitDefEqProofs only [e10a, yc1, yc2, yc22, yc26, yc27, yc28, setA, setB, za, zb, zc, zd, ze, zf, zg, zh, zi, zj, zk, zl, zm, zn, zo, zp, reduceCtorEq, zE, ↓reduceIte]
                  exact j3_10v2_t b_0 b_1 false b_1 yr5.1 yr5.2.1 yr29.1 yr29.2 _ (by rfl) (by rfl) (by rfl) (by rfl)
              · simp -implicitDefEqProofs only [yc1, yc2, yc22, yc26, yc27, setA, setB, za, zb, zc, zd, ze, zf, zg, zh, zi, zj, zk, zl, zm, zn, zo, zp, reduceCtorEq, zE, ↓reduceIte]
                exact j3_10v2_t b_0 b_1 false b_1 yr5.1 yr5.2.1 false yr5.2.2.2.2 _ (by rfl) (by rfl) (by rfl) (by rfl)
            · simp -implicitDefEqProofs only [yc1, yc2, yc22, yc26, setA, setB, za, zb, zc, zd, ze, zf, zg, zh, zi, zj, zk, zl, zm, zn, zo, zp, reduceCtorEq, zE, ↓reduceIte]
              exact j3_10v2_t b_0 b_1 false b_1 yr5.1 yr5.2.1 false yr5.2.2.2.2 _ (by rfl) (by rfl) (by rfl) (by rfl)
          · simp -implicitDefEqProofs only [e9, c3_8_e, c3_9_r, (show opsOf c3_9 = _ :: _ from rfl), yc1, yc2, yc22, setA, setB, za, zb, zc, zd, ze, zf, zg, zh, zi, zj, zk, zl, zm, zn, zo, zp, reduceCtorEq, zE, ↓reduceIte]
            refine brB (fun yc37 => ?_) (fun yc37 => ?_)
            · simp -implicitDefEqProofs only [yc1, yc2, yc22, yc37, setA, setB, za, zb, zc, zd, ze, zf, zg, zh, zi, zj, zk, zl, zm, zn, zo, zp, reduceCtorEq, zE, ↓reduceIte]
              refine brB (fun yc38 => ?_) (fun yc38 => ?_)
              · simp -implicitDefEqProofs only [ent10, prm10, f10a_t, yc1, yc2, yc22, yc37, yc38, setA, setB, za, zb, zc, zd, ze, zf, zg, zh, zi, zj, zk, zl, zm, zn, zo, zp, reduceCtorEq, zE, ↓reduceIte]
                refine brM (fun yc39 => ?_) (fun yr40 yc39 => ?_)
                · rw [yc39]; rfl
                · simp -implicitDefEqProofs only [e10a, yc1, yc2, yc22, yc37, yc38, yc39, setA, setB, za, zb, zc, zd, ze, zf, zg, zh, zi, zj, zk, zl, zm, zn, zo, zp, reduceCtorEq, zE, ↓reduceIte]
                  exact j3_10v3_t b_0 b_1 false b_1 yr5.1 yr5.2.1 yr40.1 yr40.2 _ _ (by rfl) (by rfl) (by rfl) (by rfl)
              · simp -implicitDefEqProofs only [yc1, yc2, yc22, yc37, yc38, setA, setB, za, zb, zc, zd, ze, zf, zg, zh, zi, zj, zk, zl, zm, zn, zo, zp, reduceCtorEq, zE, ↓reduceIte]
                exact j3_10v3_t b_0 b_1 false b_1 yr5.1 yr5.2.1 false yr5.2.2.2.2 _ _ (by rfl) (by rfl) (by rfl) (by rfl)
            · simp -implicitDefEqProofs only [yc1, yc2, yc22, yc37, setA, setB, za, zb, zc, zd, ze, zf, zg, zh, zi, zj, zk, zl, zm, zn, zo, zp, reduceCtorEq, zE, ↓reduceIte]
              exact j3_10v3_t b_0 b_1 false b_1 yr5.1 yr5.2.1 false yr5.2.2.2.2 _ _ (by rfl) (by rfl) (by rfl) (by rfl)
  · rw [if_neg yc1]; rfl
end
end Go.Proofs.YtaohepmbkepmiaaDoor
