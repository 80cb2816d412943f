/- The Go functions as plain functions, and that the evaluator computes them. -/
import Derived.Test.YtaohepmbkepmiaaDoorFBack3
set_option linter.all false
set_option maxRecDepth 100000
namespace Go.Proofs.YtaohepmbkepmiaaDoor
open Go Go.Ab
open Nat renaming reduceEqDiff → za, reduceAdd → zb, reduceLeDiff → zc, reduceLT → zd, reduceMul → ze, reduceBEq → zf, reduceSub → zg, reducePow → zh
open Int renaming reduceEq → zi, reduceLE → zj, reduceLT → zk, reduceToNat → zl, reduceNegSucc → zm, reduceAdd → zn, reduceBEq → zo
open String renaming reduceBEq → zp
set_option maxHeartbeats 4000000
noncomputable section
variable {mm : Int}
noncomputable def c8_0 : Code := bodyOf Tryd.f8
def c8_1 := cA c8_0
def c8_2 := cB c8_0
def c8_3 := cA c8_2
def c8_4 := cA c8_3
def c8_5 := cB c8_3
def c8_6 := cA c8_5
def c8_7 := cB c8_5
def c8_8 := cA c8_7
def c8_9 := cB c8_7
def c8_10 := cA c8_9
def c8_11 := cB c8_9
def c8_12 := cA c8_11
def c8_13 := cB c8_11
def c8_14 := cA c8_13
def c8_15 := cB c8_13
def c8_16 := cA c8_15
def c8_17 := cA c8_16
def c8_18 := cB c8_16
def c8_19 := cA c8_18
def c8_20 := cB c8_18
def c8_21 := cA c8_20
def c8_22 := cA c8_21
def c8_23 := cB c8_21
def c8_24 := cA c8_23
def c8_25 := cA c8_24
def c8_26 := cB c8_24
def c8_27 := cB c8_23
def c8_28 := cB c8_20
def c8_29 := cA c8_28
def c8_30 := cA c8_29
def c8_31 := cB c8_29
def c8_32 := cA c8_31
def c8_33 := cA c8_32
def c8_34 := cB c8_32
def c8_35 := cB c8_31
def c8_36 := cB c8_28
def c8_37 := cA c8_36
def c8_38 := cB c8_36
def c8_39 := cA c8_38
def c8_40 := cB c8_38
def c8_41 := cA c8_40
def c8_42 := cB c8_40
def c8_43 := cA c8_42
def c8_44 := cA c8_43
def c8_45 := cB c8_43
def c8_46 := cB c8_42
def c8_47 := cB c8_15
def c8_48 := cA c8_47
def c8_49 := cA c8_48
def c8_50 := cB c8_48
def c8_51 := cA c8_50
def c8_52 := cB c8_50
def c8_53 := cA c8_52
def c8_54 := cB c8_52
def c8_55 := cB c8_47
def c8_56 := cA c8_55
def c8_57 := cA c8_56
def c8_58 := cB c8_56
def c8_59 := cA c8_58
def c8_60 := cA c8_59
def c8_61 := cB c8_59
def c8_62 := cB c8_58
def c8_63 := cB c8_55
def c8_64 := cA c8_63
def c8_65 := cA c8_64
def c8_66 := cB c8_64
def c8_67 := cA c8_66
def c8_68 := cB c8_66
def c8_69 := cB c8_63
def c8_70 := cA c8_69
def c8_71 := cA c8_70
def c8_72 := cB c8_70
def c8_73 := cA c8_72
def c8_74 := cA c8_73
def c8_75 := cB c8_73
def c8_76 := cB c8_72
def c8_77 := cB c8_69
def c8_78 := cA c8_77
def c8_79 := cA c8_78
def c8_80 := cB c8_78
def c8_81 := cA c8_80
def c8_82 := cB c8_80
def c8_83 := cB c8_77
def c8_84 := cA c8_83
def c8_85 := cA c8_84
def c8_86 := cB c8_84
def c8_87 := cA c8_86
def c8_88 := cA c8_87
def c8_89 := cB c8_87
def c8_90 := cB c8_86
def c8_91 := cB c8_83
def c8_92 := cA c8_91
def c8_93 := cB c8_91
def c8_94 := cA c8_93
def c8_95 := cB c8_93
def c8_96 := cA c8_95
def c8_97 := cB c8_95
def c8_98 := cA c8_97
def c8_99 := cA c8_98
def c8_100 := cB c8_98
def c8_101 := cA c8_100
def c8_102 := cA c8_101
def c8_103 := cB c8_101
def c8_104 := cA c8_103
def c8_105 := cA c8_104
def c8_106 := cB c8_104
def c8_107 := cB c8_103
def c8_108 := cB c8_100
def c8_109 := cA c8_108
def c8_110 := cB c8_108
def c8_111 := cB c8_97
def c8_112 := cA c8_111
def c8_113 := cB c8_111
def c8_114 := cA c8_113
def c8_115 := cB c8_113
theorem c8_0_e : c8_0 = .seq c8_1 c8_2 := rfl
theorem c8_1_r : RG (E0 mm) 8 c8_1 := rgN rfl
theorem c8_2_l (m : Nat) (st : St) : den (E0 mm) 8 m (callW (E0 mm)) itW c8_2 none st = loopD itW (scopeF (E0 mm) 8 m (callW (E0 mm)) itW c8_3 [(0, .keep), (5, .keep), (6, .keep), (9, .keep)]) (canon m [(0, .keep), (5, .keep), (6, .keep), (9, .keep)] st) := rfl
theorem c8_4_r : RG (E0 mm) 8 c8_4 := rgN rfl
theorem c8_5_e : c8_5 = .seq c8_6 c8_7 := rfl
theorem c8_6_r : RG (E0 mm) 8 c8_6 := rgN rfl
theorem c8_7_e : c8_7 = .seq c8_8 c8_9 := rfl
theorem c8_8_r : RG (E0 mm) 8 c8_8 := rgN rfl
theorem c8_9_e : c8_9 = .seq c8_10 c8_11 := rfl
theorem c8_10_r : RG (E0 mm) 8 c8_10 := rgN rfl
theorem c8_11_e : c8_11 = .seq c8_12 c8_13 := rfl
theorem c8_12_r : RG (E0 mm) 8 c8_12 := rgN rfl
theorem c8_13_e : c8_13 = .seq c8_14 c8_15 := rfl
theorem c8_14_e : c8_14 = .label 1 := rfl
theorem c8_15_e : c8_15 = .seq c8_16 c8_47 := rfl
theorem c8_16_e : c8_16 = .seq c8_17 c8_18 := rfl
theorem c8_17_r : RG (E0 mm) 8 c8_17 := rgN rfl
theorem c8_18_e : c8_18 = .seq c8_19 c8_20 := rfl
theorem c8_19_r : RG (E0 mm) 8 c8_19 := rgN rfl
theorem c8_20_e : c8_20 = .seq c8_21 c8_28 := rfl
theorem c8_21_e : c8_21 = .seq c8_22 c8_23 := rfl
theorem c8_22_r : RG (E0 mm) 8 c8_22 := rgN rfl
theorem c8_24_e : c8_24 = .seq c8_25 c8_26 := rfl
theorem c8_25_r : RG (E0 mm) 8 c8_25 := rgN rfl
theorem c8_26_e : c8_26 = .goto 0 := rfl
theorem c8_27_e : c8_27 = .skip := rfl
theorem c8_28_e : c8_28 = .seq c8_29 c8_36 := rfl
theorem c8_29_e : c8_29 = .seq c8_30 c8_31 := rfl
theorem c8_30_r : RG (E0 mm) 8 c8_30 := rgN rfl
theorem c8_32_e : c8_32 = .seq c8_33 c8_34 := rfl
theorem c8_33_r : RG (E0 mm) 8 c8_33 := rgN rfl
theorem c8_34_e : c8_34 = .goto 0 := rfl
theorem c8_35_e : c8_35 = .skip := rfl
theorem c8_36_e : c8_36 = .seq c8_37 c8_38 := rfl
theorem c8_37_r : RG (E0 mm) 8 c8_37 := rgN rfl
theorem c8_38_e : c8_38 = .seq c8_39 c8_40 := rfl
theorem c8_39_r : RG (E0 mm) 8 c8_39 := rgN rfl
theorem c8_40_e : c8_40 = .seq c8_41 c8_42 := rfl
theorem c8_41_r : RG (E0 mm) 8 c8_41 := rgN rfl
theorem c8_43_e : c8_43 = .seq c8_44 c8_45 := rfl
theorem c8_44_r : RG (E0 mm) 8 c8_44 := rgN rfl
theorem c8_45_e : c8_45 = .goto 0 := rfl
theorem c8_46_e : c8_46 = .skip := rfl
theorem c8_47_e : c8_47 = .seq c8_48 c8_55 := rfl
theorem c8_48_e : c8_48 = .seq c8_49 c8_50 := rfl
theorem c8_49_r : RG (E0 mm) 8 c8_49 := rgN rfl
theorem c8_50_e : c8_50 = .seq c8_51 c8_52 := rfl
theorem c8_51_r : RG (E0 mm) 8 c8_51 := rgN rfl
theorem c8_53_e : c8_53 = .goto 0 := rfl
theorem c8_54_e : c8_54 = .skip := rfl
theorem c8_55_e : c8_55 = .seq c8_56 c8_63 := rfl
theorem c8_56_e : c8_56 = .seq c8_57 c8_58 := rfl
theorem c8_57_r : RG (E0 mm) 8 c8_57 := rgN rfl
theorem c8_59_e : c8_59 = .seq c8_60 c8_61 := rfl
theorem c8_60_r : RG (E0 mm) 8 c8_60 := rgN rfl
theorem c8_61_e : c8_61 = .goto 0 := rfl
theorem c8_62_e : c8_62 = .skip := rfl
theorem c8_63_e : c8_63 = .seq c8_64 c8_69 := rfl
theorem c8_64_e : c8_64 = .seq c8_65 c8_66 := rfl
theorem c8_65_r : RG (E0 mm) 8 c8_65 := rgN rfl
theorem c8_67_e : c8_67 = .goto 2 := rfl
theorem c8_68_e : c8_68 = .skip := rfl
theorem c8_69_e : c8_69 = .seq c8_70 c8_77 := rfl
theorem c8_70_e : c8_70 = .seq c8_71 c8_72 := rfl
theorem c8_71_r : RG (E0 mm) 8 c8_71 := rgN rfl
theorem c8_73_e : c8_73 = .seq c8_74 c8_75 := rfl
theorem c8_74_r : RG (E0 mm) 8 c8_74 := rgN rfl
theorem c8_75_e : c8_75 = .goto 0 := rfl
theorem c8_76_e : c8_76 = .skip := rfl
theorem c8_77_e : c8_77 = .seq c8_78 c8_83 := rfl
theorem c8_78_e : c8_78 = .seq c8_79 c8_80 := rfl
theorem c8_79_r : RG (E0 mm) 8 c8_79 := rgN rfl
theorem c8_80_e : c8_80 = .seq c8_81 c8_82 := rfl
theorem c8_81_r : RG (E0 mm) 8 c8_81 := rgD (by kernel_rfl)
theorem c8_82_r : RG (E0 mm) 8 c8_82 := rgN rfl
theorem c8_83_e : c8_83 = .seq c8_84 c8_91 := rfl
theorem c8_84_e : c8_84 = .seq c8_85 c8_86 := rfl
theorem c8_85_r : RG (E0 mm) 8 c8_85 := rgN rfl
theorem c8_87_e : c8_87 = .seq c8_88 c8_89 := rfl
theorem c8_88_r : RG (E0 mm) 8 c8_88 := rgN rfl
theorem c8_89_e : c8_89 = .goto 0 := rfl
theorem c8_90_e : c8_90 = .skip := rfl
theorem c8_91_e : c8_91 = .seq c8_92 c8_93 := rfl
theorem c8_92_r : RG (E0 mm) 8 c8_92 := rgN rfl
theorem c8_93_e : c8_93 = .seq c8_94 c8_95 := rfl
theorem c8_94_e : c8_94 = .goto 1 := rfl
theorem c8_95_e : c8_95 = .seq c8_96 c8_97 := rfl
theorem c8_96_e : c8_96 = .label 2 := rfl
theorem c8_97_e : c8_97 = .seq c8_98 c8_111 := rfl
theorem c8_98_e : c8_98 = .seq c8_99 c8_100 := rfl
theorem c8_99_r : RG (E0 mm) 8 c8_99 := rgN rfl
theorem c8_100_e : c8_100 = .seq c8_101 c8_108 := rfl
theorem c8_101_e : c8_101 = .seq c8_102 c8_103 := rfl
theorem c8_102_r : RG (E0 mm) 8 c8_102 := rgN rfl
theorem c8_104_e : c8_104 = .seq c8_105 c8_106 := rfl
theorem c8_105_r : RG (E0 mm) 8 c8_105 := rgN rfl
theorem c8_106_e : c8_106 = .goto 0 := rfl
theorem c8_107_e : c8_107 = .skip := rfl
theorem c8_108_e : c8_108 = .seq c8_109 c8_110 := rfl
theorem c8_109_r : RG (E0 mm) 8 c8_109 := rgN rfl
theorem c8_110_e : c8_110 = .ret := rfl
theorem c8_111_e : c8_111 = .seq c8_112 c8_113 := rfl
theorem c8_112_e : c8_112 = .label 0 := rfl
theorem c8_113_e : c8_113 = .seq c8_114 c8_115 := rfl
theorem c8_114_r : RG (E0 mm) 8 c8_114 := rgN rfl
theorem c8_115_e : c8_115 = .ret := rfl
abbrev R8 := (Bool × List UInt8 × Int × Int)
def e8 : R8 → AV × Heap := fun x => (.tup [.c (.d (.lst x.1 (enL enB x.2.1))), .c (.d (.sc (.int .i64 x.2.2.1))), .c (.d (.sc (.int .i64 x.2.2.2)))], [])
def K8_2 : Option (Ex × St) → Option (AV × Heap) := fun r => bodyD (E0 mm) [.tmp 2, .tmp 3, .tmp 4] 0 false (r)
def en8_2 : ((Bool × List UInt8) ⊕ (Bool × List UInt8 × Bool × List UInt8 × Int × Int) ⊕ (Bool × List UInt8 × Bool × List UInt8 × Int × Int) ⊕ (Bool × List UInt8 × Nat × Nat × Int × Int × List UInt8) ⊕ (Bool × List UInt8 × Nat × Nat × Int × Int × List UInt8) ⊕ (Bool × List UInt8 × Nat × Nat × Int × Int × List UInt8)) → X := fun x => match x with
  | (.inl x) => (none, [.v (.c (.d (.lst x.1 (enL enB x.2)))), .dead, .dead, .dead], [])
  | (.inr (.inl x)) => (some 0, [.v (.c (.d (.lst x.1 (enL enB x.2.1)))), .v (.c (.d (.lst x.2.2.1 (enL enB x.2.2.2.1)))), .v (.c (.d (.sc (.int .i64 x.2.2.2.2.1)))), .v (.c (.d (.sc (.int .i64 x.2.2.2.2.2))))], [])
  | (.inr (.inr (.inl x))) => (some 2, [.v (.c (.d (.lst x.1 (enL enB x.2.1)))), .v (.c (.d (.lst x.2.2.1 (enL enB x.2.2.2.1)))), .v (.c (.d (.sc (.int .i64 x.2.2.2.2.1)))), .v (.c (.d (.sc (.int .i64 x.2.2.2.2.2))))], [])
  | (.inr (.inr (.inr (.inl x)))) => (some 0, [.v (.c (.d (.lst x.1 (enL enB x.2.1)))), .v (.c (.slc 0 0 1 x.2.2.1 (some x.2.2.2.1))), .v (.c (.d (.sc (.int .i64 x.2.2.2.2.1)))), .v (.c (.d (.sc (.int .i64 x.2.2.2.2.2.1))))], [.cells (enC x.2.2.2.2.2.2)])
  | (.inr (.inr (.inr (.inr (.inl x))))) => (some 1, [.v (.c (.d (.lst x.1 (enL enB x.2.1)))), .v (.c (.slc 0 0 1 x.2.2.1 (some x.2.2.2.1))), .v (.c (.d (.sc (.int .i64 x.2.2.2.2.1)))), .v (.c (.d (.sc (.int .i64 x.2.2.2.2.2.1))))], [.cells (enC x.2.2.2.2.2.2)])
  | (.inr (.inr (.inr (.inr (.inr x))))) => (some 2, [.v (.c (.d (.lst x.1 (enL enB x.2.1)))), .v (.c (.slc 0 0 1 x.2.2.1 (some x.2.2.2.1))), .v (.c (.d (.sc (.int .i64 x.2.2.2.2.1)))), .v (.c (.d (.sc (.int .i64 x.2.2.2.2.2.1))))], [.cells (enC x.2.2.2.2.2.2)])
def j8_91 (b0_0 : Bool) (b0_1 : List UInt8) (body5_1 body5_2 : Nat) (at6 e9 : Int) (h0 : List UInt8) : Option (((Bool × List UInt8) ⊕ (Bool × List UInt8 × Bool × List UInt8 × Int × Int) ⊕ (Bool × List UInt8 × Bool × List UInt8 × Int × Int) ⊕ (Bool × List UInt8 × Nat × Nat × Int × Int × List UInt8) ⊕ (Bool × List UInt8 × Nat × Nat × Int × Int × List UInt8) ⊕ (Bool × List UInt8 × Nat × Nat × Int × Int × List UInt8)) ⊕ R8) :=
  some (.inl (.inr (.inr (.inr (.inr (.inl (b0_0, b0_1, body5_1, body5_2, (w64 (at6 + 2)), e9, h0)))))))
theorem j8_91_t (b0_0 : Bool) (b0_1 : List UInt8) (body5_1 body5_2 : Nat) (at6 e9 : Int) (h0 : List UInt8)  (sl : Nat → AV) (zq0 : sl 0 = .v (.c (.d (.lst b0_0 (enL enB b0_1))))) (zq5 : sl 5 = .v (.c (.slc 0 0 1 body5_1 (some body5_2)))) (zq6 : sl 6 = .v (.c (.d (.sc (.int .i64 at6))))) (zq9 : sl 9 = .v (.c (.d (.sc (.int .i64 e9))))) :
    stepE (K8_2 (mm := mm)) (scopeK 0 [(0, .keep), (5, .keep), (6, .keep), (9, .keep)] c8_3 (den (E0 mm) 8 0 (callW (E0 mm)) itW c8_91 none ⟨sl, [.cells (enC h0)]⟩)) = (j8_91 b0_0 b0_1 body5_1 body5_2 at6 e9 h0).map (sm en8_2 e8) := by
  simp -implicitDefEqProofs only [j8_91, c8_91_e, c8_92_r, (show opsOf c8_92 = _ :: _ from rfl), c8_93_e, c8_94_e, (scopeK_g (show hasLabel c8_3 1 = true by kernel_rfl)), zq0, zq5, zq6, zq9, setA, setB, za, zb, zc, zd, ze, zf, zg, zh, zi, zj, zk, zl, zm, zn, zo, zp, reduceCtorEq, zE, ↓reduceIte]
  all_goals rfl
def j8_86 (b0_0 : Bool) (b0_1 : List UInt8) (body5_1 body5_2 : Nat) (at6 e9 : Int) (t101 : Bool) (h0 : List UInt8) : Option (((Bool × List UInt8) ⊕ (Bool × List UInt8 × Bool × List UInt8 × Int × Int) ⊕ (Bool × List UInt8 × Bool × List UInt8 × Int × Int) ⊕ (Bool × List UInt8 × Nat × Nat × Int × Int × List UInt8) ⊕ (Bool × List UInt8 × Nat × Nat × Int × Int × List UInt8) ⊕ (Bool × List UInt8 × Nat × Nat × Int × Int × List UInt8)) ⊕ R8) :=
  if t101 = true then
    some (.inl (.inr (.inr (.inr (.inl (b0_0, b0_1, body5_1, body5_2, at6, (20 : Int), h0))))))
  else
    j8_91 b0_0 b0_1 body5_1 body5_2 at6 e9 h0
theorem j8_86_t (b0_0 : Bool) (b0_1 : List UInt8) (body5_1 body5_2 : Nat) (at6 e9 : Int) (t101 : Bool) (h0 : List UInt8)  (sl : Nat → AV) (zq0 : sl 0 = .v (.c (.d (.lst b0_0 (enL enB b0_1))))) (zq5 : sl 5 = .v (.c (.slc 0 0 1 body5_1 (some body5_2)))) (zq6 : sl 6 = .v (.c (.d (.sc (.int .i64 at6))))) (zq9 : sl 9 = .v (.c (.d (.sc (.int .i64 e9))))) (zq101 : sl 101 = .v (.c (.d (.sc (.bool t101))))) :
    stepE (K8_2 (mm := mm)) (scopeK 0 [(0, .keep), (5, .keep), (6, .keep), (9, .keep)] c8_3 (seqD (E0 mm) 8 0 (callW (E0 mm)) itW c8_91 (den (E0 mm) 8 0 (callW (E0 mm)) itW c8_86 none ⟨sl, [.cells (enC h0)]⟩))) = (j8_86 b0_0 b0_1 body5_1 body5_2 at6 e9 t101 h0).map (sm en8_2 e8) := by
  simp -implicitDefEqProofs only [j8_86, (show c8_86 = Code.cond _ c8_87 c8_90 from rfl), zq0, zq5, zq6, zq9, zq101, setA, setB, za, zb, zc, zd, ze, zf, zg, zh, zi, zj, zk, zl, zm, zn, zo, zp, reduceCtorEq, zE, ↓reduceIte]
  refine brB (fun yc32 => ?_) (fun yc32 => ?_)
  · simp -implicitDefEqProofs only [c8_87_e, c8_88_r, (show opsOf c8_88 = _ :: _ from rfl), c8_89_e, (scopeK_g (show hasLabel c8_3 0 = true by kernel_rfl)), zq0, zq5, zq6, zq9, zq101, yc32, setA, setB, za, zb, zc, zd, ze, zf, zg, zh, zi, zj, zk, zl, zm, zn, zo, zp, reduceCtorEq, zE, ↓reduceIte]
    all_goals rfl
  · simp -implicitDefEqProofs only [c8_90_e, zq0, zq5, zq6, zq9, zq101, yc32, setA, setB, za, zb, zc, zd, ze, zf, zg, zh, zi, zj, zk, zl, zm, zn, zo, zp, reduceCtorEq, zE, ↓reduceIte]
    exact j8_91_t b0_0 b0_1 body5_1 body5_2 at6 e9 h0 _ (by exact zq0) (by exact zq5) (by exact zq6) (by exact zq9)
def j8_77 (b0_0 : Bool) (b0_1 : List UInt8) (body5_0 : Bool) (body5_1 : List UInt8) (at6 n7 e9 : Int) : Option (((Bool × List UInt8) ⊕ (Bool × List UInt8 × Bool × List UInt8 × Int × Int) ⊕ (Bool × List UInt8 × Bool × List UInt8 × Int × Int) ⊕ (Bool × List UInt8 × Nat × Nat × Int × Int × List UInt8) ⊕ (Bool × List UInt8 × Nat × Nat × Int × Int × List UInt8) ⊕ (Bool × List UInt8 × Nat × Nat × Int × Int × List UInt8)) ⊕ R8) :=
  if 0 ≤ (w64 ((body5_1.length : Int) + (w64 n7))) ∧ (w64 ((body5_1.length : Int) + (w64 n7))) ≤ 140737488355328 then
    (bnd (((min body5_1.length ((w64 ((body5_1.length : Int) + (w64 n7))).toNat)) : Nat) : Int) ((w64 ((body5_1.length : Int) + (w64 n7))).toNat)).bind fun yk23 =>
      (bnd at6 b0_1.length).bind fun yk25 =>
        if yk23 + ((w64 ((body5_1.length : Int) + (w64 n7))).toNat - yk23) ≤ (cpy (List.replicate ((w64 ((body5_1.length : Int) + (w64 n7))).toNat) (0 : UInt8)) 0 ((w64 ((body5_1.length : Int) + (w64 n7))).toNat) body5_1).length then
          if 0 ≤ (w64 (at6 + (w64 n7))) ∧ (w64 (at6 + (w64 n7))) < (b0_1.length : Int) then
            if ((b0_1.getD ((w64 (at6 + (w64 n7))).toNat) default) == (13 : UInt8)) = true then
              if 0 ≤ (w64 ((w64 (at6 + (w64 n7))) + 1)) ∧ (w64 ((w64 (at6 + (w64 n7))) + 1)) < (b0_1.length : Int) then
                j8_86 b0_0 b0_1 ((w64 ((body5_1.length : Int) + (w64 n7))).toNat) ((w64 ((body5_1.length : Int) + (w64 n7))).toNat) (w64 (at6 + (w64 n7))) e9 (!((b0_1.getD ((w64 ((w64 (at6 + (w64 n7))) + 1)).toNat) default) == (10 : UInt8))) (cpy (cpy (List.replicate ((w64 ((body5_1.length : Int) + (w64 n7))).toNat) (0 : UInt8)) 0 ((w64 ((body5_1.length : Int) + (w64 n7))).toNat) body5_1) yk23 ((w64 ((body5_1.length : Int) + (w64 n7))).toNat - yk23) (b0_1.drop yk25))
              else none
            else
              j8_86 b0_0 b0_1 ((w64 ((body5_1.length : Int) + (w64 n7))).toNat) ((w64 ((body5_1.length : Int) + (w64 n7))).toNat) (w64 (at6 + (w64 n7))) e9 true (cpy (cpy (List.replicate ((w64 ((body5_1.length : Int) + (w64 n7))).toNat) (0 : UInt8)) 0 ((w64 ((body5_1.length : Int) + (w64 n7))).toNat) body5_1) yk23 ((w64 ((body5_1.length : Int) + (w64 n7))).toNat - yk23) (b0_1.drop yk25))
          else none
        else none
  else none
theorem j8_77_t (b0_0 : Bool) (b0_1 : List UInt8) (body5_0 : Bool) (body5_1 : List UInt8) (at6 n7 e9 : Int)  (sl : Nat → AV) (zq0 : sl 0 = .v (.c (.d (.lst b0_0 (enL enB b0_1))))) (zq5 : sl 5 = .v (.c (.d (.lst body5_0 (enL enB body5_1))))) (zq6 : sl 6 = .v (.c (.d (.sc (.int .i64 at6))))) (zq7 : sl 7 = .v (.c (.d (.sc (.int .u64 n7))))) (zq9 : sl 9 = .v (.c (.d (.sc (.int .i64 e9))))) :
    stepE (K8_2 (mm := mm)) (scopeK 0 [(0, .keep), (5, .keep), (6, .keep), (9, .keep)] c8_3 (den (E0 mm) 8 0 (callW (E0 mm)) itW c8_77 none ⟨sl, []⟩)) = (j8_77 b0_0 b0_1 body5_0 body5_1 at6 n7 e9).map (sm en8_2 e8) := by
  simp -implicitDefEqProofs only [j8_77, c8_77_e, c8_78_e, c8_79_r, (show opsOf c8_79 = _ :: _ from rfl), Tryd.underlying22, Tryd.underlying43, Tryd.underlying3, sz5, by5, zc5, enC_rep, Int.le_refl, Int.mul_one, true_and, (show (2 : Int) ^ 47 = 140737488355328 from rfl), zq0, zq5, zq6, zq7, zq9, setA, setB, za, zb, zc, zd, ze, zf, zg, zh, zi, zj, zk, zl, zm, zn, zo, zp, reduceCtorEq, zE, ↓reduceIte]
  refine brP (fun yc21 => ?_) (fun yc21 => ?_)
  · simp -implicitDefEqProofs only [c8_80_e, c8_81_r, (show opsOf c8_81 = _ :: _ from rfl), Tryd.underlying22, (copyA_b Tryd.underlying22 sz5), cpO_en, Nat.zero_add, List.length_replicate, Nat.le_refl, if_true, sz5, Option.getD_none, Option.getD_some, Option.map_none, Option.map_some, Nat.sub_zero, Nat.zero_mul, Nat.mul_one, zq0, zq5, zq6, zq7, zq9, yc21, setA, setB, za, zb, zc, zd, ze, zf, zg, zh, zi, zj, zk, zl, zm, zn, zo, zp, reduceCtorEq, zE, ↓reduceIte]
    refine brM (fun yc22 => ?_) (fun yk23 yc22 => ?_)
    · rw [yc22]; rfl
    · simp -implicitDefEqProofs only [Tryd.underlying22, enB_a, sz5, zq0, zq5, zq6, zq7, zq9, yc21, yc22, setA, setB, za, zb, zc, zd, ze, zf, zg, zh, zi, zj, zk, zl, zm, zn, zo, zp, reduceCtorEq, zE, ↓reduceIte]
      refine brM (fun yc24 => ?_) (fun yk25 yc24 => ?_)
      · rw [yc24]; rfl
      · simp -implicitDefEqProofs only [Option.isNone_some, Bool.false_and, Bool.and_false, Bool.false_eq_true, if_false, Tryd.underlying22, (copyA_b Tryd.underlying22 sz5), cpO_en, zq0, zq5, zq6, zq7, zq9, yc21, yc22, yc24, setA, setB, za, zb, zc, zd, ze, zf, zg, zh, zi, zj, zk, zl, zm, zn, zo, zp, reduceCtorEq, zE, ↓reduceIte]
        refine brP (fun yc26 => ?_) (fun yc26 => ?_)
        · simp -implicitDefEqProofs only [c8_82_r, (show opsOf c8_82 = _ :: _ from rfl), Tryd.underlying43, Tryd.underlying3, c8_83_e, c8_84_e, c8_85_r, (show opsOf c8_85 = _ :: _ from rfl), Tryd.underlying22, sz5, enB_a, zq0, zq5, zq6, zq7, zq9, yc21, yc22, yc24, yc26, setA, setB, za, zb, zc, zd, ze, zf, zg, zh, zi, zj, zk, zl, zm, zn, zo, zp, reduceCtorEq, zE, ↓reduceIte]
          refine brP (fun yc27 => ?_) (fun yc27 => ?_)
          · have yd28 : (w64 (at6 + (w64 n7))).toNat < b0_1.length := by omega
            simp -implicitDefEqProofs only [(enL_get enB b0_1 ((w64 (at6 + (w64 n7))).toNat) yd28), enB_e, sz5, ag5, zq0, zq5, zq6, zq7, zq9, yc21, yc22, yc24, yc26, yc27, yd28, setA, setB, za, zb, zc, zd, ze, zf, zg, zh, zi, zj, zk, zl, zm, zn, zo, zp, reduceCtorEq, zE, ↓reduceIte]
            refine brB (fun yc29 => ?_) (fun yc29 => ?_)
            · simp -implicitDefEqProofs only [Tryd.underlying22, sz5, enB_a, zq0, zq5, zq6, zq7, zq9, yc21, yc22, yc24, yc26, yc27, yd28, yc29, setA, setB, za, zb, zc, zd, ze, zf, zg, zh, zi, zj, zk, zl, zm, zn, zo, zp, reduceCtorEq, zE, ↓reduceIte]
              refine brP (fun yc30 => ?_) (fun yc30 => ?_)
              · have yd31 : (w64 ((w64 (at6 + (w64 n7))) + 1)).toNat < b0_1.length := by omega
                simp -implicitDefEqProofs only [(enL_get enB b0_1 ((w64 ((w64 (at6 + (w64 n7))) + 1)).toNat) yd31), enB_e, sz5, ag5, zq0, zq5, zq6, zq7, zq9, yc21, yc22, yc24, yc26, yc27, yd28, yc29, yc30, yd31, setA, setB, za, zb, zc, zd, ze, zf, zg, zh, zi, zj, zk, zl, zm, zn, zo, zp, reduceCtorEq, zE, ↓reduceIte]
                exact j8_86_t b0_0 b0_1 ((w64 ((body5_1.length : Int) + (w64 n7))).toNat) ((w64 ((body5_1.length : Int) + (w64 n7))).toNat) (w64 (at6 + (w64 n7))) e9 (!((b0_1.getD ((w64 ((w64 (at6 + (w64 n7))) + 1)).toNat) default) == (10 : UInt8))) (cpy (cpy (List.replicate ((w64 ((body5_1.length : Int) + (w64 n7))).toNat) (0 : UInt8)) 0 ((w64 ((body5_1.length : Int) + (w64 n7))).toNat) body5_1) yk23 ((w64 ((body5_1.length : Int) + (w64 n7))).toNat - yk23) (b0_1.drop yk25)) _ (by exact zq0) (by rfl) (by rfl) (by exact zq9) (by rfl)
              · rw [if_neg yc30]; rfl
            · simp -implicitDefEqProofs only [zq0, zq5, zq6, zq7, zq9, yc21, yc22, yc24, yc26, yc27, yd28, yc29, setA, setB, za, zb, zc, zd, ze, zf, zg, zh, zi, zj, zk, zl, zm, zn, zo, zp, reduceCtorEq, zE, ↓reduceIte]
              exact j8_86_t b0_0 b0_1 ((w64 ((body5_1.length : Int) + (w64 n7))).toNat) ((w64 ((body5_1.length : Int) + (w64 n7))).toNat) (w64 (at6 + (w64 n7))) e9 true (cpy (cpy (List.replicate ((w64 ((body5_1.length : Int) + (w64 n7))).toNat) (0 : UInt8)) 0 ((w64 ((body5_1.length : Int) + (w64 n7))).toNat) body5_1) yk23 ((w64 ((body5_1.length : Int) + (w64 n7))).toNat - yk23) (b0_1.drop yk25)) _ (by exact zq0) (by rfl) (by rfl) (by exact zq9) (by rfl)
          · rw [if_neg yc27]; rfl
        · rw [if_neg yc26]; rfl
  · rw [if_neg yc21]; rfl
def j8_69 (b0_0 : Bool) (b0_1 : List UInt8) (body5_0 : Bool) (body5_1 : List UInt8) (at6 n7 e9 : Int) : Option (((Bool × List UInt8) ⊕ (Bool × List UInt8 × Bool × List UInt8 × Int × Int) ⊕ (Bool × List UInt8 × Bool × List UInt8 × Int × Int) ⊕ (Bool × List UInt8 × Nat × Nat × Int × Int × List UInt8) ⊕ (Bool × List UInt8 × Nat × Nat × Int × Int × List UInt8) ⊕ (Bool × List UInt8 × Nat × Nat × Int × Int × List UInt8)) ⊕ R8) :=
  if (decide ((w64 ((b0_1.length : Int) - at6)) < (w64 ((w64 n7) + 2)))) = true then
    some (.inl (.inr (.inl (b0_0, b0_1, body5_0, body5_1, at6, (8 : Int)))))
  else
    j8_77 b0_0 b0_1 body5_0 body5_1 at6 n7 e9
theorem j8_69_t (b0_0 : Bool) (b0_1 : List UInt8) (body5_0 : Bool) (body5_1 : List UInt8) (at6 n7 e9 : Int)  (sl : Nat → AV) (zq0 : sl 0 = .v (.c (.d (.lst b0_0 (enL enB b0_1))))) (zq5 : sl 5 = .v (.c (.d (.lst body5_0 (enL enB body5_1))))) (zq6 : sl 6 = .v (.c (.d (.sc (.int .i64 at6))))) (zq7 : sl 7 = .v (.c (.d (.sc (.int .u64 n7))))) (zq9 : sl 9 = .v (.c (.d (.sc (.int .i64 e9))))) :
    stepE (K8_2 (mm := mm)) (scopeK 0 [(0, .keep), (5, .keep), (6, .keep), (9, .keep)] c8_3 (den (E0 mm) 8 0 (callW (E0 mm)) itW c8_69 none ⟨sl, []⟩)) = (j8_69 b0_0 b0_1 body5_0 body5_1 at6 n7 e9).map (sm en8_2 e8) := by
  simp -implicitDefEqProofs only [j8_69, c8_69_e, c8_70_e, c8_71_r, (show opsOf c8_71 = _ :: _ from rfl), Tryd.underlying22, Tryd.underlying43, Tryd.underlying3, (show c8_72 = Code.cond _ c8_73 c8_76 from rfl), zq0, zq5, zq6, zq7, zq9, setA, setB, za, zb, zc, zd, ze, zf, zg, zh, zi, zj, zk, zl, zm, zn, zo, zp, reduceCtorEq, zE, ↓reduceIte]
  refine brB (fun yc20 => ?_) (fun yc20 => ?_)
  · simp -implicitDefEqProofs only [c8_73_e, c8_74_r, (show opsOf c8_74 = _ :: _ from rfl), c8_75_e, (scopeK_g (show hasLabel c8_3 0 = true by kernel_rfl)), zq0, zq5, zq6, zq7, zq9, yc20, setA, setB, za, zb, zc, zd, ze, zf, zg, zh, zi, zj, zk, zl, zm, zn, zo, zp, reduceCtorEq, zE, ↓reduceIte]
    all_goals rfl
  · simp -implicitDefEqProofs only [c8_76_e, zq0, zq5, zq6, zq7, zq9, yc20, setA, setB, za, zb, zc, zd, ze, zf, zg, zh, zi, zj, zk, zl, zm, zn, zo, zp, reduceCtorEq, zE, ↓reduceIte]
    exact j8_77_t b0_0 b0_1 body5_0 body5_1 at6 n7 e9 _ (by exact zq0) (by exact zq5) (by exact zq6) (by exact zq7) (by exact zq9)
def j8_63 (b0_0 : Bool) (b0_1 : List UInt8) (body5_0 : Bool) (body5_1 : List UInt8) (at6 n7 e9 : Int) : Option (((Bool × List UInt8) ⊕ (Bool × List UInt8 × Bool × List UInt8 × Int × Int) ⊕ (Bool × List UInt8 × Bool × List UInt8 × Int × Int) ⊕ (Bool × List UInt8 × Nat × Nat × Int × Int × List UInt8) ⊕ (Bool × List UInt8 × Nat × Nat × Int × Int × List UInt8) ⊕ (Bool × List UInt8 × Nat × Nat × Int × Int × List UInt8)) ⊕ R8) :=
  if (n7 == 0) = true then
    some (.inl (.inr (.inr (.inl (b0_0, b0_1, body5_0, body5_1, at6, e9)))))
  else
    j8_69 b0_0 b0_1 body5_0 body5_1 at6 n7 e9
theorem j8_63_t (b0_0 : Bool) (b0_1 : List UInt8) (body5_0 : Bool) (body5_1 : List UInt8) (at6 n7 e9 : Int)  (sl : Nat → AV) (zq0 : sl 0 = .v (.c (.d (.lst b0_0 (enL enB b0_1))))) (zq5 : sl 5 = .v (.c (.d (.lst body5_0 (enL enB body5_1))))) (zq6 : sl 6 = .v (.c (.d (.sc (.int .i64 at6))))) (zq7 : sl 7 = .v (.c (.d (.sc (.int .u64 n7))))) (zq9 : sl 9 = .v (.c (.d (.sc (.int .i64 e9))))) :
    stepE (K8_2 (mm := mm)) (scopeK 0 [(0, .keep), (5, .keep), (6, .keep), (9, .keep)] c8_3 (den (E0 mm) 8 0 (callW (E0 mm)) itW c8_63 none ⟨sl, []⟩)) = (j8_63 b0_0 b0_1 body5_0 body5_1 at6 n7 e9).map (sm en8_2 e8) := by
  simp -implicitDefEqProofs only [j8_63, c8_63_e, c8_64_e, c8_65_r, (show opsOf c8_65 = _ :: _ from rfl), (show c8_66 = Code.cond _ c8_67 c8_68 from rfl), zq0, zq5, zq6, zq7, zq9, setA, setB, za, zb, zc, zd, ze, zf, zg, zh, zi, zj, zk, zl, zm, zn, zo, zp, reduceCtorEq, zE, ↓reduceIte]
  refine brB (fun yc19 => ?_) (fun yc19 => ?_)
  · simp -implicitDefEqProofs only [c8_67_e, (scopeK_g (show hasLabel c8_3 2 = true by kernel_rfl)), zq0, zq5, zq6, zq7, zq9, yc19, setA, setB, za, zb, zc, zd, ze, zf, zg, zh, zi, zj, zk, zl, zm, zn, zo, zp, reduceCtorEq, zE, ↓reduceIte]
    all_goals rfl
  · simp -implicitDefEqProofs only [c8_68_e, zq0, zq5, zq6, zq7, zq9, yc19, setA, setB, za, zb, zc, zd, ze, zf, zg, zh, zi, zj, zk, zl, zm, zn, zo, zp, reduceCtorEq, zE, ↓reduceIte]
    exact j8_69_t b0_0 b0_1 body5_0 body5_1 at6 n7 e9 _ (by exact zq0) (by exact zq5) (by exact zq6) (by exact zq7) (by exact zq9)
def j8_55 (b0_0 : Bool) (b0_1 : List UInt8) (body5_0 : Bool) (body5_1 : List UInt8) (at6 n7 e9 : Int) : Option (((Bool × List UInt8) ⊕ (Bool × List UInt8 × Bool × List UInt8 × Int × Int) ⊕ (Bool × List UInt8 × Bool × List UInt8 × Int × Int) ⊕ (Bool × List UInt8 × Nat × Nat × Int × Int × List UInt8) ⊕ (Bool × List UInt8 × Nat × Nat × Int × Int × List UInt8) ⊕ (Bool × List UInt8 × Nat × Nat × Int × Int × List UInt8)) ⊕ R8) :=
  if (decide ((wu64 (w64 (4096 - (body5_1.length : Int)))) < n7)) = true then
    some (.inl (.inr (.inl (b0_0, b0_1, body5_0, body5_1, at6, (21 : Int)))))
  else
    j8_63 b0_0 b0_1 body5_0 body5_1 at6 n7 e9
theorem j8_55_t (b0_0 : Bool) (b0_1 : List UInt8) (body5_0 : Bool) (body5_1 : List UInt8) (at6 n7 e9 : Int)  (sl : Nat → AV) (zq0 : sl 0 = .v (.c (.d (.lst b0_0 (enL enB b0_1))))) (zq5 : sl 5 = .v (.c (.d (.lst body5_0 (enL enB body5_1))))) (zq6 : sl 6 = .v (.c (.d (.sc (.int .i64 at6))))) (zq7 : sl 7 = .v (.c (.d (.sc (.int .u64 n7))))) (zq9 : sl 9 = .v (.c (.d (.sc (.int .i64 e9))))) :
    stepE (K8_2 (mm := mm)) (scopeK 0 [(0, .keep), (5, .keep), (6, .keep), (9, .keep)] c8_3 (den (E0 mm) 8 0 (callW (E0 mm)) itW c8_55 none ⟨sl, []⟩)) = (j8_55 b0_0 b0_1 body5_0 body5_1 at6 n7 e9).map (sm en8_2 e8) := by
  simp -implicitDefEqProofs only [j8_55, c8_55_e, c8_56_e, c8_57_r, (show opsOf c8_57 = _ :: _ from rfl), Tryd.underlying22, Tryd.underlying3, Tryd.underlying43, (show c8_58 = Code.cond _ c8_59 c8_62 from rfl), zq0, zq5, zq6, zq7, zq9, setA, setB, za, zb, zc, zd, ze, zf, zg, zh, zi, zj, zk, zl, zm, zn, zo, zp, reduceCtorEq, zE, ↓reduceIte]
  refine brB (fun yc18 => ?_) (fun yc18 => ?_)
  · simp -implicitDefEqProofs only [c8_59_e, c8_60_r, (show opsOf c8_60 = _ :: _ from rfl), c8_61_e, (scopeK_g (show hasLabel c8_3 0 = true by kernel_rfl)), zq0, zq5, zq6, zq7, zq9, yc18, setA, setB, za, zb, zc, zd, ze, zf, zg, zh, zi, zj, zk, zl, zm, zn, zo, zp, reduceCtorEq, zE, ↓reduceIte]
    all_goals rfl
  · simp -implicitDefEqProofs only [c8_62_e, zq0, zq5, zq6, zq7, zq9, yc18, setA, setB, za, zb, zc, zd, ze, zf, zg, zh, zi, zj, zk, zl, zm, zn, zo, zp, reduceCtorEq, zE, ↓reduceIte]
    exact j8_63_t b0_0 b0_1 body5_0 body5_1 at6 n7 e9 _ (by exact zq0) (by exact zq5) (by exact zq6) (by exact zq7) (by exact zq9)
def j8_47 (b0_0 : Bool) (b0_1 : List UInt8) (body5_0 : Bool) (body5_1 : List UInt8) (at6 : Int) (line8 : Bs) : Option (((Bool × List UInt8) ⊕ (Bool × List UInt8 × Bool × List UInt8 × Int × Int) ⊕ (Bool × List UInt8 × Bool × List UInt8 × Int × Int) ⊕ (Bool × List UInt8 × Nat × Nat × Int × Int × List UInt8) ⊕ (Bool × List UInt8 × Nat × Nat × Int × Int × List UInt8) ⊕ (Bool × List UInt8 × Nat × Nat × Int × Int × List UInt8)) ⊕ R8) :=
  (m19 line8 ([13] : Bs)).bind fun yr14 =>
    (m18 yr14).bind fun yr16 =>
      if (yr16.2 == 0) = true then
        j8_55 b0_0 b0_1 body5_0 body5_1 at6 yr16.1 yr16.2
      else
        some (.inl (.inr (.inl (b0_0, b0_1, body5_0, body5_1, at6, yr16.2))))
theorem j8_47_t (b0_0 : Bool) (b0_1 : List UInt8) (body5_0 : Bool) (body5_1 : List UInt8) (at6 : Int) (line8 : Bs)  (sl : Nat → AV) (zq0 : sl 0 = .v (.c (.d (.lst b0_0 (enL enB b0_1))))) (zq5 : sl 5 = .v (.c (.d (.lst body5_0 (enL enB body5_1))))) (zq6 : sl 6 = .v (.c (.d (.sc (.int .i64 at6))))) (zq8 : sl 8 = .v (.c (.d (.sc (.string (S line8)))))) :
    stepE (K8_2 (mm := mm)) (scopeK 0 [(0, .keep), (5, .keep), (6, .keep), (9, .keep)] c8_3 (den (E0 mm) 8 0 (callW (E0 mm)) itW c8_47 none ⟨sl, []⟩)) = (j8_47 b0_0 b0_1 body5_0 body5_1 at6 line8).map (sm en8_2 e8) := by
  simp -implicitDefEqProofs only [j8_47, c8_47_e, c8_48_e, c8_49_r, (show opsOf c8_49 = _ :: _ from rfl), ent19, prm19, (show callW (E0 mm) 19 [.c (.d (.sc (.string (S line8)))), .c (.d (.sc (.string (S ([13] : Bs)))))] [] = _ from f19_t line8 ([13] : Bs)), zq0, zq5, zq6, zq8, setA, setB, za, zb, zc, zd, ze, zf, zg, zh, zi, zj, zk, zl, zm, zn, zo, zp, reduceCtorEq, zE, ↓reduceIte]
  refine brM (fun yc13 => ?_) (fun yr14 yc13 => ?_)
  · rw [yc13]; rfl
  · simp -implicitDefEqProofs only [e19, ent18, prm18, f18_t, zq0, zq5, zq6, zq8, yc13, setA, setB, za, zb, zc, zd, ze, zf, zg, zh, zi, zj, zk, zl, zm, zn, zo, zp, reduceCtorEq, zE, ↓reduceIte]
    refine brM (fun yc15 => ?_) (fun yr16 yc15 => ?_)
    · rw [yc15]; rfl
    · simp -implicitDefEqProofs only [e18, c8_50_e, c8_51_r, (show opsOf c8_51 = _ :: _ from rfl), (show c8_52 = Code.cond _ c8_53 c8_54 from rfl), zq0, zq5, zq6, zq8, yc13, yc15, setA, setB, za, zb, zc, zd, ze, zf, zg, zh, zi, zj, zk, zl, zm, zn, zo, zp, reduceCtorEq, zE, ↓reduceIte]
      refine brB (fun yc17 => ?_) (fun yc17 => ?_)
      · simp -implicitDefEqProofs only [c8_54_e, zq0, zq5, zq6, zq8, yc13, yc15, yc17, setA, setB, za, zb, zc, zd, ze, zf, zg, zh, zi, zj, zk, zl, zm, zn, zo, zp, reduceCtorEq, zE, ↓reduceIte]
        exact j8_55_t b0_0 b0_1 body5_0 body5_1 at6 yr16.1 yr16.2 _ (by exact zq0) (by exact zq5) (by exact zq6) (by rfl) (by rfl)
      · simp -implicitDefEqProofs only [c8_53_e, (scopeK_g (show hasLabel c8_3 0 = true by kernel_rfl)), zq0, zq5, zq6, zq8, yc13, yc15, yc17, setA, setB, za, zb, zc, zd, ze, zf, zg, zh, zi, zj, zk, zl, zm, zn, zo, zp, reduceCtorEq, zE, ↓reduceIte]
        all_goals rfl
def j8_36 (b0_0 : Bool) (b0_1 : List UInt8) (body5_0 : Bool) (body5_1 : List UInt8) (at6 : Int) (rest10_0 : Bool) (rest10_1 : List UInt8) (end11 : Int) : Option (((Bool × List UInt8) ⊕ (Bool × List UInt8 × Bool × List UInt8 × Int × Int) ⊕ (Bool × List UInt8 × Bool × List UInt8 × Int × Int) ⊕ (Bool × List UInt8 × Nat × Nat × Int × Int × List UInt8) ⊕ (Bool × List UInt8 × Nat × Nat × Int × Int × List UInt8) ⊕ (Bool × List UInt8 × Nat × Nat × Int × Int × List UInt8)) ⊕ R8) :=
  (bnd end11 rest10_1.length).bind fun yk9 =>
    (m17 (rest10_1.take yk9) ([13] : Bs)).bind fun yr11 =>
      if yr11 = true then
        j8_47 b0_0 b0_1 body5_0 body5_1 (w64 (at6 + (w64 (end11 + 1)))) (rest10_1.take yk9)
      else
        some (.inl (.inr (.inl (b0_0, b0_1, body5_0, body5_1, (w64 (at6 + (w64 (end11 + 1)))), (20 : Int)))))
theorem j8_36_t (b0_0 : Bool) (b0_1 : List UInt8) (body5_0 : Bool) (body5_1 : List UInt8) (at6 : Int) (rest10_0 : Bool) (rest10_1 : List UInt8) (end11 : Int)  (sl : Nat → AV) (zq0 : sl 0 = .v (.c (.d (.lst b0_0 (enL enB b0_1))))) (zq5 : sl 5 = .v (.c (.d (.lst body5_0 (enL enB body5_1))))) (zq6 : sl 6 = .v (.c (.d (.sc (.int .i64 at6))))) (zq10 : sl 10 = .v (.c (.d (.lst rest10_0 (enL enB rest10_1))))) (zq11 : sl 11 = .v (.c (.d (.sc (.int .i64 end11))))) :
    stepE (K8_2 (mm := mm)) (scopeK 0 [(0, .keep), (5, .keep), (6, .keep), (9, .keep)] c8_3 (seqD (E0 mm) 8 0 (callW (E0 mm)) itW c8_47 (den (E0 mm) 8 0 (callW (E0 mm)) itW c8_36 none ⟨sl, []⟩))) = (j8_36 b0_0 b0_1 body5_0 body5_1 at6 rest10_0 rest10_1 end11).map (sm en8_2 e8) := by
  simp -implicitDefEqProofs only [j8_36, c8_36_e, c8_37_r, (show opsOf c8_37 = _ :: _ from rfl), c8_38_e, c8_39_r, (show opsOf c8_39 = _ :: _ from rfl), Tryd.underlying22, enB_a, sz5, zq0, zq5, zq6, zq10, zq11, setA, setB, za, zb, zc, zd, ze, zf, zg, zh, zi, zj, zk, zl, zm, zn, zo, zp, reduceCtorEq, zE, ↓reduceIte]
  refine brM (fun yc8 => ?_) (fun yk9 yc8 => ?_)
  · rw [yc8]; rfl
  · simp -implicitDefEqProofs only [Option.isNone_some, Bool.false_and, Bool.and_false, Bool.false_eq_true, if_false, Tryd.underlying22, Tryd.underlying9, Tryd.underlying5, c8_40_e, c8_41_r, (show opsOf c8_41 = _ :: _ from rfl), ent17, prm17, (show callW (E0 mm) 17 [.c (.d (.sc (.string (S (rest10_1.take yk9))))), .c (.d (.sc (.string (S ([13] : Bs)))))] [] = _ from f17_t (rest10_1.take yk9) ([13] : Bs)), zq0, zq5, zq6, zq10, zq11, yc8, setA, setB, za, zb, zc, zd, ze, zf, zg, zh, zi, zj, zk, zl, zm, zn, zo, zp, reduceCtorEq, zE, ↓reduceIte]
    refine brM (fun yc10 => ?_) (fun yr11 yc10 => ?_)
    · rw [yc10]; rfl
    · simp -implicitDefEqProofs only [e17, (show c8_42 = Code.cond _ c8_43 c8_46 from rfl), zq0, zq5, zq6, zq10, zq11, yc8, yc10, setA, setB, za, zb, zc, zd, ze, zf, zg, zh, zi, zj, zk, zl, zm, zn, zo, zp, reduceCtorEq, zE, ↓reduceIte]
      refine brB (fun yc12 => ?_) (fun yc12 => ?_)
      · simp -implicitDefEqProofs only [c8_46_e, zq0, zq5, zq6, zq10, zq11, yc8, yc10, yc12, setA, setB, za, zb, zc, zd, ze, zf, zg, zh, zi, zj, zk, zl, zm, zn, zo, zp, reduceCtorEq, zE, ↓reduceIte]
        exact j8_47_t b0_0 b0_1 body5_0 body5_1 (w64 (at6 + (w64 (end11 + 1)))) (rest10_1.take yk9) _ (by exact zq0) (by exact zq5) (by rfl) (by rfl)
      · simp -implicitDefEqProofs only [c8_43_e, c8_44_r, (show opsOf c8_44 = _ :: _ from rfl), c8_45_e, (scopeK_g (show hasLabel c8_3 0 = true by kernel_rfl)), zq0, zq5, zq6, zq10, zq11, yc8, yc10, yc12, setA, setB, za, zb, zc, zd, ze, zf, zg, zh, zi, zj, zk, zl, zm, zn, zo, zp, reduceCtorEq, zE, ↓reduceIte]
        all_goals rfl
def j8_28 (b0_0 : Bool) (b0_1 : List UInt8) (body5_0 : Bool) (body5_1 : List UInt8) (at6 : Int) (rest10_0 : Bool) (rest10_1 : List UInt8) (end11 : Int) : Option (((Bool × List UInt8) ⊕ (Bool × List UInt8 × Bool × List UInt8 × Int × Int) ⊕ (Bool × List UInt8 × Bool × List UInt8 × Int × Int) ⊕ (Bool × List UInt8 × Nat × Nat × Int × Int × List UInt8) ⊕ (Bool × List UInt8 × Nat × Nat × Int × Int × List UInt8) ⊕ (Bool × List UInt8 × Nat × Nat × Int × Int × List UInt8)) ⊕ R8) :=
  if (decide (end11 < 0)) = true then
    some (.inl (.inr (.inl (b0_0, b0_1, body5_0, body5_1, at6, (8 : Int)))))
  else
    j8_36 b0_0 b0_1 body5_0 body5_1 at6 rest10_0 rest10_1 end11
theorem j8_28_t (b0_0 : Bool) (b0_1 : List UInt8) (body5_0 : Bool) (body5_1 : List UInt8) (at6 : Int) (rest10_0 : Bool) (rest10_1 : List UInt8) (end11 : Int)  (sl : Nat → AV) (zq0 : sl 0 = .v (.c (.d (.lst b0_0 (enL enB b0_1))))) (zq5 : sl 5 = .v (.c (.d (.lst body5_0 (enL enB body5_1))))) (zq6 : sl 6 = .v (.c (.d (.sc (.int .i64 at6))))) (zq10 : sl 10 = .v (.c (.d (.lst rest10_0 (enL enB rest10_1))))) (zq11 : sl 11 = .v (.c (.d (.sc (.int .i64 end11))))) :
    stepE (K8_2 (mm := mm)) (scopeK 0 [(0, .keep), (5, .keep), (6, .keep), (9, .keep)] c8_3 (seqD (E0 mm) 8 0 (callW (E0 mm)) itW c8_47 (den (E0 mm) 8 0 (callW (E0 mm)) itW c8_28 none ⟨sl, []⟩))) = (j8_28 b0_0 b0_1 body5_0 body5_1 at6 rest10_0 rest10_1 end11).map (sm en8_2 e8) := by
  simp -implicitDefEqProofs only [j8_28, c8_28_e, c8_29_e, c8_30_r, (show opsOf c8_30 = _ :: _ from rfl), (show c8_31 = Code.cond _ c8_32 c8_35 from rfl), zq0, zq5, zq6, zq10, zq11, setA, setB, za, zb, zc, zd, ze, zf, zg, zh, zi, zj, zk, zl, zm, zn, zo, zp, reduceCtorEq, zE, ↓reduceIte]
  refine brB (fun yc7 => ?_) (fun yc7 => ?_)
  · simp -implicitDefEqProofs only [c8_32_e, c8_33_r, (show opsOf c8_33 = _ :: _ from rfl), c8_34_e, (scopeK_g (show hasLabel c8_3 0 = true by kernel_rfl)), zq0, zq5, zq6, zq10, zq11, yc7, setA, setB, za, zb, zc, zd, ze, zf, zg, zh, zi, zj, zk, zl, zm, zn, zo, zp, reduceCtorEq, zE, ↓reduceIte]
    all_goals rfl
  · simp -implicitDefEqProofs only [c8_35_e, zq0, zq5, zq6, zq10, zq11, yc7, setA, setB, za, zb, zc, zd, ze, zf, zg, zh, zi, zj, zk, zl, zm, zn, zo, zp, reduceCtorEq, zE, ↓reduceIte]
    exact j8_36_t b0_0 b0_1 body5_0 body5_1 at6 rest10_0 rest10_1 end11 _ (by exact zq0) (by exact zq5) (by exact zq6) (by exact zq10) (by exact zq11)
def j8_23 (b0_0 : Bool) (b0_1 : List UInt8) (body5_0 : Bool) (body5_1 : List UInt8) (at6 : Int) (rest10_0 : Bool) (rest10_1 : List UInt8) (end11 : Int) (t31 : Bool) : Option (((Bool × List UInt8) ⊕ (Bool × List UInt8 × Bool × List UInt8 × Int × Int) ⊕ (Bool × List UInt8 × Bool × List UInt8 × Int × Int) ⊕ (Bool × List UInt8 × Nat × Nat × Int × Int × List UInt8) ⊕ (Bool × List UInt8 × Nat × Nat × Int × Int × List UInt8) ⊕ (Bool × List UInt8 × Nat × Nat × Int × Int × List UInt8)) ⊕ R8) :=
  if t31 = true then
    some (.inl (.inr (.inl (b0_0, b0_1, body5_0, body5_1, at6, (21 : Int)))))
  else
    j8_28 b0_0 b0_1 body5_0 body5_1 at6 rest10_0 rest10_1 end11
theorem j8_23_t (b0_0 : Bool) (b0_1 : List UInt8) (body5_0 : Bool) (body5_1 : List UInt8) (at6 : Int) (rest10_0 : Bool) (rest10_1 : List UInt8) (end11 : Int) (t31 : Bool)  (sl : Nat → AV) (zq0 : sl 0 = .v (.c (.d (.lst b0_0 (enL enB b0_1))))) (zq5 : sl 5 = .v (.c (.d (.lst body5_0 (enL enB body5_1))))) (zq6 : sl 6 = .v (.c (.d (.sc (.int .i64 at6))))) (zq10 : sl 10 = .v (.c (.d (.lst rest10_0 (enL enB rest10_1))))) (zq11 : sl 11 = .v (.c (.d (.sc (.int .i64 end11))))) (zq31 : sl 31 = .v (.c (.d (.sc (.bool t31))))) :
    stepE (K8_2 (mm := mm)) (scopeK 0 [(0, .keep), (5, .keep), (6, .keep), (9, .keep)] c8_3 (seqD (E0 mm) 8 0 (callW (E0 mm)) itW c8_47 (seqD (E0 mm) 8 0 (callW (E0 mm)) itW c8_28 (den (E0 mm) 8 0 (callW (E0 mm)) itW c8_23 none ⟨sl, []⟩)))) = (j8_23 b0_0 b0_1 body5_0 body5_1 at6 rest10_0 rest10_1 end11 t31).map (sm en8_2 e8) := by
  simp -implicitDefEqProofs only [j8_23, (show c8_23 = Code.cond _ c8_24 c8_27 from rfl), zq0, zq5, zq6, zq10, zq11, zq31, setA, setB, za, zb, zc, zd, ze, zf, zg, zh, zi, zj, zk, zl, zm, zn, zo, zp, reduceCtorEq, zE, ↓reduceIte]
  refine brB (fun yc6 => ?_) (fun yc6 => ?_)
  · simp -implicitDefEqProofs only [c8_24_e, c8_25_r, (show opsOf c8_25 = _ :: _ from rfl), c8_26_e, (scopeK_g (show hasLabel c8_3 0 = true by kernel_rfl)), zq0, zq5, zq6, zq10, zq11, zq31, yc6, setA, setB, za, zb, zc, zd, ze, zf, zg, zh, zi, zj, zk, zl, zm, zn, zo, zp, reduceCtorEq, zE, ↓reduceIte]
    all_goals rfl
  · simp -implicitDefEqProofs only [c8_27_e, zq0, zq5, zq6, zq10, zq11, zq31, yc6, setA, setB, za, zb, zc, zd, ze, zf, zg, zh, zi, zj, zk, zl, zm, zn, zo, zp, reduceCtorEq, zE, ↓reduceIte]
    exact j8_28_t b0_0 b0_1 body5_0 body5_1 at6 rest10_0 rest10_1 end11 _ (by exact zq0) (by exact zq5) (by exact zq6) (by exact zq10) (by exact zq11)
def s8_2x0 (b0_0 : Bool) (b0_1 : List UInt8) : Option (((Bool × List UInt8) ⊕ (Bool × List UInt8 × Bool × List UInt8 × Int × Int) ⊕ (Bool × List UInt8 × Bool × List UInt8 × Int × Int) ⊕ (Bool × List UInt8 × Nat × Nat × Int × Int × List UInt8) ⊕ (Bool × List UInt8 × Nat × Nat × Int × Int × List UInt8) ⊕ (Bool × List UInt8 × Nat × Nat × Int × Int × List UInt8)) ⊕ R8) :=
  (bnd (min2 (b0_1.length : Int) 64) b0_1.length).bind fun yk2 =>
    (m16 b0_0 (b0_1.take yk2) (10 : UInt8)).bind fun yr4 =>
      if (decide (yr4 < 0)) = true then
        j8_23 b0_0 b0_1 true ([] : List UInt8) (0 : Int) b0_0 b0_1 yr4 (decide (64 ≤ (b0_1.length : Int)))
      else
        j8_23 b0_0 b0_1 true ([] : List UInt8) (0 : Int) b0_0 b0_1 yr4 false
theorem s8_2x0_t (b0_0 : Bool) (b0_1 : List UInt8) :
    stepE (K8_2 (mm := mm)) (scopeF (E0 mm) 8 0 (callW (E0 mm)) itW c8_3 [(0, .keep), (5, .keep), (6, .keep), (9, .keep)] (none, [.v (.c (.d (.lst b0_0 (enL enB b0_1)))), .dead, .dead, .dead], [])) = (s8_2x0 b0_0 b0_1).map (sm en8_2 e8) := by
  simp -implicitDefEqProofs only [s8_2x0, scopeF_eq, (show ∀ f st, den (E0 mm) 8 0 (callW (E0 mm)) itW c8_3 f st = den (E0 mm) 8 0 (callW (E0 mm)) itW (.seq c8_4 c8_5) f st from fun _ _ => rfl), c8_4_r, (show opsOf c8_4 = _ :: _ from rfl), c8_5_e, c8_6_r, (show opsOf c8_6 = _ :: _ from rfl), c8_7_e, c8_8_r, (show opsOf c8_8 = _ :: _ from rfl), c8_9_e, c8_10_r, (show opsOf c8_10 = _ :: _ from rfl), c8_11_e, c8_12_r, (show opsOf c8_12 = _ :: _ from rfl), c8_13_e, c8_14_e, den_label_n, c8_15_e, c8_16_e, c8_17_r, (show opsOf c8_17 = _ :: _ from rfl), Tryd.underlying22, enB_a, sz5, Option.isNone_some, Bool.false_and, Bool.and_false, Bool.false_eq_true, if_false, c8_18_e, c8_19_r, (show opsOf c8_19 = _ :: _ from rfl), Tryd.underlying3, setA, setB, za, zb, zc, zd, ze, zf, zg, zh, zi, zj, zk, zl, zm, zn, zo, zp, reduceCtorEq, zE, ↓reduceIte]
  refine brM (fun yc1 => ?_) (fun yk2 yc1 => ?_)
  · rw [yc1]; rfl
  · simp -implicitDefEqProofs only [Option.isNone_some, Bool.false_and, Bool.and_false, Bool.false_eq_true, if_false, ent16, prm16, f16_t, yc1, setA, setB, za, zb, zc, zd, ze, zf, zg, zh, zi, zj, zk, zl, zm, zn, zo, zp, reduceCtorEq, zE, ↓reduceIte]
    refine brM (fun yc3 => ?_) (fun yr4 yc3 => ?_)
    · rw [yc3]; rfl
    · simp -implicitDefEqProofs only [e16, c8_20_e, c8_21_e, c8_22_r, (show opsOf c8_22 = _ :: _ from rfl), yc1, yc3, setA, setB, za, zb, zc, zd, ze, zf, zg, zh, zi, zj, zk, zl, zm, zn, zo, zp, reduceCtorEq, zE, ↓reduceIte]
      refine brB (fun yc5 => ?_) (fun yc5 => ?_)
      · simp -implicitDefEqProofs only [Tryd.underlying22, yc1, yc3, yc5, setA, setB, za, zb, zc, zd, ze, zf, zg, zh, zi, zj, zk, zl, zm, zn, zo, zp, reduceCtorEq, zE, ↓reduceIte]
        exact j8_23_t b0_0 b0_1 true ([] : List UInt8) (0 : Int) b0_0 b0_1 yr4 (decide (64 ≤ (b0_1.length : Int))) _ (by rfl) (by rfl) (by rfl) (by rfl) (by rfl) (by rfl)
      · simp -implicitDefEqProofs only [yc1, yc3, yc5, setA, setB, za, zb, zc, zd, ze, zf, zg, zh, zi, zj, zk, zl, zm, zn, zo, zp, reduceCtorEq, zE, ↓reduceIte]
        exact j8_23_t b0_0 b0_1 true ([] : List UInt8) (0 : Int) b0_0 b0_1 yr4 false _ (by rfl) (by rfl) (by rfl) (by rfl) (by rfl) (by rfl)
def s8_2x1 (b0_0 : Bool) (b0_1 : List UInt8) (body5_0 : Bool) (body5_1 : List UInt8) (at6 e9 : Int) : Option (((Bool × List UInt8) ⊕ (Bool × List UInt8 × Bool × List UInt8 × Int × Int) ⊕ (Bool × List UInt8 × Bool × List UInt8 × Int × Int) ⊕ (Bool × List UInt8 × Nat × Nat × Int × Int × List UInt8) ⊕ (Bool × List UInt8 × Nat × Nat × Int × Int × List UInt8) ⊕ (Bool × List UInt8 × Nat × Nat × Int × Int × List UInt8)) ⊕ R8) :=
  some (.inr (true, ([] : List UInt8), (0 : Int), e9))
theorem s8_2x1_t (b0_0 : Bool) (b0_1 : List UInt8) (body5_0 : Bool) (body5_1 : List UInt8) (at6 e9 : Int) :
    stepE (K8_2 (mm := mm)) (scopeF (E0 mm) 8 0 (callW (E0 mm)) itW c8_3 [(0, .keep), (5, .keep), (6, .keep), (9, .keep)] (some 0, [.v (.c (.d (.lst b0_0 (enL enB b0_1)))), .v (.c (.d (.lst body5_0 (enL enB body5_1)))), .v (.c (.d (.sc (.int .i64 at6)))), .v (.c (.d (.sc (.int .i64 e9))))], [])) = (s8_2x1 b0_0 b0_1 body5_0 body5_1 at6 e9).map (sm en8_2 e8) := by
  simp -implicitDefEqProofs only [s8_2x1, scopeF_eq, (show ∀ f st, den (E0 mm) 8 0 (callW (E0 mm)) itW c8_3 f st = den (E0 mm) 8 0 (callW (E0 mm)) itW (.seq c8_4 c8_5) f st from fun _ _ => rfl), (den_seq_l0 (show hasLabel c8_4 0 = false by kernel_rfl)), c8_5_e, (den_seq_l0 (show hasLabel c8_6 0 = false by kernel_rfl)), c8_7_e, (den_seq_l0 (show hasLabel c8_8 0 = false by kernel_rfl)), c8_9_e, (den_seq_l0 (show hasLabel c8_10 0 = false by kernel_rfl)), c8_11_e, (den_seq_l0 (show hasLabel c8_12 0 = false by kernel_rfl)), c8_13_e, (den_seq_l0 (show hasLabel c8_14 0 = false by kernel_rfl)), c8_15_e, (den_seq_l0 (show hasLabel c8_16 0 = false by kernel_rfl)), c8_47_e, (den_seq_l0 (show hasLabel c8_48 0 = false by kernel_rfl)), c8_55_e, (den_seq_l0 (show hasLabel c8_56 0 = false by kernel_rfl)), c8_63_e, (den_seq_l0 (show hasLabel c8_64 0 = false by kernel_rfl)), c8_69_e, (den_seq_l0 (show hasLabel c8_70 0 = false by kernel_rfl)), c8_77_e, (den_seq_l0 (show hasLabel c8_78 0 = false by kernel_rfl)), c8_83_e, (den_seq_l0 (show hasLabel c8_84 0 = false by kernel_rfl)), c8_91_e, (den_seq_l0 (show hasLabel c8_92 0 = false by kernel_rfl)), c8_93_e, (den_seq_l0 (show hasLabel c8_94 0 = false by kernel_rfl)), c8_95_e, (den_seq_l0 (show hasLabel c8_96 0 = false by kernel_rfl)), c8_97_e, (den_seq_l0 (show hasLabel c8_98 0 = false by kernel_rfl)), c8_111_e, (den_seq_l1 (show hasLabel (Code.label 0) 0 = true by kernel_rfl)), c8_112_e, c8_113_e, c8_114_r, (show opsOf c8_114 = _ :: _ from rfl), c8_115_e, K8_2, setA, setB, za, zb, zc, zd, ze, zf, zg, zh, zi, zj, zk, zl, zm, zn, zo, zp, reduceCtorEq, zE, ↓reduceIte]
  all_goals rfl
def j8_108 (body5_0 : Bool) (body5_1 : List UInt8) (at6 used14 : Int) : Option (((Bool × List UInt8) ⊕ (Bool × List UInt8 × Bool × List UInt8 × Int × Int) ⊕ (Bool × List UInt8 × Bool × List UInt8 × Int × Int) ⊕ (Bool × List UInt8 × Nat × Nat × Int × Int × List UInt8) ⊕ (Bool × List UInt8 × Nat × Nat × Int × Int × List UInt8) ⊕ (Bool × List UInt8 × Nat × Nat × Int × Int × List UInt8)) ⊕ R8) :=
  some (.inr (body5_0, body5_1, (w64 (at6 + used14)), (0 : Int)))
theorem j8_108_t (body5_0 : Bool) (body5_1 : List UInt8) (at6 used14 : Int) (g0 : Ob) (sl : Nat → AV) (zq5 : sl 5 = .v (.c (.d (.lst body5_0 (enL enB body5_1))))) (zq6 : sl 6 = .v (.c (.d (.sc (.int .i64 at6))))) (zq14 : sl 14 = .v (.c (.d (.sc (.int .i64 used14))))) :
    stepE (K8_2 (mm := mm)) (scopeK 0 [(0, .keep), (5, .keep), (6, .keep), (9, .keep)] c8_3 (seqD (E0 mm) 8 0 (callW (E0 mm)) itW c8_111 (den (E0 mm) 8 0 (callW (E0 mm)) itW c8_108 none ⟨sl, [g0]⟩))) = (j8_108 body5_0 body5_1 at6 used14).map (sm en8_2 e8) := by
  simp -implicitDefEqProofs only [j8_108, c8_108_e, c8_109_r, (show opsOf c8_109 = _ :: _ from rfl), c8_110_e, K8_2, zq5, zq6, zq14, setA, setB, za, zb, zc, zd, ze, zf, zg, zh, zi, zj, zk, zl, zm, zn, zo, zp, reduceCtorEq, zE, ↓reduceIte]
  all_goals rfl
def j8_108v1 (body5_0 : Bool) (body5_1 : List UInt8) (at6 used14 : Int) : Option (((Bool × List UInt8) ⊕ (Bool × List UInt8 × Bool × List UInt8 × Int × Int) ⊕ (Bool × List UInt8 × Bool × List UInt8 × Int × Int) ⊕ (Bool × List UInt8 × Nat × Nat × Int × Int × List UInt8) ⊕ (Bool × List UInt8 × Nat × Nat × Int × Int × List UInt8) ⊕ (Bool × List UInt8 × Nat × Nat × Int × Int × List UInt8)) ⊕ R8) :=
  some (.inr (body5_0, body5_1, (w64 (at6 + used14)), (0 : Int)))
theorem j8_108v1_t (body5_0 : Bool) (body5_1 : List UInt8) (at6 used14 : Int)  (sl : Nat → AV) (zq5 : sl 5 = .v (.c (.d (.lst body5_0 (enL enB body5_1))))) (zq6 : sl 6 = .v (.c (.d (.sc (.int .i64 at6))))) (zq14 : sl 14 = .v (.c (.d (.sc (.int .i64 used14))))) :
    stepE (K8_2 (mm := mm)) (scopeK 0 [(0, .keep), (5, .keep), (6, .keep), (9, .keep)] c8_3 (seqD (E0 mm) 8 0 (callW (E0 mm)) itW c8_111 (den (E0 mm) 8 0 (callW (E0 mm)) itW c8_108 none ⟨sl, []⟩))) = (j8_108v1 body5_0 body5_1 at6 used14).map (sm en8_2 e8) := by
  simp -implicitDefEqProofs only [j8_108v1, c8_108_e, c8_109_r, (show opsOf c8_109 = _ :: _ from rfl), c8_110_e, K8_2, zq5, zq6, zq14, setA, setB, za, zb, zc, zd, ze, zf, zg, zh, zi, zj, zk, zl, zm, zn, zo, zp, reduceCtorEq, zE, ↓reduceIte]
  all_goals rfl
def s8_2x2 (b0_0 : Bool) (b0_1 : List UInt8) (body5_0 : Bool) (body5_1 : List UInt8) (at6 e9 : Int) : Option (((Bool × List UInt8) ⊕ (Bool × List UInt8 × Bool × List UInt8 × Int × Int) ⊕ (Bool × List UInt8 × Bool × List UInt8 × Int × Int) ⊕ (Bool × List UInt8 × Nat × Nat × Int × Int × List UInt8) ⊕ (Bool × List UInt8 × Nat × Nat × Int × Int × List UInt8) ⊕ (Bool × List UInt8 × Nat × Nat × Int × Int × List UInt8)) ⊕ R8) :=
  (bnd at6 b0_1.length).bind fun yk34 =>
    (m20 b0_0 (b0_1.drop yk34)).bind fun yr36 =>
      match yr36 with
      | .inl yr37 =>
        if (yr37.2.2.2 == 0) = true then
          j8_108 body5_0 body5_1 at6 yr37.2.2.1
        else
          some (.inl (.inr (.inl (b0_0, b0_1, body5_0, body5_1, at6, yr37.2.2.2))))
      | .inr yr38 =>
        if (yr38.2.2.2 == 0) = true then
          j8_108v1 body5_0 body5_1 at6 yr38.2.2.1
        else
          some (.inl (.inr (.inl (b0_0, b0_1, body5_0, body5_1, at6, yr38.2.2.2))))
theorem s8_2x2_t (b0_0 : Bool) (b0_1 : List UInt8) (body5_0 : Bool) (body5_1 : List UInt8) (at6 e9 : Int) :
    stepE (K8_2 (mm := mm)) (scopeF (E0 mm) 8 0 (callW (E0 mm)) itW c8_3 [(0, .keep), (5, .keep), (6, .keep), (9, .keep)] (some 2, [.v (.c (.d (.lst b0_0 (enL enB b0_1)))), .v (.c (.d (.lst body5_0 (enL enB body5_1)))), .v (.c (.d (.sc (.int .i64 at6)))), .v (.c (.d (.sc (.int .i64 e9))))], [])) = (s8_2x2 b0_0 b0_1 body5_0 body5_1 at6 e9).map (sm en8_2 e8) := by
  simp -implicitDefEqProofs only [s8_2x2, scopeF_eq, (show ∀ f st, den (E0 mm) 8 0 (callW (E0 mm)) itW c8_3 f st = den (E0 mm) 8 0 (callW (E0 mm)) itW (.seq c8_4 c8_5) f st from fun _ _ => rfl), (den_seq_l0 (show hasLabel c8_4 2 = false by kernel_rfl)), c8_5_e, (den_seq_l0 (show hasLabel c8_6 2 = false by kernel_rfl)), c8_7_e, (den_seq_l0 (show hasLabel c8_8 2 = false by kernel_rfl)), c8_9_e, (den_seq_l0 (show hasLabel c8_10 2 = false by kernel_rfl)), c8_11_e, (den_seq_l0 (show hasLabel c8_12 2 = false by kernel_rfl)), c8_13_e, (den_seq_l0 (show hasLabel c8_14 2 = false by kernel_rfl)), c8_15_e, (den_seq_l0 (show hasLabel c8_16 2 = false by kernel_rfl)), c8_47_e, (den_seq_l0 (show hasLabel c8_48 2 = false by kernel_rfl)), c8_55_e, (den_seq_l0 (show hasLabel c8_56 2 = false by kernel_rfl)), c8_63_e, (den_seq_l0 (show hasLabel c8_64 2 = false by kernel_rfl)), c8_69_e, (den_seq_l0 (show hasLabel c8_70 2 = false by kernel_rfl)), c8_77_e, (den_seq_l0 (show hasLabel c8_78 2 = false by kernel_rfl)), c8_83_e, (den_seq_l0 (show hasLabel c8_84 2 = false by kernel_rfl)), c8_91_e, (den_seq_l0 (show hasLabel c8_92 2 = false by kernel_rfl)), c8_93_e, (den_seq_l0 (show hasLabel c8_94 2 = false by kernel_rfl)), c8_95_e, (den_seq_l1 (show hasLabel (Code.label 2) 2 = true by kernel_rfl)), c8_96_e, c8_97_e, c8_98_e, c8_99_r, (show opsOf c8_99 = _ :: _ from rfl), Tryd.underlying22, enB_a, sz5, setA, setB, za, zb, zc, zd, ze, zf, zg, zh, zi, zj, zk, zl, zm, zn, zo, zp, reduceCtorEq, zE, ↓reduceIte]
  refine brM (fun yc33 => ?_) (fun yk34 yc33 => ?_)
  · rw [yc33]; rfl
  · simp -implicitDefEqProofs only [Option.isNone_some, Bool.false_and, Bool.and_false, Bool.false_eq_true, if_false, ent20, prm20, f20_t, yc33, setA, setB, za, zb, zc, zd, ze, zf, zg, zh, zi, zj, zk, zl, zm, zn, zo, zp, reduceCtorEq, zE, ↓reduceIte]
    refine brM (fun yc35 => ?_) (fun yr36 yc35 => ?_)
    · rw [yc35]; rfl
    · rcases yr36 with yr37 | yr38
      · simp -implicitDefEqProofs only [e20, c8_100_e, c8_101_e, c8_102_r, (show opsOf c8_102 = _ :: _ from rfl), (show c8_103 = Code.cond _ c8_104 c8_107 from rfl), yc33, yc35, setA, setB, za, zb, zc, zd, ze, zf, zg, zh, zi, zj, zk, zl, zm, zn, zo, zp, reduceCtorEq, zE, ↓reduceIte]
        refine brB (fun yc39 => ?_) (fun yc39 => ?_)
        · simp -implicitDefEqProofs only [c8_107_e, yc33, yc35, yc39, setA, setB, za, zb, zc, zd, ze, zf, zg, zh, zi, zj, zk, zl, zm, zn, zo, zp, reduceCtorEq, zE, ↓reduceIte]
          exact j8_108_t body5_0 body5_1 at6 yr37.2.2.1 _ _ (by rfl) (by rfl) (by rfl)
        · simp -implicitDefEqProofs only [c8_104_e, c8_105_r, (show opsOf c8_105 = _ :: _ from rfl), c8_106_e, (scopeK_g (show hasLabel c8_3 0 = true by kernel_rfl)), yc33, yc35, yc39, setA, setB, za, zb, zc, zd, ze, zf, zg, zh, zi, zj, zk, zl, zm, zn, zo, zp, reduceCtorEq, zE, ↓reduceIte]
          all_goals rfl
      · simp -implicitDefEqProofs only [e20, c8_100_e, c8_101_e, c8_102_r, (show opsOf c8_102 = _ :: _ from rfl), (show c8_103 = Code.cond _ c8_104 c8_107 from rfl), yc33, yc35, setA, setB, za, zb, zc, zd, ze, zf, zg, zh, zi, zj, zk, zl, zm, zn, zo, zp, reduceCtorEq, zE, ↓reduceIte]
        refine brB (fun yc40 => ?_) (fun yc40 => ?_)
        · simp -implicitDefEqProofs only [c8_107_e, yc33, yc35, yc40, setA, setB, za, zb, zc, zd, ze, zf, zg, zh, zi, zj, zk, zl, zm, zn, zo, zp, reduceCtorEq, zE, ↓reduceIte]
          exact j8_108v1_t body5_0 body5_1 at6 yr38.2.2.1 _ (by rfl) (by rfl) (by rfl)
        · simp -implicitDefEqProofs only [c8_104_e, c8_105_r, (show opsOf c8_105 = _ :: _ from rfl), c8_106_e, (scopeK_g (show hasLabel c8_3 0 = true by kernel_rfl)), yc33, yc35, yc40, setA, setB, za, zb, zc, zd, ze, zf, zg, zh, zi, zj, zk, zl, zm, zn, zo, zp, reduceCtorEq, zE, ↓reduceIte]
          all_goals rfl
def s8_2x3 (b0_0 : Bool) (b0_1 : List UInt8) (body5_1 body5_2 : Nat) (at6 e9 : Int) (h0 : List UInt8) : Option (((Bool × List UInt8) ⊕ (Bool × List UInt8 × Bool × List UInt8 × Int × Int) ⊕ (Bool × List UInt8 × Bool × List UInt8 × Int × Int) ⊕ (Bool × List UInt8 × Nat × Nat × Int × Int × List UInt8) ⊕ (Bool × List UInt8 × Nat × Nat × Int × Int × List UInt8) ⊕ (Bool × List UInt8 × Nat × Nat × Int × Int × List UInt8)) ⊕ R8) :=
  some (.inr (true, ([] : List UInt8), (0 : Int), e9))
theorem s8_2x3_t (b0_0 : Bool) (b0_1 : List UInt8) (body5_1 body5_2 : Nat) (at6 e9 : Int) (h0 : List UInt8) :
    stepE (K8_2 (mm := mm)) (scopeF (E0 mm) 8 0 (callW (E0 mm)) itW c8_3 [(0, .keep), (5, .keep), (6, .keep), (9, .keep)] (some 0, [.v (.c (.d (.lst b0_0 (enL enB b0_1)))), .v (.c (.slc 0 0 1 body5_1 (some body5_2))), .v (.c (.d (.sc (.int .i64 at6)))), .v (.c (.d (.sc (.int .i64 e9))))], [.cells (enC h0)])) = (s8_2x3 b0_0 b0_1 body5_1 body5_2 at6 e9 h0).map (sm en8_2 e8) := by
  simp -implicitDefEqProofs only [s8_2x3, scopeF_eq, (show ∀ f st, den (E0 mm) 8 0 (callW (E0 mm)) itW c8_3 f st = den (E0 mm) 8 0 (callW (E0 mm)) itW (.seq c8_4 c8_5) f st from fun _ _ => rfl), (den_seq_l0 (show hasLabel c8_4 0 = false by kernel_rfl)), c8_5_e, (den_seq_l0 (show hasLabel c8_6 0 = false by kernel_rfl)), c8_7_e, (den_seq_l0 (show hasLabel c8_8 0 = false by kernel_rfl)), c8_9_e, (den_seq_l0 (show hasLabel c8_10 0 = false by kernel_rfl)), c8_11_e, (den_seq_l0 (show hasLabel c8_12 0 = false by kernel_rfl)), c8_13_e, (den_seq_l0 (show hasLabel c8_14 0 = false by kernel_rfl)), c8_15_e, (den_seq_l0 (show hasLabel c8_16 0 = false by kernel_rfl)), c8_47_e, (den_seq_l0 (show hasLabel c8_48 0 = false by kernel_rfl)), c8_55_e, (den_seq_l0 (show hasLabel c8_56 0 = false by kernel_rfl)), c8_63_e, (den_seq_l0 (show hasLabel c8_64 0 = false by kernel_rfl)), c8_69_e, (den_seq_l0 (show hasLabel c8_70 0 = false by kernel_rfl)), c8_77_e, (den_seq_l0 (show hasLabel c8_78 0 = false by kernel_rfl)), c8_83_e, (den_seq_l0 (show hasLabel c8_84 0 = false by kernel_rfl)), c8_91_e, (den_seq_l0 (show hasLabel c8_92 0 = false by kernel_rfl)), c8_93_e, (den_seq_l0 (show hasLabel c8_94 0 = false by kernel_rfl)), c8_95_e, (den_seq_l0 (show hasLabel c8_96 0 = false by kernel_rfl)), c8_97_e, (den_seq_l0 (show hasLabel c8_98 0 = false by kernel_rfl)), c8_111_e, (den_seq_l1 (show hasLabel (Code.label 0) 0 = true by kernel_rfl)), c8_112_e, c8_113_e, c8_114_r, (show opsOf c8_114 = _ :: _ from rfl), c8_115_e, K8_2, setA, setB, za, zb, zc, zd, ze, zf, zg, zh, zi, zj, zk, zl, zm, zn, zo, zp, reduceCtorEq, zE, ↓reduceIte]
  all_goals rfl
def j8_91v1 (b0_0 : Bool) (b0_1 : List UInt8) (body5_1 body5_2 : Nat) (at6 e9 : Int) (h1 : List UInt8) : Option (((Bool × List UInt8) ⊕ (Bool × List UInt8 × Bool × List UInt8 × Int × Int) ⊕ (Bool × List UInt8 × Bool × List UInt8 × Int × Int) ⊕ (Bool × List UInt8 × Nat × Nat × Int × Int × List UInt8) ⊕ (Bool × List UInt8 × Nat × Nat × Int × Int × List UInt8) ⊕ (Bool × List UInt8 × Nat × Nat × Int × Int × List UInt8)) ⊕ R8) :=
  some (.inl (.inr (.inr (.inr (.inr (.inl (b0_0, b0_1, body5_1, body5_2, (w64 (at6 + 2)), e9, h1)))))))
theorem j8_91v1_t (b0_0 : Bool) (b0_1 : List UInt8) (body5_1 body5_2 : Nat) (at6 e9 : Int) (h1 : List UInt8) (g0 : Ob) (sl : Nat → AV) (zq0 : sl 0 = .v (.c (.d (.lst b0_0 (enL enB b0_1))))) (zq5 : sl 5 = .v (.c (.slc 1 0 1 body5_1 (some body5_2)))) (zq6 : sl 6 = .v (.c (.d (.sc (.int .i64 at6))))) (zq9 : sl 9 = .v (.c (.d (.sc (.int .i64 e9))))) :
    stepE (K8_2 (mm := mm)) (scopeK 0 [(0, .keep), (5, .keep), (6, .keep), (9, .keep)] c8_3 (den (E0 mm) 8 0 (callW (E0 mm)) itW c8_91 none ⟨sl, [g0, .cells (enC h1)]⟩)) = (j8_91v1 b0_0 b0_1 body5_1 body5_2 at6 e9 h1).map (sm en8_2 e8) := by
  simp -implicitDefEqProofs only [j8_91v1, c8_91_e, c8_92_r, (show opsOf c8_92 = _ :: _ from rfl), c8_93_e, c8_94_e, (scopeK_g (show hasLabel c8_3 1 = true by kernel_rfl)), zq0, zq5, zq6, zq9, setA, setB, za, zb, zc, zd, ze, zf, zg, zh, zi, zj, zk, zl, zm, zn, zo, zp, reduceCtorEq, zE, ↓reduceIte]
  all_goals rfl
def j8_86v1 (b0_0 : Bool) (b0_1 : List UInt8) (body5_1 body5_2 : Nat) (at6 e9 : Int) (t101 : Bool) (h1 : List UInt8) : Option (((Bool × List UInt8) ⊕ (Bool × List UInt8 × Bool × List UInt8 × Int × Int) ⊕ (Bool × List UInt8 × Bool × List UInt8 × Int × Int) ⊕ (Bool × List UInt8 × Nat × Nat × Int × Int × List UInt8) ⊕ (Bool × List UInt8 × Nat × Nat × Int × Int × List UInt8) ⊕ (Bool × List UInt8 × Nat × Nat × Int × Int × List UInt8)) ⊕ R8) :=
  if t101 = true then
    some (.inl (.inr (.inr (.inr (.inl (b0_0, b0_1, body5_1, body5_2, at6, (20 : Int), h1))))))
  else
    j8_91v1 b0_0 b0_1 body5_1 body5_2 at6 e9 h1
theorem j8_86v1_t (b0_0 : Bool) (b0_1 : List UInt8) (body5_1 body5_2 : Nat) (at6 e9 : Int) (t101 : Bool) (h1 : List UInt8) (g0 : Ob) (sl : Nat → AV) (zq0 : sl 0 = .v (.c (.d (.lst b0_0 (enL enB b0_1))))) (zq5 : sl 5 = .v (.c (.slc 1 0 1 body5_1 (some body5_2)))) (zq6 : sl 6 = .v (.c (.d (.sc (.int .i64 at6))))) (zq9 : sl 9 = .v (.c (.d (.sc (.int .i64 e9))))) (zq101 : sl 101 = .v (.c (.d (.sc (.bool t101))))) :
    stepE (K8_2 (mm := mm)) (scopeK 0 [(0, .keep), (5, .keep), (6, .keep), (9, .keep)] c8_3 (seqD (E0 mm) 8 0 (callW (E0 mm)) itW c8_91 (den (E0 mm) 8 0 (callW (E0 mm)) itW c8_86 none ⟨sl, [g0, .cells (enC h1)]⟩))) = (j8_86v1 b0_0 b0_1 body5_1 body5_2 at6 e9 t101 h1).map (sm en8_2 e8) := by
  simp -implicitDefEqProofs only [j8_86v1, (show c8_86 = Code.cond _ c8_87 c8_90 from rfl), zq0, zq5, zq6, zq9, zq101, setA, setB, za, zb, zc, zd, ze, zf, zg, zh, zi, zj, zk, zl, zm, zn, zo, zp, reduceCtorEq, zE, ↓reduceIte]
  refine brB (fun yc75 => ?_) (fun yc75 => ?_)
  · simp -implicitDefEqProofs only [c8_87_e, c8_88_r, (show opsOf c8_88 = _ :: _ from rfl), c8_89_e, (scopeK_g (show hasLabel c8_3 0 = true by kernel_rfl)), zq0, zq5, zq6, zq9, zq101, yc75, setA, setB, za, zb, zc, zd, ze, zf, zg, zh, zi, zj, zk, zl, zm, zn, zo, zp, reduceCtorEq, zE, ↓reduceIte]
    all_goals rfl
  · simp -implicitDefEqProofs only [c8_90_e, zq0, zq5, zq6, zq9, zq101, yc75, setA, setB, za, zb, zc, zd, ze, zf, zg, zh, zi, zj, zk, zl, zm, zn, zo, zp, reduceCtorEq, zE, ↓reduceIte]
    exact j8_91v1_t b0_0 b0_1 body5_1 body5_2 at6 e9 h1 _ _ (by exact zq0) (by exact zq5) (by exact zq6) (by exact zq9)
def j8_77v1 (b0_0 : Bool) (b0_1 : List UInt8) (body5_1 body5_2 : Nat) (at6 n7 e9 : Int) (h0 : List UInt8) : Option (((Bool × List UInt8) ⊕ (Bool × List UInt8 × Bool × List UInt8 × Int × Int) ⊕ (Bool × List UInt8 × Bool × List UInt8 × Int × Int) ⊕ (Bool × List UInt8 × Nat × Nat × Int × Int × List UInt8) ⊕ (Bool × List UInt8 × Nat × Nat × Int × Int × List UInt8) ⊕ (Bool × List UInt8 × Nat × Nat × Int × Int × List UInt8)) ⊕ R8) :=
  if 0 ≤ (w64 ((body5_1 : Int) + (w64 n7))) ∧ (w64 ((body5_1 : Int) + (w64 n7))) ≤ 140737488355328 then
    if body5_1 ≤ h0.length then
      (bnd (((min (h0.take body5_1).length ((w64 ((body5_1 : Int) + (w64 n7))).toNat)) : Nat) : Int) ((w64 ((body5_1 : Int) + (w64 n7))).toNat)).bind fun yk66 =>
        (bnd at6 b0_1.length).bind fun yk68 =>
          if yk66 + ((w64 ((body5_1 : Int) + (w64 n7))).toNat - yk66) ≤ (cpy (List.replicate ((w64 ((body5_1 : Int) + (w64 n7))).toNat) (0 : UInt8)) 0 ((w64 ((body5_1 : Int) + (w64 n7))).toNat) (h0.take body5_1)).length then
            if 0 ≤ (w64 (at6 + (w64 n7))) ∧ (w64 (at6 + (w64 n7))) < (b0_1.length : Int) then
              if ((b0_1.getD ((w64 (at6 + (w64 n7))).toNat) default) == (13 : UInt8)) = true then
                if 0 ≤ (w64 ((w64 (at6 + (w64 n7))) + 1)) ∧ (w64 ((w64 (at6 + (w64 n7))) + 1)) < (b0_1.length : Int) then
                  j8_86v1 b0_0 b0_1 ((w64 ((body5_1 : Int) + (w64 n7))).toNat) ((w64 ((body5_1 : Int) + (w64 n7))).toNat) (w64 (at6 + (w64 n7))) e9 (!((b0_1.getD ((w64 ((w64 (at6 + (w64 n7))) + 1)).toNat) default) == (10 : UInt8))) (cpy (cpy (List.replicate ((w64 ((body5_1 : Int) + (w64 n7))).toNat) (0 : UInt8)) 0 ((w64 ((body5_1 : Int) + (w64 n7))).toNat) (h0.take body5_1)) yk66 ((w64 ((body5_1 : Int) + (w64 n7))).toNat - yk66) (b0_1.drop yk68))
                else none
              else
                j8_86v1 b0_0 b0_1 ((w64 ((body5_1 : Int) + (w64 n7))).toNat) ((w64 ((body5_1 : Int) + (w64 n7))).toNat) (w64 (at6 + (w64 n7))) e9 true (cpy (cpy (List.replicate ((w64 ((body5_1 : Int) + (w64 n7))).toNat) (0 : UInt8)) 0 ((w64 ((body5_1 : Int) + (w64 n7))).toNat) (h0.take body5_1)) yk66 ((w64 ((body5_1 : Int) + (w64 n7))).toNat - yk66) (b0_1.drop yk68))
            else none
          else none
    else none
  else none
theorem j8_77v1_t (b0_0 : Bool) (b0_1 : List UInt8) (body5_1 body5_2 : Nat) (at6 n7 e9 : Int) (h0 : List UInt8)  (sl : Nat → AV) (zq0 : sl 0 = .v (.c (.d (.lst b0_0 (enL enB b0_1))))) (zq5 : sl 5 = .v (.c (.slc 0 0 1 body5_1 (some body5_2)))) (zq6 : sl 6 = .v (.c (.d (.sc (.int .i64 at6))))) (zq7 : sl 7 = .v (.c (.d (.sc (.int .u64 n7))))) (zq9 : sl 9 = .v (.c (.d (.sc (.int .i64 e9))))) :
    stepE (K8_2 (mm := mm)) (scopeK 0 [(0, .keep), (5, .keep), (6, .keep), (9, .keep)] c8_3 (den (E0 mm) 8 0 (callW (E0 mm)) itW c8_77 none ⟨sl, [.cells (enC h0)]⟩)) = (j8_77v1 b0_0 b0_1 body5_1 body5_2 at6 n7 e9 h0).map (sm en8_2 e8) := by
  simp -implicitDefEqProofs only [j8_77v1, c8_77_e, c8_78_e, c8_79_r, (show opsOf c8_79 = _ :: _ from rfl), Tryd.underlying22, Tryd.underlying43, Tryd.underlying3, sz5, by5, zc5, enC_rep, Int.le_refl, Int.mul_one, true_and, (show (2 : Int) ^ 47 = 140737488355328 from rfl), zq0, zq5, zq6, zq7, zq9, setA, setB, za, zb, zc, zd, ze, zf, zg, zh, zi, zj, zk, zl, zm, zn, zo, zp, reduceCtorEq, zE, ↓reduceIte]
  refine brP (fun yc63 => ?_) (fun yc63 => ?_)
  · simp -implicitDefEqProofs only [c8_80_e, c8_81_r, (show opsOf c8_81 = _ :: _ from rfl), Tryd.underlying22, (copyA_b Tryd.underlying22 sz5), cpO_en, enC_length, enC_take, mapM_enC, enC_drop, zq0, zq5, zq6, zq7, zq9, yc63, setA, setB, za, zb, zc, zd, ze, zf, zg, zh, zi, zj, zk, zl, zm, zn, zo, zp, reduceCtorEq, zE, ↓reduceIte]
    refine brP (fun yc64 => ?_) (fun yc64 => ?_)
    · simp -implicitDefEqProofs only [enC_length, enC_take, mapM_enC, enC_drop, (chunk_enD body5_1 h0 yc64), (copyA_b Tryd.underlying22 sz5), cpO_en, Nat.zero_add, List.length_replicate, Nat.le_refl, if_true, Tryd.underlying22, sz5, Option.getD_none, Option.getD_some, Option.map_none, Option.map_some, Nat.sub_zero, Nat.zero_mul, Nat.mul_one, zq0, zq5, zq6, zq7, zq9, yc63, yc64, setA, setB, za, zb, zc, zd, ze, zf, zg, zh, zi, zj, zk, zl, zm, zn, zo, zp, reduceCtorEq, zE, ↓reduceIte]
      refine brM (fun yc65 => ?_) (fun yk66 yc65 => ?_)
      · rw [yc65]; rfl
      · simp -implicitDefEqProofs only [Tryd.underlying22, enB_a, sz5, zq0, zq5, zq6, zq7, zq9, yc63, yc64, yc65, setA, setB, za, zb, zc, zd, ze, zf, zg, zh, zi, zj, zk, zl, zm, zn, zo, zp, reduceCtorEq, zE, ↓reduceIte]
        refine brM (fun yc67 => ?_) (fun yk68 yc67 => ?_)
        · rw [yc67]; rfl
        · simp -implicitDefEqProofs only [Option.isNone_some, Bool.false_and, Bool.and_false, Bool.false_eq_true, if_false, Tryd.underlying22, (copyA_b Tryd.underlying22 sz5), cpO_en, zq0, zq5, zq6, zq7, zq9, yc63, yc64, yc65, yc67, setA, setB, za, zb, zc, zd, ze, zf, zg, zh, zi, zj, zk, zl, zm, zn, zo, zp, reduceCtorEq, zE, ↓reduceIte]
          refine brP (fun yc69 => ?_) (fun yc69 => ?_)
          · simp -implicitDefEqProofs only [c8_82_r, (show opsOf c8_82 = _ :: _ from rfl), Tryd.underlying43, Tryd.underlying3, c8_83_e, c8_84_e, c8_85_r, (show opsOf c8_85 = _ :: _ from rfl), Tryd.underlying22, sz5, enB_a, zq0, zq5, zq6, zq7, zq9, yc63, yc64, yc65, yc67, yc69, setA, setB, za, zb, zc, zd, ze, zf, zg, zh, zi, zj, zk, zl, zm, zn, zo, zp, reduceCtorEq, zE, ↓reduceIte]
            refine brP (fun yc70 => ?_) (fun yc70 => ?_)
            · have yd71 : (w64 (at6 + (w64 n7))).toNat < b0_1.length := by omega
              simp -implicitDefEqProofs only [(enL_get enB b0_1 ((w64 (at6 + (w64 n7))).toNat) yd71), enB_e, sz5, ag5, zq0, zq5, zq6, zq7, zq9, yc63, yc64, yc65, yc67, yc69, yc70, yd71, setA, setB, za, zb, zc, zd, ze, zf, zg, zh, zi, zj, zk, zl, zm, zn, zo, zp, reduceCtorEq, zE, ↓reduceIte]
              refine brB (fun yc72 => ?_) (fun yc72 => ?_)
              · simp -implicitDefEqProofs only [Tryd.underlying22, sz5, enB_a, zq0, zq5, zq6, zq7, zq9, yc63, yc64, yc65, yc67, yc69, yc70, yd71, yc72, setA, setB, za, zb, zc, zd, ze, zf, zg, zh, zi, zj, zk, zl, zm, zn, zo, zp, reduceCtorEq, zE, ↓reduceIte]
                refine brP (fun yc73 => ?_) (fun yc73 => ?_)
                · have yd74 : (w64 ((w64 (at6 + (w64 n7))) + 1)).toNat < b0_1.length := by omega
                  simp -implicitDefEqProofs only [(enL_get enB b0_1 ((w64 ((w64 (at6 + (w64 n7))) + 1)).toNat) yd74), enB_e, sz5, ag5, zq0, zq5, zq6, zq7, zq9, yc63, yc64, yc65, yc67, yc69, yc70, yd71, yc72, yc73, yd74, setA, setB, za, zb, zc, zd, ze, zf, zg, zh, zi, zj, zk, zl, zm, zn, zo, zp, reduceCtorEq, zE, ↓reduceIte]
                  exact j8_86v1_t b0_0 b0_1 ((w64 ((body5_1 : Int) + (w64 n7))).toNat) ((w64 ((body5_1 : Int) + (w64 n7))).toNat) (w64 (at6 + (w64 n7))) e9 (!((b0_1.getD ((w64 ((w64 (at6 + (w64 n7))) + 1)).toNat) default) == (10 : UInt8))) (cpy (cpy (List.replicate ((w64 ((body5_1 : Int) + (w64 n7))).toNat) (0 : UInt8)) 0 ((w64 ((body5_1 : Int) + (w64 n7))).toNat) (h0.take body5_1)) yk66 ((w64 ((body5_1 : Int) + (w64 n7))).toNat - yk66) (b0_1.drop yk68)) _ _ (by exact zq0) (by rfl) (by rfl) (by exact zq9) (by rfl)
                · rw [if_neg yc73]; rfl
              · simp -implicitDefEqProofs only [zq0, zq5, zq6, zq7, zq9, yc63, yc64, yc65, yc67, yc69, yc70, yd71, yc72, setA, setB, za, zb, zc, zd, ze, zf, zg, zh, zi, zj, zk, zl, zm, zn, zo, zp, reduceCtorEq, zE, ↓reduceIte]
                exact j8_86v1_t b0_0 b0_1 ((w64 ((body5_1 : Int) + (w64 n7))).toNat) ((w64 ((body5_1 : Int) + (w64 n7))).toNat) (w64 (at6 + (w64 n7))) e9 true (cpy (cpy (List.replicate ((w64 ((body5_1 : Int) + (w64 n7))).toNat) (0 : UInt8)) 0 ((w64 ((body5_1 : Int) + (w64 n7))).toNat) (h0.take body5_1)) yk66 ((w64 ((body5_1 : Int) + (w64 n7))).toNat - yk66) (b0_1.drop yk68)) _ _ (by exact zq0) (by rfl) (by rfl) (by exact zq9) (by rfl)
            · rw [if_neg yc70]; rfl
          · rw [if_neg yc69]; rfl
    · rw [if_neg yc64]; rfl
  · rw [if_neg yc63]; rfl
def j8_69v1 (b0_0 : Bool) (b0_1 : List UInt8) (body5_1 body5_2 : Nat) (at6 n7 e9 : Int) (h0 : List UInt8) : Option (((Bool × List UInt8) ⊕ (Bool × List UInt8 × Bool × List UInt8 × Int × Int) ⊕ (Bool × List UInt8 × Bool × List UInt8 × Int × Int) ⊕ (Bool × List UInt8 × Nat × Nat × Int × Int × List UInt8) ⊕ (Bool × List UInt8 × Nat × Nat × Int × Int × List UInt8) ⊕ (Bool × List UInt8 × Nat × Nat × Int × Int × List UInt8)) ⊕ R8) :=
  if (decide ((w64 ((b0_1.length : Int) - at6)) < (w64 ((w64 n7) + 2)))) = true then
    some (.inl (.inr (.inr (.inr (.inl (b0_0, b0_1, body5_1, body5_2, at6, (8 : Int), h0))))))
  else
    j8_77v1 b0_0 b0_1 body5_1 body5_2 at6 n7 e9 h0
theorem j8_69v1_t (b0_0 : Bool) (b0_1 : List UInt8) (body5_1 body5_2 : Nat) (at6 n7 e9 : Int) (h0 : List UInt8)  (sl : Nat → AV) (zq0 : sl 0 = .v (.c (.d (.lst b0_0 (enL enB b0_1))))) (zq5 : sl 5 = .v (.c (.slc 0 0 1 body5_1 (some body5_2)))) (zq6 : sl 6 = .v (.c (.d (.sc (.int .i64 at6))))) (zq7 : sl 7 = .v (.c (.d (.sc (.int .u64 n7))))) (zq9 : sl 9 = .v (.c (.d (.sc (.int .i64 e9))))) :
    stepE (K8_2 (mm := mm)) (scopeK 0 [(0, .keep), (5, .keep), (6, .keep), (9, .keep)] c8_3 (den (E0 mm) 8 0 (callW (E0 mm)) itW c8_69 none ⟨sl, [.cells (enC h0)]⟩)) = (j8_69v1 b0_0 b0_1 body5_1 body5_2 at6 n7 e9 h0).map (sm en8_2 e8) := by
  simp -implicitDefEqProofs only [j8_69v1, c8_69_e, c8_70_e, c8_71_r, (show opsOf c8_71 = _ :: _ from rfl), Tryd.underlying22, Tryd.underlying43, Tryd.underlying3, (show c8_72 = Code.cond _ c8_73 c8_76 from rfl), zq0, zq5, zq6, zq7, zq9, setA, setB, za, zb, zc, zd, ze, zf, zg, zh, zi, zj, zk, zl, zm, zn, zo, zp, reduceCtorEq, zE, ↓reduceIte]
  refine brB (fun yc62 => ?_) (fun yc62 => ?_)
  · simp -implicitDefEqProofs only [c8_73_e, c8_74_r, (show opsOf c8_74 = _ :: _ from rfl), c8_75_e, (scopeK_g (show hasLabel c8_3 0 = true by kernel_rfl)), zq0, zq5, zq6, zq7, zq9, yc62, setA, setB, za, zb, zc, zd, ze, zf, zg, zh, zi, zj, zk, zl, zm, zn, zo, zp, reduceCtorEq, zE, ↓reduceIte]
    all_goals rfl
  · simp -implicitDefEqProofs only [c8_76_e, zq0, zq5, zq6, zq7, zq9, yc62, setA, setB, za, zb, zc, zd, ze, zf, zg, zh, zi, zj, zk, zl, zm, zn, zo, zp, reduceCtorEq, zE, ↓reduceIte]
    exact j8_77v1_t b0_0 b0_1 body5_1 body5_2 at6 n7 e9 h0 _ (by exact zq0) (by exact zq5) (by exact zq6) (by exact zq7) (by exact zq9)
def j8_63v1 (b0_0 : Bool) (b0_1 : List UInt8) (body5_1 body5_2 : Nat) (at6 n7 e9 : Int) (h0 : List UInt8) : Option (((Bool × List UInt8) ⊕ (Bool × List UInt8 × Bool × List UInt8 × Int × Int) ⊕ (Bool × List UInt8 × Bool × List UInt8 × Int × Int) ⊕ (Bool × List UInt8 × Nat × Nat × Int × Int × List UInt8) ⊕ (Bool × List UInt8 × Nat × Nat × Int × Int × List UInt8) ⊕ (Bool × List UInt8 × Nat × Nat × Int × Int × List UInt8)) ⊕ R8) :=
  if (n7 == 0) = true then
    some (.inl (.inr (.inr (.inr (.inr (.inr (b0_0, b0_1, body5_1, body5_2, at6, e9, h0)))))))
  else
    j8_69v1 b0_0 b0_1 body5_1 body5_2 at6 n7 e9 h0
theorem j8_63v1_t (b0_0 : Bool) (b0_1 : List UInt8) (body5_1 body5_2 : Nat) (at6 n7 e9 : Int) (h0 : List UInt8)  (sl : Nat → AV) (zq0 : sl 0 = .v (.c (.d (.lst b0_0 (enL enB b0_1))))) (zq5 : sl 5 = .v (.c (.slc 0 0 1 body5_1 (some body5_2)))) (zq6 : sl 6 = .v (.c (.d (.sc (.int .i64 at6))))) (zq7 : sl 7 = .v (.c (.d (.sc (.int .u64 n7))))) (zq9 : sl 9 = .v (.c (.d (.sc (.int .i64 e9))))) :
    stepE (K8_2 (mm := mm)) (scopeK 0 [(0, .keep), (5, .keep), (6, .keep), (9, .keep)] c8_3 (den (E0 mm) 8 0 (callW (E0 mm)) itW c8_63 none ⟨sl, [.cells (enC h0)]⟩)) = (j8_63v1 b0_0 b0_1 body5_1 body5_2 at6 n7 e9 h0).map (sm en8_2 e8) := by
  simp -implicitDefEqProofs only [j8_63v1, c8_63_e, c8_64_e, c8_65_r, (show opsOf c8_65 = _ :: _ from rfl), (show c8_66 = Code.cond _ c8_67 c8_68 from rfl), zq0, zq5, zq6, zq7, zq9, setA, setB, za, zb, zc, zd, ze, zf, zg, zh, zi, zj, zk, zl, zm, zn, zo, zp, reduceCtorEq, zE, ↓reduceIte]
  refine brB (fun yc61 => ?_) (fun yc61 => ?_)
  · simp -implicitDefEqProofs only [c8_67_e, (scopeK_g (show hasLabel c8_3 2 = true by kernel_rfl)), zq0, zq5, zq6, zq7, zq9, yc61, setA, setB, za, zb, zc, zd, ze, zf, zg, zh, zi, zj, zk, zl, zm, zn, zo, zp, reduceCtorEq, zE, ↓reduceIte]
    all_goals rfl
  · simp -implicitDefEqProofs only [c8_68_e, zq0, zq5, zq6, zq7, zq9, yc61, setA, setB, za, zb, zc, zd, ze, zf, zg, zh, zi, zj, zk, zl, zm, zn, zo, zp, reduceCtorEq, zE, ↓reduceIte]
    exact j8_69v1_t b0_0 b0_1 body5_1 body5_2 at6 n7 e9 h0 _ (by exact zq0) (by exact zq5) (by exact zq6) (by exact zq7) (by exact zq9)
def j8_55v1 (b0_0 : Bool) (b0_1 : List UInt8) (body5_1 body5_2 : Nat) (at6 n7 e9 : Int) (h0 : List UInt8) : Option (((Bool × List UInt8) ⊕ (Bool × List UInt8 × Bool × List UInt8 × Int × Int) ⊕ (Bool × List UInt8 × Bool × List UInt8 × Int × Int) ⊕ (Bool × List UInt8 × Nat × Nat × Int × Int × List UInt8) ⊕ (Bool × List UInt8 × Nat × Nat × Int × Int × List UInt8) ⊕ (Bool × List UInt8 × Nat × Nat × Int × Int × List UInt8)) ⊕ R8) :=
  if (decide ((wu64 (w64 (4096 - (body5_1 : Int)))) < n7)) = true then
    some (.inl (.inr (.inr (.inr (.inl (b0_0, b0_1, body5_1, body5_2, at6, (21 : Int), h0))))))
  else
    j8_63v1 b0_0 b0_1 body5_1 body5_2 at6 n7 e9 h0
theorem j8_55v1_t (b0_0 : Bool) (b0_1 : List UInt8) (body5_1 body5_2 : Nat) (at6 n7 e9 : Int) (h0 : List UInt8)  (sl : Nat → AV) (zq0 : sl 0 = .v (.c (.d (.lst b0_0 (enL enB b0_1))))) (zq5 : sl 5 = .v (.c (.slc 0 0 1 body5_1 (some body5_2)))) (zq6 : sl 6 = .v (.c (.d (.sc (.int .i64 at6))))) (zq7 : sl 7 = .v (.c (.d (.sc (.int .u64 n7))))) (zq9 : sl 9 = .v (.c (.d (.sc (.int .i64 e9))))) :
    stepE (K8_2 (mm := mm)) (scopeK 0 [(0, .keep), (5, .keep), (6, .keep), (9, .keep)] c8_3 (den (E0 mm) 8 0 (callW (E0 mm)) itW c8_55 none ⟨sl, [.cells (enC h0)]⟩)) = (j8_55v1 b0_0 b0_1 body5_1 body5_2 at6 n7 e9 h0).map (sm en8_2 e8) := by
  simp -implicitDefEqProofs only [j8_55v1, c8_55_e, c8_56_e, c8_57_r, (show opsOf c8_57 = _ :: _ from rfl), Tryd.underlying22, Tryd.underlying3, Tryd.underlying43, (show c8_58 = Code.cond _ c8_59 c8_62 from rfl), zq0, zq5, zq6, zq7, zq9, setA, setB, za, zb, zc, zd, ze, zf, zg, zh, zi, zj, zk, zl, zm, zn, zo, zp, reduceCtorEq, zE, ↓reduceIte]
  refine brB (fun yc60 => ?_) (fun yc60 => ?_)
  · simp -implicitDefEqProofs only [c8_59_e, c8_60_r, (show opsOf c8_60 = _ :: _ from rfl), c8_61_e, (scopeK_g (show hasLabel c8_3 0 = true by kernel_rfl)), zq0, zq5, zq6, zq7, zq9, yc60, setA, setB, za, zb, zc, zd, ze, zf, zg, zh, zi, zj, zk, zl, zm, zn, zo, zp, reduceCtorEq, zE, ↓reduceIte]
    all_goals rfl
  · simp -implicitDefEqProofs only [c8_62_e, zq0, zq5, zq6, zq7, zq9, yc60, setA, setB, za, zb, zc, zd, ze, zf, zg, zh, zi, zj, zk, zl, zm, zn, zo, zp, reduceCtorEq, zE, ↓reduceIte]
    exact j8_63v1_t b0_0 b0_1 body5_1 body5_2 at6 n7 e9 h0 _ (by exact zq0) (by exact zq5) (by exact zq6) (by exact zq7) (by exact zq9)
def j8_47v1 (b0_0 : Bool) (b0_1 : List UInt8) (body5_1 body5_2 : Nat) (at6 : Int) (line8 : Bs) (h0 : List UInt8) : Option (((Bool × List UInt8) ⊕ (Bool × List UInt8 × Bool × List UInt8 × Int × Int) ⊕ (Bool × List UInt8 × Bool × List UInt8 × Int × Int) ⊕ (Bool × List UInt8 × Nat × Nat × Int × Int × List UInt8) ⊕ (Bool × List UInt8 × Nat × Nat × Int × Int × List UInt8) ⊕ (Bool × List UInt8 × Nat × Nat × Int × Int × List UInt8)) ⊕ R8) :=
  (m19 line8 ([13] : Bs)).bind fun yr56 =>
    (m18 yr56).bind fun yr58 =>
      if (yr58.2 == 0) = true then
        j8_55v1 b0_0 b0_1 body5_1 body5_2 at6 yr58.1 yr58.2 h0
      else
        some (.inl (.inr (.inr (.inr (.inl (b0_0, b0_1, body5_1, body5_2, at6, yr58.2, h0))))))
theorem j8_47v1_t (b0_0 : Bool) (b0_1 : List UInt8) (body5_1 body5_2 : Nat) (at6 : Int) (line8 : Bs) (h0 : List UInt8)  (sl : Nat → AV) (zq0 : sl 0 = .v (.c (.d (.lst b0_0 (enL enB b0_1))))) (zq5 : sl 5 = .v (.c (.slc 0 0 1 body5_1 (some body5_2)))) (zq6 : sl 6 = .v (.c (.d (.sc (.int .i64 at6))))) (zq8 : sl 8 = .v (.c (.d (.sc (.string (S line8)))))) :
    stepE (K8_2 (mm := mm)) (scopeK 0 [(0, .keep), (5, .keep), (6, .keep), (9, .keep)] c8_3 (den (E0 mm) 8 0 (callW (E0 mm)) itW c8_47 none ⟨sl, [.cells (enC h0)]⟩)) = (j8_47v1 b0_0 b0_1 body5_1 body5_2 at6 line8 h0).map (sm en8_2 e8) := by
  simp -implicitDefEqProofs only [j8_47v1, c8_47_e, c8_48_e, c8_49_r, (show opsOf c8_49 = _ :: _ from rfl), ent19, prm19, (show callW (E0 mm) 19 [.c (.d (.sc (.string (S line8)))), .c (.d (.sc (.string (S ([13] : Bs)))))] [] = _ from f19_t line8 ([13] : Bs)), zq0, zq5, zq6, zq8, setA, setB, za, zb, zc, zd, ze, zf, zg, zh, zi, zj, zk, zl, zm, zn, zo, zp, reduceCtorEq, zE, ↓reduceIte]
  refine brM (fun yc55 => ?_) (fun yr56 yc55 => ?_)
  · rw [yc55]; rfl
  · simp -implicitDefEqProofs only [e19, ent18, prm18, f18_t, zq0, zq5, zq6, zq8, yc55, setA, setB, za, zb, zc, zd, ze, zf, zg, zh, zi, zj, zk, zl, zm, zn, zo, zp, reduceCtorEq, zE, ↓reduceIte]
    refine brM (fun yc57 => ?_) (fun yr58 yc57 => ?_)
    · rw [yc57]; rfl
    · simp -implicitDefEqProofs only [e18, c8_50_e, c8_51_r, (show opsOf c8_51 = _ :: _ from rfl), (show c8_52 = Code.cond _ c8_53 c8_54 from rfl), zq0, zq5, zq6, zq8, yc55, yc57, setA, setB, za, zb, zc, zd, ze, zf, zg, zh, zi, zj, zk, zl, zm, zn, zo, zp, reduceCtorEq, zE, ↓reduceIte]
      refine brB (fun yc59 => ?_) (fun yc59 => ?_)
      · simp -implicitDefEqProofs only [c8_54_e, zq0, zq5, zq6, zq8, yc55, yc57, yc59, setA, setB, za, zb, zc, zd, ze, zf, zg, zh, zi, zj, zk, zl, zm, zn, zo, zp, reduceCtorEq, zE, ↓reduceIte]
        exact j8_55v1_t b0_0 b0_1 body5_1 body5_2 at6 yr58.1 yr58.2 h0 _ (by exact zq0) (by exact zq5) (by exact zq6) (by rfl) (by rfl)
      · simp -implicitDefEqProofs only [c8_53_e, (scopeK_g (show hasLabel c8_3 0 = true by kernel_rfl)), zq0, zq5, zq6, zq8, yc55, yc57, yc59, setA, setB, za, zb, zc, zd, ze, zf, zg, zh, zi, zj, zk, zl, zm, zn, zo, zp, reduceCtorEq, zE, ↓reduceIte]
        all_goals rfl
def j8_36v1 (b0_0 : Bool) (b0_1 : List UInt8) (body5_1 body5_2 : Nat) (at6 : Int) (rest10_0 : Bool) (rest10_1 : List UInt8) (end11 : Int) (h0 : List UInt8) : Option (((Bool × List UInt8) ⊕ (Bool × List UInt8 × Bool × List UInt8 × Int × Int) ⊕ (Bool × List UInt8 × Bool × List UInt8 × Int × Int) ⊕ (Bool × List UInt8 × Nat × Nat × Int × Int × List UInt8) ⊕ (Bool × List UInt8 × Nat × Nat × Int × Int × List UInt8) ⊕ (Bool × List UInt8 × Nat × Nat × Int × Int × List UInt8)) ⊕ R8) :=
  (bnd end11 rest10_1.length).bind fun yk51 =>
    (m17 (rest10_1.take yk51) ([13] : Bs)).bind fun yr53 =>
      if yr53 = true then
        j8_47v1 b0_0 b0_1 body5_1 body5_2 (w64 (at6 + (w64 (end11 + 1)))) (rest10_1.take yk51) h0
      else
        some (.inl (.inr (.inr (.inr (.inl (b0_0, b0_1, body5_1, body5_2, (w64 (at6 + (w64 (end11 + 1)))), (20 : Int), h0))))))
theorem j8_36v1_t (b0_0 : Bool) (b0_1 : List UInt8) (body5_1 body5_2 : Nat) (at6 : Int) (rest10_0 : Bool) (rest10_1 : List UInt8) (end11 : Int) (h0 : List UInt8)  (sl : Nat → AV) (zq0 : sl 0 = .v (.c (.d (.lst b0_0 (enL enB b0_1))))) (zq5 : sl 5 = .v (.c (.slc 0 0 1 body5_1 (some body5_2)))) (zq6 : sl 6 = .v (.c (.d (.sc (.int .i64 at6))))) (zq10 : sl 10 = .v (.c (.d (.lst rest10_0 (enL enB rest10_1))))) (zq11 : sl 11 = .v (.c (.d (.sc (.int .i64 end11))))) :
    stepE (K8_2 (mm := mm)) (scopeK 0 [(0, .keep), (5, .keep), (6, .keep), (9, .keep)] c8_3 (seqD (E0 mm) 8 0 (callW (E0 mm)) itW c8_47 (den (E0 mm) 8 0 (callW (E0 mm)) itW c8_36 none ⟨sl, [.cells (enC h0)]⟩))) = (j8_36v1 b0_0 b0_1 body5_1 body5_2 at6 rest10_0 rest10_1 end11 h0).map (sm en8_2 e8) := by
  simp -implicitDefEqProofs only [j8_36v1, c8_36_e, c8_37_r, (show opsOf c8_37 = _ :: _ from rfl), c8_38_e, c8_39_r, (show opsOf c8_39 = _ :: _ from rfl), Tryd.underlying22, enB_a, sz5, zq0, zq5, zq6, zq10, zq11, setA, setB, za, zb, zc, zd, ze, zf, zg, zh, zi, zj, zk, zl, zm, zn, zo, zp, reduceCtorEq, zE, ↓reduceIte]
  refine brM (fun yc50 => ?_) (fun yk51 yc50 => ?_)
  · rw [yc50]; rfl
  · simp -implicitDefEqProofs only [Option.isNone_some, Bool.false_and, Bool.and_false, Bool.false_eq_true, if_false, Tryd.underlying22, Tryd.underlying9, Tryd.underlying5, c8_40_e, c8_41_r, (show opsOf c8_41 = _ :: _ from rfl), ent17, prm17, (show callW (E0 mm) 17 [.c (.d (.sc (.string (S (rest10_1.take yk51))))), .c (.d (.sc (.string (S ([13] : Bs)))))] [] = _ from f17_t (rest10_1.take yk51) ([13] : Bs)), zq0, zq5, zq6, zq10, zq11, yc50, setA, setB, za, zb, zc, zd, ze, zf, zg, zh, zi, zj, zk, zl, zm, zn, zo, zp, reduceCtorEq, zE, ↓reduceIte]
    refine brM (fun yc52 => ?_) (fun yr53 yc52 => ?_)
    · rw [yc52]; rfl
    · simp -implicitDefEqProofs only [e17, (show c8_42 = Code.cond _ c8_43 c8_46 from rfl), zq0, zq5, zq6, zq10, zq11, yc50, yc52, setA, setB, za, zb, zc, zd, ze, zf, zg, zh, zi, zj, zk, zl, zm, zn, zo, zp, reduceCtorEq, zE, ↓reduceIte]
      refine brB (fun yc54 => ?_) (fun yc54 => ?_)
      · simp -implicitDefEqProofs only [c8_46_e, zq0, zq5, zq6, zq10, zq11, yc50, yc52, yc54, setA, setB, za, zb, zc, zd, ze, zf, zg, zh, zi, zj, zk, zl, zm, zn, zo, zp, reduceCtorEq, zE, ↓reduceIte]
        exact j8_47v1_t b0_0 b0_1 body5_1 body5_2 (w64 (at6 + (w64 (end11 + 1)))) (rest10_1.take yk51) h0 _ (by exact zq0) (by exact zq5) (by rfl) (by rfl)
      · simp -implicitDefEqProofs only [c8_43_e, c8_44_r, (show opsOf c8_44 = _ :: _ from rfl), c8_45_e, (scopeK_g (show hasLabel c8_3 0 = true by kernel_rfl)), zq0, zq5, zq6, zq10, zq11, yc50, yc52, yc54, setA, setB, za, zb, zc, zd, ze, zf, zg, zh, zi, zj, zk, zl, zm, zn, zo, zp, reduceCtorEq, zE, ↓reduceIte]
        all_goals rfl
def j8_28v1 (b0_0 : Bool) (b0_1 : List UInt8) (body5_1 body5_2 : Nat) (at6 : Int) (rest10_0 : Bool) (rest10_1 : List UInt8) (end11 : Int) (h0 : List UInt8) : Option (((Bool × List UInt8) ⊕ (Bool × List UInt8 × Bool × List UInt8 × Int × Int) ⊕ (Bool × List UInt8 × Bool × List UInt8 × Int × Int) ⊕ (Bool × List UInt8 × Nat × Nat × Int × Int × List UInt8) ⊕ (Bool × List UInt8 × Nat × Nat × Int × Int × List UInt8) ⊕ (Bool × List UInt8 × Nat × Nat × Int × Int × List UInt8)) ⊕ R8) :=
  if (decide (end11 < 0)) = true then
    some (.inl (.inr (.inr (.inr (.inl (b0_0, b0_1, body5_1, body5_2, at6, (8 : Int), h0))))))
  else
    j8_36v1 b0_0 b0_1 body5_1 body5_2 at6 rest10_0 rest10_1 end11 h0
theorem j8_28v1_t (b0_0 : Bool) (b0_1 : List UInt8) (body5_1 body5_2 : Nat) (at6 : Int) (rest10_0 : Bool) (rest10_1 : List UInt8) (end11 : Int) (h0 : List UInt8)  (sl : Nat → AV) (zq0 : sl 0 = .v (.c (.d (.lst b0_0 (enL enB b0_1))))) (zq5 : sl 5 = .v (.c (.slc 0 0 1 body5_1 (some body5_2)))) (zq6 : sl 6 = .v (.c (.d (.sc (.int .i64 at6))))) (zq10 : sl 10 = .v (.c (.d (.lst rest10_0 (enL enB rest10_1))))) (zq11 : sl 11 = .v (.c (.d (.sc (.int .i64 end11))))) :
    stepE (K8_2 (mm := mm)) (scopeK 0 [(0, .keep), (5, .keep), (6, .keep), (9, .keep)] c8_3 (seqD (E0 mm) 8 0 (callW (E0 mm)) itW c8_47 (den (E0 mm) 8 0 (callW (E0 mm)) itW c8_28 none ⟨sl, [.cells (enC h0)]⟩))) = (j8_28v1 b0_0 b0_1 body5_1 body5_2 at6 rest10_0 rest10_1 end11 h0).map (sm en8_2 e8) := by
  simp -implicitDefEqProofs only [j8_28v1, c8_28_e, c8_29_e, c8_30_r, (show opsOf c8_30 = _ :: _ from rfl), (show c8_31 = Code.cond _ c8_32 c8_35 from rfl), zq0, zq5, zq6, zq10, zq11, setA, setB, za, zb, zc, zd, ze, zf, zg, zh, zi, zj, zk, zl, zm, zn, zo, zp, reduceCtorEq, zE, ↓reduceIte]
  refine brB (fun yc49 => ?_) (fun yc49 => ?_)
  · simp -implicitDefEqProofs only [c8_32_e, c8_33_r, (show opsOf c8_33 = _ :: _ from rfl), c8_34_e, (scopeK_g (show hasLabel c8_3 0 = true by kernel_rfl)), zq0, zq5, zq6, zq10, zq11, yc49, setA, setB, za, zb, zc, zd, ze, zf, zg, zh, zi, zj, zk, zl, zm, zn, zo, zp, reduceCtorEq, zE, ↓reduceIte]
    all_goals rfl
  · simp -implicitDefEqProofs only [c8_35_e, zq0, zq5, zq6, zq10, zq11, yc49, setA, setB, za, zb, zc, zd, ze, zf, zg, zh, zi, zj, zk, zl, zm, zn, zo, zp, reduceCtorEq, zE, ↓reduceIte]
    exact j8_36v1_t b0_0 b0_1 body5_1 body5_2 at6 rest10_0 rest10_1 end11 h0 _ (by exact zq0) (by exact zq5) (by exact zq6) (by exact zq10) (by exact zq11)
def j8_23v1 (b0_0 : Bool) (b0_1 : List UInt8) (body5_1 body5_2 : Nat) (at6 : Int) (rest10_0 : Bool) (rest10_1 : List UInt8) (end11 : Int) (t31 : Bool) (h0 : List UInt8) : Option (((Bool × List UInt8) ⊕ (Bool × List UInt8 × Bool × List UInt8 × Int × Int) ⊕ (Bool × List UInt8 × Bool × List UInt8 × Int × Int) ⊕ (Bool × List UInt8 × Nat × Nat × Int × Int × List UInt8) ⊕ (Bool × List UInt8 × Nat × Nat × Int × Int × List UInt8) ⊕ (Bool × List UInt8 × Nat × Nat × Int × Int × List UInt8)) ⊕ R8) :=
  if t31 = true then
    some (.inl (.inr (.inr (.inr (.inl (b0_0, b0_1, body5_1, body5_2, at6, (21 : Int), h0))))))
  else
    j8_28v1 b0_0 b0_1 body5_1 body5_2 at6 rest10_0 rest10_1 end11 h0
theorem j8_23v1_t (b0_0 : Bool) (b0_1 : List UInt8) (body5_1 body5_2 : Nat) (at6 : Int) (rest10_0 : Bool) (rest10_1 : List UInt8) (end11 : Int) (t31 : Bool) (h0 : List UInt8)  (sl : Nat → AV) (zq0 : sl 0 = .v (.c (.d (.lst b0_0 (enL enB b0_1))))) (zq5 : sl 5 = .v (.c (.slc 0 0 1 body5_1 (some body5_2)))) (zq6 : sl 6 = .v (.c (.d (.sc (.int .i64 at6))))) (zq10 : sl 10 = .v (.c (.d (.lst rest10_0 (enL enB rest10_1))))) (zq11 : sl 11 = .v (.c (.d (.sc (.int .i64 end11))))) (zq31 : sl 31 = .v (.c (.d (.sc (.bool t31))))) :
    stepE (K8_2 (mm := mm)) (scopeK 0 [(0, .keep), (5, .keep), (6, .keep), (9, .keep)] c8_3 (seqD (E0 mm) 8 0 (callW (E0 mm)) itW c8_47 (seqD (E0 mm) 8 0 (callW (E0 mm)) itW c8_28 (den (E0 mm) 8 0 (callW (E0 mm)) itW c8_23 none ⟨sl, [.cells (enC h0)]⟩)))) = (j8_23v1 b0_0 b0_1 body5_1 body5_2 at6 rest10_0 rest10_1 end11 t31 h0).map (sm en8_2 e8) := by
  simp -implicitDefEqProofs only [j8_23v1, (show c8_23 = Code.cond _ c8_24 c8_27 from rfl), zq0, zq5, zq6, zq10, zq11, zq31, setA, setB, za, zb, zc, zd, ze, zf, zg, zh, zi, zj, zk, zl, zm, zn, zo, zp, reduceCtorEq, zE, ↓reduceIte]
  refine brB (fun yc48 => ?_) (fun yc48 => ?_)
  · simp -implicitDefEqProofs only [c8_24_e, c8_25_r, (show opsOf c8_25 = _ :: _ from rfl), c8_26_e, (scopeK_g (show hasLabel c8_3 0 = true by kernel_rfl)), zq0, zq5, zq6, zq10, zq11, zq31, yc48, setA, setB, za, zb, zc, zd, ze, zf, zg, zh, zi, zj, zk, zl, zm, zn, zo, zp, reduceCtorEq, zE, ↓reduceIte]
    all_goals rfl
  · simp -implicitDefEqProofs only [c8_27_e, zq0, zq5, zq6, zq10, zq11, zq31, yc48, setA, setB, za, zb, zc, zd, ze, zf, zg, zh, zi, zj, zk, zl, zm, zn, zo, zp, reduceCtorEq, zE, ↓reduceIte]
    exact j8_28v1_t b0_0 b0_1 body5_1 body5_2 at6 rest10_0 rest10_1 end11 h0 _ (by exact zq0) (by exact zq5) (by exact zq6) (by exact zq10) (by exact zq11)
def s8_2x4 (b0_0 : Bool) (b0_1 : List UInt8) (body5_1 body5_2 : Nat) (at6 e9 : Int) (h0 : List UInt8) : Option (((Bool × List UInt8) ⊕ (Bool × List UInt8 × Bool × List UInt8 × Int × Int) ⊕ (Bool × List UInt8 × Bool × List UInt8 × Int × Int) ⊕ (Bool × List UInt8 × Nat × Nat × Int × Int × List UInt8) ⊕ (Bool × List UInt8 × Nat × Nat × Int × Int × List UInt8) ⊕ (Bool × List UInt8 × Nat × Nat × Int × Int × List UInt8)) ⊕ R8) :=
  (bnd at6 b0_1.length).bind fun yk42 =>
    (bnd (min2 ((b0_1.drop yk42).length : Int) 64) ((b0_1.drop yk42).length)).bind fun yk44 =>
      (m16 b0_0 ((b0_1.drop yk42).take yk44) (10 : UInt8)).bind fun yr46 =>
        if (decide (yr46 < 0)) = true then
          j8_23v1 b0_0 b0_1 body5_1 body5_2 at6 b0_0 (b0_1.drop yk42) yr46 (decide (64 ≤ ((b0_1.drop yk42).length : Int))) h0
        else
          j8_23v1 b0_0 b0_1 body5_1 body5_2 at6 b0_0 (b0_1.drop yk42) yr46 false h0
theorem s8_2x4_t (b0_0 : Bool) (b0_1 : List UInt8) (body5_1 body5_2 : Nat) (at6 e9 : Int) (h0 : List UInt8) :
    stepE (K8_2 (mm := mm)) (scopeF (E0 mm) 8 0 (callW (E0 mm)) itW c8_3 [(0, .keep), (5, .keep), (6, .keep), (9, .keep)] (some 1, [.v (.c (.d (.lst b0_0 (enL enB b0_1)))), .v (.c (.slc 0 0 1 body5_1 (some body5_2))), .v (.c (.d (.sc (.int .i64 at6)))), .v (.c (.d (.sc (.int .i64 e9))))], [.cells (enC h0)])) = (s8_2x4 b0_0 b0_1 body5_1 body5_2 at6 e9 h0).map (sm en8_2 e8) := by
  simp -implicitDefEqProofs only [s8_2x4, scopeF_eq, (show ∀ f st, den (E0 mm) 8 0 (callW (E0 mm)) itW c8_3 f st = den (E0 mm) 8 0 (callW (E0 mm)) itW (.seq c8_4 c8_5) f st from fun _ _ => rfl), (den_seq_l0 (show hasLabel c8_4 1 = false by kernel_rfl)), c8_5_e, (den_seq_l0 (show hasLabel c8_6 1 = false by kernel_rfl)), c8_7_e, (den_seq_l0 (show hasLabel c8_8 1 = false by kernel_rfl)), c8_9_e, (den_seq_l0 (show hasLabel c8_10 1 = false by kernel_rfl)), c8_11_e, (den_seq_l0 (show hasLabel c8_12 1 = false by kernel_rfl)), c8_13_e, (den_seq_l1 (show hasLabel (Code.label 1) 1 = true by kernel_rfl)), c8_14_e, c8_15_e, c8_16_e, c8_17_r, (show opsOf c8_17 = _ :: _ from rfl), Tryd.underlying22, enB_a, sz5, setA, setB, za, zb, zc, zd, ze, zf, zg, zh, zi, zj, zk, zl, zm, zn, zo, zp, reduceCtorEq, zE, ↓reduceIte]
  refine brM (fun yc41 => ?_) (fun yk42 yc41 => ?_)
  · rw [yc41]; rfl
  · simp -implicitDefEqProofs only [Option.isNone_some, Bool.false_and, Bool.and_false, Bool.false_eq_true, if_false, c8_18_e, c8_19_r, (show opsOf c8_19 = _ :: _ from rfl), Tryd.underlying22, Tryd.underlying3, enB_a, sz5, yc41, setA, setB, za, zb, zc, zd, ze, zf, zg, zh, zi, zj, zk, zl, zm, zn, zo, zp, reduceCtorEq, zE, ↓reduceIte]
    refine brM (fun yc43 => ?_) (fun yk44 yc43 => ?_)
    · rw [yc43]; rfl
    · simp -implicitDefEqProofs only [Option.isNone_some, Bool.false_and, Bool.and_false, Bool.false_eq_true, if_false, ent16, prm16, f16_t, yc41, yc43, setA, setB, za, zb, zc, zd, ze, zf, zg, zh, zi, zj, zk, zl, zm, zn, zo, zp, reduceCtorEq, zE, ↓reduceIte]
      refine brM (fun yc45 => ?_) (fun yr46 yc45 => ?_)
      · rw [yc45]; rfl
      · simp -implicitDefEqProofs only [e16, c8_20_e, c8_21_e, c8_22_r, (show opsOf c8_22 = _ :: _ from rfl), yc41, yc43, yc45, setA, setB, za, zb, zc, zd, ze, zf, zg, zh, zi, zj, zk, zl, zm, zn, zo, zp, reduceCtorEq, zE, ↓reduceIte]
        refine brB (fun yc47 => ?_) (fun yc47 => ?_)
        · simp -implicitDefEqProofs only [Tryd.underlying22, yc41, yc43, yc45, yc47, setA, setB, za, zb, zc, zd, ze, zf, zg, zh, zi, zj, zk, zl, zm, zn, zo, zp, reduceCtorEq, zE, ↓reduceIte]
          exact j8_23v1_t b0_0 b0_1 body5_1 body5_2 at6 b0_0 (b0_1.drop yk42) yr46 (decide (64 ≤ ((b0_1.drop yk42).length : Int))) h0 _ (by rfl) (by rfl) (by rfl) (by rfl) (by rfl) (by rfl)
        · simp -implicitDefEqProofs only [yc41, yc43, yc45, yc47, setA, setB, za, zb, zc, zd, ze, zf, zg, zh, zi, zj, zk, zl, zm, zn, zo, zp, reduceCtorEq, zE, ↓reduceIte]
          exact j8_23v1_t b0_0 b0_1 body5_1 body5_2 at6 b0_0 (b0_1.drop yk42) yr46 false h0 _ (by rfl) (by rfl) (by rfl) (by rfl) (by rfl) (by rfl)
def j8_108v2 (body5_1 body5_2 : Nat) (at6 used14 : Int) (h0 : List UInt8) : Option (((Bool × List UInt8) ⊕ (Bool × List UInt8 × Bool × List UInt8 × Int × Int) ⊕ (Bool × List UInt8 × Bool × List UInt8 × Int × Int) ⊕ (Bool × List UInt8 × Nat × Nat × Int × Int × List UInt8) ⊕ (Bool × List UInt8 × Nat × Nat × Int × Int × List UInt8) ⊕ (Bool × List UInt8 × Nat × Nat × Int × Int × List UInt8)) ⊕ R8) :=
  if body5_1 ≤ h0.length then
    some (.inr (false, (h0.take body5_1), (w64 (at6 + used14)), (0 : Int)))
  else none
theorem j8_108v2_t (body5_1 body5_2 : Nat) (at6 used14 : Int) (h0 : List UInt8) (g1 : Ob) (sl : Nat → AV) (zq5 : sl 5 = .v (.c (.slc 0 0 1 body5_1 (some body5_2)))) (zq6 : sl 6 = .v (.c (.d (.sc (.int .i64 at6))))) (zq14 : sl 14 = .v (.c (.d (.sc (.int .i64 used14))))) :
    stepE (K8_2 (mm := mm)) (scopeK 0 [(0, .keep), (5, .keep), (6, .keep), (9, .keep)] c8_3 (seqD (E0 mm) 8 0 (callW (E0 mm)) itW c8_111 (den (E0 mm) 8 0 (callW (E0 mm)) itW c8_108 none ⟨sl, [.cells (enC h0), g1]⟩))) = (j8_108v2 body5_1 body5_2 at6 used14 h0).map (sm en8_2 e8) := by
  simp -implicitDefEqProofs only [j8_108v2, c8_108_e, c8_109_r, (show opsOf c8_109 = _ :: _ from rfl), c8_110_e, K8_2, enC_length, enC_take, mapM_enC, Nat.zero_add, Nat.mul_one, zq5, zq6, zq14, setA, setB, za, zb, zc, zd, ze, zf, zg, zh, zi, zj, zk, zl, zm, zn, zo, zp, reduceCtorEq, zE, ↓reduceIte]
  refine brP (fun yc83 => ?_) (fun yc83 => ?_)
  · simp -implicitDefEqProofs only [enC_length, enC_take, mapM_enC, Nat.zero_add, Nat.mul_one, (chunk_enD body5_1 h0 yc83), zq5, zq6, zq14, yc83, setA, setB, za, zb, zc, zd, ze, zf, zg, zh, zi, zj, zk, zl, zm, zn, zo, zp, reduceCtorEq, zE, ↓reduceIte]
    all_goals rfl
  · rw [if_neg yc83]; rfl
def j8_108v3 (body5_1 body5_2 : Nat) (at6 used14 : Int) (h0 : List UInt8) : Option (((Bool × List UInt8) ⊕ (Bool × List UInt8 × Bool × List UInt8 × Int × Int) ⊕ (Bool × List UInt8 × Bool × List UInt8 × Int × Int) ⊕ (Bool × List UInt8 × Nat × Nat × Int × Int × List UInt8) ⊕ (Bool × List UInt8 × Nat × Nat × Int × Int × List UInt8) ⊕ (Bool × List UInt8 × Nat × Nat × Int × Int × List UInt8)) ⊕ R8) :=
  if body5_1 ≤ h0.length then
    some (.inr (false, (h0.take body5_1), (w64 (at6 + used14)), (0 : Int)))
  else none
theorem j8_108v3_t (body5_1 body5_2 : Nat) (at6 used14 : Int) (h0 : List UInt8)  (sl : Nat → AV) (zq5 : sl 5 = .v (.c (.slc 0 0 1 body5_1 (some body5_2)))) (zq6 : sl 6 = .v (.c (.d (.sc (.int .i64 at6))))) (zq14 : sl 14 = .v (.c (.d (.sc (.int .i64 used14))))) :
    stepE (K8_2 (mm := mm)) (scopeK 0 [(0, .keep), (5, .keep), (6, .keep), (9, .keep)] c8_3 (seqD (E0 mm) 8 0 (callW (E0 mm)) itW c8_111 (den (E0 mm) 8 0 (callW (E0 mm)) itW c8_108 none ⟨sl, [.cells (enC h0)]⟩))) = (j8_108v3 body5_1 body5_2 at6 used14 h0).map (sm en8_2 e8) := by
  simp -implicitDefEqProofs only [j8_108v3, c8_108_e, c8_109_r, (show opsOf c8_109 = _ :: _ from rfl), c8_110_e, K8_2, enC_length, enC_take, mapM_enC, Nat.zero_add, Nat.mul_one, zq5, zq6, zq14, setA, setB, za, zb, zc, zd, ze, zf, zg, zh, zi, zj, zk, zl, zm, zn, zo, zp, reduceCtorEq, zE, ↓reduceIte]
  refine brP (fun yc85 => ?_) (fun yc85 => ?_)
  · simp -implicitDefEqProofs only [enC_length, enC_take, mapM_enC, Nat.zero_add, Nat.mul_one, (chunk_enD body5_1 h0 yc85), zq5, zq6, zq14, yc85, setA, setB, za, zb, zc, zd, ze, zf, zg, zh, zi, zj, zk, zl, zm, zn, zo, zp, reduceCtorEq, zE, ↓reduceIte]
    all_goals rfl
  · rw [if_neg yc85]; rfl
def s8_2x5 (b0_0 : Bool) (b0_1 : List UInt8) (body5_1 body5_2 : Nat) (at6 e9 : Int) (h0 : List UInt8) : Option (((Bool × List UInt8) ⊕ (Bool × List UInt8 × Bool × List UInt8 × Int × Int) ⊕ (Bool × List UInt8 × Bool × List UInt8 × Int × Int) ⊕ (Bool × List UInt8 × Nat × Nat × Int × Int × List UInt8) ⊕ (Bool × List UInt8 × Nat × Nat × Int × Int × List UInt8) ⊕ (Bool × List UInt8 × Nat × Nat × Int × Int × List UInt8)) ⊕ R8) :=
  (bnd at6 b0_1.length).bind fun yk77 =>
    (m20 b0_0 (b0_1.drop yk77)).bind fun yr79 =>
      match yr79 with
      | .inl yr80 =>
        if (yr80.2.2.2 == 0) = true then
          j8_108v2 body5_1 body5_2 at6 yr80.2.2.1 h0
        else
          some (.inl (.inr (.inr (.inr (.inl (b0_0, b0_1, body5_1, body5_2, at6, yr80.2.2.2, h0))))))
      | .inr yr81 =>
        if (yr81.2.2.2 == 0) = true then
          j8_108v3 body5_1 body5_2 at6 yr81.2.2.1 h0
        else
          some (.inl (.inr (.inr (.inr (.inl (b0_0, b0_1, body5_1, body5_2, at6, yr81.2.2.2, h0))))))
theorem s8_2x5_t (b0_0 : Bool) (b0_1 : List UInt8) (body5_1 body5_2 : Nat) (at6 e9 : Int) (h0 : List UInt8) :
    stepE (K8_2 (mm := mm)) (scopeF (E0 mm) 8 0 (callW (E0 mm)) itW c8_3 [(0, .keep), (5, .keep), (6, .keep), (9, .keep)] (some 2, [.v (.c (.d (.lst b0_0 (enL enB b0_1)))), .v (.c (.slc 0 0 1 body5_1 (some body5_2))), .v (.c (.d (.sc (.int .i64 at6)))), .v (.c (.d (.sc (.int .i64 e9))))], [.cells (enC h0)])) = (s8_2x5 b0_0 b0_1 body5_1 body5_2 at6 e9 h0).map (sm en8_2 e8) := by
  simp -implicitDefEqProofs only [s8_2x5, scopeF_eq, (show ∀ f st, den (E0 mm) 8 0 (callW (E0 mm)) itW c8_3 f st = den (E0 mm) 8 0 (callW (E0 mm)) itW (.seq c8_4 c8_5) f st from fun _ _ => rfl), (den_seq_l0 (show hasLabel c8_4 2 = false by kernel_rfl)), c8_5_e, (den_seq_l0 (show hasLabel c8_6 2 = false by kernel_rfl)), c8_7_e, (den_seq_l0 (show hasLabel c8_8 2 = false by kernel_rfl)), c8_9_e, (den_seq_l0 (show hasLabel c8_10 2 = false by kernel_rfl)), c8_11_e, (den_seq_l0 (show hasLabel c8_12 2 = false by kernel_rfl)), c8_13_e, (den_seq_l0 (show hasLabel c8_14 2 = false by kernel_rfl)), c8_15_e, (den_seq_l0 (show hasLabel c8_16 2 = false by kernel_rfl)), c8_47_e, (den_seq_l0 (show hasLabel c8_48 2 = false by kernel_rfl)), c8_55_e, (den_seq_l0 (show hasLabel c8_56 2 = false by kernel_rfl)), c8_63_e, (den_seq_l0 (show hasLabel c8_64 2 = false by kernel_rfl)), c8_69_e, (den_seq_l0 (show hasLabel c8_70 2 = false by kernel_rfl)), c8_77_e, (den_seq_l0 (show hasLabel c8_78 2 = false by kernel_rfl)), c8_83_e, (den_seq_l0 (show hasLabel c8_84 2 = false by kernel_rfl)), c8_91_e, (den_seq_l0 (show hasLabel c8_92 2 = false by kernel_rfl)), c8_93_e, (den_seq_l0 (show hasLabel c8_94 2 = false by kernel_rfl)), c8_95_e, (den_seq_l1 (show hasLabel (Code.label 2) 2 = true by kernel_rfl)), c8_96_e, c8_97_e, c8_98_e, c8_99_r, (show opsOf c8_99 = _ :: _ from rfl), Tryd.underlying22, enB_a, sz5, setA, setB, za, zb, zc, zd, ze, zf, zg, zh, zi, zj, zk, zl, zm, zn, zo, zp, reduceCtorEq, zE, ↓reduceIte]
  refine brM (fun yc76 => ?_) (fun yk77 yc76 => ?_)
  · rw [yc76]; rfl
  · simp -implicitDefEqProofs only [Option.isNone_some, Bool.false_and, Bool.and_false, Bool.false_eq_true, if_false, ent20, prm20, f20_t, yc76, setA, setB, za, zb, zc, zd, ze, zf, zg, zh, zi, zj, zk, zl, zm, zn, zo, zp, reduceCtorEq, zE, ↓reduceIte]
    refine brM (fun yc78 => ?_) (fun yr79 yc78 => ?_)
    · rw [yc78]; rfl
    · rcases yr79 with yr80 | yr81
      · simp -implicitDefEqProofs only [e20, c8_100_e, c8_101_e, c8_102_r, (show opsOf c8_102 = _ :: _ from rfl), (show c8_103 = Code.cond _ c8_104 c8_107 from rfl), yc76, yc78, setA, setB, za, zb, zc, zd, ze, zf, zg, zh, zi, zj, zk, zl, zm, zn, zo, zp, reduceCtorEq, zE, ↓reduceIte]
        refine brB (fun yc82 => ?_) (fun yc82 => ?_)
        · simp -implicitDefEqProofs only [c8_107_e, yc76, yc78, yc82, setA, setB, za, zb, zc, zd, ze, zf, zg, zh, zi, zj, zk, zl, zm, zn, zo, zp, reduceCtorEq, zE, ↓reduceIte]
          exact j8_108v2_t body5_1 body5_2 at6 yr80.2.2.1 h0 _ _ (by rfl) (by rfl) (by rfl)
        · simp -implicitDefEqProofs only [c8_104_e, c8_105_r, (show opsOf c8_105 = _ :: _ from rfl), c8_106_e, (scopeK_g (show hasLabel c8_3 0 = true by kernel_rfl)), yc76, yc78, yc82, setA, setB, za, zb, zc, zd, ze, zf, zg, zh, zi, zj, zk, zl, zm, zn, zo, zp, reduceCtorEq, zE, ↓reduceIte]
          all_goals rfl
      · simp -implicitDefEqProofs only [e20, c8_100_e, c8_101_e, c8_102_r, (show opsOf c8_102 = _ :: _ from rfl), (show c8_103 = Code.cond _ c8_104 c8_107 from rfl), yc76, yc78, setA, setB, za, zb, zc, zd, ze, zf, zg, zh, zi, zj, zk, zl, zm, zn, zo, zp, reduceCtorEq, zE, ↓reduceIte]
        refine brB (fun yc84 => ?_) (fun yc84 => ?_)
        · simp -implicitDefEqProofs only [c8_107_e, yc76, yc78, yc84, setA, setB, za, zb, zc, zd, ze, zf, zg, zh, zi, zj, zk, zl, zm, zn, zo, zp, reduceCtorEq, zE, ↓reduceIte]
          exact j8_108v3_t body5_1 body5_2 at6 yr81.2.2.1 h0 _ (by rfl) (by rfl) (by rfl)
        · simp -implicitDefEqProofs only [c8_104_e, c8_105_r, (show opsOf c8_105 = _ :: _ from rfl), c8_106_e, (scopeK_g (show hasLabel c8_3 0 = true by kernel_rfl)), yc76, yc78, yc84, setA, setB, za, zb, zc, zd, ze, zf, zg, zh, zi, zj, zk, zl, zm, zn, zo, zp, reduceCtorEq, zE, ↓reduceIte]
          all_goals rfl
def s8_2 : ((Bool × List UInt8) ⊕ (Bool × List UInt8 × Bool × List UInt8 × Int × Int) ⊕ (Bool × List UInt8 × Bool × List UInt8 × Int × Int) ⊕ (Bool × List UInt8 × Nat × Nat × Int × Int × List UInt8) ⊕ (Bool × List UInt8 × Nat × Nat × Int × Int × List UInt8) ⊕ (Bool × List UInt8 × Nat × Nat × Int × Int × List UInt8)) → Option (((Bool × List UInt8) ⊕ (Bool × List UInt8 × Bool × List UInt8 × Int × Int) ⊕ (Bool × List UInt8 × Bool × List UInt8 × Int × Int) ⊕ (Bool × List UInt8 × Nat × Nat × Int × Int × List UInt8) ⊕ (Bool × List UInt8 × Nat × Nat × Int × Int × List UInt8) ⊕ (Bool × List UInt8 × Nat × Nat × Int × Int × List UInt8)) ⊕ R8) := fun x => match x with
  | (.inl x) => s8_2x0 x.1 x.2
  | (.inr (.inl x)) => s8_2x1 x.1 x.2.1 x.2.2.1 x.2.2.2.1 x.2.2.2.2.1 x.2.2.2.2.2
  | (.inr (.inr (.inl x))) => s8_2x2 x.1 x.2.1 x.2.2.1 x.2.2.2.1 x.2.2.2.2.1 x.2.2.2.2.2
  | (.inr (.inr (.inr (.inl x)))) => s8_2x3 x.1 x.2.1 x.2.2.1 x.2.2.2.1 x.2.2.2.2.1 x.2.2.2.2.2.1 x.2.2.2.2.2.2
  | (.inr (.inr (.inr (.inr (.inl x))))) => s8_2x4 x.1 x.2.1 x.2.2.1 x.2.2.2.1 x.2.2.2.2.1 x.2.2.2.2.2.1 x.2.2.2.2.2.2
  | (.inr (.inr (.inr (.inr (.inr x))))) => s8_2x5 x.1 x.2.1 x.2.2.1 x.2.2.2.1 x.2.2.2.2.1 x.2.2.2.2.2.1 x.2.2.2.2.2.2
def l8_2 (b0_0 : Bool) (b0_1 : List UInt8) : Option R8 := iter s8_2 (.inl (b0_0, b0_1))
theorem l8_2_t (b0_0 : Bool) (b0_1 : List UInt8) : bodyD (E0 mm) [.tmp 2, .tmp 3, .tmp 4] 0 false (itW (scopeF (E0 mm) 8 0 (callW (E0 mm)) itW c8_3 [(0, .keep), (5, .keep), (6, .keep), (9, .keep)]) (none, [.v (.c (.d (.lst b0_0 (enL enB b0_1)))), .dead, .dead, .dead], [])) = (l8_2 b0_0 b0_1).map e8 :=
  it_sim (K := (K8_2 (mm := mm))) rfl (enc := en8_2) (fun x => match x with
  | (.inl x) => s8_2x0_t x.1 x.2
  | (.inr (.inl x)) => s8_2x1_t x.1 x.2.1 x.2.2.1 x.2.2.2.1 x.2.2.2.2.1 x.2.2.2.2.2
  | (.inr (.inr (.inl x))) => s8_2x2_t x.1 x.2.1 x.2.2.1 x.2.2.2.1 x.2.2.2.2.1 x.2.2.2.2.2
  | (.inr (.inr (.inr (.inl x)))) => s8_2x3_t x.1 x.2.1 x.2.2.1 x.2.2.2.1 x.2.2.2.2.1 x.2.2.2.2.2.1 x.2.2.2.2.2.2
  | (.inr (.inr (.inr (.inr (.inl x))))) => s8_2x4_t x.1 x.2.1 x.2.2.1 x.2.2.2.1 x.2.2.2.2.1 x.2.2.2.2.2.1 x.2.2.2.2.2.2
  | (.inr (.inr (.inr (.inr (.inr x))))) => s8_2x5_t x.1 x.2.1 x.2.2.1 x.2.2.2.1 x.2.2.2.2.1 x.2.2.2.2.2.1 x.2.2.2.2.2.2) (.inl (b0_0, b0_1))
def m8 (b_0 : Bool) (b_1 : List UInt8) : Option R8 :=
  l8_2 b_0 b_1
theorem f8_t (b_0 : Bool) (b_1 : List UInt8) :
    callW (E0 mm) 8 [.c (.d (.lst b_0 (enL enB b_1)))] [] = (m8 b_0 b_1).map e8 := by
  rw [callW_run (body := c8_0) (res := [.tmp 2, .tmp 3, .tmp 4]) Tryd.func8 rfl rfl (by kernel_rfl)]
  simp -implicitDefEqProofs only [m8, slots1, c8_0_e, c8_1_r, (show opsOf c8_1 = _ :: _ from rfl), c8_2_l, setA, setB, za, zb, zc, zd, ze, zf, zg, zh, zi, zj, zk, zl, zm, zn, zo, zp, reduceCtorEq, zE, ↓reduceIte]
  exact l8_2_t b_0 b_1
end
end Go.Proofs.YtaohepmbkepmiaaDoor
