/- The Go functions as plain functions, and that the evaluator computes them. -/
import Derived.Test.YtaohepmbkepmiaaDoorFBack2
set_option linter.all false
set_option maxRecDepth 100000
namespace Go.Proofs.YtaohepmbkepmiaaDoor
open Go Go.Ab
open Nat renaming reduceEqDiff → za, reduceAdd → zb, reduceLeDiff → zc, reduceLT → zd, reduceMul → ze, reduceBEq → zf, reduceSub → zg, reducePow → zh
open Int renaming reduceEq → zi, reduceLE → zj, reduceLT → zk, reduceToNat → zl, reduceNegSucc → zm, reduceAdd → zn, reduceBEq → zo
open String renaming reduceBEq → zp
set_option maxHeartbeats 4000000
noncomputable section
variable {mm : Int}
noncomputable def c20_0 : Code := bodyOf Tryd.f20
def c20_1 := cA c20_0
def c20_2 := cB c20_0
def c20_3 := cA c20_2
def c20_4 := cA c20_3
def c20_5 := cB c20_3
def c20_6 := cA c20_5
def c20_7 := cB c20_5
def c20_8 := cA c20_7
def c20_9 := cB c20_7
def c20_10 := cA c20_9
def c20_11 := cB c20_9
def c20_12 := cA c20_11
def c20_13 := cB c20_11
def c20_14 := cA c20_13
def c20_15 := cB c20_13
def c20_16 := cA c20_15
def c20_17 := cA c20_16
def c20_18 := cB c20_16
def c20_19 := cA c20_18
def c20_20 := cB c20_18
def c20_21 := cA c20_20
def c20_22 := cB c20_20
def c20_23 := cB c20_15
def c20_24 := cA c20_23
def c20_25 := cA c20_24
def c20_26 := cA c20_25
def c20_27 := cB c20_25
def c20_28 := cA c20_27
def c20_29 := cB c20_27
def c20_30 := cA c20_29
def c20_31 := cB c20_29
def c20_32 := cA c20_31
def c20_33 := cB c20_31
def c20_34 := cB c20_23
def c20_35 := cA c20_34
def c20_36 := cB c20_34
def c20_37 := cA c20_36
def c20_38 := cA c20_37
def c20_39 := cA c20_38
def c20_40 := cB c20_38
def c20_41 := cA c20_40
def c20_42 := cA c20_41
def c20_43 := cB c20_41
def c20_44 := cB c20_40
def c20_45 := cA c20_44
def c20_46 := cB c20_44
def c20_47 := cA c20_46
def c20_48 := cB c20_46
def c20_49 := cB c20_36
def c20_50 := cA c20_49
def c20_51 := cA c20_50
def c20_52 := cB c20_50
def c20_53 := cA c20_52
def c20_54 := cB c20_52
def c20_55 := cA c20_54
def c20_56 := cB c20_54
def c20_57 := cB c20_49
def c20_58 := cA c20_57
def c20_59 := cA c20_58
def c20_60 := cB c20_58
def c20_61 := cA c20_60
def c20_62 := cB c20_60
def c20_63 := cB c20_57
def c20_64 := cA c20_63
def c20_65 := cB c20_63
def c20_66 := cA c20_65
def c20_67 := cB c20_65
def c20_68 := cA c20_67
def c20_69 := cA c20_68
def c20_70 := cB c20_68
def c20_71 := cA c20_70
def c20_72 := cB c20_70
def c20_73 := cA c20_72
def c20_74 := cB c20_72
def c20_75 := cB c20_67
def c20_76 := cA c20_75
def c20_77 := cA c20_76
def c20_78 := cA c20_77
def c20_79 := cB c20_77
def c20_80 := cA c20_79
def c20_81 := cB c20_79
def c20_82 := cA c20_81
def c20_83 := cB c20_81
def c20_84 := cA c20_83
def c20_85 := cB c20_83
def c20_86 := cA c20_85
def c20_87 := cB c20_85
def c20_88 := cA c20_87
def c20_89 := cB c20_87
def c20_90 := cB c20_75
def c20_91 := cA c20_90
def c20_92 := cB c20_90
def c20_93 := cA c20_92
def c20_94 := cB c20_92
def c20_95 := cA c20_94
def c20_96 := cB c20_94
def c20_97 := cA c20_96
def c20_98 := cA c20_97
def c20_99 := cB c20_97
def c20_100 := cA c20_99
def c20_101 := cB c20_99
def c20_102 := cA c20_101
def c20_103 := cB c20_101
def c20_104 := cB c20_96
def c20_105 := cA c20_104
def c20_106 := cA c20_105
def c20_107 := cB c20_105
def c20_108 := cA c20_107
def c20_109 := cB c20_107
def c20_110 := cB c20_104
def c20_111 := cA c20_110
def c20_112 := cB c20_110
def c20_113 := cA c20_112
def c20_114 := cB c20_112
def c20_115 := cA c20_114
def c20_116 := cA c20_115
def c20_117 := cB c20_115
def c20_118 := cA c20_117
def c20_119 := cB c20_117
def c20_120 := cA c20_119
def c20_121 := cB c20_119
def c20_122 := cB c20_114
def c20_123 := cA c20_122
def c20_124 := cA c20_123
def c20_125 := cB c20_123
def c20_126 := cA c20_125
def c20_127 := cA c20_126
def c20_128 := cB c20_126
def c20_129 := cB c20_125
def c20_130 := cB c20_122
def c20_131 := cA c20_130
def c20_132 := cB c20_130
def c20_133 := cA c20_132
def c20_134 := cA c20_133
def c20_135 := cB c20_133
def c20_136 := cB c20_132
def c20_137 := cA c20_136
def c20_138 := cB c20_136
def c20_139 := cA c20_138
def c20_140 := cA c20_139
def c20_141 := cB c20_139
def c20_142 := cB c20_138
def c20_143 := cA c20_142
def c20_144 := cB c20_142
def c20_145 := cA c20_144
def c20_146 := cB c20_144
theorem c20_0_e : c20_0 = .seq c20_1 c20_2 := rfl
theorem c20_1_r : RG (E0 mm) 20 c20_1 := rgN rfl
theorem c20_2_l (m : Nat) (st : St) : den (E0 mm) 20 m (callW (E0 mm)) itW c20_2 none st = loopD itW (scopeF (E0 mm) 20 m (callW (E0 mm)) itW c20_3 [(0, .keep), (5, .keep), (6, .own), (7, .keep), (8, .keep), (9, .keep)]) (canon m [(0, .keep), (5, .keep), (6, .own), (7, .keep), (8, .keep), (9, .keep)] st) := rfl
theorem c20_4_r : RG (E0 mm) 20 c20_4 := rgN rfl
theorem c20_5_e : c20_5 = .seq c20_6 c20_7 := rfl
theorem c20_6_r : RG (E0 mm) 20 c20_6 := rgN rfl
theorem c20_7_e : c20_7 = .seq c20_8 c20_9 := rfl
theorem c20_8_r : RG (E0 mm) 20 c20_8 := rgN rfl
theorem c20_9_e : c20_9 = .seq c20_10 c20_11 := rfl
theorem c20_10_r : RG (E0 mm) 20 c20_10 := rgN rfl
theorem c20_11_e : c20_11 = .seq c20_12 c20_13 := rfl
theorem c20_12_e : c20_12 = .label 0 := rfl
theorem c20_13_e : c20_13 = .seq c20_14 c20_15 := rfl
theorem c20_14_r : RG (E0 mm) 20 c20_14 := rgN rfl
theorem c20_15_e : c20_15 = .seq c20_16 c20_23 := rfl
theorem c20_16_e : c20_16 = .seq c20_17 c20_18 := rfl
theorem c20_17_r : RG (E0 mm) 20 c20_17 := rgN rfl
theorem c20_18_e : c20_18 = .seq c20_19 c20_20 := rfl
theorem c20_19_r : RG (E0 mm) 20 c20_19 := rgN rfl
theorem c20_21_e : c20_21 = .goto 1 := rfl
theorem c20_22_e : c20_22 = .skip := rfl
theorem c20_23_e : c20_23 = .seq c20_24 c20_34 := rfl
theorem c20_24_e : c20_24 = .block 0 c20_25 := rfl
theorem c20_25_e : c20_25 = .seq c20_26 c20_27 := rfl
theorem c20_26_r : RG (E0 mm) 20 c20_26 := rgN rfl
theorem c20_28_e : c20_28 = .goto 2 := rfl
theorem c20_29_e : c20_29 = .seq c20_30 c20_31 := rfl
theorem c20_30_r : RG (E0 mm) 20 c20_30 := rgN rfl
theorem c20_32_e : c20_32 = .goto 3 := rfl
theorem c20_33_e : c20_33 = .skip := rfl
theorem c20_34_e : c20_34 = .seq c20_35 c20_36 := rfl
theorem c20_35_e : c20_35 = .label 6 := rfl
theorem c20_36_e : c20_36 = .seq c20_37 c20_49 := rfl
theorem c20_37_e : c20_37 = .block 1 c20_38 := rfl
theorem c20_38_e : c20_38 = .seq c20_39 c20_40 := rfl
theorem c20_39_r : RG (E0 mm) 20 c20_39 := rgN rfl
theorem c20_41_e : c20_41 = .seq c20_42 c20_43 := rfl
theorem c20_42_r : RG (E0 mm) 20 c20_42 := rgN rfl
theorem c20_43_e : c20_43 = .goto 4 := rfl
theorem c20_44_e : c20_44 = .seq c20_45 c20_46 := rfl
theorem c20_45_r : RG (E0 mm) 20 c20_45 := rgN rfl
theorem c20_47_e : c20_47 = .goto 5 := rfl
theorem c20_48_e : c20_48 = .skip := rfl
theorem c20_49_e : c20_49 = .seq c20_50 c20_57 := rfl
theorem c20_50_e : c20_50 = .seq c20_51 c20_52 := rfl
theorem c20_51_r : RG (E0 mm) 20 c20_51 := rgN rfl
theorem c20_52_e : c20_52 = .seq c20_53 c20_54 := rfl
theorem c20_53_r : RG (E0 mm) 20 c20_53 := rgN rfl
theorem c20_55_e : c20_55 = .goto 1 := rfl
theorem c20_56_e : c20_56 = .skip := rfl
theorem c20_57_e : c20_57 = .seq c20_58 c20_63 := rfl
theorem c20_58_e : c20_58 = .seq c20_59 c20_60 := rfl
theorem c20_59_r : RG (E0 mm) 20 c20_59 := rgN rfl
theorem c20_61_e : c20_61 = .goto 3 := rfl
theorem c20_62_e : c20_62 = .skip := rfl
theorem c20_63_e : c20_63 = .seq c20_64 c20_65 := rfl
theorem c20_64_e : c20_64 = .goto 6 := rfl
theorem c20_65_e : c20_65 = .seq c20_66 c20_67 := rfl
theorem c20_66_e : c20_66 = .label 4 := rfl
theorem c20_67_e : c20_67 = .seq c20_68 c20_75 := rfl
theorem c20_68_e : c20_68 = .seq c20_69 c20_70 := rfl
theorem c20_69_r : RG (E0 mm) 20 c20_69 := rgN rfl
theorem c20_70_e : c20_70 = .seq c20_71 c20_72 := rfl
theorem c20_71_r : RG (E0 mm) 20 c20_71 := rgN rfl
theorem c20_73_e : c20_73 = .goto 1 := rfl
theorem c20_74_e : c20_74 = .skip := rfl
theorem c20_75_e : c20_75 = .seq c20_76 c20_90 := rfl
theorem c20_76_e : c20_76 = .block 2 c20_77 := rfl
theorem c20_77_e : c20_77 = .seq c20_78 c20_79 := rfl
theorem c20_78_r : RG (E0 mm) 20 c20_78 := rgN rfl
theorem c20_80_e : c20_80 = .goto 7 := rfl
theorem c20_81_e : c20_81 = .seq c20_82 c20_83 := rfl
theorem c20_82_r : RG (E0 mm) 20 c20_82 := rgN rfl
theorem c20_84_e : c20_84 = .goto 3 := rfl
theorem c20_85_e : c20_85 = .seq c20_86 c20_87 := rfl
theorem c20_86_r : RG (E0 mm) 20 c20_86 := rgN rfl
theorem c20_88_e : c20_88 = .goto 5 := rfl
theorem c20_89_e : c20_89 = .skip := rfl
theorem c20_90_e : c20_90 = .seq c20_91 c20_92 := rfl
theorem c20_91_e : c20_91 = .goto 4 := rfl
theorem c20_92_e : c20_92 = .seq c20_93 c20_94 := rfl
theorem c20_93_e : c20_93 = .label 7 := rfl
theorem c20_94_e : c20_94 = .seq c20_95 c20_96 := rfl
theorem c20_95_r (m : Nat) (st : St) : den (E0 mm) 20 m (callW (E0 mm)) itW c20_95 none st = regD ((runF (E0 mm) (callW (E0 mm)) (opsOf c20_95) (opsOf c20_95) [none, none, none, none, none, none, some true, none, none, none, none, none, none, none, none, none, some false, none, none, none, none] st []).bind (ckF [(6, 16)])) := den_dF (by kernel_rfl)
theorem c20_96_e : c20_96 = .seq c20_97 c20_104 := rfl
theorem c20_97_e : c20_97 = .seq c20_98 c20_99 := rfl
theorem c20_98_r : RG (E0 mm) 20 c20_98 := rgN rfl
theorem c20_99_e : c20_99 = .seq c20_100 c20_101 := rfl
theorem c20_100_r : RG (E0 mm) 20 c20_100 := rgN rfl
theorem c20_102_e : c20_102 = .goto 1 := rfl
theorem c20_103_e : c20_103 = .skip := rfl
theorem c20_104_e : c20_104 = .seq c20_105 c20_110 := rfl
theorem c20_105_e : c20_105 = .seq c20_106 c20_107 := rfl
theorem c20_106_r : RG (E0 mm) 20 c20_106 := rgN rfl
theorem c20_108_e : c20_108 = .goto 0 := rfl
theorem c20_109_e : c20_109 = .skip := rfl
theorem c20_110_e : c20_110 = .seq c20_111 c20_112 := rfl
theorem c20_111_e : c20_111 = .goto 5 := rfl
theorem c20_112_e : c20_112 = .seq c20_113 c20_114 := rfl
theorem c20_113_e : c20_113 = .label 2 := rfl
theorem c20_114_e : c20_114 = .seq c20_115 c20_122 := rfl
theorem c20_115_e : c20_115 = .seq c20_116 c20_117 := rfl
theorem c20_116_r : RG (E0 mm) 20 c20_116 := rgN rfl
theorem c20_117_e : c20_117 = .seq c20_118 c20_119 := rfl
theorem c20_118_r : RG (E0 mm) 20 c20_118 := rgN rfl
theorem c20_120_e : c20_120 = .goto 1 := rfl
theorem c20_121_e : c20_121 = .skip := rfl
theorem c20_122_e : c20_122 = .seq c20_123 c20_130 := rfl
theorem c20_123_e : c20_123 = .seq c20_124 c20_125 := rfl
theorem c20_124_r : RG (E0 mm) 20 c20_124 := rgN rfl
theorem c20_126_e : c20_126 = .seq c20_127 c20_128 := rfl
theorem c20_127_r : RG (E0 mm) 20 c20_127 := rgD (by kernel_rfl)
theorem c20_128_e : c20_128 = .ret := rfl
theorem c20_129_e : c20_129 = .skip := rfl
theorem c20_130_e : c20_130 = .seq c20_131 c20_132 := rfl
theorem c20_131_e : c20_131 = .label 5 := rfl
theorem c20_132_e : c20_132 = .seq c20_133 c20_136 := rfl
theorem c20_133_e : c20_133 = .seq c20_134 c20_135 := rfl
theorem c20_134_r : RG (E0 mm) 20 c20_134 := rgN rfl
theorem c20_135_e : c20_135 = .ret := rfl
theorem c20_136_e : c20_136 = .seq c20_137 c20_138 := rfl
theorem c20_137_e : c20_137 = .label 3 := rfl
theorem c20_138_e : c20_138 = .seq c20_139 c20_142 := rfl
theorem c20_139_e : c20_139 = .seq c20_140 c20_141 := rfl
theorem c20_140_r : RG (E0 mm) 20 c20_140 := rgN rfl
theorem c20_141_e : c20_141 = .ret := rfl
theorem c20_142_e : c20_142 = .seq c20_143 c20_144 := rfl
theorem c20_143_e : c20_143 = .label 1 := rfl
theorem c20_144_e : c20_144 = .seq c20_145 c20_146 := rfl
theorem c20_145_r : RG (E0 mm) 20 c20_145 := rgN rfl
theorem c20_146_e : c20_146 = .ret := rfl
abbrev R20 := (Bool × List (Bs × Bs) × Int × Int) ⊕ (Bool × List (Bs × Bs) × Int × Int)
def e20 : R20 → AV × Heap := fun x => match x with
  | .inl x => (.tup [.c (.own x.1 (enL enSS x.2.1) 0), .c (.d (.sc (.int .i64 x.2.2.1))), .c (.d (.sc (.int .i64 x.2.2.2)))], [.row x.2.1.length (rz x.1 2)])
  | .inr x => (.tup [.c (.d (.lst x.1 (enL enSS x.2.1))), .c (.d (.sc (.int .i64 x.2.2.1))), .c (.d (.sc (.int .i64 x.2.2.2)))], [])
def K20_2 : Option (Ex × St) → Option (AV × Heap) := fun r => bodyD (E0 mm) [.tmp 2, .tmp 3, .tmp 4] 0 false (r)
def en20_2 : ((Bool × List UInt8) ⊕ (Bool × List UInt8 × Bool × List (Bs × Bs) × Int × Int × Int × Bool × List UInt8 × Int × UInt8) ⊕ (Bool × List UInt8 × Bool × List (Bs × Bs) × Int × Int × Int × Bool × List UInt8 × Int × UInt8) ⊕ (Bool × List UInt8 × Bool × List (Bs × Bs) × Int × Int × Int × Bool × List UInt8 × Int × UInt8) ⊕ (Bool × List UInt8 × Bool × List (Bs × Bs) × Int × Int × Int × Bool × List UInt8 × Int × UInt8) ⊕ (Bool × List UInt8 × Bool × List (Bs × Bs) × Int × Int × Int × Bool × List UInt8 × Int × UInt8) ⊕ (Bool × List UInt8 × Bool × List (Bs × Bs) × Int × Int × Int × Bool × List UInt8 × Int × UInt8) ⊕ (Bool × List UInt8 × Bool × List (Bs × Bs) × Int × Int × Int × Bool × List UInt8 × Int × UInt8) ⊕ (Bool × List UInt8 × Bool × List (Bs × Bs) × Int × Int × Int × Bool × List UInt8 × Int × UInt8)) → X := fun x => match x with
  | (.inl x) => (none, [.v (.c (.d (.lst x.1 (enL enB x.2)))), .dead, .dead, .dead, .dead, .dead], [])
  | (.inr (.inl x)) => (some 2, [.v (.c (.d (.lst x.1 (enL enB x.2.1)))), .v (.c (.ptr 0 0)), .v (.c (.own x.2.2.1 (enL enSS x.2.2.2.1) 1)), .v (.c (.d (.sc (.int .i64 x.2.2.2.2.1)))), .v (.c (.d (.sc (.int .i64 x.2.2.2.2.2.1)))), .v (.c (.d (.sc (.int .i64 x.2.2.2.2.2.2.1))))], [.cells [.d (.lst x.2.2.2.2.2.2.2.1 (enL enB x.2.2.2.2.2.2.2.2.1)), .d (.sc (.int .i64 x.2.2.2.2.2.2.2.2.2.1)), .d (.sc (.int .u8 ((x.2.2.2.2.2.2.2.2.2.2).toNat : Int)))], .row x.2.2.2.1.length (rz x.2.2.1 2)])
  | (.inr (.inr (.inl x))) => (some 4, [.v (.c (.d (.lst x.1 (enL enB x.2.1)))), .v (.c (.ptr 0 0)), .v (.c (.own x.2.2.1 (enL enSS x.2.2.2.1) 1)), .v (.c (.d (.sc (.int .i64 x.2.2.2.2.1)))), .v (.c (.d (.sc (.int .i64 x.2.2.2.2.2.1)))), .v (.c (.d (.sc (.int .i64 x.2.2.2.2.2.2.1))))], [.cells [.d (.lst x.2.2.2.2.2.2.2.1 (enL enB x.2.2.2.2.2.2.2.2.1)), .d (.sc (.int .i64 x.2.2.2.2.2.2.2.2.2.1)), .d (.sc (.int .u8 ((x.2.2.2.2.2.2.2.2.2.2).toNat : Int)))], .row x.2.2.2.1.length (rz x.2.2.1 2)])
  | (.inr (.inr (.inr (.inl x)))) => (some 3, [.v (.c (.d (.lst x.1 (enL enB x.2.1)))), .v (.c (.ptr 0 0)), .v (.c (.own x.2.2.1 (enL enSS x.2.2.2.1) 1)), .v (.c (.d (.sc (.int .i64 x.2.2.2.2.1)))), .v (.c (.d (.sc (.int .i64 x.2.2.2.2.2.1)))), .v (.c (.d (.sc (.int .i64 x.2.2.2.2.2.2.1))))], [.cells [.d (.lst x.2.2.2.2.2.2.2.1 (enL enB x.2.2.2.2.2.2.2.2.1)), .d (.sc (.int .i64 x.2.2.2.2.2.2.2.2.2.1)), .d (.sc (.int .u8 ((x.2.2.2.2.2.2.2.2.2.2).toNat : Int)))], .row x.2.2.2.1.length (rz x.2.2.1 2)])
  | (.inr (.inr (.inr (.inr (.inl x))))) => (some 6, [.v (.c (.d (.lst x.1 (enL enB x.2.1)))), .v (.c (.ptr 0 0)), .v (.c (.own x.2.2.1 (enL enSS x.2.2.2.1) 1)), .v (.c (.d (.sc (.int .i64 x.2.2.2.2.1)))), .v (.c (.d (.sc (.int .i64 x.2.2.2.2.2.1)))), .v (.c (.d (.sc (.int .i64 x.2.2.2.2.2.2.1))))], [.cells [.d (.lst x.2.2.2.2.2.2.2.1 (enL enB x.2.2.2.2.2.2.2.2.1)), .d (.sc (.int .i64 x.2.2.2.2.2.2.2.2.2.1)), .d (.sc (.int .u8 ((x.2.2.2.2.2.2.2.2.2.2).toNat : Int)))], .row x.2.2.2.1.length (rz x.2.2.1 2)])
  | (.inr (.inr (.inr (.inr (.inr (.inl x)))))) => (some 1, [.v (.c (.d (.lst x.1 (enL enB x.2.1)))), .v (.c (.ptr 0 0)), .v (.c (.own x.2.2.1 (enL enSS x.2.2.2.1) 1)), .v (.c (.d (.sc (.int .i64 x.2.2.2.2.1)))), .v (.c (.d (.sc (.int .i64 x.2.2.2.2.2.1)))), .v (.c (.d (.sc (.int .i64 x.2.2.2.2.2.2.1))))], [.cells [.d (.lst x.2.2.2.2.2.2.2.1 (enL enB x.2.2.2.2.2.2.2.2.1)), .d (.sc (.int .i64 x.2.2.2.2.2.2.2.2.2.1)), .d (.sc (.int .u8 ((x.2.2.2.2.2.2.2.2.2.2).toNat : Int)))], .row x.2.2.2.1.length (rz x.2.2.1 2)])
  | (.inr (.inr (.inr (.inr (.inr (.inr (.inl x))))))) => (some 5, [.v (.c (.d (.lst x.1 (enL enB x.2.1)))), .v (.c (.ptr 0 0)), .v (.c (.own x.2.2.1 (enL enSS x.2.2.2.1) 1)), .v (.c (.d (.sc (.int .i64 x.2.2.2.2.1)))), .v (.c (.d (.sc (.int .i64 x.2.2.2.2.2.1)))), .v (.c (.d (.sc (.int .i64 x.2.2.2.2.2.2.1))))], [.cells [.d (.lst x.2.2.2.2.2.2.2.1 (enL enB x.2.2.2.2.2.2.2.2.1)), .d (.sc (.int .i64 x.2.2.2.2.2.2.2.2.2.1)), .d (.sc (.int .u8 ((x.2.2.2.2.2.2.2.2.2.2).toNat : Int)))], .row x.2.2.2.1.length (rz x.2.2.1 2)])
  | (.inr (.inr (.inr (.inr (.inr (.inr (.inr (.inl x)))))))) => (some 7, [.v (.c (.d (.lst x.1 (enL enB x.2.1)))), .v (.c (.ptr 0 0)), .v (.c (.own x.2.2.1 (enL enSS x.2.2.2.1) 1)), .v (.c (.d (.sc (.int .i64 x.2.2.2.2.1)))), .v (.c (.d (.sc (.int .i64 x.2.2.2.2.2.1)))), .v (.c (.d (.sc (.int .i64 x.2.2.2.2.2.2.1))))], [.cells [.d (.lst x.2.2.2.2.2.2.2.1 (enL enB x.2.2.2.2.2.2.2.2.1)), .d (.sc (.int .i64 x.2.2.2.2.2.2.2.2.2.1)), .d (.sc (.int .u8 ((x.2.2.2.2.2.2.2.2.2.2).toNat : Int)))], .row x.2.2.2.1.length (rz x.2.2.1 2)])
  | (.inr (.inr (.inr (.inr (.inr (.inr (.inr (.inr x)))))))) => (some 0, [.v (.c (.d (.lst x.1 (enL enB x.2.1)))), .v (.c (.ptr 0 0)), .v (.c (.own x.2.2.1 (enL enSS x.2.2.2.1) 1)), .v (.c (.d (.sc (.int .i64 x.2.2.2.2.1)))), .v (.c (.d (.sc (.int .i64 x.2.2.2.2.2.1)))), .v (.c (.d (.sc (.int .i64 x.2.2.2.2.2.2.1))))], [.cells [.d (.lst x.2.2.2.2.2.2.2.1 (enL enB x.2.2.2.2.2.2.2.2.1)), .d (.sc (.int .i64 x.2.2.2.2.2.2.2.2.2.1)), .d (.sc (.int .u8 ((x.2.2.2.2.2.2.2.2.2.2).toNat : Int)))], .row x.2.2.2.1.length (rz x.2.2.1 2)])
def j20_63 (b0_0 : Bool) (b0_1 : List UInt8) (from7 to8 e9 : Int) (h0_0_0 : Bool) (h0_0_1 : List UInt8) (h0_1 : Int) (h0_2 : UInt8) : Option (((Bool × List UInt8) ⊕ (Bool × List UInt8 × Bool × List (Bs × Bs) × Int × Int × Int × Bool × List UInt8 × Int × UInt8) ⊕ (Bool × List UInt8 × Bool × List (Bs × Bs) × Int × Int × Int × Bool × List UInt8 × Int × UInt8) ⊕ (Bool × List UInt8 × Bool × List (Bs × Bs) × Int × Int × Int × Bool × List UInt8 × Int × UInt8) ⊕ (Bool × List UInt8 × Bool × List (Bs × Bs) × Int × Int × Int × Bool × List UInt8 × Int × UInt8) ⊕ (Bool × List UInt8 × Bool × List (Bs × Bs) × Int × Int × Int × Bool × List UInt8 × Int × UInt8) ⊕ (Bool × List UInt8 × Bool × List (Bs × Bs) × Int × Int × Int × Bool × List UInt8 × Int × UInt8) ⊕ (Bool × List UInt8 × Bool × List (Bs × Bs) × Int × Int × Int × Bool × List UInt8 × Int × UInt8) ⊕ (Bool × List UInt8 × Bool × List (Bs × Bs) × Int × Int × Int × Bool × List UInt8 × Int × UInt8)) ⊕ R20) :=
  some (.inl (.inr (.inr (.inr (.inr (.inl (b0_0, b0_1, true, ([] : List (Bs × Bs)), from7, to8, e9, h0_0_0, h0_0_1, h0_1, h0_2)))))))
theorem j20_63_t (b0_0 : Bool) (b0_1 : List UInt8) (from7 to8 e9 : Int) (h0_0_0 : Bool) (h0_0_1 : List UInt8) (h0_1 : Int) (h0_2 : UInt8)  (sl : Nat → AV) (zq0 : sl 0 = .v (.c (.d (.lst b0_0 (enL enB b0_1))))) (zq5 : sl 5 = .v (.c (.ptr 0 0))) (zq6 : sl 6 = .v (.c (.d (.lst true [])))) (zq7 : sl 7 = .v (.c (.d (.sc (.int .i64 from7))))) (zq8 : sl 8 = .v (.c (.d (.sc (.int .i64 to8))))) (zq9 : sl 9 = .v (.c (.d (.sc (.int .i64 e9))))) :
    stepE (K20_2 (mm := mm)) (scopeK 0 [(0, .keep), (5, .keep), (6, .own), (7, .keep), (8, .keep), (9, .keep)] c20_3 (den (E0 mm) 20 0 (callW (E0 mm)) itW c20_63 none ⟨sl, [.cells [.d (.lst h0_0_0 (enL enB h0_0_1)), .d (.sc (.int .i64 h0_1)), .d (.sc (.int .u8 ((h0_2).toNat : Int)))]]⟩)) = (j20_63 b0_0 b0_1 from7 to8 e9 h0_0_0 h0_0_1 h0_1 h0_2).map (sm en20_2 e20) := by
  simp -implicitDefEqProofs only [j20_63, c20_63_e, c20_64_e, (scopeK_g (show hasLabel c20_3 6 = true by kernel_rfl)), zq0, zq5, zq6, zq7, zq8, zq9, setA, setB, za, zb, zc, zd, ze, zf, zg, zh, zi, zj, zk, zl, zm, zn, zo, zp, reduceCtorEq, zE, ↓reduceIte]
  all_goals rfl
def j20_60 (b0_0 : Bool) (b0_1 : List UInt8) (from7 to8 e9 : Int) (t74 h0_0_0 : Bool) (h0_0_1 : List UInt8) (h0_1 : Int) (h0_2 : UInt8) : Option (((Bool × List UInt8) ⊕ (Bool × List UInt8 × Bool × List (Bs × Bs) × Int × Int × Int × Bool × List UInt8 × Int × UInt8) ⊕ (Bool × List UInt8 × Bool × List (Bs × Bs) × Int × Int × Int × Bool × List UInt8 × Int × UInt8) ⊕ (Bool × List UInt8 × Bool × List (Bs × Bs) × Int × Int × Int × Bool × List UInt8 × Int × UInt8) ⊕ (Bool × List UInt8 × Bool × List (Bs × Bs) × Int × Int × Int × Bool × List UInt8 × Int × UInt8) ⊕ (Bool × List UInt8 × Bool × List (Bs × Bs) × Int × Int × Int × Bool × List UInt8 × Int × UInt8) ⊕ (Bool × List UInt8 × Bool × List (Bs × Bs) × Int × Int × Int × Bool × List UInt8 × Int × UInt8) ⊕ (Bool × List UInt8 × Bool × List (Bs × Bs) × Int × Int × Int × Bool × List UInt8 × Int × UInt8) ⊕ (Bool × List UInt8 × Bool × List (Bs × Bs) × Int × Int × Int × Bool × List UInt8 × Int × UInt8)) ⊕ R20) :=
  if t74 = true then
    some (.inl (.inr (.inr (.inr (.inl (b0_0, b0_1, true, ([] : List (Bs × Bs)), from7, to8, e9, h0_0_0, h0_0_1, h0_1, h0_2))))))
  else
    j20_63 b0_0 b0_1 from7 to8 e9 h0_0_0 h0_0_1 h0_1 h0_2
theorem j20_60_t (b0_0 : Bool) (b0_1 : List UInt8) (from7 to8 e9 : Int) (t74 h0_0_0 : Bool) (h0_0_1 : List UInt8) (h0_1 : Int) (h0_2 : UInt8)  (sl : Nat → AV) (zq0 : sl 0 = .v (.c (.d (.lst b0_0 (enL enB b0_1))))) (zq5 : sl 5 = .v (.c (.ptr 0 0))) (zq6 : sl 6 = .v (.c (.d (.lst true [])))) (zq7 : sl 7 = .v (.c (.d (.sc (.int .i64 from7))))) (zq8 : sl 8 = .v (.c (.d (.sc (.int .i64 to8))))) (zq9 : sl 9 = .v (.c (.d (.sc (.int .i64 e9))))) (zq74 : sl 74 = .v (.c (.d (.sc (.bool t74))))) :
    stepE (K20_2 (mm := mm)) (scopeK 0 [(0, .keep), (5, .keep), (6, .own), (7, .keep), (8, .keep), (9, .keep)] c20_3 (seqD (E0 mm) 20 0 (callW (E0 mm)) itW c20_63 (den (E0 mm) 20 0 (callW (E0 mm)) itW c20_60 none ⟨sl, [.cells [.d (.lst h0_0_0 (enL enB h0_0_1)), .d (.sc (.int .i64 h0_1)), .d (.sc (.int .u8 ((h0_2).toNat : Int)))]]⟩))) = (j20_60 b0_0 b0_1 from7 to8 e9 t74 h0_0_0 h0_0_1 h0_1 h0_2).map (sm en20_2 e20) := by
  simp -implicitDefEqProofs only [j20_60, (show c20_60 = Code.cond _ c20_61 c20_62 from rfl), zq0, zq5, zq6, zq7, zq8, zq9, zq74, setA, setB, za, zb, zc, zd, ze, zf, zg, zh, zi, zj, zk, zl, zm, zn, zo, zp, reduceCtorEq, zE, ↓reduceIte]
  refine brB (fun yc14 => ?_) (fun yc14 => ?_)
  · simp -implicitDefEqProofs only [c20_61_e, (scopeK_g (show hasLabel c20_3 3 = true by kernel_rfl)), zq0, zq5, zq6, zq7, zq8, zq9, zq74, yc14, setA, setB, za, zb, zc, zd, ze, zf, zg, zh, zi, zj, zk, zl, zm, zn, zo, zp, reduceCtorEq, zE, ↓reduceIte]
    all_goals rfl
  · simp -implicitDefEqProofs only [c20_62_e, zq0, zq5, zq6, zq7, zq8, zq9, zq74, yc14, setA, setB, za, zb, zc, zd, ze, zf, zg, zh, zi, zj, zk, zl, zm, zn, zo, zp, reduceCtorEq, zE, ↓reduceIte]
    exact j20_63_t b0_0 b0_1 from7 to8 e9 h0_0_0 h0_0_1 h0_1 h0_2 _ (by exact zq0) (by exact zq5) (by exact zq6) (by exact zq7) (by exact zq8) (by exact zq9)
def j20_57 (b0_0 : Bool) (b0_1 : List UInt8) (from7 to8 e9 : Int) (h0_0_0 : Bool) (h0_0_1 : List UInt8) (h0_1 : Int) (h0_2 : UInt8) : Option (((Bool × List UInt8) ⊕ (Bool × List UInt8 × Bool × List (Bs × Bs) × Int × Int × Int × Bool × List UInt8 × Int × UInt8) ⊕ (Bool × List UInt8 × Bool × List (Bs × Bs) × Int × Int × Int × Bool × List UInt8 × Int × UInt8) ⊕ (Bool × List UInt8 × Bool × List (Bs × Bs) × Int × Int × Int × Bool × List UInt8 × Int × UInt8) ⊕ (Bool × List UInt8 × Bool × List (Bs × Bs) × Int × Int × Int × Bool × List UInt8 × Int × UInt8) ⊕ (Bool × List UInt8 × Bool × List (Bs × Bs) × Int × Int × Int × Bool × List UInt8 × Int × UInt8) ⊕ (Bool × List UInt8 × Bool × List (Bs × Bs) × Int × Int × Int × Bool × List UInt8 × Int × UInt8) ⊕ (Bool × List UInt8 × Bool × List (Bs × Bs) × Int × Int × Int × Bool × List UInt8 × Int × UInt8) ⊕ (Bool × List UInt8 × Bool × List (Bs × Bs) × Int × Int × Int × Bool × List UInt8 × Int × UInt8)) ⊕ R20) :=
  if (h0_2 == (13 : UInt8)) = true then
    j20_60 b0_0 b0_1 from7 to8 e9 false h0_0_0 h0_0_1 h0_1 h0_2
  else
    j20_60 b0_0 b0_1 from7 to8 e9 (decide (512 < (w64 (h0_1 - from7)))) h0_0_0 h0_0_1 h0_1 h0_2
theorem j20_57_t (b0_0 : Bool) (b0_1 : List UInt8) (from7 to8 e9 : Int) (h0_0_0 : Bool) (h0_0_1 : List UInt8) (h0_1 : Int) (h0_2 : UInt8)  (sl : Nat → AV) (zq0 : sl 0 = .v (.c (.d (.lst b0_0 (enL enB b0_1))))) (zq5 : sl 5 = .v (.c (.ptr 0 0))) (zq6 : sl 6 = .v (.c (.d (.lst true [])))) (zq7 : sl 7 = .v (.c (.d (.sc (.int .i64 from7))))) (zq8 : sl 8 = .v (.c (.d (.sc (.int .i64 to8))))) (zq9 : sl 9 = .v (.c (.d (.sc (.int .i64 e9))))) :
    stepE (K20_2 (mm := mm)) (scopeK 0 [(0, .keep), (5, .keep), (6, .own), (7, .keep), (8, .keep), (9, .keep)] c20_3 (den (E0 mm) 20 0 (callW (E0 mm)) itW c20_57 none ⟨sl, [.cells [.d (.lst h0_0_0 (enL enB h0_0_1)), .d (.sc (.int .i64 h0_1)), .d (.sc (.int .u8 ((h0_2).toNat : Int)))]]⟩)) = (j20_57 b0_0 b0_1 from7 to8 e9 h0_0_0 h0_0_1 h0_1 h0_2).map (sm en20_2 e20) := by
  simp -implicitDefEqProofs only [j20_57, c20_57_e, c20_58_e, c20_59_r, (show opsOf c20_59 = _ :: _ from rfl), Tryd.underlying69, sz5, ag5, zq0, zq5, zq6, zq7, zq8, zq9, setA, setB, za, zb, zc, zd, ze, zf, zg, zh, zi, zj, zk, zl, zm, zn, zo, zp, reduceCtorEq, zE, ↓reduceIte]
  refine brB (fun yc13 => ?_) (fun yc13 => ?_)
  · simp -implicitDefEqProofs only [zq0, zq5, zq6, zq7, zq8, zq9, yc13, setA, setB, za, zb, zc, zd, ze, zf, zg, zh, zi, zj, zk, zl, zm, zn, zo, zp, reduceCtorEq, zE, ↓reduceIte]
    exact j20_60_t b0_0 b0_1 from7 to8 e9 false h0_0_0 h0_0_1 h0_1 h0_2 _ (by exact zq0) (by exact zq5) (by exact zq6) (by exact zq7) (by exact zq8) (by exact zq9) (by rfl)
  · simp -implicitDefEqProofs only [Tryd.underlying69, sz3, ag3, zq0, zq5, zq6, zq7, zq8, zq9, yc13, setA, setB, za, zb, zc, zd, ze, zf, zg, zh, zi, zj, zk, zl, zm, zn, zo, zp, reduceCtorEq, zE, ↓reduceIte]
    exact j20_60_t b0_0 b0_1 from7 to8 e9 (decide (512 < (w64 (h0_1 - from7)))) h0_0_0 h0_0_1 h0_1 h0_2 _ (by exact zq0) (by exact zq5) (by exact zq6) (by exact zq7) (by exact zq8) (by exact zq9) (by rfl)
def j20_49 (b0_0 : Bool) (b0_1 : List UInt8) (from7 to8 : Int) (h0_0_0 : Bool) (h0_0_1 : List UInt8) (h0_1 : Int) (h0_2 : UInt8) : Option (((Bool × List UInt8) ⊕ (Bool × List UInt8 × Bool × List (Bs × Bs) × Int × Int × Int × Bool × List UInt8 × Int × UInt8) ⊕ (Bool × List UInt8 × Bool × List (Bs × Bs) × Int × Int × Int × Bool × List UInt8 × Int × UInt8) ⊕ (Bool × List UInt8 × Bool × List (Bs × Bs) × Int × Int × Int × Bool × List UInt8 × Int × UInt8) ⊕ (Bool × List UInt8 × Bool × List (Bs × Bs) × Int × Int × Int × Bool × List UInt8 × Int × UInt8) ⊕ (Bool × List UInt8 × Bool × List (Bs × Bs) × Int × Int × Int × Bool × List UInt8 × Int × UInt8) ⊕ (Bool × List UInt8 × Bool × List (Bs × Bs) × Int × Int × Int × Bool × List UInt8 × Int × UInt8) ⊕ (Bool × List UInt8 × Bool × List (Bs × Bs) × Int × Int × Int × Bool × List UInt8 × Int × UInt8) ⊕ (Bool × List UInt8 × Bool × List (Bs × Bs) × Int × Int × Int × Bool × List UInt8 × Int × UInt8)) ⊕ R20) :=
  (m33 h0_0_0 h0_0_1 h0_1 h0_2).bind fun yr11 =>
    if (yr11.1 == 0) = true then
      j20_57 b0_0 b0_1 from7 to8 yr11.1 yr11.2.1 yr11.2.2.1 yr11.2.2.2.1 yr11.2.2.2.2
    else
      some (.inl (.inr (.inr (.inr (.inr (.inr (.inl (b0_0, b0_1, true, ([] : List (Bs × Bs)), from7, to8, yr11.1, yr11.2.1, yr11.2.2.1, yr11.2.2.2.1, yr11.2.2.2.2))))))))
theorem j20_49_t (b0_0 : Bool) (b0_1 : List UInt8) (from7 to8 : Int) (h0_0_0 : Bool) (h0_0_1 : List UInt8) (h0_1 : Int) (h0_2 : UInt8)  (sl : Nat → AV) (zq0 : sl 0 = .v (.c (.d (.lst b0_0 (enL enB b0_1))))) (zq5 : sl 5 = .v (.c (.ptr 0 0))) (zq6 : sl 6 = .v (.c (.d (.lst true [])))) (zq7 : sl 7 = .v (.c (.d (.sc (.int .i64 from7))))) (zq8 : sl 8 = .v (.c (.d (.sc (.int .i64 to8))))) :
    stepE (K20_2 (mm := mm)) (scopeK 0 [(0, .keep), (5, .keep), (6, .own), (7, .keep), (8, .keep), (9, .keep)] c20_3 (den (E0 mm) 20 0 (callW (E0 mm)) itW c20_49 none ⟨sl, [.cells [.d (.lst h0_0_0 (enL enB h0_0_1)), .d (.sc (.int .i64 h0_1)), .d (.sc (.int .u8 ((h0_2).toNat : Int)))]]⟩)) = (j20_49 b0_0 b0_1 from7 to8 h0_0_0 h0_0_1 h0_1 h0_2).map (sm en20_2 e20) := by
  simp -implicitDefEqProofs only [j20_49, c20_49_e, c20_50_e, c20_51_r, (show opsOf c20_51 = _ :: _ from rfl), ent33, prm33, f33_t, zq0, zq5, zq6, zq7, zq8, setA, setB, za, zb, zc, zd, ze, zf, zg, zh, zi, zj, zk, zl, zm, zn, zo, zp, reduceCtorEq, zE, ↓reduceIte]
  refine brM (fun yc10 => ?_) (fun yr11 yc10 => ?_)
  · rw [yc10]; rfl
  · simp -implicitDefEqProofs only [e33, c20_52_e, c20_53_r, (show opsOf c20_53 = _ :: _ from rfl), (show c20_54 = Code.cond _ c20_55 c20_56 from rfl), zq0, zq5, zq6, zq7, zq8, yc10, setA, setB, za, zb, zc, zd, ze, zf, zg, zh, zi, zj, zk, zl, zm, zn, zo, zp, reduceCtorEq, zE, ↓reduceIte]
    refine brB (fun yc12 => ?_) (fun yc12 => ?_)
    · simp -implicitDefEqProofs only [c20_56_e, zq0, zq5, zq6, zq7, zq8, yc10, yc12, setA, setB, za, zb, zc, zd, ze, zf, zg, zh, zi, zj, zk, zl, zm, zn, zo, zp, reduceCtorEq, zE, ↓reduceIte]
      exact j20_57_t b0_0 b0_1 from7 to8 yr11.1 yr11.2.1 yr11.2.2.1 yr11.2.2.2.1 yr11.2.2.2.2 _ (by exact zq0) (by exact zq5) (by exact zq6) (by exact zq7) (by exact zq8) (by rfl)
    · simp -implicitDefEqProofs only [c20_55_e, (scopeK_g (show hasLabel c20_3 1 = true by kernel_rfl)), zq0, zq5, zq6, zq7, zq8, yc10, yc12, setA, setB, za, zb, zc, zd, ze, zf, zg, zh, zi, zj, zk, zl, zm, zn, zo, zp, reduceCtorEq, zE, ↓reduceIte]
      all_goals rfl
def j20_40 (b0_0 : Bool) (b0_1 : List UInt8) (from7 to8 e9 : Int) (t31 h0_0_0 : Bool) (h0_0_1 : List UInt8) (h0_1 : Int) (h0_2 : UInt8) : Option (((Bool × List UInt8) ⊕ (Bool × List UInt8 × Bool × List (Bs × Bs) × Int × Int × Int × Bool × List UInt8 × Int × UInt8) ⊕ (Bool × List UInt8 × Bool × List (Bs × Bs) × Int × Int × Int × Bool × List UInt8 × Int × UInt8) ⊕ (Bool × List UInt8 × Bool × List (Bs × Bs) × Int × Int × Int × Bool × List UInt8 × Int × UInt8) ⊕ (Bool × List UInt8 × Bool × List (Bs × Bs) × Int × Int × Int × Bool × List UInt8 × Int × UInt8) ⊕ (Bool × List UInt8 × Bool × List (Bs × Bs) × Int × Int × Int × Bool × List UInt8 × Int × UInt8) ⊕ (Bool × List UInt8 × Bool × List (Bs × Bs) × Int × Int × Int × Bool × List UInt8 × Int × UInt8) ⊕ (Bool × List UInt8 × Bool × List (Bs × Bs) × Int × Int × Int × Bool × List UInt8 × Int × UInt8) ⊕ (Bool × List UInt8 × Bool × List (Bs × Bs) × Int × Int × Int × Bool × List UInt8 × Int × UInt8)) ⊕ R20) :=
  if t31 = true then
    some (.inl (.inr (.inr (.inl (b0_0, b0_1, true, ([] : List (Bs × Bs)), from7, h0_1, e9, h0_0_0, h0_0_1, h0_1, h0_2)))))
  else
    (m34 h0_2).bind fun yr8 =>
      if yr8 = true then
        j20_49 b0_0 b0_1 from7 to8 h0_0_0 h0_0_1 h0_1 h0_2
      else
        some (.inl (.inr (.inr (.inr (.inr (.inr (.inr (.inl (b0_0, b0_1, true, ([] : List (Bs × Bs)), from7, to8, e9, h0_0_0, h0_0_1, h0_1, h0_2)))))))))
theorem j20_40_t (b0_0 : Bool) (b0_1 : List UInt8) (from7 to8 e9 : Int) (t31 h0_0_0 : Bool) (h0_0_1 : List UInt8) (h0_1 : Int) (h0_2 : UInt8)  (sl : Nat → AV) (zq0 : sl 0 = .v (.c (.d (.lst b0_0 (enL enB b0_1))))) (zq5 : sl 5 = .v (.c (.ptr 0 0))) (zq6 : sl 6 = .v (.c (.d (.lst true [])))) (zq7 : sl 7 = .v (.c (.d (.sc (.int .i64 from7))))) (zq8 : sl 8 = .v (.c (.d (.sc (.int .i64 to8))))) (zq9 : sl 9 = .v (.c (.d (.sc (.int .i64 e9))))) (zq31 : sl 31 = .v (.c (.d (.sc (.bool t31))))) :
    stepE (K20_2 (mm := mm)) (scopeK 0 [(0, .keep), (5, .keep), (6, .own), (7, .keep), (8, .keep), (9, .keep)] c20_3 (seqD (E0 mm) 20 0 (callW (E0 mm)) itW c20_49 (blockD 1 (den (E0 mm) 20 0 (callW (E0 mm)) itW c20_40 none ⟨sl, [.cells [.d (.lst h0_0_0 (enL enB h0_0_1)), .d (.sc (.int .i64 h0_1)), .d (.sc (.int .u8 ((h0_2).toNat : Int)))]]⟩)))) = (j20_40 b0_0 b0_1 from7 to8 e9 t31 h0_0_0 h0_0_1 h0_1 h0_2).map (sm en20_2 e20) := by
  simp -implicitDefEqProofs only [j20_40, (show c20_40 = Code.cond _ c20_41 c20_44 from rfl), zq0, zq5, zq6, zq7, zq8, zq9, zq31, setA, setB, za, zb, zc, zd, ze, zf, zg, zh, zi, zj, zk, zl, zm, zn, zo, zp, reduceCtorEq, zE, ↓reduceIte]
  refine brB (fun yc6 => ?_) (fun yc6 => ?_)
  · simp -implicitDefEqProofs only [c20_41_e, c20_42_r, (show opsOf c20_42 = _ :: _ from rfl), Tryd.underlying69, sz3, ag3, c20_43_e, (scopeK_g (show hasLabel c20_3 4 = true by kernel_rfl)), zq0, zq5, zq6, zq7, zq8, zq9, zq31, yc6, setA, setB, za, zb, zc, zd, ze, zf, zg, zh, zi, zj, zk, zl, zm, zn, zo, zp, reduceCtorEq, zE, ↓reduceIte]
    all_goals rfl
  · simp -implicitDefEqProofs only [c20_44_e, c20_45_r, (show opsOf c20_45 = _ :: _ from rfl), Tryd.underlying69, sz5, ag5, ent34, prm34, f34_t, zq0, zq5, zq6, zq7, zq8, zq9, zq31, yc6, setA, setB, za, zb, zc, zd, ze, zf, zg, zh, zi, zj, zk, zl, zm, zn, zo, zp, reduceCtorEq, zE, ↓reduceIte]
    refine brM (fun yc7 => ?_) (fun yr8 yc7 => ?_)
    · rw [yc7]; rfl
    · simp -implicitDefEqProofs only [e34, (show c20_46 = Code.cond _ c20_47 c20_48 from rfl), zq0, zq5, zq6, zq7, zq8, zq9, zq31, yc6, yc7, setA, setB, za, zb, zc, zd, ze, zf, zg, zh, zi, zj, zk, zl, zm, zn, zo, zp, reduceCtorEq, zE, ↓reduceIte]
      refine brB (fun yc9 => ?_) (fun yc9 => ?_)
      · simp -implicitDefEqProofs only [c20_48_e, zq0, zq5, zq6, zq7, zq8, zq9, zq31, yc6, yc7, yc9, setA, setB, za, zb, zc, zd, ze, zf, zg, zh, zi, zj, zk, zl, zm, zn, zo, zp, reduceCtorEq, zE, ↓reduceIte]
        exact j20_49_t b0_0 b0_1 from7 to8 h0_0_0 h0_0_1 h0_1 h0_2 _ (by exact zq0) (by exact zq5) (by exact zq6) (by exact zq7) (by exact zq8)
      · simp -implicitDefEqProofs only [c20_47_e, (scopeK_g (show hasLabel c20_3 5 = true by kernel_rfl)), zq0, zq5, zq6, zq7, zq8, zq9, zq31, yc6, yc7, yc9, setA, setB, za, zb, zc, zd, ze, zf, zg, zh, zi, zj, zk, zl, zm, zn, zo, zp, reduceCtorEq, zE, ↓reduceIte]
        all_goals rfl
def j20_34 (b0_0 : Bool) (b0_1 : List UInt8) (from7 to8 e9 : Int) (h0_0_0 : Bool) (h0_0_1 : List UInt8) (h0_1 : Int) (h0_2 : UInt8) : Option (((Bool × List UInt8) ⊕ (Bool × List UInt8 × Bool × List (Bs × Bs) × Int × Int × Int × Bool × List UInt8 × Int × UInt8) ⊕ (Bool × List UInt8 × Bool × List (Bs × Bs) × Int × Int × Int × Bool × List UInt8 × Int × UInt8) ⊕ (Bool × List UInt8 × Bool × List (Bs × Bs) × Int × Int × Int × Bool × List UInt8 × Int × UInt8) ⊕ (Bool × List UInt8 × Bool × List (Bs × Bs) × Int × Int × Int × Bool × List UInt8 × Int × UInt8) ⊕ (Bool × List UInt8 × Bool × List (Bs × Bs) × Int × Int × Int × Bool × List UInt8 × Int × UInt8) ⊕ (Bool × List UInt8 × Bool × List (Bs × Bs) × Int × Int × Int × Bool × List UInt8 × Int × UInt8) ⊕ (Bool × List UInt8 × Bool × List (Bs × Bs) × Int × Int × Int × Bool × List UInt8 × Int × UInt8) ⊕ (Bool × List UInt8 × Bool × List (Bs × Bs) × Int × Int × Int × Bool × List UInt8 × Int × UInt8)) ⊕ R20) :=
  if (h0_2 == (58 : UInt8)) = true then
    j20_40 b0_0 b0_1 from7 to8 e9 (decide ((w64 (from7 + 1)) < h0_1)) h0_0_0 h0_0_1 h0_1 h0_2
  else
    j20_40 b0_0 b0_1 from7 to8 e9 false h0_0_0 h0_0_1 h0_1 h0_2
theorem j20_34_t (b0_0 : Bool) (b0_1 : List UInt8) (from7 to8 e9 : Int) (h0_0_0 : Bool) (h0_0_1 : List UInt8) (h0_1 : Int) (h0_2 : UInt8)  (sl : Nat → AV) (zq0 : sl 0 = .v (.c (.d (.lst b0_0 (enL enB b0_1))))) (zq5 : sl 5 = .v (.c (.ptr 0 0))) (zq6 : sl 6 = .v (.c (.d (.lst true [])))) (zq7 : sl 7 = .v (.c (.d (.sc (.int .i64 from7))))) (zq8 : sl 8 = .v (.c (.d (.sc (.int .i64 to8))))) (zq9 : sl 9 = .v (.c (.d (.sc (.int .i64 e9))))) :
    stepE (K20_2 (mm := mm)) (scopeK 0 [(0, .keep), (5, .keep), (6, .own), (7, .keep), (8, .keep), (9, .keep)] c20_3 (den (E0 mm) 20 0 (callW (E0 mm)) itW c20_34 none ⟨sl, [.cells [.d (.lst h0_0_0 (enL enB h0_0_1)), .d (.sc (.int .i64 h0_1)), .d (.sc (.int .u8 ((h0_2).toNat : Int)))]]⟩)) = (j20_34 b0_0 b0_1 from7 to8 e9 h0_0_0 h0_0_1 h0_1 h0_2).map (sm en20_2 e20) := by
  simp -implicitDefEqProofs only [j20_34, c20_34_e, c20_35_e, den_label_n, c20_36_e, c20_37_e, c20_38_e, c20_39_r, (show opsOf c20_39 = _ :: _ from rfl), Tryd.underlying69, sz5, ag5, zq0, zq5, zq6, zq7, zq8, zq9, setA, setB, za, zb, zc, zd, ze, zf, zg, zh, zi, zj, zk, zl, zm, zn, zo, zp, reduceCtorEq, zE, ↓reduceIte]
  refine brB (fun yc5 => ?_) (fun yc5 => ?_)
  · simp -implicitDefEqProofs only [Tryd.underlying69, sz3, ag3, zq0, zq5, zq6, zq7, zq8, zq9, yc5, setA, setB, za, zb, zc, zd, ze, zf, zg, zh, zi, zj, zk, zl, zm, zn, zo, zp, reduceCtorEq, zE, ↓reduceIte]
    exact j20_40_t b0_0 b0_1 from7 to8 e9 (decide ((w64 (from7 + 1)) < h0_1)) h0_0_0 h0_0_1 h0_1 h0_2 _ (by exact zq0) (by exact zq5) (by exact zq6) (by exact zq7) (by exact zq8) (by exact zq9) (by rfl)
  · simp -implicitDefEqProofs only [zq0, zq5, zq6, zq7, zq8, zq9, yc5, setA, setB, za, zb, zc, zd, ze, zf, zg, zh, zi, zj, zk, zl, zm, zn, zo, zp, reduceCtorEq, zE, ↓reduceIte]
    exact j20_40_t b0_0 b0_1 from7 to8 e9 false h0_0_0 h0_0_1 h0_1 h0_2 _ (by exact zq0) (by exact zq5) (by exact zq6) (by exact zq7) (by exact zq8) (by exact zq9) (by rfl)
def j20_23 (b0_0 : Bool) (b0_1 : List UInt8) (from7 to8 e9 : Int) (h0_0_0 : Bool) (h0_0_1 : List UInt8) (h0_1 : Int) (h0_2 : UInt8) : Option (((Bool × List UInt8) ⊕ (Bool × List UInt8 × Bool × List (Bs × Bs) × Int × Int × Int × Bool × List UInt8 × Int × UInt8) ⊕ (Bool × List UInt8 × Bool × List (Bs × Bs) × Int × Int × Int × Bool × List UInt8 × Int × UInt8) ⊕ (Bool × List UInt8 × Bool × List (Bs × Bs) × Int × Int × Int × Bool × List UInt8 × Int × UInt8) ⊕ (Bool × List UInt8 × Bool × List (Bs × Bs) × Int × Int × Int × Bool × List UInt8 × Int × UInt8) ⊕ (Bool × List UInt8 × Bool × List (Bs × Bs) × Int × Int × Int × Bool × List UInt8 × Int × UInt8) ⊕ (Bool × List UInt8 × Bool × List (Bs × Bs) × Int × Int × Int × Bool × List UInt8 × Int × UInt8) ⊕ (Bool × List UInt8 × Bool × List (Bs × Bs) × Int × Int × Int × Bool × List UInt8 × Int × UInt8) ⊕ (Bool × List UInt8 × Bool × List (Bs × Bs) × Int × Int × Int × Bool × List UInt8 × Int × UInt8)) ⊕ R20) :=
  if (h0_2 == (13 : UInt8)) = true then
    some (.inl (.inr (.inl (b0_0, b0_1, true, ([] : List (Bs × Bs)), from7, to8, e9, h0_0_0, h0_0_1, h0_1, h0_2))))
  else
    j20_34 b0_0 b0_1 from7 to8 e9 h0_0_0 h0_0_1 h0_1 h0_2
theorem j20_23_t (b0_0 : Bool) (b0_1 : List UInt8) (from7 to8 e9 : Int) (h0_0_0 : Bool) (h0_0_1 : List UInt8) (h0_1 : Int) (h0_2 : UInt8)  (sl : Nat → AV) (zq0 : sl 0 = .v (.c (.d (.lst b0_0 (enL enB b0_1))))) (zq5 : sl 5 = .v (.c (.ptr 0 0))) (zq6 : sl 6 = .v (.c (.d (.lst true [])))) (zq7 : sl 7 = .v (.c (.d (.sc (.int .i64 from7))))) (zq8 : sl 8 = .v (.c (.d (.sc (.int .i64 to8))))) (zq9 : sl 9 = .v (.c (.d (.sc (.int .i64 e9))))) :
    stepE (K20_2 (mm := mm)) (scopeK 0 [(0, .keep), (5, .keep), (6, .own), (7, .keep), (8, .keep), (9, .keep)] c20_3 (den (E0 mm) 20 0 (callW (E0 mm)) itW c20_23 none ⟨sl, [.cells [.d (.lst h0_0_0 (enL enB h0_0_1)), .d (.sc (.int .i64 h0_1)), .d (.sc (.int .u8 ((h0_2).toNat : Int)))]]⟩)) = (j20_23 b0_0 b0_1 from7 to8 e9 h0_0_0 h0_0_1 h0_1 h0_2).map (sm en20_2 e20) := by
  simp -implicitDefEqProofs only [j20_23, c20_23_e, c20_24_e, c20_25_e, c20_26_r, (show opsOf c20_26 = _ :: _ from rfl), Tryd.underlying69, sz5, ag5, (show c20_27 = Code.cond _ c20_28 c20_29 from rfl), zq0, zq5, zq6, zq7, zq8, zq9, setA, setB, za, zb, zc, zd, ze, zf, zg, zh, zi, zj, zk, zl, zm, zn, zo, zp, reduceCtorEq, zE, ↓reduceIte]
  refine brB (fun yc4 => ?_) (fun yc4 => ?_)
  · simp -implicitDefEqProofs only [c20_28_e, (scopeK_g (show hasLabel c20_3 2 = true by kernel_rfl)), zq0, zq5, zq6, zq7, zq8, zq9, yc4, setA, setB, za, zb, zc, zd, ze, zf, zg, zh, zi, zj, zk, zl, zm, zn, zo, zp, reduceCtorEq, zE, ↓reduceIte]
    all_goals rfl
  · simp -implicitDefEqProofs only [c20_29_e, c20_30_r, (show opsOf c20_30 = _ :: _ from rfl), Tryd.underlying49, (show c20_31 = Code.cond _ c20_32 c20_33 from rfl), c20_33_e, zq0, zq5, zq6, zq7, zq8, zq9, yc4, setA, setB, za, zb, zc, zd, ze, zf, zg, zh, zi, zj, zk, zl, zm, zn, zo, zp, reduceCtorEq, zE, ↓reduceIte]
    exact j20_34_t b0_0 b0_1 from7 to8 e9 h0_0_0 h0_0_1 h0_1 h0_2 _ (by exact zq0) (by exact zq5) (by exact zq6) (by exact zq7) (by exact zq8) (by exact zq9)
def s20_2x0 (b0_0 : Bool) (b0_1 : List UInt8) : Option (((Bool × List UInt8) ⊕ (Bool × List UInt8 × Bool × List (Bs × Bs) × Int × Int × Int × Bool × List UInt8 × Int × UInt8) ⊕ (Bool × List UInt8 × Bool × List (Bs × Bs) × Int × Int × Int × Bool × List UInt8 × Int × UInt8) ⊕ (Bool × List UInt8 × Bool × List (Bs × Bs) × Int × Int × Int × Bool × List UInt8 × Int × UInt8) ⊕ (Bool × List UInt8 × Bool × List (Bs × Bs) × Int × Int × Int × Bool × List UInt8 × Int × UInt8) ⊕ (Bool × List UInt8 × Bool × List (Bs × Bs) × Int × Int × Int × Bool × List UInt8 × Int × UInt8) ⊕ (Bool × List UInt8 × Bool × List (Bs × Bs) × Int × Int × Int × Bool × List UInt8 × Int × UInt8) ⊕ (Bool × List UInt8 × Bool × List (Bs × Bs) × Int × Int × Int × Bool × List UInt8 × Int × UInt8) ⊕ (Bool × List UInt8 × Bool × List (Bs × Bs) × Int × Int × Int × Bool × List UInt8 × Int × UInt8)) ⊕ R20) :=
  (m33 b0_0 b0_1 (0 : Int) (0 : UInt8)).bind fun yr2 =>
    if (yr2.1 == 0) = true then
      j20_23 b0_0 b0_1 (0 : Int) (0 : Int) yr2.1 yr2.2.1 yr2.2.2.1 yr2.2.2.2.1 yr2.2.2.2.2
    else
      some (.inl (.inr (.inr (.inr (.inr (.inr (.inl (b0_0, b0_1, true, ([] : List (Bs × Bs)), (0 : Int), (0 : Int), yr2.1, yr2.2.1, yr2.2.2.1, yr2.2.2.2.1, yr2.2.2.2.2))))))))
theorem s20_2x0_t (b0_0 : Bool) (b0_1 : List UInt8) :
    stepE (K20_2 (mm := mm)) (scopeF (E0 mm) 20 0 (callW (E0 mm)) itW c20_3 [(0, .keep), (5, .keep), (6, .own), (7, .keep), (8, .keep), (9, .keep)] (none, [.v (.c (.d (.lst b0_0 (enL enB b0_1)))), .dead, .dead, .dead, .dead, .dead], [])) = (s20_2x0 b0_0 b0_1).map (sm en20_2 e20) := by
  simp -implicitDefEqProofs only [s20_2x0, scopeF_eq, (show ∀ f st, den (E0 mm) 20 0 (callW (E0 mm)) itW c20_3 f st = den (E0 mm) 20 0 (callW (E0 mm)) itW (.seq c20_4 c20_5) f st from fun _ _ => rfl), c20_4_r, (show opsOf c20_4 = _ :: _ from rfl), Tryd.underlying69, zc69, sz22, sz3, sz5, c20_5_e, c20_6_r, (show opsOf c20_6 = _ :: _ from rfl), c20_7_e, c20_8_r, (show opsOf c20_8 = _ :: _ from rfl), c20_9_e, c20_10_r, (show opsOf c20_10 = _ :: _ from rfl), c20_11_e, c20_12_e, den_label_n, c20_13_e, c20_14_r, (show opsOf c20_14 = _ :: _ from rfl), ag3, c20_15_e, c20_16_e, c20_17_r, (show opsOf c20_17 = _ :: _ from rfl), ent33, prm33, f33_t, setA, setB, za, zb, zc, zd, ze, zf, zg, zh, zi, zj, zk, zl, zm, zn, zo, zp, reduceCtorEq, zE, ↓reduceIte]
  refine brM (fun yc1 => ?_) (fun yr2 yc1 => ?_)
  · rw [yc1]; rfl
  · simp -implicitDefEqProofs only [e33, c20_18_e, c20_19_r, (show opsOf c20_19 = _ :: _ from rfl), (show c20_20 = Code.cond _ c20_21 c20_22 from rfl), yc1, setA, setB, za, zb, zc, zd, ze, zf, zg, zh, zi, zj, zk, zl, zm, zn, zo, zp, reduceCtorEq, zE, ↓reduceIte]
    refine brB (fun yc3 => ?_) (fun yc3 => ?_)
    · simp -implicitDefEqProofs only [c20_22_e, yc1, yc3, setA, setB, za, zb, zc, zd, ze, zf, zg, zh, zi, zj, zk, zl, zm, zn, zo, zp, reduceCtorEq, zE, ↓reduceIte]
      exact j20_23_t b0_0 b0_1 (0 : Int) (0 : Int) yr2.1 yr2.2.1 yr2.2.2.1 yr2.2.2.2.1 yr2.2.2.2.2 _ (by rfl) (by rfl) (by rfl) (by rfl) (by rfl) (by rfl)
    · simp -implicitDefEqProofs only [c20_21_e, (scopeK_g (show hasLabel c20_3 1 = true by kernel_rfl)), yc1, yc3, setA, setB, za, zb, zc, zd, ze, zf, zg, zh, zi, zj, zk, zl, zm, zn, zo, zp, reduceCtorEq, zE, ↓reduceIte]
      all_goals rfl
def s20_2x1 (b0_0 : Bool) (b0_1 : List UInt8) (l6_0 : Bool) (l6_1 : List (Bs × Bs)) (from7 to8 e9 : Int) (h0_0_0 : Bool) (h0_0_1 : List UInt8) (h0_1 : Int) (h0_2 : UInt8) : Option (((Bool × List UInt8) ⊕ (Bool × List UInt8 × Bool × List (Bs × Bs) × Int × Int × Int × Bool × List UInt8 × Int × UInt8) ⊕ (Bool × List UInt8 × Bool × List (Bs × Bs) × Int × Int × Int × Bool × List UInt8 × Int × UInt8) ⊕ (Bool × List UInt8 × Bool × List (Bs × Bs) × Int × Int × Int × Bool × List UInt8 × Int × UInt8) ⊕ (Bool × List UInt8 × Bool × List (Bs × Bs) × Int × Int × Int × Bool × List UInt8 × Int × UInt8) ⊕ (Bool × List UInt8 × Bool × List (Bs × Bs) × Int × Int × Int × Bool × List UInt8 × Int × UInt8) ⊕ (Bool × List UInt8 × Bool × List (Bs × Bs) × Int × Int × Int × Bool × List UInt8 × Int × UInt8) ⊕ (Bool × List UInt8 × Bool × List (Bs × Bs) × Int × Int × Int × Bool × List UInt8 × Int × UInt8) ⊕ (Bool × List UInt8 × Bool × List (Bs × Bs) × Int × Int × Int × Bool × List UInt8 × Int × UInt8)) ⊕ R20) :=
  (m33 h0_0_0 h0_0_1 h0_1 h0_2).bind fun yr16 =>
    if (yr16.1 == 0) = true then
      if (yr16.2.2.2.2 == (10 : UInt8)) = true then
        some (.inr (.inl (l6_0, l6_1, yr16.2.2.2.1, (0 : Int))))
      else
        some (.inr (.inr (true, ([] : List (Bs × Bs)), (0 : Int), (20 : Int))))
    else
      some (.inl (.inr (.inr (.inr (.inr (.inr (.inl (b0_0, b0_1, l6_0, l6_1, from7, to8, yr16.1, yr16.2.1, yr16.2.2.1, yr16.2.2.2.1, yr16.2.2.2.2))))))))
theorem s20_2x1_t (b0_0 : Bool) (b0_1 : List UInt8) (l6_0 : Bool) (l6_1 : List (Bs × Bs)) (from7 to8 e9 : Int) (h0_0_0 : Bool) (h0_0_1 : List UInt8) (h0_1 : Int) (h0_2 : UInt8) :
    stepE (K20_2 (mm := mm)) (scopeF (E0 mm) 20 0 (callW (E0 mm)) itW c20_3 [(0, .keep), (5, .keep), (6, .own), (7, .keep), (8, .keep), (9, .keep)] (some 2, [.v (.c (.d (.lst b0_0 (enL enB b0_1)))), .v (.c (.ptr 0 0)), .v (.c (.own l6_0 (enL enSS l6_1) 1)), .v (.c (.d (.sc (.int .i64 from7)))), .v (.c (.d (.sc (.int .i64 to8)))), .v (.c (.d (.sc (.int .i64 e9))))], [.cells [.d (.lst h0_0_0 (enL enB h0_0_1)), .d (.sc (.int .i64 h0_1)), .d (.sc (.int .u8 ((h0_2).toNat : Int)))], .row l6_1.length (rz l6_0 2)])) = (s20_2x1 b0_0 b0_1 l6_0 l6_1 from7 to8 e9 h0_0_0 h0_0_1 h0_1 h0_2).map (sm en20_2 e20) := by
  simp -implicitDefEqProofs only [s20_2x1, scopeF_eq, (show ∀ f st, den (E0 mm) 20 0 (callW (E0 mm)) itW c20_3 f st = den (E0 mm) 20 0 (callW (E0 mm)) itW (.seq c20_4 c20_5) f st from fun _ _ => rfl), (den_seq_l0 (show hasLabel c20_4 2 = false by kernel_rfl)), c20_5_e, (den_seq_l0 (show hasLabel c20_6 2 = false by kernel_rfl)), c20_7_e, (den_seq_l0 (show hasLabel c20_8 2 = false by kernel_rfl)), c20_9_e, (den_seq_l0 (show hasLabel c20_10 2 = false by kernel_rfl)), c20_11_e, (den_seq_l0 (show hasLabel c20_12 2 = false by kernel_rfl)), c20_13_e, (den_seq_l0 (show hasLabel c20_14 2 = false by kernel_rfl)), c20_15_e, (den_seq_l0 (show hasLabel c20_16 2 = false by kernel_rfl)), c20_23_e, (den_seq_l0 (show hasLabel c20_24 2 = false by kernel_rfl)), c20_34_e, (den_seq_l0 (show hasLabel c20_35 2 = false by kernel_rfl)), c20_36_e, (den_seq_l0 (show hasLabel c20_37 2 = false by kernel_rfl)), c20_49_e, (den_seq_l0 (show hasLabel c20_50 2 = false by kernel_rfl)), c20_57_e, (den_seq_l0 (show hasLabel c20_58 2 = false by kernel_rfl)), c20_63_e, (den_seq_l0 (show hasLabel c20_64 2 = false by kernel_rfl)), c20_65_e, (den_seq_l0 (show hasLabel c20_66 2 = false by kernel_rfl)), c20_67_e, (den_seq_l0 (show hasLabel c20_68 2 = false by kernel_rfl)), c20_75_e, (den_seq_l0 (show hasLabel c20_76 2 = false by kernel_rfl)), c20_90_e, (den_seq_l0 (show hasLabel c20_91 2 = false by kernel_rfl)), c20_92_e, (den_seq_l0 (show hasLabel c20_93 2 = false by kernel_rfl)), c20_94_e, (den_seq_l0 (show hasLabel c20_95 2 = false by kernel_rfl)), c20_96_e, (den_seq_l0 (show hasLabel c20_97 2 = false by kernel_rfl)), c20_104_e, (den_seq_l0 (show hasLabel c20_105 2 = false by kernel_rfl)), c20_110_e, (den_seq_l0 (show hasLabel c20_111 2 = false by kernel_rfl)), c20_112_e, (den_seq_l1 (show hasLabel (Code.label 2) 2 = true by kernel_rfl)), c20_113_e, c20_114_e, c20_115_e, c20_116_r, (show opsOf c20_116 = _ :: _ from rfl), ent33, prm33, f33_t, setA, setB, za, zb, zc, zd, ze, zf, zg, zh, zi, zj, zk, zl, zm, zn, zo, zp, reduceCtorEq, zE, ↓reduceIte]
  refine brM (fun yc15 => ?_) (fun yr16 yc15 => ?_)
  · rw [yc15]; rfl
  · simp -implicitDefEqProofs only [e33, c20_117_e, c20_118_r, (show opsOf c20_118 = _ :: _ from rfl), (show c20_119 = Code.cond _ c20_120 c20_121 from rfl), yc15, setA, setB, za, zb, zc, zd, ze, zf, zg, zh, zi, zj, zk, zl, zm, zn, zo, zp, reduceCtorEq, zE, ↓reduceIte]
    refine brB (fun yc17 => ?_) (fun yc17 => ?_)
    · simp -implicitDefEqProofs only [c20_121_e, c20_122_e, c20_123_e, c20_124_r, (show opsOf c20_124 = _ :: _ from rfl), Tryd.underlying69, sz5, ag5, (show c20_125 = Code.cond _ c20_126 c20_129 from rfl), yc15, yc17, setA, setB, za, zb, zc, zd, ze, zf, zg, zh, zi, zj, zk, zl, zm, zn, zo, zp, reduceCtorEq, zE, ↓reduceIte]
      refine brB (fun yc18 => ?_) (fun yc18 => ?_)
      · simp -implicitDefEqProofs only [c20_126_e, c20_127_r, (show opsOf c20_127 = _ :: _ from rfl), Tryd.underlying69, sz3, ag3, c20_128_e, K20_2, yc15, yc17, yc18, setA, setB, za, zb, zc, zd, ze, zf, zg, zh, zi, zj, zk, zl, zm, zn, zo, zp, reduceCtorEq, zE, ↓reduceIte]
        all_goals rfl
      · simp -implicitDefEqProofs only [c20_129_e, c20_130_e, c20_131_e, den_label_n, c20_132_e, c20_133_e, c20_134_r, (show opsOf c20_134 = _ :: _ from rfl), c20_135_e, K20_2, yc15, yc17, yc18, setA, setB, za, zb, zc, zd, ze, zf, zg, zh, zi, zj, zk, zl, zm, zn, zo, zp, reduceCtorEq, zE, ↓reduceIte]
        all_goals rfl
    · simp -implicitDefEqProofs only [c20_120_e, (scopeK_g (show hasLabel c20_3 1 = true by kernel_rfl)), yc15, yc17, setA, setB, za, zb, zc, zd, ze, zf, zg, zh, zi, zj, zk, zl, zm, zn, zo, zp, reduceCtorEq, zE, ↓reduceIte]
      all_goals rfl
def s20_2x2 (b0_0 : Bool) (b0_1 : List UInt8) (l6_0 : Bool) (l6_1 : List (Bs × Bs)) (from7 to8 e9 : Int) (h0_0_0 : Bool) (h0_0_1 : List UInt8) (h0_1 : Int) (h0_2 : UInt8) : Option (((Bool × List UInt8) ⊕ (Bool × List UInt8 × Bool × List (Bs × Bs) × Int × Int × Int × Bool × List UInt8 × Int × UInt8) ⊕ (Bool × List UInt8 × Bool × List (Bs × Bs) × Int × Int × Int × Bool × List UInt8 × Int × UInt8) ⊕ (Bool × List UInt8 × Bool × List (Bs × Bs) × Int × Int × Int × Bool × List UInt8 × Int × UInt8) ⊕ (Bool × List UInt8 × Bool × List (Bs × Bs) × Int × Int × Int × Bool × List UInt8 × Int × UInt8) ⊕ (Bool × List UInt8 × Bool × List (Bs × Bs) × Int × Int × Int × Bool × List UInt8 × Int × UInt8) ⊕ (Bool × List UInt8 × Bool × List (Bs × Bs) × Int × Int × Int × Bool × List UInt8 × Int × UInt8) ⊕ (Bool × List UInt8 × Bool × List (Bs × Bs) × Int × Int × Int × Bool × List UInt8 × Int × UInt8) ⊕ (Bool × List UInt8 × Bool × List (Bs × Bs) × Int × Int × Int × Bool × List UInt8 × Int × UInt8)) ⊕ R20) :=
  (m33 h0_0_0 h0_0_1 h0_1 h0_2).bind fun yr20 =>
    if (yr20.1 == 0) = true then
      if (yr20.2.2.2.2 == (13 : UInt8)) = true then
        some (.inl (.inr (.inr (.inr (.inr (.inr (.inr (.inr (.inl (b0_0, b0_1, l6_0, l6_1, from7, to8, yr20.1, yr20.2.1, yr20.2.2.1, yr20.2.2.2.1, yr20.2.2.2.2))))))))))
      else
        if (decide (512 < (w64 (yr20.2.2.2.1 - from7)))) = true then
          some (.inl (.inr (.inr (.inr (.inl (b0_0, b0_1, l6_0, l6_1, from7, to8, yr20.1, yr20.2.1, yr20.2.2.1, yr20.2.2.2.1, yr20.2.2.2.2))))))
        else
          (m35 yr20.2.2.2.2).bind fun yr25 =>
            if yr25 = true then
              some (.inl (.inr (.inr (.inl (b0_0, b0_1, l6_0, l6_1, from7, to8, yr20.1, yr20.2.1, yr20.2.2.1, yr20.2.2.2.1, yr20.2.2.2.2)))))
            else
              some (.inl (.inr (.inr (.inr (.inr (.inr (.inr (.inl (b0_0, b0_1, l6_0, l6_1, from7, to8, yr20.1, yr20.2.1, yr20.2.2.1, yr20.2.2.2.1, yr20.2.2.2.2)))))))))
    else
      some (.inl (.inr (.inr (.inr (.inr (.inr (.inl (b0_0, b0_1, l6_0, l6_1, from7, to8, yr20.1, yr20.2.1, yr20.2.2.1, yr20.2.2.2.1, yr20.2.2.2.2))))))))
theorem s20_2x2_t (b0_0 : Bool) (b0_1 : List UInt8) (l6_0 : Bool) (l6_1 : List (Bs × Bs)) (from7 to8 e9 : Int) (h0_0_0 : Bool) (h0_0_1 : List UInt8) (h0_1 : Int) (h0_2 : UInt8) :
    stepE (K20_2 (mm := mm)) (scopeF (E0 mm) 20 0 (callW (E0 mm)) itW c20_3 [(0, .keep), (5, .keep), (6, .own), (7, .keep), (8, .keep), (9, .keep)] (some 4, [.v (.c (.d (.lst b0_0 (enL enB b0_1)))), .v (.c (.ptr 0 0)), .v (.c (.own l6_0 (enL enSS l6_1) 1)), .v (.c (.d (.sc (.int .i64 from7)))), .v (.c (.d (.sc (.int .i64 to8)))), .v (.c (.d (.sc (.int .i64 e9))))], [.cells [.d (.lst h0_0_0 (enL enB h0_0_1)), .d (.sc (.int .i64 h0_1)), .d (.sc (.int .u8 ((h0_2).toNat : Int)))], .row l6_1.length (rz l6_0 2)])) = (s20_2x2 b0_0 b0_1 l6_0 l6_1 from7 to8 e9 h0_0_0 h0_0_1 h0_1 h0_2).map (sm en20_2 e20) := by
  simp -implicitDefEqProofs only [s20_2x2, scopeF_eq, (show ∀ f st, den (E0 mm) 20 0 (callW (E0 mm)) itW c20_3 f st = den (E0 mm) 20 0 (callW (E0 mm)) itW (.seq c20_4 c20_5) f st from fun _ _ => rfl), (den_seq_l0 (show hasLabel c20_4 4 = false by kernel_rfl)), c20_5_e, (den_seq_l0 (show hasLabel c20_6 4 = false by kernel_rfl)), c20_7_e, (den_seq_l0 (show hasLabel c20_8 4 = false by kernel_rfl)), c20_9_e, (den_seq_l0 (show hasLabel c20_10 4 = false by kernel_rfl)), c20_11_e, (den_seq_l0 (show hasLabel c20_12 4 = false by kernel_rfl)), c20_13_e, (den_seq_l0 (show hasLabel c20_14 4 = false by kernel_rfl)), c20_15_e, (den_seq_l0 (show hasLabel c20_16 4 = false by kernel_rfl)), c20_23_e, (den_seq_l0 (show hasLabel c20_24 4 = false by kernel_rfl)), c20_34_e, (den_seq_l0 (show hasLabel c20_35 4 = false by kernel_rfl)), c20_36_e, (den_seq_l0 (show hasLabel c20_37 4 = false by kernel_rfl)), c20_49_e, (den_seq_l0 (show hasLabel c20_50 4 = false by kernel_rfl)), c20_57_e, (den_seq_l0 (show hasLabel c20_58 4 = false by kernel_rfl)), c20_63_e, (den_seq_l0 (show hasLabel c20_64 4 = false by kernel_rfl)), c20_65_e, (den_seq_l1 (show hasLabel (Code.label 4) 4 = true by kernel_rfl)), c20_66_e, c20_67_e, c20_68_e, c20_69_r, (show opsOf c20_69 = _ :: _ from rfl), ent33, prm33, f33_t, setA, setB, za, zb, zc, zd, ze, zf, zg, zh, zi, zj, zk, zl, zm, zn, zo, zp, reduceCtorEq, zE, ↓reduceIte]
  refine brM (fun yc19 => ?_) (fun yr20 yc19 => ?_)
  · rw [yc19]; rfl
  · simp -implicitDefEqProofs only [e33, c20_70_e, c20_71_r, (show opsOf c20_71 = _ :: _ from rfl), (show c20_72 = Code.cond _ c20_73 c20_74 from rfl), yc19, setA, setB, za, zb, zc, zd, ze, zf, zg, zh, zi, zj, zk, zl, zm, zn, zo, zp, reduceCtorEq, zE, ↓reduceIte]
    refine brB (fun yc21 => ?_) (fun yc21 => ?_)
    · simp -implicitDefEqProofs only [c20_74_e, c20_75_e, c20_76_e, c20_77_e, c20_78_r, (show opsOf c20_78 = _ :: _ from rfl), Tryd.underlying69, sz5, ag5, (show c20_79 = Code.cond _ c20_80 c20_81 from rfl), yc19, yc21, setA, setB, za, zb, zc, zd, ze, zf, zg, zh, zi, zj, zk, zl, zm, zn, zo, zp, reduceCtorEq, zE, ↓reduceIte]
      refine brB (fun yc22 => ?_) (fun yc22 => ?_)
      · simp -implicitDefEqProofs only [c20_80_e, (scopeK_g (show hasLabel c20_3 7 = true by kernel_rfl)), yc19, yc21, yc22, setA, setB, za, zb, zc, zd, ze, zf, zg, zh, zi, zj, zk, zl, zm, zn, zo, zp, reduceCtorEq, zE, ↓reduceIte]
        all_goals rfl
      · simp -implicitDefEqProofs only [c20_81_e, c20_82_r, (show opsOf c20_82 = _ :: _ from rfl), Tryd.underlying69, sz3, ag3, (show c20_83 = Code.cond _ c20_84 c20_85 from rfl), yc19, yc21, yc22, setA, setB, za, zb, zc, zd, ze, zf, zg, zh, zi, zj, zk, zl, zm, zn, zo, zp, reduceCtorEq, zE, ↓reduceIte]
        refine brB (fun yc23 => ?_) (fun yc23 => ?_)
        · simp -implicitDefEqProofs only [c20_84_e, (scopeK_g (show hasLabel c20_3 3 = true by kernel_rfl)), yc19, yc21, yc22, yc23, setA, setB, za, zb, zc, zd, ze, zf, zg, zh, zi, zj, zk, zl, zm, zn, zo, zp, reduceCtorEq, zE, ↓reduceIte]
          all_goals rfl
        · simp -implicitDefEqProofs only [c20_85_e, c20_86_r, (show opsOf c20_86 = _ :: _ from rfl), Tryd.underlying69, sz5, ag5, ent35, prm35, f35_t, yc19, yc21, yc22, yc23, setA, setB, za, zb, zc, zd, ze, zf, zg, zh, zi, zj, zk, zl, zm, zn, zo, zp, reduceCtorEq, zE, ↓reduceIte]
          refine brM (fun yc24 => ?_) (fun yr25 yc24 => ?_)
          · rw [yc24]; rfl
          · simp -implicitDefEqProofs only [e35, (show c20_87 = Code.cond _ c20_88 c20_89 from rfl), yc19, yc21, yc22, yc23, yc24, setA, setB, za, zb, zc, zd, ze, zf, zg, zh, zi, zj, zk, zl, zm, zn, zo, zp, reduceCtorEq, zE, ↓reduceIte]
            refine brB (fun yc26 => ?_) (fun yc26 => ?_)
            · simp -implicitDefEqProofs only [c20_89_e, c20_90_e, c20_91_e, (scopeK_g (show hasLabel c20_3 4 = true by kernel_rfl)), yc19, yc21, yc22, yc23, yc24, yc26, setA, setB, za, zb, zc, zd, ze, zf, zg, zh, zi, zj, zk, zl, zm, zn, zo, zp, reduceCtorEq, zE, ↓reduceIte]
              all_goals rfl
            · simp -implicitDefEqProofs only [c20_88_e, (scopeK_g (show hasLabel c20_3 5 = true by kernel_rfl)), yc19, yc21, yc22, yc23, yc24, yc26, setA, setB, za, zb, zc, zd, ze, zf, zg, zh, zi, zj, zk, zl, zm, zn, zo, zp, reduceCtorEq, zE, ↓reduceIte]
              all_goals rfl
    · simp -implicitDefEqProofs only [c20_73_e, (scopeK_g (show hasLabel c20_3 1 = true by kernel_rfl)), yc19, yc21, setA, setB, za, zb, zc, zd, ze, zf, zg, zh, zi, zj, zk, zl, zm, zn, zo, zp, reduceCtorEq, zE, ↓reduceIte]
      all_goals rfl
def s20_2x3 (b0_0 : Bool) (b0_1 : List UInt8) (l6_0 : Bool) (l6_1 : List (Bs × Bs)) (from7 to8 e9 : Int) (h0_0_0 : Bool) (h0_0_1 : List UInt8) (h0_1 : Int) (h0_2 : UInt8) : Option (((Bool × List UInt8) ⊕ (Bool × List UInt8 × Bool × List (Bs × Bs) × Int × Int × Int × Bool × List UInt8 × Int × UInt8) ⊕ (Bool × List UInt8 × Bool × List (Bs × Bs) × Int × Int × Int × Bool × List UInt8 × Int × UInt8) ⊕ (Bool × List UInt8 × Bool × List (Bs × Bs) × Int × Int × Int × Bool × List UInt8 × Int × UInt8) ⊕ (Bool × List UInt8 × Bool × List (Bs × Bs) × Int × Int × Int × Bool × List UInt8 × Int × UInt8) ⊕ (Bool × List UInt8 × Bool × List (Bs × Bs) × Int × Int × Int × Bool × List UInt8 × Int × UInt8) ⊕ (Bool × List UInt8 × Bool × List (Bs × Bs) × Int × Int × Int × Bool × List UInt8 × Int × UInt8) ⊕ (Bool × List UInt8 × Bool × List (Bs × Bs) × Int × Int × Int × Bool × List UInt8 × Int × UInt8) ⊕ (Bool × List UInt8 × Bool × List (Bs × Bs) × Int × Int × Int × Bool × List UInt8 × Int × UInt8)) ⊕ R20) :=
  some (.inr (.inr (true, ([] : List (Bs × Bs)), (0 : Int), (21 : Int))))
theorem s20_2x3_t (b0_0 : Bool) (b0_1 : List UInt8) (l6_0 : Bool) (l6_1 : List (Bs × Bs)) (from7 to8 e9 : Int) (h0_0_0 : Bool) (h0_0_1 : List UInt8) (h0_1 : Int) (h0_2 : UInt8) :
    stepE (K20_2 (mm := mm)) (scopeF (E0 mm) 20 0 (callW (E0 mm)) itW c20_3 [(0, .keep), (5, .keep), (6, .own), (7, .keep), (8, .keep), (9, .keep)] (some 3, [.v (.c (.d (.lst b0_0 (enL enB b0_1)))), .v (.c (.ptr 0 0)), .v (.c (.own l6_0 (enL enSS l6_1) 1)), .v (.c (.d (.sc (.int .i64 from7)))), .v (.c (.d (.sc (.int .i64 to8)))), .v (.c (.d (.sc (.int .i64 e9))))], [.cells [.d (.lst h0_0_0 (enL enB h0_0_1)), .d (.sc (.int .i64 h0_1)), .d (.sc (.int .u8 ((h0_2).toNat : Int)))], .row l6_1.length (rz l6_0 2)])) = (s20_2x3 b0_0 b0_1 l6_0 l6_1 from7 to8 e9 h0_0_0 h0_0_1 h0_1 h0_2).map (sm en20_2 e20) := by
  simp -implicitDefEqProofs only [s20_2x3, scopeF_eq, (show ∀ f st, den (E0 mm) 20 0 (callW (E0 mm)) itW c20_3 f st = den (E0 mm) 20 0 (callW (E0 mm)) itW (.seq c20_4 c20_5) f st from fun _ _ => rfl), (den_seq_l0 (show hasLabel c20_4 3 = false by kernel_rfl)), c20_5_e, (den_seq_l0 (show hasLabel c20_6 3 = false by kernel_rfl)), c20_7_e, (den_seq_l0 (show hasLabel c20_8 3 = false by kernel_rfl)), c20_9_e, (den_seq_l0 (show hasLabel c20_10 3 = false by kernel_rfl)), c20_11_e, (den_seq_l0 (show hasLabel c20_12 3 = false by kernel_rfl)), c20_13_e, (den_seq_l0 (show hasLabel c20_14 3 = false by kernel_rfl)), c20_15_e, (den_seq_l0 (show hasLabel c20_16 3 = false by kernel_rfl)), c20_23_e, (den_seq_l0 (show hasLabel c20_24 3 = false by kernel_rfl)), c20_34_e, (den_seq_l0 (show hasLabel c20_35 3 = false by kernel_rfl)), c20_36_e, (den_seq_l0 (show hasLabel c20_37 3 = false by kernel_rfl)), c20_49_e, (den_seq_l0 (show hasLabel c20_50 3 = false by kernel_rfl)), c20_57_e, (den_seq_l0 (show hasLabel c20_58 3 = false by kernel_rfl)), c20_63_e, (den_seq_l0 (show hasLabel c20_64 3 = false by kernel_rfl)), c20_65_e, (den_seq_l0 (show hasLabel c20_66 3 = false by kernel_rfl)), c20_67_e, (den_seq_l0 (show hasLabel c20_68 3 = false by kernel_rfl)), c20_75_e, (den_seq_l0 (show hasLabel c20_76 3 = false by kernel_rfl)), c20_90_e, (den_seq_l0 (show hasLabel c20_91 3 = false by kernel_rfl)), c20_92_e, (den_seq_l0 (show hasLabel c20_93 3 = false by kernel_rfl)), c20_94_e, (den_seq_l0 (show hasLabel c20_95 3 = false by kernel_rfl)), c20_96_e, (den_seq_l0 (show hasLabel c20_97 3 = false by kernel_rfl)), c20_104_e, (den_seq_l0 (show hasLabel c20_105 3 = false by kernel_rfl)), c20_110_e, (den_seq_l0 (show hasLabel c20_111 3 = false by kernel_rfl)), c20_112_e, (den_seq_l0 (show hasLabel c20_113 3 = false by kernel_rfl)), c20_114_e, (den_seq_l0 (show hasLabel c20_115 3 = false by kernel_rfl)), c20_122_e, (den_seq_l0 (show hasLabel c20_123 3 = false by kernel_rfl)), c20_130_e, (den_seq_l0 (show hasLabel c20_131 3 = false by kernel_rfl)), c20_132_e, (den_seq_l0 (show hasLabel c20_133 3 = false by kernel_rfl)), c20_136_e, (den_seq_l1 (show hasLabel (Code.label 3) 3 = true by kernel_rfl)), c20_137_e, c20_138_e, c20_139_e, c20_140_r, (show opsOf c20_140 = _ :: _ from rfl), c20_141_e, K20_2, setA, setB, za, zb, zc, zd, ze, zf, zg, zh, zi, zj, zk, zl, zm, zn, zo, zp, reduceCtorEq, zE, ↓reduceIte]
  all_goals rfl
def j20_63v1 (b0_0 : Bool) (b0_1 : List UInt8) (l6_0 : Bool) (l6_1 : List (Bs × Bs)) (from7 to8 e9 : Int) (h0_0_0 : Bool) (h0_0_1 : List UInt8) (h0_1 : Int) (h0_2 : UInt8) : Option (((Bool × List UInt8) ⊕ (Bool × List UInt8 × Bool × List (Bs × Bs) × Int × Int × Int × Bool × List UInt8 × Int × UInt8) ⊕ (Bool × List UInt8 × Bool × List (Bs × Bs) × Int × Int × Int × Bool × List UInt8 × Int × UInt8) ⊕ (Bool × List UInt8 × Bool × List (Bs × Bs) × Int × Int × Int × Bool × List UInt8 × Int × UInt8) ⊕ (Bool × List UInt8 × Bool × List (Bs × Bs) × Int × Int × Int × Bool × List UInt8 × Int × UInt8) ⊕ (Bool × List UInt8 × Bool × List (Bs × Bs) × Int × Int × Int × Bool × List UInt8 × Int × UInt8) ⊕ (Bool × List UInt8 × Bool × List (Bs × Bs) × Int × Int × Int × Bool × List UInt8 × Int × UInt8) ⊕ (Bool × List UInt8 × Bool × List (Bs × Bs) × Int × Int × Int × Bool × List UInt8 × Int × UInt8) ⊕ (Bool × List UInt8 × Bool × List (Bs × Bs) × Int × Int × Int × Bool × List UInt8 × Int × UInt8)) ⊕ R20) :=
  some (.inl (.inr (.inr (.inr (.inr (.inl (b0_0, b0_1, l6_0, l6_1, from7, to8, e9, h0_0_0, h0_0_1, h0_1, h0_2)))))))
theorem j20_63v1_t (b0_0 : Bool) (b0_1 : List UInt8) (l6_0 : Bool) (l6_1 : List (Bs × Bs)) (from7 to8 e9 : Int) (h0_0_0 : Bool) (h0_0_1 : List UInt8) (h0_1 : Int) (h0_2 : UInt8)  (sl : Nat → AV) (zq0 : sl 0 = .v (.c (.d (.lst b0_0 (enL enB b0_1))))) (zq5 : sl 5 = .v (.c (.ptr 0 0))) (zq6 : sl 6 = .v (.c (.own l6_0 (enL enSS l6_1) 1))) (zq7 : sl 7 = .v (.c (.d (.sc (.int .i64 from7))))) (zq8 : sl 8 = .v (.c (.d (.sc (.int .i64 to8))))) (zq9 : sl 9 = .v (.c (.d (.sc (.int .i64 e9))))) :
    stepE (K20_2 (mm := mm)) (scopeK 0 [(0, .keep), (5, .keep), (6, .own), (7, .keep), (8, .keep), (9, .keep)] c20_3 (den (E0 mm) 20 0 (callW (E0 mm)) itW c20_63 none ⟨sl, [.cells [.d (.lst h0_0_0 (enL enB h0_0_1)), .d (.sc (.int .i64 h0_1)), .d (.sc (.int .u8 ((h0_2).toNat : Int)))], .row l6_1.length (rz l6_0 2)]⟩)) = (j20_63v1 b0_0 b0_1 l6_0 l6_1 from7 to8 e9 h0_0_0 h0_0_1 h0_1 h0_2).map (sm en20_2 e20) := by
  simp -implicitDefEqProofs only [j20_63v1, c20_63_e, c20_64_e, (scopeK_g (show hasLabel c20_3 6 = true by kernel_rfl)), zq0, zq5, zq6, zq7, zq8, zq9, setA, setB, za, zb, zc, zd, ze, zf, zg, zh, zi, zj, zk, zl, zm, zn, zo, zp, reduceCtorEq, zE, ↓reduceIte]
  all_goals rfl
def j20_60v1 (b0_0 : Bool) (b0_1 : List UInt8) (l6_0 : Bool) (l6_1 : List (Bs × Bs)) (from7 to8 e9 : Int) (t74 h0_0_0 : Bool) (h0_0_1 : List UInt8) (h0_1 : Int) (h0_2 : UInt8) : Option (((Bool × List UInt8) ⊕ (Bool × List UInt8 × Bool × List (Bs × Bs) × Int × Int × Int × Bool × List UInt8 × Int × UInt8) ⊕ (Bool × List UInt8 × Bool × List (Bs × Bs) × Int × Int × Int × Bool × List UInt8 × Int × UInt8) ⊕ (Bool × List UInt8 × Bool × List (Bs × Bs) × Int × Int × Int × Bool × List UInt8 × Int × UInt8) ⊕ (Bool × List UInt8 × Bool × List (Bs × Bs) × Int × Int × Int × Bool × List UInt8 × Int × UInt8) ⊕ (Bool × List UInt8 × Bool × List (Bs × Bs) × Int × Int × Int × Bool × List UInt8 × Int × UInt8) ⊕ (Bool × List UInt8 × Bool × List (Bs × Bs) × Int × Int × Int × Bool × List UInt8 × Int × UInt8) ⊕ (Bool × List UInt8 × Bool × List (Bs × Bs) × Int × Int × Int × Bool × List UInt8 × Int × UInt8) ⊕ (Bool × List UInt8 × Bool × List (Bs × Bs) × Int × Int × Int × Bool × List UInt8 × Int × UInt8)) ⊕ R20) :=
  if t74 = true then
    some (.inl (.inr (.inr (.inr (.inl (b0_0, b0_1, l6_0, l6_1, from7, to8, e9, h0_0_0, h0_0_1, h0_1, h0_2))))))
  else
    j20_63v1 b0_0 b0_1 l6_0 l6_1 from7 to8 e9 h0_0_0 h0_0_1 h0_1 h0_2
theorem j20_60v1_t (b0_0 : Bool) (b0_1 : List UInt8) (l6_0 : Bool) (l6_1 : List (Bs × Bs)) (from7 to8 e9 : Int) (t74 h0_0_0 : Bool) (h0_0_1 : List UInt8) (h0_1 : Int) (h0_2 : UInt8)  (sl : Nat → AV) (zq0 : sl 0 = .v (.c (.d (.lst b0_0 (enL enB b0_1))))) (zq5 : sl 5 = .v (.c (.ptr 0 0))) (zq6 : sl 6 = .v (.c (.own l6_0 (enL enSS l6_1) 1))) (zq7 : sl 7 = .v (.c (.d (.sc (.int .i64 from7))))) (zq8 : sl 8 = .v (.c (.d (.sc (.int .i64 to8))))) (zq9 : sl 9 = .v (.c (.d (.sc (.int .i64 e9))))) (zq74 : sl 74 = .v (.c (.d (.sc (.bool t74))))) :
    stepE (K20_2 (mm := mm)) (scopeK 0 [(0, .keep), (5, .keep), (6, .own), (7, .keep), (8, .keep), (9, .keep)] c20_3 (seqD (E0 mm) 20 0 (callW (E0 mm)) itW c20_63 (den (E0 mm) 20 0 (callW (E0 mm)) itW c20_60 none ⟨sl, [.cells [.d (.lst h0_0_0 (enL enB h0_0_1)), .d (.sc (.int .i64 h0_1)), .d (.sc (.int .u8 ((h0_2).toNat : Int)))], .row l6_1.length (rz l6_0 2)]⟩))) = (j20_60v1 b0_0 b0_1 l6_0 l6_1 from7 to8 e9 t74 h0_0_0 h0_0_1 h0_1 h0_2).map (sm en20_2 e20) := by
  simp -implicitDefEqProofs only [j20_60v1, (show c20_60 = Code.cond _ c20_61 c20_62 from rfl), zq0, zq5, zq6, zq7, zq8, zq9, zq74, setA, setB, za, zb, zc, zd, ze, zf, zg, zh, zi, zj, zk, zl, zm, zn, zo, zp, reduceCtorEq, zE, ↓reduceIte]
  refine brB (fun yc36 => ?_) (fun yc36 => ?_)
  · simp -implicitDefEqProofs only [c20_61_e, (scopeK_g (show hasLabel c20_3 3 = true by kernel_rfl)), zq0, zq5, zq6, zq7, zq8, zq9, zq74, yc36, setA, setB, za, zb, zc, zd, ze, zf, zg, zh, zi, zj, zk, zl, zm, zn, zo, zp, reduceCtorEq, zE, ↓reduceIte]
    all_goals rfl
  · simp -implicitDefEqProofs only [c20_62_e, zq0, zq5, zq6, zq7, zq8, zq9, zq74, yc36, setA, setB, za, zb, zc, zd, ze, zf, zg, zh, zi, zj, zk, zl, zm, zn, zo, zp, reduceCtorEq, zE, ↓reduceIte]
    exact j20_63v1_t b0_0 b0_1 l6_0 l6_1 from7 to8 e9 h0_0_0 h0_0_1 h0_1 h0_2 _ (by exact zq0) (by exact zq5) (by exact zq6) (by exact zq7) (by exact zq8) (by exact zq9)
def j20_57v1 (b0_0 : Bool) (b0_1 : List UInt8) (l6_0 : Bool) (l6_1 : List (Bs × Bs)) (from7 to8 e9 : Int) (h0_0_0 : Bool) (h0_0_1 : List UInt8) (h0_1 : Int) (h0_2 : UInt8) : Option (((Bool × List UInt8) ⊕ (Bool × List UInt8 × Bool × List (Bs × Bs) × Int × Int × Int × Bool × List UInt8 × Int × UInt8) ⊕ (Bool × List UInt8 × Bool × List (Bs × Bs) × Int × Int × Int × Bool × List UInt8 × Int × UInt8) ⊕ (Bool × List UInt8 × Bool × List (Bs × Bs) × Int × Int × Int × Bool × List UInt8 × Int × UInt8) ⊕ (Bool × List UInt8 × Bool × List (Bs × Bs) × Int × Int × Int × Bool × List UInt8 × Int × UInt8) ⊕ (Bool × List UInt8 × Bool × List (Bs × Bs) × Int × Int × Int × Bool × List UInt8 × Int × UInt8) ⊕ (Bool × List UInt8 × Bool × List (Bs × Bs) × Int × Int × Int × Bool × List UInt8 × Int × UInt8) ⊕ (Bool × List UInt8 × Bool × List (Bs × Bs) × Int × Int × Int × Bool × List UInt8 × Int × UInt8) ⊕ (Bool × List UInt8 × Bool × List (Bs × Bs) × Int × Int × Int × Bool × List UInt8 × Int × UInt8)) ⊕ R20) :=
  if (h0_2 == (13 : UInt8)) = true then
    j20_60v1 b0_0 b0_1 l6_0 l6_1 from7 to8 e9 false h0_0_0 h0_0_1 h0_1 h0_2
  else
    j20_60v1 b0_0 b0_1 l6_0 l6_1 from7 to8 e9 (decide (512 < (w64 (h0_1 - from7)))) h0_0_0 h0_0_1 h0_1 h0_2
theorem j20_57v1_t (b0_0 : Bool) (b0_1 : List UInt8) (l6_0 : Bool) (l6_1 : List (Bs × Bs)) (from7 to8 e9 : Int) (h0_0_0 : Bool) (h0_0_1 : List UInt8) (h0_1 : Int) (h0_2 : UInt8)  (sl : Nat → AV) (zq0 : sl 0 = .v (.c (.d (.lst b0_0 (enL enB b0_1))))) (zq5 : sl 5 = .v (.c (.ptr 0 0))) (zq6 : sl 6 = .v (.c (.own l6_0 (enL enSS l6_1) 1))) (zq7 : sl 7 = .v (.c (.d (.sc (.int .i64 from7))))) (zq8 : sl 8 = .v (.c (.d (.sc (.int .i64 to8))))) (zq9 : sl 9 = .v (.c (.d (.sc (.int .i64 e9))))) :
    stepE (K20_2 (mm := mm)) (scopeK 0 [(0, .keep), (5, .keep), (6, .own), (7, .keep), (8, .keep), (9, .keep)] c20_3 (den (E0 mm) 20 0 (callW (E0 mm)) itW c20_57 none ⟨sl, [.cells [.d (.lst h0_0_0 (enL enB h0_0_1)), .d (.sc (.int .i64 h0_1)), .d (.sc (.int .u8 ((h0_2).toNat : Int)))], .row l6_1.length (rz l6_0 2)]⟩)) = (j20_57v1 b0_0 b0_1 l6_0 l6_1 from7 to8 e9 h0_0_0 h0_0_1 h0_1 h0_2).map (sm en20_2 e20) := by
  simp -implicitDefEqProofs only [j20_57v1, c20_57_e, c20_58_e, c20_59_r, (show opsOf c20_59 = _ :: _ from rfl), Tryd.underlying69, sz5, ag5, zq0, zq5, zq6, zq7, zq8, zq9, setA, setB, za, zb, zc, zd, ze, zf, zg, zh, zi, zj, zk, zl, zm, zn, zo, zp, reduceCtorEq, zE, ↓reduceIte]
  refine brB (fun yc35 => ?_) (fun yc35 => ?_)
  · simp -implicitDefEqProofs only [zq0, zq5, zq6, zq7, zq8, zq9, yc35, setA, setB, za, zb, zc, zd, ze, zf, zg, zh, zi, zj, zk, zl, zm, zn, zo, zp, reduceCtorEq, zE, ↓reduceIte]
    exact j20_60v1_t b0_0 b0_1 l6_0 l6_1 from7 to8 e9 false h0_0_0 h0_0_1 h0_1 h0_2 _ (by exact zq0) (by exact zq5) (by exact zq6) (by exact zq7) (by exact zq8) (by exact zq9) (by rfl)
  · simp -implicitDefEqProofs only [Tryd.underlying69, sz3, ag3, zq0, zq5, zq6, zq7, zq8, zq9, yc35, setA, setB, za, zb, zc, zd, ze, zf, zg, zh, zi, zj, zk, zl, zm, zn, zo, zp, reduceCtorEq, zE, ↓reduceIte]
    exact j20_60v1_t b0_0 b0_1 l6_0 l6_1 from7 to8 e9 (decide (512 < (w64 (h0_1 - from7)))) h0_0_0 h0_0_1 h0_1 h0_2 _ (by exact zq0) (by exact zq5) (by exact zq6) (by exact zq7) (by exact zq8) (by exact zq9) (by rfl)
def j20_49v1 (b0_0 : Bool) (b0_1 : List UInt8) (l6_0 : Bool) (l6_1 : List (Bs × Bs)) (from7 to8 : Int) (h0_0_0 : Bool) (h0_0_1 : List UInt8) (h0_1 : Int) (h0_2 : UInt8) : Option (((Bool × List UInt8) ⊕ (Bool × List UInt8 × Bool × List (Bs × Bs) × Int × Int × Int × Bool × List UInt8 × Int × UInt8) ⊕ (Bool × List UInt8 × Bool × List (Bs × Bs) × Int × Int × Int × Bool × List UInt8 × Int × UInt8) ⊕ (Bool × List UInt8 × Bool × List (Bs × Bs) × Int × Int × Int × Bool × List UInt8 × Int × UInt8) ⊕ (Bool × List UInt8 × Bool × List (Bs × Bs) × Int × Int × Int × Bool × List UInt8 × Int × UInt8) ⊕ (Bool × List UInt8 × Bool × List (Bs × Bs) × Int × Int × Int × Bool × List UInt8 × Int × UInt8) ⊕ (Bool × List UInt8 × Bool × List (Bs × Bs) × Int × Int × Int × Bool × List UInt8 × Int × UInt8) ⊕ (Bool × List UInt8 × Bool × List (Bs × Bs) × Int × Int × Int × Bool × List UInt8 × Int × UInt8) ⊕ (Bool × List UInt8 × Bool × List (Bs × Bs) × Int × Int × Int × Bool × List UInt8 × Int × UInt8)) ⊕ R20) :=
  (m33 h0_0_0 h0_0_1 h0_1 h0_2).bind fun yr33 =>
    if (yr33.1 == 0) = true then
      j20_57v1 b0_0 b0_1 l6_0 l6_1 from7 to8 yr33.1 yr33.2.1 yr33.2.2.1 yr33.2.2.2.1 yr33.2.2.2.2
    else
      some (.inl (.inr (.inr (.inr (.inr (.inr (.inl (b0_0, b0_1, l6_0, l6_1, from7, to8, yr33.1, yr33.2.1, yr33.2.2.1, yr33.2.2.2.1, yr33.2.2.2.2))))))))
theorem j20_49v1_t (b0_0 : Bool) (b0_1 : List UInt8) (l6_0 : Bool) (l6_1 : List (Bs × Bs)) (from7 to8 : Int) (h0_0_0 : Bool) (h0_0_1 : List UInt8) (h0_1 : Int) (h0_2 : UInt8)  (sl : Nat → AV) (zq0 : sl 0 = .v (.c (.d (.lst b0_0 (enL enB b0_1))))) (zq5 : sl 5 = .v (.c (.ptr 0 0))) (zq6 : sl 6 = .v (.c (.own l6_0 (enL enSS l6_1) 1))) (zq7 : sl 7 = .v (.c (.d (.sc (.int .i64 from7))))) (zq8 : sl 8 = .v (.c (.d (.sc (.int .i64 to8))))) :
    stepE (K20_2 (mm := mm)) (scopeK 0 [(0, .keep), (5, .keep), (6, .own), (7, .keep), (8, .keep), (9, .keep)] c20_3 (den (E0 mm) 20 0 (callW (E0 mm)) itW c20_49 none ⟨sl, [.cells [.d (.lst h0_0_0 (enL enB h0_0_1)), .d (.sc (.int .i64 h0_1)), .d (.sc (.int .u8 ((h0_2).toNat : Int)))], .row l6_1.length (rz l6_0 2)]⟩)) = (j20_49v1 b0_0 b0_1 l6_0 l6_1 from7 to8 h0_0_0 h0_0_1 h0_1 h0_2).map (sm en20_2 e20) := by
  simp -implicitDefEqProofs only [j20_49v1, c20_49_e, c20_50_e, c20_51_r, (show opsOf c20_51 = _ :: _ from rfl), ent33, prm33, f33_t, zq0, zq5, zq6, zq7, zq8, setA, setB, za, zb, zc, zd, ze, zf, zg, zh, zi, zj, zk, zl, zm, zn, zo, zp, reduceCtorEq, zE, ↓reduceIte]
  refine brM (fun yc32 => ?_) (fun yr33 yc32 => ?_)
  · rw [yc32]; rfl
  · simp -implicitDefEqProofs only [e33, c20_52_e, c20_53_r, (show opsOf c20_53 = _ :: _ from rfl), (show c20_54 = Code.cond _ c20_55 c20_56 from rfl), zq0, zq5, zq6, zq7, zq8, yc32, setA, setB, za, zb, zc, zd, ze, zf, zg, zh, zi, zj, zk, zl, zm, zn, zo, zp, reduceCtorEq, zE, ↓reduceIte]
    refine brB (fun yc34 => ?_) (fun yc34 => ?_)
    · simp -implicitDefEqProofs only [c20_56_e, zq0, zq5, zq6, zq7, zq8, yc32, yc34, setA, setB, za, zb, zc, zd, ze, zf, zg, zh, zi, zj, zk, zl, zm, zn, zo, zp, reduceCtorEq, zE, ↓reduceIte]
      exact j20_57v1_t b0_0 b0_1 l6_0 l6_1 from7 to8 yr33.1 yr33.2.1 yr33.2.2.1 yr33.2.2.2.1 yr33.2.2.2.2 _ (by exact zq0) (by exact zq5) (by exact zq6) (by exact zq7) (by exact zq8) (by rfl)
    · simp -implicitDefEqProofs only [c20_55_e, (scopeK_g (show hasLabel c20_3 1 = true by kernel_rfl)), zq0, zq5, zq6, zq7, zq8, yc32, yc34, setA, setB, za, zb, zc, zd, ze, zf, zg, zh, zi, zj, zk, zl, zm, zn, zo, zp, reduceCtorEq, zE, ↓reduceIte]
      all_goals rfl
def j20_40v1 (b0_0 : Bool) (b0_1 : List UInt8) (l6_0 : Bool) (l6_1 : List (Bs × Bs)) (from7 to8 e9 : Int) (t31 h0_0_0 : Bool) (h0_0_1 : List UInt8) (h0_1 : Int) (h0_2 : UInt8) : Option (((Bool × List UInt8) ⊕ (Bool × List UInt8 × Bool × List (Bs × Bs) × Int × Int × Int × Bool × List UInt8 × Int × UInt8) ⊕ (Bool × List UInt8 × Bool × List (Bs × Bs) × Int × Int × Int × Bool × List UInt8 × Int × UInt8) ⊕ (Bool × List UInt8 × Bool × List (Bs × Bs) × Int × Int × Int × Bool × List UInt8 × Int × UInt8) ⊕ (Bool × List UInt8 × Bool × List (Bs × Bs) × Int × Int × Int × Bool × List UInt8 × Int × UInt8) ⊕ (Bool × List UInt8 × Bool × List (Bs × Bs) × Int × Int × Int × Bool × List UInt8 × Int × UInt8) ⊕ (Bool × List UInt8 × Bool × List (Bs × Bs) × Int × Int × Int × Bool × List UInt8 × Int × UInt8) ⊕ (Bool × List UInt8 × Bool × List (Bs × Bs) × Int × Int × Int × Bool × List UInt8 × Int × UInt8) ⊕ (Bool × List UInt8 × Bool × List (Bs × Bs) × Int × Int × Int × Bool × List UInt8 × Int × UInt8)) ⊕ R20) :=
  if t31 = true then
    some (.inl (.inr (.inr (.inl (b0_0, b0_1, l6_0, l6_1, from7, h0_1, e9, h0_0_0, h0_0_1, h0_1, h0_2)))))
  else
    (m34 h0_2).bind fun yr30 =>
      if yr30 = true then
        j20_49v1 b0_0 b0_1 l6_0 l6_1 from7 to8 h0_0_0 h0_0_1 h0_1 h0_2
      else
        some (.inl (.inr (.inr (.inr (.inr (.inr (.inr (.inl (b0_0, b0_1, l6_0, l6_1, from7, to8, e9, h0_0_0, h0_0_1, h0_1, h0_2)))))))))
theorem j20_40v1_t (b0_0 : Bool) (b0_1 : List UInt8) (l6_0 : Bool) (l6_1 : List (Bs × Bs)) (from7 to8 e9 : Int) (t31 h0_0_0 : Bool) (h0_0_1 : List UInt8) (h0_1 : Int) (h0_2 : UInt8)  (sl : Nat → AV) (zq0 : sl 0 = .v (.c (.d (.lst b0_0 (enL enB b0_1))))) (zq5 : sl 5 = .v (.c (.ptr 0 0))) (zq6 : sl 6 = .v (.c (.own l6_0 (enL enSS l6_1) 1))) (zq7 : sl 7 = .v (.c (.d (.sc (.int .i64 from7))))) (zq8 : sl 8 = .v (.c (.d (.sc (.int .i64 to8))))) (zq9 : sl 9 = .v (.c (.d (.sc (.int .i64 e9))))) (zq31 : sl 31 = .v (.c (.d (.sc (.bool t31))))) :
    stepE (K20_2 (mm := mm)) (scopeK 0 [(0, .keep), (5, .keep), (6, .own), (7, .keep), (8, .keep), (9, .keep)] c20_3 (seqD (E0 mm) 20 0 (callW (E0 mm)) itW c20_49 (blockD 1 (den (E0 mm) 20 0 (callW (E0 mm)) itW c20_40 none ⟨sl, [.cells [.d (.lst h0_0_0 (enL enB h0_0_1)), .d (.sc (.int .i64 h0_1)), .d (.sc (.int .u8 ((h0_2).toNat : Int)))], .row l6_1.length (rz l6_0 2)]⟩)))) = (j20_40v1 b0_0 b0_1 l6_0 l6_1 from7 to8 e9 t31 h0_0_0 h0_0_1 h0_1 h0_2).map (sm en20_2 e20) := by
  simp -implicitDefEqProofs only [j20_40v1, (show c20_40 = Code.cond _ c20_41 c20_44 from rfl), zq0, zq5, zq6, zq7, zq8, zq9, zq31, setA, setB, za, zb, zc, zd, ze, zf, zg, zh, zi, zj, zk, zl, zm, zn, zo, zp, reduceCtorEq, zE, ↓reduceIte]
  refine brB (fun yc28 => ?_) (fun yc28 => ?_)
  · simp -implicitDefEqProofs only [c20_41_e, c20_42_r, (show opsOf c20_42 = _ :: _ from rfl), Tryd.underlying69, sz3, ag3, c20_43_e, (scopeK_g (show hasLabel c20_3 4 = true by kernel_rfl)), zq0, zq5, zq6, zq7, zq8, zq9, zq31, yc28, setA, setB, za, zb, zc, zd, ze, zf, zg, zh, zi, zj, zk, zl, zm, zn, zo, zp, reduceCtorEq, zE, ↓reduceIte]
    all_goals rfl
  · simp -implicitDefEqProofs only [c20_44_e, c20_45_r, (show opsOf c20_45 = _ :: _ from rfl), Tryd.underlying69, sz5, ag5, ent34, prm34, f34_t, zq0, zq5, zq6, zq7, zq8, zq9, zq31, yc28, setA, setB, za, zb, zc, zd, ze, zf, zg, zh, zi, zj, zk, zl, zm, zn, zo, zp, reduceCtorEq, zE, ↓reduceIte]
    refine brM (fun yc29 => ?_) (fun yr30 yc29 => ?_)
    · rw [yc29]; rfl
    · simp -implicitDefEqProofs only [e34, (show c20_46 = Code.cond _ c20_47 c20_48 from rfl), zq0, zq5, zq6, zq7, zq8, zq9, zq31, yc28, yc29, setA, setB, za, zb, zc, zd, ze, zf, zg, zh, zi, zj, zk, zl, zm, zn, zo, zp, reduceCtorEq, zE, ↓reduceIte]
      refine brB (fun yc31 => ?_) (fun yc31 => ?_)
      · simp -implicitDefEqProofs only [c20_48_e, zq0, zq5, zq6, zq7, zq8, zq9, zq31, yc28, yc29, yc31, setA, setB, za, zb, zc, zd, ze, zf, zg, zh, zi, zj, zk, zl, zm, zn, zo, zp, reduceCtorEq, zE, ↓reduceIte]
        exact j20_49v1_t b0_0 b0_1 l6_0 l6_1 from7 to8 h0_0_0 h0_0_1 h0_1 h0_2 _ (by exact zq0) (by exact zq5) (by exact zq6) (by exact zq7) (by exact zq8)
      · simp -implicitDefEqProofs only [c20_47_e, (scopeK_g (show hasLabel c20_3 5 = true by kernel_rfl)), zq0, zq5, zq6, zq7, zq8, zq9, zq31, yc28, yc29, yc31, setA, setB, za, zb, zc, zd, ze, zf, zg, zh, zi, zj, zk, zl, zm, zn, zo, zp, reduceCtorEq, zE, ↓reduceIte]
        all_goals rfl
def s20_2x4 (b0_0 : Bool) (b0_1 : List UInt8) (l6_0 : Bool) (l6_1 : List (Bs × Bs)) (from7 to8 e9 : Int) (h0_0_0 : Bool) (h0_0_1 : List UInt8) (h0_1 : Int) (h0_2 : UInt8) : Option (((Bool × List UInt8) ⊕ (Bool × List UInt8 × Bool × List (Bs × Bs) × Int × Int × Int × Bool × List UInt8 × Int × UInt8) ⊕ (Bool × List UInt8 × Bool × List (Bs × Bs) × Int × Int × Int × Bool × List UInt8 × Int × UInt8) ⊕ (Bool × List UInt8 × Bool × List (Bs × Bs) × Int × Int × Int × Bool × List UInt8 × Int × UInt8) ⊕ (Bool × List UInt8 × Bool × List (Bs × Bs) × Int × Int × Int × Bool × List UInt8 × Int × UInt8) ⊕ (Bool × List UInt8 × Bool × List (Bs × Bs) × Int × Int × Int × Bool × List UInt8 × Int × UInt8) ⊕ (Bool × List UInt8 × Bool × List (Bs × Bs) × Int × Int × Int × Bool × List UInt8 × Int × UInt8) ⊕ (Bool × List UInt8 × Bool × List (Bs × Bs) × Int × Int × Int × Bool × List UInt8 × Int × UInt8) ⊕ (Bool × List UInt8 × Bool × List (Bs × Bs) × Int × Int × Int × Bool × List UInt8 × Int × UInt8)) ⊕ R20) :=
  if (h0_2 == (58 : UInt8)) = true then
    j20_40v1 b0_0 b0_1 l6_0 l6_1 from7 to8 e9 (decide ((w64 (from7 + 1)) < h0_1)) h0_0_0 h0_0_1 h0_1 h0_2
  else
    j20_40v1 b0_0 b0_1 l6_0 l6_1 from7 to8 e9 false h0_0_0 h0_0_1 h0_1 h0_2
theorem s20_2x4_t (b0_0 : Bool) (b0_1 : List UInt8) (l6_0 : Bool) (l6_1 : List (Bs × Bs)) (from7 to8 e9 : Int) (h0_0_0 : Bool) (h0_0_1 : List UInt8) (h0_1 : Int) (h0_2 : UInt8) :
    stepE (K20_2 (mm := mm)) (scopeF (E0 mm) 20 0 (callW (E0 mm)) itW c20_3 [(0, .keep), (5, .keep), (6, .own), (7, .keep), (8, .keep), (9, .keep)] (some 6, [.v (.c (.d (.lst b0_0 (enL enB b0_1)))), .v (.c (.ptr 0 0)), .v (.c (.own l6_0 (enL enSS l6_1) 1)), .v (.c (.d (.sc (.int .i64 from7)))), .v (.c (.d (.sc (.int .i64 to8)))), .v (.c (.d (.sc (.int .i64 e9))))], [.cells [.d (.lst h0_0_0 (enL enB h0_0_1)), .d (.sc (.int .i64 h0_1)), .d (.sc (.int .u8 ((h0_2).toNat : Int)))], .row l6_1.length (rz l6_0 2)])) = (s20_2x4 b0_0 b0_1 l6_0 l6_1 from7 to8 e9 h0_0_0 h0_0_1 h0_1 h0_2).map (sm en20_2 e20) := by
  simp -implicitDefEqProofs only [s20_2x4, scopeF_eq, (show ∀ f st, den (E0 mm) 20 0 (callW (E0 mm)) itW c20_3 f st = den (E0 mm) 20 0 (callW (E0 mm)) itW (.seq c20_4 c20_5) f st from fun _ _ => rfl), (den_seq_l0 (show hasLabel c20_4 6 = false by kernel_rfl)), c20_5_e, (den_seq_l0 (show hasLabel c20_6 6 = false by kernel_rfl)), c20_7_e, (den_seq_l0 (show hasLabel c20_8 6 = false by kernel_rfl)), c20_9_e, (den_seq_l0 (show hasLabel c20_10 6 = false by kernel_rfl)), c20_11_e, (den_seq_l0 (show hasLabel c20_12 6 = false by kernel_rfl)), c20_13_e, (den_seq_l0 (show hasLabel c20_14 6 = false by kernel_rfl)), c20_15_e, (den_seq_l0 (show hasLabel c20_16 6 = false by kernel_rfl)), c20_23_e, (den_seq_l0 (show hasLabel c20_24 6 = false by kernel_rfl)), c20_34_e, (den_seq_l1 (show hasLabel (Code.label 6) 6 = true by kernel_rfl)), c20_35_e, c20_36_e, c20_37_e, c20_38_e, c20_39_r, (show opsOf c20_39 = _ :: _ from rfl), Tryd.underlying69, sz5, ag5, setA, setB, za, zb, zc, zd, ze, zf, zg, zh, zi, zj, zk, zl, zm, zn, zo, zp, reduceCtorEq, zE, ↓reduceIte]
  refine brB (fun yc27 => ?_) (fun yc27 => ?_)
  · simp -implicitDefEqProofs only [Tryd.underlying69, sz3, ag3, yc27, setA, setB, za, zb, zc, zd, ze, zf, zg, zh, zi, zj, zk, zl, zm, zn, zo, zp, reduceCtorEq, zE, ↓reduceIte]
    exact j20_40v1_t b0_0 b0_1 l6_0 l6_1 from7 to8 e9 (decide ((w64 (from7 + 1)) < h0_1)) h0_0_0 h0_0_1 h0_1 h0_2 _ (by rfl) (by rfl) (by rfl) (by rfl) (by rfl) (by rfl) (by rfl)
  · simp -implicitDefEqProofs only [yc27, setA, setB, za, zb, zc, zd, ze, zf, zg, zh, zi, zj, zk, zl, zm, zn, zo, zp, reduceCtorEq, zE, ↓reduceIte]
    exact j20_40v1_t b0_0 b0_1 l6_0 l6_1 from7 to8 e9 false h0_0_0 h0_0_1 h0_1 h0_2 _ (by rfl) (by rfl) (by rfl) (by rfl) (by rfl) (by rfl) (by rfl)
def s20_2x5 (b0_0 : Bool) (b0_1 : List UInt8) (l6_0 : Bool) (l6_1 : List (Bs × Bs)) (from7 to8 e9 : Int) (h0_0_0 : Bool) (h0_0_1 : List UInt8) (h0_1 : Int) (h0_2 : UInt8) : Option (((Bool × List UInt8) ⊕ (Bool × List UInt8 × Bool × List (Bs × Bs) × Int × Int × Int × Bool × List UInt8 × Int × UInt8) ⊕ (Bool × List UInt8 × Bool × List (Bs × Bs) × Int × Int × Int × Bool × List UInt8 × Int × UInt8) ⊕ (Bool × List UInt8 × Bool × List (Bs × Bs) × Int × Int × Int × Bool × List UInt8 × Int × UInt8) ⊕ (Bool × List UInt8 × Bool × List (Bs × Bs) × Int × Int × Int × Bool × List UInt8 × Int × UInt8) ⊕ (Bool × List UInt8 × Bool × List (Bs × Bs) × Int × Int × Int × Bool × List UInt8 × Int × UInt8) ⊕ (Bool × List UInt8 × Bool × List (Bs × Bs) × Int × Int × Int × Bool × List UInt8 × Int × UInt8) ⊕ (Bool × List UInt8 × Bool × List (Bs × Bs) × Int × Int × Int × Bool × List UInt8 × Int × UInt8) ⊕ (Bool × List UInt8 × Bool × List (Bs × Bs) × Int × Int × Int × Bool × List UInt8 × Int × UInt8)) ⊕ R20) :=
  some (.inr (.inr (true, ([] : List (Bs × Bs)), (0 : Int), e9)))
theorem s20_2x5_t (b0_0 : Bool) (b0_1 : List UInt8) (l6_0 : Bool) (l6_1 : List (Bs × Bs)) (from7 to8 e9 : Int) (h0_0_0 : Bool) (h0_0_1 : List UInt8) (h0_1 : Int) (h0_2 : UInt8) :
    stepE (K20_2 (mm := mm)) (scopeF (E0 mm) 20 0 (callW (E0 mm)) itW c20_3 [(0, .keep), (5, .keep), (6, .own), (7, .keep), (8, .keep), (9, .keep)] (some 1, [.v (.c (.d (.lst b0_0 (enL enB b0_1)))), .v (.c (.ptr 0 0)), .v (.c (.own l6_0 (enL enSS l6_1) 1)), .v (.c (.d (.sc (.int .i64 from7)))), .v (.c (.d (.sc (.int .i64 to8)))), .v (.c (.d (.sc (.int .i64 e9))))], [.cells [.d (.lst h0_0_0 (enL enB h0_0_1)), .d (.sc (.int .i64 h0_1)), .d (.sc (.int .u8 ((h0_2).toNat : Int)))], .row l6_1.length (rz l6_0 2)])) = (s20_2x5 b0_0 b0_1 l6_0 l6_1 from7 to8 e9 h0_0_0 h0_0_1 h0_1 h0_2).map (sm en20_2 e20) := by
  simp -implicitDefEqProofs only [s20_2x5, scopeF_eq, (show ∀ f st, den (E0 mm) 20 0 (callW (E0 mm)) itW c20_3 f st = den (E0 mm) 20 0 (callW (E0 mm)) itW (.seq c20_4 c20_5) f st from fun _ _ => rfl), (den_seq_l0 (show hasLabel c20_4 1 = false by kernel_rfl)), c20_5_e, (den_seq_l0 (show hasLabel c20_6 1 = false by kernel_rfl)), c20_7_e, (den_seq_l0 (show hasLabel c20_8 1 = false by kernel_rfl)), c20_9_e, (den_seq_l0 (show hasLabel c20_10 1 = false by kernel_rfl)), c20_11_e, (den_seq_l0 (show hasLabel c20_12 1 = false by kernel_rfl)), c20_13_e, (den_seq_l0 (show hasLabel c20_14 1 = false by kernel_rfl)), c20_15_e, (den_seq_l0 (show hasLabel c20_16 1 = false by kernel_rfl)), c20_23_e, (den_seq_l0 (show hasLabel c20_24 1 = false by kernel_rfl)), c20_34_e, (den_seq_l0 (show hasLabel c20_35 1 = false by kernel_rfl)), c20_36_e, (den_seq_l0 (show hasLabel c20_37 1 = false by kernel_rfl)), c20_49_e, (den_seq_l0 (show hasLabel c20_50 1 = false by kernel_rfl)), c20_57_e, (den_seq_l0 (show hasLabel c20_58 1 = false by kernel_rfl)), c20_63_e, (den_seq_l0 (show hasLabel c20_64 1 = false by kernel_rfl)), c20_65_e, (den_seq_l0 (show hasLabel c20_66 1 = false by kernel_rfl)), c20_67_e, (den_seq_l0 (show hasLabel c20_68 1 = false by kernel_rfl)), c20_75_e, (den_seq_l0 (show hasLabel c20_76 1 = false by kernel_rfl)), c20_90_e, (den_seq_l0 (show hasLabel c20_91 1 = false by kernel_rfl)), c20_92_e, (den_seq_l0 (show hasLabel c20_93 1 = false by kernel_rfl)), c20_94_e, (den_seq_l0 (show hasLabel c20_95 1 = false by kernel_rfl)), c20_96_e, (den_seq_l0 (show hasLabel c20_97 1 = false by kernel_rfl)), c20_104_e, (den_seq_l0 (show hasLabel c20_105 1 = false by kernel_rfl)), c20_110_e, (den_seq_l0 (show hasLabel c20_111 1 = false by kernel_rfl)), c20_112_e, (den_seq_l0 (show hasLabel c20_113 1 = false by kernel_rfl)), c20_114_e, (den_seq_l0 (show hasLabel c20_115 1 = false by kernel_rfl)), c20_122_e, (den_seq_l0 (show hasLabel c20_123 1 = false by kernel_rfl)), c20_130_e, (den_seq_l0 (show hasLabel c20_131 1 = false by kernel_rfl)), c20_132_e, (den_seq_l0 (show hasLabel c20_133 1 = false by kernel_rfl)), c20_136_e, (den_seq_l0 (show hasLabel c20_137 1 = false by kernel_rfl)), c20_138_e, (den_seq_l0 (show hasLabel c20_139 1 = false by kernel_rfl)), c20_142_e, (den_seq_l1 (show hasLabel (Code.label 1) 1 = true by kernel_rfl)), c20_143_e, c20_144_e, c20_145_r, (show opsOf c20_145 = _ :: _ from rfl), c20_146_e, K20_2, setA, setB, za, zb, zc, zd, ze, zf, zg, zh, zi, zj, zk, zl, zm, zn, zo, zp, reduceCtorEq, zE, ↓reduceIte]
  all_goals rfl
def s20_2x6 (b0_0 : Bool) (b0_1 : List UInt8) (l6_0 : Bool) (l6_1 : List (Bs × Bs)) (from7 to8 e9 : Int) (h0_0_0 : Bool) (h0_0_1 : List UInt8) (h0_1 : Int) (h0_2 : UInt8) : Option (((Bool × List UInt8) ⊕ (Bool × List UInt8 × Bool × List (Bs × Bs) × Int × Int × Int × Bool × List UInt8 × Int × UInt8) ⊕ (Bool × List UInt8 × Bool × List (Bs × Bs) × Int × Int × Int × Bool × List UInt8 × Int × UInt8) ⊕ (Bool × List UInt8 × Bool × List (Bs × Bs) × Int × Int × Int × Bool × List UInt8 × Int × UInt8) ⊕ (Bool × List UInt8 × Bool × List (Bs × Bs) × Int × Int × Int × Bool × List UInt8 × Int × UInt8) ⊕ (Bool × List UInt8 × Bool × List (Bs × Bs) × Int × Int × Int × Bool × List UInt8 × Int × UInt8) ⊕ (Bool × List UInt8 × Bool × List (Bs × Bs) × Int × Int × Int × Bool × List UInt8 × Int × UInt8) ⊕ (Bool × List UInt8 × Bool × List (Bs × Bs) × Int × Int × Int × Bool × List UInt8 × Int × UInt8) ⊕ (Bool × List UInt8 × Bool × List (Bs × Bs) × Int × Int × Int × Bool × List UInt8 × Int × UInt8)) ⊕ R20) :=
  some (.inr (.inr (true, ([] : List (Bs × Bs)), (0 : Int), (20 : Int))))
theorem s20_2x6_t (b0_0 : Bool) (b0_1 : List UInt8) (l6_0 : Bool) (l6_1 : List (Bs × Bs)) (from7 to8 e9 : Int) (h0_0_0 : Bool) (h0_0_1 : List UInt8) (h0_1 : Int) (h0_2 : UInt8) :
    stepE (K20_2 (mm := mm)) (scopeF (E0 mm) 20 0 (callW (E0 mm)) itW c20_3 [(0, .keep), (5, .keep), (6, .own), (7, .keep), (8, .keep), (9, .keep)] (some 5, [.v (.c (.d (.lst b0_0 (enL enB b0_1)))), .v (.c (.ptr 0 0)), .v (.c (.own l6_0 (enL enSS l6_1) 1)), .v (.c (.d (.sc (.int .i64 from7)))), .v (.c (.d (.sc (.int .i64 to8)))), .v (.c (.d (.sc (.int .i64 e9))))], [.cells [.d (.lst h0_0_0 (enL enB h0_0_1)), .d (.sc (.int .i64 h0_1)), .d (.sc (.int .u8 ((h0_2).toNat : Int)))], .row l6_1.length (rz l6_0 2)])) = (s20_2x6 b0_0 b0_1 l6_0 l6_1 from7 to8 e9 h0_0_0 h0_0_1 h0_1 h0_2).map (sm en20_2 e20) := by
  simp -implicitDefEqProofs only [s20_2x6, scopeF_eq, (show ∀ f st, den (E0 mm) 20 0 (callW (E0 mm)) itW c20_3 f st = den (E0 mm) 20 0 (callW (E0 mm)) itW (.seq c20_4 c20_5) f st from fun _ _ => rfl), (den_seq_l0 (show hasLabel c20_4 5 = false by kernel_rfl)), c20_5_e, (den_seq_l0 (show hasLabel c20_6 5 = false by kernel_rfl)), c20_7_e, (den_seq_l0 (show hasLabel c20_8 5 = false by kernel_rfl)), c20_9_e, (den_seq_l0 (show hasLabel c20_10 5 = false by kernel_rfl)), c20_11_e, (den_seq_l0 (show hasLabel c20_12 5 = false by kernel_rfl)), c20_13_e, (den_seq_l0 (show hasLabel c20_14 5 = false by kernel_rfl)), c20_15_e, (den_seq_l0 (show hasLabel c20_16 5 = false by kernel_rfl)), c20_23_e, (den_seq_l0 (show hasLabel c20_24 5 = false by kernel_rfl)), c20_34_e, (den_seq_l0 (show hasLabel c20_35 5 = false by kernel_rfl)), c20_36_e, (den_seq_l0 (show hasLabel c20_37 5 = false by kernel_rfl)), c20_49_e, (den_seq_l0 (show hasLabel c20_50 5 = false by kernel_rfl)), c20_57_e, (den_seq_l0 (show hasLabel c20_58 5 = false by kernel_rfl)), c20_63_e, (den_seq_l0 (show hasLabel c20_64 5 = false by kernel_rfl)), c20_65_e, (den_seq_l0 (show hasLabel c20_66 5 = false by kernel_rfl)), c20_67_e, (den_seq_l0 (show hasLabel c20_68 5 = false by kernel_rfl)), c20_75_e, (den_seq_l0 (show hasLabel c20_76 5 = false by kernel_rfl)), c20_90_e, (den_seq_l0 (show hasLabel c20_91 5 = false by kernel_rfl)), c20_92_e, (den_seq_l0 (show hasLabel c20_93 5 = false by kernel_rfl)), c20_94_e, (den_seq_l0 (show hasLabel c20_95 5 = false by kernel_rfl)), c20_96_e, (den_seq_l0 (show hasLabel c20_97 5 = false by kernel_rfl)), c20_104_e, (den_seq_l0 (show hasLabel c20_105 5 = false by kernel_rfl)), c20_110_e, (den_seq_l0 (show hasLabel c20_111 5 = false by kernel_rfl)), c20_112_e, (den_seq_l0 (show hasLabel c20_113 5 = false by kernel_rfl)), c20_114_e, (den_seq_l0 (show hasLabel c20_115 5 = false by kernel_rfl)), c20_122_e, (den_seq_l0 (show hasLabel c20_123 5 = false by kernel_rfl)), c20_130_e, (den_seq_l1 (show hasLabel (Code.label 5) 5 = true by kernel_rfl)), c20_131_e, c20_132_e, c20_133_e, c20_134_r, (show opsOf c20_134 = _ :: _ from rfl), c20_135_e, K20_2, setA, setB, za, zb, zc, zd, ze, zf, zg, zh, zi, zj, zk, zl, zm, zn, zo, zp, reduceCtorEq, zE, ↓reduceIte]
  all_goals rfl
def s20_2x7 (b0_0 : Bool) (b0_1 : List UInt8) (l6_0 : Bool) (l6_1 : List (Bs × Bs)) (from7 to8 e9 : Int) (h0_0_0 : Bool) (h0_0_1 : List UInt8) (h0_1 : Int) (h0_2 : UInt8) : Option (((Bool × List UInt8) ⊕ (Bool × List UInt8 × Bool × List (Bs × Bs) × Int × Int × Int × Bool × List UInt8 × Int × UInt8) ⊕ (Bool × List UInt8 × Bool × List (Bs × Bs) × Int × Int × Int × Bool × List UInt8 × Int × UInt8) ⊕ (Bool × List UInt8 × Bool × List (Bs × Bs) × Int × Int × Int × Bool × List UInt8 × Int × UInt8) ⊕ (Bool × List UInt8 × Bool × List (Bs × Bs) × Int × Int × Int × Bool × List UInt8 × Int × UInt8) ⊕ (Bool × List UInt8 × Bool × List (Bs × Bs) × Int × Int × Int × Bool × List UInt8 × Int × UInt8) ⊕ (Bool × List UInt8 × Bool × List (Bs × Bs) × Int × Int × Int × Bool × List UInt8 × Int × UInt8) ⊕ (Bool × List UInt8 × Bool × List (Bs × Bs) × Int × Int × Int × Bool × List UInt8 × Int × UInt8) ⊕ (Bool × List UInt8 × Bool × List (Bs × Bs) × Int × Int × Int × Bool × List UInt8 × Int × UInt8)) ⊕ R20) :=
  (bnd (w64 (to8 - 1)) b0_1.length).bind fun yk38 =>
    (bnd from7 yk38).bind fun yk40 =>
      (bnd (w64 (h0_1 - 1)) b0_1.length).bind fun yk42 =>
        (bnd to8 yk42).bind fun yk44 =>
          (m36 ((b0_1.take yk42).drop yk44)).bind fun yr46 =>
            if (l6_1.length + 1) * 32 ≤ 140737488355328 then
              (m33 h0_0_0 h0_0_1 h0_1 h0_2).bind fun yr49 =>
                if (yr49.1 == 0) = true then
                  if (yr49.2.2.2.2 == (10 : UInt8)) = true then
                    some (.inl (.inr (.inr (.inr (.inr (.inr (.inr (.inr (.inr (b0_0, b0_1, false, (l6_1 ++ ([(((b0_1.take yk38).drop yk40), yr46)] : List (Bs × Bs))), from7, to8, yr49.1, yr49.2.1, yr49.2.2.1, yr49.2.2.2.1, yr49.2.2.2.2))))))))))
                  else
                    some (.inl (.inr (.inr (.inr (.inr (.inr (.inr (.inl (b0_0, b0_1, false, (l6_1 ++ ([(((b0_1.take yk38).drop yk40), yr46)] : List (Bs × Bs))), from7, to8, yr49.1, yr49.2.1, yr49.2.2.1, yr49.2.2.2.1, yr49.2.2.2.2)))))))))
                else
                  some (.inl (.inr (.inr (.inr (.inr (.inr (.inl (b0_0, b0_1, false, (l6_1 ++ ([(((b0_1.take yk38).drop yk40), yr46)] : List (Bs × Bs))), from7, to8, yr49.1, yr49.2.1, yr49.2.2.1, yr49.2.2.2.1, yr49.2.2.2.2))))))))
            else none
theorem s20_2x7_t (b0_0 : Bool) (b0_1 : List UInt8) (l6_0 : Bool) (l6_1 : List (Bs × Bs)) (from7 to8 e9 : Int) (h0_0_0 : Bool) (h0_0_1 : List UInt8) (h0_1 : Int) (h0_2 : UInt8) :
    stepE (K20_2 (mm := mm)) (scopeF (E0 mm) 20 0 (callW (E0 mm)) itW c20_3 [(0, .keep), (5, .keep), (6, .own), (7, .keep), (8, .keep), (9, .keep)] (some 7, [.v (.c (.d (.lst b0_0 (enL enB b0_1)))), .v (.c (.ptr 0 0)), .v (.c (.own l6_0 (enL enSS l6_1) 1)), .v (.c (.d (.sc (.int .i64 from7)))), .v (.c (.d (.sc (.int .i64 to8)))), .v (.c (.d (.sc (.int .i64 e9))))], [.cells [.d (.lst h0_0_0 (enL enB h0_0_1)), .d (.sc (.int .i64 h0_1)), .d (.sc (.int .u8 ((h0_2).toNat : Int)))], .row l6_1.length (rz l6_0 2)])) = (s20_2x7 b0_0 b0_1 l6_0 l6_1 from7 to8 e9 h0_0_0 h0_0_1 h0_1 h0_2).map (sm en20_2 e20) := by
  simp -implicitDefEqProofs only [s20_2x7, scopeF_eq, (show ∀ f st, den (E0 mm) 20 0 (callW (E0 mm)) itW c20_3 f st = den (E0 mm) 20 0 (callW (E0 mm)) itW (.seq c20_4 c20_5) f st from fun _ _ => rfl), (den_seq_l0 (show hasLabel c20_4 7 = false by kernel_rfl)), c20_5_e, (den_seq_l0 (show hasLabel c20_6 7 = false by kernel_rfl)), c20_7_e, (den_seq_l0 (show hasLabel c20_8 7 = false by kernel_rfl)), c20_9_e, (den_seq_l0 (show hasLabel c20_10 7 = false by kernel_rfl)), c20_11_e, (den_seq_l0 (show hasLabel c20_12 7 = false by kernel_rfl)), c20_13_e, (den_seq_l0 (show hasLabel c20_14 7 = false by kernel_rfl)), c20_15_e, (den_seq_l0 (show hasLabel c20_16 7 = false by kernel_rfl)), c20_23_e, (den_seq_l0 (show hasLabel c20_24 7 = false by kernel_rfl)), c20_34_e, (den_seq_l0 (show hasLabel c20_35 7 = false by kernel_rfl)), c20_36_e, (den_seq_l0 (show hasLabel c20_37 7 = false by kernel_rfl)), c20_49_e, (den_seq_l0 (show hasLabel c20_50 7 = false by kernel_rfl)), c20_57_e, (den_seq_l0 (show hasLabel c20_58 7 = false by kernel_rfl)), c20_63_e, (den_seq_l0 (show hasLabel c20_64 7 = false by kernel_rfl)), c20_65_e, (den_seq_l0 (show hasLabel c20_66 7 = false by kernel_rfl)), c20_67_e, (den_seq_l0 (show hasLabel c20_68 7 = false by kernel_rfl)), c20_75_e, (den_seq_l0 (show hasLabel c20_76 7 = false by kernel_rfl)), c20_90_e, (den_seq_l0 (show hasLabel c20_91 7 = false by kernel_rfl)), c20_92_e, (den_seq_l1 (show hasLabel (Code.label 7) 7 = true by kernel_rfl)), c20_93_e, c20_94_e, c20_95_r, (show opsOf c20_95 = _ :: _ from rfl), Tryd.underlying22, enB_a, sz5, runF_nil, runF_none, runF_some, runKF_t, runKF_f, runKF_x, stepKF_s, stepKF_x, tlT_c, tlT_n, hdT_c, hdT_n, footT_n, foot_t, readsO, setA, setB, za, zb, zc, zd, ze, zf, zg, zh, zi, zj, zk, zl, zm, zn, zo, zp, reduceCtorEq, zE, ↓reduceIte]
  refine brM (fun yc37 => ?_) (fun yk38 yc37 => ?_)
  · rw [yc37]; rfl
  · simp -implicitDefEqProofs only [runF_nil, runF_none, runF_some, runKF_t, runKF_f, runKF_x, stepKF_s, stepKF_x, tlT_c, tlT_n, hdT_c, hdT_n, footT_n, foot_t, readsO, yc37, setA, setB, za, zb, zc, zd, ze, zf, zg, zh, zi, zj, zk, zl, zm, zn, zo, zp, reduceCtorEq, zE, ↓reduceIte]
    refine brM (fun yc39 => ?_) (fun yk40 yc39 => ?_)
    · rw [yc39]; rfl
    · simp -implicitDefEqProofs only [Option.isNone_some, Bool.false_and, Bool.and_false, Bool.false_eq_true, if_false, Tryd.underlying22, Tryd.underlying9, Tryd.underlying5, Tryd.underlying69, sz3, ag3, enB_a, sz5, runF_nil, runF_none, runF_some, runKF_t, runKF_f, runKF_x, stepKF_s, stepKF_x, tlT_c, tlT_n, hdT_c, hdT_n, footT_n, foot_t, readsO, yc37, yc39, setA, setB, za, zb, zc, zd, ze, zf, zg, zh, zi, zj, zk, zl, zm, zn, zo, zp, reduceCtorEq, zE, ↓reduceIte]
      refine brM (fun yc41 => ?_) (fun yk42 yc41 => ?_)
      · rw [yc41]; rfl
      · simp -implicitDefEqProofs only [runF_nil, runF_none, runF_some, runKF_t, runKF_f, runKF_x, stepKF_s, stepKF_x, tlT_c, tlT_n, hdT_c, hdT_n, footT_n, foot_t, readsO, yc37, yc39, yc41, setA, setB, za, zb, zc, zd, ze, zf, zg, zh, zi, zj, zk, zl, zm, zn, zo, zp, reduceCtorEq, zE, ↓reduceIte]
        refine brM (fun yc43 => ?_) (fun yk44 yc43 => ?_)
        · rw [yc43]; rfl
        · simp -implicitDefEqProofs only [Option.isNone_some, Bool.false_and, Bool.and_false, Bool.false_eq_true, if_false, Tryd.underlying22, Tryd.underlying9, Tryd.underlying5, ent36, prm36, f36_t, runF_nil, runF_none, runF_some, runKF_t, runKF_f, runKF_x, stepKF_s, stepKF_x, tlT_c, tlT_n, hdT_c, hdT_n, footT_n, foot_t, readsO, yc37, yc39, yc41, yc43, setA, setB, za, zb, zc, zd, ze, zf, zg, zh, zi, zj, zk, zl, zm, zn, zo, zp, reduceCtorEq, zE, ↓reduceIte]
          refine brM (fun yc45 => ?_) (fun yr46 yc45 => ?_)
          · rw [yc45]; rfl
          · simp -implicitDefEqProofs only [e36, Tryd.underlying74, zc74, sz9, Tryd.underlying49, sz74, hd20, nv21, rw22, ns23, ap49, runF_nil, runF_none, runF_some, runKF_t, runKF_f, runKF_x, stepKF_s, stepKF_x, tlT_c, tlT_n, hdT_c, hdT_n, footT_n, foot_t, readsO, yc37, yc39, yc41, yc43, yc45, setA, setB, za, zb, zc, zd, ze, zf, zg, zh, zi, zj, zk, zl, zm, zn, zo, zp, reduceCtorEq, zE, ↓reduceIte]
            refine brP (fun yc47 => ?_) (fun yc47 => ?_)
            · simp -implicitDefEqProofs only [ckF, foot_f, pair1, pair0, chgA, eqO, eqOb_cells, eqOb_row, eqOb_siter, eqOb_amapN, eqOb_amapC, eqOb_sm, eqE_S, eqE_SS, eqE_N, eqE_B, eqL, eqC, eqD, eqV, eqV1, eqB_refl, eq_self, decide_true, List.all_nil, List.getD_cons_zero, List.getD_cons_succ, Bool.and_self, c20_96_e, c20_97_e, c20_98_r, (show opsOf c20_98 = _ :: _ from rfl), ent33, prm33, f33_t, runF_nil, runF_none, runF_some, runKF_t, runKF_f, runKF_x, stepKF_s, stepKF_x, tlT_c, tlT_n, hdT_c, hdT_n, footT_n, foot_t, readsO, yc37, yc39, yc41, yc43, yc45, yc47, setA, setB, za, zb, zc, zd, ze, zf, zg, zh, zi, zj, zk, zl, zm, zn, zo, zp, reduceCtorEq, zE, ↓reduceIte]
              refine brM (fun yc48 => ?_) (fun yr49 yc48 => ?_)
              · rw [yc48]; rfl
              · simp -implicitDefEqProofs only [e33, c20_99_e, c20_100_r, (show opsOf c20_100 = _ :: _ from rfl), (show c20_101 = Code.cond _ c20_102 c20_103 from rfl), runF_nil, runF_none, runF_some, runKF_t, runKF_f, runKF_x, stepKF_s, stepKF_x, tlT_c, tlT_n, hdT_c, hdT_n, footT_n, foot_t, readsO, yc37, yc39, yc41, yc43, yc45, yc47, yc48, setA, setB, za, zb, zc, zd, ze, zf, zg, zh, zi, zj, zk, zl, zm, zn, zo, zp, reduceCtorEq, zE, ↓reduceIte]
                refine brB (fun yc50 => ?_) (fun yc50 => ?_)
                · simp -implicitDefEqProofs only [c20_103_e, c20_104_e, c20_105_e, c20_106_r, (show opsOf c20_106 = _ :: _ from rfl), Tryd.underlying69, sz5, ag5, (show c20_107 = Code.cond _ c20_108 c20_109 from rfl), runF_nil, runF_none, runF_some, runKF_t, runKF_f, runKF_x, stepKF_s, stepKF_x, tlT_c, tlT_n, hdT_c, hdT_n, footT_n, foot_t, readsO, yc37, yc39, yc41, yc43, yc45, yc47, yc48, yc50, setA, setB, za, zb, zc, zd, ze, zf, zg, zh, zi, zj, zk, zl, zm, zn, zo, zp, reduceCtorEq, zE, ↓reduceIte]
                  refine brB (fun yc51 => ?_) (fun yc51 => ?_)
                  · simp -implicitDefEqProofs only [c20_108_e, (scopeK_g (show hasLabel c20_3 0 = true by kernel_rfl)), runF_nil, runF_none, runF_some, runKF_t, runKF_f, runKF_x, stepKF_s, stepKF_x, tlT_c, tlT_n, hdT_c, hdT_n, footT_n, foot_t, readsO, yc37, yc39, yc41, yc43, yc45, yc47, yc48, yc50, yc51, setA, setB, za, zb, zc, zd, ze, zf, zg, zh, zi, zj, zk, zl, zm, zn, zo, zp, reduceCtorEq, zE, ↓reduceIte]
                    all_goals rfl
                  · simp -implicitDefEqProofs only [c20_109_e, c20_110_e, c20_111_e, (scopeK_g (show hasLabel c20_3 5 = true by kernel_rfl)), runF_nil, runF_none, runF_some, runKF_t, runKF_f, runKF_x, stepKF_s, stepKF_x, tlT_c, tlT_n, hdT_c, hdT_n, footT_n, foot_t, readsO, yc37, yc39, yc41, yc43, yc45, yc47, yc48, yc50, yc51, setA, setB, za, zb, zc, zd, ze, zf, zg, zh, zi, zj, zk, zl, zm, zn, zo, zp, reduceCtorEq, zE, ↓reduceIte]
                    all_goals rfl
                · simp -implicitDefEqProofs only [c20_102_e, (scopeK_g (show hasLabel c20_3 1 = true by kernel_rfl)), runF_nil, runF_none, runF_some, runKF_t, runKF_f, runKF_x, stepKF_s, stepKF_x, tlT_c, tlT_n, hdT_c, hdT_n, footT_n, foot_t, readsO, yc37, yc39, yc41, yc43, yc45, yc47, yc48, yc50, setA, setB, za, zb, zc, zd, ze, zf, zg, zh, zi, zj, zk, zl, zm, zn, zo, zp, reduceCtorEq, zE, ↓reduceIte]
                  all_goals rfl
            · rw [if_neg yc47]; rfl
def j20_34v1 (b0_0 : Bool) (b0_1 : List UInt8) (l6_0 : Bool) (l6_1 : List (Bs × Bs)) (from7 to8 e9 : Int) (h0_0_0 : Bool) (h0_0_1 : List UInt8) (h0_1 : Int) (h0_2 : UInt8) : Option (((Bool × List UInt8) ⊕ (Bool × List UInt8 × Bool × List (Bs × Bs) × Int × Int × Int × Bool × List UInt8 × Int × UInt8) ⊕ (Bool × List UInt8 × Bool × List (Bs × Bs) × Int × Int × Int × Bool × List UInt8 × Int × UInt8) ⊕ (Bool × List UInt8 × Bool × List (Bs × Bs) × Int × Int × Int × Bool × List UInt8 × Int × UInt8) ⊕ (Bool × List UInt8 × Bool × List (Bs × Bs) × Int × Int × Int × Bool × List UInt8 × Int × UInt8) ⊕ (Bool × List UInt8 × Bool × List (Bs × Bs) × Int × Int × Int × Bool × List UInt8 × Int × UInt8) ⊕ (Bool × List UInt8 × Bool × List (Bs × Bs) × Int × Int × Int × Bool × List UInt8 × Int × UInt8) ⊕ (Bool × List UInt8 × Bool × List (Bs × Bs) × Int × Int × Int × Bool × List UInt8 × Int × UInt8) ⊕ (Bool × List UInt8 × Bool × List (Bs × Bs) × Int × Int × Int × Bool × List UInt8 × Int × UInt8)) ⊕ R20) :=
  if (h0_2 == (58 : UInt8)) = true then
    j20_40v1 b0_0 b0_1 l6_0 l6_1 from7 to8 e9 (decide ((w64 (from7 + 1)) < h0_1)) h0_0_0 h0_0_1 h0_1 h0_2
  else
    j20_40v1 b0_0 b0_1 l6_0 l6_1 from7 to8 e9 false h0_0_0 h0_0_1 h0_1 h0_2
theorem j20_34v1_t (b0_0 : Bool) (b0_1 : List UInt8) (l6_0 : Bool) (l6_1 : List (Bs × Bs)) (from7 to8 e9 : Int) (h0_0_0 : Bool) (h0_0_1 : List UInt8) (h0_1 : Int) (h0_2 : UInt8)  (sl : Nat → AV) (zq0 : sl 0 = .v (.c (.d (.lst b0_0 (enL enB b0_1))))) (zq5 : sl 5 = .v (.c (.ptr 0 0))) (zq6 : sl 6 = .v (.c (.own l6_0 (enL enSS l6_1) 1))) (zq7 : sl 7 = .v (.c (.d (.sc (.int .i64 from7))))) (zq8 : sl 8 = .v (.c (.d (.sc (.int .i64 to8))))) (zq9 : sl 9 = .v (.c (.d (.sc (.int .i64 e9))))) :
    stepE (K20_2 (mm := mm)) (scopeK 0 [(0, .keep), (5, .keep), (6, .own), (7, .keep), (8, .keep), (9, .keep)] c20_3 (den (E0 mm) 20 0 (callW (E0 mm)) itW c20_34 none ⟨sl, [.cells [.d (.lst h0_0_0 (enL enB h0_0_1)), .d (.sc (.int .i64 h0_1)), .d (.sc (.int .u8 ((h0_2).toNat : Int)))], .row l6_1.length (rz l6_0 2)]⟩)) = (j20_34v1 b0_0 b0_1 l6_0 l6_1 from7 to8 e9 h0_0_0 h0_0_1 h0_1 h0_2).map (sm en20_2 e20) := by
  simp -implicitDefEqProofs only [j20_34v1, c20_34_e, c20_35_e, den_label_n, c20_36_e, c20_37_e, c20_38_e, c20_39_r, (show opsOf c20_39 = _ :: _ from rfl), Tryd.underlying69, sz5, ag5, zq0, zq5, zq6, zq7, zq8, zq9, setA, setB, za, zb, zc, zd, ze, zf, zg, zh, zi, zj, zk, zl, zm, zn, zo, zp, reduceCtorEq, zE, ↓reduceIte]
  refine brB (fun yc57 => ?_) (fun yc57 => ?_)
  · simp -implicitDefEqProofs only [Tryd.underlying69, sz3, ag3, zq0, zq5, zq6, zq7, zq8, zq9, yc57, setA, setB, za, zb, zc, zd, ze, zf, zg, zh, zi, zj, zk, zl, zm, zn, zo, zp, reduceCtorEq, zE, ↓reduceIte]
    exact j20_40v1_t b0_0 b0_1 l6_0 l6_1 from7 to8 e9 (decide ((w64 (from7 + 1)) < h0_1)) h0_0_0 h0_0_1 h0_1 h0_2 _ (by exact zq0) (by exact zq5) (by exact zq6) (by exact zq7) (by exact zq8) (by exact zq9) (by rfl)
  · simp -implicitDefEqProofs only [zq0, zq5, zq6, zq7, zq8, zq9, yc57, setA, setB, za, zb, zc, zd, ze, zf, zg, zh, zi, zj, zk, zl, zm, zn, zo, zp, reduceCtorEq, zE, ↓reduceIte]
    exact j20_40v1_t b0_0 b0_1 l6_0 l6_1 from7 to8 e9 false h0_0_0 h0_0_1 h0_1 h0_2 _ (by exact zq0) (by exact zq5) (by exact zq6) (by exact zq7) (by exact zq8) (by exact zq9) (by rfl)
def j20_23v1 (b0_0 : Bool) (b0_1 : List UInt8) (l6_0 : Bool) (l6_1 : List (Bs × Bs)) (from7 to8 e9 : Int) (h0_0_0 : Bool) (h0_0_1 : List UInt8) (h0_1 : Int) (h0_2 : UInt8) : Option (((Bool × List UInt8) ⊕ (Bool × List UInt8 × Bool × List (Bs × Bs) × Int × Int × Int × Bool × List UInt8 × Int × UInt8) ⊕ (Bool × List UInt8 × Bool × List (Bs × Bs) × Int × Int × Int × Bool × List UInt8 × Int × UInt8) ⊕ (Bool × List UInt8 × Bool × List (Bs × Bs) × Int × Int × Int × Bool × List UInt8 × Int × UInt8) ⊕ (Bool × List UInt8 × Bool × List (Bs × Bs) × Int × Int × Int × Bool × List UInt8 × Int × UInt8) ⊕ (Bool × List UInt8 × Bool × List (Bs × Bs) × Int × Int × Int × Bool × List UInt8 × Int × UInt8) ⊕ (Bool × List UInt8 × Bool × List (Bs × Bs) × Int × Int × Int × Bool × List UInt8 × Int × UInt8) ⊕ (Bool × List UInt8 × Bool × List (Bs × Bs) × Int × Int × Int × Bool × List UInt8 × Int × UInt8) ⊕ (Bool × List UInt8 × Bool × List (Bs × Bs) × Int × Int × Int × Bool × List UInt8 × Int × UInt8)) ⊕ R20) :=
  if (h0_2 == (13 : UInt8)) = true then
    some (.inl (.inr (.inl (b0_0, b0_1, l6_0, l6_1, from7, to8, e9, h0_0_0, h0_0_1, h0_1, h0_2))))
  else
    if ((l6_1.length : Int) == 32) = true then
      some (.inl (.inr (.inr (.inr (.inl (b0_0, b0_1, l6_0, l6_1, from7, to8, e9, h0_0_0, h0_0_1, h0_1, h0_2))))))
    else
      j20_34v1 b0_0 b0_1 l6_0 l6_1 from7 to8 e9 h0_0_0 h0_0_1 h0_1 h0_2
theorem j20_23v1_t (b0_0 : Bool) (b0_1 : List UInt8) (l6_0 : Bool) (l6_1 : List (Bs × Bs)) (from7 to8 e9 : Int) (h0_0_0 : Bool) (h0_0_1 : List UInt8) (h0_1 : Int) (h0_2 : UInt8)  (sl : Nat → AV) (zq0 : sl 0 = .v (.c (.d (.lst b0_0 (enL enB b0_1))))) (zq5 : sl 5 = .v (.c (.ptr 0 0))) (zq6 : sl 6 = .v (.c (.own l6_0 (enL enSS l6_1) 1))) (zq7 : sl 7 = .v (.c (.d (.sc (.int .i64 from7))))) (zq8 : sl 8 = .v (.c (.d (.sc (.int .i64 to8))))) (zq9 : sl 9 = .v (.c (.d (.sc (.int .i64 e9))))) :
    stepE (K20_2 (mm := mm)) (scopeK 0 [(0, .keep), (5, .keep), (6, .own), (7, .keep), (8, .keep), (9, .keep)] c20_3 (den (E0 mm) 20 0 (callW (E0 mm)) itW c20_23 none ⟨sl, [.cells [.d (.lst h0_0_0 (enL enB h0_0_1)), .d (.sc (.int .i64 h0_1)), .d (.sc (.int .u8 ((h0_2).toNat : Int)))], .row l6_1.length (rz l6_0 2)]⟩)) = (j20_23v1 b0_0 b0_1 l6_0 l6_1 from7 to8 e9 h0_0_0 h0_0_1 h0_1 h0_2).map (sm en20_2 e20) := by
  simp -implicitDefEqProofs only [j20_23v1, c20_23_e, c20_24_e, c20_25_e, c20_26_r, (show opsOf c20_26 = _ :: _ from rfl), Tryd.underlying69, sz5, ag5, (show c20_27 = Code.cond _ c20_28 c20_29 from rfl), zq0, zq5, zq6, zq7, zq8, zq9, setA, setB, za, zb, zc, zd, ze, zf, zg, zh, zi, zj, zk, zl, zm, zn, zo, zp, reduceCtorEq, zE, ↓reduceIte]
  refine brB (fun yc55 => ?_) (fun yc55 => ?_)
  · simp -implicitDefEqProofs only [c20_28_e, (scopeK_g (show hasLabel c20_3 2 = true by kernel_rfl)), zq0, zq5, zq6, zq7, zq8, zq9, yc55, setA, setB, za, zb, zc, zd, ze, zf, zg, zh, zi, zj, zk, zl, zm, zn, zo, zp, reduceCtorEq, zE, ↓reduceIte]
    all_goals rfl
  · simp -implicitDefEqProofs only [c20_29_e, c20_30_r, (show opsOf c20_30 = _ :: _ from rfl), Tryd.underlying49, (show c20_31 = Code.cond _ c20_32 c20_33 from rfl), zq0, zq5, zq6, zq7, zq8, zq9, yc55, setA, setB, za, zb, zc, zd, ze, zf, zg, zh, zi, zj, zk, zl, zm, zn, zo, zp, reduceCtorEq, zE, ↓reduceIte]
    refine brB (fun yc56 => ?_) (fun yc56 => ?_)
    · simp -implicitDefEqProofs only [c20_32_e, (scopeK_g (show hasLabel c20_3 3 = true by kernel_rfl)), zq0, zq5, zq6, zq7, zq8, zq9, yc55, yc56, setA, setB, za, zb, zc, zd, ze, zf, zg, zh, zi, zj, zk, zl, zm, zn, zo, zp, reduceCtorEq, zE, ↓reduceIte]
      all_goals rfl
    · simp -implicitDefEqProofs only [c20_33_e, zq0, zq5, zq6, zq7, zq8, zq9, yc55, yc56, setA, setB, za, zb, zc, zd, ze, zf, zg, zh, zi, zj, zk, zl, zm, zn, zo, zp, reduceCtorEq, zE, ↓reduceIte]
      exact j20_34v1_t b0_0 b0_1 l6_0 l6_1 from7 to8 e9 h0_0_0 h0_0_1 h0_1 h0_2 _ (by exact zq0) (by exact zq5) (by exact zq6) (by exact zq7) (by exact zq8) (by exact zq9)
def s20_2x8 (b0_0 : Bool) (b0_1 : List UInt8) (l6_0 : Bool) (l6_1 : List (Bs × Bs)) (from7 to8 e9 : Int) (h0_0_0 : Bool) (h0_0_1 : List UInt8) (h0_1 : Int) (h0_2 : UInt8) : Option (((Bool × List UInt8) ⊕ (Bool × List UInt8 × Bool × List (Bs × Bs) × Int × Int × Int × Bool × List UInt8 × Int × UInt8) ⊕ (Bool × List UInt8 × Bool × List (Bs × Bs) × Int × Int × Int × Bool × List UInt8 × Int × UInt8) ⊕ (Bool × List UInt8 × Bool × List (Bs × Bs) × Int × Int × Int × Bool × List UInt8 × Int × UInt8) ⊕ (Bool × List UInt8 × Bool × List (Bs × Bs) × Int × Int × Int × Bool × List UInt8 × Int × UInt8) ⊕ (Bool × List UInt8 × Bool × List (Bs × Bs) × Int × Int × Int × Bool × List UInt8 × Int × UInt8) ⊕ (Bool × List UInt8 × Bool × List (Bs × Bs) × Int × Int × Int × Bool × List UInt8 × Int × UInt8) ⊕ (Bool × List UInt8 × Bool × List (Bs × Bs) × Int × Int × Int × Bool × List UInt8 × Int × UInt8) ⊕ (Bool × List UInt8 × Bool × List (Bs × Bs) × Int × Int × Int × Bool × List UInt8 × Int × UInt8)) ⊕ R20) :=
  (m33 h0_0_0 h0_0_1 h0_1 h0_2).bind fun yr53 =>
    if (yr53.1 == 0) = true then
      j20_23v1 b0_0 b0_1 l6_0 l6_1 h0_1 to8 yr53.1 yr53.2.1 yr53.2.2.1 yr53.2.2.2.1 yr53.2.2.2.2
    else
      some (.inl (.inr (.inr (.inr (.inr (.inr (.inl (b0_0, b0_1, l6_0, l6_1, h0_1, to8, yr53.1, yr53.2.1, yr53.2.2.1, yr53.2.2.2.1, yr53.2.2.2.2))))))))
theorem s20_2x8_t (b0_0 : Bool) (b0_1 : List UInt8) (l6_0 : Bool) (l6_1 : List (Bs × Bs)) (from7 to8 e9 : Int) (h0_0_0 : Bool) (h0_0_1 : List UInt8) (h0_1 : Int) (h0_2 : UInt8) :
    stepE (K20_2 (mm := mm)) (scopeF (E0 mm) 20 0 (callW (E0 mm)) itW c20_3 [(0, .keep), (5, .keep), (6, .own), (7, .keep), (8, .keep), (9, .keep)] (some 0, [.v (.c (.d (.lst b0_0 (enL enB b0_1)))), .v (.c (.ptr 0 0)), .v (.c (.own l6_0 (enL enSS l6_1) 1)), .v (.c (.d (.sc (.int .i64 from7)))), .v (.c (.d (.sc (.int .i64 to8)))), .v (.c (.d (.sc (.int .i64 e9))))], [.cells [.d (.lst h0_0_0 (enL enB h0_0_1)), .d (.sc (.int .i64 h0_1)), .d (.sc (.int .u8 ((h0_2).toNat : Int)))], .row l6_1.length (rz l6_0 2)])) = (s20_2x8 b0_0 b0_1 l6_0 l6_1 from7 to8 e9 h0_0_0 h0_0_1 h0_1 h0_2).map (sm en20_2 e20) := by
  simp -implicitDefEqProofs only [s20_2x8, scopeF_eq, (show ∀ f st, den (E0 mm) 20 0 (callW (E0 mm)) itW c20_3 f st = den (E0 mm) 20 0 (callW (E0 mm)) itW (.seq c20_4 c20_5) f st from fun _ _ => rfl), (den_seq_l0 (show hasLabel c20_4 0 = false by kernel_rfl)), c20_5_e, (den_seq_l0 (show hasLabel c20_6 0 = false by kernel_rfl)), c20_7_e, (den_seq_l0 (show hasLabel c20_8 0 = false by kernel_rfl)), c20_9_e, (den_seq_l0 (show hasLabel c20_10 0 = false by kernel_rfl)), c20_11_e, (den_seq_l1 (show hasLabel (Code.label 0) 0 = true by kernel_rfl)), c20_12_e, c20_13_e, c20_14_r, (show opsOf c20_14 = _ :: _ from rfl), Tryd.underlying69, sz3, ag3, c20_15_e, c20_16_e, c20_17_r, (show opsOf c20_17 = _ :: _ from rfl), ent33, prm33, f33_t, setA, setB, za, zb, zc, zd, ze, zf, zg, zh, zi, zj, zk, zl, zm, zn, zo, zp, reduceCtorEq, zE, ↓reduceIte]
  refine brM (fun yc52 => ?_) (fun yr53 yc52 => ?_)
  · rw [yc52]; rfl
  · simp -implicitDefEqProofs only [e33, c20_18_e, c20_19_r, (show opsOf c20_19 = _ :: _ from rfl), (show c20_20 = Code.cond _ c20_21 c20_22 from rfl), yc52, setA, setB, za, zb, zc, zd, ze, zf, zg, zh, zi, zj, zk, zl, zm, zn, zo, zp, reduceCtorEq, zE, ↓reduceIte]
    refine brB (fun yc54 => ?_) (fun yc54 => ?_)
    · simp -implicitDefEqProofs only [c20_22_e, yc52, yc54, setA, setB, za, zb, zc, zd, ze, zf, zg, zh, zi, zj, zk, zl, zm, zn, zo, zp, reduceCtorEq, zE, ↓reduceIte]
      exact j20_23v1_t b0_0 b0_1 l6_0 l6_1 h0_1 to8 yr53.1 yr53.2.1 yr53.2.2.1 yr53.2.2.2.1 yr53.2.2.2.2 _ (by rfl) (by rfl) (by rfl) (by rfl) (by rfl) (by rfl)
    · simp -implicitDefEqProofs only [c20_21_e, (scopeK_g (show hasLabel c20_3 1 = true by kernel_rfl)), yc52, yc54, setA, setB, za, zb, zc, zd, ze, zf, zg, zh, zi, zj, zk, zl, zm, zn, zo, zp, reduceCtorEq, zE, ↓reduceIte]
      all_goals rfl
def s20_2 : ((Bool × List UInt8) ⊕ (Bool × List UInt8 × Bool × List (Bs × Bs) × Int × Int × Int × Bool × List UInt8 × Int × UInt8) ⊕ (Bool × List UInt8 × Bool × List (Bs × Bs) × Int × Int × Int × Bool × List UInt8 × Int × UInt8) ⊕ (Bool × List UInt8 × Bool × List (Bs × Bs) × Int × Int × Int × Bool × List UInt8 × Int × UInt8) ⊕ (Bool × List UInt8 × Bool × List (Bs × Bs) × Int × Int × Int × Bool × List UInt8 × Int × UInt8) ⊕ (Bool × List UInt8 × Bool × List (Bs × Bs) × Int × Int × Int × Bool × List UInt8 × Int × UInt8) ⊕ (Bool × List UInt8 × Bool × List (Bs × Bs) × Int × Int × Int × Bool × List UInt8 × Int × UInt8) ⊕ (Bool × List UInt8 × Bool × List (Bs × Bs) × Int × Int × Int × Bool × List UInt8 × Int × UInt8) ⊕ (Bool × List UInt8 × Bool × List (Bs × Bs) × Int × Int × Int × Bool × List UInt8 × Int × UInt8)) → Option (((Bool × List UInt8) ⊕ (Bool × List UInt8 × Bool × List (Bs × Bs) × Int × Int × Int × Bool × List UInt8 × Int × UInt8) ⊕ (Bool × List UInt8 × Bool × List (Bs × Bs) × Int × Int × Int × Bool × List UInt8 × Int × UInt8) ⊕ (Bool × List UInt8 × Bool × List (Bs × Bs) × Int × Int × Int × Bool × List UInt8 × Int × UInt8) ⊕ (Bool × List UInt8 × Bool × List (Bs × Bs) × Int × Int × Int × Bool × List UInt8 × Int × UInt8) ⊕ (Bool × List UInt8 × Bool × List (Bs × Bs) × Int × Int × Int × Bool × List UInt8 × Int × UInt8) ⊕ (Bool × List UInt8 × Bool × List (Bs × Bs) × Int × Int × Int × Bool × List UInt8 × Int × UInt8) ⊕ (Bool × List UInt8 × Bool × List (Bs × Bs) × Int × Int × Int × Bool × List UInt8 × Int × UInt8) ⊕ (Bool × List UInt8 × Bool × List (Bs × Bs) × Int × Int × Int × Bool × List UInt8 × Int × UInt8)) ⊕ R20) := fun x => match x with
  | (.inl x) => s20_2x0 x.1 x.2
  | (.inr (.inl x)) => s20_2x1 x.1 x.2.1 x.2.2.1 x.2.2.2.1 x.2.2.2.2.1 x.2.2.2.2.2.1 x.2.2.2.2.2.2.1 x.2.2.2.2.2.2.2.1 x.2.2.2.2.2.2.2.2.1 x.2.2.2.2.2.2.2.2.2.1 x.2.2.2.2.2.2.2.2.2.2
  | (.inr (.inr (.inl x))) => s20_2x2 x.1 x.2.1 x.2.2.1 x.2.2.2.1 x.2.2.2.2.1 x.2.2.2.2.2.1 x.2.2.2.2.2.2.1 x.2.2.2.2.2.2.2.1 x.2.2.2.2.2.2.2.2.1 x.2.2.2.2.2.2.2.2.2.1 x.2.2.2.2.2.2.2.2.2.2
  | (.inr (.inr (.inr (.inl x)))) => s20_2x3 x.1 x.2.1 x.2.2.1 x.2.2.2.1 x.2.2.2.2.1 x.2.2.2.2.2.1 x.2.2.2.2.2.2.1 x.2.2.2.2.2.2.2.1 x.2.2.2.2.2.2.2.2.1 x.2.2.2.2.2.2.2.2.2.1 x.2.2.2.2.2.2.2.2.2.2
  | (.inr (.inr (.inr (.inr (.inl x))))) => s20_2x4 x.1 x.2.1 x.2.2.1 x.2.2.2.1 x.2.2.2.2.1 x.2.2.2.2.2.1 x.2.2.2.2.2.2.1 x.2.2.2.2.2.2.2.1 x.2.2.2.2.2.2.2.2.1 x.2.2.2.2.2.2.2.2.2.1 x.2.2.2.2.2.2.2.2.2.2
  | (.inr (.inr (.inr (.inr (.inr (.inl x)))))) => s20_2x5 x.1 x.2.1 x.2.2.1 x.2.2.2.1 x.2.2.2.2.1 x.2.2.2.2.2.1 x.2.2.2.2.2.2.1 x.2.2.2.2.2.2.2.1 x.2.2.2.2.2.2.2.2.1 x.2.2.2.2.2.2.2.2.2.1 x.2.2.2.2.2.2.2.2.2.2
  | (.inr (.inr (.inr (.inr (.inr (.inr (.inl x))))))) => s20_2x6 x.1 x.2.1 x.2.2.1 x.2.2.2.1 x.2.2.2.2.1 x.2.2.2.2.2.1 x.2.2.2.2.2.2.1 x.2.2.2.2.2.2.2.1 x.2.2.2.2.2.2.2.2.1 x.2.2.2.2.2.2.2.2.2.1 x.2.2.2.2.2.2.2.2.2.2
  | (.inr (.inr (.inr (.inr (.inr (.inr (.inr (.inl x)))))))) => s20_2x7 x.1 x.2.1 x.2.2.1 x.2.2.2.1 x.2.2.2.2.1 x.2.2.2.2.2.1 x.2.2.2.2.2.2.1 x.2.2.2.2.2.2.2.1 x.2.2.2.2.2.2.2.2.1 x.2.2.2.2.2.2.2.2.2.1 x.2.2.2.2.2.2.2.2.2.2
  | (.inr (.inr (.inr (.inr (.inr (.inr (.inr (.inr x)))))))) => s20_2x8 x.1 x.2.1 x.2.2.1 x.2.2.2.1 x.2.2.2.2.1 x.2.2.2.2.2.1 x.2.2.2.2.2.2.1 x.2.2.2.2.2.2.2.1 x.2.2.2.2.2.2.2.2.1 x.2.2.2.2.2.2.2.2.2.1 x.2.2.2.2.2.2.2.2.2.2
def l20_2 (b0_0 : Bool) (b0_1 : List UInt8) : Option R20 := iter s20_2 (.inl (b0_0, b0_1))
theorem l20_2_t (b0_0 : Bool) (b0_1 : List UInt8) : bodyD (E0 mm) [.tmp 2, .tmp 3, .tmp 4] 0 false (itW (scopeF (E0 mm) 20 0 (callW (E0 mm)) itW c20_3 [(0, .keep), (5, .keep), (6, .own), (7, .keep), (8, .keep), (9, .keep)]) (none, [.v (.c (.d (.lst b0_0 (enL enB b0_1)))), .dead, .dead, .dead, .dead, .dead], [])) = (l20_2 b0_0 b0_1).map e20 :=
  it_sim (K := (K20_2 (mm := mm))) rfl (enc := en20_2) (fun x => match x with
  | (.inl x) => s20_2x0_t x.1 x.2
  | (.inr (.inl x)) => s20_2x1_t x.1 x.2.1 x.2.2.1 x.2.2.2.1 x.2.2.2.2.1 x.2.2.2.2.2.1 x.2.2.2.2.2.2.1 x.2.2.2.2.2.2.2.1 x.2.2.2.2.2.2.2.2.1 x.2.2.2.2.2.2.2.2.2.1 x.2.2.2.2.2.2.2.2.2.2
  | (.inr (.inr (.inl x))) => s20_2x2_t x.1 x.2.1 x.2.2.1 x.2.2.2.1 x.2.2.2.2.1 x.2.2.2.2.2.1 x.2.2.2.2.2.2.1 x.2.2.2.2.2.2.2.1 x.2.2.2.2.2.2.2.2.1 x.2.2.2.2.2.2.2.2.2.1 x.2.2.2.2.2.2.2.2.2.2
  | (.inr (.inr (.inr (.inl x)))) => s20_2x3_t x.1 x.2.1 x.2.2.1 x.2.2.2.1 x.2.2.2.2.1 x.2.2.2.2.2.1 x.2.2.2.2.2.2.1 x.2.2.2.2.2.2.2.1 x.2.2.2.2.2.2.2.2.1 x.2.2.2.2.2.2.2.2.2.1 x.2.2.2.2.2.2.2.2.2.2
  | (.inr (.inr (.inr (.inr (.inl x))))) => s20_2x4_t x.1 x.2.1 x.2.2.1 x.2.2.2.1 x.2.2.2.2.1 x.2.2.2.2.2.1 x.2.2.2.2.2.2.1 x.2.2.2.2.2.2.2.1 x.2.2.2.2.2.2.2.2.1 x.2.2.2.2.2.2.2.2.2.1 x.2.2.2.2.2.2.2.2.2.2
  | (.inr (.inr (.inr (.inr (.inr (.inl x)))))) => s20_2x5_t x.1 x.2.1 x.2.2.1 x.2.2.2.1 x.2.2.2.2.1 x.2.2.2.2.2.1 x.2.2.2.2.2.2.1 x.2.2.2.2.2.2.2.1 x.2.2.2.2.2.2.2.2.1 x.2.2.2.2.2.2.2.2.2.1 x.2.2.2.2.2.2.2.2.2.2
  | (.inr (.inr (.inr (.inr (.inr (.inr (.inl x))))))) => s20_2x6_t x.1 x.2.1 x.2.2.1 x.2.2.2.1 x.2.2.2.2.1 x.2.2.2.2.2.1 x.2.2.2.2.2.2.1 x.2.2.2.2.2.2.2.1 x.2.2.2.2.2.2.2.2.1 x.2.2.2.2.2.2.2.2.2.1 x.2.2.2.2.2.2.2.2.2.2
  | (.inr (.inr (.inr (.inr (.inr (.inr (.inr (.inl x)))))))) => s20_2x7_t x.1 x.2.1 x.2.2.1 x.2.2.2.1 x.2.2.2.2.1 x.2.2.2.2.2.1 x.2.2.2.2.2.2.1 x.2.2.2.2.2.2.2.1 x.2.2.2.2.2.2.2.2.1 x.2.2.2.2.2.2.2.2.2.1 x.2.2.2.2.2.2.2.2.2.2
  | (.inr (.inr (.inr (.inr (.inr (.inr (.inr (.inr x)))))))) => s20_2x8_t x.1 x.2.1 x.2.2.1 x.2.2.2.1 x.2.2.2.2.1 x.2.2.2.2.2.1 x.2.2.2.2.2.2.1 x.2.2.2.2.2.2.2.1 x.2.2.2.2.2.2.2.2.1 x.2.2.2.2.2.2.2.2.2.1 x.2.2.2.2.2.2.2.2.2.2) (.inl (b0_0, b0_1))
def m20 (b_0 : Bool) (b_1 : List UInt8) : Option R20 :=
  l20_2 b_0 b_1
theorem f20_t (b_0 : Bool) (b_1 : List UInt8) :
    callW (E0 mm) 20 [.c (.d (.lst b_0 (enL enB b_1)))] [] = (m20 b_0 b_1).map e20 := by
  rw [callW_run (body := c20_0) (res := [.tmp 2, .tmp 3, .tmp 4]) Tryd.func20 rfl rfl (by kernel_rfl)]
  simp -implicitDefEqProofs only [m20, slots1, c20_0_e, c20_1_r, (show opsOf c20_1 = _ :: _ from rfl), c20_2_l, setA, setB, za, zb, zc, zd, ze, zf, zg, zh, zi, zj, zk, zl, zm, zn, zo, zp, reduceCtorEq, zE, ↓reduceIte]
  exact l20_2_t b_0 b_1
end
end Go.Proofs.YtaohepmbkepmiaaDoor
