/- The Go functions as plain functions, and that the evaluator computes them. -/
import Derived.Test.YtoohbnmhjfgclaaGreatDoorFStays1
set_option linter.all false
set_option maxRecDepth 100000
namespace Go.Proofs.YtoohbnmhjfgclaaGreatDoor
open Go Go.Ab
open Nat renaming reduceEqDiff→za,reduceAdd→zb,reduceLeDiff→zc,reduceLT→zd,reduceMul→ze,reduceBEq→zf,reduceSub→zg,reducePow→zh
open Int renaming reduceEq→zi,reduceLE→zj,reduceLT→zk,reduceToNat→zl,reduceNegSucc→zm,reduceAdd→zn,reduceBEq→zo
open String renaming reduceBEq→zp
set_option maxHeartbeats 4000000
noncomputable section
variable {mm:Int}
noncomputable def c47_0:Code:=bodyOf Tryz.f47
def c47_1:=cA c47_0
def c47_2:=cB c47_0
def c47_3:=cA c47_2
def c47_4:=cA c47_3
def c47_5:=cB c47_3
def c47_6:=cA c47_5
def c47_7:=cB c47_5
def c47_8:=cA c47_7
def c47_9:=cB c47_7
def c47_10:=cA c47_9
def c47_11:=cB c47_9
def c47_12:=cA c47_11
def c47_13:=cB c47_11
def c47_14:=cA c47_13
def c47_15:=cB c47_13
def c47_16:=cA c47_15
def c47_17:=cA c47_16
def c47_18:=cB c47_16
def c47_19:=cA c47_18
def c47_20:=cB c47_18
def c47_21:=cA c47_20
def c47_22:=cB c47_20
def c47_23:=cB c47_15
def c47_24:=cA c47_23
def c47_25:=cA c47_24
def c47_26:=cA c47_25
def c47_27:=cB c47_25
def c47_28:=cA c47_27
def c47_29:=cB c47_27
def c47_30:=cA c47_29
def c47_31:=cB c47_29
def c47_32:=cA c47_31
def c47_33:=cB c47_31
def c47_34:=cB c47_23
def c47_35:=cA c47_34
def c47_36:=cB c47_34
def c47_37:=cA c47_36
def c47_38:=cA c47_37
def c47_39:=cA c47_38
def c47_40:=cB c47_38
def c47_41:=cA c47_40
def c47_42:=cA c47_41
def c47_43:=cB c47_41
def c47_44:=cB c47_40
def c47_45:=cA c47_44
def c47_46:=cB c47_44
def c47_47:=cA c47_46
def c47_48:=cB c47_46
def c47_49:=cB c47_36
def c47_50:=cA c47_49
def c47_51:=cA c47_50
def c47_52:=cB c47_50
def c47_53:=cA c47_52
def c47_54:=cB c47_52
def c47_55:=cA c47_54
def c47_56:=cB c47_54
def c47_57:=cB c47_49
def c47_58:=cA c47_57
def c47_59:=cA c47_58
def c47_60:=cB c47_58
def c47_61:=cA c47_60
def c47_62:=cB c47_60
def c47_63:=cB c47_57
def c47_64:=cA c47_63
def c47_65:=cB c47_63
def c47_66:=cA c47_65
def c47_67:=cB c47_65
def c47_68:=cA c47_67
def c47_69:=cA c47_68
def c47_70:=cB c47_68
def c47_71:=cA c47_70
def c47_72:=cB c47_70
def c47_73:=cA c47_72
def c47_74:=cB c47_72
def c47_75:=cB c47_67
def c47_76:=cA c47_75
def c47_77:=cA c47_76
def c47_78:=cA c47_77
def c47_79:=cB c47_77
def c47_80:=cA c47_79
def c47_81:=cB c47_79
def c47_82:=cA c47_81
def c47_83:=cB c47_81
def c47_84:=cA c47_83
def c47_85:=cB c47_83
def c47_86:=cA c47_85
def c47_87:=cB c47_85
def c47_88:=cA c47_87
def c47_89:=cB c47_87
def c47_90:=cB c47_75
def c47_91:=cA c47_90
def c47_92:=cB c47_90
def c47_93:=cA c47_92
def c47_94:=cB c47_92
def c47_95:=cA c47_94
def c47_96:=cB c47_94
def c47_97:=cA c47_96
def c47_98:=cA c47_97
def c47_99:=cB c47_97
def c47_100:=cA c47_99
def c47_101:=cB c47_99
def c47_102:=cA c47_101
def c47_103:=cB c47_101
def c47_104:=cB c47_96
def c47_105:=cA c47_104
def c47_106:=cA c47_105
def c47_107:=cB c47_105
def c47_108:=cA c47_107
def c47_109:=cB c47_107
def c47_110:=cB c47_104
def c47_111:=cA c47_110
def c47_112:=cB c47_110
def c47_113:=cA c47_112
def c47_114:=cB c47_112
def c47_115:=cA c47_114
def c47_116:=cA c47_115
def c47_117:=cB c47_115
def c47_118:=cA c47_117
def c47_119:=cB c47_117
def c47_120:=cA c47_119
def c47_121:=cB c47_119
def c47_122:=cB c47_114
def c47_123:=cA c47_122
def c47_124:=cA c47_123
def c47_125:=cB c47_123
def c47_126:=cA c47_125
def c47_127:=cA c47_126
def c47_128:=cB c47_126
def c47_129:=cB c47_125
def c47_130:=cB c47_122
def c47_131:=cA c47_130
def c47_132:=cB c47_130
def c47_133:=cA c47_132
def c47_134:=cA c47_133
def c47_135:=cB c47_133
def c47_136:=cB c47_132
def c47_137:=cA c47_136
def c47_138:=cB c47_136
def c47_139:=cA c47_138
def c47_140:=cA c47_139
def c47_141:=cB c47_139
def c47_142:=cB c47_138
def c47_143:=cA c47_142
def c47_144:=cB c47_142
def c47_145:=cA c47_144
def c47_146:=cB c47_144
theorem c47_0_e:c47_0 = .seq c47_1 c47_2:=rfl
theorem c47_1_r:RG (E0 mm) 47 c47_1:=rgN rfl
theorem c47_2_l (m:Nat) (st:St):den (E0 mm) 47 m (callW (E0 mm)) itW c47_2 none st = loopD itW (scopeF (E0 mm) 47 m (callW (E0 mm)) itW c47_3 [(0,.keep),(5,.keep),(6,.own),(7,.keep),(8,.keep),(9,.keep)]) (canon m [(0,.keep),(5,.keep),(6,.own),(7,.keep),(8,.keep),(9,.keep)] st):=rfl
theorem c47_4_r:RG (E0 mm) 47 c47_4:=rgN rfl
theorem c47_5_e:c47_5 = .seq c47_6 c47_7:=rfl
theorem c47_6_r:RG (E0 mm) 47 c47_6:=rgN rfl
theorem c47_7_e:c47_7 = .seq c47_8 c47_9:=rfl
theorem c47_8_r:RG (E0 mm) 47 c47_8:=rgN rfl
theorem c47_9_e:c47_9 = .seq c47_10 c47_11:=rfl
theorem c47_10_r:RG (E0 mm) 47 c47_10:=rgN rfl
theorem c47_11_e:c47_11 = .seq c47_12 c47_13:=rfl
theorem c47_12_e:c47_12 = .label 0:=rfl
theorem c47_13_e:c47_13 = .seq c47_14 c47_15:=rfl
theorem c47_14_r:RG (E0 mm) 47 c47_14:=rgN rfl
theorem c47_15_e:c47_15 = .seq c47_16 c47_23:=rfl
theorem c47_16_e:c47_16 = .seq c47_17 c47_18:=rfl
theorem c47_17_r:RG (E0 mm) 47 c47_17:=rgN rfl
theorem c47_18_e:c47_18 = .seq c47_19 c47_20:=rfl
theorem c47_19_r:RG (E0 mm) 47 c47_19:=rgN rfl
theorem c47_21_e:c47_21 = .goto 1:=rfl
theorem c47_22_e:c47_22 = .skip:=rfl
theorem c47_23_e:c47_23 = .seq c47_24 c47_34:=rfl
theorem c47_24_e:c47_24 = .block 0 c47_25:=rfl
theorem c47_25_e:c47_25 = .seq c47_26 c47_27:=rfl
theorem c47_26_r:RG (E0 mm) 47 c47_26:=rgN rfl
theorem c47_28_e:c47_28 = .goto 2:=rfl
theorem c47_29_e:c47_29 = .seq c47_30 c47_31:=rfl
theorem c47_30_r:RG (E0 mm) 47 c47_30:=rgN rfl
theorem c47_32_e:c47_32 = .goto 3:=rfl
theorem c47_33_e:c47_33 = .skip:=rfl
theorem c47_34_e:c47_34 = .seq c47_35 c47_36:=rfl
theorem c47_35_e:c47_35 = .label 6:=rfl
theorem c47_36_e:c47_36 = .seq c47_37 c47_49:=rfl
theorem c47_37_e:c47_37 = .block 1 c47_38:=rfl
theorem c47_38_e:c47_38 = .seq c47_39 c47_40:=rfl
theorem c47_39_r:RG (E0 mm) 47 c47_39:=rgN rfl
theorem c47_41_e:c47_41 = .seq c47_42 c47_43:=rfl
theorem c47_42_r:RG (E0 mm) 47 c47_42:=rgN rfl
theorem c47_43_e:c47_43 = .goto 4:=rfl
theorem c47_44_e:c47_44 = .seq c47_45 c47_46:=rfl
theorem c47_45_r:RG (E0 mm) 47 c47_45:=rgN rfl
theorem c47_47_e:c47_47 = .goto 5:=rfl
theorem c47_48_e:c47_48 = .skip:=rfl
theorem c47_49_e:c47_49 = .seq c47_50 c47_57:=rfl
theorem c47_50_e:c47_50 = .seq c47_51 c47_52:=rfl
theorem c47_51_r:RG (E0 mm) 47 c47_51:=rgN rfl
theorem c47_52_e:c47_52 = .seq c47_53 c47_54:=rfl
theorem c47_53_r:RG (E0 mm) 47 c47_53:=rgN rfl
theorem c47_55_e:c47_55 = .goto 1:=rfl
theorem c47_56_e:c47_56 = .skip:=rfl
theorem c47_57_e:c47_57 = .seq c47_58 c47_63:=rfl
theorem c47_58_e:c47_58 = .seq c47_59 c47_60:=rfl
theorem c47_59_r:RG (E0 mm) 47 c47_59:=rgN rfl
theorem c47_61_e:c47_61 = .goto 3:=rfl
theorem c47_62_e:c47_62 = .skip:=rfl
theorem c47_63_e:c47_63 = .seq c47_64 c47_65:=rfl
theorem c47_64_e:c47_64 = .goto 6:=rfl
theorem c47_65_e:c47_65 = .seq c47_66 c47_67:=rfl
theorem c47_66_e:c47_66 = .label 4:=rfl
theorem c47_67_e:c47_67 = .seq c47_68 c47_75:=rfl
theorem c47_68_e:c47_68 = .seq c47_69 c47_70:=rfl
theorem c47_69_r:RG (E0 mm) 47 c47_69:=rgN rfl
theorem c47_70_e:c47_70 = .seq c47_71 c47_72:=rfl
theorem c47_71_r:RG (E0 mm) 47 c47_71:=rgN rfl
theorem c47_73_e:c47_73 = .goto 1:=rfl
theorem c47_74_e:c47_74 = .skip:=rfl
theorem c47_75_e:c47_75 = .seq c47_76 c47_90:=rfl
theorem c47_76_e:c47_76 = .block 2 c47_77:=rfl
theorem c47_77_e:c47_77 = .seq c47_78 c47_79:=rfl
theorem c47_78_r:RG (E0 mm) 47 c47_78:=rgN rfl
theorem c47_80_e:c47_80 = .goto 7:=rfl
theorem c47_81_e:c47_81 = .seq c47_82 c47_83:=rfl
theorem c47_82_r:RG (E0 mm) 47 c47_82:=rgN rfl
theorem c47_84_e:c47_84 = .goto 3:=rfl
theorem c47_85_e:c47_85 = .seq c47_86 c47_87:=rfl
theorem c47_86_r:RG (E0 mm) 47 c47_86:=rgN rfl
theorem c47_88_e:c47_88 = .goto 5:=rfl
theorem c47_89_e:c47_89 = .skip:=rfl
theorem c47_90_e:c47_90 = .seq c47_91 c47_92:=rfl
theorem c47_91_e:c47_91 = .goto 4:=rfl
theorem c47_92_e:c47_92 = .seq c47_93 c47_94:=rfl
theorem c47_93_e:c47_93 = .label 7:=rfl
theorem c47_94_e:c47_94 = .seq c47_95 c47_96:=rfl
theorem c47_95_r (m:Nat) (st:St):den (E0 mm) 47 m (callW (E0 mm)) itW c47_95 none st = regD ((runF (E0 mm) (callW (E0 mm)) (opsOf c47_95) (opsOf c47_95) [none,none,none,none,none,none,some true,none,none,none,none,none,none,none,none,none,some false,none,none,none,none] st []).bind (ckF [(6,16)])):=den_dF (by kernel_rfl)
theorem c47_96_e:c47_96 = .seq c47_97 c47_104:=rfl
theorem c47_97_e:c47_97 = .seq c47_98 c47_99:=rfl
theorem c47_98_r:RG (E0 mm) 47 c47_98:=rgN rfl
theorem c47_99_e:c47_99 = .seq c47_100 c47_101:=rfl
theorem c47_100_r:RG (E0 mm) 47 c47_100:=rgN rfl
theorem c47_102_e:c47_102 = .goto 1:=rfl
theorem c47_103_e:c47_103 = .skip:=rfl
theorem c47_104_e:c47_104 = .seq c47_105 c47_110:=rfl
theorem c47_105_e:c47_105 = .seq c47_106 c47_107:=rfl
theorem c47_106_r:RG (E0 mm) 47 c47_106:=rgN rfl
theorem c47_108_e:c47_108 = .goto 0:=rfl
theorem c47_109_e:c47_109 = .skip:=rfl
theorem c47_110_e:c47_110 = .seq c47_111 c47_112:=rfl
theorem c47_111_e:c47_111 = .goto 5:=rfl
theorem c47_112_e:c47_112 = .seq c47_113 c47_114:=rfl
theorem c47_113_e:c47_113 = .label 2:=rfl
theorem c47_114_e:c47_114 = .seq c47_115 c47_122:=rfl
theorem c47_115_e:c47_115 = .seq c47_116 c47_117:=rfl
theorem c47_116_r:RG (E0 mm) 47 c47_116:=rgN rfl
theorem c47_117_e:c47_117 = .seq c47_118 c47_119:=rfl
theorem c47_118_r:RG (E0 mm) 47 c47_118:=rgN rfl
theorem c47_120_e:c47_120 = .goto 1:=rfl
theorem c47_121_e:c47_121 = .skip:=rfl
theorem c47_122_e:c47_122 = .seq c47_123 c47_130:=rfl
theorem c47_123_e:c47_123 = .seq c47_124 c47_125:=rfl
theorem c47_124_r:RG (E0 mm) 47 c47_124:=rgN rfl
theorem c47_126_e:c47_126 = .seq c47_127 c47_128:=rfl
theorem c47_127_r:RG (E0 mm) 47 c47_127:=rgD (by kernel_rfl)
theorem c47_128_e:c47_128 = .ret:=rfl
theorem c47_129_e:c47_129 = .skip:=rfl
theorem c47_130_e:c47_130 = .seq c47_131 c47_132:=rfl
theorem c47_131_e:c47_131 = .label 5:=rfl
theorem c47_132_e:c47_132 = .seq c47_133 c47_136:=rfl
theorem c47_133_e:c47_133 = .seq c47_134 c47_135:=rfl
theorem c47_134_r:RG (E0 mm) 47 c47_134:=rgN rfl
theorem c47_135_e:c47_135 = .ret:=rfl
theorem c47_136_e:c47_136 = .seq c47_137 c47_138:=rfl
theorem c47_137_e:c47_137 = .label 3:=rfl
theorem c47_138_e:c47_138 = .seq c47_139 c47_142:=rfl
theorem c47_139_e:c47_139 = .seq c47_140 c47_141:=rfl
theorem c47_140_r:RG (E0 mm) 47 c47_140:=rgN rfl
theorem c47_141_e:c47_141 = .ret:=rfl
theorem c47_142_e:c47_142 = .seq c47_143 c47_144:=rfl
theorem c47_143_e:c47_143 = .label 1:=rfl
theorem c47_144_e:c47_144 = .seq c47_145 c47_146:=rfl
theorem c47_145_r:RG (E0 mm) 47 c47_145:=rgN rfl
theorem c47_146_e:c47_146 = .ret:=rfl
abbrev R47:=(Bool×List (Bs×Bs)×Int×Int) ⊕ (Bool×List (Bs×Bs)×Int×Int)
def e47:R47→AV×Heap:=fun x=>match x with
 | .inl x=>(.tup [.c (.own x.1 (enL enSS x.2.1) 0),.c (.d (.sc (.int .i64 x.2.2.1))),.c (.d (.sc (.int .i64 x.2.2.2)))],[.row x.2.1.length (rz x.1 2)])
 | .inr x=>(.tup [.c (.d (.lst x.1 (enL enSS x.2.1))),.c (.d (.sc (.int .i64 x.2.2.1))),.c (.d (.sc (.int .i64 x.2.2.2)))],[])
def K47_2:Option (Ex×St)→Option (AV×Heap):=fun r=>bodyD (E0 mm) [.tmp 2,.tmp 3,.tmp 4] 0 false (r)
def en47_2:((Bool×List UInt8) ⊕ (Bool×List UInt8×Bool×List (Bs×Bs)×Int×Int×Int×Bool×List UInt8×Int×UInt8) ⊕ (Bool×List UInt8×Bool×List (Bs×Bs)×Int×Int×Int×Bool×List UInt8×Int×UInt8) ⊕ (Bool×List UInt8×Bool×List (Bs×Bs)×Int×Int×Int×Bool×List UInt8×Int×UInt8) ⊕ (Bool×List UInt8×Bool×List (Bs×Bs)×Int×Int×Int×Bool×List UInt8×Int×UInt8) ⊕ (Bool×List UInt8×Bool×List (Bs×Bs)×Int×Int×Int×Bool×List UInt8×Int×UInt8) ⊕ (Bool×List UInt8×Bool×List (Bs×Bs)×Int×Int×Int×Bool×List UInt8×Int×UInt8) ⊕ (Bool×List UInt8×Bool×List (Bs×Bs)×Int×Int×Int×Bool×List UInt8×Int×UInt8) ⊕ (Bool×List UInt8×Bool×List (Bs×Bs)×Int×Int×Int×Bool×List UInt8×Int×UInt8))→X:=fun x=>match x with
 | (.inl x)=>(none,[.v (.c (.d (.lst x.1 (enL enB x.2)))),.dead,.dead,.dead,.dead,.dead],[])
 | (.inr (.inl x))=>(some 2,[.v (.c (.d (.lst x.1 (enL enB x.2.1)))),.v (.c (.ptr 0 0)),.v (.c (.own x.2.2.1 (enL enSS x.2.2.2.1) 1)),.v (.c (.d (.sc (.int .i64 x.2.2.2.2.1)))),.v (.c (.d (.sc (.int .i64 x.2.2.2.2.2.1)))),.v (.c (.d (.sc (.int .i64 x.2.2.2.2.2.2.1))))],[.cells [.d (.lst x.2.2.2.2.2.2.2.1 (enL enB x.2.2.2.2.2.2.2.2.1)),.d (.sc (.int .i64 x.2.2.2.2.2.2.2.2.2.1)),.d (.sc (.int .u8 ((x.2.2.2.2.2.2.2.2.2.2).toNat:Int)))],.row x.2.2.2.1.length (rz x.2.2.1 2)])
 | (.inr (.inr (.inl x)))=>(some 4,[.v (.c (.d (.lst x.1 (enL enB x.2.1)))),.v (.c (.ptr 0 0)),.v (.c (.own x.2.2.1 (enL enSS x.2.2.2.1) 1)),.v (.c (.d (.sc (.int .i64 x.2.2.2.2.1)))),.v (.c (.d (.sc (.int .i64 x.2.2.2.2.2.1)))),.v (.c (.d (.sc (.int .i64 x.2.2.2.2.2.2.1))))],[.cells [.d (.lst x.2.2.2.2.2.2.2.1 (enL enB x.2.2.2.2.2.2.2.2.1)),.d (.sc (.int .i64 x.2.2.2.2.2.2.2.2.2.1)),.d (.sc (.int .u8 ((x.2.2.2.2.2.2.2.2.2.2).toNat:Int)))],.row x.2.2.2.1.length (rz x.2.2.1 2)])
 | (.inr (.inr (.inr (.inl x))))=>(some 3,[.v (.c (.d (.lst x.1 (enL enB x.2.1)))),.v (.c (.ptr 0 0)),.v (.c (.own x.2.2.1 (enL enSS x.2.2.2.1) 1)),.v (.c (.d (.sc (.int .i64 x.2.2.2.2.1)))),.v (.c (.d (.sc (.int .i64 x.2.2.2.2.2.1)))),.v (.c (.d (.sc (.int .i64 x.2.2.2.2.2.2.1))))],[.cells [.d (.lst x.2.2.2.2.2.2.2.1 (enL enB x.2.2.2.2.2.2.2.2.1)),.d (.sc (.int .i64 x.2.2.2.2.2.2.2.2.2.1)),.d (.sc (.int .u8 ((x.2.2.2.2.2.2.2.2.2.2).toNat:Int)))],.row x.2.2.2.1.length (rz x.2.2.1 2)])
 | (.inr (.inr (.inr (.inr (.inl x)))))=>(some 6,[.v (.c (.d (.lst x.1 (enL enB x.2.1)))),.v (.c (.ptr 0 0)),.v (.c (.own x.2.2.1 (enL enSS x.2.2.2.1) 1)),.v (.c (.d (.sc (.int .i64 x.2.2.2.2.1)))),.v (.c (.d (.sc (.int .i64 x.2.2.2.2.2.1)))),.v (.c (.d (.sc (.int .i64 x.2.2.2.2.2.2.1))))],[.cells [.d (.lst x.2.2.2.2.2.2.2.1 (enL enB x.2.2.2.2.2.2.2.2.1)),.d (.sc (.int .i64 x.2.2.2.2.2.2.2.2.2.1)),.d (.sc (.int .u8 ((x.2.2.2.2.2.2.2.2.2.2).toNat:Int)))],.row x.2.2.2.1.length (rz x.2.2.1 2)])
 | (.inr (.inr (.inr (.inr (.inr (.inl x))))))=>(some 1,[.v (.c (.d (.lst x.1 (enL enB x.2.1)))),.v (.c (.ptr 0 0)),.v (.c (.own x.2.2.1 (enL enSS x.2.2.2.1) 1)),.v (.c (.d (.sc (.int .i64 x.2.2.2.2.1)))),.v (.c (.d (.sc (.int .i64 x.2.2.2.2.2.1)))),.v (.c (.d (.sc (.int .i64 x.2.2.2.2.2.2.1))))],[.cells [.d (.lst x.2.2.2.2.2.2.2.1 (enL enB x.2.2.2.2.2.2.2.2.1)),.d (.sc (.int .i64 x.2.2.2.2.2.2.2.2.2.1)),.d (.sc (.int .u8 ((x.2.2.2.2.2.2.2.2.2.2).toNat:Int)))],.row x.2.2.2.1.length (rz x.2.2.1 2)])
 | (.inr (.inr (.inr (.inr (.inr (.inr (.inl x)))))))=>(some 5,[.v (.c (.d (.lst x.1 (enL enB x.2.1)))),.v (.c (.ptr 0 0)),.v (.c (.own x.2.2.1 (enL enSS x.2.2.2.1) 1)),.v (.c (.d (.sc (.int .i64 x.2.2.2.2.1)))),.v (.c (.d (.sc (.int .i64 x.2.2.2.2.2.1)))),.v (.c (.d (.sc (.int .i64 x.2.2.2.2.2.2.1))))],[.cells [.d (.lst x.2.2.2.2.2.2.2.1 (enL enB x.2.2.2.2.2.2.2.2.1)),.d (.sc (.int .i64 x.2.2.2.2.2.2.2.2.2.1)),.d (.sc (.int .u8 ((x.2.2.2.2.2.2.2.2.2.2).toNat:Int)))],.row x.2.2.2.1.length (rz x.2.2.1 2)])
 | (.inr (.inr (.inr (.inr (.inr (.inr (.inr (.inl x))))))))=>(some 7,[.v (.c (.d (.lst x.1 (enL enB x.2.1)))),.v (.c (.ptr 0 0)),.v (.c (.own x.2.2.1 (enL enSS x.2.2.2.1) 1)),.v (.c (.d (.sc (.int .i64 x.2.2.2.2.1)))),.v (.c (.d (.sc (.int .i64 x.2.2.2.2.2.1)))),.v (.c (.d (.sc (.int .i64 x.2.2.2.2.2.2.1))))],[.cells [.d (.lst x.2.2.2.2.2.2.2.1 (enL enB x.2.2.2.2.2.2.2.2.1)),.d (.sc (.int .i64 x.2.2.2.2.2.2.2.2.2.1)),.d (.sc (.int .u8 ((x.2.2.2.2.2.2.2.2.2.2).toNat:Int)))],.row x.2.2.2.1.length (rz x.2.2.1 2)])
 | (.inr (.inr (.inr (.inr (.inr (.inr (.inr (.inr x))))))))=>(some 0,[.v (.c (.d (.lst x.1 (enL enB x.2.1)))),.v (.c (.ptr 0 0)),.v (.c (.own x.2.2.1 (enL enSS x.2.2.2.1) 1)),.v (.c (.d (.sc (.int .i64 x.2.2.2.2.1)))),.v (.c (.d (.sc (.int .i64 x.2.2.2.2.2.1)))),.v (.c (.d (.sc (.int .i64 x.2.2.2.2.2.2.1))))],[.cells [.d (.lst x.2.2.2.2.2.2.2.1 (enL enB x.2.2.2.2.2.2.2.2.1)),.d (.sc (.int .i64 x.2.2.2.2.2.2.2.2.2.1)),.d (.sc (.int .u8 ((x.2.2.2.2.2.2.2.2.2.2).toNat:Int)))],.row x.2.2.2.1.length (rz x.2.2.1 2)])
def j47_63 (b0_0:Bool) (b0_1:List UInt8) (from7 to8 e9:Int) (h0_0_0:Bool) (h0_0_1:List UInt8) (h0_1:Int) (h0_2:UInt8):Option (((Bool×List UInt8) ⊕ (Bool×List UInt8×Bool×List (Bs×Bs)×Int×Int×Int×Bool×List UInt8×Int×UInt8) ⊕ (Bool×List UInt8×Bool×List (Bs×Bs)×Int×Int×Int×Bool×List UInt8×Int×UInt8) ⊕ (Bool×List UInt8×Bool×List (Bs×Bs)×Int×Int×Int×Bool×List UInt8×Int×UInt8) ⊕ (Bool×List UInt8×Bool×List (Bs×Bs)×Int×Int×Int×Bool×List UInt8×Int×UInt8) ⊕ (Bool×List UInt8×Bool×List (Bs×Bs)×Int×Int×Int×Bool×List UInt8×Int×UInt8) ⊕ (Bool×List UInt8×Bool×List (Bs×Bs)×Int×Int×Int×Bool×List UInt8×Int×UInt8) ⊕ (Bool×List UInt8×Bool×List (Bs×Bs)×Int×Int×Int×Bool×List UInt8×Int×UInt8) ⊕ (Bool×List UInt8×Bool×List (Bs×Bs)×Int×Int×Int×Bool×List UInt8×Int×UInt8)) ⊕ R47):=
 some (.inl (.inr (.inr (.inr (.inr (.inl (b0_0,b0_1,true,([]:List (Bs×Bs)),from7,to8,e9,h0_0_0,h0_0_1,h0_1,h0_2)))))))
theorem j47_63_t (b0_0:Bool) (b0_1:List UInt8) (from7 to8 e9:Int) (h0_0_0:Bool) (h0_0_1:List UInt8) (h0_1:Int) (h0_2:UInt8)  (sl:Nat→AV) (zq0:sl 0 = .v (.c (.d (.lst b0_0 (enL enB b0_1))))) (zq5:sl 5 = .v (.c (.ptr 0 0))) (zq6:sl 6 = .v (.c (.d (.lst true [])))) (zq7:sl 7 = .v (.c (.d (.sc (.int .i64 from7))))) (zq8:sl 8 = .v (.c (.d (.sc (.int .i64 to8))))) (zq9:sl 9 = .v (.c (.d (.sc (.int .i64 e9))))):
  stepE (K47_2 (mm:=mm)) (scopeK 0 [(0,.keep),(5,.keep),(6,.own),(7,.keep),(8,.keep),(9,.keep)] c47_3 (den (E0 mm) 47 0 (callW (E0 mm)) itW c47_63 none ⟨sl,[.cells [.d (.lst h0_0_0 (enL enB h0_0_1)),.d (.sc (.int .i64 h0_1)),.d (.sc (.int .u8 ((h0_2).toNat:Int)))]]⟩)) = (j47_63 b0_0 b0_1 from7 to8 e9 h0_0_0 h0_0_1 h0_1 h0_2).map (sm en47_2 e47):=by
 simp -implicitDefEqProofs only [j47_63,c47_63_e,c47_64_e,(scopeK_g (show hasLabel c47_3 6 = true by kernel_rfl)),zq0,zq5,zq6,zq7,zq8,zq9,setA,setB,za,zb,zc,zd,ze,zf,zg,zh,zi,zj,zk,zl,zm,zn,zo,zp,reduceCtorEq,zE,↓reduceIte]
 all_goals rfl
def j47_60 (b0_0:Bool) (b0_1:List UInt8) (from7 to8 e9:Int) (t74 h0_0_0:Bool) (h0_0_1:List UInt8) (h0_1:Int) (h0_2:UInt8):Option (((Bool×List UInt8) ⊕ (Bool×List UInt8×Bool×List (Bs×Bs)×Int×Int×Int×Bool×List UInt8×Int×UInt8) ⊕ (Bool×List UInt8×Bool×List (Bs×Bs)×Int×Int×Int×Bool×List UInt8×Int×UInt8) ⊕ (Bool×List UInt8×Bool×List (Bs×Bs)×Int×Int×Int×Bool×List UInt8×Int×UInt8) ⊕ (Bool×List UInt8×Bool×List (Bs×Bs)×Int×Int×Int×Bool×List UInt8×Int×UInt8) ⊕ (Bool×List UInt8×Bool×List (Bs×Bs)×Int×Int×Int×Bool×List UInt8×Int×UInt8) ⊕ (Bool×List UInt8×Bool×List (Bs×Bs)×Int×Int×Int×Bool×List UInt8×Int×UInt8) ⊕ (Bool×List UInt8×Bool×List (Bs×Bs)×Int×Int×Int×Bool×List UInt8×Int×UInt8) ⊕ (Bool×List UInt8×Bool×List (Bs×Bs)×Int×Int×Int×Bool×List UInt8×Int×UInt8)) ⊕ R47):=
 if t74 = true then
  some (.inl (.inr (.inr (.inr (.inl (b0_0,b0_1,true,([]:List (Bs×Bs)),from7,to8,e9,h0_0_0,h0_0_1,h0_1,h0_2))))))
 else
  j47_63 b0_0 b0_1 from7 to8 e9 h0_0_0 h0_0_1 h0_1 h0_2
theorem j47_60_t (b0_0:Bool) (b0_1:List UInt8) (from7 to8 e9:Int) (t74 h0_0_0:Bool) (h0_0_1:List UInt8) (h0_1:Int) (h0_2:UInt8)  (sl:Nat→AV) (zq0:sl 0 = .v (.c (.d (.lst b0_0 (enL enB b0_1))))) (zq5:sl 5 = .v (.c (.ptr 0 0))) (zq6:sl 6 = .v (.c (.d (.lst true [])))) (zq7:sl 7 = .v (.c (.d (.sc (.int .i64 from7))))) (zq8:sl 8 = .v (.c (.d (.sc (.int .i64 to8))))) (zq9:sl 9 = .v (.c (.d (.sc (.int .i64 e9))))) (zq74:sl 74 = .v (.c (.d (.sc (.bool t74))))):
  stepE (K47_2 (mm:=mm)) (scopeK 0 [(0,.keep),(5,.keep),(6,.own),(7,.keep),(8,.keep),(9,.keep)] c47_3 (seqD (E0 mm) 47 0 (callW (E0 mm)) itW c47_63 (den (E0 mm) 47 0 (callW (E0 mm)) itW c47_60 none ⟨sl,[.cells [.d (.lst h0_0_0 (enL enB h0_0_1)),.d (.sc (.int .i64 h0_1)),.d (.sc (.int .u8 ((h0_2).toNat:Int)))]]⟩))) = (j47_60 b0_0 b0_1 from7 to8 e9 t74 h0_0_0 h0_0_1 h0_1 h0_2).map (sm en47_2 e47):=by
 simp -implicitDefEqProofs only [j47_60,(show c47_60 = Code.cond _ c47_61 c47_62 from rfl),zq0,zq5,zq6,zq7,zq8,zq9,zq74,setA,setB,za,zb,zc,zd,ze,zf,zg,zh,zi,zj,zk,zl,zm,zn,zo,zp,reduceCtorEq,zE,↓reduceIte]
 refine brB (fun yc14=>?_) (fun yc14=>?_)
 ·simp -implicitDefEqProofs only [c47_61_e,(scopeK_g (show hasLabel c47_3 3 = true by kernel_rfl)),zq0,zq5,zq6,zq7,zq8,zq9,zq74,yc14,setA,setB,za,zb,zc,zd,ze,zf,zg,zh,zi,zj,zk,zl,zm,zn,zo,zp,reduceCtorEq,zE,↓reduceIte]
  all_goals rfl
 ·simp -implicitDefEqProofs only [c47_62_e,zq0,zq5,zq6,zq7,zq8,zq9,zq74,yc14,setA,setB,za,zb,zc,zd,ze,zf,zg,zh,zi,zj,zk,zl,zm,zn,zo,zp,reduceCtorEq,zE,↓reduceIte]
  exact j47_63_t b0_0 b0_1 from7 to8 e9 h0_0_0 h0_0_1 h0_1 h0_2 _ (by exact zq0) (by exact zq5) (by exact zq6) (by exact zq7) (by exact zq8) (by exact zq9)
def j47_57 (b0_0:Bool) (b0_1:List UInt8) (from7 to8 e9:Int) (h0_0_0:Bool) (h0_0_1:List UInt8) (h0_1:Int) (h0_2:UInt8):Option (((Bool×List UInt8) ⊕ (Bool×List UInt8×Bool×List (Bs×Bs)×Int×Int×Int×Bool×List UInt8×Int×UInt8) ⊕ (Bool×List UInt8×Bool×List (Bs×Bs)×Int×Int×Int×Bool×List UInt8×Int×UInt8) ⊕ (Bool×List UInt8×Bool×List (Bs×Bs)×Int×Int×Int×Bool×List UInt8×Int×UInt8) ⊕ (Bool×List UInt8×Bool×List (Bs×Bs)×Int×Int×Int×Bool×List UInt8×Int×UInt8) ⊕ (Bool×List UInt8×Bool×List (Bs×Bs)×Int×Int×Int×Bool×List UInt8×Int×UInt8) ⊕ (Bool×List UInt8×Bool×List (Bs×Bs)×Int×Int×Int×Bool×List UInt8×Int×UInt8) ⊕ (Bool×List UInt8×Bool×List (Bs×Bs)×Int×Int×Int×Bool×List UInt8×Int×UInt8) ⊕ (Bool×List UInt8×Bool×List (Bs×Bs)×Int×Int×Int×Bool×List UInt8×Int×UInt8)) ⊕ R47):=
 if (h0_2 == (13:UInt8)) = true then
  j47_60 b0_0 b0_1 from7 to8 e9 false h0_0_0 h0_0_1 h0_1 h0_2
 else
  j47_60 b0_0 b0_1 from7 to8 e9 (decide (512 < (w64 (h0_1 - from7)))) h0_0_0 h0_0_1 h0_1 h0_2
theorem j47_57_t (b0_0:Bool) (b0_1:List UInt8) (from7 to8 e9:Int) (h0_0_0:Bool) (h0_0_1:List UInt8) (h0_1:Int) (h0_2:UInt8)  (sl:Nat→AV) (zq0:sl 0 = .v (.c (.d (.lst b0_0 (enL enB b0_1))))) (zq5:sl 5 = .v (.c (.ptr 0 0))) (zq6:sl 6 = .v (.c (.d (.lst true [])))) (zq7:sl 7 = .v (.c (.d (.sc (.int .i64 from7))))) (zq8:sl 8 = .v (.c (.d (.sc (.int .i64 to8))))) (zq9:sl 9 = .v (.c (.d (.sc (.int .i64 e9))))):
  stepE (K47_2 (mm:=mm)) (scopeK 0 [(0,.keep),(5,.keep),(6,.own),(7,.keep),(8,.keep),(9,.keep)] c47_3 (den (E0 mm) 47 0 (callW (E0 mm)) itW c47_57 none ⟨sl,[.cells [.d (.lst h0_0_0 (enL enB h0_0_1)),.d (.sc (.int .i64 h0_1)),.d (.sc (.int .u8 ((h0_2).toNat:Int)))]]⟩)) = (j47_57 b0_0 b0_1 from7 to8 e9 h0_0_0 h0_0_1 h0_1 h0_2).map (sm en47_2 e47):=by
 simp -implicitDefEqProofs only [j47_57,c47_57_e,c47_58_e,c47_59_r,(show opsOf c47_59 = _ :: _ from rfl),Tryz.underlying135,sz5,ag5,zq0,zq5,zq6,zq7,zq8,zq9,setA,setB,za,zb,zc,zd,ze,zf,zg,zh,zi,zj,zk,zl,zm,zn,zo,zp,reduceCtorEq,zE,↓reduceIte]
 refine brB (fun yc13=>?_) (fun yc13=>?_)
 ·simp -implicitDefEqProofs only [zq0,zq5,zq6,zq7,zq8,zq9,yc13,setA,setB,za,zb,zc,zd,ze,zf,zg,zh,zi,zj,zk,zl,zm,zn,zo,zp,reduceCtorEq,zE,↓reduceIte]
  exact j47_60_t b0_0 b0_1 from7 to8 e9 false h0_0_0 h0_0_1 h0_1 h0_2 _ (by exact zq0) (by exact zq5) (by exact zq6) (by exact zq7) (by exact zq8) (by exact zq9) (by rfl)
 ·simp -implicitDefEqProofs only [Tryz.underlying135,sz3,ag3,zq0,zq5,zq6,zq7,zq8,zq9,yc13,setA,setB,za,zb,zc,zd,ze,zf,zg,zh,zi,zj,zk,zl,zm,zn,zo,zp,reduceCtorEq,zE,↓reduceIte]
  exact j47_60_t b0_0 b0_1 from7 to8 e9 (decide (512 < (w64 (h0_1 - from7)))) h0_0_0 h0_0_1 h0_1 h0_2 _ (by exact zq0) (by exact zq5) (by exact zq6) (by exact zq7) (by exact zq8) (by exact zq9) (by rfl)
def j47_49 (b0_0:Bool) (b0_1:List UInt8) (from7 to8:Int) (h0_0_0:Bool) (h0_0_1:List UInt8) (h0_1:Int) (h0_2:UInt8):Option (((Bool×List UInt8) ⊕ (Bool×List UInt8×Bool×List (Bs×Bs)×Int×Int×Int×Bool×List UInt8×Int×UInt8) ⊕ (Bool×List UInt8×Bool×List (Bs×Bs)×Int×Int×Int×Bool×List UInt8×Int×UInt8) ⊕ (Bool×List UInt8×Bool×List (Bs×Bs)×Int×Int×Int×Bool×List UInt8×Int×UInt8) ⊕ (Bool×List UInt8×Bool×List (Bs×Bs)×Int×Int×Int×Bool×List UInt8×Int×UInt8) ⊕ (Bool×List UInt8×Bool×List (Bs×Bs)×Int×Int×Int×Bool×List UInt8×Int×UInt8) ⊕ (Bool×List UInt8×Bool×List (Bs×Bs)×Int×Int×Int×Bool×List UInt8×Int×UInt8) ⊕ (Bool×List UInt8×Bool×List (Bs×Bs)×Int×Int×Int×Bool×List UInt8×Int×UInt8) ⊕ (Bool×List UInt8×Bool×List (Bs×Bs)×Int×Int×Int×Bool×List UInt8×Int×UInt8)) ⊕ R47):=
 (m79 h0_0_0 h0_0_1 h0_1 h0_2).bind fun yr11=>
  if (yr11.1 == 0) = true then
   j47_57 b0_0 b0_1 from7 to8 yr11.1 yr11.2.1 yr11.2.2.1 yr11.2.2.2.1 yr11.2.2.2.2
  else
   some (.inl (.inr (.inr (.inr (.inr (.inr (.inl (b0_0,b0_1,true,([]:List (Bs×Bs)),from7,to8,yr11.1,yr11.2.1,yr11.2.2.1,yr11.2.2.2.1,yr11.2.2.2.2))))))))
theorem j47_49_t (b0_0:Bool) (b0_1:List UInt8) (from7 to8:Int) (h0_0_0:Bool) (h0_0_1:List UInt8) (h0_1:Int) (h0_2:UInt8)  (sl:Nat→AV) (zq0:sl 0 = .v (.c (.d (.lst b0_0 (enL enB b0_1))))) (zq5:sl 5 = .v (.c (.ptr 0 0))) (zq6:sl 6 = .v (.c (.d (.lst true [])))) (zq7:sl 7 = .v (.c (.d (.sc (.int .i64 from7))))) (zq8:sl 8 = .v (.c (.d (.sc (.int .i64 to8))))):
  stepE (K47_2 (mm:=mm)) (scopeK 0 [(0,.keep),(5,.keep),(6,.own),(7,.keep),(8,.keep),(9,.keep)] c47_3 (den (E0 mm) 47 0 (callW (E0 mm)) itW c47_49 none ⟨sl,[.cells [.d (.lst h0_0_0 (enL enB h0_0_1)),.d (.sc (.int .i64 h0_1)),.d (.sc (.int .u8 ((h0_2).toNat:Int)))]]⟩)) = (j47_49 b0_0 b0_1 from7 to8 h0_0_0 h0_0_1 h0_1 h0_2).map (sm en47_2 e47):=by
 simp -implicitDefEqProofs only [j47_49,c47_49_e,c47_50_e,c47_51_r,(show opsOf c47_51 = _ :: _ from rfl),ent79,prm79,f79_t,zq0,zq5,zq6,zq7,zq8,setA,setB,za,zb,zc,zd,ze,zf,zg,zh,zi,zj,zk,zl,zm,zn,zo,zp,reduceCtorEq,zE,↓reduceIte]
 refine brM (fun yc10=>?_) (fun yr11 yc10=>?_)
 ·rw [yc10]; rfl
 ·simp -implicitDefEqProofs only [e79,c47_52_e,c47_53_r,(show opsOf c47_53 = _ :: _ from rfl),(show c47_54 = Code.cond _ c47_55 c47_56 from rfl),zq0,zq5,zq6,zq7,zq8,yc10,setA,setB,za,zb,zc,zd,ze,zf,zg,zh,zi,zj,zk,zl,zm,zn,zo,zp,reduceCtorEq,zE,↓reduceIte]
  refine brB (fun yc12=>?_) (fun yc12=>?_)
  ·simp -implicitDefEqProofs only [c47_56_e,zq0,zq5,zq6,zq7,zq8,yc10,yc12,setA,setB,za,zb,zc,zd,ze,zf,zg,zh,zi,zj,zk,zl,zm,zn,zo,zp,reduceCtorEq,zE,↓reduceIte]
   exact j47_57_t b0_0 b0_1 from7 to8 yr11.1 yr11.2.1 yr11.2.2.1 yr11.2.2.2.1 yr11.2.2.2.2 _ (by exact zq0) (by exact zq5) (by exact zq6) (by exact zq7) (by exact zq8) (by rfl)
  ·simp -implicitDefEqProofs only [c47_55_e,(scopeK_g (show hasLabel c47_3 1 = true by kernel_rfl)),zq0,zq5,zq6,zq7,zq8,yc10,yc12,setA,setB,za,zb,zc,zd,ze,zf,zg,zh,zi,zj,zk,zl,zm,zn,zo,zp,reduceCtorEq,zE,↓reduceIte]
   all_goals rfl
def j47_40 (b0_0:Bool) (b0_1:List UInt8) (from7 to8 e9:Int) (t31 h0_0_0:Bool) (h0_0_1:List UInt8) (h0_1:Int) (h0_2:UInt8):Option (((Bool×List UInt8) ⊕ (Bool×List UInt8×Bool×List (Bs×Bs)×Int×Int×Int×Bool×List UInt8×Int×UInt8) ⊕ (Bool×List UInt8×Bool×List (Bs×Bs)×Int×Int×Int×Bool×List UInt8×Int×UInt8) ⊕ (Bool×List UInt8×Bool×List (Bs×Bs)×Int×Int×Int×Bool×List UInt8×Int×UInt8) ⊕ (Bool×List UInt8×Bool×List (Bs×Bs)×Int×Int×Int×Bool×List UInt8×Int×UInt8) ⊕ (Bool×List UInt8×Bool×List (Bs×Bs)×Int×Int×Int×Bool×List UInt8×Int×UInt8) ⊕ (Bool×List UInt8×Bool×List (Bs×Bs)×Int×Int×Int×Bool×List UInt8×Int×UInt8) ⊕ (Bool×List UInt8×Bool×List (Bs×Bs)×Int×Int×Int×Bool×List UInt8×Int×UInt8) ⊕ (Bool×List UInt8×Bool×List (Bs×Bs)×Int×Int×Int×Bool×List UInt8×Int×UInt8)) ⊕ R47):=
 if t31 = true then
  some (.inl (.inr (.inr (.inl (b0_0,b0_1,true,([]:List (Bs×Bs)),from7,h0_1,e9,h0_0_0,h0_0_1,h0_1,h0_2)))))
 else
  (m80 h0_2).bind fun yr8=>
   if yr8 = true then
    j47_49 b0_0 b0_1 from7 to8 h0_0_0 h0_0_1 h0_1 h0_2
   else
    some (.inl (.inr (.inr (.inr (.inr (.inr (.inr (.inl (b0_0,b0_1,true,([]:List (Bs×Bs)),from7,to8,e9,h0_0_0,h0_0_1,h0_1,h0_2)))))))))
theorem j47_40_t (b0_0:Bool) (b0_1:List UInt8) (from7 to8 e9:Int) (t31 h0_0_0:Bool) (h0_0_1:List UInt8) (h0_1:Int) (h0_2:UInt8)  (sl:Nat→AV) (zq0:sl 0 = .v (.c (.d (.lst b0_0 (enL enB b0_1))))) (zq5:sl 5 = .v (.c (.ptr 0 0))) (zq6:sl 6 = .v (.c (.d (.lst true [])))) (zq7:sl 7 = .v (.c (.d (.sc (.int .i64 from7))))) (zq8:sl 8 = .v (.c (.d (.sc (.int .i64 to8))))) (zq9:sl 9 = .v (.c (.d (.sc (.int .i64 e9))))) (zq31:sl 31 = .v (.c (.d (.sc (.bool t31))))):
  stepE (K47_2 (mm:=mm)) (scopeK 0 [(0,.keep),(5,.keep),(6,.own),(7,.keep),(8,.keep),(9,.keep)] c47_3 (seqD (E0 mm) 47 0 (callW (E0 mm)) itW c47_49 (blockD 1 (den (E0 mm) 47 0 (callW (E0 mm)) itW c47_40 none ⟨sl,[.cells [.d (.lst h0_0_0 (enL enB h0_0_1)),.d (.sc (.int .i64 h0_1)),.d (.sc (.int .u8 ((h0_2).toNat:Int)))]]⟩)))) = (j47_40 b0_0 b0_1 from7 to8 e9 t31 h0_0_0 h0_0_1 h0_1 h0_2).map (sm en47_2 e47):=by
 simp -implicitDefEqProofs only [j47_40,(show c47_40 = Code.cond _ c47_41 c47_44 from rfl),zq0,zq5,zq6,zq7,zq8,zq9,zq31,setA,setB,za,zb,zc,zd,ze,zf,zg,zh,zi,zj,zk,zl,zm,zn,zo,zp,reduceCtorEq,zE,↓reduceIte]
 refine brB (fun yc6=>?_) (fun yc6=>?_)
 ·simp -implicitDefEqProofs only [c47_41_e,c47_42_r,(show opsOf c47_42 = _ :: _ from rfl),Tryz.underlying135,sz3,ag3,c47_43_e,(scopeK_g (show hasLabel c47_3 4 = true by kernel_rfl)),zq0,zq5,zq6,zq7,zq8,zq9,zq31,yc6,setA,setB,za,zb,zc,zd,ze,zf,zg,zh,zi,zj,zk,zl,zm,zn,zo,zp,reduceCtorEq,zE,↓reduceIte]
  all_goals rfl
 ·simp -implicitDefEqProofs only [c47_44_e,c47_45_r,(show opsOf c47_45 = _ :: _ from rfl),Tryz.underlying135,sz5,ag5,ent80,prm80,f80_t,zq0,zq5,zq6,zq7,zq8,zq9,zq31,yc6,setA,setB,za,zb,zc,zd,ze,zf,zg,zh,zi,zj,zk,zl,zm,zn,zo,zp,reduceCtorEq,zE,↓reduceIte]
  refine brM (fun yc7=>?_) (fun yr8 yc7=>?_)
  ·rw [yc7]; rfl
  ·simp -implicitDefEqProofs only [e80,(show c47_46 = Code.cond _ c47_47 c47_48 from rfl),zq0,zq5,zq6,zq7,zq8,zq9,zq31,yc6,yc7,setA,setB,za,zb,zc,zd,ze,zf,zg,zh,zi,zj,zk,zl,zm,zn,zo,zp,reduceCtorEq,zE,↓reduceIte]
   refine brB (fun yc9=>?_) (fun yc9=>?_)
   ·simp -implicitDefEqProofs only [c47_48_e,zq0,zq5,zq6,zq7,zq8,zq9,zq31,yc6,yc7,yc9,setA,setB,za,zb,zc,zd,ze,zf,zg,zh,zi,zj,zk,zl,zm,zn,zo,zp,reduceCtorEq,zE,↓reduceIte]
    exact j47_49_t b0_0 b0_1 from7 to8 h0_0_0 h0_0_1 h0_1 h0_2 _ (by exact zq0) (by exact zq5) (by exact zq6) (by exact zq7) (by exact zq8)
   ·simp -implicitDefEqProofs only [c47_47_e,(scopeK_g (show hasLabel c47_3 5 = true by kernel_rfl)),zq0,zq5,zq6,zq7,zq8,zq9,zq31,yc6,yc7,yc9,setA,setB,za,zb,zc,zd,ze,zf,zg,zh,zi,zj,zk,zl,zm,zn,zo,zp,reduceCtorEq,zE,↓reduceIte]
    all_goals rfl
def j47_34 (b0_0:Bool) (b0_1:List UInt8) (from7 to8 e9:Int) (h0_0_0:Bool) (h0_0_1:List UInt8) (h0_1:Int) (h0_2:UInt8):Option (((Bool×List UInt8) ⊕ (Bool×List UInt8×Bool×List (Bs×Bs)×Int×Int×Int×Bool×List UInt8×Int×UInt8) ⊕ (Bool×List UInt8×Bool×List (Bs×Bs)×Int×Int×Int×Bool×List UInt8×Int×UInt8) ⊕ (Bool×List UInt8×Bool×List (Bs×Bs)×Int×Int×Int×Bool×List UInt8×Int×UInt8) ⊕ (Bool×List UInt8×Bool×List (Bs×Bs)×Int×Int×Int×Bool×List UInt8×Int×UInt8) ⊕ (Bool×List UInt8×Bool×List (Bs×Bs)×Int×Int×Int×Bool×List UInt8×Int×UInt8) ⊕ (Bool×List UInt8×Bool×List (Bs×Bs)×Int×Int×Int×Bool×List UInt8×Int×UInt8) ⊕ (Bool×List UInt8×Bool×List (Bs×Bs)×Int×Int×Int×Bool×List UInt8×Int×UInt8) ⊕ (Bool×List UInt8×Bool×List (Bs×Bs)×Int×Int×Int×Bool×List UInt8×Int×UInt8)) ⊕ R47):=
 if (h0_2 == (58:UInt8)) = true then
  j47_40 b0_0 b0_1 from7 to8 e9 (decide ((w64 (from7 + 1)) < h0_1)) h0_0_0 h0_0_1 h0_1 h0_2
 else
  j47_40 b0_0 b0_1 from7 to8 e9 false h0_0_0 h0_0_1 h0_1 h0_2
theorem j47_34_t (b0_0:Bool) (b0_1:List UInt8) (from7 to8 e9:Int) (h0_0_0:Bool) (h0_0_1:List UInt8) (h0_1:Int) (h0_2:UInt8)  (sl:Nat→AV) (zq0:sl 0 = .v (.c (.d (.lst b0_0 (enL enB b0_1))))) (zq5:sl 5 = .v (.c (.ptr 0 0))) (zq6:sl 6 = .v (.c (.d (.lst true [])))) (zq7:sl 7 = .v (.c (.d (.sc (.int .i64 from7))))) (zq8:sl 8 = .v (.c (.d (.sc (.int .i64 to8))))) (zq9:sl 9 = .v (.c (.d (.sc (.int .i64 e9))))):
  stepE (K47_2 (mm:=mm)) (scopeK 0 [(0,.keep),(5,.keep),(6,.own),(7,.keep),(8,.keep),(9,.keep)] c47_3 (den (E0 mm) 47 0 (callW (E0 mm)) itW c47_34 none ⟨sl,[.cells [.d (.lst h0_0_0 (enL enB h0_0_1)),.d (.sc (.int .i64 h0_1)),.d (.sc (.int .u8 ((h0_2).toNat:Int)))]]⟩)) = (j47_34 b0_0 b0_1 from7 to8 e9 h0_0_0 h0_0_1 h0_1 h0_2).map (sm en47_2 e47):=by
 simp -implicitDefEqProofs only [j47_34,c47_34_e,c47_35_e,den_label_n,c47_36_e,c47_37_e,c47_38_e,c47_39_r,(show opsOf c47_39 = _ :: _ from rfl),Tryz.underlying135,sz5,ag5,zq0,zq5,zq6,zq7,zq8,zq9,setA,setB,za,zb,zc,zd,ze,zf,zg,zh,zi,zj,zk,zl,zm,zn,zo,zp,reduceCtorEq,zE,↓reduceIte]
 refine brB (fun yc5=>?_) (fun yc5=>?_)
 ·simp -implicitDefEqProofs only [Tryz.underlying135,sz3,ag3,zq0,zq5,zq6,zq7,zq8,zq9,yc5,setA,setB,za,zb,zc,zd,ze,zf,zg,zh,zi,zj,zk,zl,zm,zn,zo,zp,reduceCtorEq,zE,↓reduceIte]
  exact j47_40_t b0_0 b0_1 from7 to8 e9 (decide ((w64 (from7 + 1)) < h0_1)) h0_0_0 h0_0_1 h0_1 h0_2 _ (by exact zq0) (by exact zq5) (by exact zq6) (by exact zq7) (by exact zq8) (by exact zq9) (by rfl)
 ·simp -implicitDefEqProofs only [zq0,zq5,zq6,zq7,zq8,zq9,yc5,setA,setB,za,zb,zc,zd,ze,zf,zg,zh,zi,zj,zk,zl,zm,zn,zo,zp,reduceCtorEq,zE,↓reduceIte]
  exact j47_40_t b0_0 b0_1 from7 to8 e9 false h0_0_0 h0_0_1 h0_1 h0_2 _ (by exact zq0) (by exact zq5) (by exact zq6) (by exact zq7) (by exact zq8) (by exact zq9) (by rfl)
def j47_23 (b0_0:Bool) (b0_1:List UInt8) (from7 to8 e9:Int) (h0_0_0:Bool) (h0_0_1:List UInt8) (h0_1:Int) (h0_2:UInt8):Option (((Bool×List UInt8) ⊕ (Bool×List UInt8×Bool×List (Bs×Bs)×Int×Int×Int×Bool×List UInt8×Int×UInt8) ⊕ (Bool×List UInt8×Bool×List (Bs×Bs)×Int×Int×Int×Bool×List UInt8×Int×UInt8) ⊕ (Bool×List UInt8×Bool×List (Bs×Bs)×Int×Int×Int×Bool×List UInt8×Int×UInt8) ⊕ (Bool×List UInt8×Bool×List (Bs×Bs)×Int×Int×Int×Bool×List UInt8×Int×UInt8) ⊕ (Bool×List UInt8×Bool×List (Bs×Bs)×Int×Int×Int×Bool×List UInt8×Int×UInt8) ⊕ (Bool×List UInt8×Bool×List (Bs×Bs)×Int×Int×Int×Bool×List UInt8×Int×UInt8) ⊕ (Bool×List UInt8×Bool×List (Bs×Bs)×Int×Int×Int×Bool×List UInt8×Int×UInt8) ⊕ (Bool×List UInt8×Bool×List (Bs×Bs)×Int×Int×Int×Bool×List UInt8×Int×UInt8)) ⊕ R47):=
 if (h0_2 == (13:UInt8)) = true then
  some (.inl (.inr (.inl (b0_0,b0_1,true,([]:List (Bs×Bs)),from7,to8,e9,h0_0_0,h0_0_1,h0_1,h0_2))))
 else
  j47_34 b0_0 b0_1 from7 to8 e9 h0_0_0 h0_0_1 h0_1 h0_2
theorem j47_23_t (b0_0:Bool) (b0_1:List UInt8) (from7 to8 e9:Int) (h0_0_0:Bool) (h0_0_1:List UInt8) (h0_1:Int) (h0_2:UInt8)  (sl:Nat→AV) (zq0:sl 0 = .v (.c (.d (.lst b0_0 (enL enB b0_1))))) (zq5:sl 5 = .v (.c (.ptr 0 0))) (zq6:sl 6 = .v (.c (.d (.lst true [])))) (zq7:sl 7 = .v (.c (.d (.sc (.int .i64 from7))))) (zq8:sl 8 = .v (.c (.d (.sc (.int .i64 to8))))) (zq9:sl 9 = .v (.c (.d (.sc (.int .i64 e9))))):
  stepE (K47_2 (mm:=mm)) (scopeK 0 [(0,.keep),(5,.keep),(6,.own),(7,.keep),(8,.keep),(9,.keep)] c47_3 (den (E0 mm) 47 0 (callW (E0 mm)) itW c47_23 none ⟨sl,[.cells [.d (.lst h0_0_0 (enL enB h0_0_1)),.d (.sc (.int .i64 h0_1)),.d (.sc (.int .u8 ((h0_2).toNat:Int)))]]⟩)) = (j47_23 b0_0 b0_1 from7 to8 e9 h0_0_0 h0_0_1 h0_1 h0_2).map (sm en47_2 e47):=by
 simp -implicitDefEqProofs only [j47_23,c47_23_e,c47_24_e,c47_25_e,c47_26_r,(show opsOf c47_26 = _ :: _ from rfl),Tryz.underlying135,sz5,ag5,(show c47_27 = Code.cond _ c47_28 c47_29 from rfl),zq0,zq5,zq6,zq7,zq8,zq9,setA,setB,za,zb,zc,zd,ze,zf,zg,zh,zi,zj,zk,zl,zm,zn,zo,zp,reduceCtorEq,zE,↓reduceIte]
 refine brB (fun yc4=>?_) (fun yc4=>?_)
 ·simp -implicitDefEqProofs only [c47_28_e,(scopeK_g (show hasLabel c47_3 2 = true by kernel_rfl)),zq0,zq5,zq6,zq7,zq8,zq9,yc4,setA,setB,za,zb,zc,zd,ze,zf,zg,zh,zi,zj,zk,zl,zm,zn,zo,zp,reduceCtorEq,zE,↓reduceIte]
  all_goals rfl
 ·simp -implicitDefEqProofs only [c47_29_e,c47_30_r,(show opsOf c47_30 = _ :: _ from rfl),Tryz.underlying23,(show c47_31 = Code.cond _ c47_32 c47_33 from rfl),c47_33_e,zq0,zq5,zq6,zq7,zq8,zq9,yc4,setA,setB,za,zb,zc,zd,ze,zf,zg,zh,zi,zj,zk,zl,zm,zn,zo,zp,reduceCtorEq,zE,↓reduceIte]
  exact j47_34_t b0_0 b0_1 from7 to8 e9 h0_0_0 h0_0_1 h0_1 h0_2 _ (by exact zq0) (by exact zq5) (by exact zq6) (by exact zq7) (by exact zq8) (by exact zq9)
def s47_2x0 (b0_0:Bool) (b0_1:List UInt8):Option (((Bool×List UInt8) ⊕ (Bool×List UInt8×Bool×List (Bs×Bs)×Int×Int×Int×Bool×List UInt8×Int×UInt8) ⊕ (Bool×List UInt8×Bool×List (Bs×Bs)×Int×Int×Int×Bool×List UInt8×Int×UInt8) ⊕ (Bool×List UInt8×Bool×List (Bs×Bs)×Int×Int×Int×Bool×List UInt8×Int×UInt8) ⊕ (Bool×List UInt8×Bool×List (Bs×Bs)×Int×Int×Int×Bool×List UInt8×Int×UInt8) ⊕ (Bool×List UInt8×Bool×List (Bs×Bs)×Int×Int×Int×Bool×List UInt8×Int×UInt8) ⊕ (Bool×List UInt8×Bool×List (Bs×Bs)×Int×Int×Int×Bool×List UInt8×Int×UInt8) ⊕ (Bool×List UInt8×Bool×List (Bs×Bs)×Int×Int×Int×Bool×List UInt8×Int×UInt8) ⊕ (Bool×List UInt8×Bool×List (Bs×Bs)×Int×Int×Int×Bool×List UInt8×Int×UInt8)) ⊕ R47):=
 (m79 b0_0 b0_1 (0:Int) (0:UInt8)).bind fun yr2=>
  if (yr2.1 == 0) = true then
   j47_23 b0_0 b0_1 (0:Int) (0:Int) yr2.1 yr2.2.1 yr2.2.2.1 yr2.2.2.2.1 yr2.2.2.2.2
  else
   some (.inl (.inr (.inr (.inr (.inr (.inr (.inl (b0_0,b0_1,true,([]:List (Bs×Bs)),(0:Int),(0:Int),yr2.1,yr2.2.1,yr2.2.2.1,yr2.2.2.2.1,yr2.2.2.2.2))))))))
theorem s47_2x0_t (b0_0:Bool) (b0_1:List UInt8):
  stepE (K47_2 (mm:=mm)) (scopeF (E0 mm) 47 0 (callW (E0 mm)) itW c47_3 [(0,.keep),(5,.keep),(6,.own),(7,.keep),(8,.keep),(9,.keep)] (none,[.v (.c (.d (.lst b0_0 (enL enB b0_1)))),.dead,.dead,.dead,.dead,.dead],[])) = (s47_2x0 b0_0 b0_1).map (sm en47_2 e47):=by
 simp -implicitDefEqProofs only [s47_2x0,scopeF_eq,(show ∀ f st,den (E0 mm) 47 0 (callW (E0 mm)) itW c47_3 f st = den (E0 mm) 47 0 (callW (E0 mm)) itW (.seq c47_4 c47_5) f st from fun _ _=>rfl),c47_4_r,(show opsOf c47_4 = _ :: _ from rfl),Tryz.underlying135,zc135,sz22,sz3,sz5,c47_5_e,c47_6_r,(show opsOf c47_6 = _ :: _ from rfl),c47_7_e,c47_8_r,(show opsOf c47_8 = _ :: _ from rfl),c47_9_e,c47_10_r,(show opsOf c47_10 = _ :: _ from rfl),c47_11_e,c47_12_e,den_label_n,c47_13_e,c47_14_r,(show opsOf c47_14 = _ :: _ from rfl),ag3,c47_15_e,c47_16_e,c47_17_r,(show opsOf c47_17 = _ :: _ from rfl),ent79,prm79,f79_t,setA,setB,za,zb,zc,zd,ze,zf,zg,zh,zi,zj,zk,zl,zm,zn,zo,zp,reduceCtorEq,zE,↓reduceIte]
 refine brM (fun yc1=>?_) (fun yr2 yc1=>?_)
 ·rw [yc1]; rfl
 ·simp -implicitDefEqProofs only [e79,c47_18_e,c47_19_r,(show opsOf c47_19 = _ :: _ from rfl),(show c47_20 = Code.cond _ c47_21 c47_22 from rfl),yc1,setA,setB,za,zb,zc,zd,ze,zf,zg,zh,zi,zj,zk,zl,zm,zn,zo,zp,reduceCtorEq,zE,↓reduceIte]
  refine brB (fun yc3=>?_) (fun yc3=>?_)
  ·simp -implicitDefEqProofs only [c47_22_e,yc1,yc3,setA,setB,za,zb,zc,zd,ze,zf,zg,zh,zi,zj,zk,zl,zm,zn,zo,zp,reduceCtorEq,zE,↓reduceIte]
   exact j47_23_t b0_0 b0_1 (0:Int) (0:Int) yr2.1 yr2.2.1 yr2.2.2.1 yr2.2.2.2.1 yr2.2.2.2.2 _ (by rfl) (by rfl) (by rfl) (by rfl) (by rfl) (by rfl)
  ·simp -implicitDefEqProofs only [c47_21_e,(scopeK_g (show hasLabel c47_3 1 = true by kernel_rfl)),yc1,yc3,setA,setB,za,zb,zc,zd,ze,zf,zg,zh,zi,zj,zk,zl,zm,zn,zo,zp,reduceCtorEq,zE,↓reduceIte]
   all_goals rfl
def s47_2x1 (b0_0:Bool) (b0_1:List UInt8) (l6_0:Bool) (l6_1:List (Bs×Bs)) (from7 to8 e9:Int) (h0_0_0:Bool) (h0_0_1:List UInt8) (h0_1:Int) (h0_2:UInt8):Option (((Bool×List UInt8) ⊕ (Bool×List UInt8×Bool×List (Bs×Bs)×Int×Int×Int×Bool×List UInt8×Int×UInt8) ⊕ (Bool×List UInt8×Bool×List (Bs×Bs)×Int×Int×Int×Bool×List UInt8×Int×UInt8) ⊕ (Bool×List UInt8×Bool×List (Bs×Bs)×Int×Int×Int×Bool×List UInt8×Int×UInt8) ⊕ (Bool×List UInt8×Bool×List (Bs×Bs)×Int×Int×Int×Bool×List UInt8×Int×UInt8) ⊕ (Bool×List UInt8×Bool×List (Bs×Bs)×Int×Int×Int×Bool×List UInt8×Int×UInt8) ⊕ (Bool×List UInt8×Bool×List (Bs×Bs)×Int×Int×Int×Bool×List UInt8×Int×UInt8) ⊕ (Bool×List UInt8×Bool×List (Bs×Bs)×Int×Int×Int×Bool×List UInt8×Int×UInt8) ⊕ (Bool×List UInt8×Bool×List (Bs×Bs)×Int×Int×Int×Bool×List UInt8×Int×UInt8)) ⊕ R47):=
 (m79 h0_0_0 h0_0_1 h0_1 h0_2).bind fun yr16=>
  if (yr16.1 == 0) = true then
   if (yr16.2.2.2.2 == (10:UInt8)) = true then
    some (.inr (.inl (l6_0,l6_1,yr16.2.2.2.1,(0:Int))))
   else
    some (.inr (.inr (true,([]:List (Bs×Bs)),(0:Int),(20:Int))))
  else
   some (.inl (.inr (.inr (.inr (.inr (.inr (.inl (b0_0,b0_1,l6_0,l6_1,from7,to8,yr16.1,yr16.2.1,yr16.2.2.1,yr16.2.2.2.1,yr16.2.2.2.2))))))))
theorem s47_2x1_t (b0_0:Bool) (b0_1:List UInt8) (l6_0:Bool) (l6_1:List (Bs×Bs)) (from7 to8 e9:Int) (h0_0_0:Bool) (h0_0_1:List UInt8) (h0_1:Int) (h0_2:UInt8):
  stepE (K47_2 (mm:=mm)) (scopeF (E0 mm) 47 0 (callW (E0 mm)) itW c47_3 [(0,.keep),(5,.keep),(6,.own),(7,.keep),(8,.keep),(9,.keep)] (some 2,[.v (.c (.d (.lst b0_0 (enL enB b0_1)))),.v (.c (.ptr 0 0)),.v (.c (.own l6_0 (enL enSS l6_1) 1)),.v (.c (.d (.sc (.int .i64 from7)))),.v (.c (.d (.sc (.int .i64 to8)))),.v (.c (.d (.sc (.int .i64 e9))))],[.cells [.d (.lst h0_0_0 (enL enB h0_0_1)),.d (.sc (.int .i64 h0_1)),.d (.sc (.int .u8 ((h0_2).toNat:Int)))],.row l6_1.length (rz l6_0 2)])) = (s47_2x1 b0_0 b0_1 l6_0 l6_1 from7 to8 e9 h0_0_0 h0_0_1 h0_1 h0_2).map (sm en47_2 e47):=by
 simp -implicitDefEqProofs only [s47_2x1,scopeF_eq,(show ∀ f st,den (E0 mm) 47 0 (callW (E0 mm)) itW c47_3 f st = den (E0 mm) 47 0 (callW (E0 mm)) itW (.seq c47_4 c47_5) f st from fun _ _=>rfl),(den_seq_l0 (show hasLabel c47_4 2 = false by kernel_rfl)),c47_5_e,(den_seq_l0 (show hasLabel c47_6 2 = false by kernel_rfl)),c47_7_e,(den_seq_l0 (show hasLabel c47_8 2 = false by kernel_rfl)),c47_9_e,(den_seq_l0 (show hasLabel c47_10 2 = false by kernel_rfl)),c47_11_e,(den_seq_l0 (show hasLabel c47_12 2 = false by kernel_rfl)),c47_13_e,(den_seq_l0 (show hasLabel c47_14 2 = false by kernel_rfl)),c47_15_e,(den_seq_l0 (show hasLabel c47_16 2 = false by kernel_rfl)),c47_23_e,(den_seq_l0 (show hasLabel c47_24 2 = false by kernel_rfl)),c47_34_e,(den_seq_l0 (show hasLabel c47_35 2 = false by kernel_rfl)),c47_36_e,(den_seq_l0 (show hasLabel c47_37 2 = false by kernel_rfl)),c47_49_e,(den_seq_l0 (show hasLabel c47_50 2 = false by kernel_rfl)),c47_57_e,(den_seq_l0 (show hasLabel c47_58 2 = false by kernel_rfl)),c47_63_e,(den_seq_l0 (show hasLabel c47_64 2 = false by kernel_rfl)),c47_65_e,(den_seq_l0 (show hasLabel c47_66 2 = false by kernel_rfl)),c47_67_e,(den_seq_l0 (show hasLabel c47_68 2 = false by kernel_rfl)),c47_75_e,(den_seq_l0 (show hasLabel c47_76 2 = false by kernel_rfl)),c47_90_e,(den_seq_l0 (show hasLabel c47_91 2 = false by kernel_rfl)),c47_92_e,(den_seq_l0 (show hasLabel c47_93 2 = false by kernel_rfl)),c47_94_e,(den_seq_l0 (show hasLabel c47_95 2 = false by kernel_rfl)),c47_96_e,(den_seq_l0 (show hasLabel c47_97 2 = false by kernel_rfl)),c47_104_e,(den_seq_l0 (show hasLabel c47_105 2 = false by kernel_rfl)),c47_110_e,(den_seq_l0 (show hasLabel c47_111 2 = false by kernel_rfl)),c47_112_e,(den_seq_l1 (show hasLabel (Code.label 2) 2 = true by kernel_rfl)),c47_113_e,c47_114_e,c47_115_e,c47_116_r,(show opsOf c47_116 = _ :: _ from rfl),ent79,prm79,f79_t,setA,setB,za,zb,zc,zd,ze,zf,zg,zh,zi,zj,zk,zl,zm,zn,zo,zp,reduceCtorEq,zE,↓reduceIte]
 refine brM (fun yc15=>?_) (fun yr16 yc15=>?_)
 ·rw [yc15]; rfl
 ·simp -implicitDefEqProofs only [e79,c47_117_e,c47_118_r,(show opsOf c47_118 = _ :: _ from rfl),(show c47_119 = Code.cond _ c47_120 c47_121 from rfl),yc15,setA,setB,za,zb,zc,zd,ze,zf,zg,zh,zi,zj,zk,zl,zm,zn,zo,zp,reduceCtorEq,zE,↓reduceIte]
  refine brB (fun yc17=>?_) (fun yc17=>?_)
  ·simp -implicitDefEqProofs only [c47_121_e,c47_122_e,c47_123_e,c47_124_r,(show opsOf c47_124 = _ :: _ from rfl),Tryz.underlying135,sz5,ag5,(show c47_125 = Code.cond _ c47_126 c47_129 from rfl),yc15,yc17,setA,setB,za,zb,zc,zd,ze,zf,zg,zh,zi,zj,zk,zl,zm,zn,zo,zp,reduceCtorEq,zE,↓reduceIte]
   refine brB (fun yc18=>?_) (fun yc18=>?_)
   ·simp -implicitDefEqProofs only [c47_126_e,c47_127_r,(show opsOf c47_127 = _ :: _ from rfl),Tryz.underlying135,sz3,ag3,c47_128_e,K47_2,yc15,yc17,yc18,setA,setB,za,zb,zc,zd,ze,zf,zg,zh,zi,zj,zk,zl,zm,zn,zo,zp,reduceCtorEq,zE,↓reduceIte]
    all_goals rfl
   ·simp -implicitDefEqProofs only [c47_129_e,c47_130_e,c47_131_e,den_label_n,c47_132_e,c47_133_e,c47_134_r,(show opsOf c47_134 = _ :: _ from rfl),c47_135_e,K47_2,yc15,yc17,yc18,setA,setB,za,zb,zc,zd,ze,zf,zg,zh,zi,zj,zk,zl,zm,zn,zo,zp,reduceCtorEq,zE,↓reduceIte]
    all_goals rfl
  ·simp -implicitDefEqProofs only [c47_120_e,(scopeK_g (show hasLabel c47_3 1 = true by kernel_rfl)),yc15,yc17,setA,setB,za,zb,zc,zd,ze,zf,zg,zh,zi,zj,zk,zl,zm,zn,zo,zp,reduceCtorEq,zE,↓reduceIte]
   all_goals rfl
def s47_2x2 (b0_0:Bool) (b0_1:List UInt8) (l6_0:Bool) (l6_1:List (Bs×Bs)) (from7 to8 e9:Int) (h0_0_0:Bool) (h0_0_1:List UInt8) (h0_1:Int) (h0_2:UInt8):Option (((Bool×List UInt8) ⊕ (Bool×List UInt8×Bool×List (Bs×Bs)×Int×Int×Int×Bool×List UInt8×Int×UInt8) ⊕ (Bool×List UInt8×Bool×List (Bs×Bs)×Int×Int×Int×Bool×List UInt8×Int×UInt8) ⊕ (Bool×List UInt8×Bool×List (Bs×Bs)×Int×Int×Int×Bool×List UInt8×Int×UInt8) ⊕ (Bool×List UInt8×Bool×List (Bs×Bs)×Int×Int×Int×Bool×List UInt8×Int×UInt8) ⊕ (Bool×List UInt8×Bool×List (Bs×Bs)×Int×Int×Int×Bool×List UInt8×Int×UInt8) ⊕ (Bool×List UInt8×Bool×List (Bs×Bs)×Int×Int×Int×Bool×List UInt8×Int×UInt8) ⊕ (Bool×List UInt8×Bool×List (Bs×Bs)×Int×Int×Int×Bool×List UInt8×Int×UInt8) ⊕ (Bool×List UInt8×Bool×List (Bs×Bs)×Int×Int×Int×Bool×List UInt8×Int×UInt8)) ⊕ R47):=
 (m79 h0_0_0 h0_0_1 h0_1 h0_2).bind fun yr20=>
  if (yr20.1 == 0) = true then
   if (yr20.2.2.2.2 == (13:UInt8)) = true then
    some (.inl (.inr (.inr (.inr (.inr (.inr (.inr (.inr (.inl (b0_0,b0_1,l6_0,l6_1,from7,to8,yr20.1,yr20.2.1,yr20.2.2.1,yr20.2.2.2.1,yr20.2.2.2.2))))))))))
   else
    if (decide (512 < (w64 (yr20.2.2.2.1 - from7)))) = true then
     some (.inl (.inr (.inr (.inr (.inl (b0_0,b0_1,l6_0,l6_1,from7,to8,yr20.1,yr20.2.1,yr20.2.2.1,yr20.2.2.2.1,yr20.2.2.2.2))))))
    else
     (m81 yr20.2.2.2.2).bind fun yr25=>
      if yr25 = true then
       some (.inl (.inr (.inr (.inl (b0_0,b0_1,l6_0,l6_1,from7,to8,yr20.1,yr20.2.1,yr20.2.2.1,yr20.2.2.2.1,yr20.2.2.2.2)))))
      else
       some (.inl (.inr (.inr (.inr (.inr (.inr (.inr (.inl (b0_0,b0_1,l6_0,l6_1,from7,to8,yr20.1,yr20.2.1,yr20.2.2.1,yr20.2.2.2.1,yr20.2.2.2.2)))))))))
  else
   some (.inl (.inr (.inr (.inr (.inr (.inr (.inl (b0_0,b0_1,l6_0,l6_1,from7,to8,yr20.1,yr20.2.1,yr20.2.2.1,yr20.2.2.2.1,yr20.2.2.2.2))))))))
theorem s47_2x2_t (b0_0:Bool) (b0_1:List UInt8) (l6_0:Bool) (l6_1:List (Bs×Bs)) (from7 to8 e9:Int) (h0_0_0:Bool) (h0_0_1:List UInt8) (h0_1:Int) (h0_2:UInt8):
  stepE (K47_2 (mm:=mm)) (scopeF (E0 mm) 47 0 (callW (E0 mm)) itW c47_3 [(0,.keep),(5,.keep),(6,.own),(7,.keep),(8,.keep),(9,.keep)] (some 4,[.v (.c (.d (.lst b0_0 (enL enB b0_1)))),.v (.c (.ptr 0 0)),.v (.c (.own l6_0 (enL enSS l6_1) 1)),.v (.c (.d (.sc (.int .i64 from7)))),.v (.c (.d (.sc (.int .i64 to8)))),.v (.c (.d (.sc (.int .i64 e9))))],[.cells [.d (.lst h0_0_0 (enL enB h0_0_1)),.d (.sc (.int .i64 h0_1)),.d (.sc (.int .u8 ((h0_2).toNat:Int)))],.row l6_1.length (rz l6_0 2)])) = (s47_2x2 b0_0 b0_1 l6_0 l6_1 from7 to8 e9 h0_0_0 h0_0_1 h0_1 h0_2).map (sm en47_2 e47):=by
 simp -implicitDefEqProofs only [s47_2x2,scopeF_eq,(show ∀ f st,den (E0 mm) 47 0 (callW (E0 mm)) itW c47_3 f st = den (E0 mm) 47 0 (callW (E0 mm)) itW (.seq c47_4 c47_5) f st from fun _ _=>rfl),(den_seq_l0 (show hasLabel c47_4 4 = false by kernel_rfl)),c47_5_e,(den_seq_l0 (show hasLabel c47_6 4 = false by kernel_rfl)),c47_7_e,(den_seq_l0 (show hasLabel c47_8 4 = false by kernel_rfl)),c47_9_e,(den_seq_l0 (show hasLabel c47_10 4 = false by kernel_rfl)),c47_11_e,(den_seq_l0 (show hasLabel c47_12 4 = false by kernel_rfl)),c47_13_e,(den_seq_l0 (show hasLabel c47_14 4 = false by kernel_rfl)),c47_15_e,(den_seq_l0 (show hasLabel c47_16 4 = false by kernel_rfl)),c47_23_e,(den_seq_l0 (show hasLabel c47_24 4 = false by kernel_rfl)),c47_34_e,(den_seq_l0 (show hasLabel c47_35 4 = false by kernel_rfl)),c47_36_e,(den_seq_l0 (show hasLabel c47_37 4 = false by kernel_rfl)),c47_49_e,(den_seq_l0 (show hasLabel c47_50 4 = false by kernel_rfl)),c47_57_e,(den_seq_l0 (show hasLabel c47_58 4 = false by kernel_rfl)),c47_63_e,(den_seq_l0 (show hasLabel c47_64 4 = false by kernel_rfl)),c47_65_e,(den_seq_l1 (show hasLabel (Code.label 4) 4 = true by kernel_rfl)),c47_66_e,c47_67_e,c47_68_e,c47_69_r,(show opsOf c47_69 = _ :: _ from rfl),ent79,prm79,f79_t,setA,setB,za,zb,zc,zd,ze,zf,zg,zh,zi,zj,zk,zl,zm,zn,zo,zp,reduceCtorEq,zE,↓reduceIte]
 refine brM (fun yc19=>?_) (fun yr20 yc19=>?_)
 ·rw [yc19]; rfl
 ·simp -implicitDefEqProofs only [e79,c47_70_e,c47_71_r,(show opsOf c47_71 = _ :: _ from rfl),(show c47_72 = Code.cond _ c47_73 c47_74 from rfl),yc19,setA,setB,za,zb,zc,zd,ze,zf,zg,zh,zi,zj,zk,zl,zm,zn,zo,zp,reduceCtorEq,zE,↓reduceIte]
  refine brB (fun yc21=>?_) (fun yc21=>?_)
  ·simp -implicitDefEqProofs only [c47_74_e,c47_75_e,c47_76_e,c47_77_e,c47_78_r,(show opsOf c47_78 = _ :: _ from rfl),Tryz.underlying135,sz5,ag5,(show c47_79 = Code.cond _ c47_80 c47_81 from rfl),yc19,yc21,setA,setB,za,zb,zc,zd,ze,zf,zg,zh,zi,zj,zk,zl,zm,zn,zo,zp,reduceCtorEq,zE,↓reduceIte]
   refine brB (fun yc22=>?_) (fun yc22=>?_)
   ·simp -implicitDefEqProofs only [c47_80_e,(scopeK_g (show hasLabel c47_3 7 = true by kernel_rfl)),yc19,yc21,yc22,setA,setB,za,zb,zc,zd,ze,zf,zg,zh,zi,zj,zk,zl,zm,zn,zo,zp,reduceCtorEq,zE,↓reduceIte]
    all_goals rfl
   ·simp -implicitDefEqProofs only [c47_81_e,c47_82_r,(show opsOf c47_82 = _ :: _ from rfl),Tryz.underlying135,sz3,ag3,(show c47_83 = Code.cond _ c47_84 c47_85 from rfl),yc19,yc21,yc22,setA,setB,za,zb,zc,zd,ze,zf,zg,zh,zi,zj,zk,zl,zm,zn,zo,zp,reduceCtorEq,zE,↓reduceIte]
    refine brB (fun yc23=>?_) (fun yc23=>?_)
    ·simp -implicitDefEqProofs only [c47_84_e,(scopeK_g (show hasLabel c47_3 3 = true by kernel_rfl)),yc19,yc21,yc22,yc23,setA,setB,za,zb,zc,zd,ze,zf,zg,zh,zi,zj,zk,zl,zm,zn,zo,zp,reduceCtorEq,zE,↓reduceIte]
     all_goals rfl
    ·simp -implicitDefEqProofs only [c47_85_e,c47_86_r,(show opsOf c47_86 = _ :: _ from rfl),Tryz.underlying135,sz5,ag5,ent81,prm81,f81_t,yc19,yc21,yc22,yc23,setA,setB,za,zb,zc,zd,ze,zf,zg,zh,zi,zj,zk,zl,zm,zn,zo,zp,reduceCtorEq,zE,↓reduceIte]
     refine brM (fun yc24=>?_) (fun yr25 yc24=>?_)
     ·rw [yc24]; rfl
     ·simp -implicitDefEqProofs only [e81,(show c47_87 = Code.cond _ c47_88 c47_89 from rfl),yc19,yc21,yc22,yc23,yc24,setA,setB,za,zb,zc,zd,ze,zf,zg,zh,zi,zj,zk,zl,zm,zn,zo,zp,reduceCtorEq,zE,↓reduceIte]
      refine brB (fun yc26=>?_) (fun yc26=>?_)
      ·simp -implicitDefEqProofs only [c47_89_e,c47_90_e,c47_91_e,(scopeK_g (show hasLabel c47_3 4 = true by kernel_rfl)),yc19,yc21,yc22,yc23,yc24,yc26,setA,setB,za,zb,zc,zd,ze,zf,zg,zh,zi,zj,zk,zl,zm,zn,zo,zp,reduceCtorEq,zE,↓reduceIte]
       all_goals rfl
      ·simp -implicitDefEqProofs only [c47_88_e,(scopeK_g (show hasLabel c47_3 5 = true by kernel_rfl)),yc19,yc21,yc22,yc23,yc24,yc26,setA,setB,za,zb,zc,zd,ze,zf,zg,zh,zi,zj,zk,zl,zm,zn,zo,zp,reduceCtorEq,zE,↓reduceIte]
       all_goals rfl
  ·simp -implicitDefEqProofs only [c47_73_e,(scopeK_g (show hasLabel c47_3 1 = true by kernel_rfl)),yc19,yc21,setA,setB,za,zb,zc,zd,ze,zf,zg,zh,zi,zj,zk,zl,zm,zn,zo,zp,reduceCtorEq,zE,↓reduceIte]
   all_goals rfl
def s47_2x3 (b0_0:Bool) (b0_1:List UInt8) (l6_0:Bool) (l6_1:List (Bs×Bs)) (from7 to8 e9:Int) (h0_0_0:Bool) (h0_0_1:List UInt8) (h0_1:Int) (h0_2:UInt8):Option (((Bool×List UInt8) ⊕ (Bool×List UInt8×Bool×List (Bs×Bs)×Int×Int×Int×Bool×List UInt8×Int×UInt8) ⊕ (Bool×List UInt8×Bool×List (Bs×Bs)×Int×Int×Int×Bool×List UInt8×Int×UInt8) ⊕ (Bool×List UInt8×Bool×List (Bs×Bs)×Int×Int×Int×Bool×List UInt8×Int×UInt8) ⊕ (Bool×List UInt8×Bool×List (Bs×Bs)×Int×Int×Int×Bool×List UInt8×Int×UInt8) ⊕ (Bool×List UInt8×Bool×List (Bs×Bs)×Int×Int×Int×Bool×List UInt8×Int×UInt8) ⊕ (Bool×List UInt8×Bool×List (Bs×Bs)×Int×Int×Int×Bool×List UInt8×Int×UInt8) ⊕ (Bool×List UInt8×Bool×List (Bs×Bs)×Int×Int×Int×Bool×List UInt8×Int×UInt8) ⊕ (Bool×List UInt8×Bool×List (Bs×Bs)×Int×Int×Int×Bool×List UInt8×Int×UInt8)) ⊕ R47):=
 some (.inr (.inr (true,([]:List (Bs×Bs)),(0:Int),(21:Int))))
theorem s47_2x3_t (b0_0:Bool) (b0_1:List UInt8) (l6_0:Bool) (l6_1:List (Bs×Bs)) (from7 to8 e9:Int) (h0_0_0:Bool) (h0_0_1:List UInt8) (h0_1:Int) (h0_2:UInt8):
  stepE (K47_2 (mm:=mm)) (scopeF (E0 mm) 47 0 (callW (E0 mm)) itW c47_3 [(0,.keep),(5,.keep),(6,.own),(7,.keep),(8,.keep),(9,.keep)] (some 3,[.v (.c (.d (.lst b0_0 (enL enB b0_1)))),.v (.c (.ptr 0 0)),.v (.c (.own l6_0 (enL enSS l6_1) 1)),.v (.c (.d (.sc (.int .i64 from7)))),.v (.c (.d (.sc (.int .i64 to8)))),.v (.c (.d (.sc (.int .i64 e9))))],[.cells [.d (.lst h0_0_0 (enL enB h0_0_1)),.d (.sc (.int .i64 h0_1)),.d (.sc (.int .u8 ((h0_2).toNat:Int)))],.row l6_1.length (rz l6_0 2)])) = (s47_2x3 b0_0 b0_1 l6_0 l6_1 from7 to8 e9 h0_0_0 h0_0_1 h0_1 h0_2).map (sm en47_2 e47):=by
 simp -implicitDefEqProofs only [s47_2x3,scopeF_eq,(show ∀ f st,den (E0 mm) 47 0 (callW (E0 mm)) itW c47_3 f st = den (E0 mm) 47 0 (callW (E0 mm)) itW (.seq c47_4 c47_5) f st from fun _ _=>rfl),(den_seq_l0 (show hasLabel c47_4 3 = false by kernel_rfl)),c47_5_e,(den_seq_l0 (show hasLabel c47_6 3 = false by kernel_rfl)),c47_7_e,(den_seq_l0 (show hasLabel c47_8 3 = false by kernel_rfl)),c47_9_e,(den_seq_l0 (show hasLabel c47_10 3 = false by kernel_rfl)),c47_11_e,(den_seq_l0 (show hasLabel c47_12 3 = false by kernel_rfl)),c47_13_e,(den_seq_l0 (show hasLabel c47_14 3 = false by kernel_rfl)),c47_15_e,(den_seq_l0 (show hasLabel c47_16 3 = false by kernel_rfl)),c47_23_e,(den_seq_l0 (show hasLabel c47_24 3 = false by kernel_rfl)),c47_34_e,(den_seq_l0 (show hasLabel c47_35 3 = false by kernel_rfl)),c47_36_e,(den_seq_l0 (show hasLabel c47_37 3 = false by kernel_rfl)),c47_49_e,(den_seq_l0 (show hasLabel c47_50 3 = false by kernel_rfl)),c47_57_e,(den_seq_l0 (show hasLabel c47_58 3 = false by kernel_rfl)),c47_63_e,(den_seq_l0 (show hasLabel c47_64 3 = false by kernel_rfl)),c47_65_e,(den_seq_l0 (show hasLabel c47_66 3 = false by kernel_rfl)),c47_67_e,(den_seq_l0 (show hasLabel c47_68 3 = false by kernel_rfl)),c47_75_e,(den_seq_l0 (show hasLabel c47_76 3 = false by kernel_rfl)),c47_90_e,(den_seq_l0 (show hasLabel c47_91 3 = false by kernel_rfl)),c47_92_e,(den_seq_l0 (show hasLabel c47_93 3 = false by kernel_rfl)),c47_94_e,(den_seq_l0 (show hasLabel c47_95 3 = false by kernel_rfl)),c47_96_e,(den_seq_l0 (show hasLabel c47_97 3 = false by kernel_rfl)),c47_104_e,(den_seq_l0 (show hasLabel c47_105 3 = false by kernel_rfl)),c47_110_e,(den_seq_l0 (show hasLabel c47_111 3 = false by kernel_rfl)),c47_112_e,(den_seq_l0 (show hasLabel c47_113 3 = false by kernel_rfl)),c47_114_e,(den_seq_l0 (show hasLabel c47_115 3 = false by kernel_rfl)),c47_122_e,(den_seq_l0 (show hasLabel c47_123 3 = false by kernel_rfl)),c47_130_e,(den_seq_l0 (show hasLabel c47_131 3 = false by kernel_rfl)),c47_132_e,(den_seq_l0 (show hasLabel c47_133 3 = false by kernel_rfl)),c47_136_e,(den_seq_l1 (show hasLabel (Code.label 3) 3 = true by kernel_rfl)),c47_137_e,c47_138_e,c47_139_e,c47_140_r,(show opsOf c47_140 = _ :: _ from rfl),c47_141_e,K47_2,setA,setB,za,zb,zc,zd,ze,zf,zg,zh,zi,zj,zk,zl,zm,zn,zo,zp,reduceCtorEq,zE,↓reduceIte]
 all_goals rfl
def j47_63v1 (b0_0:Bool) (b0_1:List UInt8) (l6_0:Bool) (l6_1:List (Bs×Bs)) (from7 to8 e9:Int) (h0_0_0:Bool) (h0_0_1:List UInt8) (h0_1:Int) (h0_2:UInt8):Option (((Bool×List UInt8) ⊕ (Bool×List UInt8×Bool×List (Bs×Bs)×Int×Int×Int×Bool×List UInt8×Int×UInt8) ⊕ (Bool×List UInt8×Bool×List (Bs×Bs)×Int×Int×Int×Bool×List UInt8×Int×UInt8) ⊕ (Bool×List UInt8×Bool×List (Bs×Bs)×Int×Int×Int×Bool×List UInt8×Int×UInt8) ⊕ (Bool×List UInt8×Bool×List (Bs×Bs)×Int×Int×Int×Bool×List UInt8×Int×UInt8) ⊕ (Bool×List UInt8×Bool×List (Bs×Bs)×Int×Int×Int×Bool×List UInt8×Int×UInt8) ⊕ (Bool×List UInt8×Bool×List (Bs×Bs)×Int×Int×Int×Bool×List UInt8×Int×UInt8) ⊕ (Bool×List UInt8×Bool×List (Bs×Bs)×Int×Int×Int×Bool×List UInt8×Int×UInt8) ⊕ (Bool×List UInt8×Bool×List (Bs×Bs)×Int×Int×Int×Bool×List UInt8×Int×UInt8)) ⊕ R47):=
 some (.inl (.inr (.inr (.inr (.inr (.inl (b0_0,b0_1,l6_0,l6_1,from7,to8,e9,h0_0_0,h0_0_1,h0_1,h0_2)))))))
theorem j47_63v1_t (b0_0:Bool) (b0_1:List UInt8) (l6_0:Bool) (l6_1:List (Bs×Bs)) (from7 to8 e9:Int) (h0_0_0:Bool) (h0_0_1:List UInt8) (h0_1:Int) (h0_2:UInt8)  (sl:Nat→AV) (zq0:sl 0 = .v (.c (.d (.lst b0_0 (enL enB b0_1))))) (zq5:sl 5 = .v (.c (.ptr 0 0))) (zq6:sl 6 = .v (.c (.own l6_0 (enL enSS l6_1) 1))) (zq7:sl 7 = .v (.c (.d (.sc (.int .i64 from7))))) (zq8:sl 8 = .v (.c (.d (.sc (.int .i64 to8))))) (zq9:sl 9 = .v (.c (.d (.sc (.int .i64 e9))))):
  stepE (K47_2 (mm:=mm)) (scopeK 0 [(0,.keep),(5,.keep),(6,.own),(7,.keep),(8,.keep),(9,.keep)] c47_3 (den (E0 mm) 47 0 (callW (E0 mm)) itW c47_63 none ⟨sl,[.cells [.d (.lst h0_0_0 (enL enB h0_0_1)),.d (.sc (.int .i64 h0_1)),.d (.sc (.int .u8 ((h0_2).toNat:Int)))],.row l6_1.length (rz l6_0 2)]⟩)) = (j47_63v1 b0_0 b0_1 l6_0 l6_1 from7 to8 e9 h0_0_0 h0_0_1 h0_1 h0_2).map (sm en47_2 e47):=by
 simp -implicitDefEqProofs only [j47_63v1,c47_63_e,c47_64_e,(scopeK_g (show hasLabel c47_3 6 = true by kernel_rfl)),zq0,zq5,zq6,zq7,zq8,zq9,setA,setB,za,zb,zc,zd,ze,zf,zg,zh,zi,zj,zk,zl,zm,zn,zo,zp,reduceCtorEq,zE,↓reduceIte]
 all_goals rfl
def j47_60v1 (b0_0:Bool) (b0_1:List UInt8) (l6_0:Bool) (l6_1:List (Bs×Bs)) (from7 to8 e9:Int) (t74 h0_0_0:Bool) (h0_0_1:List UInt8) (h0_1:Int) (h0_2:UInt8):Option (((Bool×List UInt8) ⊕ (Bool×List UInt8×Bool×List (Bs×Bs)×Int×Int×Int×Bool×List UInt8×Int×UInt8) ⊕ (Bool×List UInt8×Bool×List (Bs×Bs)×Int×Int×Int×Bool×List UInt8×Int×UInt8) ⊕ (Bool×List UInt8×Bool×List (Bs×Bs)×Int×Int×Int×Bool×List UInt8×Int×UInt8) ⊕ (Bool×List UInt8×Bool×List (Bs×Bs)×Int×Int×Int×Bool×List UInt8×Int×UInt8) ⊕ (Bool×List UInt8×Bool×List (Bs×Bs)×Int×Int×Int×Bool×List UInt8×Int×UInt8) ⊕ (Bool×List UInt8×Bool×List (Bs×Bs)×Int×Int×Int×Bool×List UInt8×Int×UInt8) ⊕ (Bool×List UInt8×Bool×List (Bs×Bs)×Int×Int×Int×Bool×List UInt8×Int×UInt8) ⊕ (Bool×List UInt8×Bool×List (Bs×Bs)×Int×Int×Int×Bool×List UInt8×Int×UInt8)) ⊕ R47):=
 if t74 = true then
  some (.inl (.inr (.inr (.inr (.inl (b0_0,b0_1,l6_0,l6_1,from7,to8,e9,h0_0_0,h0_0_1,h0_1,h0_2))))))
 else
  j47_63v1 b0_0 b0_1 l6_0 l6_1 from7 to8 e9 h0_0_0 h0_0_1 h0_1 h0_2
theorem j47_60v1_t (b0_0:Bool) (b0_1:List UInt8) (l6_0:Bool) (l6_1:List (Bs×Bs)) (from7 to8 e9:Int) (t74 h0_0_0:Bool) (h0_0_1:List UInt8) (h0_1:Int) (h0_2:UInt8)  (sl:Nat→AV) (zq0:sl 0 = .v (.c (.d (.lst b0_0 (enL enB b0_1))))) (zq5:sl 5 = .v (.c (.ptr 0 0))) (zq6:sl 6 = .v (.c (.own l6_0 (enL enSS l6_1) 1))) (zq7:sl 7 = .v (.c (.d (.sc (.int .i64 from7))))) (zq8:sl 8 = .v (.c (.d (.sc (.int .i64 to8))))) (zq9:sl 9 = .v (.c (.d (.sc (.int .i64 e9))))) (zq74:sl 74 = .v (.c (.d (.sc (.bool t74))))):
  stepE (K47_2 (mm:=mm)) (scopeK 0 [(0,.keep),(5,.keep),(6,.own),(7,.keep),(8,.keep),(9,.keep)] c47_3 (seqD (E0 mm) 47 0 (callW (E0 mm)) itW c47_63 (den (E0 mm) 47 0 (callW (E0 mm)) itW c47_60 none ⟨sl,[.cells [.d (.lst h0_0_0 (enL enB h0_0_1)),.d (.sc (.int .i64 h0_1)),.d (.sc (.int .u8 ((h0_2).toNat:Int)))],.row l6_1.length (rz l6_0 2)]⟩))) = (j47_60v1 b0_0 b0_1 l6_0 l6_1 from7 to8 e9 t74 h0_0_0 h0_0_1 h0_1 h0_2).map (sm en47_2 e47):=by
 simp -implicitDefEqProofs only [j47_60v1,(show c47_60 = Code.cond _ c47_61 c47_62 from rfl),zq0,zq5,zq6,zq7,zq8,zq9,zq74,setA,setB,za,zb,zc,zd,ze,zf,zg,zh,zi,zj,zk,zl,zm,zn,zo,zp,reduceCtorEq,zE,↓reduceIte]
 refine brB (fun yc36=>?_) (fun yc36=>?_)
 ·simp -implicitDefEqProofs only [c47_61_e,(scopeK_g (show hasLabel c47_3 3 = true by kernel_rfl)),zq0,zq5,zq6,zq7,zq8,zq9,zq74,yc36,setA,setB,za,zb,zc,zd,ze,zf,zg,zh,zi,zj,zk,zl,zm,zn,zo,zp,reduceCtorEq,zE,↓reduceIte]
  all_goals rfl
 ·simp -implicitDefEqProofs only [c47_62_e,zq0,zq5,zq6,zq7,zq8,zq9,zq74,yc36,setA,setB,za,zb,zc,zd,ze,zf,zg,zh,zi,zj,zk,zl,zm,zn,zo,zp,reduceCtorEq,zE,↓reduceIte]
  exact j47_63v1_t b0_0 b0_1 l6_0 l6_1 from7 to8 e9 h0_0_0 h0_0_1 h0_1 h0_2 _ (by exact zq0) (by exact zq5) (by exact zq6) (by exact zq7) (by exact zq8) (by exact zq9)
def j47_57v1 (b0_0:Bool) (b0_1:List UInt8) (l6_0:Bool) (l6_1:List (Bs×Bs)) (from7 to8 e9:Int) (h0_0_0:Bool) (h0_0_1:List UInt8) (h0_1:Int) (h0_2:UInt8):Option (((Bool×List UInt8) ⊕ (Bool×List UInt8×Bool×List (Bs×Bs)×Int×Int×Int×Bool×List UInt8×Int×UInt8) ⊕ (Bool×List UInt8×Bool×List (Bs×Bs)×Int×Int×Int×Bool×List UInt8×Int×UInt8) ⊕ (Bool×List UInt8×Bool×List (Bs×Bs)×Int×Int×Int×Bool×List UInt8×Int×UInt8) ⊕ (Bool×List UInt8×Bool×List (Bs×Bs)×Int×Int×Int×Bool×List UInt8×Int×UInt8) ⊕ (Bool×List UInt8×Bool×List (Bs×Bs)×Int×Int×Int×Bool×List UInt8×Int×UInt8) ⊕ (Bool×List UInt8×Bool×List (Bs×Bs)×Int×Int×Int×Bool×List UInt8×Int×UInt8) ⊕ (Bool×List UInt8×Bool×List (Bs×Bs)×Int×Int×Int×Bool×List UInt8×Int×UInt8) ⊕ (Bool×List UInt8×Bool×List (Bs×Bs)×Int×Int×Int×Bool×List UInt8×Int×UInt8)) ⊕ R47):=
 if (h0_2 == (13:UInt8)) = true then
  j47_60v1 b0_0 b0_1 l6_0 l6_1 from7 to8 e9 false h0_0_0 h0_0_1 h0_1 h0_2
 else
  j47_60v1 b0_0 b0_1 l6_0 l6_1 from7 to8 e9 (decide (512 < (w64 (h0_1 - from7)))) h0_0_0 h0_0_1 h0_1 h0_2
theorem j47_57v1_t (b0_0:Bool) (b0_1:List UInt8) (l6_0:Bool) (l6_1:List (Bs×Bs)) (from7 to8 e9:Int) (h0_0_0:Bool) (h0_0_1:List UInt8) (h0_1:Int) (h0_2:UInt8)  (sl:Nat→AV) (zq0:sl 0 = .v (.c (.d (.lst b0_0 (enL enB b0_1))))) (zq5:sl 5 = .v (.c (.ptr 0 0))) (zq6:sl 6 = .v (.c (.own l6_0 (enL enSS l6_1) 1))) (zq7:sl 7 = .v (.c (.d (.sc (.int .i64 from7))))) (zq8:sl 8 = .v (.c (.d (.sc (.int .i64 to8))))) (zq9:sl 9 = .v (.c (.d (.sc (.int .i64 e9))))):
  stepE (K47_2 (mm:=mm)) (scopeK 0 [(0,.keep),(5,.keep),(6,.own),(7,.keep),(8,.keep),(9,.keep)] c47_3 (den (E0 mm) 47 0 (callW (E0 mm)) itW c47_57 none ⟨sl,[.cells [.d (.lst h0_0_0 (enL enB h0_0_1)),.d (.sc (.int .i64 h0_1)),.d (.sc (.int .u8 ((h0_2).toNat:Int)))],.row l6_1.length (rz l6_0 2)]⟩)) = (j47_57v1 b0_0 b0_1 l6_0 l6_1 from7 to8 e9 h0_0_0 h0_0_1 h0_1 h0_2).map (sm en47_2 e47):=by
 simp -implicitDefEqProofs only [j47_57v1,c47_57_e,c47_58_e,c47_59_r,(show opsOf c47_59 = _ :: _ from rfl),Tryz.underlying135,sz5,ag5,zq0,zq5,zq6,zq7,zq8,zq9,setA,setB,za,zb,zc,zd,ze,zf,zg,zh,zi,zj,zk,zl,zm,zn,zo,zp,reduceCtorEq,zE,↓reduceIte]
 refine brB (fun yc35=>?_) (fun yc35=>?_)
 ·simp -implicitDefEqProofs only [zq0,zq5,zq6,zq7,zq8,zq9,yc35,setA,setB,za,zb,zc,zd,ze,zf,zg,zh,zi,zj,zk,zl,zm,zn,zo,zp,reduceCtorEq,zE,↓reduceIte]
  exact j47_60v1_t b0_0 b0_1 l6_0 l6_1 from7 to8 e9 false h0_0_0 h0_0_1 h0_1 h0_2 _ (by exact zq0) (by exact zq5) (by exact zq6) (by exact zq7) (by exact zq8) (by exact zq9) (by rfl)
 ·simp -implicitDefEqProofs only [Tryz.underlying135,sz3,ag3,zq0,zq5,zq6,zq7,zq8,zq9,yc35,setA,setB,za,zb,zc,zd,ze,zf,zg,zh,zi,zj,zk,zl,zm,zn,zo,zp,reduceCtorEq,zE,↓reduceIte]
  exact j47_60v1_t b0_0 b0_1 l6_0 l6_1 from7 to8 e9 (decide (512 < (w64 (h0_1 - from7)))) h0_0_0 h0_0_1 h0_1 h0_2 _ (by exact zq0) (by exact zq5) (by exact zq6) (by exact zq7) (by exact zq8) (by exact zq9) (by rfl)
def j47_49v1 (b0_0:Bool) (b0_1:List UInt8) (l6_0:Bool) (l6_1:List (Bs×Bs)) (from7 to8:Int) (h0_0_0:Bool) (h0_0_1:List UInt8) (h0_1:Int) (h0_2:UInt8):Option (((Bool×List UInt8) ⊕ (Bool×List UInt8×Bool×List (Bs×Bs)×Int×Int×Int×Bool×List UInt8×Int×UInt8) ⊕ (Bool×List UInt8×Bool×List (Bs×Bs)×Int×Int×Int×Bool×List UInt8×Int×UInt8) ⊕ (Bool×List UInt8×Bool×List (Bs×Bs)×Int×Int×Int×Bool×List UInt8×Int×UInt8) ⊕ (Bool×List UInt8×Bool×List (Bs×Bs)×Int×Int×Int×Bool×List UInt8×Int×UInt8) ⊕ (Bool×List UInt8×Bool×List (Bs×Bs)×Int×Int×Int×Bool×List UInt8×Int×UInt8) ⊕ (Bool×List UInt8×Bool×List (Bs×Bs)×Int×Int×Int×Bool×List UInt8×Int×UInt8) ⊕ (Bool×List UInt8×Bool×List (Bs×Bs)×Int×Int×Int×Bool×List UInt8×Int×UInt8) ⊕ (Bool×List UInt8×Bool×List (Bs×Bs)×Int×Int×Int×Bool×List UInt8×Int×UInt8)) ⊕ R47):=
 (m79 h0_0_0 h0_0_1 h0_1 h0_2).bind fun yr33=>
  if (yr33.1 == 0) = true then
   j47_57v1 b0_0 b0_1 l6_0 l6_1 from7 to8 yr33.1 yr33.2.1 yr33.2.2.1 yr33.2.2.2.1 yr33.2.2.2.2
  else
   some (.inl (.inr (.inr (.inr (.inr (.inr (.inl (b0_0,b0_1,l6_0,l6_1,from7,to8,yr33.1,yr33.2.1,yr33.2.2.1,yr33.2.2.2.1,yr33.2.2.2.2))))))))
theorem j47_49v1_t (b0_0:Bool) (b0_1:List UInt8) (l6_0:Bool) (l6_1:List (Bs×Bs)) (from7 to8:Int) (h0_0_0:Bool) (h0_0_1:List UInt8) (h0_1:Int) (h0_2:UInt8)  (sl:Nat→AV) (zq0:sl 0 = .v (.c (.d (.lst b0_0 (enL enB b0_1))))) (zq5:sl 5 = .v (.c (.ptr 0 0))) (zq6:sl 6 = .v (.c (.own l6_0 (enL enSS l6_1) 1))) (zq7:sl 7 = .v (.c (.d (.sc (.int .i64 from7))))) (zq8:sl 8 = .v (.c (.d (.sc (.int .i64 to8))))):
  stepE (K47_2 (mm:=mm)) (scopeK 0 [(0,.keep),(5,.keep),(6,.own),(7,.keep),(8,.keep),(9,.keep)] c47_3 (den (E0 mm) 47 0 (callW (E0 mm)) itW c47_49 none ⟨sl,[.cells [.d (.lst h0_0_0 (enL enB h0_0_1)),.d (.sc (.int .i64 h0_1)),.d (.sc (.int .u8 ((h0_2).toNat:Int)))],.row l6_1.length (rz l6_0 2)]⟩)) = (j47_49v1 b0_0 b0_1 l6_0 l6_1 from7 to8 h0_0_0 h0_0_1 h0_1 h0_2).map (sm en47_2 e47):=by
 simp -implicitDefEqProofs only [j47_49v1,c47_49_e,c47_50_e,c47_51_r,(show opsOf c47_51 = _ :: _ from rfl),ent79,prm79,f79_t,zq0,zq5,zq6,zq7,zq8,setA,setB,za,zb,zc,zd,ze,zf,zg,zh,zi,zj,zk,zl,zm,zn,zo,zp,reduceCtorEq,zE,↓reduceIte]
 refine brM (fun yc32=>?_) (fun yr33 yc32=>?_)
 ·rw [yc32]; rfl
 ·simp -implicitDefEqProofs only [e79,c47_52_e,c47_53_r,(show opsOf c47_53 = _ :: _ from rfl),(show c47_54 = Code.cond _ c47_55 c47_56 from rfl),zq0,zq5,zq6,zq7,zq8,yc32,setA,setB,za,zb,zc,zd,ze,zf,zg,zh,zi,zj,zk,zl,zm,zn,zo,zp,reduceCtorEq,zE,↓reduceIte]
  refine brB (fun yc34=>?_) (fun yc34=>?_)
  ·simp -implicitDefEqProofs only [c47_56_e,zq0,zq5,zq6,zq7,zq8,yc32,yc34,setA,setB,za,zb,zc,zd,ze,zf,zg,zh,zi,zj,zk,zl,zm,zn,zo,zp,reduceCtorEq,zE,↓reduceIte]
   exact j47_57v1_t b0_0 b0_1 l6_0 l6_1 from7 to8 yr33.1 yr33.2.1 yr33.2.2.1 yr33.2.2.2.1 yr33.2.2.2.2 _ (by exact zq0) (by exact zq5) (by exact zq6) (by exact zq7) (by exact zq8) (by rfl)
  ·simp -implicitDefEqProofs only [c47_55_e,(scopeK_g (show hasLabel c47_3 1 = true by kernel_rfl)),zq0,zq5,zq6,zq7,zq8,yc32,yc34,setA,setB,za,zb,zc,zd,ze,zf,zg,zh,zi,zj,zk,zl,zm,zn,zo,zp,reduceCtorEq,zE,↓reduceIte]
   all_goals rfl
def j47_40v1 (b0_0:Bool) (b0_1:List UInt8) (l6_0:Bool) (l6_1:List (Bs×Bs)) (from7 to8 e9:Int) (t31 h0_0_0:Bool) (h0_0_1:List UInt8) (h0_1:Int) (h0_2:UInt8):Option (((Bool×List UInt8) ⊕ (Bool×List UInt8×Bool×List (Bs×Bs)×Int×Int×Int×Bool×List UInt8×Int×UInt8) ⊕ (Bool×List UInt8×Bool×List (Bs×Bs)×Int×Int×Int×Bool×List UInt8×Int×UInt8) ⊕ (Bool×List UInt8×Bool×List (Bs×Bs)×Int×Int×Int×Bool×List UInt8×Int×UInt8) ⊕ (Bool×List UInt8×Bool×List (Bs×Bs)×Int×Int×Int×Bool×List UInt8×Int×UInt8) ⊕ (Bool×List UInt8×Bool×List (Bs×Bs)×Int×Int×Int×Bool×List UInt8×Int×UInt8) ⊕ (Bool×List UInt8×Bool×List (Bs×Bs)×Int×Int×Int×Bool×List UInt8×Int×UInt8) ⊕ (Bool×List UInt8×Bool×List (Bs×Bs)×Int×Int×Int×Bool×List UInt8×Int×UInt8) ⊕ (Bool×List UInt8×Bool×List (Bs×Bs)×Int×Int×Int×Bool×List UInt8×Int×UInt8)) ⊕ R47):=
 if t31 = true then
  some (.inl (.inr (.inr (.inl (b0_0,b0_1,l6_0,l6_1,from7,h0_1,e9,h0_0_0,h0_0_1,h0_1,h0_2)))))
 else
  (m80 h0_2).bind fun yr30=>
   if yr30 = true then
    j47_49v1 b0_0 b0_1 l6_0 l6_1 from7 to8 h0_0_0 h0_0_1 h0_1 h0_2
   else
    some (.inl (.inr (.inr (.inr (.inr (.inr (.inr (.inl (b0_0,b0_1,l6_0,l6_1,from7,to8,e9,h0_0_0,h0_0_1,h0_1,h0_2)))))))))
theorem j47_40v1_t (b0_0:Bool) (b0_1:List UInt8) (l6_0:Bool) (l6_1:List (Bs×Bs)) (from7 to8 e9:Int) (t31 h0_0_0:Bool) (h0_0_1:List UInt8) (h0_1:Int) (h0_2:UInt8)  (sl:Nat→AV) (zq0:sl 0 = .v (.c (.d (.lst b0_0 (enL enB b0_1))))) (zq5:sl 5 = .v (.c (.ptr 0 0))) (zq6:sl 6 = .v (.c (.own l6_0 (enL enSS l6_1) 1))) (zq7:sl 7 = .v (.c (.d (.sc (.int .i64 from7))))) (zq8:sl 8 = .v (.c (.d (.sc (.int .i64 to8))))) (zq9:sl 9 = .v (.c (.d (.sc (.int .i64 e9))))) (zq31:sl 31 = .v (.c (.d (.sc (.bool t31))))):
  stepE (K47_2 (mm:=mm)) (scopeK 0 [(0,.keep),(5,.keep),(6,.own),(7,.keep),(8,.keep),(9,.keep)] c47_3 (seqD (E0 mm) 47 0 (callW (E0 mm)) itW c47_49 (blockD 1 (den (E0 mm) 47 0 (callW (E0 mm)) itW c47_40 none ⟨sl,[.cells [.d (.lst h0_0_0 (enL enB h0_0_1)),.d (.sc (.int .i64 h0_1)),.d (.sc (.int .u8 ((h0_2).toNat:Int)))],.row l6_1.length (rz l6_0 2)]⟩)))) = (j47_40v1 b0_0 b0_1 l6_0 l6_1 from7 to8 e9 t31 h0_0_0 h0_0_1 h0_1 h0_2).map (sm en47_2 e47):=by
 simp -implicitDefEqProofs only [j47_40v1,(show c47_40 = Code.cond _ c47_41 c47_44 from rfl),zq0,zq5,zq6,zq7,zq8,zq9,zq31,setA,setB,za,zb,zc,zd,ze,zf,zg,zh,zi,zj,zk,zl,zm,zn,zo,zp,reduceCtorEq,zE,↓reduceIte]
 refine brB (fun yc28=>?_) (fun yc28=>?_)
 ·simp -implicitDefEqProofs only [c47_41_e,c47_42_r,(show opsOf c47_42 = _ :: _ from rfl),Tryz.underlying135,sz3,ag3,c47_43_e,(scopeK_g (show hasLabel c47_3 4 = true by kernel_rfl)),zq0,zq5,zq6,zq7,zq8,zq9,zq31,yc28,setA,setB,za,zb,zc,zd,ze,zf,zg,zh,zi,zj,zk,zl,zm,zn,zo,zp,reduceCtorEq,zE,↓reduceIte]
  all_goals rfl
 ·simp -implicitDefEqProofs only [c47_44_e,c47_45_r,(show opsOf c47_45 = _ :: _ from rfl),Tryz.underlying135,sz5,ag5,ent80,prm80,f80_t,zq0,zq5,zq6,zq7,zq8,zq9,zq31,yc28,setA,setB,za,zb,zc,zd,ze,zf,zg,zh,zi,zj,zk,zl,zm,zn,zo,zp,reduceCtorEq,zE,↓reduceIte]
  refine brM (fun yc29=>?_) (fun yr30 yc29=>?_)
  ·rw [yc29]; rfl
  ·simp -implicitDefEqProofs only [e80,(show c47_46 = Code.cond _ c47_47 c47_48 from rfl),zq0,zq5,zq6,zq7,zq8,zq9,zq31,yc28,yc29,setA,setB,za,zb,zc,zd,ze,zf,zg,zh,zi,zj,zk,zl,zm,zn,zo,zp,reduceCtorEq,zE,↓reduceIte]
   refine brB (fun yc31=>?_) (fun yc31=>?_)
   ·simp -implicitDefEqProofs only [c47_48_e,zq0,zq5,zq6,zq7,zq8,zq9,zq31,yc28,yc29,yc31,setA,setB,za,zb,zc,zd,ze,zf,zg,zh,zi,zj,zk,zl,zm,zn,zo,zp,reduceCtorEq,zE,↓reduceIte]
    exact j47_49v1_t b0_0 b0_1 l6_0 l6_1 from7 to8 h0_0_0 h0_0_1 h0_1 h0_2 _ (by exact zq0) (by exact zq5) (by exact zq6) (by exact zq7) (by exact zq8)
   ·simp -implicitDefEqProofs only [c47_47_e,(scopeK_g (show hasLabel c47_3 5 = true by kernel_rfl)),zq0,zq5,zq6,zq7,zq8,zq9,zq31,yc28,yc29,yc31,setA,setB,za,zb,zc,zd,ze,zf,zg,zh,zi,zj,zk,zl,zm,zn,zo,zp,reduceCtorEq,zE,↓reduceIte]
    all_goals rfl
def s47_2x4 (b0_0:Bool) (b0_1:List UInt8) (l6_0:Bool) (l6_1:List (Bs×Bs)) (from7 to8 e9:Int) (h0_0_0:Bool) (h0_0_1:List UInt8) (h0_1:Int) (h0_2:UInt8):Option (((Bool×List UInt8) ⊕ (Bool×List UInt8×Bool×List (Bs×Bs)×Int×Int×Int×Bool×List UInt8×Int×UInt8) ⊕ (Bool×List UInt8×Bool×List (Bs×Bs)×Int×Int×Int×Bool×List UInt8×Int×UInt8) ⊕ (Bool×List UInt8×Bool×List (Bs×Bs)×Int×Int×Int×Bool×List UInt8×Int×UInt8) ⊕ (Bool×List UInt8×Bool×List (Bs×Bs)×Int×Int×Int×Bool×List UInt8×Int×UInt8) ⊕ (Bool×List UInt8×Bool×List (Bs×Bs)×Int×Int×Int×Bool×List UInt8×Int×UInt8) ⊕ (Bool×List UInt8×Bool×List (Bs×Bs)×Int×Int×Int×Bool×List UInt8×Int×UInt8) ⊕ (Bool×List UInt8×Bool×List (Bs×Bs)×Int×Int×Int×Bool×List UInt8×Int×UInt8) ⊕ (Bool×List UInt8×Bool×List (Bs×Bs)×Int×Int×Int×Bool×List UInt8×Int×UInt8)) ⊕ R47):=
 if (h0_2 == (58:UInt8)) = true then
  j47_40v1 b0_0 b0_1 l6_0 l6_1 from7 to8 e9 (decide ((w64 (from7 + 1)) < h0_1)) h0_0_0 h0_0_1 h0_1 h0_2
 else
  j47_40v1 b0_0 b0_1 l6_0 l6_1 from7 to8 e9 false h0_0_0 h0_0_1 h0_1 h0_2
theorem s47_2x4_t (b0_0:Bool) (b0_1:List UInt8) (l6_0:Bool) (l6_1:List (Bs×Bs)) (from7 to8 e9:Int) (h0_0_0:Bool) (h0_0_1:List UInt8) (h0_1:Int) (h0_2:UInt8):
  stepE (K47_2 (mm:=mm)) (scopeF (E0 mm) 47 0 (callW (E0 mm)) itW c47_3 [(0,.keep),(5,.keep),(6,.own),(7,.keep),(8,.keep),(9,.keep)] (some 6,[.v (.c (.d (.lst b0_0 (enL enB b0_1)))),.v (.c (.ptr 0 0)),.v (.c (.own l6_0 (enL enSS l6_1) 1)),.v (.c (.d (.sc (.int .i64 from7)))),.v (.c (.d (.sc (.int .i64 to8)))),.v (.c (.d (.sc (.int .i64 e9))))],[.cells [.d (.lst h0_0_0 (enL enB h0_0_1)),.d (.sc (.int .i64 h0_1)),.d (.sc (.int .u8 ((h0_2).toNat:Int)))],.row l6_1.length (rz l6_0 2)])) = (s47_2x4 b0_0 b0_1 l6_0 l6_1 from7 to8 e9 h0_0_0 h0_0_1 h0_1 h0_2).map (sm en47_2 e47):=by
 simp -implicitDefEqProofs only [s47_2x4,scopeF_eq,(show ∀ f st,den (E0 mm) 47 0 (callW (E0 mm)) itW c47_3 f st = den (E0 mm) 47 0 (callW (E0 mm)) itW (.seq c47_4 c47_5) f st from fun _ _=>rfl),(den_seq_l0 (show hasLabel c47_4 6 = false by kernel_rfl)),c47_5_e,(den_seq_l0 (show hasLabel c47_6 6 = false by kernel_rfl)),c47_7_e,(den_seq_l0 (show hasLabel c47_8 6 = false by kernel_rfl)),c47_9_e,(den_seq_l0 (show hasLabel c47_10 6 = false by kernel_rfl)),c47_11_e,(den_seq_l0 (show hasLabel c47_12 6 = false by kernel_rfl)),c47_13_e,(den_seq_l0 (show hasLabel c47_14 6 = false by kernel_rfl)),c47_15_e,(den_seq_l0 (show hasLabel c47_16 6 = false by kernel_rfl)),c47_23_e,(den_seq_l0 (show hasLabel c47_24 6 = false by kernel_rfl)),c47_34_e,(den_seq_l1 (show hasLabel (Code.label 6) 6 = true by kernel_rfl)),c47_35_e,c47_36_e,c47_37_e,c47_38_e,c47_39_r,(show opsOf c47_39 = _ :: _ from rfl),Tryz.underlying135,sz5,ag5,setA,setB,za,zb,zc,zd,ze,zf,zg,zh,zi,zj,zk,zl,zm,zn,zo,zp,reduceCtorEq,zE,↓reduceIte]
 refine brB (fun yc27=>?_) (fun yc27=>?_)
 ·simp -implicitDefEqProofs only [Tryz.underlying135,sz3,ag3,yc27,setA,setB,za,zb,zc,zd,ze,zf,zg,zh,zi,zj,zk,zl,zm,zn,zo,zp,reduceCtorEq,zE,↓reduceIte]
  exact j47_40v1_t b0_0 b0_1 l6_0 l6_1 from7 to8 e9 (decide ((w64 (from7 + 1)) < h0_1)) h0_0_0 h0_0_1 h0_1 h0_2 _ (by rfl) (by rfl) (by rfl) (by rfl) (by rfl) (by rfl) (by rfl)
 ·simp -implicitDefEqProofs only [yc27,setA,setB,za,zb,zc,zd,ze,zf,zg,zh,zi,zj,zk,zl,zm,zn,zo,zp,reduceCtorEq,zE,↓reduceIte]
  exact j47_40v1_t b0_0 b0_1 l6_0 l6_1 from7 to8 e9 false h0_0_0 h0_0_1 h0_1 h0_2 _ (by rfl) (by rfl) (by rfl) (by rfl) (by rfl) (by rfl) (by rfl)
def s47_2x5 (b0_0:Bool) (b0_1:List UInt8) (l6_0:Bool) (l6_1:List (Bs×Bs)) (from7 to8 e9:Int) (h0_0_0:Bool) (h0_0_1:List UInt8) (h0_1:Int) (h0_2:UInt8):Option (((Bool×List UInt8) ⊕ (Bool×List UInt8×Bool×List (Bs×Bs)×Int×Int×Int×Bool×List UInt8×Int×UInt8) ⊕ (Bool×List UInt8×Bool×List (Bs×Bs)×Int×Int×Int×Bool×List UInt8×Int×UInt8) ⊕ (Bool×List UInt8×Bool×List (Bs×Bs)×Int×Int×Int×Bool×List UInt8×Int×UInt8) ⊕ (Bool×List UInt8×Bool×List (Bs×Bs)×Int×Int×Int×Bool×List UInt8×Int×UInt8) ⊕ (Bool×List UInt8×Bool×List (Bs×Bs)×Int×Int×Int×Bool×List UInt8×Int×UInt8) ⊕ (Bool×List UInt8×Bool×List (Bs×Bs)×Int×Int×Int×Bool×List UInt8×Int×UInt8) ⊕ (Bool×List UInt8×Bool×List (Bs×Bs)×Int×Int×Int×Bool×List UInt8×Int×UInt8) ⊕ (Bool×List UInt8×Bool×List (Bs×Bs)×Int×Int×Int×Bool×List UInt8×Int×UInt8)) ⊕ R47):=
 some (.inr (.inr (true,([]:List (Bs×Bs)),(0:Int),e9)))
theorem s47_2x5_t (b0_0:Bool) (b0_1:List UInt8) (l6_0:Bool) (l6_1:List (Bs×Bs)) (from7 to8 e9:Int) (h0_0_0:Bool) (h0_0_1:List UInt8) (h0_1:Int) (h0_2:UInt8):
  stepE (K47_2 (mm:=mm)) (scopeF (E0 mm) 47 0 (callW (E0 mm)) itW c47_3 [(0,.keep),(5,.keep),(6,.own),(7,.keep),(8,.keep),(9,.keep)] (some 1,[.v (.c (.d (.lst b0_0 (enL enB b0_1)))),.v (.c (.ptr 0 0)),.v (.c (.own l6_0 (enL enSS l6_1) 1)),.v (.c (.d (.sc (.int .i64 from7)))),.v (.c (.d (.sc (.int .i64 to8)))),.v (.c (.d (.sc (.int .i64 e9))))],[.cells [.d (.lst h0_0_0 (enL enB h0_0_1)),.d (.sc (.int .i64 h0_1)),.d (.sc (.int .u8 ((h0_2).toNat:Int)))],.row l6_1.length (rz l6_0 2)])) = (s47_2x5 b0_0 b0_1 l6_0 l6_1 from7 to8 e9 h0_0_0 h0_0_1 h0_1 h0_2).map (sm en47_2 e47):=by
 simp -implicitDefEqProofs only [s47_2x5,scopeF_eq,(show ∀ f st,den (E0 mm) 47 0 (callW (E0 mm)) itW c47_3 f st = den (E0 mm) 47 0 (callW (E0 mm)) itW (.seq c47_4 c47_5) f st from fun _ _=>rfl),(den_seq_l0 (show hasLabel c47_4 1 = false by kernel_rfl)),c47_5_e,(den_seq_l0 (show hasLabel c47_6 1 = false by kernel_rfl)),c47_7_e,(den_seq_l0 (show hasLabel c47_8 1 = false by kernel_rfl)),c47_9_e,(den_seq_l0 (show hasLabel c47_10 1 = false by kernel_rfl)),c47_11_e,(den_seq_l0 (show hasLabel c47_12 1 = false by kernel_rfl)),c47_13_e,(den_seq_l0 (show hasLabel c47_14 1 = false by kernel_rfl)),c47_15_e,(den_seq_l0 (show hasLabel c47_16 1 = false by kernel_rfl)),c47_23_e,(den_seq_l0 (show hasLabel c47_24 1 = false by kernel_rfl)),c47_34_e,(den_seq_l0 (show hasLabel c47_35 1 = false by kernel_rfl)),c47_36_e,(den_seq_l0 (show hasLabel c47_37 1 = false by kernel_rfl)),c47_49_e,(den_seq_l0 (show hasLabel c47_50 1 = false by kernel_rfl)),c47_57_e,(den_seq_l0 (show hasLabel c47_58 1 = false by kernel_rfl)),c47_63_e,(den_seq_l0 (show hasLabel c47_64 1 = false by kernel_rfl)),c47_65_e,(den_seq_l0 (show hasLabel c47_66 1 = false by kernel_rfl)),c47_67_e,(den_seq_l0 (show hasLabel c47_68 1 = false by kernel_rfl)),c47_75_e,(den_seq_l0 (show hasLabel c47_76 1 = false by kernel_rfl)),c47_90_e,(den_seq_l0 (show hasLabel c47_91 1 = false by kernel_rfl)),c47_92_e,(den_seq_l0 (show hasLabel c47_93 1 = false by kernel_rfl)),c47_94_e,(den_seq_l0 (show hasLabel c47_95 1 = false by kernel_rfl)),c47_96_e,(den_seq_l0 (show hasLabel c47_97 1 = false by kernel_rfl)),c47_104_e,(den_seq_l0 (show hasLabel c47_105 1 = false by kernel_rfl)),c47_110_e,(den_seq_l0 (show hasLabel c47_111 1 = false by kernel_rfl)),c47_112_e,(den_seq_l0 (show hasLabel c47_113 1 = false by kernel_rfl)),c47_114_e,(den_seq_l0 (show hasLabel c47_115 1 = false by kernel_rfl)),c47_122_e,(den_seq_l0 (show hasLabel c47_123 1 = false by kernel_rfl)),c47_130_e,(den_seq_l0 (show hasLabel c47_131 1 = false by kernel_rfl)),c47_132_e,(den_seq_l0 (show hasLabel c47_133 1 = false by kernel_rfl)),c47_136_e,(den_seq_l0 (show hasLabel c47_137 1 = false by kernel_rfl)),c47_138_e,(den_seq_l0 (show hasLabel c47_139 1 = false by kernel_rfl)),c47_142_e,(den_seq_l1 (show hasLabel (Code.label 1) 1 = true by kernel_rfl)),c47_143_e,c47_144_e,c47_145_r,(show opsOf c47_145 = _ :: _ from rfl),c47_146_e,K47_2,setA,setB,za,zb,zc,zd,ze,zf,zg,zh,zi,zj,zk,zl,zm,zn,zo,zp,reduceCtorEq,zE,↓reduceIte]
 all_goals rfl
def s47_2x6 (b0_0:Bool) (b0_1:List UInt8) (l6_0:Bool) (l6_1:List (Bs×Bs)) (from7 to8 e9:Int) (h0_0_0:Bool) (h0_0_1:List UInt8) (h0_1:Int) (h0_2:UInt8):Option (((Bool×List UInt8) ⊕ (Bool×List UInt8×Bool×List (Bs×Bs)×Int×Int×Int×Bool×List UInt8×Int×UInt8) ⊕ (Bool×List UInt8×Bool×List (Bs×Bs)×Int×Int×Int×Bool×List UInt8×Int×UInt8) ⊕ (Bool×List UInt8×Bool×List (Bs×Bs)×Int×Int×Int×Bool×List UInt8×Int×UInt8) ⊕ (Bool×List UInt8×Bool×List (Bs×Bs)×Int×Int×Int×Bool×List UInt8×Int×UInt8) ⊕ (Bool×List UInt8×Bool×List (Bs×Bs)×Int×Int×Int×Bool×List UInt8×Int×UInt8) ⊕ (Bool×List UInt8×Bool×List (Bs×Bs)×Int×Int×Int×Bool×List UInt8×Int×UInt8) ⊕ (Bool×List UInt8×Bool×List (Bs×Bs)×Int×Int×Int×Bool×List UInt8×Int×UInt8) ⊕ (Bool×List UInt8×Bool×List (Bs×Bs)×Int×Int×Int×Bool×List UInt8×Int×UInt8)) ⊕ R47):=
 some (.inr (.inr (true,([]:List (Bs×Bs)),(0:Int),(20:Int))))
theorem s47_2x6_t (b0_0:Bool) (b0_1:List UInt8) (l6_0:Bool) (l6_1:List (Bs×Bs)) (from7 to8 e9:Int) (h0_0_0:Bool) (h0_0_1:List UInt8) (h0_1:Int) (h0_2:UInt8):
  stepE (K47_2 (mm:=mm)) (scopeF (E0 mm) 47 0 (callW (E0 mm)) itW c47_3 [(0,.keep),(5,.keep),(6,.own),(7,.keep),(8,.keep),(9,.keep)] (some 5,[.v (.c (.d (.lst b0_0 (enL enB b0_1)))),.v (.c (.ptr 0 0)),.v (.c (.own l6_0 (enL enSS l6_1) 1)),.v (.c (.d (.sc (.int .i64 from7)))),.v (.c (.d (.sc (.int .i64 to8)))),.v (.c (.d (.sc (.int .i64 e9))))],[.cells [.d (.lst h0_0_0 (enL enB h0_0_1)),.d (.sc (.int .i64 h0_1)),.d (.sc (.int .u8 ((h0_2).toNat:Int)))],.row l6_1.length (rz l6_0 2)])) = (s47_2x6 b0_0 b0_1 l6_0 l6_1 from7 to8 e9 h0_0_0 h0_0_1 h0_1 h0_2).map (sm en47_2 e47):=by
 simp -implicitDefEqProofs only [s47_2x6,scopeF_eq,(show ∀ f st,den (E0 mm) 47 0 (callW (E0 mm)) itW c47_3 f st = den (E0 mm) 47 0 (callW (E0 mm)) itW (.seq c47_4 c47_5) f st from fun _ _=>rfl),(den_seq_l0 (show hasLabel c47_4 5 = false by kernel_rfl)),c47_5_e,(den_seq_l0 (show hasLabel c47_6 5 = false by kernel_rfl)),c47_7_e,(den_seq_l0 (show hasLabel c47_8 5 = false by kernel_rfl)),c47_9_e,(den_seq_l0 (show hasLabel c47_10 5 = false by kernel_rfl)),c47_11_e,(den_seq_l0 (show hasLabel c47_12 5 = false by kernel_rfl)),c47_13_e,(den_seq_l0 (show hasLabel c47_14 5 = false by kernel_rfl)),c47_15_e,(den_seq_l0 (show hasLabel c47_16 5 = false by kernel_rfl)),c47_23_e,(den_seq_l0 (show hasLabel c47_24 5 = false by kernel_rfl)),c47_34_e,(den_seq_l0 (show hasLabel c47_35 5 = false by kernel_rfl)),c47_36_e,(den_seq_l0 (show hasLabel c47_37 5 = false by kernel_rfl)),c47_49_e,(den_seq_l0 (show hasLabel c47_50 5 = false by kernel_rfl)),c47_57_e,(den_seq_l0 (show hasLabel c47_58 5 = false by kernel_rfl)),c47_63_e,(den_seq_l0 (show hasLabel c47_64 5 = false by kernel_rfl)),c47_65_e,(den_seq_l0 (show hasLabel c47_66 5 = false by kernel_rfl)),c47_67_e,(den_seq_l0 (show hasLabel c47_68 5 = false by kernel_rfl)),c47_75_e,(den_seq_l0 (show hasLabel c47_76 5 = false by kernel_rfl)),c47_90_e,(den_seq_l0 (show hasLabel c47_91 5 = false by kernel_rfl)),c47_92_e,(den_seq_l0 (show hasLabel c47_93 5 = false by kernel_rfl)),c47_94_e,(den_seq_l0 (show hasLabel c47_95 5 = false by kernel_rfl)),c47_96_e,(den_seq_l0 (show hasLabel c47_97 5 = false by kernel_rfl)),c47_104_e,(den_seq_l0 (show hasLabel c47_105 5 = false by kernel_rfl)),c47_110_e,(den_seq_l0 (show hasLabel c47_111 5 = false by kernel_rfl)),c47_112_e,(den_seq_l0 (show hasLabel c47_113 5 = false by kernel_rfl)),c47_114_e,(den_seq_l0 (show hasLabel c47_115 5 = false by kernel_rfl)),c47_122_e,(den_seq_l0 (show hasLabel c47_123 5 = false by kernel_rfl)),c47_130_e,(den_seq_l1 (show hasLabel (Code.label 5) 5 = true by kernel_rfl)),c47_131_e,c47_132_e,c47_133_e,c47_134_r,(show opsOf c47_134 = _ :: _ from rfl),c47_135_e,K47_2,setA,setB,za,zb,zc,zd,ze,zf,zg,zh,zi,zj,zk,zl,zm,zn,zo,zp,reduceCtorEq,zE,↓reduceIte]
 all_goals rfl
def s47_2x7 (b0_0:Bool) (b0_1:List UInt8) (l6_0:Bool) (l6_1:List (Bs×Bs)) (from7 to8 e9:Int) (h0_0_0:Bool) (h0_0_1:List UInt8) (h0_1:Int) (h0_2:UInt8):Option (((Bool×List UInt8) ⊕ (Bool×List UInt8×Bool×List (Bs×Bs)×Int×Int×Int×Bool×List UInt8×Int×UInt8) ⊕ (Bool×List UInt8×Bool×List (Bs×Bs)×Int×Int×Int×Bool×List UInt8×Int×UInt8) ⊕ (Bool×List UInt8×Bool×List (Bs×Bs)×Int×Int×Int×Bool×List UInt8×Int×UInt8) ⊕ (Bool×List UInt8×Bool×List (Bs×Bs)×Int×Int×Int×Bool×List UInt8×Int×UInt8) ⊕ (Bool×List UInt8×Bool×List (Bs×Bs)×Int×Int×Int×Bool×List UInt8×Int×UInt8) ⊕ (Bool×List UInt8×Bool×List (Bs×Bs)×Int×Int×Int×Bool×List UInt8×Int×UInt8) ⊕ (Bool×List UInt8×Bool×List (Bs×Bs)×Int×Int×Int×Bool×List UInt8×Int×UInt8) ⊕ (Bool×List UInt8×Bool×List (Bs×Bs)×Int×Int×Int×Bool×List UInt8×Int×UInt8)) ⊕ R47):=
 (bnd (w64 (to8 - 1)) b0_1.length).bind fun yk38=>
  (bnd from7 yk38).bind fun yk40=>
   (bnd (w64 (h0_1 - 1)) b0_1.length).bind fun yk42=>
    (bnd to8 yk42).bind fun yk44=>
     (m82 ((b0_1.take yk42).drop yk44)).bind fun yr46=>
      if (l6_1.length + 1) * 32≤140737488355328 then
       (m79 h0_0_0 h0_0_1 h0_1 h0_2).bind fun yr49=>
        if (yr49.1 == 0) = true then
         if (yr49.2.2.2.2 == (10:UInt8)) = true then
          some (.inl (.inr (.inr (.inr (.inr (.inr (.inr (.inr (.inr (b0_0,b0_1,false,(l6_1 ++ ([(((b0_1.take yk38).drop yk40),yr46)]:List (Bs×Bs))),from7,to8,yr49.1,yr49.2.1,yr49.2.2.1,yr49.2.2.2.1,yr49.2.2.2.2))))))))))
         else
          some (.inl (.inr (.inr (.inr (.inr (.inr (.inr (.inl (b0_0,b0_1,false,(l6_1 ++ ([(((b0_1.take yk38).drop yk40),yr46)]:List (Bs×Bs))),from7,to8,yr49.1,yr49.2.1,yr49.2.2.1,yr49.2.2.2.1,yr49.2.2.2.2)))))))))
        else
         some (.inl (.inr (.inr (.inr (.inr (.inr (.inl (b0_0,b0_1,false,(l6_1 ++ ([(((b0_1.take yk38).drop yk40),yr46)]:List (Bs×Bs))),from7,to8,yr49.1,yr49.2.1,yr49.2.2.1,yr49.2.2.2.1,yr49.2.2.2.2))))))))
      else none
theorem s47_2x7_t (b0_0:Bool) (b0_1:List UInt8) (l6_0:Bool) (l6_1:List (Bs×Bs)) (from7 to8 e9:Int) (h0_0_0:Bool) (h0_0_1:List UInt8) (h0_1:Int) (h0_2:UInt8):
  stepE (K47_2 (mm:=mm)) (scopeF (E0 mm) 47 0 (callW (E0 mm)) itW c47_3 [(0,.keep),(5,.keep),(6,.own),(7,.keep),(8,.keep),(9,.keep)] (some 7,[.v (.c (.d (.lst b0_0 (enL enB b0_1)))),.v (.c (.ptr 0 0)),.v (.c (.own l6_0 (enL enSS l6_1) 1)),.v (.c (.d (.sc (.int .i64 from7)))),.v (.c (.d (.sc (.int .i64 to8)))),.v (.c (.d (.sc (.int .i64 e9))))],[.cells [.d (.lst h0_0_0 (enL enB h0_0_1)),.d (.sc (.int .i64 h0_1)),.d (.sc (.int .u8 ((h0_2).toNat:Int)))],.row l6_1.length (rz l6_0 2)])) = (s47_2x7 b0_0 b0_1 l6_0 l6_1 from7 to8 e9 h0_0_0 h0_0_1 h0_1 h0_2).map (sm en47_2 e47):=by
 simp -implicitDefEqProofs only [s47_2x7,scopeF_eq,(show ∀ f st,den (E0 mm) 47 0 (callW (E0 mm)) itW c47_3 f st = den (E0 mm) 47 0 (callW (E0 mm)) itW (.seq c47_4 c47_5) f st from fun _ _=>rfl),(den_seq_l0 (show hasLabel c47_4 7 = false by kernel_rfl)),c47_5_e,(den_seq_l0 (show hasLabel c47_6 7 = false by kernel_rfl)),c47_7_e,(den_seq_l0 (show hasLabel c47_8 7 = false by kernel_rfl)),c47_9_e,(den_seq_l0 (show hasLabel c47_10 7 = false by kernel_rfl)),c47_11_e,(den_seq_l0 (show hasLabel c47_12 7 = false by kernel_rfl)),c47_13_e,(den_seq_l0 (show hasLabel c47_14 7 = false by kernel_rfl)),c47_15_e,(den_seq_l0 (show hasLabel c47_16 7 = false by kernel_rfl)),c47_23_e,(den_seq_l0 (show hasLabel c47_24 7 = false by kernel_rfl)),c47_34_e,(den_seq_l0 (show hasLabel c47_35 7 = false by kernel_rfl)),c47_36_e,(den_seq_l0 (show hasLabel c47_37 7 = false by kernel_rfl)),c47_49_e,(den_seq_l0 (show hasLabel c47_50 7 = false by kernel_rfl)),c47_57_e,(den_seq_l0 (show hasLabel c47_58 7 = false by kernel_rfl)),c47_63_e,(den_seq_l0 (show hasLabel c47_64 7 = false by kernel_rfl)),c47_65_e,(den_seq_l0 (show hasLabel c47_66 7 = false by kernel_rfl)),c47_67_e,(den_seq_l0 (show hasLabel c47_68 7 = false by kernel_rfl)),c47_75_e,(den_seq_l0 (show hasLabel c47_76 7 = false by kernel_rfl)),c47_90_e,(den_seq_l0 (show hasLabel c47_91 7 = false by kernel_rfl)),c47_92_e,(den_seq_l1 (show hasLabel (Code.label 7) 7 = true by kernel_rfl)),c47_93_e,c47_94_e,c47_95_r,(show opsOf c47_95 = _ :: _ from rfl),Tryz.underlying22,enB_a,sz5,runF_nil,runF_none,runF_some,runKF_t,runKF_f,runKF_x,stepKF_s,stepKF_x,tlT_c,tlT_n,hdT_c,hdT_n,footT_n,foot_t,readsO,setA,setB,za,zb,zc,zd,ze,zf,zg,zh,zi,zj,zk,zl,zm,zn,zo,zp,reduceCtorEq,zE,↓reduceIte]
 refine brM (fun yc37=>?_) (fun yk38 yc37=>?_)
 ·rw [yc37]; rfl
 ·simp -implicitDefEqProofs only [runF_nil,runF_none,runF_some,runKF_t,runKF_f,runKF_x,stepKF_s,stepKF_x,tlT_c,tlT_n,hdT_c,hdT_n,footT_n,foot_t,readsO,yc37,setA,setB,za,zb,zc,zd,ze,zf,zg,zh,zi,zj,zk,zl,zm,zn,zo,zp,reduceCtorEq,zE,↓reduceIte]
  refine brM (fun yc39=>?_) (fun yk40 yc39=>?_)
  ·rw [yc39]; rfl
  ·simp -implicitDefEqProofs only [Option.isNone_some,Bool.false_and,Bool.and_false,Bool.false_eq_true,if_false,Tryz.underlying22,Tryz.underlying9,Tryz.underlying5,Tryz.underlying135,sz3,ag3,enB_a,sz5,runF_nil,runF_none,runF_some,runKF_t,runKF_f,runKF_x,stepKF_s,stepKF_x,tlT_c,tlT_n,hdT_c,hdT_n,footT_n,foot_t,readsO,yc37,yc39,setA,setB,za,zb,zc,zd,ze,zf,zg,zh,zi,zj,zk,zl,zm,zn,zo,zp,reduceCtorEq,zE,↓reduceIte]
   refine brM (fun yc41=>?_) (fun yk42 yc41=>?_)
   ·rw [yc41]; rfl
   ·simp -implicitDefEqProofs only [runF_nil,runF_none,runF_some,runKF_t,runKF_f,runKF_x,stepKF_s,stepKF_x,tlT_c,tlT_n,hdT_c,hdT_n,footT_n,foot_t,readsO,yc37,yc39,yc41,setA,setB,za,zb,zc,zd,ze,zf,zg,zh,zi,zj,zk,zl,zm,zn,zo,zp,reduceCtorEq,zE,↓reduceIte]
    refine brM (fun yc43=>?_) (fun yk44 yc43=>?_)
    ·rw [yc43]; rfl
    ·simp -implicitDefEqProofs only [Option.isNone_some,Bool.false_and,Bool.and_false,Bool.false_eq_true,if_false,Tryz.underlying22,Tryz.underlying9,Tryz.underlying5,ent82,prm82,f82_t,runF_nil,runF_none,runF_some,runKF_t,runKF_f,runKF_x,stepKF_s,stepKF_x,tlT_c,tlT_n,hdT_c,hdT_n,footT_n,foot_t,readsO,yc37,yc39,yc41,yc43,setA,setB,za,zb,zc,zd,ze,zf,zg,zh,zi,zj,zk,zl,zm,zn,zo,zp,reduceCtorEq,zE,↓reduceIte]
     refine brM (fun yc45=>?_) (fun yr46 yc45=>?_)
     ·rw [yc45]; rfl
     ·simp -implicitDefEqProofs only [e82,Tryz.underlying58,zc58,sz9,Tryz.underlying23,sz58,hd20,nv21,rw22,ns23,ap23,runF_nil,runF_none,runF_some,runKF_t,runKF_f,runKF_x,stepKF_s,stepKF_x,tlT_c,tlT_n,hdT_c,hdT_n,footT_n,foot_t,readsO,yc37,yc39,yc41,yc43,yc45,setA,setB,za,zb,zc,zd,ze,zf,zg,zh,zi,zj,zk,zl,zm,zn,zo,zp,reduceCtorEq,zE,↓reduceIte]
      refine brP (fun yc47=>?_) (fun yc47=>?_)
      ·simp -implicitDefEqProofs only [ckF,foot_f,pair1,pair0,chgA,eqO,eqOb_cells,eqOb_row,eqOb_siter,eqOb_amapN,eqOb_amapC,eqOb_sm,eqE_S,eqE_SS,eqE_N,eqE_B,eqL,eqC,eqD,eqV,eqV1,eqB_refl,eq_self,decide_true,List.all_nil,List.getD_cons_zero,List.getD_cons_succ,Bool.and_self,c47_96_e,c47_97_e,c47_98_r,(show opsOf c47_98 = _ :: _ from rfl),ent79,prm79,f79_t,runF_nil,runF_none,runF_some,runKF_t,runKF_f,runKF_x,stepKF_s,stepKF_x,tlT_c,tlT_n,hdT_c,hdT_n,footT_n,foot_t,readsO,yc37,yc39,yc41,yc43,yc45,yc47,setA,setB,za,zb,zc,zd,ze,zf,zg,zh,zi,zj,zk,zl,zm,zn,zo,zp,reduceCtorEq,zE,↓reduceIte]
       refine brM (fun yc48=>?_) (fun yr49 yc48=>?_)
       ·rw [yc48]; rfl
       ·simp -implicitDefEqProofs only [e79,c47_99_e,c47_100_r,(show opsOf c47_100 = _ :: _ from rfl),(show c47_101 = Code.cond _ c47_102 c47_103 from rfl),runF_nil,runF_none,runF_some,runKF_t,runKF_f,runKF_x,stepKF_s,stepKF_x,tlT_c,tlT_n,hdT_c,hdT_n,footT_n,foot_t,readsO,yc37,yc39,yc41,yc43,yc45,yc47,yc48,setA,setB,za,zb,zc,zd,ze,zf,zg,zh,zi,zj,zk,zl,zm,zn,zo,zp,reduceCtorEq,zE,↓reduceIte]
        refine brB (fun yc50=>?_) (fun yc50=>?_)
        ·simp -implicitDefEqProofs only [c47_103_e,c47_104_e,c47_105_e,c47_106_r,(show opsOf c47_106 = _ :: _ from rfl),Tryz.underlying135,sz5,ag5,(show c47_107 = Code.cond _ c47_108 c47_109 from rfl),runF_nil,runF_none,runF_some,runKF_t,runKF_f,runKF_x,stepKF_s,stepKF_x,tlT_c,tlT_n,hdT_c,hdT_n,footT_n,foot_t,readsO,yc37,yc39,yc41,yc43,yc45,yc47,yc48,yc50,setA,setB,za,zb,zc,zd,ze,zf,zg,zh,zi,zj,zk,zl,zm,zn,zo,zp,reduceCtorEq,zE,↓reduceIte]
         refine brB (fun yc51=>?_) (fun yc51=>?_)
         ·simp -implicitDefEqProofs only [c47_108_e,(scopeK_g (show hasLabel c47_3 0 = true by kernel_rfl)),runF_nil,runF_none,runF_some,runKF_t,runKF_f,runKF_x,stepKF_s,stepKF_x,tlT_c,tlT_n,hdT_c,hdT_n,footT_n,foot_t,readsO,yc37,yc39,yc41,yc43,yc45,yc47,yc48,yc50,yc51,setA,setB,za,zb,zc,zd,ze,zf,zg,zh,zi,zj,zk,zl,zm,zn,zo,zp,reduceCtorEq,zE,↓reduceIte]
          all_goals rfl
         ·simp -implicitDefEqProofs only [c47_109_e,c47_110_e,c47_111_e,(scopeK_g (show hasLabel c47_3 5 = true by kernel_rfl)),runF_nil,runF_none,runF_some,runKF_t,runKF_f,runKF_x,stepKF_s,stepKF_x,tlT_c,tlT_n,hdT_c,hdT_n,footT_n,foot_t,readsO,yc37,yc39,yc41,yc43,yc45,yc47,yc48,yc50,yc51,setA,setB,za,zb,zc,zd,ze,zf,zg,zh,zi,zj,zk,zl,zm,zn,zo,zp,reduceCtorEq,zE,↓reduceIte]
          all_goals rfl
        ·simp -implicitDefEqProofs only [c47_102_e,(scopeK_g (show hasLabel c47_3 1 = true by kernel_rfl)),runF_nil,runF_none,runF_some,runKF_t,runKF_f,runKF_x,stepKF_s,stepKF_x,tlT_c,tlT_n,hdT_c,hdT_n,footT_n,foot_t,readsO,yc37,yc39,yc41,yc43,yc45,yc47,yc48,yc50,setA,setB,za,zb,zc,zd,ze,zf,zg,zh,zi,zj,zk,zl,zm,zn,zo,zp,reduceCtorEq,zE,↓reduceIte]
         all_goals rfl
      ·rw [if_neg yc47]; rfl
def j47_34v1 (b0_0:Bool) (b0_1:List UInt8) (l6_0:Bool) (l6_1:List (Bs×Bs)) (from7 to8 e9:Int) (h0_0_0:Bool) (h0_0_1:List UInt8) (h0_1:Int) (h0_2:UInt8):Option (((Bool×List UInt8) ⊕ (Bool×List UInt8×Bool×List (Bs×Bs)×Int×Int×Int×Bool×List UInt8×Int×UInt8) ⊕ (Bool×List UInt8×Bool×List (Bs×Bs)×Int×Int×Int×Bool×List UInt8×Int×UInt8) ⊕ (Bool×List UInt8×Bool×List (Bs×Bs)×Int×Int×Int×Bool×List UInt8×Int×UInt8) ⊕ (Bool×List UInt8×Bool×List (Bs×Bs)×Int×Int×Int×Bool×List UInt8×Int×UInt8) ⊕ (Bool×List UInt8×Bool×List (Bs×Bs)×Int×Int×Int×Bool×List UInt8×Int×UInt8) ⊕ (Bool×List UInt8×Bool×List (Bs×Bs)×Int×Int×Int×Bool×List UInt8×Int×UInt8) ⊕ (Bool×List UInt8×Bool×List (Bs×Bs)×Int×Int×Int×Bool×List UInt8×Int×UInt8) ⊕ (Bool×List UInt8×Bool×List (Bs×Bs)×Int×Int×Int×Bool×List UInt8×Int×UInt8)) ⊕ R47):=
 if (h0_2 == (58:UInt8)) = true then
  j47_40v1 b0_0 b0_1 l6_0 l6_1 from7 to8 e9 (decide ((w64 (from7 + 1)) < h0_1)) h0_0_0 h0_0_1 h0_1 h0_2
 else
  j47_40v1 b0_0 b0_1 l6_0 l6_1 from7 to8 e9 false h0_0_0 h0_0_1 h0_1 h0_2
theorem j47_34v1_t (b0_0:Bool) (b0_1:List UInt8) (l6_0:Bool) (l6_1:List (Bs×Bs)) (from7 to8 e9:Int) (h0_0_0:Bool) (h0_0_1:List UInt8) (h0_1:Int) (h0_2:UInt8)  (sl:Nat→AV) (zq0:sl 0 = .v (.c (.d (.lst b0_0 (enL enB b0_1))))) (zq5:sl 5 = .v (.c (.ptr 0 0))) (zq6:sl 6 = .v (.c (.own l6_0 (enL enSS l6_1) 1))) (zq7:sl 7 = .v (.c (.d (.sc (.int .i64 from7))))) (zq8:sl 8 = .v (.c (.d (.sc (.int .i64 to8))))) (zq9:sl 9 = .v (.c (.d (.sc (.int .i64 e9))))):
  stepE (K47_2 (mm:=mm)) (scopeK 0 [(0,.keep),(5,.keep),(6,.own),(7,.keep),(8,.keep),(9,.keep)] c47_3 (den (E0 mm) 47 0 (callW (E0 mm)) itW c47_34 none ⟨sl,[.cells [.d (.lst h0_0_0 (enL enB h0_0_1)),.d (.sc (.int .i64 h0_1)),.d (.sc (.int .u8 ((h0_2).toNat:Int)))],.row l6_1.length (rz l6_0 2)]⟩)) = (j47_34v1 b0_0 b0_1 l6_0 l6_1 from7 to8 e9 h0_0_0 h0_0_1 h0_1 h0_2).map (sm en47_2 e47):=by
 simp -implicitDefEqProofs only [j47_34v1,c47_34_e,c47_35_e,den_label_n,c47_36_e,c47_37_e,c47_38_e,c47_39_r,(show opsOf c47_39 = _ :: _ from rfl),Tryz.underlying135,sz5,ag5,zq0,zq5,zq6,zq7,zq8,zq9,setA,setB,za,zb,zc,zd,ze,zf,zg,zh,zi,zj,zk,zl,zm,zn,zo,zp,reduceCtorEq,zE,↓reduceIte]
 refine brB (fun yc57=>?_) (fun yc57=>?_)
 ·simp -implicitDefEqProofs only [Tryz.underlying135,sz3,ag3,zq0,zq5,zq6,zq7,zq8,zq9,yc57,setA,setB,za,zb,zc,zd,ze,zf,zg,zh,zi,zj,zk,zl,zm,zn,zo,zp,reduceCtorEq,zE,↓reduceIte]
  exact j47_40v1_t b0_0 b0_1 l6_0 l6_1 from7 to8 e9 (decide ((w64 (from7 + 1)) < h0_1)) h0_0_0 h0_0_1 h0_1 h0_2 _ (by exact zq0) (by exact zq5) (by exact zq6) (by exact zq7) (by exact zq8) (by exact zq9) (by rfl)
 ·simp -implicitDefEqProofs only [zq0,zq5,zq6,zq7,zq8,zq9,yc57,setA,setB,za,zb,zc,zd,ze,zf,zg,zh,zi,zj,zk,zl,zm,zn,zo,zp,reduceCtorEq,zE,↓reduceIte]
  exact j47_40v1_t b0_0 b0_1 l6_0 l6_1 from7 to8 e9 false h0_0_0 h0_0_1 h0_1 h0_2 _ (by exact zq0) (by exact zq5) (by exact zq6) (by exact zq7) (by exact zq8) (by exact zq9) (by rfl)
def j47_23v1 (b0_0:Bool) (b0_1:List UInt8) (l6_0:Bool) (l6_1:List (Bs×Bs)) (from7 to8 e9:Int) (h0_0_0:Bool) (h0_0_1:List UInt8) (h0_1:Int) (h0_2:UInt8):Option (((Bool×List UInt8) ⊕ (Bool×List UInt8×Bool×List (Bs×Bs)×Int×Int×Int×Bool×List UInt8×Int×UInt8) ⊕ (Bool×List UInt8×Bool×List (Bs×Bs)×Int×Int×Int×Bool×List UInt8×Int×UInt8) ⊕ (Bool×List UInt8×Bool×List (Bs×Bs)×Int×Int×Int×Bool×List UInt8×Int×UInt8) ⊕ (Bool×List UInt8×Bool×List (Bs×Bs)×Int×Int×Int×Bool×List UInt8×Int×UInt8) ⊕ (Bool×List UInt8×Bool×List (Bs×Bs)×Int×Int×Int×Bool×List UInt8×Int×UInt8) ⊕ (Bool×List UInt8×Bool×List (Bs×Bs)×Int×Int×Int×Bool×List UInt8×Int×UInt8) ⊕ (Bool×List UInt8×Bool×List (Bs×Bs)×Int×Int×Int×Bool×List UInt8×Int×UInt8) ⊕ (Bool×List UInt8×Bool×List (Bs×Bs)×Int×Int×Int×Bool×List UInt8×Int×UInt8)) ⊕ R47):=
 if (h0_2 == (13:UInt8)) = true then
  some (.inl (.inr (.inl (b0_0,b0_1,l6_0,l6_1,from7,to8,e9,h0_0_0,h0_0_1,h0_1,h0_2))))
 else
  if ((l6_1.length:Int) == 32) = true then
   some (.inl (.inr (.inr (.inr (.inl (b0_0,b0_1,l6_0,l6_1,from7,to8,e9,h0_0_0,h0_0_1,h0_1,h0_2))))))
  else
   j47_34v1 b0_0 b0_1 l6_0 l6_1 from7 to8 e9 h0_0_0 h0_0_1 h0_1 h0_2
theorem j47_23v1_t (b0_0:Bool) (b0_1:List UInt8) (l6_0:Bool) (l6_1:List (Bs×Bs)) (from7 to8 e9:Int) (h0_0_0:Bool) (h0_0_1:List UInt8) (h0_1:Int) (h0_2:UInt8)  (sl:Nat→AV) (zq0:sl 0 = .v (.c (.d (.lst b0_0 (enL enB b0_1))))) (zq5:sl 5 = .v (.c (.ptr 0 0))) (zq6:sl 6 = .v (.c (.own l6_0 (enL enSS l6_1) 1))) (zq7:sl 7 = .v (.c (.d (.sc (.int .i64 from7))))) (zq8:sl 8 = .v (.c (.d (.sc (.int .i64 to8))))) (zq9:sl 9 = .v (.c (.d (.sc (.int .i64 e9))))):
  stepE (K47_2 (mm:=mm)) (scopeK 0 [(0,.keep),(5,.keep),(6,.own),(7,.keep),(8,.keep),(9,.keep)] c47_3 (den (E0 mm) 47 0 (callW (E0 mm)) itW c47_23 none ⟨sl,[.cells [.d (.lst h0_0_0 (enL enB h0_0_1)),.d (.sc (.int .i64 h0_1)),.d (.sc (.int .u8 ((h0_2).toNat:Int)))],.row l6_1.length (rz l6_0 2)]⟩)) = (j47_23v1 b0_0 b0_1 l6_0 l6_1 from7 to8 e9 h0_0_0 h0_0_1 h0_1 h0_2).map (sm en47_2 e47):=by
 simp -implicitDefEqProofs only [j47_23v1,c47_23_e,c47_24_e,c47_25_e,c47_26_r,(show opsOf c47_26 = _ :: _ from rfl),Tryz.underlying135,sz5,ag5,(show c47_27 = Code.cond _ c47_28 c47_29 from rfl),zq0,zq5,zq6,zq7,zq8,zq9,setA,setB,za,zb,zc,zd,ze,zf,zg,zh,zi,zj,zk,zl,zm,zn,zo,zp,reduceCtorEq,zE,↓reduceIte]
 refine brB (fun yc55=>?_) (fun yc55=>?_)
 ·simp -implicitDefEqProofs only [c47_28_e,(scopeK_g (show hasLabel c47_3 2 = true by kernel_rfl)),zq0,zq5,zq6,zq7,zq8,zq9,yc55,setA,setB,za,zb,zc,zd,ze,zf,zg,zh,zi,zj,zk,zl,zm,zn,zo,zp,reduceCtorEq,zE,↓reduceIte]
  all_goals rfl
 ·simp -implicitDefEqProofs only [c47_29_e,c47_30_r,(show opsOf c47_30 = _ :: _ from rfl),Tryz.underlying23,(show c47_31 = Code.cond _ c47_32 c47_33 from rfl),zq0,zq5,zq6,zq7,zq8,zq9,yc55,setA,setB,za,zb,zc,zd,ze,zf,zg,zh,zi,zj,zk,zl,zm,zn,zo,zp,reduceCtorEq,zE,↓reduceIte]
  refine brB (fun yc56=>?_) (fun yc56=>?_)
  ·simp -implicitDefEqProofs only [c47_32_e,(scopeK_g (show hasLabel c47_3 3 = true by kernel_rfl)),zq0,zq5,zq6,zq7,zq8,zq9,yc55,yc56,setA,setB,za,zb,zc,zd,ze,zf,zg,zh,zi,zj,zk,zl,zm,zn,zo,zp,reduceCtorEq,zE,↓reduceIte]
   all_goals rfl
  ·simp -implicitDefEqProofs only [c47_33_e,zq0,zq5,zq6,zq7,zq8,zq9,yc55,yc56,setA,setB,za,zb,zc,zd,ze,zf,zg,zh,zi,zj,zk,zl,zm,zn,zo,zp,reduceCtorEq,zE,↓reduceIte]
   exact j47_34v1_t b0_0 b0_1 l6_0 l6_1 from7 to8 e9 h0_0_0 h0_0_1 h0_1 h0_2 _ (by exact zq0) (by exact zq5) (by exact zq6) (by exact zq7) (by exact zq8) (by exact zq9)
def s47_2x8 (b0_0:Bool) (b0_1:List UInt8) (l6_0:Bool) (l6_1:List (Bs×Bs)) (from7 to8 e9:Int) (h0_0_0:Bool) (h0_0_1:List UInt8) (h0_1:Int) (h0_2:UInt8):Option (((Bool×List UInt8) ⊕ (Bool×List UInt8×Bool×List (Bs×Bs)×Int×Int×Int×Bool×List UInt8×Int×UInt8) ⊕ (Bool×List UInt8×Bool×List (Bs×Bs)×Int×Int×Int×Bool×List UInt8×Int×UInt8) ⊕ (Bool×List UInt8×Bool×List (Bs×Bs)×Int×Int×Int×Bool×List UInt8×Int×UInt8) ⊕ (Bool×List UInt8×Bool×List (Bs×Bs)×Int×Int×Int×Bool×List UInt8×Int×UInt8) ⊕ (Bool×List UInt8×Bool×List (Bs×Bs)×Int×Int×Int×Bool×List UInt8×Int×UInt8) ⊕ (Bool×List UInt8×Bool×List (Bs×Bs)×Int×Int×Int×Bool×List UInt8×Int×UInt8) ⊕ (Bool×List UInt8×Bool×List (Bs×Bs)×Int×Int×Int×Bool×List UInt8×Int×UInt8) ⊕ (Bool×List UInt8×Bool×List (Bs×Bs)×Int×Int×Int×Bool×List UInt8×Int×UInt8)) ⊕ R47):=
 (m79 h0_0_0 h0_0_1 h0_1 h0_2).bind fun yr53=>
  if (yr53.1 == 0) = true then
   j47_23v1 b0_0 b0_1 l6_0 l6_1 h0_1 to8 yr53.1 yr53.2.1 yr53.2.2.1 yr53.2.2.2.1 yr53.2.2.2.2
  else
   some (.inl (.inr (.inr (.inr (.inr (.inr (.inl (b0_0,b0_1,l6_0,l6_1,h0_1,to8,yr53.1,yr53.2.1,yr53.2.2.1,yr53.2.2.2.1,yr53.2.2.2.2))))))))
theorem s47_2x8_t (b0_0:Bool) (b0_1:List UInt8) (l6_0:Bool) (l6_1:List (Bs×Bs)) (from7 to8 e9:Int) (h0_0_0:Bool) (h0_0_1:List UInt8) (h0_1:Int) (h0_2:UInt8):
  stepE (K47_2 (mm:=mm)) (scopeF (E0 mm) 47 0 (callW (E0 mm)) itW c47_3 [(0,.keep),(5,.keep),(6,.own),(7,.keep),(8,.keep),(9,.keep)] (some 0,[.v (.c (.d (.lst b0_0 (enL enB b0_1)))),.v (.c (.ptr 0 0)),.v (.c (.own l6_0 (enL enSS l6_1) 1)),.v (.c (.d (.sc (.int .i64 from7)))),.v (.c (.d (.sc (.int .i64 to8)))),.v (.c (.d (.sc (.int .i64 e9))))],[.cells [.d (.lst h0_0_0 (enL enB h0_0_1)),.d (.sc (.int .i64 h0_1)),.d (.sc (.int .u8 ((h0_2).toNat:Int)))],.row l6_1.length (rz l6_0 2)])) = (s47_2x8 b0_0 b0_1 l6_0 l6_1 from7 to8 e9 h0_0_0 h0_0_1 h0_1 h0_2).map (sm en47_2 e47):=by
 simp -implicitDefEqProofs only [s47_2x8,scopeF_eq,(show ∀ f st,den (E0 mm) 47 0 (callW (E0 mm)) itW c47_3 f st = den (E0 mm) 47 0 (callW (E0 mm)) itW (.seq c47_4 c47_5) f st from fun _ _=>rfl),(den_seq_l0 (show hasLabel c47_4 0 = false by kernel_rfl)),c47_5_e,(den_seq_l0 (show hasLabel c47_6 0 = false by kernel_rfl)),c47_7_e,(den_seq_l0 (show hasLabel c47_8 0 = false by kernel_rfl)),c47_9_e,(den_seq_l0 (show hasLabel c47_10 0 = false by kernel_rfl)),c47_11_e,(den_seq_l1 (show hasLabel (Code.label 0) 0 = true by kernel_rfl)),c47_12_e,c47_13_e,c47_14_r,(show opsOf c47_14 = _ :: _ from rfl),Tryz.underlying135,sz3,ag3,c47_15_e,c47_16_e,c47_17_r,(show opsOf c47_17 = _ :: _ from rfl),ent79,prm79,f79_t,setA,setB,za,zb,zc,zd,ze,zf,zg,zh,zi,zj,zk,zl,zm,zn,zo,zp,reduceCtorEq,zE,↓reduceIte]
 refine brM (fun yc52=>?_) (fun yr53 yc52=>?_)
 ·rw [yc52]; rfl
 ·simp -implicitDefEqProofs only [e79,c47_18_e,c47_19_r,(show opsOf c47_19 = _ :: _ from rfl),(show c47_20 = Code.cond _ c47_21 c47_22 from rfl),yc52,setA,setB,za,zb,zc,zd,ze,zf,zg,zh,zi,zj,zk,zl,zm,zn,zo,zp,reduceCtorEq,zE,↓reduceIte]
  refine brB (fun yc54=>?_) (fun yc54=>?_)
  ·simp -implicitDefEqProofs only [c47_22_e,yc52,yc54,setA,setB,za,zb,zc,zd,ze,zf,zg,zh,zi,zj,zk,zl,zm,zn,zo,zp,reduceCtorEq,zE,↓reduceIte]
   exact j47_23v1_t b0_0 b0_1 l6_0 l6_1 h0_1 to8 yr53.1 yr53.2.1 yr53.2.2.1 yr53.2.2.2.1 yr53.2.2.2.2 _ (by rfl) (by rfl) (by rfl) (by rfl) (by rfl) (by rfl)
  ·simp -implicitDefEqProofs only [c47_21_e,(scopeK_g (show hasLabel c47_3 1 = true by kernel_rfl)),yc52,yc54,setA,setB,za,zb,zc,zd,ze,zf,zg,zh,zi,zj,zk,zl,zm,zn,zo,zp,reduceCtorEq,zE,↓reduceIte]
   all_goals rfl
def s47_2:((Bool×List UInt8) ⊕ (Bool×List UInt8×Bool×List (Bs×Bs)×Int×Int×Int×Bool×List UInt8×Int×UInt8) ⊕ (Bool×List UInt8×Bool×List (Bs×Bs)×Int×Int×Int×Bool×List UInt8×Int×UInt8) ⊕ (Bool×List UInt8×Bool×List (Bs×Bs)×Int×Int×Int×Bool×List UInt8×Int×UInt8) ⊕ (Bool×List UInt8×Bool×List (Bs×Bs)×Int×Int×Int×Bool×List UInt8×Int×UInt8) ⊕ (Bool×List UInt8×Bool×List (Bs×Bs)×Int×Int×Int×Bool×List UInt8×Int×UInt8) ⊕ (Bool×List UInt8×Bool×List (Bs×Bs)×Int×Int×Int×Bool×List UInt8×Int×UInt8) ⊕ (Bool×List UInt8×Bool×List (Bs×Bs)×Int×Int×Int×Bool×List UInt8×Int×UInt8) ⊕ (Bool×List UInt8×Bool×List (Bs×Bs)×Int×Int×Int×Bool×List UInt8×Int×UInt8))→Option (((Bool×List UInt8) ⊕ (Bool×List UInt8×Bool×List (Bs×Bs)×Int×Int×Int×Bool×List UInt8×Int×UInt8) ⊕ (Bool×List UInt8×Bool×List (Bs×Bs)×Int×Int×Int×Bool×List UInt8×Int×UInt8) ⊕ (Bool×List UInt8×Bool×List (Bs×Bs)×Int×Int×Int×Bool×List UInt8×Int×UInt8) ⊕ (Bool×List UInt8×Bool×List (Bs×Bs)×Int×Int×Int×Bool×List UInt8×Int×UInt8) ⊕ (Bool×List UInt8×Bool×List (Bs×Bs)×Int×Int×Int×Bool×List UInt8×Int×UInt8) ⊕ (Bool×List UInt8×Bool×List (Bs×Bs)×Int×Int×Int×Bool×List UInt8×Int×UInt8) ⊕ (Bool×List UInt8×Bool×List (Bs×Bs)×Int×Int×Int×Bool×List UInt8×Int×UInt8) ⊕ (Bool×List UInt8×Bool×List (Bs×Bs)×Int×Int×Int×Bool×List UInt8×Int×UInt8)) ⊕ R47):=fun x=>match x with
 | (.inl x)=>s47_2x0 x.1 x.2
 | (.inr (.inl x))=>s47_2x1 x.1 x.2.1 x.2.2.1 x.2.2.2.1 x.2.2.2.2.1 x.2.2.2.2.2.1 x.2.2.2.2.2.2.1 x.2.2.2.2.2.2.2.1 x.2.2.2.2.2.2.2.2.1 x.2.2.2.2.2.2.2.2.2.1 x.2.2.2.2.2.2.2.2.2.2
 | (.inr (.inr (.inl x)))=>s47_2x2 x.1 x.2.1 x.2.2.1 x.2.2.2.1 x.2.2.2.2.1 x.2.2.2.2.2.1 x.2.2.2.2.2.2.1 x.2.2.2.2.2.2.2.1 x.2.2.2.2.2.2.2.2.1 x.2.2.2.2.2.2.2.2.2.1 x.2.2.2.2.2.2.2.2.2.2
 | (.inr (.inr (.inr (.inl x))))=>s47_2x3 x.1 x.2.1 x.2.2.1 x.2.2.2.1 x.2.2.2.2.1 x.2.2.2.2.2.1 x.2.2.2.2.2.2.1 x.2.2.2.2.2.2.2.1 x.2.2.2.2.2.2.2.2.1 x.2.2.2.2.2.2.2.2.2.1 x.2.2.2.2.2.2.2.2.2.2
 | (.inr (.inr (.inr (.inr (.inl x)))))=>s47_2x4 x.1 x.2.1 x.2.2.1 x.2.2.2.1 x.2.2.2.2.1 x.2.2.2.2.2.1 x.2.2.2.2.2.2.1 x.2.2.2.2.2.2.2.1 x.2.2.2.2.2.2.2.2.1 x.2.2.2.2.2.2.2.2.2.1 x.2.2.2.2.2.2.2.2.2.2
 | (.inr (.inr (.inr (.inr (.inr (.inl x))))))=>s47_2x5 x.1 x.2.1 x.2.2.1 x.2.2.2.1 x.2.2.2.2.1 x.2.2.2.2.2.1 x.2.2.2.2.2.2.1 x.2.2.2.2.2.2.2.1 x.2.2.2.2.2.2.2.2.1 x.2.2.2.2.2.2.2.2.2.1 x.2.2.2.2.2.2.2.2.2.2
 | (.inr (.inr (.inr (.inr (.inr (.inr (.inl x)))))))=>s47_2x6 x.1 x.2.1 x.2.2.1 x.2.2.2.1 x.2.2.2.2.1 x.2.2.2.2.2.1 x.2.2.2.2.2.2.1 x.2.2.2.2.2.2.2.1 x.2.2.2.2.2.2.2.2.1 x.2.2.2.2.2.2.2.2.2.1 x.2.2.2.2.2.2.2.2.2.2
 | (.inr (.inr (.inr (.inr (.inr (.inr (.inr (.inl x))))))))=>s47_2x7 x.1 x.2.1 x.2.2.1 x.2.2.2.1 x.2.2.2.2.1 x.2.2.2.2.2.1 x.2.2.2.2.2.2.1 x.2.2.2.2.2.2.2.1 x.2.2.2.2.2.2.2.2.1 x.2.2.2.2.2.2.2.2.2.1 x.2.2.2.2.2.2.2.2.2.2
 | (.inr (.inr (.inr (.inr (.inr (.inr (.inr (.inr x))))))))=>s47_2x8 x.1 x.2.1 x.2.2.1 x.2.2.2.1 x.2.2.2.2.1 x.2.2.2.2.2.1 x.2.2.2.2.2.2.1 x.2.2.2.2.2.2.2.1 x.2.2.2.2.2.2.2.2.1 x.2.2.2.2.2.2.2.2.2.1 x.2.2.2.2.2.2.2.2.2.2
def l47_2 (b0_0:Bool) (b0_1:List UInt8):Option R47:=iter s47_2 (.inl (b0_0,b0_1))
theorem l47_2_t (b0_0:Bool) (b0_1:List UInt8):bodyD (E0 mm) [.tmp 2,.tmp 3,.tmp 4] 0 false (itW (scopeF (E0 mm) 47 0 (callW (E0 mm)) itW c47_3 [(0,.keep),(5,.keep),(6,.own),(7,.keep),(8,.keep),(9,.keep)]) (none,[.v (.c (.d (.lst b0_0 (enL enB b0_1)))),.dead,.dead,.dead,.dead,.dead],[])) = (l47_2 b0_0 b0_1).map e47:=
 it_sim (K:=(K47_2 (mm:=mm))) rfl (enc:=en47_2) (fun x=>match x with
 | (.inl x)=>s47_2x0_t x.1 x.2
 | (.inr (.inl x))=>s47_2x1_t x.1 x.2.1 x.2.2.1 x.2.2.2.1 x.2.2.2.2.1 x.2.2.2.2.2.1 x.2.2.2.2.2.2.1 x.2.2.2.2.2.2.2.1 x.2.2.2.2.2.2.2.2.1 x.2.2.2.2.2.2.2.2.2.1 x.2.2.2.2.2.2.2.2.2.2
 | (.inr (.inr (.inl x)))=>s47_2x2_t x.1 x.2.1 x.2.2.1 x.2.2.2.1 x.2.2.2.2.1 x.2.2.2.2.2.1 x.2.2.2.2.2.2.1 x.2.2.2.2.2.2.2.1 x.2.2.2.2.2.2.2.2.1 x.2.2.2.2.2.2.2.2.2.1 x.2.2.2.2.2.2.2.2.2.2
 | (.inr (.inr (.inr (.inl x))))=>s47_2x3_t x.1 x.2.1 x.2.2.1 x.2.2.2.1 x.2.2.2.2.1 x.2.2.2.2.2.1 x.2.2.2.2.2.2.1 x.2.2.2.2.2.2.2.1 x.2.2.2.2.2.2.2.2.1 x.2.2.2.2.2.2.2.2.2.1 x.2.2.2.2.2.2.2.2.2.2
 | (.inr (.inr (.inr (.inr (.inl x)))))=>s47_2x4_t x.1 x.2.1 x.2.2.1 x.2.2.2.1 x.2.2.2.2.1 x.2.2.2.2.2.1 x.2.2.2.2.2.2.1 x.2.2.2.2.2.2.2.1 x.2.2.2.2.2.2.2.2.1 x.2.2.2.2.2.2.2.2.2.1 x.2.2.2.2.2.2.2.2.2.2
 | (.inr (.inr (.inr (.inr (.inr (.inl x))))))=>s47_2x5_t x.1 x.2.1 x.2.2.1 x.2.2.2.1 x.2.2.2.2.1 x.2.2.2.2.2.1 x.2.2.2.2.2.2.1 x.2.2.2.2.2.2.2.1 x.2.2.2.2.2.2.2.2.1 x.2.2.2.2.2.2.2.2.2.1 x.2.2.2.2.2.2.2.2.2.2
 | (.inr (.inr (.inr (.inr (.inr (.inr (.inl x)))))))=>s47_2x6_t x.1 x.2.1 x.2.2.1 x.2.2.2.1 x.2.2.2.2.1 x.2.2.2.2.2.1 x.2.2.2.2.2.2.1 x.2.2.2.2.2.2.2.1 x.2.2.2.2.2.2.2.2.1 x.2.2.2.2.2.2.2.2.2.1 x.2.2.2.2.2.2.2.2.2.2
 | (.inr (.inr (.inr (.inr (.inr (.inr (.inr (.inl x))))))))=>s47_2x7_t x.1 x.2.1 x.2.2.1 x.2.2.2.1 x.2.2.2.2.1 x.2.2.2.2.2.1 x.2.2.2.2.2.2.1 x.2.2.2.2.2.2.2.1 x.2.2.2.2.2.2.2.2.1 x.2.2.2.2.2.2.2.2.2.1 x.2.2.2.2.2.2.2.2.2.2
 | (.inr (.inr (.inr (.inr (.inr (.inr (.inr (.inr x))))))))=>s47_2x8_t x.1 x.2.1 x.2.2.1 x.2.2.2.1 x.2.2.2.2.1 x.2.2.2.2.2.1 x.2.2.2.2.2.2.1 x.2.2.2.2.2.2.2.1 x.2.2.2.2.2.2.2.2.1 x.2.2.2.2.2.2.2.2.2.1 x.2.2.2.2.2.2.2.2.2.2) (.inl (b0_0,b0_1))
def m47 (b_0:Bool) (b_1:List UInt8):Option R47:=
 l47_2 b_0 b_1
theorem f47_t (b_0:Bool) (b_1:List UInt8):
  callW (E0 mm) 47 [.c (.d (.lst b_0 (enL enB b_1)))] [] = (m47 b_0 b_1).map e47:=by
 rw [callW_run (body:=c47_0) (res:=[.tmp 2,.tmp 3,.tmp 4]) Tryz.func47 rfl rfl (by kernel_rfl)]
 simp -implicitDefEqProofs only [m47,slots1,c47_0_e,c47_1_r,(show opsOf c47_1 = _ :: _ from rfl),c47_2_l,setA,setB,za,zb,zc,zd,ze,zf,zg,zh,zi,zj,zk,zl,zm,zn,zo,zp,reduceCtorEq,zE,↓reduceIte]
 exact l47_2_t b_0 b_1
end
end Go.Proofs.YtoohbnmhjfgclaaGreatDoor
