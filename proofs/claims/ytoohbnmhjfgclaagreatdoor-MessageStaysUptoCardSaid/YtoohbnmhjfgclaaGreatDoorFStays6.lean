/- The Go functions as plain functions, and that the evaluator computes them. -/
import Derived.Test.YtoohbnmhjfgclaaGreatDoorFStays5
set_option linter.all false
set_option maxRecDepth 100000
namespace Go.Proofs.YtoohbnmhjfgclaaGreatDoor
open Go Go.Ab
open Nat renaming reduceEqDiff→za,reduceAdd→zb,reduceLeDiff→zc,reduceLT→zd,reduceMul→ze,reduceBEq→zf,reduceSub→zg,reducePow→zh
open Int renaming reduceEq→zi,reduceLE→zj,reduceLT→zk,reduceToNat→zl,reduceNegSucc→zm,reduceAdd→zn,reduceBEq→zo
open String renaming reduceBEq→zp
set_option maxHeartbeats 4000000
noncomputable section
variable {mm:Int}
noncomputable def c53_0:Code:=bodyOf Tryz.f53
def c53_1:=cA c53_0
def c53_2:=cB c53_0
def c53_3:=cA c53_2
def c53_4:=cA c53_3
def c53_5:=cB c53_3
def c53_6:=cA c53_5
def c53_7:=cB c53_5
def c53_8:=cA c53_7
def c53_9:=cB c53_7
def c53_10:=cA c53_9
def c53_11:=cB c53_9
def c53_12:=cA c53_11
def c53_13:=cB c53_11
def c53_14:=cA c53_13
def c53_15:=cB c53_13
def c53_16:=cA c53_15
def c53_17:=cA c53_16
def c53_18:=cB c53_16
def c53_19:=cA c53_18
def c53_20:=cB c53_18
def c53_21:=cA c53_20
def c53_22:=cA c53_21
def c53_23:=cB c53_21
def c53_24:=cA c53_23
def c53_25:=cA c53_24
def c53_26:=cB c53_24
def c53_27:=cB c53_23
def c53_28:=cB c53_20
def c53_29:=cA c53_28
def c53_30:=cA c53_29
def c53_31:=cB c53_29
def c53_32:=cA c53_31
def c53_33:=cA c53_32
def c53_34:=cB c53_32
def c53_35:=cB c53_31
def c53_36:=cB c53_28
def c53_37:=cA c53_36
def c53_38:=cB c53_36
def c53_39:=cA c53_38
def c53_40:=cB c53_38
def c53_41:=cA c53_40
def c53_42:=cB c53_40
def c53_43:=cA c53_42
def c53_44:=cA c53_43
def c53_45:=cB c53_43
def c53_46:=cB c53_42
def c53_47:=cB c53_15
def c53_48:=cA c53_47
def c53_49:=cA c53_48
def c53_50:=cB c53_48
def c53_51:=cA c53_50
def c53_52:=cB c53_50
def c53_53:=cA c53_52
def c53_54:=cB c53_52
def c53_55:=cB c53_47
def c53_56:=cA c53_55
def c53_57:=cA c53_56
def c53_58:=cB c53_56
def c53_59:=cA c53_58
def c53_60:=cA c53_59
def c53_61:=cB c53_59
def c53_62:=cB c53_58
def c53_63:=cB c53_55
def c53_64:=cA c53_63
def c53_65:=cA c53_64
def c53_66:=cB c53_64
def c53_67:=cA c53_66
def c53_68:=cB c53_66
def c53_69:=cB c53_63
def c53_70:=cA c53_69
def c53_71:=cA c53_70
def c53_72:=cB c53_70
def c53_73:=cA c53_72
def c53_74:=cA c53_73
def c53_75:=cB c53_73
def c53_76:=cB c53_72
def c53_77:=cB c53_69
def c53_78:=cA c53_77
def c53_79:=cA c53_78
def c53_80:=cB c53_78
def c53_81:=cA c53_80
def c53_82:=cB c53_80
def c53_83:=cB c53_77
def c53_84:=cA c53_83
def c53_85:=cA c53_84
def c53_86:=cB c53_84
def c53_87:=cA c53_86
def c53_88:=cA c53_87
def c53_89:=cB c53_87
def c53_90:=cB c53_86
def c53_91:=cB c53_83
def c53_92:=cA c53_91
def c53_93:=cB c53_91
def c53_94:=cA c53_93
def c53_95:=cB c53_93
def c53_96:=cA c53_95
def c53_97:=cB c53_95
def c53_98:=cA c53_97
def c53_99:=cA c53_98
def c53_100:=cB c53_98
def c53_101:=cA c53_100
def c53_102:=cA c53_101
def c53_103:=cB c53_101
def c53_104:=cA c53_103
def c53_105:=cA c53_104
def c53_106:=cB c53_104
def c53_107:=cB c53_103
def c53_108:=cB c53_100
def c53_109:=cA c53_108
def c53_110:=cB c53_108
def c53_111:=cB c53_97
def c53_112:=cA c53_111
def c53_113:=cB c53_111
def c53_114:=cA c53_113
def c53_115:=cB c53_113
theorem c53_0_e:c53_0 = .seq c53_1 c53_2:=rfl
theorem c53_1_r:RG (E0 mm) 53 c53_1:=rgN rfl
theorem c53_2_l (m:Nat) (st:St):den (E0 mm) 53 m (callW (E0 mm)) itW c53_2 none st = loopD itW (scopeF (E0 mm) 53 m (callW (E0 mm)) itW c53_3 [(0,.keep),(5,.keep),(6,.keep),(9,.keep)]) (canon m [(0,.keep),(5,.keep),(6,.keep),(9,.keep)] st):=rfl
theorem c53_4_r:RG (E0 mm) 53 c53_4:=rgN rfl
theorem c53_5_e:c53_5 = .seq c53_6 c53_7:=rfl
theorem c53_6_r:RG (E0 mm) 53 c53_6:=rgN rfl
theorem c53_7_e:c53_7 = .seq c53_8 c53_9:=rfl
theorem c53_8_r:RG (E0 mm) 53 c53_8:=rgN rfl
theorem c53_9_e:c53_9 = .seq c53_10 c53_11:=rfl
theorem c53_10_r:RG (E0 mm) 53 c53_10:=rgN rfl
theorem c53_11_e:c53_11 = .seq c53_12 c53_13:=rfl
theorem c53_12_r:RG (E0 mm) 53 c53_12:=rgN rfl
theorem c53_13_e:c53_13 = .seq c53_14 c53_15:=rfl
theorem c53_14_e:c53_14 = .label 1:=rfl
theorem c53_15_e:c53_15 = .seq c53_16 c53_47:=rfl
theorem c53_16_e:c53_16 = .seq c53_17 c53_18:=rfl
theorem c53_17_r:RG (E0 mm) 53 c53_17:=rgN rfl
theorem c53_18_e:c53_18 = .seq c53_19 c53_20:=rfl
theorem c53_19_r:RG (E0 mm) 53 c53_19:=rgN rfl
theorem c53_20_e:c53_20 = .seq c53_21 c53_28:=rfl
theorem c53_21_e:c53_21 = .seq c53_22 c53_23:=rfl
theorem c53_22_r:RG (E0 mm) 53 c53_22:=rgN rfl
theorem c53_24_e:c53_24 = .seq c53_25 c53_26:=rfl
theorem c53_25_r:RG (E0 mm) 53 c53_25:=rgN rfl
theorem c53_26_e:c53_26 = .goto 0:=rfl
theorem c53_27_e:c53_27 = .skip:=rfl
theorem c53_28_e:c53_28 = .seq c53_29 c53_36:=rfl
theorem c53_29_e:c53_29 = .seq c53_30 c53_31:=rfl
theorem c53_30_r:RG (E0 mm) 53 c53_30:=rgN rfl
theorem c53_32_e:c53_32 = .seq c53_33 c53_34:=rfl
theorem c53_33_r:RG (E0 mm) 53 c53_33:=rgN rfl
theorem c53_34_e:c53_34 = .goto 0:=rfl
theorem c53_35_e:c53_35 = .skip:=rfl
theorem c53_36_e:c53_36 = .seq c53_37 c53_38:=rfl
theorem c53_37_r:RG (E0 mm) 53 c53_37:=rgN rfl
theorem c53_38_e:c53_38 = .seq c53_39 c53_40:=rfl
theorem c53_39_r:RG (E0 mm) 53 c53_39:=rgN rfl
theorem c53_40_e:c53_40 = .seq c53_41 c53_42:=rfl
theorem c53_41_r:RG (E0 mm) 53 c53_41:=rgN rfl
theorem c53_43_e:c53_43 = .seq c53_44 c53_45:=rfl
theorem c53_44_r:RG (E0 mm) 53 c53_44:=rgN rfl
theorem c53_45_e:c53_45 = .goto 0:=rfl
theorem c53_46_e:c53_46 = .skip:=rfl
theorem c53_47_e:c53_47 = .seq c53_48 c53_55:=rfl
theorem c53_48_e:c53_48 = .seq c53_49 c53_50:=rfl
theorem c53_49_r:RG (E0 mm) 53 c53_49:=rgN rfl
theorem c53_50_e:c53_50 = .seq c53_51 c53_52:=rfl
theorem c53_51_r:RG (E0 mm) 53 c53_51:=rgN rfl
theorem c53_53_e:c53_53 = .goto 0:=rfl
theorem c53_54_e:c53_54 = .skip:=rfl
theorem c53_55_e:c53_55 = .seq c53_56 c53_63:=rfl
theorem c53_56_e:c53_56 = .seq c53_57 c53_58:=rfl
theorem c53_57_r:RG (E0 mm) 53 c53_57:=rgN rfl
theorem c53_59_e:c53_59 = .seq c53_60 c53_61:=rfl
theorem c53_60_r:RG (E0 mm) 53 c53_60:=rgN rfl
theorem c53_61_e:c53_61 = .goto 0:=rfl
theorem c53_62_e:c53_62 = .skip:=rfl
theorem c53_63_e:c53_63 = .seq c53_64 c53_69:=rfl
theorem c53_64_e:c53_64 = .seq c53_65 c53_66:=rfl
theorem c53_65_r:RG (E0 mm) 53 c53_65:=rgN rfl
theorem c53_67_e:c53_67 = .goto 2:=rfl
theorem c53_68_e:c53_68 = .skip:=rfl
theorem c53_69_e:c53_69 = .seq c53_70 c53_77:=rfl
theorem c53_70_e:c53_70 = .seq c53_71 c53_72:=rfl
theorem c53_71_r:RG (E0 mm) 53 c53_71:=rgN rfl
theorem c53_73_e:c53_73 = .seq c53_74 c53_75:=rfl
theorem c53_74_r:RG (E0 mm) 53 c53_74:=rgN rfl
theorem c53_75_e:c53_75 = .goto 0:=rfl
theorem c53_76_e:c53_76 = .skip:=rfl
theorem c53_77_e:c53_77 = .seq c53_78 c53_83:=rfl
theorem c53_78_e:c53_78 = .seq c53_79 c53_80:=rfl
theorem c53_79_r:RG (E0 mm) 53 c53_79:=rgN rfl
theorem c53_80_e:c53_80 = .seq c53_81 c53_82:=rfl
theorem c53_81_r:RG (E0 mm) 53 c53_81:=rgD (by kernel_rfl)
theorem c53_82_r:RG (E0 mm) 53 c53_82:=rgN rfl
theorem c53_83_e:c53_83 = .seq c53_84 c53_91:=rfl
theorem c53_84_e:c53_84 = .seq c53_85 c53_86:=rfl
theorem c53_85_r:RG (E0 mm) 53 c53_85:=rgN rfl
theorem c53_87_e:c53_87 = .seq c53_88 c53_89:=rfl
theorem c53_88_r:RG (E0 mm) 53 c53_88:=rgN rfl
theorem c53_89_e:c53_89 = .goto 0:=rfl
theorem c53_90_e:c53_90 = .skip:=rfl
theorem c53_91_e:c53_91 = .seq c53_92 c53_93:=rfl
theorem c53_92_r:RG (E0 mm) 53 c53_92:=rgN rfl
theorem c53_93_e:c53_93 = .seq c53_94 c53_95:=rfl
theorem c53_94_e:c53_94 = .goto 1:=rfl
theorem c53_95_e:c53_95 = .seq c53_96 c53_97:=rfl
theorem c53_96_e:c53_96 = .label 2:=rfl
theorem c53_97_e:c53_97 = .seq c53_98 c53_111:=rfl
theorem c53_98_e:c53_98 = .seq c53_99 c53_100:=rfl
theorem c53_99_r:RG (E0 mm) 53 c53_99:=rgN rfl
theorem c53_100_e:c53_100 = .seq c53_101 c53_108:=rfl
theorem c53_101_e:c53_101 = .seq c53_102 c53_103:=rfl
theorem c53_102_r:RG (E0 mm) 53 c53_102:=rgN rfl
theorem c53_104_e:c53_104 = .seq c53_105 c53_106:=rfl
theorem c53_105_r:RG (E0 mm) 53 c53_105:=rgN rfl
theorem c53_106_e:c53_106 = .goto 0:=rfl
theorem c53_107_e:c53_107 = .skip:=rfl
theorem c53_108_e:c53_108 = .seq c53_109 c53_110:=rfl
theorem c53_109_r:RG (E0 mm) 53 c53_109:=rgN rfl
theorem c53_110_e:c53_110 = .ret:=rfl
theorem c53_111_e:c53_111 = .seq c53_112 c53_113:=rfl
theorem c53_112_e:c53_112 = .label 0:=rfl
theorem c53_113_e:c53_113 = .seq c53_114 c53_115:=rfl
theorem c53_114_r:RG (E0 mm) 53 c53_114:=rgN rfl
theorem c53_115_e:c53_115 = .ret:=rfl
abbrev R53:=(Bool×List UInt8×Int×Int)
def e53:R53→AV×Heap:=fun x=>(.tup [.c (.d (.lst x.1 (enL enB x.2.1))),.c (.d (.sc (.int .i64 x.2.2.1))),.c (.d (.sc (.int .i64 x.2.2.2)))],[])
def K53_2:Option (Ex×St)→Option (AV×Heap):=fun r=>bodyD (E0 mm) [.tmp 2,.tmp 3,.tmp 4] 0 false (r)
def en53_2:((Bool×List UInt8) ⊕ (Bool×List UInt8×Bool×List UInt8×Int×Int) ⊕ (Bool×List UInt8×Bool×List UInt8×Int×Int) ⊕ (Bool×List UInt8×Nat×Nat×Int×Int×List UInt8) ⊕ (Bool×List UInt8×Nat×Nat×Int×Int×List UInt8) ⊕ (Bool×List UInt8×Nat×Nat×Int×Int×List UInt8))→X:=fun x=>match x with
 | (.inl x)=>(none,[.v (.c (.d (.lst x.1 (enL enB x.2)))),.dead,.dead,.dead],[])
 | (.inr (.inl x))=>(some 0,[.v (.c (.d (.lst x.1 (enL enB x.2.1)))),.v (.c (.d (.lst x.2.2.1 (enL enB x.2.2.2.1)))),.v (.c (.d (.sc (.int .i64 x.2.2.2.2.1)))),.v (.c (.d (.sc (.int .i64 x.2.2.2.2.2))))],[])
 | (.inr (.inr (.inl x)))=>(some 2,[.v (.c (.d (.lst x.1 (enL enB x.2.1)))),.v (.c (.d (.lst x.2.2.1 (enL enB x.2.2.2.1)))),.v (.c (.d (.sc (.int .i64 x.2.2.2.2.1)))),.v (.c (.d (.sc (.int .i64 x.2.2.2.2.2))))],[])
 | (.inr (.inr (.inr (.inl x))))=>(some 0,[.v (.c (.d (.lst x.1 (enL enB x.2.1)))),.v (.c (.slc 0 0 1 x.2.2.1 (some x.2.2.2.1))),.v (.c (.d (.sc (.int .i64 x.2.2.2.2.1)))),.v (.c (.d (.sc (.int .i64 x.2.2.2.2.2.1))))],[.cells (enC x.2.2.2.2.2.2)])
 | (.inr (.inr (.inr (.inr (.inl x)))))=>(some 1,[.v (.c (.d (.lst x.1 (enL enB x.2.1)))),.v (.c (.slc 0 0 1 x.2.2.1 (some x.2.2.2.1))),.v (.c (.d (.sc (.int .i64 x.2.2.2.2.1)))),.v (.c (.d (.sc (.int .i64 x.2.2.2.2.2.1))))],[.cells (enC x.2.2.2.2.2.2)])
 | (.inr (.inr (.inr (.inr (.inr x)))))=>(some 2,[.v (.c (.d (.lst x.1 (enL enB x.2.1)))),.v (.c (.slc 0 0 1 x.2.2.1 (some x.2.2.2.1))),.v (.c (.d (.sc (.int .i64 x.2.2.2.2.1)))),.v (.c (.d (.sc (.int .i64 x.2.2.2.2.2.1))))],[.cells (enC x.2.2.2.2.2.2)])
def j53_91 (b0_0:Bool) (b0_1:List UInt8) (body5_1 body5_2:Nat) (at6 e9:Int) (h0:List UInt8):Option (((Bool×List UInt8) ⊕ (Bool×List UInt8×Bool×List UInt8×Int×Int) ⊕ (Bool×List UInt8×Bool×List UInt8×Int×Int) ⊕ (Bool×List UInt8×Nat×Nat×Int×Int×List UInt8) ⊕ (Bool×List UInt8×Nat×Nat×Int×Int×List UInt8) ⊕ (Bool×List UInt8×Nat×Nat×Int×Int×List UInt8)) ⊕ R53):=
 some (.inl (.inr (.inr (.inr (.inr (.inl (b0_0,b0_1,body5_1,body5_2,(w64 (at6 + 2)),e9,h0)))))))
theorem j53_91_t (b0_0:Bool) (b0_1:List UInt8) (body5_1 body5_2:Nat) (at6 e9:Int) (h0:List UInt8)  (sl:Nat→AV) (zq0:sl 0 = .v (.c (.d (.lst b0_0 (enL enB b0_1))))) (zq5:sl 5 = .v (.c (.slc 0 0 1 body5_1 (some body5_2)))) (zq6:sl 6 = .v (.c (.d (.sc (.int .i64 at6))))) (zq9:sl 9 = .v (.c (.d (.sc (.int .i64 e9))))):
  stepE (K53_2 (mm:=mm)) (scopeK 0 [(0,.keep),(5,.keep),(6,.keep),(9,.keep)] c53_3 (den (E0 mm) 53 0 (callW (E0 mm)) itW c53_91 none ⟨sl,[.cells (enC h0)]⟩)) = (j53_91 b0_0 b0_1 body5_1 body5_2 at6 e9 h0).map (sm en53_2 e53):=by
 simp -implicitDefEqProofs only [j53_91,c53_91_e,c53_92_r,(show opsOf c53_92 = _ :: _ from rfl),c53_93_e,c53_94_e,(scopeK_g (show hasLabel c53_3 1 = true by kernel_rfl)),zq0,zq5,zq6,zq9,setA,setB,za,zb,zc,zd,ze,zf,zg,zh,zi,zj,zk,zl,zm,zn,zo,zp,reduceCtorEq,zE,↓reduceIte]
 all_goals rfl
def j53_86 (b0_0:Bool) (b0_1:List UInt8) (body5_1 body5_2:Nat) (at6 e9:Int) (t101:Bool) (h0:List UInt8):Option (((Bool×List UInt8) ⊕ (Bool×List UInt8×Bool×List UInt8×Int×Int) ⊕ (Bool×List UInt8×Bool×List UInt8×Int×Int) ⊕ (Bool×List UInt8×Nat×Nat×Int×Int×List UInt8) ⊕ (Bool×List UInt8×Nat×Nat×Int×Int×List UInt8) ⊕ (Bool×List UInt8×Nat×Nat×Int×Int×List UInt8)) ⊕ R53):=
 if t101 = true then
  some (.inl (.inr (.inr (.inr (.inl (b0_0,b0_1,body5_1,body5_2,at6,(20:Int),h0))))))
 else
  j53_91 b0_0 b0_1 body5_1 body5_2 at6 e9 h0
theorem j53_86_t (b0_0:Bool) (b0_1:List UInt8) (body5_1 body5_2:Nat) (at6 e9:Int) (t101:Bool) (h0:List UInt8)  (sl:Nat→AV) (zq0:sl 0 = .v (.c (.d (.lst b0_0 (enL enB b0_1))))) (zq5:sl 5 = .v (.c (.slc 0 0 1 body5_1 (some body5_2)))) (zq6:sl 6 = .v (.c (.d (.sc (.int .i64 at6))))) (zq9:sl 9 = .v (.c (.d (.sc (.int .i64 e9))))) (zq101:sl 101 = .v (.c (.d (.sc (.bool t101))))):
  stepE (K53_2 (mm:=mm)) (scopeK 0 [(0,.keep),(5,.keep),(6,.keep),(9,.keep)] c53_3 (seqD (E0 mm) 53 0 (callW (E0 mm)) itW c53_91 (den (E0 mm) 53 0 (callW (E0 mm)) itW c53_86 none ⟨sl,[.cells (enC h0)]⟩))) = (j53_86 b0_0 b0_1 body5_1 body5_2 at6 e9 t101 h0).map (sm en53_2 e53):=by
 simp -implicitDefEqProofs only [j53_86,(show c53_86 = Code.cond _ c53_87 c53_90 from rfl),zq0,zq5,zq6,zq9,zq101,setA,setB,za,zb,zc,zd,ze,zf,zg,zh,zi,zj,zk,zl,zm,zn,zo,zp,reduceCtorEq,zE,↓reduceIte]
 refine brB (fun yc32=>?_) (fun yc32=>?_)
 ·simp -implicitDefEqProofs only [c53_87_e,c53_88_r,(show opsOf c53_88 = _ :: _ from rfl),c53_89_e,(scopeK_g (show hasLabel c53_3 0 = true by kernel_rfl)),zq0,zq5,zq6,zq9,zq101,yc32,setA,setB,za,zb,zc,zd,ze,zf,zg,zh,zi,zj,zk,zl,zm,zn,zo,zp,reduceCtorEq,zE,↓reduceIte]
  all_goals rfl
 ·simp -implicitDefEqProofs only [c53_90_e,zq0,zq5,zq6,zq9,zq101,yc32,setA,setB,za,zb,zc,zd,ze,zf,zg,zh,zi,zj,zk,zl,zm,zn,zo,zp,reduceCtorEq,zE,↓reduceIte]
  exact j53_91_t b0_0 b0_1 body5_1 body5_2 at6 e9 h0 _ (by exact zq0) (by exact zq5) (by exact zq6) (by exact zq9)
def j53_77 (b0_0:Bool) (b0_1:List UInt8) (body5_0:Bool) (body5_1:List UInt8) (at6 n7 e9:Int):Option (((Bool×List UInt8) ⊕ (Bool×List UInt8×Bool×List UInt8×Int×Int) ⊕ (Bool×List UInt8×Bool×List UInt8×Int×Int) ⊕ (Bool×List UInt8×Nat×Nat×Int×Int×List UInt8) ⊕ (Bool×List UInt8×Nat×Nat×Int×Int×List UInt8) ⊕ (Bool×List UInt8×Nat×Nat×Int×Int×List UInt8)) ⊕ R53):=
 if 0≤(w64 ((body5_1.length:Int) + (w64 n7)))∧(w64 ((body5_1.length:Int) + (w64 n7)))≤140737488355328 then
  (bnd (((min body5_1.length ((w64 ((body5_1.length:Int) + (w64 n7))).toNat)):Nat):Int) ((w64 ((body5_1.length:Int) + (w64 n7))).toNat)).bind fun yk23=>
   (bnd at6 b0_1.length).bind fun yk25=>
    if yk23 + ((w64 ((body5_1.length:Int) + (w64 n7))).toNat - yk23)≤(cpy (List.replicate ((w64 ((body5_1.length:Int) + (w64 n7))).toNat) (0:UInt8)) 0 ((w64 ((body5_1.length:Int) + (w64 n7))).toNat) body5_1).length then
     if 0≤(w64 (at6 + (w64 n7)))∧(w64 (at6 + (w64 n7))) < (b0_1.length:Int) then
      if ((b0_1.getD ((w64 (at6 + (w64 n7))).toNat) default) == (13:UInt8)) = true then
       if 0≤(w64 ((w64 (at6 + (w64 n7))) + 1))∧(w64 ((w64 (at6 + (w64 n7))) + 1)) < (b0_1.length:Int) then
        j53_86 b0_0 b0_1 ((w64 ((body5_1.length:Int) + (w64 n7))).toNat) ((w64 ((body5_1.length:Int) + (w64 n7))).toNat) (w64 (at6 + (w64 n7))) e9 (!((b0_1.getD ((w64 ((w64 (at6 + (w64 n7))) + 1)).toNat) default) == (10:UInt8))) (cpy (cpy (List.replicate ((w64 ((body5_1.length:Int) + (w64 n7))).toNat) (0:UInt8)) 0 ((w64 ((body5_1.length:Int) + (w64 n7))).toNat) body5_1) yk23 ((w64 ((body5_1.length:Int) + (w64 n7))).toNat - yk23) (b0_1.drop yk25))
       else none
      else
       j53_86 b0_0 b0_1 ((w64 ((body5_1.length:Int) + (w64 n7))).toNat) ((w64 ((body5_1.length:Int) + (w64 n7))).toNat) (w64 (at6 + (w64 n7))) e9 true (cpy (cpy (List.replicate ((w64 ((body5_1.length:Int) + (w64 n7))).toNat) (0:UInt8)) 0 ((w64 ((body5_1.length:Int) + (w64 n7))).toNat) body5_1) yk23 ((w64 ((body5_1.length:Int) + (w64 n7))).toNat - yk23) (b0_1.drop yk25))
     else none
    else none
 else none
theorem j53_77_t (b0_0:Bool) (b0_1:List UInt8) (body5_0:Bool) (body5_1:List UInt8) (at6 n7 e9:Int)  (sl:Nat→AV) (zq0:sl 0 = .v (.c (.d (.lst b0_0 (enL enB b0_1))))) (zq5:sl 5 = .v (.c (.d (.lst body5_0 (enL enB body5_1))))) (zq6:sl 6 = .v (.c (.d (.sc (.int .i64 at6))))) (zq7:sl 7 = .v (.c (.d (.sc (.int .u64 n7))))) (zq9:sl 9 = .v (.c (.d (.sc (.int .i64 e9))))):
  stepE (K53_2 (mm:=mm)) (scopeK 0 [(0,.keep),(5,.keep),(6,.keep),(9,.keep)] c53_3 (den (E0 mm) 53 0 (callW (E0 mm)) itW c53_77 none ⟨sl,[]⟩)) = (j53_77 b0_0 b0_1 body5_0 body5_1 at6 n7 e9).map (sm en53_2 e53):=by
 simp -implicitDefEqProofs only [j53_77,c53_77_e,c53_78_e,c53_79_r,(show opsOf c53_79 = _ :: _ from rfl),Tryz.underlying22,Tryz.underlying64,Tryz.underlying3,sz5,by5,zc5,enC_rep,Int.le_refl,Int.mul_one,true_and,(show (2:Int) ^ 47 = 140737488355328 from rfl),zq0,zq5,zq6,zq7,zq9,setA,setB,za,zb,zc,zd,ze,zf,zg,zh,zi,zj,zk,zl,zm,zn,zo,zp,reduceCtorEq,zE,↓reduceIte]
 refine brP (fun yc21=>?_) (fun yc21=>?_)
 ·simp -implicitDefEqProofs only [c53_80_e,c53_81_r,(show opsOf c53_81 = _ :: _ from rfl),Tryz.underlying22,(copyA_b Tryz.underlying22 sz5),cpO_en,Nat.zero_add,List.length_replicate,Nat.le_refl,if_true,sz5,Option.getD_none,Option.getD_some,Option.map_none,Option.map_some,Nat.sub_zero,Nat.zero_mul,Nat.mul_one,zq0,zq5,zq6,zq7,zq9,yc21,setA,setB,za,zb,zc,zd,ze,zf,zg,zh,zi,zj,zk,zl,zm,zn,zo,zp,reduceCtorEq,zE,↓reduceIte]
  refine brM (fun yc22=>?_) (fun yk23 yc22=>?_)
  ·rw [yc22]; rfl
  ·simp -implicitDefEqProofs only [Tryz.underlying22,enB_a,sz5,zq0,zq5,zq6,zq7,zq9,yc21,yc22,setA,setB,za,zb,zc,zd,ze,zf,zg,zh,zi,zj,zk,zl,zm,zn,zo,zp,reduceCtorEq,zE,↓reduceIte]
   refine brM (fun yc24=>?_) (fun yk25 yc24=>?_)
   ·rw [yc24]; rfl
   ·simp -implicitDefEqProofs only [Option.isNone_some,Bool.false_and,Bool.and_false,Bool.false_eq_true,if_false,Tryz.underlying22,(copyA_b Tryz.underlying22 sz5),cpO_en,zq0,zq5,zq6,zq7,zq9,yc21,yc22,yc24,setA,setB,za,zb,zc,zd,ze,zf,zg,zh,zi,zj,zk,zl,zm,zn,zo,zp,reduceCtorEq,zE,↓reduceIte]
    refine brP (fun yc26=>?_) (fun yc26=>?_)
    ·simp -implicitDefEqProofs only [c53_82_r,(show opsOf c53_82 = _ :: _ from rfl),Tryz.underlying64,Tryz.underlying3,c53_83_e,c53_84_e,c53_85_r,(show opsOf c53_85 = _ :: _ from rfl),Tryz.underlying22,sz5,enB_a,zq0,zq5,zq6,zq7,zq9,yc21,yc22,yc24,yc26,setA,setB,za,zb,zc,zd,ze,zf,zg,zh,zi,zj,zk,zl,zm,zn,zo,zp,reduceCtorEq,zE,↓reduceIte]
     refine brP (fun yc27=>?_) (fun yc27=>?_)
     ·have yd28:(w64 (at6 + (w64 n7))).toNat < b0_1.length:=by omega
      simp -implicitDefEqProofs only [(enL_get enB b0_1 ((w64 (at6 + (w64 n7))).toNat) yd28),enB_e,sz5,ag5,zq0,zq5,zq6,zq7,zq9,yc21,yc22,yc24,yc26,yc27,yd28,setA,setB,za,zb,zc,zd,ze,zf,zg,zh,zi,zj,zk,zl,zm,zn,zo,zp,reduceCtorEq,zE,↓reduceIte]
      refine brB (fun yc29=>?_) (fun yc29=>?_)
      ·simp -implicitDefEqProofs only [Tryz.underlying22,sz5,enB_a,zq0,zq5,zq6,zq7,zq9,yc21,yc22,yc24,yc26,yc27,yd28,yc29,setA,setB,za,zb,zc,zd,ze,zf,zg,zh,zi,zj,zk,zl,zm,zn,zo,zp,reduceCtorEq,zE,↓reduceIte]
       refine brP (fun yc30=>?_) (fun yc30=>?_)
       ·have yd31:(w64 ((w64 (at6 + (w64 n7))) + 1)).toNat < b0_1.length:=by omega
        simp -implicitDefEqProofs only [(enL_get enB b0_1 ((w64 ((w64 (at6 + (w64 n7))) + 1)).toNat) yd31),enB_e,sz5,ag5,zq0,zq5,zq6,zq7,zq9,yc21,yc22,yc24,yc26,yc27,yd28,yc29,yc30,yd31,setA,setB,za,zb,zc,zd,ze,zf,zg,zh,zi,zj,zk,zl,zm,zn,zo,zp,reduceCtorEq,zE,↓reduceIte]
        exact j53_86_t b0_0 b0_1 ((w64 ((body5_1.length:Int) + (w64 n7))).toNat) ((w64 ((body5_1.length:Int) + (w64 n7))).toNat) (w64 (at6 + (w64 n7))) e9 (!((b0_1.getD ((w64 ((w64 (at6 + (w64 n7))) + 1)).toNat) default) == (10:UInt8))) (cpy (cpy (List.replicate ((w64 ((body5_1.length:Int) + (w64 n7))).toNat) (0:UInt8)) 0 ((w64 ((body5_1.length:Int) + (w64 n7))).toNat) body5_1) yk23 ((w64 ((body5_1.length:Int) + (w64 n7))).toNat - yk23) (b0_1.drop yk25)) _ (by exact zq0) (by rfl) (by rfl) (by exact zq9) (by rfl)
       ·rw [if_neg yc30]; rfl
      ·simp -implicitDefEqProofs only [zq0,zq5,zq6,zq7,zq9,yc21,yc22,yc24,yc26,yc27,yd28,yc29,setA,setB,za,zb,zc,zd,ze,zf,zg,zh,zi,zj,zk,zl,zm,zn,zo,zp,reduceCtorEq,zE,↓reduceIte]
       exact j53_86_t b0_0 b0_1 ((w64 ((body5_1.length:Int) + (w64 n7))).toNat) ((w64 ((body5_1.length:Int) + (w64 n7))).toNat) (w64 (at6 + (w64 n7))) e9 true (cpy (cpy (List.replicate ((w64 ((body5_1.length:Int) + (w64 n7))).toNat) (0:UInt8)) 0 ((w64 ((body5_1.length:Int) + (w64 n7))).toNat) body5_1) yk23 ((w64 ((body5_1.length:Int) + (w64 n7))).toNat - yk23) (b0_1.drop yk25)) _ (by exact zq0) (by rfl) (by rfl) (by exact zq9) (by rfl)
     ·rw [if_neg yc27]; rfl
    ·rw [if_neg yc26]; rfl
 ·rw [if_neg yc21]; rfl
def j53_69 (b0_0:Bool) (b0_1:List UInt8) (body5_0:Bool) (body5_1:List UInt8) (at6 n7 e9:Int):Option (((Bool×List UInt8) ⊕ (Bool×List UInt8×Bool×List UInt8×Int×Int) ⊕ (Bool×List UInt8×Bool×List UInt8×Int×Int) ⊕ (Bool×List UInt8×Nat×Nat×Int×Int×List UInt8) ⊕ (Bool×List UInt8×Nat×Nat×Int×Int×List UInt8) ⊕ (Bool×List UInt8×Nat×Nat×Int×Int×List UInt8)) ⊕ R53):=
 if (decide ((w64 ((b0_1.length:Int) - at6)) < (w64 ((w64 n7) + 2)))) = true then
  some (.inl (.inr (.inl (b0_0,b0_1,body5_0,body5_1,at6,(8:Int)))))
 else
  j53_77 b0_0 b0_1 body5_0 body5_1 at6 n7 e9
theorem j53_69_t (b0_0:Bool) (b0_1:List UInt8) (body5_0:Bool) (body5_1:List UInt8) (at6 n7 e9:Int)  (sl:Nat→AV) (zq0:sl 0 = .v (.c (.d (.lst b0_0 (enL enB b0_1))))) (zq5:sl 5 = .v (.c (.d (.lst body5_0 (enL enB body5_1))))) (zq6:sl 6 = .v (.c (.d (.sc (.int .i64 at6))))) (zq7:sl 7 = .v (.c (.d (.sc (.int .u64 n7))))) (zq9:sl 9 = .v (.c (.d (.sc (.int .i64 e9))))):
  stepE (K53_2 (mm:=mm)) (scopeK 0 [(0,.keep),(5,.keep),(6,.keep),(9,.keep)] c53_3 (den (E0 mm) 53 0 (callW (E0 mm)) itW c53_69 none ⟨sl,[]⟩)) = (j53_69 b0_0 b0_1 body5_0 body5_1 at6 n7 e9).map (sm en53_2 e53):=by
 simp -implicitDefEqProofs only [j53_69,c53_69_e,c53_70_e,c53_71_r,(show opsOf c53_71 = _ :: _ from rfl),Tryz.underlying22,Tryz.underlying64,Tryz.underlying3,(show c53_72 = Code.cond _ c53_73 c53_76 from rfl),zq0,zq5,zq6,zq7,zq9,setA,setB,za,zb,zc,zd,ze,zf,zg,zh,zi,zj,zk,zl,zm,zn,zo,zp,reduceCtorEq,zE,↓reduceIte]
 refine brB (fun yc20=>?_) (fun yc20=>?_)
 ·simp -implicitDefEqProofs only [c53_73_e,c53_74_r,(show opsOf c53_74 = _ :: _ from rfl),c53_75_e,(scopeK_g (show hasLabel c53_3 0 = true by kernel_rfl)),zq0,zq5,zq6,zq7,zq9,yc20,setA,setB,za,zb,zc,zd,ze,zf,zg,zh,zi,zj,zk,zl,zm,zn,zo,zp,reduceCtorEq,zE,↓reduceIte]
  all_goals rfl
 ·simp -implicitDefEqProofs only [c53_76_e,zq0,zq5,zq6,zq7,zq9,yc20,setA,setB,za,zb,zc,zd,ze,zf,zg,zh,zi,zj,zk,zl,zm,zn,zo,zp,reduceCtorEq,zE,↓reduceIte]
  exact j53_77_t b0_0 b0_1 body5_0 body5_1 at6 n7 e9 _ (by exact zq0) (by exact zq5) (by exact zq6) (by exact zq7) (by exact zq9)
def j53_63 (b0_0:Bool) (b0_1:List UInt8) (body5_0:Bool) (body5_1:List UInt8) (at6 n7 e9:Int):Option (((Bool×List UInt8) ⊕ (Bool×List UInt8×Bool×List UInt8×Int×Int) ⊕ (Bool×List UInt8×Bool×List UInt8×Int×Int) ⊕ (Bool×List UInt8×Nat×Nat×Int×Int×List UInt8) ⊕ (Bool×List UInt8×Nat×Nat×Int×Int×List UInt8) ⊕ (Bool×List UInt8×Nat×Nat×Int×Int×List UInt8)) ⊕ R53):=
 if (n7 == 0) = true then
  some (.inl (.inr (.inr (.inl (b0_0,b0_1,body5_0,body5_1,at6,e9)))))
 else
  j53_69 b0_0 b0_1 body5_0 body5_1 at6 n7 e9
theorem j53_63_t (b0_0:Bool) (b0_1:List UInt8) (body5_0:Bool) (body5_1:List UInt8) (at6 n7 e9:Int)  (sl:Nat→AV) (zq0:sl 0 = .v (.c (.d (.lst b0_0 (enL enB b0_1))))) (zq5:sl 5 = .v (.c (.d (.lst body5_0 (enL enB body5_1))))) (zq6:sl 6 = .v (.c (.d (.sc (.int .i64 at6))))) (zq7:sl 7 = .v (.c (.d (.sc (.int .u64 n7))))) (zq9:sl 9 = .v (.c (.d (.sc (.int .i64 e9))))):
  stepE (K53_2 (mm:=mm)) (scopeK 0 [(0,.keep),(5,.keep),(6,.keep),(9,.keep)] c53_3 (den (E0 mm) 53 0 (callW (E0 mm)) itW c53_63 none ⟨sl,[]⟩)) = (j53_63 b0_0 b0_1 body5_0 body5_1 at6 n7 e9).map (sm en53_2 e53):=by
 simp -implicitDefEqProofs only [j53_63,c53_63_e,c53_64_e,c53_65_r,(show opsOf c53_65 = _ :: _ from rfl),(show c53_66 = Code.cond _ c53_67 c53_68 from rfl),zq0,zq5,zq6,zq7,zq9,setA,setB,za,zb,zc,zd,ze,zf,zg,zh,zi,zj,zk,zl,zm,zn,zo,zp,reduceCtorEq,zE,↓reduceIte]
 refine brB (fun yc19=>?_) (fun yc19=>?_)
 ·simp -implicitDefEqProofs only [c53_67_e,(scopeK_g (show hasLabel c53_3 2 = true by kernel_rfl)),zq0,zq5,zq6,zq7,zq9,yc19,setA,setB,za,zb,zc,zd,ze,zf,zg,zh,zi,zj,zk,zl,zm,zn,zo,zp,reduceCtorEq,zE,↓reduceIte]
  all_goals rfl
 ·simp -implicitDefEqProofs only [c53_68_e,zq0,zq5,zq6,zq7,zq9,yc19,setA,setB,za,zb,zc,zd,ze,zf,zg,zh,zi,zj,zk,zl,zm,zn,zo,zp,reduceCtorEq,zE,↓reduceIte]
  exact j53_69_t b0_0 b0_1 body5_0 body5_1 at6 n7 e9 _ (by exact zq0) (by exact zq5) (by exact zq6) (by exact zq7) (by exact zq9)
def j53_55 (b0_0:Bool) (b0_1:List UInt8) (body5_0:Bool) (body5_1:List UInt8) (at6 n7 e9:Int):Option (((Bool×List UInt8) ⊕ (Bool×List UInt8×Bool×List UInt8×Int×Int) ⊕ (Bool×List UInt8×Bool×List UInt8×Int×Int) ⊕ (Bool×List UInt8×Nat×Nat×Int×Int×List UInt8) ⊕ (Bool×List UInt8×Nat×Nat×Int×Int×List UInt8) ⊕ (Bool×List UInt8×Nat×Nat×Int×Int×List UInt8)) ⊕ R53):=
 if (decide ((wu64 (w64 (4096 - (body5_1.length:Int)))) < n7)) = true then
  some (.inl (.inr (.inl (b0_0,b0_1,body5_0,body5_1,at6,(21:Int)))))
 else
  j53_63 b0_0 b0_1 body5_0 body5_1 at6 n7 e9
theorem j53_55_t (b0_0:Bool) (b0_1:List UInt8) (body5_0:Bool) (body5_1:List UInt8) (at6 n7 e9:Int)  (sl:Nat→AV) (zq0:sl 0 = .v (.c (.d (.lst b0_0 (enL enB b0_1))))) (zq5:sl 5 = .v (.c (.d (.lst body5_0 (enL enB body5_1))))) (zq6:sl 6 = .v (.c (.d (.sc (.int .i64 at6))))) (zq7:sl 7 = .v (.c (.d (.sc (.int .u64 n7))))) (zq9:sl 9 = .v (.c (.d (.sc (.int .i64 e9))))):
  stepE (K53_2 (mm:=mm)) (scopeK 0 [(0,.keep),(5,.keep),(6,.keep),(9,.keep)] c53_3 (den (E0 mm) 53 0 (callW (E0 mm)) itW c53_55 none ⟨sl,[]⟩)) = (j53_55 b0_0 b0_1 body5_0 body5_1 at6 n7 e9).map (sm en53_2 e53):=by
 simp -implicitDefEqProofs only [j53_55,c53_55_e,c53_56_e,c53_57_r,(show opsOf c53_57 = _ :: _ from rfl),Tryz.underlying22,Tryz.underlying3,Tryz.underlying64,(show c53_58 = Code.cond _ c53_59 c53_62 from rfl),zq0,zq5,zq6,zq7,zq9,setA,setB,za,zb,zc,zd,ze,zf,zg,zh,zi,zj,zk,zl,zm,zn,zo,zp,reduceCtorEq,zE,↓reduceIte]
 refine brB (fun yc18=>?_) (fun yc18=>?_)
 ·simp -implicitDefEqProofs only [c53_59_e,c53_60_r,(show opsOf c53_60 = _ :: _ from rfl),c53_61_e,(scopeK_g (show hasLabel c53_3 0 = true by kernel_rfl)),zq0,zq5,zq6,zq7,zq9,yc18,setA,setB,za,zb,zc,zd,ze,zf,zg,zh,zi,zj,zk,zl,zm,zn,zo,zp,reduceCtorEq,zE,↓reduceIte]
  all_goals rfl
 ·simp -implicitDefEqProofs only [c53_62_e,zq0,zq5,zq6,zq7,zq9,yc18,setA,setB,za,zb,zc,zd,ze,zf,zg,zh,zi,zj,zk,zl,zm,zn,zo,zp,reduceCtorEq,zE,↓reduceIte]
  exact j53_63_t b0_0 b0_1 body5_0 body5_1 at6 n7 e9 _ (by exact zq0) (by exact zq5) (by exact zq6) (by exact zq7) (by exact zq9)
def j53_47 (b0_0:Bool) (b0_1:List UInt8) (body5_0:Bool) (body5_1:List UInt8) (at6:Int) (line8:Bs):Option (((Bool×List UInt8) ⊕ (Bool×List UInt8×Bool×List UInt8×Int×Int) ⊕ (Bool×List UInt8×Bool×List UInt8×Int×Int) ⊕ (Bool×List UInt8×Nat×Nat×Int×Int×List UInt8) ⊕ (Bool×List UInt8×Nat×Nat×Int×Int×List UInt8) ⊕ (Bool×List UInt8×Nat×Nat×Int×Int×List UInt8)) ⊕ R53):=
 (m89 line8 ([13]:Bs)).bind fun yr14=>
  (m88 yr14).bind fun yr16=>
   if (yr16.2 == 0) = true then
    j53_55 b0_0 b0_1 body5_0 body5_1 at6 yr16.1 yr16.2
   else
    some (.inl (.inr (.inl (b0_0,b0_1,body5_0,body5_1,at6,yr16.2))))
theorem j53_47_t (b0_0:Bool) (b0_1:List UInt8) (body5_0:Bool) (body5_1:List UInt8) (at6:Int) (line8:Bs)  (sl:Nat→AV) (zq0:sl 0 = .v (.c (.d (.lst b0_0 (enL enB b0_1))))) (zq5:sl 5 = .v (.c (.d (.lst body5_0 (enL enB body5_1))))) (zq6:sl 6 = .v (.c (.d (.sc (.int .i64 at6))))) (zq8:sl 8 = .v (.c (.d (.sc (.string (S line8)))))):
  stepE (K53_2 (mm:=mm)) (scopeK 0 [(0,.keep),(5,.keep),(6,.keep),(9,.keep)] c53_3 (den (E0 mm) 53 0 (callW (E0 mm)) itW c53_47 none ⟨sl,[]⟩)) = (j53_47 b0_0 b0_1 body5_0 body5_1 at6 line8).map (sm en53_2 e53):=by
 simp -implicitDefEqProofs only [j53_47,c53_47_e,c53_48_e,c53_49_r,(show opsOf c53_49 = _ :: _ from rfl),ent89,prm89,(show callW (E0 mm) 89 [.c (.d (.sc (.string (S line8)))),.c (.d (.sc (.string (S ([13]:Bs)))))] [] = _ from f89_t line8 ([13]:Bs)),zq0,zq5,zq6,zq8,setA,setB,za,zb,zc,zd,ze,zf,zg,zh,zi,zj,zk,zl,zm,zn,zo,zp,reduceCtorEq,zE,↓reduceIte]
 refine brM (fun yc13=>?_) (fun yr14 yc13=>?_)
 ·rw [yc13]; rfl
 ·simp -implicitDefEqProofs only [e89,ent88,prm88,f88_t,zq0,zq5,zq6,zq8,yc13,setA,setB,za,zb,zc,zd,ze,zf,zg,zh,zi,zj,zk,zl,zm,zn,zo,zp,reduceCtorEq,zE,↓reduceIte]
  refine brM (fun yc15=>?_) (fun yr16 yc15=>?_)
  ·rw [yc15]; rfl
  ·simp -implicitDefEqProofs only [e88,c53_50_e,c53_51_r,(show opsOf c53_51 = _ :: _ from rfl),(show c53_52 = Code.cond _ c53_53 c53_54 from rfl),zq0,zq5,zq6,zq8,yc13,yc15,setA,setB,za,zb,zc,zd,ze,zf,zg,zh,zi,zj,zk,zl,zm,zn,zo,zp,reduceCtorEq,zE,↓reduceIte]
   refine brB (fun yc17=>?_) (fun yc17=>?_)
   ·simp -implicitDefEqProofs only [c53_54_e,zq0,zq5,zq6,zq8,yc13,yc15,yc17,setA,setB,za,zb,zc,zd,ze,zf,zg,zh,zi,zj,zk,zl,zm,zn,zo,zp,reduceCtorEq,zE,↓reduceIte]
    exact j53_55_t b0_0 b0_1 body5_0 body5_1 at6 yr16.1 yr16.2 _ (by exact zq0) (by exact zq5) (by exact zq6) (by rfl) (by rfl)
   ·simp -implicitDefEqProofs only [c53_53_e,(scopeK_g (show hasLabel c53_3 0 = true by kernel_rfl)),zq0,zq5,zq6,zq8,yc13,yc15,yc17,setA,setB,za,zb,zc,zd,ze,zf,zg,zh,zi,zj,zk,zl,zm,zn,zo,zp,reduceCtorEq,zE,↓reduceIte]
    all_goals rfl
def j53_36 (b0_0:Bool) (b0_1:List UInt8) (body5_0:Bool) (body5_1:List UInt8) (at6:Int) (rest10_0:Bool) (rest10_1:List UInt8) (end11:Int):Option (((Bool×List UInt8) ⊕ (Bool×List UInt8×Bool×List UInt8×Int×Int) ⊕ (Bool×List UInt8×Bool×List UInt8×Int×Int) ⊕ (Bool×List UInt8×Nat×Nat×Int×Int×List UInt8) ⊕ (Bool×List UInt8×Nat×Nat×Int×Int×List UInt8) ⊕ (Bool×List UInt8×Nat×Nat×Int×Int×List UInt8)) ⊕ R53):=
 (bnd end11 rest10_1.length).bind fun yk9=>
  (m87 (rest10_1.take yk9) ([13]:Bs)).bind fun yr11=>
   if yr11 = true then
    j53_47 b0_0 b0_1 body5_0 body5_1 (w64 (at6 + (w64 (end11 + 1)))) (rest10_1.take yk9)
   else
    some (.inl (.inr (.inl (b0_0,b0_1,body5_0,body5_1,(w64 (at6 + (w64 (end11 + 1)))),(20:Int)))))
theorem j53_36_t (b0_0:Bool) (b0_1:List UInt8) (body5_0:Bool) (body5_1:List UInt8) (at6:Int) (rest10_0:Bool) (rest10_1:List UInt8) (end11:Int)  (sl:Nat→AV) (zq0:sl 0 = .v (.c (.d (.lst b0_0 (enL enB b0_1))))) (zq5:sl 5 = .v (.c (.d (.lst body5_0 (enL enB body5_1))))) (zq6:sl 6 = .v (.c (.d (.sc (.int .i64 at6))))) (zq10:sl 10 = .v (.c (.d (.lst rest10_0 (enL enB rest10_1))))) (zq11:sl 11 = .v (.c (.d (.sc (.int .i64 end11))))):
  stepE (K53_2 (mm:=mm)) (scopeK 0 [(0,.keep),(5,.keep),(6,.keep),(9,.keep)] c53_3 (seqD (E0 mm) 53 0 (callW (E0 mm)) itW c53_47 (den (E0 mm) 53 0 (callW (E0 mm)) itW c53_36 none ⟨sl,[]⟩))) = (j53_36 b0_0 b0_1 body5_0 body5_1 at6 rest10_0 rest10_1 end11).map (sm en53_2 e53):=by
 simp -implicitDefEqProofs only [j53_36,c53_36_e,c53_37_r,(show opsOf c53_37 = _ :: _ from rfl),c53_38_e,c53_39_r,(show opsOf c53_39 = _ :: _ from rfl),Tryz.underlying22,enB_a,sz5,zq0,zq5,zq6,zq10,zq11,setA,setB,za,zb,zc,zd,ze,zf,zg,zh,zi,zj,zk,zl,zm,zn,zo,zp,reduceCtorEq,zE,↓reduceIte]
 refine brM (fun yc8=>?_) (fun yk9 yc8=>?_)
 ·rw [yc8]; rfl
 ·simp -implicitDefEqProofs only [Option.isNone_some,Bool.false_and,Bool.and_false,Bool.false_eq_true,if_false,Tryz.underlying22,Tryz.underlying9,Tryz.underlying5,c53_40_e,c53_41_r,(show opsOf c53_41 = _ :: _ from rfl),ent87,prm87,(show callW (E0 mm) 87 [.c (.d (.sc (.string (S (rest10_1.take yk9))))),.c (.d (.sc (.string (S ([13]:Bs)))))] [] = _ from f87_t (rest10_1.take yk9) ([13]:Bs)),zq0,zq5,zq6,zq10,zq11,yc8,setA,setB,za,zb,zc,zd,ze,zf,zg,zh,zi,zj,zk,zl,zm,zn,zo,zp,reduceCtorEq,zE,↓reduceIte]
  refine brM (fun yc10=>?_) (fun yr11 yc10=>?_)
  ·rw [yc10]; rfl
  ·simp -implicitDefEqProofs only [e87,(show c53_42 = Code.cond _ c53_43 c53_46 from rfl),zq0,zq5,zq6,zq10,zq11,yc8,yc10,setA,setB,za,zb,zc,zd,ze,zf,zg,zh,zi,zj,zk,zl,zm,zn,zo,zp,reduceCtorEq,zE,↓reduceIte]
   refine brB (fun yc12=>?_) (fun yc12=>?_)
   ·simp -implicitDefEqProofs only [c53_46_e,zq0,zq5,zq6,zq10,zq11,yc8,yc10,yc12,setA,setB,za,zb,zc,zd,ze,zf,zg,zh,zi,zj,zk,zl,zm,zn,zo,zp,reduceCtorEq,zE,↓reduceIte]
    exact j53_47_t b0_0 b0_1 body5_0 body5_1 (w64 (at6 + (w64 (end11 + 1)))) (rest10_1.take yk9) _ (by exact zq0) (by exact zq5) (by rfl) (by rfl)
   ·simp -implicitDefEqProofs only [c53_43_e,c53_44_r,(show opsOf c53_44 = _ :: _ from rfl),c53_45_e,(scopeK_g (show hasLabel c53_3 0 = true by kernel_rfl)),zq0,zq5,zq6,zq10,zq11,yc8,yc10,yc12,setA,setB,za,zb,zc,zd,ze,zf,zg,zh,zi,zj,zk,zl,zm,zn,zo,zp,reduceCtorEq,zE,↓reduceIte]
    all_goals rfl
def j53_28 (b0_0:Bool) (b0_1:List UInt8) (body5_0:Bool) (body5_1:List UInt8) (at6:Int) (rest10_0:Bool) (rest10_1:List UInt8) (end11:Int):Option (((Bool×List UInt8) ⊕ (Bool×List UInt8×Bool×List UInt8×Int×Int) ⊕ (Bool×List UInt8×Bool×List UInt8×Int×Int) ⊕ (Bool×List UInt8×Nat×Nat×Int×Int×List UInt8) ⊕ (Bool×List UInt8×Nat×Nat×Int×Int×List UInt8) ⊕ (Bool×List UInt8×Nat×Nat×Int×Int×List UInt8)) ⊕ R53):=
 if (decide (end11 < 0)) = true then
  some (.inl (.inr (.inl (b0_0,b0_1,body5_0,body5_1,at6,(8:Int)))))
 else
  j53_36 b0_0 b0_1 body5_0 body5_1 at6 rest10_0 rest10_1 end11
theorem j53_28_t (b0_0:Bool) (b0_1:List UInt8) (body5_0:Bool) (body5_1:List UInt8) (at6:Int) (rest10_0:Bool) (rest10_1:List UInt8) (end11:Int)  (sl:Nat→AV) (zq0:sl 0 = .v (.c (.d (.lst b0_0 (enL enB b0_1))))) (zq5:sl 5 = .v (.c (.d (.lst body5_0 (enL enB body5_1))))) (zq6:sl 6 = .v (.c (.d (.sc (.int .i64 at6))))) (zq10:sl 10 = .v (.c (.d (.lst rest10_0 (enL enB rest10_1))))) (zq11:sl 11 = .v (.c (.d (.sc (.int .i64 end11))))):
  stepE (K53_2 (mm:=mm)) (scopeK 0 [(0,.keep),(5,.keep),(6,.keep),(9,.keep)] c53_3 (seqD (E0 mm) 53 0 (callW (E0 mm)) itW c53_47 (den (E0 mm) 53 0 (callW (E0 mm)) itW c53_28 none ⟨sl,[]⟩))) = (j53_28 b0_0 b0_1 body5_0 body5_1 at6 rest10_0 rest10_1 end11).map (sm en53_2 e53):=by
 simp -implicitDefEqProofs only [j53_28,c53_28_e,c53_29_e,c53_30_r,(show opsOf c53_30 = _ :: _ from rfl),(show c53_31 = Code.cond _ c53_32 c53_35 from rfl),zq0,zq5,zq6,zq10,zq11,setA,setB,za,zb,zc,zd,ze,zf,zg,zh,zi,zj,zk,zl,zm,zn,zo,zp,reduceCtorEq,zE,↓reduceIte]
 refine brB (fun yc7=>?_) (fun yc7=>?_)
 ·simp -implicitDefEqProofs only [c53_32_e,c53_33_r,(show opsOf c53_33 = _ :: _ from rfl),c53_34_e,(scopeK_g (show hasLabel c53_3 0 = true by kernel_rfl)),zq0,zq5,zq6,zq10,zq11,yc7,setA,setB,za,zb,zc,zd,ze,zf,zg,zh,zi,zj,zk,zl,zm,zn,zo,zp,reduceCtorEq,zE,↓reduceIte]
  all_goals rfl
 ·simp -implicitDefEqProofs only [c53_35_e,zq0,zq5,zq6,zq10,zq11,yc7,setA,setB,za,zb,zc,zd,ze,zf,zg,zh,zi,zj,zk,zl,zm,zn,zo,zp,reduceCtorEq,zE,↓reduceIte]
  exact j53_36_t b0_0 b0_1 body5_0 body5_1 at6 rest10_0 rest10_1 end11 _ (by exact zq0) (by exact zq5) (by exact zq6) (by exact zq10) (by exact zq11)
def j53_23 (b0_0:Bool) (b0_1:List UInt8) (body5_0:Bool) (body5_1:List UInt8) (at6:Int) (rest10_0:Bool) (rest10_1:List UInt8) (end11:Int) (t31:Bool):Option (((Bool×List UInt8) ⊕ (Bool×List UInt8×Bool×List UInt8×Int×Int) ⊕ (Bool×List UInt8×Bool×List UInt8×Int×Int) ⊕ (Bool×List UInt8×Nat×Nat×Int×Int×List UInt8) ⊕ (Bool×List UInt8×Nat×Nat×Int×Int×List UInt8) ⊕ (Bool×List UInt8×Nat×Nat×Int×Int×List UInt8)) ⊕ R53):=
 if t31 = true then
  some (.inl (.inr (.inl (b0_0,b0_1,body5_0,body5_1,at6,(21:Int)))))
 else
  j53_28 b0_0 b0_1 body5_0 body5_1 at6 rest10_0 rest10_1 end11
theorem j53_23_t (b0_0:Bool) (b0_1:List UInt8) (body5_0:Bool) (body5_1:List UInt8) (at6:Int) (rest10_0:Bool) (rest10_1:List UInt8) (end11:Int) (t31:Bool)  (sl:Nat→AV) (zq0:sl 0 = .v (.c (.d (.lst b0_0 (enL enB b0_1))))) (zq5:sl 5 = .v (.c (.d (.lst body5_0 (enL enB body5_1))))) (zq6:sl 6 = .v (.c (.d (.sc (.int .i64 at6))))) (zq10:sl 10 = .v (.c (.d (.lst rest10_0 (enL enB rest10_1))))) (zq11:sl 11 = .v (.c (.d (.sc (.int .i64 end11))))) (zq31:sl 31 = .v (.c (.d (.sc (.bool t31))))):
  stepE (K53_2 (mm:=mm)) (scopeK 0 [(0,.keep),(5,.keep),(6,.keep),(9,.keep)] c53_3 (seqD (E0 mm) 53 0 (callW (E0 mm)) itW c53_47 (seqD (E0 mm) 53 0 (callW (E0 mm)) itW c53_28 (den (E0 mm) 53 0 (callW (E0 mm)) itW c53_23 none ⟨sl,[]⟩)))) = (j53_23 b0_0 b0_1 body5_0 body5_1 at6 rest10_0 rest10_1 end11 t31).map (sm en53_2 e53):=by
 simp -implicitDefEqProofs only [j53_23,(show c53_23 = Code.cond _ c53_24 c53_27 from rfl),zq0,zq5,zq6,zq10,zq11,zq31,setA,setB,za,zb,zc,zd,ze,zf,zg,zh,zi,zj,zk,zl,zm,zn,zo,zp,reduceCtorEq,zE,↓reduceIte]
 refine brB (fun yc6=>?_) (fun yc6=>?_)
 ·simp -implicitDefEqProofs only [c53_24_e,c53_25_r,(show opsOf c53_25 = _ :: _ from rfl),c53_26_e,(scopeK_g (show hasLabel c53_3 0 = true by kernel_rfl)),zq0,zq5,zq6,zq10,zq11,zq31,yc6,setA,setB,za,zb,zc,zd,ze,zf,zg,zh,zi,zj,zk,zl,zm,zn,zo,zp,reduceCtorEq,zE,↓reduceIte]
  all_goals rfl
 ·simp -implicitDefEqProofs only [c53_27_e,zq0,zq5,zq6,zq10,zq11,zq31,yc6,setA,setB,za,zb,zc,zd,ze,zf,zg,zh,zi,zj,zk,zl,zm,zn,zo,zp,reduceCtorEq,zE,↓reduceIte]
  exact j53_28_t b0_0 b0_1 body5_0 body5_1 at6 rest10_0 rest10_1 end11 _ (by exact zq0) (by exact zq5) (by exact zq6) (by exact zq10) (by exact zq11)
def s53_2x0 (b0_0:Bool) (b0_1:List UInt8):Option (((Bool×List UInt8) ⊕ (Bool×List UInt8×Bool×List UInt8×Int×Int) ⊕ (Bool×List UInt8×Bool×List UInt8×Int×Int) ⊕ (Bool×List UInt8×Nat×Nat×Int×Int×List UInt8) ⊕ (Bool×List UInt8×Nat×Nat×Int×Int×List UInt8) ⊕ (Bool×List UInt8×Nat×Nat×Int×Int×List UInt8)) ⊕ R53):=
 (bnd (min2 (b0_1.length:Int) 64) b0_1.length).bind fun yk2=>
  (m46 b0_0 (b0_1.take yk2) (10:UInt8)).bind fun yr4=>
   if (decide (yr4 < 0)) = true then
    j53_23 b0_0 b0_1 true ([]:List UInt8) (0:Int) b0_0 b0_1 yr4 (decide (64≤(b0_1.length:Int)))
   else
    j53_23 b0_0 b0_1 true ([]:List UInt8) (0:Int) b0_0 b0_1 yr4 false
theorem s53_2x0_t (b0_0:Bool) (b0_1:List UInt8):
  stepE (K53_2 (mm:=mm)) (scopeF (E0 mm) 53 0 (callW (E0 mm)) itW c53_3 [(0,.keep),(5,.keep),(6,.keep),(9,.keep)] (none,[.v (.c (.d (.lst b0_0 (enL enB b0_1)))),.dead,.dead,.dead],[])) = (s53_2x0 b0_0 b0_1).map (sm en53_2 e53):=by
 simp -implicitDefEqProofs only [s53_2x0,scopeF_eq,(show ∀ f st,den (E0 mm) 53 0 (callW (E0 mm)) itW c53_3 f st = den (E0 mm) 53 0 (callW (E0 mm)) itW (.seq c53_4 c53_5) f st from fun _ _=>rfl),c53_4_r,(show opsOf c53_4 = _ :: _ from rfl),c53_5_e,c53_6_r,(show opsOf c53_6 = _ :: _ from rfl),c53_7_e,c53_8_r,(show opsOf c53_8 = _ :: _ from rfl),c53_9_e,c53_10_r,(show opsOf c53_10 = _ :: _ from rfl),c53_11_e,c53_12_r,(show opsOf c53_12 = _ :: _ from rfl),c53_13_e,c53_14_e,den_label_n,c53_15_e,c53_16_e,c53_17_r,(show opsOf c53_17 = _ :: _ from rfl),Tryz.underlying22,enB_a,sz5,Option.isNone_some,Bool.false_and,Bool.and_false,Bool.false_eq_true,if_false,c53_18_e,c53_19_r,(show opsOf c53_19 = _ :: _ from rfl),Tryz.underlying3,setA,setB,za,zb,zc,zd,ze,zf,zg,zh,zi,zj,zk,zl,zm,zn,zo,zp,reduceCtorEq,zE,↓reduceIte]
 refine brM (fun yc1=>?_) (fun yk2 yc1=>?_)
 ·rw [yc1]; rfl
 ·simp -implicitDefEqProofs only [Option.isNone_some,Bool.false_and,Bool.and_false,Bool.false_eq_true,if_false,ent46,prm46,f46_t,yc1,setA,setB,za,zb,zc,zd,ze,zf,zg,zh,zi,zj,zk,zl,zm,zn,zo,zp,reduceCtorEq,zE,↓reduceIte]
  refine brM (fun yc3=>?_) (fun yr4 yc3=>?_)
  ·rw [yc3]; rfl
  ·simp -implicitDefEqProofs only [e46,c53_20_e,c53_21_e,c53_22_r,(show opsOf c53_22 = _ :: _ from rfl),yc1,yc3,setA,setB,za,zb,zc,zd,ze,zf,zg,zh,zi,zj,zk,zl,zm,zn,zo,zp,reduceCtorEq,zE,↓reduceIte]
   refine brB (fun yc5=>?_) (fun yc5=>?_)
   ·simp -implicitDefEqProofs only [Tryz.underlying22,yc1,yc3,yc5,setA,setB,za,zb,zc,zd,ze,zf,zg,zh,zi,zj,zk,zl,zm,zn,zo,zp,reduceCtorEq,zE,↓reduceIte]
    exact j53_23_t b0_0 b0_1 true ([]:List UInt8) (0:Int) b0_0 b0_1 yr4 (decide (64≤(b0_1.length:Int))) _ (by rfl) (by rfl) (by rfl) (by rfl) (by rfl) (by rfl)
   ·simp -implicitDefEqProofs only [yc1,yc3,yc5,setA,setB,za,zb,zc,zd,ze,zf,zg,zh,zi,zj,zk,zl,zm,zn,zo,zp,reduceCtorEq,zE,↓reduceIte]
    exact j53_23_t b0_0 b0_1 true ([]:List UInt8) (0:Int) b0_0 b0_1 yr4 false _ (by rfl) (by rfl) (by rfl) (by rfl) (by rfl) (by rfl)
def s53_2x1 (b0_0:Bool) (b0_1:List UInt8) (body5_0:Bool) (body5_1:List UInt8) (at6 e9:Int):Option (((Bool×List UInt8) ⊕ (Bool×List UInt8×Bool×List UInt8×Int×Int) ⊕ (Bool×List UInt8×Bool×List UInt8×Int×Int) ⊕ (Bool×List UInt8×Nat×Nat×Int×Int×List UInt8) ⊕ (Bool×List UInt8×Nat×Nat×Int×Int×List UInt8) ⊕ (Bool×List UInt8×Nat×Nat×Int×Int×List UInt8)) ⊕ R53):=
 some (.inr (true,([]:List UInt8),(0:Int),e9))
theorem s53_2x1_t (b0_0:Bool) (b0_1:List UInt8) (body5_0:Bool) (body5_1:List UInt8) (at6 e9:Int):
  stepE (K53_2 (mm:=mm)) (scopeF (E0 mm) 53 0 (callW (E0 mm)) itW c53_3 [(0,.keep),(5,.keep),(6,.keep),(9,.keep)] (some 0,[.v (.c (.d (.lst b0_0 (enL enB b0_1)))),.v (.c (.d (.lst body5_0 (enL enB body5_1)))),.v (.c (.d (.sc (.int .i64 at6)))),.v (.c (.d (.sc (.int .i64 e9))))],[])) = (s53_2x1 b0_0 b0_1 body5_0 body5_1 at6 e9).map (sm en53_2 e53):=by
 simp -implicitDefEqProofs only [s53_2x1,scopeF_eq,(show ∀ f st,den (E0 mm) 53 0 (callW (E0 mm)) itW c53_3 f st = den (E0 mm) 53 0 (callW (E0 mm)) itW (.seq c53_4 c53_5) f st from fun _ _=>rfl),(den_seq_l0 (show hasLabel c53_4 0 = false by kernel_rfl)),c53_5_e,(den_seq_l0 (show hasLabel c53_6 0 = false by kernel_rfl)),c53_7_e,(den_seq_l0 (show hasLabel c53_8 0 = false by kernel_rfl)),c53_9_e,(den_seq_l0 (show hasLabel c53_10 0 = false by kernel_rfl)),c53_11_e,(den_seq_l0 (show hasLabel c53_12 0 = false by kernel_rfl)),c53_13_e,(den_seq_l0 (show hasLabel c53_14 0 = false by kernel_rfl)),c53_15_e,(den_seq_l0 (show hasLabel c53_16 0 = false by kernel_rfl)),c53_47_e,(den_seq_l0 (show hasLabel c53_48 0 = false by kernel_rfl)),c53_55_e,(den_seq_l0 (show hasLabel c53_56 0 = false by kernel_rfl)),c53_63_e,(den_seq_l0 (show hasLabel c53_64 0 = false by kernel_rfl)),c53_69_e,(den_seq_l0 (show hasLabel c53_70 0 = false by kernel_rfl)),c53_77_e,(den_seq_l0 (show hasLabel c53_78 0 = false by kernel_rfl)),c53_83_e,(den_seq_l0 (show hasLabel c53_84 0 = false by kernel_rfl)),c53_91_e,(den_seq_l0 (show hasLabel c53_92 0 = false by kernel_rfl)),c53_93_e,(den_seq_l0 (show hasLabel c53_94 0 = false by kernel_rfl)),c53_95_e,(den_seq_l0 (show hasLabel c53_96 0 = false by kernel_rfl)),c53_97_e,(den_seq_l0 (show hasLabel c53_98 0 = false by kernel_rfl)),c53_111_e,(den_seq_l1 (show hasLabel (Code.label 0) 0 = true by kernel_rfl)),c53_112_e,c53_113_e,c53_114_r,(show opsOf c53_114 = _ :: _ from rfl),c53_115_e,K53_2,setA,setB,za,zb,zc,zd,ze,zf,zg,zh,zi,zj,zk,zl,zm,zn,zo,zp,reduceCtorEq,zE,↓reduceIte]
 all_goals rfl
def j53_108 (body5_0:Bool) (body5_1:List UInt8) (at6 used14:Int):Option (((Bool×List UInt8) ⊕ (Bool×List UInt8×Bool×List UInt8×Int×Int) ⊕ (Bool×List UInt8×Bool×List UInt8×Int×Int) ⊕ (Bool×List UInt8×Nat×Nat×Int×Int×List UInt8) ⊕ (Bool×List UInt8×Nat×Nat×Int×Int×List UInt8) ⊕ (Bool×List UInt8×Nat×Nat×Int×Int×List UInt8)) ⊕ R53):=
 some (.inr (body5_0,body5_1,(w64 (at6 + used14)),(0:Int)))
theorem j53_108_t (body5_0:Bool) (body5_1:List UInt8) (at6 used14:Int)  (sl:Nat→AV) (zq5:sl 5 = .v (.c (.d (.lst body5_0 (enL enB body5_1))))) (zq6:sl 6 = .v (.c (.d (.sc (.int .i64 at6))))) (zq14:sl 14 = .v (.c (.d (.sc (.int .i64 used14))))):
  stepE (K53_2 (mm:=mm)) (scopeK 0 [(0,.keep),(5,.keep),(6,.keep),(9,.keep)] c53_3 (seqD (E0 mm) 53 0 (callW (E0 mm)) itW c53_111 (den (E0 mm) 53 0 (callW (E0 mm)) itW c53_108 none ⟨sl,[]⟩))) = (j53_108 body5_0 body5_1 at6 used14).map (sm en53_2 e53):=by
 simp -implicitDefEqProofs only [j53_108,c53_108_e,c53_109_r,(show opsOf c53_109 = _ :: _ from rfl),c53_110_e,K53_2,zq5,zq6,zq14,setA,setB,za,zb,zc,zd,ze,zf,zg,zh,zi,zj,zk,zl,zm,zn,zo,zp,reduceCtorEq,zE,↓reduceIte]
 all_goals rfl
def s53_2x2 (b0_0:Bool) (b0_1:List UInt8) (body5_0:Bool) (body5_1:List UInt8) (at6 e9:Int):Option (((Bool×List UInt8) ⊕ (Bool×List UInt8×Bool×List UInt8×Int×Int) ⊕ (Bool×List UInt8×Bool×List UInt8×Int×Int) ⊕ (Bool×List UInt8×Nat×Nat×Int×Int×List UInt8) ⊕ (Bool×List UInt8×Nat×Nat×Int×Int×List UInt8) ⊕ (Bool×List UInt8×Nat×Nat×Int×Int×List UInt8)) ⊕ R53):=
 (bnd at6 b0_1.length).bind fun yk34=>
  (m47 b0_0 (b0_1.drop yk34)).bind fun yr36=>
   match yr36 with
   | .inl yr37=>
    if (yr37.2.2.2 == 0) = true then
     j53_108 body5_0 body5_1 at6 yr37.2.2.1
    else
     some (.inl (.inr (.inl (b0_0,b0_1,body5_0,body5_1,at6,yr37.2.2.2))))
   | .inr yr38=>
    if (yr38.2.2.2 == 0) = true then
     j53_108 body5_0 body5_1 at6 yr38.2.2.1
    else
     some (.inl (.inr (.inl (b0_0,b0_1,body5_0,body5_1,at6,yr38.2.2.2))))
theorem s53_2x2_t (b0_0:Bool) (b0_1:List UInt8) (body5_0:Bool) (body5_1:List UInt8) (at6 e9:Int):
  stepE (K53_2 (mm:=mm)) (scopeF (E0 mm) 53 0 (callW (E0 mm)) itW c53_3 [(0,.keep),(5,.keep),(6,.keep),(9,.keep)] (some 2,[.v (.c (.d (.lst b0_0 (enL enB b0_1)))),.v (.c (.d (.lst body5_0 (enL enB body5_1)))),.v (.c (.d (.sc (.int .i64 at6)))),.v (.c (.d (.sc (.int .i64 e9))))],[])) = (s53_2x2 b0_0 b0_1 body5_0 body5_1 at6 e9).map (sm en53_2 e53):=by
 simp -implicitDefEqProofs only [s53_2x2,scopeF_eq,(show ∀ f st,den (E0 mm) 53 0 (callW (E0 mm)) itW c53_3 f st = den (E0 mm) 53 0 (callW (E0 mm)) itW (.seq c53_4 c53_5) f st from fun _ _=>rfl),(den_seq_l0 (show hasLabel c53_4 2 = false by kernel_rfl)),c53_5_e,(den_seq_l0 (show hasLabel c53_6 2 = false by kernel_rfl)),c53_7_e,(den_seq_l0 (show hasLabel c53_8 2 = false by kernel_rfl)),c53_9_e,(den_seq_l0 (show hasLabel c53_10 2 = false by kernel_rfl)),c53_11_e,(den_seq_l0 (show hasLabel c53_12 2 = false by kernel_rfl)),c53_13_e,(den_seq_l0 (show hasLabel c53_14 2 = false by kernel_rfl)),c53_15_e,(den_seq_l0 (show hasLabel c53_16 2 = false by kernel_rfl)),c53_47_e,(den_seq_l0 (show hasLabel c53_48 2 = false by kernel_rfl)),c53_55_e,(den_seq_l0 (show hasLabel c53_56 2 = false by kernel_rfl)),c53_63_e,(den_seq_l0 (show hasLabel c53_64 2 = false by kernel_rfl)),c53_69_e,(den_seq_l0 (show hasLabel c53_70 2 = false by kernel_rfl)),c53_77_e,(den_seq_l0 (show hasLabel c53_78 2 = false by kernel_rfl)),c53_83_e,(den_seq_l0 (show hasLabel c53_84 2 = false by kernel_rfl)),c53_91_e,(den_seq_l0 (show hasLabel c53_92 2 = false by kernel_rfl)),c53_93_e,(den_seq_l0 (show hasLabel c53_94 2 = false by kernel_rfl)),c53_95_e,(den_seq_l1 (show hasLabel (Code.label 2) 2 = true by kernel_rfl)),c53_96_e,c53_97_e,c53_98_e,c53_99_r,(show opsOf c53_99 = _ :: _ from rfl),Tryz.underlying22,enB_a,sz5,setA,setB,za,zb,zc,zd,ze,zf,zg,zh,zi,zj,zk,zl,zm,zn,zo,zp,reduceCtorEq,zE,↓reduceIte]
 refine brM (fun yc33=>?_) (fun yk34 yc33=>?_)
 ·rw [yc33]; rfl
 ·simp -implicitDefEqProofs only [Option.isNone_some,Bool.false_and,Bool.and_false,Bool.false_eq_true,if_false,ent47,prm47,f47_t,yc33,setA,setB,za,zb,zc,zd,ze,zf,zg,zh,zi,zj,zk,zl,zm,zn,zo,zp,reduceCtorEq,zE,↓reduceIte]
  refine brM (fun yc35=>?_) (fun yr36 yc35=>?_)
  ·rw [yc35]; rfl
  ·rcases yr36 with yr37 | yr38
   ·simp -implicitDefEqProofs only [e47,plainC_t,c53_100_e,c53_101_e,c53_102_r,(show opsOf c53_102 = _ :: _ from rfl),(show c53_103 = Code.cond _ c53_104 c53_107 from rfl),yc33,yc35,setA,setB,za,zb,zc,zd,ze,zf,zg,zh,zi,zj,zk,zl,zm,zn,zo,zp,reduceCtorEq,zE,↓reduceIte]
    refine brB (fun yc39=>?_) (fun yc39=>?_)
    ·simp -implicitDefEqProofs only [c53_107_e,yc33,yc35,yc39,setA,setB,za,zb,zc,zd,ze,zf,zg,zh,zi,zj,zk,zl,zm,zn,zo,zp,reduceCtorEq,zE,↓reduceIte]
     exact j53_108_t body5_0 body5_1 at6 yr37.2.2.1 _ (by rfl) (by rfl) (by rfl)
    ·simp -implicitDefEqProofs only [c53_104_e,c53_105_r,(show opsOf c53_105 = _ :: _ from rfl),c53_106_e,(scopeK_g (show hasLabel c53_3 0 = true by kernel_rfl)),yc33,yc35,yc39,setA,setB,za,zb,zc,zd,ze,zf,zg,zh,zi,zj,zk,zl,zm,zn,zo,zp,reduceCtorEq,zE,↓reduceIte]
     all_goals rfl
   ·simp -implicitDefEqProofs only [e47,plainC_t,c53_100_e,c53_101_e,c53_102_r,(show opsOf c53_102 = _ :: _ from rfl),(show c53_103 = Code.cond _ c53_104 c53_107 from rfl),yc33,yc35,setA,setB,za,zb,zc,zd,ze,zf,zg,zh,zi,zj,zk,zl,zm,zn,zo,zp,reduceCtorEq,zE,↓reduceIte]
    refine brB (fun yc40=>?_) (fun yc40=>?_)
    ·simp -implicitDefEqProofs only [c53_107_e,yc33,yc35,yc40,setA,setB,za,zb,zc,zd,ze,zf,zg,zh,zi,zj,zk,zl,zm,zn,zo,zp,reduceCtorEq,zE,↓reduceIte]
     exact j53_108_t body5_0 body5_1 at6 yr38.2.2.1 _ (by rfl) (by rfl) (by rfl)
    ·simp -implicitDefEqProofs only [c53_104_e,c53_105_r,(show opsOf c53_105 = _ :: _ from rfl),c53_106_e,(scopeK_g (show hasLabel c53_3 0 = true by kernel_rfl)),yc33,yc35,yc40,setA,setB,za,zb,zc,zd,ze,zf,zg,zh,zi,zj,zk,zl,zm,zn,zo,zp,reduceCtorEq,zE,↓reduceIte]
     all_goals rfl
def s53_2x3 (b0_0:Bool) (b0_1:List UInt8) (body5_1 body5_2:Nat) (at6 e9:Int) (h0:List UInt8):Option (((Bool×List UInt8) ⊕ (Bool×List UInt8×Bool×List UInt8×Int×Int) ⊕ (Bool×List UInt8×Bool×List UInt8×Int×Int) ⊕ (Bool×List UInt8×Nat×Nat×Int×Int×List UInt8) ⊕ (Bool×List UInt8×Nat×Nat×Int×Int×List UInt8) ⊕ (Bool×List UInt8×Nat×Nat×Int×Int×List UInt8)) ⊕ R53):=
 some (.inr (true,([]:List UInt8),(0:Int),e9))
theorem s53_2x3_t (b0_0:Bool) (b0_1:List UInt8) (body5_1 body5_2:Nat) (at6 e9:Int) (h0:List UInt8):
  stepE (K53_2 (mm:=mm)) (scopeF (E0 mm) 53 0 (callW (E0 mm)) itW c53_3 [(0,.keep),(5,.keep),(6,.keep),(9,.keep)] (some 0,[.v (.c (.d (.lst b0_0 (enL enB b0_1)))),.v (.c (.slc 0 0 1 body5_1 (some body5_2))),.v (.c (.d (.sc (.int .i64 at6)))),.v (.c (.d (.sc (.int .i64 e9))))],[.cells (enC h0)])) = (s53_2x3 b0_0 b0_1 body5_1 body5_2 at6 e9 h0).map (sm en53_2 e53):=by
 simp -implicitDefEqProofs only [s53_2x3,scopeF_eq,(show ∀ f st,den (E0 mm) 53 0 (callW (E0 mm)) itW c53_3 f st = den (E0 mm) 53 0 (callW (E0 mm)) itW (.seq c53_4 c53_5) f st from fun _ _=>rfl),(den_seq_l0 (show hasLabel c53_4 0 = false by kernel_rfl)),c53_5_e,(den_seq_l0 (show hasLabel c53_6 0 = false by kernel_rfl)),c53_7_e,(den_seq_l0 (show hasLabel c53_8 0 = false by kernel_rfl)),c53_9_e,(den_seq_l0 (show hasLabel c53_10 0 = false by kernel_rfl)),c53_11_e,(den_seq_l0 (show hasLabel c53_12 0 = false by kernel_rfl)),c53_13_e,(den_seq_l0 (show hasLabel c53_14 0 = false by kernel_rfl)),c53_15_e,(den_seq_l0 (show hasLabel c53_16 0 = false by kernel_rfl)),c53_47_e,(den_seq_l0 (show hasLabel c53_48 0 = false by kernel_rfl)),c53_55_e,(den_seq_l0 (show hasLabel c53_56 0 = false by kernel_rfl)),c53_63_e,(den_seq_l0 (show hasLabel c53_64 0 = false by kernel_rfl)),c53_69_e,(den_seq_l0 (show hasLabel c53_70 0 = false by kernel_rfl)),c53_77_e,(den_seq_l0 (show hasLabel c53_78 0 = false by kernel_rfl)),c53_83_e,(den_seq_l0 (show hasLabel c53_84 0 = false by kernel_rfl)),c53_91_e,(den_seq_l0 (show hasLabel c53_92 0 = false by kernel_rfl)),c53_93_e,(den_seq_l0 (show hasLabel c53_94 0 = false by kernel_rfl)),c53_95_e,(den_seq_l0 (show hasLabel c53_96 0 = false by kernel_rfl)),c53_97_e,(den_seq_l0 (show hasLabel c53_98 0 = false by kernel_rfl)),c53_111_e,(den_seq_l1 (show hasLabel (Code.label 0) 0 = true by kernel_rfl)),c53_112_e,c53_113_e,c53_114_r,(show opsOf c53_114 = _ :: _ from rfl),c53_115_e,K53_2,setA,setB,za,zb,zc,zd,ze,zf,zg,zh,zi,zj,zk,zl,zm,zn,zo,zp,reduceCtorEq,zE,↓reduceIte]
 all_goals rfl
def j53_91v1 (b0_0:Bool) (b0_1:List UInt8) (body5_1 body5_2:Nat) (at6 e9:Int) (h1:List UInt8):Option (((Bool×List UInt8) ⊕ (Bool×List UInt8×Bool×List UInt8×Int×Int) ⊕ (Bool×List UInt8×Bool×List UInt8×Int×Int) ⊕ (Bool×List UInt8×Nat×Nat×Int×Int×List UInt8) ⊕ (Bool×List UInt8×Nat×Nat×Int×Int×List UInt8) ⊕ (Bool×List UInt8×Nat×Nat×Int×Int×List UInt8)) ⊕ R53):=
 some (.inl (.inr (.inr (.inr (.inr (.inl (b0_0,b0_1,body5_1,body5_2,(w64 (at6 + 2)),e9,h1)))))))
theorem j53_91v1_t (b0_0:Bool) (b0_1:List UInt8) (body5_1 body5_2:Nat) (at6 e9:Int) (h1:List UInt8) (g0:Ob) (sl:Nat→AV) (zq0:sl 0 = .v (.c (.d (.lst b0_0 (enL enB b0_1))))) (zq5:sl 5 = .v (.c (.slc 1 0 1 body5_1 (some body5_2)))) (zq6:sl 6 = .v (.c (.d (.sc (.int .i64 at6))))) (zq9:sl 9 = .v (.c (.d (.sc (.int .i64 e9))))):
  stepE (K53_2 (mm:=mm)) (scopeK 0 [(0,.keep),(5,.keep),(6,.keep),(9,.keep)] c53_3 (den (E0 mm) 53 0 (callW (E0 mm)) itW c53_91 none ⟨sl,[g0,.cells (enC h1)]⟩)) = (j53_91v1 b0_0 b0_1 body5_1 body5_2 at6 e9 h1).map (sm en53_2 e53):=by
 simp -implicitDefEqProofs only [j53_91v1,c53_91_e,c53_92_r,(show opsOf c53_92 = _ :: _ from rfl),c53_93_e,c53_94_e,(scopeK_g (show hasLabel c53_3 1 = true by kernel_rfl)),zq0,zq5,zq6,zq9,setA,setB,za,zb,zc,zd,ze,zf,zg,zh,zi,zj,zk,zl,zm,zn,zo,zp,reduceCtorEq,zE,↓reduceIte]
 all_goals rfl
def j53_86v1 (b0_0:Bool) (b0_1:List UInt8) (body5_1 body5_2:Nat) (at6 e9:Int) (t101:Bool) (h1:List UInt8):Option (((Bool×List UInt8) ⊕ (Bool×List UInt8×Bool×List UInt8×Int×Int) ⊕ (Bool×List UInt8×Bool×List UInt8×Int×Int) ⊕ (Bool×List UInt8×Nat×Nat×Int×Int×List UInt8) ⊕ (Bool×List UInt8×Nat×Nat×Int×Int×List UInt8) ⊕ (Bool×List UInt8×Nat×Nat×Int×Int×List UInt8)) ⊕ R53):=
 if t101 = true then
  some (.inl (.inr (.inr (.inr (.inl (b0_0,b0_1,body5_1,body5_2,at6,(20:Int),h1))))))
 else
  j53_91v1 b0_0 b0_1 body5_1 body5_2 at6 e9 h1
theorem j53_86v1_t (b0_0:Bool) (b0_1:List UInt8) (body5_1 body5_2:Nat) (at6 e9:Int) (t101:Bool) (h1:List UInt8) (g0:Ob) (sl:Nat→AV) (zq0:sl 0 = .v (.c (.d (.lst b0_0 (enL enB b0_1))))) (zq5:sl 5 = .v (.c (.slc 1 0 1 body5_1 (some body5_2)))) (zq6:sl 6 = .v (.c (.d (.sc (.int .i64 at6))))) (zq9:sl 9 = .v (.c (.d (.sc (.int .i64 e9))))) (zq101:sl 101 = .v (.c (.d (.sc (.bool t101))))):
  stepE (K53_2 (mm:=mm)) (scopeK 0 [(0,.keep),(5,.keep),(6,.keep),(9,.keep)] c53_3 (seqD (E0 mm) 53 0 (callW (E0 mm)) itW c53_91 (den (E0 mm) 53 0 (callW (E0 mm)) itW c53_86 none ⟨sl,[g0,.cells (enC h1)]⟩))) = (j53_86v1 b0_0 b0_1 body5_1 body5_2 at6 e9 t101 h1).map (sm en53_2 e53):=by
 simp -implicitDefEqProofs only [j53_86v1,(show c53_86 = Code.cond _ c53_87 c53_90 from rfl),zq0,zq5,zq6,zq9,zq101,setA,setB,za,zb,zc,zd,ze,zf,zg,zh,zi,zj,zk,zl,zm,zn,zo,zp,reduceCtorEq,zE,↓reduceIte]
 refine brB (fun yc75=>?_) (fun yc75=>?_)
 ·simp -implicitDefEqProofs only [c53_87_e,c53_88_r,(show opsOf c53_88 = _ :: _ from rfl),c53_89_e,(scopeK_g (show hasLabel c53_3 0 = true by kernel_rfl)),zq0,zq5,zq6,zq9,zq101,yc75,setA,setB,za,zb,zc,zd,ze,zf,zg,zh,zi,zj,zk,zl,zm,zn,zo,zp,reduceCtorEq,zE,↓reduceIte]
  all_goals rfl
 ·simp -implicitDefEqProofs only [c53_90_e,zq0,zq5,zq6,zq9,zq101,yc75,setA,setB,za,zb,zc,zd,ze,zf,zg,zh,zi,zj,zk,zl,zm,zn,zo,zp,reduceCtorEq,zE,↓reduceIte]
  exact j53_91v1_t b0_0 b0_1 body5_1 body5_2 at6 e9 h1 _ _ (by exact zq0) (by exact zq5) (by exact zq6) (by exact zq9)
def j53_77v1 (b0_0:Bool) (b0_1:List UInt8) (body5_1 body5_2:Nat) (at6 n7 e9:Int) (h0:List UInt8):Option (((Bool×List UInt8) ⊕ (Bool×List UInt8×Bool×List UInt8×Int×Int) ⊕ (Bool×List UInt8×Bool×List UInt8×Int×Int) ⊕ (Bool×List UInt8×Nat×Nat×Int×Int×List UInt8) ⊕ (Bool×List UInt8×Nat×Nat×Int×Int×List UInt8) ⊕ (Bool×List UInt8×Nat×Nat×Int×Int×List UInt8)) ⊕ R53):=
 if 0≤(w64 ((body5_1:Int) + (w64 n7)))∧(w64 ((body5_1:Int) + (w64 n7)))≤140737488355328 then
  if body5_1≤h0.length then
   (bnd (((min (h0.take body5_1).length ((w64 ((body5_1:Int) + (w64 n7))).toNat)):Nat):Int) ((w64 ((body5_1:Int) + (w64 n7))).toNat)).bind fun yk66=>
    (bnd at6 b0_1.length).bind fun yk68=>
     if yk66 + ((w64 ((body5_1:Int) + (w64 n7))).toNat - yk66)≤(cpy (List.replicate ((w64 ((body5_1:Int) + (w64 n7))).toNat) (0:UInt8)) 0 ((w64 ((body5_1:Int) + (w64 n7))).toNat) (h0.take body5_1)).length then
      if 0≤(w64 (at6 + (w64 n7)))∧(w64 (at6 + (w64 n7))) < (b0_1.length:Int) then
       if ((b0_1.getD ((w64 (at6 + (w64 n7))).toNat) default) == (13:UInt8)) = true then
        if 0≤(w64 ((w64 (at6 + (w64 n7))) + 1))∧(w64 ((w64 (at6 + (w64 n7))) + 1)) < (b0_1.length:Int) then
         j53_86v1 b0_0 b0_1 ((w64 ((body5_1:Int) + (w64 n7))).toNat) ((w64 ((body5_1:Int) + (w64 n7))).toNat) (w64 (at6 + (w64 n7))) e9 (!((b0_1.getD ((w64 ((w64 (at6 + (w64 n7))) + 1)).toNat) default) == (10:UInt8))) (cpy (cpy (List.replicate ((w64 ((body5_1:Int) + (w64 n7))).toNat) (0:UInt8)) 0 ((w64 ((body5_1:Int) + (w64 n7))).toNat) (h0.take body5_1)) yk66 ((w64 ((body5_1:Int) + (w64 n7))).toNat - yk66) (b0_1.drop yk68))
        else none
       else
        j53_86v1 b0_0 b0_1 ((w64 ((body5_1:Int) + (w64 n7))).toNat) ((w64 ((body5_1:Int) + (w64 n7))).toNat) (w64 (at6 + (w64 n7))) e9 true (cpy (cpy (List.replicate ((w64 ((body5_1:Int) + (w64 n7))).toNat) (0:UInt8)) 0 ((w64 ((body5_1:Int) + (w64 n7))).toNat) (h0.take body5_1)) yk66 ((w64 ((body5_1:Int) + (w64 n7))).toNat - yk66) (b0_1.drop yk68))
      else none
     else none
  else none
 else none
theorem j53_77v1_t (b0_0:Bool) (b0_1:List UInt8) (body5_1 body5_2:Nat) (at6 n7 e9:Int) (h0:List UInt8)  (sl:Nat→AV) (zq0:sl 0 = .v (.c (.d (.lst b0_0 (enL enB b0_1))))) (zq5:sl 5 = .v (.c (.slc 0 0 1 body5_1 (some body5_2)))) (zq6:sl 6 = .v (.c (.d (.sc (.int .i64 at6))))) (zq7:sl 7 = .v (.c (.d (.sc (.int .u64 n7))))) (zq9:sl 9 = .v (.c (.d (.sc (.int .i64 e9))))):
  stepE (K53_2 (mm:=mm)) (scopeK 0 [(0,.keep),(5,.keep),(6,.keep),(9,.keep)] c53_3 (den (E0 mm) 53 0 (callW (E0 mm)) itW c53_77 none ⟨sl,[.cells (enC h0)]⟩)) = (j53_77v1 b0_0 b0_1 body5_1 body5_2 at6 n7 e9 h0).map (sm en53_2 e53):=by
 simp -implicitDefEqProofs only [j53_77v1,c53_77_e,c53_78_e,c53_79_r,(show opsOf c53_79 = _ :: _ from rfl),Tryz.underlying22,Tryz.underlying64,Tryz.underlying3,sz5,by5,zc5,enC_rep,Int.le_refl,Int.mul_one,true_and,(show (2:Int) ^ 47 = 140737488355328 from rfl),zq0,zq5,zq6,zq7,zq9,setA,setB,za,zb,zc,zd,ze,zf,zg,zh,zi,zj,zk,zl,zm,zn,zo,zp,reduceCtorEq,zE,↓reduceIte]
 refine brP (fun yc63=>?_) (fun yc63=>?_)
 ·simp -implicitDefEqProofs only [c53_80_e,c53_81_r,(show opsOf c53_81 = _ :: _ from rfl),Tryz.underlying22,(copyA_b Tryz.underlying22 sz5),cpO_en,enC_length,enC_take,mapM_enC,enC_drop,zq0,zq5,zq6,zq7,zq9,yc63,setA,setB,za,zb,zc,zd,ze,zf,zg,zh,zi,zj,zk,zl,zm,zn,zo,zp,reduceCtorEq,zE,↓reduceIte]
  refine brP (fun yc64=>?_) (fun yc64=>?_)
  ·simp -implicitDefEqProofs only [enC_length,enC_take,mapM_enC,enC_drop,(chunk_enD body5_1 h0 yc64),(copyA_b Tryz.underlying22 sz5),cpO_en,Nat.zero_add,List.length_replicate,Nat.le_refl,if_true,Tryz.underlying22,sz5,Option.getD_none,Option.getD_some,Option.map_none,Option.map_some,Nat.sub_zero,Nat.zero_mul,Nat.mul_one,zq0,zq5,zq6,zq7,zq9,yc63,yc64,setA,setB,za,zb,zc,zd,ze,zf,zg,zh,zi,zj,zk,zl,zm,zn,zo,zp,reduceCtorEq,zE,↓reduceIte]
   refine brM (fun yc65=>?_) (fun yk66 yc65=>?_)
   ·rw [yc65]; rfl
   ·simp -implicitDefEqProofs only [Tryz.underlying22,enB_a,sz5,zq0,zq5,zq6,zq7,zq9,yc63,yc64,yc65,setA,setB,za,zb,zc,zd,ze,zf,zg,zh,zi,zj,zk,zl,zm,zn,zo,zp,reduceCtorEq,zE,↓reduceIte]
    refine brM (fun yc67=>?_) (fun yk68 yc67=>?_)
    ·rw [yc67]; rfl
    ·simp -implicitDefEqProofs only [Option.isNone_some,Bool.false_and,Bool.and_false,Bool.false_eq_true,if_false,Tryz.underlying22,(copyA_b Tryz.underlying22 sz5),cpO_en,zq0,zq5,zq6,zq7,zq9,yc63,yc64,yc65,yc67,setA,setB,za,zb,zc,zd,ze,zf,zg,zh,zi,zj,zk,zl,zm,zn,zo,zp,reduceCtorEq,zE,↓reduceIte]
     refine brP (fun yc69=>?_) (fun yc69=>?_)
     ·simp -implicitDefEqProofs only [c53_82_r,(show opsOf c53_82 = _ :: _ from rfl),Tryz.underlying64,Tryz.underlying3,c53_83_e,c53_84_e,c53_85_r,(show opsOf c53_85 = _ :: _ from rfl),Tryz.underlying22,sz5,enB_a,zq0,zq5,zq6,zq7,zq9,yc63,yc64,yc65,yc67,yc69,setA,setB,za,zb,zc,zd,ze,zf,zg,zh,zi,zj,zk,zl,zm,zn,zo,zp,reduceCtorEq,zE,↓reduceIte]
      refine brP (fun yc70=>?_) (fun yc70=>?_)
      ·have yd71:(w64 (at6 + (w64 n7))).toNat < b0_1.length:=by omega
       simp -implicitDefEqProofs only [(enL_get enB b0_1 ((w64 (at6 + (w64 n7))).toNat) yd71),enB_e,sz5,ag5,zq0,zq5,zq6,zq7,zq9,yc63,yc64,yc65,yc67,yc69,yc70,yd71,setA,setB,za,zb,zc,zd,ze,zf,zg,zh,zi,zj,zk,zl,zm,zn,zo,zp,reduceCtorEq,zE,↓reduceIte]
       refine brB (fun yc72=>?_) (fun yc72=>?_)
       ·simp -implicitDefEqProofs only [Tryz.underlying22,sz5,enB_a,zq0,zq5,zq6,zq7,zq9,yc63,yc64,yc65,yc67,yc69,yc70,yd71,yc72,setA,setB,za,zb,zc,zd,ze,zf,zg,zh,zi,zj,zk,zl,zm,zn,zo,zp,reduceCtorEq,zE,↓reduceIte]
        refine brP (fun yc73=>?_) (fun yc73=>?_)
        ·have yd74:(w64 ((w64 (at6 + (w64 n7))) + 1)).toNat < b0_1.length:=by omega
         simp -implicitDefEqProofs only [(enL_get enB b0_1 ((w64 ((w64 (at6 + (w64 n7))) + 1)).toNat) yd74),enB_e,sz5,ag5,zq0,zq5,zq6,zq7,zq9,yc63,yc64,yc65,yc67,yc69,yc70,yd71,yc72,yc73,yd74,setA,setB,za,zb,zc,zd,ze,zf,zg,zh,zi,zj,zk,zl,zm,zn,zo,zp,reduceCtorEq,zE,↓reduceIte]
         exact j53_86v1_t b0_0 b0_1 ((w64 ((body5_1:Int) + (w64 n7))).toNat) ((w64 ((body5_1:Int) + (w64 n7))).toNat) (w64 (at6 + (w64 n7))) e9 (!((b0_1.getD ((w64 ((w64 (at6 + (w64 n7))) + 1)).toNat) default) == (10:UInt8))) (cpy (cpy (List.replicate ((w64 ((body5_1:Int) + (w64 n7))).toNat) (0:UInt8)) 0 ((w64 ((body5_1:Int) + (w64 n7))).toNat) (h0.take body5_1)) yk66 ((w64 ((body5_1:Int) + (w64 n7))).toNat - yk66) (b0_1.drop yk68)) _ _ (by exact zq0) (by rfl) (by rfl) (by exact zq9) (by rfl)
        ·rw [if_neg yc73]; rfl
       ·simp -implicitDefEqProofs only [zq0,zq5,zq6,zq7,zq9,yc63,yc64,yc65,yc67,yc69,yc70,yd71,yc72,setA,setB,za,zb,zc,zd,ze,zf,zg,zh,zi,zj,zk,zl,zm,zn,zo,zp,reduceCtorEq,zE,↓reduceIte]
        exact j53_86v1_t b0_0 b0_1 ((w64 ((body5_1:Int) + (w64 n7))).toNat) ((w64 ((body5_1:Int) + (w64 n7))).toNat) (w64 (at6 + (w64 n7))) e9 true (cpy (cpy (List.replicate ((w64 ((body5_1:Int) + (w64 n7))).toNat) (0:UInt8)) 0 ((w64 ((body5_1:Int) + (w64 n7))).toNat) (h0.take body5_1)) yk66 ((w64 ((body5_1:Int) + (w64 n7))).toNat - yk66) (b0_1.drop yk68)) _ _ (by exact zq0) (by rfl) (by rfl) (by exact zq9) (by rfl)
      ·rw [if_neg yc70]; rfl
     ·rw [if_neg yc69]; rfl
  ·rw [if_neg yc64]; rfl
 ·rw [if_neg yc63]; rfl
def j53_69v1 (b0_0:Bool) (b0_1:List UInt8) (body5_1 body5_2:Nat) (at6 n7 e9:Int) (h0:List UInt8):Option (((Bool×List UInt8) ⊕ (Bool×List UInt8×Bool×List UInt8×Int×Int) ⊕ (Bool×List UInt8×Bool×List UInt8×Int×Int) ⊕ (Bool×List UInt8×Nat×Nat×Int×Int×List UInt8) ⊕ (Bool×List UInt8×Nat×Nat×Int×Int×List UInt8) ⊕ (Bool×List UInt8×Nat×Nat×Int×Int×List UInt8)) ⊕ R53):=
 if (decide ((w64 ((b0_1.length:Int) - at6)) < (w64 ((w64 n7) + 2)))) = true then
  some (.inl (.inr (.inr (.inr (.inl (b0_0,b0_1,body5_1,body5_2,at6,(8:Int),h0))))))
 else
  j53_77v1 b0_0 b0_1 body5_1 body5_2 at6 n7 e9 h0
theorem j53_69v1_t (b0_0:Bool) (b0_1:List UInt8) (body5_1 body5_2:Nat) (at6 n7 e9:Int) (h0:List UInt8)  (sl:Nat→AV) (zq0:sl 0 = .v (.c (.d (.lst b0_0 (enL enB b0_1))))) (zq5:sl 5 = .v (.c (.slc 0 0 1 body5_1 (some body5_2)))) (zq6:sl 6 = .v (.c (.d (.sc (.int .i64 at6))))) (zq7:sl 7 = .v (.c (.d (.sc (.int .u64 n7))))) (zq9:sl 9 = .v (.c (.d (.sc (.int .i64 e9))))):
  stepE (K53_2 (mm:=mm)) (scopeK 0 [(0,.keep),(5,.keep),(6,.keep),(9,.keep)] c53_3 (den (E0 mm) 53 0 (callW (E0 mm)) itW c53_69 none ⟨sl,[.cells (enC h0)]⟩)) = (j53_69v1 b0_0 b0_1 body5_1 body5_2 at6 n7 e9 h0).map (sm en53_2 e53):=by
 simp -implicitDefEqProofs only [j53_69v1,c53_69_e,c53_70_e,c53_71_r,(show opsOf c53_71 = _ :: _ from rfl),Tryz.underlying22,Tryz.underlying64,Tryz.underlying3,(show c53_72 = Code.cond _ c53_73 c53_76 from rfl),zq0,zq5,zq6,zq7,zq9,setA,setB,za,zb,zc,zd,ze,zf,zg,zh,zi,zj,zk,zl,zm,zn,zo,zp,reduceCtorEq,zE,↓reduceIte]
 refine brB (fun yc62=>?_) (fun yc62=>?_)
 ·simp -implicitDefEqProofs only [c53_73_e,c53_74_r,(show opsOf c53_74 = _ :: _ from rfl),c53_75_e,(scopeK_g (show hasLabel c53_3 0 = true by kernel_rfl)),zq0,zq5,zq6,zq7,zq9,yc62,setA,setB,za,zb,zc,zd,ze,zf,zg,zh,zi,zj,zk,zl,zm,zn,zo,zp,reduceCtorEq,zE,↓reduceIte]
  all_goals rfl
 ·simp -implicitDefEqProofs only [c53_76_e,zq0,zq5,zq6,zq7,zq9,yc62,setA,setB,za,zb,zc,zd,ze,zf,zg,zh,zi,zj,zk,zl,zm,zn,zo,zp,reduceCtorEq,zE,↓reduceIte]
  exact j53_77v1_t b0_0 b0_1 body5_1 body5_2 at6 n7 e9 h0 _ (by exact zq0) (by exact zq5) (by exact zq6) (by exact zq7) (by exact zq9)
def j53_63v1 (b0_0:Bool) (b0_1:List UInt8) (body5_1 body5_2:Nat) (at6 n7 e9:Int) (h0:List UInt8):Option (((Bool×List UInt8) ⊕ (Bool×List UInt8×Bool×List UInt8×Int×Int) ⊕ (Bool×List UInt8×Bool×List UInt8×Int×Int) ⊕ (Bool×List UInt8×Nat×Nat×Int×Int×List UInt8) ⊕ (Bool×List UInt8×Nat×Nat×Int×Int×List UInt8) ⊕ (Bool×List UInt8×Nat×Nat×Int×Int×List UInt8)) ⊕ R53):=
 if (n7 == 0) = true then
  some (.inl (.inr (.inr (.inr (.inr (.inr (b0_0,b0_1,body5_1,body5_2,at6,e9,h0)))))))
 else
  j53_69v1 b0_0 b0_1 body5_1 body5_2 at6 n7 e9 h0
theorem j53_63v1_t (b0_0:Bool) (b0_1:List UInt8) (body5_1 body5_2:Nat) (at6 n7 e9:Int) (h0:List UInt8)  (sl:Nat→AV) (zq0:sl 0 = .v (.c (.d (.lst b0_0 (enL enB b0_1))))) (zq5:sl 5 = .v (.c (.slc 0 0 1 body5_1 (some body5_2)))) (zq6:sl 6 = .v (.c (.d (.sc (.int .i64 at6))))) (zq7:sl 7 = .v (.c (.d (.sc (.int .u64 n7))))) (zq9:sl 9 = .v (.c (.d (.sc (.int .i64 e9))))):
  stepE (K53_2 (mm:=mm)) (scopeK 0 [(0,.keep),(5,.keep),(6,.keep),(9,.keep)] c53_3 (den (E0 mm) 53 0 (callW (E0 mm)) itW c53_63 none ⟨sl,[.cells (enC h0)]⟩)) = (j53_63v1 b0_0 b0_1 body5_1 body5_2 at6 n7 e9 h0).map (sm en53_2 e53):=by
 simp -implicitDefEqProofs only [j53_63v1,c53_63_e,c53_64_e,c53_65_r,(show opsOf c53_65 = _ :: _ from rfl),(show c53_66 = Code.cond _ c53_67 c53_68 from rfl),zq0,zq5,zq6,zq7,zq9,setA,setB,za,zb,zc,zd,ze,zf,zg,zh,zi,zj,zk,zl,zm,zn,zo,zp,reduceCtorEq,zE,↓reduceIte]
 refine brB (fun yc61=>?_) (fun yc61=>?_)
 ·simp -implicitDefEqProofs only [c53_67_e,(scopeK_g (show hasLabel c53_3 2 = true by kernel_rfl)),zq0,zq5,zq6,zq7,zq9,yc61,setA,setB,za,zb,zc,zd,ze,zf,zg,zh,zi,zj,zk,zl,zm,zn,zo,zp,reduceCtorEq,zE,↓reduceIte]
  all_goals rfl
 ·simp -implicitDefEqProofs only [c53_68_e,zq0,zq5,zq6,zq7,zq9,yc61,setA,setB,za,zb,zc,zd,ze,zf,zg,zh,zi,zj,zk,zl,zm,zn,zo,zp,reduceCtorEq,zE,↓reduceIte]
  exact j53_69v1_t b0_0 b0_1 body5_1 body5_2 at6 n7 e9 h0 _ (by exact zq0) (by exact zq5) (by exact zq6) (by exact zq7) (by exact zq9)
def j53_55v1 (b0_0:Bool) (b0_1:List UInt8) (body5_1 body5_2:Nat) (at6 n7 e9:Int) (h0:List UInt8):Option (((Bool×List UInt8) ⊕ (Bool×List UInt8×Bool×List UInt8×Int×Int) ⊕ (Bool×List UInt8×Bool×List UInt8×Int×Int) ⊕ (Bool×List UInt8×Nat×Nat×Int×Int×List UInt8) ⊕ (Bool×List UInt8×Nat×Nat×Int×Int×List UInt8) ⊕ (Bool×List UInt8×Nat×Nat×Int×Int×List UInt8)) ⊕ R53):=
 if (decide ((wu64 (w64 (4096 - (body5_1:Int)))) < n7)) = true then
  some (.inl (.inr (.inr (.inr (.inl (b0_0,b0_1,body5_1,body5_2,at6,(21:Int),h0))))))
 else
  j53_63v1 b0_0 b0_1 body5_1 body5_2 at6 n7 e9 h0
theorem j53_55v1_t (b0_0:Bool) (b0_1:List UInt8) (body5_1 body5_2:Nat) (at6 n7 e9:Int) (h0:List UInt8)  (sl:Nat→AV) (zq0:sl 0 = .v (.c (.d (.lst b0_0 (enL enB b0_1))))) (zq5:sl 5 = .v (.c (.slc 0 0 1 body5_1 (some body5_2)))) (zq6:sl 6 = .v (.c (.d (.sc (.int .i64 at6))))) (zq7:sl 7 = .v (.c (.d (.sc (.int .u64 n7))))) (zq9:sl 9 = .v (.c (.d (.sc (.int .i64 e9))))):
  stepE (K53_2 (mm:=mm)) (scopeK 0 [(0,.keep),(5,.keep),(6,.keep),(9,.keep)] c53_3 (den (E0 mm) 53 0 (callW (E0 mm)) itW c53_55 none ⟨sl,[.cells (enC h0)]⟩)) = (j53_55v1 b0_0 b0_1 body5_1 body5_2 at6 n7 e9 h0).map (sm en53_2 e53):=by
 simp -implicitDefEqProofs only [j53_55v1,c53_55_e,c53_56_e,c53_57_r,(show opsOf c53_57 = _ :: _ from rfl),Tryz.underlying22,Tryz.underlying3,Tryz.underlying64,(show c53_58 = Code.cond _ c53_59 c53_62 from rfl),zq0,zq5,zq6,zq7,zq9,setA,setB,za,zb,zc,zd,ze,zf,zg,zh,zi,zj,zk,zl,zm,zn,zo,zp,reduceCtorEq,zE,↓reduceIte]
 refine brB (fun yc60=>?_) (fun yc60=>?_)
 ·simp -implicitDefEqProofs only [c53_59_e,c53_60_r,(show opsOf c53_60 = _ :: _ from rfl),c53_61_e,(scopeK_g (show hasLabel c53_3 0 = true by kernel_rfl)),zq0,zq5,zq6,zq7,zq9,yc60,setA,setB,za,zb,zc,zd,ze,zf,zg,zh,zi,zj,zk,zl,zm,zn,zo,zp,reduceCtorEq,zE,↓reduceIte]
  all_goals rfl
 ·simp -implicitDefEqProofs only [c53_62_e,zq0,zq5,zq6,zq7,zq9,yc60,setA,setB,za,zb,zc,zd,ze,zf,zg,zh,zi,zj,zk,zl,zm,zn,zo,zp,reduceCtorEq,zE,↓reduceIte]
  exact j53_63v1_t b0_0 b0_1 body5_1 body5_2 at6 n7 e9 h0 _ (by exact zq0) (by exact zq5) (by exact zq6) (by exact zq7) (by exact zq9)
def j53_47v1 (b0_0:Bool) (b0_1:List UInt8) (body5_1 body5_2:Nat) (at6:Int) (line8:Bs) (h0:List UInt8):Option (((Bool×List UInt8) ⊕ (Bool×List UInt8×Bool×List UInt8×Int×Int) ⊕ (Bool×List UInt8×Bool×List UInt8×Int×Int) ⊕ (Bool×List UInt8×Nat×Nat×Int×Int×List UInt8) ⊕ (Bool×List UInt8×Nat×Nat×Int×Int×List UInt8) ⊕ (Bool×List UInt8×Nat×Nat×Int×Int×List UInt8)) ⊕ R53):=
 (m89 line8 ([13]:Bs)).bind fun yr56=>
  (m88 yr56).bind fun yr58=>
   if (yr58.2 == 0) = true then
    j53_55v1 b0_0 b0_1 body5_1 body5_2 at6 yr58.1 yr58.2 h0
   else
    some (.inl (.inr (.inr (.inr (.inl (b0_0,b0_1,body5_1,body5_2,at6,yr58.2,h0))))))
theorem j53_47v1_t (b0_0:Bool) (b0_1:List UInt8) (body5_1 body5_2:Nat) (at6:Int) (line8:Bs) (h0:List UInt8)  (sl:Nat→AV) (zq0:sl 0 = .v (.c (.d (.lst b0_0 (enL enB b0_1))))) (zq5:sl 5 = .v (.c (.slc 0 0 1 body5_1 (some body5_2)))) (zq6:sl 6 = .v (.c (.d (.sc (.int .i64 at6))))) (zq8:sl 8 = .v (.c (.d (.sc (.string (S line8)))))):
  stepE (K53_2 (mm:=mm)) (scopeK 0 [(0,.keep),(5,.keep),(6,.keep),(9,.keep)] c53_3 (den (E0 mm) 53 0 (callW (E0 mm)) itW c53_47 none ⟨sl,[.cells (enC h0)]⟩)) = (j53_47v1 b0_0 b0_1 body5_1 body5_2 at6 line8 h0).map (sm en53_2 e53):=by
 simp -implicitDefEqProofs only [j53_47v1,c53_47_e,c53_48_e,c53_49_r,(show opsOf c53_49 = _ :: _ from rfl),ent89,prm89,(show callW (E0 mm) 89 [.c (.d (.sc (.string (S line8)))),.c (.d (.sc (.string (S ([13]:Bs)))))] [] = _ from f89_t line8 ([13]:Bs)),zq0,zq5,zq6,zq8,setA,setB,za,zb,zc,zd,ze,zf,zg,zh,zi,zj,zk,zl,zm,zn,zo,zp,reduceCtorEq,zE,↓reduceIte]
 refine brM (fun yc55=>?_) (fun yr56 yc55=>?_)
 ·rw [yc55]; rfl
 ·simp -implicitDefEqProofs only [e89,ent88,prm88,f88_t,zq0,zq5,zq6,zq8,yc55,setA,setB,za,zb,zc,zd,ze,zf,zg,zh,zi,zj,zk,zl,zm,zn,zo,zp,reduceCtorEq,zE,↓reduceIte]
  refine brM (fun yc57=>?_) (fun yr58 yc57=>?_)
  ·rw [yc57]; rfl
  ·simp -implicitDefEqProofs only [e88,c53_50_e,c53_51_r,(show opsOf c53_51 = _ :: _ from rfl),(show c53_52 = Code.cond _ c53_53 c53_54 from rfl),zq0,zq5,zq6,zq8,yc55,yc57,setA,setB,za,zb,zc,zd,ze,zf,zg,zh,zi,zj,zk,zl,zm,zn,zo,zp,reduceCtorEq,zE,↓reduceIte]
   refine brB (fun yc59=>?_) (fun yc59=>?_)
   ·simp -implicitDefEqProofs only [c53_54_e,zq0,zq5,zq6,zq8,yc55,yc57,yc59,setA,setB,za,zb,zc,zd,ze,zf,zg,zh,zi,zj,zk,zl,zm,zn,zo,zp,reduceCtorEq,zE,↓reduceIte]
    exact j53_55v1_t b0_0 b0_1 body5_1 body5_2 at6 yr58.1 yr58.2 h0 _ (by exact zq0) (by exact zq5) (by exact zq6) (by rfl) (by rfl)
   ·simp -implicitDefEqProofs only [c53_53_e,(scopeK_g (show hasLabel c53_3 0 = true by kernel_rfl)),zq0,zq5,zq6,zq8,yc55,yc57,yc59,setA,setB,za,zb,zc,zd,ze,zf,zg,zh,zi,zj,zk,zl,zm,zn,zo,zp,reduceCtorEq,zE,↓reduceIte]
    all_goals rfl
def j53_36v1 (b0_0:Bool) (b0_1:List UInt8) (body5_1 body5_2:Nat) (at6:Int) (rest10_0:Bool) (rest10_1:List UInt8) (end11:Int) (h0:List UInt8):Option (((Bool×List UInt8) ⊕ (Bool×List UInt8×Bool×List UInt8×Int×Int) ⊕ (Bool×List UInt8×Bool×List UInt8×Int×Int) ⊕ (Bool×List UInt8×Nat×Nat×Int×Int×List UInt8) ⊕ (Bool×List UInt8×Nat×Nat×Int×Int×List UInt8) ⊕ (Bool×List UInt8×Nat×Nat×Int×Int×List UInt8)) ⊕ R53):=
 (bnd end11 rest10_1.length).bind fun yk51=>
  (m87 (rest10_1.take yk51) ([13]:Bs)).bind fun yr53=>
   if yr53 = true then
    j53_47v1 b0_0 b0_1 body5_1 body5_2 (w64 (at6 + (w64 (end11 + 1)))) (rest10_1.take yk51) h0
   else
    some (.inl (.inr (.inr (.inr (.inl (b0_0,b0_1,body5_1,body5_2,(w64 (at6 + (w64 (end11 + 1)))),(20:Int),h0))))))
theorem j53_36v1_t (b0_0:Bool) (b0_1:List UInt8) (body5_1 body5_2:Nat) (at6:Int) (rest10_0:Bool) (rest10_1:List UInt8) (end11:Int) (h0:List UInt8)  (sl:Nat→AV) (zq0:sl 0 = .v (.c (.d (.lst b0_0 (enL enB b0_1))))) (zq5:sl 5 = .v (.c (.slc 0 0 1 body5_1 (some body5_2)))) (zq6:sl 6 = .v (.c (.d (.sc (.int .i64 at6))))) (zq10:sl 10 = .v (.c (.d (.lst rest10_0 (enL enB rest10_1))))) (zq11:sl 11 = .v (.c (.d (.sc (.int .i64 end11))))):
  stepE (K53_2 (mm:=mm)) (scopeK 0 [(0,.keep),(5,.keep),(6,.keep),(9,.keep)] c53_3 (seqD (E0 mm) 53 0 (callW (E0 mm)) itW c53_47 (den (E0 mm) 53 0 (callW (E0 mm)) itW c53_36 none ⟨sl,[.cells (enC h0)]⟩))) = (j53_36v1 b0_0 b0_1 body5_1 body5_2 at6 rest10_0 rest10_1 end11 h0).map (sm en53_2 e53):=by
 simp -implicitDefEqProofs only [j53_36v1,c53_36_e,c53_37_r,(show opsOf c53_37 = _ :: _ from rfl),c53_38_e,c53_39_r,(show opsOf c53_39 = _ :: _ from rfl),Tryz.underlying22,enB_a,sz5,zq0,zq5,zq6,zq10,zq11,setA,setB,za,zb,zc,zd,ze,zf,zg,zh,zi,zj,zk,zl,zm,zn,zo,zp,reduceCtorEq,zE,↓reduceIte]
 refine brM (fun yc50=>?_) (fun yk51 yc50=>?_)
 ·rw [yc50]; rfl
 ·simp -implicitDefEqProofs only [Option.isNone_some,Bool.false_and,Bool.and_false,Bool.false_eq_true,if_false,Tryz.underlying22,Tryz.underlying9,Tryz.underlying5,c53_40_e,c53_41_r,(show opsOf c53_41 = _ :: _ from rfl),ent87,prm87,(show callW (E0 mm) 87 [.c (.d (.sc (.string (S (rest10_1.take yk51))))),.c (.d (.sc (.string (S ([13]:Bs)))))] [] = _ from f87_t (rest10_1.take yk51) ([13]:Bs)),zq0,zq5,zq6,zq10,zq11,yc50,setA,setB,za,zb,zc,zd,ze,zf,zg,zh,zi,zj,zk,zl,zm,zn,zo,zp,reduceCtorEq,zE,↓reduceIte]
  refine brM (fun yc52=>?_) (fun yr53 yc52=>?_)
  ·rw [yc52]; rfl
  ·simp -implicitDefEqProofs only [e87,(show c53_42 = Code.cond _ c53_43 c53_46 from rfl),zq0,zq5,zq6,zq10,zq11,yc50,yc52,setA,setB,za,zb,zc,zd,ze,zf,zg,zh,zi,zj,zk,zl,zm,zn,zo,zp,reduceCtorEq,zE,↓reduceIte]
   refine brB (fun yc54=>?_) (fun yc54=>?_)
   ·simp -implicitDefEqProofs only [c53_46_e,zq0,zq5,zq6,zq10,zq11,yc50,yc52,yc54,setA,setB,za,zb,zc,zd,ze,zf,zg,zh,zi,zj,zk,zl,zm,zn,zo,zp,reduceCtorEq,zE,↓reduceIte]
    exact j53_47v1_t b0_0 b0_1 body5_1 body5_2 (w64 (at6 + (w64 (end11 + 1)))) (rest10_1.take yk51) h0 _ (by exact zq0) (by exact zq5) (by rfl) (by rfl)
   ·simp -implicitDefEqProofs only [c53_43_e,c53_44_r,(show opsOf c53_44 = _ :: _ from rfl),c53_45_e,(scopeK_g (show hasLabel c53_3 0 = true by kernel_rfl)),zq0,zq5,zq6,zq10,zq11,yc50,yc52,yc54,setA,setB,za,zb,zc,zd,ze,zf,zg,zh,zi,zj,zk,zl,zm,zn,zo,zp,reduceCtorEq,zE,↓reduceIte]
    all_goals rfl
def j53_28v1 (b0_0:Bool) (b0_1:List UInt8) (body5_1 body5_2:Nat) (at6:Int) (rest10_0:Bool) (rest10_1:List UInt8) (end11:Int) (h0:List UInt8):Option (((Bool×List UInt8) ⊕ (Bool×List UInt8×Bool×List UInt8×Int×Int) ⊕ (Bool×List UInt8×Bool×List UInt8×Int×Int) ⊕ (Bool×List UInt8×Nat×Nat×Int×Int×List UInt8) ⊕ (Bool×List UInt8×Nat×Nat×Int×Int×List UInt8) ⊕ (Bool×List UInt8×Nat×Nat×Int×Int×List UInt8)) ⊕ R53):=
 if (decide (end11 < 0)) = true then
  some (.inl (.inr (.inr (.inr (.inl (b0_0,b0_1,body5_1,body5_2,at6,(8:Int),h0))))))
 else
  j53_36v1 b0_0 b0_1 body5_1 body5_2 at6 rest10_0 rest10_1 end11 h0
theorem j53_28v1_t (b0_0:Bool) (b0_1:List UInt8) (body5_1 body5_2:Nat) (at6:Int) (rest10_0:Bool) (rest10_1:List UInt8) (end11:Int) (h0:List UInt8)  (sl:Nat→AV) (zq0:sl 0 = .v (.c (.d (.lst b0_0 (enL enB b0_1))))) (zq5:sl 5 = .v (.c (.slc 0 0 1 body5_1 (some body5_2)))) (zq6:sl 6 = .v (.c (.d (.sc (.int .i64 at6))))) (zq10:sl 10 = .v (.c (.d (.lst rest10_0 (enL enB rest10_1))))) (zq11:sl 11 = .v (.c (.d (.sc (.int .i64 end11))))):
  stepE (K53_2 (mm:=mm)) (scopeK 0 [(0,.keep),(5,.keep),(6,.keep),(9,.keep)] c53_3 (seqD (E0 mm) 53 0 (callW (E0 mm)) itW c53_47 (den (E0 mm) 53 0 (callW (E0 mm)) itW c53_28 none ⟨sl,[.cells (enC h0)]⟩))) = (j53_28v1 b0_0 b0_1 body5_1 body5_2 at6 rest10_0 rest10_1 end11 h0).map (sm en53_2 e53):=by
 simp -implicitDefEqProofs only [j53_28v1,c53_28_e,c53_29_e,c53_30_r,(show opsOf c53_30 = _ :: _ from rfl),(show c53_31 = Code.cond _ c53_32 c53_35 from rfl),zq0,zq5,zq6,zq10,zq11,setA,setB,za,zb,zc,zd,ze,zf,zg,zh,zi,zj,zk,zl,zm,zn,zo,zp,reduceCtorEq,zE,↓reduceIte]
 refine brB (fun yc49=>?_) (fun yc49=>?_)
 ·simp -implicitDefEqProofs only [c53_32_e,c53_33_r,(show opsOf c53_33 = _ :: _ from rfl),c53_34_e,(scopeK_g (show hasLabel c53_3 0 = true by kernel_rfl)),zq0,zq5,zq6,zq10,zq11,yc49,setA,setB,za,zb,zc,zd,ze,zf,zg,zh,zi,zj,zk,zl,zm,zn,zo,zp,reduceCtorEq,zE,↓reduceIte]
  all_goals rfl
 ·simp -implicitDefEqProofs only [c53_35_e,zq0,zq5,zq6,zq10,zq11,yc49,setA,setB,za,zb,zc,zd,ze,zf,zg,zh,zi,zj,zk,zl,zm,zn,zo,zp,reduceCtorEq,zE,↓reduceIte]
  exact j53_36v1_t b0_0 b0_1 body5_1 body5_2 at6 rest10_0 rest10_1 end11 h0 _ (by exact zq0) (by exact zq5) (by exact zq6) (by exact zq10) (by exact zq11)
def j53_23v1 (b0_0:Bool) (b0_1:List UInt8) (body5_1 body5_2:Nat) (at6:Int) (rest10_0:Bool) (rest10_1:List UInt8) (end11:Int) (t31:Bool) (h0:List UInt8):Option (((Bool×List UInt8) ⊕ (Bool×List UInt8×Bool×List UInt8×Int×Int) ⊕ (Bool×List UInt8×Bool×List UInt8×Int×Int) ⊕ (Bool×List UInt8×Nat×Nat×Int×Int×List UInt8) ⊕ (Bool×List UInt8×Nat×Nat×Int×Int×List UInt8) ⊕ (Bool×List UInt8×Nat×Nat×Int×Int×List UInt8)) ⊕ R53):=
 if t31 = true then
  some (.inl (.inr (.inr (.inr (.inl (b0_0,b0_1,body5_1,body5_2,at6,(21:Int),h0))))))
 else
  j53_28v1 b0_0 b0_1 body5_1 body5_2 at6 rest10_0 rest10_1 end11 h0
theorem j53_23v1_t (b0_0:Bool) (b0_1:List UInt8) (body5_1 body5_2:Nat) (at6:Int) (rest10_0:Bool) (rest10_1:List UInt8) (end11:Int) (t31:Bool) (h0:List UInt8)  (sl:Nat→AV) (zq0:sl 0 = .v (.c (.d (.lst b0_0 (enL enB b0_1))))) (zq5:sl 5 = .v (.c (.slc 0 0 1 body5_1 (some body5_2)))) (zq6:sl 6 = .v (.c (.d (.sc (.int .i64 at6))))) (zq10:sl 10 = .v (.c (.d (.lst rest10_0 (enL enB rest10_1))))) (zq11:sl 11 = .v (.c (.d (.sc (.int .i64 end11))))) (zq31:sl 31 = .v (.c (.d (.sc (.bool t31))))):
  stepE (K53_2 (mm:=mm)) (scopeK 0 [(0,.keep),(5,.keep),(6,.keep),(9,.keep)] c53_3 (seqD (E0 mm) 53 0 (callW (E0 mm)) itW c53_47 (seqD (E0 mm) 53 0 (callW (E0 mm)) itW c53_28 (den (E0 mm) 53 0 (callW (E0 mm)) itW c53_23 none ⟨sl,[.cells (enC h0)]⟩)))) = (j53_23v1 b0_0 b0_1 body5_1 body5_2 at6 rest10_0 rest10_1 end11 t31 h0).map (sm en53_2 e53):=by
 simp -implicitDefEqProofs only [j53_23v1,(show c53_23 = Code.cond _ c53_24 c53_27 from rfl),zq0,zq5,zq6,zq10,zq11,zq31,setA,setB,za,zb,zc,zd,ze,zf,zg,zh,zi,zj,zk,zl,zm,zn,zo,zp,reduceCtorEq,zE,↓reduceIte]
 refine brB (fun yc48=>?_) (fun yc48=>?_)
 ·simp -implicitDefEqProofs only [c53_24_e,c53_25_r,(show opsOf c53_25 = _ :: _ from rfl),c53_26_e,(scopeK_g (show hasLabel c53_3 0 = true by kernel_rfl)),zq0,zq5,zq6,zq10,zq11,zq31,yc48,setA,setB,za,zb,zc,zd,ze,zf,zg,zh,zi,zj,zk,zl,zm,zn,zo,zp,reduceCtorEq,zE,↓reduceIte]
  all_goals rfl
 ·simp -implicitDefEqProofs only [c53_27_e,zq0,zq5,zq6,zq10,zq11,zq31,yc48,setA,setB,za,zb,zc,zd,ze,zf,zg,zh,zi,zj,zk,zl,zm,zn,zo,zp,reduceCtorEq,zE,↓reduceIte]
  exact j53_28v1_t b0_0 b0_1 body5_1 body5_2 at6 rest10_0 rest10_1 end11 h0 _ (by exact zq0) (by exact zq5) (by exact zq6) (by exact zq10) (by exact zq11)
def s53_2x4 (b0_0:Bool) (b0_1:List UInt8) (body5_1 body5_2:Nat) (at6 e9:Int) (h0:List UInt8):Option (((Bool×List UInt8) ⊕ (Bool×List UInt8×Bool×List UInt8×Int×Int) ⊕ (Bool×List UInt8×Bool×List UInt8×Int×Int) ⊕ (Bool×List UInt8×Nat×Nat×Int×Int×List UInt8) ⊕ (Bool×List UInt8×Nat×Nat×Int×Int×List UInt8) ⊕ (Bool×List UInt8×Nat×Nat×Int×Int×List UInt8)) ⊕ R53):=
 (bnd at6 b0_1.length).bind fun yk42=>
  (bnd (min2 ((b0_1.drop yk42).length:Int) 64) ((b0_1.drop yk42).length)).bind fun yk44=>
   (m46 b0_0 ((b0_1.drop yk42).take yk44) (10:UInt8)).bind fun yr46=>
    if (decide (yr46 < 0)) = true then
     j53_23v1 b0_0 b0_1 body5_1 body5_2 at6 b0_0 (b0_1.drop yk42) yr46 (decide (64≤((b0_1.drop yk42).length:Int))) h0
    else
     j53_23v1 b0_0 b0_1 body5_1 body5_2 at6 b0_0 (b0_1.drop yk42) yr46 false h0
theorem s53_2x4_t (b0_0:Bool) (b0_1:List UInt8) (body5_1 body5_2:Nat) (at6 e9:Int) (h0:List UInt8):
  stepE (K53_2 (mm:=mm)) (scopeF (E0 mm) 53 0 (callW (E0 mm)) itW c53_3 [(0,.keep),(5,.keep),(6,.keep),(9,.keep)] (some 1,[.v (.c (.d (.lst b0_0 (enL enB b0_1)))),.v (.c (.slc 0 0 1 body5_1 (some body5_2))),.v (.c (.d (.sc (.int .i64 at6)))),.v (.c (.d (.sc (.int .i64 e9))))],[.cells (enC h0)])) = (s53_2x4 b0_0 b0_1 body5_1 body5_2 at6 e9 h0).map (sm en53_2 e53):=by
 simp -implicitDefEqProofs only [s53_2x4,scopeF_eq,(show ∀ f st,den (E0 mm) 53 0 (callW (E0 mm)) itW c53_3 f st = den (E0 mm) 53 0 (callW (E0 mm)) itW (.seq c53_4 c53_5) f st from fun _ _=>rfl),(den_seq_l0 (show hasLabel c53_4 1 = false by kernel_rfl)),c53_5_e,(den_seq_l0 (show hasLabel c53_6 1 = false by kernel_rfl)),c53_7_e,(den_seq_l0 (show hasLabel c53_8 1 = false by kernel_rfl)),c53_9_e,(den_seq_l0 (show hasLabel c53_10 1 = false by kernel_rfl)),c53_11_e,(den_seq_l0 (show hasLabel c53_12 1 = false by kernel_rfl)),c53_13_e,(den_seq_l1 (show hasLabel (Code.label 1) 1 = true by kernel_rfl)),c53_14_e,c53_15_e,c53_16_e,c53_17_r,(show opsOf c53_17 = _ :: _ from rfl),Tryz.underlying22,enB_a,sz5,setA,setB,za,zb,zc,zd,ze,zf,zg,zh,zi,zj,zk,zl,zm,zn,zo,zp,reduceCtorEq,zE,↓reduceIte]
 refine brM (fun yc41=>?_) (fun yk42 yc41=>?_)
 ·rw [yc41]; rfl
 ·simp -implicitDefEqProofs only [Option.isNone_some,Bool.false_and,Bool.and_false,Bool.false_eq_true,if_false,c53_18_e,c53_19_r,(show opsOf c53_19 = _ :: _ from rfl),Tryz.underlying22,Tryz.underlying3,enB_a,sz5,yc41,setA,setB,za,zb,zc,zd,ze,zf,zg,zh,zi,zj,zk,zl,zm,zn,zo,zp,reduceCtorEq,zE,↓reduceIte]
  refine brM (fun yc43=>?_) (fun yk44 yc43=>?_)
  ·rw [yc43]; rfl
  ·simp -implicitDefEqProofs only [Option.isNone_some,Bool.false_and,Bool.and_false,Bool.false_eq_true,if_false,ent46,prm46,f46_t,yc41,yc43,setA,setB,za,zb,zc,zd,ze,zf,zg,zh,zi,zj,zk,zl,zm,zn,zo,zp,reduceCtorEq,zE,↓reduceIte]
   refine brM (fun yc45=>?_) (fun yr46 yc45=>?_)
   ·rw [yc45]; rfl
   ·simp -implicitDefEqProofs only [e46,c53_20_e,c53_21_e,c53_22_r,(show opsOf c53_22 = _ :: _ from rfl),yc41,yc43,yc45,setA,setB,za,zb,zc,zd,ze,zf,zg,zh,zi,zj,zk,zl,zm,zn,zo,zp,reduceCtorEq,zE,↓reduceIte]
    refine brB (fun yc47=>?_) (fun yc47=>?_)
    ·simp -implicitDefEqProofs only [Tryz.underlying22,yc41,yc43,yc45,yc47,setA,setB,za,zb,zc,zd,ze,zf,zg,zh,zi,zj,zk,zl,zm,zn,zo,zp,reduceCtorEq,zE,↓reduceIte]
     exact j53_23v1_t b0_0 b0_1 body5_1 body5_2 at6 b0_0 (b0_1.drop yk42) yr46 (decide (64≤((b0_1.drop yk42).length:Int))) h0 _ (by rfl) (by rfl) (by rfl) (by rfl) (by rfl) (by rfl)
    ·simp -implicitDefEqProofs only [yc41,yc43,yc45,yc47,setA,setB,za,zb,zc,zd,ze,zf,zg,zh,zi,zj,zk,zl,zm,zn,zo,zp,reduceCtorEq,zE,↓reduceIte]
     exact j53_23v1_t b0_0 b0_1 body5_1 body5_2 at6 b0_0 (b0_1.drop yk42) yr46 false h0 _ (by rfl) (by rfl) (by rfl) (by rfl) (by rfl) (by rfl)
def j53_108v1 (body5_1 body5_2:Nat) (at6 used14:Int) (h0:List UInt8):Option (((Bool×List UInt8) ⊕ (Bool×List UInt8×Bool×List UInt8×Int×Int) ⊕ (Bool×List UInt8×Bool×List UInt8×Int×Int) ⊕ (Bool×List UInt8×Nat×Nat×Int×Int×List UInt8) ⊕ (Bool×List UInt8×Nat×Nat×Int×Int×List UInt8) ⊕ (Bool×List UInt8×Nat×Nat×Int×Int×List UInt8)) ⊕ R53):=
 if body5_1≤h0.length then
  some (.inr (false,(h0.take body5_1),(w64 (at6 + used14)),(0:Int)))
 else none
theorem j53_108v1_t (body5_1 body5_2:Nat) (at6 used14:Int) (h0:List UInt8)  (sl:Nat→AV) (zq5:sl 5 = .v (.c (.slc 0 0 1 body5_1 (some body5_2)))) (zq6:sl 6 = .v (.c (.d (.sc (.int .i64 at6))))) (zq14:sl 14 = .v (.c (.d (.sc (.int .i64 used14))))):
  stepE (K53_2 (mm:=mm)) (scopeK 0 [(0,.keep),(5,.keep),(6,.keep),(9,.keep)] c53_3 (seqD (E0 mm) 53 0 (callW (E0 mm)) itW c53_111 (den (E0 mm) 53 0 (callW (E0 mm)) itW c53_108 none ⟨sl,[.cells (enC h0)]⟩))) = (j53_108v1 body5_1 body5_2 at6 used14 h0).map (sm en53_2 e53):=by
 simp -implicitDefEqProofs only [j53_108v1,c53_108_e,c53_109_r,(show opsOf c53_109 = _ :: _ from rfl),c53_110_e,K53_2,enC_length,enC_take,mapM_enC,Nat.zero_add,Nat.mul_one,zq5,zq6,zq14,setA,setB,za,zb,zc,zd,ze,zf,zg,zh,zi,zj,zk,zl,zm,zn,zo,zp,reduceCtorEq,zE,↓reduceIte]
 refine brP (fun yc83=>?_) (fun yc83=>?_)
 ·simp -implicitDefEqProofs only [enC_length,enC_take,mapM_enC,Nat.zero_add,Nat.mul_one,(chunk_enD body5_1 h0 yc83),zq5,zq6,zq14,yc83,setA,setB,za,zb,zc,zd,ze,zf,zg,zh,zi,zj,zk,zl,zm,zn,zo,zp,reduceCtorEq,zE,↓reduceIte]
  all_goals rfl
 ·rw [if_neg yc83]; rfl
def s53_2x5 (b0_0:Bool) (b0_1:List UInt8) (body5_1 body5_2:Nat) (at6 e9:Int) (h0:List UInt8):Option (((Bool×List UInt8) ⊕ (Bool×List UInt8×Bool×List UInt8×Int×Int) ⊕ (Bool×List UInt8×Bool×List UInt8×Int×Int) ⊕ (Bool×List UInt8×Nat×Nat×Int×Int×List UInt8) ⊕ (Bool×List UInt8×Nat×Nat×Int×Int×List UInt8) ⊕ (Bool×List UInt8×Nat×Nat×Int×Int×List UInt8)) ⊕ R53):=
 (bnd at6 b0_1.length).bind fun yk77=>
  (m47 b0_0 (b0_1.drop yk77)).bind fun yr79=>
   match yr79 with
   | .inl yr80=>
    if (yr80.2.2.2 == 0) = true then
     j53_108v1 body5_1 body5_2 at6 yr80.2.2.1 h0
    else
     some (.inl (.inr (.inr (.inr (.inl (b0_0,b0_1,body5_1,body5_2,at6,yr80.2.2.2,h0))))))
   | .inr yr81=>
    if (yr81.2.2.2 == 0) = true then
     j53_108v1 body5_1 body5_2 at6 yr81.2.2.1 h0
    else
     some (.inl (.inr (.inr (.inr (.inl (b0_0,b0_1,body5_1,body5_2,at6,yr81.2.2.2,h0))))))
theorem s53_2x5_t (b0_0:Bool) (b0_1:List UInt8) (body5_1 body5_2:Nat) (at6 e9:Int) (h0:List UInt8):
  stepE (K53_2 (mm:=mm)) (scopeF (E0 mm) 53 0 (callW (E0 mm)) itW c53_3 [(0,.keep),(5,.keep),(6,.keep),(9,.keep)] (some 2,[.v (.c (.d (.lst b0_0 (enL enB b0_1)))),.v (.c (.slc 0 0 1 body5_1 (some body5_2))),.v (.c (.d (.sc (.int .i64 at6)))),.v (.c (.d (.sc (.int .i64 e9))))],[.cells (enC h0)])) = (s53_2x5 b0_0 b0_1 body5_1 body5_2 at6 e9 h0).map (sm en53_2 e53):=by
 simp -implicitDefEqProofs only [s53_2x5,scopeF_eq,(show ∀ f st,den (E0 mm) 53 0 (callW (E0 mm)) itW c53_3 f st = den (E0 mm) 53 0 (callW (E0 mm)) itW (.seq c53_4 c53_5) f st from fun _ _=>rfl),(den_seq_l0 (show hasLabel c53_4 2 = false by kernel_rfl)),c53_5_e,(den_seq_l0 (show hasLabel c53_6 2 = false by kernel_rfl)),c53_7_e,(den_seq_l0 (show hasLabel c53_8 2 = false by kernel_rfl)),c53_9_e,(den_seq_l0 (show hasLabel c53_10 2 = false by kernel_rfl)),c53_11_e,(den_seq_l0 (show hasLabel c53_12 2 = false by kernel_rfl)),c53_13_e,(den_seq_l0 (show hasLabel c53_14 2 = false by kernel_rfl)),c53_15_e,(den_seq_l0 (show hasLabel c53_16 2 = false by kernel_rfl)),c53_47_e,(den_seq_l0 (show hasLabel c53_48 2 = false by kernel_rfl)),c53_55_e,(den_seq_l0 (show hasLabel c53_56 2 = false by kernel_rfl)),c53_63_e,(den_seq_l0 (show hasLabel c53_64 2 = false by kernel_rfl)),c53_69_e,(den_seq_l0 (show hasLabel c53_70 2 = false by kernel_rfl)),c53_77_e,(den_seq_l0 (show hasLabel c53_78 2 = false by kernel_rfl)),c53_83_e,(den_seq_l0 (show hasLabel c53_84 2 = false by kernel_rfl)),c53_91_e,(den_seq_l0 (show hasLabel c53_92 2 = false by kernel_rfl)),c53_93_e,(den_seq_l0 (show hasLabel c53_94 2 = false by kernel_rfl)),c53_95_e,(den_seq_l1 (show hasLabel (Code.label 2) 2 = true by kernel_rfl)),c53_96_e,c53_97_e,c53_98_e,c53_99_r,(show opsOf c53_99 = _ :: _ from rfl),Tryz.underlying22,enB_a,sz5,setA,setB,za,zb,zc,zd,ze,zf,zg,zh,zi,zj,zk,zl,zm,zn,zo,zp,reduceCtorEq,zE,↓reduceIte]
 refine brM (fun yc76=>?_) (fun yk77 yc76=>?_)
 ·rw [yc76]; rfl
 ·simp -implicitDefEqProofs only [Option.isNone_some,Bool.false_and,Bool.and_false,Bool.false_eq_true,if_false,ent47,prm47,f47_t,yc76,setA,setB,za,zb,zc,zd,ze,zf,zg,zh,zi,zj,zk,zl,zm,zn,zo,zp,reduceCtorEq,zE,↓reduceIte]
  refine brM (fun yc78=>?_) (fun yr79 yc78=>?_)
  ·rw [yc78]; rfl
  ·rcases yr79 with yr80 | yr81
   ·simp -implicitDefEqProofs only [e47,plainC_t,c53_100_e,c53_101_e,c53_102_r,(show opsOf c53_102 = _ :: _ from rfl),(show c53_103 = Code.cond _ c53_104 c53_107 from rfl),yc76,yc78,setA,setB,za,zb,zc,zd,ze,zf,zg,zh,zi,zj,zk,zl,zm,zn,zo,zp,reduceCtorEq,zE,↓reduceIte]
    refine brB (fun yc82=>?_) (fun yc82=>?_)
    ·simp -implicitDefEqProofs only [c53_107_e,yc76,yc78,yc82,setA,setB,za,zb,zc,zd,ze,zf,zg,zh,zi,zj,zk,zl,zm,zn,zo,zp,reduceCtorEq,zE,↓reduceIte]
     exact j53_108v1_t body5_1 body5_2 at6 yr80.2.2.1 h0 _ (by rfl) (by rfl) (by rfl)
    ·simp -implicitDefEqProofs only [c53_104_e,c53_105_r,(show opsOf c53_105 = _ :: _ from rfl),c53_106_e,(scopeK_g (show hasLabel c53_3 0 = true by kernel_rfl)),yc76,yc78,yc82,setA,setB,za,zb,zc,zd,ze,zf,zg,zh,zi,zj,zk,zl,zm,zn,zo,zp,reduceCtorEq,zE,↓reduceIte]
     all_goals rfl
   ·simp -implicitDefEqProofs only [e47,plainC_t,c53_100_e,c53_101_e,c53_102_r,(show opsOf c53_102 = _ :: _ from rfl),(show c53_103 = Code.cond _ c53_104 c53_107 from rfl),yc76,yc78,setA,setB,za,zb,zc,zd,ze,zf,zg,zh,zi,zj,zk,zl,zm,zn,zo,zp,reduceCtorEq,zE,↓reduceIte]
    refine brB (fun yc84=>?_) (fun yc84=>?_)
    ·simp -implicitDefEqProofs only [c53_107_e,yc76,yc78,yc84,setA,setB,za,zb,zc,zd,ze,zf,zg,zh,zi,zj,zk,zl,zm,zn,zo,zp,reduceCtorEq,zE,↓reduceIte]
     exact j53_108v1_t body5_1 body5_2 at6 yr81.2.2.1 h0 _ (by rfl) (by rfl) (by rfl)
    ·simp -implicitDefEqProofs only [c53_104_e,c53_105_r,(show opsOf c53_105 = _ :: _ from rfl),c53_106_e,(scopeK_g (show hasLabel c53_3 0 = true by kernel_rfl)),yc76,yc78,yc84,setA,setB,za,zb,zc,zd,ze,zf,zg,zh,zi,zj,zk,zl,zm,zn,zo,zp,reduceCtorEq,zE,↓reduceIte]
     all_goals rfl
def s53_2:((Bool×List UInt8) ⊕ (Bool×List UInt8×Bool×List UInt8×Int×Int) ⊕ (Bool×List UInt8×Bool×List UInt8×Int×Int) ⊕ (Bool×List UInt8×Nat×Nat×Int×Int×List UInt8) ⊕ (Bool×List UInt8×Nat×Nat×Int×Int×List UInt8) ⊕ (Bool×List UInt8×Nat×Nat×Int×Int×List UInt8))→Option (((Bool×List UInt8) ⊕ (Bool×List UInt8×Bool×List UInt8×Int×Int) ⊕ (Bool×List UInt8×Bool×List UInt8×Int×Int) ⊕ (Bool×List UInt8×Nat×Nat×Int×Int×List UInt8) ⊕ (Bool×List UInt8×Nat×Nat×Int×Int×List UInt8) ⊕ (Bool×List UInt8×Nat×Nat×Int×Int×List UInt8)) ⊕ R53):=fun x=>match x with
 | (.inl x)=>s53_2x0 x.1 x.2
 | (.inr (.inl x))=>s53_2x1 x.1 x.2.1 x.2.2.1 x.2.2.2.1 x.2.2.2.2.1 x.2.2.2.2.2
 | (.inr (.inr (.inl x)))=>s53_2x2 x.1 x.2.1 x.2.2.1 x.2.2.2.1 x.2.2.2.2.1 x.2.2.2.2.2
 | (.inr (.inr (.inr (.inl x))))=>s53_2x3 x.1 x.2.1 x.2.2.1 x.2.2.2.1 x.2.2.2.2.1 x.2.2.2.2.2.1 x.2.2.2.2.2.2
 | (.inr (.inr (.inr (.inr (.inl x)))))=>s53_2x4 x.1 x.2.1 x.2.2.1 x.2.2.2.1 x.2.2.2.2.1 x.2.2.2.2.2.1 x.2.2.2.2.2.2
 | (.inr (.inr (.inr (.inr (.inr x)))))=>s53_2x5 x.1 x.2.1 x.2.2.1 x.2.2.2.1 x.2.2.2.2.1 x.2.2.2.2.2.1 x.2.2.2.2.2.2
def l53_2 (b0_0:Bool) (b0_1:List UInt8):Option R53:=iter s53_2 (.inl (b0_0,b0_1))
theorem l53_2_t (b0_0:Bool) (b0_1:List UInt8):bodyD (E0 mm) [.tmp 2,.tmp 3,.tmp 4] 0 false (itW (scopeF (E0 mm) 53 0 (callW (E0 mm)) itW c53_3 [(0,.keep),(5,.keep),(6,.keep),(9,.keep)]) (none,[.v (.c (.d (.lst b0_0 (enL enB b0_1)))),.dead,.dead,.dead],[])) = (l53_2 b0_0 b0_1).map e53:=
 it_sim (K:=(K53_2 (mm:=mm))) rfl (enc:=en53_2) (fun x=>match x with
 | (.inl x)=>s53_2x0_t x.1 x.2
 | (.inr (.inl x))=>s53_2x1_t x.1 x.2.1 x.2.2.1 x.2.2.2.1 x.2.2.2.2.1 x.2.2.2.2.2
 | (.inr (.inr (.inl x)))=>s53_2x2_t x.1 x.2.1 x.2.2.1 x.2.2.2.1 x.2.2.2.2.1 x.2.2.2.2.2
 | (.inr (.inr (.inr (.inl x))))=>s53_2x3_t x.1 x.2.1 x.2.2.1 x.2.2.2.1 x.2.2.2.2.1 x.2.2.2.2.2.1 x.2.2.2.2.2.2
 | (.inr (.inr (.inr (.inr (.inl x)))))=>s53_2x4_t x.1 x.2.1 x.2.2.1 x.2.2.2.1 x.2.2.2.2.1 x.2.2.2.2.2.1 x.2.2.2.2.2.2
 | (.inr (.inr (.inr (.inr (.inr x)))))=>s53_2x5_t x.1 x.2.1 x.2.2.1 x.2.2.2.1 x.2.2.2.2.1 x.2.2.2.2.2.1 x.2.2.2.2.2.2) (.inl (b0_0,b0_1))
def m53 (b_0:Bool) (b_1:List UInt8):Option R53:=
 l53_2 b_0 b_1
theorem f53_t (b_0:Bool) (b_1:List UInt8):
  callW (E0 mm) 53 [.c (.d (.lst b_0 (enL enB b_1)))] [] = (m53 b_0 b_1).map e53:=by
 rw [callW_run (body:=c53_0) (res:=[.tmp 2,.tmp 3,.tmp 4]) Tryz.func53 rfl rfl (by kernel_rfl)]
 simp -implicitDefEqProofs only [m53,slots1,c53_0_e,c53_1_r,(show opsOf c53_1 = _ :: _ from rfl),c53_2_l,setA,setB,za,zb,zc,zd,ze,zf,zg,zh,zi,zj,zk,zl,zm,zn,zo,zp,reduceCtorEq,zE,↓reduceIte]
 exact l53_2_t b_0 b_1
end
end Go.Proofs.YtoohbnmhjfgclaaGreatDoor
