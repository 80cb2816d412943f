/- The Go functions as plain functions, and that the evaluator computes them. -/
import Derived.Test.YteajgnaeklbpeaaGreatDoorFTells2
set_option linter.all false
set_option maxRecDepth 100000
namespace Go.Proofs.YteajgnaeklbpeaaGreatDoor
open Go Go.Ab
open Nat renaming reduceEqDiff→za,reduceAdd→zb,reduceLeDiff→zc,reduceLT→zd,reduceMul→ze,reduceBEq→zf,reduceSub→zg,reducePow→zh
open Int renaming reduceEq→zi,reduceLE→zj,reduceLT→zk,reduceToNat→zl,reduceNegSucc→zm,reduceAdd→zn,reduceBEq→zo
open String renaming reduceBEq→zp
set_option maxHeartbeats 4000000
noncomputable section
variable {mm:Int}
noncomputable def c19_0:Code:=bodyOf Tryz.f19
def c19_1:=cA c19_0
def c19_2:=cB c19_0
def c19_3:=cA c19_2
def c19_4:=cB c19_2
def c19_5:=cA c19_4
def c19_6:=cB c19_4
def c19_7:=cA c19_6
def c19_8:=cA c19_7
def c19_9:=cB c19_7
def c19_10:=cA c19_9
def c19_11:=cA c19_10
def c19_12:=cA c19_11
def c19_13:=cA c19_12
def c19_14:=cB c19_12
def c19_15:=cA c19_14
def c19_16:=cB c19_14
def c19_17:=cB c19_11
def c19_18:=cA c19_17
def c19_19:=cA c19_18
def c19_20:=cA c19_19
def c19_21:=cB c19_19
def c19_22:=cA c19_21
def c19_23:=cA c19_22
def c19_24:=cB c19_22
def c19_25:=cA c19_24
def c19_26:=cB c19_24
def c19_27:=cB c19_21
def c19_28:=cA c19_27
def c19_29:=cB c19_27
def c19_30:=cA c19_29
def c19_31:=cB c19_29
def c19_32:=cA c19_31
def c19_33:=cA c19_32
def c19_34:=cB c19_32
def c19_35:=cA c19_34
def c19_36:=cB c19_34
def c19_37:=cA c19_36
def c19_38:=cB c19_36
def c19_39:=cA c19_38
def c19_40:=cB c19_38
def c19_41:=cA c19_40
def c19_42:=cB c19_40
def c19_43:=cA c19_42
def c19_44:=cB c19_42
def c19_45:=cA c19_44
def c19_46:=cB c19_44
def c19_47:=cA c19_46
def c19_48:=cB c19_46
def c19_49:=cA c19_48
def c19_50:=cA c19_49
def c19_51:=cB c19_49
def c19_52:=cA c19_51
def c19_53:=cB c19_51
def c19_54:=cB c19_48
def c19_55:=cA c19_54
def c19_56:=cB c19_54
def c19_57:=cA c19_56
def c19_58:=cB c19_56
def c19_59:=cA c19_58
def c19_60:=cB c19_58
def c19_61:=cA c19_60
def c19_62:=cB c19_60
def c19_63:=cA c19_62
def c19_64:=cB c19_62
def c19_65:=cB c19_17
def c19_66:=cB c19_6
def c19_67:=cA c19_66
def c19_68:=cB c19_66
theorem c19_0_e:c19_0 = .seq c19_1 c19_2:=rfl
theorem c19_1_r:RG (E0 mm) 19 c19_1:=rgN rfl
theorem c19_2_e:c19_2 = .seq c19_3 c19_4:=rfl
theorem c19_3_r:RG (E0 mm) 19 c19_3:=rgN rfl
theorem c19_4_e:c19_4 = .seq c19_5 c19_6:=rfl
theorem c19_5_r:RG (E0 mm) 19 c19_5:=rgN rfl
theorem c19_6_e:c19_6 = .seq c19_7 c19_66:=rfl
theorem c19_7_e:c19_7 = .seq c19_8 c19_9:=rfl
theorem c19_8_r:RG (E0 mm) 19 c19_8:=rgN rfl
theorem c19_9_e:c19_9 = .block 0 c19_10:=rfl
theorem c19_10_l (m:Nat) (st:St):den (E0 mm) 19 m (callW (E0 mm)) itW c19_10 none st = loopD itW (loopF (E0 mm) 19 m (callW (E0 mm)) itW c19_11 [(2,.keep),(3,.keep),(4,.keep),(5,.keep)]) (canon m [(2,.keep),(3,.keep),(4,.keep),(5,.keep)] st):=rfl
theorem c19_11_e:c19_11 = .seq c19_12 c19_17:=rfl
theorem c19_12_e:c19_12 = .seq c19_13 c19_14:=rfl
theorem c19_13_r:RG (E0 mm) 19 c19_13:=rgN rfl
theorem c19_15_e:c19_15 = .skip:=rfl
theorem c19_16_e:c19_16 = .exit 0:=rfl
theorem c19_17_e:c19_17 = .seq c19_18 c19_65:=rfl
theorem c19_18_e:c19_18 = .block 1 c19_19:=rfl
theorem c19_19_e:c19_19 = .seq c19_20 c19_21:=rfl
theorem c19_20_r:RG (E0 mm) 19 c19_20:=rgN rfl
theorem c19_21_e:c19_21 = .seq c19_22 c19_27:=rfl
theorem c19_22_e:c19_22 = .seq c19_23 c19_24:=rfl
theorem c19_23_r:RG (E0 mm) 19 c19_23:=rgN rfl
theorem c19_25_e:c19_25 = .exit 1:=rfl
theorem c19_26_e:c19_26 = .skip:=rfl
theorem c19_27_e:c19_27 = .seq c19_28 c19_29:=rfl
theorem c19_28_r:RG (E0 mm) 19 c19_28:=rgN rfl
theorem c19_29_e:c19_29 = .seq c19_30 c19_31:=rfl
theorem c19_30_r:RG (E0 mm) 19 c19_30:=rgN rfl
theorem c19_31_e:c19_31 = .block 2 c19_32:=rfl
theorem c19_32_e:c19_32 = .seq c19_33 c19_34:=rfl
theorem c19_33_r:RG (E0 mm) 19 c19_33:=rgN rfl
theorem c19_35_r:RG (E0 mm) 19 c19_35:=rgN rfl
theorem c19_36_e:c19_36 = .seq c19_37 c19_38:=rfl
theorem c19_37_r:RG (E0 mm) 19 c19_37:=rgN rfl
theorem c19_39_r:RG (E0 mm) 19 c19_39:=rgN rfl
theorem c19_40_e:c19_40 = .seq c19_41 c19_42:=rfl
theorem c19_41_r:RG (E0 mm) 19 c19_41:=rgN rfl
theorem c19_43_r:RG (E0 mm) 19 c19_43:=rgN rfl
theorem c19_44_e:c19_44 = .seq c19_45 c19_46:=rfl
theorem c19_45_r:RG (E0 mm) 19 c19_45:=rgN rfl
theorem c19_47_r:RG (E0 mm) 19 c19_47:=rgN rfl
theorem c19_48_e:c19_48 = .seq c19_49 c19_54:=rfl
theorem c19_49_e:c19_49 = .seq c19_50 c19_51:=rfl
theorem c19_50_r:RG (E0 mm) 19 c19_50:=rgN rfl
theorem c19_52_e:c19_52 = .skip:=rfl
theorem c19_53_r:RG (E0 mm) 19 c19_53:=rgN rfl
theorem c19_55_r:RG (E0 mm) 19 c19_55:=rgN rfl
theorem c19_56_e:c19_56 = .seq c19_57 c19_58:=rfl
theorem c19_57_r:RG (E0 mm) 19 c19_57:=rgN rfl
theorem c19_59_r:RG (E0 mm) 19 c19_59:=rgN rfl
theorem c19_60_e:c19_60 = .seq c19_61 c19_62:=rfl
theorem c19_61_r:RG (E0 mm) 19 c19_61:=rgN rfl
theorem c19_63_r:RG (E0 mm) 19 c19_63:=rgN rfl
theorem c19_64_e:c19_64 = .skip:=rfl
theorem c19_65_r:RG (E0 mm) 19 c19_65:=rgN rfl
theorem c19_66_e:c19_66 = .seq c19_67 c19_68:=rfl
theorem c19_67_r:RG (E0 mm) 19 c19_67:=rgN rfl
theorem c19_68_e:c19_68 = .ret:=rfl
abbrev R19:=(Bool×Bool×Bool×Bool×Bool×Bool×Int×Int×Int×Int)
def e19:R19→AV×Heap:=fun x=>(.v (.agg [.d (.sc (.bool x.1)),.d (.sc (.bool x.2.1)),.d (.sc (.bool x.2.2.1)),.d (.sc (.bool x.2.2.2.1)),.d (.sc (.bool x.2.2.2.2.1)),.d (.sc (.bool x.2.2.2.2.2.1)),.d (.sc (.int .i64 x.2.2.2.2.2.2.1)),.d (.sc (.int .i64 x.2.2.2.2.2.2.2.1)),.d (.sc (.int .i64 x.2.2.2.2.2.2.2.2.1)),.d (.sc (.int .i64 x.2.2.2.2.2.2.2.2.2))]),[])
def K19_10:Option (Ex×St)→Option (AV×Heap):=fun r=>bodyD (E0 mm) [.cell 2 38] 0 false (seqD (E0 mm) 19 0 (callW (E0 mm)) itW c19_66 (blockD 0 (r)))
def en19_10:(Bool×List Bs×Int×Bool×Bool×Bool×Bool×Bool×Bool×Int×Int×Int×Int×Bool×Bool×Bool×Bool×Bool×Bool×Int×Int×Int×Int)→X:=fun x=>(none,[.v (.c (.ptr 0 0)),.v (.c (.ptr 1 0)),.v (.c (.own x.1 (enL enS x.2.1) 2)),.v (.c (.d (.sc (.int .i64 x.2.2.1))))],[.cells [.d (.sc (.bool x.2.2.2.1)),.d (.sc (.bool x.2.2.2.2.1)),.d (.sc (.bool x.2.2.2.2.2.1)),.d (.sc (.bool x.2.2.2.2.2.2.1)),.d (.sc (.bool x.2.2.2.2.2.2.2.1)),.d (.sc (.bool x.2.2.2.2.2.2.2.2.1)),.d (.sc (.int .i64 x.2.2.2.2.2.2.2.2.2.1)),.d (.sc (.int .i64 x.2.2.2.2.2.2.2.2.2.2.1)),.d (.sc (.int .i64 x.2.2.2.2.2.2.2.2.2.2.2.1)),.d (.sc (.int .i64 x.2.2.2.2.2.2.2.2.2.2.2.2.1))],.cells [.d (.sc (.bool x.2.2.2.2.2.2.2.2.2.2.2.2.2.1)),.d (.sc (.bool x.2.2.2.2.2.2.2.2.2.2.2.2.2.2.1)),.d (.sc (.bool x.2.2.2.2.2.2.2.2.2.2.2.2.2.2.2.1)),.d (.sc (.bool x.2.2.2.2.2.2.2.2.2.2.2.2.2.2.2.2.1)),.d (.sc (.bool x.2.2.2.2.2.2.2.2.2.2.2.2.2.2.2.2.2.1)),.d (.sc (.bool x.2.2.2.2.2.2.2.2.2.2.2.2.2.2.2.2.2.2.1)),.d (.sc (.int .i64 x.2.2.2.2.2.2.2.2.2.2.2.2.2.2.2.2.2.2.2.1)),.d (.sc (.int .i64 x.2.2.2.2.2.2.2.2.2.2.2.2.2.2.2.2.2.2.2.2.1)),.d (.sc (.int .i64 x.2.2.2.2.2.2.2.2.2.2.2.2.2.2.2.2.2.2.2.2.2.1)),.d (.sc (.int .i64 x.2.2.2.2.2.2.2.2.2.2.2.2.2.2.2.2.2.2.2.2.2.2))],.row x.2.1.length (rz x.1 1)])
def j19_65 (all4_0:Bool) (all4_1:List Bs) (i5:Int) (h0_0 h0_1:Bool) (h0_2 h0_3:Bool) (h0_4 h0_5:Bool) (h0_6 h0_7:Int) (h0_8 h0_9:Int) (h1_0 h1_1:Bool) (h1_2 h1_3:Bool) (h1_4 h1_5:Bool) (h1_6 h1_7:Int) (h1_8 h1_9:Int):Option ((Bool×List Bs×Int×Bool×Bool×Bool×Bool×Bool×Bool×Int×Int×Int×Int×Bool×Bool×Bool×Bool×Bool×Bool×Int×Int×Int×Int) ⊕ R19):=
 some (.inl (all4_0,all4_1,(w64 (i5 + 1)),h0_0,h0_1,h0_2,h0_3,h0_4,h0_5,h0_6,h0_7,h0_8,h0_9,h1_0,h1_1,h1_2,h1_3,h1_4,h1_5,h1_6,h1_7,h1_8,h1_9))
theorem j19_65_t (all4_0:Bool) (all4_1:List Bs) (i5:Int) (h0_0 h0_1:Bool) (h0_2 h0_3:Bool) (h0_4 h0_5:Bool) (h0_6 h0_7:Int) (h0_8 h0_9:Int) (h1_0 h1_1:Bool) (h1_2 h1_3:Bool) (h1_4 h1_5:Bool) (h1_6 h1_7:Int) (h1_8 h1_9:Int)  (sl:Nat→AV) (zq2:sl 2 = .v (.c (.ptr 0 0))) (zq3:sl 3 = .v (.c (.ptr 1 0))) (zq4:sl 4 = .v (.c (.own all4_0 (enL enS all4_1) 2))) (zq5:sl 5 = .v (.c (.d (.sc (.int .i64 i5))))):
  stepE (K19_10 (mm:=mm)) (loopK 0 [(2,.keep),(3,.keep),(4,.keep),(5,.keep)] (den (E0 mm) 19 0 (callW (E0 mm)) itW c19_65 none ⟨sl,[.cells [.d (.sc (.bool h0_0)),.d (.sc (.bool h0_1)),.d (.sc (.bool h0_2)),.d (.sc (.bool h0_3)),.d (.sc (.bool h0_4)),.d (.sc (.bool h0_5)),.d (.sc (.int .i64 h0_6)),.d (.sc (.int .i64 h0_7)),.d (.sc (.int .i64 h0_8)),.d (.sc (.int .i64 h0_9))],.cells [.d (.sc (.bool h1_0)),.d (.sc (.bool h1_1)),.d (.sc (.bool h1_2)),.d (.sc (.bool h1_3)),.d (.sc (.bool h1_4)),.d (.sc (.bool h1_5)),.d (.sc (.int .i64 h1_6)),.d (.sc (.int .i64 h1_7)),.d (.sc (.int .i64 h1_8)),.d (.sc (.int .i64 h1_9))],.row all4_1.length (rz all4_0 1)]⟩)) = (j19_65 all4_0 all4_1 i5 h0_0 h0_1 h0_2 h0_3 h0_4 h0_5 h0_6 h0_7 h0_8 h0_9 h1_0 h1_1 h1_2 h1_3 h1_4 h1_5 h1_6 h1_7 h1_8 h1_9).map (sm en19_10 e19):=by
 simp -implicitDefEqProofs only [j19_65,c19_65_r,(show opsOf c19_65 = _ :: _ from rfl),zq2,zq3,zq4,zq5,setA,setB,za,zb,zc,zd,ze,zf,zg,zh,zi,zj,zk,zl,zm,zn,zo,zp,reduceCtorEq,zE,↓reduceIte]
 all_goals rfl
def j19_54 (all4_0:Bool) (all4_1:List Bs) (i5 n9:Int) (t32:Bs) (t45 h0_0:Bool) (h0_1 h0_2:Bool) (h0_3 h0_4 h0_5:Bool) (h0_6 h0_7:Int) (h0_8 h0_9:Int) (h1_0 h1_1:Bool) (h1_2 h1_3:Bool) (h1_4 h1_5:Bool) (h1_6 h1_7:Int) (h1_8 h1_9:Int):Option ((Bool×List Bs×Int×Bool×Bool×Bool×Bool×Bool×Bool×Int×Int×Int×Int×Bool×Bool×Bool×Bool×Bool×Bool×Int×Int×Int×Int) ⊕ R19):=
 if t45 = true then
  j19_65 all4_0 all4_1 i5 h0_0 h0_1 h0_2 h0_3 h0_4 h0_5 h0_6 h0_7 h0_8 h0_9 h1_0 h1_1 h1_2 h1_3 true h1_5 h1_6 h1_7 h1_8 h1_9
 else
  if (t32 == ([109,97,120,45,97,103,101]:Bs)) = true then
   (m39 h1_6 n9).bind fun yr19=>
    j19_65 all4_0 all4_1 i5 h0_0 h0_1 h0_2 h0_3 h0_4 h0_5 h0_6 h0_7 h0_8 h0_9 h1_0 h1_1 h1_2 h1_3 h1_4 h1_5 yr19 h1_7 h1_8 h1_9
  else
   if (t32 == ([115,45,109,97,120,97,103,101]:Bs)) = true then
    (m39 h1_7 n9).bind fun yr22=>
     j19_65 all4_0 all4_1 i5 h0_0 h0_1 h0_2 h0_3 h0_4 h0_5 h0_6 h0_7 h0_8 h0_9 h1_0 h1_1 h1_2 h1_3 h1_4 h1_5 h1_6 yr22 h1_8 h1_9
   else
    j19_65 all4_0 all4_1 i5 h0_0 h0_1 h0_2 h0_3 h0_4 h0_5 h0_6 h0_7 h0_8 h0_9 h1_0 h1_1 h1_2 h1_3 h1_4 h1_5 h1_6 h1_7 h1_8 h1_9
theorem j19_54_t (all4_0:Bool) (all4_1:List Bs) (i5 n9:Int) (t32:Bs) (t45 h0_0:Bool) (h0_1 h0_2:Bool) (h0_3 h0_4 h0_5:Bool) (h0_6 h0_7:Int) (h0_8 h0_9:Int) (h1_0 h1_1:Bool) (h1_2 h1_3:Bool) (h1_4 h1_5:Bool) (h1_6 h1_7:Int) (h1_8 h1_9:Int)  (sl:Nat→AV) (zq2:sl 2 = .v (.c (.ptr 0 0))) (zq3:sl 3 = .v (.c (.ptr 1 0))) (zq4:sl 4 = .v (.c (.own all4_0 (enL enS all4_1) 2))) (zq5:sl 5 = .v (.c (.d (.sc (.int .i64 i5))))) (zq9:sl 9 = .v (.c (.d (.sc (.int .i64 n9))))) (zq32:sl 32 = .v (.c (.d (.sc (.string (S t32)))))) (zq45:sl 45 = .v (.c (.d (.sc (.bool t45))))):
  stepE (K19_10 (mm:=mm)) (loopK 0 [(2,.keep),(3,.keep),(4,.keep),(5,.keep)] (seqD (E0 mm) 19 0 (callW (E0 mm)) itW c19_65 (blockD 1 (blockD 2 (den (E0 mm) 19 0 (callW (E0 mm)) itW c19_54 none ⟨sl,[.cells [.d (.sc (.bool h0_0)),.d (.sc (.bool h0_1)),.d (.sc (.bool h0_2)),.d (.sc (.bool h0_3)),.d (.sc (.bool h0_4)),.d (.sc (.bool h0_5)),.d (.sc (.int .i64 h0_6)),.d (.sc (.int .i64 h0_7)),.d (.sc (.int .i64 h0_8)),.d (.sc (.int .i64 h0_9))],.cells [.d (.sc (.bool h1_0)),.d (.sc (.bool h1_1)),.d (.sc (.bool h1_2)),.d (.sc (.bool h1_3)),.d (.sc (.bool h1_4)),.d (.sc (.bool h1_5)),.d (.sc (.int .i64 h1_6)),.d (.sc (.int .i64 h1_7)),.d (.sc (.int .i64 h1_8)),.d (.sc (.int .i64 h1_9))],.row all4_1.length (rz all4_0 1)]⟩))))) = (j19_54 all4_0 all4_1 i5 n9 t32 t45 h0_0 h0_1 h0_2 h0_3 h0_4 h0_5 h0_6 h0_7 h0_8 h0_9 h1_0 h1_1 h1_2 h1_3 h1_4 h1_5 h1_6 h1_7 h1_8 h1_9).map (sm en19_10 e19):=by
 simp -implicitDefEqProofs only [j19_54,(show c19_54 = Code.cond _ c19_55 c19_56 from rfl),zq2,zq3,zq4,zq5,zq9,zq32,zq45,setA,setB,za,zb,zc,zd,ze,zf,zg,zh,zi,zj,zk,zl,zm,zn,zo,zp,reduceCtorEq,zE,↓reduceIte]
 refine brB (fun yc16=>?_) (fun yc16=>?_)
 ·simp -implicitDefEqProofs only [c19_55_r,(show opsOf c19_55 = _ :: _ from rfl),Tryz.underlying38,sz4,zq2,zq3,zq4,zq5,zq9,zq32,zq45,yc16,setA,setB,za,zb,zc,zd,ze,zf,zg,zh,zi,zj,zk,zl,zm,zn,zo,zp,reduceCtorEq,zE,↓reduceIte]
  exact j19_65_t all4_0 all4_1 i5 h0_0 h0_1 h0_2 h0_3 h0_4 h0_5 h0_6 h0_7 h0_8 h0_9 h1_0 h1_1 h1_2 h1_3 true h1_5 h1_6 h1_7 h1_8 h1_9 _ (by exact zq2) (by exact zq3) (by exact zq4) (by exact zq5)
 ·simp -implicitDefEqProofs only [c19_56_e,c19_57_r,(show opsOf c19_57 = _ :: _ from rfl),(show c19_58 = Code.cond _ c19_59 c19_60 from rfl),zq2,zq3,zq4,zq5,zq9,zq32,zq45,yc16,setA,setB,za,zb,zc,zd,ze,zf,zg,zh,zi,zj,zk,zl,zm,zn,zo,zp,reduceCtorEq,zE,↓reduceIte]
  refine brB (fun yc17=>?_) (fun yc17=>?_)
  ·simp -implicitDefEqProofs only [c19_59_r,(show opsOf c19_59 = _ :: _ from rfl),Tryz.underlying38,sz3,ag3,ent39,prm39,f39_t,zq2,zq3,zq4,zq5,zq9,zq32,zq45,yc16,yc17,setA,setB,za,zb,zc,zd,ze,zf,zg,zh,zi,zj,zk,zl,zm,zn,zo,zp,reduceCtorEq,zE,↓reduceIte]
   refine brM (fun yc18=>?_) (fun yr19 yc18=>?_)
   ·rw [yc18]; rfl
   ·simp -implicitDefEqProofs only [e39,Tryz.underlying38,sz3,zq2,zq3,zq4,zq5,zq9,zq32,zq45,yc16,yc17,yc18,setA,setB,za,zb,zc,zd,ze,zf,zg,zh,zi,zj,zk,zl,zm,zn,zo,zp,reduceCtorEq,zE,↓reduceIte]
    exact j19_65_t all4_0 all4_1 i5 h0_0 h0_1 h0_2 h0_3 h0_4 h0_5 h0_6 h0_7 h0_8 h0_9 h1_0 h1_1 h1_2 h1_3 h1_4 h1_5 yr19 h1_7 h1_8 h1_9 _ (by exact zq2) (by exact zq3) (by exact zq4) (by exact zq5)
  ·simp -implicitDefEqProofs only [c19_60_e,c19_61_r,(show opsOf c19_61 = _ :: _ from rfl),(show c19_62 = Code.cond _ c19_63 c19_64 from rfl),zq2,zq3,zq4,zq5,zq9,zq32,zq45,yc16,yc17,setA,setB,za,zb,zc,zd,ze,zf,zg,zh,zi,zj,zk,zl,zm,zn,zo,zp,reduceCtorEq,zE,↓reduceIte]
   refine brB (fun yc20=>?_) (fun yc20=>?_)
   ·simp -implicitDefEqProofs only [c19_63_r,(show opsOf c19_63 = _ :: _ from rfl),Tryz.underlying38,sz3,ag3,ent39,prm39,f39_t,zq2,zq3,zq4,zq5,zq9,zq32,zq45,yc16,yc17,yc20,setA,setB,za,zb,zc,zd,ze,zf,zg,zh,zi,zj,zk,zl,zm,zn,zo,zp,reduceCtorEq,zE,↓reduceIte]
    refine brM (fun yc21=>?_) (fun yr22 yc21=>?_)
    ·rw [yc21]; rfl
    ·simp -implicitDefEqProofs only [e39,Tryz.underlying38,sz3,zq2,zq3,zq4,zq5,zq9,zq32,zq45,yc16,yc17,yc20,yc21,setA,setB,za,zb,zc,zd,ze,zf,zg,zh,zi,zj,zk,zl,zm,zn,zo,zp,reduceCtorEq,zE,↓reduceIte]
     exact j19_65_t all4_0 all4_1 i5 h0_0 h0_1 h0_2 h0_3 h0_4 h0_5 h0_6 h0_7 h0_8 h0_9 h1_0 h1_1 h1_2 h1_3 h1_4 h1_5 h1_6 yr22 h1_8 h1_9 _ (by exact zq2) (by exact zq3) (by exact zq4) (by exact zq5)
   ·simp -implicitDefEqProofs only [c19_64_e,zq2,zq3,zq4,zq5,zq9,zq32,zq45,yc16,yc17,yc20,setA,setB,za,zb,zc,zd,ze,zf,zg,zh,zi,zj,zk,zl,zm,zn,zo,zp,reduceCtorEq,zE,↓reduceIte]
    exact j19_65_t all4_0 all4_1 i5 h0_0 h0_1 h0_2 h0_3 h0_4 h0_5 h0_6 h0_7 h0_8 h0_9 h1_0 h1_1 h1_2 h1_3 h1_4 h1_5 h1_6 h1_7 h1_8 h1_9 _ (by exact zq2) (by exact zq3) (by exact zq4) (by exact zq5)
def j19_66 (h0_0 h0_1:Bool) (h0_2 h0_3:Bool) (h0_4 h0_5:Bool) (h0_6 h0_7:Int) (h0_8 h0_9:Int) (h1_0 h1_1:Bool) (h1_2 h1_3:Bool) (h1_4 h1_5:Bool) (h1_6 h1_7:Int) (h1_8 h1_9:Int):Option R19:=
 some (h1_0,h1_1,h1_2,h1_3,h1_4,h1_5,h1_6,h1_7,h1_8,h1_9)
theorem j19_66_t (h0_0 h0_1:Bool) (h0_2 h0_3:Bool) (h0_4 h0_5:Bool) (h0_6 h0_7:Int) (h0_8 h0_9:Int) (h1_0 h1_1:Bool) (h1_2 h1_3:Bool) (h1_4 h1_5:Bool) (h1_6 h1_7:Int) (h1_8 h1_9:Int) (g2:Ob) (sl:Nat→AV) (zq2:sl 2 = .v (.c (.ptr 0 0))) (zq3:sl 3 = .v (.c (.ptr 1 0))):
  bodyD (E0 mm) [.cell 2 38] 0 false (den (E0 mm) 19 0 (callW (E0 mm)) itW c19_66 none ⟨sl,[.cells [.d (.sc (.bool h0_0)),.d (.sc (.bool h0_1)),.d (.sc (.bool h0_2)),.d (.sc (.bool h0_3)),.d (.sc (.bool h0_4)),.d (.sc (.bool h0_5)),.d (.sc (.int .i64 h0_6)),.d (.sc (.int .i64 h0_7)),.d (.sc (.int .i64 h0_8)),.d (.sc (.int .i64 h0_9))],.cells [.d (.sc (.bool h1_0)),.d (.sc (.bool h1_1)),.d (.sc (.bool h1_2)),.d (.sc (.bool h1_3)),.d (.sc (.bool h1_4)),.d (.sc (.bool h1_5)),.d (.sc (.int .i64 h1_6)),.d (.sc (.int .i64 h1_7)),.d (.sc (.int .i64 h1_8)),.d (.sc (.int .i64 h1_9))],g2]⟩) = (j19_66 h0_0 h0_1 h0_2 h0_3 h0_4 h0_5 h0_6 h0_7 h0_8 h0_9 h1_0 h1_1 h1_2 h1_3 h1_4 h1_5 h1_6 h1_7 h1_8 h1_9).map e19:=by
 simp -implicitDefEqProofs only [j19_66,c19_66_e,c19_67_r,(show opsOf c19_67 = _ :: _ from rfl),sz38,ag38,c19_68_e,zq2,zq3,setA,setB,za,zb,zc,zd,ze,zf,zg,zh,zi,zj,zk,zl,zm,zn,zo,zp,reduceCtorEq,zE,↓reduceIte]
 all_goals rfl
def s19_10 (all4_0:Bool) (all4_1:List Bs) (i5:Int) (h0_0 h0_1:Bool) (h0_2 h0_3:Bool) (h0_4 h0_5:Bool) (h0_6 h0_7:Int) (h0_8 h0_9:Int) (h1_0 h1_1:Bool) (h1_2 h1_3:Bool) (h1_4 h1_5:Bool) (h1_6 h1_7:Int) (h1_8 h1_9:Int):Option ((Bool×List Bs×Int×Bool×Bool×Bool×Bool×Bool×Bool×Int×Int×Int×Int×Bool×Bool×Bool×Bool×Bool×Bool×Int×Int×Int×Int) ⊕ R19):=
 if (decide (i5 < (all4_1.length:Int))) = true then
  if 0≤i5∧i5 < (all4_1.length:Int) then
   (m37 (all4_1.getD i5.toNat default)).bind fun yr7=>
    if yr7.2.2 = true then
     (m38 yr7.2.1).bind fun yr10=>
      if (yr7.1 == ([110,111,45,115,116,111,114,101]:Bs)) = true then
       j19_65 all4_0 all4_1 i5 h0_0 h0_1 h0_2 h0_3 h0_4 h0_5 h0_6 h0_7 h0_8 h0_9 true h1_1 h1_2 h1_3 h1_4 h1_5 h1_6 h1_7 h1_8 h1_9
      else
       if (yr7.1 == ([110,111,45,99,97,99,104,101]:Bs)) = true then
        j19_65 all4_0 all4_1 i5 h0_0 h0_1 h0_2 h0_3 h0_4 h0_5 h0_6 h0_7 h0_8 h0_9 h1_0 true h1_2 h1_3 h1_4 h1_5 h1_6 h1_7 h1_8 h1_9
       else
        if (yr7.1 == ([112,114,105,118,97,116,101]:Bs)) = true then
         j19_65 all4_0 all4_1 i5 h0_0 h0_1 h0_2 h0_3 h0_4 h0_5 h0_6 h0_7 h0_8 h0_9 h1_0 h1_1 true h1_3 h1_4 h1_5 h1_6 h1_7 h1_8 h1_9
        else
         if (yr7.1 == ([112,117,98,108,105,99]:Bs)) = true then
          j19_65 all4_0 all4_1 i5 h0_0 h0_1 h0_2 h0_3 h0_4 h0_5 h0_6 h0_7 h0_8 h0_9 h1_0 h1_1 h1_2 true h1_4 h1_5 h1_6 h1_7 h1_8 h1_9
         else
          if (yr7.1 == ([109,117,115,116,45,114,101,118,97,108,105,100,97,116,101]:Bs)) = true then
           j19_54 all4_0 all4_1 i5 yr10 yr7.1 true h0_0 h0_1 h0_2 h0_3 h0_4 h0_5 h0_6 h0_7 h0_8 h0_9 h1_0 h1_1 h1_2 h1_3 h1_4 h1_5 h1_6 h1_7 h1_8 h1_9
          else
           j19_54 all4_0 all4_1 i5 yr10 yr7.1 (yr7.1 == ([112,114,111,120,121,45,114,101,118,97,108,105,100,97,116,101]:Bs)) h0_0 h0_1 h0_2 h0_3 h0_4 h0_5 h0_6 h0_7 h0_8 h0_9 h1_0 h1_1 h1_2 h1_3 h1_4 h1_5 h1_6 h1_7 h1_8 h1_9
    else
     j19_65 all4_0 all4_1 i5 h0_0 h0_1 h0_2 h0_3 h0_4 h0_5 h0_6 h0_7 h0_8 h0_9 h1_0 h1_1 h1_2 h1_3 h1_4 h1_5 h1_6 h1_7 h1_8 h1_9
  else none
 else
  (j19_66 h0_0 h0_1 h0_2 h0_3 h0_4 h0_5 h0_6 h0_7 h0_8 h0_9 h1_0 h1_1 h1_2 h1_3 h1_4 h1_5 h1_6 h1_7 h1_8 h1_9).map .inr
theorem s19_10_t (all4_0:Bool) (all4_1:List Bs) (i5:Int) (h0_0 h0_1:Bool) (h0_2 h0_3:Bool) (h0_4 h0_5:Bool) (h0_6 h0_7:Int) (h0_8 h0_9:Int) (h1_0 h1_1:Bool) (h1_2 h1_3:Bool) (h1_4 h1_5:Bool) (h1_6 h1_7:Int) (h1_8 h1_9:Int):
  stepE (K19_10 (mm:=mm)) (loopF (E0 mm) 19 0 (callW (E0 mm)) itW c19_11 [(2,.keep),(3,.keep),(4,.keep),(5,.keep)] (none,[.v (.c (.ptr 0 0)),.v (.c (.ptr 1 0)),.v (.c (.own all4_0 (enL enS all4_1) 2)),.v (.c (.d (.sc (.int .i64 i5))))],[.cells [.d (.sc (.bool h0_0)),.d (.sc (.bool h0_1)),.d (.sc (.bool h0_2)),.d (.sc (.bool h0_3)),.d (.sc (.bool h0_4)),.d (.sc (.bool h0_5)),.d (.sc (.int .i64 h0_6)),.d (.sc (.int .i64 h0_7)),.d (.sc (.int .i64 h0_8)),.d (.sc (.int .i64 h0_9))],.cells [.d (.sc (.bool h1_0)),.d (.sc (.bool h1_1)),.d (.sc (.bool h1_2)),.d (.sc (.bool h1_3)),.d (.sc (.bool h1_4)),.d (.sc (.bool h1_5)),.d (.sc (.int .i64 h1_6)),.d (.sc (.int .i64 h1_7)),.d (.sc (.int .i64 h1_8)),.d (.sc (.int .i64 h1_9))],.row all4_1.length (rz all4_0 1)])) = (s19_10 all4_0 all4_1 i5 h0_0 h0_1 h0_2 h0_3 h0_4 h0_5 h0_6 h0_7 h0_8 h0_9 h1_0 h1_1 h1_2 h1_3 h1_4 h1_5 h1_6 h1_7 h1_8 h1_9).map (sm en19_10 e19):=by
 simp -implicitDefEqProofs only [s19_10,loopF_eq,c19_11_e,c19_12_e,c19_13_r,(show opsOf c19_13 = _ :: _ from rfl),Tryz.underlying40,(show c19_14 = Code.cond _ c19_15 c19_16 from rfl),setA,setB,za,zb,zc,zd,ze,zf,zg,zh,zi,zj,zk,zl,zm,zn,zo,zp,reduceCtorEq,zE,↓reduceIte]
 refine brB (fun yc3=>?_) (fun yc3=>?_)
 ·simp -implicitDefEqProofs only [c19_15_e,c19_17_e,c19_18_e,c19_19_e,c19_20_r,(show opsOf c19_20 = _ :: _ from rfl),Tryz.underlying40,sz9,enS_a,yc3,setA,setB,za,zb,zc,zd,ze,zf,zg,zh,zi,zj,zk,zl,zm,zn,zo,zp,reduceCtorEq,zE,↓reduceIte]
  refine brP (fun yc4=>?_) (fun yc4=>?_)
  ·have yd5:i5.toNat < all4_1.length:=by omega
   simp -implicitDefEqProofs only [(enL_get enS all4_1 i5.toNat yd5),enS_e,sz9,ag9,ent37,prm37,f37_t,yc3,yc4,yd5,setA,setB,za,zb,zc,zd,ze,zf,zg,zh,zi,zj,zk,zl,zm,zn,zo,zp,reduceCtorEq,zE,↓reduceIte]
   refine brM (fun yc6=>?_) (fun yr7 yc6=>?_)
   ·rw [yc6]; rfl
   ·simp -implicitDefEqProofs only [e37,c19_21_e,c19_22_e,c19_23_r,(show opsOf c19_23 = _ :: _ from rfl),(show c19_24 = Code.cond _ c19_25 c19_26 from rfl),yc3,yc4,yd5,yc6,setA,setB,za,zb,zc,zd,ze,zf,zg,zh,zi,zj,zk,zl,zm,zn,zo,zp,reduceCtorEq,zE,↓reduceIte]
    refine brB (fun yc8=>?_) (fun yc8=>?_)
    ·simp -implicitDefEqProofs only [c19_26_e,c19_27_e,c19_28_r,(show opsOf c19_28 = _ :: _ from rfl),ent38,prm38,f38_t,yc3,yc4,yd5,yc6,yc8,setA,setB,za,zb,zc,zd,ze,zf,zg,zh,zi,zj,zk,zl,zm,zn,zo,zp,reduceCtorEq,zE,↓reduceIte]
     refine brM (fun yc9=>?_) (fun yr10 yc9=>?_)
     ·rw [yc9]; rfl
     ·simp -implicitDefEqProofs only [e38,c19_29_e,c19_30_r,(show opsOf c19_30 = _ :: _ from rfl),c19_31_e,c19_32_e,c19_33_r,(show opsOf c19_33 = _ :: _ from rfl),(show c19_34 = Code.cond _ c19_35 c19_36 from rfl),yc3,yc4,yd5,yc6,yc8,yc9,setA,setB,za,zb,zc,zd,ze,zf,zg,zh,zi,zj,zk,zl,zm,zn,zo,zp,reduceCtorEq,zE,↓reduceIte]
      refine brB (fun yc11=>?_) (fun yc11=>?_)
      ·simp -implicitDefEqProofs only [c19_35_r,(show opsOf c19_35 = _ :: _ from rfl),Tryz.underlying38,sz4,yc3,yc4,yd5,yc6,yc8,yc9,yc11,setA,setB,za,zb,zc,zd,ze,zf,zg,zh,zi,zj,zk,zl,zm,zn,zo,zp,reduceCtorEq,zE,↓reduceIte]
       exact j19_65_t all4_0 all4_1 i5 h0_0 h0_1 h0_2 h0_3 h0_4 h0_5 h0_6 h0_7 h0_8 h0_9 true h1_1 h1_2 h1_3 h1_4 h1_5 h1_6 h1_7 h1_8 h1_9 _ (by rfl) (by rfl) (by rfl) (by rfl)
      ·simp -implicitDefEqProofs only [c19_36_e,c19_37_r,(show opsOf c19_37 = _ :: _ from rfl),(show c19_38 = Code.cond _ c19_39 c19_40 from rfl),yc3,yc4,yd5,yc6,yc8,yc9,yc11,setA,setB,za,zb,zc,zd,ze,zf,zg,zh,zi,zj,zk,zl,zm,zn,zo,zp,reduceCtorEq,zE,↓reduceIte]
       refine brB (fun yc12=>?_) (fun yc12=>?_)
       ·simp -implicitDefEqProofs only [c19_39_r,(show opsOf c19_39 = _ :: _ from rfl),Tryz.underlying38,sz4,yc3,yc4,yd5,yc6,yc8,yc9,yc11,yc12,setA,setB,za,zb,zc,zd,ze,zf,zg,zh,zi,zj,zk,zl,zm,zn,zo,zp,reduceCtorEq,zE,↓reduceIte]
        exact j19_65_t all4_0 all4_1 i5 h0_0 h0_1 h0_2 h0_3 h0_4 h0_5 h0_6 h0_7 h0_8 h0_9 h1_0 true h1_2 h1_3 h1_4 h1_5 h1_6 h1_7 h1_8 h1_9 _ (by rfl) (by rfl) (by rfl) (by rfl)
       ·simp -implicitDefEqProofs only [c19_40_e,c19_41_r,(show opsOf c19_41 = _ :: _ from rfl),(show c19_42 = Code.cond _ c19_43 c19_44 from rfl),yc3,yc4,yd5,yc6,yc8,yc9,yc11,yc12,setA,setB,za,zb,zc,zd,ze,zf,zg,zh,zi,zj,zk,zl,zm,zn,zo,zp,reduceCtorEq,zE,↓reduceIte]
        refine brB (fun yc13=>?_) (fun yc13=>?_)
        ·simp -implicitDefEqProofs only [c19_43_r,(show opsOf c19_43 = _ :: _ from rfl),Tryz.underlying38,sz4,yc3,yc4,yd5,yc6,yc8,yc9,yc11,yc12,yc13,setA,setB,za,zb,zc,zd,ze,zf,zg,zh,zi,zj,zk,zl,zm,zn,zo,zp,reduceCtorEq,zE,↓reduceIte]
         exact j19_65_t all4_0 all4_1 i5 h0_0 h0_1 h0_2 h0_3 h0_4 h0_5 h0_6 h0_7 h0_8 h0_9 h1_0 h1_1 true h1_3 h1_4 h1_5 h1_6 h1_7 h1_8 h1_9 _ (by rfl) (by rfl) (by rfl) (by rfl)
        ·simp -implicitDefEqProofs only [c19_44_e,c19_45_r,(show opsOf c19_45 = _ :: _ from rfl),(show c19_46 = Code.cond _ c19_47 c19_48 from rfl),yc3,yc4,yd5,yc6,yc8,yc9,yc11,yc12,yc13,setA,setB,za,zb,zc,zd,ze,zf,zg,zh,zi,zj,zk,zl,zm,zn,zo,zp,reduceCtorEq,zE,↓reduceIte]
         refine brB (fun yc14=>?_) (fun yc14=>?_)
         ·simp -implicitDefEqProofs only [c19_47_r,(show opsOf c19_47 = _ :: _ from rfl),Tryz.underlying38,sz4,yc3,yc4,yd5,yc6,yc8,yc9,yc11,yc12,yc13,yc14,setA,setB,za,zb,zc,zd,ze,zf,zg,zh,zi,zj,zk,zl,zm,zn,zo,zp,reduceCtorEq,zE,↓reduceIte]
          exact j19_65_t all4_0 all4_1 i5 h0_0 h0_1 h0_2 h0_3 h0_4 h0_5 h0_6 h0_7 h0_8 h0_9 h1_0 h1_1 h1_2 true h1_4 h1_5 h1_6 h1_7 h1_8 h1_9 _ (by rfl) (by rfl) (by rfl) (by rfl)
         ·simp -implicitDefEqProofs only [c19_48_e,c19_49_e,c19_50_r,(show opsOf c19_50 = _ :: _ from rfl),(show c19_51 = Code.cond _ c19_52 c19_53 from rfl),yc3,yc4,yd5,yc6,yc8,yc9,yc11,yc12,yc13,yc14,setA,setB,za,zb,zc,zd,ze,zf,zg,zh,zi,zj,zk,zl,zm,zn,zo,zp,reduceCtorEq,zE,↓reduceIte]
          refine brB (fun yc15=>?_) (fun yc15=>?_)
          ·simp -implicitDefEqProofs only [c19_52_e,yc3,yc4,yd5,yc6,yc8,yc9,yc11,yc12,yc13,yc14,yc15,setA,setB,za,zb,zc,zd,ze,zf,zg,zh,zi,zj,zk,zl,zm,zn,zo,zp,reduceCtorEq,zE,↓reduceIte]
           exact j19_54_t all4_0 all4_1 i5 yr10 yr7.1 true h0_0 h0_1 h0_2 h0_3 h0_4 h0_5 h0_6 h0_7 h0_8 h0_9 h1_0 h1_1 h1_2 h1_3 h1_4 h1_5 h1_6 h1_7 h1_8 h1_9 _ (by rfl) (by rfl) (by rfl) (by rfl) (by rfl) (by rfl) (by rfl)
          ·simp -implicitDefEqProofs only [c19_53_r,(show opsOf c19_53 = _ :: _ from rfl),yc3,yc4,yd5,yc6,yc8,yc9,yc11,yc12,yc13,yc14,yc15,setA,setB,za,zb,zc,zd,ze,zf,zg,zh,zi,zj,zk,zl,zm,zn,zo,zp,reduceCtorEq,zE,↓reduceIte]
           exact j19_54_t all4_0 all4_1 i5 yr10 yr7.1 (yr7.1 == ([112,114,111,120,121,45,114,101,118,97,108,105,100,97,116,101]:Bs)) h0_0 h0_1 h0_2 h0_3 h0_4 h0_5 h0_6 h0_7 h0_8 h0_9 h1_0 h1_1 h1_2 h1_3 h1_4 h1_5 h1_6 h1_7 h1_8 h1_9 _ (by rfl) (by rfl) (by rfl) (by rfl) (by rfl) (by rfl) (by rfl)
    ·simp -implicitDefEqProofs only [c19_25_e,yc3,yc4,yd5,yc6,yc8,setA,setB,za,zb,zc,zd,ze,zf,zg,zh,zi,zj,zk,zl,zm,zn,zo,zp,reduceCtorEq,zE,↓reduceIte]
     exact j19_65_t all4_0 all4_1 i5 h0_0 h0_1 h0_2 h0_3 h0_4 h0_5 h0_6 h0_7 h0_8 h0_9 h1_0 h1_1 h1_2 h1_3 h1_4 h1_5 h1_6 h1_7 h1_8 h1_9 _ (by rfl) (by rfl) (by rfl) (by rfl)
  ·rw [if_neg yc4]; rfl
 ·simp -implicitDefEqProofs only [c19_16_e,K19_10,yc3,setA,setB,za,zb,zc,zd,ze,zf,zg,zh,zi,zj,zk,zl,zm,zn,zo,zp,reduceCtorEq,zE,↓reduceIte]
  exact mi (j19_66_t h0_0 h0_1 h0_2 h0_3 h0_4 h0_5 h0_6 h0_7 h0_8 h0_9 h1_0 h1_1 h1_2 h1_3 h1_4 h1_5 h1_6 h1_7 h1_8 h1_9 _ _ (by rfl) (by rfl))
def l19_10 (all4_0:Bool) (all4_1:List Bs) (i5:Int) (h0_0 h0_1:Bool) (h0_2 h0_3:Bool) (h0_4 h0_5:Bool) (h0_6 h0_7:Int) (h0_8 h0_9:Int) (h1_0 h1_1:Bool) (h1_2 h1_3:Bool) (h1_4 h1_5:Bool) (h1_6 h1_7:Int) (h1_8 h1_9:Int):Option R19:=iter (fun x:(Bool×List Bs×Int×Bool×Bool×Bool×Bool×Bool×Bool×Int×Int×Int×Int×Bool×Bool×Bool×Bool×Bool×Bool×Int×Int×Int×Int)=>s19_10 x.1 x.2.1 x.2.2.1 x.2.2.2.1 x.2.2.2.2.1 x.2.2.2.2.2.1 x.2.2.2.2.2.2.1 x.2.2.2.2.2.2.2.1 x.2.2.2.2.2.2.2.2.1 x.2.2.2.2.2.2.2.2.2.1 x.2.2.2.2.2.2.2.2.2.2.1 x.2.2.2.2.2.2.2.2.2.2.2.1 x.2.2.2.2.2.2.2.2.2.2.2.2.1 x.2.2.2.2.2.2.2.2.2.2.2.2.2.1 x.2.2.2.2.2.2.2.2.2.2.2.2.2.2.1 x.2.2.2.2.2.2.2.2.2.2.2.2.2.2.2.1 x.2.2.2.2.2.2.2.2.2.2.2.2.2.2.2.2.1 x.2.2.2.2.2.2.2.2.2.2.2.2.2.2.2.2.2.1 x.2.2.2.2.2.2.2.2.2.2.2.2.2.2.2.2.2.2.1 x.2.2.2.2.2.2.2.2.2.2.2.2.2.2.2.2.2.2.2.1 x.2.2.2.2.2.2.2.2.2.2.2.2.2.2.2.2.2.2.2.2.1 x.2.2.2.2.2.2.2.2.2.2.2.2.2.2.2.2.2.2.2.2.2.1 x.2.2.2.2.2.2.2.2.2.2.2.2.2.2.2.2.2.2.2.2.2.2) (all4_0,all4_1,i5,h0_0,h0_1,h0_2,h0_3,h0_4,h0_5,h0_6,h0_7,h0_8,h0_9,h1_0,h1_1,h1_2,h1_3,h1_4,h1_5,h1_6,h1_7,h1_8,h1_9)
theorem l19_10_t (all4_0:Bool) (all4_1:List Bs) (i5:Int) (h0_0 h0_1:Bool) (h0_2 h0_3:Bool) (h0_4 h0_5:Bool) (h0_6 h0_7:Int) (h0_8 h0_9:Int) (h1_0 h1_1:Bool) (h1_2 h1_3:Bool) (h1_4 h1_5:Bool) (h1_6 h1_7:Int) (h1_8 h1_9:Int):bodyD (E0 mm) [.cell 2 38] 0 false (seqD (E0 mm) 19 0 (callW (E0 mm)) itW c19_66 (blockD 0 (itW (loopF (E0 mm) 19 0 (callW (E0 mm)) itW c19_11 [(2,.keep),(3,.keep),(4,.keep),(5,.keep)]) (none,[.v (.c (.ptr 0 0)),.v (.c (.ptr 1 0)),.v (.c (.own all4_0 (enL enS all4_1) 2)),.v (.c (.d (.sc (.int .i64 i5))))],[.cells [.d (.sc (.bool h0_0)),.d (.sc (.bool h0_1)),.d (.sc (.bool h0_2)),.d (.sc (.bool h0_3)),.d (.sc (.bool h0_4)),.d (.sc (.bool h0_5)),.d (.sc (.int .i64 h0_6)),.d (.sc (.int .i64 h0_7)),.d (.sc (.int .i64 h0_8)),.d (.sc (.int .i64 h0_9))],.cells [.d (.sc (.bool h1_0)),.d (.sc (.bool h1_1)),.d (.sc (.bool h1_2)),.d (.sc (.bool h1_3)),.d (.sc (.bool h1_4)),.d (.sc (.bool h1_5)),.d (.sc (.int .i64 h1_6)),.d (.sc (.int .i64 h1_7)),.d (.sc (.int .i64 h1_8)),.d (.sc (.int .i64 h1_9))],.row all4_1.length (rz all4_0 1)])))) = (l19_10 all4_0 all4_1 i5 h0_0 h0_1 h0_2 h0_3 h0_4 h0_5 h0_6 h0_7 h0_8 h0_9 h1_0 h1_1 h1_2 h1_3 h1_4 h1_5 h1_6 h1_7 h1_8 h1_9).map e19:=
 it_sim (K:=(K19_10 (mm:=mm))) rfl (enc:=en19_10) (fun x=>s19_10_t x.1 x.2.1 x.2.2.1 x.2.2.2.1 x.2.2.2.2.1 x.2.2.2.2.2.1 x.2.2.2.2.2.2.1 x.2.2.2.2.2.2.2.1 x.2.2.2.2.2.2.2.2.1 x.2.2.2.2.2.2.2.2.2.1 x.2.2.2.2.2.2.2.2.2.2.1 x.2.2.2.2.2.2.2.2.2.2.2.1 x.2.2.2.2.2.2.2.2.2.2.2.2.1 x.2.2.2.2.2.2.2.2.2.2.2.2.2.1 x.2.2.2.2.2.2.2.2.2.2.2.2.2.2.1 x.2.2.2.2.2.2.2.2.2.2.2.2.2.2.2.1 x.2.2.2.2.2.2.2.2.2.2.2.2.2.2.2.2.1 x.2.2.2.2.2.2.2.2.2.2.2.2.2.2.2.2.2.1 x.2.2.2.2.2.2.2.2.2.2.2.2.2.2.2.2.2.2.1 x.2.2.2.2.2.2.2.2.2.2.2.2.2.2.2.2.2.2.2.1 x.2.2.2.2.2.2.2.2.2.2.2.2.2.2.2.2.2.2.2.2.1 x.2.2.2.2.2.2.2.2.2.2.2.2.2.2.2.2.2.2.2.2.2.1 x.2.2.2.2.2.2.2.2.2.2.2.2.2.2.2.2.2.2.2.2.2.2) (all4_0,all4_1,i5,h0_0,h0_1,h0_2,h0_3,h0_4,h0_5,h0_6,h0_7,h0_8,h0_9,h1_0,h1_1,h1_2,h1_3,h1_4,h1_5,h1_6,h1_7,h1_8,h1_9)
def m19 (l_0:Bool) (l_1:List (Bs×Bs)):Option R19:=
 (m36 l_0 l_1 ([99,97,99,104,101,45,99,111,110,116,114,111,108]:Bs)).bind fun yr2=>
  l19_10 yr2.1 yr2.2 (0:Int) false false false false false false (0:Int) (0:Int) (0:Int) (0:Int) false false false false false false (-1:Int) (-1:Int) (-1:Int) (-1:Int)
theorem f19_t (l_0:Bool) (l_1:List (Bs×Bs)):
  callW (E0 mm) 19 [.c (.d (.lst l_0 (enL enSS l_1)))] [] = (m19 l_0 l_1).map e19:=by
 rw [callW_run (body:=c19_0) (res:=[.cell 2 38]) Tryz.func19 rfl rfl (by kernel_rfl)]
 simp -implicitDefEqProofs only [m19,slots1,c19_0_e,c19_1_r,(show opsOf c19_1 = _ :: _ from rfl),zc38,ao61,c19_2_e,c19_3_r,(show opsOf c19_3 = _ :: _ from rfl),Tryz.underlying38,sz4,sz3,ao62,sz38,c19_4_e,c19_5_r,(show opsOf c19_5 = _ :: _ from rfl),ent36,prm36,(show callW (E0 mm) 36 [.c (.d (.lst l_0 (enL enSS l_1))),.c (.d (.sc (.string (S ([99,97,99,104,101,45,99,111,110,116,114,111,108]:Bs)))))] [] = _ from f36_t l_0 l_1 ([99,97,99,104,101,45,99,111,110,116,114,111,108]:Bs)),setA,setB,za,zb,zc,zd,ze,zf,zg,zh,zi,zj,zk,zl,zm,zn,zo,zp,reduceCtorEq,zE,↓reduceIte]
 refine brM (fun yc1=>?_) (fun yr2 yc1=>?_)
 ·rw [yc1]; rfl
 ·simp -implicitDefEqProofs only [e36,c19_6_e,c19_7_e,c19_8_r,(show opsOf c19_8 = _ :: _ from rfl),c19_9_e,c19_10_l,yc1,setA,setB,za,zb,zc,zd,ze,zf,zg,zh,zi,zj,zk,zl,zm,zn,zo,zp,reduceCtorEq,zE,↓reduceIte]
  exact l19_10_t yr2.1 yr2.2 (0:Int) false false false false false false (0:Int) (0:Int) (0:Int) (0:Int) false false false false false false (-1:Int) (-1:Int) (-1:Int) (-1:Int)
noncomputable def c20_0:Code:=bodyOf Tryz.f20
def c20_1:=cA c20_0
def c20_2:=cB c20_0
def c20_3:=cA c20_2
def c20_4:=cA c20_3
def c20_5:=cB c20_3
def c20_6:=cA c20_5
def c20_7:=cA c20_6
def c20_8:=cB c20_6
def c20_9:=cB c20_5
def c20_10:=cB c20_2
def c20_11:=cA c20_10
def c20_12:=cB c20_10
theorem c20_0_e:c20_0 = .seq c20_1 c20_2:=rfl
theorem c20_1_r:RG (E0 mm) 20 c20_1:=rgN rfl
theorem c20_2_e:c20_2 = .seq c20_3 c20_10:=rfl
theorem c20_3_e:c20_3 = .seq c20_4 c20_5:=rfl
theorem c20_4_r:RG (E0 mm) 20 c20_4:=rgN rfl
theorem c20_6_e:c20_6 = .seq c20_7 c20_8:=rfl
theorem c20_7_r:RG (E0 mm) 20 c20_7:=rgN rfl
theorem c20_8_e:c20_8 = .ret:=rfl
theorem c20_9_e:c20_9 = .skip:=rfl
theorem c20_10_e:c20_10 = .seq c20_11 c20_12:=rfl
theorem c20_11_r:RG (E0 mm) 20 c20_11:=rgN rfl
theorem c20_12_e:c20_12 = .ret:=rfl
abbrev R20:=(Int)
def e20:R20→AV×Heap:=fun x=>(.v (.c (.d (.sc (.int .u64 x)))),[])
def m20 (a b:Int):Option R20:=
 if (decide (a < b)) = true then
  some a
 else
  some b
theorem f20_t (a b:Int):
  callW (E0 mm) 20 [.c (.d (.sc (.int .u64 a))),.c (.d (.sc (.int .u64 b)))] [] = (m20 a b).map e20:=by
 rw [callW_run (body:=c20_0) (res:=[.tmp 4]) Tryz.func20 rfl rfl (by kernel_rfl)]
 simp -implicitDefEqProofs only [m20,slots2,c20_0_e,c20_1_r,(show opsOf c20_1 = _ :: _ from rfl),c20_2_e,c20_3_e,c20_4_r,(show opsOf c20_4 = _ :: _ from rfl),(show c20_5 = Code.cond _ c20_6 c20_9 from rfl),setA,setB,za,zb,zc,zd,ze,zf,zg,zh,zi,zj,zk,zl,zm,zn,zo,zp,reduceCtorEq,zE,↓reduceIte]
 refine brB (fun yc1=>?_) (fun yc1=>?_)
 ·simp -implicitDefEqProofs only [c20_6_e,c20_7_r,(show opsOf c20_7 = _ :: _ from rfl),c20_8_e,yc1,setA,setB,za,zb,zc,zd,ze,zf,zg,zh,zi,zj,zk,zl,zm,zn,zo,zp,reduceCtorEq,zE,↓reduceIte]
  all_goals rfl
 ·simp -implicitDefEqProofs only [c20_9_e,c20_10_e,c20_11_r,(show opsOf c20_11 = _ :: _ from rfl),c20_12_e,yc1,setA,setB,za,zb,zc,zd,ze,zf,zg,zh,zi,zj,zk,zl,zm,zn,zo,zp,reduceCtorEq,zE,↓reduceIte]
  all_goals rfl
noncomputable def c22_0:Code:=bodyOf Tryz.f22
def c22_1:=cA c22_0
def c22_2:=cB c22_0
def c22_3:=cA c22_2
def c22_4:=cA c22_3
def c22_5:=cB c22_3
def c22_6:=cA c22_5
def c22_7:=cA c22_6
def c22_8:=cB c22_6
def c22_9:=cB c22_5
def c22_10:=cB c22_2
def c22_11:=cA c22_10
def c22_12:=cB c22_10
theorem c22_0_e:c22_0 = .seq c22_1 c22_2:=rfl
theorem c22_1_r:RG (E0 mm) 22 c22_1:=rgN rfl
theorem c22_2_e:c22_2 = .seq c22_3 c22_10:=rfl
theorem c22_3_e:c22_3 = .seq c22_4 c22_5:=rfl
theorem c22_4_r:RG (E0 mm) 22 c22_4:=rgN rfl
theorem c22_6_e:c22_6 = .seq c22_7 c22_8:=rfl
theorem c22_7_r:RG (E0 mm) 22 c22_7:=rgN rfl
theorem c22_8_e:c22_8 = .ret:=rfl
theorem c22_9_e:c22_9 = .skip:=rfl
theorem c22_10_e:c22_10 = .seq c22_11 c22_12:=rfl
theorem c22_11_r:RG (E0 mm) 22 c22_11:=rgN rfl
theorem c22_12_e:c22_12 = .ret:=rfl
abbrev R22:=(Int)
def e22:R22→AV×Heap:=fun x=>(.v (.c (.d (.sc (.int .u64 x)))),[])
def m22 (a b:Int):Option R22:=
 if (decide (b < a)) = true then
  some (0:Int)
 else
  some (wu64 (b - a))
theorem f22_t (a b:Int):
  callW (E0 mm) 22 [.c (.d (.sc (.int .u64 a))),.c (.d (.sc (.int .u64 b)))] [] = (m22 a b).map e22:=by
 rw [callW_run (body:=c22_0) (res:=[.tmp 4]) Tryz.func22 rfl rfl (by kernel_rfl)]
 simp -implicitDefEqProofs only [m22,slots2,c22_0_e,c22_1_r,(show opsOf c22_1 = _ :: _ from rfl),c22_2_e,c22_3_e,c22_4_r,(show opsOf c22_4 = _ :: _ from rfl),(show c22_5 = Code.cond _ c22_6 c22_9 from rfl),setA,setB,za,zb,zc,zd,ze,zf,zg,zh,zi,zj,zk,zl,zm,zn,zo,zp,reduceCtorEq,zE,↓reduceIte]
 refine brB (fun yc1=>?_) (fun yc1=>?_)
 ·simp -implicitDefEqProofs only [c22_6_e,c22_7_r,(show opsOf c22_7 = _ :: _ from rfl),c22_8_e,yc1,setA,setB,za,zb,zc,zd,ze,zf,zg,zh,zi,zj,zk,zl,zm,zn,zo,zp,reduceCtorEq,zE,↓reduceIte]
  all_goals rfl
 ·simp -implicitDefEqProofs only [c22_9_e,c22_10_e,c22_11_r,(show opsOf c22_11 = _ :: _ from rfl),c22_12_e,yc1,setA,setB,za,zb,zc,zd,ze,zf,zg,zh,zi,zj,zk,zl,zm,zn,zo,zp,reduceCtorEq,zE,↓reduceIte]
  all_goals rfl
noncomputable def c23_0:Code:=bodyOf Tryz.f23
def c23_1:=cA c23_0
def c23_2:=cB c23_0
def c23_3:=cA c23_2
def c23_4:=cB c23_2
theorem c23_0_e:c23_0 = .seq c23_1 c23_2:=rfl
theorem c23_1_r:RG (E0 mm) 23 c23_1:=rgN rfl
theorem c23_2_e:c23_2 = .seq c23_3 c23_4:=rfl
theorem c23_3_r:RG (E0 mm) 23 c23_3:=rgN rfl
theorem c23_4_e:c23_4 = .ret:=rfl
abbrev R23:=(Bool)
def e23:R23→AV×Heap:=fun x=>(.v (.c (.d (.sc (.bool x)))),[])
def m23 (status:Int):Option R23:=
 if (status == 200) = true then
  some true
 else
  if (status == 203) = true then
   some true
  else
   if (status == 204) = true then
    some true
   else
    if (status == 300) = true then
     some true
    else
     if (status == 301) = true then
      some true
     else
      if (status == 308) = true then
       some true
      else
       if (status == 404) = true then
        some true
       else
        if (status == 405) = true then
         some true
        else
         if (status == 410) = true then
          some true
         else
          if (status == 414) = true then
           some true
          else
           some (status == 501)
theorem f23_t (status:Int):
  callW (E0 mm) 23 [.c (.d (.sc (.int .i64 status)))] [] = (m23 status).map e23:=by
 rw [callW_run (body:=c23_0) (res:=[.tmp 2]) Tryz.func23 rfl rfl (by kernel_rfl)]
 simp -implicitDefEqProofs only [m23,slots1,c23_0_e,c23_1_r,(show opsOf c23_1 = _ :: _ from rfl),c23_2_e,c23_3_r,(show opsOf c23_3 = _ :: _ from rfl),setA,setB,za,zb,zc,zd,ze,zf,zg,zh,zi,zj,zk,zl,zm,zn,zo,zp,reduceCtorEq,zE,↓reduceIte]
 refine brB (fun yc1=>?_) (fun yc1=>?_)
 ·simp -implicitDefEqProofs only [c23_4_e,yc1,setA,setB,za,zb,zc,zd,ze,zf,zg,zh,zi,zj,zk,zl,zm,zn,zo,zp,reduceCtorEq,zE,↓reduceIte]
  all_goals rfl
 ·simp -implicitDefEqProofs only [yc1,setA,setB,za,zb,zc,zd,ze,zf,zg,zh,zi,zj,zk,zl,zm,zn,zo,zp,reduceCtorEq,zE,↓reduceIte]
  refine brB (fun yc2=>?_) (fun yc2=>?_)
  ·simp -implicitDefEqProofs only [c23_4_e,yc1,yc2,setA,setB,za,zb,zc,zd,ze,zf,zg,zh,zi,zj,zk,zl,zm,zn,zo,zp,reduceCtorEq,zE,↓reduceIte]
   all_goals rfl
  ·simp -implicitDefEqProofs only [yc1,yc2,setA,setB,za,zb,zc,zd,ze,zf,zg,zh,zi,zj,zk,zl,zm,zn,zo,zp,reduceCtorEq,zE,↓reduceIte]
   refine brB (fun yc3=>?_) (fun yc3=>?_)
   ·simp -implicitDefEqProofs only [c23_4_e,yc1,yc2,yc3,setA,setB,za,zb,zc,zd,ze,zf,zg,zh,zi,zj,zk,zl,zm,zn,zo,zp,reduceCtorEq,zE,↓reduceIte]
    all_goals rfl
   ·simp -implicitDefEqProofs only [yc1,yc2,yc3,setA,setB,za,zb,zc,zd,ze,zf,zg,zh,zi,zj,zk,zl,zm,zn,zo,zp,reduceCtorEq,zE,↓reduceIte]
    refine brB (fun yc4=>?_) (fun yc4=>?_)
    ·simp -implicitDefEqProofs only [c23_4_e,yc1,yc2,yc3,yc4,setA,setB,za,zb,zc,zd,ze,zf,zg,zh,zi,zj,zk,zl,zm,zn,zo,zp,reduceCtorEq,zE,↓reduceIte]
     all_goals rfl
    ·simp -implicitDefEqProofs only [yc1,yc2,yc3,yc4,setA,setB,za,zb,zc,zd,ze,zf,zg,zh,zi,zj,zk,zl,zm,zn,zo,zp,reduceCtorEq,zE,↓reduceIte]
     refine brB (fun yc5=>?_) (fun yc5=>?_)
     ·simp -implicitDefEqProofs only [c23_4_e,yc1,yc2,yc3,yc4,yc5,setA,setB,za,zb,zc,zd,ze,zf,zg,zh,zi,zj,zk,zl,zm,zn,zo,zp,reduceCtorEq,zE,↓reduceIte]
      all_goals rfl
     ·simp -implicitDefEqProofs only [yc1,yc2,yc3,yc4,yc5,setA,setB,za,zb,zc,zd,ze,zf,zg,zh,zi,zj,zk,zl,zm,zn,zo,zp,reduceCtorEq,zE,↓reduceIte]
      refine brB (fun yc6=>?_) (fun yc6=>?_)
      ·simp -implicitDefEqProofs only [c23_4_e,yc1,yc2,yc3,yc4,yc5,yc6,setA,setB,za,zb,zc,zd,ze,zf,zg,zh,zi,zj,zk,zl,zm,zn,zo,zp,reduceCtorEq,zE,↓reduceIte]
       all_goals rfl
      ·simp -implicitDefEqProofs only [yc1,yc2,yc3,yc4,yc5,yc6,setA,setB,za,zb,zc,zd,ze,zf,zg,zh,zi,zj,zk,zl,zm,zn,zo,zp,reduceCtorEq,zE,↓reduceIte]
       refine brB (fun yc7=>?_) (fun yc7=>?_)
       ·simp -implicitDefEqProofs only [c23_4_e,yc1,yc2,yc3,yc4,yc5,yc6,yc7,setA,setB,za,zb,zc,zd,ze,zf,zg,zh,zi,zj,zk,zl,zm,zn,zo,zp,reduceCtorEq,zE,↓reduceIte]
        all_goals rfl
       ·simp -implicitDefEqProofs only [yc1,yc2,yc3,yc4,yc5,yc6,yc7,setA,setB,za,zb,zc,zd,ze,zf,zg,zh,zi,zj,zk,zl,zm,zn,zo,zp,reduceCtorEq,zE,↓reduceIte]
        refine brB (fun yc8=>?_) (fun yc8=>?_)
        ·simp -implicitDefEqProofs only [c23_4_e,yc1,yc2,yc3,yc4,yc5,yc6,yc7,yc8,setA,setB,za,zb,zc,zd,ze,zf,zg,zh,zi,zj,zk,zl,zm,zn,zo,zp,reduceCtorEq,zE,↓reduceIte]
         all_goals rfl
        ·simp -implicitDefEqProofs only [yc1,yc2,yc3,yc4,yc5,yc6,yc7,yc8,setA,setB,za,zb,zc,zd,ze,zf,zg,zh,zi,zj,zk,zl,zm,zn,zo,zp,reduceCtorEq,zE,↓reduceIte]
         refine brB (fun yc9=>?_) (fun yc9=>?_)
         ·simp -implicitDefEqProofs only [c23_4_e,yc1,yc2,yc3,yc4,yc5,yc6,yc7,yc8,yc9,setA,setB,za,zb,zc,zd,ze,zf,zg,zh,zi,zj,zk,zl,zm,zn,zo,zp,reduceCtorEq,zE,↓reduceIte]
          all_goals rfl
         ·simp -implicitDefEqProofs only [yc1,yc2,yc3,yc4,yc5,yc6,yc7,yc8,yc9,setA,setB,za,zb,zc,zd,ze,zf,zg,zh,zi,zj,zk,zl,zm,zn,zo,zp,reduceCtorEq,zE,↓reduceIte]
          refine brB (fun yc10=>?_) (fun yc10=>?_)
          ·simp -implicitDefEqProofs only [c23_4_e,yc1,yc2,yc3,yc4,yc5,yc6,yc7,yc8,yc9,yc10,setA,setB,za,zb,zc,zd,ze,zf,zg,zh,zi,zj,zk,zl,zm,zn,zo,zp,reduceCtorEq,zE,↓reduceIte]
           all_goals rfl
          ·simp -implicitDefEqProofs only [c23_4_e,yc1,yc2,yc3,yc4,yc5,yc6,yc7,yc8,yc9,yc10,setA,setB,za,zb,zc,zd,ze,zf,zg,zh,zi,zj,zk,zl,zm,zn,zo,zp,reduceCtorEq,zE,↓reduceIte]
           all_goals rfl
noncomputable def c7_0:Code:=bodyOf Tryz.f7
def c7_1:=cA c7_0
def c7_2:=cB c7_0
def c7_3:=cA c7_2
def c7_4:=cB c7_2
def c7_5:=cA c7_4
def c7_6:=cA c7_5
def c7_7:=cB c7_5
def c7_8:=cA c7_7
def c7_9:=cA c7_8
def c7_10:=cB c7_8
def c7_11:=cB c7_7
def c7_12:=cB c7_4
def c7_13:=cA c7_12
def c7_14:=cA c7_13
def c7_15:=cB c7_13
def c7_16:=cA c7_15
def c7_17:=cA c7_16
def c7_18:=cB c7_16
def c7_19:=cB c7_15
def c7_20:=cB c7_12
def c7_21:=cA c7_20
def c7_22:=cB c7_20
def c7_23:=cA c7_22
def c7_24:=cA c7_23
def c7_25:=cB c7_23
def c7_26:=cA c7_25
def c7_27:=cA c7_26
def c7_28:=cB c7_26
def c7_29:=cA c7_28
def c7_30:=cA c7_29
def c7_31:=cB c7_29
def c7_32:=cA c7_31
def c7_33:=cA c7_32
def c7_34:=cB c7_32
def c7_35:=cB c7_31
def c7_36:=cB c7_28
def c7_37:=cA c7_36
def c7_38:=cB c7_36
def c7_39:=cB c7_25
def c7_40:=cB c7_22
def c7_41:=cA c7_40
def c7_42:=cB c7_40
def c7_43:=cA c7_42
def c7_44:=cA c7_43
def c7_45:=cB c7_43
def c7_46:=cA c7_45
def c7_47:=cA c7_46
def c7_48:=cB c7_46
def c7_49:=cB c7_45
def c7_50:=cB c7_42
def c7_51:=cA c7_50
def c7_52:=cB c7_50
theorem c7_0_e:c7_0 = .seq c7_1 c7_2:=rfl
theorem c7_1_r:RG (E0 mm) 7 c7_1:=rgN rfl
theorem c7_2_e:c7_2 = .seq c7_3 c7_4:=rfl
theorem c7_3_r:RG (E0 mm) 7 c7_3:=rgN rfl
theorem c7_4_e:c7_4 = .seq c7_5 c7_12:=rfl
theorem c7_5_e:c7_5 = .seq c7_6 c7_7:=rfl
theorem c7_6_r:RG (E0 mm) 7 c7_6:=rgN rfl
theorem c7_8_e:c7_8 = .seq c7_9 c7_10:=rfl
theorem c7_9_r:RG (E0 mm) 7 c7_9:=rgN rfl
theorem c7_10_e:c7_10 = .ret:=rfl
theorem c7_11_e:c7_11 = .skip:=rfl
theorem c7_12_e:c7_12 = .seq c7_13 c7_20:=rfl
theorem c7_13_e:c7_13 = .seq c7_14 c7_15:=rfl
theorem c7_14_r:RG (E0 mm) 7 c7_14:=rgN rfl
theorem c7_16_e:c7_16 = .seq c7_17 c7_18:=rfl
theorem c7_17_r:RG (E0 mm) 7 c7_17:=rgN rfl
theorem c7_18_e:c7_18 = .ret:=rfl
theorem c7_19_e:c7_19 = .skip:=rfl
theorem c7_20_e:c7_20 = .seq c7_21 c7_22:=rfl
theorem c7_21_r:RG (E0 mm) 7 c7_21:=rgN rfl
theorem c7_22_e:c7_22 = .seq c7_23 c7_40:=rfl
theorem c7_23_e:c7_23 = .seq c7_24 c7_25:=rfl
theorem c7_24_r:RG (E0 mm) 7 c7_24:=rgN rfl
theorem c7_26_e:c7_26 = .seq c7_27 c7_28:=rfl
theorem c7_27_r:RG (E0 mm) 7 c7_27:=rgN rfl
theorem c7_28_e:c7_28 = .seq c7_29 c7_36:=rfl
theorem c7_29_e:c7_29 = .seq c7_30 c7_31:=rfl
theorem c7_30_r:RG (E0 mm) 7 c7_30:=rgN rfl
theorem c7_32_e:c7_32 = .seq c7_33 c7_34:=rfl
theorem c7_33_r:RG (E0 mm) 7 c7_33:=rgN rfl
theorem c7_34_e:c7_34 = .ret:=rfl
theorem c7_35_e:c7_35 = .skip:=rfl
theorem c7_36_e:c7_36 = .seq c7_37 c7_38:=rfl
theorem c7_37_r:RG (E0 mm) 7 c7_37:=rgN rfl
theorem c7_38_e:c7_38 = .ret:=rfl
theorem c7_39_e:c7_39 = .skip:=rfl
theorem c7_40_e:c7_40 = .seq c7_41 c7_42:=rfl
theorem c7_41_r:RG (E0 mm) 7 c7_41:=rgN rfl
theorem c7_42_e:c7_42 = .seq c7_43 c7_50:=rfl
theorem c7_43_e:c7_43 = .seq c7_44 c7_45:=rfl
theorem c7_44_r:RG (E0 mm) 7 c7_44:=rgN rfl
theorem c7_46_e:c7_46 = .seq c7_47 c7_48:=rfl
theorem c7_47_r:RG (E0 mm) 7 c7_47:=rgN rfl
theorem c7_48_e:c7_48 = .ret:=rfl
theorem c7_49_e:c7_49 = .skip:=rfl
theorem c7_50_e:c7_50 = .seq c7_51 c7_52:=rfl
theorem c7_51_r:RG (E0 mm) 7 c7_51:=rgN rfl
theorem c7_52_e:c7_52 = .ret:=rfl
abbrev R7:=(Int×Bool)
def e7:R7→AV×Heap:=fun x=>(.tup [.c (.d (.sc (.int .i64 x.1))),.c (.d (.sc (.bool x.2)))],[])
def j7_31 (at5 end7:Int) (t47:Bool):Option R7:=
 if t47 = true then
  (m22 at5 end7).bind fun yr19=>
   (m20 yr19 (2147483648:Int)).bind fun yr21=>
    some ((w64 yr21),true)
 else
  some ((0:Int),true)
theorem j7_31_t (at5 end7:Int) (t47:Bool) (g0 g1 g2:Ob) (sl:Nat→AV) (zq5:sl 5 = .v (.c (.d (.sc (.int .u64 at5))))) (zq7:sl 7 = .v (.c (.d (.sc (.int .u64 end7))))) (zq47:sl 47 = .v (.c (.d (.sc (.bool t47))))):
  bodyD (E0 mm) [.tmp 2,.tmp 3] 0 false (seqD (E0 mm) 7 0 (callW (E0 mm)) itW c7_40 (seqD (E0 mm) 7 0 (callW (E0 mm)) itW c7_36 (den (E0 mm) 7 0 (callW (E0 mm)) itW c7_31 none ⟨sl,[g0,g1,g2]⟩))) = (j7_31 at5 end7 t47).map e7:=by
 simp -implicitDefEqProofs only [j7_31,(show c7_31 = Code.cond _ c7_32 c7_35 from rfl),zq5,zq7,zq47,setA,setB,za,zb,zc,zd,ze,zf,zg,zh,zi,zj,zk,zl,zm,zn,zo,zp,reduceCtorEq,zE,↓reduceIte]
 refine brB (fun yc17=>?_) (fun yc17=>?_)
 ·simp -implicitDefEqProofs only [c7_32_e,c7_33_r,(show opsOf c7_33 = _ :: _ from rfl),ent22,prm22,f22_t,zq5,zq7,zq47,yc17,setA,setB,za,zb,zc,zd,ze,zf,zg,zh,zi,zj,zk,zl,zm,zn,zo,zp,reduceCtorEq,zE,↓reduceIte]
  refine brM (fun yc18=>?_) (fun yr19 yc18=>?_)
  ·rw [yc18]; rfl
  ·simp -implicitDefEqProofs only [e22,ent20,prm20,f20_t,zq5,zq7,zq47,yc17,yc18,setA,setB,za,zb,zc,zd,ze,zf,zg,zh,zi,zj,zk,zl,zm,zn,zo,zp,reduceCtorEq,zE,↓reduceIte]
   refine brM (fun yc20=>?_) (fun yr21 yc20=>?_)
   ·rw [yc20]; rfl
   ·simp -implicitDefEqProofs only [e20,Tryz.underlying22,Tryz.underlying3,c7_34_e,zq5,zq7,zq47,yc17,yc18,yc20,setA,setB,za,zb,zc,zd,ze,zf,zg,zh,zi,zj,zk,zl,zm,zn,zo,zp,reduceCtorEq,zE,↓reduceIte]
    all_goals rfl
 ·simp -implicitDefEqProofs only [c7_35_e,c7_36_e,c7_37_r,(show opsOf c7_37 = _ :: _ from rfl),c7_38_e,zq5,zq7,zq47,yc17,setA,setB,za,zb,zc,zd,ze,zf,zg,zh,zi,zj,zk,zl,zm,zn,zo,zp,reduceCtorEq,zE,↓reduceIte]
  all_goals rfl
def j7_45 (at5 changed9:Int) (t71:Bool):Option R7:=
 if t71 = true then
  (m20 (wu64 ((wu64 (at5 - changed9)).tdiv 10)) (86400:Int)).bind fun yr31=>
   some ((w64 yr31),false)
 else
  some ((0:Int),false)
theorem j7_45_t (at5 changed9:Int) (t71:Bool) (g0 g1 g2:Ob) (sl:Nat→AV) (zq5:sl 5 = .v (.c (.d (.sc (.int .u64 at5))))) (zq9:sl 9 = .v (.c (.d (.sc (.int .u64 changed9))))) (zq71:sl 71 = .v (.c (.d (.sc (.bool t71))))):
  bodyD (E0 mm) [.tmp 2,.tmp 3] 0 false (seqD (E0 mm) 7 0 (callW (E0 mm)) itW c7_50 (den (E0 mm) 7 0 (callW (E0 mm)) itW c7_45 none ⟨sl,[g0,g1,g2]⟩)) = (j7_45 at5 changed9 t71).map e7:=by
 simp -implicitDefEqProofs only [j7_45,(show c7_45 = Code.cond _ c7_46 c7_49 from rfl),zq5,zq9,zq71,setA,setB,za,zb,zc,zd,ze,zf,zg,zh,zi,zj,zk,zl,zm,zn,zo,zp,reduceCtorEq,zE,↓reduceIte]
 refine brB (fun yc29=>?_) (fun yc29=>?_)
 ·simp -implicitDefEqProofs only [c7_46_e,c7_47_r,(show opsOf c7_47 = _ :: _ from rfl),ent20,prm20,f20_t,zq5,zq9,zq71,yc29,setA,setB,za,zb,zc,zd,ze,zf,zg,zh,zi,zj,zk,zl,zm,zn,zo,zp,reduceCtorEq,zE,↓reduceIte]
  refine brM (fun yc30=>?_) (fun yr31 yc30=>?_)
  ·rw [yc30]; rfl
  ·simp -implicitDefEqProofs only [e20,Tryz.underlying22,Tryz.underlying3,c7_48_e,zq5,zq9,zq71,yc29,yc30,setA,setB,za,zb,zc,zd,ze,zf,zg,zh,zi,zj,zk,zl,zm,zn,zo,zp,reduceCtorEq,zE,↓reduceIte]
   all_goals rfl
 ·simp -implicitDefEqProofs only [c7_49_e,c7_50_e,c7_51_r,(show opsOf c7_51 = _ :: _ from rfl),c7_52_e,zq5,zq9,zq71,yc29,setA,setB,za,zb,zc,zd,ze,zf,zg,zh,zi,zj,zk,zl,zm,zn,zo,zp,reduceCtorEq,zE,↓reduceIte]
  all_goals rfl
def m7 (r0_0:Int) (r0_1:Bs) (r0_2:Int) (r0_3:Bool) (r0_4:List (Bs×Bs)) (r0_5:Bool) (r0_6:List UInt8):Option R7:=
 (m19 r0_3 r0_4).bind fun yr2=>
  if (decide (0≤yr2.2.2.2.2.2.2.2.1)) = true then
   (m20 (wu64 yr2.2.2.2.2.2.2.2.1) (2147483648:Int)).bind fun yr5=>
    some ((w64 yr5),true)
  else
   if (decide (0≤yr2.2.2.2.2.2.2.1)) = true then
    (m20 (wu64 yr2.2.2.2.2.2.2.1) (2147483648:Int)).bind fun yr8=>
     some ((w64 yr8),true)
   else
    (m5 r0_0 r0_1 r0_2 r0_3 r0_4 r0_5 r0_6).bind fun yr10=>
     (m21 r0_0 r0_1 r0_2 r0_3 r0_4 r0_5 r0_6 ([101,120,112,105,114,101,115]:Bs)).bind fun yr12=>
      if (decide (0 < (yr12.2.length:Int))) = true then
       (m14 r0_0 r0_1 r0_2 r0_3 r0_4 r0_5 r0_6 ([101,120,112,105,114,101,115]:Bs)).bind fun yr15=>
        if yr15.2 = true then
         j7_31 yr10.1 yr15.1 yr10.2
        else
         j7_31 yr10.1 yr15.1 false
      else
       (m14 r0_0 r0_1 r0_2 r0_3 r0_4 r0_5 r0_6 ([108,97,115,116,45,109,111,100,105,102,105,101,100]:Bs)).bind fun yr23=>
        if yr23.2 = true then
         if yr10.2 = true then
          if (decide (yr23.1≤yr10.1)) = true then
           (m23 r0_0).bind fun yr28=>
            j7_45 yr10.1 yr23.1 yr28
          else
           j7_45 yr10.1 yr23.1 false
         else
          j7_45 yr10.1 yr23.1 false
        else
         j7_45 yr10.1 yr23.1 false
theorem f7_t (r0_0:Int) (r0_1:Bs) (r0_2:Int) (r0_3:Bool) (r0_4:List (Bs×Bs)) (r0_5:Bool) (r0_6:List UInt8):
  callW (E0 mm) 7 [.agg [.d (.sc (.int .i64 r0_0)),.d (.sc (.string (S r0_1))),.d (.sc (.int .i64 r0_2)),.d (.lst r0_3 (enL enSS r0_4)),.d (.lst r0_5 (enL enB r0_6))]] [] = (m7 r0_0 r0_1 r0_2 r0_3 r0_4 r0_5 r0_6).map e7:=by
 rw [callW_run (body:=c7_0) (res:=[.tmp 2,.tmp 3]) Tryz.func7 rfl rfl (by kernel_rfl)]
 simp -implicitDefEqProofs only [m7,slots1,c7_0_e,c7_1_r,(show opsOf c7_1 = _ :: _ from rfl),c7_2_e,c7_3_r,(show opsOf c7_3 = _ :: _ from rfl),Tryz.underlying26,sz23,ag23,ent19,prm19,f19_t,setA,setB,za,zb,zc,zd,ze,zf,zg,zh,zi,zj,zk,zl,zm,zn,zo,zp,reduceCtorEq,zE,↓reduceIte]
 refine brM (fun yc1=>?_) (fun yr2 yc1=>?_)
 ·rw [yc1]; rfl
 ·simp -implicitDefEqProofs only [e19,zc38,ao70,sz38,c7_4_e,c7_5_e,c7_6_r,(show opsOf c7_6 = _ :: _ from rfl),Tryz.underlying38,sz3,ag3,(show c7_7 = Code.cond _ c7_8 c7_11 from rfl),yc1,setA,setB,za,zb,zc,zd,ze,zf,zg,zh,zi,zj,zk,zl,zm,zn,zo,zp,reduceCtorEq,zE,↓reduceIte]
  refine brB (fun yc3=>?_) (fun yc3=>?_)
  ·simp -implicitDefEqProofs only [c7_8_e,c7_9_r,(show opsOf c7_9 = _ :: _ from rfl),Tryz.underlying38,sz3,ag3,Tryz.underlying3,Tryz.underlying22,ent20,prm20,f20_t,yc1,yc3,setA,setB,za,zb,zc,zd,ze,zf,zg,zh,zi,zj,zk,zl,zm,zn,zo,zp,reduceCtorEq,zE,↓reduceIte]
   refine brM (fun yc4=>?_) (fun yr5 yc4=>?_)
   ·rw [yc4]; rfl
   ·simp -implicitDefEqProofs only [e20,Tryz.underlying22,Tryz.underlying3,c7_10_e,yc1,yc3,yc4,setA,setB,za,zb,zc,zd,ze,zf,zg,zh,zi,zj,zk,zl,zm,zn,zo,zp,reduceCtorEq,zE,↓reduceIte]
    all_goals rfl
  ·simp -implicitDefEqProofs only [c7_11_e,c7_12_e,c7_13_e,c7_14_r,(show opsOf c7_14 = _ :: _ from rfl),Tryz.underlying38,sz3,ag3,(show c7_15 = Code.cond _ c7_16 c7_19 from rfl),yc1,yc3,setA,setB,za,zb,zc,zd,ze,zf,zg,zh,zi,zj,zk,zl,zm,zn,zo,zp,reduceCtorEq,zE,↓reduceIte]
   refine brB (fun yc6=>?_) (fun yc6=>?_)
   ·simp -implicitDefEqProofs only [c7_16_e,c7_17_r,(show opsOf c7_17 = _ :: _ from rfl),Tryz.underlying38,sz3,ag3,Tryz.underlying3,Tryz.underlying22,ent20,prm20,f20_t,yc1,yc3,yc6,setA,setB,za,zb,zc,zd,ze,zf,zg,zh,zi,zj,zk,zl,zm,zn,zo,zp,reduceCtorEq,zE,↓reduceIte]
    refine brM (fun yc7=>?_) (fun yr8 yc7=>?_)
    ·rw [yc7]; rfl
    ·simp -implicitDefEqProofs only [e20,Tryz.underlying22,Tryz.underlying3,c7_18_e,yc1,yc3,yc6,yc7,setA,setB,za,zb,zc,zd,ze,zf,zg,zh,zi,zj,zk,zl,zm,zn,zo,zp,reduceCtorEq,zE,↓reduceIte]
     all_goals rfl
   ·simp -implicitDefEqProofs only [c7_19_e,c7_20_e,c7_21_r,(show opsOf c7_21 = _ :: _ from rfl),sz26,ag26,ent5,prm5,f5_t,yc1,yc3,yc6,setA,setB,za,zb,zc,zd,ze,zf,zg,zh,zi,zj,zk,zl,zm,zn,zo,zp,reduceCtorEq,zE,↓reduceIte]
    refine brM (fun yc9=>?_) (fun yr10 yc9=>?_)
    ·rw [yc9]; rfl
    ·simp -implicitDefEqProofs only [e5,c7_22_e,c7_23_e,c7_24_r,(show opsOf c7_24 = _ :: _ from rfl),sz26,ag26,ent21,prm21,(show callW (E0 mm) 21 [.agg [.d (.sc (.int .i64 r0_0)),.d (.sc (.string (S r0_1))),.d (.sc (.int .i64 r0_2)),.d (.lst r0_3 (enL enSS r0_4)),.d (.lst r0_5 (enL enB r0_6))],.c (.d (.sc (.string (S ([101,120,112,105,114,101,115]:Bs)))))] [] = _ from f21_t r0_0 r0_1 r0_2 r0_3 r0_4 r0_5 r0_6 ([101,120,112,105,114,101,115]:Bs)),yc1,yc3,yc6,yc9,setA,setB,za,zb,zc,zd,ze,zf,zg,zh,zi,zj,zk,zl,zm,zn,zo,zp,reduceCtorEq,zE,↓reduceIte]
     refine brM (fun yc11=>?_) (fun yr12 yc11=>?_)
     ·rw [yc11]; rfl
     ·simp -implicitDefEqProofs only [e21,Tryz.underlying40,(show c7_25 = Code.cond _ c7_26 c7_39 from rfl),yc1,yc3,yc6,yc9,yc11,setA,setB,za,zb,zc,zd,ze,zf,zg,zh,zi,zj,zk,zl,zm,zn,zo,zp,reduceCtorEq,zE,↓reduceIte]
      refine brB (fun yc13=>?_) (fun yc13=>?_)
      ·simp -implicitDefEqProofs only [c7_26_e,c7_27_r,(show opsOf c7_27 = _ :: _ from rfl),sz26,ag26,ent14,prm14,(show callW (E0 mm) 14 [.agg [.d (.sc (.int .i64 r0_0)),.d (.sc (.string (S r0_1))),.d (.sc (.int .i64 r0_2)),.d (.lst r0_3 (enL enSS r0_4)),.d (.lst r0_5 (enL enB r0_6))],.c (.d (.sc (.string (S ([101,120,112,105,114,101,115]:Bs)))))] [] = _ from f14_t r0_0 r0_1 r0_2 r0_3 r0_4 r0_5 r0_6 ([101,120,112,105,114,101,115]:Bs)),yc1,yc3,yc6,yc9,yc11,yc13,setA,setB,za,zb,zc,zd,ze,zf,zg,zh,zi,zj,zk,zl,zm,zn,zo,zp,reduceCtorEq,zE,↓reduceIte]
       refine brM (fun yc14=>?_) (fun yr15 yc14=>?_)
       ·rw [yc14]; rfl
       ·simp -implicitDefEqProofs only [e14,c7_28_e,c7_29_e,c7_30_r,(show opsOf c7_30 = _ :: _ from rfl),yc1,yc3,yc6,yc9,yc11,yc13,yc14,setA,setB,za,zb,zc,zd,ze,zf,zg,zh,zi,zj,zk,zl,zm,zn,zo,zp,reduceCtorEq,zE,↓reduceIte]
        refine brB (fun yc16=>?_) (fun yc16=>?_)
        ·simp -implicitDefEqProofs only [yc1,yc3,yc6,yc9,yc11,yc13,yc14,yc16,setA,setB,za,zb,zc,zd,ze,zf,zg,zh,zi,zj,zk,zl,zm,zn,zo,zp,reduceCtorEq,zE,↓reduceIte]
         exact j7_31_t yr10.1 yr15.1 yr10.2 _ _ _ _ (by rfl) (by rfl) (by rfl)
        ·simp -implicitDefEqProofs only [yc1,yc3,yc6,yc9,yc11,yc13,yc14,yc16,setA,setB,za,zb,zc,zd,ze,zf,zg,zh,zi,zj,zk,zl,zm,zn,zo,zp,reduceCtorEq,zE,↓reduceIte]
         exact j7_31_t yr10.1 yr15.1 false _ _ _ _ (by rfl) (by rfl) (by rfl)
      ·simp -implicitDefEqProofs only [c7_39_e,c7_40_e,c7_41_r,(show opsOf c7_41 = _ :: _ from rfl),sz26,ag26,ent14,prm14,(show callW (E0 mm) 14 [.agg [.d (.sc (.int .i64 r0_0)),.d (.sc (.string (S r0_1))),.d (.sc (.int .i64 r0_2)),.d (.lst r0_3 (enL enSS r0_4)),.d (.lst r0_5 (enL enB r0_6))],.c (.d (.sc (.string (S ([108,97,115,116,45,109,111,100,105,102,105,101,100]:Bs)))))] [] = _ from f14_t r0_0 r0_1 r0_2 r0_3 r0_4 r0_5 r0_6 ([108,97,115,116,45,109,111,100,105,102,105,101,100]:Bs)),yc1,yc3,yc6,yc9,yc11,yc13,setA,setB,za,zb,zc,zd,ze,zf,zg,zh,zi,zj,zk,zl,zm,zn,zo,zp,reduceCtorEq,zE,↓reduceIte]
       refine brM (fun yc22=>?_) (fun yr23 yc22=>?_)
       ·rw [yc22]; rfl
       ·simp -implicitDefEqProofs only [e14,c7_42_e,c7_43_e,c7_44_r,(show opsOf c7_44 = _ :: _ from rfl),yc1,yc3,yc6,yc9,yc11,yc13,yc22,setA,setB,za,zb,zc,zd,ze,zf,zg,zh,zi,zj,zk,zl,zm,zn,zo,zp,reduceCtorEq,zE,↓reduceIte]
        refine brB (fun yc24=>?_) (fun yc24=>?_)
        ·simp -implicitDefEqProofs only [yc1,yc3,yc6,yc9,yc11,yc13,yc22,yc24,setA,setB,za,zb,zc,zd,ze,zf,zg,zh,zi,zj,zk,zl,zm,zn,zo,zp,reduceCtorEq,zE,↓reduceIte]
         refine brB (fun yc25=>?_) (fun yc25=>?_)
         ·simp -implicitDefEqProofs only [yc1,yc3,yc6,yc9,yc11,yc13,yc22,yc24,yc25,setA,setB,za,zb,zc,zd,ze,zf,zg,zh,zi,zj,zk,zl,zm,zn,zo,zp,reduceCtorEq,zE,↓reduceIte]
          refine brB (fun yc26=>?_) (fun yc26=>?_)
          ·simp -implicitDefEqProofs only [Tryz.underlying26,sz3,ag3,ent23,prm23,f23_t,yc1,yc3,yc6,yc9,yc11,yc13,yc22,yc24,yc25,yc26,setA,setB,za,zb,zc,zd,ze,zf,zg,zh,zi,zj,zk,zl,zm,zn,zo,zp,reduceCtorEq,zE,↓reduceIte]
           refine brM (fun yc27=>?_) (fun yr28 yc27=>?_)
           ·rw [yc27]; rfl
           ·simp -implicitDefEqProofs only [e23,yc1,yc3,yc6,yc9,yc11,yc13,yc22,yc24,yc25,yc26,yc27,setA,setB,za,zb,zc,zd,ze,zf,zg,zh,zi,zj,zk,zl,zm,zn,zo,zp,reduceCtorEq,zE,↓reduceIte]
            exact j7_45_t yr10.1 yr23.1 yr28 _ _ _ _ (by rfl) (by rfl) (by rfl)
          ·simp -implicitDefEqProofs only [yc1,yc3,yc6,yc9,yc11,yc13,yc22,yc24,yc25,yc26,setA,setB,za,zb,zc,zd,ze,zf,zg,zh,zi,zj,zk,zl,zm,zn,zo,zp,reduceCtorEq,zE,↓reduceIte]
           exact j7_45_t yr10.1 yr23.1 false _ _ _ _ (by rfl) (by rfl) (by rfl)
         ·simp -implicitDefEqProofs only [yc1,yc3,yc6,yc9,yc11,yc13,yc22,yc24,yc25,setA,setB,za,zb,zc,zd,ze,zf,zg,zh,zi,zj,zk,zl,zm,zn,zo,zp,reduceCtorEq,zE,↓reduceIte]
          exact j7_45_t yr10.1 yr23.1 false _ _ _ _ (by rfl) (by rfl) (by rfl)
        ·simp -implicitDefEqProofs only [yc1,yc3,yc6,yc9,yc11,yc13,yc22,yc24,setA,setB,za,zb,zc,zd,ze,zf,zg,zh,zi,zj,zk,zl,zm,zn,zo,zp,reduceCtorEq,zE,↓reduceIte]
         exact j7_45_t yr10.1 yr23.1 false _ _ _ _ (by rfl) (by rfl) (by rfl)
noncomputable def c25_0:Code:=bodyOf Tryz.f25
def c25_1:=cA c25_0
def c25_2:=cB c25_0
def c25_3:=cA c25_2
def c25_4:=cB c25_2
def c25_5:=cA c25_4
def c25_6:=cA c25_5
def c25_7:=cB c25_5
def c25_8:=cA c25_7
def c25_9:=cA c25_8
def c25_10:=cB c25_8
def c25_11:=cB c25_7
def c25_12:=cB c25_4
def c25_13:=cA c25_12
def c25_14:=cB c25_12
def c25_15:=cA c25_14
def c25_16:=cA c25_15
def c25_17:=cB c25_15
def c25_18:=cA c25_17
def c25_19:=cA c25_18
def c25_20:=cB c25_18
def c25_21:=cA c25_20
def c25_22:=cA c25_21
def c25_23:=cB c25_21
def c25_24:=cB c25_20
def c25_25:=cA c25_24
def c25_26:=cB c25_24
def c25_27:=cA c25_26
def c25_28:=cA c25_27
def c25_29:=cB c25_27
def c25_30:=cB c25_26
def c25_31:=cB c25_14
def c25_32:=cA c25_31
def c25_33:=cB c25_31
theorem c25_0_e:c25_0 = .seq c25_1 c25_2:=rfl
theorem c25_1_r:RG (E0 mm) 25 c25_1:=rgN rfl
theorem c25_2_e:c25_2 = .seq c25_3 c25_4:=rfl
theorem c25_3_r:RG (E0 mm) 25 c25_3:=rgN rfl
theorem c25_4_e:c25_4 = .seq c25_5 c25_12:=rfl
theorem c25_5_e:c25_5 = .seq c25_6 c25_7:=rfl
theorem c25_6_r:RG (E0 mm) 25 c25_6:=rgN rfl
theorem c25_8_e:c25_8 = .seq c25_9 c25_10:=rfl
theorem c25_9_r:RG (E0 mm) 25 c25_9:=rgN rfl
theorem c25_10_e:c25_10 = .ret:=rfl
theorem c25_11_e:c25_11 = .skip:=rfl
theorem c25_12_e:c25_12 = .seq c25_13 c25_14:=rfl
theorem c25_13_r:RG (E0 mm) 25 c25_13:=rgN rfl
theorem c25_14_e:c25_14 = .seq c25_15 c25_31:=rfl
theorem c25_15_e:c25_15 = .seq c25_16 c25_17:=rfl
theorem c25_16_r:RG (E0 mm) 25 c25_16:=rgN rfl
theorem c25_17_e:c25_17 = .block 0 c25_18:=rfl
theorem c25_18_e:c25_18 = .seq c25_19 c25_20:=rfl
theorem c25_19_r:RG (E0 mm) 25 c25_19:=rgN rfl
theorem c25_21_e:c25_21 = .seq c25_22 c25_23:=rfl
theorem c25_22_r:RG (E0 mm) 25 c25_22:=rgN rfl
theorem c25_23_e:c25_23 = .ret:=rfl
theorem c25_24_e:c25_24 = .seq c25_25 c25_26:=rfl
theorem c25_25_r:RG (E0 mm) 25 c25_25:=rgN rfl
theorem c25_27_e:c25_27 = .seq c25_28 c25_29:=rfl
theorem c25_28_r:RG (E0 mm) 25 c25_28:=rgN rfl
theorem c25_29_e:c25_29 = .ret:=rfl
theorem c25_30_e:c25_30 = .skip:=rfl
theorem c25_31_e:c25_31 = .seq c25_32 c25_33:=rfl
theorem c25_32_r:RG (E0 mm) 25 c25_32:=rgN rfl
theorem c25_33_e:c25_33 = .ret:=rfl
abbrev R25:=(Int)
def e25:R25→AV×Heap:=fun x=>(.v (.c (.d (.sc (.int .u64 x)))),[])
def m25 (r0_0:Int) (r0_1:Bs) (r0_2:Int) (r0_3:Bool) (r0_4:List (Bs×Bs)) (r0_5:Bool) (r0_6:List UInt8):Option R25:=
 (m27 r0_0 r0_1 r0_2 r0_3 r0_4 r0_5 r0_6 ([97,103,101]:Bs)).bind fun yr2=>
  if yr2.2 = true then
   (m41 yr2.1).bind fun yr5=>
    if (yr5.2 == 0) = true then
     some (min2 yr5.1 2147483648)
    else
     if (yr5.2 == 3) = true then
      some (2147483648:Int)
     else
      some (0:Int)
  else
   some (0:Int)
theorem f25_t (r0_0:Int) (r0_1:Bs) (r0_2:Int) (r0_3:Bool) (r0_4:List (Bs×Bs)) (r0_5:Bool) (r0_6:List UInt8):
  callW (E0 mm) 25 [.agg [.d (.sc (.int .i64 r0_0)),.d (.sc (.string (S r0_1))),.d (.sc (.int .i64 r0_2)),.d (.lst r0_3 (enL enSS r0_4)),.d (.lst r0_5 (enL enB r0_6))]] [] = (m25 r0_0 r0_1 r0_2 r0_3 r0_4 r0_5 r0_6).map e25:=by
 rw [callW_run (body:=c25_0) (res:=[.tmp 2]) Tryz.func25 rfl rfl (by kernel_rfl)]
 simp -implicitDefEqProofs only [m25,slots1,c25_0_e,c25_1_r,(show opsOf c25_1 = _ :: _ from rfl),c25_2_e,c25_3_r,(show opsOf c25_3 = _ :: _ from rfl),sz26,ag26,ent27,prm27,(show callW (E0 mm) 27 [.agg [.d (.sc (.int .i64 r0_0)),.d (.sc (.string (S r0_1))),.d (.sc (.int .i64 r0_2)),.d (.lst r0_3 (enL enSS r0_4)),.d (.lst r0_5 (enL enB r0_6))],.c (.d (.sc (.string (S ([97,103,101]:Bs)))))] [] = _ from f27_t r0_0 r0_1 r0_2 r0_3 r0_4 r0_5 r0_6 ([97,103,101]:Bs)),setA,setB,za,zb,zc,zd,ze,zf,zg,zh,zi,zj,zk,zl,zm,zn,zo,zp,reduceCtorEq,zE,↓reduceIte]
 refine brM (fun yc1=>?_) (fun yr2 yc1=>?_)
 ·rw [yc1]; rfl
 ·simp -implicitDefEqProofs only [e27,c25_4_e,c25_5_e,c25_6_r,(show opsOf c25_6 = _ :: _ from rfl),(show c25_7 = Code.cond _ c25_8 c25_11 from rfl),yc1,setA,setB,za,zb,zc,zd,ze,zf,zg,zh,zi,zj,zk,zl,zm,zn,zo,zp,reduceCtorEq,zE,↓reduceIte]
  refine brB (fun yc3=>?_) (fun yc3=>?_)
  ·simp -implicitDefEqProofs only [c25_11_e,c25_12_e,c25_13_r,(show opsOf c25_13 = _ :: _ from rfl),ent41,prm41,f41_t,yc1,yc3,setA,setB,za,zb,zc,zd,ze,zf,zg,zh,zi,zj,zk,zl,zm,zn,zo,zp,reduceCtorEq,zE,↓reduceIte]
   refine brM (fun yc4=>?_) (fun yr5 yc4=>?_)
   ·rw [yc4]; rfl
   ·simp -implicitDefEqProofs only [e41,c25_14_e,c25_15_e,c25_16_r,(show opsOf c25_16 = _ :: _ from rfl),c25_17_e,c25_18_e,c25_19_r,(show opsOf c25_19 = _ :: _ from rfl),(show c25_20 = Code.cond _ c25_21 c25_24 from rfl),yc1,yc3,yc4,setA,setB,za,zb,zc,zd,ze,zf,zg,zh,zi,zj,zk,zl,zm,zn,zo,zp,reduceCtorEq,zE,↓reduceIte]
    refine brB (fun yc6=>?_) (fun yc6=>?_)
    ·simp -implicitDefEqProofs only [c25_21_e,c25_22_r,(show opsOf c25_22 = _ :: _ from rfl),Tryz.underlying22,c25_23_e,yc1,yc3,yc4,yc6,setA,setB,za,zb,zc,zd,ze,zf,zg,zh,zi,zj,zk,zl,zm,zn,zo,zp,reduceCtorEq,zE,↓reduceIte]
     all_goals rfl
    ·simp -implicitDefEqProofs only [c25_24_e,c25_25_r,(show opsOf c25_25 = _ :: _ from rfl),(show c25_26 = Code.cond _ c25_27 c25_30 from rfl),yc1,yc3,yc4,yc6,setA,setB,za,zb,zc,zd,ze,zf,zg,zh,zi,zj,zk,zl,zm,zn,zo,zp,reduceCtorEq,zE,↓reduceIte]
     refine brB (fun yc7=>?_) (fun yc7=>?_)
     ·simp -implicitDefEqProofs only [c25_27_e,c25_28_r,(show opsOf c25_28 = _ :: _ from rfl),c25_29_e,yc1,yc3,yc4,yc6,yc7,setA,setB,za,zb,zc,zd,ze,zf,zg,zh,zi,zj,zk,zl,zm,zn,zo,zp,reduceCtorEq,zE,↓reduceIte]
      all_goals rfl
     ·simp -implicitDefEqProofs only [c25_30_e,c25_31_e,c25_32_r,(show opsOf c25_32 = _ :: _ from rfl),c25_33_e,yc1,yc3,yc4,yc6,yc7,setA,setB,za,zb,zc,zd,ze,zf,zg,zh,zi,zj,zk,zl,zm,zn,zo,zp,reduceCtorEq,zE,↓reduceIte]
      all_goals rfl
  ·simp -implicitDefEqProofs only [c25_8_e,c25_9_r,(show opsOf c25_9 = _ :: _ from rfl),c25_10_e,yc1,yc3,setA,setB,za,zb,zc,zd,ze,zf,zg,zh,zi,zj,zk,zl,zm,zn,zo,zp,reduceCtorEq,zE,↓reduceIte]
   all_goals rfl
noncomputable def c9_0:Code:=bodyOf Tryz.f9
def c9_1:=cA c9_0
def c9_2:=cB c9_0
def c9_3:=cA c9_2
def c9_4:=cB c9_2
def c9_5:=cA c9_4
def c9_6:=cA c9_5
def c9_7:=cB c9_5
def c9_8:=cA c9_7
def c9_9:=cB c9_7
def c9_10:=cA c9_9
def c9_11:=cB c9_9
def c9_12:=cB c9_4
def c9_13:=cA c9_12
def c9_14:=cB c9_12
theorem c9_0_e:c9_0 = .seq c9_1 c9_2:=rfl
theorem c9_1_r:RG (E0 mm) 9 c9_1:=rgN rfl
theorem c9_2_e:c9_2 = .seq c9_3 c9_4:=rfl
theorem c9_3_r (m:Nat) (st:St):den (E0 mm) 9 m (callW (E0 mm)) itW c9_3 none st = regD ((runF (E0 mm) (callW (E0 mm)) (opsOf c9_3) (opsOf c9_3) [none,none,some false,none,none,some true,none,some true,none,none,none,none] st []).bind (ckF [(5,2),(7,2)])):=den_dF (by kernel_rfl)
theorem c9_4_e:c9_4 = .seq c9_5 c9_12:=rfl
theorem c9_5_e:c9_5 = .seq c9_6 c9_7:=rfl
theorem c9_6_r:RG (E0 mm) 9 c9_6:=rgN rfl
theorem c9_7_e:c9_7 = .seq c9_8 c9_9:=rfl
theorem c9_8_r:RG (E0 mm) 9 c9_8:=rgN rfl
theorem c9_10_r:RG (E0 mm) 9 c9_10:=rgN rfl
theorem c9_11_e:c9_11 = .skip:=rfl
theorem c9_12_e:c9_12 = .seq c9_13 c9_14:=rfl
theorem c9_13_r:RG (E0 mm) 9 c9_13:=rgN rfl
theorem c9_14_e:c9_14 = .ret:=rfl
abbrev R9:=(Int)
def e9:R9→AV×Heap:=fun x=>(.v (.c (.d (.sc (.int .i64 x)))),[])
def j9_12 (now1 first5:Int) (h0_0:Bs) (h0_1 h0_2:Int) (h0_3_0:Bool) (h0_3_1:List (Bs×Bs)) (h0_4:Int) (h0_5:Bs) (h0_6:Int) (h0_7_0:Bool) (h0_7_1:List (Bs×Bs)) (h0_8_0:Bool) (h0_8_1:List UInt8):Option R9:=
 (m17 h0_2 now1).bind fun yr11=>
  some (w64 (min2 (wu64 ((wu64 (first5 + (min2 yr11 2147483648000))).tdiv 1000)) 2147483648))
theorem j9_12_t (now1 first5:Int) (h0_0:Bs) (h0_1 h0_2:Int) (h0_3_0:Bool) (h0_3_1:List (Bs×Bs)) (h0_4:Int) (h0_5:Bs) (h0_6:Int) (h0_7_0:Bool) (h0_7_1:List (Bs×Bs)) (h0_8_0:Bool) (h0_8_1:List UInt8)  (sl:Nat→AV) (zq1:sl 1 = .v (.c (.d (.sc (.int .u64 now1))))) (zq2:sl 2 = .v (.c (.ptr 0 0))) (zq5:sl 5 = .v (.c (.d (.sc (.int .u64 first5))))):
  bodyD (E0 mm) [.tmp 4] 0 false (den (E0 mm) 9 0 (callW (E0 mm)) itW c9_12 none ⟨sl,[.cells [.d (.sc (.string (S h0_0))),.d (.sc (.int .u64 h0_1)),.d (.sc (.int .u64 h0_2)),.d (.lst h0_3_0 (enL enSS h0_3_1)),.d (.sc (.int .i64 h0_4)),.d (.sc (.string (S h0_5))),.d (.sc (.int .i64 h0_6)),.d (.lst h0_7_0 (enL enSS h0_7_1)),.d (.lst h0_8_0 (enL enB h0_8_1))]]⟩) = (j9_12 now1 first5 h0_0 h0_1 h0_2 h0_3_0 h0_3_1 h0_4 h0_5 h0_6 h0_7_0 h0_7_1 h0_8_0 h0_8_1).map e9:=by
 simp -implicitDefEqProofs only [j9_12,c9_12_e,c9_13_r,(show opsOf c9_13 = _ :: _ from rfl),Tryz.underlying28,sz22,ag22,ent17,prm17,f17_t,zq1,zq2,zq5,setA,setB,za,zb,zc,zd,ze,zf,zg,zh,zi,zj,zk,zl,zm,zn,zo,zp,reduceCtorEq,zE,↓reduceIte]
 refine brM (fun yc10=>?_) (fun yr11 yc10=>?_)
 ·rw [yc10]; rfl
 ·simp -implicitDefEqProofs only [e17,Tryz.underlying22,Tryz.underlying3,c9_14_e,zq1,zq2,zq5,yc10,setA,setB,za,zb,zc,zd,ze,zf,zg,zh,zi,zj,zk,zl,zm,zn,zo,zp,reduceCtorEq,zE,↓reduceIte]
  all_goals rfl
def m9 (e0_0:Bs) (e0_1 e0_2:Int) (e0_3:Bool) (e0_4:List (Bs×Bs)) (e0_5:Int) (e0_6:Bs) (e0_7:Int) (e0_8:Bool) (e0_9:List (Bs×Bs)) (e0_10:Bool) (e0_11:List UInt8) (now:Int):Option R9:=
 (m25 e0_5 e0_6 e0_7 e0_8 e0_9 e0_10 e0_11).bind fun yr2=>
  (m17 e0_1 e0_2).bind fun yr4=>
   (m4 e0_5 e0_6 e0_7 e0_8 e0_9 e0_10 e0_11).bind fun yr6=>
    if yr6.2 = true then
     (m17 (wu64 (1000 * yr6.1)) e0_2).bind fun yr9=>
      j9_12 now (max2 (wu64 ((wu64 (1000 * yr2)) + (min2 yr4 2147483648000))) (min2 yr9 2147483648000)) e0_0 e0_1 e0_2 e0_3 e0_4 e0_5 e0_6 e0_7 e0_8 e0_9 e0_10 e0_11
    else
     j9_12 now (wu64 ((wu64 (1000 * yr2)) + (min2 yr4 2147483648000))) e0_0 e0_1 e0_2 e0_3 e0_4 e0_5 e0_6 e0_7 e0_8 e0_9 e0_10 e0_11
theorem f9_t (e0_0:Bs) (e0_1 e0_2:Int) (e0_3:Bool) (e0_4:List (Bs×Bs)) (e0_5:Int) (e0_6:Bs) (e0_7:Int) (e0_8:Bool) (e0_9:List (Bs×Bs)) (e0_10:Bool) (e0_11:List UInt8) (now:Int):
  callW (E0 mm) 9 [.agg [.d (.sc (.string (S e0_0))),.d (.sc (.int .u64 e0_1)),.d (.sc (.int .u64 e0_2)),.d (.lst e0_3 (enL enSS e0_4)),.d (.sc (.int .i64 e0_5)),.d (.sc (.string (S e0_6))),.d (.sc (.int .i64 e0_7)),.d (.lst e0_8 (enL enSS e0_9)),.d (.lst e0_10 (enL enB e0_11))],.c (.d (.sc (.int .u64 now)))] [] = (m9 e0_0 e0_1 e0_2 e0_3 e0_4 e0_5 e0_6 e0_7 e0_8 e0_9 e0_10 e0_11 now).map e9:=by
 rw [callW_run (body:=c9_0) (res:=[.tmp 4]) Tryz.func9 rfl rfl (by kernel_rfl)]
 simp -implicitDefEqProofs only [m9,slots2,c9_0_e,c9_1_r,(show opsOf c9_1 = _ :: _ from rfl),c9_2_e,c9_3_r,(show opsOf c9_3 = _ :: _ from rfl),Tryz.underlying28,sz26,ag26,ent25,prm25,f25_t,runF_nil,runF_none,runF_some,runKF_t,runKF_f,runKF_x,stepKF_s,stepKF_x,tlT_c,tlT_n,hdT_c,hdT_n,footT_n,foot_t,readsO,setA,setB,za,zb,zc,zd,ze,zf,zg,zh,zi,zj,zk,zl,zm,zn,zo,zp,reduceCtorEq,zE,↓reduceIte]
 refine brM (fun yc1=>?_) (fun yr2 yc1=>?_)
 ·rw [yc1]; rfl
 ·simp -implicitDefEqProofs only [e25,Tryz.underlying28,sz22,ag22,ent17,prm17,f17_t,runF_nil,runF_none,runF_some,runKF_t,runKF_f,runKF_x,stepKF_s,stepKF_x,tlT_c,tlT_n,hdT_c,hdT_n,footT_n,foot_t,readsO,yc1,setA,setB,za,zb,zc,zd,ze,zf,zg,zh,zi,zj,zk,zl,zm,zn,zo,zp,reduceCtorEq,zE,↓reduceIte]
  refine brM (fun yc3=>?_) (fun yr4 yc3=>?_)
  ·rw [yc3]; rfl
  ·simp -implicitDefEqProofs only [e17,Tryz.underlying22,ckF,foot_f,pair1,pair0,chgA,eqO,eqOb_cells,eqOb_row,eqOb_siter,eqOb_amapN,eqOb_amapC,eqOb_sm,eqE_S,eqE_SS,eqE_N,eqE_B,eqL,eqC,eqD,eqV,eqV1,eqB_refl,eq_self,decide_true,List.all_nil,List.getD_cons_zero,List.getD_cons_succ,Bool.and_self,c9_4_e,c9_5_e,c9_6_r,(show opsOf c9_6 = _ :: _ from rfl),Tryz.underlying28,sz26,ag26,ent4,prm4,f4_t,runF_nil,runF_none,runF_some,runKF_t,runKF_f,runKF_x,stepKF_s,stepKF_x,tlT_c,tlT_n,hdT_c,hdT_n,footT_n,foot_t,readsO,yc1,yc3,setA,setB,za,zb,zc,zd,ze,zf,zg,zh,zi,zj,zk,zl,zm,zn,zo,zp,reduceCtorEq,zE,↓reduceIte]
   refine brM (fun yc5=>?_) (fun yr6 yc5=>?_)
   ·rw [yc5]; rfl
   ·simp -implicitDefEqProofs only [e4,c9_7_e,c9_8_r,(show opsOf c9_8 = _ :: _ from rfl),(show c9_9 = Code.cond _ c9_10 c9_11 from rfl),runF_nil,runF_none,runF_some,runKF_t,runKF_f,runKF_x,stepKF_s,stepKF_x,tlT_c,tlT_n,hdT_c,hdT_n,footT_n,foot_t,readsO,yc1,yc3,yc5,setA,setB,za,zb,zc,zd,ze,zf,zg,zh,zi,zj,zk,zl,zm,zn,zo,zp,reduceCtorEq,zE,↓reduceIte]
    refine brB (fun yc7=>?_) (fun yc7=>?_)
    ·simp -implicitDefEqProofs only [c9_10_r,(show opsOf c9_10 = _ :: _ from rfl),Tryz.underlying28,sz22,ag22,ent17,prm17,f17_t,runF_nil,runF_none,runF_some,runKF_t,runKF_f,runKF_x,stepKF_s,stepKF_x,tlT_c,tlT_n,hdT_c,hdT_n,footT_n,foot_t,readsO,yc1,yc3,yc5,yc7,setA,setB,za,zb,zc,zd,ze,zf,zg,zh,zi,zj,zk,zl,zm,zn,zo,zp,reduceCtorEq,zE,↓reduceIte]
     refine brM (fun yc8=>?_) (fun yr9 yc8=>?_)
     ·rw [yc8]; rfl
     ·simp -implicitDefEqProofs only [e17,Tryz.underlying22,runF_nil,runF_none,runF_some,runKF_t,runKF_f,runKF_x,stepKF_s,stepKF_x,tlT_c,tlT_n,hdT_c,hdT_n,footT_n,foot_t,readsO,yc1,yc3,yc5,yc7,yc8,setA,setB,za,zb,zc,zd,ze,zf,zg,zh,zi,zj,zk,zl,zm,zn,zo,zp,reduceCtorEq,zE,↓reduceIte]
      exact j9_12_t now (max2 (wu64 ((wu64 (1000 * yr2)) + (min2 yr4 2147483648000))) (min2 yr9 2147483648000)) e0_0 e0_1 e0_2 e0_3 e0_4 e0_5 e0_6 e0_7 e0_8 e0_9 e0_10 e0_11 _ (by rfl) (by rfl) (by rfl)
    ·simp -implicitDefEqProofs only [c9_11_e,runF_nil,runF_none,runF_some,runKF_t,runKF_f,runKF_x,stepKF_s,stepKF_x,tlT_c,tlT_n,hdT_c,hdT_n,footT_n,foot_t,readsO,yc1,yc3,yc5,yc7,setA,setB,za,zb,zc,zd,ze,zf,zg,zh,zi,zj,zk,zl,zm,zn,zo,zp,reduceCtorEq,zE,↓reduceIte]
     exact j9_12_t now (wu64 ((wu64 (1000 * yr2)) + (min2 yr4 2147483648000))) e0_0 e0_1 e0_2 e0_3 e0_4 e0_5 e0_6 e0_7 e0_8 e0_9 e0_10 e0_11 _ (by rfl) (by rfl) (by rfl)
noncomputable def c77_0:Code:=bodyOf Tryz.f77
def c77_1:=cA c77_0
def c77_2:=cB c77_0
def c77_3:=cA c77_2
def c77_4:=cB c77_2
def c77_5:=cA c77_4
def c77_6:=cA c77_5
def c77_7:=cB c77_5
def c77_8:=cA c77_7
def c77_9:=cB c77_7
def c77_10:=cB c77_4
def c77_11:=cA c77_10
def c77_12:=cA c77_11
def c77_13:=cB c77_11
def c77_14:=cA c77_13
def c77_15:=cB c77_13
def c77_16:=cB c77_10
def c77_17:=cA c77_16
def c77_18:=cA c77_17
def c77_19:=cB c77_17
def c77_20:=cA c77_19
def c77_21:=cB c77_19
def c77_22:=cB c77_16
def c77_23:=cA c77_22
def c77_24:=cA c77_23
def c77_25:=cB c77_23
def c77_26:=cA c77_25
def c77_27:=cA c77_26
def c77_28:=cB c77_26
def c77_29:=cB c77_25
def c77_30:=cB c77_22
def c77_31:=cA c77_30
def c77_32:=cB c77_30
theorem c77_0_e:c77_0 = .seq c77_1 c77_2:=rfl
theorem c77_1_r:RG (E0 mm) 77 c77_1:=rgN rfl
theorem c77_2_e:c77_2 = .seq c77_3 c77_4:=rfl
theorem c77_3_r:RG (E0 mm) 77 c77_3:=rgN rfl
theorem c77_4_e:c77_4 = .seq c77_5 c77_10:=rfl
theorem c77_5_e:c77_5 = .seq c77_6 c77_7:=rfl
theorem c77_6_r:RG (E0 mm) 77 c77_6:=rgN rfl
theorem c77_8_r:RG (E0 mm) 77 c77_8:=rgN rfl
theorem c77_9_e:c77_9 = .skip:=rfl
theorem c77_10_e:c77_10 = .seq c77_11 c77_16:=rfl
theorem c77_11_e:c77_11 = .seq c77_12 c77_13:=rfl
theorem c77_12_r:RG (E0 mm) 77 c77_12:=rgN rfl
theorem c77_14_r:RG (E0 mm) 77 c77_14:=rgN rfl
theorem c77_15_e:c77_15 = .skip:=rfl
theorem c77_16_e:c77_16 = .seq c77_17 c77_22:=rfl
theorem c77_17_e:c77_17 = .seq c77_18 c77_19:=rfl
theorem c77_18_r:RG (E0 mm) 77 c77_18:=rgN rfl
theorem c77_20_r:RG (E0 mm) 77 c77_20:=rgN rfl
theorem c77_21_e:c77_21 = .skip:=rfl
theorem c77_22_e:c77_22 = .seq c77_23 c77_30:=rfl
theorem c77_23_e:c77_23 = .seq c77_24 c77_25:=rfl
theorem c77_24_r:RG (E0 mm) 77 c77_24:=rgN rfl
theorem c77_26_e:c77_26 = .seq c77_27 c77_28:=rfl
theorem c77_27_r:RG (E0 mm) 77 c77_27:=rgN rfl
theorem c77_28_e:c77_28 = .ret:=rfl
theorem c77_29_e:c77_29 = .skip:=rfl
theorem c77_30_e:c77_30 = .seq c77_31 c77_32:=rfl
theorem c77_31_r:RG (E0 mm) 77 c77_31:=rgN rfl
theorem c77_32_e:c77_32 = .ret:=rfl
abbrev R77:=(Int)
def e77:R77→AV×Heap:=fun x=>(.v (.c (.d (.sc (.int .i64 x)))),[])
def j77_22 (base1 d5:Int):Option R77:=
 if (decide ((w64 base1)≤d5)) = true then
  some (-1:Int)
 else
  some d5
theorem j77_22_t (base1 d5:Int)  (sl:Nat→AV) (zq1:sl 1 = .v (.c (.d (.sc (.int .u64 base1))))) (zq5:sl 5 = .v (.c (.d (.sc (.int .i64 d5))))):
  bodyD (E0 mm) [.tmp 4] 0 false (den (E0 mm) 77 0 (callW (E0 mm)) itW c77_22 none ⟨sl,[]⟩) = (j77_22 base1 d5).map e77:=by
 simp -implicitDefEqProofs only [j77_22,c77_22_e,c77_23_e,c77_24_r,(show opsOf c77_24 = _ :: _ from rfl),Tryz.underlying22,Tryz.underlying3,(show c77_25 = Code.cond _ c77_26 c77_29 from rfl),zq1,zq5,setA,setB,za,zb,zc,zd,ze,zf,zg,zh,zi,zj,zk,zl,zm,zn,zo,zp,reduceCtorEq,zE,↓reduceIte]
 refine brB (fun yc7=>?_) (fun yc7=>?_)
 ·simp -implicitDefEqProofs only [c77_26_e,c77_27_r,(show opsOf c77_27 = _ :: _ from rfl),c77_28_e,zq1,zq5,yc7,setA,setB,za,zb,zc,zd,ze,zf,zg,zh,zi,zj,zk,zl,zm,zn,zo,zp,reduceCtorEq,zE,↓reduceIte]
  all_goals rfl
 ·simp -implicitDefEqProofs only [c77_29_e,c77_30_e,c77_31_r,(show opsOf c77_31 = _ :: _ from rfl),c77_32_e,zq1,zq5,yc7,setA,setB,za,zb,zc,zd,ze,zf,zg,zh,zi,zj,zk,zl,zm,zn,zo,zp,reduceCtorEq,zE,↓reduceIte]
  all_goals rfl
def j77_19 (c0:UInt8) (base1 d5:Int) (t30:Bool):Option R77:=
 if t30 = true then
  j77_22 base1 (w64 ((w64 ((c0.toNat:Int) - 65)) + 10))
 else
  j77_22 base1 d5
theorem j77_19_t (c0:UInt8) (base1 d5:Int) (t30:Bool)  (sl:Nat→AV) (zq0:sl 0 = .v (.c (.d (.sc (.int .u8 ((c0).toNat:Int)))))) (zq1:sl 1 = .v (.c (.d (.sc (.int .u64 base1))))) (zq5:sl 5 = .v (.c (.d (.sc (.int .i64 d5))))) (zq30:sl 30 = .v (.c (.d (.sc (.bool t30))))):
  bodyD (E0 mm) [.tmp 4] 0 false (seqD (E0 mm) 77 0 (callW (E0 mm)) itW c77_22 (den (E0 mm) 77 0 (callW (E0 mm)) itW c77_19 none ⟨sl,[]⟩)) = (j77_19 c0 base1 d5 t30).map e77:=by
 simp -implicitDefEqProofs only [j77_19,(show c77_19 = Code.cond _ c77_20 c77_21 from rfl),zq0,zq1,zq5,zq30,setA,setB,za,zb,zc,zd,ze,zf,zg,zh,zi,zj,zk,zl,zm,zn,zo,zp,reduceCtorEq,zE,↓reduceIte]
 refine brB (fun yc6=>?_) (fun yc6=>?_)
 ·simp -implicitDefEqProofs only [c77_20_r,(show opsOf c77_20 = _ :: _ from rfl),Tryz.underlying5,Tryz.underlying3,zq0,zq1,zq5,zq30,yc6,setA,setB,za,zb,zc,zd,ze,zf,zg,zh,zi,zj,zk,zl,zm,zn,zo,zp,reduceCtorEq,zE,↓reduceIte]
  exact j77_22_t base1 (w64 ((w64 ((c0.toNat:Int) - 65)) + 10)) _ (by exact zq1) (by rfl)
 ·simp -implicitDefEqProofs only [c77_21_e,zq0,zq1,zq5,zq30,yc6,setA,setB,za,zb,zc,zd,ze,zf,zg,zh,zi,zj,zk,zl,zm,zn,zo,zp,reduceCtorEq,zE,↓reduceIte]
  exact j77_22_t base1 d5 _ (by exact zq1) (by exact zq5)
def j77_16 (c0:UInt8) (base1 d5:Int):Option R77:=
 if (decide ((65:UInt8)≤c0)) = true then
  j77_19 c0 base1 d5 (decide (c0≤(70:UInt8)))
 else
  j77_19 c0 base1 d5 false
theorem j77_16_t (c0:UInt8) (base1 d5:Int)  (sl:Nat→AV) (zq0:sl 0 = .v (.c (.d (.sc (.int .u8 ((c0).toNat:Int)))))) (zq1:sl 1 = .v (.c (.d (.sc (.int .u64 base1))))) (zq5:sl 5 = .v (.c (.d (.sc (.int .i64 d5))))):
  bodyD (E0 mm) [.tmp 4] 0 false (den (E0 mm) 77 0 (callW (E0 mm)) itW c77_16 none ⟨sl,[]⟩) = (j77_16 c0 base1 d5).map e77:=by
 simp -implicitDefEqProofs only [j77_16,c77_16_e,c77_17_e,c77_18_r,(show opsOf c77_18 = _ :: _ from rfl),zq0,zq1,zq5,setA,setB,za,zb,zc,zd,ze,zf,zg,zh,zi,zj,zk,zl,zm,zn,zo,zp,reduceCtorEq,zE,↓reduceIte]
 refine brB (fun yc5=>?_) (fun yc5=>?_)
 ·simp -implicitDefEqProofs only [zq0,zq1,zq5,yc5,setA,setB,za,zb,zc,zd,ze,zf,zg,zh,zi,zj,zk,zl,zm,zn,zo,zp,reduceCtorEq,zE,↓reduceIte]
  exact j77_19_t c0 base1 d5 (decide (c0≤(70:UInt8))) _ (by exact zq0) (by exact zq1) (by exact zq5) (by rfl)
 ·simp -implicitDefEqProofs only [zq0,zq1,zq5,yc5,setA,setB,za,zb,zc,zd,ze,zf,zg,zh,zi,zj,zk,zl,zm,zn,zo,zp,reduceCtorEq,zE,↓reduceIte]
  exact j77_19_t c0 base1 d5 false _ (by exact zq0) (by exact zq1) (by exact zq5) (by rfl)
def j77_13 (c0:UInt8) (base1 d5:Int) (t20:Bool):Option R77:=
 if t20 = true then
  j77_16 c0 base1 (w64 ((w64 ((c0.toNat:Int) - 97)) + 10))
 else
  j77_16 c0 base1 d5
theorem j77_13_t (c0:UInt8) (base1 d5:Int) (t20:Bool)  (sl:Nat→AV) (zq0:sl 0 = .v (.c (.d (.sc (.int .u8 ((c0).toNat:Int)))))) (zq1:sl 1 = .v (.c (.d (.sc (.int .u64 base1))))) (zq5:sl 5 = .v (.c (.d (.sc (.int .i64 d5))))) (zq20:sl 20 = .v (.c (.d (.sc (.bool t20))))):
  bodyD (E0 mm) [.tmp 4] 0 false (seqD (E0 mm) 77 0 (callW (E0 mm)) itW c77_16 (den (E0 mm) 77 0 (callW (E0 mm)) itW c77_13 none ⟨sl,[]⟩)) = (j77_13 c0 base1 d5 t20).map e77:=by
 simp -implicitDefEqProofs only [j77_13,(show c77_13 = Code.cond _ c77_14 c77_15 from rfl),zq0,zq1,zq5,zq20,setA,setB,za,zb,zc,zd,ze,zf,zg,zh,zi,zj,zk,zl,zm,zn,zo,zp,reduceCtorEq,zE,↓reduceIte]
 refine brB (fun yc4=>?_) (fun yc4=>?_)
 ·simp -implicitDefEqProofs only [c77_14_r,(show opsOf c77_14 = _ :: _ from rfl),Tryz.underlying5,Tryz.underlying3,zq0,zq1,zq5,zq20,yc4,setA,setB,za,zb,zc,zd,ze,zf,zg,zh,zi,zj,zk,zl,zm,zn,zo,zp,reduceCtorEq,zE,↓reduceIte]
  exact j77_16_t c0 base1 (w64 ((w64 ((c0.toNat:Int) - 97)) + 10)) _ (by exact zq0) (by exact zq1) (by rfl)
 ·simp -implicitDefEqProofs only [c77_15_e,zq0,zq1,zq5,zq20,yc4,setA,setB,za,zb,zc,zd,ze,zf,zg,zh,zi,zj,zk,zl,zm,zn,zo,zp,reduceCtorEq,zE,↓reduceIte]
  exact j77_16_t c0 base1 d5 _ (by exact zq0) (by exact zq1) (by exact zq5)
def j77_10 (c0:UInt8) (base1 d5:Int):Option R77:=
 if (decide ((97:UInt8)≤c0)) = true then
  j77_13 c0 base1 d5 (decide (c0≤(102:UInt8)))
 else
  j77_13 c0 base1 d5 false
theorem j77_10_t (c0:UInt8) (base1 d5:Int)  (sl:Nat→AV) (zq0:sl 0 = .v (.c (.d (.sc (.int .u8 ((c0).toNat:Int)))))) (zq1:sl 1 = .v (.c (.d (.sc (.int .u64 base1))))) (zq5:sl 5 = .v (.c (.d (.sc (.int .i64 d5))))):
  bodyD (E0 mm) [.tmp 4] 0 false (den (E0 mm) 77 0 (callW (E0 mm)) itW c77_10 none ⟨sl,[]⟩) = (j77_10 c0 base1 d5).map e77:=by
 simp -implicitDefEqProofs only [j77_10,c77_10_e,c77_11_e,c77_12_r,(show opsOf c77_12 = _ :: _ from rfl),zq0,zq1,zq5,setA,setB,za,zb,zc,zd,ze,zf,zg,zh,zi,zj,zk,zl,zm,zn,zo,zp,reduceCtorEq,zE,↓reduceIte]
 refine brB (fun yc3=>?_) (fun yc3=>?_)
 ·simp -implicitDefEqProofs only [zq0,zq1,zq5,yc3,setA,setB,za,zb,zc,zd,ze,zf,zg,zh,zi,zj,zk,zl,zm,zn,zo,zp,reduceCtorEq,zE,↓reduceIte]
  exact j77_13_t c0 base1 d5 (decide (c0≤(102:UInt8))) _ (by exact zq0) (by exact zq1) (by exact zq5) (by rfl)
 ·simp -implicitDefEqProofs only [zq0,zq1,zq5,yc3,setA,setB,za,zb,zc,zd,ze,zf,zg,zh,zi,zj,zk,zl,zm,zn,zo,zp,reduceCtorEq,zE,↓reduceIte]
  exact j77_13_t c0 base1 d5 false _ (by exact zq0) (by exact zq1) (by exact zq5) (by rfl)
def j77_7 (c0:UInt8) (base1 d5:Int) (t11:Bool):Option R77:=
 if t11 = true then
  j77_10 c0 base1 (w64 ((c0.toNat:Int) - 48))
 else
  j77_10 c0 base1 d5
theorem j77_7_t (c0:UInt8) (base1 d5:Int) (t11:Bool)  (sl:Nat→AV) (zq0:sl 0 = .v (.c (.d (.sc (.int .u8 ((c0).toNat:Int)))))) (zq1:sl 1 = .v (.c (.d (.sc (.int .u64 base1))))) (zq5:sl 5 = .v (.c (.d (.sc (.int .i64 d5))))) (zq11:sl 11 = .v (.c (.d (.sc (.bool t11))))):
  bodyD (E0 mm) [.tmp 4] 0 false (seqD (E0 mm) 77 0 (callW (E0 mm)) itW c77_10 (den (E0 mm) 77 0 (callW (E0 mm)) itW c77_7 none ⟨sl,[]⟩)) = (j77_7 c0 base1 d5 t11).map e77:=by
 simp -implicitDefEqProofs only [j77_7,(show c77_7 = Code.cond _ c77_8 c77_9 from rfl),zq0,zq1,zq5,zq11,setA,setB,za,zb,zc,zd,ze,zf,zg,zh,zi,zj,zk,zl,zm,zn,zo,zp,reduceCtorEq,zE,↓reduceIte]
 refine brB (fun yc2=>?_) (fun yc2=>?_)
 ·simp -implicitDefEqProofs only [c77_8_r,(show opsOf c77_8 = _ :: _ from rfl),Tryz.underlying5,Tryz.underlying3,zq0,zq1,zq5,zq11,yc2,setA,setB,za,zb,zc,zd,ze,zf,zg,zh,zi,zj,zk,zl,zm,zn,zo,zp,reduceCtorEq,zE,↓reduceIte]
  exact j77_10_t c0 base1 (w64 ((c0.toNat:Int) - 48)) _ (by exact zq0) (by exact zq1) (by rfl)
 ·simp -implicitDefEqProofs only [c77_9_e,zq0,zq1,zq5,zq11,yc2,setA,setB,za,zb,zc,zd,ze,zf,zg,zh,zi,zj,zk,zl,zm,zn,zo,zp,reduceCtorEq,zE,↓reduceIte]
  exact j77_10_t c0 base1 d5 _ (by exact zq0) (by exact zq1) (by exact zq5)
def m77 (c:UInt8) (base:Int):Option R77:=
 if (decide ((48:UInt8)≤c)) = true then
  j77_7 c base (-1:Int) (decide (c≤(57:UInt8)))
 else
  j77_7 c base (-1:Int) false
theorem f77_t (c:UInt8) (base:Int):
  callW (E0 mm) 77 [.c (.d (.sc (.int .u8 ((c).toNat:Int)))),.c (.d (.sc (.int .u64 base)))] [] = (m77 c base).map e77:=by
 rw [callW_run (body:=c77_0) (res:=[.tmp 4]) Tryz.func77 rfl rfl (by kernel_rfl)]
 simp -implicitDefEqProofs only [m77,slots2,c77_0_e,c77_1_r,(show opsOf c77_1 = _ :: _ from rfl),c77_2_e,c77_3_r,(show opsOf c77_3 = _ :: _ from rfl),c77_4_e,c77_5_e,c77_6_r,(show opsOf c77_6 = _ :: _ from rfl),setA,setB,za,zb,zc,zd,ze,zf,zg,zh,zi,zj,zk,zl,zm,zn,zo,zp,reduceCtorEq,zE,↓reduceIte]
 refine brB (fun yc1=>?_) (fun yc1=>?_)
 ·simp -implicitDefEqProofs only [yc1,setA,setB,za,zb,zc,zd,ze,zf,zg,zh,zi,zj,zk,zl,zm,zn,zo,zp,reduceCtorEq,zE,↓reduceIte]
  exact j77_7_t c base (-1:Int) (decide (c≤(57:UInt8))) _ (by rfl) (by rfl) (by rfl) (by rfl)
 ·simp -implicitDefEqProofs only [yc1,setA,setB,za,zb,zc,zd,ze,zf,zg,zh,zi,zj,zk,zl,zm,zn,zo,zp,reduceCtorEq,zE,↓reduceIte]
  exact j77_7_t c base (-1:Int) false _ (by rfl) (by rfl) (by rfl) (by rfl)
noncomputable def c65_0:Code:=bodyOf Tryz.f65
def c65_1:=cA c65_0
def c65_2:=cB c65_0
def c65_3:=cA c65_2
def c65_4:=cA c65_3
def c65_5:=cB c65_3
def c65_6:=cA c65_5
def c65_7:=cA c65_6
def c65_8:=cB c65_6
def c65_9:=cB c65_5
def c65_10:=cB c65_2
def c65_11:=cA c65_10
def c65_12:=cA c65_11
def c65_13:=cB c65_11
def c65_14:=cA c65_13
def c65_15:=cA c65_14
def c65_16:=cA c65_15
def c65_17:=cA c65_16
def c65_18:=cB c65_16
def c65_19:=cA c65_18
def c65_20:=cB c65_18
def c65_21:=cB c65_15
def c65_22:=cA c65_21
def c65_23:=cA c65_22
def c65_24:=cA c65_23
def c65_25:=cB c65_23
def c65_26:=cA c65_25
def c65_27:=cA c65_26
def c65_28:=cB c65_26
def c65_29:=cB c65_25
def c65_30:=cB c65_21
def c65_31:=cB c65_10
def c65_32:=cA c65_31
def c65_33:=cA c65_32
def c65_34:=cA c65_33
def c65_35:=cA c65_34
def c65_36:=cA c65_35
def c65_37:=cB c65_35
def c65_38:=cA c65_37
def c65_39:=cB c65_37
def c65_40:=cB c65_34
def c65_41:=cA c65_40
def c65_42:=cB c65_31
def c65_43:=cA c65_42
def c65_44:=cA c65_43
def c65_45:=cB c65_43
def c65_46:=cA c65_45
def c65_47:=cA c65_46
def c65_48:=cB c65_46
def c65_49:=cB c65_45
def c65_50:=cB c65_42
def c65_51:=cA c65_50
def c65_52:=cB c65_50
def c65_53:=cA c65_52
def c65_54:=cA c65_53
def c65_55:=cB c65_53
def c65_56:=cA c65_55
def c65_57:=cA c65_56
def c65_58:=cA c65_57
def c65_59:=cA c65_58
def c65_60:=cB c65_58
def c65_61:=cA c65_60
def c65_62:=cB c65_60
def c65_63:=cB c65_57
def c65_64:=cA c65_63
def c65_65:=cA c65_64
def c65_66:=cA c65_65
def c65_67:=cB c65_65
def c65_68:=cA c65_67
def c65_69:=cB c65_67
def c65_70:=cA c65_69
def c65_71:=cA c65_70
def c65_72:=cB c65_70
def c65_73:=cB c65_69
def c65_74:=cB c65_63
def c65_75:=cB c65_52
def c65_76:=cA c65_75
def c65_77:=cB c65_75
theorem c65_0_e:c65_0 = .seq c65_1 c65_2:=rfl
theorem c65_1_r:RG (E0 mm) 65 c65_1:=rgN rfl
theorem c65_2_e:c65_2 = .seq c65_3 c65_10:=rfl
theorem c65_3_e:c65_3 = .seq c65_4 c65_5:=rfl
theorem c65_4_r:RG (E0 mm) 65 c65_4:=rgN rfl
theorem c65_6_e:c65_6 = .seq c65_7 c65_8:=rfl
theorem c65_7_r:RG (E0 mm) 65 c65_7:=rgN rfl
theorem c65_8_e:c65_8 = .ret:=rfl
theorem c65_9_e:c65_9 = .skip:=rfl
theorem c65_10_e:c65_10 = .seq c65_11 c65_31:=rfl
theorem c65_11_e:c65_11 = .seq c65_12 c65_13:=rfl
theorem c65_12_r:RG (E0 mm) 65 c65_12:=rgN rfl
theorem c65_13_e:c65_13 = .block 0 c65_14:=rfl
theorem c65_14_l (m:Nat) (st:St):den (E0 mm) 65 m (callW (E0 mm)) itW c65_14 none st = loopD itW (loopF (E0 mm) 65 m (callW (E0 mm)) itW c65_15 [(0,.keep),(1,.keep),(6,.keep)]) (canon m [(0,.keep),(1,.keep),(6,.keep)] st):=rfl
theorem c65_15_e:c65_15 = .seq c65_16 c65_21:=rfl
theorem c65_16_e:c65_16 = .seq c65_17 c65_18:=rfl
theorem c65_17_r:RG (E0 mm) 65 c65_17:=rgN rfl
theorem c65_19_e:c65_19 = .skip:=rfl
theorem c65_20_e:c65_20 = .exit 0:=rfl
theorem c65_21_e:c65_21 = .seq c65_22 c65_30:=rfl
theorem c65_22_e:c65_22 = .block 1 c65_23:=rfl
theorem c65_23_e:c65_23 = .seq c65_24 c65_25:=rfl
theorem c65_24_r:RG (E0 mm) 65 c65_24:=rgN rfl
theorem c65_26_e:c65_26 = .seq c65_27 c65_28:=rfl
theorem c65_27_r:RG (E0 mm) 65 c65_27:=rgN rfl
theorem c65_28_e:c65_28 = .ret:=rfl
theorem c65_29_e:c65_29 = .skip:=rfl
theorem c65_30_r:RG (E0 mm) 65 c65_30:=rgN rfl
theorem c65_31_e:c65_31 = .seq c65_32 c65_42:=rfl
theorem c65_32_e:c65_32 = .block 2 c65_33:=rfl
theorem c65_33_l (m:Nat) (st:St):den (E0 mm) 65 m (callW (E0 mm)) itW c65_33 none st = loopD itW (loopF (E0 mm) 65 m (callW (E0 mm)) itW c65_34 [(0,.keep),(1,.keep)]) (canon m [(0,.keep),(1,.keep)] st):=rfl
theorem c65_34_e:c65_34 = .seq c65_35 c65_40:=rfl
theorem c65_35_e:c65_35 = .seq c65_36 c65_37:=rfl
theorem c65_36_r:RG (E0 mm) 65 c65_36:=rgN rfl
theorem c65_38_e:c65_38 = .skip:=rfl
theorem c65_39_e:c65_39 = .exit 2:=rfl
theorem c65_40_e:c65_40 = .block 3 c65_41:=rfl
theorem c65_41_r:RG (E0 mm) 65 c65_41:=rgN rfl
theorem c65_42_e:c65_42 = .seq c65_43 c65_50:=rfl
theorem c65_43_e:c65_43 = .seq c65_44 c65_45:=rfl
theorem c65_44_r:RG (E0 mm) 65 c65_44:=rgN rfl
theorem c65_46_e:c65_46 = .seq c65_47 c65_48:=rfl
theorem c65_47_r:RG (E0 mm) 65 c65_47:=rgN rfl
theorem c65_48_e:c65_48 = .ret:=rfl
theorem c65_49_e:c65_49 = .skip:=rfl
theorem c65_50_e:c65_50 = .seq c65_51 c65_52:=rfl
theorem c65_51_r:RG (E0 mm) 65 c65_51:=rgN rfl
theorem c65_52_e:c65_52 = .seq c65_53 c65_75:=rfl
theorem c65_53_e:c65_53 = .seq c65_54 c65_55:=rfl
theorem c65_54_r:RG (E0 mm) 65 c65_54:=rgN rfl
theorem c65_55_e:c65_55 = .block 4 c65_56:=rfl
theorem c65_56_l (m:Nat) (st:St):den (E0 mm) 65 m (callW (E0 mm)) itW c65_56 none st = loopD itW (loopF (E0 mm) 65 m (callW (E0 mm)) itW c65_57 [(0,.keep),(1,.keep),(7,.keep),(8,.keep)]) (canon m [(0,.keep),(1,.keep),(7,.keep),(8,.keep)] st):=rfl
theorem c65_57_e:c65_57 = .seq c65_58 c65_63:=rfl
theorem c65_58_e:c65_58 = .seq c65_59 c65_60:=rfl
theorem c65_59_r:RG (E0 mm) 65 c65_59:=rgN rfl
theorem c65_61_e:c65_61 = .skip:=rfl
theorem c65_62_e:c65_62 = .exit 4:=rfl
theorem c65_63_e:c65_63 = .seq c65_64 c65_74:=rfl
theorem c65_64_e:c65_64 = .block 5 c65_65:=rfl
theorem c65_65_e:c65_65 = .seq c65_66 c65_67:=rfl
theorem c65_66_r:RG (E0 mm) 65 c65_66:=rgN rfl
theorem c65_67_e:c65_67 = .seq c65_68 c65_69:=rfl
theorem c65_68_r:RG (E0 mm) 65 c65_68:=rgN rfl
theorem c65_70_e:c65_70 = .seq c65_71 c65_72:=rfl
theorem c65_71_r:RG (E0 mm) 65 c65_71:=rgN rfl
theorem c65_72_e:c65_72 = .ret:=rfl
theorem c65_73_e:c65_73 = .skip:=rfl
theorem c65_74_r:RG (E0 mm) 65 c65_74:=rgN rfl
theorem c65_75_e:c65_75 = .seq c65_76 c65_77:=rfl
theorem c65_76_r:RG (E0 mm) 65 c65_76:=rgN rfl
theorem c65_77_e:c65_77 = .ret:=rfl
abbrev R65:=(Int×Int)
def e65:R65→AV×Heap:=fun x=>(.tup [.c (.d (.sc (.int .u64 x.1))),.c (.d (.sc (.int .i64 x.2)))],[])
def K65_14:Option (Ex×St)→Option (AV×Heap):=fun r=>bodyD (E0 mm) [.tmp 4,.tmp 5] 0 false (seqD (E0 mm) 65 0 (callW (E0 mm)) itW c65_31 (blockD 0 (r)))
def en65_14:(Bs×Int×Int)→X:=fun x=>(none,[.v (.c (.d (.sc (.string (S x.1))))),.v (.c (.d (.sc (.int .u64 x.2.1)))),.v (.c (.d (.sc (.int .i64 x.2.2))))],[])
def K65_33:Option (Ex×St)→Option (AV×Heap):=fun r=>bodyD (E0 mm) [.tmp 4,.tmp 5] 0 false (seqD (E0 mm) 65 0 (callW (E0 mm)) itW c65_42 (blockD 2 (r)))
def en65_33:(Bs×Int)→X:=fun x=>(none,[.v (.c (.d (.sc (.string (S x.1))))),.v (.c (.d (.sc (.int .u64 x.2))))],[])
def K65_56:Option (Ex×St)→Option (AV×Heap):=fun r=>bodyD (E0 mm) [.tmp 4,.tmp 5] 0 false (seqD (E0 mm) 65 0 (callW (E0 mm)) itW c65_75 (blockD 4 (r)))
def en65_56:(Bs×Int×Int×Int)→X:=fun x=>(none,[.v (.c (.d (.sc (.string (S x.1))))),.v (.c (.d (.sc (.int .u64 x.2.1)))),.v (.c (.d (.sc (.int .u64 x.2.2.1)))),.v (.c (.d (.sc (.int .i64 x.2.2.2))))],[])
def j65_75 (n7:Int):Option R65:=
 some (n7,(0:Int))
theorem j65_75_t (n7:Int)  (sl:Nat→AV) (zq7:sl 7 = .v (.c (.d (.sc (.int .u64 n7))))):
  bodyD (E0 mm) [.tmp 4,.tmp 5] 0 false (den (E0 mm) 65 0 (callW (E0 mm)) itW c65_75 none ⟨sl,[]⟩) = (j65_75 n7).map e65:=by
 simp -implicitDefEqProofs only [j65_75,c65_75_e,c65_76_r,(show opsOf c65_76 = _ :: _ from rfl),c65_77_e,zq7,setA,setB,za,zb,zc,zd,ze,zf,zg,zh,zi,zj,zk,zl,zm,zn,zo,zp,reduceCtorEq,zE,↓reduceIte]
 all_goals rfl
def s65_56 (s0:Bs) (base1 n7 i8:Int):Option ((Bs×Int×Int×Int) ⊕ R65):=
 if (decide (i8 < (s0.length:Int))) = true then
  if 0≤i8∧i8 < (s0.length:Int) then
   (m77 (s0.getD i8.toNat 0) base1).bind fun yr16=>
    if (decide (9007199254740991 < (wu64 ((wu64 (base1 * n7)) + (wu64 yr16))))) = true then
     some (.inr ((0:Int),(3:Int)))
    else
     some (.inl (s0,base1,(wu64 ((wu64 (base1 * n7)) + (wu64 yr16))),(w64 (i8 + 1))))
  else none
 else
  (j65_75 n7).map .inr
theorem s65_56_t (s0:Bs) (base1 n7 i8:Int):
  stepE (K65_56 (mm:=mm)) (loopF (E0 mm) 65 0 (callW (E0 mm)) itW c65_57 [(0,.keep),(1,.keep),(7,.keep),(8,.keep)] (none,[.v (.c (.d (.sc (.string (S s0))))),.v (.c (.d (.sc (.int .u64 base1)))),.v (.c (.d (.sc (.int .u64 n7)))),.v (.c (.d (.sc (.int .i64 i8))))],[])) = (s65_56 s0 base1 n7 i8).map (sm en65_56 e65):=by
 simp -implicitDefEqProofs only [s65_56,loopF_eq,c65_57_e,c65_58_e,c65_59_r,(show opsOf c65_59 = _ :: _ from rfl),Tryz.underlying9,(show c65_60 = Code.cond _ c65_61 c65_62 from rfl),setA,setB,za,zb,zc,zd,ze,zf,zg,zh,zi,zj,zk,zl,zm,zn,zo,zp,reduceCtorEq,zE,↓reduceIte]
 refine brB (fun yc13=>?_) (fun yc13=>?_)
 ·simp -implicitDefEqProofs only [c65_61_e,c65_63_e,c65_64_e,c65_65_e,c65_66_r,(show opsOf c65_66 = _ :: _ from rfl),Tryz.underlying9,yc13,setA,setB,za,zb,zc,zd,ze,zf,zg,zh,zi,zj,zk,zl,zm,zn,zo,zp,reduceCtorEq,zE,↓reduceIte]
  refine brP (fun yc14=>?_) (fun yc14=>?_)
  ·simp -implicitDefEqProofs only [ent77,prm77,f77_t,yc13,yc14,setA,setB,za,zb,zc,zd,ze,zf,zg,zh,zi,zj,zk,zl,zm,zn,zo,zp,reduceCtorEq,zE,↓reduceIte]
   refine brM (fun yc15=>?_) (fun yr16 yc15=>?_)
   ·rw [yc15]; rfl
   ·simp -implicitDefEqProofs only [e77,Tryz.underlying3,Tryz.underlying22,c65_67_e,c65_68_r,(show opsOf c65_68 = _ :: _ from rfl),(show c65_69 = Code.cond _ c65_70 c65_73 from rfl),yc13,yc14,yc15,setA,setB,za,zb,zc,zd,ze,zf,zg,zh,zi,zj,zk,zl,zm,zn,zo,zp,reduceCtorEq,zE,↓reduceIte]
    refine brB (fun yc17=>?_) (fun yc17=>?_)
    ·simp -implicitDefEqProofs only [c65_70_e,c65_71_r,(show opsOf c65_71 = _ :: _ from rfl),c65_72_e,K65_56,yc13,yc14,yc15,yc17,setA,setB,za,zb,zc,zd,ze,zf,zg,zh,zi,zj,zk,zl,zm,zn,zo,zp,reduceCtorEq,zE,↓reduceIte]
     all_goals rfl
    ·simp -implicitDefEqProofs only [c65_73_e,c65_74_r,(show opsOf c65_74 = _ :: _ from rfl),yc13,yc14,yc15,yc17,setA,setB,za,zb,zc,zd,ze,zf,zg,zh,zi,zj,zk,zl,zm,zn,zo,zp,reduceCtorEq,zE,↓reduceIte]
     all_goals rfl
  ·rw [if_neg yc14]; rfl
 ·simp -implicitDefEqProofs only [c65_62_e,K65_56,yc13,setA,setB,za,zb,zc,zd,ze,zf,zg,zh,zi,zj,zk,zl,zm,zn,zo,zp,reduceCtorEq,zE,↓reduceIte]
  exact mi (j65_75_t n7 _ (by rfl))
def l65_56 (s0:Bs) (base1 n7 i8:Int):Option R65:=iter (fun x:(Bs×Int×Int×Int)=>s65_56 x.1 x.2.1 x.2.2.1 x.2.2.2) (s0,base1,n7,i8)
theorem l65_56_t (s0:Bs) (base1 n7 i8:Int):bodyD (E0 mm) [.tmp 4,.tmp 5] 0 false (seqD (E0 mm) 65 0 (callW (E0 mm)) itW c65_75 (blockD 4 (itW (loopF (E0 mm) 65 0 (callW (E0 mm)) itW c65_57 [(0,.keep),(1,.keep),(7,.keep),(8,.keep)]) (none,[.v (.c (.d (.sc (.string (S s0))))),.v (.c (.d (.sc (.int .u64 base1)))),.v (.c (.d (.sc (.int .u64 n7)))),.v (.c (.d (.sc (.int .i64 i8))))],[])))) = (l65_56 s0 base1 n7 i8).map e65:=
 it_sim (K:=(K65_56 (mm:=mm))) rfl (enc:=en65_56) (fun x=>s65_56_t x.1 x.2.1 x.2.2.1 x.2.2.2) (s0,base1,n7,i8)
def j65_42 (s0:Bs) (base1:Int):Option R65:=
 if (decide (16 < (s0.length:Int))) = true then
  some ((0:Int),(3:Int))
 else
  l65_56 s0 base1 (0:Int) (0:Int)
theorem j65_42_t (s0:Bs) (base1:Int)  (sl:Nat→AV) (zq0:sl 0 = .v (.c (.d (.sc (.string (S s0)))))) (zq1:sl 1 = .v (.c (.d (.sc (.int .u64 base1))))):
  bodyD (E0 mm) [.tmp 4,.tmp 5] 0 false (den (E0 mm) 65 0 (callW (E0 mm)) itW c65_42 none ⟨sl,[]⟩) = (j65_42 s0 base1).map e65:=by
 simp -implicitDefEqProofs only [j65_42,c65_42_e,c65_43_e,c65_44_r,(show opsOf c65_44 = _ :: _ from rfl),Tryz.underlying9,(show c65_45 = Code.cond _ c65_46 c65_49 from rfl),zq0,zq1,setA,setB,za,zb,zc,zd,ze,zf,zg,zh,zi,zj,zk,zl,zm,zn,zo,zp,reduceCtorEq,zE,↓reduceIte]
 refine brB (fun yc12=>?_) (fun yc12=>?_)
 ·simp -implicitDefEqProofs only [c65_46_e,c65_47_r,(show opsOf c65_47 = _ :: _ from rfl),c65_48_e,zq0,zq1,yc12,setA,setB,za,zb,zc,zd,ze,zf,zg,zh,zi,zj,zk,zl,zm,zn,zo,zp,reduceCtorEq,zE,↓reduceIte]
  all_goals rfl
 ·simp -implicitDefEqProofs only [c65_49_e,c65_50_e,c65_51_r,(show opsOf c65_51 = _ :: _ from rfl),c65_52_e,c65_53_e,c65_54_r,(show opsOf c65_54 = _ :: _ from rfl),c65_55_e,c65_56_l,zq0,zq1,yc12,setA,setB,za,zb,zc,zd,ze,zf,zg,zh,zi,zj,zk,zl,zm,zn,zo,zp,reduceCtorEq,zE,↓reduceIte]
  exact l65_56_t s0 base1 (0:Int) (0:Int)
def j65_37 (s0:Bs) (base1:Int) (t31:Bool):Option ((Bs×Int) ⊕ R65):=
 if t31 = true then
  (bnd 1 s0.length).bind fun yk11=>
   some (.inl ((s0.drop yk11),base1))
 else
  (j65_42 s0 base1).map .inr
theorem j65_37_t (s0:Bs) (base1:Int) (t31:Bool)  (sl:Nat→AV) (zq0:sl 0 = .v (.c (.d (.sc (.string (S s0)))))) (zq1:sl 1 = .v (.c (.d (.sc (.int .u64 base1))))) (zq31:sl 31 = .v (.c (.d (.sc (.bool t31))))):
  stepE (K65_33 (mm:=mm)) (loopK 0 [(0,.keep),(1,.keep)] (seqD (E0 mm) 65 0 (callW (E0 mm)) itW c65_40 (den (E0 mm) 65 0 (callW (E0 mm)) itW c65_37 none ⟨sl,[]⟩))) = (j65_37 s0 base1 t31).map (sm en65_33 e65):=by
 simp -implicitDefEqProofs only [j65_37,(show c65_37 = Code.cond _ c65_38 c65_39 from rfl),zq0,zq1,zq31,setA,setB,za,zb,zc,zd,ze,zf,zg,zh,zi,zj,zk,zl,zm,zn,zo,zp,reduceCtorEq,zE,↓reduceIte]
 refine brB (fun yc9=>?_) (fun yc9=>?_)
 ·simp -implicitDefEqProofs only [c65_38_e,c65_40_e,c65_41_r,(show opsOf c65_41 = _ :: _ from rfl),Tryz.underlying9,zq0,zq1,zq31,yc9,setA,setB,za,zb,zc,zd,ze,zf,zg,zh,zi,zj,zk,zl,zm,zn,zo,zp,reduceCtorEq,zE,↓reduceIte]
  refine brM (fun yc10=>?_) (fun yk11 yc10=>?_)
  ·rw [yc10]; rfl
  ·simp -implicitDefEqProofs only [zq0,zq1,zq31,yc9,yc10,setA,setB,za,zb,zc,zd,ze,zf,zg,zh,zi,zj,zk,zl,zm,zn,zo,zp,reduceCtorEq,zE,↓reduceIte]
   all_goals rfl
 ·simp -implicitDefEqProofs only [c65_39_e,K65_33,zq0,zq1,zq31,yc9,setA,setB,za,zb,zc,zd,ze,zf,zg,zh,zi,zj,zk,zl,zm,zn,zo,zp,reduceCtorEq,zE,↓reduceIte]
  exact mi (j65_42_t s0 base1 _ (by exact zq0) (by exact zq1))
def s65_33 (s0:Bs) (base1:Int):Option ((Bs×Int) ⊕ R65):=
 if (decide (1 < (s0.length:Int))) = true then
  if (0:Int) < (s0.length:Int) then
   j65_37 s0 base1 ((s0.getD 0 0) == (48:UInt8))
  else none
 else
  j65_37 s0 base1 false
theorem s65_33_t (s0:Bs) (base1:Int):
  stepE (K65_33 (mm:=mm)) (loopF (E0 mm) 65 0 (callW (E0 mm)) itW c65_34 [(0,.keep),(1,.keep)] (none,[.v (.c (.d (.sc (.string (S s0))))),.v (.c (.d (.sc (.int .u64 base1))))],[])) = (s65_33 s0 base1).map (sm en65_33 e65):=by
 simp -implicitDefEqProofs only [s65_33,loopF_eq,c65_34_e,c65_35_e,c65_36_r,(show opsOf c65_36 = _ :: _ from rfl),Tryz.underlying9,setA,setB,za,zb,zc,zd,ze,zf,zg,zh,zi,zj,zk,zl,zm,zn,zo,zp,reduceCtorEq,zE,↓reduceIte]
 refine brB (fun yc7=>?_) (fun yc7=>?_)
 ·simp -implicitDefEqProofs only [Tryz.underlying9,yc7,setA,setB,za,zb,zc,zd,ze,zf,zg,zh,zi,zj,zk,zl,zm,zn,zo,zp,reduceCtorEq,zE,↓reduceIte]
  refine brP (fun yc8=>?_) (fun yc8=>?_)
  ·simp -implicitDefEqProofs only [yc7,yc8,setA,setB,za,zb,zc,zd,ze,zf,zg,zh,zi,zj,zk,zl,zm,zn,zo,zp,reduceCtorEq,zE,↓reduceIte]
   exact j65_37_t s0 base1 ((s0.getD 0 0) == (48:UInt8)) _ (by rfl) (by rfl) (by rfl)
  ·rw [if_neg yc8]; rfl
 ·simp -implicitDefEqProofs only [yc7,setA,setB,za,zb,zc,zd,ze,zf,zg,zh,zi,zj,zk,zl,zm,zn,zo,zp,reduceCtorEq,zE,↓reduceIte]
  exact j65_37_t s0 base1 false _ (by rfl) (by rfl) (by rfl)
def l65_33 (s0:Bs) (base1:Int):Option R65:=iter (fun x:(Bs×Int)=>s65_33 x.1 x.2) (s0,base1)
theorem l65_33_t (s0:Bs) (base1:Int):bodyD (E0 mm) [.tmp 4,.tmp 5] 0 false (seqD (E0 mm) 65 0 (callW (E0 mm)) itW c65_42 (blockD 2 (itW (loopF (E0 mm) 65 0 (callW (E0 mm)) itW c65_34 [(0,.keep),(1,.keep)]) (none,[.v (.c (.d (.sc (.string (S s0))))),.v (.c (.d (.sc (.int .u64 base1))))],[])))) = (l65_33 s0 base1).map e65:=
 it_sim (K:=(K65_33 (mm:=mm))) rfl (enc:=en65_33) (fun x=>s65_33_t x.1 x.2) (s0,base1)
def j65_31 (s0:Bs) (base1:Int):Option R65:=
 l65_33 s0 base1
theorem j65_31_t (s0:Bs) (base1:Int)  (sl:Nat→AV) (zq0:sl 0 = .v (.c (.d (.sc (.string (S s0)))))) (zq1:sl 1 = .v (.c (.d (.sc (.int .u64 base1))))):
  bodyD (E0 mm) [.tmp 4,.tmp 5] 0 false (den (E0 mm) 65 0 (callW (E0 mm)) itW c65_31 none ⟨sl,[]⟩) = (j65_31 s0 base1).map e65:=by
 simp -implicitDefEqProofs only [j65_31,c65_31_e,c65_32_e,c65_33_l,zq0,zq1,setA,setB,za,zb,zc,zd,ze,zf,zg,zh,zi,zj,zk,zl,zm,zn,zo,zp,reduceCtorEq,zE,↓reduceIte]
 exact l65_33_t s0 base1
def s65_14 (s0:Bs) (base1 i6:Int):Option ((Bs×Int×Int) ⊕ R65):=
 if (decide (i6 < (s0.length:Int))) = true then
  if 0≤i6∧i6 < (s0.length:Int) then
   (m77 (s0.getD i6.toNat 0) base1).bind fun yr5=>
    if (decide (yr5 < 0)) = true then
     some (.inr ((0:Int),(5:Int)))
    else
     some (.inl (s0,base1,(w64 (i6 + 1))))
  else none
 else
  (j65_31 s0 base1).map .inr
theorem s65_14_t (s0:Bs) (base1 i6:Int):
  stepE (K65_14 (mm:=mm)) (loopF (E0 mm) 65 0 (callW (E0 mm)) itW c65_15 [(0,.keep),(1,.keep),(6,.keep)] (none,[.v (.c (.d (.sc (.string (S s0))))),.v (.c (.d (.sc (.int .u64 base1)))),.v (.c (.d (.sc (.int .i64 i6))))],[])) = (s65_14 s0 base1 i6).map (sm en65_14 e65):=by
 simp -implicitDefEqProofs only [s65_14,loopF_eq,c65_15_e,c65_16_e,c65_17_r,(show opsOf c65_17 = _ :: _ from rfl),Tryz.underlying9,(show c65_18 = Code.cond _ c65_19 c65_20 from rfl),setA,setB,za,zb,zc,zd,ze,zf,zg,zh,zi,zj,zk,zl,zm,zn,zo,zp,reduceCtorEq,zE,↓reduceIte]
 refine brB (fun yc2=>?_) (fun yc2=>?_)
 ·simp -implicitDefEqProofs only [c65_19_e,c65_21_e,c65_22_e,c65_23_e,c65_24_r,(show opsOf c65_24 = _ :: _ from rfl),Tryz.underlying9,yc2,setA,setB,za,zb,zc,zd,ze,zf,zg,zh,zi,zj,zk,zl,zm,zn,zo,zp,reduceCtorEq,zE,↓reduceIte]
  refine brP (fun yc3=>?_) (fun yc3=>?_)
  ·simp -implicitDefEqProofs only [ent77,prm77,f77_t,yc2,yc3,setA,setB,za,zb,zc,zd,ze,zf,zg,zh,zi,zj,zk,zl,zm,zn,zo,zp,reduceCtorEq,zE,↓reduceIte]
   refine brM (fun yc4=>?_) (fun yr5 yc4=>?_)
   ·rw [yc4]; rfl
   ·simp -implicitDefEqProofs only [e77,(show c65_25 = Code.cond _ c65_26 c65_29 from rfl),yc2,yc3,yc4,setA,setB,za,zb,zc,zd,ze,zf,zg,zh,zi,zj,zk,zl,zm,zn,zo,zp,reduceCtorEq,zE,↓reduceIte]
    refine brB (fun yc6=>?_) (fun yc6=>?_)
    ·simp -implicitDefEqProofs only [c65_26_e,c65_27_r,(show opsOf c65_27 = _ :: _ from rfl),c65_28_e,K65_14,yc2,yc3,yc4,yc6,setA,setB,za,zb,zc,zd,ze,zf,zg,zh,zi,zj,zk,zl,zm,zn,zo,zp,reduceCtorEq,zE,↓reduceIte]
     all_goals rfl
    ·simp -implicitDefEqProofs only [c65_29_e,c65_30_r,(show opsOf c65_30 = _ :: _ from rfl),yc2,yc3,yc4,yc6,setA,setB,za,zb,zc,zd,ze,zf,zg,zh,zi,zj,zk,zl,zm,zn,zo,zp,reduceCtorEq,zE,↓reduceIte]
     all_goals rfl
  ·rw [if_neg yc3]; rfl
 ·simp -implicitDefEqProofs only [c65_20_e,K65_14,yc2,setA,setB,za,zb,zc,zd,ze,zf,zg,zh,zi,zj,zk,zl,zm,zn,zo,zp,reduceCtorEq,zE,↓reduceIte]
  exact mi (j65_31_t s0 base1 _ (by rfl) (by rfl))
def l65_14 (s0:Bs) (base1 i6:Int):Option R65:=iter (fun x:(Bs×Int×Int)=>s65_14 x.1 x.2.1 x.2.2) (s0,base1,i6)
theorem l65_14_t (s0:Bs) (base1 i6:Int):bodyD (E0 mm) [.tmp 4,.tmp 5] 0 false (seqD (E0 mm) 65 0 (callW (E0 mm)) itW c65_31 (blockD 0 (itW (loopF (E0 mm) 65 0 (callW (E0 mm)) itW c65_15 [(0,.keep),(1,.keep),(6,.keep)]) (none,[.v (.c (.d (.sc (.string (S s0))))),.v (.c (.d (.sc (.int .u64 base1)))),.v (.c (.d (.sc (.int .i64 i6))))],[])))) = (l65_14 s0 base1 i6).map e65:=
 it_sim (K:=(K65_14 (mm:=mm))) rfl (enc:=en65_14) (fun x=>s65_14_t x.1 x.2.1 x.2.2) (s0,base1,i6)
def m65 (s:Bs) (base:Int):Option R65:=
 if ((s.length:Int) == 0) = true then
  some ((0:Int),(5:Int))
 else
  l65_14 s base (0:Int)
theorem f65_t (s:Bs) (base:Int):
  callW (E0 mm) 65 [.c (.d (.sc (.string (S s)))),.c (.d (.sc (.int .u64 base)))] [] = (m65 s base).map e65:=by
 rw [callW_run (body:=c65_0) (res:=[.tmp 4,.tmp 5]) Tryz.func65 rfl rfl (by kernel_rfl)]
 simp -implicitDefEqProofs only [m65,slots2,c65_0_e,c65_1_r,(show opsOf c65_1 = _ :: _ from rfl),c65_2_e,c65_3_e,c65_4_r,(show opsOf c65_4 = _ :: _ from rfl),Tryz.underlying9,(show c65_5 = Code.cond _ c65_6 c65_9 from rfl),setA,setB,za,zb,zc,zd,ze,zf,zg,zh,zi,zj,zk,zl,zm,zn,zo,zp,reduceCtorEq,zE,↓reduceIte]
 refine brB (fun yc1=>?_) (fun yc1=>?_)
 ·simp -implicitDefEqProofs only [c65_6_e,c65_7_r,(show opsOf c65_7 = _ :: _ from rfl),c65_8_e,yc1,setA,setB,za,zb,zc,zd,ze,zf,zg,zh,zi,zj,zk,zl,zm,zn,zo,zp,reduceCtorEq,zE,↓reduceIte]
  all_goals rfl
 ·simp -implicitDefEqProofs only [c65_9_e,c65_10_e,c65_11_e,c65_12_r,(show opsOf c65_12 = _ :: _ from rfl),c65_13_e,c65_14_l,yc1,setA,setB,za,zb,zc,zd,ze,zf,zg,zh,zi,zj,zk,zl,zm,zn,zo,zp,reduceCtorEq,zE,↓reduceIte]
  exact l65_14_t s base (0:Int)
noncomputable def c42_0:Code:=bodyOf Tryz.f42
def c42_1:=cA c42_0
def c42_2:=cB c42_0
def c42_3:=cA c42_2
def c42_4:=cB c42_2
theorem c42_0_e:c42_0 = .seq c42_1 c42_2:=rfl
theorem c42_1_r:RG (E0 mm) 42 c42_1:=rgN rfl
theorem c42_2_e:c42_2 = .seq c42_3 c42_4:=rfl
theorem c42_3_r:RG (E0 mm) 42 c42_3:=rgN rfl
theorem c42_4_e:c42_4 = .ret:=rfl
abbrev R42:=(Int×Int)
def e42:R42→AV×Heap:=fun x=>(.tup [.c (.d (.sc (.int .u64 x.1))),.c (.d (.sc (.int .i64 x.2)))],[])
def m42 (s:Bs):Option R42:=
 (m65 s (10:Int)).bind fun yr2=>
  some (yr2.1,yr2.2)
theorem f42_t (s:Bs):
  callW (E0 mm) 42 [.c (.d (.sc (.string (S s))))] [] = (m42 s).map e42:=by
 rw [callW_run (body:=c42_0) (res:=[.tmp 2,.tmp 3]) Tryz.func42 rfl rfl (by kernel_rfl)]
 simp -implicitDefEqProofs only [m42,slots1,c42_0_e,c42_1_r,(show opsOf c42_1 = _ :: _ from rfl),c42_2_e,c42_3_r,(show opsOf c42_3 = _ :: _ from rfl),ent65,prm65,f65_t,setA,setB,za,zb,zc,zd,ze,zf,zg,zh,zi,zj,zk,zl,zm,zn,zo,zp,reduceCtorEq,zE,↓reduceIte]
 refine brM (fun yc1=>?_) (fun yr2 yc1=>?_)
 ·rw [yc1]; rfl
 ·simp -implicitDefEqProofs only [e65,c42_4_e,yc1,setA,setB,za,zb,zc,zd,ze,zf,zg,zh,zi,zj,zk,zl,zm,zn,zo,zp,reduceCtorEq,zE,↓reduceIte]
  all_goals rfl
noncomputable def c26_0:Code:=bodyOf Tryz.f26
def c26_1:=cA c26_0
def c26_2:=cB c26_0
def c26_3:=cA c26_2
def c26_4:=cB c26_2
def c26_5:=cA c26_4
def c26_6:=cA c26_5
def c26_7:=cB c26_5
def c26_8:=cA c26_7
def c26_9:=cA c26_8
def c26_10:=cB c26_8
def c26_11:=cB c26_7
def c26_12:=cB c26_4
def c26_13:=cA c26_12
def c26_14:=cB c26_12
def c26_15:=cA c26_14
def c26_16:=cA c26_15
def c26_17:=cB c26_15
def c26_18:=cA c26_17
def c26_19:=cA c26_18
def c26_20:=cB c26_18
def c26_21:=cB c26_17
def c26_22:=cB c26_14
def c26_23:=cA c26_22
def c26_24:=cA c26_23
def c26_25:=cB c26_23
def c26_26:=cA c26_25
def c26_27:=cA c26_26
def c26_28:=cB c26_26
def c26_29:=cB c26_25
def c26_30:=cB c26_22
def c26_31:=cA c26_30
def c26_32:=cB c26_30
theorem c26_0_e:c26_0 = .seq c26_1 c26_2:=rfl
theorem c26_1_r:RG (E0 mm) 26 c26_1:=rgN rfl
theorem c26_2_e:c26_2 = .seq c26_3 c26_4:=rfl
theorem c26_3_r:RG (E0 mm) 26 c26_3:=rgN rfl
theorem c26_4_e:c26_4 = .seq c26_5 c26_12:=rfl
theorem c26_5_e:c26_5 = .seq c26_6 c26_7:=rfl
theorem c26_6_r:RG (E0 mm) 26 c26_6:=rgN rfl
theorem c26_8_e:c26_8 = .seq c26_9 c26_10:=rfl
theorem c26_9_r:RG (E0 mm) 26 c26_9:=rgN rfl
theorem c26_10_e:c26_10 = .ret:=rfl
theorem c26_11_e:c26_11 = .skip:=rfl
theorem c26_12_e:c26_12 = .seq c26_13 c26_14:=rfl
theorem c26_13_r:RG (E0 mm) 26 c26_13:=rgN rfl
theorem c26_14_e:c26_14 = .seq c26_15 c26_22:=rfl
theorem c26_15_e:c26_15 = .seq c26_16 c26_17:=rfl
theorem c26_16_r:RG (E0 mm) 26 c26_16:=rgN rfl
theorem c26_18_e:c26_18 = .seq c26_19 c26_20:=rfl
theorem c26_19_r:RG (E0 mm) 26 c26_19:=rgN rfl
theorem c26_20_e:c26_20 = .ret:=rfl
theorem c26_21_e:c26_21 = .skip:=rfl
theorem c26_22_e:c26_22 = .seq c26_23 c26_30:=rfl
theorem c26_23_e:c26_23 = .seq c26_24 c26_25:=rfl
theorem c26_24_r:RG (E0 mm) 26 c26_24:=rgN rfl
theorem c26_26_e:c26_26 = .seq c26_27 c26_28:=rfl
theorem c26_27_r:RG (E0 mm) 26 c26_27:=rgN rfl
theorem c26_28_e:c26_28 = .ret:=rfl
theorem c26_29_e:c26_29 = .skip:=rfl
theorem c26_30_e:c26_30 = .seq c26_31 c26_32:=rfl
theorem c26_31_r:RG (E0 mm) 26 c26_31:=rgN rfl
theorem c26_32_e:c26_32 = .ret:=rfl
abbrev R26:=(Int)
def e26:R26→AV×Heap:=fun x=>(.v (.c (.d (.sc (.int .u64 x)))),[])
def m26 (r0_0:Int) (r0_1:Bs) (r0_2:Int) (r0_3:Bool) (r0_4:List (Bs×Bs)) (r0_5:Bool) (r0_6:List UInt8):Option R26:=
 (m21 r0_0 r0_1 r0_2 r0_3 r0_4 r0_5 r0_6 ([97,103,101]:Bs)).bind fun yr2=>
  if ((yr2.2.length:Int) == 1) = true then
   if (0:Int) < (yr2.2.length:Int) then
    (m42 (yr2.2.getD 0 default)).bind fun yr7=>
     if (yr7.2 == 3) = true then
      some (2147483648:Int)
     else
      if (yr7.2 == 0) = true then
       (m20 yr7.1 (2147483648:Int)).bind fun yr11=>
        some yr11
      else
       some (0:Int)
   else none
  else
   some (0:Int)
theorem f26_t (r0_0:Int) (r0_1:Bs) (r0_2:Int) (r0_3:Bool) (r0_4:List (Bs×Bs)) (r0_5:Bool) (r0_6:List UInt8):
  callW (E0 mm) 26 [.agg [.d (.sc (.int .i64 r0_0)),.d (.sc (.string (S r0_1))),.d (.sc (.int .i64 r0_2)),.d (.lst r0_3 (enL enSS r0_4)),.d (.lst r0_5 (enL enB r0_6))]] [] = (m26 r0_0 r0_1 r0_2 r0_3 r0_4 r0_5 r0_6).map e26:=by
 rw [callW_run (body:=c26_0) (res:=[.tmp 2]) Tryz.func26 rfl rfl (by kernel_rfl)]
 simp -implicitDefEqProofs only [m26,slots1,c26_0_e,c26_1_r,(show opsOf c26_1 = _ :: _ from rfl),c26_2_e,c26_3_r,(show opsOf c26_3 = _ :: _ from rfl),sz26,ag26,ent21,prm21,(show callW (E0 mm) 21 [.agg [.d (.sc (.int .i64 r0_0)),.d (.sc (.string (S r0_1))),.d (.sc (.int .i64 r0_2)),.d (.lst r0_3 (enL enSS r0_4)),.d (.lst r0_5 (enL enB r0_6))],.c (.d (.sc (.string (S ([97,103,101]:Bs)))))] [] = _ from f21_t r0_0 r0_1 r0_2 r0_3 r0_4 r0_5 r0_6 ([97,103,101]:Bs)),setA,setB,za,zb,zc,zd,ze,zf,zg,zh,zi,zj,zk,zl,zm,zn,zo,zp,reduceCtorEq,zE,↓reduceIte]
 refine brM (fun yc1=>?_) (fun yr2 yc1=>?_)
 ·rw [yc1]; rfl
 ·simp -implicitDefEqProofs only [e21,c26_4_e,c26_5_e,c26_6_r,(show opsOf c26_6 = _ :: _ from rfl),Tryz.underlying40,(show c26_7 = Code.cond _ c26_8 c26_11 from rfl),yc1,setA,setB,za,zb,zc,zd,ze,zf,zg,zh,zi,zj,zk,zl,zm,zn,zo,zp,reduceCtorEq,zE,↓reduceIte]
  refine brB (fun yc3=>?_) (fun yc3=>?_)
  ·simp -implicitDefEqProofs only [c26_11_e,c26_12_e,c26_13_r,(show opsOf c26_13 = _ :: _ from rfl),Tryz.underlying40,sz9,enS_a,yc1,yc3,setA,setB,za,zb,zc,zd,ze,zf,zg,zh,zi,zj,zk,zl,zm,zn,zo,zp,reduceCtorEq,zE,↓reduceIte]
   refine brP (fun yc4=>?_) (fun yc4=>?_)
   ·have yd5:0 < yr2.2.length:=by omega
    simp -implicitDefEqProofs only [(enL_get enS yr2.2 0 yd5),enS_e,sz9,ag9,ent42,prm42,f42_t,yc1,yc3,yc4,yd5,setA,setB,za,zb,zc,zd,ze,zf,zg,zh,zi,zj,zk,zl,zm,zn,zo,zp,reduceCtorEq,zE,↓reduceIte]
    refine brM (fun yc6=>?_) (fun yr7 yc6=>?_)
    ·rw [yc6]; rfl
    ·simp -implicitDefEqProofs only [e42,c26_14_e,c26_15_e,c26_16_r,(show opsOf c26_16 = _ :: _ from rfl),(show c26_17 = Code.cond _ c26_18 c26_21 from rfl),yc1,yc3,yc4,yd5,yc6,setA,setB,za,zb,zc,zd,ze,zf,zg,zh,zi,zj,zk,zl,zm,zn,zo,zp,reduceCtorEq,zE,↓reduceIte]
     refine brB (fun yc8=>?_) (fun yc8=>?_)
     ·simp -implicitDefEqProofs only [c26_18_e,c26_19_r,(show opsOf c26_19 = _ :: _ from rfl),c26_20_e,yc1,yc3,yc4,yd5,yc6,yc8,setA,setB,za,zb,zc,zd,ze,zf,zg,zh,zi,zj,zk,zl,zm,zn,zo,zp,reduceCtorEq,zE,↓reduceIte]
      all_goals rfl
     ·simp -implicitDefEqProofs only [c26_21_e,c26_22_e,c26_23_e,c26_24_r,(show opsOf c26_24 = _ :: _ from rfl),(show c26_25 = Code.cond _ c26_26 c26_29 from rfl),yc1,yc3,yc4,yd5,yc6,yc8,setA,setB,za,zb,zc,zd,ze,zf,zg,zh,zi,zj,zk,zl,zm,zn,zo,zp,reduceCtorEq,zE,↓reduceIte]
      refine brB (fun yc9=>?_) (fun yc9=>?_)
      ·simp -implicitDefEqProofs only [c26_29_e,c26_30_e,c26_31_r,(show opsOf c26_31 = _ :: _ from rfl),ent20,prm20,f20_t,yc1,yc3,yc4,yd5,yc6,yc8,yc9,setA,setB,za,zb,zc,zd,ze,zf,zg,zh,zi,zj,zk,zl,zm,zn,zo,zp,reduceCtorEq,zE,↓reduceIte]
       refine brM (fun yc10=>?_) (fun yr11 yc10=>?_)
       ·rw [yc10]; rfl
       ·simp -implicitDefEqProofs only [e20,c26_32_e,yc1,yc3,yc4,yd5,yc6,yc8,yc9,yc10,setA,setB,za,zb,zc,zd,ze,zf,zg,zh,zi,zj,zk,zl,zm,zn,zo,zp,reduceCtorEq,zE,↓reduceIte]
        all_goals rfl
      ·simp -implicitDefEqProofs only [c26_26_e,c26_27_r,(show opsOf c26_27 = _ :: _ from rfl),c26_28_e,yc1,yc3,yc4,yd5,yc6,yc8,yc9,setA,setB,za,zb,zc,zd,ze,zf,zg,zh,zi,zj,zk,zl,zm,zn,zo,zp,reduceCtorEq,zE,↓reduceIte]
       all_goals rfl
   ·rw [if_neg yc4]; rfl
  ·simp -implicitDefEqProofs only [c26_8_e,c26_9_r,(show opsOf c26_9 = _ :: _ from rfl),c26_10_e,yc1,yc3,setA,setB,za,zb,zc,zd,ze,zf,zg,zh,zi,zj,zk,zl,zm,zn,zo,zp,reduceCtorEq,zE,↓reduceIte]
   all_goals rfl
noncomputable def c10_0:Code:=bodyOf Tryz.f10
def c10_1:=cA c10_0
def c10_2:=cB c10_0
def c10_3:=cA c10_2
def c10_4:=cB c10_2
def c10_5:=cA c10_4
def c10_6:=cB c10_4
def c10_7:=cA c10_6
def c10_8:=cB c10_6
def c10_9:=cA c10_8
def c10_10:=cA c10_9
def c10_11:=cB c10_9
def c10_12:=cA c10_11
def c10_13:=cB c10_11
def c10_14:=cB c10_8
def c10_15:=cA c10_14
def c10_16:=cB c10_14
def c10_17:=cA c10_16
def c10_18:=cA c10_17
def c10_19:=cB c10_17
def c10_20:=cA c10_19
def c10_21:=cB c10_19
def c10_22:=cB c10_16
def c10_23:=cA c10_22
def c10_24:=cB c10_22
theorem c10_0_e:c10_0 = .seq c10_1 c10_2:=rfl
theorem c10_1_r:RG (E0 mm) 10 c10_1:=rgN rfl
theorem c10_2_e:c10_2 = .seq c10_3 c10_4:=rfl
theorem c10_3_r:RG (E0 mm) 10 c10_3:=rgN rfl
theorem c10_4_e:c10_4 = .seq c10_5 c10_6:=rfl
theorem c10_5_r:RG (E0 mm) 10 c10_5:=rgN rfl
theorem c10_6_e:c10_6 = .seq c10_7 c10_8:=rfl
theorem c10_7_r:RG (E0 mm) 10 c10_7:=rgN rfl
theorem c10_8_e:c10_8 = .seq c10_9 c10_14:=rfl
theorem c10_9_e:c10_9 = .seq c10_10 c10_11:=rfl
theorem c10_10_r:RG (E0 mm) 10 c10_10:=rgN rfl
theorem c10_12_r:RG (E0 mm) 10 c10_12:=rgN rfl
theorem c10_13_e:c10_13 = .skip:=rfl
theorem c10_14_e:c10_14 = .seq c10_15 c10_16:=rfl
theorem c10_15_r (m:Nat) (st:St):den (E0 mm) 10 m (callW (E0 mm)) itW c10_15 none st = regD ((runF (E0 mm) (callW (E0 mm)) (opsOf c10_15) (opsOf c10_15) [none,none,some false,none,none,some true,none,some true,none,none,none,none,none] st []).bind (ckF [(5,2),(7,2)])):=den_dF (by kernel_rfl)
theorem c10_16_e:c10_16 = .seq c10_17 c10_22:=rfl
theorem c10_17_e:c10_17 = .seq c10_18 c10_19:=rfl
theorem c10_18_r:RG (E0 mm) 10 c10_18:=rgN rfl
theorem c10_20_r:RG (E0 mm) 10 c10_20:=rgN rfl
theorem c10_21_e:c10_21 = .skip:=rfl
theorem c10_22_e:c10_22 = .seq c10_23 c10_24:=rfl
theorem c10_23_r:RG (E0 mm) 10 c10_23:=rgN rfl
theorem c10_24_e:c10_24 = .ret:=rfl
abbrev R10:=(Int)
def e10:R10→AV×Heap:=fun x=>(.v (.c (.d (.sc (.int .i64 x)))),[])
def j10_22 (now1 most5 first6:Int) (h0_0:Bs) (h0_1 h0_2:Int) (h0_3_0:Bool) (h0_3_1:List (Bs×Bs)) (h0_4:Int) (h0_5:Bs) (h0_6:Int) (h0_7_0:Bool) (h0_7_1:List (Bs×Bs)) (h0_8_0:Bool) (h0_8_1:List UInt8):Option R10:=
 (m22 h0_2 now1).bind fun yr16=>
  (m20 yr16 most5).bind fun yr18=>
   (m20 (wu64 ((wu64 (first6 + yr18)).tdiv 1000)) (2147483648:Int)).bind fun yr20=>
    some (w64 yr20)
theorem j10_22_t (now1 most5 first6:Int) (h0_0:Bs) (h0_1 h0_2:Int) (h0_3_0:Bool) (h0_3_1:List (Bs×Bs)) (h0_4:Int) (h0_5:Bs) (h0_6:Int) (h0_7_0:Bool) (h0_7_1:List (Bs×Bs)) (h0_8_0:Bool) (h0_8_1:List UInt8)  (sl:Nat→AV) (zq1:sl 1 = .v (.c (.d (.sc (.int .u64 now1))))) (zq2:sl 2 = .v (.c (.ptr 0 0))) (zq5:sl 5 = .v (.c (.d (.sc (.int .u64 most5))))) (zq6:sl 6 = .v (.c (.d (.sc (.int .u64 first6))))):
  bodyD (E0 mm) [.tmp 4] 0 false (den (E0 mm) 10 0 (callW (E0 mm)) itW c10_22 none ⟨sl,[.cells [.d (.sc (.string (S h0_0))),.d (.sc (.int .u64 h0_1)),.d (.sc (.int .u64 h0_2)),.d (.lst h0_3_0 (enL enSS h0_3_1)),.d (.sc (.int .i64 h0_4)),.d (.sc (.string (S h0_5))),.d (.sc (.int .i64 h0_6)),.d (.lst h0_7_0 (enL enSS h0_7_1)),.d (.lst h0_8_0 (enL enB h0_8_1))]]⟩) = (j10_22 now1 most5 first6 h0_0 h0_1 h0_2 h0_3_0 h0_3_1 h0_4 h0_5 h0_6 h0_7_0 h0_7_1 h0_8_0 h0_8_1).map e10:=by
 simp -implicitDefEqProofs only [j10_22,c10_22_e,c10_23_r,(show opsOf c10_23 = _ :: _ from rfl),Tryz.underlying28,sz22,ag22,ent22,prm22,f22_t,zq1,zq2,zq5,zq6,setA,setB,za,zb,zc,zd,ze,zf,zg,zh,zi,zj,zk,zl,zm,zn,zo,zp,reduceCtorEq,zE,↓reduceIte]
 refine brM (fun yc15=>?_) (fun yr16 yc15=>?_)
 ·rw [yc15]; rfl
 ·simp -implicitDefEqProofs only [e22,ent20,prm20,f20_t,zq1,zq2,zq5,zq6,yc15,setA,setB,za,zb,zc,zd,ze,zf,zg,zh,zi,zj,zk,zl,zm,zn,zo,zp,reduceCtorEq,zE,↓reduceIte]
  refine brM (fun yc17=>?_) (fun yr18 yc17=>?_)
  ·rw [yc17]; rfl
  ·simp -implicitDefEqProofs only [e20,ent20,prm20,f20_t,zq1,zq2,zq5,zq6,yc15,yc17,setA,setB,za,zb,zc,zd,ze,zf,zg,zh,zi,zj,zk,zl,zm,zn,zo,zp,reduceCtorEq,zE,↓reduceIte]
   refine brM (fun yc19=>?_) (fun yr20 yc19=>?_)
   ·rw [yc19]; rfl
   ·simp -implicitDefEqProofs only [e20,Tryz.underlying22,Tryz.underlying3,c10_24_e,zq1,zq2,zq5,zq6,yc15,yc17,yc19,setA,setB,za,zb,zc,zd,ze,zf,zg,zh,zi,zj,zk,zl,zm,zn,zo,zp,reduceCtorEq,zE,↓reduceIte]
    all_goals rfl
def j10_14 (now1 most5 first6:Int) (h0_0:Bs) (h0_1 h0_2:Int) (h0_3_0:Bool) (h0_3_1:List (Bs×Bs)) (h0_4:Int) (h0_5:Bs) (h0_6:Int) (h0_7_0:Bool) (h0_7_1:List (Bs×Bs)) (h0_8_0:Bool) (h0_8_1:List UInt8):Option R10:=
 (m26 h0_4 h0_5 h0_6 h0_7_0 h0_7_1 h0_8_0 h0_8_1).bind fun yr9=>
  (m22 h0_1 h0_2).bind fun yr11=>
   (m20 yr11 most5).bind fun yr13=>
    if (decide (first6 < (wu64 ((wu64 (1000 * yr9)) + yr13)))) = true then
     j10_22 now1 most5 (wu64 ((wu64 (1000 * yr9)) + yr13)) h0_0 h0_1 h0_2 h0_3_0 h0_3_1 h0_4 h0_5 h0_6 h0_7_0 h0_7_1 h0_8_0 h0_8_1
    else
     j10_22 now1 most5 first6 h0_0 h0_1 h0_2 h0_3_0 h0_3_1 h0_4 h0_5 h0_6 h0_7_0 h0_7_1 h0_8_0 h0_8_1
theorem j10_14_t (now1 most5 first6:Int) (h0_0:Bs) (h0_1 h0_2:Int) (h0_3_0:Bool) (h0_3_1:List (Bs×Bs)) (h0_4:Int) (h0_5:Bs) (h0_6:Int) (h0_7_0:Bool) (h0_7_1:List (Bs×Bs)) (h0_8_0:Bool) (h0_8_1:List UInt8)  (sl:Nat→AV) (zq1:sl 1 = .v (.c (.d (.sc (.int .u64 now1))))) (zq2:sl 2 = .v (.c (.ptr 0 0))) (zq5:sl 5 = .v (.c (.d (.sc (.int .u64 most5))))) (zq6:sl 6 = .v (.c (.d (.sc (.int .u64 first6))))):
  bodyD (E0 mm) [.tmp 4] 0 false (den (E0 mm) 10 0 (callW (E0 mm)) itW c10_14 none ⟨sl,[.cells [.d (.sc (.string (S h0_0))),.d (.sc (.int .u64 h0_1)),.d (.sc (.int .u64 h0_2)),.d (.lst h0_3_0 (enL enSS h0_3_1)),.d (.sc (.int .i64 h0_4)),.d (.sc (.string (S h0_5))),.d (.sc (.int .i64 h0_6)),.d (.lst h0_7_0 (enL enSS h0_7_1)),.d (.lst h0_8_0 (enL enB h0_8_1))]]⟩) = (j10_14 now1 most5 first6 h0_0 h0_1 h0_2 h0_3_0 h0_3_1 h0_4 h0_5 h0_6 h0_7_0 h0_7_1 h0_8_0 h0_8_1).map e10:=by
 simp -implicitDefEqProofs only [j10_14,c10_14_e,c10_15_r,(show opsOf c10_15 = _ :: _ from rfl),Tryz.underlying28,sz26,ag26,ent26,prm26,f26_t,zq1,zq2,zq5,zq6,runF_nil,runF_none,runF_some,runKF_t,runKF_f,runKF_x,stepKF_s,stepKF_x,tlT_c,tlT_n,hdT_c,hdT_n,footT_n,foot_t,readsO,setA,setB,za,zb,zc,zd,ze,zf,zg,zh,zi,zj,zk,zl,zm,zn,zo,zp,reduceCtorEq,zE,↓reduceIte]
 refine brM (fun yc8=>?_) (fun yr9 yc8=>?_)
 ·rw [yc8]; rfl
 ·simp -implicitDefEqProofs only [e26,Tryz.underlying28,sz22,ag22,ent22,prm22,f22_t,zq1,zq2,zq5,zq6,runF_nil,runF_none,runF_some,runKF_t,runKF_f,runKF_x,stepKF_s,stepKF_x,tlT_c,tlT_n,hdT_c,hdT_n,footT_n,foot_t,readsO,yc8,setA,setB,za,zb,zc,zd,ze,zf,zg,zh,zi,zj,zk,zl,zm,zn,zo,zp,reduceCtorEq,zE,↓reduceIte]
  refine brM (fun yc10=>?_) (fun yr11 yc10=>?_)
  ·rw [yc10]; rfl
  ·simp -implicitDefEqProofs only [e22,ent20,prm20,f20_t,zq1,zq2,zq5,zq6,runF_nil,runF_none,runF_some,runKF_t,runKF_f,runKF_x,stepKF_s,stepKF_x,tlT_c,tlT_n,hdT_c,hdT_n,footT_n,foot_t,readsO,yc8,yc10,setA,setB,za,zb,zc,zd,ze,zf,zg,zh,zi,zj,zk,zl,zm,zn,zo,zp,reduceCtorEq,zE,↓reduceIte]
   refine brM (fun yc12=>?_) (fun yr13 yc12=>?_)
   ·rw [yc12]; rfl
   ·simp -implicitDefEqProofs only [e20,ckF,foot_f,pair1,pair0,chgA,eqO,eqOb_cells,eqOb_row,eqOb_siter,eqOb_amapN,eqOb_amapC,eqOb_sm,eqE_S,eqE_SS,eqE_N,eqE_B,eqL,eqC,eqD,eqV,eqV1,eqB_refl,eq_self,decide_true,List.all_nil,List.getD_cons_zero,List.getD_cons_succ,Bool.and_self,c10_16_e,c10_17_e,c10_18_r,(show opsOf c10_18 = _ :: _ from rfl),(show c10_19 = Code.cond _ c10_20 c10_21 from rfl),zq1,zq2,zq5,zq6,runF_nil,runF_none,runF_some,runKF_t,runKF_f,runKF_x,stepKF_s,stepKF_x,tlT_c,tlT_n,hdT_c,hdT_n,footT_n,foot_t,readsO,yc8,yc10,yc12,setA,setB,za,zb,zc,zd,ze,zf,zg,zh,zi,zj,zk,zl,zm,zn,zo,zp,reduceCtorEq,zE,↓reduceIte]
    refine brB (fun yc14=>?_) (fun yc14=>?_)
    ·simp -implicitDefEqProofs only [c10_20_r,(show opsOf c10_20 = _ :: _ from rfl),zq1,zq2,zq5,zq6,runF_nil,runF_none,runF_some,runKF_t,runKF_f,runKF_x,stepKF_s,stepKF_x,tlT_c,tlT_n,hdT_c,hdT_n,footT_n,foot_t,readsO,yc8,yc10,yc12,yc14,setA,setB,za,zb,zc,zd,ze,zf,zg,zh,zi,zj,zk,zl,zm,zn,zo,zp,reduceCtorEq,zE,↓reduceIte]
     exact j10_22_t now1 most5 (wu64 ((wu64 (1000 * yr9)) + yr13)) h0_0 h0_1 h0_2 h0_3_0 h0_3_1 h0_4 h0_5 h0_6 h0_7_0 h0_7_1 h0_8_0 h0_8_1 _ (by exact zq1) (by exact zq2) (by exact zq5) (by rfl)
    ·simp -implicitDefEqProofs only [c10_21_e,zq1,zq2,zq5,zq6,runF_nil,runF_none,runF_some,runKF_t,runKF_f,runKF_x,stepKF_s,stepKF_x,tlT_c,tlT_n,hdT_c,hdT_n,footT_n,foot_t,readsO,yc8,yc10,yc12,yc14,setA,setB,za,zb,zc,zd,ze,zf,zg,zh,zi,zj,zk,zl,zm,zn,zo,zp,reduceCtorEq,zE,↓reduceIte]
     exact j10_22_t now1 most5 first6 h0_0 h0_1 h0_2 h0_3_0 h0_3_1 h0_4 h0_5 h0_6 h0_7_0 h0_7_1 h0_8_0 h0_8_1 _ (by exact zq1) (by exact zq2) (by exact zq5) (by exact zq6)
def m10 (e0_0:Bs) (e0_1 e0_2:Int) (e0_3:Bool) (e0_4:List (Bs×Bs)) (e0_5:Int) (e0_6:Bs) (e0_7:Int) (e0_8:Bool) (e0_9:List (Bs×Bs)) (e0_10:Bool) (e0_11:List UInt8) (now:Int):Option R10:=
 (m5 e0_5 e0_6 e0_7 e0_8 e0_9 e0_10 e0_11).bind fun yr2=>
  if yr2.2 = true then
   (m22 (wu64 (1000 * yr2.1)) e0_2).bind fun yr5=>
    (m20 yr5 (2147483648000:Int)).bind fun yr7=>
     j10_14 now (2147483648000:Int) yr7 e0_0 e0_1 e0_2 e0_3 e0_4 e0_5 e0_6 e0_7 e0_8 e0_9 e0_10 e0_11
  else
   j10_14 now (2147483648000:Int) (0:Int) e0_0 e0_1 e0_2 e0_3 e0_4 e0_5 e0_6 e0_7 e0_8 e0_9 e0_10 e0_11
theorem f10_t (e0_0:Bs) (e0_1 e0_2:Int) (e0_3:Bool) (e0_4:List (Bs×Bs)) (e0_5:Int) (e0_6:Bs) (e0_7:Int) (e0_8:Bool) (e0_9:List (Bs×Bs)) (e0_10:Bool) (e0_11:List UInt8) (now:Int):
  callW (E0 mm) 10 [.agg [.d (.sc (.string (S e0_0))),.d (.sc (.int .u64 e0_1)),.d (.sc (.int .u64 e0_2)),.d (.lst e0_3 (enL enSS e0_4)),.d (.sc (.int .i64 e0_5)),.d (.sc (.string (S e0_6))),.d (.sc (.int .i64 e0_7)),.d (.lst e0_8 (enL enSS e0_9)),.d (.lst e0_10 (enL enB e0_11))],.c (.d (.sc (.int .u64 now)))] [] = (m10 e0_0 e0_1 e0_2 e0_3 e0_4 e0_5 e0_6 e0_7 e0_8 e0_9 e0_10 e0_11 now).map e10:=by
 rw [callW_run (body:=c10_0) (res:=[.tmp 4]) Tryz.func10 rfl rfl (by kernel_rfl)]
 simp -implicitDefEqProofs only [m10,slots2,c10_0_e,c10_1_r,(show opsOf c10_1 = _ :: _ from rfl),c10_2_e,c10_3_r,(show opsOf c10_3 = _ :: _ from rfl),c10_4_e,c10_5_r,(show opsOf c10_5 = _ :: _ from rfl),c10_6_e,c10_7_r,(show opsOf c10_7 = _ :: _ from rfl),Tryz.underlying28,sz26,ag26,ent5,prm5,f5_t,setA,setB,za,zb,zc,zd,ze,zf,zg,zh,zi,zj,zk,zl,zm,zn,zo,zp,reduceCtorEq,zE,↓reduceIte]
 refine brM (fun yc1=>?_) (fun yr2 yc1=>?_)
 ·rw [yc1]; rfl
 ·simp -implicitDefEqProofs only [e5,c10_8_e,c10_9_e,c10_10_r,(show opsOf c10_10 = _ :: _ from rfl),(show c10_11 = Code.cond _ c10_12 c10_13 from rfl),yc1,setA,setB,za,zb,zc,zd,ze,zf,zg,zh,zi,zj,zk,zl,zm,zn,zo,zp,reduceCtorEq,zE,↓reduceIte]
  refine brB (fun yc3=>?_) (fun yc3=>?_)
  ·simp -implicitDefEqProofs only [c10_12_r,(show opsOf c10_12 = _ :: _ from rfl),Tryz.underlying28,sz22,ag22,ent22,prm22,f22_t,yc1,yc3,setA,setB,za,zb,zc,zd,ze,zf,zg,zh,zi,zj,zk,zl,zm,zn,zo,zp,reduceCtorEq,zE,↓reduceIte]
   refine brM (fun yc4=>?_) (fun yr5 yc4=>?_)
   ·rw [yc4]; rfl
   ·simp -implicitDefEqProofs only [e22,ent20,prm20,f20_t,yc1,yc3,yc4,setA,setB,za,zb,zc,zd,ze,zf,zg,zh,zi,zj,zk,zl,zm,zn,zo,zp,reduceCtorEq,zE,↓reduceIte]
    refine brM (fun yc6=>?_) (fun yr7 yc6=>?_)
    ·rw [yc6]; rfl
    ·simp -implicitDefEqProofs only [e20,yc1,yc3,yc4,yc6,setA,setB,za,zb,zc,zd,ze,zf,zg,zh,zi,zj,zk,zl,zm,zn,zo,zp,reduceCtorEq,zE,↓reduceIte]
     exact j10_14_t now (2147483648000:Int) yr7 e0_0 e0_1 e0_2 e0_3 e0_4 e0_5 e0_6 e0_7 e0_8 e0_9 e0_10 e0_11 _ (by rfl) (by rfl) (by rfl) (by rfl)
  ·simp -implicitDefEqProofs only [c10_13_e,yc1,yc3,setA,setB,za,zb,zc,zd,ze,zf,zg,zh,zi,zj,zk,zl,zm,zn,zo,zp,reduceCtorEq,zE,↓reduceIte]
   exact j10_14_t now (2147483648000:Int) (0:Int) e0_0 e0_1 e0_2 e0_3 e0_4 e0_5 e0_6 e0_7 e0_8 e0_9 e0_10 e0_11 _ (by rfl) (by rfl) (by rfl) (by rfl)
noncomputable def c11_0:Code:=bodyOf Tryz.f11
def c11_1:=cA c11_0
def c11_2:=cB c11_0
def c11_3:=cA c11_2
def c11_4:=cB c11_2
def c11_5:=cA c11_4
def c11_6:=cB c11_4
theorem c11_0_e:c11_0 = .seq c11_1 c11_2:=rfl
theorem c11_1_r:RG (E0 mm) 11 c11_1:=rgN rfl
theorem c11_2_e:c11_2 = .seq c11_3 c11_4:=rfl
theorem c11_3_r:RG (E0 mm) 11 c11_3:=rgN rfl
theorem c11_4_e:c11_4 = .seq c11_5 c11_6:=rfl
theorem c11_5_r:RG (E0 mm) 11 c11_5:=rgN rfl
theorem c11_6_e:c11_6 = .ret:=rfl
abbrev R11:=(Bool)
def e11:R11→AV×Heap:=fun x=>(.v (.c (.d (.sc (.bool x)))),[])
def m11 (e0_0:Bs) (e0_1 e0_2:Int) (e0_3:Bool) (e0_4:List (Bs×Bs)) (e0_5:Int) (e0_6:Bs) (e0_7:Int) (e0_8:Bool) (e0_9:List (Bs×Bs)) (e0_10:Bool) (e0_11:List UInt8) (now:Int):Option R11:=
 (m6 e0_5 e0_6 e0_7 e0_8 e0_9 e0_10 e0_11).bind fun yr2=>
  (m9 e0_0 e0_1 e0_2 e0_3 e0_4 e0_5 e0_6 e0_7 e0_8 e0_9 e0_10 e0_11 now).bind fun yr4=>
   some (decide (yr4 < yr2.1))
theorem f11_t (e0_0:Bs) (e0_1 e0_2:Int) (e0_3:Bool) (e0_4:List (Bs×Bs)) (e0_5:Int) (e0_6:Bs) (e0_7:Int) (e0_8:Bool) (e0_9:List (Bs×Bs)) (e0_10:Bool) (e0_11:List UInt8) (now:Int):
  callW (E0 mm) 11 [.agg [.d (.sc (.string (S e0_0))),.d (.sc (.int .u64 e0_1)),.d (.sc (.int .u64 e0_2)),.d (.lst e0_3 (enL enSS e0_4)),.d (.sc (.int .i64 e0_5)),.d (.sc (.string (S e0_6))),.d (.sc (.int .i64 e0_7)),.d (.lst e0_8 (enL enSS e0_9)),.d (.lst e0_10 (enL enB e0_11))],.c (.d (.sc (.int .u64 now)))] [] = (m11 e0_0 e0_1 e0_2 e0_3 e0_4 e0_5 e0_6 e0_7 e0_8 e0_9 e0_10 e0_11 now).map e11:=by
 rw [callW_run (body:=c11_0) (res:=[.tmp 4]) Tryz.func11 rfl rfl (by kernel_rfl)]
 simp -implicitDefEqProofs only [m11,slots2,c11_0_e,c11_1_r,(show opsOf c11_1 = _ :: _ from rfl),c11_2_e,c11_3_r,(show opsOf c11_3 = _ :: _ from rfl),Tryz.underlying28,sz26,ag26,ent6,prm6,f6_t,setA,setB,za,zb,zc,zd,ze,zf,zg,zh,zi,zj,zk,zl,zm,zn,zo,zp,reduceCtorEq,zE,↓reduceIte]
 refine brM (fun yc1=>?_) (fun yr2 yc1=>?_)
 ·rw [yc1]; rfl
 ·simp -implicitDefEqProofs only [e6,c11_4_e,c11_5_r,(show opsOf c11_5 = _ :: _ from rfl),sz28,ag28,ent9,prm9,f9_t,yc1,setA,setB,za,zb,zc,zd,ze,zf,zg,zh,zi,zj,zk,zl,zm,zn,zo,zp,reduceCtorEq,zE,↓reduceIte]
  refine brM (fun yc3=>?_) (fun yr4 yc3=>?_)
  ·rw [yc3]; rfl
  ·simp -implicitDefEqProofs only [e9,c11_6_e,yc1,yc3,setA,setB,za,zb,zc,zd,ze,zf,zg,zh,zi,zj,zk,zl,zm,zn,zo,zp,reduceCtorEq,zE,↓reduceIte]
   all_goals rfl
noncomputable def c12_0:Code:=bodyOf Tryz.f12
def c12_1:=cA c12_0
def c12_2:=cB c12_0
def c12_3:=cA c12_2
def c12_4:=cB c12_2
def c12_5:=cA c12_4
def c12_6:=cB c12_4
theorem c12_0_e:c12_0 = .seq c12_1 c12_2:=rfl
theorem c12_1_r:RG (E0 mm) 12 c12_1:=rgN rfl
theorem c12_2_e:c12_2 = .seq c12_3 c12_4:=rfl
theorem c12_3_r:RG (E0 mm) 12 c12_3:=rgN rfl
theorem c12_4_e:c12_4 = .seq c12_5 c12_6:=rfl
theorem c12_5_r:RG (E0 mm) 12 c12_5:=rgN rfl
theorem c12_6_e:c12_6 = .ret:=rfl
abbrev R12:=(Bool)
def e12:R12→AV×Heap:=fun x=>(.v (.c (.d (.sc (.bool x)))),[])
def m12 (e0_0:Bs) (e0_1 e0_2:Int) (e0_3:Bool) (e0_4:List (Bs×Bs)) (e0_5:Int) (e0_6:Bs) (e0_7:Int) (e0_8:Bool) (e0_9:List (Bs×Bs)) (e0_10:Bool) (e0_11:List UInt8) (now:Int):Option R12:=
 (m7 e0_5 e0_6 e0_7 e0_8 e0_9 e0_10 e0_11).bind fun yr2=>
  (m10 e0_0 e0_1 e0_2 e0_3 e0_4 e0_5 e0_6 e0_7 e0_8 e0_9 e0_10 e0_11 now).bind fun yr4=>
   some (decide (yr4 < yr2.1))
theorem f12_t (e0_0:Bs) (e0_1 e0_2:Int) (e0_3:Bool) (e0_4:List (Bs×Bs)) (e0_5:Int) (e0_6:Bs) (e0_7:Int) (e0_8:Bool) (e0_9:List (Bs×Bs)) (e0_10:Bool) (e0_11:List UInt8) (now:Int):
  callW (E0 mm) 12 [.agg [.d (.sc (.string (S e0_0))),.d (.sc (.int .u64 e0_1)),.d (.sc (.int .u64 e0_2)),.d (.lst e0_3 (enL enSS e0_4)),.d (.sc (.int .i64 e0_5)),.d (.sc (.string (S e0_6))),.d (.sc (.int .i64 e0_7)),.d (.lst e0_8 (enL enSS e0_9)),.d (.lst e0_10 (enL enB e0_11))],.c (.d (.sc (.int .u64 now)))] [] = (m12 e0_0 e0_1 e0_2 e0_3 e0_4 e0_5 e0_6 e0_7 e0_8 e0_9 e0_10 e0_11 now).map e12:=by
 rw [callW_run (body:=c12_0) (res:=[.tmp 4]) Tryz.func12 rfl rfl (by kernel_rfl)]
 simp -implicitDefEqProofs only [m12,slots2,c12_0_e,c12_1_r,(show opsOf c12_1 = _ :: _ from rfl),c12_2_e,c12_3_r,(show opsOf c12_3 = _ :: _ from rfl),Tryz.underlying28,sz26,ag26,ent7,prm7,f7_t,setA,setB,za,zb,zc,zd,ze,zf,zg,zh,zi,zj,zk,zl,zm,zn,zo,zp,reduceCtorEq,zE,↓reduceIte]
 refine brM (fun yc1=>?_) (fun yr2 yc1=>?_)
 ·rw [yc1]; rfl
 ·simp -implicitDefEqProofs only [e7,c12_4_e,c12_5_r,(show opsOf c12_5 = _ :: _ from rfl),sz28,ag28,ent10,prm10,f10_t,yc1,setA,setB,za,zb,zc,zd,ze,zf,zg,zh,zi,zj,zk,zl,zm,zn,zo,zp,reduceCtorEq,zE,↓reduceIte]
  refine brM (fun yc3=>?_) (fun yr4 yc3=>?_)
  ·rw [yc3]; rfl
  ·simp -implicitDefEqProofs only [e10,c12_6_e,yc1,yc3,setA,setB,za,zb,zc,zd,ze,zf,zg,zh,zi,zj,zk,zl,zm,zn,zo,zp,reduceCtorEq,zE,↓reduceIte]
   all_goals rfl
noncomputable def c3_0:Code:=bodyOf Tryz.f3
def c3_1:=cA c3_0
def c3_2:=cB c3_0
def c3_3:=cA c3_2
def c3_4:=cB c3_2
def c3_5:=cA c3_4
def c3_6:=cB c3_4
def c3_7:=cA c3_6
def c3_8:=cB c3_6
def c3_9:=cA c3_8
def c3_10:=cB c3_8
def c3_11:=cA c3_10
def c3_12:=cB c3_10
theorem c3_0_e:c3_0 = .seq c3_1 c3_2:=rfl
theorem c3_1_r:RG (E0 mm) 3 c3_1:=rgN rfl
theorem c3_2_e:c3_2 = .seq c3_3 c3_4:=rfl
theorem c3_3_r:RG (E0 mm) 3 c3_3:=rgN rfl
theorem c3_4_e:c3_4 = .seq c3_5 c3_6:=rfl
theorem c3_5_r:RG (E0 mm) 3 c3_5:=rgN rfl
theorem c3_6_e:c3_6 = .seq c3_7 c3_8:=rfl
theorem c3_7_r:RG (E0 mm) 3 c3_7:=rgN rfl
theorem c3_8_e:c3_8 = .seq c3_9 c3_10:=rfl
theorem c3_9_r:RG (E0 mm) 3 c3_9:=rgN rfl
theorem c3_10_e:c3_10 = .seq c3_11 c3_12:=rfl
theorem c3_11_r (m:Nat) (st:St):den (E0 mm) 3 m (callW (E0 mm)) itW c3_11 none st = regD ((runF (E0 mm) (callW (E0 mm)) (opsOf c3_11) (opsOf c3_11) [none,none,none,none,none,none,none,none,none,none,none,none,none,none,none,none,none,none,none,none,none,none,none,none,some false,some true,none,none,none,none,none,none,none,some false,some true,none,none,none,none,none] st []).bind (ckF [(25,24),(34,33)])):=den_dF (by kernel_rfl)
theorem c3_12_e:c3_12 = .ret:=rfl
abbrev R3:=(Bool)
def e3:R3→AV×Heap:=fun x=>(.v (.c (.d (.sc (.bool x)))),[])
def m3 (e0_0:Bs) (e0_1 e0_2:Int) (e0_3:Bool) (e0_4:List (Bs×Bs)) (e0_5:Int) (e0_6:Bs) (e0_7:Int) (e0_8:Bool) (e0_9:List (Bs×Bs)) (e0_10:Bool) (e0_11:List UInt8) (now:Int):Option R3:=
 (m4 e0_5 e0_6 e0_7 e0_8 e0_9 e0_10 e0_11).bind fun yr2=>
  (m5 e0_5 e0_6 e0_7 e0_8 e0_9 e0_10 e0_11).bind fun yr4=>
   (m6 e0_5 e0_6 e0_7 e0_8 e0_9 e0_10 e0_11).bind fun yr6=>
    (m7 e0_5 e0_6 e0_7 e0_8 e0_9 e0_10 e0_11).bind fun yr8=>
     if (yr2.1 == yr4.1) = true then
      if (yr2.2 == yr4.2) = true then
       if (yr6.1 == yr8.1) = true then
        if (yr6.2 == yr8.2) = true then
         (m9 e0_0 e0_1 e0_2 e0_3 e0_4 e0_5 e0_6 e0_7 e0_8 e0_9 e0_10 e0_11 now).bind fun yr14=>
          (m10 e0_0 e0_1 e0_2 e0_3 e0_4 e0_5 e0_6 e0_7 e0_8 e0_9 e0_10 e0_11 now).bind fun yr16=>
           if (yr14 == yr16) = true then
            (m11 e0_0 e0_1 e0_2 e0_3 e0_4 e0_5 e0_6 e0_7 e0_8 e0_9 e0_10 e0_11 now).bind fun yr19=>
             (m12 e0_0 e0_1 e0_2 e0_3 e0_4 e0_5 e0_6 e0_7 e0_8 e0_9 e0_10 e0_11 now).bind fun yr21=>
              some (yr19 == yr21)
           else
            some false
        else
         some false
       else
        some false
      else
       some false
     else
      some false
theorem f3_t (e0_0:Bs) (e0_1 e0_2:Int) (e0_3:Bool) (e0_4:List (Bs×Bs)) (e0_5:Int) (e0_6:Bs) (e0_7:Int) (e0_8:Bool) (e0_9:List (Bs×Bs)) (e0_10:Bool) (e0_11:List UInt8) (now:Int):
  callW (E0 mm) 3 [.agg [.d (.sc (.string (S e0_0))),.d (.sc (.int .u64 e0_1)),.d (.sc (.int .u64 e0_2)),.d (.lst e0_3 (enL enSS e0_4)),.d (.sc (.int .i64 e0_5)),.d (.sc (.string (S e0_6))),.d (.sc (.int .i64 e0_7)),.d (.lst e0_8 (enL enSS e0_9)),.d (.lst e0_10 (enL enB e0_11))],.c (.d (.sc (.int .u64 now)))] [] = (m3 e0_0 e0_1 e0_2 e0_3 e0_4 e0_5 e0_6 e0_7 e0_8 e0_9 e0_10 e0_11 now).map e3:=by
 rw [callW_run (body:=c3_0) (res:=[.tmp 4]) Tryz.func3 rfl rfl (by kernel_rfl)]
 simp -implicitDefEqProofs only [m3,slots2,c3_0_e,c3_1_r,(show opsOf c3_1 = _ :: _ from rfl),c3_2_e,c3_3_r,(show opsOf c3_3 = _ :: _ from rfl),Tryz.underlying28,sz26,ag26,ent4,prm4,f4_t,setA,setB,za,zb,zc,zd,ze,zf,zg,zh,zi,zj,zk,zl,zm,zn,zo,zp,reduceCtorEq,zE,↓reduceIte]
 refine brM (fun yc1=>?_) (fun yr2 yc1=>?_)
 ·rw [yc1]; rfl
 ·simp -implicitDefEqProofs only [e4,c3_4_e,c3_5_r,(show opsOf c3_5 = _ :: _ from rfl),Tryz.underlying28,sz26,ag26,ent5,prm5,f5_t,yc1,setA,setB,za,zb,zc,zd,ze,zf,zg,zh,zi,zj,zk,zl,zm,zn,zo,zp,reduceCtorEq,zE,↓reduceIte]
  refine brM (fun yc3=>?_) (fun yr4 yc3=>?_)
  ·rw [yc3]; rfl
  ·simp -implicitDefEqProofs only [e5,c3_6_e,c3_7_r,(show opsOf c3_7 = _ :: _ from rfl),Tryz.underlying28,sz26,ag26,ent6,prm6,f6_t,yc1,yc3,setA,setB,za,zb,zc,zd,ze,zf,zg,zh,zi,zj,zk,zl,zm,zn,zo,zp,reduceCtorEq,zE,↓reduceIte]
   refine brM (fun yc5=>?_) (fun yr6 yc5=>?_)
   ·rw [yc5]; rfl
   ·simp -implicitDefEqProofs only [e6,c3_8_e,c3_9_r,(show opsOf c3_9 = _ :: _ from rfl),Tryz.underlying28,sz26,ag26,ent7,prm7,f7_t,yc1,yc3,yc5,setA,setB,za,zb,zc,zd,ze,zf,zg,zh,zi,zj,zk,zl,zm,zn,zo,zp,reduceCtorEq,zE,↓reduceIte]
    refine brM (fun yc7=>?_) (fun yr8 yc7=>?_)
    ·rw [yc7]; rfl
    ·simp -implicitDefEqProofs only [e7,c3_10_e,c3_11_r,(show opsOf c3_11 = _ :: _ from rfl),ent8,prm8,f8_t,yc1,yc3,yc5,yc7,runF_nil,runF_none,runF_some,runKF_t,runKF_f,runKF_x,stepKF_s,stepKF_x,tlT_c,tlT_n,hdT_c,hdT_n,footT_n,foot_t,readsO,setA,setB,za,zb,zc,zd,ze,zf,zg,zh,zi,zj,zk,zl,zm,zn,zo,zp,reduceCtorEq,zE,↓reduceIte]
     refine brB (fun yc9=>?_) (fun yc9=>?_)
     ·simp -implicitDefEqProofs only [Tryz.underlying4,yc1,yc3,yc5,yc7,runF_nil,runF_none,runF_some,runKF_t,runKF_f,runKF_x,stepKF_s,stepKF_x,tlT_c,tlT_n,hdT_c,hdT_n,footT_n,foot_t,readsO,yc9,setA,setB,za,zb,zc,zd,ze,zf,zg,zh,zi,zj,zk,zl,zm,zn,zo,zp,reduceCtorEq,zE,↓reduceIte]
      refine brB (fun yc10=>?_) (fun yc10=>?_)
      ·simp -implicitDefEqProofs only [yc1,yc3,yc5,yc7,runF_nil,runF_none,runF_some,runKF_t,runKF_f,runKF_x,stepKF_s,stepKF_x,tlT_c,tlT_n,hdT_c,hdT_n,footT_n,foot_t,readsO,yc9,yc10,setA,setB,za,zb,zc,zd,ze,zf,zg,zh,zi,zj,zk,zl,zm,zn,zo,zp,reduceCtorEq,zE,↓reduceIte]
       refine brB (fun yc11=>?_) (fun yc11=>?_)
       ·simp -implicitDefEqProofs only [Tryz.underlying4,yc1,yc3,yc5,yc7,runF_nil,runF_none,runF_some,runKF_t,runKF_f,runKF_x,stepKF_s,stepKF_x,tlT_c,tlT_n,hdT_c,hdT_n,footT_n,foot_t,readsO,yc9,yc10,yc11,setA,setB,za,zb,zc,zd,ze,zf,zg,zh,zi,zj,zk,zl,zm,zn,zo,zp,reduceCtorEq,zE,↓reduceIte]
        refine brB (fun yc12=>?_) (fun yc12=>?_)
        ·simp -implicitDefEqProofs only [sz28,ag28,ent9,prm9,f9_t,yc1,yc3,yc5,yc7,runF_nil,runF_none,runF_some,runKF_t,runKF_f,runKF_x,stepKF_s,stepKF_x,tlT_c,tlT_n,hdT_c,hdT_n,footT_n,foot_t,readsO,yc9,yc10,yc11,yc12,setA,setB,za,zb,zc,zd,ze,zf,zg,zh,zi,zj,zk,zl,zm,zn,zo,zp,reduceCtorEq,zE,↓reduceIte]
         refine brM (fun yc13=>?_) (fun yr14 yc13=>?_)
         ·rw [yc13]; rfl
         ·simp -implicitDefEqProofs only [e9,sz28,ag28,ent10,prm10,f10_t,yc1,yc3,yc5,yc7,runF_nil,runF_none,runF_some,runKF_t,runKF_f,runKF_x,stepKF_s,stepKF_x,tlT_c,tlT_n,hdT_c,hdT_n,footT_n,foot_t,readsO,yc9,yc10,yc11,yc12,yc13,setA,setB,za,zb,zc,zd,ze,zf,zg,zh,zi,zj,zk,zl,zm,zn,zo,zp,reduceCtorEq,zE,↓reduceIte]
          refine brM (fun yc15=>?_) (fun yr16 yc15=>?_)
          ·rw [yc15]; rfl
          ·simp -implicitDefEqProofs only [e10,yc1,yc3,yc5,yc7,runF_nil,runF_none,runF_some,runKF_t,runKF_f,runKF_x,stepKF_s,stepKF_x,tlT_c,tlT_n,hdT_c,hdT_n,footT_n,foot_t,readsO,yc9,yc10,yc11,yc12,yc13,yc15,setA,setB,za,zb,zc,zd,ze,zf,zg,zh,zi,zj,zk,zl,zm,zn,zo,zp,reduceCtorEq,zE,↓reduceIte]
           refine brB (fun yc17=>?_) (fun yc17=>?_)
           ·simp -implicitDefEqProofs only [sz28,ag28,ent11,prm11,f11_t,yc1,yc3,yc5,yc7,runF_nil,runF_none,runF_some,runKF_t,runKF_f,runKF_x,stepKF_s,stepKF_x,tlT_c,tlT_n,hdT_c,hdT_n,footT_n,foot_t,readsO,yc9,yc10,yc11,yc12,yc13,yc15,yc17,setA,setB,za,zb,zc,zd,ze,zf,zg,zh,zi,zj,zk,zl,zm,zn,zo,zp,reduceCtorEq,zE,↓reduceIte]
            refine brM (fun yc18=>?_) (fun yr19 yc18=>?_)
            ·rw [yc18]; rfl
            ·simp -implicitDefEqProofs only [e11,sz28,ag28,ent12,prm12,f12_t,yc1,yc3,yc5,yc7,runF_nil,runF_none,runF_some,runKF_t,runKF_f,runKF_x,stepKF_s,stepKF_x,tlT_c,tlT_n,hdT_c,hdT_n,footT_n,foot_t,readsO,yc9,yc10,yc11,yc12,yc13,yc15,yc17,yc18,setA,setB,za,zb,zc,zd,ze,zf,zg,zh,zi,zj,zk,zl,zm,zn,zo,zp,reduceCtorEq,zE,↓reduceIte]
             refine brM (fun yc20=>?_) (fun yr21 yc20=>?_)
             ·rw [yc20]; rfl
             ·simp -implicitDefEqProofs only [e12,Tryz.underlying4,ckF,foot_f,pair1,pair0,chgA,eqO,eqOb_cells,eqOb_row,eqOb_siter,eqOb_amapN,eqOb_amapC,eqOb_sm,eqE_S,eqE_SS,eqE_N,eqE_B,eqL,eqC,eqD,eqV,eqV1,eqB_refl,eq_self,decide_true,List.all_nil,List.getD_cons_zero,List.getD_cons_succ,Bool.and_self,c3_12_e,yc1,yc3,yc5,yc7,runF_nil,runF_none,runF_some,runKF_t,runKF_f,runKF_x,stepKF_s,stepKF_x,tlT_c,tlT_n,hdT_c,hdT_n,footT_n,foot_t,readsO,yc9,yc10,yc11,yc12,yc13,yc15,yc17,yc18,yc20,setA,setB,za,zb,zc,zd,ze,zf,zg,zh,zi,zj,zk,zl,zm,zn,zo,zp,reduceCtorEq,zE,↓reduceIte]
              all_goals rfl
           ·simp -implicitDefEqProofs only [ckF,foot_f,pair1,pair0,chgA,eqO,eqOb_cells,eqOb_row,eqOb_siter,eqOb_amapN,eqOb_amapC,eqOb_sm,eqE_S,eqE_SS,eqE_N,eqE_B,eqL,eqC,eqD,eqV,eqV1,eqB_refl,eq_self,decide_true,List.all_nil,List.getD_cons_zero,List.getD_cons_succ,Bool.and_self,c3_12_e,yc1,yc3,yc5,yc7,runF_nil,runF_none,runF_some,runKF_t,runKF_f,runKF_x,stepKF_s,stepKF_x,tlT_c,tlT_n,hdT_c,hdT_n,footT_n,foot_t,readsO,yc9,yc10,yc11,yc12,yc13,yc15,yc17,setA,setB,za,zb,zc,zd,ze,zf,zg,zh,zi,zj,zk,zl,zm,zn,zo,zp,reduceCtorEq,zE,↓reduceIte]
            all_goals rfl
        ·simp -implicitDefEqProofs only [ckF,foot_f,pair1,pair0,chgA,eqO,eqOb_cells,eqOb_row,eqOb_siter,eqOb_amapN,eqOb_amapC,eqOb_sm,eqE_S,eqE_SS,eqE_N,eqE_B,eqL,eqC,eqD,eqV,eqV1,eqB_refl,eq_self,decide_true,List.all_nil,List.getD_cons_zero,List.getD_cons_succ,Bool.and_self,c3_12_e,yc1,yc3,yc5,yc7,runF_nil,runF_none,runF_some,runKF_t,runKF_f,runKF_x,stepKF_s,stepKF_x,tlT_c,tlT_n,hdT_c,hdT_n,footT_n,foot_t,readsO,yc9,yc10,yc11,yc12,setA,setB,za,zb,zc,zd,ze,zf,zg,zh,zi,zj,zk,zl,zm,zn,zo,zp,reduceCtorEq,zE,↓reduceIte]
         all_goals rfl
       ·simp -implicitDefEqProofs only [ckF,foot_f,pair1,pair0,chgA,eqO,eqOb_cells,eqOb_row,eqOb_siter,eqOb_amapN,eqOb_amapC,eqOb_sm,eqE_S,eqE_SS,eqE_N,eqE_B,eqL,eqC,eqD,eqV,eqV1,eqB_refl,eq_self,decide_true,List.all_nil,List.getD_cons_zero,List.getD_cons_succ,Bool.and_self,c3_12_e,yc1,yc3,yc5,yc7,runF_nil,runF_none,runF_some,runKF_t,runKF_f,runKF_x,stepKF_s,stepKF_x,tlT_c,tlT_n,hdT_c,hdT_n,footT_n,foot_t,readsO,yc9,yc10,yc11,setA,setB,za,zb,zc,zd,ze,zf,zg,zh,zi,zj,zk,zl,zm,zn,zo,zp,reduceCtorEq,zE,↓reduceIte]
        all_goals rfl
      ·simp -implicitDefEqProofs only [ckF,foot_f,pair1,pair0,chgA,eqO,eqOb_cells,eqOb_row,eqOb_siter,eqOb_amapN,eqOb_amapC,eqOb_sm,eqE_S,eqE_SS,eqE_N,eqE_B,eqL,eqC,eqD,eqV,eqV1,eqB_refl,eq_self,decide_true,List.all_nil,List.getD_cons_zero,List.getD_cons_succ,Bool.and_self,c3_12_e,yc1,yc3,yc5,yc7,runF_nil,runF_none,runF_some,runKF_t,runKF_f,runKF_x,stepKF_s,stepKF_x,tlT_c,tlT_n,hdT_c,hdT_n,footT_n,foot_t,readsO,yc9,yc10,setA,setB,za,zb,zc,zd,ze,zf,zg,zh,zi,zj,zk,zl,zm,zn,zo,zp,reduceCtorEq,zE,↓reduceIte]
       all_goals rfl
     ·simp -implicitDefEqProofs only [ckF,foot_f,pair1,pair0,chgA,eqO,eqOb_cells,eqOb_row,eqOb_siter,eqOb_amapN,eqOb_amapC,eqOb_sm,eqE_S,eqE_SS,eqE_N,eqE_B,eqL,eqC,eqD,eqV,eqV1,eqB_refl,eq_self,decide_true,List.all_nil,List.getD_cons_zero,List.getD_cons_succ,Bool.and_self,c3_12_e,yc1,yc3,yc5,yc7,runF_nil,runF_none,runF_some,runKF_t,runKF_f,runKF_x,stepKF_s,stepKF_x,tlT_c,tlT_n,hdT_c,hdT_n,footT_n,foot_t,readsO,yc9,setA,setB,za,zb,zc,zd,ze,zf,zg,zh,zi,zj,zk,zl,zm,zn,zo,zp,reduceCtorEq,zE,↓reduceIte]
      all_goals rfl
end
end Go.Proofs.YteajgnaeklbpeaaGreatDoor
