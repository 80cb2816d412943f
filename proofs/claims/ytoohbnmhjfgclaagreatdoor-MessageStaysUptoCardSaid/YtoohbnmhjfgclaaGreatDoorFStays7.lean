/- The Go functions as plain functions, and that the evaluator computes them. -/
import Derived.Test.YtoohbnmhjfgclaaGreatDoorFStays6
set_option linter.all false
set_option maxRecDepth 100000
namespace Go.Proofs.YtoohbnmhjfgclaaGreatDoor
open Go Go.Ab
open Nat renaming reduceEqDiff→za,reduceAdd→zb,reduceLeDiff→zc,reduceLT→zd,reduceMul→ze,reduceBEq→zf,reduceSub→zg,reducePow→zh
open Int renaming reduceEq→zi,reduceLE→zj,reduceLT→zk,reduceToNat→zl,reduceNegSucc→zm,reduceAdd→zn,reduceBEq→zo
open String renaming reduceBEq→zp
set_option maxHeartbeats 4000000
noncomputable section
variable {mm:Int}
noncomputable def c27_0:Code:=bodyOf Tryz.f27
def c27_1:=cA c27_0
def c27_2:=cB c27_0
def c27_3:=cA c27_2
def c27_4:=cA c27_3
def c27_5:=cB c27_3
def c27_6:=cA c27_5
def c27_7:=cA c27_6
def c27_8:=cB c27_6
def c27_9:=cA c27_8
def c27_10:=cA c27_9
def c27_11:=cA c27_10
def c27_12:=cB c27_10
def c27_13:=cA c27_12
def c27_14:=cA c27_13
def c27_15:=cB c27_13
def c27_16:=cB c27_12
def c27_17:=cB c27_9
def c27_18:=cA c27_17
def c27_19:=cB c27_17
def c27_20:=cB c27_8
def c27_21:=cA c27_20
def c27_22:=cB c27_20
def c27_23:=cA c27_22
def c27_24:=cA c27_23
def c27_25:=cB c27_23
def c27_26:=cB c27_22
def c27_27:=cA c27_26
def c27_28:=cB c27_26
def c27_29:=cA c27_28
def c27_30:=cA c27_29
def c27_31:=cA c27_30
def c27_32:=cA c27_31
def c27_33:=cB c27_31
def c27_34:=cA c27_33
def c27_35:=cA c27_34
def c27_36:=cB c27_34
def c27_37:=cB c27_33
def c27_38:=cA c27_37
def c27_39:=cB c27_37
def c27_40:=cA c27_39
def c27_41:=cA c27_40
def c27_42:=cB c27_40
def c27_43:=cB c27_39
def c27_44:=cB c27_29
def c27_45:=cA c27_44
def c27_46:=cB c27_44
def c27_47:=cB c27_28
def c27_48:=cB c27_2
def c27_49:=cA c27_48
def c27_50:=cB c27_48
theorem c27_0_e:c27_0 = .seq c27_1 c27_2:=rfl
theorem c27_1_r:RG (E0 mm) 27 c27_1:=rgN rfl
theorem c27_2_e:c27_2 = .seq c27_3 c27_48:=rfl
theorem c27_3_e:c27_3 = .seq c27_4 c27_5:=rfl
theorem c27_4_r:RG (E0 mm) 27 c27_4:=rgN rfl
theorem c27_5_e:c27_5 = .block 0 c27_6:=rfl
theorem c27_6_e:c27_6 = .seq c27_7 c27_8:=rfl
theorem c27_7_r:RG (E0 mm) 27 c27_7:=rgN rfl
theorem c27_9_e:c27_9 = .seq c27_10 c27_17:=rfl
theorem c27_10_e:c27_10 = .seq c27_11 c27_12:=rfl
theorem c27_11_r:RG (E0 mm) 27 c27_11:=rgN rfl
theorem c27_13_e:c27_13 = .seq c27_14 c27_15:=rfl
theorem c27_14_r:RG (E0 mm) 27 c27_14:=rgN rfl
theorem c27_15_e:c27_15 = .ret:=rfl
theorem c27_16_e:c27_16 = .skip:=rfl
theorem c27_17_e:c27_17 = .seq c27_18 c27_19:=rfl
theorem c27_18_r:RG (E0 mm) 27 c27_18:=rgN rfl
theorem c27_19_e:c27_19 = .ret:=rfl
theorem c27_20_e:c27_20 = .seq c27_21 c27_22:=rfl
theorem c27_21_r:RG (E0 mm) 27 c27_21:=rgN rfl
theorem c27_23_e:c27_23 = .seq c27_24 c27_25:=rfl
theorem c27_24_r:RG (E0 mm) 27 c27_24:=rgN rfl
theorem c27_25_e:c27_25 = .ret:=rfl
theorem c27_26_e:c27_26 = .seq c27_27 c27_28:=rfl
theorem c27_27_r:RG (E0 mm) 27 c27_27:=rgN rfl
theorem c27_29_e:c27_29 = .seq c27_30 c27_44:=rfl
theorem c27_30_e:c27_30 = .block 1 c27_31:=rfl
theorem c27_31_e:c27_31 = .seq c27_32 c27_33:=rfl
theorem c27_32_r:RG (E0 mm) 27 c27_32:=rgN rfl
theorem c27_34_e:c27_34 = .seq c27_35 c27_36:=rfl
theorem c27_35_r:RG (E0 mm) 27 c27_35:=rgN rfl
theorem c27_36_e:c27_36 = .ret:=rfl
theorem c27_37_e:c27_37 = .seq c27_38 c27_39:=rfl
theorem c27_38_r:RG (E0 mm) 27 c27_38:=rgN rfl
theorem c27_40_e:c27_40 = .seq c27_41 c27_42:=rfl
theorem c27_41_r:RG (E0 mm) 27 c27_41:=rgN rfl
theorem c27_42_e:c27_42 = .ret:=rfl
theorem c27_43_e:c27_43 = .skip:=rfl
theorem c27_44_e:c27_44 = .seq c27_45 c27_46:=rfl
theorem c27_45_r:RG (E0 mm) 27 c27_45:=rgN rfl
theorem c27_46_e:c27_46 = .ret:=rfl
theorem c27_47_e:c27_47 = .skip:=rfl
theorem c27_48_e:c27_48 = .seq c27_49 c27_50:=rfl
theorem c27_49_r:RG (E0 mm) 27 c27_49:=rgN rfl
theorem c27_50_e:c27_50 = .ret:=rfl
abbrev R27:=(Bool×List UInt8×Int×Int)
def e27:R27→AV×Heap:=fun x=>(.tup [.c (.d (.lst x.1 (enL enB x.2.1))),.c (.d (.sc (.int .i64 x.2.2.1))),.c (.d (.sc (.int .i64 x.2.2.2)))],[])
def m27 (b_0:Bool) (b_1:List UInt8) (kind n:Int) (ended:Bool):Option R27:=
 if (kind == 1) = true then
  if (decide ((wu64 (b_1.length:Int)) < n)) = true then
   some (true,([]:List UInt8),(0:Int),(8:Int))
  else
   (bnd n b_1.length).bind fun yk4=>
    (m52 b_0 (b_1.take yk4)).bind fun yr6=>
     match yr6 with
     | .inl yr7=>
      some (yr7.1,yr7.2,(w64 n),(0:Int))
     | .inr yr8=>
      some (yr8.1,yr8.2,(w64 n),(0:Int))
 else
  if (kind == 2) = true then
   (m53 b_0 b_1).bind fun yr11=>
    some (yr11.1,yr11.2.1,yr11.2.2.1,yr11.2.2.2)
  else
   if (kind == 3) = true then
    if (decide (4096 < (b_1.length:Int))) = true then
     some (true,([]:List UInt8),(0:Int),(21:Int))
    else
     if ended = true then
      (m52 b_0 b_1).bind fun yr16=>
       match yr16 with
       | .inl yr17=>
        some (yr17.1,yr17.2,(b_1.length:Int),(0:Int))
       | .inr yr18=>
        some (yr18.1,yr18.2,(b_1.length:Int),(0:Int))
     else
      some (true,([]:List UInt8),(0:Int),(8:Int))
   else
    some (true,([]:List UInt8),(0:Int),(0:Int))
theorem f27_t (b_0:Bool) (b_1:List UInt8) (kind n:Int) (ended:Bool):
  callW (E0 mm) 27 [.c (.d (.lst b_0 (enL enB b_1))),.c (.d (.sc (.int .i64 kind))),.c (.d (.sc (.int .u64 n))),.c (.d (.sc (.bool ended)))] [] = (m27 b_0 b_1 kind n ended).map e27:=by
 rw [callW_run (body:=c27_0) (res:=[.tmp 8,.tmp 9,.tmp 10]) Tryz.func27 rfl rfl (by kernel_rfl)]
 simp -implicitDefEqProofs only [m27,slots4,c27_0_e,c27_1_r,(show opsOf c27_1 = _ :: _ from rfl),c27_2_e,c27_3_e,c27_4_r,(show opsOf c27_4 = _ :: _ from rfl),c27_5_e,c27_6_e,c27_7_r,(show opsOf c27_7 = _ :: _ from rfl),(show c27_8 = Code.cond _ c27_9 c27_20 from rfl),setA,setB,za,zb,zc,zd,ze,zf,zg,zh,zi,zj,zk,zl,zm,zn,zo,zp,reduceCtorEq,zE,↓reduceIte]
 refine brB (fun yc1=>?_) (fun yc1=>?_)
 ·simp -implicitDefEqProofs only [c27_9_e,c27_10_e,c27_11_r,(show opsOf c27_11 = _ :: _ from rfl),Tryz.underlying22,Tryz.underlying3,Tryz.underlying64,(show c27_12 = Code.cond _ c27_13 c27_16 from rfl),yc1,setA,setB,za,zb,zc,zd,ze,zf,zg,zh,zi,zj,zk,zl,zm,zn,zo,zp,reduceCtorEq,zE,↓reduceIte]
  refine brB (fun yc2=>?_) (fun yc2=>?_)
  ·simp -implicitDefEqProofs only [c27_13_e,c27_14_r,(show opsOf c27_14 = _ :: _ from rfl),c27_15_e,yc1,yc2,setA,setB,za,zb,zc,zd,ze,zf,zg,zh,zi,zj,zk,zl,zm,zn,zo,zp,reduceCtorEq,zE,↓reduceIte]
   all_goals rfl
  ·simp -implicitDefEqProofs only [c27_16_e,c27_17_e,c27_18_r,(show opsOf c27_18 = _ :: _ from rfl),Tryz.underlying22,enB_a,sz5,yc1,yc2,setA,setB,za,zb,zc,zd,ze,zf,zg,zh,zi,zj,zk,zl,zm,zn,zo,zp,reduceCtorEq,zE,↓reduceIte]
   refine brM (fun yc3=>?_) (fun yk4 yc3=>?_)
   ·rw [yc3]; rfl
   ·simp -implicitDefEqProofs only [Option.isNone_some,Bool.false_and,Bool.and_false,Bool.false_eq_true,if_false,ent52,prm52,f52_t,yc1,yc2,yc3,setA,setB,za,zb,zc,zd,ze,zf,zg,zh,zi,zj,zk,zl,zm,zn,zo,zp,reduceCtorEq,zE,↓reduceIte]
    refine brM (fun yc5=>?_) (fun yr6 yc5=>?_)
    ·rw [yc5]; rfl
    ·rcases yr6 with yr7 | yr8
     ·simp -implicitDefEqProofs only [e52,plainC_t,Tryz.underlying64,Tryz.underlying3,c27_19_e,yc1,yc2,yc3,yc5,setA,setB,za,zb,zc,zd,ze,zf,zg,zh,zi,zj,zk,zl,zm,zn,zo,zp,reduceCtorEq,zE,↓reduceIte]
      all_goals rfl
     ·simp -implicitDefEqProofs only [e52,plainC_t,Tryz.underlying64,Tryz.underlying3,c27_19_e,yc1,yc2,yc3,yc5,setA,setB,za,zb,zc,zd,ze,zf,zg,zh,zi,zj,zk,zl,zm,zn,zo,zp,reduceCtorEq,zE,↓reduceIte]
      all_goals rfl
 ·simp -implicitDefEqProofs only [c27_20_e,c27_21_r,(show opsOf c27_21 = _ :: _ from rfl),(show c27_22 = Code.cond _ c27_23 c27_26 from rfl),yc1,setA,setB,za,zb,zc,zd,ze,zf,zg,zh,zi,zj,zk,zl,zm,zn,zo,zp,reduceCtorEq,zE,↓reduceIte]
  refine brB (fun yc9=>?_) (fun yc9=>?_)
  ·simp -implicitDefEqProofs only [c27_23_e,c27_24_r,(show opsOf c27_24 = _ :: _ from rfl),ent53,prm53,f53_t,yc1,yc9,setA,setB,za,zb,zc,zd,ze,zf,zg,zh,zi,zj,zk,zl,zm,zn,zo,zp,reduceCtorEq,zE,↓reduceIte]
   refine brM (fun yc10=>?_) (fun yr11 yc10=>?_)
   ·rw [yc10]; rfl
   ·simp -implicitDefEqProofs only [e53,plainC_t,c27_25_e,yc1,yc9,yc10,setA,setB,za,zb,zc,zd,ze,zf,zg,zh,zi,zj,zk,zl,zm,zn,zo,zp,reduceCtorEq,zE,↓reduceIte]
    all_goals rfl
  ·simp -implicitDefEqProofs only [c27_26_e,c27_27_r,(show opsOf c27_27 = _ :: _ from rfl),(show c27_28 = Code.cond _ c27_29 c27_47 from rfl),yc1,yc9,setA,setB,za,zb,zc,zd,ze,zf,zg,zh,zi,zj,zk,zl,zm,zn,zo,zp,reduceCtorEq,zE,↓reduceIte]
   refine brB (fun yc12=>?_) (fun yc12=>?_)
   ·simp -implicitDefEqProofs only [c27_29_e,c27_30_e,c27_31_e,c27_32_r,(show opsOf c27_32 = _ :: _ from rfl),Tryz.underlying22,(show c27_33 = Code.cond _ c27_34 c27_37 from rfl),yc1,yc9,yc12,setA,setB,za,zb,zc,zd,ze,zf,zg,zh,zi,zj,zk,zl,zm,zn,zo,zp,reduceCtorEq,zE,↓reduceIte]
    refine brB (fun yc13=>?_) (fun yc13=>?_)
    ·simp -implicitDefEqProofs only [c27_34_e,c27_35_r,(show opsOf c27_35 = _ :: _ from rfl),c27_36_e,yc1,yc9,yc12,yc13,setA,setB,za,zb,zc,zd,ze,zf,zg,zh,zi,zj,zk,zl,zm,zn,zo,zp,reduceCtorEq,zE,↓reduceIte]
     all_goals rfl
    ·simp -implicitDefEqProofs only [c27_37_e,c27_38_r,(show opsOf c27_38 = _ :: _ from rfl),(show c27_39 = Code.cond _ c27_40 c27_43 from rfl),yc1,yc9,yc12,yc13,setA,setB,za,zb,zc,zd,ze,zf,zg,zh,zi,zj,zk,zl,zm,zn,zo,zp,reduceCtorEq,zE,↓reduceIte]
     refine brB (fun yc14=>?_) (fun yc14=>?_)
     ·simp -implicitDefEqProofs only [c27_43_e,c27_44_e,c27_45_r,(show opsOf c27_45 = _ :: _ from rfl),ent52,prm52,f52_t,yc1,yc9,yc12,yc13,yc14,setA,setB,za,zb,zc,zd,ze,zf,zg,zh,zi,zj,zk,zl,zm,zn,zo,zp,reduceCtorEq,zE,↓reduceIte]
      refine brM (fun yc15=>?_) (fun yr16 yc15=>?_)
      ·rw [yc15]; rfl
      ·rcases yr16 with yr17 | yr18
       ·simp -implicitDefEqProofs only [e52,plainC_t,Tryz.underlying22,c27_46_e,yc1,yc9,yc12,yc13,yc14,yc15,setA,setB,za,zb,zc,zd,ze,zf,zg,zh,zi,zj,zk,zl,zm,zn,zo,zp,reduceCtorEq,zE,↓reduceIte]
        all_goals rfl
       ·simp -implicitDefEqProofs only [e52,plainC_t,Tryz.underlying22,c27_46_e,yc1,yc9,yc12,yc13,yc14,yc15,setA,setB,za,zb,zc,zd,ze,zf,zg,zh,zi,zj,zk,zl,zm,zn,zo,zp,reduceCtorEq,zE,↓reduceIte]
        all_goals rfl
     ·simp -implicitDefEqProofs only [c27_40_e,c27_41_r,(show opsOf c27_41 = _ :: _ from rfl),c27_42_e,yc1,yc9,yc12,yc13,yc14,setA,setB,za,zb,zc,zd,ze,zf,zg,zh,zi,zj,zk,zl,zm,zn,zo,zp,reduceCtorEq,zE,↓reduceIte]
      all_goals rfl
   ·simp -implicitDefEqProofs only [c27_47_e,c27_48_e,c27_49_r,(show opsOf c27_49 = _ :: _ from rfl),c27_50_e,yc1,yc9,yc12,setA,setB,za,zb,zc,zd,ze,zf,zg,zh,zi,zj,zk,zl,zm,zn,zo,zp,reduceCtorEq,zE,↓reduceIte]
    all_goals rfl
noncomputable def c9_0:Code:=bodyOf Tryz.f9
def c9_1:=cA c9_0
def c9_2:=cB c9_0
def c9_3:=cA c9_2
def c9_4:=cB c9_2
def c9_5:=cA c9_4
def c9_6:=cA c9_5
def c9_7:=cB c9_5
def c9_8:=cA c9_7
def c9_9:=cA c9_8
def c9_10:=cB c9_8
def c9_11:=cB c9_7
def c9_12:=cB c9_4
def c9_13:=cA c9_12
def c9_14:=cB c9_12
def c9_15:=cA c9_14
def c9_16:=cA c9_15
def c9_17:=cB c9_15
def c9_18:=cA c9_17
def c9_19:=cA c9_18
def c9_20:=cB c9_18
def c9_21:=cB c9_17
def c9_22:=cB c9_14
def c9_23:=cA c9_22
def c9_24:=cB c9_22
def c9_25:=cA c9_24
def c9_26:=cA c9_25
def c9_27:=cB c9_25
def c9_28:=cA c9_27
def c9_29:=cA c9_28
def c9_30:=cB c9_28
def c9_31:=cB c9_27
def c9_32:=cB c9_24
def c9_33:=cA c9_32
def c9_34:=cB c9_32
def c9_35:=cA c9_34
def c9_36:=cB c9_34
theorem c9_0_e:c9_0 = .seq c9_1 c9_2:=rfl
theorem c9_1_r:RG (E0 mm) 9 c9_1:=rgN rfl
theorem c9_2_e:c9_2 = .seq c9_3 c9_4:=rfl
theorem c9_3_r:RG (E0 mm) 9 c9_3:=rgN rfl
theorem c9_4_e:c9_4 = .seq c9_5 c9_12:=rfl
theorem c9_5_e:c9_5 = .seq c9_6 c9_7:=rfl
theorem c9_6_r:RG (E0 mm) 9 c9_6:=rgN rfl
theorem c9_8_e:c9_8 = .seq c9_9 c9_10:=rfl
theorem c9_9_r:RG (E0 mm) 9 c9_9:=rgN rfl
theorem c9_10_e:c9_10 = .ret:=rfl
theorem c9_11_e:c9_11 = .skip:=rfl
theorem c9_12_e:c9_12 = .seq c9_13 c9_14:=rfl
theorem c9_13_r:RG (E0 mm) 9 c9_13:=rgN rfl
theorem c9_14_e:c9_14 = .seq c9_15 c9_22:=rfl
theorem c9_15_e:c9_15 = .seq c9_16 c9_17:=rfl
theorem c9_16_r:RG (E0 mm) 9 c9_16:=rgN rfl
theorem c9_18_e:c9_18 = .seq c9_19 c9_20:=rfl
theorem c9_19_r:RG (E0 mm) 9 c9_19:=rgN rfl
theorem c9_20_e:c9_20 = .ret:=rfl
theorem c9_21_e:c9_21 = .skip:=rfl
theorem c9_22_e:c9_22 = .seq c9_23 c9_24:=rfl
theorem c9_23_r:RG (E0 mm) 9 c9_23:=rgN rfl
theorem c9_24_e:c9_24 = .seq c9_25 c9_32:=rfl
theorem c9_25_e:c9_25 = .seq c9_26 c9_27:=rfl
theorem c9_26_r:RG (E0 mm) 9 c9_26:=rgN rfl
theorem c9_28_e:c9_28 = .seq c9_29 c9_30:=rfl
theorem c9_29_r:RG (E0 mm) 9 c9_29:=rgN rfl
theorem c9_30_e:c9_30 = .ret:=rfl
theorem c9_31_e:c9_31 = .skip:=rfl
theorem c9_32_e:c9_32 = .seq c9_33 c9_34:=rfl
theorem c9_33_r:RG (E0 mm) 9 c9_33:=rgN rfl
theorem c9_34_e:c9_34 = .seq c9_35 c9_36:=rfl
theorem c9_35_r:RG (E0 mm) 9 c9_35:=rgN rfl
theorem c9_36_e:c9_36 = .ret:=rfl
abbrev R9:=(Bs×Bs×Int×Bool×List (Bs×Bs)×Bool×List UInt8×Int×Int)
def e9:R9→AV×Heap:=fun x=>(.tup [.agg [.d (.sc (.string (S x.1))),.d (.sc (.string (S x.2.1))),.d (.sc (.int .i64 x.2.2.1)),.d (.lst x.2.2.2.1 (enL enSS x.2.2.2.2.1)),.d (.lst x.2.2.2.2.2.1 (enL enB x.2.2.2.2.2.2.1))],.c (.d (.sc (.int .i64 x.2.2.2.2.2.2.2.1))),.c (.d (.sc (.int .i64 x.2.2.2.2.2.2.2.2)))],[])
def m9 (b_0:Bool) (b_1:List UInt8):Option R9:=
 (m23 b_0 b_1).bind fun yr2=>
  if (yr2.2.2.2.2.2.2.2.2.2.2 == 0) = true then
   (m26 yr2.2.2.1 yr2.2.2.2.2.2.2.2.1 yr2.2.2.2.2.2.2.2.2.1).bind fun yr5=>
    if (yr5.2.2 == 0) = true then
     (bnd yr2.2.2.2.2.2.2.2.2.2.1 b_1.length).bind fun yk8=>
      (m27 b_0 (b_1.drop yk8) yr5.1 yr5.2.1 false).bind fun yr10=>
       if (yr10.2.2.2 == 0) = true then
        some (yr2.1,yr2.2.1,yr2.2.2.1,yr2.2.2.2.2.2.2.2.1,yr2.2.2.2.2.2.2.2.2.1,yr10.1,yr10.2.1,(w64 (yr2.2.2.2.2.2.2.2.2.2.1 + yr10.2.2.1)),(0:Int))
       else
        some (([]:Bs),([]:Bs),(0:Int),true,([]:List (Bs×Bs)),true,([]:List UInt8),(0:Int),yr10.2.2.2)
    else
     some (([]:Bs),([]:Bs),(0:Int),true,([]:List (Bs×Bs)),true,([]:List UInt8),(0:Int),yr5.2.2)
  else
   some (([]:Bs),([]:Bs),(0:Int),true,([]:List (Bs×Bs)),true,([]:List UInt8),(0:Int),yr2.2.2.2.2.2.2.2.2.2.2)
theorem f9_t (b_0:Bool) (b_1:List UInt8):
  callW (E0 mm) 9 [.c (.d (.lst b_0 (enL enB b_1)))] [] = (m9 b_0 b_1).map e9:=by
 rw [callW_run (body:=c9_0) (res:=[.cell 2 25,.tmp 3,.tmp 4]) Tryz.func9 rfl rfl (by kernel_rfl)]
 simp -implicitDefEqProofs only [m9,slots1,c9_0_e,c9_1_r,(show opsOf c9_1 = _ :: _ from rfl),zc25,ao5,c9_2_e,c9_3_r,(show opsOf c9_3 = _ :: _ from rfl),ent23,prm23,f23_t,setA,setB,za,zb,zc,zd,ze,zf,zg,zh,zi,zj,zk,zl,zm,zn,zo,zp,reduceCtorEq,zE,↓reduceIte]
 refine brM (fun yc1=>?_) (fun yr2 yc1=>?_)
 ·rw [yc1]; rfl
 ·simp -implicitDefEqProofs only [e23,zc25,ao8,sz25,c9_4_e,c9_5_e,c9_6_r,(show opsOf c9_6 = _ :: _ from rfl),(show c9_7 = Code.cond _ c9_8 c9_11 from rfl),yc1,setA,setB,za,zb,zc,zd,ze,zf,zg,zh,zi,zj,zk,zl,zm,zn,zo,zp,reduceCtorEq,zE,↓reduceIte]
  refine brB (fun yc3=>?_) (fun yc3=>?_)
  ·simp -implicitDefEqProofs only [c9_11_e,c9_12_e,c9_13_r,(show opsOf c9_13 = _ :: _ from rfl),Tryz.underlying25,sz3,ag3,ent26,prm26,f26_t,yc1,yc3,setA,setB,za,zb,zc,zd,ze,zf,zg,zh,zi,zj,zk,zl,zm,zn,zo,zp,reduceCtorEq,zE,↓reduceIte]
   refine brM (fun yc4=>?_) (fun yr5 yc4=>?_)
   ·rw [yc4]; rfl
   ·simp -implicitDefEqProofs only [e26,c9_14_e,c9_15_e,c9_16_r,(show opsOf c9_16 = _ :: _ from rfl),(show c9_17 = Code.cond _ c9_18 c9_21 from rfl),yc1,yc3,yc4,setA,setB,za,zb,zc,zd,ze,zf,zg,zh,zi,zj,zk,zl,zm,zn,zo,zp,reduceCtorEq,zE,↓reduceIte]
    refine brB (fun yc6=>?_) (fun yc6=>?_)
    ·simp -implicitDefEqProofs only [c9_21_e,c9_22_e,c9_23_r,(show opsOf c9_23 = _ :: _ from rfl),Tryz.underlying22,enB_a,sz5,yc1,yc3,yc4,yc6,setA,setB,za,zb,zc,zd,ze,zf,zg,zh,zi,zj,zk,zl,zm,zn,zo,zp,reduceCtorEq,zE,↓reduceIte]
     refine brM (fun yc7=>?_) (fun yk8 yc7=>?_)
     ·rw [yc7]; rfl
     ·simp -implicitDefEqProofs only [Option.isNone_some,Bool.false_and,Bool.and_false,Bool.false_eq_true,if_false,ent27,prm27,(show callW (E0 mm) 27 [.c (.d (.lst b_0 (enL enB (b_1.drop yk8)))),.c (.d (.sc (.int .i64 yr5.1))),.c (.d (.sc (.int .u64 yr5.2.1))),.c (.d (.sc (.bool false)))] [] = _ from f27_t b_0 (b_1.drop yk8) yr5.1 yr5.2.1 false),yc1,yc3,yc4,yc6,yc7,setA,setB,za,zb,zc,zd,ze,zf,zg,zh,zi,zj,zk,zl,zm,zn,zo,zp,reduceCtorEq,zE,↓reduceIte]
      refine brM (fun yc9=>?_) (fun yr10 yc9=>?_)
      ·rw [yc9]; rfl
      ·simp -implicitDefEqProofs only [e27,c9_24_e,c9_25_e,c9_26_r,(show opsOf c9_26 = _ :: _ from rfl),(show c9_27 = Code.cond _ c9_28 c9_31 from rfl),yc1,yc3,yc4,yc6,yc7,yc9,setA,setB,za,zb,zc,zd,ze,zf,zg,zh,zi,zj,zk,zl,zm,zn,zo,zp,reduceCtorEq,zE,↓reduceIte]
       refine brB (fun yc11=>?_) (fun yc11=>?_)
       ·simp -implicitDefEqProofs only [c9_31_e,c9_32_e,c9_33_r,(show opsOf c9_33 = _ :: _ from rfl),Tryz.underlying25,sz23,sz22,c9_34_e,c9_35_r,(show opsOf c9_35 = _ :: _ from rfl),sz25,ag25,c9_36_e,yc1,yc3,yc4,yc6,yc7,yc9,yc11,setA,setB,za,zb,zc,zd,ze,zf,zg,zh,zi,zj,zk,zl,zm,zn,zo,zp,reduceCtorEq,zE,↓reduceIte]
        all_goals rfl
       ·simp -implicitDefEqProofs only [c9_28_e,c9_29_r,(show opsOf c9_29 = _ :: _ from rfl),Tryz.underlying25,zc25,sz9,sz3,sz23,sz22,sz25,c9_30_e,ag25,yc1,yc3,yc4,yc6,yc7,yc9,yc11,setA,setB,za,zb,zc,zd,ze,zf,zg,zh,zi,zj,zk,zl,zm,zn,zo,zp,reduceCtorEq,zE,↓reduceIte]
        all_goals rfl
    ·simp -implicitDefEqProofs only [c9_18_e,c9_19_r,(show opsOf c9_19 = _ :: _ from rfl),Tryz.underlying25,zc25,sz9,sz3,sz23,sz22,sz25,c9_20_e,ag25,yc1,yc3,yc4,yc6,setA,setB,za,zb,zc,zd,ze,zf,zg,zh,zi,zj,zk,zl,zm,zn,zo,zp,reduceCtorEq,zE,↓reduceIte]
     all_goals rfl
  ·simp -implicitDefEqProofs only [c9_8_e,c9_9_r,(show opsOf c9_9 = _ :: _ from rfl),Tryz.underlying25,zc25,sz9,sz3,sz23,sz22,sz25,c9_10_e,ag25,yc1,yc3,setA,setB,za,zb,zc,zd,ze,zf,zg,zh,zi,zj,zk,zl,zm,zn,zo,zp,reduceCtorEq,zE,↓reduceIte]
   all_goals rfl
noncomputable def c43_0:Code:=bodyOf Tryz.f43
def c43_1:=cA c43_0
def c43_2:=cB c43_0
def c43_3:=cA c43_2
def c43_4:=cB c43_2
def c43_5:=cA c43_4
def c43_6:=cA c43_5
def c43_7:=cB c43_5
def c43_8:=cA c43_7
def c43_9:=cA c43_8
def c43_10:=cB c43_8
def c43_11:=cB c43_7
def c43_12:=cB c43_4
def c43_13:=cA c43_12
def c43_14:=cB c43_12
theorem c43_0_e:c43_0 = .seq c43_1 c43_2:=rfl
theorem c43_1_r:RG (E0 mm) 43 c43_1:=rgN rfl
theorem c43_2_e:c43_2 = .seq c43_3 c43_4:=rfl
theorem c43_3_r:RG (E0 mm) 43 c43_3:=rgN rfl
theorem c43_4_e:c43_4 = .seq c43_5 c43_12:=rfl
theorem c43_5_e:c43_5 = .seq c43_6 c43_7:=rfl
theorem c43_6_r:RG (E0 mm) 43 c43_6:=rgN rfl
theorem c43_8_e:c43_8 = .seq c43_9 c43_10:=rfl
theorem c43_9_r:RG (E0 mm) 43 c43_9:=rgN rfl
theorem c43_10_e:c43_10 = .ret:=rfl
theorem c43_11_e:c43_11 = .skip:=rfl
theorem c43_12_e:c43_12 = .seq c43_13 c43_14:=rfl
theorem c43_13_r:RG (E0 mm) 43 c43_13:=rgN rfl
theorem c43_14_e:c43_14 = .ret:=rfl
abbrev R43:=(Bs×Int)
def e43:R43→AV×Heap:=fun x=>(.tup [.c (.d (.sc (.string (S x.1)))),.c (.d (.sc (.int .i64 x.2)))],[])
def j43_7 (line8:Bs) (t41:Bool):Option R43:=
 if t41 = true then
  some (([]:Bs),(1:Int))
 else
  some (line8,(0:Int))
theorem j43_7_t (line8:Bs) (t41:Bool)  (sl:Nat→AV) (zq8:sl 8 = .v (.c (.d (.sc (.string (S line8)))))) (zq41:sl 41 = .v (.c (.d (.sc (.bool t41))))):
  bodyD (E0 mm) [.tmp 6,.tmp 7] 0 false (seqD (E0 mm) 43 0 (callW (E0 mm)) itW c43_12 (den (E0 mm) 43 0 (callW (E0 mm)) itW c43_7 none ⟨sl,[]⟩)) = (j43_7 line8 t41).map e43:=by
 simp -implicitDefEqProofs only [j43_7,(show c43_7 = Code.cond _ c43_8 c43_11 from rfl),zq8,zq41,setA,setB,za,zb,zc,zd,ze,zf,zg,zh,zi,zj,zk,zl,zm,zn,zo,zp,reduceCtorEq,zE,↓reduceIte]
 refine brB (fun yc10=>?_) (fun yc10=>?_)
 ·simp -implicitDefEqProofs only [c43_8_e,c43_9_r,(show opsOf c43_9 = _ :: _ from rfl),c43_10_e,zq8,zq41,yc10,setA,setB,za,zb,zc,zd,ze,zf,zg,zh,zi,zj,zk,zl,zm,zn,zo,zp,reduceCtorEq,zE,↓reduceIte]
  all_goals rfl
 ·simp -implicitDefEqProofs only [c43_11_e,c43_12_e,c43_13_r,(show opsOf c43_13 = _ :: _ from rfl),c43_14_e,zq8,zq41,yc10,setA,setB,za,zb,zc,zd,ze,zf,zg,zh,zi,zj,zk,zl,zm,zn,zo,zp,reduceCtorEq,zE,↓reduceIte]
  all_goals rfl
def m43 (minor status:Int) (reason:Bs):Option R43:=
 (m65 minor).bind fun yr2=>
  if yr2.length + 1 < 9223372036854775808 then
   (mItoa status).bind fun yr5=>
    if (yr2 ++ ([32]:Bs)).length + yr5.length < 9223372036854775808 then
     if ((yr2 ++ ([32]:Bs)) ++ yr5).length + 1 < 9223372036854775808 then
      if (((yr2 ++ ([32]:Bs)) ++ yr5) ++ ([32]:Bs)).length + reason.length < 9223372036854775808 then
       if (decide (minor < 0)) = true then
        j43_7 ((((yr2 ++ ([32]:Bs)) ++ yr5) ++ ([32]:Bs)) ++ reason) true
       else
        if (decide (1 < minor)) = true then
         j43_7 ((((yr2 ++ ([32]:Bs)) ++ yr5) ++ ([32]:Bs)) ++ reason) true
        else
         if (decide (status < 100)) = true then
          j43_7 ((((yr2 ++ ([32]:Bs)) ++ yr5) ++ ([32]:Bs)) ++ reason) true
         else
          if (decide (599 < status)) = true then
           j43_7 ((((yr2 ++ ([32]:Bs)) ++ yr5) ++ ([32]:Bs)) ++ reason) true
          else
           (m75 reason).bind fun yr15=>
            if yr15 = true then
             j43_7 ((((yr2 ++ ([32]:Bs)) ++ yr5) ++ ([32]:Bs)) ++ reason) (decide (512 < (((((yr2 ++ ([32]:Bs)) ++ yr5) ++ ([32]:Bs)) ++ reason).length:Int)))
            else
             j43_7 ((((yr2 ++ ([32]:Bs)) ++ yr5) ++ ([32]:Bs)) ++ reason) true
      else none
     else none
    else none
  else none
theorem f43_t (minor status:Int) (reason:Bs):
  callW (E0 mm) 43 [.c (.d (.sc (.int .i64 minor))),.c (.d (.sc (.int .i64 status))),.c (.d (.sc (.string (S reason))))] [] = (m43 minor status reason).map e43:=by
 rw [callW_run (body:=c43_0) (res:=[.tmp 6,.tmp 7]) Tryz.func43 rfl rfl (by kernel_rfl)]
 simp -implicitDefEqProofs only [m43,slots3,c43_0_e,c43_1_r,(show opsOf c43_1 = _ :: _ from rfl),c43_2_e,c43_3_r,(show opsOf c43_3 = _ :: _ from rfl),ent65,prm65,f65_t,setA,setB,za,zb,zc,zd,ze,zf,zg,zh,zi,zj,zk,zl,zm,zn,zo,zp,reduceCtorEq,zE,↓reduceIte]
 refine brM (fun yc1=>?_) (fun yr2 yc1=>?_)
 ·rw [yc1]; rfl
 ·simp -implicitDefEqProofs only [e65,yc1,setA,setB,za,zb,zc,zd,ze,zf,zg,zh,zi,zj,zk,zl,zm,zn,zo,zp,reduceCtorEq,zE,↓reduceIte]
  refine brP (fun yc3=>?_) (fun yc3=>?_)
  ·simp -implicitDefEqProofs only [ent74,prm74,pItoa_t,yc1,yc3,setA,setB,za,zb,zc,zd,ze,zf,zg,zh,zi,zj,zk,zl,zm,zn,zo,zp,reduceCtorEq,zE,↓reduceIte]
   refine brM (fun yc4=>?_) (fun yr5 yc4=>?_)
   ·rw [yc4]; rfl
   ·simp -implicitDefEqProofs only [pItoa_t,yc1,yc3,yc4,setA,setB,za,zb,zc,zd,ze,zf,zg,zh,zi,zj,zk,zl,zm,zn,zo,zp,reduceCtorEq,zE,↓reduceIte]
    refine brP (fun yc6=>?_) (fun yc6=>?_)
    ·simp -implicitDefEqProofs only [yc1,yc3,yc4,yc6,setA,setB,za,zb,zc,zd,ze,zf,zg,zh,zi,zj,zk,zl,zm,zn,zo,zp,reduceCtorEq,zE,↓reduceIte]
     refine brP (fun yc7=>?_) (fun yc7=>?_)
     ·simp -implicitDefEqProofs only [yc1,yc3,yc4,yc6,yc7,setA,setB,za,zb,zc,zd,ze,zf,zg,zh,zi,zj,zk,zl,zm,zn,zo,zp,reduceCtorEq,zE,↓reduceIte]
      refine brP (fun yc8=>?_) (fun yc8=>?_)
      ·simp -implicitDefEqProofs only [c43_4_e,c43_5_e,c43_6_r,(show opsOf c43_6 = _ :: _ from rfl),yc1,yc3,yc4,yc6,yc7,yc8,setA,setB,za,zb,zc,zd,ze,zf,zg,zh,zi,zj,zk,zl,zm,zn,zo,zp,reduceCtorEq,zE,↓reduceIte]
       refine brB (fun yc9=>?_) (fun yc9=>?_)
       ·simp -implicitDefEqProofs only [yc1,yc3,yc4,yc6,yc7,yc8,yc9,setA,setB,za,zb,zc,zd,ze,zf,zg,zh,zi,zj,zk,zl,zm,zn,zo,zp,reduceCtorEq,zE,↓reduceIte]
        exact j43_7_t ((((yr2 ++ ([32]:Bs)) ++ yr5) ++ ([32]:Bs)) ++ reason) true _ (by rfl) (by rfl)
       ·simp -implicitDefEqProofs only [yc1,yc3,yc4,yc6,yc7,yc8,yc9,setA,setB,za,zb,zc,zd,ze,zf,zg,zh,zi,zj,zk,zl,zm,zn,zo,zp,reduceCtorEq,zE,↓reduceIte]
        refine brB (fun yc11=>?_) (fun yc11=>?_)
        ·simp -implicitDefEqProofs only [yc1,yc3,yc4,yc6,yc7,yc8,yc9,yc11,setA,setB,za,zb,zc,zd,ze,zf,zg,zh,zi,zj,zk,zl,zm,zn,zo,zp,reduceCtorEq,zE,↓reduceIte]
         exact j43_7_t ((((yr2 ++ ([32]:Bs)) ++ yr5) ++ ([32]:Bs)) ++ reason) true _ (by rfl) (by rfl)
        ·simp -implicitDefEqProofs only [yc1,yc3,yc4,yc6,yc7,yc8,yc9,yc11,setA,setB,za,zb,zc,zd,ze,zf,zg,zh,zi,zj,zk,zl,zm,zn,zo,zp,reduceCtorEq,zE,↓reduceIte]
         refine brB (fun yc12=>?_) (fun yc12=>?_)
         ·simp -implicitDefEqProofs only [yc1,yc3,yc4,yc6,yc7,yc8,yc9,yc11,yc12,setA,setB,za,zb,zc,zd,ze,zf,zg,zh,zi,zj,zk,zl,zm,zn,zo,zp,reduceCtorEq,zE,↓reduceIte]
          exact j43_7_t ((((yr2 ++ ([32]:Bs)) ++ yr5) ++ ([32]:Bs)) ++ reason) true _ (by rfl) (by rfl)
         ·simp -implicitDefEqProofs only [yc1,yc3,yc4,yc6,yc7,yc8,yc9,yc11,yc12,setA,setB,za,zb,zc,zd,ze,zf,zg,zh,zi,zj,zk,zl,zm,zn,zo,zp,reduceCtorEq,zE,↓reduceIte]
          refine brB (fun yc13=>?_) (fun yc13=>?_)
          ·simp -implicitDefEqProofs only [yc1,yc3,yc4,yc6,yc7,yc8,yc9,yc11,yc12,yc13,setA,setB,za,zb,zc,zd,ze,zf,zg,zh,zi,zj,zk,zl,zm,zn,zo,zp,reduceCtorEq,zE,↓reduceIte]
           exact j43_7_t ((((yr2 ++ ([32]:Bs)) ++ yr5) ++ ([32]:Bs)) ++ reason) true _ (by rfl) (by rfl)
          ·simp -implicitDefEqProofs only [ent75,prm75,f75_t,yc1,yc3,yc4,yc6,yc7,yc8,yc9,yc11,yc12,yc13,setA,setB,za,zb,zc,zd,ze,zf,zg,zh,zi,zj,zk,zl,zm,zn,zo,zp,reduceCtorEq,zE,↓reduceIte]
           refine brM (fun yc14=>?_) (fun yr15 yc14=>?_)
           ·rw [yc14]; rfl
           ·simp -implicitDefEqProofs only [e75,yc1,yc3,yc4,yc6,yc7,yc8,yc9,yc11,yc12,yc13,yc14,setA,setB,za,zb,zc,zd,ze,zf,zg,zh,zi,zj,zk,zl,zm,zn,zo,zp,reduceCtorEq,zE,↓reduceIte]
            refine brB (fun yc16=>?_) (fun yc16=>?_)
            ·simp -implicitDefEqProofs only [Tryz.underlying9,yc1,yc3,yc4,yc6,yc7,yc8,yc9,yc11,yc12,yc13,yc14,yc16,setA,setB,za,zb,zc,zd,ze,zf,zg,zh,zi,zj,zk,zl,zm,zn,zo,zp,reduceCtorEq,zE,↓reduceIte]
             exact j43_7_t ((((yr2 ++ ([32]:Bs)) ++ yr5) ++ ([32]:Bs)) ++ reason) (decide (512 < (((((yr2 ++ ([32]:Bs)) ++ yr5) ++ ([32]:Bs)) ++ reason).length:Int))) _ (by rfl) (by rfl)
            ·simp -implicitDefEqProofs only [yc1,yc3,yc4,yc6,yc7,yc8,yc9,yc11,yc12,yc13,yc14,yc16,setA,setB,za,zb,zc,zd,ze,zf,zg,zh,zi,zj,zk,zl,zm,zn,zo,zp,reduceCtorEq,zE,↓reduceIte]
             exact j43_7_t ((((yr2 ++ ([32]:Bs)) ++ yr5) ++ ([32]:Bs)) ++ reason) true _ (by rfl) (by rfl)
      ·rw [if_neg yc8]; rfl
     ·rw [if_neg yc7]; rfl
    ·rw [if_neg yc6]; rfl
  ·rw [if_neg yc3]; rfl
noncomputable def c35_0:Code:=bodyOf Tryz.f35
def c35_1:=cA c35_0
def c35_2:=cB c35_0
def c35_3:=cA c35_2
def c35_4:=cB c35_2
def c35_5:=cA c35_4
def c35_6:=cA c35_5
def c35_7:=cB c35_5
def c35_8:=cA c35_7
def c35_9:=cA c35_8
def c35_10:=cB c35_8
def c35_11:=cB c35_7
def c35_12:=cB c35_4
def c35_13:=cA c35_12
def c35_14:=cB c35_12
def c35_15:=cA c35_14
def c35_16:=cB c35_14
def c35_17:=cA c35_16
def c35_18:=cA c35_17
def c35_19:=cB c35_17
def c35_20:=cA c35_19
def c35_21:=cB c35_19
def c35_22:=cA c35_21
def c35_23:=cA c35_22
def c35_24:=cB c35_22
def c35_25:=cB c35_21
def c35_26:=cB c35_16
def c35_27:=cA c35_26
def c35_28:=cB c35_26
theorem c35_0_e:c35_0 = .seq c35_1 c35_2:=rfl
theorem c35_1_r:RG (E0 mm) 35 c35_1:=rgN rfl
theorem c35_2_e:c35_2 = .seq c35_3 c35_4:=rfl
theorem c35_3_r:RG (E0 mm) 35 c35_3:=rgN rfl
theorem c35_4_e:c35_4 = .seq c35_5 c35_12:=rfl
theorem c35_5_e:c35_5 = .seq c35_6 c35_7:=rfl
theorem c35_6_r:RG (E0 mm) 35 c35_6:=rgN rfl
theorem c35_8_e:c35_8 = .seq c35_9 c35_10:=rfl
theorem c35_9_r:RG (E0 mm) 35 c35_9:=rgN rfl
theorem c35_10_e:c35_10 = .ret:=rfl
theorem c35_11_e:c35_11 = .skip:=rfl
theorem c35_12_e:c35_12 = .seq c35_13 c35_14:=rfl
theorem c35_13_r:RG (E0 mm) 35 c35_13:=rgN rfl
theorem c35_14_e:c35_14 = .seq c35_15 c35_16:=rfl
theorem c35_15_r:RG (E0 mm) 35 c35_15:=rgN rfl
theorem c35_16_e:c35_16 = .seq c35_17 c35_26:=rfl
theorem c35_17_e:c35_17 = .seq c35_18 c35_19:=rfl
theorem c35_18_r:RG (E0 mm) 35 c35_18:=rgN rfl
theorem c35_19_e:c35_19 = .seq c35_20 c35_21:=rfl
theorem c35_20_r:RG (E0 mm) 35 c35_20:=rgN rfl
theorem c35_22_e:c35_22 = .seq c35_23 c35_24:=rfl
theorem c35_23_r:RG (E0 mm) 35 c35_23:=rgN rfl
theorem c35_24_e:c35_24 = .ret:=rfl
theorem c35_25_e:c35_25 = .skip:=rfl
theorem c35_26_e:c35_26 = .seq c35_27 c35_28:=rfl
theorem c35_27_r:RG (E0 mm) 35 c35_27:=rgD (by kernel_rfl)
theorem c35_28_e:c35_28 = .ret:=rfl
abbrev R35:=(Int×Int×Bs×Int)
def e35:R35→AV×Heap:=fun x=>(.tup [.c (.d (.sc (.int .i64 x.1))),.c (.d (.sc (.int .i64 x.2.1))),.c (.d (.sc (.string (S x.2.2.1)))),.c (.d (.sc (.int .i64 x.2.2.2)))],[])
def j35_21 (l6_0:Bool) (l6_1:List Bs) (minor7 status8:Int) (t53:Bool):Option R35:=
 if t53 = true then
  some ((0:Int),(0:Int),([]:Bs),(5:Int))
 else
  if (2:Int) < (l6_1.length:Int) then
   some (minor7,status8,(l6_1.getD 2 default),(0:Int))
  else none
theorem j35_21_t (l6_0:Bool) (l6_1:List Bs) (minor7 status8:Int) (t53:Bool)  (sl:Nat→AV) (zq6:sl 6 = .v (.c (.d (.lst l6_0 (enL enS l6_1))))) (zq7:sl 7 = .v (.c (.d (.sc (.int .i64 minor7))))) (zq8:sl 8 = .v (.c (.d (.sc (.int .i64 status8))))) (zq53:sl 53 = .v (.c (.d (.sc (.bool t53))))):
  bodyD (E0 mm) [.tmp 2,.tmp 3,.tmp 4,.tmp 5] 0 false (seqD (E0 mm) 35 0 (callW (E0 mm)) itW c35_26 (den (E0 mm) 35 0 (callW (E0 mm)) itW c35_21 none ⟨sl,[]⟩)) = (j35_21 l6_0 l6_1 minor7 status8 t53).map e35:=by
 simp -implicitDefEqProofs only [j35_21,(show c35_21 = Code.cond _ c35_22 c35_25 from rfl),zq6,zq7,zq8,zq53,setA,setB,za,zb,zc,zd,ze,zf,zg,zh,zi,zj,zk,zl,zm,zn,zo,zp,reduceCtorEq,zE,↓reduceIte]
 refine brB (fun yc20=>?_) (fun yc20=>?_)
 ·simp -implicitDefEqProofs only [c35_22_e,c35_23_r,(show opsOf c35_23 = _ :: _ from rfl),c35_24_e,zq6,zq7,zq8,zq53,yc20,setA,setB,za,zb,zc,zd,ze,zf,zg,zh,zi,zj,zk,zl,zm,zn,zo,zp,reduceCtorEq,zE,↓reduceIte]
  all_goals rfl
 ·simp -implicitDefEqProofs only [c35_25_e,c35_26_e,c35_27_r,(show opsOf c35_27 = _ :: _ from rfl),Tryz.underlying101,sz9,enS_a,zq6,zq7,zq8,zq53,yc20,setA,setB,za,zb,zc,zd,ze,zf,zg,zh,zi,zj,zk,zl,zm,zn,zo,zp,reduceCtorEq,zE,↓reduceIte]
  refine brP (fun yc21=>?_) (fun yc21=>?_)
  ·have yd22:2 < l6_1.length:=by omega
   simp -implicitDefEqProofs only [(enL_get enS l6_1 2 yd22),enS_e,sz9,ag9,c35_28_e,zq6,zq7,zq8,zq53,yc20,yc21,yd22,setA,setB,za,zb,zc,zd,ze,zf,zg,zh,zi,zj,zk,zl,zm,zn,zo,zp,reduceCtorEq,zE,↓reduceIte]
   all_goals rfl
  ·rw [if_neg yc21]; rfl
def j35_7 (line0:Bs) (l6_0:Bool) (l6_1:List Bs) (t22:Bool):Option R35:=
 if t22 = true then
  some ((0:Int),(0:Int),([]:Bs),(5:Int))
 else
  if (0:Int) < (l6_1.length:Int) then
   (m49 (l6_1.getD 0 default)).bind fun yr10=>
    if (1:Int) < (l6_1.length:Int) then
     (mAtoi (l6_1.getD 1 default)).bind fun yr14=>
      if yr14.2 = true then
       if (2:Int) < (l6_1.length:Int) then
        (m43 yr10 yr14.1 (l6_1.getD 2 default)).bind fun yr19=>
         j35_21 l6_0 l6_1 yr10 yr14.1 true
       else none
      else
       if (2:Int) < (l6_1.length:Int) then
        (m43 yr10 yr14.1 (l6_1.getD 2 default)).bind fun yr26=>
         if (yr26.2 == 0) = true then
          j35_21 l6_0 l6_1 yr10 yr14.1 (!(yr26.1 == line0))
         else
          j35_21 l6_0 l6_1 yr10 yr14.1 true
       else none
    else none
  else none
theorem j35_7_t (line0:Bs) (l6_0:Bool) (l6_1:List Bs) (t22:Bool)  (sl:Nat→AV) (zq0:sl 0 = .v (.c (.d (.sc (.string (S line0)))))) (zq6:sl 6 = .v (.c (.d (.lst l6_0 (enL enS l6_1))))) (zq22:sl 22 = .v (.c (.d (.sc (.bool t22))))):
  bodyD (E0 mm) [.tmp 2,.tmp 3,.tmp 4,.tmp 5] 0 false (seqD (E0 mm) 35 0 (callW (E0 mm)) itW c35_12 (den (E0 mm) 35 0 (callW (E0 mm)) itW c35_7 none ⟨sl,[]⟩)) = (j35_7 line0 l6_0 l6_1 t22).map e35:=by
 simp -implicitDefEqProofs only [j35_7,(show c35_7 = Code.cond _ c35_8 c35_11 from rfl),zq0,zq6,zq22,setA,setB,za,zb,zc,zd,ze,zf,zg,zh,zi,zj,zk,zl,zm,zn,zo,zp,reduceCtorEq,zE,↓reduceIte]
 refine brB (fun yc6=>?_) (fun yc6=>?_)
 ·simp -implicitDefEqProofs only [c35_8_e,c35_9_r,(show opsOf c35_9 = _ :: _ from rfl),c35_10_e,zq0,zq6,zq22,yc6,setA,setB,za,zb,zc,zd,ze,zf,zg,zh,zi,zj,zk,zl,zm,zn,zo,zp,reduceCtorEq,zE,↓reduceIte]
  all_goals rfl
 ·simp -implicitDefEqProofs only [c35_11_e,c35_12_e,c35_13_r,(show opsOf c35_13 = _ :: _ from rfl),Tryz.underlying101,sz9,enS_a,zq0,zq6,zq22,yc6,setA,setB,za,zb,zc,zd,ze,zf,zg,zh,zi,zj,zk,zl,zm,zn,zo,zp,reduceCtorEq,zE,↓reduceIte]
  refine brP (fun yc7=>?_) (fun yc7=>?_)
  ·have yd8:0 < l6_1.length:=by omega
   simp -implicitDefEqProofs only [(enL_get enS l6_1 0 yd8),enS_e,sz9,ag9,ent49,prm49,f49_t,zq0,zq6,zq22,yc6,yc7,yd8,setA,setB,za,zb,zc,zd,ze,zf,zg,zh,zi,zj,zk,zl,zm,zn,zo,zp,reduceCtorEq,zE,↓reduceIte]
   refine brM (fun yc9=>?_) (fun yr10 yc9=>?_)
   ·rw [yc9]; rfl
   ·simp -implicitDefEqProofs only [e49,c35_14_e,c35_15_r,(show opsOf c35_15 = _ :: _ from rfl),Tryz.underlying101,sz9,enS_a,zq0,zq6,zq22,yc6,yc7,yd8,yc9,setA,setB,za,zb,zc,zd,ze,zf,zg,zh,zi,zj,zk,zl,zm,zn,zo,zp,reduceCtorEq,zE,↓reduceIte]
    refine brP (fun yc11=>?_) (fun yc11=>?_)
    ·have yd12:1 < l6_1.length:=by omega
     simp -implicitDefEqProofs only [(enL_get enS l6_1 1 yd12),enS_e,sz9,ag9,ent63,prm63,pAtoi_t,zq0,zq6,zq22,yc6,yc7,yd8,yc9,yc11,yd12,setA,setB,za,zb,zc,zd,ze,zf,zg,zh,zi,zj,zk,zl,zm,zn,zo,zp,reduceCtorEq,zE,↓reduceIte]
     refine brM (fun yc13=>?_) (fun yr14 yc13=>?_)
     ·rw [yc13]; rfl
     ·try simp -implicitDefEqProofs only [zq0,zq6,zq22,yc6,yc7,yd8,yc9,yc11,yd12,yc13,setA,setB,za,zb,zc,zd,ze,zf,zg,zh,zi,zj,zk,zl,zm,zn,zo,zp,reduceCtorEq,zE,↓reduceIte]
      refine brB (fun yc15=>?_) (fun yc15=>?_)
      ·simp -implicitDefEqProofs only [pAtoi_t,enEr_t,c35_16_e,c35_17_e,c35_18_r,(show opsOf c35_18 = _ :: _ from rfl),Tryz.underlying101,sz9,enS_a,zq0,zq6,zq22,yc6,yc7,yd8,yc9,yc11,yd12,yc13,yc15,setA,setB,za,zb,zc,zd,ze,zf,zg,zh,zi,zj,zk,zl,zm,zn,zo,zp,reduceCtorEq,zE,↓reduceIte]
       refine brP (fun yc16=>?_) (fun yc16=>?_)
       ·have yd17:2 < l6_1.length:=by omega
        simp -implicitDefEqProofs only [(enL_get enS l6_1 2 yd17),enS_e,sz9,ag9,ent43,prm43,f43_t,zq0,zq6,zq22,yc6,yc7,yd8,yc9,yc11,yd12,yc13,yc15,yc16,yd17,setA,setB,za,zb,zc,zd,ze,zf,zg,zh,zi,zj,zk,zl,zm,zn,zo,zp,reduceCtorEq,zE,↓reduceIte]
        refine brM (fun yc18=>?_) (fun yr19 yc18=>?_)
        ·rw [yc18]; rfl
        ·simp -implicitDefEqProofs only [e43,c35_19_e,c35_20_r,(show opsOf c35_20 = _ :: _ from rfl),Tryz.underlying118,(ev_ifnn (P:=Tryz.prog) Tryz.underlying118),toV_nn,zq0,zq6,zq22,yc6,yc7,yd8,yc9,yc11,yd12,yc13,yc15,yc16,yd17,yc18,setA,setB,za,zb,zc,zd,ze,zf,zg,zh,zi,zj,zk,zl,zm,zn,zo,zp,reduceCtorEq,zE,↓reduceIte]
         exact j35_21_t l6_0 l6_1 yr10 yr14.1 true _ (by exact zq6) (by rfl) (by rfl) (by rfl)
       ·rw [if_neg yc16]; rfl
      ·simp -implicitDefEqProofs only [pAtoi_t,enEr_f,c35_16_e,c35_17_e,c35_18_r,(show opsOf c35_18 = _ :: _ from rfl),Tryz.underlying101,sz9,enS_a,zq0,zq6,zq22,yc6,yc7,yd8,yc9,yc11,yd12,yc13,yc15,setA,setB,za,zb,zc,zd,ze,zf,zg,zh,zi,zj,zk,zl,zm,zn,zo,zp,reduceCtorEq,zE,↓reduceIte]
       refine brP (fun yc23=>?_) (fun yc23=>?_)
       ·have yd24:2 < l6_1.length:=by omega
        simp -implicitDefEqProofs only [(enL_get enS l6_1 2 yd24),enS_e,sz9,ag9,ent43,prm43,f43_t,zq0,zq6,zq22,yc6,yc7,yd8,yc9,yc11,yd12,yc13,yc15,yc23,yd24,setA,setB,za,zb,zc,zd,ze,zf,zg,zh,zi,zj,zk,zl,zm,zn,zo,zp,reduceCtorEq,zE,↓reduceIte]
        refine brM (fun yc25=>?_) (fun yr26 yc25=>?_)
        ·rw [yc25]; rfl
        ·simp -implicitDefEqProofs only [e43,c35_19_e,c35_20_r,(show opsOf c35_20 = _ :: _ from rfl),Tryz.underlying118,(ev_ifnn (P:=Tryz.prog) Tryz.underlying118),zq0,zq6,zq22,yc6,yc7,yd8,yc9,yc11,yd12,yc13,yc15,yc23,yd24,yc25,setA,setB,za,zb,zc,zd,ze,zf,zg,zh,zi,zj,zk,zl,zm,zn,zo,zp,reduceCtorEq,zE,↓reduceIte]
         refine brB (fun yc27=>?_) (fun yc27=>?_)
         ·simp -implicitDefEqProofs only [zq0,zq6,zq22,yc6,yc7,yd8,yc9,yc11,yd12,yc13,yc15,yc23,yd24,yc25,yc27,setA,setB,za,zb,zc,zd,ze,zf,zg,zh,zi,zj,zk,zl,zm,zn,zo,zp,reduceCtorEq,zE,↓reduceIte]
          exact j35_21_t l6_0 l6_1 yr10 yr14.1 (!(yr26.1 == line0)) _ (by exact zq6) (by rfl) (by rfl) (by rfl)
         ·simp -implicitDefEqProofs only [zq0,zq6,zq22,yc6,yc7,yd8,yc9,yc11,yd12,yc13,yc15,yc23,yd24,yc25,yc27,setA,setB,za,zb,zc,zd,ze,zf,zg,zh,zi,zj,zk,zl,zm,zn,zo,zp,reduceCtorEq,zE,↓reduceIte]
          exact j35_21_t l6_0 l6_1 yr10 yr14.1 true _ (by exact zq6) (by rfl) (by rfl) (by rfl)
       ·rw [if_neg yc23]; rfl
    ·rw [if_neg yc11]; rfl
  ·rw [if_neg yc7]; rfl
def m35 (line:Bs):Option R35:=
 (mSplitN line ([32]:Bs) 3).bind fun yr2=>
  if ((yr2.length:Int) == 3) = true then
   if (0:Int) < (yr2.length:Int) then
    j35_7 line false yr2 ((yr2.getD 0 default) == ([]:Bs))
   else none
  else
   j35_7 line false yr2 true
theorem f35_t (line:Bs):
  callW (E0 mm) 35 [.c (.d (.sc (.string (S line))))] [] = (m35 line).map e35:=by
 rw [callW_run (body:=c35_0) (res:=[.tmp 2,.tmp 3,.tmp 4,.tmp 5]) Tryz.func35 rfl rfl (by kernel_rfl)]
 simp -implicitDefEqProofs only [m35,slots1,c35_0_e,c35_1_r,(show opsOf c35_1 = _ :: _ from rfl),c35_2_e,c35_3_r,(show opsOf c35_3 = _ :: _ from rfl),ent62,prm62,pSplitN_t,setA,setB,za,zb,zc,zd,ze,zf,zg,zh,zi,zj,zk,zl,zm,zn,zo,zp,reduceCtorEq,zE,↓reduceIte]
 refine brM (fun yc1=>?_) (fun yr2 yc1=>?_)
 ·rw [yc1]; rfl
 ·simp -implicitDefEqProofs only [pSplitN_t,c35_4_e,c35_5_e,c35_6_r,(show opsOf c35_6 = _ :: _ from rfl),Tryz.underlying101,yc1,setA,setB,za,zb,zc,zd,ze,zf,zg,zh,zi,zj,zk,zl,zm,zn,zo,zp,reduceCtorEq,zE,↓reduceIte]
  refine brB (fun yc3=>?_) (fun yc3=>?_)
  ·simp -implicitDefEqProofs only [Tryz.underlying101,sz9,enS_a,yc1,yc3,setA,setB,za,zb,zc,zd,ze,zf,zg,zh,zi,zj,zk,zl,zm,zn,zo,zp,reduceCtorEq,zE,↓reduceIte]
   refine brP (fun yc4=>?_) (fun yc4=>?_)
   ·have yd5:0 < yr2.length:=by omega
    simp -implicitDefEqProofs only [(enL_get enS yr2 0 yd5),enS_e,sz9,ag9,yc1,yc3,yc4,yd5,setA,setB,za,zb,zc,zd,ze,zf,zg,zh,zi,zj,zk,zl,zm,zn,zo,zp,reduceCtorEq,zE,↓reduceIte]
    exact j35_7_t line false yr2 ((yr2.getD 0 default) == ([]:Bs)) _ (by rfl) (by rfl) (by rfl)
   ·rw [if_neg yc4]; rfl
  ·simp -implicitDefEqProofs only [yc1,yc3,setA,setB,za,zb,zc,zd,ze,zf,zg,zh,zi,zj,zk,zl,zm,zn,zo,zp,reduceCtorEq,zE,↓reduceIte]
   exact j35_7_t line false yr2 true _ (by rfl) (by rfl) (by rfl)
noncomputable def c34_0:Code:=bodyOf Tryz.f34
def c34_1:=cA c34_0
def c34_2:=cB c34_0
def c34_3:=cA c34_2
def c34_4:=cB c34_2
def c34_5:=cA c34_4
def c34_6:=cB c34_4
theorem c34_0_e:c34_0 = .seq c34_1 c34_2:=rfl
theorem c34_1_r:RG (E0 mm) 34 c34_1:=rgN rfl
theorem c34_2_e:c34_2 = .seq c34_3 c34_4:=rfl
theorem c34_3_r:RG (E0 mm) 34 c34_3:=rgN rfl
theorem c34_4_e:c34_4 = .seq c34_5 c34_6:=rfl
theorem c34_5_r:RG (E0 mm) 34 c34_5:=rgN rfl
theorem c34_6_e:c34_6 = .ret:=rfl
abbrev R34:=(Int×Bs×Int×Bool×List (Bs×Bs)×Bool×List UInt8×Int)
def e34:R34→AV×Heap:=fun x=>(.tup [.agg [.d (.sc (.int .i64 x.1)),.d (.sc (.string (S x.2.1))),.d (.sc (.int .i64 x.2.2.1)),.d (.lst x.2.2.2.1 (enL enSS x.2.2.2.2.1)),.d (.lst x.2.2.2.2.2.1 (enL enB x.2.2.2.2.2.2.1))],.c (.d (.sc (.int .i64 x.2.2.2.2.2.2.2)))],[])
def m34 (line:Bs):Option R34:=
 (m35 line).bind fun yr2=>
  some (yr2.2.1,yr2.2.2.1,yr2.1,true,([]:List (Bs×Bs)),true,([]:List UInt8),yr2.2.2.2)
theorem f34_t (line:Bs):
  callW (E0 mm) 34 [.c (.d (.sc (.string (S line))))] [] = (m34 line).map e34:=by
 rw [callW_run (body:=c34_0) (res:=[.cell 2 32,.tmp 3]) Tryz.func34 rfl rfl (by kernel_rfl)]
 simp -implicitDefEqProofs only [m34,slots1,c34_0_e,c34_1_r,(show opsOf c34_1 = _ :: _ from rfl),zc32,ao45,c34_2_e,c34_3_r,(show opsOf c34_3 = _ :: _ from rfl),ent35,prm35,f35_t,setA,setB,za,zb,zc,zd,ze,zf,zg,zh,zi,zj,zk,zl,zm,zn,zo,zp,reduceCtorEq,zE,↓reduceIte]
 refine brM (fun yc1=>?_) (fun yr2 yc1=>?_)
 ·rw [yc1]; rfl
 ·simp -implicitDefEqProofs only [e35,Tryz.underlying32,sz3,sz9,c34_4_e,c34_5_r,(show opsOf c34_5 = _ :: _ from rfl),sz32,ag32,c34_6_e,yc1,setA,setB,za,zb,zc,zd,ze,zf,zg,zh,zi,zj,zk,zl,zm,zn,zo,zp,reduceCtorEq,zE,↓reduceIte]
  all_goals rfl
noncomputable def c33_0:Code:=bodyOf Tryz.f33
def c33_1:=cA c33_0
def c33_2:=cB c33_0
def c33_3:=cA c33_2
def c33_4:=cB c33_2
def c33_5:=cA c33_4
def c33_6:=cB c33_4
def c33_7:=cA c33_6
def c33_8:=cA c33_7
def c33_9:=cA c33_8
def c33_10:=cB c33_8
def c33_11:=cA c33_10
def c33_12:=cA c33_11
def c33_13:=cB c33_11
def c33_14:=cB c33_10
def c33_15:=cA c33_14
def c33_16:=cB c33_14
def c33_17:=cA c33_16
def c33_18:=cA c33_17
def c33_19:=cB c33_17
def c33_20:=cB c33_16
def c33_21:=cA c33_20
def c33_22:=cB c33_20
def c33_23:=cA c33_22
def c33_24:=cA c33_23
def c33_25:=cB c33_23
def c33_26:=cB c33_22
def c33_27:=cB c33_6
def c33_28:=cA c33_27
def c33_29:=cB c33_27
def c33_30:=cA c33_29
def c33_31:=cA c33_30
def c33_32:=cB c33_30
def c33_33:=cA c33_32
def c33_34:=cA c33_33
def c33_35:=cB c33_33
def c33_36:=cB c33_32
def c33_37:=cB c33_29
def c33_38:=cA c33_37
def c33_39:=cB c33_37
def c33_40:=cA c33_39
def c33_41:=cA c33_40
def c33_42:=cB c33_40
def c33_43:=cA c33_42
def c33_44:=cB c33_42
def c33_45:=cB c33_39
def c33_46:=cA c33_45
def c33_47:=cA c33_46
def c33_48:=cB c33_46
def c33_49:=cA c33_48
def c33_50:=cA c33_49
def c33_51:=cB c33_49
def c33_52:=cB c33_48
def c33_53:=cB c33_45
def c33_54:=cA c33_53
def c33_55:=cB c33_53
theorem c33_0_e:c33_0 = .seq c33_1 c33_2:=rfl
theorem c33_1_r:RG (E0 mm) 33 c33_1:=rgN rfl
theorem c33_2_e:c33_2 = .seq c33_3 c33_4:=rfl
theorem c33_3_r:RG (E0 mm) 33 c33_3:=rgN rfl
theorem c33_4_e:c33_4 = .seq c33_5 c33_6:=rfl
theorem c33_5_r:RG (E0 mm) 33 c33_5:=rgN rfl
theorem c33_6_e:c33_6 = .seq c33_7 c33_27:=rfl
theorem c33_7_e:c33_7 = .block 0 c33_8:=rfl
theorem c33_8_e:c33_8 = .seq c33_9 c33_10:=rfl
theorem c33_9_r:RG (E0 mm) 33 c33_9:=rgN rfl
theorem c33_11_e:c33_11 = .seq c33_12 c33_13:=rfl
theorem c33_12_r:RG (E0 mm) 33 c33_12:=rgN rfl
theorem c33_13_e:c33_13 = .ret:=rfl
theorem c33_14_e:c33_14 = .seq c33_15 c33_16:=rfl
theorem c33_15_r:RG (E0 mm) 33 c33_15:=rgN rfl
theorem c33_17_e:c33_17 = .seq c33_18 c33_19:=rfl
theorem c33_18_r:RG (E0 mm) 33 c33_18:=rgN rfl
theorem c33_19_e:c33_19 = .ret:=rfl
theorem c33_20_e:c33_20 = .seq c33_21 c33_22:=rfl
theorem c33_21_r:RG (E0 mm) 33 c33_21:=rgN rfl
theorem c33_23_e:c33_23 = .seq c33_24 c33_25:=rfl
theorem c33_24_r:RG (E0 mm) 33 c33_24:=rgN rfl
theorem c33_25_e:c33_25 = .ret:=rfl
theorem c33_26_e:c33_26 = .skip:=rfl
theorem c33_27_e:c33_27 = .seq c33_28 c33_29:=rfl
theorem c33_28_r:RG (E0 mm) 33 c33_28:=rgN rfl
theorem c33_29_e:c33_29 = .seq c33_30 c33_37:=rfl
theorem c33_30_e:c33_30 = .seq c33_31 c33_32:=rfl
theorem c33_31_r:RG (E0 mm) 33 c33_31:=rgN rfl
theorem c33_33_e:c33_33 = .seq c33_34 c33_35:=rfl
theorem c33_34_r:RG (E0 mm) 33 c33_34:=rgN rfl
theorem c33_35_e:c33_35 = .ret:=rfl
theorem c33_36_e:c33_36 = .skip:=rfl
theorem c33_37_e:c33_37 = .seq c33_38 c33_39:=rfl
theorem c33_38_r:RG (E0 mm) 33 c33_38:=rgN rfl
theorem c33_39_e:c33_39 = .seq c33_40 c33_45:=rfl
theorem c33_40_e:c33_40 = .seq c33_41 c33_42:=rfl
theorem c33_41_r:RG (E0 mm) 33 c33_41:=rgN rfl
theorem c33_43_r:RG (E0 mm) 33 c33_43:=rgN rfl
theorem c33_44_e:c33_44 = .skip:=rfl
theorem c33_45_e:c33_45 = .seq c33_46 c33_53:=rfl
theorem c33_46_e:c33_46 = .seq c33_47 c33_48:=rfl
theorem c33_47_r:RG (E0 mm) 33 c33_47:=rgN rfl
theorem c33_49_e:c33_49 = .seq c33_50 c33_51:=rfl
theorem c33_50_r:RG (E0 mm) 33 c33_50:=rgN rfl
theorem c33_51_e:c33_51 = .ret:=rfl
theorem c33_52_e:c33_52 = .skip:=rfl
theorem c33_53_e:c33_53 = .seq c33_54 c33_55:=rfl
theorem c33_54_r:RG (E0 mm) 33 c33_54:=rgN rfl
theorem c33_55_e:c33_55 = .ret:=rfl
abbrev R33:=(Int×Bs×Int×Bool×List (Bs×Bs)×Bool×List UInt8×Bool×List (Bs×Bs)×Int×Int)
def e33:R33→AV×Heap:=fun x=>(.tup [.agg [.d (.sc (.int .i64 x.1)),.d (.sc (.string (S x.2.1))),.d (.sc (.int .i64 x.2.2.1)),.d (.lst x.2.2.2.1 (enL enSS x.2.2.2.2.1)),.d (.lst x.2.2.2.2.2.1 (enL enB x.2.2.2.2.2.2.1))],.c (.d (.lst x.2.2.2.2.2.2.2.1 (enL enSS x.2.2.2.2.2.2.2.2.1))),.c (.d (.sc (.int .i64 x.2.2.2.2.2.2.2.2.2.1))),.c (.d (.sc (.int .i64 x.2.2.2.2.2.2.2.2.2.2)))],[])
def j33_45 (l5_0:Bool) (l5_1:List (Bs×Bs)) (e7 end9:Int) (n10 h0_0:Int) (h0_1:Bs) (h0_2:Int) (h0_3_0:Bool) (h0_3_1:List (Bs×Bs)) (h0_4_0:Bool) (h0_4_1:List UInt8) (h1_0:Int) (h1_1:Bs) (h1_2:Int) (h1_3_0:Bool) (h1_3_1:List (Bs×Bs)) (h1_4_0:Bool) (h1_4_1:List UInt8):Option R33:=
 if (e7 == 0) = true then
  some (h0_0,h0_1,h0_2,h0_3_0,h0_3_1,h0_4_0,h0_4_1,l5_0,l5_1,(w64 ((w64 (end9 + 1)) + n10)),(0:Int))
 else
  some (h1_0,h1_1,h1_2,h1_3_0,h1_3_1,h1_4_0,h1_4_1,true,([]:List (Bs×Bs)),(0:Int),e7)
theorem j33_45_t (l5_0:Bool) (l5_1:List (Bs×Bs)) (e7 end9:Int) (n10 h0_0:Int) (h0_1:Bs) (h0_2:Int) (h0_3_0:Bool) (h0_3_1:List (Bs×Bs)) (h0_4_0:Bool) (h0_4_1:List UInt8) (h1_0:Int) (h1_1:Bs) (h1_2:Int) (h1_3_0:Bool) (h1_3_1:List (Bs×Bs)) (h1_4_0:Bool) (h1_4_1:List UInt8)  (sl:Nat→AV) (zq4:sl 4 = .v (.c (.ptr 0 0))) (zq5:sl 5 = .v (.c (.d (.lst l5_0 (enL enSS l5_1))))) (zq7:sl 7 = .v (.c (.d (.sc (.int .i64 e7))))) (zq8:sl 8 = .v (.c (.ptr 1 0))) (zq9:sl 9 = .v (.c (.d (.sc (.int .i64 end9))))) (zq10:sl 10 = .v (.c (.d (.sc (.int .i64 n10))))):
  bodyD (E0 mm) [.cell 4 32,.tmp 5,.tmp 6,.tmp 7] 0 false (den (E0 mm) 33 0 (callW (E0 mm)) itW c33_45 none ⟨sl,[.cells [.d (.sc (.int .i64 h0_0)),.d (.sc (.string (S h0_1))),.d (.sc (.int .i64 h0_2)),.d (.lst h0_3_0 (enL enSS h0_3_1)),.d (.lst h0_4_0 (enL enB h0_4_1))],.cells [.d (.sc (.int .i64 h1_0)),.d (.sc (.string (S h1_1))),.d (.sc (.int .i64 h1_2)),.d (.lst h1_3_0 (enL enSS h1_3_1)),.d (.lst h1_4_0 (enL enB h1_4_1))]]⟩) = (j33_45 l5_0 l5_1 e7 end9 n10 h0_0 h0_1 h0_2 h0_3_0 h0_3_1 h0_4_0 h0_4_1 h1_0 h1_1 h1_2 h1_3_0 h1_3_1 h1_4_0 h1_4_1).map e33:=by
 simp -implicitDefEqProofs only [j33_45,c33_45_e,c33_46_e,c33_47_r,(show opsOf c33_47 = _ :: _ from rfl),(show c33_48 = Code.cond _ c33_49 c33_52 from rfl),zq4,zq5,zq7,zq8,zq9,zq10,setA,setB,za,zb,zc,zd,ze,zf,zg,zh,zi,zj,zk,zl,zm,zn,zo,zp,reduceCtorEq,zE,↓reduceIte]
 refine brB (fun yc25=>?_) (fun yc25=>?_)
 ·simp -implicitDefEqProofs only [c33_52_e,c33_53_e,c33_54_r,(show opsOf c33_54 = _ :: _ from rfl),sz32,ag32,c33_55_e,zq4,zq5,zq7,zq8,zq9,zq10,yc25,setA,setB,za,zb,zc,zd,ze,zf,zg,zh,zi,zj,zk,zl,zm,zn,zo,zp,reduceCtorEq,zE,↓reduceIte]
  all_goals rfl
 ·simp -implicitDefEqProofs only [c33_49_e,c33_50_r,(show opsOf c33_50 = _ :: _ from rfl),sz32,ag32,c33_51_e,zq4,zq5,zq7,zq8,zq9,zq10,yc25,setA,setB,za,zb,zc,zd,ze,zf,zg,zh,zi,zj,zk,zl,zm,zn,zo,zp,reduceCtorEq,zE,↓reduceIte]
  all_goals rfl
def j33_42 (l5_0:Bool) (l5_1:List (Bs×Bs)) (e7 end9 n10:Int) (t73:Bool) (h0_0:Int) (h0_1:Bs) (h0_2:Int) (h0_3_0:Bool) (h0_3_1:List (Bs×Bs)) (h0_4_0:Bool) (h0_4_1:List UInt8) (h1_0:Int) (h1_1:Bs) (h1_2:Int) (h1_3_0:Bool) (h1_3_1:List (Bs×Bs)) (h1_4_0:Bool) (h1_4_1:List UInt8):Option R33:=
 if t73 = true then
  j33_45 l5_0 l5_1 (21:Int) end9 n10 h0_0 h0_1 h0_2 h0_3_0 h0_3_1 h0_4_0 h0_4_1 h1_0 h1_1 h1_2 h1_3_0 h1_3_1 h1_4_0 h1_4_1
 else
  j33_45 l5_0 l5_1 e7 end9 n10 h0_0 h0_1 h0_2 h0_3_0 h0_3_1 h0_4_0 h0_4_1 h1_0 h1_1 h1_2 h1_3_0 h1_3_1 h1_4_0 h1_4_1
theorem j33_42_t (l5_0:Bool) (l5_1:List (Bs×Bs)) (e7 end9 n10:Int) (t73:Bool) (h0_0:Int) (h0_1:Bs) (h0_2:Int) (h0_3_0:Bool) (h0_3_1:List (Bs×Bs)) (h0_4_0:Bool) (h0_4_1:List UInt8) (h1_0:Int) (h1_1:Bs) (h1_2:Int) (h1_3_0:Bool) (h1_3_1:List (Bs×Bs)) (h1_4_0:Bool) (h1_4_1:List UInt8)  (sl:Nat→AV) (zq4:sl 4 = .v (.c (.ptr 0 0))) (zq5:sl 5 = .v (.c (.d (.lst l5_0 (enL enSS l5_1))))) (zq7:sl 7 = .v (.c (.d (.sc (.int .i64 e7))))) (zq8:sl 8 = .v (.c (.ptr 1 0))) (zq9:sl 9 = .v (.c (.d (.sc (.int .i64 end9))))) (zq10:sl 10 = .v (.c (.d (.sc (.int .i64 n10))))) (zq73:sl 73 = .v (.c (.d (.sc (.bool t73))))):
  bodyD (E0 mm) [.cell 4 32,.tmp 5,.tmp 6,.tmp 7] 0 false (seqD (E0 mm) 33 0 (callW (E0 mm)) itW c33_45 (den (E0 mm) 33 0 (callW (E0 mm)) itW c33_42 none ⟨sl,[.cells [.d (.sc (.int .i64 h0_0)),.d (.sc (.string (S h0_1))),.d (.sc (.int .i64 h0_2)),.d (.lst h0_3_0 (enL enSS h0_3_1)),.d (.lst h0_4_0 (enL enB h0_4_1))],.cells [.d (.sc (.int .i64 h1_0)),.d (.sc (.string (S h1_1))),.d (.sc (.int .i64 h1_2)),.d (.lst h1_3_0 (enL enSS h1_3_1)),.d (.lst h1_4_0 (enL enB h1_4_1))]]⟩)) = (j33_42 l5_0 l5_1 e7 end9 n10 t73 h0_0 h0_1 h0_2 h0_3_0 h0_3_1 h0_4_0 h0_4_1 h1_0 h1_1 h1_2 h1_3_0 h1_3_1 h1_4_0 h1_4_1).map e33:=by
 simp -implicitDefEqProofs only [j33_42,(show c33_42 = Code.cond _ c33_43 c33_44 from rfl),zq4,zq5,zq7,zq8,zq9,zq10,zq73,setA,setB,za,zb,zc,zd,ze,zf,zg,zh,zi,zj,zk,zl,zm,zn,zo,zp,reduceCtorEq,zE,↓reduceIte]
 refine brB (fun yc24=>?_) (fun yc24=>?_)
 ·simp -implicitDefEqProofs only [c33_43_r,(show opsOf c33_43 = _ :: _ from rfl),zq4,zq5,zq7,zq8,zq9,zq10,zq73,yc24,setA,setB,za,zb,zc,zd,ze,zf,zg,zh,zi,zj,zk,zl,zm,zn,zo,zp,reduceCtorEq,zE,↓reduceIte]
  exact j33_45_t l5_0 l5_1 (21:Int) end9 n10 h0_0 h0_1 h0_2 h0_3_0 h0_3_1 h0_4_0 h0_4_1 h1_0 h1_1 h1_2 h1_3_0 h1_3_1 h1_4_0 h1_4_1 _ (by exact zq4) (by exact zq5) (by rfl) (by exact zq8) (by exact zq9) (by exact zq10)
 ·simp -implicitDefEqProofs only [c33_44_e,zq4,zq5,zq7,zq8,zq9,zq10,zq73,yc24,setA,setB,za,zb,zc,zd,ze,zf,zg,zh,zi,zj,zk,zl,zm,zn,zo,zp,reduceCtorEq,zE,↓reduceIte]
  exact j33_45_t l5_0 l5_1 e7 end9 n10 h0_0 h0_1 h0_2 h0_3_0 h0_3_1 h0_4_0 h0_4_1 h1_0 h1_1 h1_2 h1_3_0 h1_3_1 h1_4_0 h1_4_1 _ (by exact zq4) (by exact zq5) (by exact zq7) (by exact zq8) (by exact zq9) (by exact zq10)
def j33_22 (b0_0:Bool) (b0_1:List UInt8) (end9:Int) (t30:Bool) (h0_0:Int) (h0_1:Bs) (h0_2:Int) (h0_3_0:Bool) (h0_3_1:List (Bs×Bs)) (h0_4_0:Bool) (h0_4_1:List UInt8) (h1_0:Int) (h1_1:Bs) (h1_2:Int) (h1_3_0:Bool) (h1_3_1:List (Bs×Bs)) (h1_4_0:Bool) (h1_4_1:List UInt8):Option R33:=
 if t30 = true then
  some (h1_0,h1_1,h1_2,h1_3_0,h1_3_1,h1_4_0,h1_4_1,true,([]:List (Bs×Bs)),(0:Int),(20:Int))
 else
  (bnd (w64 (end9 - 1)) b0_1.length).bind fun yk11=>
   (m34 (b0_1.take yk11)).bind fun yr13=>
    if (yr13.2.2.2.2.2.2.2 == 0) = true then
     (bnd (min2 (b0_1.length:Int) 2048) b0_1.length).bind fun yk16=>
      (bnd (w64 (end9 + 1)) yk16).bind fun yk18=>
       (m47 b0_0 ((b0_1.take yk16).drop yk18)).bind fun yr20=>
        match yr20 with
        | .inl yr21=>
         if (yr21.2.2.2 == 8) = true then
          j33_42 yr21.1 yr21.2.1 yr21.2.2.2 end9 yr21.2.2.1 (decide (2048≤(b0_1.length:Int))) yr13.1 yr13.2.1 yr13.2.2.1 yr13.2.2.2.1 yr13.2.2.2.2.1 yr13.2.2.2.2.2.1 yr13.2.2.2.2.2.2.1 h1_0 h1_1 h1_2 h1_3_0 h1_3_1 h1_4_0 h1_4_1
         else
          j33_42 yr21.1 yr21.2.1 yr21.2.2.2 end9 yr21.2.2.1 false yr13.1 yr13.2.1 yr13.2.2.1 yr13.2.2.2.1 yr13.2.2.2.2.1 yr13.2.2.2.2.2.1 yr13.2.2.2.2.2.2.1 h1_0 h1_1 h1_2 h1_3_0 h1_3_1 h1_4_0 h1_4_1
        | .inr yr22=>
         if (yr22.2.2.2 == 8) = true then
          j33_42 yr22.1 yr22.2.1 yr22.2.2.2 end9 yr22.2.2.1 (decide (2048≤(b0_1.length:Int))) yr13.1 yr13.2.1 yr13.2.2.1 yr13.2.2.2.1 yr13.2.2.2.2.1 yr13.2.2.2.2.2.1 yr13.2.2.2.2.2.2.1 h1_0 h1_1 h1_2 h1_3_0 h1_3_1 h1_4_0 h1_4_1
         else
          j33_42 yr22.1 yr22.2.1 yr22.2.2.2 end9 yr22.2.2.1 false yr13.1 yr13.2.1 yr13.2.2.1 yr13.2.2.2.1 yr13.2.2.2.2.1 yr13.2.2.2.2.2.1 yr13.2.2.2.2.2.2.1 h1_0 h1_1 h1_2 h1_3_0 h1_3_1 h1_4_0 h1_4_1
    else
     some (h1_0,h1_1,h1_2,h1_3_0,h1_3_1,h1_4_0,h1_4_1,true,([]:List (Bs×Bs)),(0:Int),(20:Int))
theorem j33_22_t (b0_0:Bool) (b0_1:List UInt8) (end9:Int) (t30:Bool) (h0_0:Int) (h0_1:Bs) (h0_2:Int) (h0_3_0:Bool) (h0_3_1:List (Bs×Bs)) (h0_4_0:Bool) (h0_4_1:List UInt8) (h1_0:Int) (h1_1:Bs) (h1_2:Int) (h1_3_0:Bool) (h1_3_1:List (Bs×Bs)) (h1_4_0:Bool) (h1_4_1:List UInt8)  (sl:Nat→AV) (zq0:sl 0 = .v (.c (.d (.lst b0_0 (enL enB b0_1))))) (zq1:sl 1 = .v (.c (.d (.sc (.func (.func 34) #[] #[]))))) (zq4:sl 4 = .v (.c (.ptr 0 0))) (zq8:sl 8 = .v (.c (.ptr 1 0))) (zq9:sl 9 = .v (.c (.d (.sc (.int .i64 end9))))) (zq30:sl 30 = .v (.c (.d (.sc (.bool t30))))):
  bodyD (E0 mm) [.cell 4 32,.tmp 5,.tmp 6,.tmp 7] 0 false (seqD (E0 mm) 33 0 (callW (E0 mm)) itW c33_27 (blockD 0 (den (E0 mm) 33 0 (callW (E0 mm)) itW c33_22 none ⟨sl,[.cells [.d (.sc (.int .i64 h0_0)),.d (.sc (.string (S h0_1))),.d (.sc (.int .i64 h0_2)),.d (.lst h0_3_0 (enL enSS h0_3_1)),.d (.lst h0_4_0 (enL enB h0_4_1))],.cells [.d (.sc (.int .i64 h1_0)),.d (.sc (.string (S h1_1))),.d (.sc (.int .i64 h1_2)),.d (.lst h1_3_0 (enL enSS h1_3_1)),.d (.lst h1_4_0 (enL enB h1_4_1))]]⟩))) = (j33_22 b0_0 b0_1 end9 t30 h0_0 h0_1 h0_2 h0_3_0 h0_3_1 h0_4_0 h0_4_1 h1_0 h1_1 h1_2 h1_3_0 h1_3_1 h1_4_0 h1_4_1).map e33:=by
 simp -implicitDefEqProofs only [j33_22,(show c33_22 = Code.cond _ c33_23 c33_26 from rfl),zq0,zq1,zq4,zq8,zq9,zq30,setA,setB,za,zb,zc,zd,ze,zf,zg,zh,zi,zj,zk,zl,zm,zn,zo,zp,reduceCtorEq,zE,↓reduceIte]
 refine brB (fun yc9=>?_) (fun yc9=>?_)
 ·simp -implicitDefEqProofs only [c33_23_e,c33_24_r,(show opsOf c33_24 = _ :: _ from rfl),sz32,ag32,c33_25_e,zq0,zq1,zq4,zq8,zq9,zq30,yc9,setA,setB,za,zb,zc,zd,ze,zf,zg,zh,zi,zj,zk,zl,zm,zn,zo,zp,reduceCtorEq,zE,↓reduceIte]
  all_goals rfl
 ·simp -implicitDefEqProofs only [c33_26_e,c33_27_e,c33_28_r,(show opsOf c33_28 = _ :: _ from rfl),Tryz.underlying22,enB_a,sz5,zq0,zq1,zq4,zq8,zq9,zq30,yc9,setA,setB,za,zb,zc,zd,ze,zf,zg,zh,zi,zj,zk,zl,zm,zn,zo,zp,reduceCtorEq,zE,↓reduceIte]
  refine brM (fun yc10=>?_) (fun yk11 yc10=>?_)
  ·rw [yc10]; rfl
  ·simp -implicitDefEqProofs only [Option.isNone_some,Bool.false_and,Bool.and_false,Bool.false_eq_true,if_false,Tryz.underlying22,Tryz.underlying9,Tryz.underlying5,ent34,prm34,f34_t,zq0,zq1,zq4,zq8,zq9,zq30,yc9,yc10,setA,setB,za,zb,zc,zd,ze,zf,zg,zh,zi,zj,zk,zl,zm,zn,zo,zp,reduceCtorEq,zE,↓reduceIte]
   refine brM (fun yc12=>?_) (fun yr13 yc12=>?_)
   ·rw [yc12]; rfl
   ·simp -implicitDefEqProofs only [e34,sz32,c33_29_e,c33_30_e,c33_31_r,(show opsOf c33_31 = _ :: _ from rfl),(show c33_32 = Code.cond _ c33_33 c33_36 from rfl),zq0,zq1,zq4,zq8,zq9,zq30,yc9,yc10,yc12,setA,setB,za,zb,zc,zd,ze,zf,zg,zh,zi,zj,zk,zl,zm,zn,zo,zp,reduceCtorEq,zE,↓reduceIte]
    refine brB (fun yc14=>?_) (fun yc14=>?_)
    ·simp -implicitDefEqProofs only [c33_36_e,c33_37_e,c33_38_r,(show opsOf c33_38 = _ :: _ from rfl),Tryz.underlying22,Tryz.underlying3,enB_a,sz5,zq0,zq1,zq4,zq8,zq9,zq30,yc9,yc10,yc12,yc14,setA,setB,za,zb,zc,zd,ze,zf,zg,zh,zi,zj,zk,zl,zm,zn,zo,zp,reduceCtorEq,zE,↓reduceIte]
     refine brM (fun yc15=>?_) (fun yk16 yc15=>?_)
     ·rw [yc15]; rfl
     ·simp -implicitDefEqProofs only [zq0,zq1,zq4,zq8,zq9,zq30,yc9,yc10,yc12,yc14,yc15,setA,setB,za,zb,zc,zd,ze,zf,zg,zh,zi,zj,zk,zl,zm,zn,zo,zp,reduceCtorEq,zE,↓reduceIte]
      refine brM (fun yc17=>?_) (fun yk18 yc17=>?_)
      ·rw [yc17]; rfl
      ·simp -implicitDefEqProofs only [Option.isNone_some,Bool.false_and,Bool.and_false,Bool.false_eq_true,if_false,ent47,prm47,f47_t,zq0,zq1,zq4,zq8,zq9,zq30,yc9,yc10,yc12,yc14,yc15,yc17,setA,setB,za,zb,zc,zd,ze,zf,zg,zh,zi,zj,zk,zl,zm,zn,zo,zp,reduceCtorEq,zE,↓reduceIte]
       refine brM (fun yc19=>?_) (fun yr20 yc19=>?_)
       ·rw [yc19]; rfl
       ·rcases yr20 with yr21 | yr22
        ·simp -implicitDefEqProofs only [e47,plainC_t,c33_39_e,c33_40_e,c33_41_r,(show opsOf c33_41 = _ :: _ from rfl),zq0,zq1,zq4,zq8,zq9,zq30,yc9,yc10,yc12,yc14,yc15,yc17,yc19,setA,setB,za,zb,zc,zd,ze,zf,zg,zh,zi,zj,zk,zl,zm,zn,zo,zp,reduceCtorEq,zE,↓reduceIte]
         refine brB (fun yc23=>?_) (fun yc23=>?_)
         ·simp -implicitDefEqProofs only [Tryz.underlying22,zq0,zq1,zq4,zq8,zq9,zq30,yc9,yc10,yc12,yc14,yc15,yc17,yc19,yc23,setA,setB,za,zb,zc,zd,ze,zf,zg,zh,zi,zj,zk,zl,zm,zn,zo,zp,reduceCtorEq,zE,↓reduceIte]
          exact j33_42_t yr21.1 yr21.2.1 yr21.2.2.2 end9 yr21.2.2.1 (decide (2048≤(b0_1.length:Int))) yr13.1 yr13.2.1 yr13.2.2.1 yr13.2.2.2.1 yr13.2.2.2.2.1 yr13.2.2.2.2.2.1 yr13.2.2.2.2.2.2.1 h1_0 h1_1 h1_2 h1_3_0 h1_3_1 h1_4_0 h1_4_1 _ (by exact zq4) (by rfl) (by rfl) (by exact zq8) (by exact zq9) (by rfl) (by rfl)
         ·simp -implicitDefEqProofs only [zq0,zq1,zq4,zq8,zq9,zq30,yc9,yc10,yc12,yc14,yc15,yc17,yc19,yc23,setA,setB,za,zb,zc,zd,ze,zf,zg,zh,zi,zj,zk,zl,zm,zn,zo,zp,reduceCtorEq,zE,↓reduceIte]
          exact j33_42_t yr21.1 yr21.2.1 yr21.2.2.2 end9 yr21.2.2.1 false yr13.1 yr13.2.1 yr13.2.2.1 yr13.2.2.2.1 yr13.2.2.2.2.1 yr13.2.2.2.2.2.1 yr13.2.2.2.2.2.2.1 h1_0 h1_1 h1_2 h1_3_0 h1_3_1 h1_4_0 h1_4_1 _ (by exact zq4) (by rfl) (by rfl) (by exact zq8) (by exact zq9) (by rfl) (by rfl)
        ·simp -implicitDefEqProofs only [e47,plainC_t,c33_39_e,c33_40_e,c33_41_r,(show opsOf c33_41 = _ :: _ from rfl),zq0,zq1,zq4,zq8,zq9,zq30,yc9,yc10,yc12,yc14,yc15,yc17,yc19,setA,setB,za,zb,zc,zd,ze,zf,zg,zh,zi,zj,zk,zl,zm,zn,zo,zp,reduceCtorEq,zE,↓reduceIte]
         refine brB (fun yc26=>?_) (fun yc26=>?_)
         ·simp -implicitDefEqProofs only [Tryz.underlying22,zq0,zq1,zq4,zq8,zq9,zq30,yc9,yc10,yc12,yc14,yc15,yc17,yc19,yc26,setA,setB,za,zb,zc,zd,ze,zf,zg,zh,zi,zj,zk,zl,zm,zn,zo,zp,reduceCtorEq,zE,↓reduceIte]
          exact j33_42_t yr22.1 yr22.2.1 yr22.2.2.2 end9 yr22.2.2.1 (decide (2048≤(b0_1.length:Int))) yr13.1 yr13.2.1 yr13.2.2.1 yr13.2.2.2.1 yr13.2.2.2.2.1 yr13.2.2.2.2.2.1 yr13.2.2.2.2.2.2.1 h1_0 h1_1 h1_2 h1_3_0 h1_3_1 h1_4_0 h1_4_1 _ (by exact zq4) (by rfl) (by rfl) (by exact zq8) (by exact zq9) (by rfl) (by rfl)
         ·simp -implicitDefEqProofs only [zq0,zq1,zq4,zq8,zq9,zq30,yc9,yc10,yc12,yc14,yc15,yc17,yc19,yc26,setA,setB,za,zb,zc,zd,ze,zf,zg,zh,zi,zj,zk,zl,zm,zn,zo,zp,reduceCtorEq,zE,↓reduceIte]
          exact j33_42_t yr22.1 yr22.2.1 yr22.2.2.2 end9 yr22.2.2.1 false yr13.1 yr13.2.1 yr13.2.2.1 yr13.2.2.2.1 yr13.2.2.2.2.1 yr13.2.2.2.2.2.1 yr13.2.2.2.2.2.2.1 h1_0 h1_1 h1_2 h1_3_0 h1_3_1 h1_4_0 h1_4_1 _ (by exact zq4) (by rfl) (by rfl) (by exact zq8) (by exact zq9) (by rfl) (by rfl)
    ·simp -implicitDefEqProofs only [c33_33_e,c33_34_r,(show opsOf c33_34 = _ :: _ from rfl),sz32,ag32,c33_35_e,zq0,zq1,zq4,zq8,zq9,zq30,yc9,yc10,yc12,yc14,setA,setB,za,zb,zc,zd,ze,zf,zg,zh,zi,zj,zk,zl,zm,zn,zo,zp,reduceCtorEq,zE,↓reduceIte]
     all_goals rfl
def j33_10 (b0_0:Bool) (b0_1:List UInt8) (end9:Int) (t17:Bool) (h0_0:Int) (h0_1:Bs) (h0_2:Int) (h0_3_0:Bool) (h0_3_1:List (Bs×Bs)) (h0_4_0:Bool) (h0_4_1:List UInt8) (h1_0:Int) (h1_1:Bs) (h1_2:Int) (h1_3_0:Bool) (h1_3_1:List (Bs×Bs)) (h1_4_0:Bool) (h1_4_1:List UInt8):Option R33:=
 if t17 = true then
  some (h1_0,h1_1,h1_2,h1_3_0,h1_3_1,h1_4_0,h1_4_1,true,([]:List (Bs×Bs)),(0:Int),(21:Int))
 else
  if (decide (end9 < 0)) = true then
   some (h1_0,h1_1,h1_2,h1_3_0,h1_3_1,h1_4_0,h1_4_1,true,([]:List (Bs×Bs)),(0:Int),(8:Int))
  else
   if (end9 == 0) = true then
    j33_22 b0_0 b0_1 end9 true h0_0 h0_1 h0_2 h0_3_0 h0_3_1 h0_4_0 h0_4_1 h1_0 h1_1 h1_2 h1_3_0 h1_3_1 h1_4_0 h1_4_1
   else
    if 0≤(w64 (end9 - 1))∧(w64 (end9 - 1)) < (b0_1.length:Int) then
     j33_22 b0_0 b0_1 end9 (!((b0_1.getD ((w64 (end9 - 1)).toNat) default) == (13:UInt8))) h0_0 h0_1 h0_2 h0_3_0 h0_3_1 h0_4_0 h0_4_1 h1_0 h1_1 h1_2 h1_3_0 h1_3_1 h1_4_0 h1_4_1
    else none
theorem j33_10_t (b0_0:Bool) (b0_1:List UInt8) (end9:Int) (t17:Bool) (h0_0:Int) (h0_1:Bs) (h0_2:Int) (h0_3_0:Bool) (h0_3_1:List (Bs×Bs)) (h0_4_0:Bool) (h0_4_1:List UInt8) (h1_0:Int) (h1_1:Bs) (h1_2:Int) (h1_3_0:Bool) (h1_3_1:List (Bs×Bs)) (h1_4_0:Bool) (h1_4_1:List UInt8)  (sl:Nat→AV) (zq0:sl 0 = .v (.c (.d (.lst b0_0 (enL enB b0_1))))) (zq1:sl 1 = .v (.c (.d (.sc (.func (.func 34) #[] #[]))))) (zq4:sl 4 = .v (.c (.ptr 0 0))) (zq8:sl 8 = .v (.c (.ptr 1 0))) (zq9:sl 9 = .v (.c (.d (.sc (.int .i64 end9))))) (zq17:sl 17 = .v (.c (.d (.sc (.bool t17))))):
  bodyD (E0 mm) [.cell 4 32,.tmp 5,.tmp 6,.tmp 7] 0 false (seqD (E0 mm) 33 0 (callW (E0 mm)) itW c33_27 (blockD 0 (den (E0 mm) 33 0 (callW (E0 mm)) itW c33_10 none ⟨sl,[.cells [.d (.sc (.int .i64 h0_0)),.d (.sc (.string (S h0_1))),.d (.sc (.int .i64 h0_2)),.d (.lst h0_3_0 (enL enSS h0_3_1)),.d (.lst h0_4_0 (enL enB h0_4_1))],.cells [.d (.sc (.int .i64 h1_0)),.d (.sc (.string (S h1_1))),.d (.sc (.int .i64 h1_2)),.d (.lst h1_3_0 (enL enSS h1_3_1)),.d (.lst h1_4_0 (enL enB h1_4_1))]]⟩))) = (j33_10 b0_0 b0_1 end9 t17 h0_0 h0_1 h0_2 h0_3_0 h0_3_1 h0_4_0 h0_4_1 h1_0 h1_1 h1_2 h1_3_0 h1_3_1 h1_4_0 h1_4_1).map e33:=by
 simp -implicitDefEqProofs only [j33_10,(show c33_10 = Code.cond _ c33_11 c33_14 from rfl),zq0,zq1,zq4,zq8,zq9,zq17,setA,setB,za,zb,zc,zd,ze,zf,zg,zh,zi,zj,zk,zl,zm,zn,zo,zp,reduceCtorEq,zE,↓reduceIte]
 refine brB (fun yc6=>?_) (fun yc6=>?_)
 ·simp -implicitDefEqProofs only [c33_11_e,c33_12_r,(show opsOf c33_12 = _ :: _ from rfl),sz32,ag32,c33_13_e,zq0,zq1,zq4,zq8,zq9,zq17,yc6,setA,setB,za,zb,zc,zd,ze,zf,zg,zh,zi,zj,zk,zl,zm,zn,zo,zp,reduceCtorEq,zE,↓reduceIte]
  all_goals rfl
 ·simp -implicitDefEqProofs only [c33_14_e,c33_15_r,(show opsOf c33_15 = _ :: _ from rfl),(show c33_16 = Code.cond _ c33_17 c33_20 from rfl),zq0,zq1,zq4,zq8,zq9,zq17,yc6,setA,setB,za,zb,zc,zd,ze,zf,zg,zh,zi,zj,zk,zl,zm,zn,zo,zp,reduceCtorEq,zE,↓reduceIte]
  refine brB (fun yc7=>?_) (fun yc7=>?_)
  ·simp -implicitDefEqProofs only [c33_17_e,c33_18_r,(show opsOf c33_18 = _ :: _ from rfl),sz32,ag32,c33_19_e,zq0,zq1,zq4,zq8,zq9,zq17,yc6,yc7,setA,setB,za,zb,zc,zd,ze,zf,zg,zh,zi,zj,zk,zl,zm,zn,zo,zp,reduceCtorEq,zE,↓reduceIte]
   all_goals rfl
  ·simp -implicitDefEqProofs only [c33_20_e,c33_21_r,(show opsOf c33_21 = _ :: _ from rfl),zq0,zq1,zq4,zq8,zq9,zq17,yc6,yc7,setA,setB,za,zb,zc,zd,ze,zf,zg,zh,zi,zj,zk,zl,zm,zn,zo,zp,reduceCtorEq,zE,↓reduceIte]
   refine brB (fun yc8=>?_) (fun yc8=>?_)
   ·simp -implicitDefEqProofs only [zq0,zq1,zq4,zq8,zq9,zq17,yc6,yc7,yc8,setA,setB,za,zb,zc,zd,ze,zf,zg,zh,zi,zj,zk,zl,zm,zn,zo,zp,reduceCtorEq,zE,↓reduceIte]
    exact j33_22_t b0_0 b0_1 end9 true h0_0 h0_1 h0_2 h0_3_0 h0_3_1 h0_4_0 h0_4_1 h1_0 h1_1 h1_2 h1_3_0 h1_3_1 h1_4_0 h1_4_1 _ (by exact zq0) (by exact zq1) (by exact zq4) (by exact zq8) (by exact zq9) (by rfl)
   ·simp -implicitDefEqProofs only [Tryz.underlying22,sz5,enB_a,zq0,zq1,zq4,zq8,zq9,zq17,yc6,yc7,yc8,setA,setB,za,zb,zc,zd,ze,zf,zg,zh,zi,zj,zk,zl,zm,zn,zo,zp,reduceCtorEq,zE,↓reduceIte]
    refine brP (fun yc27=>?_) (fun yc27=>?_)
    ·have yd28:(w64 (end9 - 1)).toNat < b0_1.length:=by omega
     simp -implicitDefEqProofs only [(enL_get enB b0_1 ((w64 (end9 - 1)).toNat) yd28),enB_e,sz5,ag5,zq0,zq1,zq4,zq8,zq9,zq17,yc6,yc7,yc8,yc27,yd28,setA,setB,za,zb,zc,zd,ze,zf,zg,zh,zi,zj,zk,zl,zm,zn,zo,zp,reduceCtorEq,zE,↓reduceIte]
     exact j33_22_t b0_0 b0_1 end9 (!((b0_1.getD ((w64 (end9 - 1)).toNat) default) == (13:UInt8))) h0_0 h0_1 h0_2 h0_3_0 h0_3_1 h0_4_0 h0_4_1 h1_0 h1_1 h1_2 h1_3_0 h1_3_1 h1_4_0 h1_4_1 _ (by exact zq0) (by exact zq1) (by exact zq4) (by exact zq8) (by exact zq9) (by rfl)
    ·rw [if_neg yc27]; rfl
def m33 (b_0:Bool) (b_1:List UInt8):Option R33:=
 (bnd (min2 (b_1.length:Int) 512) b_1.length).bind fun yk2=>
  (m46 b_0 (b_1.take yk2) (10:UInt8)).bind fun yr4=>
   if (decide (yr4 < 0)) = true then
    j33_10 b_0 b_1 yr4 (decide (512≤(b_1.length:Int))) (0:Int) ([]:Bs) (0:Int) true ([]:List (Bs×Bs)) true ([]:List UInt8) (0:Int) ([]:Bs) (0:Int) true ([]:List (Bs×Bs)) true ([]:List UInt8)
   else
    j33_10 b_0 b_1 yr4 false (0:Int) ([]:Bs) (0:Int) true ([]:List (Bs×Bs)) true ([]:List UInt8) (0:Int) ([]:Bs) (0:Int) true ([]:List (Bs×Bs)) true ([]:List UInt8)
theorem f33_t (b_0:Bool) (b_1:List UInt8):
  callW (E0 mm) 33 [.c (.d (.lst b_0 (enL enB b_1))),.c (.d (.sc (.func (.func 34) #[] #[])))] [] = (m33 b_0 b_1).map e33:=by
 rw [callW_run (body:=c33_0) (res:=[.cell 4 32,.tmp 5,.tmp 6,.tmp 7]) Tryz.func33 rfl rfl (by kernel_rfl)]
 simp -implicitDefEqProofs only [m33,slots2,c33_0_e,c33_1_r,(show opsOf c33_1 = _ :: _ from rfl),zc32,ao6,c33_2_e,c33_3_r,(show opsOf c33_3 = _ :: _ from rfl),ao7,c33_4_e,c33_5_r,(show opsOf c33_5 = _ :: _ from rfl),Tryz.underlying22,Tryz.underlying3,enB_a,sz5,setA,setB,za,zb,zc,zd,ze,zf,zg,zh,zi,zj,zk,zl,zm,zn,zo,zp,reduceCtorEq,zE,↓reduceIte]
 refine brM (fun yc1=>?_) (fun yk2 yc1=>?_)
 ·rw [yc1]; rfl
 ·simp -implicitDefEqProofs only [Option.isNone_some,Bool.false_and,Bool.and_false,Bool.false_eq_true,if_false,ent46,prm46,f46_t,yc1,setA,setB,za,zb,zc,zd,ze,zf,zg,zh,zi,zj,zk,zl,zm,zn,zo,zp,reduceCtorEq,zE,↓reduceIte]
  refine brM (fun yc3=>?_) (fun yr4 yc3=>?_)
  ·rw [yc3]; rfl
  ·simp -implicitDefEqProofs only [e46,c33_6_e,c33_7_e,c33_8_e,c33_9_r,(show opsOf c33_9 = _ :: _ from rfl),yc1,yc3,setA,setB,za,zb,zc,zd,ze,zf,zg,zh,zi,zj,zk,zl,zm,zn,zo,zp,reduceCtorEq,zE,↓reduceIte]
   refine brB (fun yc5=>?_) (fun yc5=>?_)
   ·simp -implicitDefEqProofs only [Tryz.underlying22,yc1,yc3,yc5,setA,setB,za,zb,zc,zd,ze,zf,zg,zh,zi,zj,zk,zl,zm,zn,zo,zp,reduceCtorEq,zE,↓reduceIte]
    exact j33_10_t b_0 b_1 yr4 (decide (512≤(b_1.length:Int))) (0:Int) ([]:Bs) (0:Int) true ([]:List (Bs×Bs)) true ([]:List UInt8) (0:Int) ([]:Bs) (0:Int) true ([]:List (Bs×Bs)) true ([]:List UInt8) _ (by rfl) (by rfl) (by rfl) (by rfl) (by rfl) (by rfl)
   ·simp -implicitDefEqProofs only [yc1,yc3,yc5,setA,setB,za,zb,zc,zd,ze,zf,zg,zh,zi,zj,zk,zl,zm,zn,zo,zp,reduceCtorEq,zE,↓reduceIte]
    exact j33_10_t b_0 b_1 yr4 false (0:Int) ([]:Bs) (0:Int) true ([]:List (Bs×Bs)) true ([]:List UInt8) (0:Int) ([]:Bs) (0:Int) true ([]:List (Bs×Bs)) true ([]:List UInt8) _ (by rfl) (by rfl) (by rfl) (by rfl) (by rfl) (by rfl)
noncomputable def c36_0:Code:=bodyOf Tryz.f36
def c36_1:=cA c36_0
def c36_2:=cB c36_0
def c36_3:=cA c36_2
def c36_4:=cA c36_3
def c36_5:=cB c36_3
def c36_6:=cA c36_5
def c36_7:=cA c36_6
def c36_8:=cB c36_6
def c36_9:=cB c36_5
def c36_10:=cB c36_2
def c36_11:=cA c36_10
def c36_12:=cB c36_10
def c36_13:=cA c36_12
def c36_14:=cA c36_13
def c36_15:=cA c36_14
def c36_16:=cB c36_14
def c36_17:=cA c36_16
def c36_18:=cA c36_17
def c36_19:=cB c36_17
def c36_20:=cB c36_16
def c36_21:=cA c36_20
def c36_22:=cA c36_21
def c36_23:=cB c36_21
def c36_24:=cA c36_23
def c36_25:=cB c36_23
def c36_26:=cA c36_25
def c36_27:=cB c36_25
def c36_28:=cA c36_27
def c36_29:=cB c36_27
def c36_30:=cA c36_29
def c36_31:=cB c36_29
def c36_32:=cA c36_31
def c36_33:=cB c36_31
def c36_34:=cA c36_33
def c36_35:=cB c36_33
def c36_36:=cA c36_35
def c36_37:=cB c36_35
def c36_38:=cB c36_20
def c36_39:=cA c36_38
def c36_40:=cA c36_39
def c36_41:=cB c36_39
def c36_42:=cB c36_38
def c36_43:=cA c36_42
def c36_44:=cB c36_42
def c36_45:=cA c36_44
def c36_46:=cA c36_45
def c36_47:=cB c36_45
def c36_48:=cB c36_44
def c36_49:=cB c36_12
def c36_50:=cA c36_49
def c36_51:=cB c36_49
theorem c36_0_e:c36_0 = .seq c36_1 c36_2:=rfl
theorem c36_1_r:RG (E0 mm) 36 c36_1:=rgN rfl
theorem c36_2_e:c36_2 = .seq c36_3 c36_10:=rfl
theorem c36_3_e:c36_3 = .seq c36_4 c36_5:=rfl
theorem c36_4_r:RG (E0 mm) 36 c36_4:=rgN rfl
theorem c36_6_e:c36_6 = .seq c36_7 c36_8:=rfl
theorem c36_7_r:RG (E0 mm) 36 c36_7:=rgN rfl
theorem c36_8_e:c36_8 = .ret:=rfl
theorem c36_9_e:c36_9 = .skip:=rfl
theorem c36_10_e:c36_10 = .seq c36_11 c36_12:=rfl
theorem c36_11_r:RG (E0 mm) 36 c36_11:=rgN rfl
theorem c36_12_e:c36_12 = .seq c36_13 c36_49:=rfl
theorem c36_13_e:c36_13 = .block 0 c36_14:=rfl
theorem c36_14_e:c36_14 = .seq c36_15 c36_16:=rfl
theorem c36_15_r:RG (E0 mm) 36 c36_15:=rgN rfl
theorem c36_17_e:c36_17 = .seq c36_18 c36_19:=rfl
theorem c36_18_r:RG (E0 mm) 36 c36_18:=rgN rfl
theorem c36_19_e:c36_19 = .ret:=rfl
theorem c36_20_e:c36_20 = .seq c36_21 c36_38:=rfl
theorem c36_21_e:c36_21 = .seq c36_22 c36_23:=rfl
theorem c36_22_r:RG (E0 mm) 36 c36_22:=rgN rfl
theorem c36_24_e:c36_24 = .skip:=rfl
theorem c36_25_e:c36_25 = .seq c36_26 c36_27:=rfl
theorem c36_26_r:RG (E0 mm) 36 c36_26:=rgN rfl
theorem c36_28_e:c36_28 = .skip:=rfl
theorem c36_29_e:c36_29 = .seq c36_30 c36_31:=rfl
theorem c36_30_r:RG (E0 mm) 36 c36_30:=rgN rfl
theorem c36_32_e:c36_32 = .skip:=rfl
theorem c36_33_e:c36_33 = .seq c36_34 c36_35:=rfl
theorem c36_34_r:RG (E0 mm) 36 c36_34:=rgN rfl
theorem c36_36_e:c36_36 = .skip:=rfl
theorem c36_37_r:RG (E0 mm) 36 c36_37:=rgN rfl
theorem c36_39_e:c36_39 = .seq c36_40 c36_41:=rfl
theorem c36_40_r:RG (E0 mm) 36 c36_40:=rgN rfl
theorem c36_41_e:c36_41 = .ret:=rfl
theorem c36_42_e:c36_42 = .seq c36_43 c36_44:=rfl
theorem c36_43_r:RG (E0 mm) 36 c36_43:=rgN rfl
theorem c36_45_e:c36_45 = .seq c36_46 c36_47:=rfl
theorem c36_46_r:RG (E0 mm) 36 c36_46:=rgN rfl
theorem c36_47_e:c36_47 = .ret:=rfl
theorem c36_48_e:c36_48 = .skip:=rfl
theorem c36_49_e:c36_49 = .seq c36_50 c36_51:=rfl
theorem c36_50_r:RG (E0 mm) 36 c36_50:=rgN rfl
theorem c36_51_e:c36_51 = .ret:=rfl
abbrev R36:=(Int×Int×Int)
def e36:R36→AV×Heap:=fun x=>(.tup [.c (.d (.sc (.int .i64 x.1))),.c (.d (.sc (.int .u64 x.2.1))),.c (.d (.sc (.int .i64 x.2.2)))],[])
def j36_38 (kind11 n12:Int) (big13:Bool) (e14:Int) (t41:Bool):Option R36:=
 if t41 = true then
  some ((0:Int),(0:Int),(0:Int))
 else
  if (kind11 == 0) = true then
   some ((3:Int),(0:Int),(0:Int))
  else
   (m50 kind11 n12 big13 e14).bind fun yr11=>
    some (yr11.1,yr11.2.1,yr11.2.2)
theorem j36_38_t (kind11 n12:Int) (big13:Bool) (e14:Int) (t41:Bool)  (sl:Nat→AV) (zq11:sl 11 = .v (.c (.d (.sc (.int .i64 kind11))))) (zq12:sl 12 = .v (.c (.d (.sc (.int .u64 n12))))) (zq13:sl 13 = .v (.c (.d (.sc (.bool big13))))) (zq14:sl 14 = .v (.c (.d (.sc (.int .i64 e14))))) (zq41:sl 41 = .v (.c (.d (.sc (.bool t41))))):
  bodyD (E0 mm) [.tmp 8,.tmp 9,.tmp 10] 0 false (seqD (E0 mm) 36 0 (callW (E0 mm)) itW c36_49 (blockD 0 (den (E0 mm) 36 0 (callW (E0 mm)) itW c36_38 none ⟨sl,[]⟩))) = (j36_38 kind11 n12 big13 e14 t41).map e36:=by
 simp -implicitDefEqProofs only [j36_38,(show c36_38 = Code.cond _ c36_39 c36_42 from rfl),zq11,zq12,zq13,zq14,zq41,setA,setB,za,zb,zc,zd,ze,zf,zg,zh,zi,zj,zk,zl,zm,zn,zo,zp,reduceCtorEq,zE,↓reduceIte]
 refine brB (fun yc8=>?_) (fun yc8=>?_)
 ·simp -implicitDefEqProofs only [c36_39_e,c36_40_r,(show opsOf c36_40 = _ :: _ from rfl),c36_41_e,zq11,zq12,zq13,zq14,zq41,yc8,setA,setB,za,zb,zc,zd,ze,zf,zg,zh,zi,zj,zk,zl,zm,zn,zo,zp,reduceCtorEq,zE,↓reduceIte]
  all_goals rfl
 ·simp -implicitDefEqProofs only [c36_42_e,c36_43_r,(show opsOf c36_43 = _ :: _ from rfl),(show c36_44 = Code.cond _ c36_45 c36_48 from rfl),zq11,zq12,zq13,zq14,zq41,yc8,setA,setB,za,zb,zc,zd,ze,zf,zg,zh,zi,zj,zk,zl,zm,zn,zo,zp,reduceCtorEq,zE,↓reduceIte]
  refine brB (fun yc9=>?_) (fun yc9=>?_)
  ·simp -implicitDefEqProofs only [c36_45_e,c36_46_r,(show opsOf c36_46 = _ :: _ from rfl),c36_47_e,zq11,zq12,zq13,zq14,zq41,yc8,yc9,setA,setB,za,zb,zc,zd,ze,zf,zg,zh,zi,zj,zk,zl,zm,zn,zo,zp,reduceCtorEq,zE,↓reduceIte]
   all_goals rfl
  ·simp -implicitDefEqProofs only [c36_48_e,c36_49_e,c36_50_r,(show opsOf c36_50 = _ :: _ from rfl),ent50,prm50,f50_t,zq11,zq12,zq13,zq14,zq41,yc8,yc9,setA,setB,za,zb,zc,zd,ze,zf,zg,zh,zi,zj,zk,zl,zm,zn,zo,zp,reduceCtorEq,zE,↓reduceIte]
   refine brM (fun yc10=>?_) (fun yr11 yc10=>?_)
   ·rw [yc10]; rfl
   ·simp -implicitDefEqProofs only [e50,c36_51_e,zq11,zq12,zq13,zq14,zq41,yc8,yc9,yc10,setA,setB,za,zb,zc,zd,ze,zf,zg,zh,zi,zj,zk,zl,zm,zn,zo,zp,reduceCtorEq,zE,↓reduceIte]
    all_goals rfl
def j36_5 (status0:Int) (method1:Bs) (minor2:Int) (l3_0:Bool) (l3_1:List (Bs×Bs)) (t28:Bool):Option R36:=
 if t28 = true then
  some ((0:Int),(0:Int),(1:Int))
 else
  (m51 minor2 l3_0 l3_1).bind fun yr5=>
   if (yr5.2.2.2 == 0) = true then
    if (method1 == ([72,69,65,68]:Bs)) = true then
     j36_38 yr5.1 yr5.2.1 yr5.2.2.1 yr5.2.2.2 true
    else
     if (decide (status0 < 200)) = true then
      j36_38 yr5.1 yr5.2.1 yr5.2.2.1 yr5.2.2.2 true
     else
      if (status0 == 204) = true then
       j36_38 yr5.1 yr5.2.1 yr5.2.2.1 yr5.2.2.2 true
      else
       if (status0 == 304) = true then
        j36_38 yr5.1 yr5.2.1 yr5.2.2.1 yr5.2.2.2 true
       else
        if (method1 == ([67,79,78,78,69,67,84]:Bs)) = true then
         j36_38 yr5.1 yr5.2.1 yr5.2.2.1 yr5.2.2.2 (decide (status0 < 300))
        else
         j36_38 yr5.1 yr5.2.1 yr5.2.2.1 yr5.2.2.2 false
   else
    some ((0:Int),(0:Int),yr5.2.2.2)
theorem j36_5_t (status0:Int) (method1:Bs) (minor2:Int) (l3_0:Bool) (l3_1:List (Bs×Bs)) (t28:Bool)  (sl:Nat→AV) (zq0:sl 0 = .v (.c (.d (.sc (.int .i64 status0))))) (zq1:sl 1 = .v (.c (.d (.sc (.string (S method1)))))) (zq2:sl 2 = .v (.c (.d (.sc (.int .i64 minor2))))) (zq3:sl 3 = .v (.c (.d (.lst l3_0 (enL enSS l3_1))))) (zq28:sl 28 = .v (.c (.d (.sc (.bool t28))))):
  bodyD (E0 mm) [.tmp 8,.tmp 9,.tmp 10] 0 false (seqD (E0 mm) 36 0 (callW (E0 mm)) itW c36_10 (den (E0 mm) 36 0 (callW (E0 mm)) itW c36_5 none ⟨sl,[]⟩)) = (j36_5 status0 method1 minor2 l3_0 l3_1 t28).map e36:=by
 simp -implicitDefEqProofs only [j36_5,(show c36_5 = Code.cond _ c36_6 c36_9 from rfl),zq0,zq1,zq2,zq3,zq28,setA,setB,za,zb,zc,zd,ze,zf,zg,zh,zi,zj,zk,zl,zm,zn,zo,zp,reduceCtorEq,zE,↓reduceIte]
 refine brB (fun yc3=>?_) (fun yc3=>?_)
 ·simp -implicitDefEqProofs only [c36_6_e,c36_7_r,(show opsOf c36_7 = _ :: _ from rfl),c36_8_e,zq0,zq1,zq2,zq3,zq28,yc3,setA,setB,za,zb,zc,zd,ze,zf,zg,zh,zi,zj,zk,zl,zm,zn,zo,zp,reduceCtorEq,zE,↓reduceIte]
  all_goals rfl
 ·simp -implicitDefEqProofs only [c36_9_e,c36_10_e,c36_11_r,(show opsOf c36_11 = _ :: _ from rfl),ent51,prm51,f51_t,zq0,zq1,zq2,zq3,zq28,yc3,setA,setB,za,zb,zc,zd,ze,zf,zg,zh,zi,zj,zk,zl,zm,zn,zo,zp,reduceCtorEq,zE,↓reduceIte]
  refine brM (fun yc4=>?_) (fun yr5 yc4=>?_)
  ·rw [yc4]; rfl
  ·simp -implicitDefEqProofs only [e51,c36_12_e,c36_13_e,c36_14_e,c36_15_r,(show opsOf c36_15 = _ :: _ from rfl),(show c36_16 = Code.cond _ c36_17 c36_20 from rfl),zq0,zq1,zq2,zq3,zq28,yc3,yc4,setA,setB,za,zb,zc,zd,ze,zf,zg,zh,zi,zj,zk,zl,zm,zn,zo,zp,reduceCtorEq,zE,↓reduceIte]
   refine brB (fun yc6=>?_) (fun yc6=>?_)
   ·simp -implicitDefEqProofs only [c36_20_e,c36_21_e,c36_22_r,(show opsOf c36_22 = _ :: _ from rfl),(show c36_23 = Code.cond _ c36_24 c36_25 from rfl),zq0,zq1,zq2,zq3,zq28,yc3,yc4,yc6,setA,setB,za,zb,zc,zd,ze,zf,zg,zh,zi,zj,zk,zl,zm,zn,zo,zp,reduceCtorEq,zE,↓reduceIte]
    refine brB (fun yc7=>?_) (fun yc7=>?_)
    ·simp -implicitDefEqProofs only [c36_24_e,zq0,zq1,zq2,zq3,zq28,yc3,yc4,yc6,yc7,setA,setB,za,zb,zc,zd,ze,zf,zg,zh,zi,zj,zk,zl,zm,zn,zo,zp,reduceCtorEq,zE,↓reduceIte]
     exact j36_38_t yr5.1 yr5.2.1 yr5.2.2.1 yr5.2.2.2 true _ (by rfl) (by rfl) (by rfl) (by rfl) (by rfl)
    ·simp -implicitDefEqProofs only [c36_25_e,c36_26_r,(show opsOf c36_26 = _ :: _ from rfl),(show c36_27 = Code.cond _ c36_28 c36_29 from rfl),zq0,zq1,zq2,zq3,zq28,yc3,yc4,yc6,yc7,setA,setB,za,zb,zc,zd,ze,zf,zg,zh,zi,zj,zk,zl,zm,zn,zo,zp,reduceCtorEq,zE,↓reduceIte]
     refine brB (fun yc12=>?_) (fun yc12=>?_)
     ·simp -implicitDefEqProofs only [c36_28_e,zq0,zq1,zq2,zq3,zq28,yc3,yc4,yc6,yc7,yc12,setA,setB,za,zb,zc,zd,ze,zf,zg,zh,zi,zj,zk,zl,zm,zn,zo,zp,reduceCtorEq,zE,↓reduceIte]
      exact j36_38_t yr5.1 yr5.2.1 yr5.2.2.1 yr5.2.2.2 true _ (by rfl) (by rfl) (by rfl) (by rfl) (by rfl)
     ·simp -implicitDefEqProofs only [c36_29_e,c36_30_r,(show opsOf c36_30 = _ :: _ from rfl),(show c36_31 = Code.cond _ c36_32 c36_33 from rfl),zq0,zq1,zq2,zq3,zq28,yc3,yc4,yc6,yc7,yc12,setA,setB,za,zb,zc,zd,ze,zf,zg,zh,zi,zj,zk,zl,zm,zn,zo,zp,reduceCtorEq,zE,↓reduceIte]
      refine brB (fun yc13=>?_) (fun yc13=>?_)
      ·simp -implicitDefEqProofs only [c36_32_e,zq0,zq1,zq2,zq3,zq28,yc3,yc4,yc6,yc7,yc12,yc13,setA,setB,za,zb,zc,zd,ze,zf,zg,zh,zi,zj,zk,zl,zm,zn,zo,zp,reduceCtorEq,zE,↓reduceIte]
       exact j36_38_t yr5.1 yr5.2.1 yr5.2.2.1 yr5.2.2.2 true _ (by rfl) (by rfl) (by rfl) (by rfl) (by rfl)
      ·simp -implicitDefEqProofs only [c36_33_e,c36_34_r,(show opsOf c36_34 = _ :: _ from rfl),(show c36_35 = Code.cond _ c36_36 c36_37 from rfl),zq0,zq1,zq2,zq3,zq28,yc3,yc4,yc6,yc7,yc12,yc13,setA,setB,za,zb,zc,zd,ze,zf,zg,zh,zi,zj,zk,zl,zm,zn,zo,zp,reduceCtorEq,zE,↓reduceIte]
       refine brB (fun yc14=>?_) (fun yc14=>?_)
       ·simp -implicitDefEqProofs only [c36_36_e,zq0,zq1,zq2,zq3,zq28,yc3,yc4,yc6,yc7,yc12,yc13,yc14,setA,setB,za,zb,zc,zd,ze,zf,zg,zh,zi,zj,zk,zl,zm,zn,zo,zp,reduceCtorEq,zE,↓reduceIte]
        exact j36_38_t yr5.1 yr5.2.1 yr5.2.2.1 yr5.2.2.2 true _ (by rfl) (by rfl) (by rfl) (by rfl) (by rfl)
       ·simp -implicitDefEqProofs only [c36_37_r,(show opsOf c36_37 = _ :: _ from rfl),zq0,zq1,zq2,zq3,zq28,yc3,yc4,yc6,yc7,yc12,yc13,yc14,setA,setB,za,zb,zc,zd,ze,zf,zg,zh,zi,zj,zk,zl,zm,zn,zo,zp,reduceCtorEq,zE,↓reduceIte]
        refine brB (fun yc15=>?_) (fun yc15=>?_)
        ·simp -implicitDefEqProofs only [zq0,zq1,zq2,zq3,zq28,yc3,yc4,yc6,yc7,yc12,yc13,yc14,yc15,setA,setB,za,zb,zc,zd,ze,zf,zg,zh,zi,zj,zk,zl,zm,zn,zo,zp,reduceCtorEq,zE,↓reduceIte]
         exact j36_38_t yr5.1 yr5.2.1 yr5.2.2.1 yr5.2.2.2 (decide (status0 < 300)) _ (by rfl) (by rfl) (by rfl) (by rfl) (by rfl)
        ·simp -implicitDefEqProofs only [zq0,zq1,zq2,zq3,zq28,yc3,yc4,yc6,yc7,yc12,yc13,yc14,yc15,setA,setB,za,zb,zc,zd,ze,zf,zg,zh,zi,zj,zk,zl,zm,zn,zo,zp,reduceCtorEq,zE,↓reduceIte]
         exact j36_38_t yr5.1 yr5.2.1 yr5.2.2.1 yr5.2.2.2 false _ (by rfl) (by rfl) (by rfl) (by rfl) (by rfl)
   ·simp -implicitDefEqProofs only [c36_17_e,c36_18_r,(show opsOf c36_18 = _ :: _ from rfl),c36_19_e,zq0,zq1,zq2,zq3,zq28,yc3,yc4,yc6,setA,setB,za,zb,zc,zd,ze,zf,zg,zh,zi,zj,zk,zl,zm,zn,zo,zp,reduceCtorEq,zE,↓reduceIte]
    all_goals rfl
def m36 (status:Int) (method:Bs) (minor:Int) (l_0:Bool) (l_1:List (Bs×Bs)):Option R36:=
 if (minor == 0) = true then
  if (decide (status < 100)) = true then
   j36_5 status method minor l_0 l_1 true
  else
   j36_5 status method minor l_0 l_1 (decide (599 < status))
 else
  if (minor == 1) = true then
   if (decide (status < 100)) = true then
    j36_5 status method minor l_0 l_1 true
   else
    j36_5 status method minor l_0 l_1 (decide (599 < status))
  else
   j36_5 status method minor l_0 l_1 true
theorem f36_t (status:Int) (method:Bs) (minor:Int) (l_0:Bool) (l_1:List (Bs×Bs)):
  callW (E0 mm) 36 [.c (.d (.sc (.int .i64 status))),.c (.d (.sc (.string (S method)))),.c (.d (.sc (.int .i64 minor))),.c (.d (.lst l_0 (enL enSS l_1)))] [] = (m36 status method minor l_0 l_1).map e36:=by
 rw [callW_run (body:=c36_0) (res:=[.tmp 8,.tmp 9,.tmp 10]) Tryz.func36 rfl rfl (by kernel_rfl)]
 simp -implicitDefEqProofs only [m36,slots4,c36_0_e,c36_1_r,(show opsOf c36_1 = _ :: _ from rfl),c36_2_e,c36_3_e,c36_4_r,(show opsOf c36_4 = _ :: _ from rfl),setA,setB,za,zb,zc,zd,ze,zf,zg,zh,zi,zj,zk,zl,zm,zn,zo,zp,reduceCtorEq,zE,↓reduceIte]
 refine brB (fun yc1=>?_) (fun yc1=>?_)
 ·simp -implicitDefEqProofs only [yc1,setA,setB,za,zb,zc,zd,ze,zf,zg,zh,zi,zj,zk,zl,zm,zn,zo,zp,reduceCtorEq,zE,↓reduceIte]
  refine brB (fun yc2=>?_) (fun yc2=>?_)
  ·simp -implicitDefEqProofs only [yc1,yc2,setA,setB,za,zb,zc,zd,ze,zf,zg,zh,zi,zj,zk,zl,zm,zn,zo,zp,reduceCtorEq,zE,↓reduceIte]
   exact j36_5_t status method minor l_0 l_1 true _ (by rfl) (by rfl) (by rfl) (by rfl) (by rfl)
  ·simp -implicitDefEqProofs only [yc1,yc2,setA,setB,za,zb,zc,zd,ze,zf,zg,zh,zi,zj,zk,zl,zm,zn,zo,zp,reduceCtorEq,zE,↓reduceIte]
   exact j36_5_t status method minor l_0 l_1 (decide (599 < status)) _ (by rfl) (by rfl) (by rfl) (by rfl) (by rfl)
 ·simp -implicitDefEqProofs only [yc1,setA,setB,za,zb,zc,zd,ze,zf,zg,zh,zi,zj,zk,zl,zm,zn,zo,zp,reduceCtorEq,zE,↓reduceIte]
  refine brB (fun yc16=>?_) (fun yc16=>?_)
  ·simp -implicitDefEqProofs only [yc1,yc16,setA,setB,za,zb,zc,zd,ze,zf,zg,zh,zi,zj,zk,zl,zm,zn,zo,zp,reduceCtorEq,zE,↓reduceIte]
   refine brB (fun yc17=>?_) (fun yc17=>?_)
   ·simp -implicitDefEqProofs only [yc1,yc16,yc17,setA,setB,za,zb,zc,zd,ze,zf,zg,zh,zi,zj,zk,zl,zm,zn,zo,zp,reduceCtorEq,zE,↓reduceIte]
    exact j36_5_t status method minor l_0 l_1 true _ (by rfl) (by rfl) (by rfl) (by rfl) (by rfl)
   ·simp -implicitDefEqProofs only [yc1,yc16,yc17,setA,setB,za,zb,zc,zd,ze,zf,zg,zh,zi,zj,zk,zl,zm,zn,zo,zp,reduceCtorEq,zE,↓reduceIte]
    exact j36_5_t status method minor l_0 l_1 (decide (599 < status)) _ (by rfl) (by rfl) (by rfl) (by rfl) (by rfl)
  ·simp -implicitDefEqProofs only [yc1,yc16,setA,setB,za,zb,zc,zd,ze,zf,zg,zh,zi,zj,zk,zl,zm,zn,zo,zp,reduceCtorEq,zE,↓reduceIte]
   exact j36_5_t status method minor l_0 l_1 true _ (by rfl) (by rfl) (by rfl) (by rfl) (by rfl)
end
end Go.Proofs.YtoohbnmhjfgclaaGreatDoor
