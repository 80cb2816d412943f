/- The Go functions as plain functions, and that the evaluator computes them. -/
import Derived.Test.YtoohbnmhjfgclaaGreatDoorFStays7
set_option linter.all false
set_option maxRecDepth 100000
namespace Go.Proofs.YtoohbnmhjfgclaaGreatDoor
open Go Go.Ab
open Nat renaming reduceEqDiff→za,reduceAdd→zb,reduceLeDiff→zc,reduceLT→zd,reduceMul→ze,reduceBEq→zf,reduceSub→zg,reducePow→zh
open Int renaming reduceEq→zi,reduceLE→zj,reduceLT→zk,reduceToNat→zl,reduceNegSucc→zm,reduceAdd→zn,reduceBEq→zo
open String renaming reduceBEq→zp
set_option maxHeartbeats 4000000
noncomputable section
variable {mm:Int}
noncomputable def c11_0:Code:=bodyOf Tryz.f11
def c11_1:=cA c11_0
def c11_2:=cB c11_0
def c11_3:=cA c11_2
def c11_4:=cB c11_2
def c11_5:=cA c11_4
def c11_6:=cA c11_5
def c11_7:=cB c11_5
def c11_8:=cA c11_7
def c11_9:=cA c11_8
def c11_10:=cB c11_8
def c11_11:=cB c11_7
def c11_12:=cB c11_4
def c11_13:=cA c11_12
def c11_14:=cB c11_12
def c11_15:=cA c11_14
def c11_16:=cA c11_15
def c11_17:=cB c11_15
def c11_18:=cA c11_17
def c11_19:=cA c11_18
def c11_20:=cB c11_18
def c11_21:=cB c11_17
def c11_22:=cB c11_14
def c11_23:=cA c11_22
def c11_24:=cB c11_22
def c11_25:=cA c11_24
def c11_26:=cA c11_25
def c11_27:=cB c11_25
def c11_28:=cA c11_27
def c11_29:=cA c11_28
def c11_30:=cB c11_28
def c11_31:=cB c11_27
def c11_32:=cB c11_24
def c11_33:=cA c11_32
def c11_34:=cB c11_32
def c11_35:=cA c11_34
def c11_36:=cB c11_34
theorem c11_0_e:c11_0 = .seq c11_1 c11_2:=rfl
theorem c11_1_r:RG (E0 mm) 11 c11_1:=rgN rfl
theorem c11_2_e:c11_2 = .seq c11_3 c11_4:=rfl
theorem c11_3_r:RG (E0 mm) 11 c11_3:=rgN rfl
theorem c11_4_e:c11_4 = .seq c11_5 c11_12:=rfl
theorem c11_5_e:c11_5 = .seq c11_6 c11_7:=rfl
theorem c11_6_r:RG (E0 mm) 11 c11_6:=rgN rfl
theorem c11_8_e:c11_8 = .seq c11_9 c11_10:=rfl
theorem c11_9_r:RG (E0 mm) 11 c11_9:=rgN rfl
theorem c11_10_e:c11_10 = .ret:=rfl
theorem c11_11_e:c11_11 = .skip:=rfl
theorem c11_12_e:c11_12 = .seq c11_13 c11_14:=rfl
theorem c11_13_r:RG (E0 mm) 11 c11_13:=rgN rfl
theorem c11_14_e:c11_14 = .seq c11_15 c11_22:=rfl
theorem c11_15_e:c11_15 = .seq c11_16 c11_17:=rfl
theorem c11_16_r:RG (E0 mm) 11 c11_16:=rgN rfl
theorem c11_18_e:c11_18 = .seq c11_19 c11_20:=rfl
theorem c11_19_r:RG (E0 mm) 11 c11_19:=rgN rfl
theorem c11_20_e:c11_20 = .ret:=rfl
theorem c11_21_e:c11_21 = .skip:=rfl
theorem c11_22_e:c11_22 = .seq c11_23 c11_24:=rfl
theorem c11_23_r:RG (E0 mm) 11 c11_23:=rgN rfl
theorem c11_24_e:c11_24 = .seq c11_25 c11_32:=rfl
theorem c11_25_e:c11_25 = .seq c11_26 c11_27:=rfl
theorem c11_26_r:RG (E0 mm) 11 c11_26:=rgN rfl
theorem c11_28_e:c11_28 = .seq c11_29 c11_30:=rfl
theorem c11_29_r:RG (E0 mm) 11 c11_29:=rgN rfl
theorem c11_30_e:c11_30 = .ret:=rfl
theorem c11_31_e:c11_31 = .skip:=rfl
theorem c11_32_e:c11_32 = .seq c11_33 c11_34:=rfl
theorem c11_33_r:RG (E0 mm) 11 c11_33:=rgN rfl
theorem c11_34_e:c11_34 = .seq c11_35 c11_36:=rfl
theorem c11_35_r:RG (E0 mm) 11 c11_35:=rgN rfl
theorem c11_36_e:c11_36 = .ret:=rfl
abbrev R11:=(Int×Bs×Int×Bool×List (Bs×Bs)×Bool×List UInt8×Int×Int)
def e11:R11→AV×Heap:=fun x=>(.tup [.agg [.d (.sc (.int .i64 x.1)),.d (.sc (.string (S x.2.1))),.d (.sc (.int .i64 x.2.2.1)),.d (.lst x.2.2.2.1 (enL enSS x.2.2.2.2.1)),.d (.lst x.2.2.2.2.2.1 (enL enB x.2.2.2.2.2.2.1))],.c (.d (.sc (.int .i64 x.2.2.2.2.2.2.2.1))),.c (.d (.sc (.int .i64 x.2.2.2.2.2.2.2.2)))],[])
def m11 (b_0:Bool) (b_1:List UInt8) (method:Bs) (ended:Bool):Option R11:=
 (m33 b_0 b_1).bind fun yr2=>
  if (yr2.2.2.2.2.2.2.2.2.2.2 == 0) = true then
   (m36 yr2.1 method yr2.2.2.1 yr2.2.2.2.2.2.2.2.1 yr2.2.2.2.2.2.2.2.2.1).bind fun yr5=>
    if (yr5.2.2 == 0) = true then
     (bnd yr2.2.2.2.2.2.2.2.2.2.1 b_1.length).bind fun yk8=>
      (m27 b_0 (b_1.drop yk8) yr5.1 yr5.2.1 ended).bind fun yr10=>
       if (yr10.2.2.2 == 0) = true then
        some (yr2.1,yr2.2.1,yr2.2.2.1,yr2.2.2.2.2.2.2.2.1,yr2.2.2.2.2.2.2.2.2.1,yr10.1,yr10.2.1,(w64 (yr2.2.2.2.2.2.2.2.2.2.1 + yr10.2.2.1)),(0:Int))
       else
        some ((0:Int),([]:Bs),(0:Int),true,([]:List (Bs×Bs)),true,([]:List UInt8),(0:Int),yr10.2.2.2)
    else
     some ((0:Int),([]:Bs),(0:Int),true,([]:List (Bs×Bs)),true,([]:List UInt8),(0:Int),yr5.2.2)
  else
   some ((0:Int),([]:Bs),(0:Int),true,([]:List (Bs×Bs)),true,([]:List UInt8),(0:Int),yr2.2.2.2.2.2.2.2.2.2.2)
theorem f11_t (b_0:Bool) (b_1:List UInt8) (method:Bs) (ended:Bool):
  callW (E0 mm) 11 [.c (.d (.lst b_0 (enL enB b_1))),.c (.d (.sc (.string (S method)))),.c (.d (.sc (.bool ended)))] [] = (m11 b_0 b_1 method ended).map e11:=by
 rw [callW_run (body:=c11_0) (res:=[.cell 6 32,.tmp 7,.tmp 8]) Tryz.func11 rfl rfl (by kernel_rfl)]
 simp -implicitDefEqProofs only [m11,slots3,c11_0_e,c11_1_r,(show opsOf c11_1 = _ :: _ from rfl),zc32,ao44,c11_2_e,c11_3_r,(show opsOf c11_3 = _ :: _ from rfl),ent33,prm33,f33_t,setA,setB,za,zb,zc,zd,ze,zf,zg,zh,zi,zj,zk,zl,zm,zn,zo,zp,reduceCtorEq,zE,↓reduceIte]
 refine brM (fun yc1=>?_) (fun yr2 yc1=>?_)
 ·rw [yc1]; rfl
 ·simp -implicitDefEqProofs only [e33,zc32,ao45,sz32,c11_4_e,c11_5_e,c11_6_r,(show opsOf c11_6 = _ :: _ from rfl),(show c11_7 = Code.cond _ c11_8 c11_11 from rfl),yc1,setA,setB,za,zb,zc,zd,ze,zf,zg,zh,zi,zj,zk,zl,zm,zn,zo,zp,reduceCtorEq,zE,↓reduceIte]
  refine brB (fun yc3=>?_) (fun yc3=>?_)
  ·simp -implicitDefEqProofs only [c11_11_e,c11_12_e,c11_13_r,(show opsOf c11_13 = _ :: _ from rfl),Tryz.underlying32,sz3,ag3,ent36,prm36,f36_t,yc1,yc3,setA,setB,za,zb,zc,zd,ze,zf,zg,zh,zi,zj,zk,zl,zm,zn,zo,zp,reduceCtorEq,zE,↓reduceIte]
   refine brM (fun yc4=>?_) (fun yr5 yc4=>?_)
   ·rw [yc4]; rfl
   ·simp -implicitDefEqProofs only [e36,c11_14_e,c11_15_e,c11_16_r,(show opsOf c11_16 = _ :: _ from rfl),(show c11_17 = Code.cond _ c11_18 c11_21 from rfl),yc1,yc3,yc4,setA,setB,za,zb,zc,zd,ze,zf,zg,zh,zi,zj,zk,zl,zm,zn,zo,zp,reduceCtorEq,zE,↓reduceIte]
    refine brB (fun yc6=>?_) (fun yc6=>?_)
    ·simp -implicitDefEqProofs only [c11_21_e,c11_22_e,c11_23_r,(show opsOf c11_23 = _ :: _ from rfl),Tryz.underlying22,enB_a,sz5,yc1,yc3,yc4,yc6,setA,setB,za,zb,zc,zd,ze,zf,zg,zh,zi,zj,zk,zl,zm,zn,zo,zp,reduceCtorEq,zE,↓reduceIte]
     refine brM (fun yc7=>?_) (fun yk8 yc7=>?_)
     ·rw [yc7]; rfl
     ·simp -implicitDefEqProofs only [Option.isNone_some,Bool.false_and,Bool.and_false,Bool.false_eq_true,if_false,ent27,prm27,f27_t,yc1,yc3,yc4,yc6,yc7,setA,setB,za,zb,zc,zd,ze,zf,zg,zh,zi,zj,zk,zl,zm,zn,zo,zp,reduceCtorEq,zE,↓reduceIte]
      refine brM (fun yc9=>?_) (fun yr10 yc9=>?_)
      ·rw [yc9]; rfl
      ·simp -implicitDefEqProofs only [e27,c11_24_e,c11_25_e,c11_26_r,(show opsOf c11_26 = _ :: _ from rfl),(show c11_27 = Code.cond _ c11_28 c11_31 from rfl),yc1,yc3,yc4,yc6,yc7,yc9,setA,setB,za,zb,zc,zd,ze,zf,zg,zh,zi,zj,zk,zl,zm,zn,zo,zp,reduceCtorEq,zE,↓reduceIte]
       refine brB (fun yc11=>?_) (fun yc11=>?_)
       ·simp -implicitDefEqProofs only [c11_31_e,c11_32_e,c11_33_r,(show opsOf c11_33 = _ :: _ from rfl),Tryz.underlying32,sz23,sz22,c11_34_e,c11_35_r,(show opsOf c11_35 = _ :: _ from rfl),sz32,ag32,c11_36_e,yc1,yc3,yc4,yc6,yc7,yc9,yc11,setA,setB,za,zb,zc,zd,ze,zf,zg,zh,zi,zj,zk,zl,zm,zn,zo,zp,reduceCtorEq,zE,↓reduceIte]
        all_goals rfl
       ·simp -implicitDefEqProofs only [c11_28_e,c11_29_r,(show opsOf c11_29 = _ :: _ from rfl),Tryz.underlying32,zc32,sz3,sz9,sz23,sz22,sz32,c11_30_e,ag32,yc1,yc3,yc4,yc6,yc7,yc9,yc11,setA,setB,za,zb,zc,zd,ze,zf,zg,zh,zi,zj,zk,zl,zm,zn,zo,zp,reduceCtorEq,zE,↓reduceIte]
        all_goals rfl
    ·simp -implicitDefEqProofs only [c11_18_e,c11_19_r,(show opsOf c11_19 = _ :: _ from rfl),Tryz.underlying32,zc32,sz3,sz9,sz23,sz22,sz32,c11_20_e,ag32,yc1,yc3,yc4,yc6,setA,setB,za,zb,zc,zd,ze,zf,zg,zh,zi,zj,zk,zl,zm,zn,zo,zp,reduceCtorEq,zE,↓reduceIte]
     all_goals rfl
  ·simp -implicitDefEqProofs only [c11_8_e,c11_9_r,(show opsOf c11_9 = _ :: _ from rfl),Tryz.underlying32,zc32,sz3,sz9,sz23,sz22,sz32,c11_10_e,ag32,yc1,yc3,setA,setB,za,zb,zc,zd,ze,zf,zg,zh,zi,zj,zk,zl,zm,zn,zo,zp,reduceCtorEq,zE,↓reduceIte]
   all_goals rfl
noncomputable def c42_0:Code:=bodyOf Tryz.f42
def c42_1:=cA c42_0
def c42_2:=cB c42_0
def c42_3:=cA c42_2
def c42_4:=cA c42_3
def c42_5:=cB c42_3
def c42_6:=cA c42_5
def c42_7:=cA c42_6
def c42_8:=cB c42_6
def c42_9:=cB c42_5
def c42_10:=cB c42_2
def c42_11:=cA c42_10
def c42_12:=cA c42_11
def c42_13:=cB c42_11
def c42_14:=cA c42_13
def c42_15:=cA c42_14
def c42_16:=cA c42_15
def c42_17:=cB c42_15
def c42_18:=cA c42_17
def c42_19:=cA c42_18
def c42_20:=cB c42_18
def c42_21:=cB c42_17
def c42_22:=cA c42_21
def c42_23:=cA c42_22
def c42_24:=cA c42_23
def c42_25:=cB c42_23
def c42_26:=cA c42_25
def c42_27:=cB c42_25
def c42_28:=cA c42_27
def c42_29:=cA c42_28
def c42_30:=cB c42_28
def c42_31:=cB c42_27
def c42_32:=cB c42_21
def c42_33:=cB c42_10
def c42_34:=cA c42_33
def c42_35:=cB c42_33
theorem c42_0_e:c42_0 = .seq c42_1 c42_2:=rfl
theorem c42_1_r:RG (E0 mm) 42 c42_1:=rgN rfl
theorem c42_2_e:c42_2 = .seq c42_3 c42_10:=rfl
theorem c42_3_e:c42_3 = .seq c42_4 c42_5:=rfl
theorem c42_4_r:RG (E0 mm) 42 c42_4:=rgN rfl
theorem c42_6_e:c42_6 = .seq c42_7 c42_8:=rfl
theorem c42_7_r:RG (E0 mm) 42 c42_7:=rgN rfl
theorem c42_8_e:c42_8 = .ret:=rfl
theorem c42_9_e:c42_9 = .skip:=rfl
theorem c42_10_e:c42_10 = .seq c42_11 c42_33:=rfl
theorem c42_11_e:c42_11 = .seq c42_12 c42_13:=rfl
theorem c42_12_r:RG (E0 mm) 42 c42_12:=rgN rfl
theorem c42_13_e:c42_13 = .block 0 c42_14:=rfl
theorem c42_14_l (m:Nat) (st:St):den (E0 mm) 42 m (callW (E0 mm)) itW c42_14 none st = loopD itW (loopF (E0 mm) 42 m (callW (E0 mm)) itW c42_15 [(0,.keep),(1,.keep),(12,.keep),(13,.keep)]) (canon m [(0,.keep),(1,.keep),(12,.keep),(13,.keep)] st):=rfl
theorem c42_15_e:c42_15 = .seq c42_16 c42_17:=rfl
theorem c42_16_r:RG (E0 mm) 42 c42_16:=rgN rfl
theorem c42_17_e:c42_17 = .seq c42_18 c42_21:=rfl
theorem c42_19_e:c42_19 = .skip:=rfl
theorem c42_20_e:c42_20 = .exit 0:=rfl
theorem c42_21_e:c42_21 = .seq c42_22 c42_32:=rfl
theorem c42_22_e:c42_22 = .block 1 c42_23:=rfl
theorem c42_23_e:c42_23 = .seq c42_24 c42_25:=rfl
theorem c42_24_r:RG (E0 mm) 42 c42_24:=rgN rfl
theorem c42_25_e:c42_25 = .seq c42_26 c42_27:=rfl
theorem c42_26_r:RG (E0 mm) 42 c42_26:=rgD (by kernel_rfl)
theorem c42_28_e:c42_28 = .seq c42_29 c42_30:=rfl
theorem c42_29_r:RG (E0 mm) 42 c42_29:=rgN rfl
theorem c42_30_e:c42_30 = .ret:=rfl
theorem c42_31_e:c42_31 = .skip:=rfl
theorem c42_32_r:RG (E0 mm) 42 c42_32:=rgN rfl
theorem c42_33_e:c42_33 = .seq c42_34 c42_35:=rfl
theorem c42_34_r:RG (E0 mm) 42 c42_34:=rgN rfl
theorem c42_35_e:c42_35 = .ret:=rfl
abbrev R42:=(Bool)
def e42:R42→AV×Heap:=fun x=>(.v (.c (.d (.sc (.bool x)))),[])
def K42_14:Option (Ex×St)→Option (AV×Heap):=fun r=>bodyD (E0 mm) [.tmp 4] 0 false (seqD (E0 mm) 42 0 (callW (E0 mm)) itW c42_33 (blockD 0 (r)))
def en42_14:(Bool×List (Bs×Bs)×Bool×List (Bs×Bs)×Int×Int)→X:=fun x=>(none,[.v (.c (.d (.lst x.1 (enL enSS x.2.1)))),.v (.c (.d (.lst x.2.2.1 (enL enSS x.2.2.2.1)))),.v (.c (.d (.sc (.int .i64 x.2.2.2.2.1)))),.v (.c (.d (.sc (.int .i64 x.2.2.2.2.2))))],[])
def j42_33  : Option R42:=
 some true
theorem j42_33_t   (sl:Nat→AV)  :
  bodyD (E0 mm) [.tmp 4] 0 false (den (E0 mm) 42 0 (callW (E0 mm)) itW c42_33 none ⟨sl,[]⟩) = (j42_33).map e42:=by
 simp -implicitDefEqProofs only [j42_33,c42_33_e,c42_34_r,(show opsOf c42_34 = _ :: _ from rfl),c42_35_e,setA,setB,za,zb,zc,zd,ze,zf,zg,zh,zi,zj,zk,zl,zm,zn,zo,zp,reduceCtorEq,zE,↓reduceIte]
 all_goals rfl
def s42_14 (s10_0:Bool) (s10_1:List (Bs×Bs)) (s21_0:Bool) (s21_1:List (Bs×Bs)) (t12 t13:Int):Option ((Bool×List (Bs×Bs)×Bool×List (Bs×Bs)×Int×Int) ⊕ R42):=
 if (decide (t13 < t12)) = true then
  if 0≤t13∧t13 < (s10_1.length:Int) then
   if 0≤t13∧t13 < (s21_1.length:Int) then
    if (((s10_1.getD t13.toNat default).1 == (s21_1.getD t13.toNat default).1) && ((s10_1.getD t13.toNat default).2 == (s21_1.getD t13.toNat default).2)) = true then
     some (.inl (s10_0,s10_1,s21_0,s21_1,t12,(w64 (t13 + 1))))
    else
     some (.inr false)
   else none
  else none
 else
  (j42_33).map .inr
theorem s42_14_t (s10_0:Bool) (s10_1:List (Bs×Bs)) (s21_0:Bool) (s21_1:List (Bs×Bs)) (t12 t13:Int):
  stepE (K42_14 (mm:=mm)) (loopF (E0 mm) 42 0 (callW (E0 mm)) itW c42_15 [(0,.keep),(1,.keep),(12,.keep),(13,.keep)] (none,[.v (.c (.d (.lst s10_0 (enL enSS s10_1)))),.v (.c (.d (.lst s21_0 (enL enSS s21_1)))),.v (.c (.d (.sc (.int .i64 t12)))),.v (.c (.d (.sc (.int .i64 t13))))],[])) = (s42_14 s10_0 s10_1 s21_0 s21_1 t12 t13).map (sm en42_14 e42):=by
 simp -implicitDefEqProofs only [s42_14,loopF_eq,c42_15_e,c42_16_r,(show opsOf c42_16 = _ :: _ from rfl),c42_17_e,(show c42_18 = Code.cond _ c42_19 c42_20 from rfl),setA,setB,za,zb,zc,zd,ze,zf,zg,zh,zi,zj,zk,zl,zm,zn,zo,zp,reduceCtorEq,zE,↓reduceIte]
 refine brB (fun yc2=>?_) (fun yc2=>?_)
 ·simp -implicitDefEqProofs only [c42_19_e,c42_21_e,c42_22_e,c42_23_e,c42_24_r,(show opsOf c42_24 = _ :: _ from rfl),c42_25_e,c42_26_r,(show opsOf c42_26 = _ :: _ from rfl),Tryz.underlying23,sz58,enSS_a,yc2,setA,setB,za,zb,zc,zd,ze,zf,zg,zh,zi,zj,zk,zl,zm,zn,zo,zp,reduceCtorEq,zE,↓reduceIte]
  refine brP (fun yc3=>?_) (fun yc3=>?_)
  ·have yd4:t13.toNat < s10_1.length:=by omega
   simp -implicitDefEqProofs only [(enL_get enSS s10_1 t13.toNat yd4),enSS_e,sz58,ag58,Tryz.underlying23,enSS_a,yc2,yc3,yd4,setA,setB,za,zb,zc,zd,ze,zf,zg,zh,zi,zj,zk,zl,zm,zn,zo,zp,reduceCtorEq,zE,↓reduceIte]
   refine brP (fun yc5=>?_) (fun yc5=>?_)
   ·have yd6:t13.toNat < s21_1.length:=by omega
    simp -implicitDefEqProofs only [(enL_get enSS s21_1 t13.toNat yd6),enSS_e,sz58,ag58,eqs58n,toV_agg,(show c42_27 = Code.cond _ c42_28 c42_31 from rfl),yc2,yc3,yd4,yc5,yd6,setA,setB,za,zb,zc,zd,ze,zf,zg,zh,zi,zj,zk,zl,zm,zn,zo,zp,reduceCtorEq,zE,↓reduceIte]
    refine brB (fun yc7=>?_) (fun yc7=>?_)
    ·simp -implicitDefEqProofs only [c42_31_e,c42_32_r,(show opsOf c42_32 = _ :: _ from rfl),yc2,yc3,yd4,yc5,yd6,yc7,setA,setB,za,zb,zc,zd,ze,zf,zg,zh,zi,zj,zk,zl,zm,zn,zo,zp,reduceCtorEq,zE,↓reduceIte]
     all_goals rfl
    ·simp -implicitDefEqProofs only [c42_28_e,c42_29_r,(show opsOf c42_29 = _ :: _ from rfl),c42_30_e,K42_14,yc2,yc3,yd4,yc5,yd6,yc7,setA,setB,za,zb,zc,zd,ze,zf,zg,zh,zi,zj,zk,zl,zm,zn,zo,zp,reduceCtorEq,zE,↓reduceIte]
     all_goals rfl
   ·rw [if_neg yc5]; rfl
  ·rw [if_neg yc3]; rfl
 ·simp -implicitDefEqProofs only [c42_20_e,K42_14,yc2,setA,setB,za,zb,zc,zd,ze,zf,zg,zh,zi,zj,zk,zl,zm,zn,zo,zp,reduceCtorEq,zE,↓reduceIte]
  exact mi (j42_33_t _)
def l42_14 (s10_0:Bool) (s10_1:List (Bs×Bs)) (s21_0:Bool) (s21_1:List (Bs×Bs)) (t12 t13:Int):Option R42:=iter (fun x:(Bool×List (Bs×Bs)×Bool×List (Bs×Bs)×Int×Int)=>s42_14 x.1 x.2.1 x.2.2.1 x.2.2.2.1 x.2.2.2.2.1 x.2.2.2.2.2) (s10_0,s10_1,s21_0,s21_1,t12,t13)
theorem l42_14_t (s10_0:Bool) (s10_1:List (Bs×Bs)) (s21_0:Bool) (s21_1:List (Bs×Bs)) (t12 t13:Int):bodyD (E0 mm) [.tmp 4] 0 false (seqD (E0 mm) 42 0 (callW (E0 mm)) itW c42_33 (blockD 0 (itW (loopF (E0 mm) 42 0 (callW (E0 mm)) itW c42_15 [(0,.keep),(1,.keep),(12,.keep),(13,.keep)]) (none,[.v (.c (.d (.lst s10_0 (enL enSS s10_1)))),.v (.c (.d (.lst s21_0 (enL enSS s21_1)))),.v (.c (.d (.sc (.int .i64 t12)))),.v (.c (.d (.sc (.int .i64 t13))))],[])))) = (l42_14 s10_0 s10_1 s21_0 s21_1 t12 t13).map e42:=
 it_sim (K:=(K42_14 (mm:=mm))) rfl (enc:=en42_14) (fun x=>s42_14_t x.1 x.2.1 x.2.2.1 x.2.2.2.1 x.2.2.2.2.1 x.2.2.2.2.2) (s10_0,s10_1,s21_0,s21_1,t12,t13)
def m42 (s1_0:Bool) (s1_1:List (Bs×Bs)) (s2_0:Bool) (s2_1:List (Bs×Bs)):Option R42:=
 if ((s1_1.length:Int) == (s2_1.length:Int)) = true then
  l42_14 s1_0 s1_1 s2_0 s2_1 (s1_1.length:Int) (0:Int)
 else
  some false
theorem f42_t (s1_0:Bool) (s1_1:List (Bs×Bs)) (s2_0:Bool) (s2_1:List (Bs×Bs)):
  callW (E0 mm) 42 [.c (.d (.lst s1_0 (enL enSS s1_1))),.c (.d (.lst s2_0 (enL enSS s2_1)))] [] = (m42 s1_0 s1_1 s2_0 s2_1).map e42:=by
 rw [callW_run (body:=c42_0) (res:=[.tmp 4]) Tryz.func42 rfl rfl (by kernel_rfl)]
 simp -implicitDefEqProofs only [m42,slots2,c42_0_e,c42_1_r,(show opsOf c42_1 = _ :: _ from rfl),c42_2_e,c42_3_e,c42_4_r,(show opsOf c42_4 = _ :: _ from rfl),Tryz.underlying23,(show c42_5 = Code.cond _ c42_6 c42_9 from rfl),setA,setB,za,zb,zc,zd,ze,zf,zg,zh,zi,zj,zk,zl,zm,zn,zo,zp,reduceCtorEq,zE,↓reduceIte]
 refine brB (fun yc1=>?_) (fun yc1=>?_)
 ·simp -implicitDefEqProofs only [c42_9_e,c42_10_e,c42_11_e,c42_12_r,(show opsOf c42_12 = _ :: _ from rfl),Tryz.underlying23,c42_13_e,c42_14_l,yc1,setA,setB,za,zb,zc,zd,ze,zf,zg,zh,zi,zj,zk,zl,zm,zn,zo,zp,reduceCtorEq,zE,↓reduceIte]
  exact l42_14_t s1_0 s1_1 s2_0 s2_1 (s1_1.length:Int) (0:Int)
 ·simp -implicitDefEqProofs only [c42_6_e,c42_7_r,(show opsOf c42_7 = _ :: _ from rfl),c42_8_e,yc1,setA,setB,za,zb,zc,zd,ze,zf,zg,zh,zi,zj,zk,zl,zm,zn,zo,zp,reduceCtorEq,zE,↓reduceIte]
  all_goals rfl
noncomputable def c16_0:Code:=bodyOf Tryz.f16
def c16_1:=cA c16_0
def c16_2:=cB c16_0
def c16_3:=cA c16_2
def c16_4:=cB c16_2
theorem c16_0_e:c16_0 = .seq c16_1 c16_2:=rfl
theorem c16_1_r:RG (E0 mm) 16 c16_1:=rgN rfl
theorem c16_2_e:c16_2 = .seq c16_3 c16_4:=rfl
theorem c16_3_r:RG (E0 mm) 16 c16_3:=rgN rfl
theorem c16_4_e:c16_4 = .ret:=rfl
abbrev R16:=(Bool)
def e16:R16→AV×Heap:=fun x=>(.v (.c (.d (.sc (.bool x)))),[])
def m16 (a_0:Bool) (a_1:List UInt8) (b_0:Bool) (b_1:List UInt8):Option R16:=
 some (a_1 == b_1)
theorem f16_t (a_0:Bool) (a_1:List UInt8) (b_0:Bool) (b_1:List UInt8):
  callW (E0 mm) 16 [.c (.d (.lst a_0 (enL enB a_1))),.c (.d (.lst b_0 (enL enB b_1)))] [] = (m16 a_0 a_1 b_0 b_1).map e16:=by
 rw [callW_run (body:=c16_0) (res:=[.tmp 4]) Tryz.func16 rfl rfl (by kernel_rfl)]
 simp -implicitDefEqProofs only [m16,slots2,c16_0_e,c16_1_r,(show opsOf c16_1 = _ :: _ from rfl),c16_2_e,c16_3_r,(show opsOf c16_3 = _ :: _ from rfl),Tryz.underlying22,Tryz.underlying9,Tryz.underlying5,c16_4_e,setA,setB,za,zb,zc,zd,ze,zf,zg,zh,zi,zj,zk,zl,zm,zn,zo,zp,reduceCtorEq,zE,↓reduceIte]
 all_goals rfl
noncomputable def c19_0:Code:=bodyOf Tryz.f19
def c19_1:=cA c19_0
def c19_2:=cB c19_0
def c19_3:=cA c19_2
def c19_4:=cB c19_2
theorem c19_0_e:c19_0 = .seq c19_1 c19_2:=rfl
theorem c19_1_r:RG (E0 mm) 19 c19_1:=rgN rfl
theorem c19_2_e:c19_2 = .seq c19_3 c19_4:=rfl
theorem c19_3_r:RG (E0 mm) 19 c19_3:=rgN rfl
theorem c19_4_e:c19_4 = .ret:=rfl
abbrev R19:=(Bool)
def e19:R19→AV×Heap:=fun x=>(.v (.c (.d (.sc (.bool x)))),[])
def m19 (a_0:Int) (a_1:Bs) (a_2:Int) (a_3:Bool) (a_4:List (Bs×Bs)) (a_5:Bool) (a_6:List UInt8) (b_0:Int) (b_1:Bs) (b_2:Int) (b_3:Bool) (b_4:List (Bs×Bs)) (b_5:Bool) (b_6:List UInt8):Option R19:=
 if (a_0 == b_0) = true then
  if (a_1 == b_1) = true then
   if (a_2 == b_2) = true then
    (m42 a_3 a_4 b_3 b_4).bind fun yr5=>
     if yr5 = true then
      (m16 a_5 a_6 b_5 b_6).bind fun yr8=>
       some yr8
     else
      some false
   else
    some false
  else
   some false
 else
  some false
theorem f19_t (a_0:Int) (a_1:Bs) (a_2:Int) (a_3:Bool) (a_4:List (Bs×Bs)) (a_5:Bool) (a_6:List UInt8) (b_0:Int) (b_1:Bs) (b_2:Int) (b_3:Bool) (b_4:List (Bs×Bs)) (b_5:Bool) (b_6:List UInt8):
  callW (E0 mm) 19 [.agg [.d (.sc (.int .i64 a_0)),.d (.sc (.string (S a_1))),.d (.sc (.int .i64 a_2)),.d (.lst a_3 (enL enSS a_4)),.d (.lst a_5 (enL enB a_6))],.agg [.d (.sc (.int .i64 b_0)),.d (.sc (.string (S b_1))),.d (.sc (.int .i64 b_2)),.d (.lst b_3 (enL enSS b_4)),.d (.lst b_5 (enL enB b_6))]] [] = (m19 a_0 a_1 a_2 a_3 a_4 a_5 a_6 b_0 b_1 b_2 b_3 b_4 b_5 b_6).map e19:=by
 rw [callW_run (body:=c19_0) (res:=[.tmp 4]) Tryz.func19 rfl rfl (by kernel_rfl)]
 simp -implicitDefEqProofs only [m19,slots2,c19_0_e,c19_1_r,(show opsOf c19_1 = _ :: _ from rfl),c19_2_e,c19_3_r,(show opsOf c19_3 = _ :: _ from rfl),Tryz.underlying32,sz3,ag3,setA,setB,za,zb,zc,zd,ze,zf,zg,zh,zi,zj,zk,zl,zm,zn,zo,zp,reduceCtorEq,zE,↓reduceIte]
 refine brB (fun yc1=>?_) (fun yc1=>?_)
 ·simp -implicitDefEqProofs only [Tryz.underlying32,sz9,ag9,yc1,setA,setB,za,zb,zc,zd,ze,zf,zg,zh,zi,zj,zk,zl,zm,zn,zo,zp,reduceCtorEq,zE,↓reduceIte]
  refine brB (fun yc2=>?_) (fun yc2=>?_)
  ·simp -implicitDefEqProofs only [Tryz.underlying32,sz3,ag3,yc1,yc2,setA,setB,za,zb,zc,zd,ze,zf,zg,zh,zi,zj,zk,zl,zm,zn,zo,zp,reduceCtorEq,zE,↓reduceIte]
   refine brB (fun yc3=>?_) (fun yc3=>?_)
   ·simp -implicitDefEqProofs only [Tryz.underlying32,sz23,ag23,ent42,prm42,f42_t,yc1,yc2,yc3,setA,setB,za,zb,zc,zd,ze,zf,zg,zh,zi,zj,zk,zl,zm,zn,zo,zp,reduceCtorEq,zE,↓reduceIte]
    refine brM (fun yc4=>?_) (fun yr5 yc4=>?_)
    ·rw [yc4]; rfl
    ·simp -implicitDefEqProofs only [e42,yc1,yc2,yc3,yc4,setA,setB,za,zb,zc,zd,ze,zf,zg,zh,zi,zj,zk,zl,zm,zn,zo,zp,reduceCtorEq,zE,↓reduceIte]
     refine brB (fun yc6=>?_) (fun yc6=>?_)
     ·simp -implicitDefEqProofs only [Tryz.underlying32,sz22,ag22,ent16,prm16,f16_t,yc1,yc2,yc3,yc4,yc6,setA,setB,za,zb,zc,zd,ze,zf,zg,zh,zi,zj,zk,zl,zm,zn,zo,zp,reduceCtorEq,zE,↓reduceIte]
      refine brM (fun yc7=>?_) (fun yr8 yc7=>?_)
      ·rw [yc7]; rfl
      ·simp -implicitDefEqProofs only [e16,c19_4_e,yc1,yc2,yc3,yc4,yc6,yc7,setA,setB,za,zb,zc,zd,ze,zf,zg,zh,zi,zj,zk,zl,zm,zn,zo,zp,reduceCtorEq,zE,↓reduceIte]
       all_goals rfl
     ·simp -implicitDefEqProofs only [c19_4_e,yc1,yc2,yc3,yc4,yc6,setA,setB,za,zb,zc,zd,ze,zf,zg,zh,zi,zj,zk,zl,zm,zn,zo,zp,reduceCtorEq,zE,↓reduceIte]
      all_goals rfl
   ·simp -implicitDefEqProofs only [c19_4_e,yc1,yc2,yc3,setA,setB,za,zb,zc,zd,ze,zf,zg,zh,zi,zj,zk,zl,zm,zn,zo,zp,reduceCtorEq,zE,↓reduceIte]
    all_goals rfl
  ·simp -implicitDefEqProofs only [c19_4_e,yc1,yc2,setA,setB,za,zb,zc,zd,ze,zf,zg,zh,zi,zj,zk,zl,zm,zn,zo,zp,reduceCtorEq,zE,↓reduceIte]
   all_goals rfl
 ·simp -implicitDefEqProofs only [c19_4_e,yc1,setA,setB,za,zb,zc,zd,ze,zf,zg,zh,zi,zj,zk,zl,zm,zn,zo,zp,reduceCtorEq,zE,↓reduceIte]
  all_goals rfl
noncomputable def c18_0:Code:=bodyOf Tryz.f18
def c18_1:=cA c18_0
def c18_2:=cB c18_0
def c18_3:=cA c18_2
def c18_4:=cB c18_2
theorem c18_0_e:c18_0 = .seq c18_1 c18_2:=rfl
theorem c18_1_r:RG (E0 mm) 18 c18_1:=rgN rfl
theorem c18_2_e:c18_2 = .seq c18_3 c18_4:=rfl
theorem c18_3_r:RG (E0 mm) 18 c18_3:=rgN rfl
theorem c18_4_e:c18_4 = .ret:=rfl
abbrev R18:=(Bool)
def e18:R18→AV×Heap:=fun x=>(.v (.c (.d (.sc (.bool x)))),[])
def m18 (a_0 a_1:Bs) (a_2:Int) (a_3:Bool) (a_4:List (Bs×Bs)) (a_5:Bool) (a_6:List UInt8) (b_0 b_1:Bs) (b_2:Int) (b_3:Bool) (b_4:List (Bs×Bs)) (b_5:Bool) (b_6:List UInt8):Option R18:=
 if (a_0 == b_0) = true then
  if (a_1 == b_1) = true then
   if (a_2 == b_2) = true then
    (m42 a_3 a_4 b_3 b_4).bind fun yr5=>
     if yr5 = true then
      (m16 a_5 a_6 b_5 b_6).bind fun yr8=>
       some yr8
     else
      some false
   else
    some false
  else
   some false
 else
  some false
theorem f18_t (a_0 a_1:Bs) (a_2:Int) (a_3:Bool) (a_4:List (Bs×Bs)) (a_5:Bool) (a_6:List UInt8) (b_0 b_1:Bs) (b_2:Int) (b_3:Bool) (b_4:List (Bs×Bs)) (b_5:Bool) (b_6:List UInt8):
  callW (E0 mm) 18 [.agg [.d (.sc (.string (S a_0))),.d (.sc (.string (S a_1))),.d (.sc (.int .i64 a_2)),.d (.lst a_3 (enL enSS a_4)),.d (.lst a_5 (enL enB a_6))],.agg [.d (.sc (.string (S b_0))),.d (.sc (.string (S b_1))),.d (.sc (.int .i64 b_2)),.d (.lst b_3 (enL enSS b_4)),.d (.lst b_5 (enL enB b_6))]] [] = (m18 a_0 a_1 a_2 a_3 a_4 a_5 a_6 b_0 b_1 b_2 b_3 b_4 b_5 b_6).map e18:=by
 rw [callW_run (body:=c18_0) (res:=[.tmp 4]) Tryz.func18 rfl rfl (by kernel_rfl)]
 simp -implicitDefEqProofs only [m18,slots2,c18_0_e,c18_1_r,(show opsOf c18_1 = _ :: _ from rfl),c18_2_e,c18_3_r,(show opsOf c18_3 = _ :: _ from rfl),Tryz.underlying25,sz9,ag9,setA,setB,za,zb,zc,zd,ze,zf,zg,zh,zi,zj,zk,zl,zm,zn,zo,zp,reduceCtorEq,zE,↓reduceIte]
 refine brB (fun yc1=>?_) (fun yc1=>?_)
 ·simp -implicitDefEqProofs only [Tryz.underlying25,sz9,ag9,yc1,setA,setB,za,zb,zc,zd,ze,zf,zg,zh,zi,zj,zk,zl,zm,zn,zo,zp,reduceCtorEq,zE,↓reduceIte]
  refine brB (fun yc2=>?_) (fun yc2=>?_)
  ·simp -implicitDefEqProofs only [Tryz.underlying25,sz3,ag3,yc1,yc2,setA,setB,za,zb,zc,zd,ze,zf,zg,zh,zi,zj,zk,zl,zm,zn,zo,zp,reduceCtorEq,zE,↓reduceIte]
   refine brB (fun yc3=>?_) (fun yc3=>?_)
   ·simp -implicitDefEqProofs only [Tryz.underlying25,sz23,ag23,ent42,prm42,f42_t,yc1,yc2,yc3,setA,setB,za,zb,zc,zd,ze,zf,zg,zh,zi,zj,zk,zl,zm,zn,zo,zp,reduceCtorEq,zE,↓reduceIte]
    refine brM (fun yc4=>?_) (fun yr5 yc4=>?_)
    ·rw [yc4]; rfl
    ·simp -implicitDefEqProofs only [e42,yc1,yc2,yc3,yc4,setA,setB,za,zb,zc,zd,ze,zf,zg,zh,zi,zj,zk,zl,zm,zn,zo,zp,reduceCtorEq,zE,↓reduceIte]
     refine brB (fun yc6=>?_) (fun yc6=>?_)
     ·simp -implicitDefEqProofs only [Tryz.underlying25,sz22,ag22,ent16,prm16,f16_t,yc1,yc2,yc3,yc4,yc6,setA,setB,za,zb,zc,zd,ze,zf,zg,zh,zi,zj,zk,zl,zm,zn,zo,zp,reduceCtorEq,zE,↓reduceIte]
      refine brM (fun yc7=>?_) (fun yr8 yc7=>?_)
      ·rw [yc7]; rfl
      ·simp -implicitDefEqProofs only [e16,c18_4_e,yc1,yc2,yc3,yc4,yc6,yc7,setA,setB,za,zb,zc,zd,ze,zf,zg,zh,zi,zj,zk,zl,zm,zn,zo,zp,reduceCtorEq,zE,↓reduceIte]
       all_goals rfl
     ·simp -implicitDefEqProofs only [c18_4_e,yc1,yc2,yc3,yc4,yc6,setA,setB,za,zb,zc,zd,ze,zf,zg,zh,zi,zj,zk,zl,zm,zn,zo,zp,reduceCtorEq,zE,↓reduceIte]
      all_goals rfl
   ·simp -implicitDefEqProofs only [c18_4_e,yc1,yc2,yc3,setA,setB,za,zb,zc,zd,ze,zf,zg,zh,zi,zj,zk,zl,zm,zn,zo,zp,reduceCtorEq,zE,↓reduceIte]
    all_goals rfl
  ·simp -implicitDefEqProofs only [c18_4_e,yc1,yc2,setA,setB,za,zb,zc,zd,ze,zf,zg,zh,zi,zj,zk,zl,zm,zn,zo,zp,reduceCtorEq,zE,↓reduceIte]
   all_goals rfl
 ·simp -implicitDefEqProofs only [c18_4_e,yc1,setA,setB,za,zb,zc,zd,ze,zf,zg,zh,zi,zj,zk,zl,zm,zn,zo,zp,reduceCtorEq,zE,↓reduceIte]
  all_goals rfl
noncomputable def c6_0:Code:=bodyOf Tryz.f6
def c6_1:=cA c6_0
def c6_2:=cB c6_0
def c6_3:=cA c6_2
def c6_4:=cA c6_3
def c6_5:=cB c6_3
def c6_6:=cA c6_5
def c6_9:=cB c6_5
def c6_10:=cB c6_2
def c6_11:=cA c6_10
def c6_12:=cB c6_10
def c6_13:=cA c6_12
def c6_14:=cB c6_12
def c6_15:=cA c6_14
def c6_16:=cA c6_15
def c6_17:=cB c6_15
def c6_18:=cA c6_17
def c6_19:=cA c6_18
def c6_20:=cB c6_18
def c6_21:=cA c6_20
def c6_22:=cB c6_20
def c6_23:=cA c6_22
def c6_24:=cA c6_23
def c6_25:=cB c6_23
def c6_26:=cB c6_22
def c6_27:=cB c6_17
def c6_28:=cB c6_14
def c6_29:=cA c6_28
def c6_30:=cB c6_28
def c6_31:=cA c6_30
def c6_32:=cA c6_31
def c6_33:=cB c6_31
def c6_34:=cA c6_33
def c6_35:=cA c6_34
def c6_36:=cB c6_34
def c6_37:=cA c6_36
def c6_38:=cB c6_36
def c6_39:=cA c6_38
def c6_40:=cB c6_38
def c6_41:=cA c6_40
def c6_42:=cA c6_41
def c6_43:=cB c6_41
def c6_44:=cB c6_40
def c6_45:=cB c6_33
def c6_46:=cB c6_30
def c6_47:=cA c6_46
def c6_48:=cB c6_46
theorem c6_0_e:c6_0 = .seq c6_1 c6_2:=rfl
theorem c6_1_r:RG (E0 mm) 6 c6_1:=rgN rfl
theorem c6_2_e:c6_2 = .seq c6_3 c6_10:=rfl
theorem c6_3_e:c6_3 = .seq c6_4 c6_5:=rfl
theorem c6_4_r:RG (E0 mm) 6 c6_4:=rgN rfl
theorem c6_9_e:c6_9 = .skip:=rfl
theorem c6_10_e:c6_10 = .seq c6_11 c6_12:=rfl
theorem c6_11_r:RG (E0 mm) 6 c6_11:=rgN rfl
theorem c6_12_e:c6_12 = .seq c6_13 c6_14:=rfl
theorem c6_13_r:RG (E0 mm) 6 c6_13:=rgN rfl
theorem c6_14_e:c6_14 = .seq c6_15 c6_28:=rfl
theorem c6_15_e:c6_15 = .seq c6_16 c6_17:=rfl
theorem c6_16_r:RG (E0 mm) 6 c6_16:=rgN rfl
theorem c6_18_e:c6_18 = .seq c6_19 c6_20:=rfl
theorem c6_19_r:RG (E0 mm) 6 c6_19:=rgN rfl
theorem c6_20_e:c6_20 = .seq c6_21 c6_22:=rfl
theorem c6_21_r:RG (E0 mm) 6 c6_21:=rgN rfl
theorem c6_23_e:c6_23 = .seq c6_24 c6_25:=rfl
theorem c6_24_r:RG (E0 mm) 6 c6_24:=rgN rfl
theorem c6_25_e:c6_25 = .ret:=rfl
theorem c6_26_e:c6_26 = .skip:=rfl
theorem c6_27_e:c6_27 = .skip:=rfl
theorem c6_28_e:c6_28 = .seq c6_29 c6_30:=rfl
theorem c6_29_r:RG (E0 mm) 6 c6_29:=rgN rfl
theorem c6_30_e:c6_30 = .seq c6_31 c6_46:=rfl
theorem c6_31_e:c6_31 = .seq c6_32 c6_33:=rfl
theorem c6_32_r:RG (E0 mm) 6 c6_32:=rgN rfl
theorem c6_34_e:c6_34 = .seq c6_35 c6_36:=rfl
theorem c6_35_r:RG (E0 mm) 6 c6_35:=rgN rfl
theorem c6_36_e:c6_36 = .seq c6_37 c6_38:=rfl
theorem c6_37_r:RG (E0 mm) 6 c6_37:=rgN rfl
theorem c6_38_e:c6_38 = .seq c6_39 c6_40:=rfl
theorem c6_39_r:RG (E0 mm) 6 c6_39:=rgN rfl
theorem c6_41_e:c6_41 = .seq c6_42 c6_43:=rfl
theorem c6_42_r:RG (E0 mm) 6 c6_42:=rgN rfl
theorem c6_43_e:c6_43 = .ret:=rfl
theorem c6_44_e:c6_44 = .skip:=rfl
theorem c6_45_e:c6_45 = .skip:=rfl
theorem c6_46_e:c6_46 = .seq c6_47 c6_48:=rfl
theorem c6_47_r:RG (E0 mm) 6 c6_47:=rgN rfl
theorem c6_48_e:c6_48 = .ret:=rfl
abbrev R6:=(Bool)
def e6:R6→AV×Heap:=fun x=>(.v (.c (.d (.sc (.bool x)))),[])
def j6_46  : Option R6:=
 some true
theorem j6_46_t  (g0 g1 g2:Ob) (sl:Nat→AV)  :
  bodyD (E0 mm) [.tmp 6] 0 false (den (E0 mm) 6 0 (callW (E0 mm)) itW c6_46 none ⟨sl,[g0,g1,g2]⟩) = (j6_46).map e6:=by
 simp -implicitDefEqProofs only [j6_46,c6_46_e,c6_47_r,(show opsOf c6_47 = _ :: _ from rfl),c6_48_e,setA,setB,za,zb,zc,zd,ze,zf,zg,zh,zi,zj,zk,zl,zm,zn,zo,zp,reduceCtorEq,zE,↓reduceIte]
 all_goals rfl
def j6_46v1  : Option R6:=
 some true
theorem j6_46v1_t  (g0 g1:Ob) (g2 g3 g4:Ob) (sl:Nat→AV)  :
  bodyD (E0 mm) [.tmp 6] 0 false (den (E0 mm) 6 0 (callW (E0 mm)) itW c6_46 none ⟨sl,[g0,g1,g2,g3,g4]⟩) = (j6_46v1).map e6:=by
 simp -implicitDefEqProofs only [j6_46v1,c6_46_e,c6_47_r,(show opsOf c6_47 = _ :: _ from rfl),c6_48_e,(show List.range 5 = [0,1,2,3,4] from rfl),setA,setB,za,zb,zc,zd,ze,zf,zg,zh,zi,zj,zk,zl,zm,zn,zo,zp,reduceCtorEq,zE,↓reduceIte]
 all_goals rfl
def j6_40 (t148:Bool):Option R6:=
 if t148 = true then
  some false
 else
  j6_46v1
theorem j6_40_t (t148:Bool) (g0 g1:Ob) (g2 g3 g4:Ob) (sl:Nat→AV) (zq148:sl 148 = .v (.c (.d (.sc (.bool t148))))):
  bodyD (E0 mm) [.tmp 6] 0 false (seqD (E0 mm) 6 0 (callW (E0 mm)) itW c6_46 (den (E0 mm) 6 0 (callW (E0 mm)) itW c6_40 none ⟨sl,[g0,g1,g2,g3,g4]⟩)) = (j6_40 t148).map e6:=by
 simp -implicitDefEqProofs only [j6_40,(show c6_40 = Code.cond _ c6_41 c6_44 from rfl),(show List.range 5 = [0,1,2,3,4] from rfl),zq148,setA,setB,za,zb,zc,zd,ze,zf,zg,zh,zi,zj,zk,zl,zm,zn,zo,zp,reduceCtorEq,zE,↓reduceIte]
 refine brB (fun yc24=>?_) (fun yc24=>?_)
 ·simp -implicitDefEqProofs only [c6_41_e,c6_42_r,(show opsOf c6_42 = _ :: _ from rfl),c6_43_e,(show List.range 5 = [0,1,2,3,4] from rfl),zq148,yc24,setA,setB,za,zb,zc,zd,ze,zf,zg,zh,zi,zj,zk,zl,zm,zn,zo,zp,reduceCtorEq,zE,↓reduceIte]
  all_goals rfl
 ·simp -implicitDefEqProofs only [c6_44_e,(show List.range 5 = [0,1,2,3,4] from rfl),zq148,yc24,setA,setB,za,zb,zc,zd,ze,zf,zg,zh,zi,zj,zk,zl,zm,zn,zo,zp,reduceCtorEq,zE,↓reduceIte]
  exact j6_46v1_t _ _ _ _ _ _
def j6_28 (b0_0:Bool) (b0_1:List UInt8) (method2:Bs) (more7_0:Bool) (more7_1:List UInt8):Option R6:=
 (m11 b0_0 b0_1 method2 false).bind fun yr7=>
  if (yr7.2.2.2.2.2.2.2.2 == 8) = true then
   j6_46
  else
   (m11 more7_0 more7_1 method2 false).bind fun yr10=>
    (m11 more7_0 more7_1 method2 true).bind fun yr12=>
     if (yr10.2.2.2.2.2.2.2.2 == yr7.2.2.2.2.2.2.2.2) = true then
      if (yr10.2.2.2.2.2.2.2.1 == yr7.2.2.2.2.2.2.2.1) = true then
       (m19 yr7.1 yr7.2.1 yr7.2.2.1 yr7.2.2.2.1 yr7.2.2.2.2.1 yr7.2.2.2.2.2.1 yr7.2.2.2.2.2.2.1 yr10.1 yr10.2.1 yr10.2.2.1 yr10.2.2.2.1 yr10.2.2.2.2.1 yr10.2.2.2.2.2.1 yr10.2.2.2.2.2.2.1).bind fun yr16=>
        if yr16 = true then
         if (yr12.2.2.2.2.2.2.2.2 == yr7.2.2.2.2.2.2.2.2) = true then
          if (yr12.2.2.2.2.2.2.2.1 == yr7.2.2.2.2.2.2.2.1) = true then
           (m19 yr7.1 yr7.2.1 yr7.2.2.1 yr7.2.2.2.1 yr7.2.2.2.2.1 yr7.2.2.2.2.2.1 yr7.2.2.2.2.2.2.1 yr12.1 yr12.2.1 yr12.2.2.1 yr12.2.2.2.1 yr12.2.2.2.2.1 yr12.2.2.2.2.2.1 yr12.2.2.2.2.2.2.1).bind fun yr21=>
            if yr21 = true then
             if (decide (4096 < (yr7.2.2.2.2.2.2.1.length:Int))) = true then
              j6_40 true
             else
              if (decide ((b0_1.length:Int) < yr7.2.2.2.2.2.2.2.1)) = true then
               j6_40 true
              else
               if (yr7.2.2.2.2.2.2.2.2 == 0) = true then
                j6_40 false
               else
                j6_40 (!(yr7.2.2.2.2.2.2.2.1 == 0))
            else
             j6_40 true
          else
           j6_40 true
         else
          j6_40 true
        else
         j6_40 true
      else
       j6_40 true
     else
      j6_40 true
theorem j6_28_t (b0_0:Bool) (b0_1:List UInt8) (method2:Bs) (more7_0:Bool) (more7_1:List UInt8) (g1:Ob) (sl:Nat→AV) (zq0:sl 0 = .v (.c (.d (.lst b0_0 (enL enB b0_1))))) (zq2:sl 2 = .v (.c (.d (.sc (.string (S method2)))))) (zq7:sl 7 = .v (.c (.own more7_0 (enL enB more7_1) 0))):
  bodyD (E0 mm) [.tmp 6] 0 false (den (E0 mm) 6 0 (callW (E0 mm)) itW c6_28 none ⟨sl,[.row more7_1.length (rz more7_0 1),g1]⟩) = (j6_28 b0_0 b0_1 method2 more7_0 more7_1).map e6:=by
 simp -implicitDefEqProofs only [j6_28,c6_28_e,c6_29_r,(show opsOf c6_29 = _ :: _ from rfl),ent11,prm11,(show callW (E0 mm) 11 [.c (.d (.lst b0_0 (enL enB b0_1))),.c (.d (.sc (.string (S method2)))),.c (.d (.sc (.bool false)))] [] = _ from f11_t b0_0 b0_1 method2 false),zq0,zq2,zq7,setA,setB,za,zb,zc,zd,ze,zf,zg,zh,zi,zj,zk,zl,zm,zn,zo,zp,reduceCtorEq,zE,↓reduceIte]
 refine brM (fun yc6=>?_) (fun yr7 yc6=>?_)
 ·rw [yc6]; rfl
 ·simp -implicitDefEqProofs only [e11,zc32,ao46,sz32,c6_30_e,c6_31_e,c6_32_r,(show opsOf c6_32 = _ :: _ from rfl),(show c6_33 = Code.cond _ c6_34 c6_45 from rfl),zq0,zq2,zq7,yc6,setA,setB,za,zb,zc,zd,ze,zf,zg,zh,zi,zj,zk,zl,zm,zn,zo,zp,reduceCtorEq,zE,↓reduceIte]
  refine brB (fun yc8=>?_) (fun yc8=>?_)
  ·simp -implicitDefEqProofs only [c6_45_e,zq0,zq2,zq7,yc6,yc8,setA,setB,za,zb,zc,zd,ze,zf,zg,zh,zi,zj,zk,zl,zm,zn,zo,zp,reduceCtorEq,zE,↓reduceIte]
   exact j6_46_t _ _ _ _
  ·simp -implicitDefEqProofs only [c6_34_e,c6_35_r,(show opsOf c6_35 = _ :: _ from rfl),ent11,prm11,(show callW (E0 mm) 11 [.c (.d (.lst more7_0 (enL enB more7_1))),.c (.d (.sc (.string (S method2)))),.c (.d (.sc (.bool false)))] [] = _ from f11_t more7_0 more7_1 method2 false),zq0,zq2,zq7,yc6,yc8,setA,setB,za,zb,zc,zd,ze,zf,zg,zh,zi,zj,zk,zl,zm,zn,zo,zp,reduceCtorEq,zE,↓reduceIte]
   refine brM (fun yc9=>?_) (fun yr10 yc9=>?_)
   ·rw [yc9]; rfl
   ·simp -implicitDefEqProofs only [e11,zc32,ao47,sz32,c6_36_e,c6_37_r,(show opsOf c6_37 = _ :: _ from rfl),ent11,prm11,(show callW (E0 mm) 11 [.c (.d (.lst more7_0 (enL enB more7_1))),.c (.d (.sc (.string (S method2)))),.c (.d (.sc (.bool true)))] [] = _ from f11_t more7_0 more7_1 method2 true),zq0,zq2,zq7,yc6,yc8,yc9,setA,setB,za,zb,zc,zd,ze,zf,zg,zh,zi,zj,zk,zl,zm,zn,zo,zp,reduceCtorEq,zE,↓reduceIte]
    refine brM (fun yc11=>?_) (fun yr12 yc11=>?_)
    ·rw [yc11]; rfl
    ·simp -implicitDefEqProofs only [e11,zc32,ao48,sz32,c6_38_e,c6_39_r,(show opsOf c6_39 = _ :: _ from rfl),(show List.range 5 = [0,1,2,3,4] from rfl),zq0,zq2,zq7,yc6,yc8,yc9,yc11,setA,setB,za,zb,zc,zd,ze,zf,zg,zh,zi,zj,zk,zl,zm,zn,zo,zp,reduceCtorEq,zE,↓reduceIte]
     refine brB (fun yc13=>?_) (fun yc13=>?_)
     ·simp -implicitDefEqProofs only [(show List.range 5 = [0,1,2,3,4] from rfl),zq0,zq2,zq7,yc6,yc8,yc9,yc11,yc13,setA,setB,za,zb,zc,zd,ze,zf,zg,zh,zi,zj,zk,zl,zm,zn,zo,zp,reduceCtorEq,zE,↓reduceIte]
      refine brB (fun yc14=>?_) (fun yc14=>?_)
      ·simp -implicitDefEqProofs only [sz32,ag32,ent19,prm19,f19_t,(show List.range 5 = [0,1,2,3,4] from rfl),zq0,zq2,zq7,yc6,yc8,yc9,yc11,yc13,yc14,setA,setB,za,zb,zc,zd,ze,zf,zg,zh,zi,zj,zk,zl,zm,zn,zo,zp,reduceCtorEq,zE,↓reduceIte]
       refine brM (fun yc15=>?_) (fun yr16 yc15=>?_)
       ·rw [yc15]; rfl
       ·simp -implicitDefEqProofs only [e19,(show List.range 5 = [0,1,2,3,4] from rfl),zq0,zq2,zq7,yc6,yc8,yc9,yc11,yc13,yc14,yc15,setA,setB,za,zb,zc,zd,ze,zf,zg,zh,zi,zj,zk,zl,zm,zn,zo,zp,reduceCtorEq,zE,↓reduceIte]
        refine brB (fun yc17=>?_) (fun yc17=>?_)
        ·simp -implicitDefEqProofs only [(show List.range 5 = [0,1,2,3,4] from rfl),zq0,zq2,zq7,yc6,yc8,yc9,yc11,yc13,yc14,yc15,yc17,setA,setB,za,zb,zc,zd,ze,zf,zg,zh,zi,zj,zk,zl,zm,zn,zo,zp,reduceCtorEq,zE,↓reduceIte]
         refine brB (fun yc18=>?_) (fun yc18=>?_)
         ·simp -implicitDefEqProofs only [(show List.range 5 = [0,1,2,3,4] from rfl),zq0,zq2,zq7,yc6,yc8,yc9,yc11,yc13,yc14,yc15,yc17,yc18,setA,setB,za,zb,zc,zd,ze,zf,zg,zh,zi,zj,zk,zl,zm,zn,zo,zp,reduceCtorEq,zE,↓reduceIte]
          refine brB (fun yc19=>?_) (fun yc19=>?_)
          ·simp -implicitDefEqProofs only [sz32,ag32,ent19,prm19,f19_t,(show List.range 5 = [0,1,2,3,4] from rfl),zq0,zq2,zq7,yc6,yc8,yc9,yc11,yc13,yc14,yc15,yc17,yc18,yc19,setA,setB,za,zb,zc,zd,ze,zf,zg,zh,zi,zj,zk,zl,zm,zn,zo,zp,reduceCtorEq,zE,↓reduceIte]
           refine brM (fun yc20=>?_) (fun yr21 yc20=>?_)
           ·rw [yc20]; rfl
           ·simp -implicitDefEqProofs only [e19,(show List.range 5 = [0,1,2,3,4] from rfl),zq0,zq2,zq7,yc6,yc8,yc9,yc11,yc13,yc14,yc15,yc17,yc18,yc19,yc20,setA,setB,za,zb,zc,zd,ze,zf,zg,zh,zi,zj,zk,zl,zm,zn,zo,zp,reduceCtorEq,zE,↓reduceIte]
            refine brB (fun yc22=>?_) (fun yc22=>?_)
            ·simp -implicitDefEqProofs only [Tryz.underlying32,sz22,ag22,Tryz.underlying22,(show List.range 5 = [0,1,2,3,4] from rfl),zq0,zq2,zq7,yc6,yc8,yc9,yc11,yc13,yc14,yc15,yc17,yc18,yc19,yc20,yc22,setA,setB,za,zb,zc,zd,ze,zf,zg,zh,zi,zj,zk,zl,zm,zn,zo,zp,reduceCtorEq,zE,↓reduceIte]
             refine brB (fun yc23=>?_) (fun yc23=>?_)
             ·simp -implicitDefEqProofs only [(show List.range 5 = [0,1,2,3,4] from rfl),zq0,zq2,zq7,yc6,yc8,yc9,yc11,yc13,yc14,yc15,yc17,yc18,yc19,yc20,yc22,yc23,setA,setB,za,zb,zc,zd,ze,zf,zg,zh,zi,zj,zk,zl,zm,zn,zo,zp,reduceCtorEq,zE,↓reduceIte]
              exact j6_40_t true _ _ _ _ _ _ (by rfl)
             ·simp -implicitDefEqProofs only [Tryz.underlying22,(show List.range 5 = [0,1,2,3,4] from rfl),zq0,zq2,zq7,yc6,yc8,yc9,yc11,yc13,yc14,yc15,yc17,yc18,yc19,yc20,yc22,yc23,setA,setB,za,zb,zc,zd,ze,zf,zg,zh,zi,zj,zk,zl,zm,zn,zo,zp,reduceCtorEq,zE,↓reduceIte]
              refine brB (fun yc25=>?_) (fun yc25=>?_)
              ·simp -implicitDefEqProofs only [(show List.range 5 = [0,1,2,3,4] from rfl),zq0,zq2,zq7,yc6,yc8,yc9,yc11,yc13,yc14,yc15,yc17,yc18,yc19,yc20,yc22,yc23,yc25,setA,setB,za,zb,zc,zd,ze,zf,zg,zh,zi,zj,zk,zl,zm,zn,zo,zp,reduceCtorEq,zE,↓reduceIte]
               exact j6_40_t true _ _ _ _ _ _ (by rfl)
              ·simp -implicitDefEqProofs only [(show List.range 5 = [0,1,2,3,4] from rfl),zq0,zq2,zq7,yc6,yc8,yc9,yc11,yc13,yc14,yc15,yc17,yc18,yc19,yc20,yc22,yc23,yc25,setA,setB,za,zb,zc,zd,ze,zf,zg,zh,zi,zj,zk,zl,zm,zn,zo,zp,reduceCtorEq,zE,↓reduceIte]
               refine brB (fun yc26=>?_) (fun yc26=>?_)
               ·simp -implicitDefEqProofs only [(show List.range 5 = [0,1,2,3,4] from rfl),zq0,zq2,zq7,yc6,yc8,yc9,yc11,yc13,yc14,yc15,yc17,yc18,yc19,yc20,yc22,yc23,yc25,yc26,setA,setB,za,zb,zc,zd,ze,zf,zg,zh,zi,zj,zk,zl,zm,zn,zo,zp,reduceCtorEq,zE,↓reduceIte]
                exact j6_40_t false _ _ _ _ _ _ (by rfl)
               ·simp -implicitDefEqProofs only [(show List.range 5 = [0,1,2,3,4] from rfl),zq0,zq2,zq7,yc6,yc8,yc9,yc11,yc13,yc14,yc15,yc17,yc18,yc19,yc20,yc22,yc23,yc25,yc26,setA,setB,za,zb,zc,zd,ze,zf,zg,zh,zi,zj,zk,zl,zm,zn,zo,zp,reduceCtorEq,zE,↓reduceIte]
                exact j6_40_t (!(yr7.2.2.2.2.2.2.2.1 == 0)) _ _ _ _ _ _ (by rfl)
            ·simp -implicitDefEqProofs only [(show List.range 5 = [0,1,2,3,4] from rfl),zq0,zq2,zq7,yc6,yc8,yc9,yc11,yc13,yc14,yc15,yc17,yc18,yc19,yc20,yc22,setA,setB,za,zb,zc,zd,ze,zf,zg,zh,zi,zj,zk,zl,zm,zn,zo,zp,reduceCtorEq,zE,↓reduceIte]
             exact j6_40_t true _ _ _ _ _ _ (by rfl)
          ·simp -implicitDefEqProofs only [(show List.range 5 = [0,1,2,3,4] from rfl),zq0,zq2,zq7,yc6,yc8,yc9,yc11,yc13,yc14,yc15,yc17,yc18,yc19,setA,setB,za,zb,zc,zd,ze,zf,zg,zh,zi,zj,zk,zl,zm,zn,zo,zp,reduceCtorEq,zE,↓reduceIte]
           exact j6_40_t true _ _ _ _ _ _ (by rfl)
         ·simp -implicitDefEqProofs only [(show List.range 5 = [0,1,2,3,4] from rfl),zq0,zq2,zq7,yc6,yc8,yc9,yc11,yc13,yc14,yc15,yc17,yc18,setA,setB,za,zb,zc,zd,ze,zf,zg,zh,zi,zj,zk,zl,zm,zn,zo,zp,reduceCtorEq,zE,↓reduceIte]
          exact j6_40_t true _ _ _ _ _ _ (by rfl)
        ·simp -implicitDefEqProofs only [(show List.range 5 = [0,1,2,3,4] from rfl),zq0,zq2,zq7,yc6,yc8,yc9,yc11,yc13,yc14,yc15,yc17,setA,setB,za,zb,zc,zd,ze,zf,zg,zh,zi,zj,zk,zl,zm,zn,zo,zp,reduceCtorEq,zE,↓reduceIte]
         exact j6_40_t true _ _ _ _ _ _ (by rfl)
      ·simp -implicitDefEqProofs only [(show List.range 5 = [0,1,2,3,4] from rfl),zq0,zq2,zq7,yc6,yc8,yc9,yc11,yc13,yc14,setA,setB,za,zb,zc,zd,ze,zf,zg,zh,zi,zj,zk,zl,zm,zn,zo,zp,reduceCtorEq,zE,↓reduceIte]
       exact j6_40_t true _ _ _ _ _ _ (by rfl)
     ·simp -implicitDefEqProofs only [(show List.range 5 = [0,1,2,3,4] from rfl),zq0,zq2,zq7,yc6,yc8,yc9,yc11,yc13,setA,setB,za,zb,zc,zd,ze,zf,zg,zh,zi,zj,zk,zl,zm,zn,zo,zp,reduceCtorEq,zE,↓reduceIte]
      exact j6_40_t true _ _ _ _ _ _ (by rfl)
def j6_46v2  : Option R6:=
 some true
theorem j6_46v2_t  (g0 g1:Ob) (g2 g3:Ob) (sl:Nat→AV)  :
  bodyD (E0 mm) [.tmp 6] 0 false (den (E0 mm) 6 0 (callW (E0 mm)) itW c6_46 none ⟨sl,[g0,g1,g2,g3]⟩) = (j6_46v2).map e6:=by
 simp -implicitDefEqProofs only [j6_46v2,c6_46_e,c6_47_r,(show opsOf c6_47 = _ :: _ from rfl),c6_48_e,setA,setB,za,zb,zc,zd,ze,zf,zg,zh,zi,zj,zk,zl,zm,zn,zo,zp,reduceCtorEq,zE,↓reduceIte]
 all_goals rfl
def j6_46v3  : Option R6:=
 some true
theorem j6_46v3_t  (g0 g1:Ob) (g2 g3:Ob) (g4 g5:Ob) (sl:Nat→AV)  :
  bodyD (E0 mm) [.tmp 6] 0 false (den (E0 mm) 6 0 (callW (E0 mm)) itW c6_46 none ⟨sl,[g0,g1,g2,g3,g4,g5]⟩) = (j6_46v3).map e6:=by
 simp -implicitDefEqProofs only [j6_46v3,c6_46_e,c6_47_r,(show opsOf c6_47 = _ :: _ from rfl),c6_48_e,(show List.range 6 = [0,1,2,3,4,5] from rfl),setA,setB,za,zb,zc,zd,ze,zf,zg,zh,zi,zj,zk,zl,zm,zn,zo,zp,reduceCtorEq,zE,↓reduceIte]
 all_goals rfl
def j6_40v1 (t148:Bool):Option R6:=
 if t148 = true then
  some false
 else
  j6_46v3
theorem j6_40v1_t (t148:Bool) (g0 g1:Ob) (g2 g3:Ob) (g4 g5:Ob) (sl:Nat→AV) (zq148:sl 148 = .v (.c (.d (.sc (.bool t148))))):
  bodyD (E0 mm) [.tmp 6] 0 false (seqD (E0 mm) 6 0 (callW (E0 mm)) itW c6_46 (den (E0 mm) 6 0 (callW (E0 mm)) itW c6_40 none ⟨sl,[g0,g1,g2,g3,g4,g5]⟩)) = (j6_40v1 t148).map e6:=by
 simp -implicitDefEqProofs only [j6_40v1,(show c6_40 = Code.cond _ c6_41 c6_44 from rfl),(show List.range 6 = [0,1,2,3,4,5] from rfl),zq148,setA,setB,za,zb,zc,zd,ze,zf,zg,zh,zi,zj,zk,zl,zm,zn,zo,zp,reduceCtorEq,zE,↓reduceIte]
 refine brB (fun yc54=>?_) (fun yc54=>?_)
 ·simp -implicitDefEqProofs only [c6_41_e,c6_42_r,(show opsOf c6_42 = _ :: _ from rfl),c6_43_e,(show List.range 6 = [0,1,2,3,4,5] from rfl),zq148,yc54,setA,setB,za,zb,zc,zd,ze,zf,zg,zh,zi,zj,zk,zl,zm,zn,zo,zp,reduceCtorEq,zE,↓reduceIte]
  all_goals rfl
 ·simp -implicitDefEqProofs only [c6_44_e,(show List.range 6 = [0,1,2,3,4,5] from rfl),zq148,yc54,setA,setB,za,zb,zc,zd,ze,zf,zg,zh,zi,zj,zk,zl,zm,zn,zo,zp,reduceCtorEq,zE,↓reduceIte]
  exact j6_46v3_t _ _ _ _ _ _ _
def j6_28v1 (b0_0:Bool) (b0_1:List UInt8) (method2:Bs) (more7_0:Bool) (more7_1:List UInt8):Option R6:=
 (m11 b0_0 b0_1 method2 false).bind fun yr37=>
  if (yr37.2.2.2.2.2.2.2.2 == 8) = true then
   j6_46v2
  else
   (m11 more7_0 more7_1 method2 false).bind fun yr40=>
    (m11 more7_0 more7_1 method2 true).bind fun yr42=>
     if (yr40.2.2.2.2.2.2.2.2 == yr37.2.2.2.2.2.2.2.2) = true then
      if (yr40.2.2.2.2.2.2.2.1 == yr37.2.2.2.2.2.2.2.1) = true then
       (m19 yr37.1 yr37.2.1 yr37.2.2.1 yr37.2.2.2.1 yr37.2.2.2.2.1 yr37.2.2.2.2.2.1 yr37.2.2.2.2.2.2.1 yr40.1 yr40.2.1 yr40.2.2.1 yr40.2.2.2.1 yr40.2.2.2.2.1 yr40.2.2.2.2.2.1 yr40.2.2.2.2.2.2.1).bind fun yr46=>
        if yr46 = true then
         if (yr42.2.2.2.2.2.2.2.2 == yr37.2.2.2.2.2.2.2.2) = true then
          if (yr42.2.2.2.2.2.2.2.1 == yr37.2.2.2.2.2.2.2.1) = true then
           (m19 yr37.1 yr37.2.1 yr37.2.2.1 yr37.2.2.2.1 yr37.2.2.2.2.1 yr37.2.2.2.2.2.1 yr37.2.2.2.2.2.2.1 yr42.1 yr42.2.1 yr42.2.2.1 yr42.2.2.2.1 yr42.2.2.2.2.1 yr42.2.2.2.2.2.1 yr42.2.2.2.2.2.2.1).bind fun yr51=>
            if yr51 = true then
             if (decide (4096 < (yr37.2.2.2.2.2.2.1.length:Int))) = true then
              j6_40v1 true
             else
              if (decide ((b0_1.length:Int) < yr37.2.2.2.2.2.2.2.1)) = true then
               j6_40v1 true
              else
               if (yr37.2.2.2.2.2.2.2.2 == 0) = true then
                j6_40v1 false
               else
                j6_40v1 (!(yr37.2.2.2.2.2.2.2.1 == 0))
            else
             j6_40v1 true
          else
           j6_40v1 true
         else
          j6_40v1 true
        else
         j6_40v1 true
      else
       j6_40v1 true
     else
      j6_40v1 true
theorem j6_28v1_t (b0_0:Bool) (b0_1:List UInt8) (method2:Bs) (more7_0:Bool) (more7_1:List UInt8) (g1 g2:Ob) (sl:Nat→AV) (zq0:sl 0 = .v (.c (.d (.lst b0_0 (enL enB b0_1))))) (zq2:sl 2 = .v (.c (.d (.sc (.string (S method2)))))) (zq7:sl 7 = .v (.c (.own more7_0 (enL enB more7_1) 0))):
  bodyD (E0 mm) [.tmp 6] 0 false (den (E0 mm) 6 0 (callW (E0 mm)) itW c6_28 none ⟨sl,[.row more7_1.length (rz more7_0 1),g1,g2]⟩) = (j6_28v1 b0_0 b0_1 method2 more7_0 more7_1).map e6:=by
 simp -implicitDefEqProofs only [j6_28v1,c6_28_e,c6_29_r,(show opsOf c6_29 = _ :: _ from rfl),ent11,prm11,(show callW (E0 mm) 11 [.c (.d (.lst b0_0 (enL enB b0_1))),.c (.d (.sc (.string (S method2)))),.c (.d (.sc (.bool false)))] [] = _ from f11_t b0_0 b0_1 method2 false),zq0,zq2,zq7,setA,setB,za,zb,zc,zd,ze,zf,zg,zh,zi,zj,zk,zl,zm,zn,zo,zp,reduceCtorEq,zE,↓reduceIte]
 refine brM (fun yc36=>?_) (fun yr37 yc36=>?_)
 ·rw [yc36]; rfl
 ·simp -implicitDefEqProofs only [e11,zc32,ao46,sz32,c6_30_e,c6_31_e,c6_32_r,(show opsOf c6_32 = _ :: _ from rfl),(show c6_33 = Code.cond _ c6_34 c6_45 from rfl),zq0,zq2,zq7,yc36,setA,setB,za,zb,zc,zd,ze,zf,zg,zh,zi,zj,zk,zl,zm,zn,zo,zp,reduceCtorEq,zE,↓reduceIte]
  refine brB (fun yc38=>?_) (fun yc38=>?_)
  ·simp -implicitDefEqProofs only [c6_45_e,zq0,zq2,zq7,yc36,yc38,setA,setB,za,zb,zc,zd,ze,zf,zg,zh,zi,zj,zk,zl,zm,zn,zo,zp,reduceCtorEq,zE,↓reduceIte]
   exact j6_46v2_t _ _ _ _ _
  ·simp -implicitDefEqProofs only [c6_34_e,c6_35_r,(show opsOf c6_35 = _ :: _ from rfl),ent11,prm11,(show callW (E0 mm) 11 [.c (.d (.lst more7_0 (enL enB more7_1))),.c (.d (.sc (.string (S method2)))),.c (.d (.sc (.bool false)))] [] = _ from f11_t more7_0 more7_1 method2 false),zq0,zq2,zq7,yc36,yc38,setA,setB,za,zb,zc,zd,ze,zf,zg,zh,zi,zj,zk,zl,zm,zn,zo,zp,reduceCtorEq,zE,↓reduceIte]
   refine brM (fun yc39=>?_) (fun yr40 yc39=>?_)
   ·rw [yc39]; rfl
   ·simp -implicitDefEqProofs only [e11,zc32,ao47,sz32,c6_36_e,c6_37_r,(show opsOf c6_37 = _ :: _ from rfl),ent11,prm11,(show callW (E0 mm) 11 [.c (.d (.lst more7_0 (enL enB more7_1))),.c (.d (.sc (.string (S method2)))),.c (.d (.sc (.bool true)))] [] = _ from f11_t more7_0 more7_1 method2 true),(show List.range 5 = [0,1,2,3,4] from rfl),zq0,zq2,zq7,yc36,yc38,yc39,setA,setB,za,zb,zc,zd,ze,zf,zg,zh,zi,zj,zk,zl,zm,zn,zo,zp,reduceCtorEq,zE,↓reduceIte]
    refine brM (fun yc41=>?_) (fun yr42 yc41=>?_)
    ·rw [yc41]; rfl
    ·simp -implicitDefEqProofs only [e11,zc32,ao48,sz32,c6_38_e,c6_39_r,(show opsOf c6_39 = _ :: _ from rfl),(show List.range 6 = [0,1,2,3,4,5] from rfl),zq0,zq2,zq7,yc36,yc38,yc39,yc41,setA,setB,za,zb,zc,zd,ze,zf,zg,zh,zi,zj,zk,zl,zm,zn,zo,zp,reduceCtorEq,zE,↓reduceIte]
     refine brB (fun yc43=>?_) (fun yc43=>?_)
     ·simp -implicitDefEqProofs only [(show List.range 6 = [0,1,2,3,4,5] from rfl),zq0,zq2,zq7,yc36,yc38,yc39,yc41,yc43,setA,setB,za,zb,zc,zd,ze,zf,zg,zh,zi,zj,zk,zl,zm,zn,zo,zp,reduceCtorEq,zE,↓reduceIte]
      refine brB (fun yc44=>?_) (fun yc44=>?_)
      ·simp -implicitDefEqProofs only [sz32,ag32,ent19,prm19,f19_t,(show List.range 6 = [0,1,2,3,4,5] from rfl),zq0,zq2,zq7,yc36,yc38,yc39,yc41,yc43,yc44,setA,setB,za,zb,zc,zd,ze,zf,zg,zh,zi,zj,zk,zl,zm,zn,zo,zp,reduceCtorEq,zE,↓reduceIte]
       refine brM (fun yc45=>?_) (fun yr46 yc45=>?_)
       ·rw [yc45]; rfl
       ·simp -implicitDefEqProofs only [e19,(show List.range 6 = [0,1,2,3,4,5] from rfl),zq0,zq2,zq7,yc36,yc38,yc39,yc41,yc43,yc44,yc45,setA,setB,za,zb,zc,zd,ze,zf,zg,zh,zi,zj,zk,zl,zm,zn,zo,zp,reduceCtorEq,zE,↓reduceIte]
        refine brB (fun yc47=>?_) (fun yc47=>?_)
        ·simp -implicitDefEqProofs only [(show List.range 6 = [0,1,2,3,4,5] from rfl),zq0,zq2,zq7,yc36,yc38,yc39,yc41,yc43,yc44,yc45,yc47,setA,setB,za,zb,zc,zd,ze,zf,zg,zh,zi,zj,zk,zl,zm,zn,zo,zp,reduceCtorEq,zE,↓reduceIte]
         refine brB (fun yc48=>?_) (fun yc48=>?_)
         ·simp -implicitDefEqProofs only [(show List.range 6 = [0,1,2,3,4,5] from rfl),zq0,zq2,zq7,yc36,yc38,yc39,yc41,yc43,yc44,yc45,yc47,yc48,setA,setB,za,zb,zc,zd,ze,zf,zg,zh,zi,zj,zk,zl,zm,zn,zo,zp,reduceCtorEq,zE,↓reduceIte]
          refine brB (fun yc49=>?_) (fun yc49=>?_)
          ·simp -implicitDefEqProofs only [sz32,ag32,ent19,prm19,f19_t,(show List.range 6 = [0,1,2,3,4,5] from rfl),zq0,zq2,zq7,yc36,yc38,yc39,yc41,yc43,yc44,yc45,yc47,yc48,yc49,setA,setB,za,zb,zc,zd,ze,zf,zg,zh,zi,zj,zk,zl,zm,zn,zo,zp,reduceCtorEq,zE,↓reduceIte]
           refine brM (fun yc50=>?_) (fun yr51 yc50=>?_)
           ·rw [yc50]; rfl
           ·simp -implicitDefEqProofs only [e19,(show List.range 6 = [0,1,2,3,4,5] from rfl),zq0,zq2,zq7,yc36,yc38,yc39,yc41,yc43,yc44,yc45,yc47,yc48,yc49,yc50,setA,setB,za,zb,zc,zd,ze,zf,zg,zh,zi,zj,zk,zl,zm,zn,zo,zp,reduceCtorEq,zE,↓reduceIte]
            refine brB (fun yc52=>?_) (fun yc52=>?_)
            ·simp -implicitDefEqProofs only [Tryz.underlying32,sz22,ag22,Tryz.underlying22,(show List.range 6 = [0,1,2,3,4,5] from rfl),zq0,zq2,zq7,yc36,yc38,yc39,yc41,yc43,yc44,yc45,yc47,yc48,yc49,yc50,yc52,setA,setB,za,zb,zc,zd,ze,zf,zg,zh,zi,zj,zk,zl,zm,zn,zo,zp,reduceCtorEq,zE,↓reduceIte]
             refine brB (fun yc53=>?_) (fun yc53=>?_)
             ·simp -implicitDefEqProofs only [(show List.range 6 = [0,1,2,3,4,5] from rfl),zq0,zq2,zq7,yc36,yc38,yc39,yc41,yc43,yc44,yc45,yc47,yc48,yc49,yc50,yc52,yc53,setA,setB,za,zb,zc,zd,ze,zf,zg,zh,zi,zj,zk,zl,zm,zn,zo,zp,reduceCtorEq,zE,↓reduceIte]
              exact j6_40v1_t true _ _ _ _ _ _ _ (by rfl)
             ·simp -implicitDefEqProofs only [Tryz.underlying22,(show List.range 6 = [0,1,2,3,4,5] from rfl),zq0,zq2,zq7,yc36,yc38,yc39,yc41,yc43,yc44,yc45,yc47,yc48,yc49,yc50,yc52,yc53,setA,setB,za,zb,zc,zd,ze,zf,zg,zh,zi,zj,zk,zl,zm,zn,zo,zp,reduceCtorEq,zE,↓reduceIte]
              refine brB (fun yc55=>?_) (fun yc55=>?_)
              ·simp -implicitDefEqProofs only [(show List.range 6 = [0,1,2,3,4,5] from rfl),zq0,zq2,zq7,yc36,yc38,yc39,yc41,yc43,yc44,yc45,yc47,yc48,yc49,yc50,yc52,yc53,yc55,setA,setB,za,zb,zc,zd,ze,zf,zg,zh,zi,zj,zk,zl,zm,zn,zo,zp,reduceCtorEq,zE,↓reduceIte]
               exact j6_40v1_t true _ _ _ _ _ _ _ (by rfl)
              ·simp -implicitDefEqProofs only [(show List.range 6 = [0,1,2,3,4,5] from rfl),zq0,zq2,zq7,yc36,yc38,yc39,yc41,yc43,yc44,yc45,yc47,yc48,yc49,yc50,yc52,yc53,yc55,setA,setB,za,zb,zc,zd,ze,zf,zg,zh,zi,zj,zk,zl,zm,zn,zo,zp,reduceCtorEq,zE,↓reduceIte]
               refine brB (fun yc56=>?_) (fun yc56=>?_)
               ·simp -implicitDefEqProofs only [(show List.range 6 = [0,1,2,3,4,5] from rfl),zq0,zq2,zq7,yc36,yc38,yc39,yc41,yc43,yc44,yc45,yc47,yc48,yc49,yc50,yc52,yc53,yc55,yc56,setA,setB,za,zb,zc,zd,ze,zf,zg,zh,zi,zj,zk,zl,zm,zn,zo,zp,reduceCtorEq,zE,↓reduceIte]
                exact j6_40v1_t false _ _ _ _ _ _ _ (by rfl)
               ·simp -implicitDefEqProofs only [(show List.range 6 = [0,1,2,3,4,5] from rfl),zq0,zq2,zq7,yc36,yc38,yc39,yc41,yc43,yc44,yc45,yc47,yc48,yc49,yc50,yc52,yc53,yc55,yc56,setA,setB,za,zb,zc,zd,ze,zf,zg,zh,zi,zj,zk,zl,zm,zn,zo,zp,reduceCtorEq,zE,↓reduceIte]
                exact j6_40v1_t (!(yr37.2.2.2.2.2.2.2.1 == 0)) _ _ _ _ _ _ _ (by rfl)
            ·simp -implicitDefEqProofs only [(show List.range 6 = [0,1,2,3,4,5] from rfl),zq0,zq2,zq7,yc36,yc38,yc39,yc41,yc43,yc44,yc45,yc47,yc48,yc49,yc50,yc52,setA,setB,za,zb,zc,zd,ze,zf,zg,zh,zi,zj,zk,zl,zm,zn,zo,zp,reduceCtorEq,zE,↓reduceIte]
             exact j6_40v1_t true _ _ _ _ _ _ _ (by rfl)
          ·simp -implicitDefEqProofs only [(show List.range 6 = [0,1,2,3,4,5] from rfl),zq0,zq2,zq7,yc36,yc38,yc39,yc41,yc43,yc44,yc45,yc47,yc48,yc49,setA,setB,za,zb,zc,zd,ze,zf,zg,zh,zi,zj,zk,zl,zm,zn,zo,zp,reduceCtorEq,zE,↓reduceIte]
           exact j6_40v1_t true _ _ _ _ _ _ _ (by rfl)
         ·simp -implicitDefEqProofs only [(show List.range 6 = [0,1,2,3,4,5] from rfl),zq0,zq2,zq7,yc36,yc38,yc39,yc41,yc43,yc44,yc45,yc47,yc48,setA,setB,za,zb,zc,zd,ze,zf,zg,zh,zi,zj,zk,zl,zm,zn,zo,zp,reduceCtorEq,zE,↓reduceIte]
          exact j6_40v1_t true _ _ _ _ _ _ _ (by rfl)
        ·simp -implicitDefEqProofs only [(show List.range 6 = [0,1,2,3,4,5] from rfl),zq0,zq2,zq7,yc36,yc38,yc39,yc41,yc43,yc44,yc45,yc47,setA,setB,za,zb,zc,zd,ze,zf,zg,zh,zi,zj,zk,zl,zm,zn,zo,zp,reduceCtorEq,zE,↓reduceIte]
         exact j6_40v1_t true _ _ _ _ _ _ _ (by rfl)
      ·simp -implicitDefEqProofs only [(show List.range 6 = [0,1,2,3,4,5] from rfl),zq0,zq2,zq7,yc36,yc38,yc39,yc41,yc43,yc44,setA,setB,za,zb,zc,zd,ze,zf,zg,zh,zi,zj,zk,zl,zm,zn,zo,zp,reduceCtorEq,zE,↓reduceIte]
       exact j6_40v1_t true _ _ _ _ _ _ _ (by rfl)
     ·simp -implicitDefEqProofs only [(show List.range 6 = [0,1,2,3,4,5] from rfl),zq0,zq2,zq7,yc36,yc38,yc39,yc41,yc43,setA,setB,za,zb,zc,zd,ze,zf,zg,zh,zi,zj,zk,zl,zm,zn,zo,zp,reduceCtorEq,zE,↓reduceIte]
      exact j6_40v1_t true _ _ _ _ _ _ _ (by rfl)
def j6_22 (b0_0:Bool) (b0_1:List UInt8) (method2:Bs) (more7_0:Bool) (more7_1:List UInt8) (t75:Bool):Option R6:=
 if t75 = true then
  some false
 else
  j6_28v1 b0_0 b0_1 method2 more7_0 more7_1
theorem j6_22_t (b0_0:Bool) (b0_1:List UInt8) (method2:Bs) (more7_0:Bool) (more7_1:List UInt8) (t75:Bool) (g1 g2:Ob) (sl:Nat→AV) (zq0:sl 0 = .v (.c (.d (.lst b0_0 (enL enB b0_1))))) (zq2:sl 2 = .v (.c (.d (.sc (.string (S method2)))))) (zq7:sl 7 = .v (.c (.own more7_0 (enL enB more7_1) 0))) (zq75:sl 75 = .v (.c (.d (.sc (.bool t75))))):
  bodyD (E0 mm) [.tmp 6] 0 false (seqD (E0 mm) 6 0 (callW (E0 mm)) itW c6_28 (den (E0 mm) 6 0 (callW (E0 mm)) itW c6_22 none ⟨sl,[.row more7_1.length (rz more7_0 1),g1,g2]⟩)) = (j6_22 b0_0 b0_1 method2 more7_0 more7_1 t75).map e6:=by
 simp -implicitDefEqProofs only [j6_22,(show c6_22 = Code.cond _ c6_23 c6_26 from rfl),zq0,zq2,zq7,zq75,setA,setB,za,zb,zc,zd,ze,zf,zg,zh,zi,zj,zk,zl,zm,zn,zo,zp,reduceCtorEq,zE,↓reduceIte]
 refine brB (fun yc35=>?_) (fun yc35=>?_)
 ·simp -implicitDefEqProofs only [c6_23_e,c6_24_r,(show opsOf c6_24 = _ :: _ from rfl),c6_25_e,zq0,zq2,zq7,zq75,yc35,setA,setB,za,zb,zc,zd,ze,zf,zg,zh,zi,zj,zk,zl,zm,zn,zo,zp,reduceCtorEq,zE,↓reduceIte]
  all_goals rfl
 ·simp -implicitDefEqProofs only [c6_26_e,zq0,zq2,zq7,zq75,yc35,setA,setB,za,zb,zc,zd,ze,zf,zg,zh,zi,zj,zk,zl,zm,zn,zo,zp,reduceCtorEq,zE,↓reduceIte]
  exact j6_28v1_t b0_0 b0_1 method2 more7_0 more7_1 _ _ _ (by exact zq0) (by exact zq2) (by exact zq7)
def m6 (b_0:Bool) (b_1:List UInt8) (tail_0:Bool) (tail_1:List UInt8) (method:Bs):Option R6:=
 if b_1 = []∨(0 + b_1.length) * 1≤140737488355328 then
  if tail_1 = []∨(b_1.length + tail_1.length) * 1≤140737488355328 then
   (m9 b_0 b_1).bind fun yr4=>
    if (yr4.2.2.2.2.2.2.2.2 == 8) = true then
     j6_28 b_0 b_1 method false (b_1 ++ tail_1)
    else
     (m9 false (b_1 ++ tail_1)).bind fun yr28=>
      if (yr28.2.2.2.2.2.2.2.2 == yr4.2.2.2.2.2.2.2.2) = true then
       if (yr28.2.2.2.2.2.2.2.1 == yr4.2.2.2.2.2.2.2.1) = true then
        (m18 yr4.1 yr4.2.1 yr4.2.2.1 yr4.2.2.2.1 yr4.2.2.2.2.1 yr4.2.2.2.2.2.1 yr4.2.2.2.2.2.2.1 yr28.1 yr28.2.1 yr28.2.2.1 yr28.2.2.2.1 yr28.2.2.2.2.1 yr28.2.2.2.2.2.1 yr28.2.2.2.2.2.2.1).bind fun yr32=>
         if yr32 = true then
          if (decide (4096 < (yr4.2.2.2.2.2.2.1.length:Int))) = true then
           j6_22 b_0 b_1 method false (b_1 ++ tail_1) true
          else
           if (decide ((b_1.length:Int) < yr4.2.2.2.2.2.2.2.1)) = true then
            j6_22 b_0 b_1 method false (b_1 ++ tail_1) true
           else
            if (yr4.2.2.2.2.2.2.2.2 == 0) = true then
             j6_22 b_0 b_1 method false (b_1 ++ tail_1) false
            else
             j6_22 b_0 b_1 method false (b_1 ++ tail_1) (!(yr4.2.2.2.2.2.2.2.1 == 0))
         else
          j6_22 b_0 b_1 method false (b_1 ++ tail_1) true
       else
        j6_22 b_0 b_1 method false (b_1 ++ tail_1) true
      else
       j6_22 b_0 b_1 method false (b_1 ++ tail_1) true
  else none
 else none
theorem f6_t (b_0:Bool) (b_1:List UInt8) (tail_0:Bool) (tail_1:List UInt8) (method:Bs):
  callW (E0 mm) 6 [.c (.d (.lst b_0 (enL enB b_1))),.c (.d (.lst tail_0 (enL enB tail_1))),.c (.d (.sc (.string (S method))))] [] = (m6 b_0 b_1 tail_0 tail_1 method).map e6:=by
 rw [callW_run (body:=c6_0) (res:=[.tmp 6]) Tryz.func6 rfl rfl (by kernel_rfl)]
 simp -implicitDefEqProofs only [m6,slots3,c6_0_e,c6_1_r,(show opsOf c6_1 = _ :: _ from rfl),c6_2_e,c6_3_e,c6_4_r,(show opsOf c6_4 = _ :: _ from rfl),ent15,prm15,f15_t,(show c6_5 = Code.cond _ c6_6 c6_9 from rfl),c6_9_e,c6_10_e,c6_11_r,(show opsOf c6_11 = _ :: _ from rfl),Tryz.underlying22,sz5,zc5,hd0,nv1,rw2,ns3,ap22,setA,setB,za,zb,zc,zd,ze,zf,zg,zh,zi,zj,zk,zl,zm,zn,zo,zp,reduceCtorEq,zE,↓reduceIte]
 refine brP (fun yc1=>?_) (fun yc1=>?_)
 ·simp -implicitDefEqProofs only [Tryz.underlying22,hd0,ap22,yc1,setA,setB,za,zb,zc,zd,ze,zf,zg,zh,zi,zj,zk,zl,zm,zn,zo,zp,reduceCtorEq,zE,↓reduceIte]
  refine brP (fun yc2=>?_) (fun yc2=>?_)
  ·simp -implicitDefEqProofs only [c6_12_e,c6_13_r,(show opsOf c6_13 = _ :: _ from rfl),ent9,prm9,f9_t,yc1,yc2,setA,setB,za,zb,zc,zd,ze,zf,zg,zh,zi,zj,zk,zl,zm,zn,zo,zp,reduceCtorEq,zE,↓reduceIte]
   refine brM (fun yc3=>?_) (fun yr4 yc3=>?_)
   ·rw [yc3]; rfl
   ·simp -implicitDefEqProofs only [e9,zc25,ao43,sz25,c6_14_e,c6_15_e,c6_16_r,(show opsOf c6_16 = _ :: _ from rfl),(show c6_17 = Code.cond _ c6_18 c6_27 from rfl),yc1,yc2,yc3,setA,setB,za,zb,zc,zd,ze,zf,zg,zh,zi,zj,zk,zl,zm,zn,zo,zp,reduceCtorEq,zE,↓reduceIte]
    refine brB (fun yc5=>?_) (fun yc5=>?_)
    ·simp -implicitDefEqProofs only [c6_27_e,yc1,yc2,yc3,yc5,setA,setB,za,zb,zc,zd,ze,zf,zg,zh,zi,zj,zk,zl,zm,zn,zo,zp,reduceCtorEq,zE,↓reduceIte]
     exact j6_28_t b_0 b_1 method false (b_1 ++ tail_1) _ _ (by rfl) (by rfl) (by rfl)
    ·simp -implicitDefEqProofs only [c6_18_e,c6_19_r,(show opsOf c6_19 = _ :: _ from rfl),ent9,prm9,(show callW (E0 mm) 9 [.c (.d (.lst false (enL enB (b_1 ++ tail_1))))] [] = _ from f9_t false (b_1 ++ tail_1)),yc1,yc2,yc3,yc5,setA,setB,za,zb,zc,zd,ze,zf,zg,zh,zi,zj,zk,zl,zm,zn,zo,zp,reduceCtorEq,zE,↓reduceIte]
     refine brM (fun yc27=>?_) (fun yr28 yc27=>?_)
     ·rw [yc27]; rfl
     ·simp -implicitDefEqProofs only [e9,zc25,ao50,sz25,c6_20_e,c6_21_r,(show opsOf c6_21 = _ :: _ from rfl),yc1,yc2,yc3,yc5,yc27,setA,setB,za,zb,zc,zd,ze,zf,zg,zh,zi,zj,zk,zl,zm,zn,zo,zp,reduceCtorEq,zE,↓reduceIte]
      refine brB (fun yc29=>?_) (fun yc29=>?_)
      ·simp -implicitDefEqProofs only [yc1,yc2,yc3,yc5,yc27,yc29,setA,setB,za,zb,zc,zd,ze,zf,zg,zh,zi,zj,zk,zl,zm,zn,zo,zp,reduceCtorEq,zE,↓reduceIte]
       refine brB (fun yc30=>?_) (fun yc30=>?_)
       ·simp -implicitDefEqProofs only [sz25,ag25,ent18,prm18,f18_t,yc1,yc2,yc3,yc5,yc27,yc29,yc30,setA,setB,za,zb,zc,zd,ze,zf,zg,zh,zi,zj,zk,zl,zm,zn,zo,zp,reduceCtorEq,zE,↓reduceIte]
        refine brM (fun yc31=>?_) (fun yr32 yc31=>?_)
        ·rw [yc31]; rfl
        ·simp -implicitDefEqProofs only [e18,yc1,yc2,yc3,yc5,yc27,yc29,yc30,yc31,setA,setB,za,zb,zc,zd,ze,zf,zg,zh,zi,zj,zk,zl,zm,zn,zo,zp,reduceCtorEq,zE,↓reduceIte]
         refine brB (fun yc33=>?_) (fun yc33=>?_)
         ·simp -implicitDefEqProofs only [Tryz.underlying25,sz22,ag22,Tryz.underlying22,yc1,yc2,yc3,yc5,yc27,yc29,yc30,yc31,yc33,setA,setB,za,zb,zc,zd,ze,zf,zg,zh,zi,zj,zk,zl,zm,zn,zo,zp,reduceCtorEq,zE,↓reduceIte]
          refine brB (fun yc34=>?_) (fun yc34=>?_)
          ·simp -implicitDefEqProofs only [yc1,yc2,yc3,yc5,yc27,yc29,yc30,yc31,yc33,yc34,setA,setB,za,zb,zc,zd,ze,zf,zg,zh,zi,zj,zk,zl,zm,zn,zo,zp,reduceCtorEq,zE,↓reduceIte]
           exact j6_22_t b_0 b_1 method false (b_1 ++ tail_1) true _ _ _ (by rfl) (by rfl) (by rfl) (by rfl)
          ·simp -implicitDefEqProofs only [Tryz.underlying22,yc1,yc2,yc3,yc5,yc27,yc29,yc30,yc31,yc33,yc34,setA,setB,za,zb,zc,zd,ze,zf,zg,zh,zi,zj,zk,zl,zm,zn,zo,zp,reduceCtorEq,zE,↓reduceIte]
           refine brB (fun yc57=>?_) (fun yc57=>?_)
           ·simp -implicitDefEqProofs only [yc1,yc2,yc3,yc5,yc27,yc29,yc30,yc31,yc33,yc34,yc57,setA,setB,za,zb,zc,zd,ze,zf,zg,zh,zi,zj,zk,zl,zm,zn,zo,zp,reduceCtorEq,zE,↓reduceIte]
            exact j6_22_t b_0 b_1 method false (b_1 ++ tail_1) true _ _ _ (by rfl) (by rfl) (by rfl) (by rfl)
           ·simp -implicitDefEqProofs only [yc1,yc2,yc3,yc5,yc27,yc29,yc30,yc31,yc33,yc34,yc57,setA,setB,za,zb,zc,zd,ze,zf,zg,zh,zi,zj,zk,zl,zm,zn,zo,zp,reduceCtorEq,zE,↓reduceIte]
            refine brB (fun yc58=>?_) (fun yc58=>?_)
            ·simp -implicitDefEqProofs only [yc1,yc2,yc3,yc5,yc27,yc29,yc30,yc31,yc33,yc34,yc57,yc58,setA,setB,za,zb,zc,zd,ze,zf,zg,zh,zi,zj,zk,zl,zm,zn,zo,zp,reduceCtorEq,zE,↓reduceIte]
             exact j6_22_t b_0 b_1 method false (b_1 ++ tail_1) false _ _ _ (by rfl) (by rfl) (by rfl) (by rfl)
            ·simp -implicitDefEqProofs only [yc1,yc2,yc3,yc5,yc27,yc29,yc30,yc31,yc33,yc34,yc57,yc58,setA,setB,za,zb,zc,zd,ze,zf,zg,zh,zi,zj,zk,zl,zm,zn,zo,zp,reduceCtorEq,zE,↓reduceIte]
             exact j6_22_t b_0 b_1 method false (b_1 ++ tail_1) (!(yr4.2.2.2.2.2.2.2.1 == 0)) _ _ _ (by rfl) (by rfl) (by rfl) (by rfl)
         ·simp -implicitDefEqProofs only [yc1,yc2,yc3,yc5,yc27,yc29,yc30,yc31,yc33,setA,setB,za,zb,zc,zd,ze,zf,zg,zh,zi,zj,zk,zl,zm,zn,zo,zp,reduceCtorEq,zE,↓reduceIte]
          exact j6_22_t b_0 b_1 method false (b_1 ++ tail_1) true _ _ _ (by rfl) (by rfl) (by rfl) (by rfl)
       ·simp -implicitDefEqProofs only [yc1,yc2,yc3,yc5,yc27,yc29,yc30,setA,setB,za,zb,zc,zd,ze,zf,zg,zh,zi,zj,zk,zl,zm,zn,zo,zp,reduceCtorEq,zE,↓reduceIte]
        exact j6_22_t b_0 b_1 method false (b_1 ++ tail_1) true _ _ _ (by rfl) (by rfl) (by rfl) (by rfl)
      ·simp -implicitDefEqProofs only [yc1,yc2,yc3,yc5,yc27,yc29,setA,setB,za,zb,zc,zd,ze,zf,zg,zh,zi,zj,zk,zl,zm,zn,zo,zp,reduceCtorEq,zE,↓reduceIte]
       exact j6_22_t b_0 b_1 method false (b_1 ++ tail_1) true _ _ _ (by rfl) (by rfl) (by rfl) (by rfl)
  ·rw [if_neg yc2]; rfl
 ·rw [if_neg yc1]; rfl
end
end Go.Proofs.YtoohbnmhjfgclaaGreatDoor
