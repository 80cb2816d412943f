/- The Go functions as plain functions, and that the evaluator computes them. -/
import Derived.Test.YtoohbnmhjfgclaaGreatDoorFStays3
set_option linter.all false
set_option maxRecDepth 100000
namespace Go.Proofs.YtoohbnmhjfgclaaGreatDoor
open Go Go.Ab
open Nat renaming reduceEqDiff→za,reduceAdd→zb,reduceLeDiff→zc,reduceLT→zd,reduceMul→ze,reduceBEq→zf,reduceSub→zg,reducePow→zh
open Int renaming reduceEq→zi,reduceLE→zj,reduceLT→zk,reduceToNat→zl,reduceNegSucc→zm,reduceAdd→zn,reduceBEq→zo
open String renaming reduceBEq→zp
set_option maxHeartbeats 4000000
noncomputable section
variable {mm:Int}
noncomputable def c117_0:Code:=bodyOf Tryz.f117
def c117_1:=cA c117_0
def c117_2:=cB c117_0
def c117_3:=cA c117_2
def c117_4:=cA c117_3
def c117_5:=cB c117_3
def c117_6:=cA c117_5
def c117_7:=cA c117_6
def c117_8:=cA c117_7
def c117_9:=cB c117_7
def c117_10:=cA c117_9
def c117_11:=cA c117_10
def c117_12:=cB c117_10
def c117_13:=cB c117_9
def c117_14:=cA c117_13
def c117_15:=cA c117_14
def c117_16:=cA c117_15
def c117_17:=cB c117_15
def c117_18:=cA c117_17
def c117_19:=cB c117_17
def c117_20:=cA c117_19
def c117_21:=cA c117_20
def c117_22:=cA c117_21
def c117_23:=cB c117_21
def c117_24:=cA c117_23
def c117_25:=cA c117_24
def c117_26:=cB c117_24
def c117_27:=cB c117_23
def c117_28:=cA c117_27
def c117_29:=cA c117_28
def c117_30:=cA c117_29
def c117_31:=cB c117_29
def c117_32:=cA c117_31
def c117_33:=cB c117_31
def c117_34:=cA c117_33
def c117_35:=cB c117_33
def c117_36:=cA c117_35
def c117_37:=cA c117_36
def c117_38:=cB c117_36
def c117_39:=cB c117_35
def c117_40:=cB c117_27
def c117_41:=cB c117_13
def c117_42:=cB c117_2
def c117_43:=cA c117_42
def c117_44:=cB c117_42
theorem c117_0_e:c117_0 = .seq c117_1 c117_2:=rfl
theorem c117_1_r:RG (E0 mm) 117 c117_1:=rgN rfl
theorem c117_2_e:c117_2 = .seq c117_3 c117_42:=rfl
theorem c117_3_e:c117_3 = .seq c117_4 c117_5:=rfl
theorem c117_4_r:RG (E0 mm) 117 c117_4:=rgN rfl
theorem c117_5_e:c117_5 = .block 0 c117_6:=rfl
theorem c117_6_l (m:Nat) (st:St):den (E0 mm) 117 m (callW (E0 mm)) itW c117_6 none st = loopD itW (loopF (E0 mm) 117 m (callW (E0 mm)) itW c117_7 [(1,.keep),(10,.keep),(11,.keep),(12,.keep)]) (canon m [(1,.keep),(10,.keep),(11,.keep),(12,.keep)] st):=rfl
theorem c117_7_e:c117_7 = .seq c117_8 c117_9:=rfl
theorem c117_8_r:RG (E0 mm) 117 c117_8:=rgN rfl
theorem c117_9_e:c117_9 = .seq c117_10 c117_13:=rfl
theorem c117_11_e:c117_11 = .skip:=rfl
theorem c117_12_e:c117_12 = .exit 0:=rfl
theorem c117_13_e:c117_13 = .seq c117_14 c117_41:=rfl
theorem c117_14_e:c117_14 = .block 1 c117_15:=rfl
theorem c117_15_e:c117_15 = .seq c117_16 c117_17:=rfl
theorem c117_16_r:RG (E0 mm) 117 c117_16:=rgN rfl
theorem c117_17_e:c117_17 = .seq c117_18 c117_19:=rfl
theorem c117_18_r:RG (E0 mm) 117 c117_18:=rgN rfl
theorem c117_19_e:c117_19 = .block 2 c117_20:=rfl
theorem c117_20_l (m:Nat) (st:St):den (E0 mm) 117 m (callW (E0 mm)) itW c117_20 none st = loopD itW (loopF (E0 mm) 117 m (callW (E0 mm)) itW c117_21 [(1,.keep),(10,.keep),(11,.keep),(12,.keep),(17,.keep),(18,.keep),(19,.keep)]) (canon m [(1,.keep),(10,.keep),(11,.keep),(12,.keep),(17,.keep),(18,.keep),(19,.keep)] st):=rfl
theorem c117_21_e:c117_21 = .seq c117_22 c117_23:=rfl
theorem c117_22_r:RG (E0 mm) 117 c117_22:=rgN rfl
theorem c117_23_e:c117_23 = .seq c117_24 c117_27:=rfl
theorem c117_25_e:c117_25 = .skip:=rfl
theorem c117_26_e:c117_26 = .exit 2:=rfl
theorem c117_27_e:c117_27 = .seq c117_28 c117_40:=rfl
theorem c117_28_e:c117_28 = .block 3 c117_29:=rfl
theorem c117_29_e:c117_29 = .seq c117_30 c117_31:=rfl
theorem c117_30_r:RG (E0 mm) 117 c117_30:=rgN rfl
theorem c117_31_e:c117_31 = .seq c117_32 c117_33:=rfl
theorem c117_32_r:RG (E0 mm) 117 c117_32:=rgN rfl
theorem c117_33_e:c117_33 = .seq c117_34 c117_35:=rfl
theorem c117_34_r:RG (E0 mm) 117 c117_34:=rgN rfl
theorem c117_36_e:c117_36 = .seq c117_37 c117_38:=rfl
theorem c117_37_r:RG (E0 mm) 117 c117_37:=rgN rfl
theorem c117_38_e:c117_38 = .ret:=rfl
theorem c117_39_e:c117_39 = .skip:=rfl
theorem c117_40_r:RG (E0 mm) 117 c117_40:=rgN rfl
theorem c117_41_r:RG (E0 mm) 117 c117_41:=rgN rfl
theorem c117_42_e:c117_42 = .seq c117_43 c117_44:=rfl
theorem c117_43_r:RG (E0 mm) 117 c117_43:=rgN rfl
theorem c117_44_e:c117_44 = .ret:=rfl
abbrev R117:=(Int×Int)
def e117:R117→AV×Heap:=fun x=>(.v (.c (.d (.sc (.int .i64 x.1)))),[.cells [.d (.sc (.int .i64 x.2))]])
def K117_6:Option (Ex×St)→Option (AV×Heap):=fun r=>bodyD (E0 mm) [.tmp 4] 1 false (seqD (E0 mm) 117 1 (callW (E0 mm)) itW c117_42 (blockD 0 (r)))
def en117_6:(Bool×List Bs×Int×Int×Int)→X:=fun x=>(none,[.v (.c (.fn 118 [(0,0)])),.v (.c (.d (.lst x.1 (enL enS x.2.1)))),.v (.c (.d (.sc (.int .i64 x.2.2.1)))),.v (.c (.d (.sc (.int .i64 x.2.2.2.1))))],[.cells [.d (.sc (.int .i64 x.2.2.2.2))]])
def K117_20:Option (Ex×St)→Option (X ⊕ (AV×Heap)):=fun r=>stepE (K117_6 (mm:=mm)) (loopK 1 [(1,.keep),(10,.keep),(11,.keep),(12,.keep)] (seqD (E0 mm) 117 1 (callW (E0 mm)) itW c117_41 (blockD 1 (blockD 2 (r)))))
def en117_20:(Bool×List Bs×Int×Int×Bool×List Bs×Int×Int×Int)→X:=fun x=>(none,[.v (.c (.fn 118 [(0,0)])),.v (.c (.d (.lst x.1 (enL enS x.2.1)))),.v (.c (.d (.sc (.int .i64 x.2.2.1)))),.v (.c (.d (.sc (.int .i64 x.2.2.2.1)))),.v (.c (.own x.2.2.2.2.1 (enL enS x.2.2.2.2.2.1) 1)),.v (.c (.d (.sc (.int .i64 x.2.2.2.2.2.2.1)))),.v (.c (.d (.sc (.int .i64 x.2.2.2.2.2.2.2.1))))],[.cells [.d (.sc (.int .i64 x.2.2.2.2.2.2.2.2))],.row x.2.2.2.2.2.1.length (rz x.2.2.2.2.1 1)])
def j117_41 (t10_0:Bool) (t10_1:List Bs) (t11 t12 h0_0:Int):Option ((Bool×List Bs×Int×Int×Int) ⊕ R117):=
 some (.inl (t10_0,t10_1,t11,(w64 (t12 + 1)),h0_0))
theorem j117_41_t (t10_0:Bool) (t10_1:List Bs) (t11 t12 h0_0:Int) (g1:Ob) (sl:Nat→AV) (zq1:sl 1 = .v (.c (.fn 118 [(0,0)]))) (zq10:sl 10 = .v (.c (.d (.lst t10_0 (enL enS t10_1))))) (zq11:sl 11 = .v (.c (.d (.sc (.int .i64 t11))))) (zq12:sl 12 = .v (.c (.d (.sc (.int .i64 t12))))):
  stepE (K117_6 (mm:=mm)) (loopK 1 [(1,.keep),(10,.keep),(11,.keep),(12,.keep)] (den (E0 mm) 117 1 (callW (E0 mm)) itW c117_41 none ⟨sl,[.cells [.d (.sc (.int .i64 h0_0))],g1]⟩)) = (j117_41 t10_0 t10_1 t11 t12 h0_0).map (sm en117_6 e117):=by
 simp -implicitDefEqProofs only [j117_41,c117_41_r,(show opsOf c117_41 = _ :: _ from rfl),zq1,zq10,zq11,zq12,setA,setB,za,zb,zc,zd,ze,zf,zg,zh,zi,zj,zk,zl,zm,zn,zo,zp,reduceCtorEq,zE,↓reduceIte]
 all_goals rfl
def s117_20 (t10_0:Bool) (t10_1:List Bs) (t11 t12:Int) (t17_0:Bool) (t17_1:List Bs) (t18 t19 h0_0:Int):Option ((Bool×List Bs×Int×Int×Bool×List Bs×Int×Int×Int) ⊕ ((Bool×List Bs×Int×Int×Int) ⊕ R117)):=
 if (decide (t19 < t18)) = true then
  if 0≤t19∧t19 < (t17_1.length:Int) then
   (m118 (t17_1.getD t19.toNat default) h0_0).bind fun yr10=>
    if (yr10.1 == 0) = true then
     some (.inl (t10_0,t10_1,t11,t12,t17_0,t17_1,t18,(w64 (t19 + 1)),yr10.2))
    else
     some (.inr (.inr (yr10.1,yr10.2)))
  else none
 else
  (j117_41 t10_0 t10_1 t11 t12 h0_0).map .inr
theorem s117_20_t (t10_0:Bool) (t10_1:List Bs) (t11 t12:Int) (t17_0:Bool) (t17_1:List Bs) (t18 t19 h0_0:Int):
  stepE (K117_20 (mm:=mm)) (loopF (E0 mm) 117 1 (callW (E0 mm)) itW c117_21 [(1,.keep),(10,.keep),(11,.keep),(12,.keep),(17,.keep),(18,.keep),(19,.keep)] (none,[.v (.c (.fn 118 [(0,0)])),.v (.c (.d (.lst t10_0 (enL enS t10_1)))),.v (.c (.d (.sc (.int .i64 t11)))),.v (.c (.d (.sc (.int .i64 t12)))),.v (.c (.own t17_0 (enL enS t17_1) 1)),.v (.c (.d (.sc (.int .i64 t18)))),.v (.c (.d (.sc (.int .i64 t19))))],[.cells [.d (.sc (.int .i64 h0_0))],.row t17_1.length (rz t17_0 1)])) = (s117_20 t10_0 t10_1 t11 t12 t17_0 t17_1 t18 t19 h0_0).map (sm en117_20 (sm en117_6 e117)):=by
 simp -implicitDefEqProofs only [s117_20,loopF_eq,c117_21_e,c117_22_r,(show opsOf c117_22 = _ :: _ from rfl),c117_23_e,(show c117_24 = Code.cond _ c117_25 c117_26 from rfl),setA,setB,za,zb,zc,zd,ze,zf,zg,zh,zi,zj,zk,zl,zm,zn,zo,zp,reduceCtorEq,zE,↓reduceIte]
 refine brB (fun yc6=>?_) (fun yc6=>?_)
 ·simp -implicitDefEqProofs only [c117_25_e,c117_27_e,c117_28_e,c117_29_e,c117_30_r,(show opsOf c117_30 = _ :: _ from rfl),Tryz.underlying101,sz9,enS_a,yc6,setA,setB,za,zb,zc,zd,ze,zf,zg,zh,zi,zj,zk,zl,zm,zn,zo,zp,reduceCtorEq,zE,↓reduceIte]
  refine brP (fun yc7=>?_) (fun yc7=>?_)
  ·have yd8:t19.toNat < t17_1.length:=by omega
   simp -implicitDefEqProofs only [(enL_get enS t17_1 t19.toNat yd8),enS_e,sz9,ag9,c117_31_e,c117_32_r,(show opsOf c117_32 = _ :: _ from rfl),ent118,prm118,f118_t,yc6,yc7,yd8,setA,setB,za,zb,zc,zd,ze,zf,zg,zh,zi,zj,zk,zl,zm,zn,zo,zp,reduceCtorEq,zE,↓reduceIte]
   refine brM (fun yc9=>?_) (fun yr10 yc9=>?_)
   ·rw [yc9]; rfl
   ·simp -implicitDefEqProofs only [e118,c117_33_e,c117_34_r,(show opsOf c117_34 = _ :: _ from rfl),(show c117_35 = Code.cond _ c117_36 c117_39 from rfl),yc6,yc7,yd8,yc9,setA,setB,za,zb,zc,zd,ze,zf,zg,zh,zi,zj,zk,zl,zm,zn,zo,zp,reduceCtorEq,zE,↓reduceIte]
    refine brB (fun yc11=>?_) (fun yc11=>?_)
    ·simp -implicitDefEqProofs only [c117_39_e,c117_40_r,(show opsOf c117_40 = _ :: _ from rfl),yc6,yc7,yd8,yc9,yc11,setA,setB,za,zb,zc,zd,ze,zf,zg,zh,zi,zj,zk,zl,zm,zn,zo,zp,reduceCtorEq,zE,↓reduceIte]
     all_goals rfl
    ·simp -implicitDefEqProofs only [c117_36_e,c117_37_r,(show opsOf c117_37 = _ :: _ from rfl),c117_38_e,K117_20,K117_6,yc6,yc7,yd8,yc9,yc11,setA,setB,za,zb,zc,zd,ze,zf,zg,zh,zi,zj,zk,zl,zm,zn,zo,zp,reduceCtorEq,zE,↓reduceIte]
     all_goals rfl
  ·rw [if_neg yc7]; rfl
 ·simp -implicitDefEqProofs only [c117_26_e,K117_20,yc6,setA,setB,za,zb,zc,zd,ze,zf,zg,zh,zi,zj,zk,zl,zm,zn,zo,zp,reduceCtorEq,zE,↓reduceIte]
  exact mi (j117_41_t t10_0 t10_1 t11 t12 h0_0 _ _ (by rfl) (by rfl) (by rfl) (by rfl))
def l117_20 (t10_0:Bool) (t10_1:List Bs) (t11 t12:Int) (t17_0:Bool) (t17_1:List Bs) (t18 t19 h0_0:Int):Option ((Bool×List Bs×Int×Int×Int) ⊕ R117):=iter (fun x:(Bool×List Bs×Int×Int×Bool×List Bs×Int×Int×Int)=>s117_20 x.1 x.2.1 x.2.2.1 x.2.2.2.1 x.2.2.2.2.1 x.2.2.2.2.2.1 x.2.2.2.2.2.2.1 x.2.2.2.2.2.2.2.1 x.2.2.2.2.2.2.2.2) (t10_0,t10_1,t11,t12,t17_0,t17_1,t18,t19,h0_0)
theorem l117_20_t (t10_0:Bool) (t10_1:List Bs) (t11 t12:Int) (t17_0:Bool) (t17_1:List Bs) (t18 t19 h0_0:Int):stepE (K117_6 (mm:=mm)) (loopK 1 [(1,.keep),(10,.keep),(11,.keep),(12,.keep)] (seqD (E0 mm) 117 1 (callW (E0 mm)) itW c117_41 (blockD 1 (blockD 2 (itW (loopF (E0 mm) 117 1 (callW (E0 mm)) itW c117_21 [(1,.keep),(10,.keep),(11,.keep),(12,.keep),(17,.keep),(18,.keep),(19,.keep)]) (none,[.v (.c (.fn 118 [(0,0)])),.v (.c (.d (.lst t10_0 (enL enS t10_1)))),.v (.c (.d (.sc (.int .i64 t11)))),.v (.c (.d (.sc (.int .i64 t12)))),.v (.c (.own t17_0 (enL enS t17_1) 1)),.v (.c (.d (.sc (.int .i64 t18)))),.v (.c (.d (.sc (.int .i64 t19))))],[.cells [.d (.sc (.int .i64 h0_0))],.row t17_1.length (rz t17_0 1)])))))) = (l117_20 t10_0 t10_1 t11 t12 t17_0 t17_1 t18 t19 h0_0).map (sm en117_6 e117):=
 it_sim (K:=(K117_20 (mm:=mm))) rfl (enc:=en117_20) (fun x=>s117_20_t x.1 x.2.1 x.2.2.1 x.2.2.2.1 x.2.2.2.2.1 x.2.2.2.2.2.1 x.2.2.2.2.2.2.1 x.2.2.2.2.2.2.2.1 x.2.2.2.2.2.2.2.2) (t10_0,t10_1,t11,t12,t17_0,t17_1,t18,t19,h0_0)
def j117_42 (h0_0:Int):Option R117:=
 some ((0:Int),h0_0)
theorem j117_42_t (h0_0:Int)  (sl:Nat→AV)  :
  bodyD (E0 mm) [.tmp 4] 1 false (den (E0 mm) 117 1 (callW (E0 mm)) itW c117_42 none ⟨sl,[.cells [.d (.sc (.int .i64 h0_0))]]⟩) = (j117_42 h0_0).map e117:=by
 simp -implicitDefEqProofs only [j117_42,c117_42_e,c117_43_r,(show opsOf c117_43 = _ :: _ from rfl),c117_44_e,setA,setB,za,zb,zc,zd,ze,zf,zg,zh,zi,zj,zk,zl,zm,zn,zo,zp,reduceCtorEq,zE,↓reduceIte]
 all_goals rfl
def s117_6 (t10_0:Bool) (t10_1:List Bs) (t11 t12 h0_0:Int):Option ((Bool×List Bs×Int×Int×Int) ⊕ R117):=
 if (decide (t12 < t11)) = true then
  if 0≤t12∧t12 < (t10_1.length:Int) then
   (m151 (t10_1.getD t12.toNat default)).bind fun yr5=>
    l117_20 t10_0 t10_1 t11 t12 yr5.1 yr5.2 (yr5.2.length:Int) (0:Int) h0_0
  else none
 else
  (j117_42 h0_0).map .inr
theorem s117_6_t (t10_0:Bool) (t10_1:List Bs) (t11 t12 h0_0:Int):
  stepE (K117_6 (mm:=mm)) (loopF (E0 mm) 117 1 (callW (E0 mm)) itW c117_7 [(1,.keep),(10,.keep),(11,.keep),(12,.keep)] (none,[.v (.c (.fn 118 [(0,0)])),.v (.c (.d (.lst t10_0 (enL enS t10_1)))),.v (.c (.d (.sc (.int .i64 t11)))),.v (.c (.d (.sc (.int .i64 t12))))],[.cells [.d (.sc (.int .i64 h0_0))]])) = (s117_6 t10_0 t10_1 t11 t12 h0_0).map (sm en117_6 e117):=by
 simp -implicitDefEqProofs only [s117_6,loopF_eq,c117_7_e,c117_8_r,(show opsOf c117_8 = _ :: _ from rfl),c117_9_e,(show c117_10 = Code.cond _ c117_11 c117_12 from rfl),setA,setB,za,zb,zc,zd,ze,zf,zg,zh,zi,zj,zk,zl,zm,zn,zo,zp,reduceCtorEq,zE,↓reduceIte]
 refine brB (fun yc1=>?_) (fun yc1=>?_)
 ·simp -implicitDefEqProofs only [c117_11_e,c117_13_e,c117_14_e,c117_15_e,c117_16_r,(show opsOf c117_16 = _ :: _ from rfl),Tryz.underlying101,sz9,enS_a,yc1,setA,setB,za,zb,zc,zd,ze,zf,zg,zh,zi,zj,zk,zl,zm,zn,zo,zp,reduceCtorEq,zE,↓reduceIte]
  refine brP (fun yc2=>?_) (fun yc2=>?_)
  ·have yd3:t12.toNat < t10_1.length:=by omega
   simp -implicitDefEqProofs only [(enL_get enS t10_1 t12.toNat yd3),enS_e,sz9,ag9,c117_17_e,c117_18_r,(show opsOf c117_18 = _ :: _ from rfl),ent151,prm151,f151_t,yc1,yc2,yd3,setA,setB,za,zb,zc,zd,ze,zf,zg,zh,zi,zj,zk,zl,zm,zn,zo,zp,reduceCtorEq,zE,↓reduceIte]
   refine brM (fun yc4=>?_) (fun yr5 yc4=>?_)
   ·rw [yc4]; rfl
   ·simp -implicitDefEqProofs only [e151,Tryz.underlying101,c117_19_e,c117_20_l,yc1,yc2,yd3,yc4,setA,setB,za,zb,zc,zd,ze,zf,zg,zh,zi,zj,zk,zl,zm,zn,zo,zp,reduceCtorEq,zE,↓reduceIte]
    exact l117_20_t t10_0 t10_1 t11 t12 yr5.1 yr5.2 (yr5.2.length:Int) (0:Int) h0_0
  ·rw [if_neg yc2]; rfl
 ·simp -implicitDefEqProofs only [c117_12_e,K117_6,yc1,setA,setB,za,zb,zc,zd,ze,zf,zg,zh,zi,zj,zk,zl,zm,zn,zo,zp,reduceCtorEq,zE,↓reduceIte]
  exact mi (j117_42_t h0_0 _)
def l117_6 (t10_0:Bool) (t10_1:List Bs) (t11 t12 h0_0:Int):Option R117:=iter (fun x:(Bool×List Bs×Int×Int×Int)=>s117_6 x.1 x.2.1 x.2.2.1 x.2.2.2.1 x.2.2.2.2) (t10_0,t10_1,t11,t12,h0_0)
theorem l117_6_t (t10_0:Bool) (t10_1:List Bs) (t11 t12 h0_0:Int):bodyD (E0 mm) [.tmp 4] 1 false (seqD (E0 mm) 117 1 (callW (E0 mm)) itW c117_42 (blockD 0 (itW (loopF (E0 mm) 117 1 (callW (E0 mm)) itW c117_7 [(1,.keep),(10,.keep),(11,.keep),(12,.keep)]) (none,[.v (.c (.fn 118 [(0,0)])),.v (.c (.d (.lst t10_0 (enL enS t10_1)))),.v (.c (.d (.sc (.int .i64 t11)))),.v (.c (.d (.sc (.int .i64 t12))))],[.cells [.d (.sc (.int .i64 h0_0))]])))) = (l117_6 t10_0 t10_1 t11 t12 h0_0).map e117:=
 it_sim (K:=(K117_6 (mm:=mm))) rfl (enc:=en117_6) (fun x=>s117_6_t x.1 x.2.1 x.2.2.1 x.2.2.2.1 x.2.2.2.2) (t10_0,t10_1,t11,t12,h0_0)
def m117 (values_0:Bool) (values_1:List Bs) (h0_0:Int):Option R117:=
 l117_6 values_0 values_1 (values_1.length:Int) (0:Int) h0_0
theorem f117_t (values_0:Bool) (values_1:List Bs) (h0_0:Int):
  callW (E0 mm) 117 [.c (.d (.lst values_0 (enL enS values_1))),.c (.fn 118 [(0,0)])] [.cells [.d (.sc (.int .i64 h0_0))]] = (m117 values_0 values_1 h0_0).map e117:=by
 rw [callW_run (body:=c117_0) (res:=[.tmp 4]) Tryz.func117 rfl rfl (by kernel_rfl)]
 simp -implicitDefEqProofs only [m117,slots2,c117_0_e,c117_1_r,(show opsOf c117_1 = _ :: _ from rfl),c117_2_e,c117_3_e,c117_4_r,(show opsOf c117_4 = _ :: _ from rfl),Tryz.underlying101,c117_5_e,c117_6_l,setA,setB,za,zb,zc,zd,ze,zf,zg,zh,zi,zj,zk,zl,zm,zn,zo,zp,reduceCtorEq,zE,↓reduceIte]
 exact l117_6_t values_0 values_1 (values_1.length:Int) (0:Int) h0_0
noncomputable def c85_0:Code:=bodyOf Tryz.f85
def c85_1:=cA c85_0
def c85_2:=cB c85_0
def c85_3:=cA c85_2
def c85_4:=cB c85_2
def c85_5:=cA c85_4
def c85_6:=cB c85_4
def c85_7:=cA c85_6
def c85_8:=cB c85_6
theorem c85_0_e:c85_0 = .seq c85_1 c85_2:=rfl
theorem c85_1_r:RG (E0 mm) 85 c85_1:=rgN rfl
theorem c85_2_e:c85_2 = .seq c85_3 c85_4:=rfl
theorem c85_3_r:RG (E0 mm) 85 c85_3:=rgN rfl
theorem c85_4_e:c85_4 = .seq c85_5 c85_6:=rfl
theorem c85_5_r:RG (E0 mm) 85 c85_5:=rgN rfl
theorem c85_6_e:c85_6 = .seq c85_7 c85_8:=rfl
theorem c85_7_r:RG (E0 mm) 85 c85_7:=rgN rfl
theorem c85_8_e:c85_8 = .ret:=rfl
abbrev R85:=(Bool)
def e85:R85→AV×Heap:=fun x=>(.v (.c (.d (.sc (.bool x)))),[])
def m85 (minor:Int) (codings_0:Bool) (codings_1:List Bs):Option R85:=
 (m117 codings_0 codings_1 (0:Int)).bind fun yr2=>
  if (yr2.1 == 0) = true then
   if (yr2.2 == 1) = true then
    some (minor == 1)
   else
    some false
  else
   some false
theorem f85_t (minor:Int) (codings_0:Bool) (codings_1:List Bs):
  callW (E0 mm) 85 [.c (.d (.sc (.int .i64 minor))),.c (.d (.lst codings_0 (enL enS codings_1)))] [] = (m85 minor codings_0 codings_1).map e85:=by
 rw [callW_run (body:=c85_0) (res:=[.tmp 4]) Tryz.func85 rfl rfl (by kernel_rfl)]
 simp -implicitDefEqProofs only [m85,slots2,c85_0_e,c85_1_r,(show opsOf c85_1 = _ :: _ from rfl),c85_2_e,c85_3_r,(show opsOf c85_3 = _ :: _ from rfl),zc3,ao32,sz3,c85_4_e,c85_5_r,(show opsOf c85_5 = _ :: _ from rfl),ent117,prm117,f117_t,setA,setB,za,zb,zc,zd,ze,zf,zg,zh,zi,zj,zk,zl,zm,zn,zo,zp,reduceCtorEq,zE,↓reduceIte]
 refine brM (fun yc1=>?_) (fun yr2 yc1=>?_)
 ·rw [yc1]; rfl
 ·simp -implicitDefEqProofs only [e117,c85_6_e,c85_7_r,(show opsOf c85_7 = _ :: _ from rfl),yc1,setA,setB,za,zb,zc,zd,ze,zf,zg,zh,zi,zj,zk,zl,zm,zn,zo,zp,reduceCtorEq,zE,↓reduceIte]
  refine brB (fun yc3=>?_) (fun yc3=>?_)
  ·simp -implicitDefEqProofs only [sz3,ag3,yc1,yc3,setA,setB,za,zb,zc,zd,ze,zf,zg,zh,zi,zj,zk,zl,zm,zn,zo,zp,reduceCtorEq,zE,↓reduceIte]
   refine brB (fun yc4=>?_) (fun yc4=>?_)
   ·simp -implicitDefEqProofs only [c85_8_e,yc1,yc3,yc4,setA,setB,za,zb,zc,zd,ze,zf,zg,zh,zi,zj,zk,zl,zm,zn,zo,zp,reduceCtorEq,zE,↓reduceIte]
    all_goals rfl
   ·simp -implicitDefEqProofs only [c85_8_e,yc1,yc3,yc4,setA,setB,za,zb,zc,zd,ze,zf,zg,zh,zi,zj,zk,zl,zm,zn,zo,zp,reduceCtorEq,zE,↓reduceIte]
    all_goals rfl
  ·simp -implicitDefEqProofs only [c85_8_e,yc1,yc3,setA,setB,za,zb,zc,zd,ze,zf,zg,zh,zi,zj,zk,zl,zm,zn,zo,zp,reduceCtorEq,zE,↓reduceIte]
   all_goals rfl
noncomputable def c153_0:Code:=bodyOf Tryz.f153
def c153_1:=cA c153_0
def c153_2:=cB c153_0
def c153_3:=cA c153_2
def c153_4:=cA c153_3
def c153_5:=cB c153_3
def c153_6:=cA c153_5
def c153_7:=cA c153_6
def c153_8:=cB c153_6
def c153_9:=cB c153_5
def c153_10:=cB c153_2
def c153_11:=cA c153_10
def c153_12:=cB c153_10
theorem c153_0_e:c153_0 = .seq c153_1 c153_2:=rfl
theorem c153_1_r:RG (E0 mm) 153 c153_1:=rgN rfl
theorem c153_2_e:c153_2 = .seq c153_3 c153_10:=rfl
theorem c153_3_e:c153_3 = .seq c153_4 c153_5:=rfl
theorem c153_4_r:RG (E0 mm) 153 c153_4:=rgN rfl
theorem c153_6_e:c153_6 = .seq c153_7 c153_8:=rfl
theorem c153_7_r:RG (E0 mm) 153 c153_7:=rgN rfl
theorem c153_8_e:c153_8 = .ret:=rfl
theorem c153_9_e:c153_9 = .skip:=rfl
theorem c153_10_e:c153_10 = .seq c153_11 c153_12:=rfl
theorem c153_11_r:RG (E0 mm) 153 c153_11:=rgN rfl
theorem c153_12_e:c153_12 = .ret:=rfl
abbrev R153:=(Int)
def e153:R153→AV×Heap:=fun x=>(.v (.c (.d (.sc (.int .i64 x)))),[])
def j153_5 (c0:Int) (t8:Bool):Option R153:=
 if t8 = true then
  some (w64 (w32 (c0 - 48)))
 else
  some (-1:Int)
theorem j153_5_t (c0:Int) (t8:Bool)  (sl:Nat→AV) (zq0:sl 0 = .v (.c (.d (.sc (.int .i32 c0))))) (zq8:sl 8 = .v (.c (.d (.sc (.bool t8))))):
  bodyD (E0 mm) [.tmp 2] 0 false (seqD (E0 mm) 153 0 (callW (E0 mm)) itW c153_10 (den (E0 mm) 153 0 (callW (E0 mm)) itW c153_5 none ⟨sl,[]⟩)) = (j153_5 c0 t8).map e153:=by
 simp -implicitDefEqProofs only [j153_5,(show c153_5 = Code.cond _ c153_6 c153_9 from rfl),zq0,zq8,setA,setB,za,zb,zc,zd,ze,zf,zg,zh,zi,zj,zk,zl,zm,zn,zo,zp,reduceCtorEq,zE,↓reduceIte]
 refine brB (fun yc2=>?_) (fun yc2=>?_)
 ·simp -implicitDefEqProofs only [c153_6_e,c153_7_r,(show opsOf c153_7 = _ :: _ from rfl),Tryz.underlying21,Tryz.underlying3,c153_8_e,zq0,zq8,yc2,setA,setB,za,zb,zc,zd,ze,zf,zg,zh,zi,zj,zk,zl,zm,zn,zo,zp,reduceCtorEq,zE,↓reduceIte]
  all_goals rfl
 ·simp -implicitDefEqProofs only [c153_9_e,c153_10_e,c153_11_r,(show opsOf c153_11 = _ :: _ from rfl),c153_12_e,zq0,zq8,yc2,setA,setB,za,zb,zc,zd,ze,zf,zg,zh,zi,zj,zk,zl,zm,zn,zo,zp,reduceCtorEq,zE,↓reduceIte]
  all_goals rfl
def m153 (c:Int):Option R153:=
 if (decide (48≤c)) = true then
  j153_5 c (decide (c≤57))
 else
  j153_5 c false
theorem f153_t (c:Int):
  callW (E0 mm) 153 [.c (.d (.sc (.int .i32 c)))] [] = (m153 c).map e153:=by
 rw [callW_run (body:=c153_0) (res:=[.tmp 2]) Tryz.func153 rfl rfl (by kernel_rfl)]
 simp -implicitDefEqProofs only [m153,slots1,c153_0_e,c153_1_r,(show opsOf c153_1 = _ :: _ from rfl),c153_2_e,c153_3_e,c153_4_r,(show opsOf c153_4 = _ :: _ from rfl),setA,setB,za,zb,zc,zd,ze,zf,zg,zh,zi,zj,zk,zl,zm,zn,zo,zp,reduceCtorEq,zE,↓reduceIte]
 refine brB (fun yc1=>?_) (fun yc1=>?_)
 ·simp -implicitDefEqProofs only [yc1,setA,setB,za,zb,zc,zd,ze,zf,zg,zh,zi,zj,zk,zl,zm,zn,zo,zp,reduceCtorEq,zE,↓reduceIte]
  exact j153_5_t c (decide (c≤57)) _ (by rfl) (by rfl)
 ·simp -implicitDefEqProofs only [yc1,setA,setB,za,zb,zc,zd,ze,zf,zg,zh,zi,zj,zk,zl,zm,zn,zo,zp,reduceCtorEq,zE,↓reduceIte]
  exact j153_5_t c false _ (by rfl) (by rfl)
noncomputable def c152_0:Code:=bodyOf Tryz.f152
def c152_1:=cA c152_0
def c152_2:=cB c152_0
def c152_3:=cA c152_2
def c152_4:=cA c152_3
def c152_5:=cB c152_3
def c152_6:=cA c152_5
def c152_7:=cA c152_6
def c152_8:=cB c152_6
def c152_9:=cB c152_5
def c152_10:=cB c152_2
def c152_11:=cA c152_10
def c152_12:=cB c152_10
def c152_13:=cA c152_12
def c152_14:=cA c152_13
def c152_15:=cB c152_13
def c152_16:=cA c152_15
def c152_17:=cA c152_16
def c152_18:=cA c152_17
def c152_19:=cB c152_17
def c152_20:=cA c152_19
def c152_21:=cA c152_20
def c152_22:=cB c152_20
def c152_23:=cB c152_19
def c152_24:=cA c152_23
def c152_25:=cA c152_24
def c152_26:=cB c152_24
def c152_27:=cA c152_26
def c152_28:=cB c152_26
def c152_29:=cA c152_28
def c152_30:=cA c152_29
def c152_31:=cB c152_29
def c152_32:=cA c152_31
def c152_33:=cA c152_32
def c152_34:=cB c152_32
def c152_35:=cB c152_31
def c152_36:=cB c152_28
def c152_37:=cA c152_36
def c152_38:=cA c152_37
def c152_39:=cB c152_37
def c152_40:=cA c152_39
def c152_41:=cA c152_40
def c152_42:=cB c152_40
def c152_43:=cB c152_39
def c152_44:=cB c152_36
def c152_45:=cB c152_12
def c152_46:=cA c152_45
def c152_47:=cA c152_46
def c152_48:=cB c152_46
def c152_49:=cA c152_48
def c152_50:=cA c152_49
def c152_51:=cB c152_49
def c152_52:=cB c152_48
def c152_53:=cB c152_45
def c152_54:=cA c152_53
def c152_55:=cB c152_53
theorem c152_0_e:c152_0 = .seq c152_1 c152_2:=rfl
theorem c152_1_r:RG (E0 mm) 152 c152_1:=rgN rfl
theorem c152_2_e:c152_2 = .seq c152_3 c152_10:=rfl
theorem c152_3_e:c152_3 = .seq c152_4 c152_5:=rfl
theorem c152_4_r:RG (E0 mm) 152 c152_4:=rgN rfl
theorem c152_6_e:c152_6 = .seq c152_7 c152_8:=rfl
theorem c152_7_r:RG (E0 mm) 152 c152_7:=rgN rfl
theorem c152_8_e:c152_8 = .ret:=rfl
theorem c152_9_e:c152_9 = .skip:=rfl
theorem c152_10_e:c152_10 = .seq c152_11 c152_12:=rfl
theorem c152_11_r:RG (E0 mm) 152 c152_11:=rgN rfl
theorem c152_12_e:c152_12 = .seq c152_13 c152_45:=rfl
theorem c152_13_e:c152_13 = .seq c152_14 c152_15:=rfl
theorem c152_14_r:RG (E0 mm) 152 c152_14:=rgN rfl
theorem c152_15_e:c152_15 = .block 0 c152_16:=rfl
theorem c152_16_l (m:Nat) (st:St):den (E0 mm) 152 m (callW (E0 mm)) itW c152_16 none st = loopD itW (loopF (E0 mm) 152 m (callW (E0 mm)) itW c152_17 [(1,.keep),(2,.keep),(8,.keep),(9,.keep),(16,.keep)]) (canon m [(1,.keep),(2,.keep),(8,.keep),(9,.keep),(16,.keep)] st):=rfl
theorem c152_17_e:c152_17 = .seq c152_18 c152_19:=rfl
theorem c152_18_r:RG (E0 mm) 152 c152_18:=rgN rfl
theorem c152_19_e:c152_19 = .seq c152_20 c152_23:=rfl
theorem c152_21_e:c152_21 = .skip:=rfl
theorem c152_22_e:c152_22 = .exit 0:=rfl
theorem c152_23_e:c152_23 = .block 1 c152_24:=rfl
theorem c152_24_e:c152_24 = .seq c152_25 c152_26:=rfl
theorem c152_25_r:RG (E0 mm) 152 c152_25:=rgN rfl
theorem c152_26_e:c152_26 = .seq c152_27 c152_28:=rfl
theorem c152_27_r:RG (E0 mm) 152 c152_27:=rgN rfl
theorem c152_28_e:c152_28 = .seq c152_29 c152_36:=rfl
theorem c152_29_e:c152_29 = .seq c152_30 c152_31:=rfl
theorem c152_30_r:RG (E0 mm) 152 c152_30:=rgN rfl
theorem c152_32_e:c152_32 = .seq c152_33 c152_34:=rfl
theorem c152_33_r:RG (E0 mm) 152 c152_33:=rgN rfl
theorem c152_34_e:c152_34 = .ret:=rfl
theorem c152_35_e:c152_35 = .skip:=rfl
theorem c152_36_e:c152_36 = .seq c152_37 c152_44:=rfl
theorem c152_37_e:c152_37 = .seq c152_38 c152_39:=rfl
theorem c152_38_r:RG (E0 mm) 152 c152_38:=rgN rfl
theorem c152_40_e:c152_40 = .seq c152_41 c152_42:=rfl
theorem c152_41_r:RG (E0 mm) 152 c152_41:=rgN rfl
theorem c152_42_e:c152_42 = .exit 1:=rfl
theorem c152_43_e:c152_43 = .skip:=rfl
theorem c152_44_r:RG (E0 mm) 152 c152_44:=rgN rfl
theorem c152_45_e:c152_45 = .seq c152_46 c152_53:=rfl
theorem c152_46_e:c152_46 = .seq c152_47 c152_48:=rfl
theorem c152_47_r:RG (E0 mm) 152 c152_47:=rgN rfl
theorem c152_49_e:c152_49 = .seq c152_50 c152_51:=rfl
theorem c152_50_r:RG (E0 mm) 152 c152_50:=rgN rfl
theorem c152_51_e:c152_51 = .ret:=rfl
theorem c152_52_e:c152_52 = .skip:=rfl
theorem c152_53_e:c152_53 = .seq c152_54 c152_55:=rfl
theorem c152_54_r:RG (E0 mm) 152 c152_54:=rgN rfl
theorem c152_55_e:c152_55 = .ret:=rfl
abbrev R152:=(Int×Int)
def e152:R152→AV×Heap:=fun x=>(.tup [.c (.d (.sc (.int .u64 x.1))),.c (.d (.sc (.int .i64 x.2)))],[])
def K152_16:Option (Ex×St)→Option (AV×Heap):=fun r=>bodyD (E0 mm) [.tmp 6,.tmp 7] 0 false (seqD (E0 mm) 152 0 (callW (E0 mm)) itW c152_45 (blockD 0 (r)))
def en152_16:(Int×Int×Bool×Bs×Nat)→X:=fun x=>(none,[.v (.c (.d (.sc (.int .u64 x.1)))),.v (.c (.d (.sc (.func (.func 153) #[] #[])))),.v (.c (.d (.sc (.int .u64 x.2.1)))),.v (.c (.d (.sc (.bool x.2.2.1)))),.v (.c (.it 0))],[.siter (S x.2.2.2.1) x.2.2.2.2])
def j152_39 (base1 n8:Int) (long9:Bool) (d12:Int) (t34:Bool) (s0:Bs) (p0:Nat):Option ((Int×Int×Bool×Bs×Nat) ⊕ R152):=
 if t34 = true then
  some (.inl (base1,n8,true,s0,p0))
 else
  some (.inl (base1,(wu64 ((wu64 (n8 * base1)) + (wu64 d12))),long9,s0,p0))
theorem j152_39_t (base1 n8:Int) (long9:Bool) (d12:Int) (t34:Bool) (s0:Bs) (p0:Nat)  (sl:Nat→AV) (zq1:sl 1 = .v (.c (.d (.sc (.int .u64 base1))))) (zq2:sl 2 = .v (.c (.d (.sc (.func (.func 153) #[] #[]))))) (zq8:sl 8 = .v (.c (.d (.sc (.int .u64 n8))))) (zq9:sl 9 = .v (.c (.d (.sc (.bool long9))))) (zq12:sl 12 = .v (.c (.d (.sc (.int .i64 d12))))) (zq16:sl 16 = .v (.c (.it 0))) (zq34:sl 34 = .v (.c (.d (.sc (.bool t34))))):
  stepE (K152_16 (mm:=mm)) (loopK 0 [(1,.keep),(2,.keep),(8,.keep),(9,.keep),(16,.keep)] (blockD 1 (seqD (E0 mm) 152 0 (callW (E0 mm)) itW c152_44 (den (E0 mm) 152 0 (callW (E0 mm)) itW c152_39 none ⟨sl,[.siter (S s0) p0]⟩)))) = (j152_39 base1 n8 long9 d12 t34 s0 p0).map (sm en152_16 e152):=by
 simp -implicitDefEqProofs only [j152_39,(show c152_39 = Code.cond _ c152_40 c152_43 from rfl),zq1,zq2,zq8,zq9,zq12,zq16,zq34,setA,setB,za,zb,zc,zd,ze,zf,zg,zh,zi,zj,zk,zl,zm,zn,zo,zp,reduceCtorEq,zE,↓reduceIte]
 refine brB (fun yc8=>?_) (fun yc8=>?_)
 ·simp -implicitDefEqProofs only [c152_40_e,c152_41_r,(show opsOf c152_41 = _ :: _ from rfl),c152_42_e,zq1,zq2,zq8,zq9,zq12,zq16,zq34,yc8,setA,setB,za,zb,zc,zd,ze,zf,zg,zh,zi,zj,zk,zl,zm,zn,zo,zp,reduceCtorEq,zE,↓reduceIte]
  all_goals rfl
 ·simp -implicitDefEqProofs only [c152_43_e,c152_44_r,(show opsOf c152_44 = _ :: _ from rfl),Tryz.underlying3,Tryz.underlying64,zq1,zq2,zq8,zq9,zq12,zq16,zq34,yc8,setA,setB,za,zb,zc,zd,ze,zf,zg,zh,zi,zj,zk,zl,zm,zn,zo,zp,reduceCtorEq,zE,↓reduceIte]
  all_goals rfl
def j152_45 (n8:Int) (long9:Bool):Option R152:=
 if long9 = true then
  some ((0:Int),(3:Int))
 else
  some (n8,(0:Int))
theorem j152_45_t (n8:Int) (long9:Bool) (g0:Ob) (sl:Nat→AV) (zq8:sl 8 = .v (.c (.d (.sc (.int .u64 n8))))) (zq9:sl 9 = .v (.c (.d (.sc (.bool long9))))):
  bodyD (E0 mm) [.tmp 6,.tmp 7] 0 false (den (E0 mm) 152 0 (callW (E0 mm)) itW c152_45 none ⟨sl,[g0]⟩) = (j152_45 n8 long9).map e152:=by
 simp -implicitDefEqProofs only [j152_45,c152_45_e,c152_46_e,c152_47_r,(show opsOf c152_47 = _ :: _ from rfl),(show c152_48 = Code.cond _ c152_49 c152_52 from rfl),zq8,zq9,setA,setB,za,zb,zc,zd,ze,zf,zg,zh,zi,zj,zk,zl,zm,zn,zo,zp,reduceCtorEq,zE,↓reduceIte]
 refine brB (fun yc10=>?_) (fun yc10=>?_)
 ·simp -implicitDefEqProofs only [c152_49_e,c152_50_r,(show opsOf c152_50 = _ :: _ from rfl),c152_51_e,zq8,zq9,yc10,setA,setB,za,zb,zc,zd,ze,zf,zg,zh,zi,zj,zk,zl,zm,zn,zo,zp,reduceCtorEq,zE,↓reduceIte]
  all_goals rfl
 ·simp -implicitDefEqProofs only [c152_52_e,c152_53_e,c152_54_r,(show opsOf c152_54 = _ :: _ from rfl),c152_55_e,zq8,zq9,yc10,setA,setB,za,zb,zc,zd,ze,zf,zg,zh,zi,zj,zk,zl,zm,zn,zo,zp,reduceCtorEq,zE,↓reduceIte]
  all_goals rfl
def s152_16 (base1 n8:Int) (long9:Bool) (s0:Bs) (p0:Nat):Option ((Int×Int×Bool×Bs×Nat) ⊕ R152):=
 if (decide (p0 < s0.length)) = true then
  (m153 (uc s0 p0:Int)).bind fun yr5=>
   if (decide (yr5 < 0)) = true then
    some (.inr ((0:Int),(5:Int)))
   else
    if long9 = true then
     j152_39 base1 n8 true yr5 true s0 (p0 + uw s0 p0)
    else
     if (base1 == 0) = false then
      j152_39 base1 n8 false yr5 (decide ((wu64 ((wu64 (9007199254740991 - (wu64 yr5))).tdiv base1)) < n8)) s0 (p0 + uw s0 p0)
     else none
 else
  (j152_45 n8 long9).map .inr
theorem s152_16_t (base1 n8:Int) (long9:Bool) (s0:Bs) (p0:Nat):
  stepE (K152_16 (mm:=mm)) (loopF (E0 mm) 152 0 (callW (E0 mm)) itW c152_17 [(1,.keep),(2,.keep),(8,.keep),(9,.keep),(16,.keep)] (none,[.v (.c (.d (.sc (.int .u64 base1)))),.v (.c (.d (.sc (.func (.func 153) #[] #[])))),.v (.c (.d (.sc (.int .u64 n8)))),.v (.c (.d (.sc (.bool long9)))),.v (.c (.it 0))],[.siter (S s0) p0])) = (s152_16 base1 n8 long9 s0 p0).map (sm en152_16 e152):=by
 simp -implicitDefEqProofs only [s152_16,loopF_eq,c152_17_e,c152_18_r,(show opsOf c152_18 = _ :: _ from rfl),dec_eq,setA,setB,za,zb,zc,zd,ze,zf,zg,zh,zi,zj,zk,zl,zm,zn,zo,zp,reduceCtorEq,zE,↓reduceIte]
 refine brB (fun yc2=>?_) (fun yc2=>?_)
 ·have yd3:=of_decide_eq_true yc2
  simp -implicitDefEqProofs only [c152_19_e,(show c152_20 = Code.cond _ c152_21 c152_22 from rfl),c152_21_e,c152_23_e,c152_24_e,c152_25_r,(show opsOf c152_25 = _ :: _ from rfl),c152_26_e,c152_27_r,(show opsOf c152_27 = _ :: _ from rfl),ent153,prm153,f153_t,yd3,setA,setB,za,zb,zc,zd,ze,zf,zg,zh,zi,zj,zk,zl,zm,zn,zo,zp,reduceCtorEq,zE,↓reduceIte]
  refine brM (fun yc4=>?_) (fun yr5 yc4=>?_)
  ·rw [yc4]; rfl
  ·simp -implicitDefEqProofs only [e153,c152_28_e,c152_29_e,c152_30_r,(show opsOf c152_30 = _ :: _ from rfl),(show c152_31 = Code.cond _ c152_32 c152_35 from rfl),yd3,yc4,setA,setB,za,zb,zc,zd,ze,zf,zg,zh,zi,zj,zk,zl,zm,zn,zo,zp,reduceCtorEq,zE,↓reduceIte]
   refine brB (fun yc6=>?_) (fun yc6=>?_)
   ·simp -implicitDefEqProofs only [c152_32_e,c152_33_r,(show opsOf c152_33 = _ :: _ from rfl),c152_34_e,K152_16,yd3,yc4,yc6,setA,setB,za,zb,zc,zd,ze,zf,zg,zh,zi,zj,zk,zl,zm,zn,zo,zp,reduceCtorEq,zE,↓reduceIte]
    all_goals rfl
   ·simp -implicitDefEqProofs only [c152_35_e,c152_36_e,c152_37_e,c152_38_r,(show opsOf c152_38 = _ :: _ from rfl),yd3,yc4,yc6,setA,setB,za,zb,zc,zd,ze,zf,zg,zh,zi,zj,zk,zl,zm,zn,zo,zp,reduceCtorEq,zE,↓reduceIte]
    refine brB (fun yc7=>?_) (fun yc7=>?_)
    ·simp -implicitDefEqProofs only [yd3,yc4,yc6,yc7,setA,setB,za,zb,zc,zd,ze,zf,zg,zh,zi,zj,zk,zl,zm,zn,zo,zp,reduceCtorEq,zE,↓reduceIte]
     exact j152_39_t base1 n8 true yr5 true s0 (p0 + uw s0 p0) _ (by rfl) (by rfl) (by rfl) (by rfl) (by rfl) (by rfl) (by rfl)
    ·simp -implicitDefEqProofs only [Tryz.underlying3,Tryz.underlying64,ev_quo0,yd3,yc4,yc6,yc7,setA,setB,za,zb,zc,zd,ze,zf,zg,zh,zi,zj,zk,zl,zm,zn,zo,zp,reduceCtorEq,zE,↓reduceIte]
     refine brP (fun yc9=>?_) (fun yc9=>?_)
     ·simp -implicitDefEqProofs only [yd3,yc4,yc6,yc7,yc9,setA,setB,za,zb,zc,zd,ze,zf,zg,zh,zi,zj,zk,zl,zm,zn,zo,zp,reduceCtorEq,zE,↓reduceIte]
      exact j152_39_t base1 n8 false yr5 (decide ((wu64 ((wu64 (9007199254740991 - (wu64 yr5))).tdiv base1)) < n8)) s0 (p0 + uw s0 p0) _ (by rfl) (by rfl) (by rfl) (by rfl) (by rfl) (by rfl) (by rfl)
     ·rw [if_neg yc9]; rfl
 ·have yd3:=of_decide_eq_false yc2
  simp -implicitDefEqProofs only [c152_19_e,(show c152_20 = Code.cond _ c152_21 c152_22 from rfl),c152_22_e,K152_16,yd3,setA,setB,za,zb,zc,zd,ze,zf,zg,zh,zi,zj,zk,zl,zm,zn,zo,zp,reduceCtorEq,zE,↓reduceIte]
  exact mi (j152_45_t n8 long9 _ _ (by rfl) (by rfl))
def l152_16 (base1 n8:Int) (long9:Bool) (s0:Bs) (p0:Nat):Option R152:=iter (fun x:(Int×Int×Bool×Bs×Nat)=>s152_16 x.1 x.2.1 x.2.2.1 x.2.2.2.1 x.2.2.2.2) (base1,n8,long9,s0,p0)
theorem l152_16_t (base1 n8:Int) (long9:Bool) (s0:Bs) (p0:Nat):bodyD (E0 mm) [.tmp 6,.tmp 7] 0 false (seqD (E0 mm) 152 0 (callW (E0 mm)) itW c152_45 (blockD 0 (itW (loopF (E0 mm) 152 0 (callW (E0 mm)) itW c152_17 [(1,.keep),(2,.keep),(8,.keep),(9,.keep),(16,.keep)]) (none,[.v (.c (.d (.sc (.int .u64 base1)))),.v (.c (.d (.sc (.func (.func 153) #[] #[])))),.v (.c (.d (.sc (.int .u64 n8)))),.v (.c (.d (.sc (.bool long9)))),.v (.c (.it 0))],[.siter (S s0) p0])))) = (l152_16 base1 n8 long9 s0 p0).map e152:=
 it_sim (K:=(K152_16 (mm:=mm))) rfl (enc:=en152_16) (fun x=>s152_16_t x.1 x.2.1 x.2.2.1 x.2.2.2.1 x.2.2.2.2) (base1,n8,long9,s0,p0)
def m152 (s:Bs) (base:Int):Option R152:=
 if (s == ([]:Bs)) = true then
  some ((0:Int),(5:Int))
 else
  l152_16 base (0:Int) false s 0
theorem f152_t (s:Bs) (base:Int):
  callW (E0 mm) 152 [.c (.d (.sc (.string (S s)))),.c (.d (.sc (.int .u64 base))),.c (.d (.sc (.func (.func 153) #[] #[])))] [] = (m152 s base).map e152:=by
 rw [callW_run (body:=c152_0) (res:=[.tmp 6,.tmp 7]) Tryz.func152 rfl rfl (by kernel_rfl)]
 simp -implicitDefEqProofs only [m152,slots3,c152_0_e,c152_1_r,(show opsOf c152_1 = _ :: _ from rfl),c152_2_e,c152_3_e,c152_4_r,(show opsOf c152_4 = _ :: _ from rfl),(show c152_5 = Code.cond _ c152_6 c152_9 from rfl),setA,setB,za,zb,zc,zd,ze,zf,zg,zh,zi,zj,zk,zl,zm,zn,zo,zp,reduceCtorEq,zE,↓reduceIte]
 refine brB (fun yc1=>?_) (fun yc1=>?_)
 ·simp -implicitDefEqProofs only [c152_6_e,c152_7_r,(show opsOf c152_7 = _ :: _ from rfl),c152_8_e,yc1,setA,setB,za,zb,zc,zd,ze,zf,zg,zh,zi,zj,zk,zl,zm,zn,zo,zp,reduceCtorEq,zE,↓reduceIte]
  all_goals rfl
 ·simp -implicitDefEqProofs only [c152_9_e,c152_10_e,c152_11_r,(show opsOf c152_11 = _ :: _ from rfl),c152_12_e,c152_13_e,c152_14_r,(show opsOf c152_14 = _ :: _ from rfl),Tryz.underlying9,c152_15_e,c152_16_l,yc1,setA,setB,za,zb,zc,zd,ze,zf,zg,zh,zi,zj,zk,zl,zm,zn,zo,zp,reduceCtorEq,zE,↓reduceIte]
  exact l152_16_t base (0:Int) false s 0
noncomputable def c120_0:Code:=bodyOf Tryz.f120
def c120_1:=cA c120_0
def c120_2:=cB c120_0
def c120_3:=cA c120_2
def c120_4:=cB c120_2
theorem c120_0_e:c120_0 = .seq c120_1 c120_2:=rfl
theorem c120_1_r:RG (E0 mm) 120 c120_1:=rgN rfl
theorem c120_2_e:c120_2 = .seq c120_3 c120_4:=rfl
theorem c120_3_r:RG (E0 mm) 120 c120_3:=rgN rfl
theorem c120_4_e:c120_4 = .ret:=rfl
abbrev R120:=(Int×Int)
def e120:R120→AV×Heap:=fun x=>(.tup [.c (.d (.sc (.int .u64 x.1))),.c (.d (.sc (.int .i64 x.2)))],[])
def m120 (s:Bs):Option R120:=
 (m152 s (10:Int)).bind fun yr2=>
  some (yr2.1,yr2.2)
theorem f120_t (s:Bs):
  callW (E0 mm) 120 [.c (.d (.sc (.string (S s))))] [] = (m120 s).map e120:=by
 rw [callW_run (body:=c120_0) (res:=[.tmp 2,.tmp 3]) Tryz.func120 rfl rfl (by kernel_rfl)]
 simp -implicitDefEqProofs only [m120,slots1,c120_0_e,c120_1_r,(show opsOf c120_1 = _ :: _ from rfl),c120_2_e,c120_3_r,(show opsOf c120_3 = _ :: _ from rfl),ent152,prm152,f152_t,setA,setB,za,zb,zc,zd,ze,zf,zg,zh,zi,zj,zk,zl,zm,zn,zo,zp,reduceCtorEq,zE,↓reduceIte]
 refine brM (fun yc1=>?_) (fun yr2 yc1=>?_)
 ·rw [yc1]; rfl
 ·simp -implicitDefEqProofs only [e152,c120_4_e,yc1,setA,setB,za,zb,zc,zd,ze,zf,zg,zh,zi,zj,zk,zl,zm,zn,zo,zp,reduceCtorEq,zE,↓reduceIte]
  all_goals rfl
noncomputable def c119_0:Code:=bodyOf Tryz.f119
def c119_1:=cA c119_0
def c119_2:=cB c119_0
def c119_3:=cA c119_2
def c119_4:=cB c119_2
def c119_5:=cA c119_4
def c119_6:=cA c119_5
def c119_7:=cA c119_6
def c119_8:=cB c119_6
def c119_9:=cA c119_8
def c119_10:=cA c119_9
def c119_11:=cB c119_9
def c119_12:=cB c119_8
def c119_13:=cA c119_12
def c119_14:=cB c119_12
def c119_15:=cA c119_14
def c119_16:=cB c119_14
def c119_17:=cA c119_16
def c119_18:=cB c119_16
def c119_19:=cA c119_18
def c119_20:=cA c119_19
def c119_21:=cB c119_19
def c119_22:=cB c119_18
def c119_23:=cB c119_4
def c119_24:=cA c119_23
def c119_25:=cB c119_23
theorem c119_0_e:c119_0 = .seq c119_1 c119_2:=rfl
theorem c119_1_r:RG (E0 mm) 119 c119_1:=rgN rfl
theorem c119_2_e:c119_2 = .seq c119_3 c119_4:=rfl
theorem c119_3_r:RG (E0 mm) 119 c119_3:=rgN rfl
theorem c119_4_e:c119_4 = .seq c119_5 c119_23:=rfl
theorem c119_5_e:c119_5 = .block 0 c119_6:=rfl
theorem c119_6_e:c119_6 = .seq c119_7 c119_8:=rfl
theorem c119_7_r:RG (E0 mm) 119 c119_7:=rgN rfl
theorem c119_9_e:c119_9 = .seq c119_10 c119_11:=rfl
theorem c119_10_r:RG (E0 mm) 119 c119_10:=rgN rfl
theorem c119_11_e:c119_11 = .ret:=rfl
theorem c119_12_e:c119_12 = .seq c119_13 c119_14:=rfl
theorem c119_13_r:RG (E0 mm) 119 c119_13:=rgN rfl
theorem c119_15_r:RG (E0 mm) 119 c119_15:=rgN rfl
theorem c119_16_e:c119_16 = .seq c119_17 c119_18:=rfl
theorem c119_17_r:RG (E0 mm) 119 c119_17:=rgN rfl
theorem c119_19_e:c119_19 = .seq c119_20 c119_21:=rfl
theorem c119_20_r:RG (E0 mm) 119 c119_20:=rgN rfl
theorem c119_21_e:c119_21 = .ret:=rfl
theorem c119_22_e:c119_22 = .skip:=rfl
theorem c119_23_e:c119_23 = .seq c119_24 c119_25:=rfl
theorem c119_24_r:RG (E0 mm) 119 c119_24:=rgN rfl
theorem c119_25_e:c119_25 = .ret:=rfl
abbrev R119:=(Int×Bool×Int×Bs×Bool)
def e119:R119→AV×Heap:=fun x=>(.v (.c (.d (.sc (.int .i64 x.1)))),[.cells [.d (.sc (.bool x.2.1))],.cells [.d (.sc (.int .u64 x.2.2.1))],.cells [.d (.sc (.string (S x.2.2.2.1)))],.cells [.d (.sc (.bool x.2.2.2.2))]])
def j119_23 (h0_0:Bool) (h1_0:Int) (h2_0:Bs) (h3_0:Bool):Option R119:=
 some ((0:Int),h0_0,h1_0,h2_0,h3_0)
theorem j119_23_t (h0_0:Bool) (h1_0:Int) (h2_0:Bs) (h3_0:Bool)  (sl:Nat→AV)  :
  bodyD (E0 mm) [.tmp 6] 4 false (den (E0 mm) 119 4 (callW (E0 mm)) itW c119_23 none ⟨sl,[.cells [.d (.sc (.bool h0_0))],.cells [.d (.sc (.int .u64 h1_0))],.cells [.d (.sc (.string (S h2_0)))],.cells [.d (.sc (.bool h3_0))]]⟩) = (j119_23 h0_0 h1_0 h2_0 h3_0).map e119:=by
 simp -implicitDefEqProofs only [j119_23,c119_23_e,c119_24_r,(show opsOf c119_24 = _ :: _ from rfl),c119_25_e,setA,setB,za,zb,zc,zd,ze,zf,zg,zh,zi,zj,zk,zl,zm,zn,zo,zp,reduceCtorEq,zE,↓reduceIte]
 all_goals rfl
def j119_18 (t24 h0_0:Bool) (h1_0:Int) (h2_0:Bs) (h3_0:Bool):Option R119:=
 if t24 = true then
  some ((22:Int),h0_0,h1_0,h2_0,h3_0)
 else
  j119_23 h0_0 h1_0 h2_0 h3_0
theorem j119_18_t (t24 h0_0:Bool) (h1_0:Int) (h2_0:Bs) (h3_0:Bool)  (sl:Nat→AV) (zq24:sl 24 = .v (.c (.d (.sc (.bool t24))))):
  bodyD (E0 mm) [.tmp 6] 4 false (seqD (E0 mm) 119 4 (callW (E0 mm)) itW c119_23 (blockD 0 (den (E0 mm) 119 4 (callW (E0 mm)) itW c119_18 none ⟨sl,[.cells [.d (.sc (.bool h0_0))],.cells [.d (.sc (.int .u64 h1_0))],.cells [.d (.sc (.string (S h2_0)))],.cells [.d (.sc (.bool h3_0))]]⟩))) = (j119_18 t24 h0_0 h1_0 h2_0 h3_0).map e119:=by
 simp -implicitDefEqProofs only [j119_18,(show c119_18 = Code.cond _ c119_19 c119_22 from rfl),zq24,setA,setB,za,zb,zc,zd,ze,zf,zg,zh,zi,zj,zk,zl,zm,zn,zo,zp,reduceCtorEq,zE,↓reduceIte]
 refine brB (fun yc8=>?_) (fun yc8=>?_)
 ·simp -implicitDefEqProofs only [c119_19_e,c119_20_r,(show opsOf c119_20 = _ :: _ from rfl),c119_21_e,zq24,yc8,setA,setB,za,zb,zc,zd,ze,zf,zg,zh,zi,zj,zk,zl,zm,zn,zo,zp,reduceCtorEq,zE,↓reduceIte]
  all_goals rfl
 ·simp -implicitDefEqProofs only [c119_22_e,zq24,yc8,setA,setB,za,zb,zc,zd,ze,zf,zg,zh,zi,zj,zk,zl,zm,zn,zo,zp,reduceCtorEq,zE,↓reduceIte]
  exact j119_23_t h0_0 h1_0 h2_0 h3_0 _
def m119 (s:Bs) (h0_0:Bool) (h1_0:Int) (h2_0:Bs) (h3_0:Bool):Option R119:=
 (m120 s).bind fun yr2=>
  if (yr2.2 == 5) = true then
   some ((22:Int),h0_0,h1_0,h2_0,h3_0)
  else
   if h0_0 = true then
    if (h3_0 == (!(yr2.2 == 0))) = true then
     if (yr2.1 == h1_0) = true then
      if h3_0 = true then
       j119_18 (!(s == h2_0)) true h1_0 h2_0 true
      else
       j119_18 false true h1_0 h2_0 false
     else
      j119_18 true true h1_0 h2_0 h3_0
    else
     j119_18 true true h1_0 h2_0 h3_0
   else
    j119_23 true yr2.1 s (!(yr2.2 == 0))
theorem f119_t (s:Bs) (h0_0:Bool) (h1_0:Int) (h2_0:Bs) (h3_0:Bool):
  callW (E0 mm) 119 [.c (.d (.sc (.string (S s)))),.c (.ptr 0 0),.c (.ptr 1 0),.c (.ptr 2 0),.c (.ptr 3 0)] [.cells [.d (.sc (.bool h0_0))],.cells [.d (.sc (.int .u64 h1_0))],.cells [.d (.sc (.string (S h2_0)))],.cells [.d (.sc (.bool h3_0))]] = (m119 s h0_0 h1_0 h2_0 h3_0).map e119:=by
 rw [callW_run (body:=c119_0) (res:=[.tmp 6]) Tryz.func119 rfl rfl (by kernel_rfl)]
 simp -implicitDefEqProofs only [m119,slots5,c119_0_e,c119_1_r,(show opsOf c119_1 = _ :: _ from rfl),c119_2_e,c119_3_r,(show opsOf c119_3 = _ :: _ from rfl),ent120,prm120,f120_t,setA,setB,za,zb,zc,zd,ze,zf,zg,zh,zi,zj,zk,zl,zm,zn,zo,zp,reduceCtorEq,zE,↓reduceIte]
 refine brM (fun yc1=>?_) (fun yr2 yc1=>?_)
 ·rw [yc1]; rfl
 ·simp -implicitDefEqProofs only [e120,c119_4_e,c119_5_e,c119_6_e,c119_7_r,(show opsOf c119_7 = _ :: _ from rfl),(show c119_8 = Code.cond _ c119_9 c119_12 from rfl),yc1,setA,setB,za,zb,zc,zd,ze,zf,zg,zh,zi,zj,zk,zl,zm,zn,zo,zp,reduceCtorEq,zE,↓reduceIte]
  refine brB (fun yc3=>?_) (fun yc3=>?_)
  ·simp -implicitDefEqProofs only [c119_9_e,c119_10_r,(show opsOf c119_10 = _ :: _ from rfl),c119_11_e,yc1,yc3,setA,setB,za,zb,zc,zd,ze,zf,zg,zh,zi,zj,zk,zl,zm,zn,zo,zp,reduceCtorEq,zE,↓reduceIte]
   all_goals rfl
  ·simp -implicitDefEqProofs only [c119_12_e,c119_13_r,(show opsOf c119_13 = _ :: _ from rfl),sz4,ag4,(show c119_14 = Code.cond _ c119_15 c119_16 from rfl),yc1,yc3,setA,setB,za,zb,zc,zd,ze,zf,zg,zh,zi,zj,zk,zl,zm,zn,zo,zp,reduceCtorEq,zE,↓reduceIte]
   refine brB (fun yc4=>?_) (fun yc4=>?_)
   ·simp -implicitDefEqProofs only [c119_16_e,c119_17_r,(show opsOf c119_17 = _ :: _ from rfl),sz4,ag4,Tryz.underlying4,yc1,yc3,yc4,setA,setB,za,zb,zc,zd,ze,zf,zg,zh,zi,zj,zk,zl,zm,zn,zo,zp,reduceCtorEq,zE,↓reduceIte]
    refine brB (fun yc5=>?_) (fun yc5=>?_)
    ·simp -implicitDefEqProofs only [sz64,ag64,yc1,yc3,yc4,yc5,setA,setB,za,zb,zc,zd,ze,zf,zg,zh,zi,zj,zk,zl,zm,zn,zo,zp,reduceCtorEq,zE,↓reduceIte]
     refine brB (fun yc6=>?_) (fun yc6=>?_)
     ·simp -implicitDefEqProofs only [sz4,ag4,yc1,yc3,yc4,yc5,yc6,setA,setB,za,zb,zc,zd,ze,zf,zg,zh,zi,zj,zk,zl,zm,zn,zo,zp,reduceCtorEq,zE,↓reduceIte]
      refine brB (fun yc7=>?_) (fun yc7=>?_)
      ·simp -implicitDefEqProofs only [sz9,ag9,yc1,yc3,yc4,yc5,yc6,yc7,setA,setB,za,zb,zc,zd,ze,zf,zg,zh,zi,zj,zk,zl,zm,zn,zo,zp,reduceCtorEq,zE,↓reduceIte]
       exact j119_18_t (!(s == h2_0)) true h1_0 h2_0 true _ (by rfl)
      ·simp -implicitDefEqProofs only [yc1,yc3,yc4,yc5,yc6,yc7,setA,setB,za,zb,zc,zd,ze,zf,zg,zh,zi,zj,zk,zl,zm,zn,zo,zp,reduceCtorEq,zE,↓reduceIte]
       exact j119_18_t false true h1_0 h2_0 false _ (by rfl)
     ·simp -implicitDefEqProofs only [yc1,yc3,yc4,yc5,yc6,setA,setB,za,zb,zc,zd,ze,zf,zg,zh,zi,zj,zk,zl,zm,zn,zo,zp,reduceCtorEq,zE,↓reduceIte]
      exact j119_18_t true true h1_0 h2_0 h3_0 _ (by rfl)
    ·simp -implicitDefEqProofs only [yc1,yc3,yc4,yc5,setA,setB,za,zb,zc,zd,ze,zf,zg,zh,zi,zj,zk,zl,zm,zn,zo,zp,reduceCtorEq,zE,↓reduceIte]
     exact j119_18_t true true h1_0 h2_0 h3_0 _ (by rfl)
   ·simp -implicitDefEqProofs only [c119_15_r,(show opsOf c119_15 = _ :: _ from rfl),sz64,sz9,sz4,yc1,yc3,yc4,setA,setB,za,zb,zc,zd,ze,zf,zg,zh,zi,zj,zk,zl,zm,zn,zo,zp,reduceCtorEq,zE,↓reduceIte]
    exact j119_23_t true yr2.1 s (!(yr2.2 == 0)) _
abbrev R117a:=(Int×Bool×Int×Bs×Bool)
def e117a:R117a→AV×Heap:=fun x=>(.v (.c (.d (.sc (.int .i64 x.1)))),[.cells [.d (.sc (.bool x.2.1))],.cells [.d (.sc (.int .u64 x.2.2.1))],.cells [.d (.sc (.string (S x.2.2.2.1)))],.cells [.d (.sc (.bool x.2.2.2.2))]])
def K117a_6:Option (Ex×St)→Option (AV×Heap):=fun r=>bodyD (E0 mm) [.tmp 4] 4 false (seqD (E0 mm) 117 4 (callW (E0 mm)) itW c117_42 (blockD 0 (r)))
def en117a_6:(Bool×List Bs×Int×Int×Bool×Int×Bs×Bool)→X:=fun x=>(none,[.v (.c (.fn 119 [(0,0),(1,0),(2,0),(3,0)])),.v (.c (.d (.lst x.1 (enL enS x.2.1)))),.v (.c (.d (.sc (.int .i64 x.2.2.1)))),.v (.c (.d (.sc (.int .i64 x.2.2.2.1))))],[.cells [.d (.sc (.bool x.2.2.2.2.1))],.cells [.d (.sc (.int .u64 x.2.2.2.2.2.1))],.cells [.d (.sc (.string (S x.2.2.2.2.2.2.1)))],.cells [.d (.sc (.bool x.2.2.2.2.2.2.2))]])
def K117a_20:Option (Ex×St)→Option (X ⊕ (AV×Heap)):=fun r=>stepE (K117a_6 (mm:=mm)) (loopK 4 [(1,.keep),(10,.keep),(11,.keep),(12,.keep)] (seqD (E0 mm) 117 4 (callW (E0 mm)) itW c117_41 (blockD 1 (blockD 2 (r)))))
def en117a_20:(Bool×List Bs×Int×Int×Bool×List Bs×Int×Int×Bool×Int×Bs×Bool)→X:=fun x=>(none,[.v (.c (.fn 119 [(0,0),(1,0),(2,0),(3,0)])),.v (.c (.d (.lst x.1 (enL enS x.2.1)))),.v (.c (.d (.sc (.int .i64 x.2.2.1)))),.v (.c (.d (.sc (.int .i64 x.2.2.2.1)))),.v (.c (.own x.2.2.2.2.1 (enL enS x.2.2.2.2.2.1) 4)),.v (.c (.d (.sc (.int .i64 x.2.2.2.2.2.2.1)))),.v (.c (.d (.sc (.int .i64 x.2.2.2.2.2.2.2.1))))],[.cells [.d (.sc (.bool x.2.2.2.2.2.2.2.2.1))],.cells [.d (.sc (.int .u64 x.2.2.2.2.2.2.2.2.2.1))],.cells [.d (.sc (.string (S x.2.2.2.2.2.2.2.2.2.2.1)))],.cells [.d (.sc (.bool x.2.2.2.2.2.2.2.2.2.2.2))],.row x.2.2.2.2.2.1.length (rz x.2.2.2.2.1 1)])
def j117a_41 (t10_0:Bool) (t10_1:List Bs) (t11 t12:Int) (h0_0:Bool) (h1_0:Int) (h2_0:Bs) (h3_0:Bool):Option ((Bool×List Bs×Int×Int×Bool×Int×Bs×Bool) ⊕ R117a):=
 some (.inl (t10_0,t10_1,t11,(w64 (t12 + 1)),h0_0,h1_0,h2_0,h3_0))
theorem j117a_41_t (t10_0:Bool) (t10_1:List Bs) (t11 t12:Int) (h0_0:Bool) (h1_0:Int) (h2_0:Bs) (h3_0:Bool) (g4:Ob) (sl:Nat→AV) (zq1:sl 1 = .v (.c (.fn 119 [(0,0),(1,0),(2,0),(3,0)]))) (zq10:sl 10 = .v (.c (.d (.lst t10_0 (enL enS t10_1))))) (zq11:sl 11 = .v (.c (.d (.sc (.int .i64 t11))))) (zq12:sl 12 = .v (.c (.d (.sc (.int .i64 t12))))):
  stepE (K117a_6 (mm:=mm)) (loopK 4 [(1,.keep),(10,.keep),(11,.keep),(12,.keep)] (den (E0 mm) 117 4 (callW (E0 mm)) itW c117_41 none ⟨sl,[.cells [.d (.sc (.bool h0_0))],.cells [.d (.sc (.int .u64 h1_0))],.cells [.d (.sc (.string (S h2_0)))],.cells [.d (.sc (.bool h3_0))],g4]⟩)) = (j117a_41 t10_0 t10_1 t11 t12 h0_0 h1_0 h2_0 h3_0).map (sm en117a_6 e117a):=by
 simp -implicitDefEqProofs only [j117a_41,c117_41_r,(show opsOf c117_41 = _ :: _ from rfl),(show List.range 5 = [0,1,2,3,4] from rfl),zq1,zq10,zq11,zq12,setA,setB,za,zb,zc,zd,ze,zf,zg,zh,zi,zj,zk,zl,zm,zn,zo,zp,reduceCtorEq,zE,↓reduceIte]
 all_goals rfl
def s117a_20 (t10_0:Bool) (t10_1:List Bs) (t11 t12:Int) (t17_0:Bool) (t17_1:List Bs) (t18 t19:Int) (h0_0:Bool) (h1_0:Int) (h2_0:Bs) (h3_0:Bool):Option ((Bool×List Bs×Int×Int×Bool×List Bs×Int×Int×Bool×Int×Bs×Bool) ⊕ ((Bool×List Bs×Int×Int×Bool×Int×Bs×Bool) ⊕ R117a)):=
 if (decide (t19 < t18)) = true then
  if 0≤t19∧t19 < (t17_1.length:Int) then
   (m119 (t17_1.getD t19.toNat default) h0_0 h1_0 h2_0 h3_0).bind fun yr10=>
    if (yr10.1 == 0) = true then
     some (.inl (t10_0,t10_1,t11,t12,t17_0,t17_1,t18,(w64 (t19 + 1)),yr10.2.1,yr10.2.2.1,yr10.2.2.2.1,yr10.2.2.2.2))
    else
     some (.inr (.inr (yr10.1,yr10.2.1,yr10.2.2.1,yr10.2.2.2.1,yr10.2.2.2.2)))
  else none
 else
  (j117a_41 t10_0 t10_1 t11 t12 h0_0 h1_0 h2_0 h3_0).map .inr
theorem s117a_20_t (t10_0:Bool) (t10_1:List Bs) (t11 t12:Int) (t17_0:Bool) (t17_1:List Bs) (t18 t19:Int) (h0_0:Bool) (h1_0:Int) (h2_0:Bs) (h3_0:Bool):
  stepE (K117a_20 (mm:=mm)) (loopF (E0 mm) 117 4 (callW (E0 mm)) itW c117_21 [(1,.keep),(10,.keep),(11,.keep),(12,.keep),(17,.keep),(18,.keep),(19,.keep)] (none,[.v (.c (.fn 119 [(0,0),(1,0),(2,0),(3,0)])),.v (.c (.d (.lst t10_0 (enL enS t10_1)))),.v (.c (.d (.sc (.int .i64 t11)))),.v (.c (.d (.sc (.int .i64 t12)))),.v (.c (.own t17_0 (enL enS t17_1) 4)),.v (.c (.d (.sc (.int .i64 t18)))),.v (.c (.d (.sc (.int .i64 t19))))],[.cells [.d (.sc (.bool h0_0))],.cells [.d (.sc (.int .u64 h1_0))],.cells [.d (.sc (.string (S h2_0)))],.cells [.d (.sc (.bool h3_0))],.row t17_1.length (rz t17_0 1)])) = (s117a_20 t10_0 t10_1 t11 t12 t17_0 t17_1 t18 t19 h0_0 h1_0 h2_0 h3_0).map (sm en117a_20 (sm en117a_6 e117a)):=by
 simp -implicitDefEqProofs only [s117a_20,loopF_eq,c117_21_e,c117_22_r,(show opsOf c117_22 = _ :: _ from rfl),c117_23_e,(show c117_24 = Code.cond _ c117_25 c117_26 from rfl),(show List.range 5 = [0,1,2,3,4] from rfl),setA,setB,za,zb,zc,zd,ze,zf,zg,zh,zi,zj,zk,zl,zm,zn,zo,zp,reduceCtorEq,zE,↓reduceIte]
 refine brB (fun yc6=>?_) (fun yc6=>?_)
 ·simp -implicitDefEqProofs only [c117_25_e,c117_27_e,c117_28_e,c117_29_e,c117_30_r,(show opsOf c117_30 = _ :: _ from rfl),Tryz.underlying101,sz9,enS_a,(show List.range 5 = [0,1,2,3,4] from rfl),yc6,setA,setB,za,zb,zc,zd,ze,zf,zg,zh,zi,zj,zk,zl,zm,zn,zo,zp,reduceCtorEq,zE,↓reduceIte]
  refine brP (fun yc7=>?_) (fun yc7=>?_)
  ·have yd8:t19.toNat < t17_1.length:=by omega
   simp -implicitDefEqProofs only [(enL_get enS t17_1 t19.toNat yd8),enS_e,sz9,ag9,c117_31_e,c117_32_r,(show opsOf c117_32 = _ :: _ from rfl),ent119,prm119,f119_t,(show List.range 5 = [0,1,2,3,4] from rfl),yc6,yc7,yd8,setA,setB,za,zb,zc,zd,ze,zf,zg,zh,zi,zj,zk,zl,zm,zn,zo,zp,reduceCtorEq,zE,↓reduceIte]
   refine brM (fun yc9=>?_) (fun yr10 yc9=>?_)
   ·rw [yc9]; rfl
   ·simp -implicitDefEqProofs only [e119,c117_33_e,c117_34_r,(show opsOf c117_34 = _ :: _ from rfl),(show c117_35 = Code.cond _ c117_36 c117_39 from rfl),(show List.range 5 = [0,1,2,3,4] from rfl),yc6,yc7,yd8,yc9,setA,setB,za,zb,zc,zd,ze,zf,zg,zh,zi,zj,zk,zl,zm,zn,zo,zp,reduceCtorEq,zE,↓reduceIte]
    refine brB (fun yc11=>?_) (fun yc11=>?_)
    ·simp -implicitDefEqProofs only [c117_39_e,c117_40_r,(show opsOf c117_40 = _ :: _ from rfl),(show List.range 5 = [0,1,2,3,4] from rfl),yc6,yc7,yd8,yc9,yc11,setA,setB,za,zb,zc,zd,ze,zf,zg,zh,zi,zj,zk,zl,zm,zn,zo,zp,reduceCtorEq,zE,↓reduceIte]
     all_goals rfl
    ·simp -implicitDefEqProofs only [c117_36_e,c117_37_r,(show opsOf c117_37 = _ :: _ from rfl),c117_38_e,K117a_20,K117a_6,(show List.range 5 = [0,1,2,3,4] from rfl),yc6,yc7,yd8,yc9,yc11,setA,setB,za,zb,zc,zd,ze,zf,zg,zh,zi,zj,zk,zl,zm,zn,zo,zp,reduceCtorEq,zE,↓reduceIte]
     all_goals rfl
  ·rw [if_neg yc7]; rfl
 ·simp -implicitDefEqProofs only [c117_26_e,K117a_20,(show List.range 5 = [0,1,2,3,4] from rfl),yc6,setA,setB,za,zb,zc,zd,ze,zf,zg,zh,zi,zj,zk,zl,zm,zn,zo,zp,reduceCtorEq,zE,↓reduceIte]
  exact mi (j117a_41_t t10_0 t10_1 t11 t12 h0_0 h1_0 h2_0 h3_0 _ _ (by rfl) (by rfl) (by rfl) (by rfl))
def l117a_20 (t10_0:Bool) (t10_1:List Bs) (t11 t12:Int) (t17_0:Bool) (t17_1:List Bs) (t18 t19:Int) (h0_0:Bool) (h1_0:Int) (h2_0:Bs) (h3_0:Bool):Option ((Bool×List Bs×Int×Int×Bool×Int×Bs×Bool) ⊕ R117a):=iter (fun x:(Bool×List Bs×Int×Int×Bool×List Bs×Int×Int×Bool×Int×Bs×Bool)=>s117a_20 x.1 x.2.1 x.2.2.1 x.2.2.2.1 x.2.2.2.2.1 x.2.2.2.2.2.1 x.2.2.2.2.2.2.1 x.2.2.2.2.2.2.2.1 x.2.2.2.2.2.2.2.2.1 x.2.2.2.2.2.2.2.2.2.1 x.2.2.2.2.2.2.2.2.2.2.1 x.2.2.2.2.2.2.2.2.2.2.2) (t10_0,t10_1,t11,t12,t17_0,t17_1,t18,t19,h0_0,h1_0,h2_0,h3_0)
theorem l117a_20_t (t10_0:Bool) (t10_1:List Bs) (t11 t12:Int) (t17_0:Bool) (t17_1:List Bs) (t18 t19:Int) (h0_0:Bool) (h1_0:Int) (h2_0:Bs) (h3_0:Bool):stepE (K117a_6 (mm:=mm)) (loopK 4 [(1,.keep),(10,.keep),(11,.keep),(12,.keep)] (seqD (E0 mm) 117 4 (callW (E0 mm)) itW c117_41 (blockD 1 (blockD 2 (itW (loopF (E0 mm) 117 4 (callW (E0 mm)) itW c117_21 [(1,.keep),(10,.keep),(11,.keep),(12,.keep),(17,.keep),(18,.keep),(19,.keep)]) (none,[.v (.c (.fn 119 [(0,0),(1,0),(2,0),(3,0)])),.v (.c (.d (.lst t10_0 (enL enS t10_1)))),.v (.c (.d (.sc (.int .i64 t11)))),.v (.c (.d (.sc (.int .i64 t12)))),.v (.c (.own t17_0 (enL enS t17_1) 4)),.v (.c (.d (.sc (.int .i64 t18)))),.v (.c (.d (.sc (.int .i64 t19))))],[.cells [.d (.sc (.bool h0_0))],.cells [.d (.sc (.int .u64 h1_0))],.cells [.d (.sc (.string (S h2_0)))],.cells [.d (.sc (.bool h3_0))],.row t17_1.length (rz t17_0 1)])))))) = (l117a_20 t10_0 t10_1 t11 t12 t17_0 t17_1 t18 t19 h0_0 h1_0 h2_0 h3_0).map (sm en117a_6 e117a):=
 it_sim (K:=(K117a_20 (mm:=mm))) rfl (enc:=en117a_20) (fun x=>s117a_20_t x.1 x.2.1 x.2.2.1 x.2.2.2.1 x.2.2.2.2.1 x.2.2.2.2.2.1 x.2.2.2.2.2.2.1 x.2.2.2.2.2.2.2.1 x.2.2.2.2.2.2.2.2.1 x.2.2.2.2.2.2.2.2.2.1 x.2.2.2.2.2.2.2.2.2.2.1 x.2.2.2.2.2.2.2.2.2.2.2) (t10_0,t10_1,t11,t12,t17_0,t17_1,t18,t19,h0_0,h1_0,h2_0,h3_0)
def j117a_42 (h0_0:Bool) (h1_0:Int) (h2_0:Bs) (h3_0:Bool):Option R117a:=
 some ((0:Int),h0_0,h1_0,h2_0,h3_0)
theorem j117a_42_t (h0_0:Bool) (h1_0:Int) (h2_0:Bs) (h3_0:Bool)  (sl:Nat→AV)  :
  bodyD (E0 mm) [.tmp 4] 4 false (den (E0 mm) 117 4 (callW (E0 mm)) itW c117_42 none ⟨sl,[.cells [.d (.sc (.bool h0_0))],.cells [.d (.sc (.int .u64 h1_0))],.cells [.d (.sc (.string (S h2_0)))],.cells [.d (.sc (.bool h3_0))]]⟩) = (j117a_42 h0_0 h1_0 h2_0 h3_0).map e117a:=by
 simp -implicitDefEqProofs only [j117a_42,c117_42_e,c117_43_r,(show opsOf c117_43 = _ :: _ from rfl),c117_44_e,setA,setB,za,zb,zc,zd,ze,zf,zg,zh,zi,zj,zk,zl,zm,zn,zo,zp,reduceCtorEq,zE,↓reduceIte]
 all_goals rfl
def s117a_6 (t10_0:Bool) (t10_1:List Bs) (t11 t12:Int) (h0_0:Bool) (h1_0:Int) (h2_0:Bs) (h3_0:Bool):Option ((Bool×List Bs×Int×Int×Bool×Int×Bs×Bool) ⊕ R117a):=
 if (decide (t12 < t11)) = true then
  if 0≤t12∧t12 < (t10_1.length:Int) then
   (m151 (t10_1.getD t12.toNat default)).bind fun yr5=>
    l117a_20 t10_0 t10_1 t11 t12 yr5.1 yr5.2 (yr5.2.length:Int) (0:Int) h0_0 h1_0 h2_0 h3_0
  else none
 else
  (j117a_42 h0_0 h1_0 h2_0 h3_0).map .inr
theorem s117a_6_t (t10_0:Bool) (t10_1:List Bs) (t11 t12:Int) (h0_0:Bool) (h1_0:Int) (h2_0:Bs) (h3_0:Bool):
  stepE (K117a_6 (mm:=mm)) (loopF (E0 mm) 117 4 (callW (E0 mm)) itW c117_7 [(1,.keep),(10,.keep),(11,.keep),(12,.keep)] (none,[.v (.c (.fn 119 [(0,0),(1,0),(2,0),(3,0)])),.v (.c (.d (.lst t10_0 (enL enS t10_1)))),.v (.c (.d (.sc (.int .i64 t11)))),.v (.c (.d (.sc (.int .i64 t12))))],[.cells [.d (.sc (.bool h0_0))],.cells [.d (.sc (.int .u64 h1_0))],.cells [.d (.sc (.string (S h2_0)))],.cells [.d (.sc (.bool h3_0))]])) = (s117a_6 t10_0 t10_1 t11 t12 h0_0 h1_0 h2_0 h3_0).map (sm en117a_6 e117a):=by
 simp -implicitDefEqProofs only [s117a_6,loopF_eq,c117_7_e,c117_8_r,(show opsOf c117_8 = _ :: _ from rfl),c117_9_e,(show c117_10 = Code.cond _ c117_11 c117_12 from rfl),setA,setB,za,zb,zc,zd,ze,zf,zg,zh,zi,zj,zk,zl,zm,zn,zo,zp,reduceCtorEq,zE,↓reduceIte]
 refine brB (fun yc1=>?_) (fun yc1=>?_)
 ·simp -implicitDefEqProofs only [c117_11_e,c117_13_e,c117_14_e,c117_15_e,c117_16_r,(show opsOf c117_16 = _ :: _ from rfl),Tryz.underlying101,sz9,enS_a,yc1,setA,setB,za,zb,zc,zd,ze,zf,zg,zh,zi,zj,zk,zl,zm,zn,zo,zp,reduceCtorEq,zE,↓reduceIte]
  refine brP (fun yc2=>?_) (fun yc2=>?_)
  ·have yd3:t12.toNat < t10_1.length:=by omega
   simp -implicitDefEqProofs only [(enL_get enS t10_1 t12.toNat yd3),enS_e,sz9,ag9,c117_17_e,c117_18_r,(show opsOf c117_18 = _ :: _ from rfl),ent151,prm151,f151_t,yc1,yc2,yd3,setA,setB,za,zb,zc,zd,ze,zf,zg,zh,zi,zj,zk,zl,zm,zn,zo,zp,reduceCtorEq,zE,↓reduceIte]
   refine brM (fun yc4=>?_) (fun yr5 yc4=>?_)
   ·rw [yc4]; rfl
   ·simp -implicitDefEqProofs only [e151,Tryz.underlying101,c117_19_e,c117_20_l,(show List.range 5 = [0,1,2,3,4] from rfl),yc1,yc2,yd3,yc4,setA,setB,za,zb,zc,zd,ze,zf,zg,zh,zi,zj,zk,zl,zm,zn,zo,zp,reduceCtorEq,zE,↓reduceIte]
    exact l117a_20_t t10_0 t10_1 t11 t12 yr5.1 yr5.2 (yr5.2.length:Int) (0:Int) h0_0 h1_0 h2_0 h3_0
  ·rw [if_neg yc2]; rfl
 ·simp -implicitDefEqProofs only [c117_12_e,K117a_6,yc1,setA,setB,za,zb,zc,zd,ze,zf,zg,zh,zi,zj,zk,zl,zm,zn,zo,zp,reduceCtorEq,zE,↓reduceIte]
  exact mi (j117a_42_t h0_0 h1_0 h2_0 h3_0 _)
def l117a_6 (t10_0:Bool) (t10_1:List Bs) (t11 t12:Int) (h0_0:Bool) (h1_0:Int) (h2_0:Bs) (h3_0:Bool):Option R117a:=iter (fun x:(Bool×List Bs×Int×Int×Bool×Int×Bs×Bool)=>s117a_6 x.1 x.2.1 x.2.2.1 x.2.2.2.1 x.2.2.2.2.1 x.2.2.2.2.2.1 x.2.2.2.2.2.2.1 x.2.2.2.2.2.2.2) (t10_0,t10_1,t11,t12,h0_0,h1_0,h2_0,h3_0)
theorem l117a_6_t (t10_0:Bool) (t10_1:List Bs) (t11 t12:Int) (h0_0:Bool) (h1_0:Int) (h2_0:Bs) (h3_0:Bool):bodyD (E0 mm) [.tmp 4] 4 false (seqD (E0 mm) 117 4 (callW (E0 mm)) itW c117_42 (blockD 0 (itW (loopF (E0 mm) 117 4 (callW (E0 mm)) itW c117_7 [(1,.keep),(10,.keep),(11,.keep),(12,.keep)]) (none,[.v (.c (.fn 119 [(0,0),(1,0),(2,0),(3,0)])),.v (.c (.d (.lst t10_0 (enL enS t10_1)))),.v (.c (.d (.sc (.int .i64 t11)))),.v (.c (.d (.sc (.int .i64 t12))))],[.cells [.d (.sc (.bool h0_0))],.cells [.d (.sc (.int .u64 h1_0))],.cells [.d (.sc (.string (S h2_0)))],.cells [.d (.sc (.bool h3_0))]])))) = (l117a_6 t10_0 t10_1 t11 t12 h0_0 h1_0 h2_0 h3_0).map e117a:=
 it_sim (K:=(K117a_6 (mm:=mm))) rfl (enc:=en117a_6) (fun x=>s117a_6_t x.1 x.2.1 x.2.2.1 x.2.2.2.1 x.2.2.2.2.1 x.2.2.2.2.2.1 x.2.2.2.2.2.2.1 x.2.2.2.2.2.2.2) (t10_0,t10_1,t11,t12,h0_0,h1_0,h2_0,h3_0)
def m117a (values_0:Bool) (values_1:List Bs) (h0_0:Bool) (h1_0:Int) (h2_0:Bs) (h3_0:Bool):Option R117a:=
 l117a_6 values_0 values_1 (values_1.length:Int) (0:Int) h0_0 h1_0 h2_0 h3_0
theorem f117a_t (values_0:Bool) (values_1:List Bs) (h0_0:Bool) (h1_0:Int) (h2_0:Bs) (h3_0:Bool):
  callW (E0 mm) 117 [.c (.d (.lst values_0 (enL enS values_1))),.c (.fn 119 [(0,0),(1,0),(2,0),(3,0)])] [.cells [.d (.sc (.bool h0_0))],.cells [.d (.sc (.int .u64 h1_0))],.cells [.d (.sc (.string (S h2_0)))],.cells [.d (.sc (.bool h3_0))]] = (m117a values_0 values_1 h0_0 h1_0 h2_0 h3_0).map e117a:=by
 rw [callW_run (body:=c117_0) (res:=[.tmp 4]) Tryz.func117 rfl rfl (by kernel_rfl)]
 simp -implicitDefEqProofs only [m117a,slots2,c117_0_e,c117_1_r,(show opsOf c117_1 = _ :: _ from rfl),c117_2_e,c117_3_e,c117_4_r,(show opsOf c117_4 = _ :: _ from rfl),Tryz.underlying101,c117_5_e,c117_6_l,setA,setB,za,zb,zc,zd,ze,zf,zg,zh,zi,zj,zk,zl,zm,zn,zo,zp,reduceCtorEq,zE,↓reduceIte]
 exact l117a_6_t values_0 values_1 (values_1.length:Int) (0:Int) h0_0 h1_0 h2_0 h3_0
noncomputable def c86_0:Code:=bodyOf Tryz.f86
def c86_1:=cA c86_0
def c86_2:=cB c86_0
def c86_3:=cA c86_2
def c86_4:=cB c86_2
def c86_5:=cA c86_4
def c86_6:=cB c86_4
def c86_7:=cA c86_6
def c86_8:=cA c86_7
def c86_9:=cB c86_7
def c86_10:=cA c86_9
def c86_11:=cB c86_9
def c86_12:=cB c86_6
def c86_13:=cA c86_12
def c86_14:=cB c86_12
theorem c86_0_e:c86_0 = .seq c86_1 c86_2:=rfl
theorem c86_1_r:RG (E0 mm) 86 c86_1:=rgN rfl
theorem c86_2_e:c86_2 = .seq c86_3 c86_4:=rfl
theorem c86_3_r:RG (E0 mm) 86 c86_3:=rgN rfl
theorem c86_4_e:c86_4 = .seq c86_5 c86_6:=rfl
theorem c86_5_r:RG (E0 mm) 86 c86_5:=rgN rfl
theorem c86_6_e:c86_6 = .seq c86_7 c86_12:=rfl
theorem c86_7_e:c86_7 = .seq c86_8 c86_9:=rfl
theorem c86_8_r:RG (E0 mm) 86 c86_8:=rgN rfl
theorem c86_10_r:RG (E0 mm) 86 c86_10:=rgN rfl
theorem c86_11_e:c86_11 = .skip:=rfl
theorem c86_12_e:c86_12 = .seq c86_13 c86_14:=rfl
theorem c86_13_r (m:Nat) (st:St):den (E0 mm) 86 m (callW (E0 mm)) itW c86_13 none st = regD ((runF (E0 mm) (callW (E0 mm)) (opsOf c86_13) (opsOf c86_13) [none,some true,none,some false,none,none] st []).bind (ckF [(1,3)])):=den_dF (by kernel_rfl)
theorem c86_14_e:c86_14 = .ret:=rfl
abbrev R86:=(Int×Bool×Int)
def e86:R86→AV×Heap:=fun x=>(.tup [.c (.d (.sc (.int .u64 x.1))),.c (.d (.sc (.bool x.2.1))),.c (.d (.sc (.int .i64 x.2.2)))],[])
def j86_12 (e4 h0_0:Int) (h1_0:Bool):Option R86:=
 some (h0_0,h1_0,e4)
theorem j86_12_t (e4 h0_0:Int) (h1_0:Bool) (g2 g3:Ob) (sl:Nat→AV) (zq2:sl 2 = .v (.c (.ptr 0 0))) (zq3:sl 3 = .v (.c (.ptr 1 0))) (zq4:sl 4 = .v (.c (.d (.sc (.int .i64 e4))))):
  bodyD (E0 mm) [.cell 2 64,.cell 3 4,.tmp 4] 0 false (den (E0 mm) 86 0 (callW (E0 mm)) itW c86_12 none ⟨sl,[.cells [.d (.sc (.int .u64 h0_0))],.cells [.d (.sc (.bool h1_0))],g2,g3]⟩) = (j86_12 e4 h0_0 h1_0).map e86:=by
 simp -implicitDefEqProofs only [j86_12,c86_12_e,c86_13_r,(show opsOf c86_13 = _ :: _ from rfl),sz64,ag64,sz4,ag4,ckF,foot_f,pair1,pair0,chgA,eqO,eqOb_cells,eqOb_row,eqOb_siter,eqOb_amapN,eqOb_amapC,eqOb_sm,eqE_S,eqE_SS,eqE_N,eqE_B,eqL,eqC,eqD,eqV,eqV1,eqB_refl,eq_self,decide_true,List.all_nil,List.getD_cons_zero,List.getD_cons_succ,Bool.and_self,c86_14_e,zq2,zq3,zq4,runF_nil,runF_none,runF_some,runKF_t,runKF_f,runKF_x,stepKF_s,stepKF_x,tlT_c,tlT_n,hdT_c,hdT_n,footT_n,foot_t,readsO,setA,setB,za,zb,zc,zd,ze,zf,zg,zh,zi,zj,zk,zl,zm,zn,zo,zp,reduceCtorEq,zE,↓reduceIte]
 all_goals rfl
def m86 (lengths_0:Bool) (lengths_1:List Bs):Option R86:=
 (m117a lengths_0 lengths_1 false (0:Int) ([]:Bs) false).bind fun yr2=>
  if yr2.2.1 = true then
   j86_12 yr2.1 yr2.2.2.1 yr2.2.2.2.2
  else
   j86_12 (22:Int) yr2.2.2.1 yr2.2.2.2.2
theorem f86_t (lengths_0:Bool) (lengths_1:List Bs):
  callW (E0 mm) 86 [.c (.d (.lst lengths_0 (enL enS lengths_1)))] [] = (m86 lengths_0 lengths_1).map e86:=by
 rw [callW_run (body:=c86_0) (res:=[.cell 2 64,.cell 3 4,.tmp 4]) Tryz.func86 rfl rfl (by kernel_rfl)]
 simp -implicitDefEqProofs only [m86,slots1,c86_0_e,c86_1_r,(show opsOf c86_1 = _ :: _ from rfl),zc64,ao38,zc4,c86_2_e,c86_3_r,(show opsOf c86_3 = _ :: _ from rfl),zc9,ao39,sz9,sz4,c86_4_e,c86_5_r,(show opsOf c86_5 = _ :: _ from rfl),ent117,prm117,(show callW (E0 mm) 117 [.c (.d (.lst lengths_0 (enL enS lengths_1))),.c (.fn 119 [(0,0),(1,0),(2,0),(3,0)])] [.cells [.d (.sc (.bool false))],.cells [.d (.sc (.int .u64 0))],.cells [.d (.sc (.string (S ([]:Bs))))],.cells [.d (.sc (.bool false))]] = _ from f117a_t lengths_0 lengths_1 false (0:Int) ([]:Bs) false),setA,setB,za,zb,zc,zd,ze,zf,zg,zh,zi,zj,zk,zl,zm,zn,zo,zp,reduceCtorEq,zE,↓reduceIte]
 refine brM (fun yc1=>?_) (fun yr2 yc1=>?_)
 ·rw [yc1]; rfl
 ·simp -implicitDefEqProofs only [e117a,c86_6_e,c86_7_e,c86_8_r,(show opsOf c86_8 = _ :: _ from rfl),sz4,ag4,(show c86_9 = Code.cond _ c86_10 c86_11 from rfl),yc1,setA,setB,za,zb,zc,zd,ze,zf,zg,zh,zi,zj,zk,zl,zm,zn,zo,zp,reduceCtorEq,zE,↓reduceIte]
  refine brB (fun yc3=>?_) (fun yc3=>?_)
  ·simp -implicitDefEqProofs only [c86_11_e,yc1,yc3,setA,setB,za,zb,zc,zd,ze,zf,zg,zh,zi,zj,zk,zl,zm,zn,zo,zp,reduceCtorEq,zE,↓reduceIte]
   exact j86_12_t yr2.1 yr2.2.2.1 yr2.2.2.2.2 _ _ _ (by rfl) (by rfl) (by rfl)
  ·simp -implicitDefEqProofs only [c86_10_r,(show opsOf c86_10 = _ :: _ from rfl),yc1,yc3,setA,setB,za,zb,zc,zd,ze,zf,zg,zh,zi,zj,zk,zl,zm,zn,zo,zp,reduceCtorEq,zE,↓reduceIte]
   exact j86_12_t (22:Int) yr2.2.2.1 yr2.2.2.2.2 _ _ _ (by rfl) (by rfl) (by rfl)
noncomputable def c51_0:Code:=bodyOf Tryz.f51
def c51_1:=cA c51_0
def c51_2:=cB c51_0
def c51_3:=cA c51_2
def c51_4:=cB c51_2
def c51_5:=cA c51_4
def c51_6:=cA c51_5
def c51_7:=cA c51_6
def c51_8:=cB c51_6
def c51_9:=cA c51_8
def c51_10:=cA c51_9
def c51_11:=cB c51_9
def c51_12:=cB c51_8
def c51_13:=cA c51_12
def c51_14:=cB c51_12
def c51_15:=cA c51_14
def c51_16:=cA c51_15
def c51_17:=cA c51_16
def c51_18:=cB c51_16
def c51_19:=cA c51_18
def c51_20:=cA c51_19
def c51_21:=cB c51_19
def c51_22:=cB c51_18
def c51_23:=cB c51_15
def c51_24:=cA c51_23
def c51_25:=cB c51_23
def c51_26:=cB c51_14
def c51_27:=cA c51_26
def c51_28:=cB c51_26
def c51_29:=cA c51_28
def c51_30:=cA c51_29
def c51_31:=cB c51_29
def c51_32:=cA c51_31
def c51_33:=cB c51_31
def c51_34:=cB c51_28
def c51_35:=cB c51_4
def c51_36:=cA c51_35
def c51_37:=cB c51_35
theorem c51_0_e:c51_0 = .seq c51_1 c51_2:=rfl
theorem c51_1_r:RG (E0 mm) 51 c51_1:=rgN rfl
theorem c51_2_e:c51_2 = .seq c51_3 c51_4:=rfl
theorem c51_3_r:RG (E0 mm) 51 c51_3:=rgN rfl
theorem c51_4_e:c51_4 = .seq c51_5 c51_35:=rfl
theorem c51_5_e:c51_5 = .block 0 c51_6:=rfl
theorem c51_6_e:c51_6 = .seq c51_7 c51_8:=rfl
theorem c51_7_r:RG (E0 mm) 51 c51_7:=rgN rfl
theorem c51_9_e:c51_9 = .seq c51_10 c51_11:=rfl
theorem c51_10_r:RG (E0 mm) 51 c51_10:=rgN rfl
theorem c51_11_e:c51_11 = .ret:=rfl
theorem c51_12_e:c51_12 = .seq c51_13 c51_14:=rfl
theorem c51_13_r:RG (E0 mm) 51 c51_13:=rgN rfl
theorem c51_15_e:c51_15 = .seq c51_16 c51_23:=rfl
theorem c51_16_e:c51_16 = .seq c51_17 c51_18:=rfl
theorem c51_17_r:RG (E0 mm) 51 c51_17:=rgN rfl
theorem c51_19_e:c51_19 = .seq c51_20 c51_21:=rfl
theorem c51_20_r:RG (E0 mm) 51 c51_20:=rgN rfl
theorem c51_21_e:c51_21 = .ret:=rfl
theorem c51_22_e:c51_22 = .skip:=rfl
theorem c51_23_e:c51_23 = .seq c51_24 c51_25:=rfl
theorem c51_24_r:RG (E0 mm) 51 c51_24:=rgN rfl
theorem c51_25_e:c51_25 = .ret:=rfl
theorem c51_26_e:c51_26 = .seq c51_27 c51_28:=rfl
theorem c51_27_r:RG (E0 mm) 51 c51_27:=rgN rfl
theorem c51_29_e:c51_29 = .seq c51_30 c51_31:=rfl
theorem c51_30_r:RG (E0 mm) 51 c51_30:=rgN rfl
theorem c51_31_e:c51_31 = .seq c51_32 c51_33:=rfl
theorem c51_32_r:RG (E0 mm) 51 c51_32:=rgN rfl
theorem c51_33_e:c51_33 = .ret:=rfl
theorem c51_34_e:c51_34 = .skip:=rfl
theorem c51_35_e:c51_35 = .seq c51_36 c51_37:=rfl
theorem c51_36_r:RG (E0 mm) 51 c51_36:=rgN rfl
theorem c51_37_e:c51_37 = .ret:=rfl
abbrev R51:=(Int×Int×Bool×Int)
def e51:R51→AV×Heap:=fun x=>(.tup [.c (.d (.sc (.int .i64 x.1))),.c (.d (.sc (.int .u64 x.2.1))),.c (.d (.sc (.bool x.2.2.1))),.c (.d (.sc (.int .i64 x.2.2.2)))],[])
def j51_8 (minor0:Int) (lengths8_0:Bool) (lengths8_1:List Bs) (codings9_0:Bool) (codings9_1:List Bs) (t14:Bool):Option R51:=
 if t14 = true then
  some ((0:Int),(0:Int),false,(22:Int))
 else
  if (decide (0 < (codings9_1.length:Int))) = true then
   (m85 minor0 codings9_0 codings9_1).bind fun yr9=>
    if yr9 = true then
     some ((2:Int),(0:Int),false,(0:Int))
    else
     some ((0:Int),(0:Int),false,(22:Int))
  else
   if (decide (0 < (lengths8_1.length:Int))) = true then
    (m86 lengths8_0 lengths8_1).bind fun yr13=>
     some ((1:Int),yr13.1,yr13.2.1,yr13.2.2)
   else
    some ((0:Int),(0:Int),false,(0:Int))
theorem j51_8_t (minor0:Int) (lengths8_0:Bool) (lengths8_1:List Bs) (codings9_0:Bool) (codings9_1:List Bs) (t14:Bool)  (sl:Nat→AV) (zq0:sl 0 = .v (.c (.d (.sc (.int .i64 minor0))))) (zq8:sl 8 = .v (.c (.own lengths8_0 (enL enS lengths8_1) 0))) (zq9:sl 9 = .v (.c (.own codings9_0 (enL enS codings9_1) 1))) (zq14:sl 14 = .v (.c (.d (.sc (.bool t14))))):
  bodyD (E0 mm) [.tmp 4,.tmp 5,.tmp 6,.tmp 7] 0 false (seqD (E0 mm) 51 0 (callW (E0 mm)) itW c51_35 (blockD 0 (den (E0 mm) 51 0 (callW (E0 mm)) itW c51_8 none ⟨sl,[.row lengths8_1.length (rz lengths8_0 1),.row codings9_1.length (rz codings9_0 1)]⟩))) = (j51_8 minor0 lengths8_0 lengths8_1 codings9_0 codings9_1 t14).map e51:=by
 simp -implicitDefEqProofs only [j51_8,(show c51_8 = Code.cond _ c51_9 c51_12 from rfl),zq0,zq8,zq9,zq14,setA,setB,za,zb,zc,zd,ze,zf,zg,zh,zi,zj,zk,zl,zm,zn,zo,zp,reduceCtorEq,zE,↓reduceIte]
 refine brB (fun yc6=>?_) (fun yc6=>?_)
 ·simp -implicitDefEqProofs only [c51_9_e,c51_10_r,(show opsOf c51_10 = _ :: _ from rfl),c51_11_e,zq0,zq8,zq9,zq14,yc6,setA,setB,za,zb,zc,zd,ze,zf,zg,zh,zi,zj,zk,zl,zm,zn,zo,zp,reduceCtorEq,zE,↓reduceIte]
  all_goals rfl
 ·simp -implicitDefEqProofs only [c51_12_e,c51_13_r,(show opsOf c51_13 = _ :: _ from rfl),Tryz.underlying101,(show c51_14 = Code.cond _ c51_15 c51_26 from rfl),zq0,zq8,zq9,zq14,yc6,setA,setB,za,zb,zc,zd,ze,zf,zg,zh,zi,zj,zk,zl,zm,zn,zo,zp,reduceCtorEq,zE,↓reduceIte]
  refine brB (fun yc7=>?_) (fun yc7=>?_)
  ·simp -implicitDefEqProofs only [c51_15_e,c51_16_e,c51_17_r,(show opsOf c51_17 = _ :: _ from rfl),ent85,prm85,f85_t,zq0,zq8,zq9,zq14,yc6,yc7,setA,setB,za,zb,zc,zd,ze,zf,zg,zh,zi,zj,zk,zl,zm,zn,zo,zp,reduceCtorEq,zE,↓reduceIte]
   refine brM (fun yc8=>?_) (fun yr9 yc8=>?_)
   ·rw [yc8]; rfl
   ·simp -implicitDefEqProofs only [e85,(show c51_18 = Code.cond _ c51_19 c51_22 from rfl),zq0,zq8,zq9,zq14,yc6,yc7,yc8,setA,setB,za,zb,zc,zd,ze,zf,zg,zh,zi,zj,zk,zl,zm,zn,zo,zp,reduceCtorEq,zE,↓reduceIte]
    refine brB (fun yc10=>?_) (fun yc10=>?_)
    ·simp -implicitDefEqProofs only [c51_22_e,c51_23_e,c51_24_r,(show opsOf c51_24 = _ :: _ from rfl),c51_25_e,zq0,zq8,zq9,zq14,yc6,yc7,yc8,yc10,setA,setB,za,zb,zc,zd,ze,zf,zg,zh,zi,zj,zk,zl,zm,zn,zo,zp,reduceCtorEq,zE,↓reduceIte]
     all_goals rfl
    ·simp -implicitDefEqProofs only [c51_19_e,c51_20_r,(show opsOf c51_20 = _ :: _ from rfl),c51_21_e,zq0,zq8,zq9,zq14,yc6,yc7,yc8,yc10,setA,setB,za,zb,zc,zd,ze,zf,zg,zh,zi,zj,zk,zl,zm,zn,zo,zp,reduceCtorEq,zE,↓reduceIte]
     all_goals rfl
  ·simp -implicitDefEqProofs only [c51_26_e,c51_27_r,(show opsOf c51_27 = _ :: _ from rfl),Tryz.underlying101,(show c51_28 = Code.cond _ c51_29 c51_34 from rfl),zq0,zq8,zq9,zq14,yc6,yc7,setA,setB,za,zb,zc,zd,ze,zf,zg,zh,zi,zj,zk,zl,zm,zn,zo,zp,reduceCtorEq,zE,↓reduceIte]
   refine brB (fun yc11=>?_) (fun yc11=>?_)
   ·simp -implicitDefEqProofs only [c51_29_e,c51_30_r,(show opsOf c51_30 = _ :: _ from rfl),ent86,prm86,f86_t,zq0,zq8,zq9,zq14,yc6,yc7,yc11,setA,setB,za,zb,zc,zd,ze,zf,zg,zh,zi,zj,zk,zl,zm,zn,zo,zp,reduceCtorEq,zE,↓reduceIte]
    refine brM (fun yc12=>?_) (fun yr13 yc12=>?_)
    ·rw [yc12]; rfl
    ·simp -implicitDefEqProofs only [e86,c51_31_e,c51_32_r,(show opsOf c51_32 = _ :: _ from rfl),c51_33_e,zq0,zq8,zq9,zq14,yc6,yc7,yc11,yc12,setA,setB,za,zb,zc,zd,ze,zf,zg,zh,zi,zj,zk,zl,zm,zn,zo,zp,reduceCtorEq,zE,↓reduceIte]
     all_goals rfl
   ·simp -implicitDefEqProofs only [c51_34_e,c51_35_e,c51_36_r,(show opsOf c51_36 = _ :: _ from rfl),c51_37_e,zq0,zq8,zq9,zq14,yc6,yc7,yc11,setA,setB,za,zb,zc,zd,ze,zf,zg,zh,zi,zj,zk,zl,zm,zn,zo,zp,reduceCtorEq,zE,↓reduceIte]
    all_goals rfl
def m51 (minor:Int) (l_0:Bool) (l_1:List (Bs×Bs)):Option R51:=
 (m84 l_0 l_1 ([99,111,110,116,101,110,116,45,108,101,110,103,116,104]:Bs)).bind fun yr2=>
  (m84 l_0 l_1 ([116,114,97,110,115,102,101,114,45,101,110,99,111,100,105,110,103]:Bs)).bind fun yr4=>
   if (decide (0 < (yr2.2.length:Int))) = true then
    j51_8 minor yr2.1 yr2.2 yr4.1 yr4.2 (decide (0 < (yr4.2.length:Int)))
   else
    j51_8 minor yr2.1 yr2.2 yr4.1 yr4.2 false
theorem f51_t (minor:Int) (l_0:Bool) (l_1:List (Bs×Bs)):
  callW (E0 mm) 51 [.c (.d (.sc (.int .i64 minor))),.c (.d (.lst l_0 (enL enSS l_1)))] [] = (m51 minor l_0 l_1).map e51:=by
 rw [callW_run (body:=c51_0) (res:=[.tmp 4,.tmp 5,.tmp 6,.tmp 7]) Tryz.func51 rfl rfl (by kernel_rfl)]
 simp -implicitDefEqProofs only [m51,slots2,c51_0_e,c51_1_r,(show opsOf c51_1 = _ :: _ from rfl),c51_2_e,c51_3_r,(show opsOf c51_3 = _ :: _ from rfl),ent84,prm84,(show callW (E0 mm) 84 [.c (.d (.lst l_0 (enL enSS l_1))),.c (.d (.sc (.string (S ([99,111,110,116,101,110,116,45,108,101,110,103,116,104]:Bs)))))] [] = _ from f84_t l_0 l_1 ([99,111,110,116,101,110,116,45,108,101,110,103,116,104]:Bs)),setA,setB,za,zb,zc,zd,ze,zf,zg,zh,zi,zj,zk,zl,zm,zn,zo,zp,reduceCtorEq,zE,↓reduceIte]
 refine brM (fun yc1=>?_) (fun yr2 yc1=>?_)
 ·rw [yc1]; rfl
 ·simp -implicitDefEqProofs only [e84,ent84,prm84,(show callW (E0 mm) 84 [.c (.d (.lst l_0 (enL enSS l_1))),.c (.d (.sc (.string (S ([116,114,97,110,115,102,101,114,45,101,110,99,111,100,105,110,103]:Bs)))))] [] = _ from f84_t l_0 l_1 ([116,114,97,110,115,102,101,114,45,101,110,99,111,100,105,110,103]:Bs)),yc1,setA,setB,za,zb,zc,zd,ze,zf,zg,zh,zi,zj,zk,zl,zm,zn,zo,zp,reduceCtorEq,zE,↓reduceIte]
  refine brM (fun yc3=>?_) (fun yr4 yc3=>?_)
  ·rw [yc3]; rfl
  ·simp -implicitDefEqProofs only [e84,c51_4_e,c51_5_e,c51_6_e,c51_7_r,(show opsOf c51_7 = _ :: _ from rfl),Tryz.underlying101,yc1,yc3,setA,setB,za,zb,zc,zd,ze,zf,zg,zh,zi,zj,zk,zl,zm,zn,zo,zp,reduceCtorEq,zE,↓reduceIte]
   refine brB (fun yc5=>?_) (fun yc5=>?_)
   ·simp -implicitDefEqProofs only [Tryz.underlying101,yc1,yc3,yc5,setA,setB,za,zb,zc,zd,ze,zf,zg,zh,zi,zj,zk,zl,zm,zn,zo,zp,reduceCtorEq,zE,↓reduceIte]
    exact j51_8_t minor yr2.1 yr2.2 yr4.1 yr4.2 (decide (0 < (yr4.2.length:Int))) _ (by rfl) (by rfl) (by rfl) (by rfl)
   ·simp -implicitDefEqProofs only [yc1,yc3,yc5,setA,setB,za,zb,zc,zd,ze,zf,zg,zh,zi,zj,zk,zl,zm,zn,zo,zp,reduceCtorEq,zE,↓reduceIte]
    exact j51_8_t minor yr2.1 yr2.2 yr4.1 yr4.2 false _ (by rfl) (by rfl) (by rfl) (by rfl)
noncomputable def c50_0:Code:=bodyOf Tryz.f50
def c50_1:=cA c50_0
def c50_2:=cB c50_0
def c50_3:=cA c50_2
def c50_4:=cA c50_3
def c50_5:=cB c50_3
def c50_6:=cA c50_5
def c50_7:=cB c50_5
def c50_8:=cB c50_2
def c50_9:=cA c50_8
def c50_10:=cA c50_9
def c50_11:=cB c50_9
def c50_12:=cA c50_11
def c50_13:=cA c50_12
def c50_14:=cB c50_12
def c50_15:=cB c50_11
def c50_16:=cB c50_8
def c50_17:=cA c50_16
def c50_18:=cB c50_16
theorem c50_0_e:c50_0 = .seq c50_1 c50_2:=rfl
theorem c50_1_r:RG (E0 mm) 50 c50_1:=rgN rfl
theorem c50_2_e:c50_2 = .seq c50_3 c50_8:=rfl
theorem c50_3_e:c50_3 = .seq c50_4 c50_5:=rfl
theorem c50_4_r:RG (E0 mm) 50 c50_4:=rgN rfl
theorem c50_6_r:RG (E0 mm) 50 c50_6:=rgN rfl
theorem c50_7_e:c50_7 = .skip:=rfl
theorem c50_8_e:c50_8 = .seq c50_9 c50_16:=rfl
theorem c50_9_e:c50_9 = .seq c50_10 c50_11:=rfl
theorem c50_10_r:RG (E0 mm) 50 c50_10:=rgN rfl
theorem c50_12_e:c50_12 = .seq c50_13 c50_14:=rfl
theorem c50_13_r:RG (E0 mm) 50 c50_13:=rgN rfl
theorem c50_14_e:c50_14 = .ret:=rfl
theorem c50_15_e:c50_15 = .skip:=rfl
theorem c50_16_e:c50_16 = .seq c50_17 c50_18:=rfl
theorem c50_17_r:RG (E0 mm) 50 c50_17:=rgN rfl
theorem c50_18_e:c50_18 = .ret:=rfl
abbrev R50:=(Int×Int×Int)
def e50:R50→AV×Heap:=fun x=>(.tup [.c (.d (.sc (.int .i64 x.1))),.c (.d (.sc (.int .u64 x.2.1))),.c (.d (.sc (.int .i64 x.2.2)))],[])
def j50_8 (kind0 n1 e3:Int):Option R50:=
 if (e3 == 0) = true then
  some (kind0,n1,(0:Int))
 else
  some ((0:Int),(0:Int),e3)
theorem j50_8_t (kind0 n1 e3:Int)  (sl:Nat→AV) (zq0:sl 0 = .v (.c (.d (.sc (.int .i64 kind0))))) (zq1:sl 1 = .v (.c (.d (.sc (.int .u64 n1))))) (zq3:sl 3 = .v (.c (.d (.sc (.int .i64 e3))))):
  bodyD (E0 mm) [.tmp 8,.tmp 9,.tmp 10] 0 false (den (E0 mm) 50 0 (callW (E0 mm)) itW c50_8 none ⟨sl,[]⟩) = (j50_8 kind0 n1 e3).map e50:=by
 simp -implicitDefEqProofs only [j50_8,c50_8_e,c50_9_e,c50_10_r,(show opsOf c50_10 = _ :: _ from rfl),(show c50_11 = Code.cond _ c50_12 c50_15 from rfl),zq0,zq1,zq3,setA,setB,za,zb,zc,zd,ze,zf,zg,zh,zi,zj,zk,zl,zm,zn,zo,zp,reduceCtorEq,zE,↓reduceIte]
 refine brB (fun yc4=>?_) (fun yc4=>?_)
 ·simp -implicitDefEqProofs only [c50_15_e,c50_16_e,c50_17_r,(show opsOf c50_17 = _ :: _ from rfl),c50_18_e,zq0,zq1,zq3,yc4,setA,setB,za,zb,zc,zd,ze,zf,zg,zh,zi,zj,zk,zl,zm,zn,zo,zp,reduceCtorEq,zE,↓reduceIte]
  all_goals rfl
 ·simp -implicitDefEqProofs only [c50_12_e,c50_13_r,(show opsOf c50_13 = _ :: _ from rfl),c50_14_e,zq0,zq1,zq3,yc4,setA,setB,za,zb,zc,zd,ze,zf,zg,zh,zi,zj,zk,zl,zm,zn,zo,zp,reduceCtorEq,zE,↓reduceIte]
  all_goals rfl
def j50_5 (kind0 n1 e3:Int) (t19:Bool):Option R50:=
 if t19 = true then
  j50_8 kind0 n1 (21:Int)
 else
  j50_8 kind0 n1 e3
theorem j50_5_t (kind0 n1 e3:Int) (t19:Bool)  (sl:Nat→AV) (zq0:sl 0 = .v (.c (.d (.sc (.int .i64 kind0))))) (zq1:sl 1 = .v (.c (.d (.sc (.int .u64 n1))))) (zq3:sl 3 = .v (.c (.d (.sc (.int .i64 e3))))) (zq19:sl 19 = .v (.c (.d (.sc (.bool t19))))):
  bodyD (E0 mm) [.tmp 8,.tmp 9,.tmp 10] 0 false (seqD (E0 mm) 50 0 (callW (E0 mm)) itW c50_8 (den (E0 mm) 50 0 (callW (E0 mm)) itW c50_5 none ⟨sl,[]⟩)) = (j50_5 kind0 n1 e3 t19).map e50:=by
 simp -implicitDefEqProofs only [j50_5,(show c50_5 = Code.cond _ c50_6 c50_7 from rfl),zq0,zq1,zq3,zq19,setA,setB,za,zb,zc,zd,ze,zf,zg,zh,zi,zj,zk,zl,zm,zn,zo,zp,reduceCtorEq,zE,↓reduceIte]
 refine brB (fun yc3=>?_) (fun yc3=>?_)
 ·simp -implicitDefEqProofs only [c50_6_r,(show opsOf c50_6 = _ :: _ from rfl),zq0,zq1,zq3,zq19,yc3,setA,setB,za,zb,zc,zd,ze,zf,zg,zh,zi,zj,zk,zl,zm,zn,zo,zp,reduceCtorEq,zE,↓reduceIte]
  exact j50_8_t kind0 n1 (21:Int) _ (by exact zq0) (by exact zq1) (by rfl)
 ·simp -implicitDefEqProofs only [c50_7_e,zq0,zq1,zq3,zq19,yc3,setA,setB,za,zb,zc,zd,ze,zf,zg,zh,zi,zj,zk,zl,zm,zn,zo,zp,reduceCtorEq,zE,↓reduceIte]
  exact j50_8_t kind0 n1 e3 _ (by exact zq0) (by exact zq1) (by exact zq3)
def m50 (kind n:Int) (big:Bool) (e0:Int):Option R50:=
 if (e0 == 0) = true then
  if big = true then
   j50_5 kind n e0 true
  else
   j50_5 kind n e0 (decide (4096 < n))
 else
  j50_5 kind n e0 false
theorem f50_t (kind n:Int) (big:Bool) (e0:Int):
  callW (E0 mm) 50 [.c (.d (.sc (.int .i64 kind))),.c (.d (.sc (.int .u64 n))),.c (.d (.sc (.bool big))),.c (.d (.sc (.int .i64 e0)))] [] = (m50 kind n big e0).map e50:=by
 rw [callW_run (body:=c50_0) (res:=[.tmp 8,.tmp 9,.tmp 10]) Tryz.func50 rfl rfl (by kernel_rfl)]
 simp -implicitDefEqProofs only [m50,slots4,c50_0_e,c50_1_r,(show opsOf c50_1 = _ :: _ from rfl),c50_2_e,c50_3_e,c50_4_r,(show opsOf c50_4 = _ :: _ from rfl),setA,setB,za,zb,zc,zd,ze,zf,zg,zh,zi,zj,zk,zl,zm,zn,zo,zp,reduceCtorEq,zE,↓reduceIte]
 refine brB (fun yc1=>?_) (fun yc1=>?_)
 ·simp -implicitDefEqProofs only [yc1,setA,setB,za,zb,zc,zd,ze,zf,zg,zh,zi,zj,zk,zl,zm,zn,zo,zp,reduceCtorEq,zE,↓reduceIte]
  refine brB (fun yc2=>?_) (fun yc2=>?_)
  ·simp -implicitDefEqProofs only [yc1,yc2,setA,setB,za,zb,zc,zd,ze,zf,zg,zh,zi,zj,zk,zl,zm,zn,zo,zp,reduceCtorEq,zE,↓reduceIte]
   exact j50_5_t kind n e0 true _ (by rfl) (by rfl) (by rfl) (by rfl)
  ·simp -implicitDefEqProofs only [yc1,yc2,setA,setB,za,zb,zc,zd,ze,zf,zg,zh,zi,zj,zk,zl,zm,zn,zo,zp,reduceCtorEq,zE,↓reduceIte]
   exact j50_5_t kind n e0 (decide (4096 < n)) _ (by rfl) (by rfl) (by rfl) (by rfl)
 ·simp -implicitDefEqProofs only [yc1,setA,setB,za,zb,zc,zd,ze,zf,zg,zh,zi,zj,zk,zl,zm,zn,zo,zp,reduceCtorEq,zE,↓reduceIte]
  exact j50_5_t kind n e0 false _ (by rfl) (by rfl) (by rfl) (by rfl)
noncomputable def c26_0:Code:=bodyOf Tryz.f26
def c26_1:=cA c26_0
def c26_2:=cB c26_0
def c26_3:=cA c26_2
def c26_4:=cA c26_3
def c26_5:=cB c26_3
def c26_6:=cA c26_5
def c26_7:=cA c26_6
def c26_8:=cB c26_6
def c26_9:=cB c26_5
def c26_10:=cB c26_2
def c26_11:=cA c26_10
def c26_12:=cB c26_10
theorem c26_0_e:c26_0 = .seq c26_1 c26_2:=rfl
theorem c26_1_r:RG (E0 mm) 26 c26_1:=rgN rfl
theorem c26_2_e:c26_2 = .seq c26_3 c26_10:=rfl
theorem c26_3_e:c26_3 = .seq c26_4 c26_5:=rfl
theorem c26_4_r:RG (E0 mm) 26 c26_4:=rgN rfl
theorem c26_6_e:c26_6 = .seq c26_7 c26_8:=rfl
theorem c26_7_r:RG (E0 mm) 26 c26_7:=rgN rfl
theorem c26_8_e:c26_8 = .ret:=rfl
theorem c26_9_e:c26_9 = .skip:=rfl
theorem c26_10_e:c26_10 = .seq c26_11 c26_12:=rfl
theorem c26_11_r:RG (E0 mm) 26 c26_11:=rgN rfl
theorem c26_12_e:c26_12 = .ret:=rfl
abbrev R26:=(Int×Int×Int)
def e26:R26→AV×Heap:=fun x=>(.tup [.c (.d (.sc (.int .i64 x.1))),.c (.d (.sc (.int .u64 x.2.1))),.c (.d (.sc (.int .i64 x.2.2)))],[])
def j26_5 (minor0:Int) (l1_0:Bool) (l1_1:List (Bs×Bs)) (t12:Bool):Option R26:=
 if t12 = true then
  some ((0:Int),(0:Int),(1:Int))
 else
  (m51 minor0 l1_0 l1_1).bind fun yr4=>
   (m50 yr4.1 yr4.2.1 yr4.2.2.1 yr4.2.2.2).bind fun yr6=>
    some (yr6.1,yr6.2.1,yr6.2.2)
theorem j26_5_t (minor0:Int) (l1_0:Bool) (l1_1:List (Bs×Bs)) (t12:Bool)  (sl:Nat→AV) (zq0:sl 0 = .v (.c (.d (.sc (.int .i64 minor0))))) (zq1:sl 1 = .v (.c (.d (.lst l1_0 (enL enSS l1_1))))) (zq12:sl 12 = .v (.c (.d (.sc (.bool t12))))):
  bodyD (E0 mm) [.tmp 4,.tmp 5,.tmp 6] 0 false (seqD (E0 mm) 26 0 (callW (E0 mm)) itW c26_10 (den (E0 mm) 26 0 (callW (E0 mm)) itW c26_5 none ⟨sl,[]⟩)) = (j26_5 minor0 l1_0 l1_1 t12).map e26:=by
 simp -implicitDefEqProofs only [j26_5,(show c26_5 = Code.cond _ c26_6 c26_9 from rfl),zq0,zq1,zq12,setA,setB,za,zb,zc,zd,ze,zf,zg,zh,zi,zj,zk,zl,zm,zn,zo,zp,reduceCtorEq,zE,↓reduceIte]
 refine brB (fun yc2=>?_) (fun yc2=>?_)
 ·simp -implicitDefEqProofs only [c26_6_e,c26_7_r,(show opsOf c26_7 = _ :: _ from rfl),c26_8_e,zq0,zq1,zq12,yc2,setA,setB,za,zb,zc,zd,ze,zf,zg,zh,zi,zj,zk,zl,zm,zn,zo,zp,reduceCtorEq,zE,↓reduceIte]
  all_goals rfl
 ·simp -implicitDefEqProofs only [c26_9_e,c26_10_e,c26_11_r,(show opsOf c26_11 = _ :: _ from rfl),ent51,prm51,f51_t,zq0,zq1,zq12,yc2,setA,setB,za,zb,zc,zd,ze,zf,zg,zh,zi,zj,zk,zl,zm,zn,zo,zp,reduceCtorEq,zE,↓reduceIte]
  refine brM (fun yc3=>?_) (fun yr4 yc3=>?_)
  ·rw [yc3]; rfl
  ·simp -implicitDefEqProofs only [e51,ent50,prm50,f50_t,zq0,zq1,zq12,yc2,yc3,setA,setB,za,zb,zc,zd,ze,zf,zg,zh,zi,zj,zk,zl,zm,zn,zo,zp,reduceCtorEq,zE,↓reduceIte]
   refine brM (fun yc5=>?_) (fun yr6 yc5=>?_)
   ·rw [yc5]; rfl
   ·simp -implicitDefEqProofs only [e50,c26_12_e,zq0,zq1,zq12,yc2,yc3,yc5,setA,setB,za,zb,zc,zd,ze,zf,zg,zh,zi,zj,zk,zl,zm,zn,zo,zp,reduceCtorEq,zE,↓reduceIte]
    all_goals rfl
def m26 (minor:Int) (l_0:Bool) (l_1:List (Bs×Bs)):Option R26:=
 if (minor == 0) = true then
  j26_5 minor l_0 l_1 false
 else
  j26_5 minor l_0 l_1 (!(minor == 1))
theorem f26_t (minor:Int) (l_0:Bool) (l_1:List (Bs×Bs)):
  callW (E0 mm) 26 [.c (.d (.sc (.int .i64 minor))),.c (.d (.lst l_0 (enL enSS l_1)))] [] = (m26 minor l_0 l_1).map e26:=by
 rw [callW_run (body:=c26_0) (res:=[.tmp 4,.tmp 5,.tmp 6]) Tryz.func26 rfl rfl (by kernel_rfl)]
 simp -implicitDefEqProofs only [m26,slots2,c26_0_e,c26_1_r,(show opsOf c26_1 = _ :: _ from rfl),c26_2_e,c26_3_e,c26_4_r,(show opsOf c26_4 = _ :: _ from rfl),setA,setB,za,zb,zc,zd,ze,zf,zg,zh,zi,zj,zk,zl,zm,zn,zo,zp,reduceCtorEq,zE,↓reduceIte]
 refine brB (fun yc1=>?_) (fun yc1=>?_)
 ·simp -implicitDefEqProofs only [yc1,setA,setB,za,zb,zc,zd,ze,zf,zg,zh,zi,zj,zk,zl,zm,zn,zo,zp,reduceCtorEq,zE,↓reduceIte]
  exact j26_5_t minor l_0 l_1 false _ (by rfl) (by rfl) (by rfl)
 ·simp -implicitDefEqProofs only [yc1,setA,setB,za,zb,zc,zd,ze,zf,zg,zh,zi,zj,zk,zl,zm,zn,zo,zp,reduceCtorEq,zE,↓reduceIte]
  exact j26_5_t minor l_0 l_1 (!(minor == 1)) _ (by rfl) (by rfl) (by rfl)
end
end Go.Proofs.YtoohbnmhjfgclaaGreatDoor
