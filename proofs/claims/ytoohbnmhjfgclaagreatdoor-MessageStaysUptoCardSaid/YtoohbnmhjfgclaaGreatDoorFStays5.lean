/- The Go functions as plain functions, and that the evaluator computes them. -/
import Derived.Test.YtoohbnmhjfgclaaGreatDoorFStays4
set_option linter.all false
set_option maxRecDepth 100000
namespace Go.Proofs.YtoohbnmhjfgclaaGreatDoor
open Go Go.Ab
open Nat renaming reduceEqDiff→za,reduceAdd→zb,reduceLeDiff→zc,reduceLT→zd,reduceMul→ze,reduceBEq→zf,reduceSub→zg,reducePow→zh
open Int renaming reduceEq→zi,reduceLE→zj,reduceLT→zk,reduceToNat→zl,reduceNegSucc→zm,reduceAdd→zn,reduceBEq→zo
open String renaming reduceBEq→zp
set_option maxHeartbeats 4000000
noncomputable section
variable {mm:Int}
noncomputable def c52_0:Code:=bodyOf Tryz.f52
def c52_1:=cA c52_0
def c52_2:=cB c52_0
def c52_3:=cA c52_2
def c52_4:=cA c52_3
def c52_5:=cB c52_3
def c52_6:=cA c52_5
def c52_7:=cA c52_6
def c52_8:=cB c52_6
def c52_9:=cB c52_5
def c52_10:=cB c52_2
def c52_11:=cA c52_10
def c52_12:=cB c52_10
theorem c52_0_e:c52_0 = .seq c52_1 c52_2:=rfl
theorem c52_1_r:RG (E0 mm) 52 c52_1:=rgN rfl
theorem c52_2_e:c52_2 = .seq c52_3 c52_10:=rfl
theorem c52_3_e:c52_3 = .seq c52_4 c52_5:=rfl
theorem c52_4_r:RG (E0 mm) 52 c52_4:=rgN rfl
theorem c52_6_e:c52_6 = .seq c52_7 c52_8:=rfl
theorem c52_7_r:RG (E0 mm) 52 c52_7:=rgN rfl
theorem c52_8_e:c52_8 = .ret:=rfl
theorem c52_9_e:c52_9 = .skip:=rfl
theorem c52_10_e:c52_10 = .seq c52_11 c52_12:=rfl
theorem c52_11_r:RG (E0 mm) 52 c52_11:=rgN rfl
theorem c52_12_e:c52_12 = .ret:=rfl
abbrev R52:=(Bool×List UInt8) ⊕ (Bool×List UInt8)
def e52:R52→AV×Heap:=fun x=>match x with
 | .inl x=>(.v (.c (.d (.lst x.1 (enL enB x.2)))),[])
 | .inr x=>(.v (.c (.own x.1 (enL enB x.2) 0)),[.row x.2.length (rz x.1 1)])
def m52 (b_0:Bool) (b_1:List UInt8):Option R52:=
 if b_0 = true then
  some (.inl (true,([]:List UInt8)))
 else
  if b_1 = []∨(0 + b_1.length) * 1≤140737488355328 then
   some (.inr (false,b_1))
  else none
theorem f52_t (b_0:Bool) (b_1:List UInt8):
  callW (E0 mm) 52 [.c (.d (.lst b_0 (enL enB b_1)))] [] = (m52 b_0 b_1).map e52:=by
 rw [callW_run (body:=c52_0) (res:=[.tmp 2]) Tryz.func52 rfl rfl (by kernel_rfl)]
 simp -implicitDefEqProofs only [m52,slots1,c52_0_e,c52_1_r,(show opsOf c52_1 = _ :: _ from rfl),c52_2_e,c52_3_e,c52_4_r,(show opsOf c52_4 = _ :: _ from rfl),Tryz.underlying22,(nilq_e (P:=Tryz.prog) Tryz.underlying22),(show c52_5 = Code.cond _ c52_6 c52_9 from rfl),setA,setB,za,zb,zc,zd,ze,zf,zg,zh,zi,zj,zk,zl,zm,zn,zo,zp,reduceCtorEq,zE,↓reduceIte]
 refine brB (fun yc1=>?_) (fun yc1=>?_)
 ·simp -implicitDefEqProofs only [c52_6_e,c52_7_r,(show opsOf c52_7 = _ :: _ from rfl),c52_8_e,yc1,setA,setB,za,zb,zc,zd,ze,zf,zg,zh,zi,zj,zk,zl,zm,zn,zo,zp,reduceCtorEq,zE,↓reduceIte]
  all_goals rfl
 ·simp -implicitDefEqProofs only [c52_9_e,c52_10_e,c52_11_r,(show opsOf c52_11 = _ :: _ from rfl),Tryz.underlying22,sz5,zc5,hd40,nv41,rw42,ns3,ap22,yc1,setA,setB,za,zb,zc,zd,ze,zf,zg,zh,zi,zj,zk,zl,zm,zn,zo,zp,reduceCtorEq,zE,↓reduceIte]
  refine brP (fun yc2=>?_) (fun yc2=>?_)
  ·simp -implicitDefEqProofs only [c52_12_e,yc1,yc2,setA,setB,za,zb,zc,zd,ze,zf,zg,zh,zi,zj,zk,zl,zm,zn,zo,zp,reduceCtorEq,zE,↓reduceIte]
   all_goals rfl
  ·rw [if_neg yc2]; rfl
noncomputable def c121_0:Code:=bodyOf Tryz.f121
def c121_1:=cA c121_0
def c121_2:=cB c121_0
def c121_3:=cA c121_2
def c121_4:=cB c121_2
theorem c121_0_e:c121_0 = .seq c121_1 c121_2:=rfl
theorem c121_1_r:RG (E0 mm) 121 c121_1:=rgN rfl
theorem c121_2_e:c121_2 = .seq c121_3 c121_4:=rfl
theorem c121_3_r:RG (E0 mm) 121 c121_3:=rgN rfl
theorem c121_4_e:c121_4 = .ret:=rfl
abbrev R121:=(Bool)
def e121:R121→AV×Heap:=fun x=>(.v (.c (.d (.sc (.bool x)))),[])
def m121 (s suffix:Bs):Option R121:=
 if (decide ((suffix.length:Int)≤(s.length:Int))) = true then
  (bnd (w64 ((s.length:Int) - (suffix.length:Int))) s.length).bind fun yk3=>
   some ((s.drop yk3) == suffix)
 else
  some false
theorem f121_t (s suffix:Bs):
  callW (E0 mm) 121 [.c (.d (.sc (.string (S s)))),.c (.d (.sc (.string (S suffix))))] [] = (m121 s suffix).map e121:=by
 rw [callW_run (body:=c121_0) (res:=[.tmp 4]) Tryz.func121 rfl rfl (by kernel_rfl)]
 simp -implicitDefEqProofs only [m121,slots2,c121_0_e,c121_1_r,(show opsOf c121_1 = _ :: _ from rfl),c121_2_e,c121_3_r,(show opsOf c121_3 = _ :: _ from rfl),Tryz.underlying9,setA,setB,za,zb,zc,zd,ze,zf,zg,zh,zi,zj,zk,zl,zm,zn,zo,zp,reduceCtorEq,zE,↓reduceIte]
 refine brB (fun yc1=>?_) (fun yc1=>?_)
 ·simp -implicitDefEqProofs only [Tryz.underlying9,yc1,setA,setB,za,zb,zc,zd,ze,zf,zg,zh,zi,zj,zk,zl,zm,zn,zo,zp,reduceCtorEq,zE,↓reduceIte]
  refine brM (fun yc2=>?_) (fun yk3 yc2=>?_)
  ·rw [yc2]; rfl
  ·simp -implicitDefEqProofs only [c121_4_e,yc1,yc2,setA,setB,za,zb,zc,zd,ze,zf,zg,zh,zi,zj,zk,zl,zm,zn,zo,zp,reduceCtorEq,zE,↓reduceIte]
   all_goals rfl
 ·simp -implicitDefEqProofs only [c121_4_e,yc1,setA,setB,za,zb,zc,zd,ze,zf,zg,zh,zi,zj,zk,zl,zm,zn,zo,zp,reduceCtorEq,zE,↓reduceIte]
  all_goals rfl
noncomputable def c87_0:Code:=bodyOf Tryz.f87
def c87_1:=cA c87_0
def c87_2:=cB c87_0
def c87_3:=cA c87_2
def c87_4:=cB c87_2
theorem c87_0_e:c87_0 = .seq c87_1 c87_2:=rfl
theorem c87_1_r:RG (E0 mm) 87 c87_1:=rgN rfl
theorem c87_2_e:c87_2 = .seq c87_3 c87_4:=rfl
theorem c87_3_r:RG (E0 mm) 87 c87_3:=rgN rfl
theorem c87_4_e:c87_4 = .ret:=rfl
abbrev R87:=(Bool)
def e87:R87→AV×Heap:=fun x=>(.v (.c (.d (.sc (.bool x)))),[])
def m87 (s suffix:Bs):Option R87:=
 (m121 s suffix).bind fun yr2=>
  some yr2
theorem f87_t (s suffix:Bs):
  callW (E0 mm) 87 [.c (.d (.sc (.string (S s)))),.c (.d (.sc (.string (S suffix))))] [] = (m87 s suffix).map e87:=by
 rw [callW_run (body:=c87_0) (res:=[.tmp 4]) Tryz.func87 rfl rfl (by kernel_rfl)]
 simp -implicitDefEqProofs only [m87,slots2,c87_0_e,c87_1_r,(show opsOf c87_1 = _ :: _ from rfl),c87_2_e,c87_3_r,(show opsOf c87_3 = _ :: _ from rfl),ent121,prm121,f121_t,setA,setB,za,zb,zc,zd,ze,zf,zg,zh,zi,zj,zk,zl,zm,zn,zo,zp,reduceCtorEq,zE,↓reduceIte]
 refine brM (fun yc1=>?_) (fun yr2 yc1=>?_)
 ·rw [yc1]; rfl
 ·simp -implicitDefEqProofs only [e121,c87_4_e,yc1,setA,setB,za,zb,zc,zd,ze,zf,zg,zh,zi,zj,zk,zl,zm,zn,zo,zp,reduceCtorEq,zE,↓reduceIte]
  all_goals rfl
noncomputable def c124_0:Code:=bodyOf Tryz.f124
def c124_1:=cA c124_0
def c124_2:=cB c124_0
def c124_3:=cA c124_2
def c124_4:=cA c124_3
def c124_5:=cB c124_3
def c124_6:=cA c124_5
def c124_7:=cA c124_6
def c124_8:=cB c124_6
def c124_9:=cB c124_5
def c124_10:=cB c124_2
def c124_11:=cA c124_10
def c124_12:=cB c124_10
theorem c124_0_e:c124_0 = .seq c124_1 c124_2:=rfl
theorem c124_1_r:RG (E0 mm) 124 c124_1:=rgN rfl
theorem c124_2_e:c124_2 = .seq c124_3 c124_10:=rfl
theorem c124_3_e:c124_3 = .seq c124_4 c124_5:=rfl
theorem c124_4_r:RG (E0 mm) 124 c124_4:=rgN rfl
theorem c124_6_e:c124_6 = .seq c124_7 c124_8:=rfl
theorem c124_7_r:RG (E0 mm) 124 c124_7:=rgN rfl
theorem c124_8_e:c124_8 = .ret:=rfl
theorem c124_9_e:c124_9 = .skip:=rfl
theorem c124_10_e:c124_10 = .seq c124_11 c124_12:=rfl
theorem c124_11_r:RG (E0 mm) 124 c124_11:=rgN rfl
theorem c124_12_e:c124_12 = .ret:=rfl
abbrev R124:=(Bs)
def e124:R124→AV×Heap:=fun x=>(.v (.c (.d (.sc (.string (S x))))),[])
def m124 (s suffix:Bs):Option R124:=
 (m121 s suffix).bind fun yr2=>
  if yr2 = true then
   (bnd (w64 ((s.length:Int) - (suffix.length:Int))) s.length).bind fun yk5=>
    some (s.take yk5)
  else
   some s
theorem f124_t (s suffix:Bs):
  callW (E0 mm) 124 [.c (.d (.sc (.string (S s)))),.c (.d (.sc (.string (S suffix))))] [] = (m124 s suffix).map e124:=by
 rw [callW_run (body:=c124_0) (res:=[.tmp 4]) Tryz.func124 rfl rfl (by kernel_rfl)]
 simp -implicitDefEqProofs only [m124,slots2,c124_0_e,c124_1_r,(show opsOf c124_1 = _ :: _ from rfl),c124_2_e,c124_3_e,c124_4_r,(show opsOf c124_4 = _ :: _ from rfl),ent121,prm121,f121_t,setA,setB,za,zb,zc,zd,ze,zf,zg,zh,zi,zj,zk,zl,zm,zn,zo,zp,reduceCtorEq,zE,↓reduceIte]
 refine brM (fun yc1=>?_) (fun yr2 yc1=>?_)
 ·rw [yc1]; rfl
 ·simp -implicitDefEqProofs only [e121,(show c124_5 = Code.cond _ c124_6 c124_9 from rfl),yc1,setA,setB,za,zb,zc,zd,ze,zf,zg,zh,zi,zj,zk,zl,zm,zn,zo,zp,reduceCtorEq,zE,↓reduceIte]
  refine brB (fun yc3=>?_) (fun yc3=>?_)
  ·simp -implicitDefEqProofs only [c124_6_e,c124_7_r,(show opsOf c124_7 = _ :: _ from rfl),Tryz.underlying9,yc1,yc3,setA,setB,za,zb,zc,zd,ze,zf,zg,zh,zi,zj,zk,zl,zm,zn,zo,zp,reduceCtorEq,zE,↓reduceIte]
   refine brM (fun yc4=>?_) (fun yk5 yc4=>?_)
   ·rw [yc4]; rfl
   ·simp -implicitDefEqProofs only [c124_8_e,yc1,yc3,yc4,setA,setB,za,zb,zc,zd,ze,zf,zg,zh,zi,zj,zk,zl,zm,zn,zo,zp,reduceCtorEq,zE,↓reduceIte]
    all_goals rfl
  ·simp -implicitDefEqProofs only [c124_9_e,c124_10_e,c124_11_r,(show opsOf c124_11 = _ :: _ from rfl),c124_12_e,yc1,yc3,setA,setB,za,zb,zc,zd,ze,zf,zg,zh,zi,zj,zk,zl,zm,zn,zo,zp,reduceCtorEq,zE,↓reduceIte]
   all_goals rfl
noncomputable def c89_0:Code:=bodyOf Tryz.f89
def c89_1:=cA c89_0
def c89_2:=cB c89_0
def c89_3:=cA c89_2
def c89_4:=cB c89_2
theorem c89_0_e:c89_0 = .seq c89_1 c89_2:=rfl
theorem c89_1_r:RG (E0 mm) 89 c89_1:=rgN rfl
theorem c89_2_e:c89_2 = .seq c89_3 c89_4:=rfl
theorem c89_3_r:RG (E0 mm) 89 c89_3:=rgN rfl
theorem c89_4_e:c89_4 = .ret:=rfl
abbrev R89:=(Bs)
def e89:R89→AV×Heap:=fun x=>(.v (.c (.d (.sc (.string (S x))))),[])
def m89 (s suffix:Bs):Option R89:=
 (m124 s suffix).bind fun yr2=>
  some yr2
theorem f89_t (s suffix:Bs):
  callW (E0 mm) 89 [.c (.d (.sc (.string (S s)))),.c (.d (.sc (.string (S suffix))))] [] = (m89 s suffix).map e89:=by
 rw [callW_run (body:=c89_0) (res:=[.tmp 4]) Tryz.func89 rfl rfl (by kernel_rfl)]
 simp -implicitDefEqProofs only [m89,slots2,c89_0_e,c89_1_r,(show opsOf c89_1 = _ :: _ from rfl),c89_2_e,c89_3_r,(show opsOf c89_3 = _ :: _ from rfl),ent124,prm124,f124_t,setA,setB,za,zb,zc,zd,ze,zf,zg,zh,zi,zj,zk,zl,zm,zn,zo,zp,reduceCtorEq,zE,↓reduceIte]
 refine brM (fun yc1=>?_) (fun yr2 yc1=>?_)
 ·rw [yc1]; rfl
 ·simp -implicitDefEqProofs only [e124,c89_4_e,yc1,setA,setB,za,zb,zc,zd,ze,zf,zg,zh,zi,zj,zk,zl,zm,zn,zo,zp,reduceCtorEq,zE,↓reduceIte]
  all_goals rfl
noncomputable def c154_0:Code:=bodyOf Tryz.f154
def c154_1:=cA c154_0
def c154_2:=cB c154_0
def c154_3:=cA c154_2
def c154_4:=cA c154_3
def c154_5:=cB c154_3
def c154_6:=cA c154_5
def c154_7:=cB c154_5
def c154_8:=cA c154_7
def c154_9:=cA c154_8
def c154_10:=cB c154_8
def c154_11:=cB c154_7
def c154_12:=cB c154_2
def c154_13:=cA c154_12
def c154_14:=cB c154_12
theorem c154_0_e:c154_0 = .seq c154_1 c154_2:=rfl
theorem c154_1_r:RG (E0 mm) 154 c154_1:=rgN rfl
theorem c154_2_e:c154_2 = .seq c154_3 c154_12:=rfl
theorem c154_3_e:c154_3 = .seq c154_4 c154_5:=rfl
theorem c154_4_r:RG (E0 mm) 154 c154_4:=rgN rfl
theorem c154_5_e:c154_5 = .seq c154_6 c154_7:=rfl
theorem c154_6_r:RG (E0 mm) 154 c154_6:=rgN rfl
theorem c154_8_e:c154_8 = .seq c154_9 c154_10:=rfl
theorem c154_9_r:RG (E0 mm) 154 c154_9:=rgD (by kernel_rfl)
theorem c154_10_e:c154_10 = .ret:=rfl
theorem c154_11_e:c154_11 = .skip:=rfl
theorem c154_12_e:c154_12 = .seq c154_13 c154_14:=rfl
theorem c154_13_r:RG (E0 mm) 154 c154_13:=rgN rfl
theorem c154_14_e:c154_14 = .ret:=rfl
abbrev R154:=(Bs×Bs×Bool)
def e154:R154→AV×Heap:=fun x=>(.tup [.c (.d (.sc (.string (S x.1)))),.c (.d (.sc (.string (S x.2.1)))),.c (.d (.sc (.bool x.2.2)))],[])
def m154 (s sep:Bs):Option R154:=
 (mIx s sep).bind fun yr2=>
  if (decide (0≤yr2)) = true then
   (bnd yr2 s.length).bind fun yk5=>
    (bnd (w64 (yr2 + (sep.length:Int))) s.length).bind fun yk7=>
     some ((s.take yk5),(s.drop yk7),true)
  else
   some (s,([]:Bs),false)
theorem f154_t (s sep:Bs):
  callW (E0 mm) 154 [.c (.d (.sc (.string (S s)))),.c (.d (.sc (.string (S sep))))] [] = (m154 s sep).map e154:=by
 rw [callW_run (body:=c154_0) (res:=[.tmp 4,.tmp 5,.tmp 6]) Tryz.func154 rfl rfl (by kernel_rfl)]
 simp -implicitDefEqProofs only [m154,slots2,c154_0_e,c154_1_r,(show opsOf c154_1 = _ :: _ from rfl),c154_2_e,c154_3_e,c154_4_r,(show opsOf c154_4 = _ :: _ from rfl),ent150,prm150,pIndex_t,setA,setB,za,zb,zc,zd,ze,zf,zg,zh,zi,zj,zk,zl,zm,zn,zo,zp,reduceCtorEq,zE,↓reduceIte]
 refine brM (fun yc1=>?_) (fun yr2 yc1=>?_)
 ·rw [yc1]; rfl
 ·simp -implicitDefEqProofs only [pIndex_t,c154_5_e,c154_6_r,(show opsOf c154_6 = _ :: _ from rfl),(show c154_7 = Code.cond _ c154_8 c154_11 from rfl),yc1,setA,setB,za,zb,zc,zd,ze,zf,zg,zh,zi,zj,zk,zl,zm,zn,zo,zp,reduceCtorEq,zE,↓reduceIte]
  refine brB (fun yc3=>?_) (fun yc3=>?_)
  ·simp -implicitDefEqProofs only [c154_8_e,c154_9_r,(show opsOf c154_9 = _ :: _ from rfl),Tryz.underlying9,yc1,yc3,setA,setB,za,zb,zc,zd,ze,zf,zg,zh,zi,zj,zk,zl,zm,zn,zo,zp,reduceCtorEq,zE,↓reduceIte]
   refine brM (fun yc4=>?_) (fun yk5 yc4=>?_)
   ·rw [yc4]; rfl
   ·simp -implicitDefEqProofs only [Tryz.underlying9,yc1,yc3,yc4,setA,setB,za,zb,zc,zd,ze,zf,zg,zh,zi,zj,zk,zl,zm,zn,zo,zp,reduceCtorEq,zE,↓reduceIte]
    refine brM (fun yc6=>?_) (fun yk7 yc6=>?_)
    ·rw [yc6]; rfl
    ·simp -implicitDefEqProofs only [c154_10_e,yc1,yc3,yc4,yc6,setA,setB,za,zb,zc,zd,ze,zf,zg,zh,zi,zj,zk,zl,zm,zn,zo,zp,reduceCtorEq,zE,↓reduceIte]
     all_goals rfl
  ·simp -implicitDefEqProofs only [c154_11_e,c154_12_e,c154_13_r,(show opsOf c154_13 = _ :: _ from rfl),c154_14_e,yc1,yc3,setA,setB,za,zb,zc,zd,ze,zf,zg,zh,zi,zj,zk,zl,zm,zn,zo,zp,reduceCtorEq,zE,↓reduceIte]
   all_goals rfl
noncomputable def c122_0:Code:=bodyOf Tryz.f122
def c122_1:=cA c122_0
def c122_2:=cB c122_0
def c122_3:=cA c122_2
def c122_4:=cB c122_2
theorem c122_0_e:c122_0 = .seq c122_1 c122_2:=rfl
theorem c122_1_r:RG (E0 mm) 122 c122_1:=rgN rfl
theorem c122_2_e:c122_2 = .seq c122_3 c122_4:=rfl
theorem c122_3_r:RG (E0 mm) 122 c122_3:=rgN rfl
theorem c122_4_e:c122_4 = .ret:=rfl
abbrev R122:=(Bs×Bs×Bool)
def e122:R122→AV×Heap:=fun x=>(.tup [.c (.d (.sc (.string (S x.1)))),.c (.d (.sc (.string (S x.2.1)))),.c (.d (.sc (.bool x.2.2)))],[])
def m122 (s sep:Bs):Option R122:=
 (m154 s sep).bind fun yr2=>
  some (yr2.1,yr2.2.1,yr2.2.2)
theorem f122_t (s sep:Bs):
  callW (E0 mm) 122 [.c (.d (.sc (.string (S s)))),.c (.d (.sc (.string (S sep))))] [] = (m122 s sep).map e122:=by
 rw [callW_run (body:=c122_0) (res:=[.tmp 4,.tmp 5,.tmp 6]) Tryz.func122 rfl rfl (by kernel_rfl)]
 simp -implicitDefEqProofs only [m122,slots2,c122_0_e,c122_1_r,(show opsOf c122_1 = _ :: _ from rfl),c122_2_e,c122_3_r,(show opsOf c122_3 = _ :: _ from rfl),ent154,prm154,f154_t,setA,setB,za,zb,zc,zd,ze,zf,zg,zh,zi,zj,zk,zl,zm,zn,zo,zp,reduceCtorEq,zE,↓reduceIte]
 refine brM (fun yc1=>?_) (fun yr2 yc1=>?_)
 ·rw [yc1]; rfl
 ·simp -implicitDefEqProofs only [e154,c122_4_e,yc1,setA,setB,za,zb,zc,zd,ze,zf,zg,zh,zi,zj,zk,zl,zm,zn,zo,zp,reduceCtorEq,zE,↓reduceIte]
  all_goals rfl
noncomputable def c155_0:Code:=bodyOf Tryz.f155
def c155_1:=cA c155_0
def c155_2:=cB c155_0
def c155_3:=cA c155_2
def c155_4:=cA c155_3
def c155_5:=cA c155_4
def c155_6:=cB c155_4
def c155_7:=cA c155_6
def c155_8:=cA c155_7
def c155_9:=cB c155_7
def c155_10:=cB c155_6
def c155_11:=cA c155_10
def c155_12:=cB c155_10
def c155_13:=cA c155_12
def c155_14:=cA c155_13
def c155_15:=cB c155_13
def c155_16:=cB c155_12
def c155_17:=cA c155_16
def c155_18:=cB c155_16
def c155_19:=cA c155_18
def c155_20:=cA c155_19
def c155_21:=cB c155_19
def c155_22:=cB c155_18
def c155_23:=cB c155_2
def c155_24:=cA c155_23
def c155_25:=cB c155_23
theorem c155_0_e:c155_0 = .seq c155_1 c155_2:=rfl
theorem c155_1_r:RG (E0 mm) 155 c155_1:=rgN rfl
theorem c155_2_e:c155_2 = .seq c155_3 c155_23:=rfl
theorem c155_3_e:c155_3 = .block 0 c155_4:=rfl
theorem c155_4_e:c155_4 = .seq c155_5 c155_6:=rfl
theorem c155_5_r:RG (E0 mm) 155 c155_5:=rgN rfl
theorem c155_7_e:c155_7 = .seq c155_8 c155_9:=rfl
theorem c155_8_r:RG (E0 mm) 155 c155_8:=rgN rfl
theorem c155_9_e:c155_9 = .ret:=rfl
theorem c155_10_e:c155_10 = .seq c155_11 c155_12:=rfl
theorem c155_11_r:RG (E0 mm) 155 c155_11:=rgN rfl
theorem c155_13_e:c155_13 = .seq c155_14 c155_15:=rfl
theorem c155_14_r:RG (E0 mm) 155 c155_14:=rgN rfl
theorem c155_15_e:c155_15 = .ret:=rfl
theorem c155_16_e:c155_16 = .seq c155_17 c155_18:=rfl
theorem c155_17_r:RG (E0 mm) 155 c155_17:=rgN rfl
theorem c155_19_e:c155_19 = .seq c155_20 c155_21:=rfl
theorem c155_20_r:RG (E0 mm) 155 c155_20:=rgN rfl
theorem c155_21_e:c155_21 = .ret:=rfl
theorem c155_22_e:c155_22 = .skip:=rfl
theorem c155_23_e:c155_23 = .seq c155_24 c155_25:=rfl
theorem c155_24_r:RG (E0 mm) 155 c155_24:=rgN rfl
theorem c155_25_e:c155_25 = .ret:=rfl
abbrev R155:=(Int)
def e155:R155→AV×Heap:=fun x=>(.v (.c (.d (.sc (.int .i64 x)))),[])
def j155_18 (c0:Int) (t24:Bool):Option R155:=
 if t24 = true then
  some (w64 ((w64 (w32 (c0 - 65))) + 10))
 else
  some (-1:Int)
theorem j155_18_t (c0:Int) (t24:Bool)  (sl:Nat→AV) (zq0:sl 0 = .v (.c (.d (.sc (.int .i32 c0))))) (zq24:sl 24 = .v (.c (.d (.sc (.bool t24))))):
  bodyD (E0 mm) [.tmp 2] 0 false (seqD (E0 mm) 155 0 (callW (E0 mm)) itW c155_23 (blockD 0 (den (E0 mm) 155 0 (callW (E0 mm)) itW c155_18 none ⟨sl,[]⟩))) = (j155_18 c0 t24).map e155:=by
 simp -implicitDefEqProofs only [j155_18,(show c155_18 = Code.cond _ c155_19 c155_22 from rfl),zq0,zq24,setA,setB,za,zb,zc,zd,ze,zf,zg,zh,zi,zj,zk,zl,zm,zn,zo,zp,reduceCtorEq,zE,↓reduceIte]
 refine brB (fun yc6=>?_) (fun yc6=>?_)
 ·simp -implicitDefEqProofs only [c155_19_e,c155_20_r,(show opsOf c155_20 = _ :: _ from rfl),Tryz.underlying21,Tryz.underlying3,c155_21_e,zq0,zq24,yc6,setA,setB,za,zb,zc,zd,ze,zf,zg,zh,zi,zj,zk,zl,zm,zn,zo,zp,reduceCtorEq,zE,↓reduceIte]
  all_goals rfl
 ·simp -implicitDefEqProofs only [c155_22_e,c155_23_e,c155_24_r,(show opsOf c155_24 = _ :: _ from rfl),c155_25_e,zq0,zq24,yc6,setA,setB,za,zb,zc,zd,ze,zf,zg,zh,zi,zj,zk,zl,zm,zn,zo,zp,reduceCtorEq,zE,↓reduceIte]
  all_goals rfl
def j155_12 (c0:Int) (t13:Bool):Option R155:=
 if t13 = true then
  some (w64 ((w64 (w32 (c0 - 97))) + 10))
 else
  if (decide (65≤c0)) = true then
   j155_18 c0 (decide (c0≤70))
  else
   j155_18 c0 false
theorem j155_12_t (c0:Int) (t13:Bool)  (sl:Nat→AV) (zq0:sl 0 = .v (.c (.d (.sc (.int .i32 c0))))) (zq13:sl 13 = .v (.c (.d (.sc (.bool t13))))):
  bodyD (E0 mm) [.tmp 2] 0 false (seqD (E0 mm) 155 0 (callW (E0 mm)) itW c155_23 (blockD 0 (den (E0 mm) 155 0 (callW (E0 mm)) itW c155_12 none ⟨sl,[]⟩))) = (j155_12 c0 t13).map e155:=by
 simp -implicitDefEqProofs only [j155_12,(show c155_12 = Code.cond _ c155_13 c155_16 from rfl),zq0,zq13,setA,setB,za,zb,zc,zd,ze,zf,zg,zh,zi,zj,zk,zl,zm,zn,zo,zp,reduceCtorEq,zE,↓reduceIte]
 refine brB (fun yc4=>?_) (fun yc4=>?_)
 ·simp -implicitDefEqProofs only [c155_13_e,c155_14_r,(show opsOf c155_14 = _ :: _ from rfl),Tryz.underlying21,Tryz.underlying3,c155_15_e,zq0,zq13,yc4,setA,setB,za,zb,zc,zd,ze,zf,zg,zh,zi,zj,zk,zl,zm,zn,zo,zp,reduceCtorEq,zE,↓reduceIte]
  all_goals rfl
 ·simp -implicitDefEqProofs only [c155_16_e,c155_17_r,(show opsOf c155_17 = _ :: _ from rfl),zq0,zq13,yc4,setA,setB,za,zb,zc,zd,ze,zf,zg,zh,zi,zj,zk,zl,zm,zn,zo,zp,reduceCtorEq,zE,↓reduceIte]
  refine brB (fun yc5=>?_) (fun yc5=>?_)
  ·simp -implicitDefEqProofs only [zq0,zq13,yc4,yc5,setA,setB,za,zb,zc,zd,ze,zf,zg,zh,zi,zj,zk,zl,zm,zn,zo,zp,reduceCtorEq,zE,↓reduceIte]
   exact j155_18_t c0 (decide (c0≤70)) _ (by exact zq0) (by rfl)
  ·simp -implicitDefEqProofs only [zq0,zq13,yc4,yc5,setA,setB,za,zb,zc,zd,ze,zf,zg,zh,zi,zj,zk,zl,zm,zn,zo,zp,reduceCtorEq,zE,↓reduceIte]
   exact j155_18_t c0 false _ (by exact zq0) (by rfl)
def j155_6 (c0:Int) (t3:Bool):Option R155:=
 if t3 = true then
  some (w64 (w32 (c0 - 48)))
 else
  if (decide (97≤c0)) = true then
   j155_12 c0 (decide (c0≤102))
  else
   j155_12 c0 false
theorem j155_6_t (c0:Int) (t3:Bool)  (sl:Nat→AV) (zq0:sl 0 = .v (.c (.d (.sc (.int .i32 c0))))) (zq3:sl 3 = .v (.c (.d (.sc (.bool t3))))):
  bodyD (E0 mm) [.tmp 2] 0 false (seqD (E0 mm) 155 0 (callW (E0 mm)) itW c155_23 (blockD 0 (den (E0 mm) 155 0 (callW (E0 mm)) itW c155_6 none ⟨sl,[]⟩))) = (j155_6 c0 t3).map e155:=by
 simp -implicitDefEqProofs only [j155_6,(show c155_6 = Code.cond _ c155_7 c155_10 from rfl),zq0,zq3,setA,setB,za,zb,zc,zd,ze,zf,zg,zh,zi,zj,zk,zl,zm,zn,zo,zp,reduceCtorEq,zE,↓reduceIte]
 refine brB (fun yc2=>?_) (fun yc2=>?_)
 ·simp -implicitDefEqProofs only [c155_7_e,c155_8_r,(show opsOf c155_8 = _ :: _ from rfl),Tryz.underlying21,Tryz.underlying3,c155_9_e,zq0,zq3,yc2,setA,setB,za,zb,zc,zd,ze,zf,zg,zh,zi,zj,zk,zl,zm,zn,zo,zp,reduceCtorEq,zE,↓reduceIte]
  all_goals rfl
 ·simp -implicitDefEqProofs only [c155_10_e,c155_11_r,(show opsOf c155_11 = _ :: _ from rfl),zq0,zq3,yc2,setA,setB,za,zb,zc,zd,ze,zf,zg,zh,zi,zj,zk,zl,zm,zn,zo,zp,reduceCtorEq,zE,↓reduceIte]
  refine brB (fun yc3=>?_) (fun yc3=>?_)
  ·simp -implicitDefEqProofs only [zq0,zq3,yc2,yc3,setA,setB,za,zb,zc,zd,ze,zf,zg,zh,zi,zj,zk,zl,zm,zn,zo,zp,reduceCtorEq,zE,↓reduceIte]
   exact j155_12_t c0 (decide (c0≤102)) _ (by exact zq0) (by rfl)
  ·simp -implicitDefEqProofs only [zq0,zq3,yc2,yc3,setA,setB,za,zb,zc,zd,ze,zf,zg,zh,zi,zj,zk,zl,zm,zn,zo,zp,reduceCtorEq,zE,↓reduceIte]
   exact j155_12_t c0 false _ (by exact zq0) (by rfl)
def m155 (c:Int):Option R155:=
 if (decide (48≤c)) = true then
  j155_6 c (decide (c≤57))
 else
  j155_6 c false
theorem f155_t (c:Int):
  callW (E0 mm) 155 [.c (.d (.sc (.int .i32 c)))] [] = (m155 c).map e155:=by
 rw [callW_run (body:=c155_0) (res:=[.tmp 2]) Tryz.func155 rfl rfl (by kernel_rfl)]
 simp -implicitDefEqProofs only [m155,slots1,c155_0_e,c155_1_r,(show opsOf c155_1 = _ :: _ from rfl),c155_2_e,c155_3_e,c155_4_e,c155_5_r,(show opsOf c155_5 = _ :: _ from rfl),setA,setB,za,zb,zc,zd,ze,zf,zg,zh,zi,zj,zk,zl,zm,zn,zo,zp,reduceCtorEq,zE,↓reduceIte]
 refine brB (fun yc1=>?_) (fun yc1=>?_)
 ·simp -implicitDefEqProofs only [yc1,setA,setB,za,zb,zc,zd,ze,zf,zg,zh,zi,zj,zk,zl,zm,zn,zo,zp,reduceCtorEq,zE,↓reduceIte]
  exact j155_6_t c (decide (c≤57)) _ (by rfl) (by rfl)
 ·simp -implicitDefEqProofs only [yc1,setA,setB,za,zb,zc,zd,ze,zf,zg,zh,zi,zj,zk,zl,zm,zn,zo,zp,reduceCtorEq,zE,↓reduceIte]
  exact j155_6_t c false _ (by rfl) (by rfl)
abbrev R152a:=(Int×Int)
def e152a:R152a→AV×Heap:=fun x=>(.tup [.c (.d (.sc (.int .u64 x.1))),.c (.d (.sc (.int .i64 x.2)))],[])
def K152a_16:Option (Ex×St)→Option (AV×Heap):=fun r=>bodyD (E0 mm) [.tmp 6,.tmp 7] 0 false (seqD (E0 mm) 152 0 (callW (E0 mm)) itW c152_45 (blockD 0 (r)))
def en152a_16:(Int×Int×Bool×Bs×Nat)→X:=fun x=>(none,[.v (.c (.d (.sc (.int .u64 x.1)))),.v (.c (.d (.sc (.func (.func 155) #[] #[])))),.v (.c (.d (.sc (.int .u64 x.2.1)))),.v (.c (.d (.sc (.bool x.2.2.1)))),.v (.c (.it 0))],[.siter (S x.2.2.2.1) x.2.2.2.2])
def j152a_39 (base1 n8:Int) (long9:Bool) (d12:Int) (t34:Bool) (s0:Bs) (p0:Nat):Option ((Int×Int×Bool×Bs×Nat) ⊕ R152a):=
 if t34 = true then
  some (.inl (base1,n8,true,s0,p0))
 else
  some (.inl (base1,(wu64 ((wu64 (n8 * base1)) + (wu64 d12))),long9,s0,p0))
theorem j152a_39_t (base1 n8:Int) (long9:Bool) (d12:Int) (t34:Bool) (s0:Bs) (p0:Nat)  (sl:Nat→AV) (zq1:sl 1 = .v (.c (.d (.sc (.int .u64 base1))))) (zq2:sl 2 = .v (.c (.d (.sc (.func (.func 155) #[] #[]))))) (zq8:sl 8 = .v (.c (.d (.sc (.int .u64 n8))))) (zq9:sl 9 = .v (.c (.d (.sc (.bool long9))))) (zq12:sl 12 = .v (.c (.d (.sc (.int .i64 d12))))) (zq16:sl 16 = .v (.c (.it 0))) (zq34:sl 34 = .v (.c (.d (.sc (.bool t34))))):
  stepE (K152a_16 (mm:=mm)) (loopK 0 [(1,.keep),(2,.keep),(8,.keep),(9,.keep),(16,.keep)] (blockD 1 (seqD (E0 mm) 152 0 (callW (E0 mm)) itW c152_44 (den (E0 mm) 152 0 (callW (E0 mm)) itW c152_39 none ⟨sl,[.siter (S s0) p0]⟩)))) = (j152a_39 base1 n8 long9 d12 t34 s0 p0).map (sm en152a_16 e152a):=by
 simp -implicitDefEqProofs only [j152a_39,(show c152_39 = Code.cond _ c152_40 c152_43 from rfl),zq1,zq2,zq8,zq9,zq12,zq16,zq34,setA,setB,za,zb,zc,zd,ze,zf,zg,zh,zi,zj,zk,zl,zm,zn,zo,zp,reduceCtorEq,zE,↓reduceIte]
 refine brB (fun yc8=>?_) (fun yc8=>?_)
 ·simp -implicitDefEqProofs only [c152_40_e,c152_41_r,(show opsOf c152_41 = _ :: _ from rfl),c152_42_e,zq1,zq2,zq8,zq9,zq12,zq16,zq34,yc8,setA,setB,za,zb,zc,zd,ze,zf,zg,zh,zi,zj,zk,zl,zm,zn,zo,zp,reduceCtorEq,zE,↓reduceIte]
  all_goals rfl
 ·simp -implicitDefEqProofs only [c152_43_e,c152_44_r,(show opsOf c152_44 = _ :: _ from rfl),Tryz.underlying3,Tryz.underlying64,zq1,zq2,zq8,zq9,zq12,zq16,zq34,yc8,setA,setB,za,zb,zc,zd,ze,zf,zg,zh,zi,zj,zk,zl,zm,zn,zo,zp,reduceCtorEq,zE,↓reduceIte]
  all_goals rfl
def j152a_45 (n8:Int) (long9:Bool):Option R152a:=
 if long9 = true then
  some ((0:Int),(3:Int))
 else
  some (n8,(0:Int))
theorem j152a_45_t (n8:Int) (long9:Bool) (g0:Ob) (sl:Nat→AV) (zq8:sl 8 = .v (.c (.d (.sc (.int .u64 n8))))) (zq9:sl 9 = .v (.c (.d (.sc (.bool long9))))):
  bodyD (E0 mm) [.tmp 6,.tmp 7] 0 false (den (E0 mm) 152 0 (callW (E0 mm)) itW c152_45 none ⟨sl,[g0]⟩) = (j152a_45 n8 long9).map e152a:=by
 simp -implicitDefEqProofs only [j152a_45,c152_45_e,c152_46_e,c152_47_r,(show opsOf c152_47 = _ :: _ from rfl),(show c152_48 = Code.cond _ c152_49 c152_52 from rfl),zq8,zq9,setA,setB,za,zb,zc,zd,ze,zf,zg,zh,zi,zj,zk,zl,zm,zn,zo,zp,reduceCtorEq,zE,↓reduceIte]
 refine brB (fun yc10=>?_) (fun yc10=>?_)
 ·simp -implicitDefEqProofs only [c152_49_e,c152_50_r,(show opsOf c152_50 = _ :: _ from rfl),c152_51_e,zq8,zq9,yc10,setA,setB,za,zb,zc,zd,ze,zf,zg,zh,zi,zj,zk,zl,zm,zn,zo,zp,reduceCtorEq,zE,↓reduceIte]
  all_goals rfl
 ·simp -implicitDefEqProofs only [c152_52_e,c152_53_e,c152_54_r,(show opsOf c152_54 = _ :: _ from rfl),c152_55_e,zq8,zq9,yc10,setA,setB,za,zb,zc,zd,ze,zf,zg,zh,zi,zj,zk,zl,zm,zn,zo,zp,reduceCtorEq,zE,↓reduceIte]
  all_goals rfl
def s152a_16 (base1 n8:Int) (long9:Bool) (s0:Bs) (p0:Nat):Option ((Int×Int×Bool×Bs×Nat) ⊕ R152a):=
 if (decide (p0 < s0.length)) = true then
  (m155 (uc s0 p0:Int)).bind fun yr5=>
   if (decide (yr5 < 0)) = true then
    some (.inr ((0:Int),(5:Int)))
   else
    if long9 = true then
     j152a_39 base1 n8 true yr5 true s0 (p0 + uw s0 p0)
    else
     if (base1 == 0) = false then
      j152a_39 base1 n8 false yr5 (decide ((wu64 ((wu64 (9007199254740991 - (wu64 yr5))).tdiv base1)) < n8)) s0 (p0 + uw s0 p0)
     else none
 else
  (j152a_45 n8 long9).map .inr
theorem s152a_16_t (base1 n8:Int) (long9:Bool) (s0:Bs) (p0:Nat):
  stepE (K152a_16 (mm:=mm)) (loopF (E0 mm) 152 0 (callW (E0 mm)) itW c152_17 [(1,.keep),(2,.keep),(8,.keep),(9,.keep),(16,.keep)] (none,[.v (.c (.d (.sc (.int .u64 base1)))),.v (.c (.d (.sc (.func (.func 155) #[] #[])))),.v (.c (.d (.sc (.int .u64 n8)))),.v (.c (.d (.sc (.bool long9)))),.v (.c (.it 0))],[.siter (S s0) p0])) = (s152a_16 base1 n8 long9 s0 p0).map (sm en152a_16 e152a):=by
 simp -implicitDefEqProofs only [s152a_16,loopF_eq,c152_17_e,c152_18_r,(show opsOf c152_18 = _ :: _ from rfl),dec_eq,setA,setB,za,zb,zc,zd,ze,zf,zg,zh,zi,zj,zk,zl,zm,zn,zo,zp,reduceCtorEq,zE,↓reduceIte]
 refine brB (fun yc2=>?_) (fun yc2=>?_)
 ·have yd3:=of_decide_eq_true yc2
  simp -implicitDefEqProofs only [c152_19_e,(show c152_20 = Code.cond _ c152_21 c152_22 from rfl),c152_21_e,c152_23_e,c152_24_e,c152_25_r,(show opsOf c152_25 = _ :: _ from rfl),c152_26_e,c152_27_r,(show opsOf c152_27 = _ :: _ from rfl),ent155,prm155,f155_t,yd3,setA,setB,za,zb,zc,zd,ze,zf,zg,zh,zi,zj,zk,zl,zm,zn,zo,zp,reduceCtorEq,zE,↓reduceIte]
  refine brM (fun yc4=>?_) (fun yr5 yc4=>?_)
  ·rw [yc4]; rfl
  ·simp -implicitDefEqProofs only [e155,c152_28_e,c152_29_e,c152_30_r,(show opsOf c152_30 = _ :: _ from rfl),(show c152_31 = Code.cond _ c152_32 c152_35 from rfl),yd3,yc4,setA,setB,za,zb,zc,zd,ze,zf,zg,zh,zi,zj,zk,zl,zm,zn,zo,zp,reduceCtorEq,zE,↓reduceIte]
   refine brB (fun yc6=>?_) (fun yc6=>?_)
   ·simp -implicitDefEqProofs only [c152_32_e,c152_33_r,(show opsOf c152_33 = _ :: _ from rfl),c152_34_e,K152a_16,yd3,yc4,yc6,setA,setB,za,zb,zc,zd,ze,zf,zg,zh,zi,zj,zk,zl,zm,zn,zo,zp,reduceCtorEq,zE,↓reduceIte]
    all_goals rfl
   ·simp -implicitDefEqProofs only [c152_35_e,c152_36_e,c152_37_e,c152_38_r,(show opsOf c152_38 = _ :: _ from rfl),yd3,yc4,yc6,setA,setB,za,zb,zc,zd,ze,zf,zg,zh,zi,zj,zk,zl,zm,zn,zo,zp,reduceCtorEq,zE,↓reduceIte]
    refine brB (fun yc7=>?_) (fun yc7=>?_)
    ·simp -implicitDefEqProofs only [yd3,yc4,yc6,yc7,setA,setB,za,zb,zc,zd,ze,zf,zg,zh,zi,zj,zk,zl,zm,zn,zo,zp,reduceCtorEq,zE,↓reduceIte]
     exact j152a_39_t base1 n8 true yr5 true s0 (p0 + uw s0 p0) _ (by rfl) (by rfl) (by rfl) (by rfl) (by rfl) (by rfl) (by rfl)
    ·simp -implicitDefEqProofs only [Tryz.underlying3,Tryz.underlying64,ev_quo0,yd3,yc4,yc6,yc7,setA,setB,za,zb,zc,zd,ze,zf,zg,zh,zi,zj,zk,zl,zm,zn,zo,zp,reduceCtorEq,zE,↓reduceIte]
     refine brP (fun yc9=>?_) (fun yc9=>?_)
     ·simp -implicitDefEqProofs only [yd3,yc4,yc6,yc7,yc9,setA,setB,za,zb,zc,zd,ze,zf,zg,zh,zi,zj,zk,zl,zm,zn,zo,zp,reduceCtorEq,zE,↓reduceIte]
      exact j152a_39_t base1 n8 false yr5 (decide ((wu64 ((wu64 (9007199254740991 - (wu64 yr5))).tdiv base1)) < n8)) s0 (p0 + uw s0 p0) _ (by rfl) (by rfl) (by rfl) (by rfl) (by rfl) (by rfl) (by rfl)
     ·rw [if_neg yc9]; rfl
 ·have yd3:=of_decide_eq_false yc2
  simp -implicitDefEqProofs only [c152_19_e,(show c152_20 = Code.cond _ c152_21 c152_22 from rfl),c152_22_e,K152a_16,yd3,setA,setB,za,zb,zc,zd,ze,zf,zg,zh,zi,zj,zk,zl,zm,zn,zo,zp,reduceCtorEq,zE,↓reduceIte]
  exact mi (j152a_45_t n8 long9 _ _ (by rfl) (by rfl))
def l152a_16 (base1 n8:Int) (long9:Bool) (s0:Bs) (p0:Nat):Option R152a:=iter (fun x:(Int×Int×Bool×Bs×Nat)=>s152a_16 x.1 x.2.1 x.2.2.1 x.2.2.2.1 x.2.2.2.2) (base1,n8,long9,s0,p0)
theorem l152a_16_t (base1 n8:Int) (long9:Bool) (s0:Bs) (p0:Nat):bodyD (E0 mm) [.tmp 6,.tmp 7] 0 false (seqD (E0 mm) 152 0 (callW (E0 mm)) itW c152_45 (blockD 0 (itW (loopF (E0 mm) 152 0 (callW (E0 mm)) itW c152_17 [(1,.keep),(2,.keep),(8,.keep),(9,.keep),(16,.keep)]) (none,[.v (.c (.d (.sc (.int .u64 base1)))),.v (.c (.d (.sc (.func (.func 155) #[] #[])))),.v (.c (.d (.sc (.int .u64 n8)))),.v (.c (.d (.sc (.bool long9)))),.v (.c (.it 0))],[.siter (S s0) p0])))) = (l152a_16 base1 n8 long9 s0 p0).map e152a:=
 it_sim (K:=(K152a_16 (mm:=mm))) rfl (enc:=en152a_16) (fun x=>s152a_16_t x.1 x.2.1 x.2.2.1 x.2.2.2.1 x.2.2.2.2) (base1,n8,long9,s0,p0)
def m152a (s:Bs) (base:Int):Option R152a:=
 if (s == ([]:Bs)) = true then
  some ((0:Int),(5:Int))
 else
  l152a_16 base (0:Int) false s 0
theorem f152a_t (s:Bs) (base:Int):
  callW (E0 mm) 152 [.c (.d (.sc (.string (S s)))),.c (.d (.sc (.int .u64 base))),.c (.d (.sc (.func (.func 155) #[] #[])))] [] = (m152a s base).map e152a:=by
 rw [callW_run (body:=c152_0) (res:=[.tmp 6,.tmp 7]) Tryz.func152 rfl rfl (by kernel_rfl)]
 simp -implicitDefEqProofs only [m152a,slots3,c152_0_e,c152_1_r,(show opsOf c152_1 = _ :: _ from rfl),c152_2_e,c152_3_e,c152_4_r,(show opsOf c152_4 = _ :: _ from rfl),(show c152_5 = Code.cond _ c152_6 c152_9 from rfl),setA,setB,za,zb,zc,zd,ze,zf,zg,zh,zi,zj,zk,zl,zm,zn,zo,zp,reduceCtorEq,zE,↓reduceIte]
 refine brB (fun yc1=>?_) (fun yc1=>?_)
 ·simp -implicitDefEqProofs only [c152_6_e,c152_7_r,(show opsOf c152_7 = _ :: _ from rfl),c152_8_e,yc1,setA,setB,za,zb,zc,zd,ze,zf,zg,zh,zi,zj,zk,zl,zm,zn,zo,zp,reduceCtorEq,zE,↓reduceIte]
  all_goals rfl
 ·simp -implicitDefEqProofs only [c152_9_e,c152_10_e,c152_11_r,(show opsOf c152_11 = _ :: _ from rfl),c152_12_e,c152_13_e,c152_14_r,(show opsOf c152_14 = _ :: _ from rfl),Tryz.underlying9,c152_15_e,c152_16_l,yc1,setA,setB,za,zb,zc,zd,ze,zf,zg,zh,zi,zj,zk,zl,zm,zn,zo,zp,reduceCtorEq,zE,↓reduceIte]
  exact l152a_16_t base (0:Int) false s 0
noncomputable def c123_0:Code:=bodyOf Tryz.f123
def c123_1:=cA c123_0
def c123_2:=cB c123_0
def c123_3:=cA c123_2
def c123_4:=cB c123_2
theorem c123_0_e:c123_0 = .seq c123_1 c123_2:=rfl
theorem c123_1_r:RG (E0 mm) 123 c123_1:=rgN rfl
theorem c123_2_e:c123_2 = .seq c123_3 c123_4:=rfl
theorem c123_3_r:RG (E0 mm) 123 c123_3:=rgN rfl
theorem c123_4_e:c123_4 = .ret:=rfl
abbrev R123:=(Int×Int)
def e123:R123→AV×Heap:=fun x=>(.tup [.c (.d (.sc (.int .u64 x.1))),.c (.d (.sc (.int .i64 x.2)))],[])
def m123 (s:Bs):Option R123:=
 (m152a s (16:Int)).bind fun yr2=>
  some (yr2.1,yr2.2)
theorem f123_t (s:Bs):
  callW (E0 mm) 123 [.c (.d (.sc (.string (S s))))] [] = (m123 s).map e123:=by
 rw [callW_run (body:=c123_0) (res:=[.tmp 2,.tmp 3]) Tryz.func123 rfl rfl (by kernel_rfl)]
 simp -implicitDefEqProofs only [m123,slots1,c123_0_e,c123_1_r,(show opsOf c123_1 = _ :: _ from rfl),c123_2_e,c123_3_r,(show opsOf c123_3 = _ :: _ from rfl),ent152,prm152,f152a_t,setA,setB,za,zb,zc,zd,ze,zf,zg,zh,zi,zj,zk,zl,zm,zn,zo,zp,reduceCtorEq,zE,↓reduceIte]
 refine brM (fun yc1=>?_) (fun yr2 yc1=>?_)
 ·rw [yc1]; rfl
 ·simp -implicitDefEqProofs only [e152a,c123_4_e,yc1,setA,setB,za,zb,zc,zd,ze,zf,zg,zh,zi,zj,zk,zl,zm,zn,zo,zp,reduceCtorEq,zE,↓reduceIte]
  all_goals rfl
noncomputable def c88_0:Code:=bodyOf Tryz.f88
def c88_1:=cA c88_0
def c88_2:=cB c88_0
def c88_3:=cA c88_2
def c88_4:=cB c88_2
def c88_5:=cA c88_4
def c88_6:=cA c88_5
def c88_7:=cB c88_5
def c88_8:=cA c88_7
def c88_9:=cA c88_8
def c88_10:=cB c88_8
def c88_11:=cB c88_7
def c88_12:=cB c88_4
def c88_13:=cA c88_12
def c88_14:=cB c88_12
def c88_15:=cA c88_14
def c88_16:=cA c88_15
def c88_17:=cB c88_15
def c88_18:=cA c88_17
def c88_19:=cA c88_18
def c88_20:=cB c88_18
def c88_21:=cA c88_20
def c88_22:=cA c88_21
def c88_23:=cB c88_21
def c88_24:=cB c88_20
def c88_25:=cA c88_24
def c88_26:=cB c88_24
def c88_27:=cA c88_26
def c88_28:=cA c88_27
def c88_29:=cB c88_27
def c88_30:=cB c88_26
def c88_31:=cB c88_14
def c88_32:=cA c88_31
def c88_33:=cB c88_31
theorem c88_0_e:c88_0 = .seq c88_1 c88_2:=rfl
theorem c88_1_r:RG (E0 mm) 88 c88_1:=rgN rfl
theorem c88_2_e:c88_2 = .seq c88_3 c88_4:=rfl
theorem c88_3_r:RG (E0 mm) 88 c88_3:=rgN rfl
theorem c88_4_e:c88_4 = .seq c88_5 c88_12:=rfl
theorem c88_5_e:c88_5 = .seq c88_6 c88_7:=rfl
theorem c88_6_r:RG (E0 mm) 88 c88_6:=rgN rfl
theorem c88_8_e:c88_8 = .seq c88_9 c88_10:=rfl
theorem c88_9_r:RG (E0 mm) 88 c88_9:=rgN rfl
theorem c88_10_e:c88_10 = .ret:=rfl
theorem c88_11_e:c88_11 = .skip:=rfl
theorem c88_12_e:c88_12 = .seq c88_13 c88_14:=rfl
theorem c88_13_r:RG (E0 mm) 88 c88_13:=rgN rfl
theorem c88_14_e:c88_14 = .seq c88_15 c88_31:=rfl
theorem c88_15_e:c88_15 = .seq c88_16 c88_17:=rfl
theorem c88_16_r:RG (E0 mm) 88 c88_16:=rgN rfl
theorem c88_17_e:c88_17 = .block 0 c88_18:=rfl
theorem c88_18_e:c88_18 = .seq c88_19 c88_20:=rfl
theorem c88_19_r:RG (E0 mm) 88 c88_19:=rgN rfl
theorem c88_21_e:c88_21 = .seq c88_22 c88_23:=rfl
theorem c88_22_r:RG (E0 mm) 88 c88_22:=rgN rfl
theorem c88_23_e:c88_23 = .ret:=rfl
theorem c88_24_e:c88_24 = .seq c88_25 c88_26:=rfl
theorem c88_25_r:RG (E0 mm) 88 c88_25:=rgN rfl
theorem c88_27_e:c88_27 = .seq c88_28 c88_29:=rfl
theorem c88_28_r:RG (E0 mm) 88 c88_28:=rgN rfl
theorem c88_29_e:c88_29 = .ret:=rfl
theorem c88_30_e:c88_30 = .skip:=rfl
theorem c88_31_e:c88_31 = .seq c88_32 c88_33:=rfl
theorem c88_32_r:RG (E0 mm) 88 c88_32:=rgN rfl
theorem c88_33_e:c88_33 = .ret:=rfl
abbrev R88:=(Int×Int)
def e88:R88→AV×Heap:=fun x=>(.tup [.c (.d (.sc (.int .u64 x.1))),.c (.d (.sc (.int .i64 x.2)))],[])
def j88_7 (digits4:Bs) (t20:Bool):Option R88:=
 if t20 = true then
  some ((0:Int),(20:Int))
 else
  (m123 digits4).bind fun yr8=>
   if (yr8.2 == 0) = true then
    some (yr8.1,(0:Int))
   else
    if (yr8.2 == 3) = true then
     some ((0:Int),(21:Int))
    else
     some ((0:Int),(20:Int))
theorem j88_7_t (digits4:Bs) (t20:Bool)  (sl:Nat→AV) (zq4:sl 4 = .v (.c (.d (.sc (.string (S digits4)))))) (zq20:sl 20 = .v (.c (.d (.sc (.bool t20))))):
  bodyD (E0 mm) [.tmp 2,.tmp 3] 0 false (seqD (E0 mm) 88 0 (callW (E0 mm)) itW c88_12 (den (E0 mm) 88 0 (callW (E0 mm)) itW c88_7 none ⟨sl,[]⟩)) = (j88_7 digits4 t20).map e88:=by
 simp -implicitDefEqProofs only [j88_7,(show c88_7 = Code.cond _ c88_8 c88_11 from rfl),zq4,zq20,setA,setB,za,zb,zc,zd,ze,zf,zg,zh,zi,zj,zk,zl,zm,zn,zo,zp,reduceCtorEq,zE,↓reduceIte]
 refine brB (fun yc6=>?_) (fun yc6=>?_)
 ·simp -implicitDefEqProofs only [c88_8_e,c88_9_r,(show opsOf c88_9 = _ :: _ from rfl),c88_10_e,zq4,zq20,yc6,setA,setB,za,zb,zc,zd,ze,zf,zg,zh,zi,zj,zk,zl,zm,zn,zo,zp,reduceCtorEq,zE,↓reduceIte]
  all_goals rfl
 ·simp -implicitDefEqProofs only [c88_11_e,c88_12_e,c88_13_r,(show opsOf c88_13 = _ :: _ from rfl),ent123,prm123,f123_t,zq4,zq20,yc6,setA,setB,za,zb,zc,zd,ze,zf,zg,zh,zi,zj,zk,zl,zm,zn,zo,zp,reduceCtorEq,zE,↓reduceIte]
  refine brM (fun yc7=>?_) (fun yr8 yc7=>?_)
  ·rw [yc7]; rfl
  ·simp -implicitDefEqProofs only [e123,c88_14_e,c88_15_e,c88_16_r,(show opsOf c88_16 = _ :: _ from rfl),c88_17_e,c88_18_e,c88_19_r,(show opsOf c88_19 = _ :: _ from rfl),(show c88_20 = Code.cond _ c88_21 c88_24 from rfl),zq4,zq20,yc6,yc7,setA,setB,za,zb,zc,zd,ze,zf,zg,zh,zi,zj,zk,zl,zm,zn,zo,zp,reduceCtorEq,zE,↓reduceIte]
   refine brB (fun yc9=>?_) (fun yc9=>?_)
   ·simp -implicitDefEqProofs only [c88_21_e,c88_22_r,(show opsOf c88_22 = _ :: _ from rfl),c88_23_e,zq4,zq20,yc6,yc7,yc9,setA,setB,za,zb,zc,zd,ze,zf,zg,zh,zi,zj,zk,zl,zm,zn,zo,zp,reduceCtorEq,zE,↓reduceIte]
    all_goals rfl
   ·simp -implicitDefEqProofs only [c88_24_e,c88_25_r,(show opsOf c88_25 = _ :: _ from rfl),(show c88_26 = Code.cond _ c88_27 c88_30 from rfl),zq4,zq20,yc6,yc7,yc9,setA,setB,za,zb,zc,zd,ze,zf,zg,zh,zi,zj,zk,zl,zm,zn,zo,zp,reduceCtorEq,zE,↓reduceIte]
    refine brB (fun yc10=>?_) (fun yc10=>?_)
    ·simp -implicitDefEqProofs only [c88_27_e,c88_28_r,(show opsOf c88_28 = _ :: _ from rfl),c88_29_e,zq4,zq20,yc6,yc7,yc9,yc10,setA,setB,za,zb,zc,zd,ze,zf,zg,zh,zi,zj,zk,zl,zm,zn,zo,zp,reduceCtorEq,zE,↓reduceIte]
     all_goals rfl
    ·simp -implicitDefEqProofs only [c88_30_e,c88_31_e,c88_32_r,(show opsOf c88_32 = _ :: _ from rfl),c88_33_e,zq4,zq20,yc6,yc7,yc9,yc10,setA,setB,za,zb,zc,zd,ze,zf,zg,zh,zi,zj,zk,zl,zm,zn,zo,zp,reduceCtorEq,zE,↓reduceIte]
     all_goals rfl
def m88 (line:Bs):Option R88:=
 (m122 line ([59]:Bs)).bind fun yr2=>
  if yr2.2.2 = true then
   (m75 yr2.2.1).bind fun yr5=>
    j88_7 yr2.1 (!yr5)
  else
   j88_7 yr2.1 false
theorem f88_t (line:Bs):
  callW (E0 mm) 88 [.c (.d (.sc (.string (S line))))] [] = (m88 line).map e88:=by
 rw [callW_run (body:=c88_0) (res:=[.tmp 2,.tmp 3]) Tryz.func88 rfl rfl (by kernel_rfl)]
 simp -implicitDefEqProofs only [m88,slots1,c88_0_e,c88_1_r,(show opsOf c88_1 = _ :: _ from rfl),c88_2_e,c88_3_r,(show opsOf c88_3 = _ :: _ from rfl),ent122,prm122,(show callW (E0 mm) 122 [.c (.d (.sc (.string (S line)))),.c (.d (.sc (.string (S ([59]:Bs)))))] [] = _ from f122_t line ([59]:Bs)),setA,setB,za,zb,zc,zd,ze,zf,zg,zh,zi,zj,zk,zl,zm,zn,zo,zp,reduceCtorEq,zE,↓reduceIte]
 refine brM (fun yc1=>?_) (fun yr2 yc1=>?_)
 ·rw [yc1]; rfl
 ·simp -implicitDefEqProofs only [e122,c88_4_e,c88_5_e,c88_6_r,(show opsOf c88_6 = _ :: _ from rfl),yc1,setA,setB,za,zb,zc,zd,ze,zf,zg,zh,zi,zj,zk,zl,zm,zn,zo,zp,reduceCtorEq,zE,↓reduceIte]
  refine brB (fun yc3=>?_) (fun yc3=>?_)
  ·simp -implicitDefEqProofs only [ent75,prm75,f75_t,yc1,yc3,setA,setB,za,zb,zc,zd,ze,zf,zg,zh,zi,zj,zk,zl,zm,zn,zo,zp,reduceCtorEq,zE,↓reduceIte]
   refine brM (fun yc4=>?_) (fun yr5 yc4=>?_)
   ·rw [yc4]; rfl
   ·simp -implicitDefEqProofs only [e75,yc1,yc3,yc4,setA,setB,za,zb,zc,zd,ze,zf,zg,zh,zi,zj,zk,zl,zm,zn,zo,zp,reduceCtorEq,zE,↓reduceIte]
    exact j88_7_t yr2.1 (!yr5) _ (by rfl) (by rfl)
  ·simp -implicitDefEqProofs only [yc1,yc3,setA,setB,za,zb,zc,zd,ze,zf,zg,zh,zi,zj,zk,zl,zm,zn,zo,zp,reduceCtorEq,zE,↓reduceIte]
   exact j88_7_t yr2.1 false _ (by rfl) (by rfl)
end
end Go.Proofs.YtoohbnmhjfgclaaGreatDoor
