/- The Go functions as plain functions, and that the evaluator computes them. -/
import Derived.Test.YtoohbnmhjfgclaaGreatDoorHd
set_option linter.all false
set_option maxRecDepth 100000
namespace Go.Proofs.YtoohbnmhjfgclaaGreatDoor
open Go Go.Ab
open Nat renaming reduceEqDiff→za,reduceAdd→zb,reduceLeDiff→zc,reduceLT→zd,reduceMul→ze,reduceBEq→zf,reduceSub→zg,reducePow→zh
open Int renaming reduceEq→zi,reduceLE→zj,reduceLT→zk,reduceToNat→zl,reduceNegSucc→zm,reduceAdd→zn,reduceBEq→zo
open String renaming reduceBEq→zp
set_option maxHeartbeats 4000000
noncomputable section
variable {mm:Int}
set_option maxRecDepth 100000 in
theorem f15_t:callW (E0 mm) 15 [] [] = some (.v (.c (.d (.sc (.bool true)))),[]):=callN_W (k:=400) (by kernel_rfl)
noncomputable def c46_0:Code:=bodyOf Tryz.f46
def c46_1:=cA c46_0
def c46_2:=cB c46_0
def c46_3:=cA c46_2
def c46_4:=cB c46_2
theorem c46_0_e:c46_0 = .seq c46_1 c46_2:=rfl
theorem c46_1_r:RG (E0 mm) 46 c46_1:=rgN rfl
theorem c46_2_e:c46_2 = .seq c46_3 c46_4:=rfl
theorem c46_3_r:RG (E0 mm) 46 c46_3:=rgN rfl
theorem c46_4_e:c46_4 = .ret:=rfl
abbrev R46:=(Int)
def e46:R46→AV×Heap:=fun x=>(.v (.c (.d (.sc (.int .i64 x)))),[])
def m46 (b_0:Bool) (b_1:List UInt8) (c:UInt8):Option R46:=
 some (Lib.indexByte b_1 c)
theorem f46_t (b_0:Bool) (b_1:List UInt8) (c:UInt8):
  callW (E0 mm) 46 [.c (.d (.lst b_0 (enL enB b_1))),.c (.d (.sc (.int .u8 ((c).toNat:Int))))] [] = (m46 b_0 b_1 c).map e46:=by
 rw [callW_run (body:=c46_0) (res:=[.tmp 4]) Tryz.func46 rfl rfl (by kernel_rfl)]
 simp -implicitDefEqProofs only [m46,slots2,c46_0_e,c46_1_r,(show opsOf c46_1 = _ :: _ from rfl),c46_2_e,c46_3_r,(show opsOf c46_3 = _ :: _ from rfl),entf78,exf78,pIndexB_lst,c46_4_e,setA,setB,za,zb,zc,zd,ze,zf,zg,zh,zi,zj,zk,zl,zm,zn,zo,zp,reduceCtorEq,zE,↓reduceIte]
 all_goals rfl
noncomputable def c49_0:Code:=bodyOf Tryz.f49
def c49_1:=cA c49_0
def c49_2:=cB c49_0
def c49_3:=cA c49_2
def c49_4:=cB c49_2
theorem c49_0_e:c49_0 = .seq c49_1 c49_2:=rfl
theorem c49_1_r:RG (E0 mm) 49 c49_1:=rgN rfl
theorem c49_2_e:c49_2 = .seq c49_3 c49_4:=rfl
theorem c49_3_r:RG (E0 mm) 49 c49_3:=rgN rfl
theorem c49_4_e:c49_4 = .ret:=rfl
abbrev R49:=(Int)
def e49:R49→AV×Heap:=fun x=>(.v (.c (.d (.sc (.int .i64 x)))),[])
def m49 (s:Bs):Option R49:=
 if 0≤(w64 ((s.length:Int) - 1))∧(w64 ((s.length:Int) - 1)) < (s.length:Int) then
  some (w64 (((s.getD (w64 ((s.length:Int) - 1)).toNat 0).toNat:Int) - 48))
 else none
theorem f49_t (s:Bs):
  callW (E0 mm) 49 [.c (.d (.sc (.string (S s))))] [] = (m49 s).map e49:=by
 rw [callW_run (body:=c49_0) (res:=[.tmp 2]) Tryz.func49 rfl rfl (by kernel_rfl)]
 simp -implicitDefEqProofs only [m49,slots1,c49_0_e,c49_1_r,(show opsOf c49_1 = _ :: _ from rfl),c49_2_e,c49_3_r,(show opsOf c49_3 = _ :: _ from rfl),Tryz.underlying9,setA,setB,za,zb,zc,zd,ze,zf,zg,zh,zi,zj,zk,zl,zm,zn,zo,zp,reduceCtorEq,zE,↓reduceIte]
 refine brP (fun yc1=>?_) (fun yc1=>?_)
 ·simp -implicitDefEqProofs only [Tryz.underlying5,Tryz.underlying3,c49_4_e,yc1,setA,setB,za,zb,zc,zd,ze,zf,zg,zh,zi,zj,zk,zl,zm,zn,zo,zp,reduceCtorEq,zE,↓reduceIte]
  all_goals rfl
 ·rw [if_neg yc1]; rfl
noncomputable def c65_0:Code:=bodyOf Tryz.f65
def c65_1:=cA c65_0
def c65_2:=cB c65_0
def c65_3:=cA c65_2
def c65_4:=cB c65_2
theorem c65_0_e:c65_0 = .seq c65_1 c65_2:=rfl
theorem c65_1_r:RG (E0 mm) 65 c65_1:=rgN rfl
theorem c65_2_e:c65_2 = .seq c65_3 c65_4:=rfl
theorem c65_3_r:RG (E0 mm) 65 c65_3:=rgN rfl
theorem c65_4_e:c65_4 = .ret:=rfl
abbrev R65:=(Bs)
def e65:R65→AV×Heap:=fun x=>(.v (.c (.d (.sc (.string (S x))))),[])
def m65 (minor:Int):Option R65:=
 (mItoa minor).bind fun yr2=>
  if 7 + yr2.length < 9223372036854775808 then
   some ((72:UInt8) :: 84 :: 84 :: 80 :: 47 :: 49 :: 46 :: yr2)
  else none
theorem f65_t (minor:Int):
  callW (E0 mm) 65 [.c (.d (.sc (.int .i64 minor)))] [] = (m65 minor).map e65:=by
 rw [callW_run (body:=c65_0) (res:=[.tmp 2]) Tryz.func65 rfl rfl (by kernel_rfl)]
 simp -implicitDefEqProofs only [m65,slots1,c65_0_e,c65_1_r,(show opsOf c65_1 = _ :: _ from rfl),c65_2_e,c65_3_r,(show opsOf c65_3 = _ :: _ from rfl),ent74,prm74,pItoa_t,setA,setB,za,zb,zc,zd,ze,zf,zg,zh,zi,zj,zk,zl,zm,zn,zo,zp,reduceCtorEq,zE,↓reduceIte]
 refine brM (fun yc1=>?_) (fun yr2 yc1=>?_)
 ·rw [yc1]; rfl
 ·simp -implicitDefEqProofs only [pItoa_t,yc1,setA,setB,za,zb,zc,zd,ze,zf,zg,zh,zi,zj,zk,zl,zm,zn,zo,zp,reduceCtorEq,zE,↓reduceIte]
  refine brP (fun yc3=>?_) (fun yc3=>?_)
  ·simp -implicitDefEqProofs only [c65_4_e,yc1,yc3,setA,setB,za,zb,zc,zd,ze,zf,zg,zh,zi,zj,zk,zl,zm,zn,zo,zp,reduceCtorEq,zE,↓reduceIte]
   all_goals rfl
  ·rw [if_neg yc3]; rfl
noncomputable def c135_0:Code:=bodyOf Tryz.f135
def c135_1:=cA c135_0
def c135_2:=cB c135_0
def c135_3:=cA c135_2
def c135_4:=cB c135_2
theorem c135_0_e:c135_0 = .seq c135_1 c135_2:=rfl
theorem c135_1_r:RG (E0 mm) 135 c135_1:=rgN rfl
theorem c135_2_e:c135_2 = .seq c135_3 c135_4:=rfl
theorem c135_3_r:RG (E0 mm) 135 c135_3:=rgN rfl
theorem c135_4_e:c135_4 = .ret:=rfl
abbrev R135:=(Int)
def e135:R135→AV×Heap:=fun x=>(.v (.c (.d (.sc (.int .i64 x)))),[])
def m135 (s:Bs) (c:UInt8):Option R135:=
 some (Lib.indexByte s c)
theorem f135_t (s:Bs) (c:UInt8):
  callW (E0 mm) 135 [.c (.d (.sc (.string (S s)))),.c (.d (.sc (.int .u8 ((c).toNat:Int))))] [] = (m135 s c).map e135:=by
 rw [callW_run (body:=c135_0) (res:=[.tmp 4]) Tryz.func135 rfl rfl (by kernel_rfl)]
 simp -implicitDefEqProofs only [m135,slots2,c135_0_e,c135_1_r,(show opsOf c135_1 = _ :: _ from rfl),c135_2_e,c135_3_r,(show opsOf c135_3 = _ :: _ from rfl),entf161,exf161,ext161_t,c135_4_e,setA,setB,za,zb,zc,zd,ze,zf,zg,zh,zi,zj,zk,zl,zm,zn,zo,zp,reduceCtorEq,zE,↓reduceIte]
 all_goals rfl
noncomputable def c102_0:Code:=bodyOf Tryz.f102
def c102_1:=cA c102_0
def c102_2:=cB c102_0
def c102_3:=cA c102_2
def c102_4:=cB c102_2
theorem c102_0_e:c102_0 = .seq c102_1 c102_2:=rfl
theorem c102_1_r:RG (E0 mm) 102 c102_1:=rgN rfl
theorem c102_2_e:c102_2 = .seq c102_3 c102_4:=rfl
theorem c102_3_r:RG (E0 mm) 102 c102_3:=rgN rfl
theorem c102_4_e:c102_4 = .ret:=rfl
abbrev R102:=(Int)
def e102:R102→AV×Heap:=fun x=>(.v (.c (.d (.sc (.int .i64 x)))),[])
def m102 (s:Bs) (c:UInt8):Option R102:=
 (m135 s c).bind fun yr2=>
  some yr2
theorem f102_t (s:Bs) (c:UInt8):
  callW (E0 mm) 102 [.c (.d (.sc (.string (S s)))),.c (.d (.sc (.int .u8 ((c).toNat:Int))))] [] = (m102 s c).map e102:=by
 rw [callW_run (body:=c102_0) (res:=[.tmp 4]) Tryz.func102 rfl rfl (by kernel_rfl)]
 simp -implicitDefEqProofs only [m102,slots2,c102_0_e,c102_1_r,(show opsOf c102_1 = _ :: _ from rfl),c102_2_e,c102_3_r,(show opsOf c102_3 = _ :: _ from rfl),ent135,prm135,f135_t,setA,setB,za,zb,zc,zd,ze,zf,zg,zh,zi,zj,zk,zl,zm,zn,zo,zp,reduceCtorEq,zE,↓reduceIte]
 refine brM (fun yc1=>?_) (fun yr2 yc1=>?_)
 ·rw [yc1]; rfl
 ·simp -implicitDefEqProofs only [e135,c102_4_e,yc1,setA,setB,za,zb,zc,zd,ze,zf,zg,zh,zi,zj,zk,zl,zm,zn,zo,zp,reduceCtorEq,zE,↓reduceIte]
  all_goals rfl
noncomputable def c101_0:Code:=bodyOf Tryz.f101
def c101_1:=cA c101_0
def c101_2:=cB c101_0
def c101_3:=cA c101_2
def c101_4:=cB c101_2
def c101_5:=cA c101_4
def c101_6:=cB c101_4
theorem c101_0_e:c101_0 = .seq c101_1 c101_2:=rfl
theorem c101_1_r:RG (E0 mm) 101 c101_1:=rgN rfl
theorem c101_2_e:c101_2 = .seq c101_3 c101_4:=rfl
theorem c101_3_r:RG (E0 mm) 101 c101_3:=rgN rfl
theorem c101_4_e:c101_4 = .seq c101_5 c101_6:=rfl
theorem c101_5_r:RG (E0 mm) 101 c101_5:=rgN rfl
theorem c101_6_e:c101_6 = .ret:=rfl
abbrev R101:=(Bool)
def e101:R101→AV×Heap:=fun x=>(.v (.c (.d (.sc (.bool x)))),[])
def m101 (c:UInt8):Option R101:=
 if (decide ((97:UInt8)≤(c ||| (32:UInt8)))) = true then
  if (decide ((c ||| (32:UInt8))≤(122:UInt8))) = true then
   some true
  else
   if (decide ((48:UInt8)≤c)) = true then
    if (decide (c≤(57:UInt8))) = true then
     some true
    else
     (m102 ([33,35,36,37,38,39,42,43,45,46,94,95,96,124,126]:Bs) c).bind fun yr6=>
      some (decide (0≤yr6))
   else
    (m102 ([33,35,36,37,38,39,42,43,45,46,94,95,96,124,126]:Bs) c).bind fun yr8=>
     some (decide (0≤yr8))
 else
  if (decide ((48:UInt8)≤c)) = true then
   if (decide (c≤(57:UInt8))) = true then
    some true
   else
    (m102 ([33,35,36,37,38,39,42,43,45,46,94,95,96,124,126]:Bs) c).bind fun yr12=>
     some (decide (0≤yr12))
  else
   (m102 ([33,35,36,37,38,39,42,43,45,46,94,95,96,124,126]:Bs) c).bind fun yr14=>
    some (decide (0≤yr14))
theorem f101_t (c:UInt8):
  callW (E0 mm) 101 [.c (.d (.sc (.int .u8 ((c).toNat:Int))))] [] = (m101 c).map e101:=by
 rw [callW_run (body:=c101_0) (res:=[.tmp 2]) Tryz.func101 rfl rfl (by kernel_rfl)]
 simp -implicitDefEqProofs only [m101,slots1,c101_0_e,c101_1_r,(show opsOf c101_1 = _ :: _ from rfl),c101_2_e,c101_3_r,(show opsOf c101_3 = _ :: _ from rfl),c101_4_e,c101_5_r,(show opsOf c101_5 = _ :: _ from rfl),setA,setB,za,zb,zc,zd,ze,zf,zg,zh,zi,zj,zk,zl,zm,zn,zo,zp,reduceCtorEq,zE,↓reduceIte]
 refine brB (fun yc1=>?_) (fun yc1=>?_)
 ·simp -implicitDefEqProofs only [yc1,setA,setB,za,zb,zc,zd,ze,zf,zg,zh,zi,zj,zk,zl,zm,zn,zo,zp,reduceCtorEq,zE,↓reduceIte]
  refine brB (fun yc2=>?_) (fun yc2=>?_)
  ·simp -implicitDefEqProofs only [c101_6_e,yc1,yc2,setA,setB,za,zb,zc,zd,ze,zf,zg,zh,zi,zj,zk,zl,zm,zn,zo,zp,reduceCtorEq,zE,↓reduceIte]
   all_goals rfl
  ·simp -implicitDefEqProofs only [yc1,yc2,setA,setB,za,zb,zc,zd,ze,zf,zg,zh,zi,zj,zk,zl,zm,zn,zo,zp,reduceCtorEq,zE,↓reduceIte]
   refine brB (fun yc3=>?_) (fun yc3=>?_)
   ·simp -implicitDefEqProofs only [yc1,yc2,yc3,setA,setB,za,zb,zc,zd,ze,zf,zg,zh,zi,zj,zk,zl,zm,zn,zo,zp,reduceCtorEq,zE,↓reduceIte]
    refine brB (fun yc4=>?_) (fun yc4=>?_)
    ·simp -implicitDefEqProofs only [c101_6_e,yc1,yc2,yc3,yc4,setA,setB,za,zb,zc,zd,ze,zf,zg,zh,zi,zj,zk,zl,zm,zn,zo,zp,reduceCtorEq,zE,↓reduceIte]
     all_goals rfl
    ·simp -implicitDefEqProofs only [ent102,prm102,(show callW (E0 mm) 102 [.c (.d (.sc (.string (S ([33,35,36,37,38,39,42,43,45,46,94,95,96,124,126]:Bs))))),.c (.d (.sc (.int .u8 ((c).toNat:Int))))] [] = _ from f102_t ([33,35,36,37,38,39,42,43,45,46,94,95,96,124,126]:Bs) c),yc1,yc2,yc3,yc4,setA,setB,za,zb,zc,zd,ze,zf,zg,zh,zi,zj,zk,zl,zm,zn,zo,zp,reduceCtorEq,zE,↓reduceIte]
     refine brM (fun yc5=>?_) (fun yr6 yc5=>?_)
     ·rw [yc5]; rfl
     ·simp -implicitDefEqProofs only [e102,c101_6_e,yc1,yc2,yc3,yc4,yc5,setA,setB,za,zb,zc,zd,ze,zf,zg,zh,zi,zj,zk,zl,zm,zn,zo,zp,reduceCtorEq,zE,↓reduceIte]
      all_goals rfl
   ·simp -implicitDefEqProofs only [ent102,prm102,(show callW (E0 mm) 102 [.c (.d (.sc (.string (S ([33,35,36,37,38,39,42,43,45,46,94,95,96,124,126]:Bs))))),.c (.d (.sc (.int .u8 ((c).toNat:Int))))] [] = _ from f102_t ([33,35,36,37,38,39,42,43,45,46,94,95,96,124,126]:Bs) c),yc1,yc2,yc3,setA,setB,za,zb,zc,zd,ze,zf,zg,zh,zi,zj,zk,zl,zm,zn,zo,zp,reduceCtorEq,zE,↓reduceIte]
    refine brM (fun yc7=>?_) (fun yr8 yc7=>?_)
    ·rw [yc7]; rfl
    ·simp -implicitDefEqProofs only [e102,c101_6_e,yc1,yc2,yc3,yc7,setA,setB,za,zb,zc,zd,ze,zf,zg,zh,zi,zj,zk,zl,zm,zn,zo,zp,reduceCtorEq,zE,↓reduceIte]
     all_goals rfl
 ·simp -implicitDefEqProofs only [yc1,setA,setB,za,zb,zc,zd,ze,zf,zg,zh,zi,zj,zk,zl,zm,zn,zo,zp,reduceCtorEq,zE,↓reduceIte]
  refine brB (fun yc9=>?_) (fun yc9=>?_)
  ·simp -implicitDefEqProofs only [yc1,yc9,setA,setB,za,zb,zc,zd,ze,zf,zg,zh,zi,zj,zk,zl,zm,zn,zo,zp,reduceCtorEq,zE,↓reduceIte]
   refine brB (fun yc10=>?_) (fun yc10=>?_)
   ·simp -implicitDefEqProofs only [c101_6_e,yc1,yc9,yc10,setA,setB,za,zb,zc,zd,ze,zf,zg,zh,zi,zj,zk,zl,zm,zn,zo,zp,reduceCtorEq,zE,↓reduceIte]
    all_goals rfl
   ·simp -implicitDefEqProofs only [ent102,prm102,(show callW (E0 mm) 102 [.c (.d (.sc (.string (S ([33,35,36,37,38,39,42,43,45,46,94,95,96,124,126]:Bs))))),.c (.d (.sc (.int .u8 ((c).toNat:Int))))] [] = _ from f102_t ([33,35,36,37,38,39,42,43,45,46,94,95,96,124,126]:Bs) c),yc1,yc9,yc10,setA,setB,za,zb,zc,zd,ze,zf,zg,zh,zi,zj,zk,zl,zm,zn,zo,zp,reduceCtorEq,zE,↓reduceIte]
    refine brM (fun yc11=>?_) (fun yr12 yc11=>?_)
    ·rw [yc11]; rfl
    ·simp -implicitDefEqProofs only [e102,c101_6_e,yc1,yc9,yc10,yc11,setA,setB,za,zb,zc,zd,ze,zf,zg,zh,zi,zj,zk,zl,zm,zn,zo,zp,reduceCtorEq,zE,↓reduceIte]
     all_goals rfl
  ·simp -implicitDefEqProofs only [ent102,prm102,(show callW (E0 mm) 102 [.c (.d (.sc (.string (S ([33,35,36,37,38,39,42,43,45,46,94,95,96,124,126]:Bs))))),.c (.d (.sc (.int .u8 ((c).toNat:Int))))] [] = _ from f102_t ([33,35,36,37,38,39,42,43,45,46,94,95,96,124,126]:Bs) c),yc1,yc9,setA,setB,za,zb,zc,zd,ze,zf,zg,zh,zi,zj,zk,zl,zm,zn,zo,zp,reduceCtorEq,zE,↓reduceIte]
   refine brM (fun yc13=>?_) (fun yr14 yc13=>?_)
   ·rw [yc13]; rfl
   ·simp -implicitDefEqProofs only [e102,c101_6_e,yc1,yc9,yc13,setA,setB,za,zb,zc,zd,ze,zf,zg,zh,zi,zj,zk,zl,zm,zn,zo,zp,reduceCtorEq,zE,↓reduceIte]
    all_goals rfl
noncomputable def c134_0:Code:=bodyOf Tryz.f134
def c134_1:=cA c134_0
def c134_2:=cB c134_0
def c134_3:=cA c134_2
def c134_4:=cB c134_2
theorem c134_0_e:c134_0 = .seq c134_1 c134_2:=rfl
theorem c134_1_r:RG (E0 mm) 134 c134_1:=rgN rfl
theorem c134_2_e:c134_2 = .seq c134_3 c134_4:=rfl
theorem c134_3_r:RG (E0 mm) 134 c134_3:=rgN rfl
theorem c134_4_e:c134_4 = .ret:=rfl
abbrev R134:=(Bool)
def e134:R134→AV×Heap:=fun x=>(.v (.c (.d (.sc (.bool x)))),[.cells [.d (.sc (.func (.func 101) #[] #[]))]])
def m134 (c:UInt8):Option R134:=
 (m101 c).bind fun yr2=>
  some (!yr2)
theorem f134_t (c:UInt8):
  callW (E0 mm) 134 [.c (.d (.sc (.int .u8 ((c).toNat:Int)))),.c (.ptr 0 0)] [.cells [.d (.sc (.func (.func 101) #[] #[]))]] = (m134 c).map e134:=by
 rw [callW_run (body:=c134_0) (res:=[.tmp 3]) Tryz.func134 rfl rfl (by kernel_rfl)]
 simp -implicitDefEqProofs only [m134,slots2,c134_0_e,c134_1_r,(show opsOf c134_1 = _ :: _ from rfl),c134_2_e,c134_3_r,(show opsOf c134_3 = _ :: _ from rfl),sz137,ag137,ent101,prm101,f101_t,setA,setB,za,zb,zc,zd,ze,zf,zg,zh,zi,zj,zk,zl,zm,zn,zo,zp,reduceCtorEq,zE,↓reduceIte]
 refine brM (fun yc1=>?_) (fun yr2 yc1=>?_)
 ·rw [yc1]; rfl
 ·simp -implicitDefEqProofs only [e101,c134_4_e,yc1,setA,setB,za,zb,zc,zd,ze,zf,zg,zh,zi,zj,zk,zl,zm,zn,zo,zp,reduceCtorEq,zE,↓reduceIte]
  all_goals rfl
noncomputable def c136_0:Code:=bodyOf Tryz.f136
def c136_1:=cA c136_0
def c136_2:=cB c136_0
def c136_3:=cA c136_2
def c136_4:=cA c136_3
def c136_5:=cB c136_3
def c136_6:=cA c136_5
def c136_7:=cA c136_6
def c136_8:=cA c136_7
def c136_9:=cB c136_7
def c136_10:=cA c136_9
def c136_11:=cA c136_10
def c136_12:=cB c136_10
def c136_13:=cB c136_9
def c136_14:=cA c136_13
def c136_15:=cA c136_14
def c136_16:=cA c136_15
def c136_17:=cB c136_15
def c136_18:=cA c136_17
def c136_19:=cB c136_17
def c136_20:=cA c136_19
def c136_21:=cA c136_20
def c136_22:=cB c136_20
def c136_23:=cB c136_19
def c136_24:=cB c136_13
def c136_25:=cB c136_2
def c136_26:=cA c136_25
def c136_27:=cB c136_25
theorem c136_0_e:c136_0 = .seq c136_1 c136_2:=rfl
theorem c136_1_r:RG (E0 mm) 136 c136_1:=rgN rfl
theorem c136_2_e:c136_2 = .seq c136_3 c136_25:=rfl
theorem c136_3_e:c136_3 = .seq c136_4 c136_5:=rfl
theorem c136_4_r:RG (E0 mm) 136 c136_4:=rgN rfl
theorem c136_5_e:c136_5 = .block 0 c136_6:=rfl
theorem c136_6_l (m:Nat) (st:St):den (E0 mm) 136 m (callW (E0 mm)) itW c136_6 none st = loopD itW (loopF (E0 mm) 136 m (callW (E0 mm)) itW c136_7 [(0,.keep),(1,.keep),(7,.keep),(8,.keep)]) (canon m [(0,.keep),(1,.keep),(7,.keep),(8,.keep)] st):=rfl
theorem c136_7_e:c136_7 = .seq c136_8 c136_9:=rfl
theorem c136_8_r:RG (E0 mm) 136 c136_8:=rgN rfl
theorem c136_9_e:c136_9 = .seq c136_10 c136_13:=rfl
theorem c136_11_e:c136_11 = .skip:=rfl
theorem c136_12_e:c136_12 = .exit 0:=rfl
theorem c136_13_e:c136_13 = .seq c136_14 c136_24:=rfl
theorem c136_14_e:c136_14 = .block 1 c136_15:=rfl
theorem c136_15_e:c136_15 = .seq c136_16 c136_17:=rfl
theorem c136_16_r:RG (E0 mm) 136 c136_16:=rgN rfl
theorem c136_17_e:c136_17 = .seq c136_18 c136_19:=rfl
theorem c136_18_r:RG (E0 mm) 136 c136_18:=rgN rfl
theorem c136_20_e:c136_20 = .seq c136_21 c136_22:=rfl
theorem c136_21_r:RG (E0 mm) 136 c136_21:=rgN rfl
theorem c136_22_e:c136_22 = .ret:=rfl
theorem c136_23_e:c136_23 = .skip:=rfl
theorem c136_24_r:RG (E0 mm) 136 c136_24:=rgN rfl
theorem c136_25_e:c136_25 = .seq c136_26 c136_27:=rfl
theorem c136_26_r:RG (E0 mm) 136 c136_26:=rgN rfl
theorem c136_27_e:c136_27 = .ret:=rfl
abbrev R136:=(Int)
def e136:R136→AV×Heap:=fun x=>(.v (.c (.d (.sc (.int .i64 x)))),[.cells [.d (.sc (.func (.func 101) #[] #[]))]])
def K136_6:Option (Ex×St)→Option (AV×Heap):=fun r=>bodyD (E0 mm) [.tmp 4] 1 false (seqD (E0 mm) 136 1 (callW (E0 mm)) itW c136_25 (blockD 0 (r)))
def en136_6:(Bool×List UInt8×Int×Int)→X:=fun x=>(none,[.v (.c (.d (.lst x.1 (enL enB x.2.1)))),.v (.c (.fn 134 [(0,0)])),.v (.c (.d (.sc (.int .i64 x.2.2.1)))),.v (.c (.d (.sc (.int .i64 x.2.2.2))))],[.cells [.d (.sc (.func (.func 101) #[] #[]))]])
def j136_25  : Option R136:=
 some (-1:Int)
theorem j136_25_t   (sl:Nat→AV)  :
  bodyD (E0 mm) [.tmp 4] 1 false (den (E0 mm) 136 1 (callW (E0 mm)) itW c136_25 none ⟨sl,[.cells [.d (.sc (.func (.func 101) #[] #[]))]]⟩) = (j136_25).map e136:=by
 simp -implicitDefEqProofs only [j136_25,c136_25_e,c136_26_r,(show opsOf c136_26 = _ :: _ from rfl),c136_27_e,setA,setB,za,zb,zc,zd,ze,zf,zg,zh,zi,zj,zk,zl,zm,zn,zo,zp,reduceCtorEq,zE,↓reduceIte]
 all_goals rfl
def s136_6 (s0_0:Bool) (s0_1:List UInt8) (t7 t8:Int):Option ((Bool×List UInt8×Int×Int) ⊕ R136):=
 if (decide (t8 < t7)) = true then
  if 0≤t8∧t8 < (s0_1.length:Int) then
   (m134 (s0_1.getD t8.toNat default)).bind fun yr5=>
    if yr5 = true then
     some (.inr t8)
    else
     some (.inl (s0_0,s0_1,t7,(w64 (t8 + 1))))
  else none
 else
  (j136_25).map .inr
theorem s136_6_t (s0_0:Bool) (s0_1:List UInt8) (t7 t8:Int):
  stepE (K136_6 (mm:=mm)) (loopF (E0 mm) 136 1 (callW (E0 mm)) itW c136_7 [(0,.keep),(1,.keep),(7,.keep),(8,.keep)] (none,[.v (.c (.d (.lst s0_0 (enL enB s0_1)))),.v (.c (.fn 134 [(0,0)])),.v (.c (.d (.sc (.int .i64 t7)))),.v (.c (.d (.sc (.int .i64 t8))))],[.cells [.d (.sc (.func (.func 101) #[] #[]))]])) = (s136_6 s0_0 s0_1 t7 t8).map (sm en136_6 e136):=by
 simp -implicitDefEqProofs only [s136_6,loopF_eq,c136_7_e,c136_8_r,(show opsOf c136_8 = _ :: _ from rfl),c136_9_e,(show c136_10 = Code.cond _ c136_11 c136_12 from rfl),setA,setB,za,zb,zc,zd,ze,zf,zg,zh,zi,zj,zk,zl,zm,zn,zo,zp,reduceCtorEq,zE,↓reduceIte]
 refine brB (fun yc1=>?_) (fun yc1=>?_)
 ·simp -implicitDefEqProofs only [c136_11_e,c136_13_e,c136_14_e,c136_15_e,c136_16_r,(show opsOf c136_16 = _ :: _ from rfl),c136_17_e,c136_18_r,(show opsOf c136_18 = _ :: _ from rfl),Tryz.underlying22,sz5,enB_a,yc1,setA,setB,za,zb,zc,zd,ze,zf,zg,zh,zi,zj,zk,zl,zm,zn,zo,zp,reduceCtorEq,zE,↓reduceIte]
  refine brP (fun yc2=>?_) (fun yc2=>?_)
  ·have yd3:t8.toNat < s0_1.length:=by omega
   simp -implicitDefEqProofs only [(enL_get enB s0_1 t8.toNat yd3),enB_e,sz5,ag5,ent134,prm134,f134_t,yc1,yc2,yd3,setA,setB,za,zb,zc,zd,ze,zf,zg,zh,zi,zj,zk,zl,zm,zn,zo,zp,reduceCtorEq,zE,↓reduceIte]
   refine brM (fun yc4=>?_) (fun yr5 yc4=>?_)
   ·rw [yc4]; rfl
   ·simp -implicitDefEqProofs only [e134,(show c136_19 = Code.cond _ c136_20 c136_23 from rfl),yc1,yc2,yd3,yc4,setA,setB,za,zb,zc,zd,ze,zf,zg,zh,zi,zj,zk,zl,zm,zn,zo,zp,reduceCtorEq,zE,↓reduceIte]
    refine brB (fun yc6=>?_) (fun yc6=>?_)
    ·simp -implicitDefEqProofs only [c136_20_e,c136_21_r,(show opsOf c136_21 = _ :: _ from rfl),c136_22_e,K136_6,yc1,yc2,yd3,yc4,yc6,setA,setB,za,zb,zc,zd,ze,zf,zg,zh,zi,zj,zk,zl,zm,zn,zo,zp,reduceCtorEq,zE,↓reduceIte]
     all_goals rfl
    ·simp -implicitDefEqProofs only [c136_23_e,c136_24_r,(show opsOf c136_24 = _ :: _ from rfl),yc1,yc2,yd3,yc4,yc6,setA,setB,za,zb,zc,zd,ze,zf,zg,zh,zi,zj,zk,zl,zm,zn,zo,zp,reduceCtorEq,zE,↓reduceIte]
     all_goals rfl
  ·rw [if_neg yc2]; rfl
 ·simp -implicitDefEqProofs only [c136_12_e,K136_6,yc1,setA,setB,za,zb,zc,zd,ze,zf,zg,zh,zi,zj,zk,zl,zm,zn,zo,zp,reduceCtorEq,zE,↓reduceIte]
  exact mi (j136_25_t _)
def l136_6 (s0_0:Bool) (s0_1:List UInt8) (t7 t8:Int):Option R136:=iter (fun x:(Bool×List UInt8×Int×Int)=>s136_6 x.1 x.2.1 x.2.2.1 x.2.2.2) (s0_0,s0_1,t7,t8)
theorem l136_6_t (s0_0:Bool) (s0_1:List UInt8) (t7 t8:Int):bodyD (E0 mm) [.tmp 4] 1 false (seqD (E0 mm) 136 1 (callW (E0 mm)) itW c136_25 (blockD 0 (itW (loopF (E0 mm) 136 1 (callW (E0 mm)) itW c136_7 [(0,.keep),(1,.keep),(7,.keep),(8,.keep)]) (none,[.v (.c (.d (.lst s0_0 (enL enB s0_1)))),.v (.c (.fn 134 [(0,0)])),.v (.c (.d (.sc (.int .i64 t7)))),.v (.c (.d (.sc (.int .i64 t8))))],[.cells [.d (.sc (.func (.func 101) #[] #[]))]])))) = (l136_6 s0_0 s0_1 t7 t8).map e136:=
 it_sim (K:=(K136_6 (mm:=mm))) rfl (enc:=en136_6) (fun x=>s136_6_t x.1 x.2.1 x.2.2.1 x.2.2.2) (s0_0,s0_1,t7,t8)
def m136 (s_0:Bool) (s_1:List UInt8):Option R136:=
 l136_6 s_0 s_1 (s_1.length:Int) (0:Int)
theorem f136_t (s_0:Bool) (s_1:List UInt8):
  callW (E0 mm) 136 [.c (.d (.lst s_0 (enL enB s_1))),.c (.fn 134 [(0,0)])] [.cells [.d (.sc (.func (.func 101) #[] #[]))]] = (m136 s_0 s_1).map e136:=by
 rw [callW_run (body:=c136_0) (res:=[.tmp 4]) Tryz.func136 rfl rfl (by kernel_rfl)]
 simp -implicitDefEqProofs only [m136,slots2,c136_0_e,c136_1_r,(show opsOf c136_1 = _ :: _ from rfl),c136_2_e,c136_3_e,c136_4_r,(show opsOf c136_4 = _ :: _ from rfl),Tryz.underlying22,c136_5_e,c136_6_l,setA,setB,za,zb,zc,zd,ze,zf,zg,zh,zi,zj,zk,zl,zm,zn,zo,zp,reduceCtorEq,zE,↓reduceIte]
 exact l136_6_t s_0 s_1 (s_1.length:Int) (0:Int)
noncomputable def c103_0:Code:=bodyOf Tryz.f103
def c103_1:=cA c103_0
def c103_2:=cB c103_0
def c103_3:=cA c103_2
def c103_4:=cB c103_2
theorem c103_0_e:c103_0 = .seq c103_1 c103_2:=rfl
theorem c103_1_r:RG (E0 mm) 103 c103_1:=rgN rfl
theorem c103_2_e:c103_2 = .seq c103_3 c103_4:=rfl
theorem c103_3_r:RG (E0 mm) 103 c103_3:=rgN rfl
theorem c103_4_e:c103_4 = .ret:=rfl
abbrev R103:=(Bool)
def e103:R103→AV×Heap:=fun x=>(.v (.c (.d (.sc (.bool x)))),[.cells [.d (.sc (.func (.func 101) #[] #[]))]])
def m103 (s_0:Bool) (s_1:List UInt8):Option R103:=
 (m136 s_0 s_1).bind fun yr2=>
  some (decide (0≤yr2))
theorem f103_t (s_0:Bool) (s_1:List UInt8):
  callW (E0 mm) 103 [.c (.d (.lst s_0 (enL enB s_1))),.c (.fn 134 [(0,0)])] [.cells [.d (.sc (.func (.func 101) #[] #[]))]] = (m103 s_0 s_1).map e103:=by
 rw [callW_run (body:=c103_0) (res:=[.tmp 4]) Tryz.func103 rfl rfl (by kernel_rfl)]
 simp -implicitDefEqProofs only [m103,slots2,c103_0_e,c103_1_r,(show opsOf c103_1 = _ :: _ from rfl),c103_2_e,c103_3_r,(show opsOf c103_3 = _ :: _ from rfl),ent136,prm136,f136_t,setA,setB,za,zb,zc,zd,ze,zf,zg,zh,zi,zj,zk,zl,zm,zn,zo,zp,reduceCtorEq,zE,↓reduceIte]
 refine brM (fun yc1=>?_) (fun yr2 yc1=>?_)
 ·rw [yc1]; rfl
 ·simp -implicitDefEqProofs only [e136,c103_4_e,yc1,setA,setB,za,zb,zc,zd,ze,zf,zg,zh,zi,zj,zk,zl,zm,zn,zo,zp,reduceCtorEq,zE,↓reduceIte]
  all_goals rfl
noncomputable def c100_0:Code:=bodyOf Tryz.f100
def c100_1:=cA c100_0
def c100_2:=cB c100_0
def c100_3:=cA c100_2
def c100_4:=cB c100_2
theorem c100_0_e:c100_0 = .seq c100_1 c100_2:=rfl
theorem c100_1_r:RG (E0 mm) 100 c100_1:=rgN rfl
theorem c100_2_e:c100_2 = .seq c100_3 c100_4:=rfl
theorem c100_3_r:RG (E0 mm) 100 c100_3:=rgN rfl
theorem c100_4_e:c100_4 = .ret:=rfl
abbrev R100:=(Bool)
def e100:R100→AV×Heap:=fun x=>(.v (.c (.d (.sc (.bool x)))),[])
def m100 (s:Bs):Option R100:=
 (m103 false s).bind fun yr2=>
  some (!yr2)
theorem f100_t (s:Bs):
  callW (E0 mm) 100 [.c (.d (.sc (.string (S s)))),.c (.d (.sc (.func (.func 101) #[] #[])))] [] = (m100 s).map e100:=by
 rw [callW_run (body:=c100_0) (res:=[.tmp 4]) Tryz.func100 rfl rfl (by kernel_rfl)]
 simp -implicitDefEqProofs only [m100,slots2,c100_0_e,c100_1_r,(show opsOf c100_1 = _ :: _ from rfl),c100_2_e,c100_3_r,(show opsOf c100_3 = _ :: _ from rfl),Tryz.underlying9,Tryz.underlying22,Tryz.underlying5,hd9,rw10,ent103,prm103,(show callW (E0 mm) 103 [.c (.d (.lst false (enL enB s))),.c (.fn 134 [(0,0)])] [.cells [.d (.sc (.func (.func 101) #[] #[]))]] = _ from f103_t false s),setA,setB,za,zb,zc,zd,ze,zf,zg,zh,zi,zj,zk,zl,zm,zn,zo,zp,reduceCtorEq,zE,↓reduceIte]
 refine brM (fun yc1=>?_) (fun yr2 yc1=>?_)
 ·rw [yc1]; rfl
 ·simp -implicitDefEqProofs only [e103,c100_4_e,yc1,setA,setB,za,zb,zc,zd,ze,zf,zg,zh,zi,zj,zk,zl,zm,zn,zo,zp,reduceCtorEq,zE,↓reduceIte]
  all_goals rfl
noncomputable def c66_0:Code:=bodyOf Tryz.f66
def c66_1:=cA c66_0
def c66_2:=cB c66_0
def c66_3:=cA c66_2
def c66_4:=cB c66_2
theorem c66_0_e:c66_0 = .seq c66_1 c66_2:=rfl
theorem c66_1_r:RG (E0 mm) 66 c66_1:=rgN rfl
theorem c66_2_e:c66_2 = .seq c66_3 c66_4:=rfl
theorem c66_3_r:RG (E0 mm) 66 c66_3:=rgN rfl
theorem c66_4_e:c66_4 = .ret:=rfl
abbrev R66:=(Bool)
def e66:R66→AV×Heap:=fun x=>(.v (.c (.d (.sc (.bool x)))),[])
def m66 (s:Bs):Option R66:=
 if (s == ([]:Bs)) = true then
  some false
 else
  (m100 s).bind fun yr3=>
   some yr3
theorem f66_t (s:Bs):
  callW (E0 mm) 66 [.c (.d (.sc (.string (S s))))] [] = (m66 s).map e66:=by
 rw [callW_run (body:=c66_0) (res:=[.tmp 2]) Tryz.func66 rfl rfl (by kernel_rfl)]
 simp -implicitDefEqProofs only [m66,slots1,c66_0_e,c66_1_r,(show opsOf c66_1 = _ :: _ from rfl),c66_2_e,c66_3_r,(show opsOf c66_3 = _ :: _ from rfl),setA,setB,za,zb,zc,zd,ze,zf,zg,zh,zi,zj,zk,zl,zm,zn,zo,zp,reduceCtorEq,zE,↓reduceIte]
 refine brB (fun yc1=>?_) (fun yc1=>?_)
 ·simp -implicitDefEqProofs only [c66_4_e,yc1,setA,setB,za,zb,zc,zd,ze,zf,zg,zh,zi,zj,zk,zl,zm,zn,zo,zp,reduceCtorEq,zE,↓reduceIte]
  all_goals rfl
 ·simp -implicitDefEqProofs only [ent100,prm100,f100_t,yc1,setA,setB,za,zb,zc,zd,ze,zf,zg,zh,zi,zj,zk,zl,zm,zn,zo,zp,reduceCtorEq,zE,↓reduceIte]
  refine brM (fun yc2=>?_) (fun yr3 yc2=>?_)
  ·rw [yc2]; rfl
  ·simp -implicitDefEqProofs only [e100,c66_4_e,yc1,yc2,setA,setB,za,zb,zc,zd,ze,zf,zg,zh,zi,zj,zk,zl,zm,zn,zo,zp,reduceCtorEq,zE,↓reduceIte]
   all_goals rfl
noncomputable def c104_0:Code:=bodyOf Tryz.f104
def c104_1:=cA c104_0
def c104_2:=cB c104_0
def c104_3:=cA c104_2
def c104_4:=cB c104_2
theorem c104_0_e:c104_0 = .seq c104_1 c104_2:=rfl
theorem c104_1_r:RG (E0 mm) 104 c104_1:=rgN rfl
theorem c104_2_e:c104_2 = .seq c104_3 c104_4:=rfl
theorem c104_3_r:RG (E0 mm) 104 c104_3:=rgN rfl
theorem c104_4_e:c104_4 = .ret:=rfl
abbrev R104:=(Bool)
def e104:R104→AV×Heap:=fun x=>(.v (.c (.d (.sc (.bool x)))),[])
def m104 (c:UInt8):Option R104:=
 if (decide (c≤(32:UInt8))) = true then
  some true
 else
  some (decide ((127:UInt8)≤c))
theorem f104_t (c:UInt8):
  callW (E0 mm) 104 [.c (.d (.sc (.int .u8 ((c).toNat:Int))))] [] = (m104 c).map e104:=by
 rw [callW_run (body:=c104_0) (res:=[.tmp 2]) Tryz.func104 rfl rfl (by kernel_rfl)]
 simp -implicitDefEqProofs only [m104,slots1,c104_0_e,c104_1_r,(show opsOf c104_1 = _ :: _ from rfl),c104_2_e,c104_3_r,(show opsOf c104_3 = _ :: _ from rfl),setA,setB,za,zb,zc,zd,ze,zf,zg,zh,zi,zj,zk,zl,zm,zn,zo,zp,reduceCtorEq,zE,↓reduceIte]
 refine brB (fun yc1=>?_) (fun yc1=>?_)
 ·simp -implicitDefEqProofs only [c104_4_e,yc1,setA,setB,za,zb,zc,zd,ze,zf,zg,zh,zi,zj,zk,zl,zm,zn,zo,zp,reduceCtorEq,zE,↓reduceIte]
  all_goals rfl
 ·simp -implicitDefEqProofs only [c104_4_e,yc1,setA,setB,za,zb,zc,zd,ze,zf,zg,zh,zi,zj,zk,zl,zm,zn,zo,zp,reduceCtorEq,zE,↓reduceIte]
  all_goals rfl
abbrev R136a:=(Int)
def e136a:R136a→AV×Heap:=fun x=>(.v (.c (.d (.sc (.int .i64 x)))),[])
def K136a_6:Option (Ex×St)→Option (AV×Heap):=fun r=>bodyD (E0 mm) [.tmp 4] 0 false (seqD (E0 mm) 136 0 (callW (E0 mm)) itW c136_25 (blockD 0 (r)))
def en136a_6:(Bool×List UInt8×Int×Int)→X:=fun x=>(none,[.v (.c (.d (.lst x.1 (enL enB x.2.1)))),.v (.c (.d (.sc (.func (.func 104) #[] #[])))),.v (.c (.d (.sc (.int .i64 x.2.2.1)))),.v (.c (.d (.sc (.int .i64 x.2.2.2))))],[])
def j136a_25  : Option R136a:=
 some (-1:Int)
theorem j136a_25_t   (sl:Nat→AV)  :
  bodyD (E0 mm) [.tmp 4] 0 false (den (E0 mm) 136 0 (callW (E0 mm)) itW c136_25 none ⟨sl,[]⟩) = (j136a_25).map e136a:=by
 simp -implicitDefEqProofs only [j136a_25,c136_25_e,c136_26_r,(show opsOf c136_26 = _ :: _ from rfl),c136_27_e,setA,setB,za,zb,zc,zd,ze,zf,zg,zh,zi,zj,zk,zl,zm,zn,zo,zp,reduceCtorEq,zE,↓reduceIte]
 all_goals rfl
def s136a_6 (s0_0:Bool) (s0_1:List UInt8) (t7 t8:Int):Option ((Bool×List UInt8×Int×Int) ⊕ R136a):=
 if (decide (t8 < t7)) = true then
  if 0≤t8∧t8 < (s0_1.length:Int) then
   (m104 (s0_1.getD t8.toNat default)).bind fun yr5=>
    if yr5 = true then
     some (.inr t8)
    else
     some (.inl (s0_0,s0_1,t7,(w64 (t8 + 1))))
  else none
 else
  (j136a_25).map .inr
theorem s136a_6_t (s0_0:Bool) (s0_1:List UInt8) (t7 t8:Int):
  stepE (K136a_6 (mm:=mm)) (loopF (E0 mm) 136 0 (callW (E0 mm)) itW c136_7 [(0,.keep),(1,.keep),(7,.keep),(8,.keep)] (none,[.v (.c (.d (.lst s0_0 (enL enB s0_1)))),.v (.c (.d (.sc (.func (.func 104) #[] #[])))),.v (.c (.d (.sc (.int .i64 t7)))),.v (.c (.d (.sc (.int .i64 t8))))],[])) = (s136a_6 s0_0 s0_1 t7 t8).map (sm en136a_6 e136a):=by
 simp -implicitDefEqProofs only [s136a_6,loopF_eq,c136_7_e,c136_8_r,(show opsOf c136_8 = _ :: _ from rfl),c136_9_e,(show c136_10 = Code.cond _ c136_11 c136_12 from rfl),setA,setB,za,zb,zc,zd,ze,zf,zg,zh,zi,zj,zk,zl,zm,zn,zo,zp,reduceCtorEq,zE,↓reduceIte]
 refine brB (fun yc1=>?_) (fun yc1=>?_)
 ·simp -implicitDefEqProofs only [c136_11_e,c136_13_e,c136_14_e,c136_15_e,c136_16_r,(show opsOf c136_16 = _ :: _ from rfl),c136_17_e,c136_18_r,(show opsOf c136_18 = _ :: _ from rfl),Tryz.underlying22,sz5,enB_a,yc1,setA,setB,za,zb,zc,zd,ze,zf,zg,zh,zi,zj,zk,zl,zm,zn,zo,zp,reduceCtorEq,zE,↓reduceIte]
  refine brP (fun yc2=>?_) (fun yc2=>?_)
  ·have yd3:t8.toNat < s0_1.length:=by omega
   simp -implicitDefEqProofs only [(enL_get enB s0_1 t8.toNat yd3),enB_e,sz5,ag5,ent104,prm104,f104_t,yc1,yc2,yd3,setA,setB,za,zb,zc,zd,ze,zf,zg,zh,zi,zj,zk,zl,zm,zn,zo,zp,reduceCtorEq,zE,↓reduceIte]
   refine brM (fun yc4=>?_) (fun yr5 yc4=>?_)
   ·rw [yc4]; rfl
   ·simp -implicitDefEqProofs only [e104,(show c136_19 = Code.cond _ c136_20 c136_23 from rfl),yc1,yc2,yd3,yc4,setA,setB,za,zb,zc,zd,ze,zf,zg,zh,zi,zj,zk,zl,zm,zn,zo,zp,reduceCtorEq,zE,↓reduceIte]
    refine brB (fun yc6=>?_) (fun yc6=>?_)
    ·simp -implicitDefEqProofs only [c136_20_e,c136_21_r,(show opsOf c136_21 = _ :: _ from rfl),c136_22_e,K136a_6,yc1,yc2,yd3,yc4,yc6,setA,setB,za,zb,zc,zd,ze,zf,zg,zh,zi,zj,zk,zl,zm,zn,zo,zp,reduceCtorEq,zE,↓reduceIte]
     all_goals rfl
    ·simp -implicitDefEqProofs only [c136_23_e,c136_24_r,(show opsOf c136_24 = _ :: _ from rfl),yc1,yc2,yd3,yc4,yc6,setA,setB,za,zb,zc,zd,ze,zf,zg,zh,zi,zj,zk,zl,zm,zn,zo,zp,reduceCtorEq,zE,↓reduceIte]
     all_goals rfl
  ·rw [if_neg yc2]; rfl
 ·simp -implicitDefEqProofs only [c136_12_e,K136a_6,yc1,setA,setB,za,zb,zc,zd,ze,zf,zg,zh,zi,zj,zk,zl,zm,zn,zo,zp,reduceCtorEq,zE,↓reduceIte]
  exact mi (j136a_25_t _)
def l136a_6 (s0_0:Bool) (s0_1:List UInt8) (t7 t8:Int):Option R136a:=iter (fun x:(Bool×List UInt8×Int×Int)=>s136a_6 x.1 x.2.1 x.2.2.1 x.2.2.2) (s0_0,s0_1,t7,t8)
theorem l136a_6_t (s0_0:Bool) (s0_1:List UInt8) (t7 t8:Int):bodyD (E0 mm) [.tmp 4] 0 false (seqD (E0 mm) 136 0 (callW (E0 mm)) itW c136_25 (blockD 0 (itW (loopF (E0 mm) 136 0 (callW (E0 mm)) itW c136_7 [(0,.keep),(1,.keep),(7,.keep),(8,.keep)]) (none,[.v (.c (.d (.lst s0_0 (enL enB s0_1)))),.v (.c (.d (.sc (.func (.func 104) #[] #[])))),.v (.c (.d (.sc (.int .i64 t7)))),.v (.c (.d (.sc (.int .i64 t8))))],[])))) = (l136a_6 s0_0 s0_1 t7 t8).map e136a:=
 it_sim (K:=(K136a_6 (mm:=mm))) rfl (enc:=en136a_6) (fun x=>s136a_6_t x.1 x.2.1 x.2.2.1 x.2.2.2) (s0_0,s0_1,t7,t8)
def m136a (s_0:Bool) (s_1:List UInt8):Option R136a:=
 l136a_6 s_0 s_1 (s_1.length:Int) (0:Int)
theorem f136a_t (s_0:Bool) (s_1:List UInt8):
  callW (E0 mm) 136 [.c (.d (.lst s_0 (enL enB s_1))),.c (.d (.sc (.func (.func 104) #[] #[])))] [] = (m136a s_0 s_1).map e136a:=by
 rw [callW_run (body:=c136_0) (res:=[.tmp 4]) Tryz.func136 rfl rfl (by kernel_rfl)]
 simp -implicitDefEqProofs only [m136a,slots2,c136_0_e,c136_1_r,(show opsOf c136_1 = _ :: _ from rfl),c136_2_e,c136_3_e,c136_4_r,(show opsOf c136_4 = _ :: _ from rfl),Tryz.underlying22,c136_5_e,c136_6_l,setA,setB,za,zb,zc,zd,ze,zf,zg,zh,zi,zj,zk,zl,zm,zn,zo,zp,reduceCtorEq,zE,↓reduceIte]
 exact l136a_6_t s_0 s_1 (s_1.length:Int) (0:Int)
abbrev R103a:=(Bool)
def e103a:R103a→AV×Heap:=fun x=>(.v (.c (.d (.sc (.bool x)))),[])
def m103a (s_0:Bool) (s_1:List UInt8):Option R103a:=
 (m136a s_0 s_1).bind fun yr2=>
  some (decide (0≤yr2))
theorem f103a_t (s_0:Bool) (s_1:List UInt8):
  callW (E0 mm) 103 [.c (.d (.lst s_0 (enL enB s_1))),.c (.d (.sc (.func (.func 104) #[] #[])))] [] = (m103a s_0 s_1).map e103a:=by
 rw [callW_run (body:=c103_0) (res:=[.tmp 4]) Tryz.func103 rfl rfl (by kernel_rfl)]
 simp -implicitDefEqProofs only [m103a,slots2,c103_0_e,c103_1_r,(show opsOf c103_1 = _ :: _ from rfl),c103_2_e,c103_3_r,(show opsOf c103_3 = _ :: _ from rfl),ent136,prm136,f136a_t,setA,setB,za,zb,zc,zd,ze,zf,zg,zh,zi,zj,zk,zl,zm,zn,zo,zp,reduceCtorEq,zE,↓reduceIte]
 refine brM (fun yc1=>?_) (fun yr2 yc1=>?_)
 ·rw [yc1]; rfl
 ·simp -implicitDefEqProofs only [e136a,c103_4_e,yc1,setA,setB,za,zb,zc,zd,ze,zf,zg,zh,zi,zj,zk,zl,zm,zn,zo,zp,reduceCtorEq,zE,↓reduceIte]
  all_goals rfl
noncomputable def c67_0:Code:=bodyOf Tryz.f67
def c67_1:=cA c67_0
def c67_2:=cB c67_0
def c67_3:=cA c67_2
def c67_4:=cB c67_2
theorem c67_0_e:c67_0 = .seq c67_1 c67_2:=rfl
theorem c67_1_r:RG (E0 mm) 67 c67_1:=rgN rfl
theorem c67_2_e:c67_2 = .seq c67_3 c67_4:=rfl
theorem c67_3_r:RG (E0 mm) 67 c67_3:=rgN rfl
theorem c67_4_e:c67_4 = .ret:=rfl
abbrev R67:=(Bool)
def e67:R67→AV×Heap:=fun x=>(.v (.c (.d (.sc (.bool x)))),[])
def m67 (s:Bs):Option R67:=
 if (s == ([]:Bs)) = true then
  some false
 else
  (m103a false s).bind fun yr3=>
   some (!yr3)
theorem f67_t (s:Bs):
  callW (E0 mm) 67 [.c (.d (.sc (.string (S s))))] [] = (m67 s).map e67:=by
 rw [callW_run (body:=c67_0) (res:=[.tmp 2]) Tryz.func67 rfl rfl (by kernel_rfl)]
 simp -implicitDefEqProofs only [m67,slots1,c67_0_e,c67_1_r,(show opsOf c67_1 = _ :: _ from rfl),c67_2_e,c67_3_r,(show opsOf c67_3 = _ :: _ from rfl),setA,setB,za,zb,zc,zd,ze,zf,zg,zh,zi,zj,zk,zl,zm,zn,zo,zp,reduceCtorEq,zE,↓reduceIte]
 refine brB (fun yc1=>?_) (fun yc1=>?_)
 ·simp -implicitDefEqProofs only [c67_4_e,yc1,setA,setB,za,zb,zc,zd,ze,zf,zg,zh,zi,zj,zk,zl,zm,zn,zo,zp,reduceCtorEq,zE,↓reduceIte]
  all_goals rfl
 ·simp -implicitDefEqProofs only [Tryz.underlying9,Tryz.underlying22,Tryz.underlying5,hd11,rw12,ent103,prm103,(show callW (E0 mm) 103 [.c (.d (.lst false (enL enB s))),.c (.d (.sc (.func (.func 104) #[] #[])))] [] = _ from f103a_t false s),yc1,setA,setB,za,zb,zc,zd,ze,zf,zg,zh,zi,zj,zk,zl,zm,zn,zo,zp,reduceCtorEq,zE,↓reduceIte]
  refine brM (fun yc2=>?_) (fun yr3 yc2=>?_)
  ·rw [yc2]; rfl
  ·simp -implicitDefEqProofs only [e103a,c67_4_e,yc1,yc2,setA,setB,za,zb,zc,zd,ze,zf,zg,zh,zi,zj,zk,zl,zm,zn,zo,zp,reduceCtorEq,zE,↓reduceIte]
   all_goals rfl
noncomputable def c40_0:Code:=bodyOf Tryz.f40
def c40_1:=cA c40_0
def c40_2:=cB c40_0
def c40_3:=cA c40_2
def c40_4:=cB c40_2
def c40_5:=cA c40_4
def c40_6:=cA c40_5
def c40_7:=cB c40_5
def c40_8:=cA c40_7
def c40_9:=cA c40_8
def c40_10:=cB c40_8
def c40_11:=cB c40_7
def c40_12:=cB c40_4
def c40_13:=cA c40_12
def c40_14:=cB c40_12
theorem c40_0_e:c40_0 = .seq c40_1 c40_2:=rfl
theorem c40_1_r:RG (E0 mm) 40 c40_1:=rgN rfl
theorem c40_2_e:c40_2 = .seq c40_3 c40_4:=rfl
theorem c40_3_r:RG (E0 mm) 40 c40_3:=rgN rfl
theorem c40_4_e:c40_4 = .seq c40_5 c40_12:=rfl
theorem c40_5_e:c40_5 = .seq c40_6 c40_7:=rfl
theorem c40_6_r:RG (E0 mm) 40 c40_6:=rgN rfl
theorem c40_8_e:c40_8 = .seq c40_9 c40_10:=rfl
theorem c40_9_r:RG (E0 mm) 40 c40_9:=rgN rfl
theorem c40_10_e:c40_10 = .ret:=rfl
theorem c40_11_e:c40_11 = .skip:=rfl
theorem c40_12_e:c40_12 = .seq c40_13 c40_14:=rfl
theorem c40_13_r:RG (E0 mm) 40 c40_13:=rgN rfl
theorem c40_14_e:c40_14 = .ret:=rfl
abbrev R40:=(Bs×Int)
def e40:R40→AV×Heap:=fun x=>(.tup [.c (.d (.sc (.string (S x.1)))),.c (.d (.sc (.int .i64 x.2)))],[])
def j40_7 (line8:Bs) (t42:Bool):Option R40:=
 if t42 = true then
  some (([]:Bs),(1:Int))
 else
  some (line8,(0:Int))
theorem j40_7_t (line8:Bs) (t42:Bool)  (sl:Nat→AV) (zq8:sl 8 = .v (.c (.d (.sc (.string (S line8)))))) (zq42:sl 42 = .v (.c (.d (.sc (.bool t42))))):
  bodyD (E0 mm) [.tmp 6,.tmp 7] 0 false (seqD (E0 mm) 40 0 (callW (E0 mm)) itW c40_12 (den (E0 mm) 40 0 (callW (E0 mm)) itW c40_7 none ⟨sl,[]⟩)) = (j40_7 line8 t42).map e40:=by
 simp -implicitDefEqProofs only [j40_7,(show c40_7 = Code.cond _ c40_8 c40_11 from rfl),zq8,zq42,setA,setB,za,zb,zc,zd,ze,zf,zg,zh,zi,zj,zk,zl,zm,zn,zo,zp,reduceCtorEq,zE,↓reduceIte]
 refine brB (fun yc11=>?_) (fun yc11=>?_)
 ·simp -implicitDefEqProofs only [c40_8_e,c40_9_r,(show opsOf c40_9 = _ :: _ from rfl),c40_10_e,zq8,zq42,yc11,setA,setB,za,zb,zc,zd,ze,zf,zg,zh,zi,zj,zk,zl,zm,zn,zo,zp,reduceCtorEq,zE,↓reduceIte]
  all_goals rfl
 ·simp -implicitDefEqProofs only [c40_11_e,c40_12_e,c40_13_r,(show opsOf c40_13 = _ :: _ from rfl),c40_14_e,zq8,zq42,yc11,setA,setB,za,zb,zc,zd,ze,zf,zg,zh,zi,zj,zk,zl,zm,zn,zo,zp,reduceCtorEq,zE,↓reduceIte]
  all_goals rfl
def m40 (method xto:Bs) (minor:Int):Option R40:=
 if method.length + 1 < 9223372036854775808 then
  if (method ++ ([32]:Bs)).length + xto.length < 9223372036854775808 then
   if ((method ++ ([32]:Bs)) ++ xto).length + 1 < 9223372036854775808 then
    (m65 minor).bind fun yr5=>
     if (((method ++ ([32]:Bs)) ++ xto) ++ ([32]:Bs)).length + yr5.length < 9223372036854775808 then
      (m66 method).bind fun yr8=>
       if yr8 = true then
        if (decide (32 < (method.length:Int))) = true then
         j40_7 ((((method ++ ([32]:Bs)) ++ xto) ++ ([32]:Bs)) ++ yr5) true
        else
         (m67 xto).bind fun yr13=>
          if yr13 = true then
           if (decide (minor < 0)) = true then
            j40_7 ((((method ++ ([32]:Bs)) ++ xto) ++ ([32]:Bs)) ++ yr5) true
           else
            if (decide (1 < minor)) = true then
             j40_7 ((((method ++ ([32]:Bs)) ++ xto) ++ ([32]:Bs)) ++ yr5) true
            else
             j40_7 ((((method ++ ([32]:Bs)) ++ xto) ++ ([32]:Bs)) ++ yr5) (decide (512 < (((((method ++ ([32]:Bs)) ++ xto) ++ ([32]:Bs)) ++ yr5).length:Int)))
          else
           j40_7 ((((method ++ ([32]:Bs)) ++ xto) ++ ([32]:Bs)) ++ yr5) true
       else
        j40_7 ((((method ++ ([32]:Bs)) ++ xto) ++ ([32]:Bs)) ++ yr5) true
     else none
   else none
  else none
 else none
theorem f40_t (method xto:Bs) (minor:Int):
  callW (E0 mm) 40 [.c (.d (.sc (.string (S method)))),.c (.d (.sc (.string (S xto)))),.c (.d (.sc (.int .i64 minor)))] [] = (m40 method xto minor).map e40:=by
 rw [callW_run (body:=c40_0) (res:=[.tmp 6,.tmp 7]) Tryz.func40 rfl rfl (by kernel_rfl)]
 simp -implicitDefEqProofs only [m40,slots3,c40_0_e,c40_1_r,(show opsOf c40_1 = _ :: _ from rfl),c40_2_e,c40_3_r,(show opsOf c40_3 = _ :: _ from rfl),setA,setB,za,zb,zc,zd,ze,zf,zg,zh,zi,zj,zk,zl,zm,zn,zo,zp,reduceCtorEq,zE,↓reduceIte]
 refine brP (fun yc1=>?_) (fun yc1=>?_)
 ·simp -implicitDefEqProofs only [yc1,setA,setB,za,zb,zc,zd,ze,zf,zg,zh,zi,zj,zk,zl,zm,zn,zo,zp,reduceCtorEq,zE,↓reduceIte]
  refine brP (fun yc2=>?_) (fun yc2=>?_)
  ·simp -implicitDefEqProofs only [yc1,yc2,setA,setB,za,zb,zc,zd,ze,zf,zg,zh,zi,zj,zk,zl,zm,zn,zo,zp,reduceCtorEq,zE,↓reduceIte]
   refine brP (fun yc3=>?_) (fun yc3=>?_)
   ·simp -implicitDefEqProofs only [ent65,prm65,f65_t,yc1,yc2,yc3,setA,setB,za,zb,zc,zd,ze,zf,zg,zh,zi,zj,zk,zl,zm,zn,zo,zp,reduceCtorEq,zE,↓reduceIte]
    refine brM (fun yc4=>?_) (fun yr5 yc4=>?_)
    ·rw [yc4]; rfl
    ·simp -implicitDefEqProofs only [e65,yc1,yc2,yc3,yc4,setA,setB,za,zb,zc,zd,ze,zf,zg,zh,zi,zj,zk,zl,zm,zn,zo,zp,reduceCtorEq,zE,↓reduceIte]
     refine brP (fun yc6=>?_) (fun yc6=>?_)
     ·simp -implicitDefEqProofs only [c40_4_e,c40_5_e,c40_6_r,(show opsOf c40_6 = _ :: _ from rfl),ent66,prm66,f66_t,yc1,yc2,yc3,yc4,yc6,setA,setB,za,zb,zc,zd,ze,zf,zg,zh,zi,zj,zk,zl,zm,zn,zo,zp,reduceCtorEq,zE,↓reduceIte]
      refine brM (fun yc7=>?_) (fun yr8 yc7=>?_)
      ·rw [yc7]; rfl
      ·simp -implicitDefEqProofs only [e66,yc1,yc2,yc3,yc4,yc6,yc7,setA,setB,za,zb,zc,zd,ze,zf,zg,zh,zi,zj,zk,zl,zm,zn,zo,zp,reduceCtorEq,zE,↓reduceIte]
       refine brB (fun yc9=>?_) (fun yc9=>?_)
       ·simp -implicitDefEqProofs only [Tryz.underlying9,yc1,yc2,yc3,yc4,yc6,yc7,yc9,setA,setB,za,zb,zc,zd,ze,zf,zg,zh,zi,zj,zk,zl,zm,zn,zo,zp,reduceCtorEq,zE,↓reduceIte]
        refine brB (fun yc10=>?_) (fun yc10=>?_)
        ·simp -implicitDefEqProofs only [yc1,yc2,yc3,yc4,yc6,yc7,yc9,yc10,setA,setB,za,zb,zc,zd,ze,zf,zg,zh,zi,zj,zk,zl,zm,zn,zo,zp,reduceCtorEq,zE,↓reduceIte]
         exact j40_7_t ((((method ++ ([32]:Bs)) ++ xto) ++ ([32]:Bs)) ++ yr5) true _ (by rfl) (by rfl)
        ·simp -implicitDefEqProofs only [ent67,prm67,f67_t,yc1,yc2,yc3,yc4,yc6,yc7,yc9,yc10,setA,setB,za,zb,zc,zd,ze,zf,zg,zh,zi,zj,zk,zl,zm,zn,zo,zp,reduceCtorEq,zE,↓reduceIte]
         refine brM (fun yc12=>?_) (fun yr13 yc12=>?_)
         ·rw [yc12]; rfl
         ·simp -implicitDefEqProofs only [e67,yc1,yc2,yc3,yc4,yc6,yc7,yc9,yc10,yc12,setA,setB,za,zb,zc,zd,ze,zf,zg,zh,zi,zj,zk,zl,zm,zn,zo,zp,reduceCtorEq,zE,↓reduceIte]
          refine brB (fun yc14=>?_) (fun yc14=>?_)
          ·simp -implicitDefEqProofs only [yc1,yc2,yc3,yc4,yc6,yc7,yc9,yc10,yc12,yc14,setA,setB,za,zb,zc,zd,ze,zf,zg,zh,zi,zj,zk,zl,zm,zn,zo,zp,reduceCtorEq,zE,↓reduceIte]
           refine brB (fun yc15=>?_) (fun yc15=>?_)
           ·simp -implicitDefEqProofs only [yc1,yc2,yc3,yc4,yc6,yc7,yc9,yc10,yc12,yc14,yc15,setA,setB,za,zb,zc,zd,ze,zf,zg,zh,zi,zj,zk,zl,zm,zn,zo,zp,reduceCtorEq,zE,↓reduceIte]
            exact j40_7_t ((((method ++ ([32]:Bs)) ++ xto) ++ ([32]:Bs)) ++ yr5) true _ (by rfl) (by rfl)
           ·simp -implicitDefEqProofs only [yc1,yc2,yc3,yc4,yc6,yc7,yc9,yc10,yc12,yc14,yc15,setA,setB,za,zb,zc,zd,ze,zf,zg,zh,zi,zj,zk,zl,zm,zn,zo,zp,reduceCtorEq,zE,↓reduceIte]
            refine brB (fun yc16=>?_) (fun yc16=>?_)
            ·simp -implicitDefEqProofs only [yc1,yc2,yc3,yc4,yc6,yc7,yc9,yc10,yc12,yc14,yc15,yc16,setA,setB,za,zb,zc,zd,ze,zf,zg,zh,zi,zj,zk,zl,zm,zn,zo,zp,reduceCtorEq,zE,↓reduceIte]
             exact j40_7_t ((((method ++ ([32]:Bs)) ++ xto) ++ ([32]:Bs)) ++ yr5) true _ (by rfl) (by rfl)
            ·simp -implicitDefEqProofs only [Tryz.underlying9,yc1,yc2,yc3,yc4,yc6,yc7,yc9,yc10,yc12,yc14,yc15,yc16,setA,setB,za,zb,zc,zd,ze,zf,zg,zh,zi,zj,zk,zl,zm,zn,zo,zp,reduceCtorEq,zE,↓reduceIte]
             exact j40_7_t ((((method ++ ([32]:Bs)) ++ xto) ++ ([32]:Bs)) ++ yr5) (decide (512 < (((((method ++ ([32]:Bs)) ++ xto) ++ ([32]:Bs)) ++ yr5).length:Int))) _ (by rfl) (by rfl)
          ·simp -implicitDefEqProofs only [yc1,yc2,yc3,yc4,yc6,yc7,yc9,yc10,yc12,yc14,setA,setB,za,zb,zc,zd,ze,zf,zg,zh,zi,zj,zk,zl,zm,zn,zo,zp,reduceCtorEq,zE,↓reduceIte]
           exact j40_7_t ((((method ++ ([32]:Bs)) ++ xto) ++ ([32]:Bs)) ++ yr5) true _ (by rfl) (by rfl)
       ·simp -implicitDefEqProofs only [yc1,yc2,yc3,yc4,yc6,yc7,yc9,setA,setB,za,zb,zc,zd,ze,zf,zg,zh,zi,zj,zk,zl,zm,zn,zo,zp,reduceCtorEq,zE,↓reduceIte]
        exact j40_7_t ((((method ++ ([32]:Bs)) ++ xto) ++ ([32]:Bs)) ++ yr5) true _ (by rfl) (by rfl)
     ·rw [if_neg yc6]; rfl
   ·rw [if_neg yc3]; rfl
  ·rw [if_neg yc2]; rfl
 ·rw [if_neg yc1]; rfl
noncomputable def c25_0:Code:=bodyOf Tryz.f25
def c25_1:=cA c25_0
def c25_2:=cB c25_0
def c25_3:=cA c25_2
def c25_4:=cB c25_2
def c25_5:=cA c25_4
def c25_6:=cA c25_5
def c25_7:=cB c25_5
def c25_8:=cA c25_7
def c25_9:=cA c25_8
def c25_10:=cB c25_8
def c25_11:=cB c25_7
def c25_12:=cB c25_4
def c25_13:=cA c25_12
def c25_14:=cB c25_12
def c25_15:=cA c25_14
def c25_16:=cA c25_15
def c25_17:=cB c25_15
def c25_18:=cA c25_17
def c25_19:=cB c25_17
def c25_20:=cA c25_19
def c25_21:=cA c25_20
def c25_22:=cB c25_20
def c25_23:=cB c25_19
def c25_24:=cB c25_14
def c25_25:=cA c25_24
def c25_26:=cB c25_24
theorem c25_0_e:c25_0 = .seq c25_1 c25_2:=rfl
theorem c25_1_r:RG (E0 mm) 25 c25_1:=rgN rfl
theorem c25_2_e:c25_2 = .seq c25_3 c25_4:=rfl
theorem c25_3_r:RG (E0 mm) 25 c25_3:=rgN rfl
theorem c25_4_e:c25_4 = .seq c25_5 c25_12:=rfl
theorem c25_5_e:c25_5 = .seq c25_6 c25_7:=rfl
theorem c25_6_r:RG (E0 mm) 25 c25_6:=rgN rfl
theorem c25_8_e:c25_8 = .seq c25_9 c25_10:=rfl
theorem c25_9_r:RG (E0 mm) 25 c25_9:=rgN rfl
theorem c25_10_e:c25_10 = .ret:=rfl
theorem c25_11_e:c25_11 = .skip:=rfl
theorem c25_12_e:c25_12 = .seq c25_13 c25_14:=rfl
theorem c25_13_r:RG (E0 mm) 25 c25_13:=rgN rfl
theorem c25_14_e:c25_14 = .seq c25_15 c25_24:=rfl
theorem c25_15_e:c25_15 = .seq c25_16 c25_17:=rfl
theorem c25_16_r:RG (E0 mm) 25 c25_16:=rgD (by kernel_rfl)
theorem c25_17_e:c25_17 = .seq c25_18 c25_19:=rfl
theorem c25_18_r:RG (E0 mm) 25 c25_18:=rgN rfl
theorem c25_20_e:c25_20 = .seq c25_21 c25_22:=rfl
theorem c25_21_r:RG (E0 mm) 25 c25_21:=rgN rfl
theorem c25_22_e:c25_22 = .ret:=rfl
theorem c25_23_e:c25_23 = .skip:=rfl
theorem c25_24_e:c25_24 = .seq c25_25 c25_26:=rfl
theorem c25_25_r:RG (E0 mm) 25 c25_25:=rgD (by kernel_rfl)
theorem c25_26_e:c25_26 = .ret:=rfl
abbrev R25:=(Bs×Bs×Int×Int)
def e25:R25→AV×Heap:=fun x=>(.tup [.c (.d (.sc (.string (S x.1)))),.c (.d (.sc (.string (S x.2.1)))),.c (.d (.sc (.int .i64 x.2.2.1))),.c (.d (.sc (.int .i64 x.2.2.2)))],[])
def j25_19 (l6_0:Bool) (l6_1:List Bs) (minor7:Int) (t42:Bool):Option R25:=
 if t42 = true then
  some (([]:Bs),([]:Bs),(0:Int),(5:Int))
 else
  if (0:Int) < (l6_1.length:Int) then
   if (1:Int) < (l6_1.length:Int) then
    some ((l6_1.getD 0 default),(l6_1.getD 1 default),minor7,(0:Int))
   else none
  else none
theorem j25_19_t (l6_0:Bool) (l6_1:List Bs) (minor7:Int) (t42:Bool)  (sl:Nat→AV) (zq6:sl 6 = .v (.c (.d (.lst l6_0 (enL enS l6_1))))) (zq7:sl 7 = .v (.c (.d (.sc (.int .i64 minor7))))) (zq42:sl 42 = .v (.c (.d (.sc (.bool t42))))):
  bodyD (E0 mm) [.tmp 2,.tmp 3,.tmp 4,.tmp 5] 0 false (seqD (E0 mm) 25 0 (callW (E0 mm)) itW c25_24 (den (E0 mm) 25 0 (callW (E0 mm)) itW c25_19 none ⟨sl,[]⟩)) = (j25_19 l6_0 l6_1 minor7 t42).map e25:=by
 simp -implicitDefEqProofs only [j25_19,(show c25_19 = Code.cond _ c25_20 c25_23 from rfl),zq6,zq7,zq42,setA,setB,za,zb,zc,zd,ze,zf,zg,zh,zi,zj,zk,zl,zm,zn,zo,zp,reduceCtorEq,zE,↓reduceIte]
 refine brB (fun yc18=>?_) (fun yc18=>?_)
 ·simp -implicitDefEqProofs only [c25_20_e,c25_21_r,(show opsOf c25_21 = _ :: _ from rfl),c25_22_e,zq6,zq7,zq42,yc18,setA,setB,za,zb,zc,zd,ze,zf,zg,zh,zi,zj,zk,zl,zm,zn,zo,zp,reduceCtorEq,zE,↓reduceIte]
  all_goals rfl
 ·simp -implicitDefEqProofs only [c25_23_e,c25_24_e,c25_25_r,(show opsOf c25_25 = _ :: _ from rfl),Tryz.underlying101,sz9,enS_a,zq6,zq7,zq42,yc18,setA,setB,za,zb,zc,zd,ze,zf,zg,zh,zi,zj,zk,zl,zm,zn,zo,zp,reduceCtorEq,zE,↓reduceIte]
  refine brP (fun yc19=>?_) (fun yc19=>?_)
  ·have yd20:0 < l6_1.length:=by omega
   simp -implicitDefEqProofs only [(enL_get enS l6_1 0 yd20),enS_e,sz9,ag9,Tryz.underlying101,enS_a,zq6,zq7,zq42,yc18,yc19,yd20,setA,setB,za,zb,zc,zd,ze,zf,zg,zh,zi,zj,zk,zl,zm,zn,zo,zp,reduceCtorEq,zE,↓reduceIte]
   refine brP (fun yc21=>?_) (fun yc21=>?_)
   ·have yd22:1 < l6_1.length:=by omega
    simp -implicitDefEqProofs only [(enL_get enS l6_1 1 yd22),enS_e,sz9,ag9,c25_26_e,zq6,zq7,zq42,yc18,yc19,yd20,yc21,yd22,setA,setB,za,zb,zc,zd,ze,zf,zg,zh,zi,zj,zk,zl,zm,zn,zo,zp,reduceCtorEq,zE,↓reduceIte]
    all_goals rfl
   ·rw [if_neg yc21]; rfl
  ·rw [if_neg yc19]; rfl
def j25_7 (line0:Bs) (l6_0:Bool) (l6_1:List Bs) (t20:Bool):Option R25:=
 if t20 = true then
  some (([]:Bs),([]:Bs),(0:Int),(5:Int))
 else
  if (2:Int) < (l6_1.length:Int) then
   (m49 (l6_1.getD 2 default)).bind fun yr10=>
    if (0:Int) < (l6_1.length:Int) then
     if (1:Int) < (l6_1.length:Int) then
      (m40 (l6_1.getD 0 default) (l6_1.getD 1 default) yr10).bind fun yr16=>
       if (yr16.2 == 0) = true then
        j25_19 l6_0 l6_1 yr10 (!(yr16.1 == line0))
       else
        j25_19 l6_0 l6_1 yr10 true
     else none
    else none
  else none
theorem j25_7_t (line0:Bs) (l6_0:Bool) (l6_1:List Bs) (t20:Bool)  (sl:Nat→AV) (zq0:sl 0 = .v (.c (.d (.sc (.string (S line0)))))) (zq6:sl 6 = .v (.c (.d (.lst l6_0 (enL enS l6_1))))) (zq20:sl 20 = .v (.c (.d (.sc (.bool t20))))):
  bodyD (E0 mm) [.tmp 2,.tmp 3,.tmp 4,.tmp 5] 0 false (seqD (E0 mm) 25 0 (callW (E0 mm)) itW c25_12 (den (E0 mm) 25 0 (callW (E0 mm)) itW c25_7 none ⟨sl,[]⟩)) = (j25_7 line0 l6_0 l6_1 t20).map e25:=by
 simp -implicitDefEqProofs only [j25_7,(show c25_7 = Code.cond _ c25_8 c25_11 from rfl),zq0,zq6,zq20,setA,setB,za,zb,zc,zd,ze,zf,zg,zh,zi,zj,zk,zl,zm,zn,zo,zp,reduceCtorEq,zE,↓reduceIte]
 refine brB (fun yc6=>?_) (fun yc6=>?_)
 ·simp -implicitDefEqProofs only [c25_8_e,c25_9_r,(show opsOf c25_9 = _ :: _ from rfl),c25_10_e,zq0,zq6,zq20,yc6,setA,setB,za,zb,zc,zd,ze,zf,zg,zh,zi,zj,zk,zl,zm,zn,zo,zp,reduceCtorEq,zE,↓reduceIte]
  all_goals rfl
 ·simp -implicitDefEqProofs only [c25_11_e,c25_12_e,c25_13_r,(show opsOf c25_13 = _ :: _ from rfl),Tryz.underlying101,sz9,enS_a,zq0,zq6,zq20,yc6,setA,setB,za,zb,zc,zd,ze,zf,zg,zh,zi,zj,zk,zl,zm,zn,zo,zp,reduceCtorEq,zE,↓reduceIte]
  refine brP (fun yc7=>?_) (fun yc7=>?_)
  ·have yd8:2 < l6_1.length:=by omega
   simp -implicitDefEqProofs only [(enL_get enS l6_1 2 yd8),enS_e,sz9,ag9,ent49,prm49,f49_t,zq0,zq6,zq20,yc6,yc7,yd8,setA,setB,za,zb,zc,zd,ze,zf,zg,zh,zi,zj,zk,zl,zm,zn,zo,zp,reduceCtorEq,zE,↓reduceIte]
   refine brM (fun yc9=>?_) (fun yr10 yc9=>?_)
   ·rw [yc9]; rfl
   ·simp -implicitDefEqProofs only [e49,c25_14_e,c25_15_e,c25_16_r,(show opsOf c25_16 = _ :: _ from rfl),Tryz.underlying101,sz9,enS_a,zq0,zq6,zq20,yc6,yc7,yd8,yc9,setA,setB,za,zb,zc,zd,ze,zf,zg,zh,zi,zj,zk,zl,zm,zn,zo,zp,reduceCtorEq,zE,↓reduceIte]
    refine brP (fun yc11=>?_) (fun yc11=>?_)
    ·have yd12:0 < l6_1.length:=by omega
     simp -implicitDefEqProofs only [(enL_get enS l6_1 0 yd12),enS_e,sz9,ag9,Tryz.underlying101,enS_a,zq0,zq6,zq20,yc6,yc7,yd8,yc9,yc11,yd12,setA,setB,za,zb,zc,zd,ze,zf,zg,zh,zi,zj,zk,zl,zm,zn,zo,zp,reduceCtorEq,zE,↓reduceIte]
     refine brP (fun yc13=>?_) (fun yc13=>?_)
     ·have yd14:1 < l6_1.length:=by omega
      simp -implicitDefEqProofs only [(enL_get enS l6_1 1 yd14),enS_e,sz9,ag9,ent40,prm40,f40_t,zq0,zq6,zq20,yc6,yc7,yd8,yc9,yc11,yd12,yc13,yd14,setA,setB,za,zb,zc,zd,ze,zf,zg,zh,zi,zj,zk,zl,zm,zn,zo,zp,reduceCtorEq,zE,↓reduceIte]
      refine brM (fun yc15=>?_) (fun yr16 yc15=>?_)
      ·rw [yc15]; rfl
      ·simp -implicitDefEqProofs only [e40,c25_17_e,c25_18_r,(show opsOf c25_18 = _ :: _ from rfl),zq0,zq6,zq20,yc6,yc7,yd8,yc9,yc11,yd12,yc13,yd14,yc15,setA,setB,za,zb,zc,zd,ze,zf,zg,zh,zi,zj,zk,zl,zm,zn,zo,zp,reduceCtorEq,zE,↓reduceIte]
       refine brB (fun yc17=>?_) (fun yc17=>?_)
       ·simp -implicitDefEqProofs only [zq0,zq6,zq20,yc6,yc7,yd8,yc9,yc11,yd12,yc13,yd14,yc15,yc17,setA,setB,za,zb,zc,zd,ze,zf,zg,zh,zi,zj,zk,zl,zm,zn,zo,zp,reduceCtorEq,zE,↓reduceIte]
        exact j25_19_t l6_0 l6_1 yr10 (!(yr16.1 == line0)) _ (by exact zq6) (by rfl) (by rfl)
       ·simp -implicitDefEqProofs only [zq0,zq6,zq20,yc6,yc7,yd8,yc9,yc11,yd12,yc13,yd14,yc15,yc17,setA,setB,za,zb,zc,zd,ze,zf,zg,zh,zi,zj,zk,zl,zm,zn,zo,zp,reduceCtorEq,zE,↓reduceIte]
        exact j25_19_t l6_0 l6_1 yr10 true _ (by exact zq6) (by rfl) (by rfl)
     ·rw [if_neg yc13]; rfl
    ·rw [if_neg yc11]; rfl
  ·rw [if_neg yc7]; rfl
def m25 (line:Bs):Option R25:=
 (mSplit line ([32]:Bs)).bind fun yr2=>
  if ((yr2.length:Int) == 3) = true then
   if (2:Int) < (yr2.length:Int) then
    j25_7 line false yr2 ((yr2.getD 2 default) == ([]:Bs))
   else none
  else
   j25_7 line false yr2 true
theorem f25_t (line:Bs):
  callW (E0 mm) 25 [.c (.d (.sc (.string (S line))))] [] = (m25 line).map e25:=by
 rw [callW_run (body:=c25_0) (res:=[.tmp 2,.tmp 3,.tmp 4,.tmp 5]) Tryz.func25 rfl rfl (by kernel_rfl)]
 simp -implicitDefEqProofs only [m25,slots1,c25_0_e,c25_1_r,(show opsOf c25_1 = _ :: _ from rfl),c25_2_e,c25_3_r,(show opsOf c25_3 = _ :: _ from rfl),ent48,prm48,pSplit_t,setA,setB,za,zb,zc,zd,ze,zf,zg,zh,zi,zj,zk,zl,zm,zn,zo,zp,reduceCtorEq,zE,↓reduceIte]
 refine brM (fun yc1=>?_) (fun yr2 yc1=>?_)
 ·rw [yc1]; rfl
 ·simp -implicitDefEqProofs only [pSplit_t,c25_4_e,c25_5_e,c25_6_r,(show opsOf c25_6 = _ :: _ from rfl),Tryz.underlying101,yc1,setA,setB,za,zb,zc,zd,ze,zf,zg,zh,zi,zj,zk,zl,zm,zn,zo,zp,reduceCtorEq,zE,↓reduceIte]
  refine brB (fun yc3=>?_) (fun yc3=>?_)
  ·simp -implicitDefEqProofs only [Tryz.underlying101,sz9,enS_a,yc1,yc3,setA,setB,za,zb,zc,zd,ze,zf,zg,zh,zi,zj,zk,zl,zm,zn,zo,zp,reduceCtorEq,zE,↓reduceIte]
   refine brP (fun yc4=>?_) (fun yc4=>?_)
   ·have yd5:2 < yr2.length:=by omega
    simp -implicitDefEqProofs only [(enL_get enS yr2 2 yd5),enS_e,sz9,ag9,yc1,yc3,yc4,yd5,setA,setB,za,zb,zc,zd,ze,zf,zg,zh,zi,zj,zk,zl,zm,zn,zo,zp,reduceCtorEq,zE,↓reduceIte]
    exact j25_7_t line false yr2 ((yr2.getD 2 default) == ([]:Bs)) _ (by rfl) (by rfl) (by rfl)
   ·rw [if_neg yc4]; rfl
  ·simp -implicitDefEqProofs only [yc1,yc3,setA,setB,za,zb,zc,zd,ze,zf,zg,zh,zi,zj,zk,zl,zm,zn,zo,zp,reduceCtorEq,zE,↓reduceIte]
   exact j25_7_t line false yr2 true _ (by rfl) (by rfl) (by rfl)
noncomputable def c24_0:Code:=bodyOf Tryz.f24
def c24_1:=cA c24_0
def c24_2:=cB c24_0
def c24_3:=cA c24_2
def c24_4:=cB c24_2
def c24_5:=cA c24_4
def c24_6:=cB c24_4
theorem c24_0_e:c24_0 = .seq c24_1 c24_2:=rfl
theorem c24_1_r:RG (E0 mm) 24 c24_1:=rgN rfl
theorem c24_2_e:c24_2 = .seq c24_3 c24_4:=rfl
theorem c24_3_r:RG (E0 mm) 24 c24_3:=rgN rfl
theorem c24_4_e:c24_4 = .seq c24_5 c24_6:=rfl
theorem c24_5_r:RG (E0 mm) 24 c24_5:=rgN rfl
theorem c24_6_e:c24_6 = .ret:=rfl
abbrev R24:=(Bs×Bs×Int×Bool×List (Bs×Bs)×Bool×List UInt8×Int)
def e24:R24→AV×Heap:=fun x=>(.tup [.agg [.d (.sc (.string (S x.1))),.d (.sc (.string (S x.2.1))),.d (.sc (.int .i64 x.2.2.1)),.d (.lst x.2.2.2.1 (enL enSS x.2.2.2.2.1)),.d (.lst x.2.2.2.2.2.1 (enL enB x.2.2.2.2.2.2.1))],.c (.d (.sc (.int .i64 x.2.2.2.2.2.2.2)))],[])
def m24 (line:Bs):Option R24:=
 (m25 line).bind fun yr2=>
  some (yr2.1,yr2.2.1,yr2.2.2.1,true,([]:List (Bs×Bs)),true,([]:List UInt8),yr2.2.2.2)
theorem f24_t (line:Bs):
  callW (E0 mm) 24 [.c (.d (.sc (.string (S line))))] [] = (m24 line).map e24:=by
 rw [callW_run (body:=c24_0) (res:=[.cell 2 25,.tmp 3]) Tryz.func24 rfl rfl (by kernel_rfl)]
 simp -implicitDefEqProofs only [m24,slots1,c24_0_e,c24_1_r,(show opsOf c24_1 = _ :: _ from rfl),zc25,ao8,c24_2_e,c24_3_r,(show opsOf c24_3 = _ :: _ from rfl),ent25,prm25,f25_t,setA,setB,za,zb,zc,zd,ze,zf,zg,zh,zi,zj,zk,zl,zm,zn,zo,zp,reduceCtorEq,zE,↓reduceIte]
 refine brM (fun yc1=>?_) (fun yr2 yc1=>?_)
 ·rw [yc1]; rfl
 ·simp -implicitDefEqProofs only [e25,Tryz.underlying25,sz9,sz3,c24_4_e,c24_5_r,(show opsOf c24_5 = _ :: _ from rfl),sz25,ag25,c24_6_e,yc1,setA,setB,za,zb,zc,zd,ze,zf,zg,zh,zi,zj,zk,zl,zm,zn,zo,zp,reduceCtorEq,zE,↓reduceIte]
  all_goals rfl
noncomputable def c79_0:Code:=bodyOf Tryz.f79
def c79_1:=cA c79_0
def c79_2:=cB c79_0
def c79_3:=cA c79_2
def c79_4:=cA c79_3
def c79_5:=cA c79_4
def c79_6:=cB c79_4
def c79_7:=cA c79_6
def c79_8:=cA c79_7
def c79_9:=cB c79_7
def c79_10:=cB c79_6
def c79_11:=cA c79_10
def c79_12:=cB c79_10
def c79_13:=cA c79_12
def c79_14:=cA c79_13
def c79_15:=cB c79_13
def c79_16:=cB c79_12
def c79_17:=cB c79_2
def c79_18:=cA c79_17
def c79_19:=cB c79_17
def c79_20:=cA c79_19
def c79_21:=cB c79_19
def c79_22:=cA c79_21
def c79_23:=cB c79_21
theorem c79_0_e:c79_0 = .seq c79_1 c79_2:=rfl
theorem c79_1_r:RG (E0 mm) 79 c79_1:=rgN rfl
theorem c79_2_e:c79_2 = .seq c79_3 c79_17:=rfl
theorem c79_3_e:c79_3 = .block 0 c79_4:=rfl
theorem c79_4_e:c79_4 = .seq c79_5 c79_6:=rfl
theorem c79_5_r:RG (E0 mm) 79 c79_5:=rgD (by kernel_rfl)
theorem c79_7_e:c79_7 = .seq c79_8 c79_9:=rfl
theorem c79_8_r:RG (E0 mm) 79 c79_8:=rgN rfl
theorem c79_9_e:c79_9 = .ret:=rfl
theorem c79_10_e:c79_10 = .seq c79_11 c79_12:=rfl
theorem c79_11_r:RG (E0 mm) 79 c79_11:=rgN rfl
theorem c79_13_e:c79_13 = .seq c79_14 c79_15:=rfl
theorem c79_14_r:RG (E0 mm) 79 c79_14:=rgN rfl
theorem c79_15_e:c79_15 = .ret:=rfl
theorem c79_16_e:c79_16 = .skip:=rfl
theorem c79_17_e:c79_17 = .seq c79_18 c79_19:=rfl
theorem c79_18_r:RG (E0 mm) 79 c79_18:=rgD (by kernel_rfl)
theorem c79_19_e:c79_19 = .seq c79_20 c79_21:=rfl
theorem c79_20_r:RG (E0 mm) 79 c79_20:=rgN rfl
theorem c79_21_e:c79_21 = .seq c79_22 c79_23:=rfl
theorem c79_22_r:RG (E0 mm) 79 c79_22:=rgN rfl
theorem c79_23_e:c79_23 = .ret:=rfl
abbrev R79:=(Int×Bool×List UInt8×Int×UInt8)
def e79:R79→AV×Heap:=fun x=>(.v (.c (.d (.sc (.int .i64 x.1)))),[.cells [.d (.lst x.2.1 (enL enB x.2.2.1)),.d (.sc (.int .i64 x.2.2.2.1)),.d (.sc (.int .u8 ((x.2.2.2.2).toNat:Int)))]])
def m79 (h0_0_0:Bool) (h0_0_1:List UInt8) (h0_1:Int) (h0_2:UInt8):Option R79:=
 if (h0_1 == (h0_0_1.length:Int)) = true then
  some ((8:Int),h0_0_0,h0_0_1,h0_1,h0_2)
 else
  if (h0_1 == 2048) = true then
   some ((21:Int),h0_0_0,h0_0_1,h0_1,h0_2)
  else
   if 0≤h0_1∧h0_1 < (h0_0_1.length:Int) then
    some ((0:Int),h0_0_0,h0_0_1,(w64 (h0_1 + 1)),(h0_0_1.getD h0_1.toNat default))
   else none
theorem f79_t (h0_0_0:Bool) (h0_0_1:List UInt8) (h0_1:Int) (h0_2:UInt8):
  callW (E0 mm) 79 [.c (.ptr 0 0)] [.cells [.d (.lst h0_0_0 (enL enB h0_0_1)),.d (.sc (.int .i64 h0_1)),.d (.sc (.int .u8 ((h0_2).toNat:Int)))]] = (m79 h0_0_0 h0_0_1 h0_1 h0_2).map e79:=by
 rw [callW_run (body:=c79_0) (res:=[.tmp 2]) Tryz.func79 rfl rfl (by kernel_rfl)]
 simp -implicitDefEqProofs only [m79,slots1,c79_0_e,c79_1_r,(show opsOf c79_1 = _ :: _ from rfl),c79_2_e,c79_3_e,c79_4_e,c79_5_r,(show opsOf c79_5 = _ :: _ from rfl),Tryz.underlying135,sz3,ag3,sz22,ag22,Tryz.underlying22,(show c79_6 = Code.cond _ c79_7 c79_10 from rfl),setA,setB,za,zb,zc,zd,ze,zf,zg,zh,zi,zj,zk,zl,zm,zn,zo,zp,reduceCtorEq,zE,↓reduceIte]
 refine brB (fun yc1=>?_) (fun yc1=>?_)
 ·simp -implicitDefEqProofs only [c79_7_e,c79_8_r,(show opsOf c79_8 = _ :: _ from rfl),c79_9_e,yc1,setA,setB,za,zb,zc,zd,ze,zf,zg,zh,zi,zj,zk,zl,zm,zn,zo,zp,reduceCtorEq,zE,↓reduceIte]
  all_goals rfl
 ·simp -implicitDefEqProofs only [c79_10_e,c79_11_r,(show opsOf c79_11 = _ :: _ from rfl),Tryz.underlying135,sz3,ag3,(show c79_12 = Code.cond _ c79_13 c79_16 from rfl),yc1,setA,setB,za,zb,zc,zd,ze,zf,zg,zh,zi,zj,zk,zl,zm,zn,zo,zp,reduceCtorEq,zE,↓reduceIte]
  refine brB (fun yc2=>?_) (fun yc2=>?_)
  ·simp -implicitDefEqProofs only [c79_13_e,c79_14_r,(show opsOf c79_14 = _ :: _ from rfl),c79_15_e,yc1,yc2,setA,setB,za,zb,zc,zd,ze,zf,zg,zh,zi,zj,zk,zl,zm,zn,zo,zp,reduceCtorEq,zE,↓reduceIte]
   all_goals rfl
  ·simp -implicitDefEqProofs only [c79_16_e,c79_17_e,c79_18_r,(show opsOf c79_18 = _ :: _ from rfl),Tryz.underlying135,sz22,ag22,sz3,ag3,Tryz.underlying22,sz5,enB_a,yc1,yc2,setA,setB,za,zb,zc,zd,ze,zf,zg,zh,zi,zj,zk,zl,zm,zn,zo,zp,reduceCtorEq,zE,↓reduceIte]
   refine brP (fun yc3=>?_) (fun yc3=>?_)
   ·have yd4:h0_1.toNat < h0_0_1.length:=by omega
    simp -implicitDefEqProofs only [(enL_get enB h0_0_1 h0_1.toNat yd4),enB_e,sz5,ag5,Tryz.underlying135,c79_19_e,c79_20_r,(show opsOf c79_20 = _ :: _ from rfl),sz3,ag3,c79_21_e,c79_22_r,(show opsOf c79_22 = _ :: _ from rfl),c79_23_e,yc1,yc2,yc3,yd4,setA,setB,za,zb,zc,zd,ze,zf,zg,zh,zi,zj,zk,zl,zm,zn,zo,zp,reduceCtorEq,zE,↓reduceIte]
    all_goals rfl
   ·rw [if_neg yc3]; rfl
noncomputable def c80_0:Code:=bodyOf Tryz.f80
def c80_1:=cA c80_0
def c80_2:=cB c80_0
def c80_3:=cA c80_2
def c80_4:=cB c80_2
theorem c80_0_e:c80_0 = .seq c80_1 c80_2:=rfl
theorem c80_1_r:RG (E0 mm) 80 c80_1:=rgN rfl
theorem c80_2_e:c80_2 = .seq c80_3 c80_4:=rfl
theorem c80_3_r:RG (E0 mm) 80 c80_3:=rgN rfl
theorem c80_4_e:c80_4 = .ret:=rfl
abbrev R80:=(Bool)
def e80:R80→AV×Heap:=fun x=>(.v (.c (.d (.sc (.bool x)))),[])
def m80 (c:UInt8):Option R80:=
 (m66 ([c]:List UInt8)).bind fun yr2=>
  some yr2
theorem f80_t (c:UInt8):
  callW (E0 mm) 80 [.c (.d (.sc (.int .u8 ((c).toNat:Int))))] [] = (m80 c).map e80:=by
 rw [callW_run (body:=c80_0) (res:=[.tmp 2]) Tryz.func80 rfl rfl (by kernel_rfl)]
 simp -implicitDefEqProofs only [m80,slots1,c80_0_e,c80_1_r,(show opsOf c80_1 = _ :: _ from rfl),c80_2_e,c80_3_r,(show opsOf c80_3 = _ :: _ from rfl),Tryz.underlying22,sz5,zc5,hd13,nv14,rw15,ns16,Tryz.underlying9,Tryz.underlying5,ent66,prm66,(show callW (E0 mm) 66 [.c (.d (.sc (.string (S ([c]:List UInt8)))))] [] = _ from f66_t ([c]:List UInt8)),setA,setB,za,zb,zc,zd,ze,zf,zg,zh,zi,zj,zk,zl,zm,zn,zo,zp,reduceCtorEq,zE,↓reduceIte]
 refine brM (fun yc1=>?_) (fun yr2 yc1=>?_)
 ·rw [yc1]; rfl
 ·simp -implicitDefEqProofs only [e66,c80_4_e,yc1,setA,setB,za,zb,zc,zd,ze,zf,zg,zh,zi,zj,zk,zl,zm,zn,zo,zp,reduceCtorEq,zE,↓reduceIte]
  all_goals rfl
noncomputable def c112_0:Code:=bodyOf Tryz.f112
def c112_1:=cA c112_0
def c112_2:=cB c112_0
def c112_3:=cA c112_2
def c112_4:=cB c112_2
theorem c112_0_e:c112_0 = .seq c112_1 c112_2:=rfl
theorem c112_1_r:RG (E0 mm) 112 c112_1:=rgN rfl
theorem c112_2_e:c112_2 = .seq c112_3 c112_4:=rfl
theorem c112_3_r:RG (E0 mm) 112 c112_3:=rgN rfl
theorem c112_4_e:c112_4 = .ret:=rfl
abbrev R112:=(Bool)
def e112:R112→AV×Heap:=fun x=>(.v (.c (.d (.sc (.bool x)))),[])
def m112 (c:UInt8):Option R112:=
 if (c == (9:UInt8)) = true then
  some true
 else
  if (decide ((32:UInt8)≤c)) = true then
   some (!(c == (127:UInt8)))
  else
   some false
theorem f112_t (c:UInt8):
  callW (E0 mm) 112 [.c (.d (.sc (.int .u8 ((c).toNat:Int))))] [] = (m112 c).map e112:=by
 rw [callW_run (body:=c112_0) (res:=[.tmp 2]) Tryz.func112 rfl rfl (by kernel_rfl)]
 simp -implicitDefEqProofs only [m112,slots1,c112_0_e,c112_1_r,(show opsOf c112_1 = _ :: _ from rfl),c112_2_e,c112_3_r,(show opsOf c112_3 = _ :: _ from rfl),setA,setB,za,zb,zc,zd,ze,zf,zg,zh,zi,zj,zk,zl,zm,zn,zo,zp,reduceCtorEq,zE,↓reduceIte]
 refine brB (fun yc1=>?_) (fun yc1=>?_)
 ·simp -implicitDefEqProofs only [c112_4_e,yc1,setA,setB,za,zb,zc,zd,ze,zf,zg,zh,zi,zj,zk,zl,zm,zn,zo,zp,reduceCtorEq,zE,↓reduceIte]
  all_goals rfl
 ·simp -implicitDefEqProofs only [yc1,setA,setB,za,zb,zc,zd,ze,zf,zg,zh,zi,zj,zk,zl,zm,zn,zo,zp,reduceCtorEq,zE,↓reduceIte]
  refine brB (fun yc2=>?_) (fun yc2=>?_)
  ·simp -implicitDefEqProofs only [c112_4_e,yc1,yc2,setA,setB,za,zb,zc,zd,ze,zf,zg,zh,zi,zj,zk,zl,zm,zn,zo,zp,reduceCtorEq,zE,↓reduceIte]
   all_goals rfl
  ·simp -implicitDefEqProofs only [c112_4_e,yc1,yc2,setA,setB,za,zb,zc,zd,ze,zf,zg,zh,zi,zj,zk,zl,zm,zn,zo,zp,reduceCtorEq,zE,↓reduceIte]
   all_goals rfl
abbrev R134a:=(Bool)
def e134a:R134a→AV×Heap:=fun x=>(.v (.c (.d (.sc (.bool x)))),[.cells [.d (.sc (.func (.func 112) #[] #[]))]])
def m134a (c:UInt8):Option R134a:=
 (m112 c).bind fun yr2=>
  some (!yr2)
theorem f134a_t (c:UInt8):
  callW (E0 mm) 134 [.c (.d (.sc (.int .u8 ((c).toNat:Int)))),.c (.ptr 0 0)] [.cells [.d (.sc (.func (.func 112) #[] #[]))]] = (m134a c).map e134a:=by
 rw [callW_run (body:=c134_0) (res:=[.tmp 3]) Tryz.func134 rfl rfl (by kernel_rfl)]
 simp -implicitDefEqProofs only [m134a,slots2,c134_0_e,c134_1_r,(show opsOf c134_1 = _ :: _ from rfl),c134_2_e,c134_3_r,(show opsOf c134_3 = _ :: _ from rfl),sz137,ag137,ent112,prm112,f112_t,setA,setB,za,zb,zc,zd,ze,zf,zg,zh,zi,zj,zk,zl,zm,zn,zo,zp,reduceCtorEq,zE,↓reduceIte]
 refine brM (fun yc1=>?_) (fun yr2 yc1=>?_)
 ·rw [yc1]; rfl
 ·simp -implicitDefEqProofs only [e112,c134_4_e,yc1,setA,setB,za,zb,zc,zd,ze,zf,zg,zh,zi,zj,zk,zl,zm,zn,zo,zp,reduceCtorEq,zE,↓reduceIte]
  all_goals rfl
abbrev R136b:=(Int)
def e136b:R136b→AV×Heap:=fun x=>(.v (.c (.d (.sc (.int .i64 x)))),[.cells [.d (.sc (.func (.func 112) #[] #[]))]])
def K136b_6:Option (Ex×St)→Option (AV×Heap):=fun r=>bodyD (E0 mm) [.tmp 4] 1 false (seqD (E0 mm) 136 1 (callW (E0 mm)) itW c136_25 (blockD 0 (r)))
def en136b_6:(Bool×List UInt8×Int×Int)→X:=fun x=>(none,[.v (.c (.d (.lst x.1 (enL enB x.2.1)))),.v (.c (.fn 134 [(0,0)])),.v (.c (.d (.sc (.int .i64 x.2.2.1)))),.v (.c (.d (.sc (.int .i64 x.2.2.2))))],[.cells [.d (.sc (.func (.func 112) #[] #[]))]])
def j136b_25  : Option R136b:=
 some (-1:Int)
theorem j136b_25_t   (sl:Nat→AV)  :
  bodyD (E0 mm) [.tmp 4] 1 false (den (E0 mm) 136 1 (callW (E0 mm)) itW c136_25 none ⟨sl,[.cells [.d (.sc (.func (.func 112) #[] #[]))]]⟩) = (j136b_25).map e136b:=by
 simp -implicitDefEqProofs only [j136b_25,c136_25_e,c136_26_r,(show opsOf c136_26 = _ :: _ from rfl),c136_27_e,setA,setB,za,zb,zc,zd,ze,zf,zg,zh,zi,zj,zk,zl,zm,zn,zo,zp,reduceCtorEq,zE,↓reduceIte]
 all_goals rfl
def s136b_6 (s0_0:Bool) (s0_1:List UInt8) (t7 t8:Int):Option ((Bool×List UInt8×Int×Int) ⊕ R136b):=
 if (decide (t8 < t7)) = true then
  if 0≤t8∧t8 < (s0_1.length:Int) then
   (m134a (s0_1.getD t8.toNat default)).bind fun yr5=>
    if yr5 = true then
     some (.inr t8)
    else
     some (.inl (s0_0,s0_1,t7,(w64 (t8 + 1))))
  else none
 else
  (j136b_25).map .inr
theorem s136b_6_t (s0_0:Bool) (s0_1:List UInt8) (t7 t8:Int):
  stepE (K136b_6 (mm:=mm)) (loopF (E0 mm) 136 1 (callW (E0 mm)) itW c136_7 [(0,.keep),(1,.keep),(7,.keep),(8,.keep)] (none,[.v (.c (.d (.lst s0_0 (enL enB s0_1)))),.v (.c (.fn 134 [(0,0)])),.v (.c (.d (.sc (.int .i64 t7)))),.v (.c (.d (.sc (.int .i64 t8))))],[.cells [.d (.sc (.func (.func 112) #[] #[]))]])) = (s136b_6 s0_0 s0_1 t7 t8).map (sm en136b_6 e136b):=by
 simp -implicitDefEqProofs only [s136b_6,loopF_eq,c136_7_e,c136_8_r,(show opsOf c136_8 = _ :: _ from rfl),c136_9_e,(show c136_10 = Code.cond _ c136_11 c136_12 from rfl),setA,setB,za,zb,zc,zd,ze,zf,zg,zh,zi,zj,zk,zl,zm,zn,zo,zp,reduceCtorEq,zE,↓reduceIte]
 refine brB (fun yc1=>?_) (fun yc1=>?_)
 ·simp -implicitDefEqProofs only [c136_11_e,c136_13_e,c136_14_e,c136_15_e,c136_16_r,(show opsOf c136_16 = _ :: _ from rfl),c136_17_e,c136_18_r,(show opsOf c136_18 = _ :: _ from rfl),Tryz.underlying22,sz5,enB_a,yc1,setA,setB,za,zb,zc,zd,ze,zf,zg,zh,zi,zj,zk,zl,zm,zn,zo,zp,reduceCtorEq,zE,↓reduceIte]
  refine brP (fun yc2=>?_) (fun yc2=>?_)
  ·have yd3:t8.toNat < s0_1.length:=by omega
   simp -implicitDefEqProofs only [(enL_get enB s0_1 t8.toNat yd3),enB_e,sz5,ag5,ent134,prm134,f134a_t,yc1,yc2,yd3,setA,setB,za,zb,zc,zd,ze,zf,zg,zh,zi,zj,zk,zl,zm,zn,zo,zp,reduceCtorEq,zE,↓reduceIte]
   refine brM (fun yc4=>?_) (fun yr5 yc4=>?_)
   ·rw [yc4]; rfl
   ·simp -implicitDefEqProofs only [e134a,(show c136_19 = Code.cond _ c136_20 c136_23 from rfl),yc1,yc2,yd3,yc4,setA,setB,za,zb,zc,zd,ze,zf,zg,zh,zi,zj,zk,zl,zm,zn,zo,zp,reduceCtorEq,zE,↓reduceIte]
    refine brB (fun yc6=>?_) (fun yc6=>?_)
    ·simp -implicitDefEqProofs only [c136_20_e,c136_21_r,(show opsOf c136_21 = _ :: _ from rfl),c136_22_e,K136b_6,yc1,yc2,yd3,yc4,yc6,setA,setB,za,zb,zc,zd,ze,zf,zg,zh,zi,zj,zk,zl,zm,zn,zo,zp,reduceCtorEq,zE,↓reduceIte]
     all_goals rfl
    ·simp -implicitDefEqProofs only [c136_23_e,c136_24_r,(show opsOf c136_24 = _ :: _ from rfl),yc1,yc2,yd3,yc4,yc6,setA,setB,za,zb,zc,zd,ze,zf,zg,zh,zi,zj,zk,zl,zm,zn,zo,zp,reduceCtorEq,zE,↓reduceIte]
     all_goals rfl
  ·rw [if_neg yc2]; rfl
 ·simp -implicitDefEqProofs only [c136_12_e,K136b_6,yc1,setA,setB,za,zb,zc,zd,ze,zf,zg,zh,zi,zj,zk,zl,zm,zn,zo,zp,reduceCtorEq,zE,↓reduceIte]
  exact mi (j136b_25_t _)
def l136b_6 (s0_0:Bool) (s0_1:List UInt8) (t7 t8:Int):Option R136b:=iter (fun x:(Bool×List UInt8×Int×Int)=>s136b_6 x.1 x.2.1 x.2.2.1 x.2.2.2) (s0_0,s0_1,t7,t8)
theorem l136b_6_t (s0_0:Bool) (s0_1:List UInt8) (t7 t8:Int):bodyD (E0 mm) [.tmp 4] 1 false (seqD (E0 mm) 136 1 (callW (E0 mm)) itW c136_25 (blockD 0 (itW (loopF (E0 mm) 136 1 (callW (E0 mm)) itW c136_7 [(0,.keep),(1,.keep),(7,.keep),(8,.keep)]) (none,[.v (.c (.d (.lst s0_0 (enL enB s0_1)))),.v (.c (.fn 134 [(0,0)])),.v (.c (.d (.sc (.int .i64 t7)))),.v (.c (.d (.sc (.int .i64 t8))))],[.cells [.d (.sc (.func (.func 112) #[] #[]))]])))) = (l136b_6 s0_0 s0_1 t7 t8).map e136b:=
 it_sim (K:=(K136b_6 (mm:=mm))) rfl (enc:=en136b_6) (fun x=>s136b_6_t x.1 x.2.1 x.2.2.1 x.2.2.2) (s0_0,s0_1,t7,t8)
def m136b (s_0:Bool) (s_1:List UInt8):Option R136b:=
 l136b_6 s_0 s_1 (s_1.length:Int) (0:Int)
theorem f136b_t (s_0:Bool) (s_1:List UInt8):
  callW (E0 mm) 136 [.c (.d (.lst s_0 (enL enB s_1))),.c (.fn 134 [(0,0)])] [.cells [.d (.sc (.func (.func 112) #[] #[]))]] = (m136b s_0 s_1).map e136b:=by
 rw [callW_run (body:=c136_0) (res:=[.tmp 4]) Tryz.func136 rfl rfl (by kernel_rfl)]
 simp -implicitDefEqProofs only [m136b,slots2,c136_0_e,c136_1_r,(show opsOf c136_1 = _ :: _ from rfl),c136_2_e,c136_3_e,c136_4_r,(show opsOf c136_4 = _ :: _ from rfl),Tryz.underlying22,c136_5_e,c136_6_l,setA,setB,za,zb,zc,zd,ze,zf,zg,zh,zi,zj,zk,zl,zm,zn,zo,zp,reduceCtorEq,zE,↓reduceIte]
 exact l136b_6_t s_0 s_1 (s_1.length:Int) (0:Int)
abbrev R103b:=(Bool)
def e103b:R103b→AV×Heap:=fun x=>(.v (.c (.d (.sc (.bool x)))),[.cells [.d (.sc (.func (.func 112) #[] #[]))]])
def m103b (s_0:Bool) (s_1:List UInt8):Option R103b:=
 (m136b s_0 s_1).bind fun yr2=>
  some (decide (0≤yr2))
theorem f103b_t (s_0:Bool) (s_1:List UInt8):
  callW (E0 mm) 103 [.c (.d (.lst s_0 (enL enB s_1))),.c (.fn 134 [(0,0)])] [.cells [.d (.sc (.func (.func 112) #[] #[]))]] = (m103b s_0 s_1).map e103b:=by
 rw [callW_run (body:=c103_0) (res:=[.tmp 4]) Tryz.func103 rfl rfl (by kernel_rfl)]
 simp -implicitDefEqProofs only [m103b,slots2,c103_0_e,c103_1_r,(show opsOf c103_1 = _ :: _ from rfl),c103_2_e,c103_3_r,(show opsOf c103_3 = _ :: _ from rfl),ent136,prm136,f136b_t,setA,setB,za,zb,zc,zd,ze,zf,zg,zh,zi,zj,zk,zl,zm,zn,zo,zp,reduceCtorEq,zE,↓reduceIte]
 refine brM (fun yc1=>?_) (fun yr2 yc1=>?_)
 ·rw [yc1]; rfl
 ·simp -implicitDefEqProofs only [e136b,c103_4_e,yc1,setA,setB,za,zb,zc,zd,ze,zf,zg,zh,zi,zj,zk,zl,zm,zn,zo,zp,reduceCtorEq,zE,↓reduceIte]
  all_goals rfl
abbrev R100a:=(Bool)
def e100a:R100a→AV×Heap:=fun x=>(.v (.c (.d (.sc (.bool x)))),[])
def m100a (s:Bs):Option R100a:=
 (m103b false s).bind fun yr2=>
  some (!yr2)
theorem f100a_t (s:Bs):
  callW (E0 mm) 100 [.c (.d (.sc (.string (S s)))),.c (.d (.sc (.func (.func 112) #[] #[])))] [] = (m100a s).map e100a:=by
 rw [callW_run (body:=c100_0) (res:=[.tmp 4]) Tryz.func100 rfl rfl (by kernel_rfl)]
 simp -implicitDefEqProofs only [m100a,slots2,c100_0_e,c100_1_r,(show opsOf c100_1 = _ :: _ from rfl),c100_2_e,c100_3_r,(show opsOf c100_3 = _ :: _ from rfl),Tryz.underlying9,Tryz.underlying22,Tryz.underlying5,hd9,rw10,ent103,prm103,(show callW (E0 mm) 103 [.c (.d (.lst false (enL enB s))),.c (.fn 134 [(0,0)])] [.cells [.d (.sc (.func (.func 112) #[] #[]))]] = _ from f103b_t false s),setA,setB,za,zb,zc,zd,ze,zf,zg,zh,zi,zj,zk,zl,zm,zn,zo,zp,reduceCtorEq,zE,↓reduceIte]
 refine brM (fun yc1=>?_) (fun yr2 yc1=>?_)
 ·rw [yc1]; rfl
 ·simp -implicitDefEqProofs only [e103b,c100_4_e,yc1,setA,setB,za,zb,zc,zd,ze,zf,zg,zh,zi,zj,zk,zl,zm,zn,zo,zp,reduceCtorEq,zE,↓reduceIte]
  all_goals rfl
noncomputable def c75_0:Code:=bodyOf Tryz.f75
def c75_1:=cA c75_0
def c75_2:=cB c75_0
def c75_3:=cA c75_2
def c75_4:=cB c75_2
theorem c75_0_e:c75_0 = .seq c75_1 c75_2:=rfl
theorem c75_1_r:RG (E0 mm) 75 c75_1:=rgN rfl
theorem c75_2_e:c75_2 = .seq c75_3 c75_4:=rfl
theorem c75_3_r:RG (E0 mm) 75 c75_3:=rgN rfl
theorem c75_4_e:c75_4 = .ret:=rfl
abbrev R75:=(Bool)
def e75:R75→AV×Heap:=fun x=>(.v (.c (.d (.sc (.bool x)))),[])
def m75 (s:Bs):Option R75:=
 (m100a s).bind fun yr2=>
  some yr2
theorem f75_t (s:Bs):
  callW (E0 mm) 75 [.c (.d (.sc (.string (S s))))] [] = (m75 s).map e75:=by
 rw [callW_run (body:=c75_0) (res:=[.tmp 2]) Tryz.func75 rfl rfl (by kernel_rfl)]
 simp -implicitDefEqProofs only [m75,slots1,c75_0_e,c75_1_r,(show opsOf c75_1 = _ :: _ from rfl),c75_2_e,c75_3_r,(show opsOf c75_3 = _ :: _ from rfl),ent100,prm100,f100a_t,setA,setB,za,zb,zc,zd,ze,zf,zg,zh,zi,zj,zk,zl,zm,zn,zo,zp,reduceCtorEq,zE,↓reduceIte]
 refine brM (fun yc1=>?_) (fun yr2 yc1=>?_)
 ·rw [yc1]; rfl
 ·simp -implicitDefEqProofs only [e100a,c75_4_e,yc1,setA,setB,za,zb,zc,zd,ze,zf,zg,zh,zi,zj,zk,zl,zm,zn,zo,zp,reduceCtorEq,zE,↓reduceIte]
  all_goals rfl
noncomputable def c81_0:Code:=bodyOf Tryz.f81
def c81_1:=cA c81_0
def c81_2:=cB c81_0
def c81_3:=cA c81_2
def c81_4:=cB c81_2
theorem c81_0_e:c81_0 = .seq c81_1 c81_2:=rfl
theorem c81_1_r:RG (E0 mm) 81 c81_1:=rgN rfl
theorem c81_2_e:c81_2 = .seq c81_3 c81_4:=rfl
theorem c81_3_r:RG (E0 mm) 81 c81_3:=rgN rfl
theorem c81_4_e:c81_4 = .ret:=rfl
abbrev R81:=(Bool)
def e81:R81→AV×Heap:=fun x=>(.v (.c (.d (.sc (.bool x)))),[])
def m81 (c:UInt8):Option R81:=
 (m75 ([c]:List UInt8)).bind fun yr2=>
  some yr2
theorem f81_t (c:UInt8):
  callW (E0 mm) 81 [.c (.d (.sc (.int .u8 ((c).toNat:Int))))] [] = (m81 c).map e81:=by
 rw [callW_run (body:=c81_0) (res:=[.tmp 2]) Tryz.func81 rfl rfl (by kernel_rfl)]
 simp -implicitDefEqProofs only [m81,slots1,c81_0_e,c81_1_r,(show opsOf c81_1 = _ :: _ from rfl),c81_2_e,c81_3_r,(show opsOf c81_3 = _ :: _ from rfl),Tryz.underlying22,sz5,zc5,hd17,nv18,rw19,ns16,Tryz.underlying9,Tryz.underlying5,ent75,prm75,(show callW (E0 mm) 75 [.c (.d (.sc (.string (S ([c]:List UInt8)))))] [] = _ from f75_t ([c]:List UInt8)),setA,setB,za,zb,zc,zd,ze,zf,zg,zh,zi,zj,zk,zl,zm,zn,zo,zp,reduceCtorEq,zE,↓reduceIte]
 refine brM (fun yc1=>?_) (fun yr2 yc1=>?_)
 ·rw [yc1]; rfl
 ·simp -implicitDefEqProofs only [e75,c81_4_e,yc1,setA,setB,za,zb,zc,zd,ze,zf,zg,zh,zi,zj,zk,zl,zm,zn,zo,zp,reduceCtorEq,zE,↓reduceIte]
  all_goals rfl
noncomputable def c82_0:Code:=bodyOf Tryz.f82
def c82_1:=cA c82_0
def c82_2:=cB c82_0
def c82_3:=cA c82_2
def c82_4:=cB c82_2
theorem c82_0_e:c82_0 = .seq c82_1 c82_2:=rfl
theorem c82_1_r:RG (E0 mm) 82 c82_1:=rgN rfl
theorem c82_2_e:c82_2 = .seq c82_3 c82_4:=rfl
theorem c82_3_r:RG (E0 mm) 82 c82_3:=rgN rfl
theorem c82_4_e:c82_4 = .ret:=rfl
abbrev R82:=(Bs)
def e82:R82→AV×Heap:=fun x=>(.v (.c (.d (.sc (.string (S x))))),[])
def m82 (s:Bs):Option R82:=
 (mTrim s ([32,9]:Bs)).bind fun yr2=>
  some yr2
theorem f82_t (s:Bs):
  callW (E0 mm) 82 [.c (.d (.sc (.string (S s))))] [] = (m82 s).map e82:=by
 rw [callW_run (body:=c82_0) (res:=[.tmp 2]) Tryz.func82 rfl rfl (by kernel_rfl)]
 simp -implicitDefEqProofs only [m82,slots1,c82_0_e,c82_1_r,(show opsOf c82_1 = _ :: _ from rfl),c82_2_e,c82_3_r,(show opsOf c82_3 = _ :: _ from rfl),ent113,prm113,pTrim_t,setA,setB,za,zb,zc,zd,ze,zf,zg,zh,zi,zj,zk,zl,zm,zn,zo,zp,reduceCtorEq,zE,↓reduceIte]
 refine brM (fun yc1=>?_) (fun yr2 yc1=>?_)
 ·rw [yc1]; rfl
 ·simp -implicitDefEqProofs only [pTrim_t,c82_4_e,yc1,setA,setB,za,zb,zc,zd,ze,zf,zg,zh,zi,zj,zk,zl,zm,zn,zo,zp,reduceCtorEq,zE,↓reduceIte]
  all_goals rfl
end
end Go.Proofs.YtoohbnmhjfgclaaGreatDoor
