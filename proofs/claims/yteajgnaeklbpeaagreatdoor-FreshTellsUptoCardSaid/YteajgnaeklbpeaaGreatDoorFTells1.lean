/- The Go functions as plain functions, and that the evaluator computes them. -/
import Derived.Test.YteajgnaeklbpeaaGreatDoorHd
set_option linter.all false
set_option maxRecDepth 100000
namespace Go.Proofs.YteajgnaeklbpeaaGreatDoor
open Go Go.Ab
open Nat renaming reduceEqDiff→za,reduceAdd→zb,reduceLeDiff→zc,reduceLT→zd,reduceMul→ze,reduceBEq→zf,reduceSub→zg,reducePow→zh
open Int renaming reduceEq→zi,reduceLE→zj,reduceLT→zk,reduceToNat→zl,reduceNegSucc→zm,reduceAdd→zn,reduceBEq→zo
open String renaming reduceBEq→zp
set_option maxHeartbeats 4000000
noncomputable section
variable {mm:Int}
set_option maxRecDepth 100000 in
theorem f8_t:callW (E0 mm) 8 [] [] = some (.v (.c (.d (.sc (.bool true)))),[]):=callN_W (k:=400) (by kernel_rfl)
noncomputable def c58_0:Code:=bodyOf Tryz.f58
def c58_1:=cA c58_0
def c58_2:=cB c58_0
def c58_3:=cA c58_2
def c58_4:=cB c58_2
def c58_5:=cA c58_4
def c58_6:=cA c58_5
def c58_7:=cB c58_5
def c58_8:=cA c58_7
def c58_9:=cA c58_8
def c58_10:=cA c58_9
def c58_11:=cB c58_9
def c58_12:=cA c58_11
def c58_13:=cA c58_12
def c58_14:=cB c58_12
def c58_15:=cB c58_11
def c58_16:=cA c58_15
def c58_17:=cA c58_16
def c58_18:=cA c58_17
def c58_19:=cB c58_17
def c58_20:=cA c58_19
def c58_21:=cB c58_19
def c58_22:=cA c58_21
def c58_23:=cB c58_21
def c58_24:=cB c58_15
def c58_25:=cB c58_4
def c58_26:=cA c58_25
def c58_27:=cB c58_25
theorem c58_0_e:c58_0 = .seq c58_1 c58_2:=rfl
theorem c58_1_r:RG (E0 mm) 58 c58_1:=rgN rfl
theorem c58_2_e:c58_2 = .seq c58_3 c58_4:=rfl
theorem c58_3_r:RG (E0 mm) 58 c58_3:=rgN rfl
theorem c58_4_e:c58_4 = .seq c58_5 c58_25:=rfl
theorem c58_5_e:c58_5 = .seq c58_6 c58_7:=rfl
theorem c58_6_r:RG (E0 mm) 58 c58_6:=rgN rfl
theorem c58_7_e:c58_7 = .block 0 c58_8:=rfl
theorem c58_8_l (m:Nat) (st:St):den (E0 mm) 58 m (callW (E0 mm)) itW c58_8 none st = loopD itW (loopF (E0 mm) 58 m (callW (E0 mm)) itW c58_9 [(3,.keep),(8,.keep),(9,.keep),(10,.keep)]) (canon m [(3,.keep),(8,.keep),(9,.keep),(10,.keep)] st):=rfl
theorem c58_9_e:c58_9 = .seq c58_10 c58_11:=rfl
theorem c58_10_r:RG (E0 mm) 58 c58_10:=rgN rfl
theorem c58_11_e:c58_11 = .seq c58_12 c58_15:=rfl
theorem c58_13_e:c58_13 = .skip:=rfl
theorem c58_14_e:c58_14 = .exit 0:=rfl
theorem c58_15_e:c58_15 = .seq c58_16 c58_24:=rfl
theorem c58_16_e:c58_16 = .block 1 c58_17:=rfl
theorem c58_17_e:c58_17 = .seq c58_18 c58_19:=rfl
theorem c58_18_r:RG (E0 mm) 58 c58_18:=rgN rfl
theorem c58_19_e:c58_19 = .seq c58_20 c58_21:=rfl
theorem c58_20_r:RG (E0 mm) 58 c58_20:=rgN rfl
theorem c58_22_r:RG (E0 mm) 58 c58_22:=rgN rfl
theorem c58_23_e:c58_23 = .skip:=rfl
theorem c58_24_r:RG (E0 mm) 58 c58_24:=rgN rfl
theorem c58_25_e:c58_25 = .seq c58_26 c58_27:=rfl
theorem c58_26_r:RG (E0 mm) 58 c58_26:=rgN rfl
theorem c58_27_e:c58_27 = .ret:=rfl
abbrev R58:=(Bs)
def e58:R58→AV×Heap:=fun x=>(.v (.c (.d (.sc (.string (S x))))),[])
def K58_8:Option (Ex×St)→Option (AV×Heap):=fun r=>bodyD (E0 mm) [.tmp 2] 0 false (seqD (E0 mm) 58 0 (callW (E0 mm)) itW c58_25 (blockD 0 (r)))
def en58_8:(Nat×Nat×Int×Int×List UInt8)→X:=fun x=>(none,[.v (.c (.slc 0 0 1 x.1 none)),.v (.c (.slc 0 0 1 x.2.1 none)),.v (.c (.d (.sc (.int .i64 x.2.2.1)))),.v (.c (.d (.sc (.int .i64 x.2.2.2.1))))],[.cells (enC x.2.2.2.2)])
def j58_24 (b3_1 t8_1:Nat) (t9 t10:Int) (h0:List UInt8):Option ((Nat×Nat×Int×Int×List UInt8) ⊕ R58):=
 some (.inl (b3_1,t8_1,t9,(w64 (t10 + 1)),h0))
theorem j58_24_t (b3_1 t8_1:Nat) (t9 t10:Int) (h0:List UInt8)  (sl:Nat→AV) (zq3:sl 3 = .v (.c (.slc 0 0 1 b3_1 none))) (zq8:sl 8 = .v (.c (.slc 0 0 1 t8_1 none))) (zq9:sl 9 = .v (.c (.d (.sc (.int .i64 t9))))) (zq10:sl 10 = .v (.c (.d (.sc (.int .i64 t10))))):
  stepE (K58_8 (mm:=mm)) (loopK 0 [(3,.keep),(8,.keep),(9,.keep),(10,.keep)] (den (E0 mm) 58 0 (callW (E0 mm)) itW c58_24 none ⟨sl,[.cells (enC h0)]⟩)) = (j58_24 b3_1 t8_1 t9 t10 h0).map (sm en58_8 e58):=by
 simp -implicitDefEqProofs only [j58_24,c58_24_r,(show opsOf c58_24 = _ :: _ from rfl),zq3,zq8,zq9,zq10,setA,setB,za,zb,zc,zd,ze,zf,zg,zh,zi,zj,zk,zl,zm,zn,zo,zp,reduceCtorEq,zE,↓reduceIte]
 all_goals rfl
def j58_21 (b3_1:Nat) (i4:Int) (c5:UInt8) (t8_1:Nat) (t9 t10:Int) (t20:Bool) (h0:List UInt8):Option ((Nat×Nat×Int×Int×List UInt8) ⊕ R58):=
 if t20 = true then
  if 0≤i4∧i4 < (b3_1:Int) then
   if i4.toNat < h0.length then
    j58_24 b3_1 t8_1 t9 t10 (h0.set i4.toNat ((c5 + (97:UInt8)) - (65:UInt8)))
   else none
  else none
 else
  j58_24 b3_1 t8_1 t9 t10 h0
theorem j58_21_t (b3_1:Nat) (i4:Int) (c5:UInt8) (t8_1:Nat) (t9 t10:Int) (t20:Bool) (h0:List UInt8)  (sl:Nat→AV) (zq3:sl 3 = .v (.c (.slc 0 0 1 b3_1 none))) (zq4:sl 4 = .v (.c (.d (.sc (.int .i64 i4))))) (zq5:sl 5 = .v (.c (.d (.sc (.int .u8 ((c5).toNat:Int)))))) (zq8:sl 8 = .v (.c (.slc 0 0 1 t8_1 none))) (zq9:sl 9 = .v (.c (.d (.sc (.int .i64 t9))))) (zq10:sl 10 = .v (.c (.d (.sc (.int .i64 t10))))) (zq20:sl 20 = .v (.c (.d (.sc (.bool t20))))):
  stepE (K58_8 (mm:=mm)) (loopK 0 [(3,.keep),(8,.keep),(9,.keep),(10,.keep)] (seqD (E0 mm) 58 0 (callW (E0 mm)) itW c58_24 (blockD 1 (den (E0 mm) 58 0 (callW (E0 mm)) itW c58_21 none ⟨sl,[.cells (enC h0)]⟩)))) = (j58_21 b3_1 i4 c5 t8_1 t9 t10 t20 h0).map (sm en58_8 e58):=by
 simp -implicitDefEqProofs only [j58_21,(show c58_21 = Code.cond _ c58_22 c58_23 from rfl),zq3,zq4,zq5,zq8,zq9,zq10,zq20,setA,setB,za,zb,zc,zd,ze,zf,zg,zh,zi,zj,zk,zl,zm,zn,zo,zp,reduceCtorEq,zE,↓reduceIte]
 refine brB (fun yc6=>?_) (fun yc6=>?_)
 ·simp -implicitDefEqProofs only [c58_22_r,(show opsOf c58_22 = _ :: _ from rfl),Tryz.underlying24,sz5,zq3,zq4,zq5,zq8,zq9,zq10,zq20,yc6,setA,setB,za,zb,zc,zd,ze,zf,zg,zh,zi,zj,zk,zl,zm,zn,zo,zp,reduceCtorEq,zE,↓reduceIte]
  refine brP (fun yc7=>?_) (fun yc7=>?_)
  ·have yd8:i4.toNat < b3_1:=by omega
   simp -implicitDefEqProofs only [sz5,enC_length,enC_wr,zq3,zq4,zq5,zq8,zq9,zq10,zq20,yc6,yc7,yd8,setA,setB,za,zb,zc,zd,ze,zf,zg,zh,zi,zj,zk,zl,zm,zn,zo,zp,reduceCtorEq,zE,↓reduceIte]
   refine brP (fun yc9=>?_) (fun yc9=>?_)
   ·simp -implicitDefEqProofs only [zq3,zq4,zq5,zq8,zq9,zq10,zq20,yc6,yc7,yd8,yc9,setA,setB,za,zb,zc,zd,ze,zf,zg,zh,zi,zj,zk,zl,zm,zn,zo,zp,reduceCtorEq,zE,↓reduceIte]
    exact j58_24_t b3_1 t8_1 t9 t10 (h0.set i4.toNat ((c5 + (97:UInt8)) - (65:UInt8))) _ (by exact zq3) (by exact zq8) (by exact zq9) (by exact zq10)
   ·rw [if_neg yc9]; rfl
  ·rw [if_neg yc7]; rfl
 ·simp -implicitDefEqProofs only [c58_23_e,zq3,zq4,zq5,zq8,zq9,zq10,zq20,yc6,setA,setB,za,zb,zc,zd,ze,zf,zg,zh,zi,zj,zk,zl,zm,zn,zo,zp,reduceCtorEq,zE,↓reduceIte]
  exact j58_24_t b3_1 t8_1 t9 t10 h0 _ (by exact zq3) (by exact zq8) (by exact zq9) (by exact zq10)
def j58_25 (b3_1:Nat) (h0:List UInt8):Option R58:=
 if b3_1≤h0.length then
  some (h0.take b3_1)
 else none
theorem j58_25_t (b3_1:Nat) (h0:List UInt8)  (sl:Nat→AV) (zq3:sl 3 = .v (.c (.slc 0 0 1 b3_1 none))):
  bodyD (E0 mm) [.tmp 2] 0 false (den (E0 mm) 58 0 (callW (E0 mm)) itW c58_25 none ⟨sl,[.cells (enC h0)]⟩) = (j58_25 b3_1 h0).map e58:=by
 simp -implicitDefEqProofs only [j58_25,c58_25_e,c58_26_r,(show opsOf c58_26 = _ :: _ from rfl),Tryz.underlying24,Tryz.underlying9,Tryz.underlying5,enC_length,enC_take,mapM_enC,zq3,setA,setB,za,zb,zc,zd,ze,zf,zg,zh,zi,zj,zk,zl,zm,zn,zo,zp,reduceCtorEq,zE,↓reduceIte]
 refine brP (fun yc10=>?_) (fun yc10=>?_)
 ·simp -implicitDefEqProofs only [enC_length,enC_take,mapM_enC,(chunk_enD b3_1 h0 yc10),c58_27_e,zq3,yc10,setA,setB,za,zb,zc,zd,ze,zf,zg,zh,zi,zj,zk,zl,zm,zn,zo,zp,reduceCtorEq,zE,↓reduceIte]
  all_goals rfl
 ·rw [if_neg yc10]; rfl
def s58_8 (b3_1 t8_1:Nat) (t9 t10:Int) (h0:List UInt8):Option ((Nat×Nat×Int×Int×List UInt8) ⊕ R58):=
 if (decide (t10 < t9)) = true then
  if 0≤t10∧t10 < (t8_1:Int) then
   if t10.toNat < h0.length then
    if (decide ((65:UInt8)≤(h0.getD t10.toNat 0))) = true then
     j58_21 b3_1 t10 (h0.getD t10.toNat 0) t8_1 t9 t10 (decide ((h0.getD t10.toNat 0)≤(90:UInt8))) h0
    else
     j58_21 b3_1 t10 (h0.getD t10.toNat 0) t8_1 t9 t10 false h0
   else none
  else none
 else
  (j58_25 b3_1 h0).map .inr
theorem s58_8_t (b3_1 t8_1:Nat) (t9 t10:Int) (h0:List UInt8):
  stepE (K58_8 (mm:=mm)) (loopF (E0 mm) 58 0 (callW (E0 mm)) itW c58_9 [(3,.keep),(8,.keep),(9,.keep),(10,.keep)] (none,[.v (.c (.slc 0 0 1 b3_1 none)),.v (.c (.slc 0 0 1 t8_1 none)),.v (.c (.d (.sc (.int .i64 t9)))),.v (.c (.d (.sc (.int .i64 t10))))],[.cells (enC h0)])) = (s58_8 b3_1 t8_1 t9 t10 h0).map (sm en58_8 e58):=by
 simp -implicitDefEqProofs only [s58_8,loopF_eq,c58_9_e,c58_10_r,(show opsOf c58_10 = _ :: _ from rfl),c58_11_e,(show c58_12 = Code.cond _ c58_13 c58_14 from rfl),setA,setB,za,zb,zc,zd,ze,zf,zg,zh,zi,zj,zk,zl,zm,zn,zo,zp,reduceCtorEq,zE,↓reduceIte]
 refine brB (fun yc1=>?_) (fun yc1=>?_)
 ·simp -implicitDefEqProofs only [c58_13_e,c58_15_e,c58_16_e,c58_17_e,c58_18_r,(show opsOf c58_18 = _ :: _ from rfl),Tryz.underlying24,sz5,yc1,setA,setB,za,zb,zc,zd,ze,zf,zg,zh,zi,zj,zk,zl,zm,zn,zo,zp,reduceCtorEq,zE,↓reduceIte]
  refine brP (fun yc2=>?_) (fun yc2=>?_)
  ·have yd3:t10.toNat < t8_1:=by omega
   simp -implicitDefEqProofs only [sz5,ag5,enC_length,yc1,yc2,yd3,setA,setB,za,zb,zc,zd,ze,zf,zg,zh,zi,zj,zk,zl,zm,zn,zo,zp,reduceCtorEq,zE,↓reduceIte]
   refine brP (fun yc4=>?_) (fun yc4=>?_)
   ·simp -implicitDefEqProofs only [(enC_load h0 t10.toNat yc4),c58_19_e,c58_20_r,(show opsOf c58_20 = _ :: _ from rfl),yc1,yc2,yd3,yc4,setA,setB,za,zb,zc,zd,ze,zf,zg,zh,zi,zj,zk,zl,zm,zn,zo,zp,reduceCtorEq,zE,↓reduceIte]
    refine brB (fun yc5=>?_) (fun yc5=>?_)
    ·simp -implicitDefEqProofs only [yc1,yc2,yd3,yc4,yc5,setA,setB,za,zb,zc,zd,ze,zf,zg,zh,zi,zj,zk,zl,zm,zn,zo,zp,reduceCtorEq,zE,↓reduceIte]
     exact j58_21_t b3_1 t10 (h0.getD t10.toNat 0) t8_1 t9 t10 (decide ((h0.getD t10.toNat 0)≤(90:UInt8))) h0 _ (by rfl) (by rfl) (by rfl) (by rfl) (by rfl) (by rfl) (by rfl)
    ·simp -implicitDefEqProofs only [yc1,yc2,yd3,yc4,yc5,setA,setB,za,zb,zc,zd,ze,zf,zg,zh,zi,zj,zk,zl,zm,zn,zo,zp,reduceCtorEq,zE,↓reduceIte]
     exact j58_21_t b3_1 t10 (h0.getD t10.toNat 0) t8_1 t9 t10 false h0 _ (by rfl) (by rfl) (by rfl) (by rfl) (by rfl) (by rfl) (by rfl)
   ·rw [if_neg yc4]; rfl
  ·rw [if_neg yc2]; rfl
 ·simp -implicitDefEqProofs only [c58_14_e,K58_8,yc1,setA,setB,za,zb,zc,zd,ze,zf,zg,zh,zi,zj,zk,zl,zm,zn,zo,zp,reduceCtorEq,zE,↓reduceIte]
  exact mi (j58_25_t b3_1 h0 _ (by rfl))
def l58_8 (b3_1 t8_1:Nat) (t9 t10:Int) (h0:List UInt8):Option R58:=iter (fun x:(Nat×Nat×Int×Int×List UInt8)=>s58_8 x.1 x.2.1 x.2.2.1 x.2.2.2.1 x.2.2.2.2) (b3_1,t8_1,t9,t10,h0)
theorem l58_8_t (b3_1 t8_1:Nat) (t9 t10:Int) (h0:List UInt8):bodyD (E0 mm) [.tmp 2] 0 false (seqD (E0 mm) 58 0 (callW (E0 mm)) itW c58_25 (blockD 0 (itW (loopF (E0 mm) 58 0 (callW (E0 mm)) itW c58_9 [(3,.keep),(8,.keep),(9,.keep),(10,.keep)]) (none,[.v (.c (.slc 0 0 1 b3_1 none)),.v (.c (.slc 0 0 1 t8_1 none)),.v (.c (.d (.sc (.int .i64 t9)))),.v (.c (.d (.sc (.int .i64 t10))))],[.cells (enC h0)])))) = (l58_8 b3_1 t8_1 t9 t10 h0).map e58:=
 it_sim (K:=(K58_8 (mm:=mm))) rfl (enc:=en58_8) (fun x=>s58_8_t x.1 x.2.1 x.2.2.1 x.2.2.2.1 x.2.2.2.2) (b3_1,t8_1,t9,t10,h0)
def m58 (s:Bs):Option R58:=
 l58_8 s.length s.length (s.length:Int) (0:Int) s
theorem f58_t (s:Bs):
  callW (E0 mm) 58 [.c (.d (.sc (.string (S s))))] [] = (m58 s).map e58:=by
 rw [callW_run (body:=c58_0) (res:=[.tmp 2]) Tryz.func58 rfl rfl (by kernel_rfl)]
 simp -implicitDefEqProofs only [m58,slots1,c58_0_e,c58_1_r,(show opsOf c58_1 = _ :: _ from rfl),c58_2_e,c58_3_r,(show opsOf c58_3 = _ :: _ from rfl),Tryz.underlying9,Tryz.underlying24,Tryz.underlying5,hd1,enC_S,S_size,c58_4_e,c58_5_e,c58_6_r,(show opsOf c58_6 = _ :: _ from rfl),c58_7_e,c58_8_l,setA,setB,za,zb,zc,zd,ze,zf,zg,zh,zi,zj,zk,zl,zm,zn,zo,zp,reduceCtorEq,zE,↓reduceIte]
 exact l58_8_t s.length s.length (s.length:Int) (0:Int) s
noncomputable def c34_0:Code:=bodyOf Tryz.f34
def c34_1:=cA c34_0
def c34_2:=cB c34_0
def c34_3:=cA c34_2
def c34_4:=cB c34_2
theorem c34_0_e:c34_0 = .seq c34_1 c34_2:=rfl
theorem c34_1_r:RG (E0 mm) 34 c34_1:=rgN rfl
theorem c34_2_e:c34_2 = .seq c34_3 c34_4:=rfl
theorem c34_3_r:RG (E0 mm) 34 c34_3:=rgN rfl
theorem c34_4_e:c34_4 = .ret:=rfl
abbrev R34:=(Bool)
def e34:R34→AV×Heap:=fun x=>(.v (.c (.d (.sc (.bool x)))),[])
def m34 (a b:Bs):Option R34:=
 (m58 a).bind fun yr2=>
  (m58 b).bind fun yr4=>
   some (yr2 == yr4)
theorem f34_t (a b:Bs):
  callW (E0 mm) 34 [.c (.d (.sc (.string (S a)))),.c (.d (.sc (.string (S b))))] [] = (m34 a b).map e34:=by
 rw [callW_run (body:=c34_0) (res:=[.tmp 4]) Tryz.func34 rfl rfl (by kernel_rfl)]
 simp -implicitDefEqProofs only [m34,slots2,c34_0_e,c34_1_r,(show opsOf c34_1 = _ :: _ from rfl),c34_2_e,c34_3_r,(show opsOf c34_3 = _ :: _ from rfl),ent58,prm58,f58_t,setA,setB,za,zb,zc,zd,ze,zf,zg,zh,zi,zj,zk,zl,zm,zn,zo,zp,reduceCtorEq,zE,↓reduceIte]
 refine brM (fun yc1=>?_) (fun yr2 yc1=>?_)
 ·rw [yc1]; rfl
 ·simp -implicitDefEqProofs only [e58,ent58,prm58,f58_t,yc1,setA,setB,za,zb,zc,zd,ze,zf,zg,zh,zi,zj,zk,zl,zm,zn,zo,zp,reduceCtorEq,zE,↓reduceIte]
  refine brM (fun yc3=>?_) (fun yr4 yc3=>?_)
  ·rw [yc3]; rfl
  ·simp -implicitDefEqProofs only [e58,c34_4_e,yc1,yc3,setA,setB,za,zb,zc,zd,ze,zf,zg,zh,zi,zj,zk,zl,zm,zn,zo,zp,reduceCtorEq,zE,↓reduceIte]
   all_goals rfl
noncomputable def c16_0:Code:=bodyOf Tryz.f16
def c16_1:=cA c16_0
def c16_2:=cB c16_0
def c16_3:=cA c16_2
def c16_4:=cB c16_2
def c16_5:=cA c16_4
def c16_6:=cA c16_5
def c16_7:=cB c16_5
def c16_8:=cA c16_7
def c16_9:=cA c16_8
def c16_10:=cA c16_9
def c16_11:=cB c16_9
def c16_12:=cA c16_11
def c16_13:=cA c16_12
def c16_14:=cB c16_12
def c16_15:=cB c16_11
def c16_16:=cA c16_15
def c16_17:=cA c16_16
def c16_18:=cA c16_17
def c16_19:=cB c16_17
def c16_20:=cA c16_19
def c16_21:=cB c16_19
def c16_22:=cA c16_21
def c16_23:=cB c16_21
def c16_24:=cB c16_15
def c16_25:=cB c16_4
def c16_26:=cA c16_25
def c16_27:=cB c16_25
theorem c16_0_e:c16_0 = .seq c16_1 c16_2:=rfl
theorem c16_1_r:RG (E0 mm) 16 c16_1:=rgN rfl
theorem c16_2_e:c16_2 = .seq c16_3 c16_4:=rfl
theorem c16_3_r:RG (E0 mm) 16 c16_3:=rgN rfl
theorem c16_4_e:c16_4 = .seq c16_5 c16_25:=rfl
theorem c16_5_e:c16_5 = .seq c16_6 c16_7:=rfl
theorem c16_6_r:RG (E0 mm) 16 c16_6:=rgN rfl
theorem c16_7_e:c16_7 = .block 0 c16_8:=rfl
theorem c16_8_l (m:Nat) (st:St):den (E0 mm) 16 m (callW (E0 mm)) itW c16_8 none st = loopD itW (loopF (E0 mm) 16 m (callW (E0 mm)) itW c16_9 [(1,.keep),(5,.own),(8,.keep),(9,.keep),(10,.keep)]) (canon m [(1,.keep),(5,.own),(8,.keep),(9,.keep),(10,.keep)] st):=rfl
theorem c16_9_e:c16_9 = .seq c16_10 c16_11:=rfl
theorem c16_10_r:RG (E0 mm) 16 c16_10:=rgN rfl
theorem c16_11_e:c16_11 = .seq c16_12 c16_15:=rfl
theorem c16_13_e:c16_13 = .skip:=rfl
theorem c16_14_e:c16_14 = .exit 0:=rfl
theorem c16_15_e:c16_15 = .seq c16_16 c16_24:=rfl
theorem c16_16_e:c16_16 = .block 1 c16_17:=rfl
theorem c16_17_e:c16_17 = .seq c16_18 c16_19:=rfl
theorem c16_18_r:RG (E0 mm) 16 c16_18:=rgN rfl
theorem c16_19_e:c16_19 = .seq c16_20 c16_21:=rfl
theorem c16_20_r:RG (E0 mm) 16 c16_20:=rgN rfl
theorem c16_22_r:RG (E0 mm) 16 c16_22:=rgN rfl
theorem c16_23_e:c16_23 = .skip:=rfl
theorem c16_24_r:RG (E0 mm) 16 c16_24:=rgN rfl
theorem c16_25_e:c16_25 = .seq c16_26 c16_27:=rfl
theorem c16_26_r:RG (E0 mm) 16 c16_26:=rgN rfl
theorem c16_27_e:c16_27 = .ret:=rfl
abbrev R16:=(Bool×List Bs)
def e16:R16→AV×Heap:=fun x=>(.v (.c (.own x.1 (enL enS x.2) 0)),[.row x.2.length (rz x.1 1)])
def K16_8:Option (Ex×St)→Option (AV×Heap):=fun r=>bodyD (E0 mm) [.tmp 4] 0 false (seqD (E0 mm) 16 0 (callW (E0 mm)) itW c16_25 (blockD 0 (r)))
def en16_8:(Bs×Bool×List Bs×Bool×List (Bs×Bs)×Int×Int)→X:=fun x=>(none,[.v (.c (.d (.sc (.string (S x.1))))),.v (.c (.own x.2.1 (enL enS x.2.2.1) 0)),.v (.c (.d (.lst x.2.2.2.1 (enL enSS x.2.2.2.2.1)))),.v (.c (.d (.sc (.int .i64 x.2.2.2.2.2.1)))),.v (.c (.d (.sc (.int .i64 x.2.2.2.2.2.2))))],[.row x.2.2.1.length (rz x.2.1 1)])
def j16_24 (name1:Bs) (out5_0:Bool) (out5_1:List Bs) (t8_0:Bool) (t8_1:List (Bs×Bs)) (t9 t10:Int):Option ((Bs×Bool×List Bs×Bool×List (Bs×Bs)×Int×Int) ⊕ R16):=
 some (.inl (name1,out5_0,out5_1,t8_0,t8_1,t9,(w64 (t10 + 1))))
theorem j16_24_t (name1:Bs) (out5_0:Bool) (out5_1:List Bs) (t8_0:Bool) (t8_1:List (Bs×Bs)) (t9 t10:Int) (g1:Ob) (sl:Nat→AV) (zq1:sl 1 = .v (.c (.d (.sc (.string (S name1)))))) (zq5:sl 5 = .v (.c (.own out5_0 (enL enS out5_1) 0))) (zq8:sl 8 = .v (.c (.d (.lst t8_0 (enL enSS t8_1))))) (zq9:sl 9 = .v (.c (.d (.sc (.int .i64 t9))))) (zq10:sl 10 = .v (.c (.d (.sc (.int .i64 t10))))):
  stepE (K16_8 (mm:=mm)) (loopK 0 [(1,.keep),(5,.own),(8,.keep),(9,.keep),(10,.keep)] (den (E0 mm) 16 0 (callW (E0 mm)) itW c16_24 none ⟨sl,[.row out5_1.length (rz out5_0 1),g1]⟩)) = (j16_24 name1 out5_0 out5_1 t8_0 t8_1 t9 t10).map (sm en16_8 e16):=by
 simp -implicitDefEqProofs only [j16_24,c16_24_r,(show opsOf c16_24 = _ :: _ from rfl),zq1,zq5,zq8,zq9,zq10,setA,setB,za,zb,zc,zd,ze,zf,zg,zh,zi,zj,zk,zl,zm,zn,zo,zp,reduceCtorEq,zE,↓reduceIte]
 all_goals rfl
def j16_25 (out5_0:Bool) (out5_1:List Bs):Option R16:=
 some (out5_0,out5_1)
theorem j16_25_t (out5_0:Bool) (out5_1:List Bs)  (sl:Nat→AV) (zq5:sl 5 = .v (.c (.own out5_0 (enL enS out5_1) 0))):
  bodyD (E0 mm) [.tmp 4] 0 false (den (E0 mm) 16 0 (callW (E0 mm)) itW c16_25 none ⟨sl,[.row out5_1.length (rz out5_0 1)]⟩) = (j16_25 out5_0 out5_1).map e16:=by
 simp -implicitDefEqProofs only [j16_25,c16_25_e,c16_26_r,(show opsOf c16_26 = _ :: _ from rfl),c16_27_e,zq5,setA,setB,za,zb,zc,zd,ze,zf,zg,zh,zi,zj,zk,zl,zm,zn,zo,zp,reduceCtorEq,zE,↓reduceIte]
 all_goals rfl
def s16_8 (name1:Bs) (out5_0:Bool) (out5_1:List Bs) (t8_0:Bool) (t8_1:List (Bs×Bs)) (t9 t10:Int):Option ((Bs×Bool×List Bs×Bool×List (Bs×Bs)×Int×Int) ⊕ R16):=
 if (decide (t10 < t9)) = true then
  if 0≤t10∧t10 < (t8_1.length:Int) then
   (m34 ((t8_1.getD t10.toNat default).1) name1).bind fun yr5=>
    if yr5 = true then
     if (out5_1.length + 1) * 16≤140737488355328 then
      j16_24 name1 false (out5_1 ++ ([(t8_1.getD t10.toNat default).2]:List Bs)) t8_0 t8_1 t9 t10
     else none
    else
     j16_24 name1 out5_0 out5_1 t8_0 t8_1 t9 t10
  else none
 else
  (j16_25 out5_0 out5_1).map .inr
theorem s16_8_t (name1:Bs) (out5_0:Bool) (out5_1:List Bs) (t8_0:Bool) (t8_1:List (Bs×Bs)) (t9 t10:Int):
  stepE (K16_8 (mm:=mm)) (loopF (E0 mm) 16 0 (callW (E0 mm)) itW c16_9 [(1,.keep),(5,.own),(8,.keep),(9,.keep),(10,.keep)] (none,[.v (.c (.d (.sc (.string (S name1))))),.v (.c (.own out5_0 (enL enS out5_1) 0)),.v (.c (.d (.lst t8_0 (enL enSS t8_1)))),.v (.c (.d (.sc (.int .i64 t9)))),.v (.c (.d (.sc (.int .i64 t10))))],[.row out5_1.length (rz out5_0 1)])) = (s16_8 name1 out5_0 out5_1 t8_0 t8_1 t9 t10).map (sm en16_8 e16):=by
 simp -implicitDefEqProofs only [s16_8,loopF_eq,c16_9_e,c16_10_r,(show opsOf c16_10 = _ :: _ from rfl),c16_11_e,(show c16_12 = Code.cond _ c16_13 c16_14 from rfl),setA,setB,za,zb,zc,zd,ze,zf,zg,zh,zi,zj,zk,zl,zm,zn,zo,zp,reduceCtorEq,zE,↓reduceIte]
 refine brB (fun yc1=>?_) (fun yc1=>?_)
 ·simp -implicitDefEqProofs only [c16_13_e,c16_15_e,c16_16_e,c16_17_e,c16_18_r,(show opsOf c16_18 = _ :: _ from rfl),Tryz.underlying23,sz62,enSS_a,yc1,setA,setB,za,zb,zc,zd,ze,zf,zg,zh,zi,zj,zk,zl,zm,zn,zo,zp,reduceCtorEq,zE,↓reduceIte]
  refine brP (fun yc2=>?_) (fun yc2=>?_)
  ·have yd3:t10.toNat < t8_1.length:=by omega
   simp -implicitDefEqProofs only [(enL_get enSS t8_1 t10.toNat yd3),enSS_e,sz62,ag62,zc62,ao0,c16_19_e,c16_20_r,(show opsOf c16_20 = _ :: _ from rfl),Tryz.underlying62,sz9,ag9,ent34,prm34,f34_t,yc1,yc2,yd3,setA,setB,za,zb,zc,zd,ze,zf,zg,zh,zi,zj,zk,zl,zm,zn,zo,zp,reduceCtorEq,zE,↓reduceIte]
   refine brM (fun yc4=>?_) (fun yr5 yc4=>?_)
   ·rw [yc4]; rfl
   ·simp -implicitDefEqProofs only [e34,(show c16_21 = Code.cond _ c16_22 c16_23 from rfl),yc1,yc2,yd3,yc4,setA,setB,za,zb,zc,zd,ze,zf,zg,zh,zi,zj,zk,zl,zm,zn,zo,zp,reduceCtorEq,zE,↓reduceIte]
    refine brB (fun yc6=>?_) (fun yc6=>?_)
    ·simp -implicitDefEqProofs only [c16_22_r,(show opsOf c16_22 = _ :: _ from rfl),Tryz.underlying62,sz9,ag9,Tryz.underlying40,zc9,hd2,nv3,rw4,ns5,ap40,yc1,yc2,yd3,yc4,yc6,setA,setB,za,zb,zc,zd,ze,zf,zg,zh,zi,zj,zk,zl,zm,zn,zo,zp,reduceCtorEq,zE,↓reduceIte]
     refine brP (fun yc7=>?_) (fun yc7=>?_)
     ·simp -implicitDefEqProofs only [yc1,yc2,yd3,yc4,yc6,yc7,setA,setB,za,zb,zc,zd,ze,zf,zg,zh,zi,zj,zk,zl,zm,zn,zo,zp,reduceCtorEq,zE,↓reduceIte]
      exact j16_24_t name1 false (out5_1 ++ ([(t8_1.getD t10.toNat default).2]:List Bs)) t8_0 t8_1 t9 t10 _ _ (by rfl) (by rfl) (by rfl) (by rfl) (by rfl)
     ·rw [if_neg yc7]; rfl
    ·simp -implicitDefEqProofs only [c16_23_e,yc1,yc2,yd3,yc4,yc6,setA,setB,za,zb,zc,zd,ze,zf,zg,zh,zi,zj,zk,zl,zm,zn,zo,zp,reduceCtorEq,zE,↓reduceIte]
     exact j16_24_t name1 out5_0 out5_1 t8_0 t8_1 t9 t10 _ _ (by rfl) (by rfl) (by rfl) (by rfl) (by rfl)
  ·rw [if_neg yc2]; rfl
 ·simp -implicitDefEqProofs only [c16_14_e,K16_8,yc1,setA,setB,za,zb,zc,zd,ze,zf,zg,zh,zi,zj,zk,zl,zm,zn,zo,zp,reduceCtorEq,zE,↓reduceIte]
  exact mi (j16_25_t out5_0 out5_1 _ (by rfl))
def l16_8 (name1:Bs) (out5_0:Bool) (out5_1:List Bs) (t8_0:Bool) (t8_1:List (Bs×Bs)) (t9 t10:Int):Option R16:=iter (fun x:(Bs×Bool×List Bs×Bool×List (Bs×Bs)×Int×Int)=>s16_8 x.1 x.2.1 x.2.2.1 x.2.2.2.1 x.2.2.2.2.1 x.2.2.2.2.2.1 x.2.2.2.2.2.2) (name1,out5_0,out5_1,t8_0,t8_1,t9,t10)
theorem l16_8_t (name1:Bs) (out5_0:Bool) (out5_1:List Bs) (t8_0:Bool) (t8_1:List (Bs×Bs)) (t9 t10:Int):bodyD (E0 mm) [.tmp 4] 0 false (seqD (E0 mm) 16 0 (callW (E0 mm)) itW c16_25 (blockD 0 (itW (loopF (E0 mm) 16 0 (callW (E0 mm)) itW c16_9 [(1,.keep),(5,.own),(8,.keep),(9,.keep),(10,.keep)]) (none,[.v (.c (.d (.sc (.string (S name1))))),.v (.c (.own out5_0 (enL enS out5_1) 0)),.v (.c (.d (.lst t8_0 (enL enSS t8_1)))),.v (.c (.d (.sc (.int .i64 t9)))),.v (.c (.d (.sc (.int .i64 t10))))],[.row out5_1.length (rz out5_0 1)])))) = (l16_8 name1 out5_0 out5_1 t8_0 t8_1 t9 t10).map e16:=
 it_sim (K:=(K16_8 (mm:=mm))) rfl (enc:=en16_8) (fun x=>s16_8_t x.1 x.2.1 x.2.2.1 x.2.2.2.1 x.2.2.2.2.1 x.2.2.2.2.2.1 x.2.2.2.2.2.2) (name1,out5_0,out5_1,t8_0,t8_1,t9,t10)
def m16 (l_0:Bool) (l_1:List (Bs×Bs)) (name:Bs):Option R16:=
 l16_8 name true ([]:List Bs) l_0 l_1 (l_1.length:Int) (0:Int)
theorem f16_t (l_0:Bool) (l_1:List (Bs×Bs)) (name:Bs):
  callW (E0 mm) 16 [.c (.d (.lst l_0 (enL enSS l_1))),.c (.d (.sc (.string (S name))))] [] = (m16 l_0 l_1 name).map e16:=by
 rw [callW_run (body:=c16_0) (res:=[.tmp 4]) Tryz.func16 rfl rfl (by kernel_rfl)]
 simp -implicitDefEqProofs only [m16,slots2,c16_0_e,c16_1_r,(show opsOf c16_1 = _ :: _ from rfl),c16_2_e,c16_3_r,(show opsOf c16_3 = _ :: _ from rfl),c16_4_e,c16_5_e,c16_6_r,(show opsOf c16_6 = _ :: _ from rfl),Tryz.underlying23,c16_7_e,c16_8_l,setA,setB,za,zb,zc,zd,ze,zf,zg,zh,zi,zj,zk,zl,zm,zn,zo,zp,reduceCtorEq,zE,↓reduceIte]
 exact l16_8_t name true ([]:List Bs) l_0 l_1 (l_1.length:Int) (0:Int)
noncomputable def c27_0:Code:=bodyOf Tryz.f27
def c27_1:=cA c27_0
def c27_2:=cB c27_0
def c27_3:=cA c27_2
def c27_4:=cB c27_2
def c27_5:=cA c27_4
def c27_6:=cA c27_5
def c27_7:=cB c27_5
def c27_8:=cA c27_7
def c27_9:=cA c27_8
def c27_10:=cB c27_8
def c27_11:=cB c27_7
def c27_12:=cB c27_4
def c27_13:=cA c27_12
def c27_14:=cB c27_12
theorem c27_0_e:c27_0 = .seq c27_1 c27_2:=rfl
theorem c27_1_r:RG (E0 mm) 27 c27_1:=rgN rfl
theorem c27_2_e:c27_2 = .seq c27_3 c27_4:=rfl
theorem c27_3_r:RG (E0 mm) 27 c27_3:=rgN rfl
theorem c27_4_e:c27_4 = .seq c27_5 c27_12:=rfl
theorem c27_5_e:c27_5 = .seq c27_6 c27_7:=rfl
theorem c27_6_r:RG (E0 mm) 27 c27_6:=rgN rfl
theorem c27_8_e:c27_8 = .seq c27_9 c27_10:=rfl
theorem c27_9_r:RG (E0 mm) 27 c27_9:=rgN rfl
theorem c27_10_e:c27_10 = .ret:=rfl
theorem c27_11_e:c27_11 = .skip:=rfl
theorem c27_12_e:c27_12 = .seq c27_13 c27_14:=rfl
theorem c27_13_r:RG (E0 mm) 27 c27_13:=rgN rfl
theorem c27_14_e:c27_14 = .ret:=rfl
abbrev R27:=(Bs×Bool)
def e27:R27→AV×Heap:=fun x=>(.tup [.c (.d (.sc (.string (S x.1)))),.c (.d (.sc (.bool x.2)))],[])
def m27 (r0_0:Int) (r0_1:Bs) (r0_2:Int) (r0_3:Bool) (r0_4:List (Bs×Bs)) (r0_5:Bool) (r0_6:List UInt8) (name:Bs):Option R27:=
 (m16 r0_3 r0_4 name).bind fun yr2=>
  if ((yr2.2.length:Int) == 1) = true then
   if (0:Int) < (yr2.2.length:Int) then
    some ((yr2.2.getD 0 default),true)
   else none
  else
   some (([]:Bs),false)
theorem f27_t (r0_0:Int) (r0_1:Bs) (r0_2:Int) (r0_3:Bool) (r0_4:List (Bs×Bs)) (r0_5:Bool) (r0_6:List UInt8) (name:Bs):
  callW (E0 mm) 27 [.agg [.d (.sc (.int .i64 r0_0)),.d (.sc (.string (S r0_1))),.d (.sc (.int .i64 r0_2)),.d (.lst r0_3 (enL enSS r0_4)),.d (.lst r0_5 (enL enB r0_6))],.c (.d (.sc (.string (S name))))] [] = (m27 r0_0 r0_1 r0_2 r0_3 r0_4 r0_5 r0_6 name).map e27:=by
 rw [callW_run (body:=c27_0) (res:=[.tmp 4,.tmp 5]) Tryz.func27 rfl rfl (by kernel_rfl)]
 simp -implicitDefEqProofs only [m27,slots2,c27_0_e,c27_1_r,(show opsOf c27_1 = _ :: _ from rfl),c27_2_e,c27_3_r,(show opsOf c27_3 = _ :: _ from rfl),Tryz.underlying26,sz23,ag23,ent16,prm16,f16_t,setA,setB,za,zb,zc,zd,ze,zf,zg,zh,zi,zj,zk,zl,zm,zn,zo,zp,reduceCtorEq,zE,↓reduceIte]
 refine brM (fun yc1=>?_) (fun yr2 yc1=>?_)
 ·rw [yc1]; rfl
 ·simp -implicitDefEqProofs only [e16,c27_4_e,c27_5_e,c27_6_r,(show opsOf c27_6 = _ :: _ from rfl),Tryz.underlying40,(show c27_7 = Code.cond _ c27_8 c27_11 from rfl),yc1,setA,setB,za,zb,zc,zd,ze,zf,zg,zh,zi,zj,zk,zl,zm,zn,zo,zp,reduceCtorEq,zE,↓reduceIte]
  refine brB (fun yc3=>?_) (fun yc3=>?_)
  ·simp -implicitDefEqProofs only [c27_11_e,c27_12_e,c27_13_r,(show opsOf c27_13 = _ :: _ from rfl),Tryz.underlying40,sz9,enS_a,yc1,yc3,setA,setB,za,zb,zc,zd,ze,zf,zg,zh,zi,zj,zk,zl,zm,zn,zo,zp,reduceCtorEq,zE,↓reduceIte]
   refine brP (fun yc4=>?_) (fun yc4=>?_)
   ·have yd5:0 < yr2.2.length:=by omega
    simp -implicitDefEqProofs only [(enL_get enS yr2.2 0 yd5),enS_e,sz9,ag9,c27_14_e,yc1,yc3,yc4,yd5,setA,setB,za,zb,zc,zd,ze,zf,zg,zh,zi,zj,zk,zl,zm,zn,zo,zp,reduceCtorEq,zE,↓reduceIte]
    all_goals rfl
   ·rw [if_neg yc4]; rfl
  ·simp -implicitDefEqProofs only [c27_8_e,c27_9_r,(show opsOf c27_9 = _ :: _ from rfl),c27_10_e,yc1,yc3,setA,setB,za,zb,zc,zd,ze,zf,zg,zh,zi,zj,zk,zl,zm,zn,zo,zp,reduceCtorEq,zE,↓reduceIte]
   all_goals rfl
noncomputable def c43_0:Code:=bodyOf Tryz.f43
def c43_1:=cA c43_0
def c43_2:=cB c43_0
def c43_3:=cA c43_2
def c43_4:=cB c43_2
theorem c43_0_e:c43_0 = .seq c43_1 c43_2:=rfl
theorem c43_1_r:RG (E0 mm) 43 c43_1:=rgN rfl
theorem c43_2_e:c43_2 = .seq c43_3 c43_4:=rfl
theorem c43_3_r:RG (E0 mm) 43 c43_3:=rgN rfl
theorem c43_4_e:c43_4 = .ret:=rfl
abbrev R43:=(Int)
def e43:R43→AV×Heap:=fun x=>(.v (.c (.d (.sc (.int .i64 x)))),[])
def m43 (s substr:Bs):Option R43:=
 (mIx s substr).bind fun yr2=>
  some yr2
theorem f43_t (s substr:Bs):
  callW (E0 mm) 43 [.c (.d (.sc (.string (S s)))),.c (.d (.sc (.string (S substr))))] [] = (m43 s substr).map e43:=by
 rw [callW_run (body:=c43_0) (res:=[.tmp 4]) Tryz.func43 rfl rfl (by kernel_rfl)]
 simp -implicitDefEqProofs only [m43,slots2,c43_0_e,c43_1_r,(show opsOf c43_1 = _ :: _ from rfl),c43_2_e,c43_3_r,(show opsOf c43_3 = _ :: _ from rfl),ent66,prm66,pIndex_t,setA,setB,za,zb,zc,zd,ze,zf,zg,zh,zi,zj,zk,zl,zm,zn,zo,zp,reduceCtorEq,zE,↓reduceIte]
 refine brM (fun yc1=>?_) (fun yr2 yc1=>?_)
 ·rw [yc1]; rfl
 ·simp -implicitDefEqProofs only [pIndex_t,c43_4_e,yc1,setA,setB,za,zb,zc,zd,ze,zf,zg,zh,zi,zj,zk,zl,zm,zn,zo,zp,reduceCtorEq,zE,↓reduceIte]
  all_goals rfl
noncomputable def c44_0:Code:=bodyOf Tryz.f44
def c44_1:=cA c44_0
def c44_2:=cB c44_0
def c44_3:=cA c44_2
def c44_4:=cB c44_2
def c44_5:=cA c44_4
def c44_6:=cA c44_5
def c44_7:=cB c44_5
def c44_8:=cA c44_7
def c44_9:=cA c44_8
def c44_10:=cA c44_9
def c44_11:=cB c44_9
def c44_12:=cA c44_11
def c44_13:=cA c44_12
def c44_14:=cB c44_12
def c44_15:=cB c44_11
def c44_16:=cA c44_15
def c44_17:=cA c44_16
def c44_18:=cA c44_17
def c44_19:=cB c44_17
def c44_20:=cB c44_15
def c44_21:=cB c44_4
def c44_22:=cA c44_21
def c44_23:=cB c44_21
theorem c44_0_e:c44_0 = .seq c44_1 c44_2:=rfl
theorem c44_1_r:RG (E0 mm) 44 c44_1:=rgN rfl
theorem c44_2_e:c44_2 = .seq c44_3 c44_4:=rfl
theorem c44_3_r:RG (E0 mm) 44 c44_3:=rgN rfl
theorem c44_4_e:c44_4 = .seq c44_5 c44_21:=rfl
theorem c44_5_e:c44_5 = .seq c44_6 c44_7:=rfl
theorem c44_6_r:RG (E0 mm) 44 c44_6:=rgN rfl
theorem c44_7_e:c44_7 = .block 0 c44_8:=rfl
theorem c44_8_l (m:Nat) (st:St):den (E0 mm) 44 m (callW (E0 mm)) itW c44_8 none st = loopD itW (loopF (E0 mm) 44 m (callW (E0 mm)) itW c44_9 [(0,.keep),(3,.keep),(6,.keep),(7,.keep)]) (canon m [(0,.keep),(3,.keep),(6,.keep),(7,.keep)] st):=rfl
theorem c44_9_e:c44_9 = .seq c44_10 c44_11:=rfl
theorem c44_10_r:RG (E0 mm) 44 c44_10:=rgN rfl
theorem c44_11_e:c44_11 = .seq c44_12 c44_15:=rfl
theorem c44_13_e:c44_13 = .skip:=rfl
theorem c44_14_e:c44_14 = .exit 0:=rfl
theorem c44_15_e:c44_15 = .seq c44_16 c44_20:=rfl
theorem c44_16_e:c44_16 = .block 1 c44_17:=rfl
theorem c44_17_e:c44_17 = .seq c44_18 c44_19:=rfl
theorem c44_18_r:RG (E0 mm) 44 c44_18:=rgN rfl
theorem c44_19_r:RG (E0 mm) 44 c44_19:=rgN rfl
theorem c44_20_r:RG (E0 mm) 44 c44_20:=rgN rfl
theorem c44_21_e:c44_21 = .seq c44_22 c44_23:=rfl
theorem c44_22_r:RG (E0 mm) 44 c44_22:=rgN rfl
theorem c44_23_e:c44_23 = .ret:=rfl
abbrev R44:=(Int)
def e44:R44→AV×Heap:=fun x=>(.v (.c (.d (.sc (.int .i64 x)))),[])
def K44_8:Option (Ex×St)→Option (AV×Heap):=fun r=>bodyD (E0 mm) [.tmp 2] 0 false (seqD (E0 mm) 44 0 (callW (E0 mm)) itW c44_21 (blockD 0 (r)))
def en44_8:(Bs×Int×Int×Int)→X:=fun x=>(none,[.v (.c (.d (.sc (.string (S x.1))))),.v (.c (.d (.sc (.int .i64 x.2.1)))),.v (.c (.d (.sc (.int .i64 x.2.2.1)))),.v (.c (.d (.sc (.int .i64 x.2.2.2))))],[])
def j44_21 (n3:Int):Option R44:=
 some n3
theorem j44_21_t (n3:Int)  (sl:Nat→AV) (zq3:sl 3 = .v (.c (.d (.sc (.int .i64 n3))))):
  bodyD (E0 mm) [.tmp 2] 0 false (den (E0 mm) 44 0 (callW (E0 mm)) itW c44_21 none ⟨sl,[]⟩) = (j44_21 n3).map e44:=by
 simp -implicitDefEqProofs only [j44_21,c44_21_e,c44_22_r,(show opsOf c44_22 = _ :: _ from rfl),c44_23_e,zq3,setA,setB,za,zb,zc,zd,ze,zf,zg,zh,zi,zj,zk,zl,zm,zn,zo,zp,reduceCtorEq,zE,↓reduceIte]
 all_goals rfl
def s44_8 (s0:Bs) (n3 t6 t7:Int):Option ((Bs×Int×Int×Int) ⊕ R44):=
 if (decide (t7 < t6)) = true then
  if 0≤t7∧t7 < (s0.length:Int) then
   some (.inl (s0,(w64 ((w64 (10 * n3)) + ((((s0.getD t7.toNat 0) - (48:UInt8)).toNat:Int).tmod 10))),t6,(w64 (t7 + 1))))
  else none
 else
  (j44_21 n3).map .inr
theorem s44_8_t (s0:Bs) (n3 t6 t7:Int):
  stepE (K44_8 (mm:=mm)) (loopF (E0 mm) 44 0 (callW (E0 mm)) itW c44_9 [(0,.keep),(3,.keep),(6,.keep),(7,.keep)] (none,[.v (.c (.d (.sc (.string (S s0))))),.v (.c (.d (.sc (.int .i64 n3)))),.v (.c (.d (.sc (.int .i64 t6)))),.v (.c (.d (.sc (.int .i64 t7))))],[])) = (s44_8 s0 n3 t6 t7).map (sm en44_8 e44):=by
 simp -implicitDefEqProofs only [s44_8,loopF_eq,c44_9_e,c44_10_r,(show opsOf c44_10 = _ :: _ from rfl),c44_11_e,(show c44_12 = Code.cond _ c44_13 c44_14 from rfl),setA,setB,za,zb,zc,zd,ze,zf,zg,zh,zi,zj,zk,zl,zm,zn,zo,zp,reduceCtorEq,zE,↓reduceIte]
 refine brB (fun yc1=>?_) (fun yc1=>?_)
 ·simp -implicitDefEqProofs only [c44_13_e,c44_15_e,c44_16_e,c44_17_e,c44_18_r,(show opsOf c44_18 = _ :: _ from rfl),c44_19_r,(show opsOf c44_19 = _ :: _ from rfl),Tryz.underlying9,yc1,setA,setB,za,zb,zc,zd,ze,zf,zg,zh,zi,zj,zk,zl,zm,zn,zo,zp,reduceCtorEq,zE,↓reduceIte]
  refine brP (fun yc2=>?_) (fun yc2=>?_)
  ·simp -implicitDefEqProofs only [Tryz.underlying5,Tryz.underlying3,c44_20_r,(show opsOf c44_20 = _ :: _ from rfl),yc1,yc2,setA,setB,za,zb,zc,zd,ze,zf,zg,zh,zi,zj,zk,zl,zm,zn,zo,zp,reduceCtorEq,zE,↓reduceIte]
   all_goals rfl
  ·rw [if_neg yc2]; rfl
 ·simp -implicitDefEqProofs only [c44_14_e,K44_8,yc1,setA,setB,za,zb,zc,zd,ze,zf,zg,zh,zi,zj,zk,zl,zm,zn,zo,zp,reduceCtorEq,zE,↓reduceIte]
  exact mi (j44_21_t n3 _ (by rfl))
def l44_8 (s0:Bs) (n3 t6 t7:Int):Option R44:=iter (fun x:(Bs×Int×Int×Int)=>s44_8 x.1 x.2.1 x.2.2.1 x.2.2.2) (s0,n3,t6,t7)
theorem l44_8_t (s0:Bs) (n3 t6 t7:Int):bodyD (E0 mm) [.tmp 2] 0 false (seqD (E0 mm) 44 0 (callW (E0 mm)) itW c44_21 (blockD 0 (itW (loopF (E0 mm) 44 0 (callW (E0 mm)) itW c44_9 [(0,.keep),(3,.keep),(6,.keep),(7,.keep)]) (none,[.v (.c (.d (.sc (.string (S s0))))),.v (.c (.d (.sc (.int .i64 n3)))),.v (.c (.d (.sc (.int .i64 t6)))),.v (.c (.d (.sc (.int .i64 t7))))],[])))) = (l44_8 s0 n3 t6 t7).map e44:=
 it_sim (K:=(K44_8 (mm:=mm))) rfl (enc:=en44_8) (fun x=>s44_8_t x.1 x.2.1 x.2.2.1 x.2.2.2) (s0,n3,t6,t7)
def m44 (s:Bs):Option R44:=
 l44_8 s (0:Int) (s.length:Int) (0:Int)
theorem f44_t (s:Bs):
  callW (E0 mm) 44 [.c (.d (.sc (.string (S s))))] [] = (m44 s).map e44:=by
 rw [callW_run (body:=c44_0) (res:=[.tmp 2]) Tryz.func44 rfl rfl (by kernel_rfl)]
 simp -implicitDefEqProofs only [m44,slots1,c44_0_e,c44_1_r,(show opsOf c44_1 = _ :: _ from rfl),c44_2_e,c44_3_r,(show opsOf c44_3 = _ :: _ from rfl),c44_4_e,c44_5_e,c44_6_r,(show opsOf c44_6 = _ :: _ from rfl),Tryz.underlying9,c44_7_e,c44_8_l,setA,setB,za,zb,zc,zd,ze,zf,zg,zh,zi,zj,zk,zl,zm,zn,zo,zp,reduceCtorEq,zE,↓reduceIte]
 exact l44_8_t s (0:Int) (s.length:Int) (0:Int)
noncomputable def c46_0:Code:=bodyOf Tryz.f46
def c46_1:=cA c46_0
def c46_2:=cB c46_0
def c46_3:=cA c46_2
def c46_4:=cB c46_2
def c46_5:=cA c46_4
def c46_6:=cB c46_4
def c46_7:=cA c46_6
def c46_8:=cB c46_6
theorem c46_0_e:c46_0 = .seq c46_1 c46_2:=rfl
theorem c46_1_r:RG (E0 mm) 46 c46_1:=rgN rfl
theorem c46_2_e:c46_2 = .seq c46_3 c46_4:=rfl
theorem c46_3_r:RG (E0 mm) 46 c46_3:=rgN rfl
theorem c46_4_e:c46_4 = .seq c46_5 c46_6:=rfl
theorem c46_5_r:RG (E0 mm) 46 c46_5:=rgN rfl
theorem c46_6_e:c46_6 = .seq c46_7 c46_8:=rfl
theorem c46_7_r:RG (E0 mm) 46 c46_7:=rgN rfl
theorem c46_8_e:c46_8 = .ret:=rfl
abbrev R46:=(Int)
def e46:R46→AV×Heap:=fun x=>(.v (.c (.d (.sc (.int .i64 x)))),[])
def m46 (year:Int):Option R46:=
 some (w64 ((w64 ((w64 (365 * (w64 (year - 1970)))) + (w64 ((w64 ((w64 ((w64 (year - 1)).tdiv 4)) - (w64 ((w64 (year - 1)).tdiv 100)))) + (w64 ((w64 (year - 1)).tdiv 400)))))) - 477))
theorem f46_t (year:Int):
  callW (E0 mm) 46 [.c (.d (.sc (.int .i64 year)))] [] = (m46 year).map e46:=by
 rw [callW_run (body:=c46_0) (res:=[.tmp 2]) Tryz.func46 rfl rfl (by kernel_rfl)]
 simp -implicitDefEqProofs only [m46,slots1,c46_0_e,c46_1_r,(show opsOf c46_1 = _ :: _ from rfl),c46_2_e,c46_3_r,(show opsOf c46_3 = _ :: _ from rfl),c46_4_e,c46_5_r,(show opsOf c46_5 = _ :: _ from rfl),c46_6_e,c46_7_r,(show opsOf c46_7 = _ :: _ from rfl),c46_8_e,setA,setB,za,zb,zc,zd,ze,zf,zg,zh,zi,zj,zk,zl,zm,zn,zo,zp,reduceCtorEq,zE,↓reduceIte]
 all_goals rfl
noncomputable def c67_0:Code:=bodyOf Tryz.f67
def c67_1:=cA c67_0
def c67_2:=cB c67_0
def c67_3:=cA c67_2
def c67_4:=cB c67_2
theorem c67_0_e:c67_0 = .seq c67_1 c67_2:=rfl
theorem c67_1_r:RG (E0 mm) 67 c67_1:=rgN rfl
theorem c67_2_e:c67_2 = .seq c67_3 c67_4:=rfl
theorem c67_3_r:RG (E0 mm) 67 c67_3:=rgN rfl
theorem c67_4_e:c67_4 = .ret:=rfl
abbrev R67:=(Bool)
def e67:R67→AV×Heap:=fun x=>(.v (.c (.d (.sc (.bool x)))),[])
def m67 (year:Int):Option R67:=
 if ((year.tmod 4) == 0) = true then
  if ((year.tmod 100) == 0) = true then
   some ((year.tmod 400) == 0)
  else
   some true
 else
  some ((year.tmod 400) == 0)
theorem f67_t (year:Int):
  callW (E0 mm) 67 [.c (.d (.sc (.int .i64 year)))] [] = (m67 year).map e67:=by
 rw [callW_run (body:=c67_0) (res:=[.tmp 2]) Tryz.func67 rfl rfl (by kernel_rfl)]
 simp -implicitDefEqProofs only [m67,slots1,c67_0_e,c67_1_r,(show opsOf c67_1 = _ :: _ from rfl),c67_2_e,c67_3_r,(show opsOf c67_3 = _ :: _ from rfl),setA,setB,za,zb,zc,zd,ze,zf,zg,zh,zi,zj,zk,zl,zm,zn,zo,zp,reduceCtorEq,zE,↓reduceIte]
 refine brB (fun yc1=>?_) (fun yc1=>?_)
 ·simp -implicitDefEqProofs only [yc1,setA,setB,za,zb,zc,zd,ze,zf,zg,zh,zi,zj,zk,zl,zm,zn,zo,zp,reduceCtorEq,zE,↓reduceIte]
  refine brB (fun yc2=>?_) (fun yc2=>?_)
  ·simp -implicitDefEqProofs only [c67_4_e,yc1,yc2,setA,setB,za,zb,zc,zd,ze,zf,zg,zh,zi,zj,zk,zl,zm,zn,zo,zp,reduceCtorEq,zE,↓reduceIte]
   all_goals rfl
  ·simp -implicitDefEqProofs only [c67_4_e,yc1,yc2,setA,setB,za,zb,zc,zd,ze,zf,zg,zh,zi,zj,zk,zl,zm,zn,zo,zp,reduceCtorEq,zE,↓reduceIte]
   all_goals rfl
 ·simp -implicitDefEqProofs only [c67_4_e,yc1,setA,setB,za,zb,zc,zd,ze,zf,zg,zh,zi,zj,zk,zl,zm,zn,zo,zp,reduceCtorEq,zE,↓reduceIte]
  all_goals rfl
noncomputable def c45_0:Code:=bodyOf Tryz.f45
def c45_1:=cA c45_0
def c45_2:=cB c45_0
def c45_3:=cA c45_2
def c45_4:=cB c45_2
def c45_5:=cA c45_4
def c45_6:=cA c45_5
def c45_7:=cB c45_5
def c45_8:=cA c45_7
def c45_9:=cA c45_8
def c45_10:=cB c45_8
def c45_11:=cB c45_7
def c45_12:=cB c45_4
def c45_13:=cA c45_12
def c45_14:=cB c45_12
theorem c45_0_e:c45_0 = .seq c45_1 c45_2:=rfl
theorem c45_1_r:RG (E0 mm) 45 c45_1:=rgN rfl
theorem c45_2_e:c45_2 = .seq c45_3 c45_4:=rfl
theorem c45_3_r:RG (E0 mm) 45 c45_3:=rgN rfl
theorem c45_4_e:c45_4 = .seq c45_5 c45_12:=rfl
theorem c45_5_e:c45_5 = .seq c45_6 c45_7:=rfl
theorem c45_6_r:RG (E0 mm) 45 c45_6:=rgN rfl
theorem c45_8_e:c45_8 = .seq c45_9 c45_10:=rfl
theorem c45_9_r:RG (E0 mm) 45 c45_9:=rgN rfl
theorem c45_10_e:c45_10 = .ret:=rfl
theorem c45_11_e:c45_11 = .skip:=rfl
theorem c45_12_e:c45_12 = .seq c45_13 c45_14:=rfl
theorem c45_13_r:RG (E0 mm) 45 c45_13:=rgN rfl
theorem c45_14_e:c45_14 = .ret:=rfl
abbrev R45:=(Int)
def e45:R45→AV×Heap:=fun x=>(.v (.c (.d (.sc (.int .i64 x)))),[])
def j45_7 (month1:Int) (t12:Bool):Option R45:=
 if t12 = true then
  some (29:Int)
 else
  if 0≤month1∧month1 < 12 then
   some (([(31:Int),(28:Int),(31:Int),(30:Int),(31:Int),(30:Int),(31:Int),(31:Int),(30:Int),(31:Int),(30:Int),(31:Int)]:List Int).getD month1.toNat default)
  else none
theorem j45_7_t (month1:Int) (t12:Bool)  (sl:Nat→AV) (zq1:sl 1 = .v (.c (.d (.sc (.int .i64 month1))))) (zq5:sl 5 = .v (.c (.ptr 0 0))) (zq12:sl 12 = .v (.c (.d (.sc (.bool t12))))):
  bodyD (E0 mm) [.tmp 4] 0 false (seqD (E0 mm) 45 0 (callW (E0 mm)) itW c45_12 (den (E0 mm) 45 0 (callW (E0 mm)) itW c45_7 none ⟨sl,[.cells [.d (.sc (.int .i64 31)),.d (.sc (.int .i64 28)),.d (.sc (.int .i64 31)),.d (.sc (.int .i64 30)),.d (.sc (.int .i64 31)),.d (.sc (.int .i64 30)),.d (.sc (.int .i64 31)),.d (.sc (.int .i64 31)),.d (.sc (.int .i64 30)),.d (.sc (.int .i64 31)),.d (.sc (.int .i64 30)),.d (.sc (.int .i64 31))]]⟩)) = (j45_7 month1 t12).map e45:=by
 simp -implicitDefEqProofs only [j45_7,(show c45_7 = Code.cond _ c45_8 c45_11 from rfl),zq1,zq5,zq12,setA,setB,za,zb,zc,zd,ze,zf,zg,zh,zi,zj,zk,zl,zm,zn,zo,zp,reduceCtorEq,zE,↓reduceIte]
 refine brB (fun yc4=>?_) (fun yc4=>?_)
 ·simp -implicitDefEqProofs only [c45_8_e,c45_9_r,(show opsOf c45_9 = _ :: _ from rfl),c45_10_e,zq1,zq5,zq12,yc4,setA,setB,za,zb,zc,zd,ze,zf,zg,zh,zi,zj,zk,zl,zm,zn,zo,zp,reduceCtorEq,zE,↓reduceIte]
  all_goals rfl
 ·simp -implicitDefEqProofs only [c45_11_e,c45_12_e,c45_13_r,(show opsOf c45_13 = _ :: _ from rfl),Tryz.underlying85,sz3,zq1,zq5,zq12,yc4,setA,setB,za,zb,zc,zd,ze,zf,zg,zh,zi,zj,zk,zl,zm,zn,zo,zp,reduceCtorEq,zE,↓reduceIte]
  refine brP (fun yc5=>?_) (fun yc5=>?_)
  ·have yd6:month1.toNat < 12:=by omega
   simp -implicitDefEqProofs only [sz3,ag3,ar8,c45_14_e,zq1,zq5,zq12,yc4,yc5,yd6,setA,setB,za,zb,zc,zd,ze,zf,zg,zh,zi,zj,zk,zl,zm,zn,zo,zp,reduceCtorEq,zE,↓reduceIte]
   all_goals rfl
  ·rw [if_neg yc5]; rfl
def m45 (year month:Int):Option R45:=
 if (month == 1) = true then
  (m67 year).bind fun yr3=>
   j45_7 month yr3
 else
  j45_7 month false
theorem f45_t (year month:Int):
  callW (E0 mm) 45 [.c (.d (.sc (.int .i64 year))),.c (.d (.sc (.int .i64 month)))] [] = (m45 year month).map e45:=by
 rw [callW_run (body:=c45_0) (res:=[.tmp 4]) Tryz.func45 rfl rfl (by kernel_rfl)]
 simp -implicitDefEqProofs only [m45,slots2,c45_0_e,c45_1_r,(show opsOf c45_1 = _ :: _ from rfl),c45_2_e,c45_3_r,(show opsOf c45_3 = _ :: _ from rfl),Tryz.underlying85,zc85,sz3,ao7,sz85,c45_4_e,c45_5_e,c45_6_r,(show opsOf c45_6 = _ :: _ from rfl),setA,setB,za,zb,zc,zd,ze,zf,zg,zh,zi,zj,zk,zl,zm,zn,zo,zp,reduceCtorEq,zE,↓reduceIte]
 refine brB (fun yc1=>?_) (fun yc1=>?_)
 ·simp -implicitDefEqProofs only [ent67,prm67,f67_t,yc1,setA,setB,za,zb,zc,zd,ze,zf,zg,zh,zi,zj,zk,zl,zm,zn,zo,zp,reduceCtorEq,zE,↓reduceIte]
  refine brM (fun yc2=>?_) (fun yr3 yc2=>?_)
  ·rw [yc2]; rfl
  ·simp -implicitDefEqProofs only [e67,yc1,yc2,setA,setB,za,zb,zc,zd,ze,zf,zg,zh,zi,zj,zk,zl,zm,zn,zo,zp,reduceCtorEq,zE,↓reduceIte]
   exact j45_7_t month yr3 _ (by rfl) (by rfl) (by rfl)
 ·simp -implicitDefEqProofs only [yc1,setA,setB,za,zb,zc,zd,ze,zf,zg,zh,zi,zj,zk,zl,zm,zn,zo,zp,reduceCtorEq,zE,↓reduceIte]
  exact j45_7_t month false _ (by rfl) (by rfl) (by rfl)
noncomputable def c68_0:Code:=bodyOf Tryz.f68
def c68_1:=cA c68_0
def c68_2:=cB c68_0
def c68_3:=cA c68_2
def c68_4:=cB c68_2
theorem c68_0_e:c68_0 = .seq c68_1 c68_2:=rfl
theorem c68_1_r:RG (E0 mm) 68 c68_1:=rgN rfl
theorem c68_2_e:c68_2 = .seq c68_3 c68_4:=rfl
theorem c68_3_r:RG (E0 mm) 68 c68_3:=rgN rfl
theorem c68_4_e:c68_4 = .ret:=rfl
abbrev R68:=(Bs)
def e68:R68→AV×Heap:=fun x=>(.v (.c (.d (.sc (.string (S x))))),[])
def m68 (n:Int):Option R68:=
 some ([(u8 (w64 (48 + ((w64 (n.tdiv 10)).tmod 10)))),(u8 (w64 (48 + (n.tmod 10))))]:List UInt8)
theorem f68_t (n:Int):
  callW (E0 mm) 68 [.c (.d (.sc (.int .i64 n)))] [] = (m68 n).map e68:=by
 rw [callW_run (body:=c68_0) (res:=[.tmp 2]) Tryz.func68 rfl rfl (by kernel_rfl)]
 simp -implicitDefEqProofs only [m68,slots1,c68_0_e,c68_1_r,(show opsOf c68_1 = _ :: _ from rfl),c68_2_e,c68_3_r,(show opsOf c68_3 = _ :: _ from rfl),Tryz.underlying3,Tryz.underlying5,Tryz.underlying24,sz5,zc5,hd9,nv10,rw11,ns12,Tryz.underlying9,c68_4_e,setA,setB,za,zb,zc,zd,ze,zf,zg,zh,zi,zj,zk,zl,zm,zn,zo,zp,reduceCtorEq,zE,↓reduceIte]
 all_goals rfl
noncomputable def c47_0:Code:=bodyOf Tryz.f47
def c47_1:=cA c47_0
def c47_2:=cB c47_0
def c47_3:=cA c47_2
def c47_4:=cA c47_3
def c47_5:=cB c47_3
def c47_6:=cA c47_5
def c47_7:=cA c47_6
def c47_8:=cB c47_6
def c47_9:=cB c47_5
def c47_10:=cB c47_2
def c47_11:=cA c47_10
def c47_12:=cB c47_10
def c47_13:=cA c47_12
def c47_14:=cB c47_12
def c47_15:=cA c47_14
def c47_16:=cA c47_15
def c47_17:=cA c47_16
def c47_18:=cA c47_17
def c47_19:=cA c47_18
def c47_20:=cB c47_18
def c47_21:=cA c47_20
def c47_22:=cB c47_20
def c47_23:=cB c47_17
def c47_24:=cA c47_23
def c47_25:=cB c47_14
def c47_26:=cA c47_25
def c47_27:=cB c47_25
def c47_28:=cA c47_27
def c47_29:=cA c47_28
def c47_30:=cA c47_29
def c47_31:=cA c47_30
def c47_32:=cA c47_31
def c47_33:=cB c47_31
def c47_34:=cA c47_33
def c47_35:=cB c47_33
def c47_36:=cB c47_30
def c47_37:=cA c47_36
def c47_38:=cA c47_37
def c47_39:=cB c47_37
def c47_40:=cB c47_27
def c47_41:=cA c47_40
def c47_42:=cB c47_40
def c47_43:=cA c47_42
def c47_44:=cB c47_42
theorem c47_0_e:c47_0 = .seq c47_1 c47_2:=rfl
theorem c47_1_r:RG (E0 mm) 47 c47_1:=rgN rfl
theorem c47_2_e:c47_2 = .seq c47_3 c47_10:=rfl
theorem c47_3_e:c47_3 = .seq c47_4 c47_5:=rfl
theorem c47_4_r:RG (E0 mm) 47 c47_4:=rgN rfl
theorem c47_6_e:c47_6 = .seq c47_7 c47_8:=rfl
theorem c47_7_r:RG (E0 mm) 47 c47_7:=rgN rfl
theorem c47_8_e:c47_8 = .ret:=rfl
theorem c47_9_e:c47_9 = .skip:=rfl
theorem c47_10_e:c47_10 = .seq c47_11 c47_12:=rfl
theorem c47_11_r:RG (E0 mm) 47 c47_11:=rgN rfl
theorem c47_12_e:c47_12 = .seq c47_13 c47_14:=rfl
theorem c47_13_r:RG (E0 mm) 47 c47_13:=rgN rfl
theorem c47_14_e:c47_14 = .seq c47_15 c47_25:=rfl
theorem c47_15_e:c47_15 = .block 0 c47_16:=rfl
theorem c47_16_l (m:Nat) (st:St):den (E0 mm) 47 m (callW (E0 mm)) itW c47_16 none st = loopD itW (loopF (E0 mm) 47 m (callW (E0 mm)) itW c47_17 [(4,.keep),(5,.keep),(6,.keep)]) (canon m [(4,.keep),(5,.keep),(6,.keep)] st):=rfl
theorem c47_17_e:c47_17 = .seq c47_18 c47_23:=rfl
theorem c47_18_e:c47_18 = .seq c47_19 c47_20:=rfl
theorem c47_19_r:RG (E0 mm) 47 c47_19:=rgN rfl
theorem c47_21_e:c47_21 = .skip:=rfl
theorem c47_22_e:c47_22 = .exit 0:=rfl
theorem c47_23_e:c47_23 = .block 1 c47_24:=rfl
theorem c47_24_r:RG (E0 mm) 47 c47_24:=rgN rfl
theorem c47_25_e:c47_25 = .seq c47_26 c47_27:=rfl
theorem c47_26_r:RG (E0 mm) 47 c47_26:=rgN rfl
theorem c47_27_e:c47_27 = .seq c47_28 c47_40:=rfl
theorem c47_28_e:c47_28 = .block 2 c47_29:=rfl
theorem c47_29_l (m:Nat) (st:St):den (E0 mm) 47 m (callW (E0 mm)) itW c47_29 none st = loopD itW (loopF (E0 mm) 47 m (callW (E0 mm)) itW c47_30 [(4,.keep),(5,.keep),(6,.keep),(7,.keep),(8,.keep)]) (canon m [(4,.keep),(5,.keep),(6,.keep),(7,.keep),(8,.keep)] st):=rfl
theorem c47_30_e:c47_30 = .seq c47_31 c47_36:=rfl
theorem c47_31_e:c47_31 = .seq c47_32 c47_33:=rfl
theorem c47_32_r:RG (E0 mm) 47 c47_32:=rgN rfl
theorem c47_34_e:c47_34 = .skip:=rfl
theorem c47_35_e:c47_35 = .exit 2:=rfl
theorem c47_36_e:c47_36 = .block 3 c47_37:=rfl
theorem c47_37_e:c47_37 = .seq c47_38 c47_39:=rfl
theorem c47_38_r:RG (E0 mm) 47 c47_38:=rgN rfl
theorem c47_39_r:RG (E0 mm) 47 c47_39:=rgN rfl
theorem c47_40_e:c47_40 = .seq c47_41 c47_42:=rfl
theorem c47_41_r:RG (E0 mm) 47 c47_41:=rgN rfl
theorem c47_42_e:c47_42 = .seq c47_43 c47_44:=rfl
theorem c47_43_r:RG (E0 mm) 47 c47_43:=rgD (by kernel_rfl)
theorem c47_44_e:c47_44 = .ret:=rfl
abbrev R47:=(Bs×Int)
def e47:R47→AV×Heap:=fun x=>(.tup [.c (.d (.sc (.string (S x.1)))),.c (.d (.sc (.int .i64 x.2)))],[])
def K47_16:Option (Ex×St)→Option (AV×Heap):=fun r=>bodyD (E0 mm) [.tmp 2,.tmp 3] 0 false (seqD (E0 mm) 47 0 (callW (E0 mm)) itW c47_25 (blockD 0 (r)))
def en47_16:(Int×Int×Int)→X:=fun x=>(none,[.v (.c (.d (.sc (.int .i64 x.1)))),.v (.c (.d (.sc (.int .i64 x.2.1)))),.v (.c (.d (.sc (.int .i64 x.2.2))))],[])
def K47_29:Option (Ex×St)→Option (AV×Heap):=fun r=>bodyD (E0 mm) [.tmp 2,.tmp 3] 0 false (seqD (E0 mm) 47 0 (callW (E0 mm)) itW c47_40 (blockD 2 (r)))
def en47_29:(Int×Int×Int×Int×Int)→X:=fun x=>(none,[.v (.c (.d (.sc (.int .i64 x.1)))),.v (.c (.d (.sc (.int .i64 x.2.1)))),.v (.c (.d (.sc (.int .i64 x.2.2.1)))),.v (.c (.d (.sc (.int .i64 x.2.2.2.1)))),.v (.c (.d (.sc (.int .i64 x.2.2.2.2))))],[])
def j47_40 (d4 s5:Int) (year6 rest7 month8:Int):Option R47:=
 (bnd (w64 ((w64 (3 * (d4.tmod 7))) + 3)) 21).bind fun yk11=>
  (bnd (w64 (3 * (d4.tmod 7))) yk11).bind fun yk13=>
   if ((([84,104,117,70,114,105,83,97,116,83,117,110,77,111,110,84,117,101,87,101,100]:Bs).take yk11).drop yk13).length + 2 < 9223372036854775808 then
    (m68 (w64 (rest7 + 1))).bind fun yr16=>
     if (((([84,104,117,70,114,105,83,97,116,83,117,110,77,111,110,84,117,101,87,101,100]:Bs).take yk11).drop yk13) ++ ([44,32]:Bs)).length + yr16.length < 9223372036854775808 then
      if ((((([84,104,117,70,114,105,83,97,116,83,117,110,77,111,110,84,117,101,87,101,100]:Bs).take yk11).drop yk13) ++ ([44,32]:Bs)) ++ yr16).length + 1 < 9223372036854775808 then
       (bnd (w64 ((w64 (3 * month8)) + 3)) 36).bind fun yk20=>
        (bnd (w64 (3 * month8)) yk20).bind fun yk22=>
         if (((((([84,104,117,70,114,105,83,97,116,83,117,110,77,111,110,84,117,101,87,101,100]:Bs).take yk11).drop yk13) ++ ([44,32]:Bs)) ++ yr16) ++ ([32]:Bs)).length + ((([74,97,110,70,101,98,77,97,114,65,112,114,77,97,121,74,117,110,74,117,108,65,117,103,83,101,112,79,99,116,78,111,118,68,101,99]:Bs).take yk20).drop yk22).length < 9223372036854775808 then
          if ((((((([84,104,117,70,114,105,83,97,116,83,117,110,77,111,110,84,117,101,87,101,100]:Bs).take yk11).drop yk13) ++ ([44,32]:Bs)) ++ yr16) ++ ([32]:Bs)) ++ ((([74,97,110,70,101,98,77,97,114,65,112,114,77,97,121,74,117,110,74,117,108,65,117,103,83,101,112,79,99,116,78,111,118,68,101,99]:Bs).take yk20).drop yk22)).length + 1 < 9223372036854775808 then
           (m68 (w64 (year6.tdiv 100))).bind fun yr26=>
            if (((((((([84,104,117,70,114,105,83,97,116,83,117,110,77,111,110,84,117,101,87,101,100]:Bs).take yk11).drop yk13) ++ ([44,32]:Bs)) ++ yr16) ++ ([32]:Bs)) ++ ((([74,97,110,70,101,98,77,97,114,65,112,114,77,97,121,74,117,110,74,117,108,65,117,103,83,101,112,79,99,116,78,111,118,68,101,99]:Bs).take yk20).drop yk22)) ++ ([32]:Bs)).length + yr26.length < 9223372036854775808 then
             (m68 (year6.tmod 100)).bind fun yr29=>
              if ((((((((([84,104,117,70,114,105,83,97,116,83,117,110,77,111,110,84,117,101,87,101,100]:Bs).take yk11).drop yk13) ++ ([44,32]:Bs)) ++ yr16) ++ ([32]:Bs)) ++ ((([74,97,110,70,101,98,77,97,114,65,112,114,77,97,121,74,117,110,74,117,108,65,117,103,83,101,112,79,99,116,78,111,118,68,101,99]:Bs).take yk20).drop yk22)) ++ ([32]:Bs)) ++ yr26).length + yr29.length < 9223372036854775808 then
               if (((((((((([84,104,117,70,114,105,83,97,116,83,117,110,77,111,110,84,117,101,87,101,100]:Bs).take yk11).drop yk13) ++ ([44,32]:Bs)) ++ yr16) ++ ([32]:Bs)) ++ ((([74,97,110,70,101,98,77,97,114,65,112,114,77,97,121,74,117,110,74,117,108,65,117,103,83,101,112,79,99,116,78,111,118,68,101,99]:Bs).take yk20).drop yk22)) ++ ([32]:Bs)) ++ yr26) ++ yr29).length + 1 < 9223372036854775808 then
                (m68 (w64 (s5.tdiv 3600))).bind fun yr33=>
                 if ((((((((((([84,104,117,70,114,105,83,97,116,83,117,110,77,111,110,84,117,101,87,101,100]:Bs).take yk11).drop yk13) ++ ([44,32]:Bs)) ++ yr16) ++ ([32]:Bs)) ++ ((([74,97,110,70,101,98,77,97,114,65,112,114,77,97,121,74,117,110,74,117,108,65,117,103,83,101,112,79,99,116,78,111,118,68,101,99]:Bs).take yk20).drop yk22)) ++ ([32]:Bs)) ++ yr26) ++ yr29) ++ ([32]:Bs)).length + yr33.length < 9223372036854775808 then
                  if (((((((((((([84,104,117,70,114,105,83,97,116,83,117,110,77,111,110,84,117,101,87,101,100]:Bs).take yk11).drop yk13) ++ ([44,32]:Bs)) ++ yr16) ++ ([32]:Bs)) ++ ((([74,97,110,70,101,98,77,97,114,65,112,114,77,97,121,74,117,110,74,117,108,65,117,103,83,101,112,79,99,116,78,111,118,68,101,99]:Bs).take yk20).drop yk22)) ++ ([32]:Bs)) ++ yr26) ++ yr29) ++ ([32]:Bs)) ++ yr33).length + 1 < 9223372036854775808 then
                   (m68 ((w64 (s5.tdiv 60)).tmod 60)).bind fun yr37=>
                    if ((((((((((((([84,104,117,70,114,105,83,97,116,83,117,110,77,111,110,84,117,101,87,101,100]:Bs).take yk11).drop yk13) ++ ([44,32]:Bs)) ++ yr16) ++ ([32]:Bs)) ++ ((([74,97,110,70,101,98,77,97,114,65,112,114,77,97,121,74,117,110,74,117,108,65,117,103,83,101,112,79,99,116,78,111,118,68,101,99]:Bs).take yk20).drop yk22)) ++ ([32]:Bs)) ++ yr26) ++ yr29) ++ ([32]:Bs)) ++ yr33) ++ ([58]:Bs)).length + yr37.length < 9223372036854775808 then
                     if (((((((((((((([84,104,117,70,114,105,83,97,116,83,117,110,77,111,110,84,117,101,87,101,100]:Bs).take yk11).drop yk13) ++ ([44,32]:Bs)) ++ yr16) ++ ([32]:Bs)) ++ ((([74,97,110,70,101,98,77,97,114,65,112,114,77,97,121,74,117,110,74,117,108,65,117,103,83,101,112,79,99,116,78,111,118,68,101,99]:Bs).take yk20).drop yk22)) ++ ([32]:Bs)) ++ yr26) ++ yr29) ++ ([32]:Bs)) ++ yr33) ++ ([58]:Bs)) ++ yr37).length + 1 < 9223372036854775808 then
                      (m68 (s5.tmod 60)).bind fun yr41=>
                       if ((((((((((((((([84,104,117,70,114,105,83,97,116,83,117,110,77,111,110,84,117,101,87,101,100]:Bs).take yk11).drop yk13) ++ ([44,32]:Bs)) ++ yr16) ++ ([32]:Bs)) ++ ((([74,97,110,70,101,98,77,97,114,65,112,114,77,97,121,74,117,110,74,117,108,65,117,103,83,101,112,79,99,116,78,111,118,68,101,99]:Bs).take yk20).drop yk22)) ++ ([32]:Bs)) ++ yr26) ++ yr29) ++ ([32]:Bs)) ++ yr33) ++ ([58]:Bs)) ++ yr37) ++ ([58]:Bs)).length + yr41.length < 9223372036854775808 then
                        if (((((((((((((((([84,104,117,70,114,105,83,97,116,83,117,110,77,111,110,84,117,101,87,101,100]:Bs).take yk11).drop yk13) ++ ([44,32]:Bs)) ++ yr16) ++ ([32]:Bs)) ++ ((([74,97,110,70,101,98,77,97,114,65,112,114,77,97,121,74,117,110,74,117,108,65,117,103,83,101,112,79,99,116,78,111,118,68,101,99]:Bs).take yk20).drop yk22)) ++ ([32]:Bs)) ++ yr26) ++ yr29) ++ ([32]:Bs)) ++ yr33) ++ ([58]:Bs)) ++ yr37) ++ ([58]:Bs)) ++ yr41).length + 4 < 9223372036854775808 then
                         some (((((((((((((((((([84,104,117,70,114,105,83,97,116,83,117,110,77,111,110,84,117,101,87,101,100]:Bs).take yk11).drop yk13) ++ ([44,32]:Bs)) ++ yr16) ++ ([32]:Bs)) ++ ((([74,97,110,70,101,98,77,97,114,65,112,114,77,97,121,74,117,110,74,117,108,65,117,103,83,101,112,79,99,116,78,111,118,68,101,99]:Bs).take yk20).drop yk22)) ++ ([32]:Bs)) ++ yr26) ++ yr29) ++ ([32]:Bs)) ++ yr33) ++ ([58]:Bs)) ++ yr37) ++ ([58]:Bs)) ++ yr41) ++ ([32,71,77,84]:Bs)),(0:Int))
                        else none
                       else none
                     else none
                    else none
                  else none
                 else none
               else none
              else none
            else none
          else none
         else none
      else none
     else none
   else none
theorem j47_40_t (d4 s5:Int) (year6 rest7 month8:Int)  (sl:Nat→AV) (zq4:sl 4 = .v (.c (.d (.sc (.int .i64 d4))))) (zq5:sl 5 = .v (.c (.d (.sc (.int .i64 s5))))) (zq6:sl 6 = .v (.c (.d (.sc (.int .i64 year6))))) (zq7:sl 7 = .v (.c (.d (.sc (.int .i64 rest7))))) (zq8:sl 8 = .v (.c (.d (.sc (.int .i64 month8))))):
  bodyD (E0 mm) [.tmp 2,.tmp 3] 0 false (den (E0 mm) 47 0 (callW (E0 mm)) itW c47_40 none ⟨sl,[]⟩) = (j47_40 d4 s5 year6 rest7 month8).map e47:=by
 simp -implicitDefEqProofs only [j47_40,c47_40_e,c47_41_r,(show opsOf c47_41 = _ :: _ from rfl),c47_42_e,c47_43_r,(show opsOf c47_43 = _ :: _ from rfl),Tryz.underlying9,zq4,zq5,zq6,zq7,zq8,setA,setB,za,zb,zc,zd,ze,zf,zg,zh,zi,zj,zk,zl,zm,zn,zo,zp,reduceCtorEq,zE,↓reduceIte]
 refine brM (fun yc10=>?_) (fun yk11 yc10=>?_)
 ·rw [yc10]; rfl
 ·simp -implicitDefEqProofs only [zq4,zq5,zq6,zq7,zq8,yc10,setA,setB,za,zb,zc,zd,ze,zf,zg,zh,zi,zj,zk,zl,zm,zn,zo,zp,reduceCtorEq,zE,↓reduceIte]
  refine brM (fun yc12=>?_) (fun yk13 yc12=>?_)
  ·rw [yc12]; rfl
  ·simp -implicitDefEqProofs only [zq4,zq5,zq6,zq7,zq8,yc10,yc12,setA,setB,za,zb,zc,zd,ze,zf,zg,zh,zi,zj,zk,zl,zm,zn,zo,zp,reduceCtorEq,zE,↓reduceIte]
   refine brP (fun yc14=>?_) (fun yc14=>?_)
   ·simp -implicitDefEqProofs only [ent68,prm68,f68_t,zq4,zq5,zq6,zq7,zq8,yc10,yc12,yc14,setA,setB,za,zb,zc,zd,ze,zf,zg,zh,zi,zj,zk,zl,zm,zn,zo,zp,reduceCtorEq,zE,↓reduceIte]
    refine brM (fun yc15=>?_) (fun yr16 yc15=>?_)
    ·rw [yc15]; rfl
    ·simp -implicitDefEqProofs only [e68,zq4,zq5,zq6,zq7,zq8,yc10,yc12,yc14,yc15,setA,setB,za,zb,zc,zd,ze,zf,zg,zh,zi,zj,zk,zl,zm,zn,zo,zp,reduceCtorEq,zE,↓reduceIte]
     refine brP (fun yc17=>?_) (fun yc17=>?_)
     ·simp -implicitDefEqProofs only [zq4,zq5,zq6,zq7,zq8,yc10,yc12,yc14,yc15,yc17,setA,setB,za,zb,zc,zd,ze,zf,zg,zh,zi,zj,zk,zl,zm,zn,zo,zp,reduceCtorEq,zE,↓reduceIte]
      refine brP (fun yc18=>?_) (fun yc18=>?_)
      ·simp -implicitDefEqProofs only [Tryz.underlying9,zq4,zq5,zq6,zq7,zq8,yc10,yc12,yc14,yc15,yc17,yc18,setA,setB,za,zb,zc,zd,ze,zf,zg,zh,zi,zj,zk,zl,zm,zn,zo,zp,reduceCtorEq,zE,↓reduceIte]
       refine brM (fun yc19=>?_) (fun yk20 yc19=>?_)
       ·rw [yc19]; rfl
       ·simp -implicitDefEqProofs only [zq4,zq5,zq6,zq7,zq8,yc10,yc12,yc14,yc15,yc17,yc18,yc19,setA,setB,za,zb,zc,zd,ze,zf,zg,zh,zi,zj,zk,zl,zm,zn,zo,zp,reduceCtorEq,zE,↓reduceIte]
        refine brM (fun yc21=>?_) (fun yk22 yc21=>?_)
        ·rw [yc21]; rfl
        ·simp -implicitDefEqProofs only [zq4,zq5,zq6,zq7,zq8,yc10,yc12,yc14,yc15,yc17,yc18,yc19,yc21,setA,setB,za,zb,zc,zd,ze,zf,zg,zh,zi,zj,zk,zl,zm,zn,zo,zp,reduceCtorEq,zE,↓reduceIte]
         refine brP (fun yc23=>?_) (fun yc23=>?_)
         ·simp -implicitDefEqProofs only [zq4,zq5,zq6,zq7,zq8,yc10,yc12,yc14,yc15,yc17,yc18,yc19,yc21,yc23,setA,setB,za,zb,zc,zd,ze,zf,zg,zh,zi,zj,zk,zl,zm,zn,zo,zp,reduceCtorEq,zE,↓reduceIte]
          refine brP (fun yc24=>?_) (fun yc24=>?_)
          ·simp -implicitDefEqProofs only [ent68,prm68,f68_t,zq4,zq5,zq6,zq7,zq8,yc10,yc12,yc14,yc15,yc17,yc18,yc19,yc21,yc23,yc24,setA,setB,za,zb,zc,zd,ze,zf,zg,zh,zi,zj,zk,zl,zm,zn,zo,zp,reduceCtorEq,zE,↓reduceIte]
           refine brM (fun yc25=>?_) (fun yr26 yc25=>?_)
           ·rw [yc25]; rfl
           ·simp -implicitDefEqProofs only [e68,zq4,zq5,zq6,zq7,zq8,yc10,yc12,yc14,yc15,yc17,yc18,yc19,yc21,yc23,yc24,yc25,setA,setB,za,zb,zc,zd,ze,zf,zg,zh,zi,zj,zk,zl,zm,zn,zo,zp,reduceCtorEq,zE,↓reduceIte]
            refine brP (fun yc27=>?_) (fun yc27=>?_)
            ·simp -implicitDefEqProofs only [ent68,prm68,f68_t,zq4,zq5,zq6,zq7,zq8,yc10,yc12,yc14,yc15,yc17,yc18,yc19,yc21,yc23,yc24,yc25,yc27,setA,setB,za,zb,zc,zd,ze,zf,zg,zh,zi,zj,zk,zl,zm,zn,zo,zp,reduceCtorEq,zE,↓reduceIte]
             refine brM (fun yc28=>?_) (fun yr29 yc28=>?_)
             ·rw [yc28]; rfl
             ·simp -implicitDefEqProofs only [e68,zq4,zq5,zq6,zq7,zq8,yc10,yc12,yc14,yc15,yc17,yc18,yc19,yc21,yc23,yc24,yc25,yc27,yc28,setA,setB,za,zb,zc,zd,ze,zf,zg,zh,zi,zj,zk,zl,zm,zn,zo,zp,reduceCtorEq,zE,↓reduceIte]
              refine brP (fun yc30=>?_) (fun yc30=>?_)
              ·simp -implicitDefEqProofs only [zq4,zq5,zq6,zq7,zq8,yc10,yc12,yc14,yc15,yc17,yc18,yc19,yc21,yc23,yc24,yc25,yc27,yc28,yc30,setA,setB,za,zb,zc,zd,ze,zf,zg,zh,zi,zj,zk,zl,zm,zn,zo,zp,reduceCtorEq,zE,↓reduceIte]
               refine brP (fun yc31=>?_) (fun yc31=>?_)
               ·simp -implicitDefEqProofs only [ent68,prm68,f68_t,zq4,zq5,zq6,zq7,zq8,yc10,yc12,yc14,yc15,yc17,yc18,yc19,yc21,yc23,yc24,yc25,yc27,yc28,yc30,yc31,setA,setB,za,zb,zc,zd,ze,zf,zg,zh,zi,zj,zk,zl,zm,zn,zo,zp,reduceCtorEq,zE,↓reduceIte]
                refine brM (fun yc32=>?_) (fun yr33 yc32=>?_)
                ·rw [yc32]; rfl
                ·simp -implicitDefEqProofs only [e68,zq4,zq5,zq6,zq7,zq8,yc10,yc12,yc14,yc15,yc17,yc18,yc19,yc21,yc23,yc24,yc25,yc27,yc28,yc30,yc31,yc32,setA,setB,za,zb,zc,zd,ze,zf,zg,zh,zi,zj,zk,zl,zm,zn,zo,zp,reduceCtorEq,zE,↓reduceIte]
                 refine brP (fun yc34=>?_) (fun yc34=>?_)
                 ·simp -implicitDefEqProofs only [zq4,zq5,zq6,zq7,zq8,yc10,yc12,yc14,yc15,yc17,yc18,yc19,yc21,yc23,yc24,yc25,yc27,yc28,yc30,yc31,yc32,yc34,setA,setB,za,zb,zc,zd,ze,zf,zg,zh,zi,zj,zk,zl,zm,zn,zo,zp,reduceCtorEq,zE,↓reduceIte]
                  refine brP (fun yc35=>?_) (fun yc35=>?_)
                  ·simp -implicitDefEqProofs only [ent68,prm68,f68_t,zq4,zq5,zq6,zq7,zq8,yc10,yc12,yc14,yc15,yc17,yc18,yc19,yc21,yc23,yc24,yc25,yc27,yc28,yc30,yc31,yc32,yc34,yc35,setA,setB,za,zb,zc,zd,ze,zf,zg,zh,zi,zj,zk,zl,zm,zn,zo,zp,reduceCtorEq,zE,↓reduceIte]
                   refine brM (fun yc36=>?_) (fun yr37 yc36=>?_)
                   ·rw [yc36]; rfl
                   ·simp -implicitDefEqProofs only [e68,zq4,zq5,zq6,zq7,zq8,yc10,yc12,yc14,yc15,yc17,yc18,yc19,yc21,yc23,yc24,yc25,yc27,yc28,yc30,yc31,yc32,yc34,yc35,yc36,setA,setB,za,zb,zc,zd,ze,zf,zg,zh,zi,zj,zk,zl,zm,zn,zo,zp,reduceCtorEq,zE,↓reduceIte]
                    refine brP (fun yc38=>?_) (fun yc38=>?_)
                    ·simp -implicitDefEqProofs only [zq4,zq5,zq6,zq7,zq8,yc10,yc12,yc14,yc15,yc17,yc18,yc19,yc21,yc23,yc24,yc25,yc27,yc28,yc30,yc31,yc32,yc34,yc35,yc36,yc38,setA,setB,za,zb,zc,zd,ze,zf,zg,zh,zi,zj,zk,zl,zm,zn,zo,zp,reduceCtorEq,zE,↓reduceIte]
                     refine brP (fun yc39=>?_) (fun yc39=>?_)
                     ·simp -implicitDefEqProofs only [ent68,prm68,f68_t,zq4,zq5,zq6,zq7,zq8,yc10,yc12,yc14,yc15,yc17,yc18,yc19,yc21,yc23,yc24,yc25,yc27,yc28,yc30,yc31,yc32,yc34,yc35,yc36,yc38,yc39,setA,setB,za,zb,zc,zd,ze,zf,zg,zh,zi,zj,zk,zl,zm,zn,zo,zp,reduceCtorEq,zE,↓reduceIte]
                      refine brM (fun yc40=>?_) (fun yr41 yc40=>?_)
                      ·rw [yc40]; rfl
                      ·simp -implicitDefEqProofs only [e68,zq4,zq5,zq6,zq7,zq8,yc10,yc12,yc14,yc15,yc17,yc18,yc19,yc21,yc23,yc24,yc25,yc27,yc28,yc30,yc31,yc32,yc34,yc35,yc36,yc38,yc39,yc40,setA,setB,za,zb,zc,zd,ze,zf,zg,zh,zi,zj,zk,zl,zm,zn,zo,zp,reduceCtorEq,zE,↓reduceIte]
                       refine brP (fun yc42=>?_) (fun yc42=>?_)
                       ·simp -implicitDefEqProofs only [zq4,zq5,zq6,zq7,zq8,yc10,yc12,yc14,yc15,yc17,yc18,yc19,yc21,yc23,yc24,yc25,yc27,yc28,yc30,yc31,yc32,yc34,yc35,yc36,yc38,yc39,yc40,yc42,setA,setB,za,zb,zc,zd,ze,zf,zg,zh,zi,zj,zk,zl,zm,zn,zo,zp,reduceCtorEq,zE,↓reduceIte]
                        refine brP (fun yc43=>?_) (fun yc43=>?_)
                        ·simp -implicitDefEqProofs only [c47_44_e,zq4,zq5,zq6,zq7,zq8,yc10,yc12,yc14,yc15,yc17,yc18,yc19,yc21,yc23,yc24,yc25,yc27,yc28,yc30,yc31,yc32,yc34,yc35,yc36,yc38,yc39,yc40,yc42,yc43,setA,setB,za,zb,zc,zd,ze,zf,zg,zh,zi,zj,zk,zl,zm,zn,zo,zp,reduceCtorEq,zE,↓reduceIte]
                         all_goals rfl
                        ·rw [if_neg yc43]; rfl
                       ·rw [if_neg yc42]; rfl
                     ·rw [if_neg yc39]; rfl
                    ·rw [if_neg yc38]; rfl
                  ·rw [if_neg yc35]; rfl
                 ·rw [if_neg yc34]; rfl
               ·rw [if_neg yc31]; rfl
              ·rw [if_neg yc30]; rfl
            ·rw [if_neg yc27]; rfl
          ·rw [if_neg yc24]; rfl
         ·rw [if_neg yc23]; rfl
      ·rw [if_neg yc18]; rfl
     ·rw [if_neg yc17]; rfl
   ·rw [if_neg yc14]; rfl
def s47_29 (d4 s5:Int) (year6 rest7 month8:Int):Option ((Int×Int×Int×Int×Int) ⊕ R47):=
 (m45 year6 month8).bind fun yr8=>
  if (decide (yr8≤rest7)) = true then
   some (.inl (d4,s5,year6,(w64 (rest7 - yr8)),(w64 (month8 + 1))))
  else
   (j47_40 d4 s5 year6 rest7 month8).map .inr
theorem s47_29_t (d4 s5:Int) (year6 rest7 month8:Int):
  stepE (K47_29 (mm:=mm)) (loopF (E0 mm) 47 0 (callW (E0 mm)) itW c47_30 [(4,.keep),(5,.keep),(6,.keep),(7,.keep),(8,.keep)] (none,[.v (.c (.d (.sc (.int .i64 d4)))),.v (.c (.d (.sc (.int .i64 s5)))),.v (.c (.d (.sc (.int .i64 year6)))),.v (.c (.d (.sc (.int .i64 rest7)))),.v (.c (.d (.sc (.int .i64 month8))))],[])) = (s47_29 d4 s5 year6 rest7 month8).map (sm en47_29 e47):=by
 simp -implicitDefEqProofs only [s47_29,loopF_eq,c47_30_e,c47_31_e,c47_32_r,(show opsOf c47_32 = _ :: _ from rfl),ent45,prm45,f45_t,setA,setB,za,zb,zc,zd,ze,zf,zg,zh,zi,zj,zk,zl,zm,zn,zo,zp,reduceCtorEq,zE,↓reduceIte]
 refine brM (fun yc7=>?_) (fun yr8 yc7=>?_)
 ·rw [yc7]; rfl
 ·simp -implicitDefEqProofs only [e45,(show c47_33 = Code.cond _ c47_34 c47_35 from rfl),yc7,setA,setB,za,zb,zc,zd,ze,zf,zg,zh,zi,zj,zk,zl,zm,zn,zo,zp,reduceCtorEq,zE,↓reduceIte]
  refine brB (fun yc9=>?_) (fun yc9=>?_)
  ·simp -implicitDefEqProofs only [c47_34_e,c47_36_e,c47_37_e,c47_38_r,(show opsOf c47_38 = _ :: _ from rfl),ent45,prm45,f45_t,e45,c47_39_r,(show opsOf c47_39 = _ :: _ from rfl),yc7,yc9,setA,setB,za,zb,zc,zd,ze,zf,zg,zh,zi,zj,zk,zl,zm,zn,zo,zp,reduceCtorEq,zE,↓reduceIte]
   all_goals rfl
  ·simp -implicitDefEqProofs only [c47_35_e,K47_29,yc7,yc9,setA,setB,za,zb,zc,zd,ze,zf,zg,zh,zi,zj,zk,zl,zm,zn,zo,zp,reduceCtorEq,zE,↓reduceIte]
   exact mi (j47_40_t d4 s5 year6 rest7 month8 _ (by rfl) (by rfl) (by rfl) (by rfl) (by rfl))
def l47_29 (d4 s5:Int) (year6 rest7 month8:Int):Option R47:=iter (fun x:(Int×Int×Int×Int×Int)=>s47_29 x.1 x.2.1 x.2.2.1 x.2.2.2.1 x.2.2.2.2) (d4,s5,year6,rest7,month8)
theorem l47_29_t (d4 s5:Int) (year6 rest7 month8:Int):bodyD (E0 mm) [.tmp 2,.tmp 3] 0 false (seqD (E0 mm) 47 0 (callW (E0 mm)) itW c47_40 (blockD 2 (itW (loopF (E0 mm) 47 0 (callW (E0 mm)) itW c47_30 [(4,.keep),(5,.keep),(6,.keep),(7,.keep),(8,.keep)]) (none,[.v (.c (.d (.sc (.int .i64 d4)))),.v (.c (.d (.sc (.int .i64 s5)))),.v (.c (.d (.sc (.int .i64 year6)))),.v (.c (.d (.sc (.int .i64 rest7)))),.v (.c (.d (.sc (.int .i64 month8))))],[])))) = (l47_29 d4 s5 year6 rest7 month8).map e47:=
 it_sim (K:=(K47_29 (mm:=mm))) rfl (enc:=en47_29) (fun x=>s47_29_t x.1 x.2.1 x.2.2.1 x.2.2.2.1 x.2.2.2.2) (d4,s5,year6,rest7,month8)
def j47_25 (d4 s5 year6:Int):Option R47:=
 (m46 year6).bind fun yr6=>
  l47_29 d4 s5 year6 (w64 (d4 - yr6)) (0:Int)
theorem j47_25_t (d4 s5 year6:Int)  (sl:Nat→AV) (zq4:sl 4 = .v (.c (.d (.sc (.int .i64 d4))))) (zq5:sl 5 = .v (.c (.d (.sc (.int .i64 s5))))) (zq6:sl 6 = .v (.c (.d (.sc (.int .i64 year6))))):
  bodyD (E0 mm) [.tmp 2,.tmp 3] 0 false (den (E0 mm) 47 0 (callW (E0 mm)) itW c47_25 none ⟨sl,[]⟩) = (j47_25 d4 s5 year6).map e47:=by
 simp -implicitDefEqProofs only [j47_25,c47_25_e,c47_26_r,(show opsOf c47_26 = _ :: _ from rfl),ent46,prm46,f46_t,zq4,zq5,zq6,setA,setB,za,zb,zc,zd,ze,zf,zg,zh,zi,zj,zk,zl,zm,zn,zo,zp,reduceCtorEq,zE,↓reduceIte]
 refine brM (fun yc5=>?_) (fun yr6 yc5=>?_)
 ·rw [yc5]; rfl
 ·simp -implicitDefEqProofs only [e46,c47_27_e,c47_28_e,c47_29_l,zq4,zq5,zq6,yc5,setA,setB,za,zb,zc,zd,ze,zf,zg,zh,zi,zj,zk,zl,zm,zn,zo,zp,reduceCtorEq,zE,↓reduceIte]
  exact l47_29_t d4 s5 year6 (w64 (d4 - yr6)) (0:Int)
def s47_16 (d4 s5 year6:Int):Option ((Int×Int×Int) ⊕ R47):=
 (m46 (w64 (year6 + 1))).bind fun yr3=>
  if (decide (yr3≤d4)) = true then
   some (.inl (d4,s5,(w64 (year6 + 1))))
  else
   (j47_25 d4 s5 year6).map .inr
theorem s47_16_t (d4 s5 year6:Int):
  stepE (K47_16 (mm:=mm)) (loopF (E0 mm) 47 0 (callW (E0 mm)) itW c47_17 [(4,.keep),(5,.keep),(6,.keep)] (none,[.v (.c (.d (.sc (.int .i64 d4)))),.v (.c (.d (.sc (.int .i64 s5)))),.v (.c (.d (.sc (.int .i64 year6))))],[])) = (s47_16 d4 s5 year6).map (sm en47_16 e47):=by
 simp -implicitDefEqProofs only [s47_16,loopF_eq,c47_17_e,c47_18_e,c47_19_r,(show opsOf c47_19 = _ :: _ from rfl),ent46,prm46,f46_t,setA,setB,za,zb,zc,zd,ze,zf,zg,zh,zi,zj,zk,zl,zm,zn,zo,zp,reduceCtorEq,zE,↓reduceIte]
 refine brM (fun yc2=>?_) (fun yr3 yc2=>?_)
 ·rw [yc2]; rfl
 ·simp -implicitDefEqProofs only [e46,(show c47_20 = Code.cond _ c47_21 c47_22 from rfl),yc2,setA,setB,za,zb,zc,zd,ze,zf,zg,zh,zi,zj,zk,zl,zm,zn,zo,zp,reduceCtorEq,zE,↓reduceIte]
  refine brB (fun yc4=>?_) (fun yc4=>?_)
  ·simp -implicitDefEqProofs only [c47_21_e,c47_23_e,c47_24_r,(show opsOf c47_24 = _ :: _ from rfl),yc2,yc4,setA,setB,za,zb,zc,zd,ze,zf,zg,zh,zi,zj,zk,zl,zm,zn,zo,zp,reduceCtorEq,zE,↓reduceIte]
   all_goals rfl
  ·simp -implicitDefEqProofs only [c47_22_e,K47_16,yc2,yc4,setA,setB,za,zb,zc,zd,ze,zf,zg,zh,zi,zj,zk,zl,zm,zn,zo,zp,reduceCtorEq,zE,↓reduceIte]
   exact mi (j47_25_t d4 s5 year6 _ (by rfl) (by rfl) (by rfl))
def l47_16 (d4 s5 year6:Int):Option R47:=iter (fun x:(Int×Int×Int)=>s47_16 x.1 x.2.1 x.2.2) (d4,s5,year6)
theorem l47_16_t (d4 s5 year6:Int):bodyD (E0 mm) [.tmp 2,.tmp 3] 0 false (seqD (E0 mm) 47 0 (callW (E0 mm)) itW c47_25 (blockD 0 (itW (loopF (E0 mm) 47 0 (callW (E0 mm)) itW c47_17 [(4,.keep),(5,.keep),(6,.keep)]) (none,[.v (.c (.d (.sc (.int .i64 d4)))),.v (.c (.d (.sc (.int .i64 s5)))),.v (.c (.d (.sc (.int .i64 year6))))],[])))) = (l47_16 d4 s5 year6).map e47:=
 it_sim (K:=(K47_16 (mm:=mm))) rfl (enc:=en47_16) (fun x=>s47_16_t x.1 x.2.1 x.2.2) (d4,s5,year6)
def m47 (n:Int):Option R47:=
 if (decide (253402300799 < n)) = true then
  some (([]:Bs),(3:Int))
 else
  l47_16 (w64 (wu64 (n.tdiv 86400))) (w64 (n.tmod 86400)) (w64 (1970 + (w64 ((w64 (wu64 (n.tdiv 86400))).tdiv 366))))
theorem f47_t (n:Int):
  callW (E0 mm) 47 [.c (.d (.sc (.int .u64 n)))] [] = (m47 n).map e47:=by
 rw [callW_run (body:=c47_0) (res:=[.tmp 2,.tmp 3]) Tryz.func47 rfl rfl (by kernel_rfl)]
 simp -implicitDefEqProofs only [m47,slots1,c47_0_e,c47_1_r,(show opsOf c47_1 = _ :: _ from rfl),c47_2_e,c47_3_e,c47_4_r,(show opsOf c47_4 = _ :: _ from rfl),(show c47_5 = Code.cond _ c47_6 c47_9 from rfl),setA,setB,za,zb,zc,zd,ze,zf,zg,zh,zi,zj,zk,zl,zm,zn,zo,zp,reduceCtorEq,zE,↓reduceIte]
 refine brB (fun yc1=>?_) (fun yc1=>?_)
 ·simp -implicitDefEqProofs only [c47_6_e,c47_7_r,(show opsOf c47_7 = _ :: _ from rfl),c47_8_e,yc1,setA,setB,za,zb,zc,zd,ze,zf,zg,zh,zi,zj,zk,zl,zm,zn,zo,zp,reduceCtorEq,zE,↓reduceIte]
  all_goals rfl
 ·simp -implicitDefEqProofs only [c47_9_e,c47_10_e,c47_11_r,(show opsOf c47_11 = _ :: _ from rfl),Tryz.underlying22,Tryz.underlying3,c47_12_e,c47_13_r,(show opsOf c47_13 = _ :: _ from rfl),c47_14_e,c47_15_e,c47_16_l,yc1,setA,setB,za,zb,zc,zd,ze,zf,zg,zh,zi,zj,zk,zl,zm,zn,zo,zp,reduceCtorEq,zE,↓reduceIte]
  exact l47_16_t (w64 (wu64 (n.tdiv 86400))) (w64 (n.tmod 86400)) (w64 (1970 + (w64 ((w64 (wu64 (n.tdiv 86400))).tdiv 366))))
noncomputable def c28_0:Code:=bodyOf Tryz.f28
def c28_1:=cA c28_0
def c28_2:=cB c28_0
def c28_3:=cA c28_2
def c28_4:=cA c28_3
def c28_5:=cB c28_3
def c28_6:=cA c28_5
def c28_7:=cA c28_6
def c28_8:=cB c28_6
def c28_9:=cB c28_5
def c28_10:=cB c28_2
def c28_11:=cA c28_10
def c28_12:=cB c28_10
def c28_13:=cA c28_12
def c28_14:=cB c28_12
def c28_15:=cA c28_14
def c28_16:=cA c28_15
def c28_17:=cB c28_15
def c28_18:=cA c28_17
def c28_19:=cA c28_18
def c28_20:=cB c28_18
def c28_21:=cB c28_17
def c28_22:=cB c28_14
def c28_23:=cA c28_22
def c28_24:=cB c28_22
def c28_25:=cA c28_24
def c28_26:=cA c28_25
def c28_27:=cB c28_25
def c28_28:=cA c28_27
def c28_29:=cA c28_28
def c28_30:=cA c28_29
def c28_31:=cB c28_29
def c28_32:=cA c28_31
def c28_33:=cA c28_32
def c28_34:=cB c28_32
def c28_35:=cB c28_31
def c28_36:=cA c28_35
def c28_37:=cA c28_36
def c28_38:=cA c28_37
def c28_39:=cB c28_37
def c28_40:=cB c28_35
def c28_41:=cB c28_24
def c28_42:=cA c28_41
def c28_43:=cB c28_41
def c28_44:=cA c28_43
def c28_45:=cA c28_44
def c28_46:=cB c28_44
def c28_47:=cA c28_46
def c28_48:=cB c28_46
def c28_49:=cA c28_48
def c28_50:=cA c28_49
def c28_51:=cB c28_49
def c28_52:=cB c28_48
def c28_53:=cB c28_43
def c28_54:=cA c28_53
def c28_55:=cB c28_53
theorem c28_0_e:c28_0 = .seq c28_1 c28_2:=rfl
theorem c28_1_r:RG (E0 mm) 28 c28_1:=rgN rfl
theorem c28_2_e:c28_2 = .seq c28_3 c28_10:=rfl
theorem c28_3_e:c28_3 = .seq c28_4 c28_5:=rfl
theorem c28_4_r:RG (E0 mm) 28 c28_4:=rgN rfl
theorem c28_6_e:c28_6 = .seq c28_7 c28_8:=rfl
theorem c28_7_r:RG (E0 mm) 28 c28_7:=rgN rfl
theorem c28_8_e:c28_8 = .ret:=rfl
theorem c28_9_e:c28_9 = .skip:=rfl
theorem c28_10_e:c28_10 = .seq c28_11 c28_12:=rfl
theorem c28_11_r:RG (E0 mm) 28 c28_11:=rgN rfl
theorem c28_12_e:c28_12 = .seq c28_13 c28_14:=rfl
theorem c28_13_r:RG (E0 mm) 28 c28_13:=rgD (by kernel_rfl)
theorem c28_14_e:c28_14 = .seq c28_15 c28_22:=rfl
theorem c28_15_e:c28_15 = .seq c28_16 c28_17:=rfl
theorem c28_16_r:RG (E0 mm) 28 c28_16:=rgN rfl
theorem c28_18_e:c28_18 = .seq c28_19 c28_20:=rfl
theorem c28_19_r:RG (E0 mm) 28 c28_19:=rgN rfl
theorem c28_20_e:c28_20 = .ret:=rfl
theorem c28_21_e:c28_21 = .skip:=rfl
theorem c28_22_e:c28_22 = .seq c28_23 c28_24:=rfl
theorem c28_23_r:RG (E0 mm) 28 c28_23:=rgN rfl
theorem c28_24_e:c28_24 = .seq c28_25 c28_41:=rfl
theorem c28_25_e:c28_25 = .seq c28_26 c28_27:=rfl
theorem c28_26_r:RG (E0 mm) 28 c28_26:=rgN rfl
theorem c28_27_e:c28_27 = .block 0 c28_28:=rfl
theorem c28_28_l (m:Nat) (st:St):den (E0 mm) 28 m (callW (E0 mm)) itW c28_28 none st = loopD itW (loopF (E0 mm) 28 m (callW (E0 mm)) itW c28_29 [(0,.keep),(5,.keep),(7,.keep),(53,.keep),(54,.keep)]) (canon m [(0,.keep),(5,.keep),(7,.keep),(53,.keep),(54,.keep)] st):=rfl
theorem c28_29_e:c28_29 = .seq c28_30 c28_31:=rfl
theorem c28_30_r:RG (E0 mm) 28 c28_30:=rgN rfl
theorem c28_31_e:c28_31 = .seq c28_32 c28_35:=rfl
theorem c28_33_e:c28_33 = .skip:=rfl
theorem c28_34_e:c28_34 = .exit 0:=rfl
theorem c28_35_e:c28_35 = .seq c28_36 c28_40:=rfl
theorem c28_36_e:c28_36 = .block 1 c28_37:=rfl
theorem c28_37_e:c28_37 = .seq c28_38 c28_39:=rfl
theorem c28_38_r:RG (E0 mm) 28 c28_38:=rgN rfl
theorem c28_39_r:RG (E0 mm) 28 c28_39:=rgN rfl
theorem c28_40_r:RG (E0 mm) 28 c28_40:=rgN rfl
theorem c28_41_e:c28_41 = .seq c28_42 c28_43:=rfl
theorem c28_42_r:RG (E0 mm) 28 c28_42:=rgD (by kernel_rfl)
theorem c28_43_e:c28_43 = .seq c28_44 c28_53:=rfl
theorem c28_44_e:c28_44 = .seq c28_45 c28_46:=rfl
theorem c28_45_r:RG (E0 mm) 28 c28_45:=rgN rfl
theorem c28_46_e:c28_46 = .seq c28_47 c28_48:=rfl
theorem c28_47_r:RG (E0 mm) 28 c28_47:=rgN rfl
theorem c28_49_e:c28_49 = .seq c28_50 c28_51:=rfl
theorem c28_50_r:RG (E0 mm) 28 c28_50:=rgN rfl
theorem c28_51_e:c28_51 = .ret:=rfl
theorem c28_52_e:c28_52 = .skip:=rfl
theorem c28_53_e:c28_53 = .seq c28_54 c28_55:=rfl
theorem c28_54_r:RG (E0 mm) 28 c28_54:=rgN rfl
theorem c28_55_e:c28_55 = .ret:=rfl
abbrev R28:=(Int×Int)
def e28:R28→AV×Heap:=fun x=>(.tup [.c (.d (.sc (.int .u64 x.1))),.c (.d (.sc (.int .i64 x.2)))],[])
def K28_28:Option (Ex×St)→Option (AV×Heap):=fun r=>bodyD (E0 mm) [.tmp 2,.tmp 3] 0 false (seqD (E0 mm) 28 0 (callW (E0 mm)) itW c28_41 (blockD 0 (r)))
def en28_28:(Bs×Int×Int×Int×Int)→X:=fun x=>(none,[.v (.c (.d (.sc (.string (S x.1))))),.v (.c (.d (.sc (.int .i64 x.2.1)))),.v (.c (.d (.sc (.int .i64 x.2.2.1)))),.v (.c (.d (.sc (.int .i64 x.2.2.2.1)))),.v (.c (.d (.sc (.int .i64 x.2.2.2.2))))],[])
def j28_48 (n9:Int) (t91:Bool):Option R28:=
 if t91 = true then
  some ((0:Int),(5:Int))
 else
  some (n9,(0:Int))
theorem j28_48_t (n9:Int) (t91:Bool)  (sl:Nat→AV) (zq9:sl 9 = .v (.c (.d (.sc (.int .u64 n9))))) (zq91:sl 91 = .v (.c (.d (.sc (.bool t91))))):
  bodyD (E0 mm) [.tmp 2,.tmp 3] 0 false (seqD (E0 mm) 28 0 (callW (E0 mm)) itW c28_53 (den (E0 mm) 28 0 (callW (E0 mm)) itW c28_48 none ⟨sl,[]⟩)) = (j28_48 n9 t91).map e28:=by
 simp -implicitDefEqProofs only [j28_48,(show c28_48 = Code.cond _ c28_49 c28_52 from rfl),zq9,zq91,setA,setB,za,zb,zc,zd,ze,zf,zg,zh,zi,zj,zk,zl,zm,zn,zo,zp,reduceCtorEq,zE,↓reduceIte]
 refine brB (fun yc48=>?_) (fun yc48=>?_)
 ·simp -implicitDefEqProofs only [c28_49_e,c28_50_r,(show opsOf c28_50 = _ :: _ from rfl),c28_51_e,zq9,zq91,yc48,setA,setB,za,zb,zc,zd,ze,zf,zg,zh,zi,zj,zk,zl,zm,zn,zo,zp,reduceCtorEq,zE,↓reduceIte]
  all_goals rfl
 ·simp -implicitDefEqProofs only [c28_52_e,c28_53_e,c28_54_r,(show opsOf c28_54 = _ :: _ from rfl),c28_55_e,zq9,zq91,yc48,setA,setB,za,zb,zc,zd,ze,zf,zg,zh,zi,zj,zk,zl,zm,zn,zo,zp,reduceCtorEq,zE,↓reduceIte]
  all_goals rfl
def j28_41 (s0:Bs) (d7:Int):Option R28:=
 (bnd 19 s0.length).bind fun yk28=>
  (bnd 17 yk28).bind fun yk30=>
   (m44 ((s0.take yk28).drop yk30)).bind fun yr32=>
    (bnd 22 s0.length).bind fun yk34=>
     (bnd 20 yk34).bind fun yk36=>
      (m44 ((s0.take yk34).drop yk36)).bind fun yr38=>
       (bnd 25 s0.length).bind fun yk40=>
        (bnd 23 yk40).bind fun yk42=>
         (m44 ((s0.take yk40).drop yk42)).bind fun yr44=>
          (m47 (wu64 (w64 ((w64 ((w64 ((w64 (d7 * 86400)) + (w64 (yr32 * 3600)))) + (w64 (yr38 * 60)))) + yr44)))).bind fun yr46=>
           if (yr46.2 == 0) = true then
            j28_48 (wu64 (w64 ((w64 ((w64 ((w64 (d7 * 86400)) + (w64 (yr32 * 3600)))) + (w64 (yr38 * 60)))) + yr44))) (!(yr46.1 == s0))
           else
            j28_48 (wu64 (w64 ((w64 ((w64 ((w64 (d7 * 86400)) + (w64 (yr32 * 3600)))) + (w64 (yr38 * 60)))) + yr44))) true
theorem j28_41_t (s0:Bs) (d7:Int)  (sl:Nat→AV) (zq0:sl 0 = .v (.c (.d (.sc (.string (S s0)))))) (zq7:sl 7 = .v (.c (.d (.sc (.int .i64 d7))))):
  bodyD (E0 mm) [.tmp 2,.tmp 3] 0 false (den (E0 mm) 28 0 (callW (E0 mm)) itW c28_41 none ⟨sl,[]⟩) = (j28_41 s0 d7).map e28:=by
 simp -implicitDefEqProofs only [j28_41,c28_41_e,c28_42_r,(show opsOf c28_42 = _ :: _ from rfl),Tryz.underlying9,zq0,zq7,setA,setB,za,zb,zc,zd,ze,zf,zg,zh,zi,zj,zk,zl,zm,zn,zo,zp,reduceCtorEq,zE,↓reduceIte]
 refine brM (fun yc27=>?_) (fun yk28 yc27=>?_)
 ·rw [yc27]; rfl
 ·simp -implicitDefEqProofs only [zq0,zq7,yc27,setA,setB,za,zb,zc,zd,ze,zf,zg,zh,zi,zj,zk,zl,zm,zn,zo,zp,reduceCtorEq,zE,↓reduceIte]
  refine brM (fun yc29=>?_) (fun yk30 yc29=>?_)
  ·rw [yc29]; rfl
  ·simp -implicitDefEqProofs only [ent44,prm44,f44_t,zq0,zq7,yc27,yc29,setA,setB,za,zb,zc,zd,ze,zf,zg,zh,zi,zj,zk,zl,zm,zn,zo,zp,reduceCtorEq,zE,↓reduceIte]
   refine brM (fun yc31=>?_) (fun yr32 yc31=>?_)
   ·rw [yc31]; rfl
   ·simp -implicitDefEqProofs only [e44,Tryz.underlying9,zq0,zq7,yc27,yc29,yc31,setA,setB,za,zb,zc,zd,ze,zf,zg,zh,zi,zj,zk,zl,zm,zn,zo,zp,reduceCtorEq,zE,↓reduceIte]
    refine brM (fun yc33=>?_) (fun yk34 yc33=>?_)
    ·rw [yc33]; rfl
    ·simp -implicitDefEqProofs only [zq0,zq7,yc27,yc29,yc31,yc33,setA,setB,za,zb,zc,zd,ze,zf,zg,zh,zi,zj,zk,zl,zm,zn,zo,zp,reduceCtorEq,zE,↓reduceIte]
     refine brM (fun yc35=>?_) (fun yk36 yc35=>?_)
     ·rw [yc35]; rfl
     ·simp -implicitDefEqProofs only [ent44,prm44,f44_t,zq0,zq7,yc27,yc29,yc31,yc33,yc35,setA,setB,za,zb,zc,zd,ze,zf,zg,zh,zi,zj,zk,zl,zm,zn,zo,zp,reduceCtorEq,zE,↓reduceIte]
      refine brM (fun yc37=>?_) (fun yr38 yc37=>?_)
      ·rw [yc37]; rfl
      ·simp -implicitDefEqProofs only [e44,Tryz.underlying9,zq0,zq7,yc27,yc29,yc31,yc33,yc35,yc37,setA,setB,za,zb,zc,zd,ze,zf,zg,zh,zi,zj,zk,zl,zm,zn,zo,zp,reduceCtorEq,zE,↓reduceIte]
       refine brM (fun yc39=>?_) (fun yk40 yc39=>?_)
       ·rw [yc39]; rfl
       ·simp -implicitDefEqProofs only [zq0,zq7,yc27,yc29,yc31,yc33,yc35,yc37,yc39,setA,setB,za,zb,zc,zd,ze,zf,zg,zh,zi,zj,zk,zl,zm,zn,zo,zp,reduceCtorEq,zE,↓reduceIte]
        refine brM (fun yc41=>?_) (fun yk42 yc41=>?_)
        ·rw [yc41]; rfl
        ·simp -implicitDefEqProofs only [ent44,prm44,f44_t,zq0,zq7,yc27,yc29,yc31,yc33,yc35,yc37,yc39,yc41,setA,setB,za,zb,zc,zd,ze,zf,zg,zh,zi,zj,zk,zl,zm,zn,zo,zp,reduceCtorEq,zE,↓reduceIte]
         refine brM (fun yc43=>?_) (fun yr44 yc43=>?_)
         ·rw [yc43]; rfl
         ·simp -implicitDefEqProofs only [e44,Tryz.underlying3,Tryz.underlying22,c28_43_e,c28_44_e,c28_45_r,(show opsOf c28_45 = _ :: _ from rfl),ent47,prm47,f47_t,zq0,zq7,yc27,yc29,yc31,yc33,yc35,yc37,yc39,yc41,yc43,setA,setB,za,zb,zc,zd,ze,zf,zg,zh,zi,zj,zk,zl,zm,zn,zo,zp,reduceCtorEq,zE,↓reduceIte]
          refine brM (fun yc45=>?_) (fun yr46 yc45=>?_)
          ·rw [yc45]; rfl
          ·simp -implicitDefEqProofs only [e47,c28_46_e,c28_47_r,(show opsOf c28_47 = _ :: _ from rfl),zq0,zq7,yc27,yc29,yc31,yc33,yc35,yc37,yc39,yc41,yc43,yc45,setA,setB,za,zb,zc,zd,ze,zf,zg,zh,zi,zj,zk,zl,zm,zn,zo,zp,reduceCtorEq,zE,↓reduceIte]
           refine brB (fun yc47=>?_) (fun yc47=>?_)
           ·simp -implicitDefEqProofs only [zq0,zq7,yc27,yc29,yc31,yc33,yc35,yc37,yc39,yc41,yc43,yc45,yc47,setA,setB,za,zb,zc,zd,ze,zf,zg,zh,zi,zj,zk,zl,zm,zn,zo,zp,reduceCtorEq,zE,↓reduceIte]
            exact j28_48_t (wu64 (w64 ((w64 ((w64 ((w64 (d7 * 86400)) + (w64 (yr32 * 3600)))) + (w64 (yr38 * 60)))) + yr44))) (!(yr46.1 == s0)) _ (by rfl) (by rfl)
           ·simp -implicitDefEqProofs only [zq0,zq7,yc27,yc29,yc31,yc33,yc35,yc37,yc39,yc41,yc43,yc45,yc47,setA,setB,za,zb,zc,zd,ze,zf,zg,zh,zi,zj,zk,zl,zm,zn,zo,zp,reduceCtorEq,zE,↓reduceIte]
            exact j28_48_t (wu64 (w64 ((w64 ((w64 ((w64 (d7 * 86400)) + (w64 (yr32 * 3600)))) + (w64 (yr38 * 60)))) + yr44))) true _ (by rfl) (by rfl)
def s28_28 (s0:Bs) (year5 d7:Int) (t53 t54:Int):Option ((Bs×Int×Int×Int×Int) ⊕ R28):=
 if (decide (t54 < t53)) = true then
  (m45 year5 t54).bind fun yr26=>
   some (.inl (s0,year5,(w64 (d7 + yr26)),t53,(w64 (t54 + 1))))
 else
  (j28_41 s0 d7).map .inr
theorem s28_28_t (s0:Bs) (year5 d7:Int) (t53 t54:Int):
  stepE (K28_28 (mm:=mm)) (loopF (E0 mm) 28 0 (callW (E0 mm)) itW c28_29 [(0,.keep),(5,.keep),(7,.keep),(53,.keep),(54,.keep)] (none,[.v (.c (.d (.sc (.string (S s0))))),.v (.c (.d (.sc (.int .i64 year5)))),.v (.c (.d (.sc (.int .i64 d7)))),.v (.c (.d (.sc (.int .i64 t53)))),.v (.c (.d (.sc (.int .i64 t54))))],[])) = (s28_28 s0 year5 d7 t53 t54).map (sm en28_28 e28):=by
 simp -implicitDefEqProofs only [s28_28,loopF_eq,c28_29_e,c28_30_r,(show opsOf c28_30 = _ :: _ from rfl),c28_31_e,(show c28_32 = Code.cond _ c28_33 c28_34 from rfl),setA,setB,za,zb,zc,zd,ze,zf,zg,zh,zi,zj,zk,zl,zm,zn,zo,zp,reduceCtorEq,zE,↓reduceIte]
 refine brB (fun yc24=>?_) (fun yc24=>?_)
 ·simp -implicitDefEqProofs only [c28_33_e,c28_35_e,c28_36_e,c28_37_e,c28_38_r,(show opsOf c28_38 = _ :: _ from rfl),c28_39_r,(show opsOf c28_39 = _ :: _ from rfl),ent45,prm45,f45_t,yc24,setA,setB,za,zb,zc,zd,ze,zf,zg,zh,zi,zj,zk,zl,zm,zn,zo,zp,reduceCtorEq,zE,↓reduceIte]
  refine brM (fun yc25=>?_) (fun yr26 yc25=>?_)
  ·rw [yc25]; rfl
  ·simp -implicitDefEqProofs only [e45,c28_40_r,(show opsOf c28_40 = _ :: _ from rfl),yc24,yc25,setA,setB,za,zb,zc,zd,ze,zf,zg,zh,zi,zj,zk,zl,zm,zn,zo,zp,reduceCtorEq,zE,↓reduceIte]
   all_goals rfl
 ·simp -implicitDefEqProofs only [c28_34_e,K28_28,yc24,setA,setB,za,zb,zc,zd,ze,zf,zg,zh,zi,zj,zk,zl,zm,zn,zo,zp,reduceCtorEq,zE,↓reduceIte]
  exact mi (j28_41_t s0 d7 _ (by rfl) (by rfl))
def l28_28 (s0:Bs) (year5 d7:Int) (t53 t54:Int):Option R28:=iter (fun x:(Bs×Int×Int×Int×Int)=>s28_28 x.1 x.2.1 x.2.2.1 x.2.2.2.1 x.2.2.2.2) (s0,year5,d7,t53,t54)
theorem l28_28_t (s0:Bs) (year5 d7:Int) (t53 t54:Int):bodyD (E0 mm) [.tmp 2,.tmp 3] 0 false (seqD (E0 mm) 28 0 (callW (E0 mm)) itW c28_41 (blockD 0 (itW (loopF (E0 mm) 28 0 (callW (E0 mm)) itW c28_29 [(0,.keep),(5,.keep),(7,.keep),(53,.keep),(54,.keep)]) (none,[.v (.c (.d (.sc (.string (S s0))))),.v (.c (.d (.sc (.int .i64 year5)))),.v (.c (.d (.sc (.int .i64 d7)))),.v (.c (.d (.sc (.int .i64 t53)))),.v (.c (.d (.sc (.int .i64 t54))))],[])))) = (l28_28 s0 year5 d7 t53 t54).map e28:=
 it_sim (K:=(K28_28 (mm:=mm))) rfl (enc:=en28_28) (fun x=>s28_28_t x.1 x.2.1 x.2.2.1 x.2.2.2.1 x.2.2.2.2) (s0,year5,d7,t53,t54)
def j28_17 (s0:Bs) (at4 year5 date6:Int) (t46:Bool):Option R28:=
 if t46 = true then
  some ((0:Int),(5:Int))
 else
  (m46 year5).bind fun yr23=>
   l28_28 s0 year5 (w64 ((w64 (yr23 + date6)) - 1)) (w64 (at4.tdiv 3)) (0:Int)
theorem j28_17_t (s0:Bs) (at4 year5 date6:Int) (t46:Bool)  (sl:Nat→AV) (zq0:sl 0 = .v (.c (.d (.sc (.string (S s0)))))) (zq4:sl 4 = .v (.c (.d (.sc (.int .i64 at4))))) (zq5:sl 5 = .v (.c (.d (.sc (.int .i64 year5))))) (zq6:sl 6 = .v (.c (.d (.sc (.int .i64 date6))))) (zq46:sl 46 = .v (.c (.d (.sc (.bool t46))))):
  bodyD (E0 mm) [.tmp 2,.tmp 3] 0 false (seqD (E0 mm) 28 0 (callW (E0 mm)) itW c28_22 (den (E0 mm) 28 0 (callW (E0 mm)) itW c28_17 none ⟨sl,[]⟩)) = (j28_17 s0 at4 year5 date6 t46).map e28:=by
 simp -implicitDefEqProofs only [j28_17,(show c28_17 = Code.cond _ c28_18 c28_21 from rfl),zq0,zq4,zq5,zq6,zq46,setA,setB,za,zb,zc,zd,ze,zf,zg,zh,zi,zj,zk,zl,zm,zn,zo,zp,reduceCtorEq,zE,↓reduceIte]
 refine brB (fun yc21=>?_) (fun yc21=>?_)
 ·simp -implicitDefEqProofs only [c28_18_e,c28_19_r,(show opsOf c28_19 = _ :: _ from rfl),c28_20_e,zq0,zq4,zq5,zq6,zq46,yc21,setA,setB,za,zb,zc,zd,ze,zf,zg,zh,zi,zj,zk,zl,zm,zn,zo,zp,reduceCtorEq,zE,↓reduceIte]
  all_goals rfl
 ·simp -implicitDefEqProofs only [c28_21_e,c28_22_e,c28_23_r,(show opsOf c28_23 = _ :: _ from rfl),ent46,prm46,f46_t,zq0,zq4,zq5,zq6,zq46,yc21,setA,setB,za,zb,zc,zd,ze,zf,zg,zh,zi,zj,zk,zl,zm,zn,zo,zp,reduceCtorEq,zE,↓reduceIte]
  refine brM (fun yc22=>?_) (fun yr23 yc22=>?_)
  ·rw [yc22]; rfl
  ·simp -implicitDefEqProofs only [e46,c28_24_e,c28_25_e,c28_26_r,(show opsOf c28_26 = _ :: _ from rfl),c28_27_e,c28_28_l,zq0,zq4,zq5,zq6,zq46,yc21,yc22,setA,setB,za,zb,zc,zd,ze,zf,zg,zh,zi,zj,zk,zl,zm,zn,zo,zp,reduceCtorEq,zE,↓reduceIte]
   exact l28_28_t s0 year5 (w64 ((w64 (yr23 + date6)) - 1)) (w64 (at4.tdiv 3)) (0:Int)
def m28 (s:Bs):Option R28:=
 if ((s.length:Int) == 29) = true then
  (bnd 11 s.length).bind fun yk3=>
   (bnd 8 yk3).bind fun yk5=>
    (m43 ([74,97,110,70,101,98,77,97,114,65,112,114,77,97,121,74,117,110,74,117,108,65,117,103,83,101,112,79,99,116,78,111,118,68,101,99]:Bs) ((s.take yk3).drop yk5)).bind fun yr7=>
     (bnd 16 s.length).bind fun yk9=>
      (bnd 12 yk9).bind fun yk11=>
       (m44 ((s.take yk9).drop yk11)).bind fun yr13=>
        (bnd 7 s.length).bind fun yk15=>
         (bnd 5 yk15).bind fun yk17=>
          (m44 ((s.take yk15).drop yk17)).bind fun yr19=>
           if (decide (yr7 < 0)) = true then
            j28_17 s yr7 yr13 yr19 true
           else
            if ((yr7.tmod 3) == 0) = true then
             if (decide (yr13 < 1970)) = true then
              j28_17 s yr7 yr13 yr19 true
             else
              if (decide (yr19 < 1)) = true then
               j28_17 s yr7 yr13 yr19 true
              else
               (m45 yr13 (w64 (yr7.tdiv 3))).bind fun yr53=>
                j28_17 s yr7 yr13 yr19 (decide (yr53 < yr19))
            else
             j28_17 s yr7 yr13 yr19 true
 else
  some ((0:Int),(5:Int))
theorem f28_t (s:Bs):
  callW (E0 mm) 28 [.c (.d (.sc (.string (S s))))] [] = (m28 s).map e28:=by
 rw [callW_run (body:=c28_0) (res:=[.tmp 2,.tmp 3]) Tryz.func28 rfl rfl (by kernel_rfl)]
 simp -implicitDefEqProofs only [m28,slots1,c28_0_e,c28_1_r,(show opsOf c28_1 = _ :: _ from rfl),c28_2_e,c28_3_e,c28_4_r,(show opsOf c28_4 = _ :: _ from rfl),Tryz.underlying9,(show c28_5 = Code.cond _ c28_6 c28_9 from rfl),setA,setB,za,zb,zc,zd,ze,zf,zg,zh,zi,zj,zk,zl,zm,zn,zo,zp,reduceCtorEq,zE,↓reduceIte]
 refine brB (fun yc1=>?_) (fun yc1=>?_)
 ·simp -implicitDefEqProofs only [c28_9_e,c28_10_e,c28_11_r,(show opsOf c28_11 = _ :: _ from rfl),Tryz.underlying9,yc1,setA,setB,za,zb,zc,zd,ze,zf,zg,zh,zi,zj,zk,zl,zm,zn,zo,zp,reduceCtorEq,zE,↓reduceIte]
  refine brM (fun yc2=>?_) (fun yk3 yc2=>?_)
  ·rw [yc2]; rfl
  ·simp -implicitDefEqProofs only [yc1,yc2,setA,setB,za,zb,zc,zd,ze,zf,zg,zh,zi,zj,zk,zl,zm,zn,zo,zp,reduceCtorEq,zE,↓reduceIte]
   refine brM (fun yc4=>?_) (fun yk5 yc4=>?_)
   ·rw [yc4]; rfl
   ·simp -implicitDefEqProofs only [ent43,prm43,(show callW (E0 mm) 43 [.c (.d (.sc (.string (S ([74,97,110,70,101,98,77,97,114,65,112,114,77,97,121,74,117,110,74,117,108,65,117,103,83,101,112,79,99,116,78,111,118,68,101,99]:Bs))))),.c (.d (.sc (.string (S ((s.take yk3).drop yk5)))))] [] = _ from f43_t ([74,97,110,70,101,98,77,97,114,65,112,114,77,97,121,74,117,110,74,117,108,65,117,103,83,101,112,79,99,116,78,111,118,68,101,99]:Bs) ((s.take yk3).drop yk5)),yc1,yc2,yc4,setA,setB,za,zb,zc,zd,ze,zf,zg,zh,zi,zj,zk,zl,zm,zn,zo,zp,reduceCtorEq,zE,↓reduceIte]
    refine brM (fun yc6=>?_) (fun yr7 yc6=>?_)
    ·rw [yc6]; rfl
    ·simp -implicitDefEqProofs only [e43,c28_12_e,c28_13_r,(show opsOf c28_13 = _ :: _ from rfl),Tryz.underlying9,yc1,yc2,yc4,yc6,setA,setB,za,zb,zc,zd,ze,zf,zg,zh,zi,zj,zk,zl,zm,zn,zo,zp,reduceCtorEq,zE,↓reduceIte]
     refine brM (fun yc8=>?_) (fun yk9 yc8=>?_)
     ·rw [yc8]; rfl
     ·simp -implicitDefEqProofs only [yc1,yc2,yc4,yc6,yc8,setA,setB,za,zb,zc,zd,ze,zf,zg,zh,zi,zj,zk,zl,zm,zn,zo,zp,reduceCtorEq,zE,↓reduceIte]
      refine brM (fun yc10=>?_) (fun yk11 yc10=>?_)
      ·rw [yc10]; rfl
      ·simp -implicitDefEqProofs only [ent44,prm44,f44_t,yc1,yc2,yc4,yc6,yc8,yc10,setA,setB,za,zb,zc,zd,ze,zf,zg,zh,zi,zj,zk,zl,zm,zn,zo,zp,reduceCtorEq,zE,↓reduceIte]
       refine brM (fun yc12=>?_) (fun yr13 yc12=>?_)
       ·rw [yc12]; rfl
       ·simp -implicitDefEqProofs only [e44,Tryz.underlying9,yc1,yc2,yc4,yc6,yc8,yc10,yc12,setA,setB,za,zb,zc,zd,ze,zf,zg,zh,zi,zj,zk,zl,zm,zn,zo,zp,reduceCtorEq,zE,↓reduceIte]
        refine brM (fun yc14=>?_) (fun yk15 yc14=>?_)
        ·rw [yc14]; rfl
        ·simp -implicitDefEqProofs only [yc1,yc2,yc4,yc6,yc8,yc10,yc12,yc14,setA,setB,za,zb,zc,zd,ze,zf,zg,zh,zi,zj,zk,zl,zm,zn,zo,zp,reduceCtorEq,zE,↓reduceIte]
         refine brM (fun yc16=>?_) (fun yk17 yc16=>?_)
         ·rw [yc16]; rfl
         ·simp -implicitDefEqProofs only [ent44,prm44,f44_t,yc1,yc2,yc4,yc6,yc8,yc10,yc12,yc14,yc16,setA,setB,za,zb,zc,zd,ze,zf,zg,zh,zi,zj,zk,zl,zm,zn,zo,zp,reduceCtorEq,zE,↓reduceIte]
          refine brM (fun yc18=>?_) (fun yr19 yc18=>?_)
          ·rw [yc18]; rfl
          ·simp -implicitDefEqProofs only [e44,c28_14_e,c28_15_e,c28_16_r,(show opsOf c28_16 = _ :: _ from rfl),yc1,yc2,yc4,yc6,yc8,yc10,yc12,yc14,yc16,yc18,setA,setB,za,zb,zc,zd,ze,zf,zg,zh,zi,zj,zk,zl,zm,zn,zo,zp,reduceCtorEq,zE,↓reduceIte]
           refine brB (fun yc20=>?_) (fun yc20=>?_)
           ·simp -implicitDefEqProofs only [yc1,yc2,yc4,yc6,yc8,yc10,yc12,yc14,yc16,yc18,yc20,setA,setB,za,zb,zc,zd,ze,zf,zg,zh,zi,zj,zk,zl,zm,zn,zo,zp,reduceCtorEq,zE,↓reduceIte]
            exact j28_17_t s yr7 yr13 yr19 true _ (by rfl) (by rfl) (by rfl) (by rfl) (by rfl)
           ·simp -implicitDefEqProofs only [yc1,yc2,yc4,yc6,yc8,yc10,yc12,yc14,yc16,yc18,yc20,setA,setB,za,zb,zc,zd,ze,zf,zg,zh,zi,zj,zk,zl,zm,zn,zo,zp,reduceCtorEq,zE,↓reduceIte]
            refine brB (fun yc49=>?_) (fun yc49=>?_)
            ·simp -implicitDefEqProofs only [yc1,yc2,yc4,yc6,yc8,yc10,yc12,yc14,yc16,yc18,yc20,yc49,setA,setB,za,zb,zc,zd,ze,zf,zg,zh,zi,zj,zk,zl,zm,zn,zo,zp,reduceCtorEq,zE,↓reduceIte]
             refine brB (fun yc50=>?_) (fun yc50=>?_)
             ·simp -implicitDefEqProofs only [yc1,yc2,yc4,yc6,yc8,yc10,yc12,yc14,yc16,yc18,yc20,yc49,yc50,setA,setB,za,zb,zc,zd,ze,zf,zg,zh,zi,zj,zk,zl,zm,zn,zo,zp,reduceCtorEq,zE,↓reduceIte]
              exact j28_17_t s yr7 yr13 yr19 true _ (by rfl) (by rfl) (by rfl) (by rfl) (by rfl)
             ·simp -implicitDefEqProofs only [yc1,yc2,yc4,yc6,yc8,yc10,yc12,yc14,yc16,yc18,yc20,yc49,yc50,setA,setB,za,zb,zc,zd,ze,zf,zg,zh,zi,zj,zk,zl,zm,zn,zo,zp,reduceCtorEq,zE,↓reduceIte]
              refine brB (fun yc51=>?_) (fun yc51=>?_)
              ·simp -implicitDefEqProofs only [yc1,yc2,yc4,yc6,yc8,yc10,yc12,yc14,yc16,yc18,yc20,yc49,yc50,yc51,setA,setB,za,zb,zc,zd,ze,zf,zg,zh,zi,zj,zk,zl,zm,zn,zo,zp,reduceCtorEq,zE,↓reduceIte]
               exact j28_17_t s yr7 yr13 yr19 true _ (by rfl) (by rfl) (by rfl) (by rfl) (by rfl)
              ·simp -implicitDefEqProofs only [ent45,prm45,f45_t,yc1,yc2,yc4,yc6,yc8,yc10,yc12,yc14,yc16,yc18,yc20,yc49,yc50,yc51,setA,setB,za,zb,zc,zd,ze,zf,zg,zh,zi,zj,zk,zl,zm,zn,zo,zp,reduceCtorEq,zE,↓reduceIte]
               refine brM (fun yc52=>?_) (fun yr53 yc52=>?_)
               ·rw [yc52]; rfl
               ·simp -implicitDefEqProofs only [e45,yc1,yc2,yc4,yc6,yc8,yc10,yc12,yc14,yc16,yc18,yc20,yc49,yc50,yc51,yc52,setA,setB,za,zb,zc,zd,ze,zf,zg,zh,zi,zj,zk,zl,zm,zn,zo,zp,reduceCtorEq,zE,↓reduceIte]
                exact j28_17_t s yr7 yr13 yr19 (decide (yr53 < yr19)) _ (by rfl) (by rfl) (by rfl) (by rfl) (by rfl)
            ·simp -implicitDefEqProofs only [yc1,yc2,yc4,yc6,yc8,yc10,yc12,yc14,yc16,yc18,yc20,yc49,setA,setB,za,zb,zc,zd,ze,zf,zg,zh,zi,zj,zk,zl,zm,zn,zo,zp,reduceCtorEq,zE,↓reduceIte]
             exact j28_17_t s yr7 yr13 yr19 true _ (by rfl) (by rfl) (by rfl) (by rfl) (by rfl)
 ·simp -implicitDefEqProofs only [c28_6_e,c28_7_r,(show opsOf c28_7 = _ :: _ from rfl),c28_8_e,yc1,setA,setB,za,zb,zc,zd,ze,zf,zg,zh,zi,zj,zk,zl,zm,zn,zo,zp,reduceCtorEq,zE,↓reduceIte]
  all_goals rfl
noncomputable def c13_0:Code:=bodyOf Tryz.f13
def c13_1:=cA c13_0
def c13_2:=cB c13_0
def c13_3:=cA c13_2
def c13_4:=cB c13_2
def c13_5:=cA c13_4
def c13_6:=cA c13_5
def c13_7:=cB c13_5
def c13_8:=cA c13_7
def c13_9:=cA c13_8
def c13_10:=cB c13_8
def c13_11:=cB c13_7
def c13_12:=cB c13_4
def c13_13:=cA c13_12
def c13_14:=cB c13_12
def c13_15:=cA c13_14
def c13_16:=cB c13_14
theorem c13_0_e:c13_0 = .seq c13_1 c13_2:=rfl
theorem c13_1_r:RG (E0 mm) 13 c13_1:=rgN rfl
theorem c13_2_e:c13_2 = .seq c13_3 c13_4:=rfl
theorem c13_3_r:RG (E0 mm) 13 c13_3:=rgN rfl
theorem c13_4_e:c13_4 = .seq c13_5 c13_12:=rfl
theorem c13_5_e:c13_5 = .seq c13_6 c13_7:=rfl
theorem c13_6_r:RG (E0 mm) 13 c13_6:=rgN rfl
theorem c13_8_e:c13_8 = .seq c13_9 c13_10:=rfl
theorem c13_9_r:RG (E0 mm) 13 c13_9:=rgN rfl
theorem c13_10_e:c13_10 = .ret:=rfl
theorem c13_11_e:c13_11 = .skip:=rfl
theorem c13_12_e:c13_12 = .seq c13_13 c13_14:=rfl
theorem c13_13_r:RG (E0 mm) 13 c13_13:=rgN rfl
theorem c13_14_e:c13_14 = .seq c13_15 c13_16:=rfl
theorem c13_15_r:RG (E0 mm) 13 c13_15:=rgN rfl
theorem c13_16_e:c13_16 = .ret:=rfl
abbrev R13:=(Int×Bool)
def e13:R13→AV×Heap:=fun x=>(.tup [.c (.d (.sc (.int .u64 x.1))),.c (.d (.sc (.bool x.2)))],[])
def m13 (r0_0:Int) (r0_1:Bs) (r0_2:Int) (r0_3:Bool) (r0_4:List (Bs×Bs)) (r0_5:Bool) (r0_6:List UInt8) (name:Bs):Option R13:=
 (m27 r0_0 r0_1 r0_2 r0_3 r0_4 r0_5 r0_6 name).bind fun yr2=>
  if yr2.2 = true then
   (m28 yr2.1).bind fun yr5=>
    some (yr5.1,(yr5.2 == 0))
  else
   some ((0:Int),false)
theorem f13_t (r0_0:Int) (r0_1:Bs) (r0_2:Int) (r0_3:Bool) (r0_4:List (Bs×Bs)) (r0_5:Bool) (r0_6:List UInt8) (name:Bs):
  callW (E0 mm) 13 [.agg [.d (.sc (.int .i64 r0_0)),.d (.sc (.string (S r0_1))),.d (.sc (.int .i64 r0_2)),.d (.lst r0_3 (enL enSS r0_4)),.d (.lst r0_5 (enL enB r0_6))],.c (.d (.sc (.string (S name))))] [] = (m13 r0_0 r0_1 r0_2 r0_3 r0_4 r0_5 r0_6 name).map e13:=by
 rw [callW_run (body:=c13_0) (res:=[.tmp 4,.tmp 5]) Tryz.func13 rfl rfl (by kernel_rfl)]
 simp -implicitDefEqProofs only [m13,slots2,c13_0_e,c13_1_r,(show opsOf c13_1 = _ :: _ from rfl),c13_2_e,c13_3_r,(show opsOf c13_3 = _ :: _ from rfl),sz26,ag26,ent27,prm27,f27_t,setA,setB,za,zb,zc,zd,ze,zf,zg,zh,zi,zj,zk,zl,zm,zn,zo,zp,reduceCtorEq,zE,↓reduceIte]
 refine brM (fun yc1=>?_) (fun yr2 yc1=>?_)
 ·rw [yc1]; rfl
 ·simp -implicitDefEqProofs only [e27,c13_4_e,c13_5_e,c13_6_r,(show opsOf c13_6 = _ :: _ from rfl),(show c13_7 = Code.cond _ c13_8 c13_11 from rfl),yc1,setA,setB,za,zb,zc,zd,ze,zf,zg,zh,zi,zj,zk,zl,zm,zn,zo,zp,reduceCtorEq,zE,↓reduceIte]
  refine brB (fun yc3=>?_) (fun yc3=>?_)
  ·simp -implicitDefEqProofs only [c13_11_e,c13_12_e,c13_13_r,(show opsOf c13_13 = _ :: _ from rfl),ent28,prm28,f28_t,yc1,yc3,setA,setB,za,zb,zc,zd,ze,zf,zg,zh,zi,zj,zk,zl,zm,zn,zo,zp,reduceCtorEq,zE,↓reduceIte]
   refine brM (fun yc4=>?_) (fun yr5 yc4=>?_)
   ·rw [yc4]; rfl
   ·simp -implicitDefEqProofs only [e28,c13_14_e,c13_15_r,(show opsOf c13_15 = _ :: _ from rfl),c13_16_e,yc1,yc3,yc4,setA,setB,za,zb,zc,zd,ze,zf,zg,zh,zi,zj,zk,zl,zm,zn,zo,zp,reduceCtorEq,zE,↓reduceIte]
    all_goals rfl
  ·simp -implicitDefEqProofs only [c13_8_e,c13_9_r,(show opsOf c13_9 = _ :: _ from rfl),c13_10_e,yc1,yc3,setA,setB,za,zb,zc,zd,ze,zf,zg,zh,zi,zj,zk,zl,zm,zn,zo,zp,reduceCtorEq,zE,↓reduceIte]
   all_goals rfl
noncomputable def c4_0:Code:=bodyOf Tryz.f4
def c4_1:=cA c4_0
def c4_2:=cB c4_0
def c4_3:=cA c4_2
def c4_4:=cB c4_2
theorem c4_0_e:c4_0 = .seq c4_1 c4_2:=rfl
theorem c4_1_r:RG (E0 mm) 4 c4_1:=rgN rfl
theorem c4_2_e:c4_2 = .seq c4_3 c4_4:=rfl
theorem c4_3_r:RG (E0 mm) 4 c4_3:=rgN rfl
theorem c4_4_e:c4_4 = .ret:=rfl
abbrev R4:=(Int×Bool)
def e4:R4→AV×Heap:=fun x=>(.tup [.c (.d (.sc (.int .u64 x.1))),.c (.d (.sc (.bool x.2)))],[])
def m4 (r0_0:Int) (r0_1:Bs) (r0_2:Int) (r0_3:Bool) (r0_4:List (Bs×Bs)) (r0_5:Bool) (r0_6:List UInt8):Option R4:=
 (m13 r0_0 r0_1 r0_2 r0_3 r0_4 r0_5 r0_6 ([100,97,116,101]:Bs)).bind fun yr2=>
  some (yr2.1,yr2.2)
theorem f4_t (r0_0:Int) (r0_1:Bs) (r0_2:Int) (r0_3:Bool) (r0_4:List (Bs×Bs)) (r0_5:Bool) (r0_6:List UInt8):
  callW (E0 mm) 4 [.agg [.d (.sc (.int .i64 r0_0)),.d (.sc (.string (S r0_1))),.d (.sc (.int .i64 r0_2)),.d (.lst r0_3 (enL enSS r0_4)),.d (.lst r0_5 (enL enB r0_6))]] [] = (m4 r0_0 r0_1 r0_2 r0_3 r0_4 r0_5 r0_6).map e4:=by
 rw [callW_run (body:=c4_0) (res:=[.tmp 2,.tmp 3]) Tryz.func4 rfl rfl (by kernel_rfl)]
 simp -implicitDefEqProofs only [m4,slots1,c4_0_e,c4_1_r,(show opsOf c4_1 = _ :: _ from rfl),c4_2_e,c4_3_r,(show opsOf c4_3 = _ :: _ from rfl),sz26,ag26,ent13,prm13,(show callW (E0 mm) 13 [.agg [.d (.sc (.int .i64 r0_0)),.d (.sc (.string (S r0_1))),.d (.sc (.int .i64 r0_2)),.d (.lst r0_3 (enL enSS r0_4)),.d (.lst r0_5 (enL enB r0_6))],.c (.d (.sc (.string (S ([100,97,116,101]:Bs)))))] [] = _ from f13_t r0_0 r0_1 r0_2 r0_3 r0_4 r0_5 r0_6 ([100,97,116,101]:Bs)),setA,setB,za,zb,zc,zd,ze,zf,zg,zh,zi,zj,zk,zl,zm,zn,zo,zp,reduceCtorEq,zE,↓reduceIte]
 refine brM (fun yc1=>?_) (fun yr2 yc1=>?_)
 ·rw [yc1]; rfl
 ·simp -implicitDefEqProofs only [e13,c4_4_e,yc1,setA,setB,za,zb,zc,zd,ze,zf,zg,zh,zi,zj,zk,zl,zm,zn,zo,zp,reduceCtorEq,zE,↓reduceIte]
  all_goals rfl
noncomputable def c61_0:Code:=bodyOf Tryz.f61
def c61_1:=cA c61_0
def c61_2:=cB c61_0
def c61_3:=cA c61_2
def c61_4:=cB c61_2
def c61_5:=cA c61_4
def c61_6:=cA c61_5
def c61_7:=cB c61_5
def c61_8:=cA c61_7
def c61_9:=cA c61_8
def c61_10:=cA c61_9
def c61_11:=cA c61_10
def c61_12:=cB c61_10
def c61_13:=cA c61_12
def c61_14:=cB c61_12
def c61_15:=cB c61_9
def c61_16:=cA c61_15
def c61_17:=cA c61_16
def c61_18:=cA c61_17
def c61_19:=cB c61_17
def c61_20:=cA c61_19
def c61_21:=cB c61_19
def c61_22:=cB c61_15
def c61_23:=cB c61_4
def c61_24:=cA c61_23
def c61_25:=cB c61_23
theorem c61_0_e:c61_0 = .seq c61_1 c61_2:=rfl
theorem c61_1_r:RG (E0 mm) 61 c61_1:=rgN rfl
theorem c61_2_e:c61_2 = .seq c61_3 c61_4:=rfl
theorem c61_3_r:RG (E0 mm) 61 c61_3:=rgN rfl
theorem c61_4_e:c61_4 = .seq c61_5 c61_23:=rfl
theorem c61_5_e:c61_5 = .seq c61_6 c61_7:=rfl
theorem c61_6_r:RG (E0 mm) 61 c61_6:=rgN rfl
theorem c61_7_e:c61_7 = .block 0 c61_8:=rfl
theorem c61_8_l (m:Nat) (st:St):den (E0 mm) 61 m (callW (E0 mm)) itW c61_8 none st = loopD itW (loopF (E0 mm) 61 m (callW (E0 mm)) itW c61_9 [(0,.keep),(3,.own),(4,.keep)]) (canon m [(0,.keep),(3,.own),(4,.keep)] st):=rfl
theorem c61_9_e:c61_9 = .seq c61_10 c61_15:=rfl
theorem c61_10_e:c61_10 = .seq c61_11 c61_12:=rfl
theorem c61_11_r:RG (E0 mm) 61 c61_11:=rgN rfl
theorem c61_13_e:c61_13 = .skip:=rfl
theorem c61_14_e:c61_14 = .exit 0:=rfl
theorem c61_15_e:c61_15 = .seq c61_16 c61_22:=rfl
theorem c61_16_e:c61_16 = .block 1 c61_17:=rfl
theorem c61_17_e:c61_17 = .seq c61_18 c61_19:=rfl
theorem c61_18_r:RG (E0 mm) 61 c61_18:=rgN rfl
theorem c61_20_r:RG (E0 mm) 61 c61_20:=rgN rfl
theorem c61_21_r:RG (E0 mm) 61 c61_21:=rgN rfl
theorem c61_22_r:RG (E0 mm) 61 c61_22:=rgN rfl
theorem c61_23_e:c61_23 = .seq c61_24 c61_25:=rfl
theorem c61_24_r:RG (E0 mm) 61 c61_24:=rgN rfl
theorem c61_25_e:c61_25 = .ret:=rfl
abbrev R61:=(Bs)
def e61:R61→AV×Heap:=fun x=>(.v (.c (.d (.sc (.string (S x))))),[])
def K61_8:Option (Ex×St)→Option (AV×Heap):=fun r=>bodyD (E0 mm) [.tmp 2] 0 false (seqD (E0 mm) 61 0 (callW (E0 mm)) itW c61_23 (blockD 0 (r)))
def en61_8:(Bs×Bool×List UInt8×Int)→X:=fun x=>(none,[.v (.c (.d (.sc (.string (S x.1))))),.v (.c (.own x.2.1 (enL enB x.2.2.1) 0)),.v (.c (.d (.sc (.int .i64 x.2.2.2))))],[.row x.2.2.1.length (rz x.2.1 1)])
def j61_22 (s0:Bs) (b3_0:Bool) (b3_1:List UInt8) (i4:Int):Option ((Bs×Bool×List UInt8×Int) ⊕ R61):=
 some (.inl (s0,b3_0,b3_1,(w64 (i4 + 1))))
theorem j61_22_t (s0:Bs) (b3_0:Bool) (b3_1:List UInt8) (i4:Int)  (sl:Nat→AV) (zq0:sl 0 = .v (.c (.d (.sc (.string (S s0)))))) (zq3:sl 3 = .v (.c (.own b3_0 (enL enB b3_1) 0))) (zq4:sl 4 = .v (.c (.d (.sc (.int .i64 i4))))):
  stepE (K61_8 (mm:=mm)) (loopK 0 [(0,.keep),(3,.own),(4,.keep)] (den (E0 mm) 61 0 (callW (E0 mm)) itW c61_22 none ⟨sl,[.row b3_1.length (rz b3_0 1)]⟩)) = (j61_22 s0 b3_0 b3_1 i4).map (sm en61_8 e61):=by
 simp -implicitDefEqProofs only [j61_22,c61_22_r,(show opsOf c61_22 = _ :: _ from rfl),zq0,zq3,zq4,setA,setB,za,zb,zc,zd,ze,zf,zg,zh,zi,zj,zk,zl,zm,zn,zo,zp,reduceCtorEq,zE,↓reduceIte]
 all_goals rfl
def j61_19 (s0:Bs) (b3_0:Bool) (b3_1:List UInt8) (i4:Int) (t20:Bool):Option ((Bs×Bool×List UInt8×Int) ⊕ R61):=
 if t20 = true then
  if 0≤i4∧i4 < (s0.length:Int) then
   if (b3_1.length + 1) * 1≤140737488355328 then
    j61_22 s0 false (b3_1 ++ ([((s0.getD i4.toNat 0) + (32:UInt8))]:List UInt8)) i4
   else none
  else none
 else
  if 0≤i4∧i4 < (s0.length:Int) then
   if (b3_1.length + 1) * 1≤140737488355328 then
    j61_22 s0 false (b3_1 ++ ([(s0.getD i4.toNat 0)]:List UInt8)) i4
   else none
  else none
theorem j61_19_t (s0:Bs) (b3_0:Bool) (b3_1:List UInt8) (i4:Int) (t20:Bool)  (sl:Nat→AV) (zq0:sl 0 = .v (.c (.d (.sc (.string (S s0)))))) (zq3:sl 3 = .v (.c (.own b3_0 (enL enB b3_1) 0))) (zq4:sl 4 = .v (.c (.d (.sc (.int .i64 i4))))) (zq20:sl 20 = .v (.c (.d (.sc (.bool t20))))):
  stepE (K61_8 (mm:=mm)) (loopK 0 [(0,.keep),(3,.own),(4,.keep)] (seqD (E0 mm) 61 0 (callW (E0 mm)) itW c61_22 (blockD 1 (den (E0 mm) 61 0 (callW (E0 mm)) itW c61_19 none ⟨sl,[.row b3_1.length (rz b3_0 1)]⟩)))) = (j61_19 s0 b3_0 b3_1 i4 t20).map (sm en61_8 e61):=by
 simp -implicitDefEqProofs only [j61_19,(show c61_19 = Code.cond _ c61_20 c61_21 from rfl),zq0,zq3,zq4,zq20,setA,setB,za,zb,zc,zd,ze,zf,zg,zh,zi,zj,zk,zl,zm,zn,zo,zp,reduceCtorEq,zE,↓reduceIte]
 refine brB (fun yc4=>?_) (fun yc4=>?_)
 ·simp -implicitDefEqProofs only [c61_20_r,(show opsOf c61_20 = _ :: _ from rfl),Tryz.underlying9,zq0,zq3,zq4,zq20,yc4,setA,setB,za,zb,zc,zd,ze,zf,zg,zh,zi,zj,zk,zl,zm,zn,zo,zp,reduceCtorEq,zE,↓reduceIte]
  refine brP (fun yc5=>?_) (fun yc5=>?_)
  ·simp -implicitDefEqProofs only [Tryz.underlying24,sz5,zc5,hd13,nv14,rw15,ns16,ap24,zq0,zq3,zq4,zq20,yc4,yc5,setA,setB,za,zb,zc,zd,ze,zf,zg,zh,zi,zj,zk,zl,zm,zn,zo,zp,reduceCtorEq,zE,↓reduceIte]
   refine brP (fun yc6=>?_) (fun yc6=>?_)
   ·simp -implicitDefEqProofs only [zq0,zq3,zq4,zq20,yc4,yc5,yc6,setA,setB,za,zb,zc,zd,ze,zf,zg,zh,zi,zj,zk,zl,zm,zn,zo,zp,reduceCtorEq,zE,↓reduceIte]
    exact j61_22_t s0 false (b3_1 ++ ([((s0.getD i4.toNat 0) + (32:UInt8))]:List UInt8)) i4 _ (by exact zq0) (by rfl) (by exact zq4)
   ·rw [if_neg yc6]; rfl
  ·rw [if_neg yc5]; rfl
 ·simp -implicitDefEqProofs only [c61_21_r,(show opsOf c61_21 = _ :: _ from rfl),Tryz.underlying9,zq0,zq3,zq4,zq20,yc4,setA,setB,za,zb,zc,zd,ze,zf,zg,zh,zi,zj,zk,zl,zm,zn,zo,zp,reduceCtorEq,zE,↓reduceIte]
  refine brP (fun yc7=>?_) (fun yc7=>?_)
  ·simp -implicitDefEqProofs only [Tryz.underlying24,sz5,zc5,hd18,nv19,rw20,ns16,ap24,zq0,zq3,zq4,zq20,yc4,yc7,setA,setB,za,zb,zc,zd,ze,zf,zg,zh,zi,zj,zk,zl,zm,zn,zo,zp,reduceCtorEq,zE,↓reduceIte]
   refine brP (fun yc8=>?_) (fun yc8=>?_)
   ·simp -implicitDefEqProofs only [zq0,zq3,zq4,zq20,yc4,yc7,yc8,setA,setB,za,zb,zc,zd,ze,zf,zg,zh,zi,zj,zk,zl,zm,zn,zo,zp,reduceCtorEq,zE,↓reduceIte]
    exact j61_22_t s0 false (b3_1 ++ ([(s0.getD i4.toNat 0)]:List UInt8)) i4 _ (by exact zq0) (by rfl) (by exact zq4)
   ·rw [if_neg yc8]; rfl
  ·rw [if_neg yc7]; rfl
def j61_23 (b3_0:Bool) (b3_1:List UInt8):Option R61:=
 some b3_1
theorem j61_23_t (b3_0:Bool) (b3_1:List UInt8)  (sl:Nat→AV) (zq3:sl 3 = .v (.c (.own b3_0 (enL enB b3_1) 0))):
  bodyD (E0 mm) [.tmp 2] 0 false (den (E0 mm) 61 0 (callW (E0 mm)) itW c61_23 none ⟨sl,[.row b3_1.length (rz b3_0 1)]⟩) = (j61_23 b3_0 b3_1).map e61:=by
 simp -implicitDefEqProofs only [j61_23,c61_23_e,c61_24_r,(show opsOf c61_24 = _ :: _ from rfl),Tryz.underlying24,Tryz.underlying9,Tryz.underlying5,c61_25_e,zq3,setA,setB,za,zb,zc,zd,ze,zf,zg,zh,zi,zj,zk,zl,zm,zn,zo,zp,reduceCtorEq,zE,↓reduceIte]
 all_goals rfl
def s61_8 (s0:Bs) (b3_0:Bool) (b3_1:List UInt8) (i4:Int):Option ((Bs×Bool×List UInt8×Int) ⊕ R61):=
 if (decide (i4 < (s0.length:Int))) = true then
  if 0≤i4∧i4 < (s0.length:Int) then
   if (decide ((65:UInt8)≤(s0.getD i4.toNat 0))) = true then
    j61_19 s0 b3_0 b3_1 i4 (decide ((s0.getD i4.toNat 0)≤(90:UInt8)))
   else
    j61_19 s0 b3_0 b3_1 i4 false
  else none
 else
  (j61_23 b3_0 b3_1).map .inr
theorem s61_8_t (s0:Bs) (b3_0:Bool) (b3_1:List UInt8) (i4:Int):
  stepE (K61_8 (mm:=mm)) (loopF (E0 mm) 61 0 (callW (E0 mm)) itW c61_9 [(0,.keep),(3,.own),(4,.keep)] (none,[.v (.c (.d (.sc (.string (S s0))))),.v (.c (.own b3_0 (enL enB b3_1) 0)),.v (.c (.d (.sc (.int .i64 i4))))],[.row b3_1.length (rz b3_0 1)])) = (s61_8 s0 b3_0 b3_1 i4).map (sm en61_8 e61):=by
 simp -implicitDefEqProofs only [s61_8,loopF_eq,c61_9_e,c61_10_e,c61_11_r,(show opsOf c61_11 = _ :: _ from rfl),Tryz.underlying9,(show c61_12 = Code.cond _ c61_13 c61_14 from rfl),setA,setB,za,zb,zc,zd,ze,zf,zg,zh,zi,zj,zk,zl,zm,zn,zo,zp,reduceCtorEq,zE,↓reduceIte]
 refine brB (fun yc1=>?_) (fun yc1=>?_)
 ·simp -implicitDefEqProofs only [c61_13_e,c61_15_e,c61_16_e,c61_17_e,c61_18_r,(show opsOf c61_18 = _ :: _ from rfl),Tryz.underlying9,yc1,setA,setB,za,zb,zc,zd,ze,zf,zg,zh,zi,zj,zk,zl,zm,zn,zo,zp,reduceCtorEq,zE,↓reduceIte]
  refine brP (fun yc2=>?_) (fun yc2=>?_)
  ·simp -implicitDefEqProofs only [yc1,yc2,setA,setB,za,zb,zc,zd,ze,zf,zg,zh,zi,zj,zk,zl,zm,zn,zo,zp,reduceCtorEq,zE,↓reduceIte]
   refine brB (fun yc3=>?_) (fun yc3=>?_)
   ·simp -implicitDefEqProofs only [Tryz.underlying9,yc1,yc2,yc3,setA,setB,za,zb,zc,zd,ze,zf,zg,zh,zi,zj,zk,zl,zm,zn,zo,zp,reduceCtorEq,zE,↓reduceIte]
    exact j61_19_t s0 b3_0 b3_1 i4 (decide ((s0.getD i4.toNat 0)≤(90:UInt8))) _ (by rfl) (by rfl) (by rfl) (by rfl)
   ·simp -implicitDefEqProofs only [yc1,yc2,yc3,setA,setB,za,zb,zc,zd,ze,zf,zg,zh,zi,zj,zk,zl,zm,zn,zo,zp,reduceCtorEq,zE,↓reduceIte]
    exact j61_19_t s0 b3_0 b3_1 i4 false _ (by rfl) (by rfl) (by rfl) (by rfl)
  ·rw [if_neg yc2]; rfl
 ·simp -implicitDefEqProofs only [c61_14_e,K61_8,yc1,setA,setB,za,zb,zc,zd,ze,zf,zg,zh,zi,zj,zk,zl,zm,zn,zo,zp,reduceCtorEq,zE,↓reduceIte]
  exact mi (j61_23_t b3_0 b3_1 _ (by rfl))
def l61_8 (s0:Bs) (b3_0:Bool) (b3_1:List UInt8) (i4:Int):Option R61:=iter (fun x:(Bs×Bool×List UInt8×Int)=>s61_8 x.1 x.2.1 x.2.2.1 x.2.2.2) (s0,b3_0,b3_1,i4)
theorem l61_8_t (s0:Bs) (b3_0:Bool) (b3_1:List UInt8) (i4:Int):bodyD (E0 mm) [.tmp 2] 0 false (seqD (E0 mm) 61 0 (callW (E0 mm)) itW c61_23 (blockD 0 (itW (loopF (E0 mm) 61 0 (callW (E0 mm)) itW c61_9 [(0,.keep),(3,.own),(4,.keep)]) (none,[.v (.c (.d (.sc (.string (S s0))))),.v (.c (.own b3_0 (enL enB b3_1) 0)),.v (.c (.d (.sc (.int .i64 i4))))],[.row b3_1.length (rz b3_0 1)])))) = (l61_8 s0 b3_0 b3_1 i4).map e61:=
 it_sim (K:=(K61_8 (mm:=mm))) rfl (enc:=en61_8) (fun x=>s61_8_t x.1 x.2.1 x.2.2.1 x.2.2.2) (s0,b3_0,b3_1,i4)
def m61 (s:Bs):Option R61:=
 l61_8 s true ([]:List UInt8) (0:Int)
theorem f61_t (s:Bs):
  callW (E0 mm) 61 [.c (.d (.sc (.string (S s))))] [] = (m61 s).map e61:=by
 rw [callW_run (body:=c61_0) (res:=[.tmp 2]) Tryz.func61 rfl rfl (by kernel_rfl)]
 simp -implicitDefEqProofs only [m61,slots1,c61_0_e,c61_1_r,(show opsOf c61_1 = _ :: _ from rfl),c61_2_e,c61_3_r,(show opsOf c61_3 = _ :: _ from rfl),c61_4_e,c61_5_e,c61_6_r,(show opsOf c61_6 = _ :: _ from rfl),c61_7_e,c61_8_l,setA,setB,za,zb,zc,zd,ze,zf,zg,zh,zi,zj,zk,zl,zm,zn,zo,zp,reduceCtorEq,zE,↓reduceIte]
 exact l61_8_t s true ([]:List UInt8) (0:Int)
noncomputable def c40_0:Code:=bodyOf Tryz.f40
def c40_1:=cA c40_0
def c40_2:=cB c40_0
def c40_3:=cA c40_2
def c40_4:=cB c40_2
theorem c40_0_e:c40_0 = .seq c40_1 c40_2:=rfl
theorem c40_1_r:RG (E0 mm) 40 c40_1:=rgN rfl
theorem c40_2_e:c40_2 = .seq c40_3 c40_4:=rfl
theorem c40_3_r:RG (E0 mm) 40 c40_3:=rgN rfl
theorem c40_4_e:c40_4 = .ret:=rfl
abbrev R40:=(Bool)
def e40:R40→AV×Heap:=fun x=>(.v (.c (.d (.sc (.bool x)))),[])
def m40 (a b:Bs):Option R40:=
 (m61 a).bind fun yr2=>
  (m61 b).bind fun yr4=>
   some (yr2 == yr4)
theorem f40_t (a b:Bs):
  callW (E0 mm) 40 [.c (.d (.sc (.string (S a)))),.c (.d (.sc (.string (S b))))] [] = (m40 a b).map e40:=by
 rw [callW_run (body:=c40_0) (res:=[.tmp 4]) Tryz.func40 rfl rfl (by kernel_rfl)]
 simp -implicitDefEqProofs only [m40,slots2,c40_0_e,c40_1_r,(show opsOf c40_1 = _ :: _ from rfl),c40_2_e,c40_3_r,(show opsOf c40_3 = _ :: _ from rfl),ent61,prm61,f61_t,setA,setB,za,zb,zc,zd,ze,zf,zg,zh,zi,zj,zk,zl,zm,zn,zo,zp,reduceCtorEq,zE,↓reduceIte]
 refine brM (fun yc1=>?_) (fun yr2 yc1=>?_)
 ·rw [yc1]; rfl
 ·simp -implicitDefEqProofs only [e61,ent61,prm61,f61_t,yc1,setA,setB,za,zb,zc,zd,ze,zf,zg,zh,zi,zj,zk,zl,zm,zn,zo,zp,reduceCtorEq,zE,↓reduceIte]
  refine brM (fun yc3=>?_) (fun yr4 yc3=>?_)
  ·rw [yc3]; rfl
  ·simp -implicitDefEqProofs only [e61,c40_4_e,yc1,yc3,setA,setB,za,zb,zc,zd,ze,zf,zg,zh,zi,zj,zk,zl,zm,zn,zo,zp,reduceCtorEq,zE,↓reduceIte]
   all_goals rfl
noncomputable def c21_0:Code:=bodyOf Tryz.f21
def c21_1:=cA c21_0
def c21_2:=cB c21_0
def c21_3:=cA c21_2
def c21_4:=cB c21_2
def c21_5:=cA c21_4
def c21_6:=cA c21_5
def c21_7:=cB c21_5
def c21_8:=cA c21_7
def c21_9:=cA c21_8
def c21_10:=cA c21_9
def c21_11:=cA c21_10
def c21_12:=cB c21_10
def c21_13:=cA c21_12
def c21_14:=cB c21_12
def c21_15:=cB c21_9
def c21_16:=cA c21_15
def c21_17:=cA c21_16
def c21_18:=cA c21_17
def c21_19:=cB c21_17
def c21_20:=cA c21_19
def c21_21:=cB c21_19
def c21_22:=cB c21_15
def c21_23:=cB c21_4
def c21_24:=cA c21_23
def c21_25:=cB c21_23
theorem c21_0_e:c21_0 = .seq c21_1 c21_2:=rfl
theorem c21_1_r:RG (E0 mm) 21 c21_1:=rgN rfl
theorem c21_2_e:c21_2 = .seq c21_3 c21_4:=rfl
theorem c21_3_r:RG (E0 mm) 21 c21_3:=rgN rfl
theorem c21_4_e:c21_4 = .seq c21_5 c21_23:=rfl
theorem c21_5_e:c21_5 = .seq c21_6 c21_7:=rfl
theorem c21_6_r:RG (E0 mm) 21 c21_6:=rgN rfl
theorem c21_7_e:c21_7 = .block 0 c21_8:=rfl
theorem c21_8_l (m:Nat) (st:St):den (E0 mm) 21 m (callW (E0 mm)) itW c21_8 none st = loopD itW (loopF (E0 mm) 21 m (callW (E0 mm)) itW c21_9 [(1,.keep),(2,.keep),(5,.own),(6,.keep)]) (canon m [(1,.keep),(2,.keep),(5,.own),(6,.keep)] st):=rfl
theorem c21_9_e:c21_9 = .seq c21_10 c21_15:=rfl
theorem c21_10_e:c21_10 = .seq c21_11 c21_12:=rfl
theorem c21_11_r:RG (E0 mm) 21 c21_11:=rgN rfl
theorem c21_13_e:c21_13 = .skip:=rfl
theorem c21_14_e:c21_14 = .exit 0:=rfl
theorem c21_15_e:c21_15 = .seq c21_16 c21_22:=rfl
theorem c21_16_e:c21_16 = .block 1 c21_17:=rfl
theorem c21_17_e:c21_17 = .seq c21_18 c21_19:=rfl
theorem c21_18_r:RG (E0 mm) 21 c21_18:=rgN rfl
theorem c21_20_r:RG (E0 mm) 21 c21_20:=rgN rfl
theorem c21_21_e:c21_21 = .skip:=rfl
theorem c21_22_r:RG (E0 mm) 21 c21_22:=rgN rfl
theorem c21_23_e:c21_23 = .seq c21_24 c21_25:=rfl
theorem c21_24_r:RG (E0 mm) 21 c21_24:=rgN rfl
theorem c21_25_e:c21_25 = .ret:=rfl
abbrev R21:=(Bool×List Bs)
def e21:R21→AV×Heap:=fun x=>(.v (.c (.own x.1 (enL enS x.2) 0)),[.row x.2.length (rz x.1 1)])
def K21_8:Option (Ex×St)→Option (AV×Heap):=fun r=>bodyD (E0 mm) [.tmp 4] 0 false (seqD (E0 mm) 21 0 (callW (E0 mm)) itW c21_23 (blockD 0 (r)))
def en21_8:(Bs×Bool×List Bs×Int×Int×Bs×Int×Bool×List (Bs×Bs)×Bool×List UInt8)→X:=fun x=>(none,[.v (.c (.d (.sc (.string (S x.1))))),.v (.c (.ptr 0 0)),.v (.c (.own x.2.1 (enL enS x.2.2.1) 1)),.v (.c (.d (.sc (.int .i64 x.2.2.2.1))))],[.cells [.d (.sc (.int .i64 x.2.2.2.2.1)),.d (.sc (.string (S x.2.2.2.2.2.1))),.d (.sc (.int .i64 x.2.2.2.2.2.2.1)),.d (.lst x.2.2.2.2.2.2.2.1 (enL enSS x.2.2.2.2.2.2.2.2.1)),.d (.lst x.2.2.2.2.2.2.2.2.2.1 (enL enB x.2.2.2.2.2.2.2.2.2.2))],.row x.2.2.1.length (rz x.2.1 1)])
def j21_22 (name1:Bs) (out5_0:Bool) (out5_1:List Bs) (i6 h0_0:Int) (h0_1:Bs) (h0_2:Int) (h0_3_0:Bool) (h0_3_1:List (Bs×Bs)) (h0_4_0:Bool) (h0_4_1:List UInt8):Option ((Bs×Bool×List Bs×Int×Int×Bs×Int×Bool×List (Bs×Bs)×Bool×List UInt8) ⊕ R21):=
 some (.inl (name1,out5_0,out5_1,(w64 (i6 + 1)),h0_0,h0_1,h0_2,h0_3_0,h0_3_1,h0_4_0,h0_4_1))
theorem j21_22_t (name1:Bs) (out5_0:Bool) (out5_1:List Bs) (i6 h0_0:Int) (h0_1:Bs) (h0_2:Int) (h0_3_0:Bool) (h0_3_1:List (Bs×Bs)) (h0_4_0:Bool) (h0_4_1:List UInt8)  (sl:Nat→AV) (zq1:sl 1 = .v (.c (.d (.sc (.string (S name1)))))) (zq2:sl 2 = .v (.c (.ptr 0 0))) (zq5:sl 5 = .v (.c (.own out5_0 (enL enS out5_1) 1))) (zq6:sl 6 = .v (.c (.d (.sc (.int .i64 i6))))):
  stepE (K21_8 (mm:=mm)) (loopK 0 [(1,.keep),(2,.keep),(5,.own),(6,.keep)] (den (E0 mm) 21 0 (callW (E0 mm)) itW c21_22 none ⟨sl,[.cells [.d (.sc (.int .i64 h0_0)),.d (.sc (.string (S h0_1))),.d (.sc (.int .i64 h0_2)),.d (.lst h0_3_0 (enL enSS h0_3_1)),.d (.lst h0_4_0 (enL enB h0_4_1))],.row out5_1.length (rz out5_0 1)]⟩)) = (j21_22 name1 out5_0 out5_1 i6 h0_0 h0_1 h0_2 h0_3_0 h0_3_1 h0_4_0 h0_4_1).map (sm en21_8 e21):=by
 simp -implicitDefEqProofs only [j21_22,c21_22_r,(show opsOf c21_22 = _ :: _ from rfl),zq1,zq2,zq5,zq6,setA,setB,za,zb,zc,zd,ze,zf,zg,zh,zi,zj,zk,zl,zm,zn,zo,zp,reduceCtorEq,zE,↓reduceIte]
 all_goals rfl
def j21_23 (out5_0:Bool) (out5_1:List Bs):Option R21:=
 some (out5_0,out5_1)
theorem j21_23_t (out5_0:Bool) (out5_1:List Bs) (g0:Ob) (sl:Nat→AV) (zq5:sl 5 = .v (.c (.own out5_0 (enL enS out5_1) 1))):
  bodyD (E0 mm) [.tmp 4] 0 false (den (E0 mm) 21 0 (callW (E0 mm)) itW c21_23 none ⟨sl,[g0,.row out5_1.length (rz out5_0 1)]⟩) = (j21_23 out5_0 out5_1).map e21:=by
 simp -implicitDefEqProofs only [j21_23,c21_23_e,c21_24_r,(show opsOf c21_24 = _ :: _ from rfl),c21_25_e,zq5,setA,setB,za,zb,zc,zd,ze,zf,zg,zh,zi,zj,zk,zl,zm,zn,zo,zp,reduceCtorEq,zE,↓reduceIte]
 all_goals rfl
def s21_8 (name1:Bs) (out5_0:Bool) (out5_1:List Bs) (i6 h0_0:Int) (h0_1:Bs) (h0_2:Int) (h0_3_0:Bool) (h0_3_1:List (Bs×Bs)) (h0_4_0:Bool) (h0_4_1:List UInt8):Option ((Bs×Bool×List Bs×Int×Int×Bs×Int×Bool×List (Bs×Bs)×Bool×List UInt8) ⊕ R21):=
 if (decide (i6 < (h0_3_1.length:Int))) = true then
  if 0≤i6∧i6 < (h0_3_1.length:Int) then
   (m40 ((h0_3_1.getD i6.toNat default).1) name1).bind fun yr5=>
    if yr5 = true then
     if (out5_1.length + 1) * 16≤140737488355328 then
      j21_22 name1 false (out5_1 ++ ([(h0_3_1.getD i6.toNat default).2]:List Bs)) i6 h0_0 h0_1 h0_2 h0_3_0 h0_3_1 h0_4_0 h0_4_1
     else none
    else
     j21_22 name1 out5_0 out5_1 i6 h0_0 h0_1 h0_2 h0_3_0 h0_3_1 h0_4_0 h0_4_1
  else none
 else
  (j21_23 out5_0 out5_1).map .inr
theorem s21_8_t (name1:Bs) (out5_0:Bool) (out5_1:List Bs) (i6 h0_0:Int) (h0_1:Bs) (h0_2:Int) (h0_3_0:Bool) (h0_3_1:List (Bs×Bs)) (h0_4_0:Bool) (h0_4_1:List UInt8):
  stepE (K21_8 (mm:=mm)) (loopF (E0 mm) 21 0 (callW (E0 mm)) itW c21_9 [(1,.keep),(2,.keep),(5,.own),(6,.keep)] (none,[.v (.c (.d (.sc (.string (S name1))))),.v (.c (.ptr 0 0)),.v (.c (.own out5_0 (enL enS out5_1) 1)),.v (.c (.d (.sc (.int .i64 i6))))],[.cells [.d (.sc (.int .i64 h0_0)),.d (.sc (.string (S h0_1))),.d (.sc (.int .i64 h0_2)),.d (.lst h0_3_0 (enL enSS h0_3_1)),.d (.lst h0_4_0 (enL enB h0_4_1))],.row out5_1.length (rz out5_0 1)])) = (s21_8 name1 out5_0 out5_1 i6 h0_0 h0_1 h0_2 h0_3_0 h0_3_1 h0_4_0 h0_4_1).map (sm en21_8 e21):=by
 simp -implicitDefEqProofs only [s21_8,loopF_eq,c21_9_e,c21_10_e,c21_11_r,(show opsOf c21_11 = _ :: _ from rfl),Tryz.underlying26,sz23,ag23,Tryz.underlying23,(show c21_12 = Code.cond _ c21_13 c21_14 from rfl),setA,setB,za,zb,zc,zd,ze,zf,zg,zh,zi,zj,zk,zl,zm,zn,zo,zp,reduceCtorEq,zE,↓reduceIte]
 refine brB (fun yc1=>?_) (fun yc1=>?_)
 ·simp -implicitDefEqProofs only [c21_13_e,c21_15_e,c21_16_e,c21_17_e,c21_18_r,(show opsOf c21_18 = _ :: _ from rfl),Tryz.underlying26,sz23,ag23,Tryz.underlying23,sz62,enSS_a,yc1,setA,setB,za,zb,zc,zd,ze,zf,zg,zh,zi,zj,zk,zl,zm,zn,zo,zp,reduceCtorEq,zE,↓reduceIte]
  refine brP (fun yc2=>?_) (fun yc2=>?_)
  ·have yd3:i6.toNat < h0_3_1.length:=by omega
   simp -implicitDefEqProofs only [(enL_get enSS h0_3_1 i6.toNat yd3),enSS_e,Tryz.underlying62,sz9,ag9,ent40,prm40,f40_t,yc1,yc2,yd3,setA,setB,za,zb,zc,zd,ze,zf,zg,zh,zi,zj,zk,zl,zm,zn,zo,zp,reduceCtorEq,zE,↓reduceIte]
   refine brM (fun yc4=>?_) (fun yr5 yc4=>?_)
   ·rw [yc4]; rfl
   ·simp -implicitDefEqProofs only [e40,(show c21_19 = Code.cond _ c21_20 c21_21 from rfl),yc1,yc2,yd3,yc4,setA,setB,za,zb,zc,zd,ze,zf,zg,zh,zi,zj,zk,zl,zm,zn,zo,zp,reduceCtorEq,zE,↓reduceIte]
    refine brB (fun yc6=>?_) (fun yc6=>?_)
    ·simp -implicitDefEqProofs only [c21_20_r,(show opsOf c21_20 = _ :: _ from rfl),Tryz.underlying26,sz23,ag23,Tryz.underlying23,sz62,enSS_a,(enL_get enSS h0_3_1 i6.toNat yd3),enSS_e,Tryz.underlying62,sz9,ag9,Tryz.underlying40,zc9,hd21,nv22,rw23,ns5,ap40,yc1,yc2,yd3,yc4,yc6,setA,setB,za,zb,zc,zd,ze,zf,zg,zh,zi,zj,zk,zl,zm,zn,zo,zp,reduceCtorEq,zE,↓reduceIte]
     refine brP (fun yc7=>?_) (fun yc7=>?_)
     ·simp -implicitDefEqProofs only [yc1,yc2,yd3,yc4,yc6,yc7,setA,setB,za,zb,zc,zd,ze,zf,zg,zh,zi,zj,zk,zl,zm,zn,zo,zp,reduceCtorEq,zE,↓reduceIte]
      exact j21_22_t name1 false (out5_1 ++ ([(h0_3_1.getD i6.toNat default).2]:List Bs)) i6 h0_0 h0_1 h0_2 h0_3_0 h0_3_1 h0_4_0 h0_4_1 _ (by rfl) (by rfl) (by rfl) (by rfl)
     ·rw [if_neg yc7]; rfl
    ·simp -implicitDefEqProofs only [c21_21_e,yc1,yc2,yd3,yc4,yc6,setA,setB,za,zb,zc,zd,ze,zf,zg,zh,zi,zj,zk,zl,zm,zn,zo,zp,reduceCtorEq,zE,↓reduceIte]
     exact j21_22_t name1 out5_0 out5_1 i6 h0_0 h0_1 h0_2 h0_3_0 h0_3_1 h0_4_0 h0_4_1 _ (by rfl) (by rfl) (by rfl) (by rfl)
  ·rw [if_neg yc2]; rfl
 ·simp -implicitDefEqProofs only [c21_14_e,K21_8,yc1,setA,setB,za,zb,zc,zd,ze,zf,zg,zh,zi,zj,zk,zl,zm,zn,zo,zp,reduceCtorEq,zE,↓reduceIte]
  exact mi (j21_23_t out5_0 out5_1 _ _ (by rfl))
def l21_8 (name1:Bs) (out5_0:Bool) (out5_1:List Bs) (i6 h0_0:Int) (h0_1:Bs) (h0_2:Int) (h0_3_0:Bool) (h0_3_1:List (Bs×Bs)) (h0_4_0:Bool) (h0_4_1:List UInt8):Option R21:=iter (fun x:(Bs×Bool×List Bs×Int×Int×Bs×Int×Bool×List (Bs×Bs)×Bool×List UInt8)=>s21_8 x.1 x.2.1 x.2.2.1 x.2.2.2.1 x.2.2.2.2.1 x.2.2.2.2.2.1 x.2.2.2.2.2.2.1 x.2.2.2.2.2.2.2.1 x.2.2.2.2.2.2.2.2.1 x.2.2.2.2.2.2.2.2.2.1 x.2.2.2.2.2.2.2.2.2.2) (name1,out5_0,out5_1,i6,h0_0,h0_1,h0_2,h0_3_0,h0_3_1,h0_4_0,h0_4_1)
theorem l21_8_t (name1:Bs) (out5_0:Bool) (out5_1:List Bs) (i6 h0_0:Int) (h0_1:Bs) (h0_2:Int) (h0_3_0:Bool) (h0_3_1:List (Bs×Bs)) (h0_4_0:Bool) (h0_4_1:List UInt8):bodyD (E0 mm) [.tmp 4] 0 false (seqD (E0 mm) 21 0 (callW (E0 mm)) itW c21_23 (blockD 0 (itW (loopF (E0 mm) 21 0 (callW (E0 mm)) itW c21_9 [(1,.keep),(2,.keep),(5,.own),(6,.keep)]) (none,[.v (.c (.d (.sc (.string (S name1))))),.v (.c (.ptr 0 0)),.v (.c (.own out5_0 (enL enS out5_1) 1)),.v (.c (.d (.sc (.int .i64 i6))))],[.cells [.d (.sc (.int .i64 h0_0)),.d (.sc (.string (S h0_1))),.d (.sc (.int .i64 h0_2)),.d (.lst h0_3_0 (enL enSS h0_3_1)),.d (.lst h0_4_0 (enL enB h0_4_1))],.row out5_1.length (rz out5_0 1)])))) = (l21_8 name1 out5_0 out5_1 i6 h0_0 h0_1 h0_2 h0_3_0 h0_3_1 h0_4_0 h0_4_1).map e21:=
 it_sim (K:=(K21_8 (mm:=mm))) rfl (enc:=en21_8) (fun x=>s21_8_t x.1 x.2.1 x.2.2.1 x.2.2.2.1 x.2.2.2.2.1 x.2.2.2.2.2.1 x.2.2.2.2.2.2.1 x.2.2.2.2.2.2.2.1 x.2.2.2.2.2.2.2.2.1 x.2.2.2.2.2.2.2.2.2.1 x.2.2.2.2.2.2.2.2.2.2) (name1,out5_0,out5_1,i6,h0_0,h0_1,h0_2,h0_3_0,h0_3_1,h0_4_0,h0_4_1)
def m21 (r0_0:Int) (r0_1:Bs) (r0_2:Int) (r0_3:Bool) (r0_4:List (Bs×Bs)) (r0_5:Bool) (r0_6:List UInt8) (name:Bs):Option R21:=
 l21_8 name true ([]:List Bs) (0:Int) r0_0 r0_1 r0_2 r0_3 r0_4 r0_5 r0_6
theorem f21_t (r0_0:Int) (r0_1:Bs) (r0_2:Int) (r0_3:Bool) (r0_4:List (Bs×Bs)) (r0_5:Bool) (r0_6:List UInt8) (name:Bs):
  callW (E0 mm) 21 [.agg [.d (.sc (.int .i64 r0_0)),.d (.sc (.string (S r0_1))),.d (.sc (.int .i64 r0_2)),.d (.lst r0_3 (enL enSS r0_4)),.d (.lst r0_5 (enL enB r0_6))],.c (.d (.sc (.string (S name))))] [] = (m21 r0_0 r0_1 r0_2 r0_3 r0_4 r0_5 r0_6 name).map e21:=by
 rw [callW_run (body:=c21_0) (res:=[.tmp 4]) Tryz.func21 rfl rfl (by kernel_rfl)]
 simp -implicitDefEqProofs only [m21,slots2,c21_0_e,c21_1_r,(show opsOf c21_1 = _ :: _ from rfl),c21_2_e,c21_3_r,(show opsOf c21_3 = _ :: _ from rfl),c21_4_e,c21_5_e,c21_6_r,(show opsOf c21_6 = _ :: _ from rfl),c21_7_e,c21_8_l,setA,setB,za,zb,zc,zd,ze,zf,zg,zh,zi,zj,zk,zl,zm,zn,zo,zp,reduceCtorEq,zE,↓reduceIte]
 exact l21_8_t name true ([]:List Bs) (0:Int) r0_0 r0_1 r0_2 r0_3 r0_4 r0_5 r0_6
noncomputable def c48_0:Code:=bodyOf Tryz.f48
def c48_1:=cA c48_0
def c48_2:=cB c48_0
def c48_3:=cA c48_2
def c48_4:=cB c48_2
def c48_5:=cA c48_4
def c48_6:=cB c48_4
theorem c48_0_e:c48_0 = .seq c48_1 c48_2:=rfl
theorem c48_1_r:RG (E0 mm) 48 c48_1:=rgN rfl
theorem c48_2_e:c48_2 = .seq c48_3 c48_4:=rfl
theorem c48_3_r:RG (E0 mm) 48 c48_3:=rgN rfl
theorem c48_4_e:c48_4 = .seq c48_5 c48_6:=rfl
theorem c48_5_r:RG (E0 mm) 48 c48_5:=rgN rfl
theorem c48_6_e:c48_6 = .ret:=rfl
abbrev R48:=(Bs)
def e48:R48→AV×Heap:=fun x=>(.v (.c (.d (.sc (.string (S x))))),[])
def m48 (n:Int):Option R48:=
 if 0≤n∧n < 12 then
  some (([([74,97,110]:Bs),([70,101,98]:Bs),([77,97,114]:Bs),([65,112,114]:Bs),([77,97,121]:Bs),([74,117,110]:Bs),([74,117,108]:Bs),([65,117,103]:Bs),([83,101,112]:Bs),([79,99,116]:Bs),([78,111,118]:Bs),([68,101,99]:Bs)]:List Bs).getD n.toNat default)
 else none
theorem f48_t (n:Int):
  callW (E0 mm) 48 [.c (.d (.sc (.int .i64 n)))] [] = (m48 n).map e48:=by
 rw [callW_run (body:=c48_0) (res:=[.tmp 2]) Tryz.func48 rfl rfl (by kernel_rfl)]
 simp -implicitDefEqProofs only [m48,slots1,c48_0_e,c48_1_r,(show opsOf c48_1 = _ :: _ from rfl),c48_2_e,c48_3_r,(show opsOf c48_3 = _ :: _ from rfl),Tryz.underlying86,zc86,sz9,ao24,sz86,c48_4_e,c48_5_r,(show opsOf c48_5 = _ :: _ from rfl),setA,setB,za,zb,zc,zd,ze,zf,zg,zh,zi,zj,zk,zl,zm,zn,zo,zp,reduceCtorEq,zE,↓reduceIte]
 refine brP (fun yc1=>?_) (fun yc1=>?_)
 ·have yd2:n.toNat < 12:=by omega
  simp -implicitDefEqProofs only [sz9,ag9,ar25,c48_6_e,yc1,yd2,setA,setB,za,zb,zc,zd,ze,zf,zg,zh,zi,zj,zk,zl,zm,zn,zo,zp,reduceCtorEq,zE,↓reduceIte]
  all_goals rfl
 ·rw [if_neg yc1]; rfl
noncomputable def c49_0:Code:=bodyOf Tryz.f49
def c49_1:=cA c49_0
def c49_2:=cB c49_0
def c49_3:=cA c49_2
def c49_4:=cB c49_2
def c49_5:=cA c49_4
def c49_6:=cA c49_5
def c49_7:=cB c49_5
def c49_8:=cA c49_7
def c49_9:=cA c49_8
def c49_10:=cA c49_9
def c49_11:=cA c49_10
def c49_12:=cB c49_10
def c49_13:=cA c49_12
def c49_14:=cB c49_12
def c49_15:=cB c49_9
def c49_16:=cA c49_15
def c49_17:=cA c49_16
def c49_18:=cA c49_17
def c49_19:=cA c49_18
def c49_20:=cB c49_18
def c49_21:=cA c49_20
def c49_22:=cA c49_21
def c49_23:=cB c49_21
def c49_24:=cB c49_20
def c49_25:=cB c49_17
def c49_26:=cB c49_15
def c49_27:=cB c49_4
def c49_28:=cA c49_27
def c49_29:=cB c49_27
theorem c49_0_e:c49_0 = .seq c49_1 c49_2:=rfl
theorem c49_1_r:RG (E0 mm) 49 c49_1:=rgN rfl
theorem c49_2_e:c49_2 = .seq c49_3 c49_4:=rfl
theorem c49_3_r:RG (E0 mm) 49 c49_3:=rgN rfl
theorem c49_4_e:c49_4 = .seq c49_5 c49_27:=rfl
theorem c49_5_e:c49_5 = .seq c49_6 c49_7:=rfl
theorem c49_6_r:RG (E0 mm) 49 c49_6:=rgN rfl
theorem c49_7_e:c49_7 = .block 0 c49_8:=rfl
theorem c49_8_l (m:Nat) (st:St):den (E0 mm) 49 m (callW (E0 mm)) itW c49_8 none st = loopD itW (loopF (E0 mm) 49 m (callW (E0 mm)) itW c49_9 [(0,.keep),(1,.keep),(2,.keep),(7,.keep),(8,.keep)]) (canon m [(0,.keep),(1,.keep),(2,.keep),(7,.keep),(8,.keep)] st):=rfl
theorem c49_9_e:c49_9 = .seq c49_10 c49_15:=rfl
theorem c49_10_e:c49_10 = .seq c49_11 c49_12:=rfl
theorem c49_11_r:RG (E0 mm) 49 c49_11:=rgN rfl
theorem c49_13_e:c49_13 = .skip:=rfl
theorem c49_14_e:c49_14 = .exit 0:=rfl
theorem c49_15_e:c49_15 = .seq c49_16 c49_26:=rfl
theorem c49_16_e:c49_16 = .block 1 c49_17:=rfl
theorem c49_17_e:c49_17 = .seq c49_18 c49_25:=rfl
theorem c49_18_e:c49_18 = .seq c49_19 c49_20:=rfl
theorem c49_19_r:RG (E0 mm) 49 c49_19:=rgN rfl
theorem c49_21_e:c49_21 = .seq c49_22 c49_23:=rfl
theorem c49_22_r:RG (E0 mm) 49 c49_22:=rgN rfl
theorem c49_23_e:c49_23 = .ret:=rfl
theorem c49_24_e:c49_24 = .skip:=rfl
theorem c49_25_r:RG (E0 mm) 49 c49_25:=rgN rfl
theorem c49_26_r:RG (E0 mm) 49 c49_26:=rgN rfl
theorem c49_27_e:c49_27 = .seq c49_28 c49_29:=rfl
theorem c49_28_r:RG (E0 mm) 49 c49_28:=rgN rfl
theorem c49_29_e:c49_29 = .ret:=rfl
abbrev R49:=(Int)
def e49:R49→AV×Heap:=fun x=>(.v (.c (.d (.sc (.int .i64 x)))),[])
def K49_8:Option (Ex×St)→Option (AV×Heap):=fun r=>bodyD (E0 mm) [.tmp 6] 0 false (seqD (E0 mm) 49 0 (callW (E0 mm)) itW c49_27 (blockD 0 (r)))
def en49_8:(Bs×Int×Int×Int×Int)→X:=fun x=>(none,[.v (.c (.d (.sc (.string (S x.1))))),.v (.c (.d (.sc (.int .i64 x.2.1)))),.v (.c (.d (.sc (.int .i64 x.2.2.1)))),.v (.c (.d (.sc (.int .i64 x.2.2.2.1)))),.v (.c (.d (.sc (.int .i64 x.2.2.2.2))))],[])
def j49_20 (s0:Bs) (at1 many2:Int) (n7 i8:Int) (t26:Bool):Option ((Bs×Int×Int×Int×Int) ⊕ R49):=
 if t26 = true then
  some (.inr (-1:Int))
 else
  if 0≤i8∧i8 < (s0.length:Int) then
   some (.inl (s0,at1,many2,(w64 ((w64 (10 * n7)) + (((s0.getD i8.toNat 0) - (48:UInt8)).toNat:Int))),(w64 (i8 + 1))))
  else none
theorem j49_20_t (s0:Bs) (at1 many2:Int) (n7 i8:Int) (t26:Bool)  (sl:Nat→AV) (zq0:sl 0 = .v (.c (.d (.sc (.string (S s0)))))) (zq1:sl 1 = .v (.c (.d (.sc (.int .i64 at1))))) (zq2:sl 2 = .v (.c (.d (.sc (.int .i64 many2))))) (zq7:sl 7 = .v (.c (.d (.sc (.int .i64 n7))))) (zq8:sl 8 = .v (.c (.d (.sc (.int .i64 i8))))) (zq26:sl 26 = .v (.c (.d (.sc (.bool t26))))):
  stepE (K49_8 (mm:=mm)) (loopK 0 [(0,.keep),(1,.keep),(2,.keep),(7,.keep),(8,.keep)] (seqD (E0 mm) 49 0 (callW (E0 mm)) itW c49_26 (blockD 1 (seqD (E0 mm) 49 0 (callW (E0 mm)) itW c49_25 (den (E0 mm) 49 0 (callW (E0 mm)) itW c49_20 none ⟨sl,[]⟩))))) = (j49_20 s0 at1 many2 n7 i8 t26).map (sm en49_8 e49):=by
 simp -implicitDefEqProofs only [j49_20,(show c49_20 = Code.cond _ c49_21 c49_24 from rfl),zq0,zq1,zq2,zq7,zq8,zq26,setA,setB,za,zb,zc,zd,ze,zf,zg,zh,zi,zj,zk,zl,zm,zn,zo,zp,reduceCtorEq,zE,↓reduceIte]
 refine brB (fun yc4=>?_) (fun yc4=>?_)
 ·simp -implicitDefEqProofs only [c49_21_e,c49_22_r,(show opsOf c49_22 = _ :: _ from rfl),c49_23_e,K49_8,zq0,zq1,zq2,zq7,zq8,zq26,yc4,setA,setB,za,zb,zc,zd,ze,zf,zg,zh,zi,zj,zk,zl,zm,zn,zo,zp,reduceCtorEq,zE,↓reduceIte]
  all_goals rfl
 ·simp -implicitDefEqProofs only [c49_24_e,c49_25_r,(show opsOf c49_25 = _ :: _ from rfl),Tryz.underlying9,zq0,zq1,zq2,zq7,zq8,zq26,yc4,setA,setB,za,zb,zc,zd,ze,zf,zg,zh,zi,zj,zk,zl,zm,zn,zo,zp,reduceCtorEq,zE,↓reduceIte]
  refine brP (fun yc5=>?_) (fun yc5=>?_)
  ·simp -implicitDefEqProofs only [Tryz.underlying5,Tryz.underlying3,c49_26_r,(show opsOf c49_26 = _ :: _ from rfl),zq0,zq1,zq2,zq7,zq8,zq26,yc4,yc5,setA,setB,za,zb,zc,zd,ze,zf,zg,zh,zi,zj,zk,zl,zm,zn,zo,zp,reduceCtorEq,zE,↓reduceIte]
   all_goals rfl
  ·rw [if_neg yc5]; rfl
def j49_27 (n7:Int):Option R49:=
 some n7
theorem j49_27_t (n7:Int)  (sl:Nat→AV) (zq7:sl 7 = .v (.c (.d (.sc (.int .i64 n7))))):
  bodyD (E0 mm) [.tmp 6] 0 false (den (E0 mm) 49 0 (callW (E0 mm)) itW c49_27 none ⟨sl,[]⟩) = (j49_27 n7).map e49:=by
 simp -implicitDefEqProofs only [j49_27,c49_27_e,c49_28_r,(show opsOf c49_28 = _ :: _ from rfl),c49_29_e,zq7,setA,setB,za,zb,zc,zd,ze,zf,zg,zh,zi,zj,zk,zl,zm,zn,zo,zp,reduceCtorEq,zE,↓reduceIte]
 all_goals rfl
def s49_8 (s0:Bs) (at1 many2:Int) (n7 i8:Int):Option ((Bs×Int×Int×Int×Int) ⊕ R49):=
 if (decide (i8 < (w64 (at1 + many2)))) = true then
  if 0≤i8∧i8 < (s0.length:Int) then
   if (decide ((s0.getD i8.toNat 0) < (48:UInt8))) = true then
    j49_20 s0 at1 many2 n7 i8 true
   else
    j49_20 s0 at1 many2 n7 i8 (decide ((57:UInt8) < (s0.getD i8.toNat 0)))
  else none
 else
  (j49_27 n7).map .inr
theorem s49_8_t (s0:Bs) (at1 many2:Int) (n7 i8:Int):
  stepE (K49_8 (mm:=mm)) (loopF (E0 mm) 49 0 (callW (E0 mm)) itW c49_9 [(0,.keep),(1,.keep),(2,.keep),(7,.keep),(8,.keep)] (none,[.v (.c (.d (.sc (.string (S s0))))),.v (.c (.d (.sc (.int .i64 at1)))),.v (.c (.d (.sc (.int .i64 many2)))),.v (.c (.d (.sc (.int .i64 n7)))),.v (.c (.d (.sc (.int .i64 i8))))],[])) = (s49_8 s0 at1 many2 n7 i8).map (sm en49_8 e49):=by
 simp -implicitDefEqProofs only [s49_8,loopF_eq,c49_9_e,c49_10_e,c49_11_r,(show opsOf c49_11 = _ :: _ from rfl),(show c49_12 = Code.cond _ c49_13 c49_14 from rfl),setA,setB,za,zb,zc,zd,ze,zf,zg,zh,zi,zj,zk,zl,zm,zn,zo,zp,reduceCtorEq,zE,↓reduceIte]
 refine brB (fun yc1=>?_) (fun yc1=>?_)
 ·simp -implicitDefEqProofs only [c49_13_e,c49_15_e,c49_16_e,c49_17_e,c49_18_e,c49_19_r,(show opsOf c49_19 = _ :: _ from rfl),Tryz.underlying9,yc1,setA,setB,za,zb,zc,zd,ze,zf,zg,zh,zi,zj,zk,zl,zm,zn,zo,zp,reduceCtorEq,zE,↓reduceIte]
  refine brP (fun yc2=>?_) (fun yc2=>?_)
  ·simp -implicitDefEqProofs only [yc1,yc2,setA,setB,za,zb,zc,zd,ze,zf,zg,zh,zi,zj,zk,zl,zm,zn,zo,zp,reduceCtorEq,zE,↓reduceIte]
   refine brB (fun yc3=>?_) (fun yc3=>?_)
   ·simp -implicitDefEqProofs only [yc1,yc2,yc3,setA,setB,za,zb,zc,zd,ze,zf,zg,zh,zi,zj,zk,zl,zm,zn,zo,zp,reduceCtorEq,zE,↓reduceIte]
    exact j49_20_t s0 at1 many2 n7 i8 true _ (by rfl) (by rfl) (by rfl) (by rfl) (by rfl) (by rfl)
   ·simp -implicitDefEqProofs only [Tryz.underlying9,yc1,yc2,yc3,setA,setB,za,zb,zc,zd,ze,zf,zg,zh,zi,zj,zk,zl,zm,zn,zo,zp,reduceCtorEq,zE,↓reduceIte]
    exact j49_20_t s0 at1 many2 n7 i8 (decide ((57:UInt8) < (s0.getD i8.toNat 0))) _ (by rfl) (by rfl) (by rfl) (by rfl) (by rfl) (by rfl)
  ·rw [if_neg yc2]; rfl
 ·simp -implicitDefEqProofs only [c49_14_e,K49_8,yc1,setA,setB,za,zb,zc,zd,ze,zf,zg,zh,zi,zj,zk,zl,zm,zn,zo,zp,reduceCtorEq,zE,↓reduceIte]
  exact mi (j49_27_t n7 _ (by rfl))
def l49_8 (s0:Bs) (at1 many2:Int) (n7 i8:Int):Option R49:=iter (fun x:(Bs×Int×Int×Int×Int)=>s49_8 x.1 x.2.1 x.2.2.1 x.2.2.2.1 x.2.2.2.2) (s0,at1,many2,n7,i8)
theorem l49_8_t (s0:Bs) (at1 many2:Int) (n7 i8:Int):bodyD (E0 mm) [.tmp 6] 0 false (seqD (E0 mm) 49 0 (callW (E0 mm)) itW c49_27 (blockD 0 (itW (loopF (E0 mm) 49 0 (callW (E0 mm)) itW c49_9 [(0,.keep),(1,.keep),(2,.keep),(7,.keep),(8,.keep)]) (none,[.v (.c (.d (.sc (.string (S s0))))),.v (.c (.d (.sc (.int .i64 at1)))),.v (.c (.d (.sc (.int .i64 many2)))),.v (.c (.d (.sc (.int .i64 n7)))),.v (.c (.d (.sc (.int .i64 i8))))],[])))) = (l49_8 s0 at1 many2 n7 i8).map e49:=
 it_sim (K:=(K49_8 (mm:=mm))) rfl (enc:=en49_8) (fun x=>s49_8_t x.1 x.2.1 x.2.2.1 x.2.2.2.1 x.2.2.2.2) (s0,at1,many2,n7,i8)
def m49 (s:Bs) (xat many:Int):Option R49:=
 l49_8 s xat many (0:Int) xat
theorem f49_t (s:Bs) (xat many:Int):
  callW (E0 mm) 49 [.c (.d (.sc (.string (S s)))),.c (.d (.sc (.int .i64 xat))),.c (.d (.sc (.int .i64 many)))] [] = (m49 s xat many).map e49:=by
 rw [callW_run (body:=c49_0) (res:=[.tmp 6]) Tryz.func49 rfl rfl (by kernel_rfl)]
 simp -implicitDefEqProofs only [m49,slots3,c49_0_e,c49_1_r,(show opsOf c49_1 = _ :: _ from rfl),c49_2_e,c49_3_r,(show opsOf c49_3 = _ :: _ from rfl),c49_4_e,c49_5_e,c49_6_r,(show opsOf c49_6 = _ :: _ from rfl),c49_7_e,c49_8_l,setA,setB,za,zb,zc,zd,ze,zf,zg,zh,zi,zj,zk,zl,zm,zn,zo,zp,reduceCtorEq,zE,↓reduceIte]
 exact l49_8_t s xat many (0:Int) xat
noncomputable def c51_0:Code:=bodyOf Tryz.f51
def c51_1:=cA c51_0
def c51_2:=cB c51_0
def c51_3:=cA c51_2
def c51_4:=cB c51_2
theorem c51_0_e:c51_0 = .seq c51_1 c51_2:=rfl
theorem c51_1_r:RG (E0 mm) 51 c51_1:=rgN rfl
theorem c51_2_e:c51_2 = .seq c51_3 c51_4:=rfl
theorem c51_3_r:RG (E0 mm) 51 c51_3:=rgN rfl
theorem c51_4_e:c51_4 = .ret:=rfl
abbrev R51:=(Bool)
def e51:R51→AV×Heap:=fun x=>(.v (.c (.d (.sc (.bool x)))),[])
def m51 (year:Int):Option R51:=
 if ((year.tmod 400) == 0) = true then
  some true
 else
  if ((year.tmod 4) == 0) = true then
   some (!((year.tmod 100) == 0))
  else
   some false
theorem f51_t (year:Int):
  callW (E0 mm) 51 [.c (.d (.sc (.int .i64 year)))] [] = (m51 year).map e51:=by
 rw [callW_run (body:=c51_0) (res:=[.tmp 2]) Tryz.func51 rfl rfl (by kernel_rfl)]
 simp -implicitDefEqProofs only [m51,slots1,c51_0_e,c51_1_r,(show opsOf c51_1 = _ :: _ from rfl),c51_2_e,c51_3_r,(show opsOf c51_3 = _ :: _ from rfl),setA,setB,za,zb,zc,zd,ze,zf,zg,zh,zi,zj,zk,zl,zm,zn,zo,zp,reduceCtorEq,zE,↓reduceIte]
 refine brB (fun yc1=>?_) (fun yc1=>?_)
 ·simp -implicitDefEqProofs only [c51_4_e,yc1,setA,setB,za,zb,zc,zd,ze,zf,zg,zh,zi,zj,zk,zl,zm,zn,zo,zp,reduceCtorEq,zE,↓reduceIte]
  all_goals rfl
 ·simp -implicitDefEqProofs only [yc1,setA,setB,za,zb,zc,zd,ze,zf,zg,zh,zi,zj,zk,zl,zm,zn,zo,zp,reduceCtorEq,zE,↓reduceIte]
  refine brB (fun yc2=>?_) (fun yc2=>?_)
  ·simp -implicitDefEqProofs only [c51_4_e,yc1,yc2,setA,setB,za,zb,zc,zd,ze,zf,zg,zh,zi,zj,zk,zl,zm,zn,zo,zp,reduceCtorEq,zE,↓reduceIte]
   all_goals rfl
  ·simp -implicitDefEqProofs only [c51_4_e,yc1,yc2,setA,setB,za,zb,zc,zd,ze,zf,zg,zh,zi,zj,zk,zl,zm,zn,zo,zp,reduceCtorEq,zE,↓reduceIte]
   all_goals rfl
noncomputable def c50_0:Code:=bodyOf Tryz.f50
def c50_1:=cA c50_0
def c50_2:=cB c50_0
def c50_3:=cA c50_2
def c50_4:=cB c50_2
def c50_5:=cA c50_4
def c50_6:=cB c50_4
def c50_7:=cA c50_6
def c50_8:=cA c50_7
def c50_9:=cB c50_7
def c50_10:=cA c50_9
def c50_11:=cB c50_9
def c50_12:=cB c50_6
def c50_13:=cA c50_12
def c50_14:=cB c50_12
theorem c50_0_e:c50_0 = .seq c50_1 c50_2:=rfl
theorem c50_1_r:RG (E0 mm) 50 c50_1:=rgN rfl
theorem c50_2_e:c50_2 = .seq c50_3 c50_4:=rfl
theorem c50_3_r:RG (E0 mm) 50 c50_3:=rgN rfl
theorem c50_4_e:c50_4 = .seq c50_5 c50_6:=rfl
theorem c50_5_r:RG (E0 mm) 50 c50_5:=rgN rfl
theorem c50_6_e:c50_6 = .seq c50_7 c50_12:=rfl
theorem c50_7_e:c50_7 = .seq c50_8 c50_9:=rfl
theorem c50_8_r:RG (E0 mm) 50 c50_8:=rgN rfl
theorem c50_10_r:RG (E0 mm) 50 c50_10:=rgN rfl
theorem c50_11_e:c50_11 = .skip:=rfl
theorem c50_12_e:c50_12 = .seq c50_13 c50_14:=rfl
theorem c50_13_r:RG (E0 mm) 50 c50_13:=rgN rfl
theorem c50_14_e:c50_14 = .ret:=rfl
abbrev R50:=(Int)
def e50:R50→AV×Heap:=fun x=>(.v (.c (.d (.sc (.int .i64 x)))),[])
def j50_12 (n6:Int):Option R50:=
 some n6
theorem j50_12_t (n6:Int) (g0:Ob) (sl:Nat→AV) (zq6:sl 6 = .v (.c (.d (.sc (.int .i64 n6))))):
  bodyD (E0 mm) [.tmp 4] 0 false (den (E0 mm) 50 0 (callW (E0 mm)) itW c50_12 none ⟨sl,[g0]⟩) = (j50_12 n6).map e50:=by
 simp -implicitDefEqProofs only [j50_12,c50_12_e,c50_13_r,(show opsOf c50_13 = _ :: _ from rfl),c50_14_e,zq6,setA,setB,za,zb,zc,zd,ze,zf,zg,zh,zi,zj,zk,zl,zm,zn,zo,zp,reduceCtorEq,zE,↓reduceIte]
 all_goals rfl
def j50_9 (n6:Int) (t16:Bool):Option R50:=
 if t16 = true then
  j50_12 (29:Int)
 else
  j50_12 n6
theorem j50_9_t (n6:Int) (t16:Bool) (g0:Ob) (sl:Nat→AV) (zq6:sl 6 = .v (.c (.d (.sc (.int .i64 n6))))) (zq16:sl 16 = .v (.c (.d (.sc (.bool t16))))):
  bodyD (E0 mm) [.tmp 4] 0 false (seqD (E0 mm) 50 0 (callW (E0 mm)) itW c50_12 (den (E0 mm) 50 0 (callW (E0 mm)) itW c50_9 none ⟨sl,[g0]⟩)) = (j50_9 n6 t16).map e50:=by
 simp -implicitDefEqProofs only [j50_9,(show c50_9 = Code.cond _ c50_10 c50_11 from rfl),zq6,zq16,setA,setB,za,zb,zc,zd,ze,zf,zg,zh,zi,zj,zk,zl,zm,zn,zo,zp,reduceCtorEq,zE,↓reduceIte]
 refine brB (fun yc6=>?_) (fun yc6=>?_)
 ·simp -implicitDefEqProofs only [c50_10_r,(show opsOf c50_10 = _ :: _ from rfl),zq6,zq16,yc6,setA,setB,za,zb,zc,zd,ze,zf,zg,zh,zi,zj,zk,zl,zm,zn,zo,zp,reduceCtorEq,zE,↓reduceIte]
  exact j50_12_t (29:Int) _ _ (by rfl)
 ·simp -implicitDefEqProofs only [c50_11_e,zq6,zq16,yc6,setA,setB,za,zb,zc,zd,ze,zf,zg,zh,zi,zj,zk,zl,zm,zn,zo,zp,reduceCtorEq,zE,↓reduceIte]
  exact j50_12_t n6 _ _ (by exact zq6)
def m50 (year month:Int):Option R50:=
 if 0≤month∧month < 12 then
  if (month == 1) = true then
   (m51 year).bind fun yr5=>
    j50_9 (([(31:Int),(28:Int),(31:Int),(30:Int),(31:Int),(30:Int),(31:Int),(31:Int),(30:Int),(31:Int),(30:Int),(31:Int)]:List Int).getD month.toNat default) yr5
  else
   j50_9 (([(31:Int),(28:Int),(31:Int),(30:Int),(31:Int),(30:Int),(31:Int),(31:Int),(30:Int),(31:Int),(30:Int),(31:Int)]:List Int).getD month.toNat default) false
 else none
theorem f50_t (year month:Int):
  callW (E0 mm) 50 [.c (.d (.sc (.int .i64 year))),.c (.d (.sc (.int .i64 month)))] [] = (m50 year month).map e50:=by
 rw [callW_run (body:=c50_0) (res:=[.tmp 4]) Tryz.func50 rfl rfl (by kernel_rfl)]
 simp -implicitDefEqProofs only [m50,slots2,c50_0_e,c50_1_r,(show opsOf c50_1 = _ :: _ from rfl),c50_2_e,c50_3_r,(show opsOf c50_3 = _ :: _ from rfl),Tryz.underlying85,zc85,sz3,ao26,sz85,c50_4_e,c50_5_r,(show opsOf c50_5 = _ :: _ from rfl),setA,setB,za,zb,zc,zd,ze,zf,zg,zh,zi,zj,zk,zl,zm,zn,zo,zp,reduceCtorEq,zE,↓reduceIte]
 refine brP (fun yc1=>?_) (fun yc1=>?_)
 ·have yd2:month.toNat < 12:=by omega
  simp -implicitDefEqProofs only [sz3,ag3,ar8,c50_6_e,c50_7_e,c50_8_r,(show opsOf c50_8 = _ :: _ from rfl),yc1,yd2,setA,setB,za,zb,zc,zd,ze,zf,zg,zh,zi,zj,zk,zl,zm,zn,zo,zp,reduceCtorEq,zE,↓reduceIte]
  refine brB (fun yc3=>?_) (fun yc3=>?_)
  ·simp -implicitDefEqProofs only [ent51,prm51,f51_t,yc1,yd2,yc3,setA,setB,za,zb,zc,zd,ze,zf,zg,zh,zi,zj,zk,zl,zm,zn,zo,zp,reduceCtorEq,zE,↓reduceIte]
   refine brM (fun yc4=>?_) (fun yr5 yc4=>?_)
   ·rw [yc4]; rfl
   ·simp -implicitDefEqProofs only [e51,yc1,yd2,yc3,yc4,setA,setB,za,zb,zc,zd,ze,zf,zg,zh,zi,zj,zk,zl,zm,zn,zo,zp,reduceCtorEq,zE,↓reduceIte]
    exact j50_9_t (([(31:Int),(28:Int),(31:Int),(30:Int),(31:Int),(30:Int),(31:Int),(31:Int),(30:Int),(31:Int),(30:Int),(31:Int)]:List Int).getD month.toNat default) yr5 _ _ (by rfl) (by rfl)
  ·simp -implicitDefEqProofs only [yc1,yd2,yc3,setA,setB,za,zb,zc,zd,ze,zf,zg,zh,zi,zj,zk,zl,zm,zn,zo,zp,reduceCtorEq,zE,↓reduceIte]
   exact j50_9_t (([(31:Int),(28:Int),(31:Int),(30:Int),(31:Int),(30:Int),(31:Int),(31:Int),(30:Int),(31:Int),(30:Int),(31:Int)]:List Int).getD month.toNat default) false _ _ (by rfl) (by rfl)
 ·rw [if_neg yc1]; rfl
noncomputable def c52_0:Code:=bodyOf Tryz.f52
def c52_1:=cA c52_0
def c52_2:=cB c52_0
def c52_3:=cA c52_2
def c52_4:=cB c52_2
def c52_5:=cA c52_4
def c52_6:=cB c52_4
theorem c52_0_e:c52_0 = .seq c52_1 c52_2:=rfl
theorem c52_1_r:RG (E0 mm) 52 c52_1:=rgN rfl
theorem c52_2_e:c52_2 = .seq c52_3 c52_4:=rfl
theorem c52_3_r:RG (E0 mm) 52 c52_3:=rgN rfl
theorem c52_4_e:c52_4 = .seq c52_5 c52_6:=rfl
theorem c52_5_r:RG (E0 mm) 52 c52_5:=rgN rfl
theorem c52_6_e:c52_6 = .ret:=rfl
abbrev R52:=(Bs)
def e52:R52→AV×Heap:=fun x=>(.v (.c (.d (.sc (.string (S x))))),[])
def m52 (n:Int):Option R52:=
 if 0≤(n.tmod 7)∧(n.tmod 7) < 7 then
  some (([([84,104,117]:Bs),([70,114,105]:Bs),([83,97,116]:Bs),([83,117,110]:Bs),([77,111,110]:Bs),([84,117,101]:Bs),([87,101,100]:Bs)]:List Bs).getD ((n.tmod 7).toNat) default)
 else none
theorem f52_t (n:Int):
  callW (E0 mm) 52 [.c (.d (.sc (.int .u64 n)))] [] = (m52 n).map e52:=by
 rw [callW_run (body:=c52_0) (res:=[.tmp 2]) Tryz.func52 rfl rfl (by kernel_rfl)]
 simp -implicitDefEqProofs only [m52,slots1,c52_0_e,c52_1_r,(show opsOf c52_1 = _ :: _ from rfl),c52_2_e,c52_3_r,(show opsOf c52_3 = _ :: _ from rfl),Tryz.underlying87,zc87,sz9,ao27,sz87,c52_4_e,c52_5_r,(show opsOf c52_5 = _ :: _ from rfl),setA,setB,za,zb,zc,zd,ze,zf,zg,zh,zi,zj,zk,zl,zm,zn,zo,zp,reduceCtorEq,zE,↓reduceIte]
 refine brP (fun yc1=>?_) (fun yc1=>?_)
 ·have yd2:(n.tmod 7).toNat < 7:=by omega
  simp -implicitDefEqProofs only [sz9,ag9,ar28,c52_6_e,yc1,yd2,setA,setB,za,zb,zc,zd,ze,zf,zg,zh,zi,zj,zk,zl,zm,zn,zo,zp,reduceCtorEq,zE,↓reduceIte]
  all_goals rfl
 ·rw [if_neg yc1]; rfl
noncomputable def c29_0:Code:=bodyOf Tryz.f29
def c29_1:=cA c29_0
def c29_2:=cB c29_0
def c29_3:=cA c29_2
def c29_4:=cA c29_3
def c29_5:=cB c29_3
def c29_6:=cA c29_5
def c29_7:=cA c29_6
def c29_8:=cB c29_6
def c29_9:=cB c29_5
def c29_10:=cB c29_2
def c29_11:=cA c29_10
def c29_12:=cB c29_10
def c29_13:=cA c29_12
def c29_14:=cA c29_13
def c29_15:=cB c29_13
def c29_16:=cA c29_15
def c29_17:=cA c29_16
def c29_18:=cA c29_17
def c29_19:=cA c29_18
def c29_20:=cB c29_18
def c29_21:=cA c29_20
def c29_22:=cB c29_20
def c29_23:=cB c29_17
def c29_24:=cA c29_23
def c29_25:=cA c29_24
def c29_26:=cA c29_25
def c29_27:=cB c29_25
def c29_28:=cA c29_27
def c29_29:=cB c29_27
def c29_30:=cB c29_23
def c29_31:=cB c29_12
def c29_32:=cA c29_31
def c29_33:=cB c29_31
def c29_34:=cA c29_33
def c29_35:=cB c29_33
def c29_36:=cA c29_35
def c29_37:=cA c29_36
def c29_38:=cB c29_36
def c29_39:=cA c29_38
def c29_40:=cA c29_39
def c29_41:=cB c29_39
def c29_42:=cB c29_38
def c29_43:=cB c29_35
def c29_44:=cA c29_43
def c29_45:=cB c29_43
def c29_46:=cA c29_45
def c29_47:=cA c29_46
def c29_48:=cB c29_46
def c29_49:=cA c29_48
def c29_50:=cA c29_49
def c29_51:=cA c29_50
def c29_52:=cA c29_51
def c29_53:=cB c29_51
def c29_54:=cA c29_53
def c29_55:=cB c29_53
def c29_56:=cB c29_50
def c29_57:=cA c29_56
def c29_58:=cA c29_57
def c29_59:=cA c29_58
def c29_60:=cB c29_58
def c29_61:=cA c29_60
def c29_62:=cB c29_60
def c29_63:=cA c29_62
def c29_64:=cB c29_62
def c29_65:=cB c29_56
def c29_66:=cB c29_45
def c29_67:=cA c29_66
def c29_68:=cA c29_67
def c29_69:=cB c29_67
def c29_70:=cA c29_69
def c29_71:=cA c29_70
def c29_72:=cA c29_71
def c29_73:=cA c29_72
def c29_74:=cB c29_72
def c29_75:=cA c29_74
def c29_76:=cB c29_74
def c29_77:=cB c29_71
def c29_78:=cA c29_77
def c29_79:=cA c29_78
def c29_80:=cB c29_77
def c29_81:=cB c29_66
def c29_82:=cA c29_81
def c29_83:=cA c29_82
def c29_84:=cB c29_82
def c29_85:=cA c29_84
def c29_86:=cA c29_85
def c29_87:=cB c29_85
def c29_88:=cB c29_84
def c29_89:=cB c29_81
def c29_90:=cA c29_89
def c29_91:=cB c29_89
theorem c29_0_e:c29_0 = .seq c29_1 c29_2:=rfl
theorem c29_1_r:RG (E0 mm) 29 c29_1:=rgN rfl
theorem c29_2_e:c29_2 = .seq c29_3 c29_10:=rfl
theorem c29_3_e:c29_3 = .seq c29_4 c29_5:=rfl
theorem c29_4_r:RG (E0 mm) 29 c29_4:=rgN rfl
theorem c29_6_e:c29_6 = .seq c29_7 c29_8:=rfl
theorem c29_7_r:RG (E0 mm) 29 c29_7:=rgN rfl
theorem c29_8_e:c29_8 = .ret:=rfl
theorem c29_9_e:c29_9 = .skip:=rfl
theorem c29_10_e:c29_10 = .seq c29_11 c29_12:=rfl
theorem c29_11_r:RG (E0 mm) 29 c29_11:=rgN rfl
theorem c29_12_e:c29_12 = .seq c29_13 c29_31:=rfl
theorem c29_13_e:c29_13 = .seq c29_14 c29_15:=rfl
theorem c29_14_r:RG (E0 mm) 29 c29_14:=rgN rfl
theorem c29_15_e:c29_15 = .block 0 c29_16:=rfl
theorem c29_16_l (m:Nat) (st:St):den (E0 mm) 29 m (callW (E0 mm)) itW c29_16 none st = loopD itW (loopF (E0 mm) 29 m (callW (E0 mm)) itW c29_17 [(0,.keep),(4,.keep),(5,.keep)]) (canon m [(0,.keep),(4,.keep),(5,.keep)] st):=rfl
theorem c29_17_e:c29_17 = .seq c29_18 c29_23:=rfl
theorem c29_18_e:c29_18 = .seq c29_19 c29_20:=rfl
theorem c29_19_r:RG (E0 mm) 29 c29_19:=rgN rfl
theorem c29_21_e:c29_21 = .skip:=rfl
theorem c29_22_e:c29_22 = .exit 0:=rfl
theorem c29_23_e:c29_23 = .seq c29_24 c29_30:=rfl
theorem c29_24_e:c29_24 = .block 1 c29_25:=rfl
theorem c29_25_e:c29_25 = .seq c29_26 c29_27:=rfl
theorem c29_26_r:RG (E0 mm) 29 c29_26:=rgD (by kernel_rfl)
theorem c29_28_r:RG (E0 mm) 29 c29_28:=rgN rfl
theorem c29_29_e:c29_29 = .skip:=rfl
theorem c29_30_r:RG (E0 mm) 29 c29_30:=rgN rfl
theorem c29_31_e:c29_31 = .seq c29_32 c29_33:=rfl
theorem c29_32_r:RG (E0 mm) 29 c29_32:=rgN rfl
theorem c29_33_e:c29_33 = .seq c29_34 c29_35:=rfl
theorem c29_34_r:RG (E0 mm) 29 c29_34:=rgN rfl
theorem c29_35_e:c29_35 = .seq c29_36 c29_43:=rfl
theorem c29_36_e:c29_36 = .seq c29_37 c29_38:=rfl
theorem c29_37_r:RG (E0 mm) 29 c29_37:=rgN rfl
theorem c29_39_e:c29_39 = .seq c29_40 c29_41:=rfl
theorem c29_40_r:RG (E0 mm) 29 c29_40:=rgN rfl
theorem c29_41_e:c29_41 = .ret:=rfl
theorem c29_42_e:c29_42 = .skip:=rfl
theorem c29_43_e:c29_43 = .seq c29_44 c29_45:=rfl
theorem c29_44_r:RG (E0 mm) 29 c29_44:=rgN rfl
theorem c29_45_e:c29_45 = .seq c29_46 c29_66:=rfl
theorem c29_46_e:c29_46 = .seq c29_47 c29_48:=rfl
theorem c29_47_r:RG (E0 mm) 29 c29_47:=rgN rfl
theorem c29_48_e:c29_48 = .block 2 c29_49:=rfl
theorem c29_49_l (m:Nat) (st:St):den (E0 mm) 29 m (callW (E0 mm)) itW c29_49 none st = loopD itW (loopF (E0 mm) 29 m (callW (E0 mm)) itW c29_50 [(0,.keep),(4,.keep),(7,.keep),(8,.keep),(9,.keep),(10,.keep),(11,.keep),(12,.keep)]) (canon m [(0,.keep),(4,.keep),(7,.keep),(8,.keep),(9,.keep),(10,.keep),(11,.keep),(12,.keep)] st):=rfl
theorem c29_50_e:c29_50 = .seq c29_51 c29_56:=rfl
theorem c29_51_e:c29_51 = .seq c29_52 c29_53:=rfl
theorem c29_52_r:RG (E0 mm) 29 c29_52:=rgN rfl
theorem c29_54_e:c29_54 = .skip:=rfl
theorem c29_55_e:c29_55 = .exit 2:=rfl
theorem c29_56_e:c29_56 = .seq c29_57 c29_65:=rfl
theorem c29_57_e:c29_57 = .block 3 c29_58:=rfl
theorem c29_58_e:c29_58 = .seq c29_59 c29_60:=rfl
theorem c29_59_r:RG (E0 mm) 29 c29_59:=rgN rfl
theorem c29_60_e:c29_60 = .seq c29_61 c29_62:=rfl
theorem c29_61_r:RG (E0 mm) 29 c29_61:=rgN rfl
theorem c29_63_r:RG (E0 mm) 29 c29_63:=rgN rfl
theorem c29_64_e:c29_64 = .skip:=rfl
theorem c29_65_r:RG (E0 mm) 29 c29_65:=rgN rfl
theorem c29_66_e:c29_66 = .seq c29_67 c29_81:=rfl
theorem c29_67_e:c29_67 = .seq c29_68 c29_69:=rfl
theorem c29_68_r:RG (E0 mm) 29 c29_68:=rgN rfl
theorem c29_69_e:c29_69 = .block 4 c29_70:=rfl
theorem c29_70_l (m:Nat) (st:St):den (E0 mm) 29 m (callW (E0 mm)) itW c29_70 none st = loopD itW (loopF (E0 mm) 29 m (callW (E0 mm)) itW c29_71 [(0,.keep),(4,.keep),(7,.keep),(8,.keep),(9,.keep),(10,.keep),(11,.keep),(13,.keep)]) (canon m [(0,.keep),(4,.keep),(7,.keep),(8,.keep),(9,.keep),(10,.keep),(11,.keep),(13,.keep)] st):=rfl
theorem c29_71_e:c29_71 = .seq c29_72 c29_77:=rfl
theorem c29_72_e:c29_72 = .seq c29_73 c29_74:=rfl
theorem c29_73_r:RG (E0 mm) 29 c29_73:=rgN rfl
theorem c29_75_e:c29_75 = .skip:=rfl
theorem c29_76_e:c29_76 = .exit 4:=rfl
theorem c29_77_e:c29_77 = .seq c29_78 c29_80:=rfl
theorem c29_78_e:c29_78 = .block 5 c29_79:=rfl
theorem c29_79_r:RG (E0 mm) 29 c29_79:=rgN rfl
theorem c29_80_r:RG (E0 mm) 29 c29_80:=rgN rfl
theorem c29_81_e:c29_81 = .seq c29_82 c29_89:=rfl
theorem c29_82_e:c29_82 = .seq c29_83 c29_84:=rfl
theorem c29_83_r:RG (E0 mm) 29 c29_83:=rgD (by kernel_rfl)
theorem c29_85_e:c29_85 = .seq c29_86 c29_87:=rfl
theorem c29_86_r:RG (E0 mm) 29 c29_86:=rgN rfl
theorem c29_87_e:c29_87 = .ret:=rfl
theorem c29_88_e:c29_88 = .skip:=rfl
theorem c29_89_e:c29_89 = .seq c29_90 c29_91:=rfl
theorem c29_90_r:RG (E0 mm) 29 c29_90:=rgN rfl
theorem c29_91_e:c29_91 = .ret:=rfl
abbrev R29:=(Int×Int)
def e29:R29→AV×Heap:=fun x=>(.tup [.c (.d (.sc (.int .u64 x.1))),.c (.d (.sc (.int .i64 x.2)))],[])
def K29_16:Option (Ex×St)→Option (AV×Heap):=fun r=>bodyD (E0 mm) [.tmp 2,.tmp 3] 0 false (seqD (E0 mm) 29 0 (callW (E0 mm)) itW c29_31 (blockD 0 (r)))
def en29_16:(Bs×Int×Int)→X:=fun x=>(none,[.v (.c (.d (.sc (.string (S x.1))))),.v (.c (.d (.sc (.int .i64 x.2.1)))),.v (.c (.d (.sc (.int .i64 x.2.2))))],[])
def j29_30 (s0:Bs) (m4 i5:Int):Option ((Bs×Int×Int) ⊕ R29):=
 some (.inl (s0,m4,(w64 (i5 + 1))))
theorem j29_30_t (s0:Bs) (m4 i5:Int)  (sl:Nat→AV) (zq0:sl 0 = .v (.c (.d (.sc (.string (S s0)))))) (zq4:sl 4 = .v (.c (.d (.sc (.int .i64 m4))))) (zq5:sl 5 = .v (.c (.d (.sc (.int .i64 i5))))):
  stepE (K29_16 (mm:=mm)) (loopK 0 [(0,.keep),(4,.keep),(5,.keep)] (den (E0 mm) 29 0 (callW (E0 mm)) itW c29_30 none ⟨sl,[]⟩)) = (j29_30 s0 m4 i5).map (sm en29_16 e29):=by
 simp -implicitDefEqProofs only [j29_30,c29_30_r,(show opsOf c29_30 = _ :: _ from rfl),zq0,zq4,zq5,setA,setB,za,zb,zc,zd,ze,zf,zg,zh,zi,zj,zk,zl,zm,zn,zo,zp,reduceCtorEq,zE,↓reduceIte]
 all_goals rfl
def K29_49:Option (Ex×St)→Option (AV×Heap):=fun r=>bodyD (E0 mm) [.tmp 2,.tmp 3] 0 false (seqD (E0 mm) 29 0 (callW (E0 mm)) itW c29_66 (blockD 2 (r)))
def en29_49:(Bs×Int×Int×Int×Int×Int×Int×Int)→X:=fun x=>(none,[.v (.c (.d (.sc (.string (S x.1))))),.v (.c (.d (.sc (.int .i64 x.2.1)))),.v (.c (.d (.sc (.int .i64 x.2.2.1)))),.v (.c (.d (.sc (.int .i64 x.2.2.2.1)))),.v (.c (.d (.sc (.int .i64 x.2.2.2.2.1)))),.v (.c (.d (.sc (.int .i64 x.2.2.2.2.2.1)))),.v (.c (.d (.sc (.int .u64 x.2.2.2.2.2.2.1)))),.v (.c (.d (.sc (.int .i64 x.2.2.2.2.2.2.2))))],[])
def j29_65 (s0:Bs) (m4 year7:Int) (h8 min9:Int) (sec10 d11 y12:Int):Option ((Bs×Int×Int×Int×Int×Int×Int×Int) ⊕ R29):=
 some (.inl (s0,m4,year7,h8,min9,sec10,d11,(w64 (y12 + 1))))
theorem j29_65_t (s0:Bs) (m4 year7:Int) (h8 min9:Int) (sec10 d11 y12:Int)  (sl:Nat→AV) (zq0:sl 0 = .v (.c (.d (.sc (.string (S s0)))))) (zq4:sl 4 = .v (.c (.d (.sc (.int .i64 m4))))) (zq7:sl 7 = .v (.c (.d (.sc (.int .i64 year7))))) (zq8:sl 8 = .v (.c (.d (.sc (.int .i64 h8))))) (zq9:sl 9 = .v (.c (.d (.sc (.int .i64 min9))))) (zq10:sl 10 = .v (.c (.d (.sc (.int .i64 sec10))))) (zq11:sl 11 = .v (.c (.d (.sc (.int .u64 d11))))) (zq12:sl 12 = .v (.c (.d (.sc (.int .i64 y12))))):
  stepE (K29_49 (mm:=mm)) (loopK 0 [(0,.keep),(4,.keep),(7,.keep),(8,.keep),(9,.keep),(10,.keep),(11,.keep),(12,.keep)] (den (E0 mm) 29 0 (callW (E0 mm)) itW c29_65 none ⟨sl,[]⟩)) = (j29_65 s0 m4 year7 h8 min9 sec10 d11 y12).map (sm en29_49 e29):=by
 simp -implicitDefEqProofs only [j29_65,c29_65_r,(show opsOf c29_65 = _ :: _ from rfl),zq0,zq4,zq7,zq8,zq9,zq10,zq11,zq12,setA,setB,za,zb,zc,zd,ze,zf,zg,zh,zi,zj,zk,zl,zm,zn,zo,zp,reduceCtorEq,zE,↓reduceIte]
 all_goals rfl
def K29_70:Option (Ex×St)→Option (AV×Heap):=fun r=>bodyD (E0 mm) [.tmp 2,.tmp 3] 0 false (seqD (E0 mm) 29 0 (callW (E0 mm)) itW c29_81 (blockD 4 (r)))
def en29_70:(Bs×Int×Int×Int×Int×Int×Int×Int)→X:=fun x=>(none,[.v (.c (.d (.sc (.string (S x.1))))),.v (.c (.d (.sc (.int .i64 x.2.1)))),.v (.c (.d (.sc (.int .i64 x.2.2.1)))),.v (.c (.d (.sc (.int .i64 x.2.2.2.1)))),.v (.c (.d (.sc (.int .i64 x.2.2.2.2.1)))),.v (.c (.d (.sc (.int .i64 x.2.2.2.2.2.1)))),.v (.c (.d (.sc (.int .u64 x.2.2.2.2.2.2.1)))),.v (.c (.d (.sc (.int .i64 x.2.2.2.2.2.2.2))))],[])
def j29_81 (s0:Bs) (h8 min9:Int) (sec10 d11:Int):Option R29:=
 (m52 d11).bind fun yr48=>
  (bnd 3 s0.length).bind fun yk50=>
   if (yr48 == (s0.take yk50)) = true then
    some ((wu64 ((wu64 (86400 * d11)) + (wu64 (w64 ((w64 ((w64 (3600 * h8)) + (w64 (60 * min9)))) + sec10))))),(0:Int))
   else
    some ((0:Int),(5:Int))
theorem j29_81_t (s0:Bs) (h8 min9:Int) (sec10 d11:Int)  (sl:Nat→AV) (zq0:sl 0 = .v (.c (.d (.sc (.string (S s0)))))) (zq8:sl 8 = .v (.c (.d (.sc (.int .i64 h8))))) (zq9:sl 9 = .v (.c (.d (.sc (.int .i64 min9))))) (zq10:sl 10 = .v (.c (.d (.sc (.int .i64 sec10))))) (zq11:sl 11 = .v (.c (.d (.sc (.int .u64 d11))))):
  bodyD (E0 mm) [.tmp 2,.tmp 3] 0 false (den (E0 mm) 29 0 (callW (E0 mm)) itW c29_81 none ⟨sl,[]⟩) = (j29_81 s0 h8 min9 sec10 d11).map e29:=by
 simp -implicitDefEqProofs only [j29_81,c29_81_e,c29_82_e,c29_83_r,(show opsOf c29_83 = _ :: _ from rfl),ent52,prm52,f52_t,zq0,zq8,zq9,zq10,zq11,setA,setB,za,zb,zc,zd,ze,zf,zg,zh,zi,zj,zk,zl,zm,zn,zo,zp,reduceCtorEq,zE,↓reduceIte]
 refine brM (fun yc47=>?_) (fun yr48 yc47=>?_)
 ·rw [yc47]; rfl
 ·simp -implicitDefEqProofs only [e52,Tryz.underlying9,zq0,zq8,zq9,zq10,zq11,yc47,setA,setB,za,zb,zc,zd,ze,zf,zg,zh,zi,zj,zk,zl,zm,zn,zo,zp,reduceCtorEq,zE,↓reduceIte]
  refine brM (fun yc49=>?_) (fun yk50 yc49=>?_)
  ·rw [yc49]; rfl
  ·simp -implicitDefEqProofs only [(show c29_84 = Code.cond _ c29_85 c29_88 from rfl),zq0,zq8,zq9,zq10,zq11,yc47,yc49,setA,setB,za,zb,zc,zd,ze,zf,zg,zh,zi,zj,zk,zl,zm,zn,zo,zp,reduceCtorEq,zE,↓reduceIte]
   refine brB (fun yc51=>?_) (fun yc51=>?_)
   ·simp -implicitDefEqProofs only [c29_88_e,c29_89_e,c29_90_r,(show opsOf c29_90 = _ :: _ from rfl),Tryz.underlying3,Tryz.underlying22,c29_91_e,zq0,zq8,zq9,zq10,zq11,yc47,yc49,yc51,setA,setB,za,zb,zc,zd,ze,zf,zg,zh,zi,zj,zk,zl,zm,zn,zo,zp,reduceCtorEq,zE,↓reduceIte]
    all_goals rfl
   ·simp -implicitDefEqProofs only [c29_85_e,c29_86_r,(show opsOf c29_86 = _ :: _ from rfl),c29_87_e,zq0,zq8,zq9,zq10,zq11,yc47,yc49,yc51,setA,setB,za,zb,zc,zd,ze,zf,zg,zh,zi,zj,zk,zl,zm,zn,zo,zp,reduceCtorEq,zE,↓reduceIte]
    all_goals rfl
def s29_70 (s0:Bs) (m4 year7:Int) (h8 min9:Int) (sec10 d11 i13:Int):Option ((Bs×Int×Int×Int×Int×Int×Int×Int) ⊕ R29):=
 if (decide (i13 < m4)) = true then
  (m50 year7 i13).bind fun yr46=>
   some (.inl (s0,m4,year7,h8,min9,sec10,(wu64 (d11 + (wu64 yr46))),(w64 (i13 + 1))))
 else
  (j29_81 s0 h8 min9 sec10 d11).map .inr
theorem s29_70_t (s0:Bs) (m4 year7:Int) (h8 min9:Int) (sec10 d11 i13:Int):
  stepE (K29_70 (mm:=mm)) (loopF (E0 mm) 29 0 (callW (E0 mm)) itW c29_71 [(0,.keep),(4,.keep),(7,.keep),(8,.keep),(9,.keep),(10,.keep),(11,.keep),(13,.keep)] (none,[.v (.c (.d (.sc (.string (S s0))))),.v (.c (.d (.sc (.int .i64 m4)))),.v (.c (.d (.sc (.int .i64 year7)))),.v (.c (.d (.sc (.int .i64 h8)))),.v (.c (.d (.sc (.int .i64 min9)))),.v (.c (.d (.sc (.int .i64 sec10)))),.v (.c (.d (.sc (.int .u64 d11)))),.v (.c (.d (.sc (.int .i64 i13))))],[])) = (s29_70 s0 m4 year7 h8 min9 sec10 d11 i13).map (sm en29_70 e29):=by
 simp -implicitDefEqProofs only [s29_70,loopF_eq,c29_71_e,c29_72_e,c29_73_r,(show opsOf c29_73 = _ :: _ from rfl),(show c29_74 = Code.cond _ c29_75 c29_76 from rfl),setA,setB,za,zb,zc,zd,ze,zf,zg,zh,zi,zj,zk,zl,zm,zn,zo,zp,reduceCtorEq,zE,↓reduceIte]
 refine brB (fun yc44=>?_) (fun yc44=>?_)
 ·simp -implicitDefEqProofs only [c29_75_e,c29_77_e,c29_78_e,c29_79_r,(show opsOf c29_79 = _ :: _ from rfl),ent50,prm50,f50_t,yc44,setA,setB,za,zb,zc,zd,ze,zf,zg,zh,zi,zj,zk,zl,zm,zn,zo,zp,reduceCtorEq,zE,↓reduceIte]
  refine brM (fun yc45=>?_) (fun yr46 yc45=>?_)
  ·rw [yc45]; rfl
  ·simp -implicitDefEqProofs only [e50,Tryz.underlying3,Tryz.underlying22,c29_80_r,(show opsOf c29_80 = _ :: _ from rfl),yc44,yc45,setA,setB,za,zb,zc,zd,ze,zf,zg,zh,zi,zj,zk,zl,zm,zn,zo,zp,reduceCtorEq,zE,↓reduceIte]
   all_goals rfl
 ·simp -implicitDefEqProofs only [c29_76_e,K29_70,yc44,setA,setB,za,zb,zc,zd,ze,zf,zg,zh,zi,zj,zk,zl,zm,zn,zo,zp,reduceCtorEq,zE,↓reduceIte]
  exact mi (j29_81_t s0 h8 min9 sec10 d11 _ (by rfl) (by rfl) (by rfl) (by rfl) (by rfl))
def l29_70 (s0:Bs) (m4 year7:Int) (h8 min9:Int) (sec10 d11 i13:Int):Option R29:=iter (fun x:(Bs×Int×Int×Int×Int×Int×Int×Int)=>s29_70 x.1 x.2.1 x.2.2.1 x.2.2.2.1 x.2.2.2.2.1 x.2.2.2.2.2.1 x.2.2.2.2.2.2.1 x.2.2.2.2.2.2.2) (s0,m4,year7,h8,min9,sec10,d11,i13)
theorem l29_70_t (s0:Bs) (m4 year7:Int) (h8 min9:Int) (sec10 d11 i13:Int):bodyD (E0 mm) [.tmp 2,.tmp 3] 0 false (seqD (E0 mm) 29 0 (callW (E0 mm)) itW c29_81 (blockD 4 (itW (loopF (E0 mm) 29 0 (callW (E0 mm)) itW c29_71 [(0,.keep),(4,.keep),(7,.keep),(8,.keep),(9,.keep),(10,.keep),(11,.keep),(13,.keep)]) (none,[.v (.c (.d (.sc (.string (S s0))))),.v (.c (.d (.sc (.int .i64 m4)))),.v (.c (.d (.sc (.int .i64 year7)))),.v (.c (.d (.sc (.int .i64 h8)))),.v (.c (.d (.sc (.int .i64 min9)))),.v (.c (.d (.sc (.int .i64 sec10)))),.v (.c (.d (.sc (.int .u64 d11)))),.v (.c (.d (.sc (.int .i64 i13))))],[])))) = (l29_70 s0 m4 year7 h8 min9 sec10 d11 i13).map e29:=
 it_sim (K:=(K29_70 (mm:=mm))) rfl (enc:=en29_70) (fun x=>s29_70_t x.1 x.2.1 x.2.2.1 x.2.2.2.1 x.2.2.2.2.1 x.2.2.2.2.2.1 x.2.2.2.2.2.2.1 x.2.2.2.2.2.2.2) (s0,m4,year7,h8,min9,sec10,d11,i13)
def j29_66 (s0:Bs) (m4 year7:Int) (h8 min9:Int) (sec10 d11:Int):Option R29:=
 l29_70 s0 m4 year7 h8 min9 sec10 d11 (0:Int)
theorem j29_66_t (s0:Bs) (m4 year7:Int) (h8 min9:Int) (sec10 d11:Int)  (sl:Nat→AV) (zq0:sl 0 = .v (.c (.d (.sc (.string (S s0)))))) (zq4:sl 4 = .v (.c (.d (.sc (.int .i64 m4))))) (zq7:sl 7 = .v (.c (.d (.sc (.int .i64 year7))))) (zq8:sl 8 = .v (.c (.d (.sc (.int .i64 h8))))) (zq9:sl 9 = .v (.c (.d (.sc (.int .i64 min9))))) (zq10:sl 10 = .v (.c (.d (.sc (.int .i64 sec10))))) (zq11:sl 11 = .v (.c (.d (.sc (.int .u64 d11))))):
  bodyD (E0 mm) [.tmp 2,.tmp 3] 0 false (den (E0 mm) 29 0 (callW (E0 mm)) itW c29_66 none ⟨sl,[]⟩) = (j29_66 s0 m4 year7 h8 min9 sec10 d11).map e29:=by
 simp -implicitDefEqProofs only [j29_66,c29_66_e,c29_67_e,c29_68_r,(show opsOf c29_68 = _ :: _ from rfl),c29_69_e,c29_70_l,zq0,zq4,zq7,zq8,zq9,zq10,zq11,setA,setB,za,zb,zc,zd,ze,zf,zg,zh,zi,zj,zk,zl,zm,zn,zo,zp,reduceCtorEq,zE,↓reduceIte]
 exact l29_70_t s0 m4 year7 h8 min9 sec10 d11 (0:Int)
def s29_49 (s0:Bs) (m4 year7:Int) (h8 min9:Int) (sec10 d11 y12:Int):Option ((Bs×Int×Int×Int×Int×Int×Int×Int) ⊕ R29):=
 if (decide (y12 < year7)) = true then
  (m51 y12).bind fun yr42=>
   if yr42 = true then
    j29_65 s0 m4 year7 h8 min9 sec10 (wu64 ((wu64 (d11 + 365)) + 1)) y12
   else
    j29_65 s0 m4 year7 h8 min9 sec10 (wu64 (d11 + 365)) y12
 else
  (j29_66 s0 m4 year7 h8 min9 sec10 d11).map .inr
theorem s29_49_t (s0:Bs) (m4 year7:Int) (h8 min9:Int) (sec10 d11 y12:Int):
  stepE (K29_49 (mm:=mm)) (loopF (E0 mm) 29 0 (callW (E0 mm)) itW c29_50 [(0,.keep),(4,.keep),(7,.keep),(8,.keep),(9,.keep),(10,.keep),(11,.keep),(12,.keep)] (none,[.v (.c (.d (.sc (.string (S s0))))),.v (.c (.d (.sc (.int .i64 m4)))),.v (.c (.d (.sc (.int .i64 year7)))),.v (.c (.d (.sc (.int .i64 h8)))),.v (.c (.d (.sc (.int .i64 min9)))),.v (.c (.d (.sc (.int .i64 sec10)))),.v (.c (.d (.sc (.int .u64 d11)))),.v (.c (.d (.sc (.int .i64 y12))))],[])) = (s29_49 s0 m4 year7 h8 min9 sec10 d11 y12).map (sm en29_49 e29):=by
 simp -implicitDefEqProofs only [s29_49,loopF_eq,c29_50_e,c29_51_e,c29_52_r,(show opsOf c29_52 = _ :: _ from rfl),(show c29_53 = Code.cond _ c29_54 c29_55 from rfl),setA,setB,za,zb,zc,zd,ze,zf,zg,zh,zi,zj,zk,zl,zm,zn,zo,zp,reduceCtorEq,zE,↓reduceIte]
 refine brB (fun yc40=>?_) (fun yc40=>?_)
 ·simp -implicitDefEqProofs only [c29_54_e,c29_56_e,c29_57_e,c29_58_e,c29_59_r,(show opsOf c29_59 = _ :: _ from rfl),c29_60_e,c29_61_r,(show opsOf c29_61 = _ :: _ from rfl),ent51,prm51,f51_t,yc40,setA,setB,za,zb,zc,zd,ze,zf,zg,zh,zi,zj,zk,zl,zm,zn,zo,zp,reduceCtorEq,zE,↓reduceIte]
  refine brM (fun yc41=>?_) (fun yr42 yc41=>?_)
  ·rw [yc41]; rfl
  ·simp -implicitDefEqProofs only [e51,(show c29_62 = Code.cond _ c29_63 c29_64 from rfl),yc40,yc41,setA,setB,za,zb,zc,zd,ze,zf,zg,zh,zi,zj,zk,zl,zm,zn,zo,zp,reduceCtorEq,zE,↓reduceIte]
   refine brB (fun yc43=>?_) (fun yc43=>?_)
   ·simp -implicitDefEqProofs only [c29_63_r,(show opsOf c29_63 = _ :: _ from rfl),yc40,yc41,yc43,setA,setB,za,zb,zc,zd,ze,zf,zg,zh,zi,zj,zk,zl,zm,zn,zo,zp,reduceCtorEq,zE,↓reduceIte]
    exact j29_65_t s0 m4 year7 h8 min9 sec10 (wu64 ((wu64 (d11 + 365)) + 1)) y12 _ (by rfl) (by rfl) (by rfl) (by rfl) (by rfl) (by rfl) (by rfl) (by rfl)
   ·simp -implicitDefEqProofs only [c29_64_e,yc40,yc41,yc43,setA,setB,za,zb,zc,zd,ze,zf,zg,zh,zi,zj,zk,zl,zm,zn,zo,zp,reduceCtorEq,zE,↓reduceIte]
    exact j29_65_t s0 m4 year7 h8 min9 sec10 (wu64 (d11 + 365)) y12 _ (by rfl) (by rfl) (by rfl) (by rfl) (by rfl) (by rfl) (by rfl) (by rfl)
 ·simp -implicitDefEqProofs only [c29_55_e,K29_49,yc40,setA,setB,za,zb,zc,zd,ze,zf,zg,zh,zi,zj,zk,zl,zm,zn,zo,zp,reduceCtorEq,zE,↓reduceIte]
  exact mi (j29_66_t s0 m4 year7 h8 min9 sec10 d11 _ (by rfl) (by rfl) (by rfl) (by rfl) (by rfl) (by rfl) (by rfl))
def l29_49 (s0:Bs) (m4 year7:Int) (h8 min9:Int) (sec10 d11 y12:Int):Option R29:=iter (fun x:(Bs×Int×Int×Int×Int×Int×Int×Int)=>s29_49 x.1 x.2.1 x.2.2.1 x.2.2.2.1 x.2.2.2.2.1 x.2.2.2.2.2.1 x.2.2.2.2.2.2.1 x.2.2.2.2.2.2.2) (s0,m4,year7,h8,min9,sec10,d11,y12)
theorem l29_49_t (s0:Bs) (m4 year7:Int) (h8 min9:Int) (sec10 d11 y12:Int):bodyD (E0 mm) [.tmp 2,.tmp 3] 0 false (seqD (E0 mm) 29 0 (callW (E0 mm)) itW c29_66 (blockD 2 (itW (loopF (E0 mm) 29 0 (callW (E0 mm)) itW c29_50 [(0,.keep),(4,.keep),(7,.keep),(8,.keep),(9,.keep),(10,.keep),(11,.keep),(12,.keep)]) (none,[.v (.c (.d (.sc (.string (S s0))))),.v (.c (.d (.sc (.int .i64 m4)))),.v (.c (.d (.sc (.int .i64 year7)))),.v (.c (.d (.sc (.int .i64 h8)))),.v (.c (.d (.sc (.int .i64 min9)))),.v (.c (.d (.sc (.int .i64 sec10)))),.v (.c (.d (.sc (.int .u64 d11)))),.v (.c (.d (.sc (.int .i64 y12))))],[])))) = (l29_49 s0 m4 year7 h8 min9 sec10 d11 y12).map e29:=
 it_sim (K:=(K29_49 (mm:=mm))) rfl (enc:=en29_49) (fun x=>s29_49_t x.1 x.2.1 x.2.2.1 x.2.2.2.1 x.2.2.2.2.1 x.2.2.2.2.2.1 x.2.2.2.2.2.2.1 x.2.2.2.2.2.2.2) (s0,m4,year7,h8,min9,sec10,d11,y12)
def j29_38 (s0:Bs) (m4 day6:Int) (year7 h8:Int) (min9 sec10:Int) (t112:Bool):Option R29:=
 if t112 = true then
  some ((0:Int),(5:Int))
 else
  l29_49 s0 m4 year7 h8 min9 sec10 (wu64 (w64 (day6 - 1))) (1970:Int)
theorem j29_38_t (s0:Bs) (m4 day6:Int) (year7 h8:Int) (min9 sec10:Int) (t112:Bool)  (sl:Nat→AV) (zq0:sl 0 = .v (.c (.d (.sc (.string (S s0)))))) (zq4:sl 4 = .v (.c (.d (.sc (.int .i64 m4))))) (zq6:sl 6 = .v (.c (.d (.sc (.int .i64 day6))))) (zq7:sl 7 = .v (.c (.d (.sc (.int .i64 year7))))) (zq8:sl 8 = .v (.c (.d (.sc (.int .i64 h8))))) (zq9:sl 9 = .v (.c (.d (.sc (.int .i64 min9))))) (zq10:sl 10 = .v (.c (.d (.sc (.int .i64 sec10))))) (zq112:sl 112 = .v (.c (.d (.sc (.bool t112))))):
  bodyD (E0 mm) [.tmp 2,.tmp 3] 0 false (seqD (E0 mm) 29 0 (callW (E0 mm)) itW c29_43 (den (E0 mm) 29 0 (callW (E0 mm)) itW c29_38 none ⟨sl,[]⟩)) = (j29_38 s0 m4 day6 year7 h8 min9 sec10 t112).map e29:=by
 simp -implicitDefEqProofs only [j29_38,(show c29_38 = Code.cond _ c29_39 c29_42 from rfl),zq0,zq4,zq6,zq7,zq8,zq9,zq10,zq112,setA,setB,za,zb,zc,zd,ze,zf,zg,zh,zi,zj,zk,zl,zm,zn,zo,zp,reduceCtorEq,zE,↓reduceIte]
 refine brB (fun yc39=>?_) (fun yc39=>?_)
 ·simp -implicitDefEqProofs only [c29_39_e,c29_40_r,(show opsOf c29_40 = _ :: _ from rfl),c29_41_e,zq0,zq4,zq6,zq7,zq8,zq9,zq10,zq112,yc39,setA,setB,za,zb,zc,zd,ze,zf,zg,zh,zi,zj,zk,zl,zm,zn,zo,zp,reduceCtorEq,zE,↓reduceIte]
  all_goals rfl
 ·simp -implicitDefEqProofs only [c29_42_e,c29_43_e,c29_44_r,(show opsOf c29_44 = _ :: _ from rfl),Tryz.underlying3,Tryz.underlying22,c29_45_e,c29_46_e,c29_47_r,(show opsOf c29_47 = _ :: _ from rfl),c29_48_e,c29_49_l,zq0,zq4,zq6,zq7,zq8,zq9,zq10,zq112,yc39,setA,setB,za,zb,zc,zd,ze,zf,zg,zh,zi,zj,zk,zl,zm,zn,zo,zp,reduceCtorEq,zE,↓reduceIte]
  exact l29_49_t s0 m4 year7 h8 min9 sec10 (wu64 (w64 (day6 - 1))) (1970:Int)
def j29_31 (s0:Bs) (m4:Int):Option R29:=
 (m49 s0 (5:Int) (2:Int)).bind fun yr29=>
  (m49 s0 (12:Int) (4:Int)).bind fun yr31=>
   (m49 s0 (17:Int) (2:Int)).bind fun yr33=>
    (m49 s0 (20:Int) (2:Int)).bind fun yr35=>
     (m49 s0 (23:Int) (2:Int)).bind fun yr37=>
      if (decide (m4 < 0)) = true then
       j29_38 s0 m4 yr29 yr31 yr33 yr35 yr37 true
      else
       if (decide (yr31 < 1970)) = true then
        j29_38 s0 m4 yr29 yr31 yr33 yr35 yr37 true
       else
        if (decide (yr29 < 1)) = true then
         j29_38 s0 m4 yr29 yr31 yr33 yr35 yr37 true
        else
         (m50 yr31 m4).bind fun yr55=>
          if (decide (yr55 < yr29)) = true then
           j29_38 s0 m4 yr29 yr31 yr33 yr35 yr37 true
          else
           if (decide (yr33 < 0)) = true then
            j29_38 s0 m4 yr29 yr31 yr33 yr35 yr37 true
           else
            if (decide (23 < yr33)) = true then
             j29_38 s0 m4 yr29 yr31 yr33 yr35 yr37 true
            else
             if (decide (yr35 < 0)) = true then
              j29_38 s0 m4 yr29 yr31 yr33 yr35 yr37 true
             else
              if (decide (59 < yr35)) = true then
               j29_38 s0 m4 yr29 yr31 yr33 yr35 yr37 true
              else
               if (decide (yr37 < 0)) = true then
                j29_38 s0 m4 yr29 yr31 yr33 yr35 yr37 true
               else
                j29_38 s0 m4 yr29 yr31 yr33 yr35 yr37 (decide (59 < yr37))
theorem j29_31_t (s0:Bs) (m4:Int)  (sl:Nat→AV) (zq0:sl 0 = .v (.c (.d (.sc (.string (S s0)))))) (zq4:sl 4 = .v (.c (.d (.sc (.int .i64 m4))))):
  bodyD (E0 mm) [.tmp 2,.tmp 3] 0 false (den (E0 mm) 29 0 (callW (E0 mm)) itW c29_31 none ⟨sl,[]⟩) = (j29_31 s0 m4).map e29:=by
 simp -implicitDefEqProofs only [j29_31,c29_31_e,c29_32_r,(show opsOf c29_32 = _ :: _ from rfl),ent49,prm49,f49_t,zq0,zq4,setA,setB,za,zb,zc,zd,ze,zf,zg,zh,zi,zj,zk,zl,zm,zn,zo,zp,reduceCtorEq,zE,↓reduceIte]
 refine brM (fun yc28=>?_) (fun yr29 yc28=>?_)
 ·rw [yc28]; rfl
 ·simp -implicitDefEqProofs only [e49,ent49,prm49,f49_t,zq0,zq4,yc28,setA,setB,za,zb,zc,zd,ze,zf,zg,zh,zi,zj,zk,zl,zm,zn,zo,zp,reduceCtorEq,zE,↓reduceIte]
  refine brM (fun yc30=>?_) (fun yr31 yc30=>?_)
  ·rw [yc30]; rfl
  ·simp -implicitDefEqProofs only [e49,c29_33_e,c29_34_r,(show opsOf c29_34 = _ :: _ from rfl),ent49,prm49,f49_t,zq0,zq4,yc28,yc30,setA,setB,za,zb,zc,zd,ze,zf,zg,zh,zi,zj,zk,zl,zm,zn,zo,zp,reduceCtorEq,zE,↓reduceIte]
   refine brM (fun yc32=>?_) (fun yr33 yc32=>?_)
   ·rw [yc32]; rfl
   ·simp -implicitDefEqProofs only [e49,ent49,prm49,f49_t,zq0,zq4,yc28,yc30,yc32,setA,setB,za,zb,zc,zd,ze,zf,zg,zh,zi,zj,zk,zl,zm,zn,zo,zp,reduceCtorEq,zE,↓reduceIte]
    refine brM (fun yc34=>?_) (fun yr35 yc34=>?_)
    ·rw [yc34]; rfl
    ·simp -implicitDefEqProofs only [e49,ent49,prm49,f49_t,zq0,zq4,yc28,yc30,yc32,yc34,setA,setB,za,zb,zc,zd,ze,zf,zg,zh,zi,zj,zk,zl,zm,zn,zo,zp,reduceCtorEq,zE,↓reduceIte]
     refine brM (fun yc36=>?_) (fun yr37 yc36=>?_)
     ·rw [yc36]; rfl
     ·simp -implicitDefEqProofs only [e49,c29_35_e,c29_36_e,c29_37_r,(show opsOf c29_37 = _ :: _ from rfl),zq0,zq4,yc28,yc30,yc32,yc34,yc36,setA,setB,za,zb,zc,zd,ze,zf,zg,zh,zi,zj,zk,zl,zm,zn,zo,zp,reduceCtorEq,zE,↓reduceIte]
      refine brB (fun yc38=>?_) (fun yc38=>?_)
      ·simp -implicitDefEqProofs only [zq0,zq4,yc28,yc30,yc32,yc34,yc36,yc38,setA,setB,za,zb,zc,zd,ze,zf,zg,zh,zi,zj,zk,zl,zm,zn,zo,zp,reduceCtorEq,zE,↓reduceIte]
       exact j29_38_t s0 m4 yr29 yr31 yr33 yr35 yr37 true _ (by exact zq0) (by exact zq4) (by rfl) (by rfl) (by rfl) (by rfl) (by rfl) (by rfl)
      ·simp -implicitDefEqProofs only [zq0,zq4,yc28,yc30,yc32,yc34,yc36,yc38,setA,setB,za,zb,zc,zd,ze,zf,zg,zh,zi,zj,zk,zl,zm,zn,zo,zp,reduceCtorEq,zE,↓reduceIte]
       refine brB (fun yc52=>?_) (fun yc52=>?_)
       ·simp -implicitDefEqProofs only [zq0,zq4,yc28,yc30,yc32,yc34,yc36,yc38,yc52,setA,setB,za,zb,zc,zd,ze,zf,zg,zh,zi,zj,zk,zl,zm,zn,zo,zp,reduceCtorEq,zE,↓reduceIte]
        exact j29_38_t s0 m4 yr29 yr31 yr33 yr35 yr37 true _ (by exact zq0) (by exact zq4) (by rfl) (by rfl) (by rfl) (by rfl) (by rfl) (by rfl)
       ·simp -implicitDefEqProofs only [zq0,zq4,yc28,yc30,yc32,yc34,yc36,yc38,yc52,setA,setB,za,zb,zc,zd,ze,zf,zg,zh,zi,zj,zk,zl,zm,zn,zo,zp,reduceCtorEq,zE,↓reduceIte]
        refine brB (fun yc53=>?_) (fun yc53=>?_)
        ·simp -implicitDefEqProofs only [zq0,zq4,yc28,yc30,yc32,yc34,yc36,yc38,yc52,yc53,setA,setB,za,zb,zc,zd,ze,zf,zg,zh,zi,zj,zk,zl,zm,zn,zo,zp,reduceCtorEq,zE,↓reduceIte]
         exact j29_38_t s0 m4 yr29 yr31 yr33 yr35 yr37 true _ (by exact zq0) (by exact zq4) (by rfl) (by rfl) (by rfl) (by rfl) (by rfl) (by rfl)
        ·simp -implicitDefEqProofs only [ent50,prm50,f50_t,zq0,zq4,yc28,yc30,yc32,yc34,yc36,yc38,yc52,yc53,setA,setB,za,zb,zc,zd,ze,zf,zg,zh,zi,zj,zk,zl,zm,zn,zo,zp,reduceCtorEq,zE,↓reduceIte]
         refine brM (fun yc54=>?_) (fun yr55 yc54=>?_)
         ·rw [yc54]; rfl
         ·simp -implicitDefEqProofs only [e50,zq0,zq4,yc28,yc30,yc32,yc34,yc36,yc38,yc52,yc53,yc54,setA,setB,za,zb,zc,zd,ze,zf,zg,zh,zi,zj,zk,zl,zm,zn,zo,zp,reduceCtorEq,zE,↓reduceIte]
          refine brB (fun yc56=>?_) (fun yc56=>?_)
          ·simp -implicitDefEqProofs only [zq0,zq4,yc28,yc30,yc32,yc34,yc36,yc38,yc52,yc53,yc54,yc56,setA,setB,za,zb,zc,zd,ze,zf,zg,zh,zi,zj,zk,zl,zm,zn,zo,zp,reduceCtorEq,zE,↓reduceIte]
           exact j29_38_t s0 m4 yr29 yr31 yr33 yr35 yr37 true _ (by exact zq0) (by exact zq4) (by rfl) (by rfl) (by rfl) (by rfl) (by rfl) (by rfl)
          ·simp -implicitDefEqProofs only [zq0,zq4,yc28,yc30,yc32,yc34,yc36,yc38,yc52,yc53,yc54,yc56,setA,setB,za,zb,zc,zd,ze,zf,zg,zh,zi,zj,zk,zl,zm,zn,zo,zp,reduceCtorEq,zE,↓reduceIte]
           refine brB (fun yc57=>?_) (fun yc57=>?_)
           ·simp -implicitDefEqProofs only [zq0,zq4,yc28,yc30,yc32,yc34,yc36,yc38,yc52,yc53,yc54,yc56,yc57,setA,setB,za,zb,zc,zd,ze,zf,zg,zh,zi,zj,zk,zl,zm,zn,zo,zp,reduceCtorEq,zE,↓reduceIte]
            exact j29_38_t s0 m4 yr29 yr31 yr33 yr35 yr37 true _ (by exact zq0) (by exact zq4) (by rfl) (by rfl) (by rfl) (by rfl) (by rfl) (by rfl)
           ·simp -implicitDefEqProofs only [zq0,zq4,yc28,yc30,yc32,yc34,yc36,yc38,yc52,yc53,yc54,yc56,yc57,setA,setB,za,zb,zc,zd,ze,zf,zg,zh,zi,zj,zk,zl,zm,zn,zo,zp,reduceCtorEq,zE,↓reduceIte]
            refine brB (fun yc58=>?_) (fun yc58=>?_)
            ·simp -implicitDefEqProofs only [zq0,zq4,yc28,yc30,yc32,yc34,yc36,yc38,yc52,yc53,yc54,yc56,yc57,yc58,setA,setB,za,zb,zc,zd,ze,zf,zg,zh,zi,zj,zk,zl,zm,zn,zo,zp,reduceCtorEq,zE,↓reduceIte]
             exact j29_38_t s0 m4 yr29 yr31 yr33 yr35 yr37 true _ (by exact zq0) (by exact zq4) (by rfl) (by rfl) (by rfl) (by rfl) (by rfl) (by rfl)
            ·simp -implicitDefEqProofs only [zq0,zq4,yc28,yc30,yc32,yc34,yc36,yc38,yc52,yc53,yc54,yc56,yc57,yc58,setA,setB,za,zb,zc,zd,ze,zf,zg,zh,zi,zj,zk,zl,zm,zn,zo,zp,reduceCtorEq,zE,↓reduceIte]
             refine brB (fun yc59=>?_) (fun yc59=>?_)
             ·simp -implicitDefEqProofs only [zq0,zq4,yc28,yc30,yc32,yc34,yc36,yc38,yc52,yc53,yc54,yc56,yc57,yc58,yc59,setA,setB,za,zb,zc,zd,ze,zf,zg,zh,zi,zj,zk,zl,zm,zn,zo,zp,reduceCtorEq,zE,↓reduceIte]
              exact j29_38_t s0 m4 yr29 yr31 yr33 yr35 yr37 true _ (by exact zq0) (by exact zq4) (by rfl) (by rfl) (by rfl) (by rfl) (by rfl) (by rfl)
             ·simp -implicitDefEqProofs only [zq0,zq4,yc28,yc30,yc32,yc34,yc36,yc38,yc52,yc53,yc54,yc56,yc57,yc58,yc59,setA,setB,za,zb,zc,zd,ze,zf,zg,zh,zi,zj,zk,zl,zm,zn,zo,zp,reduceCtorEq,zE,↓reduceIte]
              refine brB (fun yc60=>?_) (fun yc60=>?_)
              ·simp -implicitDefEqProofs only [zq0,zq4,yc28,yc30,yc32,yc34,yc36,yc38,yc52,yc53,yc54,yc56,yc57,yc58,yc59,yc60,setA,setB,za,zb,zc,zd,ze,zf,zg,zh,zi,zj,zk,zl,zm,zn,zo,zp,reduceCtorEq,zE,↓reduceIte]
               exact j29_38_t s0 m4 yr29 yr31 yr33 yr35 yr37 true _ (by exact zq0) (by exact zq4) (by rfl) (by rfl) (by rfl) (by rfl) (by rfl) (by rfl)
              ·simp -implicitDefEqProofs only [zq0,zq4,yc28,yc30,yc32,yc34,yc36,yc38,yc52,yc53,yc54,yc56,yc57,yc58,yc59,yc60,setA,setB,za,zb,zc,zd,ze,zf,zg,zh,zi,zj,zk,zl,zm,zn,zo,zp,reduceCtorEq,zE,↓reduceIte]
               refine brB (fun yc61=>?_) (fun yc61=>?_)
               ·simp -implicitDefEqProofs only [zq0,zq4,yc28,yc30,yc32,yc34,yc36,yc38,yc52,yc53,yc54,yc56,yc57,yc58,yc59,yc60,yc61,setA,setB,za,zb,zc,zd,ze,zf,zg,zh,zi,zj,zk,zl,zm,zn,zo,zp,reduceCtorEq,zE,↓reduceIte]
                exact j29_38_t s0 m4 yr29 yr31 yr33 yr35 yr37 true _ (by exact zq0) (by exact zq4) (by rfl) (by rfl) (by rfl) (by rfl) (by rfl) (by rfl)
               ·simp -implicitDefEqProofs only [zq0,zq4,yc28,yc30,yc32,yc34,yc36,yc38,yc52,yc53,yc54,yc56,yc57,yc58,yc59,yc60,yc61,setA,setB,za,zb,zc,zd,ze,zf,zg,zh,zi,zj,zk,zl,zm,zn,zo,zp,reduceCtorEq,zE,↓reduceIte]
                exact j29_38_t s0 m4 yr29 yr31 yr33 yr35 yr37 (decide (59 < yr37)) _ (by exact zq0) (by exact zq4) (by rfl) (by rfl) (by rfl) (by rfl) (by rfl) (by rfl)
def s29_16 (s0:Bs) (m4 i5:Int):Option ((Bs×Int×Int) ⊕ R29):=
 if (decide (i5 < 12)) = true then
  (m48 i5).bind fun yr22=>
   (bnd 11 s0.length).bind fun yk24=>
    (bnd 8 yk24).bind fun yk26=>
     if (yr22 == ((s0.take yk24).drop yk26)) = true then
      j29_30 s0 i5 i5
     else
      j29_30 s0 m4 i5
 else
  (j29_31 s0 m4).map .inr
theorem s29_16_t (s0:Bs) (m4 i5:Int):
  stepE (K29_16 (mm:=mm)) (loopF (E0 mm) 29 0 (callW (E0 mm)) itW c29_17 [(0,.keep),(4,.keep),(5,.keep)] (none,[.v (.c (.d (.sc (.string (S s0))))),.v (.c (.d (.sc (.int .i64 m4)))),.v (.c (.d (.sc (.int .i64 i5))))],[])) = (s29_16 s0 m4 i5).map (sm en29_16 e29):=by
 simp -implicitDefEqProofs only [s29_16,loopF_eq,c29_17_e,c29_18_e,c29_19_r,(show opsOf c29_19 = _ :: _ from rfl),(show c29_20 = Code.cond _ c29_21 c29_22 from rfl),setA,setB,za,zb,zc,zd,ze,zf,zg,zh,zi,zj,zk,zl,zm,zn,zo,zp,reduceCtorEq,zE,↓reduceIte]
 refine brB (fun yc20=>?_) (fun yc20=>?_)
 ·simp -implicitDefEqProofs only [c29_21_e,c29_23_e,c29_24_e,c29_25_e,c29_26_r,(show opsOf c29_26 = _ :: _ from rfl),ent48,prm48,f48_t,yc20,setA,setB,za,zb,zc,zd,ze,zf,zg,zh,zi,zj,zk,zl,zm,zn,zo,zp,reduceCtorEq,zE,↓reduceIte]
  refine brM (fun yc21=>?_) (fun yr22 yc21=>?_)
  ·rw [yc21]; rfl
  ·simp -implicitDefEqProofs only [e48,Tryz.underlying9,yc20,yc21,setA,setB,za,zb,zc,zd,ze,zf,zg,zh,zi,zj,zk,zl,zm,zn,zo,zp,reduceCtorEq,zE,↓reduceIte]
   refine brM (fun yc23=>?_) (fun yk24 yc23=>?_)
   ·rw [yc23]; rfl
   ·simp -implicitDefEqProofs only [yc20,yc21,yc23,setA,setB,za,zb,zc,zd,ze,zf,zg,zh,zi,zj,zk,zl,zm,zn,zo,zp,reduceCtorEq,zE,↓reduceIte]
    refine brM (fun yc25=>?_) (fun yk26 yc25=>?_)
    ·rw [yc25]; rfl
    ·simp -implicitDefEqProofs only [(show c29_27 = Code.cond _ c29_28 c29_29 from rfl),yc20,yc21,yc23,yc25,setA,setB,za,zb,zc,zd,ze,zf,zg,zh,zi,zj,zk,zl,zm,zn,zo,zp,reduceCtorEq,zE,↓reduceIte]
     refine brB (fun yc27=>?_) (fun yc27=>?_)
     ·simp -implicitDefEqProofs only [c29_28_r,(show opsOf c29_28 = _ :: _ from rfl),yc20,yc21,yc23,yc25,yc27,setA,setB,za,zb,zc,zd,ze,zf,zg,zh,zi,zj,zk,zl,zm,zn,zo,zp,reduceCtorEq,zE,↓reduceIte]
      exact j29_30_t s0 i5 i5 _ (by rfl) (by rfl) (by rfl)
     ·simp -implicitDefEqProofs only [c29_29_e,yc20,yc21,yc23,yc25,yc27,setA,setB,za,zb,zc,zd,ze,zf,zg,zh,zi,zj,zk,zl,zm,zn,zo,zp,reduceCtorEq,zE,↓reduceIte]
      exact j29_30_t s0 m4 i5 _ (by rfl) (by rfl) (by rfl)
 ·simp -implicitDefEqProofs only [c29_22_e,K29_16,yc20,setA,setB,za,zb,zc,zd,ze,zf,zg,zh,zi,zj,zk,zl,zm,zn,zo,zp,reduceCtorEq,zE,↓reduceIte]
  exact mi (j29_31_t s0 m4 _ (by rfl) (by rfl))
def l29_16 (s0:Bs) (m4 i5:Int):Option R29:=iter (fun x:(Bs×Int×Int)=>s29_16 x.1 x.2.1 x.2.2) (s0,m4,i5)
theorem l29_16_t (s0:Bs) (m4 i5:Int):bodyD (E0 mm) [.tmp 2,.tmp 3] 0 false (seqD (E0 mm) 29 0 (callW (E0 mm)) itW c29_31 (blockD 0 (itW (loopF (E0 mm) 29 0 (callW (E0 mm)) itW c29_17 [(0,.keep),(4,.keep),(5,.keep)]) (none,[.v (.c (.d (.sc (.string (S s0))))),.v (.c (.d (.sc (.int .i64 m4)))),.v (.c (.d (.sc (.int .i64 i5))))],[])))) = (l29_16 s0 m4 i5).map e29:=
 it_sim (K:=(K29_16 (mm:=mm))) rfl (enc:=en29_16) (fun x=>s29_16_t x.1 x.2.1 x.2.2) (s0,m4,i5)
def j29_5 (s0:Bs) (t51:Bool):Option R29:=
 if t51 = true then
  some ((0:Int),(5:Int))
 else
  l29_16 s0 (-1:Int) (0:Int)
theorem j29_5_t (s0:Bs) (t51:Bool)  (sl:Nat→AV) (zq0:sl 0 = .v (.c (.d (.sc (.string (S s0)))))) (zq51:sl 51 = .v (.c (.d (.sc (.bool t51))))):
  bodyD (E0 mm) [.tmp 2,.tmp 3] 0 false (seqD (E0 mm) 29 0 (callW (E0 mm)) itW c29_10 (den (E0 mm) 29 0 (callW (E0 mm)) itW c29_5 none ⟨sl,[]⟩)) = (j29_5 s0 t51).map e29:=by
 simp -implicitDefEqProofs only [j29_5,(show c29_5 = Code.cond _ c29_6 c29_9 from rfl),zq0,zq51,setA,setB,za,zb,zc,zd,ze,zf,zg,zh,zi,zj,zk,zl,zm,zn,zo,zp,reduceCtorEq,zE,↓reduceIte]
 refine brB (fun yc19=>?_) (fun yc19=>?_)
 ·simp -implicitDefEqProofs only [c29_6_e,c29_7_r,(show opsOf c29_7 = _ :: _ from rfl),c29_8_e,zq0,zq51,yc19,setA,setB,za,zb,zc,zd,ze,zf,zg,zh,zi,zj,zk,zl,zm,zn,zo,zp,reduceCtorEq,zE,↓reduceIte]
  all_goals rfl
 ·simp -implicitDefEqProofs only [c29_9_e,c29_10_e,c29_11_r,(show opsOf c29_11 = _ :: _ from rfl),c29_12_e,c29_13_e,c29_14_r,(show opsOf c29_14 = _ :: _ from rfl),c29_15_e,c29_16_l,zq0,zq51,yc19,setA,setB,za,zb,zc,zd,ze,zf,zg,zh,zi,zj,zk,zl,zm,zn,zo,zp,reduceCtorEq,zE,↓reduceIte]
  exact l29_16_t s0 (-1:Int) (0:Int)
def m29 (s:Bs):Option R29:=
 if ((s.length:Int) == 29) = true then
  (bnd 5 s.length).bind fun yk3=>
   (bnd 3 yk3).bind fun yk5=>
    if (((s.take yk3).drop yk5) == ([44,32]:Bs)) = true then
     if (7:Int) < (s.length:Int) then
      if ((s.getD 7 0) == (32:UInt8)) = true then
       if (11:Int) < (s.length:Int) then
        if ((s.getD 11 0) == (32:UInt8)) = true then
         if (16:Int) < (s.length:Int) then
          if ((s.getD 16 0) == (32:UInt8)) = true then
           if (19:Int) < (s.length:Int) then
            if ((s.getD 19 0) == (58:UInt8)) = true then
             if (22:Int) < (s.length:Int) then
              if ((s.getD 22 0) == (58:UInt8)) = true then
               (bnd 25 s.length).bind fun yk18=>
                j29_5 s (!((s.drop yk18) == ([32,71,77,84]:Bs)))
              else
               j29_5 s true
             else none
            else
             j29_5 s true
           else none
          else
           j29_5 s true
         else none
        else
         j29_5 s true
       else none
      else
       j29_5 s true
     else none
    else
     j29_5 s true
 else
  j29_5 s true
theorem f29_t (s:Bs):
  callW (E0 mm) 29 [.c (.d (.sc (.string (S s))))] [] = (m29 s).map e29:=by
 rw [callW_run (body:=c29_0) (res:=[.tmp 2,.tmp 3]) Tryz.func29 rfl rfl (by kernel_rfl)]
 simp -implicitDefEqProofs only [m29,slots1,c29_0_e,c29_1_r,(show opsOf c29_1 = _ :: _ from rfl),c29_2_e,c29_3_e,c29_4_r,(show opsOf c29_4 = _ :: _ from rfl),Tryz.underlying9,setA,setB,za,zb,zc,zd,ze,zf,zg,zh,zi,zj,zk,zl,zm,zn,zo,zp,reduceCtorEq,zE,↓reduceIte]
 refine brB (fun yc1=>?_) (fun yc1=>?_)
 ·simp -implicitDefEqProofs only [Tryz.underlying9,yc1,setA,setB,za,zb,zc,zd,ze,zf,zg,zh,zi,zj,zk,zl,zm,zn,zo,zp,reduceCtorEq,zE,↓reduceIte]
  refine brM (fun yc2=>?_) (fun yk3 yc2=>?_)
  ·rw [yc2]; rfl
  ·simp -implicitDefEqProofs only [yc1,yc2,setA,setB,za,zb,zc,zd,ze,zf,zg,zh,zi,zj,zk,zl,zm,zn,zo,zp,reduceCtorEq,zE,↓reduceIte]
   refine brM (fun yc4=>?_) (fun yk5 yc4=>?_)
   ·rw [yc4]; rfl
   ·simp -implicitDefEqProofs only [yc1,yc2,yc4,setA,setB,za,zb,zc,zd,ze,zf,zg,zh,zi,zj,zk,zl,zm,zn,zo,zp,reduceCtorEq,zE,↓reduceIte]
    refine brB (fun yc6=>?_) (fun yc6=>?_)
    ·simp -implicitDefEqProofs only [Tryz.underlying9,yc1,yc2,yc4,yc6,setA,setB,za,zb,zc,zd,ze,zf,zg,zh,zi,zj,zk,zl,zm,zn,zo,zp,reduceCtorEq,zE,↓reduceIte]
     refine brP (fun yc7=>?_) (fun yc7=>?_)
     ·simp -implicitDefEqProofs only [yc1,yc2,yc4,yc6,yc7,setA,setB,za,zb,zc,zd,ze,zf,zg,zh,zi,zj,zk,zl,zm,zn,zo,zp,reduceCtorEq,zE,↓reduceIte]
      refine brB (fun yc8=>?_) (fun yc8=>?_)
      ·simp -implicitDefEqProofs only [Tryz.underlying9,yc1,yc2,yc4,yc6,yc7,yc8,setA,setB,za,zb,zc,zd,ze,zf,zg,zh,zi,zj,zk,zl,zm,zn,zo,zp,reduceCtorEq,zE,↓reduceIte]
       refine brP (fun yc9=>?_) (fun yc9=>?_)
       ·simp -implicitDefEqProofs only [yc1,yc2,yc4,yc6,yc7,yc8,yc9,setA,setB,za,zb,zc,zd,ze,zf,zg,zh,zi,zj,zk,zl,zm,zn,zo,zp,reduceCtorEq,zE,↓reduceIte]
        refine brB (fun yc10=>?_) (fun yc10=>?_)
        ·simp -implicitDefEqProofs only [Tryz.underlying9,yc1,yc2,yc4,yc6,yc7,yc8,yc9,yc10,setA,setB,za,zb,zc,zd,ze,zf,zg,zh,zi,zj,zk,zl,zm,zn,zo,zp,reduceCtorEq,zE,↓reduceIte]
         refine brP (fun yc11=>?_) (fun yc11=>?_)
         ·simp -implicitDefEqProofs only [yc1,yc2,yc4,yc6,yc7,yc8,yc9,yc10,yc11,setA,setB,za,zb,zc,zd,ze,zf,zg,zh,zi,zj,zk,zl,zm,zn,zo,zp,reduceCtorEq,zE,↓reduceIte]
          refine brB (fun yc12=>?_) (fun yc12=>?_)
          ·simp -implicitDefEqProofs only [Tryz.underlying9,yc1,yc2,yc4,yc6,yc7,yc8,yc9,yc10,yc11,yc12,setA,setB,za,zb,zc,zd,ze,zf,zg,zh,zi,zj,zk,zl,zm,zn,zo,zp,reduceCtorEq,zE,↓reduceIte]
           refine brP (fun yc13=>?_) (fun yc13=>?_)
           ·simp -implicitDefEqProofs only [yc1,yc2,yc4,yc6,yc7,yc8,yc9,yc10,yc11,yc12,yc13,setA,setB,za,zb,zc,zd,ze,zf,zg,zh,zi,zj,zk,zl,zm,zn,zo,zp,reduceCtorEq,zE,↓reduceIte]
            refine brB (fun yc14=>?_) (fun yc14=>?_)
            ·simp -implicitDefEqProofs only [Tryz.underlying9,yc1,yc2,yc4,yc6,yc7,yc8,yc9,yc10,yc11,yc12,yc13,yc14,setA,setB,za,zb,zc,zd,ze,zf,zg,zh,zi,zj,zk,zl,zm,zn,zo,zp,reduceCtorEq,zE,↓reduceIte]
             refine brP (fun yc15=>?_) (fun yc15=>?_)
             ·simp -implicitDefEqProofs only [yc1,yc2,yc4,yc6,yc7,yc8,yc9,yc10,yc11,yc12,yc13,yc14,yc15,setA,setB,za,zb,zc,zd,ze,zf,zg,zh,zi,zj,zk,zl,zm,zn,zo,zp,reduceCtorEq,zE,↓reduceIte]
              refine brB (fun yc16=>?_) (fun yc16=>?_)
              ·simp -implicitDefEqProofs only [Tryz.underlying9,yc1,yc2,yc4,yc6,yc7,yc8,yc9,yc10,yc11,yc12,yc13,yc14,yc15,yc16,setA,setB,za,zb,zc,zd,ze,zf,zg,zh,zi,zj,zk,zl,zm,zn,zo,zp,reduceCtorEq,zE,↓reduceIte]
               refine brM (fun yc17=>?_) (fun yk18 yc17=>?_)
               ·rw [yc17]; rfl
               ·simp -implicitDefEqProofs only [yc1,yc2,yc4,yc6,yc7,yc8,yc9,yc10,yc11,yc12,yc13,yc14,yc15,yc16,yc17,setA,setB,za,zb,zc,zd,ze,zf,zg,zh,zi,zj,zk,zl,zm,zn,zo,zp,reduceCtorEq,zE,↓reduceIte]
                exact j29_5_t s (!((s.drop yk18) == ([32,71,77,84]:Bs))) _ (by rfl) (by rfl)
              ·simp -implicitDefEqProofs only [yc1,yc2,yc4,yc6,yc7,yc8,yc9,yc10,yc11,yc12,yc13,yc14,yc15,yc16,setA,setB,za,zb,zc,zd,ze,zf,zg,zh,zi,zj,zk,zl,zm,zn,zo,zp,reduceCtorEq,zE,↓reduceIte]
               exact j29_5_t s true _ (by rfl) (by rfl)
             ·rw [if_neg yc15]; rfl
            ·simp -implicitDefEqProofs only [yc1,yc2,yc4,yc6,yc7,yc8,yc9,yc10,yc11,yc12,yc13,yc14,setA,setB,za,zb,zc,zd,ze,zf,zg,zh,zi,zj,zk,zl,zm,zn,zo,zp,reduceCtorEq,zE,↓reduceIte]
             exact j29_5_t s true _ (by rfl) (by rfl)
           ·rw [if_neg yc13]; rfl
          ·simp -implicitDefEqProofs only [yc1,yc2,yc4,yc6,yc7,yc8,yc9,yc10,yc11,yc12,setA,setB,za,zb,zc,zd,ze,zf,zg,zh,zi,zj,zk,zl,zm,zn,zo,zp,reduceCtorEq,zE,↓reduceIte]
           exact j29_5_t s true _ (by rfl) (by rfl)
         ·rw [if_neg yc11]; rfl
        ·simp -implicitDefEqProofs only [yc1,yc2,yc4,yc6,yc7,yc8,yc9,yc10,setA,setB,za,zb,zc,zd,ze,zf,zg,zh,zi,zj,zk,zl,zm,zn,zo,zp,reduceCtorEq,zE,↓reduceIte]
         exact j29_5_t s true _ (by rfl) (by rfl)
       ·rw [if_neg yc9]; rfl
      ·simp -implicitDefEqProofs only [yc1,yc2,yc4,yc6,yc7,yc8,setA,setB,za,zb,zc,zd,ze,zf,zg,zh,zi,zj,zk,zl,zm,zn,zo,zp,reduceCtorEq,zE,↓reduceIte]
       exact j29_5_t s true _ (by rfl) (by rfl)
     ·rw [if_neg yc7]; rfl
    ·simp -implicitDefEqProofs only [yc1,yc2,yc4,yc6,setA,setB,za,zb,zc,zd,ze,zf,zg,zh,zi,zj,zk,zl,zm,zn,zo,zp,reduceCtorEq,zE,↓reduceIte]
     exact j29_5_t s true _ (by rfl) (by rfl)
 ·simp -implicitDefEqProofs only [yc1,setA,setB,za,zb,zc,zd,ze,zf,zg,zh,zi,zj,zk,zl,zm,zn,zo,zp,reduceCtorEq,zE,↓reduceIte]
  exact j29_5_t s true _ (by rfl) (by rfl)
noncomputable def c14_0:Code:=bodyOf Tryz.f14
def c14_1:=cA c14_0
def c14_2:=cB c14_0
def c14_3:=cA c14_2
def c14_4:=cB c14_2
def c14_5:=cA c14_4
def c14_6:=cA c14_5
def c14_7:=cB c14_5
def c14_8:=cA c14_7
def c14_9:=cA c14_8
def c14_10:=cB c14_8
def c14_11:=cB c14_7
def c14_12:=cB c14_4
def c14_13:=cA c14_12
def c14_14:=cB c14_12
def c14_15:=cA c14_14
def c14_16:=cA c14_15
def c14_17:=cB c14_15
def c14_18:=cA c14_17
def c14_19:=cA c14_18
def c14_20:=cB c14_18
def c14_21:=cB c14_17
def c14_22:=cB c14_14
def c14_23:=cA c14_22
def c14_24:=cB c14_22
theorem c14_0_e:c14_0 = .seq c14_1 c14_2:=rfl
theorem c14_1_r:RG (E0 mm) 14 c14_1:=rgN rfl
theorem c14_2_e:c14_2 = .seq c14_3 c14_4:=rfl
theorem c14_3_r:RG (E0 mm) 14 c14_3:=rgN rfl
theorem c14_4_e:c14_4 = .seq c14_5 c14_12:=rfl
theorem c14_5_e:c14_5 = .seq c14_6 c14_7:=rfl
theorem c14_6_r:RG (E0 mm) 14 c14_6:=rgN rfl
theorem c14_8_e:c14_8 = .seq c14_9 c14_10:=rfl
theorem c14_9_r:RG (E0 mm) 14 c14_9:=rgN rfl
theorem c14_10_e:c14_10 = .ret:=rfl
theorem c14_11_e:c14_11 = .skip:=rfl
theorem c14_12_e:c14_12 = .seq c14_13 c14_14:=rfl
theorem c14_13_r:RG (E0 mm) 14 c14_13:=rgN rfl
theorem c14_14_e:c14_14 = .seq c14_15 c14_22:=rfl
theorem c14_15_e:c14_15 = .seq c14_16 c14_17:=rfl
theorem c14_16_r:RG (E0 mm) 14 c14_16:=rgN rfl
theorem c14_18_e:c14_18 = .seq c14_19 c14_20:=rfl
theorem c14_19_r:RG (E0 mm) 14 c14_19:=rgN rfl
theorem c14_20_e:c14_20 = .ret:=rfl
theorem c14_21_e:c14_21 = .skip:=rfl
theorem c14_22_e:c14_22 = .seq c14_23 c14_24:=rfl
theorem c14_23_r:RG (E0 mm) 14 c14_23:=rgN rfl
theorem c14_24_e:c14_24 = .ret:=rfl
abbrev R14:=(Int×Bool)
def e14:R14→AV×Heap:=fun x=>(.tup [.c (.d (.sc (.int .u64 x.1))),.c (.d (.sc (.bool x.2)))],[])
def m14 (r0_0:Int) (r0_1:Bs) (r0_2:Int) (r0_3:Bool) (r0_4:List (Bs×Bs)) (r0_5:Bool) (r0_6:List UInt8) (name:Bs):Option R14:=
 (m21 r0_0 r0_1 r0_2 r0_3 r0_4 r0_5 r0_6 name).bind fun yr2=>
  if ((yr2.2.length:Int) == 1) = true then
   if (0:Int) < (yr2.2.length:Int) then
    (m29 (yr2.2.getD 0 default)).bind fun yr7=>
     if (yr7.2 == 0) = true then
      some (yr7.1,true)
     else
      some ((0:Int),false)
   else none
  else
   some ((0:Int),false)
theorem f14_t (r0_0:Int) (r0_1:Bs) (r0_2:Int) (r0_3:Bool) (r0_4:List (Bs×Bs)) (r0_5:Bool) (r0_6:List UInt8) (name:Bs):
  callW (E0 mm) 14 [.agg [.d (.sc (.int .i64 r0_0)),.d (.sc (.string (S r0_1))),.d (.sc (.int .i64 r0_2)),.d (.lst r0_3 (enL enSS r0_4)),.d (.lst r0_5 (enL enB r0_6))],.c (.d (.sc (.string (S name))))] [] = (m14 r0_0 r0_1 r0_2 r0_3 r0_4 r0_5 r0_6 name).map e14:=by
 rw [callW_run (body:=c14_0) (res:=[.tmp 4,.tmp 5]) Tryz.func14 rfl rfl (by kernel_rfl)]
 simp -implicitDefEqProofs only [m14,slots2,c14_0_e,c14_1_r,(show opsOf c14_1 = _ :: _ from rfl),c14_2_e,c14_3_r,(show opsOf c14_3 = _ :: _ from rfl),sz26,ag26,ent21,prm21,f21_t,setA,setB,za,zb,zc,zd,ze,zf,zg,zh,zi,zj,zk,zl,zm,zn,zo,zp,reduceCtorEq,zE,↓reduceIte]
 refine brM (fun yc1=>?_) (fun yr2 yc1=>?_)
 ·rw [yc1]; rfl
 ·simp -implicitDefEqProofs only [e21,c14_4_e,c14_5_e,c14_6_r,(show opsOf c14_6 = _ :: _ from rfl),Tryz.underlying40,(show c14_7 = Code.cond _ c14_8 c14_11 from rfl),yc1,setA,setB,za,zb,zc,zd,ze,zf,zg,zh,zi,zj,zk,zl,zm,zn,zo,zp,reduceCtorEq,zE,↓reduceIte]
  refine brB (fun yc3=>?_) (fun yc3=>?_)
  ·simp -implicitDefEqProofs only [c14_11_e,c14_12_e,c14_13_r,(show opsOf c14_13 = _ :: _ from rfl),Tryz.underlying40,sz9,enS_a,yc1,yc3,setA,setB,za,zb,zc,zd,ze,zf,zg,zh,zi,zj,zk,zl,zm,zn,zo,zp,reduceCtorEq,zE,↓reduceIte]
   refine brP (fun yc4=>?_) (fun yc4=>?_)
   ·have yd5:0 < yr2.2.length:=by omega
    simp -implicitDefEqProofs only [(enL_get enS yr2.2 0 yd5),enS_e,sz9,ag9,ent29,prm29,f29_t,yc1,yc3,yc4,yd5,setA,setB,za,zb,zc,zd,ze,zf,zg,zh,zi,zj,zk,zl,zm,zn,zo,zp,reduceCtorEq,zE,↓reduceIte]
    refine brM (fun yc6=>?_) (fun yr7 yc6=>?_)
    ·rw [yc6]; rfl
    ·simp -implicitDefEqProofs only [e29,c14_14_e,c14_15_e,c14_16_r,(show opsOf c14_16 = _ :: _ from rfl),(show c14_17 = Code.cond _ c14_18 c14_21 from rfl),yc1,yc3,yc4,yd5,yc6,setA,setB,za,zb,zc,zd,ze,zf,zg,zh,zi,zj,zk,zl,zm,zn,zo,zp,reduceCtorEq,zE,↓reduceIte]
     refine brB (fun yc8=>?_) (fun yc8=>?_)
     ·simp -implicitDefEqProofs only [c14_21_e,c14_22_e,c14_23_r,(show opsOf c14_23 = _ :: _ from rfl),c14_24_e,yc1,yc3,yc4,yd5,yc6,yc8,setA,setB,za,zb,zc,zd,ze,zf,zg,zh,zi,zj,zk,zl,zm,zn,zo,zp,reduceCtorEq,zE,↓reduceIte]
      all_goals rfl
     ·simp -implicitDefEqProofs only [c14_18_e,c14_19_r,(show opsOf c14_19 = _ :: _ from rfl),c14_20_e,yc1,yc3,yc4,yd5,yc6,yc8,setA,setB,za,zb,zc,zd,ze,zf,zg,zh,zi,zj,zk,zl,zm,zn,zo,zp,reduceCtorEq,zE,↓reduceIte]
      all_goals rfl
   ·rw [if_neg yc4]; rfl
  ·simp -implicitDefEqProofs only [c14_8_e,c14_9_r,(show opsOf c14_9 = _ :: _ from rfl),c14_10_e,yc1,yc3,setA,setB,za,zb,zc,zd,ze,zf,zg,zh,zi,zj,zk,zl,zm,zn,zo,zp,reduceCtorEq,zE,↓reduceIte]
   all_goals rfl
noncomputable def c5_0:Code:=bodyOf Tryz.f5
def c5_1:=cA c5_0
def c5_2:=cB c5_0
def c5_3:=cA c5_2
def c5_4:=cB c5_2
theorem c5_0_e:c5_0 = .seq c5_1 c5_2:=rfl
theorem c5_1_r:RG (E0 mm) 5 c5_1:=rgN rfl
theorem c5_2_e:c5_2 = .seq c5_3 c5_4:=rfl
theorem c5_3_r:RG (E0 mm) 5 c5_3:=rgN rfl
theorem c5_4_e:c5_4 = .ret:=rfl
abbrev R5:=(Int×Bool)
def e5:R5→AV×Heap:=fun x=>(.tup [.c (.d (.sc (.int .u64 x.1))),.c (.d (.sc (.bool x.2)))],[])
def m5 (r0_0:Int) (r0_1:Bs) (r0_2:Int) (r0_3:Bool) (r0_4:List (Bs×Bs)) (r0_5:Bool) (r0_6:List UInt8):Option R5:=
 (m14 r0_0 r0_1 r0_2 r0_3 r0_4 r0_5 r0_6 ([100,97,116,101]:Bs)).bind fun yr2=>
  some (yr2.1,yr2.2)
theorem f5_t (r0_0:Int) (r0_1:Bs) (r0_2:Int) (r0_3:Bool) (r0_4:List (Bs×Bs)) (r0_5:Bool) (r0_6:List UInt8):
  callW (E0 mm) 5 [.agg [.d (.sc (.int .i64 r0_0)),.d (.sc (.string (S r0_1))),.d (.sc (.int .i64 r0_2)),.d (.lst r0_3 (enL enSS r0_4)),.d (.lst r0_5 (enL enB r0_6))]] [] = (m5 r0_0 r0_1 r0_2 r0_3 r0_4 r0_5 r0_6).map e5:=by
 rw [callW_run (body:=c5_0) (res:=[.tmp 2,.tmp 3]) Tryz.func5 rfl rfl (by kernel_rfl)]
 simp -implicitDefEqProofs only [m5,slots1,c5_0_e,c5_1_r,(show opsOf c5_1 = _ :: _ from rfl),c5_2_e,c5_3_r,(show opsOf c5_3 = _ :: _ from rfl),sz26,ag26,ent14,prm14,(show callW (E0 mm) 14 [.agg [.d (.sc (.int .i64 r0_0)),.d (.sc (.string (S r0_1))),.d (.sc (.int .i64 r0_2)),.d (.lst r0_3 (enL enSS r0_4)),.d (.lst r0_5 (enL enB r0_6))],.c (.d (.sc (.string (S ([100,97,116,101]:Bs)))))] [] = _ from f14_t r0_0 r0_1 r0_2 r0_3 r0_4 r0_5 r0_6 ([100,97,116,101]:Bs)),setA,setB,za,zb,zc,zd,ze,zf,zg,zh,zi,zj,zk,zl,zm,zn,zo,zp,reduceCtorEq,zE,↓reduceIte]
 refine brM (fun yc1=>?_) (fun yr2 yc1=>?_)
 ·rw [yc1]; rfl
 ·simp -implicitDefEqProofs only [e14,c5_4_e,yc1,setA,setB,za,zb,zc,zd,ze,zf,zg,zh,zi,zj,zk,zl,zm,zn,zo,zp,reduceCtorEq,zE,↓reduceIte]
  all_goals rfl
noncomputable def c83_0:Code:=bodyOf Tryz.f83
def c83_1:=cA c83_0
def c83_2:=cB c83_0
def c83_3:=cA c83_2
def c83_4:=cB c83_2
theorem c83_0_e:c83_0 = .seq c83_1 c83_2:=rfl
theorem c83_1_r:RG (E0 mm) 83 c83_1:=rgN rfl
theorem c83_2_e:c83_2 = .seq c83_3 c83_4:=rfl
theorem c83_3_r:RG (E0 mm) 83 c83_3:=rgN rfl
theorem c83_4_e:c83_4 = .ret:=rfl
abbrev R83:=(Bs)
def e83:R83→AV×Heap:=fun x=>(.v (.c (.d (.sc (.string (S x))))),[])
def m83 (s:Bs):Option R83:=
 (mTrim s ([32,9]:Bs)).bind fun yr2=>
  some yr2
theorem f83_t (s:Bs):
  callW (E0 mm) 83 [.c (.d (.sc (.string (S s))))] [] = (m83 s).map e83:=by
 rw [callW_run (body:=c83_0) (res:=[.tmp 2]) Tryz.func83 rfl rfl (by kernel_rfl)]
 simp -implicitDefEqProofs only [m83,slots1,c83_0_e,c83_1_r,(show opsOf c83_1 = _ :: _ from rfl),c83_2_e,c83_3_r,(show opsOf c83_3 = _ :: _ from rfl),ent91,prm91,pTrim_t,setA,setB,za,zb,zc,zd,ze,zf,zg,zh,zi,zj,zk,zl,zm,zn,zo,zp,reduceCtorEq,zE,↓reduceIte]
 refine brM (fun yc1=>?_) (fun yr2 yc1=>?_)
 ·rw [yc1]; rfl
 ·simp -implicitDefEqProofs only [pTrim_t,c83_4_e,yc1,setA,setB,za,zb,zc,zd,ze,zf,zg,zh,zi,zj,zk,zl,zm,zn,zo,zp,reduceCtorEq,zE,↓reduceIte]
  all_goals rfl
noncomputable def c82_0:Code:=bodyOf Tryz.f82
def c82_1:=cA c82_0
def c82_2:=cA c82_1
def c82_3:=cB c82_1
def c82_4:=cA c82_3
def c82_5:=cB c82_3
def c82_6:=cA c82_5
def c82_7:=cB c82_5
def c82_8:=cB c82_0
theorem c82_0_e:c82_0 = .seq c82_1 c82_8:=rfl
theorem c82_1_e:c82_1 = .seq c82_2 c82_3:=rfl
theorem c82_2_r:RG (E0 mm) 82 c82_2:=rgN rfl
theorem c82_3_e:c82_3 = .seq c82_4 c82_5:=rfl
theorem c82_4_r:RG (E0 mm) 82 c82_4:=rgN rfl
theorem c82_6_r:RG (E0 mm) 82 c82_6:=rgN rfl
theorem c82_7_e:c82_7 = .skip:=rfl
theorem c82_8_r:RG (E0 mm) 82 c82_8:=rgN rfl
abbrev R82:=(Bs×Int×Bool×List Bs)
def e82:R82→AV×Heap:=fun x=>(.tup [],[.cells [.d (.sc (.string (S x.1)))],.cells [.d (.sc (.int .i64 x.2.1))],.cells [.own x.2.2.1 (enL enS x.2.2.2) 3],.row x.2.2.2.length (rz x.2.2.1 1)])
def j82_8 (to0:Int) (h0_0:Bs) (h1_0:Int) (h2_0_0:Bool) (h2_0_1:List Bs):Option R82:=
 some (h0_0,(w64 (to0 + 1)),h2_0_0,h2_0_1)
theorem j82_8_t (to0:Int) (h0_0:Bs) (h1_0:Int) (h2_0_0:Bool) (h2_0_1:List Bs)  (sl:Nat→AV) (zq0:sl 0 = .v (.c (.d (.sc (.int .i64 to0))))) (zq2:sl 2 = .v (.c (.ptr 1 0))):
  bodyD (E0 mm) [] 4 false (den (E0 mm) 82 4 (callW (E0 mm)) itW c82_8 none ⟨sl,[.cells [.d (.sc (.string (S h0_0)))],.cells [.d (.sc (.int .i64 h1_0))],.cells [.own h2_0_0 (enL enS h2_0_1) 3],.row h2_0_1.length (rz h2_0_0 1)]⟩) = (j82_8 to0 h0_0 h1_0 h2_0_0 h2_0_1).map e82:=by
 simp -implicitDefEqProofs only [j82_8,c82_8_r,(show opsOf c82_8 = _ :: _ from rfl),sz3,zq0,zq2,setA,setB,za,zb,zc,zd,ze,zf,zg,zh,zi,zj,zk,zl,zm,zn,zo,zp,reduceCtorEq,zE,↓reduceIte]
 all_goals rfl
def m82 (to:Int) (h0_0:Bs) (h1_0:Int) (h2_0_0:Bool) (h2_0_1:List Bs):Option R82:=
 (bnd to h0_0.length).bind fun yk2=>
  (bnd h1_0 yk2).bind fun yk4=>
   (m83 ((h0_0.take yk2).drop yk4)).bind fun yr6=>
    if (yr6 == ([]:Bs)) = true then
     j82_8 to h0_0 h1_0 h2_0_0 h2_0_1
    else
     if (h2_0_1.length + 1) * 16≤140737488355328 then
      j82_8 to h0_0 h1_0 false (h2_0_1 ++ ([yr6]:List Bs))
     else none
theorem f82_t (to:Int) (h0_0:Bs) (h1_0:Int) (h2_0_0:Bool) (h2_0_1:List Bs):
  callW (E0 mm) 82 [.c (.d (.sc (.int .i64 to))),.c (.ptr 0 0),.c (.ptr 1 0),.c (.ptr 2 0)] [.cells [.d (.sc (.string (S h0_0)))],.cells [.d (.sc (.int .i64 h1_0))],.cells [.own h2_0_0 (enL enS h2_0_1) 3],.row h2_0_1.length (rz h2_0_0 1)] = (m82 to h0_0 h1_0 h2_0_0 h2_0_1).map e82:=by
 rw [callW_run (body:=c82_0) (res:=[]) Tryz.func82 rfl rfl (by kernel_rfl)]
 simp -implicitDefEqProofs only [m82,slots4,c82_0_e,c82_1_e,c82_2_r,(show opsOf c82_2 = _ :: _ from rfl),sz9,ag9,sz3,ag3,Tryz.underlying9,setA,setB,za,zb,zc,zd,ze,zf,zg,zh,zi,zj,zk,zl,zm,zn,zo,zp,reduceCtorEq,zE,↓reduceIte]
 refine brM (fun yc1=>?_) (fun yk2 yc1=>?_)
 ·rw [yc1]; rfl
 ·simp -implicitDefEqProofs only [yc1,setA,setB,za,zb,zc,zd,ze,zf,zg,zh,zi,zj,zk,zl,zm,zn,zo,zp,reduceCtorEq,zE,↓reduceIte]
  refine brM (fun yc3=>?_) (fun yk4 yc3=>?_)
  ·rw [yc3]; rfl
  ·simp -implicitDefEqProofs only [ent83,prm83,f83_t,yc1,yc3,setA,setB,za,zb,zc,zd,ze,zf,zg,zh,zi,zj,zk,zl,zm,zn,zo,zp,reduceCtorEq,zE,↓reduceIte]
   refine brM (fun yc5=>?_) (fun yr6 yc5=>?_)
   ·rw [yc5]; rfl
   ·simp -implicitDefEqProofs only [e83,c82_3_e,c82_4_r,(show opsOf c82_4 = _ :: _ from rfl),(show c82_5 = Code.cond _ c82_6 c82_7 from rfl),yc1,yc3,yc5,setA,setB,za,zb,zc,zd,ze,zf,zg,zh,zi,zj,zk,zl,zm,zn,zo,zp,reduceCtorEq,zE,↓reduceIte]
    refine brB (fun yc7=>?_) (fun yc7=>?_)
    ·simp -implicitDefEqProofs only [c82_7_e,yc1,yc3,yc5,yc7,setA,setB,za,zb,zc,zd,ze,zf,zg,zh,zi,zj,zk,zl,zm,zn,zo,zp,reduceCtorEq,zE,↓reduceIte]
     exact j82_8_t to h0_0 h1_0 h2_0_0 h2_0_1 _ (by rfl) (by rfl)
    ·simp -implicitDefEqProofs only [c82_6_r,(show opsOf c82_6 = _ :: _ from rfl),sz40,ag40,Tryz.underlying40,sz9,zc9,hd32,nv33,rw34,ns5,ap40,yc1,yc3,yc5,yc7,setA,setB,za,zb,zc,zd,ze,zf,zg,zh,zi,zj,zk,zl,zm,zn,zo,zp,reduceCtorEq,zE,↓reduceIte]
     refine brP (fun yc8=>?_) (fun yc8=>?_)
     ·simp -implicitDefEqProofs only [sz40,yc1,yc3,yc5,yc7,yc8,setA,setB,za,zb,zc,zd,ze,zf,zg,zh,zi,zj,zk,zl,zm,zn,zo,zp,reduceCtorEq,zE,↓reduceIte]
      exact j82_8_t to h0_0 h1_0 false (h2_0_1 ++ ([yr6]:List Bs)) _ (by rfl) (by rfl)
     ·rw [if_neg yc8]; rfl
noncomputable def c69_0:Code:=bodyOf Tryz.f69
def c69_1:=cA c69_0
def c69_2:=cB c69_0
def c69_3:=cA c69_2
def c69_4:=cB c69_2
def c69_5:=cA c69_4
def c69_6:=cB c69_4
def c69_7:=cA c69_6
def c69_8:=cB c69_6
def c69_9:=cA c69_8
def c69_10:=cA c69_9
def c69_11:=cB c69_9
def c69_12:=cA c69_11
def c69_13:=cA c69_12
def c69_14:=cA c69_13
def c69_15:=cB c69_13
def c69_16:=cA c69_15
def c69_17:=cA c69_16
def c69_18:=cB c69_16
def c69_19:=cB c69_15
def c69_20:=cA c69_19
def c69_21:=cA c69_20
def c69_22:=cB c69_20
def c69_23:=cA c69_22
def c69_24:=cA c69_23
def c69_25:=cB c69_23
def c69_26:=cA c69_25
def c69_27:=cB c69_25
def c69_28:=cA c69_27
def c69_29:=cB c69_27
def c69_30:=cA c69_29
def c69_31:=cB c69_29
def c69_32:=cA c69_31
def c69_33:=cB c69_31
def c69_34:=cA c69_33
def c69_35:=cB c69_33
def c69_36:=cA c69_35
def c69_37:=cB c69_35
def c69_38:=cA c69_37
def c69_39:=cB c69_37
def c69_40:=cB c69_8
def c69_41:=cA c69_40
def c69_42:=cB c69_40
def c69_43:=cA c69_42
def c69_44:=cB c69_42
theorem c69_0_e:c69_0 = .seq c69_1 c69_2:=rfl
theorem c69_1_r:RG (E0 mm) 69 c69_1:=rgN rfl
theorem c69_2_e:c69_2 = .seq c69_3 c69_4:=rfl
theorem c69_3_r:RG (E0 mm) 69 c69_3:=rgN rfl
theorem c69_4_e:c69_4 = .seq c69_5 c69_6:=rfl
theorem c69_5_r:RG (E0 mm) 69 c69_5:=rgN rfl
theorem c69_6_e:c69_6 = .seq c69_7 c69_8:=rfl
theorem c69_7_r:RG (E0 mm) 69 c69_7:=rgN rfl
theorem c69_8_e:c69_8 = .seq c69_9 c69_40:=rfl
theorem c69_9_e:c69_9 = .seq c69_10 c69_11:=rfl
theorem c69_10_r:RG (E0 mm) 69 c69_10:=rgN rfl
theorem c69_11_e:c69_11 = .block 0 c69_12:=rfl
theorem c69_12_l (m:Nat) (st:St):den (E0 mm) 69 m (callW (E0 mm)) itW c69_12 none st = loopD itW (loopF (E0 mm) 69 m (callW (E0 mm)) itW c69_13 [(1,.keep),(3,.keep),(5,.keep),(6,.keep),(7,.keep),(12,.keep)]) (canon m [(1,.keep),(3,.keep),(5,.keep),(6,.keep),(7,.keep),(12,.keep)] st):=rfl
theorem c69_13_e:c69_13 = .seq c69_14 c69_15:=rfl
theorem c69_14_r:RG (E0 mm) 69 c69_14:=rgN rfl
theorem c69_15_e:c69_15 = .seq c69_16 c69_19:=rfl
theorem c69_17_e:c69_17 = .skip:=rfl
theorem c69_18_e:c69_18 = .exit 0:=rfl
theorem c69_19_e:c69_19 = .block 1 c69_20:=rfl
theorem c69_20_e:c69_20 = .seq c69_21 c69_22:=rfl
theorem c69_21_r:RG (E0 mm) 69 c69_21:=rgN rfl
theorem c69_22_e:c69_22 = .block 2 c69_23:=rfl
theorem c69_23_e:c69_23 = .seq c69_24 c69_25:=rfl
theorem c69_24_r:RG (E0 mm) 69 c69_24:=rgN rfl
theorem c69_26_r:RG (E0 mm) 69 c69_26:=rgN rfl
theorem c69_27_e:c69_27 = .seq c69_28 c69_29:=rfl
theorem c69_28_r:RG (E0 mm) 69 c69_28:=rgN rfl
theorem c69_30_r:RG (E0 mm) 69 c69_30:=rgN rfl
theorem c69_31_e:c69_31 = .seq c69_32 c69_33:=rfl
theorem c69_32_r:RG (E0 mm) 69 c69_32:=rgN rfl
theorem c69_34_r:RG (E0 mm) 69 c69_34:=rgN rfl
theorem c69_35_e:c69_35 = .seq c69_36 c69_37:=rfl
theorem c69_36_r:RG (E0 mm) 69 c69_36:=rgN rfl
theorem c69_38_r:RG (E0 mm) 69 c69_38:=rgN rfl
theorem c69_39_e:c69_39 = .skip:=rfl
theorem c69_40_e:c69_40 = .seq c69_41 c69_42:=rfl
theorem c69_41_r:RG (E0 mm) 69 c69_41:=rgN rfl
theorem c69_42_e:c69_42 = .seq c69_43 c69_44:=rfl
theorem c69_43_r:RG (E0 mm) 69 c69_43:=rgN rfl
theorem c69_44_e:c69_44 = .ret:=rfl
abbrev R69:=(Bool×List Bs)
def e69:R69→AV×Heap:=fun x=>(.v (.c (.own x.1 (enL enS x.2) 0)),[.row x.2.length (rz x.1 1)])
def K69_12:Option (Ex×St)→Option (AV×Heap):=fun r=>bodyD (E0 mm) [.tmp 2] 0 false (seqD (E0 mm) 69 0 (callW (E0 mm)) itW c69_40 (blockD 0 (r)))
def en69_12:(Bool×Bool×Bs×Bool×List Bs×Int×Bs×Nat)→X:=fun x=>(none,[.v (.c (.ptr 0 0)),.v (.c (.ptr 1 0)),.v (.c (.d (.sc (.bool x.1)))),.v (.c (.d (.sc (.bool x.2.1)))),.v (.c (.fn 82 [(0,0),(3,0),(1,0)])),.v (.c (.it 4))],[.cells [.d (.sc (.string (S x.2.2.1)))],.cells [.own x.2.2.2.1 (enL enS x.2.2.2.2.1) 2],.row x.2.2.2.2.1.length (rz x.2.2.2.1 1),.cells [.d (.sc (.int .i64 x.2.2.2.2.2.1))],.siter (S x.2.2.2.2.2.2.1) x.2.2.2.2.2.2.2])
def j69_37 (quoted5 masked6:Bool) (i8:Int) (t30:Bool) (h0_0:Bs) (h1_0_0:Bool) (h1_0_1:List Bs) (h3_0:Int) (s4:Bs) (p4:Nat):Option ((Bool×Bool×Bs×Bool×List Bs×Int×Bs×Nat) ⊕ R69):=
 if t30 = true then
  (m82 i8 h0_0 h3_0 h1_0_0 h1_0_1).bind fun yr10=>
   some (.inl (quoted5,masked6,yr10.1,yr10.2.2.1,yr10.2.2.2,yr10.2.1,s4,p4))
 else
  some (.inl (quoted5,masked6,h0_0,h1_0_0,h1_0_1,h3_0,s4,p4))
theorem j69_37_t (quoted5 masked6:Bool) (i8:Int) (t30:Bool) (h0_0:Bs) (h1_0_0:Bool) (h1_0_1:List Bs) (h3_0:Int) (s4:Bs) (p4:Nat)  (sl:Nat→AV) (zq1:sl 1 = .v (.c (.ptr 0 0))) (zq3:sl 3 = .v (.c (.ptr 1 0))) (zq5:sl 5 = .v (.c (.d (.sc (.bool quoted5))))) (zq6:sl 6 = .v (.c (.d (.sc (.bool masked6))))) (zq7:sl 7 = .v (.c (.fn 82 [(0,0),(3,0),(1,0)]))) (zq8:sl 8 = .v (.c (.d (.sc (.int .i64 i8))))) (zq12:sl 12 = .v (.c (.it 4))) (zq30:sl 30 = .v (.c (.d (.sc (.bool t30))))):
  stepE (K69_12 (mm:=mm)) (loopK 0 [(1,.keep),(3,.keep),(5,.keep),(6,.keep),(7,.keep),(12,.keep)] (blockD 1 (blockD 2 (den (E0 mm) 69 0 (callW (E0 mm)) itW c69_37 none ⟨sl,[.cells [.d (.sc (.string (S h0_0)))],.cells [.own h1_0_0 (enL enS h1_0_1) 2],.row h1_0_1.length (rz h1_0_0 1),.cells [.d (.sc (.int .i64 h3_0))],.siter (S s4) p4]⟩)))) = (j69_37 quoted5 masked6 i8 t30 h0_0 h1_0_0 h1_0_1 h3_0 s4 p4).map (sm en69_12 e69):=by
 simp -implicitDefEqProofs only [j69_37,(show c69_37 = Code.cond _ c69_38 c69_39 from rfl),zq1,zq3,zq5,zq6,zq7,zq8,zq12,zq30,setA,setB,za,zb,zc,zd,ze,zf,zg,zh,zi,zj,zk,zl,zm,zn,zo,zp,reduceCtorEq,zE,↓reduceIte]
 refine brB (fun yc8=>?_) (fun yc8=>?_)
 ·simp -implicitDefEqProofs only [c69_38_r,(show opsOf c69_38 = _ :: _ from rfl),ent82,prm82,f82_t,zq1,zq3,zq5,zq6,zq7,zq8,zq12,zq30,yc8,setA,setB,za,zb,zc,zd,ze,zf,zg,zh,zi,zj,zk,zl,zm,zn,zo,zp,reduceCtorEq,zE,↓reduceIte]
  refine brM (fun yc9=>?_) (fun yr10 yc9=>?_)
  ·rw [yc9]; rfl
  ·simp -implicitDefEqProofs only [e82,zq1,zq3,zq5,zq6,zq7,zq8,zq12,zq30,yc8,yc9,setA,setB,za,zb,zc,zd,ze,zf,zg,zh,zi,zj,zk,zl,zm,zn,zo,zp,reduceCtorEq,zE,↓reduceIte]
   all_goals rfl
 ·simp -implicitDefEqProofs only [c69_39_e,zq1,zq3,zq5,zq6,zq7,zq8,zq12,zq30,yc8,setA,setB,za,zb,zc,zd,ze,zf,zg,zh,zi,zj,zk,zl,zm,zn,zo,zp,reduceCtorEq,zE,↓reduceIte]
  all_goals rfl
def j69_29 (quoted5 masked6:Bool) (i8 r9:Int) (t19:Bool) (h0_0:Bs) (h1_0_0:Bool) (h1_0_1:List Bs) (h3_0:Int) (s4:Bs) (p4:Nat):Option ((Bool×Bool×Bs×Bool×List Bs×Int×Bs×Nat) ⊕ R69):=
 if t19 = true then
  some (.inl (quoted5,true,h0_0,h1_0_0,h1_0_1,h3_0,s4,p4))
 else
  if (r9 == 34) = true then
   some (.inl ((!quoted5),masked6,h0_0,h1_0_0,h1_0_1,h3_0,s4,p4))
  else
   if (r9 == 44) = true then
    j69_37 quoted5 masked6 i8 (!quoted5) h0_0 h1_0_0 h1_0_1 h3_0 s4 p4
   else
    j69_37 quoted5 masked6 i8 false h0_0 h1_0_0 h1_0_1 h3_0 s4 p4
theorem j69_29_t (quoted5 masked6:Bool) (i8 r9:Int) (t19:Bool) (h0_0:Bs) (h1_0_0:Bool) (h1_0_1:List Bs) (h3_0:Int) (s4:Bs) (p4:Nat)  (sl:Nat→AV) (zq1:sl 1 = .v (.c (.ptr 0 0))) (zq3:sl 3 = .v (.c (.ptr 1 0))) (zq5:sl 5 = .v (.c (.d (.sc (.bool quoted5))))) (zq6:sl 6 = .v (.c (.d (.sc (.bool masked6))))) (zq7:sl 7 = .v (.c (.fn 82 [(0,0),(3,0),(1,0)]))) (zq8:sl 8 = .v (.c (.d (.sc (.int .i64 i8))))) (zq9:sl 9 = .v (.c (.d (.sc (.int .i32 r9))))) (zq12:sl 12 = .v (.c (.it 4))) (zq19:sl 19 = .v (.c (.d (.sc (.bool t19))))):
  stepE (K69_12 (mm:=mm)) (loopK 0 [(1,.keep),(3,.keep),(5,.keep),(6,.keep),(7,.keep),(12,.keep)] (blockD 1 (blockD 2 (den (E0 mm) 69 0 (callW (E0 mm)) itW c69_29 none ⟨sl,[.cells [.d (.sc (.string (S h0_0)))],.cells [.own h1_0_0 (enL enS h1_0_1) 2],.row h1_0_1.length (rz h1_0_0 1),.cells [.d (.sc (.int .i64 h3_0))],.siter (S s4) p4]⟩)))) = (j69_29 quoted5 masked6 i8 r9 t19 h0_0 h1_0_0 h1_0_1 h3_0 s4 p4).map (sm en69_12 e69):=by
 simp -implicitDefEqProofs only [j69_29,(show c69_29 = Code.cond _ c69_30 c69_31 from rfl),zq1,zq3,zq5,zq6,zq7,zq8,zq9,zq12,zq19,setA,setB,za,zb,zc,zd,ze,zf,zg,zh,zi,zj,zk,zl,zm,zn,zo,zp,reduceCtorEq,zE,↓reduceIte]
 refine brB (fun yc5=>?_) (fun yc5=>?_)
 ·simp -implicitDefEqProofs only [c69_30_r,(show opsOf c69_30 = _ :: _ from rfl),zq1,zq3,zq5,zq6,zq7,zq8,zq9,zq12,zq19,yc5,setA,setB,za,zb,zc,zd,ze,zf,zg,zh,zi,zj,zk,zl,zm,zn,zo,zp,reduceCtorEq,zE,↓reduceIte]
  all_goals rfl
 ·simp -implicitDefEqProofs only [c69_31_e,c69_32_r,(show opsOf c69_32 = _ :: _ from rfl),(show c69_33 = Code.cond _ c69_34 c69_35 from rfl),zq1,zq3,zq5,zq6,zq7,zq8,zq9,zq12,zq19,yc5,setA,setB,za,zb,zc,zd,ze,zf,zg,zh,zi,zj,zk,zl,zm,zn,zo,zp,reduceCtorEq,zE,↓reduceIte]
  refine brB (fun yc6=>?_) (fun yc6=>?_)
  ·simp -implicitDefEqProofs only [c69_34_r,(show opsOf c69_34 = _ :: _ from rfl),zq1,zq3,zq5,zq6,zq7,zq8,zq9,zq12,zq19,yc5,yc6,setA,setB,za,zb,zc,zd,ze,zf,zg,zh,zi,zj,zk,zl,zm,zn,zo,zp,reduceCtorEq,zE,↓reduceIte]
   all_goals rfl
  ·simp -implicitDefEqProofs only [c69_35_e,c69_36_r,(show opsOf c69_36 = _ :: _ from rfl),zq1,zq3,zq5,zq6,zq7,zq8,zq9,zq12,zq19,yc5,yc6,setA,setB,za,zb,zc,zd,ze,zf,zg,zh,zi,zj,zk,zl,zm,zn,zo,zp,reduceCtorEq,zE,↓reduceIte]
   refine brB (fun yc7=>?_) (fun yc7=>?_)
   ·simp -implicitDefEqProofs only [zq1,zq3,zq5,zq6,zq7,zq8,zq9,zq12,zq19,yc5,yc6,yc7,setA,setB,za,zb,zc,zd,ze,zf,zg,zh,zi,zj,zk,zl,zm,zn,zo,zp,reduceCtorEq,zE,↓reduceIte]
    exact j69_37_t quoted5 masked6 i8 (!quoted5) h0_0 h1_0_0 h1_0_1 h3_0 s4 p4 _ (by exact zq1) (by exact zq3) (by exact zq5) (by exact zq6) (by exact zq7) (by exact zq8) (by exact zq12) (by rfl)
   ·simp -implicitDefEqProofs only [zq1,zq3,zq5,zq6,zq7,zq8,zq9,zq12,zq19,yc5,yc6,yc7,setA,setB,za,zb,zc,zd,ze,zf,zg,zh,zi,zj,zk,zl,zm,zn,zo,zp,reduceCtorEq,zE,↓reduceIte]
    exact j69_37_t quoted5 masked6 i8 false h0_0 h1_0_0 h1_0_1 h3_0 s4 p4 _ (by exact zq1) (by exact zq3) (by exact zq5) (by exact zq6) (by exact zq7) (by exact zq8) (by exact zq12) (by rfl)
def j69_40 (h0_0:Bs) (h1_0_0:Bool) (h1_0_1:List Bs) (h3_0:Int):Option R69:=
 (m82 (h0_0.length:Int) h0_0 h3_0 h1_0_0 h1_0_1).bind fun yr12=>
  some (yr12.2.2.1,yr12.2.2.2)
theorem j69_40_t (h0_0:Bs) (h1_0_0:Bool) (h1_0_1:List Bs) (h3_0:Int) (g4:Ob) (sl:Nat→AV) (zq1:sl 1 = .v (.c (.ptr 0 0))) (zq3:sl 3 = .v (.c (.ptr 1 0))) (zq7:sl 7 = .v (.c (.fn 82 [(0,0),(3,0),(1,0)]))):
  bodyD (E0 mm) [.tmp 2] 0 false (den (E0 mm) 69 0 (callW (E0 mm)) itW c69_40 none ⟨sl,[.cells [.d (.sc (.string (S h0_0)))],.cells [.own h1_0_0 (enL enS h1_0_1) 2],.row h1_0_1.length (rz h1_0_0 1),.cells [.d (.sc (.int .i64 h3_0))],g4]⟩) = (j69_40 h0_0 h1_0_0 h1_0_1 h3_0).map e69:=by
 simp -implicitDefEqProofs only [j69_40,c69_40_e,c69_41_r,(show opsOf c69_41 = _ :: _ from rfl),sz9,ag9,Tryz.underlying9,ent82,prm82,f82_t,zq1,zq3,zq7,setA,setB,za,zb,zc,zd,ze,zf,zg,zh,zi,zj,zk,zl,zm,zn,zo,zp,reduceCtorEq,zE,↓reduceIte]
 refine brM (fun yc11=>?_) (fun yr12 yc11=>?_)
 ·rw [yc11]; rfl
 ·simp -implicitDefEqProofs only [e82,c69_42_e,c69_43_r,(show opsOf c69_43 = _ :: _ from rfl),sz40,ag40,c69_44_e,zq1,zq3,zq7,yc11,setA,setB,za,zb,zc,zd,ze,zf,zg,zh,zi,zj,zk,zl,zm,zn,zo,zp,reduceCtorEq,zE,↓reduceIte]
  all_goals rfl
def s69_12 (quoted5 masked6:Bool) (h0_0:Bs) (h1_0_0:Bool) (h1_0_1:List Bs) (h3_0:Int) (s4:Bs) (p4:Nat):Option ((Bool×Bool×Bs×Bool×List Bs×Int×Bs×Nat) ⊕ R69):=
 if (decide (p4 < s4.length)) = true then
  if masked6 = true then
   some (.inl (quoted5,false,h0_0,h1_0_0,h1_0_1,h3_0,s4,(p4 + uw s4 p4)))
  else
   if quoted5 = true then
    j69_29 true false (p4:Int) (uc s4 p4:Int) ((uc s4 p4:Int) == 92) h0_0 h1_0_0 h1_0_1 h3_0 s4 (p4 + uw s4 p4)
   else
    j69_29 false false (p4:Int) (uc s4 p4:Int) false h0_0 h1_0_0 h1_0_1 h3_0 s4 (p4 + uw s4 p4)
 else
  (j69_40 h0_0 h1_0_0 h1_0_1 h3_0).map .inr
theorem s69_12_t (quoted5 masked6:Bool) (h0_0:Bs) (h1_0_0:Bool) (h1_0_1:List Bs) (h3_0:Int) (s4:Bs) (p4:Nat):
  stepE (K69_12 (mm:=mm)) (loopF (E0 mm) 69 0 (callW (E0 mm)) itW c69_13 [(1,.keep),(3,.keep),(5,.keep),(6,.keep),(7,.keep),(12,.keep)] (none,[.v (.c (.ptr 0 0)),.v (.c (.ptr 1 0)),.v (.c (.d (.sc (.bool quoted5)))),.v (.c (.d (.sc (.bool masked6)))),.v (.c (.fn 82 [(0,0),(3,0),(1,0)])),.v (.c (.it 4))],[.cells [.d (.sc (.string (S h0_0)))],.cells [.own h1_0_0 (enL enS h1_0_1) 2],.row h1_0_1.length (rz h1_0_0 1),.cells [.d (.sc (.int .i64 h3_0))],.siter (S s4) p4])) = (s69_12 quoted5 masked6 h0_0 h1_0_0 h1_0_1 h3_0 s4 p4).map (sm en69_12 e69):=by
 simp -implicitDefEqProofs only [s69_12,loopF_eq,c69_13_e,c69_14_r,(show opsOf c69_14 = _ :: _ from rfl),dec_eq,setA,setB,za,zb,zc,zd,ze,zf,zg,zh,zi,zj,zk,zl,zm,zn,zo,zp,reduceCtorEq,zE,↓reduceIte]
 refine brB (fun yc1=>?_) (fun yc1=>?_)
 ·have yd2:=of_decide_eq_true yc1
  simp -implicitDefEqProofs only [c69_15_e,(show c69_16 = Code.cond _ c69_17 c69_18 from rfl),c69_17_e,c69_19_e,c69_20_e,c69_21_r,(show opsOf c69_21 = _ :: _ from rfl),c69_22_e,c69_23_e,c69_24_r,(show opsOf c69_24 = _ :: _ from rfl),(show c69_25 = Code.cond _ c69_26 c69_27 from rfl),yd2,setA,setB,za,zb,zc,zd,ze,zf,zg,zh,zi,zj,zk,zl,zm,zn,zo,zp,reduceCtorEq,zE,↓reduceIte]
  refine brB (fun yc3=>?_) (fun yc3=>?_)
  ·simp -implicitDefEqProofs only [c69_26_r,(show opsOf c69_26 = _ :: _ from rfl),yd2,yc3,setA,setB,za,zb,zc,zd,ze,zf,zg,zh,zi,zj,zk,zl,zm,zn,zo,zp,reduceCtorEq,zE,↓reduceIte]
   all_goals rfl
  ·simp -implicitDefEqProofs only [c69_27_e,c69_28_r,(show opsOf c69_28 = _ :: _ from rfl),yd2,yc3,setA,setB,za,zb,zc,zd,ze,zf,zg,zh,zi,zj,zk,zl,zm,zn,zo,zp,reduceCtorEq,zE,↓reduceIte]
   refine brB (fun yc4=>?_) (fun yc4=>?_)
   ·simp -implicitDefEqProofs only [yd2,yc3,yc4,setA,setB,za,zb,zc,zd,ze,zf,zg,zh,zi,zj,zk,zl,zm,zn,zo,zp,reduceCtorEq,zE,↓reduceIte]
    exact j69_29_t true false (p4:Int) (uc s4 p4:Int) ((uc s4 p4:Int) == 92) h0_0 h1_0_0 h1_0_1 h3_0 s4 (p4 + uw s4 p4) _ (by rfl) (by rfl) (by rfl) (by rfl) (by rfl) (by rfl) (by rfl) (by rfl) (by rfl)
   ·simp -implicitDefEqProofs only [yd2,yc3,yc4,setA,setB,za,zb,zc,zd,ze,zf,zg,zh,zi,zj,zk,zl,zm,zn,zo,zp,reduceCtorEq,zE,↓reduceIte]
    exact j69_29_t false false (p4:Int) (uc s4 p4:Int) false h0_0 h1_0_0 h1_0_1 h3_0 s4 (p4 + uw s4 p4) _ (by rfl) (by rfl) (by rfl) (by rfl) (by rfl) (by rfl) (by rfl) (by rfl) (by rfl)
 ·have yd2:=of_decide_eq_false yc1
  simp -implicitDefEqProofs only [c69_15_e,(show c69_16 = Code.cond _ c69_17 c69_18 from rfl),c69_18_e,K69_12,yd2,setA,setB,za,zb,zc,zd,ze,zf,zg,zh,zi,zj,zk,zl,zm,zn,zo,zp,reduceCtorEq,zE,↓reduceIte]
  exact mi (j69_40_t h0_0 h1_0_0 h1_0_1 h3_0 _ _ (by rfl) (by rfl) (by rfl))
def l69_12 (quoted5 masked6:Bool) (h0_0:Bs) (h1_0_0:Bool) (h1_0_1:List Bs) (h3_0:Int) (s4:Bs) (p4:Nat):Option R69:=iter (fun x:(Bool×Bool×Bs×Bool×List Bs×Int×Bs×Nat)=>s69_12 x.1 x.2.1 x.2.2.1 x.2.2.2.1 x.2.2.2.2.1 x.2.2.2.2.2.1 x.2.2.2.2.2.2.1 x.2.2.2.2.2.2.2) (quoted5,masked6,h0_0,h1_0_0,h1_0_1,h3_0,s4,p4)
theorem l69_12_t (quoted5 masked6:Bool) (h0_0:Bs) (h1_0_0:Bool) (h1_0_1:List Bs) (h3_0:Int) (s4:Bs) (p4:Nat):bodyD (E0 mm) [.tmp 2] 0 false (seqD (E0 mm) 69 0 (callW (E0 mm)) itW c69_40 (blockD 0 (itW (loopF (E0 mm) 69 0 (callW (E0 mm)) itW c69_13 [(1,.keep),(3,.keep),(5,.keep),(6,.keep),(7,.keep),(12,.keep)]) (none,[.v (.c (.ptr 0 0)),.v (.c (.ptr 1 0)),.v (.c (.d (.sc (.bool quoted5)))),.v (.c (.d (.sc (.bool masked6)))),.v (.c (.fn 82 [(0,0),(3,0),(1,0)])),.v (.c (.it 4))],[.cells [.d (.sc (.string (S h0_0)))],.cells [.own h1_0_0 (enL enS h1_0_1) 2],.row h1_0_1.length (rz h1_0_0 1),.cells [.d (.sc (.int .i64 h3_0))],.siter (S s4) p4])))) = (l69_12 quoted5 masked6 h0_0 h1_0_0 h1_0_1 h3_0 s4 p4).map e69:=
 it_sim (K:=(K69_12 (mm:=mm))) rfl (enc:=en69_12) (fun x=>s69_12_t x.1 x.2.1 x.2.2.1 x.2.2.2.1 x.2.2.2.2.1 x.2.2.2.2.2.1 x.2.2.2.2.2.2.1 x.2.2.2.2.2.2.2) (quoted5,masked6,h0_0,h1_0_0,h1_0_1,h3_0,s4,p4)
def m69 (s:Bs):Option R69:=
 l69_12 false false s true ([]:List Bs) (0:Int) s 0
theorem f69_t (s:Bs):
  callW (E0 mm) 69 [.c (.d (.sc (.string (S s))))] [] = (m69 s).map e69:=by
 rw [callW_run (body:=c69_0) (res:=[.tmp 2]) Tryz.func69 rfl rfl (by kernel_rfl)]
 simp -implicitDefEqProofs only [m69,slots1,c69_0_e,c69_1_r,(show opsOf c69_1 = _ :: _ from rfl),c69_2_e,c69_3_r,(show opsOf c69_3 = _ :: _ from rfl),zc40,ao30,c69_4_e,c69_5_r,(show opsOf c69_5 = _ :: _ from rfl),zc3,ao31,sz3,c69_6_e,c69_7_r,(show opsOf c69_7 = _ :: _ from rfl),c69_8_e,c69_9_e,c69_10_r,(show opsOf c69_10 = _ :: _ from rfl),sz9,ag9,Tryz.underlying9,c69_11_e,c69_12_l,setA,setB,za,zb,zc,zd,ze,zf,zg,zh,zi,zj,zk,zl,zm,zn,zo,zp,reduceCtorEq,zE,↓reduceIte]
 exact l69_12_t false false s true ([]:List Bs) (0:Int) s 0
noncomputable def c53_0:Code:=bodyOf Tryz.f53
def c53_1:=cA c53_0
def c53_2:=cB c53_0
def c53_3:=cA c53_2
def c53_4:=cB c53_2
def c53_5:=cA c53_4
def c53_6:=cA c53_5
def c53_7:=cB c53_5
def c53_8:=cA c53_7
def c53_9:=cA c53_8
def c53_10:=cA c53_9
def c53_11:=cB c53_9
def c53_12:=cA c53_11
def c53_13:=cA c53_12
def c53_14:=cB c53_12
def c53_15:=cB c53_11
def c53_16:=cA c53_15
def c53_17:=cA c53_16
def c53_18:=cA c53_17
def c53_19:=cB c53_17
def c53_20:=cB c53_15
def c53_21:=cB c53_4
def c53_22:=cA c53_21
def c53_23:=cB c53_21
theorem c53_0_e:c53_0 = .seq c53_1 c53_2:=rfl
theorem c53_1_r:RG (E0 mm) 53 c53_1:=rgN rfl
theorem c53_2_e:c53_2 = .seq c53_3 c53_4:=rfl
theorem c53_3_r:RG (E0 mm) 53 c53_3:=rgN rfl
theorem c53_4_e:c53_4 = .seq c53_5 c53_21:=rfl
theorem c53_5_e:c53_5 = .seq c53_6 c53_7:=rfl
theorem c53_6_r:RG (E0 mm) 53 c53_6:=rgN rfl
theorem c53_7_e:c53_7 = .block 0 c53_8:=rfl
theorem c53_8_l (m:Nat) (st:St):den (E0 mm) 53 m (callW (E0 mm)) itW c53_8 none st = loopD itW (loopF (E0 mm) 53 m (callW (E0 mm)) itW c53_9 [(5,.own),(10,.keep),(11,.keep),(12,.keep)]) (canon m [(5,.own),(10,.keep),(11,.keep),(12,.keep)] st):=rfl
theorem c53_9_e:c53_9 = .seq c53_10 c53_11:=rfl
theorem c53_10_r:RG (E0 mm) 53 c53_10:=rgN rfl
theorem c53_11_e:c53_11 = .seq c53_12 c53_15:=rfl
theorem c53_13_e:c53_13 = .skip:=rfl
theorem c53_14_e:c53_14 = .exit 0:=rfl
theorem c53_15_e:c53_15 = .seq c53_16 c53_20:=rfl
theorem c53_16_e:c53_16 = .block 1 c53_17:=rfl
theorem c53_17_e:c53_17 = .seq c53_18 c53_19:=rfl
theorem c53_18_r:RG (E0 mm) 53 c53_18:=rgN rfl
theorem c53_19_r:RG (E0 mm) 53 c53_19:=rgN rfl
theorem c53_20_r:RG (E0 mm) 53 c53_20:=rgN rfl
theorem c53_21_e:c53_21 = .seq c53_22 c53_23:=rfl
theorem c53_22_r:RG (E0 mm) 53 c53_22:=rgN rfl
theorem c53_23_e:c53_23 = .ret:=rfl
abbrev R53:=(Bool×List Bs)
def e53:R53→AV×Heap:=fun x=>(.v (.c (.own x.1 (enL enS x.2) 0)),[.row x.2.length (rz x.1 1)])
def K53_8:Option (Ex×St)→Option (AV×Heap):=fun r=>bodyD (E0 mm) [.tmp 4] 0 false (seqD (E0 mm) 53 0 (callW (E0 mm)) itW c53_21 (blockD 0 (r)))
def en53_8:(Bool×List Bs×Bool×List Bs×Int×Int)→X:=fun x=>(none,[.v (.c (.own x.1 (enL enS x.2.1) 0)),.v (.c (.own x.2.2.1 (enL enS x.2.2.2.1) 1)),.v (.c (.d (.sc (.int .i64 x.2.2.2.2.1)))),.v (.c (.d (.sc (.int .i64 x.2.2.2.2.2))))],[.row x.2.1.length (rz x.1 1),.row x.2.2.2.1.length (rz x.2.2.1 1)])
def j53_21 (out5_0:Bool) (out5_1:List Bs):Option R53:=
 some (out5_0,out5_1)
theorem j53_21_t (out5_0:Bool) (out5_1:List Bs) (g1:Ob) (sl:Nat→AV) (zq5:sl 5 = .v (.c (.own out5_0 (enL enS out5_1) 0))):
  bodyD (E0 mm) [.tmp 4] 0 false (den (E0 mm) 53 0 (callW (E0 mm)) itW c53_21 none ⟨sl,[.row out5_1.length (rz out5_0 1),g1]⟩) = (j53_21 out5_0 out5_1).map e53:=by
 simp -implicitDefEqProofs only [j53_21,c53_21_e,c53_22_r,(show opsOf c53_22 = _ :: _ from rfl),c53_23_e,zq5,setA,setB,za,zb,zc,zd,ze,zf,zg,zh,zi,zj,zk,zl,zm,zn,zo,zp,reduceCtorEq,zE,↓reduceIte]
 all_goals rfl
def s53_8 (out5_0:Bool) (out5_1:List Bs) (t10_0:Bool) (t10_1:List Bs) (t11 t12:Int):Option ((Bool×List Bs×Bool×List Bs×Int×Int) ⊕ R53):=
 if (decide (t12 < t11)) = true then
  if 0≤t12∧t12 < (t10_1.length:Int) then
   (m69 (t10_1.getD t12.toNat default)).bind fun yr7=>
    if yr7.2 = []∨(out5_1.length + yr7.2.length) * 16≤140737488355328 then
     some (.inl ((out5_0 && yr7.2.isEmpty),(out5_1 ++ yr7.2),t10_0,t10_1,t11,(w64 (t12 + 1))))
    else none
  else none
 else
  (j53_21 out5_0 out5_1).map .inr
theorem s53_8_t (out5_0:Bool) (out5_1:List Bs) (t10_0:Bool) (t10_1:List Bs) (t11 t12:Int):
  stepE (K53_8 (mm:=mm)) (loopF (E0 mm) 53 0 (callW (E0 mm)) itW c53_9 [(5,.own),(10,.keep),(11,.keep),(12,.keep)] (none,[.v (.c (.own out5_0 (enL enS out5_1) 0)),.v (.c (.own t10_0 (enL enS t10_1) 1)),.v (.c (.d (.sc (.int .i64 t11)))),.v (.c (.d (.sc (.int .i64 t12))))],[.row out5_1.length (rz out5_0 1),.row t10_1.length (rz t10_0 1)])) = (s53_8 out5_0 out5_1 t10_0 t10_1 t11 t12).map (sm en53_8 e53):=by
 simp -implicitDefEqProofs only [s53_8,loopF_eq,c53_9_e,c53_10_r,(show opsOf c53_10 = _ :: _ from rfl),c53_11_e,(show c53_12 = Code.cond _ c53_13 c53_14 from rfl),setA,setB,za,zb,zc,zd,ze,zf,zg,zh,zi,zj,zk,zl,zm,zn,zo,zp,reduceCtorEq,zE,↓reduceIte]
 refine brB (fun yc3=>?_) (fun yc3=>?_)
 ·simp -implicitDefEqProofs only [c53_13_e,c53_15_e,c53_16_e,c53_17_e,c53_18_r,(show opsOf c53_18 = _ :: _ from rfl),Tryz.underlying40,sz9,enS_a,yc3,setA,setB,za,zb,zc,zd,ze,zf,zg,zh,zi,zj,zk,zl,zm,zn,zo,zp,reduceCtorEq,zE,↓reduceIte]
  refine brP (fun yc4=>?_) (fun yc4=>?_)
  ·have yd5:t12.toNat < t10_1.length:=by omega
   simp -implicitDefEqProofs only [(enL_get enS t10_1 t12.toNat yd5),enS_e,sz9,ag9,c53_19_r,(show opsOf c53_19 = _ :: _ from rfl),ent69,prm69,f69_t,yc3,yc4,yd5,setA,setB,za,zb,zc,zd,ze,zf,zg,zh,zi,zj,zk,zl,zm,zn,zo,zp,reduceCtorEq,zE,↓reduceIte]
   refine brM (fun yc6=>?_) (fun yr7 yc6=>?_)
   ·rw [yc6]; rfl
   ·simp -implicitDefEqProofs only [e69,Tryz.underlying40,hd35,ap40,yc3,yc4,yd5,yc6,setA,setB,za,zb,zc,zd,ze,zf,zg,zh,zi,zj,zk,zl,zm,zn,zo,zp,reduceCtorEq,zE,↓reduceIte]
    refine brP (fun yc8=>?_) (fun yc8=>?_)
    ·simp -implicitDefEqProofs only [c53_20_r,(show opsOf c53_20 = _ :: _ from rfl),yc3,yc4,yd5,yc6,yc8,setA,setB,za,zb,zc,zd,ze,zf,zg,zh,zi,zj,zk,zl,zm,zn,zo,zp,reduceCtorEq,zE,↓reduceIte]
     all_goals rfl
    ·rw [if_neg yc8]; rfl
  ·rw [if_neg yc4]; rfl
 ·simp -implicitDefEqProofs only [c53_14_e,K53_8,yc3,setA,setB,za,zb,zc,zd,ze,zf,zg,zh,zi,zj,zk,zl,zm,zn,zo,zp,reduceCtorEq,zE,↓reduceIte]
  exact mi (j53_21_t out5_0 out5_1 _ _ (by rfl))
def l53_8 (out5_0:Bool) (out5_1:List Bs) (t10_0:Bool) (t10_1:List Bs) (t11 t12:Int):Option R53:=iter (fun x:(Bool×List Bs×Bool×List Bs×Int×Int)=>s53_8 x.1 x.2.1 x.2.2.1 x.2.2.2.1 x.2.2.2.2.1 x.2.2.2.2.2) (out5_0,out5_1,t10_0,t10_1,t11,t12)
theorem l53_8_t (out5_0:Bool) (out5_1:List Bs) (t10_0:Bool) (t10_1:List Bs) (t11 t12:Int):bodyD (E0 mm) [.tmp 4] 0 false (seqD (E0 mm) 53 0 (callW (E0 mm)) itW c53_21 (blockD 0 (itW (loopF (E0 mm) 53 0 (callW (E0 mm)) itW c53_9 [(5,.own),(10,.keep),(11,.keep),(12,.keep)]) (none,[.v (.c (.own out5_0 (enL enS out5_1) 0)),.v (.c (.own t10_0 (enL enS t10_1) 1)),.v (.c (.d (.sc (.int .i64 t11)))),.v (.c (.d (.sc (.int .i64 t12))))],[.row out5_1.length (rz out5_0 1),.row t10_1.length (rz t10_0 1)])))) = (l53_8 out5_0 out5_1 t10_0 t10_1 t11 t12).map e53:=
 it_sim (K:=(K53_8 (mm:=mm))) rfl (enc:=en53_8) (fun x=>s53_8_t x.1 x.2.1 x.2.2.1 x.2.2.2.1 x.2.2.2.2.1 x.2.2.2.2.2) (out5_0,out5_1,t10_0,t10_1,t11,t12)
def m53 (l_0:Bool) (l_1:List (Bs×Bs)) (name:Bs):Option R53:=
 (m16 l_0 l_1 name).bind fun yr2=>
  l53_8 true ([]:List Bs) yr2.1 yr2.2 (yr2.2.length:Int) (0:Int)
theorem f53_t (l_0:Bool) (l_1:List (Bs×Bs)) (name:Bs):
  callW (E0 mm) 53 [.c (.d (.lst l_0 (enL enSS l_1))),.c (.d (.sc (.string (S name))))] [] = (m53 l_0 l_1 name).map e53:=by
 rw [callW_run (body:=c53_0) (res:=[.tmp 4]) Tryz.func53 rfl rfl (by kernel_rfl)]
 simp -implicitDefEqProofs only [m53,slots2,c53_0_e,c53_1_r,(show opsOf c53_1 = _ :: _ from rfl),c53_2_e,c53_3_r,(show opsOf c53_3 = _ :: _ from rfl),c53_4_e,c53_5_e,c53_6_r,(show opsOf c53_6 = _ :: _ from rfl),ent16,prm16,f16_t,setA,setB,za,zb,zc,zd,ze,zf,zg,zh,zi,zj,zk,zl,zm,zn,zo,zp,reduceCtorEq,zE,↓reduceIte]
 refine brM (fun yc1=>?_) (fun yr2 yc1=>?_)
 ·rw [yc1]; rfl
 ·simp -implicitDefEqProofs only [e16,Tryz.underlying40,c53_7_e,c53_8_l,yc1,setA,setB,za,zb,zc,zd,ze,zf,zg,zh,zi,zj,zk,zl,zm,zn,zo,zp,reduceCtorEq,zE,↓reduceIte]
  exact l53_8_t true ([]:List Bs) yr2.1 yr2.2 (yr2.2.length:Int) (0:Int)
noncomputable def c84_0:Code:=bodyOf Tryz.f84
def c84_1:=cA c84_0
def c84_2:=cB c84_0
def c84_3:=cA c84_2
def c84_4:=cA c84_3
def c84_5:=cB c84_3
def c84_6:=cA c84_5
def c84_7:=cB c84_5
def c84_8:=cA c84_7
def c84_9:=cA c84_8
def c84_10:=cB c84_8
def c84_11:=cB c84_7
def c84_12:=cB c84_2
def c84_13:=cA c84_12
def c84_14:=cB c84_12
theorem c84_0_e:c84_0 = .seq c84_1 c84_2:=rfl
theorem c84_1_r:RG (E0 mm) 84 c84_1:=rgN rfl
theorem c84_2_e:c84_2 = .seq c84_3 c84_12:=rfl
theorem c84_3_e:c84_3 = .seq c84_4 c84_5:=rfl
theorem c84_4_r:RG (E0 mm) 84 c84_4:=rgN rfl
theorem c84_5_e:c84_5 = .seq c84_6 c84_7:=rfl
theorem c84_6_r:RG (E0 mm) 84 c84_6:=rgN rfl
theorem c84_8_e:c84_8 = .seq c84_9 c84_10:=rfl
theorem c84_9_r:RG (E0 mm) 84 c84_9:=rgD (by kernel_rfl)
theorem c84_10_e:c84_10 = .ret:=rfl
theorem c84_11_e:c84_11 = .skip:=rfl
theorem c84_12_e:c84_12 = .seq c84_13 c84_14:=rfl
theorem c84_13_r:RG (E0 mm) 84 c84_13:=rgN rfl
theorem c84_14_e:c84_14 = .ret:=rfl
abbrev R84:=(Bs×Bs×Bool)
def e84:R84→AV×Heap:=fun x=>(.tup [.c (.d (.sc (.string (S x.1)))),.c (.d (.sc (.string (S x.2.1)))),.c (.d (.sc (.bool x.2.2)))],[])
def m84 (s sep:Bs):Option R84:=
 (mIx s sep).bind fun yr2=>
  if (decide (0≤yr2)) = true then
   (bnd yr2 s.length).bind fun yk5=>
    (bnd (w64 (yr2 + (sep.length:Int))) s.length).bind fun yk7=>
     some ((s.take yk5),(s.drop yk7),true)
  else
   some (s,([]:Bs),false)
theorem f84_t (s sep:Bs):
  callW (E0 mm) 84 [.c (.d (.sc (.string (S s)))),.c (.d (.sc (.string (S sep))))] [] = (m84 s sep).map e84:=by
 rw [callW_run (body:=c84_0) (res:=[.tmp 4,.tmp 5,.tmp 6]) Tryz.func84 rfl rfl (by kernel_rfl)]
 simp -implicitDefEqProofs only [m84,slots2,c84_0_e,c84_1_r,(show opsOf c84_1 = _ :: _ from rfl),c84_2_e,c84_3_e,c84_4_r,(show opsOf c84_4 = _ :: _ from rfl),ent66,prm66,pIndex_t,setA,setB,za,zb,zc,zd,ze,zf,zg,zh,zi,zj,zk,zl,zm,zn,zo,zp,reduceCtorEq,zE,↓reduceIte]
 refine brM (fun yc1=>?_) (fun yr2 yc1=>?_)
 ·rw [yc1]; rfl
 ·simp -implicitDefEqProofs only [pIndex_t,c84_5_e,c84_6_r,(show opsOf c84_6 = _ :: _ from rfl),(show c84_7 = Code.cond _ c84_8 c84_11 from rfl),yc1,setA,setB,za,zb,zc,zd,ze,zf,zg,zh,zi,zj,zk,zl,zm,zn,zo,zp,reduceCtorEq,zE,↓reduceIte]
  refine brB (fun yc3=>?_) (fun yc3=>?_)
  ·simp -implicitDefEqProofs only [c84_8_e,c84_9_r,(show opsOf c84_9 = _ :: _ from rfl),Tryz.underlying9,yc1,yc3,setA,setB,za,zb,zc,zd,ze,zf,zg,zh,zi,zj,zk,zl,zm,zn,zo,zp,reduceCtorEq,zE,↓reduceIte]
   refine brM (fun yc4=>?_) (fun yk5 yc4=>?_)
   ·rw [yc4]; rfl
   ·simp -implicitDefEqProofs only [Tryz.underlying9,yc1,yc3,yc4,setA,setB,za,zb,zc,zd,ze,zf,zg,zh,zi,zj,zk,zl,zm,zn,zo,zp,reduceCtorEq,zE,↓reduceIte]
    refine brM (fun yc6=>?_) (fun yk7 yc6=>?_)
    ·rw [yc6]; rfl
    ·simp -implicitDefEqProofs only [c84_10_e,yc1,yc3,yc4,yc6,setA,setB,za,zb,zc,zd,ze,zf,zg,zh,zi,zj,zk,zl,zm,zn,zo,zp,reduceCtorEq,zE,↓reduceIte]
     all_goals rfl
  ·simp -implicitDefEqProofs only [c84_11_e,c84_12_e,c84_13_r,(show opsOf c84_13 = _ :: _ from rfl),c84_14_e,yc1,yc3,setA,setB,za,zb,zc,zd,ze,zf,zg,zh,zi,zj,zk,zl,zm,zn,zo,zp,reduceCtorEq,zE,↓reduceIte]
   all_goals rfl
noncomputable def c70_0:Code:=bodyOf Tryz.f70
def c70_1:=cA c70_0
def c70_2:=cB c70_0
def c70_3:=cA c70_2
def c70_4:=cB c70_2
theorem c70_0_e:c70_0 = .seq c70_1 c70_2:=rfl
theorem c70_1_r:RG (E0 mm) 70 c70_1:=rgN rfl
theorem c70_2_e:c70_2 = .seq c70_3 c70_4:=rfl
theorem c70_3_r:RG (E0 mm) 70 c70_3:=rgN rfl
theorem c70_4_e:c70_4 = .ret:=rfl
abbrev R70:=(Bs×Bs×Bool)
def e70:R70→AV×Heap:=fun x=>(.tup [.c (.d (.sc (.string (S x.1)))),.c (.d (.sc (.string (S x.2.1)))),.c (.d (.sc (.bool x.2.2)))],[])
def m70 (s sep:Bs):Option R70:=
 (m84 s sep).bind fun yr2=>
  some (yr2.1,yr2.2.1,yr2.2.2)
theorem f70_t (s sep:Bs):
  callW (E0 mm) 70 [.c (.d (.sc (.string (S s)))),.c (.d (.sc (.string (S sep))))] [] = (m70 s sep).map e70:=by
 rw [callW_run (body:=c70_0) (res:=[.tmp 4,.tmp 5,.tmp 6]) Tryz.func70 rfl rfl (by kernel_rfl)]
 simp -implicitDefEqProofs only [m70,slots2,c70_0_e,c70_1_r,(show opsOf c70_1 = _ :: _ from rfl),c70_2_e,c70_3_r,(show opsOf c70_3 = _ :: _ from rfl),ent84,prm84,f84_t,setA,setB,za,zb,zc,zd,ze,zf,zg,zh,zi,zj,zk,zl,zm,zn,zo,zp,reduceCtorEq,zE,↓reduceIte]
 refine brM (fun yc1=>?_) (fun yr2 yc1=>?_)
 ·rw [yc1]; rfl
 ·simp -implicitDefEqProofs only [e84,c70_4_e,yc1,setA,setB,za,zb,zc,zd,ze,zf,zg,zh,zi,zj,zk,zl,zm,zn,zo,zp,reduceCtorEq,zE,↓reduceIte]
  all_goals rfl
noncomputable def c78_0:Code:=bodyOf Tryz.f78
def c78_1:=cA c78_0
def c78_2:=cB c78_0
def c78_3:=cA c78_2
def c78_4:=cB c78_2
theorem c78_0_e:c78_0 = .seq c78_1 c78_2:=rfl
theorem c78_1_r:RG (E0 mm) 78 c78_1:=rgN rfl
theorem c78_2_e:c78_2 = .seq c78_3 c78_4:=rfl
theorem c78_3_r:RG (E0 mm) 78 c78_3:=rgN rfl
theorem c78_4_e:c78_4 = .ret:=rfl
abbrev R78:=(Int)
def e78:R78→AV×Heap:=fun x=>(.v (.c (.d (.sc (.int .i64 x)))),[])
def m78 (s:Bs) (c:UInt8):Option R78:=
 some (Lib.indexByte s c)
theorem f78_t (s:Bs) (c:UInt8):
  callW (E0 mm) 78 [.c (.d (.sc (.string (S s)))),.c (.d (.sc (.int .u8 ((c).toNat:Int))))] [] = (m78 s c).map e78:=by
 rw [callW_run (body:=c78_0) (res:=[.tmp 4]) Tryz.func78 rfl rfl (by kernel_rfl)]
 simp -implicitDefEqProofs only [m78,slots2,c78_0_e,c78_1_r,(show opsOf c78_1 = _ :: _ from rfl),c78_2_e,c78_3_r,(show opsOf c78_3 = _ :: _ from rfl),entf89,exf89,ext89_t,c78_4_e,setA,setB,za,zb,zc,zd,ze,zf,zg,zh,zi,zj,zk,zl,zm,zn,zo,zp,reduceCtorEq,zE,↓reduceIte]
 all_goals rfl
noncomputable def c87_0:Code:=bodyOf Tryz.f87
def c87_1:=cA c87_0
def c87_2:=cB c87_0
def c87_3:=cA c87_2
def c87_4:=cB c87_2
theorem c87_0_e:c87_0 = .seq c87_1 c87_2:=rfl
theorem c87_1_r:RG (E0 mm) 87 c87_1:=rgN rfl
theorem c87_2_e:c87_2 = .seq c87_3 c87_4:=rfl
theorem c87_3_r:RG (E0 mm) 87 c87_3:=rgN rfl
theorem c87_4_e:c87_4 = .ret:=rfl
abbrev R87:=(Int)
def e87:R87→AV×Heap:=fun x=>(.v (.c (.d (.sc (.int .i64 x)))),[])
def m87 (s:Bs) (c:UInt8):Option R87:=
 (m78 s c).bind fun yr2=>
  some yr2
theorem f87_t (s:Bs) (c:UInt8):
  callW (E0 mm) 87 [.c (.d (.sc (.string (S s)))),.c (.d (.sc (.int .u8 ((c).toNat:Int))))] [] = (m87 s c).map e87:=by
 rw [callW_run (body:=c87_0) (res:=[.tmp 4]) Tryz.func87 rfl rfl (by kernel_rfl)]
 simp -implicitDefEqProofs only [m87,slots2,c87_0_e,c87_1_r,(show opsOf c87_1 = _ :: _ from rfl),c87_2_e,c87_3_r,(show opsOf c87_3 = _ :: _ from rfl),ent78,prm78,f78_t,setA,setB,za,zb,zc,zd,ze,zf,zg,zh,zi,zj,zk,zl,zm,zn,zo,zp,reduceCtorEq,zE,↓reduceIte]
 refine brM (fun yc1=>?_) (fun yr2 yc1=>?_)
 ·rw [yc1]; rfl
 ·simp -implicitDefEqProofs only [e78,c87_4_e,yc1,setA,setB,za,zb,zc,zd,ze,zf,zg,zh,zi,zj,zk,zl,zm,zn,zo,zp,reduceCtorEq,zE,↓reduceIte]
  all_goals rfl
noncomputable def c86_0:Code:=bodyOf Tryz.f86
def c86_1:=cA c86_0
def c86_2:=cB c86_0
def c86_3:=cA c86_2
def c86_4:=cB c86_2
def c86_5:=cA c86_4
def c86_6:=cB c86_4
theorem c86_0_e:c86_0 = .seq c86_1 c86_2:=rfl
theorem c86_1_r:RG (E0 mm) 86 c86_1:=rgN rfl
theorem c86_2_e:c86_2 = .seq c86_3 c86_4:=rfl
theorem c86_3_r:RG (E0 mm) 86 c86_3:=rgN rfl
theorem c86_4_e:c86_4 = .seq c86_5 c86_6:=rfl
theorem c86_5_r:RG (E0 mm) 86 c86_5:=rgN rfl
theorem c86_6_e:c86_6 = .ret:=rfl
abbrev R86:=(Bool)
def e86:R86→AV×Heap:=fun x=>(.v (.c (.d (.sc (.bool x)))),[])
def m86 (c:UInt8):Option R86:=
 if (decide ((97:UInt8)≤(c ||| (32:UInt8)))) = true then
  if (decide ((c ||| (32:UInt8))≤(122:UInt8))) = true then
   some true
  else
   if (decide ((48:UInt8)≤c)) = true then
    if (decide (c≤(57:UInt8))) = true then
     some true
    else
     (m87 ([33,35,36,37,38,39,42,43,45,46,94,95,96,124,126]:Bs) c).bind fun yr6=>
      some (decide (0≤yr6))
   else
    (m87 ([33,35,36,37,38,39,42,43,45,46,94,95,96,124,126]:Bs) c).bind fun yr8=>
     some (decide (0≤yr8))
 else
  if (decide ((48:UInt8)≤c)) = true then
   if (decide (c≤(57:UInt8))) = true then
    some true
   else
    (m87 ([33,35,36,37,38,39,42,43,45,46,94,95,96,124,126]:Bs) c).bind fun yr12=>
     some (decide (0≤yr12))
  else
   (m87 ([33,35,36,37,38,39,42,43,45,46,94,95,96,124,126]:Bs) c).bind fun yr14=>
    some (decide (0≤yr14))
theorem f86_t (c:UInt8):
  callW (E0 mm) 86 [.c (.d (.sc (.int .u8 ((c).toNat:Int))))] [] = (m86 c).map e86:=by
 rw [callW_run (body:=c86_0) (res:=[.tmp 2]) Tryz.func86 rfl rfl (by kernel_rfl)]
 simp -implicitDefEqProofs only [m86,slots1,c86_0_e,c86_1_r,(show opsOf c86_1 = _ :: _ from rfl),c86_2_e,c86_3_r,(show opsOf c86_3 = _ :: _ from rfl),c86_4_e,c86_5_r,(show opsOf c86_5 = _ :: _ from rfl),setA,setB,za,zb,zc,zd,ze,zf,zg,zh,zi,zj,zk,zl,zm,zn,zo,zp,reduceCtorEq,zE,↓reduceIte]
 refine brB (fun yc1=>?_) (fun yc1=>?_)
 ·simp -implicitDefEqProofs only [yc1,setA,setB,za,zb,zc,zd,ze,zf,zg,zh,zi,zj,zk,zl,zm,zn,zo,zp,reduceCtorEq,zE,↓reduceIte]
  refine brB (fun yc2=>?_) (fun yc2=>?_)
  ·simp -implicitDefEqProofs only [c86_6_e,yc1,yc2,setA,setB,za,zb,zc,zd,ze,zf,zg,zh,zi,zj,zk,zl,zm,zn,zo,zp,reduceCtorEq,zE,↓reduceIte]
   all_goals rfl
  ·simp -implicitDefEqProofs only [yc1,yc2,setA,setB,za,zb,zc,zd,ze,zf,zg,zh,zi,zj,zk,zl,zm,zn,zo,zp,reduceCtorEq,zE,↓reduceIte]
   refine brB (fun yc3=>?_) (fun yc3=>?_)
   ·simp -implicitDefEqProofs only [yc1,yc2,yc3,setA,setB,za,zb,zc,zd,ze,zf,zg,zh,zi,zj,zk,zl,zm,zn,zo,zp,reduceCtorEq,zE,↓reduceIte]
    refine brB (fun yc4=>?_) (fun yc4=>?_)
    ·simp -implicitDefEqProofs only [c86_6_e,yc1,yc2,yc3,yc4,setA,setB,za,zb,zc,zd,ze,zf,zg,zh,zi,zj,zk,zl,zm,zn,zo,zp,reduceCtorEq,zE,↓reduceIte]
     all_goals rfl
    ·simp -implicitDefEqProofs only [ent87,prm87,(show callW (E0 mm) 87 [.c (.d (.sc (.string (S ([33,35,36,37,38,39,42,43,45,46,94,95,96,124,126]:Bs))))),.c (.d (.sc (.int .u8 ((c).toNat:Int))))] [] = _ from f87_t ([33,35,36,37,38,39,42,43,45,46,94,95,96,124,126]:Bs) c),yc1,yc2,yc3,yc4,setA,setB,za,zb,zc,zd,ze,zf,zg,zh,zi,zj,zk,zl,zm,zn,zo,zp,reduceCtorEq,zE,↓reduceIte]
     refine brM (fun yc5=>?_) (fun yr6 yc5=>?_)
     ·rw [yc5]; rfl
     ·simp -implicitDefEqProofs only [e87,c86_6_e,yc1,yc2,yc3,yc4,yc5,setA,setB,za,zb,zc,zd,ze,zf,zg,zh,zi,zj,zk,zl,zm,zn,zo,zp,reduceCtorEq,zE,↓reduceIte]
      all_goals rfl
   ·simp -implicitDefEqProofs only [ent87,prm87,(show callW (E0 mm) 87 [.c (.d (.sc (.string (S ([33,35,36,37,38,39,42,43,45,46,94,95,96,124,126]:Bs))))),.c (.d (.sc (.int .u8 ((c).toNat:Int))))] [] = _ from f87_t ([33,35,36,37,38,39,42,43,45,46,94,95,96,124,126]:Bs) c),yc1,yc2,yc3,setA,setB,za,zb,zc,zd,ze,zf,zg,zh,zi,zj,zk,zl,zm,zn,zo,zp,reduceCtorEq,zE,↓reduceIte]
    refine brM (fun yc7=>?_) (fun yr8 yc7=>?_)
    ·rw [yc7]; rfl
    ·simp -implicitDefEqProofs only [e87,c86_6_e,yc1,yc2,yc3,yc7,setA,setB,za,zb,zc,zd,ze,zf,zg,zh,zi,zj,zk,zl,zm,zn,zo,zp,reduceCtorEq,zE,↓reduceIte]
     all_goals rfl
 ·simp -implicitDefEqProofs only [yc1,setA,setB,za,zb,zc,zd,ze,zf,zg,zh,zi,zj,zk,zl,zm,zn,zo,zp,reduceCtorEq,zE,↓reduceIte]
  refine brB (fun yc9=>?_) (fun yc9=>?_)
  ·simp -implicitDefEqProofs only [yc1,yc9,setA,setB,za,zb,zc,zd,ze,zf,zg,zh,zi,zj,zk,zl,zm,zn,zo,zp,reduceCtorEq,zE,↓reduceIte]
   refine brB (fun yc10=>?_) (fun yc10=>?_)
   ·simp -implicitDefEqProofs only [c86_6_e,yc1,yc9,yc10,setA,setB,za,zb,zc,zd,ze,zf,zg,zh,zi,zj,zk,zl,zm,zn,zo,zp,reduceCtorEq,zE,↓reduceIte]
    all_goals rfl
   ·simp -implicitDefEqProofs only [ent87,prm87,(show callW (E0 mm) 87 [.c (.d (.sc (.string (S ([33,35,36,37,38,39,42,43,45,46,94,95,96,124,126]:Bs))))),.c (.d (.sc (.int .u8 ((c).toNat:Int))))] [] = _ from f87_t ([33,35,36,37,38,39,42,43,45,46,94,95,96,124,126]:Bs) c),yc1,yc9,yc10,setA,setB,za,zb,zc,zd,ze,zf,zg,zh,zi,zj,zk,zl,zm,zn,zo,zp,reduceCtorEq,zE,↓reduceIte]
    refine brM (fun yc11=>?_) (fun yr12 yc11=>?_)
    ·rw [yc11]; rfl
    ·simp -implicitDefEqProofs only [e87,c86_6_e,yc1,yc9,yc10,yc11,setA,setB,za,zb,zc,zd,ze,zf,zg,zh,zi,zj,zk,zl,zm,zn,zo,zp,reduceCtorEq,zE,↓reduceIte]
     all_goals rfl
  ·simp -implicitDefEqProofs only [ent87,prm87,(show callW (E0 mm) 87 [.c (.d (.sc (.string (S ([33,35,36,37,38,39,42,43,45,46,94,95,96,124,126]:Bs))))),.c (.d (.sc (.int .u8 ((c).toNat:Int))))] [] = _ from f87_t ([33,35,36,37,38,39,42,43,45,46,94,95,96,124,126]:Bs) c),yc1,yc9,setA,setB,za,zb,zc,zd,ze,zf,zg,zh,zi,zj,zk,zl,zm,zn,zo,zp,reduceCtorEq,zE,↓reduceIte]
   refine brM (fun yc13=>?_) (fun yr14 yc13=>?_)
   ·rw [yc13]; rfl
   ·simp -implicitDefEqProofs only [e87,c86_6_e,yc1,yc9,yc13,setA,setB,za,zb,zc,zd,ze,zf,zg,zh,zi,zj,zk,zl,zm,zn,zo,zp,reduceCtorEq,zE,↓reduceIte]
    all_goals rfl
noncomputable def c93_0:Code:=bodyOf Tryz.f93
def c93_1:=cA c93_0
def c93_2:=cB c93_0
def c93_3:=cA c93_2
def c93_4:=cB c93_2
theorem c93_0_e:c93_0 = .seq c93_1 c93_2:=rfl
theorem c93_1_r:RG (E0 mm) 93 c93_1:=rgN rfl
theorem c93_2_e:c93_2 = .seq c93_3 c93_4:=rfl
theorem c93_3_r:RG (E0 mm) 93 c93_3:=rgN rfl
theorem c93_4_e:c93_4 = .ret:=rfl
abbrev R93:=(Bool)
def e93:R93→AV×Heap:=fun x=>(.v (.c (.d (.sc (.bool x)))),[.cells [.d (.sc (.func (.func 86) #[] #[]))]])
def m93 (c:UInt8):Option R93:=
 (m86 c).bind fun yr2=>
  some (!yr2)
theorem f93_t (c:UInt8):
  callW (E0 mm) 93 [.c (.d (.sc (.int .u8 ((c).toNat:Int)))),.c (.ptr 0 0)] [.cells [.d (.sc (.func (.func 86) #[] #[]))]] = (m93 c).map e93:=by
 rw [callW_run (body:=c93_0) (res:=[.tmp 3]) Tryz.func93 rfl rfl (by kernel_rfl)]
 simp -implicitDefEqProofs only [m93,slots2,c93_0_e,c93_1_r,(show opsOf c93_1 = _ :: _ from rfl),c93_2_e,c93_3_r,(show opsOf c93_3 = _ :: _ from rfl),sz91,ag91,ent86,prm86,f86_t,setA,setB,za,zb,zc,zd,ze,zf,zg,zh,zi,zj,zk,zl,zm,zn,zo,zp,reduceCtorEq,zE,↓reduceIte]
 refine brM (fun yc1=>?_) (fun yr2 yc1=>?_)
 ·rw [yc1]; rfl
 ·simp -implicitDefEqProofs only [e86,c93_4_e,yc1,setA,setB,za,zb,zc,zd,ze,zf,zg,zh,zi,zj,zk,zl,zm,zn,zo,zp,reduceCtorEq,zE,↓reduceIte]
  all_goals rfl
noncomputable def c101_0:Code:=bodyOf Tryz.f101
def c101_1:=cA c101_0
def c101_2:=cB c101_0
def c101_3:=cA c101_2
def c101_4:=cA c101_3
def c101_5:=cB c101_3
def c101_6:=cA c101_5
def c101_7:=cA c101_6
def c101_8:=cA c101_7
def c101_9:=cB c101_7
def c101_10:=cA c101_9
def c101_11:=cA c101_10
def c101_12:=cB c101_10
def c101_13:=cB c101_9
def c101_14:=cA c101_13
def c101_15:=cA c101_14
def c101_16:=cA c101_15
def c101_17:=cB c101_15
def c101_18:=cA c101_17
def c101_19:=cB c101_17
def c101_20:=cA c101_19
def c101_21:=cA c101_20
def c101_22:=cB c101_20
def c101_23:=cB c101_19
def c101_24:=cB c101_13
def c101_25:=cB c101_2
def c101_26:=cA c101_25
def c101_27:=cB c101_25
theorem c101_0_e:c101_0 = .seq c101_1 c101_2:=rfl
theorem c101_1_r:RG (E0 mm) 101 c101_1:=rgN rfl
theorem c101_2_e:c101_2 = .seq c101_3 c101_25:=rfl
theorem c101_3_e:c101_3 = .seq c101_4 c101_5:=rfl
theorem c101_4_r:RG (E0 mm) 101 c101_4:=rgN rfl
theorem c101_5_e:c101_5 = .block 0 c101_6:=rfl
theorem c101_6_l (m:Nat) (st:St):den (E0 mm) 101 m (callW (E0 mm)) itW c101_6 none st = loopD itW (loopF (E0 mm) 101 m (callW (E0 mm)) itW c101_7 [(0,.keep),(1,.keep),(7,.keep),(8,.keep)]) (canon m [(0,.keep),(1,.keep),(7,.keep),(8,.keep)] st):=rfl
theorem c101_7_e:c101_7 = .seq c101_8 c101_9:=rfl
theorem c101_8_r:RG (E0 mm) 101 c101_8:=rgN rfl
theorem c101_9_e:c101_9 = .seq c101_10 c101_13:=rfl
theorem c101_11_e:c101_11 = .skip:=rfl
theorem c101_12_e:c101_12 = .exit 0:=rfl
theorem c101_13_e:c101_13 = .seq c101_14 c101_24:=rfl
theorem c101_14_e:c101_14 = .block 1 c101_15:=rfl
theorem c101_15_e:c101_15 = .seq c101_16 c101_17:=rfl
theorem c101_16_r:RG (E0 mm) 101 c101_16:=rgN rfl
theorem c101_17_e:c101_17 = .seq c101_18 c101_19:=rfl
theorem c101_18_r:RG (E0 mm) 101 c101_18:=rgN rfl
theorem c101_20_e:c101_20 = .seq c101_21 c101_22:=rfl
theorem c101_21_r:RG (E0 mm) 101 c101_21:=rgN rfl
theorem c101_22_e:c101_22 = .ret:=rfl
theorem c101_23_e:c101_23 = .skip:=rfl
theorem c101_24_r:RG (E0 mm) 101 c101_24:=rgN rfl
theorem c101_25_e:c101_25 = .seq c101_26 c101_27:=rfl
theorem c101_26_r:RG (E0 mm) 101 c101_26:=rgN rfl
theorem c101_27_e:c101_27 = .ret:=rfl
abbrev R101:=(Int)
def e101:R101→AV×Heap:=fun x=>(.v (.c (.d (.sc (.int .i64 x)))),[.cells [.d (.sc (.func (.func 86) #[] #[]))]])
def K101_6:Option (Ex×St)→Option (AV×Heap):=fun r=>bodyD (E0 mm) [.tmp 4] 1 false (seqD (E0 mm) 101 1 (callW (E0 mm)) itW c101_25 (blockD 0 (r)))
def en101_6:(Bool×List UInt8×Int×Int)→X:=fun x=>(none,[.v (.c (.d (.lst x.1 (enL enB x.2.1)))),.v (.c (.fn 93 [(0,0)])),.v (.c (.d (.sc (.int .i64 x.2.2.1)))),.v (.c (.d (.sc (.int .i64 x.2.2.2))))],[.cells [.d (.sc (.func (.func 86) #[] #[]))]])
def j101_25  : Option R101:=
 some (-1:Int)
theorem j101_25_t   (sl:Nat→AV)  :
  bodyD (E0 mm) [.tmp 4] 1 false (den (E0 mm) 101 1 (callW (E0 mm)) itW c101_25 none ⟨sl,[.cells [.d (.sc (.func (.func 86) #[] #[]))]]⟩) = (j101_25).map e101:=by
 simp -implicitDefEqProofs only [j101_25,c101_25_e,c101_26_r,(show opsOf c101_26 = _ :: _ from rfl),c101_27_e,setA,setB,za,zb,zc,zd,ze,zf,zg,zh,zi,zj,zk,zl,zm,zn,zo,zp,reduceCtorEq,zE,↓reduceIte]
 all_goals rfl
def s101_6 (s0_0:Bool) (s0_1:List UInt8) (t7 t8:Int):Option ((Bool×List UInt8×Int×Int) ⊕ R101):=
 if (decide (t8 < t7)) = true then
  if 0≤t8∧t8 < (s0_1.length:Int) then
   (m93 (s0_1.getD t8.toNat default)).bind fun yr5=>
    if yr5 = true then
     some (.inr t8)
    else
     some (.inl (s0_0,s0_1,t7,(w64 (t8 + 1))))
  else none
 else
  (j101_25).map .inr
theorem s101_6_t (s0_0:Bool) (s0_1:List UInt8) (t7 t8:Int):
  stepE (K101_6 (mm:=mm)) (loopF (E0 mm) 101 1 (callW (E0 mm)) itW c101_7 [(0,.keep),(1,.keep),(7,.keep),(8,.keep)] (none,[.v (.c (.d (.lst s0_0 (enL enB s0_1)))),.v (.c (.fn 93 [(0,0)])),.v (.c (.d (.sc (.int .i64 t7)))),.v (.c (.d (.sc (.int .i64 t8))))],[.cells [.d (.sc (.func (.func 86) #[] #[]))]])) = (s101_6 s0_0 s0_1 t7 t8).map (sm en101_6 e101):=by
 simp -implicitDefEqProofs only [s101_6,loopF_eq,c101_7_e,c101_8_r,(show opsOf c101_8 = _ :: _ from rfl),c101_9_e,(show c101_10 = Code.cond _ c101_11 c101_12 from rfl),setA,setB,za,zb,zc,zd,ze,zf,zg,zh,zi,zj,zk,zl,zm,zn,zo,zp,reduceCtorEq,zE,↓reduceIte]
 refine brB (fun yc1=>?_) (fun yc1=>?_)
 ·simp -implicitDefEqProofs only [c101_11_e,c101_13_e,c101_14_e,c101_15_e,c101_16_r,(show opsOf c101_16 = _ :: _ from rfl),c101_17_e,c101_18_r,(show opsOf c101_18 = _ :: _ from rfl),Tryz.underlying24,sz5,enB_a,yc1,setA,setB,za,zb,zc,zd,ze,zf,zg,zh,zi,zj,zk,zl,zm,zn,zo,zp,reduceCtorEq,zE,↓reduceIte]
  refine brP (fun yc2=>?_) (fun yc2=>?_)
  ·have yd3:t8.toNat < s0_1.length:=by omega
   simp -implicitDefEqProofs only [(enL_get enB s0_1 t8.toNat yd3),enB_e,sz5,ag5,ent93,prm93,f93_t,yc1,yc2,yd3,setA,setB,za,zb,zc,zd,ze,zf,zg,zh,zi,zj,zk,zl,zm,zn,zo,zp,reduceCtorEq,zE,↓reduceIte]
   refine brM (fun yc4=>?_) (fun yr5 yc4=>?_)
   ·rw [yc4]; rfl
   ·simp -implicitDefEqProofs only [e93,(show c101_19 = Code.cond _ c101_20 c101_23 from rfl),yc1,yc2,yd3,yc4,setA,setB,za,zb,zc,zd,ze,zf,zg,zh,zi,zj,zk,zl,zm,zn,zo,zp,reduceCtorEq,zE,↓reduceIte]
    refine brB (fun yc6=>?_) (fun yc6=>?_)
    ·simp -implicitDefEqProofs only [c101_20_e,c101_21_r,(show opsOf c101_21 = _ :: _ from rfl),c101_22_e,K101_6,yc1,yc2,yd3,yc4,yc6,setA,setB,za,zb,zc,zd,ze,zf,zg,zh,zi,zj,zk,zl,zm,zn,zo,zp,reduceCtorEq,zE,↓reduceIte]
     all_goals rfl
    ·simp -implicitDefEqProofs only [c101_23_e,c101_24_r,(show opsOf c101_24 = _ :: _ from rfl),yc1,yc2,yd3,yc4,yc6,setA,setB,za,zb,zc,zd,ze,zf,zg,zh,zi,zj,zk,zl,zm,zn,zo,zp,reduceCtorEq,zE,↓reduceIte]
     all_goals rfl
  ·rw [if_neg yc2]; rfl
 ·simp -implicitDefEqProofs only [c101_12_e,K101_6,yc1,setA,setB,za,zb,zc,zd,ze,zf,zg,zh,zi,zj,zk,zl,zm,zn,zo,zp,reduceCtorEq,zE,↓reduceIte]
  exact mi (j101_25_t _)
def l101_6 (s0_0:Bool) (s0_1:List UInt8) (t7 t8:Int):Option R101:=iter (fun x:(Bool×List UInt8×Int×Int)=>s101_6 x.1 x.2.1 x.2.2.1 x.2.2.2) (s0_0,s0_1,t7,t8)
theorem l101_6_t (s0_0:Bool) (s0_1:List UInt8) (t7 t8:Int):bodyD (E0 mm) [.tmp 4] 1 false (seqD (E0 mm) 101 1 (callW (E0 mm)) itW c101_25 (blockD 0 (itW (loopF (E0 mm) 101 1 (callW (E0 mm)) itW c101_7 [(0,.keep),(1,.keep),(7,.keep),(8,.keep)]) (none,[.v (.c (.d (.lst s0_0 (enL enB s0_1)))),.v (.c (.fn 93 [(0,0)])),.v (.c (.d (.sc (.int .i64 t7)))),.v (.c (.d (.sc (.int .i64 t8))))],[.cells [.d (.sc (.func (.func 86) #[] #[]))]])))) = (l101_6 s0_0 s0_1 t7 t8).map e101:=
 it_sim (K:=(K101_6 (mm:=mm))) rfl (enc:=en101_6) (fun x=>s101_6_t x.1 x.2.1 x.2.2.1 x.2.2.2) (s0_0,s0_1,t7,t8)
def m101 (s_0:Bool) (s_1:List UInt8):Option R101:=
 l101_6 s_0 s_1 (s_1.length:Int) (0:Int)
theorem f101_t (s_0:Bool) (s_1:List UInt8):
  callW (E0 mm) 101 [.c (.d (.lst s_0 (enL enB s_1))),.c (.fn 93 [(0,0)])] [.cells [.d (.sc (.func (.func 86) #[] #[]))]] = (m101 s_0 s_1).map e101:=by
 rw [callW_run (body:=c101_0) (res:=[.tmp 4]) Tryz.func101 rfl rfl (by kernel_rfl)]
 simp -implicitDefEqProofs only [m101,slots2,c101_0_e,c101_1_r,(show opsOf c101_1 = _ :: _ from rfl),c101_2_e,c101_3_e,c101_4_r,(show opsOf c101_4 = _ :: _ from rfl),Tryz.underlying24,c101_5_e,c101_6_l,setA,setB,za,zb,zc,zd,ze,zf,zg,zh,zi,zj,zk,zl,zm,zn,zo,zp,reduceCtorEq,zE,↓reduceIte]
 exact l101_6_t s_0 s_1 (s_1.length:Int) (0:Int)
noncomputable def c92_0:Code:=bodyOf Tryz.f92
def c92_1:=cA c92_0
def c92_2:=cB c92_0
def c92_3:=cA c92_2
def c92_4:=cB c92_2
theorem c92_0_e:c92_0 = .seq c92_1 c92_2:=rfl
theorem c92_1_r:RG (E0 mm) 92 c92_1:=rgN rfl
theorem c92_2_e:c92_2 = .seq c92_3 c92_4:=rfl
theorem c92_3_r:RG (E0 mm) 92 c92_3:=rgN rfl
theorem c92_4_e:c92_4 = .ret:=rfl
abbrev R92:=(Bool)
def e92:R92→AV×Heap:=fun x=>(.v (.c (.d (.sc (.bool x)))),[.cells [.d (.sc (.func (.func 86) #[] #[]))]])
def m92 (s_0:Bool) (s_1:List UInt8):Option R92:=
 (m101 s_0 s_1).bind fun yr2=>
  some (decide (0≤yr2))
theorem f92_t (s_0:Bool) (s_1:List UInt8):
  callW (E0 mm) 92 [.c (.d (.lst s_0 (enL enB s_1))),.c (.fn 93 [(0,0)])] [.cells [.d (.sc (.func (.func 86) #[] #[]))]] = (m92 s_0 s_1).map e92:=by
 rw [callW_run (body:=c92_0) (res:=[.tmp 4]) Tryz.func92 rfl rfl (by kernel_rfl)]
 simp -implicitDefEqProofs only [m92,slots2,c92_0_e,c92_1_r,(show opsOf c92_1 = _ :: _ from rfl),c92_2_e,c92_3_r,(show opsOf c92_3 = _ :: _ from rfl),ent101,prm101,f101_t,setA,setB,za,zb,zc,zd,ze,zf,zg,zh,zi,zj,zk,zl,zm,zn,zo,zp,reduceCtorEq,zE,↓reduceIte]
 refine brM (fun yc1=>?_) (fun yr2 yc1=>?_)
 ·rw [yc1]; rfl
 ·simp -implicitDefEqProofs only [e101,c92_4_e,yc1,setA,setB,za,zb,zc,zd,ze,zf,zg,zh,zi,zj,zk,zl,zm,zn,zo,zp,reduceCtorEq,zE,↓reduceIte]
  all_goals rfl
noncomputable def c85_0:Code:=bodyOf Tryz.f85
def c85_1:=cA c85_0
def c85_2:=cB c85_0
def c85_3:=cA c85_2
def c85_4:=cB c85_2
theorem c85_0_e:c85_0 = .seq c85_1 c85_2:=rfl
theorem c85_1_r:RG (E0 mm) 85 c85_1:=rgN rfl
theorem c85_2_e:c85_2 = .seq c85_3 c85_4:=rfl
theorem c85_3_r:RG (E0 mm) 85 c85_3:=rgN rfl
theorem c85_4_e:c85_4 = .ret:=rfl
abbrev R85:=(Bool)
def e85:R85→AV×Heap:=fun x=>(.v (.c (.d (.sc (.bool x)))),[])
def m85 (s:Bs):Option R85:=
 (m92 false s).bind fun yr2=>
  some (!yr2)
theorem f85_t (s:Bs):
  callW (E0 mm) 85 [.c (.d (.sc (.string (S s)))),.c (.d (.sc (.func (.func 86) #[] #[])))] [] = (m85 s).map e85:=by
 rw [callW_run (body:=c85_0) (res:=[.tmp 4]) Tryz.func85 rfl rfl (by kernel_rfl)]
 simp -implicitDefEqProofs only [m85,slots2,c85_0_e,c85_1_r,(show opsOf c85_1 = _ :: _ from rfl),c85_2_e,c85_3_r,(show opsOf c85_3 = _ :: _ from rfl),Tryz.underlying9,Tryz.underlying24,Tryz.underlying5,hd36,rw37,ent92,prm92,(show callW (E0 mm) 92 [.c (.d (.lst false (enL enB s))),.c (.fn 93 [(0,0)])] [.cells [.d (.sc (.func (.func 86) #[] #[]))]] = _ from f92_t false s),setA,setB,za,zb,zc,zd,ze,zf,zg,zh,zi,zj,zk,zl,zm,zn,zo,zp,reduceCtorEq,zE,↓reduceIte]
 refine brM (fun yc1=>?_) (fun yr2 yc1=>?_)
 ·rw [yc1]; rfl
 ·simp -implicitDefEqProofs only [e92,c85_4_e,yc1,setA,setB,za,zb,zc,zd,ze,zf,zg,zh,zi,zj,zk,zl,zm,zn,zo,zp,reduceCtorEq,zE,↓reduceIte]
  all_goals rfl
noncomputable def c71_0:Code:=bodyOf Tryz.f71
def c71_1:=cA c71_0
def c71_2:=cB c71_0
def c71_3:=cA c71_2
def c71_4:=cB c71_2
theorem c71_0_e:c71_0 = .seq c71_1 c71_2:=rfl
theorem c71_1_r:RG (E0 mm) 71 c71_1:=rgN rfl
theorem c71_2_e:c71_2 = .seq c71_3 c71_4:=rfl
theorem c71_3_r:RG (E0 mm) 71 c71_3:=rgN rfl
theorem c71_4_e:c71_4 = .ret:=rfl
abbrev R71:=(Bool)
def e71:R71→AV×Heap:=fun x=>(.v (.c (.d (.sc (.bool x)))),[])
def m71 (s:Bs):Option R71:=
 if (s == ([]:Bs)) = true then
  some false
 else
  (m85 s).bind fun yr3=>
   some yr3
theorem f71_t (s:Bs):
  callW (E0 mm) 71 [.c (.d (.sc (.string (S s))))] [] = (m71 s).map e71:=by
 rw [callW_run (body:=c71_0) (res:=[.tmp 2]) Tryz.func71 rfl rfl (by kernel_rfl)]
 simp -implicitDefEqProofs only [m71,slots1,c71_0_e,c71_1_r,(show opsOf c71_1 = _ :: _ from rfl),c71_2_e,c71_3_r,(show opsOf c71_3 = _ :: _ from rfl),setA,setB,za,zb,zc,zd,ze,zf,zg,zh,zi,zj,zk,zl,zm,zn,zo,zp,reduceCtorEq,zE,↓reduceIte]
 refine brB (fun yc1=>?_) (fun yc1=>?_)
 ·simp -implicitDefEqProofs only [c71_4_e,yc1,setA,setB,za,zb,zc,zd,ze,zf,zg,zh,zi,zj,zk,zl,zm,zn,zo,zp,reduceCtorEq,zE,↓reduceIte]
  all_goals rfl
 ·simp -implicitDefEqProofs only [ent85,prm85,f85_t,yc1,setA,setB,za,zb,zc,zd,ze,zf,zg,zh,zi,zj,zk,zl,zm,zn,zo,zp,reduceCtorEq,zE,↓reduceIte]
  refine brM (fun yc2=>?_) (fun yr3 yc2=>?_)
  ·rw [yc2]; rfl
  ·simp -implicitDefEqProofs only [e85,c71_4_e,yc1,yc2,setA,setB,za,zb,zc,zd,ze,zf,zg,zh,zi,zj,zk,zl,zm,zn,zo,zp,reduceCtorEq,zE,↓reduceIte]
   all_goals rfl
noncomputable def c88_0:Code:=bodyOf Tryz.f88
def c88_1:=cA c88_0
def c88_2:=cB c88_0
def c88_3:=cA c88_2
def c88_4:=cB c88_2
theorem c88_0_e:c88_0 = .seq c88_1 c88_2:=rfl
theorem c88_1_r:RG (E0 mm) 88 c88_1:=rgN rfl
theorem c88_2_e:c88_2 = .seq c88_3 c88_4:=rfl
theorem c88_3_r:RG (E0 mm) 88 c88_3:=rgN rfl
theorem c88_4_e:c88_4 = .ret:=rfl
abbrev R88:=(Bool)
def e88:R88→AV×Heap:=fun x=>(.v (.c (.d (.sc (.bool x)))),[])
def m88 (c:UInt8):Option R88:=
 if (c == (9:UInt8)) = true then
  some true
 else
  if (decide ((32:UInt8)≤c)) = true then
   some (!(c == (127:UInt8)))
  else
   some false
theorem f88_t (c:UInt8):
  callW (E0 mm) 88 [.c (.d (.sc (.int .u8 ((c).toNat:Int))))] [] = (m88 c).map e88:=by
 rw [callW_run (body:=c88_0) (res:=[.tmp 2]) Tryz.func88 rfl rfl (by kernel_rfl)]
 simp -implicitDefEqProofs only [m88,slots1,c88_0_e,c88_1_r,(show opsOf c88_1 = _ :: _ from rfl),c88_2_e,c88_3_r,(show opsOf c88_3 = _ :: _ from rfl),setA,setB,za,zb,zc,zd,ze,zf,zg,zh,zi,zj,zk,zl,zm,zn,zo,zp,reduceCtorEq,zE,↓reduceIte]
 refine brB (fun yc1=>?_) (fun yc1=>?_)
 ·simp -implicitDefEqProofs only [c88_4_e,yc1,setA,setB,za,zb,zc,zd,ze,zf,zg,zh,zi,zj,zk,zl,zm,zn,zo,zp,reduceCtorEq,zE,↓reduceIte]
  all_goals rfl
 ·simp -implicitDefEqProofs only [yc1,setA,setB,za,zb,zc,zd,ze,zf,zg,zh,zi,zj,zk,zl,zm,zn,zo,zp,reduceCtorEq,zE,↓reduceIte]
  refine brB (fun yc2=>?_) (fun yc2=>?_)
  ·simp -implicitDefEqProofs only [c88_4_e,yc1,yc2,setA,setB,za,zb,zc,zd,ze,zf,zg,zh,zi,zj,zk,zl,zm,zn,zo,zp,reduceCtorEq,zE,↓reduceIte]
   all_goals rfl
  ·simp -implicitDefEqProofs only [c88_4_e,yc1,yc2,setA,setB,za,zb,zc,zd,ze,zf,zg,zh,zi,zj,zk,zl,zm,zn,zo,zp,reduceCtorEq,zE,↓reduceIte]
   all_goals rfl
end
end Go.Proofs.YteajgnaeklbpeaaGreatDoor
