/- The Go functions as plain functions, and that the evaluator computes them. -/
import Derived.Test.YteajgnaeklbpeaaGreatDoorFTells1
set_option linter.all false
set_option maxRecDepth 100000
namespace Go.Proofs.YteajgnaeklbpeaaGreatDoor
open Go Go.Ab
open Nat renaming reduceEqDiff→za,reduceAdd→zb,reduceLeDiff→zc,reduceLT→zd,reduceMul→ze,reduceBEq→zf,reduceSub→zg,reducePow→zh
open Int renaming reduceEq→zi,reduceLE→zj,reduceLT→zk,reduceToNat→zl,reduceNegSucc→zm,reduceAdd→zn,reduceBEq→zo
open String renaming reduceBEq→zp
set_option maxHeartbeats 4000000
noncomputable section
variable {mm:Int}
noncomputable def c72_0:Code:=bodyOf Tryz.f72
def c72_1:=cA c72_0
def c72_2:=cB c72_0
def c72_3:=cA c72_2
def c72_4:=cA c72_3
def c72_5:=cB c72_3
def c72_6:=cA c72_5
def c72_7:=cA c72_6
def c72_8:=cB c72_6
def c72_9:=cB c72_5
def c72_10:=cB c72_2
def c72_11:=cA c72_10
def c72_12:=cB c72_10
def c72_13:=cA c72_12
def c72_14:=cB c72_12
def c72_15:=cA c72_14
def c72_16:=cA c72_15
def c72_17:=cB c72_15
def c72_18:=cA c72_17
def c72_19:=cA c72_18
def c72_20:=cA c72_19
def c72_21:=cA c72_20
def c72_22:=cB c72_20
def c72_23:=cA c72_22
def c72_24:=cB c72_22
def c72_25:=cB c72_19
def c72_26:=cA c72_25
def c72_27:=cA c72_26
def c72_28:=cA c72_27
def c72_29:=cA c72_28
def c72_30:=cA c72_29
def c72_31:=cB c72_29
def c72_32:=cA c72_31
def c72_33:=cA c72_32
def c72_34:=cB c72_32
def c72_35:=cB c72_31
def c72_36:=cA c72_35
def c72_37:=cB c72_35
def c72_38:=cA c72_37
def c72_39:=cA c72_38
def c72_40:=cB c72_38
def c72_41:=cA c72_40
def c72_42:=cB c72_40
def c72_43:=cA c72_42
def c72_44:=cA c72_43
def c72_45:=cB c72_43
def c72_46:=cB c72_42
def c72_47:=cB c72_37
def c72_48:=cB c72_27
def c72_49:=cA c72_48
def c72_50:=cA c72_49
def c72_51:=cB c72_49
def c72_52:=cA c72_51
def c72_53:=cA c72_52
def c72_54:=cB c72_52
def c72_55:=cB c72_51
def c72_56:=cB c72_48
def c72_57:=cB c72_25
def c72_58:=cB c72_14
def c72_59:=cA c72_58
def c72_60:=cB c72_58
theorem c72_0_e:c72_0 = .seq c72_1 c72_2:=rfl
theorem c72_1_r:RG (E0 mm) 72 c72_1:=rgN rfl
theorem c72_2_e:c72_2 = .seq c72_3 c72_10:=rfl
theorem c72_3_e:c72_3 = .seq c72_4 c72_5:=rfl
theorem c72_4_r:RG (E0 mm) 72 c72_4:=rgN rfl
theorem c72_6_e:c72_6 = .seq c72_7 c72_8:=rfl
theorem c72_7_r:RG (E0 mm) 72 c72_7:=rgN rfl
theorem c72_8_e:c72_8 = .ret:=rfl
theorem c72_9_e:c72_9 = .skip:=rfl
theorem c72_10_e:c72_10 = .seq c72_11 c72_12:=rfl
theorem c72_11_r:RG (E0 mm) 72 c72_11:=rgN rfl
theorem c72_12_e:c72_12 = .seq c72_13 c72_14:=rfl
theorem c72_13_r:RG (E0 mm) 72 c72_13:=rgN rfl
theorem c72_14_e:c72_14 = .seq c72_15 c72_58:=rfl
theorem c72_15_e:c72_15 = .seq c72_16 c72_17:=rfl
theorem c72_16_r:RG (E0 mm) 72 c72_16:=rgN rfl
theorem c72_17_e:c72_17 = .block 0 c72_18:=rfl
theorem c72_18_l (m:Nat) (st:St):den (E0 mm) 72 m (callW (E0 mm)) itW c72_18 none st = loopD itW (loopF (E0 mm) 72 m (callW (E0 mm)) itW c72_19 [(4,.own),(5,.keep),(6,.keep)]) (canon m [(4,.own),(5,.keep),(6,.keep)] st):=rfl
theorem c72_19_e:c72_19 = .seq c72_20 c72_25:=rfl
theorem c72_20_e:c72_20 = .seq c72_21 c72_22:=rfl
theorem c72_21_r:RG (E0 mm) 72 c72_21:=rgN rfl
theorem c72_23_e:c72_23 = .skip:=rfl
theorem c72_24_e:c72_24 = .exit 0:=rfl
theorem c72_25_e:c72_25 = .seq c72_26 c72_57:=rfl
theorem c72_26_e:c72_26 = .block 1 c72_27:=rfl
theorem c72_27_e:c72_27 = .seq c72_28 c72_48:=rfl
theorem c72_28_e:c72_28 = .block 2 c72_29:=rfl
theorem c72_29_e:c72_29 = .seq c72_30 c72_31:=rfl
theorem c72_30_r:RG (E0 mm) 72 c72_30:=rgN rfl
theorem c72_32_e:c72_32 = .seq c72_33 c72_34:=rfl
theorem c72_33_r:RG (E0 mm) 72 c72_33:=rgN rfl
theorem c72_34_e:c72_34 = .ret:=rfl
theorem c72_35_e:c72_35 = .seq c72_36 c72_37:=rfl
theorem c72_36_r:RG (E0 mm) 72 c72_36:=rgN rfl
theorem c72_38_e:c72_38 = .seq c72_39 c72_40:=rfl
theorem c72_39_r:RG (E0 mm) 72 c72_39:=rgN rfl
theorem c72_40_e:c72_40 = .seq c72_41 c72_42:=rfl
theorem c72_41_r:RG (E0 mm) 72 c72_41:=rgN rfl
theorem c72_43_e:c72_43 = .seq c72_44 c72_45:=rfl
theorem c72_44_r:RG (E0 mm) 72 c72_44:=rgN rfl
theorem c72_45_e:c72_45 = .ret:=rfl
theorem c72_46_e:c72_46 = .skip:=rfl
theorem c72_47_e:c72_47 = .skip:=rfl
theorem c72_48_e:c72_48 = .seq c72_49 c72_56:=rfl
theorem c72_49_e:c72_49 = .seq c72_50 c72_51:=rfl
theorem c72_50_r:RG (E0 mm) 72 c72_50:=rgN rfl
theorem c72_52_e:c72_52 = .seq c72_53 c72_54:=rfl
theorem c72_53_r:RG (E0 mm) 72 c72_53:=rgN rfl
theorem c72_54_e:c72_54 = .ret:=rfl
theorem c72_55_e:c72_55 = .skip:=rfl
theorem c72_56_r:RG (E0 mm) 72 c72_56:=rgN rfl
theorem c72_57_r:RG (E0 mm) 72 c72_57:=rgN rfl
theorem c72_58_e:c72_58 = .seq c72_59 c72_60:=rfl
theorem c72_59_r:RG (E0 mm) 72 c72_59:=rgN rfl
theorem c72_60_e:c72_60 = .ret:=rfl
abbrev R72:=(Bs×Bool)
def e72:R72→AV×Heap:=fun x=>(.tup [.c (.d (.sc (.string (S x.1)))),.c (.d (.sc (.bool x.2)))],[])
def K72_18:Option (Ex×St)→Option (AV×Heap):=fun r=>bodyD (E0 mm) [.tmp 2,.tmp 3] 0 false (seqD (E0 mm) 72 0 (callW (E0 mm)) itW c72_58 (blockD 0 (r)))
def en72_18:(Bool×List UInt8×Bs×Int)→X:=fun x=>(none,[.v (.c (.own x.1 (enL enB x.2.1) 0)),.v (.c (.d (.sc (.string (S x.2.2.1))))),.v (.c (.d (.sc (.int .i64 x.2.2.2))))],[.row x.2.1.length (rz x.1 1)])
def j72_48 (b4_0:Bool) (b4_1:List UInt8) (in5:Bs) (i6:Int):Option ((Bool×List UInt8×Bs×Int) ⊕ R72):=
 if 0≤i6∧i6 < (in5.length:Int) then
  (m88 (in5.getD i6.toNat 0)).bind fun yr14=>
   if yr14 = true then
    if (b4_1.length + 1) * 1≤140737488355328 then
     some (.inl (false,(b4_1 ++ ([(in5.getD i6.toNat 0)]:List UInt8)),in5,(w64 (i6 + 1))))
    else none
   else
    some (.inr (([]:Bs),false))
 else none
theorem j72_48_t (b4_0:Bool) (b4_1:List UInt8) (in5:Bs) (i6:Int)  (sl:Nat→AV) (zq4:sl 4 = .v (.c (.own b4_0 (enL enB b4_1) 0))) (zq5:sl 5 = .v (.c (.d (.sc (.string (S in5)))))) (zq6:sl 6 = .v (.c (.d (.sc (.int .i64 i6))))):
  stepE (K72_18 (mm:=mm)) (loopK 0 [(4,.own),(5,.keep),(6,.keep)] (seqD (E0 mm) 72 0 (callW (E0 mm)) itW c72_57 (blockD 1 (den (E0 mm) 72 0 (callW (E0 mm)) itW c72_48 none ⟨sl,[.row b4_1.length (rz b4_0 1)]⟩)))) = (j72_48 b4_0 b4_1 in5 i6).map (sm en72_18 e72):=by
 simp -implicitDefEqProofs only [j72_48,c72_48_e,c72_49_e,c72_50_r,(show opsOf c72_50 = _ :: _ from rfl),Tryz.underlying9,zq4,zq5,zq6,setA,setB,za,zb,zc,zd,ze,zf,zg,zh,zi,zj,zk,zl,zm,zn,zo,zp,reduceCtorEq,zE,↓reduceIte]
 refine brP (fun yc12=>?_) (fun yc12=>?_)
 ·simp -implicitDefEqProofs only [ent88,prm88,f88_t,zq4,zq5,zq6,yc12,setA,setB,za,zb,zc,zd,ze,zf,zg,zh,zi,zj,zk,zl,zm,zn,zo,zp,reduceCtorEq,zE,↓reduceIte]
  refine brM (fun yc13=>?_) (fun yr14 yc13=>?_)
  ·rw [yc13]; rfl
  ·simp -implicitDefEqProofs only [e88,(show c72_51 = Code.cond _ c72_52 c72_55 from rfl),zq4,zq5,zq6,yc12,yc13,setA,setB,za,zb,zc,zd,ze,zf,zg,zh,zi,zj,zk,zl,zm,zn,zo,zp,reduceCtorEq,zE,↓reduceIte]
   refine brB (fun yc15=>?_) (fun yc15=>?_)
   ·simp -implicitDefEqProofs only [c72_55_e,c72_56_r,(show opsOf c72_56 = _ :: _ from rfl),Tryz.underlying9,Tryz.underlying24,sz5,zc5,hd38,nv39,rw40,ns16,ap24,zq4,zq5,zq6,yc12,yc13,yc15,setA,setB,za,zb,zc,zd,ze,zf,zg,zh,zi,zj,zk,zl,zm,zn,zo,zp,reduceCtorEq,zE,↓reduceIte]
    refine brP (fun yc16=>?_) (fun yc16=>?_)
    ·simp -implicitDefEqProofs only [c72_57_r,(show opsOf c72_57 = _ :: _ from rfl),zq4,zq5,zq6,yc12,yc13,yc15,yc16,setA,setB,za,zb,zc,zd,ze,zf,zg,zh,zi,zj,zk,zl,zm,zn,zo,zp,reduceCtorEq,zE,↓reduceIte]
     all_goals rfl
    ·rw [if_neg yc16]; rfl
   ·simp -implicitDefEqProofs only [c72_52_e,c72_53_r,(show opsOf c72_53 = _ :: _ from rfl),c72_54_e,K72_18,zq4,zq5,zq6,yc12,yc13,yc15,setA,setB,za,zb,zc,zd,ze,zf,zg,zh,zi,zj,zk,zl,zm,zn,zo,zp,reduceCtorEq,zE,↓reduceIte]
    all_goals rfl
 ·rw [if_neg yc12]; rfl
def j72_58 (b4_0:Bool) (b4_1:List UInt8):Option R72:=
 some (b4_1,true)
theorem j72_58_t (b4_0:Bool) (b4_1:List UInt8)  (sl:Nat→AV) (zq4:sl 4 = .v (.c (.own b4_0 (enL enB b4_1) 0))):
  bodyD (E0 mm) [.tmp 2,.tmp 3] 0 false (den (E0 mm) 72 0 (callW (E0 mm)) itW c72_58 none ⟨sl,[.row b4_1.length (rz b4_0 1)]⟩) = (j72_58 b4_0 b4_1).map e72:=by
 simp -implicitDefEqProofs only [j72_58,c72_58_e,c72_59_r,(show opsOf c72_59 = _ :: _ from rfl),Tryz.underlying24,Tryz.underlying9,Tryz.underlying5,c72_60_e,zq4,setA,setB,za,zb,zc,zd,ze,zf,zg,zh,zi,zj,zk,zl,zm,zn,zo,zp,reduceCtorEq,zE,↓reduceIte]
 all_goals rfl
def s72_18 (b4_0:Bool) (b4_1:List UInt8) (in5:Bs) (i6:Int):Option ((Bool×List UInt8×Bs×Int) ⊕ R72):=
 if (decide (i6 < (in5.length:Int))) = true then
  if 0≤i6∧i6 < (in5.length:Int) then
   if ((in5.getD i6.toNat 0) == (34:UInt8)) = true then
    some (.inr (([]:Bs),false))
   else
    if ((in5.getD i6.toNat 0) == (92:UInt8)) = true then
     if ((w64 (i6 + 1)) == (in5.length:Int)) = true then
      some (.inr (([]:Bs),false))
     else
      j72_48 b4_0 b4_1 in5 (w64 (i6 + 1))
    else
     j72_48 b4_0 b4_1 in5 i6
  else none
 else
  (j72_58 b4_0 b4_1).map .inr
theorem s72_18_t (b4_0:Bool) (b4_1:List UInt8) (in5:Bs) (i6:Int):
  stepE (K72_18 (mm:=mm)) (loopF (E0 mm) 72 0 (callW (E0 mm)) itW c72_19 [(4,.own),(5,.keep),(6,.keep)] (none,[.v (.c (.own b4_0 (enL enB b4_1) 0)),.v (.c (.d (.sc (.string (S in5))))),.v (.c (.d (.sc (.int .i64 i6))))],[.row b4_1.length (rz b4_0 1)])) = (s72_18 b4_0 b4_1 in5 i6).map (sm en72_18 e72):=by
 simp -implicitDefEqProofs only [s72_18,loopF_eq,c72_19_e,c72_20_e,c72_21_r,(show opsOf c72_21 = _ :: _ from rfl),Tryz.underlying9,(show c72_22 = Code.cond _ c72_23 c72_24 from rfl),setA,setB,za,zb,zc,zd,ze,zf,zg,zh,zi,zj,zk,zl,zm,zn,zo,zp,reduceCtorEq,zE,↓reduceIte]
 refine brB (fun yc7=>?_) (fun yc7=>?_)
 ·simp -implicitDefEqProofs only [c72_23_e,c72_25_e,c72_26_e,c72_27_e,c72_28_e,c72_29_e,c72_30_r,(show opsOf c72_30 = _ :: _ from rfl),Tryz.underlying9,yc7,setA,setB,za,zb,zc,zd,ze,zf,zg,zh,zi,zj,zk,zl,zm,zn,zo,zp,reduceCtorEq,zE,↓reduceIte]
  refine brP (fun yc8=>?_) (fun yc8=>?_)
  ·simp -implicitDefEqProofs only [(show c72_31 = Code.cond _ c72_32 c72_35 from rfl),yc7,yc8,setA,setB,za,zb,zc,zd,ze,zf,zg,zh,zi,zj,zk,zl,zm,zn,zo,zp,reduceCtorEq,zE,↓reduceIte]
   refine brB (fun yc9=>?_) (fun yc9=>?_)
   ·simp -implicitDefEqProofs only [c72_32_e,c72_33_r,(show opsOf c72_33 = _ :: _ from rfl),c72_34_e,K72_18,yc7,yc8,yc9,setA,setB,za,zb,zc,zd,ze,zf,zg,zh,zi,zj,zk,zl,zm,zn,zo,zp,reduceCtorEq,zE,↓reduceIte]
    all_goals rfl
   ·simp -implicitDefEqProofs only [c72_35_e,c72_36_r,(show opsOf c72_36 = _ :: _ from rfl),Tryz.underlying9,(show c72_37 = Code.cond _ c72_38 c72_47 from rfl),yc7,yc8,yc9,setA,setB,za,zb,zc,zd,ze,zf,zg,zh,zi,zj,zk,zl,zm,zn,zo,zp,reduceCtorEq,zE,↓reduceIte]
    refine brB (fun yc10=>?_) (fun yc10=>?_)
    ·simp -implicitDefEqProofs only [c72_38_e,c72_39_r,(show opsOf c72_39 = _ :: _ from rfl),c72_40_e,c72_41_r,(show opsOf c72_41 = _ :: _ from rfl),Tryz.underlying9,(show c72_42 = Code.cond _ c72_43 c72_46 from rfl),yc7,yc8,yc9,yc10,setA,setB,za,zb,zc,zd,ze,zf,zg,zh,zi,zj,zk,zl,zm,zn,zo,zp,reduceCtorEq,zE,↓reduceIte]
     refine brB (fun yc11=>?_) (fun yc11=>?_)
     ·simp -implicitDefEqProofs only [c72_43_e,c72_44_r,(show opsOf c72_44 = _ :: _ from rfl),c72_45_e,K72_18,yc7,yc8,yc9,yc10,yc11,setA,setB,za,zb,zc,zd,ze,zf,zg,zh,zi,zj,zk,zl,zm,zn,zo,zp,reduceCtorEq,zE,↓reduceIte]
      all_goals rfl
     ·simp -implicitDefEqProofs only [c72_46_e,yc7,yc8,yc9,yc10,yc11,setA,setB,za,zb,zc,zd,ze,zf,zg,zh,zi,zj,zk,zl,zm,zn,zo,zp,reduceCtorEq,zE,↓reduceIte]
      exact j72_48_t b4_0 b4_1 in5 (w64 (i6 + 1)) _ (by rfl) (by rfl) (by rfl)
    ·simp -implicitDefEqProofs only [c72_47_e,yc7,yc8,yc9,yc10,setA,setB,za,zb,zc,zd,ze,zf,zg,zh,zi,zj,zk,zl,zm,zn,zo,zp,reduceCtorEq,zE,↓reduceIte]
     exact j72_48_t b4_0 b4_1 in5 i6 _ (by rfl) (by rfl) (by rfl)
  ·rw [if_neg yc8]; rfl
 ·simp -implicitDefEqProofs only [c72_24_e,K72_18,yc7,setA,setB,za,zb,zc,zd,ze,zf,zg,zh,zi,zj,zk,zl,zm,zn,zo,zp,reduceCtorEq,zE,↓reduceIte]
  exact mi (j72_58_t b4_0 b4_1 _ (by rfl))
def l72_18 (b4_0:Bool) (b4_1:List UInt8) (in5:Bs) (i6:Int):Option R72:=iter (fun x:(Bool×List UInt8×Bs×Int)=>s72_18 x.1 x.2.1 x.2.2.1 x.2.2.2) (b4_0,b4_1,in5,i6)
theorem l72_18_t (b4_0:Bool) (b4_1:List UInt8) (in5:Bs) (i6:Int):bodyD (E0 mm) [.tmp 2,.tmp 3] 0 false (seqD (E0 mm) 72 0 (callW (E0 mm)) itW c72_58 (blockD 0 (itW (loopF (E0 mm) 72 0 (callW (E0 mm)) itW c72_19 [(4,.own),(5,.keep),(6,.keep)]) (none,[.v (.c (.own b4_0 (enL enB b4_1) 0)),.v (.c (.d (.sc (.string (S in5))))),.v (.c (.d (.sc (.int .i64 i6))))],[.row b4_1.length (rz b4_0 1)])))) = (l72_18 b4_0 b4_1 in5 i6).map e72:=
 it_sim (K:=(K72_18 (mm:=mm))) rfl (enc:=en72_18) (fun x=>s72_18_t x.1 x.2.1 x.2.2.1 x.2.2.2) (b4_0,b4_1,in5,i6)
def j72_5 (s0:Bs) (t22:Bool):Option R72:=
 if t22 = true then
  some (([]:Bs),false)
 else
  (bnd (w64 ((s0.length:Int) - 1)) s0.length).bind fun yk4=>
   (bnd 1 yk4).bind fun yk6=>
    l72_18 true ([]:List UInt8) ((s0.take yk4).drop yk6) (0:Int)
theorem j72_5_t (s0:Bs) (t22:Bool)  (sl:Nat→AV) (zq0:sl 0 = .v (.c (.d (.sc (.string (S s0)))))) (zq22:sl 22 = .v (.c (.d (.sc (.bool t22))))):
  bodyD (E0 mm) [.tmp 2,.tmp 3] 0 false (seqD (E0 mm) 72 0 (callW (E0 mm)) itW c72_10 (den (E0 mm) 72 0 (callW (E0 mm)) itW c72_5 none ⟨sl,[]⟩)) = (j72_5 s0 t22).map e72:=by
 simp -implicitDefEqProofs only [j72_5,(show c72_5 = Code.cond _ c72_6 c72_9 from rfl),zq0,zq22,setA,setB,za,zb,zc,zd,ze,zf,zg,zh,zi,zj,zk,zl,zm,zn,zo,zp,reduceCtorEq,zE,↓reduceIte]
 refine brB (fun yc2=>?_) (fun yc2=>?_)
 ·simp -implicitDefEqProofs only [c72_6_e,c72_7_r,(show opsOf c72_7 = _ :: _ from rfl),c72_8_e,zq0,zq22,yc2,setA,setB,za,zb,zc,zd,ze,zf,zg,zh,zi,zj,zk,zl,zm,zn,zo,zp,reduceCtorEq,zE,↓reduceIte]
  all_goals rfl
 ·simp -implicitDefEqProofs only [c72_9_e,c72_10_e,c72_11_r,(show opsOf c72_11 = _ :: _ from rfl),c72_12_e,c72_13_r,(show opsOf c72_13 = _ :: _ from rfl),Tryz.underlying9,zq0,zq22,yc2,setA,setB,za,zb,zc,zd,ze,zf,zg,zh,zi,zj,zk,zl,zm,zn,zo,zp,reduceCtorEq,zE,↓reduceIte]
  refine brM (fun yc3=>?_) (fun yk4 yc3=>?_)
  ·rw [yc3]; rfl
  ·simp -implicitDefEqProofs only [zq0,zq22,yc2,yc3,setA,setB,za,zb,zc,zd,ze,zf,zg,zh,zi,zj,zk,zl,zm,zn,zo,zp,reduceCtorEq,zE,↓reduceIte]
   refine brM (fun yc5=>?_) (fun yk6 yc5=>?_)
   ·rw [yc5]; rfl
   ·simp -implicitDefEqProofs only [c72_14_e,c72_15_e,c72_16_r,(show opsOf c72_16 = _ :: _ from rfl),c72_17_e,c72_18_l,zq0,zq22,yc2,yc3,yc5,setA,setB,za,zb,zc,zd,ze,zf,zg,zh,zi,zj,zk,zl,zm,zn,zo,zp,reduceCtorEq,zE,↓reduceIte]
    exact l72_18_t true ([]:List UInt8) ((s0.take yk4).drop yk6) (0:Int)
def m72 (s:Bs):Option R72:=
 if (decide ((s.length:Int) < 2)) = true then
  j72_5 s true
 else
  if (0:Int) < (s.length:Int) then
   if ((s.getD 0 0) == (34:UInt8)) = true then
    if 0≤(w64 ((s.length:Int) - 1))∧(w64 ((s.length:Int) - 1)) < (s.length:Int) then
     j72_5 s (!((s.getD (w64 ((s.length:Int) - 1)).toNat 0) == (34:UInt8)))
    else none
   else
    j72_5 s true
  else none
theorem f72_t (s:Bs):
  callW (E0 mm) 72 [.c (.d (.sc (.string (S s))))] [] = (m72 s).map e72:=by
 rw [callW_run (body:=c72_0) (res:=[.tmp 2,.tmp 3]) Tryz.func72 rfl rfl (by kernel_rfl)]
 simp -implicitDefEqProofs only [m72,slots1,c72_0_e,c72_1_r,(show opsOf c72_1 = _ :: _ from rfl),c72_2_e,c72_3_e,c72_4_r,(show opsOf c72_4 = _ :: _ from rfl),Tryz.underlying9,setA,setB,za,zb,zc,zd,ze,zf,zg,zh,zi,zj,zk,zl,zm,zn,zo,zp,reduceCtorEq,zE,↓reduceIte]
 refine brB (fun yc1=>?_) (fun yc1=>?_)
 ·simp -implicitDefEqProofs only [yc1,setA,setB,za,zb,zc,zd,ze,zf,zg,zh,zi,zj,zk,zl,zm,zn,zo,zp,reduceCtorEq,zE,↓reduceIte]
  exact j72_5_t s true _ (by rfl) (by rfl)
 ·simp -implicitDefEqProofs only [Tryz.underlying9,yc1,setA,setB,za,zb,zc,zd,ze,zf,zg,zh,zi,zj,zk,zl,zm,zn,zo,zp,reduceCtorEq,zE,↓reduceIte]
  refine brP (fun yc17=>?_) (fun yc17=>?_)
  ·simp -implicitDefEqProofs only [yc1,yc17,setA,setB,za,zb,zc,zd,ze,zf,zg,zh,zi,zj,zk,zl,zm,zn,zo,zp,reduceCtorEq,zE,↓reduceIte]
   refine brB (fun yc18=>?_) (fun yc18=>?_)
   ·simp -implicitDefEqProofs only [Tryz.underlying9,yc1,yc17,yc18,setA,setB,za,zb,zc,zd,ze,zf,zg,zh,zi,zj,zk,zl,zm,zn,zo,zp,reduceCtorEq,zE,↓reduceIte]
    refine brP (fun yc19=>?_) (fun yc19=>?_)
    ·simp -implicitDefEqProofs only [yc1,yc17,yc18,yc19,setA,setB,za,zb,zc,zd,ze,zf,zg,zh,zi,zj,zk,zl,zm,zn,zo,zp,reduceCtorEq,zE,↓reduceIte]
     exact j72_5_t s (!((s.getD (w64 ((s.length:Int) - 1)).toNat 0) == (34:UInt8))) _ (by rfl) (by rfl)
    ·rw [if_neg yc19]; rfl
   ·simp -implicitDefEqProofs only [yc1,yc17,yc18,setA,setB,za,zb,zc,zd,ze,zf,zg,zh,zi,zj,zk,zl,zm,zn,zo,zp,reduceCtorEq,zE,↓reduceIte]
    exact j72_5_t s true _ (by rfl) (by rfl)
  ·rw [if_neg yc17]; rfl
noncomputable def c54_0:Code:=bodyOf Tryz.f54
def c54_1:=cA c54_0
def c54_2:=cB c54_0
def c54_3:=cA c54_2
def c54_4:=cB c54_2
def c54_5:=cA c54_4
def c54_6:=cA c54_5
def c54_7:=cB c54_5
def c54_8:=cA c54_7
def c54_9:=cA c54_8
def c54_10:=cB c54_8
def c54_11:=cB c54_7
def c54_12:=cB c54_4
def c54_13:=cA c54_12
def c54_14:=cA c54_13
def c54_15:=cB c54_13
def c54_16:=cA c54_15
def c54_17:=cA c54_16
def c54_18:=cB c54_16
def c54_19:=cB c54_15
def c54_20:=cB c54_12
def c54_21:=cA c54_20
def c54_22:=cB c54_20
def c54_23:=cA c54_22
def c54_24:=cA c54_23
def c54_25:=cB c54_23
def c54_26:=cA c54_25
def c54_27:=cA c54_26
def c54_28:=cB c54_26
def c54_29:=cB c54_25
def c54_30:=cB c54_22
def c54_31:=cA c54_30
def c54_32:=cB c54_30
theorem c54_0_e:c54_0 = .seq c54_1 c54_2:=rfl
theorem c54_1_r:RG (E0 mm) 54 c54_1:=rgN rfl
theorem c54_2_e:c54_2 = .seq c54_3 c54_4:=rfl
theorem c54_3_r:RG (E0 mm) 54 c54_3:=rgN rfl
theorem c54_4_e:c54_4 = .seq c54_5 c54_12:=rfl
theorem c54_5_e:c54_5 = .seq c54_6 c54_7:=rfl
theorem c54_6_r:RG (E0 mm) 54 c54_6:=rgN rfl
theorem c54_8_e:c54_8 = .seq c54_9 c54_10:=rfl
theorem c54_9_r:RG (E0 mm) 54 c54_9:=rgN rfl
theorem c54_10_e:c54_10 = .ret:=rfl
theorem c54_11_e:c54_11 = .skip:=rfl
theorem c54_12_e:c54_12 = .seq c54_13 c54_20:=rfl
theorem c54_13_e:c54_13 = .seq c54_14 c54_15:=rfl
theorem c54_14_r:RG (E0 mm) 54 c54_14:=rgN rfl
theorem c54_16_e:c54_16 = .seq c54_17 c54_18:=rfl
theorem c54_17_r:RG (E0 mm) 54 c54_17:=rgN rfl
theorem c54_18_e:c54_18 = .ret:=rfl
theorem c54_19_e:c54_19 = .skip:=rfl
theorem c54_20_e:c54_20 = .seq c54_21 c54_22:=rfl
theorem c54_21_r:RG (E0 mm) 54 c54_21:=rgN rfl
theorem c54_22_e:c54_22 = .seq c54_23 c54_30:=rfl
theorem c54_23_e:c54_23 = .seq c54_24 c54_25:=rfl
theorem c54_24_r:RG (E0 mm) 54 c54_24:=rgN rfl
theorem c54_26_e:c54_26 = .seq c54_27 c54_28:=rfl
theorem c54_27_r:RG (E0 mm) 54 c54_27:=rgN rfl
theorem c54_28_e:c54_28 = .ret:=rfl
theorem c54_29_e:c54_29 = .skip:=rfl
theorem c54_30_e:c54_30 = .seq c54_31 c54_32:=rfl
theorem c54_31_r:RG (E0 mm) 54 c54_31:=rgN rfl
theorem c54_32_e:c54_32 = .ret:=rfl
abbrev R54:=(Bs×Bs×Bool)
def e54:R54→AV×Heap:=fun x=>(.tup [.c (.d (.sc (.string (S x.1)))),.c (.d (.sc (.string (S x.2.1)))),.c (.d (.sc (.bool x.2.2)))],[])
def j54_15 (name5 value6:Bs) (t24:Bool):Option R54:=
 if t24 = true then
  (m58 name5).bind fun yr11=>
   some (yr11,value6,true)
 else
  (m72 value6).bind fun yr13=>
   if yr13.2 = true then
    (m58 name5).bind fun yr16=>
     some (yr16,yr13.1,true)
   else
    some (([]:Bs),([]:Bs),false)
theorem j54_15_t (name5 value6:Bs) (t24:Bool)  (sl:Nat→AV) (zq5:sl 5 = .v (.c (.d (.sc (.string (S name5)))))) (zq6:sl 6 = .v (.c (.d (.sc (.string (S value6)))))) (zq24:sl 24 = .v (.c (.d (.sc (.bool t24))))):
  bodyD (E0 mm) [.tmp 2,.tmp 3,.tmp 4] 0 false (seqD (E0 mm) 54 0 (callW (E0 mm)) itW c54_20 (den (E0 mm) 54 0 (callW (E0 mm)) itW c54_15 none ⟨sl,[]⟩)) = (j54_15 name5 value6 t24).map e54:=by
 simp -implicitDefEqProofs only [j54_15,(show c54_15 = Code.cond _ c54_16 c54_19 from rfl),zq5,zq6,zq24,setA,setB,za,zb,zc,zd,ze,zf,zg,zh,zi,zj,zk,zl,zm,zn,zo,zp,reduceCtorEq,zE,↓reduceIte]
 refine brB (fun yc9=>?_) (fun yc9=>?_)
 ·simp -implicitDefEqProofs only [c54_16_e,c54_17_r,(show opsOf c54_17 = _ :: _ from rfl),ent58,prm58,f58_t,zq5,zq6,zq24,yc9,setA,setB,za,zb,zc,zd,ze,zf,zg,zh,zi,zj,zk,zl,zm,zn,zo,zp,reduceCtorEq,zE,↓reduceIte]
  refine brM (fun yc10=>?_) (fun yr11 yc10=>?_)
  ·rw [yc10]; rfl
  ·simp -implicitDefEqProofs only [e58,c54_18_e,zq5,zq6,zq24,yc9,yc10,setA,setB,za,zb,zc,zd,ze,zf,zg,zh,zi,zj,zk,zl,zm,zn,zo,zp,reduceCtorEq,zE,↓reduceIte]
   all_goals rfl
 ·simp -implicitDefEqProofs only [c54_19_e,c54_20_e,c54_21_r,(show opsOf c54_21 = _ :: _ from rfl),ent72,prm72,f72_t,zq5,zq6,zq24,yc9,setA,setB,za,zb,zc,zd,ze,zf,zg,zh,zi,zj,zk,zl,zm,zn,zo,zp,reduceCtorEq,zE,↓reduceIte]
  refine brM (fun yc12=>?_) (fun yr13 yc12=>?_)
  ·rw [yc12]; rfl
  ·simp -implicitDefEqProofs only [e72,c54_22_e,c54_23_e,c54_24_r,(show opsOf c54_24 = _ :: _ from rfl),(show c54_25 = Code.cond _ c54_26 c54_29 from rfl),zq5,zq6,zq24,yc9,yc12,setA,setB,za,zb,zc,zd,ze,zf,zg,zh,zi,zj,zk,zl,zm,zn,zo,zp,reduceCtorEq,zE,↓reduceIte]
   refine brB (fun yc14=>?_) (fun yc14=>?_)
   ·simp -implicitDefEqProofs only [c54_29_e,c54_30_e,c54_31_r,(show opsOf c54_31 = _ :: _ from rfl),ent58,prm58,f58_t,zq5,zq6,zq24,yc9,yc12,yc14,setA,setB,za,zb,zc,zd,ze,zf,zg,zh,zi,zj,zk,zl,zm,zn,zo,zp,reduceCtorEq,zE,↓reduceIte]
    refine brM (fun yc15=>?_) (fun yr16 yc15=>?_)
    ·rw [yc15]; rfl
    ·simp -implicitDefEqProofs only [e58,c54_32_e,zq5,zq6,zq24,yc9,yc12,yc14,yc15,setA,setB,za,zb,zc,zd,ze,zf,zg,zh,zi,zj,zk,zl,zm,zn,zo,zp,reduceCtorEq,zE,↓reduceIte]
     all_goals rfl
   ·simp -implicitDefEqProofs only [c54_26_e,c54_27_r,(show opsOf c54_27 = _ :: _ from rfl),c54_28_e,zq5,zq6,zq24,yc9,yc12,yc14,setA,setB,za,zb,zc,zd,ze,zf,zg,zh,zi,zj,zk,zl,zm,zn,zo,zp,reduceCtorEq,zE,↓reduceIte]
    all_goals rfl
def m54 (s:Bs):Option R54:=
 (m70 s ([61]:Bs)).bind fun yr2=>
  (m71 yr2.1).bind fun yr4=>
   if yr4 = true then
    if yr2.2.2 = true then
     (m71 yr2.2.1).bind fun yr8=>
      j54_15 yr2.1 yr2.2.1 yr8
    else
     j54_15 yr2.1 yr2.2.1 true
   else
    some (([]:Bs),([]:Bs),false)
theorem f54_t (s:Bs):
  callW (E0 mm) 54 [.c (.d (.sc (.string (S s))))] [] = (m54 s).map e54:=by
 rw [callW_run (body:=c54_0) (res:=[.tmp 2,.tmp 3,.tmp 4]) Tryz.func54 rfl rfl (by kernel_rfl)]
 simp -implicitDefEqProofs only [m54,slots1,c54_0_e,c54_1_r,(show opsOf c54_1 = _ :: _ from rfl),c54_2_e,c54_3_r,(show opsOf c54_3 = _ :: _ from rfl),ent70,prm70,(show callW (E0 mm) 70 [.c (.d (.sc (.string (S s)))),.c (.d (.sc (.string (S ([61]:Bs)))))] [] = _ from f70_t s ([61]:Bs)),setA,setB,za,zb,zc,zd,ze,zf,zg,zh,zi,zj,zk,zl,zm,zn,zo,zp,reduceCtorEq,zE,↓reduceIte]
 refine brM (fun yc1=>?_) (fun yr2 yc1=>?_)
 ·rw [yc1]; rfl
 ·simp -implicitDefEqProofs only [e70,c54_4_e,c54_5_e,c54_6_r,(show opsOf c54_6 = _ :: _ from rfl),ent71,prm71,f71_t,yc1,setA,setB,za,zb,zc,zd,ze,zf,zg,zh,zi,zj,zk,zl,zm,zn,zo,zp,reduceCtorEq,zE,↓reduceIte]
  refine brM (fun yc3=>?_) (fun yr4 yc3=>?_)
  ·rw [yc3]; rfl
  ·simp -implicitDefEqProofs only [e71,(show c54_7 = Code.cond _ c54_8 c54_11 from rfl),yc1,yc3,setA,setB,za,zb,zc,zd,ze,zf,zg,zh,zi,zj,zk,zl,zm,zn,zo,zp,reduceCtorEq,zE,↓reduceIte]
   refine brB (fun yc5=>?_) (fun yc5=>?_)
   ·simp -implicitDefEqProofs only [c54_11_e,c54_12_e,c54_13_e,c54_14_r,(show opsOf c54_14 = _ :: _ from rfl),yc1,yc3,yc5,setA,setB,za,zb,zc,zd,ze,zf,zg,zh,zi,zj,zk,zl,zm,zn,zo,zp,reduceCtorEq,zE,↓reduceIte]
    refine brB (fun yc6=>?_) (fun yc6=>?_)
    ·simp -implicitDefEqProofs only [ent71,prm71,f71_t,yc1,yc3,yc5,yc6,setA,setB,za,zb,zc,zd,ze,zf,zg,zh,zi,zj,zk,zl,zm,zn,zo,zp,reduceCtorEq,zE,↓reduceIte]
     refine brM (fun yc7=>?_) (fun yr8 yc7=>?_)
     ·rw [yc7]; rfl
     ·simp -implicitDefEqProofs only [e71,yc1,yc3,yc5,yc6,yc7,setA,setB,za,zb,zc,zd,ze,zf,zg,zh,zi,zj,zk,zl,zm,zn,zo,zp,reduceCtorEq,zE,↓reduceIte]
      exact j54_15_t yr2.1 yr2.2.1 yr8 _ (by rfl) (by rfl) (by rfl)
    ·simp -implicitDefEqProofs only [yc1,yc3,yc5,yc6,setA,setB,za,zb,zc,zd,ze,zf,zg,zh,zi,zj,zk,zl,zm,zn,zo,zp,reduceCtorEq,zE,↓reduceIte]
     exact j54_15_t yr2.1 yr2.2.1 true _ (by rfl) (by rfl) (by rfl)
   ·simp -implicitDefEqProofs only [c54_8_e,c54_9_r,(show opsOf c54_9 = _ :: _ from rfl),c54_10_e,yc1,yc3,yc5,setA,setB,za,zb,zc,zd,ze,zf,zg,zh,zi,zj,zk,zl,zm,zn,zo,zp,reduceCtorEq,zE,↓reduceIte]
    all_goals rfl
noncomputable def c30_0:Code:=bodyOf Tryz.f30
def c30_1:=cA c30_0
def c30_2:=cB c30_0
def c30_3:=cA c30_2
def c30_4:=cB c30_2
def c30_5:=cA c30_4
def c30_6:=cA c30_5
def c30_7:=cB c30_5
def c30_8:=cA c30_7
def c30_9:=cA c30_8
def c30_10:=cA c30_9
def c30_11:=cB c30_9
def c30_12:=cA c30_11
def c30_13:=cA c30_12
def c30_14:=cB c30_12
def c30_15:=cB c30_11
def c30_16:=cA c30_15
def c30_17:=cA c30_16
def c30_18:=cA c30_17
def c30_19:=cB c30_17
def c30_20:=cA c30_19
def c30_21:=cB c30_19
def c30_22:=cA c30_21
def c30_23:=cB c30_21
def c30_24:=cA c30_23
def c30_25:=cB c30_23
def c30_26:=cB c30_15
def c30_27:=cB c30_4
def c30_28:=cA c30_27
def c30_29:=cB c30_27
theorem c30_0_e:c30_0 = .seq c30_1 c30_2:=rfl
theorem c30_1_r:RG (E0 mm) 30 c30_1:=rgN rfl
theorem c30_2_e:c30_2 = .seq c30_3 c30_4:=rfl
theorem c30_3_r:RG (E0 mm) 30 c30_3:=rgN rfl
theorem c30_4_e:c30_4 = .seq c30_5 c30_27:=rfl
theorem c30_5_e:c30_5 = .seq c30_6 c30_7:=rfl
theorem c30_6_r:RG (E0 mm) 30 c30_6:=rgN rfl
theorem c30_7_e:c30_7 = .block 0 c30_8:=rfl
theorem c30_8_l (m:Nat) (st:St):den (E0 mm) 30 m (callW (E0 mm)) itW c30_8 none st = loopD itW (loopF (E0 mm) 30 m (callW (E0 mm)) itW c30_9 [(3,.freeze),(11,.freeze),(12,.freeze),(13,.freeze)]) (canon m [(3,.freeze),(11,.freeze),(12,.freeze),(13,.freeze)] st):=rfl
theorem c30_9_e:c30_9 = .seq c30_10 c30_11:=rfl
theorem c30_10_r:RG (E0 mm) 30 c30_10:=rgN rfl
theorem c30_11_e:c30_11 = .seq c30_12 c30_15:=rfl
theorem c30_13_e:c30_13 = .skip:=rfl
theorem c30_14_e:c30_14 = .exit 0:=rfl
theorem c30_15_e:c30_15 = .seq c30_16 c30_26:=rfl
theorem c30_16_e:c30_16 = .block 1 c30_17:=rfl
theorem c30_17_e:c30_17 = .seq c30_18 c30_19:=rfl
theorem c30_18_r:RG (E0 mm) 30 c30_18:=rgN rfl
theorem c30_19_e:c30_19 = .seq c30_20 c30_21:=rfl
theorem c30_20_r:RG (E0 mm) 30 c30_20:=rgN rfl
theorem c30_21_e:c30_21 = .seq c30_22 c30_23:=rfl
theorem c30_22_r:RG (E0 mm) 30 c30_22:=rgN rfl
theorem c30_24_r:RG (E0 mm) 30 c30_24:=rgN rfl
theorem c30_25_e:c30_25 = .skip:=rfl
theorem c30_26_r:RG (E0 mm) 30 c30_26:=rgN rfl
theorem c30_27_e:c30_27 = .seq c30_28 c30_29:=rfl
theorem c30_28_r:RG (E0 mm) 30 c30_28:=rgN rfl
theorem c30_29_e:c30_29 = .ret:=rfl
abbrev R30:=(List (Bs×List Bs))
def e30:R30→AV×Heap:=fun x=>(.v (.c (.mp 0)),[.amap (enM x)])
def K30_8:Option (Ex×St)→Option (AV×Heap):=fun r=>bodyD (E0 mm) [.tmp 2] 0 false (seqD (E0 mm) 30 0 (callW (E0 mm)) itW c30_27 (blockD 0 (r)))
def en30_8:(Bool×List Bs×Int×Int×Kvs)→X:=fun x=>(none,[.v (.c (.mp 0)),.v (.c (.d (.lst x.1 (enL enS x.2.1)))),.v (.c (.d (.sc (.int .i64 x.2.2.1)))),.v (.c (.d (.sc (.int .i64 x.2.2.2.1))))],(HO x.2.2.2.2))
def j30_26 (t11_0:Bool) (t11_1:List Bs) (t12 t13:Int) (kv0:Kvs):Option ((Bool×List Bs×Int×Int×Kvs) ⊕ R30):=
 some (.inl (t11_0,t11_1,t12,(w64 (t13 + 1)),kv0))
theorem j30_26_t (t11_0:Bool) (t11_1:List Bs) (t12 t13:Int) (kv0:Kvs)  (sl:Nat→AV) (zq3:sl 3 = .v (.c (.mp 0))) (zq11:sl 11 = .v (.c (.d (.lst t11_0 (enL enS t11_1))))) (zq12:sl 12 = .v (.c (.d (.sc (.int .i64 t12))))) (zq13:sl 13 = .v (.c (.d (.sc (.int .i64 t13))))):
  stepE (K30_8 (mm:=mm)) (loopK 0 [(3,.freeze),(11,.freeze),(12,.freeze),(13,.freeze)] (den (E0 mm) 30 0 (callW (E0 mm)) itW c30_26 none ⟨sl,(HO kv0)⟩)) = (j30_26 t11_0 t11_1 t12 t13 kv0).map (sm en30_8 e30):=by
 simp -implicitDefEqProofs only [j30_26,c30_26_r,(show opsOf c30_26 = _ :: _ from rfl),closeHO_c,renHO,idxHO0,zq3,zq11,zq12,zq13,setA,setB,za,zb,zc,zd,ze,zf,zg,zh,zi,zj,zk,zl,zm,zn,zo,zp,reduceCtorEq,zE,↓reduceIte]
 all_goals rfl
def j30_27 (kv0:Kvs):Option R30:=
 some kv0
theorem j30_27_t (kv0:Kvs)  (sl:Nat→AV) (zq3:sl 3 = .v (.c (.mp 0))):
  bodyD (E0 mm) [.tmp 2] 0 false (den (E0 mm) 30 0 (callW (E0 mm)) itW c30_27 none ⟨sl,(HO kv0)⟩) = (j30_27 kv0).map e30:=by
 simp -implicitDefEqProofs only [j30_27,c30_27_e,c30_28_r,(show opsOf c30_28 = _ :: _ from rfl),c30_29_e,frzHO,closeHF_c,HF_0,zq3,setA,setB,za,zb,zc,zd,ze,zf,zg,zh,zi,zj,zk,zl,zm,zn,zo,zp,reduceCtorEq,zE,↓reduceIte]
 all_goals rfl
def s30_8 (t11_0:Bool) (t11_1:List Bs) (t12 t13:Int) (kv0:Kvs):Option ((Bool×List Bs×Int×Int×Kvs) ⊕ R30):=
 if (decide (t13 < t12)) = true then
  if 0≤t13∧t13 < (t11_1.length:Int) then
   (m54 (t11_1.getD t13.toNat default)).bind fun yr7=>
    if yr7.2.2 = true then
     if (hasM yr7.1 kv0) = true then
      if ((valM yr7.1 kv0).length + 1) * 16≤140737488355328 then
       j30_26 t11_0 t11_1 t12 t13 (appM yr7.1 yr7.2.1 kv0)
      else none
     else
      j30_26 t11_0 t11_1 t12 t13 (kv0 ++ [(yr7.1,[yr7.2.1])])
    else
     j30_26 t11_0 t11_1 t12 t13 kv0
  else none
 else
  (j30_27 kv0).map .inr
theorem s30_8_t (t11_0:Bool) (t11_1:List Bs) (t12 t13:Int) (kv0:Kvs):
  stepE (K30_8 (mm:=mm)) (loopF (E0 mm) 30 0 (callW (E0 mm)) itW c30_9 [(3,.freeze),(11,.freeze),(12,.freeze),(13,.freeze)] (none,[.v (.c (.mp 0)),.v (.c (.d (.lst t11_0 (enL enS t11_1)))),.v (.c (.d (.sc (.int .i64 t12)))),.v (.c (.d (.sc (.int .i64 t13))))],(HO kv0))) = (s30_8 t11_0 t11_1 t12 t13 kv0).map (sm en30_8 e30):=by
 simp -implicitDefEqProofs only [s30_8,loopF_eq,c30_9_e,c30_10_r,(show opsOf c30_10 = _ :: _ from rfl),c30_11_e,(show c30_12 = Code.cond _ c30_13 c30_14 from rfl),setA,setB,za,zb,zc,zd,ze,zf,zg,zh,zi,zj,zk,zl,zm,zn,zo,zp,reduceCtorEq,zE,↓reduceIte]
 refine brB (fun yc3=>?_) (fun yc3=>?_)
 ·simp -implicitDefEqProofs only [c30_13_e,c30_15_e,c30_16_e,c30_17_e,c30_18_r,(show opsOf c30_18 = _ :: _ from rfl),Tryz.underlying40,sz9,enS_a,yc3,setA,setB,za,zb,zc,zd,ze,zf,zg,zh,zi,zj,zk,zl,zm,zn,zo,zp,reduceCtorEq,zE,↓reduceIte]
  refine brP (fun yc4=>?_) (fun yc4=>?_)
  ·have yd5:t13.toNat < t11_1.length:=by omega
   simp -implicitDefEqProofs only [(enL_get enS t11_1 t13.toNat yd5),enS_e,sz9,ag9,c30_19_e,c30_20_r,(show opsOf c30_20 = _ :: _ from rfl),ent54,prm54,f54_t,yc3,yc4,yd5,setA,setB,za,zb,zc,zd,ze,zf,zg,zh,zi,zj,zk,zl,zm,zn,zo,zp,reduceCtorEq,zE,↓reduceIte]
   refine brM (fun yc6=>?_) (fun yr7 yc6=>?_)
   ·rw [yc6]; rfl
   ·simp -implicitDefEqProofs only [e54,c30_21_e,c30_22_r,(show opsOf c30_22 = _ :: _ from rfl),(show c30_23 = Code.cond _ c30_24 c30_25 from rfl),yc3,yc4,yd5,yc6,setA,setB,za,zb,zc,zd,ze,zf,zg,zh,zi,zj,zk,zl,zm,zn,zo,zp,reduceCtorEq,zE,↓reduceIte]
    refine brB (fun yc8=>?_) (fun yc8=>?_)
    ·simp -implicitDefEqProofs only [c30_24_r,(show opsOf c30_24 = _ :: _ from rfl),Tryz.underlying56,Tryz.underlying9,zv40,HO_0,yc3,yc4,yd5,yc6,yc8,setA,setB,za,zb,zc,zd,ze,zf,zg,zh,zi,zj,zk,zl,zm,zn,zo,zp,reduceCtorEq,zE,↓reduceIte]
     refine brB (fun yc9=>?_) (fun yc9=>?_)
     ·simp -implicitDefEqProofs only [HO_0,findO,Option.getD_some,Option.getD_none,Tryz.underlying40,sz9,zc9,hd41,nv42,rw43,ns5,ao40O,yc3,yc4,yd5,yc6,yc8,yc9,setA,setB,za,zb,zc,zd,ze,zf,zg,zh,zi,zj,zk,zl,zm,zn,zo,zp,reduceCtorEq,zE,↓reduceIte]
      refine brP (fun yc10=>?_) (fun yc10=>?_)
      ·simp -implicitDefEqProofs only [ao40O,HO_s0,HO_put,findO,Tryz.underlying56,Tryz.underlying9,yc3,yc4,yd5,yc6,yc8,yc9,yc10,setA,setB,za,zb,zc,zd,ze,zf,zg,zh,zi,zj,zk,zl,zm,zn,zo,zp,reduceCtorEq,zE,↓reduceIte]
       exact j30_26_t t11_0 t11_1 t12 t13 (appM yr7.1 yr7.2.1 kv0) _ (by rfl) (by rfl) (by rfl) (by rfl)
      ·rw [if_neg yc10]; rfl
     ·simp -implicitDefEqProofs only [HO_0,findO0,Option.getD_some,Option.getD_none,Tryz.underlying40,sz9,zc9,hd41,nv42,rw43,ns5,ao40O0,HO_a0,HO_put0,Tryz.underlying56,Tryz.underlying9,yc3,yc4,yd5,yc6,yc8,yc9,setA,setB,za,zb,zc,zd,ze,zf,zg,zh,zi,zj,zk,zl,zm,zn,zo,zp,reduceCtorEq,zE,↓reduceIte]
      exact j30_26_t t11_0 t11_1 t12 t13 (kv0 ++ [(yr7.1,[yr7.2.1])]) _ (by rfl) (by rfl) (by rfl) (by rfl)
    ·simp -implicitDefEqProofs only [c30_25_e,yc3,yc4,yd5,yc6,yc8,setA,setB,za,zb,zc,zd,ze,zf,zg,zh,zi,zj,zk,zl,zm,zn,zo,zp,reduceCtorEq,zE,↓reduceIte]
     exact j30_26_t t11_0 t11_1 t12 t13 kv0 _ (by rfl) (by rfl) (by rfl) (by rfl)
  ·rw [if_neg yc4]; rfl
 ·simp -implicitDefEqProofs only [c30_14_e,K30_8,yc3,setA,setB,za,zb,zc,zd,ze,zf,zg,zh,zi,zj,zk,zl,zm,zn,zo,zp,reduceCtorEq,zE,↓reduceIte]
  exact mi (j30_27_t kv0 _ (by rfl))
def l30_8 (t11_0:Bool) (t11_1:List Bs) (t12 t13:Int) (kv0:Kvs):Option R30:=iter (fun x:(Bool×List Bs×Int×Int×Kvs)=>s30_8 x.1 x.2.1 x.2.2.1 x.2.2.2.1 x.2.2.2.2) (t11_0,t11_1,t12,t13,kv0)
theorem l30_8_t (t11_0:Bool) (t11_1:List Bs) (t12 t13:Int) (kv0:Kvs):bodyD (E0 mm) [.tmp 2] 0 false (seqD (E0 mm) 30 0 (callW (E0 mm)) itW c30_27 (blockD 0 (itW (loopF (E0 mm) 30 0 (callW (E0 mm)) itW c30_9 [(3,.freeze),(11,.freeze),(12,.freeze),(13,.freeze)]) (none,[.v (.c (.mp 0)),.v (.c (.d (.lst t11_0 (enL enS t11_1)))),.v (.c (.d (.sc (.int .i64 t12)))),.v (.c (.d (.sc (.int .i64 t13))))],(HO kv0))))) = (l30_8 t11_0 t11_1 t12 t13 kv0).map e30:=
 it_sim (K:=(K30_8 (mm:=mm))) rfl (enc:=en30_8) (fun x=>s30_8_t x.1 x.2.1 x.2.2.1 x.2.2.2.1 x.2.2.2.2) (t11_0,t11_1,t12,t13,kv0)
def m30 (l_0:Bool) (l_1:List (Bs×Bs)):Option R30:=
 (m53 l_0 l_1 ([99,97,99,104,101,45,99,111,110,116,114,111,108]:Bs)).bind fun yr2=>
  l30_8 yr2.1 yr2.2 (yr2.2.length:Int) (0:Int) ([]:Kvs)
theorem f30_t (l_0:Bool) (l_1:List (Bs×Bs)):
  callW (E0 mm) 30 [.c (.d (.lst l_0 (enL enSS l_1)))] [] = (m30 l_0 l_1).map e30:=by
 rw [callW_run (body:=c30_0) (res:=[.tmp 2]) Tryz.func30 rfl rfl (by kernel_rfl)]
 simp -implicitDefEqProofs only [m30,slots1,c30_0_e,c30_1_r,(show opsOf c30_1 = _ :: _ from rfl),c30_2_e,c30_3_r,(show opsOf c30_3 = _ :: _ from rfl),c30_4_e,c30_5_e,c30_6_r,(show opsOf c30_6 = _ :: _ from rfl),ent53,prm53,(show callW (E0 mm) 53 [.c (.d (.lst l_0 (enL enSS l_1))),.c (.d (.sc (.string (S ([99,97,99,104,101,45,99,111,110,116,114,111,108]:Bs)))))] [] = _ from f53_t l_0 l_1 ([99,97,99,104,101,45,99,111,110,116,114,111,108]:Bs)),setA,setB,za,zb,zc,zd,ze,zf,zg,zh,zi,zj,zk,zl,zm,zn,zo,zp,reduceCtorEq,zE,↓reduceIte]
 refine brM (fun yc1=>?_) (fun yr2 yc1=>?_)
 ·rw [yc1]; rfl
 ·simp -implicitDefEqProofs only [e53,Tryz.underlying40,c30_7_e,c30_8_l,yc1,setA,setB,za,zb,zc,zd,ze,zf,zg,zh,zi,zj,zk,zl,zm,zn,zo,zp,reduceCtorEq,zE,↓reduceIte]
  exact l30_8_t yr2.1 yr2.2 (yr2.2.length:Int) (0:Int) ([]:Kvs)
noncomputable def c56_0:Code:=bodyOf Tryz.f56
def c56_1:=cA c56_0
def c56_2:=cB c56_0
def c56_3:=cA c56_2
def c56_4:=cB c56_2
def c56_5:=cA c56_4
def c56_6:=cB c56_4
theorem c56_0_e:c56_0 = .seq c56_1 c56_2:=rfl
theorem c56_1_r:RG (E0 mm) 56 c56_1:=rgN rfl
theorem c56_2_e:c56_2 = .seq c56_3 c56_4:=rfl
theorem c56_3_r:RG (E0 mm) 56 c56_3:=rgN rfl
theorem c56_4_e:c56_4 = .seq c56_5 c56_6:=rfl
theorem c56_5_r:RG (E0 mm) 56 c56_5:=rgN rfl
theorem c56_6_e:c56_6 = .ret:=rfl
abbrev R56:=(Bool)
def e56 (gm1:List (Bs×List Bs)):R56→AV×Heap:=fun x=>(.v (.c (.d (.sc (.bool x)))),[.cells [.mp 1],.amap (enM gm1)])
def m56 (name:Bs) (gm1:List (Bs×List Bs)):Option R56:=
 some (hasM name gm1)
theorem f56_t (name:Bs) (gm1:List (Bs×List Bs)):
  callW (E0 mm) 56 [.c (.d (.sc (.string (S name)))),.c (.ptr 0 0)] [.cells [.mp 1],.amap (enM gm1)] = (m56 name gm1).map (e56 gm1):=by
 rw [callW_run (body:=c56_0) (res:=[.tmp 3]) Tryz.func56 rfl rfl (by kernel_rfl)]
 simp -implicitDefEqProofs only [m56,slots2,c56_0_e,c56_1_r,(show opsOf c56_1 = _ :: _ from rfl),c56_2_e,c56_3_r,(show opsOf c56_3 = _ :: _ from rfl),sz56,ag56,Tryz.underlying56,Tryz.underlying9,zv40,c56_4_e,c56_5_r,(show opsOf c56_5 = _ :: _ from rfl),c56_6_e,setA,setB,za,zb,zc,zd,ze,zf,zg,zh,zi,zj,zk,zl,zm,zn,zo,zp,reduceCtorEq,zE,↓reduceIte]
 all_goals rfl
noncomputable def c73_0:Code:=bodyOf Tryz.f73
def c73_1:=cA c73_0
def c73_2:=cB c73_0
def c73_3:=cA c73_2
def c73_4:=cA c73_3
def c73_5:=cB c73_3
def c73_6:=cA c73_5
def c73_7:=cA c73_6
def c73_8:=cA c73_7
def c73_9:=cB c73_7
def c73_10:=cA c73_9
def c73_11:=cA c73_10
def c73_12:=cB c73_10
def c73_13:=cB c73_9
def c73_14:=cA c73_13
def c73_15:=cA c73_14
def c73_16:=cA c73_15
def c73_17:=cB c73_15
def c73_18:=cA c73_17
def c73_19:=cB c73_17
def c73_20:=cA c73_19
def c73_21:=cA c73_20
def c73_22:=cB c73_20
def c73_23:=cB c73_19
def c73_24:=cB c73_13
def c73_25:=cB c73_2
def c73_26:=cA c73_25
def c73_27:=cB c73_25
theorem c73_0_e:c73_0 = .seq c73_1 c73_2:=rfl
theorem c73_1_r:RG (E0 mm) 73 c73_1:=rgN rfl
theorem c73_2_e:c73_2 = .seq c73_3 c73_25:=rfl
theorem c73_3_e:c73_3 = .seq c73_4 c73_5:=rfl
theorem c73_4_r:RG (E0 mm) 73 c73_4:=rgN rfl
theorem c73_5_e:c73_5 = .block 0 c73_6:=rfl
theorem c73_6_l (m:Nat) (st:St):den (E0 mm) 73 m (callW (E0 mm)) itW c73_6 none st = loopD itW (loopF (E0 mm) 73 m (callW (E0 mm)) itW c73_7 [(0,.keep),(1,.keep),(7,.keep),(8,.keep)]) (canon m [(0,.keep),(1,.keep),(7,.keep),(8,.keep)] st):=rfl
theorem c73_7_e:c73_7 = .seq c73_8 c73_9:=rfl
theorem c73_8_r:RG (E0 mm) 73 c73_8:=rgN rfl
theorem c73_9_e:c73_9 = .seq c73_10 c73_13:=rfl
theorem c73_11_e:c73_11 = .skip:=rfl
theorem c73_12_e:c73_12 = .exit 0:=rfl
theorem c73_13_e:c73_13 = .seq c73_14 c73_24:=rfl
theorem c73_14_e:c73_14 = .block 1 c73_15:=rfl
theorem c73_15_e:c73_15 = .seq c73_16 c73_17:=rfl
theorem c73_16_r:RG (E0 mm) 73 c73_16:=rgN rfl
theorem c73_17_e:c73_17 = .seq c73_18 c73_19:=rfl
theorem c73_18_r:RG (E0 mm) 73 c73_18:=rgN rfl
theorem c73_20_e:c73_20 = .seq c73_21 c73_22:=rfl
theorem c73_21_r:RG (E0 mm) 73 c73_21:=rgN rfl
theorem c73_22_e:c73_22 = .ret:=rfl
theorem c73_23_e:c73_23 = .skip:=rfl
theorem c73_24_r:RG (E0 mm) 73 c73_24:=rgN rfl
theorem c73_25_e:c73_25 = .seq c73_26 c73_27:=rfl
theorem c73_26_r:RG (E0 mm) 73 c73_26:=rgN rfl
theorem c73_27_e:c73_27 = .ret:=rfl
abbrev R73:=(Int)
def e73 (gm1:List (Bs×List Bs)):R73→AV×Heap:=fun x=>(.v (.c (.d (.sc (.int .i64 x)))),[.cells [.mp 1],.amap (enM gm1)])
def K73_6:Option (Ex×St)→Option (AV×Heap):=fun r=>bodyD (E0 mm) [.tmp 4] 2 false (seqD (E0 mm) 73 2 (callW (E0 mm)) itW c73_25 (blockD 0 (r)))
def en73_6 (gm1:List (Bs×List Bs)):(Bool×List Bs×Int×Int)→X:=fun x=>(none,[.v (.c (.d (.lst x.1 (enL enS x.2.1)))),.v (.c (.fn 56 [(0,0)])),.v (.c (.d (.sc (.int .i64 x.2.2.1)))),.v (.c (.d (.sc (.int .i64 x.2.2.2))))],[.cells [.mp 1],.amap (enM gm1)])
def j73_25 (gm1:List (Bs×List Bs))  : Option R73:=
 some (-1:Int)
theorem j73_25_t (gm1:List (Bs×List Bs))   (sl:Nat→AV)  :
  bodyD (E0 mm) [.tmp 4] 2 false (den (E0 mm) 73 2 (callW (E0 mm)) itW c73_25 none ⟨sl,[.cells [.mp 1],.amap (enM gm1)]⟩) = (j73_25 gm1).map (e73 gm1):=by
 simp -implicitDefEqProofs only [j73_25,c73_25_e,c73_26_r,(show opsOf c73_26 = _ :: _ from rfl),c73_27_e,setA,setB,za,zb,zc,zd,ze,zf,zg,zh,zi,zj,zk,zl,zm,zn,zo,zp,reduceCtorEq,zE,↓reduceIte]
 all_goals rfl
def s73_6 (gm1:List (Bs×List Bs)) (s0_0:Bool) (s0_1:List Bs) (t7 t8:Int):Option ((Bool×List Bs×Int×Int) ⊕ R73):=
 if (decide (t8 < t7)) = true then
  if 0≤t8∧t8 < (s0_1.length:Int) then
   (m56 (s0_1.getD t8.toNat default) gm1).bind fun yr5=>
    if yr5 = true then
     some (.inr t8)
    else
     some (.inl (s0_0,s0_1,t7,(w64 (t8 + 1))))
  else none
 else
  (j73_25 gm1).map .inr
theorem s73_6_t (gm1:List (Bs×List Bs)) (s0_0:Bool) (s0_1:List Bs) (t7 t8:Int):
  stepE (K73_6 (mm:=mm)) (loopF (E0 mm) 73 2 (callW (E0 mm)) itW c73_7 [(0,.keep),(1,.keep),(7,.keep),(8,.keep)] (none,[.v (.c (.d (.lst s0_0 (enL enS s0_1)))),.v (.c (.fn 56 [(0,0)])),.v (.c (.d (.sc (.int .i64 t7)))),.v (.c (.d (.sc (.int .i64 t8))))],[.cells [.mp 1],.amap (enM gm1)])) = (s73_6 gm1 s0_0 s0_1 t7 t8).map (sm (en73_6 gm1) (e73 gm1)):=by
 simp -implicitDefEqProofs only [s73_6,loopF_eq,c73_7_e,c73_8_r,(show opsOf c73_8 = _ :: _ from rfl),c73_9_e,(show c73_10 = Code.cond _ c73_11 c73_12 from rfl),setA,setB,za,zb,zc,zd,ze,zf,zg,zh,zi,zj,zk,zl,zm,zn,zo,zp,reduceCtorEq,zE,↓reduceIte]
 refine brB (fun yc1=>?_) (fun yc1=>?_)
 ·simp -implicitDefEqProofs only [c73_11_e,c73_13_e,c73_14_e,c73_15_e,c73_16_r,(show opsOf c73_16 = _ :: _ from rfl),c73_17_e,c73_18_r,(show opsOf c73_18 = _ :: _ from rfl),Tryz.underlying40,sz9,enS_a,yc1,setA,setB,za,zb,zc,zd,ze,zf,zg,zh,zi,zj,zk,zl,zm,zn,zo,zp,reduceCtorEq,zE,↓reduceIte]
  refine brP (fun yc2=>?_) (fun yc2=>?_)
  ·have yd3:t8.toNat < s0_1.length:=by omega
   simp -implicitDefEqProofs only [(enL_get enS s0_1 t8.toNat yd3),enS_e,sz9,ag9,ent56,prm56,f56_t,yc1,yc2,yd3,setA,setB,za,zb,zc,zd,ze,zf,zg,zh,zi,zj,zk,zl,zm,zn,zo,zp,reduceCtorEq,zE,↓reduceIte]
   refine brM (fun yc4=>?_) (fun yr5 yc4=>?_)
   ·rw [yc4]; rfl
   ·simp -implicitDefEqProofs only [e56,(show c73_19 = Code.cond _ c73_20 c73_23 from rfl),yc1,yc2,yd3,yc4,setA,setB,za,zb,zc,zd,ze,zf,zg,zh,zi,zj,zk,zl,zm,zn,zo,zp,reduceCtorEq,zE,↓reduceIte]
    refine brB (fun yc6=>?_) (fun yc6=>?_)
    ·simp -implicitDefEqProofs only [c73_20_e,c73_21_r,(show opsOf c73_21 = _ :: _ from rfl),c73_22_e,K73_6,yc1,yc2,yd3,yc4,yc6,setA,setB,za,zb,zc,zd,ze,zf,zg,zh,zi,zj,zk,zl,zm,zn,zo,zp,reduceCtorEq,zE,↓reduceIte]
     all_goals rfl
    ·simp -implicitDefEqProofs only [c73_23_e,c73_24_r,(show opsOf c73_24 = _ :: _ from rfl),yc1,yc2,yd3,yc4,yc6,setA,setB,za,zb,zc,zd,ze,zf,zg,zh,zi,zj,zk,zl,zm,zn,zo,zp,reduceCtorEq,zE,↓reduceIte]
     all_goals rfl
  ·rw [if_neg yc2]; rfl
 ·simp -implicitDefEqProofs only [c73_12_e,K73_6,yc1,setA,setB,za,zb,zc,zd,ze,zf,zg,zh,zi,zj,zk,zl,zm,zn,zo,zp,reduceCtorEq,zE,↓reduceIte]
  exact mi (j73_25_t gm1 _)
def l73_6 (gm1:List (Bs×List Bs)) (s0_0:Bool) (s0_1:List Bs) (t7 t8:Int):Option R73:=iter (fun x:(Bool×List Bs×Int×Int)=>s73_6 gm1 x.1 x.2.1 x.2.2.1 x.2.2.2) (s0_0,s0_1,t7,t8)
theorem l73_6_t (gm1:List (Bs×List Bs)) (s0_0:Bool) (s0_1:List Bs) (t7 t8:Int):bodyD (E0 mm) [.tmp 4] 2 false (seqD (E0 mm) 73 2 (callW (E0 mm)) itW c73_25 (blockD 0 (itW (loopF (E0 mm) 73 2 (callW (E0 mm)) itW c73_7 [(0,.keep),(1,.keep),(7,.keep),(8,.keep)]) (none,[.v (.c (.d (.lst s0_0 (enL enS s0_1)))),.v (.c (.fn 56 [(0,0)])),.v (.c (.d (.sc (.int .i64 t7)))),.v (.c (.d (.sc (.int .i64 t8))))],[.cells [.mp 1],.amap (enM gm1)])))) = (l73_6 gm1 s0_0 s0_1 t7 t8).map (e73 gm1):=
 it_sim (K:=(K73_6 (mm:=mm))) rfl (enc:=(en73_6 gm1)) (fun x=>s73_6_t gm1 x.1 x.2.1 x.2.2.1 x.2.2.2) (s0_0,s0_1,t7,t8)
def m73 (s_0:Bool) (s_1:List Bs) (gm1:List (Bs×List Bs)):Option R73:=
 l73_6 gm1 s_0 s_1 (s_1.length:Int) (0:Int)
theorem f73_t (s_0:Bool) (s_1:List Bs) (gm1:List (Bs×List Bs)):
  callW (E0 mm) 73 [.c (.d (.lst s_0 (enL enS s_1))),.c (.fn 56 [(0,0)])] [.cells [.mp 1],.amap (enM gm1)] = (m73 s_0 s_1 gm1).map (e73 gm1):=by
 rw [callW_run (body:=c73_0) (res:=[.tmp 4]) Tryz.func73 rfl rfl (by kernel_rfl)]
 simp -implicitDefEqProofs only [m73,slots2,c73_0_e,c73_1_r,(show opsOf c73_1 = _ :: _ from rfl),c73_2_e,c73_3_e,c73_4_r,(show opsOf c73_4 = _ :: _ from rfl),Tryz.underlying40,c73_5_e,c73_6_l,setA,setB,za,zb,zc,zd,ze,zf,zg,zh,zi,zj,zk,zl,zm,zn,zo,zp,reduceCtorEq,zE,↓reduceIte]
 exact l73_6_t gm1 s_0 s_1 (s_1.length:Int) (0:Int)
noncomputable def c55_0:Code:=bodyOf Tryz.f55
def c55_1:=cA c55_0
def c55_2:=cB c55_0
def c55_3:=cA c55_2
def c55_4:=cB c55_2
theorem c55_0_e:c55_0 = .seq c55_1 c55_2:=rfl
theorem c55_1_r:RG (E0 mm) 55 c55_1:=rgN rfl
theorem c55_2_e:c55_2 = .seq c55_3 c55_4:=rfl
theorem c55_3_r:RG (E0 mm) 55 c55_3:=rgN rfl
theorem c55_4_e:c55_4 = .ret:=rfl
abbrev R55:=(Bool)
def e55 (gm1:List (Bs×List Bs)):R55→AV×Heap:=fun x=>(.v (.c (.d (.sc (.bool x)))),[.cells [.mp 1],.amap (enM gm1)])
def m55 (s_0:Bool) (s_1:List Bs) (gm1:List (Bs×List Bs)):Option R55:=
 (m73 s_0 s_1 gm1).bind fun yr2=>
  some (decide (0≤yr2))
theorem f55_t (s_0:Bool) (s_1:List Bs) (gm1:List (Bs×List Bs)):
  callW (E0 mm) 55 [.c (.d (.lst s_0 (enL enS s_1))),.c (.fn 56 [(0,0)])] [.cells [.mp 1],.amap (enM gm1)] = (m55 s_0 s_1 gm1).map (e55 gm1):=by
 rw [callW_run (body:=c55_0) (res:=[.tmp 4]) Tryz.func55 rfl rfl (by kernel_rfl)]
 simp -implicitDefEqProofs only [m55,slots2,c55_0_e,c55_1_r,(show opsOf c55_1 = _ :: _ from rfl),c55_2_e,c55_3_r,(show opsOf c55_3 = _ :: _ from rfl),ent73,prm73,f73_t,setA,setB,za,zb,zc,zd,ze,zf,zg,zh,zi,zj,zk,zl,zm,zn,zo,zp,reduceCtorEq,zE,↓reduceIte]
 refine brM (fun yc1=>?_) (fun yr2 yc1=>?_)
 ·rw [yc1]; rfl
 ·simp -implicitDefEqProofs only [e73,c55_4_e,yc1,setA,setB,za,zb,zc,zd,ze,zf,zg,zh,zi,zj,zk,zl,zm,zn,zo,zp,reduceCtorEq,zE,↓reduceIte]
  all_goals rfl
noncomputable def c31_0:Code:=bodyOf Tryz.f31
def c31_1:=cA c31_0
def c31_2:=cB c31_0
def c31_3:=cA c31_2
def c31_4:=cB c31_2
theorem c31_0_e:c31_0 = .seq c31_1 c31_2:=rfl
theorem c31_1_r:RG (E0 mm) 31 c31_1:=rgN rfl
theorem c31_2_e:c31_2 = .seq c31_3 c31_4:=rfl
theorem c31_3_r:RG (E0 mm) 31 c31_3:=rgN rfl
theorem c31_4_e:c31_4 = .ret:=rfl
abbrev R31:=(Bool)
def e31 (gm0:List (Bs×List Bs)):R31→AV×Heap:=fun x=>(.v (.c (.d (.sc (.bool x)))),[.amap (enM gm0)])
def m31 (names_0:Bool) (names_1:List Bs) (gm0:List (Bs×List Bs)):Option R31:=
 (m55 names_0 names_1 gm0).bind fun yr2=>
  some yr2
theorem f31_t (names_0:Bool) (names_1:List Bs) (gm0:List (Bs×List Bs)):
  callW (E0 mm) 31 [.c (.mp 0),.c (.d (.lst names_0 (enL enS names_1)))] [.amap (enM gm0)] = (m31 names_0 names_1 gm0).map (e31 gm0):=by
 rw [callW_run (body:=c31_0) (res:=[.tmp 4]) Tryz.func31 rfl rfl (by kernel_rfl)]
 simp -implicitDefEqProofs only [m31,slots2,c31_0_e,c31_1_r,(show opsOf c31_1 = _ :: _ from rfl),c31_2_e,c31_3_r,(show opsOf c31_3 = _ :: _ from rfl),ent55,prm55,f55_t,setA,setB,za,zb,zc,zd,ze,zf,zg,zh,zi,zj,zk,zl,zm,zn,zo,zp,reduceCtorEq,zE,↓reduceIte]
 refine brM (fun yc1=>?_) (fun yr2 yc1=>?_)
 ·rw [yc1]; rfl
 ·simp -implicitDefEqProofs only [e55,c31_4_e,yc1,setA,setB,za,zb,zc,zd,ze,zf,zg,zh,zi,zj,zk,zl,zm,zn,zo,zp,reduceCtorEq,zE,↓reduceIte]
  all_goals rfl
noncomputable def c64_0:Code:=bodyOf Tryz.f64
def c64_1:=cA c64_0
def c64_2:=cB c64_0
def c64_3:=cA c64_2
def c64_4:=cA c64_3
def c64_5:=cB c64_3
def c64_6:=cA c64_5
def c64_7:=cA c64_6
def c64_8:=cB c64_6
def c64_9:=cB c64_5
def c64_10:=cB c64_2
def c64_11:=cA c64_10
def c64_12:=cB c64_10
theorem c64_0_e:c64_0 = .seq c64_1 c64_2:=rfl
theorem c64_1_r:RG (E0 mm) 64 c64_1:=rgN rfl
theorem c64_2_e:c64_2 = .seq c64_3 c64_10:=rfl
theorem c64_3_e:c64_3 = .seq c64_4 c64_5:=rfl
theorem c64_4_r:RG (E0 mm) 64 c64_4:=rgN rfl
theorem c64_6_e:c64_6 = .seq c64_7 c64_8:=rfl
theorem c64_7_r:RG (E0 mm) 64 c64_7:=rgN rfl
theorem c64_8_e:c64_8 = .ret:=rfl
theorem c64_9_e:c64_9 = .skip:=rfl
theorem c64_10_e:c64_10 = .seq c64_11 c64_12:=rfl
theorem c64_11_r:RG (E0 mm) 64 c64_11:=rgN rfl
theorem c64_12_e:c64_12 = .ret:=rfl
abbrev R64:=(Int)
def e64:R64→AV×Heap:=fun x=>(.v (.c (.d (.sc (.int .i64 x)))),[])
def j64_5 (c0:Int) (t8:Bool):Option R64:=
 if t8 = true then
  some (w64 (w32 (c0 - 48)))
 else
  some (-1:Int)
theorem j64_5_t (c0:Int) (t8:Bool)  (sl:Nat→AV) (zq0:sl 0 = .v (.c (.d (.sc (.int .i32 c0))))) (zq8:sl 8 = .v (.c (.d (.sc (.bool t8))))):
  bodyD (E0 mm) [.tmp 2] 0 false (seqD (E0 mm) 64 0 (callW (E0 mm)) itW c64_10 (den (E0 mm) 64 0 (callW (E0 mm)) itW c64_5 none ⟨sl,[]⟩)) = (j64_5 c0 t8).map e64:=by
 simp -implicitDefEqProofs only [j64_5,(show c64_5 = Code.cond _ c64_6 c64_9 from rfl),zq0,zq8,setA,setB,za,zb,zc,zd,ze,zf,zg,zh,zi,zj,zk,zl,zm,zn,zo,zp,reduceCtorEq,zE,↓reduceIte]
 refine brB (fun yc2=>?_) (fun yc2=>?_)
 ·simp -implicitDefEqProofs only [c64_6_e,c64_7_r,(show opsOf c64_7 = _ :: _ from rfl),Tryz.underlying21,Tryz.underlying3,c64_8_e,zq0,zq8,yc2,setA,setB,za,zb,zc,zd,ze,zf,zg,zh,zi,zj,zk,zl,zm,zn,zo,zp,reduceCtorEq,zE,↓reduceIte]
  all_goals rfl
 ·simp -implicitDefEqProofs only [c64_9_e,c64_10_e,c64_11_r,(show opsOf c64_11 = _ :: _ from rfl),c64_12_e,zq0,zq8,yc2,setA,setB,za,zb,zc,zd,ze,zf,zg,zh,zi,zj,zk,zl,zm,zn,zo,zp,reduceCtorEq,zE,↓reduceIte]
  all_goals rfl
def m64 (c:Int):Option R64:=
 if (decide (48≤c)) = true then
  j64_5 c (decide (c≤57))
 else
  j64_5 c false
theorem f64_t (c:Int):
  callW (E0 mm) 64 [.c (.d (.sc (.int .i32 c)))] [] = (m64 c).map e64:=by
 rw [callW_run (body:=c64_0) (res:=[.tmp 2]) Tryz.func64 rfl rfl (by kernel_rfl)]
 simp -implicitDefEqProofs only [m64,slots1,c64_0_e,c64_1_r,(show opsOf c64_1 = _ :: _ from rfl),c64_2_e,c64_3_e,c64_4_r,(show opsOf c64_4 = _ :: _ from rfl),setA,setB,za,zb,zc,zd,ze,zf,zg,zh,zi,zj,zk,zl,zm,zn,zo,zp,reduceCtorEq,zE,↓reduceIte]
 refine brB (fun yc1=>?_) (fun yc1=>?_)
 ·simp -implicitDefEqProofs only [yc1,setA,setB,za,zb,zc,zd,ze,zf,zg,zh,zi,zj,zk,zl,zm,zn,zo,zp,reduceCtorEq,zE,↓reduceIte]
  exact j64_5_t c (decide (c≤57)) _ (by rfl) (by rfl)
 ·simp -implicitDefEqProofs only [yc1,setA,setB,za,zb,zc,zd,ze,zf,zg,zh,zi,zj,zk,zl,zm,zn,zo,zp,reduceCtorEq,zE,↓reduceIte]
  exact j64_5_t c false _ (by rfl) (by rfl)
noncomputable def c63_0:Code:=bodyOf Tryz.f63
def c63_1:=cA c63_0
def c63_2:=cB c63_0
def c63_3:=cA c63_2
def c63_4:=cA c63_3
def c63_5:=cB c63_3
def c63_6:=cA c63_5
def c63_7:=cA c63_6
def c63_8:=cB c63_6
def c63_9:=cB c63_5
def c63_10:=cB c63_2
def c63_11:=cA c63_10
def c63_12:=cB c63_10
def c63_13:=cA c63_12
def c63_14:=cA c63_13
def c63_15:=cB c63_13
def c63_16:=cA c63_15
def c63_17:=cA c63_16
def c63_18:=cA c63_17
def c63_19:=cB c63_17
def c63_20:=cA c63_19
def c63_21:=cA c63_20
def c63_22:=cB c63_20
def c63_23:=cB c63_19
def c63_24:=cA c63_23
def c63_25:=cA c63_24
def c63_26:=cB c63_24
def c63_27:=cA c63_26
def c63_28:=cB c63_26
def c63_29:=cA c63_28
def c63_30:=cA c63_29
def c63_31:=cB c63_29
def c63_32:=cA c63_31
def c63_33:=cA c63_32
def c63_34:=cB c63_32
def c63_35:=cB c63_31
def c63_36:=cB c63_28
def c63_37:=cA c63_36
def c63_38:=cA c63_37
def c63_39:=cB c63_37
def c63_40:=cA c63_39
def c63_41:=cA c63_40
def c63_42:=cB c63_40
def c63_43:=cB c63_39
def c63_44:=cB c63_36
def c63_45:=cB c63_12
def c63_46:=cA c63_45
def c63_47:=cA c63_46
def c63_48:=cB c63_46
def c63_49:=cA c63_48
def c63_50:=cA c63_49
def c63_51:=cB c63_49
def c63_52:=cB c63_48
def c63_53:=cB c63_45
def c63_54:=cA c63_53
def c63_55:=cB c63_53
theorem c63_0_e:c63_0 = .seq c63_1 c63_2:=rfl
theorem c63_1_r:RG (E0 mm) 63 c63_1:=rgN rfl
theorem c63_2_e:c63_2 = .seq c63_3 c63_10:=rfl
theorem c63_3_e:c63_3 = .seq c63_4 c63_5:=rfl
theorem c63_4_r:RG (E0 mm) 63 c63_4:=rgN rfl
theorem c63_6_e:c63_6 = .seq c63_7 c63_8:=rfl
theorem c63_7_r:RG (E0 mm) 63 c63_7:=rgN rfl
theorem c63_8_e:c63_8 = .ret:=rfl
theorem c63_9_e:c63_9 = .skip:=rfl
theorem c63_10_e:c63_10 = .seq c63_11 c63_12:=rfl
theorem c63_11_r:RG (E0 mm) 63 c63_11:=rgN rfl
theorem c63_12_e:c63_12 = .seq c63_13 c63_45:=rfl
theorem c63_13_e:c63_13 = .seq c63_14 c63_15:=rfl
theorem c63_14_r:RG (E0 mm) 63 c63_14:=rgN rfl
theorem c63_15_e:c63_15 = .block 0 c63_16:=rfl
theorem c63_16_l (m:Nat) (st:St):den (E0 mm) 63 m (callW (E0 mm)) itW c63_16 none st = loopD itW (loopF (E0 mm) 63 m (callW (E0 mm)) itW c63_17 [(1,.keep),(2,.keep),(8,.keep),(9,.keep),(16,.keep)]) (canon m [(1,.keep),(2,.keep),(8,.keep),(9,.keep),(16,.keep)] st):=rfl
theorem c63_17_e:c63_17 = .seq c63_18 c63_19:=rfl
theorem c63_18_r:RG (E0 mm) 63 c63_18:=rgN rfl
theorem c63_19_e:c63_19 = .seq c63_20 c63_23:=rfl
theorem c63_21_e:c63_21 = .skip:=rfl
theorem c63_22_e:c63_22 = .exit 0:=rfl
theorem c63_23_e:c63_23 = .block 1 c63_24:=rfl
theorem c63_24_e:c63_24 = .seq c63_25 c63_26:=rfl
theorem c63_25_r:RG (E0 mm) 63 c63_25:=rgN rfl
theorem c63_26_e:c63_26 = .seq c63_27 c63_28:=rfl
theorem c63_27_r:RG (E0 mm) 63 c63_27:=rgN rfl
theorem c63_28_e:c63_28 = .seq c63_29 c63_36:=rfl
theorem c63_29_e:c63_29 = .seq c63_30 c63_31:=rfl
theorem c63_30_r:RG (E0 mm) 63 c63_30:=rgN rfl
theorem c63_32_e:c63_32 = .seq c63_33 c63_34:=rfl
theorem c63_33_r:RG (E0 mm) 63 c63_33:=rgN rfl
theorem c63_34_e:c63_34 = .ret:=rfl
theorem c63_35_e:c63_35 = .skip:=rfl
theorem c63_36_e:c63_36 = .seq c63_37 c63_44:=rfl
theorem c63_37_e:c63_37 = .seq c63_38 c63_39:=rfl
theorem c63_38_r:RG (E0 mm) 63 c63_38:=rgN rfl
theorem c63_40_e:c63_40 = .seq c63_41 c63_42:=rfl
theorem c63_41_r:RG (E0 mm) 63 c63_41:=rgN rfl
theorem c63_42_e:c63_42 = .exit 1:=rfl
theorem c63_43_e:c63_43 = .skip:=rfl
theorem c63_44_r:RG (E0 mm) 63 c63_44:=rgN rfl
theorem c63_45_e:c63_45 = .seq c63_46 c63_53:=rfl
theorem c63_46_e:c63_46 = .seq c63_47 c63_48:=rfl
theorem c63_47_r:RG (E0 mm) 63 c63_47:=rgN rfl
theorem c63_49_e:c63_49 = .seq c63_50 c63_51:=rfl
theorem c63_50_r:RG (E0 mm) 63 c63_50:=rgN rfl
theorem c63_51_e:c63_51 = .ret:=rfl
theorem c63_52_e:c63_52 = .skip:=rfl
theorem c63_53_e:c63_53 = .seq c63_54 c63_55:=rfl
theorem c63_54_r:RG (E0 mm) 63 c63_54:=rgN rfl
theorem c63_55_e:c63_55 = .ret:=rfl
abbrev R63:=(Int×Int)
def e63:R63→AV×Heap:=fun x=>(.tup [.c (.d (.sc (.int .u64 x.1))),.c (.d (.sc (.int .i64 x.2)))],[])
def K63_16:Option (Ex×St)→Option (AV×Heap):=fun r=>bodyD (E0 mm) [.tmp 6,.tmp 7] 0 false (seqD (E0 mm) 63 0 (callW (E0 mm)) itW c63_45 (blockD 0 (r)))
def en63_16:(Int×Int×Bool×Bs×Nat)→X:=fun x=>(none,[.v (.c (.d (.sc (.int .u64 x.1)))),.v (.c (.d (.sc (.func (.func 64) #[] #[])))),.v (.c (.d (.sc (.int .u64 x.2.1)))),.v (.c (.d (.sc (.bool x.2.2.1)))),.v (.c (.it 0))],[.siter (S x.2.2.2.1) x.2.2.2.2])
def j63_39 (base1 n8:Int) (long9:Bool) (d12:Int) (t34:Bool) (s0:Bs) (p0:Nat):Option ((Int×Int×Bool×Bs×Nat) ⊕ R63):=
 if t34 = true then
  some (.inl (base1,n8,true,s0,p0))
 else
  some (.inl (base1,(wu64 ((wu64 (n8 * base1)) + (wu64 d12))),long9,s0,p0))
theorem j63_39_t (base1 n8:Int) (long9:Bool) (d12:Int) (t34:Bool) (s0:Bs) (p0:Nat)  (sl:Nat→AV) (zq1:sl 1 = .v (.c (.d (.sc (.int .u64 base1))))) (zq2:sl 2 = .v (.c (.d (.sc (.func (.func 64) #[] #[]))))) (zq8:sl 8 = .v (.c (.d (.sc (.int .u64 n8))))) (zq9:sl 9 = .v (.c (.d (.sc (.bool long9))))) (zq12:sl 12 = .v (.c (.d (.sc (.int .i64 d12))))) (zq16:sl 16 = .v (.c (.it 0))) (zq34:sl 34 = .v (.c (.d (.sc (.bool t34))))):
  stepE (K63_16 (mm:=mm)) (loopK 0 [(1,.keep),(2,.keep),(8,.keep),(9,.keep),(16,.keep)] (blockD 1 (seqD (E0 mm) 63 0 (callW (E0 mm)) itW c63_44 (den (E0 mm) 63 0 (callW (E0 mm)) itW c63_39 none ⟨sl,[.siter (S s0) p0]⟩)))) = (j63_39 base1 n8 long9 d12 t34 s0 p0).map (sm en63_16 e63):=by
 simp -implicitDefEqProofs only [j63_39,(show c63_39 = Code.cond _ c63_40 c63_43 from rfl),zq1,zq2,zq8,zq9,zq12,zq16,zq34,setA,setB,za,zb,zc,zd,ze,zf,zg,zh,zi,zj,zk,zl,zm,zn,zo,zp,reduceCtorEq,zE,↓reduceIte]
 refine brB (fun yc8=>?_) (fun yc8=>?_)
 ·simp -implicitDefEqProofs only [c63_40_e,c63_41_r,(show opsOf c63_41 = _ :: _ from rfl),c63_42_e,zq1,zq2,zq8,zq9,zq12,zq16,zq34,yc8,setA,setB,za,zb,zc,zd,ze,zf,zg,zh,zi,zj,zk,zl,zm,zn,zo,zp,reduceCtorEq,zE,↓reduceIte]
  all_goals rfl
 ·simp -implicitDefEqProofs only [c63_43_e,c63_44_r,(show opsOf c63_44 = _ :: _ from rfl),Tryz.underlying3,Tryz.underlying22,zq1,zq2,zq8,zq9,zq12,zq16,zq34,yc8,setA,setB,za,zb,zc,zd,ze,zf,zg,zh,zi,zj,zk,zl,zm,zn,zo,zp,reduceCtorEq,zE,↓reduceIte]
  all_goals rfl
def j63_45 (n8:Int) (long9:Bool):Option R63:=
 if long9 = true then
  some ((0:Int),(3:Int))
 else
  some (n8,(0:Int))
theorem j63_45_t (n8:Int) (long9:Bool) (g0:Ob) (sl:Nat→AV) (zq8:sl 8 = .v (.c (.d (.sc (.int .u64 n8))))) (zq9:sl 9 = .v (.c (.d (.sc (.bool long9))))):
  bodyD (E0 mm) [.tmp 6,.tmp 7] 0 false (den (E0 mm) 63 0 (callW (E0 mm)) itW c63_45 none ⟨sl,[g0]⟩) = (j63_45 n8 long9).map e63:=by
 simp -implicitDefEqProofs only [j63_45,c63_45_e,c63_46_e,c63_47_r,(show opsOf c63_47 = _ :: _ from rfl),(show c63_48 = Code.cond _ c63_49 c63_52 from rfl),zq8,zq9,setA,setB,za,zb,zc,zd,ze,zf,zg,zh,zi,zj,zk,zl,zm,zn,zo,zp,reduceCtorEq,zE,↓reduceIte]
 refine brB (fun yc10=>?_) (fun yc10=>?_)
 ·simp -implicitDefEqProofs only [c63_49_e,c63_50_r,(show opsOf c63_50 = _ :: _ from rfl),c63_51_e,zq8,zq9,yc10,setA,setB,za,zb,zc,zd,ze,zf,zg,zh,zi,zj,zk,zl,zm,zn,zo,zp,reduceCtorEq,zE,↓reduceIte]
  all_goals rfl
 ·simp -implicitDefEqProofs only [c63_52_e,c63_53_e,c63_54_r,(show opsOf c63_54 = _ :: _ from rfl),c63_55_e,zq8,zq9,yc10,setA,setB,za,zb,zc,zd,ze,zf,zg,zh,zi,zj,zk,zl,zm,zn,zo,zp,reduceCtorEq,zE,↓reduceIte]
  all_goals rfl
def s63_16 (base1 n8:Int) (long9:Bool) (s0:Bs) (p0:Nat):Option ((Int×Int×Bool×Bs×Nat) ⊕ R63):=
 if (decide (p0 < s0.length)) = true then
  (m64 (uc s0 p0:Int)).bind fun yr5=>
   if (decide (yr5 < 0)) = true then
    some (.inr ((0:Int),(5:Int)))
   else
    if long9 = true then
     j63_39 base1 n8 true yr5 true s0 (p0 + uw s0 p0)
    else
     if (base1 == 0) = false then
      j63_39 base1 n8 false yr5 (decide ((wu64 ((wu64 (9007199254740991 - (wu64 yr5))).tdiv base1)) < n8)) s0 (p0 + uw s0 p0)
     else none
 else
  (j63_45 n8 long9).map .inr
theorem s63_16_t (base1 n8:Int) (long9:Bool) (s0:Bs) (p0:Nat):
  stepE (K63_16 (mm:=mm)) (loopF (E0 mm) 63 0 (callW (E0 mm)) itW c63_17 [(1,.keep),(2,.keep),(8,.keep),(9,.keep),(16,.keep)] (none,[.v (.c (.d (.sc (.int .u64 base1)))),.v (.c (.d (.sc (.func (.func 64) #[] #[])))),.v (.c (.d (.sc (.int .u64 n8)))),.v (.c (.d (.sc (.bool long9)))),.v (.c (.it 0))],[.siter (S s0) p0])) = (s63_16 base1 n8 long9 s0 p0).map (sm en63_16 e63):=by
 simp -implicitDefEqProofs only [s63_16,loopF_eq,c63_17_e,c63_18_r,(show opsOf c63_18 = _ :: _ from rfl),dec_eq,setA,setB,za,zb,zc,zd,ze,zf,zg,zh,zi,zj,zk,zl,zm,zn,zo,zp,reduceCtorEq,zE,↓reduceIte]
 refine brB (fun yc2=>?_) (fun yc2=>?_)
 ·have yd3:=of_decide_eq_true yc2
  simp -implicitDefEqProofs only [c63_19_e,(show c63_20 = Code.cond _ c63_21 c63_22 from rfl),c63_21_e,c63_23_e,c63_24_e,c63_25_r,(show opsOf c63_25 = _ :: _ from rfl),c63_26_e,c63_27_r,(show opsOf c63_27 = _ :: _ from rfl),ent64,prm64,f64_t,yd3,setA,setB,za,zb,zc,zd,ze,zf,zg,zh,zi,zj,zk,zl,zm,zn,zo,zp,reduceCtorEq,zE,↓reduceIte]
  refine brM (fun yc4=>?_) (fun yr5 yc4=>?_)
  ·rw [yc4]; rfl
  ·simp -implicitDefEqProofs only [e64,c63_28_e,c63_29_e,c63_30_r,(show opsOf c63_30 = _ :: _ from rfl),(show c63_31 = Code.cond _ c63_32 c63_35 from rfl),yd3,yc4,setA,setB,za,zb,zc,zd,ze,zf,zg,zh,zi,zj,zk,zl,zm,zn,zo,zp,reduceCtorEq,zE,↓reduceIte]
   refine brB (fun yc6=>?_) (fun yc6=>?_)
   ·simp -implicitDefEqProofs only [c63_32_e,c63_33_r,(show opsOf c63_33 = _ :: _ from rfl),c63_34_e,K63_16,yd3,yc4,yc6,setA,setB,za,zb,zc,zd,ze,zf,zg,zh,zi,zj,zk,zl,zm,zn,zo,zp,reduceCtorEq,zE,↓reduceIte]
    all_goals rfl
   ·simp -implicitDefEqProofs only [c63_35_e,c63_36_e,c63_37_e,c63_38_r,(show opsOf c63_38 = _ :: _ from rfl),yd3,yc4,yc6,setA,setB,za,zb,zc,zd,ze,zf,zg,zh,zi,zj,zk,zl,zm,zn,zo,zp,reduceCtorEq,zE,↓reduceIte]
    refine brB (fun yc7=>?_) (fun yc7=>?_)
    ·simp -implicitDefEqProofs only [yd3,yc4,yc6,yc7,setA,setB,za,zb,zc,zd,ze,zf,zg,zh,zi,zj,zk,zl,zm,zn,zo,zp,reduceCtorEq,zE,↓reduceIte]
     exact j63_39_t base1 n8 true yr5 true s0 (p0 + uw s0 p0) _ (by rfl) (by rfl) (by rfl) (by rfl) (by rfl) (by rfl) (by rfl)
    ·simp -implicitDefEqProofs only [Tryz.underlying3,Tryz.underlying22,ev_quo0,yd3,yc4,yc6,yc7,setA,setB,za,zb,zc,zd,ze,zf,zg,zh,zi,zj,zk,zl,zm,zn,zo,zp,reduceCtorEq,zE,↓reduceIte]
     refine brP (fun yc9=>?_) (fun yc9=>?_)
     ·simp -implicitDefEqProofs only [yd3,yc4,yc6,yc7,yc9,setA,setB,za,zb,zc,zd,ze,zf,zg,zh,zi,zj,zk,zl,zm,zn,zo,zp,reduceCtorEq,zE,↓reduceIte]
      exact j63_39_t base1 n8 false yr5 (decide ((wu64 ((wu64 (9007199254740991 - (wu64 yr5))).tdiv base1)) < n8)) s0 (p0 + uw s0 p0) _ (by rfl) (by rfl) (by rfl) (by rfl) (by rfl) (by rfl) (by rfl)
     ·rw [if_neg yc9]; rfl
 ·have yd3:=of_decide_eq_false yc2
  simp -implicitDefEqProofs only [c63_19_e,(show c63_20 = Code.cond _ c63_21 c63_22 from rfl),c63_22_e,K63_16,yd3,setA,setB,za,zb,zc,zd,ze,zf,zg,zh,zi,zj,zk,zl,zm,zn,zo,zp,reduceCtorEq,zE,↓reduceIte]
  exact mi (j63_45_t n8 long9 _ _ (by rfl) (by rfl))
def l63_16 (base1 n8:Int) (long9:Bool) (s0:Bs) (p0:Nat):Option R63:=iter (fun x:(Int×Int×Bool×Bs×Nat)=>s63_16 x.1 x.2.1 x.2.2.1 x.2.2.2.1 x.2.2.2.2) (base1,n8,long9,s0,p0)
theorem l63_16_t (base1 n8:Int) (long9:Bool) (s0:Bs) (p0:Nat):bodyD (E0 mm) [.tmp 6,.tmp 7] 0 false (seqD (E0 mm) 63 0 (callW (E0 mm)) itW c63_45 (blockD 0 (itW (loopF (E0 mm) 63 0 (callW (E0 mm)) itW c63_17 [(1,.keep),(2,.keep),(8,.keep),(9,.keep),(16,.keep)]) (none,[.v (.c (.d (.sc (.int .u64 base1)))),.v (.c (.d (.sc (.func (.func 64) #[] #[])))),.v (.c (.d (.sc (.int .u64 n8)))),.v (.c (.d (.sc (.bool long9)))),.v (.c (.it 0))],[.siter (S s0) p0])))) = (l63_16 base1 n8 long9 s0 p0).map e63:=
 it_sim (K:=(K63_16 (mm:=mm))) rfl (enc:=en63_16) (fun x=>s63_16_t x.1 x.2.1 x.2.2.1 x.2.2.2.1 x.2.2.2.2) (base1,n8,long9,s0,p0)
def m63 (s:Bs) (base:Int):Option R63:=
 if (s == ([]:Bs)) = true then
  some ((0:Int),(5:Int))
 else
  l63_16 base (0:Int) false s 0
theorem f63_t (s:Bs) (base:Int):
  callW (E0 mm) 63 [.c (.d (.sc (.string (S s)))),.c (.d (.sc (.int .u64 base))),.c (.d (.sc (.func (.func 64) #[] #[])))] [] = (m63 s base).map e63:=by
 rw [callW_run (body:=c63_0) (res:=[.tmp 6,.tmp 7]) Tryz.func63 rfl rfl (by kernel_rfl)]
 simp -implicitDefEqProofs only [m63,slots3,c63_0_e,c63_1_r,(show opsOf c63_1 = _ :: _ from rfl),c63_2_e,c63_3_e,c63_4_r,(show opsOf c63_4 = _ :: _ from rfl),(show c63_5 = Code.cond _ c63_6 c63_9 from rfl),setA,setB,za,zb,zc,zd,ze,zf,zg,zh,zi,zj,zk,zl,zm,zn,zo,zp,reduceCtorEq,zE,↓reduceIte]
 refine brB (fun yc1=>?_) (fun yc1=>?_)
 ·simp -implicitDefEqProofs only [c63_6_e,c63_7_r,(show opsOf c63_7 = _ :: _ from rfl),c63_8_e,yc1,setA,setB,za,zb,zc,zd,ze,zf,zg,zh,zi,zj,zk,zl,zm,zn,zo,zp,reduceCtorEq,zE,↓reduceIte]
  all_goals rfl
 ·simp -implicitDefEqProofs only [c63_9_e,c63_10_e,c63_11_r,(show opsOf c63_11 = _ :: _ from rfl),c63_12_e,c63_13_e,c63_14_r,(show opsOf c63_14 = _ :: _ from rfl),Tryz.underlying9,c63_15_e,c63_16_l,yc1,setA,setB,za,zb,zc,zd,ze,zf,zg,zh,zi,zj,zk,zl,zm,zn,zo,zp,reduceCtorEq,zE,↓reduceIte]
  exact l63_16_t base (0:Int) false s 0
noncomputable def c41_0:Code:=bodyOf Tryz.f41
def c41_1:=cA c41_0
def c41_2:=cB c41_0
def c41_3:=cA c41_2
def c41_4:=cB c41_2
theorem c41_0_e:c41_0 = .seq c41_1 c41_2:=rfl
theorem c41_1_r:RG (E0 mm) 41 c41_1:=rgN rfl
theorem c41_2_e:c41_2 = .seq c41_3 c41_4:=rfl
theorem c41_3_r:RG (E0 mm) 41 c41_3:=rgN rfl
theorem c41_4_e:c41_4 = .ret:=rfl
abbrev R41:=(Int×Int)
def e41:R41→AV×Heap:=fun x=>(.tup [.c (.d (.sc (.int .u64 x.1))),.c (.d (.sc (.int .i64 x.2)))],[])
def m41 (s:Bs):Option R41:=
 (m63 s (10:Int)).bind fun yr2=>
  some (yr2.1,yr2.2)
theorem f41_t (s:Bs):
  callW (E0 mm) 41 [.c (.d (.sc (.string (S s))))] [] = (m41 s).map e41:=by
 rw [callW_run (body:=c41_0) (res:=[.tmp 2,.tmp 3]) Tryz.func41 rfl rfl (by kernel_rfl)]
 simp -implicitDefEqProofs only [m41,slots1,c41_0_e,c41_1_r,(show opsOf c41_1 = _ :: _ from rfl),c41_2_e,c41_3_r,(show opsOf c41_3 = _ :: _ from rfl),ent63,prm63,f63_t,setA,setB,za,zb,zc,zd,ze,zf,zg,zh,zi,zj,zk,zl,zm,zn,zo,zp,reduceCtorEq,zE,↓reduceIte]
 refine brM (fun yc1=>?_) (fun yr2 yc1=>?_)
 ·rw [yc1]; rfl
 ·simp -implicitDefEqProofs only [e63,c41_4_e,yc1,setA,setB,za,zb,zc,zd,ze,zf,zg,zh,zi,zj,zk,zl,zm,zn,zo,zp,reduceCtorEq,zE,↓reduceIte]
  all_goals rfl
noncomputable def c57_0:Code:=bodyOf Tryz.f57
def c57_1:=cA c57_0
def c57_2:=cB c57_0
def c57_3:=cA c57_2
def c57_4:=cB c57_2
def c57_5:=cA c57_4
def c57_6:=cA c57_5
def c57_7:=cB c57_5
def c57_8:=cA c57_7
def c57_9:=cA c57_8
def c57_10:=cB c57_8
def c57_11:=cA c57_10
def c57_12:=cA c57_11
def c57_13:=cB c57_11
def c57_14:=cB c57_10
def c57_15:=cA c57_14
def c57_16:=cB c57_14
def c57_17:=cA c57_16
def c57_18:=cA c57_17
def c57_19:=cB c57_17
def c57_20:=cB c57_16
def c57_21:=cB c57_4
def c57_22:=cA c57_21
def c57_23:=cB c57_21
theorem c57_0_e:c57_0 = .seq c57_1 c57_2:=rfl
theorem c57_1_r:RG (E0 mm) 57 c57_1:=rgN rfl
theorem c57_2_e:c57_2 = .seq c57_3 c57_4:=rfl
theorem c57_3_r:RG (E0 mm) 57 c57_3:=rgN rfl
theorem c57_4_e:c57_4 = .seq c57_5 c57_21:=rfl
theorem c57_5_e:c57_5 = .seq c57_6 c57_7:=rfl
theorem c57_6_r:RG (E0 mm) 57 c57_6:=rgN rfl
theorem c57_7_e:c57_7 = .block 0 c57_8:=rfl
theorem c57_8_e:c57_8 = .seq c57_9 c57_10:=rfl
theorem c57_9_r:RG (E0 mm) 57 c57_9:=rgN rfl
theorem c57_11_e:c57_11 = .seq c57_12 c57_13:=rfl
theorem c57_12_r:RG (E0 mm) 57 c57_12:=rgN rfl
theorem c57_13_e:c57_13 = .ret:=rfl
theorem c57_14_e:c57_14 = .seq c57_15 c57_16:=rfl
theorem c57_15_r:RG (E0 mm) 57 c57_15:=rgN rfl
theorem c57_17_e:c57_17 = .seq c57_18 c57_19:=rfl
theorem c57_18_r:RG (E0 mm) 57 c57_18:=rgN rfl
theorem c57_19_e:c57_19 = .ret:=rfl
theorem c57_20_e:c57_20 = .skip:=rfl
theorem c57_21_e:c57_21 = .seq c57_22 c57_23:=rfl
theorem c57_22_r:RG (E0 mm) 57 c57_22:=rgN rfl
theorem c57_23_e:c57_23 = .ret:=rfl
abbrev R57:=(Int)
def e57:R57→AV×Heap:=fun x=>(.v (.c (.d (.sc (.int .i64 x)))),[])
def m57 (s:Bs):Option R57:=
 (m41 s).bind fun yr2=>
  if (yr2.2 == 0) = true then
   some (w64 (min2 yr2.1 2147483647))
  else
   if (yr2.2 == 3) = true then
    some (2147483647:Int)
   else
    some (0:Int)
theorem f57_t (s:Bs):
  callW (E0 mm) 57 [.c (.d (.sc (.string (S s))))] [] = (m57 s).map e57:=by
 rw [callW_run (body:=c57_0) (res:=[.tmp 2]) Tryz.func57 rfl rfl (by kernel_rfl)]
 simp -implicitDefEqProofs only [m57,slots1,c57_0_e,c57_1_r,(show opsOf c57_1 = _ :: _ from rfl),c57_2_e,c57_3_r,(show opsOf c57_3 = _ :: _ from rfl),ent41,prm41,f41_t,setA,setB,za,zb,zc,zd,ze,zf,zg,zh,zi,zj,zk,zl,zm,zn,zo,zp,reduceCtorEq,zE,↓reduceIte]
 refine brM (fun yc1=>?_) (fun yr2 yc1=>?_)
 ·rw [yc1]; rfl
 ·simp -implicitDefEqProofs only [e41,c57_4_e,c57_5_e,c57_6_r,(show opsOf c57_6 = _ :: _ from rfl),c57_7_e,c57_8_e,c57_9_r,(show opsOf c57_9 = _ :: _ from rfl),(show c57_10 = Code.cond _ c57_11 c57_14 from rfl),yc1,setA,setB,za,zb,zc,zd,ze,zf,zg,zh,zi,zj,zk,zl,zm,zn,zo,zp,reduceCtorEq,zE,↓reduceIte]
  refine brB (fun yc3=>?_) (fun yc3=>?_)
  ·simp -implicitDefEqProofs only [c57_11_e,c57_12_r,(show opsOf c57_12 = _ :: _ from rfl),Tryz.underlying22,Tryz.underlying3,c57_13_e,yc1,yc3,setA,setB,za,zb,zc,zd,ze,zf,zg,zh,zi,zj,zk,zl,zm,zn,zo,zp,reduceCtorEq,zE,↓reduceIte]
   all_goals rfl
  ·simp -implicitDefEqProofs only [c57_14_e,c57_15_r,(show opsOf c57_15 = _ :: _ from rfl),(show c57_16 = Code.cond _ c57_17 c57_20 from rfl),yc1,yc3,setA,setB,za,zb,zc,zd,ze,zf,zg,zh,zi,zj,zk,zl,zm,zn,zo,zp,reduceCtorEq,zE,↓reduceIte]
   refine brB (fun yc4=>?_) (fun yc4=>?_)
   ·simp -implicitDefEqProofs only [c57_17_e,c57_18_r,(show opsOf c57_18 = _ :: _ from rfl),c57_19_e,yc1,yc3,yc4,setA,setB,za,zb,zc,zd,ze,zf,zg,zh,zi,zj,zk,zl,zm,zn,zo,zp,reduceCtorEq,zE,↓reduceIte]
    all_goals rfl
   ·simp -implicitDefEqProofs only [c57_20_e,c57_21_e,c57_22_r,(show opsOf c57_22 = _ :: _ from rfl),c57_23_e,yc1,yc3,yc4,setA,setB,za,zb,zc,zd,ze,zf,zg,zh,zi,zj,zk,zl,zm,zn,zo,zp,reduceCtorEq,zE,↓reduceIte]
    all_goals rfl
noncomputable def c33_0:Code:=bodyOf Tryz.f33
def c33_1:=cA c33_0
def c33_2:=cB c33_0
def c33_3:=cA c33_2
def c33_4:=cA c33_3
def c33_5:=cB c33_3
def c33_6:=cA c33_5
def c33_7:=cB c33_5
def c33_8:=cB c33_2
def c33_9:=cA c33_8
def c33_10:=cB c33_8
def c33_11:=cA c33_10
def c33_12:=cA c33_11
def c33_13:=cB c33_11
def c33_14:=cA c33_13
def c33_15:=cA c33_14
def c33_16:=cA c33_15
def c33_17:=cA c33_16
def c33_18:=cB c33_16
def c33_19:=cA c33_18
def c33_20:=cB c33_18
def c33_21:=cB c33_15
def c33_22:=cA c33_21
def c33_23:=cA c33_22
def c33_24:=cB c33_21
def c33_25:=cB c33_10
def c33_26:=cA c33_25
def c33_27:=cB c33_25
theorem c33_0_e:c33_0 = .seq c33_1 c33_2:=rfl
theorem c33_1_r:RG (E0 mm) 33 c33_1:=rgN rfl
theorem c33_2_e:c33_2 = .seq c33_3 c33_8:=rfl
theorem c33_3_e:c33_3 = .seq c33_4 c33_5:=rfl
theorem c33_4_r:RG (E0 mm) 33 c33_4:=rgN rfl
theorem c33_6_r:RG (E0 mm) 33 c33_6:=rgN rfl
theorem c33_7_e:c33_7 = .skip:=rfl
theorem c33_8_e:c33_8 = .seq c33_9 c33_10:=rfl
theorem c33_9_r:RG (E0 mm) 33 c33_9:=rgN rfl
theorem c33_10_e:c33_10 = .seq c33_11 c33_25:=rfl
theorem c33_11_e:c33_11 = .seq c33_12 c33_13:=rfl
theorem c33_12_r:RG (E0 mm) 33 c33_12:=rgN rfl
theorem c33_13_e:c33_13 = .block 0 c33_14:=rfl
theorem c33_14_l (m:Nat) (st:St):den (E0 mm) 33 m (callW (E0 mm)) itW c33_14 none st = loopD itW (loopF (E0 mm) 33 m (callW (E0 mm)) itW c33_15 [(0,.keep),(3,.keep),(4,.keep)]) (canon m [(0,.keep),(3,.keep),(4,.keep)] st):=rfl
theorem c33_15_e:c33_15 = .seq c33_16 c33_21:=rfl
theorem c33_16_e:c33_16 = .seq c33_17 c33_18:=rfl
theorem c33_17_r:RG (E0 mm) 33 c33_17:=rgN rfl
theorem c33_19_e:c33_19 = .skip:=rfl
theorem c33_20_e:c33_20 = .exit 0:=rfl
theorem c33_21_e:c33_21 = .seq c33_22 c33_24:=rfl
theorem c33_22_e:c33_22 = .block 1 c33_23:=rfl
theorem c33_23_r:RG (E0 mm) 33 c33_23:=rgN rfl
theorem c33_24_r:RG (E0 mm) 33 c33_24:=rgN rfl
theorem c33_25_e:c33_25 = .seq c33_26 c33_27:=rfl
theorem c33_26_r:RG (E0 mm) 33 c33_26:=rgN rfl
theorem c33_27_e:c33_27 = .ret:=rfl
abbrev R33:=(Int×List Int)
def e33:R33→AV×Heap:=fun x=>(.v (.c (.d (.sc (.int .i64 x.1)))),[.cells (enI x.2)])
def K33_14:Option (Ex×St)→Option (AV×Heap):=fun r=>bodyD (E0 mm) [.tmp 2] 1 false (seqD (E0 mm) 33 1 (callW (E0 mm)) itW c33_25 (blockD 0 (r)))
def en33_14:(Int×Int×List Int)→X:=fun x=>(none,[.v (.c (.slc 0 0 1 x.2.2.length none)),.v (.c (.d (.sc (.int .i64 x.1)))),.v (.c (.d (.sc (.int .i64 x.2.1))))],[.cells (enI x.2.2)])
def j33_25 (m3:Int) (h0:List Int):Option R33:=
 some (m3,h0)
theorem j33_25_t (m3:Int) (h0:List Int)  (sl:Nat→AV) (zq3:sl 3 = .v (.c (.d (.sc (.int .i64 m3))))):
  bodyD (E0 mm) [.tmp 2] 1 false (den (E0 mm) 33 1 (callW (E0 mm)) itW c33_25 none ⟨sl,[.cells (enI h0)]⟩) = (j33_25 m3 h0).map e33:=by
 simp -implicitDefEqProofs only [j33_25,c33_25_e,c33_26_r,(show opsOf c33_26 = _ :: _ from rfl),c33_27_e,zq3,setA,setB,za,zb,zc,zd,ze,zf,zg,zh,zi,zj,zk,zl,zm,zn,zo,zp,reduceCtorEq,zE,↓reduceIte]
 all_goals rfl
def s33_14 (m3 i4:Int) (h0:List Int):Option ((Int×Int×List Int) ⊕ R33):=
 if (decide (i4 < (h0.length:Int))) = true then
  if 0≤i4∧i4 < (h0.length:Int) then
   some (.inl ((min2 m3 (h0.getD i4.toNat default)),(w64 (i4 + 1)),h0))
  else none
 else
  (j33_25 m3 h0).map .inr
theorem s33_14_t (m3 i4:Int) (h0:List Int):
  stepE (K33_14 (mm:=mm)) (loopF (E0 mm) 33 1 (callW (E0 mm)) itW c33_15 [(0,.keep),(3,.keep),(4,.keep)] (none,[.v (.c (.slc 0 0 1 h0.length none)),.v (.c (.d (.sc (.int .i64 m3)))),.v (.c (.d (.sc (.int .i64 i4))))],[.cells (enI h0)])) = (s33_14 m3 i4 h0).map (sm en33_14 e33):=by
 simp -implicitDefEqProofs only [s33_14,loopF_eq,c33_15_e,c33_16_e,c33_17_r,(show opsOf c33_17 = _ :: _ from rfl),Tryz.underlying44,(show c33_18 = Code.cond _ c33_19 c33_20 from rfl),setA,setB,za,zb,zc,zd,ze,zf,zg,zh,zi,zj,zk,zl,zm,zn,zo,zp,reduceCtorEq,zE,↓reduceIte]
 refine brB (fun yc4=>?_) (fun yc4=>?_)
 ·simp -implicitDefEqProofs only [c33_19_e,c33_21_e,c33_22_e,c33_23_r,(show opsOf c33_23 = _ :: _ from rfl),Tryz.underlying44,sz3,yc4,setA,setB,za,zb,zc,zd,ze,zf,zg,zh,zi,zj,zk,zl,zm,zn,zo,zp,reduceCtorEq,zE,↓reduceIte]
  refine brP (fun yc5=>?_) (fun yc5=>?_)
  ·have yd6:i4.toNat < h0.length:=by omega
   simp -implicitDefEqProofs only [sz3,ag3,enI_length,(enI_load h0 i4.toNat yd6),Tryz.underlying3,c33_24_r,(show opsOf c33_24 = _ :: _ from rfl),yc4,yc5,yd6,setA,setB,za,zb,zc,zd,ze,zf,zg,zh,zi,zj,zk,zl,zm,zn,zo,zp,reduceCtorEq,zE,↓reduceIte]
   all_goals rfl
  ·rw [if_neg yc5]; rfl
 ·simp -implicitDefEqProofs only [c33_20_e,K33_14,yc4,setA,setB,za,zb,zc,zd,ze,zf,zg,zh,zi,zj,zk,zl,zm,zn,zo,zp,reduceCtorEq,zE,↓reduceIte]
  exact mi (j33_25_t m3 h0 _ (by rfl))
def l33_14 (m3 i4:Int) (h0:List Int):Option R33:=iter (fun x:(Int×Int×List Int)=>s33_14 x.1 x.2.1 x.2.2) (m3,i4,h0)
theorem l33_14_t (m3 i4:Int) (h0:List Int):bodyD (E0 mm) [.tmp 2] 1 false (seqD (E0 mm) 33 1 (callW (E0 mm)) itW c33_25 (blockD 0 (itW (loopF (E0 mm) 33 1 (callW (E0 mm)) itW c33_15 [(0,.keep),(3,.keep),(4,.keep)]) (none,[.v (.c (.slc 0 0 1 h0.length none)),.v (.c (.d (.sc (.int .i64 m3)))),.v (.c (.d (.sc (.int .i64 i4))))],[.cells (enI h0)])))) = (l33_14 m3 i4 h0).map e33:=
 it_sim (K:=(K33_14 (mm:=mm))) rfl (enc:=en33_14) (fun x=>s33_14_t x.1 x.2.1 x.2.2) (m3,i4,h0)
def m33 (h0:List Int):Option R33:=
 if (decide ((h0.length:Int) < 1)) = true then
  none
 else
  if (0:Int) < (h0.length:Int) then
   l33_14 (h0.getD 0 default) (1:Int) h0
  else none
theorem f33_t (h0:List Int):
  callW (E0 mm) 33 [.c (.slc 0 0 1 h0.length none)] [.cells (enI h0)] = (m33 h0).map e33:=by
 rw [callW_run (body:=c33_0) (res:=[.tmp 2]) Tryz.func33 rfl rfl (by kernel_rfl)]
 simp -implicitDefEqProofs only [m33,slots1,c33_0_e,c33_1_r,(show opsOf c33_1 = _ :: _ from rfl),c33_2_e,c33_3_e,c33_4_r,(show opsOf c33_4 = _ :: _ from rfl),Tryz.underlying44,(show c33_5 = Code.cond _ c33_6 c33_7 from rfl),setA,setB,za,zb,zc,zd,ze,zf,zg,zh,zi,zj,zk,zl,zm,zn,zo,zp,reduceCtorEq,zE,↓reduceIte]
 refine brB (fun yc1=>?_) (fun yc1=>?_)
 ·simp -implicitDefEqProofs only [c33_6_r,(runOps_dead (E:=(E0 mm)) (call:=callW (E0 mm)) (all:=opsOf c33_6) (os:=opsOf c33_6) (by kernel_rfl)),regD_none,seqD_none,blockD_none,stepE_none,loopK_none,bodyD_none,Option.map_none,yc1,setA,setB,za,zb,zc,zd,ze,zf,zg,zh,zi,zj,zk,zl,zm,zn,zo,zp,reduceCtorEq,zE,↓reduceIte]
 ·simp -implicitDefEqProofs only [c33_7_e,c33_8_e,c33_9_r,(show opsOf c33_9 = _ :: _ from rfl),Tryz.underlying44,sz3,yc1,setA,setB,za,zb,zc,zd,ze,zf,zg,zh,zi,zj,zk,zl,zm,zn,zo,zp,reduceCtorEq,zE,↓reduceIte]
  refine brP (fun yc2=>?_) (fun yc2=>?_)
  ·have yd3:0 < h0.length:=by omega
   simp -implicitDefEqProofs only [sz3,ag3,enI_length,(enI_load0 h0 0 yd3),c33_10_e,c33_11_e,c33_12_r,(show opsOf c33_12 = _ :: _ from rfl),c33_13_e,c33_14_l,yc1,yc2,yd3,setA,setB,za,zb,zc,zd,ze,zf,zg,zh,zi,zj,zk,zl,zm,zn,zo,zp,reduceCtorEq,zE,↓reduceIte]
   exact l33_14_t (h0.getD 0 default) (1:Int) h0
  ·rw [if_neg yc2]; rfl
noncomputable def c32_0:Code:=bodyOf Tryz.f32
def c32_1:=cA c32_0
def c32_2:=cB c32_0
def c32_3:=cA c32_2
def c32_4:=cB c32_2
def c32_5:=cA c32_4
def c32_6:=cA c32_5
def c32_7:=cB c32_5
def c32_8:=cA c32_7
def c32_9:=cA c32_8
def c32_10:=cA c32_9
def c32_11:=cB c32_9
def c32_12:=cA c32_11
def c32_13:=cA c32_12
def c32_14:=cB c32_12
def c32_15:=cB c32_11
def c32_16:=cA c32_15
def c32_17:=cA c32_16
def c32_18:=cA c32_17
def c32_19:=cB c32_17
def c32_20:=cB c32_15
def c32_21:=cB c32_4
def c32_22:=cA c32_21
def c32_23:=cA c32_22
def c32_24:=cB c32_22
def c32_25:=cA c32_24
def c32_26:=cA c32_25
def c32_27:=cB c32_25
def c32_28:=cB c32_24
def c32_29:=cB c32_21
def c32_30:=cA c32_29
def c32_31:=cB c32_29
theorem c32_0_e:c32_0 = .seq c32_1 c32_2:=rfl
theorem c32_1_r:RG (E0 mm) 32 c32_1:=rgN rfl
theorem c32_2_e:c32_2 = .seq c32_3 c32_4:=rfl
theorem c32_3_r:RG (E0 mm) 32 c32_3:=rgN rfl
theorem c32_4_e:c32_4 = .seq c32_5 c32_21:=rfl
theorem c32_5_e:c32_5 = .seq c32_6 c32_7:=rfl
theorem c32_6_r:RG (E0 mm) 32 c32_6:=rgN rfl
theorem c32_7_e:c32_7 = .block 0 c32_8:=rfl
theorem c32_8_l (m:Nat) (st:St):den (E0 mm) 32 m (callW (E0 mm)) itW c32_8 none st = loopD itW (loopF (E0 mm) 32 m (callW (E0 mm)) itW c32_9 [(1,.keep),(5,.keep),(8,.keep),(9,.keep),(10,.keep)]) (canon m [(1,.keep),(5,.keep),(8,.keep),(9,.keep),(10,.keep)] st):=rfl
theorem c32_9_e:c32_9 = .seq c32_10 c32_11:=rfl
theorem c32_10_r:RG (E0 mm) 32 c32_10:=rgN rfl
theorem c32_11_e:c32_11 = .seq c32_12 c32_15:=rfl
theorem c32_13_e:c32_13 = .skip:=rfl
theorem c32_14_e:c32_14 = .exit 0:=rfl
theorem c32_15_e:c32_15 = .seq c32_16 c32_20:=rfl
theorem c32_16_e:c32_16 = .block 1 c32_17:=rfl
theorem c32_17_e:c32_17 = .seq c32_18 c32_19:=rfl
theorem c32_18_r:RG (E0 mm) 32 c32_18:=rgN rfl
theorem c32_19_r:RG (E0 mm) 32 c32_19:=rgN rfl
theorem c32_20_r:RG (E0 mm) 32 c32_20:=rgN rfl
theorem c32_21_e:c32_21 = .seq c32_22 c32_29:=rfl
theorem c32_22_e:c32_22 = .seq c32_23 c32_24:=rfl
theorem c32_23_r:RG (E0 mm) 32 c32_23:=rgN rfl
theorem c32_25_e:c32_25 = .seq c32_26 c32_27:=rfl
theorem c32_26_r:RG (E0 mm) 32 c32_26:=rgN rfl
theorem c32_27_e:c32_27 = .ret:=rfl
theorem c32_28_e:c32_28 = .skip:=rfl
theorem c32_29_e:c32_29 = .seq c32_30 c32_31:=rfl
theorem c32_30_r:RG (E0 mm) 32 c32_30:=rgN rfl
theorem c32_31_e:c32_31 = .ret:=rfl
abbrev R32:=(Int)
def e32:R32→AV×Heap:=fun x=>(.v (.c (.d (.sc (.int .i64 x)))),[])
def K32_8:Option (Ex×St)→Option (AV×Heap):=fun r=>bodyD (E0 mm) [.tmp 4] 0 false (seqD (E0 mm) 32 0 (callW (E0 mm)) itW c32_21 (blockD 0 (r)))
def en32_8:((Bool×List Bs×Int×Int) ⊕ (Bool×List Bs×Int×Int×List Int))→X:=fun x=>match x with
 | (.inl x)=>(none,[.v (.c (.d (.sc (.func (.func 33) #[] #[])))),.v (.c (.d (.lst true []))),.v (.c (.d (.lst x.1 (enL enS x.2.1)))),.v (.c (.d (.sc (.int .i64 x.2.2.1)))),.v (.c (.d (.sc (.int .i64 x.2.2.2))))],[])
 | (.inr x)=>(none,[.v (.c (.d (.sc (.func (.func 33) #[] #[])))),.v (.c (.slc 0 0 1 x.2.2.2.2.length none)),.v (.c (.d (.lst x.1 (enL enS x.2.1)))),.v (.c (.d (.sc (.int .i64 x.2.2.1)))),.v (.c (.d (.sc (.int .i64 x.2.2.2.1))))],[.cells (enI x.2.2.2.2)])
def j32_20 (t8_0:Bool) (t8_1:List Bs) (t9 t10:Int) (h1:List Int):Option (((Bool×List Bs×Int×Int) ⊕ (Bool×List Bs×Int×Int×List Int)) ⊕ R32):=
 some (.inl (.inr (t8_0,t8_1,t9,(w64 (t10 + 1)),h1)))
theorem j32_20_t (t8_0:Bool) (t8_1:List Bs) (t9 t10:Int) (h1:List Int) (g0:Ob) (sl:Nat→AV) (zq1:sl 1 = .v (.c (.d (.sc (.func (.func 33) #[] #[]))))) (zq5:sl 5 = .v (.c (.slc 1 0 1 h1.length none))) (zq8:sl 8 = .v (.c (.d (.lst t8_0 (enL enS t8_1))))) (zq9:sl 9 = .v (.c (.d (.sc (.int .i64 t9))))) (zq10:sl 10 = .v (.c (.d (.sc (.int .i64 t10))))):
  stepE (K32_8 (mm:=mm)) (loopK 0 [(1,.keep),(5,.keep),(8,.keep),(9,.keep),(10,.keep)] (den (E0 mm) 32 0 (callW (E0 mm)) itW c32_20 none ⟨sl,[g0,.cells (enI h1)]⟩)) = (j32_20 t8_0 t8_1 t9 t10 h1).map (sm en32_8 e32):=by
 simp -implicitDefEqProofs only [j32_20,c32_20_r,(show opsOf c32_20 = _ :: _ from rfl),zq1,zq5,zq8,zq9,zq10,setA,setB,za,zb,zc,zd,ze,zf,zg,zh,zi,zj,zk,zl,zm,zn,zo,zp,reduceCtorEq,zE,↓reduceIte]
 all_goals rfl
def j32_15 (t8_0:Bool) (t8_1:List Bs) (t9 t10:Int):Option (((Bool×List Bs×Int×Int) ⊕ (Bool×List Bs×Int×Int×List Int)) ⊕ R32):=
 if 0≤t10∧t10 < (t8_1.length:Int) then
  (m57 (t8_1.getD t10.toNat default)).bind fun yr5=>
   j32_20 t8_0 t8_1 t9 t10 ([yr5]:List Int)
 else none
theorem j32_15_t (t8_0:Bool) (t8_1:List Bs) (t9 t10:Int)  (sl:Nat→AV) (zq1:sl 1 = .v (.c (.d (.sc (.func (.func 33) #[] #[]))))) (zq5:sl 5 = .v (.c (.d (.lst true [])))) (zq8:sl 8 = .v (.c (.d (.lst t8_0 (enL enS t8_1))))) (zq9:sl 9 = .v (.c (.d (.sc (.int .i64 t9))))) (zq10:sl 10 = .v (.c (.d (.sc (.int .i64 t10))))):
  stepE (K32_8 (mm:=mm)) (loopK 0 [(1,.keep),(5,.keep),(8,.keep),(9,.keep),(10,.keep)] (den (E0 mm) 32 0 (callW (E0 mm)) itW c32_15 none ⟨sl,[]⟩)) = (j32_15 t8_0 t8_1 t9 t10).map (sm en32_8 e32):=by
 simp -implicitDefEqProofs only [j32_15,c32_15_e,c32_16_e,c32_17_e,c32_18_r,(show opsOf c32_18 = _ :: _ from rfl),Tryz.underlying40,sz9,enS_a,zq1,zq5,zq8,zq9,zq10,setA,setB,za,zb,zc,zd,ze,zf,zg,zh,zi,zj,zk,zl,zm,zn,zo,zp,reduceCtorEq,zE,↓reduceIte]
 refine brP (fun yc2=>?_) (fun yc2=>?_)
 ·have yd3:t10.toNat < t8_1.length:=by omega
  simp -implicitDefEqProofs only [(enL_get enS t8_1 t10.toNat yd3),enS_e,sz9,ag9,c32_19_r,(show opsOf c32_19 = _ :: _ from rfl),ent57,prm57,f57_t,zq1,zq5,zq8,zq9,zq10,yc2,yd3,setA,setB,za,zb,zc,zd,ze,zf,zg,zh,zi,zj,zk,zl,zm,zn,zo,zp,reduceCtorEq,zE,↓reduceIte]
  refine brM (fun yc4=>?_) (fun yr5 yc4=>?_)
  ·rw [yc4]; rfl
  ·simp -implicitDefEqProofs only [e57,Tryz.underlying44,sz3,zc3,hd50,nv51,rw52,nh53,enI_length,enI1_src,ah44hnil,zq1,zq5,zq8,zq9,zq10,yc2,yd3,yc4,setA,setB,za,zb,zc,zd,ze,zf,zg,zh,zi,zj,zk,zl,zm,zn,zo,zp,reduceCtorEq,zE,↓reduceIte]
   exact j32_20_t t8_0 t8_1 t9 t10 ([yr5]:List Int) _ _ (by exact zq1) (by rfl) (by exact zq8) (by exact zq9) (by exact zq10)
 ·rw [if_neg yc2]; rfl
def j32_21  : Option R32:=
 some (-1:Int)
theorem j32_21_t   (sl:Nat→AV) (zq1:sl 1 = .v (.c (.d (.sc (.func (.func 33) #[] #[]))))) (zq5:sl 5 = .v (.c (.d (.lst true [])))):
  bodyD (E0 mm) [.tmp 4] 0 false (den (E0 mm) 32 0 (callW (E0 mm)) itW c32_21 none ⟨sl,[]⟩) = (j32_21).map e32:=by
 simp -implicitDefEqProofs only [j32_21,c32_21_e,c32_22_e,c32_23_r,(show opsOf c32_23 = _ :: _ from rfl),Tryz.underlying44,(show c32_24 = Code.cond _ c32_25 c32_28 from rfl),c32_25_e,c32_26_r,(show opsOf c32_26 = _ :: _ from rfl),c32_27_e,zq1,zq5,setA,setB,za,zb,zc,zd,ze,zf,zg,zh,zi,zj,zk,zl,zm,zn,zo,zp,reduceCtorEq,zE,↓reduceIte]
 all_goals rfl
def s32_8x0 (t8_0:Bool) (t8_1:List Bs) (t9 t10:Int):Option (((Bool×List Bs×Int×Int) ⊕ (Bool×List Bs×Int×Int×List Int)) ⊕ R32):=
 if (decide (t10 < t9)) = true then
  j32_15 t8_0 t8_1 t9 t10
 else
  (j32_21).map .inr
theorem s32_8x0_t (t8_0:Bool) (t8_1:List Bs) (t9 t10:Int):
  stepE (K32_8 (mm:=mm)) (loopF (E0 mm) 32 0 (callW (E0 mm)) itW c32_9 [(1,.keep),(5,.keep),(8,.keep),(9,.keep),(10,.keep)] (none,[.v (.c (.d (.sc (.func (.func 33) #[] #[])))),.v (.c (.d (.lst true []))),.v (.c (.d (.lst t8_0 (enL enS t8_1)))),.v (.c (.d (.sc (.int .i64 t9)))),.v (.c (.d (.sc (.int .i64 t10))))],[])) = (s32_8x0 t8_0 t8_1 t9 t10).map (sm en32_8 e32):=by
 simp -implicitDefEqProofs only [s32_8x0,loopF_eq,c32_9_e,c32_10_r,(show opsOf c32_10 = _ :: _ from rfl),c32_11_e,(show c32_12 = Code.cond _ c32_13 c32_14 from rfl),setA,setB,za,zb,zc,zd,ze,zf,zg,zh,zi,zj,zk,zl,zm,zn,zo,zp,reduceCtorEq,zE,↓reduceIte]
 refine brB (fun yc1=>?_) (fun yc1=>?_)
 ·simp -implicitDefEqProofs only [c32_13_e,yc1,setA,setB,za,zb,zc,zd,ze,zf,zg,zh,zi,zj,zk,zl,zm,zn,zo,zp,reduceCtorEq,zE,↓reduceIte]
  exact j32_15_t t8_0 t8_1 t9 t10 _ (by rfl) (by rfl) (by rfl) (by rfl) (by rfl)
 ·simp -implicitDefEqProofs only [c32_14_e,K32_8,yc1,setA,setB,za,zb,zc,zd,ze,zf,zg,zh,zi,zj,zk,zl,zm,zn,zo,zp,reduceCtorEq,zE,↓reduceIte]
  exact mi (j32_21_t _ (by rfl) (by rfl))
def j32_20v1 (t8_0:Bool) (t8_1:List Bs) (t9 t10:Int) (h2:List Int):Option (((Bool×List Bs×Int×Int) ⊕ (Bool×List Bs×Int×Int×List Int)) ⊕ R32):=
 some (.inl (.inr (t8_0,t8_1,t9,(w64 (t10 + 1)),h2)))
theorem j32_20v1_t (t8_0:Bool) (t8_1:List Bs) (t9 t10:Int) (h2:List Int) (g0 g1:Ob) (sl:Nat→AV) (zq1:sl 1 = .v (.c (.d (.sc (.func (.func 33) #[] #[]))))) (zq5:sl 5 = .v (.c (.slc 2 0 1 h2.length none))) (zq8:sl 8 = .v (.c (.d (.lst t8_0 (enL enS t8_1))))) (zq9:sl 9 = .v (.c (.d (.sc (.int .i64 t9))))) (zq10:sl 10 = .v (.c (.d (.sc (.int .i64 t10))))):
  stepE (K32_8 (mm:=mm)) (loopK 0 [(1,.keep),(5,.keep),(8,.keep),(9,.keep),(10,.keep)] (den (E0 mm) 32 0 (callW (E0 mm)) itW c32_20 none ⟨sl,[g0,g1,.cells (enI h2)]⟩)) = (j32_20v1 t8_0 t8_1 t9 t10 h2).map (sm en32_8 e32):=by
 simp -implicitDefEqProofs only [j32_20v1,c32_20_r,(show opsOf c32_20 = _ :: _ from rfl),zq1,zq5,zq8,zq9,zq10,setA,setB,za,zb,zc,zd,ze,zf,zg,zh,zi,zj,zk,zl,zm,zn,zo,zp,reduceCtorEq,zE,↓reduceIte]
 all_goals rfl
def j32_15v1 (t8_0:Bool) (t8_1:List Bs) (t9 t10:Int) (h0:List Int):Option (((Bool×List Bs×Int×Int) ⊕ (Bool×List Bs×Int×Int×List Int)) ⊕ R32):=
 if 0≤t10∧t10 < (t8_1.length:Int) then
  (m57 (t8_1.getD t10.toNat default)).bind fun yr10=>
   if (h0.length + 1) * 8≤140737488355328 then
    j32_20v1 t8_0 t8_1 t9 t10 (h0 ++ ([yr10]:List Int))
   else none
 else none
theorem j32_15v1_t (t8_0:Bool) (t8_1:List Bs) (t9 t10:Int) (h0:List Int)  (sl:Nat→AV) (zq1:sl 1 = .v (.c (.d (.sc (.func (.func 33) #[] #[]))))) (zq5:sl 5 = .v (.c (.slc 0 0 1 h0.length none))) (zq8:sl 8 = .v (.c (.d (.lst t8_0 (enL enS t8_1))))) (zq9:sl 9 = .v (.c (.d (.sc (.int .i64 t9))))) (zq10:sl 10 = .v (.c (.d (.sc (.int .i64 t10))))):
  stepE (K32_8 (mm:=mm)) (loopK 0 [(1,.keep),(5,.keep),(8,.keep),(9,.keep),(10,.keep)] (den (E0 mm) 32 0 (callW (E0 mm)) itW c32_15 none ⟨sl,[.cells (enI h0)]⟩)) = (j32_15v1 t8_0 t8_1 t9 t10 h0).map (sm en32_8 e32):=by
 simp -implicitDefEqProofs only [j32_15v1,c32_15_e,c32_16_e,c32_17_e,c32_18_r,(show opsOf c32_18 = _ :: _ from rfl),Tryz.underlying40,sz9,enS_a,zq1,zq5,zq8,zq9,zq10,setA,setB,za,zb,zc,zd,ze,zf,zg,zh,zi,zj,zk,zl,zm,zn,zo,zp,reduceCtorEq,zE,↓reduceIte]
 refine brP (fun yc7=>?_) (fun yc7=>?_)
 ·have yd8:t10.toNat < t8_1.length:=by omega
  simp -implicitDefEqProofs only [(enL_get enS t8_1 t10.toNat yd8),enS_e,sz9,ag9,c32_19_r,(show opsOf c32_19 = _ :: _ from rfl),ent57,prm57,f57_t,zq1,zq5,zq8,zq9,zq10,yc7,yd8,setA,setB,za,zb,zc,zd,ze,zf,zg,zh,zi,zj,zk,zl,zm,zn,zo,zp,reduceCtorEq,zE,↓reduceIte]
  refine brM (fun yc9=>?_) (fun yr10 yc9=>?_)
  ·rw [yc9]; rfl
  ·simp -implicitDefEqProofs only [e57,Tryz.underlying44,sz3,zc3,hd50,nv51,rw52,nh53,enI_length,enI1_src,ah44hslc,zq1,zq5,zq8,zq9,zq10,yc7,yd8,yc9,setA,setB,za,zb,zc,zd,ze,zf,zg,zh,zi,zj,zk,zl,zm,zn,zo,zp,reduceCtorEq,zE,↓reduceIte]
   refine brP (fun yc11=>?_) (fun yc11=>?_)
   ·simp -implicitDefEqProofs only [zq1,zq5,zq8,zq9,zq10,yc7,yd8,yc9,yc11,setA,setB,za,zb,zc,zd,ze,zf,zg,zh,zi,zj,zk,zl,zm,zn,zo,zp,reduceCtorEq,zE,↓reduceIte]
    exact j32_20v1_t t8_0 t8_1 t9 t10 (h0 ++ ([yr10]:List Int)) _ _ _ (by exact zq1) (by rfl) (by exact zq8) (by exact zq9) (by exact zq10)
   ·rw [if_neg yc11]; rfl
 ·rw [if_neg yc7]; rfl
def j32_21v1 (h0:List Int):Option R32:=
 if ((h0.length:Int) == 0) = true then
  some (-1:Int)
 else
  (m33 h0).bind fun yr14=>
   some yr14.1
theorem j32_21v1_t (h0:List Int)  (sl:Nat→AV) (zq1:sl 1 = .v (.c (.d (.sc (.func (.func 33) #[] #[]))))) (zq5:sl 5 = .v (.c (.slc 0 0 1 h0.length none))):
  bodyD (E0 mm) [.tmp 4] 0 false (den (E0 mm) 32 0 (callW (E0 mm)) itW c32_21 none ⟨sl,[.cells (enI h0)]⟩) = (j32_21v1 h0).map e32:=by
 simp -implicitDefEqProofs only [j32_21v1,c32_21_e,c32_22_e,c32_23_r,(show opsOf c32_23 = _ :: _ from rfl),Tryz.underlying44,(show c32_24 = Code.cond _ c32_25 c32_28 from rfl),zq1,zq5,setA,setB,za,zb,zc,zd,ze,zf,zg,zh,zi,zj,zk,zl,zm,zn,zo,zp,reduceCtorEq,zE,↓reduceIte]
 refine brB (fun yc12=>?_) (fun yc12=>?_)
 ·simp -implicitDefEqProofs only [c32_25_e,c32_26_r,(show opsOf c32_26 = _ :: _ from rfl),c32_27_e,zq1,zq5,yc12,setA,setB,za,zb,zc,zd,ze,zf,zg,zh,zi,zj,zk,zl,zm,zn,zo,zp,reduceCtorEq,zE,↓reduceIte]
  all_goals rfl
 ·simp -implicitDefEqProofs only [c32_28_e,c32_29_e,c32_30_r,(show opsOf c32_30 = _ :: _ from rfl),ent33,prm33,f33_t,zq1,zq5,yc12,setA,setB,za,zb,zc,zd,ze,zf,zg,zh,zi,zj,zk,zl,zm,zn,zo,zp,reduceCtorEq,zE,↓reduceIte]
  refine brM (fun yc13=>?_) (fun yr14 yc13=>?_)
  ·rw [yc13]; rfl
  ·simp -implicitDefEqProofs only [e33,c32_31_e,zq1,zq5,yc12,yc13,setA,setB,za,zb,zc,zd,ze,zf,zg,zh,zi,zj,zk,zl,zm,zn,zo,zp,reduceCtorEq,zE,↓reduceIte]
   all_goals rfl
def s32_8x1 (t8_0:Bool) (t8_1:List Bs) (t9 t10:Int) (h0:List Int):Option (((Bool×List Bs×Int×Int) ⊕ (Bool×List Bs×Int×Int×List Int)) ⊕ R32):=
 if (decide (t10 < t9)) = true then
  j32_15v1 t8_0 t8_1 t9 t10 h0
 else
  (j32_21v1 h0).map .inr
theorem s32_8x1_t (t8_0:Bool) (t8_1:List Bs) (t9 t10:Int) (h0:List Int):
  stepE (K32_8 (mm:=mm)) (loopF (E0 mm) 32 0 (callW (E0 mm)) itW c32_9 [(1,.keep),(5,.keep),(8,.keep),(9,.keep),(10,.keep)] (none,[.v (.c (.d (.sc (.func (.func 33) #[] #[])))),.v (.c (.slc 0 0 1 h0.length none)),.v (.c (.d (.lst t8_0 (enL enS t8_1)))),.v (.c (.d (.sc (.int .i64 t9)))),.v (.c (.d (.sc (.int .i64 t10))))],[.cells (enI h0)])) = (s32_8x1 t8_0 t8_1 t9 t10 h0).map (sm en32_8 e32):=by
 simp -implicitDefEqProofs only [s32_8x1,loopF_eq,c32_9_e,c32_10_r,(show opsOf c32_10 = _ :: _ from rfl),c32_11_e,(show c32_12 = Code.cond _ c32_13 c32_14 from rfl),setA,setB,za,zb,zc,zd,ze,zf,zg,zh,zi,zj,zk,zl,zm,zn,zo,zp,reduceCtorEq,zE,↓reduceIte]
 refine brB (fun yc6=>?_) (fun yc6=>?_)
 ·simp -implicitDefEqProofs only [c32_13_e,yc6,setA,setB,za,zb,zc,zd,ze,zf,zg,zh,zi,zj,zk,zl,zm,zn,zo,zp,reduceCtorEq,zE,↓reduceIte]
  exact j32_15v1_t t8_0 t8_1 t9 t10 h0 _ (by rfl) (by rfl) (by rfl) (by rfl) (by rfl)
 ·simp -implicitDefEqProofs only [c32_14_e,K32_8,yc6,setA,setB,za,zb,zc,zd,ze,zf,zg,zh,zi,zj,zk,zl,zm,zn,zo,zp,reduceCtorEq,zE,↓reduceIte]
  exact mi (j32_21v1_t h0 _ (by rfl) (by rfl))
def s32_8:((Bool×List Bs×Int×Int) ⊕ (Bool×List Bs×Int×Int×List Int))→Option (((Bool×List Bs×Int×Int) ⊕ (Bool×List Bs×Int×Int×List Int)) ⊕ R32):=fun x=>match x with
 | (.inl x)=>s32_8x0 x.1 x.2.1 x.2.2.1 x.2.2.2
 | (.inr x)=>s32_8x1 x.1 x.2.1 x.2.2.1 x.2.2.2.1 x.2.2.2.2
def l32_8 (t8_0:Bool) (t8_1:List Bs) (t9 t10:Int):Option R32:=iter s32_8 (.inl (t8_0,t8_1,t9,t10))
theorem l32_8_t (t8_0:Bool) (t8_1:List Bs) (t9 t10:Int):bodyD (E0 mm) [.tmp 4] 0 false (seqD (E0 mm) 32 0 (callW (E0 mm)) itW c32_21 (blockD 0 (itW (loopF (E0 mm) 32 0 (callW (E0 mm)) itW c32_9 [(1,.keep),(5,.keep),(8,.keep),(9,.keep),(10,.keep)]) (none,[.v (.c (.d (.sc (.func (.func 33) #[] #[])))),.v (.c (.d (.lst true []))),.v (.c (.d (.lst t8_0 (enL enS t8_1)))),.v (.c (.d (.sc (.int .i64 t9)))),.v (.c (.d (.sc (.int .i64 t10))))],[])))) = (l32_8 t8_0 t8_1 t9 t10).map e32:=
 it_sim (K:=(K32_8 (mm:=mm))) rfl (enc:=en32_8) (fun x=>match x with
 | (.inl x)=>s32_8x0_t x.1 x.2.1 x.2.2.1 x.2.2.2
 | (.inr x)=>s32_8x1_t x.1 x.2.1 x.2.2.1 x.2.2.2.1 x.2.2.2.2) (.inl (t8_0,t8_1,t9,t10))
def m32 (values_0:Bool) (values_1:List Bs):Option R32:=
 l32_8 values_0 values_1 (values_1.length:Int) (0:Int)
theorem f32_t (values_0:Bool) (values_1:List Bs):
  callW (E0 mm) 32 [.c (.d (.lst values_0 (enL enS values_1))),.c (.d (.sc (.func (.func 33) #[] #[])))] [] = (m32 values_0 values_1).map e32:=by
 rw [callW_run (body:=c32_0) (res:=[.tmp 4]) Tryz.func32 rfl rfl (by kernel_rfl)]
 simp -implicitDefEqProofs only [m32,slots2,c32_0_e,c32_1_r,(show opsOf c32_1 = _ :: _ from rfl),c32_2_e,c32_3_r,(show opsOf c32_3 = _ :: _ from rfl),c32_4_e,c32_5_e,c32_6_r,(show opsOf c32_6 = _ :: _ from rfl),Tryz.underlying40,c32_7_e,c32_8_l,setA,setB,za,zb,zc,zd,ze,zf,zg,zh,zi,zj,zk,zl,zm,zn,zo,zp,reduceCtorEq,zE,↓reduceIte]
 exact l32_8_t values_0 values_1 (values_1.length:Int) (0:Int)
noncomputable def c15_0:Code:=bodyOf Tryz.f15
def c15_1:=cA c15_0
def c15_2:=cB c15_0
def c15_3:=cA c15_2
def c15_4:=cB c15_2
def c15_5:=cA c15_4
def c15_6:=cB c15_4
theorem c15_0_e:c15_0 = .seq c15_1 c15_2:=rfl
theorem c15_1_r:RG (E0 mm) 15 c15_1:=rgN rfl
theorem c15_2_e:c15_2 = .seq c15_3 c15_4:=rfl
theorem c15_3_r:RG (E0 mm) 15 c15_3:=rgN rfl
theorem c15_4_e:c15_4 = .seq c15_5 c15_6:=rfl
theorem c15_5_r (m:Nat) (st:St):den (E0 mm) 15 m (callW (E0 mm)) itW c15_5 none st = regD ((runF (E0 mm) (callW (E0 mm)) (opsOf c15_5) (opsOf c15_5) [none,none,some false,none,none,some false,none,none,some false,none,none,some false,none,none,some false,none,some true,some false,none,some true,none,none,none] st []).bind (ckF [(16,2),(16,5),(16,8),(16,11),(16,14),(19,2),(19,5),(19,8),(19,11),(19,14),(19,17)])):=den_dF (by kernel_rfl)
theorem c15_6_e:c15_6 = .ret:=rfl
abbrev R15:=(Bool×Bool×Bool×Bool×Bool×Bool×Int×Int×Int×Int)
def e15:R15→AV×Heap:=fun x=>(.v (.agg [.d (.sc (.bool x.1)),.d (.sc (.bool x.2.1)),.d (.sc (.bool x.2.2.1)),.d (.sc (.bool x.2.2.2.1)),.d (.sc (.bool x.2.2.2.2.1)),.d (.sc (.bool x.2.2.2.2.2.1)),.d (.sc (.int .i64 x.2.2.2.2.2.2.1)),.d (.sc (.int .i64 x.2.2.2.2.2.2.2.1)),.d (.sc (.int .i64 x.2.2.2.2.2.2.2.2.1)),.d (.sc (.int .i64 x.2.2.2.2.2.2.2.2.2))]),[])
def m15 (l_0:Bool) (l_1:List (Bs×Bs)):Option R15:=
 (m30 l_0 l_1).bind fun yr2=>
  (m31 false ([([110,111,45,115,116,111,114,101]:Bs)]:List Bs) yr2).bind fun yr4=>
   (m31 false ([([110,111,45,99,97,99,104,101]:Bs)]:List Bs) yr2).bind fun yr6=>
    (m31 false ([([112,114,105,118,97,116,101]:Bs)]:List Bs) yr2).bind fun yr8=>
     (m31 false ([([112,117,98,108,105,99]:Bs)]:List Bs) yr2).bind fun yr10=>
      (m31 false ([([109,117,115,116,45,114,101,118,97,108,105,100,97,116,101]:Bs),([112,114,111,120,121,45,114,101,118,97,108,105,100,97,116,101]:Bs)]:List Bs) yr2).bind fun yr12=>
       (m32 (!(hasM ([109,97,120,45,97,103,101]:Bs) yr2)) (valM ([109,97,120,45,97,103,101]:Bs) yr2)).bind fun yr14=>
        (m32 (!(hasM ([115,45,109,97,120,97,103,101]:Bs) yr2)) (valM ([115,45,109,97,120,97,103,101]:Bs) yr2)).bind fun yr16=>
         some (yr4,yr6,yr8,yr10,yr12,false,yr14,yr16,(-1:Int),(-1:Int))
theorem f15_t (l_0:Bool) (l_1:List (Bs×Bs)):
  callW (E0 mm) 15 [.c (.d (.lst l_0 (enL enSS l_1)))] [] = (m15 l_0 l_1).map e15:=by
 rw [callW_run (body:=c15_0) (res:=[.cell 2 38]) Tryz.func15 rfl rfl (by kernel_rfl)]
 simp -implicitDefEqProofs only [m15,slots1,c15_0_e,c15_1_r,(show opsOf c15_1 = _ :: _ from rfl),zc38,ao29,c15_2_e,c15_3_r,(show opsOf c15_3 = _ :: _ from rfl),ent30,prm30,f30_t,setA,setB,za,zb,zc,zd,ze,zf,zg,zh,zi,zj,zk,zl,zm,zn,zo,zp,reduceCtorEq,zE,↓reduceIte]
 refine brM (fun yc1=>?_) (fun yr2 yc1=>?_)
 ·rw [yc1]; rfl
 ·simp -implicitDefEqProofs only [e30,c15_4_e,c15_5_r,(show opsOf c15_5 = _ :: _ from rfl),Tryz.underlying40,sz9,zc9,hd46,nv47,rw48,ns5,ent31,prm31,(show callW (E0 mm) 31 [.c (.mp 0),.c (.d (.lst false (enL enS ([([110,111,45,115,116,111,114,101]:Bs)]:List Bs))))] [.amap (enM yr2)] = _ from f31_t false ([([110,111,45,115,116,111,114,101]:Bs)]:List Bs) yr2),yc1,runF_nil,runF_none,runF_some,runKF_t,runKF_f,runKF_x,stepKF_s,stepKF_x,tlT_c,tlT_n,hdT_c,hdT_n,footT_n,foot_t,readsO,setA,setB,za,zb,zc,zd,ze,zf,zg,zh,zi,zj,zk,zl,zm,zn,zo,zp,reduceCtorEq,zE,↓reduceIte]
  refine brM (fun yc3=>?_) (fun yr4 yc3=>?_)
  ·rw [yc3]; rfl
  ·simp -implicitDefEqProofs only [e31,Tryz.underlying40,sz9,zc9,hd46,nv47,rw48,ns5,ent31,prm31,(show callW (E0 mm) 31 [.c (.mp 0),.c (.d (.lst false (enL enS ([([110,111,45,99,97,99,104,101]:Bs)]:List Bs))))] [.amap (enM yr2)] = _ from f31_t false ([([110,111,45,99,97,99,104,101]:Bs)]:List Bs) yr2),yc1,runF_nil,runF_none,runF_some,runKF_t,runKF_f,runKF_x,stepKF_s,stepKF_x,tlT_c,tlT_n,hdT_c,hdT_n,footT_n,foot_t,readsO,yc3,setA,setB,za,zb,zc,zd,ze,zf,zg,zh,zi,zj,zk,zl,zm,zn,zo,zp,reduceCtorEq,zE,↓reduceIte]
   refine brM (fun yc5=>?_) (fun yr6 yc5=>?_)
   ·rw [yc5]; rfl
   ·simp -implicitDefEqProofs only [e31,Tryz.underlying40,sz9,zc9,hd46,nv47,rw48,ns5,ent31,prm31,(show callW (E0 mm) 31 [.c (.mp 0),.c (.d (.lst false (enL enS ([([112,114,105,118,97,116,101]:Bs)]:List Bs))))] [.amap (enM yr2)] = _ from f31_t false ([([112,114,105,118,97,116,101]:Bs)]:List Bs) yr2),yc1,runF_nil,runF_none,runF_some,runKF_t,runKF_f,runKF_x,stepKF_s,stepKF_x,tlT_c,tlT_n,hdT_c,hdT_n,footT_n,foot_t,readsO,yc3,yc5,setA,setB,za,zb,zc,zd,ze,zf,zg,zh,zi,zj,zk,zl,zm,zn,zo,zp,reduceCtorEq,zE,↓reduceIte]
    refine brM (fun yc7=>?_) (fun yr8 yc7=>?_)
    ·rw [yc7]; rfl
    ·simp -implicitDefEqProofs only [e31,Tryz.underlying40,sz9,zc9,hd46,nv47,rw48,ns5,ent31,prm31,(show callW (E0 mm) 31 [.c (.mp 0),.c (.d (.lst false (enL enS ([([112,117,98,108,105,99]:Bs)]:List Bs))))] [.amap (enM yr2)] = _ from f31_t false ([([112,117,98,108,105,99]:Bs)]:List Bs) yr2),yc1,runF_nil,runF_none,runF_some,runKF_t,runKF_f,runKF_x,stepKF_s,stepKF_x,tlT_c,tlT_n,hdT_c,hdT_n,footT_n,foot_t,readsO,yc3,yc5,yc7,setA,setB,za,zb,zc,zd,ze,zf,zg,zh,zi,zj,zk,zl,zm,zn,zo,zp,reduceCtorEq,zE,↓reduceIte]
     refine brM (fun yc9=>?_) (fun yr10 yc9=>?_)
     ·rw [yc9]; rfl
     ·simp -implicitDefEqProofs only [e31,Tryz.underlying40,sz9,zc9,hd46,nv47,rw48,ns49,ent31,prm31,(show callW (E0 mm) 31 [.c (.mp 0),.c (.d (.lst false (enL enS ([([109,117,115,116,45,114,101,118,97,108,105,100,97,116,101]:Bs),([112,114,111,120,121,45,114,101,118,97,108,105,100,97,116,101]:Bs)]:List Bs))))] [.amap (enM yr2)] = _ from f31_t false ([([109,117,115,116,45,114,101,118,97,108,105,100,97,116,101]:Bs),([112,114,111,120,121,45,114,101,118,97,108,105,100,97,116,101]:Bs)]:List Bs) yr2),yc1,runF_nil,runF_none,runF_some,runKF_t,runKF_f,runKF_x,stepKF_s,stepKF_x,tlT_c,tlT_n,hdT_c,hdT_n,footT_n,foot_t,readsO,yc3,yc5,yc7,yc9,setA,setB,za,zb,zc,zd,ze,zf,zg,zh,zi,zj,zk,zl,zm,zn,zo,zp,reduceCtorEq,zE,↓reduceIte]
      refine brM (fun yc11=>?_) (fun yr12 yc11=>?_)
      ·rw [yc11]; rfl
      ·simp -implicitDefEqProofs only [e31,Tryz.underlying56,Tryz.underlying9,zv40,ent32,prm32,f32_t,yc1,runF_nil,runF_none,runF_some,runKF_t,runKF_f,runKF_x,stepKF_s,stepKF_x,tlT_c,tlT_n,hdT_c,hdT_n,footT_n,foot_t,readsO,yc3,yc5,yc7,yc9,yc11,setA,setB,za,zb,zc,zd,ze,zf,zg,zh,zi,zj,zk,zl,zm,zn,zo,zp,reduceCtorEq,zE,↓reduceIte]
       refine brM (fun yc13=>?_) (fun yr14 yc13=>?_)
       ·rw [yc13]; rfl
       ·simp -implicitDefEqProofs only [e32,Tryz.underlying56,Tryz.underlying9,zv40,ent32,prm32,f32_t,yc1,runF_nil,runF_none,runF_some,runKF_t,runKF_f,runKF_x,stepKF_s,stepKF_x,tlT_c,tlT_n,hdT_c,hdT_n,footT_n,foot_t,readsO,yc3,yc5,yc7,yc9,yc11,yc13,setA,setB,za,zb,zc,zd,ze,zf,zg,zh,zi,zj,zk,zl,zm,zn,zo,zp,reduceCtorEq,zE,↓reduceIte]
        refine brM (fun yc15=>?_) (fun yr16 yc15=>?_)
        ·rw [yc15]; rfl
        ·simp -implicitDefEqProofs only [e32,Tryz.underlying38,zc38,sz4,sz3,sz38,ckF,foot_f,pair1,pair0,chgA,eqO,eqOb_cells,eqOb_row,eqOb_siter,eqOb_amapN,eqOb_amapC,eqOb_sm,eqE_S,eqE_SS,eqE_N,eqE_B,eqL,eqC,eqD,eqV,eqV1,eqB_refl,eq_self,decide_true,List.all_nil,List.getD_cons_zero,List.getD_cons_succ,Bool.and_self,c15_6_e,ag38,yc1,runF_nil,runF_none,runF_some,runKF_t,runKF_f,runKF_x,stepKF_s,stepKF_x,tlT_c,tlT_n,hdT_c,hdT_n,footT_n,foot_t,readsO,yc3,yc5,yc7,yc9,yc11,yc13,yc15,setA,setB,za,zb,zc,zd,ze,zf,zg,zh,zi,zj,zk,zl,zm,zn,zo,zp,reduceCtorEq,zE,↓reduceIte]
         all_goals rfl
noncomputable def c17_0:Code:=bodyOf Tryz.f17
def c17_1:=cA c17_0
def c17_2:=cB c17_0
def c17_3:=cA c17_2
def c17_4:=cA c17_3
def c17_5:=cB c17_3
def c17_6:=cA c17_5
def c17_7:=cA c17_6
def c17_8:=cB c17_6
def c17_9:=cB c17_5
def c17_10:=cB c17_2
def c17_11:=cA c17_10
def c17_12:=cB c17_10
theorem c17_0_e:c17_0 = .seq c17_1 c17_2:=rfl
theorem c17_1_r:RG (E0 mm) 17 c17_1:=rgN rfl
theorem c17_2_e:c17_2 = .seq c17_3 c17_10:=rfl
theorem c17_3_e:c17_3 = .seq c17_4 c17_5:=rfl
theorem c17_4_r:RG (E0 mm) 17 c17_4:=rgN rfl
theorem c17_6_e:c17_6 = .seq c17_7 c17_8:=rfl
theorem c17_7_r:RG (E0 mm) 17 c17_7:=rgN rfl
theorem c17_8_e:c17_8 = .ret:=rfl
theorem c17_9_e:c17_9 = .skip:=rfl
theorem c17_10_e:c17_10 = .seq c17_11 c17_12:=rfl
theorem c17_11_r:RG (E0 mm) 17 c17_11:=rgN rfl
theorem c17_12_e:c17_12 = .ret:=rfl
abbrev R17:=(Int)
def e17:R17→AV×Heap:=fun x=>(.v (.c (.d (.sc (.int .u64 x)))),[])
def m17 (xfrom to:Int):Option R17:=
 if (decide (to≤xfrom)) = true then
  some (0:Int)
 else
  some (wu64 (to - xfrom))
theorem f17_t (xfrom to:Int):
  callW (E0 mm) 17 [.c (.d (.sc (.int .u64 xfrom))),.c (.d (.sc (.int .u64 to)))] [] = (m17 xfrom to).map e17:=by
 rw [callW_run (body:=c17_0) (res:=[.tmp 4]) Tryz.func17 rfl rfl (by kernel_rfl)]
 simp -implicitDefEqProofs only [m17,slots2,c17_0_e,c17_1_r,(show opsOf c17_1 = _ :: _ from rfl),c17_2_e,c17_3_e,c17_4_r,(show opsOf c17_4 = _ :: _ from rfl),(show c17_5 = Code.cond _ c17_6 c17_9 from rfl),setA,setB,za,zb,zc,zd,ze,zf,zg,zh,zi,zj,zk,zl,zm,zn,zo,zp,reduceCtorEq,zE,↓reduceIte]
 refine brB (fun yc1=>?_) (fun yc1=>?_)
 ·simp -implicitDefEqProofs only [c17_6_e,c17_7_r,(show opsOf c17_7 = _ :: _ from rfl),c17_8_e,yc1,setA,setB,za,zb,zc,zd,ze,zf,zg,zh,zi,zj,zk,zl,zm,zn,zo,zp,reduceCtorEq,zE,↓reduceIte]
  all_goals rfl
 ·simp -implicitDefEqProofs only [c17_9_e,c17_10_e,c17_11_r,(show opsOf c17_11 = _ :: _ from rfl),c17_12_e,yc1,setA,setB,za,zb,zc,zd,ze,zf,zg,zh,zi,zj,zk,zl,zm,zn,zo,zp,reduceCtorEq,zE,↓reduceIte]
  all_goals rfl
noncomputable def c35_0:Code:=bodyOf Tryz.f35
def c35_1:=cA c35_0
def c35_2:=cB c35_0
def c35_3:=cA c35_2
def c35_4:=cA c35_3
def c35_5:=cB c35_3
def c35_6:=cA c35_5
def c35_7:=cA c35_6
def c35_8:=cA c35_7
def c35_9:=cB c35_7
def c35_10:=cA c35_9
def c35_11:=cA c35_10
def c35_12:=cB c35_10
def c35_13:=cB c35_9
def c35_14:=cA c35_13
def c35_15:=cA c35_14
def c35_16:=cA c35_15
def c35_17:=cB c35_15
def c35_18:=cA c35_17
def c35_19:=cB c35_17
def c35_20:=cA c35_19
def c35_21:=cA c35_20
def c35_22:=cB c35_20
def c35_23:=cB c35_19
def c35_24:=cB c35_13
def c35_25:=cB c35_2
def c35_26:=cA c35_25
def c35_27:=cB c35_25
theorem c35_0_e:c35_0 = .seq c35_1 c35_2:=rfl
theorem c35_1_r:RG (E0 mm) 35 c35_1:=rgN rfl
theorem c35_2_e:c35_2 = .seq c35_3 c35_25:=rfl
theorem c35_3_e:c35_3 = .seq c35_4 c35_5:=rfl
theorem c35_4_r:RG (E0 mm) 35 c35_4:=rgN rfl
theorem c35_5_e:c35_5 = .block 0 c35_6:=rfl
theorem c35_6_l (m:Nat) (st:St):den (E0 mm) 35 m (callW (E0 mm)) itW c35_6 none st = loopD itW (loopF (E0 mm) 35 m (callW (E0 mm)) itW c35_7 [(0,.keep),(1,.keep),(7,.keep),(8,.keep)]) (canon m [(0,.keep),(1,.keep),(7,.keep),(8,.keep)] st):=rfl
theorem c35_7_e:c35_7 = .seq c35_8 c35_9:=rfl
theorem c35_8_r:RG (E0 mm) 35 c35_8:=rgN rfl
theorem c35_9_e:c35_9 = .seq c35_10 c35_13:=rfl
theorem c35_11_e:c35_11 = .skip:=rfl
theorem c35_12_e:c35_12 = .exit 0:=rfl
theorem c35_13_e:c35_13 = .seq c35_14 c35_24:=rfl
theorem c35_14_e:c35_14 = .block 1 c35_15:=rfl
theorem c35_15_e:c35_15 = .seq c35_16 c35_17:=rfl
theorem c35_16_r:RG (E0 mm) 35 c35_16:=rgN rfl
theorem c35_17_e:c35_17 = .seq c35_18 c35_19:=rfl
theorem c35_18_r:RG (E0 mm) 35 c35_18:=rgN rfl
theorem c35_20_e:c35_20 = .seq c35_21 c35_22:=rfl
theorem c35_21_r:RG (E0 mm) 35 c35_21:=rgN rfl
theorem c35_22_e:c35_22 = .ret:=rfl
theorem c35_23_e:c35_23 = .skip:=rfl
theorem c35_24_r:RG (E0 mm) 35 c35_24:=rgN rfl
theorem c35_25_e:c35_25 = .seq c35_26 c35_27:=rfl
theorem c35_26_r:RG (E0 mm) 35 c35_26:=rgN rfl
theorem c35_27_e:c35_27 = .ret:=rfl
abbrev R35:=(Int)
def e35:R35→AV×Heap:=fun x=>(.v (.c (.d (.sc (.int .i64 x)))),[])
def K35_6:Option (Ex×St)→Option (AV×Heap):=fun r=>bodyD (E0 mm) [.tmp 4] 0 false (seqD (E0 mm) 35 0 (callW (E0 mm)) itW c35_25 (blockD 0 (r)))
def en35_6:(Bool×List Int×Int×Int×Int)→X:=fun x=>(none,[.v (.c (.d (.lst x.1 (enL enN x.2.1)))),.v (.c (.d (.sc (.int .i64 x.2.2.1)))),.v (.c (.d (.sc (.int .i64 x.2.2.2.1)))),.v (.c (.d (.sc (.int .i64 x.2.2.2.2))))],[])
def j35_25  : Option R35:=
 some (-1:Int)
theorem j35_25_t   (sl:Nat→AV)  :
  bodyD (E0 mm) [.tmp 4] 0 false (den (E0 mm) 35 0 (callW (E0 mm)) itW c35_25 none ⟨sl,[]⟩) = (j35_25).map e35:=by
 simp -implicitDefEqProofs only [j35_25,c35_25_e,c35_26_r,(show opsOf c35_26 = _ :: _ from rfl),c35_27_e,setA,setB,za,zb,zc,zd,ze,zf,zg,zh,zi,zj,zk,zl,zm,zn,zo,zp,reduceCtorEq,zE,↓reduceIte]
 all_goals rfl
def s35_6 (s0_0:Bool) (s0_1:List Int) (v1 t7 t8:Int):Option ((Bool×List Int×Int×Int×Int) ⊕ R35):=
 if (decide (t8 < t7)) = true then
  if 0≤t8∧t8 < (s0_1.length:Int) then
   if (v1 == (s0_1.getD t8.toNat default)) = true then
    some (.inr t8)
   else
    some (.inl (s0_0,s0_1,v1,t7,(w64 (t8 + 1))))
  else none
 else
  (j35_25).map .inr
theorem s35_6_t (s0_0:Bool) (s0_1:List Int) (v1 t7 t8:Int):
  stepE (K35_6 (mm:=mm)) (loopF (E0 mm) 35 0 (callW (E0 mm)) itW c35_7 [(0,.keep),(1,.keep),(7,.keep),(8,.keep)] (none,[.v (.c (.d (.lst s0_0 (enL enN s0_1)))),.v (.c (.d (.sc (.int .i64 v1)))),.v (.c (.d (.sc (.int .i64 t7)))),.v (.c (.d (.sc (.int .i64 t8))))],[])) = (s35_6 s0_0 s0_1 v1 t7 t8).map (sm en35_6 e35):=by
 simp -implicitDefEqProofs only [s35_6,loopF_eq,c35_7_e,c35_8_r,(show opsOf c35_8 = _ :: _ from rfl),c35_9_e,(show c35_10 = Code.cond _ c35_11 c35_12 from rfl),setA,setB,za,zb,zc,zd,ze,zf,zg,zh,zi,zj,zk,zl,zm,zn,zo,zp,reduceCtorEq,zE,↓reduceIte]
 refine brB (fun yc1=>?_) (fun yc1=>?_)
 ·simp -implicitDefEqProofs only [c35_11_e,c35_13_e,c35_14_e,c35_15_e,c35_16_r,(show opsOf c35_16 = _ :: _ from rfl),c35_17_e,c35_18_r,(show opsOf c35_18 = _ :: _ from rfl),Tryz.underlying44,sz3,enN_a,yc1,setA,setB,za,zb,zc,zd,ze,zf,zg,zh,zi,zj,zk,zl,zm,zn,zo,zp,reduceCtorEq,zE,↓reduceIte]
  refine brP (fun yc2=>?_) (fun yc2=>?_)
  ·have yd3:t8.toNat < s0_1.length:=by omega
   simp -implicitDefEqProofs only [(enL_get enN s0_1 t8.toNat yd3),enN_e,sz3,ag3,(show c35_19 = Code.cond _ c35_20 c35_23 from rfl),yc1,yc2,yd3,setA,setB,za,zb,zc,zd,ze,zf,zg,zh,zi,zj,zk,zl,zm,zn,zo,zp,reduceCtorEq,zE,↓reduceIte]
   refine brB (fun yc4=>?_) (fun yc4=>?_)
   ·simp -implicitDefEqProofs only [c35_20_e,c35_21_r,(show opsOf c35_21 = _ :: _ from rfl),c35_22_e,K35_6,yc1,yc2,yd3,yc4,setA,setB,za,zb,zc,zd,ze,zf,zg,zh,zi,zj,zk,zl,zm,zn,zo,zp,reduceCtorEq,zE,↓reduceIte]
    all_goals rfl
   ·simp -implicitDefEqProofs only [c35_23_e,c35_24_r,(show opsOf c35_24 = _ :: _ from rfl),yc1,yc2,yd3,yc4,setA,setB,za,zb,zc,zd,ze,zf,zg,zh,zi,zj,zk,zl,zm,zn,zo,zp,reduceCtorEq,zE,↓reduceIte]
    all_goals rfl
  ·rw [if_neg yc2]; rfl
 ·simp -implicitDefEqProofs only [c35_12_e,K35_6,yc1,setA,setB,za,zb,zc,zd,ze,zf,zg,zh,zi,zj,zk,zl,zm,zn,zo,zp,reduceCtorEq,zE,↓reduceIte]
  exact mi (j35_25_t _)
def l35_6 (s0_0:Bool) (s0_1:List Int) (v1 t7 t8:Int):Option R35:=iter (fun x:(Bool×List Int×Int×Int×Int)=>s35_6 x.1 x.2.1 x.2.2.1 x.2.2.2.1 x.2.2.2.2) (s0_0,s0_1,v1,t7,t8)
theorem l35_6_t (s0_0:Bool) (s0_1:List Int) (v1 t7 t8:Int):bodyD (E0 mm) [.tmp 4] 0 false (seqD (E0 mm) 35 0 (callW (E0 mm)) itW c35_25 (blockD 0 (itW (loopF (E0 mm) 35 0 (callW (E0 mm)) itW c35_7 [(0,.keep),(1,.keep),(7,.keep),(8,.keep)]) (none,[.v (.c (.d (.lst s0_0 (enL enN s0_1)))),.v (.c (.d (.sc (.int .i64 v1)))),.v (.c (.d (.sc (.int .i64 t7)))),.v (.c (.d (.sc (.int .i64 t8))))],[])))) = (l35_6 s0_0 s0_1 v1 t7 t8).map e35:=
 it_sim (K:=(K35_6 (mm:=mm))) rfl (enc:=en35_6) (fun x=>s35_6_t x.1 x.2.1 x.2.2.1 x.2.2.2.1 x.2.2.2.2) (s0_0,s0_1,v1,t7,t8)
def m35 (s_0:Bool) (s_1:List Int) (v:Int):Option R35:=
 l35_6 s_0 s_1 v (s_1.length:Int) (0:Int)
theorem f35_t (s_0:Bool) (s_1:List Int) (v:Int):
  callW (E0 mm) 35 [.c (.d (.lst s_0 (enL enN s_1))),.c (.d (.sc (.int .i64 v)))] [] = (m35 s_0 s_1 v).map e35:=by
 rw [callW_run (body:=c35_0) (res:=[.tmp 4]) Tryz.func35 rfl rfl (by kernel_rfl)]
 simp -implicitDefEqProofs only [m35,slots2,c35_0_e,c35_1_r,(show opsOf c35_1 = _ :: _ from rfl),c35_2_e,c35_3_e,c35_4_r,(show opsOf c35_4 = _ :: _ from rfl),Tryz.underlying44,c35_5_e,c35_6_l,setA,setB,za,zb,zc,zd,ze,zf,zg,zh,zi,zj,zk,zl,zm,zn,zo,zp,reduceCtorEq,zE,↓reduceIte]
 exact l35_6_t s_0 s_1 v (s_1.length:Int) (0:Int)
noncomputable def c18_0:Code:=bodyOf Tryz.f18
def c18_1:=cA c18_0
def c18_2:=cB c18_0
def c18_3:=cA c18_2
def c18_4:=cB c18_2
theorem c18_0_e:c18_0 = .seq c18_1 c18_2:=rfl
theorem c18_1_r:RG (E0 mm) 18 c18_1:=rgN rfl
theorem c18_2_e:c18_2 = .seq c18_3 c18_4:=rfl
theorem c18_3_r:RG (E0 mm) 18 c18_3:=rgN rfl
theorem c18_4_e:c18_4 = .ret:=rfl
abbrev R18:=(Bool)
def e18:R18→AV×Heap:=fun x=>(.v (.c (.d (.sc (.bool x)))),[])
def m18 (s_0:Bool) (s_1:List Int) (v:Int):Option R18:=
 (m35 s_0 s_1 v).bind fun yr2=>
  some (decide (0≤yr2))
theorem f18_t (s_0:Bool) (s_1:List Int) (v:Int):
  callW (E0 mm) 18 [.c (.d (.lst s_0 (enL enN s_1))),.c (.d (.sc (.int .i64 v)))] [] = (m18 s_0 s_1 v).map e18:=by
 rw [callW_run (body:=c18_0) (res:=[.tmp 4]) Tryz.func18 rfl rfl (by kernel_rfl)]
 simp -implicitDefEqProofs only [m18,slots2,c18_0_e,c18_1_r,(show opsOf c18_1 = _ :: _ from rfl),c18_2_e,c18_3_r,(show opsOf c18_3 = _ :: _ from rfl),ent35,prm35,f35_t,setA,setB,za,zb,zc,zd,ze,zf,zg,zh,zi,zj,zk,zl,zm,zn,zo,zp,reduceCtorEq,zE,↓reduceIte]
 refine brM (fun yc1=>?_) (fun yr2 yc1=>?_)
 ·rw [yc1]; rfl
 ·simp -implicitDefEqProofs only [e35,c18_4_e,yc1,setA,setB,za,zb,zc,zd,ze,zf,zg,zh,zi,zj,zk,zl,zm,zn,zo,zp,reduceCtorEq,zE,↓reduceIte]
  all_goals rfl
noncomputable def c6_0:Code:=bodyOf Tryz.f6
def c6_1:=cA c6_0
def c6_2:=cB c6_0
def c6_3:=cA c6_2
def c6_4:=cB c6_2
def c6_5:=cA c6_4
def c6_6:=cB c6_4
def c6_7:=cA c6_6
def c6_8:=cA c6_7
def c6_9:=cA c6_8
def c6_10:=cB c6_8
def c6_11:=cA c6_10
def c6_12:=cA c6_11
def c6_13:=cB c6_11
def c6_14:=cB c6_10
def c6_15:=cA c6_14
def c6_16:=cB c6_14
def c6_17:=cA c6_16
def c6_18:=cA c6_17
def c6_19:=cB c6_17
def c6_20:=cB c6_16
def c6_21:=cA c6_20
def c6_22:=cB c6_20
def c6_23:=cA c6_22
def c6_24:=cA c6_23
def c6_25:=cB c6_23
def c6_26:=cA c6_25
def c6_27:=cA c6_26
def c6_28:=cB c6_26
def c6_29:=cA c6_28
def c6_30:=cA c6_29
def c6_31:=cB c6_29
def c6_32:=cB c6_28
def c6_33:=cB c6_25
def c6_34:=cA c6_33
def c6_35:=cB c6_33
def c6_36:=cB c6_22
def c6_37:=cB c6_6
def c6_38:=cA c6_37
def c6_39:=cB c6_37
def c6_40:=cA c6_39
def c6_41:=cA c6_40
def c6_42:=cB c6_40
def c6_43:=cA c6_42
def c6_44:=cA c6_43
def c6_45:=cB c6_43
def c6_46:=cB c6_42
def c6_47:=cB c6_39
def c6_48:=cA c6_47
def c6_49:=cB c6_47
theorem c6_0_e:c6_0 = .seq c6_1 c6_2:=rfl
theorem c6_1_r:RG (E0 mm) 6 c6_1:=rgN rfl
theorem c6_2_e:c6_2 = .seq c6_3 c6_4:=rfl
theorem c6_3_r:RG (E0 mm) 6 c6_3:=rgN rfl
theorem c6_4_e:c6_4 = .seq c6_5 c6_6:=rfl
theorem c6_5_r:RG (E0 mm) 6 c6_5:=rgN rfl
theorem c6_6_e:c6_6 = .seq c6_7 c6_37:=rfl
theorem c6_7_e:c6_7 = .block 0 c6_8:=rfl
theorem c6_8_e:c6_8 = .seq c6_9 c6_10:=rfl
theorem c6_9_r:RG (E0 mm) 6 c6_9:=rgN rfl
theorem c6_11_e:c6_11 = .seq c6_12 c6_13:=rfl
theorem c6_12_r:RG (E0 mm) 6 c6_12:=rgN rfl
theorem c6_13_e:c6_13 = .ret:=rfl
theorem c6_14_e:c6_14 = .seq c6_15 c6_16:=rfl
theorem c6_15_r:RG (E0 mm) 6 c6_15:=rgN rfl
theorem c6_17_e:c6_17 = .seq c6_18 c6_19:=rfl
theorem c6_18_r:RG (E0 mm) 6 c6_18:=rgN rfl
theorem c6_19_e:c6_19 = .ret:=rfl
theorem c6_20_e:c6_20 = .seq c6_21 c6_22:=rfl
theorem c6_21_r:RG (E0 mm) 6 c6_21:=rgN rfl
theorem c6_23_e:c6_23 = .seq c6_24 c6_25:=rfl
theorem c6_24_r:RG (E0 mm) 6 c6_24:=rgN rfl
theorem c6_25_e:c6_25 = .seq c6_26 c6_33:=rfl
theorem c6_26_e:c6_26 = .seq c6_27 c6_28:=rfl
theorem c6_27_r:RG (E0 mm) 6 c6_27:=rgN rfl
theorem c6_29_e:c6_29 = .seq c6_30 c6_31:=rfl
theorem c6_30_r:RG (E0 mm) 6 c6_30:=rgN rfl
theorem c6_31_e:c6_31 = .ret:=rfl
theorem c6_32_e:c6_32 = .skip:=rfl
theorem c6_33_e:c6_33 = .seq c6_34 c6_35:=rfl
theorem c6_34_r:RG (E0 mm) 6 c6_34:=rgN rfl
theorem c6_35_e:c6_35 = .ret:=rfl
theorem c6_36_e:c6_36 = .skip:=rfl
theorem c6_37_e:c6_37 = .seq c6_38 c6_39:=rfl
theorem c6_38_r:RG (E0 mm) 6 c6_38:=rgN rfl
theorem c6_39_e:c6_39 = .seq c6_40 c6_47:=rfl
theorem c6_40_e:c6_40 = .seq c6_41 c6_42:=rfl
theorem c6_41_r:RG (E0 mm) 6 c6_41:=rgN rfl
theorem c6_43_e:c6_43 = .seq c6_44 c6_45:=rfl
theorem c6_44_r:RG (E0 mm) 6 c6_44:=rgN rfl
theorem c6_45_e:c6_45 = .ret:=rfl
theorem c6_46_e:c6_46 = .skip:=rfl
theorem c6_47_e:c6_47 = .seq c6_48 c6_49:=rfl
theorem c6_48_r:RG (E0 mm) 6 c6_48:=rgN rfl
theorem c6_49_e:c6_49 = .ret:=rfl
abbrev R6:=(Int×Bool)
def e6:R6→AV×Heap:=fun x=>(.tup [.c (.d (.sc (.int .i64 x.1))),.c (.d (.sc (.bool x.2)))],[])
def j6_28 (at5 end7:Int) (t49:Bool):Option R6:=
 if t49 = true then
  some ((0:Int),true)
 else
  (m17 at5 end7).bind fun yr15=>
   some ((w64 (min2 yr15 2147483648)),true)
theorem j6_28_t (at5 end7:Int) (t49:Bool) (g0 g1 g2:Ob) (sl:Nat→AV) (zq5:sl 5 = .v (.c (.d (.sc (.int .u64 at5))))) (zq7:sl 7 = .v (.c (.d (.sc (.int .u64 end7))))) (zq49:sl 49 = .v (.c (.d (.sc (.bool t49))))):
  bodyD (E0 mm) [.tmp 2,.tmp 3] 0 false (seqD (E0 mm) 6 0 (callW (E0 mm)) itW c6_37 (blockD 0 (seqD (E0 mm) 6 0 (callW (E0 mm)) itW c6_33 (den (E0 mm) 6 0 (callW (E0 mm)) itW c6_28 none ⟨sl,[g0,g1,g2]⟩)))) = (j6_28 at5 end7 t49).map e6:=by
 simp -implicitDefEqProofs only [j6_28,(show c6_28 = Code.cond _ c6_29 c6_32 from rfl),zq5,zq7,zq49,setA,setB,za,zb,zc,zd,ze,zf,zg,zh,zi,zj,zk,zl,zm,zn,zo,zp,reduceCtorEq,zE,↓reduceIte]
 refine brB (fun yc13=>?_) (fun yc13=>?_)
 ·simp -implicitDefEqProofs only [c6_29_e,c6_30_r,(show opsOf c6_30 = _ :: _ from rfl),c6_31_e,zq5,zq7,zq49,yc13,setA,setB,za,zb,zc,zd,ze,zf,zg,zh,zi,zj,zk,zl,zm,zn,zo,zp,reduceCtorEq,zE,↓reduceIte]
  all_goals rfl
 ·simp -implicitDefEqProofs only [c6_32_e,c6_33_e,c6_34_r,(show opsOf c6_34 = _ :: _ from rfl),ent17,prm17,f17_t,zq5,zq7,zq49,yc13,setA,setB,za,zb,zc,zd,ze,zf,zg,zh,zi,zj,zk,zl,zm,zn,zo,zp,reduceCtorEq,zE,↓reduceIte]
  refine brM (fun yc14=>?_) (fun yr15 yc14=>?_)
  ·rw [yc14]; rfl
  ·simp -implicitDefEqProofs only [e17,Tryz.underlying22,Tryz.underlying3,c6_35_e,zq5,zq7,zq49,yc13,yc14,setA,setB,za,zb,zc,zd,ze,zf,zg,zh,zi,zj,zk,zl,zm,zn,zo,zp,reduceCtorEq,zE,↓reduceIte]
   all_goals rfl
def j6_42 (at5 changed9:Int) (t72:Bool):Option R6:=
 if t72 = true then
  some ((0:Int),false)
 else
  (m17 changed9 at5).bind fun yr24=>
   some ((w64 (min2 (wu64 (yr24.tdiv 10)) 86400)),false)
theorem j6_42_t (at5 changed9:Int) (t72:Bool) (g0 g1 g2:Ob) (sl:Nat→AV) (zq5:sl 5 = .v (.c (.d (.sc (.int .u64 at5))))) (zq9:sl 9 = .v (.c (.d (.sc (.int .u64 changed9))))) (zq72:sl 72 = .v (.c (.d (.sc (.bool t72))))):
  bodyD (E0 mm) [.tmp 2,.tmp 3] 0 false (seqD (E0 mm) 6 0 (callW (E0 mm)) itW c6_47 (den (E0 mm) 6 0 (callW (E0 mm)) itW c6_42 none ⟨sl,[g0,g1,g2]⟩)) = (j6_42 at5 changed9 t72).map e6:=by
 simp -implicitDefEqProofs only [j6_42,(show c6_42 = Code.cond _ c6_43 c6_46 from rfl),zq5,zq9,zq72,setA,setB,za,zb,zc,zd,ze,zf,zg,zh,zi,zj,zk,zl,zm,zn,zo,zp,reduceCtorEq,zE,↓reduceIte]
 refine brB (fun yc22=>?_) (fun yc22=>?_)
 ·simp -implicitDefEqProofs only [c6_43_e,c6_44_r,(show opsOf c6_44 = _ :: _ from rfl),c6_45_e,zq5,zq9,zq72,yc22,setA,setB,za,zb,zc,zd,ze,zf,zg,zh,zi,zj,zk,zl,zm,zn,zo,zp,reduceCtorEq,zE,↓reduceIte]
  all_goals rfl
 ·simp -implicitDefEqProofs only [c6_46_e,c6_47_e,c6_48_r,(show opsOf c6_48 = _ :: _ from rfl),ent17,prm17,f17_t,zq5,zq9,zq72,yc22,setA,setB,za,zb,zc,zd,ze,zf,zg,zh,zi,zj,zk,zl,zm,zn,zo,zp,reduceCtorEq,zE,↓reduceIte]
  refine brM (fun yc23=>?_) (fun yr24 yc23=>?_)
  ·rw [yc23]; rfl
  ·simp -implicitDefEqProofs only [e17,Tryz.underlying22,Tryz.underlying3,c6_49_e,zq5,zq9,zq72,yc22,yc23,setA,setB,za,zb,zc,zd,ze,zf,zg,zh,zi,zj,zk,zl,zm,zn,zo,zp,reduceCtorEq,zE,↓reduceIte]
   all_goals rfl
def m6 (r0_0:Int) (r0_1:Bs) (r0_2:Int) (r0_3:Bool) (r0_4:List (Bs×Bs)) (r0_5:Bool) (r0_6:List UInt8):Option R6:=
 (m15 r0_3 r0_4).bind fun yr2=>
  (m4 r0_0 r0_1 r0_2 r0_3 r0_4 r0_5 r0_6).bind fun yr4=>
   if (decide (0≤yr2.2.2.2.2.2.2.2.1)) = true then
    some ((min2 yr2.2.2.2.2.2.2.2.1 2147483648),true)
   else
    if (decide (0≤yr2.2.2.2.2.2.2.1)) = true then
     some ((min2 yr2.2.2.2.2.2.2.1 2147483648),true)
    else
     (m16 r0_3 r0_4 ([101,120,112,105,114,101,115]:Bs)).bind fun yr8=>
      if (decide (0 < (yr8.2.length:Int))) = true then
       (m13 r0_0 r0_1 r0_2 r0_3 r0_4 r0_5 r0_6 ([101,120,112,105,114,101,115]:Bs)).bind fun yr11=>
        if yr11.2 = true then
         j6_28 yr4.1 yr11.1 (!yr4.2)
        else
         j6_28 yr4.1 yr11.1 true
      else
       (m13 r0_0 r0_1 r0_2 r0_3 r0_4 r0_5 r0_6 ([108,97,115,116,45,109,111,100,105,102,105,101,100]:Bs)).bind fun yr17=>
        if yr17.2 = true then
         if yr4.2 = true then
          (m18 false ([(200:Int),(203:Int),(204:Int),(300:Int),(301:Int),(308:Int),(404:Int),(405:Int),(410:Int),(414:Int),(501:Int)]:List Int) r0_0).bind fun yr21=>
           j6_42 yr4.1 yr17.1 (!yr21)
         else
          j6_42 yr4.1 yr17.1 true
        else
         j6_42 yr4.1 yr17.1 true
theorem f6_t (r0_0:Int) (r0_1:Bs) (r0_2:Int) (r0_3:Bool) (r0_4:List (Bs×Bs)) (r0_5:Bool) (r0_6:List UInt8):
  callW (E0 mm) 6 [.agg [.d (.sc (.int .i64 r0_0)),.d (.sc (.string (S r0_1))),.d (.sc (.int .i64 r0_2)),.d (.lst r0_3 (enL enSS r0_4)),.d (.lst r0_5 (enL enB r0_6))]] [] = (m6 r0_0 r0_1 r0_2 r0_3 r0_4 r0_5 r0_6).map e6:=by
 rw [callW_run (body:=c6_0) (res:=[.tmp 2,.tmp 3]) Tryz.func6 rfl rfl (by kernel_rfl)]
 simp -implicitDefEqProofs only [m6,slots1,c6_0_e,c6_1_r,(show opsOf c6_1 = _ :: _ from rfl),c6_2_e,c6_3_r,(show opsOf c6_3 = _ :: _ from rfl),Tryz.underlying26,sz23,ag23,ent15,prm15,f15_t,setA,setB,za,zb,zc,zd,ze,zf,zg,zh,zi,zj,zk,zl,zm,zn,zo,zp,reduceCtorEq,zE,↓reduceIte]
 refine brM (fun yc1=>?_) (fun yr2 yc1=>?_)
 ·rw [yc1]; rfl
 ·simp -implicitDefEqProofs only [e15,zc38,ao56,sz38,c6_4_e,c6_5_r,(show opsOf c6_5 = _ :: _ from rfl),sz26,ag26,ent4,prm4,f4_t,yc1,setA,setB,za,zb,zc,zd,ze,zf,zg,zh,zi,zj,zk,zl,zm,zn,zo,zp,reduceCtorEq,zE,↓reduceIte]
  refine brM (fun yc3=>?_) (fun yr4 yc3=>?_)
  ·rw [yc3]; rfl
  ·simp -implicitDefEqProofs only [e4,c6_6_e,c6_7_e,c6_8_e,c6_9_r,(show opsOf c6_9 = _ :: _ from rfl),Tryz.underlying38,sz3,ag3,(show c6_10 = Code.cond _ c6_11 c6_14 from rfl),yc1,yc3,setA,setB,za,zb,zc,zd,ze,zf,zg,zh,zi,zj,zk,zl,zm,zn,zo,zp,reduceCtorEq,zE,↓reduceIte]
   refine brB (fun yc5=>?_) (fun yc5=>?_)
   ·simp -implicitDefEqProofs only [c6_11_e,c6_12_r,(show opsOf c6_12 = _ :: _ from rfl),Tryz.underlying38,sz3,ag3,Tryz.underlying3,c6_13_e,yc1,yc3,yc5,setA,setB,za,zb,zc,zd,ze,zf,zg,zh,zi,zj,zk,zl,zm,zn,zo,zp,reduceCtorEq,zE,↓reduceIte]
    all_goals rfl
   ·simp -implicitDefEqProofs only [c6_14_e,c6_15_r,(show opsOf c6_15 = _ :: _ from rfl),Tryz.underlying38,sz3,ag3,(show c6_16 = Code.cond _ c6_17 c6_20 from rfl),yc1,yc3,yc5,setA,setB,za,zb,zc,zd,ze,zf,zg,zh,zi,zj,zk,zl,zm,zn,zo,zp,reduceCtorEq,zE,↓reduceIte]
    refine brB (fun yc6=>?_) (fun yc6=>?_)
    ·simp -implicitDefEqProofs only [c6_17_e,c6_18_r,(show opsOf c6_18 = _ :: _ from rfl),Tryz.underlying38,sz3,ag3,Tryz.underlying3,c6_19_e,yc1,yc3,yc5,yc6,setA,setB,za,zb,zc,zd,ze,zf,zg,zh,zi,zj,zk,zl,zm,zn,zo,zp,reduceCtorEq,zE,↓reduceIte]
     all_goals rfl
    ·simp -implicitDefEqProofs only [c6_20_e,c6_21_r,(show opsOf c6_21 = _ :: _ from rfl),Tryz.underlying26,sz23,ag23,ent16,prm16,(show callW (E0 mm) 16 [.c (.d (.lst r0_3 (enL enSS r0_4))),.c (.d (.sc (.string (S ([101,120,112,105,114,101,115]:Bs)))))] [] = _ from f16_t r0_3 r0_4 ([101,120,112,105,114,101,115]:Bs)),yc1,yc3,yc5,yc6,setA,setB,za,zb,zc,zd,ze,zf,zg,zh,zi,zj,zk,zl,zm,zn,zo,zp,reduceCtorEq,zE,↓reduceIte]
     refine brM (fun yc7=>?_) (fun yr8 yc7=>?_)
     ·rw [yc7]; rfl
     ·simp -implicitDefEqProofs only [e16,Tryz.underlying40,(show c6_22 = Code.cond _ c6_23 c6_36 from rfl),yc1,yc3,yc5,yc6,yc7,setA,setB,za,zb,zc,zd,ze,zf,zg,zh,zi,zj,zk,zl,zm,zn,zo,zp,reduceCtorEq,zE,↓reduceIte]
      refine brB (fun yc9=>?_) (fun yc9=>?_)
      ·simp -implicitDefEqProofs only [c6_23_e,c6_24_r,(show opsOf c6_24 = _ :: _ from rfl),sz26,ag26,ent13,prm13,(show callW (E0 mm) 13 [.agg [.d (.sc (.int .i64 r0_0)),.d (.sc (.string (S r0_1))),.d (.sc (.int .i64 r0_2)),.d (.lst r0_3 (enL enSS r0_4)),.d (.lst r0_5 (enL enB r0_6))],.c (.d (.sc (.string (S ([101,120,112,105,114,101,115]:Bs)))))] [] = _ from f13_t r0_0 r0_1 r0_2 r0_3 r0_4 r0_5 r0_6 ([101,120,112,105,114,101,115]:Bs)),yc1,yc3,yc5,yc6,yc7,yc9,setA,setB,za,zb,zc,zd,ze,zf,zg,zh,zi,zj,zk,zl,zm,zn,zo,zp,reduceCtorEq,zE,↓reduceIte]
       refine brM (fun yc10=>?_) (fun yr11 yc10=>?_)
       ·rw [yc10]; rfl
       ·simp -implicitDefEqProofs only [e13,c6_25_e,c6_26_e,c6_27_r,(show opsOf c6_27 = _ :: _ from rfl),yc1,yc3,yc5,yc6,yc7,yc9,yc10,setA,setB,za,zb,zc,zd,ze,zf,zg,zh,zi,zj,zk,zl,zm,zn,zo,zp,reduceCtorEq,zE,↓reduceIte]
        refine brB (fun yc12=>?_) (fun yc12=>?_)
        ·simp -implicitDefEqProofs only [yc1,yc3,yc5,yc6,yc7,yc9,yc10,yc12,setA,setB,za,zb,zc,zd,ze,zf,zg,zh,zi,zj,zk,zl,zm,zn,zo,zp,reduceCtorEq,zE,↓reduceIte]
         exact j6_28_t yr4.1 yr11.1 (!yr4.2) _ _ _ _ (by rfl) (by rfl) (by rfl)
        ·simp -implicitDefEqProofs only [yc1,yc3,yc5,yc6,yc7,yc9,yc10,yc12,setA,setB,za,zb,zc,zd,ze,zf,zg,zh,zi,zj,zk,zl,zm,zn,zo,zp,reduceCtorEq,zE,↓reduceIte]
         exact j6_28_t yr4.1 yr11.1 true _ _ _ _ (by rfl) (by rfl) (by rfl)
      ·simp -implicitDefEqProofs only [c6_36_e,c6_37_e,c6_38_r,(show opsOf c6_38 = _ :: _ from rfl),sz26,ag26,ent13,prm13,(show callW (E0 mm) 13 [.agg [.d (.sc (.int .i64 r0_0)),.d (.sc (.string (S r0_1))),.d (.sc (.int .i64 r0_2)),.d (.lst r0_3 (enL enSS r0_4)),.d (.lst r0_5 (enL enB r0_6))],.c (.d (.sc (.string (S ([108,97,115,116,45,109,111,100,105,102,105,101,100]:Bs)))))] [] = _ from f13_t r0_0 r0_1 r0_2 r0_3 r0_4 r0_5 r0_6 ([108,97,115,116,45,109,111,100,105,102,105,101,100]:Bs)),yc1,yc3,yc5,yc6,yc7,yc9,setA,setB,za,zb,zc,zd,ze,zf,zg,zh,zi,zj,zk,zl,zm,zn,zo,zp,reduceCtorEq,zE,↓reduceIte]
       refine brM (fun yc16=>?_) (fun yr17 yc16=>?_)
       ·rw [yc16]; rfl
       ·simp -implicitDefEqProofs only [e13,c6_39_e,c6_40_e,c6_41_r,(show opsOf c6_41 = _ :: _ from rfl),yc1,yc3,yc5,yc6,yc7,yc9,yc16,setA,setB,za,zb,zc,zd,ze,zf,zg,zh,zi,zj,zk,zl,zm,zn,zo,zp,reduceCtorEq,zE,↓reduceIte]
        refine brB (fun yc18=>?_) (fun yc18=>?_)
        ·simp -implicitDefEqProofs only [yc1,yc3,yc5,yc6,yc7,yc9,yc16,yc18,setA,setB,za,zb,zc,zd,ze,zf,zg,zh,zi,zj,zk,zl,zm,zn,zo,zp,reduceCtorEq,zE,↓reduceIte]
         refine brB (fun yc19=>?_) (fun yc19=>?_)
         ·simp -implicitDefEqProofs only [Tryz.underlying44,sz3,zc3,hd57,nv58,rw59,ns60,Tryz.underlying26,ag3,ent18,prm18,(show callW (E0 mm) 18 [.c (.d (.lst false (enL enN ([(200:Int),(203:Int),(204:Int),(300:Int),(301:Int),(308:Int),(404:Int),(405:Int),(410:Int),(414:Int),(501:Int)]:List Int)))),.c (.d (.sc (.int .i64 r0_0)))] [] = _ from f18_t false ([(200:Int),(203:Int),(204:Int),(300:Int),(301:Int),(308:Int),(404:Int),(405:Int),(410:Int),(414:Int),(501:Int)]:List Int) r0_0),yc1,yc3,yc5,yc6,yc7,yc9,yc16,yc18,yc19,setA,setB,za,zb,zc,zd,ze,zf,zg,zh,zi,zj,zk,zl,zm,zn,zo,zp,reduceCtorEq,zE,↓reduceIte]
          refine brM (fun yc20=>?_) (fun yr21 yc20=>?_)
          ·rw [yc20]; rfl
          ·simp -implicitDefEqProofs only [e18,yc1,yc3,yc5,yc6,yc7,yc9,yc16,yc18,yc19,yc20,setA,setB,za,zb,zc,zd,ze,zf,zg,zh,zi,zj,zk,zl,zm,zn,zo,zp,reduceCtorEq,zE,↓reduceIte]
           exact j6_42_t yr4.1 yr17.1 (!yr21) _ _ _ _ (by rfl) (by rfl) (by rfl)
         ·simp -implicitDefEqProofs only [yc1,yc3,yc5,yc6,yc7,yc9,yc16,yc18,yc19,setA,setB,za,zb,zc,zd,ze,zf,zg,zh,zi,zj,zk,zl,zm,zn,zo,zp,reduceCtorEq,zE,↓reduceIte]
          exact j6_42_t yr4.1 yr17.1 true _ _ _ _ (by rfl) (by rfl) (by rfl)
        ·simp -implicitDefEqProofs only [yc1,yc3,yc5,yc6,yc7,yc9,yc16,yc18,setA,setB,za,zb,zc,zd,ze,zf,zg,zh,zi,zj,zk,zl,zm,zn,zo,zp,reduceCtorEq,zE,↓reduceIte]
         exact j6_42_t yr4.1 yr17.1 true _ _ _ _ (by rfl) (by rfl) (by rfl)
noncomputable def c74_0:Code:=bodyOf Tryz.f74
def c74_1:=cA c74_0
def c74_2:=cB c74_0
def c74_3:=cA c74_2
def c74_4:=cB c74_2
def c74_5:=cA c74_4
def c74_6:=cA c74_5
def c74_7:=cA c74_6
def c74_8:=cA c74_7
def c74_9:=cA c74_8
def c74_10:=cB c74_8
def c74_11:=cA c74_10
def c74_12:=cB c74_10
def c74_13:=cB c74_7
def c74_14:=cA c74_13
def c74_15:=cA c74_14
def c74_16:=cA c74_15
def c74_17:=cB c74_15
def c74_18:=cA c74_17
def c74_19:=cB c74_17
def c74_20:=cB c74_14
def c74_21:=cB c74_4
def c74_22:=cA c74_21
def c74_23:=cA c74_22
def c74_24:=cB c74_22
def c74_25:=cA c74_24
def c74_26:=cA c74_25
def c74_27:=cB c74_25
def c74_28:=cB c74_24
def c74_29:=cB c74_21
def c74_30:=cA c74_29
def c74_31:=cB c74_29
theorem c74_0_e:c74_0 = .seq c74_1 c74_2:=rfl
theorem c74_1_r:RG (E0 mm) 74 c74_1:=rgN rfl
theorem c74_2_e:c74_2 = .seq c74_3 c74_4:=rfl
theorem c74_3_r:RG (E0 mm) 74 c74_3:=rgN rfl
theorem c74_4_e:c74_4 = .seq c74_5 c74_21:=rfl
theorem c74_5_e:c74_5 = .block 0 c74_6:=rfl
theorem c74_6_l (m:Nat) (st:St):den (E0 mm) 74 m (callW (E0 mm)) itW c74_6 none st = loopD itW (loopF (E0 mm) 74 m (callW (E0 mm)) itW c74_7 [(0,.keep),(1,.keep)]) (canon m [(0,.keep),(1,.keep)] st):=rfl
theorem c74_7_e:c74_7 = .seq c74_8 c74_13:=rfl
theorem c74_8_e:c74_8 = .seq c74_9 c74_10:=rfl
theorem c74_9_r:RG (E0 mm) 74 c74_9:=rgN rfl
theorem c74_11_e:c74_11 = .skip:=rfl
theorem c74_12_e:c74_12 = .exit 0:=rfl
theorem c74_13_e:c74_13 = .block 1 c74_14:=rfl
theorem c74_14_e:c74_14 = .seq c74_15 c74_20:=rfl
theorem c74_15_e:c74_15 = .seq c74_16 c74_17:=rfl
theorem c74_16_r:RG (E0 mm) 74 c74_16:=rgN rfl
theorem c74_18_r:RG (E0 mm) 74 c74_18:=rgN rfl
theorem c74_19_e:c74_19 = .skip:=rfl
theorem c74_20_r:RG (E0 mm) 74 c74_20:=rgN rfl
theorem c74_21_e:c74_21 = .seq c74_22 c74_29:=rfl
theorem c74_22_e:c74_22 = .seq c74_23 c74_24:=rfl
theorem c74_23_r:RG (E0 mm) 74 c74_23:=rgN rfl
theorem c74_25_e:c74_25 = .seq c74_26 c74_27:=rfl
theorem c74_26_r:RG (E0 mm) 74 c74_26:=rgN rfl
theorem c74_27_e:c74_27 = .ret:=rfl
theorem c74_28_e:c74_28 = .skip:=rfl
theorem c74_29_e:c74_29 = .seq c74_30 c74_31:=rfl
theorem c74_30_r:RG (E0 mm) 74 c74_30:=rgN rfl
theorem c74_31_e:c74_31 = .ret:=rfl
abbrev R74:=(Int)
def e74:R74→AV×Heap:=fun x=>(.v (.c (.d (.sc (.int .i64 x)))),[])
def K74_6:Option (Ex×St)→Option (AV×Heap):=fun r=>bodyD (E0 mm) [.tmp 4] 0 false (seqD (E0 mm) 74 0 (callW (E0 mm)) itW c74_21 (blockD 0 (r)))
def en74_6:(Bs×Int)→X:=fun x=>(none,[.v (.c (.d (.sc (.string (S x.1))))),.v (.c (.d (.sc (.int .i64 x.2))))],[])
def j74_20 (s0:Bs) (at1:Int):Option ((Bs×Int) ⊕ R74):=
 some (.inl (s0,(w64 (at1 + 1))))
theorem j74_20_t (s0:Bs) (at1:Int)  (sl:Nat→AV) (zq0:sl 0 = .v (.c (.d (.sc (.string (S s0)))))) (zq1:sl 1 = .v (.c (.d (.sc (.int .i64 at1))))):
  stepE (K74_6 (mm:=mm)) (loopK 0 [(0,.keep),(1,.keep)] (blockD 1 (den (E0 mm) 74 0 (callW (E0 mm)) itW c74_20 none ⟨sl,[]⟩))) = (j74_20 s0 at1).map (sm en74_6 e74):=by
 simp -implicitDefEqProofs only [j74_20,c74_20_r,(show opsOf c74_20 = _ :: _ from rfl),zq0,zq1,setA,setB,za,zb,zc,zd,ze,zf,zg,zh,zi,zj,zk,zl,zm,zn,zo,zp,reduceCtorEq,zE,↓reduceIte]
 all_goals rfl
def j74_21 (s0:Bs) (at1:Int):Option R74:=
 if (decide ((s0.length:Int)≤at1)) = true then
  some (s0.length:Int)
 else
  some (w64 (at1 + 1))
theorem j74_21_t (s0:Bs) (at1:Int)  (sl:Nat→AV) (zq0:sl 0 = .v (.c (.d (.sc (.string (S s0)))))) (zq1:sl 1 = .v (.c (.d (.sc (.int .i64 at1))))):
  bodyD (E0 mm) [.tmp 4] 0 false (den (E0 mm) 74 0 (callW (E0 mm)) itW c74_21 none ⟨sl,[]⟩) = (j74_21 s0 at1).map e74:=by
 simp -implicitDefEqProofs only [j74_21,c74_21_e,c74_22_e,c74_23_r,(show opsOf c74_23 = _ :: _ from rfl),Tryz.underlying9,(show c74_24 = Code.cond _ c74_25 c74_28 from rfl),zq0,zq1,setA,setB,za,zb,zc,zd,ze,zf,zg,zh,zi,zj,zk,zl,zm,zn,zo,zp,reduceCtorEq,zE,↓reduceIte]
 refine brB (fun yc6=>?_) (fun yc6=>?_)
 ·simp -implicitDefEqProofs only [c74_25_e,c74_26_r,(show opsOf c74_26 = _ :: _ from rfl),Tryz.underlying9,c74_27_e,zq0,zq1,yc6,setA,setB,za,zb,zc,zd,ze,zf,zg,zh,zi,zj,zk,zl,zm,zn,zo,zp,reduceCtorEq,zE,↓reduceIte]
  all_goals rfl
 ·simp -implicitDefEqProofs only [c74_28_e,c74_29_e,c74_30_r,(show opsOf c74_30 = _ :: _ from rfl),c74_31_e,zq0,zq1,yc6,setA,setB,za,zb,zc,zd,ze,zf,zg,zh,zi,zj,zk,zl,zm,zn,zo,zp,reduceCtorEq,zE,↓reduceIte]
  all_goals rfl
def j74_10 (s0:Bs) (at1:Int) (t16:Bool):Option ((Bs×Int) ⊕ R74):=
 if t16 = true then
  if 0≤at1∧at1 < (s0.length:Int) then
   if ((s0.getD at1.toNat 0) == (92:UInt8)) = true then
    j74_20 s0 (w64 (at1 + 1))
   else
    j74_20 s0 at1
  else none
 else
  (j74_21 s0 at1).map .inr
theorem j74_10_t (s0:Bs) (at1:Int) (t16:Bool)  (sl:Nat→AV) (zq0:sl 0 = .v (.c (.d (.sc (.string (S s0)))))) (zq1:sl 1 = .v (.c (.d (.sc (.int .i64 at1))))) (zq16:sl 16 = .v (.c (.d (.sc (.bool t16))))):
  stepE (K74_6 (mm:=mm)) (loopK 0 [(0,.keep),(1,.keep)] (seqD (E0 mm) 74 0 (callW (E0 mm)) itW c74_13 (den (E0 mm) 74 0 (callW (E0 mm)) itW c74_10 none ⟨sl,[]⟩))) = (j74_10 s0 at1 t16).map (sm en74_6 e74):=by
 simp -implicitDefEqProofs only [j74_10,(show c74_10 = Code.cond _ c74_11 c74_12 from rfl),zq0,zq1,zq16,setA,setB,za,zb,zc,zd,ze,zf,zg,zh,zi,zj,zk,zl,zm,zn,zo,zp,reduceCtorEq,zE,↓reduceIte]
 refine brB (fun yc3=>?_) (fun yc3=>?_)
 ·simp -implicitDefEqProofs only [c74_11_e,c74_13_e,c74_14_e,c74_15_e,c74_16_r,(show opsOf c74_16 = _ :: _ from rfl),Tryz.underlying9,zq0,zq1,zq16,yc3,setA,setB,za,zb,zc,zd,ze,zf,zg,zh,zi,zj,zk,zl,zm,zn,zo,zp,reduceCtorEq,zE,↓reduceIte]
  refine brP (fun yc4=>?_) (fun yc4=>?_)
  ·simp -implicitDefEqProofs only [(show c74_17 = Code.cond _ c74_18 c74_19 from rfl),zq0,zq1,zq16,yc3,yc4,setA,setB,za,zb,zc,zd,ze,zf,zg,zh,zi,zj,zk,zl,zm,zn,zo,zp,reduceCtorEq,zE,↓reduceIte]
   refine brB (fun yc5=>?_) (fun yc5=>?_)
   ·simp -implicitDefEqProofs only [c74_18_r,(show opsOf c74_18 = _ :: _ from rfl),zq0,zq1,zq16,yc3,yc4,yc5,setA,setB,za,zb,zc,zd,ze,zf,zg,zh,zi,zj,zk,zl,zm,zn,zo,zp,reduceCtorEq,zE,↓reduceIte]
    exact j74_20_t s0 (w64 (at1 + 1)) _ (by exact zq0) (by rfl)
   ·simp -implicitDefEqProofs only [c74_19_e,zq0,zq1,zq16,yc3,yc4,yc5,setA,setB,za,zb,zc,zd,ze,zf,zg,zh,zi,zj,zk,zl,zm,zn,zo,zp,reduceCtorEq,zE,↓reduceIte]
    exact j74_20_t s0 at1 _ (by exact zq0) (by exact zq1)
  ·rw [if_neg yc4]; rfl
 ·simp -implicitDefEqProofs only [c74_12_e,K74_6,zq0,zq1,zq16,yc3,setA,setB,za,zb,zc,zd,ze,zf,zg,zh,zi,zj,zk,zl,zm,zn,zo,zp,reduceCtorEq,zE,↓reduceIte]
  exact mi (j74_21_t s0 at1 _ (by exact zq0) (by exact zq1))
def s74_6 (s0:Bs) (at1:Int):Option ((Bs×Int) ⊕ R74):=
 if (decide (at1 < (s0.length:Int))) = true then
  if 0≤at1∧at1 < (s0.length:Int) then
   j74_10 s0 at1 (!((s0.getD at1.toNat 0) == (34:UInt8)))
  else none
 else
  j74_10 s0 at1 false
theorem s74_6_t (s0:Bs) (at1:Int):
  stepE (K74_6 (mm:=mm)) (loopF (E0 mm) 74 0 (callW (E0 mm)) itW c74_7 [(0,.keep),(1,.keep)] (none,[.v (.c (.d (.sc (.string (S s0))))),.v (.c (.d (.sc (.int .i64 at1))))],[])) = (s74_6 s0 at1).map (sm en74_6 e74):=by
 simp -implicitDefEqProofs only [s74_6,loopF_eq,c74_7_e,c74_8_e,c74_9_r,(show opsOf c74_9 = _ :: _ from rfl),Tryz.underlying9,setA,setB,za,zb,zc,zd,ze,zf,zg,zh,zi,zj,zk,zl,zm,zn,zo,zp,reduceCtorEq,zE,↓reduceIte]
 refine brB (fun yc1=>?_) (fun yc1=>?_)
 ·simp -implicitDefEqProofs only [Tryz.underlying9,yc1,setA,setB,za,zb,zc,zd,ze,zf,zg,zh,zi,zj,zk,zl,zm,zn,zo,zp,reduceCtorEq,zE,↓reduceIte]
  refine brP (fun yc2=>?_) (fun yc2=>?_)
  ·simp -implicitDefEqProofs only [yc1,yc2,setA,setB,za,zb,zc,zd,ze,zf,zg,zh,zi,zj,zk,zl,zm,zn,zo,zp,reduceCtorEq,zE,↓reduceIte]
   exact j74_10_t s0 at1 (!((s0.getD at1.toNat 0) == (34:UInt8))) _ (by rfl) (by rfl) (by rfl)
  ·rw [if_neg yc2]; rfl
 ·simp -implicitDefEqProofs only [yc1,setA,setB,za,zb,zc,zd,ze,zf,zg,zh,zi,zj,zk,zl,zm,zn,zo,zp,reduceCtorEq,zE,↓reduceIte]
  exact j74_10_t s0 at1 false _ (by rfl) (by rfl) (by rfl)
def l74_6 (s0:Bs) (at1:Int):Option R74:=iter (fun x:(Bs×Int)=>s74_6 x.1 x.2) (s0,at1)
theorem l74_6_t (s0:Bs) (at1:Int):bodyD (E0 mm) [.tmp 4] 0 false (seqD (E0 mm) 74 0 (callW (E0 mm)) itW c74_21 (blockD 0 (itW (loopF (E0 mm) 74 0 (callW (E0 mm)) itW c74_7 [(0,.keep),(1,.keep)]) (none,[.v (.c (.d (.sc (.string (S s0))))),.v (.c (.d (.sc (.int .i64 at1))))],[])))) = (l74_6 s0 at1).map e74:=
 it_sim (K:=(K74_6 (mm:=mm))) rfl (enc:=en74_6) (fun x=>s74_6_t x.1 x.2) (s0,at1)
def m74 (s:Bs) (xat:Int):Option R74:=
 l74_6 s (w64 (xat + 1))
theorem f74_t (s:Bs) (xat:Int):
  callW (E0 mm) 74 [.c (.d (.sc (.string (S s)))),.c (.d (.sc (.int .i64 xat)))] [] = (m74 s xat).map e74:=by
 rw [callW_run (body:=c74_0) (res:=[.tmp 4]) Tryz.func74 rfl rfl (by kernel_rfl)]
 simp -implicitDefEqProofs only [m74,slots2,c74_0_e,c74_1_r,(show opsOf c74_1 = _ :: _ from rfl),c74_2_e,c74_3_r,(show opsOf c74_3 = _ :: _ from rfl),c74_4_e,c74_5_e,c74_6_l,setA,setB,za,zb,zc,zd,ze,zf,zg,zh,zi,zj,zk,zl,zm,zn,zo,zp,reduceCtorEq,zE,↓reduceIte]
 exact l74_6_t s (w64 (xat + 1))
noncomputable def c75_0:Code:=bodyOf Tryz.f75
def c75_1:=cA c75_0
def c75_2:=cB c75_0
def c75_3:=cA c75_2
def c75_4:=cB c75_2
def c75_5:=cA c75_4
def c75_6:=cA c75_5
def c75_7:=cA c75_6
def c75_8:=cA c75_7
def c75_9:=cA c75_8
def c75_10:=cB c75_8
def c75_11:=cA c75_10
def c75_12:=cB c75_10
def c75_13:=cB c75_7
def c75_14:=cA c75_13
def c75_15:=cB c75_4
def c75_16:=cA c75_15
def c75_17:=cA c75_16
def c75_18:=cA c75_17
def c75_19:=cA c75_18
def c75_20:=cA c75_19
def c75_21:=cB c75_19
def c75_22:=cA c75_21
def c75_23:=cB c75_21
def c75_24:=cB c75_18
def c75_25:=cA c75_24
def c75_26:=cB c75_15
def c75_27:=cA c75_26
def c75_28:=cB c75_26
theorem c75_0_e:c75_0 = .seq c75_1 c75_2:=rfl
theorem c75_1_r:RG (E0 mm) 75 c75_1:=rgN rfl
theorem c75_2_e:c75_2 = .seq c75_3 c75_4:=rfl
theorem c75_3_r:RG (E0 mm) 75 c75_3:=rgN rfl
theorem c75_4_e:c75_4 = .seq c75_5 c75_15:=rfl
theorem c75_5_e:c75_5 = .block 0 c75_6:=rfl
theorem c75_6_l (m:Nat) (st:St):den (E0 mm) 75 m (callW (E0 mm)) itW c75_6 none st = loopD itW (loopF (E0 mm) 75 m (callW (E0 mm)) itW c75_7 [(0,.keep),(3,.keep),(4,.keep)]) (canon m [(0,.keep),(3,.keep),(4,.keep)] st):=rfl
theorem c75_7_e:c75_7 = .seq c75_8 c75_13:=rfl
theorem c75_8_e:c75_8 = .seq c75_9 c75_10:=rfl
theorem c75_9_r:RG (E0 mm) 75 c75_9:=rgN rfl
theorem c75_11_e:c75_11 = .skip:=rfl
theorem c75_12_e:c75_12 = .exit 0:=rfl
theorem c75_13_e:c75_13 = .block 1 c75_14:=rfl
theorem c75_14_r:RG (E0 mm) 75 c75_14:=rgN rfl
theorem c75_15_e:c75_15 = .seq c75_16 c75_26:=rfl
theorem c75_16_e:c75_16 = .block 2 c75_17:=rfl
theorem c75_17_l (m:Nat) (st:St):den (E0 mm) 75 m (callW (E0 mm)) itW c75_17 none st = loopD itW (loopF (E0 mm) 75 m (callW (E0 mm)) itW c75_18 [(0,.keep),(3,.keep),(4,.keep)]) (canon m [(0,.keep),(3,.keep),(4,.keep)] st):=rfl
theorem c75_18_e:c75_18 = .seq c75_19 c75_24:=rfl
theorem c75_19_e:c75_19 = .seq c75_20 c75_21:=rfl
theorem c75_20_r:RG (E0 mm) 75 c75_20:=rgN rfl
theorem c75_22_e:c75_22 = .skip:=rfl
theorem c75_23_e:c75_23 = .exit 2:=rfl
theorem c75_24_e:c75_24 = .block 3 c75_25:=rfl
theorem c75_25_r:RG (E0 mm) 75 c75_25:=rgN rfl
theorem c75_26_e:c75_26 = .seq c75_27 c75_28:=rfl
theorem c75_27_r:RG (E0 mm) 75 c75_27:=rgN rfl
theorem c75_28_e:c75_28 = .ret:=rfl
abbrev R75:=(Bs)
def e75:R75→AV×Heap:=fun x=>(.v (.c (.d (.sc (.string (S x))))),[])
def K75_6:Option (Ex×St)→Option (AV×Heap):=fun r=>bodyD (E0 mm) [.tmp 2] 0 false (seqD (E0 mm) 75 0 (callW (E0 mm)) itW c75_15 (blockD 0 (r)))
def en75_6:(Bs×Int×Int)→X:=fun x=>(none,[.v (.c (.d (.sc (.string (S x.1))))),.v (.c (.d (.sc (.int .i64 x.2.1)))),.v (.c (.d (.sc (.int .i64 x.2.2))))],[])
def K75_17:Option (Ex×St)→Option (AV×Heap):=fun r=>bodyD (E0 mm) [.tmp 2] 0 false (seqD (E0 mm) 75 0 (callW (E0 mm)) itW c75_26 (blockD 2 (r)))
def en75_17:(Bs×Int×Int)→X:=fun x=>(none,[.v (.c (.d (.sc (.string (S x.1))))),.v (.c (.d (.sc (.int .i64 x.2.1)))),.v (.c (.d (.sc (.int .i64 x.2.2))))],[])
def j75_26 (s0:Bs) (from3 to4:Int):Option R75:=
 (bnd to4 s0.length).bind fun yk10=>
  (bnd from3 yk10).bind fun yk12=>
   some ((s0.take yk10).drop yk12)
theorem j75_26_t (s0:Bs) (from3 to4:Int)  (sl:Nat→AV) (zq0:sl 0 = .v (.c (.d (.sc (.string (S s0)))))) (zq3:sl 3 = .v (.c (.d (.sc (.int .i64 from3))))) (zq4:sl 4 = .v (.c (.d (.sc (.int .i64 to4))))):
  bodyD (E0 mm) [.tmp 2] 0 false (den (E0 mm) 75 0 (callW (E0 mm)) itW c75_26 none ⟨sl,[]⟩) = (j75_26 s0 from3 to4).map e75:=by
 simp -implicitDefEqProofs only [j75_26,c75_26_e,c75_27_r,(show opsOf c75_27 = _ :: _ from rfl),Tryz.underlying9,zq0,zq3,zq4,setA,setB,za,zb,zc,zd,ze,zf,zg,zh,zi,zj,zk,zl,zm,zn,zo,zp,reduceCtorEq,zE,↓reduceIte]
 refine brM (fun yc9=>?_) (fun yk10 yc9=>?_)
 ·rw [yc9]; rfl
 ·simp -implicitDefEqProofs only [zq0,zq3,zq4,yc9,setA,setB,za,zb,zc,zd,ze,zf,zg,zh,zi,zj,zk,zl,zm,zn,zo,zp,reduceCtorEq,zE,↓reduceIte]
  refine brM (fun yc11=>?_) (fun yk12 yc11=>?_)
  ·rw [yc11]; rfl
  ·simp -implicitDefEqProofs only [c75_28_e,zq0,zq3,zq4,yc9,yc11,setA,setB,za,zb,zc,zd,ze,zf,zg,zh,zi,zj,zk,zl,zm,zn,zo,zp,reduceCtorEq,zE,↓reduceIte]
   all_goals rfl
def j75_21 (s0:Bs) (from3 to4:Int) (t40:Bool):Option ((Bs×Int×Int) ⊕ R75):=
 if t40 = true then
  some (.inl (s0,from3,(w64 (to4 - 1))))
 else
  (j75_26 s0 from3 to4).map .inr
theorem j75_21_t (s0:Bs) (from3 to4:Int) (t40:Bool)  (sl:Nat→AV) (zq0:sl 0 = .v (.c (.d (.sc (.string (S s0)))))) (zq3:sl 3 = .v (.c (.d (.sc (.int .i64 from3))))) (zq4:sl 4 = .v (.c (.d (.sc (.int .i64 to4))))) (zq40:sl 40 = .v (.c (.d (.sc (.bool t40))))):
  stepE (K75_17 (mm:=mm)) (loopK 0 [(0,.keep),(3,.keep),(4,.keep)] (seqD (E0 mm) 75 0 (callW (E0 mm)) itW c75_24 (den (E0 mm) 75 0 (callW (E0 mm)) itW c75_21 none ⟨sl,[]⟩))) = (j75_21 s0 from3 to4 t40).map (sm en75_17 e75):=by
 simp -implicitDefEqProofs only [j75_21,(show c75_21 = Code.cond _ c75_22 c75_23 from rfl),zq0,zq3,zq4,zq40,setA,setB,za,zb,zc,zd,ze,zf,zg,zh,zi,zj,zk,zl,zm,zn,zo,zp,reduceCtorEq,zE,↓reduceIte]
 refine brB (fun yc8=>?_) (fun yc8=>?_)
 ·simp -implicitDefEqProofs only [c75_22_e,c75_24_e,c75_25_r,(show opsOf c75_25 = _ :: _ from rfl),zq0,zq3,zq4,zq40,yc8,setA,setB,za,zb,zc,zd,ze,zf,zg,zh,zi,zj,zk,zl,zm,zn,zo,zp,reduceCtorEq,zE,↓reduceIte]
  all_goals rfl
 ·simp -implicitDefEqProofs only [c75_23_e,K75_17,zq0,zq3,zq4,zq40,yc8,setA,setB,za,zb,zc,zd,ze,zf,zg,zh,zi,zj,zk,zl,zm,zn,zo,zp,reduceCtorEq,zE,↓reduceIte]
  exact mi (j75_26_t s0 from3 to4 _ (by exact zq0) (by exact zq3) (by exact zq4))
def s75_17 (s0:Bs) (from3 to4:Int):Option ((Bs×Int×Int) ⊕ R75):=
 if (decide (from3 < to4)) = true then
  if 0≤(w64 (to4 - 1))∧(w64 (to4 - 1)) < (s0.length:Int) then
   if ((s0.getD (w64 (to4 - 1)).toNat 0) == (32:UInt8)) = true then
    j75_21 s0 from3 to4 true
   else
    j75_21 s0 from3 to4 ((s0.getD (w64 (to4 - 1)).toNat 0) == (9:UInt8))
  else none
 else
  j75_21 s0 from3 to4 false
theorem s75_17_t (s0:Bs) (from3 to4:Int):
  stepE (K75_17 (mm:=mm)) (loopF (E0 mm) 75 0 (callW (E0 mm)) itW c75_18 [(0,.keep),(3,.keep),(4,.keep)] (none,[.v (.c (.d (.sc (.string (S s0))))),.v (.c (.d (.sc (.int .i64 from3)))),.v (.c (.d (.sc (.int .i64 to4))))],[])) = (s75_17 s0 from3 to4).map (sm en75_17 e75):=by
 simp -implicitDefEqProofs only [s75_17,loopF_eq,c75_18_e,c75_19_e,c75_20_r,(show opsOf c75_20 = _ :: _ from rfl),setA,setB,za,zb,zc,zd,ze,zf,zg,zh,zi,zj,zk,zl,zm,zn,zo,zp,reduceCtorEq,zE,↓reduceIte]
 refine brB (fun yc5=>?_) (fun yc5=>?_)
 ·simp -implicitDefEqProofs only [Tryz.underlying9,yc5,setA,setB,za,zb,zc,zd,ze,zf,zg,zh,zi,zj,zk,zl,zm,zn,zo,zp,reduceCtorEq,zE,↓reduceIte]
  refine brP (fun yc6=>?_) (fun yc6=>?_)
  ·simp -implicitDefEqProofs only [yc5,yc6,setA,setB,za,zb,zc,zd,ze,zf,zg,zh,zi,zj,zk,zl,zm,zn,zo,zp,reduceCtorEq,zE,↓reduceIte]
   refine brB (fun yc7=>?_) (fun yc7=>?_)
   ·simp -implicitDefEqProofs only [yc5,yc6,yc7,setA,setB,za,zb,zc,zd,ze,zf,zg,zh,zi,zj,zk,zl,zm,zn,zo,zp,reduceCtorEq,zE,↓reduceIte]
    exact j75_21_t s0 from3 to4 true _ (by rfl) (by rfl) (by rfl) (by rfl)
   ·simp -implicitDefEqProofs only [Tryz.underlying9,yc5,yc6,yc7,setA,setB,za,zb,zc,zd,ze,zf,zg,zh,zi,zj,zk,zl,zm,zn,zo,zp,reduceCtorEq,zE,↓reduceIte]
    exact j75_21_t s0 from3 to4 ((s0.getD (w64 (to4 - 1)).toNat 0) == (9:UInt8)) _ (by rfl) (by rfl) (by rfl) (by rfl)
  ·rw [if_neg yc6]; rfl
 ·simp -implicitDefEqProofs only [yc5,setA,setB,za,zb,zc,zd,ze,zf,zg,zh,zi,zj,zk,zl,zm,zn,zo,zp,reduceCtorEq,zE,↓reduceIte]
  exact j75_21_t s0 from3 to4 false _ (by rfl) (by rfl) (by rfl) (by rfl)
def l75_17 (s0:Bs) (from3 to4:Int):Option R75:=iter (fun x:(Bs×Int×Int)=>s75_17 x.1 x.2.1 x.2.2) (s0,from3,to4)
theorem l75_17_t (s0:Bs) (from3 to4:Int):bodyD (E0 mm) [.tmp 2] 0 false (seqD (E0 mm) 75 0 (callW (E0 mm)) itW c75_26 (blockD 2 (itW (loopF (E0 mm) 75 0 (callW (E0 mm)) itW c75_18 [(0,.keep),(3,.keep),(4,.keep)]) (none,[.v (.c (.d (.sc (.string (S s0))))),.v (.c (.d (.sc (.int .i64 from3)))),.v (.c (.d (.sc (.int .i64 to4))))],[])))) = (l75_17 s0 from3 to4).map e75:=
 it_sim (K:=(K75_17 (mm:=mm))) rfl (enc:=en75_17) (fun x=>s75_17_t x.1 x.2.1 x.2.2) (s0,from3,to4)
def j75_15 (s0:Bs) (from3 to4:Int):Option R75:=
 l75_17 s0 from3 to4
theorem j75_15_t (s0:Bs) (from3 to4:Int)  (sl:Nat→AV) (zq0:sl 0 = .v (.c (.d (.sc (.string (S s0)))))) (zq3:sl 3 = .v (.c (.d (.sc (.int .i64 from3))))) (zq4:sl 4 = .v (.c (.d (.sc (.int .i64 to4))))):
  bodyD (E0 mm) [.tmp 2] 0 false (den (E0 mm) 75 0 (callW (E0 mm)) itW c75_15 none ⟨sl,[]⟩) = (j75_15 s0 from3 to4).map e75:=by
 simp -implicitDefEqProofs only [j75_15,c75_15_e,c75_16_e,c75_17_l,zq0,zq3,zq4,setA,setB,za,zb,zc,zd,ze,zf,zg,zh,zi,zj,zk,zl,zm,zn,zo,zp,reduceCtorEq,zE,↓reduceIte]
 exact l75_17_t s0 from3 to4
def j75_10 (s0:Bs) (from3 to4:Int) (t21:Bool):Option ((Bs×Int×Int) ⊕ R75):=
 if t21 = true then
  some (.inl (s0,(w64 (from3 + 1)),to4))
 else
  (j75_15 s0 from3 to4).map .inr
theorem j75_10_t (s0:Bs) (from3 to4:Int) (t21:Bool)  (sl:Nat→AV) (zq0:sl 0 = .v (.c (.d (.sc (.string (S s0)))))) (zq3:sl 3 = .v (.c (.d (.sc (.int .i64 from3))))) (zq4:sl 4 = .v (.c (.d (.sc (.int .i64 to4))))) (zq21:sl 21 = .v (.c (.d (.sc (.bool t21))))):
  stepE (K75_6 (mm:=mm)) (loopK 0 [(0,.keep),(3,.keep),(4,.keep)] (seqD (E0 mm) 75 0 (callW (E0 mm)) itW c75_13 (den (E0 mm) 75 0 (callW (E0 mm)) itW c75_10 none ⟨sl,[]⟩))) = (j75_10 s0 from3 to4 t21).map (sm en75_6 e75):=by
 simp -implicitDefEqProofs only [j75_10,(show c75_10 = Code.cond _ c75_11 c75_12 from rfl),zq0,zq3,zq4,zq21,setA,setB,za,zb,zc,zd,ze,zf,zg,zh,zi,zj,zk,zl,zm,zn,zo,zp,reduceCtorEq,zE,↓reduceIte]
 refine brB (fun yc4=>?_) (fun yc4=>?_)
 ·simp -implicitDefEqProofs only [c75_11_e,c75_13_e,c75_14_r,(show opsOf c75_14 = _ :: _ from rfl),zq0,zq3,zq4,zq21,yc4,setA,setB,za,zb,zc,zd,ze,zf,zg,zh,zi,zj,zk,zl,zm,zn,zo,zp,reduceCtorEq,zE,↓reduceIte]
  all_goals rfl
 ·simp -implicitDefEqProofs only [c75_12_e,K75_6,zq0,zq3,zq4,zq21,yc4,setA,setB,za,zb,zc,zd,ze,zf,zg,zh,zi,zj,zk,zl,zm,zn,zo,zp,reduceCtorEq,zE,↓reduceIte]
  exact mi (j75_15_t s0 from3 to4 _ (by exact zq0) (by exact zq3) (by exact zq4))
def s75_6 (s0:Bs) (from3 to4:Int):Option ((Bs×Int×Int) ⊕ R75):=
 if (decide (from3 < to4)) = true then
  if 0≤from3∧from3 < (s0.length:Int) then
   if ((s0.getD from3.toNat 0) == (32:UInt8)) = true then
    j75_10 s0 from3 to4 true
   else
    j75_10 s0 from3 to4 ((s0.getD from3.toNat 0) == (9:UInt8))
  else none
 else
  j75_10 s0 from3 to4 false
theorem s75_6_t (s0:Bs) (from3 to4:Int):
  stepE (K75_6 (mm:=mm)) (loopF (E0 mm) 75 0 (callW (E0 mm)) itW c75_7 [(0,.keep),(3,.keep),(4,.keep)] (none,[.v (.c (.d (.sc (.string (S s0))))),.v (.c (.d (.sc (.int .i64 from3)))),.v (.c (.d (.sc (.int .i64 to4))))],[])) = (s75_6 s0 from3 to4).map (sm en75_6 e75):=by
 simp -implicitDefEqProofs only [s75_6,loopF_eq,c75_7_e,c75_8_e,c75_9_r,(show opsOf c75_9 = _ :: _ from rfl),setA,setB,za,zb,zc,zd,ze,zf,zg,zh,zi,zj,zk,zl,zm,zn,zo,zp,reduceCtorEq,zE,↓reduceIte]
 refine brB (fun yc1=>?_) (fun yc1=>?_)
 ·simp -implicitDefEqProofs only [Tryz.underlying9,yc1,setA,setB,za,zb,zc,zd,ze,zf,zg,zh,zi,zj,zk,zl,zm,zn,zo,zp,reduceCtorEq,zE,↓reduceIte]
  refine brP (fun yc2=>?_) (fun yc2=>?_)
  ·simp -implicitDefEqProofs only [yc1,yc2,setA,setB,za,zb,zc,zd,ze,zf,zg,zh,zi,zj,zk,zl,zm,zn,zo,zp,reduceCtorEq,zE,↓reduceIte]
   refine brB (fun yc3=>?_) (fun yc3=>?_)
   ·simp -implicitDefEqProofs only [yc1,yc2,yc3,setA,setB,za,zb,zc,zd,ze,zf,zg,zh,zi,zj,zk,zl,zm,zn,zo,zp,reduceCtorEq,zE,↓reduceIte]
    exact j75_10_t s0 from3 to4 true _ (by rfl) (by rfl) (by rfl) (by rfl)
   ·simp -implicitDefEqProofs only [Tryz.underlying9,yc1,yc2,yc3,setA,setB,za,zb,zc,zd,ze,zf,zg,zh,zi,zj,zk,zl,zm,zn,zo,zp,reduceCtorEq,zE,↓reduceIte]
    exact j75_10_t s0 from3 to4 ((s0.getD from3.toNat 0) == (9:UInt8)) _ (by rfl) (by rfl) (by rfl) (by rfl)
  ·rw [if_neg yc2]; rfl
 ·simp -implicitDefEqProofs only [yc1,setA,setB,za,zb,zc,zd,ze,zf,zg,zh,zi,zj,zk,zl,zm,zn,zo,zp,reduceCtorEq,zE,↓reduceIte]
  exact j75_10_t s0 from3 to4 false _ (by rfl) (by rfl) (by rfl) (by rfl)
def l75_6 (s0:Bs) (from3 to4:Int):Option R75:=iter (fun x:(Bs×Int×Int)=>s75_6 x.1 x.2.1 x.2.2) (s0,from3,to4)
theorem l75_6_t (s0:Bs) (from3 to4:Int):bodyD (E0 mm) [.tmp 2] 0 false (seqD (E0 mm) 75 0 (callW (E0 mm)) itW c75_15 (blockD 0 (itW (loopF (E0 mm) 75 0 (callW (E0 mm)) itW c75_7 [(0,.keep),(3,.keep),(4,.keep)]) (none,[.v (.c (.d (.sc (.string (S s0))))),.v (.c (.d (.sc (.int .i64 from3)))),.v (.c (.d (.sc (.int .i64 to4))))],[])))) = (l75_6 s0 from3 to4).map e75:=
 it_sim (K:=(K75_6 (mm:=mm))) rfl (enc:=en75_6) (fun x=>s75_6_t x.1 x.2.1 x.2.2) (s0,from3,to4)
def m75 (s:Bs):Option R75:=
 l75_6 s (0:Int) (s.length:Int)
theorem f75_t (s:Bs):
  callW (E0 mm) 75 [.c (.d (.sc (.string (S s))))] [] = (m75 s).map e75:=by
 rw [callW_run (body:=c75_0) (res:=[.tmp 2]) Tryz.func75 rfl rfl (by kernel_rfl)]
 simp -implicitDefEqProofs only [m75,slots1,c75_0_e,c75_1_r,(show opsOf c75_1 = _ :: _ from rfl),c75_2_e,c75_3_r,(show opsOf c75_3 = _ :: _ from rfl),Tryz.underlying9,c75_4_e,c75_5_e,c75_6_l,setA,setB,za,zb,zc,zd,ze,zf,zg,zh,zi,zj,zk,zl,zm,zn,zo,zp,reduceCtorEq,zE,↓reduceIte]
 exact l75_6_t s (0:Int) (s.length:Int)
noncomputable def c59_0:Code:=bodyOf Tryz.f59
def c59_1:=cA c59_0
def c59_2:=cB c59_0
def c59_3:=cA c59_2
def c59_4:=cB c59_2
def c59_5:=cA c59_4
def c59_6:=cB c59_4
def c59_7:=cA c59_6
def c59_8:=cA c59_7
def c59_9:=cB c59_7
def c59_10:=cA c59_9
def c59_11:=cA c59_10
def c59_12:=cA c59_11
def c59_13:=cA c59_12
def c59_14:=cB c59_12
def c59_15:=cA c59_14
def c59_16:=cB c59_14
def c59_17:=cB c59_11
def c59_18:=cA c59_17
def c59_19:=cA c59_18
def c59_20:=cA c59_19
def c59_21:=cB c59_19
def c59_22:=cA c59_21
def c59_23:=cA c59_22
def c59_24:=cB c59_22
def c59_25:=cB c59_21
def c59_26:=cB c59_18
def c59_27:=cA c59_26
def c59_28:=cA c59_27
def c59_29:=cB c59_27
def c59_30:=cA c59_29
def c59_31:=cA c59_30
def c59_32:=cB c59_30
def c59_33:=cA c59_32
def c59_34:=cA c59_33
def c59_35:=cB c59_33
def c59_36:=cA c59_35
def c59_37:=cB c59_35
def c59_38:=cB c59_32
def c59_39:=cB c59_29
def c59_40:=cB c59_26
def c59_41:=cB c59_6
def c59_42:=cA c59_41
def c59_43:=cB c59_41
theorem c59_0_e:c59_0 = .seq c59_1 c59_2:=rfl
theorem c59_1_r:RG (E0 mm) 59 c59_1:=rgN rfl
theorem c59_2_e:c59_2 = .seq c59_3 c59_4:=rfl
theorem c59_3_r:RG (E0 mm) 59 c59_3:=rgN rfl
theorem c59_4_e:c59_4 = .seq c59_5 c59_6:=rfl
theorem c59_5_r:RG (E0 mm) 59 c59_5:=rgN rfl
theorem c59_6_e:c59_6 = .seq c59_7 c59_41:=rfl
theorem c59_7_e:c59_7 = .seq c59_8 c59_9:=rfl
theorem c59_8_r:RG (E0 mm) 59 c59_8:=rgN rfl
theorem c59_9_e:c59_9 = .block 0 c59_10:=rfl
theorem c59_10_l (m:Nat) (st:St):den (E0 mm) 59 m (callW (E0 mm)) itW c59_10 none st = loopD itW (loopF (E0 mm) 59 m (callW (E0 mm)) itW c59_11 [(0,.keep),(3,.own),(4,.keep),(5,.keep)]) (canon m [(0,.keep),(3,.own),(4,.keep),(5,.keep)] st):=rfl
theorem c59_11_e:c59_11 = .seq c59_12 c59_17:=rfl
theorem c59_12_e:c59_12 = .seq c59_13 c59_14:=rfl
theorem c59_13_r:RG (E0 mm) 59 c59_13:=rgN rfl
theorem c59_15_e:c59_15 = .skip:=rfl
theorem c59_16_e:c59_16 = .exit 0:=rfl
theorem c59_17_e:c59_17 = .block 1 c59_18:=rfl
theorem c59_18_e:c59_18 = .seq c59_19 c59_26:=rfl
theorem c59_19_e:c59_19 = .seq c59_20 c59_21:=rfl
theorem c59_20_r:RG (E0 mm) 59 c59_20:=rgN rfl
theorem c59_22_e:c59_22 = .seq c59_23 c59_24:=rfl
theorem c59_23_r:RG (E0 mm) 59 c59_23:=rgN rfl
theorem c59_24_e:c59_24 = .exit 1:=rfl
theorem c59_25_e:c59_25 = .skip:=rfl
theorem c59_26_e:c59_26 = .seq c59_27 c59_40:=rfl
theorem c59_27_e:c59_27 = .seq c59_28 c59_29:=rfl
theorem c59_28_r:RG (E0 mm) 59 c59_28:=rgN rfl
theorem c59_30_e:c59_30 = .seq c59_31 c59_32:=rfl
theorem c59_31_r:RG (E0 mm) 59 c59_31:=rgN rfl
theorem c59_32_e:c59_32 = .seq c59_33 c59_38:=rfl
theorem c59_33_e:c59_33 = .seq c59_34 c59_35:=rfl
theorem c59_34_r:RG (E0 mm) 59 c59_34:=rgN rfl
theorem c59_36_r:RG (E0 mm) 59 c59_36:=rgN rfl
theorem c59_37_e:c59_37 = .skip:=rfl
theorem c59_38_r:RG (E0 mm) 59 c59_38:=rgN rfl
theorem c59_39_e:c59_39 = .skip:=rfl
theorem c59_40_r:RG (E0 mm) 59 c59_40:=rgN rfl
theorem c59_41_e:c59_41 = .seq c59_42 c59_43:=rfl
theorem c59_42_r:RG (E0 mm) 59 c59_42:=rgN rfl
theorem c59_43_e:c59_43 = .ret:=rfl
abbrev R59:=(Bool×List Bs)
def e59:R59→AV×Heap:=fun x=>(.v (.c (.own x.1 (enL enS x.2) 0)),[.row x.2.length (rz x.1 1)])
def K59_10:Option (Ex×St)→Option (AV×Heap):=fun r=>bodyD (E0 mm) [.tmp 2] 0 false (seqD (E0 mm) 59 0 (callW (E0 mm)) itW c59_41 (blockD 0 (r)))
def en59_10:(Bs×Bool×List Bs×Int×Int)→X:=fun x=>(none,[.v (.c (.d (.sc (.string (S x.1))))),.v (.c (.own x.2.1 (enL enS x.2.2.1) 0)),.v (.c (.d (.sc (.int .i64 x.2.2.2.1)))),.v (.c (.d (.sc (.int .i64 x.2.2.2.2))))],[.row x.2.2.1.length (rz x.2.1 1)])
def j59_40 (s0:Bs) (l3_0:Bool) (l3_1:List Bs) (from4 at5:Int):Option ((Bs×Bool×List Bs×Int×Int) ⊕ R59):=
 some (.inl (s0,l3_0,l3_1,from4,(w64 (at5 + 1))))
theorem j59_40_t (s0:Bs) (l3_0:Bool) (l3_1:List Bs) (from4 at5:Int)  (sl:Nat→AV) (zq0:sl 0 = .v (.c (.d (.sc (.string (S s0)))))) (zq3:sl 3 = .v (.c (.own l3_0 (enL enS l3_1) 0))) (zq4:sl 4 = .v (.c (.d (.sc (.int .i64 from4))))) (zq5:sl 5 = .v (.c (.d (.sc (.int .i64 at5))))):
  stepE (K59_10 (mm:=mm)) (loopK 0 [(0,.keep),(3,.own),(4,.keep),(5,.keep)] (blockD 1 (den (E0 mm) 59 0 (callW (E0 mm)) itW c59_40 none ⟨sl,[.row l3_1.length (rz l3_0 1)]⟩))) = (j59_40 s0 l3_0 l3_1 from4 at5).map (sm en59_10 e59):=by
 simp -implicitDefEqProofs only [j59_40,c59_40_r,(show opsOf c59_40 = _ :: _ from rfl),zq0,zq3,zq4,zq5,setA,setB,za,zb,zc,zd,ze,zf,zg,zh,zi,zj,zk,zl,zm,zn,zo,zp,reduceCtorEq,zE,↓reduceIte]
 all_goals rfl
def j59_38 (s0:Bs) (l3_0:Bool) (l3_1:List Bs) (at5:Int):Option ((Bs×Bool×List Bs×Int×Int) ⊕ R59):=
 j59_40 s0 l3_0 l3_1 (w64 (at5 + 1)) at5
theorem j59_38_t (s0:Bs) (l3_0:Bool) (l3_1:List Bs) (at5:Int)  (sl:Nat→AV) (zq0:sl 0 = .v (.c (.d (.sc (.string (S s0)))))) (zq3:sl 3 = .v (.c (.own l3_0 (enL enS l3_1) 0))) (zq5:sl 5 = .v (.c (.d (.sc (.int .i64 at5))))):
  stepE (K59_10 (mm:=mm)) (loopK 0 [(0,.keep),(3,.own),(4,.keep),(5,.keep)] (blockD 1 (seqD (E0 mm) 59 0 (callW (E0 mm)) itW c59_40 (den (E0 mm) 59 0 (callW (E0 mm)) itW c59_38 none ⟨sl,[.row l3_1.length (rz l3_0 1)]⟩)))) = (j59_38 s0 l3_0 l3_1 at5).map (sm en59_10 e59):=by
 simp -implicitDefEqProofs only [j59_38,c59_38_r,(show opsOf c59_38 = _ :: _ from rfl),zq0,zq3,zq5,setA,setB,za,zb,zc,zd,ze,zf,zg,zh,zi,zj,zk,zl,zm,zn,zo,zp,reduceCtorEq,zE,↓reduceIte]
 exact j59_40_t s0 l3_0 l3_1 (w64 (at5 + 1)) at5 _ (by exact zq0) (by exact zq3) (by rfl) (by exact zq5)
def j59_29 (s0:Bs) (l3_0:Bool) (l3_1:List Bs) (from4 at5:Int) (t33:Bool):Option ((Bs×Bool×List Bs×Int×Int) ⊕ R59):=
 if t33 = true then
  (bnd at5 s0.length).bind fun yk10=>
   (bnd from4 yk10).bind fun yk12=>
    (m75 ((s0.take yk10).drop yk12)).bind fun yr14=>
     if (yr14 == ([]:Bs)) = true then
      j59_38 s0 l3_0 l3_1 at5
     else
      if (l3_1.length + 1) * 16≤140737488355328 then
       j59_38 s0 false (l3_1 ++ ([yr14]:List Bs)) at5
      else none
 else
  j59_40 s0 l3_0 l3_1 from4 at5
theorem j59_29_t (s0:Bs) (l3_0:Bool) (l3_1:List Bs) (from4 at5:Int) (t33:Bool)  (sl:Nat→AV) (zq0:sl 0 = .v (.c (.d (.sc (.string (S s0)))))) (zq3:sl 3 = .v (.c (.own l3_0 (enL enS l3_1) 0))) (zq4:sl 4 = .v (.c (.d (.sc (.int .i64 from4))))) (zq5:sl 5 = .v (.c (.d (.sc (.int .i64 at5))))) (zq33:sl 33 = .v (.c (.d (.sc (.bool t33))))):
  stepE (K59_10 (mm:=mm)) (loopK 0 [(0,.keep),(3,.own),(4,.keep),(5,.keep)] (blockD 1 (seqD (E0 mm) 59 0 (callW (E0 mm)) itW c59_40 (den (E0 mm) 59 0 (callW (E0 mm)) itW c59_29 none ⟨sl,[.row l3_1.length (rz l3_0 1)]⟩)))) = (j59_29 s0 l3_0 l3_1 from4 at5 t33).map (sm en59_10 e59):=by
 simp -implicitDefEqProofs only [j59_29,(show c59_29 = Code.cond _ c59_30 c59_39 from rfl),zq0,zq3,zq4,zq5,zq33,setA,setB,za,zb,zc,zd,ze,zf,zg,zh,zi,zj,zk,zl,zm,zn,zo,zp,reduceCtorEq,zE,↓reduceIte]
 refine brB (fun yc8=>?_) (fun yc8=>?_)
 ·simp -implicitDefEqProofs only [c59_30_e,c59_31_r,(show opsOf c59_31 = _ :: _ from rfl),Tryz.underlying9,zq0,zq3,zq4,zq5,zq33,yc8,setA,setB,za,zb,zc,zd,ze,zf,zg,zh,zi,zj,zk,zl,zm,zn,zo,zp,reduceCtorEq,zE,↓reduceIte]
  refine brM (fun yc9=>?_) (fun yk10 yc9=>?_)
  ·rw [yc9]; rfl
  ·simp -implicitDefEqProofs only [zq0,zq3,zq4,zq5,zq33,yc8,yc9,setA,setB,za,zb,zc,zd,ze,zf,zg,zh,zi,zj,zk,zl,zm,zn,zo,zp,reduceCtorEq,zE,↓reduceIte]
   refine brM (fun yc11=>?_) (fun yk12 yc11=>?_)
   ·rw [yc11]; rfl
   ·simp -implicitDefEqProofs only [ent75,prm75,f75_t,zq0,zq3,zq4,zq5,zq33,yc8,yc9,yc11,setA,setB,za,zb,zc,zd,ze,zf,zg,zh,zi,zj,zk,zl,zm,zn,zo,zp,reduceCtorEq,zE,↓reduceIte]
    refine brM (fun yc13=>?_) (fun yr14 yc13=>?_)
    ·rw [yc13]; rfl
    ·simp -implicitDefEqProofs only [e75,c59_32_e,c59_33_e,c59_34_r,(show opsOf c59_34 = _ :: _ from rfl),(show c59_35 = Code.cond _ c59_36 c59_37 from rfl),zq0,zq3,zq4,zq5,zq33,yc8,yc9,yc11,yc13,setA,setB,za,zb,zc,zd,ze,zf,zg,zh,zi,zj,zk,zl,zm,zn,zo,zp,reduceCtorEq,zE,↓reduceIte]
     refine brB (fun yc15=>?_) (fun yc15=>?_)
     ·simp -implicitDefEqProofs only [c59_37_e,zq0,zq3,zq4,zq5,zq33,yc8,yc9,yc11,yc13,yc15,setA,setB,za,zb,zc,zd,ze,zf,zg,zh,zi,zj,zk,zl,zm,zn,zo,zp,reduceCtorEq,zE,↓reduceIte]
      exact j59_38_t s0 l3_0 l3_1 at5 _ (by exact zq0) (by exact zq3) (by exact zq5)
     ·simp -implicitDefEqProofs only [c59_36_r,(show opsOf c59_36 = _ :: _ from rfl),Tryz.underlying40,sz9,zc9,hd63,nv64,rw65,ns5,ap40,zq0,zq3,zq4,zq5,zq33,yc8,yc9,yc11,yc13,yc15,setA,setB,za,zb,zc,zd,ze,zf,zg,zh,zi,zj,zk,zl,zm,zn,zo,zp,reduceCtorEq,zE,↓reduceIte]
      refine brP (fun yc16=>?_) (fun yc16=>?_)
      ·simp -implicitDefEqProofs only [zq0,zq3,zq4,zq5,zq33,yc8,yc9,yc11,yc13,yc15,yc16,setA,setB,za,zb,zc,zd,ze,zf,zg,zh,zi,zj,zk,zl,zm,zn,zo,zp,reduceCtorEq,zE,↓reduceIte]
       exact j59_38_t s0 false (l3_1 ++ ([yr14]:List Bs)) at5 _ (by exact zq0) (by rfl) (by exact zq5)
      ·rw [if_neg yc16]; rfl
 ·simp -implicitDefEqProofs only [c59_39_e,zq0,zq3,zq4,zq5,zq33,yc8,setA,setB,za,zb,zc,zd,ze,zf,zg,zh,zi,zj,zk,zl,zm,zn,zo,zp,reduceCtorEq,zE,↓reduceIte]
  exact j59_40_t s0 l3_0 l3_1 from4 at5 _ (by exact zq0) (by exact zq3) (by exact zq4) (by exact zq5)
def j59_21 (s0:Bs) (l3_0:Bool) (l3_1:List Bs) (from4 at5:Int) (t20:Bool):Option ((Bs×Bool×List Bs×Int×Int) ⊕ R59):=
 if t20 = true then
  (m74 s0 at5).bind fun yr6=>
   some (.inl (s0,l3_0,l3_1,from4,yr6))
 else
  if (at5 == (s0.length:Int)) = true then
   j59_29 s0 l3_0 l3_1 from4 at5 true
  else
   if 0≤at5∧at5 < (s0.length:Int) then
    j59_29 s0 l3_0 l3_1 from4 at5 ((s0.getD at5.toNat 0) == (44:UInt8))
   else none
theorem j59_21_t (s0:Bs) (l3_0:Bool) (l3_1:List Bs) (from4 at5:Int) (t20:Bool)  (sl:Nat→AV) (zq0:sl 0 = .v (.c (.d (.sc (.string (S s0)))))) (zq3:sl 3 = .v (.c (.own l3_0 (enL enS l3_1) 0))) (zq4:sl 4 = .v (.c (.d (.sc (.int .i64 from4))))) (zq5:sl 5 = .v (.c (.d (.sc (.int .i64 at5))))) (zq20:sl 20 = .v (.c (.d (.sc (.bool t20))))):
  stepE (K59_10 (mm:=mm)) (loopK 0 [(0,.keep),(3,.own),(4,.keep),(5,.keep)] (blockD 1 (seqD (E0 mm) 59 0 (callW (E0 mm)) itW c59_26 (den (E0 mm) 59 0 (callW (E0 mm)) itW c59_21 none ⟨sl,[.row l3_1.length (rz l3_0 1)]⟩)))) = (j59_21 s0 l3_0 l3_1 from4 at5 t20).map (sm en59_10 e59):=by
 simp -implicitDefEqProofs only [j59_21,(show c59_21 = Code.cond _ c59_22 c59_25 from rfl),zq0,zq3,zq4,zq5,zq20,setA,setB,za,zb,zc,zd,ze,zf,zg,zh,zi,zj,zk,zl,zm,zn,zo,zp,reduceCtorEq,zE,↓reduceIte]
 refine brB (fun yc4=>?_) (fun yc4=>?_)
 ·simp -implicitDefEqProofs only [c59_22_e,c59_23_r,(show opsOf c59_23 = _ :: _ from rfl),ent74,prm74,f74_t,zq0,zq3,zq4,zq5,zq20,yc4,setA,setB,za,zb,zc,zd,ze,zf,zg,zh,zi,zj,zk,zl,zm,zn,zo,zp,reduceCtorEq,zE,↓reduceIte]
  refine brM (fun yc5=>?_) (fun yr6 yc5=>?_)
  ·rw [yc5]; rfl
  ·simp -implicitDefEqProofs only [e74,c59_24_e,zq0,zq3,zq4,zq5,zq20,yc4,yc5,setA,setB,za,zb,zc,zd,ze,zf,zg,zh,zi,zj,zk,zl,zm,zn,zo,zp,reduceCtorEq,zE,↓reduceIte]
   all_goals rfl
 ·simp -implicitDefEqProofs only [c59_25_e,c59_26_e,c59_27_e,c59_28_r,(show opsOf c59_28 = _ :: _ from rfl),Tryz.underlying9,zq0,zq3,zq4,zq5,zq20,yc4,setA,setB,za,zb,zc,zd,ze,zf,zg,zh,zi,zj,zk,zl,zm,zn,zo,zp,reduceCtorEq,zE,↓reduceIte]
  refine brB (fun yc7=>?_) (fun yc7=>?_)
  ·simp -implicitDefEqProofs only [zq0,zq3,zq4,zq5,zq20,yc4,yc7,setA,setB,za,zb,zc,zd,ze,zf,zg,zh,zi,zj,zk,zl,zm,zn,zo,zp,reduceCtorEq,zE,↓reduceIte]
   exact j59_29_t s0 l3_0 l3_1 from4 at5 true _ (by exact zq0) (by exact zq3) (by exact zq4) (by exact zq5) (by rfl)
  ·simp -implicitDefEqProofs only [Tryz.underlying9,zq0,zq3,zq4,zq5,zq20,yc4,yc7,setA,setB,za,zb,zc,zd,ze,zf,zg,zh,zi,zj,zk,zl,zm,zn,zo,zp,reduceCtorEq,zE,↓reduceIte]
   refine brP (fun yc17=>?_) (fun yc17=>?_)
   ·simp -implicitDefEqProofs only [zq0,zq3,zq4,zq5,zq20,yc4,yc7,yc17,setA,setB,za,zb,zc,zd,ze,zf,zg,zh,zi,zj,zk,zl,zm,zn,zo,zp,reduceCtorEq,zE,↓reduceIte]
    exact j59_29_t s0 l3_0 l3_1 from4 at5 ((s0.getD at5.toNat 0) == (44:UInt8)) _ (by exact zq0) (by exact zq3) (by exact zq4) (by exact zq5) (by rfl)
   ·rw [if_neg yc17]; rfl
def j59_41 (l3_0:Bool) (l3_1:List Bs):Option R59:=
 some (l3_0,l3_1)
theorem j59_41_t (l3_0:Bool) (l3_1:List Bs)  (sl:Nat→AV) (zq3:sl 3 = .v (.c (.own l3_0 (enL enS l3_1) 0))):
  bodyD (E0 mm) [.tmp 2] 0 false (den (E0 mm) 59 0 (callW (E0 mm)) itW c59_41 none ⟨sl,[.row l3_1.length (rz l3_0 1)]⟩) = (j59_41 l3_0 l3_1).map e59:=by
 simp -implicitDefEqProofs only [j59_41,c59_41_e,c59_42_r,(show opsOf c59_42 = _ :: _ from rfl),c59_43_e,zq3,setA,setB,za,zb,zc,zd,ze,zf,zg,zh,zi,zj,zk,zl,zm,zn,zo,zp,reduceCtorEq,zE,↓reduceIte]
 all_goals rfl
def s59_10 (s0:Bs) (l3_0:Bool) (l3_1:List Bs) (from4 at5:Int):Option ((Bs×Bool×List Bs×Int×Int) ⊕ R59):=
 if (decide (at5≤(s0.length:Int))) = true then
  if (decide (at5 < (s0.length:Int))) = true then
   if 0≤at5∧at5 < (s0.length:Int) then
    j59_21 s0 l3_0 l3_1 from4 at5 ((s0.getD at5.toNat 0) == (34:UInt8))
   else none
  else
   j59_21 s0 l3_0 l3_1 from4 at5 false
 else
  (j59_41 l3_0 l3_1).map .inr
theorem s59_10_t (s0:Bs) (l3_0:Bool) (l3_1:List Bs) (from4 at5:Int):
  stepE (K59_10 (mm:=mm)) (loopF (E0 mm) 59 0 (callW (E0 mm)) itW c59_11 [(0,.keep),(3,.own),(4,.keep),(5,.keep)] (none,[.v (.c (.d (.sc (.string (S s0))))),.v (.c (.own l3_0 (enL enS l3_1) 0)),.v (.c (.d (.sc (.int .i64 from4)))),.v (.c (.d (.sc (.int .i64 at5))))],[.row l3_1.length (rz l3_0 1)])) = (s59_10 s0 l3_0 l3_1 from4 at5).map (sm en59_10 e59):=by
 simp -implicitDefEqProofs only [s59_10,loopF_eq,c59_11_e,c59_12_e,c59_13_r,(show opsOf c59_13 = _ :: _ from rfl),Tryz.underlying9,(show c59_14 = Code.cond _ c59_15 c59_16 from rfl),setA,setB,za,zb,zc,zd,ze,zf,zg,zh,zi,zj,zk,zl,zm,zn,zo,zp,reduceCtorEq,zE,↓reduceIte]
 refine brB (fun yc1=>?_) (fun yc1=>?_)
 ·simp -implicitDefEqProofs only [c59_15_e,c59_17_e,c59_18_e,c59_19_e,c59_20_r,(show opsOf c59_20 = _ :: _ from rfl),Tryz.underlying9,yc1,setA,setB,za,zb,zc,zd,ze,zf,zg,zh,zi,zj,zk,zl,zm,zn,zo,zp,reduceCtorEq,zE,↓reduceIte]
  refine brB (fun yc2=>?_) (fun yc2=>?_)
  ·simp -implicitDefEqProofs only [Tryz.underlying9,yc1,yc2,setA,setB,za,zb,zc,zd,ze,zf,zg,zh,zi,zj,zk,zl,zm,zn,zo,zp,reduceCtorEq,zE,↓reduceIte]
   refine brP (fun yc3=>?_) (fun yc3=>?_)
   ·simp -implicitDefEqProofs only [yc1,yc2,yc3,setA,setB,za,zb,zc,zd,ze,zf,zg,zh,zi,zj,zk,zl,zm,zn,zo,zp,reduceCtorEq,zE,↓reduceIte]
    exact j59_21_t s0 l3_0 l3_1 from4 at5 ((s0.getD at5.toNat 0) == (34:UInt8)) _ (by rfl) (by rfl) (by rfl) (by rfl) (by rfl)
   ·rw [if_neg yc3]; rfl
  ·simp -implicitDefEqProofs only [yc1,yc2,setA,setB,za,zb,zc,zd,ze,zf,zg,zh,zi,zj,zk,zl,zm,zn,zo,zp,reduceCtorEq,zE,↓reduceIte]
   exact j59_21_t s0 l3_0 l3_1 from4 at5 false _ (by rfl) (by rfl) (by rfl) (by rfl) (by rfl)
 ·simp -implicitDefEqProofs only [c59_16_e,K59_10,yc1,setA,setB,za,zb,zc,zd,ze,zf,zg,zh,zi,zj,zk,zl,zm,zn,zo,zp,reduceCtorEq,zE,↓reduceIte]
  exact mi (j59_41_t l3_0 l3_1 _ (by rfl))
def l59_10 (s0:Bs) (l3_0:Bool) (l3_1:List Bs) (from4 at5:Int):Option R59:=iter (fun x:(Bs×Bool×List Bs×Int×Int)=>s59_10 x.1 x.2.1 x.2.2.1 x.2.2.2.1 x.2.2.2.2) (s0,l3_0,l3_1,from4,at5)
theorem l59_10_t (s0:Bs) (l3_0:Bool) (l3_1:List Bs) (from4 at5:Int):bodyD (E0 mm) [.tmp 2] 0 false (seqD (E0 mm) 59 0 (callW (E0 mm)) itW c59_41 (blockD 0 (itW (loopF (E0 mm) 59 0 (callW (E0 mm)) itW c59_11 [(0,.keep),(3,.own),(4,.keep),(5,.keep)]) (none,[.v (.c (.d (.sc (.string (S s0))))),.v (.c (.own l3_0 (enL enS l3_1) 0)),.v (.c (.d (.sc (.int .i64 from4)))),.v (.c (.d (.sc (.int .i64 at5))))],[.row l3_1.length (rz l3_0 1)])))) = (l59_10 s0 l3_0 l3_1 from4 at5).map e59:=
 it_sim (K:=(K59_10 (mm:=mm))) rfl (enc:=en59_10) (fun x=>s59_10_t x.1 x.2.1 x.2.2.1 x.2.2.2.1 x.2.2.2.2) (s0,l3_0,l3_1,from4,at5)
def m59 (s:Bs):Option R59:=
 l59_10 s true ([]:List Bs) (0:Int) (0:Int)
theorem f59_t (s:Bs):
  callW (E0 mm) 59 [.c (.d (.sc (.string (S s))))] [] = (m59 s).map e59:=by
 rw [callW_run (body:=c59_0) (res:=[.tmp 2]) Tryz.func59 rfl rfl (by kernel_rfl)]
 simp -implicitDefEqProofs only [m59,slots1,c59_0_e,c59_1_r,(show opsOf c59_1 = _ :: _ from rfl),c59_2_e,c59_3_r,(show opsOf c59_3 = _ :: _ from rfl),c59_4_e,c59_5_r,(show opsOf c59_5 = _ :: _ from rfl),c59_6_e,c59_7_e,c59_8_r,(show opsOf c59_8 = _ :: _ from rfl),c59_9_e,c59_10_l,setA,setB,za,zb,zc,zd,ze,zf,zg,zh,zi,zj,zk,zl,zm,zn,zo,zp,reduceCtorEq,zE,↓reduceIte]
 exact l59_10_t s true ([]:List Bs) (0:Int) (0:Int)
noncomputable def c36_0:Code:=bodyOf Tryz.f36
def c36_1:=cA c36_0
def c36_2:=cB c36_0
def c36_3:=cA c36_2
def c36_4:=cB c36_2
def c36_5:=cA c36_4
def c36_6:=cA c36_5
def c36_7:=cB c36_5
def c36_8:=cA c36_7
def c36_9:=cA c36_8
def c36_10:=cA c36_9
def c36_11:=cA c36_10
def c36_12:=cB c36_10
def c36_13:=cA c36_12
def c36_14:=cB c36_12
def c36_15:=cB c36_9
def c36_16:=cA c36_15
def c36_17:=cA c36_16
def c36_18:=cA c36_17
def c36_19:=cB c36_17
def c36_20:=cA c36_19
def c36_21:=cB c36_19
def c36_22:=cB c36_15
def c36_23:=cB c36_4
def c36_24:=cA c36_23
def c36_25:=cB c36_23
theorem c36_0_e:c36_0 = .seq c36_1 c36_2:=rfl
theorem c36_1_r:RG (E0 mm) 36 c36_1:=rgN rfl
theorem c36_2_e:c36_2 = .seq c36_3 c36_4:=rfl
theorem c36_3_r:RG (E0 mm) 36 c36_3:=rgN rfl
theorem c36_4_e:c36_4 = .seq c36_5 c36_23:=rfl
theorem c36_5_e:c36_5 = .seq c36_6 c36_7:=rfl
theorem c36_6_r:RG (E0 mm) 36 c36_6:=rgN rfl
theorem c36_7_e:c36_7 = .block 0 c36_8:=rfl
theorem c36_8_l (m:Nat) (st:St):den (E0 mm) 36 m (callW (E0 mm)) itW c36_8 none st = loopD itW (loopF (E0 mm) 36 m (callW (E0 mm)) itW c36_9 [(0,.keep),(1,.keep),(5,.own),(6,.keep)]) (canon m [(0,.keep),(1,.keep),(5,.own),(6,.keep)] st):=rfl
theorem c36_9_e:c36_9 = .seq c36_10 c36_15:=rfl
theorem c36_10_e:c36_10 = .seq c36_11 c36_12:=rfl
theorem c36_11_r:RG (E0 mm) 36 c36_11:=rgN rfl
theorem c36_13_e:c36_13 = .skip:=rfl
theorem c36_14_e:c36_14 = .exit 0:=rfl
theorem c36_15_e:c36_15 = .seq c36_16 c36_22:=rfl
theorem c36_16_e:c36_16 = .block 1 c36_17:=rfl
theorem c36_17_e:c36_17 = .seq c36_18 c36_19:=rfl
theorem c36_18_r:RG (E0 mm) 36 c36_18:=rgN rfl
theorem c36_20_r:RG (E0 mm) 36 c36_20:=rgN rfl
theorem c36_21_e:c36_21 = .skip:=rfl
theorem c36_22_r:RG (E0 mm) 36 c36_22:=rgN rfl
theorem c36_23_e:c36_23 = .seq c36_24 c36_25:=rfl
theorem c36_24_r:RG (E0 mm) 36 c36_24:=rgN rfl
theorem c36_25_e:c36_25 = .ret:=rfl
abbrev R36:=(Bool×List Bs)
def e36:R36→AV×Heap:=fun x=>(.v (.c (.own x.1 (enL enS x.2) 0)),[.row x.2.length (rz x.1 1)])
def K36_8:Option (Ex×St)→Option (AV×Heap):=fun r=>bodyD (E0 mm) [.tmp 4] 0 false (seqD (E0 mm) 36 0 (callW (E0 mm)) itW c36_23 (blockD 0 (r)))
def en36_8:(Bool×List (Bs×Bs)×Bs×Bool×List Bs×Int)→X:=fun x=>(none,[.v (.c (.d (.lst x.1 (enL enSS x.2.1)))),.v (.c (.d (.sc (.string (S x.2.2.1))))),.v (.c (.own x.2.2.2.1 (enL enS x.2.2.2.2.1) 0)),.v (.c (.d (.sc (.int .i64 x.2.2.2.2.2))))],[.row x.2.2.2.2.1.length (rz x.2.2.2.1 1)])
def j36_22 (l0_0:Bool) (l0_1:List (Bs×Bs)) (name1:Bs) (out5_0:Bool) (out5_1:List Bs) (i6:Int):Option ((Bool×List (Bs×Bs)×Bs×Bool×List Bs×Int) ⊕ R36):=
 some (.inl (l0_0,l0_1,name1,out5_0,out5_1,(w64 (i6 + 1))))
theorem j36_22_t (l0_0:Bool) (l0_1:List (Bs×Bs)) (name1:Bs) (out5_0:Bool) (out5_1:List Bs) (i6:Int) (g1:Ob) (sl:Nat→AV) (zq0:sl 0 = .v (.c (.d (.lst l0_0 (enL enSS l0_1))))) (zq1:sl 1 = .v (.c (.d (.sc (.string (S name1)))))) (zq5:sl 5 = .v (.c (.own out5_0 (enL enS out5_1) 0))) (zq6:sl 6 = .v (.c (.d (.sc (.int .i64 i6))))):
  stepE (K36_8 (mm:=mm)) (loopK 0 [(0,.keep),(1,.keep),(5,.own),(6,.keep)] (den (E0 mm) 36 0 (callW (E0 mm)) itW c36_22 none ⟨sl,[.row out5_1.length (rz out5_0 1),g1]⟩)) = (j36_22 l0_0 l0_1 name1 out5_0 out5_1 i6).map (sm en36_8 e36):=by
 simp -implicitDefEqProofs only [j36_22,c36_22_r,(show opsOf c36_22 = _ :: _ from rfl),zq0,zq1,zq5,zq6,setA,setB,za,zb,zc,zd,ze,zf,zg,zh,zi,zj,zk,zl,zm,zn,zo,zp,reduceCtorEq,zE,↓reduceIte]
 all_goals rfl
def j36_22v1 (l0_0:Bool) (l0_1:List (Bs×Bs)) (name1:Bs) (out5_0:Bool) (out5_1:List Bs) (i6:Int):Option ((Bool×List (Bs×Bs)×Bs×Bool×List Bs×Int) ⊕ R36):=
 some (.inl (l0_0,l0_1,name1,out5_0,out5_1,(w64 (i6 + 1))))
theorem j36_22v1_t (l0_0:Bool) (l0_1:List (Bs×Bs)) (name1:Bs) (out5_0:Bool) (out5_1:List Bs) (i6:Int)  (sl:Nat→AV) (zq0:sl 0 = .v (.c (.d (.lst l0_0 (enL enSS l0_1))))) (zq1:sl 1 = .v (.c (.d (.sc (.string (S name1)))))) (zq5:sl 5 = .v (.c (.own out5_0 (enL enS out5_1) 0))) (zq6:sl 6 = .v (.c (.d (.sc (.int .i64 i6))))):
  stepE (K36_8 (mm:=mm)) (loopK 0 [(0,.keep),(1,.keep),(5,.own),(6,.keep)] (den (E0 mm) 36 0 (callW (E0 mm)) itW c36_22 none ⟨sl,[.row out5_1.length (rz out5_0 1)]⟩)) = (j36_22v1 l0_0 l0_1 name1 out5_0 out5_1 i6).map (sm en36_8 e36):=by
 simp -implicitDefEqProofs only [j36_22v1,c36_22_r,(show opsOf c36_22 = _ :: _ from rfl),zq0,zq1,zq5,zq6,setA,setB,za,zb,zc,zd,ze,zf,zg,zh,zi,zj,zk,zl,zm,zn,zo,zp,reduceCtorEq,zE,↓reduceIte]
 all_goals rfl
def j36_23 (out5_0:Bool) (out5_1:List Bs):Option R36:=
 some (out5_0,out5_1)
theorem j36_23_t (out5_0:Bool) (out5_1:List Bs)  (sl:Nat→AV) (zq5:sl 5 = .v (.c (.own out5_0 (enL enS out5_1) 0))):
  bodyD (E0 mm) [.tmp 4] 0 false (den (E0 mm) 36 0 (callW (E0 mm)) itW c36_23 none ⟨sl,[.row out5_1.length (rz out5_0 1)]⟩) = (j36_23 out5_0 out5_1).map e36:=by
 simp -implicitDefEqProofs only [j36_23,c36_23_e,c36_24_r,(show opsOf c36_24 = _ :: _ from rfl),c36_25_e,zq5,setA,setB,za,zb,zc,zd,ze,zf,zg,zh,zi,zj,zk,zl,zm,zn,zo,zp,reduceCtorEq,zE,↓reduceIte]
 all_goals rfl
def s36_8 (l0_0:Bool) (l0_1:List (Bs×Bs)) (name1:Bs) (out5_0:Bool) (out5_1:List Bs) (i6:Int):Option ((Bool×List (Bs×Bs)×Bs×Bool×List Bs×Int) ⊕ R36):=
 if (decide (i6 < (l0_1.length:Int))) = true then
  if 0≤i6∧i6 < (l0_1.length:Int) then
   (m40 ((l0_1.getD i6.toNat default).1) name1).bind fun yr5=>
    if yr5 = true then
     (m59 ((l0_1.getD i6.toNat default).2)).bind fun yr8=>
      if yr8.2 = []∨(out5_1.length + yr8.2.length) * 16≤140737488355328 then
       j36_22 l0_0 l0_1 name1 (out5_0 && yr8.2.isEmpty) (out5_1 ++ yr8.2) i6
      else none
    else
     j36_22v1 l0_0 l0_1 name1 out5_0 out5_1 i6
  else none
 else
  (j36_23 out5_0 out5_1).map .inr
theorem s36_8_t (l0_0:Bool) (l0_1:List (Bs×Bs)) (name1:Bs) (out5_0:Bool) (out5_1:List Bs) (i6:Int):
  stepE (K36_8 (mm:=mm)) (loopF (E0 mm) 36 0 (callW (E0 mm)) itW c36_9 [(0,.keep),(1,.keep),(5,.own),(6,.keep)] (none,[.v (.c (.d (.lst l0_0 (enL enSS l0_1)))),.v (.c (.d (.sc (.string (S name1))))),.v (.c (.own out5_0 (enL enS out5_1) 0)),.v (.c (.d (.sc (.int .i64 i6))))],[.row out5_1.length (rz out5_0 1)])) = (s36_8 l0_0 l0_1 name1 out5_0 out5_1 i6).map (sm en36_8 e36):=by
 simp -implicitDefEqProofs only [s36_8,loopF_eq,c36_9_e,c36_10_e,c36_11_r,(show opsOf c36_11 = _ :: _ from rfl),Tryz.underlying23,(show c36_12 = Code.cond _ c36_13 c36_14 from rfl),setA,setB,za,zb,zc,zd,ze,zf,zg,zh,zi,zj,zk,zl,zm,zn,zo,zp,reduceCtorEq,zE,↓reduceIte]
 refine brB (fun yc1=>?_) (fun yc1=>?_)
 ·simp -implicitDefEqProofs only [c36_13_e,c36_15_e,c36_16_e,c36_17_e,c36_18_r,(show opsOf c36_18 = _ :: _ from rfl),Tryz.underlying23,sz62,enSS_a,yc1,setA,setB,za,zb,zc,zd,ze,zf,zg,zh,zi,zj,zk,zl,zm,zn,zo,zp,reduceCtorEq,zE,↓reduceIte]
  refine brP (fun yc2=>?_) (fun yc2=>?_)
  ·have yd3:i6.toNat < l0_1.length:=by omega
   simp -implicitDefEqProofs only [(enL_get enSS l0_1 i6.toNat yd3),enSS_e,Tryz.underlying62,sz9,ag9,ent40,prm40,f40_t,yc1,yc2,yd3,setA,setB,za,zb,zc,zd,ze,zf,zg,zh,zi,zj,zk,zl,zm,zn,zo,zp,reduceCtorEq,zE,↓reduceIte]
   refine brM (fun yc4=>?_) (fun yr5 yc4=>?_)
   ·rw [yc4]; rfl
   ·simp -implicitDefEqProofs only [e40,(show c36_19 = Code.cond _ c36_20 c36_21 from rfl),yc1,yc2,yd3,yc4,setA,setB,za,zb,zc,zd,ze,zf,zg,zh,zi,zj,zk,zl,zm,zn,zo,zp,reduceCtorEq,zE,↓reduceIte]
    refine brB (fun yc6=>?_) (fun yc6=>?_)
    ·simp -implicitDefEqProofs only [c36_20_r,(show opsOf c36_20 = _ :: _ from rfl),Tryz.underlying23,sz62,enSS_a,(enL_get enSS l0_1 i6.toNat yd3),enSS_e,Tryz.underlying62,sz9,ag9,ent59,prm59,f59_t,yc1,yc2,yd3,yc4,yc6,setA,setB,za,zb,zc,zd,ze,zf,zg,zh,zi,zj,zk,zl,zm,zn,zo,zp,reduceCtorEq,zE,↓reduceIte]
     refine brM (fun yc7=>?_) (fun yr8 yc7=>?_)
     ·rw [yc7]; rfl
     ·simp -implicitDefEqProofs only [e59,Tryz.underlying40,hd66,ap40,yc1,yc2,yd3,yc4,yc6,yc7,setA,setB,za,zb,zc,zd,ze,zf,zg,zh,zi,zj,zk,zl,zm,zn,zo,zp,reduceCtorEq,zE,↓reduceIte]
      refine brP (fun yc9=>?_) (fun yc9=>?_)
      ·simp -implicitDefEqProofs only [yc1,yc2,yd3,yc4,yc6,yc7,yc9,setA,setB,za,zb,zc,zd,ze,zf,zg,zh,zi,zj,zk,zl,zm,zn,zo,zp,reduceCtorEq,zE,↓reduceIte]
       exact j36_22_t l0_0 l0_1 name1 (out5_0 && yr8.2.isEmpty) (out5_1 ++ yr8.2) i6 _ _ (by rfl) (by rfl) (by rfl) (by rfl)
      ·rw [if_neg yc9]; rfl
    ·simp -implicitDefEqProofs only [c36_21_e,yc1,yc2,yd3,yc4,yc6,setA,setB,za,zb,zc,zd,ze,zf,zg,zh,zi,zj,zk,zl,zm,zn,zo,zp,reduceCtorEq,zE,↓reduceIte]
     exact j36_22v1_t l0_0 l0_1 name1 out5_0 out5_1 i6 _ (by rfl) (by rfl) (by rfl) (by rfl)
  ·rw [if_neg yc2]; rfl
 ·simp -implicitDefEqProofs only [c36_14_e,K36_8,yc1,setA,setB,za,zb,zc,zd,ze,zf,zg,zh,zi,zj,zk,zl,zm,zn,zo,zp,reduceCtorEq,zE,↓reduceIte]
  exact mi (j36_23_t out5_0 out5_1 _ (by rfl))
def l36_8 (l0_0:Bool) (l0_1:List (Bs×Bs)) (name1:Bs) (out5_0:Bool) (out5_1:List Bs) (i6:Int):Option R36:=iter (fun x:(Bool×List (Bs×Bs)×Bs×Bool×List Bs×Int)=>s36_8 x.1 x.2.1 x.2.2.1 x.2.2.2.1 x.2.2.2.2.1 x.2.2.2.2.2) (l0_0,l0_1,name1,out5_0,out5_1,i6)
theorem l36_8_t (l0_0:Bool) (l0_1:List (Bs×Bs)) (name1:Bs) (out5_0:Bool) (out5_1:List Bs) (i6:Int):bodyD (E0 mm) [.tmp 4] 0 false (seqD (E0 mm) 36 0 (callW (E0 mm)) itW c36_23 (blockD 0 (itW (loopF (E0 mm) 36 0 (callW (E0 mm)) itW c36_9 [(0,.keep),(1,.keep),(5,.own),(6,.keep)]) (none,[.v (.c (.d (.lst l0_0 (enL enSS l0_1)))),.v (.c (.d (.sc (.string (S name1))))),.v (.c (.own out5_0 (enL enS out5_1) 0)),.v (.c (.d (.sc (.int .i64 i6))))],[.row out5_1.length (rz out5_0 1)])))) = (l36_8 l0_0 l0_1 name1 out5_0 out5_1 i6).map e36:=
 it_sim (K:=(K36_8 (mm:=mm))) rfl (enc:=en36_8) (fun x=>s36_8_t x.1 x.2.1 x.2.2.1 x.2.2.2.1 x.2.2.2.2.1 x.2.2.2.2.2) (l0_0,l0_1,name1,out5_0,out5_1,i6)
def m36 (l_0:Bool) (l_1:List (Bs×Bs)) (name:Bs):Option R36:=
 l36_8 l_0 l_1 name true ([]:List Bs) (0:Int)
theorem f36_t (l_0:Bool) (l_1:List (Bs×Bs)) (name:Bs):
  callW (E0 mm) 36 [.c (.d (.lst l_0 (enL enSS l_1))),.c (.d (.sc (.string (S name))))] [] = (m36 l_0 l_1 name).map e36:=by
 rw [callW_run (body:=c36_0) (res:=[.tmp 4]) Tryz.func36 rfl rfl (by kernel_rfl)]
 simp -implicitDefEqProofs only [m36,slots2,c36_0_e,c36_1_r,(show opsOf c36_1 = _ :: _ from rfl),c36_2_e,c36_3_r,(show opsOf c36_3 = _ :: _ from rfl),c36_4_e,c36_5_e,c36_6_r,(show opsOf c36_6 = _ :: _ from rfl),c36_7_e,c36_8_l,setA,setB,za,zb,zc,zd,ze,zf,zg,zh,zi,zj,zk,zl,zm,zn,zo,zp,reduceCtorEq,zE,↓reduceIte]
 exact l36_8_t l_0 l_1 name true ([]:List Bs) (0:Int)
noncomputable def c60_0:Code:=bodyOf Tryz.f60
def c60_1:=cA c60_0
def c60_2:=cB c60_0
def c60_3:=cA c60_2
def c60_4:=cB c60_2
def c60_5:=cA c60_4
def c60_6:=cA c60_5
def c60_7:=cB c60_5
def c60_8:=cA c60_7
def c60_9:=cA c60_8
def c60_10:=cA c60_9
def c60_11:=cA c60_10
def c60_12:=cB c60_10
def c60_13:=cA c60_12
def c60_14:=cB c60_12
def c60_15:=cB c60_9
def c60_16:=cA c60_15
def c60_17:=cA c60_16
def c60_18:=cA c60_17
def c60_19:=cB c60_17
def c60_20:=cA c60_19
def c60_21:=cB c60_19
def c60_22:=cA c60_21
def c60_23:=cA c60_22
def c60_24:=cB c60_22
def c60_25:=cA c60_24
def c60_26:=cA c60_25
def c60_27:=cA c60_26
def c60_28:=cA c60_27
def c60_29:=cB c60_27
def c60_30:=cA c60_29
def c60_31:=cB c60_29
def c60_32:=cB c60_26
def c60_33:=cA c60_32
def c60_34:=cA c60_33
def c60_35:=cB c60_32
def c60_36:=cB c60_21
def c60_37:=cA c60_36
def c60_38:=cB c60_36
def c60_39:=cA c60_38
def c60_40:=cA c60_39
def c60_41:=cB c60_39
def c60_42:=cB c60_38
def c60_43:=cB c60_15
def c60_44:=cB c60_4
def c60_45:=cA c60_44
def c60_46:=cB c60_44
theorem c60_0_e:c60_0 = .seq c60_1 c60_2:=rfl
theorem c60_1_r:RG (E0 mm) 60 c60_1:=rgN rfl
theorem c60_2_e:c60_2 = .seq c60_3 c60_4:=rfl
theorem c60_3_r:RG (E0 mm) 60 c60_3:=rgN rfl
theorem c60_4_e:c60_4 = .seq c60_5 c60_44:=rfl
theorem c60_5_e:c60_5 = .seq c60_6 c60_7:=rfl
theorem c60_6_r:RG (E0 mm) 60 c60_6:=rgN rfl
theorem c60_7_e:c60_7 = .block 0 c60_8:=rfl
theorem c60_8_l (m:Nat) (st:St):den (E0 mm) 60 m (callW (E0 mm)) itW c60_8 none st = loopD itW (loopF (E0 mm) 60 m (callW (E0 mm)) itW c60_9 [(0,.keep),(3,.keep),(4,.keep)]) (canon m [(0,.keep),(3,.keep),(4,.keep)] st):=rfl
theorem c60_9_e:c60_9 = .seq c60_10 c60_15:=rfl
theorem c60_10_e:c60_10 = .seq c60_11 c60_12:=rfl
theorem c60_11_r:RG (E0 mm) 60 c60_11:=rgN rfl
theorem c60_13_e:c60_13 = .skip:=rfl
theorem c60_14_e:c60_14 = .exit 0:=rfl
theorem c60_15_e:c60_15 = .seq c60_16 c60_43:=rfl
theorem c60_16_e:c60_16 = .block 1 c60_17:=rfl
theorem c60_17_e:c60_17 = .seq c60_18 c60_19:=rfl
theorem c60_18_r:RG (E0 mm) 60 c60_18:=rgN rfl
theorem c60_19_e:c60_19 = .seq c60_20 c60_21:=rfl
theorem c60_20_r:RG (E0 mm) 60 c60_20:=rgN rfl
theorem c60_21_e:c60_21 = .seq c60_22 c60_36:=rfl
theorem c60_22_e:c60_22 = .seq c60_23 c60_24:=rfl
theorem c60_23_r:RG (E0 mm) 60 c60_23:=rgN rfl
theorem c60_24_e:c60_24 = .block 2 c60_25:=rfl
theorem c60_25_l (m:Nat) (st:St):den (E0 mm) 60 m (callW (E0 mm)) itW c60_25 none st = loopD itW (loopF (E0 mm) 60 m (callW (E0 mm)) itW c60_26 [(0,.keep),(3,.keep),(4,.keep),(5,.keep),(6,.keep),(7,.keep)]) (canon m [(0,.keep),(3,.keep),(4,.keep),(5,.keep),(6,.keep),(7,.keep)] st):=rfl
theorem c60_26_e:c60_26 = .seq c60_27 c60_32:=rfl
theorem c60_27_e:c60_27 = .seq c60_28 c60_29:=rfl
theorem c60_28_r:RG (E0 mm) 60 c60_28:=rgN rfl
theorem c60_30_e:c60_30 = .skip:=rfl
theorem c60_31_e:c60_31 = .exit 2:=rfl
theorem c60_32_e:c60_32 = .seq c60_33 c60_35:=rfl
theorem c60_33_e:c60_33 = .block 3 c60_34:=rfl
theorem c60_34_r:RG (E0 mm) 60 c60_34:=rgN rfl
theorem c60_35_r:RG (E0 mm) 60 c60_35:=rgN rfl
theorem c60_36_e:c60_36 = .seq c60_37 c60_38:=rfl
theorem c60_37_r:RG (E0 mm) 60 c60_37:=rgN rfl
theorem c60_39_e:c60_39 = .seq c60_40 c60_41:=rfl
theorem c60_40_r:RG (E0 mm) 60 c60_40:=rgN rfl
theorem c60_41_e:c60_41 = .ret:=rfl
theorem c60_42_e:c60_42 = .skip:=rfl
theorem c60_43_r:RG (E0 mm) 60 c60_43:=rgN rfl
theorem c60_44_e:c60_44 = .seq c60_45 c60_46:=rfl
theorem c60_45_r:RG (E0 mm) 60 c60_45:=rgN rfl
theorem c60_46_e:c60_46 = .ret:=rfl
abbrev R60:=(Bool)
def e60:R60→AV×Heap:=fun x=>(.v (.c (.d (.sc (.bool x)))),[])
def K60_8:Option (Ex×St)→Option (AV×Heap):=fun r=>bodyD (E0 mm) [.tmp 2] 0 false (seqD (E0 mm) 60 0 (callW (E0 mm)) itW c60_44 (blockD 0 (r)))
def en60_8:(Bs×Bs×Int)→X:=fun x=>(none,[.v (.c (.d (.sc (.string (S x.1))))),.v (.c (.d (.sc (.string (S x.2.1))))),.v (.c (.d (.sc (.int .i64 x.2.2))))],[])
def K60_25:Option (Ex×St)→Option (X ⊕ (AV×Heap)):=fun r=>stepE (K60_8 (mm:=mm)) (loopK 0 [(0,.keep),(3,.keep),(4,.keep)] (seqD (E0 mm) 60 0 (callW (E0 mm)) itW c60_43 (blockD 1 (seqD (E0 mm) 60 0 (callW (E0 mm)) itW c60_36 (blockD 2 (r))))))
def en60_25:(Bs×Bs×Int×UInt8×Bool×Int)→X:=fun x=>(none,[.v (.c (.d (.sc (.string (S x.1))))),.v (.c (.d (.sc (.string (S x.2.1))))),.v (.c (.d (.sc (.int .i64 x.2.2.1)))),.v (.c (.d (.sc (.int .u8 ((x.2.2.2.1).toNat:Int))))),.v (.c (.d (.sc (.bool x.2.2.2.2.1)))),.v (.c (.d (.sc (.int .i64 x.2.2.2.2.2))))],[])
def j60_35 (s0 signs3:Bs) (i4:Int) (c5:UInt8) (is6:Bool) (k7:Int):Option ((Bs×Bs×Int×UInt8×Bool×Int) ⊕ ((Bs×Bs×Int) ⊕ R60)):=
 some (.inl (s0,signs3,i4,c5,is6,(w64 (k7 + 1))))
theorem j60_35_t (s0 signs3:Bs) (i4:Int) (c5:UInt8) (is6:Bool) (k7:Int)  (sl:Nat→AV) (zq0:sl 0 = .v (.c (.d (.sc (.string (S s0)))))) (zq3:sl 3 = .v (.c (.d (.sc (.string (S signs3)))))) (zq4:sl 4 = .v (.c (.d (.sc (.int .i64 i4))))) (zq5:sl 5 = .v (.c (.d (.sc (.int .u8 ((c5).toNat:Int)))))) (zq6:sl 6 = .v (.c (.d (.sc (.bool is6))))) (zq7:sl 7 = .v (.c (.d (.sc (.int .i64 k7))))):
  stepE (K60_25 (mm:=mm)) (loopK 0 [(0,.keep),(3,.keep),(4,.keep),(5,.keep),(6,.keep),(7,.keep)] (den (E0 mm) 60 0 (callW (E0 mm)) itW c60_35 none ⟨sl,[]⟩)) = (j60_35 s0 signs3 i4 c5 is6 k7).map (sm en60_25 (sm en60_8 e60)):=by
 simp -implicitDefEqProofs only [j60_35,c60_35_r,(show opsOf c60_35 = _ :: _ from rfl),zq0,zq3,zq4,zq5,zq6,zq7,setA,setB,za,zb,zc,zd,ze,zf,zg,zh,zi,zj,zk,zl,zm,zn,zo,zp,reduceCtorEq,zE,↓reduceIte]
 all_goals rfl
def j60_36 (s0 signs3:Bs) (i4:Int) (is6:Bool):Option ((Bs×Bs×Int) ⊕ R60):=
 if is6 = true then
  some (.inl (s0,signs3,(w64 (i4 + 1))))
 else
  some (.inr false)
theorem j60_36_t (s0 signs3:Bs) (i4:Int) (is6:Bool)  (sl:Nat→AV) (zq0:sl 0 = .v (.c (.d (.sc (.string (S s0)))))) (zq3:sl 3 = .v (.c (.d (.sc (.string (S signs3)))))) (zq4:sl 4 = .v (.c (.d (.sc (.int .i64 i4))))) (zq6:sl 6 = .v (.c (.d (.sc (.bool is6))))):
  stepE (K60_8 (mm:=mm)) (loopK 0 [(0,.keep),(3,.keep),(4,.keep)] (seqD (E0 mm) 60 0 (callW (E0 mm)) itW c60_43 (blockD 1 (den (E0 mm) 60 0 (callW (E0 mm)) itW c60_36 none ⟨sl,[]⟩)))) = (j60_36 s0 signs3 i4 is6).map (sm en60_8 e60):=by
 simp -implicitDefEqProofs only [j60_36,c60_36_e,c60_37_r,(show opsOf c60_37 = _ :: _ from rfl),(show c60_38 = Code.cond _ c60_39 c60_42 from rfl),zq0,zq3,zq4,zq6,setA,setB,za,zb,zc,zd,ze,zf,zg,zh,zi,zj,zk,zl,zm,zn,zo,zp,reduceCtorEq,zE,↓reduceIte]
 refine brB (fun yc8=>?_) (fun yc8=>?_)
 ·simp -implicitDefEqProofs only [c60_42_e,c60_43_r,(show opsOf c60_43 = _ :: _ from rfl),zq0,zq3,zq4,zq6,yc8,setA,setB,za,zb,zc,zd,ze,zf,zg,zh,zi,zj,zk,zl,zm,zn,zo,zp,reduceCtorEq,zE,↓reduceIte]
  all_goals rfl
 ·simp -implicitDefEqProofs only [c60_39_e,c60_40_r,(show opsOf c60_40 = _ :: _ from rfl),c60_41_e,K60_8,zq0,zq3,zq4,zq6,yc8,setA,setB,za,zb,zc,zd,ze,zf,zg,zh,zi,zj,zk,zl,zm,zn,zo,zp,reduceCtorEq,zE,↓reduceIte]
  all_goals rfl
def s60_25 (s0 signs3:Bs) (i4:Int) (c5:UInt8) (is6:Bool) (k7:Int):Option ((Bs×Bs×Int×UInt8×Bool×Int) ⊕ ((Bs×Bs×Int) ⊕ R60)):=
 if (decide (k7 < (signs3.length:Int))) = true then
  if is6 = true then
   j60_35 s0 signs3 i4 c5 true k7
  else
   if 0≤k7∧k7 < (signs3.length:Int) then
    j60_35 s0 signs3 i4 c5 ((signs3.getD k7.toNat 0) == c5) k7
   else none
 else
  (j60_36 s0 signs3 i4 is6).map .inr
theorem s60_25_t (s0 signs3:Bs) (i4:Int) (c5:UInt8) (is6:Bool) (k7:Int):
  stepE (K60_25 (mm:=mm)) (loopF (E0 mm) 60 0 (callW (E0 mm)) itW c60_26 [(0,.keep),(3,.keep),(4,.keep),(5,.keep),(6,.keep),(7,.keep)] (none,[.v (.c (.d (.sc (.string (S s0))))),.v (.c (.d (.sc (.string (S signs3))))),.v (.c (.d (.sc (.int .i64 i4)))),.v (.c (.d (.sc (.int .u8 ((c5).toNat:Int))))),.v (.c (.d (.sc (.bool is6)))),.v (.c (.d (.sc (.int .i64 k7))))],[])) = (s60_25 s0 signs3 i4 c5 is6 k7).map (sm en60_25 (sm en60_8 e60)):=by
 simp -implicitDefEqProofs only [s60_25,loopF_eq,c60_26_e,c60_27_e,c60_28_r,(show opsOf c60_28 = _ :: _ from rfl),Tryz.underlying9,(show c60_29 = Code.cond _ c60_30 c60_31 from rfl),setA,setB,za,zb,zc,zd,ze,zf,zg,zh,zi,zj,zk,zl,zm,zn,zo,zp,reduceCtorEq,zE,↓reduceIte]
 refine brB (fun yc5=>?_) (fun yc5=>?_)
 ·simp -implicitDefEqProofs only [c60_30_e,c60_32_e,c60_33_e,c60_34_r,(show opsOf c60_34 = _ :: _ from rfl),yc5,setA,setB,za,zb,zc,zd,ze,zf,zg,zh,zi,zj,zk,zl,zm,zn,zo,zp,reduceCtorEq,zE,↓reduceIte]
  refine brB (fun yc6=>?_) (fun yc6=>?_)
  ·simp -implicitDefEqProofs only [yc5,yc6,setA,setB,za,zb,zc,zd,ze,zf,zg,zh,zi,zj,zk,zl,zm,zn,zo,zp,reduceCtorEq,zE,↓reduceIte]
   exact j60_35_t s0 signs3 i4 c5 true k7 _ (by rfl) (by rfl) (by rfl) (by rfl) (by rfl) (by rfl)
  ·simp -implicitDefEqProofs only [Tryz.underlying9,yc5,yc6,setA,setB,za,zb,zc,zd,ze,zf,zg,zh,zi,zj,zk,zl,zm,zn,zo,zp,reduceCtorEq,zE,↓reduceIte]
   refine brP (fun yc7=>?_) (fun yc7=>?_)
   ·simp -implicitDefEqProofs only [yc5,yc6,yc7,setA,setB,za,zb,zc,zd,ze,zf,zg,zh,zi,zj,zk,zl,zm,zn,zo,zp,reduceCtorEq,zE,↓reduceIte]
    exact j60_35_t s0 signs3 i4 c5 ((signs3.getD k7.toNat 0) == c5) k7 _ (by rfl) (by rfl) (by rfl) (by rfl) (by rfl) (by rfl)
   ·rw [if_neg yc7]; rfl
 ·simp -implicitDefEqProofs only [c60_31_e,K60_25,yc5,setA,setB,za,zb,zc,zd,ze,zf,zg,zh,zi,zj,zk,zl,zm,zn,zo,zp,reduceCtorEq,zE,↓reduceIte]
  exact mi (j60_36_t s0 signs3 i4 is6 _ (by rfl) (by rfl) (by rfl) (by rfl))
def l60_25 (s0 signs3:Bs) (i4:Int) (c5:UInt8) (is6:Bool) (k7:Int):Option ((Bs×Bs×Int) ⊕ R60):=iter (fun x:(Bs×Bs×Int×UInt8×Bool×Int)=>s60_25 x.1 x.2.1 x.2.2.1 x.2.2.2.1 x.2.2.2.2.1 x.2.2.2.2.2) (s0,signs3,i4,c5,is6,k7)
theorem l60_25_t (s0 signs3:Bs) (i4:Int) (c5:UInt8) (is6:Bool) (k7:Int):stepE (K60_8 (mm:=mm)) (loopK 0 [(0,.keep),(3,.keep),(4,.keep)] (seqD (E0 mm) 60 0 (callW (E0 mm)) itW c60_43 (blockD 1 (seqD (E0 mm) 60 0 (callW (E0 mm)) itW c60_36 (blockD 2 (itW (loopF (E0 mm) 60 0 (callW (E0 mm)) itW c60_26 [(0,.keep),(3,.keep),(4,.keep),(5,.keep),(6,.keep),(7,.keep)]) (none,[.v (.c (.d (.sc (.string (S s0))))),.v (.c (.d (.sc (.string (S signs3))))),.v (.c (.d (.sc (.int .i64 i4)))),.v (.c (.d (.sc (.int .u8 ((c5).toNat:Int))))),.v (.c (.d (.sc (.bool is6)))),.v (.c (.d (.sc (.int .i64 k7))))],[]))))))) = (l60_25 s0 signs3 i4 c5 is6 k7).map (sm en60_8 e60):=
 it_sim (K:=(K60_25 (mm:=mm))) rfl (enc:=en60_25) (fun x=>s60_25_t x.1 x.2.1 x.2.2.1 x.2.2.2.1 x.2.2.2.2.1 x.2.2.2.2.2) (s0,signs3,i4,c5,is6,k7)
def j60_21 (s0 signs3:Bs) (i4:Int) (c5:UInt8) (is6:Bool):Option ((Bs×Bs×Int) ⊕ R60):=
 l60_25 s0 signs3 i4 c5 is6 (0:Int)
theorem j60_21_t (s0 signs3:Bs) (i4:Int) (c5:UInt8) (is6:Bool)  (sl:Nat→AV) (zq0:sl 0 = .v (.c (.d (.sc (.string (S s0)))))) (zq3:sl 3 = .v (.c (.d (.sc (.string (S signs3)))))) (zq4:sl 4 = .v (.c (.d (.sc (.int .i64 i4))))) (zq5:sl 5 = .v (.c (.d (.sc (.int .u8 ((c5).toNat:Int)))))) (zq6:sl 6 = .v (.c (.d (.sc (.bool is6))))):
  stepE (K60_8 (mm:=mm)) (loopK 0 [(0,.keep),(3,.keep),(4,.keep)] (seqD (E0 mm) 60 0 (callW (E0 mm)) itW c60_43 (blockD 1 (den (E0 mm) 60 0 (callW (E0 mm)) itW c60_21 none ⟨sl,[]⟩)))) = (j60_21 s0 signs3 i4 c5 is6).map (sm en60_8 e60):=by
 simp -implicitDefEqProofs only [j60_21,c60_21_e,c60_22_e,c60_23_r,(show opsOf c60_23 = _ :: _ from rfl),c60_24_e,c60_25_l,zq0,zq3,zq4,zq5,zq6,setA,setB,za,zb,zc,zd,ze,zf,zg,zh,zi,zj,zk,zl,zm,zn,zo,zp,reduceCtorEq,zE,↓reduceIte]
 exact l60_25_t s0 signs3 i4 c5 is6 (0:Int)
def j60_44 (s0:Bs):Option R60:=
 some (decide (0 < (s0.length:Int)))
theorem j60_44_t (s0:Bs)  (sl:Nat→AV) (zq0:sl 0 = .v (.c (.d (.sc (.string (S s0)))))):
  bodyD (E0 mm) [.tmp 2] 0 false (den (E0 mm) 60 0 (callW (E0 mm)) itW c60_44 none ⟨sl,[]⟩) = (j60_44 s0).map e60:=by
 simp -implicitDefEqProofs only [j60_44,c60_44_e,c60_45_r,(show opsOf c60_45 = _ :: _ from rfl),Tryz.underlying9,c60_46_e,zq0,setA,setB,za,zb,zc,zd,ze,zf,zg,zh,zi,zj,zk,zl,zm,zn,zo,zp,reduceCtorEq,zE,↓reduceIte]
 all_goals rfl
def s60_8 (s0 signs3:Bs) (i4:Int):Option ((Bs×Bs×Int) ⊕ R60):=
 if (decide (i4 < (s0.length:Int))) = true then
  if 0≤i4∧i4 < (s0.length:Int) then
   if (decide ((97:UInt8)≤(s0.getD i4.toNat 0))) = true then
    if (decide ((s0.getD i4.toNat 0)≤(122:UInt8))) = true then
     j60_21 s0 signs3 i4 (s0.getD i4.toNat 0) true
    else
     if (decide ((65:UInt8)≤(s0.getD i4.toNat 0))) = true then
      if (decide ((s0.getD i4.toNat 0)≤(90:UInt8))) = true then
       j60_21 s0 signs3 i4 (s0.getD i4.toNat 0) true
      else
       if (decide ((48:UInt8)≤(s0.getD i4.toNat 0))) = true then
        j60_21 s0 signs3 i4 (s0.getD i4.toNat 0) (decide ((s0.getD i4.toNat 0)≤(57:UInt8)))
       else
        j60_21 s0 signs3 i4 (s0.getD i4.toNat 0) false
     else
      if (decide ((48:UInt8)≤(s0.getD i4.toNat 0))) = true then
       j60_21 s0 signs3 i4 (s0.getD i4.toNat 0) (decide ((s0.getD i4.toNat 0)≤(57:UInt8)))
      else
       j60_21 s0 signs3 i4 (s0.getD i4.toNat 0) false
   else
    if (decide ((65:UInt8)≤(s0.getD i4.toNat 0))) = true then
     if (decide ((s0.getD i4.toNat 0)≤(90:UInt8))) = true then
      j60_21 s0 signs3 i4 (s0.getD i4.toNat 0) true
     else
      if (decide ((48:UInt8)≤(s0.getD i4.toNat 0))) = true then
       j60_21 s0 signs3 i4 (s0.getD i4.toNat 0) (decide ((s0.getD i4.toNat 0)≤(57:UInt8)))
      else
       j60_21 s0 signs3 i4 (s0.getD i4.toNat 0) false
    else
     if (decide ((48:UInt8)≤(s0.getD i4.toNat 0))) = true then
      j60_21 s0 signs3 i4 (s0.getD i4.toNat 0) (decide ((s0.getD i4.toNat 0)≤(57:UInt8)))
     else
      j60_21 s0 signs3 i4 (s0.getD i4.toNat 0) false
  else none
 else
  (j60_44 s0).map .inr
theorem s60_8_t (s0 signs3:Bs) (i4:Int):
  stepE (K60_8 (mm:=mm)) (loopF (E0 mm) 60 0 (callW (E0 mm)) itW c60_9 [(0,.keep),(3,.keep),(4,.keep)] (none,[.v (.c (.d (.sc (.string (S s0))))),.v (.c (.d (.sc (.string (S signs3))))),.v (.c (.d (.sc (.int .i64 i4))))],[])) = (s60_8 s0 signs3 i4).map (sm en60_8 e60):=by
 simp -implicitDefEqProofs only [s60_8,loopF_eq,c60_9_e,c60_10_e,c60_11_r,(show opsOf c60_11 = _ :: _ from rfl),Tryz.underlying9,(show c60_12 = Code.cond _ c60_13 c60_14 from rfl),setA,setB,za,zb,zc,zd,ze,zf,zg,zh,zi,zj,zk,zl,zm,zn,zo,zp,reduceCtorEq,zE,↓reduceIte]
 refine brB (fun yc1=>?_) (fun yc1=>?_)
 ·simp -implicitDefEqProofs only [c60_13_e,c60_15_e,c60_16_e,c60_17_e,c60_18_r,(show opsOf c60_18 = _ :: _ from rfl),Tryz.underlying9,yc1,setA,setB,za,zb,zc,zd,ze,zf,zg,zh,zi,zj,zk,zl,zm,zn,zo,zp,reduceCtorEq,zE,↓reduceIte]
  refine brP (fun yc2=>?_) (fun yc2=>?_)
  ·simp -implicitDefEqProofs only [c60_19_e,c60_20_r,(show opsOf c60_20 = _ :: _ from rfl),yc1,yc2,setA,setB,za,zb,zc,zd,ze,zf,zg,zh,zi,zj,zk,zl,zm,zn,zo,zp,reduceCtorEq,zE,↓reduceIte]
   refine brB (fun yc3=>?_) (fun yc3=>?_)
   ·simp -implicitDefEqProofs only [yc1,yc2,yc3,setA,setB,za,zb,zc,zd,ze,zf,zg,zh,zi,zj,zk,zl,zm,zn,zo,zp,reduceCtorEq,zE,↓reduceIte]
    refine brB (fun yc4=>?_) (fun yc4=>?_)
    ·simp -implicitDefEqProofs only [yc1,yc2,yc3,yc4,setA,setB,za,zb,zc,zd,ze,zf,zg,zh,zi,zj,zk,zl,zm,zn,zo,zp,reduceCtorEq,zE,↓reduceIte]
     exact j60_21_t s0 signs3 i4 (s0.getD i4.toNat 0) true _ (by rfl) (by rfl) (by rfl) (by rfl) (by rfl)
    ·simp -implicitDefEqProofs only [yc1,yc2,yc3,yc4,setA,setB,za,zb,zc,zd,ze,zf,zg,zh,zi,zj,zk,zl,zm,zn,zo,zp,reduceCtorEq,zE,↓reduceIte]
     refine brB (fun yc9=>?_) (fun yc9=>?_)
     ·simp -implicitDefEqProofs only [yc1,yc2,yc3,yc4,yc9,setA,setB,za,zb,zc,zd,ze,zf,zg,zh,zi,zj,zk,zl,zm,zn,zo,zp,reduceCtorEq,zE,↓reduceIte]
      refine brB (fun yc10=>?_) (fun yc10=>?_)
      ·simp -implicitDefEqProofs only [yc1,yc2,yc3,yc4,yc9,yc10,setA,setB,za,zb,zc,zd,ze,zf,zg,zh,zi,zj,zk,zl,zm,zn,zo,zp,reduceCtorEq,zE,↓reduceIte]
       exact j60_21_t s0 signs3 i4 (s0.getD i4.toNat 0) true _ (by rfl) (by rfl) (by rfl) (by rfl) (by rfl)
      ·simp -implicitDefEqProofs only [yc1,yc2,yc3,yc4,yc9,yc10,setA,setB,za,zb,zc,zd,ze,zf,zg,zh,zi,zj,zk,zl,zm,zn,zo,zp,reduceCtorEq,zE,↓reduceIte]
       refine brB (fun yc11=>?_) (fun yc11=>?_)
       ·simp -implicitDefEqProofs only [yc1,yc2,yc3,yc4,yc9,yc10,yc11,setA,setB,za,zb,zc,zd,ze,zf,zg,zh,zi,zj,zk,zl,zm,zn,zo,zp,reduceCtorEq,zE,↓reduceIte]
        exact j60_21_t s0 signs3 i4 (s0.getD i4.toNat 0) (decide ((s0.getD i4.toNat 0)≤(57:UInt8))) _ (by rfl) (by rfl) (by rfl) (by rfl) (by rfl)
       ·simp -implicitDefEqProofs only [yc1,yc2,yc3,yc4,yc9,yc10,yc11,setA,setB,za,zb,zc,zd,ze,zf,zg,zh,zi,zj,zk,zl,zm,zn,zo,zp,reduceCtorEq,zE,↓reduceIte]
        exact j60_21_t s0 signs3 i4 (s0.getD i4.toNat 0) false _ (by rfl) (by rfl) (by rfl) (by rfl) (by rfl)
     ·simp -implicitDefEqProofs only [yc1,yc2,yc3,yc4,yc9,setA,setB,za,zb,zc,zd,ze,zf,zg,zh,zi,zj,zk,zl,zm,zn,zo,zp,reduceCtorEq,zE,↓reduceIte]
      refine brB (fun yc12=>?_) (fun yc12=>?_)
      ·simp -implicitDefEqProofs only [yc1,yc2,yc3,yc4,yc9,yc12,setA,setB,za,zb,zc,zd,ze,zf,zg,zh,zi,zj,zk,zl,zm,zn,zo,zp,reduceCtorEq,zE,↓reduceIte]
       exact j60_21_t s0 signs3 i4 (s0.getD i4.toNat 0) (decide ((s0.getD i4.toNat 0)≤(57:UInt8))) _ (by rfl) (by rfl) (by rfl) (by rfl) (by rfl)
      ·simp -implicitDefEqProofs only [yc1,yc2,yc3,yc4,yc9,yc12,setA,setB,za,zb,zc,zd,ze,zf,zg,zh,zi,zj,zk,zl,zm,zn,zo,zp,reduceCtorEq,zE,↓reduceIte]
       exact j60_21_t s0 signs3 i4 (s0.getD i4.toNat 0) false _ (by rfl) (by rfl) (by rfl) (by rfl) (by rfl)
   ·simp -implicitDefEqProofs only [yc1,yc2,yc3,setA,setB,za,zb,zc,zd,ze,zf,zg,zh,zi,zj,zk,zl,zm,zn,zo,zp,reduceCtorEq,zE,↓reduceIte]
    refine brB (fun yc13=>?_) (fun yc13=>?_)
    ·simp -implicitDefEqProofs only [yc1,yc2,yc3,yc13,setA,setB,za,zb,zc,zd,ze,zf,zg,zh,zi,zj,zk,zl,zm,zn,zo,zp,reduceCtorEq,zE,↓reduceIte]
     refine brB (fun yc14=>?_) (fun yc14=>?_)
     ·simp -implicitDefEqProofs only [yc1,yc2,yc3,yc13,yc14,setA,setB,za,zb,zc,zd,ze,zf,zg,zh,zi,zj,zk,zl,zm,zn,zo,zp,reduceCtorEq,zE,↓reduceIte]
      exact j60_21_t s0 signs3 i4 (s0.getD i4.toNat 0) true _ (by rfl) (by rfl) (by rfl) (by rfl) (by rfl)
     ·simp -implicitDefEqProofs only [yc1,yc2,yc3,yc13,yc14,setA,setB,za,zb,zc,zd,ze,zf,zg,zh,zi,zj,zk,zl,zm,zn,zo,zp,reduceCtorEq,zE,↓reduceIte]
      refine brB (fun yc15=>?_) (fun yc15=>?_)
      ·simp -implicitDefEqProofs only [yc1,yc2,yc3,yc13,yc14,yc15,setA,setB,za,zb,zc,zd,ze,zf,zg,zh,zi,zj,zk,zl,zm,zn,zo,zp,reduceCtorEq,zE,↓reduceIte]
       exact j60_21_t s0 signs3 i4 (s0.getD i4.toNat 0) (decide ((s0.getD i4.toNat 0)≤(57:UInt8))) _ (by rfl) (by rfl) (by rfl) (by rfl) (by rfl)
      ·simp -implicitDefEqProofs only [yc1,yc2,yc3,yc13,yc14,yc15,setA,setB,za,zb,zc,zd,ze,zf,zg,zh,zi,zj,zk,zl,zm,zn,zo,zp,reduceCtorEq,zE,↓reduceIte]
       exact j60_21_t s0 signs3 i4 (s0.getD i4.toNat 0) false _ (by rfl) (by rfl) (by rfl) (by rfl) (by rfl)
    ·simp -implicitDefEqProofs only [yc1,yc2,yc3,yc13,setA,setB,za,zb,zc,zd,ze,zf,zg,zh,zi,zj,zk,zl,zm,zn,zo,zp,reduceCtorEq,zE,↓reduceIte]
     refine brB (fun yc16=>?_) (fun yc16=>?_)
     ·simp -implicitDefEqProofs only [yc1,yc2,yc3,yc13,yc16,setA,setB,za,zb,zc,zd,ze,zf,zg,zh,zi,zj,zk,zl,zm,zn,zo,zp,reduceCtorEq,zE,↓reduceIte]
      exact j60_21_t s0 signs3 i4 (s0.getD i4.toNat 0) (decide ((s0.getD i4.toNat 0)≤(57:UInt8))) _ (by rfl) (by rfl) (by rfl) (by rfl) (by rfl)
     ·simp -implicitDefEqProofs only [yc1,yc2,yc3,yc13,yc16,setA,setB,za,zb,zc,zd,ze,zf,zg,zh,zi,zj,zk,zl,zm,zn,zo,zp,reduceCtorEq,zE,↓reduceIte]
      exact j60_21_t s0 signs3 i4 (s0.getD i4.toNat 0) false _ (by rfl) (by rfl) (by rfl) (by rfl) (by rfl)
  ·rw [if_neg yc2]; rfl
 ·simp -implicitDefEqProofs only [c60_14_e,K60_8,yc1,setA,setB,za,zb,zc,zd,ze,zf,zg,zh,zi,zj,zk,zl,zm,zn,zo,zp,reduceCtorEq,zE,↓reduceIte]
  exact mi (j60_44_t s0 _ (by rfl))
def l60_8 (s0 signs3:Bs) (i4:Int):Option R60:=iter (fun x:(Bs×Bs×Int)=>s60_8 x.1 x.2.1 x.2.2) (s0,signs3,i4)
theorem l60_8_t (s0 signs3:Bs) (i4:Int):bodyD (E0 mm) [.tmp 2] 0 false (seqD (E0 mm) 60 0 (callW (E0 mm)) itW c60_44 (blockD 0 (itW (loopF (E0 mm) 60 0 (callW (E0 mm)) itW c60_9 [(0,.keep),(3,.keep),(4,.keep)]) (none,[.v (.c (.d (.sc (.string (S s0))))),.v (.c (.d (.sc (.string (S signs3))))),.v (.c (.d (.sc (.int .i64 i4))))],[])))) = (l60_8 s0 signs3 i4).map e60:=
 it_sim (K:=(K60_8 (mm:=mm))) rfl (enc:=en60_8) (fun x=>s60_8_t x.1 x.2.1 x.2.2) (s0,signs3,i4)
def m60 (s:Bs):Option R60:=
 l60_8 s ([33,35,36,37,38,39,42,43,45,46,94,95,96,124,126]:Bs) (0:Int)
theorem f60_t (s:Bs):
  callW (E0 mm) 60 [.c (.d (.sc (.string (S s))))] [] = (m60 s).map e60:=by
 rw [callW_run (body:=c60_0) (res:=[.tmp 2]) Tryz.func60 rfl rfl (by kernel_rfl)]
 simp -implicitDefEqProofs only [m60,slots1,c60_0_e,c60_1_r,(show opsOf c60_1 = _ :: _ from rfl),c60_2_e,c60_3_r,(show opsOf c60_3 = _ :: _ from rfl),c60_4_e,c60_5_e,c60_6_r,(show opsOf c60_6 = _ :: _ from rfl),c60_7_e,c60_8_l,setA,setB,za,zb,zc,zd,ze,zf,zg,zh,zi,zj,zk,zl,zm,zn,zo,zp,reduceCtorEq,zE,↓reduceIte]
 exact l60_8_t s ([33,35,36,37,38,39,42,43,45,46,94,95,96,124,126]:Bs) (0:Int)
noncomputable def c76_0:Code:=bodyOf Tryz.f76
def c76_1:=cA c76_0
def c76_2:=cB c76_0
def c76_3:=cA c76_2
def c76_4:=cB c76_2
theorem c76_0_e:c76_0 = .seq c76_1 c76_2:=rfl
theorem c76_1_r:RG (E0 mm) 76 c76_1:=rgN rfl
theorem c76_2_e:c76_2 = .seq c76_3 c76_4:=rfl
theorem c76_3_r:RG (E0 mm) 76 c76_3:=rgN rfl
theorem c76_4_e:c76_4 = .ret:=rfl
abbrev R76:=(Bool)
def e76:R76→AV×Heap:=fun x=>(.v (.c (.d (.sc (.bool x)))),[])
def m76 (c:UInt8):Option R76:=
 if (c == (9:UInt8)) = true then
  some true
 else
  if (decide ((32:UInt8)≤c)) = true then
   if (decide (c≤(126:UInt8))) = true then
    some true
   else
    some (decide ((128:UInt8)≤c))
  else
   some (decide ((128:UInt8)≤c))
theorem f76_t (c:UInt8):
  callW (E0 mm) 76 [.c (.d (.sc (.int .u8 ((c).toNat:Int))))] [] = (m76 c).map e76:=by
 rw [callW_run (body:=c76_0) (res:=[.tmp 2]) Tryz.func76 rfl rfl (by kernel_rfl)]
 simp -implicitDefEqProofs only [m76,slots1,c76_0_e,c76_1_r,(show opsOf c76_1 = _ :: _ from rfl),c76_2_e,c76_3_r,(show opsOf c76_3 = _ :: _ from rfl),setA,setB,za,zb,zc,zd,ze,zf,zg,zh,zi,zj,zk,zl,zm,zn,zo,zp,reduceCtorEq,zE,↓reduceIte]
 refine brB (fun yc1=>?_) (fun yc1=>?_)
 ·simp -implicitDefEqProofs only [c76_4_e,yc1,setA,setB,za,zb,zc,zd,ze,zf,zg,zh,zi,zj,zk,zl,zm,zn,zo,zp,reduceCtorEq,zE,↓reduceIte]
  all_goals rfl
 ·simp -implicitDefEqProofs only [yc1,setA,setB,za,zb,zc,zd,ze,zf,zg,zh,zi,zj,zk,zl,zm,zn,zo,zp,reduceCtorEq,zE,↓reduceIte]
  refine brB (fun yc2=>?_) (fun yc2=>?_)
  ·simp -implicitDefEqProofs only [yc1,yc2,setA,setB,za,zb,zc,zd,ze,zf,zg,zh,zi,zj,zk,zl,zm,zn,zo,zp,reduceCtorEq,zE,↓reduceIte]
   refine brB (fun yc3=>?_) (fun yc3=>?_)
   ·simp -implicitDefEqProofs only [c76_4_e,yc1,yc2,yc3,setA,setB,za,zb,zc,zd,ze,zf,zg,zh,zi,zj,zk,zl,zm,zn,zo,zp,reduceCtorEq,zE,↓reduceIte]
    all_goals rfl
   ·simp -implicitDefEqProofs only [c76_4_e,yc1,yc2,yc3,setA,setB,za,zb,zc,zd,ze,zf,zg,zh,zi,zj,zk,zl,zm,zn,zo,zp,reduceCtorEq,zE,↓reduceIte]
    all_goals rfl
  ·simp -implicitDefEqProofs only [c76_4_e,yc1,yc2,setA,setB,za,zb,zc,zd,ze,zf,zg,zh,zi,zj,zk,zl,zm,zn,zo,zp,reduceCtorEq,zE,↓reduceIte]
   all_goals rfl
noncomputable def c62_0:Code:=bodyOf Tryz.f62
def c62_1:=cA c62_0
def c62_2:=cB c62_0
def c62_3:=cA c62_2
def c62_4:=cA c62_3
def c62_5:=cB c62_3
def c62_6:=cA c62_5
def c62_7:=cA c62_6
def c62_8:=cB c62_6
def c62_9:=cB c62_5
def c62_10:=cB c62_2
def c62_11:=cA c62_10
def c62_12:=cB c62_10
def c62_13:=cA c62_12
def c62_14:=cB c62_12
def c62_15:=cA c62_14
def c62_16:=cA c62_15
def c62_17:=cA c62_16
def c62_18:=cA c62_17
def c62_19:=cA c62_18
def c62_20:=cB c62_18
def c62_21:=cA c62_20
def c62_22:=cB c62_20
def c62_23:=cB c62_17
def c62_24:=cA c62_23
def c62_25:=cA c62_24
def c62_26:=cA c62_25
def c62_27:=cB c62_25
def c62_28:=cA c62_27
def c62_29:=cB c62_27
def c62_30:=cB c62_24
def c62_31:=cA c62_30
def c62_32:=cA c62_31
def c62_33:=cB c62_31
def c62_34:=cA c62_33
def c62_35:=cA c62_34
def c62_36:=cB c62_34
def c62_37:=cB c62_33
def c62_38:=cB c62_30
def c62_39:=cA c62_38
def c62_40:=cB c62_38
def c62_41:=cB c62_14
def c62_42:=cA c62_41
def c62_43:=cA c62_42
def c62_44:=cB c62_42
def c62_45:=cA c62_44
def c62_46:=cA c62_45
def c62_47:=cB c62_45
def c62_48:=cB c62_44
def c62_49:=cB c62_41
def c62_50:=cA c62_49
def c62_51:=cB c62_49
theorem c62_0_e:c62_0 = .seq c62_1 c62_2:=rfl
theorem c62_1_r:RG (E0 mm) 62 c62_1:=rgN rfl
theorem c62_2_e:c62_2 = .seq c62_3 c62_10:=rfl
theorem c62_3_e:c62_3 = .seq c62_4 c62_5:=rfl
theorem c62_4_r:RG (E0 mm) 62 c62_4:=rgN rfl
theorem c62_6_e:c62_6 = .seq c62_7 c62_8:=rfl
theorem c62_7_r:RG (E0 mm) 62 c62_7:=rgN rfl
theorem c62_8_e:c62_8 = .ret:=rfl
theorem c62_9_e:c62_9 = .skip:=rfl
theorem c62_10_e:c62_10 = .seq c62_11 c62_12:=rfl
theorem c62_11_r:RG (E0 mm) 62 c62_11:=rgN rfl
theorem c62_12_e:c62_12 = .seq c62_13 c62_14:=rfl
theorem c62_13_r:RG (E0 mm) 62 c62_13:=rgN rfl
theorem c62_14_e:c62_14 = .seq c62_15 c62_41:=rfl
theorem c62_15_e:c62_15 = .block 0 c62_16:=rfl
theorem c62_16_l (m:Nat) (st:St):den (E0 mm) 62 m (callW (E0 mm)) itW c62_16 none st = loopD itW (loopF (E0 mm) 62 m (callW (E0 mm)) itW c62_17 [(0,.keep),(4,.own),(5,.keep)]) (canon m [(0,.keep),(4,.own),(5,.keep)] st):=rfl
theorem c62_17_e:c62_17 = .seq c62_18 c62_23:=rfl
theorem c62_18_e:c62_18 = .seq c62_19 c62_20:=rfl
theorem c62_19_r:RG (E0 mm) 62 c62_19:=rgN rfl
theorem c62_21_e:c62_21 = .skip:=rfl
theorem c62_22_e:c62_22 = .exit 0:=rfl
theorem c62_23_e:c62_23 = .block 1 c62_24:=rfl
theorem c62_24_e:c62_24 = .seq c62_25 c62_30:=rfl
theorem c62_25_e:c62_25 = .seq c62_26 c62_27:=rfl
theorem c62_26_r:RG (E0 mm) 62 c62_26:=rgN rfl
theorem c62_28_r:RG (E0 mm) 62 c62_28:=rgN rfl
theorem c62_29_e:c62_29 = .skip:=rfl
theorem c62_30_e:c62_30 = .seq c62_31 c62_38:=rfl
theorem c62_31_e:c62_31 = .seq c62_32 c62_33:=rfl
theorem c62_32_r:RG (E0 mm) 62 c62_32:=rgN rfl
theorem c62_34_e:c62_34 = .seq c62_35 c62_36:=rfl
theorem c62_35_r:RG (E0 mm) 62 c62_35:=rgN rfl
theorem c62_36_e:c62_36 = .ret:=rfl
theorem c62_37_e:c62_37 = .skip:=rfl
theorem c62_38_e:c62_38 = .seq c62_39 c62_40:=rfl
theorem c62_39_r:RG (E0 mm) 62 c62_39:=rgN rfl
theorem c62_40_r:RG (E0 mm) 62 c62_40:=rgN rfl
theorem c62_41_e:c62_41 = .seq c62_42 c62_49:=rfl
theorem c62_42_e:c62_42 = .seq c62_43 c62_44:=rfl
theorem c62_43_r:RG (E0 mm) 62 c62_43:=rgN rfl
theorem c62_45_e:c62_45 = .seq c62_46 c62_47:=rfl
theorem c62_46_r:RG (E0 mm) 62 c62_46:=rgN rfl
theorem c62_47_e:c62_47 = .ret:=rfl
theorem c62_48_e:c62_48 = .skip:=rfl
theorem c62_49_e:c62_49 = .seq c62_50 c62_51:=rfl
theorem c62_50_r:RG (E0 mm) 62 c62_50:=rgN rfl
theorem c62_51_e:c62_51 = .ret:=rfl
abbrev R62:=(Bs×Bool)
def e62:R62→AV×Heap:=fun x=>(.tup [.c (.d (.sc (.string (S x.1)))),.c (.d (.sc (.bool x.2)))],[])
def K62_16:Option (Ex×St)→Option (AV×Heap):=fun r=>bodyD (E0 mm) [.tmp 2,.tmp 3] 0 false (seqD (E0 mm) 62 0 (callW (E0 mm)) itW c62_41 (blockD 0 (r)))
def en62_16:(Bs×Bool×List UInt8×Int)→X:=fun x=>(none,[.v (.c (.d (.sc (.string (S x.1))))),.v (.c (.own x.2.1 (enL enB x.2.2.1) 0)),.v (.c (.d (.sc (.int .i64 x.2.2.2))))],[.row x.2.2.1.length (rz x.2.1 1)])
def j62_33 (s0:Bs) (b4_0:Bool) (b4_1:List UInt8) (at5:Int) (t40:Bool):Option ((Bs×Bool×List UInt8×Int) ⊕ R62):=
 if t40 = true then
  some (.inr (([]:Bs),false))
 else
  if 0≤at5∧at5 < (s0.length:Int) then
   if (b4_1.length + 1) * 1≤140737488355328 then
    some (.inl (s0,false,(b4_1 ++ ([(s0.getD at5.toNat 0)]:List UInt8)),(w64 (at5 + 1))))
   else none
  else none
theorem j62_33_t (s0:Bs) (b4_0:Bool) (b4_1:List UInt8) (at5:Int) (t40:Bool)  (sl:Nat→AV) (zq0:sl 0 = .v (.c (.d (.sc (.string (S s0)))))) (zq4:sl 4 = .v (.c (.own b4_0 (enL enB b4_1) 0))) (zq5:sl 5 = .v (.c (.d (.sc (.int .i64 at5))))) (zq40:sl 40 = .v (.c (.d (.sc (.bool t40))))):
  stepE (K62_16 (mm:=mm)) (loopK 0 [(0,.keep),(4,.own),(5,.keep)] (blockD 1 (seqD (E0 mm) 62 0 (callW (E0 mm)) itW c62_38 (den (E0 mm) 62 0 (callW (E0 mm)) itW c62_33 none ⟨sl,[.row b4_1.length (rz b4_0 1)]⟩)))) = (j62_33 s0 b4_0 b4_1 at5 t40).map (sm en62_16 e62):=by
 simp -implicitDefEqProofs only [j62_33,(show c62_33 = Code.cond _ c62_34 c62_37 from rfl),zq0,zq4,zq5,zq40,setA,setB,za,zb,zc,zd,ze,zf,zg,zh,zi,zj,zk,zl,zm,zn,zo,zp,reduceCtorEq,zE,↓reduceIte]
 refine brB (fun yc9=>?_) (fun yc9=>?_)
 ·simp -implicitDefEqProofs only [c62_34_e,c62_35_r,(show opsOf c62_35 = _ :: _ from rfl),c62_36_e,K62_16,zq0,zq4,zq5,zq40,yc9,setA,setB,za,zb,zc,zd,ze,zf,zg,zh,zi,zj,zk,zl,zm,zn,zo,zp,reduceCtorEq,zE,↓reduceIte]
  all_goals rfl
 ·simp -implicitDefEqProofs only [c62_37_e,c62_38_e,c62_39_r,(show opsOf c62_39 = _ :: _ from rfl),Tryz.underlying9,zq0,zq4,zq5,zq40,yc9,setA,setB,za,zb,zc,zd,ze,zf,zg,zh,zi,zj,zk,zl,zm,zn,zo,zp,reduceCtorEq,zE,↓reduceIte]
  refine brP (fun yc10=>?_) (fun yc10=>?_)
  ·simp -implicitDefEqProofs only [Tryz.underlying24,sz5,zc5,hd67,nv68,rw69,ns16,ap24,zq0,zq4,zq5,zq40,yc9,yc10,setA,setB,za,zb,zc,zd,ze,zf,zg,zh,zi,zj,zk,zl,zm,zn,zo,zp,reduceCtorEq,zE,↓reduceIte]
   refine brP (fun yc11=>?_) (fun yc11=>?_)
   ·simp -implicitDefEqProofs only [c62_40_r,(show opsOf c62_40 = _ :: _ from rfl),zq0,zq4,zq5,zq40,yc9,yc10,yc11,setA,setB,za,zb,zc,zd,ze,zf,zg,zh,zi,zj,zk,zl,zm,zn,zo,zp,reduceCtorEq,zE,↓reduceIte]
    all_goals rfl
   ·rw [if_neg yc11]; rfl
  ·rw [if_neg yc10]; rfl
def j62_30 (s0:Bs) (b4_0:Bool) (b4_1:List UInt8) (at5:Int):Option ((Bs×Bool×List UInt8×Int) ⊕ R62):=
 if (decide ((s0.length:Int)≤at5)) = true then
  j62_33 s0 b4_0 b4_1 at5 true
 else
  if 0≤at5∧at5 < (s0.length:Int) then
   (m76 (s0.getD at5.toNat 0)).bind fun yr14=>
    j62_33 s0 b4_0 b4_1 at5 (!yr14)
  else none
theorem j62_30_t (s0:Bs) (b4_0:Bool) (b4_1:List UInt8) (at5:Int)  (sl:Nat→AV) (zq0:sl 0 = .v (.c (.d (.sc (.string (S s0)))))) (zq4:sl 4 = .v (.c (.own b4_0 (enL enB b4_1) 0))) (zq5:sl 5 = .v (.c (.d (.sc (.int .i64 at5))))):
  stepE (K62_16 (mm:=mm)) (loopK 0 [(0,.keep),(4,.own),(5,.keep)] (blockD 1 (den (E0 mm) 62 0 (callW (E0 mm)) itW c62_30 none ⟨sl,[.row b4_1.length (rz b4_0 1)]⟩))) = (j62_30 s0 b4_0 b4_1 at5).map (sm en62_16 e62):=by
 simp -implicitDefEqProofs only [j62_30,c62_30_e,c62_31_e,c62_32_r,(show opsOf c62_32 = _ :: _ from rfl),Tryz.underlying9,zq0,zq4,zq5,setA,setB,za,zb,zc,zd,ze,zf,zg,zh,zi,zj,zk,zl,zm,zn,zo,zp,reduceCtorEq,zE,↓reduceIte]
 refine brB (fun yc8=>?_) (fun yc8=>?_)
 ·simp -implicitDefEqProofs only [zq0,zq4,zq5,yc8,setA,setB,za,zb,zc,zd,ze,zf,zg,zh,zi,zj,zk,zl,zm,zn,zo,zp,reduceCtorEq,zE,↓reduceIte]
  exact j62_33_t s0 b4_0 b4_1 at5 true _ (by exact zq0) (by exact zq4) (by exact zq5) (by rfl)
 ·simp -implicitDefEqProofs only [Tryz.underlying9,zq0,zq4,zq5,yc8,setA,setB,za,zb,zc,zd,ze,zf,zg,zh,zi,zj,zk,zl,zm,zn,zo,zp,reduceCtorEq,zE,↓reduceIte]
  refine brP (fun yc12=>?_) (fun yc12=>?_)
  ·simp -implicitDefEqProofs only [ent76,prm76,f76_t,zq0,zq4,zq5,yc8,yc12,setA,setB,za,zb,zc,zd,ze,zf,zg,zh,zi,zj,zk,zl,zm,zn,zo,zp,reduceCtorEq,zE,↓reduceIte]
   refine brM (fun yc13=>?_) (fun yr14 yc13=>?_)
   ·rw [yc13]; rfl
   ·simp -implicitDefEqProofs only [e76,zq0,zq4,zq5,yc8,yc12,yc13,setA,setB,za,zb,zc,zd,ze,zf,zg,zh,zi,zj,zk,zl,zm,zn,zo,zp,reduceCtorEq,zE,↓reduceIte]
    exact j62_33_t s0 b4_0 b4_1 at5 (!yr14) _ (by exact zq0) (by exact zq4) (by exact zq5) (by rfl)
  ·rw [if_neg yc12]; rfl
def j62_41 (s0:Bs) (b4_0:Bool) (b4_1:List UInt8) (at5:Int):Option R62:=
 if (at5 == (w64 ((s0.length:Int) - 1))) = true then
  some (b4_1,true)
 else
  some (([]:Bs),false)
theorem j62_41_t (s0:Bs) (b4_0:Bool) (b4_1:List UInt8) (at5:Int)  (sl:Nat→AV) (zq0:sl 0 = .v (.c (.d (.sc (.string (S s0)))))) (zq4:sl 4 = .v (.c (.own b4_0 (enL enB b4_1) 0))) (zq5:sl 5 = .v (.c (.d (.sc (.int .i64 at5))))):
  bodyD (E0 mm) [.tmp 2,.tmp 3] 0 false (den (E0 mm) 62 0 (callW (E0 mm)) itW c62_41 none ⟨sl,[.row b4_1.length (rz b4_0 1)]⟩) = (j62_41 s0 b4_0 b4_1 at5).map e62:=by
 simp -implicitDefEqProofs only [j62_41,c62_41_e,c62_42_e,c62_43_r,(show opsOf c62_43 = _ :: _ from rfl),Tryz.underlying9,(show c62_44 = Code.cond _ c62_45 c62_48 from rfl),zq0,zq4,zq5,setA,setB,za,zb,zc,zd,ze,zf,zg,zh,zi,zj,zk,zl,zm,zn,zo,zp,reduceCtorEq,zE,↓reduceIte]
 refine brB (fun yc15=>?_) (fun yc15=>?_)
 ·simp -implicitDefEqProofs only [c62_48_e,c62_49_e,c62_50_r,(show opsOf c62_50 = _ :: _ from rfl),Tryz.underlying24,Tryz.underlying9,Tryz.underlying5,c62_51_e,zq0,zq4,zq5,yc15,setA,setB,za,zb,zc,zd,ze,zf,zg,zh,zi,zj,zk,zl,zm,zn,zo,zp,reduceCtorEq,zE,↓reduceIte]
  all_goals rfl
 ·simp -implicitDefEqProofs only [c62_45_e,c62_46_r,(show opsOf c62_46 = _ :: _ from rfl),c62_47_e,zq0,zq4,zq5,yc15,setA,setB,za,zb,zc,zd,ze,zf,zg,zh,zi,zj,zk,zl,zm,zn,zo,zp,reduceCtorEq,zE,↓reduceIte]
  all_goals rfl
def j62_20 (s0:Bs) (b4_0:Bool) (b4_1:List UInt8) (at5:Int) (t23:Bool):Option ((Bs×Bool×List UInt8×Int) ⊕ R62):=
 if t23 = true then
  if 0≤at5∧at5 < (s0.length:Int) then
   if ((s0.getD at5.toNat 0) == (92:UInt8)) = true then
    j62_30 s0 b4_0 b4_1 (w64 (at5 + 1))
   else
    j62_30 s0 b4_0 b4_1 at5
  else none
 else
  (j62_41 s0 b4_0 b4_1 at5).map .inr
theorem j62_20_t (s0:Bs) (b4_0:Bool) (b4_1:List UInt8) (at5:Int) (t23:Bool)  (sl:Nat→AV) (zq0:sl 0 = .v (.c (.d (.sc (.string (S s0)))))) (zq4:sl 4 = .v (.c (.own b4_0 (enL enB b4_1) 0))) (zq5:sl 5 = .v (.c (.d (.sc (.int .i64 at5))))) (zq23:sl 23 = .v (.c (.d (.sc (.bool t23))))):
  stepE (K62_16 (mm:=mm)) (loopK 0 [(0,.keep),(4,.own),(5,.keep)] (seqD (E0 mm) 62 0 (callW (E0 mm)) itW c62_23 (den (E0 mm) 62 0 (callW (E0 mm)) itW c62_20 none ⟨sl,[.row b4_1.length (rz b4_0 1)]⟩))) = (j62_20 s0 b4_0 b4_1 at5 t23).map (sm en62_16 e62):=by
 simp -implicitDefEqProofs only [j62_20,(show c62_20 = Code.cond _ c62_21 c62_22 from rfl),zq0,zq4,zq5,zq23,setA,setB,za,zb,zc,zd,ze,zf,zg,zh,zi,zj,zk,zl,zm,zn,zo,zp,reduceCtorEq,zE,↓reduceIte]
 refine brB (fun yc5=>?_) (fun yc5=>?_)
 ·simp -implicitDefEqProofs only [c62_21_e,c62_23_e,c62_24_e,c62_25_e,c62_26_r,(show opsOf c62_26 = _ :: _ from rfl),Tryz.underlying9,zq0,zq4,zq5,zq23,yc5,setA,setB,za,zb,zc,zd,ze,zf,zg,zh,zi,zj,zk,zl,zm,zn,zo,zp,reduceCtorEq,zE,↓reduceIte]
  refine brP (fun yc6=>?_) (fun yc6=>?_)
  ·simp -implicitDefEqProofs only [(show c62_27 = Code.cond _ c62_28 c62_29 from rfl),zq0,zq4,zq5,zq23,yc5,yc6,setA,setB,za,zb,zc,zd,ze,zf,zg,zh,zi,zj,zk,zl,zm,zn,zo,zp,reduceCtorEq,zE,↓reduceIte]
   refine brB (fun yc7=>?_) (fun yc7=>?_)
   ·simp -implicitDefEqProofs only [c62_28_r,(show opsOf c62_28 = _ :: _ from rfl),zq0,zq4,zq5,zq23,yc5,yc6,yc7,setA,setB,za,zb,zc,zd,ze,zf,zg,zh,zi,zj,zk,zl,zm,zn,zo,zp,reduceCtorEq,zE,↓reduceIte]
    exact j62_30_t s0 b4_0 b4_1 (w64 (at5 + 1)) _ (by exact zq0) (by exact zq4) (by rfl)
   ·simp -implicitDefEqProofs only [c62_29_e,zq0,zq4,zq5,zq23,yc5,yc6,yc7,setA,setB,za,zb,zc,zd,ze,zf,zg,zh,zi,zj,zk,zl,zm,zn,zo,zp,reduceCtorEq,zE,↓reduceIte]
    exact j62_30_t s0 b4_0 b4_1 at5 _ (by exact zq0) (by exact zq4) (by exact zq5)
  ·rw [if_neg yc6]; rfl
 ·simp -implicitDefEqProofs only [c62_22_e,K62_16,zq0,zq4,zq5,zq23,yc5,setA,setB,za,zb,zc,zd,ze,zf,zg,zh,zi,zj,zk,zl,zm,zn,zo,zp,reduceCtorEq,zE,↓reduceIte]
  exact mi (j62_41_t s0 b4_0 b4_1 at5 _ (by exact zq0) (by exact zq4) (by exact zq5))
def s62_16 (s0:Bs) (b4_0:Bool) (b4_1:List UInt8) (at5:Int):Option ((Bs×Bool×List UInt8×Int) ⊕ R62):=
 if (decide (at5 < (s0.length:Int))) = true then
  if 0≤at5∧at5 < (s0.length:Int) then
   j62_20 s0 b4_0 b4_1 at5 (!((s0.getD at5.toNat 0) == (34:UInt8)))
  else none
 else
  j62_20 s0 b4_0 b4_1 at5 false
theorem s62_16_t (s0:Bs) (b4_0:Bool) (b4_1:List UInt8) (at5:Int):
  stepE (K62_16 (mm:=mm)) (loopF (E0 mm) 62 0 (callW (E0 mm)) itW c62_17 [(0,.keep),(4,.own),(5,.keep)] (none,[.v (.c (.d (.sc (.string (S s0))))),.v (.c (.own b4_0 (enL enB b4_1) 0)),.v (.c (.d (.sc (.int .i64 at5))))],[.row b4_1.length (rz b4_0 1)])) = (s62_16 s0 b4_0 b4_1 at5).map (sm en62_16 e62):=by
 simp -implicitDefEqProofs only [s62_16,loopF_eq,c62_17_e,c62_18_e,c62_19_r,(show opsOf c62_19 = _ :: _ from rfl),Tryz.underlying9,setA,setB,za,zb,zc,zd,ze,zf,zg,zh,zi,zj,zk,zl,zm,zn,zo,zp,reduceCtorEq,zE,↓reduceIte]
 refine brB (fun yc3=>?_) (fun yc3=>?_)
 ·simp -implicitDefEqProofs only [Tryz.underlying9,yc3,setA,setB,za,zb,zc,zd,ze,zf,zg,zh,zi,zj,zk,zl,zm,zn,zo,zp,reduceCtorEq,zE,↓reduceIte]
  refine brP (fun yc4=>?_) (fun yc4=>?_)
  ·simp -implicitDefEqProofs only [yc3,yc4,setA,setB,za,zb,zc,zd,ze,zf,zg,zh,zi,zj,zk,zl,zm,zn,zo,zp,reduceCtorEq,zE,↓reduceIte]
   exact j62_20_t s0 b4_0 b4_1 at5 (!((s0.getD at5.toNat 0) == (34:UInt8))) _ (by rfl) (by rfl) (by rfl) (by rfl)
  ·rw [if_neg yc4]; rfl
 ·simp -implicitDefEqProofs only [yc3,setA,setB,za,zb,zc,zd,ze,zf,zg,zh,zi,zj,zk,zl,zm,zn,zo,zp,reduceCtorEq,zE,↓reduceIte]
  exact j62_20_t s0 b4_0 b4_1 at5 false _ (by rfl) (by rfl) (by rfl) (by rfl)
def l62_16 (s0:Bs) (b4_0:Bool) (b4_1:List UInt8) (at5:Int):Option R62:=iter (fun x:(Bs×Bool×List UInt8×Int)=>s62_16 x.1 x.2.1 x.2.2.1 x.2.2.2) (s0,b4_0,b4_1,at5)
theorem l62_16_t (s0:Bs) (b4_0:Bool) (b4_1:List UInt8) (at5:Int):bodyD (E0 mm) [.tmp 2,.tmp 3] 0 false (seqD (E0 mm) 62 0 (callW (E0 mm)) itW c62_41 (blockD 0 (itW (loopF (E0 mm) 62 0 (callW (E0 mm)) itW c62_17 [(0,.keep),(4,.own),(5,.keep)]) (none,[.v (.c (.d (.sc (.string (S s0))))),.v (.c (.own b4_0 (enL enB b4_1) 0)),.v (.c (.d (.sc (.int .i64 at5))))],[.row b4_1.length (rz b4_0 1)])))) = (l62_16 s0 b4_0 b4_1 at5).map e62:=
 it_sim (K:=(K62_16 (mm:=mm))) rfl (enc:=en62_16) (fun x=>s62_16_t x.1 x.2.1 x.2.2.1 x.2.2.2) (s0,b4_0,b4_1,at5)
def j62_5 (s0:Bs) (t13:Bool):Option R62:=
 if t13 = true then
  some (([]:Bs),false)
 else
  l62_16 s0 true ([]:List UInt8) (1:Int)
theorem j62_5_t (s0:Bs) (t13:Bool)  (sl:Nat→AV) (zq0:sl 0 = .v (.c (.d (.sc (.string (S s0)))))) (zq13:sl 13 = .v (.c (.d (.sc (.bool t13))))):
  bodyD (E0 mm) [.tmp 2,.tmp 3] 0 false (seqD (E0 mm) 62 0 (callW (E0 mm)) itW c62_10 (den (E0 mm) 62 0 (callW (E0 mm)) itW c62_5 none ⟨sl,[]⟩)) = (j62_5 s0 t13).map e62:=by
 simp -implicitDefEqProofs only [j62_5,(show c62_5 = Code.cond _ c62_6 c62_9 from rfl),zq0,zq13,setA,setB,za,zb,zc,zd,ze,zf,zg,zh,zi,zj,zk,zl,zm,zn,zo,zp,reduceCtorEq,zE,↓reduceIte]
 refine brB (fun yc2=>?_) (fun yc2=>?_)
 ·simp -implicitDefEqProofs only [c62_6_e,c62_7_r,(show opsOf c62_7 = _ :: _ from rfl),c62_8_e,zq0,zq13,yc2,setA,setB,za,zb,zc,zd,ze,zf,zg,zh,zi,zj,zk,zl,zm,zn,zo,zp,reduceCtorEq,zE,↓reduceIte]
  all_goals rfl
 ·simp -implicitDefEqProofs only [c62_9_e,c62_10_e,c62_11_r,(show opsOf c62_11 = _ :: _ from rfl),c62_12_e,c62_13_r,(show opsOf c62_13 = _ :: _ from rfl),c62_14_e,c62_15_e,c62_16_l,zq0,zq13,yc2,setA,setB,za,zb,zc,zd,ze,zf,zg,zh,zi,zj,zk,zl,zm,zn,zo,zp,reduceCtorEq,zE,↓reduceIte]
  exact l62_16_t s0 true ([]:List UInt8) (1:Int)
def m62 (s:Bs):Option R62:=
 if ((s.length:Int) == 0) = true then
  j62_5 s true
 else
  if (0:Int) < (s.length:Int) then
   j62_5 s (!((s.getD 0 0) == (34:UInt8)))
  else none
theorem f62_t (s:Bs):
  callW (E0 mm) 62 [.c (.d (.sc (.string (S s))))] [] = (m62 s).map e62:=by
 rw [callW_run (body:=c62_0) (res:=[.tmp 2,.tmp 3]) Tryz.func62 rfl rfl (by kernel_rfl)]
 simp -implicitDefEqProofs only [m62,slots1,c62_0_e,c62_1_r,(show opsOf c62_1 = _ :: _ from rfl),c62_2_e,c62_3_e,c62_4_r,(show opsOf c62_4 = _ :: _ from rfl),Tryz.underlying9,setA,setB,za,zb,zc,zd,ze,zf,zg,zh,zi,zj,zk,zl,zm,zn,zo,zp,reduceCtorEq,zE,↓reduceIte]
 refine brB (fun yc1=>?_) (fun yc1=>?_)
 ·simp -implicitDefEqProofs only [yc1,setA,setB,za,zb,zc,zd,ze,zf,zg,zh,zi,zj,zk,zl,zm,zn,zo,zp,reduceCtorEq,zE,↓reduceIte]
  exact j62_5_t s true _ (by rfl) (by rfl)
 ·simp -implicitDefEqProofs only [Tryz.underlying9,yc1,setA,setB,za,zb,zc,zd,ze,zf,zg,zh,zi,zj,zk,zl,zm,zn,zo,zp,reduceCtorEq,zE,↓reduceIte]
  refine brP (fun yc16=>?_) (fun yc16=>?_)
  ·simp -implicitDefEqProofs only [yc1,yc16,setA,setB,za,zb,zc,zd,ze,zf,zg,zh,zi,zj,zk,zl,zm,zn,zo,zp,reduceCtorEq,zE,↓reduceIte]
   exact j62_5_t s (!((s.getD 0 0) == (34:UInt8))) _ (by rfl) (by rfl)
  ·rw [if_neg yc16]; rfl
noncomputable def c37_0:Code:=bodyOf Tryz.f37
def c37_1:=cA c37_0
def c37_2:=cB c37_0
def c37_3:=cA c37_2
def c37_4:=cB c37_2
def c37_5:=cA c37_4
def c37_6:=cA c37_5
def c37_7:=cA c37_6
def c37_8:=cA c37_7
def c37_9:=cA c37_8
def c37_10:=cB c37_8
def c37_11:=cA c37_10
def c37_12:=cB c37_10
def c37_13:=cB c37_7
def c37_14:=cA c37_13
def c37_15:=cB c37_4
def c37_16:=cA c37_15
def c37_17:=cA c37_16
def c37_18:=cB c37_16
def c37_19:=cA c37_18
def c37_20:=cA c37_19
def c37_21:=cB c37_19
def c37_22:=cB c37_18
def c37_23:=cB c37_15
def c37_24:=cA c37_23
def c37_25:=cA c37_24
def c37_26:=cB c37_24
def c37_27:=cA c37_26
def c37_28:=cA c37_27
def c37_29:=cB c37_27
def c37_30:=cB c37_26
def c37_31:=cB c37_23
def c37_32:=cA c37_31
def c37_33:=cB c37_31
def c37_34:=cA c37_33
def c37_35:=cA c37_34
def c37_36:=cB c37_34
def c37_37:=cA c37_36
def c37_38:=cA c37_37
def c37_39:=cB c37_37
def c37_40:=cB c37_36
def c37_41:=cB c37_33
def c37_42:=cA c37_41
def c37_43:=cB c37_41
def c37_44:=cA c37_43
def c37_45:=cA c37_44
def c37_46:=cB c37_44
def c37_47:=cA c37_46
def c37_48:=cA c37_47
def c37_49:=cB c37_47
def c37_50:=cB c37_46
def c37_51:=cB c37_43
def c37_52:=cA c37_51
def c37_53:=cB c37_51
theorem c37_0_e:c37_0 = .seq c37_1 c37_2:=rfl
theorem c37_1_r:RG (E0 mm) 37 c37_1:=rgN rfl
theorem c37_2_e:c37_2 = .seq c37_3 c37_4:=rfl
theorem c37_3_r:RG (E0 mm) 37 c37_3:=rgN rfl
theorem c37_4_e:c37_4 = .seq c37_5 c37_15:=rfl
theorem c37_5_e:c37_5 = .block 0 c37_6:=rfl
theorem c37_6_l (m:Nat) (st:St):den (E0 mm) 37 m (callW (E0 mm)) itW c37_6 none st = loopD itW (loopF (E0 mm) 37 m (callW (E0 mm)) itW c37_7 [(0,.keep),(5,.keep)]) (canon m [(0,.keep),(5,.keep)] st):=rfl
theorem c37_7_e:c37_7 = .seq c37_8 c37_13:=rfl
theorem c37_8_e:c37_8 = .seq c37_9 c37_10:=rfl
theorem c37_9_r:RG (E0 mm) 37 c37_9:=rgN rfl
theorem c37_11_e:c37_11 = .skip:=rfl
theorem c37_12_e:c37_12 = .exit 0:=rfl
theorem c37_13_e:c37_13 = .block 1 c37_14:=rfl
theorem c37_14_r:RG (E0 mm) 37 c37_14:=rgN rfl
theorem c37_15_e:c37_15 = .seq c37_16 c37_23:=rfl
theorem c37_16_e:c37_16 = .seq c37_17 c37_18:=rfl
theorem c37_17_r:RG (E0 mm) 37 c37_17:=rgN rfl
theorem c37_19_e:c37_19 = .seq c37_20 c37_21:=rfl
theorem c37_20_r:RG (E0 mm) 37 c37_20:=rgN rfl
theorem c37_21_e:c37_21 = .ret:=rfl
theorem c37_22_e:c37_22 = .skip:=rfl
theorem c37_23_e:c37_23 = .seq c37_24 c37_31:=rfl
theorem c37_24_e:c37_24 = .seq c37_25 c37_26:=rfl
theorem c37_25_r:RG (E0 mm) 37 c37_25:=rgN rfl
theorem c37_27_e:c37_27 = .seq c37_28 c37_29:=rfl
theorem c37_28_r:RG (E0 mm) 37 c37_28:=rgN rfl
theorem c37_29_e:c37_29 = .ret:=rfl
theorem c37_30_e:c37_30 = .skip:=rfl
theorem c37_31_e:c37_31 = .seq c37_32 c37_33:=rfl
theorem c37_32_r:RG (E0 mm) 37 c37_32:=rgN rfl
theorem c37_33_e:c37_33 = .seq c37_34 c37_41:=rfl
theorem c37_34_e:c37_34 = .seq c37_35 c37_36:=rfl
theorem c37_35_r:RG (E0 mm) 37 c37_35:=rgN rfl
theorem c37_37_e:c37_37 = .seq c37_38 c37_39:=rfl
theorem c37_38_r:RG (E0 mm) 37 c37_38:=rgN rfl
theorem c37_39_e:c37_39 = .ret:=rfl
theorem c37_40_e:c37_40 = .skip:=rfl
theorem c37_41_e:c37_41 = .seq c37_42 c37_43:=rfl
theorem c37_42_r:RG (E0 mm) 37 c37_42:=rgN rfl
theorem c37_43_e:c37_43 = .seq c37_44 c37_51:=rfl
theorem c37_44_e:c37_44 = .seq c37_45 c37_46:=rfl
theorem c37_45_r:RG (E0 mm) 37 c37_45:=rgN rfl
theorem c37_47_e:c37_47 = .seq c37_48 c37_49:=rfl
theorem c37_48_r:RG (E0 mm) 37 c37_48:=rgN rfl
theorem c37_49_e:c37_49 = .ret:=rfl
theorem c37_50_e:c37_50 = .skip:=rfl
theorem c37_51_e:c37_51 = .seq c37_52 c37_53:=rfl
theorem c37_52_r:RG (E0 mm) 37 c37_52:=rgN rfl
theorem c37_53_e:c37_53 = .ret:=rfl
abbrev R37:=(Bs×Bs×Bool)
def e37:R37→AV×Heap:=fun x=>(.tup [.c (.d (.sc (.string (S x.1)))),.c (.d (.sc (.string (S x.2.1)))),.c (.d (.sc (.bool x.2.2)))],[])
def K37_6:Option (Ex×St)→Option (AV×Heap):=fun r=>bodyD (E0 mm) [.tmp 2,.tmp 3,.tmp 4] 0 false (seqD (E0 mm) 37 0 (callW (E0 mm)) itW c37_15 (blockD 0 (r)))
def en37_6:(Bs×Int)→X:=fun x=>(none,[.v (.c (.d (.sc (.string (S x.1))))),.v (.c (.d (.sc (.int .i64 x.2))))],[])
def j37_15 (s0:Bs) (n5:Int):Option R37:=
 (bnd n5 s0.length).bind fun yk5=>
  (m60 (s0.take yk5)).bind fun yr7=>
   if yr7 = true then
    if (n5 == (s0.length:Int)) = true then
     (m61 s0).bind fun yr11=>
      some (yr11,([]:Bs),true)
    else
     (bnd (w64 (n5 + 1)) s0.length).bind fun yk13=>
      (m60 (s0.drop yk13)).bind fun yr15=>
       if yr15 = true then
        (m61 (s0.take yk5)).bind fun yr18=>
         some (yr18,(s0.drop yk13),true)
       else
        (m62 (s0.drop yk13)).bind fun yr20=>
         if yr20.2 = true then
          (m61 (s0.take yk5)).bind fun yr23=>
           some (yr23,yr20.1,true)
         else
          some (([]:Bs),([]:Bs),false)
   else
    some (([]:Bs),([]:Bs),false)
theorem j37_15_t (s0:Bs) (n5:Int)  (sl:Nat→AV) (zq0:sl 0 = .v (.c (.d (.sc (.string (S s0)))))) (zq5:sl 5 = .v (.c (.d (.sc (.int .i64 n5))))):
  bodyD (E0 mm) [.tmp 2,.tmp 3,.tmp 4] 0 false (den (E0 mm) 37 0 (callW (E0 mm)) itW c37_15 none ⟨sl,[]⟩) = (j37_15 s0 n5).map e37:=by
 simp -implicitDefEqProofs only [j37_15,c37_15_e,c37_16_e,c37_17_r,(show opsOf c37_17 = _ :: _ from rfl),Tryz.underlying9,zq0,zq5,setA,setB,za,zb,zc,zd,ze,zf,zg,zh,zi,zj,zk,zl,zm,zn,zo,zp,reduceCtorEq,zE,↓reduceIte]
 refine brM (fun yc4=>?_) (fun yk5 yc4=>?_)
 ·rw [yc4]; rfl
 ·simp -implicitDefEqProofs only [ent60,prm60,f60_t,zq0,zq5,yc4,setA,setB,za,zb,zc,zd,ze,zf,zg,zh,zi,zj,zk,zl,zm,zn,zo,zp,reduceCtorEq,zE,↓reduceIte]
  refine brM (fun yc6=>?_) (fun yr7 yc6=>?_)
  ·rw [yc6]; rfl
  ·simp -implicitDefEqProofs only [e60,(show c37_18 = Code.cond _ c37_19 c37_22 from rfl),zq0,zq5,yc4,yc6,setA,setB,za,zb,zc,zd,ze,zf,zg,zh,zi,zj,zk,zl,zm,zn,zo,zp,reduceCtorEq,zE,↓reduceIte]
   refine brB (fun yc8=>?_) (fun yc8=>?_)
   ·simp -implicitDefEqProofs only [c37_22_e,c37_23_e,c37_24_e,c37_25_r,(show opsOf c37_25 = _ :: _ from rfl),Tryz.underlying9,(show c37_26 = Code.cond _ c37_27 c37_30 from rfl),zq0,zq5,yc4,yc6,yc8,setA,setB,za,zb,zc,zd,ze,zf,zg,zh,zi,zj,zk,zl,zm,zn,zo,zp,reduceCtorEq,zE,↓reduceIte]
    refine brB (fun yc9=>?_) (fun yc9=>?_)
    ·simp -implicitDefEqProofs only [c37_27_e,c37_28_r,(show opsOf c37_28 = _ :: _ from rfl),ent61,prm61,f61_t,zq0,zq5,yc4,yc6,yc8,yc9,setA,setB,za,zb,zc,zd,ze,zf,zg,zh,zi,zj,zk,zl,zm,zn,zo,zp,reduceCtorEq,zE,↓reduceIte]
     refine brM (fun yc10=>?_) (fun yr11 yc10=>?_)
     ·rw [yc10]; rfl
     ·simp -implicitDefEqProofs only [e61,c37_29_e,zq0,zq5,yc4,yc6,yc8,yc9,yc10,setA,setB,za,zb,zc,zd,ze,zf,zg,zh,zi,zj,zk,zl,zm,zn,zo,zp,reduceCtorEq,zE,↓reduceIte]
      all_goals rfl
    ·simp -implicitDefEqProofs only [c37_30_e,c37_31_e,c37_32_r,(show opsOf c37_32 = _ :: _ from rfl),Tryz.underlying9,zq0,zq5,yc4,yc6,yc8,yc9,setA,setB,za,zb,zc,zd,ze,zf,zg,zh,zi,zj,zk,zl,zm,zn,zo,zp,reduceCtorEq,zE,↓reduceIte]
     refine brM (fun yc12=>?_) (fun yk13 yc12=>?_)
     ·rw [yc12]; rfl
     ·simp -implicitDefEqProofs only [c37_33_e,c37_34_e,c37_35_r,(show opsOf c37_35 = _ :: _ from rfl),ent60,prm60,f60_t,zq0,zq5,yc4,yc6,yc8,yc9,yc12,setA,setB,za,zb,zc,zd,ze,zf,zg,zh,zi,zj,zk,zl,zm,zn,zo,zp,reduceCtorEq,zE,↓reduceIte]
      refine brM (fun yc14=>?_) (fun yr15 yc14=>?_)
      ·rw [yc14]; rfl
      ·simp -implicitDefEqProofs only [e60,(show c37_36 = Code.cond _ c37_37 c37_40 from rfl),zq0,zq5,yc4,yc6,yc8,yc9,yc12,yc14,setA,setB,za,zb,zc,zd,ze,zf,zg,zh,zi,zj,zk,zl,zm,zn,zo,zp,reduceCtorEq,zE,↓reduceIte]
       refine brB (fun yc16=>?_) (fun yc16=>?_)
       ·simp -implicitDefEqProofs only [c37_37_e,c37_38_r,(show opsOf c37_38 = _ :: _ from rfl),Tryz.underlying9,ent61,prm61,f61_t,zq0,zq5,yc4,yc6,yc8,yc9,yc12,yc14,yc16,setA,setB,za,zb,zc,zd,ze,zf,zg,zh,zi,zj,zk,zl,zm,zn,zo,zp,reduceCtorEq,zE,↓reduceIte]
        refine brM (fun yc17=>?_) (fun yr18 yc17=>?_)
        ·rw [yc17]; rfl
        ·simp -implicitDefEqProofs only [e61,c37_39_e,zq0,zq5,yc4,yc6,yc8,yc9,yc12,yc14,yc16,yc17,setA,setB,za,zb,zc,zd,ze,zf,zg,zh,zi,zj,zk,zl,zm,zn,zo,zp,reduceCtorEq,zE,↓reduceIte]
         all_goals rfl
       ·simp -implicitDefEqProofs only [c37_40_e,c37_41_e,c37_42_r,(show opsOf c37_42 = _ :: _ from rfl),ent62,prm62,f62_t,zq0,zq5,yc4,yc6,yc8,yc9,yc12,yc14,yc16,setA,setB,za,zb,zc,zd,ze,zf,zg,zh,zi,zj,zk,zl,zm,zn,zo,zp,reduceCtorEq,zE,↓reduceIte]
        refine brM (fun yc19=>?_) (fun yr20 yc19=>?_)
        ·rw [yc19]; rfl
        ·simp -implicitDefEqProofs only [e62,c37_43_e,c37_44_e,c37_45_r,(show opsOf c37_45 = _ :: _ from rfl),(show c37_46 = Code.cond _ c37_47 c37_50 from rfl),zq0,zq5,yc4,yc6,yc8,yc9,yc12,yc14,yc16,yc19,setA,setB,za,zb,zc,zd,ze,zf,zg,zh,zi,zj,zk,zl,zm,zn,zo,zp,reduceCtorEq,zE,↓reduceIte]
         refine brB (fun yc21=>?_) (fun yc21=>?_)
         ·simp -implicitDefEqProofs only [c37_50_e,c37_51_e,c37_52_r,(show opsOf c37_52 = _ :: _ from rfl),Tryz.underlying9,ent61,prm61,f61_t,zq0,zq5,yc4,yc6,yc8,yc9,yc12,yc14,yc16,yc19,yc21,setA,setB,za,zb,zc,zd,ze,zf,zg,zh,zi,zj,zk,zl,zm,zn,zo,zp,reduceCtorEq,zE,↓reduceIte]
          refine brM (fun yc22=>?_) (fun yr23 yc22=>?_)
          ·rw [yc22]; rfl
          ·simp -implicitDefEqProofs only [e61,c37_53_e,zq0,zq5,yc4,yc6,yc8,yc9,yc12,yc14,yc16,yc19,yc21,yc22,setA,setB,za,zb,zc,zd,ze,zf,zg,zh,zi,zj,zk,zl,zm,zn,zo,zp,reduceCtorEq,zE,↓reduceIte]
           all_goals rfl
         ·simp -implicitDefEqProofs only [c37_47_e,c37_48_r,(show opsOf c37_48 = _ :: _ from rfl),c37_49_e,zq0,zq5,yc4,yc6,yc8,yc9,yc12,yc14,yc16,yc19,yc21,setA,setB,za,zb,zc,zd,ze,zf,zg,zh,zi,zj,zk,zl,zm,zn,zo,zp,reduceCtorEq,zE,↓reduceIte]
          all_goals rfl
   ·simp -implicitDefEqProofs only [c37_19_e,c37_20_r,(show opsOf c37_20 = _ :: _ from rfl),c37_21_e,zq0,zq5,yc4,yc6,yc8,setA,setB,za,zb,zc,zd,ze,zf,zg,zh,zi,zj,zk,zl,zm,zn,zo,zp,reduceCtorEq,zE,↓reduceIte]
    all_goals rfl
def j37_10 (s0:Bs) (n5:Int) (t18:Bool):Option ((Bs×Int) ⊕ R37):=
 if t18 = true then
  some (.inl (s0,(w64 (n5 + 1))))
 else
  (j37_15 s0 n5).map .inr
theorem j37_10_t (s0:Bs) (n5:Int) (t18:Bool)  (sl:Nat→AV) (zq0:sl 0 = .v (.c (.d (.sc (.string (S s0)))))) (zq5:sl 5 = .v (.c (.d (.sc (.int .i64 n5))))) (zq18:sl 18 = .v (.c (.d (.sc (.bool t18))))):
  stepE (K37_6 (mm:=mm)) (loopK 0 [(0,.keep),(5,.keep)] (seqD (E0 mm) 37 0 (callW (E0 mm)) itW c37_13 (den (E0 mm) 37 0 (callW (E0 mm)) itW c37_10 none ⟨sl,[]⟩))) = (j37_10 s0 n5 t18).map (sm en37_6 e37):=by
 simp -implicitDefEqProofs only [j37_10,(show c37_10 = Code.cond _ c37_11 c37_12 from rfl),zq0,zq5,zq18,setA,setB,za,zb,zc,zd,ze,zf,zg,zh,zi,zj,zk,zl,zm,zn,zo,zp,reduceCtorEq,zE,↓reduceIte]
 refine brB (fun yc3=>?_) (fun yc3=>?_)
 ·simp -implicitDefEqProofs only [c37_11_e,c37_13_e,c37_14_r,(show opsOf c37_14 = _ :: _ from rfl),zq0,zq5,zq18,yc3,setA,setB,za,zb,zc,zd,ze,zf,zg,zh,zi,zj,zk,zl,zm,zn,zo,zp,reduceCtorEq,zE,↓reduceIte]
  all_goals rfl
 ·simp -implicitDefEqProofs only [c37_12_e,K37_6,zq0,zq5,zq18,yc3,setA,setB,za,zb,zc,zd,ze,zf,zg,zh,zi,zj,zk,zl,zm,zn,zo,zp,reduceCtorEq,zE,↓reduceIte]
  exact mi (j37_15_t s0 n5 _ (by exact zq0) (by exact zq5))
def s37_6 (s0:Bs) (n5:Int):Option ((Bs×Int) ⊕ R37):=
 if (decide (n5 < (s0.length:Int))) = true then
  if 0≤n5∧n5 < (s0.length:Int) then
   j37_10 s0 n5 (!((s0.getD n5.toNat 0) == (61:UInt8)))
  else none
 else
  j37_10 s0 n5 false
theorem s37_6_t (s0:Bs) (n5:Int):
  stepE (K37_6 (mm:=mm)) (loopF (E0 mm) 37 0 (callW (E0 mm)) itW c37_7 [(0,.keep),(5,.keep)] (none,[.v (.c (.d (.sc (.string (S s0))))),.v (.c (.d (.sc (.int .i64 n5))))],[])) = (s37_6 s0 n5).map (sm en37_6 e37):=by
 simp -implicitDefEqProofs only [s37_6,loopF_eq,c37_7_e,c37_8_e,c37_9_r,(show opsOf c37_9 = _ :: _ from rfl),Tryz.underlying9,setA,setB,za,zb,zc,zd,ze,zf,zg,zh,zi,zj,zk,zl,zm,zn,zo,zp,reduceCtorEq,zE,↓reduceIte]
 refine brB (fun yc1=>?_) (fun yc1=>?_)
 ·simp -implicitDefEqProofs only [Tryz.underlying9,yc1,setA,setB,za,zb,zc,zd,ze,zf,zg,zh,zi,zj,zk,zl,zm,zn,zo,zp,reduceCtorEq,zE,↓reduceIte]
  refine brP (fun yc2=>?_) (fun yc2=>?_)
  ·simp -implicitDefEqProofs only [yc1,yc2,setA,setB,za,zb,zc,zd,ze,zf,zg,zh,zi,zj,zk,zl,zm,zn,zo,zp,reduceCtorEq,zE,↓reduceIte]
   exact j37_10_t s0 n5 (!((s0.getD n5.toNat 0) == (61:UInt8))) _ (by rfl) (by rfl) (by rfl)
  ·rw [if_neg yc2]; rfl
 ·simp -implicitDefEqProofs only [yc1,setA,setB,za,zb,zc,zd,ze,zf,zg,zh,zi,zj,zk,zl,zm,zn,zo,zp,reduceCtorEq,zE,↓reduceIte]
  exact j37_10_t s0 n5 false _ (by rfl) (by rfl) (by rfl)
def l37_6 (s0:Bs) (n5:Int):Option R37:=iter (fun x:(Bs×Int)=>s37_6 x.1 x.2) (s0,n5)
theorem l37_6_t (s0:Bs) (n5:Int):bodyD (E0 mm) [.tmp 2,.tmp 3,.tmp 4] 0 false (seqD (E0 mm) 37 0 (callW (E0 mm)) itW c37_15 (blockD 0 (itW (loopF (E0 mm) 37 0 (callW (E0 mm)) itW c37_7 [(0,.keep),(5,.keep)]) (none,[.v (.c (.d (.sc (.string (S s0))))),.v (.c (.d (.sc (.int .i64 n5))))],[])))) = (l37_6 s0 n5).map e37:=
 it_sim (K:=(K37_6 (mm:=mm))) rfl (enc:=en37_6) (fun x=>s37_6_t x.1 x.2) (s0,n5)
def m37 (s:Bs):Option R37:=
 l37_6 s (0:Int)
theorem f37_t (s:Bs):
  callW (E0 mm) 37 [.c (.d (.sc (.string (S s))))] [] = (m37 s).map e37:=by
 rw [callW_run (body:=c37_0) (res:=[.tmp 2,.tmp 3,.tmp 4]) Tryz.func37 rfl rfl (by kernel_rfl)]
 simp -implicitDefEqProofs only [m37,slots1,c37_0_e,c37_1_r,(show opsOf c37_1 = _ :: _ from rfl),c37_2_e,c37_3_r,(show opsOf c37_3 = _ :: _ from rfl),c37_4_e,c37_5_e,c37_6_l,setA,setB,za,zb,zc,zd,ze,zf,zg,zh,zi,zj,zk,zl,zm,zn,zo,zp,reduceCtorEq,zE,↓reduceIte]
 exact l37_6_t s (0:Int)
noncomputable def c38_0:Code:=bodyOf Tryz.f38
def c38_1:=cA c38_0
def c38_2:=cB c38_0
def c38_3:=cA c38_2
def c38_4:=cA c38_3
def c38_5:=cB c38_3
def c38_6:=cA c38_5
def c38_7:=cA c38_6
def c38_8:=cB c38_6
def c38_9:=cB c38_5
def c38_10:=cB c38_2
def c38_11:=cA c38_10
def c38_12:=cB c38_10
def c38_13:=cA c38_12
def c38_14:=cA c38_13
def c38_15:=cB c38_13
def c38_16:=cA c38_15
def c38_17:=cA c38_16
def c38_18:=cA c38_17
def c38_19:=cA c38_18
def c38_20:=cB c38_18
def c38_21:=cA c38_20
def c38_22:=cB c38_20
def c38_23:=cB c38_17
def c38_24:=cA c38_23
def c38_25:=cA c38_24
def c38_26:=cA c38_25
def c38_27:=cB c38_25
def c38_28:=cA c38_27
def c38_29:=cA c38_28
def c38_30:=cB c38_28
def c38_31:=cB c38_27
def c38_32:=cB c38_23
def c38_33:=cB c38_12
def c38_34:=cA c38_33
def c38_35:=cA c38_34
def c38_36:=cB c38_34
def c38_37:=cA c38_36
def c38_38:=cA c38_37
def c38_39:=cA c38_38
def c38_40:=cA c38_39
def c38_41:=cB c38_39
def c38_42:=cA c38_41
def c38_43:=cB c38_41
def c38_44:=cB c38_38
def c38_45:=cA c38_44
def c38_46:=cA c38_45
def c38_47:=cA c38_46
def c38_48:=cB c38_46
def c38_49:=cA c38_48
def c38_50:=cB c38_48
def c38_51:=cA c38_50
def c38_52:=cB c38_50
def c38_53:=cB c38_44
def c38_54:=cB c38_33
def c38_55:=cA c38_54
def c38_56:=cB c38_54
theorem c38_0_e:c38_0 = .seq c38_1 c38_2:=rfl
theorem c38_1_r:RG (E0 mm) 38 c38_1:=rgN rfl
theorem c38_2_e:c38_2 = .seq c38_3 c38_10:=rfl
theorem c38_3_e:c38_3 = .seq c38_4 c38_5:=rfl
theorem c38_4_r:RG (E0 mm) 38 c38_4:=rgN rfl
theorem c38_6_e:c38_6 = .seq c38_7 c38_8:=rfl
theorem c38_7_r:RG (E0 mm) 38 c38_7:=rgN rfl
theorem c38_8_e:c38_8 = .ret:=rfl
theorem c38_9_e:c38_9 = .skip:=rfl
theorem c38_10_e:c38_10 = .seq c38_11 c38_12:=rfl
theorem c38_11_r:RG (E0 mm) 38 c38_11:=rgN rfl
theorem c38_12_e:c38_12 = .seq c38_13 c38_33:=rfl
theorem c38_13_e:c38_13 = .seq c38_14 c38_15:=rfl
theorem c38_14_r:RG (E0 mm) 38 c38_14:=rgN rfl
theorem c38_15_e:c38_15 = .block 0 c38_16:=rfl
theorem c38_16_l (m:Nat) (st:St):den (E0 mm) 38 m (callW (E0 mm)) itW c38_16 none st = loopD itW (loopF (E0 mm) 38 m (callW (E0 mm)) itW c38_17 [(0,.keep),(3,.keep),(4,.keep)]) (canon m [(0,.keep),(3,.keep),(4,.keep)] st):=rfl
theorem c38_17_e:c38_17 = .seq c38_18 c38_23:=rfl
theorem c38_18_e:c38_18 = .seq c38_19 c38_20:=rfl
theorem c38_19_r:RG (E0 mm) 38 c38_19:=rgN rfl
theorem c38_21_e:c38_21 = .skip:=rfl
theorem c38_22_e:c38_22 = .exit 0:=rfl
theorem c38_23_e:c38_23 = .seq c38_24 c38_32:=rfl
theorem c38_24_e:c38_24 = .block 1 c38_25:=rfl
theorem c38_25_e:c38_25 = .seq c38_26 c38_27:=rfl
theorem c38_26_r:RG (E0 mm) 38 c38_26:=rgN rfl
theorem c38_28_e:c38_28 = .seq c38_29 c38_30:=rfl
theorem c38_29_r:RG (E0 mm) 38 c38_29:=rgN rfl
theorem c38_30_e:c38_30 = .ret:=rfl
theorem c38_31_e:c38_31 = .skip:=rfl
theorem c38_32_r:RG (E0 mm) 38 c38_32:=rgN rfl
theorem c38_33_e:c38_33 = .seq c38_34 c38_54:=rfl
theorem c38_34_e:c38_34 = .seq c38_35 c38_36:=rfl
theorem c38_35_r:RG (E0 mm) 38 c38_35:=rgN rfl
theorem c38_36_e:c38_36 = .block 2 c38_37:=rfl
theorem c38_37_l (m:Nat) (st:St):den (E0 mm) 38 m (callW (E0 mm)) itW c38_37 none st = loopD itW (loopF (E0 mm) 38 m (callW (E0 mm)) itW c38_38 [(0,.keep),(3,.keep),(5,.keep)]) (canon m [(0,.keep),(3,.keep),(5,.keep)] st):=rfl
theorem c38_38_e:c38_38 = .seq c38_39 c38_44:=rfl
theorem c38_39_e:c38_39 = .seq c38_40 c38_41:=rfl
theorem c38_40_r:RG (E0 mm) 38 c38_40:=rgN rfl
theorem c38_42_e:c38_42 = .skip:=rfl
theorem c38_43_e:c38_43 = .exit 2:=rfl
theorem c38_44_e:c38_44 = .seq c38_45 c38_53:=rfl
theorem c38_45_e:c38_45 = .block 3 c38_46:=rfl
theorem c38_46_e:c38_46 = .seq c38_47 c38_48:=rfl
theorem c38_47_r:RG (E0 mm) 38 c38_47:=rgN rfl
theorem c38_48_e:c38_48 = .seq c38_49 c38_50:=rfl
theorem c38_49_r:RG (E0 mm) 38 c38_49:=rgN rfl
theorem c38_51_r:RG (E0 mm) 38 c38_51:=rgN rfl
theorem c38_52_e:c38_52 = .skip:=rfl
theorem c38_53_r:RG (E0 mm) 38 c38_53:=rgN rfl
theorem c38_54_e:c38_54 = .seq c38_55 c38_56:=rfl
theorem c38_55_r:RG (E0 mm) 38 c38_55:=rgN rfl
theorem c38_56_e:c38_56 = .ret:=rfl
abbrev R38:=(Int)
def e38:R38→AV×Heap:=fun x=>(.v (.c (.d (.sc (.int .i64 x)))),[])
def K38_16:Option (Ex×St)→Option (AV×Heap):=fun r=>bodyD (E0 mm) [.tmp 2] 0 false (seqD (E0 mm) 38 0 (callW (E0 mm)) itW c38_33 (blockD 0 (r)))
def en38_16:(Bs×Int×Int)→X:=fun x=>(none,[.v (.c (.d (.sc (.string (S x.1))))),.v (.c (.d (.sc (.int .i64 x.2.1)))),.v (.c (.d (.sc (.int .i64 x.2.2))))],[])
def j38_27 (s0:Bs) (n3 i4:Int) (t24:Bool):Option ((Bs×Int×Int) ⊕ R38):=
 if t24 = true then
  some (.inr (0:Int))
 else
  some (.inl (s0,n3,(w64 (i4 + 1))))
theorem j38_27_t (s0:Bs) (n3 i4:Int) (t24:Bool)  (sl:Nat→AV) (zq0:sl 0 = .v (.c (.d (.sc (.string (S s0)))))) (zq3:sl 3 = .v (.c (.d (.sc (.int .i64 n3))))) (zq4:sl 4 = .v (.c (.d (.sc (.int .i64 i4))))) (zq24:sl 24 = .v (.c (.d (.sc (.bool t24))))):
  stepE (K38_16 (mm:=mm)) (loopK 0 [(0,.keep),(3,.keep),(4,.keep)] (seqD (E0 mm) 38 0 (callW (E0 mm)) itW c38_32 (blockD 1 (den (E0 mm) 38 0 (callW (E0 mm)) itW c38_27 none ⟨sl,[]⟩)))) = (j38_27 s0 n3 i4 t24).map (sm en38_16 e38):=by
 simp -implicitDefEqProofs only [j38_27,(show c38_27 = Code.cond _ c38_28 c38_31 from rfl),zq0,zq3,zq4,zq24,setA,setB,za,zb,zc,zd,ze,zf,zg,zh,zi,zj,zk,zl,zm,zn,zo,zp,reduceCtorEq,zE,↓reduceIte]
 refine brB (fun yc5=>?_) (fun yc5=>?_)
 ·simp -implicitDefEqProofs only [c38_28_e,c38_29_r,(show opsOf c38_29 = _ :: _ from rfl),c38_30_e,K38_16,zq0,zq3,zq4,zq24,yc5,setA,setB,za,zb,zc,zd,ze,zf,zg,zh,zi,zj,zk,zl,zm,zn,zo,zp,reduceCtorEq,zE,↓reduceIte]
  all_goals rfl
 ·simp -implicitDefEqProofs only [c38_31_e,c38_32_r,(show opsOf c38_32 = _ :: _ from rfl),zq0,zq3,zq4,zq24,yc5,setA,setB,za,zb,zc,zd,ze,zf,zg,zh,zi,zj,zk,zl,zm,zn,zo,zp,reduceCtorEq,zE,↓reduceIte]
  all_goals rfl
def K38_37:Option (Ex×St)→Option (AV×Heap):=fun r=>bodyD (E0 mm) [.tmp 2] 0 false (seqD (E0 mm) 38 0 (callW (E0 mm)) itW c38_54 (blockD 2 (r)))
def en38_37:(Bs×Int×Int)→X:=fun x=>(none,[.v (.c (.d (.sc (.string (S x.1))))),.v (.c (.d (.sc (.int .i64 x.2.1)))),.v (.c (.d (.sc (.int .i64 x.2.2))))],[])
def j38_53 (s0:Bs) (n3 i5:Int):Option ((Bs×Int×Int) ⊕ R38):=
 some (.inl (s0,n3,(w64 (i5 + 1))))
theorem j38_53_t (s0:Bs) (n3 i5:Int)  (sl:Nat→AV) (zq0:sl 0 = .v (.c (.d (.sc (.string (S s0)))))) (zq3:sl 3 = .v (.c (.d (.sc (.int .i64 n3))))) (zq5:sl 5 = .v (.c (.d (.sc (.int .i64 i5))))):
  stepE (K38_37 (mm:=mm)) (loopK 0 [(0,.keep),(3,.keep),(5,.keep)] (den (E0 mm) 38 0 (callW (E0 mm)) itW c38_53 none ⟨sl,[]⟩)) = (j38_53 s0 n3 i5).map (sm en38_37 e38):=by
 simp -implicitDefEqProofs only [j38_53,c38_53_r,(show opsOf c38_53 = _ :: _ from rfl),zq0,zq3,zq5,setA,setB,za,zb,zc,zd,ze,zf,zg,zh,zi,zj,zk,zl,zm,zn,zo,zp,reduceCtorEq,zE,↓reduceIte]
 all_goals rfl
def j38_54 (n3:Int):Option R38:=
 some n3
theorem j38_54_t (n3:Int)  (sl:Nat→AV) (zq3:sl 3 = .v (.c (.d (.sc (.int .i64 n3))))):
  bodyD (E0 mm) [.tmp 2] 0 false (den (E0 mm) 38 0 (callW (E0 mm)) itW c38_54 none ⟨sl,[]⟩) = (j38_54 n3).map e38:=by
 simp -implicitDefEqProofs only [j38_54,c38_54_e,c38_55_r,(show opsOf c38_55 = _ :: _ from rfl),c38_56_e,zq3,setA,setB,za,zb,zc,zd,ze,zf,zg,zh,zi,zj,zk,zl,zm,zn,zo,zp,reduceCtorEq,zE,↓reduceIte]
 all_goals rfl
def s38_37 (s0:Bs) (n3 i5:Int):Option ((Bs×Int×Int) ⊕ R38):=
 if (decide (i5 < (s0.length:Int))) = true then
  if 0≤i5∧i5 < (s0.length:Int) then
   if (decide (2147483647 < (w64 ((w64 (10 * n3)) + (((s0.getD i5.toNat 0) - (48:UInt8)).toNat:Int))))) = true then
    j38_53 s0 (2147483647:Int) i5
   else
    j38_53 s0 (w64 ((w64 (10 * n3)) + (((s0.getD i5.toNat 0) - (48:UInt8)).toNat:Int))) i5
  else none
 else
  (j38_54 n3).map .inr
theorem s38_37_t (s0:Bs) (n3 i5:Int):
  stepE (K38_37 (mm:=mm)) (loopF (E0 mm) 38 0 (callW (E0 mm)) itW c38_38 [(0,.keep),(3,.keep),(5,.keep)] (none,[.v (.c (.d (.sc (.string (S s0))))),.v (.c (.d (.sc (.int .i64 n3)))),.v (.c (.d (.sc (.int .i64 i5))))],[])) = (s38_37 s0 n3 i5).map (sm en38_37 e38):=by
 simp -implicitDefEqProofs only [s38_37,loopF_eq,c38_38_e,c38_39_e,c38_40_r,(show opsOf c38_40 = _ :: _ from rfl),Tryz.underlying9,(show c38_41 = Code.cond _ c38_42 c38_43 from rfl),setA,setB,za,zb,zc,zd,ze,zf,zg,zh,zi,zj,zk,zl,zm,zn,zo,zp,reduceCtorEq,zE,↓reduceIte]
 refine brB (fun yc6=>?_) (fun yc6=>?_)
 ·simp -implicitDefEqProofs only [c38_42_e,c38_44_e,c38_45_e,c38_46_e,c38_47_r,(show opsOf c38_47 = _ :: _ from rfl),Tryz.underlying9,yc6,setA,setB,za,zb,zc,zd,ze,zf,zg,zh,zi,zj,zk,zl,zm,zn,zo,zp,reduceCtorEq,zE,↓reduceIte]
  refine brP (fun yc7=>?_) (fun yc7=>?_)
  ·simp -implicitDefEqProofs only [Tryz.underlying5,Tryz.underlying3,c38_48_e,c38_49_r,(show opsOf c38_49 = _ :: _ from rfl),(show c38_50 = Code.cond _ c38_51 c38_52 from rfl),yc6,yc7,setA,setB,za,zb,zc,zd,ze,zf,zg,zh,zi,zj,zk,zl,zm,zn,zo,zp,reduceCtorEq,zE,↓reduceIte]
   refine brB (fun yc8=>?_) (fun yc8=>?_)
   ·simp -implicitDefEqProofs only [c38_51_r,(show opsOf c38_51 = _ :: _ from rfl),yc6,yc7,yc8,setA,setB,za,zb,zc,zd,ze,zf,zg,zh,zi,zj,zk,zl,zm,zn,zo,zp,reduceCtorEq,zE,↓reduceIte]
    exact j38_53_t s0 (2147483647:Int) i5 _ (by rfl) (by rfl) (by rfl)
   ·simp -implicitDefEqProofs only [c38_52_e,yc6,yc7,yc8,setA,setB,za,zb,zc,zd,ze,zf,zg,zh,zi,zj,zk,zl,zm,zn,zo,zp,reduceCtorEq,zE,↓reduceIte]
    exact j38_53_t s0 (w64 ((w64 (10 * n3)) + (((s0.getD i5.toNat 0) - (48:UInt8)).toNat:Int))) i5 _ (by rfl) (by rfl) (by rfl)
  ·rw [if_neg yc7]; rfl
 ·simp -implicitDefEqProofs only [c38_43_e,K38_37,yc6,setA,setB,za,zb,zc,zd,ze,zf,zg,zh,zi,zj,zk,zl,zm,zn,zo,zp,reduceCtorEq,zE,↓reduceIte]
  exact mi (j38_54_t n3 _ (by rfl))
def l38_37 (s0:Bs) (n3 i5:Int):Option R38:=iter (fun x:(Bs×Int×Int)=>s38_37 x.1 x.2.1 x.2.2) (s0,n3,i5)
theorem l38_37_t (s0:Bs) (n3 i5:Int):bodyD (E0 mm) [.tmp 2] 0 false (seqD (E0 mm) 38 0 (callW (E0 mm)) itW c38_54 (blockD 2 (itW (loopF (E0 mm) 38 0 (callW (E0 mm)) itW c38_38 [(0,.keep),(3,.keep),(5,.keep)]) (none,[.v (.c (.d (.sc (.string (S s0))))),.v (.c (.d (.sc (.int .i64 n3)))),.v (.c (.d (.sc (.int .i64 i5))))],[])))) = (l38_37 s0 n3 i5).map e38:=
 it_sim (K:=(K38_37 (mm:=mm))) rfl (enc:=en38_37) (fun x=>s38_37_t x.1 x.2.1 x.2.2) (s0,n3,i5)
def j38_33 (s0:Bs) (n3:Int):Option R38:=
 l38_37 s0 n3 (0:Int)
theorem j38_33_t (s0:Bs) (n3:Int)  (sl:Nat→AV) (zq0:sl 0 = .v (.c (.d (.sc (.string (S s0)))))) (zq3:sl 3 = .v (.c (.d (.sc (.int .i64 n3))))):
  bodyD (E0 mm) [.tmp 2] 0 false (den (E0 mm) 38 0 (callW (E0 mm)) itW c38_33 none ⟨sl,[]⟩) = (j38_33 s0 n3).map e38:=by
 simp -implicitDefEqProofs only [j38_33,c38_33_e,c38_34_e,c38_35_r,(show opsOf c38_35 = _ :: _ from rfl),c38_36_e,c38_37_l,zq0,zq3,setA,setB,za,zb,zc,zd,ze,zf,zg,zh,zi,zj,zk,zl,zm,zn,zo,zp,reduceCtorEq,zE,↓reduceIte]
 exact l38_37_t s0 n3 (0:Int)
def s38_16 (s0:Bs) (n3 i4:Int):Option ((Bs×Int×Int) ⊕ R38):=
 if (decide (i4 < (s0.length:Int))) = true then
  if 0≤i4∧i4 < (s0.length:Int) then
   if (decide ((s0.getD i4.toNat 0) < (48:UInt8))) = true then
    j38_27 s0 n3 i4 true
   else
    j38_27 s0 n3 i4 (decide ((57:UInt8) < (s0.getD i4.toNat 0)))
  else none
 else
  (j38_33 s0 n3).map .inr
theorem s38_16_t (s0:Bs) (n3 i4:Int):
  stepE (K38_16 (mm:=mm)) (loopF (E0 mm) 38 0 (callW (E0 mm)) itW c38_17 [(0,.keep),(3,.keep),(4,.keep)] (none,[.v (.c (.d (.sc (.string (S s0))))),.v (.c (.d (.sc (.int .i64 n3)))),.v (.c (.d (.sc (.int .i64 i4))))],[])) = (s38_16 s0 n3 i4).map (sm en38_16 e38):=by
 simp -implicitDefEqProofs only [s38_16,loopF_eq,c38_17_e,c38_18_e,c38_19_r,(show opsOf c38_19 = _ :: _ from rfl),Tryz.underlying9,(show c38_20 = Code.cond _ c38_21 c38_22 from rfl),setA,setB,za,zb,zc,zd,ze,zf,zg,zh,zi,zj,zk,zl,zm,zn,zo,zp,reduceCtorEq,zE,↓reduceIte]
 refine brB (fun yc2=>?_) (fun yc2=>?_)
 ·simp -implicitDefEqProofs only [c38_21_e,c38_23_e,c38_24_e,c38_25_e,c38_26_r,(show opsOf c38_26 = _ :: _ from rfl),Tryz.underlying9,yc2,setA,setB,za,zb,zc,zd,ze,zf,zg,zh,zi,zj,zk,zl,zm,zn,zo,zp,reduceCtorEq,zE,↓reduceIte]
  refine brP (fun yc3=>?_) (fun yc3=>?_)
  ·simp -implicitDefEqProofs only [yc2,yc3,setA,setB,za,zb,zc,zd,ze,zf,zg,zh,zi,zj,zk,zl,zm,zn,zo,zp,reduceCtorEq,zE,↓reduceIte]
   refine brB (fun yc4=>?_) (fun yc4=>?_)
   ·simp -implicitDefEqProofs only [yc2,yc3,yc4,setA,setB,za,zb,zc,zd,ze,zf,zg,zh,zi,zj,zk,zl,zm,zn,zo,zp,reduceCtorEq,zE,↓reduceIte]
    exact j38_27_t s0 n3 i4 true _ (by rfl) (by rfl) (by rfl) (by rfl)
   ·simp -implicitDefEqProofs only [Tryz.underlying9,yc2,yc3,yc4,setA,setB,za,zb,zc,zd,ze,zf,zg,zh,zi,zj,zk,zl,zm,zn,zo,zp,reduceCtorEq,zE,↓reduceIte]
    exact j38_27_t s0 n3 i4 (decide ((57:UInt8) < (s0.getD i4.toNat 0))) _ (by rfl) (by rfl) (by rfl) (by rfl)
  ·rw [if_neg yc3]; rfl
 ·simp -implicitDefEqProofs only [c38_22_e,K38_16,yc2,setA,setB,za,zb,zc,zd,ze,zf,zg,zh,zi,zj,zk,zl,zm,zn,zo,zp,reduceCtorEq,zE,↓reduceIte]
  exact mi (j38_33_t s0 n3 _ (by rfl) (by rfl))
def l38_16 (s0:Bs) (n3 i4:Int):Option R38:=iter (fun x:(Bs×Int×Int)=>s38_16 x.1 x.2.1 x.2.2) (s0,n3,i4)
theorem l38_16_t (s0:Bs) (n3 i4:Int):bodyD (E0 mm) [.tmp 2] 0 false (seqD (E0 mm) 38 0 (callW (E0 mm)) itW c38_33 (blockD 0 (itW (loopF (E0 mm) 38 0 (callW (E0 mm)) itW c38_17 [(0,.keep),(3,.keep),(4,.keep)]) (none,[.v (.c (.d (.sc (.string (S s0))))),.v (.c (.d (.sc (.int .i64 n3)))),.v (.c (.d (.sc (.int .i64 i4))))],[])))) = (l38_16 s0 n3 i4).map e38:=
 it_sim (K:=(K38_16 (mm:=mm))) rfl (enc:=en38_16) (fun x=>s38_16_t x.1 x.2.1 x.2.2) (s0,n3,i4)
def m38 (s:Bs):Option R38:=
 if ((s.length:Int) == 0) = true then
  some (0:Int)
 else
  l38_16 s (0:Int) (0:Int)
theorem f38_t (s:Bs):
  callW (E0 mm) 38 [.c (.d (.sc (.string (S s))))] [] = (m38 s).map e38:=by
 rw [callW_run (body:=c38_0) (res:=[.tmp 2]) Tryz.func38 rfl rfl (by kernel_rfl)]
 simp -implicitDefEqProofs only [m38,slots1,c38_0_e,c38_1_r,(show opsOf c38_1 = _ :: _ from rfl),c38_2_e,c38_3_e,c38_4_r,(show opsOf c38_4 = _ :: _ from rfl),Tryz.underlying9,(show c38_5 = Code.cond _ c38_6 c38_9 from rfl),setA,setB,za,zb,zc,zd,ze,zf,zg,zh,zi,zj,zk,zl,zm,zn,zo,zp,reduceCtorEq,zE,↓reduceIte]
 refine brB (fun yc1=>?_) (fun yc1=>?_)
 ·simp -implicitDefEqProofs only [c38_6_e,c38_7_r,(show opsOf c38_7 = _ :: _ from rfl),c38_8_e,yc1,setA,setB,za,zb,zc,zd,ze,zf,zg,zh,zi,zj,zk,zl,zm,zn,zo,zp,reduceCtorEq,zE,↓reduceIte]
  all_goals rfl
 ·simp -implicitDefEqProofs only [c38_9_e,c38_10_e,c38_11_r,(show opsOf c38_11 = _ :: _ from rfl),c38_12_e,c38_13_e,c38_14_r,(show opsOf c38_14 = _ :: _ from rfl),c38_15_e,c38_16_l,yc1,setA,setB,za,zb,zc,zd,ze,zf,zg,zh,zi,zj,zk,zl,zm,zn,zo,zp,reduceCtorEq,zE,↓reduceIte]
  exact l38_16_t s (0:Int) (0:Int)
noncomputable def c39_0:Code:=bodyOf Tryz.f39
def c39_1:=cA c39_0
def c39_2:=cB c39_0
def c39_3:=cA c39_2
def c39_4:=cA c39_3
def c39_5:=cB c39_3
def c39_6:=cA c39_5
def c39_7:=cA c39_6
def c39_8:=cB c39_6
def c39_9:=cB c39_5
def c39_10:=cB c39_2
def c39_11:=cA c39_10
def c39_12:=cB c39_10
theorem c39_0_e:c39_0 = .seq c39_1 c39_2:=rfl
theorem c39_1_r:RG (E0 mm) 39 c39_1:=rgN rfl
theorem c39_2_e:c39_2 = .seq c39_3 c39_10:=rfl
theorem c39_3_e:c39_3 = .seq c39_4 c39_5:=rfl
theorem c39_4_r:RG (E0 mm) 39 c39_4:=rgN rfl
theorem c39_6_e:c39_6 = .seq c39_7 c39_8:=rfl
theorem c39_7_r:RG (E0 mm) 39 c39_7:=rgN rfl
theorem c39_8_e:c39_8 = .ret:=rfl
theorem c39_9_e:c39_9 = .skip:=rfl
theorem c39_10_e:c39_10 = .seq c39_11 c39_12:=rfl
theorem c39_11_r:RG (E0 mm) 39 c39_11:=rgN rfl
theorem c39_12_e:c39_12 = .ret:=rfl
abbrev R39:=(Int)
def e39:R39→AV×Heap:=fun x=>(.v (.c (.d (.sc (.int .i64 x)))),[])
def j39_5 (was0 n1:Int) (t11:Bool):Option R39:=
 if t11 = true then
  some n1
 else
  some was0
theorem j39_5_t (was0 n1:Int) (t11:Bool)  (sl:Nat→AV) (zq0:sl 0 = .v (.c (.d (.sc (.int .i64 was0))))) (zq1:sl 1 = .v (.c (.d (.sc (.int .i64 n1))))) (zq11:sl 11 = .v (.c (.d (.sc (.bool t11))))):
  bodyD (E0 mm) [.tmp 4] 0 false (seqD (E0 mm) 39 0 (callW (E0 mm)) itW c39_10 (den (E0 mm) 39 0 (callW (E0 mm)) itW c39_5 none ⟨sl,[]⟩)) = (j39_5 was0 n1 t11).map e39:=by
 simp -implicitDefEqProofs only [j39_5,(show c39_5 = Code.cond _ c39_6 c39_9 from rfl),zq0,zq1,zq11,setA,setB,za,zb,zc,zd,ze,zf,zg,zh,zi,zj,zk,zl,zm,zn,zo,zp,reduceCtorEq,zE,↓reduceIte]
 refine brB (fun yc2=>?_) (fun yc2=>?_)
 ·simp -implicitDefEqProofs only [c39_6_e,c39_7_r,(show opsOf c39_7 = _ :: _ from rfl),c39_8_e,zq0,zq1,zq11,yc2,setA,setB,za,zb,zc,zd,ze,zf,zg,zh,zi,zj,zk,zl,zm,zn,zo,zp,reduceCtorEq,zE,↓reduceIte]
  all_goals rfl
 ·simp -implicitDefEqProofs only [c39_9_e,c39_10_e,c39_11_r,(show opsOf c39_11 = _ :: _ from rfl),c39_12_e,zq0,zq1,zq11,yc2,setA,setB,za,zb,zc,zd,ze,zf,zg,zh,zi,zj,zk,zl,zm,zn,zo,zp,reduceCtorEq,zE,↓reduceIte]
  all_goals rfl
def m39 (was n:Int):Option R39:=
 if (decide (was < 0)) = true then
  j39_5 was n true
 else
  j39_5 was n (decide (n < was))
theorem f39_t (was n:Int):
  callW (E0 mm) 39 [.c (.d (.sc (.int .i64 was))),.c (.d (.sc (.int .i64 n)))] [] = (m39 was n).map e39:=by
 rw [callW_run (body:=c39_0) (res:=[.tmp 4]) Tryz.func39 rfl rfl (by kernel_rfl)]
 simp -implicitDefEqProofs only [m39,slots2,c39_0_e,c39_1_r,(show opsOf c39_1 = _ :: _ from rfl),c39_2_e,c39_3_e,c39_4_r,(show opsOf c39_4 = _ :: _ from rfl),setA,setB,za,zb,zc,zd,ze,zf,zg,zh,zi,zj,zk,zl,zm,zn,zo,zp,reduceCtorEq,zE,↓reduceIte]
 refine brB (fun yc1=>?_) (fun yc1=>?_)
 ·simp -implicitDefEqProofs only [yc1,setA,setB,za,zb,zc,zd,ze,zf,zg,zh,zi,zj,zk,zl,zm,zn,zo,zp,reduceCtorEq,zE,↓reduceIte]
  exact j39_5_t was n true _ (by rfl) (by rfl) (by rfl)
 ·simp -implicitDefEqProofs only [yc1,setA,setB,za,zb,zc,zd,ze,zf,zg,zh,zi,zj,zk,zl,zm,zn,zo,zp,reduceCtorEq,zE,↓reduceIte]
  exact j39_5_t was n (decide (n < was)) _ (by rfl) (by rfl) (by rfl)
end
end Go.Proofs.YteajgnaeklbpeaaGreatDoor
