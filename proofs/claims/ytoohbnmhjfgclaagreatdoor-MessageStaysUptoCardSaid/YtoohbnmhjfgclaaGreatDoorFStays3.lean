/- The Go functions as plain functions, and that the evaluator computes them. -/
import Derived.Test.YtoohbnmhjfgclaaGreatDoorFStays2
set_option linter.all false
set_option maxRecDepth 100000
namespace Go.Proofs.YtoohbnmhjfgclaaGreatDoor
open Go Go.Ab
open Nat renaming reduceEqDiff→za,reduceAdd→zb,reduceLeDiff→zc,reduceLT→zd,reduceMul→ze,reduceBEq→zf,reduceSub→zg,reducePow→zh
open Int renaming reduceEq→zi,reduceLE→zj,reduceLT→zk,reduceToNat→zl,reduceNegSucc→zm,reduceAdd→zn,reduceBEq→zo
open String renaming reduceBEq→zp
set_option maxHeartbeats 4000000
noncomputable section
variable {mm:Int}
noncomputable def c23_0:Code:=bodyOf Tryz.f23
def c23_1:=cA c23_0
def c23_2:=cB c23_0
def c23_3:=cA c23_2
def c23_4:=cB c23_2
def c23_5:=cA c23_4
def c23_6:=cB c23_4
def c23_7:=cA c23_6
def c23_8:=cA c23_7
def c23_9:=cA c23_8
def c23_10:=cB c23_8
def c23_11:=cA c23_10
def c23_12:=cA c23_11
def c23_13:=cB c23_11
def c23_14:=cB c23_10
def c23_15:=cA c23_14
def c23_16:=cB c23_14
def c23_17:=cA c23_16
def c23_18:=cA c23_17
def c23_19:=cB c23_17
def c23_20:=cB c23_16
def c23_21:=cA c23_20
def c23_22:=cB c23_20
def c23_23:=cA c23_22
def c23_24:=cA c23_23
def c23_25:=cB c23_23
def c23_26:=cB c23_22
def c23_27:=cB c23_6
def c23_28:=cA c23_27
def c23_29:=cB c23_27
def c23_30:=cA c23_29
def c23_31:=cA c23_30
def c23_32:=cB c23_30
def c23_33:=cA c23_32
def c23_34:=cA c23_33
def c23_35:=cB c23_33
def c23_36:=cB c23_32
def c23_37:=cB c23_29
def c23_38:=cA c23_37
def c23_39:=cB c23_37
def c23_40:=cA c23_39
def c23_41:=cA c23_40
def c23_42:=cB c23_40
def c23_43:=cA c23_42
def c23_44:=cB c23_42
def c23_45:=cB c23_39
def c23_46:=cA c23_45
def c23_47:=cA c23_46
def c23_48:=cB c23_46
def c23_49:=cA c23_48
def c23_50:=cA c23_49
def c23_51:=cB c23_49
def c23_52:=cB c23_48
def c23_53:=cB c23_45
def c23_54:=cA c23_53
def c23_55:=cB c23_53
theorem c23_0_e:c23_0 = .seq c23_1 c23_2:=rfl
theorem c23_1_r:RG (E0 mm) 23 c23_1:=rgN rfl
theorem c23_2_e:c23_2 = .seq c23_3 c23_4:=rfl
theorem c23_3_r:RG (E0 mm) 23 c23_3:=rgN rfl
theorem c23_4_e:c23_4 = .seq c23_5 c23_6:=rfl
theorem c23_5_r:RG (E0 mm) 23 c23_5:=rgN rfl
theorem c23_6_e:c23_6 = .seq c23_7 c23_27:=rfl
theorem c23_7_e:c23_7 = .block 0 c23_8:=rfl
theorem c23_8_e:c23_8 = .seq c23_9 c23_10:=rfl
theorem c23_9_r:RG (E0 mm) 23 c23_9:=rgN rfl
theorem c23_11_e:c23_11 = .seq c23_12 c23_13:=rfl
theorem c23_12_r:RG (E0 mm) 23 c23_12:=rgN rfl
theorem c23_13_e:c23_13 = .ret:=rfl
theorem c23_14_e:c23_14 = .seq c23_15 c23_16:=rfl
theorem c23_15_r:RG (E0 mm) 23 c23_15:=rgN rfl
theorem c23_17_e:c23_17 = .seq c23_18 c23_19:=rfl
theorem c23_18_r:RG (E0 mm) 23 c23_18:=rgN rfl
theorem c23_19_e:c23_19 = .ret:=rfl
theorem c23_20_e:c23_20 = .seq c23_21 c23_22:=rfl
theorem c23_21_r:RG (E0 mm) 23 c23_21:=rgN rfl
theorem c23_23_e:c23_23 = .seq c23_24 c23_25:=rfl
theorem c23_24_r:RG (E0 mm) 23 c23_24:=rgN rfl
theorem c23_25_e:c23_25 = .ret:=rfl
theorem c23_26_e:c23_26 = .skip:=rfl
theorem c23_27_e:c23_27 = .seq c23_28 c23_29:=rfl
theorem c23_28_r:RG (E0 mm) 23 c23_28:=rgN rfl
theorem c23_29_e:c23_29 = .seq c23_30 c23_37:=rfl
theorem c23_30_e:c23_30 = .seq c23_31 c23_32:=rfl
theorem c23_31_r:RG (E0 mm) 23 c23_31:=rgN rfl
theorem c23_33_e:c23_33 = .seq c23_34 c23_35:=rfl
theorem c23_34_r:RG (E0 mm) 23 c23_34:=rgN rfl
theorem c23_35_e:c23_35 = .ret:=rfl
theorem c23_36_e:c23_36 = .skip:=rfl
theorem c23_37_e:c23_37 = .seq c23_38 c23_39:=rfl
theorem c23_38_r:RG (E0 mm) 23 c23_38:=rgN rfl
theorem c23_39_e:c23_39 = .seq c23_40 c23_45:=rfl
theorem c23_40_e:c23_40 = .seq c23_41 c23_42:=rfl
theorem c23_41_r:RG (E0 mm) 23 c23_41:=rgN rfl
theorem c23_43_r:RG (E0 mm) 23 c23_43:=rgN rfl
theorem c23_44_e:c23_44 = .skip:=rfl
theorem c23_45_e:c23_45 = .seq c23_46 c23_53:=rfl
theorem c23_46_e:c23_46 = .seq c23_47 c23_48:=rfl
theorem c23_47_r:RG (E0 mm) 23 c23_47:=rgN rfl
theorem c23_49_e:c23_49 = .seq c23_50 c23_51:=rfl
theorem c23_50_r:RG (E0 mm) 23 c23_50:=rgN rfl
theorem c23_51_e:c23_51 = .ret:=rfl
theorem c23_52_e:c23_52 = .skip:=rfl
theorem c23_53_e:c23_53 = .seq c23_54 c23_55:=rfl
theorem c23_54_r:RG (E0 mm) 23 c23_54:=rgN rfl
theorem c23_55_e:c23_55 = .ret:=rfl
abbrev R23:=(Bs×Bs×Int×Bool×List (Bs×Bs)×Bool×List UInt8×Bool×List (Bs×Bs)×Int×Int)
def e23:R23→AV×Heap:=fun x=>(.tup [.agg [.d (.sc (.string (S x.1))),.d (.sc (.string (S x.2.1))),.d (.sc (.int .i64 x.2.2.1)),.d (.lst x.2.2.2.1 (enL enSS x.2.2.2.2.1)),.d (.lst x.2.2.2.2.2.1 (enL enB x.2.2.2.2.2.2.1))],.c (.d (.lst x.2.2.2.2.2.2.2.1 (enL enSS x.2.2.2.2.2.2.2.2.1))),.c (.d (.sc (.int .i64 x.2.2.2.2.2.2.2.2.2.1))),.c (.d (.sc (.int .i64 x.2.2.2.2.2.2.2.2.2.2)))],[])
def j23_45 (l5_0:Bool) (l5_1:List (Bs×Bs)) (e7 end9 n10:Int) (h0_0 h0_1:Bs) (h0_2:Int) (h0_3_0:Bool) (h0_3_1:List (Bs×Bs)) (h0_4_0:Bool) (h0_4_1:List UInt8) (h1_0 h1_1:Bs) (h1_2:Int) (h1_3_0:Bool) (h1_3_1:List (Bs×Bs)) (h1_4_0:Bool) (h1_4_1:List UInt8):Option R23:=
 if (e7 == 0) = true then
  some (h0_0,h0_1,h0_2,h0_3_0,h0_3_1,h0_4_0,h0_4_1,l5_0,l5_1,(w64 ((w64 (end9 + 1)) + n10)),(0:Int))
 else
  some (h1_0,h1_1,h1_2,h1_3_0,h1_3_1,h1_4_0,h1_4_1,true,([]:List (Bs×Bs)),(0:Int),e7)
theorem j23_45_t (l5_0:Bool) (l5_1:List (Bs×Bs)) (e7 end9 n10:Int) (h0_0 h0_1:Bs) (h0_2:Int) (h0_3_0:Bool) (h0_3_1:List (Bs×Bs)) (h0_4_0:Bool) (h0_4_1:List UInt8) (h1_0 h1_1:Bs) (h1_2:Int) (h1_3_0:Bool) (h1_3_1:List (Bs×Bs)) (h1_4_0:Bool) (h1_4_1:List UInt8)  (sl:Nat→AV) (zq4:sl 4 = .v (.c (.ptr 0 0))) (zq5:sl 5 = .v (.c (.d (.lst l5_0 (enL enSS l5_1))))) (zq7:sl 7 = .v (.c (.d (.sc (.int .i64 e7))))) (zq8:sl 8 = .v (.c (.ptr 1 0))) (zq9:sl 9 = .v (.c (.d (.sc (.int .i64 end9))))) (zq10:sl 10 = .v (.c (.d (.sc (.int .i64 n10))))):
  bodyD (E0 mm) [.cell 4 25,.tmp 5,.tmp 6,.tmp 7] 0 false (den (E0 mm) 23 0 (callW (E0 mm)) itW c23_45 none ⟨sl,[.cells [.d (.sc (.string (S h0_0))),.d (.sc (.string (S h0_1))),.d (.sc (.int .i64 h0_2)),.d (.lst h0_3_0 (enL enSS h0_3_1)),.d (.lst h0_4_0 (enL enB h0_4_1))],.cells [.d (.sc (.string (S h1_0))),.d (.sc (.string (S h1_1))),.d (.sc (.int .i64 h1_2)),.d (.lst h1_3_0 (enL enSS h1_3_1)),.d (.lst h1_4_0 (enL enB h1_4_1))]]⟩) = (j23_45 l5_0 l5_1 e7 end9 n10 h0_0 h0_1 h0_2 h0_3_0 h0_3_1 h0_4_0 h0_4_1 h1_0 h1_1 h1_2 h1_3_0 h1_3_1 h1_4_0 h1_4_1).map e23:=by
 simp -implicitDefEqProofs only [j23_45,c23_45_e,c23_46_e,c23_47_r,(show opsOf c23_47 = _ :: _ from rfl),(show c23_48 = Code.cond _ c23_49 c23_52 from rfl),zq4,zq5,zq7,zq8,zq9,zq10,setA,setB,za,zb,zc,zd,ze,zf,zg,zh,zi,zj,zk,zl,zm,zn,zo,zp,reduceCtorEq,zE,↓reduceIte]
 refine brB (fun yc25=>?_) (fun yc25=>?_)
 ·simp -implicitDefEqProofs only [c23_52_e,c23_53_e,c23_54_r,(show opsOf c23_54 = _ :: _ from rfl),sz25,ag25,c23_55_e,zq4,zq5,zq7,zq8,zq9,zq10,yc25,setA,setB,za,zb,zc,zd,ze,zf,zg,zh,zi,zj,zk,zl,zm,zn,zo,zp,reduceCtorEq,zE,↓reduceIte]
  all_goals rfl
 ·simp -implicitDefEqProofs only [c23_49_e,c23_50_r,(show opsOf c23_50 = _ :: _ from rfl),sz25,ag25,c23_51_e,zq4,zq5,zq7,zq8,zq9,zq10,yc25,setA,setB,za,zb,zc,zd,ze,zf,zg,zh,zi,zj,zk,zl,zm,zn,zo,zp,reduceCtorEq,zE,↓reduceIte]
  all_goals rfl
def j23_42 (l5_0:Bool) (l5_1:List (Bs×Bs)) (e7 end9 n10:Int) (t73:Bool) (h0_0 h0_1:Bs) (h0_2:Int) (h0_3_0:Bool) (h0_3_1:List (Bs×Bs)) (h0_4_0:Bool) (h0_4_1:List UInt8) (h1_0 h1_1:Bs) (h1_2:Int) (h1_3_0:Bool) (h1_3_1:List (Bs×Bs)) (h1_4_0:Bool) (h1_4_1:List UInt8):Option R23:=
 if t73 = true then
  j23_45 l5_0 l5_1 (21:Int) end9 n10 h0_0 h0_1 h0_2 h0_3_0 h0_3_1 h0_4_0 h0_4_1 h1_0 h1_1 h1_2 h1_3_0 h1_3_1 h1_4_0 h1_4_1
 else
  j23_45 l5_0 l5_1 e7 end9 n10 h0_0 h0_1 h0_2 h0_3_0 h0_3_1 h0_4_0 h0_4_1 h1_0 h1_1 h1_2 h1_3_0 h1_3_1 h1_4_0 h1_4_1
theorem j23_42_t (l5_0:Bool) (l5_1:List (Bs×Bs)) (e7 end9 n10:Int) (t73:Bool) (h0_0 h0_1:Bs) (h0_2:Int) (h0_3_0:Bool) (h0_3_1:List (Bs×Bs)) (h0_4_0:Bool) (h0_4_1:List UInt8) (h1_0 h1_1:Bs) (h1_2:Int) (h1_3_0:Bool) (h1_3_1:List (Bs×Bs)) (h1_4_0:Bool) (h1_4_1:List UInt8)  (sl:Nat→AV) (zq4:sl 4 = .v (.c (.ptr 0 0))) (zq5:sl 5 = .v (.c (.d (.lst l5_0 (enL enSS l5_1))))) (zq7:sl 7 = .v (.c (.d (.sc (.int .i64 e7))))) (zq8:sl 8 = .v (.c (.ptr 1 0))) (zq9:sl 9 = .v (.c (.d (.sc (.int .i64 end9))))) (zq10:sl 10 = .v (.c (.d (.sc (.int .i64 n10))))) (zq73:sl 73 = .v (.c (.d (.sc (.bool t73))))):
  bodyD (E0 mm) [.cell 4 25,.tmp 5,.tmp 6,.tmp 7] 0 false (seqD (E0 mm) 23 0 (callW (E0 mm)) itW c23_45 (den (E0 mm) 23 0 (callW (E0 mm)) itW c23_42 none ⟨sl,[.cells [.d (.sc (.string (S h0_0))),.d (.sc (.string (S h0_1))),.d (.sc (.int .i64 h0_2)),.d (.lst h0_3_0 (enL enSS h0_3_1)),.d (.lst h0_4_0 (enL enB h0_4_1))],.cells [.d (.sc (.string (S h1_0))),.d (.sc (.string (S h1_1))),.d (.sc (.int .i64 h1_2)),.d (.lst h1_3_0 (enL enSS h1_3_1)),.d (.lst h1_4_0 (enL enB h1_4_1))]]⟩)) = (j23_42 l5_0 l5_1 e7 end9 n10 t73 h0_0 h0_1 h0_2 h0_3_0 h0_3_1 h0_4_0 h0_4_1 h1_0 h1_1 h1_2 h1_3_0 h1_3_1 h1_4_0 h1_4_1).map e23:=by
 simp -implicitDefEqProofs only [j23_42,(show c23_42 = Code.cond _ c23_43 c23_44 from rfl),zq4,zq5,zq7,zq8,zq9,zq10,zq73,setA,setB,za,zb,zc,zd,ze,zf,zg,zh,zi,zj,zk,zl,zm,zn,zo,zp,reduceCtorEq,zE,↓reduceIte]
 refine brB (fun yc24=>?_) (fun yc24=>?_)
 ·simp -implicitDefEqProofs only [c23_43_r,(show opsOf c23_43 = _ :: _ from rfl),zq4,zq5,zq7,zq8,zq9,zq10,zq73,yc24,setA,setB,za,zb,zc,zd,ze,zf,zg,zh,zi,zj,zk,zl,zm,zn,zo,zp,reduceCtorEq,zE,↓reduceIte]
  exact j23_45_t l5_0 l5_1 (21:Int) end9 n10 h0_0 h0_1 h0_2 h0_3_0 h0_3_1 h0_4_0 h0_4_1 h1_0 h1_1 h1_2 h1_3_0 h1_3_1 h1_4_0 h1_4_1 _ (by exact zq4) (by exact zq5) (by rfl) (by exact zq8) (by exact zq9) (by exact zq10)
 ·simp -implicitDefEqProofs only [c23_44_e,zq4,zq5,zq7,zq8,zq9,zq10,zq73,yc24,setA,setB,za,zb,zc,zd,ze,zf,zg,zh,zi,zj,zk,zl,zm,zn,zo,zp,reduceCtorEq,zE,↓reduceIte]
  exact j23_45_t l5_0 l5_1 e7 end9 n10 h0_0 h0_1 h0_2 h0_3_0 h0_3_1 h0_4_0 h0_4_1 h1_0 h1_1 h1_2 h1_3_0 h1_3_1 h1_4_0 h1_4_1 _ (by exact zq4) (by exact zq5) (by exact zq7) (by exact zq8) (by exact zq9) (by exact zq10)
def j23_22 (b0_0:Bool) (b0_1:List UInt8) (end9:Int) (t30:Bool) (h0_0 h0_1:Bs) (h0_2:Int) (h0_3_0:Bool) (h0_3_1:List (Bs×Bs)) (h0_4_0:Bool) (h0_4_1:List UInt8) (h1_0 h1_1:Bs) (h1_2:Int) (h1_3_0:Bool) (h1_3_1:List (Bs×Bs)) (h1_4_0:Bool) (h1_4_1:List UInt8):Option R23:=
 if t30 = true then
  some (h1_0,h1_1,h1_2,h1_3_0,h1_3_1,h1_4_0,h1_4_1,true,([]:List (Bs×Bs)),(0:Int),(20:Int))
 else
  (bnd (w64 (end9 - 1)) b0_1.length).bind fun yk11=>
   (m24 (b0_1.take yk11)).bind fun yr13=>
    if (yr13.2.2.2.2.2.2.2 == 0) = true then
     (bnd (min2 (b0_1.length:Int) 2048) b0_1.length).bind fun yk16=>
      (bnd (w64 (end9 + 1)) yk16).bind fun yk18=>
       (m47 b0_0 ((b0_1.take yk16).drop yk18)).bind fun yr20=>
        match yr20 with
        | .inl yr21=>
         if (yr21.2.2.2 == 8) = true then
          j23_42 yr21.1 yr21.2.1 yr21.2.2.2 end9 yr21.2.2.1 (decide (2048≤(b0_1.length:Int))) yr13.1 yr13.2.1 yr13.2.2.1 yr13.2.2.2.1 yr13.2.2.2.2.1 yr13.2.2.2.2.2.1 yr13.2.2.2.2.2.2.1 h1_0 h1_1 h1_2 h1_3_0 h1_3_1 h1_4_0 h1_4_1
         else
          j23_42 yr21.1 yr21.2.1 yr21.2.2.2 end9 yr21.2.2.1 false yr13.1 yr13.2.1 yr13.2.2.1 yr13.2.2.2.1 yr13.2.2.2.2.1 yr13.2.2.2.2.2.1 yr13.2.2.2.2.2.2.1 h1_0 h1_1 h1_2 h1_3_0 h1_3_1 h1_4_0 h1_4_1
        | .inr yr22=>
         if (yr22.2.2.2 == 8) = true then
          j23_42 yr22.1 yr22.2.1 yr22.2.2.2 end9 yr22.2.2.1 (decide (2048≤(b0_1.length:Int))) yr13.1 yr13.2.1 yr13.2.2.1 yr13.2.2.2.1 yr13.2.2.2.2.1 yr13.2.2.2.2.2.1 yr13.2.2.2.2.2.2.1 h1_0 h1_1 h1_2 h1_3_0 h1_3_1 h1_4_0 h1_4_1
         else
          j23_42 yr22.1 yr22.2.1 yr22.2.2.2 end9 yr22.2.2.1 false yr13.1 yr13.2.1 yr13.2.2.1 yr13.2.2.2.1 yr13.2.2.2.2.1 yr13.2.2.2.2.2.1 yr13.2.2.2.2.2.2.1 h1_0 h1_1 h1_2 h1_3_0 h1_3_1 h1_4_0 h1_4_1
    else
     some (h1_0,h1_1,h1_2,h1_3_0,h1_3_1,h1_4_0,h1_4_1,true,([]:List (Bs×Bs)),(0:Int),(20:Int))
theorem j23_22_t (b0_0:Bool) (b0_1:List UInt8) (end9:Int) (t30:Bool) (h0_0 h0_1:Bs) (h0_2:Int) (h0_3_0:Bool) (h0_3_1:List (Bs×Bs)) (h0_4_0:Bool) (h0_4_1:List UInt8) (h1_0 h1_1:Bs) (h1_2:Int) (h1_3_0:Bool) (h1_3_1:List (Bs×Bs)) (h1_4_0:Bool) (h1_4_1:List UInt8)  (sl:Nat→AV) (zq0:sl 0 = .v (.c (.d (.lst b0_0 (enL enB b0_1))))) (zq1:sl 1 = .v (.c (.d (.sc (.func (.func 24) #[] #[]))))) (zq4:sl 4 = .v (.c (.ptr 0 0))) (zq8:sl 8 = .v (.c (.ptr 1 0))) (zq9:sl 9 = .v (.c (.d (.sc (.int .i64 end9))))) (zq30:sl 30 = .v (.c (.d (.sc (.bool t30))))):
  bodyD (E0 mm) [.cell 4 25,.tmp 5,.tmp 6,.tmp 7] 0 false (seqD (E0 mm) 23 0 (callW (E0 mm)) itW c23_27 (blockD 0 (den (E0 mm) 23 0 (callW (E0 mm)) itW c23_22 none ⟨sl,[.cells [.d (.sc (.string (S h0_0))),.d (.sc (.string (S h0_1))),.d (.sc (.int .i64 h0_2)),.d (.lst h0_3_0 (enL enSS h0_3_1)),.d (.lst h0_4_0 (enL enB h0_4_1))],.cells [.d (.sc (.string (S h1_0))),.d (.sc (.string (S h1_1))),.d (.sc (.int .i64 h1_2)),.d (.lst h1_3_0 (enL enSS h1_3_1)),.d (.lst h1_4_0 (enL enB h1_4_1))]]⟩))) = (j23_22 b0_0 b0_1 end9 t30 h0_0 h0_1 h0_2 h0_3_0 h0_3_1 h0_4_0 h0_4_1 h1_0 h1_1 h1_2 h1_3_0 h1_3_1 h1_4_0 h1_4_1).map e23:=by
 simp -implicitDefEqProofs only [j23_22,(show c23_22 = Code.cond _ c23_23 c23_26 from rfl),zq0,zq1,zq4,zq8,zq9,zq30,setA,setB,za,zb,zc,zd,ze,zf,zg,zh,zi,zj,zk,zl,zm,zn,zo,zp,reduceCtorEq,zE,↓reduceIte]
 refine brB (fun yc9=>?_) (fun yc9=>?_)
 ·simp -implicitDefEqProofs only [c23_23_e,c23_24_r,(show opsOf c23_24 = _ :: _ from rfl),sz25,ag25,c23_25_e,zq0,zq1,zq4,zq8,zq9,zq30,yc9,setA,setB,za,zb,zc,zd,ze,zf,zg,zh,zi,zj,zk,zl,zm,zn,zo,zp,reduceCtorEq,zE,↓reduceIte]
  all_goals rfl
 ·simp -implicitDefEqProofs only [c23_26_e,c23_27_e,c23_28_r,(show opsOf c23_28 = _ :: _ from rfl),Tryz.underlying22,enB_a,sz5,zq0,zq1,zq4,zq8,zq9,zq30,yc9,setA,setB,za,zb,zc,zd,ze,zf,zg,zh,zi,zj,zk,zl,zm,zn,zo,zp,reduceCtorEq,zE,↓reduceIte]
  refine brM (fun yc10=>?_) (fun yk11 yc10=>?_)
  ·rw [yc10]; rfl
  ·simp -implicitDefEqProofs only [Option.isNone_some,Bool.false_and,Bool.and_false,Bool.false_eq_true,if_false,Tryz.underlying22,Tryz.underlying9,Tryz.underlying5,ent24,prm24,f24_t,zq0,zq1,zq4,zq8,zq9,zq30,yc9,yc10,setA,setB,za,zb,zc,zd,ze,zf,zg,zh,zi,zj,zk,zl,zm,zn,zo,zp,reduceCtorEq,zE,↓reduceIte]
   refine brM (fun yc12=>?_) (fun yr13 yc12=>?_)
   ·rw [yc12]; rfl
   ·simp -implicitDefEqProofs only [e24,sz25,c23_29_e,c23_30_e,c23_31_r,(show opsOf c23_31 = _ :: _ from rfl),(show c23_32 = Code.cond _ c23_33 c23_36 from rfl),zq0,zq1,zq4,zq8,zq9,zq30,yc9,yc10,yc12,setA,setB,za,zb,zc,zd,ze,zf,zg,zh,zi,zj,zk,zl,zm,zn,zo,zp,reduceCtorEq,zE,↓reduceIte]
    refine brB (fun yc14=>?_) (fun yc14=>?_)
    ·simp -implicitDefEqProofs only [c23_36_e,c23_37_e,c23_38_r,(show opsOf c23_38 = _ :: _ from rfl),Tryz.underlying22,Tryz.underlying3,enB_a,sz5,zq0,zq1,zq4,zq8,zq9,zq30,yc9,yc10,yc12,yc14,setA,setB,za,zb,zc,zd,ze,zf,zg,zh,zi,zj,zk,zl,zm,zn,zo,zp,reduceCtorEq,zE,↓reduceIte]
     refine brM (fun yc15=>?_) (fun yk16 yc15=>?_)
     ·rw [yc15]; rfl
     ·simp -implicitDefEqProofs only [zq0,zq1,zq4,zq8,zq9,zq30,yc9,yc10,yc12,yc14,yc15,setA,setB,za,zb,zc,zd,ze,zf,zg,zh,zi,zj,zk,zl,zm,zn,zo,zp,reduceCtorEq,zE,↓reduceIte]
      refine brM (fun yc17=>?_) (fun yk18 yc17=>?_)
      ·rw [yc17]; rfl
      ·simp -implicitDefEqProofs only [Option.isNone_some,Bool.false_and,Bool.and_false,Bool.false_eq_true,if_false,ent47,prm47,f47_t,zq0,zq1,zq4,zq8,zq9,zq30,yc9,yc10,yc12,yc14,yc15,yc17,setA,setB,za,zb,zc,zd,ze,zf,zg,zh,zi,zj,zk,zl,zm,zn,zo,zp,reduceCtorEq,zE,↓reduceIte]
       refine brM (fun yc19=>?_) (fun yr20 yc19=>?_)
       ·rw [yc19]; rfl
       ·rcases yr20 with yr21 | yr22
        ·simp -implicitDefEqProofs only [e47,plainC_t,c23_39_e,c23_40_e,c23_41_r,(show opsOf c23_41 = _ :: _ from rfl),zq0,zq1,zq4,zq8,zq9,zq30,yc9,yc10,yc12,yc14,yc15,yc17,yc19,setA,setB,za,zb,zc,zd,ze,zf,zg,zh,zi,zj,zk,zl,zm,zn,zo,zp,reduceCtorEq,zE,↓reduceIte]
         refine brB (fun yc23=>?_) (fun yc23=>?_)
         ·simp -implicitDefEqProofs only [Tryz.underlying22,zq0,zq1,zq4,zq8,zq9,zq30,yc9,yc10,yc12,yc14,yc15,yc17,yc19,yc23,setA,setB,za,zb,zc,zd,ze,zf,zg,zh,zi,zj,zk,zl,zm,zn,zo,zp,reduceCtorEq,zE,↓reduceIte]
          exact j23_42_t yr21.1 yr21.2.1 yr21.2.2.2 end9 yr21.2.2.1 (decide (2048≤(b0_1.length:Int))) yr13.1 yr13.2.1 yr13.2.2.1 yr13.2.2.2.1 yr13.2.2.2.2.1 yr13.2.2.2.2.2.1 yr13.2.2.2.2.2.2.1 h1_0 h1_1 h1_2 h1_3_0 h1_3_1 h1_4_0 h1_4_1 _ (by exact zq4) (by rfl) (by rfl) (by exact zq8) (by exact zq9) (by rfl) (by rfl)
         ·simp -implicitDefEqProofs only [zq0,zq1,zq4,zq8,zq9,zq30,yc9,yc10,yc12,yc14,yc15,yc17,yc19,yc23,setA,setB,za,zb,zc,zd,ze,zf,zg,zh,zi,zj,zk,zl,zm,zn,zo,zp,reduceCtorEq,zE,↓reduceIte]
          exact j23_42_t yr21.1 yr21.2.1 yr21.2.2.2 end9 yr21.2.2.1 false yr13.1 yr13.2.1 yr13.2.2.1 yr13.2.2.2.1 yr13.2.2.2.2.1 yr13.2.2.2.2.2.1 yr13.2.2.2.2.2.2.1 h1_0 h1_1 h1_2 h1_3_0 h1_3_1 h1_4_0 h1_4_1 _ (by exact zq4) (by rfl) (by rfl) (by exact zq8) (by exact zq9) (by rfl) (by rfl)
        ·simp -implicitDefEqProofs only [e47,plainC_t,c23_39_e,c23_40_e,c23_41_r,(show opsOf c23_41 = _ :: _ from rfl),zq0,zq1,zq4,zq8,zq9,zq30,yc9,yc10,yc12,yc14,yc15,yc17,yc19,setA,setB,za,zb,zc,zd,ze,zf,zg,zh,zi,zj,zk,zl,zm,zn,zo,zp,reduceCtorEq,zE,↓reduceIte]
         refine brB (fun yc26=>?_) (fun yc26=>?_)
         ·simp -implicitDefEqProofs only [Tryz.underlying22,zq0,zq1,zq4,zq8,zq9,zq30,yc9,yc10,yc12,yc14,yc15,yc17,yc19,yc26,setA,setB,za,zb,zc,zd,ze,zf,zg,zh,zi,zj,zk,zl,zm,zn,zo,zp,reduceCtorEq,zE,↓reduceIte]
          exact j23_42_t yr22.1 yr22.2.1 yr22.2.2.2 end9 yr22.2.2.1 (decide (2048≤(b0_1.length:Int))) yr13.1 yr13.2.1 yr13.2.2.1 yr13.2.2.2.1 yr13.2.2.2.2.1 yr13.2.2.2.2.2.1 yr13.2.2.2.2.2.2.1 h1_0 h1_1 h1_2 h1_3_0 h1_3_1 h1_4_0 h1_4_1 _ (by exact zq4) (by rfl) (by rfl) (by exact zq8) (by exact zq9) (by rfl) (by rfl)
         ·simp -implicitDefEqProofs only [zq0,zq1,zq4,zq8,zq9,zq30,yc9,yc10,yc12,yc14,yc15,yc17,yc19,yc26,setA,setB,za,zb,zc,zd,ze,zf,zg,zh,zi,zj,zk,zl,zm,zn,zo,zp,reduceCtorEq,zE,↓reduceIte]
          exact j23_42_t yr22.1 yr22.2.1 yr22.2.2.2 end9 yr22.2.2.1 false yr13.1 yr13.2.1 yr13.2.2.1 yr13.2.2.2.1 yr13.2.2.2.2.1 yr13.2.2.2.2.2.1 yr13.2.2.2.2.2.2.1 h1_0 h1_1 h1_2 h1_3_0 h1_3_1 h1_4_0 h1_4_1 _ (by exact zq4) (by rfl) (by rfl) (by exact zq8) (by exact zq9) (by rfl) (by rfl)
    ·simp -implicitDefEqProofs only [c23_33_e,c23_34_r,(show opsOf c23_34 = _ :: _ from rfl),sz25,ag25,c23_35_e,zq0,zq1,zq4,zq8,zq9,zq30,yc9,yc10,yc12,yc14,setA,setB,za,zb,zc,zd,ze,zf,zg,zh,zi,zj,zk,zl,zm,zn,zo,zp,reduceCtorEq,zE,↓reduceIte]
     all_goals rfl
def j23_10 (b0_0:Bool) (b0_1:List UInt8) (end9:Int) (t17:Bool) (h0_0 h0_1:Bs) (h0_2:Int) (h0_3_0:Bool) (h0_3_1:List (Bs×Bs)) (h0_4_0:Bool) (h0_4_1:List UInt8) (h1_0 h1_1:Bs) (h1_2:Int) (h1_3_0:Bool) (h1_3_1:List (Bs×Bs)) (h1_4_0:Bool) (h1_4_1:List UInt8):Option R23:=
 if t17 = true then
  some (h1_0,h1_1,h1_2,h1_3_0,h1_3_1,h1_4_0,h1_4_1,true,([]:List (Bs×Bs)),(0:Int),(21:Int))
 else
  if (decide (end9 < 0)) = true then
   some (h1_0,h1_1,h1_2,h1_3_0,h1_3_1,h1_4_0,h1_4_1,true,([]:List (Bs×Bs)),(0:Int),(8:Int))
  else
   if (end9 == 0) = true then
    j23_22 b0_0 b0_1 end9 true h0_0 h0_1 h0_2 h0_3_0 h0_3_1 h0_4_0 h0_4_1 h1_0 h1_1 h1_2 h1_3_0 h1_3_1 h1_4_0 h1_4_1
   else
    if 0≤(w64 (end9 - 1))∧(w64 (end9 - 1)) < (b0_1.length:Int) then
     j23_22 b0_0 b0_1 end9 (!((b0_1.getD ((w64 (end9 - 1)).toNat) default) == (13:UInt8))) h0_0 h0_1 h0_2 h0_3_0 h0_3_1 h0_4_0 h0_4_1 h1_0 h1_1 h1_2 h1_3_0 h1_3_1 h1_4_0 h1_4_1
    else none
theorem j23_10_t (b0_0:Bool) (b0_1:List UInt8) (end9:Int) (t17:Bool) (h0_0 h0_1:Bs) (h0_2:Int) (h0_3_0:Bool) (h0_3_1:List (Bs×Bs)) (h0_4_0:Bool) (h0_4_1:List UInt8) (h1_0 h1_1:Bs) (h1_2:Int) (h1_3_0:Bool) (h1_3_1:List (Bs×Bs)) (h1_4_0:Bool) (h1_4_1:List UInt8)  (sl:Nat→AV) (zq0:sl 0 = .v (.c (.d (.lst b0_0 (enL enB b0_1))))) (zq1:sl 1 = .v (.c (.d (.sc (.func (.func 24) #[] #[]))))) (zq4:sl 4 = .v (.c (.ptr 0 0))) (zq8:sl 8 = .v (.c (.ptr 1 0))) (zq9:sl 9 = .v (.c (.d (.sc (.int .i64 end9))))) (zq17:sl 17 = .v (.c (.d (.sc (.bool t17))))):
  bodyD (E0 mm) [.cell 4 25,.tmp 5,.tmp 6,.tmp 7] 0 false (seqD (E0 mm) 23 0 (callW (E0 mm)) itW c23_27 (blockD 0 (den (E0 mm) 23 0 (callW (E0 mm)) itW c23_10 none ⟨sl,[.cells [.d (.sc (.string (S h0_0))),.d (.sc (.string (S h0_1))),.d (.sc (.int .i64 h0_2)),.d (.lst h0_3_0 (enL enSS h0_3_1)),.d (.lst h0_4_0 (enL enB h0_4_1))],.cells [.d (.sc (.string (S h1_0))),.d (.sc (.string (S h1_1))),.d (.sc (.int .i64 h1_2)),.d (.lst h1_3_0 (enL enSS h1_3_1)),.d (.lst h1_4_0 (enL enB h1_4_1))]]⟩))) = (j23_10 b0_0 b0_1 end9 t17 h0_0 h0_1 h0_2 h0_3_0 h0_3_1 h0_4_0 h0_4_1 h1_0 h1_1 h1_2 h1_3_0 h1_3_1 h1_4_0 h1_4_1).map e23:=by
 simp -implicitDefEqProofs only [j23_10,(show c23_10 = Code.cond _ c23_11 c23_14 from rfl),zq0,zq1,zq4,zq8,zq9,zq17,setA,setB,za,zb,zc,zd,ze,zf,zg,zh,zi,zj,zk,zl,zm,zn,zo,zp,reduceCtorEq,zE,↓reduceIte]
 refine brB (fun yc6=>?_) (fun yc6=>?_)
 ·simp -implicitDefEqProofs only [c23_11_e,c23_12_r,(show opsOf c23_12 = _ :: _ from rfl),sz25,ag25,c23_13_e,zq0,zq1,zq4,zq8,zq9,zq17,yc6,setA,setB,za,zb,zc,zd,ze,zf,zg,zh,zi,zj,zk,zl,zm,zn,zo,zp,reduceCtorEq,zE,↓reduceIte]
  all_goals rfl
 ·simp -implicitDefEqProofs only [c23_14_e,c23_15_r,(show opsOf c23_15 = _ :: _ from rfl),(show c23_16 = Code.cond _ c23_17 c23_20 from rfl),zq0,zq1,zq4,zq8,zq9,zq17,yc6,setA,setB,za,zb,zc,zd,ze,zf,zg,zh,zi,zj,zk,zl,zm,zn,zo,zp,reduceCtorEq,zE,↓reduceIte]
  refine brB (fun yc7=>?_) (fun yc7=>?_)
  ·simp -implicitDefEqProofs only [c23_17_e,c23_18_r,(show opsOf c23_18 = _ :: _ from rfl),sz25,ag25,c23_19_e,zq0,zq1,zq4,zq8,zq9,zq17,yc6,yc7,setA,setB,za,zb,zc,zd,ze,zf,zg,zh,zi,zj,zk,zl,zm,zn,zo,zp,reduceCtorEq,zE,↓reduceIte]
   all_goals rfl
  ·simp -implicitDefEqProofs only [c23_20_e,c23_21_r,(show opsOf c23_21 = _ :: _ from rfl),zq0,zq1,zq4,zq8,zq9,zq17,yc6,yc7,setA,setB,za,zb,zc,zd,ze,zf,zg,zh,zi,zj,zk,zl,zm,zn,zo,zp,reduceCtorEq,zE,↓reduceIte]
   refine brB (fun yc8=>?_) (fun yc8=>?_)
   ·simp -implicitDefEqProofs only [zq0,zq1,zq4,zq8,zq9,zq17,yc6,yc7,yc8,setA,setB,za,zb,zc,zd,ze,zf,zg,zh,zi,zj,zk,zl,zm,zn,zo,zp,reduceCtorEq,zE,↓reduceIte]
    exact j23_22_t b0_0 b0_1 end9 true h0_0 h0_1 h0_2 h0_3_0 h0_3_1 h0_4_0 h0_4_1 h1_0 h1_1 h1_2 h1_3_0 h1_3_1 h1_4_0 h1_4_1 _ (by exact zq0) (by exact zq1) (by exact zq4) (by exact zq8) (by exact zq9) (by rfl)
   ·simp -implicitDefEqProofs only [Tryz.underlying22,sz5,enB_a,zq0,zq1,zq4,zq8,zq9,zq17,yc6,yc7,yc8,setA,setB,za,zb,zc,zd,ze,zf,zg,zh,zi,zj,zk,zl,zm,zn,zo,zp,reduceCtorEq,zE,↓reduceIte]
    refine brP (fun yc27=>?_) (fun yc27=>?_)
    ·have yd28:(w64 (end9 - 1)).toNat < b0_1.length:=by omega
     simp -implicitDefEqProofs only [(enL_get enB b0_1 ((w64 (end9 - 1)).toNat) yd28),enB_e,sz5,ag5,zq0,zq1,zq4,zq8,zq9,zq17,yc6,yc7,yc8,yc27,yd28,setA,setB,za,zb,zc,zd,ze,zf,zg,zh,zi,zj,zk,zl,zm,zn,zo,zp,reduceCtorEq,zE,↓reduceIte]
     exact j23_22_t b0_0 b0_1 end9 (!((b0_1.getD ((w64 (end9 - 1)).toNat) default) == (13:UInt8))) h0_0 h0_1 h0_2 h0_3_0 h0_3_1 h0_4_0 h0_4_1 h1_0 h1_1 h1_2 h1_3_0 h1_3_1 h1_4_0 h1_4_1 _ (by exact zq0) (by exact zq1) (by exact zq4) (by exact zq8) (by exact zq9) (by rfl)
    ·rw [if_neg yc27]; rfl
def m23 (b_0:Bool) (b_1:List UInt8):Option R23:=
 (bnd (min2 (b_1.length:Int) 512) b_1.length).bind fun yk2=>
  (m46 b_0 (b_1.take yk2) (10:UInt8)).bind fun yr4=>
   if (decide (yr4 < 0)) = true then
    j23_10 b_0 b_1 yr4 (decide (512≤(b_1.length:Int))) ([]:Bs) ([]:Bs) (0:Int) true ([]:List (Bs×Bs)) true ([]:List UInt8) ([]:Bs) ([]:Bs) (0:Int) true ([]:List (Bs×Bs)) true ([]:List UInt8)
   else
    j23_10 b_0 b_1 yr4 false ([]:Bs) ([]:Bs) (0:Int) true ([]:List (Bs×Bs)) true ([]:List UInt8) ([]:Bs) ([]:Bs) (0:Int) true ([]:List (Bs×Bs)) true ([]:List UInt8)
theorem f23_t (b_0:Bool) (b_1:List UInt8):
  callW (E0 mm) 23 [.c (.d (.lst b_0 (enL enB b_1))),.c (.d (.sc (.func (.func 24) #[] #[])))] [] = (m23 b_0 b_1).map e23:=by
 rw [callW_run (body:=c23_0) (res:=[.cell 4 25,.tmp 5,.tmp 6,.tmp 7]) Tryz.func23 rfl rfl (by kernel_rfl)]
 simp -implicitDefEqProofs only [m23,slots2,c23_0_e,c23_1_r,(show opsOf c23_1 = _ :: _ from rfl),zc25,ao6,c23_2_e,c23_3_r,(show opsOf c23_3 = _ :: _ from rfl),ao7,c23_4_e,c23_5_r,(show opsOf c23_5 = _ :: _ from rfl),Tryz.underlying22,Tryz.underlying3,enB_a,sz5,setA,setB,za,zb,zc,zd,ze,zf,zg,zh,zi,zj,zk,zl,zm,zn,zo,zp,reduceCtorEq,zE,↓reduceIte]
 refine brM (fun yc1=>?_) (fun yk2 yc1=>?_)
 ·rw [yc1]; rfl
 ·simp -implicitDefEqProofs only [Option.isNone_some,Bool.false_and,Bool.and_false,Bool.false_eq_true,if_false,ent46,prm46,f46_t,yc1,setA,setB,za,zb,zc,zd,ze,zf,zg,zh,zi,zj,zk,zl,zm,zn,zo,zp,reduceCtorEq,zE,↓reduceIte]
  refine brM (fun yc3=>?_) (fun yr4 yc3=>?_)
  ·rw [yc3]; rfl
  ·simp -implicitDefEqProofs only [e46,c23_6_e,c23_7_e,c23_8_e,c23_9_r,(show opsOf c23_9 = _ :: _ from rfl),yc1,yc3,setA,setB,za,zb,zc,zd,ze,zf,zg,zh,zi,zj,zk,zl,zm,zn,zo,zp,reduceCtorEq,zE,↓reduceIte]
   refine brB (fun yc5=>?_) (fun yc5=>?_)
   ·simp -implicitDefEqProofs only [Tryz.underlying22,yc1,yc3,yc5,setA,setB,za,zb,zc,zd,ze,zf,zg,zh,zi,zj,zk,zl,zm,zn,zo,zp,reduceCtorEq,zE,↓reduceIte]
    exact j23_10_t b_0 b_1 yr4 (decide (512≤(b_1.length:Int))) ([]:Bs) ([]:Bs) (0:Int) true ([]:List (Bs×Bs)) true ([]:List UInt8) ([]:Bs) ([]:Bs) (0:Int) true ([]:List (Bs×Bs)) true ([]:List UInt8) _ (by rfl) (by rfl) (by rfl) (by rfl) (by rfl) (by rfl)
   ·simp -implicitDefEqProofs only [yc1,yc3,yc5,setA,setB,za,zb,zc,zd,ze,zf,zg,zh,zi,zj,zk,zl,zm,zn,zo,zp,reduceCtorEq,zE,↓reduceIte]
    exact j23_10_t b_0 b_1 yr4 false ([]:Bs) ([]:Bs) (0:Int) true ([]:List (Bs×Bs)) true ([]:List UInt8) ([]:Bs) ([]:Bs) (0:Int) true ([]:List (Bs×Bs)) true ([]:List UInt8) _ (by rfl) (by rfl) (by rfl) (by rfl) (by rfl) (by rfl)
noncomputable def c105_0:Code:=bodyOf Tryz.f105
def c105_1:=cA c105_0
def c105_2:=cB c105_0
def c105_3:=cA c105_2
def c105_4:=cB c105_2
def c105_5:=cA c105_4
def c105_6:=cA c105_5
def c105_7:=cB c105_5
def c105_8:=cA c105_7
def c105_9:=cA c105_8
def c105_10:=cA c105_9
def c105_11:=cB c105_9
def c105_12:=cA c105_11
def c105_13:=cA c105_12
def c105_14:=cB c105_12
def c105_15:=cB c105_11
def c105_16:=cA c105_15
def c105_17:=cA c105_16
def c105_18:=cA c105_17
def c105_19:=cB c105_17
def c105_20:=cA c105_19
def c105_21:=cB c105_19
def c105_22:=cA c105_21
def c105_23:=cB c105_21
def c105_24:=cB c105_15
def c105_25:=cB c105_4
def c105_26:=cA c105_25
def c105_27:=cB c105_25
theorem c105_0_e:c105_0 = .seq c105_1 c105_2:=rfl
theorem c105_1_r:RG (E0 mm) 105 c105_1:=rgN rfl
theorem c105_2_e:c105_2 = .seq c105_3 c105_4:=rfl
theorem c105_3_r:RG (E0 mm) 105 c105_3:=rgN rfl
theorem c105_4_e:c105_4 = .seq c105_5 c105_25:=rfl
theorem c105_5_e:c105_5 = .seq c105_6 c105_7:=rfl
theorem c105_6_r:RG (E0 mm) 105 c105_6:=rgN rfl
theorem c105_7_e:c105_7 = .block 0 c105_8:=rfl
theorem c105_8_l (m:Nat) (st:St):den (E0 mm) 105 m (callW (E0 mm)) itW c105_8 none st = loopD itW (loopF (E0 mm) 105 m (callW (E0 mm)) itW c105_9 [(3,.keep),(8,.keep),(9,.keep),(10,.keep)]) (canon m [(3,.keep),(8,.keep),(9,.keep),(10,.keep)] st):=rfl
theorem c105_9_e:c105_9 = .seq c105_10 c105_11:=rfl
theorem c105_10_r:RG (E0 mm) 105 c105_10:=rgN rfl
theorem c105_11_e:c105_11 = .seq c105_12 c105_15:=rfl
theorem c105_13_e:c105_13 = .skip:=rfl
theorem c105_14_e:c105_14 = .exit 0:=rfl
theorem c105_15_e:c105_15 = .seq c105_16 c105_24:=rfl
theorem c105_16_e:c105_16 = .block 1 c105_17:=rfl
theorem c105_17_e:c105_17 = .seq c105_18 c105_19:=rfl
theorem c105_18_r:RG (E0 mm) 105 c105_18:=rgN rfl
theorem c105_19_e:c105_19 = .seq c105_20 c105_21:=rfl
theorem c105_20_r:RG (E0 mm) 105 c105_20:=rgN rfl
theorem c105_22_r:RG (E0 mm) 105 c105_22:=rgN rfl
theorem c105_23_e:c105_23 = .skip:=rfl
theorem c105_24_r:RG (E0 mm) 105 c105_24:=rgN rfl
theorem c105_25_e:c105_25 = .seq c105_26 c105_27:=rfl
theorem c105_26_r:RG (E0 mm) 105 c105_26:=rgN rfl
theorem c105_27_e:c105_27 = .ret:=rfl
abbrev R105:=(Bs)
def e105:R105→AV×Heap:=fun x=>(.v (.c (.d (.sc (.string (S x))))),[])
def K105_8:Option (Ex×St)→Option (AV×Heap):=fun r=>bodyD (E0 mm) [.tmp 2] 0 false (seqD (E0 mm) 105 0 (callW (E0 mm)) itW c105_25 (blockD 0 (r)))
def en105_8:(Nat×Nat×Int×Int×List UInt8)→X:=fun x=>(none,[.v (.c (.slc 0 0 1 x.1 none)),.v (.c (.slc 0 0 1 x.2.1 none)),.v (.c (.d (.sc (.int .i64 x.2.2.1)))),.v (.c (.d (.sc (.int .i64 x.2.2.2.1))))],[.cells (enC x.2.2.2.2)])
def j105_24 (b3_1 t8_1:Nat) (t9 t10:Int) (h0:List UInt8):Option ((Nat×Nat×Int×Int×List UInt8) ⊕ R105):=
 some (.inl (b3_1,t8_1,t9,(w64 (t10 + 1)),h0))
theorem j105_24_t (b3_1 t8_1:Nat) (t9 t10:Int) (h0:List UInt8)  (sl:Nat→AV) (zq3:sl 3 = .v (.c (.slc 0 0 1 b3_1 none))) (zq8:sl 8 = .v (.c (.slc 0 0 1 t8_1 none))) (zq9:sl 9 = .v (.c (.d (.sc (.int .i64 t9))))) (zq10:sl 10 = .v (.c (.d (.sc (.int .i64 t10))))):
  stepE (K105_8 (mm:=mm)) (loopK 0 [(3,.keep),(8,.keep),(9,.keep),(10,.keep)] (den (E0 mm) 105 0 (callW (E0 mm)) itW c105_24 none ⟨sl,[.cells (enC h0)]⟩)) = (j105_24 b3_1 t8_1 t9 t10 h0).map (sm en105_8 e105):=by
 simp -implicitDefEqProofs only [j105_24,c105_24_r,(show opsOf c105_24 = _ :: _ from rfl),zq3,zq8,zq9,zq10,setA,setB,za,zb,zc,zd,ze,zf,zg,zh,zi,zj,zk,zl,zm,zn,zo,zp,reduceCtorEq,zE,↓reduceIte]
 all_goals rfl
def j105_21 (b3_1:Nat) (i4:Int) (c5:UInt8) (t8_1:Nat) (t9 t10:Int) (t20:Bool) (h0:List UInt8):Option ((Nat×Nat×Int×Int×List UInt8) ⊕ R105):=
 if t20 = true then
  if 0≤i4∧i4 < (b3_1:Int) then
   if i4.toNat < h0.length then
    j105_24 b3_1 t8_1 t9 t10 (h0.set i4.toNat ((c5 + (97:UInt8)) - (65:UInt8)))
   else none
  else none
 else
  j105_24 b3_1 t8_1 t9 t10 h0
theorem j105_21_t (b3_1:Nat) (i4:Int) (c5:UInt8) (t8_1:Nat) (t9 t10:Int) (t20:Bool) (h0:List UInt8)  (sl:Nat→AV) (zq3:sl 3 = .v (.c (.slc 0 0 1 b3_1 none))) (zq4:sl 4 = .v (.c (.d (.sc (.int .i64 i4))))) (zq5:sl 5 = .v (.c (.d (.sc (.int .u8 ((c5).toNat:Int)))))) (zq8:sl 8 = .v (.c (.slc 0 0 1 t8_1 none))) (zq9:sl 9 = .v (.c (.d (.sc (.int .i64 t9))))) (zq10:sl 10 = .v (.c (.d (.sc (.int .i64 t10))))) (zq20:sl 20 = .v (.c (.d (.sc (.bool t20))))):
  stepE (K105_8 (mm:=mm)) (loopK 0 [(3,.keep),(8,.keep),(9,.keep),(10,.keep)] (seqD (E0 mm) 105 0 (callW (E0 mm)) itW c105_24 (blockD 1 (den (E0 mm) 105 0 (callW (E0 mm)) itW c105_21 none ⟨sl,[.cells (enC h0)]⟩)))) = (j105_21 b3_1 i4 c5 t8_1 t9 t10 t20 h0).map (sm en105_8 e105):=by
 simp -implicitDefEqProofs only [j105_21,(show c105_21 = Code.cond _ c105_22 c105_23 from rfl),zq3,zq4,zq5,zq8,zq9,zq10,zq20,setA,setB,za,zb,zc,zd,ze,zf,zg,zh,zi,zj,zk,zl,zm,zn,zo,zp,reduceCtorEq,zE,↓reduceIte]
 refine brB (fun yc6=>?_) (fun yc6=>?_)
 ·simp -implicitDefEqProofs only [c105_22_r,(show opsOf c105_22 = _ :: _ from rfl),Tryz.underlying22,sz5,zq3,zq4,zq5,zq8,zq9,zq10,zq20,yc6,setA,setB,za,zb,zc,zd,ze,zf,zg,zh,zi,zj,zk,zl,zm,zn,zo,zp,reduceCtorEq,zE,↓reduceIte]
  refine brP (fun yc7=>?_) (fun yc7=>?_)
  ·have yd8:i4.toNat < b3_1:=by omega
   simp -implicitDefEqProofs only [sz5,enC_length,enC_wr,zq3,zq4,zq5,zq8,zq9,zq10,zq20,yc6,yc7,yd8,setA,setB,za,zb,zc,zd,ze,zf,zg,zh,zi,zj,zk,zl,zm,zn,zo,zp,reduceCtorEq,zE,↓reduceIte]
   refine brP (fun yc9=>?_) (fun yc9=>?_)
   ·simp -implicitDefEqProofs only [zq3,zq4,zq5,zq8,zq9,zq10,zq20,yc6,yc7,yd8,yc9,setA,setB,za,zb,zc,zd,ze,zf,zg,zh,zi,zj,zk,zl,zm,zn,zo,zp,reduceCtorEq,zE,↓reduceIte]
    exact j105_24_t b3_1 t8_1 t9 t10 (h0.set i4.toNat ((c5 + (97:UInt8)) - (65:UInt8))) _ (by exact zq3) (by exact zq8) (by exact zq9) (by exact zq10)
   ·rw [if_neg yc9]; rfl
  ·rw [if_neg yc7]; rfl
 ·simp -implicitDefEqProofs only [c105_23_e,zq3,zq4,zq5,zq8,zq9,zq10,zq20,yc6,setA,setB,za,zb,zc,zd,ze,zf,zg,zh,zi,zj,zk,zl,zm,zn,zo,zp,reduceCtorEq,zE,↓reduceIte]
  exact j105_24_t b3_1 t8_1 t9 t10 h0 _ (by exact zq3) (by exact zq8) (by exact zq9) (by exact zq10)
def j105_25 (b3_1:Nat) (h0:List UInt8):Option R105:=
 if b3_1≤h0.length then
  some (h0.take b3_1)
 else none
theorem j105_25_t (b3_1:Nat) (h0:List UInt8)  (sl:Nat→AV) (zq3:sl 3 = .v (.c (.slc 0 0 1 b3_1 none))):
  bodyD (E0 mm) [.tmp 2] 0 false (den (E0 mm) 105 0 (callW (E0 mm)) itW c105_25 none ⟨sl,[.cells (enC h0)]⟩) = (j105_25 b3_1 h0).map e105:=by
 simp -implicitDefEqProofs only [j105_25,c105_25_e,c105_26_r,(show opsOf c105_26 = _ :: _ from rfl),Tryz.underlying22,Tryz.underlying9,Tryz.underlying5,enC_length,enC_take,mapM_enC,zq3,setA,setB,za,zb,zc,zd,ze,zf,zg,zh,zi,zj,zk,zl,zm,zn,zo,zp,reduceCtorEq,zE,↓reduceIte]
 refine brP (fun yc10=>?_) (fun yc10=>?_)
 ·simp -implicitDefEqProofs only [enC_length,enC_take,mapM_enC,(chunk_enD b3_1 h0 yc10),c105_27_e,zq3,yc10,setA,setB,za,zb,zc,zd,ze,zf,zg,zh,zi,zj,zk,zl,zm,zn,zo,zp,reduceCtorEq,zE,↓reduceIte]
  all_goals rfl
 ·rw [if_neg yc10]; rfl
def s105_8 (b3_1 t8_1:Nat) (t9 t10:Int) (h0:List UInt8):Option ((Nat×Nat×Int×Int×List UInt8) ⊕ R105):=
 if (decide (t10 < t9)) = true then
  if 0≤t10∧t10 < (t8_1:Int) then
   if t10.toNat < h0.length then
    if (decide ((65:UInt8)≤(h0.getD t10.toNat 0))) = true then
     j105_21 b3_1 t10 (h0.getD t10.toNat 0) t8_1 t9 t10 (decide ((h0.getD t10.toNat 0)≤(90:UInt8))) h0
    else
     j105_21 b3_1 t10 (h0.getD t10.toNat 0) t8_1 t9 t10 false h0
   else none
  else none
 else
  (j105_25 b3_1 h0).map .inr
theorem s105_8_t (b3_1 t8_1:Nat) (t9 t10:Int) (h0:List UInt8):
  stepE (K105_8 (mm:=mm)) (loopF (E0 mm) 105 0 (callW (E0 mm)) itW c105_9 [(3,.keep),(8,.keep),(9,.keep),(10,.keep)] (none,[.v (.c (.slc 0 0 1 b3_1 none)),.v (.c (.slc 0 0 1 t8_1 none)),.v (.c (.d (.sc (.int .i64 t9)))),.v (.c (.d (.sc (.int .i64 t10))))],[.cells (enC h0)])) = (s105_8 b3_1 t8_1 t9 t10 h0).map (sm en105_8 e105):=by
 simp -implicitDefEqProofs only [s105_8,loopF_eq,c105_9_e,c105_10_r,(show opsOf c105_10 = _ :: _ from rfl),c105_11_e,(show c105_12 = Code.cond _ c105_13 c105_14 from rfl),setA,setB,za,zb,zc,zd,ze,zf,zg,zh,zi,zj,zk,zl,zm,zn,zo,zp,reduceCtorEq,zE,↓reduceIte]
 refine brB (fun yc1=>?_) (fun yc1=>?_)
 ·simp -implicitDefEqProofs only [c105_13_e,c105_15_e,c105_16_e,c105_17_e,c105_18_r,(show opsOf c105_18 = _ :: _ from rfl),Tryz.underlying22,sz5,yc1,setA,setB,za,zb,zc,zd,ze,zf,zg,zh,zi,zj,zk,zl,zm,zn,zo,zp,reduceCtorEq,zE,↓reduceIte]
  refine brP (fun yc2=>?_) (fun yc2=>?_)
  ·have yd3:t10.toNat < t8_1:=by omega
   simp -implicitDefEqProofs only [sz5,ag5,enC_length,yc1,yc2,yd3,setA,setB,za,zb,zc,zd,ze,zf,zg,zh,zi,zj,zk,zl,zm,zn,zo,zp,reduceCtorEq,zE,↓reduceIte]
   refine brP (fun yc4=>?_) (fun yc4=>?_)
   ·simp -implicitDefEqProofs only [(enC_load h0 t10.toNat yc4),c105_19_e,c105_20_r,(show opsOf c105_20 = _ :: _ from rfl),yc1,yc2,yd3,yc4,setA,setB,za,zb,zc,zd,ze,zf,zg,zh,zi,zj,zk,zl,zm,zn,zo,zp,reduceCtorEq,zE,↓reduceIte]
    refine brB (fun yc5=>?_) (fun yc5=>?_)
    ·simp -implicitDefEqProofs only [yc1,yc2,yd3,yc4,yc5,setA,setB,za,zb,zc,zd,ze,zf,zg,zh,zi,zj,zk,zl,zm,zn,zo,zp,reduceCtorEq,zE,↓reduceIte]
     exact j105_21_t b3_1 t10 (h0.getD t10.toNat 0) t8_1 t9 t10 (decide ((h0.getD t10.toNat 0)≤(90:UInt8))) h0 _ (by rfl) (by rfl) (by rfl) (by rfl) (by rfl) (by rfl) (by rfl)
    ·simp -implicitDefEqProofs only [yc1,yc2,yd3,yc4,yc5,setA,setB,za,zb,zc,zd,ze,zf,zg,zh,zi,zj,zk,zl,zm,zn,zo,zp,reduceCtorEq,zE,↓reduceIte]
     exact j105_21_t b3_1 t10 (h0.getD t10.toNat 0) t8_1 t9 t10 false h0 _ (by rfl) (by rfl) (by rfl) (by rfl) (by rfl) (by rfl) (by rfl)
   ·rw [if_neg yc4]; rfl
  ·rw [if_neg yc2]; rfl
 ·simp -implicitDefEqProofs only [c105_14_e,K105_8,yc1,setA,setB,za,zb,zc,zd,ze,zf,zg,zh,zi,zj,zk,zl,zm,zn,zo,zp,reduceCtorEq,zE,↓reduceIte]
  exact mi (j105_25_t b3_1 h0 _ (by rfl))
def l105_8 (b3_1 t8_1:Nat) (t9 t10:Int) (h0:List UInt8):Option R105:=iter (fun x:(Nat×Nat×Int×Int×List UInt8)=>s105_8 x.1 x.2.1 x.2.2.1 x.2.2.2.1 x.2.2.2.2) (b3_1,t8_1,t9,t10,h0)
theorem l105_8_t (b3_1 t8_1:Nat) (t9 t10:Int) (h0:List UInt8):bodyD (E0 mm) [.tmp 2] 0 false (seqD (E0 mm) 105 0 (callW (E0 mm)) itW c105_25 (blockD 0 (itW (loopF (E0 mm) 105 0 (callW (E0 mm)) itW c105_9 [(3,.keep),(8,.keep),(9,.keep),(10,.keep)]) (none,[.v (.c (.slc 0 0 1 b3_1 none)),.v (.c (.slc 0 0 1 t8_1 none)),.v (.c (.d (.sc (.int .i64 t9)))),.v (.c (.d (.sc (.int .i64 t10))))],[.cells (enC h0)])))) = (l105_8 b3_1 t8_1 t9 t10 h0).map e105:=
 it_sim (K:=(K105_8 (mm:=mm))) rfl (enc:=en105_8) (fun x=>s105_8_t x.1 x.2.1 x.2.2.1 x.2.2.2.1 x.2.2.2.2) (b3_1,t8_1,t9,t10,h0)
def m105 (s:Bs):Option R105:=
 l105_8 s.length s.length (s.length:Int) (0:Int) s
theorem f105_t (s:Bs):
  callW (E0 mm) 105 [.c (.d (.sc (.string (S s))))] [] = (m105 s).map e105:=by
 rw [callW_run (body:=c105_0) (res:=[.tmp 2]) Tryz.func105 rfl rfl (by kernel_rfl)]
 simp -implicitDefEqProofs only [m105,slots1,c105_0_e,c105_1_r,(show opsOf c105_1 = _ :: _ from rfl),c105_2_e,c105_3_r,(show opsOf c105_3 = _ :: _ from rfl),Tryz.underlying9,Tryz.underlying22,Tryz.underlying5,hd26,enC_S,S_size,c105_4_e,c105_5_e,c105_6_r,(show opsOf c105_6 = _ :: _ from rfl),c105_7_e,c105_8_l,setA,setB,za,zb,zc,zd,ze,zf,zg,zh,zi,zj,zk,zl,zm,zn,zo,zp,reduceCtorEq,zE,↓reduceIte]
 exact l105_8_t s.length s.length (s.length:Int) (0:Int) s
noncomputable def c68_0:Code:=bodyOf Tryz.f68
def c68_1:=cA c68_0
def c68_2:=cB c68_0
def c68_3:=cA c68_2
def c68_4:=cB c68_2
theorem c68_0_e:c68_0 = .seq c68_1 c68_2:=rfl
theorem c68_1_r:RG (E0 mm) 68 c68_1:=rgN rfl
theorem c68_2_e:c68_2 = .seq c68_3 c68_4:=rfl
theorem c68_3_r:RG (E0 mm) 68 c68_3:=rgN rfl
theorem c68_4_e:c68_4 = .ret:=rfl
abbrev R68:=(Bool)
def e68:R68→AV×Heap:=fun x=>(.v (.c (.d (.sc (.bool x)))),[])
def m68 (a b:Bs):Option R68:=
 (m105 a).bind fun yr2=>
  (m105 b).bind fun yr4=>
   some (yr2 == yr4)
theorem f68_t (a b:Bs):
  callW (E0 mm) 68 [.c (.d (.sc (.string (S a)))),.c (.d (.sc (.string (S b))))] [] = (m68 a b).map e68:=by
 rw [callW_run (body:=c68_0) (res:=[.tmp 4]) Tryz.func68 rfl rfl (by kernel_rfl)]
 simp -implicitDefEqProofs only [m68,slots2,c68_0_e,c68_1_r,(show opsOf c68_1 = _ :: _ from rfl),c68_2_e,c68_3_r,(show opsOf c68_3 = _ :: _ from rfl),ent105,prm105,f105_t,setA,setB,za,zb,zc,zd,ze,zf,zg,zh,zi,zj,zk,zl,zm,zn,zo,zp,reduceCtorEq,zE,↓reduceIte]
 refine brM (fun yc1=>?_) (fun yr2 yc1=>?_)
 ·rw [yc1]; rfl
 ·simp -implicitDefEqProofs only [e105,ent105,prm105,f105_t,yc1,setA,setB,za,zb,zc,zd,ze,zf,zg,zh,zi,zj,zk,zl,zm,zn,zo,zp,reduceCtorEq,zE,↓reduceIte]
  refine brM (fun yc3=>?_) (fun yr4 yc3=>?_)
  ·rw [yc3]; rfl
  ·simp -implicitDefEqProofs only [e105,c68_4_e,yc1,yc3,setA,setB,za,zb,zc,zd,ze,zf,zg,zh,zi,zj,zk,zl,zm,zn,zo,zp,reduceCtorEq,zE,↓reduceIte]
   all_goals rfl
noncomputable def c84_0:Code:=bodyOf Tryz.f84
def c84_1:=cA c84_0
def c84_2:=cB c84_0
def c84_3:=cA c84_2
def c84_4:=cB c84_2
def c84_5:=cA c84_4
def c84_6:=cA c84_5
def c84_7:=cB c84_5
def c84_8:=cA c84_7
def c84_9:=cA c84_8
def c84_10:=cA c84_9
def c84_11:=cB c84_9
def c84_12:=cA c84_11
def c84_13:=cA c84_12
def c84_14:=cB c84_12
def c84_15:=cB c84_11
def c84_16:=cA c84_15
def c84_17:=cA c84_16
def c84_18:=cA c84_17
def c84_19:=cB c84_17
def c84_20:=cA c84_19
def c84_21:=cB c84_19
def c84_22:=cA c84_21
def c84_23:=cB c84_21
def c84_24:=cB c84_15
def c84_25:=cB c84_4
def c84_26:=cA c84_25
def c84_27:=cB c84_25
theorem c84_0_e:c84_0 = .seq c84_1 c84_2:=rfl
theorem c84_1_r:RG (E0 mm) 84 c84_1:=rgN rfl
theorem c84_2_e:c84_2 = .seq c84_3 c84_4:=rfl
theorem c84_3_r:RG (E0 mm) 84 c84_3:=rgN rfl
theorem c84_4_e:c84_4 = .seq c84_5 c84_25:=rfl
theorem c84_5_e:c84_5 = .seq c84_6 c84_7:=rfl
theorem c84_6_r:RG (E0 mm) 84 c84_6:=rgN rfl
theorem c84_7_e:c84_7 = .block 0 c84_8:=rfl
theorem c84_8_l (m:Nat) (st:St):den (E0 mm) 84 m (callW (E0 mm)) itW c84_8 none st = loopD itW (loopF (E0 mm) 84 m (callW (E0 mm)) itW c84_9 [(1,.keep),(5,.own),(8,.keep),(9,.keep),(10,.keep)]) (canon m [(1,.keep),(5,.own),(8,.keep),(9,.keep),(10,.keep)] st):=rfl
theorem c84_9_e:c84_9 = .seq c84_10 c84_11:=rfl
theorem c84_10_r:RG (E0 mm) 84 c84_10:=rgN rfl
theorem c84_11_e:c84_11 = .seq c84_12 c84_15:=rfl
theorem c84_13_e:c84_13 = .skip:=rfl
theorem c84_14_e:c84_14 = .exit 0:=rfl
theorem c84_15_e:c84_15 = .seq c84_16 c84_24:=rfl
theorem c84_16_e:c84_16 = .block 1 c84_17:=rfl
theorem c84_17_e:c84_17 = .seq c84_18 c84_19:=rfl
theorem c84_18_r:RG (E0 mm) 84 c84_18:=rgN rfl
theorem c84_19_e:c84_19 = .seq c84_20 c84_21:=rfl
theorem c84_20_r:RG (E0 mm) 84 c84_20:=rgN rfl
theorem c84_22_r:RG (E0 mm) 84 c84_22:=rgN rfl
theorem c84_23_e:c84_23 = .skip:=rfl
theorem c84_24_r:RG (E0 mm) 84 c84_24:=rgN rfl
theorem c84_25_e:c84_25 = .seq c84_26 c84_27:=rfl
theorem c84_26_r:RG (E0 mm) 84 c84_26:=rgN rfl
theorem c84_27_e:c84_27 = .ret:=rfl
abbrev R84:=(Bool×List Bs)
def e84:R84→AV×Heap:=fun x=>(.v (.c (.own x.1 (enL enS x.2) 0)),[.row x.2.length (rz x.1 1)])
def K84_8:Option (Ex×St)→Option (AV×Heap):=fun r=>bodyD (E0 mm) [.tmp 4] 0 false (seqD (E0 mm) 84 0 (callW (E0 mm)) itW c84_25 (blockD 0 (r)))
def en84_8:(Bs×Bool×List Bs×Bool×List (Bs×Bs)×Int×Int)→X:=fun x=>(none,[.v (.c (.d (.sc (.string (S x.1))))),.v (.c (.own x.2.1 (enL enS x.2.2.1) 0)),.v (.c (.d (.lst x.2.2.2.1 (enL enSS x.2.2.2.2.1)))),.v (.c (.d (.sc (.int .i64 x.2.2.2.2.2.1)))),.v (.c (.d (.sc (.int .i64 x.2.2.2.2.2.2))))],[.row x.2.2.1.length (rz x.2.1 1)])
def j84_24 (name1:Bs) (out5_0:Bool) (out5_1:List Bs) (t8_0:Bool) (t8_1:List (Bs×Bs)) (t9 t10:Int):Option ((Bs×Bool×List Bs×Bool×List (Bs×Bs)×Int×Int) ⊕ R84):=
 some (.inl (name1,out5_0,out5_1,t8_0,t8_1,t9,(w64 (t10 + 1))))
theorem j84_24_t (name1:Bs) (out5_0:Bool) (out5_1:List Bs) (t8_0:Bool) (t8_1:List (Bs×Bs)) (t9 t10:Int) (g1:Ob) (sl:Nat→AV) (zq1:sl 1 = .v (.c (.d (.sc (.string (S name1)))))) (zq5:sl 5 = .v (.c (.own out5_0 (enL enS out5_1) 0))) (zq8:sl 8 = .v (.c (.d (.lst t8_0 (enL enSS t8_1))))) (zq9:sl 9 = .v (.c (.d (.sc (.int .i64 t9))))) (zq10:sl 10 = .v (.c (.d (.sc (.int .i64 t10))))):
  stepE (K84_8 (mm:=mm)) (loopK 0 [(1,.keep),(5,.own),(8,.keep),(9,.keep),(10,.keep)] (den (E0 mm) 84 0 (callW (E0 mm)) itW c84_24 none ⟨sl,[.row out5_1.length (rz out5_0 1),g1]⟩)) = (j84_24 name1 out5_0 out5_1 t8_0 t8_1 t9 t10).map (sm en84_8 e84):=by
 simp -implicitDefEqProofs only [j84_24,c84_24_r,(show opsOf c84_24 = _ :: _ from rfl),zq1,zq5,zq8,zq9,zq10,setA,setB,za,zb,zc,zd,ze,zf,zg,zh,zi,zj,zk,zl,zm,zn,zo,zp,reduceCtorEq,zE,↓reduceIte]
 all_goals rfl
def j84_25 (out5_0:Bool) (out5_1:List Bs):Option R84:=
 some (out5_0,out5_1)
theorem j84_25_t (out5_0:Bool) (out5_1:List Bs)  (sl:Nat→AV) (zq5:sl 5 = .v (.c (.own out5_0 (enL enS out5_1) 0))):
  bodyD (E0 mm) [.tmp 4] 0 false (den (E0 mm) 84 0 (callW (E0 mm)) itW c84_25 none ⟨sl,[.row out5_1.length (rz out5_0 1)]⟩) = (j84_25 out5_0 out5_1).map e84:=by
 simp -implicitDefEqProofs only [j84_25,c84_25_e,c84_26_r,(show opsOf c84_26 = _ :: _ from rfl),c84_27_e,zq5,setA,setB,za,zb,zc,zd,ze,zf,zg,zh,zi,zj,zk,zl,zm,zn,zo,zp,reduceCtorEq,zE,↓reduceIte]
 all_goals rfl
def s84_8 (name1:Bs) (out5_0:Bool) (out5_1:List Bs) (t8_0:Bool) (t8_1:List (Bs×Bs)) (t9 t10:Int):Option ((Bs×Bool×List Bs×Bool×List (Bs×Bs)×Int×Int) ⊕ R84):=
 if (decide (t10 < t9)) = true then
  if 0≤t10∧t10 < (t8_1.length:Int) then
   (m68 ((t8_1.getD t10.toNat default).1) name1).bind fun yr5=>
    if yr5 = true then
     if (out5_1.length + 1) * 16≤140737488355328 then
      j84_24 name1 false (out5_1 ++ ([(t8_1.getD t10.toNat default).2]:List Bs)) t8_0 t8_1 t9 t10
     else none
    else
     j84_24 name1 out5_0 out5_1 t8_0 t8_1 t9 t10
  else none
 else
  (j84_25 out5_0 out5_1).map .inr
theorem s84_8_t (name1:Bs) (out5_0:Bool) (out5_1:List Bs) (t8_0:Bool) (t8_1:List (Bs×Bs)) (t9 t10:Int):
  stepE (K84_8 (mm:=mm)) (loopF (E0 mm) 84 0 (callW (E0 mm)) itW c84_9 [(1,.keep),(5,.own),(8,.keep),(9,.keep),(10,.keep)] (none,[.v (.c (.d (.sc (.string (S name1))))),.v (.c (.own out5_0 (enL enS out5_1) 0)),.v (.c (.d (.lst t8_0 (enL enSS t8_1)))),.v (.c (.d (.sc (.int .i64 t9)))),.v (.c (.d (.sc (.int .i64 t10))))],[.row out5_1.length (rz out5_0 1)])) = (s84_8 name1 out5_0 out5_1 t8_0 t8_1 t9 t10).map (sm en84_8 e84):=by
 simp -implicitDefEqProofs only [s84_8,loopF_eq,c84_9_e,c84_10_r,(show opsOf c84_10 = _ :: _ from rfl),c84_11_e,(show c84_12 = Code.cond _ c84_13 c84_14 from rfl),setA,setB,za,zb,zc,zd,ze,zf,zg,zh,zi,zj,zk,zl,zm,zn,zo,zp,reduceCtorEq,zE,↓reduceIte]
 refine brB (fun yc1=>?_) (fun yc1=>?_)
 ·simp -implicitDefEqProofs only [c84_13_e,c84_15_e,c84_16_e,c84_17_e,c84_18_r,(show opsOf c84_18 = _ :: _ from rfl),Tryz.underlying23,sz58,enSS_a,yc1,setA,setB,za,zb,zc,zd,ze,zf,zg,zh,zi,zj,zk,zl,zm,zn,zo,zp,reduceCtorEq,zE,↓reduceIte]
  refine brP (fun yc2=>?_) (fun yc2=>?_)
  ·have yd3:t10.toNat < t8_1.length:=by omega
   simp -implicitDefEqProofs only [(enL_get enSS t8_1 t10.toNat yd3),enSS_e,sz58,ag58,zc58,ao25,c84_19_e,c84_20_r,(show opsOf c84_20 = _ :: _ from rfl),Tryz.underlying58,sz9,ag9,ent68,prm68,f68_t,yc1,yc2,yd3,setA,setB,za,zb,zc,zd,ze,zf,zg,zh,zi,zj,zk,zl,zm,zn,zo,zp,reduceCtorEq,zE,↓reduceIte]
   refine brM (fun yc4=>?_) (fun yr5 yc4=>?_)
   ·rw [yc4]; rfl
   ·simp -implicitDefEqProofs only [e68,(show c84_21 = Code.cond _ c84_22 c84_23 from rfl),yc1,yc2,yd3,yc4,setA,setB,za,zb,zc,zd,ze,zf,zg,zh,zi,zj,zk,zl,zm,zn,zo,zp,reduceCtorEq,zE,↓reduceIte]
    refine brB (fun yc6=>?_) (fun yc6=>?_)
    ·simp -implicitDefEqProofs only [c84_22_r,(show opsOf c84_22 = _ :: _ from rfl),Tryz.underlying58,sz9,ag9,Tryz.underlying101,zc9,hd27,nv28,rw29,ns30,ap101,yc1,yc2,yd3,yc4,yc6,setA,setB,za,zb,zc,zd,ze,zf,zg,zh,zi,zj,zk,zl,zm,zn,zo,zp,reduceCtorEq,zE,↓reduceIte]
     refine brP (fun yc7=>?_) (fun yc7=>?_)
     ·simp -implicitDefEqProofs only [yc1,yc2,yd3,yc4,yc6,yc7,setA,setB,za,zb,zc,zd,ze,zf,zg,zh,zi,zj,zk,zl,zm,zn,zo,zp,reduceCtorEq,zE,↓reduceIte]
      exact j84_24_t name1 false (out5_1 ++ ([(t8_1.getD t10.toNat default).2]:List Bs)) t8_0 t8_1 t9 t10 _ _ (by rfl) (by rfl) (by rfl) (by rfl) (by rfl)
     ·rw [if_neg yc7]; rfl
    ·simp -implicitDefEqProofs only [c84_23_e,yc1,yc2,yd3,yc4,yc6,setA,setB,za,zb,zc,zd,ze,zf,zg,zh,zi,zj,zk,zl,zm,zn,zo,zp,reduceCtorEq,zE,↓reduceIte]
     exact j84_24_t name1 out5_0 out5_1 t8_0 t8_1 t9 t10 _ _ (by rfl) (by rfl) (by rfl) (by rfl) (by rfl)
  ·rw [if_neg yc2]; rfl
 ·simp -implicitDefEqProofs only [c84_14_e,K84_8,yc1,setA,setB,za,zb,zc,zd,ze,zf,zg,zh,zi,zj,zk,zl,zm,zn,zo,zp,reduceCtorEq,zE,↓reduceIte]
  exact mi (j84_25_t out5_0 out5_1 _ (by rfl))
def l84_8 (name1:Bs) (out5_0:Bool) (out5_1:List Bs) (t8_0:Bool) (t8_1:List (Bs×Bs)) (t9 t10:Int):Option R84:=iter (fun x:(Bs×Bool×List Bs×Bool×List (Bs×Bs)×Int×Int)=>s84_8 x.1 x.2.1 x.2.2.1 x.2.2.2.1 x.2.2.2.2.1 x.2.2.2.2.2.1 x.2.2.2.2.2.2) (name1,out5_0,out5_1,t8_0,t8_1,t9,t10)
theorem l84_8_t (name1:Bs) (out5_0:Bool) (out5_1:List Bs) (t8_0:Bool) (t8_1:List (Bs×Bs)) (t9 t10:Int):bodyD (E0 mm) [.tmp 4] 0 false (seqD (E0 mm) 84 0 (callW (E0 mm)) itW c84_25 (blockD 0 (itW (loopF (E0 mm) 84 0 (callW (E0 mm)) itW c84_9 [(1,.keep),(5,.own),(8,.keep),(9,.keep),(10,.keep)]) (none,[.v (.c (.d (.sc (.string (S name1))))),.v (.c (.own out5_0 (enL enS out5_1) 0)),.v (.c (.d (.lst t8_0 (enL enSS t8_1)))),.v (.c (.d (.sc (.int .i64 t9)))),.v (.c (.d (.sc (.int .i64 t10))))],[.row out5_1.length (rz out5_0 1)])))) = (l84_8 name1 out5_0 out5_1 t8_0 t8_1 t9 t10).map e84:=
 it_sim (K:=(K84_8 (mm:=mm))) rfl (enc:=en84_8) (fun x=>s84_8_t x.1 x.2.1 x.2.2.1 x.2.2.2.1 x.2.2.2.2.1 x.2.2.2.2.2.1 x.2.2.2.2.2.2) (name1,out5_0,out5_1,t8_0,t8_1,t9,t10)
def m84 (l_0:Bool) (l_1:List (Bs×Bs)) (name:Bs):Option R84:=
 l84_8 name true ([]:List Bs) l_0 l_1 (l_1.length:Int) (0:Int)
theorem f84_t (l_0:Bool) (l_1:List (Bs×Bs)) (name:Bs):
  callW (E0 mm) 84 [.c (.d (.lst l_0 (enL enSS l_1))),.c (.d (.sc (.string (S name))))] [] = (m84 l_0 l_1 name).map e84:=by
 rw [callW_run (body:=c84_0) (res:=[.tmp 4]) Tryz.func84 rfl rfl (by kernel_rfl)]
 simp -implicitDefEqProofs only [m84,slots2,c84_0_e,c84_1_r,(show opsOf c84_1 = _ :: _ from rfl),c84_2_e,c84_3_r,(show opsOf c84_3 = _ :: _ from rfl),c84_4_e,c84_5_e,c84_6_r,(show opsOf c84_6 = _ :: _ from rfl),Tryz.underlying23,c84_7_e,c84_8_l,setA,setB,za,zb,zc,zd,ze,zf,zg,zh,zi,zj,zk,zl,zm,zn,zo,zp,reduceCtorEq,zE,↓reduceIte]
 exact l84_8_t name true ([]:List Bs) l_0 l_1 (l_1.length:Int) (0:Int)
noncomputable def c174_0:Code:=bodyOf Tryz.f174
def c174_1:=cA c174_0
def c174_2:=cA c174_1
def c174_3:=cB c174_1
def c174_4:=cA c174_3
def c174_5:=cB c174_3
def c174_6:=cA c174_5
def c174_7:=cB c174_5
def c174_8:=cB c174_0
theorem c174_0_e:c174_0 = .seq c174_1 c174_8:=rfl
theorem c174_1_e:c174_1 = .seq c174_2 c174_3:=rfl
theorem c174_2_r:RG (E0 mm) 174 c174_2:=rgN rfl
theorem c174_3_e:c174_3 = .seq c174_4 c174_5:=rfl
theorem c174_4_r:RG (E0 mm) 174 c174_4:=rgN rfl
theorem c174_6_r:RG (E0 mm) 174 c174_6:=rgN rfl
theorem c174_7_e:c174_7 = .skip:=rfl
theorem c174_8_r:RG (E0 mm) 174 c174_8:=rgN rfl
abbrev R174:=(Bs×Int×Bool×List Bs)
def e174:R174→AV×Heap:=fun x=>(.tup [],[.cells [.d (.sc (.string (S x.1)))],.cells [.d (.sc (.int .i64 x.2.1))],.cells [.own x.2.2.1 (enL enS x.2.2.2) 3],.row x.2.2.2.length (rz x.2.2.1 1)])
def j174_8 (to0:Int) (h0_0:Bs) (h1_0:Int) (h2_0_0:Bool) (h2_0_1:List Bs):Option R174:=
 some (h0_0,(w64 (to0 + 1)),h2_0_0,h2_0_1)
theorem j174_8_t (to0:Int) (h0_0:Bs) (h1_0:Int) (h2_0_0:Bool) (h2_0_1:List Bs)  (sl:Nat→AV) (zq0:sl 0 = .v (.c (.d (.sc (.int .i64 to0))))) (zq2:sl 2 = .v (.c (.ptr 1 0))):
  bodyD (E0 mm) [] 4 false (den (E0 mm) 174 4 (callW (E0 mm)) itW c174_8 none ⟨sl,[.cells [.d (.sc (.string (S h0_0)))],.cells [.d (.sc (.int .i64 h1_0))],.cells [.own h2_0_0 (enL enS h2_0_1) 3],.row h2_0_1.length (rz h2_0_0 1)]⟩) = (j174_8 to0 h0_0 h1_0 h2_0_0 h2_0_1).map e174:=by
 simp -implicitDefEqProofs only [j174_8,c174_8_r,(show opsOf c174_8 = _ :: _ from rfl),sz3,zq0,zq2,setA,setB,za,zb,zc,zd,ze,zf,zg,zh,zi,zj,zk,zl,zm,zn,zo,zp,reduceCtorEq,zE,↓reduceIte]
 all_goals rfl
def m174 (xto:Int) (h0_0:Bs) (h1_0:Int) (h2_0_0:Bool) (h2_0_1:List Bs):Option R174:=
 (bnd xto h0_0.length).bind fun yk2=>
  (bnd h1_0 yk2).bind fun yk4=>
   (m82 ((h0_0.take yk2).drop yk4)).bind fun yr6=>
    if (yr6 == ([]:Bs)) = true then
     j174_8 xto h0_0 h1_0 h2_0_0 h2_0_1
    else
     if (h2_0_1.length + 1) * 16≤140737488355328 then
      j174_8 xto h0_0 h1_0 false (h2_0_1 ++ ([yr6]:List Bs))
     else none
theorem f174_t (xto:Int) (h0_0:Bs) (h1_0:Int) (h2_0_0:Bool) (h2_0_1:List Bs):
  callW (E0 mm) 174 [.c (.d (.sc (.int .i64 xto))),.c (.ptr 0 0),.c (.ptr 1 0),.c (.ptr 2 0)] [.cells [.d (.sc (.string (S h0_0)))],.cells [.d (.sc (.int .i64 h1_0))],.cells [.own h2_0_0 (enL enS h2_0_1) 3],.row h2_0_1.length (rz h2_0_0 1)] = (m174 xto h0_0 h1_0 h2_0_0 h2_0_1).map e174:=by
 rw [callW_run (body:=c174_0) (res:=[]) Tryz.func174 rfl rfl (by kernel_rfl)]
 simp -implicitDefEqProofs only [m174,slots4,c174_0_e,c174_1_e,c174_2_r,(show opsOf c174_2 = _ :: _ from rfl),sz9,ag9,sz3,ag3,Tryz.underlying9,setA,setB,za,zb,zc,zd,ze,zf,zg,zh,zi,zj,zk,zl,zm,zn,zo,zp,reduceCtorEq,zE,↓reduceIte]
 refine brM (fun yc1=>?_) (fun yk2 yc1=>?_)
 ·rw [yc1]; rfl
 ·simp -implicitDefEqProofs only [yc1,setA,setB,za,zb,zc,zd,ze,zf,zg,zh,zi,zj,zk,zl,zm,zn,zo,zp,reduceCtorEq,zE,↓reduceIte]
  refine brM (fun yc3=>?_) (fun yk4 yc3=>?_)
  ·rw [yc3]; rfl
  ·simp -implicitDefEqProofs only [ent82,prm82,f82_t,yc1,yc3,setA,setB,za,zb,zc,zd,ze,zf,zg,zh,zi,zj,zk,zl,zm,zn,zo,zp,reduceCtorEq,zE,↓reduceIte]
   refine brM (fun yc5=>?_) (fun yr6 yc5=>?_)
   ·rw [yc5]; rfl
   ·simp -implicitDefEqProofs only [e82,c174_3_e,c174_4_r,(show opsOf c174_4 = _ :: _ from rfl),(show c174_5 = Code.cond _ c174_6 c174_7 from rfl),yc1,yc3,yc5,setA,setB,za,zb,zc,zd,ze,zf,zg,zh,zi,zj,zk,zl,zm,zn,zo,zp,reduceCtorEq,zE,↓reduceIte]
    refine brB (fun yc7=>?_) (fun yc7=>?_)
    ·simp -implicitDefEqProofs only [c174_7_e,yc1,yc3,yc5,yc7,setA,setB,za,zb,zc,zd,ze,zf,zg,zh,zi,zj,zk,zl,zm,zn,zo,zp,reduceCtorEq,zE,↓reduceIte]
     exact j174_8_t xto h0_0 h1_0 h2_0_0 h2_0_1 _ (by rfl) (by rfl)
    ·simp -implicitDefEqProofs only [c174_6_r,(show opsOf c174_6 = _ :: _ from rfl),sz101,ag101,Tryz.underlying101,sz9,zc9,hd35,nv36,rw37,ns30,ap101,yc1,yc3,yc5,yc7,setA,setB,za,zb,zc,zd,ze,zf,zg,zh,zi,zj,zk,zl,zm,zn,zo,zp,reduceCtorEq,zE,↓reduceIte]
     refine brP (fun yc8=>?_) (fun yc8=>?_)
     ·simp -implicitDefEqProofs only [sz101,yc1,yc3,yc5,yc7,yc8,setA,setB,za,zb,zc,zd,ze,zf,zg,zh,zi,zj,zk,zl,zm,zn,zo,zp,reduceCtorEq,zE,↓reduceIte]
      exact j174_8_t xto h0_0 h1_0 false (h2_0_1 ++ ([yr6]:List Bs)) _ (by rfl) (by rfl)
     ·rw [if_neg yc8]; rfl
noncomputable def c151_0:Code:=bodyOf Tryz.f151
def c151_1:=cA c151_0
def c151_2:=cB c151_0
def c151_3:=cA c151_2
def c151_4:=cB c151_2
def c151_5:=cA c151_4
def c151_6:=cB c151_4
def c151_7:=cA c151_6
def c151_8:=cB c151_6
def c151_9:=cA c151_8
def c151_10:=cA c151_9
def c151_11:=cB c151_9
def c151_12:=cA c151_11
def c151_13:=cA c151_12
def c151_14:=cA c151_13
def c151_15:=cB c151_13
def c151_16:=cA c151_15
def c151_17:=cA c151_16
def c151_18:=cB c151_16
def c151_19:=cB c151_15
def c151_20:=cA c151_19
def c151_21:=cA c151_20
def c151_22:=cB c151_20
def c151_23:=cA c151_22
def c151_24:=cA c151_23
def c151_25:=cB c151_23
def c151_26:=cA c151_25
def c151_27:=cB c151_25
def c151_28:=cA c151_27
def c151_29:=cB c151_27
def c151_30:=cA c151_29
def c151_31:=cB c151_29
def c151_32:=cA c151_31
def c151_33:=cB c151_31
def c151_34:=cA c151_33
def c151_35:=cB c151_33
def c151_36:=cA c151_35
def c151_37:=cB c151_35
def c151_38:=cA c151_37
def c151_39:=cB c151_37
def c151_40:=cB c151_8
def c151_41:=cA c151_40
def c151_42:=cB c151_40
def c151_43:=cA c151_42
def c151_44:=cB c151_42
theorem c151_0_e:c151_0 = .seq c151_1 c151_2:=rfl
theorem c151_1_r:RG (E0 mm) 151 c151_1:=rgN rfl
theorem c151_2_e:c151_2 = .seq c151_3 c151_4:=rfl
theorem c151_3_r:RG (E0 mm) 151 c151_3:=rgN rfl
theorem c151_4_e:c151_4 = .seq c151_5 c151_6:=rfl
theorem c151_5_r:RG (E0 mm) 151 c151_5:=rgN rfl
theorem c151_6_e:c151_6 = .seq c151_7 c151_8:=rfl
theorem c151_7_r:RG (E0 mm) 151 c151_7:=rgN rfl
theorem c151_8_e:c151_8 = .seq c151_9 c151_40:=rfl
theorem c151_9_e:c151_9 = .seq c151_10 c151_11:=rfl
theorem c151_10_r:RG (E0 mm) 151 c151_10:=rgN rfl
theorem c151_11_e:c151_11 = .block 0 c151_12:=rfl
theorem c151_12_l (m:Nat) (st:St):den (E0 mm) 151 m (callW (E0 mm)) itW c151_12 none st = loopD itW (loopF (E0 mm) 151 m (callW (E0 mm)) itW c151_13 [(1,.keep),(3,.keep),(5,.keep),(6,.keep),(7,.keep),(12,.keep)]) (canon m [(1,.keep),(3,.keep),(5,.keep),(6,.keep),(7,.keep),(12,.keep)] st):=rfl
theorem c151_13_e:c151_13 = .seq c151_14 c151_15:=rfl
theorem c151_14_r:RG (E0 mm) 151 c151_14:=rgN rfl
theorem c151_15_e:c151_15 = .seq c151_16 c151_19:=rfl
theorem c151_17_e:c151_17 = .skip:=rfl
theorem c151_18_e:c151_18 = .exit 0:=rfl
theorem c151_19_e:c151_19 = .block 1 c151_20:=rfl
theorem c151_20_e:c151_20 = .seq c151_21 c151_22:=rfl
theorem c151_21_r:RG (E0 mm) 151 c151_21:=rgN rfl
theorem c151_22_e:c151_22 = .block 2 c151_23:=rfl
theorem c151_23_e:c151_23 = .seq c151_24 c151_25:=rfl
theorem c151_24_r:RG (E0 mm) 151 c151_24:=rgN rfl
theorem c151_26_r:RG (E0 mm) 151 c151_26:=rgN rfl
theorem c151_27_e:c151_27 = .seq c151_28 c151_29:=rfl
theorem c151_28_r:RG (E0 mm) 151 c151_28:=rgN rfl
theorem c151_30_r:RG (E0 mm) 151 c151_30:=rgN rfl
theorem c151_31_e:c151_31 = .seq c151_32 c151_33:=rfl
theorem c151_32_r:RG (E0 mm) 151 c151_32:=rgN rfl
theorem c151_34_r:RG (E0 mm) 151 c151_34:=rgN rfl
theorem c151_35_e:c151_35 = .seq c151_36 c151_37:=rfl
theorem c151_36_r:RG (E0 mm) 151 c151_36:=rgN rfl
theorem c151_38_r:RG (E0 mm) 151 c151_38:=rgN rfl
theorem c151_39_e:c151_39 = .skip:=rfl
theorem c151_40_e:c151_40 = .seq c151_41 c151_42:=rfl
theorem c151_41_r:RG (E0 mm) 151 c151_41:=rgN rfl
theorem c151_42_e:c151_42 = .seq c151_43 c151_44:=rfl
theorem c151_43_r:RG (E0 mm) 151 c151_43:=rgN rfl
theorem c151_44_e:c151_44 = .ret:=rfl
abbrev R151:=(Bool×List Bs)
def e151:R151→AV×Heap:=fun x=>(.v (.c (.own x.1 (enL enS x.2) 0)),[.row x.2.length (rz x.1 1)])
def K151_12:Option (Ex×St)→Option (AV×Heap):=fun r=>bodyD (E0 mm) [.tmp 2] 0 false (seqD (E0 mm) 151 0 (callW (E0 mm)) itW c151_40 (blockD 0 (r)))
def en151_12:(Bool×Bool×Bs×Bool×List Bs×Int×Bs×Nat)→X:=fun x=>(none,[.v (.c (.ptr 0 0)),.v (.c (.ptr 1 0)),.v (.c (.d (.sc (.bool x.1)))),.v (.c (.d (.sc (.bool x.2.1)))),.v (.c (.fn 174 [(0,0),(3,0),(1,0)])),.v (.c (.it 4))],[.cells [.d (.sc (.string (S x.2.2.1)))],.cells [.own x.2.2.2.1 (enL enS x.2.2.2.2.1) 2],.row x.2.2.2.2.1.length (rz x.2.2.2.1 1),.cells [.d (.sc (.int .i64 x.2.2.2.2.2.1))],.siter (S x.2.2.2.2.2.2.1) x.2.2.2.2.2.2.2])
def j151_37 (quoted5 masked6:Bool) (i8:Int) (t30:Bool) (h0_0:Bs) (h1_0_0:Bool) (h1_0_1:List Bs) (h3_0:Int) (s4:Bs) (p4:Nat):Option ((Bool×Bool×Bs×Bool×List Bs×Int×Bs×Nat) ⊕ R151):=
 if t30 = true then
  (m174 i8 h0_0 h3_0 h1_0_0 h1_0_1).bind fun yr10=>
   some (.inl (quoted5,masked6,yr10.1,yr10.2.2.1,yr10.2.2.2,yr10.2.1,s4,p4))
 else
  some (.inl (quoted5,masked6,h0_0,h1_0_0,h1_0_1,h3_0,s4,p4))
theorem j151_37_t (quoted5 masked6:Bool) (i8:Int) (t30:Bool) (h0_0:Bs) (h1_0_0:Bool) (h1_0_1:List Bs) (h3_0:Int) (s4:Bs) (p4:Nat)  (sl:Nat→AV) (zq1:sl 1 = .v (.c (.ptr 0 0))) (zq3:sl 3 = .v (.c (.ptr 1 0))) (zq5:sl 5 = .v (.c (.d (.sc (.bool quoted5))))) (zq6:sl 6 = .v (.c (.d (.sc (.bool masked6))))) (zq7:sl 7 = .v (.c (.fn 174 [(0,0),(3,0),(1,0)]))) (zq8:sl 8 = .v (.c (.d (.sc (.int .i64 i8))))) (zq12:sl 12 = .v (.c (.it 4))) (zq30:sl 30 = .v (.c (.d (.sc (.bool t30))))):
  stepE (K151_12 (mm:=mm)) (loopK 0 [(1,.keep),(3,.keep),(5,.keep),(6,.keep),(7,.keep),(12,.keep)] (blockD 1 (blockD 2 (den (E0 mm) 151 0 (callW (E0 mm)) itW c151_37 none ⟨sl,[.cells [.d (.sc (.string (S h0_0)))],.cells [.own h1_0_0 (enL enS h1_0_1) 2],.row h1_0_1.length (rz h1_0_0 1),.cells [.d (.sc (.int .i64 h3_0))],.siter (S s4) p4]⟩)))) = (j151_37 quoted5 masked6 i8 t30 h0_0 h1_0_0 h1_0_1 h3_0 s4 p4).map (sm en151_12 e151):=by
 simp -implicitDefEqProofs only [j151_37,(show c151_37 = Code.cond _ c151_38 c151_39 from rfl),(show List.range 5 = [0,1,2,3,4] from rfl),zq1,zq3,zq5,zq6,zq7,zq8,zq12,zq30,setA,setB,za,zb,zc,zd,ze,zf,zg,zh,zi,zj,zk,zl,zm,zn,zo,zp,reduceCtorEq,zE,↓reduceIte]
 refine brB (fun yc8=>?_) (fun yc8=>?_)
 ·simp -implicitDefEqProofs only [c151_38_r,(show opsOf c151_38 = _ :: _ from rfl),ent174,prm174,f174_t,(show List.range 5 = [0,1,2,3,4] from rfl),zq1,zq3,zq5,zq6,zq7,zq8,zq12,zq30,yc8,setA,setB,za,zb,zc,zd,ze,zf,zg,zh,zi,zj,zk,zl,zm,zn,zo,zp,reduceCtorEq,zE,↓reduceIte]
  refine brM (fun yc9=>?_) (fun yr10 yc9=>?_)
  ·rw [yc9]; rfl
  ·simp -implicitDefEqProofs only [e174,(show List.range 5 = [0,1,2,3,4] from rfl),zq1,zq3,zq5,zq6,zq7,zq8,zq12,zq30,yc8,yc9,setA,setB,za,zb,zc,zd,ze,zf,zg,zh,zi,zj,zk,zl,zm,zn,zo,zp,reduceCtorEq,zE,↓reduceIte]
   all_goals rfl
 ·simp -implicitDefEqProofs only [c151_39_e,(show List.range 5 = [0,1,2,3,4] from rfl),zq1,zq3,zq5,zq6,zq7,zq8,zq12,zq30,yc8,setA,setB,za,zb,zc,zd,ze,zf,zg,zh,zi,zj,zk,zl,zm,zn,zo,zp,reduceCtorEq,zE,↓reduceIte]
  all_goals rfl
def j151_29 (quoted5 masked6:Bool) (i8 r9:Int) (t19:Bool) (h0_0:Bs) (h1_0_0:Bool) (h1_0_1:List Bs) (h3_0:Int) (s4:Bs) (p4:Nat):Option ((Bool×Bool×Bs×Bool×List Bs×Int×Bs×Nat) ⊕ R151):=
 if t19 = true then
  some (.inl (quoted5,true,h0_0,h1_0_0,h1_0_1,h3_0,s4,p4))
 else
  if (r9 == 34) = true then
   some (.inl ((!quoted5),masked6,h0_0,h1_0_0,h1_0_1,h3_0,s4,p4))
  else
   if (r9 == 44) = true then
    j151_37 quoted5 masked6 i8 (!quoted5) h0_0 h1_0_0 h1_0_1 h3_0 s4 p4
   else
    j151_37 quoted5 masked6 i8 false h0_0 h1_0_0 h1_0_1 h3_0 s4 p4
theorem j151_29_t (quoted5 masked6:Bool) (i8 r9:Int) (t19:Bool) (h0_0:Bs) (h1_0_0:Bool) (h1_0_1:List Bs) (h3_0:Int) (s4:Bs) (p4:Nat)  (sl:Nat→AV) (zq1:sl 1 = .v (.c (.ptr 0 0))) (zq3:sl 3 = .v (.c (.ptr 1 0))) (zq5:sl 5 = .v (.c (.d (.sc (.bool quoted5))))) (zq6:sl 6 = .v (.c (.d (.sc (.bool masked6))))) (zq7:sl 7 = .v (.c (.fn 174 [(0,0),(3,0),(1,0)]))) (zq8:sl 8 = .v (.c (.d (.sc (.int .i64 i8))))) (zq9:sl 9 = .v (.c (.d (.sc (.int .i32 r9))))) (zq12:sl 12 = .v (.c (.it 4))) (zq19:sl 19 = .v (.c (.d (.sc (.bool t19))))):
  stepE (K151_12 (mm:=mm)) (loopK 0 [(1,.keep),(3,.keep),(5,.keep),(6,.keep),(7,.keep),(12,.keep)] (blockD 1 (blockD 2 (den (E0 mm) 151 0 (callW (E0 mm)) itW c151_29 none ⟨sl,[.cells [.d (.sc (.string (S h0_0)))],.cells [.own h1_0_0 (enL enS h1_0_1) 2],.row h1_0_1.length (rz h1_0_0 1),.cells [.d (.sc (.int .i64 h3_0))],.siter (S s4) p4]⟩)))) = (j151_29 quoted5 masked6 i8 r9 t19 h0_0 h1_0_0 h1_0_1 h3_0 s4 p4).map (sm en151_12 e151):=by
 simp -implicitDefEqProofs only [j151_29,(show c151_29 = Code.cond _ c151_30 c151_31 from rfl),(show List.range 5 = [0,1,2,3,4] from rfl),zq1,zq3,zq5,zq6,zq7,zq8,zq9,zq12,zq19,setA,setB,za,zb,zc,zd,ze,zf,zg,zh,zi,zj,zk,zl,zm,zn,zo,zp,reduceCtorEq,zE,↓reduceIte]
 refine brB (fun yc5=>?_) (fun yc5=>?_)
 ·simp -implicitDefEqProofs only [c151_30_r,(show opsOf c151_30 = _ :: _ from rfl),(show List.range 5 = [0,1,2,3,4] from rfl),zq1,zq3,zq5,zq6,zq7,zq8,zq9,zq12,zq19,yc5,setA,setB,za,zb,zc,zd,ze,zf,zg,zh,zi,zj,zk,zl,zm,zn,zo,zp,reduceCtorEq,zE,↓reduceIte]
  all_goals rfl
 ·simp -implicitDefEqProofs only [c151_31_e,c151_32_r,(show opsOf c151_32 = _ :: _ from rfl),(show c151_33 = Code.cond _ c151_34 c151_35 from rfl),(show List.range 5 = [0,1,2,3,4] from rfl),zq1,zq3,zq5,zq6,zq7,zq8,zq9,zq12,zq19,yc5,setA,setB,za,zb,zc,zd,ze,zf,zg,zh,zi,zj,zk,zl,zm,zn,zo,zp,reduceCtorEq,zE,↓reduceIte]
  refine brB (fun yc6=>?_) (fun yc6=>?_)
  ·simp -implicitDefEqProofs only [c151_34_r,(show opsOf c151_34 = _ :: _ from rfl),(show List.range 5 = [0,1,2,3,4] from rfl),zq1,zq3,zq5,zq6,zq7,zq8,zq9,zq12,zq19,yc5,yc6,setA,setB,za,zb,zc,zd,ze,zf,zg,zh,zi,zj,zk,zl,zm,zn,zo,zp,reduceCtorEq,zE,↓reduceIte]
   all_goals rfl
  ·simp -implicitDefEqProofs only [c151_35_e,c151_36_r,(show opsOf c151_36 = _ :: _ from rfl),(show List.range 5 = [0,1,2,3,4] from rfl),zq1,zq3,zq5,zq6,zq7,zq8,zq9,zq12,zq19,yc5,yc6,setA,setB,za,zb,zc,zd,ze,zf,zg,zh,zi,zj,zk,zl,zm,zn,zo,zp,reduceCtorEq,zE,↓reduceIte]
   refine brB (fun yc7=>?_) (fun yc7=>?_)
   ·simp -implicitDefEqProofs only [(show List.range 5 = [0,1,2,3,4] from rfl),zq1,zq3,zq5,zq6,zq7,zq8,zq9,zq12,zq19,yc5,yc6,yc7,setA,setB,za,zb,zc,zd,ze,zf,zg,zh,zi,zj,zk,zl,zm,zn,zo,zp,reduceCtorEq,zE,↓reduceIte]
    exact j151_37_t quoted5 masked6 i8 (!quoted5) h0_0 h1_0_0 h1_0_1 h3_0 s4 p4 _ (by exact zq1) (by exact zq3) (by exact zq5) (by exact zq6) (by exact zq7) (by exact zq8) (by exact zq12) (by rfl)
   ·simp -implicitDefEqProofs only [(show List.range 5 = [0,1,2,3,4] from rfl),zq1,zq3,zq5,zq6,zq7,zq8,zq9,zq12,zq19,yc5,yc6,yc7,setA,setB,za,zb,zc,zd,ze,zf,zg,zh,zi,zj,zk,zl,zm,zn,zo,zp,reduceCtorEq,zE,↓reduceIte]
    exact j151_37_t quoted5 masked6 i8 false h0_0 h1_0_0 h1_0_1 h3_0 s4 p4 _ (by exact zq1) (by exact zq3) (by exact zq5) (by exact zq6) (by exact zq7) (by exact zq8) (by exact zq12) (by rfl)
def j151_40 (h0_0:Bs) (h1_0_0:Bool) (h1_0_1:List Bs) (h3_0:Int):Option R151:=
 (m174 (h0_0.length:Int) h0_0 h3_0 h1_0_0 h1_0_1).bind fun yr12=>
  some (yr12.2.2.1,yr12.2.2.2)
theorem j151_40_t (h0_0:Bs) (h1_0_0:Bool) (h1_0_1:List Bs) (h3_0:Int) (g4:Ob) (sl:Nat→AV) (zq1:sl 1 = .v (.c (.ptr 0 0))) (zq3:sl 3 = .v (.c (.ptr 1 0))) (zq7:sl 7 = .v (.c (.fn 174 [(0,0),(3,0),(1,0)]))):
  bodyD (E0 mm) [.tmp 2] 0 false (den (E0 mm) 151 0 (callW (E0 mm)) itW c151_40 none ⟨sl,[.cells [.d (.sc (.string (S h0_0)))],.cells [.own h1_0_0 (enL enS h1_0_1) 2],.row h1_0_1.length (rz h1_0_0 1),.cells [.d (.sc (.int .i64 h3_0))],g4]⟩) = (j151_40 h0_0 h1_0_0 h1_0_1 h3_0).map e151:=by
 simp -implicitDefEqProofs only [j151_40,c151_40_e,c151_41_r,(show opsOf c151_41 = _ :: _ from rfl),sz9,ag9,Tryz.underlying9,ent174,prm174,f174_t,(show List.range 5 = [0,1,2,3,4] from rfl),zq1,zq3,zq7,setA,setB,za,zb,zc,zd,ze,zf,zg,zh,zi,zj,zk,zl,zm,zn,zo,zp,reduceCtorEq,zE,↓reduceIte]
 refine brM (fun yc11=>?_) (fun yr12 yc11=>?_)
 ·rw [yc11]; rfl
 ·simp -implicitDefEqProofs only [e174,c151_42_e,c151_43_r,(show opsOf c151_43 = _ :: _ from rfl),sz101,ag101,c151_44_e,(show List.range 5 = [0,1,2,3,4] from rfl),zq1,zq3,zq7,yc11,setA,setB,za,zb,zc,zd,ze,zf,zg,zh,zi,zj,zk,zl,zm,zn,zo,zp,reduceCtorEq,zE,↓reduceIte]
  all_goals rfl
def s151_12 (quoted5 masked6:Bool) (h0_0:Bs) (h1_0_0:Bool) (h1_0_1:List Bs) (h3_0:Int) (s4:Bs) (p4:Nat):Option ((Bool×Bool×Bs×Bool×List Bs×Int×Bs×Nat) ⊕ R151):=
 if (decide (p4 < s4.length)) = true then
  if masked6 = true then
   some (.inl (quoted5,false,h0_0,h1_0_0,h1_0_1,h3_0,s4,(p4 + uw s4 p4)))
  else
   if quoted5 = true then
    j151_29 true false (p4:Int) (uc s4 p4:Int) ((uc s4 p4:Int) == 92) h0_0 h1_0_0 h1_0_1 h3_0 s4 (p4 + uw s4 p4)
   else
    j151_29 false false (p4:Int) (uc s4 p4:Int) false h0_0 h1_0_0 h1_0_1 h3_0 s4 (p4 + uw s4 p4)
 else
  (j151_40 h0_0 h1_0_0 h1_0_1 h3_0).map .inr
theorem s151_12_t (quoted5 masked6:Bool) (h0_0:Bs) (h1_0_0:Bool) (h1_0_1:List Bs) (h3_0:Int) (s4:Bs) (p4:Nat):
  stepE (K151_12 (mm:=mm)) (loopF (E0 mm) 151 0 (callW (E0 mm)) itW c151_13 [(1,.keep),(3,.keep),(5,.keep),(6,.keep),(7,.keep),(12,.keep)] (none,[.v (.c (.ptr 0 0)),.v (.c (.ptr 1 0)),.v (.c (.d (.sc (.bool quoted5)))),.v (.c (.d (.sc (.bool masked6)))),.v (.c (.fn 174 [(0,0),(3,0),(1,0)])),.v (.c (.it 4))],[.cells [.d (.sc (.string (S h0_0)))],.cells [.own h1_0_0 (enL enS h1_0_1) 2],.row h1_0_1.length (rz h1_0_0 1),.cells [.d (.sc (.int .i64 h3_0))],.siter (S s4) p4])) = (s151_12 quoted5 masked6 h0_0 h1_0_0 h1_0_1 h3_0 s4 p4).map (sm en151_12 e151):=by
 simp -implicitDefEqProofs only [s151_12,loopF_eq,c151_13_e,c151_14_r,(show opsOf c151_14 = _ :: _ from rfl),dec_eq,(show List.range 5 = [0,1,2,3,4] from rfl),setA,setB,za,zb,zc,zd,ze,zf,zg,zh,zi,zj,zk,zl,zm,zn,zo,zp,reduceCtorEq,zE,↓reduceIte]
 refine brB (fun yc1=>?_) (fun yc1=>?_)
 ·have yd2:=of_decide_eq_true yc1
  simp -implicitDefEqProofs only [c151_15_e,(show c151_16 = Code.cond _ c151_17 c151_18 from rfl),c151_17_e,c151_19_e,c151_20_e,c151_21_r,(show opsOf c151_21 = _ :: _ from rfl),c151_22_e,c151_23_e,c151_24_r,(show opsOf c151_24 = _ :: _ from rfl),(show c151_25 = Code.cond _ c151_26 c151_27 from rfl),(show List.range 5 = [0,1,2,3,4] from rfl),yd2,setA,setB,za,zb,zc,zd,ze,zf,zg,zh,zi,zj,zk,zl,zm,zn,zo,zp,reduceCtorEq,zE,↓reduceIte]
  refine brB (fun yc3=>?_) (fun yc3=>?_)
  ·simp -implicitDefEqProofs only [c151_26_r,(show opsOf c151_26 = _ :: _ from rfl),(show List.range 5 = [0,1,2,3,4] from rfl),yd2,yc3,setA,setB,za,zb,zc,zd,ze,zf,zg,zh,zi,zj,zk,zl,zm,zn,zo,zp,reduceCtorEq,zE,↓reduceIte]
   all_goals rfl
  ·simp -implicitDefEqProofs only [c151_27_e,c151_28_r,(show opsOf c151_28 = _ :: _ from rfl),(show List.range 5 = [0,1,2,3,4] from rfl),yd2,yc3,setA,setB,za,zb,zc,zd,ze,zf,zg,zh,zi,zj,zk,zl,zm,zn,zo,zp,reduceCtorEq,zE,↓reduceIte]
   refine brB (fun yc4=>?_) (fun yc4=>?_)
   ·simp -implicitDefEqProofs only [(show List.range 5 = [0,1,2,3,4] from rfl),yd2,yc3,yc4,setA,setB,za,zb,zc,zd,ze,zf,zg,zh,zi,zj,zk,zl,zm,zn,zo,zp,reduceCtorEq,zE,↓reduceIte]
    exact j151_29_t true false (p4:Int) (uc s4 p4:Int) ((uc s4 p4:Int) == 92) h0_0 h1_0_0 h1_0_1 h3_0 s4 (p4 + uw s4 p4) _ (by rfl) (by rfl) (by rfl) (by rfl) (by rfl) (by rfl) (by rfl) (by rfl) (by rfl)
   ·simp -implicitDefEqProofs only [(show List.range 5 = [0,1,2,3,4] from rfl),yd2,yc3,yc4,setA,setB,za,zb,zc,zd,ze,zf,zg,zh,zi,zj,zk,zl,zm,zn,zo,zp,reduceCtorEq,zE,↓reduceIte]
    exact j151_29_t false false (p4:Int) (uc s4 p4:Int) false h0_0 h1_0_0 h1_0_1 h3_0 s4 (p4 + uw s4 p4) _ (by rfl) (by rfl) (by rfl) (by rfl) (by rfl) (by rfl) (by rfl) (by rfl) (by rfl)
 ·have yd2:=of_decide_eq_false yc1
  simp -implicitDefEqProofs only [c151_15_e,(show c151_16 = Code.cond _ c151_17 c151_18 from rfl),c151_18_e,K151_12,(show List.range 5 = [0,1,2,3,4] from rfl),yd2,setA,setB,za,zb,zc,zd,ze,zf,zg,zh,zi,zj,zk,zl,zm,zn,zo,zp,reduceCtorEq,zE,↓reduceIte]
  exact mi (j151_40_t h0_0 h1_0_0 h1_0_1 h3_0 _ _ (by rfl) (by rfl) (by rfl))
def l151_12 (quoted5 masked6:Bool) (h0_0:Bs) (h1_0_0:Bool) (h1_0_1:List Bs) (h3_0:Int) (s4:Bs) (p4:Nat):Option R151:=iter (fun x:(Bool×Bool×Bs×Bool×List Bs×Int×Bs×Nat)=>s151_12 x.1 x.2.1 x.2.2.1 x.2.2.2.1 x.2.2.2.2.1 x.2.2.2.2.2.1 x.2.2.2.2.2.2.1 x.2.2.2.2.2.2.2) (quoted5,masked6,h0_0,h1_0_0,h1_0_1,h3_0,s4,p4)
theorem l151_12_t (quoted5 masked6:Bool) (h0_0:Bs) (h1_0_0:Bool) (h1_0_1:List Bs) (h3_0:Int) (s4:Bs) (p4:Nat):bodyD (E0 mm) [.tmp 2] 0 false (seqD (E0 mm) 151 0 (callW (E0 mm)) itW c151_40 (blockD 0 (itW (loopF (E0 mm) 151 0 (callW (E0 mm)) itW c151_13 [(1,.keep),(3,.keep),(5,.keep),(6,.keep),(7,.keep),(12,.keep)]) (none,[.v (.c (.ptr 0 0)),.v (.c (.ptr 1 0)),.v (.c (.d (.sc (.bool quoted5)))),.v (.c (.d (.sc (.bool masked6)))),.v (.c (.fn 174 [(0,0),(3,0),(1,0)])),.v (.c (.it 4))],[.cells [.d (.sc (.string (S h0_0)))],.cells [.own h1_0_0 (enL enS h1_0_1) 2],.row h1_0_1.length (rz h1_0_0 1),.cells [.d (.sc (.int .i64 h3_0))],.siter (S s4) p4])))) = (l151_12 quoted5 masked6 h0_0 h1_0_0 h1_0_1 h3_0 s4 p4).map e151:=
 it_sim (K:=(K151_12 (mm:=mm))) rfl (enc:=en151_12) (fun x=>s151_12_t x.1 x.2.1 x.2.2.1 x.2.2.2.1 x.2.2.2.2.1 x.2.2.2.2.2.1 x.2.2.2.2.2.2.1 x.2.2.2.2.2.2.2) (quoted5,masked6,h0_0,h1_0_0,h1_0_1,h3_0,s4,p4)
def m151 (s:Bs):Option R151:=
 l151_12 false false s true ([]:List Bs) (0:Int) s 0
theorem f151_t (s:Bs):
  callW (E0 mm) 151 [.c (.d (.sc (.string (S s))))] [] = (m151 s).map e151:=by
 rw [callW_run (body:=c151_0) (res:=[.tmp 2]) Tryz.func151 rfl rfl (by kernel_rfl)]
 simp -implicitDefEqProofs only [m151,slots1,c151_0_e,c151_1_r,(show opsOf c151_1 = _ :: _ from rfl),c151_2_e,c151_3_r,(show opsOf c151_3 = _ :: _ from rfl),zc101,ao33,c151_4_e,c151_5_r,(show opsOf c151_5 = _ :: _ from rfl),zc3,ao34,sz3,c151_6_e,c151_7_r,(show opsOf c151_7 = _ :: _ from rfl),c151_8_e,c151_9_e,c151_10_r,(show opsOf c151_10 = _ :: _ from rfl),sz9,ag9,Tryz.underlying9,c151_11_e,c151_12_l,(show List.range 5 = [0,1,2,3,4] from rfl),setA,setB,za,zb,zc,zd,ze,zf,zg,zh,zi,zj,zk,zl,zm,zn,zo,zp,reduceCtorEq,zE,↓reduceIte]
 exact l151_12_t false false s true ([]:List Bs) (0:Int) s 0
noncomputable def c118_0:Code:=bodyOf Tryz.f118
def c118_1:=cA c118_0
def c118_2:=cB c118_0
def c118_3:=cA c118_2
def c118_4:=cA c118_3
def c118_5:=cB c118_3
def c118_6:=cA c118_5
def c118_7:=cB c118_5
def c118_8:=cA c118_7
def c118_9:=cA c118_8
def c118_10:=cB c118_8
def c118_11:=cB c118_7
def c118_12:=cB c118_2
def c118_13:=cA c118_12
def c118_14:=cB c118_12
theorem c118_0_e:c118_0 = .seq c118_1 c118_2:=rfl
theorem c118_1_r:RG (E0 mm) 118 c118_1:=rgN rfl
theorem c118_2_e:c118_2 = .seq c118_3 c118_12:=rfl
theorem c118_3_e:c118_3 = .seq c118_4 c118_5:=rfl
theorem c118_4_r:RG (E0 mm) 118 c118_4:=rgN rfl
theorem c118_5_e:c118_5 = .seq c118_6 c118_7:=rfl
theorem c118_6_r:RG (E0 mm) 118 c118_6:=rgN rfl
theorem c118_8_e:c118_8 = .seq c118_9 c118_10:=rfl
theorem c118_9_r:RG (E0 mm) 118 c118_9:=rgN rfl
theorem c118_10_e:c118_10 = .ret:=rfl
theorem c118_11_e:c118_11 = .skip:=rfl
theorem c118_12_e:c118_12 = .seq c118_13 c118_14:=rfl
theorem c118_13_r:RG (E0 mm) 118 c118_13:=rgN rfl
theorem c118_14_e:c118_14 = .ret:=rfl
abbrev R118:=(Int×Int)
def e118:R118→AV×Heap:=fun x=>(.v (.c (.d (.sc (.int .i64 x.1)))),[.cells [.d (.sc (.int .i64 x.2))]])
def j118_7 (t12:Bool) (h0_0:Int):Option R118:=
 if t12 = true then
  some ((22:Int),h0_0)
 else
  some ((0:Int),h0_0)
theorem j118_7_t (t12:Bool) (h0_0:Int)  (sl:Nat→AV) (zq12:sl 12 = .v (.c (.d (.sc (.bool t12))))):
  bodyD (E0 mm) [.tmp 3] 1 false (seqD (E0 mm) 118 1 (callW (E0 mm)) itW c118_12 (den (E0 mm) 118 1 (callW (E0 mm)) itW c118_7 none ⟨sl,[.cells [.d (.sc (.int .i64 h0_0))]]⟩)) = (j118_7 t12 h0_0).map e118:=by
 simp -implicitDefEqProofs only [j118_7,(show c118_7 = Code.cond _ c118_8 c118_11 from rfl),zq12,setA,setB,za,zb,zc,zd,ze,zf,zg,zh,zi,zj,zk,zl,zm,zn,zo,zp,reduceCtorEq,zE,↓reduceIte]
 refine brB (fun yc2=>?_) (fun yc2=>?_)
 ·simp -implicitDefEqProofs only [c118_8_e,c118_9_r,(show opsOf c118_9 = _ :: _ from rfl),c118_10_e,zq12,yc2,setA,setB,za,zb,zc,zd,ze,zf,zg,zh,zi,zj,zk,zl,zm,zn,zo,zp,reduceCtorEq,zE,↓reduceIte]
  all_goals rfl
 ·simp -implicitDefEqProofs only [c118_11_e,c118_12_e,c118_13_r,(show opsOf c118_13 = _ :: _ from rfl),c118_14_e,zq12,yc2,setA,setB,za,zb,zc,zd,ze,zf,zg,zh,zi,zj,zk,zl,zm,zn,zo,zp,reduceCtorEq,zE,↓reduceIte]
  all_goals rfl
def m118 (s:Bs) (h0_0:Int):Option R118:=
 if (decide (1 < (w64 (h0_0 + 1)))) = true then
  j118_7 true (w64 (h0_0 + 1))
 else
  (m68 s ([99,104,117,110,107,101,100]:Bs)).bind fun yr4=>
   j118_7 (!yr4) (w64 (h0_0 + 1))
theorem f118_t (s:Bs) (h0_0:Int):
  callW (E0 mm) 118 [.c (.d (.sc (.string (S s)))),.c (.ptr 0 0)] [.cells [.d (.sc (.int .i64 h0_0))]] = (m118 s h0_0).map e118:=by
 rw [callW_run (body:=c118_0) (res:=[.tmp 3]) Tryz.func118 rfl rfl (by kernel_rfl)]
 simp -implicitDefEqProofs only [m118,slots2,c118_0_e,c118_1_r,(show opsOf c118_1 = _ :: _ from rfl),c118_2_e,c118_3_e,c118_4_r,(show opsOf c118_4 = _ :: _ from rfl),sz3,ag3,c118_5_e,c118_6_r,(show opsOf c118_6 = _ :: _ from rfl),setA,setB,za,zb,zc,zd,ze,zf,zg,zh,zi,zj,zk,zl,zm,zn,zo,zp,reduceCtorEq,zE,↓reduceIte]
 refine brB (fun yc1=>?_) (fun yc1=>?_)
 ·simp -implicitDefEqProofs only [yc1,setA,setB,za,zb,zc,zd,ze,zf,zg,zh,zi,zj,zk,zl,zm,zn,zo,zp,reduceCtorEq,zE,↓reduceIte]
  exact j118_7_t true (w64 (h0_0 + 1)) _ (by rfl)
 ·simp -implicitDefEqProofs only [ent68,prm68,(show callW (E0 mm) 68 [.c (.d (.sc (.string (S s)))),.c (.d (.sc (.string (S ([99,104,117,110,107,101,100]:Bs)))))] [] = _ from f68_t s ([99,104,117,110,107,101,100]:Bs)),yc1,setA,setB,za,zb,zc,zd,ze,zf,zg,zh,zi,zj,zk,zl,zm,zn,zo,zp,reduceCtorEq,zE,↓reduceIte]
  refine brM (fun yc3=>?_) (fun yr4 yc3=>?_)
  ·rw [yc3]; rfl
  ·simp -implicitDefEqProofs only [e68,yc1,yc3,setA,setB,za,zb,zc,zd,ze,zf,zg,zh,zi,zj,zk,zl,zm,zn,zo,zp,reduceCtorEq,zE,↓reduceIte]
   exact j118_7_t (!yr4) (w64 (h0_0 + 1)) _ (by rfl)
end
end Go.Proofs.YtoohbnmhjfgclaaGreatDoor
