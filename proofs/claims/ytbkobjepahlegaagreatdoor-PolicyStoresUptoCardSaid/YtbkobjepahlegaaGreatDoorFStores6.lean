/- The Go functions as plain functions, and that the evaluator computes them. -/
import Derived.Test.YtbkobjepahlegaaGreatDoorFStores5
set_option linter.all false
set_option maxRecDepth 100000
namespace Go.Proofs.YtbkobjepahlegaaGreatDoor
open Go Go.Ab
open Nat renaming reduceEqDiff→za,reduceAdd→zb,reduceLeDiff→zc,reduceLT→zd,reduceMul→ze,reduceBEq→zf,reduceSub→zg,reducePow→zh
open Int renaming reduceEq→zi,reduceLE→zj,reduceLT→zk,reduceToNat→zl,reduceNegSucc→zm,reduceAdd→zn,reduceBEq→zo
open String renaming reduceBEq→zp
set_option maxHeartbeats 4000000
noncomputable section
variable {mm:Int}
abbrev V0m:=(Bool×Int×Bs×Int×Bool×List (Bs×Bs)×Bool×List UInt8×Bool×Bool×Bool×Bool×Bool×Bool×Int×Int×Int×Int×Bool)
def V0V(x:V0m):AV×Heap:=(vd (dB x.1),[.cells [.d (dI x.2.1),.d (dS x.2.2.1),.d (dI x.2.2.2.1),.d (.lst x.2.2.2.2.1 (enL enSS x.2.2.2.2.2.1)),.d (.lst x.2.2.2.2.2.2.1 (enL enB x.2.2.2.2.2.2.2.1))],.cells [.d (dB x.2.2.2.2.2.2.2.2.1),.d (dB x.2.2.2.2.2.2.2.2.2.1),.d (dB x.2.2.2.2.2.2.2.2.2.2.1),.d (dB x.2.2.2.2.2.2.2.2.2.2.2.1),.d (dB x.2.2.2.2.2.2.2.2.2.2.2.2.1),.d (dB x.2.2.2.2.2.2.2.2.2.2.2.2.2.1),.d (dI x.2.2.2.2.2.2.2.2.2.2.2.2.2.2.1),.d (dI x.2.2.2.2.2.2.2.2.2.2.2.2.2.2.2.1),.d (dI x.2.2.2.2.2.2.2.2.2.2.2.2.2.2.2.2.1),.d (dI x.2.2.2.2.2.2.2.2.2.2.2.2.2.2.2.2.2.1)],.cells [.d (dB x.2.2.2.2.2.2.2.2.2.2.2.2.2.2.2.2.2.2)]])
def T0s(h0_0:Int)(h0_1:Bs)(h0_2:Int)(h0_3_0:Bool)(h0_3_1:List (Bs×Bs))(h0_4_0:Bool)(h0_4_1:List UInt8)(h1_0 h1_1:Bool)(h1_2 h1_3:Bool)(h1_4 h1_5:Bool)(h1_6 h1_7:Int)(h1_8 h1_9:Int)(h2_0:Bool):Option V0m:=
 (m85 h0_0 h0_1 h0_2 h0_3_0 h0_3_1 h0_4_0 h0_4_1 h1_0 h1_1 h1_2 h1_3 h1_4 h1_5 h1_6 h1_7 h1_8 h1_9 h2_0).bind fun yr2=>
  some ((!yr2.1),yr2.2.1,yr2.2.2.1,yr2.2.2.2.1,yr2.2.2.2.2.1,yr2.2.2.2.2.2.1,yr2.2.2.2.2.2.2.1,yr2.2.2.2.2.2.2.2.1,yr2.2.2.2.2.2.2.2.2.1,yr2.2.2.2.2.2.2.2.2.2.1,yr2.2.2.2.2.2.2.2.2.2.2.1,yr2.2.2.2.2.2.2.2.2.2.2.2.1,yr2.2.2.2.2.2.2.2.2.2.2.2.2.1,yr2.2.2.2.2.2.2.2.2.2.2.2.2.2.1,yr2.2.2.2.2.2.2.2.2.2.2.2.2.2.2.1,yr2.2.2.2.2.2.2.2.2.2.2.2.2.2.2.2.1,yr2.2.2.2.2.2.2.2.2.2.2.2.2.2.2.2.2.1,yr2.2.2.2.2.2.2.2.2.2.2.2.2.2.2.2.2.2.1,yr2.2.2.2.2.2.2.2.2.2.2.2.2.2.2.2.2.2.2)
def W0K:=Q (rx g0v) (Q (rx g0w) (Q @ent85 (Q @prm85 (Q @U0l (Q @e85.eq_1 (Q (nE e0a (.seq g0v (.seq g0w .ret))) hA))))))
theorem R0u(h0_0:Int)(h0_1:Bs)(h0_2:Int)(h0_3_0:Bool)(h0_3_1:List (Bs×Bs))(h0_4_0:Bool)(h0_4_1:List UInt8)(h1_0 h1_1:Bool)(h1_2 h1_3:Bool)(h1_4 h1_5:Bool)(h1_6 h1_7:Int)(h1_8 h1_9:Int)(h2_0:Bool):
  callW (E0 mm) 91 [.c (.fn 85 [(0,0),(1,0),(2,0)])] [.cells [.d (dI h0_0),.d (dS h0_1),.d (dI h0_2),.d (.lst h0_3_0 (enL enSS h0_3_1)),.d (.lst h0_4_0 (enL enB h0_4_1))],.cells [.d (dB h1_0),.d (dB h1_1),.d (dB h1_2),.d (dB h1_3),.d (dB h1_4),.d (dB h1_5),.d (dI h1_6),.d (dI h1_7),.d (dI h1_8),.d (dI h1_9)],.cells [.d (dB h2_0)]]=(T0s h0_0 h0_1 h0_2 h0_3_0 h0_3_1 h0_4_0 h0_4_1 h1_0 h1_1 h1_2 h1_3 h1_4 h1_5 h1_6 h1_7 h1_8 h1_9 h2_0).map V0V:=by
 rw[cR e0a [.tmp 2] Tryz.func91]
 unfold T0s;exact go W0K trivial
noncomputable def y0R:Code:=bodyOf Tryz.f87
def P0B:=cA y0R
def P0C:=cA (cB y0R)
abbrev R87:=(Bool×Bool×List (Bs×Bs)×Bool×Bool×Bool×Bool×Bool×Bool×Int×Int×Int×Int)
def e87(x:R87):AV×Heap:=(vd (dB x.1),[.cells [.d (.lst x.2.1 (enL enSS x.2.2.1))],.cells [.d (dB x.2.2.2.1),.d (dB x.2.2.2.2.1),.d (dB x.2.2.2.2.2.1),.d (dB x.2.2.2.2.2.2.1),.d (dB x.2.2.2.2.2.2.2.1),.d (dB x.2.2.2.2.2.2.2.2.1),.d (dI x.2.2.2.2.2.2.2.2.2.1),.d (dI x.2.2.2.2.2.2.2.2.2.2.1),.d (dI x.2.2.2.2.2.2.2.2.2.2.2.1),.d (dI x.2.2.2.2.2.2.2.2.2.2.2.2)]])
def m87(h0_0_0:Bool)(h0_0_1:List (Bs×Bs))(h1_0 h1_1:Bool)(h1_2 h1_3:Bool)(h1_4 h1_5:Bool)(h1_6 h1_7:Int)(h1_8 h1_9:Int):Option R87:=
 (m58 h0_0_0 h0_0_1 false ([([97,117,116,104,111,114,105,122,97,116,105,111,110]:Bs)]:List Bs)).bind fun yr2=>
  if yr2=true then
   if h1_3=true then
    some (true,h0_0_0,h0_0_1,h1_0,h1_1,h1_2,true,h1_4,h1_5,h1_6,h1_7,h1_8,h1_9)
   else
    if h1_4=true then
     some (true,h0_0_0,h0_0_1,h1_0,h1_1,h1_2,false,true,h1_5,h1_6,h1_7,h1_8,h1_9)
    else
     some ((decide (0≤h1_7)),h0_0_0,h0_0_1,h1_0,h1_1,h1_2,false,false,h1_5,h1_6,h1_7,h1_8,h1_9)
  else
   some (true,h0_0_0,h0_0_1,h1_0,h1_1,h1_2,h1_3,h1_4,h1_5,h1_6,h1_7,h1_8,h1_9)
def k87:=Q (rx P0B) (Q (rx P0C) (Q @hd151 (Q @nv152 (Q @rw153 (Q (fun (mm:Int) (h0_0_0:Bool) (h0_0_1:List (Bs×Bs))=>(show callW (E0 mm) 58 [cd (.lst h0_0_0 (enL enSS h0_0_1)),cd (.lst false (enL enS ([([97,117,116,104,111,114,105,122,97,116,105,111,110]:Bs)]:List Bs)))] []=_ from y0Z h0_0_0 h0_0_1 false ([([97,117,116,104,111,114,105,122,97,116,105,111,110]:Bs)]:List Bs))) (Q @y0Z (Q @e58.eq_1 (Q (nE y0R (.seq P0B (.seq P0C .ret))) hA))))))))
theorem U0n(h0_0_0:Bool)(h0_0_1:List (Bs×Bs))(h1_0 h1_1:Bool)(h1_2 h1_3:Bool)(h1_4 h1_5:Bool)(h1_6 h1_7:Int)(h1_8 h1_9:Int):
  callW (E0 mm) 87 [.c (.ptr 0 0),.c (.ptr 1 0)] [.cells [.d (.lst h0_0_0 (enL enSS h0_0_1))],.cells [.d (dB h1_0),.d (dB h1_1),.d (dB h1_2),.d (dB h1_3),.d (dB h1_4),.d (dB h1_5),.d (dI h1_6),.d (dI h1_7),.d (dI h1_8),.d (dI h1_9)]]=(m87 h0_0_0 h0_0_1 h1_0 h1_1 h1_2 h1_3 h1_4 h1_5 h1_6 h1_7 h1_8 h1_9).map e87:=by
 rw[cR y0R [.tmp 2] Tryz.func87]
 unfold m87;exact go k87 trivial
abbrev V0n:=(Bool×Bool×List (Bs×Bs)×Bool×Bool×Bool×Bool×Bool×Bool×Int×Int×Int×Int)
def V0W(x:V0n):AV×Heap:=(vd (dB x.1),[.cells [.d (.lst x.2.1 (enL enSS x.2.2.1))],.cells [.d (dB x.2.2.2.1),.d (dB x.2.2.2.2.1),.d (dB x.2.2.2.2.2.1),.d (dB x.2.2.2.2.2.2.1),.d (dB x.2.2.2.2.2.2.2.1),.d (dB x.2.2.2.2.2.2.2.2.1),.d (dI x.2.2.2.2.2.2.2.2.2.1),.d (dI x.2.2.2.2.2.2.2.2.2.2.1),.d (dI x.2.2.2.2.2.2.2.2.2.2.2.1),.d (dI x.2.2.2.2.2.2.2.2.2.2.2.2)]])
def T0t(h0_0_0:Bool)(h0_0_1:List (Bs×Bs))(h1_0 h1_1:Bool)(h1_2 h1_3:Bool)(h1_4 h1_5:Bool)(h1_6 h1_7:Int)(h1_8 h1_9:Int):Option V0n:=
 (m87 h0_0_0 h0_0_1 h1_0 h1_1 h1_2 h1_3 h1_4 h1_5 h1_6 h1_7 h1_8 h1_9).bind fun yr2=>
  some ((!yr2.1),yr2.2.1,yr2.2.2.1,yr2.2.2.2.1,yr2.2.2.2.2.1,yr2.2.2.2.2.2.1,yr2.2.2.2.2.2.2.1,yr2.2.2.2.2.2.2.2.1,yr2.2.2.2.2.2.2.2.2.1,yr2.2.2.2.2.2.2.2.2.2.1,yr2.2.2.2.2.2.2.2.2.2.2.1,yr2.2.2.2.2.2.2.2.2.2.2.2.1,yr2.2.2.2.2.2.2.2.2.2.2.2.2)
def W0L:=Q (rx g0v) (Q (rx g0w) (Q @ent87 (Q @prm87 (Q @U0n (Q @e87.eq_1 (Q (nE e0a (.seq g0v (.seq g0w .ret))) hA))))))
theorem R0v(h0_0_0:Bool)(h0_0_1:List (Bs×Bs))(h1_0 h1_1:Bool)(h1_2 h1_3:Bool)(h1_4 h1_5:Bool)(h1_6 h1_7:Int)(h1_8 h1_9:Int):
  callW (E0 mm) 91 [.c (.fn 87 [(0,0),(1,0)])] [.cells [.d (.lst h0_0_0 (enL enSS h0_0_1))],.cells [.d (dB h1_0),.d (dB h1_1),.d (dB h1_2),.d (dB h1_3),.d (dB h1_4),.d (dB h1_5),.d (dI h1_6),.d (dI h1_7),.d (dI h1_8),.d (dI h1_9)]]=(T0t h0_0_0 h0_0_1 h1_0 h1_1 h1_2 h1_3 h1_4 h1_5 h1_6 h1_7 h1_8 h1_9).map V0W:=by
 rw[cR e0a [.tmp 2] Tryz.func91]
 unfold T0t;exact go W0L trivial
noncomputable def y0H:Code:=bodyOf Tryz.f70
def O0R:=cA y0H
def O0S:=cA (cB y0H)
abbrev R70:=(Bool)
def e70(x:R70):AV×Heap:=(vd (dB x),[])
def m70(s substr:Bs):Option R70:=
 (L0t s substr).bind fun yr2=>
  some (decide (0≤yr2))
def k70:=Q (rx O0R) (Q (rx O0S) (Q @v0b (Q @T0D.eq_1 (Q (nE y0H (.seq O0R (.seq O0S .ret))) hA))))
theorem R0n(s substr:Bs):
  callW (E0 mm) 70 [cd (dS s),cd (dS substr)] []=(m70 s substr).map e70:=by
 rw[cR y0H [.tmp 4] Tryz.func70]
 unfold m70;exact go k70 trivial
noncomputable def y0u:Code:=bodyOf Tryz.f27
def N0c:=cA y0u
def N0d:=cA (cB y0u)
abbrev R27:=(Bool)
def e27(x:R27):AV×Heap:=(vd (dB x),[])
def m27(name:Bs):Option R27:=
 (m69 name).bind fun yr2=>
  if yr2=true then
   (m63 name).bind fun yr5=>
    if 1+yr5.length<9223372036854775808 then
     if ((32:UInt8)::yr5).length+1<9223372036854775808 then
      (m70 ([32,97,103,101,32,97,117,116,104,111,114,105,122,97,116,105,111,110,32,99,97,99,104,101,45,99,111,110,116,114,111,108,32,99,111,110,116,101,110,116,45,101,110,99,111,100,105,110,103,32,99,111,110,116,101,110,116,45,108,111,99,97,116,105,111,110,32,99,111,110,116,101,110,116,45,114,97,110,103,101,32,99,111,110,116,101,110,116,45,116,121,112,101,32,100,97,116,101,32,101,116,97,103,32,101,120,112,105,114,101,115,32,104,111,115,116,32,105,102,45,109,97,116,99,104,32,105,102,45,109,111,100,105,102,105,101,100,45,115,105,110,99,101,32,105,102,45,110,111,110,101,45,109,97,116,99,104,32,105,102,45,114,97,110,103,101,32,105,102,45,117,110,109,111,100,105,102,105,101,100,45,115,105,110,99,101,32,108,97,115,116,45,109,111,100,105,102,105,101,100,32,108,111,99,97,116,105,111,110,32,112,114,97,103,109,97,32,114,97,110,103,101,32,118,97,114,121,32,118,105,97,32]:Bs) (((32:UInt8)::yr5)++([32]:Bs))).bind fun yr9=>
       some yr9
     else none
    else none
  else
   some false
def k27:=Q (rx N0c) (Q (rx N0d) (Q @R0m (Q @e69.eq_1 (Q @z0a (Q @e63.eq_1 (Q @List.append_eq.{0} (Q @ent70 (Q @prm70 (Q (fun (mm:Int) (yr5:R63)=>(show callW (E0 mm) 70 [cd (dS ([32,97,103,101,32,97,117,116,104,111,114,105,122,97,116,105,111,110,32,99,97,99,104,101,45,99,111,110,116,114,111,108,32,99,111,110,116,101,110,116,45,101,110,99,111,100,105,110,103,32,99,111,110,116,101,110,116,45,108,111,99,97,116,105,111,110,32,99,111,110,116,101,110,116,45,114,97,110,103,101,32,99,111,110,116,101,110,116,45,116,121,112,101,32,100,97,116,101,32,101,116,97,103,32,101,120,112,105,114,101,115,32,104,111,115,116,32,105,102,45,109,97,116,99,104,32,105,102,45,109,111,100,105,102,105,101,100,45,115,105,110,99,101,32,105,102,45,110,111,110,101,45,109,97,116,99,104,32,105,102,45,114,97,110,103,101,32,105,102,45,117,110,109,111,100,105,102,105,101,100,45,115,105,110,99,101,32,108,97,115,116,45,109,111,100,105,102,105,101,100,32,108,111,99,97,116,105,111,110,32,112,114,97,103,109,97,32,114,97,110,103,101,32,118,97,114,121,32,118,105,97,32]:Bs)),cd (dS (((32:UInt8)::yr5)++([32]:Bs)))] []=_ from R0n ([32,97,103,101,32,97,117,116,104,111,114,105,122,97,116,105,111,110,32,99,97,99,104,101,45,99,111,110,116,114,111,108,32,99,111,110,116,101,110,116,45,101,110,99,111,100,105,110,103,32,99,111,110,116,101,110,116,45,108,111,99,97,116,105,111,110,32,99,111,110,116,101,110,116,45,114,97,110,103,101,32,99,111,110,116,101,110,116,45,116,121,112,101,32,100,97,116,101,32,101,116,97,103,32,101,120,112,105,114,101,115,32,104,111,115,116,32,105,102,45,109,97,116,99,104,32,105,102,45,109,111,100,105,102,105,101,100,45,115,105,110,99,101,32,105,102,45,110,111,110,101,45,109,97,116,99,104,32,105,102,45,114,97,110,103,101,32,105,102,45,117,110,109,111,100,105,102,105,101,100,45,115,105,110,99,101,32,108,97,115,116,45,109,111,100,105,102,105,101,100,32,108,111,99,97,116,105,111,110,32,112,114,97,103,109,97,32,114,97,110,103,101,32,118,97,114,121,32,118,105,97,32]:Bs) (((32:UInt8)::yr5)++([32]:Bs)))) (Q @R0n (Q @e70.eq_1 (Q (nE y0u (.seq N0c (.seq N0d .ret))) hA))))))))))))
theorem T0M(name:Bs):
  callW (E0 mm) 27 [cd (dS name)] []=(m27 name).map e27:=by
 rw[cR y0u [.tmp 2] Tryz.func27]
 unfold m27;exact go k27 trivial
abbrev r0c:=(Int)
def h0Z:List (Nat×Co):=[(0,.keep),(1,.keep),(7,.keep),(8,.keep)]
def u0V(x:r0c):AV×Heap:=(vd (dI x),[])
def e0e: Option r0c:=
 some (-1:Int)
def h0P(mm:Int)(r:Option (Ex×St)):Option (AV×Heap):=bodyD (E0 mm) [.tmp 4] 0 false (sq (E0 mm) 123 0 a0d (blockD 0 (r)))
def c0x(x:(Bool×List Bs×Int×Int)):X:=(none,[vd (.lst x.1 (enL enS x.2.1)),vd (.sc (.func (.func 27) #[] #[])),vd (dI x.2.2.1),vd (dI x.2.2.2)],[])
def K0M:=Q (rx a0R) (Q (rx d0G) (Q (rx a0N) (Q (rx a0O) (Q @ent27 (Q @prm27 (Q @T0M (Q @e27.eq_1 (Q (rx a0P) (Q @h0P.eq_1 (Q (rx a0Q) (Q (rx d0E) (Q (rx d0F) (Q (fun mm=>lx (E0 mm) 123 c0c a0f h0Z) (Q (nE a0G (.seq d0E (.seq (.seq d0F (.block 0 c0c)) a0d))) (Q (nE a0f (.seq d0G (.seq (.cond _ .skip (.exit 0)) (.seq (.block 1 (.seq a0N (.seq a0O (.cond _ (.seq a0P .ret) .skip)))) a0Q)))) (Q @c0x.eq_1 (Q @h0Z.eq_1 hA)))))))))))))))))
theorem q0f(sl:Sl):
  bodyD (E0 mm) [.tmp 4] 0 false (dn (E0 mm) 123 0 a0d sl [])=(e0e).map u0V:=by
 unfold e0e;exact go (Q (nE a0d (.seq a0R .ret)) K0M) trivial
def g0d(s0_0:Bool)(s0_1:List Bs)(t7 t8:Int):Option ((Bool×List Bs×Int×Int) ⊕ r0c):=
 if (decide (t8<t7))=true then
  if 0≤t8∧t8<(s0_1.length:Int) then
   (m27 (s0_1.getD t8.toNat default)).bind fun yr5=>
    if yr5=true then
     some (.inr t8)
    else
     some (.inl (s0_0,s0_1,t7,(w64 (t8+1))))
  else none
 else
  (e0e).map .inr
theorem x0F(s0_0:Bool)(s0_1:List Bs)(t7 t8:Int):
  stepE (h0P mm) (lp (E0 mm) 123 0 a0f h0Z (c0x (s0_0,s0_1,t7,t8)))=(g0d s0_0 s0_1 t7 t8).map (sm c0x u0V):=by
 unfold g0d;exact go K0M @q0f
def w0C(s0_0:Bool)(s0_1:List Bs)(t7 t8:Int):Option r0c:=iter (fun x:(Bool×List Bs×Int×Int)=>g0d x.1 x.2.1 x.2.2.1 x.2.2.2) (s0_0,s0_1,t7,t8)
theorem w0D(s0_0:Bool)(s0_1:List Bs)(t7 t8:Int):(h0P mm) (itW (lp (E0 mm) 123 0 a0f h0Z) (c0x (s0_0,s0_1,t7,t8)))=(w0C s0_0 s0_1 t7 t8).map u0V:=
 it_sim (K:=(h0P mm)) rfl (enc:=c0x) (fun x=>x0F x.1 x.2.1 x.2.2.1 x.2.2.2) (s0_0,s0_1,t7,t8)
def B0q(s_0:Bool)(s_1:List Bs):Option r0c:=
 w0C s_0 s_1 (s_1.length:Int) (0:Int)
theorem K0B(s_0:Bool)(s_1:List Bs):
  callW (E0 mm) 123 [cd (.lst s_0 (enL enS s_1)),cd (.sc (.func (.func 27) #[] #[]))] []=(B0q s_0 s_1).map u0V:=by
 rw[cR a0G [.tmp 4] Tryz.func123]
 unfold B0q;exact go K0M @w0D
abbrev V0l:=(Bool)
def V0U(x:V0l):AV×Heap:=(vd (dB x),[])
def T0r(s_0:Bool)(s_1:List Bs):Option V0l:=
 (B0q s_0 s_1).bind fun yr2=>
  some (decide (0≤yr2))
def W0J:=Q (rx k0w) (Q (rx k0x) (Q @K0B (Q @u0V.eq_1 (Q (nE g0u (.seq k0w (.seq k0x .ret))) hA))))
theorem R0t(s_0:Bool)(s_1:List Bs):
  callW (E0 mm) 79 [cd (.lst s_0 (enL enS s_1)),cd (.sc (.func (.func 27) #[] #[]))] []=(T0r s_0 s_1).map V0U:=by
 rw[cR g0u [.tmp 4] Tryz.func79]
 unfold T0r;exact go W0J trivial
noncomputable def y0S:Code:=bodyOf Tryz.f88
def P0D:=cA y0S
def P0E:=cA (cB y0S)
abbrev R88:=(Bool×Int×Bs×Int×Bool×List (Bs×Bs)×Bool×List UInt8)
def e88(x:R88):AV×Heap:=(vd (dB x.1),[.cells [.d (dI x.2.1),.d (dS x.2.2.1),.d (dI x.2.2.2.1),.d (.lst x.2.2.2.2.1 (enL enSS x.2.2.2.2.2.1)),.d (.lst x.2.2.2.2.2.2.1 (enL enB x.2.2.2.2.2.2.2))]])
def m88(h0_0:Int)(h0_1:Bs)(h0_2:Int)(h0_3_0:Bool)(h0_3_1:List (Bs×Bs))(h0_4_0:Bool)(h0_4_1:List UInt8):Option R88:=
 (m26 h0_3_0 h0_3_1 ([99,111,110,110,101,99,116,105,111,110]:Bs)).bind fun yr2=>
  (T0r yr2.1 yr2.2).bind fun yr4=>
   some ((!yr4),h0_0,h0_1,h0_2,h0_3_0,h0_3_1,h0_4_0,h0_4_1)
def k88:=Q (rx P0D) (Q (rx P0E) (Q (fun (mm:Int) (h0_3_0:Bool) (h0_3_1:List (Bs×Bs))=>(show callW (E0 mm) 26 [cd (.lst h0_3_0 (enL enSS h0_3_1)),cd (dS ([99,111,110,110,101,99,116,105,111,110]:Bs))] []=_ from k0K h0_3_0 h0_3_1 ([99,111,110,110,101,99,116,105,111,110]:Bs))) (Q @k0K (Q @e26.eq_1 (Q @R0t (Q @V0U.eq_1 (Q (nE y0S (.seq P0D (.seq P0E .ret))) hA)))))))
theorem U0o(h0_0:Int)(h0_1:Bs)(h0_2:Int)(h0_3_0:Bool)(h0_3_1:List (Bs×Bs))(h0_4_0:Bool)(h0_4_1:List UInt8):
  callW (E0 mm) 88 [.c (.ptr 0 0)] [.cells [.d (dI h0_0),.d (dS h0_1),.d (dI h0_2),.d (.lst h0_3_0 (enL enSS h0_3_1)),.d (.lst h0_4_0 (enL enB h0_4_1))]]=(m88 h0_0 h0_1 h0_2 h0_3_0 h0_3_1 h0_4_0 h0_4_1).map e88:=by
 rw[cR y0S [.tmp 1] Tryz.func88]
 unfold m88;exact go k88 trivial
abbrev V0o:=(Bool×Int×Bs×Int×Bool×List (Bs×Bs)×Bool×List UInt8)
def V0X(x:V0o):AV×Heap:=(vd (dB x.1),[.cells [.d (dI x.2.1),.d (dS x.2.2.1),.d (dI x.2.2.2.1),.d (.lst x.2.2.2.2.1 (enL enSS x.2.2.2.2.2.1)),.d (.lst x.2.2.2.2.2.2.1 (enL enB x.2.2.2.2.2.2.2))]])
def T0u(h0_0:Int)(h0_1:Bs)(h0_2:Int)(h0_3_0:Bool)(h0_3_1:List (Bs×Bs))(h0_4_0:Bool)(h0_4_1:List UInt8):Option V0o:=
 (m88 h0_0 h0_1 h0_2 h0_3_0 h0_3_1 h0_4_0 h0_4_1).bind fun yr2=>
  some ((!yr2.1),yr2.2.1,yr2.2.2.1,yr2.2.2.2.1,yr2.2.2.2.2.1,yr2.2.2.2.2.2.1,yr2.2.2.2.2.2.2.1,yr2.2.2.2.2.2.2.2)
def W0M:=Q (rx g0v) (Q (rx g0w) (Q @ent88 (Q @prm88 (Q @U0o (Q @e88.eq_1 (Q (nE e0a (.seq g0v (.seq g0w .ret))) hA))))))
theorem R0w(h0_0:Int)(h0_1:Bs)(h0_2:Int)(h0_3_0:Bool)(h0_3_1:List (Bs×Bs))(h0_4_0:Bool)(h0_4_1:List UInt8):
  callW (E0 mm) 91 [.c (.fn 88 [(0,0)])] [.cells [.d (dI h0_0),.d (dS h0_1),.d (dI h0_2),.d (.lst h0_3_0 (enL enSS h0_3_1)),.d (.lst h0_4_0 (enL enB h0_4_1))]]=(T0u h0_0 h0_1 h0_2 h0_3_0 h0_3_1 h0_4_0 h0_4_1).map V0X:=by
 rw[cR e0a [.tmp 2] Tryz.func91]
 unfold T0u;exact go W0M trivial
noncomputable def u0I:Code:=bodyOf Tryz.f89
def P0F:=cA u0I
def P0G:=cA (cB u0I)
def P0H:=cA (cB (cB u0I))
abbrev R89:=(Bool×Int×Bs×Int×Bool×List (Bs×Bs)×Bool×List UInt8)
def e89(x:R89):AV×Heap:=(vd (dB x.1),[.cells [.d (dI x.2.1),.d (dS x.2.2.1),.d (dI x.2.2.2.1),.d (.lst x.2.2.2.2.1 (enL enSS x.2.2.2.2.2.1)),.d (.lst x.2.2.2.2.2.2.1 (enL enB x.2.2.2.2.2.2.2))]])
def m89(h0_0:Int)(h0_1:Bs)(h0_2:Int)(h0_3_0:Bool)(h0_3_1:List (Bs×Bs))(h0_4_0:Bool)(h0_4_1:List UInt8):Option R89:=
 (m25 h0_0 h0_1 h0_2 h0_3_0 h0_3_1 h0_4_0 h0_4_1).bind fun yr2=>
  if yr2.2=true then
   some (true,h0_0,h0_1,h0_2,h0_3_0,h0_3_1,h0_4_0,h0_4_1)
  else
   if (decide (0<yr2.1))=true then
    some (true,h0_0,h0_1,h0_2,h0_3_0,h0_3_1,h0_4_0,h0_4_1)
   else
    (m15 ([]:Bs) (0:Int) (0:Int) true ([]:List (Bs×Bs)) h0_0 h0_1 h0_2 h0_3_0 h0_3_1 h0_4_0 h0_4_1).bind fun yr6=>
     match yr6 with
     | .inl yr7=>
      some ((decide (0<(yr7.2.length:Int))),h0_0,h0_1,h0_2,h0_3_0,h0_3_1,h0_4_0,h0_4_1)
     | .inr yr8=>
      some ((decide (0<(yr8.2.length:Int))),h0_0,h0_1,h0_2,h0_3_0,h0_3_1,h0_4_0,h0_4_1)
def k89:=Q (rx P0F) (Q (rx P0G) (Q @ent25 (Q @prm25 (Q @T0L (Q @e25.eq_1 (Q (rx P0H) (Q (fun (mm:Int) (h0_0:Int) (h0_1:Bs) (h0_2:Int) (h0_3_0:Bool) (h0_3_1:List (Bs×Bs)) (h0_4_0:Bool) (h0_4_1:List UInt8)=>(show callW (E0 mm) 15 [.agg [.d (dS ([]:Bs)),.d (dU 0),.d (dU 0),.d (.lst true []),.d (dI h0_0),.d (dS h0_1),.d (dI h0_2),.d (.lst h0_3_0 (enL enSS h0_3_1)),.d (.lst h0_4_0 (enL enB h0_4_1))]] []=_ from y0Y ([]:Bs) (0:Int) (0:Int) true ([]:List (Bs×Bs)) h0_0 h0_1 h0_2 h0_3_0 h0_3_1 h0_4_0 h0_4_1)) (Q @y0Y (Q @e15.eq_1 (Q @e15.eq_2 (Q (nE u0I (.seq P0F (.seq P0G (.seq P0H .ret)))) hA)))))))))))
theorem U0p(h0_0:Int)(h0_1:Bs)(h0_2:Int)(h0_3_0:Bool)(h0_3_1:List (Bs×Bs))(h0_4_0:Bool)(h0_4_1:List UInt8):
  callW (E0 mm) 89 [.c (.ptr 0 0)] [.cells [.d (dI h0_0),.d (dS h0_1),.d (dI h0_2),.d (.lst h0_3_0 (enL enSS h0_3_1)),.d (.lst h0_4_0 (enL enB h0_4_1))]]=(m89 h0_0 h0_1 h0_2 h0_3_0 h0_3_1 h0_4_0 h0_4_1).map e89:=by
 rw[cR u0I [.tmp 1] Tryz.func89]
 unfold m89;exact go k89 trivial
abbrev V0p:=(Bool×Int×Bs×Int×Bool×List (Bs×Bs)×Bool×List UInt8)
def V0Y(x:V0p):AV×Heap:=(vd (dB x.1),[.cells [.d (dI x.2.1),.d (dS x.2.2.1),.d (dI x.2.2.2.1),.d (.lst x.2.2.2.2.1 (enL enSS x.2.2.2.2.2.1)),.d (.lst x.2.2.2.2.2.2.1 (enL enB x.2.2.2.2.2.2.2))]])
def T0v(h0_0:Int)(h0_1:Bs)(h0_2:Int)(h0_3_0:Bool)(h0_3_1:List (Bs×Bs))(h0_4_0:Bool)(h0_4_1:List UInt8):Option V0p:=
 (m89 h0_0 h0_1 h0_2 h0_3_0 h0_3_1 h0_4_0 h0_4_1).bind fun yr2=>
  some ((!yr2.1),yr2.2.1,yr2.2.2.1,yr2.2.2.2.1,yr2.2.2.2.2.1,yr2.2.2.2.2.2.1,yr2.2.2.2.2.2.2.1,yr2.2.2.2.2.2.2.2)
def W0N:=Q (rx g0v) (Q (rx g0w) (Q @ent89 (Q @prm89 (Q @U0p (Q @e89.eq_1 (Q (nE e0a (.seq g0v (.seq g0w .ret))) hA))))))
theorem R0x(h0_0:Int)(h0_1:Bs)(h0_2:Int)(h0_3_0:Bool)(h0_3_1:List (Bs×Bs))(h0_4_0:Bool)(h0_4_1:List UInt8):
  callW (E0 mm) 91 [.c (.fn 89 [(0,0)])] [.cells [.d (dI h0_0),.d (dS h0_1),.d (dI h0_2),.d (.lst h0_3_0 (enL enSS h0_3_1)),.d (.lst h0_4_0 (enL enB h0_4_1))]]=(T0v h0_0 h0_1 h0_2 h0_3_0 h0_3_1 h0_4_0 h0_4_1).map V0Y:=by
 rw[cR e0a [.tmp 2] Tryz.func91]
 unfold T0v;exact go W0N trivial
noncomputable def g0N:Code:=bodyOf Tryz.f124
def C0V:=cA g0N
def C0W:=cA (cA (cB g0N))
def s0n:=cA (cB (cA (cB g0N)))
def a0j:=cA s0n
def C0X:=cA a0j
def a0h:=cB (cB a0j)
def c0Y:=cA (cA (cA a0h))
def c0Z:=cA (cB (cA (cA a0h)))
def d0a:=cA (cA (cB (cB (cA (cA a0h)))))
def a0i:=cB a0h
def a0b:=cB (cB g0N)
def s0m:=cA a0b
def a0a:List (Nat×Co):=[(0,.keep),(1,.keep),(7,.keep),(8,.keep)]
abbrev b124(mm:Int):=bodyD (E0 mm) [.tmp 4] 6 false
abbrev j0n:=(Int×Bs×Bool×List (Bs×Bs)×Int×Bs×Int×Bool×List (Bs×Bs)×Bool×List UInt8×Bool×Bool×Bool×Bool×Bool×Bool×Int×Int×Int×Int×Bool)
def j0o(x:j0n):AV×Heap:=(vd (dI x.1),[.cells [.fn 84 [(1,0),(2,0)],.fn 85 [(3,0),(4,0),(5,0)],.fn 87 [(2,0),(4,0)],.fn 88 [(3,0)],.fn 89 [(3,0)]],.cells [.d (dS x.2.1)],.cells [.d (.lst x.2.2.1 (enL enSS x.2.2.2.1))],.cells [.d (dI x.2.2.2.2.1),.d (dS x.2.2.2.2.2.1),.d (dI x.2.2.2.2.2.2.1),.d (.lst x.2.2.2.2.2.2.2.1 (enL enSS x.2.2.2.2.2.2.2.2.1)),.d (.lst x.2.2.2.2.2.2.2.2.2.1 (enL enB x.2.2.2.2.2.2.2.2.2.2.1))],.cells [.d (dB x.2.2.2.2.2.2.2.2.2.2.2.1),.d (dB x.2.2.2.2.2.2.2.2.2.2.2.2.1),.d (dB x.2.2.2.2.2.2.2.2.2.2.2.2.2.1),.d (dB x.2.2.2.2.2.2.2.2.2.2.2.2.2.2.1),.d (dB x.2.2.2.2.2.2.2.2.2.2.2.2.2.2.2.1),.d (dB x.2.2.2.2.2.2.2.2.2.2.2.2.2.2.2.2.1),.d (dI x.2.2.2.2.2.2.2.2.2.2.2.2.2.2.2.2.2.1),.d (dI x.2.2.2.2.2.2.2.2.2.2.2.2.2.2.2.2.2.2.1),.d (dI x.2.2.2.2.2.2.2.2.2.2.2.2.2.2.2.2.2.2.2.1),.d (dI x.2.2.2.2.2.2.2.2.2.2.2.2.2.2.2.2.2.2.2.2.1)],.cells [.d (dB x.2.2.2.2.2.2.2.2.2.2.2.2.2.2.2.2.2.2.2.2.2)]])
def u124_6_5(h1_0:Bs)(h2_0_0:Bool)(h2_0_1:List (Bs×Bs))(h3_0:Int)(h3_1:Bs)(h3_2:Int)(h3_3_0:Bool)(h3_3_1:List (Bs×Bs))(h3_4_0:Bool)(h3_4_1:List UInt8)(h4_0 h4_1:Bool)(h4_2 h4_3:Bool)(h4_4 h4_5:Bool)(h4_6 h4_7:Int)(h4_8 h4_9:Int)(h5_0:Bool):Option j0n:=
 some ((-1:Int),h1_0,h2_0_0,h2_0_1,h3_0,h3_1,h3_2,h3_3_0,h3_3_1,h3_4_0,h3_4_1,h4_0,h4_1,h4_2,h4_3,h4_4,h4_5,h4_6,h4_7,h4_8,h4_9,h5_0)
def l0h:=Q @itB_l (Q @itB_r (Q (rx C0X) (Q (rx s0m) (Q (show List.range 6=[0,1,2,3,4,5] from rfl) (Q (rx c0Y) (Q (rx c0Z) (Q @ag35 (Q @ent91 (Q @prm91 (Q @R0x (Q @V0Y.eq_1 (Q (rx d0a) (Q @R0w (Q @V0X.eq_1 (Q @R0v (Q @V0W.eq_1 (Q @R0u (Q @V0V.eq_1 (Q @U0r (Q @e91.eq_1 (Q (rx C0V) (Q (rx C0W) (Q (fun mm=>lx (E0 mm) 124 s0n a0j a0a) (Q (nE g0N (.seq C0V (.seq (.seq C0W (.block 0 s0n)) a0b))) (Q (nE a0j (.seq C0X (.seq (.cond _ .skip (.exit 0)) a0h))) (Q (nE a0b (.seq s0m .ret)) (Q @a0a.eq_1 hA)))))))))))))))))))))))))))
theorem u124_6_5_t(h1_0:Bs)(h2_0_0:Bool)(h2_0_1:List (Bs×Bs))(h3_0:Int)(h3_1:Bs)(h3_2:Int)(h3_3_0:Bool)(h3_3_1:List (Bs×Bs))(h3_4_0:Bool)(h3_4_1:List UInt8)(h4_0 h4_1:Bool)(h4_2 h4_3:Bool)(h4_4 h4_5:Bool)(h4_6 h4_7:Int)(h4_8 h4_9:Int)(h5_0:Bool):
  b124 mm (sq (E0 mm) 124 6 a0b (blockD 0 (itW (lp (E0 mm) 124 6 a0j a0a) (none,[.v (.c (.slc 0 0 1 5 (some 5))),vd (.sc (.func (.func 91) #[] #[])),vd (dI 5),vd (dI 5)],[.cells [.fn 84 [(1,0),(2,0)],.fn 85 [(3,0),(4,0),(5,0)],.fn 87 [(2,0),(4,0)],.fn 88 [(3,0)],.fn 89 [(3,0)]],.cells [.d (dS h1_0)],.cells [.d (.lst h2_0_0 (enL enSS h2_0_1))],.cells [.d (dI h3_0),.d (dS h3_1),.d (dI h3_2),.d (.lst h3_3_0 (enL enSS h3_3_1)),.d (.lst h3_4_0 (enL enB h3_4_1))],.cells [.d (dB h4_0),.d (dB h4_1),.d (dB h4_2),.d (dB h4_3),.d (dB h4_4),.d (dB h4_5),.d (dI h4_6),.d (dI h4_7),.d (dI h4_8),.d (dI h4_9)],.cells [.d (dB h5_0)]]))))=(u124_6_5 h1_0 h2_0_0 h2_0_1 h3_0 h3_1 h3_2 h3_3_0 h3_3_1 h3_4_0 h3_4_1 h4_0 h4_1 h4_2 h4_3 h4_4 h4_5 h4_6 h4_7 h4_8 h4_9 h5_0).map j0o:=by
 rw[itW_B]
 unfold u124_6_5;exact go l0h trivial
def c0K(h1_0:Bs)(h2_0_0:Bool)(h2_0_1:List (Bs×Bs))(h3_0:Int)(h3_1:Bs)(h3_2:Int)(h3_3_0:Bool)(h3_3_1:List (Bs×Bs))(h3_4_0:Bool)(h3_4_1:List UInt8)(h4_0 h4_1:Bool)(h4_2 h4_3:Bool)(h4_4 h4_5:Bool)(h4_6 h4_7:Int)(h4_8 h4_9:Int)(h5_0:Bool):Option j0n:=
 u124_6_5 h1_0 h2_0_0 h2_0_1 h3_0 h3_1 h3_2 h3_3_0 h3_3_1 h3_4_0 h3_4_1 h4_0 h4_1 h4_2 h4_3 h4_4 h4_5 h4_6 h4_7 h4_8 h4_9 h5_0
theorem m0z(h1_0:Bs)(h2_0_0:Bool)(h2_0_1:List (Bs×Bs))(h3_0:Int)(h3_1:Bs)(h3_2:Int)(h3_3_0:Bool)(h3_3_1:List (Bs×Bs))(h3_4_0:Bool)(h3_4_1:List UInt8)(h4_0 h4_1:Bool)(h4_2 h4_3:Bool)(h4_4 h4_5:Bool)(h4_6 h4_7:Int)(h4_8 h4_9:Int)(h5_0:Bool)(sl:Sl)(_:sl 0=.v (.c (.slc 0 0 1 5 (some 5))))(_:sl 1=vd (.sc (.func (.func 91) #[] #[])))(_:sl 7=vd (dI 5))(_:sl 8=vd (dI 4)):
  b124 mm (sq (E0 mm) 124 6 a0b (blockD 0 (itB (lp (E0 mm) 124 6 a0j a0a) (loopK 6 a0a (dn (E0 mm) 124 6 a0i sl [.cells [.fn 84 [(1,0),(2,0)],.fn 85 [(3,0),(4,0),(5,0)],.fn 87 [(2,0),(4,0)],.fn 88 [(3,0)],.fn 89 [(3,0)]],.cells [.d (dS h1_0)],.cells [.d (.lst h2_0_0 (enL enSS h2_0_1))],.cells [.d (dI h3_0),.d (dS h3_1),.d (dI h3_2),.d (.lst h3_3_0 (enL enSS h3_3_1)),.d (.lst h3_4_0 (enL enB h3_4_1))],.cells [.d (dB h4_0),.d (dB h4_1),.d (dB h4_2),.d (dB h4_3),.d (dB h4_4),.d (dB h4_5),.d (dI h4_6),.d (dI h4_7),.d (dI h4_8),.d (dI h4_9)],.cells [.d (dB h5_0)]])))))=(c0K h1_0 h2_0_0 h2_0_1 h3_0 h3_1 h3_2 h3_3_0 h3_3_1 h3_4_0 h3_4_1 h4_0 h4_1 h4_2 h4_3 h4_4 h4_5 h4_6 h4_7 h4_8 h4_9 h5_0).map j0o:=by
 unfold c0K;exact go (Q (rx a0i) l0h) @u124_6_5_t
def c0G(h1_0:Bs)(h2_0_0:Bool)(h2_0_1:List (Bs×Bs))(h3_0:Int)(h3_1:Bs)(h3_2:Int)(h3_3_0:Bool)(h3_3_1:List (Bs×Bs))(h3_4_0:Bool)(h3_4_1:List UInt8)(h4_0 h4_1:Bool)(h4_2 h4_3:Bool)(h4_4 h4_5:Bool)(h4_6 h4_7:Int)(h4_8 h4_9:Int)(h5_0:Bool):Option j0n:=
 (T0v h3_0 h3_1 h3_2 h3_3_0 h3_3_1 h3_4_0 h3_4_1).bind fun yr14=>
  if yr14.1=true then
   some ((4:Int),h1_0,h2_0_0,h2_0_1,yr14.2.1,yr14.2.2.1,yr14.2.2.2.1,yr14.2.2.2.2.1,yr14.2.2.2.2.2.1,yr14.2.2.2.2.2.2.1,yr14.2.2.2.2.2.2.2,h4_0,h4_1,h4_2,h4_3,h4_4,h4_5,h4_6,h4_7,h4_8,h4_9,h5_0)
  else
   c0K h1_0 h2_0_0 h2_0_1 yr14.2.1 yr14.2.2.1 yr14.2.2.2.1 yr14.2.2.2.2.1 yr14.2.2.2.2.2.1 yr14.2.2.2.2.2.2.1 yr14.2.2.2.2.2.2.2 h4_0 h4_1 h4_2 h4_3 h4_4 h4_5 h4_6 h4_7 h4_8 h4_9 h5_0
theorem m0v(h1_0:Bs)(h2_0_0:Bool)(h2_0_1:List (Bs×Bs))(h3_0:Int)(h3_1:Bs)(h3_2:Int)(h3_3_0:Bool)(h3_3_1:List (Bs×Bs))(h3_4_0:Bool)(h3_4_1:List UInt8)(h4_0 h4_1:Bool)(h4_2 h4_3:Bool)(h4_4 h4_5:Bool)(h4_6 h4_7:Int)(h4_8 h4_9:Int)(h5_0:Bool)(sl:Sl)(_:sl 0=.v (.c (.slc 0 0 1 5 (some 5))))(_:sl 1=vd (.sc (.func (.func 91) #[] #[])))(_:sl 7=vd (dI 5))(_:sl 8=vd (dI 4)):
  b124 mm (sq (E0 mm) 124 6 a0b (blockD 0 (itB (lp (E0 mm) 124 6 a0j a0a) (loopK 6 a0a (dn (E0 mm) 124 6 a0h sl [.cells [.fn 84 [(1,0),(2,0)],.fn 85 [(3,0),(4,0),(5,0)],.fn 87 [(2,0),(4,0)],.fn 88 [(3,0)],.fn 89 [(3,0)]],.cells [.d (dS h1_0)],.cells [.d (.lst h2_0_0 (enL enSS h2_0_1))],.cells [.d (dI h3_0),.d (dS h3_1),.d (dI h3_2),.d (.lst h3_3_0 (enL enSS h3_3_1)),.d (.lst h3_4_0 (enL enB h3_4_1))],.cells [.d (dB h4_0),.d (dB h4_1),.d (dB h4_2),.d (dB h4_3),.d (dB h4_4),.d (dB h4_5),.d (dI h4_6),.d (dI h4_7),.d (dI h4_8),.d (dI h4_9)],.cells [.d (dB h5_0)]])))))=(c0G h1_0 h2_0_0 h2_0_1 h3_0 h3_1 h3_2 h3_3_0 h3_3_1 h3_4_0 h3_4_1 h4_0 h4_1 h4_2 h4_3 h4_4 h4_5 h4_6 h4_7 h4_8 h4_9 h5_0).map j0o:=by
 unfold c0G;exact go (Q (nE a0h (.seq (.block 1 (.seq c0Y (.seq c0Z (.cond _ (.seq d0a .ret) .skip)))) a0i)) l0h) @m0z
def u124_6_4(h1_0:Bs)(h2_0_0:Bool)(h2_0_1:List (Bs×Bs))(h3_0:Int)(h3_1:Bs)(h3_2:Int)(h3_3_0:Bool)(h3_3_1:List (Bs×Bs))(h3_4_0:Bool)(h3_4_1:List UInt8)(h4_0 h4_1:Bool)(h4_2 h4_3:Bool)(h4_4 h4_5:Bool)(h4_6 h4_7:Int)(h4_8 h4_9:Int)(h5_0:Bool):Option j0n:=
 c0G h1_0 h2_0_0 h2_0_1 h3_0 h3_1 h3_2 h3_3_0 h3_3_1 h3_4_0 h3_4_1 h4_0 h4_1 h4_2 h4_3 h4_4 h4_5 h4_6 h4_7 h4_8 h4_9 h5_0
theorem u124_6_4_t(h1_0:Bs)(h2_0_0:Bool)(h2_0_1:List (Bs×Bs))(h3_0:Int)(h3_1:Bs)(h3_2:Int)(h3_3_0:Bool)(h3_3_1:List (Bs×Bs))(h3_4_0:Bool)(h3_4_1:List UInt8)(h4_0 h4_1:Bool)(h4_2 h4_3:Bool)(h4_4 h4_5:Bool)(h4_6 h4_7:Int)(h4_8 h4_9:Int)(h5_0:Bool):
  b124 mm (sq (E0 mm) 124 6 a0b (blockD 0 (itW (lp (E0 mm) 124 6 a0j a0a) (none,[.v (.c (.slc 0 0 1 5 (some 5))),vd (.sc (.func (.func 91) #[] #[])),vd (dI 5),vd (dI 4)],[.cells [.fn 84 [(1,0),(2,0)],.fn 85 [(3,0),(4,0),(5,0)],.fn 87 [(2,0),(4,0)],.fn 88 [(3,0)],.fn 89 [(3,0)]],.cells [.d (dS h1_0)],.cells [.d (.lst h2_0_0 (enL enSS h2_0_1))],.cells [.d (dI h3_0),.d (dS h3_1),.d (dI h3_2),.d (.lst h3_3_0 (enL enSS h3_3_1)),.d (.lst h3_4_0 (enL enB h3_4_1))],.cells [.d (dB h4_0),.d (dB h4_1),.d (dB h4_2),.d (dB h4_3),.d (dB h4_4),.d (dB h4_5),.d (dI h4_6),.d (dI h4_7),.d (dI h4_8),.d (dI h4_9)],.cells [.d (dB h5_0)]]))))=(u124_6_4 h1_0 h2_0_0 h2_0_1 h3_0 h3_1 h3_2 h3_3_0 h3_3_1 h3_4_0 h3_4_1 h4_0 h4_1 h4_2 h4_3 h4_4 h4_5 h4_6 h4_7 h4_8 h4_9 h5_0).map j0o:=by
 rw[itW_B]
 unfold u124_6_4;exact go l0h @m0v
def c0J(h1_0:Bs)(h2_0_0:Bool)(h2_0_1:List (Bs×Bs))(h3_0:Int)(h3_1:Bs)(h3_2:Int)(h3_3_0:Bool)(h3_3_1:List (Bs×Bs))(h3_4_0:Bool)(h3_4_1:List UInt8)(h4_0 h4_1:Bool)(h4_2 h4_3:Bool)(h4_4 h4_5:Bool)(h4_6 h4_7:Int)(h4_8 h4_9:Int)(h5_0:Bool):Option j0n:=
 u124_6_4 h1_0 h2_0_0 h2_0_1 h3_0 h3_1 h3_2 h3_3_0 h3_3_1 h3_4_0 h3_4_1 h4_0 h4_1 h4_2 h4_3 h4_4 h4_5 h4_6 h4_7 h4_8 h4_9 h5_0
theorem m0y(h1_0:Bs)(h2_0_0:Bool)(h2_0_1:List (Bs×Bs))(h3_0:Int)(h3_1:Bs)(h3_2:Int)(h3_3_0:Bool)(h3_3_1:List (Bs×Bs))(h3_4_0:Bool)(h3_4_1:List UInt8)(h4_0 h4_1:Bool)(h4_2 h4_3:Bool)(h4_4 h4_5:Bool)(h4_6 h4_7:Int)(h4_8 h4_9:Int)(h5_0:Bool)(sl:Sl)(_:sl 0=.v (.c (.slc 0 0 1 5 (some 5))))(_:sl 1=vd (.sc (.func (.func 91) #[] #[])))(_:sl 7=vd (dI 5))(_:sl 8=vd (dI 3)):
  b124 mm (sq (E0 mm) 124 6 a0b (blockD 0 (itB (lp (E0 mm) 124 6 a0j a0a) (loopK 6 a0a (dn (E0 mm) 124 6 a0i sl [.cells [.fn 84 [(1,0),(2,0)],.fn 85 [(3,0),(4,0),(5,0)],.fn 87 [(2,0),(4,0)],.fn 88 [(3,0)],.fn 89 [(3,0)]],.cells [.d (dS h1_0)],.cells [.d (.lst h2_0_0 (enL enSS h2_0_1))],.cells [.d (dI h3_0),.d (dS h3_1),.d (dI h3_2),.d (.lst h3_3_0 (enL enSS h3_3_1)),.d (.lst h3_4_0 (enL enB h3_4_1))],.cells [.d (dB h4_0),.d (dB h4_1),.d (dB h4_2),.d (dB h4_3),.d (dB h4_4),.d (dB h4_5),.d (dI h4_6),.d (dI h4_7),.d (dI h4_8),.d (dI h4_9)],.cells [.d (dB h5_0)]])))))=(c0J h1_0 h2_0_0 h2_0_1 h3_0 h3_1 h3_2 h3_3_0 h3_3_1 h3_4_0 h3_4_1 h4_0 h4_1 h4_2 h4_3 h4_4 h4_5 h4_6 h4_7 h4_8 h4_9 h5_0).map j0o:=by
 unfold c0J;exact go (Q (rx a0i) l0h) @u124_6_4_t
def c0F(h1_0:Bs)(h2_0_0:Bool)(h2_0_1:List (Bs×Bs))(h3_0:Int)(h3_1:Bs)(h3_2:Int)(h3_3_0:Bool)(h3_3_1:List (Bs×Bs))(h3_4_0:Bool)(h3_4_1:List UInt8)(h4_0 h4_1:Bool)(h4_2 h4_3:Bool)(h4_4 h4_5:Bool)(h4_6 h4_7:Int)(h4_8 h4_9:Int)(h5_0:Bool):Option j0n:=
 (T0u h3_0 h3_1 h3_2 h3_3_0 h3_3_1 h3_4_0 h3_4_1).bind fun yr11=>
  if yr11.1=true then
   some ((3:Int),h1_0,h2_0_0,h2_0_1,yr11.2.1,yr11.2.2.1,yr11.2.2.2.1,yr11.2.2.2.2.1,yr11.2.2.2.2.2.1,yr11.2.2.2.2.2.2.1,yr11.2.2.2.2.2.2.2,h4_0,h4_1,h4_2,h4_3,h4_4,h4_5,h4_6,h4_7,h4_8,h4_9,h5_0)
  else
   c0J h1_0 h2_0_0 h2_0_1 yr11.2.1 yr11.2.2.1 yr11.2.2.2.1 yr11.2.2.2.2.1 yr11.2.2.2.2.2.1 yr11.2.2.2.2.2.2.1 yr11.2.2.2.2.2.2.2 h4_0 h4_1 h4_2 h4_3 h4_4 h4_5 h4_6 h4_7 h4_8 h4_9 h5_0
theorem m0u(h1_0:Bs)(h2_0_0:Bool)(h2_0_1:List (Bs×Bs))(h3_0:Int)(h3_1:Bs)(h3_2:Int)(h3_3_0:Bool)(h3_3_1:List (Bs×Bs))(h3_4_0:Bool)(h3_4_1:List UInt8)(h4_0 h4_1:Bool)(h4_2 h4_3:Bool)(h4_4 h4_5:Bool)(h4_6 h4_7:Int)(h4_8 h4_9:Int)(h5_0:Bool)(sl:Sl)(_:sl 0=.v (.c (.slc 0 0 1 5 (some 5))))(_:sl 1=vd (.sc (.func (.func 91) #[] #[])))(_:sl 7=vd (dI 5))(_:sl 8=vd (dI 3)):
  b124 mm (sq (E0 mm) 124 6 a0b (blockD 0 (itB (lp (E0 mm) 124 6 a0j a0a) (loopK 6 a0a (dn (E0 mm) 124 6 a0h sl [.cells [.fn 84 [(1,0),(2,0)],.fn 85 [(3,0),(4,0),(5,0)],.fn 87 [(2,0),(4,0)],.fn 88 [(3,0)],.fn 89 [(3,0)]],.cells [.d (dS h1_0)],.cells [.d (.lst h2_0_0 (enL enSS h2_0_1))],.cells [.d (dI h3_0),.d (dS h3_1),.d (dI h3_2),.d (.lst h3_3_0 (enL enSS h3_3_1)),.d (.lst h3_4_0 (enL enB h3_4_1))],.cells [.d (dB h4_0),.d (dB h4_1),.d (dB h4_2),.d (dB h4_3),.d (dB h4_4),.d (dB h4_5),.d (dI h4_6),.d (dI h4_7),.d (dI h4_8),.d (dI h4_9)],.cells [.d (dB h5_0)]])))))=(c0F h1_0 h2_0_0 h2_0_1 h3_0 h3_1 h3_2 h3_3_0 h3_3_1 h3_4_0 h3_4_1 h4_0 h4_1 h4_2 h4_3 h4_4 h4_5 h4_6 h4_7 h4_8 h4_9 h5_0).map j0o:=by
 unfold c0F;exact go (Q (nE a0h (.seq (.block 1 (.seq c0Y (.seq c0Z (.cond _ (.seq d0a .ret) .skip)))) a0i)) l0h) @m0y
def u124_6_3(h1_0:Bs)(h2_0_0:Bool)(h2_0_1:List (Bs×Bs))(h3_0:Int)(h3_1:Bs)(h3_2:Int)(h3_3_0:Bool)(h3_3_1:List (Bs×Bs))(h3_4_0:Bool)(h3_4_1:List UInt8)(h4_0 h4_1:Bool)(h4_2 h4_3:Bool)(h4_4 h4_5:Bool)(h4_6 h4_7:Int)(h4_8 h4_9:Int)(h5_0:Bool):Option j0n:=
 c0F h1_0 h2_0_0 h2_0_1 h3_0 h3_1 h3_2 h3_3_0 h3_3_1 h3_4_0 h3_4_1 h4_0 h4_1 h4_2 h4_3 h4_4 h4_5 h4_6 h4_7 h4_8 h4_9 h5_0
theorem u124_6_3_t(h1_0:Bs)(h2_0_0:Bool)(h2_0_1:List (Bs×Bs))(h3_0:Int)(h3_1:Bs)(h3_2:Int)(h3_3_0:Bool)(h3_3_1:List (Bs×Bs))(h3_4_0:Bool)(h3_4_1:List UInt8)(h4_0 h4_1:Bool)(h4_2 h4_3:Bool)(h4_4 h4_5:Bool)(h4_6 h4_7:Int)(h4_8 h4_9:Int)(h5_0:Bool):
  b124 mm (sq (E0 mm) 124 6 a0b (blockD 0 (itW (lp (E0 mm) 124 6 a0j a0a) (none,[.v (.c (.slc 0 0 1 5 (some 5))),vd (.sc (.func (.func 91) #[] #[])),vd (dI 5),vd (dI 3)],[.cells [.fn 84 [(1,0),(2,0)],.fn 85 [(3,0),(4,0),(5,0)],.fn 87 [(2,0),(4,0)],.fn 88 [(3,0)],.fn 89 [(3,0)]],.cells [.d (dS h1_0)],.cells [.d (.lst h2_0_0 (enL enSS h2_0_1))],.cells [.d (dI h3_0),.d (dS h3_1),.d (dI h3_2),.d (.lst h3_3_0 (enL enSS h3_3_1)),.d (.lst h3_4_0 (enL enB h3_4_1))],.cells [.d (dB h4_0),.d (dB h4_1),.d (dB h4_2),.d (dB h4_3),.d (dB h4_4),.d (dB h4_5),.d (dI h4_6),.d (dI h4_7),.d (dI h4_8),.d (dI h4_9)],.cells [.d (dB h5_0)]]))))=(u124_6_3 h1_0 h2_0_0 h2_0_1 h3_0 h3_1 h3_2 h3_3_0 h3_3_1 h3_4_0 h3_4_1 h4_0 h4_1 h4_2 h4_3 h4_4 h4_5 h4_6 h4_7 h4_8 h4_9 h5_0).map j0o:=by
 rw[itW_B]
 unfold u124_6_3;exact go l0h @m0u
def c0I(h1_0:Bs)(h2_0_0:Bool)(h2_0_1:List (Bs×Bs))(h3_0:Int)(h3_1:Bs)(h3_2:Int)(h3_3_0:Bool)(h3_3_1:List (Bs×Bs))(h3_4_0:Bool)(h3_4_1:List UInt8)(h4_0 h4_1:Bool)(h4_2 h4_3:Bool)(h4_4 h4_5:Bool)(h4_6 h4_7:Int)(h4_8 h4_9:Int)(h5_0:Bool):Option j0n:=
 u124_6_3 h1_0 h2_0_0 h2_0_1 h3_0 h3_1 h3_2 h3_3_0 h3_3_1 h3_4_0 h3_4_1 h4_0 h4_1 h4_2 h4_3 h4_4 h4_5 h4_6 h4_7 h4_8 h4_9 h5_0
theorem m0x(h1_0:Bs)(h2_0_0:Bool)(h2_0_1:List (Bs×Bs))(h3_0:Int)(h3_1:Bs)(h3_2:Int)(h3_3_0:Bool)(h3_3_1:List (Bs×Bs))(h3_4_0:Bool)(h3_4_1:List UInt8)(h4_0 h4_1:Bool)(h4_2 h4_3:Bool)(h4_4 h4_5:Bool)(h4_6 h4_7:Int)(h4_8 h4_9:Int)(h5_0:Bool)(sl:Sl)(_:sl 0=.v (.c (.slc 0 0 1 5 (some 5))))(_:sl 1=vd (.sc (.func (.func 91) #[] #[])))(_:sl 7=vd (dI 5))(_:sl 8=vd (dI 2)):
  b124 mm (sq (E0 mm) 124 6 a0b (blockD 0 (itB (lp (E0 mm) 124 6 a0j a0a) (loopK 6 a0a (dn (E0 mm) 124 6 a0i sl [.cells [.fn 84 [(1,0),(2,0)],.fn 85 [(3,0),(4,0),(5,0)],.fn 87 [(2,0),(4,0)],.fn 88 [(3,0)],.fn 89 [(3,0)]],.cells [.d (dS h1_0)],.cells [.d (.lst h2_0_0 (enL enSS h2_0_1))],.cells [.d (dI h3_0),.d (dS h3_1),.d (dI h3_2),.d (.lst h3_3_0 (enL enSS h3_3_1)),.d (.lst h3_4_0 (enL enB h3_4_1))],.cells [.d (dB h4_0),.d (dB h4_1),.d (dB h4_2),.d (dB h4_3),.d (dB h4_4),.d (dB h4_5),.d (dI h4_6),.d (dI h4_7),.d (dI h4_8),.d (dI h4_9)],.cells [.d (dB h5_0)]])))))=(c0I h1_0 h2_0_0 h2_0_1 h3_0 h3_1 h3_2 h3_3_0 h3_3_1 h3_4_0 h3_4_1 h4_0 h4_1 h4_2 h4_3 h4_4 h4_5 h4_6 h4_7 h4_8 h4_9 h5_0).map j0o:=by
 unfold c0I;exact go (Q (rx a0i) l0h) @u124_6_3_t
def c0E(h1_0:Bs)(h2_0_0:Bool)(h2_0_1:List (Bs×Bs))(h3_0:Int)(h3_1:Bs)(h3_2:Int)(h3_3_0:Bool)(h3_3_1:List (Bs×Bs))(h3_4_0:Bool)(h3_4_1:List UInt8)(h4_0 h4_1:Bool)(h4_2 h4_3:Bool)(h4_4 h4_5:Bool)(h4_6 h4_7:Int)(h4_8 h4_9:Int)(h5_0:Bool):Option j0n:=
 (T0t h2_0_0 h2_0_1 h4_0 h4_1 h4_2 h4_3 h4_4 h4_5 h4_6 h4_7 h4_8 h4_9).bind fun yr8=>
  if yr8.1=true then
   some ((2:Int),h1_0,yr8.2.1,yr8.2.2.1,h3_0,h3_1,h3_2,h3_3_0,h3_3_1,h3_4_0,h3_4_1,yr8.2.2.2.1,yr8.2.2.2.2.1,yr8.2.2.2.2.2.1,yr8.2.2.2.2.2.2.1,yr8.2.2.2.2.2.2.2.1,yr8.2.2.2.2.2.2.2.2.1,yr8.2.2.2.2.2.2.2.2.2.1,yr8.2.2.2.2.2.2.2.2.2.2.1,yr8.2.2.2.2.2.2.2.2.2.2.2.1,yr8.2.2.2.2.2.2.2.2.2.2.2.2,h5_0)
  else
   c0I h1_0 yr8.2.1 yr8.2.2.1 h3_0 h3_1 h3_2 h3_3_0 h3_3_1 h3_4_0 h3_4_1 yr8.2.2.2.1 yr8.2.2.2.2.1 yr8.2.2.2.2.2.1 yr8.2.2.2.2.2.2.1 yr8.2.2.2.2.2.2.2.1 yr8.2.2.2.2.2.2.2.2.1 yr8.2.2.2.2.2.2.2.2.2.1 yr8.2.2.2.2.2.2.2.2.2.2.1 yr8.2.2.2.2.2.2.2.2.2.2.2.1 yr8.2.2.2.2.2.2.2.2.2.2.2.2 h5_0
theorem m0t(h1_0:Bs)(h2_0_0:Bool)(h2_0_1:List (Bs×Bs))(h3_0:Int)(h3_1:Bs)(h3_2:Int)(h3_3_0:Bool)(h3_3_1:List (Bs×Bs))(h3_4_0:Bool)(h3_4_1:List UInt8)(h4_0 h4_1:Bool)(h4_2 h4_3:Bool)(h4_4 h4_5:Bool)(h4_6 h4_7:Int)(h4_8 h4_9:Int)(h5_0:Bool)(sl:Sl)(_:sl 0=.v (.c (.slc 0 0 1 5 (some 5))))(_:sl 1=vd (.sc (.func (.func 91) #[] #[])))(_:sl 7=vd (dI 5))(_:sl 8=vd (dI 2)):
  b124 mm (sq (E0 mm) 124 6 a0b (blockD 0 (itB (lp (E0 mm) 124 6 a0j a0a) (loopK 6 a0a (dn (E0 mm) 124 6 a0h sl [.cells [.fn 84 [(1,0),(2,0)],.fn 85 [(3,0),(4,0),(5,0)],.fn 87 [(2,0),(4,0)],.fn 88 [(3,0)],.fn 89 [(3,0)]],.cells [.d (dS h1_0)],.cells [.d (.lst h2_0_0 (enL enSS h2_0_1))],.cells [.d (dI h3_0),.d (dS h3_1),.d (dI h3_2),.d (.lst h3_3_0 (enL enSS h3_3_1)),.d (.lst h3_4_0 (enL enB h3_4_1))],.cells [.d (dB h4_0),.d (dB h4_1),.d (dB h4_2),.d (dB h4_3),.d (dB h4_4),.d (dB h4_5),.d (dI h4_6),.d (dI h4_7),.d (dI h4_8),.d (dI h4_9)],.cells [.d (dB h5_0)]])))))=(c0E h1_0 h2_0_0 h2_0_1 h3_0 h3_1 h3_2 h3_3_0 h3_3_1 h3_4_0 h3_4_1 h4_0 h4_1 h4_2 h4_3 h4_4 h4_5 h4_6 h4_7 h4_8 h4_9 h5_0).map j0o:=by
 unfold c0E;exact go (Q (nE a0h (.seq (.block 1 (.seq c0Y (.seq c0Z (.cond _ (.seq d0a .ret) .skip)))) a0i)) l0h) @m0x
def u124_6_2(h1_0:Bs)(h2_0_0:Bool)(h2_0_1:List (Bs×Bs))(h3_0:Int)(h3_1:Bs)(h3_2:Int)(h3_3_0:Bool)(h3_3_1:List (Bs×Bs))(h3_4_0:Bool)(h3_4_1:List UInt8)(h4_0 h4_1:Bool)(h4_2 h4_3:Bool)(h4_4 h4_5:Bool)(h4_6 h4_7:Int)(h4_8 h4_9:Int)(h5_0:Bool):Option j0n:=
 c0E h1_0 h2_0_0 h2_0_1 h3_0 h3_1 h3_2 h3_3_0 h3_3_1 h3_4_0 h3_4_1 h4_0 h4_1 h4_2 h4_3 h4_4 h4_5 h4_6 h4_7 h4_8 h4_9 h5_0
theorem u124_6_2_t(h1_0:Bs)(h2_0_0:Bool)(h2_0_1:List (Bs×Bs))(h3_0:Int)(h3_1:Bs)(h3_2:Int)(h3_3_0:Bool)(h3_3_1:List (Bs×Bs))(h3_4_0:Bool)(h3_4_1:List UInt8)(h4_0 h4_1:Bool)(h4_2 h4_3:Bool)(h4_4 h4_5:Bool)(h4_6 h4_7:Int)(h4_8 h4_9:Int)(h5_0:Bool):
  b124 mm (sq (E0 mm) 124 6 a0b (blockD 0 (itW (lp (E0 mm) 124 6 a0j a0a) (none,[.v (.c (.slc 0 0 1 5 (some 5))),vd (.sc (.func (.func 91) #[] #[])),vd (dI 5),vd (dI 2)],[.cells [.fn 84 [(1,0),(2,0)],.fn 85 [(3,0),(4,0),(5,0)],.fn 87 [(2,0),(4,0)],.fn 88 [(3,0)],.fn 89 [(3,0)]],.cells [.d (dS h1_0)],.cells [.d (.lst h2_0_0 (enL enSS h2_0_1))],.cells [.d (dI h3_0),.d (dS h3_1),.d (dI h3_2),.d (.lst h3_3_0 (enL enSS h3_3_1)),.d (.lst h3_4_0 (enL enB h3_4_1))],.cells [.d (dB h4_0),.d (dB h4_1),.d (dB h4_2),.d (dB h4_3),.d (dB h4_4),.d (dB h4_5),.d (dI h4_6),.d (dI h4_7),.d (dI h4_8),.d (dI h4_9)],.cells [.d (dB h5_0)]]))))=(u124_6_2 h1_0 h2_0_0 h2_0_1 h3_0 h3_1 h3_2 h3_3_0 h3_3_1 h3_4_0 h3_4_1 h4_0 h4_1 h4_2 h4_3 h4_4 h4_5 h4_6 h4_7 h4_8 h4_9 h5_0).map j0o:=by
 rw[itW_B]
 unfold u124_6_2;exact go l0h @m0t
def c0H(h1_0:Bs)(h2_0_0:Bool)(h2_0_1:List (Bs×Bs))(h3_0:Int)(h3_1:Bs)(h3_2:Int)(h3_3_0:Bool)(h3_3_1:List (Bs×Bs))(h3_4_0:Bool)(h3_4_1:List UInt8)(h4_0 h4_1:Bool)(h4_2 h4_3:Bool)(h4_4 h4_5:Bool)(h4_6 h4_7:Int)(h4_8 h4_9:Int)(h5_0:Bool):Option j0n:=
 u124_6_2 h1_0 h2_0_0 h2_0_1 h3_0 h3_1 h3_2 h3_3_0 h3_3_1 h3_4_0 h3_4_1 h4_0 h4_1 h4_2 h4_3 h4_4 h4_5 h4_6 h4_7 h4_8 h4_9 h5_0
theorem m0w(h1_0:Bs)(h2_0_0:Bool)(h2_0_1:List (Bs×Bs))(h3_0:Int)(h3_1:Bs)(h3_2:Int)(h3_3_0:Bool)(h3_3_1:List (Bs×Bs))(h3_4_0:Bool)(h3_4_1:List UInt8)(h4_0 h4_1:Bool)(h4_2 h4_3:Bool)(h4_4 h4_5:Bool)(h4_6 h4_7:Int)(h4_8 h4_9:Int)(h5_0:Bool)(sl:Sl)(_:sl 0=.v (.c (.slc 0 0 1 5 (some 5))))(_:sl 1=vd (.sc (.func (.func 91) #[] #[])))(_:sl 7=vd (dI 5))(_:sl 8=vd (dI 1)):
  b124 mm (sq (E0 mm) 124 6 a0b (blockD 0 (itB (lp (E0 mm) 124 6 a0j a0a) (loopK 6 a0a (dn (E0 mm) 124 6 a0i sl [.cells [.fn 84 [(1,0),(2,0)],.fn 85 [(3,0),(4,0),(5,0)],.fn 87 [(2,0),(4,0)],.fn 88 [(3,0)],.fn 89 [(3,0)]],.cells [.d (dS h1_0)],.cells [.d (.lst h2_0_0 (enL enSS h2_0_1))],.cells [.d (dI h3_0),.d (dS h3_1),.d (dI h3_2),.d (.lst h3_3_0 (enL enSS h3_3_1)),.d (.lst h3_4_0 (enL enB h3_4_1))],.cells [.d (dB h4_0),.d (dB h4_1),.d (dB h4_2),.d (dB h4_3),.d (dB h4_4),.d (dB h4_5),.d (dI h4_6),.d (dI h4_7),.d (dI h4_8),.d (dI h4_9)],.cells [.d (dB h5_0)]])))))=(c0H h1_0 h2_0_0 h2_0_1 h3_0 h3_1 h3_2 h3_3_0 h3_3_1 h3_4_0 h3_4_1 h4_0 h4_1 h4_2 h4_3 h4_4 h4_5 h4_6 h4_7 h4_8 h4_9 h5_0).map j0o:=by
 unfold c0H;exact go (Q (rx a0i) l0h) @u124_6_2_t
def c0D(h1_0:Bs)(h2_0_0:Bool)(h2_0_1:List (Bs×Bs))(h3_0:Int)(h3_1:Bs)(h3_2:Int)(h3_3_0:Bool)(h3_3_1:List (Bs×Bs))(h3_4_0:Bool)(h3_4_1:List UInt8)(h4_0 h4_1:Bool)(h4_2 h4_3:Bool)(h4_4 h4_5:Bool)(h4_6 h4_7:Int)(h4_8 h4_9:Int)(h5_0:Bool):Option j0n:=
 (T0s h3_0 h3_1 h3_2 h3_3_0 h3_3_1 h3_4_0 h3_4_1 h4_0 h4_1 h4_2 h4_3 h4_4 h4_5 h4_6 h4_7 h4_8 h4_9 h5_0).bind fun yr5=>
  if yr5.1=true then
   some ((1:Int),h1_0,h2_0_0,h2_0_1,yr5.2.1,yr5.2.2.1,yr5.2.2.2.1,yr5.2.2.2.2.1,yr5.2.2.2.2.2.1,yr5.2.2.2.2.2.2.1,yr5.2.2.2.2.2.2.2.1,yr5.2.2.2.2.2.2.2.2.1,yr5.2.2.2.2.2.2.2.2.2.1,yr5.2.2.2.2.2.2.2.2.2.2.1,yr5.2.2.2.2.2.2.2.2.2.2.2.1,yr5.2.2.2.2.2.2.2.2.2.2.2.2.1,yr5.2.2.2.2.2.2.2.2.2.2.2.2.2.1,yr5.2.2.2.2.2.2.2.2.2.2.2.2.2.2.1,yr5.2.2.2.2.2.2.2.2.2.2.2.2.2.2.2.1,yr5.2.2.2.2.2.2.2.2.2.2.2.2.2.2.2.2.1,yr5.2.2.2.2.2.2.2.2.2.2.2.2.2.2.2.2.2.1,yr5.2.2.2.2.2.2.2.2.2.2.2.2.2.2.2.2.2.2)
  else
   c0H h1_0 h2_0_0 h2_0_1 yr5.2.1 yr5.2.2.1 yr5.2.2.2.1 yr5.2.2.2.2.1 yr5.2.2.2.2.2.1 yr5.2.2.2.2.2.2.1 yr5.2.2.2.2.2.2.2.1 yr5.2.2.2.2.2.2.2.2.1 yr5.2.2.2.2.2.2.2.2.2.1 yr5.2.2.2.2.2.2.2.2.2.2.1 yr5.2.2.2.2.2.2.2.2.2.2.2.1 yr5.2.2.2.2.2.2.2.2.2.2.2.2.1 yr5.2.2.2.2.2.2.2.2.2.2.2.2.2.1 yr5.2.2.2.2.2.2.2.2.2.2.2.2.2.2.1 yr5.2.2.2.2.2.2.2.2.2.2.2.2.2.2.2.1 yr5.2.2.2.2.2.2.2.2.2.2.2.2.2.2.2.2.1 yr5.2.2.2.2.2.2.2.2.2.2.2.2.2.2.2.2.2.1 yr5.2.2.2.2.2.2.2.2.2.2.2.2.2.2.2.2.2.2
theorem m0s(h1_0:Bs)(h2_0_0:Bool)(h2_0_1:List (Bs×Bs))(h3_0:Int)(h3_1:Bs)(h3_2:Int)(h3_3_0:Bool)(h3_3_1:List (Bs×Bs))(h3_4_0:Bool)(h3_4_1:List UInt8)(h4_0 h4_1:Bool)(h4_2 h4_3:Bool)(h4_4 h4_5:Bool)(h4_6 h4_7:Int)(h4_8 h4_9:Int)(h5_0:Bool)(sl:Sl)(_:sl 0=.v (.c (.slc 0 0 1 5 (some 5))))(_:sl 1=vd (.sc (.func (.func 91) #[] #[])))(_:sl 7=vd (dI 5))(_:sl 8=vd (dI 1)):
  b124 mm (sq (E0 mm) 124 6 a0b (blockD 0 (itB (lp (E0 mm) 124 6 a0j a0a) (loopK 6 a0a (dn (E0 mm) 124 6 a0h sl [.cells [.fn 84 [(1,0),(2,0)],.fn 85 [(3,0),(4,0),(5,0)],.fn 87 [(2,0),(4,0)],.fn 88 [(3,0)],.fn 89 [(3,0)]],.cells [.d (dS h1_0)],.cells [.d (.lst h2_0_0 (enL enSS h2_0_1))],.cells [.d (dI h3_0),.d (dS h3_1),.d (dI h3_2),.d (.lst h3_3_0 (enL enSS h3_3_1)),.d (.lst h3_4_0 (enL enB h3_4_1))],.cells [.d (dB h4_0),.d (dB h4_1),.d (dB h4_2),.d (dB h4_3),.d (dB h4_4),.d (dB h4_5),.d (dI h4_6),.d (dI h4_7),.d (dI h4_8),.d (dI h4_9)],.cells [.d (dB h5_0)]])))))=(c0D h1_0 h2_0_0 h2_0_1 h3_0 h3_1 h3_2 h3_3_0 h3_3_1 h3_4_0 h3_4_1 h4_0 h4_1 h4_2 h4_3 h4_4 h4_5 h4_6 h4_7 h4_8 h4_9 h5_0).map j0o:=by
 unfold c0D;exact go (Q (nE a0h (.seq (.block 1 (.seq c0Y (.seq c0Z (.cond _ (.seq d0a .ret) .skip)))) a0i)) l0h) @m0w
def u124_6_1(h1_0:Bs)(h2_0_0:Bool)(h2_0_1:List (Bs×Bs))(h3_0:Int)(h3_1:Bs)(h3_2:Int)(h3_3_0:Bool)(h3_3_1:List (Bs×Bs))(h3_4_0:Bool)(h3_4_1:List UInt8)(h4_0 h4_1:Bool)(h4_2 h4_3:Bool)(h4_4 h4_5:Bool)(h4_6 h4_7:Int)(h4_8 h4_9:Int)(h5_0:Bool):Option j0n:=
 c0D h1_0 h2_0_0 h2_0_1 h3_0 h3_1 h3_2 h3_3_0 h3_3_1 h3_4_0 h3_4_1 h4_0 h4_1 h4_2 h4_3 h4_4 h4_5 h4_6 h4_7 h4_8 h4_9 h5_0
theorem u124_6_1_t(h1_0:Bs)(h2_0_0:Bool)(h2_0_1:List (Bs×Bs))(h3_0:Int)(h3_1:Bs)(h3_2:Int)(h3_3_0:Bool)(h3_3_1:List (Bs×Bs))(h3_4_0:Bool)(h3_4_1:List UInt8)(h4_0 h4_1:Bool)(h4_2 h4_3:Bool)(h4_4 h4_5:Bool)(h4_6 h4_7:Int)(h4_8 h4_9:Int)(h5_0:Bool):
  b124 mm (sq (E0 mm) 124 6 a0b (blockD 0 (itW (lp (E0 mm) 124 6 a0j a0a) (none,[.v (.c (.slc 0 0 1 5 (some 5))),vd (.sc (.func (.func 91) #[] #[])),vd (dI 5),vd (dI 1)],[.cells [.fn 84 [(1,0),(2,0)],.fn 85 [(3,0),(4,0),(5,0)],.fn 87 [(2,0),(4,0)],.fn 88 [(3,0)],.fn 89 [(3,0)]],.cells [.d (dS h1_0)],.cells [.d (.lst h2_0_0 (enL enSS h2_0_1))],.cells [.d (dI h3_0),.d (dS h3_1),.d (dI h3_2),.d (.lst h3_3_0 (enL enSS h3_3_1)),.d (.lst h3_4_0 (enL enB h3_4_1))],.cells [.d (dB h4_0),.d (dB h4_1),.d (dB h4_2),.d (dB h4_3),.d (dB h4_4),.d (dB h4_5),.d (dI h4_6),.d (dI h4_7),.d (dI h4_8),.d (dI h4_9)],.cells [.d (dB h5_0)]]))))=(u124_6_1 h1_0 h2_0_0 h2_0_1 h3_0 h3_1 h3_2 h3_3_0 h3_3_1 h3_4_0 h3_4_1 h4_0 h4_1 h4_2 h4_3 h4_4 h4_5 h4_6 h4_7 h4_8 h4_9 h5_0).map j0o:=by
 rw[itW_B]
 unfold u124_6_1;exact go l0h @m0s
def i0H(h1_0:Bs)(h2_0_0:Bool)(h2_0_1:List (Bs×Bs))(h3_0:Int)(h3_1:Bs)(h3_2:Int)(h3_3_0:Bool)(h3_3_1:List (Bs×Bs))(h3_4_0:Bool)(h3_4_1:List UInt8)(h4_0 h4_1:Bool)(h4_2 h4_3:Bool)(h4_4 h4_5:Bool)(h4_6 h4_7:Int)(h4_8 h4_9:Int)(h5_0:Bool):Option j0n:=
 u124_6_1 h1_0 h2_0_0 h2_0_1 h3_0 h3_1 h3_2 h3_3_0 h3_3_1 h3_4_0 h3_4_1 h4_0 h4_1 h4_2 h4_3 h4_4 h4_5 h4_6 h4_7 h4_8 h4_9 h5_0
theorem v0v(h1_0:Bs)(h2_0_0:Bool)(h2_0_1:List (Bs×Bs))(h3_0:Int)(h3_1:Bs)(h3_2:Int)(h3_3_0:Bool)(h3_3_1:List (Bs×Bs))(h3_4_0:Bool)(h3_4_1:List UInt8)(h4_0 h4_1:Bool)(h4_2 h4_3:Bool)(h4_4 h4_5:Bool)(h4_6 h4_7:Int)(h4_8 h4_9:Int)(h5_0:Bool)(sl:Sl)(_:sl 0=.v (.c (.slc 0 0 1 5 (some 5))))(_:sl 1=vd (.sc (.func (.func 91) #[] #[])))(_:sl 7=vd (dI 5))(_:sl 8=vd (dI 0)):
  b124 mm (sq (E0 mm) 124 6 a0b (blockD 0 (itB (lp (E0 mm) 124 6 a0j a0a) (loopK 6 a0a (dn (E0 mm) 124 6 a0i sl [.cells [.fn 84 [(1,0),(2,0)],.fn 85 [(3,0),(4,0),(5,0)],.fn 87 [(2,0),(4,0)],.fn 88 [(3,0)],.fn 89 [(3,0)]],.cells [.d (dS h1_0)],.cells [.d (.lst h2_0_0 (enL enSS h2_0_1))],.cells [.d (dI h3_0),.d (dS h3_1),.d (dI h3_2),.d (.lst h3_3_0 (enL enSS h3_3_1)),.d (.lst h3_4_0 (enL enB h3_4_1))],.cells [.d (dB h4_0),.d (dB h4_1),.d (dB h4_2),.d (dB h4_3),.d (dB h4_4),.d (dB h4_5),.d (dI h4_6),.d (dI h4_7),.d (dI h4_8),.d (dI h4_9)],.cells [.d (dB h5_0)]])))))=(i0H h1_0 h2_0_0 h2_0_1 h3_0 h3_1 h3_2 h3_3_0 h3_3_1 h3_4_0 h3_4_1 h4_0 h4_1 h4_2 h4_3 h4_4 h4_5 h4_6 h4_7 h4_8 h4_9 h5_0).map j0o:=by
 unfold i0H;exact go (Q (rx a0i) l0h) @u124_6_1_t
def i0G(h1_0:Bs)(h2_0_0:Bool)(h2_0_1:List (Bs×Bs))(h3_0:Int)(h3_1:Bs)(h3_2:Int)(h3_3_0:Bool)(h3_3_1:List (Bs×Bs))(h3_4_0:Bool)(h3_4_1:List UInt8)(h4_0 h4_1:Bool)(h4_2 h4_3:Bool)(h4_4 h4_5:Bool)(h4_6 h4_7:Int)(h4_8 h4_9:Int)(h5_0:Bool):Option j0n:=
 (m91 h1_0 h2_0_0 h2_0_1).bind fun yr2=>
  if yr2.1=true then
   some ((0:Int),yr2.2.1,yr2.2.2.1,yr2.2.2.2,h3_0,h3_1,h3_2,h3_3_0,h3_3_1,h3_4_0,h3_4_1,h4_0,h4_1,h4_2,h4_3,h4_4,h4_5,h4_6,h4_7,h4_8,h4_9,h5_0)
  else
   i0H yr2.2.1 yr2.2.2.1 yr2.2.2.2 h3_0 h3_1 h3_2 h3_3_0 h3_3_1 h3_4_0 h3_4_1 h4_0 h4_1 h4_2 h4_3 h4_4 h4_5 h4_6 h4_7 h4_8 h4_9 h5_0
theorem v0u(h1_0:Bs)(h2_0_0:Bool)(h2_0_1:List (Bs×Bs))(h3_0:Int)(h3_1:Bs)(h3_2:Int)(h3_3_0:Bool)(h3_3_1:List (Bs×Bs))(h3_4_0:Bool)(h3_4_1:List UInt8)(h4_0 h4_1:Bool)(h4_2 h4_3:Bool)(h4_4 h4_5:Bool)(h4_6 h4_7:Int)(h4_8 h4_9:Int)(h5_0:Bool)(sl:Sl)(_:sl 0=.v (.c (.slc 0 0 1 5 (some 5))))(_:sl 1=vd (.sc (.func (.func 91) #[] #[])))(_:sl 7=vd (dI 5))(_:sl 8=vd (dI 0)):
  b124 mm (sq (E0 mm) 124 6 a0b (blockD 0 (itB (lp (E0 mm) 124 6 a0j a0a) (loopK 6 a0a (dn (E0 mm) 124 6 a0h sl [.cells [.fn 84 [(1,0),(2,0)],.fn 85 [(3,0),(4,0),(5,0)],.fn 87 [(2,0),(4,0)],.fn 88 [(3,0)],.fn 89 [(3,0)]],.cells [.d (dS h1_0)],.cells [.d (.lst h2_0_0 (enL enSS h2_0_1))],.cells [.d (dI h3_0),.d (dS h3_1),.d (dI h3_2),.d (.lst h3_3_0 (enL enSS h3_3_1)),.d (.lst h3_4_0 (enL enB h3_4_1))],.cells [.d (dB h4_0),.d (dB h4_1),.d (dB h4_2),.d (dB h4_3),.d (dB h4_4),.d (dB h4_5),.d (dI h4_6),.d (dI h4_7),.d (dI h4_8),.d (dI h4_9)],.cells [.d (dB h5_0)]])))))=(i0G h1_0 h2_0_0 h2_0_1 h3_0 h3_1 h3_2 h3_3_0 h3_3_1 h3_4_0 h3_4_1 h4_0 h4_1 h4_2 h4_3 h4_4 h4_5 h4_6 h4_7 h4_8 h4_9 h5_0).map j0o:=by
 unfold i0G;exact go (Q (nE a0h (.seq (.block 1 (.seq c0Y (.seq c0Z (.cond _ (.seq d0a .ret) .skip)))) a0i)) l0h) @v0v
def u124_6_0(h1_0:Bs)(h2_0_0:Bool)(h2_0_1:List (Bs×Bs))(h3_0:Int)(h3_1:Bs)(h3_2:Int)(h3_3_0:Bool)(h3_3_1:List (Bs×Bs))(h3_4_0:Bool)(h3_4_1:List UInt8)(h4_0 h4_1:Bool)(h4_2 h4_3:Bool)(h4_4 h4_5:Bool)(h4_6 h4_7:Int)(h4_8 h4_9:Int)(h5_0:Bool):Option j0n:=
 i0G h1_0 h2_0_0 h2_0_1 h3_0 h3_1 h3_2 h3_3_0 h3_3_1 h3_4_0 h3_4_1 h4_0 h4_1 h4_2 h4_3 h4_4 h4_5 h4_6 h4_7 h4_8 h4_9 h5_0
theorem u124_6_0_t(h1_0:Bs)(h2_0_0:Bool)(h2_0_1:List (Bs×Bs))(h3_0:Int)(h3_1:Bs)(h3_2:Int)(h3_3_0:Bool)(h3_3_1:List (Bs×Bs))(h3_4_0:Bool)(h3_4_1:List UInt8)(h4_0 h4_1:Bool)(h4_2 h4_3:Bool)(h4_4 h4_5:Bool)(h4_6 h4_7:Int)(h4_8 h4_9:Int)(h5_0:Bool):
  b124 mm (sq (E0 mm) 124 6 a0b (blockD 0 (itW (lp (E0 mm) 124 6 a0j a0a) (none,[.v (.c (.slc 0 0 1 5 (some 5))),vd (.sc (.func (.func 91) #[] #[])),vd (dI 5),vd (dI 0)],[.cells [.fn 84 [(1,0),(2,0)],.fn 85 [(3,0),(4,0),(5,0)],.fn 87 [(2,0),(4,0)],.fn 88 [(3,0)],.fn 89 [(3,0)]],.cells [.d (dS h1_0)],.cells [.d (.lst h2_0_0 (enL enSS h2_0_1))],.cells [.d (dI h3_0),.d (dS h3_1),.d (dI h3_2),.d (.lst h3_3_0 (enL enSS h3_3_1)),.d (.lst h3_4_0 (enL enB h3_4_1))],.cells [.d (dB h4_0),.d (dB h4_1),.d (dB h4_2),.d (dB h4_3),.d (dB h4_4),.d (dB h4_5),.d (dI h4_6),.d (dI h4_7),.d (dI h4_8),.d (dI h4_9)],.cells [.d (dB h5_0)]]))))=(u124_6_0 h1_0 h2_0_0 h2_0_1 h3_0 h3_1 h3_2 h3_3_0 h3_3_1 h3_4_0 h3_4_1 h4_0 h4_1 h4_2 h4_3 h4_4 h4_5 h4_6 h4_7 h4_8 h4_9 h5_0).map j0o:=by
 rw[itW_B]
 unfold u124_6_0;exact go l0h @v0u
def T0g(h1_0:Bs)(h2_0_0:Bool)(h2_0_1:List (Bs×Bs))(h3_0:Int)(h3_1:Bs)(h3_2:Int)(h3_3_0:Bool)(h3_3_1:List (Bs×Bs))(h3_4_0:Bool)(h3_4_1:List UInt8)(h4_0 h4_1:Bool)(h4_2 h4_3:Bool)(h4_4 h4_5:Bool)(h4_6 h4_7:Int)(h4_8 h4_9:Int)(h5_0:Bool):Option j0n:=
 u124_6_0 h1_0 h2_0_0 h2_0_1 h3_0 h3_1 h3_2 h3_3_0 h3_3_1 h3_4_0 h3_4_1 h4_0 h4_1 h4_2 h4_3 h4_4 h4_5 h4_6 h4_7 h4_8 h4_9 h5_0
theorem Q0C(h1_0:Bs)(h2_0_0:Bool)(h2_0_1:List (Bs×Bs))(h3_0:Int)(h3_1:Bs)(h3_2:Int)(h3_3_0:Bool)(h3_3_1:List (Bs×Bs))(h3_4_0:Bool)(h3_4_1:List UInt8)(h4_0 h4_1:Bool)(h4_2 h4_3:Bool)(h4_4 h4_5:Bool)(h4_6 h4_7:Int)(h4_8 h4_9:Int)(h5_0:Bool):
  callW (E0 mm) 124 [.c (.slc 0 0 1 5 (some 5)),cd (.sc (.func (.func 91) #[] #[]))] [.cells [.fn 84 [(1,0),(2,0)],.fn 85 [(3,0),(4,0),(5,0)],.fn 87 [(2,0),(4,0)],.fn 88 [(3,0)],.fn 89 [(3,0)]],.cells [.d (dS h1_0)],.cells [.d (.lst h2_0_0 (enL enSS h2_0_1))],.cells [.d (dI h3_0),.d (dS h3_1),.d (dI h3_2),.d (.lst h3_3_0 (enL enSS h3_3_1)),.d (.lst h3_4_0 (enL enB h3_4_1))],.cells [.d (dB h4_0),.d (dB h4_1),.d (dB h4_2),.d (dB h4_3),.d (dB h4_4),.d (dB h4_5),.d (dI h4_6),.d (dI h4_7),.d (dI h4_8),.d (dI h4_9)],.cells [.d (dB h5_0)]]=(T0g h1_0 h2_0_0 h2_0_1 h3_0 h3_1 h3_2 h3_3_0 h3_3_1 h3_4_0 h3_4_1 h4_0 h4_1 h4_2 h4_3 h4_4 h4_5 h4_6 h4_7 h4_8 h4_9 h5_0).map j0o:=by
 rw[cR g0N [.tmp 4] Tryz.func124]
 unfold T0g;exact go l0h @u124_6_0_t
noncomputable def y0T:Code:=bodyOf Tryz.f90
def P0I:=cA y0T
def P0J:=cA (cB y0T)
abbrev R90:=(Bool×Bs×Bool×List (Bs×Bs)×Int×Bs×Int×Bool×List (Bs×Bs)×Bool×List UInt8×Bool×Bool×Bool×Bool×Bool×Bool×Int×Int×Int×Int×Bool)
def e90(x:R90):AV×Heap:=(vd (dB x.1),[.cells [.fn 84 [(1,0),(2,0)],.fn 85 [(3,0),(4,0),(5,0)],.fn 87 [(2,0),(4,0)],.fn 88 [(3,0)],.fn 89 [(3,0)]],.cells [.d (dS x.2.1)],.cells [.d (.lst x.2.2.1 (enL enSS x.2.2.2.1))],.cells [.d (dI x.2.2.2.2.1),.d (dS x.2.2.2.2.2.1),.d (dI x.2.2.2.2.2.2.1),.d (.lst x.2.2.2.2.2.2.2.1 (enL enSS x.2.2.2.2.2.2.2.2.1)),.d (.lst x.2.2.2.2.2.2.2.2.2.1 (enL enB x.2.2.2.2.2.2.2.2.2.2.1))],.cells [.d (dB x.2.2.2.2.2.2.2.2.2.2.2.1),.d (dB x.2.2.2.2.2.2.2.2.2.2.2.2.1),.d (dB x.2.2.2.2.2.2.2.2.2.2.2.2.2.1),.d (dB x.2.2.2.2.2.2.2.2.2.2.2.2.2.2.1),.d (dB x.2.2.2.2.2.2.2.2.2.2.2.2.2.2.2.1),.d (dB x.2.2.2.2.2.2.2.2.2.2.2.2.2.2.2.2.1),.d (dI x.2.2.2.2.2.2.2.2.2.2.2.2.2.2.2.2.2.1),.d (dI x.2.2.2.2.2.2.2.2.2.2.2.2.2.2.2.2.2.2.1),.d (dI x.2.2.2.2.2.2.2.2.2.2.2.2.2.2.2.2.2.2.2.1),.d (dI x.2.2.2.2.2.2.2.2.2.2.2.2.2.2.2.2.2.2.2.2.1)],.cells [.d (dB x.2.2.2.2.2.2.2.2.2.2.2.2.2.2.2.2.2.2.2.2.2)]])
def m90(h1_0:Bs)(h2_0_0:Bool)(h2_0_1:List (Bs×Bs))(h3_0:Int)(h3_1:Bs)(h3_2:Int)(h3_3_0:Bool)(h3_3_1:List (Bs×Bs))(h3_4_0:Bool)(h3_4_1:List UInt8)(h4_0 h4_1:Bool)(h4_2 h4_3:Bool)(h4_4 h4_5:Bool)(h4_6 h4_7:Int)(h4_8 h4_9:Int)(h5_0:Bool):Option R90:=
 (T0g h1_0 h2_0_0 h2_0_1 h3_0 h3_1 h3_2 h3_3_0 h3_3_1 h3_4_0 h3_4_1 h4_0 h4_1 h4_2 h4_3 h4_4 h4_5 h4_6 h4_7 h4_8 h4_9 h5_0).bind fun yr2=>
  some ((decide (0≤yr2.1)),yr2.2.1,yr2.2.2.1,yr2.2.2.2.1,yr2.2.2.2.2.1,yr2.2.2.2.2.2.1,yr2.2.2.2.2.2.2.1,yr2.2.2.2.2.2.2.2.1,yr2.2.2.2.2.2.2.2.2.1,yr2.2.2.2.2.2.2.2.2.2.1,yr2.2.2.2.2.2.2.2.2.2.2.1,yr2.2.2.2.2.2.2.2.2.2.2.2.1,yr2.2.2.2.2.2.2.2.2.2.2.2.2.1,yr2.2.2.2.2.2.2.2.2.2.2.2.2.2.1,yr2.2.2.2.2.2.2.2.2.2.2.2.2.2.2.1,yr2.2.2.2.2.2.2.2.2.2.2.2.2.2.2.2.1,yr2.2.2.2.2.2.2.2.2.2.2.2.2.2.2.2.2.1,yr2.2.2.2.2.2.2.2.2.2.2.2.2.2.2.2.2.2.1,yr2.2.2.2.2.2.2.2.2.2.2.2.2.2.2.2.2.2.2.1,yr2.2.2.2.2.2.2.2.2.2.2.2.2.2.2.2.2.2.2.2.1,yr2.2.2.2.2.2.2.2.2.2.2.2.2.2.2.2.2.2.2.2.2.1,yr2.2.2.2.2.2.2.2.2.2.2.2.2.2.2.2.2.2.2.2.2.2)
def k90:=Q (rx P0I) (Q (rx P0J) (Q @ent124 (Q @prm124 (Q @Q0C (Q (show List.range 6=[0,1,2,3,4,5] from rfl) (Q @j0o.eq_1 (Q (nE y0T (.seq P0I (.seq P0J .ret))) hA)))))))
theorem U0q(h1_0:Bs)(h2_0_0:Bool)(h2_0_1:List (Bs×Bs))(h3_0:Int)(h3_1:Bs)(h3_2:Int)(h3_3_0:Bool)(h3_3_1:List (Bs×Bs))(h3_4_0:Bool)(h3_4_1:List UInt8)(h4_0 h4_1:Bool)(h4_2 h4_3:Bool)(h4_4 h4_5:Bool)(h4_6 h4_7:Int)(h4_8 h4_9:Int)(h5_0:Bool):
  callW (E0 mm) 90 [.c (.slc 0 0 1 5 (some 5)),cd (.sc (.func (.func 91) #[] #[]))] [.cells [.fn 84 [(1,0),(2,0)],.fn 85 [(3,0),(4,0),(5,0)],.fn 87 [(2,0),(4,0)],.fn 88 [(3,0)],.fn 89 [(3,0)]],.cells [.d (dS h1_0)],.cells [.d (.lst h2_0_0 (enL enSS h2_0_1))],.cells [.d (dI h3_0),.d (dS h3_1),.d (dI h3_2),.d (.lst h3_3_0 (enL enSS h3_3_1)),.d (.lst h3_4_0 (enL enB h3_4_1))],.cells [.d (dB h4_0),.d (dB h4_1),.d (dB h4_2),.d (dB h4_3),.d (dB h4_4),.d (dB h4_5),.d (dI h4_6),.d (dI h4_7),.d (dI h4_8),.d (dI h4_9)],.cells [.d (dB h5_0)]]=(m90 h1_0 h2_0_0 h2_0_1 h3_0 h3_1 h3_2 h3_3_0 h3_3_1 h3_4_0 h3_4_1 h4_0 h4_1 h4_2 h4_3 h4_4 h4_5 h4_6 h4_7 h4_8 h4_9 h5_0).map e90:=by
 rw[cR y0T [.tmp 4] Tryz.func90]
 unfold m90;exact go k90 trivial
noncomputable def e0Y:Code:=bodyOf Tryz.f43
def N0z:=cA e0Y
def N0A:=cA (cB e0Y)
def N0B:=cA (cB (cB e0Y))
def N0C:=cA (cB (cB (cB e0Y)))
def N0D:=cA (cB (cB (cB (cB e0Y))))
def F0S:=cA (cB (cB (cB (cB (cB e0Y)))))
def F0T:=cA (cB (cB (cB (cB (cB (cB e0Y))))))
def F0U:=cA (cB (cB (cB (cB (cB (cB (cB e0Y)))))))
def F0V:=cA (cB (cB (cB (cB (cB (cB (cB (cB e0Y))))))))
abbrev R43:=(Bool)
def e43(x:R43):AV×Heap:=(vd (dB x),[])
def m43(method:Bs)(l_0:Bool)(l_1:List (Bs×Bs))(x0_0:Int)(x0_1:Bs)(x0_2:Int)(x0_3:Bool)(x0_4:List (Bs×Bs))(x0_5:Bool)(x0_6:List UInt8):Option R43:=
 (m23 x0_3 x0_4).bind fun yr2=>
  (m24 x0_3 x0_4).bind fun yr4=>
   (m90 method l_0 l_1 x0_0 x0_1 x0_2 x0_3 x0_4 x0_5 x0_6 yr2.1 yr2.2.1 yr2.2.2.1 yr2.2.2.2.1 yr2.2.2.2.2.1 yr2.2.2.2.2.2.1 yr2.2.2.2.2.2.2.1 yr2.2.2.2.2.2.2.2.1 yr2.2.2.2.2.2.2.2.2.1 yr2.2.2.2.2.2.2.2.2.2 yr4.2.2).bind fun yr6=>
    some (!yr6.1)
def k43:=Q (rx N0z) (Q (rx N0A) (Q @R0c (Q @e23.eq_1 (Q @ao139 (Q (rx N0B) (Q @ent24 (Q @prm24 (Q @T0K (Q @e24.eq_1 (Q @zc4 (Q @ao143 (Q (rx N0C) (Q (rx N0D) (Q (rx F0S) (Q (rx F0T) (Q (rx F0U) (Q (rx F0V) (Q @zc35 (Q @hd144 (Q @nv145 (Q @rw146 (Q @nc147 (Q @ent90 (Q @prm90 (Q @U0q (Q (show List.range 7=[0,1,2,3,4,5,6] from rfl) (Q @e90.eq_1 (Q (nE e0Y (.seq N0z (.seq N0A (.seq N0B (.seq N0C (.seq N0D (.seq F0S (.seq F0T (.seq F0U (.seq F0V .ret)))))))))) hA))))))))))))))))))))))))))))
theorem T0S(method:Bs)(l_0:Bool)(l_1:List (Bs×Bs))(x0_0:Int)(x0_1:Bs)(x0_2:Int)(x0_3:Bool)(x0_4:List (Bs×Bs))(x0_5:Bool)(x0_6:List UInt8):
  callW (E0 mm) 43 [cd (dS method),cd (.lst l_0 (enL enSS l_1)),.agg [.d (dI x0_0),.d (dS x0_1),.d (dI x0_2),.d (.lst x0_3 (enL enSS x0_4)),.d (.lst x0_5 (enL enB x0_6))]] []=(m43 method l_0 l_1 x0_0 x0_1 x0_2 x0_3 x0_4 x0_5 x0_6).map e43:=by
 rw[cR e0Y [.tmp 6] Tryz.func43]
 unfold m43;exact go k43 trivial
noncomputable def y0s:Code:=bodyOf Tryz.f12
def M0z:=cA y0s
def M0A:=cA (cB y0s)
abbrev R12:=(Bool)
def e12(x:R12):AV×Heap:=(vd (dB x),[])
def m12(r0_0 r0_1:Bs)(r0_2:Int)(r0_3:Bool)(r0_4:List (Bs×Bs))(r0_5:Bool)(r0_6:List UInt8)(x0_0:Int)(x0_1:Bs)(x0_2:Int)(x0_3:Bool)(x0_4:List (Bs×Bs))(x0_5:Bool)(x0_6:List UInt8):Option R12:=
 (m43 r0_0 r0_3 r0_4 x0_0 x0_1 x0_2 x0_3 x0_4 x0_5 x0_6).bind fun yr2=>
  some yr2
def k12:=Q (rx M0z) (Q (rx M0A) (Q @ent43 (Q @prm43 (Q @T0S (Q @e43.eq_1 (Q (nE y0s (.seq M0z (.seq M0A .ret))) hA))))))
theorem T0H(r0_0 r0_1:Bs)(r0_2:Int)(r0_3:Bool)(r0_4:List (Bs×Bs))(r0_5:Bool)(r0_6:List UInt8)(x0_0:Int)(x0_1:Bs)(x0_2:Int)(x0_3:Bool)(x0_4:List (Bs×Bs))(x0_5:Bool)(x0_6:List UInt8):
  callW (E0 mm) 12 [.agg [.d (dS r0_0),.d (dS r0_1),.d (dI r0_2),.d (.lst r0_3 (enL enSS r0_4)),.d (.lst r0_5 (enL enB r0_6))],.agg [.d (dI x0_0),.d (dS x0_1),.d (dI x0_2),.d (.lst x0_3 (enL enSS x0_4)),.d (.lst x0_5 (enL enB x0_6))]] []=(m12 r0_0 r0_1 r0_2 r0_3 r0_4 r0_5 r0_6 x0_0 x0_1 x0_2 x0_3 x0_4 x0_5 x0_6).map e12:=by
 rw[cR y0s [.tmp 4] Tryz.func12]
 unfold m12;exact go k12 trivial
noncomputable def i0x:Code:=bodyOf Tryz.f48
def N0R:=cA i0x
def N0S:=cA (cB i0x)
def N0T:=cA (cB (cB i0x))
def N0U:=cA (cB (cB (cB i0x)))
def G0X:=cA (cA (cB (cB (cB (cB i0x)))))
def u0x:=cA (cB (cA (cB (cB (cB (cB i0x))))))
def a0z:=cA u0x
def G0Y:=cA (cA a0z)
def G0Z:=cA (cA (cA (cB a0z)))
def H0a:=cA (cA (cB (cA (cA (cB a0z)))))
def H0b:=cA (cA (cB (cA (cB (cA (cA (cB a0z)))))))
def H0c:=cA (cB (cB (cA (cA (cB a0z)))))
def H0d:=cA (cA (cB (cB (cB (cA (cA (cB a0z)))))))
def u0y:=cA (cB (cA (cB (cB (cB (cA (cA (cB a0z))))))))
def f0b:=cA u0y
def H0e:=cA (cA f0b)
def H0f:=cA (cA (cB f0b))
def u0z:=cB (cB f0b)
def g0Y:=cB (cB (cB (cB (cA (cA (cB a0z))))))
def H0g:=cA g0Y
def H0h:=cA (cB g0Y)
def k0c:=cB (cB a0z)
def k0d:=cB (cB (cB (cB (cB i0x))))
def H0i:=cA k0d
def l0y:List (Nat×Co):=[(4,.own),(5,.keep),(6,.keep),(7,.keep)]
def q0R:List (Nat×Co):=[(4,.keep),(5,.keep),(6,.keep),(7,.keep),(8,.keep),(9,.keep),(10,.keep)]
abbrev R48:=(Bool×List Bs×Bool)
def e48(x:R48):AV×Heap:=(.tup [.c (.own x.1 (enL enS x.2.1) 0),cd (dB x.2.2)],[.row x.2.1.length (rz x.1 1)])
def f0R(names4_0:Bool)(names4_1:List Bs)(star5 all6_0:Bool)(all6_1:List Bs)(i7:Int):Option ((Bool×List Bs×Bool×Bool×List Bs×Int) ⊕ R48):=
 some (.inl (names4_0,names4_1,star5,all6_0,all6_1,(w64 (i7+1))))
def e0w(mm:Int)(r:Option (Ex×St)):Option (AV×Heap):=bodyD (E0 mm) [.tmp 2,.tmp 3] 0 false (sq (E0 mm) 48 0 k0d (blockD 0 (r)))
def a0x(x:(Bool×List Bs×Bool×Bool×List Bs×Int)):X:=(none,[.v (.c (.own x.1 (enL enS x.2.1) 0)),vd (dB x.2.2.1),.v (.c (.own x.2.2.2.1 (enL enS x.2.2.2.2.1) 1)),vd (dI x.2.2.2.2.2)],[.row x.2.1.length (rz x.1 1),.row x.2.2.2.2.1.length (rz x.2.2.2.1 1)])
def j0t(mm:Int)(r:Option (Ex×St)):Option (X ⊕ (AV×Heap)):=stepE (e0w mm) (loopK 0 l0y (sq (E0 mm) 48 0 k0c (blockD 1 (sq (E0 mm) 48 0 g0Y (blockD 2 (r))))))
def d0p(x:(Bool×List Bs×Bool×Bool×List Bs×Int×Bs×Bool×Int)):X:=(none,[.v (.c (.own x.1 (enL enS x.2.1) 0)),vd (dB x.2.2.1),.v (.c (.own x.2.2.2.1 (enL enS x.2.2.2.2.1) 1)),vd (dI x.2.2.2.2.2.1),vd (dS x.2.2.2.2.2.2.1),vd (dB x.2.2.2.2.2.2.2.1),vd (dI x.2.2.2.2.2.2.2.2)],[.row x.2.1.length (rz x.1 1),.row x.2.2.2.2.1.length (rz x.2.2.2.1 1)])
def k48:=Q (rx H0g) (Q (rx H0h) (Q @hd155 (Q @nv156 (Q @rw157 (Q (rx H0e) (Q (rx H0f) (Q @j0t.eq_1 (Q (rx H0i) (Q (rx G0Y) (Q (rx G0Z) (Q @p0Z (Q @e51.eq_1 (Q (rx H0a) (Q (rx H0b) (Q (rx H0c) (Q (rx H0d) (Q (fun mm=>lx (E0 mm) 48 u0y f0b q0R) (Q @e0w.eq_1 (Q (rx N0R) (Q (rx N0S) (Q (rx N0T) (Q (rx N0U) (Q (fun (mm:Int) (l_0:Bool) (l_1:List (Bs×Bs))=>(show callW (E0 mm) 49 [cd (.lst l_0 (enL enSS l_1)),cd (dS ([118,97,114,121]:Bs))] []=_ from i0C l_0 l_1 ([118,97,114,121]:Bs))) (Q @i0C (Q @e49.eq_1 (Q (rx G0X) (Q (fun mm=>lx (E0 mm) 48 u0x a0z l0y) (Q (nE i0x (.seq N0R (.seq N0S (.seq N0T (.seq N0U (.seq (.seq G0X (.block 0 u0x)) k0d)))))) (Q (nE a0z (.seq (.seq G0Y (.cond _ .skip (.exit 0))) (.seq (.block 1 (.seq G0Z (.seq (.seq H0a (.cond _ (.seq H0b (.exit 1)) .skip)) (.seq H0c (.seq (.seq H0d (.block 2 u0y)) g0Y))))) k0c))) (Q (nE f0b (.seq (.seq H0e (.cond _ .skip (.exit 2))) (.seq (.block 3 H0f) u0z))) (Q @a0x.eq_1 (Q @d0p.eq_1 (Q @l0y.eq_1 (Q @q0R.eq_1 hA))))))))))))))))))))))))))))))))))
theorem o0S(names4_0:Bool)(names4_1:List Bs)(star5 all6_0:Bool)(all6_1:List Bs)(i7:Int)(sl:Sl)(_:sl 4=.v (.c (.own names4_0 (enL enS names4_1) 0)))(_:sl 5=vd (dB star5))(_:sl 6=.v (.c (.own all6_0 (enL enS all6_1) 1)))(_:sl 7=vd (dI i7)):
  stepE (e0w mm) (loopK 0 l0y (dn (E0 mm) 48 0 k0c sl [.row names4_1.length (rz names4_0 1),.row all6_1.length (rz all6_0 1)]))=(f0R names4_0 names4_1 star5 all6_0 all6_1 i7).map (sm a0x e48):=by
 unfold f0R;exact go (Q (rx k0c) k48) trivial
def k0X(names4_0:Bool)(names4_1:List Bs)(star5 all6_0:Bool)(all6_1:List Bs)(i7:Int)(name8:Bs)(there9:Bool)(k10:Int):Option ((Bool×List Bs×Bool×Bool×List Bs×Int×Bs×Bool×Int) ⊕ ((Bool×List Bs×Bool×Bool×List Bs×Int) ⊕ R48)):=
 some (.inl (names4_0,names4_1,star5,all6_0,all6_1,i7,name8,there9,(w64 (k10+1))))
theorem z0O(names4_0:Bool)(names4_1:List Bs)(star5 all6_0:Bool)(all6_1:List Bs)(i7:Int)(name8:Bs)(there9:Bool)(k10:Int)(sl:Sl)(_:sl 4=.v (.c (.own names4_0 (enL enS names4_1) 0)))(_:sl 5=vd (dB star5))(_:sl 6=.v (.c (.own all6_0 (enL enS all6_1) 1)))(_:sl 7=vd (dI i7))(_:sl 8=vd (dS name8))(_:sl 9=vd (dB there9))(_:sl 10=vd (dI k10)):
  stepE (j0t mm) (loopK 0 q0R (dn (E0 mm) 48 0 u0z sl [.row names4_1.length (rz names4_0 1),.row all6_1.length (rz all6_0 1)]))=(k0X names4_0 names4_1 star5 all6_0 all6_1 i7 name8 there9 k10).map (sm d0p (sm a0x e48)):=by
 unfold k0X;exact go (Q (rx u0z) k48) trivial
def d0Y(names4_0:Bool)(names4_1:List Bs)(star5 all6_0:Bool)(all6_1:List Bs)(i7:Int)(name8:Bs)(there9:Bool):Option ((Bool×List Bs×Bool×Bool×List Bs×Int) ⊕ R48):=
 if there9=true then
  f0R names4_0 names4_1 star5 all6_0 all6_1 i7
 else
  if (names4_1.length+1)*16≤140737488355328 then
   f0R false (names4_1++([name8]:List Bs)) star5 all6_0 all6_1 i7
  else none
theorem z0P(names4_0:Bool)(names4_1:List Bs)(star5 all6_0:Bool)(all6_1:List Bs)(i7:Int)(name8:Bs)(there9:Bool)(sl:Sl)(_:sl 4=.v (.c (.own names4_0 (enL enS names4_1) 0)))(_:sl 5=vd (dB star5))(_:sl 6=.v (.c (.own all6_0 (enL enS all6_1) 1)))(_:sl 7=vd (dI i7))(_:sl 8=vd (dS name8))(_:sl 9=vd (dB there9)):
  stepE (e0w mm) (loopK 0 l0y (sq (E0 mm) 48 0 k0c (blockD 1 (dn (E0 mm) 48 0 g0Y sl [.row names4_1.length (rz names4_0 1),.row all6_1.length (rz all6_0 1)]))))=(d0Y names4_0 names4_1 star5 all6_0 all6_1 i7 name8 there9).map (sm a0x e48):=by
 unfold d0Y;exact go (Q (nE g0Y (.seq H0g (.cond _ H0h .skip))) k48) @o0S
def l0u(names4_0:Bool)(names4_1:List Bs)(star5 all6_0:Bool)(all6_1:List Bs)(i7:Int)(name8:Bs)(there9:Bool)(k10:Int):Option ((Bool×List Bs×Bool×Bool×List Bs×Int×Bs×Bool×Int) ⊕ ((Bool×List Bs×Bool×Bool×List Bs×Int) ⊕ R48)):=
 if (decide (k10<(names4_1.length:Int)))=true then
  if there9=true then
   k0X names4_0 names4_1 star5 all6_0 all6_1 i7 name8 true k10
  else
   if 0≤k10∧k10<(names4_1.length:Int) then
    k0X names4_0 names4_1 star5 all6_0 all6_1 i7 name8 ((names4_1.getD k10.toNat default)==name8) k10
   else none
 else
  (d0Y names4_0 names4_1 star5 all6_0 all6_1 i7 name8 there9).map .inr
theorem B0K(names4_0:Bool)(names4_1:List Bs)(star5 all6_0:Bool)(all6_1:List Bs)(i7:Int)(name8:Bs)(there9:Bool)(k10:Int):
  stepE (j0t mm) (lp (E0 mm) 48 0 f0b q0R (d0p (names4_0,names4_1,star5,all6_0,all6_1,i7,name8,there9,k10)))=(l0u names4_0 names4_1 star5 all6_0 all6_1 i7 name8 there9 k10).map (sm d0p (sm a0x e48)):=by
 unfold l0u;exact go k48 (Q @z0O @z0P)
def p0p(names4_0:Bool)(names4_1:List Bs)(star5 all6_0:Bool)(all6_1:List Bs)(i7:Int)(name8:Bs)(there9:Bool)(k10:Int):Option ((Bool×List Bs×Bool×Bool×List Bs×Int) ⊕ R48):=iter (fun x:(Bool×List Bs×Bool×Bool×List Bs×Int×Bs×Bool×Int)=>l0u x.1 x.2.1 x.2.2.1 x.2.2.2.1 x.2.2.2.2.1 x.2.2.2.2.2.1 x.2.2.2.2.2.2.1 x.2.2.2.2.2.2.2.1 x.2.2.2.2.2.2.2.2) (names4_0,names4_1,star5,all6_0,all6_1,i7,name8,there9,k10)
theorem A0Y(names4_0:Bool)(names4_1:List Bs)(star5 all6_0:Bool)(all6_1:List Bs)(i7:Int)(name8:Bs)(there9:Bool)(k10:Int):(j0t mm) (itW (lp (E0 mm) 48 0 f0b q0R) (d0p (names4_0,names4_1,star5,all6_0,all6_1,i7,name8,there9,k10)))=(p0p names4_0 names4_1 star5 all6_0 all6_1 i7 name8 there9 k10).map (sm a0x e48):=
 it_sim (K:=(j0t mm)) rfl (enc:=d0p) (fun x=>B0K x.1 x.2.1 x.2.2.1 x.2.2.2.1 x.2.2.2.2.1 x.2.2.2.2.2.1 x.2.2.2.2.2.2.1 x.2.2.2.2.2.2.2.1 x.2.2.2.2.2.2.2.2) (names4_0,names4_1,star5,all6_0,all6_1,i7,name8,there9,k10)
def o0T(names4_0:Bool)(names4_1:List Bs)(star5:Bool):Option R48:=
 some (names4_0,names4_1,star5)
theorem z0Q(names4_0:Bool)(names4_1:List Bs)(star5:Bool)(g1:Ob)(sl:Sl)(_:sl 4=.v (.c (.own names4_0 (enL enS names4_1) 0)))(_:sl 5=vd (dB star5)):
  bodyD (E0 mm) [.tmp 2,.tmp 3] 0 false (dn (E0 mm) 48 0 k0d sl [.row names4_1.length (rz names4_0 1),g1])=(o0T names4_0 names4_1 star5).map e48:=by
 unfold o0T;exact go (Q (nE k0d (.seq H0i .ret)) k48) trivial
def l0t(names4_0:Bool)(names4_1:List Bs)(star5 all6_0:Bool)(all6_1:List Bs)(i7:Int):Option ((Bool×List Bs×Bool×Bool×List Bs×Int) ⊕ R48):=
 if (decide (i7<(all6_1.length:Int)))=true then
  if 0≤i7∧i7<(all6_1.length:Int) then
   (m51 (all6_1.getD i7.toNat default)).bind fun yr7=>
    if (yr7==([42]:Bs))=true then
     f0R names4_0 names4_1 true all6_0 all6_1 i7
    else
     p0p names4_0 names4_1 star5 all6_0 all6_1 i7 yr7 false (0:Int)
  else none
 else
  (o0T names4_0 names4_1 star5).map .inr
theorem B0J(names4_0:Bool)(names4_1:List Bs)(star5 all6_0:Bool)(all6_1:List Bs)(i7:Int):
  stepE (e0w mm) (lp (E0 mm) 48 0 a0z l0y (a0x (names4_0,names4_1,star5,all6_0,all6_1,i7)))=(l0t names4_0 names4_1 star5 all6_0 all6_1 i7).map (sm a0x e48):=by
 unfold l0t;exact go k48 (Q @o0S (Q @A0Y @z0Q))
def J0C(names4_0:Bool)(names4_1:List Bs)(star5 all6_0:Bool)(all6_1:List Bs)(i7:Int):Option R48:=iter (fun x:(Bool×List Bs×Bool×Bool×List Bs×Int)=>l0t x.1 x.2.1 x.2.2.1 x.2.2.2.1 x.2.2.2.2.1 x.2.2.2.2.2) (names4_0,names4_1,star5,all6_0,all6_1,i7)
theorem A0X(names4_0:Bool)(names4_1:List Bs)(star5 all6_0:Bool)(all6_1:List Bs)(i7:Int):(e0w mm) (itW (lp (E0 mm) 48 0 a0z l0y) (a0x (names4_0,names4_1,star5,all6_0,all6_1,i7)))=(J0C names4_0 names4_1 star5 all6_0 all6_1 i7).map e48:=
 it_sim (K:=(e0w mm)) rfl (enc:=a0x) (fun x=>B0J x.1 x.2.1 x.2.2.1 x.2.2.2.1 x.2.2.2.2.1 x.2.2.2.2.2) (names4_0,names4_1,star5,all6_0,all6_1,i7)
def m48(l_0:Bool)(l_1:List (Bs×Bs)):Option R48:=
 (m49 l_0 l_1 ([118,97,114,121]:Bs)).bind fun yr2=>
  J0C true ([]:List Bs) false yr2.1 yr2.2 (0:Int)
theorem T0V(l_0:Bool)(l_1:List (Bs×Bs)):
  callW (E0 mm) 48 [cd (.lst l_0 (enL enSS l_1))] []=(m48 l_0 l_1).map e48:=by
 rw[cR i0x [.tmp 2,.tmp 3] Tryz.func48]
 unfold m48;exact go k48 @A0X
noncomputable def m0e:Code:=bodyOf Tryz.f50
def N0Y:=cA m0e
def N0Z:=cA (cB m0e)
def O0a:=cA (cA (cB (cB m0e)))
def K0n:=cA (cB (cA (cB (cB m0e))))
def k0j:=cA K0n
def H0n:=cA (cA k0j)
def k0h:=cA (cA (cA (cB k0j)))
def H0o:=cA (cA (cB (cA (cA (cB k0j)))))
def H0p:=cB (cB k0j)
def k0i:=cB (cB (cB m0e))
def H0q:=cA k0i
theorem c50_18_r(m:Nat)(st:St):den (E0 mm) 50 m (callW (E0 mm)) itW k0h none st=regD ((runF (E0 mm) (callW (E0 mm)) (opsOf k0h) (opsOf k0h) [none,none,some true,none,some false,none] st []).bind (ckF [(2,4)])):=den_dF (by kernel_rfl)
def y0n:List (Nat×Co):=[(0,.keep),(3,.keep),(4,.keep)]
abbrev R50:=(Bool)
def e50(x:R50):AV×Heap:=(vd (dB x),[])
def w0b: Option R50:=
 some false
def y0f(mm:Int)(r:Option (Ex×St)):Option (AV×Heap):=bodyD (E0 mm) [.tmp 2] 0 false (sq (E0 mm) 50 0 k0i (blockD 0 (r)))
def k0I(x:(Bs×Int)):X:=(none,[vd (dS x.1),.v (.c (.ptr 0 0)),vd (dI x.2)],[.cells [.d (dS ([97,103,101]:Bs)),.d (dS ([97,117,116,104,111,114,105,122,97,116,105,111,110]:Bs)),.d (dS ([99,97,99,104,101,45,99,111,110,116,114,111,108]:Bs)),.d (dS ([99,111,110,116,101,110,116,45,101,110,99,111,100,105,110,103]:Bs)),.d (dS ([99,111,110,116,101,110,116,45,108,111,99,97,116,105,111,110]:Bs)),.d (dS ([99,111,110,116,101,110,116,45,114,97,110,103,101]:Bs)),.d (dS ([99,111,110,116,101,110,116,45,116,121,112,101]:Bs)),.d (dS ([100,97,116,101]:Bs)),.d (dS ([101,116,97,103]:Bs)),.d (dS ([101,120,112,105,114,101,115]:Bs)),.d (dS ([104,111,115,116]:Bs)),.d (dS ([105,102,45,109,97,116,99,104]:Bs)),.d (dS ([105,102,45,109,111,100,105,102,105,101,100,45,115,105,110,99,101]:Bs)),.d (dS ([105,102,45,110,111,110,101,45,109,97,116,99,104]:Bs)),.d (dS ([105,102,45,114,97,110,103,101]:Bs)),.d (dS ([105,102,45,117,110,109,111,100,105,102,105,101,100,45,115,105,110,99,101]:Bs)),.d (dS ([108,97,115,116,45,109,111,100,105,102,105,101,100]:Bs)),.d (dS ([108,111,99,97,116,105,111,110]:Bs)),.d (dS ([112,114,97,103,109,97]:Bs)),.d (dS ([114,97,110,103,101]:Bs)),.d (dS ([118,97,114,121]:Bs)),.d (dS ([118,105,97]:Bs))]])
def k50:=Q (rx H0q) (Q (rx H0n) (Q @c50_18_r (Q (show opsOf k0h=_::_ from rfl) (Q @Tryz.underlying102 (Q setF (Q @ar159 (Q @p0Z (Q @e51.eq_1 (Q (rx H0o) (Q @y0f.eq_1 (Q (rx H0p) (Q (rx N0Y) (Q (rx N0Z) (Q @zc102 (Q @ao158 (Q @sz102 (Q (rx O0a) (Q (fun mm=>lx (E0 mm) 50 K0n k0j y0n) (Q (nE m0e (.seq N0Y (.seq N0Z (.seq (.seq O0a (.block 0 K0n)) k0i)))) (Q (nE k0j (.seq (.seq H0n (.cond _ .skip (.exit 0))) (.seq (.block 1 (.seq k0h (.cond _ (.seq H0o .ret) .skip))) H0p))) (Q @k0I.eq_1 (Q @y0n.eq_1 hA))))))))))))))))))))))
theorem z0T(g0:Ob)(sl:Sl):
  bodyD (E0 mm) [.tmp 2] 0 false (dn (E0 mm) 50 0 k0i sl [g0])=(w0b).map e50:=by
 unfold w0b;exact go (Q (nE k0i (.seq H0q .ret)) k50) trivial
def m0V(name0:Bs)(i4:Int):Option ((Bs×Int) ⊕ R50):=
 if (decide (i4<22))=true then
  if 0≤i4∧i4<22 then
   (m51 name0).bind fun yr5=>
    if ((([([97,103,101]:Bs),([97,117,116,104,111,114,105,122,97,116,105,111,110]:Bs),([99,97,99,104,101,45,99,111,110,116,114,111,108]:Bs),([99,111,110,116,101,110,116,45,101,110,99,111,100,105,110,103]:Bs),([99,111,110,116,101,110,116,45,108,111,99,97,116,105,111,110]:Bs),([99,111,110,116,101,110,116,45,114,97,110,103,101]:Bs),([99,111,110,116,101,110,116,45,116,121,112,101]:Bs),([100,97,116,101]:Bs),([101,116,97,103]:Bs),([101,120,112,105,114,101,115]:Bs),([104,111,115,116]:Bs),([105,102,45,109,97,116,99,104]:Bs),([105,102,45,109,111,100,105,102,105,101,100,45,115,105,110,99,101]:Bs),([105,102,45,110,111,110,101,45,109,97,116,99,104]:Bs),([105,102,45,114,97,110,103,101]:Bs),([105,102,45,117,110,109,111,100,105,102,105,101,100,45,115,105,110,99,101]:Bs),([108,97,115,116,45,109,111,100,105,102,105,101,100]:Bs),([108,111,99,97,116,105,111,110]:Bs),([112,114,97,103,109,97]:Bs),([114,97,110,103,101]:Bs),([118,97,114,121]:Bs),([118,105,97]:Bs)]:List Bs).getD i4.toNat default)==yr5)=true then
     some (.inr true)
    else
     some (.inl (name0,(w64 (i4+1))))
  else none
 else
  (w0b).map .inr
theorem L0Y(name0:Bs)(i4:Int):
  stepE (y0f mm) (lp (E0 mm) 50 0 k0j y0n (k0I (name0,i4)))=(m0V name0 i4).map (sm k0I e50):=by
 unfold m0V;exact go k50 @z0T
def R0O(name0:Bs)(i4:Int):Option R50:=iter (fun x:(Bs×Int)=>m0V x.1 x.2) (name0,i4)
theorem K0Y(name0:Bs)(i4:Int):(y0f mm) (itW (lp (E0 mm) 50 0 k0j y0n) (k0I (name0,i4)))=(R0O name0 i4).map e50:=
 it_sim (K:=(y0f mm)) rfl (enc:=k0I) (fun x=>L0Y x.1 x.2) (name0,i4)
def m50(name:Bs):Option R50:=
 R0O name (0:Int)
theorem T0W(name:Bs):
  callW (E0 mm) 50 [cd (dS name)] []=(m50 name).map e50:=by
 rw[cR m0e [.tmp 2] Tryz.func50]
 unfold m50;exact go k50 @K0Y
noncomputable def m0c:Code:=bodyOf Tryz.f45
def N0I:=cA m0c
def N0J:=cA (cB m0c)
def N0K:=cA (cA (cB (cB m0c)))
def K0l:=cA (cB (cA (cB (cB m0c))))
def j0Z:=cA K0l
def G0x:=cA (cA j0Z)
def G0y:=cA (cA (cA (cB j0Z)))
def G0z:=cA (cA (cB (cA (cA (cB j0Z)))))
def G0A:=cB (cB j0Z)
def j0Y:=cB (cB (cB m0c))
def G0B:=cA j0Y
def y0m:List (Nat×Co):=[(0,.keep),(3,.keep),(4,.keep)]
abbrev R45:=(Bool)
def e45(x:R45):AV×Heap:=(vd (dB x),[])
def w0a: Option R45:=
 some false
def y0e(mm:Int)(r:Option (Ex×St)):Option (AV×Heap):=bodyD (E0 mm) [.tmp 2] 0 false (sq (E0 mm) 45 0 j0Y (blockD 0 (r)))
def k0H(x:(Int×Int)):X:=(none,[vd (dI x.1),.v (.c (.ptr 0 0)),vd (dI x.2)],[.cells [.d (dI 200),.d (dI 203),.d (dI 204),.d (dI 300),.d (dI 301),.d (dI 308),.d (dI 404),.d (dI 405),.d (dI 410),.d (dI 414),.d (dI 501)]])
def k45:=Q (rx G0B) (Q (rx G0x) (Q (rx G0y) (Q @Tryz.underlying101 (Q @ar161 (Q (rx G0z) (Q @y0e.eq_1 (Q (rx G0A) (Q (rx N0I) (Q (rx N0J) (Q @zc101 (Q @ao160 (Q @sz101 (Q (rx N0K) (Q (fun mm=>lx (E0 mm) 45 K0l j0Z y0m) (Q (nE m0c (.seq N0I (.seq N0J (.seq (.seq N0K (.block 0 K0l)) j0Y)))) (Q (nE j0Z (.seq (.seq G0x (.cond _ .skip (.exit 0))) (.seq (.block 1 (.seq G0y (.cond _ (.seq G0z .ret) .skip))) G0A))) (Q @k0H.eq_1 (Q @y0m.eq_1 hA))))))))))))))))))
theorem z0K(g0:Ob)(sl:Sl):
  bodyD (E0 mm) [.tmp 2] 0 false (dn (E0 mm) 45 0 j0Y sl [g0])=(w0a).map e45:=by
 unfold w0a;exact go (Q (nE j0Y (.seq G0B .ret)) k45) trivial
def m0U(status0 i4:Int):Option ((Int×Int) ⊕ R45):=
 if (decide (i4<11))=true then
  if 0≤i4∧i4<11 then
   if ((([(200:Int),(203:Int),(204:Int),(300:Int),(301:Int),(308:Int),(404:Int),(405:Int),(410:Int),(414:Int),(501:Int)]:List Int).getD i4.toNat default)==status0)=true then
    some (.inr true)
   else
    some (.inl (status0,(w64 (i4+1))))
  else none
 else
  (w0a).map .inr
theorem L0W(status0 i4:Int):
  stepE (y0e mm) (lp (E0 mm) 45 0 j0Z y0m (k0H (status0,i4)))=(m0U status0 i4).map (sm k0H e45):=by
 unfold m0U;exact go k45 @z0K
def R0M(status0 i4:Int):Option R45:=iter (fun x:(Int×Int)=>m0U x.1 x.2) (status0,i4)
theorem K0W(status0 i4:Int):(y0e mm) (itW (lp (E0 mm) 45 0 j0Z y0m) (k0H (status0,i4)))=(R0M status0 i4).map e45:=
 it_sim (K:=(y0e mm)) rfl (enc:=k0H) (fun x=>L0W x.1 x.2) (status0,i4)
def m45(status:Int):Option R45:=
 R0M status (0:Int)
theorem T0U(status:Int):
  callW (E0 mm) 45 [cd (dI status)] []=(m45 status).map e45:=by
 rw[cR m0c [.tmp 2] Tryz.func45]
 unfold m45;exact go k45 @K0W
end
end Go.Proofs.YtbkobjepahlegaaGreatDoor
