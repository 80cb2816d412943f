/- The Go functions as plain functions, and that the evaluator computes them. -/
import Derived.Test.YtbkobjepahlegaaGreatDoorFStores2
set_option linter.all false
set_option maxRecDepth 100000
namespace Go.Proofs.YtbkobjepahlegaaGreatDoor
open Go Go.Ab
open Nat renaming reduceEqDiff→za,reduceAdd→zb,reduceLeDiff→zc,reduceLT→zd,reduceMul→ze,reduceBEq→zf,reduceSub→zg,reducePow→zh
open Int renaming reduceEq→zi,reduceLE→zj,reduceLT→zk,reduceToNat→zl,reduceNegSucc→zm,reduceAdd→zn,reduceBEq→zo
open String renaming reduceBEq→zp
set_option maxHeartbeats 4000000
noncomputable section
variable {mm:Int}
abbrev b61b(mm:Int):=bodyD (E0 mm) [.tmp 4] 2 false
abbrev q0J:=(Int)
def b0Z:List (Nat×Co):=[(1,.keep),(5,.keep),(8,.keep),(9,.keep),(10,.keep)]
def u0Y(gm1:List (Bs×List Bs))(x:q0J):AV×Heap:=(vd (dI x),[.cells [.mp 1],.amap (enM gm1)])
def i0V(gm1:List (Bs×List Bs))(t8_0:Bool)(t8_1:List Bs)(t9 t10:Int)(h3:List Int):Option (((Bool×List Bs×Int×Int) ⊕ (Bool×List Bs×Int×Int×List Int)) ⊕ q0J):=
 some (.inl (.inr (t8_0,t8_1,t9,(w64 (t10+1)),h3)))
def d0C(mm:Int)(r:Option (Ex×St)):Option (AV×Heap):=b61b mm (sq (E0 mm) 61 2 a0e (blockD 0 (r)))
def b0R(gm1:List (Bs×List Bs)):((Bool×List Bs×Int×Int) ⊕ (Bool×List Bs×Int×Int×List Int))→X:=fun x=>match x with
 | (.inl x)=>(none,[.v (.c (.fn 82 [(0,0)])),vd (.lst true []),vd (.lst x.1 (enL enS x.2.1)),vd (dI x.2.2.1),vd (dI x.2.2.2)],[.cells [.mp 1],.amap (enM gm1)])
 | (.inr x)=>(none,[.v (.c (.fn 82 [(0,0)])),.v (.c (.slc 2 0 1 x.2.2.2.2.length none)),vd (.lst x.1 (enL enS x.2.1)),vd (dI x.2.2.1),vd (dI x.2.2.2.1)],[.cells [.mp 1],.amap (enM gm1),.cells (enI x.2.2.2.2)])
def A0E:=Q (rx c0k) (Q (rx c0l) (Q @v0a (Q @S0T.eq_1 (Q @enI_length (Q @enI1_src (Q (rx c0m) (Q (rx c0n) (Q (rx h0a) (Q @d0C.eq_1 (Q (show List.range 5=[0,1,2,3,4] from rfl) (Q (rx c0o) (Q @ent82 (Q @prm82 (Q @U0i (Q @e82.eq_1 (Q (rx p0M) (Q (rx p0N) (Q (rx p0O) (Q (fun mm=>lx (E0 mm) 61 m0h a0U b0Z) (Q (nE f0d (.seq p0M (.seq p0N (.seq (.seq p0O (.block 0 m0h)) a0e)))) (Q (nE a0U (.seq h0a (.seq (.cond _ .skip (.exit 0)) a0m))) (Q @b0Z.eq_1 hA))))))))))))))))))))))
theorem w0g(gm1:List (Bs×List Bs))(t8_0:Bool)(t8_1:List Bs)(t9 t10:Int)(h3:List Int)(g2:Ob)(sl:Sl)(_:sl 1=.v (.c (.fn 82 [(0,0)])))(_:sl 5=.v (.c (.slc 3 0 1 h3.length none)))(_:sl 8=vd (.lst t8_0 (enL enS t8_1)))(_:sl 9=vd (dI t9))(_:sl 10=vd (dI t10)):
  stepE (d0C mm) (loopK 2 b0Z (dn (E0 mm) 61 2 a0n sl [.cells [.mp 1],.amap (enM gm1),g2,.cells (enI h3)]))=(i0V gm1 t8_0 t8_1 t9 t10 h3).map (sm (b0R gm1) (u0Y gm1)):=by
 unfold i0V;exact go (Q (rx a0n) A0E) trivial
def i0U(gm1:List (Bs×List Bs))(t8_0:Bool)(t8_1:List Bs)(t9 t10:Int):Option (((Bool×List Bs×Int×Int) ⊕ (Bool×List Bs×Int×Int×List Int)) ⊕ q0J):=
 if 0≤t10∧t10<(t8_1.length:Int) then
  (y0a (t8_1.getD t10.toNat default)).bind fun yr5=>
   i0V gm1 t8_0 t8_1 t9 t10 ([yr5]:List Int)
 else none
theorem w0f(gm1:List (Bs×List Bs))(t8_0:Bool)(t8_1:List Bs)(t9 t10:Int)(sl:Sl)(_:sl 1=.v (.c (.fn 82 [(0,0)])))(_:sl 5=vd (.lst true []))(_:sl 8=vd (.lst t8_0 (enL enS t8_1)))(_:sl 9=vd (dI t9))(_:sl 10=vd (dI t10)):
  stepE (d0C mm) (loopK 2 b0Z (dn (E0 mm) 61 2 a0m sl [.cells [.mp 1],.amap (enM gm1)]))=(i0U gm1 t8_0 t8_1 t9 t10).map (sm (b0R gm1) (u0Y gm1)):=by
 unfold i0U;exact go (Q (nE a0m (.seq (.block 1 (.seq c0k c0l)) a0n)) A0E) @w0g
def i0W(gm1:List (Bs×List Bs)): Option q0J:=
 some (-1:Int)
theorem w0h(gm1:List (Bs×List Bs))(sl:Sl)(_:sl 1=.v (.c (.fn 82 [(0,0)])))(_:sl 5=vd (.lst true [])):
  b61b mm (dn (E0 mm) 61 2 a0e sl [.cells [.mp 1],.amap (enM gm1)])=(i0W gm1).map (u0Y gm1):=by
 unfold i0W;exact go (Q (nE a0e (.seq (.seq c0m (.cond _ (.seq c0n .ret) .skip)) (.seq c0o .ret))) A0E) trivial
def c0T(gm1:List (Bs×List Bs))(t8_0:Bool)(t8_1:List Bs)(t9 t10:Int):Option (((Bool×List Bs×Int×Int) ⊕ (Bool×List Bs×Int×Int×List Int)) ⊕ q0J):=
 if (decide (t10<t9))=true then
  i0U gm1 t8_0 t8_1 t9 t10
 else
  (i0W gm1).map .inr
theorem q0E(gm1:List (Bs×List Bs))(t8_0:Bool)(t8_1:List Bs)(t9 t10:Int):
  stepE (d0C mm) (lp (E0 mm) 61 2 a0U b0Z (none,[.v (.c (.fn 82 [(0,0)])),vd (.lst true []),vd (.lst t8_0 (enL enS t8_1)),vd (dI t9),vd (dI t10)],[.cells [.mp 1],.amap (enM gm1)]))=(c0T gm1 t8_0 t8_1 t9 t10).map (sm (b0R gm1) (u0Y gm1)):=by
 unfold c0T;exact go A0E (Q @w0f @w0h)
def c0P(gm1:List (Bs×List Bs))(t8_0:Bool)(t8_1:List Bs)(t9 t10:Int)(h4:List Int):Option (((Bool×List Bs×Int×Int) ⊕ (Bool×List Bs×Int×Int×List Int)) ⊕ q0J):=
 some (.inl (.inr (t8_0,t8_1,t9,(w64 (t10+1)),h4)))
theorem m0F(gm1:List (Bs×List Bs))(t8_0:Bool)(t8_1:List Bs)(t9 t10:Int)(h4:List Int)(g2 g3:Ob)(sl:Sl)(_:sl 1=.v (.c (.fn 82 [(0,0)])))(_:sl 5=.v (.c (.slc 4 0 1 h4.length none)))(_:sl 8=vd (.lst t8_0 (enL enS t8_1)))(_:sl 9=vd (dI t9))(_:sl 10=vd (dI t10)):
  stepE (d0C mm) (loopK 2 b0Z (dn (E0 mm) 61 2 a0n sl [.cells [.mp 1],.amap (enM gm1),g2,g3,.cells (enI h4)]))=(c0P gm1 t8_0 t8_1 t9 t10 h4).map (sm (b0R gm1) (u0Y gm1)):=by
 unfold c0P;exact go (Q (rx a0n) A0E) trivial
def c0O(gm1:List (Bs×List Bs))(t8_0:Bool)(t8_1:List Bs)(t9 t10:Int)(h2:List Int):Option (((Bool×List Bs×Int×Int) ⊕ (Bool×List Bs×Int×Int×List Int)) ⊕ q0J):=
 if 0≤t10∧t10<(t8_1.length:Int) then
  (y0a (t8_1.getD t10.toNat default)).bind fun yr10=>
   if (h2.length+1)*8≤140737488355328 then
    c0P gm1 t8_0 t8_1 t9 t10 (h2++([yr10]:List Int))
   else none
 else none
theorem m0E(gm1:List (Bs×List Bs))(t8_0:Bool)(t8_1:List Bs)(t9 t10:Int)(h2:List Int)(sl:Sl)(_:sl 1=.v (.c (.fn 82 [(0,0)])))(_:sl 5=.v (.c (.slc 2 0 1 h2.length none)))(_:sl 8=vd (.lst t8_0 (enL enS t8_1)))(_:sl 9=vd (dI t9))(_:sl 10=vd (dI t10)):
  stepE (d0C mm) (loopK 2 b0Z (dn (E0 mm) 61 2 a0m sl [.cells [.mp 1],.amap (enM gm1),.cells (enI h2)]))=(c0O gm1 t8_0 t8_1 t9 t10 h2).map (sm (b0R gm1) (u0Y gm1)):=by
 unfold c0O;exact go (Q (nE a0m (.seq (.block 1 (.seq c0k c0l)) a0n)) A0E) @m0F
def c0Q(gm1:List (Bs×List Bs))(h2:List Int):Option q0J:=
 if ((h2.length:Int)==0)=true then
  some (-1:Int)
 else
  (m82 h2 gm1).bind fun yr14=>
   some yr14.1
theorem m0G(gm1:List (Bs×List Bs))(h2:List Int)(sl:Sl)(_:sl 1=.v (.c (.fn 82 [(0,0)])))(_:sl 5=.v (.c (.slc 2 0 1 h2.length none))):
  b61b mm (dn (E0 mm) 61 2 a0e sl [.cells [.mp 1],.amap (enM gm1),.cells (enI h2)])=(c0Q gm1 h2).map (u0Y gm1):=by
 unfold c0Q;exact go (Q (nE a0e (.seq (.seq c0m (.cond _ (.seq c0n .ret) .skip)) (.seq c0o .ret))) A0E) trivial
def c0U(gm1:List (Bs×List Bs))(t8_0:Bool)(t8_1:List Bs)(t9 t10:Int)(h2:List Int):Option (((Bool×List Bs×Int×Int) ⊕ (Bool×List Bs×Int×Int×List Int)) ⊕ q0J):=
 if (decide (t10<t9))=true then
  c0O gm1 t8_0 t8_1 t9 t10 h2
 else
  (c0Q gm1 h2).map .inr
theorem q0F(gm1:List (Bs×List Bs))(t8_0:Bool)(t8_1:List Bs)(t9 t10:Int)(h2:List Int):
  stepE (d0C mm) (lp (E0 mm) 61 2 a0U b0Z (none,[.v (.c (.fn 82 [(0,0)])),.v (.c (.slc 2 0 1 h2.length none)),vd (.lst t8_0 (enL enS t8_1)),vd (dI t9),vd (dI t10)],[.cells [.mp 1],.amap (enM gm1),.cells (enI h2)]))=(c0U gm1 t8_0 t8_1 t9 t10 h2).map (sm (b0R gm1) (u0Y gm1)):=by
 unfold c0U;exact go A0E (Q @m0E @m0G)
def d0Z(gm1:List (Bs×List Bs)):((Bool×List Bs×Int×Int) ⊕ (Bool×List Bs×Int×Int×List Int))→Option (((Bool×List Bs×Int×Int) ⊕ (Bool×List Bs×Int×Int×List Int)) ⊕ q0J):=fun x=>match x with
 | (.inl x)=>c0T gm1 x.1 x.2.1 x.2.2.1 x.2.2.2
 | (.inr x)=>c0U gm1 x.1 x.2.1 x.2.2.1 x.2.2.2.1 x.2.2.2.2
def J0E(gm1:List (Bs×List Bs))(t8_0:Bool)(t8_1:List Bs)(t9 t10:Int):Option q0J:=iter (d0Z gm1) (.inl (t8_0,t8_1,t9,t10))
theorem B0a(gm1:List (Bs×List Bs))(t8_0:Bool)(t8_1:List Bs)(t9 t10:Int):b61b mm (sq (E0 mm) 61 2 a0e (blockD 0 (itW (lp (E0 mm) 61 2 a0U b0Z) (none,[.v (.c (.fn 82 [(0,0)])),vd (.lst true []),vd (.lst t8_0 (enL enS t8_1)),vd (dI t9),vd (dI t10)],[.cells [.mp 1],.amap (enM gm1)]))))=(J0E gm1 t8_0 t8_1 t9 t10).map (u0Y gm1):=
 it_sim (K:=(d0C mm)) rfl (enc:=(b0R gm1)) (fun x=>match x with
 | (.inl x)=>q0E gm1 x.1 x.2.1 x.2.2.1 x.2.2.2
 | (.inr x)=>q0F gm1 x.1 x.2.1 x.2.2.1 x.2.2.2.1 x.2.2.2.2) (.inl (t8_0,t8_1,t9,t10))
def S0A(values_0:Bool)(values_1:List Bs)(gm1:List (Bs×List Bs)):Option q0J:=
 J0E gm1 values_0 values_1 (values_1.length:Int) (0:Int)
theorem R0j(values_0:Bool)(values_1:List Bs)(gm1:List (Bs×List Bs)):
  callW (E0 mm) 61 [cd (.lst values_0 (enL enS values_1)),.c (.fn 82 [(0,0)])] [.cells [.mp 1],.amap (enM gm1)]=(S0A values_0 values_1 gm1).map (u0Y gm1):=by
 rw[cR f0d [.tmp 4] Tryz.func61]
 unfold S0A;exact go A0E @B0a
noncomputable def y0N:Code:=bodyOf Tryz.f83
def P0t:=cA y0N
def P0u:=cA (cB y0N)
abbrev R83:=(Bool)
def e83(x:R83):AV×Heap:=(vd (dB x),[])
def m83(x0:Bs):Option R83:=
 (m73 x0 ([110,111,45,99,97,99,104,101]:Bs)).bind fun yr2=>
  some yr2
def k83:=Q (rx P0t) (Q (rx P0u) (Q (fun (mm:Int) (x0:Bs)=>(show callW (E0 mm) 73 [cd (dS x0),cd (dS ([110,111,45,99,97,99,104,101]:Bs))] []=_ from z0d x0 ([110,111,45,99,97,99,104,101]:Bs))) (Q @z0d (Q @e73.eq_1 (Q (nE y0N (.seq P0t (.seq P0u .ret))) hA)))))
theorem U0j(x0:Bs):
  callW (E0 mm) 83 [cd (dS x0)] []=(m83 x0).map e83:=by
 rw[cR y0N [.tmp 2] Tryz.func83]
 unfold m83;exact go k83 trivial
abbrev r0b:=(Int)
def h0Y:List (Nat×Co):=[(0,.keep),(1,.keep),(7,.keep),(8,.keep)]
def u0U(x:r0b):AV×Heap:=(vd (dI x),[])
def e0d: Option r0b:=
 some (-1:Int)
def h0O(mm:Int)(r:Option (Ex×St)):Option (AV×Heap):=bodyD (E0 mm) [.tmp 4] 0 false (sq (E0 mm) 123 0 a0d (blockD 0 (r)))
def c0w(x:(Bool×List Bs×Int×Int)):X:=(none,[vd (.lst x.1 (enL enS x.2.1)),vd (.sc (.func (.func 83) #[] #[])),vd (dI x.2.2.1),vd (dI x.2.2.2)],[])
def K0L:=Q (rx a0R) (Q (rx d0G) (Q (rx a0N) (Q (rx a0O) (Q @ent83 (Q @prm83 (Q @U0j (Q @e83.eq_1 (Q (rx a0P) (Q @h0O.eq_1 (Q (rx a0Q) (Q (rx d0E) (Q (rx d0F) (Q (fun mm=>lx (E0 mm) 123 c0c a0f h0Y) (Q (nE a0G (.seq d0E (.seq (.seq d0F (.block 0 c0c)) a0d))) (Q (nE a0f (.seq d0G (.seq (.cond _ .skip (.exit 0)) (.seq (.block 1 (.seq a0N (.seq a0O (.cond _ (.seq a0P .ret) .skip)))) a0Q)))) (Q @c0w.eq_1 (Q @h0Y.eq_1 hA)))))))))))))))))
theorem q0e(sl:Sl):
  bodyD (E0 mm) [.tmp 4] 0 false (dn (E0 mm) 123 0 a0d sl [])=(e0d).map u0U:=by
 unfold e0d;exact go (Q (nE a0d (.seq a0R .ret)) K0L) trivial
def g0c(s0_0:Bool)(s0_1:List Bs)(t7 t8:Int):Option ((Bool×List Bs×Int×Int) ⊕ r0b):=
 if (decide (t8<t7))=true then
  if 0≤t8∧t8<(s0_1.length:Int) then
   (m83 (s0_1.getD t8.toNat default)).bind fun yr5=>
    if yr5=true then
     some (.inr t8)
    else
     some (.inl (s0_0,s0_1,t7,(w64 (t8+1))))
  else none
 else
  (e0d).map .inr
theorem x0E(s0_0:Bool)(s0_1:List Bs)(t7 t8:Int):
  stepE (h0O mm) (lp (E0 mm) 123 0 a0f h0Y (c0w (s0_0,s0_1,t7,t8)))=(g0c s0_0 s0_1 t7 t8).map (sm c0w u0U):=by
 unfold g0c;exact go K0L @q0e
def w0A(s0_0:Bool)(s0_1:List Bs)(t7 t8:Int):Option r0b:=iter (fun x:(Bool×List Bs×Int×Int)=>g0c x.1 x.2.1 x.2.2.1 x.2.2.2) (s0_0,s0_1,t7,t8)
theorem w0B(s0_0:Bool)(s0_1:List Bs)(t7 t8:Int):(h0O mm) (itW (lp (E0 mm) 123 0 a0f h0Y) (c0w (s0_0,s0_1,t7,t8)))=(w0A s0_0 s0_1 t7 t8).map u0U:=
 it_sim (K:=(h0O mm)) rfl (enc:=c0w) (fun x=>x0E x.1 x.2.1 x.2.2.1 x.2.2.2) (s0_0,s0_1,t7,t8)
def B0p(s_0:Bool)(s_1:List Bs):Option r0b:=
 w0A s_0 s_1 (s_1.length:Int) (0:Int)
theorem K0A(s_0:Bool)(s_1:List Bs):
  callW (E0 mm) 123 [cd (.lst s_0 (enL enS s_1)),cd (.sc (.func (.func 83) #[] #[]))] []=(B0p s_0 s_1).map u0U:=by
 rw[cR a0G [.tmp 4] Tryz.func123]
 unfold B0p;exact go K0L @w0B
abbrev V0k:=(Bool)
def V0T(x:V0k):AV×Heap:=(vd (dB x),[])
def S0G(s_0:Bool)(s_1:List Bs):Option V0k:=
 (B0p s_0 s_1).bind fun yr2=>
  some (decide (0≤yr2))
def W0I:=Q (rx k0w) (Q (rx k0x) (Q @K0A (Q @u0U.eq_1 (Q (nE g0u (.seq k0w (.seq k0x .ret))) hA))))
theorem R0s(s_0:Bool)(s_1:List Bs):
  callW (E0 mm) 79 [cd (.lst s_0 (enL enS s_1)),cd (.sc (.func (.func 83) #[] #[]))] []=(S0G s_0 s_1).map V0T:=by
 rw[cR g0u [.tmp 4] Tryz.func79]
 unfold S0G;exact go W0I trivial
noncomputable def g0s:Code:=bodyOf Tryz.f41
def N0w:=cA g0s
def N0x:=cA (cB g0s)
def u0n:=cA (cB (cB g0s))
def u0o:=cA (cB (cB (cB g0s)))
def N0y:=cA (cB (cB (cB (cB g0s))))
def F0Q:=cA (cA (cB (cB (cB (cB (cB g0s))))))
def F0R:=cA (cB (cA (cB (cB (cB (cB (cB g0s)))))))
def g0X:=cB (cB (cB (cB (cB (cB g0s)))))
def u0m:=cA g0X
theorem c41_5_r(m:Nat)(st:St):den (E0 mm) 41 m (callW (E0 mm)) itW u0n none st=regD ((runF (E0 mm) (callW (E0 mm)) (opsOf u0n) (opsOf u0n) [some true,none,some false,some true,none,some false,some true,none,none,none,some false,none] st []).bind (ckF [(0,10),(3,2),(3,10),(6,2),(6,5),(6,10)])):=den_dF (by kernel_rfl)
theorem c41_7_r(m:Nat)(st:St):den (E0 mm) 41 m (callW (E0 mm)) itW u0o none st=regD ((runF (E0 mm) (callW (E0 mm)) (opsOf u0o) (opsOf u0o) [none,none,some false,some true,some true,none,none,none,none,none] st []).bind (ckF [(3,2),(4,2)])):=den_dF (by kernel_rfl)
abbrev R41:=(Bool×Bool×Bool×Bool×Bool×Bool×Int×Int×Int×Int)
def e41(x:R41):AV×Heap:=(.v (.agg [.d (dB x.1),.d (dB x.2.1),.d (dB x.2.2.1),.d (dB x.2.2.2.1),.d (dB x.2.2.2.2.1),.d (dB x.2.2.2.2.2.1),.d (dI x.2.2.2.2.2.2.1),.d (dI x.2.2.2.2.2.2.2.1),.d (dI x.2.2.2.2.2.2.2.2.1),.d (dI x.2.2.2.2.2.2.2.2.2)]),[])
def o0N(h0_0 h0_1:Bool)(h0_2 h0_3:Bool)(h0_4 h0_5:Bool)(h0_6 h0_7:Int)(h0_8 h0_9:Int)(h3_0 h3_1:Bool)(h3_2 h3_3:Bool)(h3_4 h3_5:Bool)(h3_6 h3_7:Int)(h3_8 h3_9:Int):Option R41:=
 some (h3_0,h3_1,h3_2,h3_3,h3_4,h3_5,h3_6,h3_7,h3_8,h3_9)
def k41:=Q (rx u0m) (Q (show List.range 6=[0,1,2,3,4,5] from rfl) (Q (show List.range 5=[0,1,2,3,4] from rfl) (Q (rx N0w) (Q @ao37 (Q (rx N0x) (Q @R0g (Q @e59.eq_1 (Q @zc73 (Q @ao54 (Q @c41_5_r (Q (show opsOf u0n=_::_ from rfl) (Q @hd55 (Q @nv56 (Q @rw57 (Q (fun (mm:Int) (yr2:R59)=>(show callW (E0 mm) 60 [.c (.mp 0),cd (.lst false (enL enS ([([110,111,45,115,116,111,114,101]:Bs)]:List Bs)))] [.amap (enM yr2)]=_ from g0x false ([([110,111,45,115,116,111,114,101]:Bs)]:List Bs) yr2)) (Q @g0x (Q setF (Q @e60.eq_1 (Q (fun (mm:Int) (yr2:R59)=>(show callW (E0 mm) 60 [.c (.mp 0),cd (.lst false (enL enS ([([110,111,45,99,97,99,104,101]:Bs)]:List Bs)))] [.amap (enM yr2)]=_ from g0x false ([([110,111,45,99,97,99,104,101]:Bs)]:List Bs) yr2)) (Q (fun (mm:Int) (yr2:R59)=>(show callW (E0 mm) 60 [.c (.mp 0),cd (.lst false (enL enS ([([111,110,108,121,45,105,102,45,99,97,99,104,101,100]:Bs)]:List Bs)))] [.amap (enM yr2)]=_ from g0x false ([([111,110,108,121,45,105,102,45,99,97,99,104,101,100]:Bs)]:List Bs) yr2)) (Q @ao58 (Q @c41_7_r (Q (show opsOf u0o=_::_ from rfl) (Q @R0h (Q @e61.eq_1 (Q @R0i (Q @u0X.eq_1 (Q (rx N0y) (Q @R0j (Q @u0Y.eq_1 (Q (rx F0Q) (Q (fun (mm:Int) (l_0:Bool) (l_1:List (Bs×Bs))=>(show callW (E0 mm) 29 [cd (.lst l_0 (enL enSS l_1)),cd (dS ([99,97,99,104,101,45,99,111,110,116,114,111,108]:Bs))] []=_ from m0q l_0 l_1 ([99,97,99,104,101,45,99,111,110,116,114,111,108]:Bs))) (Q @m0q (Q @e29.eq_1 (Q (rx F0R) (Q (fun (mm:Int) (l_0:Bool) (l_1:List (Bs×Bs))=>(show callW (E0 mm) 26 [cd (.lst l_0 (enL enSS l_1)),cd (dS ([112,114,97,103,109,97]:Bs))] []=_ from k0K l_0 l_1 ([112,114,97,103,109,97]:Bs))) (Q @k0K (Q @e26.eq_1 (Q @R0s (Q @V0T.eq_1 (Q (nE g0s (.seq N0w (.seq N0x (.seq u0n (.seq u0o (.seq N0y (.seq (.seq F0Q (.cond _ F0R .skip)) g0X))))))) hA)))))))))))))))))))))))))))))))))))))))))
theorem z0F(h0_0 h0_1:Bool)(h0_2 h0_3:Bool)(h0_4 h0_5:Bool)(h0_6 h0_7:Int)(h0_8 h0_9:Int)(h3_0 h3_1:Bool)(h3_2 h3_3:Bool)(h3_4 h3_5:Bool)(h3_6 h3_7:Int)(h3_8 h3_9:Int)(g1 g2:Ob)(g4 g5:Ob)(sl:Sl)(_:sl 2=.v (.c (.ptr 0 0)))(_:sl 4=.v (.c (.ptr 3 0))):
  bodyD (E0 mm) [.cell 2 37] 0 false (dn (E0 mm) 41 0 g0X sl [.cells [.d (dB h0_0),.d (dB h0_1),.d (dB h0_2),.d (dB h0_3),.d (dB h0_4),.d (dB h0_5),.d (dI h0_6),.d (dI h0_7),.d (dI h0_8),.d (dI h0_9)],g1,g2,.cells [.d (dB h3_0),.d (dB h3_1),.d (dB h3_2),.d (dB h3_3),.d (dB h3_4),.d (dB h3_5),.d (dI h3_6),.d (dI h3_7),.d (dI h3_8),.d (dI h3_9)],g4,g5])=(o0N h0_0 h0_1 h0_2 h0_3 h0_4 h0_5 h0_6 h0_7 h0_8 h0_9 h3_0 h3_1 h3_2 h3_3 h3_4 h3_5 h3_6 h3_7 h3_8 h3_9).map e41:=by
 unfold o0N;exact go (Q (nE g0X (.seq u0m .ret)) k41) trivial
def e0h(h0_0 h0_1:Bool)(h0_2 h0_3:Bool)(h0_4 h0_5:Bool)(h0_6 h0_7:Int)(h0_8 h0_9:Int)(h3_0 h3_1:Bool)(h3_2 h3_3:Bool)(h3_4 h3_5:Bool)(h3_6 h3_7:Int)(h3_8 h3_9:Int):Option R41:=
 some (h3_0,h3_1,h3_2,h3_3,h3_4,h3_5,h3_6,h3_7,h3_8,h3_9)
theorem q0m(h0_0 h0_1:Bool)(h0_2 h0_3:Bool)(h0_4 h0_5:Bool)(h0_6 h0_7:Int)(h0_8 h0_9:Int)(h3_0 h3_1:Bool)(h3_2 h3_3:Bool)(h3_4 h3_5:Bool)(h3_6 h3_7:Int)(h3_8 h3_9:Int)(g1 g2 g4:Ob)(sl:Sl)(_:sl 2=.v (.c (.ptr 0 0)))(_:sl 4=.v (.c (.ptr 3 0))):
  bodyD (E0 mm) [.cell 2 37] 0 false (dn (E0 mm) 41 0 g0X sl [.cells [.d (dB h0_0),.d (dB h0_1),.d (dB h0_2),.d (dB h0_3),.d (dB h0_4),.d (dB h0_5),.d (dI h0_6),.d (dI h0_7),.d (dI h0_8),.d (dI h0_9)],g1,g2,.cells [.d (dB h3_0),.d (dB h3_1),.d (dB h3_2),.d (dB h3_3),.d (dB h3_4),.d (dB h3_5),.d (dI h3_6),.d (dI h3_7),.d (dI h3_8),.d (dI h3_9)],g4])=(e0h h0_0 h0_1 h0_2 h0_3 h0_4 h0_5 h0_6 h0_7 h0_8 h0_9 h3_0 h3_1 h3_2 h3_3 h3_4 h3_5 h3_6 h3_7 h3_8 h3_9).map e41:=by
 unfold e0h;exact go (Q (nE g0X (.seq u0m .ret)) k41) trivial
def m41(l_0:Bool)(l_1:List (Bs×Bs)):Option R41:=
 (m59 l_0 l_1).bind fun yr2=>
  (m60 false ([([110,111,45,115,116,111,114,101]:Bs)]:List Bs) yr2).bind fun yr4=>
   (m60 false ([([110,111,45,99,97,99,104,101]:Bs)]:List Bs) yr2).bind fun yr6=>
    (m60 false ([([111,110,108,121,45,105,102,45,99,97,99,104,101,100]:Bs)]:List Bs) yr2).bind fun yr8=>
     (m61 (!(hasM ([109,97,120,45,97,103,101]:Bs) yr2)) (valM ([109,97,120,45,97,103,101]:Bs) yr2)).bind fun yr10=>
      (S0z (!(hasM ([109,105,110,45,102,114,101,115,104]:Bs) yr2)) (valM ([109,105,110,45,102,114,101,115,104]:Bs) yr2)).bind fun yr12=>
       (S0A (!(hasM ([109,97,120,45,115,116,97,108,101]:Bs) yr2)) (valM ([109,97,120,45,115,116,97,108,101]:Bs) yr2) yr2).bind fun yr14=>
        (m29 l_0 l_1 ([99,97,99,104,101,45,99,111,110,116,114,111,108]:Bs)).bind fun yr16=>
         if ((yr16.2.length:Int)==0)=true then
          (m26 l_0 l_1 ([112,114,97,103,109,97]:Bs)).bind fun yr19=>
           (S0G yr19.1 yr19.2).bind fun yr21=>
            o0N false false false false false false (0:Int) (0:Int) (0:Int) (0:Int) yr4 yr21 false false false yr8 yr10 (-1:Int) yr12 yr14
         else
          e0h false false false false false false (0:Int) (0:Int) (0:Int) (0:Int) yr4 yr6 false false false yr8 yr10 (-1:Int) yr12 yr14
theorem T0R(l_0:Bool)(l_1:List (Bs×Bs)):
  callW (E0 mm) 41 [cd (.lst l_0 (enL enSS l_1))] []=(m41 l_0 l_1).map e41:=by
 rw[cR g0s [.cell 2 37] Tryz.func41]
 unfold m41;exact go k41 (Q @z0F @q0m)
noncomputable def g0P:Code:=bodyOf Tryz.f127
def D0e:=cA g0P
def D0f:=cA (cB g0P)
def s0P:=cA (cA (cB (cB g0P)))
def e0H:=cA s0P
def D0g:=cA (cA e0H)
def l0K:=cB (cA e0H)
def d0f:=cB e0H
def s0K:=cA (cA (cA d0f))
def s0L:=cA (cB (cA (cA d0f)))
def l0L:=cB (cA d0f)
def b0F:=cB (cB (cB g0P))
def s0M:=cA (cA b0F)
def s0N:=cA (cA (cB (cA b0F)))
def s0O:=cA (cB b0F)
def g0E:List (Nat×Co):=[(0,.keep),(1,.keep)]
abbrev K0d:=(Int)
def K0v(x:K0d):AV×Heap:=(vd (dI x),[])
def f0F(s0:Bs)(at1:Int):Option ((Bs×Int) ⊕ K0d):=
 some (.inl (s0,(w64 (at1+1))))
def g0z(mm:Int)(r:Option (Ex×St)):Option (AV×Heap):=bodyD (E0 mm) [.tmp 4] 0 false (sq (E0 mm) 127 0 b0F (blockD 0 (r)))
def b0M(x:(Bs×Int)):X:=(none,[vd (dS x.1),vd (dI x.2)],[])
def R0F:=Q (rx s0M) (Q (rx s0N) (Q (rx s0O) (Q (rx s0K) (Q (rx s0L) (Q @g0z.eq_1 (Q (rx D0g) (Q (rx D0e) (Q (rx D0f) (Q (fun mm=>lx (E0 mm) 127 s0P e0H g0E) (Q (nE g0P (.seq D0e (.seq D0f (.seq (.block 0 s0P) b0F)))) (Q (nE e0H (.seq (.seq D0g l0K) d0f)) (Q (nE d0f (.block 1 (.seq (.seq s0K (.cond _ s0L .skip)) l0L))) (Q @b0M.eq_1 (Q @g0E.eq_1 hA))))))))))))))
theorem v0F(s0:Bs)(at1:Int)(sl:Sl)(_:sl 0=vd (dS s0))(_:sl 1=vd (dI at1)):
  stepE (g0z mm) (loopK 0 g0E (blockD 1 (dn (E0 mm) 127 0 l0L sl [])))=(f0F s0 at1).map (sm b0M K0v):=by
 unfold f0F;exact go (Q (rx l0L) R0F) trivial
def i0J(s0:Bs)(at1:Int):Option K0d:=
 if (decide ((s0.length:Int)≤at1))=true then
  some (s0.length:Int)
 else
  some (w64 (at1+1))
theorem v0G(s0:Bs)(at1:Int)(sl:Sl)(_:sl 0=vd (dS s0))(_:sl 1=vd (dI at1)):
  bodyD (E0 mm) [.tmp 4] 0 false (dn (E0 mm) 127 0 b0F sl [])=(i0J s0 at1).map K0v:=by
 unfold i0J;exact go (Q (nE b0F (.seq (.seq s0M (.cond _ (.seq s0N .ret) .skip)) (.seq s0O .ret))) R0F) trivial
def f0E(s0:Bs)(at1:Int)(t16:Bool):Option ((Bs×Int) ⊕ K0d):=
 if t16=true then
  if 0≤at1∧at1<(s0.length:Int) then
   if ((s0.getD at1.toNat 0)==(92:UInt8))=true then
    f0F s0 (w64 (at1+1))
   else
    f0F s0 at1
  else none
 else
  (i0J s0 at1).map .inr
theorem v0E(s0:Bs)(at1:Int)(t16:Bool)(sl:Sl)(_:sl 0=vd (dS s0))(_:sl 1=vd (dI at1))(_:sl 16=vd (dB t16)):
  stepE (g0z mm) (loopK 0 g0E (sq (E0 mm) 127 0 d0f (dn (E0 mm) 127 0 l0K sl [])))=(f0E s0 at1 t16).map (sm b0M K0v):=by
 unfold f0E;exact go (Q (nE l0K (.cond _ .skip (.exit 0))) R0F) (Q @v0F @v0G)
def p0x(s0:Bs)(at1:Int):Option ((Bs×Int) ⊕ K0d):=
 if (decide (at1<(s0.length:Int)))=true then
  if 0≤at1∧at1<(s0.length:Int) then
   f0E s0 at1 (!((s0.getD at1.toNat 0)==(34:UInt8)))
  else none
 else
  f0E s0 at1 false
theorem B0w(s0:Bs)(at1:Int):
  stepE (g0z mm) (lp (E0 mm) 127 0 e0H g0E (b0M (s0,at1)))=(p0x s0 at1).map (sm b0M K0v):=by
 unfold p0x;exact go R0F @v0E
def w0H(s0:Bs)(at1:Int):Option K0d:=iter (fun x:(Bs×Int)=>p0x x.1 x.2) (s0,at1)
theorem A0J(s0:Bs)(at1:Int):(g0z mm) (itW (lp (E0 mm) 127 0 e0H g0E) (b0M (s0,at1)))=(w0H s0 at1).map K0v:=
 it_sim (K:=(g0z mm)) rfl (enc:=b0M) (fun x=>B0w x.1 x.2) (s0,at1)
def M0o(s:Bs)(xat:Int):Option K0d:=
 w0H s (w64 (xat+1))
theorem Q0F(s:Bs)(xat:Int):
  callW (E0 mm) 127 [cd (dS s),cd (dI xat)] []=(M0o s xat).map K0v:=by
 rw[cR g0P [.tmp 4] Tryz.func127]
 unfold M0o;exact go R0F @A0J
noncomputable def g0Q:Code:=bodyOf Tryz.f128
def D0h:=cA g0Q
def D0i:=cA (cB g0Q)
def s0U:=cA (cA (cB (cB g0Q)))
def e0J:=cA s0U
def D0j:=cA (cA e0J)
def l0M:=cB (cA e0J)
def i0l:=cB e0J
def s0Q:=cA i0l
def d0g:=cB (cB (cB g0Q))
def l0N:=cA (cA d0g)
def b0G:=cA l0N
def s0R:=cA (cA b0G)
def l0O:=cB (cA b0G)
def i0m:=cB b0G
def s0S:=cA i0m
def e0I:=cB d0g
def s0T:=cA e0I
def b0X:List (Nat×Co):=[(0,.keep),(3,.keep),(4,.keep)]
abbrev b128(mm:Int):=bodyD (E0 mm) [.tmp 2] 0 false
abbrev x0X:=(Bs)
def x0Z(x:x0X):AV×Heap:=(vd (dS x),[])
def f0H(s0:Bs)(from3 to4:Int):Option x0X:=
 (bnd to4 s0.length).bind fun yk10=>
  (bnd from3 yk10).bind fun yk12=>
   some ((s0.take yk10).drop yk12)
def j0p(mm:Int)(r:Option (Ex×St)):Option (AV×Heap):=b128 mm (sq (E0 mm) 128 0 d0g (blockD 0 (r)))
def d0l(x:(Bs×Int×Int)):X:=(none,[vd (dS x.1),vd (dI x.2.1),vd (dI x.2.2)],[])
def e0t(mm:Int)(r:Option (Ex×St)):Option (AV×Heap):=b128 mm (sq (E0 mm) 128 0 e0I (blockD 2 (r)))
def b0g(x:(Bs×Int×Int)):X:=(none,[vd (dS x.1),vd (dI x.2.1),vd (dI x.2.2)],[])
def K0P:=Q (rx s0T) (Q (rx s0S) (Q @e0t.eq_1 (Q (rx s0R) (Q (fun mm=>lx (E0 mm) 128 l0N b0G b0X) (Q (rx s0Q) (Q @j0p.eq_1 (Q (rx D0j) (Q (rx D0h) (Q (rx D0i) (Q (fun mm=>lx (E0 mm) 128 s0U e0J b0X) (Q (nE g0Q (.seq D0h (.seq D0i (.seq (.block 0 s0U) d0g)))) (Q (nE e0J (.seq (.seq D0j l0M) i0l)) (Q (nE i0l (.block 1 s0Q)) (Q (nE b0G (.seq (.seq s0R l0O) i0m)) (Q (nE i0m (.block 3 s0S)) (Q @d0l.eq_1 (Q @b0g.eq_1 (Q @b0X.eq_1 hA))))))))))))))))))
theorem v0K(s0:Bs)(from3 to4:Int)(sl:Sl)(_:sl 0=vd (dS s0))(_:sl 3=vd (dI from3))(_:sl 4=vd (dI to4)):
  b128 mm (dn (E0 mm) 128 0 e0I sl [])=(f0H s0 from3 to4).map x0Z:=by
 unfold f0H;exact go (Q (nE e0I (.seq s0T .ret)) K0P) trivial
def a0Z(s0:Bs)(from3 to4:Int)(t40:Bool):Option ((Bs×Int×Int) ⊕ x0X):=
 if t40=true then
  some (.inl (s0,from3,(w64 (to4 - 1))))
 else
  (f0H s0 from3 to4).map .inr
theorem v0J(s0:Bs)(from3 to4:Int)(t40:Bool)(sl:Sl)(_:sl 0=vd (dS s0))(_:sl 3=vd (dI from3))(_:sl 4=vd (dI to4))(_:sl 40=vd (dB t40)):
  stepE (e0t mm) (loopK 0 b0X (sq (E0 mm) 128 0 i0m (dn (E0 mm) 128 0 l0O sl [])))=(a0Z s0 from3 to4 t40).map (sm b0g x0Z):=by
 unfold a0Z;exact go (Q (nE l0O (.cond _ .skip (.exit 2))) K0P) @v0K
def d0z(s0:Bs)(from3 to4:Int):Option ((Bs×Int×Int) ⊕ x0X):=
 if (decide (from3<to4))=true then
  if 0≤(w64 (to4 - 1))∧(w64 (to4 - 1))<(s0.length:Int) then
   if ((s0.getD (w64 (to4 - 1)).toNat 0)==(32:UInt8))=true then
    a0Z s0 from3 to4 true
   else
    a0Z s0 from3 to4 ((s0.getD (w64 (to4 - 1)).toNat 0)==(9:UInt8))
  else none
 else
  a0Z s0 from3 to4 false
theorem x0I(s0:Bs)(from3 to4:Int):
  stepE (e0t mm) (lp (E0 mm) 128 0 b0G b0X (b0g (s0,from3,to4)))=(d0z s0 from3 to4).map (sm b0g x0Z):=by
 unfold d0z;exact go K0P @v0J
def j0e(s0:Bs)(from3 to4:Int):Option x0X:=iter (fun x:(Bs×Int×Int)=>d0z x.1 x.2.1 x.2.2) (s0,from3,to4)
theorem w0I(s0:Bs)(from3 to4:Int):(e0t mm) (itW (lp (E0 mm) 128 0 b0G b0X) (b0g (s0,from3,to4)))=(j0e s0 from3 to4).map x0Z:=
 it_sim (K:=(e0t mm)) rfl (enc:=b0g) (fun x=>x0I x.1 x.2.1 x.2.2) (s0,from3,to4)
def f0G(s0:Bs)(from3 to4:Int):Option x0X:=
 j0e s0 from3 to4
theorem v0I(s0:Bs)(from3 to4:Int)(sl:Sl)(_:sl 0=vd (dS s0))(_:sl 3=vd (dI from3))(_:sl 4=vd (dI to4)):
  b128 mm (dn (E0 mm) 128 0 d0g sl [])=(f0G s0 from3 to4).map x0Z:=by
 unfold f0G;exact go (Q (nE d0g (.seq (.block 2 l0N) e0I)) K0P) @w0I
def a0Y(s0:Bs)(from3 to4:Int)(t21:Bool):Option ((Bs×Int×Int) ⊕ x0X):=
 if t21=true then
  some (.inl (s0,(w64 (from3+1)),to4))
 else
  (f0G s0 from3 to4).map .inr
theorem v0H(s0:Bs)(from3 to4:Int)(t21:Bool)(sl:Sl)(_:sl 0=vd (dS s0))(_:sl 3=vd (dI from3))(_:sl 4=vd (dI to4))(_:sl 21=vd (dB t21)):
  stepE (j0p mm) (loopK 0 b0X (sq (E0 mm) 128 0 i0l (dn (E0 mm) 128 0 l0M sl [])))=(a0Y s0 from3 to4 t21).map (sm d0l x0Z):=by
 unfold a0Y;exact go (Q (nE l0M (.cond _ .skip (.exit 0))) K0P) @v0I
def l0n(s0:Bs)(from3 to4:Int):Option ((Bs×Int×Int) ⊕ x0X):=
 if (decide (from3<to4))=true then
  if 0≤from3∧from3<(s0.length:Int) then
   if ((s0.getD from3.toNat 0)==(32:UInt8))=true then
    a0Y s0 from3 to4 true
   else
    a0Y s0 from3 to4 ((s0.getD from3.toNat 0)==(9:UInt8))
  else none
 else
  a0Y s0 from3 to4 false
theorem B0x(s0:Bs)(from3 to4:Int):
  stepE (j0p mm) (lp (E0 mm) 128 0 e0J b0X (d0l (s0,from3,to4)))=(l0n s0 from3 to4).map (sm d0l x0Z):=by
 unfold l0n;exact go K0P @v0H
def w0J(s0:Bs)(from3 to4:Int):Option x0X:=iter (fun x:(Bs×Int×Int)=>l0n x.1 x.2.1 x.2.2) (s0,from3,to4)
theorem A0K(s0:Bs)(from3 to4:Int):(j0p mm) (itW (lp (E0 mm) 128 0 e0J b0X) (d0l (s0,from3,to4)))=(w0J s0 from3 to4).map x0Z:=
 it_sim (K:=(j0p mm)) rfl (enc:=d0l) (fun x=>B0x x.1 x.2.1 x.2.2) (s0,from3,to4)
def S0c(s:Bs):Option x0X:=
 w0J s (0:Int) (s.length:Int)
theorem Q0G(s:Bs):
  callW (E0 mm) 128 [cd (dS s)] []=(S0c s).map x0Z:=by
 rw[cR g0Q [.tmp 2] Tryz.func128]
 unfold S0c;exact go K0P @A0K
noncomputable def k0A:Code:=bodyOf Tryz.f96
def P0V:=cA k0A
def P0W:=cA (cB k0A)
def P0X:=cA (cB (cB k0A))
def P0Y:=cA (cA (cB (cB (cB k0A))))
def u0O:=cA (cB (cA (cB (cB (cB k0A)))))
def d0U:=cA u0O
def I0W:=cA (cA d0U)
def I0X:=cA (cA (cA (cB d0U)))
def o0D:=cB (cA (cA (cB d0U)))
def I0Y:=cA (cA o0D)
def h0h:=cB (cA (cB d0U))
def I0Z:=cA (cA h0h)
def f0i:=cB (cA h0h)
def J0a:=cA (cA f0i)
def J0b:=cA (cA (cB (cA f0i)))
def J0c:=cA (cB (cA (cB (cA f0i))))
def u0P:=cB (cB (cA f0i))
def k0B:=cB h0h
def k0C:=cB (cB (cB (cB k0A)))
def J0d:=cA k0C
def j0F:List (Nat×Co):=[(0,.keep),(3,.own),(4,.keep),(5,.keep)]
abbrev R96:=(Bool×List Bs)
def e96(x:R96):AV×Heap:=(.v (.c (.own x.1 (enL enS x.2) 0)),[.row x.2.length (rz x.1 1)])
def h0C(s0:Bs)(l3_0:Bool)(l3_1:List Bs)(from4 at5:Int):Option ((Bs×Bool×List Bs×Int×Int) ⊕ R96):=
 some (.inl (s0,l3_0,l3_1,from4,(w64 (at5+1))))
def d0D(mm:Int)(r:Option (Ex×St)):Option (AV×Heap):=bodyD (E0 mm) [.tmp 2] 0 false (sq (E0 mm) 96 0 k0C (blockD 0 (r)))
def a0E(x:(Bs×Bool×List Bs×Int×Int)):X:=(none,[vd (dS x.1),.v (.c (.own x.2.1 (enL enS x.2.2.1) 0)),vd (dI x.2.2.2.1),vd (dI x.2.2.2.2)],[.row x.2.2.1.length (rz x.2.1 1)])
def k96:=Q (rx J0a) (Q @ent128 (Q @prm128 (Q @Q0G (Q @x0Z.eq_1 (Q (rx J0b) (Q (rx J0c) (Q @hd67 (Q @nv68 (Q @rw69 (Q (rx I0Y) (Q @ent127 (Q @prm127 (Q @Q0F (Q @K0v.eq_1 (Q (rx I0Z) (Q (rx J0d) (Q (rx I0W) (Q (rx I0X) (Q @d0D.eq_1 (Q (rx P0V) (Q (rx P0W) (Q (rx P0X) (Q (rx P0Y) (Q (fun mm=>lx (E0 mm) 96 u0O d0U j0F) (Q (nE k0A (.seq P0V (.seq P0W (.seq P0X (.seq (.seq P0Y (.block 0 u0O)) k0C))))) (Q (nE d0U (.seq (.seq I0W (.cond _ .skip (.exit 0))) (.block 1 (.seq (.seq I0X o0D) h0h)))) (Q (nE h0h (.seq (.seq I0Z f0i) k0B)) (Q @a0E.eq_1 (Q @j0F.eq_1 hA)))))))))))))))))))))))))))))
theorem p0l(s0:Bs)(l3_0:Bool)(l3_1:List Bs)(from4 at5:Int)(sl:Sl)(_:sl 0=vd (dS s0))(_:sl 3=.v (.c (.own l3_0 (enL enS l3_1) 0)))(_:sl 4=vd (dI from4))(_:sl 5=vd (dI at5)):
  stepE (d0D mm) (loopK 0 j0F (blockD 1 (dn (E0 mm) 96 0 k0B sl [.row l3_1.length (rz l3_0 1)])))=(h0C s0 l3_0 l3_1 from4 at5).map (sm a0E e96):=by
 unfold h0C;exact go (Q (rx k0B) k96) trivial
def l0f(s0:Bs)(l3_0:Bool)(l3_1:List Bs)(at5:Int):Option ((Bs×Bool×List Bs×Int×Int) ⊕ R96):=
 h0C s0 l3_0 l3_1 (w64 (at5+1)) at5
theorem A0z(s0:Bs)(l3_0:Bool)(l3_1:List Bs)(at5:Int)(sl:Sl)(_:sl 0=vd (dS s0))(_:sl 3=.v (.c (.own l3_0 (enL enS l3_1) 0)))(_:sl 5=vd (dI at5)):
  stepE (d0D mm) (loopK 0 j0F (blockD 1 (sq (E0 mm) 96 0 k0B (dn (E0 mm) 96 0 u0P sl [.row l3_1.length (rz l3_0 1)]))))=(l0f s0 l3_0 l3_1 at5).map (sm a0E e96):=by
 unfold l0f;exact go (Q (rx u0P) k96) @p0l
def f0U(s0:Bs)(l3_0:Bool)(l3_1:List Bs)(from4 at5:Int)(t33:Bool):Option ((Bs×Bool×List Bs×Int×Int) ⊕ R96):=
 if t33=true then
  (bnd at5 s0.length).bind fun yk10=>
   (bnd from4 yk10).bind fun yk12=>
    (S0c ((s0.take yk10).drop yk12)).bind fun yr14=>
     if (yr14==([]:Bs))=true then
      l0f s0 l3_0 l3_1 at5
     else
      if (l3_1.length+1)*16≤140737488355328 then
       l0f s0 false (l3_1++([yr14]:List Bs)) at5
      else none
 else
  h0C s0 l3_0 l3_1 from4 at5
theorem A0y(s0:Bs)(l3_0:Bool)(l3_1:List Bs)(from4 at5:Int)(t33:Bool)(sl:Sl)(_:sl 0=vd (dS s0))(_:sl 3=.v (.c (.own l3_0 (enL enS l3_1) 0)))(_:sl 4=vd (dI from4))(_:sl 5=vd (dI at5))(_:sl 33=vd (dB t33)):
  stepE (d0D mm) (loopK 0 j0F (blockD 1 (sq (E0 mm) 96 0 k0B (dn (E0 mm) 96 0 f0i sl [.row l3_1.length (rz l3_0 1)]))))=(f0U s0 l3_0 l3_1 from4 at5 t33).map (sm a0E e96):=by
 unfold f0U;exact go (Q (nE f0i (.cond _ (.seq J0a (.seq (.seq J0b (.cond _ J0c .skip)) u0P)) .skip)) k96) (Q @A0z @p0l)
def h0B(s0:Bs)(l3_0:Bool)(l3_1:List Bs)(from4 at5:Int)(t20:Bool):Option ((Bs×Bool×List Bs×Int×Int) ⊕ R96):=
 if t20=true then
  (M0o s0 at5).bind fun yr6=>
   some (.inl (s0,l3_0,l3_1,from4,yr6))
 else
  if (at5==(s0.length:Int))=true then
   f0U s0 l3_0 l3_1 from4 at5 true
  else
   if 0≤at5∧at5<(s0.length:Int) then
    f0U s0 l3_0 l3_1 from4 at5 ((s0.getD at5.toNat 0)==(44:UInt8))
   else none
theorem A0x(s0:Bs)(l3_0:Bool)(l3_1:List Bs)(from4 at5:Int)(t20:Bool)(sl:Sl)(_:sl 0=vd (dS s0))(_:sl 3=.v (.c (.own l3_0 (enL enS l3_1) 0)))(_:sl 4=vd (dI from4))(_:sl 5=vd (dI at5))(_:sl 20=vd (dB t20)):
  stepE (d0D mm) (loopK 0 j0F (blockD 1 (sq (E0 mm) 96 0 h0h (dn (E0 mm) 96 0 o0D sl [.row l3_1.length (rz l3_0 1)]))))=(h0B s0 l3_0 l3_1 from4 at5 t20).map (sm a0E e96):=by
 unfold h0B;exact go (Q (nE o0D (.cond _ (.seq I0Y (.exit 1)) .skip)) k96) @A0y
def p0m(l3_0:Bool)(l3_1:List Bs):Option R96:=
 some (l3_0,l3_1)
theorem A0A(l3_0:Bool)(l3_1:List Bs)(sl:Sl)(_:sl 3=.v (.c (.own l3_0 (enL enS l3_1) 0))):
  bodyD (E0 mm) [.tmp 2] 0 false (dn (E0 mm) 96 0 k0C sl [.row l3_1.length (rz l3_0 1)])=(p0m l3_0 l3_1).map e96:=by
 unfold p0m;exact go (Q (nE k0C (.seq J0d .ret)) k96) trivial
def p0z(s0:Bs)(l3_0:Bool)(l3_1:List Bs)(from4 at5:Int):Option ((Bs×Bool×List Bs×Int×Int) ⊕ R96):=
 if (decide (at5≤(s0.length:Int)))=true then
  if (decide (at5<(s0.length:Int)))=true then
   if 0≤at5∧at5<(s0.length:Int) then
    h0B s0 l3_0 l3_1 from4 at5 ((s0.getD at5.toNat 0)==(34:UInt8))
   else none
  else
   h0B s0 l3_0 l3_1 from4 at5 false
 else
  (p0m l3_0 l3_1).map .inr
theorem B0U(s0:Bs)(l3_0:Bool)(l3_1:List Bs)(from4 at5:Int):
  stepE (d0D mm) (lp (E0 mm) 96 0 d0U j0F (a0E (s0,l3_0,l3_1,from4,at5)))=(p0z s0 l3_0 l3_1 from4 at5).map (sm a0E e96):=by
 unfold p0z;exact go k96 (Q @A0x @A0A)
def x0a(s0:Bs)(l3_0:Bool)(l3_1:List Bs)(from4 at5:Int):Option R96:=iter (fun x:(Bs×Bool×List Bs×Int×Int)=>p0z x.1 x.2.1 x.2.2.1 x.2.2.2.1 x.2.2.2.2) (s0,l3_0,l3_1,from4,at5)
theorem B0h(s0:Bs)(l3_0:Bool)(l3_1:List Bs)(from4 at5:Int):(d0D mm) (itW (lp (E0 mm) 96 0 d0U j0F) (a0E (s0,l3_0,l3_1,from4,at5)))=(x0a s0 l3_0 l3_1 from4 at5).map e96:=
 it_sim (K:=(d0D mm)) rfl (enc:=a0E) (fun x=>B0U x.1 x.2.1 x.2.2.1 x.2.2.2.1 x.2.2.2.2) (s0,l3_0,l3_1,from4,at5)
def m96(s:Bs):Option R96:=
 x0a s true ([]:List Bs) (0:Int) (0:Int)
theorem U0s(s:Bs):
  callW (E0 mm) 96 [cd (dS s)] []=(m96 s).map e96:=by
 rw[cR k0A [.tmp 2] Tryz.func96]
 unfold m96;exact go k96 @B0h
noncomputable def m0d:Code:=bodyOf Tryz.f49
def N0V:=cA m0d
def N0W:=cA (cB m0d)
def N0X:=cA (cA (cB (cB m0d)))
def K0m:=cA (cB (cA (cB (cB m0d))))
def k0g:=cA K0m
def H0j:=cA (cA k0g)
def H0k:=cA (cA (cA (cB k0g)))
def H0l:=cA (cB (cA (cA (cB k0g))))
def k0e:=cB (cB k0g)
def k0f:=cB (cB (cB m0d))
def H0m:=cA k0f
def p0G:List (Nat×Co):=[(0,.keep),(1,.keep),(5,.own),(6,.keep)]
abbrev R49:=(Bool×List Bs)
def e49(x:R49):AV×Heap:=(.v (.c (.own x.1 (enL enS x.2) 0)),[.row x.2.length (rz x.1 1)])
def o0U(l0_0:Bool)(l0_1:List (Bs×Bs))(name1:Bs)(out5_0:Bool)(out5_1:List Bs)(i6:Int):Option ((Bool×List (Bs×Bs)×Bs×Bool×List Bs×Int) ⊕ R49):=
 some (.inl (l0_0,l0_1,name1,out5_0,out5_1,(w64 (i6+1))))
def p0A(mm:Int)(r:Option (Ex×St)):Option (AV×Heap):=bodyD (E0 mm) [.tmp 4] 0 false (sq (E0 mm) 49 0 k0f (blockD 0 (r)))
def f0r(x:(Bool×List (Bs×Bs)×Bs×Bool×List Bs×Int)):X:=(none,[vd (.lst x.1 (enL enSS x.2.1)),vd (dS x.2.2.1),.v (.c (.own x.2.2.2.1 (enL enS x.2.2.2.2.1) 0)),vd (dI x.2.2.2.2.2)],[.row x.2.2.2.2.1.length (rz x.2.2.2.1 1)])
def k49:=Q (rx H0m) (Q (rx H0j) (Q (rx H0k) (Q @v0g (Q @e95.eq_1 (Q (rx H0l) (Q @ent96 (Q @prm96 (Q @U0s (Q @e96.eq_1 (Q @hd70 (Q @p0A.eq_1 (Q (rx N0V) (Q (rx N0W) (Q (rx N0X) (Q (fun mm=>lx (E0 mm) 49 K0m k0g p0G) (Q (nE m0d (.seq N0V (.seq N0W (.seq (.seq N0X (.block 0 K0m)) k0f)))) (Q (nE k0g (.seq (.seq H0j (.cond _ .skip (.exit 0))) (.seq (.block 1 (.seq H0k (.cond _ H0l .skip))) k0e))) (Q @f0r.eq_1 (Q @p0G.eq_1 hA)))))))))))))))))))
theorem z0R(l0_0:Bool)(l0_1:List (Bs×Bs))(name1:Bs)(out5_0:Bool)(out5_1:List Bs)(i6:Int)(g1:Ob)(sl:Sl)(_:sl 0=vd (.lst l0_0 (enL enSS l0_1)))(_:sl 1=vd (dS name1))(_:sl 5=.v (.c (.own out5_0 (enL enS out5_1) 0)))(_:sl 6=vd (dI i6)):
  stepE (p0A mm) (loopK 0 p0G (dn (E0 mm) 49 0 k0e sl [.row out5_1.length (rz out5_0 1),g1]))=(o0U l0_0 l0_1 name1 out5_0 out5_1 i6).map (sm f0r e49):=by
 unfold o0U;exact go (Q (rx k0e) k49) trivial
def e0i(l0_0:Bool)(l0_1:List (Bs×Bs))(name1:Bs)(out5_0:Bool)(out5_1:List Bs)(i6:Int):Option ((Bool×List (Bs×Bs)×Bs×Bool×List Bs×Int) ⊕ R49):=
 some (.inl (l0_0,l0_1,name1,out5_0,out5_1,(w64 (i6+1))))
theorem q0n(l0_0:Bool)(l0_1:List (Bs×Bs))(name1:Bs)(out5_0:Bool)(out5_1:List Bs)(i6:Int)(sl:Sl)(_:sl 0=vd (.lst l0_0 (enL enSS l0_1)))(_:sl 1=vd (dS name1))(_:sl 5=.v (.c (.own out5_0 (enL enS out5_1) 0)))(_:sl 6=vd (dI i6)):
  stepE (p0A mm) (loopK 0 p0G (dn (E0 mm) 49 0 k0e sl [.row out5_1.length (rz out5_0 1)]))=(e0i l0_0 l0_1 name1 out5_0 out5_1 i6).map (sm f0r e49):=by
 unfold e0i;exact go (Q (rx k0e) k49) trivial
def o0V(out5_0:Bool)(out5_1:List Bs):Option R49:=
 some (out5_0,out5_1)
theorem z0S(out5_0:Bool)(out5_1:List Bs)(sl:Sl)(_:sl 5=.v (.c (.own out5_0 (enL enS out5_1) 0))):
  bodyD (E0 mm) [.tmp 4] 0 false (dn (E0 mm) 49 0 k0f sl [.row out5_1.length (rz out5_0 1)])=(o0V out5_0 out5_1).map e49:=by
 unfold o0V;exact go (Q (nE k0f (.seq H0m .ret)) k49) trivial
def q0z(l0_0:Bool)(l0_1:List (Bs×Bs))(name1:Bs)(out5_0:Bool)(out5_1:List Bs)(i6:Int):Option ((Bool×List (Bs×Bs)×Bs×Bool×List Bs×Int) ⊕ R49):=
 if (decide (i6<(l0_1.length:Int)))=true then
  if 0≤i6∧i6<(l0_1.length:Int) then
   (m95 ((l0_1.getD i6.toNat default).1) name1).bind fun yr5=>
    if yr5=true then
     (m96 ((l0_1.getD i6.toNat default).2)).bind fun yr8=>
      if yr8.2=[]∨(out5_1.length+yr8.2.length)*16≤140737488355328 then
       o0U l0_0 l0_1 name1 (out5_0&&yr8.2.isEmpty) (out5_1++yr8.2) i6
      else none
    else
     e0i l0_0 l0_1 name1 out5_0 out5_1 i6
  else none
 else
  (o0V out5_0 out5_1).map .inr
theorem L0X(l0_0:Bool)(l0_1:List (Bs×Bs))(name1:Bs)(out5_0:Bool)(out5_1:List Bs)(i6:Int):
  stepE (p0A mm) (lp (E0 mm) 49 0 k0g p0G (f0r (l0_0,l0_1,name1,out5_0,out5_1,i6)))=(q0z l0_0 l0_1 name1 out5_0 out5_1 i6).map (sm f0r e49):=by
 unfold q0z;exact go k49 (Q @z0R (Q @q0n @z0S))
def R0N(l0_0:Bool)(l0_1:List (Bs×Bs))(name1:Bs)(out5_0:Bool)(out5_1:List Bs)(i6:Int):Option R49:=iter (fun x:(Bool×List (Bs×Bs)×Bs×Bool×List Bs×Int)=>q0z x.1 x.2.1 x.2.2.1 x.2.2.2.1 x.2.2.2.2.1 x.2.2.2.2.2) (l0_0,l0_1,name1,out5_0,out5_1,i6)
theorem K0X(l0_0:Bool)(l0_1:List (Bs×Bs))(name1:Bs)(out5_0:Bool)(out5_1:List Bs)(i6:Int):(p0A mm) (itW (lp (E0 mm) 49 0 k0g p0G) (f0r (l0_0,l0_1,name1,out5_0,out5_1,i6)))=(R0N l0_0 l0_1 name1 out5_0 out5_1 i6).map e49:=
 it_sim (K:=(p0A mm)) rfl (enc:=f0r) (fun x=>L0X x.1 x.2.1 x.2.2.1 x.2.2.2.1 x.2.2.2.2.1 x.2.2.2.2.2) (l0_0,l0_1,name1,out5_0,out5_1,i6)
def m49(l_0:Bool)(l_1:List (Bs×Bs))(name:Bs):Option R49:=
 R0N l_0 l_1 name true ([]:List Bs) (0:Int)
theorem i0C(l_0:Bool)(l_1:List (Bs×Bs))(name:Bs):
  callW (E0 mm) 49 [cd (.lst l_0 (enL enSS l_1)),cd (dS name)] []=(m49 l_0 l_1 name).map e49:=by
 rw[cR m0d [.tmp 4] Tryz.func49]
 unfold m49;exact go k49 @K0X
noncomputable def e0D:Code:=bodyOf Tryz.f125
def C0Y:=cA e0D
def C0Z:=cA (cB e0D)
def D0a:=cA (cA (cB (cB e0D)))
def s0x:=cA (cB (cA (cB (cB e0D))))
def c0d:=cA s0x
def s0o:=cA (cA c0d)
def s0p:=cA (cA (cA (cB c0d)))
def s0q:=cA (cB (cA (cA (cB c0d))))
def d0b:=cB (cB (cA (cA (cB c0d))))
def s0r:=cA (cA d0b)
def l0G:=cA (cB (cA d0b))
def b0B:=cA l0G
def s0s:=cA (cA b0B)
def s0t:=cA (cA (cB b0B))
def l0H:=cB (cB b0B)
def d0c:=cB d0b
def s0u:=cA d0c
def s0v:=cA (cA (cB d0c))
def e0E:=cB (cB c0d)
def e0F:=cB (cB (cB e0D))
def s0w:=cA e0F
def e0y:List (Nat×Co):=[(0,.keep),(3,.keep),(4,.keep)]
def j0A:List (Nat×Co):=[(0,.keep),(3,.keep),(4,.keep),(5,.keep),(6,.keep),(7,.keep)]
abbrev x0W:=(Bool)
def x0Y(x:x0W):AV×Heap:=(vd (dB x),[])
def f0C(s0 signs3:Bs)(i4:Int)(c5:UInt8)(is6:Bool)(k7:Int):Option ((Bs×Bs×Int×UInt8×Bool×Int) ⊕ ((Bs×Bs×Int) ⊕ x0W)):=
 some (.inl (s0,signs3,i4,c5,is6,(w64 (k7+1))))
def e0s(mm:Int)(r:Option (Ex×St)):Option (AV×Heap):=bodyD (E0 mm) [.tmp 2] 0 false (sq (E0 mm) 125 0 e0F (blockD 0 (r)))
def a0w(x:(Bs×Bs×Int)):X:=(none,[vd (dS x.1),vd (dS x.2.1),vd (dI x.2.2)],[])
def e0r(mm:Int)(r:Option (Ex×St)):Option (X ⊕ (AV×Heap)):=stepE (e0s mm) (loopK 0 e0y (sq (E0 mm) 125 0 e0E (blockD 1 (sq (E0 mm) 125 0 d0c (blockD 2 (r))))))
def b0f(x:(Bs×Bs×Int×UInt8×Bool×Int)):X:=(none,[vd (dS x.1),vd (dS x.2.1),vd (dI x.2.2.1),vd (.sc (.int .u8 ((x.2.2.2.1).toNat:Int))),vd (dB x.2.2.2.2.1),vd (dI x.2.2.2.2.2)],[])
def K0N:=Q (rx s0u) (Q (rx e0E) (Q (rx s0v) (Q @e0s.eq_1 (Q (rx s0s) (Q (rx s0t) (Q @e0r.eq_1 (Q (rx s0r) (Q (fun mm=>lx (E0 mm) 125 l0G b0B j0A) (Q (rx s0w) (Q (rx s0o) (Q (rx s0p) (Q (rx s0q) (Q (rx C0Y) (Q (rx C0Z) (Q (rx D0a) (Q (fun mm=>lx (E0 mm) 125 s0x c0d e0y) (Q (nE e0D (.seq C0Y (.seq C0Z (.seq (.seq D0a (.block 0 s0x)) e0F)))) (Q (nE c0d (.seq (.seq s0o (.cond _ .skip (.exit 0))) (.seq (.block 1 (.seq s0p (.seq s0q d0b))) e0E))) (Q (nE b0B (.seq (.seq s0s (.cond _ .skip (.exit 2))) (.seq (.block 3 s0t) l0H))) (Q @a0w.eq_1 (Q @b0f.eq_1 (Q @e0y.eq_1 (Q @j0A.eq_1 hA)))))))))))))))))))))))
theorem v0x(s0 signs3:Bs)(i4:Int)(c5:UInt8)(is6:Bool)(k7:Int)(sl:Sl)(_:sl 0=vd (dS s0))(_:sl 3=vd (dS signs3))(_:sl 4=vd (dI i4))(_:sl 5=vd (.sc (.int .u8 ((c5).toNat:Int))))(_:sl 6=vd (dB is6))(_:sl 7=vd (dI k7)):
  stepE (e0r mm) (loopK 0 j0A (dn (E0 mm) 125 0 l0H sl []))=(f0C s0 signs3 i4 c5 is6 k7).map (sm b0f (sm a0w x0Y)):=by
 unfold f0C;exact go (Q (rx l0H) K0N) trivial
def b0U(s0 signs3:Bs)(i4:Int)(is6:Bool):Option ((Bs×Bs×Int) ⊕ x0W):=
 if is6=true then
  some (.inl (s0,signs3,(w64 (i4+1))))
 else
  some (.inr false)
theorem v0y(s0 signs3:Bs)(i4:Int)(is6:Bool)(sl:Sl)(_:sl 0=vd (dS s0))(_:sl 3=vd (dS signs3))(_:sl 4=vd (dI i4))(_:sl 6=vd (dB is6)):
  stepE (e0s mm) (loopK 0 e0y (sq (E0 mm) 125 0 e0E (blockD 1 (dn (E0 mm) 125 0 d0c sl []))))=(b0U s0 signs3 i4 is6).map (sm a0w x0Y):=by
 unfold b0U;exact go (Q (nE d0c (.seq s0u (.cond _ (.seq s0v .ret) .skip))) K0N) trivial
def j0j(s0 signs3:Bs)(i4:Int)(c5:UInt8)(is6:Bool)(k7:Int):Option ((Bs×Bs×Int×UInt8×Bool×Int) ⊕ ((Bs×Bs×Int) ⊕ x0W)):=
 if (decide (k7<(signs3.length:Int)))=true then
  if is6=true then
   f0C s0 signs3 i4 c5 true k7
  else
   if 0≤k7∧k7<(signs3.length:Int) then
    f0C s0 signs3 i4 c5 ((signs3.getD k7.toNat 0)==c5) k7
   else none
 else
  (b0U s0 signs3 i4 is6).map .inr
theorem x0G(s0 signs3:Bs)(i4:Int)(c5:UInt8)(is6:Bool)(k7:Int):
  stepE (e0r mm) (lp (E0 mm) 125 0 b0B j0A (b0f (s0,signs3,i4,c5,is6,k7)))=(j0j s0 signs3 i4 c5 is6 k7).map (sm b0f (sm a0w x0Y)):=by
 unfold j0j;exact go K0N (Q @v0x @v0y)
def j0d(s0 signs3:Bs)(i4:Int)(c5:UInt8)(is6:Bool)(k7:Int):Option ((Bs×Bs×Int) ⊕ x0W):=iter (fun x:(Bs×Bs×Int×UInt8×Bool×Int)=>j0j x.1 x.2.1 x.2.2.1 x.2.2.2.1 x.2.2.2.2.1 x.2.2.2.2.2) (s0,signs3,i4,c5,is6,k7)
theorem w0E(s0 signs3:Bs)(i4:Int)(c5:UInt8)(is6:Bool)(k7:Int):(e0r mm) (itW (lp (E0 mm) 125 0 b0B j0A) (b0f (s0,signs3,i4,c5,is6,k7)))=(j0d s0 signs3 i4 c5 is6 k7).map (sm a0w x0Y):=
 it_sim (K:=(e0r mm)) rfl (enc:=b0f) (fun x=>x0G x.1 x.2.1 x.2.2.1 x.2.2.2.1 x.2.2.2.2.1 x.2.2.2.2.2) (s0,signs3,i4,c5,is6,k7)
def a0l(s0 signs3:Bs)(i4:Int)(c5:UInt8)(is6:Bool):Option ((Bs×Bs×Int) ⊕ x0W):=
 j0d s0 signs3 i4 c5 is6 (0:Int)
theorem v0w(s0 signs3:Bs)(i4:Int)(c5:UInt8)(is6:Bool)(sl:Sl)(_:sl 0=vd (dS s0))(_:sl 3=vd (dS signs3))(_:sl 4=vd (dI i4))(_:sl 5=vd (.sc (.int .u8 ((c5).toNat:Int))))(_:sl 6=vd (dB is6)):
  stepE (e0s mm) (loopK 0 e0y (sq (E0 mm) 125 0 e0E (blockD 1 (dn (E0 mm) 125 0 d0b sl []))))=(a0l s0 signs3 i4 c5 is6).map (sm a0w x0Y):=by
 unfold a0l;exact go (Q (nE d0b (.seq (.seq s0r (.block 2 l0G)) d0c)) K0N) @w0E
def i0I(s0:Bs):Option x0W:=
 some (decide (0<(s0.length:Int)))
theorem v0z(s0:Bs)(sl:Sl)(_:sl 0=vd (dS s0)):
  bodyD (E0 mm) [.tmp 2] 0 false (dn (E0 mm) 125 0 e0F sl [])=(i0I s0).map x0Y:=by
 unfold i0I;exact go (Q (nE e0F (.seq s0w .ret)) K0N) trivial
def g0e(s0 signs3:Bs)(i4:Int):Option ((Bs×Bs×Int) ⊕ x0W):=
 if (decide (i4<(s0.length:Int)))=true then
  if 0≤i4∧i4<(s0.length:Int) then
   if (decide ((97:UInt8)≤(s0.getD i4.toNat 0)))=true then
    if (decide ((s0.getD i4.toNat 0)≤(122:UInt8)))=true then
     a0l s0 signs3 i4 (s0.getD i4.toNat 0) true
    else
     if (decide ((65:UInt8)≤(s0.getD i4.toNat 0)))=true then
      if (decide ((s0.getD i4.toNat 0)≤(90:UInt8)))=true then
       a0l s0 signs3 i4 (s0.getD i4.toNat 0) true
      else
       if (decide ((48:UInt8)≤(s0.getD i4.toNat 0)))=true then
        a0l s0 signs3 i4 (s0.getD i4.toNat 0) (decide ((s0.getD i4.toNat 0)≤(57:UInt8)))
       else
        a0l s0 signs3 i4 (s0.getD i4.toNat 0) false
     else
      if (decide ((48:UInt8)≤(s0.getD i4.toNat 0)))=true then
       a0l s0 signs3 i4 (s0.getD i4.toNat 0) (decide ((s0.getD i4.toNat 0)≤(57:UInt8)))
      else
       a0l s0 signs3 i4 (s0.getD i4.toNat 0) false
   else
    if (decide ((65:UInt8)≤(s0.getD i4.toNat 0)))=true then
     if (decide ((s0.getD i4.toNat 0)≤(90:UInt8)))=true then
      a0l s0 signs3 i4 (s0.getD i4.toNat 0) true
     else
      if (decide ((48:UInt8)≤(s0.getD i4.toNat 0)))=true then
       a0l s0 signs3 i4 (s0.getD i4.toNat 0) (decide ((s0.getD i4.toNat 0)≤(57:UInt8)))
      else
       a0l s0 signs3 i4 (s0.getD i4.toNat 0) false
    else
     if (decide ((48:UInt8)≤(s0.getD i4.toNat 0)))=true then
      a0l s0 signs3 i4 (s0.getD i4.toNat 0) (decide ((s0.getD i4.toNat 0)≤(57:UInt8)))
     else
      a0l s0 signs3 i4 (s0.getD i4.toNat 0) false
  else none
 else
  (i0I s0).map .inr
theorem B0v(s0 signs3:Bs)(i4:Int):
  stepE (e0s mm) (lp (E0 mm) 125 0 c0d e0y (a0w (s0,signs3,i4)))=(g0e s0 signs3 i4).map (sm a0w x0Y):=by
 unfold g0e;exact go K0N (Q @v0w @v0z)
def w0F(s0 signs3:Bs)(i4:Int):Option x0W:=iter (fun x:(Bs×Bs×Int)=>g0e x.1 x.2.1 x.2.2) (s0,signs3,i4)
theorem A0I(s0 signs3:Bs)(i4:Int):(e0s mm) (itW (lp (E0 mm) 125 0 c0d e0y) (a0w (s0,signs3,i4)))=(w0F s0 signs3 i4).map x0Y:=
 it_sim (K:=(e0s mm)) rfl (enc:=a0w) (fun x=>B0v x.1 x.2.1 x.2.2) (s0,signs3,i4)
def M0n(s:Bs):Option x0W:=
 w0F s ([33,35,36,37,38,39,42,43,45,46,94,95,96,124,126]:Bs) (0:Int)
theorem Q0D(s:Bs):
  callW (E0 mm) 125 [cd (dS s)] []=(M0n s).map x0Y:=by
 rw[cR e0D [.tmp 2] Tryz.func125]
 unfold M0n;exact go K0N @A0I
noncomputable def n0S:Code:=bodyOf Tryz.f148
def E0t:=cA n0S
def E0u:=cA (cB n0S)
abbrev V0d:=(Bool)
def V0M(x:V0d):AV×Heap:=(vd (dB x),[])
def T0l(c:UInt8):Option V0d:=
 if (c==(9:UInt8))=true then
  some true
 else
  if (decide ((32:UInt8)≤c))=true then
   if (decide (c≤(126:UInt8)))=true then
    some true
   else
    some (decide ((128:UInt8)≤c))
  else
   some (decide ((128:UInt8)≤c))
def W0B:=Q (rx E0t) (Q (rx E0u) (Q (nE n0S (.seq E0t (.seq E0u .ret))) hA))
theorem Q0T(c:UInt8):
  callW (E0 mm) 148 [cd (.sc (.int .u8 ((c).toNat:Int)))] []=(T0l c).map V0M:=by
 rw[cR n0S [.tmp 2] Tryz.func148]
 unfold T0l;exact go W0B trivial
noncomputable def g0O:Code:=bodyOf Tryz.f126
def D0b:=cA g0O
def D0c:=cA (cA (cB g0O))
def n0E:=cB (cA (cB g0O))
def D0d:=cA (cA n0E)
def b0C:=cB (cB g0O)
def s0y:=cA b0C
def s0z:=cA (cB b0C)
def l0I:=cA (cA (cB (cB b0C)))
def b0D:=cA l0I
def s0A:=cA (cA b0D)
def l0J:=cB (cA b0D)
def d0d:=cB b0D
def s0B:=cA (cA (cA d0d))
def s0C:=cA (cB (cA (cA d0d)))
def d0e:=cB (cA d0d)
def s0D:=cA (cA d0e)
def i0k:=cB (cA d0e)
def s0E:=cA (cA i0k)
def e0G:=cB d0e
def s0F:=cA e0G
def s0G:=cB e0G
def b0E:=cB (cB (cB b0C))
def s0H:=cA (cA b0E)
def s0I:=cA (cA (cB (cA b0E)))
def s0J:=cA (cB b0E)
def e0z:List (Nat×Co):=[(0,.keep),(4,.own),(5,.keep)]
abbrev b126(mm:Int):=bodyD (E0 mm) [.tmp 2,.tmp 3] 0 false
abbrev y0r:=(Bs×Bool)
def y0X(x:y0r):AV×Heap:=(.tup [cd (dS x.1),cd (dB x.2)],[])
def d0x(s0:Bs)(b4_0:Bool)(b4_1:List UInt8)(at5:Int)(t40:Bool):Option ((Bs×Bool×List UInt8×Int) ⊕ y0r):=
 if t40=true then
  some (.inr (([]:Bs),false))
 else
  if 0≤at5∧at5<(s0.length:Int) then
   if (b4_1.length+1)*1≤140737488355328 then
    some (.inl (s0,false,(b4_1++([(s0.getD at5.toNat 0)]:List UInt8)),(w64 (at5+1))))
   else none
  else none
def b0t(mm:Int)(r:Option (Ex×St)):Option (AV×Heap):=b126 mm (sq (E0 mm) 126 0 b0E (blockD 0 (r)))
def a0v(x:(Bs×Bool×List UInt8×Int)):X:=(none,[vd (dS x.1),.v (.c (.own x.2.1 (enL enB x.2.2.1) 0)),vd (dI x.2.2.2)],[.row x.2.2.1.length (rz x.2.1 1)])
def K0O:=Q (rx s0E) (Q @b0t.eq_1 (Q (rx s0F) (Q (rx s0G) (Q (rx s0D) (Q @ent148 (Q @prm148 (Q @Q0T (Q @V0M.eq_1 (Q (rx s0H) (Q (rx s0J) (Q (rx s0I) (Q (rx s0B) (Q (rx s0C) (Q (rx s0A) (Q (rx D0d) (Q (rx s0y) (Q (rx s0z) (Q (fun mm=>lx (E0 mm) 126 l0I b0D e0z) (Q (rx D0b) (Q (rx D0c) (Q (nE g0O (.seq D0b (.seq (.seq D0c n0E) b0C))) (Q (nE b0C (.seq s0y (.seq s0z (.seq (.block 0 l0I) b0E)))) (Q (nE b0D (.seq (.seq s0A l0J) d0d)) (Q (nE d0d (.block 1 (.seq (.seq s0B (.cond _ s0C .skip)) d0e))) (Q (nE e0G (.seq s0F s0G)) (Q @a0v.eq_1 (Q @e0z.eq_1 hA)))))))))))))))))))))))))))
theorem v0C(s0:Bs)(b4_0:Bool)(b4_1:List UInt8)(at5:Int)(t40:Bool)(sl:Sl)(_:sl 0=vd (dS s0))(_:sl 4=.v (.c (.own b4_0 (enL enB b4_1) 0)))(_:sl 5=vd (dI at5))(_:sl 40=vd (dB t40)):
  stepE (b0t mm) (loopK 0 e0z (blockD 1 (sq (E0 mm) 126 0 e0G (dn (E0 mm) 126 0 i0k sl [.row b4_1.length (rz b4_0 1)]))))=(d0x s0 b4_0 b4_1 at5 t40).map (sm a0v y0X):=by
 unfold d0x;exact go (Q (nE i0k (.cond _ (.seq s0E .ret) .skip)) K0O) trivial
def a0X(s0:Bs)(b4_0:Bool)(b4_1:List UInt8)(at5:Int):Option ((Bs×Bool×List UInt8×Int) ⊕ y0r):=
 if (decide ((s0.length:Int)≤at5))=true then
  d0x s0 b4_0 b4_1 at5 true
 else
  if 0≤at5∧at5<(s0.length:Int) then
   (T0l (s0.getD at5.toNat 0)).bind fun yr14=>
    d0x s0 b4_0 b4_1 at5 (!yr14)
  else none
theorem v0B(s0:Bs)(b4_0:Bool)(b4_1:List UInt8)(at5:Int)(sl:Sl)(_:sl 0=vd (dS s0))(_:sl 4=.v (.c (.own b4_0 (enL enB b4_1) 0)))(_:sl 5=vd (dI at5)):
  stepE (b0t mm) (loopK 0 e0z (blockD 1 (dn (E0 mm) 126 0 d0e sl [.row b4_1.length (rz b4_0 1)])))=(a0X s0 b4_0 b4_1 at5).map (sm a0v y0X):=by
 unfold a0X;exact go (Q (nE d0e (.seq (.seq s0D i0k) e0G)) K0O) @v0C
def f0D(s0:Bs)(b4_0:Bool)(b4_1:List UInt8)(at5:Int):Option y0r:=
 if (at5==(w64 ((s0.length:Int) - 1)))=true then
  some (b4_1,true)
 else
  some (([]:Bs),false)
theorem v0D(s0:Bs)(b4_0:Bool)(b4_1:List UInt8)(at5:Int)(sl:Sl)(_:sl 0=vd (dS s0))(_:sl 4=.v (.c (.own b4_0 (enL enB b4_1) 0)))(_:sl 5=vd (dI at5)):
  b126 mm (dn (E0 mm) 126 0 b0E sl [.row b4_1.length (rz b4_0 1)])=(f0D s0 b4_0 b4_1 at5).map y0X:=by
 unfold f0D;exact go (Q (nE b0E (.seq (.seq s0H (.cond _ (.seq s0I .ret) .skip)) (.seq s0J .ret))) K0O) trivial
def d0w(s0:Bs)(b4_0:Bool)(b4_1:List UInt8)(at5:Int)(t23:Bool):Option ((Bs×Bool×List UInt8×Int) ⊕ y0r):=
 if t23=true then
  if 0≤at5∧at5<(s0.length:Int) then
   if ((s0.getD at5.toNat 0)==(92:UInt8))=true then
    a0X s0 b4_0 b4_1 (w64 (at5+1))
   else
    a0X s0 b4_0 b4_1 at5
  else none
 else
  (f0D s0 b4_0 b4_1 at5).map .inr
theorem v0A(s0:Bs)(b4_0:Bool)(b4_1:List UInt8)(at5:Int)(t23:Bool)(sl:Sl)(_:sl 0=vd (dS s0))(_:sl 4=.v (.c (.own b4_0 (enL enB b4_1) 0)))(_:sl 5=vd (dI at5))(_:sl 23=vd (dB t23)):
  stepE (b0t mm) (loopK 0 e0z (sq (E0 mm) 126 0 d0d (dn (E0 mm) 126 0 l0J sl [.row b4_1.length (rz b4_0 1)])))=(d0w s0 b4_0 b4_1 at5 t23).map (sm a0v y0X):=by
 unfold d0w;exact go (Q (nE l0J (.cond _ .skip (.exit 0))) K0O) (Q @v0B @v0D)
def j0k(s0:Bs)(b4_0:Bool)(b4_1:List UInt8)(at5:Int):Option ((Bs×Bool×List UInt8×Int) ⊕ y0r):=
 if (decide (at5<(s0.length:Int)))=true then
  if 0≤at5∧at5<(s0.length:Int) then
   d0w s0 b4_0 b4_1 at5 (!((s0.getD at5.toNat 0)==(34:UInt8)))
  else none
 else
  d0w s0 b4_0 b4_1 at5 false
theorem x0H(s0:Bs)(b4_0:Bool)(b4_1:List UInt8)(at5:Int):
  stepE (b0t mm) (lp (E0 mm) 126 0 b0D e0z (a0v (s0,b4_0,b4_1,at5)))=(j0k s0 b4_0 b4_1 at5).map (sm a0v y0X):=by
 unfold j0k;exact go K0O @v0A
def m0J(s0:Bs)(b4_0:Bool)(b4_1:List UInt8)(at5:Int):Option y0r:=iter (fun x:(Bs×Bool×List UInt8×Int)=>j0k x.1 x.2.1 x.2.2.1 x.2.2.2) (s0,b4_0,b4_1,at5)
theorem w0G(s0:Bs)(b4_0:Bool)(b4_1:List UInt8)(at5:Int):(b0t mm) (itW (lp (E0 mm) 126 0 b0D e0z) (a0v (s0,b4_0,b4_1,at5)))=(m0J s0 b4_0 b4_1 at5).map y0X:=
 it_sim (K:=(b0t mm)) rfl (enc:=a0v) (fun x=>x0H x.1 x.2.1 x.2.2.1 x.2.2.2) (s0,b4_0,b4_1,at5)
def h0n(s0:Bs)(t13:Bool):Option y0r:=
 if t13=true then
  some (([]:Bs),false)
 else
  m0J s0 true ([]:List UInt8) (1:Int)
theorem z0g(s0:Bs)(t13:Bool)(sl:Sl)(_:sl 0=vd (dS s0))(_:sl 13=vd (dB t13)):
  b126 mm (sq (E0 mm) 126 0 b0C (dn (E0 mm) 126 0 n0E sl []))=(h0n s0 t13).map y0X:=by
 unfold h0n;exact go (Q (nE n0E (.cond _ (.seq D0d .ret) .skip)) K0O) @w0G
def S0b(s:Bs):Option y0r:=
 if ((s.length:Int)==0)=true then
  h0n s true
 else
  if (0:Int)<(s.length:Int) then
   h0n s (!((s.getD 0 0)==(34:UInt8)))
  else none
theorem Q0E(s:Bs):
  callW (E0 mm) 126 [cd (dS s)] []=(S0b s).map y0X:=by
 rw[cR g0O [.tmp 2,.tmp 3] Tryz.func126]
 unfold S0b;exact go K0O @z0g
noncomputable def p0W:Code:=bodyOf Tryz.f92
def P0K:=cA p0W
def P0L:=cA (cB p0W)
def K0t:=cA (cA (cB (cB p0W)))
def m0o:=cA K0t
def P0M:=cA (cA m0o)
def u0J:=cB (cA m0o)
def o0A:=cB m0o
def I0y:=cA o0A
def a0t:=cB (cB (cB p0W))
def I0z:=cA (cA a0t)
def I0A:=cA (cA (cB (cA a0t)))
def I0B:=cA (cA (cB a0t))
def I0C:=cA (cA (cB (cA (cB a0t))))
def I0D:=cA (cB (cB a0t))
def I0E:=cA (cA (cB (cB (cB a0t))))
def I0F:=cA (cA (cB (cA (cB (cB (cB a0t))))))
def I0G:=cA (cB (cB (cB (cB a0t))))
def I0H:=cA (cA (cB (cB (cB (cB (cB a0t))))))
def I0I:=cA (cA (cB (cA (cB (cB (cB (cB (cB a0t))))))))
def I0J:=cA (cB (cB (cB (cB (cB (cB a0t))))))
def q0U:List (Nat×Co):=[(0,.keep),(5,.keep)]
abbrev R92:=(Bs×Bs×Bool)
def e92(x:R92):AV×Heap:=(.tup [cd (dS x.1),cd (dS x.2.1),cd (dB x.2.2)],[])
def l0c(s0:Bs)(n5:Int):Option R92:=
 (bnd n5 s0.length).bind fun yk5=>
  (M0n (s0.take yk5)).bind fun yr7=>
   if yr7=true then
    if (n5==(s0.length:Int))=true then
     (m51 s0).bind fun yr11=>
      some (yr11,([]:Bs),true)
    else
     (bnd (w64 (n5+1)) s0.length).bind fun yk13=>
      (M0n (s0.drop yk13)).bind fun yr15=>
       if yr15=true then
        (m51 (s0.take yk5)).bind fun yr18=>
         some (yr18,(s0.drop yk13),true)
       else
        (S0b (s0.drop yk13)).bind fun yr20=>
         if yr20.2=true then
          (m51 (s0.take yk5)).bind fun yr23=>
           some (yr23,yr20.1,true)
         else
          some (([]:Bs),([]:Bs),false)
   else
    some (([]:Bs),([]:Bs),false)
def q0M(mm:Int)(r:Option (Ex×St)):Option (AV×Heap):=bodyD (E0 mm) [.tmp 2,.tmp 3,.tmp 4] 0 false (sq (E0 mm) 92 0 a0t (blockD 0 (r)))
def h0k(x:(Bs×Int)):X:=(none,[vd (dS x.1),vd (dI x.2)],[])
def k92:=Q (rx I0z) (Q @ent125 (Q @prm125 (Q @Q0D (Q @x0Y.eq_1 (Q (rx I0B) (Q (rx I0C) (Q @p0Z (Q @e51.eq_1 (Q (rx I0D) (Q (rx I0E) (Q (rx I0F) (Q (rx I0G) (Q @ent126 (Q @prm126 (Q @Q0E (Q @y0X.eq_1 (Q (rx I0H) (Q (rx I0J) (Q (rx I0I) (Q (rx I0A) (Q (rx I0y) (Q @q0M.eq_1 (Q (rx P0M) (Q (rx P0K) (Q (rx P0L) (Q (fun mm=>lx (E0 mm) 92 K0t m0o q0U) (Q (nE p0W (.seq P0K (.seq P0L (.seq (.block 0 K0t) a0t)))) (Q (nE m0o (.seq (.seq P0M u0J) o0A)) (Q (nE o0A (.block 1 I0y)) (Q @h0k.eq_1 (Q @q0U.eq_1 hA)))))))))))))))))))))))))))))))
theorem A0s(s0:Bs)(n5:Int)(sl:Sl)(_:sl 0=vd (dS s0))(_:sl 5=vd (dI n5)):
  bodyD (E0 mm) [.tmp 2,.tmp 3,.tmp 4] 0 false (dn (E0 mm) 92 0 a0t sl [])=(l0c s0 n5).map e92:=by
 unfold l0c;exact go (Q (nE a0t (.seq (.seq I0z (.cond _ (.seq I0A .ret) .skip)) (.seq (.seq I0B (.cond _ (.seq I0C .ret) .skip)) (.seq I0D (.seq (.seq I0E (.cond _ (.seq I0F .ret) .skip)) (.seq I0G (.seq (.seq I0H (.cond _ (.seq I0I .ret) .skip)) (.seq I0J .ret)))))))) k92) trivial
def l0b(s0:Bs)(n5:Int)(t18:Bool):Option ((Bs×Int) ⊕ R92):=
 if t18=true then
  some (.inl (s0,(w64 (n5+1))))
 else
  (l0c s0 n5).map .inr
theorem A0r(s0:Bs)(n5:Int)(t18:Bool)(sl:Sl)(_:sl 0=vd (dS s0))(_:sl 5=vd (dI n5))(_:sl 18=vd (dB t18)):
  stepE (q0M mm) (loopK 0 q0U (sq (E0 mm) 92 0 o0A (dn (E0 mm) 92 0 u0J sl [])))=(l0b s0 n5 t18).map (sm h0k e92):=by
 unfold l0b;exact go (Q (nE u0J (.cond _ .skip (.exit 0))) k92) @A0s
def B0R(s0:Bs)(n5:Int):Option ((Bs×Int) ⊕ R92):=
 if (decide (n5<(s0.length:Int)))=true then
  if 0≤n5∧n5<(s0.length:Int) then
   l0b s0 n5 (!((s0.getD n5.toNat 0)==(61:UInt8)))
  else none
 else
  l0b s0 n5 false
theorem M0d(s0:Bs)(n5:Int):
  stepE (q0M mm) (lp (E0 mm) 92 0 m0o q0U (h0k (s0,n5)))=(B0R s0 n5).map (sm h0k e92):=by
 unfold B0R;exact go k92 @A0r
def L0h(s0:Bs)(n5:Int):Option R92:=iter (fun x:(Bs×Int)=>B0R x.1 x.2) (s0,n5)
theorem L0i(s0:Bs)(n5:Int):(q0M mm) (itW (lp (E0 mm) 92 0 m0o q0U) (h0k (s0,n5)))=(L0h s0 n5).map e92:=
 it_sim (K:=(q0M mm)) rfl (enc:=h0k) (fun x=>M0d x.1 x.2) (s0,n5)
def m92(s:Bs):Option R92:=
 L0h s (0:Int)
theorem R0y(s:Bs):
  callW (E0 mm) 92 [cd (dS s)] []=(m92 s).map e92:=by
 rw[cR p0W [.tmp 2,.tmp 3,.tmp 4] Tryz.func92]
 unfold m92;exact go k92 @L0i
noncomputable def i0B:Code:=bodyOf Tryz.f93
def P0N:=cA i0B
def P0O:=cA (cA (cB i0B))
def P0P:=cA (cA (cB (cA (cB i0B))))
def I0K:=cA (cB (cB i0B))
def I0L:=cA (cA (cB (cB (cB i0B))))
def u0K:=cA (cB (cA (cB (cB (cB i0B)))))
def d0T:=cA u0K
def I0M:=cA (cA d0T)
def I0N:=cA (cA (cA (cB d0T)))
def o0B:=cB (cA (cA (cB d0T)))
def I0O:=cA (cA o0B)
def u0L:=cB (cB d0T)
def f0h:=cB (cB (cB (cB i0B)))
def I0P:=cA (cA f0h)
def u0M:=cA (cB (cA f0h))
def c0r:=cA u0M
def I0Q:=cA (cA c0r)
def I0R:=cA (cA (cA (cB c0r)))
def I0S:=cA (cB (cA (cA (cB c0r))))
def I0T:=cA (cB (cB (cA (cA (cB c0r)))))
def u0N:=cB (cB c0r)
def k0z:=cB f0h
def I0U:=cA k0z
def q0V:List (Nat×Co):=[(0,.keep),(3,.keep),(4,.keep)]
def q0W:List (Nat×Co):=[(0,.keep),(3,.keep),(5,.keep)]
abbrev b93(mm:Int):=bodyD (E0 mm) [.tmp 2] 0 false
abbrev R93:=(Int)
def e93(x:R93):AV×Heap:=(vd (dI x),[])
def l0d(s0:Bs)(n3 i4:Int)(t24:Bool):Option ((Bs×Int×Int) ⊕ R93):=
 if t24=true then
  some (.inr (0:Int))
 else
  some (.inl (s0,n3,(w64 (i4+1))))
def j0w(mm:Int)(r:Option (Ex×St)):Option (AV×Heap):=b93 mm (sq (E0 mm) 93 0 f0h (blockD 0 (r)))
def d0q(x:(Bs×Int×Int)):X:=(none,[vd (dS x.1),vd (dI x.2.1),vd (dI x.2.2)],[])
def j0x(mm:Int)(r:Option (Ex×St)):Option (AV×Heap):=b93 mm (sq (E0 mm) 93 0 k0z (blockD 2 (r)))
def d0r(x:(Bs×Int×Int)):X:=(none,[vd (dS x.1),vd (dI x.2.1),vd (dI x.2.2)],[])
def k93:=Q (rx I0O) (Q @j0w.eq_1 (Q (rx u0L) (Q (rx I0U) (Q (rx I0Q) (Q (rx I0R) (Q (rx I0S) (Q (rx I0T) (Q @j0x.eq_1 (Q (rx I0P) (Q (fun mm=>lx (E0 mm) 93 u0M c0r q0W) (Q (rx I0M) (Q (rx I0N) (Q (rx P0N) (Q (rx P0O) (Q (rx P0P) (Q (rx I0K) (Q (rx I0L) (Q (fun mm=>lx (E0 mm) 93 u0K d0T q0V) (Q (nE i0B (.seq P0N (.seq (.seq P0O (.cond _ (.seq P0P .ret) .skip)) (.seq I0K (.seq (.seq I0L (.block 0 u0K)) f0h))))) (Q (nE d0T (.seq (.seq I0M (.cond _ .skip (.exit 0))) (.seq (.block 1 (.seq I0N o0B)) u0L))) (Q (nE c0r (.seq (.seq I0Q (.cond _ .skip (.exit 2))) (.seq (.block 3 (.seq I0R (.seq I0S (.cond _ I0T .skip)))) u0N))) (Q @d0q.eq_1 (Q @d0r.eq_1 (Q @q0V.eq_1 (Q @q0W.eq_1 hA)))))))))))))))))))))))))
theorem A0t(s0:Bs)(n3 i4:Int)(t24:Bool)(sl:Sl)(_:sl 0=vd (dS s0))(_:sl 3=vd (dI n3))(_:sl 4=vd (dI i4))(_:sl 24=vd (dB t24)):
  stepE (j0w mm) (loopK 0 q0V (sq (E0 mm) 93 0 u0L (blockD 1 (dn (E0 mm) 93 0 o0B sl []))))=(l0d s0 n3 i4 t24).map (sm d0q e93):=by
 unfold l0d;exact go (Q (nE o0B (.cond _ (.seq I0O .ret) .skip)) k93) trivial
def l0e(s0:Bs)(n3 i5:Int):Option ((Bs×Int×Int) ⊕ R93):=
 some (.inl (s0,n3,(w64 (i5+1))))
theorem A0v(s0:Bs)(n3 i5:Int)(sl:Sl)(_:sl 0=vd (dS s0))(_:sl 3=vd (dI n3))(_:sl 5=vd (dI i5)):
  stepE (j0x mm) (loopK 0 q0W (dn (E0 mm) 93 0 u0N sl []))=(l0e s0 n3 i5).map (sm d0r e93):=by
 unfold l0e;exact go (Q (rx u0N) k93) trivial
def p0k(n3:Int):Option R93:=
 some n3
theorem A0w(n3:Int)(sl:Sl)(_:sl 3=vd (dI n3)):
  b93 mm (dn (E0 mm) 93 0 k0z sl [])=(p0k n3).map e93:=by
 unfold p0k;exact go (Q (nE k0z (.seq I0U .ret)) k93) trivial
def h0J(s0:Bs)(n3 i5:Int):Option ((Bs×Int×Int) ⊕ R93):=
 if (decide (i5<(s0.length:Int)))=true then
  if 0≤i5∧i5<(s0.length:Int) then
   if (decide (2147483647<(w64 ((w64 (10*n3))+(((s0.getD i5.toNat 0) - (48:UInt8)).toNat:Int)))))=true then
    l0e s0 (2147483647:Int) i5
   else
    l0e s0 (w64 ((w64 (10*n3))+(((s0.getD i5.toNat 0) - (48:UInt8)).toNat:Int))) i5
  else none
 else
  (p0k n3).map .inr
theorem B0T(s0:Bs)(n3 i5:Int):
  stepE (j0x mm) (lp (E0 mm) 93 0 c0r q0W (d0r (s0,n3,i5)))=(h0J s0 n3 i5).map (sm d0r e93):=by
 unfold h0J;exact go k93 (Q @A0v @A0w)
def p0q(s0:Bs)(n3 i5:Int):Option R93:=iter (fun x:(Bs×Int×Int)=>h0J x.1 x.2.1 x.2.2) (s0,n3,i5)
theorem B0g(s0:Bs)(n3 i5:Int):(j0x mm) (itW (lp (E0 mm) 93 0 c0r q0W) (d0r (s0,n3,i5)))=(p0q s0 n3 i5).map e93:=
 it_sim (K:=(j0x mm)) rfl (enc:=d0r) (fun x=>B0T x.1 x.2.1 x.2.2) (s0,n3,i5)
def p0j(s0:Bs)(n3:Int):Option R93:=
 p0q s0 n3 (0:Int)
theorem A0u(s0:Bs)(n3:Int)(sl:Sl)(_:sl 0=vd (dS s0))(_:sl 3=vd (dI n3)):
  b93 mm (dn (E0 mm) 93 0 f0h sl [])=(p0j s0 n3).map e93:=by
 unfold p0j;exact go (Q (nE f0h (.seq (.seq I0P (.block 2 u0M)) k0z)) k93) @B0g
def g0r(s0:Bs)(n3 i4:Int):Option ((Bs×Int×Int) ⊕ R93):=
 if (decide (i4<(s0.length:Int)))=true then
  if 0≤i4∧i4<(s0.length:Int) then
   if (decide ((s0.getD i4.toNat 0)<(48:UInt8)))=true then
    l0d s0 n3 i4 true
   else
    l0d s0 n3 i4 (decide ((57:UInt8)<(s0.getD i4.toNat 0)))
  else none
 else
  (p0j s0 n3).map .inr
theorem B0S(s0:Bs)(n3 i4:Int):
  stepE (j0w mm) (lp (E0 mm) 93 0 d0T q0V (d0q (s0,n3,i4)))=(g0r s0 n3 i4).map (sm d0q e93):=by
 unfold g0r;exact go k93 (Q @A0t @A0u)
def J0I(s0:Bs)(n3 i4:Int):Option R93:=iter (fun x:(Bs×Int×Int)=>g0r x.1 x.2.1 x.2.2) (s0,n3,i4)
theorem B0f(s0:Bs)(n3 i4:Int):(j0w mm) (itW (lp (E0 mm) 93 0 d0T q0V) (d0q (s0,n3,i4)))=(J0I s0 n3 i4).map e93:=
 it_sim (K:=(j0w mm)) rfl (enc:=d0q) (fun x=>B0S x.1 x.2.1 x.2.2) (s0,n3,i4)
def m93(s:Bs):Option R93:=
 if ((s.length:Int)==0)=true then
  some (0:Int)
 else
  J0I s (0:Int) (0:Int)
theorem R0z(s:Bs):
  callW (E0 mm) 93 [cd (dS s)] []=(m93 s).map e93:=by
 rw[cR i0B [.tmp 2] Tryz.func93]
 unfold m93;exact go k93 @B0f
noncomputable def p0X:Code:=bodyOf Tryz.f94
def P0Q:=cA p0X
def P0R:=cA (cA (cB p0X))
def y0U:=cB (cA (cB p0X))
def P0S:=cA (cA y0U)
def o0C:=cB (cB p0X)
def I0V:=cA o0C
abbrev R94:=(Int)
def e94(x:R94):AV×Heap:=(vd (dI x),[])
def w0o(was0 n1:Int)(t11:Bool):Option R94:=
 if t11=true then
  some n1
 else
  some was0
def k94:=Q (rx P0S) (Q (rx I0V) (Q (rx P0Q) (Q (rx P0R) (Q (nE p0X (.seq P0Q (.seq (.seq P0R y0U) o0C))) (Q (nE o0C (.seq I0V .ret)) hA)))))
theorem K0H(was0 n1:Int)(t11:Bool)(sl:Sl)(_:sl 0=vd (dI was0))(_:sl 1=vd (dI n1))(_:sl 11=vd (dB t11)):
  bodyD (E0 mm) [.tmp 4] 0 false (sq (E0 mm) 94 0 o0C (dn (E0 mm) 94 0 y0U sl []))=(w0o was0 n1 t11).map e94:=by
 unfold w0o;exact go (Q (nE y0U (.cond _ (.seq P0S .ret) .skip)) k94) trivial
def m94(was n:Int):Option R94:=
 if (decide (was<0))=true then
  w0o was n true
 else
  w0o was n (decide (n<was))
theorem R0A(was n:Int):
  callW (E0 mm) 94 [cd (dI was),cd (dI n)] []=(m94 was n).map e94:=by
 rw[cR p0X [.tmp 4] Tryz.func94]
 unfold m94;exact go k94 @K0H
end
end Go.Proofs.YtbkobjepahlegaaGreatDoor
