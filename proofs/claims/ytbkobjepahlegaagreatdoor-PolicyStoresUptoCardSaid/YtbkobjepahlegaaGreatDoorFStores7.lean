/- The Go functions as plain functions, and that the evaluator computes them. -/
import Derived.Test.YtbkobjepahlegaaGreatDoorFStores6
set_option linter.all false
set_option maxRecDepth 100000
namespace Go.Proofs.YtbkobjepahlegaaGreatDoor
open Go Go.Ab
open Nat renaming reduceEqDiff→za,reduceAdd→zb,reduceLeDiff→zc,reduceLT→zd,reduceMul→ze,reduceBEq→zf,reduceSub→zg,reducePow→zh
open Int renaming reduceEq→zi,reduceLE→zj,reduceLT→zk,reduceToNat→zl,reduceNegSucc→zm,reduceAdd→zn,reduceBEq→zo
open String renaming reduceBEq→zp
set_option maxHeartbeats 4000000
noncomputable section
variable {mm:Int}
noncomputable def p0K:Code:=bodyOf Tryz.f13
def M0B:=cA p0K
def M0C:=cA (cA (cB p0K))
def y0t:=cB (cA (cB p0K))
def M0D:=cA (cA y0t)
def e0Q:=cB (cB p0K)
def D0P:=cA e0Q
def D0Q:=cA (cA (cB e0Q))
def n0J:=cB (cA (cB e0Q))
def D0R:=cA (cA n0J)
def g0S:=cB (cB e0Q)
def D0S:=cA (cA g0S)
def n0K:=cB (cA g0S)
def D0T:=cA (cA n0K)
def b0q:=cB g0S
def D0U:=cA b0q
def D0V:=cA (cA (cB b0q))
def D0W:=cA (cA (cB (cA (cB b0q))))
def D0X:=cA (cB (cB b0q))
def D0Y:=cA (cA (cB (cB (cB b0q))))
def t0t:=cA (cB (cA (cB (cB (cB b0q)))))
def d0J:=cA t0t
def D0Z:=cA (cA d0J)
def E0a:=cA (cA (cA (cB d0J)))
def E0b:=cA (cA (cB (cA (cA (cB d0J)))))
def E0c:=cB (cB d0J)
def d0K:=cB (cB (cB (cB b0q)))
def E0d:=cA d0K
def E0e:=cA (cB d0K)
def E0f:=cA (cB (cB d0K))
def E0g:=cA (cB (cB (cB d0K)))
def y0h:List (Nat×Co):=[(5,.keep),(10,.keep),(11,.keep)]
abbrev b13(mm:Int):=bodyD (E0 mm) [.tmp 6] 0 false
abbrev R13:=(Bool)
def e13(x:R13):AV×Heap:=(vd (dB x),[])
def k0P(h0_0:Int)(h0_1:Bs)(h0_2:Int)(h0_3_0:Bool)(h0_3_1:List (Bs×Bs))(h0_4_0:Bool)(h0_4_1:List UInt8):Option R13:=
 (m52 h0_0 h0_1 h0_2 h0_3_0 h0_3_1 h0_4_0 h0_4_1).bind fun yr32=>
  (m31 h0_3_0 h0_3_1).bind fun yr34=>
   (m53 h0_3_0 h0_3_1).bind fun yr36=>
    if yr32.2=true then
     some true
    else
     if (decide (0<yr32.1))=true then
      some true
     else
      if yr34.2=true then
       some true
      else
       some yr36.2
def n0c(mm:Int)(r:Option (Ex×St)):Option (AV×Heap):=b13 mm (sq (E0 mm) 13 0 d0K (blockD 0 (r)))
def f0n(x:(Bool×List Bs×Int×Int×Bs×Int×Bool×List (Bs×Bs)×Bool×List UInt8)):X:=(none,[.v (.c (.ptr 0 0)),.v (.c (.own x.1 (enL enS x.2.1) 1)),vd (dI x.2.2.1)],[.cells [.d (dI x.2.2.2.1),.d (dS x.2.2.2.2.1),.d (dI x.2.2.2.2.2.1),.d (.lst x.2.2.2.2.2.2.1 (enL enSS x.2.2.2.2.2.2.2.1)),.d (.lst x.2.2.2.2.2.2.2.2.1 (enL enB x.2.2.2.2.2.2.2.2.2))],.row x.2.1.length (rz x.1 1)])
def k13:=Q (rx E0d) (Q @ent52 (Q @prm52 (Q @T0X (Q @e52.eq_1 (Q (rx E0e) (Q @R0d (Q @e31.eq_1 (Q (rx E0f) (Q @R0f (Q @e53.eq_1 (Q (rx E0g) (Q (rx D0Z) (Q (rx E0a) (Q @p0Z (Q @e51.eq_1 (Q @ent50 (Q @prm50 (Q @T0W (Q @e50.eq_1 (Q (rx E0b) (Q @n0c.eq_1 (Q (rx E0c) (Q (rx D0T) (Q (rx D0U) (Q @ent48 (Q @prm48 (Q @T0V (Q @e48.eq_1 (Q (rx D0V) (Q (rx D0W) (Q (rx D0X) (Q (fun (mm:Int) (h0_3_0:Bool) (h0_3_1:List (Bs×Bs))=>(show callW (E0 mm) 49 [cd (.lst h0_3_0 (enL enSS h0_3_1)),cd (dS ([99,111,110,110,101,99,116,105,111,110]:Bs))] []=_ from i0C h0_3_0 h0_3_1 ([99,111,110,110,101,99,116,105,111,110]:Bs))) (Q @i0C (Q @e49.eq_1 (Q (rx D0Y) (Q (fun mm=>lx (E0 mm) 13 t0t d0J y0h) (Q (rx D0R) (Q (rx D0S) (Q (fun (mm:Int) (l1_0:Bool) (l1_1:List (Bs×Bs))=>(show callW (E0 mm) 47 [cd (.lst l1_0 (enL enSS l1_1)),cd (dS ([97,117,116,104,111,114,105,122,97,116,105,111,110]:Bs))] []=_ from K0D l1_0 l1_1 ([97,117,116,104,111,114,105,122,97,116,105,111,110]:Bs))) (Q @K0D (Q @e47.eq_1 (Q (rx M0D) (Q (rx D0P) (Q @R0e (Q @e46.eq_1 (Q @ao154 (Q (rx D0Q) (Q (rx M0B) (Q (rx M0C) (Q @ent32 (Q @prm32 (Q @T0P (Q @e32.eq_1 (Q @ent44 (Q @prm44 (Q @T0T (Q @e44.eq_1 (Q @ent45 (Q @prm45 (Q @T0U (Q @e45.eq_1 (Q (nE p0K (.seq M0B (.seq (.seq M0C y0t) e0Q))) (Q (nE e0Q (.seq D0P (.seq (.seq D0Q n0J) g0S))) (Q (nE g0S (.seq (.seq D0S n0K) b0q)) (Q (nE b0q (.seq D0U (.seq (.seq D0V (.cond _ (.seq D0W .ret) .skip)) (.seq D0X (.seq (.seq D0Y (.block 0 t0t)) d0K))))) (Q (nE d0J (.seq (.seq D0Z (.cond _ .skip (.exit 0))) (.seq (.block 1 (.seq E0a (.cond _ (.seq E0b .ret) .skip))) E0c))) (Q @f0n.eq_1 (Q @y0h.eq_1 hA))))))))))))))))))))))))))))))))))))))))))))))))))))))))))))))))))))
theorem z0l(h0_0:Int)(h0_1:Bs)(h0_2:Int)(h0_3_0:Bool)(h0_3_1:List (Bs×Bs))(h0_4_0:Bool)(h0_4_1:List UInt8)(g1:Ob)(sl:Sl)(_:sl 5=.v (.c (.ptr 0 0))):
  b13 mm (dn (E0 mm) 13 0 d0K sl [.cells [.d (dI h0_0),.d (dS h0_1),.d (dI h0_2),.d (.lst h0_3_0 (enL enSS h0_3_1)),.d (.lst h0_4_0 (enL enB h0_4_1))],g1])=(k0P h0_0 h0_1 h0_2 h0_3_0 h0_3_1 h0_4_0 h0_4_1).map e13:=by
 unfold k0P;exact go (Q (nE d0K (.seq E0d (.seq E0e (.seq E0f (.seq E0g .ret))))) k13) trivial
def g0h(named10_0:Bool)(named10_1:List Bs)(i11 h0_0:Int)(h0_1:Bs)(h0_2:Int)(h0_3_0:Bool)(h0_3_1:List (Bs×Bs))(h0_4_0:Bool)(h0_4_1:List UInt8):Option ((Bool×List Bs×Int×Int×Bs×Int×Bool×List (Bs×Bs)×Bool×List UInt8) ⊕ R13):=
 if (decide (i11<(named10_1.length:Int)))=true then
  if 0≤i11∧i11<(named10_1.length:Int) then
   (m51 (named10_1.getD i11.toNat default)).bind fun yr27=>
    (m50 yr27).bind fun yr29=>
     if yr29=true then
      some (.inr false)
     else
      some (.inl (named10_0,named10_1,(w64 (i11+1)),h0_0,h0_1,h0_2,h0_3_0,h0_3_1,h0_4_0,h0_4_1))
  else none
 else
  (k0P h0_0 h0_1 h0_2 h0_3_0 h0_3_1 h0_4_0 h0_4_1).map .inr
theorem B0A(named10_0:Bool)(named10_1:List Bs)(i11 h0_0:Int)(h0_1:Bs)(h0_2:Int)(h0_3_0:Bool)(h0_3_1:List (Bs×Bs))(h0_4_0:Bool)(h0_4_1:List UInt8):
  stepE (n0c mm) (lp (E0 mm) 13 0 d0J y0h (f0n (named10_0,named10_1,i11,h0_0,h0_1,h0_2,h0_3_0,h0_3_1,h0_4_0,h0_4_1)))=(g0h named10_0 named10_1 i11 h0_0 h0_1 h0_2 h0_3_0 h0_3_1 h0_4_0 h0_4_1).map (sm f0n e13):=by
 unfold g0h;exact go k13 @z0l
def w0M(named10_0:Bool)(named10_1:List Bs)(i11 h0_0:Int)(h0_1:Bs)(h0_2:Int)(h0_3_0:Bool)(h0_3_1:List (Bs×Bs))(h0_4_0:Bool)(h0_4_1:List UInt8):Option R13:=iter (fun x:(Bool×List Bs×Int×Int×Bs×Int×Bool×List (Bs×Bs)×Bool×List UInt8)=>g0h x.1 x.2.1 x.2.2.1 x.2.2.2.1 x.2.2.2.2.1 x.2.2.2.2.2.1 x.2.2.2.2.2.2.1 x.2.2.2.2.2.2.2.1 x.2.2.2.2.2.2.2.2.1 x.2.2.2.2.2.2.2.2.2) (named10_0,named10_1,i11,h0_0,h0_1,h0_2,h0_3_0,h0_3_1,h0_4_0,h0_4_1)
theorem A0N(named10_0:Bool)(named10_1:List Bs)(i11 h0_0:Int)(h0_1:Bs)(h0_2:Int)(h0_3_0:Bool)(h0_3_1:List (Bs×Bs))(h0_4_0:Bool)(h0_4_1:List UInt8):(n0c mm) (itW (lp (E0 mm) 13 0 d0J y0h) (f0n (named10_0,named10_1,i11,h0_0,h0_1,h0_2,h0_3_0,h0_3_1,h0_4_0,h0_4_1)))=(w0M named10_0 named10_1 i11 h0_0 h0_1 h0_2 h0_3_0 h0_3_1 h0_4_0 h0_4_1).map e13:=
 it_sim (K:=(n0c mm)) rfl (enc:=f0n) (fun x=>B0A x.1 x.2.1 x.2.2.1 x.2.2.2.1 x.2.2.2.2.1 x.2.2.2.2.2.1 x.2.2.2.2.2.2.1 x.2.2.2.2.2.2.2.1 x.2.2.2.2.2.2.2.2.1 x.2.2.2.2.2.2.2.2.2) (named10_0,named10_1,i11,h0_0,h0_1,h0_2,h0_3_0,h0_3_1,h0_4_0,h0_4_1)
def d0V(t61:Bool)(h0_0:Int)(h0_1:Bs)(h0_2:Int)(h0_3_0:Bool)(h0_3_1:List (Bs×Bs))(h0_4_0:Bool)(h0_4_1:List UInt8):Option R13:=
 if t61=true then
  some false
 else
  (m48 h0_3_0 h0_3_1).bind fun yr19=>
   if yr19.2.2=true then
    some false
   else
    (m49 h0_3_0 h0_3_1 ([99,111,110,110,101,99,116,105,111,110]:Bs)).bind fun yr22=>
     w0M yr22.1 yr22.2 (0:Int) h0_0 h0_1 h0_2 h0_3_0 h0_3_1 h0_4_0 h0_4_1
theorem z0k(t61:Bool)(h0_0:Int)(h0_1:Bs)(h0_2:Int)(h0_3_0:Bool)(h0_3_1:List (Bs×Bs))(h0_4_0:Bool)(h0_4_1:List UInt8)(g1:Ob)(sl:Sl)(_:sl 5=.v (.c (.ptr 0 0)))(_:sl 61=vd (dB t61)):
  b13 mm (sq (E0 mm) 13 0 b0q (dn (E0 mm) 13 0 n0K sl [.cells [.d (dI h0_0),.d (dS h0_1),.d (dI h0_2),.d (.lst h0_3_0 (enL enSS h0_3_1)),.d (.lst h0_4_0 (enL enB h0_4_1))],g1]))=(d0V t61 h0_0 h0_1 h0_2 h0_3_0 h0_3_1 h0_4_0 h0_4_1).map e13:=by
 unfold d0V;exact go (Q (nE n0K (.cond _ (.seq D0T .ret) .skip)) k13) @A0N
def k0O(l1_0:Bool)(l1_1:List (Bs×Bs))(t44:Bool)(h0_0:Int)(h0_1:Bs)(h0_2:Int)(h0_3_0:Bool)(h0_3_1:List (Bs×Bs))(h0_4_0:Bool)(h0_4_1:List UInt8)(h1_0 h1_1:Bool)(h1_2 h1_3:Bool)(h1_4 h1_5:Bool)(h1_6 h1_7:Int)(h1_8 h1_9:Int):Option R13:=
 if t44=true then
  some false
 else
  (m47 l1_0 l1_1 ([97,117,116,104,111,114,105,122,97,116,105,111,110]:Bs)).bind fun yr14=>
   if yr14=true then
    if h1_3=true then
     d0V false h0_0 h0_1 h0_2 h0_3_0 h0_3_1 h0_4_0 h0_4_1
    else
     if h1_4=true then
      d0V false h0_0 h0_1 h0_2 h0_3_0 h0_3_1 h0_4_0 h0_4_1
     else
      d0V (decide (h1_7<0)) h0_0 h0_1 h0_2 h0_3_0 h0_3_1 h0_4_0 h0_4_1
   else
    d0V false h0_0 h0_1 h0_2 h0_3_0 h0_3_1 h0_4_0 h0_4_1
theorem z0j(l1_0:Bool)(l1_1:List (Bs×Bs))(t44:Bool)(h0_0:Int)(h0_1:Bs)(h0_2:Int)(h0_3_0:Bool)(h0_3_1:List (Bs×Bs))(h0_4_0:Bool)(h0_4_1:List UInt8)(h1_0 h1_1:Bool)(h1_2 h1_3:Bool)(h1_4 h1_5:Bool)(h1_6 h1_7:Int)(h1_8 h1_9:Int)(sl:Sl)(_:sl 1=vd (.lst l1_0 (enL enSS l1_1)))(_:sl 5=.v (.c (.ptr 0 0)))(_:sl 7=.v (.c (.ptr 1 0)))(_:sl 44=vd (dB t44)):
  b13 mm (sq (E0 mm) 13 0 g0S (dn (E0 mm) 13 0 n0J sl [.cells [.d (dI h0_0),.d (dS h0_1),.d (dI h0_2),.d (.lst h0_3_0 (enL enSS h0_3_1)),.d (.lst h0_4_0 (enL enB h0_4_1))],.cells [.d (dB h1_0),.d (dB h1_1),.d (dB h1_2),.d (dB h1_3),.d (dB h1_4),.d (dB h1_5),.d (dI h1_6),.d (dI h1_7),.d (dI h1_8),.d (dI h1_9)]]))=(k0O l1_0 l1_1 t44 h0_0 h0_1 h0_2 h0_3_0 h0_3_1 h0_4_0 h0_4_1 h1_0 h1_1 h1_2 h1_3 h1_4 h1_5 h1_6 h1_7 h1_8 h1_9).map e13:=by
 unfold k0O;exact go (Q (nE n0J (.cond _ (.seq D0R .ret) .skip)) k13) @z0k
def m0A(l1_0:Bool)(l1_1:List (Bs×Bs))(t35:Bool)(h0_0:Int)(h0_1:Bs)(h0_2:Int)(h0_3_0:Bool)(h0_3_1:List (Bs×Bs))(h0_4_0:Bool)(h0_4_1:List UInt8):Option R13:=
 if t35=true then
  some false
 else
  (m46 h0_3_0 h0_3_1).bind fun yr10=>
   if yr10.1=true then
    k0O l1_0 l1_1 true h0_0 h0_1 h0_2 h0_3_0 h0_3_1 h0_4_0 h0_4_1 true yr10.2.1 yr10.2.2.1 yr10.2.2.2.1 yr10.2.2.2.2.1 yr10.2.2.2.2.2.1 yr10.2.2.2.2.2.2.1 yr10.2.2.2.2.2.2.2.1 yr10.2.2.2.2.2.2.2.2.1 yr10.2.2.2.2.2.2.2.2.2
   else
    k0O l1_0 l1_1 yr10.2.2.1 h0_0 h0_1 h0_2 h0_3_0 h0_3_1 h0_4_0 h0_4_1 false yr10.2.1 yr10.2.2.1 yr10.2.2.2.1 yr10.2.2.2.2.1 yr10.2.2.2.2.2.1 yr10.2.2.2.2.2.2.1 yr10.2.2.2.2.2.2.2.1 yr10.2.2.2.2.2.2.2.2.1 yr10.2.2.2.2.2.2.2.2.2
theorem K0F(l1_0:Bool)(l1_1:List (Bs×Bs))(t35:Bool)(h0_0:Int)(h0_1:Bs)(h0_2:Int)(h0_3_0:Bool)(h0_3_1:List (Bs×Bs))(h0_4_0:Bool)(h0_4_1:List UInt8)(sl:Sl)(_:sl 1=vd (.lst l1_0 (enL enSS l1_1)))(_:sl 5=.v (.c (.ptr 0 0)))(_:sl 35=vd (dB t35)):
  b13 mm (sq (E0 mm) 13 0 e0Q (dn (E0 mm) 13 0 y0t sl [.cells [.d (dI h0_0),.d (dS h0_1),.d (dI h0_2),.d (.lst h0_3_0 (enL enSS h0_3_1)),.d (.lst h0_4_0 (enL enB h0_4_1))]]))=(m0A l1_0 l1_1 t35 h0_0 h0_1 h0_2 h0_3_0 h0_3_1 h0_4_0 h0_4_1).map e13:=by
 unfold m0A;exact go (Q (nE y0t (.cond _ (.seq M0D .ret) .skip)) k13) @z0j
def m13(method:Bs)(l_0:Bool)(l_1:List (Bs×Bs))(x0_0:Int)(x0_1:Bs)(x0_2:Int)(x0_3:Bool)(x0_4:List (Bs×Bs))(x0_5:Bool)(x0_6:List UInt8):Option R13:=
 if (method==([71,69,84]:Bs))=true then
  (m32 l_0 l_1).bind fun yr3=>
   if yr3=true then
    (m44 l_0 l_1).bind fun yr6=>
     if yr6.1=true then
      m0A l_0 l_1 true x0_0 x0_1 x0_2 x0_3 x0_4 x0_5 x0_6
     else
      (m45 x0_0).bind fun yr42=>
       m0A l_0 l_1 (!yr42) x0_0 x0_1 x0_2 x0_3 x0_4 x0_5 x0_6
   else
    m0A l_0 l_1 true x0_0 x0_1 x0_2 x0_3 x0_4 x0_5 x0_6
 else
  m0A l_0 l_1 true x0_0 x0_1 x0_2 x0_3 x0_4 x0_5 x0_6
theorem T0I(method:Bs)(l_0:Bool)(l_1:List (Bs×Bs))(x0_0:Int)(x0_1:Bs)(x0_2:Int)(x0_3:Bool)(x0_4:List (Bs×Bs))(x0_5:Bool)(x0_6:List UInt8):
  callW (E0 mm) 13 [cd (dS method),cd (.lst l_0 (enL enSS l_1)),.agg [.d (dI x0_0),.d (dS x0_1),.d (dI x0_2),.d (.lst x0_3 (enL enSS x0_4)),.d (.lst x0_5 (enL enB x0_6))]] []=(m13 method l_0 l_1 x0_0 x0_1 x0_2 x0_3 x0_4 x0_5 x0_6).map e13:=by
 rw[cR p0K [.tmp 6] Tryz.func13]
 unfold m13;exact go k13 @K0F
noncomputable def j0L:Code:=bodyOf Tryz.f14
def M0E:=cA j0L
def M0F:=cA (cA (cB j0L))
def M0G:=cA (cA (cB (cA (cB j0L))))
def E0x:=cA (cA (cB (cB j0L)))
def t0J:=cA (cB (cA (cB (cB j0L))))
def d0M:=cA t0J
def E0y:=cA (cA d0M)
def E0z:=cA (cA (cA (cB d0M)))
def E0A:=cA (cA (cB (cA (cA (cB d0M)))))
def E0B:=cB (cB d0M)
def j0M:=cB (cB (cB j0L))
def E0C:=cA j0M
def y0i:List (Nat×Co):=[(0,.keep),(1,.keep),(5,.keep)]
abbrev R14:=(Bool)
def e14(x:R14):AV×Heap:=(vd (dB x),[])
def o0F: Option R14:=
 some true
def n0e(mm:Int)(r:Option (Ex×St)):Option (AV×Heap):=bodyD (E0 mm) [.tmp 4] 0 false (sq (E0 mm) 14 0 j0M (blockD 0 (r)))
def f0p(x:(Bool×List (Bs×Bs)×Bool×List (Bs×Bs)×Int)):X:=(none,[vd (.lst x.1 (enL enSS x.2.1)),vd (.lst x.2.2.1 (enL enSS x.2.2.2.1)),vd (dI x.2.2.2.2)],[])
def k14:=Q (rx E0C) (Q (rx E0y) (Q (fun mm=>ry (E0 mm) E0z) (Q @eqs42n (Q @toV_agg (Q (rx E0B) (Q (rx E0A) (Q @n0e.eq_1 (Q (rx M0E) (Q (rx M0F) (Q (rx E0x) (Q (fun mm=>lx (E0 mm) 14 t0J d0M y0i) (Q (rx M0G) (Q (nE j0L (.seq M0E (.seq (.seq M0F (.cond _ (.seq M0G .ret) .skip)) (.seq (.seq E0x (.block 0 t0J)) j0M)))) (Q (nE d0M (.seq (.seq E0y (.cond _ .skip (.exit 0))) (.seq (.block 1 (.seq E0z (.cond _ (.seq E0A .ret) .skip))) E0B))) (Q @f0p.eq_1 (Q @y0i.eq_1 hA))))))))))))))))
theorem z0n(sl:Sl):
  bodyD (E0 mm) [.tmp 4] 0 false (dn (E0 mm) 14 0 j0M sl [])=(o0F).map e14:=by
 unfold o0F;exact go (Q (nE j0M (.seq E0C .ret)) k14) trivial
def l0r(a0_0:Bool)(a0_1:List (Bs×Bs))(b1_0:Bool)(b1_1:List (Bs×Bs))(i5:Int):Option ((Bool×List (Bs×Bs)×Bool×List (Bs×Bs)×Int) ⊕ R14):=
 if (decide (i5<(a0_1.length:Int)))=true then
  if 0≤i5∧i5<(a0_1.length:Int) then
   if 0≤i5∧i5<(b1_1.length:Int) then
    if (((a0_1.getD i5.toNat default).1==(b1_1.getD i5.toNat default).1)&&((a0_1.getD i5.toNat default).2==(b1_1.getD i5.toNat default).2))=true then
     some (.inl (a0_0,a0_1,b1_0,b1_1,(w64 (i5+1))))
    else
     some (.inr false)
   else none
  else none
 else
  (o0F).map .inr
theorem B0C(a0_0:Bool)(a0_1:List (Bs×Bs))(b1_0:Bool)(b1_1:List (Bs×Bs))(i5:Int):
  stepE (n0e mm) (lp (E0 mm) 14 0 d0M y0i (f0p (a0_0,a0_1,b1_0,b1_1,i5)))=(l0r a0_0 a0_1 b1_0 b1_1 i5).map (sm f0p e14):=by
 unfold l0r;exact go k14 @z0n
def w0P(a0_0:Bool)(a0_1:List (Bs×Bs))(b1_0:Bool)(b1_1:List (Bs×Bs))(i5:Int):Option R14:=iter (fun x:(Bool×List (Bs×Bs)×Bool×List (Bs×Bs)×Int)=>l0r x.1 x.2.1 x.2.2.1 x.2.2.2.1 x.2.2.2.2) (a0_0,a0_1,b1_0,b1_1,i5)
theorem A0Q(a0_0:Bool)(a0_1:List (Bs×Bs))(b1_0:Bool)(b1_1:List (Bs×Bs))(i5:Int):(n0e mm) (itW (lp (E0 mm) 14 0 d0M y0i) (f0p (a0_0,a0_1,b1_0,b1_1,i5)))=(w0P a0_0 a0_1 b1_0 b1_1 i5).map e14:=
 it_sim (K:=(n0e mm)) rfl (enc:=f0p) (fun x=>B0C x.1 x.2.1 x.2.2.1 x.2.2.2.1 x.2.2.2.2) (a0_0,a0_1,b1_0,b1_1,i5)
def m14(a_0:Bool)(a_1:List (Bs×Bs))(b_0:Bool)(b_1:List (Bs×Bs)):Option R14:=
 if ((a_1.length:Int)==(b_1.length:Int))=true then
  w0P a_0 a_1 b_0 b_1 (0:Int)
 else
  some false
theorem v0d(a_0:Bool)(a_1:List (Bs×Bs))(b_0:Bool)(b_1:List (Bs×Bs)):
  callW (E0 mm) 14 [cd (.lst a_0 (enL enSS a_1)),cd (.lst b_0 (enL enSS b_1))] []=(m14 a_0 a_1 b_0 b_1).map e14:=by
 rw[cR j0L [.tmp 4] Tryz.func14]
 unfold m14;exact go k14 @A0Q
noncomputable def K0k:Code:=bodyOf Tryz.f3
def V0q:=cA K0k
def V0r:=cA (cB K0k)
def V0s:=cA (cB (cB K0k))
def V0t:=cA (cB (cB (cB K0k)))
def N0v:=cA (cB (cB (cB (cB K0k))))
theorem c3_9_r(m:Nat)(st:St):den (E0 mm) 3 m (callW (E0 mm)) itW N0v none st=regD ((runF (E0 mm) (callW (E0 mm)) (opsOf N0v) (opsOf N0v) [none,none,some false,none,some true,none,some true,some true,none,none,none,none,some false,some true,none,none,none,none,none,none,none,none,none,none,none,none,none,none,none,none,none,none,none] st []).bind (ckF [(4,2),(6,2),(7,2),(13,12)])):=den_dF (by kernel_rfl)
abbrev R3:=(Bool)
def e3(x:R3):AV×Heap:=(vd (dB x),[])
def m3(r0_0 r0_1:Bs)(r0_2:Int)(r0_3:Bool)(r0_4:List (Bs×Bs))(r0_5:Bool)(r0_6:List UInt8)(x0_0:Int)(x0_1:Bs)(x0_2:Int)(x0_3:Bool)(x0_4:List (Bs×Bs))(x0_5:Bool)(x0_6:List UInt8):Option R3:=
 if x0_4.isEmpty=true then
  if r0_4.isEmpty=true then
   (m12 r0_0 r0_1 r0_2 r0_3 r0_4 r0_5 r0_6 x0_0 x0_1 x0_2 x0_3 x0_4 x0_5 x0_6).bind fun yr4=>
    (m13 r0_0 r0_3 r0_4 x0_0 x0_1 x0_2 x0_3 x0_4 x0_5 x0_6).bind fun yr6=>
     if (yr4==yr6)=true then
      (m15 ([]:Bs) (0:Int) (0:Int) true ([]:List (Bs×Bs)) x0_0 x0_1 x0_2 x0_3 x0_4 x0_5 x0_6).bind fun yr9=>
       match yr9 with
       | .inl yr10=>
        (m16 ([]:Bs) (0:Int) (0:Int) true ([]:List (Bs×Bs)) x0_0 x0_1 x0_2 x0_3 x0_4 x0_5 x0_6).bind fun yr13=>
         match yr13 with
         | .inl yr14=>
          (m14 yr10.1 yr10.2 yr14.1 yr14.2).bind fun yr17=>
           if yr17=true then
            (m14 true ([]:List (Bs×Bs)) x0_3 x0_4).bind fun yr20=>
             if yr20=true then
              (m14 true ([]:List (Bs×Bs)) r0_3 r0_4).bind fun yr23=>
               if yr23=true then
                some true
               else
                some false
             else
              some false
           else
            some false
         | .inr yr15=>
          (m14 yr10.1 yr10.2 yr15.1 yr15.2).bind fun yr26=>
           if yr26=true then
            (m14 true ([]:List (Bs×Bs)) x0_3 x0_4).bind fun yr29=>
             if yr29=true then
              (m14 true ([]:List (Bs×Bs)) r0_3 r0_4).bind fun yr32=>
               if yr32=true then
                some true
               else
                some false
             else
              some false
           else
            some false
       | .inr yr11=>
        (m16 ([]:Bs) (0:Int) (0:Int) true ([]:List (Bs×Bs)) x0_0 x0_1 x0_2 x0_3 x0_4 x0_5 x0_6).bind fun yr35=>
         match yr35 with
         | .inl yr36=>
          (m14 yr11.1 yr11.2 yr36.1 yr36.2).bind fun yr39=>
           if yr39=true then
            (m14 true ([]:List (Bs×Bs)) x0_3 x0_4).bind fun yr42=>
             if yr42=true then
              (m14 true ([]:List (Bs×Bs)) r0_3 r0_4).bind fun yr45=>
               if yr45=true then
                some true
               else
                some false
             else
              some false
           else
            some false
         | .inr yr37=>
          (m14 yr11.1 yr11.2 yr37.1 yr37.2).bind fun yr48=>
           if yr48=true then
            (m14 true ([]:List (Bs×Bs)) x0_3 x0_4).bind fun yr51=>
             if yr51=true then
              (m14 true ([]:List (Bs×Bs)) r0_3 r0_4).bind fun yr54=>
               if yr54=true then
                some true
               else
                some false
             else
              some false
           else
            some false
     else
      some false
  else
   if r0_4.length*32≤140737488355328 then
    (m12 r0_0 r0_1 r0_2 r0_3 r0_4 r0_5 r0_6 x0_0 x0_1 x0_2 x0_3 x0_4 x0_5 x0_6).bind fun yr58=>
     (m13 r0_0 r0_3 r0_4 x0_0 x0_1 x0_2 x0_3 x0_4 x0_5 x0_6).bind fun yr60=>
      if (yr58==yr60)=true then
       (m15 ([]:Bs) (0:Int) (0:Int) true ([]:List (Bs×Bs)) x0_0 x0_1 x0_2 x0_3 x0_4 x0_5 x0_6).bind fun yr63=>
        match yr63 with
        | .inl yr64=>
         (m16 ([]:Bs) (0:Int) (0:Int) true ([]:List (Bs×Bs)) x0_0 x0_1 x0_2 x0_3 x0_4 x0_5 x0_6).bind fun yr67=>
          match yr67 with
          | .inl yr68=>
           (m14 yr64.1 yr64.2 yr68.1 yr68.2).bind fun yr71=>
            if yr71=true then
             (m14 true ([]:List (Bs×Bs)) x0_3 x0_4).bind fun yr74=>
              if yr74=true then
               (m14 false r0_4 r0_3 r0_4).bind fun yr77=>
                if yr77=true then
                 some true
                else
                 some false
              else
               some false
            else
             some false
          | .inr yr69=>
           (m14 yr64.1 yr64.2 yr69.1 yr69.2).bind fun yr80=>
            if yr80=true then
             (m14 true ([]:List (Bs×Bs)) x0_3 x0_4).bind fun yr83=>
              if yr83=true then
               (m14 false r0_4 r0_3 r0_4).bind fun yr86=>
                if yr86=true then
                 some true
                else
                 some false
              else
               some false
            else
             some false
        | .inr yr65=>
         (m16 ([]:Bs) (0:Int) (0:Int) true ([]:List (Bs×Bs)) x0_0 x0_1 x0_2 x0_3 x0_4 x0_5 x0_6).bind fun yr89=>
          match yr89 with
          | .inl yr90=>
           (m14 yr65.1 yr65.2 yr90.1 yr90.2).bind fun yr93=>
            if yr93=true then
             (m14 true ([]:List (Bs×Bs)) x0_3 x0_4).bind fun yr96=>
              if yr96=true then
               (m14 false r0_4 r0_3 r0_4).bind fun yr99=>
                if yr99=true then
                 some true
                else
                 some false
              else
               some false
            else
             some false
          | .inr yr91=>
           (m14 yr65.1 yr65.2 yr91.1 yr91.2).bind fun yr102=>
            if yr102=true then
             (m14 true ([]:List (Bs×Bs)) x0_3 x0_4).bind fun yr105=>
              if yr105=true then
               (m14 false r0_4 r0_3 r0_4).bind fun yr108=>
                if yr108=true then
                 some true
                else
                 some false
              else
               some false
            else
             some false
      else
       some false
   else none
 else
  if x0_4.length*32≤140737488355328 then
   if r0_4.isEmpty=true then
    (m12 r0_0 r0_1 r0_2 r0_3 r0_4 r0_5 r0_6 x0_0 x0_1 x0_2 x0_3 x0_4 x0_5 x0_6).bind fun yr113=>
     (m13 r0_0 r0_3 r0_4 x0_0 x0_1 x0_2 x0_3 x0_4 x0_5 x0_6).bind fun yr115=>
      if (yr113==yr115)=true then
       (m15 ([]:Bs) (0:Int) (0:Int) true ([]:List (Bs×Bs)) x0_0 x0_1 x0_2 x0_3 x0_4 x0_5 x0_6).bind fun yr118=>
        match yr118 with
        | .inl yr119=>
         (m16 ([]:Bs) (0:Int) (0:Int) true ([]:List (Bs×Bs)) x0_0 x0_1 x0_2 x0_3 x0_4 x0_5 x0_6).bind fun yr122=>
          match yr122 with
          | .inl yr123=>
           (m14 yr119.1 yr119.2 yr123.1 yr123.2).bind fun yr126=>
            if yr126=true then
             (m14 false x0_4 x0_3 x0_4).bind fun yr129=>
              if yr129=true then
               (m14 true ([]:List (Bs×Bs)) r0_3 r0_4).bind fun yr132=>
                if yr132=true then
                 some true
                else
                 some false
              else
               some false
            else
             some false
          | .inr yr124=>
           (m14 yr119.1 yr119.2 yr124.1 yr124.2).bind fun yr135=>
            if yr135=true then
             (m14 false x0_4 x0_3 x0_4).bind fun yr138=>
              if yr138=true then
               (m14 true ([]:List (Bs×Bs)) r0_3 r0_4).bind fun yr141=>
                if yr141=true then
                 some true
                else
                 some false
              else
               some false
            else
             some false
        | .inr yr120=>
         (m16 ([]:Bs) (0:Int) (0:Int) true ([]:List (Bs×Bs)) x0_0 x0_1 x0_2 x0_3 x0_4 x0_5 x0_6).bind fun yr144=>
          match yr144 with
          | .inl yr145=>
           (m14 yr120.1 yr120.2 yr145.1 yr145.2).bind fun yr148=>
            if yr148=true then
             (m14 false x0_4 x0_3 x0_4).bind fun yr151=>
              if yr151=true then
               (m14 true ([]:List (Bs×Bs)) r0_3 r0_4).bind fun yr154=>
                if yr154=true then
                 some true
                else
                 some false
              else
               some false
            else
             some false
          | .inr yr146=>
           (m14 yr120.1 yr120.2 yr146.1 yr146.2).bind fun yr157=>
            if yr157=true then
             (m14 false x0_4 x0_3 x0_4).bind fun yr160=>
              if yr160=true then
               (m14 true ([]:List (Bs×Bs)) r0_3 r0_4).bind fun yr163=>
                if yr163=true then
                 some true
                else
                 some false
              else
               some false
            else
             some false
      else
       some false
   else
    if r0_4.length*32≤140737488355328 then
     (m12 r0_0 r0_1 r0_2 r0_3 r0_4 r0_5 r0_6 x0_0 x0_1 x0_2 x0_3 x0_4 x0_5 x0_6).bind fun yr167=>
      (m13 r0_0 r0_3 r0_4 x0_0 x0_1 x0_2 x0_3 x0_4 x0_5 x0_6).bind fun yr169=>
       if (yr167==yr169)=true then
        (m15 ([]:Bs) (0:Int) (0:Int) true ([]:List (Bs×Bs)) x0_0 x0_1 x0_2 x0_3 x0_4 x0_5 x0_6).bind fun yr172=>
         match yr172 with
         | .inl yr173=>
          (m16 ([]:Bs) (0:Int) (0:Int) true ([]:List (Bs×Bs)) x0_0 x0_1 x0_2 x0_3 x0_4 x0_5 x0_6).bind fun yr176=>
           match yr176 with
           | .inl yr177=>
            (m14 yr173.1 yr173.2 yr177.1 yr177.2).bind fun yr180=>
             if yr180=true then
              (m14 false x0_4 x0_3 x0_4).bind fun yr183=>
               if yr183=true then
                (m14 false r0_4 r0_3 r0_4).bind fun yr186=>
                 if yr186=true then
                  some true
                 else
                  some false
               else
                some false
             else
              some false
           | .inr yr178=>
            (m14 yr173.1 yr173.2 yr178.1 yr178.2).bind fun yr189=>
             if yr189=true then
              (m14 false x0_4 x0_3 x0_4).bind fun yr192=>
               if yr192=true then
                (m14 false r0_4 r0_3 r0_4).bind fun yr195=>
                 if yr195=true then
                  some true
                 else
                  some false
               else
                some false
             else
              some false
         | .inr yr174=>
          (m16 ([]:Bs) (0:Int) (0:Int) true ([]:List (Bs×Bs)) x0_0 x0_1 x0_2 x0_3 x0_4 x0_5 x0_6).bind fun yr198=>
           match yr198 with
           | .inl yr199=>
            (m14 yr174.1 yr174.2 yr199.1 yr199.2).bind fun yr202=>
             if yr202=true then
              (m14 false x0_4 x0_3 x0_4).bind fun yr205=>
               if yr205=true then
                (m14 false r0_4 r0_3 r0_4).bind fun yr208=>
                 if yr208=true then
                  some true
                 else
                  some false
               else
                some false
             else
              some false
           | .inr yr200=>
            (m14 yr174.1 yr174.2 yr200.1 yr200.2).bind fun yr211=>
             if yr211=true then
              (m14 false x0_4 x0_3 x0_4).bind fun yr214=>
               if yr214=true then
                (m14 false r0_4 r0_3 r0_4).bind fun yr217=>
                 if yr217=true then
                  some true
                 else
                  some false
               else
                some false
             else
              some false
       else
        some false
    else none
  else none
def k3:=Q (rx V0q) (Q (rx V0r) (Q @ao136 (Q @sz30 (Q (rx V0s) (Q @hd137 (Q (rx V0t) (Q @hd138 (Q @c3_9_r (Q (show opsOf N0v=_::_ from rfl) (Q @sz25 (Q @ag25 (Q @ent12 (Q @prm12 (Q @T0H (Q setF (Q @e12.eq_1 (Q @ent13 (Q @prm13 (Q @T0I (Q @e13.eq_1 (Q @Tryz.underlying4 (Q @ag30 (Q (fun (mm:Int) (x0_0:Int) (x0_1:Bs) (x0_2:Int) (x0_3:Bool) (x0_4:List (Bs×Bs)) (x0_5:Bool) (x0_6:List UInt8)=>(show callW (E0 mm) 15 [.agg [.d (dS ([]:Bs)),.d (dU 0),.d (dU 0),.d (.lst true []),.d (dI x0_0),.d (dS x0_1),.d (dI x0_2),.d (.lst x0_3 (enL enSS x0_4)),.d (.lst x0_5 (enL enB x0_6))]] []=_ from y0Y ([]:Bs) (0:Int) (0:Int) true ([]:List (Bs×Bs)) x0_0 x0_1 x0_2 x0_3 x0_4 x0_5 x0_6)) (Q @y0Y (Q @e15.eq_1 (Q @e15.eq_2 (Q @ent16 (Q @prm16 (Q (fun (mm:Int) (x0_0:Int) (x0_1:Bs) (x0_2:Int) (x0_3:Bool) (x0_4:List (Bs×Bs)) (x0_5:Bool) (x0_6:List UInt8)=>(show callW (E0 mm) 16 [.agg [.d (dS ([]:Bs)),.d (dU 0),.d (dU 0),.d (.lst true []),.d (dI x0_0),.d (dS x0_1),.d (dI x0_2),.d (.lst x0_3 (enL enSS x0_4)),.d (.lst x0_5 (enL enB x0_6))]] []=_ from R0b ([]:Bs) (0:Int) (0:Int) true ([]:List (Bs×Bs)) x0_0 x0_1 x0_2 x0_3 x0_4 x0_5 x0_6)) (Q @R0b (Q @e16.eq_1 (Q @e16.eq_2 (Q @ent14 (Q @prm14 (Q @v0d (Q (show List.range 5=[0,1,2,3,4] from rfl) (Q @e14.eq_1 (Q (fun (mm:Int) (x0_3:Bool) (x0_4:List (Bs×Bs))=>(show callW (E0 mm) 14 [cd (.lst true []),cd (.lst x0_3 (enL enSS x0_4))] []=_ from v0d true ([]:List (Bs×Bs)) x0_3 x0_4)) (Q (fun (mm:Int) (r0_3:Bool) (r0_4:List (Bs×Bs))=>(show callW (E0 mm) 14 [cd (.lst true []),cd (.lst r0_3 (enL enSS r0_4))] []=_ from v0d true ([]:List (Bs×Bs)) r0_3 r0_4)) (Q @ent17 (Q @prm17 (Q @T0J (Q (show List.range 6=[0,1,2,3,4,5] from rfl) (Q (fun (mm:Int) (r0_4:List (Bs×Bs)) (r0_3:Bool)=>(show callW (E0 mm) 14 [cd (.lst false (enL enSS r0_4)),cd (.lst r0_3 (enL enSS r0_4))] []=_ from v0d false r0_4 r0_3 r0_4)) (Q (fun (mm:Int) (x0_4:List (Bs×Bs)) (x0_3:Bool)=>(show callW (E0 mm) 14 [cd (.lst false (enL enSS x0_4)),cd (.lst x0_3 (enL enSS x0_4))] []=_ from v0d false x0_4 x0_3 x0_4)) (Q (show List.range 7=[0,1,2,3,4,5,6] from rfl) (Q (nE K0k (.seq V0q (.seq V0r (.seq V0s (.seq V0t (.seq N0v .ret)))))) hA)))))))))))))))))))))))))))))))))))))))))))))))
theorem W0d(r0_0 r0_1:Bs)(r0_2:Int)(r0_3:Bool)(r0_4:List (Bs×Bs))(r0_5:Bool)(r0_6:List UInt8)(x0_0:Int)(x0_1:Bs)(x0_2:Int)(x0_3:Bool)(x0_4:List (Bs×Bs))(x0_5:Bool)(x0_6:List UInt8):
  callW (E0 mm) 3 [.agg [.d (dS r0_0),.d (dS r0_1),.d (dI r0_2),.d (.lst r0_3 (enL enSS r0_4)),.d (.lst r0_5 (enL enB r0_6))],.agg [.d (dI x0_0),.d (dS x0_1),.d (dI x0_2),.d (.lst x0_3 (enL enSS x0_4)),.d (.lst x0_5 (enL enB x0_6))]] []=(m3 r0_0 r0_1 r0_2 r0_3 r0_4 r0_5 r0_6 x0_0 x0_1 x0_2 x0_3 x0_4 x0_5 x0_6).map e3:=by
 rw[cR K0k [.tmp 4] Tryz.func3]
 unfold m3;exact go k3 trivial
end
end Go.Proofs.YtbkobjepahlegaaGreatDoor
