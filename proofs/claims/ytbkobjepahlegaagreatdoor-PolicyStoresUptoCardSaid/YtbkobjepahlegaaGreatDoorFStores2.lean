/- The Go functions as plain functions, and that the evaluator computes them. -/
import Derived.Test.YtbkobjepahlegaaGreatDoorFStores1
set_option linter.all false
set_option maxRecDepth 100000
namespace Go.Proofs.YtbkobjepahlegaaGreatDoor
open Go Go.Ab
open Nat renaming reduceEqDiff→za,reduceAdd→zb,reduceLeDiff→zc,reduceLT→zd,reduceMul→ze,reduceBEq→zf,reduceSub→zg,reducePow→zh
open Int renaming reduceEq→zi,reduceLE→zj,reduceLT→zk,reduceToNat→zl,reduceNegSucc→zm,reduceAdd→zn,reduceBEq→zo
open String renaming reduceBEq→zp
set_option maxHeartbeats 4000000
noncomputable section
variable {mm:Int}
noncomputable def i0z:Code:=bodyOf Tryz.f68
def O0L:=cA i0z
def O0M:=cA (cB i0z)
def O0N:=cA (cB (cB i0z))
def O0O:=cA (cB (cB (cB i0z)))
def H0Y:=cA (cA (cB (cB (cB (cB i0z)))))
def u0B:=cA (cB (cA (cB (cB (cB (cB i0z))))))
def b0r:=cA u0B
def H0Z:=cA b0r
def I0a:=cA (cA (cB (cB b0r)))
def I0b:=cA (cA (cB (cA (cB (cB b0r)))))
def I0c:=cA (cB (cA (cB (cA (cB (cB b0r))))))
def I0d:=cA (cB (cB (cA (cB (cA (cB (cB b0r)))))))
def d0R:=cB (cB (cB (cA (cB (cA (cB (cB b0r)))))))
def I0e:=cA d0R
def I0f:=cA (cB d0R)
def I0g:=cA (cB (cB d0R))
def I0h:=cA (cB (cB (cB d0R)))
def o0w:=cB (cB (cB (cB d0R)))
def I0i:=cA o0w
def h0b:=cB (cB (cB (cB (cB i0z))))
def I0j:=cA h0b
def I0k:=cA (cB h0b)
def p0J:List (Nat×Co):=[(1,.keep),(3,.keep),(5,.keep),(6,.keep),(7,.keep),(12,.keep)]
abbrev R68:=(Bool×List Bs)
def e68(x:R68):AV×Heap:=(.v (.c (.own x.1 (enL enS x.2) 0)),[.row x.2.length (rz x.1 1)])
def h0A(quoted5 masked6:Bool)(i8:Int)(t30:Bool)(h0_0:Bs)(h1_0_0:Bool)(h1_0_1:List Bs)(h3_0:Int)(s4:Bs)(p4:Nat):Option ((Bool×Bool×Bs×Bool×List Bs×Int×Bs×Nat) ⊕ R68):=
 if t30=true then
  (M0l i8 h0_0 h3_0 h1_0_0 h1_0_1).bind fun yr10=>
   some (.inl (quoted5,masked6,yr10.1,yr10.2.2.1,yr10.2.2.2,yr10.2.1,s4,p4))
 else
  some (.inl (quoted5,masked6,h0_0,h1_0_0,h1_0_1,h3_0,s4,p4))
def g0D(mm:Int)(r:Option (Ex×St)):Option (AV×Heap):=bodyD (E0 mm) [.tmp 2] 0 false (sq (E0 mm) 68 0 h0b (blockD 0 (r)))
def b0S(x:(Bool×Bool×Bs×Bool×List Bs×Int×Bs×Nat)):X:=(none,[.v (.c (.ptr 0 0)),.v (.c (.ptr 1 0)),vd (dB x.1),vd (dB x.2.1),.v (.c (.fn 112 [(0,0),(3,0),(1,0)])),.v (.c (.it 4))],[.cells [.d (dS x.2.2.1)],.cells [.own x.2.2.2.1 (enL enS x.2.2.2.2.1) 2],.row x.2.2.2.2.1.length (rz x.2.2.2.1 1),.cells [.d (dI x.2.2.2.2.2.1)],.siter (S x.2.2.2.2.2.2.1) x.2.2.2.2.2.2.2])
def k68:=Q (show List.range 5=[0,1,2,3,4] from rfl) (Q (rx I0i) (Q @ent112 (Q @prm112 (Q @Q0v (Q @T0C.eq_1 (Q (rx I0e) (Q (rx I0f) (Q (rx I0g) (Q (rx I0h) (Q (rx I0j) (Q (rx I0k) (Q (rx H0Z) (Q @dec_eq (Q (rx I0a) (Q (rx I0b) (Q (rx I0c) (Q (rx I0d) (Q @g0D.eq_1 (Q (rx O0L) (Q (rx O0M) (Q @zc45 (Q @ao38 (Q (rx O0N) (Q @ao39 (Q (rx O0O) (Q (rx H0Y) (Q (fun mm=>lx (E0 mm) 68 u0B b0r p0J) (Q (nE i0z (.seq O0L (.seq O0M (.seq O0N (.seq O0O (.seq (.seq H0Y (.block 0 u0B)) h0b)))))) (Q (nE b0r (.seq H0Z (.seq (.cond _ .skip (.exit 0)) (.block 1 (.seq I0a (.block 2 (.seq I0b (.cond _ I0c (.seq I0d d0R))))))))) (Q @b0S.eq_1 (Q @p0J.eq_1 hA)))))))))))))))))))))))))))))))
theorem A0j(quoted5 masked6:Bool)(i8:Int)(t30:Bool)(h0_0:Bs)(h1_0_0:Bool)(h1_0_1:List Bs)(h3_0:Int)(s4:Bs)(p4:Nat)(sl:Sl)(_:sl 1=.v (.c (.ptr 0 0)))(_:sl 3=.v (.c (.ptr 1 0)))(_:sl 5=vd (dB quoted5))(_:sl 6=vd (dB masked6))(_:sl 7=.v (.c (.fn 112 [(0,0),(3,0),(1,0)])))(_:sl 8=vd (dI i8))(_:sl 12=.v (.c (.it 4)))(_:sl 30=vd (dB t30)):
  stepE (g0D mm) (loopK 0 p0J (blockD 1 (blockD 2 (dn (E0 mm) 68 0 o0w sl [.cells [.d (dS h0_0)],.cells [.own h1_0_0 (enL enS h1_0_1) 2],.row h1_0_1.length (rz h1_0_0 1),.cells [.d (dI h3_0)],.siter (S s4) p4]))))=(h0A quoted5 masked6 i8 t30 h0_0 h1_0_0 h1_0_1 h3_0 s4 p4).map (sm b0S e68):=by
 unfold h0A;exact go (Q (nE o0w (.cond _ I0i .skip)) k68) trivial
def h0z(quoted5 masked6:Bool)(i8 r9:Int)(t19:Bool)(h0_0:Bs)(h1_0_0:Bool)(h1_0_1:List Bs)(h3_0:Int)(s4:Bs)(p4:Nat):Option ((Bool×Bool×Bs×Bool×List Bs×Int×Bs×Nat) ⊕ R68):=
 if t19=true then
  some (.inl (quoted5,true,h0_0,h1_0_0,h1_0_1,h3_0,s4,p4))
 else
  if (r9==34)=true then
   some (.inl ((!quoted5),masked6,h0_0,h1_0_0,h1_0_1,h3_0,s4,p4))
  else
   if (r9==44)=true then
    h0A quoted5 masked6 i8 (!quoted5) h0_0 h1_0_0 h1_0_1 h3_0 s4 p4
   else
    h0A quoted5 masked6 i8 false h0_0 h1_0_0 h1_0_1 h3_0 s4 p4
theorem A0i(quoted5 masked6:Bool)(i8 r9:Int)(t19:Bool)(h0_0:Bs)(h1_0_0:Bool)(h1_0_1:List Bs)(h3_0:Int)(s4:Bs)(p4:Nat)(sl:Sl)(_:sl 1=.v (.c (.ptr 0 0)))(_:sl 3=.v (.c (.ptr 1 0)))(_:sl 5=vd (dB quoted5))(_:sl 6=vd (dB masked6))(_:sl 7=.v (.c (.fn 112 [(0,0),(3,0),(1,0)])))(_:sl 8=vd (dI i8))(_:sl 9=vd (.sc (.int .i32 r9)))(_:sl 12=.v (.c (.it 4)))(_:sl 19=vd (dB t19)):
  stepE (g0D mm) (loopK 0 p0J (blockD 1 (blockD 2 (dn (E0 mm) 68 0 d0R sl [.cells [.d (dS h0_0)],.cells [.own h1_0_0 (enL enS h1_0_1) 2],.row h1_0_1.length (rz h1_0_0 1),.cells [.d (dI h3_0)],.siter (S s4) p4]))))=(h0z quoted5 masked6 i8 r9 t19 h0_0 h1_0_0 h1_0_1 h3_0 s4 p4).map (sm b0S e68):=by
 unfold h0z;exact go (Q (nE d0R (.cond _ I0e (.seq I0f (.cond _ I0g (.seq I0h o0w))))) k68) @A0j
def p0d(h0_0:Bs)(h1_0_0:Bool)(h1_0_1:List Bs)(h3_0:Int):Option R68:=
 (M0l (h0_0.length:Int) h0_0 h3_0 h1_0_0 h1_0_1).bind fun yr12=>
  some (yr12.2.2.1,yr12.2.2.2)
theorem A0k(h0_0:Bs)(h1_0_0:Bool)(h1_0_1:List Bs)(h3_0:Int)(g4:Ob)(sl:Sl)(_:sl 1=.v (.c (.ptr 0 0)))(_:sl 3=.v (.c (.ptr 1 0)))(_:sl 7=.v (.c (.fn 112 [(0,0),(3,0),(1,0)]))):
  bodyD (E0 mm) [.tmp 2] 0 false (dn (E0 mm) 68 0 h0b sl [.cells [.d (dS h0_0)],.cells [.own h1_0_0 (enL enS h1_0_1) 2],.row h1_0_1.length (rz h1_0_0 1),.cells [.d (dI h3_0)],g4])=(p0d h0_0 h1_0_0 h1_0_1 h3_0).map e68:=by
 unfold p0d;exact go (Q (nE h0b (.seq I0j (.seq I0k .ret))) k68) trivial
def p0y(quoted5 masked6:Bool)(h0_0:Bs)(h1_0_0:Bool)(h1_0_1:List Bs)(h3_0:Int)(s4:Bs)(p4:Nat):Option ((Bool×Bool×Bs×Bool×List Bs×Int×Bs×Nat) ⊕ R68):=
 if (decide (p4<s4.length))=true then
  if masked6=true then
   some (.inl (quoted5,false,h0_0,h1_0_0,h1_0_1,h3_0,s4,(p4+uw s4 p4)))
  else
   if quoted5=true then
    h0z true false (p4:Int) (uc s4 p4:Int) ((uc s4 p4:Int)==92) h0_0 h1_0_0 h1_0_1 h3_0 s4 (p4+uw s4 p4)
   else
    h0z false false (p4:Int) (uc s4 p4:Int) false h0_0 h1_0_0 h1_0_1 h3_0 s4 (p4+uw s4 p4)
 else
  (p0d h0_0 h1_0_0 h1_0_1 h3_0).map .inr
theorem B0O(quoted5 masked6:Bool)(h0_0:Bs)(h1_0_0:Bool)(h1_0_1:List Bs)(h3_0:Int)(s4:Bs)(p4:Nat):
  stepE (g0D mm) (lp (E0 mm) 68 0 b0r p0J (b0S (quoted5,masked6,h0_0,h1_0_0,h1_0_1,h3_0,s4,p4)))=(p0y quoted5 masked6 h0_0 h1_0_0 h1_0_1 h3_0 s4 p4).map (sm b0S e68):=by
 unfold p0y;exact go k68 (Q @A0i @A0k)
def w0W(quoted5 masked6:Bool)(h0_0:Bs)(h1_0_0:Bool)(h1_0_1:List Bs)(h3_0:Int)(s4:Bs)(p4:Nat):Option R68:=iter (fun x:(Bool×Bool×Bs×Bool×List Bs×Int×Bs×Nat)=>p0y x.1 x.2.1 x.2.2.1 x.2.2.2.1 x.2.2.2.2.1 x.2.2.2.2.2.1 x.2.2.2.2.2.2.1 x.2.2.2.2.2.2.2) (quoted5,masked6,h0_0,h1_0_0,h1_0_1,h3_0,s4,p4)
theorem B0c(quoted5 masked6:Bool)(h0_0:Bs)(h1_0_0:Bool)(h1_0_1:List Bs)(h3_0:Int)(s4:Bs)(p4:Nat):(g0D mm) (itW (lp (E0 mm) 68 0 b0r p0J) (b0S (quoted5,masked6,h0_0,h1_0_0,h1_0_1,h3_0,s4,p4)))=(w0W quoted5 masked6 h0_0 h1_0_0 h1_0_1 h3_0 s4 p4).map e68:=
 it_sim (K:=(g0D mm)) rfl (enc:=b0S) (fun x=>B0O x.1 x.2.1 x.2.2.1 x.2.2.2.1 x.2.2.2.2.1 x.2.2.2.2.2.1 x.2.2.2.2.2.2.1 x.2.2.2.2.2.2.2) (quoted5,masked6,h0_0,h1_0_0,h1_0_1,h3_0,s4,p4)
def m68(s:Bs):Option R68:=
 w0W false false s true ([]:List Bs) (0:Int) s 0
theorem U0b(s:Bs):
  callW (E0 mm) 68 [cd (dS s)] []=(m68 s).map e68:=by
 rw[cR i0z [.tmp 2] Tryz.func68]
 unfold m68;exact go k68 @B0c
noncomputable def l0X:Code:=bodyOf Tryz.f26
def M0Z:=cA l0X
def N0a:=cA (cB l0X)
def N0b:=cA (cA (cB (cB l0X)))
def K0f:=cA (cB (cA (cB (cB l0X))))
def j0S:=cA K0f
def F0o:=cA j0S
def F0p:=cA (cA (cA (cB (cB j0S))))
def F0q:=cB (cA (cA (cB (cB j0S))))
def F0r:=cB (cB (cB j0S))
def j0R:=cB (cB (cB l0X))
def F0s:=cA j0R
def y0j:List (Nat×Co):=[(5,.own),(10,.keep),(11,.keep),(12,.keep)]
abbrev R26:=(Bool×List Bs)
def e26(x:R26):AV×Heap:=(.v (.c (.own x.1 (enL enS x.2) 0)),[.row x.2.length (rz x.1 1)])
def o0K(out5_0:Bool)(out5_1:List Bs):Option R26:=
 some (out5_0,out5_1)
def y0c(mm:Int)(r:Option (Ex×St)):Option (AV×Heap):=bodyD (E0 mm) [.tmp 4] 0 false (sq (E0 mm) 26 0 j0R (blockD 0 (r)))
def k0F(x:(Bool×List Bs×Bool×List Bs×Int×Int)):X:=(none,[.v (.c (.own x.1 (enL enS x.2.1) 0)),.v (.c (.own x.2.2.1 (enL enS x.2.2.2.1) 1)),vd (dI x.2.2.2.2.1),vd (dI x.2.2.2.2.2)],[.row x.2.1.length (rz x.1 1),.row x.2.2.2.1.length (rz x.2.2.1 1)])
def k26:=Q (rx F0s) (Q (rx F0o) (Q (rx F0p) (Q (rx F0q) (Q @ent68 (Q @prm68 (Q @U0b (Q @e68.eq_1 (Q @hd43 (Q (rx F0r) (Q @y0c.eq_1 (Q (rx M0Z) (Q (rx N0a) (Q (rx N0b) (Q @m0q (Q @e29.eq_1 (Q (fun mm=>lx (E0 mm) 26 K0f j0S y0j) (Q (nE l0X (.seq M0Z (.seq N0a (.seq (.seq N0b (.block 0 K0f)) j0R)))) (Q (nE j0S (.seq F0o (.seq (.cond _ .skip (.exit 0)) (.seq (.block 1 (.seq F0p F0q)) F0r)))) (Q @k0F.eq_1 (Q @y0j.eq_1 hA))))))))))))))))))))
theorem z0w(out5_0:Bool)(out5_1:List Bs)(g1:Ob)(sl:Sl)(_:sl 5=.v (.c (.own out5_0 (enL enS out5_1) 0))):
  bodyD (E0 mm) [.tmp 4] 0 false (dn (E0 mm) 26 0 j0R sl [.row out5_1.length (rz out5_0 1),g1])=(o0K out5_0 out5_1).map e26:=by
 unfold o0K;exact go (Q (nE j0R (.seq F0s .ret)) k26) trivial
def q0x(out5_0:Bool)(out5_1:List Bs)(t10_0:Bool)(t10_1:List Bs)(t11 t12:Int):Option ((Bool×List Bs×Bool×List Bs×Int×Int) ⊕ R26):=
 if (decide (t12<t11))=true then
  if 0≤t12∧t12<(t10_1.length:Int) then
   (m68 (t10_1.getD t12.toNat default)).bind fun yr7=>
    if yr7.2=[]∨(out5_1.length+yr7.2.length)*16≤140737488355328 then
     some (.inl ((out5_0&&yr7.2.isEmpty),(out5_1++yr7.2),t10_0,t10_1,t11,(w64 (t12+1))))
    else none
  else none
 else
  (o0K out5_0 out5_1).map .inr
theorem L0T(out5_0:Bool)(out5_1:List Bs)(t10_0:Bool)(t10_1:List Bs)(t11 t12:Int):
  stepE (y0c mm) (lp (E0 mm) 26 0 j0S y0j (k0F (out5_0,out5_1,t10_0,t10_1,t11,t12)))=(q0x out5_0 out5_1 t10_0 t10_1 t11 t12).map (sm k0F e26):=by
 unfold q0x;exact go k26 @z0w
def R0I(out5_0:Bool)(out5_1:List Bs)(t10_0:Bool)(t10_1:List Bs)(t11 t12:Int):Option R26:=iter (fun x:(Bool×List Bs×Bool×List Bs×Int×Int)=>q0x x.1 x.2.1 x.2.2.1 x.2.2.2.1 x.2.2.2.2.1 x.2.2.2.2.2) (out5_0,out5_1,t10_0,t10_1,t11,t12)
theorem K0T(out5_0:Bool)(out5_1:List Bs)(t10_0:Bool)(t10_1:List Bs)(t11 t12:Int):(y0c mm) (itW (lp (E0 mm) 26 0 j0S y0j) (k0F (out5_0,out5_1,t10_0,t10_1,t11,t12)))=(R0I out5_0 out5_1 t10_0 t10_1 t11 t12).map e26:=
 it_sim (K:=(y0c mm)) rfl (enc:=k0F) (fun x=>L0T x.1 x.2.1 x.2.2.1 x.2.2.2.1 x.2.2.2.2.1 x.2.2.2.2.2) (out5_0,out5_1,t10_0,t10_1,t11,t12)
def m26(l_0:Bool)(l_1:List (Bs×Bs))(name:Bs):Option R26:=
 (m29 l_0 l_1 name).bind fun yr2=>
  R0I true ([]:List Bs) yr2.1 yr2.2 (yr2.2.length:Int) (0:Int)
theorem k0K(l_0:Bool)(l_1:List (Bs×Bs))(name:Bs):
  callW (E0 mm) 26 [cd (.lst l_0 (enL enSS l_1)),cd (dS name)] []=(m26 l_0 l_1 name).map e26:=by
 rw[cR l0X [.tmp 4] Tryz.func26]
 unfold m26;exact go k26 @K0T
noncomputable def e0S:Code:=bodyOf Tryz.f154
def E0L:=cA e0S
def E0M:=cA (cA (cB e0S))
def E0N:=cA (cB (cA (cB e0S)))
def E0O:=cA (cA (cB (cB (cA (cB e0S)))))
def t0X:=cA (cB (cB e0S))
abbrev V0g:=(Bs×Bs×Bool)
def V0P(x:V0g):AV×Heap:=(.tup [cd (dS x.1),cd (dS x.2.1),cd (dB x.2.2)],[])
def T0m(s sep:Bs):Option V0g:=
 (mIx s sep).bind fun yr2=>
  if (decide (0≤yr2))=true then
   (bnd yr2 s.length).bind fun yk5=>
    (bnd (w64 (yr2+(sep.length:Int))) s.length).bind fun yk7=>
     some ((s.take yk5),(s.drop yk7),true)
  else
   some (s,([]:Bs),false)
def W0E:=Q (rx E0L) (Q (rx E0M) (Q @pIndex_t (Q (rx E0N) (Q (fun mm=>ry (E0 mm) E0O) (Q (rx t0X) (Q (nE e0S (.seq E0L (.seq (.seq E0M (.seq E0N (.cond _ (.seq E0O .ret) .skip))) (.seq t0X .ret)))) hA))))))
theorem Q0Y(s sep:Bs):
  callW (E0 mm) 154 [cd (dS s),cd (dS sep)] []=(T0m s sep).map V0P:=by
 rw[cR e0S [.tmp 4,.tmp 5,.tmp 6] Tryz.func154]
 unfold T0m;exact go W0E trivial
noncomputable def n0L:Code:=bodyOf Tryz.f140
def E0h:=cA n0L
def E0i:=cA (cB n0L)
abbrev U0Z:=(Bs×Bs×Bool)
def V0I(x:U0Z):AV×Heap:=(.tup [cd (dS x.1),cd (dS x.2.1),cd (dB x.2.2)],[])
def S0j(s sep:Bs):Option U0Z:=
 (T0m s sep).bind fun yr2=>
  some (yr2.1,yr2.2.1,yr2.2.2)
def W0x:=Q (rx E0h) (Q (rx E0i) (Q @ent154 (Q @prm154 (Q @Q0Y (Q @V0P.eq_1 (Q (nE n0L (.seq E0h (.seq E0i .ret))) hA))))))
theorem J0t(s sep:Bs):
  callW (E0 mm) 140 [cd (dS s),cd (dS sep)] []=(S0j s sep).map V0I:=by
 rw[cR n0L [.tmp 4,.tmp 5,.tmp 6] Tryz.func140]
 unfold S0j;exact go W0x trivial
noncomputable def n0O:Code:=bodyOf Tryz.f144
def E0o:=cA n0O
def E0p:=cA (cB n0O)
abbrev V0b:=(Int)
def V0K(x:V0b):AV×Heap:=(vd (dI x),[])
def U0E(s:Bs)(c:UInt8):Option V0b:=
 some (Lib.indexByte s c)
def W0z:=Q (rx E0o) (Q (rx E0p) (Q @entf163 (Q @exf163 (Q @ext163_t (Q (nE n0O (.seq E0o (.seq E0p .ret))) hA)))))
theorem Q0Q(s:Bs)(c:UInt8):
  callW (E0 mm) 144 [cd (dS s),cd (.sc (.int .u8 ((c).toNat:Int)))] []=(U0E s c).map V0K:=by
 rw[cR n0O [.tmp 4] Tryz.func144]
 unfold U0E;exact go W0z trivial
noncomputable def n0y:Code:=bodyOf Tryz.f116
def C0N:=cA n0y
def C0O:=cA (cB n0y)
abbrev U0P:=(Int)
def V0B(x:U0P):AV×Heap:=(vd (dI x),[])
def M0m(s:Bs)(c:UInt8):Option U0P:=
 (U0E s c).bind fun yr2=>
  some yr2
def W0n:=Q (rx C0N) (Q (rx C0O) (Q @ent144 (Q @prm144 (Q @Q0Q (Q @V0K.eq_1 (Q (nE n0y (.seq C0N (.seq C0O .ret))) hA))))))
theorem J0n(s:Bs)(c:UInt8):
  callW (E0 mm) 116 [cd (dS s),cd (.sc (.int .u8 ((c).toNat:Int)))] []=(M0m s c).map V0B:=by
 rw[cR n0y [.tmp 4] Tryz.func116]
 unfold M0m;exact go W0n trivial
noncomputable def j0H:Code:=bodyOf Tryz.f115
def C0K:=cA j0H
def C0L:=cA (cB j0H)
def C0M:=cA (cB (cB j0H))
abbrev U0O:=(Bool)
def V0A(x:U0O):AV×Heap:=(vd (dB x),[])
def T0d(c:UInt8):Option U0O:=
 if (decide ((97:UInt8)≤(c ||| (32:UInt8))))=true then
  if (decide ((c ||| (32:UInt8))≤(122:UInt8)))=true then
   some true
  else
   if (decide ((48:UInt8)≤c))=true then
    if (decide (c≤(57:UInt8)))=true then
     some true
    else
     (M0m ([33,35,36,37,38,39,42,43,45,46,94,95,96,124,126]:Bs) c).bind fun yr6=>
      some (decide (0≤yr6))
   else
    (M0m ([33,35,36,37,38,39,42,43,45,46,94,95,96,124,126]:Bs) c).bind fun yr8=>
     some (decide (0≤yr8))
 else
  if (decide ((48:UInt8)≤c))=true then
   if (decide (c≤(57:UInt8)))=true then
    some true
   else
    (M0m ([33,35,36,37,38,39,42,43,45,46,94,95,96,124,126]:Bs) c).bind fun yr12=>
     some (decide (0≤yr12))
  else
   (M0m ([33,35,36,37,38,39,42,43,45,46,94,95,96,124,126]:Bs) c).bind fun yr14=>
    some (decide (0≤yr14))
def W0m:=Q (rx C0K) (Q (rx C0L) (Q (rx C0M) (Q @ent116 (Q @prm116 (Q (fun (mm:Int) (c:UInt8)=>(show callW (E0 mm) 116 [cd (dS ([33,35,36,37,38,39,42,43,45,46,94,95,96,124,126]:Bs)),cd (.sc (.int .u8 ((c).toNat:Int)))] []=_ from J0n ([33,35,36,37,38,39,42,43,45,46,94,95,96,124,126]:Bs) c)) (Q @J0n (Q @V0B.eq_1 (Q (nE j0H (.seq C0K (.seq C0L (.seq C0M .ret)))) hA))))))))
theorem Q0y(c:UInt8):
  callW (E0 mm) 115 [cd (.sc (.int .u8 ((c).toNat:Int)))] []=(T0d c).map V0A:=by
 rw[cR j0H [.tmp 2] Tryz.func115]
 unfold T0d;exact go W0m trivial
noncomputable def n0N:Code:=bodyOf Tryz.f143
def E0m:=cA n0N
def E0n:=cA (cB n0N)
abbrev V0a:=(Bool)
def V0J(x:V0a):AV×Heap:=(vd (dB x),[.cells [.d (.sc (.func (.func 115) #[] #[]))]])
def T0i(c:UInt8):Option V0a:=
 (T0d c).bind fun yr2=>
  some (!yr2)
def W0y:=Q (rx E0m) (Q (rx E0n) (Q @sz115 (Q @ag115 (Q @ent115 (Q @prm115 (Q @Q0y (Q @V0A.eq_1 (Q (nE n0N (.seq E0m (.seq E0n .ret))) hA))))))))
theorem Q0P(c:UInt8):
  callW (E0 mm) 143 [cd (.sc (.int .u8 ((c).toNat:Int))),.c (.ptr 0 0)] [.cells [.d (.sc (.func (.func 115) #[] #[]))]]=(T0i c).map V0J:=by
 rw[cR n0N [.tmp 3] Tryz.func143]
 unfold T0i;exact go W0y trivial
abbrev r0d:=(Int)
def i0a:List (Nat×Co):=[(0,.keep),(1,.keep),(7,.keep),(8,.keep)]
def u0W(x:r0d):AV×Heap:=(vd (dI x),[.cells [.d (.sc (.func (.func 115) #[] #[]))]])
def i0O: Option r0d:=
 some (-1:Int)
def h0S(mm:Int)(r:Option (Ex×St)):Option (AV×Heap):=bodyD (E0 mm) [.tmp 4] 1 false (sq (E0 mm) 147 1 a0D (blockD 0 (r)))
def c0A(x:(Bool×List UInt8×Int×Int)):X:=(none,[vd (.lst x.1 (enL enB x.2.1)),.v (.c (.fn 143 [(0,0)])),vd (dI x.2.2.1),vd (dI x.2.2.2)],[.cells [.d (.sc (.func (.func 115) #[] #[]))]])
def K0Q:=Q (rx i0t) (Q (rx n0R) (Q (rx i0p) (Q (rx i0q) (Q @ent143 (Q @prm143 (Q @Q0P (Q @V0J.eq_1 (Q (rx i0r) (Q @h0S.eq_1 (Q (rx i0s) (Q (rx n0P) (Q (rx n0Q) (Q (fun mm=>lx (E0 mm) 147 j0K a0y i0a) (Q (nE d0L (.seq n0P (.seq (.seq n0Q (.block 0 j0K)) a0D))) (Q (nE a0y (.seq n0R (.seq (.cond _ .skip (.exit 0)) (.seq (.block 1 (.seq i0p (.seq i0q (.cond _ (.seq i0r .ret) .skip)))) i0s)))) (Q @c0A.eq_1 (Q @i0a.eq_1 hA)))))))))))))))))
theorem q0h(sl:Sl):
  bodyD (E0 mm) [.tmp 4] 1 false (dn (E0 mm) 147 1 a0D sl [.cells [.d (.sc (.func (.func 115) #[] #[]))]])=(i0O).map u0W:=by
 unfold i0O;exact go (Q (nE a0D (.seq i0t .ret)) K0Q) trivial
def j0m(s0_0:Bool)(s0_1:List UInt8)(t7 t8:Int):Option ((Bool×List UInt8×Int×Int) ⊕ r0d):=
 if (decide (t8<t7))=true then
  if 0≤t8∧t8<(s0_1.length:Int) then
   (T0i (s0_1.getD t8.toNat default)).bind fun yr5=>
    if yr5=true then
     some (.inr t8)
    else
     some (.inl (s0_0,s0_1,t7,(w64 (t8+1))))
  else none
 else
  (i0O).map .inr
theorem x0M(s0_0:Bool)(s0_1:List UInt8)(t7 t8:Int):
  stepE (h0S mm) (lp (E0 mm) 147 1 a0y i0a (c0A (s0_0,s0_1,t7,t8)))=(j0m s0_0 s0_1 t7 t8).map (sm c0A u0W):=by
 unfold j0m;exact go K0Q @q0h
def m0M(s0_0:Bool)(s0_1:List UInt8)(t7 t8:Int):Option r0d:=iter (fun x:(Bool×List UInt8×Int×Int)=>j0m x.1 x.2.1 x.2.2.1 x.2.2.2) (s0_0,s0_1,t7,t8)
theorem w0O(s0_0:Bool)(s0_1:List UInt8)(t7 t8:Int):(h0S mm) (itW (lp (E0 mm) 147 1 a0y i0a) (c0A (s0_0,s0_1,t7,t8)))=(m0M s0_0 s0_1 t7 t8).map u0W:=
 it_sim (K:=(h0S mm)) rfl (enc:=c0A) (fun x=>x0M x.1 x.2.1 x.2.2.1 x.2.2.2) (s0_0,s0_1,t7,t8)
def x0m(s_0:Bool)(s_1:List UInt8):Option r0d:=
 m0M s_0 s_1 (s_1.length:Int) (0:Int)
theorem K0C(s_0:Bool)(s_1:List UInt8):
  callW (E0 mm) 147 [cd (.lst s_0 (enL enB s_1)),.c (.fn 143 [(0,0)])] [.cells [.d (.sc (.func (.func 115) #[] #[]))]]=(x0m s_0 s_1).map u0W:=by
 rw[cR d0L [.tmp 4] Tryz.func147]
 unfold x0m;exact go K0Q @w0O
abbrev M0s:=(Bool)
def Q0i(x:M0s):AV×Heap:=(vd (dB x),[.cells [.d (.sc (.func (.func 115) #[] #[]))]])
def B0k(s_0:Bool)(s_1:List UInt8):Option M0s:=
 (x0m s_0 s_1).bind fun yr2=>
  some (decide (0≤yr2))
def U0w:=Q (rx n0C) (Q (rx n0D) (Q @K0C (Q @u0W.eq_1 (Q (nE g0J (.seq n0C (.seq n0D .ret))) hA))))
theorem v0c(s_0:Bool)(s_1:List UInt8):
  callW (E0 mm) 120 [cd (.lst s_0 (enL enB s_1)),.c (.fn 143 [(0,0)])] [.cells [.d (.sc (.func (.func 115) #[] #[]))]]=(B0k s_0 s_1).map Q0i:=by
 rw[cR g0J [.tmp 4] Tryz.func120]
 unfold B0k;exact go U0w trivial
noncomputable def n0x:Code:=bodyOf Tryz.f114
def C0I:=cA n0x
def C0J:=cA (cB n0x)
abbrev U0N:=(Bool)
def V0z(x:U0N):AV×Heap:=(vd (dB x),[])
def T0c(s:Bs):Option U0N:=
 (B0k false s).bind fun yr2=>
  some (!yr2)
def W0l:=Q (rx C0I) (Q (rx C0J) (Q @hd44 (Q @rw45 (Q (fun (mm:Int) (s:Bs)=>(show callW (E0 mm) 120 [cd (.lst false (enL enB s)),.c (.fn 143 [(0,0)])] [.cells [.d (.sc (.func (.func 115) #[] #[]))]]=_ from v0c false s)) (Q @v0c (Q @Q0i.eq_1 (Q (nE n0x (.seq C0I (.seq C0J .ret))) hA)))))))
theorem Q0x(s:Bs):
  callW (E0 mm) 114 [cd (dS s),cd (.sc (.func (.func 115) #[] #[]))] []=(T0c s).map V0z:=by
 rw[cR n0x [.tmp 4] Tryz.func114]
 unfold T0c;exact go W0l trivial
noncomputable def y0G:Code:=bodyOf Tryz.f69
def O0P:=cA y0G
def O0Q:=cA (cB y0G)
abbrev R69:=(Bool)
def e69(x:R69):AV×Heap:=(vd (dB x),[])
def m69(s:Bs):Option R69:=
 if (s==([]:Bs))=true then
  some false
 else
  (T0c s).bind fun yr3=>
   some yr3
def k69:=Q (rx O0P) (Q (rx O0Q) (Q @ent114 (Q @prm114 (Q @Q0x (Q @V0z.eq_1 (Q (nE y0G (.seq O0P (.seq O0Q .ret))) hA))))))
theorem R0m(s:Bs):
  callW (E0 mm) 69 [cd (dS s)] []=(m69 s).map e69:=by
 rw[cR y0G [.tmp 2] Tryz.func69]
 unfold m69;exact go k69 trivial
noncomputable def n0W:Code:=bodyOf Tryz.f155
def E0Q:=cA n0W
def E0R:=cA (cB n0W)
abbrev V0h:=(Bool)
def V0Q(x:V0h):AV×Heap:=(vd (dB x),[])
def T0n(c:UInt8):Option V0h:=
 if (c==(9:UInt8))=true then
  some true
 else
  if (decide ((32:UInt8)≤c))=true then
   some (!(c==(127:UInt8)))
  else
   some false
def W0F:=Q (rx E0Q) (Q (rx E0R) (Q (nE n0W (.seq E0Q (.seq E0R .ret))) hA))
theorem Q0Z(c:UInt8):
  callW (E0 mm) 155 [cd (.sc (.int .u8 ((c).toNat:Int)))] []=(T0n c).map V0Q:=by
 rw[cR n0W [.tmp 2] Tryz.func155]
 unfold T0n;exact go W0F trivial
noncomputable def g0T:Code:=bodyOf Tryz.f141
def E0j:=cA g0T
def E0k:=cA (cA (cB g0T))
def n0M:=cB (cA (cB g0T))
def E0l:=cA (cA n0M)
def a0S:=cB (cB g0T)
def t0u:=cA a0S
def t0v:=cA (cB a0S)
def t0w:=cA (cA (cB (cB a0S)))
def l0T:=cA (cB (cA (cB (cB a0S))))
def a0q:=cA l0T
def t0x:=cA (cA a0q)
def t0y:=cA (cA (cA (cA (cA (cB a0q)))))
def t0z:=cA (cA (cB (cA (cA (cA (cA (cB a0q)))))))
def t0A:=cA (cB (cB (cA (cA (cA (cA (cB a0q)))))))
def t0B:=cA (cA (cB (cB (cB (cA (cA (cA (cA (cB a0q)))))))))
def t0C:=cA (cB (cA (cB (cB (cB (cA (cA (cA (cA (cB a0q))))))))))
def t0D:=cA (cA (cB (cB (cA (cB (cB (cB (cA (cA (cA (cA (cB a0q))))))))))))
def d0j:=cB (cA (cA (cB a0q)))
def t0E:=cA (cA d0j)
def t0F:=cA (cA (cB (cA d0j)))
def t0G:=cB d0j
def l0U:=cB (cB a0q)
def e0R:=cB (cB (cB a0S))
def t0H:=cA e0R
def j0C:List (Nat×Co):=[(4,.own),(5,.keep),(6,.keep)]
abbrev b141(mm:Int):=bodyD (E0 mm) [.tmp 2,.tmp 3] 0 false
abbrev K0e:=(Bs×Bool)
def K0w(x:K0e):AV×Heap:=(.tup [cd (dS x.1),cd (dB x.2)],[])
def b0V(b4_0:Bool)(b4_1:List UInt8)(in5:Bs)(i6:Int):Option ((Bool×List UInt8×Bs×Int) ⊕ K0e):=
 if 0≤i6∧i6<(in5.length:Int) then
  (T0n (in5.getD i6.toNat 0)).bind fun yr14=>
   if yr14=true then
    if (b4_1.length+1)*1≤140737488355328 then
     some (.inl (false,(b4_1++([(in5.getD i6.toNat 0)]:List UInt8)),in5,(w64 (i6+1))))
    else none
   else
    some (.inr (([]:Bs),false))
 else none
def e0u(mm:Int)(r:Option (Ex×St)):Option (AV×Heap):=b141 mm (sq (E0 mm) 141 0 e0R (blockD 0 (r)))
def b0h(x:(Bool×List UInt8×Bs×Int)):X:=(none,[.v (.c (.own x.1 (enL enB x.2.1) 0)),vd (dS x.2.2.1),vd (dI x.2.2.2)],[.row x.2.1.length (rz x.1 1)])
def R0H:=Q (rx t0E) (Q @ent155 (Q @prm155 (Q @Q0Z (Q @V0Q.eq_1 (Q (rx t0G) (Q @hd46 (Q @nv47 (Q @rw48 (Q (rx l0U) (Q (rx t0F) (Q @e0u.eq_1 (Q (rx t0H) (Q (rx t0x) (Q (rx t0y) (Q (rx t0z) (Q (rx t0A) (Q (rx t0B) (Q (rx t0C) (Q (rx t0D) (Q (rx E0l) (Q (rx t0u) (Q (rx t0v) (Q (rx t0w) (Q (fun mm=>lx (E0 mm) 141 l0T a0q j0C) (Q (rx E0j) (Q (rx E0k) (Q (nE g0T (.seq E0j (.seq (.seq E0k n0M) a0S))) (Q (nE a0S (.seq t0u (.seq t0v (.seq (.seq t0w (.block 0 l0T)) e0R)))) (Q (nE a0q (.seq (.seq t0x (.cond _ .skip (.exit 0))) (.seq (.block 1 (.seq (.block 2 (.seq t0y (.cond _ (.seq t0z .ret) (.seq t0A (.cond _ (.seq t0B (.seq t0C (.cond _ (.seq t0D .ret) .skip))) .skip))))) d0j)) l0U))) (Q @b0h.eq_1 (Q @j0C.eq_1 hA)))))))))))))))))))))))))))))))
theorem v0R(b4_0:Bool)(b4_1:List UInt8)(in5:Bs)(i6:Int)(sl:Sl)(_:sl 4=.v (.c (.own b4_0 (enL enB b4_1) 0)))(_:sl 5=vd (dS in5))(_:sl 6=vd (dI i6)):
  stepE (e0u mm) (loopK 0 j0C (sq (E0 mm) 141 0 l0U (blockD 1 (dn (E0 mm) 141 0 d0j sl [.row b4_1.length (rz b4_0 1)]))))=(b0V b4_0 b4_1 in5 i6).map (sm b0h K0w):=by
 unfold b0V;exact go (Q (nE d0j (.seq (.seq t0E (.cond _ (.seq t0F .ret) .skip)) t0G)) R0H) trivial
def i0M(b4_0:Bool)(b4_1:List UInt8):Option K0e:=
 some (b4_1,true)
theorem v0S(b4_0:Bool)(b4_1:List UInt8)(sl:Sl)(_:sl 4=.v (.c (.own b4_0 (enL enB b4_1) 0))):
  b141 mm (dn (E0 mm) 141 0 e0R sl [.row b4_1.length (rz b4_0 1)])=(i0M b4_0 b4_1).map K0w:=by
 unfold i0M;exact go (Q (nE e0R (.seq t0H .ret)) R0H) trivial
def j0l(b4_0:Bool)(b4_1:List UInt8)(in5:Bs)(i6:Int):Option ((Bool×List UInt8×Bs×Int) ⊕ K0e):=
 if (decide (i6<(in5.length:Int)))=true then
  if 0≤i6∧i6<(in5.length:Int) then
   if ((in5.getD i6.toNat 0)==(34:UInt8))=true then
    some (.inr (([]:Bs),false))
   else
    if ((in5.getD i6.toNat 0)==(92:UInt8))=true then
     if ((w64 (i6+1))==(in5.length:Int))=true then
      some (.inr (([]:Bs),false))
     else
      b0V b4_0 b4_1 in5 (w64 (i6+1))
    else
     b0V b4_0 b4_1 in5 i6
  else none
 else
  (i0M b4_0 b4_1).map .inr
theorem x0L(b4_0:Bool)(b4_1:List UInt8)(in5:Bs)(i6:Int):
  stepE (e0u mm) (lp (E0 mm) 141 0 a0q j0C (b0h (b4_0,b4_1,in5,i6)))=(j0l b4_0 b4_1 in5 i6).map (sm b0h K0w):=by
 unfold j0l;exact go R0H (Q @v0R @v0S)
def j0f(b4_0:Bool)(b4_1:List UInt8)(in5:Bs)(i6:Int):Option K0e:=iter (fun x:(Bool×List UInt8×Bs×Int)=>j0l x.1 x.2.1 x.2.2.1 x.2.2.2) (b4_0,b4_1,in5,i6)
theorem w0N(b4_0:Bool)(b4_1:List UInt8)(in5:Bs)(i6:Int):(e0u mm) (itW (lp (E0 mm) 141 0 a0q j0C) (b0h (b4_0,b4_1,in5,i6)))=(j0f b4_0 b4_1 in5 i6).map K0w:=
 it_sim (K:=(e0u mm)) rfl (enc:=b0h) (fun x=>x0L x.1 x.2.1 x.2.2.1 x.2.2.2) (b4_0,b4_1,in5,i6)
def f0M(s0:Bs)(t22:Bool):Option K0e:=
 if t22=true then
  some (([]:Bs),false)
 else
  (bnd (w64 ((s0.length:Int) - 1)) s0.length).bind fun yk4=>
   (bnd 1 yk4).bind fun yk6=>
    j0f true ([]:List UInt8) ((s0.take yk4).drop yk6) (0:Int)
theorem z0m(s0:Bs)(t22:Bool)(sl:Sl)(_:sl 0=vd (dS s0))(_:sl 22=vd (dB t22)):
  b141 mm (sq (E0 mm) 141 0 a0S (dn (E0 mm) 141 0 n0M sl []))=(f0M s0 t22).map K0w:=by
 unfold f0M;exact go (Q (nE n0M (.cond _ (.seq E0l .ret) .skip)) R0H) @w0N
def S0k(s:Bs):Option K0e:=
 if (decide ((s.length:Int)<2))=true then
  f0M s true
 else
  if (0:Int)<(s.length:Int) then
   if ((s.getD 0 0)==(34:UInt8))=true then
    if 0≤(w64 ((s.length:Int) - 1))∧(w64 ((s.length:Int) - 1))<(s.length:Int) then
     f0M s (!((s.getD (w64 ((s.length:Int) - 1)).toNat 0)==(34:UInt8)))
    else none
   else
    f0M s true
  else none
theorem Q0O(s:Bs):
  callW (E0 mm) 141 [cd (dS s)] []=(S0k s).map K0w:=by
 rw[cR g0T [.tmp 2,.tmp 3] Tryz.func141]
 unfold S0k;exact go R0H @z0m
noncomputable def c0a:Code:=bodyOf Tryz.f107
def C0l:=cA c0a
def C0m:=cA (cB c0a)
def C0n:=cA (cA (cB (cB c0a)))
def C0o:=cA (cA (cB (cA (cB (cB c0a)))))
def r0U:=cA (cA (cB (cB (cB c0a))))
def i0h:=cB (cA (cB (cB (cB c0a))))
def r0V:=cA (cA i0h)
def b0A:=cB (cB (cB (cB c0a)))
def r0W:=cA b0A
def r0X:=cA (cA (cB b0A))
def r0Y:=cA (cA (cB (cA (cB b0A))))
def r0Z:=cA (cB (cB b0A))
abbrev T0w:=(Bs×Bs×Bool)
def T0B(x:T0w):AV×Heap:=(.tup [cd (dS x.1),cd (dS x.2.1),cd (dB x.2.2)],[])
def d0v(name5 value6:Bs)(t24:Bool):Option T0w:=
 if t24=true then
  (m63 name5).bind fun yr11=>
   some (yr11,value6,true)
 else
  (S0k value6).bind fun yr13=>
   if yr13.2=true then
    (m63 name5).bind fun yr16=>
     some (yr16,yr13.1,true)
   else
    some (([]:Bs),([]:Bs),false)
def V0Z:=Q (rx r0V) (Q @z0a (Q @e63.eq_1 (Q (rx r0W) (Q @ent141 (Q @prm141 (Q @Q0O (Q @K0w.eq_1 (Q (rx r0X) (Q (rx r0Z) (Q (rx r0Y) (Q (rx C0l) (Q (rx C0m) (Q @ent140 (Q @prm140 (Q (fun (mm:Int) (s:Bs)=>(show callW (E0 mm) 140 [cd (dS s),cd (dS ([61]:Bs))] []=_ from J0t s ([61]:Bs))) (Q @J0t (Q @V0I.eq_1 (Q (rx C0n) (Q @R0m (Q @e69.eq_1 (Q (rx r0U) (Q (rx C0o) (Q (nE c0a (.seq C0l (.seq C0m (.seq (.seq C0n (.cond _ (.seq C0o .ret) .skip)) (.seq (.seq r0U i0h) b0A))))) (Q (nE b0A (.seq r0W (.seq (.seq r0X (.cond _ (.seq r0Y .ret) .skip)) (.seq r0Z .ret)))) hA))))))))))))))))))))))))
theorem v0q(name5 value6:Bs)(t24:Bool)(sl:Sl)(_:sl 5=vd (dS name5))(_:sl 6=vd (dS value6))(_:sl 24=vd (dB t24)):
  bodyD (E0 mm) [.tmp 2,.tmp 3,.tmp 4] 0 false (sq (E0 mm) 107 0 b0A (dn (E0 mm) 107 0 i0h sl []))=(d0v name5 value6 t24).map T0B:=by
 unfold d0v;exact go (Q (nE i0h (.cond _ (.seq r0V .ret) .skip)) V0Z) trivial
def R0W(s:Bs):Option T0w:=
 (S0j s ([61]:Bs)).bind fun yr2=>
  (m69 yr2.1).bind fun yr4=>
   if yr4=true then
    if yr2.2.2=true then
     (m69 yr2.2.1).bind fun yr8=>
      d0v yr2.1 yr2.2.1 yr8
    else
     d0v yr2.1 yr2.2.1 true
   else
    some (([]:Bs),([]:Bs),false)
theorem Q0r(s:Bs):
  callW (E0 mm) 107 [cd (dS s)] []=(R0W s).map T0B:=by
 rw[cR c0a [.tmp 2,.tmp 3,.tmp 4] Tryz.func107]
 unfold R0W;exact go V0Z @v0q
noncomputable def m0g:Code:=bodyOf Tryz.f59
def O0s:=cA m0g
def O0t:=cA (cB m0g)
def O0u:=cA (cA (cB (cB m0g)))
def K0p:=cA (cB (cA (cB (cB m0g))))
def g0t:=cA K0p
def H0K:=cA g0t
def H0L:=cA (cA (cA (cB (cB g0t))))
def H0M:=cA (cB (cA (cA (cB (cB g0t)))))
def H0N:=cA (cB (cB (cA (cA (cB (cB g0t))))))
def H0O:=cA (cB (cB (cB (cA (cA (cB (cB g0t)))))))
def u0A:=cB (cB (cB g0t))
def g0Z:=cB (cB (cB m0g))
def H0P:=cA g0Z
def q0S:List (Nat×Co):=[(3,.freeze),(11,.freeze),(12,.freeze),(13,.freeze)]
abbrev b59(mm:Int):=bodyD (E0 mm) [.tmp 2] 0 false
abbrev R59:=(List (Bs×List Bs))
def e59(x:R59):AV×Heap:=(.v (.c (.mp 0)),[.amap (enM x)])
def h0x(t11_0:Bool)(t11_1:List Bs)(t12 t13:Int)(kv0:Kvs):Option ((Bool×List Bs×Int×Int×Kvs) ⊕ R59):=
 some (.inl (t11_0,t11_1,t12,(w64 (t13+1)),kv0))
def y0g(mm:Int)(r:Option (Ex×St)):Option (AV×Heap):=b59 mm (sq (E0 mm) 59 0 g0Z (blockD 0 (r)))
def u0Z(x:(Bool×List Bs×Int×Int×Kvs)):X:=(none,[.v (.c (.mp 0)),vd (.lst x.1 (enL enS x.2.1)),vd (dI x.2.2.1),vd (dI x.2.2.2.1)],(HO x.2.2.2.2))
def k59:=Q @closeHO_c (Q @renHO (Q @idxHO0 (Q (rx H0P) (Q @frzHO (Q @closeHF_c (Q @HF_0 (Q (rx H0K) (Q (rx H0L) (Q (rx H0M) (Q @ent107 (Q @prm107 (Q @Q0r (Q @T0B.eq_1 (Q (rx H0N) (Q (rx H0O) (Q @HO_0 (Q @findO (Q @hd49 (Q @nv50 (Q @rw51 (Q @ao45O (Q @HO_s0 (Q @HO_put (Q @findO0 (Q @ao45O0 (Q @HO_a0 (Q @HO_put0 (Q @y0g.eq_1 (Q (rx O0s) (Q (rx O0t) (Q (rx O0u) (Q (fun (mm:Int) (l_0:Bool) (l_1:List (Bs×Bs))=>(show callW (E0 mm) 26 [cd (.lst l_0 (enL enSS l_1)),cd (dS ([99,97,99,104,101,45,99,111,110,116,114,111,108]:Bs))] []=_ from k0K l_0 l_1 ([99,97,99,104,101,45,99,111,110,116,114,111,108]:Bs))) (Q @k0K (Q @e26.eq_1 (Q (fun mm=>lx (E0 mm) 59 K0p g0t q0S) (Q (nE m0g (.seq O0s (.seq O0t (.seq (.seq O0u (.block 0 K0p)) g0Z)))) (Q (nE g0t (.seq H0K (.seq (.cond _ .skip (.exit 0)) (.seq (.block 1 (.seq H0L (.seq H0M (.seq H0N (.cond _ H0O .skip))))) u0A)))) (Q @q0S.eq_1 hA))))))))))))))))))))))))))))))))))))))
theorem z0Z(t11_0:Bool)(t11_1:List Bs)(t12 t13:Int)(kv0:Kvs)(sl:Sl)(_:sl 3=.v (.c (.mp 0)))(_:sl 11=vd (.lst t11_0 (enL enS t11_1)))(_:sl 12=vd (dI t12))(_:sl 13=vd (dI t13)):
  stepE (y0g mm) (loopK 0 q0S (den (E0 mm) 59 0 (callW (E0 mm)) itW u0A none ⟨sl,(HO kv0)⟩))=(h0x t11_0 t11_1 t12 t13 kv0).map (sm u0Z e59):=by
 unfold h0x;exact go (Q (rx u0A) k59) trivial
def o0X(kv0:Kvs):Option R59:=
 some kv0
theorem A0a(kv0:Kvs)(sl:Sl)(_:sl 3=.v (.c (.mp 0))):
  b59 mm (den (E0 mm) 59 0 (callW (E0 mm)) itW g0Z none ⟨sl,(HO kv0)⟩)=(o0X kv0).map e59:=by
 unfold o0X;exact go (Q (nE g0Z (.seq H0P .ret)) k59) trivial
def q0A(t11_0:Bool)(t11_1:List Bs)(t12 t13:Int)(kv0:Kvs):Option ((Bool×List Bs×Int×Int×Kvs) ⊕ R59):=
 if (decide (t13<t12))=true then
  if 0≤t13∧t13<(t11_1.length:Int) then
   (R0W (t11_1.getD t13.toNat default)).bind fun yr7=>
    if yr7.2.2=true then
     if (hasM yr7.1 kv0)=true then
      if ((valM yr7.1 kv0).length+1)*16≤140737488355328 then
       h0x t11_0 t11_1 t12 t13 (appM yr7.1 yr7.2.1 kv0)
      else none
     else
      h0x t11_0 t11_1 t12 t13 (kv0++[(yr7.1,[yr7.2.1])])
    else
     h0x t11_0 t11_1 t12 t13 kv0
  else none
 else
  (o0X kv0).map .inr
theorem M0a(t11_0:Bool)(t11_1:List Bs)(t12 t13:Int)(kv0:Kvs):
  stepE (y0g mm) (lp (E0 mm) 59 0 g0t q0S (none,[.v (.c (.mp 0)),vd (.lst t11_0 (enL enS t11_1)),vd (dI t12),vd (dI t13)],(HO kv0)))=(q0A t11_0 t11_1 t12 t13 kv0).map (sm u0Z e59):=by
 unfold q0A;exact go k59 (Q @z0Z @A0a)
def R0P(t11_0:Bool)(t11_1:List Bs)(t12 t13:Int)(kv0:Kvs):Option R59:=iter (fun x:(Bool×List Bs×Int×Int×Kvs)=>q0A x.1 x.2.1 x.2.2.1 x.2.2.2.1 x.2.2.2.2) (t11_0,t11_1,t12,t13,kv0)
theorem L0b(t11_0:Bool)(t11_1:List Bs)(t12 t13:Int)(kv0:Kvs):b59 mm (sq (E0 mm) 59 0 g0Z (blockD 0 (itW (lp (E0 mm) 59 0 g0t q0S) (none,[.v (.c (.mp 0)),vd (.lst t11_0 (enL enS t11_1)),vd (dI t12),vd (dI t13)],(HO kv0)))))=(R0P t11_0 t11_1 t12 t13 kv0).map e59:=
 it_sim (K:=(y0g mm)) rfl (enc:=u0Z) (fun x=>M0a x.1 x.2.1 x.2.2.1 x.2.2.2.1 x.2.2.2.2) (t11_0,t11_1,t12,t13,kv0)
def m59(l_0:Bool)(l_1:List (Bs×Bs)):Option R59:=
 (m26 l_0 l_1 ([99,97,99,104,101,45,99,111,110,116,114,111,108]:Bs)).bind fun yr2=>
  R0P yr2.1 yr2.2 (yr2.2.length:Int) (0:Int) ([]:Kvs)
theorem R0g(l_0:Bool)(l_1:List (Bs×Bs)):
  callW (E0 mm) 59 [cd (.lst l_0 (enL enSS l_1))] []=(m59 l_0 l_1).map e59:=by
 rw[cR m0g [.tmp 2] Tryz.func59]
 unfold m59;exact go k59 @L0b
noncomputable def j0G:Code:=bodyOf Tryz.f108
def C0p:=cA j0G
def C0q:=cA (cB j0G)
def C0r:=cA (cB (cB j0G))
abbrev U0J:=(Bool)
def V0w(gm1:List (Bs×List Bs))(x:U0J):AV×Heap:=(vd (dB x),[.cells [.mp 1],.amap (enM gm1)])
def S0Z(name:Bs)(gm1:List (Bs×List Bs)):Option U0J:=
 some (hasM name gm1)
def W0h:=Q (rx C0p) (Q (rx C0q) (Q (rx C0r) (Q (nE j0G (.seq C0p (.seq C0q (.seq C0r .ret)))) hA)))
theorem Q0s(name:Bs)(gm1:List (Bs×List Bs)):
  callW (E0 mm) 108 [cd (dS name),.c (.ptr 0 0)] [.cells [.mp 1],.amap (enM gm1)]=(S0Z name gm1).map (V0w gm1):=by
 rw[cR j0G [.tmp 3] Tryz.func108]
 unfold S0Z;exact go W0h trivial
abbrev b123a(mm:Int):=bodyD (E0 mm) [.tmp 4] 2 false
abbrev r0a:=(Int)
def h0X:List (Nat×Co):=[(0,.keep),(1,.keep),(7,.keep),(8,.keep)]
def u0T(gm1:List (Bs×List Bs))(x:r0a):AV×Heap:=(vd (dI x),[.cells [.mp 1],.amap (enM gm1)])
def e0c(gm1:List (Bs×List Bs)): Option r0a:=
 some (-1:Int)
def l0x(mm:Int)(r:Option (Ex×St)):Option (AV×Heap):=b123a mm (sq (E0 mm) 123 2 a0d (blockD 0 (r)))
def o0E(gm1:List (Bs×List Bs)):(Bool×List Bs×Int×Int)→X:=fun x=>(none,[vd (.lst x.1 (enL enS x.2.1)),.v (.c (.fn 108 [(0,0)])),vd (dI x.2.2.1),vd (dI x.2.2.2)],[.cells [.mp 1],.amap (enM gm1)])
def K0K:=Q (rx a0R) (Q (rx d0G) (Q (rx a0N) (Q (rx a0O) (Q @ent108 (Q @prm108 (Q @Q0s (Q @V0w.eq_1 (Q (rx a0P) (Q @l0x.eq_1 (Q (rx a0Q) (Q (rx d0E) (Q (rx d0F) (Q (fun mm=>lx (E0 mm) 123 c0c a0f h0X) (Q (nE a0G (.seq d0E (.seq (.seq d0F (.block 0 c0c)) a0d))) (Q (nE a0f (.seq d0G (.seq (.cond _ .skip (.exit 0)) (.seq (.block 1 (.seq a0N (.seq a0O (.cond _ (.seq a0P .ret) .skip)))) a0Q)))) (Q @h0X.eq_1 hA))))))))))))))))
theorem q0d(gm1:List (Bs×List Bs))(sl:Sl):
  b123a mm (dn (E0 mm) 123 2 a0d sl [.cells [.mp 1],.amap (enM gm1)])=(e0c gm1).map (u0T gm1):=by
 unfold e0c;exact go (Q (nE a0d (.seq a0R .ret)) K0K) trivial
def g0b(gm1:List (Bs×List Bs))(s0_0:Bool)(s0_1:List Bs)(t7 t8:Int):Option ((Bool×List Bs×Int×Int) ⊕ r0a):=
 if (decide (t8<t7))=true then
  if 0≤t8∧t8<(s0_1.length:Int) then
   (S0Z (s0_1.getD t8.toNat default) gm1).bind fun yr5=>
    if yr5=true then
     some (.inr t8)
    else
     some (.inl (s0_0,s0_1,t7,(w64 (t8+1))))
  else none
 else
  (e0c gm1).map .inr
theorem x0D(gm1:List (Bs×List Bs))(s0_0:Bool)(s0_1:List Bs)(t7 t8:Int):
  stepE (l0x mm) (lp (E0 mm) 123 2 a0f h0X (none,[vd (.lst s0_0 (enL enS s0_1)),.v (.c (.fn 108 [(0,0)])),vd (dI t7),vd (dI t8)],[.cells [.mp 1],.amap (enM gm1)]))=(g0b gm1 s0_0 s0_1 t7 t8).map (sm (o0E gm1) (u0T gm1)):=by
 unfold g0b;exact go K0K @q0d
def w0y(gm1:List (Bs×List Bs))(s0_0:Bool)(s0_1:List Bs)(t7 t8:Int):Option r0a:=iter (fun x:(Bool×List Bs×Int×Int)=>g0b gm1 x.1 x.2.1 x.2.2.1 x.2.2.2) (s0_0,s0_1,t7,t8)
theorem w0z(gm1:List (Bs×List Bs))(s0_0:Bool)(s0_1:List Bs)(t7 t8:Int):b123a mm (sq (E0 mm) 123 2 a0d (blockD 0 (itW (lp (E0 mm) 123 2 a0f h0X) (none,[vd (.lst s0_0 (enL enS s0_1)),.v (.c (.fn 108 [(0,0)])),vd (dI t7),vd (dI t8)],[.cells [.mp 1],.amap (enM gm1)]))))=(w0y gm1 s0_0 s0_1 t7 t8).map (u0T gm1):=
 it_sim (K:=(l0x mm)) rfl (enc:=(o0E gm1)) (fun x=>x0D gm1 x.1 x.2.1 x.2.2.1 x.2.2.2) (s0_0,s0_1,t7,t8)
def B0n(s_0:Bool)(s_1:List Bs)(gm1:List (Bs×List Bs)):Option r0a:=
 w0y gm1 s_0 s_1 (s_1.length:Int) (0:Int)
theorem K0z(s_0:Bool)(s_1:List Bs)(gm1:List (Bs×List Bs)):
  callW (E0 mm) 123 [cd (.lst s_0 (enL enS s_1)),.c (.fn 108 [(0,0)])] [.cells [.mp 1],.amap (enM gm1)]=(B0n s_0 s_1 gm1).map (u0T gm1):=by
 rw[cR a0G [.tmp 4] Tryz.func123]
 unfold B0n;exact go K0K @w0z
abbrev V0j:=(Bool)
def V0S(gm1:List (Bs×List Bs))(x:V0j):AV×Heap:=(vd (dB x),[.cells [.mp 1],.amap (enM gm1)])
def T0q(s_0:Bool)(s_1:List Bs)(gm1:List (Bs×List Bs)):Option V0j:=
 (B0n s_0 s_1 gm1).bind fun yr2=>
  some (decide (0≤yr2))
def W0H:=Q (rx k0w) (Q (rx k0x) (Q @K0z (Q @u0T.eq_1 (Q (nE g0u (.seq k0w (.seq k0x .ret))) hA))))
theorem R0r(s_0:Bool)(s_1:List Bs)(gm1:List (Bs×List Bs)):
  callW (E0 mm) 79 [cd (.lst s_0 (enL enS s_1)),.c (.fn 108 [(0,0)])] [.cells [.mp 1],.amap (enM gm1)]=(T0q s_0 s_1 gm1).map (V0S gm1):=by
 rw[cR g0u [.tmp 4] Tryz.func79]
 unfold T0q;exact go W0H trivial
noncomputable def y0A:Code:=bodyOf Tryz.f60
def O0v:=cA y0A
def O0w:=cA (cB y0A)
abbrev R60:=(Bool)
def e60(gm0:List (Bs×List Bs))(x:R60):AV×Heap:=(vd (dB x),[.amap (enM gm0)])
def m60(names_0:Bool)(names_1:List Bs)(gm0:List (Bs×List Bs)):Option R60:=
 (T0q names_0 names_1 gm0).bind fun yr2=>
  some yr2
def k60:=Q (rx O0v) (Q (rx O0w) (Q @R0r (Q @V0S.eq_1 (Q (nE y0A (.seq O0v (.seq O0w .ret))) hA))))
theorem g0x(names_0:Bool)(names_1:List Bs)(gm0:List (Bs×List Bs)):
  callW (E0 mm) 60 [.c (.mp 0),cd (.lst names_0 (enL enS names_1))] [.amap (enM gm0)]=(m60 names_0 names_1 gm0).map (e60 gm0):=by
 rw[cR y0A [.tmp 4] Tryz.func60]
 unfold m60;exact go k60 trivial
noncomputable def g0V:Code:=bodyOf Tryz.f152
def E0I:=cA g0V
def E0J:=cA (cA (cB g0V))
def n0V:=cB (cA (cB g0V))
def E0K:=cA (cA n0V)
def i0v:=cB (cB g0V)
def t0W:=cA i0v
abbrev T0z:=(Int)
def T0G(x:T0z):AV×Heap:=(vd (dI x),[])
def k0Q(c0:Int)(t8:Bool):Option T0z:=
 if t8=true then
  some (w64 (w32 (c0 - 48)))
 else
  some (-1:Int)
def W0c:=Q (rx E0K) (Q @Tryz.underlying21 (Q (rx t0W) (Q (rx E0I) (Q (rx E0J) (Q (nE g0V (.seq E0I (.seq (.seq E0J n0V) i0v))) (Q (nE i0v (.seq t0W .ret)) hA))))))
theorem z0o(c0:Int)(t8:Bool)(sl:Sl)(_:sl 0=vd (.sc (.int .i32 c0)))(_:sl 8=vd (dB t8)):
  bodyD (E0 mm) [.tmp 2] 0 false (sq (E0 mm) 152 0 i0v (dn (E0 mm) 152 0 n0V sl []))=(k0Q c0 t8).map T0G:=by
 unfold k0Q;exact go (Q (nE n0V (.cond _ (.seq E0K .ret) .skip)) W0c) trivial
def L0K(c:Int):Option T0z:=
 if (decide (48≤c))=true then
  k0Q c (decide (c≤57))
 else
  k0Q c false
theorem Q0X(c:Int):
  callW (E0 mm) 152 [cd (.sc (.int .i32 c))] []=(L0K c).map T0G:=by
 rw[cR g0V [.tmp 2] Tryz.func152]
 unfold L0K;exact go W0c @z0o
noncomputable def c0g:Code:=bodyOf Tryz.f151
def E0F:=cA c0g
def E0G:=cA (cA (cB c0g))
def E0H:=cA (cA (cB (cA (cB c0g))))
def t0K:=cA (cB (cB c0g))
def t0L:=cA (cA (cB (cB (cB c0g))))
def l0V:=cA (cB (cA (cB (cB (cB c0g)))))
def a0s:=cA l0V
def t0M:=cA a0s
def t0N:=cA (cA (cB (cB a0s)))
def t0O:=cA (cB (cA (cB (cB a0s))))
def t0P:=cA (cA (cB (cB (cA (cB (cB a0s))))))
def t0Q:=cA (cA (cB (cA (cB (cB (cA (cB (cB a0s))))))))
def t0R:=cA (cA (cB (cB (cB (cA (cB (cB a0s)))))))
def i0u:=cB (cA (cB (cB (cB (cA (cB (cB a0s)))))))
def t0S:=cA (cA i0u)
def l0W:=cB (cB (cB (cB (cA (cB (cB a0s))))))
def b0J:=cB (cB (cB (cB c0g)))
def t0T:=cA (cA b0J)
def t0U:=cA (cA (cB (cA b0J)))
def t0V:=cA (cB b0J)
def j0D:List (Nat×Co):=[(1,.keep),(2,.keep),(8,.keep),(9,.keep),(16,.keep)]
abbrev M0g:=(Int×Int)
def M0j(x:M0g):AV×Heap:=(.tup [cd (dU x.1),cd (dI x.2)],[])
def b0W(base1 n8:Int)(long9:Bool)(d12:Int)(t34:Bool)(s0:Bs)(p0:Nat):Option ((Int×Int×Bool×Bs×Nat) ⊕ M0g):=
 if t34=true then
  some (.inl (base1,n8,true,s0,p0))
 else
  some (.inl (base1,(wu64 ((wu64 (n8*base1))+(wu64 d12))),long9,s0,p0))
def e0v(mm:Int)(r:Option (Ex×St)):Option (AV×Heap):=bodyD (E0 mm) [.tmp 6,.tmp 7] 0 false (sq (E0 mm) 151 0 b0J (blockD 0 (r)))
def b0i(x:(Int×Int×Bool×Bs×Nat)):X:=(none,[vd (dU x.1),vd (.sc (.func (.func 152) #[] #[])),vd (dU x.2.1),vd (dB x.2.2.1),.v (.c (.it 0))],[.siter (S x.2.2.2.1) x.2.2.2.2])
def S0X:=Q (rx t0S) (Q (rx l0W) (Q (rx t0T) (Q (rx t0U) (Q (rx t0V) (Q (rx t0M) (Q @dec_eq (Q (rx t0N) (Q (rx t0O) (Q @ent152 (Q @prm152 (Q @Q0X (Q @T0G.eq_1 (Q (rx t0P) (Q (rx t0Q) (Q @e0v.eq_1 (Q (rx t0R) (Q @ev_quo0 (Q (rx E0F) (Q (rx E0G) (Q (rx E0H) (Q (rx t0K) (Q (rx t0L) (Q (fun mm=>lx (E0 mm) 151 l0V a0s j0D) (Q (nE c0g (.seq E0F (.seq (.seq E0G (.cond _ (.seq E0H .ret) .skip)) (.seq t0K (.seq (.seq t0L (.block 0 l0V)) b0J))))) (Q (nE a0s (.seq t0M (.seq (.cond _ .skip (.exit 0)) (.block 1 (.seq t0N (.seq t0O (.seq (.seq t0P (.cond _ (.seq t0Q .ret) .skip)) (.seq (.seq t0R i0u) l0W)))))))) (Q @b0i.eq_1 (Q @j0D.eq_1 hA)))))))))))))))))))))))))))
theorem v0U(base1 n8:Int)(long9:Bool)(d12:Int)(t34:Bool)(s0:Bs)(p0:Nat)(sl:Sl)(_:sl 1=vd (dU base1))(_:sl 2=vd (.sc (.func (.func 152) #[] #[])))(_:sl 8=vd (dU n8))(_:sl 9=vd (dB long9))(_:sl 12=vd (dI d12))(_:sl 16=.v (.c (.it 0)))(_:sl 34=vd (dB t34)):
  stepE (e0v mm) (loopK 0 j0D (blockD 1 (sq (E0 mm) 151 0 l0W (dn (E0 mm) 151 0 i0u sl [.siter (S s0) p0]))))=(b0W base1 n8 long9 d12 t34 s0 p0).map (sm b0i M0j):=by
 unfold b0W;exact go (Q (nE i0u (.cond _ (.seq t0S (.exit 1)) .skip)) S0X) trivial
def i0P(n8:Int)(long9:Bool):Option M0g:=
 if long9=true then
  some ((0:Int),(3:Int))
 else
  some (n8,(0:Int))
theorem v0V(n8:Int)(long9:Bool)(g0:Ob)(sl:Sl)(_:sl 8=vd (dU n8))(_:sl 9=vd (dB long9)):
  bodyD (E0 mm) [.tmp 6,.tmp 7] 0 false (dn (E0 mm) 151 0 b0J sl [g0])=(i0P n8 long9).map M0j:=by
 unfold i0P;exact go (Q (nE b0J (.seq (.seq t0T (.cond _ (.seq t0U .ret) .skip)) (.seq t0V .ret))) S0X) trivial
def b0c(base1 n8:Int)(long9:Bool)(s0:Bs)(p0:Nat):Option ((Int×Int×Bool×Bs×Nat) ⊕ M0g):=
 if (decide (p0<s0.length))=true then
  (L0K (uc s0 p0:Int)).bind fun yr5=>
   if (decide (yr5<0))=true then
    some (.inr ((0:Int),(5:Int)))
   else
    if long9=true then
     b0W base1 n8 true yr5 true s0 (p0+uw s0 p0)
    else
     if (base1==0)=false then
      b0W base1 n8 false yr5 (decide ((wu64 ((wu64 (9007199254740991 - (wu64 yr5))).tdiv base1))<n8)) s0 (p0+uw s0 p0)
     else none
 else
  (i0P n8 long9).map .inr
theorem x0N(base1 n8:Int)(long9:Bool)(s0:Bs)(p0:Nat):
  stepE (e0v mm) (lp (E0 mm) 151 0 a0s j0D (b0i (base1,n8,long9,s0,p0)))=(b0c base1 n8 long9 s0 p0).map (sm b0i M0j):=by
 unfold b0c;exact go S0X (Q @v0U @v0V)
def w0Q(base1 n8:Int)(long9:Bool)(s0:Bs)(p0:Nat):Option M0g:=iter (fun x:(Int×Int×Bool×Bs×Nat)=>b0c x.1 x.2.1 x.2.2.1 x.2.2.2.1 x.2.2.2.2) (base1,n8,long9,s0,p0)
theorem w0R(base1 n8:Int)(long9:Bool)(s0:Bs)(p0:Nat):(e0v mm) (itW (lp (E0 mm) 151 0 a0s j0D) (b0i (base1,n8,long9,s0,p0)))=(w0Q base1 n8 long9 s0 p0).map M0j:=
 it_sim (K:=(e0v mm)) rfl (enc:=b0i) (fun x=>x0N x.1 x.2.1 x.2.2.1 x.2.2.2.1 x.2.2.2.2) (base1,n8,long9,s0,p0)
def S0m(s:Bs)(base:Int):Option M0g:=
 if (s==([]:Bs))=true then
  some ((0:Int),(5:Int))
 else
  w0Q base (0:Int) false s 0
theorem Q0W(s:Bs)(base:Int):
  callW (E0 mm) 151 [cd (dS s),cd (dU base),cd (.sc (.func (.func 152) #[] #[]))] []=(S0m s base).map M0j:=by
 rw[cR c0g [.tmp 6,.tmp 7] Tryz.func151]
 unfold S0m;exact go S0X @w0R
noncomputable def n0I:Code:=bodyOf Tryz.f138
def D0N:=cA n0I
def D0O:=cA (cB n0I)
abbrev U0Y:=(Int×Int)
def V0H(x:U0Y):AV×Heap:=(.tup [cd (dU x.1),cd (dI x.2)],[])
def T0h(s:Bs):Option U0Y:=
 (S0m s (10:Int)).bind fun yr2=>
  some (yr2.1,yr2.2)
def W0w:=Q (rx D0N) (Q (rx D0O) (Q @ent151 (Q @prm151 (Q @Q0W (Q @M0j.eq_1 (Q (nE n0I (.seq D0N (.seq D0O .ret))) hA))))))
theorem Q0N(s:Bs):
  callW (E0 mm) 138 [cd (dS s)] []=(T0h s).map V0H:=by
 rw[cR n0I [.tmp 2,.tmp 3] Tryz.func138]
 unfold T0h;exact go W0w trivial
noncomputable def b0o:Code:=bodyOf Tryz.f109
def C0s:=cA b0o
def C0t:=cA (cB b0o)
def C0u:=cA (cA (cB (cB b0o)))
def C0v:=cA (cA (cB (cA (cB (cB b0o)))))
def s0a:=cA (cA (cB (cA (cB (cA (cB (cB b0o)))))))
def s0b:=cA (cB (cB (cA (cB (cA (cB (cB b0o)))))))
def s0c:=cA (cA (cB (cB (cB (cA (cB (cA (cB (cB b0o)))))))))
def s0d:=cA (cB (cB (cB b0o)))
abbrev U0K:=(Int)
def S0T(x:U0K):AV×Heap:=(vd (dI x),[])
def y0a(s:Bs):Option U0K:=
 (T0h s).bind fun yr2=>
  if (yr2.2==0)=true then
   some (w64 (min2 yr2.1 2147483647))
  else
   if (yr2.2==3)=true then
    some (2147483647:Int)
   else
    some (0:Int)
def W0i:=Q (rx C0s) (Q (rx C0t) (Q @ent138 (Q @prm138 (Q @Q0N (Q @V0H.eq_1 (Q (rx C0u) (Q (rx C0v) (Q (rx s0a) (Q (rx s0b) (Q (rx s0c) (Q (rx s0d) (Q (nE b0o (.seq C0s (.seq C0t (.seq (.seq C0u (.block 0 (.seq C0v (.cond _ (.seq s0a .ret) (.seq s0b (.cond _ (.seq s0c .ret) .skip)))))) (.seq s0d .ret))))) hA))))))))))))
theorem v0a(s:Bs):
  callW (E0 mm) 109 [cd (dS s)] []=(y0a s).map S0T:=by
 rw[cR b0o [.tmp 2] Tryz.func109]
 unfold y0a;exact go W0i trivial
noncomputable def f0e:Code:=bodyOf Tryz.f62
def y0B:=cA f0e
def y0C:=cA (cA (cB f0e))
def m0i:=cA (cB (cA (cB f0e)))
def y0D:=cA (cB (cB f0e))
def o0p:=cA (cA (cB (cB (cB f0e))))
def k0o:=cA (cB (cA (cB (cB (cB f0e)))))
def a0V:=cA k0o
def o0q:=cA (cA a0V)
def o0r:=cA (cA (cB a0V))
def o0s:=cB (cB a0V)
def c0p:=cB (cB (cB (cB f0e)))
def o0t:=cA c0p
theorem c62_6_r:RG (E0 mm) 62 m0i:=rgN rfl
def y0o:List (Nat×Co):=[(0,.keep),(3,.keep),(4,.keep)]
abbrev R62:=(Int×List Int)
def e62(x:R62):AV×Heap:=(vd (dI x.1),[.cells (enI x.2)])
def p0b(m3:Int)(h0:List Int):Option R62:=
 some (m3,h0)
def n0g(mm:Int)(r:Option (Ex×St)):Option (AV×Heap):=bodyD (E0 mm) [.tmp 2] 1 false (sq (E0 mm) 62 1 c0p (blockD 0 (r)))
def f0u(x:(Int×Int×List Int)):X:=(none,[.v (.c (.slc 0 0 1 x.2.2.length none)),vd (dI x.1),vd (dI x.2.1)],[.cells (enI x.2.2)])
def k62(mm:Int):=Q (rx o0t) (Q (rx o0q) (Q (rx o0r) (Q @enI_length (Q @enI_load (Q (rx o0s) (Q @n0g.eq_1 (Q (rx y0B) (Q (rx y0C) (Q @c62_6_r (Q (runOps_dead (E:=(E0 mm)) (call:=callW (E0 mm)) (all:=opsOf m0i) (os:=opsOf m0i) (by kernel_rfl)) (Q (rx y0D) (Q (fun l=>enI_load0 l 0) (Q (rx o0p) (Q (fun mm=>lx (E0 mm) 62 k0o a0V y0o) (Q (nE f0e (.seq y0B (.seq (.seq y0C (.cond _ m0i .skip)) (.seq y0D (.seq (.seq o0p (.block 0 k0o)) c0p))))) (Q (nE a0V (.seq (.seq o0q (.cond _ .skip (.exit 0))) (.seq (.block 1 o0r) o0s))) (Q @f0u.eq_1 (Q @y0o.eq_1 hA))))))))))))))))))
theorem A0e(m3:Int)(h0:List Int)(sl:Sl)(_:sl 3=vd (dI m3)):
  bodyD (E0 mm) [.tmp 2] 1 false (dn (E0 mm) 62 1 c0p sl [.cells (enI h0)])=(p0b m3 h0).map e62:=by
 unfold p0b;exact go (Q (nE c0p (.seq o0t .ret)) (k62 mm)) trivial
def h0H(m3 i4:Int)(h0:List Int):Option ((Int×Int×List Int) ⊕ R62):=
 if (decide (i4<(h0.length:Int)))=true then
  if 0≤i4∧i4<(h0.length:Int) then
   some (.inl ((min2 m3 (h0.getD i4.toNat default)),(w64 (i4+1)),h0))
  else none
 else
  (p0b m3 h0).map .inr
theorem B0M(m3 i4:Int)(h0:List Int):
  stepE (n0g mm) (lp (E0 mm) 62 1 a0V y0o (f0u (m3,i4,h0)))=(h0H m3 i4 h0).map (sm f0u e62):=by
 unfold h0H;exact go (k62 mm) @A0e
def J0F(m3 i4:Int)(h0:List Int):Option R62:=iter (fun x:(Int×Int×List Int)=>h0H x.1 x.2.1 x.2.2) (m3,i4,h0)
theorem B0b(m3 i4:Int)(h0:List Int):(n0g mm) (itW (lp (E0 mm) 62 1 a0V y0o) (f0u (m3,i4,h0)))=(J0F m3 i4 h0).map e62:=
 it_sim (K:=(n0g mm)) rfl (enc:=f0u) (fun x=>B0M x.1 x.2.1 x.2.2) (m3,i4,h0)
def m62(h0:List Int):Option R62:=
 if (decide ((h0.length:Int)<1))=true then
  none
 else
  if (0:Int)<(h0.length:Int) then
   J0F (h0.getD 0 default) (1:Int) h0
  else none
theorem R0k(h0:List Int):
  callW (E0 mm) 62 [.c (.slc 0 0 1 h0.length none)] [.cells (enI h0)]=(m62 h0).map e62:=by
 rw[cR f0e [.tmp 2] Tryz.func62]
 unfold m62;exact go (k62 mm) @B0b
noncomputable def f0d:Code:=bodyOf Tryz.f61
def p0M:=cA f0d
def p0N:=cA (cB f0d)
def p0O:=cA (cA (cB (cB f0d)))
def m0h:=cA (cB (cA (cB (cB f0d))))
def a0U:=cA m0h
def h0a:=cA a0U
def a0m:=cB (cB a0U)
def c0k:=cA (cA (cA a0m))
def c0l:=cB (cA (cA a0m))
def a0n:=cB a0m
def a0e:=cB (cB (cB f0d))
def c0m:=cA (cA a0e)
def c0n:=cA (cA (cB (cA a0e)))
def c0o:=cA (cB a0e)
def i0b:List (Nat×Co):=[(1,.keep),(5,.keep),(8,.keep),(9,.keep),(10,.keep)]
abbrev b61(mm:Int):=bodyD (E0 mm) [.tmp 4] 0 false
abbrev R61:=(Int)
def e61(x:R61):AV×Heap:=(vd (dI x),[])
def o0Z(t8_0:Bool)(t8_1:List Bs)(t9 t10:Int)(h1:List Int):Option (((Bool×List Bs×Int×Int) ⊕ (Bool×List Bs×Int×Int×List Int)) ⊕ R61):=
 some (.inl (.inr (t8_0,t8_1,t9,(w64 (t10+1)),h1)))
def j0u(mm:Int)(r:Option (Ex×St)):Option (AV×Heap):=b61 mm (sq (E0 mm) 61 0 a0e (blockD 0 (r)))
def f0t:((Bool×List Bs×Int×Int) ⊕ (Bool×List Bs×Int×Int×List Int))→X:=fun x=>match x with
 | (.inl x)=>(none,[vd (.sc (.func (.func 62) #[] #[])),vd (.lst true []),vd (.lst x.1 (enL enS x.2.1)),vd (dI x.2.2.1),vd (dI x.2.2.2)],[])
 | (.inr x)=>(none,[vd (.sc (.func (.func 62) #[] #[])),.v (.c (.slc 0 0 1 x.2.2.2.2.length none)),vd (.lst x.1 (enL enS x.2.1)),vd (dI x.2.2.1),vd (dI x.2.2.2.1)],[.cells (enI x.2.2.2.2)])
def k61:=Q (rx c0k) (Q (rx c0l) (Q @v0a (Q @S0T.eq_1 (Q @enI_length (Q @enI1_src (Q (rx c0m) (Q (rx c0n) (Q (rx h0a) (Q @j0u.eq_1 (Q (rx c0o) (Q @R0k (Q @e62.eq_1 (Q (rx p0M) (Q (rx p0N) (Q (rx p0O) (Q (fun mm=>lx (E0 mm) 61 m0h a0U i0b) (Q (nE f0d (.seq p0M (.seq p0N (.seq (.seq p0O (.block 0 m0h)) a0e)))) (Q (nE a0U (.seq h0a (.seq (.cond _ .skip (.exit 0)) a0m))) (Q @i0b.eq_1 hA)))))))))))))))))))
theorem A0c(t8_0:Bool)(t8_1:List Bs)(t9 t10:Int)(h1:List Int)(g0:Ob)(sl:Sl)(_:sl 1=vd (.sc (.func (.func 62) #[] #[])))(_:sl 5=.v (.c (.slc 1 0 1 h1.length none)))(_:sl 8=vd (.lst t8_0 (enL enS t8_1)))(_:sl 9=vd (dI t9))(_:sl 10=vd (dI t10)):
  stepE (j0u mm) (loopK 0 i0b (dn (E0 mm) 61 0 a0n sl [g0,.cells (enI h1)]))=(o0Z t8_0 t8_1 t9 t10 h1).map (sm f0t e61):=by
 unfold o0Z;exact go (Q (rx a0n) k61) trivial
def o0Y(t8_0:Bool)(t8_1:List Bs)(t9 t10:Int):Option (((Bool×List Bs×Int×Int) ⊕ (Bool×List Bs×Int×Int×List Int)) ⊕ R61):=
 if 0≤t10∧t10<(t8_1.length:Int) then
  (y0a (t8_1.getD t10.toNat default)).bind fun yr5=>
   o0Z t8_0 t8_1 t9 t10 ([yr5]:List Int)
 else none
theorem A0b(t8_0:Bool)(t8_1:List Bs)(t9 t10:Int)(sl:Sl)(_:sl 1=vd (.sc (.func (.func 62) #[] #[])))(_:sl 5=vd (.lst true []))(_:sl 8=vd (.lst t8_0 (enL enS t8_1)))(_:sl 9=vd (dI t9))(_:sl 10=vd (dI t10)):
  stepE (j0u mm) (loopK 0 i0b (dn (E0 mm) 61 0 a0m sl []))=(o0Y t8_0 t8_1 t9 t10).map (sm f0t e61):=by
 unfold o0Y;exact go (Q (nE a0m (.seq (.block 1 (.seq c0k c0l)) a0n)) k61) @A0c
def p0a: Option R61:=
 some (-1:Int)
theorem A0d(sl:Sl)(_:sl 1=vd (.sc (.func (.func 62) #[] #[])))(_:sl 5=vd (.lst true [])):
  b61 mm (dn (E0 mm) 61 0 a0e sl [])=(p0a).map e61:=by
 unfold p0a;exact go (Q (nE a0e (.seq (.seq c0m (.cond _ (.seq c0n .ret) .skip)) (.seq c0o .ret))) k61) trivial
def g0m(t8_0:Bool)(t8_1:List Bs)(t9 t10:Int):Option (((Bool×List Bs×Int×Int) ⊕ (Bool×List Bs×Int×Int×List Int)) ⊕ R61):=
 if (decide (t10<t9))=true then
  o0Y t8_0 t8_1 t9 t10
 else
  (p0a).map .inr
theorem x0O(t8_0:Bool)(t8_1:List Bs)(t9 t10:Int):
  stepE (j0u mm) (lp (E0 mm) 61 0 a0U i0b (none,[vd (.sc (.func (.func 62) #[] #[])),vd (.lst true []),vd (.lst t8_0 (enL enS t8_1)),vd (dI t9),vd (dI t10)],[]))=(g0m t8_0 t8_1 t9 t10).map (sm f0t e61):=by
 unfold g0m;exact go k61 (Q @A0b @A0d)
def e0k(t8_0:Bool)(t8_1:List Bs)(t9 t10:Int)(h2:List Int):Option (((Bool×List Bs×Int×Int) ⊕ (Bool×List Bs×Int×Int×List Int)) ⊕ R61):=
 some (.inl (.inr (t8_0,t8_1,t9,(w64 (t10+1)),h2)))
theorem q0p(t8_0:Bool)(t8_1:List Bs)(t9 t10:Int)(h2:List Int)(g0 g1:Ob)(sl:Sl)(_:sl 1=vd (.sc (.func (.func 62) #[] #[])))(_:sl 5=.v (.c (.slc 2 0 1 h2.length none)))(_:sl 8=vd (.lst t8_0 (enL enS t8_1)))(_:sl 9=vd (dI t9))(_:sl 10=vd (dI t10)):
  stepE (j0u mm) (loopK 0 i0b (dn (E0 mm) 61 0 a0n sl [g0,g1,.cells (enI h2)]))=(e0k t8_0 t8_1 t9 t10 h2).map (sm f0t e61):=by
 unfold e0k;exact go (Q (rx a0n) k61) trivial
def e0j(t8_0:Bool)(t8_1:List Bs)(t9 t10:Int)(h0:List Int):Option (((Bool×List Bs×Int×Int) ⊕ (Bool×List Bs×Int×Int×List Int)) ⊕ R61):=
 if 0≤t10∧t10<(t8_1.length:Int) then
  (y0a (t8_1.getD t10.toNat default)).bind fun yr10=>
   if (h0.length+1)*8≤140737488355328 then
    e0k t8_0 t8_1 t9 t10 (h0++([yr10]:List Int))
   else none
 else none
theorem q0o(t8_0:Bool)(t8_1:List Bs)(t9 t10:Int)(h0:List Int)(sl:Sl)(_:sl 1=vd (.sc (.func (.func 62) #[] #[])))(_:sl 5=.v (.c (.slc 0 0 1 h0.length none)))(_:sl 8=vd (.lst t8_0 (enL enS t8_1)))(_:sl 9=vd (dI t9))(_:sl 10=vd (dI t10)):
  stepE (j0u mm) (loopK 0 i0b (dn (E0 mm) 61 0 a0m sl [.cells (enI h0)]))=(e0j t8_0 t8_1 t9 t10 h0).map (sm f0t e61):=by
 unfold e0j;exact go (Q (nE a0m (.seq (.block 1 (.seq c0k c0l)) a0n)) k61) @q0p
def e0l(h0:List Int):Option R61:=
 if ((h0.length:Int)==0)=true then
  some (-1:Int)
 else
  (m62 h0).bind fun yr14=>
   some yr14.1
theorem q0q(h0:List Int)(sl:Sl)(_:sl 1=vd (.sc (.func (.func 62) #[] #[])))(_:sl 5=.v (.c (.slc 0 0 1 h0.length none))):
  b61 mm (dn (E0 mm) 61 0 a0e sl [.cells (enI h0)])=(e0l h0).map e61:=by
 unfold e0l;exact go (Q (nE a0e (.seq (.seq c0m (.cond _ (.seq c0n .ret) .skip)) (.seq c0o .ret))) k61) trivial
def g0n(t8_0:Bool)(t8_1:List Bs)(t9 t10:Int)(h0:List Int):Option (((Bool×List Bs×Int×Int) ⊕ (Bool×List Bs×Int×Int×List Int)) ⊕ R61):=
 if (decide (t10<t9))=true then
  e0j t8_0 t8_1 t9 t10 h0
 else
  (e0l h0).map .inr
theorem x0P(t8_0:Bool)(t8_1:List Bs)(t9 t10:Int)(h0:List Int):
  stepE (j0u mm) (lp (E0 mm) 61 0 a0U i0b (none,[vd (.sc (.func (.func 62) #[] #[])),.v (.c (.slc 0 0 1 h0.length none)),vd (.lst t8_0 (enL enS t8_1)),vd (dI t9),vd (dI t10)],[.cells (enI h0)]))=(g0n t8_0 t8_1 t9 t10 h0).map (sm f0t e61):=by
 unfold g0n;exact go k61 (Q @q0o @q0q)
def q0B:((Bool×List Bs×Int×Int) ⊕ (Bool×List Bs×Int×Int×List Int))→Option (((Bool×List Bs×Int×Int) ⊕ (Bool×List Bs×Int×Int×List Int)) ⊕ R61):=fun x=>match x with
 | (.inl x)=>g0m x.1 x.2.1 x.2.2.1 x.2.2.2
 | (.inr x)=>g0n x.1 x.2.1 x.2.2.1 x.2.2.2.1 x.2.2.2.2
def R0Q(t8_0:Bool)(t8_1:List Bs)(t9 t10:Int):Option R61:=iter q0B (.inl (t8_0,t8_1,t9,t10))
theorem L0c(t8_0:Bool)(t8_1:List Bs)(t9 t10:Int):b61 mm (sq (E0 mm) 61 0 a0e (blockD 0 (itW (lp (E0 mm) 61 0 a0U i0b) (none,[vd (.sc (.func (.func 62) #[] #[])),vd (.lst true []),vd (.lst t8_0 (enL enS t8_1)),vd (dI t9),vd (dI t10)],[]))))=(R0Q t8_0 t8_1 t9 t10).map e61:=
 it_sim (K:=(j0u mm)) rfl (enc:=f0t) (fun x=>match x with
 | (.inl x)=>x0O x.1 x.2.1 x.2.2.1 x.2.2.2
 | (.inr x)=>x0P x.1 x.2.1 x.2.2.1 x.2.2.2.1 x.2.2.2.2) (.inl (t8_0,t8_1,t9,t10))
def m61(values_0:Bool)(values_1:List Bs):Option R61:=
 R0Q values_0 values_1 (values_1.length:Int) (0:Int)
theorem R0h(values_0:Bool)(values_1:List Bs):
  callW (E0 mm) 61 [cd (.lst values_0 (enL enS values_1)),cd (.sc (.func (.func 62) #[] #[]))] []=(m61 values_0 values_1).map e61:=by
 rw[cR f0d [.tmp 4] Tryz.func61]
 unfold m61;exact go k61 @L0c
noncomputable def i0A:Code:=bodyOf Tryz.f81
def P0n:=cA i0A
def P0o:=cA (cA (cB i0A))
def y0M:=cA (cB (cA (cB i0A)))
def P0p:=cA (cB (cB i0A))
def I0t:=cA (cA (cB (cB (cB i0A))))
def u0D:=cA (cB (cA (cB (cB (cB i0A)))))
def f0g:=cA u0D
def I0u:=cA (cA f0g)
def I0v:=cA (cA (cB f0g))
def I0w:=cB (cB f0g)
def k0y:=cB (cB (cB (cB i0A)))
def I0x:=cA k0y
theorem c81_6_r:RG (E0 mm) 81 y0M:=rgN rfl
def y0q:List (Nat×Co):=[(0,.keep),(3,.keep),(4,.keep)]
abbrev R81:=(Int×List Int)
def e81(x:R81):AV×Heap:=(vd (dI x.1),[.cells (enI x.2)])
def p0f(m3:Int)(h0:List Int):Option R81:=
 some (m3,h0)
def n0i(mm:Int)(r:Option (Ex×St)):Option (AV×Heap):=bodyD (E0 mm) [.tmp 2] 1 false (sq (E0 mm) 81 1 k0y (blockD 0 (r)))
def f0x(x:(Int×Int×List Int)):X:=(none,[.v (.c (.slc 0 0 1 x.2.2.length none)),vd (dI x.1),vd (dI x.2.1)],[.cells (enI x.2.2)])
def k81(mm:Int):=Q (rx I0x) (Q (rx I0u) (Q (rx I0v) (Q @enI_length (Q @enI_load (Q (rx I0w) (Q @n0i.eq_1 (Q (rx P0n) (Q (rx P0o) (Q @c81_6_r (Q (runOps_dead (E:=(E0 mm)) (call:=callW (E0 mm)) (all:=opsOf y0M) (os:=opsOf y0M) (by kernel_rfl)) (Q (rx P0p) (Q (fun l=>enI_load0 l 0) (Q (rx I0t) (Q (fun mm=>lx (E0 mm) 81 u0D f0g y0q) (Q (nE i0A (.seq P0n (.seq (.seq P0o (.cond _ y0M .skip)) (.seq P0p (.seq (.seq I0t (.block 0 u0D)) k0y))))) (Q (nE f0g (.seq (.seq I0u (.cond _ .skip (.exit 0))) (.seq (.block 1 I0v) I0w))) (Q @f0x.eq_1 (Q @y0q.eq_1 hA))))))))))))))))))
theorem A0o(m3:Int)(h0:List Int)(sl:Sl)(_:sl 3=vd (dI m3)):
  bodyD (E0 mm) [.tmp 2] 1 false (dn (E0 mm) 81 1 k0y sl [.cells (enI h0)])=(p0f m3 h0).map e81:=by
 unfold p0f;exact go (Q (nE k0y (.seq I0x .ret)) (k81 mm)) trivial
def h0I(m3 i4:Int)(h0:List Int):Option ((Int×Int×List Int) ⊕ R81):=
 if (decide (i4<(h0.length:Int)))=true then
  if 0≤i4∧i4<(h0.length:Int) then
   some (.inl ((max2 m3 (h0.getD i4.toNat default)),(w64 (i4+1)),h0))
  else none
 else
  (p0f m3 h0).map .inr
theorem B0Q(m3 i4:Int)(h0:List Int):
  stepE (n0i mm) (lp (E0 mm) 81 1 f0g y0q (f0x (m3,i4,h0)))=(h0I m3 i4 h0).map (sm f0x e81):=by
 unfold h0I;exact go (k81 mm) @A0o
def J0H(m3 i4:Int)(h0:List Int):Option R81:=iter (fun x:(Int×Int×List Int)=>h0I x.1 x.2.1 x.2.2) (m3,i4,h0)
theorem B0e(m3 i4:Int)(h0:List Int):(n0i mm) (itW (lp (E0 mm) 81 1 f0g y0q) (f0x (m3,i4,h0)))=(J0H m3 i4 h0).map e81:=
 it_sim (K:=(n0i mm)) rfl (enc:=f0x) (fun x=>B0Q x.1 x.2.1 x.2.2) (m3,i4,h0)
def m81(h0:List Int):Option R81:=
 if (decide ((h0.length:Int)<1))=true then
  none
 else
  if (0:Int)<(h0.length:Int) then
   J0H (h0.getD 0 default) (1:Int) h0
  else none
theorem U0h(h0:List Int):
  callW (E0 mm) 81 [.c (.slc 0 0 1 h0.length none)] [.cells (enI h0)]=(m81 h0).map e81:=by
 rw[cR i0A [.tmp 2] Tryz.func81]
 unfold m81;exact go (k81 mm) @B0e
abbrev b61a(mm:Int):=bodyD (E0 mm) [.tmp 4] 0 false
abbrev q0I:=(Int)
def b0Y:List (Nat×Co):=[(1,.keep),(5,.keep),(8,.keep),(9,.keep),(10,.keep)]
def u0X(x:q0I):AV×Heap:=(vd (dI x),[])
def i0S(t8_0:Bool)(t8_1:List Bs)(t9 t10:Int)(h1:List Int):Option (((Bool×List Bs×Int×Int) ⊕ (Bool×List Bs×Int×Int×List Int)) ⊕ q0I):=
 some (.inl (.inr (t8_0,t8_1,t9,(w64 (t10+1)),h1)))
def d0B(mm:Int)(r:Option (Ex×St)):Option (AV×Heap):=b61a mm (sq (E0 mm) 61 0 a0e (blockD 0 (r)))
def b0Q:((Bool×List Bs×Int×Int) ⊕ (Bool×List Bs×Int×Int×List Int))→X:=fun x=>match x with
 | (.inl x)=>(none,[vd (.sc (.func (.func 81) #[] #[])),vd (.lst true []),vd (.lst x.1 (enL enS x.2.1)),vd (dI x.2.2.1),vd (dI x.2.2.2)],[])
 | (.inr x)=>(none,[vd (.sc (.func (.func 81) #[] #[])),.v (.c (.slc 0 0 1 x.2.2.2.2.length none)),vd (.lst x.1 (enL enS x.2.1)),vd (dI x.2.2.1),vd (dI x.2.2.2.1)],[.cells (enI x.2.2.2.2)])
def A0D:=Q (rx c0k) (Q (rx c0l) (Q @v0a (Q @S0T.eq_1 (Q @enI_length (Q @enI1_src (Q (rx c0m) (Q (rx c0n) (Q (rx h0a) (Q @d0B.eq_1 (Q (rx c0o) (Q @ent81 (Q @prm81 (Q @U0h (Q @e81.eq_1 (Q (rx p0M) (Q (rx p0N) (Q (rx p0O) (Q (fun mm=>lx (E0 mm) 61 m0h a0U b0Y) (Q (nE f0d (.seq p0M (.seq p0N (.seq (.seq p0O (.block 0 m0h)) a0e)))) (Q (nE a0U (.seq h0a (.seq (.cond _ .skip (.exit 0)) a0m))) (Q @b0Y.eq_1 hA)))))))))))))))))))))
theorem w0d(t8_0:Bool)(t8_1:List Bs)(t9 t10:Int)(h1:List Int)(g0:Ob)(sl:Sl)(_:sl 1=vd (.sc (.func (.func 81) #[] #[])))(_:sl 5=.v (.c (.slc 1 0 1 h1.length none)))(_:sl 8=vd (.lst t8_0 (enL enS t8_1)))(_:sl 9=vd (dI t9))(_:sl 10=vd (dI t10)):
  stepE (d0B mm) (loopK 0 b0Y (dn (E0 mm) 61 0 a0n sl [g0,.cells (enI h1)]))=(i0S t8_0 t8_1 t9 t10 h1).map (sm b0Q u0X):=by
 unfold i0S;exact go (Q (rx a0n) A0D) trivial
def i0R(t8_0:Bool)(t8_1:List Bs)(t9 t10:Int):Option (((Bool×List Bs×Int×Int) ⊕ (Bool×List Bs×Int×Int×List Int)) ⊕ q0I):=
 if 0≤t10∧t10<(t8_1.length:Int) then
  (y0a (t8_1.getD t10.toNat default)).bind fun yr5=>
   i0S t8_0 t8_1 t9 t10 ([yr5]:List Int)
 else none
theorem w0c(t8_0:Bool)(t8_1:List Bs)(t9 t10:Int)(sl:Sl)(_:sl 1=vd (.sc (.func (.func 81) #[] #[])))(_:sl 5=vd (.lst true []))(_:sl 8=vd (.lst t8_0 (enL enS t8_1)))(_:sl 9=vd (dI t9))(_:sl 10=vd (dI t10)):
  stepE (d0B mm) (loopK 0 b0Y (dn (E0 mm) 61 0 a0m sl []))=(i0R t8_0 t8_1 t9 t10).map (sm b0Q u0X):=by
 unfold i0R;exact go (Q (nE a0m (.seq (.block 1 (.seq c0k c0l)) a0n)) A0D) @w0d
def i0T: Option q0I:=
 some (-1:Int)
theorem w0e(sl:Sl)(_:sl 1=vd (.sc (.func (.func 81) #[] #[])))(_:sl 5=vd (.lst true [])):
  b61a mm (dn (E0 mm) 61 0 a0e sl [])=(i0T).map u0X:=by
 unfold i0T;exact go (Q (nE a0e (.seq (.seq c0m (.cond _ (.seq c0n .ret) .skip)) (.seq c0o .ret))) A0D) trivial
def c0R(t8_0:Bool)(t8_1:List Bs)(t9 t10:Int):Option (((Bool×List Bs×Int×Int) ⊕ (Bool×List Bs×Int×Int×List Int)) ⊕ q0I):=
 if (decide (t10<t9))=true then
  i0R t8_0 t8_1 t9 t10
 else
  (i0T).map .inr
theorem q0C(t8_0:Bool)(t8_1:List Bs)(t9 t10:Int):
  stepE (d0B mm) (lp (E0 mm) 61 0 a0U b0Y (none,[vd (.sc (.func (.func 81) #[] #[])),vd (.lst true []),vd (.lst t8_0 (enL enS t8_1)),vd (dI t9),vd (dI t10)],[]))=(c0R t8_0 t8_1 t9 t10).map (sm b0Q u0X):=by
 unfold c0R;exact go A0D (Q @w0c @w0e)
def c0M(t8_0:Bool)(t8_1:List Bs)(t9 t10:Int)(h2:List Int):Option (((Bool×List Bs×Int×Int) ⊕ (Bool×List Bs×Int×Int×List Int)) ⊕ q0I):=
 some (.inl (.inr (t8_0,t8_1,t9,(w64 (t10+1)),h2)))
theorem m0C(t8_0:Bool)(t8_1:List Bs)(t9 t10:Int)(h2:List Int)(g0 g1:Ob)(sl:Sl)(_:sl 1=vd (.sc (.func (.func 81) #[] #[])))(_:sl 5=.v (.c (.slc 2 0 1 h2.length none)))(_:sl 8=vd (.lst t8_0 (enL enS t8_1)))(_:sl 9=vd (dI t9))(_:sl 10=vd (dI t10)):
  stepE (d0B mm) (loopK 0 b0Y (dn (E0 mm) 61 0 a0n sl [g0,g1,.cells (enI h2)]))=(c0M t8_0 t8_1 t9 t10 h2).map (sm b0Q u0X):=by
 unfold c0M;exact go (Q (rx a0n) A0D) trivial
def c0L(t8_0:Bool)(t8_1:List Bs)(t9 t10:Int)(h0:List Int):Option (((Bool×List Bs×Int×Int) ⊕ (Bool×List Bs×Int×Int×List Int)) ⊕ q0I):=
 if 0≤t10∧t10<(t8_1.length:Int) then
  (y0a (t8_1.getD t10.toNat default)).bind fun yr10=>
   if (h0.length+1)*8≤140737488355328 then
    c0M t8_0 t8_1 t9 t10 (h0++([yr10]:List Int))
   else none
 else none
theorem m0B(t8_0:Bool)(t8_1:List Bs)(t9 t10:Int)(h0:List Int)(sl:Sl)(_:sl 1=vd (.sc (.func (.func 81) #[] #[])))(_:sl 5=.v (.c (.slc 0 0 1 h0.length none)))(_:sl 8=vd (.lst t8_0 (enL enS t8_1)))(_:sl 9=vd (dI t9))(_:sl 10=vd (dI t10)):
  stepE (d0B mm) (loopK 0 b0Y (dn (E0 mm) 61 0 a0m sl [.cells (enI h0)]))=(c0L t8_0 t8_1 t9 t10 h0).map (sm b0Q u0X):=by
 unfold c0L;exact go (Q (nE a0m (.seq (.block 1 (.seq c0k c0l)) a0n)) A0D) @m0C
def c0N(h0:List Int):Option q0I:=
 if ((h0.length:Int)==0)=true then
  some (-1:Int)
 else
  (m81 h0).bind fun yr14=>
   some yr14.1
theorem m0D(h0:List Int)(sl:Sl)(_:sl 1=vd (.sc (.func (.func 81) #[] #[])))(_:sl 5=.v (.c (.slc 0 0 1 h0.length none))):
  b61a mm (dn (E0 mm) 61 0 a0e sl [.cells (enI h0)])=(c0N h0).map u0X:=by
 unfold c0N;exact go (Q (nE a0e (.seq (.seq c0m (.cond _ (.seq c0n .ret) .skip)) (.seq c0o .ret))) A0D) trivial
def c0S(t8_0:Bool)(t8_1:List Bs)(t9 t10:Int)(h0:List Int):Option (((Bool×List Bs×Int×Int) ⊕ (Bool×List Bs×Int×Int×List Int)) ⊕ q0I):=
 if (decide (t10<t9))=true then
  c0L t8_0 t8_1 t9 t10 h0
 else
  (c0N h0).map .inr
theorem q0D(t8_0:Bool)(t8_1:List Bs)(t9 t10:Int)(h0:List Int):
  stepE (d0B mm) (lp (E0 mm) 61 0 a0U b0Y (none,[vd (.sc (.func (.func 81) #[] #[])),.v (.c (.slc 0 0 1 h0.length none)),vd (.lst t8_0 (enL enS t8_1)),vd (dI t9),vd (dI t10)],[.cells (enI h0)]))=(c0S t8_0 t8_1 t9 t10 h0).map (sm b0Q u0X):=by
 unfold c0S;exact go A0D (Q @m0B @m0D)
def h0G:((Bool×List Bs×Int×Int) ⊕ (Bool×List Bs×Int×Int×List Int))→Option (((Bool×List Bs×Int×Int) ⊕ (Bool×List Bs×Int×Int×List Int)) ⊕ q0I):=fun x=>match x with
 | (.inl x)=>c0R x.1 x.2.1 x.2.2.1 x.2.2.2
 | (.inr x)=>c0S x.1 x.2.1 x.2.2.1 x.2.2.2.1 x.2.2.2.2
def J0D(t8_0:Bool)(t8_1:List Bs)(t9 t10:Int):Option q0I:=iter h0G (.inl (t8_0,t8_1,t9,t10))
theorem A0Z(t8_0:Bool)(t8_1:List Bs)(t9 t10:Int):b61a mm (sq (E0 mm) 61 0 a0e (blockD 0 (itW (lp (E0 mm) 61 0 a0U b0Y) (none,[vd (.sc (.func (.func 81) #[] #[])),vd (.lst true []),vd (.lst t8_0 (enL enS t8_1)),vd (dI t9),vd (dI t10)],[]))))=(J0D t8_0 t8_1 t9 t10).map u0X:=
 it_sim (K:=(d0B mm)) rfl (enc:=b0Q) (fun x=>match x with
 | (.inl x)=>q0C x.1 x.2.1 x.2.2.1 x.2.2.2
 | (.inr x)=>q0D x.1 x.2.1 x.2.2.1 x.2.2.2.1 x.2.2.2.2) (.inl (t8_0,t8_1,t9,t10))
def S0z(values_0:Bool)(values_1:List Bs):Option q0I:=
 J0D values_0 values_1 (values_1.length:Int) (0:Int)
theorem R0i(values_0:Bool)(values_1:List Bs):
  callW (E0 mm) 61 [cd (.lst values_0 (enL enS values_1)),cd (.sc (.func (.func 81) #[] #[]))] []=(S0z values_0 values_1).map u0X:=by
 rw[cR f0d [.tmp 4] Tryz.func61]
 unfold S0z;exact go A0D @A0Z
abbrev M0x:=(Int×List Int)
def n0s:List (Nat×Co):=[(0,.keep),(3,.keep),(4,.keep)]
def Q0n(x:M0x):AV×Heap:=(vd (dI x.1),[.cells (enI x.2)])
def i0X(m3:Int)(h0:List Int):Option M0x:=
 some (m3,h0)
def h0T(mm:Int)(r:Option (Ex×St)):Option (AV×Heap):=bodyD (E0 mm) [.tmp 2] 1 false (sq (E0 mm) 62 1 c0p (blockD 0 (r)))
def c0B(x:(Nat×Int×Int×List Int)):X:=(none,[.v (.c (.slc 0 0 1 x.1 none)),vd (dI x.2.1),vd (dI x.2.2.1)],[.cells (enI x.2.2.2)])
def U0C(mm:Int):=Q (rx o0t) (Q (rx o0q) (Q (rx o0r) (Q @enI_length (Q @enI_load (Q (rx o0s) (Q @h0T.eq_1 (Q (rx y0B) (Q (rx y0C) (Q @c62_6_r (Q (runOps_dead (E:=(E0 mm)) (call:=callW (E0 mm)) (all:=opsOf m0i) (os:=opsOf m0i) (by kernel_rfl)) (Q (rx y0D) (Q (fun l=>enI_load0 l 0) (Q (rx o0p) (Q (fun mm=>lx (E0 mm) 62 k0o a0V n0s) (Q (nE f0e (.seq y0B (.seq (.seq y0C (.cond _ m0i .skip)) (.seq y0D (.seq (.seq o0p (.block 0 k0o)) c0p))))) (Q (nE a0V (.seq (.seq o0q (.cond _ .skip (.exit 0))) (.seq (.block 1 o0r) o0s))) (Q @c0B.eq_1 (Q @n0s.eq_1 hA))))))))))))))))))
theorem w0i(m3:Int)(h0:List Int)(sl:Sl)(_:sl 3=vd (dI m3)):
  bodyD (E0 mm) [.tmp 2] 1 false (dn (E0 mm) 62 1 c0p sl [.cells (enI h0)])=(i0X m3 h0).map Q0n:=by
 unfold i0X;exact go (Q (nE c0p (.seq o0t .ret)) (U0C mm)) trivial
def d0A(x0_1:Nat)(m3 i4:Int)(h0:List Int):Option ((Nat×Int×Int×List Int) ⊕ M0x):=
 if (decide (i4<(x0_1:Int)))=true then
  if 0≤i4∧i4<(x0_1:Int) then
   if i4.toNat<h0.length then
    some (.inl (x0_1,(min2 m3 (h0.getD i4.toNat default)),(w64 (i4+1)),h0))
   else none
  else none
 else
  (i0X m3 h0).map .inr
theorem x0Q(x0_1:Nat)(m3 i4:Int)(h0:List Int):
  stepE (h0T mm) (lp (E0 mm) 62 1 a0V n0s (c0B (x0_1,m3,i4,h0)))=(d0A x0_1 m3 i4 h0).map (sm c0B Q0n):=by
 unfold d0A;exact go (U0C mm) @w0i
def w0U(x0_1:Nat)(m3 i4:Int)(h0:List Int):Option M0x:=iter (fun x:(Nat×Int×Int×List Int)=>d0A x.1 x.2.1 x.2.2.1 x.2.2.2) (x0_1,m3,i4,h0)
theorem w0V(x0_1:Nat)(m3 i4:Int)(h0:List Int):(h0T mm) (itW (lp (E0 mm) 62 1 a0V n0s) (c0B (x0_1,m3,i4,h0)))=(w0U x0_1 m3 i4 h0).map Q0n:=
 it_sim (K:=(h0T mm)) rfl (enc:=c0B) (fun x=>x0Q x.1 x.2.1 x.2.2.1 x.2.2.2) (x0_1,m3,i4,h0)
def S0B(x0_1:Nat)(h0:List Int):Option M0x:=
 if (decide ((x0_1:Int)<1))=true then
  none
 else
  if (0:Int)<(x0_1:Int) then
   if 0<h0.length then
    w0U x0_1 (h0.getD 0 default) (1:Int) h0
   else none
  else none
theorem R0l(x0_1:Nat)(h0:List Int):
  callW (E0 mm) 62 [.c (.slc 0 0 1 x0_1 none)] [.cells (enI h0)]=(S0B x0_1 h0).map Q0n:=by
 rw[cR f0e [.tmp 2] Tryz.func62]
 unfold S0B;exact go (U0C mm) @w0V
noncomputable def p0V:Code:=bodyOf Tryz.f82
def P0q:=cA p0V
def P0r:=cA (cA (cB p0V))
def K0s:=cA (cB (cA (cB p0V)))
def m0n:=cA K0s
def P0s:=cA m0n
def c0q:=cB (cB m0n)
def u0E:=cA (cA (cA c0q))
def u0F:=cA (cB (cA (cA c0q)))
def u0G:=cA (cB (cB (cA (cA c0q))))
def h0g:=cB c0q
def d0S:=cB (cB p0V)
def u0H:=cA d0S
def i0c:List (Nat×Co):=[(0,.keep),(7,.keep),(8,.keep),(9,.keep)]
abbrev b82(mm:Int):=bodyD (E0 mm) [.tmp 3] 3 false
abbrev R82:=(Int×List Int)
def e82(gm2:List (Bs×List Bs))(x:R82):AV×Heap:=(vd (dI x.1),[.cells (enI x.2),.cells [.mp 2],.amap (enM gm2)])
def f0T(gm2:List (Bs×List Bs))(numbers0_1:Nat)(t7_0:Bool)(t7_1:List Bs)(t8 t9:Int)(h0:List Int):Option (((Bool×List Bs×Int×Int×List Int) ⊕ (Nat×Bool×List Bs×Int×Int×List Int)) ⊕ R82):=
 some (.inl (.inr (numbers0_1,t7_0,t7_1,t8,(w64 (t9+1)),h0)))
def j0v(mm:Int)(r:Option (Ex×St)):Option (AV×Heap):=b82 mm (sq (E0 mm) 82 3 d0S (blockD 0 (r)))
def f0y(gm2:List (Bs×List Bs)):((Bool×List Bs×Int×Int×List Int) ⊕ (Nat×Bool×List Bs×Int×Int×List Int))→X:=fun x=>match x with
 | (.inl x)=>(none,[.v (.c (.slc 0 0 1 x.2.2.2.2.length none)),vd (.lst x.1 (enL enS x.2.1)),vd (dI x.2.2.1),vd (dI x.2.2.2.1)],[.cells (enI x.2.2.2.2),.cells [.mp 2],.amap (enM gm2)])
 | (.inr x)=>(none,[.v (.c (.slc 0 0 1 x.1 none)),vd (.lst x.2.1 (enL enS x.2.2.1)),vd (dI x.2.2.2.1),vd (dI x.2.2.2.2.1)],[.cells (enI x.2.2.2.2.2),.cells [.mp 2],.amap (enM gm2)])
def k82:=Q (rx u0E) (Q (rx u0F) (Q (rx u0G) (Q @enI_length (Q @enI_wr (Q (rx u0H) (Q @R0k (Q @e62.eq_1 (Q (rx P0s) (Q @j0v.eq_1 (Q @R0l (Q @Q0n.eq_1 (Q (rx P0q) (Q (rx P0r) (Q (fun mm=>lx (E0 mm) 82 K0s m0n i0c) (Q (nE p0V (.seq P0q (.seq (.seq P0r (.block 0 K0s)) d0S))) (Q (nE m0n (.seq P0s (.seq (.cond _ .skip (.exit 0)) c0q))) (Q @i0c.eq_1 hA)))))))))))))))))
theorem p0h(gm2:List (Bs×List Bs))(numbers0_1:Nat)(t7_0:Bool)(t7_1:List Bs)(t8 t9:Int)(h0:List Int)(sl:Sl)(_:sl 0=.v (.c (.slc 0 0 1 numbers0_1 none)))(_:sl 7=vd (.lst t7_0 (enL enS t7_1)))(_:sl 8=vd (dI t8))(_:sl 9=vd (dI t9)):
  stepE (j0v mm) (loopK 3 i0c (dn (E0 mm) 82 3 h0g sl [.cells (enI h0),.cells [.mp 2],.amap (enM gm2)]))=(f0T gm2 numbers0_1 t7_0 t7_1 t8 t9 h0).map (sm (f0y gm2) (e82 gm2)):=by
 unfold f0T;exact go (Q (rx h0g) k82) trivial
def e0n(gm2:List (Bs×List Bs))(t7_0:Bool)(t7_1:List Bs)(t8 t9:Int)(h0:List Int):Option (((Bool×List Bs×Int×Int×List Int) ⊕ (Nat×Bool×List Bs×Int×Int×List Int)) ⊕ R82):=
 some (.inl (.inl (t7_0,t7_1,t8,(w64 (t9+1)),h0)))
theorem q0s(gm2:List (Bs×List Bs))(t7_0:Bool)(t7_1:List Bs)(t8 t9:Int)(h0:List Int)(sl:Sl)(_:sl 0=.v (.c (.slc 0 0 1 h0.length none)))(_:sl 7=vd (.lst t7_0 (enL enS t7_1)))(_:sl 8=vd (dI t8))(_:sl 9=vd (dI t9)):
  stepE (j0v mm) (loopK 3 i0c (dn (E0 mm) 82 3 h0g sl [.cells (enI h0),.cells [.mp 2],.amap (enM gm2)]))=(e0n gm2 t7_0 t7_1 t8 t9 h0).map (sm (f0y gm2) (e82 gm2)):=by
 unfold e0n;exact go (Q (rx h0g) k82) trivial
def p0g(gm2:List (Bs×List Bs))(t7_0:Bool)(t7_1:List Bs)(t8 t9:Int)(h0:List Int):Option (((Bool×List Bs×Int×Int×List Int) ⊕ (Nat×Bool×List Bs×Int×Int×List Int)) ⊕ R82):=
 if 0≤t9∧t9<(t7_1.length:Int) then
  if ((t7_1.getD t9.toNat default)==([]:Bs))=true then
   if 0≤t9∧t9<(h0.length:Int) then
    f0T gm2 h0.length t7_0 t7_1 t8 t9 (h0.set t9.toNat (2147483647:Int))
   else none
  else
   e0n gm2 t7_0 t7_1 t8 t9 h0
 else none
theorem A0p(gm2:List (Bs×List Bs))(t7_0:Bool)(t7_1:List Bs)(t8 t9:Int)(h0:List Int)(sl:Sl)(_:sl 0=.v (.c (.slc 0 0 1 h0.length none)))(_:sl 7=vd (.lst t7_0 (enL enS t7_1)))(_:sl 8=vd (dI t8))(_:sl 9=vd (dI t9)):
  stepE (j0v mm) (loopK 3 i0c (dn (E0 mm) 82 3 c0q sl [.cells (enI h0),.cells [.mp 2],.amap (enM gm2)]))=(p0g gm2 t7_0 t7_1 t8 t9 h0).map (sm (f0y gm2) (e82 gm2)):=by
 unfold p0g;exact go (Q (nE c0q (.seq (.block 1 (.seq u0E (.seq u0F (.cond _ u0G .skip)))) h0g)) k82) (Q @p0h @q0s)
def p0i(gm2:List (Bs×List Bs))(h0:List Int):Option R82:=
 (m62 h0).bind fun yr8=>
  some (yr8.1,yr8.2)
theorem A0q(gm2:List (Bs×List Bs))(h0:List Int)(sl:Sl)(_:sl 0=.v (.c (.slc 0 0 1 h0.length none))):
  b82 mm (dn (E0 mm) 82 3 d0S sl [.cells (enI h0),.cells [.mp 2],.amap (enM gm2)])=(p0i gm2 h0).map (e82 gm2):=by
 unfold p0i;exact go (Q (nE d0S (.seq u0H .ret)) k82) trivial
def g0p(gm2:List (Bs×List Bs))(t7_0:Bool)(t7_1:List Bs)(t8 t9:Int)(h0:List Int):Option (((Bool×List Bs×Int×Int×List Int) ⊕ (Nat×Bool×List Bs×Int×Int×List Int)) ⊕ R82):=
 if (decide (t9<t8))=true then
  p0g gm2 t7_0 t7_1 t8 t9 h0
 else
  (p0i gm2 h0).map .inr
theorem x0U(gm2:List (Bs×List Bs))(t7_0:Bool)(t7_1:List Bs)(t8 t9:Int)(h0:List Int):
  stepE (j0v mm) (lp (E0 mm) 82 3 m0n i0c (none,[.v (.c (.slc 0 0 1 h0.length none)),vd (.lst t7_0 (enL enS t7_1)),vd (dI t8),vd (dI t9)],[.cells (enI h0),.cells [.mp 2],.amap (enM gm2)]))=(g0p gm2 t7_0 t7_1 t8 t9 h0).map (sm (f0y gm2) (e82 gm2)):=by
 unfold g0p;exact go k82 (Q @A0p @A0q)
def e0m(gm2:List (Bs×List Bs))(numbers0_1:Nat)(t7_0:Bool)(t7_1:List Bs)(t8 t9:Int)(h0:List Int):Option (((Bool×List Bs×Int×Int×List Int) ⊕ (Nat×Bool×List Bs×Int×Int×List Int)) ⊕ R82):=
 if 0≤t9∧t9<(t7_1.length:Int) then
  if ((t7_1.getD t9.toNat default)==([]:Bs))=true then
   if 0≤t9∧t9<(numbers0_1:Int) then
    if t9.toNat<h0.length then
     f0T gm2 numbers0_1 t7_0 t7_1 t8 t9 (h0.set t9.toNat (2147483647:Int))
    else none
   else none
  else
   f0T gm2 numbers0_1 t7_0 t7_1 t8 t9 h0
 else none
theorem q0r(gm2:List (Bs×List Bs))(numbers0_1:Nat)(t7_0:Bool)(t7_1:List Bs)(t8 t9:Int)(h0:List Int)(sl:Sl)(_:sl 0=.v (.c (.slc 0 0 1 numbers0_1 none)))(_:sl 7=vd (.lst t7_0 (enL enS t7_1)))(_:sl 8=vd (dI t8))(_:sl 9=vd (dI t9)):
  stepE (j0v mm) (loopK 3 i0c (dn (E0 mm) 82 3 c0q sl [.cells (enI h0),.cells [.mp 2],.amap (enM gm2)]))=(e0m gm2 numbers0_1 t7_0 t7_1 t8 t9 h0).map (sm (f0y gm2) (e82 gm2)):=by
 unfold e0m;exact go (Q (nE c0q (.seq (.block 1 (.seq u0E (.seq u0F (.cond _ u0G .skip)))) h0g)) k82) @p0h
def e0o(gm2:List (Bs×List Bs))(numbers0_1:Nat)(h0:List Int):Option R82:=
 (S0B numbers0_1 h0).bind fun yr17=>
  some (yr17.1,yr17.2)
theorem q0t(gm2:List (Bs×List Bs))(numbers0_1:Nat)(h0:List Int)(sl:Sl)(_:sl 0=.v (.c (.slc 0 0 1 numbers0_1 none))):
  b82 mm (dn (E0 mm) 82 3 d0S sl [.cells (enI h0),.cells [.mp 2],.amap (enM gm2)])=(e0o gm2 numbers0_1 h0).map (e82 gm2):=by
 unfold e0o;exact go (Q (nE d0S (.seq u0H .ret)) k82) trivial
def g0q(gm2:List (Bs×List Bs))(numbers0_1:Nat)(t7_0:Bool)(t7_1:List Bs)(t8 t9:Int)(h0:List Int):Option (((Bool×List Bs×Int×Int×List Int) ⊕ (Nat×Bool×List Bs×Int×Int×List Int)) ⊕ R82):=
 if (decide (t9<t8))=true then
  e0m gm2 numbers0_1 t7_0 t7_1 t8 t9 h0
 else
  (e0o gm2 numbers0_1 h0).map .inr
theorem x0V(gm2:List (Bs×List Bs))(numbers0_1:Nat)(t7_0:Bool)(t7_1:List Bs)(t8 t9:Int)(h0:List Int):
  stepE (j0v mm) (lp (E0 mm) 82 3 m0n i0c (none,[.v (.c (.slc 0 0 1 numbers0_1 none)),vd (.lst t7_0 (enL enS t7_1)),vd (dI t8),vd (dI t9)],[.cells (enI h0),.cells [.mp 2],.amap (enM gm2)]))=(g0q gm2 numbers0_1 t7_0 t7_1 t8 t9 h0).map (sm (f0y gm2) (e82 gm2)):=by
 unfold g0q;exact go k82 (Q @q0r @q0t)
def m0X(gm2:List (Bs×List Bs)):((Bool×List Bs×Int×Int×List Int) ⊕ (Nat×Bool×List Bs×Int×Int×List Int))→Option (((Bool×List Bs×Int×Int×List Int) ⊕ (Nat×Bool×List Bs×Int×Int×List Int)) ⊕ R82):=fun x=>match x with
 | (.inl x)=>g0p gm2 x.1 x.2.1 x.2.2.1 x.2.2.2.1 x.2.2.2.2
 | (.inr x)=>g0q gm2 x.1 x.2.1 x.2.2.1 x.2.2.2.1 x.2.2.2.2.1 x.2.2.2.2.2
def R0S(gm2:List (Bs×List Bs))(t7_0:Bool)(t7_1:List Bs)(t8 t9:Int)(h0:List Int):Option R82:=iter (m0X gm2) (.inl (t7_0,t7_1,t8,t9,h0))
theorem L0g(gm2:List (Bs×List Bs))(t7_0:Bool)(t7_1:List Bs)(t8 t9:Int)(h0:List Int):b82 mm (sq (E0 mm) 82 3 d0S (blockD 0 (itW (lp (E0 mm) 82 3 m0n i0c) (none,[.v (.c (.slc 0 0 1 h0.length none)),vd (.lst t7_0 (enL enS t7_1)),vd (dI t8),vd (dI t9)],[.cells (enI h0),.cells [.mp 2],.amap (enM gm2)]))))=(R0S gm2 t7_0 t7_1 t8 t9 h0).map (e82 gm2):=
 it_sim (K:=(j0v mm)) rfl (enc:=(f0y gm2)) (fun x=>match x with
 | (.inl x)=>x0U gm2 x.1 x.2.1 x.2.2.1 x.2.2.2.1 x.2.2.2.2
 | (.inr x)=>x0V gm2 x.1 x.2.1 x.2.2.1 x.2.2.2.1 x.2.2.2.2.1 x.2.2.2.2.2) (.inl (t7_0,t7_1,t8,t9,h0))
def m82(h0:List Int)(gm2:List (Bs×List Bs)):Option R82:=
 R0S gm2 (!(hasM ([109,97,120,45,115,116,97,108,101]:Bs) gm2)) (valM ([109,97,120,45,115,116,97,108,101]:Bs) gm2) ((valM ([109,97,120,45,115,116,97,108,101]:Bs) gm2).length:Int) (0:Int) h0
theorem U0i(h0:List Int)(gm2:List (Bs×List Bs)):
  callW (E0 mm) 82 [.c (.slc 0 0 1 h0.length none),.c (.ptr 1 0)] [.cells (enI h0),.cells [.mp 2],.amap (enM gm2)]=(m82 h0 gm2).map (e82 gm2):=by
 rw[cR p0V [.tmp 3] Tryz.func82]
 unfold m82;exact go k82 @L0g
end
end Go.Proofs.YtbkobjepahlegaaGreatDoor
