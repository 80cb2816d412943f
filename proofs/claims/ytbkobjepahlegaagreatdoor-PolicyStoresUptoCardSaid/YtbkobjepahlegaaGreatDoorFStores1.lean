/- The Go functions as plain functions, and that the evaluator computes them. -/
import Derived.Test.YtbkobjepahlegaaGreatDoorHd
set_option linter.all false
set_option maxRecDepth 100000
namespace Go.Proofs.YtbkobjepahlegaaGreatDoor
open Go Go.Ab
open Nat renaming reduceEqDiff→za,reduceAdd→zb,reduceLeDiff→zc,reduceLT→zd,reduceMul→ze,reduceBEq→zf,reduceSub→zg,reducePow→zh
open Int renaming reduceEq→zi,reduceLE→zj,reduceLT→zk,reduceToNat→zl,reduceNegSucc→zm,reduceAdd→zn,reduceBEq→zo
open String renaming reduceBEq→zp
set_option maxHeartbeats 4000000
noncomputable section
variable {mm:Int}
def hA:=Q @Tryz.underlying23 (Q @sz5 (Q @Tryz.underlying9 (Q @Tryz.underlying5 (Q @loopF_eq (Q @ag5 (Q @slots1 (Q @slots2 (Q @ent63 (Q @prm63 (Q @Tryz.underlying22 (Q @sz42 (Q @enSS_a (Q @enL_get (Q @enSS_e (Q @ag42 (Q @zc42 (Q @Tryz.underlying42 (Q @sz9 (Q @ag9 (Q @ent73 (Q @prm73 (Q @Tryz.underlying45 (Q @zc9 (Q @ns5 (Q @ap45 (Q @ent29 (Q @prm29 (Q @enS_a (Q @enS_e (Q @enB_a (Q @enB_e (Q @ent147 (Q @prm147 (Q @ent120 (Q @prm120 (Q @ent71 (Q @prm71 (Q @zc5 (Q @ns12 (Q @ap23 (Q @ent51 (Q @prm51 (Q @ent95 (Q @prm95 (Q @hd17 (Q @nv18 (Q @rw19 (Q @ent74 (Q @prm74 (Q @ent122 (Q @prm122 (Q @ent123 (Q @prm123 (Q @sz45 (Q @ag45 (Q @ent79 (Q @prm79 (Q @ent78 (Q @prm78 (Q @ent58 (Q @prm58 (Q @ent47 (Q @prm47 (Q @ao32 (Q @sz3 (Q @ag3 (Q @zc3 (Q @ent145 (Q @prm145 (Q @ent69 (Q @prm69 (Q @Tryz.underlying73 (Q @zv45 (Q @ent26 (Q @prm26 (Q @sz73 (Q @ag73 (Q @Tryz.underlying3 (Q @Tryz.underlying28 (Q @slots3 (Q @Tryz.underlying78 (Q @ent109 (Q @prm109 (Q @hd59 (Q @nv60 (Q @rw61 (Q @nh62 (Q @ah78hnil (Q @ah78hslc (Q @ent62 (Q @prm62 (Q @sz37 (Q @ag37 (Q @zc37 (Q @ent59 (Q @prm59 (Q @ent60 (Q @prm60 (Q @Tryz.underlying37 (Q @sz4 (Q @ent61 (Q @prm61 (Q @ent94 (Q @prm94 (Q @ent49 (Q @prm49 (Q @ent92 (Q @prm92 (Q @ent93 (Q @prm93 (Q @Tryz.underlying27 (Q @sz22 (Q @ag22 (Q @Tryz.underlying133 (Q @ar86 (Q @zc133 (Q @sz133 (Q @ent135 (Q @prm135 (Q @ent136 (Q @prm136 (Q @ent117 (Q @prm117 (Q @sz27 (Q @ag27 (Q @ent104 (Q @prm104 (Q @ent65 (Q @prm65 (Q @ent23 (Q @prm23 (Q @ns94 (Q @ent67 (Q @prm67 (Q @Tryz.underlying30 (Q @ns98 (Q @ap22 (Q @an22 (Q @ent132 (Q @prm132 (Q @ent103 (Q @prm103 (Q @ent53 (Q @prm53 (Q @ent31 (Q @prm31 (Q @ent99 (Q @prm99 (Q @ent100 (Q @prm100 (Q @ent46 (Q @prm46 (Q @ag4 (Q @zc30 (Q @sz28 (Q @ent15 (Q @prm15 (Q @Tryz.underlying95 (Q @sz35 @Tryz.underlying25)))))))))))))))))))))))))))))))))))))))))))))))))))))))))))))))))))))))))))))))))))))))))))))))))))))))))))))))))))))))))))))))))))))))))))))))))))))))))))))))
set_option maxRecDepth 100000 in
theorem T0J:callW (E0 mm) 17 [] []=some (vd (dB true),[]):=callN_W (k:=1500) (by kernel_rfl)
noncomputable def m0j:Code:=bodyOf Tryz.f63
def O0x:=cA m0j
def O0y:=cA (cB m0j)
def O0z:=cA (cA (cB (cB m0j)))
def K0q:=cA (cB (cA (cB (cB m0j))))
def i0y:=cA K0q
def H0Q:=cA i0y
def H0R:=cA (cA (cA (cB (cB i0y))))
def H0S:=cA (cB (cA (cA (cB (cB i0y)))))
def o0u:=cB (cB (cA (cA (cB (cB i0y)))))
def H0T:=cA o0u
def o0v:=cB (cB (cB i0y))
def k0p:=cB (cB (cB m0j))
def H0U:=cA k0p
def p0I:List (Nat×Co):=[(3,.keep),(8,.keep),(9,.keep),(10,.keep)]
abbrev R63:=(Bs)
def e63(x:R63):AV×Heap:=(vd (dS x),[])
def k0Z(b3_1 t8_1:Nat)(t9 t10:Int)(h0:List UInt8):Option ((Nat×Nat×Int×Int×List UInt8) ⊕ R63):=
 some (.inl (b3_1,t8_1,t9,(w64 (t10+1)),h0))
def p0C(mm:Int)(r:Option (Ex×St)):Option (AV×Heap):=bodyD (E0 mm) [.tmp 2] 0 false (sq (E0 mm) 63 0 k0p (blockD 0 (r)))
def f0v(x:(Nat×Nat×Int×Int×List UInt8)):X:=(none,[.v (.c (.slc 0 0 1 x.1 none)),.v (.c (.slc 0 0 1 x.2.1 none)),vd (dI x.2.2.1),vd (dI x.2.2.2.1)],[.cells (enC x.2.2.2.2)])
def k63:=Q (rx H0T) (Q @enC_length (Q @enC_wr (Q (rx H0U) (Q @enC_take (Q @mapM_enC (Q @chunk_enD (Q (rx H0Q) (Q (rx H0R) (Q @enC_load (Q (rx H0S) (Q @p0C.eq_1 (Q (rx O0x) (Q (rx O0y) (Q @hd1 (Q @enC_S (Q @S_size (Q (rx O0z) (Q (fun mm=>lx (E0 mm) 63 K0q i0y p0I) (Q (nE m0j (.seq O0x (.seq O0y (.seq (.seq O0z (.block 0 K0q)) k0p)))) (Q (nE i0y (.seq H0Q (.seq (.cond _ .skip (.exit 0)) (.seq (.block 1 (.seq H0R (.seq H0S o0u))) o0v)))) (Q @f0v.eq_1 (Q @p0I.eq_1 hA))))))))))))))))))))))
theorem A0g(b3_1 t8_1:Nat)(t9 t10:Int)(h0:List UInt8)(sl:Sl)(_:sl 3=.v (.c (.slc 0 0 1 b3_1 none)))(_:sl 8=.v (.c (.slc 0 0 1 t8_1 none)))(_:sl 9=vd (dI t9))(_:sl 10=vd (dI t10)):
  stepE (p0C mm) (loopK 0 p0I (dn (E0 mm) 63 0 o0v sl [.cells (enC h0)]))=(k0Z b3_1 t8_1 t9 t10 h0).map (sm f0v e63):=by
 unfold k0Z;exact go (Q (rx o0v) k63) trivial
def h0y(b3_1:Nat)(i4:Int)(c5:UInt8)(t8_1:Nat)(t9 t10:Int)(t20:Bool)(h0:List UInt8):Option ((Nat×Nat×Int×Int×List UInt8) ⊕ R63):=
 if t20=true then
  if 0≤i4∧i4<(b3_1:Int) then
   if i4.toNat<h0.length then
    k0Z b3_1 t8_1 t9 t10 (h0.set i4.toNat ((c5+(97:UInt8)) - (65:UInt8)))
   else none
  else none
 else
  k0Z b3_1 t8_1 t9 t10 h0
theorem A0f(b3_1:Nat)(i4:Int)(c5:UInt8)(t8_1:Nat)(t9 t10:Int)(t20:Bool)(h0:List UInt8)(sl:Sl)(_:sl 3=.v (.c (.slc 0 0 1 b3_1 none)))(_:sl 4=vd (dI i4))(_:sl 5=vd (.sc (.int .u8 ((c5).toNat:Int))))(_:sl 8=.v (.c (.slc 0 0 1 t8_1 none)))(_:sl 9=vd (dI t9))(_:sl 10=vd (dI t10))(_:sl 20=vd (dB t20)):
  stepE (p0C mm) (loopK 0 p0I (sq (E0 mm) 63 0 o0v (blockD 1 (dn (E0 mm) 63 0 o0u sl [.cells (enC h0)]))))=(h0y b3_1 i4 c5 t8_1 t9 t10 t20 h0).map (sm f0v e63):=by
 unfold h0y;exact go (Q (nE o0u (.cond _ H0T .skip)) k63) @A0g
def p0c(b3_1:Nat)(h0:List UInt8):Option R63:=
 if b3_1≤h0.length then
  some (h0.take b3_1)
 else none
theorem A0h(b3_1:Nat)(h0:List UInt8)(sl:Sl)(_:sl 3=.v (.c (.slc 0 0 1 b3_1 none))):
  bodyD (E0 mm) [.tmp 2] 0 false (dn (E0 mm) 63 0 k0p sl [.cells (enC h0)])=(p0c b3_1 h0).map e63:=by
 unfold p0c;exact go (Q (nE k0p (.seq H0U .ret)) k63) trivial
def B0N(b3_1 t8_1:Nat)(t9 t10:Int)(h0:List UInt8):Option ((Nat×Nat×Int×Int×List UInt8) ⊕ R63):=
 if (decide (t10<t9))=true then
  if 0≤t10∧t10<(t8_1:Int) then
   if t10.toNat<h0.length then
    if (decide ((65:UInt8)≤(h0.getD t10.toNat 0)))=true then
     h0y b3_1 t10 (h0.getD t10.toNat 0) t8_1 t9 t10 (decide ((h0.getD t10.toNat 0)≤(90:UInt8))) h0
    else
     h0y b3_1 t10 (h0.getD t10.toNat 0) t8_1 t9 t10 false h0
   else none
  else none
 else
  (p0c b3_1 h0).map .inr
theorem M0b(b3_1 t8_1:Nat)(t9 t10:Int)(h0:List UInt8):
  stepE (p0C mm) (lp (E0 mm) 63 0 i0y p0I (f0v (b3_1,t8_1,t9,t10,h0)))=(B0N b3_1 t8_1 t9 t10 h0).map (sm f0v e63):=by
 unfold B0N;exact go k63 (Q @A0f @A0h)
def L0d(b3_1 t8_1:Nat)(t9 t10:Int)(h0:List UInt8):Option R63:=iter (fun x:(Nat×Nat×Int×Int×List UInt8)=>B0N x.1 x.2.1 x.2.2.1 x.2.2.2.1 x.2.2.2.2) (b3_1,t8_1,t9,t10,h0)
theorem L0e(b3_1 t8_1:Nat)(t9 t10:Int)(h0:List UInt8):(p0C mm) (itW (lp (E0 mm) 63 0 i0y p0I) (f0v (b3_1,t8_1,t9,t10,h0)))=(L0d b3_1 t8_1 t9 t10 h0).map e63:=
 it_sim (K:=(p0C mm)) rfl (enc:=f0v) (fun x=>M0b x.1 x.2.1 x.2.2.1 x.2.2.2.1 x.2.2.2.2) (b3_1,t8_1,t9,t10,h0)
def m63(s:Bs):Option R63:=
 L0d s.length s.length (s.length:Int) (0:Int) s
theorem z0a(s:Bs):
  callW (E0 mm) 63 [cd (dS s)] []=(m63 s).map e63:=by
 rw[cR m0j [.tmp 2] Tryz.func63]
 unfold m63;exact go k63 @L0e
noncomputable def y0J:Code:=bodyOf Tryz.f73
def P0b:=cA y0J
def P0c:=cA (cB y0J)
abbrev R73:=(Bool)
def e73(x:R73):AV×Heap:=(vd (dB x),[])
def m73(a b:Bs):Option R73:=
 (m63 a).bind fun yr2=>
  (m63 b).bind fun yr4=>
   some (yr2==yr4)
def k73:=Q (rx P0b) (Q (rx P0c) (Q @z0a (Q @e63.eq_1 (Q (nE y0J (.seq P0b (.seq P0c .ret))) hA))))
theorem z0d(a b:Bs):
  callW (E0 mm) 73 [cd (dS a),cd (dS b)] []=(m73 a b).map e73:=by
 rw[cR y0J [.tmp 4] Tryz.func73]
 unfold m73;exact go k73 trivial
noncomputable def l0Z:Code:=bodyOf Tryz.f29
def N0i:=cA l0Z
def N0j:=cA (cB l0Z)
def N0k:=cA (cA (cB (cB l0Z)))
def K0g:=cA (cB (cA (cB (cB l0Z))))
def i0w:=cA K0g
def F0u:=cA i0w
def F0v:=cA (cA (cA (cB (cB i0w))))
def F0w:=cA (cB (cA (cA (cB (cB i0w)))))
def F0x:=cA (cB (cB (cA (cA (cB (cB i0w))))))
def u0j:=cB (cB (cB i0w))
def j0T:=cB (cB (cB l0Z))
def F0y:=cA j0T
def q0O:List (Nat×Co):=[(1,.keep),(5,.own),(8,.keep),(9,.keep),(10,.keep)]
abbrev R29:=(Bool×List Bs)
def e29(x:R29):AV×Heap:=(.v (.c (.own x.1 (enL enS x.2) 0)),[.row x.2.length (rz x.1 1)])
def k0S(name1:Bs)(out5_0:Bool)(out5_1:List Bs)(t8_0:Bool)(t8_1:List (Bs×Bs))(t9 t10:Int):Option ((Bs×Bool×List Bs×Bool×List (Bs×Bs)×Int×Int) ⊕ R29):=
 some (.inl (name1,out5_0,out5_1,t8_0,t8_1,t9,(w64 (t10+1))))
def q0K(mm:Int)(r:Option (Ex×St)):Option (AV×Heap):=bodyD (E0 mm) [.tmp 4] 0 false (sq (E0 mm) 29 0 j0T (blockD 0 (r)))
def h0i(x:(Bs×Bool×List Bs×Bool×List (Bs×Bs)×Int×Int)):X:=(none,[vd (dS x.1),.v (.c (.own x.2.1 (enL enS x.2.2.1) 0)),vd (.lst x.2.2.2.1 (enL enSS x.2.2.2.2.1)),vd (dI x.2.2.2.2.2.1),vd (dI x.2.2.2.2.2.2)],[.row x.2.2.1.length (rz x.2.1 1)])
def k29:=Q (rx F0y) (Q (rx F0u) (Q (rx F0v) (Q @ao0 (Q (rx F0w) (Q @z0d (Q @e73.eq_1 (Q (rx F0x) (Q @hd2 (Q @nv3 (Q @rw4 (Q @q0K.eq_1 (Q (rx N0i) (Q (rx N0j) (Q (rx N0k) (Q (fun mm=>lx (E0 mm) 29 K0g i0w q0O) (Q (nE l0Z (.seq N0i (.seq N0j (.seq (.seq N0k (.block 0 K0g)) j0T)))) (Q (nE i0w (.seq F0u (.seq (.cond _ .skip (.exit 0)) (.seq (.block 1 (.seq F0v (.seq F0w (.cond _ F0x .skip)))) u0j)))) (Q @h0i.eq_1 (Q @q0O.eq_1 hA)))))))))))))))))))
theorem z0x(name1:Bs)(out5_0:Bool)(out5_1:List Bs)(t8_0:Bool)(t8_1:List (Bs×Bs))(t9 t10:Int)(g1:Ob)(sl:Sl)(_:sl 1=vd (dS name1))(_:sl 5=.v (.c (.own out5_0 (enL enS out5_1) 0)))(_:sl 8=vd (.lst t8_0 (enL enSS t8_1)))(_:sl 9=vd (dI t9))(_:sl 10=vd (dI t10)):
  stepE (q0K mm) (loopK 0 q0O (dn (E0 mm) 29 0 u0j sl [.row out5_1.length (rz out5_0 1),g1]))=(k0S name1 out5_0 out5_1 t8_0 t8_1 t9 t10).map (sm h0i e29):=by
 unfold k0S;exact go (Q (rx u0j) k29) trivial
def o0L(out5_0:Bool)(out5_1:List Bs):Option R29:=
 some (out5_0,out5_1)
theorem z0y(out5_0:Bool)(out5_1:List Bs)(sl:Sl)(_:sl 5=.v (.c (.own out5_0 (enL enS out5_1) 0))):
  bodyD (E0 mm) [.tmp 4] 0 false (dn (E0 mm) 29 0 j0T sl [.row out5_1.length (rz out5_0 1)])=(o0L out5_0 out5_1).map e29:=by
 unfold o0L;exact go (Q (nE j0T (.seq F0y .ret)) k29) trivial
def q0y(name1:Bs)(out5_0:Bool)(out5_1:List Bs)(t8_0:Bool)(t8_1:List (Bs×Bs))(t9 t10:Int):Option ((Bs×Bool×List Bs×Bool×List (Bs×Bs)×Int×Int) ⊕ R29):=
 if (decide (t10<t9))=true then
  if 0≤t10∧t10<(t8_1.length:Int) then
   (m73 ((t8_1.getD t10.toNat default).1) name1).bind fun yr5=>
    if yr5=true then
     if (out5_1.length+1)*16≤140737488355328 then
      k0S name1 false (out5_1++([(t8_1.getD t10.toNat default).2]:List Bs)) t8_0 t8_1 t9 t10
     else none
    else
     k0S name1 out5_0 out5_1 t8_0 t8_1 t9 t10
  else none
 else
  (o0L out5_0 out5_1).map .inr
theorem L0U(name1:Bs)(out5_0:Bool)(out5_1:List Bs)(t8_0:Bool)(t8_1:List (Bs×Bs))(t9 t10:Int):
  stepE (q0K mm) (lp (E0 mm) 29 0 i0w q0O (h0i (name1,out5_0,out5_1,t8_0,t8_1,t9,t10)))=(q0y name1 out5_0 out5_1 t8_0 t8_1 t9 t10).map (sm h0i e29):=by
 unfold q0y;exact go k29 (Q @z0x @z0y)
def R0J(name1:Bs)(out5_0:Bool)(out5_1:List Bs)(t8_0:Bool)(t8_1:List (Bs×Bs))(t9 t10:Int):Option R29:=iter (fun x:(Bs×Bool×List Bs×Bool×List (Bs×Bs)×Int×Int)=>q0y x.1 x.2.1 x.2.2.1 x.2.2.2.1 x.2.2.2.2.1 x.2.2.2.2.2.1 x.2.2.2.2.2.2) (name1,out5_0,out5_1,t8_0,t8_1,t9,t10)
theorem K0U(name1:Bs)(out5_0:Bool)(out5_1:List Bs)(t8_0:Bool)(t8_1:List (Bs×Bs))(t9 t10:Int):(q0K mm) (itW (lp (E0 mm) 29 0 i0w q0O) (h0i (name1,out5_0,out5_1,t8_0,t8_1,t9,t10)))=(R0J name1 out5_0 out5_1 t8_0 t8_1 t9 t10).map e29:=
 it_sim (K:=(q0K mm)) rfl (enc:=h0i) (fun x=>L0U x.1 x.2.1 x.2.2.1 x.2.2.2.1 x.2.2.2.2.1 x.2.2.2.2.2.1 x.2.2.2.2.2.2) (name1,out5_0,out5_1,t8_0,t8_1,t9,t10)
def m29(l_0:Bool)(l_1:List (Bs×Bs))(name:Bs):Option R29:=
 R0J name true ([]:List Bs) l_0 l_1 (l_1.length:Int) (0:Int)
theorem m0q(l_0:Bool)(l_1:List (Bs×Bs))(name:Bs):
  callW (E0 mm) 29 [cd (.lst l_0 (enL enSS l_1)),cd (dS name)] []=(m29 l_0 l_1 name).map e29:=by
 rw[cR l0Z [.tmp 4] Tryz.func29]
 unfold m29;exact go k29 @K0U
noncomputable def m0k:Code:=bodyOf Tryz.f71
def O0T:=cA m0k
def O0U:=cA (cA (cB m0k))
def O0V:=cA (cB (cA (cB m0k)))
def O0W:=cA (cA (cB (cB (cA (cB m0k)))))
def I0l:=cA (cB (cB m0k))
abbrev R71:=(Bs)
def e71(x:R71):AV×Heap:=(vd (dS x),[])
def m71(l_0:Bool)(l_1:List (Bs×Bs))(name:Bs):Option R71:=
 (m29 l_0 l_1 name).bind fun yr2=>
  if ((yr2.2.length:Int)==1)=true then
   if (0:Int)<(yr2.2.length:Int) then
    some (yr2.2.getD 0 default)
   else none
  else
   some ([]:Bs)
def k71:=Q (rx O0T) (Q (rx O0U) (Q @m0q (Q @e29.eq_1 (Q (rx O0V) (Q (rx O0W) (Q (rx I0l) (Q (nE m0k (.seq O0T (.seq (.seq O0U (.seq O0V (.cond _ (.seq O0W .ret) .skip))) (.seq I0l .ret)))) hA)))))))
theorem z0c(l_0:Bool)(l_1:List (Bs×Bs))(name:Bs):
  callW (E0 mm) 71 [cd (.lst l_0 (enL enSS l_1)),cd (dS name)] []=(m71 l_0 l_1 name).map e71:=by
 rw[cR m0k [.tmp 4] Tryz.func71]
 unfold m71;exact go k71 trivial
noncomputable def n0X:Code:=bodyOf Tryz.f167
def E0T:=cA n0X
def E0U:=cA (cB n0X)
abbrev V0i:=(Bool)
def V0R(x:V0i):AV×Heap:=(vd (dB x),[])
def T0o(s xprefix:Bs):Option V0i:=
 if (decide ((xprefix.length:Int)≤(s.length:Int)))=true then
  (bnd (xprefix.length:Int) s.length).bind fun yk3=>
   some ((s.take yk3)==xprefix)
 else
  some false
def W0G:=Q (rx E0T) (Q (rx E0U) (Q (nE n0X (.seq E0T (.seq E0U .ret))) hA))
theorem R0a(s xprefix:Bs):
  callW (E0 mm) 167 [cd (dS s),cd (dS xprefix)] []=(T0o s xprefix).map V0R:=by
 rw[cR n0X [.tmp 4] Tryz.func167]
 unfold T0o;exact go W0G trivial
noncomputable def g0U:Code:=bodyOf Tryz.f146
def E0q:=cA g0U
def E0r:=cA (cA (cB g0U))
def E0s:=cA (cA (cB (cA (cB g0U))))
def t0I:=cA (cB (cB g0U))
abbrev V0c:=(Bs)
def V0L(x:V0c):AV×Heap:=(vd (dS x),[])
def T0j(s xprefix:Bs):Option V0c:=
 (T0o s xprefix).bind fun yr2=>
  if yr2=true then
   (bnd (xprefix.length:Int) s.length).bind fun yk5=>
    some (s.drop yk5)
  else
   some s
def W0A:=Q (rx E0q) (Q (rx E0r) (Q @ent167 (Q @prm167 (Q @R0a (Q @V0R.eq_1 (Q (rx E0s) (Q (rx t0I) (Q (nE g0U (.seq E0q (.seq (.seq E0r (.cond _ (.seq E0s .ret) .skip)) (.seq t0I .ret)))) hA))))))))
theorem Q0R(s xprefix:Bs):
  callW (E0 mm) 146 [cd (dS s),cd (dS xprefix)] []=(T0j s xprefix).map V0L:=by
 rw[cR g0U [.tmp 4] Tryz.func146]
 unfold T0j;exact go W0A trivial
noncomputable def n0A:Code:=bodyOf Tryz.f118
def C0R:=cA n0A
def C0S:=cA (cB n0A)
abbrev U0R:=(Bs)
def V0C(x:U0R):AV×Heap:=(vd (dS x),[])
def R0Y(s xprefix:Bs):Option U0R:=
 (T0j s xprefix).bind fun yr2=>
  some yr2
def W0p:=Q (rx C0R) (Q (rx C0S) (Q @ent146 (Q @prm146 (Q @Q0R (Q @V0L.eq_1 (Q (nE n0A (.seq C0R (.seq C0S .ret))) hA))))))
theorem J0o(s xprefix:Bs):
  callW (E0 mm) 118 [cd (dS s),cd (dS xprefix)] []=(R0Y s xprefix).map V0C:=by
 rw[cR n0A [.tmp 4] Tryz.func118]
 unfold R0Y;exact go W0p trivial
noncomputable def n0B:Code:=bodyOf Tryz.f119
def C0T:=cA n0B
def C0U:=cA (cB n0B)
abbrev U0S:=(Bool)
def V0D(x:U0S):AV×Heap:=(vd (dB x),[])
def T0e(c:UInt8):Option U0S:=
 if (decide (c<(33:UInt8)))=true then
  some true
 else
  if (c==(34:UInt8))=true then
   some true
  else
   some (c==(127:UInt8))
def W0q:=Q (rx C0T) (Q (rx C0U) (Q (nE n0B (.seq C0T (.seq C0U .ret))) hA))
theorem Q0z(c:UInt8):
  callW (E0 mm) 119 [cd (.sc (.int .u8 ((c).toNat:Int)))] []=(T0e c).map V0D:=by
 rw[cR n0B [.tmp 2] Tryz.func119]
 unfold T0e;exact go W0q trivial
noncomputable def d0L:Code:=bodyOf Tryz.f147
def n0P:=cA d0L
def n0Q:=cA (cA (cB d0L))
def j0K:=cA (cB (cA (cB d0L)))
def a0y:=cA j0K
def n0R:=cA a0y
def i0p:=cA (cA (cA (cB (cB a0y))))
def i0q:=cA (cB (cA (cA (cB (cB a0y)))))
def i0r:=cA (cA (cB (cB (cA (cA (cB (cB a0y)))))))
def i0s:=cB (cB (cB a0y))
def a0D:=cB (cB d0L)
def i0t:=cA a0D
def n0r:List (Nat×Co):=[(0,.keep),(1,.keep),(7,.keep),(8,.keep)]
abbrev M0w:=(Int)
def Q0m(x:M0w):AV×Heap:=(vd (dI x),[])
def i0N: Option M0w:=
 some (-1:Int)
def n0d(mm:Int)(r:Option (Ex×St)):Option (AV×Heap):=bodyD (E0 mm) [.tmp 4] 0 false (sq (E0 mm) 147 0 a0D (blockD 0 (r)))
def f0o(x:(Bool×List UInt8×Int×Int)):X:=(none,[vd (.lst x.1 (enL enB x.2.1)),vd (.sc (.func (.func 119) #[] #[])),vd (dI x.2.2.1),vd (dI x.2.2.2)],[])
def U0B:=Q (rx i0t) (Q (rx n0R) (Q (rx i0p) (Q (rx i0q) (Q @ent119 (Q @prm119 (Q @Q0z (Q @V0D.eq_1 (Q (rx i0r) (Q @n0d.eq_1 (Q (rx i0s) (Q (rx n0P) (Q (rx n0Q) (Q (fun mm=>lx (E0 mm) 147 j0K a0y n0r) (Q (nE d0L (.seq n0P (.seq (.seq n0Q (.block 0 j0K)) a0D))) (Q (nE a0y (.seq n0R (.seq (.cond _ .skip (.exit 0)) (.seq (.block 1 (.seq i0p (.seq i0q (.cond _ (.seq i0r .ret) .skip)))) i0s)))) (Q @f0o.eq_1 (Q @n0r.eq_1 hA)))))))))))))))))
theorem v0T(sl:Sl):
  bodyD (E0 mm) [.tmp 4] 0 false (dn (E0 mm) 147 0 a0D sl [])=(i0N).map Q0m:=by
 unfold i0N;exact go (Q (nE a0D (.seq i0t .ret)) U0B) trivial
def l0q(s0_0:Bool)(s0_1:List UInt8)(t7 t8:Int):Option ((Bool×List UInt8×Int×Int) ⊕ M0w):=
 if (decide (t8<t7))=true then
  if 0≤t8∧t8<(s0_1.length:Int) then
   (T0e (s0_1.getD t8.toNat default)).bind fun yr5=>
    if yr5=true then
     some (.inr t8)
    else
     some (.inl (s0_0,s0_1,t7,(w64 (t8+1))))
  else none
 else
  (i0N).map .inr
theorem B0B(s0_0:Bool)(s0_1:List UInt8)(t7 t8:Int):
  stepE (n0d mm) (lp (E0 mm) 147 0 a0y n0r (f0o (s0_0,s0_1,t7,t8)))=(l0q s0_0 s0_1 t7 t8).map (sm f0o Q0m):=by
 unfold l0q;exact go U0B @v0T
def J0x(s0_0:Bool)(s0_1:List UInt8)(t7 t8:Int):Option M0w:=iter (fun x:(Bool×List UInt8×Int×Int)=>l0q x.1 x.2.1 x.2.2.1 x.2.2.2) (s0_0,s0_1,t7,t8)
theorem A0O(s0_0:Bool)(s0_1:List UInt8)(t7 t8:Int):(n0d mm) (itW (lp (E0 mm) 147 0 a0y n0r) (f0o (s0_0,s0_1,t7,t8)))=(J0x s0_0 s0_1 t7 t8).map Q0m:=
 it_sim (K:=(n0d mm)) rfl (enc:=f0o) (fun x=>B0B x.1 x.2.1 x.2.2.1 x.2.2.2) (s0_0,s0_1,t7,t8)
def T0k(s_0:Bool)(s_1:List UInt8):Option M0w:=
 J0x s_0 s_1 (s_1.length:Int) (0:Int)
theorem Q0S(s_0:Bool)(s_1:List UInt8):
  callW (E0 mm) 147 [cd (.lst s_0 (enL enB s_1)),cd (.sc (.func (.func 119) #[] #[]))] []=(T0k s_0 s_1).map Q0m:=by
 rw[cR d0L [.tmp 4] Tryz.func147]
 unfold T0k;exact go U0B @A0O
noncomputable def g0J:Code:=bodyOf Tryz.f120
def n0C:=cA g0J
def n0D:=cA (cB g0J)
abbrev U0T:=(Bool)
def V0E(x:U0T):AV×Heap:=(vd (dB x),[])
def R0Z(s_0:Bool)(s_1:List UInt8):Option U0T:=
 (T0k s_0 s_1).bind fun yr2=>
  some (decide (0≤yr2))
def W0r:=Q (rx n0C) (Q (rx n0D) (Q @Q0S (Q @Q0m.eq_1 (Q (nE g0J (.seq n0C (.seq n0D .ret))) hA))))
theorem J0p(s_0:Bool)(s_1:List UInt8):
  callW (E0 mm) 120 [cd (.lst s_0 (enL enB s_1)),cd (.sc (.func (.func 119) #[] #[]))] []=(R0Z s_0 s_1).map V0E:=by
 rw[cR g0J [.tmp 4] Tryz.func120]
 unfold R0Z;exact go W0r trivial
noncomputable def m0l:Code:=bodyOf Tryz.f72
def O0X:=cA m0l
def O0Y:=cA (cB m0l)
def O0Z:=cA (cA (cB (cB m0l)))
def y0I:=cB (cA (cB (cB m0l)))
def P0a:=cA (cA y0I)
def k0r:=cB (cB (cB m0l))
def I0m:=cA k0r
def I0n:=cA (cB k0r)
abbrev R72:=(Bool)
def e72(x:R72):AV×Heap:=(vd (dB x),[])
def f0S(s0:Bs)(t21:Bool):Option R72:=
 if t21=true then
  some false
 else
  (bnd (w64 ((s0.length:Int) - 1)) s0.length).bind fun yk6=>
   (bnd 1 yk6).bind fun yk8=>
    (R0Z false ((s0.take yk6).drop yk8)).bind fun yr10=>
     some (!yr10)
def k72:=Q (rx P0a) (Q (rx I0m) (Q (rx I0n) (Q @hd7 (Q @rw8 (Q (fun (mm:Int) (s0:Bs) (yk6:Nat) (yk8:Nat)=>(show callW (E0 mm) 120 [cd (.lst false (enL enB ((s0.take yk6).drop yk8))),cd (.sc (.func (.func 119) #[] #[]))] []=_ from J0p false ((s0.take yk6).drop yk8))) (Q @J0p (Q @V0E.eq_1 (Q (rx O0X) (Q (rx O0Y) (Q @ent118 (Q @prm118 (Q (fun (mm:Int) (s:Bs)=>(show callW (E0 mm) 118 [cd (dS s),cd (dS ([87,47]:Bs))] []=_ from J0o s ([87,47]:Bs))) (Q @J0o (Q @V0C.eq_1 (Q (rx O0Z) (Q (nE m0l (.seq O0X (.seq O0Y (.seq (.seq O0Z y0I) k0r)))) (Q (nE k0r (.seq I0m (.seq I0n .ret))) hA)))))))))))))))))
theorem K0G(s0:Bs)(t21:Bool)(sl:Sl)(_:sl 0=vd (dS s0))(_:sl 21=vd (dB t21)):
  bodyD (E0 mm) [.tmp 2] 0 false (sq (E0 mm) 72 0 k0r (dn (E0 mm) 72 0 y0I sl []))=(f0S s0 t21).map e72:=by
 unfold f0S;exact go (Q (nE y0I (.cond _ (.seq P0a .ret) .skip)) k72) trivial
def m72(s:Bs):Option R72:=
 (R0Y s ([87,47]:Bs)).bind fun yr2=>
  if (decide ((yr2.length:Int)<2))=true then
   f0S yr2 true
  else
   if (0:Int)<(yr2.length:Int) then
    if ((yr2.getD 0 0)==(34:UInt8))=true then
     if 0≤(w64 ((yr2.length:Int) - 1))∧(w64 ((yr2.length:Int) - 1))<(yr2.length:Int) then
      f0S yr2 (!((yr2.getD (w64 ((yr2.length:Int) - 1)).toNat 0)==(34:UInt8)))
     else none
    else
     f0S yr2 true
   else none
theorem U0c(s:Bs):
  callW (E0 mm) 72 [cd (dS s)] []=(m72 s).map e72:=by
 rw[cR m0l [.tmp 2] Tryz.func72]
 unfold m72;exact go k72 @K0G
noncomputable def l0Y:Code:=bodyOf Tryz.f28
def N0e:=cA l0Y
def N0f:=cA (cB l0Y)
def N0g:=cA (cA (cB (cB l0Y)))
def N0h:=cA (cA (cB (cA (cB (cB l0Y)))))
def F0t:=cA (cB (cB (cB l0Y)))
abbrev R28:=(Bs×Bool)
def e28(x:R28):AV×Heap:=(.tup [cd (dS x.1),cd (dB x.2)],[])
def m28(l_0:Bool)(l_1:List (Bs×Bs)):Option R28:=
 (m71 l_0 l_1 ([101,116,97,103]:Bs)).bind fun yr2=>
  (m72 yr2).bind fun yr4=>
   if yr4=true then
    some (yr2,true)
   else
    some (([]:Bs),false)
def k28:=Q (rx N0e) (Q (rx N0f) (Q (fun (mm:Int) (l_0:Bool) (l_1:List (Bs×Bs))=>(show callW (E0 mm) 71 [cd (.lst l_0 (enL enSS l_1)),cd (dS ([101,116,97,103]:Bs))] []=_ from z0c l_0 l_1 ([101,116,97,103]:Bs))) (Q @z0c (Q @e71.eq_1 (Q (rx N0g) (Q @ent72 (Q @prm72 (Q @U0c (Q @e72.eq_1 (Q (rx F0t) (Q (rx N0h) (Q (nE l0Y (.seq N0e (.seq N0f (.seq (.seq N0g (.cond _ (.seq N0h .ret) .skip)) (.seq F0t .ret))))) hA))))))))))))
theorem T0N(l_0:Bool)(l_1:List (Bs×Bs)):
  callW (E0 mm) 28 [cd (.lst l_0 (enL enSS l_1))] []=(m28 l_0 l_1).map e28:=by
 rw[cR l0Y [.tmp 2,.tmp 3] Tryz.func28]
 unfold m28;exact go k28 trivial
noncomputable def m0f:Code:=bodyOf Tryz.f51
def O0b:=cA m0f
def O0c:=cA (cB m0f)
def O0d:=cA (cA (cB (cB m0f)))
def K0o:=cA (cB (cA (cB (cB m0f))))
def k0m:=cA K0o
def H0r:=cA (cA k0m)
def H0s:=cA (cA (cA (cB k0m)))
def k0k:=cB (cA (cA (cB k0m)))
def H0t:=cA k0k
def H0u:=cB k0k
def o0k:=cB (cB k0m)
def k0l:=cB (cB (cB m0f))
def H0v:=cA k0l
def p0H:List (Nat×Co):=[(0,.keep),(3,.own),(4,.keep)]
abbrev R51:=(Bs)
def e51(x:R51):AV×Heap:=(vd (dS x),[])
def k0Y(s0:Bs)(b3_0:Bool)(b3_1:List UInt8)(i4:Int):Option ((Bs×Bool×List UInt8×Int) ⊕ R51):=
 some (.inl (s0,b3_0,b3_1,(w64 (i4+1))))
def p0B(mm:Int)(r:Option (Ex×St)):Option (AV×Heap):=bodyD (E0 mm) [.tmp 2] 0 false (sq (E0 mm) 51 0 k0l (blockD 0 (r)))
def f0s(x:(Bs×Bool×List UInt8×Int)):X:=(none,[vd (dS x.1),.v (.c (.own x.2.1 (enL enB x.2.2.1) 0)),vd (dI x.2.2.2)],[.row x.2.2.1.length (rz x.2.1 1)])
def k51:=Q (rx H0t) (Q @hd9 (Q @nv10 (Q @rw11 (Q (rx H0u) (Q @hd14 (Q @nv15 (Q @rw16 (Q (rx H0v) (Q (rx H0r) (Q (rx H0s) (Q @p0B.eq_1 (Q (rx O0b) (Q (rx O0c) (Q (rx O0d) (Q (fun mm=>lx (E0 mm) 51 K0o k0m p0H) (Q (nE m0f (.seq O0b (.seq O0c (.seq (.seq O0d (.block 0 K0o)) k0l)))) (Q (nE k0m (.seq (.seq H0r (.cond _ .skip (.exit 0))) (.seq (.block 1 (.seq H0s k0k)) o0k))) (Q @f0s.eq_1 (Q @p0H.eq_1 hA)))))))))))))))))))
theorem z0V(s0:Bs)(b3_0:Bool)(b3_1:List UInt8)(i4:Int)(sl:Sl)(_:sl 0=vd (dS s0))(_:sl 3=.v (.c (.own b3_0 (enL enB b3_1) 0)))(_:sl 4=vd (dI i4)):
  stepE (p0B mm) (loopK 0 p0H (dn (E0 mm) 51 0 o0k sl [.row b3_1.length (rz b3_0 1)]))=(k0Y s0 b3_0 b3_1 i4).map (sm f0s e51):=by
 unfold k0Y;exact go (Q (rx o0k) k51) trivial
def h0v(s0:Bs)(b3_0:Bool)(b3_1:List UInt8)(i4:Int)(t20:Bool):Option ((Bs×Bool×List UInt8×Int) ⊕ R51):=
 if t20=true then
  if 0≤i4∧i4<(s0.length:Int) then
   if (b3_1.length+1)*1≤140737488355328 then
    k0Y s0 false (b3_1++([((s0.getD i4.toNat 0)+(32:UInt8))]:List UInt8)) i4
   else none
  else none
 else
  if 0≤i4∧i4<(s0.length:Int) then
   if (b3_1.length+1)*1≤140737488355328 then
    k0Y s0 false (b3_1++([(s0.getD i4.toNat 0)]:List UInt8)) i4
   else none
  else none
theorem z0U(s0:Bs)(b3_0:Bool)(b3_1:List UInt8)(i4:Int)(t20:Bool)(sl:Sl)(_:sl 0=vd (dS s0))(_:sl 3=.v (.c (.own b3_0 (enL enB b3_1) 0)))(_:sl 4=vd (dI i4))(_:sl 20=vd (dB t20)):
  stepE (p0B mm) (loopK 0 p0H (sq (E0 mm) 51 0 o0k (blockD 1 (dn (E0 mm) 51 0 k0k sl [.row b3_1.length (rz b3_0 1)]))))=(h0v s0 b3_0 b3_1 i4 t20).map (sm f0s e51):=by
 unfold h0v;exact go (Q (nE k0k (.cond _ H0t H0u)) k51) @z0V
def o0W(b3_0:Bool)(b3_1:List UInt8):Option R51:=
 some b3_1
theorem z0W(b3_0:Bool)(b3_1:List UInt8)(sl:Sl)(_:sl 3=.v (.c (.own b3_0 (enL enB b3_1) 0))):
  bodyD (E0 mm) [.tmp 2] 0 false (dn (E0 mm) 51 0 k0l sl [.row b3_1.length (rz b3_0 1)])=(o0W b3_0 b3_1).map e51:=by
 unfold o0W;exact go (Q (nE k0l (.seq H0v .ret)) k51) trivial
def B0L(s0:Bs)(b3_0:Bool)(b3_1:List UInt8)(i4:Int):Option ((Bs×Bool×List UInt8×Int) ⊕ R51):=
 if (decide (i4<(s0.length:Int)))=true then
  if 0≤i4∧i4<(s0.length:Int) then
   if (decide ((65:UInt8)≤(s0.getD i4.toNat 0)))=true then
    h0v s0 b3_0 b3_1 i4 (decide ((s0.getD i4.toNat 0)≤(90:UInt8)))
   else
    h0v s0 b3_0 b3_1 i4 false
  else none
 else
  (o0W b3_0 b3_1).map .inr
theorem L0Z(s0:Bs)(b3_0:Bool)(b3_1:List UInt8)(i4:Int):
  stepE (p0B mm) (lp (E0 mm) 51 0 k0m p0H (f0s (s0,b3_0,b3_1,i4)))=(B0L s0 b3_0 b3_1 i4).map (sm f0s e51):=by
 unfold B0L;exact go k51 (Q @z0U @z0W)
def K0Z(s0:Bs)(b3_0:Bool)(b3_1:List UInt8)(i4:Int):Option R51:=iter (fun x:(Bs×Bool×List UInt8×Int)=>B0L x.1 x.2.1 x.2.2.1 x.2.2.2) (s0,b3_0,b3_1,i4)
theorem L0a(s0:Bs)(b3_0:Bool)(b3_1:List UInt8)(i4:Int):(p0B mm) (itW (lp (E0 mm) 51 0 k0m p0H) (f0s (s0,b3_0,b3_1,i4)))=(K0Z s0 b3_0 b3_1 i4).map e51:=
 it_sim (K:=(p0B mm)) rfl (enc:=f0s) (fun x=>L0Z x.1 x.2.1 x.2.2.1 x.2.2.2) (s0,b3_0,b3_1,i4)
def m51(s:Bs):Option R51:=
 K0Z s true ([]:List UInt8) (0:Int)
theorem p0Z(s:Bs):
  callW (E0 mm) 51 [cd (dS s)] []=(m51 s).map e51:=by
 rw[cR m0f [.tmp 2] Tryz.func51]
 unfold m51;exact go k51 @L0a
noncomputable def y0V:Code:=bodyOf Tryz.f95
def P0T:=cA y0V
def P0U:=cA (cB y0V)
abbrev R95:=(Bool)
def e95(x:R95):AV×Heap:=(vd (dB x),[])
def m95(a b:Bs):Option R95:=
 (m51 a).bind fun yr2=>
  (m51 b).bind fun yr4=>
   some (yr2==yr4)
def k95:=Q (rx P0T) (Q (rx P0U) (Q @p0Z (Q @e51.eq_1 (Q (nE y0V (.seq P0T (.seq P0U .ret))) hA))))
theorem v0g(a b:Bs):
  callW (E0 mm) 95 [cd (dS a),cd (dS b)] []=(m95 a b).map e95:=by
 rw[cR y0V [.tmp 4] Tryz.func95]
 unfold m95;exact go k95 trivial
noncomputable def m0m:Code:=bodyOf Tryz.f74
def P0d:=cA m0m
def P0e:=cA (cB m0m)
def P0f:=cA (cA (cB (cB m0m)))
def K0r:=cA (cB (cA (cB (cB m0m))))
def k0t:=cA K0r
def I0o:=cA (cA k0t)
def I0p:=cA (cA (cA (cB k0t)))
def I0q:=cA (cB (cA (cA (cB k0t))))
def u0C:=cB (cB k0t)
def k0s:=cB (cB (cB m0m))
def I0r:=cA k0s
def q0T:List (Nat×Co):=[(0,.keep),(1,.keep),(5,.own),(6,.keep)]
abbrev R74:=(Bool×List Bs)
def e74(x:R74):AV×Heap:=(.v (.c (.own x.1 (enL enS x.2) 0)),[.row x.2.length (rz x.1 1)])
def l0a(l0_0:Bool)(l0_1:List (Bs×Bs))(name1:Bs)(out5_0:Bool)(out5_1:List Bs)(i6:Int):Option ((Bool×List (Bs×Bs)×Bs×Bool×List Bs×Int) ⊕ R74):=
 some (.inl (l0_0,l0_1,name1,out5_0,out5_1,(w64 (i6+1))))
def q0L(mm:Int)(r:Option (Ex×St)):Option (AV×Heap):=bodyD (E0 mm) [.tmp 4] 0 false (sq (E0 mm) 74 0 k0s (blockD 0 (r)))
def h0j(x:(Bool×List (Bs×Bs)×Bs×Bool×List Bs×Int)):X:=(none,[vd (.lst x.1 (enL enSS x.2.1)),vd (dS x.2.2.1),.v (.c (.own x.2.2.2.1 (enL enS x.2.2.2.2.1) 0)),vd (dI x.2.2.2.2.2)],[.row x.2.2.2.2.1.length (rz x.2.2.2.1 1)])
def k74:=Q (rx I0r) (Q (rx I0o) (Q (rx I0p) (Q @v0g (Q @e95.eq_1 (Q (rx I0q) (Q @q0L.eq_1 (Q (rx P0d) (Q (rx P0e) (Q (rx P0f) (Q (fun mm=>lx (E0 mm) 74 K0r k0t q0T) (Q (nE m0m (.seq P0d (.seq P0e (.seq (.seq P0f (.block 0 K0r)) k0s)))) (Q (nE k0t (.seq (.seq I0o (.cond _ .skip (.exit 0))) (.seq (.block 1 (.seq I0p (.cond _ I0q .skip))) u0C))) (Q @h0j.eq_1 (Q @q0T.eq_1 hA))))))))))))))
theorem A0l(l0_0:Bool)(l0_1:List (Bs×Bs))(name1:Bs)(out5_0:Bool)(out5_1:List Bs)(i6:Int)(sl:Sl)(_:sl 0=vd (.lst l0_0 (enL enSS l0_1)))(_:sl 1=vd (dS name1))(_:sl 5=.v (.c (.own out5_0 (enL enS out5_1) 0)))(_:sl 6=vd (dI i6)):
  stepE (q0L mm) (loopK 0 q0T (dn (E0 mm) 74 0 u0C sl [.row out5_1.length (rz out5_0 1)]))=(l0a l0_0 l0_1 name1 out5_0 out5_1 i6).map (sm h0j e74):=by
 unfold l0a;exact go (Q (rx u0C) k74) trivial
def p0e(out5_0:Bool)(out5_1:List Bs):Option R74:=
 some (out5_0,out5_1)
theorem A0m(out5_0:Bool)(out5_1:List Bs)(sl:Sl)(_:sl 5=.v (.c (.own out5_0 (enL enS out5_1) 0))):
  bodyD (E0 mm) [.tmp 4] 0 false (dn (E0 mm) 74 0 k0s sl [.row out5_1.length (rz out5_0 1)])=(p0e out5_0 out5_1).map e74:=by
 unfold p0e;exact go (Q (nE k0s (.seq I0r .ret)) k74) trivial
def q0G(l0_0:Bool)(l0_1:List (Bs×Bs))(name1:Bs)(out5_0:Bool)(out5_1:List Bs)(i6:Int):Option ((Bool×List (Bs×Bs)×Bs×Bool×List Bs×Int) ⊕ R74):=
 if (decide (i6<(l0_1.length:Int)))=true then
  if 0≤i6∧i6<(l0_1.length:Int) then
   (m95 ((l0_1.getD i6.toNat default).1) name1).bind fun yr5=>
    if yr5=true then
     if (out5_1.length+1)*16≤140737488355328 then
      l0a l0_0 l0_1 name1 false (out5_1++([(l0_1.getD i6.toNat default).2]:List Bs)) i6
     else none
    else
     l0a l0_0 l0_1 name1 out5_0 out5_1 i6
  else none
 else
  (p0e out5_0 out5_1).map .inr
theorem M0c(l0_0:Bool)(l0_1:List (Bs×Bs))(name1:Bs)(out5_0:Bool)(out5_1:List Bs)(i6:Int):
  stepE (q0L mm) (lp (E0 mm) 74 0 k0t q0T (h0j (l0_0,l0_1,name1,out5_0,out5_1,i6)))=(q0G l0_0 l0_1 name1 out5_0 out5_1 i6).map (sm h0j e74):=by
 unfold q0G;exact go k74 (Q @A0l @A0m)
def R0R(l0_0:Bool)(l0_1:List (Bs×Bs))(name1:Bs)(out5_0:Bool)(out5_1:List Bs)(i6:Int):Option R74:=iter (fun x:(Bool×List (Bs×Bs)×Bs×Bool×List Bs×Int)=>q0G x.1 x.2.1 x.2.2.1 x.2.2.2.1 x.2.2.2.2.1 x.2.2.2.2.2) (l0_0,l0_1,name1,out5_0,out5_1,i6)
theorem L0f(l0_0:Bool)(l0_1:List (Bs×Bs))(name1:Bs)(out5_0:Bool)(out5_1:List Bs)(i6:Int):(q0L mm) (itW (lp (E0 mm) 74 0 k0t q0T) (h0j (l0_0,l0_1,name1,out5_0,out5_1,i6)))=(R0R l0_0 l0_1 name1 out5_0 out5_1 i6).map e74:=
 it_sim (K:=(q0L mm)) rfl (enc:=h0j) (fun x=>M0c x.1 x.2.1 x.2.2.1 x.2.2.2.1 x.2.2.2.2.1 x.2.2.2.2.2) (l0_0,l0_1,name1,out5_0,out5_1,i6)
def m74(l_0:Bool)(l_1:List (Bs×Bs))(name:Bs):Option R74:=
 R0R l_0 l_1 name true ([]:List Bs) (0:Int)
theorem v0f(l_0:Bool)(l_1:List (Bs×Bs))(name:Bs):
  callW (E0 mm) 74 [cd (.lst l_0 (enL enSS l_1)),cd (dS name)] []=(m74 l_0 l_1 name).map e74:=by
 rw[cR m0m [.tmp 4] Tryz.func74]
 unfold m74;exact go k74 @L0f
noncomputable def e0W:Code:=bodyOf Tryz.f31
def N0n:=cA e0W
def N0o:=cA (cB e0W)
def N0p:=cA (cA (cB (cB e0W)))
def N0q:=cA (cA (cB (cA (cB (cB e0W)))))
def F0z:=cA (cB (cB (cB e0W)))
def F0A:=cA (cB (cB (cB (cB e0W))))
def F0B:=cA (cA (cB (cB (cB (cB (cB e0W))))))
def o0f:=cB (cA (cB (cB (cB (cB (cB e0W))))))
def F0C:=cA o0f
def e0X:=cB (cB (cB (cB (cB (cB e0W)))))
def F0D:=cA (cA e0X)
def o0g:=cB (cA e0X)
def F0E:=cA (cA o0g)
def g0W:=cB e0X
def F0F:=cA (cA g0W)
def u0k:=cA (cB (cA g0W))
def c0j:=cA u0k
def F0G:=cA (cA c0j)
def F0H:=cA (cA (cA (cB c0j)))
def F0I:=cA (cB (cA (cA (cB c0j))))
def o0h:=cB (cB (cA (cA (cB c0j))))
def F0J:=cA (cA o0h)
def u0l:=cB (cB c0j)
def j0U:=cB g0W
def F0K:=cA j0U
def q0P:List (Nat×Co):=[(5,.keep),(7,.keep)]
abbrev b31(mm:Int):=bodyD (E0 mm) [.tmp 2,.tmp 3] 0 false
abbrev R31:=(Bs×Bool)
def e31(x:R31):AV×Heap:=(.tup [cd (dS x.1),cd (dB x.2)],[])
def f0P(s5:Bs)(i7:Int)(t75:Bool):Option ((Bs×Int) ⊕ R31):=
 if t75=true then
  some (.inr (([]:Bs),false))
 else
  some (.inl (s5,(w64 (i7+1))))
def j0r(mm:Int)(r:Option (Ex×St)):Option (AV×Heap):=b31 mm (sq (E0 mm) 31 0 j0U (blockD 0 (r)))
def d0n(x:(Bs×Int)):X:=(none,[vd (dS x.1),vd (dI x.2)],[])
def k31:=Q (rx F0J) (Q @j0r.eq_1 (Q (rx u0l) (Q (rx F0K) (Q (rx F0G) (Q (rx F0H) (Q (rx F0I) (Q (rx F0E) (Q (rx F0F) (Q (fun mm=>lx (E0 mm) 31 u0k c0j q0P) (Q (rx F0D) (Q (rx F0C) (Q (rx N0n) (Q (rx N0o) (Q (fun (mm:Int) (l_0:Bool) (l_1:List (Bs×Bs))=>(show callW (E0 mm) 74 [cd (.lst l_0 (enL enSS l_1)),cd (dS ([101,116,97,103]:Bs))] []=_ from v0f l_0 l_1 ([101,116,97,103]:Bs))) (Q @v0f (Q @e74.eq_1 (Q (rx N0p) (Q (rx F0z) (Q (rx F0A) (Q (rx F0B) (Q (rx N0q) (Q (nE e0W (.seq N0n (.seq N0o (.seq (.seq N0p (.cond _ (.seq N0q .ret) .skip)) (.seq F0z (.seq F0A (.seq (.seq F0B o0f) e0X))))))) (Q (nE g0W (.seq (.seq F0F (.block 0 u0k)) j0U)) (Q (nE c0j (.seq (.seq F0G (.cond _ .skip (.exit 0))) (.seq (.block 1 (.seq F0H (.seq F0I o0h))) u0l))) (Q @d0n.eq_1 (Q @q0P.eq_1 hA))))))))))))))))))))))))))
theorem z0C(s5:Bs)(i7:Int)(t75:Bool)(sl:Sl)(_:sl 5=vd (dS s5))(_:sl 7=vd (dI i7))(_:sl 75=vd (dB t75)):
  stepE (j0r mm) (loopK 0 q0P (sq (E0 mm) 31 0 u0l (blockD 1 (dn (E0 mm) 31 0 o0h sl []))))=(f0P s5 i7 t75).map (sm d0n e31):=by
 unfold f0P;exact go (Q (nE o0h (.cond _ (.seq F0J .ret) .skip)) k31) trivial
def o0M(s5:Bs):Option R31:=
 some (s5,true)
theorem z0D(s5:Bs)(sl:Sl)(_:sl 5=vd (dS s5)):
  b31 mm (dn (E0 mm) 31 0 j0U sl [])=(o0M s5).map e31:=by
 unfold o0M;exact go (Q (nE j0U (.seq F0K .ret)) k31) trivial
def g0i(s5:Bs)(i7:Int):Option ((Bs×Int) ⊕ R31):=
 if (decide (i7<(w64 ((s5.length:Int) - 1))))=true then
  if 0≤i7∧i7<(s5.length:Int) then
   if ((s5.getD i7.toNat 0)==(33:UInt8))=true then
    f0P s5 i7 false
   else
    if (decide ((35:UInt8)≤(s5.getD i7.toNat 0)))=true then
     if (decide ((s5.getD i7.toNat 0)≤(126:UInt8)))=true then
      f0P s5 i7 false
     else
      f0P s5 i7 (decide ((s5.getD i7.toNat 0)<(128:UInt8)))
    else
     f0P s5 i7 (decide ((s5.getD i7.toNat 0)<(128:UInt8)))
  else none
 else
  (o0M s5).map .inr
theorem B0E(s5:Bs)(i7:Int):
  stepE (j0r mm) (lp (E0 mm) 31 0 c0j q0P (d0n (s5,i7)))=(g0i s5 i7).map (sm d0n e31):=by
 unfold g0i;exact go k31 (Q @z0C @z0D)
def p0o(s5:Bs)(i7:Int):Option R31:=iter (fun x:(Bs×Int)=>g0i x.1 x.2) (s5,i7)
theorem A0S(s5:Bs)(i7:Int):(j0r mm) (itW (lp (E0 mm) 31 0 c0j q0P) (d0n (s5,i7)))=(p0o s5 i7).map e31:=
 it_sim (K:=(j0r mm)) rfl (enc:=d0n) (fun x=>B0E x.1 x.2) (s5,i7)
def h0u(s5:Bs)(at6:Int)(t48:Bool):Option R31:=
 if t48=true then
  some (([]:Bs),false)
 else
  p0o s5 (w64 (at6+1))
theorem z0B(s5:Bs)(at6:Int)(t48:Bool)(g0:Ob)(sl:Sl)(_:sl 5=vd (dS s5))(_:sl 6=vd (dI at6))(_:sl 48=vd (dB t48)):
  b31 mm (sq (E0 mm) 31 0 g0W (dn (E0 mm) 31 0 o0g sl [g0]))=(h0u s5 at6 t48).map e31:=by
 unfold h0u;exact go (Q (nE o0g (.cond _ (.seq F0E .ret) .skip)) k31) @A0S
def h0t(s5:Bs)(at6:Int):Option R31:=
 if (decide ((s5.length:Int)<(w64 (at6+2))))=true then
  h0u s5 at6 true
 else
  if 0≤at6∧at6<(s5.length:Int) then
   if ((s5.getD at6.toNat 0)==(34:UInt8))=true then
    if 0≤(w64 ((s5.length:Int) - 1))∧(w64 ((s5.length:Int) - 1))<(s5.length:Int) then
     h0u s5 at6 (!((s5.getD (w64 ((s5.length:Int) - 1)).toNat 0)==(34:UInt8)))
    else none
   else
    h0u s5 at6 true
  else none
theorem z0A(s5:Bs)(at6:Int)(g0:Ob)(sl:Sl)(_:sl 5=vd (dS s5))(_:sl 6=vd (dI at6)):
  b31 mm (dn (E0 mm) 31 0 e0X sl [g0])=(h0t s5 at6).map e31:=by
 unfold h0t;exact go (Q (nE e0X (.seq (.seq F0D o0g) g0W)) k31) @z0B
def f0N(s5:Bs)(at6:Int)(t29:Bool):Option R31:=
 if t29=true then
  h0t s5 (2:Int)
 else
  h0t s5 at6
theorem z0z(s5:Bs)(at6:Int)(t29:Bool)(g0:Ob)(sl:Sl)(_:sl 5=vd (dS s5))(_:sl 6=vd (dI at6))(_:sl 29=vd (dB t29)):
  b31 mm (sq (E0 mm) 31 0 e0X (dn (E0 mm) 31 0 o0f sl [g0]))=(f0N s5 at6 t29).map e31:=by
 unfold f0N;exact go (Q (nE o0f (.cond _ F0C .skip)) k31) @z0A
def m31(l_0:Bool)(l_1:List (Bs×Bs)):Option R31:=
 (m74 l_0 l_1 ([101,116,97,103]:Bs)).bind fun yr2=>
  if ((yr2.2.length:Int)==1)=true then
   if (0:Int)<(yr2.2.length:Int) then
    if (decide (2≤((yr2.2.getD 0 default).length:Int)))=true then
     if (0:Int)<((yr2.2.getD 0 default).length:Int) then
      if (((yr2.2.getD 0 default).getD 0 0)==(87:UInt8))=true then
       if (1:Int)<((yr2.2.getD 0 default).length:Int) then
        f0N (yr2.2.getD 0 default) (0:Int) (((yr2.2.getD 0 default).getD 1 0)==(47:UInt8))
       else none
      else
       f0N (yr2.2.getD 0 default) (0:Int) false
     else none
    else
     f0N (yr2.2.getD 0 default) (0:Int) false
   else none
  else
   some (([]:Bs),false)
theorem R0d(l_0:Bool)(l_1:List (Bs×Bs)):
  callW (E0 mm) 31 [cd (.lst l_0 (enL enSS l_1))] []=(m31 l_0 l_1).map e31:=by
 rw[cR e0W [.tmp 2,.tmp 3] Tryz.func31]
 unfold m31;exact go k31 @z0z
noncomputable def p0U:Code:=bodyOf Tryz.f77
def P0g:=cA p0U
def P0h:=cA (cA (cB p0U))
def P0i:=cA (cA (cB (cA (cB p0U))))
def I0s:=cA (cB (cB p0U))
abbrev R77:=(Unit) ⊕ (Unit) ⊕ (Nat×List (Bs×Bs))
def e77(x:R77):AV×Heap:=match x with
 | .inl x=>(vd (.lst true []),[])
 | .inr (.inl x)=>(.v (.c (.slc 0 0 2 0 (some 0))),[.cells []])
 | .inr (.inr x)=>(.v (.c (.slc 0 0 2 x.1 none)),[.cells (enZ enSS x.2)])
def m77(s_0:Bool)(s_1:List (Bs×Bs)):Option R77:=
 if s_0=true then
  some (.inl ())
 else
  if s_1.isEmpty=true then
   some (.inr (.inl ()))
  else
   if s_1.length*32≤140737488355328 then
    some (.inr (.inr (s_1.length,s_1)))
   else none
def k77:=Q (rx P0g) (Q (rx P0h) (Q (fun {α:Type} => @nilq_e _ _ _ Tryz.underlying22 α) (Q (rx P0i) (Q (rx I0s) (Q @hd24 (Q @nv25 (Q @newSlice_z (Q @rw26 (Q @az22 (Q @enZ_isD (Q (enZ_listY (f:=enSS) (n:=2) (fun _=>rfl) (by decide)) (Q (nE p0U (.seq P0g (.seq (.seq P0h (.cond _ (.seq P0i .ret) .skip)) (.seq I0s .ret)))) hA))))))))))))
theorem U0e(s_0:Bool)(s_1:List (Bs×Bs)):
  callW (E0 mm) 77 [cd (.lst s_0 (enL enSS s_1))] []=(m77 s_0 s_1).map e77:=by
 rw[cR p0U [.tmp 2] Tryz.func77]
 unfold m77;exact go k77 trivial
noncomputable def b0p:Code:=bodyOf Tryz.f122
def g0K:=cA b0p
def g0L:=cA (cA (cB b0p))
def e0C:=cA (cB (cA (cB b0p)))
def a0r:=cA e0C
def g0M:=cA a0r
def c0V:=cA (cA (cA (cB (cB a0r))))
def c0W:=cA (cB (cA (cA (cB (cB a0r)))))
def i0i:=cA (cA (cB (cB (cA (cA (cB (cB a0r)))))))
def i0j:=cB (cB (cB a0r))
def a0p:=cB (cB b0p)
def c0X:=cA a0p
def n0m:List (Nat×Co):=[(0,.keep),(1,.keep),(7,.keep),(8,.keep)]
abbrev M0t:=(Int×Bool×List Bs)
def Q0j(x:M0t):AV×Heap:=(vd (dI x.1),[.cells [.d (.lst x.2.1 (enL enS x.2.2))]])
def m0r(h0_0_0:Bool)(h0_0_1:List Bs):Option M0t:=
 some ((-1:Int),h0_0_0,h0_0_1)
def m0Z(mm:Int)(r:Option (Ex×St)):Option (AV×Heap):=bodyD (E0 mm) [.tmp 4] 1 false (sq (E0 mm) 122 1 a0p (blockD 0 (r)))
def f0k(x:(Int×Int×Bool×List Bs)):X:=(none,[vd (.lst true []),.v (.c (.fn 78 [(0,0)])),vd (dI x.1),vd (dI x.2.1)],[.cells [.d (.lst x.2.2.1 (enL enS x.2.2.2))]])
def U0x:=Q (rx c0X) (Q (rx g0M) (Q (rx c0V) (Q (rx c0W) (Q @m0Z.eq_1 (Q (rx g0K) (Q (rx g0L) (Q (fun mm=>lx (E0 mm) 122 e0C a0r n0m) (Q (nE b0p (.seq g0K (.seq (.seq g0L (.block 0 e0C)) a0p))) (Q (nE a0r (.seq g0M (.seq (.cond _ .skip (.exit 0)) (.seq (.block 1 (.seq c0V (.seq c0W (.cond _ (.seq i0i .ret) .skip)))) i0j)))) (Q @f0k.eq_1 (Q @n0m.eq_1 hA)))))))))))
theorem v0s(h0_0_0:Bool)(h0_0_1:List Bs)(sl:Sl):
  bodyD (E0 mm) [.tmp 4] 1 false (dn (E0 mm) 122 1 a0p sl [.cells [.d (.lst h0_0_0 (enL enS h0_0_1))]])=(m0r h0_0_0 h0_0_1).map Q0j:=by
 unfold m0r;exact go (Q (nE a0p (.seq c0X .ret)) U0x) trivial
def x0A(t7 t8:Int)(h0_0_0:Bool)(h0_0_1:List Bs):Option ((Int×Int×Bool×List Bs) ⊕ M0t):=
 if (decide (t8<t7))=true then
  none
 else
  (m0r h0_0_0 h0_0_1).map .inr
theorem B0t(t7 t8:Int)(h0_0_0:Bool)(h0_0_1:List Bs):
  stepE (m0Z mm) (lp (E0 mm) 122 1 a0r n0m (f0k (t7,t8,h0_0_0,h0_0_1)))=(x0A t7 t8 h0_0_0 h0_0_1).map (sm f0k Q0j):=by
 unfold x0A;exact go U0x @v0s
def J0v(t7 t8:Int)(h0_0_0:Bool)(h0_0_1:List Bs):Option M0t:=iter (fun x:(Int×Int×Bool×List Bs)=>x0A x.1 x.2.1 x.2.2.1 x.2.2.2) (t7,t8,h0_0_0,h0_0_1)
theorem A0G(t7 t8:Int)(h0_0_0:Bool)(h0_0_1:List Bs):(m0Z mm) (itW (lp (E0 mm) 122 1 a0r n0m) (f0k (t7,t8,h0_0_0,h0_0_1)))=(J0v t7 t8 h0_0_0 h0_0_1).map Q0j:=
 it_sim (K:=(m0Z mm)) rfl (enc:=f0k) (fun x=>B0t x.1 x.2.1 x.2.2.1 x.2.2.2) (t7,t8,h0_0_0,h0_0_1)
def T0f(h0_0_0:Bool)(h0_0_1:List Bs):Option M0t:=
 J0v (0:Int) (0:Int) h0_0_0 h0_0_1
theorem Q0A(h0_0_0:Bool)(h0_0_1:List Bs):
  callW (E0 mm) 122 [cd (.lst true []),.c (.fn 78 [(0,0)])] [.cells [.d (.lst h0_0_0 (enL enS h0_0_1))]]=(T0f h0_0_0 h0_0_1).map Q0j:=by
 rw[cR b0p [.tmp 4] Tryz.func122]
 unfold T0f;exact go U0x @A0G
noncomputable def d0k:Code:=bodyOf Tryz.f76
def p0Q:=cA d0k
def p0R:=cA (cB d0k)
def p0S:=cA (cA (cB (cB d0k)))
def p0T:=cA (cA (cB (cA (cB (cB d0k)))))
def h0c:=cA (cA (cB (cB (cB d0k))))
def f0f:=cA (cB (cA (cB (cB (cB d0k)))))
def a0o:=cA f0f
def h0d:=cA (cA a0o)
def h0e:=cA (cA (cA (cB a0o)))
def o0x:=cA (cB (cA (cA (cB a0o))))
def o0y:=cA (cA (cB (cB (cA (cA (cB a0o))))))
def o0z:=cB (cA (cB (cB (cA (cA (cB a0o))))))
def k0u:=cB (cB a0o)
def a0u:=cB (cB (cB (cB d0k)))
def h0f:=cA a0u
def k0v:=cA (cB a0u)
def y0p:List (Nat×Co):=[(0,.keep),(1,.keep),(5,.keep),(6,.keep)]
abbrev R76:=(Bool×List Bs)
def e76(x:R76):AV×Heap:=(vd (.lst true []),[.cells [.d (.lst x.1 (enL enS x.2))]])
def w0j(i5:Int)(h0_0_0:Bool)(h0_0_1:List Bs):Option R76:=
 if i5=0 then
  none
 else none
def n0h(mm:Int)(r:Option (Ex×St)):Option (AV×Heap):=bodyD (E0 mm) [.tmp 4] 1 true (sq (E0 mm) 76 1 a0u (blockD 0 (r)))
def f0w(x:(Int×Int×Bool×List Bs)):X:=(none,[vd (.lst true []),.v (.c (.fn 78 [(0,0)])),vd (dI x.1),vd (dI x.2.1)],[.cells [.d (.lst x.2.2.1 (enL enS x.2.2.2))]])
def k76:=Q (rx h0f) (Q @bnd_n0 (Q (rx h0d) (Q (rx h0e) (Q @n0h.eq_1 (Q (rx p0Q) (Q (rx p0R) (Q @Q0A (Q @Q0j.eq_1 (Q (rx p0S) (Q (rx p0T) (Q (rx h0c) (Q (fun mm=>lx (E0 mm) 76 f0f a0o y0p) (Q (nE d0k (.seq p0Q (.seq p0R (.seq (.seq p0S (.cond _ (.seq p0T .ret) .skip)) (.seq (.seq h0c (.block 0 f0f)) a0u))))) (Q (nE a0o (.seq (.seq h0d (.cond _ .skip (.exit 0))) (.seq (.block 1 (.seq h0e (.seq o0x (.cond _ (.seq o0y o0z) .skip)))) k0u))) (Q @f0w.eq_1 (Q @y0p.eq_1 hA))))))))))))))))
theorem A0n(i5:Int)(h0_0_0:Bool)(h0_0_1:List Bs)(sl:Sl)(_:sl 0=vd (.lst true []))(_:sl 5=vd (dI i5)):
  bodyD (E0 mm) [.tmp 4] 1 true (dn (E0 mm) 76 1 a0u sl [.cells [.d (.lst h0_0_0 (enL enS h0_0_1))]])=(w0j i5 h0_0_0 h0_0_1).map e76:=by
 unfold w0j;exact go (Q (nE a0u (.seq h0f (.seq k0v .ret))) k76) trivial
def x0R(i5 j6:Int)(h0_0_0:Bool)(h0_0_1:List Bs):Option ((Int×Int×Bool×List Bs) ⊕ R76):=
 if (decide (j6<0))=true then
  none
 else
  (w0j i5 h0_0_0 h0_0_1).map .inr
theorem B0P(i5 j6:Int)(h0_0_0:Bool)(h0_0_1:List Bs):
  stepE (n0h mm) (lp (E0 mm) 76 1 a0o y0p (f0w (i5,j6,h0_0_0,h0_0_1)))=(x0R i5 j6 h0_0_0 h0_0_1).map (sm f0w e76):=by
 unfold x0R;exact go k76 @A0n
def J0G(i5 j6:Int)(h0_0_0:Bool)(h0_0_1:List Bs):Option R76:=iter (fun x:(Int×Int×Bool×List Bs)=>x0R x.1 x.2.1 x.2.2.1 x.2.2.2) (i5,j6,h0_0_0,h0_0_1)
theorem B0d(i5 j6:Int)(h0_0_0:Bool)(h0_0_1:List Bs):(n0h mm) (itW (lp (E0 mm) 76 1 a0o y0p) (f0w (i5,j6,h0_0_0,h0_0_1)))=(J0G i5 j6 h0_0_0 h0_0_1).map e76:=
 it_sim (K:=(n0h mm)) rfl (enc:=f0w) (fun x=>B0P x.1 x.2.1 x.2.2.1 x.2.2.2) (i5,j6,h0_0_0,h0_0_1)
def m76(h0_0_0:Bool)(h0_0_1:List Bs):Option R76:=
 (T0f h0_0_0 h0_0_1).bind fun yr2=>
  if (yr2.1==(-1))=true then
   some (yr2.2.1,yr2.2.2)
  else
   J0G yr2.1 (w64 (yr2.1+1)) yr2.2.1 yr2.2.2
theorem U0d(h0_0_0:Bool)(h0_0_1:List Bs):
  callW (E0 mm) 76 [cd (.lst true []),.c (.fn 78 [(0,0)])] [.cells [.d (.lst h0_0_0 (enL enS h0_0_1))]]=(m76 h0_0_0 h0_0_1).map e76:=by
 rw[cR d0k [.tmp 4] Tryz.func76]
 unfold m76;exact go k76 @B0d
abbrev q0Y:=(Int×Bool×List Bs)
def h0V:List (Nat×Co):=[(0,.keep),(1,.keep),(7,.keep),(8,.keep)]
def u0R(x:q0Y):AV×Heap:=(vd (dI x.1),[.cells [],.cells [.d (.lst x.2.1 (enL enS x.2.2))]])
def i0E(h1_0_0:Bool)(h1_0_1:List Bs):Option q0Y:=
 some ((-1:Int),h1_0_0,h1_0_1)
def h0M(mm:Int)(r:Option (Ex×St)):Option (AV×Heap):=bodyD (E0 mm) [.tmp 4] 2 false (sq (E0 mm) 122 2 a0p (blockD 0 (r)))
def c0u(x:(Int×Int×Bool×List Bs)):X:=(none,[.v (.c (.slc 0 0 2 0 (some 0))),.v (.c (.fn 78 [(1,0)])),vd (dI x.1),vd (dI x.2.1)],[.cells [],.cells [.d (.lst x.2.2.1 (enL enS x.2.2.2))]])
def K0I:=Q (rx c0X) (Q (rx g0M) (Q (rx c0V) (Q (rx c0W) (Q @h0M.eq_1 (Q (rx g0K) (Q (rx g0L) (Q (fun mm=>lx (E0 mm) 122 e0C a0r h0V) (Q (nE b0p (.seq g0K (.seq (.seq g0L (.block 0 e0C)) a0p))) (Q (nE a0r (.seq g0M (.seq (.cond _ .skip (.exit 0)) (.seq (.block 1 (.seq c0V (.seq c0W (.cond _ (.seq i0i .ret) .skip)))) i0j)))) (Q @c0u.eq_1 (Q @h0V.eq_1 hA)))))))))))
theorem q0b(h1_0_0:Bool)(h1_0_1:List Bs)(sl:Sl):
  bodyD (E0 mm) [.tmp 4] 2 false (dn (E0 mm) 122 2 a0p sl [.cells [],.cells [.d (.lst h1_0_0 (enL enS h1_0_1))]])=(i0E h1_0_0 h1_0_1).map u0R:=by
 unfold i0E;exact go (Q (nE a0p (.seq c0X .ret)) K0I) trivial
def m0S(t7 t8:Int)(h1_0_0:Bool)(h1_0_1:List Bs):Option ((Int×Int×Bool×List Bs) ⊕ q0Y):=
 if (decide (t8<t7))=true then
  none
 else
  (i0E h1_0_0 h1_0_1).map .inr
theorem x0B(t7 t8:Int)(h1_0_0:Bool)(h1_0_1:List Bs):
  stepE (h0M mm) (lp (E0 mm) 122 2 a0r h0V (c0u (t7,t8,h1_0_0,h1_0_1)))=(m0S t7 t8 h1_0_0 h1_0_1).map (sm c0u u0R):=by
 unfold m0S;exact go K0I @q0b
def w0u(t7 t8:Int)(h1_0_0:Bool)(h1_0_1:List Bs):Option q0Y:=iter (fun x:(Int×Int×Bool×List Bs)=>m0S x.1 x.2.1 x.2.2.1 x.2.2.2) (t7,t8,h1_0_0,h1_0_1)
theorem w0v(t7 t8:Int)(h1_0_0:Bool)(h1_0_1:List Bs):(h0M mm) (itW (lp (E0 mm) 122 2 a0r h0V) (c0u (t7,t8,h1_0_0,h1_0_1)))=(w0u t7 t8 h1_0_0 h1_0_1).map u0R:=
 it_sim (K:=(h0M mm)) rfl (enc:=c0u) (fun x=>x0B x.1 x.2.1 x.2.2.1 x.2.2.2) (t7,t8,h1_0_0,h1_0_1)
def B0l(h1_0_0:Bool)(h1_0_1:List Bs):Option q0Y:=
 w0u (0:Int) (0:Int) h1_0_0 h1_0_1
theorem K0x(h1_0_0:Bool)(h1_0_1:List Bs):
  callW (E0 mm) 122 [.c (.slc 0 0 2 0 (some 0)),.c (.fn 78 [(1,0)])] [.cells [],.cells [.d (.lst h1_0_0 (enL enS h1_0_1))]]=(B0l h1_0_0 h1_0_1).map u0R:=by
 rw[cR b0p [.tmp 4] Tryz.func122]
 unfold B0l;exact go K0I @w0v
abbrev M0y:=(Bool×List Bs)
def n0t:List (Nat×Co):=[(0,.keep),(1,.keep),(5,.keep),(6,.keep)]
def Q0o(x:M0y):AV×Heap:=(.v (.c (.slc 0 0 2 0 (some 0))),[.cells [],.cells [.d (.lst x.1 (enL enS x.2))]])
def m0H(i5:Int)(h1_0_0:Bool)(h1_0_1:List Bs):Option M0y:=
 if i5=0 then
  some (h1_0_0,h1_0_1)
 else none
def h0U(mm:Int)(r:Option (Ex×St)):Option (AV×Heap):=bodyD (E0 mm) [.tmp 4] 2 true (sq (E0 mm) 76 2 a0u (blockD 0 (r)))
def c0C(x:(Int×Int×Bool×List Bs)):X:=(none,[.v (.c (.slc 0 0 2 0 (some 0))),.v (.c (.fn 78 [(1,0)])),vd (dI x.1),vd (dI x.2.1)],[.cells [],.cells [.d (.lst x.2.2.1 (enL enS x.2.2.2))]])
def U0D:=Q (rx h0f) (Q @bnd_n0 (Q @ce22 (Q (rx k0v) (Q (rx h0d) (Q (rx h0e) (Q @h0U.eq_1 (Q (rx p0Q) (Q (rx p0R) (Q @K0x (Q @u0R.eq_1 (Q (rx p0S) (Q (rx p0T) (Q (rx h0c) (Q (fun mm=>lx (E0 mm) 76 f0f a0o n0t) (Q (nE d0k (.seq p0Q (.seq p0R (.seq (.seq p0S (.cond _ (.seq p0T .ret) .skip)) (.seq (.seq h0c (.block 0 f0f)) a0u))))) (Q (nE a0o (.seq (.seq h0d (.cond _ .skip (.exit 0))) (.seq (.block 1 (.seq h0e (.seq o0x (.cond _ (.seq o0y o0z) .skip)))) k0u))) (Q @c0C.eq_1 (Q @n0t.eq_1 hA))))))))))))))))))
theorem w0k(i5:Int)(h1_0_0:Bool)(h1_0_1:List Bs)(sl:Sl)(_:sl 0=.v (.c (.slc 0 0 2 0 (some 0))))(_:sl 5=vd (dI i5)):
  bodyD (E0 mm) [.tmp 4] 2 true (dn (E0 mm) 76 2 a0u sl [.cells [],.cells [.d (.lst h1_0_0 (enL enS h1_0_1))]])=(m0H i5 h1_0_0 h1_0_1).map Q0o:=by
 unfold m0H;exact go (Q (nE a0u (.seq h0f (.seq k0v .ret))) U0D) trivial
def m0W(i5 j6:Int)(h1_0_0:Bool)(h1_0_1:List Bs):Option ((Int×Int×Bool×List Bs) ⊕ M0y):=
 if (decide (j6<0))=true then
  none
 else
  (m0H i5 h1_0_0 h1_0_1).map .inr
theorem x0S(i5 j6:Int)(h1_0_0:Bool)(h1_0_1:List Bs):
  stepE (h0U mm) (lp (E0 mm) 76 2 a0o n0t (c0C (i5,j6,h1_0_0,h1_0_1)))=(m0W i5 j6 h1_0_0 h1_0_1).map (sm c0C Q0o):=by
 unfold m0W;exact go U0D @w0k
def w0X(i5 j6:Int)(h1_0_0:Bool)(h1_0_1:List Bs):Option M0y:=iter (fun x:(Int×Int×Bool×List Bs)=>m0W x.1 x.2.1 x.2.2.1 x.2.2.2) (i5,j6,h1_0_0,h1_0_1)
theorem w0Y(i5 j6:Int)(h1_0_0:Bool)(h1_0_1:List Bs):(h0U mm) (itW (lp (E0 mm) 76 2 a0o n0t) (c0C (i5,j6,h1_0_0,h1_0_1)))=(w0X i5 j6 h1_0_0 h1_0_1).map Q0o:=
 it_sim (K:=(h0U mm)) rfl (enc:=c0C) (fun x=>x0S x.1 x.2.1 x.2.2.1 x.2.2.2) (i5,j6,h1_0_0,h1_0_1)
def T0p(h1_0_0:Bool)(h1_0_1:List Bs):Option M0y:=
 (B0l h1_0_0 h1_0_1).bind fun yr2=>
  if (yr2.1==(-1))=true then
   some (yr2.2.1,yr2.2.2)
  else
   w0X yr2.1 (w64 (yr2.1+1)) yr2.2.1 yr2.2.2
theorem R0o(h1_0_0:Bool)(h1_0_1:List Bs):
  callW (E0 mm) 76 [.c (.slc 0 0 2 0 (some 0)),.c (.fn 78 [(1,0)])] [.cells [],.cells [.d (.lst h1_0_0 (enL enS h1_0_1))]]=(T0p h1_0_0 h1_0_1).map Q0o:=by
 rw[cR d0k [.tmp 4] Tryz.func76]
 unfold T0p;exact go U0D @w0Y
noncomputable def y0L:Code:=bodyOf Tryz.f80
def P0l:=cA y0L
def P0m:=cA (cB y0L)
abbrev R80:=(Bool×Bs×Bs)
def e80(x:R80):AV×Heap:=(vd (dB x.1),[.cells [.d (dS x.2.1),.d (dS x.2.2)]])
def m80(name h0_0 h0_1:Bs):Option R80:=
 (m73 h0_0 name).bind fun yr2=>
  some (yr2,h0_0,h0_1)
def k80:=Q (rx P0l) (Q (rx P0m) (Q @z0d (Q @e73.eq_1 (Q (nE y0L (.seq P0l (.seq P0m .ret))) hA))))
theorem U0g(name h0_0 h0_1:Bs):
  callW (E0 mm) 80 [cd (dS name),.c (.ptr 0 0)] [.cells [.d (dS h0_0),.d (dS h0_1)]]=(m80 name h0_0 h0_1).map e80:=by
 rw[cR y0L [.tmp 3] Tryz.func80]
 unfold m80;exact go k80 trivial
noncomputable def a0G:Code:=bodyOf Tryz.f123
def d0E:=cA a0G
def d0F:=cA (cA (cB a0G))
def c0c:=cA (cB (cA (cB a0G)))
def a0f:=cA c0c
def d0G:=cA a0f
def a0N:=cA (cA (cA (cB (cB a0f))))
def a0O:=cA (cB (cA (cA (cB (cB a0f)))))
def a0P:=cA (cA (cB (cB (cA (cA (cB (cB a0f)))))))
def a0Q:=cB (cB (cB a0f))
def a0d:=cB (cB a0G)
def a0R:=cA a0d
def n0n:List (Nat×Co):=[(0,.keep),(1,.keep),(7,.keep),(8,.keep)]
abbrev M0u:=(Int×Bs×Bs)
def Q0k(x:M0u):AV×Heap:=(vd (dI x.1),[.cells [.d (dS x.2.1),.d (dS x.2.2)]])
def i0F(h0_0 h0_1:Bs):Option M0u:=
 some ((-1:Int),h0_0,h0_1)
def n0a(mm:Int)(r:Option (Ex×St)):Option (AV×Heap):=bodyD (E0 mm) [.tmp 4] 1 false (sq (E0 mm) 123 1 a0d (blockD 0 (r)))
def f0l(x:(Bool×List Bs×Int×Int×Bs×Bs)):X:=(none,[vd (.lst x.1 (enL enS x.2.1)),.v (.c (.fn 80 [(0,0)])),vd (dI x.2.2.1),vd (dI x.2.2.2.1)],[.cells [.d (dS x.2.2.2.2.1),.d (dS x.2.2.2.2.2)]])
def U0y:=Q (rx a0R) (Q (rx d0G) (Q (rx a0N) (Q (rx a0O) (Q @ent80 (Q @prm80 (Q @U0g (Q @e80.eq_1 (Q (rx a0P) (Q @n0a.eq_1 (Q (rx a0Q) (Q (rx d0E) (Q (rx d0F) (Q (fun mm=>lx (E0 mm) 123 c0c a0f n0n) (Q (nE a0G (.seq d0E (.seq (.seq d0F (.block 0 c0c)) a0d))) (Q (nE a0f (.seq d0G (.seq (.cond _ .skip (.exit 0)) (.seq (.block 1 (.seq a0N (.seq a0O (.cond _ (.seq a0P .ret) .skip)))) a0Q)))) (Q @f0l.eq_1 (Q @n0n.eq_1 hA)))))))))))))))))
theorem v0t(h0_0 h0_1:Bs)(sl:Sl):
  bodyD (E0 mm) [.tmp 4] 1 false (dn (E0 mm) 123 1 a0d sl [.cells [.d (dS h0_0),.d (dS h0_1)]])=(i0F h0_0 h0_1).map Q0k:=by
 unfold i0F;exact go (Q (nE a0d (.seq a0R .ret)) U0y) trivial
def l0m(s0_0:Bool)(s0_1:List Bs)(t7 t8:Int)(h0_0 h0_1:Bs):Option ((Bool×List Bs×Int×Int×Bs×Bs) ⊕ M0u):=
 if (decide (t8<t7))=true then
  if 0≤t8∧t8<(s0_1.length:Int) then
   (m80 (s0_1.getD t8.toNat default) h0_0 h0_1).bind fun yr5=>
    if yr5.1=true then
     some (.inr (t8,yr5.2.1,yr5.2.2))
    else
     some (.inl (s0_0,s0_1,t7,(w64 (t8+1)),yr5.2.1,yr5.2.2))
  else none
 else
  (i0F h0_0 h0_1).map .inr
theorem B0u(s0_0:Bool)(s0_1:List Bs)(t7 t8:Int)(h0_0 h0_1:Bs):
  stepE (n0a mm) (lp (E0 mm) 123 1 a0f n0n (f0l (s0_0,s0_1,t7,t8,h0_0,h0_1)))=(l0m s0_0 s0_1 t7 t8 h0_0 h0_1).map (sm f0l Q0k):=by
 unfold l0m;exact go U0y @v0t
def J0w(s0_0:Bool)(s0_1:List Bs)(t7 t8:Int)(h0_0 h0_1:Bs):Option M0u:=iter (fun x:(Bool×List Bs×Int×Int×Bs×Bs)=>l0m x.1 x.2.1 x.2.2.1 x.2.2.2.1 x.2.2.2.2.1 x.2.2.2.2.2) (s0_0,s0_1,t7,t8,h0_0,h0_1)
theorem A0H(s0_0:Bool)(s0_1:List Bs)(t7 t8:Int)(h0_0 h0_1:Bs):(n0a mm) (itW (lp (E0 mm) 123 1 a0f n0n) (f0l (s0_0,s0_1,t7,t8,h0_0,h0_1)))=(J0w s0_0 s0_1 t7 t8 h0_0 h0_1).map Q0k:=
 it_sim (K:=(n0a mm)) rfl (enc:=f0l) (fun x=>B0u x.1 x.2.1 x.2.2.1 x.2.2.2.1 x.2.2.2.2.1 x.2.2.2.2.2) (s0_0,s0_1,t7,t8,h0_0,h0_1)
def S0a(s_0:Bool)(s_1:List Bs)(h0_0 h0_1:Bs):Option M0u:=
 J0w s_0 s_1 (s_1.length:Int) (0:Int) h0_0 h0_1
theorem Q0B(s_0:Bool)(s_1:List Bs)(h0_0 h0_1:Bs):
  callW (E0 mm) 123 [cd (.lst s_0 (enL enS s_1)),.c (.fn 80 [(0,0)])] [.cells [.d (dS h0_0),.d (dS h0_1)]]=(S0a s_0 s_1 h0_0 h0_1).map Q0k:=by
 rw[cR a0G [.tmp 4] Tryz.func123]
 unfold S0a;exact go U0y @A0H
noncomputable def g0u:Code:=bodyOf Tryz.f79
def k0w:=cA g0u
def k0x:=cA (cB g0u)
abbrev R79:=(Bool×Bs×Bs)
def e79(x:R79):AV×Heap:=(vd (dB x.1),[.cells [.d (dS x.2.1),.d (dS x.2.2)]])
def m79(s_0:Bool)(s_1:List Bs)(h0_0 h0_1:Bs):Option R79:=
 (S0a s_0 s_1 h0_0 h0_1).bind fun yr2=>
  some ((decide (0≤yr2.1)),yr2.2.1,yr2.2.2)
def k79:=Q (rx k0w) (Q (rx k0x) (Q @Q0B (Q @Q0k.eq_1 (Q (nE g0u (.seq k0w (.seq k0x .ret))) hA))))
theorem U0f(s_0:Bool)(s_1:List Bs)(h0_0 h0_1:Bs):
  callW (E0 mm) 79 [cd (.lst s_0 (enL enS s_1)),.c (.fn 80 [(0,0)])] [.cells [.d (dS h0_0),.d (dS h0_1)]]=(m79 s_0 s_1 h0_0 h0_1).map e79:=by
 rw[cR g0u [.tmp 4] Tryz.func79]
 unfold m79;exact go k79 trivial
noncomputable def y0K:Code:=bodyOf Tryz.f78
def P0j:=cA y0K
def P0k:=cA (cB y0K)
abbrev R78:=(Bool×Bool×List Bs)
def e78(x:R78):AV×Heap:=(vd (dB x.1),[.cells [.d (.lst x.2.1 (enL enS x.2.2))]])
def m78(f_0 f_1:Bs)(h0_0_0:Bool)(h0_0_1:List Bs):Option R78:=
 (m79 h0_0_0 h0_0_1 f_0 f_1).bind fun yr2=>
  some (yr2.1,h0_0_0,h0_0_1)
def k78:=Q (rx P0j) (Q (rx P0k) (Q @U0f (Q @e79.eq_1 (Q (nE y0K (.seq P0j (.seq P0k .ret))) hA))))
theorem R0q(f_0 f_1:Bs)(h0_0_0:Bool)(h0_0_1:List Bs):
  callW (E0 mm) 78 [.agg [.d (dS f_0),.d (dS f_1)],.c (.ptr 0 0)] [.cells [.d (.lst h0_0_0 (enL enS h0_0_1))]]=(m78 f_0 f_1 h0_0_0 h0_0_1).map e78:=by
 rw[cR y0K [.tmp 3] Tryz.func78]
 unfold m78;exact go k78 trivial
abbrev q0Z:=(Int×List (Bs×Bs)×Bool×List Bs)
def h0W:List (Nat×Co):=[(0,.keep),(1,.keep),(7,.keep),(8,.keep)]
def u0S(x:q0Z):AV×Heap:=(vd (dI x.1),[.cells (enZ enSS x.2.1),.cells [.d (.lst x.2.2.1 (enL enS x.2.2.2))]])
def e0b(h0:List (Bs×Bs))(h1_0_0:Bool)(h1_0_1:List Bs):Option q0Z:=
 some ((-1:Int),h0,h1_0_0,h1_0_1)
def h0N(mm:Int)(r:Option (Ex×St)):Option (AV×Heap):=bodyD (E0 mm) [.tmp 4] 2 false (sq (E0 mm) 122 2 a0p (blockD 0 (r)))
def c0v(x:(Nat×Int×Int×List (Bs×Bs)×Bool×List Bs)):X:=(none,[.v (.c (.slc 0 0 2 x.1 none)),.v (.c (.fn 78 [(1,0)])),vd (dI x.2.1),vd (dI x.2.2.1)],[.cells (enZ enSS x.2.2.2.1),.cells [.d (.lst x.2.2.2.2.1 (enL enS x.2.2.2.2.2))]])
def K0J:=Q (rx c0X) (Q @enZ_isD (Q (enZ_listY (f:=enSS) (n:=2) (fun _=>rfl) (by decide)) (Q (rx g0M) (Q (rx c0V) (Q (rx c0W) (Q (enZ_length (f:=enSS) (n:=2) (fun _=>rfl)) (Q (enZ_le 2 (by decide)) (Q (enZ_load (f:=enSS) (n:=2) (fun _=>rfl)) (Q @R0q (Q @e78.eq_1 (Q (rx i0i) (Q @h0N.eq_1 (Q (rx i0j) (Q (rx g0K) (Q (rx g0L) (Q (fun mm=>lx (E0 mm) 122 e0C a0r h0W) (Q (nE b0p (.seq g0K (.seq (.seq g0L (.block 0 e0C)) a0p))) (Q (nE a0r (.seq g0M (.seq (.cond _ .skip (.exit 0)) (.seq (.block 1 (.seq c0V (.seq c0W (.cond _ (.seq i0i .ret) .skip)))) i0j)))) (Q @c0v.eq_1 (Q @h0W.eq_1 hA))))))))))))))))))))
theorem q0c(h0:List (Bs×Bs))(h1_0_0:Bool)(h1_0_1:List Bs)(sl:Sl):
  bodyD (E0 mm) [.tmp 4] 2 false (dn (E0 mm) 122 2 a0p sl [.cells (enZ enSS h0),.cells [.d (.lst h1_0_0 (enL enS h1_0_1))]])=(e0b h0 h1_0_0 h1_0_1).map u0S:=by
 unfold e0b;exact go (Q (nE a0p (.seq c0X .ret)) K0J) trivial
def g0a(s0_1:Nat)(t7 t8:Int)(h0:List (Bs×Bs))(h1_0_0:Bool)(h1_0_1:List Bs):Option ((Nat×Int×Int×List (Bs×Bs)×Bool×List Bs) ⊕ q0Z):=
 if (decide (t8<t7))=true then
  if 0≤t8∧t8<(s0_1:Int) then
   if t8.toNat<h0.length then
    (m78 ((h0.getD t8.toNat default).1) ((h0.getD t8.toNat default).2) h1_0_0 h1_0_1).bind fun yr6=>
     if yr6.1=true then
      some (.inr (t8,h0,yr6.2.1,yr6.2.2))
     else
      some (.inl (s0_1,t7,(w64 (t8+1)),h0,yr6.2.1,yr6.2.2))
   else none
  else none
 else
  (e0b h0 h1_0_0 h1_0_1).map .inr
theorem x0C(s0_1:Nat)(t7 t8:Int)(h0:List (Bs×Bs))(h1_0_0:Bool)(h1_0_1:List Bs):
  stepE (h0N mm) (lp (E0 mm) 122 2 a0r h0W (c0v (s0_1,t7,t8,h0,h1_0_0,h1_0_1)))=(g0a s0_1 t7 t8 h0 h1_0_0 h1_0_1).map (sm c0v u0S):=by
 unfold g0a;exact go K0J @q0c
def w0w(s0_1:Nat)(t7 t8:Int)(h0:List (Bs×Bs))(h1_0_0:Bool)(h1_0_1:List Bs):Option q0Z:=iter (fun x:(Nat×Int×Int×List (Bs×Bs)×Bool×List Bs)=>g0a x.1 x.2.1 x.2.2.1 x.2.2.2.1 x.2.2.2.2.1 x.2.2.2.2.2) (s0_1,t7,t8,h0,h1_0_0,h1_0_1)
theorem w0x(s0_1:Nat)(t7 t8:Int)(h0:List (Bs×Bs))(h1_0_0:Bool)(h1_0_1:List Bs):(h0N mm) (itW (lp (E0 mm) 122 2 a0r h0W) (c0v (s0_1,t7,t8,h0,h1_0_0,h1_0_1)))=(w0w s0_1 t7 t8 h0 h1_0_0 h1_0_1).map u0S:=
 it_sim (K:=(h0N mm)) rfl (enc:=c0v) (fun x=>x0C x.1 x.2.1 x.2.2.1 x.2.2.2.1 x.2.2.2.2.1 x.2.2.2.2.2) (s0_1,t7,t8,h0,h1_0_0,h1_0_1)
def x0e(s_1:Nat)(h0:List (Bs×Bs))(h1_0_0:Bool)(h1_0_1:List Bs):Option q0Z:=
 w0w s_1 (s_1:Int) (0:Int) h0 h1_0_0 h1_0_1
theorem K0y(s_1:Nat)(h0:List (Bs×Bs))(h1_0_0:Bool)(h1_0_1:List Bs):
  callW (E0 mm) 122 [.c (.slc 0 0 2 s_1 none),.c (.fn 78 [(1,0)])] [.cells (enZ enSS h0),.cells [.d (.lst h1_0_0 (enL enS h1_0_1))]]=(x0e s_1 h0 h1_0_0 h1_0_1).map u0S:=by
 rw[cR b0p [.tmp 4] Tryz.func122]
 unfold x0e;exact go K0J @w0x
abbrev M0h:=(Nat×List (Bs×Bs)×Bool×List Bs)
def j0E:List (Nat×Co):=[(0,.keep),(1,.keep),(5,.keep),(6,.keep)]
def M0k(x:M0h):AV×Heap:=(.v (.c (.slc 0 0 2 x.1 none)),[.cells (enZ enSS x.2.1),.cells [.d (.lst x.2.2.1 (enL enS x.2.2.2))]])
def i0Y(s0_1:Nat)(i5 j6:Int)(h0:List (Bs×Bs))(h1_0_0:Bool)(h1_0_1:List Bs):Option ((Nat×Int×Int×List (Bs×Bs)×Bool×List Bs) ⊕ M0h):=
 some (.inl (s0_1,i5,(w64 (j6+1)),h0,h1_0_0,h1_0_1))
def e0x(mm:Int)(r:Option (Ex×St)):Option (AV×Heap):=bodyD (E0 mm) [.tmp 4] 2 true (sq (E0 mm) 76 2 a0u (blockD 0 (r)))
def b0j(x:(Nat×Int×Int×List (Bs×Bs)×Bool×List Bs)):X:=(none,[.v (.c (.slc 0 0 2 x.1 none)),.v (.c (.fn 78 [(1,0)])),vd (dI x.2.1),vd (dI x.2.2.1)],[.cells (enZ enSS x.2.2.2.1),.cells [.d (.lst x.2.2.2.2.1 (enL enS x.2.2.2.2.2))]])
def S0Y:=Q @enZ_isD (Q (enZ_listY (f:=enSS) (n:=2) (fun _=>rfl) (by decide)) (Q (rx h0f) (Q (fun l hp=>cz22 (hp:=.cells _::hp) (k:=0) (l:=l) rfl) (Q (rx k0v) (Q (rx h0d) (Q (rx h0e) (Q (enZ_length (f:=enSS) (n:=2) (fun _=>rfl)) (Q (enZ_le 2 (by decide)) (Q (enZ_load (f:=enSS) (n:=2) (fun _=>rfl)) (Q @ao29 (Q (rx o0x) (Q @R0q (Q @e78.eq_1 (Q (rx o0y) (Q @wz30 (Q (rx o0z) (Q @e0x.eq_1 (Q (rx p0Q) (Q (rx p0R) (Q @K0y (Q @u0S.eq_1 (Q (rx p0S) (Q (rx p0T) (Q (rx h0c) (Q (fun mm=>lx (E0 mm) 76 f0f a0o j0E) (Q (nE d0k (.seq p0Q (.seq p0R (.seq (.seq p0S (.cond _ (.seq p0T .ret) .skip)) (.seq (.seq h0c (.block 0 f0f)) a0u))))) (Q (nE a0o (.seq (.seq h0d (.cond _ .skip (.exit 0))) (.seq (.block 1 (.seq h0e (.seq o0x (.cond _ (.seq o0y o0z) .skip)))) k0u))) (Q @b0j.eq_1 (Q @j0E.eq_1 hA)))))))))))))))))))))))))))))
theorem w0l(s0_1:Nat)(i5 j6:Int)(h0:List (Bs×Bs))(h1_0_0:Bool)(h1_0_1:List Bs)(g2:Ob)(sl:Sl)(_:sl 0=.v (.c (.slc 0 0 2 s0_1 none)))(_:sl 1=.v (.c (.fn 78 [(1,0)])))(_:sl 5=vd (dI i5))(_:sl 6=vd (dI j6)):
  stepE (e0x mm) (loopK 2 j0E (dn (E0 mm) 76 2 k0u sl [.cells (enZ enSS h0),.cells [.d (.lst h1_0_0 (enL enS h1_0_1))],g2]))=(i0Y s0_1 i5 j6 h0 h1_0_0 h1_0_1).map (sm b0j M0k):=by
 unfold i0Y;exact go (Q (rx k0u) S0Y) trivial
def i0Z(s0_1:Nat)(i5:Int)(h0:List (Bs×Bs))(h1_0_0:Bool)(h1_0_1:List Bs):Option M0h:=
 (bnd i5 s0_1).bind fun yk15=>
  if yk15+(s0_1 - yk15)≤h0.length then
   some (yk15,(h0.take yk15++(List.replicate (s0_1 - yk15) (([]:Bs),([]:Bs))++h0.drop (yk15+(s0_1 - yk15)))),h1_0_0,h1_0_1)
  else none
theorem w0m(s0_1:Nat)(i5:Int)(h0:List (Bs×Bs))(h1_0_0:Bool)(h1_0_1:List Bs)(sl:Sl)(_:sl 0=.v (.c (.slc 0 0 2 s0_1 none)))(_:sl 5=vd (dI i5)):
  bodyD (E0 mm) [.tmp 4] 2 true (dn (E0 mm) 76 2 a0u sl [.cells (enZ enSS h0),.cells [.d (.lst h1_0_0 (enL enS h1_0_1))]])=(i0Z s0_1 i5 h0 h1_0_0 h1_0_1).map M0k:=by
 unfold i0Z;exact go (Q (nE a0u (.seq h0f (.seq k0v .ret))) S0Y) trivial
def g0o(s0_1:Nat)(i5 j6:Int)(h0:List (Bs×Bs))(h1_0_0:Bool)(h1_0_1:List Bs):Option ((Nat×Int×Int×List (Bs×Bs)×Bool×List Bs) ⊕ M0h):=
 if (decide (j6<(s0_1:Int)))=true then
  if 0≤j6∧j6<(s0_1:Int) then
   if j6.toNat<h0.length then
    (m78 ((h0.getD j6.toNat default).1) ((h0.getD j6.toNat default).2) h1_0_0 h1_0_1).bind fun yr9=>
     if yr9.1=true then
      i0Y s0_1 i5 j6 h0 yr9.2.1 yr9.2.2
     else
      if 0≤i5∧i5<(s0_1:Int) then
       if i5.toNat<h0.length then
        i0Y s0_1 (w64 (i5+1)) j6 (h0.set i5.toNat ((h0.getD j6.toNat default).1,(h0.getD j6.toNat default).2)) yr9.2.1 yr9.2.2
       else none
      else none
   else none
  else none
 else
  (i0Z s0_1 i5 h0 h1_0_0 h1_0_1).map .inr
theorem x0T(s0_1:Nat)(i5 j6:Int)(h0:List (Bs×Bs))(h1_0_0:Bool)(h1_0_1:List Bs):
  stepE (e0x mm) (lp (E0 mm) 76 2 a0o j0E (b0j (s0_1,i5,j6,h0,h1_0_0,h1_0_1)))=(g0o s0_1 i5 j6 h0 h1_0_0 h1_0_1).map (sm b0j M0k):=by
 unfold g0o;exact go S0Y (Q @w0l @w0m)
def m0N(s0_1:Nat)(i5 j6:Int)(h0:List (Bs×Bs))(h1_0_0:Bool)(h1_0_1:List Bs):Option M0h:=iter (fun x:(Nat×Int×Int×List (Bs×Bs)×Bool×List Bs)=>g0o x.1 x.2.1 x.2.2.1 x.2.2.2.1 x.2.2.2.2.1 x.2.2.2.2.2) (s0_1,i5,j6,h0,h1_0_0,h1_0_1)
theorem w0Z(s0_1:Nat)(i5 j6:Int)(h0:List (Bs×Bs))(h1_0_0:Bool)(h1_0_1:List Bs):(e0x mm) (itW (lp (E0 mm) 76 2 a0o j0E) (b0j (s0_1,i5,j6,h0,h1_0_0,h1_0_1)))=(m0N s0_1 i5 j6 h0 h1_0_0 h1_0_1).map M0k:=
 it_sim (K:=(e0x mm)) rfl (enc:=b0j) (fun x=>x0T x.1 x.2.1 x.2.2.1 x.2.2.2.1 x.2.2.2.2.1 x.2.2.2.2.2) (s0_1,i5,j6,h0,h1_0_0,h1_0_1)
def S0F(s_1:Nat)(h0:List (Bs×Bs))(h1_0_0:Bool)(h1_0_1:List Bs):Option M0h:=
 (x0e s_1 h0 h1_0_0 h1_0_1).bind fun yr2=>
  if (yr2.1==(-1))=true then
   some (s_1,yr2.2.1,yr2.2.2.1,yr2.2.2.2)
  else
   m0N s_1 yr2.1 (w64 (yr2.1+1)) yr2.2.1 yr2.2.2.1 yr2.2.2.2
theorem R0p(s_1:Nat)(h0:List (Bs×Bs))(h1_0_0:Bool)(h1_0_1:List Bs):
  callW (E0 mm) 76 [.c (.slc 0 0 2 s_1 none),.c (.fn 78 [(1,0)])] [.cells (enZ enSS h0),.cells [.d (.lst h1_0_0 (enL enS h1_0_1))]]=(S0F s_1 h0 h1_0_0 h1_0_1).map M0k:=by
 rw[cR d0k [.tmp 4] Tryz.func76]
 unfold S0F;exact go S0Y @w0Z
noncomputable def y0w:Code:=bodyOf Tryz.f37
def K0i:=cA y0w
def y0x:=cB y0w
def K0j:=cA y0x
def N0u:=cB y0x
theorem c37_0_e:y0w=.seq K0i y0x:=rfl
theorem c37_1_r:RG (E0 mm) 37 K0i:=rgN rfl
theorem c37_2_e:y0x=.seq K0j N0u:=rfl
theorem c37_3_r:RG (E0 mm) 37 K0j:=rgN rfl
theorem c37_4_e:N0u=.ret:=rfl
abbrev R37:=(Bool×List (Bs×Bs))
def e37(x:R37):AV×Heap:=(.v (.c (.d (.lst x.1 (enL enSS x.2)))),[])
def m37(l_0:Bool)(l_1:List (Bs×Bs))(names_0:Bool)(names_1:List Bs):Option R37:=
 (m77 l_0 l_1).bind fun yr2=>
  match yr2 with
  | .inl yr3=>
   (m76 names_0 names_1).bind fun yr6=>
    some (true,([]:List (Bs×Bs)))
  | .inr yr4=>
   match yr4 with
   | .inl yr7=>
    (T0p names_0 names_1).bind fun yr10=>
     some (false,([]:List (Bs×Bs)))
   | .inr yr8=>
    (S0F yr8.1 yr8.2 names_0 names_1).bind fun yr12=>
     if yr12.1≤yr12.2.1.length then
      some (false,(yr12.2.1.take yr12.1))
     else none
theorem T0Q(l_0:Bool)(l_1:List (Bs×Bs))(names_0:Bool)(names_1:List Bs):
  callW (E0 mm) 37 [.c (.d (.lst l_0 (enL enSS l_1))),.c (.d (.lst names_0 (enL enS names_1)))] []=(m37 l_0 l_1 names_0 names_1).map e37:=by
 rw[cR y0w [.tmp 4] Tryz.func37]
 simp -implicitDefEqProofs only [m37,slots2,c37_0_e,c37_1_r,(show opsOf K0i=_::_ from rfl),c37_2_e,c37_3_r,(show opsOf K0j=_::_ from rfl),ent77,prm77,U0e,setA,setB,za,zb,zc,zd,ze,zf,zg,zh,zi,zj,zk,zl,zm,zn,zo,zp,reduceCtorEq,zE,↓reduceIte]
 refine brM (fun yc1=>?_) (fun yr2 yc1=>?_)
 ·rw[yc1];rfl
 ·rcases yr2 with yr3 | yr4
  ·simp -implicitDefEqProofs only [e77,ent76,prm76,U0d,yc1,setA,setB,za,zb,zc,zd,ze,zf,zg,zh,zi,zj,zk,zl,zm,zn,zo,zp,reduceCtorEq,zE,↓reduceIte]
   refine brM (fun yc5=>?_) (fun yr6 yc5=>?_)
   ·rw[yc5];rfl
   ·simp -implicitDefEqProofs only [e76,c37_4_e,yc1,yc5,setA,setB,za,zb,zc,zd,ze,zf,zg,zh,zi,zj,zk,zl,zm,zn,zo,zp,reduceCtorEq,zE,↓reduceIte]
    all_goals rfl
  ·rcases yr4 with yr7 | yr8
   ·simp -implicitDefEqProofs only [e77,ent76,prm76,R0o,yc1,setA,setB,za,zb,zc,zd,ze,zf,zg,zh,zi,zj,zk,zl,zm,zn,zo,zp,reduceCtorEq,zE,↓reduceIte]
    refine brM (fun yc9=>?_) (fun yr10 yc9=>?_)
    ·rw[yc9];rfl
    ·simp -implicitDefEqProofs only [Q0o,c37_4_e,(enZ_list0 (n:=2) (hp:=[.cells [.d (.lst yr10.1 (enL enS yr10.2))],.cells []]) (k:=1) rfl (some 0)),yc1,yc9,setA,setB,za,zb,zc,zd,ze,zf,zg,zh,zi,zj,zk,zl,zm,zn,zo,zp,reduceCtorEq,zE,↓reduceIte]
     all_goals rfl
   ·simp -implicitDefEqProofs only [e77,ent76,prm76,R0p,enZ_isD,(enZ_listY (f:=enSS) (n:=2) (fun _=>rfl) (by decide)),yc1,setA,setB,za,zb,zc,zd,ze,zf,zg,zh,zi,zj,zk,zl,zm,zn,zo,zp,reduceCtorEq,zE,↓reduceIte]
    refine brM (fun yc11=>?_) (fun yr12 yc11=>?_)
    ·rw[yc11];rfl
    ·simp -implicitDefEqProofs only [M0k,c37_4_e,enZ_isD,(enZ_listY (f:=enSS) (n:=2) (fun _=>rfl) (by decide)),yc1,yc11,setA,setB,za,zb,zc,zd,ze,zf,zg,zh,zi,zj,zk,zl,zm,zn,zo,zp,reduceCtorEq,zE,↓reduceIte]
     refine brP (fun yc13=>?_) (fun yc13=>?_)
     ·simp -implicitDefEqProofs only [(enZ_list (f:=enSS) (n:=2) (hp:=[.cells [.d (.lst yr12.2.2.1 (enL enS yr12.2.2.2))],.cells (enZ enSS yr12.2.1)]) (k:=1) (l:=yr12.2.1) (fun _=>rfl) rfl yr12.1 none yc13),enZ_isD,(enZ_listY (f:=enSS) (n:=2) (fun _=>rfl) (by decide)),yc1,yc11,yc13,setA,setB,za,zb,zc,zd,ze,zf,zg,zh,zi,zj,zk,zl,zm,zn,zo,zp,reduceCtorEq,zE,↓reduceIte]
      all_goals rfl
     ·rw[if_neg yc13];rfl
noncomputable def y0z:Code:=bodyOf Tryz.f58
def O0q:=cA y0z
def O0r:=cA (cB y0z)
abbrev R58:=(Bool)
def e58(x:R58):AV×Heap:=(vd (dB x),[])
def m58(l_0:Bool)(l_1:List (Bs×Bs))(names_0:Bool)(names_1:List Bs):Option R58:=
 (m37 l_0 l_1 names_0 names_1).bind fun yr2=>
  some (decide ((yr2.2.length:Int)<(l_1.length:Int)))
def k58:=Q (rx O0q) (Q (rx O0r) (Q @ent37 (Q @prm37 (Q @T0Q (Q @e37.eq_1 (Q (nE y0z (.seq O0q (.seq O0r .ret))) hA))))))
theorem y0Z(l_0:Bool)(l_1:List (Bs×Bs))(names_0:Bool)(names_1:List Bs):
  callW (E0 mm) 58 [cd (.lst l_0 (enL enSS l_1)),cd (.lst names_0 (enL enS names_1))] []=(m58 l_0 l_1 names_0 names_1).map e58:=by
 rw[cR y0z [.tmp 4] Tryz.func58]
 unfold m58;exact go k58 trivial
noncomputable def y0v:Code:=bodyOf Tryz.f30
def N0l:=cA y0v
def N0m:=cA (cB y0v)
abbrev R30:=(Bool)
def e30(x:R30):AV×Heap:=(vd (dB x),[])
def m30(l_0:Bool)(l_1:List (Bs×Bs)):Option R30:=
 (m58 l_0 l_1 false ([([105,102,45,109,97,116,99,104]:Bs),([105,102,45,110,111,110,101,45,109,97,116,99,104]:Bs),([105,102,45,109,111,100,105,102,105,101,100,45,115,105,110,99,101]:Bs),([105,102,45,117,110,109,111,100,105,102,105,101,100,45,115,105,110,99,101]:Bs),([105,102,45,114,97,110,103,101]:Bs),([114,97,110,103,101]:Bs),([99,111,110,116,101,110,116,45,108,101,110,103,116,104]:Bs),([116,114,97,110,115,102,101,114,45,101,110,99,111,100,105,110,103]:Bs)]:List Bs)).bind fun yr2=>
  some (!yr2)
def k30:=Q (rx N0l) (Q (rx N0m) (Q @hd20 (Q @nv21 (Q @rw22 (Q @ns23 (Q (fun (mm:Int) (l_0:Bool) (l_1:List (Bs×Bs))=>(show callW (E0 mm) 58 [cd (.lst l_0 (enL enSS l_1)),cd (.lst false (enL enS ([([105,102,45,109,97,116,99,104]:Bs),([105,102,45,110,111,110,101,45,109,97,116,99,104]:Bs),([105,102,45,109,111,100,105,102,105,101,100,45,115,105,110,99,101]:Bs),([105,102,45,117,110,109,111,100,105,102,105,101,100,45,115,105,110,99,101]:Bs),([105,102,45,114,97,110,103,101]:Bs),([114,97,110,103,101]:Bs),([99,111,110,116,101,110,116,45,108,101,110,103,116,104]:Bs),([116,114,97,110,115,102,101,114,45,101,110,99,111,100,105,110,103]:Bs)]:List Bs)))] []=_ from y0Z l_0 l_1 false ([([105,102,45,109,97,116,99,104]:Bs),([105,102,45,110,111,110,101,45,109,97,116,99,104]:Bs),([105,102,45,109,111,100,105,102,105,101,100,45,115,105,110,99,101]:Bs),([105,102,45,117,110,109,111,100,105,102,105,101,100,45,115,105,110,99,101]:Bs),([105,102,45,114,97,110,103,101]:Bs),([114,97,110,103,101]:Bs),([99,111,110,116,101,110,116,45,108,101,110,103,116,104]:Bs),([116,114,97,110,115,102,101,114,45,101,110,99,111,100,105,110,103]:Bs)]:List Bs))) (Q @y0Z (Q @e58.eq_1 (Q (nE y0v (.seq N0l (.seq N0m .ret))) hA)))))))))
theorem T0O(l_0:Bool)(l_1:List (Bs×Bs)):
  callW (E0 mm) 30 [cd (.lst l_0 (enL enSS l_1))] []=(m30 l_0 l_1).map e30:=by
 rw[cR y0v [.tmp 2] Tryz.func30]
 unfold m30;exact go k30 trivial
noncomputable def y0y:Code:=bodyOf Tryz.f47
def N0P:=cA y0y
def N0Q:=cA (cB y0y)
abbrev R47:=(Bool)
def e47(x:R47):AV×Heap:=(vd (dB x),[])
def m47(l_0:Bool)(l_1:List (Bs×Bs))(name:Bs):Option R47:=
 (m74 l_0 l_1 name).bind fun yr2=>
  some (decide (0<(yr2.2.length:Int)))
def k47:=Q (rx N0P) (Q (rx N0Q) (Q @v0f (Q @e74.eq_1 (Q (nE y0y (.seq N0P (.seq N0Q .ret))) hA))))
theorem K0D(l_0:Bool)(l_1:List (Bs×Bs))(name:Bs):
  callW (E0 mm) 47 [cd (.lst l_0 (enL enSS l_1)),cd (dS name)] []=(m47 l_0 l_1 name).map e47:=by
 rw[cR y0y [.tmp 4] Tryz.func47]
 unfold m47;exact go k47 trivial
noncomputable def m0a:Code:=bodyOf Tryz.f32
def N0r:=cA m0a
def N0s:=cA (cB m0a)
def N0t:=cA (cA (cB (cB m0a)))
def K0h:=cA (cB (cA (cB (cB m0a))))
def j0W:=cA K0h
def F0L:=cA (cA j0W)
def F0M:=cA (cA (cA (cB j0W)))
def F0N:=cA (cA (cB (cA (cA (cB j0W)))))
def F0O:=cB (cB j0W)
def j0V:=cB (cB (cB m0a))
def F0P:=cA j0V
def y0k:List (Nat×Co):=[(0,.keep),(3,.keep),(4,.keep)]
abbrev R32:=(Bool)
def e32(x:R32):AV×Heap:=(vd (dB x),[])
def v0W: Option R32:=
 some true
def y0d(mm:Int)(r:Option (Ex×St)):Option (AV×Heap):=bodyD (E0 mm) [.tmp 2] 0 false (sq (E0 mm) 32 0 j0V (blockD 0 (r)))
def k0G(x:(Bool×List (Bs×Bs)×Int)):X:=(none,[vd (.lst x.1 (enL enSS x.2.1)),.v (.c (.ptr 0 0)),vd (dI x.2.2)],[.cells [.d (dS ([105,102,45,109,97,116,99,104]:Bs)),.d (dS ([105,102,45,110,111,110,101,45,109,97,116,99,104]:Bs)),.d (dS ([105,102,45,109,111,100,105,102,105,101,100,45,115,105,110,99,101]:Bs)),.d (dS ([105,102,45,117,110,109,111,100,105,102,105,101,100,45,115,105,110,99,101]:Bs)),.d (dS ([105,102,45,114,97,110,103,101]:Bs)),.d (dS ([114,97,110,103,101]:Bs)),.d (dS ([99,111,110,116,101,110,116,45,108,101,110,103,116,104]:Bs)),.d (dS ([116,114,97,110,115,102,101,114,45,101,110,99,111,100,105,110,103]:Bs))]])
def k32:=Q (rx F0P) (Q (rx F0L) (Q (rx F0M) (Q @Tryz.underlying88 (Q @ar33 (Q @K0D (Q @e47.eq_1 (Q (rx F0N) (Q @y0d.eq_1 (Q (rx F0O) (Q (rx N0r) (Q (rx N0s) (Q @zc88 (Q @sz88 (Q (rx N0t) (Q (fun mm=>lx (E0 mm) 32 K0h j0W y0k) (Q (nE m0a (.seq N0r (.seq N0s (.seq (.seq N0t (.block 0 K0h)) j0V)))) (Q (nE j0W (.seq (.seq F0L (.cond _ .skip (.exit 0))) (.seq (.block 1 (.seq F0M (.cond _ (.seq F0N .ret) .skip))) F0O))) (Q @k0G.eq_1 (Q @y0k.eq_1 hA)))))))))))))))))))
theorem z0E(g0:Ob)(sl:Sl):
  bodyD (E0 mm) [.tmp 2] 0 false (dn (E0 mm) 32 0 j0V sl [g0])=(v0W).map e32:=by
 unfold v0W;exact go (Q (nE j0V (.seq F0P .ret)) k32) trivial
def m0T(l0_0:Bool)(l0_1:List (Bs×Bs))(i4:Int):Option ((Bool×List (Bs×Bs)×Int) ⊕ R32):=
 if (decide (i4<8))=true then
  if 0≤i4∧i4<8 then
   (m47 l0_0 l0_1 (([([105,102,45,109,97,116,99,104]:Bs),([105,102,45,110,111,110,101,45,109,97,116,99,104]:Bs),([105,102,45,109,111,100,105,102,105,101,100,45,115,105,110,99,101]:Bs),([105,102,45,117,110,109,111,100,105,102,105,101,100,45,115,105,110,99,101]:Bs),([105,102,45,114,97,110,103,101]:Bs),([114,97,110,103,101]:Bs),([99,111,110,116,101,110,116,45,108,101,110,103,116,104]:Bs),([116,114,97,110,115,102,101,114,45,101,110,99,111,100,105,110,103]:Bs)]:List Bs).getD i4.toNat default)).bind fun yr5=>
    if yr5=true then
     some (.inr false)
    else
     some (.inl (l0_0,l0_1,(w64 (i4+1))))
  else none
 else
  (v0W).map .inr
theorem L0V(l0_0:Bool)(l0_1:List (Bs×Bs))(i4:Int):
  stepE (y0d mm) (lp (E0 mm) 32 0 j0W y0k (k0G (l0_0,l0_1,i4)))=(m0T l0_0 l0_1 i4).map (sm k0G e32):=by
 unfold m0T;exact go k32 @z0E
def R0L(l0_0:Bool)(l0_1:List (Bs×Bs))(i4:Int):Option R32:=iter (fun x:(Bool×List (Bs×Bs)×Int)=>m0T x.1 x.2.1 x.2.2) (l0_0,l0_1,i4)
theorem K0V(l0_0:Bool)(l0_1:List (Bs×Bs))(i4:Int):(y0d mm) (itW (lp (E0 mm) 32 0 j0W y0k) (k0G (l0_0,l0_1,i4)))=(R0L l0_0 l0_1 i4).map e32:=
 it_sim (K:=(y0d mm)) rfl (enc:=k0G) (fun x=>L0V x.1 x.2.1 x.2.2) (l0_0,l0_1,i4)
def m32(l_0:Bool)(l_1:List (Bs×Bs)):Option R32:=
 R0L l_0 l_1 (0:Int)
theorem T0P(l_0:Bool)(l_1:List (Bs×Bs)):
  callW (E0 mm) 32 [cd (.lst l_0 (enL enSS l_1))] []=(m32 l_0 l_1).map e32:=by
 rw[cR m0a [.tmp 2] Tryz.func32]
 unfold m32;exact go k32 @K0V
noncomputable def n0w:Code:=bodyOf Tryz.f113
def C0G:=cA n0w
def C0H:=cA (cB n0w)
abbrev U0M:=(Bs)
def V0y(x:U0M):AV×Heap:=(vd (dS x),[])
def R0X(s:Bs):Option U0M:=
 (mTrim s ([32,9]:Bs)).bind fun yr2=>
  some yr2
def W0k:=Q (rx C0G) (Q (rx C0H) (Q @ent142 (Q @prm142 (Q @pTrim_t (Q (nE n0w (.seq C0G (.seq C0H .ret))) hA)))))
theorem Q0w(s:Bs):
  callW (E0 mm) 113 [cd (dS s)] []=(R0X s).map V0y:=by
 rw[cR n0w [.tmp 2] Tryz.func113]
 unfold R0X;exact go W0k trivial
noncomputable def g0I:Code:=bodyOf Tryz.f112
def C0D:=cA (cA g0I)
def C0E:=cA (cB (cA g0I))
def C0F:=cA (cB (cB (cA g0I)))
def s0l:=cB g0I
abbrev T0x:=(Bs×Int×Bool×List Bs)
def T0C(x:T0x):AV×Heap:=(.tup [],[.cells [.d (dS x.1)],.cells [.d (dI x.2.1)],.cells [.own x.2.2.1 (enL enS x.2.2.2) 3],.row x.2.2.2.length (rz x.2.2.1 1)])
def k0L(to0:Int)(h0_0:Bs)(h1_0:Int)(h2_0_0:Bool)(h2_0_1:List Bs):Option T0x:=
 some (h0_0,(w64 (to0+1)),h2_0_0,h2_0_1)
def W0a:=Q @slots4 (Q (rx C0D) (Q @ent113 (Q @prm113 (Q @Q0w (Q @V0y.eq_1 (Q (rx C0E) (Q (rx C0F) (Q @hd40 (Q @nv41 (Q @rw42 (Q (nE g0I (.seq (.seq C0D (.seq C0E (.cond _ C0F .skip))) s0l)) hA)))))))))))
theorem z0f(to0:Int)(h0_0:Bs)(h1_0:Int)(h2_0_0:Bool)(h2_0_1:List Bs)(sl:Sl)(_:sl 0=vd (dI to0))(_:sl 2=.v (.c (.ptr 1 0))):
  bodyD (E0 mm) [] 4 false (dn (E0 mm) 112 4 s0l sl [.cells [.d (dS h0_0)],.cells [.d (dI h1_0)],.cells [.own h2_0_0 (enL enS h2_0_1) 3],.row h2_0_1.length (rz h2_0_0 1)])=(k0L to0 h0_0 h1_0 h2_0_0 h2_0_1).map T0C:=by
 unfold k0L;exact go (Q (rx s0l) W0a) trivial
def M0l(to:Int)(h0_0:Bs)(h1_0:Int)(h2_0_0:Bool)(h2_0_1:List Bs):Option T0x:=
 (bnd to h0_0.length).bind fun yk2=>
  (bnd h1_0 yk2).bind fun yk4=>
   (R0X ((h0_0.take yk2).drop yk4)).bind fun yr6=>
    if (yr6==([]:Bs))=true then
     k0L to h0_0 h1_0 h2_0_0 h2_0_1
    else
     if (h2_0_1.length+1)*16≤140737488355328 then
      k0L to h0_0 h1_0 false (h2_0_1++([yr6]:List Bs))
     else none
theorem Q0v(to:Int)(h0_0:Bs)(h1_0:Int)(h2_0_0:Bool)(h2_0_1:List Bs):
  callW (E0 mm) 112 [cd (dI to),.c (.ptr 0 0),.c (.ptr 1 0),.c (.ptr 2 0)] [.cells [.d (dS h0_0)],.cells [.d (dI h1_0)],.cells [.own h2_0_0 (enL enS h2_0_1) 3],.row h2_0_1.length (rz h2_0_0 1)]=(M0l to h0_0 h1_0 h2_0_0 h2_0_1).map T0C:=by
 rw[cR g0I [] Tryz.func112]
 unfold M0l;exact go W0a @z0f
end
end Go.Proofs.YtbkobjepahlegaaGreatDoor
