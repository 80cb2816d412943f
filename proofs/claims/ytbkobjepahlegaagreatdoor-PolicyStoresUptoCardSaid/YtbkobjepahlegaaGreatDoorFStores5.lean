/- The Go functions as plain functions, and that the evaluator computes them. -/
import Derived.Test.YtbkobjepahlegaaGreatDoorFStores4
set_option linter.all false
set_option maxRecDepth 100000
namespace Go.Proofs.YtbkobjepahlegaaGreatDoor
open Go Go.Ab
open Nat renaming reduceEqDiff→za,reduceAdd→zb,reduceLeDiff→zc,reduceLT→zd,reduceMul→ze,reduceBEq→zf,reduceSub→zg,reducePow→zh
open Int renaming reduceEq→zi,reduceLE→zj,reduceLT→zk,reduceToNat→zl,reduceNegSucc→zm,reduceAdd→zn,reduceBEq→zo
open String renaming reduceBEq→zp
set_option maxHeartbeats 4000000
noncomputable section
variable {mm:Int}
noncomputable def j0N:Code:=bodyOf Tryz.f15
def M0H:=cA j0N
def M0I:=cA (cB j0N)
def M0J:=cA (cA (cB (cB j0N)))
def M0K:=cA (cB (cA (cB (cB j0N))))
def E0S:=cA (cB (cB (cA (cB (cB j0N)))))
def c0h:=cB (cB (cB j0N))
def t0Y:=cA (cA c0h)
def t0Z:=cA (cB (cA c0h))
def u0a:=cA (cB (cB (cA c0h)))
def e0T:=cB c0h
def u0b:=cA e0T
abbrev b15(mm:Int):=bodyD (E0 mm) [.tmp 2] 0 false
abbrev R15:=(Bool×List (Bs×Bs)) ⊕ (Bool×List (Bs×Bs))
def e15(x:R15):AV×Heap:=match x with
 | .inl x=>(.v (.c (.own x.1 (enL enSS x.2) 0)),[.row x.2.length (rz x.1 2)])
 | .inr x=>(vd (.lst x.1 (enL enSS x.2)),[])
def d0W(l3_0:Bool)(l3_1:List (Bs×Bs)):Option R15:=
 some (.inl (l3_0,l3_1))
def k15:=Q (rx u0b) (Q (rx t0Y) (Q @ent54 (Q @prm54 (Q @T0Y (Q @e54.eq_1 (Q (rx t0Z) (Q (rx u0a) (Q @hd100 (Q @nv101 (Q @rw102 (Q (rx M0H) (Q (rx M0I) (Q (rx M0J) (Q @ent28 (Q @prm28 (Q @T0N (Q @e28.eq_1 (Q (rx M0K) (Q (rx E0S) (Q @hd95 (Q @nv96 (Q @rw97 (Q (nE j0N (.seq M0H (.seq M0I (.seq (.seq M0J (.seq M0K (.cond _ E0S .skip))) c0h)))) hA)))))))))))))))))))))))
theorem o0G(l3_0:Bool)(l3_1:List (Bs×Bs))(g0:Ob)(sl:Sl)(_:sl 3=.v (.c (.own l3_0 (enL enSS l3_1) 1))):
  b15 mm (dn (E0 mm) 15 0 e0T sl [g0,.row l3_1.length (rz l3_0 2)])=(d0W l3_0 l3_1).map e15:=by
 unfold d0W;exact go (Q (nE e0T (.seq u0b .ret)) k15) trivial
def h0o(l3_0:Bool)(l3_1:List (Bs×Bs))(h0_0:Bs)(h0_1 h0_2:Int)(h0_3_0:Bool)(h0_3_1:List (Bs×Bs))(h0_4:Int)(h0_5:Bs)(h0_6:Int)(h0_7_0:Bool)(h0_7_1:List (Bs×Bs))(h0_8_0:Bool)(h0_8_1:List UInt8):Option R15:=
 (m54 h0_7_0 h0_7_1).bind fun yr5=>
  if yr5.2=true then
   if (l3_1.length+1)*32≤140737488355328 then
    d0W false (l3_1++([(([73,102,45,77,111,100,105,102,105,101,100,45,83,105,110,99,101]:Bs),yr5.1)]:List (Bs×Bs)))
   else none
  else
   d0W l3_0 l3_1
theorem z0p(l3_0:Bool)(l3_1:List (Bs×Bs))(h0_0:Bs)(h0_1 h0_2:Int)(h0_3_0:Bool)(h0_3_1:List (Bs×Bs))(h0_4:Int)(h0_5:Bs)(h0_6:Int)(h0_7_0:Bool)(h0_7_1:List (Bs×Bs))(h0_8_0:Bool)(h0_8_1:List UInt8)(sl:Sl)(_:sl 1=.v (.c (.ptr 0 0)))(_:sl 3=.v (.c (.own l3_0 (enL enSS l3_1) 1))):
  b15 mm (dn (E0 mm) 15 0 c0h sl [.cells [.d (dS h0_0),.d (dU h0_1),.d (dU h0_2),.d (.lst h0_3_0 (enL enSS h0_3_1)),.d (dI h0_4),.d (dS h0_5),.d (dI h0_6),.d (.lst h0_7_0 (enL enSS h0_7_1)),.d (.lst h0_8_0 (enL enB h0_8_1))],.row l3_1.length (rz l3_0 2)])=(h0o l3_0 l3_1 h0_0 h0_1 h0_2 h0_3_0 h0_3_1 h0_4 h0_5 h0_6 h0_7_0 h0_7_1 h0_8_0 h0_8_1).map e15:=by
 unfold h0o;exact go (Q (nE c0h (.seq (.seq t0Y (.seq t0Z (.cond _ u0a .skip))) e0T)) k15) @o0G
def b0l: Option R15:=
 some (.inr (true,([]:List (Bs×Bs))))
theorem q0j(g0:Ob)(sl:Sl)(_:sl 3=vd (.lst true [])):
  b15 mm (dn (E0 mm) 15 0 e0T sl [g0])=(b0l).map e15:=by
 unfold b0l;exact go (Q (nE e0T (.seq u0b .ret)) k15) trivial
def b0k(h0_0:Bs)(h0_1 h0_2:Int)(h0_3_0:Bool)(h0_3_1:List (Bs×Bs))(h0_4:Int)(h0_5:Bs)(h0_6:Int)(h0_7_0:Bool)(h0_7_1:List (Bs×Bs))(h0_8_0:Bool)(h0_8_1:List UInt8):Option R15:=
 (m54 h0_7_0 h0_7_1).bind fun yr9=>
  if yr9.2=true then
   d0W false ([(([73,102,45,77,111,100,105,102,105,101,100,45,83,105,110,99,101]:Bs),yr9.1)]:List (Bs×Bs))
  else
   b0l
theorem q0i(h0_0:Bs)(h0_1 h0_2:Int)(h0_3_0:Bool)(h0_3_1:List (Bs×Bs))(h0_4:Int)(h0_5:Bs)(h0_6:Int)(h0_7_0:Bool)(h0_7_1:List (Bs×Bs))(h0_8_0:Bool)(h0_8_1:List UInt8)(sl:Sl)(_:sl 1=.v (.c (.ptr 0 0)))(_:sl 3=vd (.lst true [])):
  b15 mm (dn (E0 mm) 15 0 c0h sl [.cells [.d (dS h0_0),.d (dU h0_1),.d (dU h0_2),.d (.lst h0_3_0 (enL enSS h0_3_1)),.d (dI h0_4),.d (dS h0_5),.d (dI h0_6),.d (.lst h0_7_0 (enL enSS h0_7_1)),.d (.lst h0_8_0 (enL enB h0_8_1))]])=(b0k h0_0 h0_1 h0_2 h0_3_0 h0_3_1 h0_4 h0_5 h0_6 h0_7_0 h0_7_1 h0_8_0 h0_8_1).map e15:=by
 unfold b0k;exact go (Q (nE c0h (.seq (.seq t0Y (.seq t0Z (.cond _ u0a .skip))) e0T)) k15) (Q @o0G @q0j)
def m15(e0_0:Bs)(e0_1 e0_2:Int)(e0_3:Bool)(e0_4:List (Bs×Bs))(e0_5:Int)(e0_6:Bs)(e0_7:Int)(e0_8:Bool)(e0_9:List (Bs×Bs))(e0_10:Bool)(e0_11:List UInt8):Option R15:=
 (m28 e0_8 e0_9).bind fun yr2=>
  if yr2.2=true then
   h0o false ([(([73,102,45,78,111,110,101,45,77,97,116,99,104]:Bs),yr2.1)]:List (Bs×Bs)) e0_0 e0_1 e0_2 e0_3 e0_4 e0_5 e0_6 e0_7 e0_8 e0_9 e0_10 e0_11
  else
   b0k e0_0 e0_1 e0_2 e0_3 e0_4 e0_5 e0_6 e0_7 e0_8 e0_9 e0_10 e0_11
theorem y0Y(e0_0:Bs)(e0_1 e0_2:Int)(e0_3:Bool)(e0_4:List (Bs×Bs))(e0_5:Int)(e0_6:Bs)(e0_7:Int)(e0_8:Bool)(e0_9:List (Bs×Bs))(e0_10:Bool)(e0_11:List UInt8):
  callW (E0 mm) 15 [.agg [.d (dS e0_0),.d (dU e0_1),.d (dU e0_2),.d (.lst e0_3 (enL enSS e0_4)),.d (dI e0_5),.d (dS e0_6),.d (dI e0_7),.d (.lst e0_8 (enL enSS e0_9)),.d (.lst e0_10 (enL enB e0_11))]] []=(m15 e0_0 e0_1 e0_2 e0_3 e0_4 e0_5 e0_6 e0_7 e0_8 e0_9 e0_10 e0_11).map e15:=by
 rw[cR j0N [.tmp 2] Tryz.func15]
 unfold m15;exact go k15 (Q @z0p @q0i)
noncomputable def j0I:Code:=bodyOf Tryz.f129
def D0k:=cA j0I
def D0l:=cA (cB j0I)
def D0m:=cA (cB (cB j0I))
abbrev U0U:=(Bs)
def V0F(x:U0U):AV×Heap:=(vd (dS x),[])
def S0d(n:Int):Option U0U:=
 if 0≤n∧n<12 then
  some (([([74,97,110]:Bs),([70,101,98]:Bs),([77,97,114]:Bs),([65,112,114]:Bs),([77,97,121]:Bs),([74,117,110]:Bs),([74,117,108]:Bs),([65,117,103]:Bs),([83,101,112]:Bs),([79,99,116]:Bs),([78,111,118]:Bs),([68,101,99]:Bs)]:List Bs).getD n.toNat default)
 else none
def W0s:=Q (rx D0k) (Q (rx D0l) (Q @Tryz.underlying132 (Q @zc132 (Q @sz132 (Q (rx D0m) (Q @ar107 (Q (nE j0I (.seq D0k (.seq D0l (.seq D0m .ret)))) hA)))))))
theorem Q0H(n:Int):
  callW (E0 mm) 129 [cd (dI n)] []=(S0d n).map V0F:=by
 rw[cR j0I [.tmp 2] Tryz.func129]
 unfold S0d;exact go W0s trivial
noncomputable def e0K:Code:=bodyOf Tryz.f130
def D0n:=cA e0K
def D0o:=cA (cB e0K)
def D0p:=cA (cA (cB (cB e0K)))
def s0Z:=cA (cB (cA (cB (cB e0K))))
def c0e:=cA s0Z
def s0V:=cA (cA c0e)
def s0W:=cA (cA (cA (cA (cB c0e))))
def i0n:=cB (cA (cA (cA (cB c0e))))
def s0X:=cA (cA i0n)
def l0P:=cB (cA (cA (cB c0e)))
def l0Q:=cB (cB c0e)
def e0L:=cB (cB (cB e0K))
def s0Y:=cA e0L
def j0B:List (Nat×Co):=[(0,.keep),(1,.keep),(2,.keep),(7,.keep),(8,.keep)]
abbrev M0f:=(Int)
def M0i(x:M0f):AV×Heap:=(vd (dI x),[])
def f0I(s0:Bs)(at1 many2:Int)(n7 i8:Int)(t26:Bool):Option ((Bs×Int×Int×Int×Int) ⊕ M0f):=
 if t26=true then
  some (.inr (-1:Int))
 else
  if 0≤i8∧i8<(s0.length:Int) then
   some (.inl (s0,at1,many2,(w64 ((w64 (10*n7))+(((s0.getD i8.toNat 0) - (48:UInt8)).toNat:Int))),(w64 (i8+1))))
  else none
def j0q(mm:Int)(r:Option (Ex×St)):Option (AV×Heap):=bodyD (E0 mm) [.tmp 6] 0 false (sq (E0 mm) 130 0 e0L (blockD 0 (r)))
def d0m(x:(Bs×Int×Int×Int×Int)):X:=(none,[vd (dS x.1),vd (dI x.2.1),vd (dI x.2.2.1),vd (dI x.2.2.2.1),vd (dI x.2.2.2.2)],[])
def S0W:=Q (rx s0X) (Q @j0q.eq_1 (Q (rx l0P) (Q (rx l0Q) (Q (rx s0Y) (Q (rx s0V) (Q (rx s0W) (Q (rx D0n) (Q (rx D0o) (Q (rx D0p) (Q (fun mm=>lx (E0 mm) 130 s0Z c0e j0B) (Q (nE e0K (.seq D0n (.seq D0o (.seq (.seq D0p (.block 0 s0Z)) e0L)))) (Q (nE c0e (.seq (.seq s0V (.cond _ .skip (.exit 0))) (.seq (.block 1 (.seq (.seq s0W i0n) l0P)) l0Q))) (Q @d0m.eq_1 (Q @j0B.eq_1 hA))))))))))))))
theorem v0L(s0:Bs)(at1 many2:Int)(n7 i8:Int)(t26:Bool)(sl:Sl)(_:sl 0=vd (dS s0))(_:sl 1=vd (dI at1))(_:sl 2=vd (dI many2))(_:sl 7=vd (dI n7))(_:sl 8=vd (dI i8))(_:sl 26=vd (dB t26)):
  stepE (j0q mm) (loopK 0 j0B (sq (E0 mm) 130 0 l0Q (blockD 1 (sq (E0 mm) 130 0 l0P (dn (E0 mm) 130 0 i0n sl [])))))=(f0I s0 at1 many2 n7 i8 t26).map (sm d0m M0i):=by
 unfold f0I;exact go (Q (nE i0n (.cond _ (.seq s0X .ret) .skip)) S0W) trivial
def i0K(n7:Int):Option M0f:=
 some n7
theorem v0M(n7:Int)(sl:Sl)(_:sl 7=vd (dI n7)):
  bodyD (E0 mm) [.tmp 6] 0 false (dn (E0 mm) 130 0 e0L sl [])=(i0K n7).map M0i:=by
 unfold i0K;exact go (Q (nE e0L (.seq s0Y .ret)) S0W) trivial
def l0o(s0:Bs)(at1 many2:Int)(n7 i8:Int):Option ((Bs×Int×Int×Int×Int) ⊕ M0f):=
 if (decide (i8<(w64 (at1+many2))))=true then
  if 0≤i8∧i8<(s0.length:Int) then
   if (decide ((s0.getD i8.toNat 0)<(48:UInt8)))=true then
    f0I s0 at1 many2 n7 i8 true
   else
    f0I s0 at1 many2 n7 i8 (decide ((57:UInt8)<(s0.getD i8.toNat 0)))
  else none
 else
  (i0K n7).map .inr
theorem B0y(s0:Bs)(at1 many2:Int)(n7 i8:Int):
  stepE (j0q mm) (lp (E0 mm) 130 0 c0e j0B (d0m (s0,at1,many2,n7,i8)))=(l0o s0 at1 many2 n7 i8).map (sm d0m M0i):=by
 unfold l0o;exact go S0W (Q @v0L @v0M)
def f0W(s0:Bs)(at1 many2:Int)(n7 i8:Int):Option M0f:=iter (fun x:(Bs×Int×Int×Int×Int)=>l0o x.1 x.2.1 x.2.2.1 x.2.2.2.1 x.2.2.2.2) (s0,at1,many2,n7,i8)
theorem A0L(s0:Bs)(at1 many2:Int)(n7 i8:Int):(j0q mm) (itW (lp (E0 mm) 130 0 c0e j0B) (d0m (s0,at1,many2,n7,i8)))=(f0W s0 at1 many2 n7 i8).map M0i:=
 it_sim (K:=(j0q mm)) rfl (enc:=d0m) (fun x=>B0y x.1 x.2.1 x.2.2.1 x.2.2.2.1 x.2.2.2.2) (s0,at1,many2,n7,i8)
def l0w(s:Bs)(xat many:Int):Option M0f:=
 f0W s xat many (0:Int) xat
theorem Q0I(s:Bs)(xat many:Int):
  callW (E0 mm) 130 [cd (dS s),cd (dI xat),cd (dI many)] []=(l0w s xat many).map M0i:=by
 rw[cR e0K [.tmp 6] Tryz.func130]
 unfold l0w;exact go S0W @A0L
noncomputable def n0G:Code:=bodyOf Tryz.f132
def D0u:=cA n0G
def D0v:=cA (cB n0G)
abbrev U0V:=(Bool)
def T0E(x:U0V):AV×Heap:=(vd (dB x),[])
def M0q(year:Int):Option U0V:=
 if ((year.tmod 400)==0)=true then
  some true
 else
  if ((year.tmod 4)==0)=true then
   some (!((year.tmod 100)==0))
  else
   some false
def W0t:=Q (rx D0u) (Q (rx D0v) (Q (nE n0G (.seq D0u (.seq D0v .ret))) hA))
theorem J0q(year:Int):
  callW (E0 mm) 132 [cd (dI year)] []=(M0q year).map T0E:=by
 rw[cR n0G [.tmp 2] Tryz.func132]
 unfold M0q;exact go W0t trivial
noncomputable def d0H:Code:=bodyOf Tryz.f131
def D0q:=cA d0H
def D0r:=cA (cB d0H)
def D0s:=cA (cB (cB d0H))
def D0t:=cA (cA (cB (cB (cB d0H))))
def n0F:=cB (cA (cB (cB (cB d0H))))
def t0a:=cA n0F
def e0M:=cB (cB (cB (cB d0H)))
def t0b:=cA e0M
abbrev S0S:=(Int)
def S0U(x:S0S):AV×Heap:=(vd (dI x),[])
def f0J(n6:Int):Option S0S:=
 some n6
def U0z:=Q (rx t0b) (Q (rx t0a) (Q (rx D0q) (Q (rx D0r) (Q @ao108 (Q (rx D0s) (Q (rx D0t) (Q @J0q (Q @T0E.eq_1 (Q (nE d0H (.seq D0q (.seq D0r (.seq D0s (.seq (.seq D0t n0F) e0M))))) hA)))))))))
theorem v0N(n6:Int)(g0:Ob)(sl:Sl)(_:sl 6=vd (dI n6)):
  bodyD (E0 mm) [.tmp 4] 0 false (dn (E0 mm) 131 0 e0M sl [g0])=(f0J n6).map S0U:=by
 unfold f0J;exact go (Q (nE e0M (.seq t0b .ret)) U0z) trivial
def k0M(n6:Int)(t16:Bool):Option S0S:=
 if t16=true then
  f0J (29:Int)
 else
  f0J n6
theorem z0h(n6:Int)(t16:Bool)(g0:Ob)(sl:Sl)(_:sl 6=vd (dI n6))(_:sl 16=vd (dB t16)):
  bodyD (E0 mm) [.tmp 4] 0 false (sq (E0 mm) 131 0 e0M (dn (E0 mm) 131 0 n0F sl [g0]))=(k0M n6 t16).map S0U:=by
 unfold k0M;exact go (Q (nE n0F (.cond _ t0a .skip)) U0z) @v0N
def M0p(year month:Int):Option S0S:=
 if 0≤month∧month<12 then
  if (month==1)=true then
   (M0q year).bind fun yr5=>
    k0M (([(31:Int),(28:Int),(31:Int),(30:Int),(31:Int),(30:Int),(31:Int),(31:Int),(30:Int),(31:Int),(30:Int),(31:Int)]:List Int).getD month.toNat default) yr5
  else
   k0M (([(31:Int),(28:Int),(31:Int),(30:Int),(31:Int),(30:Int),(31:Int),(31:Int),(30:Int),(31:Int),(30:Int),(31:Int)]:List Int).getD month.toNat default) false
 else none
theorem Q0J(year month:Int):
  callW (E0 mm) 131 [cd (dI year),cd (dI month)] []=(M0p year month).map S0U:=by
 rw[cR d0H [.tmp 4] Tryz.func131]
 unfold M0p;exact go U0z @z0h
noncomputable def j0J:Code:=bodyOf Tryz.f133
def D0w:=cA j0J
def D0x:=cA (cB j0J)
def D0y:=cA (cB (cB j0J))
abbrev U0W:=(Bs)
def V0G(x:U0W):AV×Heap:=(vd (dS x),[])
def S0g(n:Int):Option U0W:=
 if 0≤(n.tmod 7)∧(n.tmod 7)<7 then
  some (([([84,104,117]:Bs),([70,114,105]:Bs),([83,97,116]:Bs),([83,117,110]:Bs),([77,111,110]:Bs),([84,117,101]:Bs),([87,101,100]:Bs)]:List Bs).getD ((n.tmod 7).toNat) default)
 else none
def W0u:=Q (rx D0w) (Q (rx D0x) (Q @Tryz.underlying134 (Q @zc134 (Q @ao109 (Q @sz134 (Q (rx D0y) (Q @ar110 (Q (nE j0J (.seq D0w (.seq D0x (.seq D0y .ret)))) hA))))))))
theorem Q0K(n:Int):
  callW (E0 mm) 133 [cd (dU n)] []=(S0g n).map V0G:=by
 rw[cR j0J [.tmp 2] Tryz.func133]
 unfold S0g;exact go W0u trivial
noncomputable def g0G:Code:=bodyOf Tryz.f103
def C0f:=cA g0G
def C0g:=cA (cA (cB g0G))
def n0v:=cB (cA (cB g0G))
def C0h:=cA (cA n0v)
def b0u:=cB (cB g0G)
def r0j:=cA b0u
def r0k:=cA (cA (cB b0u))
def l0A:=cA (cB (cA (cB b0u)))
def a0L:=cA l0A
def r0l:=cA (cA a0L)
def r0m:=cA (cA (cA (cB a0L)))
def r0n:=cA (cB (cA (cA (cB a0L))))
def l0B:=cB (cB a0L)
def a0A:=cB (cB b0u)
def r0o:=cA a0A
def r0p:=cA (cB a0A)
def r0q:=cA (cA (cB (cB a0A)))
def i0d:=cB (cA (cB (cB a0A)))
def r0r:=cA (cA i0d)
def b0v:=cB (cB (cB a0A))
def r0s:=cA b0v
def r0t:=cA (cA (cB b0v))
def l0C:=cA (cB (cA (cB b0v)))
def a0B:=cA l0C
def r0u:=cA (cA a0B)
def r0v:=cA (cA (cA (cB a0B)))
def r0w:=cA (cB (cA (cA (cB a0B))))
def r0x:=cA (cB (cB (cA (cA (cB a0B)))))
def l0D:=cB (cB a0B)
def b0w:=cB (cB b0v)
def r0y:=cA (cA b0w)
def l0E:=cA (cB (cA b0w))
def b0x:=cA l0E
def r0z:=cA (cA b0x)
def r0A:=cA (cA (cB b0x))
def r0B:=cB (cB b0x)
def b0y:=cB b0w
def r0C:=cA (cA b0y)
def r0D:=cA (cA (cB (cA b0y)))
def r0E:=cA (cB b0y)
def j0y:List (Nat×Co):=[(0,.keep),(4,.keep),(5,.keep)]
def j0z:List (Nat×Co):=[(0,.keep),(4,.keep),(7,.keep),(8,.keep),(9,.keep),(10,.keep),(11,.keep),(12,.keep)]
def n0j:List (Nat×Co):=[(0,.keep),(4,.keep),(7,.keep),(8,.keep),(9,.keep),(10,.keep),(11,.keep),(13,.keep)]
abbrev b103(mm:Int):=bodyD (E0 mm) [.tmp 2,.tmp 3] 0 false
abbrev l0z:=(Int×Int)
def l0v(x:l0z):AV×Heap:=(.tup [cd (dU x.1),cd (dI x.2)],[])
def d0s(s0:Bs)(m4 i5:Int):Option ((Bs×Int×Int) ⊕ l0z):=
 some (.inl (s0,m4,(w64 (i5+1))))
def e0p(mm:Int)(r:Option (Ex×St)):Option (AV×Heap):=b103 mm (sq (E0 mm) 103 0 a0A (blockD 0 (r)))
def b0d(x:(Bs×Int×Int)):X:=(none,[vd (dS x.1),vd (dI x.2.1),vd (dI x.2.2)],[])
def e0q(mm:Int)(r:Option (Ex×St)):Option (AV×Heap):=b103 mm (sq (E0 mm) 103 0 b0w (blockD 2 (r)))
def b0e(x:(Bs×Int×Int×Int×Int×Int×Int×Int)):X:=(none,[vd (dS x.1),vd (dI x.2.1),vd (dI x.2.2.1),vd (dI x.2.2.2.1),vd (dI x.2.2.2.2.1),vd (dI x.2.2.2.2.2.1),vd (dU x.2.2.2.2.2.2.1),vd (dI x.2.2.2.2.2.2.2)],[])
def h0K(mm:Int)(r:Option (Ex×St)):Option (AV×Heap):=b103 mm (sq (E0 mm) 103 0 b0y (blockD 4 (r)))
def c0s(x:(Bs×Int×Int×Int×Int×Int×Int×Int)):X:=(none,[vd (dS x.1),vd (dI x.2.1),vd (dI x.2.2.1),vd (dI x.2.2.2.1),vd (dI x.2.2.2.2.1),vd (dI x.2.2.2.2.2.1),vd (dU x.2.2.2.2.2.2.1),vd (dI x.2.2.2.2.2.2.2)],[])
def w0p:=Q (fun mm=>ry (E0 mm) r0C) (Q @ent133 (Q @prm133 (Q @Q0K (Q @V0G.eq_1 (Q (rx r0E) (Q (rx r0D) (Q (rx r0z) (Q (rx r0A) (Q @ent131 (Q @prm131 (Q @Q0J (Q @S0U.eq_1 (Q (rx r0B) (Q @h0K.eq_1 (Q (rx r0y) (Q (fun mm=>lx (E0 mm) 103 l0E b0x n0j) (Q (rx r0u) (Q (rx r0v) (Q (rx r0w) (Q @J0q (Q @T0E.eq_1 (Q (rx r0x) (Q @e0q.eq_1 (Q (rx r0r) (Q (rx r0s) (Q (rx r0t) (Q (fun mm=>lx (E0 mm) 103 l0C a0B j0z) (Q (rx r0o) (Q @ent130 (Q @prm130 (Q @Q0I (Q @M0i.eq_1 (Q (rx r0p) (Q (rx r0q) (Q (rx r0l) (Q (fun mm=>ry (E0 mm) r0m) (Q @ent129 (Q @prm129 (Q @Q0H (Q @V0F.eq_1 (Q (rx r0n) (Q @e0p.eq_1 (Q (rx C0h) (Q (rx r0j) (Q (rx r0k) (Q (fun mm=>lx (E0 mm) 103 l0A a0L j0y) (Q (rx C0f) (Q (rx C0g) (Q (nE g0G (.seq C0f (.seq (.seq C0g n0v) b0u))) (Q (nE b0u (.seq r0j (.seq (.seq r0k (.block 0 l0A)) a0A))) (Q (nE a0L (.seq (.seq r0l (.cond _ .skip (.exit 0))) (.seq (.block 1 (.seq r0m (.cond _ r0n .skip))) l0B))) (Q (nE b0v (.seq r0s (.seq (.seq r0t (.block 2 l0C)) b0w))) (Q (nE a0B (.seq (.seq r0u (.cond _ .skip (.exit 2))) (.seq (.block 3 (.seq r0v (.seq r0w (.cond _ r0x .skip)))) l0D))) (Q (nE b0x (.seq (.seq r0z (.cond _ .skip (.exit 4))) (.seq (.block 5 r0A) r0B))) (Q @b0d.eq_1 (Q @b0e.eq_1 (Q @c0s.eq_1 (Q @j0y.eq_1 (Q @j0z.eq_1 (Q @n0j.eq_1 hA))))))))))))))))))))))))))))))))))))))))))))))))))))))))))))
theorem v0h(s0:Bs)(m4 i5:Int)(sl:Sl)(_:sl 0=vd (dS s0))(_:sl 4=vd (dI m4))(_:sl 5=vd (dI i5)):
  stepE (e0p mm) (loopK 0 j0y (dn (E0 mm) 103 0 l0B sl []))=(d0s s0 m4 i5).map (sm b0d l0v):=by
 unfold d0s;exact go (Q (rx l0B) w0p) trivial
def f0z(s0:Bs)(m4 year7:Int)(h8 min9:Int)(sec10 d11 y12:Int):Option ((Bs×Int×Int×Int×Int×Int×Int×Int) ⊕ l0z):=
 some (.inl (s0,m4,year7,h8,min9,sec10,d11,(w64 (y12+1))))
theorem v0k(s0:Bs)(m4 year7:Int)(h8 min9:Int)(sec10 d11 y12:Int)(sl:Sl)(_:sl 0=vd (dS s0))(_:sl 4=vd (dI m4))(_:sl 7=vd (dI year7))(_:sl 8=vd (dI h8))(_:sl 9=vd (dI min9))(_:sl 10=vd (dI sec10))(_:sl 11=vd (dU d11))(_:sl 12=vd (dI y12)):
  stepE (e0q mm) (loopK 0 j0z (dn (E0 mm) 103 0 l0D sl []))=(f0z s0 m4 year7 h8 min9 sec10 d11 y12).map (sm b0e l0v):=by
 unfold f0z;exact go (Q (rx l0D) w0p) trivial
def d0u(s0:Bs)(h8 min9:Int)(sec10 d11:Int):Option l0z:=
 (S0g d11).bind fun yr48=>
  (bnd 3 s0.length).bind fun yk50=>
   if (yr48==(s0.take yk50))=true then
    some ((wu64 ((wu64 (86400*d11))+(wu64 (w64 ((w64 ((w64 (3600*h8))+(w64 (60*min9))))+sec10))))),(0:Int))
   else
    some ((0:Int),(5:Int))
theorem v0m(s0:Bs)(h8 min9:Int)(sec10 d11:Int)(sl:Sl)(_:sl 0=vd (dS s0))(_:sl 8=vd (dI h8))(_:sl 9=vd (dI min9))(_:sl 10=vd (dI sec10))(_:sl 11=vd (dU d11)):
  b103 mm (dn (E0 mm) 103 0 b0y sl [])=(d0u s0 h8 min9 sec10 d11).map l0v:=by
 unfold d0u;exact go (Q (nE b0y (.seq (.seq r0C (.cond _ (.seq r0D .ret) .skip)) (.seq r0E .ret))) w0p) trivial
def j0h(s0:Bs)(m4 year7:Int)(h8 min9:Int)(sec10 d11 i13:Int):Option ((Bs×Int×Int×Int×Int×Int×Int×Int) ⊕ l0z):=
 if (decide (i13<m4))=true then
  (M0p year7 i13).bind fun yr46=>
   some (.inl (s0,m4,year7,h8,min9,sec10,(wu64 (d11+(wu64 yr46))),(w64 (i13+1))))
 else
  (d0u s0 h8 min9 sec10 d11).map .inr
theorem x0y(s0:Bs)(m4 year7:Int)(h8 min9:Int)(sec10 d11 i13:Int):
  stepE (h0K mm) (lp (E0 mm) 103 0 b0x n0j (c0s (s0,m4,year7,h8,min9,sec10,d11,i13)))=(j0h s0 m4 year7 h8 min9 sec10 d11 i13).map (sm c0s l0v):=by
 unfold j0h;exact go w0p @v0m
def j0b(s0:Bs)(m4 year7:Int)(h8 min9:Int)(sec10 d11 i13:Int):Option l0z:=iter (fun x:(Bs×Int×Int×Int×Int×Int×Int×Int)=>j0h x.1 x.2.1 x.2.2.1 x.2.2.2.1 x.2.2.2.2.1 x.2.2.2.2.2.1 x.2.2.2.2.2.2.1 x.2.2.2.2.2.2.2) (s0,m4,year7,h8,min9,sec10,d11,i13)
theorem w0s(s0:Bs)(m4 year7:Int)(h8 min9:Int)(sec10 d11 i13:Int):(h0K mm) (itW (lp (E0 mm) 103 0 b0x n0j) (c0s (s0,m4,year7,h8,min9,sec10,d11,i13)))=(j0b s0 m4 year7 h8 min9 sec10 d11 i13).map l0v:=
 it_sim (K:=(h0K mm)) rfl (enc:=c0s) (fun x=>x0y x.1 x.2.1 x.2.2.1 x.2.2.2.1 x.2.2.2.2.1 x.2.2.2.2.2.1 x.2.2.2.2.2.2.1 x.2.2.2.2.2.2.2) (s0,m4,year7,h8,min9,sec10,d11,i13)
def f0A(s0:Bs)(m4 year7:Int)(h8 min9:Int)(sec10 d11:Int):Option l0z:=
 j0b s0 m4 year7 h8 min9 sec10 d11 (0:Int)
theorem v0l(s0:Bs)(m4 year7:Int)(h8 min9:Int)(sec10 d11:Int)(sl:Sl)(_:sl 0=vd (dS s0))(_:sl 4=vd (dI m4))(_:sl 7=vd (dI year7))(_:sl 8=vd (dI h8))(_:sl 9=vd (dI min9))(_:sl 10=vd (dI sec10))(_:sl 11=vd (dU d11)):
  b103 mm (dn (E0 mm) 103 0 b0w sl [])=(f0A s0 m4 year7 h8 min9 sec10 d11).map l0v:=by
 unfold f0A;exact go (Q (nE b0w (.seq (.seq r0y (.block 4 l0E)) b0y)) w0p) @w0s
def j0g(s0:Bs)(m4 year7:Int)(h8 min9:Int)(sec10 d11 y12:Int):Option ((Bs×Int×Int×Int×Int×Int×Int×Int) ⊕ l0z):=
 if (decide (y12<year7))=true then
  (M0q y12).bind fun yr42=>
   if yr42=true then
    f0z s0 m4 year7 h8 min9 sec10 (wu64 ((wu64 (d11+365))+1)) y12
   else
    f0z s0 m4 year7 h8 min9 sec10 (wu64 (d11+365)) y12
 else
  (f0A s0 m4 year7 h8 min9 sec10 d11).map .inr
theorem x0x(s0:Bs)(m4 year7:Int)(h8 min9:Int)(sec10 d11 y12:Int):
  stepE (e0q mm) (lp (E0 mm) 103 0 a0B j0z (b0e (s0,m4,year7,h8,min9,sec10,d11,y12)))=(j0g s0 m4 year7 h8 min9 sec10 d11 y12).map (sm b0e l0v):=by
 unfold j0g;exact go w0p (Q @v0k @v0l)
def j0a(s0:Bs)(m4 year7:Int)(h8 min9:Int)(sec10 d11 y12:Int):Option l0z:=iter (fun x:(Bs×Int×Int×Int×Int×Int×Int×Int)=>j0g x.1 x.2.1 x.2.2.1 x.2.2.2.1 x.2.2.2.2.1 x.2.2.2.2.2.1 x.2.2.2.2.2.2.1 x.2.2.2.2.2.2.2) (s0,m4,year7,h8,min9,sec10,d11,y12)
theorem w0r(s0:Bs)(m4 year7:Int)(h8 min9:Int)(sec10 d11 y12:Int):(e0q mm) (itW (lp (E0 mm) 103 0 a0B j0z) (b0e (s0,m4,year7,h8,min9,sec10,d11,y12)))=(j0a s0 m4 year7 h8 min9 sec10 d11 y12).map l0v:=
 it_sim (K:=(e0q mm)) rfl (enc:=b0e) (fun x=>x0x x.1 x.2.1 x.2.2.1 x.2.2.2.1 x.2.2.2.2.1 x.2.2.2.2.2.1 x.2.2.2.2.2.2.1 x.2.2.2.2.2.2.2) (s0,m4,year7,h8,min9,sec10,d11,y12)
def a0k(s0:Bs)(m4 day6:Int)(year7 h8:Int)(min9 sec10:Int)(t112:Bool):Option l0z:=
 if t112=true then
  some ((0:Int),(5:Int))
 else
  j0a s0 m4 year7 h8 min9 sec10 (wu64 (w64 (day6 - 1))) (1970:Int)
theorem v0j(s0:Bs)(m4 day6:Int)(year7 h8:Int)(min9 sec10:Int)(t112:Bool)(sl:Sl)(_:sl 0=vd (dS s0))(_:sl 4=vd (dI m4))(_:sl 6=vd (dI day6))(_:sl 7=vd (dI year7))(_:sl 8=vd (dI h8))(_:sl 9=vd (dI min9))(_:sl 10=vd (dI sec10))(_:sl 112=vd (dB t112)):
  b103 mm (sq (E0 mm) 103 0 b0v (dn (E0 mm) 103 0 i0d sl []))=(a0k s0 m4 day6 year7 h8 min9 sec10 t112).map l0v:=by
 unfold a0k;exact go (Q (nE i0d (.cond _ (.seq r0r .ret) .skip)) w0p) @w0r
def a0W(s0:Bs)(m4:Int):Option l0z:=
 (l0w s0 (5:Int) (2:Int)).bind fun yr29=>
  (l0w s0 (12:Int) (4:Int)).bind fun yr31=>
   (l0w s0 (17:Int) (2:Int)).bind fun yr33=>
    (l0w s0 (20:Int) (2:Int)).bind fun yr35=>
     (l0w s0 (23:Int) (2:Int)).bind fun yr37=>
      if (decide (m4<0))=true then
       a0k s0 m4 yr29 yr31 yr33 yr35 yr37 true
      else
       if (decide (yr31<1970))=true then
        a0k s0 m4 yr29 yr31 yr33 yr35 yr37 true
       else
        if (decide (yr29<1))=true then
         a0k s0 m4 yr29 yr31 yr33 yr35 yr37 true
        else
         (M0p yr31 m4).bind fun yr55=>
          if (decide (yr55<yr29))=true then
           a0k s0 m4 yr29 yr31 yr33 yr35 yr37 true
          else
           if (decide (yr33<0))=true then
            a0k s0 m4 yr29 yr31 yr33 yr35 yr37 true
           else
            if (decide (23<yr33))=true then
             a0k s0 m4 yr29 yr31 yr33 yr35 yr37 true
            else
             if (decide (yr35<0))=true then
              a0k s0 m4 yr29 yr31 yr33 yr35 yr37 true
             else
              if (decide (59<yr35))=true then
               a0k s0 m4 yr29 yr31 yr33 yr35 yr37 true
              else
               if (decide (yr37<0))=true then
                a0k s0 m4 yr29 yr31 yr33 yr35 yr37 true
               else
                a0k s0 m4 yr29 yr31 yr33 yr35 yr37 (decide (59<yr37))
theorem v0i(s0:Bs)(m4:Int)(sl:Sl)(_:sl 0=vd (dS s0))(_:sl 4=vd (dI m4)):
  b103 mm (dn (E0 mm) 103 0 a0A sl [])=(a0W s0 m4).map l0v:=by
 unfold a0W;exact go (Q (nE a0A (.seq r0o (.seq r0p (.seq (.seq r0q i0d) b0v)))) w0p) @v0j
def f0Z(s0:Bs)(m4 i5:Int):Option ((Bs×Int×Int) ⊕ l0z):=
 if (decide (i5<12))=true then
  (S0d i5).bind fun yr22=>
   (bnd 11 s0.length).bind fun yk24=>
    (bnd 8 yk24).bind fun yk26=>
     if (yr22==((s0.take yk24).drop yk26))=true then
      d0s s0 i5 i5
     else
      d0s s0 m4 i5
 else
  (a0W s0 m4).map .inr
theorem x0w(s0:Bs)(m4 i5:Int):
  stepE (e0p mm) (lp (E0 mm) 103 0 a0L j0y (b0d (s0,m4,i5)))=(f0Z s0 m4 i5).map (sm b0d l0v):=by
 unfold f0Z;exact go w0p (Q @v0h @v0i)
def b0a(s0:Bs)(m4 i5:Int):Option l0z:=iter (fun x:(Bs×Int×Int)=>f0Z x.1 x.2.1 x.2.2) (s0,m4,i5)
theorem w0q(s0:Bs)(m4 i5:Int):(e0p mm) (itW (lp (E0 mm) 103 0 a0L j0y) (b0d (s0,m4,i5)))=(b0a s0 m4 i5).map l0v:=
 it_sim (K:=(e0p mm)) rfl (enc:=b0d) (fun x=>x0w x.1 x.2.1 x.2.2) (s0,m4,i5)
def a0H(s0:Bs)(t51:Bool):Option l0z:=
 if t51=true then
  some ((0:Int),(5:Int))
 else
  b0a s0 (-1:Int) (0:Int)
theorem z0e(s0:Bs)(t51:Bool)(sl:Sl)(_:sl 0=vd (dS s0))(_:sl 51=vd (dB t51)):
  b103 mm (sq (E0 mm) 103 0 b0u (dn (E0 mm) 103 0 n0v sl []))=(a0H s0 t51).map l0v:=by
 unfold a0H;exact go (Q (nE n0v (.cond _ (.seq C0h .ret) .skip)) w0p) @w0q
def g0y(s:Bs):Option l0z:=
 if ((s.length:Int)==29)=true then
  (bnd 5 s.length).bind fun yk3=>
   (bnd 3 yk3).bind fun yk5=>
    if (((s.take yk3).drop yk5)==([44,32]:Bs))=true then
     if (7:Int)<(s.length:Int) then
      if ((s.getD 7 0)==(32:UInt8))=true then
       if (11:Int)<(s.length:Int) then
        if ((s.getD 11 0)==(32:UInt8))=true then
         if (16:Int)<(s.length:Int) then
          if ((s.getD 16 0)==(32:UInt8))=true then
           if (19:Int)<(s.length:Int) then
            if ((s.getD 19 0)==(58:UInt8))=true then
             if (22:Int)<(s.length:Int) then
              if ((s.getD 22 0)==(58:UInt8))=true then
               (bnd 25 s.length).bind fun yk18=>
                a0H s (!((s.drop yk18)==([32,71,77,84]:Bs)))
              else
               a0H s true
             else none
            else
             a0H s true
           else none
          else
           a0H s true
         else none
        else
         a0H s true
       else none
      else
       a0H s true
     else none
    else
     a0H s true
 else
  a0H s true
theorem J0l(s:Bs):
  callW (E0 mm) 103 [cd (dS s)] []=(g0y s).map l0v:=by
 rw[cR g0G [.tmp 2,.tmp 3] Tryz.func103]
 unfold g0y;exact go w0p @z0e
noncomputable def k0n:Code:=bodyOf Tryz.f53
def O0i:=cA k0n
def O0j:=cA (cB k0n)
def O0k:=cA (cA (cB (cB k0n)))
def O0l:=cA (cA (cB (cA (cB (cB k0n)))))
def H0I:=cA (cB (cB (cB k0n)))
def H0J:=cA (cB (cB (cB (cB k0n))))
abbrev R53:=(Bs×Bool)
def e53(x:R53):AV×Heap:=(.tup [cd (dS x.1),cd (dB x.2)],[])
def m53(l_0:Bool)(l_1:List (Bs×Bs)):Option R53:=
 (m74 l_0 l_1 ([108,97,115,116,45,109,111,100,105,102,105,101,100]:Bs)).bind fun yr2=>
  if ((yr2.2.length:Int)==1)=true then
   if (0:Int)<(yr2.2.length:Int) then
    (g0y (yr2.2.getD 0 default)).bind fun yr7=>
     some ((yr2.2.getD 0 default),(yr7.2==0))
   else none
  else
   some (([]:Bs),false)
def k53:=Q (rx O0i) (Q (rx O0j) (Q (fun (mm:Int) (l_0:Bool) (l_1:List (Bs×Bs))=>(show callW (E0 mm) 74 [cd (.lst l_0 (enL enSS l_1)),cd (dS ([108,97,115,116,45,109,111,100,105,102,105,101,100]:Bs))] []=_ from v0f l_0 l_1 ([108,97,115,116,45,109,111,100,105,102,105,101,100]:Bs))) (Q @v0f (Q @e74.eq_1 (Q (rx O0k) (Q (rx H0I) (Q @J0l (Q @l0v.eq_1 (Q (rx H0J) (Q (rx O0l) (Q (nE k0n (.seq O0i (.seq O0j (.seq (.seq O0k (.cond _ (.seq O0l .ret) .skip)) (.seq H0I (.seq H0J .ret)))))) hA)))))))))))
theorem R0f(l_0:Bool)(l_1:List (Bs×Bs)):
  callW (E0 mm) 53 [cd (.lst l_0 (enL enSS l_1))] []=(m53 l_0 l_1).map e53:=by
 rw[cR k0n [.tmp 2,.tmp 3] Tryz.func53]
 unfold m53;exact go k53 trivial
noncomputable def j0O:Code:=bodyOf Tryz.f16
def M0L:=cA j0O
def M0M:=cA (cB j0O)
def M0N:=cA (cB (cB j0O))
def M0O:=cA (cA (cB (cB (cB j0O))))
def E0V:=cA (cB (cA (cB (cB (cB j0O)))))
def c0i:=cB (cB (cB (cB j0O)))
def u0c:=cA c0i
def u0d:=cA (cA (cB c0i))
def u0e:=cA (cB (cA (cB c0i)))
def e0U:=cB (cB c0i)
def u0f:=cA e0U
abbrev b16(mm:Int):=bodyD (E0 mm) [.tmp 2] 0 false
abbrev R16:=(Bool×List (Bs×Bs)) ⊕ (Bool×List (Bs×Bs))
def e16(x:R16):AV×Heap:=match x with
 | .inl x=>(.v (.c (.own x.1 (enL enSS x.2) 0)),[.row x.2.length (rz x.1 2)])
 | .inr x=>(vd (.lst x.1 (enL enSS x.2)),[])
def h0p(l3_0:Bool)(l3_1:List (Bs×Bs)):Option R16:=
 some (.inl (l3_0,l3_1))
def k16:=Q (rx u0f) (Q (rx u0c) (Q @R0f (Q @e53.eq_1 (Q (rx u0d) (Q (rx u0e) (Q @hd111 (Q @nv112 (Q @rw113 (Q (rx M0L) (Q (rx M0M) (Q (rx M0N) (Q @R0d (Q @e31.eq_1 (Q (rx M0O) (Q (rx E0V) (Q @hd104 (Q @nv105 (Q @rw106 (Q (nE j0O (.seq M0L (.seq M0M (.seq M0N (.seq (.seq M0O (.cond _ E0V .skip)) c0i))))) hA)))))))))))))))))))
theorem o0I(l3_0:Bool)(l3_1:List (Bs×Bs))(g0:Ob)(sl:Sl)(_:sl 3=.v (.c (.own l3_0 (enL enSS l3_1) 1))):
  b16 mm (dn (E0 mm) 16 0 e0U sl [g0,.row l3_1.length (rz l3_0 2)])=(h0p l3_0 l3_1).map e16:=by
 unfold h0p;exact go (Q (nE e0U (.seq u0f .ret)) k16) trivial
def o0H(l3_0:Bool)(l3_1:List (Bs×Bs))(h0_0:Bs)(h0_1 h0_2:Int)(h0_3_0:Bool)(h0_3_1:List (Bs×Bs))(h0_4:Int)(h0_5:Bs)(h0_6:Int)(h0_7_0:Bool)(h0_7_1:List (Bs×Bs))(h0_8_0:Bool)(h0_8_1:List UInt8):Option R16:=
 (m53 h0_7_0 h0_7_1).bind fun yr5=>
  if yr5.2=true then
   if (l3_1.length+1)*32≤140737488355328 then
    h0p false (l3_1++([(([73,102,45,77,111,100,105,102,105,101,100,45,83,105,110,99,101]:Bs),yr5.1)]:List (Bs×Bs)))
   else none
  else
   h0p l3_0 l3_1
theorem z0q(l3_0:Bool)(l3_1:List (Bs×Bs))(h0_0:Bs)(h0_1 h0_2:Int)(h0_3_0:Bool)(h0_3_1:List (Bs×Bs))(h0_4:Int)(h0_5:Bs)(h0_6:Int)(h0_7_0:Bool)(h0_7_1:List (Bs×Bs))(h0_8_0:Bool)(h0_8_1:List UInt8)(sl:Sl)(_:sl 1=.v (.c (.ptr 0 0)))(_:sl 3=.v (.c (.own l3_0 (enL enSS l3_1) 1))):
  b16 mm (dn (E0 mm) 16 0 c0i sl [.cells [.d (dS h0_0),.d (dU h0_1),.d (dU h0_2),.d (.lst h0_3_0 (enL enSS h0_3_1)),.d (dI h0_4),.d (dS h0_5),.d (dI h0_6),.d (.lst h0_7_0 (enL enSS h0_7_1)),.d (.lst h0_8_0 (enL enB h0_8_1))],.row l3_1.length (rz l3_0 2)])=(o0H l3_0 l3_1 h0_0 h0_1 h0_2 h0_3_0 h0_3_1 h0_4 h0_5 h0_6 h0_7_0 h0_7_1 h0_8_0 h0_8_1).map e16:=by
 unfold o0H;exact go (Q (nE c0i (.seq u0c (.seq (.seq u0d (.cond _ u0e .skip)) e0U))) k16) @o0I
def e0g: Option R16:=
 some (.inr (true,([]:List (Bs×Bs))))
theorem q0l(g0:Ob)(sl:Sl)(_:sl 3=vd (.lst true [])):
  b16 mm (dn (E0 mm) 16 0 e0U sl [g0])=(e0g).map e16:=by
 unfold e0g;exact go (Q (nE e0U (.seq u0f .ret)) k16) trivial
def e0f(h0_0:Bs)(h0_1 h0_2:Int)(h0_3_0:Bool)(h0_3_1:List (Bs×Bs))(h0_4:Int)(h0_5:Bs)(h0_6:Int)(h0_7_0:Bool)(h0_7_1:List (Bs×Bs))(h0_8_0:Bool)(h0_8_1:List UInt8):Option R16:=
 (m53 h0_7_0 h0_7_1).bind fun yr9=>
  if yr9.2=true then
   h0p false ([(([73,102,45,77,111,100,105,102,105,101,100,45,83,105,110,99,101]:Bs),yr9.1)]:List (Bs×Bs))
  else
   e0g
theorem q0k(h0_0:Bs)(h0_1 h0_2:Int)(h0_3_0:Bool)(h0_3_1:List (Bs×Bs))(h0_4:Int)(h0_5:Bs)(h0_6:Int)(h0_7_0:Bool)(h0_7_1:List (Bs×Bs))(h0_8_0:Bool)(h0_8_1:List UInt8)(sl:Sl)(_:sl 1=.v (.c (.ptr 0 0)))(_:sl 3=vd (.lst true [])):
  b16 mm (dn (E0 mm) 16 0 c0i sl [.cells [.d (dS h0_0),.d (dU h0_1),.d (dU h0_2),.d (.lst h0_3_0 (enL enSS h0_3_1)),.d (dI h0_4),.d (dS h0_5),.d (dI h0_6),.d (.lst h0_7_0 (enL enSS h0_7_1)),.d (.lst h0_8_0 (enL enB h0_8_1))]])=(e0f h0_0 h0_1 h0_2 h0_3_0 h0_3_1 h0_4 h0_5 h0_6 h0_7_0 h0_7_1 h0_8_0 h0_8_1).map e16:=by
 unfold e0f;exact go (Q (nE c0i (.seq u0c (.seq (.seq u0d (.cond _ u0e .skip)) e0U))) k16) (Q @o0I @q0l)
def m16(e0_0:Bs)(e0_1 e0_2:Int)(e0_3:Bool)(e0_4:List (Bs×Bs))(e0_5:Int)(e0_6:Bs)(e0_7:Int)(e0_8:Bool)(e0_9:List (Bs×Bs))(e0_10:Bool)(e0_11:List UInt8):Option R16:=
 (m31 e0_8 e0_9).bind fun yr2=>
  if yr2.2=true then
   o0H false ([(([73,102,45,78,111,110,101,45,77,97,116,99,104]:Bs),yr2.1)]:List (Bs×Bs)) e0_0 e0_1 e0_2 e0_3 e0_4 e0_5 e0_6 e0_7 e0_8 e0_9 e0_10 e0_11
  else
   e0f e0_0 e0_1 e0_2 e0_3 e0_4 e0_5 e0_6 e0_7 e0_8 e0_9 e0_10 e0_11
theorem R0b(e0_0:Bs)(e0_1 e0_2:Int)(e0_3:Bool)(e0_4:List (Bs×Bs))(e0_5:Int)(e0_6:Bs)(e0_7:Int)(e0_8:Bool)(e0_9:List (Bs×Bs))(e0_10:Bool)(e0_11:List UInt8):
  callW (E0 mm) 16 [.agg [.d (dS e0_0),.d (dU e0_1),.d (dU e0_2),.d (.lst e0_3 (enL enSS e0_4)),.d (dI e0_5),.d (dS e0_6),.d (dI e0_7),.d (.lst e0_8 (enL enSS e0_9)),.d (.lst e0_10 (enL enB e0_11))]] []=(m16 e0_0 e0_1 e0_2 e0_3 e0_4 e0_5 e0_6 e0_7 e0_8 e0_9 e0_10 e0_11).map e16:=by
 rw[cR j0O [.tmp 2] Tryz.func16]
 unfold m16;exact go k16 (Q @z0q @q0k)
noncomputable def k0a:Code:=bodyOf Tryz.f46
def N0L:=cA k0a
def N0M:=cA (cB k0a)
def N0N:=cA (cB (cB k0a))
def N0O:=cA (cA (cB (cB (cB k0a))))
def u0w:=cA (cB (cA (cB (cB (cB k0a)))))
def a0g:=cA u0w
def G0C:=cA (cA a0g)
def G0D:=cA (cA (cA (cB a0g)))
def G0E:=cA (cA (cB (cA (cA (cB a0g)))))
def G0F:=cA (cB (cB (cA (cA (cB a0g)))))
def G0G:=cA (cB (cB (cB (cA (cA (cB a0g))))))
def G0H:=cA (cA (cB (cB (cB (cB (cA (cA (cB a0g))))))))
def G0I:=cA (cB (cA (cB (cB (cB (cB (cA (cA (cB a0g)))))))))
def G0J:=cA (cB (cB (cA (cB (cB (cB (cB (cA (cA (cB a0g))))))))))
def G0K:=cA (cB (cB (cB (cA (cB (cB (cB (cB (cA (cA (cB a0g)))))))))))
def G0L:=cA (cB (cB (cB (cB (cA (cB (cB (cB (cB (cA (cA (cB a0g))))))))))))
def G0M:=cA (cB (cB (cB (cB (cB (cA (cB (cB (cB (cB (cA (cA (cB a0g)))))))))))))
def G0N:=cA (cB (cB (cB (cB (cB (cB (cA (cB (cB (cB (cB (cA (cA (cB a0g))))))))))))))
def G0O:=cA (cB (cB (cB (cB (cB (cB (cB (cA (cB (cB (cB (cB (cA (cA (cB a0g)))))))))))))))
def G0P:=cA (cA (cB (cB (cB (cB (cB (cB (cB (cB (cA (cB (cB (cB (cB (cA (cA (cB a0g)))))))))))))))))
def G0Q:=cB (cB (cA (cB (cB (cB (cB (cB (cB (cB (cB (cA (cB (cB (cB (cB (cA (cA (cB a0g))))))))))))))))))
def d0Q:=cB (cB (cB (cB (cB (cB (cB (cB (cB (cA (cB (cB (cB (cB (cA (cA (cB a0g))))))))))))))))
def G0R:=cA d0Q
def G0S:=cA (cB d0Q)
def G0T:=cA (cB (cB d0Q))
def G0U:=cA (cB (cB (cB d0Q)))
def G0V:=cA (cB (cB (cB (cB d0Q))))
def o0j:=cB (cB a0g)
def k0b:=cB (cB (cB (cB k0a)))
def G0W:=cA k0b
def p0F:List (Nat×Co):=[(2,.keep),(3,.keep),(4,.keep),(5,.keep)]
abbrev R46:=(Bool×Bool×Bool×Bool×Bool×Bool×Int×Int×Int×Int)
def e46(x:R46):AV×Heap:=(.v (.agg [.d (dB x.1),.d (dB x.2.1),.d (dB x.2.2.1),.d (dB x.2.2.2.1),.d (dB x.2.2.2.2.1),.d (dB x.2.2.2.2.2.1),.d (dI x.2.2.2.2.2.2.1),.d (dI x.2.2.2.2.2.2.2.1),.d (dI x.2.2.2.2.2.2.2.2.1),.d (dI x.2.2.2.2.2.2.2.2.2)]),[])
def a0J(all4_0:Bool)(all4_1:List Bs)(i5:Int)(h0_0 h0_1:Bool)(h0_2 h0_3:Bool)(h0_4 h0_5:Bool)(h0_6 h0_7:Int)(h0_8 h0_9:Int)(h1_0 h1_1:Bool)(h1_2 h1_3:Bool)(h1_4 h1_5:Bool)(h1_6 h1_7:Int)(h1_8 h1_9:Int):Option ((Bool×List Bs×Int×Bool×Bool×Bool×Bool×Bool×Bool×Int×Int×Int×Int×Bool×Bool×Bool×Bool×Bool×Bool×Int×Int×Int×Int) ⊕ R46):=
 some (.inl (all4_0,all4_1,(w64 (i5+1)),h0_0,h0_1,h0_2,h0_3,h0_4,h0_5,h0_6,h0_7,h0_8,h0_9,h1_0,h1_1,h1_2,h1_3,h1_4,h1_5,h1_6,h1_7,h1_8,h1_9))
def g0C(mm:Int)(r:Option (Ex×St)):Option (AV×Heap):=bodyD (E0 mm) [.cell 2 37] 0 false (sq (E0 mm) 46 0 k0b (blockD 0 (r)))
def b0P(x:(Bool×List Bs×Int×Bool×Bool×Bool×Bool×Bool×Bool×Int×Int×Int×Int×Bool×Bool×Bool×Bool×Bool×Bool×Int×Int×Int×Int)):X:=(none,[.v (.c (.ptr 0 0)),.v (.c (.ptr 1 0)),.v (.c (.own x.1 (enL enS x.2.1) 2)),vd (dI x.2.2.1)],[.cells [.d (dB x.2.2.2.1),.d (dB x.2.2.2.2.1),.d (dB x.2.2.2.2.2.1),.d (dB x.2.2.2.2.2.2.1),.d (dB x.2.2.2.2.2.2.2.1),.d (dB x.2.2.2.2.2.2.2.2.1),.d (dI x.2.2.2.2.2.2.2.2.2.1),.d (dI x.2.2.2.2.2.2.2.2.2.2.1),.d (dI x.2.2.2.2.2.2.2.2.2.2.2.1),.d (dI x.2.2.2.2.2.2.2.2.2.2.2.2.1)],.cells [.d (dB x.2.2.2.2.2.2.2.2.2.2.2.2.2.1),.d (dB x.2.2.2.2.2.2.2.2.2.2.2.2.2.2.1),.d (dB x.2.2.2.2.2.2.2.2.2.2.2.2.2.2.2.1),.d (dB x.2.2.2.2.2.2.2.2.2.2.2.2.2.2.2.2.1),.d (dB x.2.2.2.2.2.2.2.2.2.2.2.2.2.2.2.2.2.1),.d (dB x.2.2.2.2.2.2.2.2.2.2.2.2.2.2.2.2.2.2.1),.d (dI x.2.2.2.2.2.2.2.2.2.2.2.2.2.2.2.2.2.2.2.1),.d (dI x.2.2.2.2.2.2.2.2.2.2.2.2.2.2.2.2.2.2.2.2.1),.d (dI x.2.2.2.2.2.2.2.2.2.2.2.2.2.2.2.2.2.2.2.2.2.1),.d (dI x.2.2.2.2.2.2.2.2.2.2.2.2.2.2.2.2.2.2.2.2.2.2)],.row x.2.1.length (rz x.1 1)])
def k46:=Q (rx G0R) (Q (rx G0S) (Q (rx G0T) (Q @R0A (Q @e94.eq_1 (Q (rx G0U) (Q (rx G0V) (Q (rx G0W) (Q (rx G0C) (Q (rx G0D) (Q @R0y (Q @e92.eq_1 (Q (rx G0E) (Q (rx G0F) (Q @R0z (Q @e93.eq_1 (Q (rx G0G) (Q (rx G0H) (Q (rx G0I) (Q (rx G0J) (Q (rx G0K) (Q (rx G0L) (Q (rx G0M) (Q (rx G0N) (Q (rx G0O) (Q (rx G0P) (Q (rx G0Q) (Q @g0C.eq_1 (Q (rx N0L) (Q @ao114 (Q (rx N0M) (Q @ao115 (Q (rx N0N) (Q (fun (mm:Int) (l_0:Bool) (l_1:List (Bs×Bs))=>(show callW (E0 mm) 49 [cd (.lst l_0 (enL enSS l_1)),cd (dS ([99,97,99,104,101,45,99,111,110,116,114,111,108]:Bs))] []=_ from i0C l_0 l_1 ([99,97,99,104,101,45,99,111,110,116,114,111,108]:Bs))) (Q @i0C (Q @e49.eq_1 (Q (rx N0O) (Q (fun mm=>lx (E0 mm) 46 u0w a0g p0F) (Q (nE k0a (.seq N0L (.seq N0M (.seq N0N (.seq (.seq N0O (.block 0 u0w)) k0b))))) (Q (nE a0g (.seq (.seq G0C (.cond _ .skip (.exit 0))) (.seq (.block 1 (.seq G0D (.seq (.seq G0E (.cond _ (.exit 1) .skip)) (.seq G0F (.seq G0G (.block 2 (.seq G0H (.cond _ G0I (.seq G0J (.cond _ G0K (.seq G0L (.cond _ G0M (.seq G0N (.cond _ G0O (.seq (.seq G0P (.cond _ .skip G0Q)) d0Q))))))))))))))) o0j))) (Q @b0P.eq_1 (Q @p0F.eq_1 hA)))))))))))))))))))))))))))))))))))))))))
theorem o0Q(all4_0:Bool)(all4_1:List Bs)(i5:Int)(h0_0 h0_1:Bool)(h0_2 h0_3:Bool)(h0_4 h0_5:Bool)(h0_6 h0_7:Int)(h0_8 h0_9:Int)(h1_0 h1_1:Bool)(h1_2 h1_3:Bool)(h1_4 h1_5:Bool)(h1_6 h1_7:Int)(h1_8 h1_9:Int)(sl:Sl)(_:sl 2=.v (.c (.ptr 0 0)))(_:sl 3=.v (.c (.ptr 1 0)))(_:sl 4=.v (.c (.own all4_0 (enL enS all4_1) 2)))(_:sl 5=vd (dI i5)):
  stepE (g0C mm) (loopK 0 p0F (dn (E0 mm) 46 0 o0j sl [.cells [.d (dB h0_0),.d (dB h0_1),.d (dB h0_2),.d (dB h0_3),.d (dB h0_4),.d (dB h0_5),.d (dI h0_6),.d (dI h0_7),.d (dI h0_8),.d (dI h0_9)],.cells [.d (dB h1_0),.d (dB h1_1),.d (dB h1_2),.d (dB h1_3),.d (dB h1_4),.d (dB h1_5),.d (dI h1_6),.d (dI h1_7),.d (dI h1_8),.d (dI h1_9)],.row all4_1.length (rz all4_0 1)]))=(a0J all4_0 all4_1 i5 h0_0 h0_1 h0_2 h0_3 h0_4 h0_5 h0_6 h0_7 h0_8 h0_9 h1_0 h1_1 h1_2 h1_3 h1_4 h1_5 h1_6 h1_7 h1_8 h1_9).map (sm b0P e46):=by
 unfold a0J;exact go (Q (rx o0j) k46) trivial
def k0W(all4_0:Bool)(all4_1:List Bs)(i5 n9:Int)(t32:Bs)(t45 h0_0:Bool)(h0_1 h0_2:Bool)(h0_3 h0_4 h0_5:Bool)(h0_6 h0_7:Int)(h0_8 h0_9:Int)(h1_0 h1_1:Bool)(h1_2 h1_3:Bool)(h1_4 h1_5:Bool)(h1_6 h1_7:Int)(h1_8 h1_9:Int):Option ((Bool×List Bs×Int×Bool×Bool×Bool×Bool×Bool×Bool×Int×Int×Int×Int×Bool×Bool×Bool×Bool×Bool×Bool×Int×Int×Int×Int) ⊕ R46):=
 if t45=true then
  a0J all4_0 all4_1 i5 h0_0 h0_1 h0_2 h0_3 h0_4 h0_5 h0_6 h0_7 h0_8 h0_9 h1_0 h1_1 h1_2 h1_3 true h1_5 h1_6 h1_7 h1_8 h1_9
 else
  if (t32==([109,97,120,45,97,103,101]:Bs))=true then
   (m94 h1_6 n9).bind fun yr19=>
    a0J all4_0 all4_1 i5 h0_0 h0_1 h0_2 h0_3 h0_4 h0_5 h0_6 h0_7 h0_8 h0_9 h1_0 h1_1 h1_2 h1_3 h1_4 h1_5 yr19 h1_7 h1_8 h1_9
  else
   if (t32==([115,45,109,97,120,97,103,101]:Bs))=true then
    (m94 h1_7 n9).bind fun yr22=>
     a0J all4_0 all4_1 i5 h0_0 h0_1 h0_2 h0_3 h0_4 h0_5 h0_6 h0_7 h0_8 h0_9 h1_0 h1_1 h1_2 h1_3 h1_4 h1_5 h1_6 yr22 h1_8 h1_9
   else
    a0J all4_0 all4_1 i5 h0_0 h0_1 h0_2 h0_3 h0_4 h0_5 h0_6 h0_7 h0_8 h0_9 h1_0 h1_1 h1_2 h1_3 h1_4 h1_5 h1_6 h1_7 h1_8 h1_9
theorem z0L(all4_0:Bool)(all4_1:List Bs)(i5 n9:Int)(t32:Bs)(t45 h0_0:Bool)(h0_1 h0_2:Bool)(h0_3 h0_4 h0_5:Bool)(h0_6 h0_7:Int)(h0_8 h0_9:Int)(h1_0 h1_1:Bool)(h1_2 h1_3:Bool)(h1_4 h1_5:Bool)(h1_6 h1_7:Int)(h1_8 h1_9:Int)(sl:Sl)(_:sl 2=.v (.c (.ptr 0 0)))(_:sl 3=.v (.c (.ptr 1 0)))(_:sl 4=.v (.c (.own all4_0 (enL enS all4_1) 2)))(_:sl 5=vd (dI i5))(_:sl 9=vd (dI n9))(_:sl 32=vd (dS t32))(_:sl 45=vd (dB t45)):
  stepE (g0C mm) (loopK 0 p0F (sq (E0 mm) 46 0 o0j (blockD 1 (blockD 2 (dn (E0 mm) 46 0 d0Q sl [.cells [.d (dB h0_0),.d (dB h0_1),.d (dB h0_2),.d (dB h0_3),.d (dB h0_4),.d (dB h0_5),.d (dI h0_6),.d (dI h0_7),.d (dI h0_8),.d (dI h0_9)],.cells [.d (dB h1_0),.d (dB h1_1),.d (dB h1_2),.d (dB h1_3),.d (dB h1_4),.d (dB h1_5),.d (dI h1_6),.d (dI h1_7),.d (dI h1_8),.d (dI h1_9)],.row all4_1.length (rz all4_0 1)])))))=(k0W all4_0 all4_1 i5 n9 t32 t45 h0_0 h0_1 h0_2 h0_3 h0_4 h0_5 h0_6 h0_7 h0_8 h0_9 h1_0 h1_1 h1_2 h1_3 h1_4 h1_5 h1_6 h1_7 h1_8 h1_9).map (sm b0P e46):=by
 unfold k0W;exact go (Q (nE d0Q (.cond _ G0R (.seq G0S (.cond _ G0T (.seq G0U (.cond _ G0V .skip)))))) k46) @o0Q
def o0R(h0_0 h0_1:Bool)(h0_2 h0_3:Bool)(h0_4 h0_5:Bool)(h0_6 h0_7:Int)(h0_8 h0_9:Int)(h1_0 h1_1:Bool)(h1_2 h1_3:Bool)(h1_4 h1_5:Bool)(h1_6 h1_7:Int)(h1_8 h1_9:Int):Option R46:=
 some (h1_0,h1_1,h1_2,h1_3,h1_4,h1_5,h1_6,h1_7,h1_8,h1_9)
theorem z0M(h0_0 h0_1:Bool)(h0_2 h0_3:Bool)(h0_4 h0_5:Bool)(h0_6 h0_7:Int)(h0_8 h0_9:Int)(h1_0 h1_1:Bool)(h1_2 h1_3:Bool)(h1_4 h1_5:Bool)(h1_6 h1_7:Int)(h1_8 h1_9:Int)(g2:Ob)(sl:Sl)(_:sl 2=.v (.c (.ptr 0 0)))(_:sl 3=.v (.c (.ptr 1 0))):
  bodyD (E0 mm) [.cell 2 37] 0 false (dn (E0 mm) 46 0 k0b sl [.cells [.d (dB h0_0),.d (dB h0_1),.d (dB h0_2),.d (dB h0_3),.d (dB h0_4),.d (dB h0_5),.d (dI h0_6),.d (dI h0_7),.d (dI h0_8),.d (dI h0_9)],.cells [.d (dB h1_0),.d (dB h1_1),.d (dB h1_2),.d (dB h1_3),.d (dB h1_4),.d (dB h1_5),.d (dI h1_6),.d (dI h1_7),.d (dI h1_8),.d (dI h1_9)],g2])=(o0R h0_0 h0_1 h0_2 h0_3 h0_4 h0_5 h0_6 h0_7 h0_8 h0_9 h1_0 h1_1 h1_2 h1_3 h1_4 h1_5 h1_6 h1_7 h1_8 h1_9).map e46:=by
 unfold o0R;exact go (Q (nE k0b (.seq G0W .ret)) k46) trivial
def g0l(all4_0:Bool)(all4_1:List Bs)(i5:Int)(h0_0 h0_1:Bool)(h0_2 h0_3:Bool)(h0_4 h0_5:Bool)(h0_6 h0_7:Int)(h0_8 h0_9:Int)(h1_0 h1_1:Bool)(h1_2 h1_3:Bool)(h1_4 h1_5:Bool)(h1_6 h1_7:Int)(h1_8 h1_9:Int):Option ((Bool×List Bs×Int×Bool×Bool×Bool×Bool×Bool×Bool×Int×Int×Int×Int×Bool×Bool×Bool×Bool×Bool×Bool×Int×Int×Int×Int) ⊕ R46):=
 if (decide (i5<(all4_1.length:Int)))=true then
  if 0≤i5∧i5<(all4_1.length:Int) then
   (m92 (all4_1.getD i5.toNat default)).bind fun yr7=>
    if yr7.2.2=true then
     (m93 yr7.2.1).bind fun yr10=>
      if (yr7.1==([110,111,45,115,116,111,114,101]:Bs))=true then
       a0J all4_0 all4_1 i5 h0_0 h0_1 h0_2 h0_3 h0_4 h0_5 h0_6 h0_7 h0_8 h0_9 true h1_1 h1_2 h1_3 h1_4 h1_5 h1_6 h1_7 h1_8 h1_9
      else
       if (yr7.1==([110,111,45,99,97,99,104,101]:Bs))=true then
        a0J all4_0 all4_1 i5 h0_0 h0_1 h0_2 h0_3 h0_4 h0_5 h0_6 h0_7 h0_8 h0_9 h1_0 true h1_2 h1_3 h1_4 h1_5 h1_6 h1_7 h1_8 h1_9
       else
        if (yr7.1==([112,114,105,118,97,116,101]:Bs))=true then
         a0J all4_0 all4_1 i5 h0_0 h0_1 h0_2 h0_3 h0_4 h0_5 h0_6 h0_7 h0_8 h0_9 h1_0 h1_1 true h1_3 h1_4 h1_5 h1_6 h1_7 h1_8 h1_9
        else
         if (yr7.1==([112,117,98,108,105,99]:Bs))=true then
          a0J all4_0 all4_1 i5 h0_0 h0_1 h0_2 h0_3 h0_4 h0_5 h0_6 h0_7 h0_8 h0_9 h1_0 h1_1 h1_2 true h1_4 h1_5 h1_6 h1_7 h1_8 h1_9
         else
          if (yr7.1==([109,117,115,116,45,114,101,118,97,108,105,100,97,116,101]:Bs))=true then
           k0W all4_0 all4_1 i5 yr10 yr7.1 true h0_0 h0_1 h0_2 h0_3 h0_4 h0_5 h0_6 h0_7 h0_8 h0_9 h1_0 h1_1 h1_2 h1_3 h1_4 h1_5 h1_6 h1_7 h1_8 h1_9
          else
           k0W all4_0 all4_1 i5 yr10 yr7.1 (yr7.1==([112,114,111,120,121,45,114,101,118,97,108,105,100,97,116,101]:Bs)) h0_0 h0_1 h0_2 h0_3 h0_4 h0_5 h0_6 h0_7 h0_8 h0_9 h1_0 h1_1 h1_2 h1_3 h1_4 h1_5 h1_6 h1_7 h1_8 h1_9
    else
     a0J all4_0 all4_1 i5 h0_0 h0_1 h0_2 h0_3 h0_4 h0_5 h0_6 h0_7 h0_8 h0_9 h1_0 h1_1 h1_2 h1_3 h1_4 h1_5 h1_6 h1_7 h1_8 h1_9
  else none
 else
  (o0R h0_0 h0_1 h0_2 h0_3 h0_4 h0_5 h0_6 h0_7 h0_8 h0_9 h1_0 h1_1 h1_2 h1_3 h1_4 h1_5 h1_6 h1_7 h1_8 h1_9).map .inr
theorem B0I(all4_0:Bool)(all4_1:List Bs)(i5:Int)(h0_0 h0_1:Bool)(h0_2 h0_3:Bool)(h0_4 h0_5:Bool)(h0_6 h0_7:Int)(h0_8 h0_9:Int)(h1_0 h1_1:Bool)(h1_2 h1_3:Bool)(h1_4 h1_5:Bool)(h1_6 h1_7:Int)(h1_8 h1_9:Int):
  stepE (g0C mm) (lp (E0 mm) 46 0 a0g p0F (b0P (all4_0,all4_1,i5,h0_0,h0_1,h0_2,h0_3,h0_4,h0_5,h0_6,h0_7,h0_8,h0_9,h1_0,h1_1,h1_2,h1_3,h1_4,h1_5,h1_6,h1_7,h1_8,h1_9)))=(g0l all4_0 all4_1 i5 h0_0 h0_1 h0_2 h0_3 h0_4 h0_5 h0_6 h0_7 h0_8 h0_9 h1_0 h1_1 h1_2 h1_3 h1_4 h1_5 h1_6 h1_7 h1_8 h1_9).map (sm b0P e46):=by
 unfold g0l;exact go k46 (Q @o0Q (Q @z0L @z0M))
def J0B(all4_0:Bool)(all4_1:List Bs)(i5:Int)(h0_0 h0_1:Bool)(h0_2 h0_3:Bool)(h0_4 h0_5:Bool)(h0_6 h0_7:Int)(h0_8 h0_9:Int)(h1_0 h1_1:Bool)(h1_2 h1_3:Bool)(h1_4 h1_5:Bool)(h1_6 h1_7:Int)(h1_8 h1_9:Int):Option R46:=iter (fun x:(Bool×List Bs×Int×Bool×Bool×Bool×Bool×Bool×Bool×Int×Int×Int×Int×Bool×Bool×Bool×Bool×Bool×Bool×Int×Int×Int×Int)=>g0l x.1 x.2.1 x.2.2.1 x.2.2.2.1 x.2.2.2.2.1 x.2.2.2.2.2.1 x.2.2.2.2.2.2.1 x.2.2.2.2.2.2.2.1 x.2.2.2.2.2.2.2.2.1 x.2.2.2.2.2.2.2.2.2.1 x.2.2.2.2.2.2.2.2.2.2.1 x.2.2.2.2.2.2.2.2.2.2.2.1 x.2.2.2.2.2.2.2.2.2.2.2.2.1 x.2.2.2.2.2.2.2.2.2.2.2.2.2.1 x.2.2.2.2.2.2.2.2.2.2.2.2.2.2.1 x.2.2.2.2.2.2.2.2.2.2.2.2.2.2.2.1 x.2.2.2.2.2.2.2.2.2.2.2.2.2.2.2.2.1 x.2.2.2.2.2.2.2.2.2.2.2.2.2.2.2.2.2.1 x.2.2.2.2.2.2.2.2.2.2.2.2.2.2.2.2.2.2.1 x.2.2.2.2.2.2.2.2.2.2.2.2.2.2.2.2.2.2.2.1 x.2.2.2.2.2.2.2.2.2.2.2.2.2.2.2.2.2.2.2.2.1 x.2.2.2.2.2.2.2.2.2.2.2.2.2.2.2.2.2.2.2.2.2.1 x.2.2.2.2.2.2.2.2.2.2.2.2.2.2.2.2.2.2.2.2.2.2) (all4_0,all4_1,i5,h0_0,h0_1,h0_2,h0_3,h0_4,h0_5,h0_6,h0_7,h0_8,h0_9,h1_0,h1_1,h1_2,h1_3,h1_4,h1_5,h1_6,h1_7,h1_8,h1_9)
theorem A0W(all4_0:Bool)(all4_1:List Bs)(i5:Int)(h0_0 h0_1:Bool)(h0_2 h0_3:Bool)(h0_4 h0_5:Bool)(h0_6 h0_7:Int)(h0_8 h0_9:Int)(h1_0 h1_1:Bool)(h1_2 h1_3:Bool)(h1_4 h1_5:Bool)(h1_6 h1_7:Int)(h1_8 h1_9:Int):(g0C mm) (itW (lp (E0 mm) 46 0 a0g p0F) (b0P (all4_0,all4_1,i5,h0_0,h0_1,h0_2,h0_3,h0_4,h0_5,h0_6,h0_7,h0_8,h0_9,h1_0,h1_1,h1_2,h1_3,h1_4,h1_5,h1_6,h1_7,h1_8,h1_9)))=(J0B all4_0 all4_1 i5 h0_0 h0_1 h0_2 h0_3 h0_4 h0_5 h0_6 h0_7 h0_8 h0_9 h1_0 h1_1 h1_2 h1_3 h1_4 h1_5 h1_6 h1_7 h1_8 h1_9).map e46:=
 it_sim (K:=(g0C mm)) rfl (enc:=b0P) (fun x=>B0I x.1 x.2.1 x.2.2.1 x.2.2.2.1 x.2.2.2.2.1 x.2.2.2.2.2.1 x.2.2.2.2.2.2.1 x.2.2.2.2.2.2.2.1 x.2.2.2.2.2.2.2.2.1 x.2.2.2.2.2.2.2.2.2.1 x.2.2.2.2.2.2.2.2.2.2.1 x.2.2.2.2.2.2.2.2.2.2.2.1 x.2.2.2.2.2.2.2.2.2.2.2.2.1 x.2.2.2.2.2.2.2.2.2.2.2.2.2.1 x.2.2.2.2.2.2.2.2.2.2.2.2.2.2.1 x.2.2.2.2.2.2.2.2.2.2.2.2.2.2.2.1 x.2.2.2.2.2.2.2.2.2.2.2.2.2.2.2.2.1 x.2.2.2.2.2.2.2.2.2.2.2.2.2.2.2.2.2.1 x.2.2.2.2.2.2.2.2.2.2.2.2.2.2.2.2.2.2.1 x.2.2.2.2.2.2.2.2.2.2.2.2.2.2.2.2.2.2.2.1 x.2.2.2.2.2.2.2.2.2.2.2.2.2.2.2.2.2.2.2.2.1 x.2.2.2.2.2.2.2.2.2.2.2.2.2.2.2.2.2.2.2.2.2.1 x.2.2.2.2.2.2.2.2.2.2.2.2.2.2.2.2.2.2.2.2.2.2) (all4_0,all4_1,i5,h0_0,h0_1,h0_2,h0_3,h0_4,h0_5,h0_6,h0_7,h0_8,h0_9,h1_0,h1_1,h1_2,h1_3,h1_4,h1_5,h1_6,h1_7,h1_8,h1_9)
def m46(l_0:Bool)(l_1:List (Bs×Bs)):Option R46:=
 (m49 l_0 l_1 ([99,97,99,104,101,45,99,111,110,116,114,111,108]:Bs)).bind fun yr2=>
  J0B yr2.1 yr2.2 (0:Int) false false false false false false (0:Int) (0:Int) (0:Int) (0:Int) false false false false false false (-1:Int) (-1:Int) (-1:Int) (-1:Int)
theorem R0e(l_0:Bool)(l_1:List (Bs×Bs)):
  callW (E0 mm) 46 [cd (.lst l_0 (enL enSS l_1))] []=(m46 l_0 l_1).map e46:=by
 rw[cR k0a [.cell 2 37] Tryz.func46]
 unfold m46;exact go k46 @A0W
noncomputable def p0Y:Code:=bodyOf Tryz.f97
def P0Z:=cA p0Y
def Q0a:=cA (cA (cB p0Y))
def Q0b:=cA (cA (cB (cA (cB p0Y))))
def J0e:=cA (cB (cB p0Y))
abbrev R97:=(Int)
def e97(x:R97):AV×Heap:=(vd (dU x),[])
def m97(a b:Int):Option R97:=
 if (decide (a<b))=true then
  some a
 else
  some b
def k97:=Q (rx P0Z) (Q (rx Q0a) (Q (rx Q0b) (Q (rx J0e) (Q (nE p0Y (.seq P0Z (.seq (.seq Q0a (.cond _ (.seq Q0b .ret) .skip)) (.seq J0e .ret)))) hA))))
theorem U0t(a b:Int):
  callW (E0 mm) 97 [cd (dU a),cd (dU b)] []=(m97 a b).map e97:=by
 rw[cR p0Y [.tmp 4] Tryz.func97]
 unfold m97;exact go k97 trivial
noncomputable def m0p:Code:=bodyOf Tryz.f99
def Q0e:=cA m0p
def Q0f:=cA (cB m0p)
def Q0g:=cA (cA (cB (cB m0p)))
def K0u:=cA (cB (cA (cB (cB m0p))))
def k0E:=cA K0u
def J0f:=cA (cA k0E)
def J0g:=cA (cA (cA (cB k0E)))
def J0h:=cA (cB (cA (cA (cB k0E))))
def u0Q:=cB (cB k0E)
def k0D:=cB (cB (cB m0p))
def J0i:=cA k0D
def q0X:List (Nat×Co):=[(1,.keep),(2,.keep),(5,.own),(6,.keep)]
abbrev R99:=(Bool×List Bs)
def e99(x:R99):AV×Heap:=(.v (.c (.own x.1 (enL enS x.2) 0)),[.row x.2.length (rz x.1 1)])
def l0g(name1:Bs)(out5_0:Bool)(out5_1:List Bs)(i6 h0_0:Int)(h0_1:Bs)(h0_2:Int)(h0_3_0:Bool)(h0_3_1:List (Bs×Bs))(h0_4_0:Bool)(h0_4_1:List UInt8):Option ((Bs×Bool×List Bs×Int×Int×Bs×Int×Bool×List (Bs×Bs)×Bool×List UInt8) ⊕ R99):=
 some (.inl (name1,out5_0,out5_1,(w64 (i6+1)),h0_0,h0_1,h0_2,h0_3_0,h0_3_1,h0_4_0,h0_4_1))
def q0N(mm:Int)(r:Option (Ex×St)):Option (AV×Heap):=bodyD (E0 mm) [.tmp 4] 0 false (sq (E0 mm) 99 0 k0D (blockD 0 (r)))
def h0l(x:(Bs×Bool×List Bs×Int×Int×Bs×Int×Bool×List (Bs×Bs)×Bool×List UInt8)):X:=(none,[vd (dS x.1),.v (.c (.ptr 0 0)),.v (.c (.own x.2.1 (enL enS x.2.2.1) 1)),vd (dI x.2.2.2.1)],[.cells [.d (dI x.2.2.2.2.1),.d (dS x.2.2.2.2.2.1),.d (dI x.2.2.2.2.2.2.1),.d (.lst x.2.2.2.2.2.2.2.1 (enL enSS x.2.2.2.2.2.2.2.2.1)),.d (.lst x.2.2.2.2.2.2.2.2.2.1 (enL enB x.2.2.2.2.2.2.2.2.2.2))],.row x.2.2.1.length (rz x.2.1 1)])
def k99:=Q (rx J0i) (Q (rx J0f) (Q (rx J0g) (Q @v0g (Q @e95.eq_1 (Q (rx J0h) (Q @hd118 (Q @nv119 (Q @rw120 (Q @q0N.eq_1 (Q (rx Q0e) (Q (rx Q0f) (Q (rx Q0g) (Q (fun mm=>lx (E0 mm) 99 K0u k0E q0X) (Q (nE m0p (.seq Q0e (.seq Q0f (.seq (.seq Q0g (.block 0 K0u)) k0D)))) (Q (nE k0E (.seq (.seq J0f (.cond _ .skip (.exit 0))) (.seq (.block 1 (.seq J0g (.cond _ J0h .skip))) u0Q))) (Q @h0l.eq_1 (Q @q0X.eq_1 hA)))))))))))))))))
theorem A0B(name1:Bs)(out5_0:Bool)(out5_1:List Bs)(i6 h0_0:Int)(h0_1:Bs)(h0_2:Int)(h0_3_0:Bool)(h0_3_1:List (Bs×Bs))(h0_4_0:Bool)(h0_4_1:List UInt8)(sl:Sl)(_:sl 1=vd (dS name1))(_:sl 2=.v (.c (.ptr 0 0)))(_:sl 5=.v (.c (.own out5_0 (enL enS out5_1) 1)))(_:sl 6=vd (dI i6)):
  stepE (q0N mm) (loopK 0 q0X (dn (E0 mm) 99 0 u0Q sl [.cells [.d (dI h0_0),.d (dS h0_1),.d (dI h0_2),.d (.lst h0_3_0 (enL enSS h0_3_1)),.d (.lst h0_4_0 (enL enB h0_4_1))],.row out5_1.length (rz out5_0 1)]))=(l0g name1 out5_0 out5_1 i6 h0_0 h0_1 h0_2 h0_3_0 h0_3_1 h0_4_0 h0_4_1).map (sm h0l e99):=by
 unfold l0g;exact go (Q (rx u0Q) k99) trivial
def p0n(out5_0:Bool)(out5_1:List Bs):Option R99:=
 some (out5_0,out5_1)
theorem A0C(out5_0:Bool)(out5_1:List Bs)(g0:Ob)(sl:Sl)(_:sl 5=.v (.c (.own out5_0 (enL enS out5_1) 1))):
  bodyD (E0 mm) [.tmp 4] 0 false (dn (E0 mm) 99 0 k0D sl [g0,.row out5_1.length (rz out5_0 1)])=(p0n out5_0 out5_1).map e99:=by
 unfold p0n;exact go (Q (nE k0D (.seq J0i .ret)) k99) trivial
def q0H(name1:Bs)(out5_0:Bool)(out5_1:List Bs)(i6 h0_0:Int)(h0_1:Bs)(h0_2:Int)(h0_3_0:Bool)(h0_3_1:List (Bs×Bs))(h0_4_0:Bool)(h0_4_1:List UInt8):Option ((Bs×Bool×List Bs×Int×Int×Bs×Int×Bool×List (Bs×Bs)×Bool×List UInt8) ⊕ R99):=
 if (decide (i6<(h0_3_1.length:Int)))=true then
  if 0≤i6∧i6<(h0_3_1.length:Int) then
   (m95 ((h0_3_1.getD i6.toNat default).1) name1).bind fun yr5=>
    if yr5=true then
     if (out5_1.length+1)*16≤140737488355328 then
      l0g name1 false (out5_1++([(h0_3_1.getD i6.toNat default).2]:List Bs)) i6 h0_0 h0_1 h0_2 h0_3_0 h0_3_1 h0_4_0 h0_4_1
     else none
    else
     l0g name1 out5_0 out5_1 i6 h0_0 h0_1 h0_2 h0_3_0 h0_3_1 h0_4_0 h0_4_1
  else none
 else
  (p0n out5_0 out5_1).map .inr
theorem M0e(name1:Bs)(out5_0:Bool)(out5_1:List Bs)(i6 h0_0:Int)(h0_1:Bs)(h0_2:Int)(h0_3_0:Bool)(h0_3_1:List (Bs×Bs))(h0_4_0:Bool)(h0_4_1:List UInt8):
  stepE (q0N mm) (lp (E0 mm) 99 0 k0E q0X (h0l (name1,out5_0,out5_1,i6,h0_0,h0_1,h0_2,h0_3_0,h0_3_1,h0_4_0,h0_4_1)))=(q0H name1 out5_0 out5_1 i6 h0_0 h0_1 h0_2 h0_3_0 h0_3_1 h0_4_0 h0_4_1).map (sm h0l e99):=by
 unfold q0H;exact go k99 (Q @A0B @A0C)
def R0T(name1:Bs)(out5_0:Bool)(out5_1:List Bs)(i6 h0_0:Int)(h0_1:Bs)(h0_2:Int)(h0_3_0:Bool)(h0_3_1:List (Bs×Bs))(h0_4_0:Bool)(h0_4_1:List UInt8):Option R99:=iter (fun x:(Bs×Bool×List Bs×Int×Int×Bs×Int×Bool×List (Bs×Bs)×Bool×List UInt8)=>q0H x.1 x.2.1 x.2.2.1 x.2.2.2.1 x.2.2.2.2.1 x.2.2.2.2.2.1 x.2.2.2.2.2.2.1 x.2.2.2.2.2.2.2.1 x.2.2.2.2.2.2.2.2.1 x.2.2.2.2.2.2.2.2.2.1 x.2.2.2.2.2.2.2.2.2.2) (name1,out5_0,out5_1,i6,h0_0,h0_1,h0_2,h0_3_0,h0_3_1,h0_4_0,h0_4_1)
theorem L0j(name1:Bs)(out5_0:Bool)(out5_1:List Bs)(i6 h0_0:Int)(h0_1:Bs)(h0_2:Int)(h0_3_0:Bool)(h0_3_1:List (Bs×Bs))(h0_4_0:Bool)(h0_4_1:List UInt8):(q0N mm) (itW (lp (E0 mm) 99 0 k0E q0X) (h0l (name1,out5_0,out5_1,i6,h0_0,h0_1,h0_2,h0_3_0,h0_3_1,h0_4_0,h0_4_1)))=(R0T name1 out5_0 out5_1 i6 h0_0 h0_1 h0_2 h0_3_0 h0_3_1 h0_4_0 h0_4_1).map e99:=
 it_sim (K:=(q0N mm)) rfl (enc:=h0l) (fun x=>M0e x.1 x.2.1 x.2.2.1 x.2.2.2.1 x.2.2.2.2.1 x.2.2.2.2.2.1 x.2.2.2.2.2.2.1 x.2.2.2.2.2.2.2.1 x.2.2.2.2.2.2.2.2.1 x.2.2.2.2.2.2.2.2.2.1 x.2.2.2.2.2.2.2.2.2.2) (name1,out5_0,out5_1,i6,h0_0,h0_1,h0_2,h0_3_0,h0_3_1,h0_4_0,h0_4_1)
def m99(r0_0:Int)(r0_1:Bs)(r0_2:Int)(r0_3:Bool)(r0_4:List (Bs×Bs))(r0_5:Bool)(r0_6:List UInt8)(name:Bs):Option R99:=
 R0T name true ([]:List Bs) (0:Int) r0_0 r0_1 r0_2 r0_3 r0_4 r0_5 r0_6
theorem K0E(r0_0:Int)(r0_1:Bs)(r0_2:Int)(r0_3:Bool)(r0_4:List (Bs×Bs))(r0_5:Bool)(r0_6:List UInt8)(name:Bs):
  callW (E0 mm) 99 [.agg [.d (dI r0_0),.d (dS r0_1),.d (dI r0_2),.d (.lst r0_3 (enL enSS r0_4)),.d (.lst r0_5 (enL enB r0_6))],cd (dS name)] []=(m99 r0_0 r0_1 r0_2 r0_3 r0_4 r0_5 r0_6 name).map e99:=by
 rw[cR m0p [.tmp 4] Tryz.func99]
 unfold m99;exact go k99 @L0j
noncomputable def b0m:Code:=bodyOf Tryz.f100
def B0W:=cA b0m
def B0X:=cA (cB b0m)
def B0Y:=cA (cA (cB (cB b0m)))
def B0Z:=cA (cA (cB (cA (cB (cB b0m)))))
def r0e:=cA (cB (cB (cB b0m)))
def r0f:=cA (cA (cB (cB (cB (cB b0m)))))
def r0g:=cA (cA (cB (cA (cB (cB (cB (cB b0m)))))))
def r0h:=cA (cB (cB (cB (cB (cB b0m)))))
abbrev U0G:=(Int×Bool)
def T0A(x:U0G):AV×Heap:=(.tup [cd (dU x.1),cd (dB x.2)],[])
def L0k(r0_0:Int)(r0_1:Bs)(r0_2:Int)(r0_3:Bool)(r0_4:List (Bs×Bs))(r0_5:Bool)(r0_6:List UInt8)(name:Bs):Option U0G:=
 (m99 r0_0 r0_1 r0_2 r0_3 r0_4 r0_5 r0_6 name).bind fun yr2=>
  if ((yr2.2.length:Int)==1)=true then
   if (0:Int)<(yr2.2.length:Int) then
    (g0y (yr2.2.getD 0 default)).bind fun yr7=>
     if (yr7.2==0)=true then
      some (yr7.1,true)
     else
      some ((0:Int),false)
   else none
  else
   some ((0:Int),false)
def W0e:=Q (rx B0W) (Q (rx B0X) (Q @K0E (Q @e99.eq_1 (Q (rx B0Y) (Q (rx r0e) (Q @J0l (Q @l0v.eq_1 (Q (rx r0f) (Q (rx r0h) (Q (rx r0g) (Q (rx B0Z) (Q (nE b0m (.seq B0W (.seq B0X (.seq (.seq B0Y (.cond _ (.seq B0Z .ret) .skip)) (.seq r0e (.seq (.seq r0f (.cond _ (.seq r0g .ret) .skip)) (.seq r0h .ret))))))) hA))))))))))))
theorem k0J(r0_0:Int)(r0_1:Bs)(r0_2:Int)(r0_3:Bool)(r0_4:List (Bs×Bs))(r0_5:Bool)(r0_6:List UInt8)(name:Bs):
  callW (E0 mm) 100 [.agg [.d (dI r0_0),.d (dS r0_1),.d (dI r0_2),.d (.lst r0_3 (enL enSS r0_4)),.d (.lst r0_5 (enL enB r0_6))],cd (dS name)] []=(L0k r0_0 r0_1 r0_2 r0_3 r0_4 r0_5 r0_6 name).map T0A:=by
 rw[cR b0m [.tmp 4,.tmp 5] Tryz.func100]
 unfold L0k;exact go W0e trivial
noncomputable def y0W:Code:=bodyOf Tryz.f98
def Q0c:=cA y0W
def Q0d:=cA (cB y0W)
abbrev R98:=(Int×Bool)
def e98(x:R98):AV×Heap:=(.tup [cd (dU x.1),cd (dB x.2)],[])
def m98(r0_0:Int)(r0_1:Bs)(r0_2:Int)(r0_3:Bool)(r0_4:List (Bs×Bs))(r0_5:Bool)(r0_6:List UInt8):Option R98:=
 (L0k r0_0 r0_1 r0_2 r0_3 r0_4 r0_5 r0_6 ([100,97,116,101]:Bs)).bind fun yr2=>
  some (yr2.1,yr2.2)
def k98:=Q (rx Q0c) (Q (rx Q0d) (Q (fun (mm:Int) (r0_0:Int) (r0_1:Bs) (r0_2:Int) (r0_3:Bool) (r0_4:List (Bs×Bs)) (r0_5:Bool) (r0_6:List UInt8)=>(show callW (E0 mm) 100 [.agg [.d (dI r0_0),.d (dS r0_1),.d (dI r0_2),.d (.lst r0_3 (enL enSS r0_4)),.d (.lst r0_5 (enL enB r0_6))],cd (dS ([100,97,116,101]:Bs))] []=_ from k0J r0_0 r0_1 r0_2 r0_3 r0_4 r0_5 r0_6 ([100,97,116,101]:Bs))) (Q @k0J (Q @T0A.eq_1 (Q (nE y0W (.seq Q0c (.seq Q0d .ret))) hA)))))
theorem U0u(r0_0:Int)(r0_1:Bs)(r0_2:Int)(r0_3:Bool)(r0_4:List (Bs×Bs))(r0_5:Bool)(r0_6:List UInt8):
  callW (E0 mm) 98 [.agg [.d (dI r0_0),.d (dS r0_1),.d (dI r0_2),.d (.lst r0_3 (enL enSS r0_4)),.d (.lst r0_5 (enL enB r0_6))]] []=(m98 r0_0 r0_1 r0_2 r0_3 r0_4 r0_5 r0_6).map e98:=by
 rw[cR y0W [.tmp 2,.tmp 3] Tryz.func98]
 unfold m98;exact go k98 trivial
noncomputable def g0F:Code:=bodyOf Tryz.f101
def C0a:=cA g0F
def C0b:=cA (cA (cB g0F))
def C0c:=cA (cA (cB (cA (cB g0F))))
def r0i:=cA (cB (cB g0F))
abbrev U0H:=(Int)
def V0u(x:U0H):AV×Heap:=(vd (dU x),[])
def R0U(a b:Int):Option U0H:=
 if (decide (b<a))=true then
  some (0:Int)
 else
  some (wu64 (b - a))
def W0f:=Q (rx C0a) (Q (rx C0b) (Q (rx C0c) (Q (rx r0i) (Q (nE g0F (.seq C0a (.seq (.seq C0b (.cond _ (.seq C0c .ret) .skip)) (.seq r0i .ret)))) hA))))
theorem Q0p(a b:Int):
  callW (E0 mm) 101 [cd (dU a),cd (dU b)] []=(R0U a b).map V0u:=by
 rw[cR g0F [.tmp 4] Tryz.func101]
 unfold R0U;exact go W0f trivial
noncomputable def n0u:Code:=bodyOf Tryz.f102
def C0d:=cA n0u
def C0e:=cA (cB n0u)
abbrev U0I:=(Bool)
def V0v(x:U0I):AV×Heap:=(vd (dB x),[])
def R0V(status:Int):Option U0I:=
 if (status==200)=true then
  some true
 else
  if (status==203)=true then
   some true
  else
   if (status==204)=true then
    some true
   else
    if (status==300)=true then
     some true
    else
     if (status==301)=true then
      some true
     else
      if (status==308)=true then
       some true
      else
       if (status==404)=true then
        some true
       else
        if (status==405)=true then
         some true
        else
         if (status==410)=true then
          some true
         else
          if (status==414)=true then
           some true
          else
           some (status==501)
def W0g:=Q (rx C0d) (Q (rx C0e) (Q (nE n0u (.seq C0d (.seq C0e .ret))) hA))
theorem Q0q(status:Int):
  callW (E0 mm) 102 [cd (dI status)] []=(R0V status).map V0v:=by
 rw[cR n0u [.tmp 2] Tryz.func102]
 unfold R0V;exact go W0g trivial
noncomputable def b0L:Code:=bodyOf Tryz.f52
def O0e:=cA b0L
def O0f:=cA (cB b0L)
def O0g:=cA (cA (cB (cB b0L)))
def O0h:=cA (cA (cB (cA (cB (cB b0L)))))
def H0w:=cA (cA (cB (cB (cB b0L))))
def H0x:=cA (cA (cB (cA (cB (cB (cB b0L))))))
def H0y:=cA (cB (cB (cB (cB b0L))))
def H0z:=cA (cA (cB (cB (cB (cB (cB b0L))))))
def H0A:=cA (cA (cB (cA (cB (cB (cB (cB (cB b0L))))))))
def H0B:=cA (cA (cB (cA (cB (cA (cB (cB (cB (cB (cB b0L))))))))))
def o0l:=cB (cA (cB (cA (cB (cA (cB (cB (cB (cB (cB b0L))))))))))
def H0C:=cA (cA o0l)
def o0m:=cB (cB (cA (cB (cA (cB (cB (cB (cB (cB b0L)))))))))
def H0D:=cA o0m
def f0c:=cB (cB (cB (cB (cB (cB b0L)))))
def H0E:=cA f0c
def H0F:=cA (cA (cB f0c))
def o0n:=cB (cA (cB f0c))
def H0G:=cA (cA o0n)
def o0o:=cB (cB f0c)
def H0H:=cA o0o
abbrev R52:=(Int×Bool)
def e52(x:R52):AV×Heap:=(.tup [cd (dI x.1),cd (dB x.2)],[])
def h0w(at5 end7:Int)(t47:Bool):Option R52:=
 if t47=true then
  (R0U at5 end7).bind fun yr19=>
   (m97 yr19 (2147483648:Int)).bind fun yr21=>
    some ((w64 yr21),true)
 else
  some ((0:Int),true)
def k52:=Q (rx H0C) (Q @ent101 (Q @prm101 (Q @Q0p (Q @V0u.eq_1 (Q @ent97 (Q @prm97 (Q @U0t (Q @e97.eq_1 (Q (rx H0D) (Q (rx H0G) (Q (rx H0H) (Q (rx O0e) (Q (rx O0f) (Q @R0e (Q @e46.eq_1 (Q @ao117 (Q (rx O0g) (Q (rx O0h) (Q (rx H0w) (Q (rx H0x) (Q (rx H0y) (Q @ent98 (Q @prm98 (Q @U0u (Q @e98.eq_1 (Q (rx H0z) (Q (fun (mm:Int) (r0_0:Int) (r0_1:Bs) (r0_2:Int) (r0_3:Bool) (r0_4:List (Bs×Bs)) (r0_5:Bool) (r0_6:List UInt8)=>(show callW (E0 mm) 99 [.agg [.d (dI r0_0),.d (dS r0_1),.d (dI r0_2),.d (.lst r0_3 (enL enSS r0_4)),.d (.lst r0_5 (enL enB r0_6))],cd (dS ([101,120,112,105,114,101,115]:Bs))] []=_ from K0E r0_0 r0_1 r0_2 r0_3 r0_4 r0_5 r0_6 ([101,120,112,105,114,101,115]:Bs))) (Q @K0E (Q @e99.eq_1 (Q (rx H0A) (Q (fun (mm:Int) (r0_0:Int) (r0_1:Bs) (r0_2:Int) (r0_3:Bool) (r0_4:List (Bs×Bs)) (r0_5:Bool) (r0_6:List UInt8)=>(show callW (E0 mm) 100 [.agg [.d (dI r0_0),.d (dS r0_1),.d (dI r0_2),.d (.lst r0_3 (enL enSS r0_4)),.d (.lst r0_5 (enL enB r0_6))],cd (dS ([101,120,112,105,114,101,115]:Bs))] []=_ from k0J r0_0 r0_1 r0_2 r0_3 r0_4 r0_5 r0_6 ([101,120,112,105,114,101,115]:Bs))) (Q @k0J (Q @T0A.eq_1 (Q (rx H0B) (Q (rx H0E) (Q (fun (mm:Int) (r0_0:Int) (r0_1:Bs) (r0_2:Int) (r0_3:Bool) (r0_4:List (Bs×Bs)) (r0_5:Bool) (r0_6:List UInt8)=>(show callW (E0 mm) 100 [.agg [.d (dI r0_0),.d (dS r0_1),.d (dI r0_2),.d (.lst r0_3 (enL enSS r0_4)),.d (.lst r0_5 (enL enB r0_6))],cd (dS ([108,97,115,116,45,109,111,100,105,102,105,101,100]:Bs))] []=_ from k0J r0_0 r0_1 r0_2 r0_3 r0_4 r0_5 r0_6 ([108,97,115,116,45,109,111,100,105,102,105,101,100]:Bs))) (Q (rx H0F) (Q @ent102 (Q @prm102 (Q @Q0q (Q @V0v.eq_1 (Q (nE b0L (.seq O0e (.seq O0f (.seq (.seq O0g (.cond _ (.seq O0h .ret) .skip)) (.seq (.seq H0w (.cond _ (.seq H0x .ret) .skip)) (.seq H0y (.seq (.seq H0z (.cond _ (.seq H0A (.seq (.seq H0B o0l) o0m)) .skip)) f0c))))))) (Q (nE o0m (.seq H0D .ret)) (Q (nE f0c (.seq H0E (.seq (.seq H0F o0n) o0o))) (Q (nE o0o (.seq H0H .ret)) hA)))))))))))))))))))))))))))))))))))))))))))))
theorem z0X(at5 end7:Int)(t47:Bool)(g0 g1 g2:Ob)(sl:Sl)(_:sl 5=vd (dU at5))(_:sl 7=vd (dU end7))(_:sl 47=vd (dB t47)):
  bodyD (E0 mm) [.tmp 2,.tmp 3] 0 false (sq (E0 mm) 52 0 f0c (sq (E0 mm) 52 0 o0m (dn (E0 mm) 52 0 o0l sl [g0,g1,g2])))=(h0w at5 end7 t47).map e52:=by
 unfold h0w;exact go (Q (nE o0l (.cond _ (.seq H0C .ret) .skip)) k52) trivial
def b0s(at5 changed9:Int)(t71:Bool):Option R52:=
 if t71=true then
  (m97 (wu64 ((wu64 (at5 - changed9)).tdiv 10)) (86400:Int)).bind fun yr31=>
   some ((w64 yr31),false)
 else
  some ((0:Int),false)
theorem z0Y(at5 changed9:Int)(t71:Bool)(g0 g1 g2:Ob)(sl:Sl)(_:sl 5=vd (dU at5))(_:sl 9=vd (dU changed9))(_:sl 71=vd (dB t71)):
  bodyD (E0 mm) [.tmp 2,.tmp 3] 0 false (sq (E0 mm) 52 0 o0o (dn (E0 mm) 52 0 o0n sl [g0,g1,g2]))=(b0s at5 changed9 t71).map e52:=by
 unfold b0s;exact go (Q (nE o0n (.cond _ (.seq H0G .ret) .skip)) k52) trivial
def m52(r0_0:Int)(r0_1:Bs)(r0_2:Int)(r0_3:Bool)(r0_4:List (Bs×Bs))(r0_5:Bool)(r0_6:List UInt8):Option R52:=
 (m46 r0_3 r0_4).bind fun yr2=>
  if (decide (0≤yr2.2.2.2.2.2.2.2.1))=true then
   (m97 (wu64 yr2.2.2.2.2.2.2.2.1) (2147483648:Int)).bind fun yr5=>
    some ((w64 yr5),true)
  else
   if (decide (0≤yr2.2.2.2.2.2.2.1))=true then
    (m97 (wu64 yr2.2.2.2.2.2.2.1) (2147483648:Int)).bind fun yr8=>
     some ((w64 yr8),true)
   else
    (m98 r0_0 r0_1 r0_2 r0_3 r0_4 r0_5 r0_6).bind fun yr10=>
     (m99 r0_0 r0_1 r0_2 r0_3 r0_4 r0_5 r0_6 ([101,120,112,105,114,101,115]:Bs)).bind fun yr12=>
      if (decide (0<(yr12.2.length:Int)))=true then
       (L0k r0_0 r0_1 r0_2 r0_3 r0_4 r0_5 r0_6 ([101,120,112,105,114,101,115]:Bs)).bind fun yr15=>
        if yr15.2=true then
         h0w yr10.1 yr15.1 yr10.2
        else
         h0w yr10.1 yr15.1 false
      else
       (L0k r0_0 r0_1 r0_2 r0_3 r0_4 r0_5 r0_6 ([108,97,115,116,45,109,111,100,105,102,105,101,100]:Bs)).bind fun yr23=>
        if yr23.2=true then
         if yr10.2=true then
          if (decide (yr23.1≤yr10.1))=true then
           (R0V r0_0).bind fun yr28=>
            b0s yr10.1 yr23.1 yr28
          else
           b0s yr10.1 yr23.1 false
         else
          b0s yr10.1 yr23.1 false
        else
         b0s yr10.1 yr23.1 false
theorem T0X(r0_0:Int)(r0_1:Bs)(r0_2:Int)(r0_3:Bool)(r0_4:List (Bs×Bs))(r0_5:Bool)(r0_6:List UInt8):
  callW (E0 mm) 52 [.agg [.d (dI r0_0),.d (dS r0_1),.d (dI r0_2),.d (.lst r0_3 (enL enSS r0_4)),.d (.lst r0_5 (enL enB r0_6))]] []=(m52 r0_0 r0_1 r0_2 r0_3 r0_4 r0_5 r0_6).map e52:=by
 rw[cR b0L [.tmp 2,.tmp 3] Tryz.func52]
 unfold m52;exact go k52 (Q @z0X @z0Y)
noncomputable def j0P:Code:=bodyOf Tryz.f24
def M0R:=cA j0P
def M0S:=cA (cB j0P)
def M0T:=cA (cB (cB j0P))
def M0U:=cA (cA (cB (cB (cB j0P))))
def u0i:=cA (cB (cA (cB (cB (cB j0P)))))
def a0T:=cA u0i
def E0W:=cA a0T
def E0X:=cA (cA (cA (cB (cB a0T))))
def E0Y:=cA (cB (cA (cA (cB (cB a0T)))))
def E0Z:=cA (cA (cB (cB (cA (cA (cB (cB a0T)))))))
def n0Y:=cB (cA (cB (cB (cA (cA (cB (cB a0T)))))))
def F0a:=cA n0Y
def n0Z:=cB (cB (cB (cA (cA (cB (cB a0T))))))
def o0a:=cB (cB (cB a0T))
def j0Q:=cB (cB (cB (cB j0P)))
def F0b:=cA j0Q
def p0D:List (Nat×Co):=[(4,.own),(5,.keep),(11,.keep),(12,.keep),(13,.keep)]
abbrev R24:=(Bool×List Bs×Bool)
def e24(x:R24):AV×Heap:=(.tup [.c (.own x.1 (enL enS x.2.1) 0),cd (dB x.2.2)],[.row x.2.1.length (rz x.1 1)])
def k0R(names4_0:Bool)(names4_1:List Bs)(name8:Bs)(t11_0:Bool)(t11_1:List Bs)(t12 t13:Int)(qm1:List (Bs×Int)):Option ((Bool×List Bs×Bool×List Bs×Int×Int×List (Bs×Int)) ⊕ R24):=
 some (.inl (names4_0,names4_1,t11_0,t11_1,t12,(w64 (t13+1)),(setQ name8 (1:Int) qm1)))
def g0A(mm:Int)(r:Option (Ex×St)):Option (AV×Heap):=bodyD (E0 mm) [.tmp 2,.tmp 3] 0 false (sq (E0 mm) 24 0 j0Q (blockD 0 (r)))
def b0N(x:(Bool×List Bs×Bool×List Bs×Int×Int×List (Bs×Int))):X:=(none,[.v (.c (.own x.1 (enL enS x.2.1) 0)),.v (.c (.mp 1)),.v (.c (.own x.2.2.1 (enL enS x.2.2.2.1) 2)),vd (dI x.2.2.2.2.1),vd (dI x.2.2.2.2.2.1)],[.row x.2.1.length (rz x.1 1),.amap (enQ x.2.2.2.2.2.2),.row x.2.2.2.1.length (rz x.2.2.1 1)])
def k24:=Q @Tryz.underlying79 (Q @enQ_find (Q @gQ_d (Q @gQ_s (Q @enQ_put (Q @enQ_put0 (Q @enQ_refs (Q @enQ_refs2 (Q @enQ_ren (Q @enQ_ro (Q (rx o0a) (Q (rx F0a) (Q @hd140 (Q @nv141 (Q @rw142 (Q (fun mm=>ry (E0 mm) F0b) (Q @zv3 (Q (rx E0W) (Q (rx E0X) (Q (rx E0Y) (Q @z0a (Q @e63.eq_1 (Q (rx E0Z) (Q @g0A.eq_1 (Q (rx M0R) (Q (rx M0S) (Q (rx M0T) (Q (rx M0U) (Q (fun (mm:Int) (l_0:Bool) (l_1:List (Bs×Bs))=>(show callW (E0 mm) 26 [cd (.lst l_0 (enL enSS l_1)),cd (dS ([118,97,114,121]:Bs))] []=_ from k0K l_0 l_1 ([118,97,114,121]:Bs))) (Q @k0K (Q @e26.eq_1 (Q (fun mm=>lx (E0 mm) 24 u0i a0T p0D) (Q (nE j0P (.seq M0R (.seq M0S (.seq M0T (.seq (.seq M0U (.block 0 u0i)) j0Q))))) (Q (nE a0T (.seq E0W (.seq (.cond _ .skip (.exit 0)) (.seq (.block 1 (.seq E0X (.seq E0Y (.seq (.seq E0Z n0Y) n0Z)))) o0a)))) (Q @b0N.eq_1 (Q @p0D.eq_1 hA)))))))))))))))))))))))))))))))))))
theorem z0s(names4_0:Bool)(names4_1:List Bs)(name8:Bs)(t11_0:Bool)(t11_1:List Bs)(t12 t13:Int)(qm1:List (Bs×Int))(sl:Sl)(_:sl 4=.v (.c (.own names4_0 (enL enS names4_1) 0)))(_:sl 5=.v (.c (.mp 1)))(_:sl 8=vd (dS name8))(_:sl 11=.v (.c (.own t11_0 (enL enS t11_1) 2)))(_:sl 12=vd (dI t12))(_:sl 13=vd (dI t13)):
  stepE (g0A mm) (loopK 0 p0D (sq (E0 mm) 24 0 o0a (blockD 1 (dn (E0 mm) 24 0 n0Z sl [.row names4_1.length (rz names4_0 1),.amap (enQ qm1),.row t11_1.length (rz t11_0 1)]))))=(k0R names4_0 names4_1 name8 t11_0 t11_1 t12 t13 qm1).map (sm b0N e24):=by
 unfold k0R;exact go (Q (rx n0Z) k24) trivial
def h0q(names4_0:Bool)(names4_1:List Bs)(name8:Bs)(t11_0:Bool)(t11_1:List Bs)(t12 t13:Int)(t26:Bool)(qm1:List (Bs×Int)):Option ((Bool×List Bs×Bool×List Bs×Int×Int×List (Bs×Int)) ⊕ R24):=
 if t26=true then
  if (names4_1.length+1)*16≤140737488355328 then
   k0R false (names4_1++([name8]:List Bs)) name8 t11_0 t11_1 t12 t13 qm1
  else none
 else
  k0R names4_0 names4_1 name8 t11_0 t11_1 t12 t13 qm1
theorem z0r(names4_0:Bool)(names4_1:List Bs)(name8:Bs)(t11_0:Bool)(t11_1:List Bs)(t12 t13:Int)(t26:Bool)(qm1:List (Bs×Int))(sl:Sl)(_:sl 4=.v (.c (.own names4_0 (enL enS names4_1) 0)))(_:sl 5=.v (.c (.mp 1)))(_:sl 8=vd (dS name8))(_:sl 11=.v (.c (.own t11_0 (enL enS t11_1) 2)))(_:sl 12=vd (dI t12))(_:sl 13=vd (dI t13))(_:sl 26=vd (dB t26)):
  stepE (g0A mm) (loopK 0 p0D (sq (E0 mm) 24 0 o0a (blockD 1 (sq (E0 mm) 24 0 n0Z (dn (E0 mm) 24 0 n0Y sl [.row names4_1.length (rz names4_0 1),.amap (enQ qm1),.row t11_1.length (rz t11_0 1)])))))=(h0q names4_0 names4_1 name8 t11_0 t11_1 t12 t13 t26 qm1).map (sm b0N e24):=by
 unfold h0q;exact go (Q (nE n0Y (.cond _ F0a .skip)) k24) @z0s
def o0J(names4_0:Bool)(names4_1:List Bs)(qm1:List (Bs×Int)):Option R24:=
 some (names4_0,names4_1,(decide (0<(getQ ([42]:Bs) qm1))))
theorem z0t(names4_0:Bool)(names4_1:List Bs)(qm1:List (Bs×Int))(g2:Ob)(sl:Sl)(_:sl 4=.v (.c (.own names4_0 (enL enS names4_1) 0)))(_:sl 5=.v (.c (.mp 1))):
  bodyD (E0 mm) [.tmp 2,.tmp 3] 0 false (dn (E0 mm) 24 0 j0Q sl [.row names4_1.length (rz names4_0 1),.amap (enQ qm1),g2])=(o0J names4_0 names4_1 qm1).map e24:=by
 unfold o0J;exact go (Q (nE j0Q (.seq F0b .ret)) k24) trivial
def l0s(names4_0:Bool)(names4_1:List Bs)(t11_0:Bool)(t11_1:List Bs)(t12 t13:Int)(qm1:List (Bs×Int)):Option ((Bool×List Bs×Bool×List Bs×Int×Int×List (Bs×Int)) ⊕ R24):=
 if (decide (t13<t12))=true then
  if 0≤t13∧t13<(t11_1.length:Int) then
   (m63 (t11_1.getD t13.toNat default)).bind fun yr7=>
    if ((getQ yr7 qm1)==0)=true then
     h0q names4_0 names4_1 yr7 t11_0 t11_1 t12 t13 (!(yr7==([42]:Bs))) qm1
    else
     h0q names4_0 names4_1 yr7 t11_0 t11_1 t12 t13 false qm1
  else none
 else
  (o0J names4_0 names4_1 qm1).map .inr
theorem B0D(names4_0:Bool)(names4_1:List Bs)(t11_0:Bool)(t11_1:List Bs)(t12 t13:Int)(qm1:List (Bs×Int)):
  stepE (g0A mm) (lp (E0 mm) 24 0 a0T p0D (b0N (names4_0,names4_1,t11_0,t11_1,t12,t13,qm1)))=(l0s names4_0 names4_1 t11_0 t11_1 t12 t13 qm1).map (sm b0N e24):=by
 unfold l0s;exact go k24 (Q @z0r @z0t)
def J0y(names4_0:Bool)(names4_1:List Bs)(t11_0:Bool)(t11_1:List Bs)(t12 t13:Int)(qm1:List (Bs×Int)):Option R24:=iter (fun x:(Bool×List Bs×Bool×List Bs×Int×Int×List (Bs×Int))=>l0s x.1 x.2.1 x.2.2.1 x.2.2.2.1 x.2.2.2.2.1 x.2.2.2.2.2.1 x.2.2.2.2.2.2) (names4_0,names4_1,t11_0,t11_1,t12,t13,qm1)
theorem A0R(names4_0:Bool)(names4_1:List Bs)(t11_0:Bool)(t11_1:List Bs)(t12 t13:Int)(qm1:List (Bs×Int)):(g0A mm) (itW (lp (E0 mm) 24 0 a0T p0D) (b0N (names4_0,names4_1,t11_0,t11_1,t12,t13,qm1)))=(J0y names4_0 names4_1 t11_0 t11_1 t12 t13 qm1).map e24:=
 it_sim (K:=(g0A mm)) rfl (enc:=b0N) (fun x=>B0D x.1 x.2.1 x.2.2.1 x.2.2.2.1 x.2.2.2.2.1 x.2.2.2.2.2.1 x.2.2.2.2.2.2) (names4_0,names4_1,t11_0,t11_1,t12,t13,qm1)
def m24(l_0:Bool)(l_1:List (Bs×Bs)):Option R24:=
 (m26 l_0 l_1 ([118,97,114,121]:Bs)).bind fun yr2=>
  J0y true ([]:List Bs) yr2.1 yr2.2 (yr2.2.length:Int) (0:Int) ([]:List (Bs×Int))
theorem T0K(l_0:Bool)(l_1:List (Bs×Bs)):
  callW (E0 mm) 24 [cd (.lst l_0 (enL enSS l_1))] []=(m24 l_0 l_1).map e24:=by
 rw[cR j0P [.tmp 2,.tmp 3] Tryz.func24]
 unfold m24;exact go k24 @A0R
noncomputable def y0O:Code:=bodyOf Tryz.f84
def P0v:=cA y0O
def P0w:=cA (cB y0O)
abbrev R84:=(Bool×Bs×Bool×List (Bs×Bs))
def e84(x:R84):AV×Heap:=(vd (dB x.1),[.cells [.d (dS x.2.1)],.cells [.d (.lst x.2.2.1 (enL enSS x.2.2.2))]])
def m84(h0_0:Bs)(h1_0_0:Bool)(h1_0_1:List (Bs×Bs)):Option R84:=
 if (h0_0==([71,69,84]:Bs))=true then
  (m30 h1_0_0 h1_0_1).bind fun yr3=>
   if yr3=true then
    (m41 h1_0_0 h1_0_1).bind fun yr6=>
     some ((!yr6.1),h0_0,h1_0_0,h1_0_1)
   else
    some (false,h0_0,h1_0_0,h1_0_1)
 else
  some (false,h0_0,h1_0_0,h1_0_1)
def k84:=Q (rx P0v) (Q (rx P0w) (Q @ent30 (Q @prm30 (Q @T0O (Q @e30.eq_1 (Q @ent41 (Q @prm41 (Q @T0R (Q @e41.eq_1 (Q (nE y0O (.seq P0v (.seq P0w .ret))) hA))))))))))
theorem U0k(h0_0:Bs)(h1_0_0:Bool)(h1_0_1:List (Bs×Bs)):
  callW (E0 mm) 84 [.c (.ptr 0 0),.c (.ptr 1 0)] [.cells [.d (dS h0_0)],.cells [.d (.lst h1_0_0 (enL enSS h1_0_1))]]=(m84 h0_0 h1_0_0 h1_0_1).map e84:=by
 rw[cR y0O [.tmp 2] Tryz.func84]
 unfold m84;exact go k84 trivial
noncomputable def e0a:Code:=bodyOf Tryz.f91
def g0v:=cA e0a
def g0w:=cA (cB e0a)
abbrev R91:=(Bool×Bs×Bool×List (Bs×Bs))
def e91(x:R91):AV×Heap:=(vd (dB x.1),[.cells [.d (dS x.2.1)],.cells [.d (.lst x.2.2.1 (enL enSS x.2.2.2))]])
def m91(h0_0:Bs)(h1_0_0:Bool)(h1_0_1:List (Bs×Bs)):Option R91:=
 (m84 h0_0 h1_0_0 h1_0_1).bind fun yr2=>
  some ((!yr2.1),yr2.2.1,yr2.2.2.1,yr2.2.2.2)
def k91:=Q (rx g0v) (Q (rx g0w) (Q @ent84 (Q @prm84 (Q @U0k (Q @e84.eq_1 (Q (nE e0a (.seq g0v (.seq g0w .ret))) hA))))))
theorem U0r(h0_0:Bs)(h1_0_0:Bool)(h1_0_1:List (Bs×Bs)):
  callW (E0 mm) 91 [.c (.fn 84 [(0,0),(1,0)])] [.cells [.d (dS h0_0)],.cells [.d (.lst h1_0_0 (enL enSS h1_0_1))]]=(m91 h0_0 h1_0_0 h1_0_1).map e91:=by
 rw[cR e0a [.tmp 2] Tryz.func91]
 unfold m91;exact go k91 trivial
noncomputable def y0Q:Code:=bodyOf Tryz.f86
def P0z:=cA y0Q
def P0A:=cA (cB y0Q)
abbrev R86:=(Bool)
def e86(x:R86):AV×Heap:=(vd (dB x),[])
def m86(status:Int):Option R86:=
 (m67 false ([(200:Int),(203:Int),(204:Int),(300:Int),(301:Int),(308:Int),(404:Int),(405:Int),(410:Int),(414:Int),(501:Int)]:List Int) status).bind fun yr2=>
  some yr2
def k86:=Q (rx P0z) (Q (rx P0A) (Q @hd148 (Q @nv149 (Q @rw150 (Q (fun (mm:Int) (status:Int)=>(show callW (E0 mm) 67 [cd (.lst false (enL enN ([(200:Int),(203:Int),(204:Int),(300:Int),(301:Int),(308:Int),(404:Int),(405:Int),(410:Int),(414:Int),(501:Int)]:List Int))),cd (dI status)] []=_ from z0b false ([(200:Int),(203:Int),(204:Int),(300:Int),(301:Int),(308:Int),(404:Int),(405:Int),(410:Int),(414:Int),(501:Int)]:List Int) status)) (Q @z0b (Q @e67.eq_1 (Q (nE y0Q (.seq P0z (.seq P0A .ret))) hA))))))))
theorem U0m(status:Int):
  callW (E0 mm) 86 [cd (dI status)] []=(m86 status).map e86:=by
 rw[cR y0Q [.tmp 2] Tryz.func86]
 unfold m86;exact go k86 trivial
noncomputable def y0P:Code:=bodyOf Tryz.f85
def P0x:=cA y0P
def P0y:=cA (cB y0P)
abbrev R85:=(Bool×Int×Bs×Int×Bool×List (Bs×Bs)×Bool×List UInt8×Bool×Bool×Bool×Bool×Bool×Bool×Int×Int×Int×Int×Bool)
def e85(x:R85):AV×Heap:=(vd (dB x.1),[.cells [.d (dI x.2.1),.d (dS x.2.2.1),.d (dI x.2.2.2.1),.d (.lst x.2.2.2.2.1 (enL enSS x.2.2.2.2.2.1)),.d (.lst x.2.2.2.2.2.2.1 (enL enB x.2.2.2.2.2.2.2.1))],.cells [.d (dB x.2.2.2.2.2.2.2.2.1),.d (dB x.2.2.2.2.2.2.2.2.2.1),.d (dB x.2.2.2.2.2.2.2.2.2.2.1),.d (dB x.2.2.2.2.2.2.2.2.2.2.2.1),.d (dB x.2.2.2.2.2.2.2.2.2.2.2.2.1),.d (dB x.2.2.2.2.2.2.2.2.2.2.2.2.2.1),.d (dI x.2.2.2.2.2.2.2.2.2.2.2.2.2.2.1),.d (dI x.2.2.2.2.2.2.2.2.2.2.2.2.2.2.2.1),.d (dI x.2.2.2.2.2.2.2.2.2.2.2.2.2.2.2.2.1),.d (dI x.2.2.2.2.2.2.2.2.2.2.2.2.2.2.2.2.2.1)],.cells [.d (dB x.2.2.2.2.2.2.2.2.2.2.2.2.2.2.2.2.2.2)]])
def m85(h0_0:Int)(h0_1:Bs)(h0_2:Int)(h0_3_0:Bool)(h0_3_1:List (Bs×Bs))(h0_4_0:Bool)(h0_4_1:List UInt8)(h1_0 h1_1:Bool)(h1_2 h1_3:Bool)(h1_4 h1_5:Bool)(h1_6 h1_7:Int)(h1_8 h1_9:Int)(h2_0:Bool):Option R85:=
 (m86 h0_0).bind fun yr2=>
  if yr2=true then
   if h1_0=true then
    some (false,h0_0,h0_1,h0_2,h0_3_0,h0_3_1,h0_4_0,h0_4_1,true,h1_1,h1_2,h1_3,h1_4,h1_5,h1_6,h1_7,h1_8,h1_9,h2_0)
   else
    if h1_2=true then
     some (false,h0_0,h0_1,h0_2,h0_3_0,h0_3_1,h0_4_0,h0_4_1,false,h1_1,true,h1_3,h1_4,h1_5,h1_6,h1_7,h1_8,h1_9,h2_0)
    else
     some ((!h2_0),h0_0,h0_1,h0_2,h0_3_0,h0_3_1,h0_4_0,h0_4_1,false,h1_1,false,h1_3,h1_4,h1_5,h1_6,h1_7,h1_8,h1_9,h2_0)
  else
   some (false,h0_0,h0_1,h0_2,h0_3_0,h0_3_1,h0_4_0,h0_4_1,h1_0,h1_1,h1_2,h1_3,h1_4,h1_5,h1_6,h1_7,h1_8,h1_9,h2_0)
def k85:=Q (rx P0x) (Q (rx P0y) (Q @ent86 (Q @prm86 (Q @U0m (Q @e86.eq_1 (Q (nE y0P (.seq P0x (.seq P0y .ret))) hA))))))
theorem U0l(h0_0:Int)(h0_1:Bs)(h0_2:Int)(h0_3_0:Bool)(h0_3_1:List (Bs×Bs))(h0_4_0:Bool)(h0_4_1:List UInt8)(h1_0 h1_1:Bool)(h1_2 h1_3:Bool)(h1_4 h1_5:Bool)(h1_6 h1_7:Int)(h1_8 h1_9:Int)(h2_0:Bool):
  callW (E0 mm) 85 [.c (.ptr 0 0),.c (.ptr 1 0),.c (.ptr 2 0)] [.cells [.d (dI h0_0),.d (dS h0_1),.d (dI h0_2),.d (.lst h0_3_0 (enL enSS h0_3_1)),.d (.lst h0_4_0 (enL enB h0_4_1))],.cells [.d (dB h1_0),.d (dB h1_1),.d (dB h1_2),.d (dB h1_3),.d (dB h1_4),.d (dB h1_5),.d (dI h1_6),.d (dI h1_7),.d (dI h1_8),.d (dI h1_9)],.cells [.d (dB h2_0)]]=(m85 h0_0 h0_1 h0_2 h0_3_0 h0_3_1 h0_4_0 h0_4_1 h1_0 h1_1 h1_2 h1_3 h1_4 h1_5 h1_6 h1_7 h1_8 h1_9 h2_0).map e85:=by
 rw[cR y0P [.tmp 3] Tryz.func85]
 unfold m85;exact go k85 trivial
end
end Go.Proofs.YtbkobjepahlegaaGreatDoor
