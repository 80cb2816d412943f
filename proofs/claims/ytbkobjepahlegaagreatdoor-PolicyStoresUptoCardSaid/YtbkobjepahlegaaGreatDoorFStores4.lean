/- The Go functions as plain functions, and that the evaluator computes them. -/
import Derived.Test.YtbkobjepahlegaaGreatDoorFStores3
set_option linter.all false
set_option maxRecDepth 100000
namespace Go.Proofs.YtbkobjepahlegaaGreatDoor
open Go Go.Ab
open Nat renaming reduceEqDiff→za,reduceAdd→zb,reduceLeDiff→zc,reduceLT→zd,reduceMul→ze,reduceBEq→zf,reduceSub→zg,reducePow→zh
open Int renaming reduceEq→zi,reduceLE→zj,reduceLT→zk,reduceToNat→zl,reduceNegSucc→zm,reduceAdd→zn,reduceBEq→zo
open String renaming reduceBEq→zp
set_option maxHeartbeats 4000000
noncomputable section
variable {mm:Int}
noncomputable def j0X:Code:=bodyOf Tryz.f44
def N0E:=cA j0X
def N0F:=cA (cB j0X)
def N0G:=cA (cB (cB j0X))
def N0H:=cA (cA (cB (cB (cB j0X))))
def u0p:=cA (cB (cA (cB (cB (cB j0X)))))
def a0c:=cA u0p
def F0W:=cA (cA a0c)
def F0X:=cA (cA (cA (cB a0c)))
def F0Y:=cA (cA (cB (cA (cA (cB a0c)))))
def F0Z:=cA (cB (cB (cA (cA (cB a0c)))))
def G0a:=cA (cB (cB (cB (cA (cA (cB a0c))))))
def G0b:=cA (cA (cB (cB (cB (cB (cA (cA (cB a0c))))))))
def G0c:=cA (cB (cA (cB (cB (cB (cB (cA (cA (cB a0c)))))))))
def G0d:=cA (cB (cB (cA (cB (cB (cB (cB (cA (cA (cB a0c))))))))))
def G0e:=cA (cB (cB (cB (cA (cB (cB (cB (cB (cA (cA (cB a0c)))))))))))
def G0f:=cA (cB (cB (cB (cB (cA (cB (cB (cB (cB (cA (cA (cB a0c))))))))))))
def G0g:=cA (cB (cB (cB (cB (cB (cA (cB (cB (cB (cB (cA (cA (cB a0c)))))))))))))
def G0h:=cA (cB (cB (cB (cB (cB (cB (cA (cB (cB (cB (cB (cA (cA (cB a0c))))))))))))))
def G0i:=cA (cB (cB (cB (cB (cB (cB (cB (cA (cB (cB (cB (cB (cA (cA (cB a0c)))))))))))))))
def G0j:=cA (cB (cB (cB (cB (cB (cB (cB (cB (cA (cB (cB (cB (cB (cA (cA (cB a0c))))))))))))))))
def G0k:=cA (cA (cB (cB (cB (cB (cB (cB (cB (cB (cB (cA (cB (cB (cB (cB (cA (cA (cB a0c))))))))))))))))))
def G0l:=cA (cB (cA (cB (cB (cB (cB (cB (cB (cB (cB (cB (cA (cB (cB (cB (cB (cA (cA (cB a0c)))))))))))))))))))
def G0m:=cA (cB (cB (cB (cB (cB (cB (cB (cB (cB (cB (cA (cB (cB (cB (cB (cA (cA (cB a0c))))))))))))))))))
def G0n:=cA (cA (cA (cB (cB (cB (cB (cB (cB (cB (cB (cB (cB (cB (cA (cB (cB (cB (cB (cA (cA (cB a0c)))))))))))))))))))))
def G0o:=cA (cB (cA (cA (cB (cB (cB (cB (cB (cB (cB (cB (cB (cB (cB (cA (cB (cB (cB (cB (cA (cA (cB a0c))))))))))))))))))))))
def u0t:=cB (cA (cB (cB (cB (cB (cB (cB (cB (cB (cB (cB (cB (cA (cB (cB (cB (cB (cA (cA (cB a0c))))))))))))))))))))
def o0i:=cB (cB a0c)
def f0a:=cB (cB (cB (cB j0X)))
def G0p:=cA (cA f0a)
def u0u:=cA (cB (cA f0a))
def d0N:=cA u0u
def G0q:=cA (cA d0N)
def G0r:=cA (cA (cA (cB d0N)))
def G0s:=cA (cA (cB (cA (cA (cB d0N)))))
def G0t:=cB (cB d0N)
def d0O:=cB f0a
def G0u:=cA d0O
def G0v:=cA (cA (cB d0O))
def u0v:=cA (cB (cA (cB d0O)))
def d0P:=cA u0v
def G0w:=cA (cA d0P)
def u0q:=cA (cA (cA (cB d0P)))
def u0r:=cA (cB (cA (cA (cB d0P))))
def m0b:=cB (cB d0P)
def e0Z:=cB (cB d0O)
def u0s:=cA e0Z
def p0E:List (Nat×Co):=[(0,.keep),(2,.keep),(3,.keep),(4,.keep),(5,.keep)]
def y0l:List (Nat×Co):=[(0,.keep),(2,.keep),(3,.keep),(10,.keep)]
def q0Q:List (Nat×Co):=[(2,.keep),(3,.keep),(11,.keep),(12,.keep)]
abbrev b44(mm:Int):=bodyD (E0 mm) [.cell 2 37] 0 false
abbrev R44:=(Bool×Bool×Bool×Bool×Bool×Bool×Int×Int×Int×Int)
def e44(x:R44):AV×Heap:=(.v (.agg [.d (dB x.1),.d (dB x.2.1),.d (dB x.2.2.1),.d (dB x.2.2.2.1),.d (dB x.2.2.2.2.1),.d (dB x.2.2.2.2.2.1),.d (dI x.2.2.2.2.2.2.1),.d (dI x.2.2.2.2.2.2.2.1),.d (dI x.2.2.2.2.2.2.2.2.1),.d (dI x.2.2.2.2.2.2.2.2.2)]),[])
def a0I(l0_0:Bool)(l0_1:List (Bs×Bs))(all4_0:Bool)(all4_1:List Bs)(i5:Int)(h0_0 h0_1:Bool)(h0_2 h0_3:Bool)(h0_4 h0_5:Bool)(h0_6 h0_7:Int)(h0_8 h0_9:Int)(h1_0 h1_1:Bool)(h1_2 h1_3:Bool)(h1_4 h1_5:Bool)(h1_6 h1_7:Int)(h1_8 h1_9:Int):Option ((Bool×List (Bs×Bs)×Bool×List Bs×Int×Bool×Bool×Bool×Bool×Bool×Bool×Int×Int×Int×Int×Bool×Bool×Bool×Bool×Bool×Bool×Int×Int×Int×Int) ⊕ R44):=
 some (.inl (l0_0,l0_1,all4_0,all4_1,(w64 (i5+1)),h0_0,h0_1,h0_2,h0_3,h0_4,h0_5,h0_6,h0_7,h0_8,h0_9,h1_0,h1_1,h1_2,h1_3,h1_4,h1_5,h1_6,h1_7,h1_8,h1_9))
def g0B(mm:Int)(r:Option (Ex×St)):Option (AV×Heap):=b44 mm (sq (E0 mm) 44 0 f0a (blockD 0 (r)))
def b0O(x:(Bool×List (Bs×Bs)×Bool×List Bs×Int×Bool×Bool×Bool×Bool×Bool×Bool×Int×Int×Int×Int×Bool×Bool×Bool×Bool×Bool×Bool×Int×Int×Int×Int)):X:=(none,[vd (.lst x.1 (enL enSS x.2.1)),.v (.c (.ptr 0 0)),.v (.c (.ptr 1 0)),.v (.c (.own x.2.2.1 (enL enS x.2.2.2.1) 2)),vd (dI x.2.2.2.2.1)],[.cells [.d (dB x.2.2.2.2.2.1),.d (dB x.2.2.2.2.2.2.1),.d (dB x.2.2.2.2.2.2.2.1),.d (dB x.2.2.2.2.2.2.2.2.1),.d (dB x.2.2.2.2.2.2.2.2.2.1),.d (dB x.2.2.2.2.2.2.2.2.2.2.1),.d (dI x.2.2.2.2.2.2.2.2.2.2.2.1),.d (dI x.2.2.2.2.2.2.2.2.2.2.2.2.1),.d (dI x.2.2.2.2.2.2.2.2.2.2.2.2.2.1),.d (dI x.2.2.2.2.2.2.2.2.2.2.2.2.2.2.1)],.cells [.d (dB x.2.2.2.2.2.2.2.2.2.2.2.2.2.2.2.1),.d (dB x.2.2.2.2.2.2.2.2.2.2.2.2.2.2.2.2.1),.d (dB x.2.2.2.2.2.2.2.2.2.2.2.2.2.2.2.2.2.1),.d (dB x.2.2.2.2.2.2.2.2.2.2.2.2.2.2.2.2.2.2.1),.d (dB x.2.2.2.2.2.2.2.2.2.2.2.2.2.2.2.2.2.2.2.1),.d (dB x.2.2.2.2.2.2.2.2.2.2.2.2.2.2.2.2.2.2.2.2.1),.d (dI x.2.2.2.2.2.2.2.2.2.2.2.2.2.2.2.2.2.2.2.2.2.1),.d (dI x.2.2.2.2.2.2.2.2.2.2.2.2.2.2.2.2.2.2.2.2.2.2.1),.d (dI x.2.2.2.2.2.2.2.2.2.2.2.2.2.2.2.2.2.2.2.2.2.2.2.1),.d (dI x.2.2.2.2.2.2.2.2.2.2.2.2.2.2.2.2.2.2.2.2.2.2.2.2)],.row x.2.2.2.1.length (rz x.2.2.1 1)])
def n0f(mm:Int)(r:Option (Ex×St)):Option (AV×Heap):=b44 mm (sq (E0 mm) 44 0 d0O (blockD 3 (r)))
def f0q(x:(Bool×List (Bs×Bs)×Int×Bool×Bool×Bool×Bool×Bool×Bool×Int×Int×Int×Int×Bool×Bool×Bool×Bool×Bool×Bool×Int×Int×Int×Int)):X:=(none,[vd (.lst x.1 (enL enSS x.2.1)),.v (.c (.ptr 0 0)),.v (.c (.ptr 1 0)),vd (dI x.2.2.1)],[.cells [.d (dB x.2.2.2.1),.d (dB x.2.2.2.2.1),.d (dB x.2.2.2.2.2.1),.d (dB x.2.2.2.2.2.2.1),.d (dB x.2.2.2.2.2.2.2.1),.d (dB x.2.2.2.2.2.2.2.2.1),.d (dI x.2.2.2.2.2.2.2.2.2.1),.d (dI x.2.2.2.2.2.2.2.2.2.2.1),.d (dI x.2.2.2.2.2.2.2.2.2.2.2.1),.d (dI x.2.2.2.2.2.2.2.2.2.2.2.2.1)],.cells [.d (dB x.2.2.2.2.2.2.2.2.2.2.2.2.2.1),.d (dB x.2.2.2.2.2.2.2.2.2.2.2.2.2.2.1),.d (dB x.2.2.2.2.2.2.2.2.2.2.2.2.2.2.2.1),.d (dB x.2.2.2.2.2.2.2.2.2.2.2.2.2.2.2.2.1),.d (dB x.2.2.2.2.2.2.2.2.2.2.2.2.2.2.2.2.2.1),.d (dB x.2.2.2.2.2.2.2.2.2.2.2.2.2.2.2.2.2.2.1),.d (dI x.2.2.2.2.2.2.2.2.2.2.2.2.2.2.2.2.2.2.2.1),.d (dI x.2.2.2.2.2.2.2.2.2.2.2.2.2.2.2.2.2.2.2.2.1),.d (dI x.2.2.2.2.2.2.2.2.2.2.2.2.2.2.2.2.2.2.2.2.2.1),.d (dI x.2.2.2.2.2.2.2.2.2.2.2.2.2.2.2.2.2.2.2.2.2.2)]])
def j0s(mm:Int)(r:Option (Ex×St)):Option (AV×Heap):=b44 mm (sq (E0 mm) 44 0 e0Z (blockD 5 (r)))
def d0o(x:(Bool×List Bs×Int×Bool×Bool×Bool×Bool×Bool×Bool×Int×Int×Int×Int×Bool×Bool×Bool×Bool×Bool×Bool×Int×Int×Int×Int)):X:=(none,[.v (.c (.ptr 0 0)),.v (.c (.ptr 1 0)),.v (.c (.own x.1 (enL enS x.2.1) 2)),vd (dI x.2.2.1)],[.cells [.d (dB x.2.2.2.1),.d (dB x.2.2.2.2.1),.d (dB x.2.2.2.2.2.1),.d (dB x.2.2.2.2.2.2.1),.d (dB x.2.2.2.2.2.2.2.1),.d (dB x.2.2.2.2.2.2.2.2.1),.d (dI x.2.2.2.2.2.2.2.2.2.1),.d (dI x.2.2.2.2.2.2.2.2.2.2.1),.d (dI x.2.2.2.2.2.2.2.2.2.2.2.1),.d (dI x.2.2.2.2.2.2.2.2.2.2.2.2.1)],.cells [.d (dB x.2.2.2.2.2.2.2.2.2.2.2.2.2.1),.d (dB x.2.2.2.2.2.2.2.2.2.2.2.2.2.2.1),.d (dB x.2.2.2.2.2.2.2.2.2.2.2.2.2.2.2.1),.d (dB x.2.2.2.2.2.2.2.2.2.2.2.2.2.2.2.2.1),.d (dB x.2.2.2.2.2.2.2.2.2.2.2.2.2.2.2.2.2.1),.d (dB x.2.2.2.2.2.2.2.2.2.2.2.2.2.2.2.2.2.2.1),.d (dI x.2.2.2.2.2.2.2.2.2.2.2.2.2.2.2.2.2.2.2.1),.d (dI x.2.2.2.2.2.2.2.2.2.2.2.2.2.2.2.2.2.2.2.2.1),.d (dI x.2.2.2.2.2.2.2.2.2.2.2.2.2.2.2.2.2.2.2.2.2.1),.d (dI x.2.2.2.2.2.2.2.2.2.2.2.2.2.2.2.2.2.2.2.2.2.2)],.row x.2.1.length (rz x.1 1)])
def k44:=Q @R0A (Q @e94.eq_1 (Q (rx u0s) (Q (rx G0w) (Q (rx u0q) (Q @p0Z (Q @e51.eq_1 (Q (rx u0r) (Q @j0s.eq_1 (Q (rx G0u) (Q (fun (mm:Int) (l0_0:Bool) (l0_1:List (Bs×Bs))=>(show callW (E0 mm) 49 [cd (.lst l0_0 (enL enSS l0_1)),cd (dS ([112,114,97,103,109,97]:Bs))] []=_ from i0C l0_0 l0_1 ([112,114,97,103,109,97]:Bs))) (Q @i0C (Q @e49.eq_1 (Q (rx G0v) (Q (fun mm=>lx (E0 mm) 44 u0v d0P q0Q) (Q (rx G0q) (Q (rx G0r) (Q (fun (mm:Int) (l0_1:List (Bs×Bs)) (i10:Int)=>(show callW (E0 mm) 95 [cd (.sc (.string (S (l0_1.getD i10.toNat default).1))),cd (dS ([99,97,99,104,101,45,99,111,110,116,114,111,108]:Bs))] []=_ from v0g ((l0_1.getD i10.toNat default).1) ([99,97,99,104,101,45,99,111,110,116,114,111,108]:Bs))) (Q @v0g (Q @e95.eq_1 (Q (rx G0s) (Q @n0f.eq_1 (Q (rx G0t) (Q (rx G0p) (Q (fun mm=>lx (E0 mm) 44 u0u d0N y0l) (Q (rx F0W) (Q (rx F0X) (Q @R0y (Q @e92.eq_1 (Q (rx F0Y) (Q (rx F0Z) (Q @R0z (Q @e93.eq_1 (Q (rx G0a) (Q (rx G0b) (Q (rx G0c) (Q (rx G0d) (Q (rx G0e) (Q (rx G0f) (Q (rx G0g) (Q (rx G0h) (Q (rx G0i) (Q (rx G0j) (Q (rx G0k) (Q (rx G0l) (Q (rx G0m) (Q (rx G0n) (Q (rx G0o) (Q @g0B.eq_1 (Q (rx N0E) (Q @ao65 (Q (rx N0F) (Q @ao66 (Q (rx N0G) (Q (fun (mm:Int) (l_0:Bool) (l_1:List (Bs×Bs))=>(show callW (E0 mm) 49 [cd (.lst l_0 (enL enSS l_1)),cd (dS ([99,97,99,104,101,45,99,111,110,116,114,111,108]:Bs))] []=_ from i0C l_0 l_1 ([99,97,99,104,101,45,99,111,110,116,114,111,108]:Bs))) (Q (rx N0H) (Q (fun mm=>lx (E0 mm) 44 u0p a0c p0E) (Q (nE j0X (.seq N0E (.seq N0F (.seq N0G (.seq (.seq N0H (.block 0 u0p)) f0a))))) (Q (nE a0c (.seq (.seq F0W (.cond _ .skip (.exit 0))) (.seq (.block 1 (.seq F0X (.seq (.seq F0Y (.cond _ (.exit 1) .skip)) (.seq F0Z (.seq G0a (.block 2 (.seq G0b (.cond _ G0c (.seq G0d (.cond _ G0e (.seq G0f (.cond _ G0g (.seq G0h (.cond _ G0i (.seq G0j (.cond _ (.seq G0k (.cond _ G0l .skip)) (.seq G0m (.cond _ (.seq (.seq G0n (.cond _ G0o .skip)) u0t) .skip)))))))))))))))))) o0i))) (Q (nE d0N (.seq (.seq G0q (.cond _ .skip (.exit 3))) (.seq (.block 4 (.seq G0r (.cond _ (.seq G0s .ret) .skip))) G0t))) (Q (nE d0P (.seq (.seq G0w (.cond _ .skip (.exit 5))) (.seq (.block 6 (.seq u0q (.cond _ u0r .skip))) m0b))) (Q @b0O.eq_1 (Q @f0q.eq_1 (Q @d0o.eq_1 (Q @p0E.eq_1 (Q @y0l.eq_1 (Q @q0Q.eq_1 hA))))))))))))))))))))))))))))))))))))))))))))))))))))))))))))))))))
theorem o0O(l0_0:Bool)(l0_1:List (Bs×Bs))(all4_0:Bool)(all4_1:List Bs)(i5:Int)(h0_0 h0_1:Bool)(h0_2 h0_3:Bool)(h0_4 h0_5:Bool)(h0_6 h0_7:Int)(h0_8 h0_9:Int)(h1_0 h1_1:Bool)(h1_2 h1_3:Bool)(h1_4 h1_5:Bool)(h1_6 h1_7:Int)(h1_8 h1_9:Int)(sl:Sl)(_:sl 0=vd (.lst l0_0 (enL enSS l0_1)))(_:sl 2=.v (.c (.ptr 0 0)))(_:sl 3=.v (.c (.ptr 1 0)))(_:sl 4=.v (.c (.own all4_0 (enL enS all4_1) 2)))(_:sl 5=vd (dI i5)):
  stepE (g0B mm) (loopK 0 p0E (dn (E0 mm) 44 0 o0i sl [.cells [.d (dB h0_0),.d (dB h0_1),.d (dB h0_2),.d (dB h0_3),.d (dB h0_4),.d (dB h0_5),.d (dI h0_6),.d (dI h0_7),.d (dI h0_8),.d (dI h0_9)],.cells [.d (dB h1_0),.d (dB h1_1),.d (dB h1_2),.d (dB h1_3),.d (dB h1_4),.d (dB h1_5),.d (dI h1_6),.d (dI h1_7),.d (dI h1_8),.d (dI h1_9)],.row all4_1.length (rz all4_0 1)]))=(a0I l0_0 l0_1 all4_0 all4_1 i5 h0_0 h0_1 h0_2 h0_3 h0_4 h0_5 h0_6 h0_7 h0_8 h0_9 h1_0 h1_1 h1_2 h1_3 h1_4 h1_5 h1_6 h1_7 h1_8 h1_9).map (sm b0O e44):=by
 unfold a0I;exact go (Q (rx o0i) k44) trivial
def k0U(l0_0:Bool)(l0_1:List (Bs×Bs))(all4_0:Bool)(all4_1:List Bs)(i5 n9:Int)(h0_0 h0_1:Bool)(h0_2 h0_3:Bool)(h0_4 h0_5:Bool)(h0_6 h0_7:Int)(h0_8 h0_9:Int)(h1_0 h1_1:Bool)(h1_2 h1_3:Bool)(h1_4 h1_5:Bool)(h1_6 h1_7:Int)(h1_8 h1_9:Int):Option ((Bool×List (Bs×Bs)×Bool×List Bs×Int×Bool×Bool×Bool×Bool×Bool×Bool×Int×Int×Int×Int×Bool×Bool×Bool×Bool×Bool×Bool×Int×Int×Int×Int) ⊕ R44):=
 (m94 h1_9 n9).bind fun yr22=>
  a0I l0_0 l0_1 all4_0 all4_1 i5 h0_0 h0_1 h0_2 h0_3 h0_4 h0_5 h0_6 h0_7 h0_8 h0_9 h1_0 h1_1 h1_2 h1_3 h1_4 h1_5 h1_6 h1_7 h1_8 yr22
theorem z0G(l0_0:Bool)(l0_1:List (Bs×Bs))(all4_0:Bool)(all4_1:List Bs)(i5 n9:Int)(h0_0 h0_1:Bool)(h0_2 h0_3:Bool)(h0_4 h0_5:Bool)(h0_6 h0_7:Int)(h0_8 h0_9:Int)(h1_0 h1_1:Bool)(h1_2 h1_3:Bool)(h1_4 h1_5:Bool)(h1_6 h1_7:Int)(h1_8 h1_9:Int)(sl:Sl)(_:sl 0=vd (.lst l0_0 (enL enSS l0_1)))(_:sl 2=.v (.c (.ptr 0 0)))(_:sl 3=.v (.c (.ptr 1 0)))(_:sl 4=.v (.c (.own all4_0 (enL enS all4_1) 2)))(_:sl 5=vd (dI i5))(_:sl 9=vd (dI n9)):
  stepE (g0B mm) (loopK 0 p0E (sq (E0 mm) 44 0 o0i (blockD 1 (blockD 2 (dn (E0 mm) 44 0 u0t sl [.cells [.d (dB h0_0),.d (dB h0_1),.d (dB h0_2),.d (dB h0_3),.d (dB h0_4),.d (dB h0_5),.d (dI h0_6),.d (dI h0_7),.d (dI h0_8),.d (dI h0_9)],.cells [.d (dB h1_0),.d (dB h1_1),.d (dB h1_2),.d (dB h1_3),.d (dB h1_4),.d (dB h1_5),.d (dI h1_6),.d (dI h1_7),.d (dI h1_8),.d (dI h1_9)],.row all4_1.length (rz all4_0 1)])))))=(k0U l0_0 l0_1 all4_0 all4_1 i5 n9 h0_0 h0_1 h0_2 h0_3 h0_4 h0_5 h0_6 h0_7 h0_8 h0_9 h1_0 h1_1 h1_2 h1_3 h1_4 h1_5 h1_6 h1_7 h1_8 h1_9).map (sm b0O e44):=by
 unfold k0U;exact go (Q (rx u0t) k44) @o0O
def f0Q(old11_0:Bool)(old11_1:List Bs)(i12:Int)(h0_0 h0_1:Bool)(h0_2 h0_3:Bool)(h0_4 h0_5:Bool)(h0_6 h0_7:Int)(h0_8 h0_9:Int)(h1_0 h1_1:Bool)(h1_2 h1_3:Bool)(h1_4 h1_5:Bool)(h1_6 h1_7:Int)(h1_8 h1_9:Int):Option ((Bool×List Bs×Int×Bool×Bool×Bool×Bool×Bool×Bool×Int×Int×Int×Int×Bool×Bool×Bool×Bool×Bool×Bool×Int×Int×Int×Int) ⊕ R44):=
 some (.inl (old11_0,old11_1,(w64 (i12+1)),h0_0,h0_1,h0_2,h0_3,h0_4,h0_5,h0_6,h0_7,h0_8,h0_9,h1_0,h1_1,h1_2,h1_3,h1_4,h1_5,h1_6,h1_7,h1_8,h1_9))
theorem v0X(old11_0:Bool)(old11_1:List Bs)(i12:Int)(h0_0 h0_1:Bool)(h0_2 h0_3:Bool)(h0_4 h0_5:Bool)(h0_6 h0_7:Int)(h0_8 h0_9:Int)(h1_0 h1_1:Bool)(h1_2 h1_3:Bool)(h1_4 h1_5:Bool)(h1_6 h1_7:Int)(h1_8 h1_9:Int)(sl:Sl)(_:sl 2=.v (.c (.ptr 0 0)))(_:sl 3=.v (.c (.ptr 1 0)))(_:sl 11=.v (.c (.own old11_0 (enL enS old11_1) 2)))(_:sl 12=vd (dI i12)):
  stepE (j0s mm) (loopK 0 q0Q (dn (E0 mm) 44 0 m0b sl [.cells [.d (dB h0_0),.d (dB h0_1),.d (dB h0_2),.d (dB h0_3),.d (dB h0_4),.d (dB h0_5),.d (dI h0_6),.d (dI h0_7),.d (dI h0_8),.d (dI h0_9)],.cells [.d (dB h1_0),.d (dB h1_1),.d (dB h1_2),.d (dB h1_3),.d (dB h1_4),.d (dB h1_5),.d (dI h1_6),.d (dI h1_7),.d (dI h1_8),.d (dI h1_9)],.row old11_1.length (rz old11_0 1)]))=(f0Q old11_0 old11_1 i12 h0_0 h0_1 h0_2 h0_3 h0_4 h0_5 h0_6 h0_7 h0_8 h0_9 h1_0 h1_1 h1_2 h1_3 h1_4 h1_5 h1_6 h1_7 h1_8 h1_9).map (sm d0o e44):=by
 unfold f0Q;exact go (Q (rx m0b) k44) trivial
def i0Q(h0_0 h0_1:Bool)(h0_2 h0_3:Bool)(h0_4 h0_5:Bool)(h0_6 h0_7:Int)(h0_8 h0_9:Int)(h1_0 h1_1:Bool)(h1_2 h1_3:Bool)(h1_4 h1_5:Bool)(h1_6 h1_7:Int)(h1_8 h1_9:Int):Option R44:=
 some (h1_0,h1_1,h1_2,h1_3,h1_4,h1_5,h1_6,h1_7,h1_8,h1_9)
theorem v0Y(h0_0 h0_1:Bool)(h0_2 h0_3:Bool)(h0_4 h0_5:Bool)(h0_6 h0_7:Int)(h0_8 h0_9:Int)(h1_0 h1_1:Bool)(h1_2 h1_3:Bool)(h1_4 h1_5:Bool)(h1_6 h1_7:Int)(h1_8 h1_9:Int)(g2:Ob)(sl:Sl)(_:sl 2=.v (.c (.ptr 0 0)))(_:sl 3=.v (.c (.ptr 1 0))):
  b44 mm (dn (E0 mm) 44 0 e0Z sl [.cells [.d (dB h0_0),.d (dB h0_1),.d (dB h0_2),.d (dB h0_3),.d (dB h0_4),.d (dB h0_5),.d (dI h0_6),.d (dI h0_7),.d (dI h0_8),.d (dI h0_9)],.cells [.d (dB h1_0),.d (dB h1_1),.d (dB h1_2),.d (dB h1_3),.d (dB h1_4),.d (dB h1_5),.d (dI h1_6),.d (dI h1_7),.d (dI h1_8),.d (dI h1_9)],g2])=(i0Q h0_0 h0_1 h0_2 h0_3 h0_4 h0_5 h0_6 h0_7 h0_8 h0_9 h1_0 h1_1 h1_2 h1_3 h1_4 h1_5 h1_6 h1_7 h1_8 h1_9).map e44:=by
 unfold i0Q;exact go (Q (nE e0Z (.seq u0s .ret)) k44) trivial
def h0F(old11_0:Bool)(old11_1:List Bs)(i12:Int)(h0_0 h0_1:Bool)(h0_2 h0_3:Bool)(h0_4 h0_5:Bool)(h0_6 h0_7:Int)(h0_8 h0_9:Int)(h1_0 h1_1:Bool)(h1_2 h1_3:Bool)(h1_4 h1_5:Bool)(h1_6 h1_7:Int)(h1_8 h1_9:Int):Option ((Bool×List Bs×Int×Bool×Bool×Bool×Bool×Bool×Bool×Int×Int×Int×Int×Bool×Bool×Bool×Bool×Bool×Bool×Int×Int×Int×Int) ⊕ R44):=
 if (decide (i12<(old11_1.length:Int)))=true then
  if 0≤i12∧i12<(old11_1.length:Int) then
   (m51 (old11_1.getD i12.toNat default)).bind fun yr35=>
    if (yr35==([110,111,45,99,97,99,104,101]:Bs))=true then
     f0Q old11_0 old11_1 i12 h0_0 h0_1 h0_2 h0_3 h0_4 h0_5 h0_6 h0_7 h0_8 h0_9 h1_0 true h1_2 h1_3 h1_4 h1_5 h1_6 h1_7 h1_8 h1_9
    else
     f0Q old11_0 old11_1 i12 h0_0 h0_1 h0_2 h0_3 h0_4 h0_5 h0_6 h0_7 h0_8 h0_9 h1_0 h1_1 h1_2 h1_3 h1_4 h1_5 h1_6 h1_7 h1_8 h1_9
  else none
 else
  (i0Q h0_0 h0_1 h0_2 h0_3 h0_4 h0_5 h0_6 h0_7 h0_8 h0_9 h1_0 h1_1 h1_2 h1_3 h1_4 h1_5 h1_6 h1_7 h1_8 h1_9).map .inr
theorem B0H(old11_0:Bool)(old11_1:List Bs)(i12:Int)(h0_0 h0_1:Bool)(h0_2 h0_3:Bool)(h0_4 h0_5:Bool)(h0_6 h0_7:Int)(h0_8 h0_9:Int)(h1_0 h1_1:Bool)(h1_2 h1_3:Bool)(h1_4 h1_5:Bool)(h1_6 h1_7:Int)(h1_8 h1_9:Int):
  stepE (j0s mm) (lp (E0 mm) 44 0 d0P q0Q (d0o (old11_0,old11_1,i12,h0_0,h0_1,h0_2,h0_3,h0_4,h0_5,h0_6,h0_7,h0_8,h0_9,h1_0,h1_1,h1_2,h1_3,h1_4,h1_5,h1_6,h1_7,h1_8,h1_9)))=(h0F old11_0 old11_1 i12 h0_0 h0_1 h0_2 h0_3 h0_4 h0_5 h0_6 h0_7 h0_8 h0_9 h1_0 h1_1 h1_2 h1_3 h1_4 h1_5 h1_6 h1_7 h1_8 h1_9).map (sm d0o e44):=by
 unfold h0F;exact go k44 (Q @v0X @v0Y)
def w0S(old11_0:Bool)(old11_1:List Bs)(i12:Int)(h0_0 h0_1:Bool)(h0_2 h0_3:Bool)(h0_4 h0_5:Bool)(h0_6 h0_7:Int)(h0_8 h0_9:Int)(h1_0 h1_1:Bool)(h1_2 h1_3:Bool)(h1_4 h1_5:Bool)(h1_6 h1_7:Int)(h1_8 h1_9:Int):Option R44:=iter (fun x:(Bool×List Bs×Int×Bool×Bool×Bool×Bool×Bool×Bool×Int×Int×Int×Int×Bool×Bool×Bool×Bool×Bool×Bool×Int×Int×Int×Int)=>h0F x.1 x.2.1 x.2.2.1 x.2.2.2.1 x.2.2.2.2.1 x.2.2.2.2.2.1 x.2.2.2.2.2.2.1 x.2.2.2.2.2.2.2.1 x.2.2.2.2.2.2.2.2.1 x.2.2.2.2.2.2.2.2.2.1 x.2.2.2.2.2.2.2.2.2.2.1 x.2.2.2.2.2.2.2.2.2.2.2.1 x.2.2.2.2.2.2.2.2.2.2.2.2.1 x.2.2.2.2.2.2.2.2.2.2.2.2.2.1 x.2.2.2.2.2.2.2.2.2.2.2.2.2.2.1 x.2.2.2.2.2.2.2.2.2.2.2.2.2.2.2.1 x.2.2.2.2.2.2.2.2.2.2.2.2.2.2.2.2.1 x.2.2.2.2.2.2.2.2.2.2.2.2.2.2.2.2.2.1 x.2.2.2.2.2.2.2.2.2.2.2.2.2.2.2.2.2.2.1 x.2.2.2.2.2.2.2.2.2.2.2.2.2.2.2.2.2.2.2.1 x.2.2.2.2.2.2.2.2.2.2.2.2.2.2.2.2.2.2.2.2.1 x.2.2.2.2.2.2.2.2.2.2.2.2.2.2.2.2.2.2.2.2.2.1 x.2.2.2.2.2.2.2.2.2.2.2.2.2.2.2.2.2.2.2.2.2.2) (old11_0,old11_1,i12,h0_0,h0_1,h0_2,h0_3,h0_4,h0_5,h0_6,h0_7,h0_8,h0_9,h1_0,h1_1,h1_2,h1_3,h1_4,h1_5,h1_6,h1_7,h1_8,h1_9)
theorem A0V(old11_0:Bool)(old11_1:List Bs)(i12:Int)(h0_0 h0_1:Bool)(h0_2 h0_3:Bool)(h0_4 h0_5:Bool)(h0_6 h0_7:Int)(h0_8 h0_9:Int)(h1_0 h1_1:Bool)(h1_2 h1_3:Bool)(h1_4 h1_5:Bool)(h1_6 h1_7:Int)(h1_8 h1_9:Int):(j0s mm) (itW (lp (E0 mm) 44 0 d0P q0Q) (d0o (old11_0,old11_1,i12,h0_0,h0_1,h0_2,h0_3,h0_4,h0_5,h0_6,h0_7,h0_8,h0_9,h1_0,h1_1,h1_2,h1_3,h1_4,h1_5,h1_6,h1_7,h1_8,h1_9)))=(w0S old11_0 old11_1 i12 h0_0 h0_1 h0_2 h0_3 h0_4 h0_5 h0_6 h0_7 h0_8 h0_9 h1_0 h1_1 h1_2 h1_3 h1_4 h1_5 h1_6 h1_7 h1_8 h1_9).map e44:=
 it_sim (K:=(j0s mm)) rfl (enc:=d0o) (fun x=>B0H x.1 x.2.1 x.2.2.1 x.2.2.2.1 x.2.2.2.2.1 x.2.2.2.2.2.1 x.2.2.2.2.2.2.1 x.2.2.2.2.2.2.2.1 x.2.2.2.2.2.2.2.2.1 x.2.2.2.2.2.2.2.2.2.1 x.2.2.2.2.2.2.2.2.2.2.1 x.2.2.2.2.2.2.2.2.2.2.2.1 x.2.2.2.2.2.2.2.2.2.2.2.2.1 x.2.2.2.2.2.2.2.2.2.2.2.2.2.1 x.2.2.2.2.2.2.2.2.2.2.2.2.2.2.1 x.2.2.2.2.2.2.2.2.2.2.2.2.2.2.2.1 x.2.2.2.2.2.2.2.2.2.2.2.2.2.2.2.2.1 x.2.2.2.2.2.2.2.2.2.2.2.2.2.2.2.2.2.1 x.2.2.2.2.2.2.2.2.2.2.2.2.2.2.2.2.2.2.1 x.2.2.2.2.2.2.2.2.2.2.2.2.2.2.2.2.2.2.2.1 x.2.2.2.2.2.2.2.2.2.2.2.2.2.2.2.2.2.2.2.2.1 x.2.2.2.2.2.2.2.2.2.2.2.2.2.2.2.2.2.2.2.2.2.1 x.2.2.2.2.2.2.2.2.2.2.2.2.2.2.2.2.2.2.2.2.2.2) (old11_0,old11_1,i12,h0_0,h0_1,h0_2,h0_3,h0_4,h0_5,h0_6,h0_7,h0_8,h0_9,h1_0,h1_1,h1_2,h1_3,h1_4,h1_5,h1_6,h1_7,h1_8,h1_9)
def k0V(l0_0:Bool)(l0_1:List (Bs×Bs))(h0_0 h0_1:Bool)(h0_2 h0_3:Bool)(h0_4 h0_5:Bool)(h0_6 h0_7:Int)(h0_8 h0_9:Int)(h1_0 h1_1:Bool)(h1_2 h1_3:Bool)(h1_4 h1_5:Bool)(h1_6 h1_7:Int)(h1_8 h1_9:Int):Option R44:=
 (m49 l0_0 l0_1 ([112,114,97,103,109,97]:Bs)).bind fun yr30=>
  w0S yr30.1 yr30.2 (0:Int) h0_0 h0_1 h0_2 h0_3 h0_4 h0_5 h0_6 h0_7 h0_8 h0_9 h1_0 h1_1 h1_2 h1_3 h1_4 h1_5 h1_6 h1_7 h1_8 h1_9
theorem z0I(l0_0:Bool)(l0_1:List (Bs×Bs))(h0_0 h0_1:Bool)(h0_2 h0_3:Bool)(h0_4 h0_5:Bool)(h0_6 h0_7:Int)(h0_8 h0_9:Int)(h1_0 h1_1:Bool)(h1_2 h1_3:Bool)(h1_4 h1_5:Bool)(h1_6 h1_7:Int)(h1_8 h1_9:Int)(sl:Sl)(_:sl 0=vd (.lst l0_0 (enL enSS l0_1)))(_:sl 2=.v (.c (.ptr 0 0)))(_:sl 3=.v (.c (.ptr 1 0))):
  b44 mm (dn (E0 mm) 44 0 d0O sl [.cells [.d (dB h0_0),.d (dB h0_1),.d (dB h0_2),.d (dB h0_3),.d (dB h0_4),.d (dB h0_5),.d (dI h0_6),.d (dI h0_7),.d (dI h0_8),.d (dI h0_9)],.cells [.d (dB h1_0),.d (dB h1_1),.d (dB h1_2),.d (dB h1_3),.d (dB h1_4),.d (dB h1_5),.d (dI h1_6),.d (dI h1_7),.d (dI h1_8),.d (dI h1_9)]])=(k0V l0_0 l0_1 h0_0 h0_1 h0_2 h0_3 h0_4 h0_5 h0_6 h0_7 h0_8 h0_9 h1_0 h1_1 h1_2 h1_3 h1_4 h1_5 h1_6 h1_7 h1_8 h1_9).map e44:=by
 unfold k0V;exact go (Q (nE d0O (.seq G0u (.seq (.seq G0v (.block 5 u0v)) e0Z))) k44) @A0V
def g0k(l0_0:Bool)(l0_1:List (Bs×Bs))(i10:Int)(h0_0 h0_1:Bool)(h0_2 h0_3:Bool)(h0_4 h0_5:Bool)(h0_6 h0_7:Int)(h0_8 h0_9:Int)(h1_0 h1_1:Bool)(h1_2 h1_3:Bool)(h1_4 h1_5:Bool)(h1_6 h1_7:Int)(h1_8 h1_9:Int):Option ((Bool×List (Bs×Bs)×Int×Bool×Bool×Bool×Bool×Bool×Bool×Int×Int×Int×Int×Bool×Bool×Bool×Bool×Bool×Bool×Int×Int×Int×Int) ⊕ R44):=
 if (decide (i10<(l0_1.length:Int)))=true then
  if 0≤i10∧i10<(l0_1.length:Int) then
   (m95 ((l0_1.getD i10.toNat default).1) ([99,97,99,104,101,45,99,111,110,116,114,111,108]:Bs)).bind fun yr27=>
    if yr27=true then
     some (.inr (h1_0,h1_1,h1_2,h1_3,h1_4,h1_5,h1_6,h1_7,h1_8,h1_9))
    else
     some (.inl (l0_0,l0_1,(w64 (i10+1)),h0_0,h0_1,h0_2,h0_3,h0_4,h0_5,h0_6,h0_7,h0_8,h0_9,h1_0,h1_1,h1_2,h1_3,h1_4,h1_5,h1_6,h1_7,h1_8,h1_9))
  else none
 else
  (k0V l0_0 l0_1 h0_0 h0_1 h0_2 h0_3 h0_4 h0_5 h0_6 h0_7 h0_8 h0_9 h1_0 h1_1 h1_2 h1_3 h1_4 h1_5 h1_6 h1_7 h1_8 h1_9).map .inr
theorem B0G(l0_0:Bool)(l0_1:List (Bs×Bs))(i10:Int)(h0_0 h0_1:Bool)(h0_2 h0_3:Bool)(h0_4 h0_5:Bool)(h0_6 h0_7:Int)(h0_8 h0_9:Int)(h1_0 h1_1:Bool)(h1_2 h1_3:Bool)(h1_4 h1_5:Bool)(h1_6 h1_7:Int)(h1_8 h1_9:Int):
  stepE (n0f mm) (lp (E0 mm) 44 0 d0N y0l (f0q (l0_0,l0_1,i10,h0_0,h0_1,h0_2,h0_3,h0_4,h0_5,h0_6,h0_7,h0_8,h0_9,h1_0,h1_1,h1_2,h1_3,h1_4,h1_5,h1_6,h1_7,h1_8,h1_9)))=(g0k l0_0 l0_1 i10 h0_0 h0_1 h0_2 h0_3 h0_4 h0_5 h0_6 h0_7 h0_8 h0_9 h1_0 h1_1 h1_2 h1_3 h1_4 h1_5 h1_6 h1_7 h1_8 h1_9).map (sm f0q e44):=by
 unfold g0k;exact go k44 @z0I
def J0A(l0_0:Bool)(l0_1:List (Bs×Bs))(i10:Int)(h0_0 h0_1:Bool)(h0_2 h0_3:Bool)(h0_4 h0_5:Bool)(h0_6 h0_7:Int)(h0_8 h0_9:Int)(h1_0 h1_1:Bool)(h1_2 h1_3:Bool)(h1_4 h1_5:Bool)(h1_6 h1_7:Int)(h1_8 h1_9:Int):Option R44:=iter (fun x:(Bool×List (Bs×Bs)×Int×Bool×Bool×Bool×Bool×Bool×Bool×Int×Int×Int×Int×Bool×Bool×Bool×Bool×Bool×Bool×Int×Int×Int×Int)=>g0k x.1 x.2.1 x.2.2.1 x.2.2.2.1 x.2.2.2.2.1 x.2.2.2.2.2.1 x.2.2.2.2.2.2.1 x.2.2.2.2.2.2.2.1 x.2.2.2.2.2.2.2.2.1 x.2.2.2.2.2.2.2.2.2.1 x.2.2.2.2.2.2.2.2.2.2.1 x.2.2.2.2.2.2.2.2.2.2.2.1 x.2.2.2.2.2.2.2.2.2.2.2.2.1 x.2.2.2.2.2.2.2.2.2.2.2.2.2.1 x.2.2.2.2.2.2.2.2.2.2.2.2.2.2.1 x.2.2.2.2.2.2.2.2.2.2.2.2.2.2.2.1 x.2.2.2.2.2.2.2.2.2.2.2.2.2.2.2.2.1 x.2.2.2.2.2.2.2.2.2.2.2.2.2.2.2.2.2.1 x.2.2.2.2.2.2.2.2.2.2.2.2.2.2.2.2.2.2.1 x.2.2.2.2.2.2.2.2.2.2.2.2.2.2.2.2.2.2.2.1 x.2.2.2.2.2.2.2.2.2.2.2.2.2.2.2.2.2.2.2.2.1 x.2.2.2.2.2.2.2.2.2.2.2.2.2.2.2.2.2.2.2.2.2.1 x.2.2.2.2.2.2.2.2.2.2.2.2.2.2.2.2.2.2.2.2.2.2) (l0_0,l0_1,i10,h0_0,h0_1,h0_2,h0_3,h0_4,h0_5,h0_6,h0_7,h0_8,h0_9,h1_0,h1_1,h1_2,h1_3,h1_4,h1_5,h1_6,h1_7,h1_8,h1_9)
theorem A0U(l0_0:Bool)(l0_1:List (Bs×Bs))(i10:Int)(h0_0 h0_1:Bool)(h0_2 h0_3:Bool)(h0_4 h0_5:Bool)(h0_6 h0_7:Int)(h0_8 h0_9:Int)(h1_0 h1_1:Bool)(h1_2 h1_3:Bool)(h1_4 h1_5:Bool)(h1_6 h1_7:Int)(h1_8 h1_9:Int):(n0f mm) (itW (lp (E0 mm) 44 0 d0N y0l) (f0q (l0_0,l0_1,i10,h0_0,h0_1,h0_2,h0_3,h0_4,h0_5,h0_6,h0_7,h0_8,h0_9,h1_0,h1_1,h1_2,h1_3,h1_4,h1_5,h1_6,h1_7,h1_8,h1_9)))=(J0A l0_0 l0_1 i10 h0_0 h0_1 h0_2 h0_3 h0_4 h0_5 h0_6 h0_7 h0_8 h0_9 h1_0 h1_1 h1_2 h1_3 h1_4 h1_5 h1_6 h1_7 h1_8 h1_9).map e44:=
 it_sim (K:=(n0f mm)) rfl (enc:=f0q) (fun x=>B0G x.1 x.2.1 x.2.2.1 x.2.2.2.1 x.2.2.2.2.1 x.2.2.2.2.2.1 x.2.2.2.2.2.2.1 x.2.2.2.2.2.2.2.1 x.2.2.2.2.2.2.2.2.1 x.2.2.2.2.2.2.2.2.2.1 x.2.2.2.2.2.2.2.2.2.2.1 x.2.2.2.2.2.2.2.2.2.2.2.1 x.2.2.2.2.2.2.2.2.2.2.2.2.1 x.2.2.2.2.2.2.2.2.2.2.2.2.2.1 x.2.2.2.2.2.2.2.2.2.2.2.2.2.2.1 x.2.2.2.2.2.2.2.2.2.2.2.2.2.2.2.1 x.2.2.2.2.2.2.2.2.2.2.2.2.2.2.2.2.1 x.2.2.2.2.2.2.2.2.2.2.2.2.2.2.2.2.2.1 x.2.2.2.2.2.2.2.2.2.2.2.2.2.2.2.2.2.2.1 x.2.2.2.2.2.2.2.2.2.2.2.2.2.2.2.2.2.2.2.1 x.2.2.2.2.2.2.2.2.2.2.2.2.2.2.2.2.2.2.2.2.1 x.2.2.2.2.2.2.2.2.2.2.2.2.2.2.2.2.2.2.2.2.2.1 x.2.2.2.2.2.2.2.2.2.2.2.2.2.2.2.2.2.2.2.2.2.2) (l0_0,l0_1,i10,h0_0,h0_1,h0_2,h0_3,h0_4,h0_5,h0_6,h0_7,h0_8,h0_9,h1_0,h1_1,h1_2,h1_3,h1_4,h1_5,h1_6,h1_7,h1_8,h1_9)
def o0P(l0_0:Bool)(l0_1:List (Bs×Bs))(h0_0 h0_1:Bool)(h0_2 h0_3:Bool)(h0_4 h0_5:Bool)(h0_6 h0_7:Int)(h0_8 h0_9:Int)(h1_0 h1_1:Bool)(h1_2 h1_3:Bool)(h1_4 h1_5:Bool)(h1_6 h1_7:Int)(h1_8 h1_9:Int):Option R44:=
 J0A l0_0 l0_1 (0:Int) h0_0 h0_1 h0_2 h0_3 h0_4 h0_5 h0_6 h0_7 h0_8 h0_9 h1_0 h1_1 h1_2 h1_3 h1_4 h1_5 h1_6 h1_7 h1_8 h1_9
theorem z0H(l0_0:Bool)(l0_1:List (Bs×Bs))(h0_0 h0_1:Bool)(h0_2 h0_3:Bool)(h0_4 h0_5:Bool)(h0_6 h0_7:Int)(h0_8 h0_9:Int)(h1_0 h1_1:Bool)(h1_2 h1_3:Bool)(h1_4 h1_5:Bool)(h1_6 h1_7:Int)(h1_8 h1_9:Int)(g2:Ob)(sl:Sl)(_:sl 0=vd (.lst l0_0 (enL enSS l0_1)))(_:sl 2=.v (.c (.ptr 0 0)))(_:sl 3=.v (.c (.ptr 1 0))):
  b44 mm (dn (E0 mm) 44 0 f0a sl [.cells [.d (dB h0_0),.d (dB h0_1),.d (dB h0_2),.d (dB h0_3),.d (dB h0_4),.d (dB h0_5),.d (dI h0_6),.d (dI h0_7),.d (dI h0_8),.d (dI h0_9)],.cells [.d (dB h1_0),.d (dB h1_1),.d (dB h1_2),.d (dB h1_3),.d (dB h1_4),.d (dB h1_5),.d (dI h1_6),.d (dI h1_7),.d (dI h1_8),.d (dI h1_9)],g2])=(o0P l0_0 l0_1 h0_0 h0_1 h0_2 h0_3 h0_4 h0_5 h0_6 h0_7 h0_8 h0_9 h1_0 h1_1 h1_2 h1_3 h1_4 h1_5 h1_6 h1_7 h1_8 h1_9).map e44:=by
 unfold o0P;exact go (Q (nE f0a (.seq (.seq G0p (.block 3 u0u)) d0O)) k44) @A0U
def g0j(l0_0:Bool)(l0_1:List (Bs×Bs))(all4_0:Bool)(all4_1:List Bs)(i5:Int)(h0_0 h0_1:Bool)(h0_2 h0_3:Bool)(h0_4 h0_5:Bool)(h0_6 h0_7:Int)(h0_8 h0_9:Int)(h1_0 h1_1:Bool)(h1_2 h1_3:Bool)(h1_4 h1_5:Bool)(h1_6 h1_7:Int)(h1_8 h1_9:Int):Option ((Bool×List (Bs×Bs)×Bool×List Bs×Int×Bool×Bool×Bool×Bool×Bool×Bool×Int×Int×Int×Int×Bool×Bool×Bool×Bool×Bool×Bool×Int×Int×Int×Int) ⊕ R44):=
 if (decide (i5<(all4_1.length:Int)))=true then
  if 0≤i5∧i5<(all4_1.length:Int) then
   (m92 (all4_1.getD i5.toNat default)).bind fun yr7=>
    if yr7.2.2=true then
     (m93 yr7.2.1).bind fun yr10=>
      if (yr7.1==([110,111,45,115,116,111,114,101]:Bs))=true then
       a0I l0_0 l0_1 all4_0 all4_1 i5 h0_0 h0_1 h0_2 h0_3 h0_4 h0_5 h0_6 h0_7 h0_8 h0_9 true h1_1 h1_2 h1_3 h1_4 h1_5 h1_6 h1_7 h1_8 h1_9
      else
       if (yr7.1==([110,111,45,99,97,99,104,101]:Bs))=true then
        a0I l0_0 l0_1 all4_0 all4_1 i5 h0_0 h0_1 h0_2 h0_3 h0_4 h0_5 h0_6 h0_7 h0_8 h0_9 h1_0 true h1_2 h1_3 h1_4 h1_5 h1_6 h1_7 h1_8 h1_9
       else
        if (yr7.1==([111,110,108,121,45,105,102,45,99,97,99,104,101,100]:Bs))=true then
         a0I l0_0 l0_1 all4_0 all4_1 i5 h0_0 h0_1 h0_2 h0_3 h0_4 h0_5 h0_6 h0_7 h0_8 h0_9 h1_0 h1_1 h1_2 h1_3 h1_4 true h1_6 h1_7 h1_8 h1_9
        else
         if (yr7.1==([109,97,120,45,97,103,101]:Bs))=true then
          (m94 h1_6 yr10).bind fun yr16=>
           a0I l0_0 l0_1 all4_0 all4_1 i5 h0_0 h0_1 h0_2 h0_3 h0_4 h0_5 h0_6 h0_7 h0_8 h0_9 h1_0 h1_1 h1_2 h1_3 h1_4 h1_5 yr16 h1_7 h1_8 h1_9
         else
          if (yr7.1==([109,105,110,45,102,114,101,115,104]:Bs))=true then
           if (decide (h1_8<yr10))=true then
            a0I l0_0 l0_1 all4_0 all4_1 i5 h0_0 h0_1 h0_2 h0_3 h0_4 h0_5 h0_6 h0_7 h0_8 h0_9 h1_0 h1_1 h1_2 h1_3 h1_4 h1_5 h1_6 h1_7 yr10 h1_9
           else
            a0I l0_0 l0_1 all4_0 all4_1 i5 h0_0 h0_1 h0_2 h0_3 h0_4 h0_5 h0_6 h0_7 h0_8 h0_9 h1_0 h1_1 h1_2 h1_3 h1_4 h1_5 h1_6 h1_7 h1_8 h1_9
          else
           if (yr7.1==([109,97,120,45,115,116,97,108,101]:Bs))=true then
            if (yr7.2.1==([]:Bs))=true then
             k0U l0_0 l0_1 all4_0 all4_1 i5 (2147483647:Int) h0_0 h0_1 h0_2 h0_3 h0_4 h0_5 h0_6 h0_7 h0_8 h0_9 h1_0 h1_1 h1_2 h1_3 h1_4 h1_5 h1_6 h1_7 h1_8 h1_9
            else
             k0U l0_0 l0_1 all4_0 all4_1 i5 yr10 h0_0 h0_1 h0_2 h0_3 h0_4 h0_5 h0_6 h0_7 h0_8 h0_9 h1_0 h1_1 h1_2 h1_3 h1_4 h1_5 h1_6 h1_7 h1_8 h1_9
           else
            a0I l0_0 l0_1 all4_0 all4_1 i5 h0_0 h0_1 h0_2 h0_3 h0_4 h0_5 h0_6 h0_7 h0_8 h0_9 h1_0 h1_1 h1_2 h1_3 h1_4 h1_5 h1_6 h1_7 h1_8 h1_9
    else
     a0I l0_0 l0_1 all4_0 all4_1 i5 h0_0 h0_1 h0_2 h0_3 h0_4 h0_5 h0_6 h0_7 h0_8 h0_9 h1_0 h1_1 h1_2 h1_3 h1_4 h1_5 h1_6 h1_7 h1_8 h1_9
  else none
 else
  (o0P l0_0 l0_1 h0_0 h0_1 h0_2 h0_3 h0_4 h0_5 h0_6 h0_7 h0_8 h0_9 h1_0 h1_1 h1_2 h1_3 h1_4 h1_5 h1_6 h1_7 h1_8 h1_9).map .inr
theorem B0F(l0_0:Bool)(l0_1:List (Bs×Bs))(all4_0:Bool)(all4_1:List Bs)(i5:Int)(h0_0 h0_1:Bool)(h0_2 h0_3:Bool)(h0_4 h0_5:Bool)(h0_6 h0_7:Int)(h0_8 h0_9:Int)(h1_0 h1_1:Bool)(h1_2 h1_3:Bool)(h1_4 h1_5:Bool)(h1_6 h1_7:Int)(h1_8 h1_9:Int):
  stepE (g0B mm) (lp (E0 mm) 44 0 a0c p0E (b0O (l0_0,l0_1,all4_0,all4_1,i5,h0_0,h0_1,h0_2,h0_3,h0_4,h0_5,h0_6,h0_7,h0_8,h0_9,h1_0,h1_1,h1_2,h1_3,h1_4,h1_5,h1_6,h1_7,h1_8,h1_9)))=(g0j l0_0 l0_1 all4_0 all4_1 i5 h0_0 h0_1 h0_2 h0_3 h0_4 h0_5 h0_6 h0_7 h0_8 h0_9 h1_0 h1_1 h1_2 h1_3 h1_4 h1_5 h1_6 h1_7 h1_8 h1_9).map (sm b0O e44):=by
 unfold g0j;exact go k44 (Q @o0O (Q @z0G @z0H))
def J0z(l0_0:Bool)(l0_1:List (Bs×Bs))(all4_0:Bool)(all4_1:List Bs)(i5:Int)(h0_0 h0_1:Bool)(h0_2 h0_3:Bool)(h0_4 h0_5:Bool)(h0_6 h0_7:Int)(h0_8 h0_9:Int)(h1_0 h1_1:Bool)(h1_2 h1_3:Bool)(h1_4 h1_5:Bool)(h1_6 h1_7:Int)(h1_8 h1_9:Int):Option R44:=iter (fun x:(Bool×List (Bs×Bs)×Bool×List Bs×Int×Bool×Bool×Bool×Bool×Bool×Bool×Int×Int×Int×Int×Bool×Bool×Bool×Bool×Bool×Bool×Int×Int×Int×Int)=>g0j x.1 x.2.1 x.2.2.1 x.2.2.2.1 x.2.2.2.2.1 x.2.2.2.2.2.1 x.2.2.2.2.2.2.1 x.2.2.2.2.2.2.2.1 x.2.2.2.2.2.2.2.2.1 x.2.2.2.2.2.2.2.2.2.1 x.2.2.2.2.2.2.2.2.2.2.1 x.2.2.2.2.2.2.2.2.2.2.2.1 x.2.2.2.2.2.2.2.2.2.2.2.2.1 x.2.2.2.2.2.2.2.2.2.2.2.2.2.1 x.2.2.2.2.2.2.2.2.2.2.2.2.2.2.1 x.2.2.2.2.2.2.2.2.2.2.2.2.2.2.2.1 x.2.2.2.2.2.2.2.2.2.2.2.2.2.2.2.2.1 x.2.2.2.2.2.2.2.2.2.2.2.2.2.2.2.2.2.1 x.2.2.2.2.2.2.2.2.2.2.2.2.2.2.2.2.2.2.1 x.2.2.2.2.2.2.2.2.2.2.2.2.2.2.2.2.2.2.2.1 x.2.2.2.2.2.2.2.2.2.2.2.2.2.2.2.2.2.2.2.2.1 x.2.2.2.2.2.2.2.2.2.2.2.2.2.2.2.2.2.2.2.2.2.1 x.2.2.2.2.2.2.2.2.2.2.2.2.2.2.2.2.2.2.2.2.2.2.1 x.2.2.2.2.2.2.2.2.2.2.2.2.2.2.2.2.2.2.2.2.2.2.2.1 x.2.2.2.2.2.2.2.2.2.2.2.2.2.2.2.2.2.2.2.2.2.2.2.2) (l0_0,l0_1,all4_0,all4_1,i5,h0_0,h0_1,h0_2,h0_3,h0_4,h0_5,h0_6,h0_7,h0_8,h0_9,h1_0,h1_1,h1_2,h1_3,h1_4,h1_5,h1_6,h1_7,h1_8,h1_9)
theorem A0T(l0_0:Bool)(l0_1:List (Bs×Bs))(all4_0:Bool)(all4_1:List Bs)(i5:Int)(h0_0 h0_1:Bool)(h0_2 h0_3:Bool)(h0_4 h0_5:Bool)(h0_6 h0_7:Int)(h0_8 h0_9:Int)(h1_0 h1_1:Bool)(h1_2 h1_3:Bool)(h1_4 h1_5:Bool)(h1_6 h1_7:Int)(h1_8 h1_9:Int):(g0B mm) (itW (lp (E0 mm) 44 0 a0c p0E) (b0O (l0_0,l0_1,all4_0,all4_1,i5,h0_0,h0_1,h0_2,h0_3,h0_4,h0_5,h0_6,h0_7,h0_8,h0_9,h1_0,h1_1,h1_2,h1_3,h1_4,h1_5,h1_6,h1_7,h1_8,h1_9)))=(J0z l0_0 l0_1 all4_0 all4_1 i5 h0_0 h0_1 h0_2 h0_3 h0_4 h0_5 h0_6 h0_7 h0_8 h0_9 h1_0 h1_1 h1_2 h1_3 h1_4 h1_5 h1_6 h1_7 h1_8 h1_9).map e44:=
 it_sim (K:=(g0B mm)) rfl (enc:=b0O) (fun x=>B0F x.1 x.2.1 x.2.2.1 x.2.2.2.1 x.2.2.2.2.1 x.2.2.2.2.2.1 x.2.2.2.2.2.2.1 x.2.2.2.2.2.2.2.1 x.2.2.2.2.2.2.2.2.1 x.2.2.2.2.2.2.2.2.2.1 x.2.2.2.2.2.2.2.2.2.2.1 x.2.2.2.2.2.2.2.2.2.2.2.1 x.2.2.2.2.2.2.2.2.2.2.2.2.1 x.2.2.2.2.2.2.2.2.2.2.2.2.2.1 x.2.2.2.2.2.2.2.2.2.2.2.2.2.2.1 x.2.2.2.2.2.2.2.2.2.2.2.2.2.2.2.1 x.2.2.2.2.2.2.2.2.2.2.2.2.2.2.2.2.1 x.2.2.2.2.2.2.2.2.2.2.2.2.2.2.2.2.2.1 x.2.2.2.2.2.2.2.2.2.2.2.2.2.2.2.2.2.2.1 x.2.2.2.2.2.2.2.2.2.2.2.2.2.2.2.2.2.2.2.1 x.2.2.2.2.2.2.2.2.2.2.2.2.2.2.2.2.2.2.2.2.1 x.2.2.2.2.2.2.2.2.2.2.2.2.2.2.2.2.2.2.2.2.2.1 x.2.2.2.2.2.2.2.2.2.2.2.2.2.2.2.2.2.2.2.2.2.2.1 x.2.2.2.2.2.2.2.2.2.2.2.2.2.2.2.2.2.2.2.2.2.2.2.1 x.2.2.2.2.2.2.2.2.2.2.2.2.2.2.2.2.2.2.2.2.2.2.2.2) (l0_0,l0_1,all4_0,all4_1,i5,h0_0,h0_1,h0_2,h0_3,h0_4,h0_5,h0_6,h0_7,h0_8,h0_9,h1_0,h1_1,h1_2,h1_3,h1_4,h1_5,h1_6,h1_7,h1_8,h1_9)
def m44(l_0:Bool)(l_1:List (Bs×Bs)):Option R44:=
 (m49 l_0 l_1 ([99,97,99,104,101,45,99,111,110,116,114,111,108]:Bs)).bind fun yr2=>
  J0z l_0 l_1 yr2.1 yr2.2 (0:Int) false false false false false false (0:Int) (0:Int) (0:Int) (0:Int) false false false false false false (-1:Int) (-1:Int) (-1:Int) (-1:Int)
theorem T0T(l_0:Bool)(l_1:List (Bs×Bs)):
  callW (E0 mm) 44 [cd (.lst l_0 (enL enSS l_1))] []=(m44 l_0 l_1).map e44:=by
 rw[cR j0X [.cell 2 37] Tryz.func44]
 unfold m44;exact go k44 @A0T
noncomputable def u0g:Code:=bodyOf Tryz.f23
def M0P:=cA u0g
def M0Q:=cA (cB u0g)
def u0h:=cA (cB (cB u0g))
theorem c23_5_r(m:Nat)(st:St):den (E0 mm) 23 m (callW (E0 mm)) itW u0h none st=regD ((runF (E0 mm) (callW (E0 mm)) (opsOf u0h) (opsOf u0h) [none,none,some false,none,none,some false,none,none,some false,none,none,some false,none,none,some false,none,some true,some false,none,some true,none,none,none] st []).bind (ckF [(16,2),(16,5),(16,8),(16,11),(16,14),(19,2),(19,5),(19,8),(19,11),(19,14),(19,17)])):=den_dF (by kernel_rfl)
abbrev R23:=(Bool×Bool×Bool×Bool×Bool×Bool×Int×Int×Int×Int)
def e23(x:R23):AV×Heap:=(.v (.agg [.d (dB x.1),.d (dB x.2.1),.d (dB x.2.2.1),.d (dB x.2.2.2.1),.d (dB x.2.2.2.2.1),.d (dB x.2.2.2.2.2.1),.d (dI x.2.2.2.2.2.2.1),.d (dI x.2.2.2.2.2.2.2.1),.d (dI x.2.2.2.2.2.2.2.2.1),.d (dI x.2.2.2.2.2.2.2.2.2)]),[])
def m23(l_0:Bool)(l_1:List (Bs×Bs)):Option R23:=
 (m59 l_0 l_1).bind fun yr2=>
  (m60 false ([([110,111,45,115,116,111,114,101]:Bs)]:List Bs) yr2).bind fun yr4=>
   (m60 false ([([110,111,45,99,97,99,104,101]:Bs)]:List Bs) yr2).bind fun yr6=>
    (m60 false ([([112,114,105,118,97,116,101]:Bs)]:List Bs) yr2).bind fun yr8=>
     (m60 false ([([112,117,98,108,105,99]:Bs)]:List Bs) yr2).bind fun yr10=>
      (m60 false ([([109,117,115,116,45,114,101,118,97,108,105,100,97,116,101]:Bs),([112,114,111,120,121,45,114,101,118,97,108,105,100,97,116,101]:Bs)]:List Bs) yr2).bind fun yr12=>
       (m61 (!(hasM ([109,97,120,45,97,103,101]:Bs) yr2)) (valM ([109,97,120,45,97,103,101]:Bs) yr2)).bind fun yr14=>
        (m61 (!(hasM ([115,45,109,97,120,97,103,101]:Bs) yr2)) (valM ([115,45,109,97,120,97,103,101]:Bs) yr2)).bind fun yr16=>
         some (yr4,yr6,yr8,yr10,yr12,false,yr14,yr16,(-1:Int),(-1:Int))
def k23:=Q (rx M0P) (Q @ao78 (Q (rx M0Q) (Q @R0g (Q @e59.eq_1 (Q @c23_5_r (Q (show opsOf u0h=_::_ from rfl) (Q @hd79 (Q @nv80 (Q @rw81 (Q (fun (mm:Int) (yr2:R59)=>(show callW (E0 mm) 60 [.c (.mp 0),cd (.lst false (enL enS ([([110,111,45,115,116,111,114,101]:Bs)]:List Bs)))] [.amap (enM yr2)]=_ from g0x false ([([110,111,45,115,116,111,114,101]:Bs)]:List Bs) yr2)) (Q @g0x (Q setF (Q @e60.eq_1 (Q (fun (mm:Int) (yr2:R59)=>(show callW (E0 mm) 60 [.c (.mp 0),cd (.lst false (enL enS ([([110,111,45,99,97,99,104,101]:Bs)]:List Bs)))] [.amap (enM yr2)]=_ from g0x false ([([110,111,45,99,97,99,104,101]:Bs)]:List Bs) yr2)) (Q (fun (mm:Int) (yr2:R59)=>(show callW (E0 mm) 60 [.c (.mp 0),cd (.lst false (enL enS ([([112,114,105,118,97,116,101]:Bs)]:List Bs)))] [.amap (enM yr2)]=_ from g0x false ([([112,114,105,118,97,116,101]:Bs)]:List Bs) yr2)) (Q (fun (mm:Int) (yr2:R59)=>(show callW (E0 mm) 60 [.c (.mp 0),cd (.lst false (enL enS ([([112,117,98,108,105,99]:Bs)]:List Bs)))] [.amap (enM yr2)]=_ from g0x false ([([112,117,98,108,105,99]:Bs)]:List Bs) yr2)) (Q @ns82 (Q (fun (mm:Int) (yr2:R59)=>(show callW (E0 mm) 60 [.c (.mp 0),cd (.lst false (enL enS ([([109,117,115,116,45,114,101,118,97,108,105,100,97,116,101]:Bs),([112,114,111,120,121,45,114,101,118,97,108,105,100,97,116,101]:Bs)]:List Bs)))] [.amap (enM yr2)]=_ from g0x false ([([109,117,115,116,45,114,101,118,97,108,105,100,97,116,101]:Bs),([112,114,111,120,121,45,114,101,118,97,108,105,100,97,116,101]:Bs)]:List Bs) yr2)) (Q @R0h (Q @e61.eq_1 (Q (nE u0g (.seq M0P (.seq M0Q (.seq u0h .ret)))) hA)))))))))))))))))))))
theorem R0c(l_0:Bool)(l_1:List (Bs×Bs)):
  callW (E0 mm) 23 [cd (.lst l_0 (enL enSS l_1))] []=(m23 l_0 l_1).map e23:=by
 rw[cR u0g [.cell 2 37] Tryz.func23]
 unfold m23;exact go k23 trivial
noncomputable def e0A:Code:=bodyOf Tryz.f110
def C0w:=cA e0A
def C0x:=cA (cB e0A)
def C0y:=cA (cA (cB (cB e0A)))
def C0z:=cA (cA (cB (cA (cB (cB e0A)))))
def s0e:=cA (cB (cB (cB e0A)))
abbrev U0L:=(Bs×Bool)
def V0x(x:U0L):AV×Heap:=(.tup [cd (dS x.1),cd (dB x.2)],[])
def T0a(r0_0:Int)(r0_1:Bs)(r0_2:Int)(r0_3:Bool)(r0_4:List (Bs×Bs))(r0_5:Bool)(r0_6:List UInt8)(name:Bs):Option U0L:=
 (m29 r0_3 r0_4 name).bind fun yr2=>
  if ((yr2.2.length:Int)==1)=true then
   if (0:Int)<(yr2.2.length:Int) then
    some ((yr2.2.getD 0 default),true)
   else none
  else
   some (([]:Bs),false)
def W0j:=Q (rx C0w) (Q (rx C0x) (Q @m0q (Q @e29.eq_1 (Q (rx C0y) (Q (rx s0e) (Q (rx C0z) (Q (nE e0A (.seq C0w (.seq C0x (.seq (.seq C0y (.cond _ (.seq C0z .ret) .skip)) (.seq s0e .ret))))) hA)))))))
theorem Q0t(r0_0:Int)(r0_1:Bs)(r0_2:Int)(r0_3:Bool)(r0_4:List (Bs×Bs))(r0_5:Bool)(r0_6:List UInt8)(name:Bs):
  callW (E0 mm) 110 [.agg [.d (dI r0_0),.d (dS r0_1),.d (dI r0_2),.d (.lst r0_3 (enL enSS r0_4)),.d (.lst r0_5 (enL enB r0_6))],cd (dS name)] []=(T0a r0_0 r0_1 r0_2 r0_3 r0_4 r0_5 r0_6 name).map V0x:=by
 rw[cR e0A [.tmp 4,.tmp 5] Tryz.func110]
 unfold T0a;exact go W0j trivial
noncomputable def n0z:Code:=bodyOf Tryz.f117
def C0P:=cA n0z
def C0Q:=cA (cB n0z)
abbrev U0Q:=(Int)
def T0D(x:U0Q):AV×Heap:=(vd (dI x),[])
def L0t(s substr:Bs):Option U0Q:=
 (mIx s substr).bind fun yr2=>
  some yr2
def W0o:=Q (rx C0P) (Q (rx C0Q) (Q @pIndex_t (Q (nE n0z (.seq C0P (.seq C0Q .ret))) hA)))
theorem v0b(s substr:Bs):
  callW (E0 mm) 117 [cd (dS s),cd (dS substr)] []=(L0t s substr).map T0D:=by
 rw[cR n0z [.tmp 4] Tryz.func117]
 unfold L0t;exact go W0o trivial
noncomputable def e0N:Code:=bodyOf Tryz.f134
def D0z:=cA e0N
def D0A:=cA (cB e0N)
def D0B:=cA (cA (cB (cB e0N)))
def t0h:=cA (cB (cA (cB (cB e0N))))
def d0I:=cA t0h
def t0c:=cA d0I
def t0d:=cA (cA (cA (cB (cB d0I))))
def t0e:=cB (cA (cA (cB (cB d0I))))
def t0f:=cB (cB (cB d0I))
def e0O:=cB (cB (cB e0N))
def t0g:=cA e0O
def n0o:List (Nat×Co):=[(0,.keep),(3,.keep),(6,.keep),(7,.keep)]
abbrev M0v:=(Int)
def Q0l(x:M0v):AV×Heap:=(vd (dI x),[])
def i0L(n3:Int):Option M0v:=
 some n3
def n0b(mm:Int)(r:Option (Ex×St)):Option (AV×Heap):=bodyD (E0 mm) [.tmp 2] 0 false (sq (E0 mm) 134 0 e0O (blockD 0 (r)))
def f0m(x:(Bs×Int×Int×Int)):X:=(none,[vd (dS x.1),vd (dI x.2.1),vd (dI x.2.2.1),vd (dI x.2.2.2)],[])
def U0A:=Q (rx t0g) (Q (rx t0c) (Q (rx t0d) (Q (rx t0e) (Q (rx t0f) (Q @n0b.eq_1 (Q (rx D0z) (Q (rx D0A) (Q (rx D0B) (Q (fun mm=>lx (E0 mm) 134 t0h d0I n0o) (Q (nE e0N (.seq D0z (.seq D0A (.seq (.seq D0B (.block 0 t0h)) e0O)))) (Q (nE d0I (.seq t0c (.seq (.cond _ .skip (.exit 0)) (.seq (.block 1 (.seq t0d t0e)) t0f)))) (Q @f0m.eq_1 (Q @n0o.eq_1 hA)))))))))))))
theorem v0O(n3:Int)(sl:Sl)(_:sl 3=vd (dI n3)):
  bodyD (E0 mm) [.tmp 2] 0 false (dn (E0 mm) 134 0 e0O sl [])=(i0L n3).map Q0l:=by
 unfold i0L;exact go (Q (nE e0O (.seq t0g .ret)) U0A) trivial
def l0p(s0:Bs)(n3 t6 t7:Int):Option ((Bs×Int×Int×Int) ⊕ M0v):=
 if (decide (t7<t6))=true then
  if 0≤t7∧t7<(s0.length:Int) then
   some (.inl (s0,(w64 ((w64 (10*n3))+((((s0.getD t7.toNat 0) - (48:UInt8)).toNat:Int).tmod 10))),t6,(w64 (t7+1))))
  else none
 else
  (i0L n3).map .inr
theorem B0z(s0:Bs)(n3 t6 t7:Int):
  stepE (n0b mm) (lp (E0 mm) 134 0 d0I n0o (f0m (s0,n3,t6,t7)))=(l0p s0 n3 t6 t7).map (sm f0m Q0l):=by
 unfold l0p;exact go U0A @v0O
def f0X(s0:Bs)(n3 t6 t7:Int):Option M0v:=iter (fun x:(Bs×Int×Int×Int)=>l0p x.1 x.2.1 x.2.2.1 x.2.2.2) (s0,n3,t6,t7)
theorem A0M(s0:Bs)(n3 t6 t7:Int):(n0b mm) (itW (lp (E0 mm) 134 0 d0I n0o) (f0m (s0,n3,t6,t7)))=(f0X s0 n3 t6 t7).map Q0l:=
 it_sim (K:=(n0b mm)) rfl (enc:=f0m) (fun x=>B0z x.1 x.2.1 x.2.2.1 x.2.2.2) (s0,n3,t6,t7)
def x0j(s:Bs):Option M0v:=
 f0X s (0:Int) (s.length:Int) (0:Int)
theorem Q0L(s:Bs):
  callW (E0 mm) 134 [cd (dS s)] []=(x0j s).map Q0l:=by
 rw[cR e0N [.tmp 2] Tryz.func134]
 unfold x0j;exact go U0A @A0M
noncomputable def g0R:Code:=bodyOf Tryz.f136
def D0G:=cA g0R
def D0H:=cA (cB g0R)
def D0I:=cA (cB (cB g0R))
def D0J:=cA (cB (cB (cB g0R)))
abbrev U0X:=(Int)
def T0F(x:U0X):AV×Heap:=(vd (dI x),[])
def L0D(year:Int):Option U0X:=
 some (w64 ((w64 ((w64 (365*(w64 (year - 1970))))+(w64 ((w64 ((w64 ((w64 (year - 1)).tdiv 4)) - (w64 ((w64 (year - 1)).tdiv 100))))+(w64 ((w64 (year - 1)).tdiv 400)))))) - 477))
def W0v:=Q (rx D0G) (Q (rx D0H) (Q (rx D0I) (Q (rx D0J) (Q (nE g0R (.seq D0G (.seq D0H (.seq D0I (.seq D0J .ret))))) hA))))
theorem J0s(year:Int):
  callW (E0 mm) 136 [cd (dI year)] []=(L0D year).map T0F:=by
 rw[cR g0R [.tmp 2] Tryz.func136]
 unfold L0D;exact go W0v trivial
noncomputable def n0T:Code:=bodyOf Tryz.f149
def E0v:=cA n0T
def E0w:=cA (cB n0T)
abbrev V0e:=(Bool)
def V0N(x:V0e):AV×Heap:=(vd (dB x),[])
def S0l(year:Int):Option V0e:=
 if ((year.tmod 4)==0)=true then
  if ((year.tmod 100)==0)=true then
   some ((year.tmod 400)==0)
  else
   some true
 else
  some ((year.tmod 400)==0)
def W0C:=Q (rx E0v) (Q (rx E0w) (Q (nE n0T (.seq E0v (.seq E0w .ret))) hA))
theorem Q0U(year:Int):
  callW (E0 mm) 149 [cd (dI year)] []=(S0l year).map V0N:=by
 rw[cR n0T [.tmp 2] Tryz.func149]
 unfold S0l;exact go W0C trivial
noncomputable def e0P:Code:=bodyOf Tryz.f135
def D0C:=cA e0P
def D0D:=cA (cB e0P)
def D0E:=cA (cA (cB (cB e0P)))
def n0H:=cB (cA (cB (cB e0P)))
def D0F:=cA (cA n0H)
def i0o:=cB (cB (cB e0P))
def t0i:=cA i0o
abbrev T0y:=(Int)
def S0V(x:T0y):AV×Heap:=(vd (dI x),[])
def k0N(month1:Int)(t12:Bool):Option T0y:=
 if t12=true then
  some (29:Int)
 else
  if 0≤month1∧month1<12 then
   some (([(31:Int),(28:Int),(31:Int),(30:Int),(31:Int),(30:Int),(31:Int),(31:Int),(30:Int),(31:Int),(30:Int),(31:Int)]:List Int).getD month1.toNat default)
  else none
def W0b:=Q (rx D0F) (Q (rx t0i) (Q (rx D0C) (Q (rx D0D) (Q @ao85 (Q (rx D0E) (Q @ent149 (Q @prm149 (Q @Q0U (Q @V0N.eq_1 (Q (nE e0P (.seq D0C (.seq D0D (.seq (.seq D0E n0H) i0o)))) (Q (nE i0o (.seq t0i .ret)) hA)))))))))))
theorem z0i(month1:Int)(t12:Bool)(sl:Sl)(_:sl 1=vd (dI month1))(_:sl 5=.v (.c (.ptr 0 0)))(_:sl 12=vd (dB t12)):
  bodyD (E0 mm) [.tmp 4] 0 false (sq (E0 mm) 135 0 i0o (dn (E0 mm) 135 0 n0H sl [.cells [.d (dI 31),.d (dI 28),.d (dI 31),.d (dI 30),.d (dI 31),.d (dI 30),.d (dI 31),.d (dI 31),.d (dI 30),.d (dI 31),.d (dI 30),.d (dI 31)]]))=(k0N month1 t12).map S0V:=by
 unfold k0N;exact go (Q (nE n0H (.cond _ (.seq D0F .ret) .skip)) W0b) trivial
def L0C(year month:Int):Option T0y:=
 if (month==1)=true then
  (S0l year).bind fun yr3=>
   k0N month yr3
 else
  k0N month false
theorem J0r(year month:Int):
  callW (E0 mm) 135 [cd (dI year),cd (dI month)] []=(L0C year month).map S0V:=by
 rw[cR e0P [.tmp 4] Tryz.func135]
 unfold L0C;exact go W0b @z0i
noncomputable def n0U:Code:=bodyOf Tryz.f150
def E0D:=cA n0U
def E0E:=cA (cB n0U)
abbrev V0f:=(Bs)
def V0O(x:V0f):AV×Heap:=(vd (dS x),[])
def y0b(n:Int):Option V0f:=
 some ([(u8 (w64 (48+((w64 (n.tdiv 10)).tmod 10)))),(u8 (w64 (48+(n.tmod 10))))]:List UInt8)
def W0D:=Q (rx E0D) (Q (rx E0E) (Q @hd87 (Q @nv88 (Q @rw89 (Q @ns90 (Q (nE n0U (.seq E0D (.seq E0E .ret))) hA))))))
theorem Q0V(n:Int):
  callW (E0 mm) 150 [cd (dI n)] []=(y0b n).map V0O:=by
 rw[cR n0U [.tmp 2] Tryz.func150]
 unfold y0b;exact go W0D trivial
noncomputable def c0f:Code:=bodyOf Tryz.f137
def D0K:=cA c0f
def D0L:=cA (cA (cB c0f))
def D0M:=cA (cA (cB (cA (cB c0f))))
def t0j:=cA (cB (cB c0f))
def t0k:=cA (cB (cB (cB c0f)))
def l0R:=cA (cA (cB (cB (cB (cB c0f)))))
def d0h:=cA l0R
def t0l:=cA (cA d0h)
def t0m:=cA (cB d0h)
def b0H:=cB (cB (cB (cB (cB c0f))))
def t0n:=cA b0H
def l0S:=cA (cA (cB b0H))
def b0I:=cA l0S
def t0o:=cA (cA b0I)
def t0p:=cA (cA (cB b0I))
def t0q:=cB (cA (cB b0I))
def d0i:=cB (cB b0H)
def t0r:=cA d0i
def t0s:=cA (cB d0i)
def n0p:List (Nat×Co):=[(4,.keep),(5,.keep),(6,.keep)]
def n0q:List (Nat×Co):=[(4,.keep),(5,.keep),(6,.keep),(7,.keep),(8,.keep)]
abbrev b137(mm:Int):=bodyD (E0 mm) [.tmp 2,.tmp 3] 0 false
abbrev B0V:=(Bs×Int)
def J0k(x:B0V):AV×Heap:=(.tup [cd (dS x.1),cd (dI x.2)],[])
def f0L(d4 s5:Int)(year6 rest7 month8:Int):Option B0V:=
 (bnd (w64 ((w64 (3*(d4.tmod 7)))+3)) 21).bind fun yk11=>
  (bnd (w64 (3*(d4.tmod 7))) yk11).bind fun yk13=>
   if ((([84,104,117,70,114,105,83,97,116,83,117,110,77,111,110,84,117,101,87,101,100]:Bs).take yk11).drop yk13).length+2<9223372036854775808 then
    (y0b (w64 (rest7+1))).bind fun yr16=>
     if (((([84,104,117,70,114,105,83,97,116,83,117,110,77,111,110,84,117,101,87,101,100]:Bs).take yk11).drop yk13)++([44,32]:Bs)).length+yr16.length<9223372036854775808 then
      if ((((([84,104,117,70,114,105,83,97,116,83,117,110,77,111,110,84,117,101,87,101,100]:Bs).take yk11).drop yk13)++([44,32]:Bs))++yr16).length+1<9223372036854775808 then
       (bnd (w64 ((w64 (3*month8))+3)) 36).bind fun yk20=>
        (bnd (w64 (3*month8)) yk20).bind fun yk22=>
         if (((((([84,104,117,70,114,105,83,97,116,83,117,110,77,111,110,84,117,101,87,101,100]:Bs).take yk11).drop yk13)++([44,32]:Bs))++yr16)++([32]:Bs)).length+((([74,97,110,70,101,98,77,97,114,65,112,114,77,97,121,74,117,110,74,117,108,65,117,103,83,101,112,79,99,116,78,111,118,68,101,99]:Bs).take yk20).drop yk22).length<9223372036854775808 then
          if ((((((([84,104,117,70,114,105,83,97,116,83,117,110,77,111,110,84,117,101,87,101,100]:Bs).take yk11).drop yk13)++([44,32]:Bs))++yr16)++([32]:Bs))++((([74,97,110,70,101,98,77,97,114,65,112,114,77,97,121,74,117,110,74,117,108,65,117,103,83,101,112,79,99,116,78,111,118,68,101,99]:Bs).take yk20).drop yk22)).length+1<9223372036854775808 then
           (y0b (w64 (year6.tdiv 100))).bind fun yr26=>
            if (((((((([84,104,117,70,114,105,83,97,116,83,117,110,77,111,110,84,117,101,87,101,100]:Bs).take yk11).drop yk13)++([44,32]:Bs))++yr16)++([32]:Bs))++((([74,97,110,70,101,98,77,97,114,65,112,114,77,97,121,74,117,110,74,117,108,65,117,103,83,101,112,79,99,116,78,111,118,68,101,99]:Bs).take yk20).drop yk22))++([32]:Bs)).length+yr26.length<9223372036854775808 then
             (y0b (year6.tmod 100)).bind fun yr29=>
              if ((((((((([84,104,117,70,114,105,83,97,116,83,117,110,77,111,110,84,117,101,87,101,100]:Bs).take yk11).drop yk13)++([44,32]:Bs))++yr16)++([32]:Bs))++((([74,97,110,70,101,98,77,97,114,65,112,114,77,97,121,74,117,110,74,117,108,65,117,103,83,101,112,79,99,116,78,111,118,68,101,99]:Bs).take yk20).drop yk22))++([32]:Bs))++yr26).length+yr29.length<9223372036854775808 then
               if (((((((((([84,104,117,70,114,105,83,97,116,83,117,110,77,111,110,84,117,101,87,101,100]:Bs).take yk11).drop yk13)++([44,32]:Bs))++yr16)++([32]:Bs))++((([74,97,110,70,101,98,77,97,114,65,112,114,77,97,121,74,117,110,74,117,108,65,117,103,83,101,112,79,99,116,78,111,118,68,101,99]:Bs).take yk20).drop yk22))++([32]:Bs))++yr26)++yr29).length+1<9223372036854775808 then
                (y0b (w64 (s5.tdiv 3600))).bind fun yr33=>
                 if ((((((((((([84,104,117,70,114,105,83,97,116,83,117,110,77,111,110,84,117,101,87,101,100]:Bs).take yk11).drop yk13)++([44,32]:Bs))++yr16)++([32]:Bs))++((([74,97,110,70,101,98,77,97,114,65,112,114,77,97,121,74,117,110,74,117,108,65,117,103,83,101,112,79,99,116,78,111,118,68,101,99]:Bs).take yk20).drop yk22))++([32]:Bs))++yr26)++yr29)++([32]:Bs)).length+yr33.length<9223372036854775808 then
                  if (((((((((((([84,104,117,70,114,105,83,97,116,83,117,110,77,111,110,84,117,101,87,101,100]:Bs).take yk11).drop yk13)++([44,32]:Bs))++yr16)++([32]:Bs))++((([74,97,110,70,101,98,77,97,114,65,112,114,77,97,121,74,117,110,74,117,108,65,117,103,83,101,112,79,99,116,78,111,118,68,101,99]:Bs).take yk20).drop yk22))++([32]:Bs))++yr26)++yr29)++([32]:Bs))++yr33).length+1<9223372036854775808 then
                   (y0b ((w64 (s5.tdiv 60)).tmod 60)).bind fun yr37=>
                    if ((((((((((((([84,104,117,70,114,105,83,97,116,83,117,110,77,111,110,84,117,101,87,101,100]:Bs).take yk11).drop yk13)++([44,32]:Bs))++yr16)++([32]:Bs))++((([74,97,110,70,101,98,77,97,114,65,112,114,77,97,121,74,117,110,74,117,108,65,117,103,83,101,112,79,99,116,78,111,118,68,101,99]:Bs).take yk20).drop yk22))++([32]:Bs))++yr26)++yr29)++([32]:Bs))++yr33)++([58]:Bs)).length+yr37.length<9223372036854775808 then
                     if (((((((((((((([84,104,117,70,114,105,83,97,116,83,117,110,77,111,110,84,117,101,87,101,100]:Bs).take yk11).drop yk13)++([44,32]:Bs))++yr16)++([32]:Bs))++((([74,97,110,70,101,98,77,97,114,65,112,114,77,97,121,74,117,110,74,117,108,65,117,103,83,101,112,79,99,116,78,111,118,68,101,99]:Bs).take yk20).drop yk22))++([32]:Bs))++yr26)++yr29)++([32]:Bs))++yr33)++([58]:Bs))++yr37).length+1<9223372036854775808 then
                      (y0b (s5.tmod 60)).bind fun yr41=>
                       if ((((((((((((((([84,104,117,70,114,105,83,97,116,83,117,110,77,111,110,84,117,101,87,101,100]:Bs).take yk11).drop yk13)++([44,32]:Bs))++yr16)++([32]:Bs))++((([74,97,110,70,101,98,77,97,114,65,112,114,77,97,121,74,117,110,74,117,108,65,117,103,83,101,112,79,99,116,78,111,118,68,101,99]:Bs).take yk20).drop yk22))++([32]:Bs))++yr26)++yr29)++([32]:Bs))++yr33)++([58]:Bs))++yr37)++([58]:Bs)).length+yr41.length<9223372036854775808 then
                        if (((((((((((((((([84,104,117,70,114,105,83,97,116,83,117,110,77,111,110,84,117,101,87,101,100]:Bs).take yk11).drop yk13)++([44,32]:Bs))++yr16)++([32]:Bs))++((([74,97,110,70,101,98,77,97,114,65,112,114,77,97,121,74,117,110,74,117,108,65,117,103,83,101,112,79,99,116,78,111,118,68,101,99]:Bs).take yk20).drop yk22))++([32]:Bs))++yr26)++yr29)++([32]:Bs))++yr33)++([58]:Bs))++yr37)++([58]:Bs))++yr41).length+4<9223372036854775808 then
                         some (((((((((((((((((([84,104,117,70,114,105,83,97,116,83,117,110,77,111,110,84,117,101,87,101,100]:Bs).take yk11).drop yk13)++([44,32]:Bs))++yr16)++([32]:Bs))++((([74,97,110,70,101,98,77,97,114,65,112,114,77,97,121,74,117,110,74,117,108,65,117,103,83,101,112,79,99,116,78,111,118,68,101,99]:Bs).take yk20).drop yk22))++([32]:Bs))++yr26)++yr29)++([32]:Bs))++yr33)++([58]:Bs))++yr37)++([58]:Bs))++yr41)++([32,71,77,84]:Bs)),(0:Int))
                        else none
                       else none
                     else none
                    else none
                  else none
                 else none
               else none
              else none
            else none
          else none
         else none
      else none
     else none
   else none
def h0Q(mm:Int)(r:Option (Ex×St)):Option (AV×Heap):=b137 mm (sq (E0 mm) 137 0 b0H (blockD 0 (r)))
def c0y(x:(Int×Int×Int)):X:=(none,[vd (dI x.1),vd (dI x.2.1),vd (dI x.2.2)],[])
def h0R(mm:Int)(r:Option (Ex×St)):Option (AV×Heap):=b137 mm (sq (E0 mm) 137 0 d0i (blockD 2 (r)))
def c0z(x:(Int×Int×Int×Int×Int)):X:=(none,[vd (dI x.1),vd (dI x.2.1),vd (dI x.2.2.1),vd (dI x.2.2.2.1),vd (dI x.2.2.2.2)],[])
def R0G:=Q (rx t0r) (Q (fun mm=>ry (E0 mm) t0s) (Q @ent150 (Q @prm150 (Q @Q0V (Q @V0O.eq_1 (Q (rx t0o) (Q @J0r (Q @S0V.eq_1 (Q (rx t0p) (Q (rx t0q) (Q @h0R.eq_1 (Q (rx t0n) (Q @J0s (Q @T0F.eq_1 (Q (fun mm=>lx (E0 mm) 137 l0S b0I n0q) (Q (rx t0l) (Q (rx t0m) (Q @h0Q.eq_1 (Q (rx D0K) (Q (rx D0L) (Q (rx D0M) (Q (rx t0j) (Q (rx t0k) (Q (fun mm=>lx (E0 mm) 137 l0R d0h n0p) (Q (nE c0f (.seq D0K (.seq (.seq D0L (.cond _ (.seq D0M .ret) .skip)) (.seq t0j (.seq t0k (.seq (.block 0 l0R) b0H)))))) (Q (nE d0h (.seq (.seq t0l (.cond _ .skip (.exit 0))) (.block 1 t0m))) (Q (nE b0I (.seq (.seq t0o (.cond _ .skip (.exit 2))) (.block 3 (.seq t0p t0q)))) (Q @c0y.eq_1 (Q @c0z.eq_1 (Q @n0p.eq_1 (Q @n0q.eq_1 hA)))))))))))))))))))))))))))))))
theorem v0Q(d4 s5:Int)(year6 rest7 month8:Int)(sl:Sl)(_:sl 4=vd (dI d4))(_:sl 5=vd (dI s5))(_:sl 6=vd (dI year6))(_:sl 7=vd (dI rest7))(_:sl 8=vd (dI month8)):
  b137 mm (dn (E0 mm) 137 0 d0i sl [])=(f0L d4 s5 year6 rest7 month8).map J0k:=by
 unfold f0L;exact go (Q (nE d0i (.seq t0r (.seq t0s .ret))) R0G) trivial
def g0g(d4 s5:Int)(year6 rest7 month8:Int):Option ((Int×Int×Int×Int×Int) ⊕ B0V):=
 (L0C year6 month8).bind fun yr8=>
  if (decide (yr8≤rest7))=true then
   some (.inl (d4,s5,year6,(w64 (rest7 - yr8)),(w64 (month8+1))))
  else
   (f0L d4 s5 year6 rest7 month8).map .inr
theorem x0K(d4 s5:Int)(year6 rest7 month8:Int):
  stepE (h0R mm) (lp (E0 mm) 137 0 b0I n0q (c0z (d4,s5,year6,rest7,month8)))=(g0g d4 s5 year6 rest7 month8).map (sm c0z J0k):=by
 unfold g0g;exact go R0G @v0Q
def m0L(d4 s5:Int)(year6 rest7 month8:Int):Option B0V:=iter (fun x:(Int×Int×Int×Int×Int)=>g0g x.1 x.2.1 x.2.2.1 x.2.2.2.1 x.2.2.2.2) (d4,s5,year6,rest7,month8)
theorem w0L(d4 s5:Int)(year6 rest7 month8:Int):(h0R mm) (itW (lp (E0 mm) 137 0 b0I n0q) (c0z (d4,s5,year6,rest7,month8)))=(m0L d4 s5 year6 rest7 month8).map J0k:=
 it_sim (K:=(h0R mm)) rfl (enc:=c0z) (fun x=>x0K x.1 x.2.1 x.2.2.1 x.2.2.2.1 x.2.2.2.2) (d4,s5,year6,rest7,month8)
def f0K(d4 s5 year6:Int):Option B0V:=
 (L0D year6).bind fun yr6=>
  m0L d4 s5 year6 (w64 (d4 - yr6)) (0:Int)
theorem v0P(d4 s5 year6:Int)(sl:Sl)(_:sl 4=vd (dI d4))(_:sl 5=vd (dI s5))(_:sl 6=vd (dI year6)):
  b137 mm (dn (E0 mm) 137 0 b0H sl [])=(f0K d4 s5 year6).map J0k:=by
 unfold f0K;exact go (Q (nE b0H (.seq t0n (.seq (.block 2 l0S) d0i))) R0G) @w0L
def g0f(d4 s5 year6:Int):Option ((Int×Int×Int) ⊕ B0V):=
 (L0D (w64 (year6+1))).bind fun yr3=>
  if (decide (yr3≤d4))=true then
   some (.inl (d4,s5,(w64 (year6+1))))
  else
   (f0K d4 s5 year6).map .inr
theorem x0J(d4 s5 year6:Int):
  stepE (h0Q mm) (lp (E0 mm) 137 0 d0h n0p (c0y (d4,s5,year6)))=(g0f d4 s5 year6).map (sm c0y J0k):=by
 unfold g0f;exact go R0G @v0P
def m0K(d4 s5 year6:Int):Option B0V:=iter (fun x:(Int×Int×Int)=>g0f x.1 x.2.1 x.2.2) (d4,s5,year6)
theorem w0K(d4 s5 year6:Int):(h0Q mm) (itW (lp (E0 mm) 137 0 d0h n0p) (c0y (d4,s5,year6)))=(m0K d4 s5 year6).map J0k:=
 it_sim (K:=(h0Q mm)) rfl (enc:=c0y) (fun x=>x0J x.1 x.2.1 x.2.2) (d4,s5,year6)
def x0k(n:Int):Option B0V:=
 if (decide (253402300799<n))=true then
  some (([]:Bs),(3:Int))
 else
  m0K (w64 (wu64 (n.tdiv 86400))) (w64 (n.tmod 86400)) (w64 (1970+(w64 ((w64 (wu64 (n.tdiv 86400))).tdiv 366))))
theorem Q0M(n:Int):
  callW (E0 mm) 137 [cd (dU n)] []=(x0k n).map J0k:=by
 rw[cR c0f [.tmp 2,.tmp 3] Tryz.func137]
 unfold x0k;exact go R0G @w0K
noncomputable def b0n:Code:=bodyOf Tryz.f104
def C0i:=cA b0n
def C0j:=cA (cA (cB b0n))
def C0k:=cA (cA (cB (cA (cB b0n))))
def r0F:=cA (cB (cB b0n))
def r0G:=cA (cB (cB (cB b0n)))
def r0H:=cA (cA (cB (cB (cB (cB b0n)))))
def i0e:=cB (cA (cB (cB (cB (cB b0n)))))
def r0I:=cA (cA i0e)
def b0z:=cB (cB (cB (cB (cB b0n))))
def r0J:=cA b0z
def r0K:=cA (cA (cB b0z))
def l0F:=cA (cB (cA (cB b0z)))
def a0M:=cA l0F
def r0L:=cA a0M
def r0M:=cA (cA (cA (cB (cB a0M))))
def r0N:=cB (cA (cA (cB (cB a0M))))
def r0O:=cB (cB (cB a0M))
def a0C:=cB (cB b0z)
def r0P:=cA a0C
def r0Q:=cA (cA (cB a0C))
def r0R:=cA (cB (cA (cB a0C)))
def i0f:=cB (cB (cA (cB a0C)))
def r0S:=cA (cA i0f)
def i0g:=cB (cB a0C)
def r0T:=cA i0g
def n0k:List (Nat×Co):=[(0,.keep),(5,.keep),(7,.keep),(53,.keep),(54,.keep)]
abbrev b104(mm:Int):=bodyD (E0 mm) [.tmp 2,.tmp 3] 0 false
abbrev K0c:=(Int×Int)
def J0j(x:K0c):AV×Heap:=(.tup [cd (dU x.1),cd (dI x.2)],[])
def f0B(n9:Int)(t91:Bool):Option K0c:=
 if t91=true then
  some ((0:Int),(5:Int))
 else
  some (n9,(0:Int))
def h0L(mm:Int)(r:Option (Ex×St)):Option (AV×Heap):=b104 mm (sq (E0 mm) 104 0 a0C (blockD 0 (r)))
def c0t(x:(Bs×Int×Int×Int×Int)):X:=(none,[vd (dS x.1),vd (dI x.2.1),vd (dI x.2.2.1),vd (dI x.2.2.2.1),vd (dI x.2.2.2.2)],[])
def R0E:=Q (rx r0S) (Q (rx r0T) (Q (fun mm=>ry (E0 mm) r0P) (Q @ent134 (Q @prm134 (Q @Q0L (Q @Q0l.eq_1 (Q (rx r0Q) (Q @ent137 (Q @prm137 (Q @Q0M (Q @J0k.eq_1 (Q (rx r0R) (Q (rx r0L) (Q (rx r0M) (Q (rx r0N) (Q @J0r (Q @S0V.eq_1 (Q (rx r0O) (Q @h0L.eq_1 (Q (rx r0I) (Q (rx r0J) (Q @J0s (Q @T0F.eq_1 (Q (rx r0K) (Q (fun mm=>lx (E0 mm) 104 l0F a0M n0k) (Q (rx C0i) (Q (rx C0j) (Q (rx r0F) (Q (fun (mm:Int) (s:Bs) (yk3:Nat) (yk5:Nat)=>(show callW (E0 mm) 117 [cd (dS ([74,97,110,70,101,98,77,97,114,65,112,114,77,97,121,74,117,110,74,117,108,65,117,103,83,101,112,79,99,116,78,111,118,68,101,99]:Bs)),cd (dS ((s.take yk3).drop yk5))] []=_ from v0b ([74,97,110,70,101,98,77,97,114,65,112,114,77,97,121,74,117,110,74,117,108,65,117,103,83,101,112,79,99,116,78,111,118,68,101,99]:Bs) ((s.take yk3).drop yk5))) (Q @v0b (Q @T0D.eq_1 (Q (fun mm=>ry (E0 mm) r0G) (Q (rx r0H) (Q (rx C0k) (Q (nE b0n (.seq C0i (.seq (.seq C0j (.cond _ (.seq C0k .ret) .skip)) (.seq r0F (.seq r0G (.seq (.seq r0H i0e) b0z)))))) (Q (nE b0z (.seq r0J (.seq (.seq r0K (.block 0 l0F)) a0C))) (Q (nE a0M (.seq r0L (.seq (.cond _ .skip (.exit 0)) (.seq (.block 1 (.seq r0M r0N)) r0O)))) (Q (nE i0g (.seq r0T .ret)) (Q @c0t.eq_1 (Q @n0k.eq_1 hA))))))))))))))))))))))))))))))))))))))))
theorem v0p(n9:Int)(t91:Bool)(sl:Sl)(_:sl 9=vd (dU n9))(_:sl 91=vd (dB t91)):
  b104 mm (sq (E0 mm) 104 0 i0g (dn (E0 mm) 104 0 i0f sl []))=(f0B n9 t91).map J0j:=by
 unfold f0B;exact go (Q (nE i0f (.cond _ (.seq r0S .ret) .skip)) R0E) trivial
def b0T(s0:Bs)(d7:Int):Option K0c:=
 (bnd 19 s0.length).bind fun yk28=>
  (bnd 17 yk28).bind fun yk30=>
   (x0j ((s0.take yk28).drop yk30)).bind fun yr32=>
    (bnd 22 s0.length).bind fun yk34=>
     (bnd 20 yk34).bind fun yk36=>
      (x0j ((s0.take yk34).drop yk36)).bind fun yr38=>
       (bnd 25 s0.length).bind fun yk40=>
        (bnd 23 yk40).bind fun yk42=>
         (x0j ((s0.take yk40).drop yk42)).bind fun yr44=>
          (x0k (wu64 (w64 ((w64 ((w64 ((w64 (d7*86400))+(w64 (yr32*3600))))+(w64 (yr38*60))))+yr44)))).bind fun yr46=>
           if (yr46.2==0)=true then
            f0B (wu64 (w64 ((w64 ((w64 ((w64 (d7*86400))+(w64 (yr32*3600))))+(w64 (yr38*60))))+yr44))) (!(yr46.1==s0))
           else
            f0B (wu64 (w64 ((w64 ((w64 ((w64 (d7*86400))+(w64 (yr32*3600))))+(w64 (yr38*60))))+yr44))) true
theorem v0o(s0:Bs)(d7:Int)(sl:Sl)(_:sl 0=vd (dS s0))(_:sl 7=vd (dI d7)):
  b104 mm (dn (E0 mm) 104 0 a0C sl [])=(b0T s0 d7).map J0j:=by
 unfold b0T;exact go (Q (nE a0C (.seq r0P (.seq (.seq r0Q (.seq r0R i0f)) i0g))) R0E) @v0p
def j0i(s0:Bs)(year5 d7:Int)(t53 t54:Int):Option ((Bs×Int×Int×Int×Int) ⊕ K0c):=
 if (decide (t54<t53))=true then
  (L0C year5 t54).bind fun yr26=>
   some (.inl (s0,year5,(w64 (d7+yr26)),t53,(w64 (t54+1))))
 else
  (b0T s0 d7).map .inr
theorem x0z(s0:Bs)(year5 d7:Int)(t53 t54:Int):
  stepE (h0L mm) (lp (E0 mm) 104 0 a0M n0k (c0t (s0,year5,d7,t53,t54)))=(j0i s0 year5 d7 t53 t54).map (sm c0t J0j):=by
 unfold j0i;exact go R0E @v0o
def j0c(s0:Bs)(year5 d7:Int)(t53 t54:Int):Option K0c:=iter (fun x:(Bs×Int×Int×Int×Int)=>j0i x.1 x.2.1 x.2.2.1 x.2.2.2.1 x.2.2.2.2) (s0,year5,d7,t53,t54)
theorem w0t(s0:Bs)(year5 d7:Int)(t53 t54:Int):(h0L mm) (itW (lp (E0 mm) 104 0 a0M n0k) (c0t (s0,year5,d7,t53,t54)))=(j0c s0 year5 d7 t53 t54).map J0j:=
 it_sim (K:=(h0L mm)) rfl (enc:=c0t) (fun x=>x0z x.1 x.2.1 x.2.2.1 x.2.2.2.1 x.2.2.2.2) (s0,year5,d7,t53,t54)
def a0F(s0:Bs)(at4 year5 date6:Int)(t46:Bool):Option K0c:=
 if t46=true then
  some ((0:Int),(5:Int))
 else
  (L0D year5).bind fun yr23=>
   j0c s0 year5 (w64 ((w64 (yr23+date6)) - 1)) (w64 (at4.tdiv 3)) (0:Int)
theorem v0n(s0:Bs)(at4 year5 date6:Int)(t46:Bool)(sl:Sl)(_:sl 0=vd (dS s0))(_:sl 4=vd (dI at4))(_:sl 5=vd (dI year5))(_:sl 6=vd (dI date6))(_:sl 46=vd (dB t46)):
  b104 mm (sq (E0 mm) 104 0 b0z (dn (E0 mm) 104 0 i0e sl []))=(a0F s0 at4 year5 date6 t46).map J0j:=by
 unfold a0F;exact go (Q (nE i0e (.cond _ (.seq r0I .ret) .skip)) R0E) @w0t
def p0r(s:Bs):Option K0c:=
 if ((s.length:Int)==29)=true then
  (bnd 11 s.length).bind fun yk3=>
   (bnd 8 yk3).bind fun yk5=>
    (L0t ([74,97,110,70,101,98,77,97,114,65,112,114,77,97,121,74,117,110,74,117,108,65,117,103,83,101,112,79,99,116,78,111,118,68,101,99]:Bs) ((s.take yk3).drop yk5)).bind fun yr7=>
     (bnd 16 s.length).bind fun yk9=>
      (bnd 12 yk9).bind fun yk11=>
       (x0j ((s.take yk9).drop yk11)).bind fun yr13=>
        (bnd 7 s.length).bind fun yk15=>
         (bnd 5 yk15).bind fun yk17=>
          (x0j ((s.take yk15).drop yk17)).bind fun yr19=>
           if (decide (yr7<0))=true then
            a0F s yr7 yr13 yr19 true
           else
            if ((yr7.tmod 3)==0)=true then
             if (decide (yr13<1970))=true then
              a0F s yr7 yr13 yr19 true
             else
              if (decide (yr19<1))=true then
               a0F s yr7 yr13 yr19 true
              else
               (L0C yr13 (w64 (yr7.tdiv 3))).bind fun yr53=>
                a0F s yr7 yr13 yr19 (decide (yr53<yr19))
            else
             a0F s yr7 yr13 yr19 true
 else
  some ((0:Int),(5:Int))
theorem J0m(s:Bs):
  callW (E0 mm) 104 [cd (dS s)] []=(p0r s).map J0j:=by
 rw[cR b0n [.tmp 2,.tmp 3] Tryz.func104]
 unfold p0r;exact go R0E @v0n
noncomputable def k0q:Code:=bodyOf Tryz.f65
def O0C:=cA k0q
def O0D:=cA (cB k0q)
def O0E:=cA (cA (cB (cB k0q)))
def O0F:=cA (cA (cB (cA (cB (cB k0q)))))
def H0V:=cA (cB (cB (cB k0q)))
def H0W:=cA (cB (cB (cB (cB k0q))))
abbrev R65:=(Int×Bool)
def e65(x:R65):AV×Heap:=(.tup [cd (dU x.1),cd (dB x.2)],[])
def m65(r0_0:Int)(r0_1:Bs)(r0_2:Int)(r0_3:Bool)(r0_4:List (Bs×Bs))(r0_5:Bool)(r0_6:List UInt8)(name:Bs):Option R65:=
 (T0a r0_0 r0_1 r0_2 r0_3 r0_4 r0_5 r0_6 name).bind fun yr2=>
  if yr2.2=true then
   (p0r yr2.1).bind fun yr5=>
    some (yr5.1,(yr5.2==0))
  else
   some ((0:Int),false)
def k65:=Q (rx O0C) (Q (rx O0D) (Q @ent110 (Q @prm110 (Q @Q0t (Q @V0x.eq_1 (Q (rx O0E) (Q (rx H0V) (Q @J0m (Q @J0j.eq_1 (Q (rx H0W) (Q (rx O0F) (Q (nE k0q (.seq O0C (.seq O0D (.seq (.seq O0E (.cond _ (.seq O0F .ret) .skip)) (.seq H0V (.seq H0W .ret)))))) hA))))))))))))
theorem v0e(r0_0:Int)(r0_1:Bs)(r0_2:Int)(r0_3:Bool)(r0_4:List (Bs×Bs))(r0_5:Bool)(r0_6:List UInt8)(name:Bs):
  callW (E0 mm) 65 [.agg [.d (dI r0_0),.d (dS r0_1),.d (dI r0_2),.d (.lst r0_3 (enL enSS r0_4)),.d (.lst r0_5 (enL enB r0_6))],cd (dS name)] []=(m65 r0_0 r0_1 r0_2 r0_3 r0_4 r0_5 r0_6 name).map e65:=by
 rw[cR k0q [.tmp 4,.tmp 5] Tryz.func65]
 unfold m65;exact go k65 trivial
noncomputable def y0E:Code:=bodyOf Tryz.f64
def O0A:=cA y0E
def O0B:=cA (cB y0E)
abbrev R64:=(Int×Bool)
def e64(x:R64):AV×Heap:=(.tup [cd (dU x.1),cd (dB x.2)],[])
def m64(r0_0:Int)(r0_1:Bs)(r0_2:Int)(r0_3:Bool)(r0_4:List (Bs×Bs))(r0_5:Bool)(r0_6:List UInt8):Option R64:=
 (m65 r0_0 r0_1 r0_2 r0_3 r0_4 r0_5 r0_6 ([100,97,116,101]:Bs)).bind fun yr2=>
  some (yr2.1,yr2.2)
def k64:=Q (rx O0A) (Q (rx O0B) (Q (fun (mm:Int) (r0_0:Int) (r0_1:Bs) (r0_2:Int) (r0_3:Bool) (r0_4:List (Bs×Bs)) (r0_5:Bool) (r0_6:List UInt8)=>(show callW (E0 mm) 65 [.agg [.d (dI r0_0),.d (dS r0_1),.d (dI r0_2),.d (.lst r0_3 (enL enSS r0_4)),.d (.lst r0_5 (enL enB r0_6))],cd (dS ([100,97,116,101]:Bs))] []=_ from v0e r0_0 r0_1 r0_2 r0_3 r0_4 r0_5 r0_6 ([100,97,116,101]:Bs))) (Q @v0e (Q @e65.eq_1 (Q (nE y0E (.seq O0A (.seq O0B .ret))) hA)))))
theorem T0Z(r0_0:Int)(r0_1:Bs)(r0_2:Int)(r0_3:Bool)(r0_4:List (Bs×Bs))(r0_5:Bool)(r0_6:List UInt8):
  callW (E0 mm) 64 [.agg [.d (dI r0_0),.d (dS r0_1),.d (dI r0_2),.d (.lst r0_3 (enL enSS r0_4)),.d (.lst r0_5 (enL enB r0_6))]] []=(m64 r0_0 r0_1 r0_2 r0_3 r0_4 r0_5 r0_6).map e64:=by
 rw[cR y0E [.tmp 2,.tmp 3] Tryz.func64]
 unfold m64;exact go k64 trivial
noncomputable def p0P:Code:=bodyOf Tryz.f66
def O0G:=cA p0P
def O0H:=cA (cA (cB p0P))
def O0I:=cA (cA (cB (cA (cB p0P))))
def H0X:=cA (cB (cB p0P))
abbrev R66:=(Int)
def e66(x:R66):AV×Heap:=(vd (dU x),[])
def m66(xfrom to:Int):Option R66:=
 if (decide (to≤xfrom))=true then
  some (0:Int)
 else
  some (wu64 (to - xfrom))
def k66:=Q (rx O0G) (Q (rx O0H) (Q (rx O0I) (Q (rx H0X) (Q (nE p0P (.seq O0G (.seq (.seq O0H (.cond _ (.seq O0I .ret) .skip)) (.seq H0X .ret)))) hA))))
theorem U0a(xfrom to:Int):
  callW (E0 mm) 66 [cd (dU xfrom),cd (dU to)] []=(m66 xfrom to).map e66:=by
 rw[cR p0P [.tmp 4] Tryz.func66]
 unfold m66;exact go k66 trivial
noncomputable def g0H:Code:=bodyOf Tryz.f111
def C0A:=cA g0H
def C0B:=cA (cA (cB g0H))
def s0k:=cA (cB (cA (cB g0H)))
def c0b:=cA s0k
def C0C:=cA c0b
def s0f:=cA (cA (cA (cB (cB c0b))))
def s0g:=cA (cB (cA (cA (cB (cB c0b)))))
def s0h:=cA (cA (cB (cB (cA (cA (cB (cB c0b)))))))
def s0i:=cB (cB (cB c0b))
def e0B:=cB (cB g0H)
def s0j:=cA e0B
def n0l:List (Nat×Co):=[(0,.keep),(1,.keep),(7,.keep),(8,.keep)]
abbrev M0r:=(Int)
def Q0h(x:M0r):AV×Heap:=(vd (dI x),[])
def i0D: Option M0r:=
 some (-1:Int)
def m0Y(mm:Int)(r:Option (Ex×St)):Option (AV×Heap):=bodyD (E0 mm) [.tmp 4] 0 false (sq (E0 mm) 111 0 e0B (blockD 0 (r)))
def f0j(x:(Bool×List Int×Int×Int×Int)):X:=(none,[vd (.lst x.1 (enL enN x.2.1)),vd (dI x.2.2.1),vd (dI x.2.2.2.1),vd (dI x.2.2.2.2)],[])
def U0v:=Q (rx s0j) (Q (rx C0C) (Q (rx s0f) (Q (rx s0g) (Q @enN_a (Q @enN_e (Q (rx s0h) (Q @m0Y.eq_1 (Q (rx s0i) (Q (rx C0A) (Q (rx C0B) (Q (fun mm=>lx (E0 mm) 111 s0k c0b n0l) (Q (nE g0H (.seq C0A (.seq (.seq C0B (.block 0 s0k)) e0B))) (Q (nE c0b (.seq C0C (.seq (.cond _ .skip (.exit 0)) (.seq (.block 1 (.seq s0f (.seq s0g (.cond _ (.seq s0h .ret) .skip)))) s0i)))) (Q @f0j.eq_1 (Q @n0l.eq_1 hA)))))))))))))))
theorem v0r(sl:Sl):
  bodyD (E0 mm) [.tmp 4] 0 false (dn (E0 mm) 111 0 e0B sl [])=(i0D).map Q0h:=by
 unfold i0D;exact go (Q (nE e0B (.seq s0j .ret)) U0v) trivial
def l0l(s0_0:Bool)(s0_1:List Int)(v1 t7 t8:Int):Option ((Bool×List Int×Int×Int×Int) ⊕ M0r):=
 if (decide (t8<t7))=true then
  if 0≤t8∧t8<(s0_1.length:Int) then
   if (v1==(s0_1.getD t8.toNat default))=true then
    some (.inr t8)
   else
    some (.inl (s0_0,s0_1,v1,t7,(w64 (t8+1))))
  else none
 else
  (i0D).map .inr
theorem B0s(s0_0:Bool)(s0_1:List Int)(v1 t7 t8:Int):
  stepE (m0Y mm) (lp (E0 mm) 111 0 c0b n0l (f0j (s0_0,s0_1,v1,t7,t8)))=(l0l s0_0 s0_1 v1 t7 t8).map (sm f0j Q0h):=by
 unfold l0l;exact go U0v @v0r
def J0u(s0_0:Bool)(s0_1:List Int)(v1 t7 t8:Int):Option M0r:=iter (fun x:(Bool×List Int×Int×Int×Int)=>l0l x.1 x.2.1 x.2.2.1 x.2.2.2.1 x.2.2.2.2) (s0_0,s0_1,v1,t7,t8)
theorem A0F(s0_0:Bool)(s0_1:List Int)(v1 t7 t8:Int):(m0Y mm) (itW (lp (E0 mm) 111 0 c0b n0l) (f0j (s0_0,s0_1,v1,t7,t8)))=(J0u s0_0 s0_1 v1 t7 t8).map Q0h:=
 it_sim (K:=(m0Y mm)) rfl (enc:=f0j) (fun x=>B0s x.1 x.2.1 x.2.2.1 x.2.2.2.1 x.2.2.2.2) (s0_0,s0_1,v1,t7,t8)
def T0b(s_0:Bool)(s_1:List Int)(v:Int):Option M0r:=
 J0u s_0 s_1 v (s_1.length:Int) (0:Int)
theorem Q0u(s_0:Bool)(s_1:List Int)(v:Int):
  callW (E0 mm) 111 [cd (.lst s_0 (enL enN s_1)),cd (dI v)] []=(T0b s_0 s_1 v).map Q0h:=by
 rw[cR g0H [.tmp 4] Tryz.func111]
 unfold T0b;exact go U0v @A0F
noncomputable def y0F:Code:=bodyOf Tryz.f67
def O0J:=cA y0F
def O0K:=cA (cB y0F)
abbrev R67:=(Bool)
def e67(x:R67):AV×Heap:=(vd (dB x),[])
def m67(s_0:Bool)(s_1:List Int)(v:Int):Option R67:=
 (T0b s_0 s_1 v).bind fun yr2=>
  some (decide (0≤yr2))
def k67:=Q (rx O0J) (Q (rx O0K) (Q @ent111 (Q @prm111 (Q @Q0u (Q @Q0h.eq_1 (Q (nE y0F (.seq O0J (.seq O0K .ret))) hA))))))
theorem z0b(s_0:Bool)(s_1:List Int)(v:Int):
  callW (E0 mm) 67 [cd (.lst s_0 (enL enN s_1)),cd (dI v)] []=(m67 s_0 s_1 v).map e67:=by
 rw[cR y0F [.tmp 4] Tryz.func67]
 unfold m67;exact go k67 trivial
noncomputable def b0K:Code:=bodyOf Tryz.f25
def M0V:=cA b0K
def M0W:=cA (cB b0K)
def M0X:=cA (cB (cB b0K))
def M0Y:=cA (cA (cA (cB (cB (cB b0K)))))
def F0c:=cA (cA (cB (cA (cA (cB (cB (cB b0K)))))))
def F0d:=cA (cB (cB (cA (cA (cB (cB (cB b0K)))))))
def F0e:=cA (cA (cB (cB (cB (cA (cA (cB (cB (cB b0K)))))))))
def F0f:=cA (cB (cB (cB (cB (cA (cA (cB (cB (cB b0K)))))))))
def F0g:=cA (cA (cB (cB (cB (cB (cB (cA (cA (cB (cB (cB b0K)))))))))))
def F0h:=cA (cA (cB (cA (cB (cB (cB (cB (cB (cA (cA (cB (cB (cB b0K)))))))))))))
def o0b:=cB (cA (cB (cA (cB (cB (cB (cB (cB (cA (cA (cB (cB (cB b0K)))))))))))))
def F0i:=cA (cA o0b)
def o0c:=cB (cB (cA (cB (cB (cB (cB (cB (cA (cA (cB (cB (cB b0K))))))))))))
def F0j:=cA o0c
def e0V:=cB (cB (cB (cB b0K)))
def F0k:=cA e0V
def F0l:=cA (cA (cB e0V))
def o0d:=cB (cA (cB e0V))
def F0m:=cA (cA o0d)
def o0e:=cB (cB e0V)
def F0n:=cA o0e
abbrev R25:=(Int×Bool)
def e25(x:R25):AV×Heap:=(.tup [cd (dI x.1),cd (dB x.2)],[])
def h0r(at5 end7:Int)(t49:Bool):Option R25:=
 if t49=true then
  some ((0:Int),true)
 else
  (m66 at5 end7).bind fun yr15=>
   some ((w64 (min2 yr15 2147483648)),true)
def k25:=Q (rx F0i) (Q (rx F0j) (Q @ent66 (Q @prm66 (Q @U0a (Q @e66.eq_1 (Q (rx F0m) (Q (rx F0n) (Q (rx M0V) (Q (rx M0W) (Q @R0c (Q @e23.eq_1 (Q @ao84 (Q (rx M0X) (Q @ent64 (Q @prm64 (Q @T0Z (Q @e64.eq_1 (Q (rx M0Y) (Q (rx F0c) (Q (rx F0d) (Q (rx F0e) (Q (rx F0f) (Q (fun (mm:Int) (r0_3:Bool) (r0_4:List (Bs×Bs))=>(show callW (E0 mm) 29 [cd (.lst r0_3 (enL enSS r0_4)),cd (dS ([101,120,112,105,114,101,115]:Bs))] []=_ from m0q r0_3 r0_4 ([101,120,112,105,114,101,115]:Bs))) (Q @m0q (Q @e29.eq_1 (Q (rx F0g) (Q (fun (mm:Int) (r0_0:Int) (r0_1:Bs) (r0_2:Int) (r0_3:Bool) (r0_4:List (Bs×Bs)) (r0_5:Bool) (r0_6:List UInt8)=>(show callW (E0 mm) 65 [.agg [.d (dI r0_0),.d (dS r0_1),.d (dI r0_2),.d (.lst r0_3 (enL enSS r0_4)),.d (.lst r0_5 (enL enB r0_6))],cd (dS ([101,120,112,105,114,101,115]:Bs))] []=_ from v0e r0_0 r0_1 r0_2 r0_3 r0_4 r0_5 r0_6 ([101,120,112,105,114,101,115]:Bs))) (Q @v0e (Q @e65.eq_1 (Q (rx F0h) (Q (rx F0k) (Q (fun (mm:Int) (r0_0:Int) (r0_1:Bs) (r0_2:Int) (r0_3:Bool) (r0_4:List (Bs×Bs)) (r0_5:Bool) (r0_6:List UInt8)=>(show callW (E0 mm) 65 [.agg [.d (dI r0_0),.d (dS r0_1),.d (dI r0_2),.d (.lst r0_3 (enL enSS r0_4)),.d (.lst r0_5 (enL enB r0_6))],cd (dS ([108,97,115,116,45,109,111,100,105,102,105,101,100]:Bs))] []=_ from v0e r0_0 r0_1 r0_2 r0_3 r0_4 r0_5 r0_6 ([108,97,115,116,45,109,111,100,105,102,105,101,100]:Bs))) (Q (rx F0l) (Q @hd91 (Q @nv92 (Q @rw93 (Q (fun (mm:Int) (r0_0:Int)=>(show callW (E0 mm) 67 [cd (.lst false (enL enN ([(200:Int),(203:Int),(204:Int),(300:Int),(301:Int),(308:Int),(404:Int),(405:Int),(410:Int),(414:Int),(501:Int)]:List Int))),cd (dI r0_0)] []=_ from z0b false ([(200:Int),(203:Int),(204:Int),(300:Int),(301:Int),(308:Int),(404:Int),(405:Int),(410:Int),(414:Int),(501:Int)]:List Int) r0_0)) (Q @z0b (Q @e67.eq_1 (Q (nE b0K (.seq M0V (.seq M0W (.seq M0X (.seq (.block 0 (.seq M0Y (.cond _ (.seq F0c .ret) (.seq F0d (.cond _ (.seq F0e .ret) (.seq F0f (.cond _ (.seq F0g (.seq (.seq F0h o0b) o0c)) .skip))))))) e0V))))) (Q (nE o0c (.seq F0j .ret)) (Q (nE e0V (.seq F0k (.seq (.seq F0l o0d) o0e))) (Q (nE o0e (.seq F0n .ret)) hA)))))))))))))))))))))))))))))))))))))))))))
theorem z0u(at5 end7:Int)(t49:Bool)(g0 g1 g2:Ob)(sl:Sl)(_:sl 5=vd (dU at5))(_:sl 7=vd (dU end7))(_:sl 49=vd (dB t49)):
  bodyD (E0 mm) [.tmp 2,.tmp 3] 0 false (sq (E0 mm) 25 0 e0V (blockD 0 (sq (E0 mm) 25 0 o0c (dn (E0 mm) 25 0 o0b sl [g0,g1,g2]))))=(h0r at5 end7 t49).map e25:=by
 unfold h0r;exact go (Q (nE o0b (.cond _ (.seq F0i .ret) .skip)) k25) trivial
def d0X(at5 changed9:Int)(t72:Bool):Option R25:=
 if t72=true then
  some ((0:Int),false)
 else
  (m66 changed9 at5).bind fun yr24=>
   some ((w64 (min2 (wu64 (yr24.tdiv 10)) 86400)),false)
theorem z0v(at5 changed9:Int)(t72:Bool)(g0 g1 g2:Ob)(sl:Sl)(_:sl 5=vd (dU at5))(_:sl 9=vd (dU changed9))(_:sl 72=vd (dB t72)):
  bodyD (E0 mm) [.tmp 2,.tmp 3] 0 false (sq (E0 mm) 25 0 o0e (dn (E0 mm) 25 0 o0d sl [g0,g1,g2]))=(d0X at5 changed9 t72).map e25:=by
 unfold d0X;exact go (Q (nE o0d (.cond _ (.seq F0m .ret) .skip)) k25) trivial
def m25(r0_0:Int)(r0_1:Bs)(r0_2:Int)(r0_3:Bool)(r0_4:List (Bs×Bs))(r0_5:Bool)(r0_6:List UInt8):Option R25:=
 (m23 r0_3 r0_4).bind fun yr2=>
  (m64 r0_0 r0_1 r0_2 r0_3 r0_4 r0_5 r0_6).bind fun yr4=>
   if (decide (0≤yr2.2.2.2.2.2.2.2.1))=true then
    some ((min2 yr2.2.2.2.2.2.2.2.1 2147483648),true)
   else
    if (decide (0≤yr2.2.2.2.2.2.2.1))=true then
     some ((min2 yr2.2.2.2.2.2.2.1 2147483648),true)
    else
     (m29 r0_3 r0_4 ([101,120,112,105,114,101,115]:Bs)).bind fun yr8=>
      if (decide (0<(yr8.2.length:Int)))=true then
       (m65 r0_0 r0_1 r0_2 r0_3 r0_4 r0_5 r0_6 ([101,120,112,105,114,101,115]:Bs)).bind fun yr11=>
        if yr11.2=true then
         h0r yr4.1 yr11.1 (!yr4.2)
        else
         h0r yr4.1 yr11.1 true
      else
       (m65 r0_0 r0_1 r0_2 r0_3 r0_4 r0_5 r0_6 ([108,97,115,116,45,109,111,100,105,102,105,101,100]:Bs)).bind fun yr17=>
        if yr17.2=true then
         if yr4.2=true then
          (m67 false ([(200:Int),(203:Int),(204:Int),(300:Int),(301:Int),(308:Int),(404:Int),(405:Int),(410:Int),(414:Int),(501:Int)]:List Int) r0_0).bind fun yr21=>
           d0X yr4.1 yr17.1 (!yr21)
         else
          d0X yr4.1 yr17.1 true
        else
         d0X yr4.1 yr17.1 true
theorem T0L(r0_0:Int)(r0_1:Bs)(r0_2:Int)(r0_3:Bool)(r0_4:List (Bs×Bs))(r0_5:Bool)(r0_6:List UInt8):
  callW (E0 mm) 25 [.agg [.d (dI r0_0),.d (dS r0_1),.d (dI r0_2),.d (.lst r0_3 (enL enSS r0_4)),.d (.lst r0_5 (enL enB r0_6))]] []=(m25 r0_0 r0_1 r0_2 r0_3 r0_4 r0_5 r0_6).map e25:=by
 rw[cR b0K [.tmp 2,.tmp 3] Tryz.func25]
 unfold m25;exact go k25 (Q @z0u @z0v)
noncomputable def p0L:Code:=bodyOf Tryz.f54
def O0m:=cA p0L
def O0n:=cA (cB p0L)
def O0o:=cA (cB (cB p0L))
def O0p:=cA (cB (cB (cB p0L)))
abbrev R54:=(Bs×Bool)
def e54(x:R54):AV×Heap:=(.tup [cd (dS x.1),cd (dB x.2)],[])
def m54(l_0:Bool)(l_1:List (Bs×Bs)):Option R54:=
 (m71 l_0 l_1 ([108,97,115,116,45,109,111,100,105,102,105,101,100]:Bs)).bind fun yr2=>
  (p0r yr2).bind fun yr4=>
   some (yr2,(yr4.2==0))
def k54:=Q (rx O0m) (Q (rx O0n) (Q (fun (mm:Int) (l_0:Bool) (l_1:List (Bs×Bs))=>(show callW (E0 mm) 71 [cd (.lst l_0 (enL enSS l_1)),cd (dS ([108,97,115,116,45,109,111,100,105,102,105,101,100]:Bs))] []=_ from z0c l_0 l_1 ([108,97,115,116,45,109,111,100,105,102,105,101,100]:Bs))) (Q @z0c (Q @e71.eq_1 (Q (rx O0o) (Q @J0m (Q @J0j.eq_1 (Q (rx O0p) (Q (nE p0L (.seq O0m (.seq O0n (.seq O0o (.seq O0p .ret))))) hA)))))))))
theorem T0Y(l_0:Bool)(l_1:List (Bs×Bs)):
  callW (E0 mm) 54 [cd (.lst l_0 (enL enSS l_1))] []=(m54 l_0 l_1).map e54:=by
 rw[cR p0L [.tmp 2,.tmp 3] Tryz.func54]
 unfold m54;exact go k54 trivial
end
end Go.Proofs.YtbkobjepahlegaaGreatDoor
