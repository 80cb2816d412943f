/- The Go functions as plain functions, and that the evaluator computes them. -/
import Derived.Test.YtbkobjepahlegaaGreatDoorHd
set_option linter.all false
set_option maxRecDepth 100000
namespace Go.Proofs.YtbkobjepahlegaaGreatDoor
open Go Go.Ab
open Nat renaming reduceEqDiff → za, reduceAdd → zb, reduceLeDiff → zc, reduceLT → zd, reduceMul → ze, reduceBEq → zf, reduceSub → zg, reducePow → zh
open Int renaming reduceEq → zi, reduceLE → zj, reduceLT → zk, reduceToNat → zl, reduceNegSucc → zm, reduceAdd → zn, reduceBEq → zo
open String renaming reduceBEq → zp
set_option maxHeartbeats 4000000
noncomputable section
variable {mm : Int}
def hA := Q @Tryz.underlying23 (Q @sz5 (Q @Tryz.underlying9 (Q @Tryz.underlying5 (Q @loopF_eq (Q @ag5 (Q @slots1 (Q @slots2 (Q @Tryz.underlying22 (Q @sz42 (Q @enSS_a (Q @enL_get (Q @enSS_e (Q @ag42 (Q @zc42 (Q @Tryz.underlying42 (Q @sz9 (Q @ag9 (Q @ent73 (Q @prm73 (Q @Tryz.underlying45 (Q @zc9 (Q @ent29 (Q @prm29 (Q @enS_a (Q @enS_e (Q @ent71 (Q @prm71 (Q @ent122 (Q @prm122 (Q @ent78 (Q @prm78 (Q @Tryz.underlying3 (Q @Tryz.underlying133 (Q @sz3 (Q @ag3 (Q @ar86 (Q @zc133 (Q @sz133 (Q @ent135 (Q @prm135 (Q @ent136 (Q @prm136 (Q @Tryz.underlying28 (Q @Tryz.underlying30 (Q @sz27 (Q @Tryz.underlying27 (Q @sz22 (Q @ag22 (Q @ap22 (Q @an22 (Q @ent28 (Q @prm28 (Q @ent132 @prm132)))))))))))))))))))))))))))))))))))))))))))))))))))))
set_option maxRecDepth 100000 in
theorem f17_t : callW (E0 mm) 17 [] [] = some (vd (dB true), []) := callN_W (k := 1500) (by kernel_rfl)
noncomputable def c63_0 : Code := bodyOf Tryz.f63
def c63_1 := cA c63_0
def c63_3 := cA (cB c63_0)
def c63_6 := cA (cA (cB (cB c63_0)))
def c63_8 := cA (cB (cA (cB (cB c63_0))))
def c63_9 := cA c63_8
def c63_10 := cA c63_9
def c63_18 := cA (cA (cA (cB (cB c63_9))))
def c63_20 := cA (cB (cA (cA (cB (cB c63_9)))))
def c63_21 := cB (cB (cA (cA (cB (cB c63_9)))))
def c63_22 := cA c63_21
def c63_24 := cB (cB (cB c63_9))
def c63_25 := cB (cB (cB c63_0))
def c63_26 := cA c63_25
def L63_8 : List (Nat × Co) := [(3, .keep), (8, .keep), (9, .keep), (10, .keep)]
abbrev R63 := (Bs)
def e63 (x : R63) : AV × Heap := (vd (dS x), [])
def j63_24 (b3_1 t8_1 : Nat) (t9 t10 : Int) (h0 : List UInt8) : Option ((Nat × Nat × Int × Int × List UInt8) ⊕ R63) :=
  some (.inl (b3_1, t8_1, t9, (w64 (t10 + 1)), h0))
def K63_8 (mm : Int) (r : Option (Ex × St)) : Option (AV × Heap) := bodyD (E0 mm) [.tmp 2] 0 false (sq (E0 mm) 63 0 c63_25 (blockD 0 (r)))
def en63_8 (x : (Nat × Nat × Int × Int × List UInt8)) : X := (none, [.v (.c (.slc 0 0 1 x.1 none)), .v (.c (.slc 0 0 1 x.2.1 none)), vd (dI x.2.2.1), vd (dI x.2.2.2.1)], [.cells (enC x.2.2.2.2)])
def k63 := Q (rx c63_22) (Q @enC_length (Q @enC_wr (Q (rx c63_26) (Q @enC_take (Q @mapM_enC (Q @chunk_enD (Q (rx c63_10) (Q (rx c63_18) (Q @enC_load (Q (rx c63_20) (Q @K63_8.eq_1 (Q (rx c63_1) (Q (rx c63_3) (Q @hd1 (Q @enC_S (Q @S_size (Q (rx c63_6) (Q (fun mm => lx (E0 mm) 63 c63_8 c63_9 L63_8) (Q (nE c63_0 (.seq c63_1 (.seq c63_3 (.seq (.seq c63_6 (.block 0 c63_8)) c63_25)))) (Q (nE c63_9 (.seq c63_10 (.seq (.cond _ .skip (.exit 0)) (.seq (.block 1 (.seq c63_18 (.seq c63_20 c63_21))) c63_24)))) (Q @en63_8.eq_1 (Q @L63_8.eq_1 hA))))))))))))))))))))))
theorem j63_24_t (b3_1 t8_1 : Nat) (t9 t10 : Int) (h0 : List UInt8)  (sl : Sl) (_ : sl 3 = .v (.c (.slc 0 0 1 b3_1 none))) (_ : sl 8 = .v (.c (.slc 0 0 1 t8_1 none))) (_ : sl 9 = vd (dI t9)) (_ : sl 10 = vd (dI t10)) :
    stepE (K63_8 mm) (loopK 0 L63_8 (dn (E0 mm) 63 0 c63_24 sl [.cells (enC h0)])) = (j63_24 b3_1 t8_1 t9 t10 h0).map (sm en63_8 e63) := by
  unfold j63_24; exact go (Q (rx c63_24) k63) trivial
def j63_21 (b3_1 : Nat) (i4 : Int) (c5 : UInt8) (t8_1 : Nat) (t9 t10 : Int) (t20 : Bool) (h0 : List UInt8) : Option ((Nat × Nat × Int × Int × List UInt8) ⊕ R63) :=
  if t20 = true then
    if 0 ≤ i4 ∧ i4 < (b3_1 : Int) then
      if i4.toNat < h0.length then
        j63_24 b3_1 t8_1 t9 t10 (h0.set i4.toNat ((c5 + (97 : UInt8)) - (65 : UInt8)))
      else none
    else none
  else
    j63_24 b3_1 t8_1 t9 t10 h0
theorem j63_21_t (b3_1 : Nat) (i4 : Int) (c5 : UInt8) (t8_1 : Nat) (t9 t10 : Int) (t20 : Bool) (h0 : List UInt8)  (sl : Sl) (_ : sl 3 = .v (.c (.slc 0 0 1 b3_1 none))) (_ : sl 4 = vd (dI i4)) (_ : sl 5 = vd (.sc (.int .u8 ((c5).toNat : Int)))) (_ : sl 8 = .v (.c (.slc 0 0 1 t8_1 none))) (_ : sl 9 = vd (dI t9)) (_ : sl 10 = vd (dI t10)) (_ : sl 20 = vd (dB t20)) :
    stepE (K63_8 mm) (loopK 0 L63_8 (sq (E0 mm) 63 0 c63_24 (blockD 1 (dn (E0 mm) 63 0 c63_21 sl [.cells (enC h0)])))) = (j63_21 b3_1 i4 c5 t8_1 t9 t10 t20 h0).map (sm en63_8 e63) := by
  unfold j63_21; exact go (Q (nE c63_21 (.cond _ c63_22 .skip)) k63) @j63_24_t
def j63_25 (b3_1 : Nat) (h0 : List UInt8) : Option R63 :=
  if b3_1 ≤ h0.length then
    some (h0.take b3_1)
  else none
theorem j63_25_t (b3_1 : Nat) (h0 : List UInt8)  (sl : Sl) (_ : sl 3 = .v (.c (.slc 0 0 1 b3_1 none))) :
    bodyD (E0 mm) [.tmp 2] 0 false (dn (E0 mm) 63 0 c63_25 sl [.cells (enC h0)]) = (j63_25 b3_1 h0).map e63 := by
  unfold j63_25; exact go (Q (nE c63_25 (.seq c63_26 .ret)) k63) trivial
def s63_8 (b3_1 t8_1 : Nat) (t9 t10 : Int) (h0 : List UInt8) : Option ((Nat × Nat × Int × Int × List UInt8) ⊕ R63) :=
  if (decide (t10 < t9)) = true then
    if 0 ≤ t10 ∧ t10 < (t8_1 : Int) then
      if t10.toNat < h0.length then
        if (decide ((65 : UInt8) ≤ (h0.getD t10.toNat 0))) = true then
          j63_21 b3_1 t10 (h0.getD t10.toNat 0) t8_1 t9 t10 (decide ((h0.getD t10.toNat 0) ≤ (90 : UInt8))) h0
        else
          j63_21 b3_1 t10 (h0.getD t10.toNat 0) t8_1 t9 t10 false h0
      else none
    else none
  else
    (j63_25 b3_1 h0).map .inr
theorem s63_8_t (b3_1 t8_1 : Nat) (t9 t10 : Int) (h0 : List UInt8) :
    stepE (K63_8 mm) (lp (E0 mm) 63 0 c63_9 L63_8 (en63_8 (b3_1, t8_1, t9, t10, h0))) = (s63_8 b3_1 t8_1 t9 t10 h0).map (sm en63_8 e63) := by
  unfold s63_8; exact go k63 (Q @j63_21_t @j63_25_t)
def l63_8 (b3_1 t8_1 : Nat) (t9 t10 : Int) (h0 : List UInt8) : Option R63 := iter (fun x : (Nat × Nat × Int × Int × List UInt8) => s63_8 x.1 x.2.1 x.2.2.1 x.2.2.2.1 x.2.2.2.2) (b3_1, t8_1, t9, t10, h0)
theorem l63_8_t (b3_1 t8_1 : Nat) (t9 t10 : Int) (h0 : List UInt8) : (K63_8 mm) (itW (lp (E0 mm) 63 0 c63_9 L63_8) (en63_8 (b3_1, t8_1, t9, t10, h0))) = (l63_8 b3_1 t8_1 t9 t10 h0).map e63 :=
  it_sim (K := (K63_8 mm)) rfl (enc := en63_8) (fun x => s63_8_t x.1 x.2.1 x.2.2.1 x.2.2.2.1 x.2.2.2.2) (b3_1, t8_1, t9, t10, h0)
def m63 (s : Bs) : Option R63 :=
  l63_8 s.length s.length (s.length : Int) (0 : Int) s
theorem f63_t (s : Bs) :
    callW (E0 mm) 63 [cd (dS s)] [] = (m63 s).map e63 := by
  rw [cR c63_0 [.tmp 2] Tryz.func63]
  unfold m63; exact go k63 @l63_8_t
noncomputable def c73_0 : Code := bodyOf Tryz.f73
def c73_1 := cA c73_0
def c73_3 := cA (cB c73_0)
abbrev R73 := (Bool)
def e73 (x : R73) : AV × Heap := (vd (dB x), [])
def m73 (a b : Bs) : Option R73 :=
  (m63 a).bind fun yr2 =>
    (m63 b).bind fun yr4 =>
      some (yr2 == yr4)
def k73 := Q (rx c73_1) (Q (rx c73_3) (Q @ent63 (Q @prm63 (Q @f63_t (Q @e63.eq_1 (Q (nE c73_0 (.seq c73_1 (.seq c73_3 .ret))) hA))))))
theorem f73_t (a b : Bs) :
    callW (E0 mm) 73 [cd (dS a), cd (dS b)] [] = (m73 a b).map e73 := by
  rw [cR c73_0 [.tmp 4] Tryz.func73]
  unfold m73; exact go k73 trivial
noncomputable def c29_0 : Code := bodyOf Tryz.f29
def c29_1 := cA c29_0
def c29_3 := cA (cB c29_0)
def c29_6 := cA (cA (cB (cB c29_0)))
def c29_8 := cA (cB (cA (cB (cB c29_0))))
def c29_9 := cA c29_8
def c29_10 := cA c29_9
def c29_18 := cA (cA (cA (cB (cB c29_9))))
def c29_20 := cA (cB (cA (cA (cB (cB c29_9)))))
def c29_22 := cA (cB (cB (cA (cA (cB (cB c29_9))))))
def c29_24 := cB (cB (cB c29_9))
def c29_25 := cB (cB (cB c29_0))
def c29_26 := cA c29_25
def L29_8 : List (Nat × Co) := [(1, .keep), (5, .own), (8, .keep), (9, .keep), (10, .keep)]
abbrev R29 := (Bool × List Bs)
def e29 (x : R29) : AV × Heap := (.v (.c (.own x.1 (enL enS x.2) 0)), [.row x.2.length (rz x.1 1)])
def j29_24 (name1 : Bs) (out5_0 : Bool) (out5_1 : List Bs) (t8_0 : Bool) (t8_1 : List (Bs × Bs)) (t9 t10 : Int) : Option ((Bs × Bool × List Bs × Bool × List (Bs × Bs) × Int × Int) ⊕ R29) :=
  some (.inl (name1, out5_0, out5_1, t8_0, t8_1, t9, (w64 (t10 + 1))))
def K29_8 (mm : Int) (r : Option (Ex × St)) : Option (AV × Heap) := bodyD (E0 mm) [.tmp 4] 0 false (sq (E0 mm) 29 0 c29_25 (blockD 0 (r)))
def en29_8 (x : (Bs × Bool × List Bs × Bool × List (Bs × Bs) × Int × Int)) : X := (none, [vd (dS x.1), .v (.c (.own x.2.1 (enL enS x.2.2.1) 0)), vd (.lst x.2.2.2.1 (enL enSS x.2.2.2.2.1)), vd (dI x.2.2.2.2.2.1), vd (dI x.2.2.2.2.2.2)], [.row x.2.2.1.length (rz x.2.1 1)])
def k29 := Q (rx c29_26) (Q (rx c29_10) (Q (rx c29_18) (Q @ao0 (Q (rx c29_20) (Q @f73_t (Q @e73.eq_1 (Q (rx c29_22) (Q @hd2 (Q @nv3 (Q @rw4 (Q @ns5 (Q @ap45 (Q @K29_8.eq_1 (Q (rx c29_1) (Q (rx c29_3) (Q (rx c29_6) (Q (fun mm => lx (E0 mm) 29 c29_8 c29_9 L29_8) (Q (nE c29_0 (.seq c29_1 (.seq c29_3 (.seq (.seq c29_6 (.block 0 c29_8)) c29_25)))) (Q (nE c29_9 (.seq c29_10 (.seq (.cond _ .skip (.exit 0)) (.seq (.block 1 (.seq c29_18 (.seq c29_20 (.cond _ c29_22 .skip)))) c29_24)))) (Q @en29_8.eq_1 (Q @L29_8.eq_1 hA)))))))))))))))))))))
theorem j29_24_t (name1 : Bs) (out5_0 : Bool) (out5_1 : List Bs) (t8_0 : Bool) (t8_1 : List (Bs × Bs)) (t9 t10 : Int) (g1 : Ob) (sl : Sl) (_ : sl 1 = vd (dS name1)) (_ : sl 5 = .v (.c (.own out5_0 (enL enS out5_1) 0))) (_ : sl 8 = vd (.lst t8_0 (enL enSS t8_1))) (_ : sl 9 = vd (dI t9)) (_ : sl 10 = vd (dI t10)) :
    stepE (K29_8 mm) (loopK 0 L29_8 (dn (E0 mm) 29 0 c29_24 sl [.row out5_1.length (rz out5_0 1), g1])) = (j29_24 name1 out5_0 out5_1 t8_0 t8_1 t9 t10).map (sm en29_8 e29) := by
  unfold j29_24; exact go (Q (rx c29_24) k29) trivial
def j29_25 (out5_0 : Bool) (out5_1 : List Bs) : Option R29 :=
  some (out5_0, out5_1)
theorem j29_25_t (out5_0 : Bool) (out5_1 : List Bs)  (sl : Sl) (_ : sl 5 = .v (.c (.own out5_0 (enL enS out5_1) 0))) :
    bodyD (E0 mm) [.tmp 4] 0 false (dn (E0 mm) 29 0 c29_25 sl [.row out5_1.length (rz out5_0 1)]) = (j29_25 out5_0 out5_1).map e29 := by
  unfold j29_25; exact go (Q (nE c29_25 (.seq c29_26 .ret)) k29) trivial
def s29_8 (name1 : Bs) (out5_0 : Bool) (out5_1 : List Bs) (t8_0 : Bool) (t8_1 : List (Bs × Bs)) (t9 t10 : Int) : Option ((Bs × Bool × List Bs × Bool × List (Bs × Bs) × Int × Int) ⊕ R29) :=
  if (decide (t10 < t9)) = true then
    if 0 ≤ t10 ∧ t10 < (t8_1.length : Int) then
      (m73 ((t8_1.getD t10.toNat default).1) name1).bind fun yr5 =>
        if yr5 = true then
          if (out5_1.length + 1) * 16 ≤ 140737488355328 then
            j29_24 name1 false (out5_1 ++ ([(t8_1.getD t10.toNat default).2] : List Bs)) t8_0 t8_1 t9 t10
          else none
        else
          j29_24 name1 out5_0 out5_1 t8_0 t8_1 t9 t10
    else none
  else
    (j29_25 out5_0 out5_1).map .inr
theorem s29_8_t (name1 : Bs) (out5_0 : Bool) (out5_1 : List Bs) (t8_0 : Bool) (t8_1 : List (Bs × Bs)) (t9 t10 : Int) :
    stepE (K29_8 mm) (lp (E0 mm) 29 0 c29_9 L29_8 (en29_8 (name1, out5_0, out5_1, t8_0, t8_1, t9, t10))) = (s29_8 name1 out5_0 out5_1 t8_0 t8_1 t9 t10).map (sm en29_8 e29) := by
  unfold s29_8; exact go k29 (Q @j29_24_t @j29_25_t)
def l29_8 (name1 : Bs) (out5_0 : Bool) (out5_1 : List Bs) (t8_0 : Bool) (t8_1 : List (Bs × Bs)) (t9 t10 : Int) : Option R29 := iter (fun x : (Bs × Bool × List Bs × Bool × List (Bs × Bs) × Int × Int) => s29_8 x.1 x.2.1 x.2.2.1 x.2.2.2.1 x.2.2.2.2.1 x.2.2.2.2.2.1 x.2.2.2.2.2.2) (name1, out5_0, out5_1, t8_0, t8_1, t9, t10)
theorem l29_8_t (name1 : Bs) (out5_0 : Bool) (out5_1 : List Bs) (t8_0 : Bool) (t8_1 : List (Bs × Bs)) (t9 t10 : Int) : (K29_8 mm) (itW (lp (E0 mm) 29 0 c29_9 L29_8) (en29_8 (name1, out5_0, out5_1, t8_0, t8_1, t9, t10))) = (l29_8 name1 out5_0 out5_1 t8_0 t8_1 t9 t10).map e29 :=
  it_sim (K := (K29_8 mm)) rfl (enc := en29_8) (fun x => s29_8_t x.1 x.2.1 x.2.2.1 x.2.2.2.1 x.2.2.2.2.1 x.2.2.2.2.2.1 x.2.2.2.2.2.2) (name1, out5_0, out5_1, t8_0, t8_1, t9, t10)
def m29 (l_0 : Bool) (l_1 : List (Bs × Bs)) (name : Bs) : Option R29 :=
  l29_8 name true ([] : List Bs) l_0 l_1 (l_1.length : Int) (0 : Int)
theorem f29_t (l_0 : Bool) (l_1 : List (Bs × Bs)) (name : Bs) :
    callW (E0 mm) 29 [cd (.lst l_0 (enL enSS l_1)), cd (dS name)] [] = (m29 l_0 l_1 name).map e29 := by
  rw [cR c29_0 [.tmp 4] Tryz.func29]
  unfold m29; exact go k29 @l29_8_t
noncomputable def c71_0 : Code := bodyOf Tryz.f71
def c71_1 := cA c71_0
def c71_4 := cA (cA (cB c71_0))
def c71_6 := cA (cB (cA (cB c71_0)))
def c71_9 := cA (cA (cB (cB (cA (cB c71_0)))))
def c71_13 := cA (cB (cB c71_0))
abbrev R71 := (Bs)
def e71 (x : R71) : AV × Heap := (vd (dS x), [])
def m71 (l_0 : Bool) (l_1 : List (Bs × Bs)) (name : Bs) : Option R71 :=
  (m29 l_0 l_1 name).bind fun yr2 =>
    if ((yr2.2.length : Int) == 1) = true then
      if (0 : Int) < (yr2.2.length : Int) then
        some (yr2.2.getD 0 default)
      else none
    else
      some ([] : Bs)
def k71 := Q (rx c71_1) (Q (rx c71_4) (Q @f29_t (Q @e29.eq_1 (Q (rx c71_6) (Q (rx c71_9) (Q (rx c71_13) (Q (nE c71_0 (.seq c71_1 (.seq (.seq c71_4 (.seq c71_6 (.cond _ (.seq c71_9 .ret) .skip))) (.seq c71_13 .ret)))) hA)))))))
theorem f71_t (l_0 : Bool) (l_1 : List (Bs × Bs)) (name : Bs) :
    callW (E0 mm) 71 [cd (.lst l_0 (enL enSS l_1)), cd (dS name)] [] = (m71 l_0 l_1 name).map e71 := by
  rw [cR c71_0 [.tmp 4] Tryz.func71]
  unfold m71; exact go k71 trivial
noncomputable def c167_0 : Code := bodyOf Tryz.f167
def c167_1 := cA c167_0
def c167_3 := cA (cB c167_0)
abbrev R167 := (Bool)
def e167 (x : R167) : AV × Heap := (vd (dB x), [])
def m167 (s xprefix : Bs) : Option R167 :=
  if (decide ((xprefix.length : Int) ≤ (s.length : Int))) = true then
    (bnd (xprefix.length : Int) s.length).bind fun yk3 =>
      some ((s.take yk3) == xprefix)
  else
    some false
def k167 := Q (rx c167_1) (Q (rx c167_3) (Q (nE c167_0 (.seq c167_1 (.seq c167_3 .ret))) hA))
theorem f167_t (s xprefix : Bs) :
    callW (E0 mm) 167 [cd (dS s), cd (dS xprefix)] [] = (m167 s xprefix).map e167 := by
  rw [cR c167_0 [.tmp 4] Tryz.func167]
  unfold m167; exact go k167 trivial
noncomputable def c146_0 : Code := bodyOf Tryz.f146
def c146_1 := cA c146_0
def c146_4 := cA (cA (cB c146_0))
def c146_7 := cA (cA (cB (cA (cB c146_0))))
def c146_11 := cA (cB (cB c146_0))
abbrev R146 := (Bs)
def e146 (x : R146) : AV × Heap := (vd (dS x), [])
def m146 (s xprefix : Bs) : Option R146 :=
  (m167 s xprefix).bind fun yr2 =>
    if yr2 = true then
      (bnd (xprefix.length : Int) s.length).bind fun yk5 =>
        some (s.drop yk5)
    else
      some s
def k146 := Q (rx c146_1) (Q (rx c146_4) (Q @ent167 (Q @prm167 (Q @f167_t (Q @e167.eq_1 (Q (rx c146_7) (Q (rx c146_11) (Q (nE c146_0 (.seq c146_1 (.seq (.seq c146_4 (.cond _ (.seq c146_7 .ret) .skip)) (.seq c146_11 .ret)))) hA))))))))
theorem f146_t (s xprefix : Bs) :
    callW (E0 mm) 146 [cd (dS s), cd (dS xprefix)] [] = (m146 s xprefix).map e146 := by
  rw [cR c146_0 [.tmp 4] Tryz.func146]
  unfold m146; exact go k146 trivial
noncomputable def c118_0 : Code := bodyOf Tryz.f118
def c118_1 := cA c118_0
def c118_3 := cA (cB c118_0)
abbrev R118 := (Bs)
def e118 (x : R118) : AV × Heap := (vd (dS x), [])
def m118 (s xprefix : Bs) : Option R118 :=
  (m146 s xprefix).bind fun yr2 =>
    some yr2
def k118 := Q (rx c118_1) (Q (rx c118_3) (Q @ent146 (Q @prm146 (Q @f146_t (Q @e146.eq_1 (Q (nE c118_0 (.seq c118_1 (.seq c118_3 .ret))) hA))))))
theorem f118_t (s xprefix : Bs) :
    callW (E0 mm) 118 [cd (dS s), cd (dS xprefix)] [] = (m118 s xprefix).map e118 := by
  rw [cR c118_0 [.tmp 4] Tryz.func118]
  unfold m118; exact go k118 trivial
noncomputable def c119_0 : Code := bodyOf Tryz.f119
def c119_1 := cA c119_0
def c119_3 := cA (cB c119_0)
abbrev R119 := (Bool)
def e119 (x : R119) : AV × Heap := (vd (dB x), [])
def m119 (c : UInt8) : Option R119 :=
  if (decide (c < (33 : UInt8))) = true then
    some true
  else
    if (c == (34 : UInt8)) = true then
      some true
    else
      some (c == (127 : UInt8))
def k119 := Q (rx c119_1) (Q (rx c119_3) (Q (nE c119_0 (.seq c119_1 (.seq c119_3 .ret))) hA))
theorem f119_t (c : UInt8) :
    callW (E0 mm) 119 [cd (.sc (.int .u8 ((c).toNat : Int)))] [] = (m119 c).map e119 := by
  rw [cR c119_0 [.tmp 2] Tryz.func119]
  unfold m119; exact go k119 trivial
noncomputable def c147_0 : Code := bodyOf Tryz.f147
def c147_1 := cA c147_0
def c147_4 := cA (cA (cB c147_0))
def c147_6 := cA (cB (cA (cB c147_0)))
def c147_7 := cA c147_6
def c147_8 := cA c147_7
def c147_16 := cA (cA (cA (cB (cB c147_7))))
def c147_18 := cA (cB (cA (cA (cB (cB c147_7)))))
def c147_21 := cA (cA (cB (cB (cA (cA (cB (cB c147_7)))))))
def c147_24 := cB (cB (cB c147_7))
def c147_25 := cB (cB c147_0)
def c147_26 := cA c147_25
def L147_6 : List (Nat × Co) := [(0, .keep), (1, .keep), (7, .keep), (8, .keep)]
abbrev R147 := (Int)
def e147 (x : R147) : AV × Heap := (vd (dI x), [])
def j147_25  : Option R147 :=
  some (-1 : Int)
def K147_6 (mm : Int) (r : Option (Ex × St)) : Option (AV × Heap) := bodyD (E0 mm) [.tmp 4] 0 false (sq (E0 mm) 147 0 c147_25 (blockD 0 (r)))
def en147_6 (x : (Bool × List UInt8 × Int × Int)) : X := (none, [vd (.lst x.1 (enL enB x.2.1)), vd (.sc (.func (.func 119) #[] #[])), vd (dI x.2.2.1), vd (dI x.2.2.2)], [])
def k147 := Q (rx c147_26) (Q (rx c147_8) (Q (rx c147_16) (Q (rx c147_18) (Q @enB_a (Q @enB_e (Q @ent119 (Q @prm119 (Q @f119_t (Q @e119.eq_1 (Q (rx c147_21) (Q @K147_6.eq_1 (Q (rx c147_24) (Q (rx c147_1) (Q (rx c147_4) (Q (fun mm => lx (E0 mm) 147 c147_6 c147_7 L147_6) (Q (nE c147_0 (.seq c147_1 (.seq (.seq c147_4 (.block 0 c147_6)) c147_25))) (Q (nE c147_7 (.seq c147_8 (.seq (.cond _ .skip (.exit 0)) (.seq (.block 1 (.seq c147_16 (.seq c147_18 (.cond _ (.seq c147_21 .ret) .skip)))) c147_24)))) (Q @en147_6.eq_1 (Q @L147_6.eq_1 hA)))))))))))))))))))
theorem j147_25_t (sl : Sl)  :
    bodyD (E0 mm) [.tmp 4] 0 false (dn (E0 mm) 147 0 c147_25 sl []) = (j147_25).map e147 := by
  unfold j147_25; exact go (Q (nE c147_25 (.seq c147_26 .ret)) k147) trivial
def s147_6 (s0_0 : Bool) (s0_1 : List UInt8) (t7 t8 : Int) : Option ((Bool × List UInt8 × Int × Int) ⊕ R147) :=
  if (decide (t8 < t7)) = true then
    if 0 ≤ t8 ∧ t8 < (s0_1.length : Int) then
      (m119 (s0_1.getD t8.toNat default)).bind fun yr5 =>
        if yr5 = true then
          some (.inr t8)
        else
          some (.inl (s0_0, s0_1, t7, (w64 (t8 + 1))))
    else none
  else
    (j147_25).map .inr
theorem s147_6_t (s0_0 : Bool) (s0_1 : List UInt8) (t7 t8 : Int) :
    stepE (K147_6 mm) (lp (E0 mm) 147 0 c147_7 L147_6 (en147_6 (s0_0, s0_1, t7, t8))) = (s147_6 s0_0 s0_1 t7 t8).map (sm en147_6 e147) := by
  unfold s147_6; exact go k147 @j147_25_t
def l147_6 (s0_0 : Bool) (s0_1 : List UInt8) (t7 t8 : Int) : Option R147 := iter (fun x : (Bool × List UInt8 × Int × Int) => s147_6 x.1 x.2.1 x.2.2.1 x.2.2.2) (s0_0, s0_1, t7, t8)
theorem l147_6_t (s0_0 : Bool) (s0_1 : List UInt8) (t7 t8 : Int) : (K147_6 mm) (itW (lp (E0 mm) 147 0 c147_7 L147_6) (en147_6 (s0_0, s0_1, t7, t8))) = (l147_6 s0_0 s0_1 t7 t8).map e147 :=
  it_sim (K := (K147_6 mm)) rfl (enc := en147_6) (fun x => s147_6_t x.1 x.2.1 x.2.2.1 x.2.2.2) (s0_0, s0_1, t7, t8)
def m147 (s_0 : Bool) (s_1 : List UInt8) : Option R147 :=
  l147_6 s_0 s_1 (s_1.length : Int) (0 : Int)
theorem f147_t (s_0 : Bool) (s_1 : List UInt8) :
    callW (E0 mm) 147 [cd (.lst s_0 (enL enB s_1)), cd (.sc (.func (.func 119) #[] #[]))] [] = (m147 s_0 s_1).map e147 := by
  rw [cR c147_0 [.tmp 4] Tryz.func147]
  unfold m147; exact go k147 @l147_6_t
noncomputable def c120_0 : Code := bodyOf Tryz.f120
def c120_1 := cA c120_0
def c120_3 := cA (cB c120_0)
abbrev R120 := (Bool)
def e120 (x : R120) : AV × Heap := (vd (dB x), [])
def m120 (s_0 : Bool) (s_1 : List UInt8) : Option R120 :=
  (m147 s_0 s_1).bind fun yr2 =>
    some (decide (0 ≤ yr2))
def k120 := Q (rx c120_1) (Q (rx c120_3) (Q @ent147 (Q @prm147 (Q @f147_t (Q @e147.eq_1 (Q (nE c120_0 (.seq c120_1 (.seq c120_3 .ret))) hA))))))
theorem f120_t (s_0 : Bool) (s_1 : List UInt8) :
    callW (E0 mm) 120 [cd (.lst s_0 (enL enB s_1)), cd (.sc (.func (.func 119) #[] #[]))] [] = (m120 s_0 s_1).map e120 := by
  rw [cR c120_0 [.tmp 4] Tryz.func120]
  unfold m120; exact go k120 trivial
noncomputable def c72_0 : Code := bodyOf Tryz.f72
def c72_1 := cA c72_0
def c72_3 := cA (cB c72_0)
def c72_6 := cA (cA (cB (cB c72_0)))
def c72_7 := cB (cA (cB (cB c72_0)))
def c72_9 := cA (cA c72_7)
def c72_12 := cB (cB (cB c72_0))
def c72_13 := cA c72_12
def c72_15 := cA (cB c72_12)
abbrev R72 := (Bool)
def e72 (x : R72) : AV × Heap := (vd (dB x), [])
def j72_7 (s0 : Bs) (t21 : Bool) : Option R72 :=
  if t21 = true then
    some false
  else
    (bnd (w64 ((s0.length : Int) - 1)) s0.length).bind fun yk6 =>
      (bnd 1 yk6).bind fun yk8 =>
        (m120 false ((s0.take yk6).drop yk8)).bind fun yr10 =>
          some (!yr10)
def k72 := Q (rx c72_9) (Q (rx c72_13) (Q (rx c72_15) (Q @hd7 (Q @rw8 (Q @ent120 (Q @prm120 (Q (fun (mm : Int) (s0 : Bs) (yk6 : Nat) (yk8 : Nat) => (show callW (E0 mm) 120 [cd (.lst false (enL enB ((s0.take yk6).drop yk8))), cd (.sc (.func (.func 119) #[] #[]))] [] = _ from f120_t false ((s0.take yk6).drop yk8))) (Q @f120_t (Q @e120.eq_1 (Q (rx c72_1) (Q (rx c72_3) (Q @ent118 (Q @prm118 (Q (fun (mm : Int) (s : Bs) => (show callW (E0 mm) 118 [cd (dS s), cd (dS ([87, 47] : Bs))] [] = _ from f118_t s ([87, 47] : Bs))) (Q @f118_t (Q @e118.eq_1 (Q (rx c72_6) (Q (nE c72_0 (.seq c72_1 (.seq c72_3 (.seq (.seq c72_6 c72_7) c72_12)))) (Q (nE c72_12 (.seq c72_13 (.seq c72_15 .ret))) hA)))))))))))))))))))
theorem j72_7_t (s0 : Bs) (t21 : Bool)  (sl : Sl) (_ : sl 0 = vd (dS s0)) (_ : sl 21 = vd (dB t21)) :
    bodyD (E0 mm) [.tmp 2] 0 false (sq (E0 mm) 72 0 c72_12 (dn (E0 mm) 72 0 c72_7 sl [])) = (j72_7 s0 t21).map e72 := by
  unfold j72_7; exact go (Q (nE c72_7 (.cond _ (.seq c72_9 .ret) .skip)) k72) trivial
def m72 (s : Bs) : Option R72 :=
  (m118 s ([87, 47] : Bs)).bind fun yr2 =>
    if (decide ((yr2.length : Int) < 2)) = true then
      j72_7 yr2 true
    else
      if (0 : Int) < (yr2.length : Int) then
        if ((yr2.getD 0 0) == (34 : UInt8)) = true then
          if 0 ≤ (w64 ((yr2.length : Int) - 1)) ∧ (w64 ((yr2.length : Int) - 1)) < (yr2.length : Int) then
            j72_7 yr2 (!((yr2.getD (w64 ((yr2.length : Int) - 1)).toNat 0) == (34 : UInt8)))
          else none
        else
          j72_7 yr2 true
      else none
theorem f72_t (s : Bs) :
    callW (E0 mm) 72 [cd (dS s)] [] = (m72 s).map e72 := by
  rw [cR c72_0 [.tmp 2] Tryz.func72]
  unfold m72; exact go k72 @j72_7_t
noncomputable def c28_0 : Code := bodyOf Tryz.f28
def c28_1 := cA c28_0
def c28_3 := cA (cB c28_0)
def c28_6 := cA (cA (cB (cB c28_0)))
def c28_9 := cA (cA (cB (cA (cB (cB c28_0)))))
def c28_13 := cA (cB (cB (cB c28_0)))
abbrev R28 := (Bs × Bool)
def e28 (x : R28) : AV × Heap := (.tup [cd (dS x.1), cd (dB x.2)], [])
def m28 (l_0 : Bool) (l_1 : List (Bs × Bs)) : Option R28 :=
  (m71 l_0 l_1 ([101, 116, 97, 103] : Bs)).bind fun yr2 =>
    (m72 yr2).bind fun yr4 =>
      if yr4 = true then
        some (yr2, true)
      else
        some (([] : Bs), false)
def k28 := Q (rx c28_1) (Q (rx c28_3) (Q (fun (mm : Int) (l_0 : Bool) (l_1 : List (Bs × Bs)) => (show callW (E0 mm) 71 [cd (.lst l_0 (enL enSS l_1)), cd (dS ([101, 116, 97, 103] : Bs))] [] = _ from f71_t l_0 l_1 ([101, 116, 97, 103] : Bs))) (Q @f71_t (Q @e71.eq_1 (Q (rx c28_6) (Q @ent72 (Q @prm72 (Q @f72_t (Q @e72.eq_1 (Q (rx c28_13) (Q (rx c28_9) (Q (nE c28_0 (.seq c28_1 (.seq c28_3 (.seq (.seq c28_6 (.cond _ (.seq c28_9 .ret) .skip)) (.seq c28_13 .ret))))) hA))))))))))))
theorem f28_t (l_0 : Bool) (l_1 : List (Bs × Bs)) :
    callW (E0 mm) 28 [cd (.lst l_0 (enL enSS l_1))] [] = (m28 l_0 l_1).map e28 := by
  rw [cR c28_0 [.tmp 2, .tmp 3] Tryz.func28]
  unfold m28; exact go k28 trivial
noncomputable def c77_0 : Code := bodyOf Tryz.f77
def c77_1 := cA c77_0
def c77_4 := cA (cA (cB c77_0))
def c77_7 := cA (cA (cB (cA (cB c77_0))))
def c77_11 := cA (cB (cB c77_0))
abbrev R77 := (Unit) ⊕ (Unit) ⊕ (Nat × List (Bs × Bs))
def e77 (x : R77) : AV × Heap := match x with
  | .inl x => (vd (.lst true []), [])
  | .inr (.inl x) => (.v (.c (.slc 0 0 2 0 (some 0))), [.cells []])
  | .inr (.inr x) => (.v (.c (.slc 0 0 2 x.1 none)), [.cells (enZ enSS x.2)])
def m77 (s_0 : Bool) (s_1 : List (Bs × Bs)) : Option R77 :=
  if s_0 = true then
    some (.inl ())
  else
    if s_1.isEmpty = true then
      some (.inr (.inl ()))
    else
      if s_1.length * 32 ≤ 140737488355328 then
        some (.inr (.inr (s_1.length, s_1)))
      else none
def k77 := Q (rx c77_1) (Q (rx c77_4) (Q (fun {α : Type} => @nilq_e _ _ _ Tryz.underlying22 α) (Q (rx c77_7) (Q (rx c77_11) (Q @hd24 (Q @nv25 (Q @newSlice_z (Q @rw26 (Q @az22 (Q @enZ_isD (Q (enZ_listY (f := enSS) (n := 2) (fun _ => rfl) (by decide)) (Q (nE c77_0 (.seq c77_1 (.seq (.seq c77_4 (.cond _ (.seq c77_7 .ret) .skip)) (.seq c77_11 .ret)))) hA))))))))))))
theorem f77_t (s_0 : Bool) (s_1 : List (Bs × Bs)) :
    callW (E0 mm) 77 [cd (.lst s_0 (enL enSS s_1))] [] = (m77 s_0 s_1).map e77 := by
  rw [cR c77_0 [.tmp 2] Tryz.func77]
  unfold m77; exact go k77 trivial
noncomputable def c122_0 : Code := bodyOf Tryz.f122
def c122_1 := cA c122_0
def c122_4 := cA (cA (cB c122_0))
def c122_6 := cA (cB (cA (cB c122_0)))
def c122_7 := cA c122_6
def c122_8 := cA c122_7
def c122_16 := cA (cA (cA (cB (cB c122_7))))
def c122_18 := cA (cB (cA (cA (cB (cB c122_7)))))
def c122_21 := cA (cA (cB (cB (cA (cA (cB (cB c122_7)))))))
def c122_24 := cB (cB (cB c122_7))
def c122_25 := cB (cB c122_0)
def c122_26 := cA c122_25
def L122_6 : List (Nat × Co) := [(0, .keep), (1, .keep), (7, .keep), (8, .keep)]
abbrev R122 := (Int × Bool × List Bs)
def e122 (x : R122) : AV × Heap := (vd (dI x.1), [.cells [.d (.lst x.2.1 (enL enS x.2.2))]])
def j122_25 (h0_0_0 : Bool) (h0_0_1 : List Bs) : Option R122 :=
  some ((-1 : Int), h0_0_0, h0_0_1)
def K122_6 (mm : Int) (r : Option (Ex × St)) : Option (AV × Heap) := bodyD (E0 mm) [.tmp 4] 1 false (sq (E0 mm) 122 1 c122_25 (blockD 0 (r)))
def en122_6 (x : (Int × Int × Bool × List Bs)) : X := (none, [vd (.lst true []), .v (.c (.fn 78 [(0, 0)])), vd (dI x.1), vd (dI x.2.1)], [.cells [.d (.lst x.2.2.1 (enL enS x.2.2.2))]])
def k122 := Q (rx c122_26) (Q (rx c122_8) (Q (rx c122_16) (Q (rx c122_18) (Q @K122_6.eq_1 (Q (rx c122_1) (Q (rx c122_4) (Q (fun mm => lx (E0 mm) 122 c122_6 c122_7 L122_6) (Q (nE c122_0 (.seq c122_1 (.seq (.seq c122_4 (.block 0 c122_6)) c122_25))) (Q (nE c122_7 (.seq c122_8 (.seq (.cond _ .skip (.exit 0)) (.seq (.block 1 (.seq c122_16 (.seq c122_18 (.cond _ (.seq c122_21 .ret) .skip)))) c122_24)))) (Q @en122_6.eq_1 (Q @L122_6.eq_1 hA)))))))))))
theorem j122_25_t (h0_0_0 : Bool) (h0_0_1 : List Bs)  (sl : Sl)  :
    bodyD (E0 mm) [.tmp 4] 1 false (dn (E0 mm) 122 1 c122_25 sl [.cells [.d (.lst h0_0_0 (enL enS h0_0_1))]]) = (j122_25 h0_0_0 h0_0_1).map e122 := by
  unfold j122_25; exact go (Q (nE c122_25 (.seq c122_26 .ret)) k122) trivial
def s122_6 (t7 t8 : Int) (h0_0_0 : Bool) (h0_0_1 : List Bs) : Option ((Int × Int × Bool × List Bs) ⊕ R122) :=
  if (decide (t8 < t7)) = true then
    none
  else
    (j122_25 h0_0_0 h0_0_1).map .inr
theorem s122_6_t (t7 t8 : Int) (h0_0_0 : Bool) (h0_0_1 : List Bs) :
    stepE (K122_6 mm) (lp (E0 mm) 122 1 c122_7 L122_6 (en122_6 (t7, t8, h0_0_0, h0_0_1))) = (s122_6 t7 t8 h0_0_0 h0_0_1).map (sm en122_6 e122) := by
  unfold s122_6; exact go k122 @j122_25_t
def l122_6 (t7 t8 : Int) (h0_0_0 : Bool) (h0_0_1 : List Bs) : Option R122 := iter (fun x : (Int × Int × Bool × List Bs) => s122_6 x.1 x.2.1 x.2.2.1 x.2.2.2) (t7, t8, h0_0_0, h0_0_1)
theorem l122_6_t (t7 t8 : Int) (h0_0_0 : Bool) (h0_0_1 : List Bs) : (K122_6 mm) (itW (lp (E0 mm) 122 1 c122_7 L122_6) (en122_6 (t7, t8, h0_0_0, h0_0_1))) = (l122_6 t7 t8 h0_0_0 h0_0_1).map e122 :=
  it_sim (K := (K122_6 mm)) rfl (enc := en122_6) (fun x => s122_6_t x.1 x.2.1 x.2.2.1 x.2.2.2) (t7, t8, h0_0_0, h0_0_1)
def m122 (h0_0_0 : Bool) (h0_0_1 : List Bs) : Option R122 :=
  l122_6 (0 : Int) (0 : Int) h0_0_0 h0_0_1
theorem f122_t (h0_0_0 : Bool) (h0_0_1 : List Bs) :
    callW (E0 mm) 122 [cd (.lst true []), .c (.fn 78 [(0, 0)])] [.cells [.d (.lst h0_0_0 (enL enS h0_0_1))]] = (m122 h0_0_0 h0_0_1).map e122 := by
  rw [cR c122_0 [.tmp 4] Tryz.func122]
  unfold m122; exact go k122 @l122_6_t
noncomputable def c76_0 : Code := bodyOf Tryz.f76
def c76_1 := cA c76_0
def c76_3 := cA (cB c76_0)
def c76_6 := cA (cA (cB (cB c76_0)))
def c76_9 := cA (cA (cB (cA (cB (cB c76_0)))))
def c76_14 := cA (cA (cB (cB (cB c76_0))))
def c76_16 := cA (cB (cA (cB (cB (cB c76_0)))))
def c76_17 := cA c76_16
def c76_19 := cA (cA c76_17)
def c76_26 := cA (cA (cA (cB c76_17)))
def c76_28 := cA (cB (cA (cA (cB c76_17))))
def c76_31 := cA (cA (cB (cB (cA (cA (cB c76_17))))))
def c76_32 := cB (cA (cB (cB (cA (cA (cB c76_17))))))
def c76_34 := cB (cB c76_17)
def c76_35 := cB (cB (cB (cB c76_0)))
def c76_36 := cA c76_35
def c76_38 := cA (cB c76_35)
def L76_16 : List (Nat × Co) := [(0, .keep), (1, .keep), (5, .keep), (6, .keep)]
abbrev R76 := (Bool × List Bs)
def e76 (x : R76) : AV × Heap := (vd (.lst true []), [.cells [.d (.lst x.1 (enL enS x.2))]])
def j76_35 (i5 : Int) (h0_0_0 : Bool) (h0_0_1 : List Bs) : Option R76 :=
  if i5 = 0 then
    none
  else none
def K76_16 (mm : Int) (r : Option (Ex × St)) : Option (AV × Heap) := bodyD (E0 mm) [.tmp 4] 1 true (sq (E0 mm) 76 1 c76_35 (blockD 0 (r)))
def en76_16 (x : (Int × Int × Bool × List Bs)) : X := (none, [vd (.lst true []), .v (.c (.fn 78 [(0, 0)])), vd (dI x.1), vd (dI x.2.1)], [.cells [.d (.lst x.2.2.1 (enL enS x.2.2.2))]])
def k76 := Q (rx c76_36) (Q @bnd_n0 (Q (rx c76_19) (Q (rx c76_26) (Q @K76_16.eq_1 (Q (rx c76_1) (Q (rx c76_3) (Q @f122_t (Q @e122.eq_1 (Q (rx c76_6) (Q (rx c76_9) (Q (rx c76_14) (Q (fun mm => lx (E0 mm) 76 c76_16 c76_17 L76_16) (Q (nE c76_0 (.seq c76_1 (.seq c76_3 (.seq (.seq c76_6 (.cond _ (.seq c76_9 .ret) .skip)) (.seq (.seq c76_14 (.block 0 c76_16)) c76_35))))) (Q (nE c76_17 (.seq (.seq c76_19 (.cond _ .skip (.exit 0))) (.seq (.block 1 (.seq c76_26 (.seq c76_28 (.cond _ (.seq c76_31 c76_32) .skip)))) c76_34))) (Q @en76_16.eq_1 (Q @L76_16.eq_1 hA))))))))))))))))
theorem j76_35_t (i5 : Int) (h0_0_0 : Bool) (h0_0_1 : List Bs)  (sl : Sl) (_ : sl 0 = vd (.lst true [])) (_ : sl 5 = vd (dI i5)) :
    bodyD (E0 mm) [.tmp 4] 1 true (dn (E0 mm) 76 1 c76_35 sl [.cells [.d (.lst h0_0_0 (enL enS h0_0_1))]]) = (j76_35 i5 h0_0_0 h0_0_1).map e76 := by
  unfold j76_35; exact go (Q (nE c76_35 (.seq c76_36 (.seq c76_38 .ret))) k76) trivial
def s76_16 (i5 j6 : Int) (h0_0_0 : Bool) (h0_0_1 : List Bs) : Option ((Int × Int × Bool × List Bs) ⊕ R76) :=
  if (decide (j6 < 0)) = true then
    none
  else
    (j76_35 i5 h0_0_0 h0_0_1).map .inr
theorem s76_16_t (i5 j6 : Int) (h0_0_0 : Bool) (h0_0_1 : List Bs) :
    stepE (K76_16 mm) (lp (E0 mm) 76 1 c76_17 L76_16 (en76_16 (i5, j6, h0_0_0, h0_0_1))) = (s76_16 i5 j6 h0_0_0 h0_0_1).map (sm en76_16 e76) := by
  unfold s76_16; exact go k76 @j76_35_t
def l76_16 (i5 j6 : Int) (h0_0_0 : Bool) (h0_0_1 : List Bs) : Option R76 := iter (fun x : (Int × Int × Bool × List Bs) => s76_16 x.1 x.2.1 x.2.2.1 x.2.2.2) (i5, j6, h0_0_0, h0_0_1)
theorem l76_16_t (i5 j6 : Int) (h0_0_0 : Bool) (h0_0_1 : List Bs) : (K76_16 mm) (itW (lp (E0 mm) 76 1 c76_17 L76_16) (en76_16 (i5, j6, h0_0_0, h0_0_1))) = (l76_16 i5 j6 h0_0_0 h0_0_1).map e76 :=
  it_sim (K := (K76_16 mm)) rfl (enc := en76_16) (fun x => s76_16_t x.1 x.2.1 x.2.2.1 x.2.2.2) (i5, j6, h0_0_0, h0_0_1)
def m76 (h0_0_0 : Bool) (h0_0_1 : List Bs) : Option R76 :=
  (m122 h0_0_0 h0_0_1).bind fun yr2 =>
    if (yr2.1 == (-1)) = true then
      some (yr2.2.1, yr2.2.2)
    else
      l76_16 yr2.1 (w64 (yr2.1 + 1)) yr2.2.1 yr2.2.2
theorem f76_t (h0_0_0 : Bool) (h0_0_1 : List Bs) :
    callW (E0 mm) 76 [cd (.lst true []), .c (.fn 78 [(0, 0)])] [.cells [.d (.lst h0_0_0 (enL enS h0_0_1))]] = (m76 h0_0_0 h0_0_1).map e76 := by
  rw [cR c76_0 [.tmp 4] Tryz.func76]
  unfold m76; exact go k76 @l76_16_t
abbrev R122a := (Int × Bool × List Bs)
def L122a_6 : List (Nat × Co) := [(0, .keep), (1, .keep), (7, .keep), (8, .keep)]
def e122a (x : R122a) : AV × Heap := (vd (dI x.1), [.cells [], .cells [.d (.lst x.2.1 (enL enS x.2.2))]])
def j122a_25 (h1_0_0 : Bool) (h1_0_1 : List Bs) : Option R122a :=
  some ((-1 : Int), h1_0_0, h1_0_1)
def K122a_6 (mm : Int) (r : Option (Ex × St)) : Option (AV × Heap) := bodyD (E0 mm) [.tmp 4] 2 false (sq (E0 mm) 122 2 c122_25 (blockD 0 (r)))
def en122a_6 (x : (Int × Int × Bool × List Bs)) : X := (none, [.v (.c (.slc 0 0 2 0 (some 0))), .v (.c (.fn 78 [(1, 0)])), vd (dI x.1), vd (dI x.2.1)], [.cells [], .cells [.d (.lst x.2.2.1 (enL enS x.2.2.2))]])
def k122a := Q (rx c122_26) (Q (rx c122_8) (Q (rx c122_16) (Q (rx c122_18) (Q @K122a_6.eq_1 (Q (rx c122_1) (Q (rx c122_4) (Q (fun mm => lx (E0 mm) 122 c122_6 c122_7 L122a_6) (Q (nE c122_0 (.seq c122_1 (.seq (.seq c122_4 (.block 0 c122_6)) c122_25))) (Q (nE c122_7 (.seq c122_8 (.seq (.cond _ .skip (.exit 0)) (.seq (.block 1 (.seq c122_16 (.seq c122_18 (.cond _ (.seq c122_21 .ret) .skip)))) c122_24)))) (Q @en122a_6.eq_1 (Q @L122a_6.eq_1 hA)))))))))))
theorem j122a_25_t (h1_0_0 : Bool) (h1_0_1 : List Bs)  (sl : Sl)  :
    bodyD (E0 mm) [.tmp 4] 2 false (dn (E0 mm) 122 2 c122_25 sl [.cells [], .cells [.d (.lst h1_0_0 (enL enS h1_0_1))]]) = (j122a_25 h1_0_0 h1_0_1).map e122a := by
  unfold j122a_25; exact go (Q (nE c122_25 (.seq c122_26 .ret)) k122a) trivial
def s122a_6 (t7 t8 : Int) (h1_0_0 : Bool) (h1_0_1 : List Bs) : Option ((Int × Int × Bool × List Bs) ⊕ R122a) :=
  if (decide (t8 < t7)) = true then
    none
  else
    (j122a_25 h1_0_0 h1_0_1).map .inr
theorem s122a_6_t (t7 t8 : Int) (h1_0_0 : Bool) (h1_0_1 : List Bs) :
    stepE (K122a_6 mm) (lp (E0 mm) 122 2 c122_7 L122a_6 (en122a_6 (t7, t8, h1_0_0, h1_0_1))) = (s122a_6 t7 t8 h1_0_0 h1_0_1).map (sm en122a_6 e122a) := by
  unfold s122a_6; exact go k122a @j122a_25_t
def l122a_6 (t7 t8 : Int) (h1_0_0 : Bool) (h1_0_1 : List Bs) : Option R122a := iter (fun x : (Int × Int × Bool × List Bs) => s122a_6 x.1 x.2.1 x.2.2.1 x.2.2.2) (t7, t8, h1_0_0, h1_0_1)
theorem l122a_6_t (t7 t8 : Int) (h1_0_0 : Bool) (h1_0_1 : List Bs) : (K122a_6 mm) (itW (lp (E0 mm) 122 2 c122_7 L122a_6) (en122a_6 (t7, t8, h1_0_0, h1_0_1))) = (l122a_6 t7 t8 h1_0_0 h1_0_1).map e122a :=
  it_sim (K := (K122a_6 mm)) rfl (enc := en122a_6) (fun x => s122a_6_t x.1 x.2.1 x.2.2.1 x.2.2.2) (t7, t8, h1_0_0, h1_0_1)
def m122a (h1_0_0 : Bool) (h1_0_1 : List Bs) : Option R122a :=
  l122a_6 (0 : Int) (0 : Int) h1_0_0 h1_0_1
theorem f122a_t (h1_0_0 : Bool) (h1_0_1 : List Bs) :
    callW (E0 mm) 122 [.c (.slc 0 0 2 0 (some 0)), .c (.fn 78 [(1, 0)])] [.cells [], .cells [.d (.lst h1_0_0 (enL enS h1_0_1))]] = (m122a h1_0_0 h1_0_1).map e122a := by
  rw [cR c122_0 [.tmp 4] Tryz.func122]
  unfold m122a; exact go k122a @l122a_6_t
abbrev R76a := (Bool × List Bs)
def L76a_16 : List (Nat × Co) := [(0, .keep), (1, .keep), (5, .keep), (6, .keep)]
def e76a (x : R76a) : AV × Heap := (.v (.c (.slc 0 0 2 0 (some 0))), [.cells [], .cells [.d (.lst x.1 (enL enS x.2))]])
def j76a_35 (i5 : Int) (h1_0_0 : Bool) (h1_0_1 : List Bs) : Option R76a :=
  if i5 = 0 then
    some (h1_0_0, h1_0_1)
  else none
def K76a_16 (mm : Int) (r : Option (Ex × St)) : Option (AV × Heap) := bodyD (E0 mm) [.tmp 4] 2 true (sq (E0 mm) 76 2 c76_35 (blockD 0 (r)))
def en76a_16 (x : (Int × Int × Bool × List Bs)) : X := (none, [.v (.c (.slc 0 0 2 0 (some 0))), .v (.c (.fn 78 [(1, 0)])), vd (dI x.1), vd (dI x.2.1)], [.cells [], .cells [.d (.lst x.2.2.1 (enL enS x.2.2.2))]])
def k76a := Q (rx c76_36) (Q @bnd_n0 (Q @ce22 (Q (rx c76_38) (Q (rx c76_19) (Q (rx c76_26) (Q @K76a_16.eq_1 (Q (rx c76_1) (Q (rx c76_3) (Q @f122a_t (Q @e122a.eq_1 (Q (rx c76_6) (Q (rx c76_9) (Q (rx c76_14) (Q (fun mm => lx (E0 mm) 76 c76_16 c76_17 L76a_16) (Q (nE c76_0 (.seq c76_1 (.seq c76_3 (.seq (.seq c76_6 (.cond _ (.seq c76_9 .ret) .skip)) (.seq (.seq c76_14 (.block 0 c76_16)) c76_35))))) (Q (nE c76_17 (.seq (.seq c76_19 (.cond _ .skip (.exit 0))) (.seq (.block 1 (.seq c76_26 (.seq c76_28 (.cond _ (.seq c76_31 c76_32) .skip)))) c76_34))) (Q @en76a_16.eq_1 (Q @L76a_16.eq_1 hA))))))))))))))))))
theorem j76a_35_t (i5 : Int) (h1_0_0 : Bool) (h1_0_1 : List Bs)  (sl : Sl) (_ : sl 0 = .v (.c (.slc 0 0 2 0 (some 0)))) (_ : sl 5 = vd (dI i5)) :
    bodyD (E0 mm) [.tmp 4] 2 true (dn (E0 mm) 76 2 c76_35 sl [.cells [], .cells [.d (.lst h1_0_0 (enL enS h1_0_1))]]) = (j76a_35 i5 h1_0_0 h1_0_1).map e76a := by
  unfold j76a_35; exact go (Q (nE c76_35 (.seq c76_36 (.seq c76_38 .ret))) k76a) trivial
def s76a_16 (i5 j6 : Int) (h1_0_0 : Bool) (h1_0_1 : List Bs) : Option ((Int × Int × Bool × List Bs) ⊕ R76a) :=
  if (decide (j6 < 0)) = true then
    none
  else
    (j76a_35 i5 h1_0_0 h1_0_1).map .inr
theorem s76a_16_t (i5 j6 : Int) (h1_0_0 : Bool) (h1_0_1 : List Bs) :
    stepE (K76a_16 mm) (lp (E0 mm) 76 2 c76_17 L76a_16 (en76a_16 (i5, j6, h1_0_0, h1_0_1))) = (s76a_16 i5 j6 h1_0_0 h1_0_1).map (sm en76a_16 e76a) := by
  unfold s76a_16; exact go k76a @j76a_35_t
def l76a_16 (i5 j6 : Int) (h1_0_0 : Bool) (h1_0_1 : List Bs) : Option R76a := iter (fun x : (Int × Int × Bool × List Bs) => s76a_16 x.1 x.2.1 x.2.2.1 x.2.2.2) (i5, j6, h1_0_0, h1_0_1)
theorem l76a_16_t (i5 j6 : Int) (h1_0_0 : Bool) (h1_0_1 : List Bs) : (K76a_16 mm) (itW (lp (E0 mm) 76 2 c76_17 L76a_16) (en76a_16 (i5, j6, h1_0_0, h1_0_1))) = (l76a_16 i5 j6 h1_0_0 h1_0_1).map e76a :=
  it_sim (K := (K76a_16 mm)) rfl (enc := en76a_16) (fun x => s76a_16_t x.1 x.2.1 x.2.2.1 x.2.2.2) (i5, j6, h1_0_0, h1_0_1)
def m76a (h1_0_0 : Bool) (h1_0_1 : List Bs) : Option R76a :=
  (m122a h1_0_0 h1_0_1).bind fun yr2 =>
    if (yr2.1 == (-1)) = true then
      some (yr2.2.1, yr2.2.2)
    else
      l76a_16 yr2.1 (w64 (yr2.1 + 1)) yr2.2.1 yr2.2.2
theorem f76a_t (h1_0_0 : Bool) (h1_0_1 : List Bs) :
    callW (E0 mm) 76 [.c (.slc 0 0 2 0 (some 0)), .c (.fn 78 [(1, 0)])] [.cells [], .cells [.d (.lst h1_0_0 (enL enS h1_0_1))]] = (m76a h1_0_0 h1_0_1).map e76a := by
  rw [cR c76_0 [.tmp 4] Tryz.func76]
  unfold m76a; exact go k76a @l76a_16_t
noncomputable def c80_0 : Code := bodyOf Tryz.f80
def c80_1 := cA c80_0
def c80_3 := cA (cB c80_0)
abbrev R80 := (Bool × Bs × Bs)
def e80 (x : R80) : AV × Heap := (vd (dB x.1), [.cells [.d (dS x.2.1), .d (dS x.2.2)]])
def m80 (name h0_0 h0_1 : Bs) : Option R80 :=
  (m73 h0_0 name).bind fun yr2 =>
    some (yr2, h0_0, h0_1)
def k80 := Q (rx c80_1) (Q (rx c80_3) (Q @f73_t (Q @e73.eq_1 (Q (nE c80_0 (.seq c80_1 (.seq c80_3 .ret))) hA))))
theorem f80_t (name h0_0 h0_1 : Bs) :
    callW (E0 mm) 80 [cd (dS name), .c (.ptr 0 0)] [.cells [.d (dS h0_0), .d (dS h0_1)]] = (m80 name h0_0 h0_1).map e80 := by
  rw [cR c80_0 [.tmp 3] Tryz.func80]
  unfold m80; exact go k80 trivial
noncomputable def c123_0 : Code := bodyOf Tryz.f123
def c123_1 := cA c123_0
def c123_4 := cA (cA (cB c123_0))
def c123_6 := cA (cB (cA (cB c123_0)))
def c123_7 := cA c123_6
def c123_8 := cA c123_7
def c123_16 := cA (cA (cA (cB (cB c123_7))))
def c123_18 := cA (cB (cA (cA (cB (cB c123_7)))))
def c123_21 := cA (cA (cB (cB (cA (cA (cB (cB c123_7)))))))
def c123_24 := cB (cB (cB c123_7))
def c123_25 := cB (cB c123_0)
def c123_26 := cA c123_25
def L123_6 : List (Nat × Co) := [(0, .keep), (1, .keep), (7, .keep), (8, .keep)]
abbrev R123 := (Int × Bs × Bs)
def e123 (x : R123) : AV × Heap := (vd (dI x.1), [.cells [.d (dS x.2.1), .d (dS x.2.2)]])
def j123_25 (h0_0 h0_1 : Bs) : Option R123 :=
  some ((-1 : Int), h0_0, h0_1)
def K123_6 (mm : Int) (r : Option (Ex × St)) : Option (AV × Heap) := bodyD (E0 mm) [.tmp 4] 1 false (sq (E0 mm) 123 1 c123_25 (blockD 0 (r)))
def en123_6 (x : (Bool × List Bs × Int × Int × Bs × Bs)) : X := (none, [vd (.lst x.1 (enL enS x.2.1)), .v (.c (.fn 80 [(0, 0)])), vd (dI x.2.2.1), vd (dI x.2.2.2.1)], [.cells [.d (dS x.2.2.2.2.1), .d (dS x.2.2.2.2.2)]])
def k123 := Q (rx c123_26) (Q (rx c123_8) (Q (rx c123_16) (Q (rx c123_18) (Q @ent80 (Q @prm80 (Q @f80_t (Q @e80.eq_1 (Q (rx c123_21) (Q @K123_6.eq_1 (Q (rx c123_24) (Q (rx c123_1) (Q (rx c123_4) (Q (fun mm => lx (E0 mm) 123 c123_6 c123_7 L123_6) (Q (nE c123_0 (.seq c123_1 (.seq (.seq c123_4 (.block 0 c123_6)) c123_25))) (Q (nE c123_7 (.seq c123_8 (.seq (.cond _ .skip (.exit 0)) (.seq (.block 1 (.seq c123_16 (.seq c123_18 (.cond _ (.seq c123_21 .ret) .skip)))) c123_24)))) (Q @en123_6.eq_1 (Q @L123_6.eq_1 hA)))))))))))))))))
theorem j123_25_t (h0_0 h0_1 : Bs)  (sl : Sl)  :
    bodyD (E0 mm) [.tmp 4] 1 false (dn (E0 mm) 123 1 c123_25 sl [.cells [.d (dS h0_0), .d (dS h0_1)]]) = (j123_25 h0_0 h0_1).map e123 := by
  unfold j123_25; exact go (Q (nE c123_25 (.seq c123_26 .ret)) k123) trivial
def s123_6 (s0_0 : Bool) (s0_1 : List Bs) (t7 t8 : Int) (h0_0 h0_1 : Bs) : Option ((Bool × List Bs × Int × Int × Bs × Bs) ⊕ R123) :=
  if (decide (t8 < t7)) = true then
    if 0 ≤ t8 ∧ t8 < (s0_1.length : Int) then
      (m80 (s0_1.getD t8.toNat default) h0_0 h0_1).bind fun yr5 =>
        if yr5.1 = true then
          some (.inr (t8, yr5.2.1, yr5.2.2))
        else
          some (.inl (s0_0, s0_1, t7, (w64 (t8 + 1)), yr5.2.1, yr5.2.2))
    else none
  else
    (j123_25 h0_0 h0_1).map .inr
theorem s123_6_t (s0_0 : Bool) (s0_1 : List Bs) (t7 t8 : Int) (h0_0 h0_1 : Bs) :
    stepE (K123_6 mm) (lp (E0 mm) 123 1 c123_7 L123_6 (en123_6 (s0_0, s0_1, t7, t8, h0_0, h0_1))) = (s123_6 s0_0 s0_1 t7 t8 h0_0 h0_1).map (sm en123_6 e123) := by
  unfold s123_6; exact go k123 @j123_25_t
def l123_6 (s0_0 : Bool) (s0_1 : List Bs) (t7 t8 : Int) (h0_0 h0_1 : Bs) : Option R123 := iter (fun x : (Bool × List Bs × Int × Int × Bs × Bs) => s123_6 x.1 x.2.1 x.2.2.1 x.2.2.2.1 x.2.2.2.2.1 x.2.2.2.2.2) (s0_0, s0_1, t7, t8, h0_0, h0_1)
theorem l123_6_t (s0_0 : Bool) (s0_1 : List Bs) (t7 t8 : Int) (h0_0 h0_1 : Bs) : (K123_6 mm) (itW (lp (E0 mm) 123 1 c123_7 L123_6) (en123_6 (s0_0, s0_1, t7, t8, h0_0, h0_1))) = (l123_6 s0_0 s0_1 t7 t8 h0_0 h0_1).map e123 :=
  it_sim (K := (K123_6 mm)) rfl (enc := en123_6) (fun x => s123_6_t x.1 x.2.1 x.2.2.1 x.2.2.2.1 x.2.2.2.2.1 x.2.2.2.2.2) (s0_0, s0_1, t7, t8, h0_0, h0_1)
def m123 (s_0 : Bool) (s_1 : List Bs) (h0_0 h0_1 : Bs) : Option R123 :=
  l123_6 s_0 s_1 (s_1.length : Int) (0 : Int) h0_0 h0_1
theorem f123_t (s_0 : Bool) (s_1 : List Bs) (h0_0 h0_1 : Bs) :
    callW (E0 mm) 123 [cd (.lst s_0 (enL enS s_1)), .c (.fn 80 [(0, 0)])] [.cells [.d (dS h0_0), .d (dS h0_1)]] = (m123 s_0 s_1 h0_0 h0_1).map e123 := by
  rw [cR c123_0 [.tmp 4] Tryz.func123]
  unfold m123; exact go k123 @l123_6_t
noncomputable def c79_0 : Code := bodyOf Tryz.f79
def c79_1 := cA c79_0
def c79_3 := cA (cB c79_0)
abbrev R79 := (Bool × Bs × Bs)
def e79 (x : R79) : AV × Heap := (vd (dB x.1), [.cells [.d (dS x.2.1), .d (dS x.2.2)]])
def m79 (s_0 : Bool) (s_1 : List Bs) (h0_0 h0_1 : Bs) : Option R79 :=
  (m123 s_0 s_1 h0_0 h0_1).bind fun yr2 =>
    some ((decide (0 ≤ yr2.1)), yr2.2.1, yr2.2.2)
def k79 := Q (rx c79_1) (Q (rx c79_3) (Q @ent123 (Q @prm123 (Q @f123_t (Q @e123.eq_1 (Q (nE c79_0 (.seq c79_1 (.seq c79_3 .ret))) hA))))))
theorem f79_t (s_0 : Bool) (s_1 : List Bs) (h0_0 h0_1 : Bs) :
    callW (E0 mm) 79 [cd (.lst s_0 (enL enS s_1)), .c (.fn 80 [(0, 0)])] [.cells [.d (dS h0_0), .d (dS h0_1)]] = (m79 s_0 s_1 h0_0 h0_1).map e79 := by
  rw [cR c79_0 [.tmp 4] Tryz.func79]
  unfold m79; exact go k79 trivial
noncomputable def c78_0 : Code := bodyOf Tryz.f78
def c78_1 := cA c78_0
def c78_3 := cA (cB c78_0)
abbrev R78 := (Bool × Bool × List Bs)
def e78 (x : R78) : AV × Heap := (vd (dB x.1), [.cells [.d (.lst x.2.1 (enL enS x.2.2))]])
def m78 (f_0 f_1 : Bs) (h0_0_0 : Bool) (h0_0_1 : List Bs) : Option R78 :=
  (m79 h0_0_0 h0_0_1 f_0 f_1).bind fun yr2 =>
    some (yr2.1, h0_0_0, h0_0_1)
def k78 := Q (rx c78_1) (Q (rx c78_3) (Q @sz45 (Q @ag45 (Q @ent79 (Q @prm79 (Q @f79_t (Q @e79.eq_1 (Q (nE c78_0 (.seq c78_1 (.seq c78_3 .ret))) hA))))))))
theorem f78_t (f_0 f_1 : Bs) (h0_0_0 : Bool) (h0_0_1 : List Bs) :
    callW (E0 mm) 78 [.agg [.d (dS f_0), .d (dS f_1)], .c (.ptr 0 0)] [.cells [.d (.lst h0_0_0 (enL enS h0_0_1))]] = (m78 f_0 f_1 h0_0_0 h0_0_1).map e78 := by
  rw [cR c78_0 [.tmp 3] Tryz.func78]
  unfold m78; exact go k78 trivial
abbrev R122b := (Int × List (Bs × Bs) × Bool × List Bs)
def L122b_6 : List (Nat × Co) := [(0, .keep), (1, .keep), (7, .keep), (8, .keep)]
def e122b (x : R122b) : AV × Heap := (vd (dI x.1), [.cells (enZ enSS x.2.1), .cells [.d (.lst x.2.2.1 (enL enS x.2.2.2))]])
def j122b_25 (h0 : List (Bs × Bs)) (h1_0_0 : Bool) (h1_0_1 : List Bs) : Option R122b :=
  some ((-1 : Int), h0, h1_0_0, h1_0_1)
def K122b_6 (mm : Int) (r : Option (Ex × St)) : Option (AV × Heap) := bodyD (E0 mm) [.tmp 4] 2 false (sq (E0 mm) 122 2 c122_25 (blockD 0 (r)))
def en122b_6 (x : (Nat × Int × Int × List (Bs × Bs) × Bool × List Bs)) : X := (none, [.v (.c (.slc 0 0 2 x.1 none)), .v (.c (.fn 78 [(1, 0)])), vd (dI x.2.1), vd (dI x.2.2.1)], [.cells (enZ enSS x.2.2.2.1), .cells [.d (.lst x.2.2.2.2.1 (enL enS x.2.2.2.2.2))]])
def k122b := Q (rx c122_26) (Q @enZ_isD (Q (enZ_listY (f := enSS) (n := 2) (fun _ => rfl) (by decide)) (Q (rx c122_8) (Q (rx c122_16) (Q (rx c122_18) (Q (enZ_length (f := enSS) (n := 2) (fun _ => rfl)) (Q (enZ_le 2 (by decide)) (Q (enZ_load (f := enSS) (n := 2) (fun _ => rfl)) (Q @f78_t (Q @e78.eq_1 (Q (rx c122_21) (Q @K122b_6.eq_1 (Q (rx c122_24) (Q (rx c122_1) (Q (rx c122_4) (Q (fun mm => lx (E0 mm) 122 c122_6 c122_7 L122b_6) (Q (nE c122_0 (.seq c122_1 (.seq (.seq c122_4 (.block 0 c122_6)) c122_25))) (Q (nE c122_7 (.seq c122_8 (.seq (.cond _ .skip (.exit 0)) (.seq (.block 1 (.seq c122_16 (.seq c122_18 (.cond _ (.seq c122_21 .ret) .skip)))) c122_24)))) (Q @en122b_6.eq_1 (Q @L122b_6.eq_1 hA))))))))))))))))))))
theorem j122b_25_t (h0 : List (Bs × Bs)) (h1_0_0 : Bool) (h1_0_1 : List Bs)  (sl : Sl)  :
    bodyD (E0 mm) [.tmp 4] 2 false (dn (E0 mm) 122 2 c122_25 sl [.cells (enZ enSS h0), .cells [.d (.lst h1_0_0 (enL enS h1_0_1))]]) = (j122b_25 h0 h1_0_0 h1_0_1).map e122b := by
  unfold j122b_25; exact go (Q (nE c122_25 (.seq c122_26 .ret)) k122b) trivial
def s122b_6 (s0_1 : Nat) (t7 t8 : Int) (h0 : List (Bs × Bs)) (h1_0_0 : Bool) (h1_0_1 : List Bs) : Option ((Nat × Int × Int × List (Bs × Bs) × Bool × List Bs) ⊕ R122b) :=
  if (decide (t8 < t7)) = true then
    if 0 ≤ t8 ∧ t8 < (s0_1 : Int) then
      if t8.toNat < h0.length then
        (m78 ((h0.getD t8.toNat default).1) ((h0.getD t8.toNat default).2) h1_0_0 h1_0_1).bind fun yr6 =>
          if yr6.1 = true then
            some (.inr (t8, h0, yr6.2.1, yr6.2.2))
          else
            some (.inl (s0_1, t7, (w64 (t8 + 1)), h0, yr6.2.1, yr6.2.2))
      else none
    else none
  else
    (j122b_25 h0 h1_0_0 h1_0_1).map .inr
theorem s122b_6_t (s0_1 : Nat) (t7 t8 : Int) (h0 : List (Bs × Bs)) (h1_0_0 : Bool) (h1_0_1 : List Bs) :
    stepE (K122b_6 mm) (lp (E0 mm) 122 2 c122_7 L122b_6 (en122b_6 (s0_1, t7, t8, h0, h1_0_0, h1_0_1))) = (s122b_6 s0_1 t7 t8 h0 h1_0_0 h1_0_1).map (sm en122b_6 e122b) := by
  unfold s122b_6; exact go k122b @j122b_25_t
def l122b_6 (s0_1 : Nat) (t7 t8 : Int) (h0 : List (Bs × Bs)) (h1_0_0 : Bool) (h1_0_1 : List Bs) : Option R122b := iter (fun x : (Nat × Int × Int × List (Bs × Bs) × Bool × List Bs) => s122b_6 x.1 x.2.1 x.2.2.1 x.2.2.2.1 x.2.2.2.2.1 x.2.2.2.2.2) (s0_1, t7, t8, h0, h1_0_0, h1_0_1)
theorem l122b_6_t (s0_1 : Nat) (t7 t8 : Int) (h0 : List (Bs × Bs)) (h1_0_0 : Bool) (h1_0_1 : List Bs) : (K122b_6 mm) (itW (lp (E0 mm) 122 2 c122_7 L122b_6) (en122b_6 (s0_1, t7, t8, h0, h1_0_0, h1_0_1))) = (l122b_6 s0_1 t7 t8 h0 h1_0_0 h1_0_1).map e122b :=
  it_sim (K := (K122b_6 mm)) rfl (enc := en122b_6) (fun x => s122b_6_t x.1 x.2.1 x.2.2.1 x.2.2.2.1 x.2.2.2.2.1 x.2.2.2.2.2) (s0_1, t7, t8, h0, h1_0_0, h1_0_1)
def m122b (s_1 : Nat) (h0 : List (Bs × Bs)) (h1_0_0 : Bool) (h1_0_1 : List Bs) : Option R122b :=
  l122b_6 s_1 (s_1 : Int) (0 : Int) h0 h1_0_0 h1_0_1
theorem f122b_t (s_1 : Nat) (h0 : List (Bs × Bs)) (h1_0_0 : Bool) (h1_0_1 : List Bs) :
    callW (E0 mm) 122 [.c (.slc 0 0 2 s_1 none), .c (.fn 78 [(1, 0)])] [.cells (enZ enSS h0), .cells [.d (.lst h1_0_0 (enL enS h1_0_1))]] = (m122b s_1 h0 h1_0_0 h1_0_1).map e122b := by
  rw [cR c122_0 [.tmp 4] Tryz.func122]
  unfold m122b; exact go k122b @l122b_6_t
abbrev R76b := (Nat × List (Bs × Bs) × Bool × List Bs)
def L76b_16 : List (Nat × Co) := [(0, .keep), (1, .keep), (5, .keep), (6, .keep)]
def e76b (x : R76b) : AV × Heap := (.v (.c (.slc 0 0 2 x.1 none)), [.cells (enZ enSS x.2.1), .cells [.d (.lst x.2.2.1 (enL enS x.2.2.2))]])
def j76b_34 (s0_1 : Nat) (i5 j6 : Int) (h0 : List (Bs × Bs)) (h1_0_0 : Bool) (h1_0_1 : List Bs) : Option ((Nat × Int × Int × List (Bs × Bs) × Bool × List Bs) ⊕ R76b) :=
  some (.inl (s0_1, i5, (w64 (j6 + 1)), h0, h1_0_0, h1_0_1))
def K76b_16 (mm : Int) (r : Option (Ex × St)) : Option (AV × Heap) := bodyD (E0 mm) [.tmp 4] 2 true (sq (E0 mm) 76 2 c76_35 (blockD 0 (r)))
def en76b_16 (x : (Nat × Int × Int × List (Bs × Bs) × Bool × List Bs)) : X := (none, [.v (.c (.slc 0 0 2 x.1 none)), .v (.c (.fn 78 [(1, 0)])), vd (dI x.2.1), vd (dI x.2.2.1)], [.cells (enZ enSS x.2.2.2.1), .cells [.d (.lst x.2.2.2.2.1 (enL enS x.2.2.2.2.2))]])
def k76b := Q @enZ_isD (Q (enZ_listY (f := enSS) (n := 2) (fun _ => rfl) (by decide)) (Q (rx c76_36) (Q (fun l hp => cz22 (hp := .cells _ :: hp) (k := 0) (l := l) rfl) (Q (rx c76_38) (Q (rx c76_19) (Q (rx c76_26) (Q (enZ_length (f := enSS) (n := 2) (fun _ => rfl)) (Q (enZ_le 2 (by decide)) (Q (enZ_load (f := enSS) (n := 2) (fun _ => rfl)) (Q @ao29 (Q (rx c76_28) (Q @f78_t (Q @e78.eq_1 (Q (rx c76_31) (Q @wz30 (Q (rx c76_32) (Q @K76b_16.eq_1 (Q (rx c76_1) (Q (rx c76_3) (Q @f122b_t (Q @e122b.eq_1 (Q (rx c76_6) (Q (rx c76_9) (Q (rx c76_14) (Q (fun mm => lx (E0 mm) 76 c76_16 c76_17 L76b_16) (Q (nE c76_0 (.seq c76_1 (.seq c76_3 (.seq (.seq c76_6 (.cond _ (.seq c76_9 .ret) .skip)) (.seq (.seq c76_14 (.block 0 c76_16)) c76_35))))) (Q (nE c76_17 (.seq (.seq c76_19 (.cond _ .skip (.exit 0))) (.seq (.block 1 (.seq c76_26 (.seq c76_28 (.cond _ (.seq c76_31 c76_32) .skip)))) c76_34))) (Q @en76b_16.eq_1 (Q @L76b_16.eq_1 hA)))))))))))))))))))))))))))))
theorem j76b_34_t (s0_1 : Nat) (i5 j6 : Int) (h0 : List (Bs × Bs)) (h1_0_0 : Bool) (h1_0_1 : List Bs) (g2 : Ob) (sl : Sl) (_ : sl 0 = .v (.c (.slc 0 0 2 s0_1 none))) (_ : sl 1 = .v (.c (.fn 78 [(1, 0)]))) (_ : sl 5 = vd (dI i5)) (_ : sl 6 = vd (dI j6)) :
    stepE (K76b_16 mm) (loopK 2 L76b_16 (dn (E0 mm) 76 2 c76_34 sl [.cells (enZ enSS h0), .cells [.d (.lst h1_0_0 (enL enS h1_0_1))], g2])) = (j76b_34 s0_1 i5 j6 h0 h1_0_0 h1_0_1).map (sm en76b_16 e76b) := by
  unfold j76b_34; exact go (Q (rx c76_34) k76b) trivial
def j76b_35 (s0_1 : Nat) (i5 : Int) (h0 : List (Bs × Bs)) (h1_0_0 : Bool) (h1_0_1 : List Bs) : Option R76b :=
  (bnd i5 s0_1).bind fun yk15 =>
    if yk15 + (s0_1 - yk15) ≤ h0.length then
      some (yk15, (h0.take yk15 ++ (List.replicate (s0_1 - yk15) (([] : Bs), ([] : Bs)) ++ h0.drop (yk15 + (s0_1 - yk15)))), h1_0_0, h1_0_1)
    else none
theorem j76b_35_t (s0_1 : Nat) (i5 : Int) (h0 : List (Bs × Bs)) (h1_0_0 : Bool) (h1_0_1 : List Bs)  (sl : Sl) (_ : sl 0 = .v (.c (.slc 0 0 2 s0_1 none))) (_ : sl 5 = vd (dI i5)) :
    bodyD (E0 mm) [.tmp 4] 2 true (dn (E0 mm) 76 2 c76_35 sl [.cells (enZ enSS h0), .cells [.d (.lst h1_0_0 (enL enS h1_0_1))]]) = (j76b_35 s0_1 i5 h0 h1_0_0 h1_0_1).map e76b := by
  unfold j76b_35; exact go (Q (nE c76_35 (.seq c76_36 (.seq c76_38 .ret))) k76b) trivial
def s76b_16 (s0_1 : Nat) (i5 j6 : Int) (h0 : List (Bs × Bs)) (h1_0_0 : Bool) (h1_0_1 : List Bs) : Option ((Nat × Int × Int × List (Bs × Bs) × Bool × List Bs) ⊕ R76b) :=
  if (decide (j6 < (s0_1 : Int))) = true then
    if 0 ≤ j6 ∧ j6 < (s0_1 : Int) then
      if j6.toNat < h0.length then
        (m78 ((h0.getD j6.toNat default).1) ((h0.getD j6.toNat default).2) h1_0_0 h1_0_1).bind fun yr9 =>
          if yr9.1 = true then
            j76b_34 s0_1 i5 j6 h0 yr9.2.1 yr9.2.2
          else
            if 0 ≤ i5 ∧ i5 < (s0_1 : Int) then
              if i5.toNat < h0.length then
                j76b_34 s0_1 (w64 (i5 + 1)) j6 (h0.set i5.toNat ((h0.getD j6.toNat default).1, (h0.getD j6.toNat default).2)) yr9.2.1 yr9.2.2
              else none
            else none
      else none
    else none
  else
    (j76b_35 s0_1 i5 h0 h1_0_0 h1_0_1).map .inr
theorem s76b_16_t (s0_1 : Nat) (i5 j6 : Int) (h0 : List (Bs × Bs)) (h1_0_0 : Bool) (h1_0_1 : List Bs) :
    stepE (K76b_16 mm) (lp (E0 mm) 76 2 c76_17 L76b_16 (en76b_16 (s0_1, i5, j6, h0, h1_0_0, h1_0_1))) = (s76b_16 s0_1 i5 j6 h0 h1_0_0 h1_0_1).map (sm en76b_16 e76b) := by
  unfold s76b_16; exact go k76b (Q @j76b_34_t @j76b_35_t)
def l76b_16 (s0_1 : Nat) (i5 j6 : Int) (h0 : List (Bs × Bs)) (h1_0_0 : Bool) (h1_0_1 : List Bs) : Option R76b := iter (fun x : (Nat × Int × Int × List (Bs × Bs) × Bool × List Bs) => s76b_16 x.1 x.2.1 x.2.2.1 x.2.2.2.1 x.2.2.2.2.1 x.2.2.2.2.2) (s0_1, i5, j6, h0, h1_0_0, h1_0_1)
theorem l76b_16_t (s0_1 : Nat) (i5 j6 : Int) (h0 : List (Bs × Bs)) (h1_0_0 : Bool) (h1_0_1 : List Bs) : (K76b_16 mm) (itW (lp (E0 mm) 76 2 c76_17 L76b_16) (en76b_16 (s0_1, i5, j6, h0, h1_0_0, h1_0_1))) = (l76b_16 s0_1 i5 j6 h0 h1_0_0 h1_0_1).map e76b :=
  it_sim (K := (K76b_16 mm)) rfl (enc := en76b_16) (fun x => s76b_16_t x.1 x.2.1 x.2.2.1 x.2.2.2.1 x.2.2.2.2.1 x.2.2.2.2.2) (s0_1, i5, j6, h0, h1_0_0, h1_0_1)
def m76b (s_1 : Nat) (h0 : List (Bs × Bs)) (h1_0_0 : Bool) (h1_0_1 : List Bs) : Option R76b :=
  (m122b s_1 h0 h1_0_0 h1_0_1).bind fun yr2 =>
    if (yr2.1 == (-1)) = true then
      some (s_1, yr2.2.1, yr2.2.2.1, yr2.2.2.2)
    else
      l76b_16 s_1 yr2.1 (w64 (yr2.1 + 1)) yr2.2.1 yr2.2.2.1 yr2.2.2.2
theorem f76b_t (s_1 : Nat) (h0 : List (Bs × Bs)) (h1_0_0 : Bool) (h1_0_1 : List Bs) :
    callW (E0 mm) 76 [.c (.slc 0 0 2 s_1 none), .c (.fn 78 [(1, 0)])] [.cells (enZ enSS h0), .cells [.d (.lst h1_0_0 (enL enS h1_0_1))]] = (m76b s_1 h0 h1_0_0 h1_0_1).map e76b := by
  rw [cR c76_0 [.tmp 4] Tryz.func76]
  unfold m76b; exact go k76b @l76b_16_t
noncomputable def c37_0 : Code := bodyOf Tryz.f37
def c37_1 := cA c37_0
def c37_2 := cB c37_0
def c37_3 := cA c37_2
def c37_4 := cB c37_2
theorem c37_0_e : c37_0 = .seq c37_1 c37_2 := rfl
theorem c37_1_r : RG (E0 mm) 37 c37_1 := rgN rfl
theorem c37_2_e : c37_2 = .seq c37_3 c37_4 := rfl
theorem c37_3_r : RG (E0 mm) 37 c37_3 := rgN rfl
theorem c37_4_e : c37_4 = .ret := rfl
abbrev R37 := (Bool × List (Bs × Bs))
def e37 (x : R37) : AV × Heap := (.v (.c (.d (.lst x.1 (enL enSS x.2)))), [])
def m37 (l_0 : Bool) (l_1 : List (Bs × Bs)) (names_0 : Bool) (names_1 : List Bs) : Option R37 :=
  (m77 l_0 l_1).bind fun yr2 =>
    match yr2 with
    | .inl yr3 =>
      (m76 names_0 names_1).bind fun yr6 =>
        some (true, ([] : List (Bs × Bs)))
    | .inr yr4 =>
      match yr4 with
      | .inl yr7 =>
        (m76a names_0 names_1).bind fun yr10 =>
          some (false, ([] : List (Bs × Bs)))
      | .inr yr8 =>
        (m76b yr8.1 yr8.2 names_0 names_1).bind fun yr12 =>
          if yr12.1 ≤ yr12.2.1.length then
            some (false, (yr12.2.1.take yr12.1))
          else none
theorem f37_t (l_0 : Bool) (l_1 : List (Bs × Bs)) (names_0 : Bool) (names_1 : List Bs) :
    callW (E0 mm) 37 [.c (.d (.lst l_0 (enL enSS l_1))), .c (.d (.lst names_0 (enL enS names_1)))] [] = (m37 l_0 l_1 names_0 names_1).map e37 := by
  rw [cR c37_0 [.tmp 4] Tryz.func37]
  simp -implicitDefEqProofs only [m37, slots2, c37_0_e, c37_1_r, (show opsOf c37_1 = _ :: _ from rfl), c37_2_e, c37_3_r, (show opsOf c37_3 = _ :: _ from rfl), ent77, prm77, f77_t, setA, setB, za, zb, zc, zd, ze, zf, zg, zh, zi, zj, zk, zl, zm, zn, zo, zp, reduceCtorEq, zE, ↓reduceIte]
  refine brM (fun yc1 => ?_) (fun yr2 yc1 => ?_)
  · rw [yc1]; rfl
  · rcases yr2 with yr3 | yr4
    · simp -implicitDefEqProofs only [e77, ent76, prm76, f76_t, yc1, setA, setB, za, zb, zc, zd, ze, zf, zg, zh, zi, zj, zk, zl, zm, zn, zo, zp, reduceCtorEq, zE, ↓reduceIte]
      refine brM (fun yc5 => ?_) (fun yr6 yc5 => ?_)
      · rw [yc5]; rfl
      · simp -implicitDefEqProofs only [e76, c37_4_e, yc1, yc5, setA, setB, za, zb, zc, zd, ze, zf, zg, zh, zi, zj, zk, zl, zm, zn, zo, zp, reduceCtorEq, zE, ↓reduceIte]
        all_goals rfl
    · rcases yr4 with yr7 | yr8
      · simp -implicitDefEqProofs only [e77, ent76, prm76, f76a_t, yc1, setA, setB, za, zb, zc, zd, ze, zf, zg, zh, zi, zj, zk, zl, zm, zn, zo, zp, reduceCtorEq, zE, ↓reduceIte]
        refine brM (fun yc9 => ?_) (fun yr10 yc9 => ?_)
        · rw [yc9]; rfl
        · simp -implicitDefEqProofs only [e76a, c37_4_e, (enZ_list0 (n := 2) (hp := [.cells [.d (.lst yr10.1 (enL enS yr10.2))], .cells []]) (k := 1) rfl (some 0)), yc1, yc9, setA, setB, za, zb, zc, zd, ze, zf, zg, zh, zi, zj, zk, zl, zm, zn, zo, zp, reduceCtorEq, zE, ↓reduceIte]
          all_goals rfl
      · simp -implicitDefEqProofs only [e77, ent76, prm76, f76b_t, enZ_isD, (enZ_listY (f := enSS) (n := 2) (fun _ => rfl) (by decide)), yc1, setA, setB, za, zb, zc, zd, ze, zf, zg, zh, zi, zj, zk, zl, zm, zn, zo, zp, reduceCtorEq, zE, ↓reduceIte]
        refine brM (fun yc11 => ?_) (fun yr12 yc11 => ?_)
        · rw [yc11]; rfl
        · simp -implicitDefEqProofs only [e76b, c37_4_e, enZ_isD, (enZ_listY (f := enSS) (n := 2) (fun _ => rfl) (by decide)), yc1, yc11, setA, setB, za, zb, zc, zd, ze, zf, zg, zh, zi, zj, zk, zl, zm, zn, zo, zp, reduceCtorEq, zE, ↓reduceIte]
          refine brP (fun yc13 => ?_) (fun yc13 => ?_)
          · simp -implicitDefEqProofs only [(enZ_list (f := enSS) (n := 2) (hp := [.cells [.d (.lst yr12.2.2.1 (enL enS yr12.2.2.2))], .cells (enZ enSS yr12.2.1)]) (k := 1) (l := yr12.2.1) (fun _ => rfl) rfl yr12.1 none yc13), enZ_isD, (enZ_listY (f := enSS) (n := 2) (fun _ => rfl) (by decide)), yc1, yc11, yc13, setA, setB, za, zb, zc, zd, ze, zf, zg, zh, zi, zj, zk, zl, zm, zn, zo, zp, reduceCtorEq, zE, ↓reduceIte]
            all_goals rfl
          · rw [if_neg yc13]; rfl
noncomputable def c58_0 : Code := bodyOf Tryz.f58
def c58_1 := cA c58_0
def c58_3 := cA (cB c58_0)
abbrev R58 := (Bool)
def e58 (x : R58) : AV × Heap := (vd (dB x), [])
def m58 (l_0 : Bool) (l_1 : List (Bs × Bs)) (names_0 : Bool) (names_1 : List Bs) : Option R58 :=
  (m37 l_0 l_1 names_0 names_1).bind fun yr2 =>
    some (decide ((yr2.2.length : Int) < (l_1.length : Int)))
def k58 := Q (rx c58_1) (Q (rx c58_3) (Q @ent37 (Q @prm37 (Q @f37_t (Q @e37.eq_1 (Q (nE c58_0 (.seq c58_1 (.seq c58_3 .ret))) hA))))))
theorem f58_t (l_0 : Bool) (l_1 : List (Bs × Bs)) (names_0 : Bool) (names_1 : List Bs) :
    callW (E0 mm) 58 [cd (.lst l_0 (enL enSS l_1)), cd (.lst names_0 (enL enS names_1))] [] = (m58 l_0 l_1 names_0 names_1).map e58 := by
  rw [cR c58_0 [.tmp 4] Tryz.func58]
  unfold m58; exact go k58 trivial
noncomputable def c30_0 : Code := bodyOf Tryz.f30
def c30_1 := cA c30_0
def c30_3 := cA (cB c30_0)
abbrev R30 := (Bool)
def e30 (x : R30) : AV × Heap := (vd (dB x), [])
def m30 (l_0 : Bool) (l_1 : List (Bs × Bs)) : Option R30 :=
  (m58 l_0 l_1 false ([([105, 102, 45, 109, 97, 116, 99, 104] : Bs), ([105, 102, 45, 110, 111, 110, 101, 45, 109, 97, 116, 99, 104] : Bs), ([105, 102, 45, 109, 111, 100, 105, 102, 105, 101, 100, 45, 115, 105, 110, 99, 101] : Bs), ([105, 102, 45, 117, 110, 109, 111, 100, 105, 102, 105, 101, 100, 45, 115, 105, 110, 99, 101] : Bs), ([105, 102, 45, 114, 97, 110, 103, 101] : Bs), ([114, 97, 110, 103, 101] : Bs), ([99, 111, 110, 116, 101, 110, 116, 45, 108, 101, 110, 103, 116, 104] : Bs), ([116, 114, 97, 110, 115, 102, 101, 114, 45, 101, 110, 99, 111, 100, 105, 110, 103] : Bs)] : List Bs)).bind fun yr2 =>
    some (!yr2)
def k30 := Q (rx c30_1) (Q (rx c30_3) (Q @hd20 (Q @nv21 (Q @rw22 (Q @ns23 (Q @ent58 (Q @prm58 (Q (fun (mm : Int) (l_0 : Bool) (l_1 : List (Bs × Bs)) => (show callW (E0 mm) 58 [cd (.lst l_0 (enL enSS l_1)), cd (.lst false (enL enS ([([105, 102, 45, 109, 97, 116, 99, 104] : Bs), ([105, 102, 45, 110, 111, 110, 101, 45, 109, 97, 116, 99, 104] : Bs), ([105, 102, 45, 109, 111, 100, 105, 102, 105, 101, 100, 45, 115, 105, 110, 99, 101] : Bs), ([105, 102, 45, 117, 110, 109, 111, 100, 105, 102, 105, 101, 100, 45, 115, 105, 110, 99, 101] : Bs), ([105, 102, 45, 114, 97, 110, 103, 101] : Bs), ([114, 97, 110, 103, 101] : Bs), ([99, 111, 110, 116, 101, 110, 116, 45, 108, 101, 110, 103, 116, 104] : Bs), ([116, 114, 97, 110, 115, 102, 101, 114, 45, 101, 110, 99, 111, 100, 105, 110, 103] : Bs)] : List Bs)))] [] = _ from f58_t l_0 l_1 false ([([105, 102, 45, 109, 97, 116, 99, 104] : Bs), ([105, 102, 45, 110, 111, 110, 101, 45, 109, 97, 116, 99, 104] : Bs), ([105, 102, 45, 109, 111, 100, 105, 102, 105, 101, 100, 45, 115, 105, 110, 99, 101] : Bs), ([105, 102, 45, 117, 110, 109, 111, 100, 105, 102, 105, 101, 100, 45, 115, 105, 110, 99, 101] : Bs), ([105, 102, 45, 114, 97, 110, 103, 101] : Bs), ([114, 97, 110, 103, 101] : Bs), ([99, 111, 110, 116, 101, 110, 116, 45, 108, 101, 110, 103, 116, 104] : Bs), ([116, 114, 97, 110, 115, 102, 101, 114, 45, 101, 110, 99, 111, 100, 105, 110, 103] : Bs)] : List Bs))) (Q @f58_t (Q @e58.eq_1 (Q (nE c30_0 (.seq c30_1 (.seq c30_3 .ret))) hA)))))))))))
theorem f30_t (l_0 : Bool) (l_1 : List (Bs × Bs)) :
    callW (E0 mm) 30 [cd (.lst l_0 (enL enSS l_1))] [] = (m30 l_0 l_1).map e30 := by
  rw [cR c30_0 [.tmp 2] Tryz.func30]
  unfold m30; exact go k30 trivial
noncomputable def c117_0 : Code := bodyOf Tryz.f117
def c117_1 := cA c117_0
def c117_3 := cA (cB c117_0)
abbrev R117 := (Int)
def e117 (x : R117) : AV × Heap := (vd (dI x), [])
def m117 (s substr : Bs) : Option R117 :=
  (mIx s substr).bind fun yr2 =>
    some yr2
def k117 := Q (rx c117_1) (Q (rx c117_3) (Q @ent145 (Q @prm145 (Q @pIndex_t (Q (nE c117_0 (.seq c117_1 (.seq c117_3 .ret))) hA)))))
theorem f117_t (s substr : Bs) :
    callW (E0 mm) 117 [cd (dS s), cd (dS substr)] [] = (m117 s substr).map e117 := by
  rw [cR c117_0 [.tmp 4] Tryz.func117]
  unfold m117; exact go k117 trivial
noncomputable def c134_0 : Code := bodyOf Tryz.f134
def c134_1 := cA c134_0
def c134_3 := cA (cB c134_0)
def c134_6 := cA (cA (cB (cB c134_0)))
def c134_8 := cA (cB (cA (cB (cB c134_0))))
def c134_9 := cA c134_8
def c134_10 := cA c134_9
def c134_18 := cA (cA (cA (cB (cB c134_9))))
def c134_19 := cB (cA (cA (cB (cB c134_9))))
def c134_20 := cB (cB (cB c134_9))
def c134_21 := cB (cB (cB c134_0))
def c134_22 := cA c134_21
def L134_8 : List (Nat × Co) := [(0, .keep), (3, .keep), (6, .keep), (7, .keep)]
abbrev R134 := (Int)
def e134 (x : R134) : AV × Heap := (vd (dI x), [])
def j134_21 (n3 : Int) : Option R134 :=
  some n3
def K134_8 (mm : Int) (r : Option (Ex × St)) : Option (AV × Heap) := bodyD (E0 mm) [.tmp 2] 0 false (sq (E0 mm) 134 0 c134_21 (blockD 0 (r)))
def en134_8 (x : (Bs × Int × Int × Int)) : X := (none, [vd (dS x.1), vd (dI x.2.1), vd (dI x.2.2.1), vd (dI x.2.2.2)], [])
def k134 := Q (rx c134_22) (Q (rx c134_10) (Q (rx c134_18) (Q (rx c134_19) (Q (rx c134_20) (Q @K134_8.eq_1 (Q (rx c134_1) (Q (rx c134_3) (Q (rx c134_6) (Q (fun mm => lx (E0 mm) 134 c134_8 c134_9 L134_8) (Q (nE c134_0 (.seq c134_1 (.seq c134_3 (.seq (.seq c134_6 (.block 0 c134_8)) c134_21)))) (Q (nE c134_9 (.seq c134_10 (.seq (.cond _ .skip (.exit 0)) (.seq (.block 1 (.seq c134_18 c134_19)) c134_20)))) (Q @en134_8.eq_1 (Q @L134_8.eq_1 hA)))))))))))))
theorem j134_21_t (n3 : Int)  (sl : Sl) (_ : sl 3 = vd (dI n3)) :
    bodyD (E0 mm) [.tmp 2] 0 false (dn (E0 mm) 134 0 c134_21 sl []) = (j134_21 n3).map e134 := by
  unfold j134_21; exact go (Q (nE c134_21 (.seq c134_22 .ret)) k134) trivial
def s134_8 (s0 : Bs) (n3 t6 t7 : Int) : Option ((Bs × Int × Int × Int) ⊕ R134) :=
  if (decide (t7 < t6)) = true then
    if 0 ≤ t7 ∧ t7 < (s0.length : Int) then
      some (.inl (s0, (w64 ((w64 (10 * n3)) + ((((s0.getD t7.toNat 0) - (48 : UInt8)).toNat : Int).tmod 10))), t6, (w64 (t7 + 1))))
    else none
  else
    (j134_21 n3).map .inr
theorem s134_8_t (s0 : Bs) (n3 t6 t7 : Int) :
    stepE (K134_8 mm) (lp (E0 mm) 134 0 c134_9 L134_8 (en134_8 (s0, n3, t6, t7))) = (s134_8 s0 n3 t6 t7).map (sm en134_8 e134) := by
  unfold s134_8; exact go k134 @j134_21_t
def l134_8 (s0 : Bs) (n3 t6 t7 : Int) : Option R134 := iter (fun x : (Bs × Int × Int × Int) => s134_8 x.1 x.2.1 x.2.2.1 x.2.2.2) (s0, n3, t6, t7)
theorem l134_8_t (s0 : Bs) (n3 t6 t7 : Int) : (K134_8 mm) (itW (lp (E0 mm) 134 0 c134_9 L134_8) (en134_8 (s0, n3, t6, t7))) = (l134_8 s0 n3 t6 t7).map e134 :=
  it_sim (K := (K134_8 mm)) rfl (enc := en134_8) (fun x => s134_8_t x.1 x.2.1 x.2.2.1 x.2.2.2) (s0, n3, t6, t7)
def m134 (s : Bs) : Option R134 :=
  l134_8 s (0 : Int) (s.length : Int) (0 : Int)
theorem f134_t (s : Bs) :
    callW (E0 mm) 134 [cd (dS s)] [] = (m134 s).map e134 := by
  rw [cR c134_0 [.tmp 2] Tryz.func134]
  unfold m134; exact go k134 @l134_8_t
noncomputable def c136_0 : Code := bodyOf Tryz.f136
def c136_1 := cA c136_0
def c136_3 := cA (cB c136_0)
def c136_5 := cA (cB (cB c136_0))
def c136_7 := cA (cB (cB (cB c136_0)))
abbrev R136 := (Int)
def e136 (x : R136) : AV × Heap := (vd (dI x), [])
def m136 (year : Int) : Option R136 :=
  some (w64 ((w64 ((w64 (365 * (w64 (year - 1970)))) + (w64 ((w64 ((w64 ((w64 (year - 1)).tdiv 4)) - (w64 ((w64 (year - 1)).tdiv 100)))) + (w64 ((w64 (year - 1)).tdiv 400)))))) - 477))
def k136 := Q (rx c136_1) (Q (rx c136_3) (Q (rx c136_5) (Q (rx c136_7) (Q (nE c136_0 (.seq c136_1 (.seq c136_3 (.seq c136_5 (.seq c136_7 .ret))))) hA))))
theorem f136_t (year : Int) :
    callW (E0 mm) 136 [cd (dI year)] [] = (m136 year).map e136 := by
  rw [cR c136_0 [.tmp 2] Tryz.func136]
  unfold m136; exact go k136 trivial
noncomputable def c149_0 : Code := bodyOf Tryz.f149
def c149_1 := cA c149_0
def c149_3 := cA (cB c149_0)
abbrev R149 := (Bool)
def e149 (x : R149) : AV × Heap := (vd (dB x), [])
def m149 (year : Int) : Option R149 :=
  if ((year.tmod 4) == 0) = true then
    if ((year.tmod 100) == 0) = true then
      some ((year.tmod 400) == 0)
    else
      some true
  else
    some ((year.tmod 400) == 0)
def k149 := Q (rx c149_1) (Q (rx c149_3) (Q (nE c149_0 (.seq c149_1 (.seq c149_3 .ret))) hA))
theorem f149_t (year : Int) :
    callW (E0 mm) 149 [cd (dI year)] [] = (m149 year).map e149 := by
  rw [cR c149_0 [.tmp 2] Tryz.func149]
  unfold m149; exact go k149 trivial
noncomputable def c135_0 : Code := bodyOf Tryz.f135
def c135_1 := cA c135_0
def c135_3 := cA (cB c135_0)
def c135_6 := cA (cA (cB (cB c135_0)))
def c135_7 := cB (cA (cB (cB c135_0)))
def c135_9 := cA (cA c135_7)
def c135_12 := cB (cB (cB c135_0))
def c135_13 := cA c135_12
abbrev R135 := (Int)
def e135 (x : R135) : AV × Heap := (vd (dI x), [])
def j135_7 (month1 : Int) (t12 : Bool) : Option R135 :=
  if t12 = true then
    some (29 : Int)
  else
    if 0 ≤ month1 ∧ month1 < 12 then
      some (([(31 : Int), (28 : Int), (31 : Int), (30 : Int), (31 : Int), (30 : Int), (31 : Int), (31 : Int), (30 : Int), (31 : Int), (30 : Int), (31 : Int)] : List Int).getD month1.toNat default)
    else none
def k135 := Q (rx c135_9) (Q (rx c135_13) (Q (rx c135_1) (Q (rx c135_3) (Q @ao85 (Q (rx c135_6) (Q @ent149 (Q @prm149 (Q @f149_t (Q @e149.eq_1 (Q (nE c135_0 (.seq c135_1 (.seq c135_3 (.seq (.seq c135_6 c135_7) c135_12)))) (Q (nE c135_12 (.seq c135_13 .ret)) hA)))))))))))
theorem j135_7_t (month1 : Int) (t12 : Bool)  (sl : Sl) (_ : sl 1 = vd (dI month1)) (_ : sl 5 = .v (.c (.ptr 0 0))) (_ : sl 12 = vd (dB t12)) :
    bodyD (E0 mm) [.tmp 4] 0 false (sq (E0 mm) 135 0 c135_12 (dn (E0 mm) 135 0 c135_7 sl [.cells [.d (dI 31), .d (dI 28), .d (dI 31), .d (dI 30), .d (dI 31), .d (dI 30), .d (dI 31), .d (dI 31), .d (dI 30), .d (dI 31), .d (dI 30), .d (dI 31)]])) = (j135_7 month1 t12).map e135 := by
  unfold j135_7; exact go (Q (nE c135_7 (.cond _ (.seq c135_9 .ret) .skip)) k135) trivial
def m135 (year month : Int) : Option R135 :=
  if (month == 1) = true then
    (m149 year).bind fun yr3 =>
      j135_7 month yr3
  else
    j135_7 month false
theorem f135_t (year month : Int) :
    callW (E0 mm) 135 [cd (dI year), cd (dI month)] [] = (m135 year month).map e135 := by
  rw [cR c135_0 [.tmp 4] Tryz.func135]
  unfold m135; exact go k135 @j135_7_t
noncomputable def c150_0 : Code := bodyOf Tryz.f150
def c150_1 := cA c150_0
def c150_3 := cA (cB c150_0)
abbrev R150 := (Bs)
def e150 (x : R150) : AV × Heap := (vd (dS x), [])
def m150 (n : Int) : Option R150 :=
  some ([(u8 (w64 (48 + ((w64 (n.tdiv 10)).tmod 10)))), (u8 (w64 (48 + (n.tmod 10))))] : List UInt8)
def k150 := Q (rx c150_1) (Q (rx c150_3) (Q @zc5 (Q @hd87 (Q @nv88 (Q @rw89 (Q @ns90 (Q (nE c150_0 (.seq c150_1 (.seq c150_3 .ret))) hA)))))))
theorem f150_t (n : Int) :
    callW (E0 mm) 150 [cd (dI n)] [] = (m150 n).map e150 := by
  rw [cR c150_0 [.tmp 2] Tryz.func150]
  unfold m150; exact go k150 trivial
noncomputable def c137_0 : Code := bodyOf Tryz.f137
def c137_1 := cA c137_0
def c137_4 := cA (cA (cB c137_0))
def c137_7 := cA (cA (cB (cA (cB c137_0))))
def c137_11 := cA (cB (cB c137_0))
def c137_13 := cA (cB (cB (cB c137_0)))
def c137_16 := cA (cA (cB (cB (cB (cB c137_0)))))
def c137_17 := cA c137_16
def c137_19 := cA (cA c137_17)
def c137_24 := cA (cB c137_17)
def c137_25 := cB (cB (cB (cB (cB c137_0))))
def c137_26 := cA c137_25
def c137_29 := cA (cA (cB c137_25))
def c137_30 := cA c137_29
def c137_32 := cA (cA c137_30)
def c137_38 := cA (cA (cB c137_30))
def c137_39 := cB (cA (cB c137_30))
def c137_40 := cB (cB c137_25)
def c137_41 := cA c137_40
def c137_43 := cA (cB c137_40)
def L137_16 : List (Nat × Co) := [(4, .keep), (5, .keep), (6, .keep)]
def L137_29 : List (Nat × Co) := [(4, .keep), (5, .keep), (6, .keep), (7, .keep), (8, .keep)]
abbrev b137 (mm : Int) := bodyD (E0 mm) [.tmp 2, .tmp 3] 0 false
abbrev R137 := (Bs × Int)
def e137 (x : R137) : AV × Heap := (.tup [cd (dS x.1), cd (dI x.2)], [])
def j137_40 (d4 s5 : Int) (year6 rest7 month8 : Int) : Option R137 :=
  (bnd (w64 ((w64 (3 * (d4.tmod 7))) + 3)) 21).bind fun yk11 =>
    (bnd (w64 (3 * (d4.tmod 7))) yk11).bind fun yk13 =>
      if ((([84, 104, 117, 70, 114, 105, 83, 97, 116, 83, 117, 110, 77, 111, 110, 84, 117, 101, 87, 101, 100] : Bs).take yk11).drop yk13).length + 2 < 9223372036854775808 then
        (m150 (w64 (rest7 + 1))).bind fun yr16 =>
          if (((([84, 104, 117, 70, 114, 105, 83, 97, 116, 83, 117, 110, 77, 111, 110, 84, 117, 101, 87, 101, 100] : Bs).take yk11).drop yk13) ++ ([44, 32] : Bs)).length + yr16.length < 9223372036854775808 then
            if ((((([84, 104, 117, 70, 114, 105, 83, 97, 116, 83, 117, 110, 77, 111, 110, 84, 117, 101, 87, 101, 100] : Bs).take yk11).drop yk13) ++ ([44, 32] : Bs)) ++ yr16).length + 1 < 9223372036854775808 then
              (bnd (w64 ((w64 (3 * month8)) + 3)) 36).bind fun yk20 =>
                (bnd (w64 (3 * month8)) yk20).bind fun yk22 =>
                  if (((((([84, 104, 117, 70, 114, 105, 83, 97, 116, 83, 117, 110, 77, 111, 110, 84, 117, 101, 87, 101, 100] : Bs).take yk11).drop yk13) ++ ([44, 32] : Bs)) ++ yr16) ++ ([32] : Bs)).length + ((([74, 97, 110, 70, 101, 98, 77, 97, 114, 65, 112, 114, 77, 97, 121, 74, 117, 110, 74, 117, 108, 65, 117, 103, 83, 101, 112, 79, 99, 116, 78, 111, 118, 68, 101, 99] : Bs).take yk20).drop yk22).length < 9223372036854775808 then
                    if ((((((([84, 104, 117, 70, 114, 105, 83, 97, 116, 83, 117, 110, 77, 111, 110, 84, 117, 101, 87, 101, 100] : Bs).take yk11).drop yk13) ++ ([44, 32] : Bs)) ++ yr16) ++ ([32] : Bs)) ++ ((([74, 97, 110, 70, 101, 98, 77, 97, 114, 65, 112, 114, 77, 97, 121, 74, 117, 110, 74, 117, 108, 65, 117, 103, 83, 101, 112, 79, 99, 116, 78, 111, 118, 68, 101, 99] : Bs).take yk20).drop yk22)).length + 1 < 9223372036854775808 then
                      (m150 (w64 (year6.tdiv 100))).bind fun yr26 =>
                        if (((((((([84, 104, 117, 70, 114, 105, 83, 97, 116, 83, 117, 110, 77, 111, 110, 84, 117, 101, 87, 101, 100] : Bs).take yk11).drop yk13) ++ ([44, 32] : Bs)) ++ yr16) ++ ([32] : Bs)) ++ ((([74, 97, 110, 70, 101, 98, 77, 97, 114, 65, 112, 114, 77, 97, 121, 74, 117, 110, 74, 117, 108, 65, 117, 103, 83, 101, 112, 79, 99, 116, 78, 111, 118, 68, 101, 99] : Bs).take yk20).drop yk22)) ++ ([32] : Bs)).length + yr26.length < 9223372036854775808 then
                          (m150 (year6.tmod 100)).bind fun yr29 =>
                            if ((((((((([84, 104, 117, 70, 114, 105, 83, 97, 116, 83, 117, 110, 77, 111, 110, 84, 117, 101, 87, 101, 100] : Bs).take yk11).drop yk13) ++ ([44, 32] : Bs)) ++ yr16) ++ ([32] : Bs)) ++ ((([74, 97, 110, 70, 101, 98, 77, 97, 114, 65, 112, 114, 77, 97, 121, 74, 117, 110, 74, 117, 108, 65, 117, 103, 83, 101, 112, 79, 99, 116, 78, 111, 118, 68, 101, 99] : Bs).take yk20).drop yk22)) ++ ([32] : Bs)) ++ yr26).length + yr29.length < 9223372036854775808 then
                              if (((((((((([84, 104, 117, 70, 114, 105, 83, 97, 116, 83, 117, 110, 77, 111, 110, 84, 117, 101, 87, 101, 100] : Bs).take yk11).drop yk13) ++ ([44, 32] : Bs)) ++ yr16) ++ ([32] : Bs)) ++ ((([74, 97, 110, 70, 101, 98, 77, 97, 114, 65, 112, 114, 77, 97, 121, 74, 117, 110, 74, 117, 108, 65, 117, 103, 83, 101, 112, 79, 99, 116, 78, 111, 118, 68, 101, 99] : Bs).take yk20).drop yk22)) ++ ([32] : Bs)) ++ yr26) ++ yr29).length + 1 < 9223372036854775808 then
                                (m150 (w64 (s5.tdiv 3600))).bind fun yr33 =>
                                  if ((((((((((([84, 104, 117, 70, 114, 105, 83, 97, 116, 83, 117, 110, 77, 111, 110, 84, 117, 101, 87, 101, 100] : Bs).take yk11).drop yk13) ++ ([44, 32] : Bs)) ++ yr16) ++ ([32] : Bs)) ++ ((([74, 97, 110, 70, 101, 98, 77, 97, 114, 65, 112, 114, 77, 97, 121, 74, 117, 110, 74, 117, 108, 65, 117, 103, 83, 101, 112, 79, 99, 116, 78, 111, 118, 68, 101, 99] : Bs).take yk20).drop yk22)) ++ ([32] : Bs)) ++ yr26) ++ yr29) ++ ([32] : Bs)).length + yr33.length < 9223372036854775808 then
                                    if (((((((((((([84, 104, 117, 70, 114, 105, 83, 97, 116, 83, 117, 110, 77, 111, 110, 84, 117, 101, 87, 101, 100] : Bs).take yk11).drop yk13) ++ ([44, 32] : Bs)) ++ yr16) ++ ([32] : Bs)) ++ ((([74, 97, 110, 70, 101, 98, 77, 97, 114, 65, 112, 114, 77, 97, 121, 74, 117, 110, 74, 117, 108, 65, 117, 103, 83, 101, 112, 79, 99, 116, 78, 111, 118, 68, 101, 99] : Bs).take yk20).drop yk22)) ++ ([32] : Bs)) ++ yr26) ++ yr29) ++ ([32] : Bs)) ++ yr33).length + 1 < 9223372036854775808 then
                                      (m150 ((w64 (s5.tdiv 60)).tmod 60)).bind fun yr37 =>
                                        if ((((((((((((([84, 104, 117, 70, 114, 105, 83, 97, 116, 83, 117, 110, 77, 111, 110, 84, 117, 101, 87, 101, 100] : Bs).take yk11).drop yk13) ++ ([44, 32] : Bs)) ++ yr16) ++ ([32] : Bs)) ++ ((([74, 97, 110, 70, 101, 98, 77, 97, 114, 65, 112, 114, 77, 97, 121, 74, 117, 110, 74, 117, 108, 65, 117, 103, 83, 101, 112, 79, 99, 116, 78, 111, 118, 68, 101, 99] : Bs).take yk20).drop yk22)) ++ ([32] : Bs)) ++ yr26) ++ yr29) ++ ([32] : Bs)) ++ yr33) ++ ([58] : Bs)).length + yr37.length < 9223372036854775808 then
                                          if (((((((((((((([84, 104, 117, 70, 114, 105, 83, 97, 116, 83, 117, 110, 77, 111, 110, 84, 117, 101, 87, 101, 100] : Bs).take yk11).drop yk13) ++ ([44, 32] : Bs)) ++ yr16) ++ ([32] : Bs)) ++ ((([74, 97, 110, 70, 101, 98, 77, 97, 114, 65, 112, 114, 77, 97, 121, 74, 117, 110, 74, 117, 108, 65, 117, 103, 83, 101, 112, 79, 99, 116, 78, 111, 118, 68, 101, 99] : Bs).take yk20).drop yk22)) ++ ([32] : Bs)) ++ yr26) ++ yr29) ++ ([32] : Bs)) ++ yr33) ++ ([58] : Bs)) ++ yr37).length + 1 < 9223372036854775808 then
                                            (m150 (s5.tmod 60)).bind fun yr41 =>
                                              if ((((((((((((((([84, 104, 117, 70, 114, 105, 83, 97, 116, 83, 117, 110, 77, 111, 110, 84, 117, 101, 87, 101, 100] : Bs).take yk11).drop yk13) ++ ([44, 32] : Bs)) ++ yr16) ++ ([32] : Bs)) ++ ((([74, 97, 110, 70, 101, 98, 77, 97, 114, 65, 112, 114, 77, 97, 121, 74, 117, 110, 74, 117, 108, 65, 117, 103, 83, 101, 112, 79, 99, 116, 78, 111, 118, 68, 101, 99] : Bs).take yk20).drop yk22)) ++ ([32] : Bs)) ++ yr26) ++ yr29) ++ ([32] : Bs)) ++ yr33) ++ ([58] : Bs)) ++ yr37) ++ ([58] : Bs)).length + yr41.length < 9223372036854775808 then
                                                if (((((((((((((((([84, 104, 117, 70, 114, 105, 83, 97, 116, 83, 117, 110, 77, 111, 110, 84, 117, 101, 87, 101, 100] : Bs).take yk11).drop yk13) ++ ([44, 32] : Bs)) ++ yr16) ++ ([32] : Bs)) ++ ((([74, 97, 110, 70, 101, 98, 77, 97, 114, 65, 112, 114, 77, 97, 121, 74, 117, 110, 74, 117, 108, 65, 117, 103, 83, 101, 112, 79, 99, 116, 78, 111, 118, 68, 101, 99] : Bs).take yk20).drop yk22)) ++ ([32] : Bs)) ++ yr26) ++ yr29) ++ ([32] : Bs)) ++ yr33) ++ ([58] : Bs)) ++ yr37) ++ ([58] : Bs)) ++ yr41).length + 4 < 9223372036854775808 then
                                                  some (((((((((((((((((([84, 104, 117, 70, 114, 105, 83, 97, 116, 83, 117, 110, 77, 111, 110, 84, 117, 101, 87, 101, 100] : Bs).take yk11).drop yk13) ++ ([44, 32] : Bs)) ++ yr16) ++ ([32] : Bs)) ++ ((([74, 97, 110, 70, 101, 98, 77, 97, 114, 65, 112, 114, 77, 97, 121, 74, 117, 110, 74, 117, 108, 65, 117, 103, 83, 101, 112, 79, 99, 116, 78, 111, 118, 68, 101, 99] : Bs).take yk20).drop yk22)) ++ ([32] : Bs)) ++ yr26) ++ yr29) ++ ([32] : Bs)) ++ yr33) ++ ([58] : Bs)) ++ yr37) ++ ([58] : Bs)) ++ yr41) ++ ([32, 71, 77, 84] : Bs)), (0 : Int))
                                                else none
                                              else none
                                          else none
                                        else none
                                    else none
                                  else none
                              else none
                            else none
                        else none
                    else none
                  else none
            else none
          else none
      else none
def K137_16 (mm : Int) (r : Option (Ex × St)) : Option (AV × Heap) := b137 mm (sq (E0 mm) 137 0 c137_25 (blockD 0 (r)))
def en137_16 (x : (Int × Int × Int)) : X := (none, [vd (dI x.1), vd (dI x.2.1), vd (dI x.2.2)], [])
def K137_29 (mm : Int) (r : Option (Ex × St)) : Option (AV × Heap) := b137 mm (sq (E0 mm) 137 0 c137_40 (blockD 2 (r)))
def en137_29 (x : (Int × Int × Int × Int × Int)) : X := (none, [vd (dI x.1), vd (dI x.2.1), vd (dI x.2.2.1), vd (dI x.2.2.2.1), vd (dI x.2.2.2.2)], [])
def k137 := Q (rx c137_41) (Q (fun mm => ry (E0 mm) c137_43) (Q @ent150 (Q @prm150 (Q @f150_t (Q @e150.eq_1 (Q (rx c137_32) (Q @f135_t (Q @e135.eq_1 (Q (rx c137_38) (Q (rx c137_39) (Q @K137_29.eq_1 (Q (rx c137_26) (Q @f136_t (Q @e136.eq_1 (Q (fun mm => lx (E0 mm) 137 c137_29 c137_30 L137_29) (Q (rx c137_19) (Q (rx c137_24) (Q @K137_16.eq_1 (Q (rx c137_1) (Q (rx c137_4) (Q (rx c137_7) (Q (rx c137_11) (Q (rx c137_13) (Q (fun mm => lx (E0 mm) 137 c137_16 c137_17 L137_16) (Q (nE c137_0 (.seq c137_1 (.seq (.seq c137_4 (.cond _ (.seq c137_7 .ret) .skip)) (.seq c137_11 (.seq c137_13 (.seq (.block 0 c137_16) c137_25)))))) (Q (nE c137_17 (.seq (.seq c137_19 (.cond _ .skip (.exit 0))) (.block 1 c137_24))) (Q (nE c137_30 (.seq (.seq c137_32 (.cond _ .skip (.exit 2))) (.block 3 (.seq c137_38 c137_39)))) (Q @en137_16.eq_1 (Q @en137_29.eq_1 (Q @L137_16.eq_1 (Q @L137_29.eq_1 hA)))))))))))))))))))))))))))))))
theorem j137_40_t (d4 s5 : Int) (year6 rest7 month8 : Int)  (sl : Sl) (_ : sl 4 = vd (dI d4)) (_ : sl 5 = vd (dI s5)) (_ : sl 6 = vd (dI year6)) (_ : sl 7 = vd (dI rest7)) (_ : sl 8 = vd (dI month8)) :
    b137 mm (dn (E0 mm) 137 0 c137_40 sl []) = (j137_40 d4 s5 year6 rest7 month8).map e137 := by
  unfold j137_40; exact go (Q (nE c137_40 (.seq c137_41 (.seq c137_43 .ret))) k137) trivial
def s137_29 (d4 s5 : Int) (year6 rest7 month8 : Int) : Option ((Int × Int × Int × Int × Int) ⊕ R137) :=
  (m135 year6 month8).bind fun yr8 =>
    if (decide (yr8 ≤ rest7)) = true then
      some (.inl (d4, s5, year6, (w64 (rest7 - yr8)), (w64 (month8 + 1))))
    else
      (j137_40 d4 s5 year6 rest7 month8).map .inr
theorem s137_29_t (d4 s5 : Int) (year6 rest7 month8 : Int) :
    stepE (K137_29 mm) (lp (E0 mm) 137 0 c137_30 L137_29 (en137_29 (d4, s5, year6, rest7, month8))) = (s137_29 d4 s5 year6 rest7 month8).map (sm en137_29 e137) := by
  unfold s137_29; exact go k137 @j137_40_t
def l137_29 (d4 s5 : Int) (year6 rest7 month8 : Int) : Option R137 := iter (fun x : (Int × Int × Int × Int × Int) => s137_29 x.1 x.2.1 x.2.2.1 x.2.2.2.1 x.2.2.2.2) (d4, s5, year6, rest7, month8)
theorem l137_29_t (d4 s5 : Int) (year6 rest7 month8 : Int) : (K137_29 mm) (itW (lp (E0 mm) 137 0 c137_30 L137_29) (en137_29 (d4, s5, year6, rest7, month8))) = (l137_29 d4 s5 year6 rest7 month8).map e137 :=
  it_sim (K := (K137_29 mm)) rfl (enc := en137_29) (fun x => s137_29_t x.1 x.2.1 x.2.2.1 x.2.2.2.1 x.2.2.2.2) (d4, s5, year6, rest7, month8)
def j137_25 (d4 s5 year6 : Int) : Option R137 :=
  (m136 year6).bind fun yr6 =>
    l137_29 d4 s5 year6 (w64 (d4 - yr6)) (0 : Int)
theorem j137_25_t (d4 s5 year6 : Int)  (sl : Sl) (_ : sl 4 = vd (dI d4)) (_ : sl 5 = vd (dI s5)) (_ : sl 6 = vd (dI year6)) :
    b137 mm (dn (E0 mm) 137 0 c137_25 sl []) = (j137_25 d4 s5 year6).map e137 := by
  unfold j137_25; exact go (Q (nE c137_25 (.seq c137_26 (.seq (.block 2 c137_29) c137_40))) k137) @l137_29_t
def s137_16 (d4 s5 year6 : Int) : Option ((Int × Int × Int) ⊕ R137) :=
  (m136 (w64 (year6 + 1))).bind fun yr3 =>
    if (decide (yr3 ≤ d4)) = true then
      some (.inl (d4, s5, (w64 (year6 + 1))))
    else
      (j137_25 d4 s5 year6).map .inr
theorem s137_16_t (d4 s5 year6 : Int) :
    stepE (K137_16 mm) (lp (E0 mm) 137 0 c137_17 L137_16 (en137_16 (d4, s5, year6))) = (s137_16 d4 s5 year6).map (sm en137_16 e137) := by
  unfold s137_16; exact go k137 @j137_25_t
def l137_16 (d4 s5 year6 : Int) : Option R137 := iter (fun x : (Int × Int × Int) => s137_16 x.1 x.2.1 x.2.2) (d4, s5, year6)
theorem l137_16_t (d4 s5 year6 : Int) : (K137_16 mm) (itW (lp (E0 mm) 137 0 c137_17 L137_16) (en137_16 (d4, s5, year6))) = (l137_16 d4 s5 year6).map e137 :=
  it_sim (K := (K137_16 mm)) rfl (enc := en137_16) (fun x => s137_16_t x.1 x.2.1 x.2.2) (d4, s5, year6)
def m137 (n : Int) : Option R137 :=
  if (decide (253402300799 < n)) = true then
    some (([] : Bs), (3 : Int))
  else
    l137_16 (w64 (wu64 (n.tdiv 86400))) (w64 (n.tmod 86400)) (w64 (1970 + (w64 ((w64 (wu64 (n.tdiv 86400))).tdiv 366))))
theorem f137_t (n : Int) :
    callW (E0 mm) 137 [cd (dU n)] [] = (m137 n).map e137 := by
  rw [cR c137_0 [.tmp 2, .tmp 3] Tryz.func137]
  unfold m137; exact go k137 @l137_16_t
end
end Go.Proofs.YtbkobjepahlegaaGreatDoor
