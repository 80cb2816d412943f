/- The Go functions as plain functions, and that the evaluator computes them. -/
import Derived.Test.YtbkobjepahlegaaGreatDoorHd
set_option linter.all false
set_option maxRecDepth 100000
namespace Go.Proofs.YtbkobjepahlegaaGreatDoor
open Go Go.Ab
open Nat renaming reduceEqDiff → za, reduceAdd → zb, reduceLeDiff → zc, reduceLT → zd, reduceMul → ze, reduceBEq → zf, reduceSub → zg, reducePow → zh
open Int renaming reduceEq → zi, reduceLE → zj, reduceLT → zk, reduceToNat → zl, reduceNegSucc → zm, reduceAdd → zn, reduceBEq → zo
open String renaming reduceBEq → zp
set_option maxHeartbeats 4000000
noncomputable section
variable {mm : Int}
def hA := Q @Tryz.underlying23 (Q @sz5 (Q @Tryz.underlying9 (Q @Tryz.underlying5 (Q @loopF_eq (Q @ag5 (Q @slots1 (Q @slots2 (Q @ent63 (Q @prm63 (Q @Tryz.underlying22 (Q @sz42 (Q @enSS_a (Q @enL_get (Q @enSS_e (Q @zc42 (Q @Tryz.underlying42 (Q @sz9 (Q @ag9 (Q @ent73 (Q @prm73 (Q @Tryz.underlying45 (Q @zc9 (Q @ns5 (Q @ap45 (Q @ent29 (Q @prm29 (Q @enS_a (Q @enS_e (Q @enB_a (Q @enB_e (Q @ent147 (Q @prm147 (Q @ent120 (Q @prm120 (Q @ent71 (Q @prm71 (Q @zc5 (Q @ns12 (Q @ap23 (Q @ent51 (Q @prm51 (Q @ent95 (Q @prm95 (Q @hd17 (Q @nv18 (Q @rw19 (Q @ent74 (Q @prm74 (Q @ent123 (Q @prm123 (Q @sz3 (Q @ag3 (Q @sz45 (Q @ag45 (Q @zc3 (Q @ent145 (Q @prm145 (Q @Tryz.underlying73 (Q @zv45 (Q @Tryz.underlying3 (Q @Tryz.underlying28 (Q @slots3 (Q @ent138 (Q @prm138 (Q @Tryz.underlying78 (Q @zc37 (Q @Tryz.underlying37 (Q @sz37 (Q @ag37 (Q @sz4 (Q @Tryz.underlying27 (Q @sz22 (Q @ag22 (Q @Tryz.underlying133 (Q @ar86 (Q @zc133 (Q @sz133 (Q @ent135 (Q @prm135 (Q @ent136 (Q @prm136 (Q @sz27 (Q @ag27 (Q @ent110 (Q @prm110 (Q @ent104 (Q @prm104 (Q @ent65 (Q @prm65 (Q @ent66 (Q @prm66 (Q @ent23 (Q @prm23 (Q @ent64 (Q @prm64 (Q @Tryz.underlying30 (Q @sz28 (Q @ag28 (Q @ns98 (Q @ap22 (Q @an22 (Q @sz30 (Q @ag30 (Q @ag4 (Q @ent132 (Q @prm132 (Q @ent103 (Q @prm103 (Q @ent99 (Q @prm99 (Q @ent100 (Q @prm100 (Q @ent101 (Q @prm101 (Q @ent97 (Q @prm97 (Q @ent46 (Q @prm46 (Q @ent98 @prm98)))))))))))))))))))))))))))))))))))))))))))))))))))))))))))))))))))))))))))))))))))))))))))))))))))))))))))))))))))))))
set_option maxRecDepth 100000 in
theorem f17_t : callW (E0 mm) 17 [] [] = some (vd (dB true), []) := callN_W (k := 1500) (by kernel_rfl)
noncomputable def c63_0 : Code := bodyOf Tryz.f63
def c63_1 := cA c63_0
def c63_3 := cA (cB c63_0)
def c63_6 := cA (cA (cB (cB c63_0)))
def c63_8 := cA (cB (cA (cB (cB c63_0))))
def c63_9 := cA c63_8
def c63_10 := cA c63_9
def c63_18 := cA (cA (cA (cB (cB c63_9))))
def c63_20 := cA (cB (cA (cA (cB (cB c63_9)))))
def c63_21 := cB (cB (cA (cA (cB (cB c63_9)))))
def c63_22 := cA c63_21
def c63_24 := cB (cB (cB c63_9))
def c63_25 := cB (cB (cB c63_0))
def c63_26 := cA c63_25
def L63_0 : List (Nat × Co) := [(3, .keep), (8, .keep), (9, .keep), (10, .keep)]
abbrev R63 := (Bs)
def e63 (x : R63) : AV × Heap := (vd (dS x), [])
def j63_24 (b3_1 t8_1 : Nat) (t9 t10 : Int) (h0 : List UInt8) : Option ((Nat × Nat × Int × Int × List UInt8) ⊕ R63) :=
  some (.inl (b3_1, t8_1, t9, (w64 (t10 + 1)), h0))
def K63_8 (mm : Int) (r : Option (Ex × St)) : Option (AV × Heap) := bodyD (E0 mm) [.tmp 2] 0 false (sq (E0 mm) 63 0 c63_25 (blockD 0 (r)))
def en63_8 (x : (Nat × Nat × Int × Int × List UInt8)) : X := (none, [.v (.c (.slc 0 0 1 x.1 none)), .v (.c (.slc 0 0 1 x.2.1 none)), vd (dI x.2.2.1), vd (dI x.2.2.2.1)], [.cells (enC x.2.2.2.2)])
def k63 := Q (rx c63_22) (Q @enC_length (Q @enC_wr (Q (rx c63_26) (Q @enC_take (Q @mapM_enC (Q @chunk_enD (Q (rx c63_10) (Q (rx c63_18) (Q @enC_load (Q (rx c63_20) (Q @K63_8.eq_1 (Q (rx c63_1) (Q (rx c63_3) (Q @hd1 (Q @enC_S (Q @S_size (Q (rx c63_6) (Q (fun mm => lx (E0 mm) 63 c63_8 c63_9 L63_0) (Q (nE c63_0 (.seq c63_1 (.seq c63_3 (.seq (.seq c63_6 (.block 0 c63_8)) c63_25)))) (Q (nE c63_9 (.seq c63_10 (.seq (.cond _ .skip (.exit 0)) (.seq (.block 1 (.seq c63_18 (.seq c63_20 c63_21))) c63_24)))) (Q @en63_8.eq_1 (Q @L63_0.eq_1 hA))))))))))))))))))))))
theorem j63_24_t (b3_1 t8_1 : Nat) (t9 t10 : Int) (h0 : List UInt8)  (sl : Sl) (_ : sl 3 = .v (.c (.slc 0 0 1 b3_1 none))) (_ : sl 8 = .v (.c (.slc 0 0 1 t8_1 none))) (_ : sl 9 = vd (dI t9)) (_ : sl 10 = vd (dI t10)) :
    stepE (K63_8 mm) (loopK 0 L63_0 (dn (E0 mm) 63 0 c63_24 sl [.cells (enC h0)])) = (j63_24 b3_1 t8_1 t9 t10 h0).map (sm en63_8 e63) := by
  unfold j63_24; exact go (Q (rx c63_24) k63) trivial
def j63_21 (b3_1 : Nat) (i4 : Int) (c5 : UInt8) (t8_1 : Nat) (t9 t10 : Int) (t20 : Bool) (h0 : List UInt8) : Option ((Nat × Nat × Int × Int × List UInt8) ⊕ R63) :=
  if t20 = true then
    if 0 ≤ i4 ∧ i4 < (b3_1 : Int) then
      if i4.toNat < h0.length then
        j63_24 b3_1 t8_1 t9 t10 (h0.set i4.toNat ((c5 + (97 : UInt8)) - (65 : UInt8)))
      else none
    else none
  else
    j63_24 b3_1 t8_1 t9 t10 h0
theorem j63_21_t (b3_1 : Nat) (i4 : Int) (c5 : UInt8) (t8_1 : Nat) (t9 t10 : Int) (t20 : Bool) (h0 : List UInt8)  (sl : Sl) (_ : sl 3 = .v (.c (.slc 0 0 1 b3_1 none))) (_ : sl 4 = vd (dI i4)) (_ : sl 5 = vd (.sc (.int .u8 ((c5).toNat : Int)))) (_ : sl 8 = .v (.c (.slc 0 0 1 t8_1 none))) (_ : sl 9 = vd (dI t9)) (_ : sl 10 = vd (dI t10)) (_ : sl 20 = vd (dB t20)) :
    stepE (K63_8 mm) (loopK 0 L63_0 (sq (E0 mm) 63 0 c63_24 (blockD 1 (dn (E0 mm) 63 0 c63_21 sl [.cells (enC h0)])))) = (j63_21 b3_1 i4 c5 t8_1 t9 t10 t20 h0).map (sm en63_8 e63) := by
  unfold j63_21; exact go (Q (nE c63_21 (.cond _ c63_22 .skip)) k63) @j63_24_t
def j63_25 (b3_1 : Nat) (h0 : List UInt8) : Option R63 :=
  if b3_1 ≤ h0.length then
    some (h0.take b3_1)
  else none
theorem j63_25_t (b3_1 : Nat) (h0 : List UInt8)  (sl : Sl) (_ : sl 3 = .v (.c (.slc 0 0 1 b3_1 none))) :
    bodyD (E0 mm) [.tmp 2] 0 false (dn (E0 mm) 63 0 c63_25 sl [.cells (enC h0)]) = (j63_25 b3_1 h0).map e63 := by
  unfold j63_25; exact go (Q (nE c63_25 (.seq c63_26 .ret)) k63) trivial
def s63_8 (b3_1 t8_1 : Nat) (t9 t10 : Int) (h0 : List UInt8) : Option ((Nat × Nat × Int × Int × List UInt8) ⊕ R63) :=
  if (decide (t10 < t9)) = true then
    if 0 ≤ t10 ∧ t10 < (t8_1 : Int) then
      if t10.toNat < h0.length then
        if (decide ((65 : UInt8) ≤ (h0.getD t10.toNat 0))) = true then
          j63_21 b3_1 t10 (h0.getD t10.toNat 0) t8_1 t9 t10 (decide ((h0.getD t10.toNat 0) ≤ (90 : UInt8))) h0
        else
          j63_21 b3_1 t10 (h0.getD t10.toNat 0) t8_1 t9 t10 false h0
      else none
    else none
  else
    (j63_25 b3_1 h0).map .inr
theorem s63_8_t (b3_1 t8_1 : Nat) (t9 t10 : Int) (h0 : List UInt8) :
    stepE (K63_8 mm) (lp (E0 mm) 63 0 c63_9 L63_0 (en63_8 (b3_1, t8_1, t9, t10, h0))) = (s63_8 b3_1 t8_1 t9 t10 h0).map (sm en63_8 e63) := by
  unfold s63_8; exact go k63 (Q @j63_21_t @j63_25_t)
def l63_8 (b3_1 t8_1 : Nat) (t9 t10 : Int) (h0 : List UInt8) : Option R63 := iter (fun x : (Nat × Nat × Int × Int × List UInt8) => s63_8 x.1 x.2.1 x.2.2.1 x.2.2.2.1 x.2.2.2.2) (b3_1, t8_1, t9, t10, h0)
theorem l63_8_t (b3_1 t8_1 : Nat) (t9 t10 : Int) (h0 : List UInt8) : (K63_8 mm) (itW (lp (E0 mm) 63 0 c63_9 L63_0) (en63_8 (b3_1, t8_1, t9, t10, h0))) = (l63_8 b3_1 t8_1 t9 t10 h0).map e63 :=
  it_sim (K := (K63_8 mm)) rfl (enc := en63_8) (fun x => s63_8_t x.1 x.2.1 x.2.2.1 x.2.2.2.1 x.2.2.2.2) (b3_1, t8_1, t9, t10, h0)
def m63 (s : Bs) : Option R63 :=
  l63_8 s.length s.length (s.length : Int) (0 : Int) s
theorem f63_t (s : Bs) :
    callW (E0 mm) 63 [cd (dS s)] [] = (m63 s).map e63 := by
  rw [cR c63_0 [.tmp 2] Tryz.func63]
  unfold m63; exact go k63 @l63_8_t
noncomputable def c73_0 : Code := bodyOf Tryz.f73
def c73_1 := cA c73_0
def c73_3 := cA (cB c73_0)
abbrev R73 := (Bool)
def e73 (x : R73) : AV × Heap := (vd (dB x), [])
def m73 (a b : Bs) : Option R73 :=
  (m63 a).bind fun yr2 =>
    (m63 b).bind fun yr4 =>
      some (yr2 == yr4)
def k73 := Q (rx c73_1) (Q (rx c73_3) (Q @f63_t (Q @e63.eq_1 (Q (nE c73_0 (.seq c73_1 (.seq c73_3 .ret))) hA))))
theorem f73_t (a b : Bs) :
    callW (E0 mm) 73 [cd (dS a), cd (dS b)] [] = (m73 a b).map e73 := by
  rw [cR c73_0 [.tmp 4] Tryz.func73]
  unfold m73; exact go k73 trivial
noncomputable def c29_0 : Code := bodyOf Tryz.f29
def c29_1 := cA c29_0
def c29_3 := cA (cB c29_0)
def c29_6 := cA (cA (cB (cB c29_0)))
def c29_8 := cA (cB (cA (cB (cB c29_0))))
def c29_9 := cA c29_8
def c29_10 := cA c29_9
def c29_18 := cA (cA (cA (cB (cB c29_9))))
def c29_20 := cA (cB (cA (cA (cB (cB c29_9)))))
def c29_22 := cA (cB (cB (cA (cA (cB (cB c29_9))))))
def c29_24 := cB (cB (cB c29_9))
def c29_25 := cB (cB (cB c29_0))
def c29_26 := cA c29_25
def L29_0 : List (Nat × Co) := [(1, .keep), (5, .own), (8, .keep), (9, .keep), (10, .keep)]
abbrev R29 := (Bool × List Bs)
def e29 (x : R29) : AV × Heap := (.v (.c (.own x.1 (enL enS x.2) 0)), [.row x.2.length (rz x.1 1)])
def j29_24 (name1 : Bs) (out5_0 : Bool) (out5_1 : List Bs) (t8_0 : Bool) (t8_1 : List (Bs × Bs)) (t9 t10 : Int) : Option ((Bs × Bool × List Bs × Bool × List (Bs × Bs) × Int × Int) ⊕ R29) :=
  some (.inl (name1, out5_0, out5_1, t8_0, t8_1, t9, (w64 (t10 + 1))))
def K29_8 (mm : Int) (r : Option (Ex × St)) : Option (AV × Heap) := bodyD (E0 mm) [.tmp 4] 0 false (sq (E0 mm) 29 0 c29_25 (blockD 0 (r)))
def en29_8 (x : (Bs × Bool × List Bs × Bool × List (Bs × Bs) × Int × Int)) : X := (none, [vd (dS x.1), .v (.c (.own x.2.1 (enL enS x.2.2.1) 0)), vd (.lst x.2.2.2.1 (enL enSS x.2.2.2.2.1)), vd (dI x.2.2.2.2.2.1), vd (dI x.2.2.2.2.2.2)], [.row x.2.2.1.length (rz x.2.1 1)])
def k29 := Q (rx c29_26) (Q (rx c29_10) (Q (rx c29_18) (Q @ag42 (Q @ao0 (Q (rx c29_20) (Q @f73_t (Q @e73.eq_1 (Q (rx c29_22) (Q @hd2 (Q @nv3 (Q @rw4 (Q @K29_8.eq_1 (Q (rx c29_1) (Q (rx c29_3) (Q (rx c29_6) (Q (fun mm => lx (E0 mm) 29 c29_8 c29_9 L29_0) (Q (nE c29_0 (.seq c29_1 (.seq c29_3 (.seq (.seq c29_6 (.block 0 c29_8)) c29_25)))) (Q (nE c29_9 (.seq c29_10 (.seq (.cond _ .skip (.exit 0)) (.seq (.block 1 (.seq c29_18 (.seq c29_20 (.cond _ c29_22 .skip)))) c29_24)))) (Q @en29_8.eq_1 (Q @L29_0.eq_1 hA))))))))))))))))))))
theorem j29_24_t (name1 : Bs) (out5_0 : Bool) (out5_1 : List Bs) (t8_0 : Bool) (t8_1 : List (Bs × Bs)) (t9 t10 : Int) (g1 : Ob) (sl : Sl) (_ : sl 1 = vd (dS name1)) (_ : sl 5 = .v (.c (.own out5_0 (enL enS out5_1) 0))) (_ : sl 8 = vd (.lst t8_0 (enL enSS t8_1))) (_ : sl 9 = vd (dI t9)) (_ : sl 10 = vd (dI t10)) :
    stepE (K29_8 mm) (loopK 0 L29_0 (dn (E0 mm) 29 0 c29_24 sl [.row out5_1.length (rz out5_0 1), g1])) = (j29_24 name1 out5_0 out5_1 t8_0 t8_1 t9 t10).map (sm en29_8 e29) := by
  unfold j29_24; exact go (Q (rx c29_24) k29) trivial
def j29_25 (out5_0 : Bool) (out5_1 : List Bs) : Option R29 :=
  some (out5_0, out5_1)
theorem j29_25_t (out5_0 : Bool) (out5_1 : List Bs)  (sl : Sl) (_ : sl 5 = .v (.c (.own out5_0 (enL enS out5_1) 0))) :
    bodyD (E0 mm) [.tmp 4] 0 false (dn (E0 mm) 29 0 c29_25 sl [.row out5_1.length (rz out5_0 1)]) = (j29_25 out5_0 out5_1).map e29 := by
  unfold j29_25; exact go (Q (nE c29_25 (.seq c29_26 .ret)) k29) trivial
def s29_8 (name1 : Bs) (out5_0 : Bool) (out5_1 : List Bs) (t8_0 : Bool) (t8_1 : List (Bs × Bs)) (t9 t10 : Int) : Option ((Bs × Bool × List Bs × Bool × List (Bs × Bs) × Int × Int) ⊕ R29) :=
  if (decide (t10 < t9)) = true then
    if 0 ≤ t10 ∧ t10 < (t8_1.length : Int) then
      (m73 ((t8_1.getD t10.toNat default).1) name1).bind fun yr5 =>
        if yr5 = true then
          if (out5_1.length + 1) * 16 ≤ 140737488355328 then
            j29_24 name1 false (out5_1 ++ ([(t8_1.getD t10.toNat default).2] : List Bs)) t8_0 t8_1 t9 t10
          else none
        else
          j29_24 name1 out5_0 out5_1 t8_0 t8_1 t9 t10
    else none
  else
    (j29_25 out5_0 out5_1).map .inr
theorem s29_8_t (name1 : Bs) (out5_0 : Bool) (out5_1 : List Bs) (t8_0 : Bool) (t8_1 : List (Bs × Bs)) (t9 t10 : Int) :
    stepE (K29_8 mm) (lp (E0 mm) 29 0 c29_9 L29_0 (en29_8 (name1, out5_0, out5_1, t8_0, t8_1, t9, t10))) = (s29_8 name1 out5_0 out5_1 t8_0 t8_1 t9 t10).map (sm en29_8 e29) := by
  unfold s29_8; exact go k29 (Q @j29_24_t @j29_25_t)
def l29_8 (name1 : Bs) (out5_0 : Bool) (out5_1 : List Bs) (t8_0 : Bool) (t8_1 : List (Bs × Bs)) (t9 t10 : Int) : Option R29 := iter (fun x : (Bs × Bool × List Bs × Bool × List (Bs × Bs) × Int × Int) => s29_8 x.1 x.2.1 x.2.2.1 x.2.2.2.1 x.2.2.2.2.1 x.2.2.2.2.2.1 x.2.2.2.2.2.2) (name1, out5_0, out5_1, t8_0, t8_1, t9, t10)
theorem l29_8_t (name1 : Bs) (out5_0 : Bool) (out5_1 : List Bs) (t8_0 : Bool) (t8_1 : List (Bs × Bs)) (t9 t10 : Int) : (K29_8 mm) (itW (lp (E0 mm) 29 0 c29_9 L29_0) (en29_8 (name1, out5_0, out5_1, t8_0, t8_1, t9, t10))) = (l29_8 name1 out5_0 out5_1 t8_0 t8_1 t9 t10).map e29 :=
  it_sim (K := (K29_8 mm)) rfl (enc := en29_8) (fun x => s29_8_t x.1 x.2.1 x.2.2.1 x.2.2.2.1 x.2.2.2.2.1 x.2.2.2.2.2.1 x.2.2.2.2.2.2) (name1, out5_0, out5_1, t8_0, t8_1, t9, t10)
def m29 (l_0 : Bool) (l_1 : List (Bs × Bs)) (name : Bs) : Option R29 :=
  l29_8 name true ([] : List Bs) l_0 l_1 (l_1.length : Int) (0 : Int)
theorem f29_t (l_0 : Bool) (l_1 : List (Bs × Bs)) (name : Bs) :
    callW (E0 mm) 29 [cd (.lst l_0 (enL enSS l_1)), cd (dS name)] [] = (m29 l_0 l_1 name).map e29 := by
  rw [cR c29_0 [.tmp 4] Tryz.func29]
  unfold m29; exact go k29 @l29_8_t
noncomputable def c71_0 : Code := bodyOf Tryz.f71
def c71_1 := cA c71_0
def c71_4 := cA (cA (cB c71_0))
def c71_6 := cA (cB (cA (cB c71_0)))
def c71_9 := cA (cA (cB (cB (cA (cB c71_0)))))
def c71_13 := cA (cB (cB c71_0))
abbrev R71 := (Bs)
def e71 (x : R71) : AV × Heap := (vd (dS x), [])
def m71 (l_0 : Bool) (l_1 : List (Bs × Bs)) (name : Bs) : Option R71 :=
  (m29 l_0 l_1 name).bind fun yr2 =>
    if ((yr2.2.length : Int) == 1) = true then
      if (0 : Int) < (yr2.2.length : Int) then
        some (yr2.2.getD 0 default)
      else none
    else
      some ([] : Bs)
def k71 := Q (rx c71_1) (Q (rx c71_4) (Q @f29_t (Q @e29.eq_1 (Q (rx c71_6) (Q (rx c71_9) (Q (rx c71_13) (Q (nE c71_0 (.seq c71_1 (.seq (.seq c71_4 (.seq c71_6 (.cond _ (.seq c71_9 .ret) .skip))) (.seq c71_13 .ret)))) hA)))))))
theorem f71_t (l_0 : Bool) (l_1 : List (Bs × Bs)) (name : Bs) :
    callW (E0 mm) 71 [cd (.lst l_0 (enL enSS l_1)), cd (dS name)] [] = (m71 l_0 l_1 name).map e71 := by
  rw [cR c71_0 [.tmp 4] Tryz.func71]
  unfold m71; exact go k71 trivial
noncomputable def c167_0 : Code := bodyOf Tryz.f167
def c167_1 := cA c167_0
def c167_3 := cA (cB c167_0)
abbrev R167 := (Bool)
def e167 (x : R167) : AV × Heap := (vd (dB x), [])
def m167 (s xprefix : Bs) : Option R167 :=
  if (decide ((xprefix.length : Int) ≤ (s.length : Int))) = true then
    (bnd (xprefix.length : Int) s.length).bind fun yk3 =>
      some ((s.take yk3) == xprefix)
  else
    some false
def k167 := Q (rx c167_1) (Q (rx c167_3) (Q (nE c167_0 (.seq c167_1 (.seq c167_3 .ret))) hA))
theorem f167_t (s xprefix : Bs) :
    callW (E0 mm) 167 [cd (dS s), cd (dS xprefix)] [] = (m167 s xprefix).map e167 := by
  rw [cR c167_0 [.tmp 4] Tryz.func167]
  unfold m167; exact go k167 trivial
noncomputable def c146_0 : Code := bodyOf Tryz.f146
def c146_1 := cA c146_0
def c146_4 := cA (cA (cB c146_0))
def c146_7 := cA (cA (cB (cA (cB c146_0))))
def c146_11 := cA (cB (cB c146_0))
abbrev R146 := (Bs)
def e146 (x : R146) : AV × Heap := (vd (dS x), [])
def m146 (s xprefix : Bs) : Option R146 :=
  (m167 s xprefix).bind fun yr2 =>
    if yr2 = true then
      (bnd (xprefix.length : Int) s.length).bind fun yk5 =>
        some (s.drop yk5)
    else
      some s
def k146 := Q (rx c146_1) (Q (rx c146_4) (Q @ent167 (Q @prm167 (Q @f167_t (Q @e167.eq_1 (Q (rx c146_7) (Q (rx c146_11) (Q (nE c146_0 (.seq c146_1 (.seq (.seq c146_4 (.cond _ (.seq c146_7 .ret) .skip)) (.seq c146_11 .ret)))) hA))))))))
theorem f146_t (s xprefix : Bs) :
    callW (E0 mm) 146 [cd (dS s), cd (dS xprefix)] [] = (m146 s xprefix).map e146 := by
  rw [cR c146_0 [.tmp 4] Tryz.func146]
  unfold m146; exact go k146 trivial
noncomputable def c118_0 : Code := bodyOf Tryz.f118
def c118_1 := cA c118_0
def c118_3 := cA (cB c118_0)
abbrev R118 := (Bs)
def e118 (x : R118) : AV × Heap := (vd (dS x), [])
def m118 (s xprefix : Bs) : Option R118 :=
  (m146 s xprefix).bind fun yr2 =>
    some yr2
def k118 := Q (rx c118_1) (Q (rx c118_3) (Q @ent146 (Q @prm146 (Q @f146_t (Q @e146.eq_1 (Q (nE c118_0 (.seq c118_1 (.seq c118_3 .ret))) hA))))))
theorem f118_t (s xprefix : Bs) :
    callW (E0 mm) 118 [cd (dS s), cd (dS xprefix)] [] = (m118 s xprefix).map e118 := by
  rw [cR c118_0 [.tmp 4] Tryz.func118]
  unfold m118; exact go k118 trivial
noncomputable def c119_0 : Code := bodyOf Tryz.f119
def c119_1 := cA c119_0
def c119_3 := cA (cB c119_0)
abbrev R119 := (Bool)
def e119 (x : R119) : AV × Heap := (vd (dB x), [])
def m119 (c : UInt8) : Option R119 :=
  if (decide (c < (33 : UInt8))) = true then
    some true
  else
    if (c == (34 : UInt8)) = true then
      some true
    else
      some (c == (127 : UInt8))
def k119 := Q (rx c119_1) (Q (rx c119_3) (Q (nE c119_0 (.seq c119_1 (.seq c119_3 .ret))) hA))
theorem f119_t (c : UInt8) :
    callW (E0 mm) 119 [cd (.sc (.int .u8 ((c).toNat : Int)))] [] = (m119 c).map e119 := by
  rw [cR c119_0 [.tmp 2] Tryz.func119]
  unfold m119; exact go k119 trivial
noncomputable def c147_0 : Code := bodyOf Tryz.f147
def c147_1 := cA c147_0
def c147_4 := cA (cA (cB c147_0))
def c147_6 := cA (cB (cA (cB c147_0)))
def c147_7 := cA c147_6
def c147_8 := cA c147_7
def c147_16 := cA (cA (cA (cB (cB c147_7))))
def c147_18 := cA (cB (cA (cA (cB (cB c147_7)))))
def c147_21 := cA (cA (cB (cB (cA (cA (cB (cB c147_7)))))))
def c147_24 := cB (cB (cB c147_7))
def c147_25 := cB (cB c147_0)
def c147_26 := cA c147_25
def L147_0 : List (Nat × Co) := [(0, .keep), (1, .keep), (7, .keep), (8, .keep)]
abbrev R147 := (Int)
def e147 (x : R147) : AV × Heap := (vd (dI x), [])
def j147_25  : Option R147 :=
  some (-1 : Int)
def K147_6 (mm : Int) (r : Option (Ex × St)) : Option (AV × Heap) := bodyD (E0 mm) [.tmp 4] 0 false (sq (E0 mm) 147 0 c147_25 (blockD 0 (r)))
def en147_6 (x : (Bool × List UInt8 × Int × Int)) : X := (none, [vd (.lst x.1 (enL enB x.2.1)), vd (.sc (.func (.func 119) #[] #[])), vd (dI x.2.2.1), vd (dI x.2.2.2)], [])
def k147 := Q (rx c147_26) (Q (rx c147_8) (Q (rx c147_16) (Q (rx c147_18) (Q @ent119 (Q @prm119 (Q @f119_t (Q @e119.eq_1 (Q (rx c147_21) (Q @K147_6.eq_1 (Q (rx c147_24) (Q (rx c147_1) (Q (rx c147_4) (Q (fun mm => lx (E0 mm) 147 c147_6 c147_7 L147_0) (Q (nE c147_0 (.seq c147_1 (.seq (.seq c147_4 (.block 0 c147_6)) c147_25))) (Q (nE c147_7 (.seq c147_8 (.seq (.cond _ .skip (.exit 0)) (.seq (.block 1 (.seq c147_16 (.seq c147_18 (.cond _ (.seq c147_21 .ret) .skip)))) c147_24)))) (Q @en147_6.eq_1 (Q @L147_0.eq_1 hA)))))))))))))))))
theorem j147_25_t (sl : Sl)  :
    bodyD (E0 mm) [.tmp 4] 0 false (dn (E0 mm) 147 0 c147_25 sl []) = (j147_25).map e147 := by
  unfold j147_25; exact go (Q (nE c147_25 (.seq c147_26 .ret)) k147) trivial
def s147_6 (s0_0 : Bool) (s0_1 : List UInt8) (t7 t8 : Int) : Option ((Bool × List UInt8 × Int × Int) ⊕ R147) :=
  if (decide (t8 < t7)) = true then
    if 0 ≤ t8 ∧ t8 < (s0_1.length : Int) then
      (m119 (s0_1.getD t8.toNat default)).bind fun yr5 =>
        if yr5 = true then
          some (.inr t8)
        else
          some (.inl (s0_0, s0_1, t7, (w64 (t8 + 1))))
    else none
  else
    (j147_25).map .inr
theorem s147_6_t (s0_0 : Bool) (s0_1 : List UInt8) (t7 t8 : Int) :
    stepE (K147_6 mm) (lp (E0 mm) 147 0 c147_7 L147_0 (en147_6 (s0_0, s0_1, t7, t8))) = (s147_6 s0_0 s0_1 t7 t8).map (sm en147_6 e147) := by
  unfold s147_6; exact go k147 @j147_25_t
def l147_6 (s0_0 : Bool) (s0_1 : List UInt8) (t7 t8 : Int) : Option R147 := iter (fun x : (Bool × List UInt8 × Int × Int) => s147_6 x.1 x.2.1 x.2.2.1 x.2.2.2) (s0_0, s0_1, t7, t8)
theorem l147_6_t (s0_0 : Bool) (s0_1 : List UInt8) (t7 t8 : Int) : (K147_6 mm) (itW (lp (E0 mm) 147 0 c147_7 L147_0) (en147_6 (s0_0, s0_1, t7, t8))) = (l147_6 s0_0 s0_1 t7 t8).map e147 :=
  it_sim (K := (K147_6 mm)) rfl (enc := en147_6) (fun x => s147_6_t x.1 x.2.1 x.2.2.1 x.2.2.2) (s0_0, s0_1, t7, t8)
def m147 (s_0 : Bool) (s_1 : List UInt8) : Option R147 :=
  l147_6 s_0 s_1 (s_1.length : Int) (0 : Int)
theorem f147_t (s_0 : Bool) (s_1 : List UInt8) :
    callW (E0 mm) 147 [cd (.lst s_0 (enL enB s_1)), cd (.sc (.func (.func 119) #[] #[]))] [] = (m147 s_0 s_1).map e147 := by
  rw [cR c147_0 [.tmp 4] Tryz.func147]
  unfold m147; exact go k147 @l147_6_t
noncomputable def c120_0 : Code := bodyOf Tryz.f120
def c120_1 := cA c120_0
def c120_3 := cA (cB c120_0)
abbrev R120 := (Bool)
def e120 (x : R120) : AV × Heap := (vd (dB x), [])
def m120 (s_0 : Bool) (s_1 : List UInt8) : Option R120 :=
  (m147 s_0 s_1).bind fun yr2 =>
    some (decide (0 ≤ yr2))
def k120 := Q (rx c120_1) (Q (rx c120_3) (Q @f147_t (Q @e147.eq_1 (Q (nE c120_0 (.seq c120_1 (.seq c120_3 .ret))) hA))))
theorem f120_t (s_0 : Bool) (s_1 : List UInt8) :
    callW (E0 mm) 120 [cd (.lst s_0 (enL enB s_1)), cd (.sc (.func (.func 119) #[] #[]))] [] = (m120 s_0 s_1).map e120 := by
  rw [cR c120_0 [.tmp 4] Tryz.func120]
  unfold m120; exact go k120 trivial
noncomputable def c72_0 : Code := bodyOf Tryz.f72
def c72_1 := cA c72_0
def c72_3 := cA (cB c72_0)
def c72_6 := cA (cA (cB (cB c72_0)))
def c72_7 := cB (cA (cB (cB c72_0)))
def c72_9 := cA (cA c72_7)
def c72_12 := cB (cB (cB c72_0))
def c72_13 := cA c72_12
def c72_15 := cA (cB c72_12)
abbrev R72 := (Bool)
def e72 (x : R72) : AV × Heap := (vd (dB x), [])
def j72_7 (s0 : Bs) (t21 : Bool) : Option R72 :=
  if t21 = true then
    some false
  else
    (bnd (w64 ((s0.length : Int) - 1)) s0.length).bind fun yk6 =>
      (bnd 1 yk6).bind fun yk8 =>
        (m120 false ((s0.take yk6).drop yk8)).bind fun yr10 =>
          some (!yr10)
def k72 := Q (rx c72_9) (Q (rx c72_13) (Q (rx c72_15) (Q @hd7 (Q @rw8 (Q (fun (mm : Int) (s0 : Bs) (yk6 : Nat) (yk8 : Nat) => (show callW (E0 mm) 120 [cd (.lst false (enL enB ((s0.take yk6).drop yk8))), cd (.sc (.func (.func 119) #[] #[]))] [] = _ from f120_t false ((s0.take yk6).drop yk8))) (Q @f120_t (Q @e120.eq_1 (Q (rx c72_1) (Q (rx c72_3) (Q @ent118 (Q @prm118 (Q (fun (mm : Int) (s : Bs) => (show callW (E0 mm) 118 [cd (dS s), cd (dS ([87, 47] : Bs))] [] = _ from f118_t s ([87, 47] : Bs))) (Q @f118_t (Q @e118.eq_1 (Q (rx c72_6) (Q (nE c72_0 (.seq c72_1 (.seq c72_3 (.seq (.seq c72_6 c72_7) c72_12)))) (Q (nE c72_12 (.seq c72_13 (.seq c72_15 .ret))) hA)))))))))))))))))
theorem j72_7_t (s0 : Bs) (t21 : Bool)  (sl : Sl) (_ : sl 0 = vd (dS s0)) (_ : sl 21 = vd (dB t21)) :
    bodyD (E0 mm) [.tmp 2] 0 false (sq (E0 mm) 72 0 c72_12 (dn (E0 mm) 72 0 c72_7 sl [])) = (j72_7 s0 t21).map e72 := by
  unfold j72_7; exact go (Q (nE c72_7 (.cond _ (.seq c72_9 .ret) .skip)) k72) trivial
def m72 (s : Bs) : Option R72 :=
  (m118 s ([87, 47] : Bs)).bind fun yr2 =>
    if (decide ((yr2.length : Int) < 2)) = true then
      j72_7 yr2 true
    else
      if (0 : Int) < (yr2.length : Int) then
        if ((yr2.getD 0 0) == (34 : UInt8)) = true then
          if 0 ≤ (w64 ((yr2.length : Int) - 1)) ∧ (w64 ((yr2.length : Int) - 1)) < (yr2.length : Int) then
            j72_7 yr2 (!((yr2.getD (w64 ((yr2.length : Int) - 1)).toNat 0) == (34 : UInt8)))
          else none
        else
          j72_7 yr2 true
      else none
theorem f72_t (s : Bs) :
    callW (E0 mm) 72 [cd (dS s)] [] = (m72 s).map e72 := by
  rw [cR c72_0 [.tmp 2] Tryz.func72]
  unfold m72; exact go k72 @j72_7_t
noncomputable def c28_0 : Code := bodyOf Tryz.f28
def c28_1 := cA c28_0
def c28_3 := cA (cB c28_0)
def c28_6 := cA (cA (cB (cB c28_0)))
def c28_9 := cA (cA (cB (cA (cB (cB c28_0)))))
def c28_13 := cA (cB (cB (cB c28_0)))
abbrev R28 := (Bs × Bool)
def e28 (x : R28) : AV × Heap := (.tup [cd (dS x.1), cd (dB x.2)], [])
def m28 (l_0 : Bool) (l_1 : List (Bs × Bs)) : Option R28 :=
  (m71 l_0 l_1 ([101, 116, 97, 103] : Bs)).bind fun yr2 =>
    (m72 yr2).bind fun yr4 =>
      if yr4 = true then
        some (yr2, true)
      else
        some (([] : Bs), false)
def k28 := Q (rx c28_1) (Q (rx c28_3) (Q (fun (mm : Int) (l_0 : Bool) (l_1 : List (Bs × Bs)) => (show callW (E0 mm) 71 [cd (.lst l_0 (enL enSS l_1)), cd (dS ([101, 116, 97, 103] : Bs))] [] = _ from f71_t l_0 l_1 ([101, 116, 97, 103] : Bs))) (Q @f71_t (Q @e71.eq_1 (Q (rx c28_6) (Q @ent72 (Q @prm72 (Q @f72_t (Q @e72.eq_1 (Q (rx c28_13) (Q (rx c28_9) (Q (nE c28_0 (.seq c28_1 (.seq c28_3 (.seq (.seq c28_6 (.cond _ (.seq c28_9 .ret) .skip)) (.seq c28_13 .ret))))) hA))))))))))))
theorem f28_t (l_0 : Bool) (l_1 : List (Bs × Bs)) :
    callW (E0 mm) 28 [cd (.lst l_0 (enL enSS l_1))] [] = (m28 l_0 l_1).map e28 := by
  rw [cR c28_0 [.tmp 2, .tmp 3] Tryz.func28]
  unfold m28; exact go k28 trivial
noncomputable def c51_0 : Code := bodyOf Tryz.f51
def c51_1 := cA c51_0
def c51_3 := cA (cB c51_0)
def c51_6 := cA (cA (cB (cB c51_0)))
def c51_8 := cA (cB (cA (cB (cB c51_0))))
def c51_9 := cA c51_8
def c51_11 := cA (cA c51_9)
def c51_18 := cA (cA (cA (cB c51_9)))
def c51_19 := cB (cA (cA (cB c51_9)))
def c51_20 := cA c51_19
def c51_21 := cB c51_19
def c51_22 := cB (cB c51_9)
def c51_23 := cB (cB (cB c51_0))
def c51_24 := cA c51_23
def L51_0 : List (Nat × Co) := [(0, .keep), (3, .own), (4, .keep)]
abbrev R51 := (Bs)
def e51 (x : R51) : AV × Heap := (vd (dS x), [])
def j51_22 (s0 : Bs) (b3_0 : Bool) (b3_1 : List UInt8) (i4 : Int) : Option ((Bs × Bool × List UInt8 × Int) ⊕ R51) :=
  some (.inl (s0, b3_0, b3_1, (w64 (i4 + 1))))
def K51_8 (mm : Int) (r : Option (Ex × St)) : Option (AV × Heap) := bodyD (E0 mm) [.tmp 2] 0 false (sq (E0 mm) 51 0 c51_23 (blockD 0 (r)))
def en51_8 (x : (Bs × Bool × List UInt8 × Int)) : X := (none, [vd (dS x.1), .v (.c (.own x.2.1 (enL enB x.2.2.1) 0)), vd (dI x.2.2.2)], [.row x.2.2.1.length (rz x.2.1 1)])
def k51 := Q (rx c51_20) (Q @hd9 (Q @nv10 (Q @rw11 (Q (rx c51_21) (Q @hd14 (Q @nv15 (Q @rw16 (Q (rx c51_24) (Q (rx c51_11) (Q (rx c51_18) (Q @K51_8.eq_1 (Q (rx c51_1) (Q (rx c51_3) (Q (rx c51_6) (Q (fun mm => lx (E0 mm) 51 c51_8 c51_9 L51_0) (Q (nE c51_0 (.seq c51_1 (.seq c51_3 (.seq (.seq c51_6 (.block 0 c51_8)) c51_23)))) (Q (nE c51_9 (.seq (.seq c51_11 (.cond _ .skip (.exit 0))) (.seq (.block 1 (.seq c51_18 c51_19)) c51_22))) (Q @en51_8.eq_1 (Q @L51_0.eq_1 hA)))))))))))))))))))
theorem j51_22_t (s0 : Bs) (b3_0 : Bool) (b3_1 : List UInt8) (i4 : Int)  (sl : Sl) (_ : sl 0 = vd (dS s0)) (_ : sl 3 = .v (.c (.own b3_0 (enL enB b3_1) 0))) (_ : sl 4 = vd (dI i4)) :
    stepE (K51_8 mm) (loopK 0 L51_0 (dn (E0 mm) 51 0 c51_22 sl [.row b3_1.length (rz b3_0 1)])) = (j51_22 s0 b3_0 b3_1 i4).map (sm en51_8 e51) := by
  unfold j51_22; exact go (Q (rx c51_22) k51) trivial
def j51_19 (s0 : Bs) (b3_0 : Bool) (b3_1 : List UInt8) (i4 : Int) (t20 : Bool) : Option ((Bs × Bool × List UInt8 × Int) ⊕ R51) :=
  if t20 = true then
    if 0 ≤ i4 ∧ i4 < (s0.length : Int) then
      if (b3_1.length + 1) * 1 ≤ 140737488355328 then
        j51_22 s0 false (b3_1 ++ ([((s0.getD i4.toNat 0) + (32 : UInt8))] : List UInt8)) i4
      else none
    else none
  else
    if 0 ≤ i4 ∧ i4 < (s0.length : Int) then
      if (b3_1.length + 1) * 1 ≤ 140737488355328 then
        j51_22 s0 false (b3_1 ++ ([(s0.getD i4.toNat 0)] : List UInt8)) i4
      else none
    else none
theorem j51_19_t (s0 : Bs) (b3_0 : Bool) (b3_1 : List UInt8) (i4 : Int) (t20 : Bool)  (sl : Sl) (_ : sl 0 = vd (dS s0)) (_ : sl 3 = .v (.c (.own b3_0 (enL enB b3_1) 0))) (_ : sl 4 = vd (dI i4)) (_ : sl 20 = vd (dB t20)) :
    stepE (K51_8 mm) (loopK 0 L51_0 (sq (E0 mm) 51 0 c51_22 (blockD 1 (dn (E0 mm) 51 0 c51_19 sl [.row b3_1.length (rz b3_0 1)])))) = (j51_19 s0 b3_0 b3_1 i4 t20).map (sm en51_8 e51) := by
  unfold j51_19; exact go (Q (nE c51_19 (.cond _ c51_20 c51_21)) k51) @j51_22_t
def j51_23 (b3_0 : Bool) (b3_1 : List UInt8) : Option R51 :=
  some b3_1
theorem j51_23_t (b3_0 : Bool) (b3_1 : List UInt8)  (sl : Sl) (_ : sl 3 = .v (.c (.own b3_0 (enL enB b3_1) 0))) :
    bodyD (E0 mm) [.tmp 2] 0 false (dn (E0 mm) 51 0 c51_23 sl [.row b3_1.length (rz b3_0 1)]) = (j51_23 b3_0 b3_1).map e51 := by
  unfold j51_23; exact go (Q (nE c51_23 (.seq c51_24 .ret)) k51) trivial
def s51_8 (s0 : Bs) (b3_0 : Bool) (b3_1 : List UInt8) (i4 : Int) : Option ((Bs × Bool × List UInt8 × Int) ⊕ R51) :=
  if (decide (i4 < (s0.length : Int))) = true then
    if 0 ≤ i4 ∧ i4 < (s0.length : Int) then
      if (decide ((65 : UInt8) ≤ (s0.getD i4.toNat 0))) = true then
        j51_19 s0 b3_0 b3_1 i4 (decide ((s0.getD i4.toNat 0) ≤ (90 : UInt8)))
      else
        j51_19 s0 b3_0 b3_1 i4 false
    else none
  else
    (j51_23 b3_0 b3_1).map .inr
theorem s51_8_t (s0 : Bs) (b3_0 : Bool) (b3_1 : List UInt8) (i4 : Int) :
    stepE (K51_8 mm) (lp (E0 mm) 51 0 c51_9 L51_0 (en51_8 (s0, b3_0, b3_1, i4))) = (s51_8 s0 b3_0 b3_1 i4).map (sm en51_8 e51) := by
  unfold s51_8; exact go k51 (Q @j51_19_t @j51_23_t)
def l51_8 (s0 : Bs) (b3_0 : Bool) (b3_1 : List UInt8) (i4 : Int) : Option R51 := iter (fun x : (Bs × Bool × List UInt8 × Int) => s51_8 x.1 x.2.1 x.2.2.1 x.2.2.2) (s0, b3_0, b3_1, i4)
theorem l51_8_t (s0 : Bs) (b3_0 : Bool) (b3_1 : List UInt8) (i4 : Int) : (K51_8 mm) (itW (lp (E0 mm) 51 0 c51_9 L51_0) (en51_8 (s0, b3_0, b3_1, i4))) = (l51_8 s0 b3_0 b3_1 i4).map e51 :=
  it_sim (K := (K51_8 mm)) rfl (enc := en51_8) (fun x => s51_8_t x.1 x.2.1 x.2.2.1 x.2.2.2) (s0, b3_0, b3_1, i4)
def m51 (s : Bs) : Option R51 :=
  l51_8 s true ([] : List UInt8) (0 : Int)
theorem f51_t (s : Bs) :
    callW (E0 mm) 51 [cd (dS s)] [] = (m51 s).map e51 := by
  rw [cR c51_0 [.tmp 2] Tryz.func51]
  unfold m51; exact go k51 @l51_8_t
noncomputable def c95_0 : Code := bodyOf Tryz.f95
def c95_1 := cA c95_0
def c95_3 := cA (cB c95_0)
abbrev R95 := (Bool)
def e95 (x : R95) : AV × Heap := (vd (dB x), [])
def m95 (a b : Bs) : Option R95 :=
  (m51 a).bind fun yr2 =>
    (m51 b).bind fun yr4 =>
      some (yr2 == yr4)
def k95 := Q (rx c95_1) (Q (rx c95_3) (Q @f51_t (Q @e51.eq_1 (Q (nE c95_0 (.seq c95_1 (.seq c95_3 .ret))) hA))))
theorem f95_t (a b : Bs) :
    callW (E0 mm) 95 [cd (dS a), cd (dS b)] [] = (m95 a b).map e95 := by
  rw [cR c95_0 [.tmp 4] Tryz.func95]
  unfold m95; exact go k95 trivial
noncomputable def c74_0 : Code := bodyOf Tryz.f74
def c74_1 := cA c74_0
def c74_3 := cA (cB c74_0)
def c74_6 := cA (cA (cB (cB c74_0)))
def c74_8 := cA (cB (cA (cB (cB c74_0))))
def c74_9 := cA c74_8
def c74_11 := cA (cA c74_9)
def c74_18 := cA (cA (cA (cB c74_9)))
def c74_20 := cA (cB (cA (cA (cB c74_9))))
def c74_22 := cB (cB c74_9)
def c74_23 := cB (cB (cB c74_0))
def c74_24 := cA c74_23
def L74_0 : List (Nat × Co) := [(0, .keep), (1, .keep), (5, .own), (6, .keep)]
abbrev R74 := (Bool × List Bs)
def e74 (x : R74) : AV × Heap := (.v (.c (.own x.1 (enL enS x.2) 0)), [.row x.2.length (rz x.1 1)])
def j74_22 (l0_0 : Bool) (l0_1 : List (Bs × Bs)) (name1 : Bs) (out5_0 : Bool) (out5_1 : List Bs) (i6 : Int) : Option ((Bool × List (Bs × Bs) × Bs × Bool × List Bs × Int) ⊕ R74) :=
  some (.inl (l0_0, l0_1, name1, out5_0, out5_1, (w64 (i6 + 1))))
def K74_8 (mm : Int) (r : Option (Ex × St)) : Option (AV × Heap) := bodyD (E0 mm) [.tmp 4] 0 false (sq (E0 mm) 74 0 c74_23 (blockD 0 (r)))
def en74_8 (x : (Bool × List (Bs × Bs) × Bs × Bool × List Bs × Int)) : X := (none, [vd (.lst x.1 (enL enSS x.2.1)), vd (dS x.2.2.1), .v (.c (.own x.2.2.2.1 (enL enS x.2.2.2.2.1) 0)), vd (dI x.2.2.2.2.2)], [.row x.2.2.2.2.1.length (rz x.2.2.2.1 1)])
def k74 := Q (rx c74_24) (Q (rx c74_11) (Q (rx c74_18) (Q @f95_t (Q @e95.eq_1 (Q (rx c74_20) (Q @K74_8.eq_1 (Q (rx c74_1) (Q (rx c74_3) (Q (rx c74_6) (Q (fun mm => lx (E0 mm) 74 c74_8 c74_9 L74_0) (Q (nE c74_0 (.seq c74_1 (.seq c74_3 (.seq (.seq c74_6 (.block 0 c74_8)) c74_23)))) (Q (nE c74_9 (.seq (.seq c74_11 (.cond _ .skip (.exit 0))) (.seq (.block 1 (.seq c74_18 (.cond _ c74_20 .skip))) c74_22))) (Q @en74_8.eq_1 (Q @L74_0.eq_1 hA))))))))))))))
theorem j74_22_t (l0_0 : Bool) (l0_1 : List (Bs × Bs)) (name1 : Bs) (out5_0 : Bool) (out5_1 : List Bs) (i6 : Int)  (sl : Sl) (_ : sl 0 = vd (.lst l0_0 (enL enSS l0_1))) (_ : sl 1 = vd (dS name1)) (_ : sl 5 = .v (.c (.own out5_0 (enL enS out5_1) 0))) (_ : sl 6 = vd (dI i6)) :
    stepE (K74_8 mm) (loopK 0 L74_0 (dn (E0 mm) 74 0 c74_22 sl [.row out5_1.length (rz out5_0 1)])) = (j74_22 l0_0 l0_1 name1 out5_0 out5_1 i6).map (sm en74_8 e74) := by
  unfold j74_22; exact go (Q (rx c74_22) k74) trivial
def j74_23 (out5_0 : Bool) (out5_1 : List Bs) : Option R74 :=
  some (out5_0, out5_1)
theorem j74_23_t (out5_0 : Bool) (out5_1 : List Bs)  (sl : Sl) (_ : sl 5 = .v (.c (.own out5_0 (enL enS out5_1) 0))) :
    bodyD (E0 mm) [.tmp 4] 0 false (dn (E0 mm) 74 0 c74_23 sl [.row out5_1.length (rz out5_0 1)]) = (j74_23 out5_0 out5_1).map e74 := by
  unfold j74_23; exact go (Q (nE c74_23 (.seq c74_24 .ret)) k74) trivial
def s74_8 (l0_0 : Bool) (l0_1 : List (Bs × Bs)) (name1 : Bs) (out5_0 : Bool) (out5_1 : List Bs) (i6 : Int) : Option ((Bool × List (Bs × Bs) × Bs × Bool × List Bs × Int) ⊕ R74) :=
  if (decide (i6 < (l0_1.length : Int))) = true then
    if 0 ≤ i6 ∧ i6 < (l0_1.length : Int) then
      (m95 ((l0_1.getD i6.toNat default).1) name1).bind fun yr5 =>
        if yr5 = true then
          if (out5_1.length + 1) * 16 ≤ 140737488355328 then
            j74_22 l0_0 l0_1 name1 false (out5_1 ++ ([(l0_1.getD i6.toNat default).2] : List Bs)) i6
          else none
        else
          j74_22 l0_0 l0_1 name1 out5_0 out5_1 i6
    else none
  else
    (j74_23 out5_0 out5_1).map .inr
theorem s74_8_t (l0_0 : Bool) (l0_1 : List (Bs × Bs)) (name1 : Bs) (out5_0 : Bool) (out5_1 : List Bs) (i6 : Int) :
    stepE (K74_8 mm) (lp (E0 mm) 74 0 c74_9 L74_0 (en74_8 (l0_0, l0_1, name1, out5_0, out5_1, i6))) = (s74_8 l0_0 l0_1 name1 out5_0 out5_1 i6).map (sm en74_8 e74) := by
  unfold s74_8; exact go k74 (Q @j74_22_t @j74_23_t)
def l74_8 (l0_0 : Bool) (l0_1 : List (Bs × Bs)) (name1 : Bs) (out5_0 : Bool) (out5_1 : List Bs) (i6 : Int) : Option R74 := iter (fun x : (Bool × List (Bs × Bs) × Bs × Bool × List Bs × Int) => s74_8 x.1 x.2.1 x.2.2.1 x.2.2.2.1 x.2.2.2.2.1 x.2.2.2.2.2) (l0_0, l0_1, name1, out5_0, out5_1, i6)
theorem l74_8_t (l0_0 : Bool) (l0_1 : List (Bs × Bs)) (name1 : Bs) (out5_0 : Bool) (out5_1 : List Bs) (i6 : Int) : (K74_8 mm) (itW (lp (E0 mm) 74 0 c74_9 L74_0) (en74_8 (l0_0, l0_1, name1, out5_0, out5_1, i6))) = (l74_8 l0_0 l0_1 name1 out5_0 out5_1 i6).map e74 :=
  it_sim (K := (K74_8 mm)) rfl (enc := en74_8) (fun x => s74_8_t x.1 x.2.1 x.2.2.1 x.2.2.2.1 x.2.2.2.2.1 x.2.2.2.2.2) (l0_0, l0_1, name1, out5_0, out5_1, i6)
def m74 (l_0 : Bool) (l_1 : List (Bs × Bs)) (name : Bs) : Option R74 :=
  l74_8 l_0 l_1 name true ([] : List Bs) (0 : Int)
theorem f74_t (l_0 : Bool) (l_1 : List (Bs × Bs)) (name : Bs) :
    callW (E0 mm) 74 [cd (.lst l_0 (enL enSS l_1)), cd (dS name)] [] = (m74 l_0 l_1 name).map e74 := by
  rw [cR c74_0 [.tmp 4] Tryz.func74]
  unfold m74; exact go k74 @l74_8_t
noncomputable def c31_0 : Code := bodyOf Tryz.f31
def c31_1 := cA c31_0
def c31_3 := cA (cB c31_0)
def c31_6 := cA (cA (cB (cB c31_0)))
def c31_9 := cA (cA (cB (cA (cB (cB c31_0)))))
def c31_13 := cA (cB (cB (cB c31_0)))
def c31_15 := cA (cB (cB (cB (cB c31_0))))
def c31_18 := cA (cA (cB (cB (cB (cB (cB c31_0))))))
def c31_19 := cB (cA (cB (cB (cB (cB (cB c31_0))))))
def c31_20 := cA c31_19
def c31_22 := cB (cB (cB (cB (cB (cB c31_0)))))
def c31_24 := cA (cA c31_22)
def c31_25 := cB (cA c31_22)
def c31_27 := cA (cA c31_25)
def c31_30 := cB c31_22
def c31_32 := cA (cA c31_30)
def c31_34 := cA (cB (cA c31_30))
def c31_35 := cA c31_34
def c31_37 := cA (cA c31_35)
def c31_44 := cA (cA (cA (cB c31_35)))
def c31_46 := cA (cB (cA (cA (cB c31_35))))
def c31_47 := cB (cB (cA (cA (cB c31_35))))
def c31_49 := cA (cA c31_47)
def c31_52 := cB (cB c31_35)
def c31_53 := cB c31_30
def c31_54 := cA c31_53
def L31_0 : List (Nat × Co) := [(5, .keep), (7, .keep)]
abbrev b31 (mm : Int) := bodyD (E0 mm) [.tmp 2, .tmp 3] 0 false
abbrev R31 := (Bs × Bool)
def e31 (x : R31) : AV × Heap := (.tup [cd (dS x.1), cd (dB x.2)], [])
def j31_47 (s5 : Bs) (i7 : Int) (t75 : Bool) : Option ((Bs × Int) ⊕ R31) :=
  if t75 = true then
    some (.inr (([] : Bs), false))
  else
    some (.inl (s5, (w64 (i7 + 1))))
def K31_34 (mm : Int) (r : Option (Ex × St)) : Option (AV × Heap) := b31 mm (sq (E0 mm) 31 0 c31_53 (blockD 0 (r)))
def en31_34 (x : (Bs × Int)) : X := (none, [vd (dS x.1), vd (dI x.2)], [])
def k31 := Q (rx c31_49) (Q @K31_34.eq_1 (Q (rx c31_52) (Q (rx c31_54) (Q (rx c31_37) (Q (rx c31_44) (Q (rx c31_46) (Q (rx c31_27) (Q (rx c31_32) (Q (fun mm => lx (E0 mm) 31 c31_34 c31_35 L31_0) (Q (rx c31_24) (Q (rx c31_20) (Q (rx c31_1) (Q (rx c31_3) (Q (fun (mm : Int) (l_0 : Bool) (l_1 : List (Bs × Bs)) => (show callW (E0 mm) 74 [cd (.lst l_0 (enL enSS l_1)), cd (dS ([101, 116, 97, 103] : Bs))] [] = _ from f74_t l_0 l_1 ([101, 116, 97, 103] : Bs))) (Q @f74_t (Q @e74.eq_1 (Q (rx c31_6) (Q (rx c31_13) (Q (rx c31_15) (Q (rx c31_18) (Q (rx c31_9) (Q (nE c31_0 (.seq c31_1 (.seq c31_3 (.seq (.seq c31_6 (.cond _ (.seq c31_9 .ret) .skip)) (.seq c31_13 (.seq c31_15 (.seq (.seq c31_18 c31_19) c31_22))))))) (Q (nE c31_30 (.seq (.seq c31_32 (.block 0 c31_34)) c31_53)) (Q (nE c31_35 (.seq (.seq c31_37 (.cond _ .skip (.exit 0))) (.seq (.block 1 (.seq c31_44 (.seq c31_46 c31_47))) c31_52))) (Q @en31_34.eq_1 (Q @L31_0.eq_1 hA))))))))))))))))))))))))))
theorem j31_47_t (s5 : Bs) (i7 : Int) (t75 : Bool)  (sl : Sl) (_ : sl 5 = vd (dS s5)) (_ : sl 7 = vd (dI i7)) (_ : sl 75 = vd (dB t75)) :
    stepE (K31_34 mm) (loopK 0 L31_0 (sq (E0 mm) 31 0 c31_52 (blockD 1 (dn (E0 mm) 31 0 c31_47 sl [])))) = (j31_47 s5 i7 t75).map (sm en31_34 e31) := by
  unfold j31_47; exact go (Q (nE c31_47 (.cond _ (.seq c31_49 .ret) .skip)) k31) trivial
def j31_53 (s5 : Bs) : Option R31 :=
  some (s5, true)
theorem j31_53_t (s5 : Bs)  (sl : Sl) (_ : sl 5 = vd (dS s5)) :
    b31 mm (dn (E0 mm) 31 0 c31_53 sl []) = (j31_53 s5).map e31 := by
  unfold j31_53; exact go (Q (nE c31_53 (.seq c31_54 .ret)) k31) trivial
def s31_34 (s5 : Bs) (i7 : Int) : Option ((Bs × Int) ⊕ R31) :=
  if (decide (i7 < (w64 ((s5.length : Int) - 1)))) = true then
    if 0 ≤ i7 ∧ i7 < (s5.length : Int) then
      if ((s5.getD i7.toNat 0) == (33 : UInt8)) = true then
        j31_47 s5 i7 false
      else
        if (decide ((35 : UInt8) ≤ (s5.getD i7.toNat 0))) = true then
          if (decide ((s5.getD i7.toNat 0) ≤ (126 : UInt8))) = true then
            j31_47 s5 i7 false
          else
            j31_47 s5 i7 (decide ((s5.getD i7.toNat 0) < (128 : UInt8)))
        else
          j31_47 s5 i7 (decide ((s5.getD i7.toNat 0) < (128 : UInt8)))
    else none
  else
    (j31_53 s5).map .inr
theorem s31_34_t (s5 : Bs) (i7 : Int) :
    stepE (K31_34 mm) (lp (E0 mm) 31 0 c31_35 L31_0 (en31_34 (s5, i7))) = (s31_34 s5 i7).map (sm en31_34 e31) := by
  unfold s31_34; exact go k31 (Q @j31_47_t @j31_53_t)
def l31_34 (s5 : Bs) (i7 : Int) : Option R31 := iter (fun x : (Bs × Int) => s31_34 x.1 x.2) (s5, i7)
theorem l31_34_t (s5 : Bs) (i7 : Int) : (K31_34 mm) (itW (lp (E0 mm) 31 0 c31_35 L31_0) (en31_34 (s5, i7))) = (l31_34 s5 i7).map e31 :=
  it_sim (K := (K31_34 mm)) rfl (enc := en31_34) (fun x => s31_34_t x.1 x.2) (s5, i7)
def j31_25 (s5 : Bs) (at6 : Int) (t48 : Bool) : Option R31 :=
  if t48 = true then
    some (([] : Bs), false)
  else
    l31_34 s5 (w64 (at6 + 1))
theorem j31_25_t (s5 : Bs) (at6 : Int) (t48 : Bool) (g0 : Ob) (sl : Sl) (_ : sl 5 = vd (dS s5)) (_ : sl 6 = vd (dI at6)) (_ : sl 48 = vd (dB t48)) :
    b31 mm (sq (E0 mm) 31 0 c31_30 (dn (E0 mm) 31 0 c31_25 sl [g0])) = (j31_25 s5 at6 t48).map e31 := by
  unfold j31_25; exact go (Q (nE c31_25 (.cond _ (.seq c31_27 .ret) .skip)) k31) @l31_34_t
def j31_22 (s5 : Bs) (at6 : Int) : Option R31 :=
  if (decide ((s5.length : Int) < (w64 (at6 + 2)))) = true then
    j31_25 s5 at6 true
  else
    if 0 ≤ at6 ∧ at6 < (s5.length : Int) then
      if ((s5.getD at6.toNat 0) == (34 : UInt8)) = true then
        if 0 ≤ (w64 ((s5.length : Int) - 1)) ∧ (w64 ((s5.length : Int) - 1)) < (s5.length : Int) then
          j31_25 s5 at6 (!((s5.getD (w64 ((s5.length : Int) - 1)).toNat 0) == (34 : UInt8)))
        else none
      else
        j31_25 s5 at6 true
    else none
theorem j31_22_t (s5 : Bs) (at6 : Int) (g0 : Ob) (sl : Sl) (_ : sl 5 = vd (dS s5)) (_ : sl 6 = vd (dI at6)) :
    b31 mm (dn (E0 mm) 31 0 c31_22 sl [g0]) = (j31_22 s5 at6).map e31 := by
  unfold j31_22; exact go (Q (nE c31_22 (.seq (.seq c31_24 c31_25) c31_30)) k31) @j31_25_t
def j31_19 (s5 : Bs) (at6 : Int) (t29 : Bool) : Option R31 :=
  if t29 = true then
    j31_22 s5 (2 : Int)
  else
    j31_22 s5 at6
theorem j31_19_t (s5 : Bs) (at6 : Int) (t29 : Bool) (g0 : Ob) (sl : Sl) (_ : sl 5 = vd (dS s5)) (_ : sl 6 = vd (dI at6)) (_ : sl 29 = vd (dB t29)) :
    b31 mm (sq (E0 mm) 31 0 c31_22 (dn (E0 mm) 31 0 c31_19 sl [g0])) = (j31_19 s5 at6 t29).map e31 := by
  unfold j31_19; exact go (Q (nE c31_19 (.cond _ c31_20 .skip)) k31) @j31_22_t
def m31 (l_0 : Bool) (l_1 : List (Bs × Bs)) : Option R31 :=
  (m74 l_0 l_1 ([101, 116, 97, 103] : Bs)).bind fun yr2 =>
    if ((yr2.2.length : Int) == 1) = true then
      if (0 : Int) < (yr2.2.length : Int) then
        if (decide (2 ≤ ((yr2.2.getD 0 default).length : Int))) = true then
          if (0 : Int) < ((yr2.2.getD 0 default).length : Int) then
            if (((yr2.2.getD 0 default).getD 0 0) == (87 : UInt8)) = true then
              if (1 : Int) < ((yr2.2.getD 0 default).length : Int) then
                j31_19 (yr2.2.getD 0 default) (0 : Int) (((yr2.2.getD 0 default).getD 1 0) == (47 : UInt8))
              else none
            else
              j31_19 (yr2.2.getD 0 default) (0 : Int) false
          else none
        else
          j31_19 (yr2.2.getD 0 default) (0 : Int) false
      else none
    else
      some (([] : Bs), false)
theorem f31_t (l_0 : Bool) (l_1 : List (Bs × Bs)) :
    callW (E0 mm) 31 [cd (.lst l_0 (enL enSS l_1))] [] = (m31 l_0 l_1).map e31 := by
  rw [cR c31_0 [.tmp 2, .tmp 3] Tryz.func31]
  unfold m31; exact go k31 @j31_19_t
noncomputable def c123_0 : Code := bodyOf Tryz.f123
def c123_1 := cA c123_0
def c123_4 := cA (cA (cB c123_0))
def c123_6 := cA (cB (cA (cB c123_0)))
def c123_7 := cA c123_6
def c123_8 := cA c123_7
def c123_16 := cA (cA (cA (cB (cB c123_7))))
def c123_18 := cA (cB (cA (cA (cB (cB c123_7)))))
def c123_21 := cA (cA (cB (cB (cA (cA (cB (cB c123_7)))))))
def c123_24 := cB (cB (cB c123_7))
def c123_25 := cB (cB c123_0)
def c123_26 := cA c123_25
noncomputable def c79_0 : Code := bodyOf Tryz.f79
def c79_1 := cA c79_0
def c79_3 := cA (cB c79_0)
noncomputable def c113_0 : Code := bodyOf Tryz.f113
def c113_1 := cA c113_0
def c113_3 := cA (cB c113_0)
abbrev R113 := (Bs)
def e113 (x : R113) : AV × Heap := (vd (dS x), [])
def m113 (s : Bs) : Option R113 :=
  (mTrim s ([32, 9] : Bs)).bind fun yr2 =>
    some yr2
def k113 := Q (rx c113_1) (Q (rx c113_3) (Q @ent142 (Q @prm142 (Q @pTrim_t (Q (nE c113_0 (.seq c113_1 (.seq c113_3 .ret))) hA)))))
theorem f113_t (s : Bs) :
    callW (E0 mm) 113 [cd (dS s)] [] = (m113 s).map e113 := by
  rw [cR c113_0 [.tmp 2] Tryz.func113]
  unfold m113; exact go k113 trivial
noncomputable def c112_0 : Code := bodyOf Tryz.f112
def c112_2 := cA (cA c112_0)
def c112_4 := cA (cB (cA c112_0))
def c112_6 := cA (cB (cB (cA c112_0)))
def c112_8 := cB c112_0
abbrev R112 := (Bs × Int × Bool × List Bs)
def e112 (x : R112) : AV × Heap := (.tup [], [.cells [.d (dS x.1)], .cells [.d (dI x.2.1)], .cells [.own x.2.2.1 (enL enS x.2.2.2) 3], .row x.2.2.2.length (rz x.2.2.1 1)])
def j112_8 (to0 : Int) (h0_0 : Bs) (h1_0 : Int) (h2_0_0 : Bool) (h2_0_1 : List Bs) : Option R112 :=
  some (h0_0, (w64 (to0 + 1)), h2_0_0, h2_0_1)
def k112 := Q @slots4 (Q (rx c112_2) (Q @ent113 (Q @prm113 (Q @f113_t (Q @e113.eq_1 (Q (rx c112_4) (Q (rx c112_6) (Q @hd40 (Q @nv41 (Q @rw42 (Q (nE c112_0 (.seq (.seq c112_2 (.seq c112_4 (.cond _ c112_6 .skip))) c112_8)) hA)))))))))))
theorem j112_8_t (to0 : Int) (h0_0 : Bs) (h1_0 : Int) (h2_0_0 : Bool) (h2_0_1 : List Bs)  (sl : Sl) (_ : sl 0 = vd (dI to0)) (_ : sl 2 = .v (.c (.ptr 1 0))) :
    bodyD (E0 mm) [] 4 false (dn (E0 mm) 112 4 c112_8 sl [.cells [.d (dS h0_0)], .cells [.d (dI h1_0)], .cells [.own h2_0_0 (enL enS h2_0_1) 3], .row h2_0_1.length (rz h2_0_0 1)]) = (j112_8 to0 h0_0 h1_0 h2_0_0 h2_0_1).map e112 := by
  unfold j112_8; exact go (Q (rx c112_8) k112) trivial
def m112 (to : Int) (h0_0 : Bs) (h1_0 : Int) (h2_0_0 : Bool) (h2_0_1 : List Bs) : Option R112 :=
  (bnd to h0_0.length).bind fun yk2 =>
    (bnd h1_0 yk2).bind fun yk4 =>
      (m113 ((h0_0.take yk2).drop yk4)).bind fun yr6 =>
        if (yr6 == ([] : Bs)) = true then
          j112_8 to h0_0 h1_0 h2_0_0 h2_0_1
        else
          if (h2_0_1.length + 1) * 16 ≤ 140737488355328 then
            j112_8 to h0_0 h1_0 false (h2_0_1 ++ ([yr6] : List Bs))
          else none
theorem f112_t (to : Int) (h0_0 : Bs) (h1_0 : Int) (h2_0_0 : Bool) (h2_0_1 : List Bs) :
    callW (E0 mm) 112 [cd (dI to), .c (.ptr 0 0), .c (.ptr 1 0), .c (.ptr 2 0)] [.cells [.d (dS h0_0)], .cells [.d (dI h1_0)], .cells [.own h2_0_0 (enL enS h2_0_1) 3], .row h2_0_1.length (rz h2_0_0 1)] = (m112 to h0_0 h1_0 h2_0_0 h2_0_1).map e112 := by
  rw [cR c112_0 [] Tryz.func112]
  unfold m112; exact go k112 @j112_8_t
noncomputable def c68_0 : Code := bodyOf Tryz.f68
def c68_1 := cA c68_0
def c68_3 := cA (cB c68_0)
def c68_5 := cA (cB (cB c68_0))
def c68_7 := cA (cB (cB (cB c68_0)))
def c68_10 := cA (cA (cB (cB (cB (cB c68_0)))))
def c68_12 := cA (cB (cA (cB (cB (cB (cB c68_0))))))
def c68_13 := cA c68_12
def c68_14 := cA c68_13
def c68_21 := cA (cA (cB (cB c68_13)))
def c68_24 := cA (cA (cB (cA (cB (cB c68_13)))))
def c68_26 := cA (cB (cA (cB (cA (cB (cB c68_13))))))
def c68_28 := cA (cB (cB (cA (cB (cA (cB (cB c68_13)))))))
def c68_29 := cB (cB (cB (cA (cB (cA (cB (cB c68_13)))))))
def c68_30 := cA c68_29
def c68_32 := cA (cB c68_29)
def c68_34 := cA (cB (cB c68_29))
def c68_36 := cA (cB (cB (cB c68_29)))
def c68_37 := cB (cB (cB (cB c68_29)))
def c68_38 := cA c68_37
def c68_40 := cB (cB (cB (cB (cB c68_0))))
def c68_41 := cA c68_40
def c68_43 := cA (cB c68_40)
def L68_0 : List (Nat × Co) := [(1, .keep), (3, .keep), (5, .keep), (6, .keep), (7, .keep), (12, .keep)]
abbrev R68 := (Bool × List Bs)
def e68 (x : R68) : AV × Heap := (.v (.c (.own x.1 (enL enS x.2) 0)), [.row x.2.length (rz x.1 1)])
def j68_37 (quoted5 masked6 : Bool) (i8 : Int) (t30 : Bool) (h0_0 : Bs) (h1_0_0 : Bool) (h1_0_1 : List Bs) (h3_0 : Int) (s4 : Bs) (p4 : Nat) : Option ((Bool × Bool × Bs × Bool × List Bs × Int × Bs × Nat) ⊕ R68) :=
  if t30 = true then
    (m112 i8 h0_0 h3_0 h1_0_0 h1_0_1).bind fun yr10 =>
      some (.inl (quoted5, masked6, yr10.1, yr10.2.2.1, yr10.2.2.2, yr10.2.1, s4, p4))
  else
    some (.inl (quoted5, masked6, h0_0, h1_0_0, h1_0_1, h3_0, s4, p4))
def K68_12 (mm : Int) (r : Option (Ex × St)) : Option (AV × Heap) := bodyD (E0 mm) [.tmp 2] 0 false (sq (E0 mm) 68 0 c68_40 (blockD 0 (r)))
def en68_12 (x : (Bool × Bool × Bs × Bool × List Bs × Int × Bs × Nat)) : X := (none, [.v (.c (.ptr 0 0)), .v (.c (.ptr 1 0)), vd (dB x.1), vd (dB x.2.1), .v (.c (.fn 112 [(0, 0), (3, 0), (1, 0)])), .v (.c (.it 4))], [.cells [.d (dS x.2.2.1)], .cells [.own x.2.2.2.1 (enL enS x.2.2.2.2.1) 2], .row x.2.2.2.2.1.length (rz x.2.2.2.1 1), .cells [.d (dI x.2.2.2.2.2.1)], .siter (S x.2.2.2.2.2.2.1) x.2.2.2.2.2.2.2])
def k68 := Q (show List.range 5 = [0, 1, 2, 3, 4] from rfl) (Q (rx c68_38) (Q @ent112 (Q @prm112 (Q @f112_t (Q @e112.eq_1 (Q (rx c68_30) (Q (rx c68_32) (Q (rx c68_34) (Q (rx c68_36) (Q (rx c68_41) (Q (rx c68_43) (Q (rx c68_14) (Q @dec_eq (Q (rx c68_21) (Q (rx c68_24) (Q (rx c68_26) (Q (rx c68_28) (Q @K68_12.eq_1 (Q (rx c68_1) (Q (rx c68_3) (Q @zc45 (Q @ao38 (Q (rx c68_5) (Q @ao39 (Q (rx c68_7) (Q (rx c68_10) (Q (fun mm => lx (E0 mm) 68 c68_12 c68_13 L68_0) (Q (nE c68_0 (.seq c68_1 (.seq c68_3 (.seq c68_5 (.seq c68_7 (.seq (.seq c68_10 (.block 0 c68_12)) c68_40)))))) (Q (nE c68_13 (.seq c68_14 (.seq (.cond _ .skip (.exit 0)) (.block 1 (.seq c68_21 (.block 2 (.seq c68_24 (.cond _ c68_26 (.seq c68_28 c68_29))))))))) (Q @en68_12.eq_1 (Q @L68_0.eq_1 hA)))))))))))))))))))))))))))))))
theorem j68_37_t (quoted5 masked6 : Bool) (i8 : Int) (t30 : Bool) (h0_0 : Bs) (h1_0_0 : Bool) (h1_0_1 : List Bs) (h3_0 : Int) (s4 : Bs) (p4 : Nat)  (sl : Sl) (_ : sl 1 = .v (.c (.ptr 0 0))) (_ : sl 3 = .v (.c (.ptr 1 0))) (_ : sl 5 = vd (dB quoted5)) (_ : sl 6 = vd (dB masked6)) (_ : sl 7 = .v (.c (.fn 112 [(0, 0), (3, 0), (1, 0)]))) (_ : sl 8 = vd (dI i8)) (_ : sl 12 = .v (.c (.it 4))) (_ : sl 30 = vd (dB t30)) :
    stepE (K68_12 mm) (loopK 0 L68_0 (blockD 1 (blockD 2 (dn (E0 mm) 68 0 c68_37 sl [.cells [.d (dS h0_0)], .cells [.own h1_0_0 (enL enS h1_0_1) 2], .row h1_0_1.length (rz h1_0_0 1), .cells [.d (dI h3_0)], .siter (S s4) p4])))) = (j68_37 quoted5 masked6 i8 t30 h0_0 h1_0_0 h1_0_1 h3_0 s4 p4).map (sm en68_12 e68) := by
  unfold j68_37; exact go (Q (nE c68_37 (.cond _ c68_38 .skip)) k68) trivial
def j68_29 (quoted5 masked6 : Bool) (i8 r9 : Int) (t19 : Bool) (h0_0 : Bs) (h1_0_0 : Bool) (h1_0_1 : List Bs) (h3_0 : Int) (s4 : Bs) (p4 : Nat) : Option ((Bool × Bool × Bs × Bool × List Bs × Int × Bs × Nat) ⊕ R68) :=
  if t19 = true then
    some (.inl (quoted5, true, h0_0, h1_0_0, h1_0_1, h3_0, s4, p4))
  else
    if (r9 == 34) = true then
      some (.inl ((!quoted5), masked6, h0_0, h1_0_0, h1_0_1, h3_0, s4, p4))
    else
      if (r9 == 44) = true then
        j68_37 quoted5 masked6 i8 (!quoted5) h0_0 h1_0_0 h1_0_1 h3_0 s4 p4
      else
        j68_37 quoted5 masked6 i8 false h0_0 h1_0_0 h1_0_1 h3_0 s4 p4
theorem j68_29_t (quoted5 masked6 : Bool) (i8 r9 : Int) (t19 : Bool) (h0_0 : Bs) (h1_0_0 : Bool) (h1_0_1 : List Bs) (h3_0 : Int) (s4 : Bs) (p4 : Nat)  (sl : Sl) (_ : sl 1 = .v (.c (.ptr 0 0))) (_ : sl 3 = .v (.c (.ptr 1 0))) (_ : sl 5 = vd (dB quoted5)) (_ : sl 6 = vd (dB masked6)) (_ : sl 7 = .v (.c (.fn 112 [(0, 0), (3, 0), (1, 0)]))) (_ : sl 8 = vd (dI i8)) (_ : sl 9 = vd (.sc (.int .i32 r9))) (_ : sl 12 = .v (.c (.it 4))) (_ : sl 19 = vd (dB t19)) :
    stepE (K68_12 mm) (loopK 0 L68_0 (blockD 1 (blockD 2 (dn (E0 mm) 68 0 c68_29 sl [.cells [.d (dS h0_0)], .cells [.own h1_0_0 (enL enS h1_0_1) 2], .row h1_0_1.length (rz h1_0_0 1), .cells [.d (dI h3_0)], .siter (S s4) p4])))) = (j68_29 quoted5 masked6 i8 r9 t19 h0_0 h1_0_0 h1_0_1 h3_0 s4 p4).map (sm en68_12 e68) := by
  unfold j68_29; exact go (Q (nE c68_29 (.cond _ c68_30 (.seq c68_32 (.cond _ c68_34 (.seq c68_36 c68_37))))) k68) @j68_37_t
def j68_40 (h0_0 : Bs) (h1_0_0 : Bool) (h1_0_1 : List Bs) (h3_0 : Int) : Option R68 :=
  (m112 (h0_0.length : Int) h0_0 h3_0 h1_0_0 h1_0_1).bind fun yr12 =>
    some (yr12.2.2.1, yr12.2.2.2)
theorem j68_40_t (h0_0 : Bs) (h1_0_0 : Bool) (h1_0_1 : List Bs) (h3_0 : Int) (g4 : Ob) (sl : Sl) (_ : sl 1 = .v (.c (.ptr 0 0))) (_ : sl 3 = .v (.c (.ptr 1 0))) (_ : sl 7 = .v (.c (.fn 112 [(0, 0), (3, 0), (1, 0)]))) :
    bodyD (E0 mm) [.tmp 2] 0 false (dn (E0 mm) 68 0 c68_40 sl [.cells [.d (dS h0_0)], .cells [.own h1_0_0 (enL enS h1_0_1) 2], .row h1_0_1.length (rz h1_0_0 1), .cells [.d (dI h3_0)], g4]) = (j68_40 h0_0 h1_0_0 h1_0_1 h3_0).map e68 := by
  unfold j68_40; exact go (Q (nE c68_40 (.seq c68_41 (.seq c68_43 .ret))) k68) trivial
def s68_12 (quoted5 masked6 : Bool) (h0_0 : Bs) (h1_0_0 : Bool) (h1_0_1 : List Bs) (h3_0 : Int) (s4 : Bs) (p4 : Nat) : Option ((Bool × Bool × Bs × Bool × List Bs × Int × Bs × Nat) ⊕ R68) :=
  if (decide (p4 < s4.length)) = true then
    if masked6 = true then
      some (.inl (quoted5, false, h0_0, h1_0_0, h1_0_1, h3_0, s4, (p4 + uw s4 p4)))
    else
      if quoted5 = true then
        j68_29 true false (p4 : Int) (uc s4 p4 : Int) ((uc s4 p4 : Int) == 92) h0_0 h1_0_0 h1_0_1 h3_0 s4 (p4 + uw s4 p4)
      else
        j68_29 false false (p4 : Int) (uc s4 p4 : Int) false h0_0 h1_0_0 h1_0_1 h3_0 s4 (p4 + uw s4 p4)
  else
    (j68_40 h0_0 h1_0_0 h1_0_1 h3_0).map .inr
theorem s68_12_t (quoted5 masked6 : Bool) (h0_0 : Bs) (h1_0_0 : Bool) (h1_0_1 : List Bs) (h3_0 : Int) (s4 : Bs) (p4 : Nat) :
    stepE (K68_12 mm) (lp (E0 mm) 68 0 c68_13 L68_0 (en68_12 (quoted5, masked6, h0_0, h1_0_0, h1_0_1, h3_0, s4, p4))) = (s68_12 quoted5 masked6 h0_0 h1_0_0 h1_0_1 h3_0 s4 p4).map (sm en68_12 e68) := by
  unfold s68_12; exact go k68 (Q @j68_29_t @j68_40_t)
def l68_12 (quoted5 masked6 : Bool) (h0_0 : Bs) (h1_0_0 : Bool) (h1_0_1 : List Bs) (h3_0 : Int) (s4 : Bs) (p4 : Nat) : Option R68 := iter (fun x : (Bool × Bool × Bs × Bool × List Bs × Int × Bs × Nat) => s68_12 x.1 x.2.1 x.2.2.1 x.2.2.2.1 x.2.2.2.2.1 x.2.2.2.2.2.1 x.2.2.2.2.2.2.1 x.2.2.2.2.2.2.2) (quoted5, masked6, h0_0, h1_0_0, h1_0_1, h3_0, s4, p4)
theorem l68_12_t (quoted5 masked6 : Bool) (h0_0 : Bs) (h1_0_0 : Bool) (h1_0_1 : List Bs) (h3_0 : Int) (s4 : Bs) (p4 : Nat) : (K68_12 mm) (itW (lp (E0 mm) 68 0 c68_13 L68_0) (en68_12 (quoted5, masked6, h0_0, h1_0_0, h1_0_1, h3_0, s4, p4))) = (l68_12 quoted5 masked6 h0_0 h1_0_0 h1_0_1 h3_0 s4 p4).map e68 :=
  it_sim (K := (K68_12 mm)) rfl (enc := en68_12) (fun x => s68_12_t x.1 x.2.1 x.2.2.1 x.2.2.2.1 x.2.2.2.2.1 x.2.2.2.2.2.1 x.2.2.2.2.2.2.1 x.2.2.2.2.2.2.2) (quoted5, masked6, h0_0, h1_0_0, h1_0_1, h3_0, s4, p4)
def m68 (s : Bs) : Option R68 :=
  l68_12 false false s true ([] : List Bs) (0 : Int) s 0
theorem f68_t (s : Bs) :
    callW (E0 mm) 68 [cd (dS s)] [] = (m68 s).map e68 := by
  rw [cR c68_0 [.tmp 2] Tryz.func68]
  unfold m68; exact go k68 @l68_12_t
noncomputable def c26_0 : Code := bodyOf Tryz.f26
def c26_1 := cA c26_0
def c26_3 := cA (cB c26_0)
def c26_6 := cA (cA (cB (cB c26_0)))
def c26_8 := cA (cB (cA (cB (cB c26_0))))
def c26_9 := cA c26_8
def c26_10 := cA c26_9
def c26_18 := cA (cA (cA (cB (cB c26_9))))
def c26_19 := cB (cA (cA (cB (cB c26_9))))
def c26_20 := cB (cB (cB c26_9))
def c26_21 := cB (cB (cB c26_0))
def c26_22 := cA c26_21
def L26_0 : List (Nat × Co) := [(5, .own), (10, .keep), (11, .keep), (12, .keep)]
abbrev R26 := (Bool × List Bs)
def e26 (x : R26) : AV × Heap := (.v (.c (.own x.1 (enL enS x.2) 0)), [.row x.2.length (rz x.1 1)])
def j26_21 (out5_0 : Bool) (out5_1 : List Bs) : Option R26 :=
  some (out5_0, out5_1)
def K26_8 (mm : Int) (r : Option (Ex × St)) : Option (AV × Heap) := bodyD (E0 mm) [.tmp 4] 0 false (sq (E0 mm) 26 0 c26_21 (blockD 0 (r)))
def en26_8 (x : (Bool × List Bs × Bool × List Bs × Int × Int)) : X := (none, [.v (.c (.own x.1 (enL enS x.2.1) 0)), .v (.c (.own x.2.2.1 (enL enS x.2.2.2.1) 1)), vd (dI x.2.2.2.2.1), vd (dI x.2.2.2.2.2)], [.row x.2.1.length (rz x.1 1), .row x.2.2.2.1.length (rz x.2.2.1 1)])
def k26 := Q (rx c26_22) (Q (rx c26_10) (Q (rx c26_18) (Q (rx c26_19) (Q @ent68 (Q @prm68 (Q @f68_t (Q @e68.eq_1 (Q @hd43 (Q (rx c26_20) (Q @K26_8.eq_1 (Q (rx c26_1) (Q (rx c26_3) (Q (rx c26_6) (Q @f29_t (Q @e29.eq_1 (Q (fun mm => lx (E0 mm) 26 c26_8 c26_9 L26_0) (Q (nE c26_0 (.seq c26_1 (.seq c26_3 (.seq (.seq c26_6 (.block 0 c26_8)) c26_21)))) (Q (nE c26_9 (.seq c26_10 (.seq (.cond _ .skip (.exit 0)) (.seq (.block 1 (.seq c26_18 c26_19)) c26_20)))) (Q @en26_8.eq_1 (Q @L26_0.eq_1 hA))))))))))))))))))))
theorem j26_21_t (out5_0 : Bool) (out5_1 : List Bs) (g1 : Ob) (sl : Sl) (_ : sl 5 = .v (.c (.own out5_0 (enL enS out5_1) 0))) :
    bodyD (E0 mm) [.tmp 4] 0 false (dn (E0 mm) 26 0 c26_21 sl [.row out5_1.length (rz out5_0 1), g1]) = (j26_21 out5_0 out5_1).map e26 := by
  unfold j26_21; exact go (Q (nE c26_21 (.seq c26_22 .ret)) k26) trivial
def s26_8 (out5_0 : Bool) (out5_1 : List Bs) (t10_0 : Bool) (t10_1 : List Bs) (t11 t12 : Int) : Option ((Bool × List Bs × Bool × List Bs × Int × Int) ⊕ R26) :=
  if (decide (t12 < t11)) = true then
    if 0 ≤ t12 ∧ t12 < (t10_1.length : Int) then
      (m68 (t10_1.getD t12.toNat default)).bind fun yr7 =>
        if yr7.2 = [] ∨ (out5_1.length + yr7.2.length) * 16 ≤ 140737488355328 then
          some (.inl ((out5_0 && yr7.2.isEmpty), (out5_1 ++ yr7.2), t10_0, t10_1, t11, (w64 (t12 + 1))))
        else none
    else none
  else
    (j26_21 out5_0 out5_1).map .inr
theorem s26_8_t (out5_0 : Bool) (out5_1 : List Bs) (t10_0 : Bool) (t10_1 : List Bs) (t11 t12 : Int) :
    stepE (K26_8 mm) (lp (E0 mm) 26 0 c26_9 L26_0 (en26_8 (out5_0, out5_1, t10_0, t10_1, t11, t12))) = (s26_8 out5_0 out5_1 t10_0 t10_1 t11 t12).map (sm en26_8 e26) := by
  unfold s26_8; exact go k26 @j26_21_t
def l26_8 (out5_0 : Bool) (out5_1 : List Bs) (t10_0 : Bool) (t10_1 : List Bs) (t11 t12 : Int) : Option R26 := iter (fun x : (Bool × List Bs × Bool × List Bs × Int × Int) => s26_8 x.1 x.2.1 x.2.2.1 x.2.2.2.1 x.2.2.2.2.1 x.2.2.2.2.2) (out5_0, out5_1, t10_0, t10_1, t11, t12)
theorem l26_8_t (out5_0 : Bool) (out5_1 : List Bs) (t10_0 : Bool) (t10_1 : List Bs) (t11 t12 : Int) : (K26_8 mm) (itW (lp (E0 mm) 26 0 c26_9 L26_0) (en26_8 (out5_0, out5_1, t10_0, t10_1, t11, t12))) = (l26_8 out5_0 out5_1 t10_0 t10_1 t11 t12).map e26 :=
  it_sim (K := (K26_8 mm)) rfl (enc := en26_8) (fun x => s26_8_t x.1 x.2.1 x.2.2.1 x.2.2.2.1 x.2.2.2.2.1 x.2.2.2.2.2) (out5_0, out5_1, t10_0, t10_1, t11, t12)
def m26 (l_0 : Bool) (l_1 : List (Bs × Bs)) (name : Bs) : Option R26 :=
  (m29 l_0 l_1 name).bind fun yr2 =>
    l26_8 true ([] : List Bs) yr2.1 yr2.2 (yr2.2.length : Int) (0 : Int)
theorem f26_t (l_0 : Bool) (l_1 : List (Bs × Bs)) (name : Bs) :
    callW (E0 mm) 26 [cd (.lst l_0 (enL enSS l_1)), cd (dS name)] [] = (m26 l_0 l_1 name).map e26 := by
  rw [cR c26_0 [.tmp 4] Tryz.func26]
  unfold m26; exact go k26 @l26_8_t
noncomputable def c154_0 : Code := bodyOf Tryz.f154
def c154_1 := cA c154_0
def c154_4 := cA (cA (cB c154_0))
def c154_6 := cA (cB (cA (cB c154_0)))
def c154_9 := cA (cA (cB (cB (cA (cB c154_0)))))
def c154_13 := cA (cB (cB c154_0))
abbrev R154 := (Bs × Bs × Bool)
def e154 (x : R154) : AV × Heap := (.tup [cd (dS x.1), cd (dS x.2.1), cd (dB x.2.2)], [])
def m154 (s sep : Bs) : Option R154 :=
  (mIx s sep).bind fun yr2 =>
    if (decide (0 ≤ yr2)) = true then
      (bnd yr2 s.length).bind fun yk5 =>
        (bnd (w64 (yr2 + (sep.length : Int))) s.length).bind fun yk7 =>
          some ((s.take yk5), (s.drop yk7), true)
    else
      some (s, ([] : Bs), false)
def k154 := Q (rx c154_1) (Q (rx c154_4) (Q @pIndex_t (Q (rx c154_6) (Q (fun mm => ry (E0 mm) c154_9) (Q (rx c154_13) (Q (nE c154_0 (.seq c154_1 (.seq (.seq c154_4 (.seq c154_6 (.cond _ (.seq c154_9 .ret) .skip))) (.seq c154_13 .ret)))) hA))))))
theorem f154_t (s sep : Bs) :
    callW (E0 mm) 154 [cd (dS s), cd (dS sep)] [] = (m154 s sep).map e154 := by
  rw [cR c154_0 [.tmp 4, .tmp 5, .tmp 6] Tryz.func154]
  unfold m154; exact go k154 trivial
noncomputable def c140_0 : Code := bodyOf Tryz.f140
def c140_1 := cA c140_0
def c140_3 := cA (cB c140_0)
abbrev R140 := (Bs × Bs × Bool)
def e140 (x : R140) : AV × Heap := (.tup [cd (dS x.1), cd (dS x.2.1), cd (dB x.2.2)], [])
def m140 (s sep : Bs) : Option R140 :=
  (m154 s sep).bind fun yr2 =>
    some (yr2.1, yr2.2.1, yr2.2.2)
def k140 := Q (rx c140_1) (Q (rx c140_3) (Q @ent154 (Q @prm154 (Q @f154_t (Q @e154.eq_1 (Q (nE c140_0 (.seq c140_1 (.seq c140_3 .ret))) hA))))))
theorem f140_t (s sep : Bs) :
    callW (E0 mm) 140 [cd (dS s), cd (dS sep)] [] = (m140 s sep).map e140 := by
  rw [cR c140_0 [.tmp 4, .tmp 5, .tmp 6] Tryz.func140]
  unfold m140; exact go k140 trivial
noncomputable def c144_0 : Code := bodyOf Tryz.f144
def c144_1 := cA c144_0
def c144_3 := cA (cB c144_0)
abbrev R144 := (Int)
def e144 (x : R144) : AV × Heap := (vd (dI x), [])
def m144 (s : Bs) (c : UInt8) : Option R144 :=
  some (Lib.indexByte s c)
def k144 := Q (rx c144_1) (Q (rx c144_3) (Q @entf163 (Q @exf163 (Q @ext163_t (Q (nE c144_0 (.seq c144_1 (.seq c144_3 .ret))) hA)))))
theorem f144_t (s : Bs) (c : UInt8) :
    callW (E0 mm) 144 [cd (dS s), cd (.sc (.int .u8 ((c).toNat : Int)))] [] = (m144 s c).map e144 := by
  rw [cR c144_0 [.tmp 4] Tryz.func144]
  unfold m144; exact go k144 trivial
noncomputable def c116_0 : Code := bodyOf Tryz.f116
def c116_1 := cA c116_0
def c116_3 := cA (cB c116_0)
abbrev R116 := (Int)
def e116 (x : R116) : AV × Heap := (vd (dI x), [])
def m116 (s : Bs) (c : UInt8) : Option R116 :=
  (m144 s c).bind fun yr2 =>
    some yr2
def k116 := Q (rx c116_1) (Q (rx c116_3) (Q @ent144 (Q @prm144 (Q @f144_t (Q @e144.eq_1 (Q (nE c116_0 (.seq c116_1 (.seq c116_3 .ret))) hA))))))
theorem f116_t (s : Bs) (c : UInt8) :
    callW (E0 mm) 116 [cd (dS s), cd (.sc (.int .u8 ((c).toNat : Int)))] [] = (m116 s c).map e116 := by
  rw [cR c116_0 [.tmp 4] Tryz.func116]
  unfold m116; exact go k116 trivial
noncomputable def c115_0 : Code := bodyOf Tryz.f115
def c115_1 := cA c115_0
def c115_3 := cA (cB c115_0)
def c115_5 := cA (cB (cB c115_0))
abbrev R115 := (Bool)
def e115 (x : R115) : AV × Heap := (vd (dB x), [])
def m115 (c : UInt8) : Option R115 :=
  if (decide ((97 : UInt8) ≤ (c ||| (32 : UInt8)))) = true then
    if (decide ((c ||| (32 : UInt8)) ≤ (122 : UInt8))) = true then
      some true
    else
      if (decide ((48 : UInt8) ≤ c)) = true then
        if (decide (c ≤ (57 : UInt8))) = true then
          some true
        else
          (m116 ([33, 35, 36, 37, 38, 39, 42, 43, 45, 46, 94, 95, 96, 124, 126] : Bs) c).bind fun yr6 =>
            some (decide (0 ≤ yr6))
      else
        (m116 ([33, 35, 36, 37, 38, 39, 42, 43, 45, 46, 94, 95, 96, 124, 126] : Bs) c).bind fun yr8 =>
          some (decide (0 ≤ yr8))
  else
    if (decide ((48 : UInt8) ≤ c)) = true then
      if (decide (c ≤ (57 : UInt8))) = true then
        some true
      else
        (m116 ([33, 35, 36, 37, 38, 39, 42, 43, 45, 46, 94, 95, 96, 124, 126] : Bs) c).bind fun yr12 =>
          some (decide (0 ≤ yr12))
    else
      (m116 ([33, 35, 36, 37, 38, 39, 42, 43, 45, 46, 94, 95, 96, 124, 126] : Bs) c).bind fun yr14 =>
        some (decide (0 ≤ yr14))
def k115 := Q (rx c115_1) (Q (rx c115_3) (Q (rx c115_5) (Q @ent116 (Q @prm116 (Q (fun (mm : Int) (c : UInt8) => (show callW (E0 mm) 116 [cd (dS ([33, 35, 36, 37, 38, 39, 42, 43, 45, 46, 94, 95, 96, 124, 126] : Bs)), cd (.sc (.int .u8 ((c).toNat : Int)))] [] = _ from f116_t ([33, 35, 36, 37, 38, 39, 42, 43, 45, 46, 94, 95, 96, 124, 126] : Bs) c)) (Q @f116_t (Q @e116.eq_1 (Q (nE c115_0 (.seq c115_1 (.seq c115_3 (.seq c115_5 .ret)))) hA))))))))
theorem f115_t (c : UInt8) :
    callW (E0 mm) 115 [cd (.sc (.int .u8 ((c).toNat : Int)))] [] = (m115 c).map e115 := by
  rw [cR c115_0 [.tmp 2] Tryz.func115]
  unfold m115; exact go k115 trivial
noncomputable def c143_0 : Code := bodyOf Tryz.f143
def c143_1 := cA c143_0
def c143_3 := cA (cB c143_0)
abbrev R143 := (Bool)
def e143 (x : R143) : AV × Heap := (vd (dB x), [.cells [.d (.sc (.func (.func 115) #[] #[]))]])
def m143 (c : UInt8) : Option R143 :=
  (m115 c).bind fun yr2 =>
    some (!yr2)
def k143 := Q (rx c143_1) (Q (rx c143_3) (Q @sz115 (Q @ag115 (Q @ent115 (Q @prm115 (Q @f115_t (Q @e115.eq_1 (Q (nE c143_0 (.seq c143_1 (.seq c143_3 .ret))) hA))))))))
theorem f143_t (c : UInt8) :
    callW (E0 mm) 143 [cd (.sc (.int .u8 ((c).toNat : Int))), .c (.ptr 0 0)] [.cells [.d (.sc (.func (.func 115) #[] #[]))]] = (m143 c).map e143 := by
  rw [cR c143_0 [.tmp 3] Tryz.func143]
  unfold m143; exact go k143 trivial
abbrev R147a := (Int)
def L147a_0 : List (Nat × Co) := [(0, .keep), (1, .keep), (7, .keep), (8, .keep)]
def e147a (x : R147a) : AV × Heap := (vd (dI x), [.cells [.d (.sc (.func (.func 115) #[] #[]))]])
def j147a_25  : Option R147a :=
  some (-1 : Int)
def K147a_6 (mm : Int) (r : Option (Ex × St)) : Option (AV × Heap) := bodyD (E0 mm) [.tmp 4] 1 false (sq (E0 mm) 147 1 c147_25 (blockD 0 (r)))
def en147a_6 (x : (Bool × List UInt8 × Int × Int)) : X := (none, [vd (.lst x.1 (enL enB x.2.1)), .v (.c (.fn 143 [(0, 0)])), vd (dI x.2.2.1), vd (dI x.2.2.2)], [.cells [.d (.sc (.func (.func 115) #[] #[]))]])
def k147a := Q (rx c147_26) (Q (rx c147_8) (Q (rx c147_16) (Q (rx c147_18) (Q @ent143 (Q @prm143 (Q @f143_t (Q @e143.eq_1 (Q (rx c147_21) (Q @K147a_6.eq_1 (Q (rx c147_24) (Q (rx c147_1) (Q (rx c147_4) (Q (fun mm => lx (E0 mm) 147 c147_6 c147_7 L147a_0) (Q (nE c147_0 (.seq c147_1 (.seq (.seq c147_4 (.block 0 c147_6)) c147_25))) (Q (nE c147_7 (.seq c147_8 (.seq (.cond _ .skip (.exit 0)) (.seq (.block 1 (.seq c147_16 (.seq c147_18 (.cond _ (.seq c147_21 .ret) .skip)))) c147_24)))) (Q @en147a_6.eq_1 (Q @L147a_0.eq_1 hA)))))))))))))))))
theorem j147a_25_t (sl : Sl)  :
    bodyD (E0 mm) [.tmp 4] 1 false (dn (E0 mm) 147 1 c147_25 sl [.cells [.d (.sc (.func (.func 115) #[] #[]))]]) = (j147a_25).map e147a := by
  unfold j147a_25; exact go (Q (nE c147_25 (.seq c147_26 .ret)) k147a) trivial
def s147a_6 (s0_0 : Bool) (s0_1 : List UInt8) (t7 t8 : Int) : Option ((Bool × List UInt8 × Int × Int) ⊕ R147a) :=
  if (decide (t8 < t7)) = true then
    if 0 ≤ t8 ∧ t8 < (s0_1.length : Int) then
      (m143 (s0_1.getD t8.toNat default)).bind fun yr5 =>
        if yr5 = true then
          some (.inr t8)
        else
          some (.inl (s0_0, s0_1, t7, (w64 (t8 + 1))))
    else none
  else
    (j147a_25).map .inr
theorem s147a_6_t (s0_0 : Bool) (s0_1 : List UInt8) (t7 t8 : Int) :
    stepE (K147a_6 mm) (lp (E0 mm) 147 1 c147_7 L147a_0 (en147a_6 (s0_0, s0_1, t7, t8))) = (s147a_6 s0_0 s0_1 t7 t8).map (sm en147a_6 e147a) := by
  unfold s147a_6; exact go k147a @j147a_25_t
def l147a_6 (s0_0 : Bool) (s0_1 : List UInt8) (t7 t8 : Int) : Option R147a := iter (fun x : (Bool × List UInt8 × Int × Int) => s147a_6 x.1 x.2.1 x.2.2.1 x.2.2.2) (s0_0, s0_1, t7, t8)
theorem l147a_6_t (s0_0 : Bool) (s0_1 : List UInt8) (t7 t8 : Int) : (K147a_6 mm) (itW (lp (E0 mm) 147 1 c147_7 L147a_0) (en147a_6 (s0_0, s0_1, t7, t8))) = (l147a_6 s0_0 s0_1 t7 t8).map e147a :=
  it_sim (K := (K147a_6 mm)) rfl (enc := en147a_6) (fun x => s147a_6_t x.1 x.2.1 x.2.2.1 x.2.2.2) (s0_0, s0_1, t7, t8)
def m147a (s_0 : Bool) (s_1 : List UInt8) : Option R147a :=
  l147a_6 s_0 s_1 (s_1.length : Int) (0 : Int)
theorem f147a_t (s_0 : Bool) (s_1 : List UInt8) :
    callW (E0 mm) 147 [cd (.lst s_0 (enL enB s_1)), .c (.fn 143 [(0, 0)])] [.cells [.d (.sc (.func (.func 115) #[] #[]))]] = (m147a s_0 s_1).map e147a := by
  rw [cR c147_0 [.tmp 4] Tryz.func147]
  unfold m147a; exact go k147a @l147a_6_t
abbrev R120a := (Bool)
def e120a (x : R120a) : AV × Heap := (vd (dB x), [.cells [.d (.sc (.func (.func 115) #[] #[]))]])
def m120a (s_0 : Bool) (s_1 : List UInt8) : Option R120a :=
  (m147a s_0 s_1).bind fun yr2 =>
    some (decide (0 ≤ yr2))
def k120a := Q (rx c120_1) (Q (rx c120_3) (Q @f147a_t (Q @e147a.eq_1 (Q (nE c120_0 (.seq c120_1 (.seq c120_3 .ret))) hA))))
theorem f120a_t (s_0 : Bool) (s_1 : List UInt8) :
    callW (E0 mm) 120 [cd (.lst s_0 (enL enB s_1)), .c (.fn 143 [(0, 0)])] [.cells [.d (.sc (.func (.func 115) #[] #[]))]] = (m120a s_0 s_1).map e120a := by
  rw [cR c120_0 [.tmp 4] Tryz.func120]
  unfold m120a; exact go k120a trivial
noncomputable def c114_0 : Code := bodyOf Tryz.f114
def c114_1 := cA c114_0
def c114_3 := cA (cB c114_0)
abbrev R114 := (Bool)
def e114 (x : R114) : AV × Heap := (vd (dB x), [])
def m114 (s : Bs) : Option R114 :=
  (m120a false s).bind fun yr2 =>
    some (!yr2)
def k114 := Q (rx c114_1) (Q (rx c114_3) (Q @hd44 (Q @rw45 (Q (fun (mm : Int) (s : Bs) => (show callW (E0 mm) 120 [cd (.lst false (enL enB s)), .c (.fn 143 [(0, 0)])] [.cells [.d (.sc (.func (.func 115) #[] #[]))]] = _ from f120a_t false s)) (Q @f120a_t (Q @e120a.eq_1 (Q (nE c114_0 (.seq c114_1 (.seq c114_3 .ret))) hA)))))))
theorem f114_t (s : Bs) :
    callW (E0 mm) 114 [cd (dS s), cd (.sc (.func (.func 115) #[] #[]))] [] = (m114 s).map e114 := by
  rw [cR c114_0 [.tmp 4] Tryz.func114]
  unfold m114; exact go k114 trivial
noncomputable def c69_0 : Code := bodyOf Tryz.f69
def c69_1 := cA c69_0
def c69_3 := cA (cB c69_0)
abbrev R69 := (Bool)
def e69 (x : R69) : AV × Heap := (vd (dB x), [])
def m69 (s : Bs) : Option R69 :=
  if (s == ([] : Bs)) = true then
    some false
  else
    (m114 s).bind fun yr3 =>
      some yr3
def k69 := Q (rx c69_1) (Q (rx c69_3) (Q @ent114 (Q @prm114 (Q @f114_t (Q @e114.eq_1 (Q (nE c69_0 (.seq c69_1 (.seq c69_3 .ret))) hA))))))
theorem f69_t (s : Bs) :
    callW (E0 mm) 69 [cd (dS s)] [] = (m69 s).map e69 := by
  rw [cR c69_0 [.tmp 2] Tryz.func69]
  unfold m69; exact go k69 trivial
noncomputable def c155_0 : Code := bodyOf Tryz.f155
def c155_1 := cA c155_0
def c155_3 := cA (cB c155_0)
abbrev R155 := (Bool)
def e155 (x : R155) : AV × Heap := (vd (dB x), [])
def m155 (c : UInt8) : Option R155 :=
  if (c == (9 : UInt8)) = true then
    some true
  else
    if (decide ((32 : UInt8) ≤ c)) = true then
      some (!(c == (127 : UInt8)))
    else
      some false
def k155 := Q (rx c155_1) (Q (rx c155_3) (Q (nE c155_0 (.seq c155_1 (.seq c155_3 .ret))) hA))
theorem f155_t (c : UInt8) :
    callW (E0 mm) 155 [cd (.sc (.int .u8 ((c).toNat : Int)))] [] = (m155 c).map e155 := by
  rw [cR c155_0 [.tmp 2] Tryz.func155]
  unfold m155; exact go k155 trivial
noncomputable def c141_0 : Code := bodyOf Tryz.f141
def c141_1 := cA c141_0
def c141_4 := cA (cA (cB c141_0))
def c141_5 := cB (cA (cB c141_0))
def c141_7 := cA (cA c141_5)
def c141_10 := cB (cB c141_0)
def c141_11 := cA c141_10
def c141_13 := cA (cB c141_10)
def c141_16 := cA (cA (cB (cB c141_10)))
def c141_18 := cA (cB (cA (cB (cB c141_10))))
def c141_19 := cA c141_18
def c141_21 := cA (cA c141_19)
def c141_30 := cA (cA (cA (cA (cA (cB c141_19)))))
def c141_33 := cA (cA (cB (cA (cA (cA (cA (cB c141_19)))))))
def c141_36 := cA (cB (cB (cA (cA (cA (cA (cB c141_19)))))))
def c141_39 := cA (cA (cB (cB (cB (cA (cA (cA (cA (cB c141_19)))))))))
def c141_41 := cA (cB (cA (cB (cB (cB (cA (cA (cA (cA (cB c141_19))))))))))
def c141_44 := cA (cA (cB (cB (cA (cB (cB (cB (cA (cA (cA (cA (cB c141_19))))))))))))
def c141_48 := cB (cA (cA (cB c141_19)))
def c141_50 := cA (cA c141_48)
def c141_53 := cA (cA (cB (cA c141_48)))
def c141_56 := cB c141_48
def c141_57 := cB (cB c141_19)
def c141_58 := cB (cB (cB c141_10))
def c141_59 := cA c141_58
def L141_0 : List (Nat × Co) := [(4, .own), (5, .keep), (6, .keep)]
abbrev b141 (mm : Int) := bodyD (E0 mm) [.tmp 2, .tmp 3] 0 false
abbrev R141 := (Bs × Bool)
def e141 (x : R141) : AV × Heap := (.tup [cd (dS x.1), cd (dB x.2)], [])
def j141_48 (b4_0 : Bool) (b4_1 : List UInt8) (in5 : Bs) (i6 : Int) : Option ((Bool × List UInt8 × Bs × Int) ⊕ R141) :=
  if 0 ≤ i6 ∧ i6 < (in5.length : Int) then
    (m155 (in5.getD i6.toNat 0)).bind fun yr14 =>
      if yr14 = true then
        if (b4_1.length + 1) * 1 ≤ 140737488355328 then
          some (.inl (false, (b4_1 ++ ([(in5.getD i6.toNat 0)] : List UInt8)), in5, (w64 (i6 + 1))))
        else none
      else
        some (.inr (([] : Bs), false))
  else none
def K141_18 (mm : Int) (r : Option (Ex × St)) : Option (AV × Heap) := b141 mm (sq (E0 mm) 141 0 c141_58 (blockD 0 (r)))
def en141_18 (x : (Bool × List UInt8 × Bs × Int)) : X := (none, [.v (.c (.own x.1 (enL enB x.2.1) 0)), vd (dS x.2.2.1), vd (dI x.2.2.2)], [.row x.2.1.length (rz x.1 1)])
def k141 := Q (rx c141_50) (Q @ent155 (Q @prm155 (Q @f155_t (Q @e155.eq_1 (Q (rx c141_56) (Q @hd46 (Q @nv47 (Q @rw48 (Q (rx c141_57) (Q (rx c141_53) (Q @K141_18.eq_1 (Q (rx c141_59) (Q (rx c141_21) (Q (rx c141_30) (Q (rx c141_33) (Q (rx c141_36) (Q (rx c141_39) (Q (rx c141_41) (Q (rx c141_44) (Q (rx c141_7) (Q (rx c141_11) (Q (rx c141_13) (Q (rx c141_16) (Q (fun mm => lx (E0 mm) 141 c141_18 c141_19 L141_0) (Q (rx c141_1) (Q (rx c141_4) (Q (nE c141_0 (.seq c141_1 (.seq (.seq c141_4 c141_5) c141_10))) (Q (nE c141_10 (.seq c141_11 (.seq c141_13 (.seq (.seq c141_16 (.block 0 c141_18)) c141_58)))) (Q (nE c141_19 (.seq (.seq c141_21 (.cond _ .skip (.exit 0))) (.seq (.block 1 (.seq (.block 2 (.seq c141_30 (.cond _ (.seq c141_33 .ret) (.seq c141_36 (.cond _ (.seq c141_39 (.seq c141_41 (.cond _ (.seq c141_44 .ret) .skip))) .skip))))) c141_48)) c141_57))) (Q @en141_18.eq_1 (Q @L141_0.eq_1 hA)))))))))))))))))))))))))))))))
theorem j141_48_t (b4_0 : Bool) (b4_1 : List UInt8) (in5 : Bs) (i6 : Int)  (sl : Sl) (_ : sl 4 = .v (.c (.own b4_0 (enL enB b4_1) 0))) (_ : sl 5 = vd (dS in5)) (_ : sl 6 = vd (dI i6)) :
    stepE (K141_18 mm) (loopK 0 L141_0 (sq (E0 mm) 141 0 c141_57 (blockD 1 (dn (E0 mm) 141 0 c141_48 sl [.row b4_1.length (rz b4_0 1)])))) = (j141_48 b4_0 b4_1 in5 i6).map (sm en141_18 e141) := by
  unfold j141_48; exact go (Q (nE c141_48 (.seq (.seq c141_50 (.cond _ (.seq c141_53 .ret) .skip)) c141_56)) k141) trivial
def j141_58 (b4_0 : Bool) (b4_1 : List UInt8) : Option R141 :=
  some (b4_1, true)
theorem j141_58_t (b4_0 : Bool) (b4_1 : List UInt8)  (sl : Sl) (_ : sl 4 = .v (.c (.own b4_0 (enL enB b4_1) 0))) :
    b141 mm (dn (E0 mm) 141 0 c141_58 sl [.row b4_1.length (rz b4_0 1)]) = (j141_58 b4_0 b4_1).map e141 := by
  unfold j141_58; exact go (Q (nE c141_58 (.seq c141_59 .ret)) k141) trivial
def s141_18 (b4_0 : Bool) (b4_1 : List UInt8) (in5 : Bs) (i6 : Int) : Option ((Bool × List UInt8 × Bs × Int) ⊕ R141) :=
  if (decide (i6 < (in5.length : Int))) = true then
    if 0 ≤ i6 ∧ i6 < (in5.length : Int) then
      if ((in5.getD i6.toNat 0) == (34 : UInt8)) = true then
        some (.inr (([] : Bs), false))
      else
        if ((in5.getD i6.toNat 0) == (92 : UInt8)) = true then
          if ((w64 (i6 + 1)) == (in5.length : Int)) = true then
            some (.inr (([] : Bs), false))
          else
            j141_48 b4_0 b4_1 in5 (w64 (i6 + 1))
        else
          j141_48 b4_0 b4_1 in5 i6
    else none
  else
    (j141_58 b4_0 b4_1).map .inr
theorem s141_18_t (b4_0 : Bool) (b4_1 : List UInt8) (in5 : Bs) (i6 : Int) :
    stepE (K141_18 mm) (lp (E0 mm) 141 0 c141_19 L141_0 (en141_18 (b4_0, b4_1, in5, i6))) = (s141_18 b4_0 b4_1 in5 i6).map (sm en141_18 e141) := by
  unfold s141_18; exact go k141 (Q @j141_48_t @j141_58_t)
def l141_18 (b4_0 : Bool) (b4_1 : List UInt8) (in5 : Bs) (i6 : Int) : Option R141 := iter (fun x : (Bool × List UInt8 × Bs × Int) => s141_18 x.1 x.2.1 x.2.2.1 x.2.2.2) (b4_0, b4_1, in5, i6)
theorem l141_18_t (b4_0 : Bool) (b4_1 : List UInt8) (in5 : Bs) (i6 : Int) : (K141_18 mm) (itW (lp (E0 mm) 141 0 c141_19 L141_0) (en141_18 (b4_0, b4_1, in5, i6))) = (l141_18 b4_0 b4_1 in5 i6).map e141 :=
  it_sim (K := (K141_18 mm)) rfl (enc := en141_18) (fun x => s141_18_t x.1 x.2.1 x.2.2.1 x.2.2.2) (b4_0, b4_1, in5, i6)
def j141_5 (s0 : Bs) (t22 : Bool) : Option R141 :=
  if t22 = true then
    some (([] : Bs), false)
  else
    (bnd (w64 ((s0.length : Int) - 1)) s0.length).bind fun yk4 =>
      (bnd 1 yk4).bind fun yk6 =>
        l141_18 true ([] : List UInt8) ((s0.take yk4).drop yk6) (0 : Int)
theorem j141_5_t (s0 : Bs) (t22 : Bool)  (sl : Sl) (_ : sl 0 = vd (dS s0)) (_ : sl 22 = vd (dB t22)) :
    b141 mm (sq (E0 mm) 141 0 c141_10 (dn (E0 mm) 141 0 c141_5 sl [])) = (j141_5 s0 t22).map e141 := by
  unfold j141_5; exact go (Q (nE c141_5 (.cond _ (.seq c141_7 .ret) .skip)) k141) @l141_18_t
def m141 (s : Bs) : Option R141 :=
  if (decide ((s.length : Int) < 2)) = true then
    j141_5 s true
  else
    if (0 : Int) < (s.length : Int) then
      if ((s.getD 0 0) == (34 : UInt8)) = true then
        if 0 ≤ (w64 ((s.length : Int) - 1)) ∧ (w64 ((s.length : Int) - 1)) < (s.length : Int) then
          j141_5 s (!((s.getD (w64 ((s.length : Int) - 1)).toNat 0) == (34 : UInt8)))
        else none
      else
        j141_5 s true
    else none
theorem f141_t (s : Bs) :
    callW (E0 mm) 141 [cd (dS s)] [] = (m141 s).map e141 := by
  rw [cR c141_0 [.tmp 2, .tmp 3] Tryz.func141]
  unfold m141; exact go k141 @j141_5_t
noncomputable def c107_0 : Code := bodyOf Tryz.f107
def c107_1 := cA c107_0
def c107_3 := cA (cB c107_0)
def c107_6 := cA (cA (cB (cB c107_0)))
def c107_9 := cA (cA (cB (cA (cB (cB c107_0)))))
def c107_14 := cA (cA (cB (cB (cB c107_0))))
def c107_15 := cB (cA (cB (cB (cB c107_0))))
def c107_17 := cA (cA c107_15)
def c107_20 := cB (cB (cB (cB c107_0)))
def c107_21 := cA c107_20
def c107_24 := cA (cA (cB c107_20))
def c107_27 := cA (cA (cB (cA (cB c107_20))))
def c107_31 := cA (cB (cB c107_20))
abbrev R107 := (Bs × Bs × Bool)
def e107 (x : R107) : AV × Heap := (.tup [cd (dS x.1), cd (dS x.2.1), cd (dB x.2.2)], [])
def j107_15 (name5 value6 : Bs) (t24 : Bool) : Option R107 :=
  if t24 = true then
    (m63 name5).bind fun yr11 =>
      some (yr11, value6, true)
  else
    (m141 value6).bind fun yr13 =>
      if yr13.2 = true then
        (m63 name5).bind fun yr16 =>
          some (yr16, yr13.1, true)
      else
        some (([] : Bs), ([] : Bs), false)
def k107 := Q (rx c107_17) (Q @f63_t (Q @e63.eq_1 (Q (rx c107_21) (Q @ent141 (Q @prm141 (Q @f141_t (Q @e141.eq_1 (Q (rx c107_24) (Q (rx c107_31) (Q (rx c107_27) (Q (rx c107_1) (Q (rx c107_3) (Q @ent140 (Q @prm140 (Q (fun (mm : Int) (s : Bs) => (show callW (E0 mm) 140 [cd (dS s), cd (dS ([61] : Bs))] [] = _ from f140_t s ([61] : Bs))) (Q @f140_t (Q @e140.eq_1 (Q (rx c107_6) (Q @ent69 (Q @prm69 (Q @f69_t (Q @e69.eq_1 (Q (rx c107_14) (Q (rx c107_9) (Q (nE c107_0 (.seq c107_1 (.seq c107_3 (.seq (.seq c107_6 (.cond _ (.seq c107_9 .ret) .skip)) (.seq (.seq c107_14 c107_15) c107_20))))) (Q (nE c107_20 (.seq c107_21 (.seq (.seq c107_24 (.cond _ (.seq c107_27 .ret) .skip)) (.seq c107_31 .ret)))) hA))))))))))))))))))))))))))
theorem j107_15_t (name5 value6 : Bs) (t24 : Bool)  (sl : Sl) (_ : sl 5 = vd (dS name5)) (_ : sl 6 = vd (dS value6)) (_ : sl 24 = vd (dB t24)) :
    bodyD (E0 mm) [.tmp 2, .tmp 3, .tmp 4] 0 false (sq (E0 mm) 107 0 c107_20 (dn (E0 mm) 107 0 c107_15 sl [])) = (j107_15 name5 value6 t24).map e107 := by
  unfold j107_15; exact go (Q (nE c107_15 (.cond _ (.seq c107_17 .ret) .skip)) k107) trivial
def m107 (s : Bs) : Option R107 :=
  (m140 s ([61] : Bs)).bind fun yr2 =>
    (m69 yr2.1).bind fun yr4 =>
      if yr4 = true then
        if yr2.2.2 = true then
          (m69 yr2.2.1).bind fun yr8 =>
            j107_15 yr2.1 yr2.2.1 yr8
        else
          j107_15 yr2.1 yr2.2.1 true
      else
        some (([] : Bs), ([] : Bs), false)
theorem f107_t (s : Bs) :
    callW (E0 mm) 107 [cd (dS s)] [] = (m107 s).map e107 := by
  rw [cR c107_0 [.tmp 2, .tmp 3, .tmp 4] Tryz.func107]
  unfold m107; exact go k107 @j107_15_t
noncomputable def c59_0 : Code := bodyOf Tryz.f59
def c59_1 := cA c59_0
def c59_3 := cA (cB c59_0)
def c59_6 := cA (cA (cB (cB c59_0)))
def c59_8 := cA (cB (cA (cB (cB c59_0))))
def c59_9 := cA c59_8
def c59_10 := cA c59_9
def c59_18 := cA (cA (cA (cB (cB c59_9))))
def c59_20 := cA (cB (cA (cA (cB (cB c59_9)))))
def c59_22 := cA (cB (cB (cA (cA (cB (cB c59_9))))))
def c59_24 := cA (cB (cB (cB (cA (cA (cB (cB c59_9)))))))
def c59_26 := cB (cB (cB c59_9))
def c59_27 := cB (cB (cB c59_0))
def c59_28 := cA c59_27
def L59_0 : List (Nat × Co) := [(3, .freeze), (11, .freeze), (12, .freeze), (13, .freeze)]
abbrev b59 (mm : Int) := bodyD (E0 mm) [.tmp 2] 0 false
abbrev R59 := (List (Bs × List Bs))
def e59 (x : R59) : AV × Heap := (.v (.c (.mp 0)), [.amap (enM x)])
def j59_26 (t11_0 : Bool) (t11_1 : List Bs) (t12 t13 : Int) (kv0 : Kvs) : Option ((Bool × List Bs × Int × Int × Kvs) ⊕ R59) :=
  some (.inl (t11_0, t11_1, t12, (w64 (t13 + 1)), kv0))
def K59_8 (mm : Int) (r : Option (Ex × St)) : Option (AV × Heap) := b59 mm (sq (E0 mm) 59 0 c59_27 (blockD 0 (r)))
def en59_8 (x : (Bool × List Bs × Int × Int × Kvs)) : X := (none, [.v (.c (.mp 0)), vd (.lst x.1 (enL enS x.2.1)), vd (dI x.2.2.1), vd (dI x.2.2.2.1)], (HO x.2.2.2.2))
def k59 := Q @closeHO_c (Q @renHO (Q @idxHO0 (Q (rx c59_28) (Q @frzHO (Q @closeHF_c (Q @HF_0 (Q (rx c59_10) (Q (rx c59_18) (Q (rx c59_20) (Q @ent107 (Q @prm107 (Q @f107_t (Q @e107.eq_1 (Q (rx c59_22) (Q (rx c59_24) (Q @HO_0 (Q @findO (Q @hd49 (Q @nv50 (Q @rw51 (Q @ao45O (Q @HO_s0 (Q @HO_put (Q @findO0 (Q @ao45O0 (Q @HO_a0 (Q @HO_put0 (Q @K59_8.eq_1 (Q (rx c59_1) (Q (rx c59_3) (Q (rx c59_6) (Q @ent26 (Q @prm26 (Q (fun (mm : Int) (l_0 : Bool) (l_1 : List (Bs × Bs)) => (show callW (E0 mm) 26 [cd (.lst l_0 (enL enSS l_1)), cd (dS ([99, 97, 99, 104, 101, 45, 99, 111, 110, 116, 114, 111, 108] : Bs))] [] = _ from f26_t l_0 l_1 ([99, 97, 99, 104, 101, 45, 99, 111, 110, 116, 114, 111, 108] : Bs))) (Q @f26_t (Q @e26.eq_1 (Q (fun mm => lx (E0 mm) 59 c59_8 c59_9 L59_0) (Q (nE c59_0 (.seq c59_1 (.seq c59_3 (.seq (.seq c59_6 (.block 0 c59_8)) c59_27)))) (Q (nE c59_9 (.seq c59_10 (.seq (.cond _ .skip (.exit 0)) (.seq (.block 1 (.seq c59_18 (.seq c59_20 (.seq c59_22 (.cond _ c59_24 .skip))))) c59_26)))) (Q @L59_0.eq_1 hA))))))))))))))))))))))))))))))))))))))))
theorem j59_26_t (t11_0 : Bool) (t11_1 : List Bs) (t12 t13 : Int) (kv0 : Kvs)  (sl : Sl) (_ : sl 3 = .v (.c (.mp 0))) (_ : sl 11 = vd (.lst t11_0 (enL enS t11_1))) (_ : sl 12 = vd (dI t12)) (_ : sl 13 = vd (dI t13)) :
    stepE (K59_8 mm) (loopK 0 L59_0 (den (E0 mm) 59 0 (callW (E0 mm)) itW c59_26 none ⟨sl, (HO kv0)⟩)) = (j59_26 t11_0 t11_1 t12 t13 kv0).map (sm en59_8 e59) := by
  unfold j59_26; exact go (Q (rx c59_26) k59) trivial
def j59_27 (kv0 : Kvs) : Option R59 :=
  some kv0
theorem j59_27_t (kv0 : Kvs)  (sl : Sl) (_ : sl 3 = .v (.c (.mp 0))) :
    b59 mm (den (E0 mm) 59 0 (callW (E0 mm)) itW c59_27 none ⟨sl, (HO kv0)⟩) = (j59_27 kv0).map e59 := by
  unfold j59_27; exact go (Q (nE c59_27 (.seq c59_28 .ret)) k59) trivial
def s59_8 (t11_0 : Bool) (t11_1 : List Bs) (t12 t13 : Int) (kv0 : Kvs) : Option ((Bool × List Bs × Int × Int × Kvs) ⊕ R59) :=
  if (decide (t13 < t12)) = true then
    if 0 ≤ t13 ∧ t13 < (t11_1.length : Int) then
      (m107 (t11_1.getD t13.toNat default)).bind fun yr7 =>
        if yr7.2.2 = true then
          if (hasM yr7.1 kv0) = true then
            if ((valM yr7.1 kv0).length + 1) * 16 ≤ 140737488355328 then
              j59_26 t11_0 t11_1 t12 t13 (appM yr7.1 yr7.2.1 kv0)
            else none
          else
            j59_26 t11_0 t11_1 t12 t13 (kv0 ++ [(yr7.1, [yr7.2.1])])
        else
          j59_26 t11_0 t11_1 t12 t13 kv0
    else none
  else
    (j59_27 kv0).map .inr
theorem s59_8_t (t11_0 : Bool) (t11_1 : List Bs) (t12 t13 : Int) (kv0 : Kvs) :
    stepE (K59_8 mm) (lp (E0 mm) 59 0 c59_9 L59_0 (none, [.v (.c (.mp 0)), vd (.lst t11_0 (enL enS t11_1)), vd (dI t12), vd (dI t13)], (HO kv0))) = (s59_8 t11_0 t11_1 t12 t13 kv0).map (sm en59_8 e59) := by
  unfold s59_8; exact go k59 (Q @j59_26_t @j59_27_t)
def l59_8 (t11_0 : Bool) (t11_1 : List Bs) (t12 t13 : Int) (kv0 : Kvs) : Option R59 := iter (fun x : (Bool × List Bs × Int × Int × Kvs) => s59_8 x.1 x.2.1 x.2.2.1 x.2.2.2.1 x.2.2.2.2) (t11_0, t11_1, t12, t13, kv0)
theorem l59_8_t (t11_0 : Bool) (t11_1 : List Bs) (t12 t13 : Int) (kv0 : Kvs) : b59 mm (sq (E0 mm) 59 0 c59_27 (blockD 0 (itW (lp (E0 mm) 59 0 c59_9 L59_0) (none, [.v (.c (.mp 0)), vd (.lst t11_0 (enL enS t11_1)), vd (dI t12), vd (dI t13)], (HO kv0))))) = (l59_8 t11_0 t11_1 t12 t13 kv0).map e59 :=
  it_sim (K := (K59_8 mm)) rfl (enc := en59_8) (fun x => s59_8_t x.1 x.2.1 x.2.2.1 x.2.2.2.1 x.2.2.2.2) (t11_0, t11_1, t12, t13, kv0)
def m59 (l_0 : Bool) (l_1 : List (Bs × Bs)) : Option R59 :=
  (m26 l_0 l_1 ([99, 97, 99, 104, 101, 45, 99, 111, 110, 116, 114, 111, 108] : Bs)).bind fun yr2 =>
    l59_8 yr2.1 yr2.2 (yr2.2.length : Int) (0 : Int) ([] : Kvs)
theorem f59_t (l_0 : Bool) (l_1 : List (Bs × Bs)) :
    callW (E0 mm) 59 [cd (.lst l_0 (enL enSS l_1))] [] = (m59 l_0 l_1).map e59 := by
  rw [cR c59_0 [.tmp 2] Tryz.func59]
  unfold m59; exact go k59 @l59_8_t
noncomputable def c108_0 : Code := bodyOf Tryz.f108
def c108_1 := cA c108_0
def c108_3 := cA (cB c108_0)
def c108_5 := cA (cB (cB c108_0))
abbrev R108 := (Bool)
def e108 (gm1 : List (Bs × List Bs)) (x : R108) : AV × Heap := (vd (dB x), [.cells [.mp 1], .amap (enM gm1)])
def m108 (name : Bs) (gm1 : List (Bs × List Bs)) : Option R108 :=
  some (hasM name gm1)
def k108 := Q (rx c108_1) (Q (rx c108_3) (Q @sz73 (Q @ag73 (Q (rx c108_5) (Q (nE c108_0 (.seq c108_1 (.seq c108_3 (.seq c108_5 .ret)))) hA)))))
theorem f108_t (name : Bs) (gm1 : List (Bs × List Bs)) :
    callW (E0 mm) 108 [cd (dS name), .c (.ptr 0 0)] [.cells [.mp 1], .amap (enM gm1)] = (m108 name gm1).map (e108 gm1) := by
  rw [cR c108_0 [.tmp 3] Tryz.func108]
  unfold m108; exact go k108 trivial
end
end Go.Proofs.YtbkobjepahlegaaGreatDoor
