/- The Go functions as plain functions, and that the evaluator computes them. -/
import Derived.Test.YtbkobjepahlegaaGreatDoorHd
set_option linter.all false
set_option maxRecDepth 100000
namespace Go.Proofs.YtbkobjepahlegaaGreatDoor
open Go Go.Ab
open Nat renaming reduceEqDiff → za, reduceAdd → zb, reduceLeDiff → zc, reduceLT → zd, reduceMul → ze, reduceBEq → zf, reduceSub → zg, reducePow → zh
open Int renaming reduceEq → zi, reduceLE → zj, reduceLT → zk, reduceToNat → zl, reduceNegSucc → zm, reduceAdd → zn, reduceBEq → zo
open String renaming reduceBEq → zp
set_option maxHeartbeats 4000000
noncomputable section
variable {mm : Int}
def hA := Q @Tryz.underlying23 (Q @sz5 (Q @Tryz.underlying9 (Q @Tryz.underlying5 (Q @loopF_eq (Q @ag5 (Q @slots1 (Q @slots2 (Q @ent63 (Q @prm63 (Q @Tryz.underlying22 (Q @sz42 (Q @enSS_a (Q @enL_get (Q @enSS_e (Q @ag42 (Q @zc42 (Q @Tryz.underlying42 (Q @sz9 (Q @ag9 (Q @ent73 (Q @prm73 (Q @Tryz.underlying45 (Q @zc9 (Q @ns5 (Q @ap45 (Q @ent29 (Q @prm29 (Q @enS_a (Q @enS_e (Q @enB_a (Q @enB_e (Q @ent147 (Q @prm147 (Q @ent120 (Q @prm120 (Q @ent71 (Q @prm71 (Q @ent122 (Q @prm122 (Q @ent123 (Q @prm123 (Q @sz45 (Q @ag45 (Q @ent79 (Q @prm79 (Q @ent78 (Q @prm78 (Q @ent58 (Q @prm58 (Q @sz3 (Q @ag3 (Q @zc3 (Q @ent145 (Q @prm145 (Q @zc5 (Q @ns12 (Q @ent69 (Q @prm69 (Q @Tryz.underlying73 (Q @zv45 (Q @ent26 (Q @prm26 (Q @sz73 (Q @ag73 (Q @Tryz.underlying3 (Q @Tryz.underlying28 (Q @slots3 (Q @Tryz.underlying78 (Q @ent109 (Q @prm109 (Q @hd59 (Q @nv60 (Q @rw61 (Q @nh62 (Q @ah78hnil (Q @ah78hslc (Q @ent62 (Q @prm62 (Q @sz37 (Q @ag37 (Q @zc37 (Q @ent59 (Q @prm59 (Q @ent60 (Q @prm60 (Q @Tryz.underlying37 (Q @sz4 (Q @ent61 (Q @prm61 (Q @Tryz.underlying25 (Q @sz23 (Q @sz22 (Q @ag22 (Q @ent30 (Q @prm30 (Q @ent41 (Q @prm41 (Q @ag4 (Q @sz25 (Q @ag25 (Q @ent21 (Q @prm21 (Q @Tryz.underlying27 (Q @Tryz.underlying133 (Q @ar86 (Q @zc133 (Q @sz133 (Q @ent135 (Q @prm135 (Q @ent136 (Q @prm136 (Q @ent117 (Q @prm117 (Q @sz27 (Q @ag27 (Q @ent104 (Q @prm104 (Q @ent65 (Q @prm65 (Q @ent23 (Q @prm23 (Q @ns94 (Q @ent67 (Q @prm67 (Q @Tryz.underlying30 (Q @ns98 (Q @ap22 (Q @an22 (Q @ent132 (Q @prm132 (Q @ent27 (Q @prm27 (Q @ent25 (Q @prm25 (Q @zc30 (Q @sz28 (Q @ent15 (Q @prm15 (Q @Tryz.underlying95 (Q @sz35 (Q @ent24 @prm24)))))))))))))))))))))))))))))))))))))))))))))))))))))))))))))))))))))))))))))))))))))))))))))))))))))))))))))))))))))))))))))))))))))))))))))
set_option maxRecDepth 100000 in
theorem f17_t : callW (E0 mm) 17 [] [] = some (vd (dB true), []) := callN_W (k := 1500) (by kernel_rfl)
noncomputable def c63_0 : Code := bodyOf Tryz.f63
def c63_1 := cA c63_0
def c63_3 := cA (cB c63_0)
def c63_6 := cA (cA (cB (cB c63_0)))
def c63_8 := cA (cB (cA (cB (cB c63_0))))
def c63_9 := cA c63_8
def c63_10 := cA c63_9
def c63_18 := cA (cA (cA (cB (cB c63_9))))
def c63_20 := cA (cB (cA (cA (cB (cB c63_9)))))
def c63_21 := cB (cB (cA (cA (cB (cB c63_9)))))
def c63_22 := cA c63_21
def c63_24 := cB (cB (cB c63_9))
def c63_25 := cB (cB (cB c63_0))
def c63_26 := cA c63_25
def L63_0 : List (Nat × Co) := [(3, .keep), (8, .keep), (9, .keep), (10, .keep)]
abbrev R63 := (Bs)
def e63 (x : R63) : AV × Heap := (vd (dS x), [])
def j63_24 (b3_1 t8_1 : Nat) (t9 t10 : Int) (h0 : List UInt8) : Option ((Nat × Nat × Int × Int × List UInt8) ⊕ R63) :=
  some (.inl (b3_1, t8_1, t9, (w64 (t10 + 1)), h0))
def K63_8 (mm : Int) (r : Option (Ex × St)) : Option (AV × Heap) := bodyD (E0 mm) [.tmp 2] 0 false (sq (E0 mm) 63 0 c63_25 (blockD 0 (r)))
def en63_8 (x : (Nat × Nat × Int × Int × List UInt8)) : X := (none, [.v (.c (.slc 0 0 1 x.1 none)), .v (.c (.slc 0 0 1 x.2.1 none)), vd (dI x.2.2.1), vd (dI x.2.2.2.1)], [.cells (enC x.2.2.2.2)])
def k63 := Q (rx c63_22) (Q @enC_length (Q @enC_wr (Q (rx c63_26) (Q @enC_take (Q @mapM_enC (Q @chunk_enD (Q (rx c63_10) (Q (rx c63_18) (Q @enC_load (Q (rx c63_20) (Q @K63_8.eq_1 (Q (rx c63_1) (Q (rx c63_3) (Q @hd1 (Q @enC_S (Q @S_size (Q (rx c63_6) (Q (fun mm => lx (E0 mm) 63 c63_8 c63_9 L63_0) (Q (nE c63_0 (.seq c63_1 (.seq c63_3 (.seq (.seq c63_6 (.block 0 c63_8)) c63_25)))) (Q (nE c63_9 (.seq c63_10 (.seq (.cond _ .skip (.exit 0)) (.seq (.block 1 (.seq c63_18 (.seq c63_20 c63_21))) c63_24)))) (Q @en63_8.eq_1 (Q @L63_0.eq_1 hA))))))))))))))))))))))
theorem j63_24_t (b3_1 t8_1 : Nat) (t9 t10 : Int) (h0 : List UInt8)  (sl : Sl) (_ : sl 3 = .v (.c (.slc 0 0 1 b3_1 none))) (_ : sl 8 = .v (.c (.slc 0 0 1 t8_1 none))) (_ : sl 9 = vd (dI t9)) (_ : sl 10 = vd (dI t10)) :
    stepE (K63_8 mm) (loopK 0 L63_0 (dn (E0 mm) 63 0 c63_24 sl [.cells (enC h0)])) = (j63_24 b3_1 t8_1 t9 t10 h0).map (sm en63_8 e63) := by
  unfold j63_24; exact go (Q (rx c63_24) k63) trivial
def j63_21 (b3_1 : Nat) (i4 : Int) (c5 : UInt8) (t8_1 : Nat) (t9 t10 : Int) (t20 : Bool) (h0 : List UInt8) : Option ((Nat × Nat × Int × Int × List UInt8) ⊕ R63) :=
  if t20 = true then
    if 0 ≤ i4 ∧ i4 < (b3_1 : Int) then
      if i4.toNat < h0.length then
        j63_24 b3_1 t8_1 t9 t10 (h0.set i4.toNat ((c5 + (97 : UInt8)) - (65 : UInt8)))
      else none
    else none
  else
    j63_24 b3_1 t8_1 t9 t10 h0
theorem j63_21_t (b3_1 : Nat) (i4 : Int) (c5 : UInt8) (t8_1 : Nat) (t9 t10 : Int) (t20 : Bool) (h0 : List UInt8)  (sl : Sl) (_ : sl 3 = .v (.c (.slc 0 0 1 b3_1 none))) (_ : sl 4 = vd (dI i4)) (_ : sl 5 = vd (.sc (.int .u8 ((c5).toNat : Int)))) (_ : sl 8 = .v (.c (.slc 0 0 1 t8_1 none))) (_ : sl 9 = vd (dI t9)) (_ : sl 10 = vd (dI t10)) (_ : sl 20 = vd (dB t20)) :
    stepE (K63_8 mm) (loopK 0 L63_0 (sq (E0 mm) 63 0 c63_24 (blockD 1 (dn (E0 mm) 63 0 c63_21 sl [.cells (enC h0)])))) = (j63_21 b3_1 i4 c5 t8_1 t9 t10 t20 h0).map (sm en63_8 e63) := by
  unfold j63_21; exact go (Q (nE c63_21 (.cond _ c63_22 .skip)) k63) @j63_24_t
def j63_25 (b3_1 : Nat) (h0 : List UInt8) : Option R63 :=
  if b3_1 ≤ h0.length then
    some (h0.take b3_1)
  else none
theorem j63_25_t (b3_1 : Nat) (h0 : List UInt8)  (sl : Sl) (_ : sl 3 = .v (.c (.slc 0 0 1 b3_1 none))) :
    bodyD (E0 mm) [.tmp 2] 0 false (dn (E0 mm) 63 0 c63_25 sl [.cells (enC h0)]) = (j63_25 b3_1 h0).map e63 := by
  unfold j63_25; exact go (Q (nE c63_25 (.seq c63_26 .ret)) k63) trivial
def s63_8 (b3_1 t8_1 : Nat) (t9 t10 : Int) (h0 : List UInt8) : Option ((Nat × Nat × Int × Int × List UInt8) ⊕ R63) :=
  if (decide (t10 < t9)) = true then
    if 0 ≤ t10 ∧ t10 < (t8_1 : Int) then
      if t10.toNat < h0.length then
        if (decide ((65 : UInt8) ≤ (h0.getD t10.toNat 0))) = true then
          j63_21 b3_1 t10 (h0.getD t10.toNat 0) t8_1 t9 t10 (decide ((h0.getD t10.toNat 0) ≤ (90 : UInt8))) h0
        else
          j63_21 b3_1 t10 (h0.getD t10.toNat 0) t8_1 t9 t10 false h0
      else none
    else none
  else
    (j63_25 b3_1 h0).map .inr
theorem s63_8_t (b3_1 t8_1 : Nat) (t9 t10 : Int) (h0 : List UInt8) :
    stepE (K63_8 mm) (lp (E0 mm) 63 0 c63_9 L63_0 (en63_8 (b3_1, t8_1, t9, t10, h0))) = (s63_8 b3_1 t8_1 t9 t10 h0).map (sm en63_8 e63) := by
  unfold s63_8; exact go k63 (Q @j63_21_t @j63_25_t)
def l63_8 (b3_1 t8_1 : Nat) (t9 t10 : Int) (h0 : List UInt8) : Option R63 := iter (fun x : (Nat × Nat × Int × Int × List UInt8) => s63_8 x.1 x.2.1 x.2.2.1 x.2.2.2.1 x.2.2.2.2) (b3_1, t8_1, t9, t10, h0)
theorem l63_8_t (b3_1 t8_1 : Nat) (t9 t10 : Int) (h0 : List UInt8) : (K63_8 mm) (itW (lp (E0 mm) 63 0 c63_9 L63_0) (en63_8 (b3_1, t8_1, t9, t10, h0))) = (l63_8 b3_1 t8_1 t9 t10 h0).map e63 :=
  it_sim (K := (K63_8 mm)) rfl (enc := en63_8) (fun x => s63_8_t x.1 x.2.1 x.2.2.1 x.2.2.2.1 x.2.2.2.2) (b3_1, t8_1, t9, t10, h0)
def m63 (s : Bs) : Option R63 :=
  l63_8 s.length s.length (s.length : Int) (0 : Int) s
theorem f63_t (s : Bs) :
    callW (E0 mm) 63 [cd (dS s)] [] = (m63 s).map e63 := by
  rw [cR c63_0 [.tmp 2] Tryz.func63]
  unfold m63; exact go k63 @l63_8_t
noncomputable def c73_0 : Code := bodyOf Tryz.f73
def c73_1 := cA c73_0
def c73_3 := cA (cB c73_0)
abbrev R73 := (Bool)
def e73 (x : R73) : AV × Heap := (vd (dB x), [])
def m73 (a b : Bs) : Option R73 :=
  (m63 a).bind fun yr2 =>
    (m63 b).bind fun yr4 =>
      some (yr2 == yr4)
def k73 := Q (rx c73_1) (Q (rx c73_3) (Q @f63_t (Q @e63.eq_1 (Q (nE c73_0 (.seq c73_1 (.seq c73_3 .ret))) hA))))
theorem f73_t (a b : Bs) :
    callW (E0 mm) 73 [cd (dS a), cd (dS b)] [] = (m73 a b).map e73 := by
  rw [cR c73_0 [.tmp 4] Tryz.func73]
  unfold m73; exact go k73 trivial
noncomputable def c29_0 : Code := bodyOf Tryz.f29
def c29_1 := cA c29_0
def c29_3 := cA (cB c29_0)
def c29_6 := cA (cA (cB (cB c29_0)))
def c29_8 := cA (cB (cA (cB (cB c29_0))))
def c29_9 := cA c29_8
def c29_10 := cA c29_9
def c29_18 := cA (cA (cA (cB (cB c29_9))))
def c29_20 := cA (cB (cA (cA (cB (cB c29_9)))))
def c29_22 := cA (cB (cB (cA (cA (cB (cB c29_9))))))
def c29_24 := cB (cB (cB c29_9))
def c29_25 := cB (cB (cB c29_0))
def c29_26 := cA c29_25
def L29_0 : List (Nat × Co) := [(1, .keep), (5, .own), (8, .keep), (9, .keep), (10, .keep)]
abbrev R29 := (Bool × List Bs)
def e29 (x : R29) : AV × Heap := (.v (.c (.own x.1 (enL enS x.2) 0)), [.row x.2.length (rz x.1 1)])
def j29_24 (name1 : Bs) (out5_0 : Bool) (out5_1 : List Bs) (t8_0 : Bool) (t8_1 : List (Bs × Bs)) (t9 t10 : Int) : Option ((Bs × Bool × List Bs × Bool × List (Bs × Bs) × Int × Int) ⊕ R29) :=
  some (.inl (name1, out5_0, out5_1, t8_0, t8_1, t9, (w64 (t10 + 1))))
def K29_8 (mm : Int) (r : Option (Ex × St)) : Option (AV × Heap) := bodyD (E0 mm) [.tmp 4] 0 false (sq (E0 mm) 29 0 c29_25 (blockD 0 (r)))
def en29_8 (x : (Bs × Bool × List Bs × Bool × List (Bs × Bs) × Int × Int)) : X := (none, [vd (dS x.1), .v (.c (.own x.2.1 (enL enS x.2.2.1) 0)), vd (.lst x.2.2.2.1 (enL enSS x.2.2.2.2.1)), vd (dI x.2.2.2.2.2.1), vd (dI x.2.2.2.2.2.2)], [.row x.2.2.1.length (rz x.2.1 1)])
def k29 := Q (rx c29_26) (Q (rx c29_10) (Q (rx c29_18) (Q @ao0 (Q (rx c29_20) (Q @f73_t (Q @e73.eq_1 (Q (rx c29_22) (Q @hd2 (Q @nv3 (Q @rw4 (Q @K29_8.eq_1 (Q (rx c29_1) (Q (rx c29_3) (Q (rx c29_6) (Q (fun mm => lx (E0 mm) 29 c29_8 c29_9 L29_0) (Q (nE c29_0 (.seq c29_1 (.seq c29_3 (.seq (.seq c29_6 (.block 0 c29_8)) c29_25)))) (Q (nE c29_9 (.seq c29_10 (.seq (.cond _ .skip (.exit 0)) (.seq (.block 1 (.seq c29_18 (.seq c29_20 (.cond _ c29_22 .skip)))) c29_24)))) (Q @en29_8.eq_1 (Q @L29_0.eq_1 hA)))))))))))))))))))
theorem j29_24_t (name1 : Bs) (out5_0 : Bool) (out5_1 : List Bs) (t8_0 : Bool) (t8_1 : List (Bs × Bs)) (t9 t10 : Int) (g1 : Ob) (sl : Sl) (_ : sl 1 = vd (dS name1)) (_ : sl 5 = .v (.c (.own out5_0 (enL enS out5_1) 0))) (_ : sl 8 = vd (.lst t8_0 (enL enSS t8_1))) (_ : sl 9 = vd (dI t9)) (_ : sl 10 = vd (dI t10)) :
    stepE (K29_8 mm) (loopK 0 L29_0 (dn (E0 mm) 29 0 c29_24 sl [.row out5_1.length (rz out5_0 1), g1])) = (j29_24 name1 out5_0 out5_1 t8_0 t8_1 t9 t10).map (sm en29_8 e29) := by
  unfold j29_24; exact go (Q (rx c29_24) k29) trivial
def j29_25 (out5_0 : Bool) (out5_1 : List Bs) : Option R29 :=
  some (out5_0, out5_1)
theorem j29_25_t (out5_0 : Bool) (out5_1 : List Bs)  (sl : Sl) (_ : sl 5 = .v (.c (.own out5_0 (enL enS out5_1) 0))) :
    bodyD (E0 mm) [.tmp 4] 0 false (dn (E0 mm) 29 0 c29_25 sl [.row out5_1.length (rz out5_0 1)]) = (j29_25 out5_0 out5_1).map e29 := by
  unfold j29_25; exact go (Q (nE c29_25 (.seq c29_26 .ret)) k29) trivial
def s29_8 (name1 : Bs) (out5_0 : Bool) (out5_1 : List Bs) (t8_0 : Bool) (t8_1 : List (Bs × Bs)) (t9 t10 : Int) : Option ((Bs × Bool × List Bs × Bool × List (Bs × Bs) × Int × Int) ⊕ R29) :=
  if (decide (t10 < t9)) = true then
    if 0 ≤ t10 ∧ t10 < (t8_1.length : Int) then
      (m73 ((t8_1.getD t10.toNat default).1) name1).bind fun yr5 =>
        if yr5 = true then
          if (out5_1.length + 1) * 16 ≤ 140737488355328 then
            j29_24 name1 false (out5_1 ++ ([(t8_1.getD t10.toNat default).2] : List Bs)) t8_0 t8_1 t9 t10
          else none
        else
          j29_24 name1 out5_0 out5_1 t8_0 t8_1 t9 t10
    else none
  else
    (j29_25 out5_0 out5_1).map .inr
theorem s29_8_t (name1 : Bs) (out5_0 : Bool) (out5_1 : List Bs) (t8_0 : Bool) (t8_1 : List (Bs × Bs)) (t9 t10 : Int) :
    stepE (K29_8 mm) (lp (E0 mm) 29 0 c29_9 L29_0 (en29_8 (name1, out5_0, out5_1, t8_0, t8_1, t9, t10))) = (s29_8 name1 out5_0 out5_1 t8_0 t8_1 t9 t10).map (sm en29_8 e29) := by
  unfold s29_8; exact go k29 (Q @j29_24_t @j29_25_t)
def l29_8 (name1 : Bs) (out5_0 : Bool) (out5_1 : List Bs) (t8_0 : Bool) (t8_1 : List (Bs × Bs)) (t9 t10 : Int) : Option R29 := iter (fun x : (Bs × Bool × List Bs × Bool × List (Bs × Bs) × Int × Int) => s29_8 x.1 x.2.1 x.2.2.1 x.2.2.2.1 x.2.2.2.2.1 x.2.2.2.2.2.1 x.2.2.2.2.2.2) (name1, out5_0, out5_1, t8_0, t8_1, t9, t10)
theorem l29_8_t (name1 : Bs) (out5_0 : Bool) (out5_1 : List Bs) (t8_0 : Bool) (t8_1 : List (Bs × Bs)) (t9 t10 : Int) : (K29_8 mm) (itW (lp (E0 mm) 29 0 c29_9 L29_0) (en29_8 (name1, out5_0, out5_1, t8_0, t8_1, t9, t10))) = (l29_8 name1 out5_0 out5_1 t8_0 t8_1 t9 t10).map e29 :=
  it_sim (K := (K29_8 mm)) rfl (enc := en29_8) (fun x => s29_8_t x.1 x.2.1 x.2.2.1 x.2.2.2.1 x.2.2.2.2.1 x.2.2.2.2.2.1 x.2.2.2.2.2.2) (name1, out5_0, out5_1, t8_0, t8_1, t9, t10)
def m29 (l_0 : Bool) (l_1 : List (Bs × Bs)) (name : Bs) : Option R29 :=
  l29_8 name true ([] : List Bs) l_0 l_1 (l_1.length : Int) (0 : Int)
theorem f29_t (l_0 : Bool) (l_1 : List (Bs × Bs)) (name : Bs) :
    callW (E0 mm) 29 [cd (.lst l_0 (enL enSS l_1)), cd (dS name)] [] = (m29 l_0 l_1 name).map e29 := by
  rw [cR c29_0 [.tmp 4] Tryz.func29]
  unfold m29; exact go k29 @l29_8_t
noncomputable def c71_0 : Code := bodyOf Tryz.f71
def c71_1 := cA c71_0
def c71_4 := cA (cA (cB c71_0))
def c71_6 := cA (cB (cA (cB c71_0)))
def c71_9 := cA (cA (cB (cB (cA (cB c71_0)))))
def c71_13 := cA (cB (cB c71_0))
abbrev R71 := (Bs)
def e71 (x : R71) : AV × Heap := (vd (dS x), [])
def m71 (l_0 : Bool) (l_1 : List (Bs × Bs)) (name : Bs) : Option R71 :=
  (m29 l_0 l_1 name).bind fun yr2 =>
    if ((yr2.2.length : Int) == 1) = true then
      if (0 : Int) < (yr2.2.length : Int) then
        some (yr2.2.getD 0 default)
      else none
    else
      some ([] : Bs)
def k71 := Q (rx c71_1) (Q (rx c71_4) (Q @f29_t (Q @e29.eq_1 (Q (rx c71_6) (Q (rx c71_9) (Q (rx c71_13) (Q (nE c71_0 (.seq c71_1 (.seq (.seq c71_4 (.seq c71_6 (.cond _ (.seq c71_9 .ret) .skip))) (.seq c71_13 .ret)))) hA)))))))
theorem f71_t (l_0 : Bool) (l_1 : List (Bs × Bs)) (name : Bs) :
    callW (E0 mm) 71 [cd (.lst l_0 (enL enSS l_1)), cd (dS name)] [] = (m71 l_0 l_1 name).map e71 := by
  rw [cR c71_0 [.tmp 4] Tryz.func71]
  unfold m71; exact go k71 trivial
noncomputable def c167_0 : Code := bodyOf Tryz.f167
def c167_1 := cA c167_0
def c167_3 := cA (cB c167_0)
abbrev R167 := (Bool)
def e167 (x : R167) : AV × Heap := (vd (dB x), [])
def m167 (s xprefix : Bs) : Option R167 :=
  if (decide ((xprefix.length : Int) ≤ (s.length : Int))) = true then
    (bnd (xprefix.length : Int) s.length).bind fun yk3 =>
      some ((s.take yk3) == xprefix)
  else
    some false
def k167 := Q (rx c167_1) (Q (rx c167_3) (Q (nE c167_0 (.seq c167_1 (.seq c167_3 .ret))) hA))
theorem f167_t (s xprefix : Bs) :
    callW (E0 mm) 167 [cd (dS s), cd (dS xprefix)] [] = (m167 s xprefix).map e167 := by
  rw [cR c167_0 [.tmp 4] Tryz.func167]
  unfold m167; exact go k167 trivial
noncomputable def c146_0 : Code := bodyOf Tryz.f146
def c146_1 := cA c146_0
def c146_4 := cA (cA (cB c146_0))
def c146_7 := cA (cA (cB (cA (cB c146_0))))
def c146_11 := cA (cB (cB c146_0))
abbrev R146 := (Bs)
def e146 (x : R146) : AV × Heap := (vd (dS x), [])
def m146 (s xprefix : Bs) : Option R146 :=
  (m167 s xprefix).bind fun yr2 =>
    if yr2 = true then
      (bnd (xprefix.length : Int) s.length).bind fun yk5 =>
        some (s.drop yk5)
    else
      some s
def k146 := Q (rx c146_1) (Q (rx c146_4) (Q @ent167 (Q @prm167 (Q @f167_t (Q @e167.eq_1 (Q (rx c146_7) (Q (rx c146_11) (Q (nE c146_0 (.seq c146_1 (.seq (.seq c146_4 (.cond _ (.seq c146_7 .ret) .skip)) (.seq c146_11 .ret)))) hA))))))))
theorem f146_t (s xprefix : Bs) :
    callW (E0 mm) 146 [cd (dS s), cd (dS xprefix)] [] = (m146 s xprefix).map e146 := by
  rw [cR c146_0 [.tmp 4] Tryz.func146]
  unfold m146; exact go k146 trivial
noncomputable def c118_0 : Code := bodyOf Tryz.f118
def c118_1 := cA c118_0
def c118_3 := cA (cB c118_0)
abbrev R118 := (Bs)
def e118 (x : R118) : AV × Heap := (vd (dS x), [])
def m118 (s xprefix : Bs) : Option R118 :=
  (m146 s xprefix).bind fun yr2 =>
    some yr2
def k118 := Q (rx c118_1) (Q (rx c118_3) (Q @ent146 (Q @prm146 (Q @f146_t (Q @e146.eq_1 (Q (nE c118_0 (.seq c118_1 (.seq c118_3 .ret))) hA))))))
theorem f118_t (s xprefix : Bs) :
    callW (E0 mm) 118 [cd (dS s), cd (dS xprefix)] [] = (m118 s xprefix).map e118 := by
  rw [cR c118_0 [.tmp 4] Tryz.func118]
  unfold m118; exact go k118 trivial
noncomputable def c119_0 : Code := bodyOf Tryz.f119
def c119_1 := cA c119_0
def c119_3 := cA (cB c119_0)
abbrev R119 := (Bool)
def e119 (x : R119) : AV × Heap := (vd (dB x), [])
def m119 (c : UInt8) : Option R119 :=
  if (decide (c < (33 : UInt8))) = true then
    some true
  else
    if (c == (34 : UInt8)) = true then
      some true
    else
      some (c == (127 : UInt8))
def k119 := Q (rx c119_1) (Q (rx c119_3) (Q (nE c119_0 (.seq c119_1 (.seq c119_3 .ret))) hA))
theorem f119_t (c : UInt8) :
    callW (E0 mm) 119 [cd (.sc (.int .u8 ((c).toNat : Int)))] [] = (m119 c).map e119 := by
  rw [cR c119_0 [.tmp 2] Tryz.func119]
  unfold m119; exact go k119 trivial
noncomputable def c147_0 : Code := bodyOf Tryz.f147
def c147_1 := cA c147_0
def c147_4 := cA (cA (cB c147_0))
def c147_6 := cA (cB (cA (cB c147_0)))
def c147_7 := cA c147_6
def c147_8 := cA c147_7
def c147_16 := cA (cA (cA (cB (cB c147_7))))
def c147_18 := cA (cB (cA (cA (cB (cB c147_7)))))
def c147_21 := cA (cA (cB (cB (cA (cA (cB (cB c147_7)))))))
def c147_24 := cB (cB (cB c147_7))
def c147_25 := cB (cB c147_0)
def c147_26 := cA c147_25
def L147_0 : List (Nat × Co) := [(0, .keep), (1, .keep), (7, .keep), (8, .keep)]
abbrev R147 := (Int)
def e147 (x : R147) : AV × Heap := (vd (dI x), [])
def j147_25  : Option R147 :=
  some (-1 : Int)
def K147_6 (mm : Int) (r : Option (Ex × St)) : Option (AV × Heap) := bodyD (E0 mm) [.tmp 4] 0 false (sq (E0 mm) 147 0 c147_25 (blockD 0 (r)))
def en147_6 (x : (Bool × List UInt8 × Int × Int)) : X := (none, [vd (.lst x.1 (enL enB x.2.1)), vd (.sc (.func (.func 119) #[] #[])), vd (dI x.2.2.1), vd (dI x.2.2.2)], [])
def k147 := Q (rx c147_26) (Q (rx c147_8) (Q (rx c147_16) (Q (rx c147_18) (Q @ent119 (Q @prm119 (Q @f119_t (Q @e119.eq_1 (Q (rx c147_21) (Q @K147_6.eq_1 (Q (rx c147_24) (Q (rx c147_1) (Q (rx c147_4) (Q (fun mm => lx (E0 mm) 147 c147_6 c147_7 L147_0) (Q (nE c147_0 (.seq c147_1 (.seq (.seq c147_4 (.block 0 c147_6)) c147_25))) (Q (nE c147_7 (.seq c147_8 (.seq (.cond _ .skip (.exit 0)) (.seq (.block 1 (.seq c147_16 (.seq c147_18 (.cond _ (.seq c147_21 .ret) .skip)))) c147_24)))) (Q @en147_6.eq_1 (Q @L147_0.eq_1 hA)))))))))))))))))
theorem j147_25_t (sl : Sl)  :
    bodyD (E0 mm) [.tmp 4] 0 false (dn (E0 mm) 147 0 c147_25 sl []) = (j147_25).map e147 := by
  unfold j147_25; exact go (Q (nE c147_25 (.seq c147_26 .ret)) k147) trivial
def s147_6 (s0_0 : Bool) (s0_1 : List UInt8) (t7 t8 : Int) : Option ((Bool × List UInt8 × Int × Int) ⊕ R147) :=
  if (decide (t8 < t7)) = true then
    if 0 ≤ t8 ∧ t8 < (s0_1.length : Int) then
      (m119 (s0_1.getD t8.toNat default)).bind fun yr5 =>
        if yr5 = true then
          some (.inr t8)
        else
          some (.inl (s0_0, s0_1, t7, (w64 (t8 + 1))))
    else none
  else
    (j147_25).map .inr
theorem s147_6_t (s0_0 : Bool) (s0_1 : List UInt8) (t7 t8 : Int) :
    stepE (K147_6 mm) (lp (E0 mm) 147 0 c147_7 L147_0 (en147_6 (s0_0, s0_1, t7, t8))) = (s147_6 s0_0 s0_1 t7 t8).map (sm en147_6 e147) := by
  unfold s147_6; exact go k147 @j147_25_t
def l147_6 (s0_0 : Bool) (s0_1 : List UInt8) (t7 t8 : Int) : Option R147 := iter (fun x : (Bool × List UInt8 × Int × Int) => s147_6 x.1 x.2.1 x.2.2.1 x.2.2.2) (s0_0, s0_1, t7, t8)
theorem l147_6_t (s0_0 : Bool) (s0_1 : List UInt8) (t7 t8 : Int) : (K147_6 mm) (itW (lp (E0 mm) 147 0 c147_7 L147_0) (en147_6 (s0_0, s0_1, t7, t8))) = (l147_6 s0_0 s0_1 t7 t8).map e147 :=
  it_sim (K := (K147_6 mm)) rfl (enc := en147_6) (fun x => s147_6_t x.1 x.2.1 x.2.2.1 x.2.2.2) (s0_0, s0_1, t7, t8)
def m147 (s_0 : Bool) (s_1 : List UInt8) : Option R147 :=
  l147_6 s_0 s_1 (s_1.length : Int) (0 : Int)
theorem f147_t (s_0 : Bool) (s_1 : List UInt8) :
    callW (E0 mm) 147 [cd (.lst s_0 (enL enB s_1)), cd (.sc (.func (.func 119) #[] #[]))] [] = (m147 s_0 s_1).map e147 := by
  rw [cR c147_0 [.tmp 4] Tryz.func147]
  unfold m147; exact go k147 @l147_6_t
noncomputable def c120_0 : Code := bodyOf Tryz.f120
def c120_1 := cA c120_0
def c120_3 := cA (cB c120_0)
abbrev R120 := (Bool)
def e120 (x : R120) : AV × Heap := (vd (dB x), [])
def m120 (s_0 : Bool) (s_1 : List UInt8) : Option R120 :=
  (m147 s_0 s_1).bind fun yr2 =>
    some (decide (0 ≤ yr2))
def k120 := Q (rx c120_1) (Q (rx c120_3) (Q @f147_t (Q @e147.eq_1 (Q (nE c120_0 (.seq c120_1 (.seq c120_3 .ret))) hA))))
theorem f120_t (s_0 : Bool) (s_1 : List UInt8) :
    callW (E0 mm) 120 [cd (.lst s_0 (enL enB s_1)), cd (.sc (.func (.func 119) #[] #[]))] [] = (m120 s_0 s_1).map e120 := by
  rw [cR c120_0 [.tmp 4] Tryz.func120]
  unfold m120; exact go k120 trivial
noncomputable def c72_0 : Code := bodyOf Tryz.f72
def c72_1 := cA c72_0
def c72_3 := cA (cB c72_0)
def c72_6 := cA (cA (cB (cB c72_0)))
def c72_7 := cB (cA (cB (cB c72_0)))
def c72_9 := cA (cA c72_7)
def c72_12 := cB (cB (cB c72_0))
def c72_13 := cA c72_12
def c72_15 := cA (cB c72_12)
abbrev R72 := (Bool)
def e72 (x : R72) : AV × Heap := (vd (dB x), [])
def j72_7 (s0 : Bs) (t21 : Bool) : Option R72 :=
  if t21 = true then
    some false
  else
    (bnd (w64 ((s0.length : Int) - 1)) s0.length).bind fun yk6 =>
      (bnd 1 yk6).bind fun yk8 =>
        (m120 false ((s0.take yk6).drop yk8)).bind fun yr10 =>
          some (!yr10)
def k72 := Q (rx c72_9) (Q (rx c72_13) (Q (rx c72_15) (Q @hd7 (Q @rw8 (Q (fun (mm : Int) (s0 : Bs) (yk6 : Nat) (yk8 : Nat) => (show callW (E0 mm) 120 [cd (.lst false (enL enB ((s0.take yk6).drop yk8))), cd (.sc (.func (.func 119) #[] #[]))] [] = _ from f120_t false ((s0.take yk6).drop yk8))) (Q @f120_t (Q @e120.eq_1 (Q (rx c72_1) (Q (rx c72_3) (Q @ent118 (Q @prm118 (Q (fun (mm : Int) (s : Bs) => (show callW (E0 mm) 118 [cd (dS s), cd (dS ([87, 47] : Bs))] [] = _ from f118_t s ([87, 47] : Bs))) (Q @f118_t (Q @e118.eq_1 (Q (rx c72_6) (Q (nE c72_0 (.seq c72_1 (.seq c72_3 (.seq (.seq c72_6 c72_7) c72_12)))) (Q (nE c72_12 (.seq c72_13 (.seq c72_15 .ret))) hA)))))))))))))))))
theorem j72_7_t (s0 : Bs) (t21 : Bool)  (sl : Sl) (_ : sl 0 = vd (dS s0)) (_ : sl 21 = vd (dB t21)) :
    bodyD (E0 mm) [.tmp 2] 0 false (sq (E0 mm) 72 0 c72_12 (dn (E0 mm) 72 0 c72_7 sl [])) = (j72_7 s0 t21).map e72 := by
  unfold j72_7; exact go (Q (nE c72_7 (.cond _ (.seq c72_9 .ret) .skip)) k72) trivial
def m72 (s : Bs) : Option R72 :=
  (m118 s ([87, 47] : Bs)).bind fun yr2 =>
    if (decide ((yr2.length : Int) < 2)) = true then
      j72_7 yr2 true
    else
      if (0 : Int) < (yr2.length : Int) then
        if ((yr2.getD 0 0) == (34 : UInt8)) = true then
          if 0 ≤ (w64 ((yr2.length : Int) - 1)) ∧ (w64 ((yr2.length : Int) - 1)) < (yr2.length : Int) then
            j72_7 yr2 (!((yr2.getD (w64 ((yr2.length : Int) - 1)).toNat 0) == (34 : UInt8)))
          else none
        else
          j72_7 yr2 true
      else none
theorem f72_t (s : Bs) :
    callW (E0 mm) 72 [cd (dS s)] [] = (m72 s).map e72 := by
  rw [cR c72_0 [.tmp 2] Tryz.func72]
  unfold m72; exact go k72 @j72_7_t
noncomputable def c28_0 : Code := bodyOf Tryz.f28
def c28_1 := cA c28_0
def c28_3 := cA (cB c28_0)
def c28_6 := cA (cA (cB (cB c28_0)))
def c28_9 := cA (cA (cB (cA (cB (cB c28_0)))))
def c28_13 := cA (cB (cB (cB c28_0)))
abbrev R28 := (Bs × Bool)
def e28 (x : R28) : AV × Heap := (.tup [cd (dS x.1), cd (dB x.2)], [])
def m28 (l_0 : Bool) (l_1 : List (Bs × Bs)) : Option R28 :=
  (m71 l_0 l_1 ([101, 116, 97, 103] : Bs)).bind fun yr2 =>
    (m72 yr2).bind fun yr4 =>
      if yr4 = true then
        some (yr2, true)
      else
        some (([] : Bs), false)
def k28 := Q (rx c28_1) (Q (rx c28_3) (Q (fun (mm : Int) (l_0 : Bool) (l_1 : List (Bs × Bs)) => (show callW (E0 mm) 71 [cd (.lst l_0 (enL enSS l_1)), cd (dS ([101, 116, 97, 103] : Bs))] [] = _ from f71_t l_0 l_1 ([101, 116, 97, 103] : Bs))) (Q @f71_t (Q @e71.eq_1 (Q (rx c28_6) (Q @ent72 (Q @prm72 (Q @f72_t (Q @e72.eq_1 (Q (rx c28_13) (Q (rx c28_9) (Q (nE c28_0 (.seq c28_1 (.seq c28_3 (.seq (.seq c28_6 (.cond _ (.seq c28_9 .ret) .skip)) (.seq c28_13 .ret))))) hA))))))))))))
theorem f28_t (l_0 : Bool) (l_1 : List (Bs × Bs)) :
    callW (E0 mm) 28 [cd (.lst l_0 (enL enSS l_1))] [] = (m28 l_0 l_1).map e28 := by
  rw [cR c28_0 [.tmp 2, .tmp 3] Tryz.func28]
  unfold m28; exact go k28 trivial
noncomputable def c77_0 : Code := bodyOf Tryz.f77
def c77_1 := cA c77_0
def c77_4 := cA (cA (cB c77_0))
def c77_7 := cA (cA (cB (cA (cB c77_0))))
def c77_11 := cA (cB (cB c77_0))
abbrev R77 := (Unit) ⊕ (Unit) ⊕ (Nat × List (Bs × Bs))
def e77 (x : R77) : AV × Heap := match x with
  | .inl x => (vd (.lst true []), [])
  | .inr (.inl x) => (.v (.c (.slc 0 0 2 0 (some 0))), [.cells []])
  | .inr (.inr x) => (.v (.c (.slc 0 0 2 x.1 none)), [.cells (enZ enSS x.2)])
def m77 (s_0 : Bool) (s_1 : List (Bs × Bs)) : Option R77 :=
  if s_0 = true then
    some (.inl ())
  else
    if s_1.isEmpty = true then
      some (.inr (.inl ()))
    else
      if s_1.length * 32 ≤ 140737488355328 then
        some (.inr (.inr (s_1.length, s_1)))
      else none
def k77 := Q (rx c77_1) (Q (rx c77_4) (Q (fun {α : Type} => @nilq_e _ _ _ Tryz.underlying22 α) (Q (rx c77_7) (Q (rx c77_11) (Q @hd24 (Q @nv25 (Q @newSlice_z (Q @rw26 (Q @az22 (Q @enZ_isD (Q (enZ_listY (f := enSS) (n := 2) (fun _ => rfl) (by decide)) (Q (nE c77_0 (.seq c77_1 (.seq (.seq c77_4 (.cond _ (.seq c77_7 .ret) .skip)) (.seq c77_11 .ret)))) hA))))))))))))
theorem f77_t (s_0 : Bool) (s_1 : List (Bs × Bs)) :
    callW (E0 mm) 77 [cd (.lst s_0 (enL enSS s_1))] [] = (m77 s_0 s_1).map e77 := by
  rw [cR c77_0 [.tmp 2] Tryz.func77]
  unfold m77; exact go k77 trivial
noncomputable def c122_0 : Code := bodyOf Tryz.f122
def c122_1 := cA c122_0
def c122_4 := cA (cA (cB c122_0))
def c122_6 := cA (cB (cA (cB c122_0)))
def c122_7 := cA c122_6
def c122_8 := cA c122_7
def c122_16 := cA (cA (cA (cB (cB c122_7))))
def c122_18 := cA (cB (cA (cA (cB (cB c122_7)))))
def c122_21 := cA (cA (cB (cB (cA (cA (cB (cB c122_7)))))))
def c122_24 := cB (cB (cB c122_7))
def c122_25 := cB (cB c122_0)
def c122_26 := cA c122_25
def L122_0 : List (Nat × Co) := [(0, .keep), (1, .keep), (7, .keep), (8, .keep)]
abbrev R122 := (Int × Bool × List Bs)
def e122 (x : R122) : AV × Heap := (vd (dI x.1), [.cells [.d (.lst x.2.1 (enL enS x.2.2))]])
def j122_25 (h0_0_0 : Bool) (h0_0_1 : List Bs) : Option R122 :=
  some ((-1 : Int), h0_0_0, h0_0_1)
def K122_6 (mm : Int) (r : Option (Ex × St)) : Option (AV × Heap) := bodyD (E0 mm) [.tmp 4] 1 false (sq (E0 mm) 122 1 c122_25 (blockD 0 (r)))
def en122_6 (x : (Int × Int × Bool × List Bs)) : X := (none, [vd (.lst true []), .v (.c (.fn 78 [(0, 0)])), vd (dI x.1), vd (dI x.2.1)], [.cells [.d (.lst x.2.2.1 (enL enS x.2.2.2))]])
def k122 := Q (rx c122_26) (Q (rx c122_8) (Q (rx c122_16) (Q (rx c122_18) (Q @K122_6.eq_1 (Q (rx c122_1) (Q (rx c122_4) (Q (fun mm => lx (E0 mm) 122 c122_6 c122_7 L122_0) (Q (nE c122_0 (.seq c122_1 (.seq (.seq c122_4 (.block 0 c122_6)) c122_25))) (Q (nE c122_7 (.seq c122_8 (.seq (.cond _ .skip (.exit 0)) (.seq (.block 1 (.seq c122_16 (.seq c122_18 (.cond _ (.seq c122_21 .ret) .skip)))) c122_24)))) (Q @en122_6.eq_1 (Q @L122_0.eq_1 hA)))))))))))
theorem j122_25_t (h0_0_0 : Bool) (h0_0_1 : List Bs)  (sl : Sl)  :
    bodyD (E0 mm) [.tmp 4] 1 false (dn (E0 mm) 122 1 c122_25 sl [.cells [.d (.lst h0_0_0 (enL enS h0_0_1))]]) = (j122_25 h0_0_0 h0_0_1).map e122 := by
  unfold j122_25; exact go (Q (nE c122_25 (.seq c122_26 .ret)) k122) trivial
def s122_6 (t7 t8 : Int) (h0_0_0 : Bool) (h0_0_1 : List Bs) : Option ((Int × Int × Bool × List Bs) ⊕ R122) :=
  if (decide (t8 < t7)) = true then
    none
  else
    (j122_25 h0_0_0 h0_0_1).map .inr
theorem s122_6_t (t7 t8 : Int) (h0_0_0 : Bool) (h0_0_1 : List Bs) :
    stepE (K122_6 mm) (lp (E0 mm) 122 1 c122_7 L122_0 (en122_6 (t7, t8, h0_0_0, h0_0_1))) = (s122_6 t7 t8 h0_0_0 h0_0_1).map (sm en122_6 e122) := by
  unfold s122_6; exact go k122 @j122_25_t
def l122_6 (t7 t8 : Int) (h0_0_0 : Bool) (h0_0_1 : List Bs) : Option R122 := iter (fun x : (Int × Int × Bool × List Bs) => s122_6 x.1 x.2.1 x.2.2.1 x.2.2.2) (t7, t8, h0_0_0, h0_0_1)
theorem l122_6_t (t7 t8 : Int) (h0_0_0 : Bool) (h0_0_1 : List Bs) : (K122_6 mm) (itW (lp (E0 mm) 122 1 c122_7 L122_0) (en122_6 (t7, t8, h0_0_0, h0_0_1))) = (l122_6 t7 t8 h0_0_0 h0_0_1).map e122 :=
  it_sim (K := (K122_6 mm)) rfl (enc := en122_6) (fun x => s122_6_t x.1 x.2.1 x.2.2.1 x.2.2.2) (t7, t8, h0_0_0, h0_0_1)
def m122 (h0_0_0 : Bool) (h0_0_1 : List Bs) : Option R122 :=
  l122_6 (0 : Int) (0 : Int) h0_0_0 h0_0_1
theorem f122_t (h0_0_0 : Bool) (h0_0_1 : List Bs) :
    callW (E0 mm) 122 [cd (.lst true []), .c (.fn 78 [(0, 0)])] [.cells [.d (.lst h0_0_0 (enL enS h0_0_1))]] = (m122 h0_0_0 h0_0_1).map e122 := by
  rw [cR c122_0 [.tmp 4] Tryz.func122]
  unfold m122; exact go k122 @l122_6_t
noncomputable def c76_0 : Code := bodyOf Tryz.f76
def c76_1 := cA c76_0
def c76_3 := cA (cB c76_0)
def c76_6 := cA (cA (cB (cB c76_0)))
def c76_9 := cA (cA (cB (cA (cB (cB c76_0)))))
def c76_14 := cA (cA (cB (cB (cB c76_0))))
def c76_16 := cA (cB (cA (cB (cB (cB c76_0)))))
def c76_17 := cA c76_16
def c76_19 := cA (cA c76_17)
def c76_26 := cA (cA (cA (cB c76_17)))
def c76_28 := cA (cB (cA (cA (cB c76_17))))
def c76_31 := cA (cA (cB (cB (cA (cA (cB c76_17))))))
def c76_32 := cB (cA (cB (cB (cA (cA (cB c76_17))))))
def c76_34 := cB (cB c76_17)
def c76_35 := cB (cB (cB (cB c76_0)))
def c76_36 := cA c76_35
def c76_38 := cA (cB c76_35)
def L76_0 : List (Nat × Co) := [(0, .keep), (1, .keep), (5, .keep), (6, .keep)]
abbrev R76 := (Bool × List Bs)
def e76 (x : R76) : AV × Heap := (vd (.lst true []), [.cells [.d (.lst x.1 (enL enS x.2))]])
def j76_35 (i5 : Int) (h0_0_0 : Bool) (h0_0_1 : List Bs) : Option R76 :=
  if i5 = 0 then
    none
  else none
def K76_16 (mm : Int) (r : Option (Ex × St)) : Option (AV × Heap) := bodyD (E0 mm) [.tmp 4] 1 true (sq (E0 mm) 76 1 c76_35 (blockD 0 (r)))
def en76_16 (x : (Int × Int × Bool × List Bs)) : X := (none, [vd (.lst true []), .v (.c (.fn 78 [(0, 0)])), vd (dI x.1), vd (dI x.2.1)], [.cells [.d (.lst x.2.2.1 (enL enS x.2.2.2))]])
def k76 := Q (rx c76_36) (Q @bnd_n0 (Q (rx c76_19) (Q (rx c76_26) (Q @K76_16.eq_1 (Q (rx c76_1) (Q (rx c76_3) (Q @f122_t (Q @e122.eq_1 (Q (rx c76_6) (Q (rx c76_9) (Q (rx c76_14) (Q (fun mm => lx (E0 mm) 76 c76_16 c76_17 L76_0) (Q (nE c76_0 (.seq c76_1 (.seq c76_3 (.seq (.seq c76_6 (.cond _ (.seq c76_9 .ret) .skip)) (.seq (.seq c76_14 (.block 0 c76_16)) c76_35))))) (Q (nE c76_17 (.seq (.seq c76_19 (.cond _ .skip (.exit 0))) (.seq (.block 1 (.seq c76_26 (.seq c76_28 (.cond _ (.seq c76_31 c76_32) .skip)))) c76_34))) (Q @en76_16.eq_1 (Q @L76_0.eq_1 hA))))))))))))))))
theorem j76_35_t (i5 : Int) (h0_0_0 : Bool) (h0_0_1 : List Bs)  (sl : Sl) (_ : sl 0 = vd (.lst true [])) (_ : sl 5 = vd (dI i5)) :
    bodyD (E0 mm) [.tmp 4] 1 true (dn (E0 mm) 76 1 c76_35 sl [.cells [.d (.lst h0_0_0 (enL enS h0_0_1))]]) = (j76_35 i5 h0_0_0 h0_0_1).map e76 := by
  unfold j76_35; exact go (Q (nE c76_35 (.seq c76_36 (.seq c76_38 .ret))) k76) trivial
def s76_16 (i5 j6 : Int) (h0_0_0 : Bool) (h0_0_1 : List Bs) : Option ((Int × Int × Bool × List Bs) ⊕ R76) :=
  if (decide (j6 < 0)) = true then
    none
  else
    (j76_35 i5 h0_0_0 h0_0_1).map .inr
theorem s76_16_t (i5 j6 : Int) (h0_0_0 : Bool) (h0_0_1 : List Bs) :
    stepE (K76_16 mm) (lp (E0 mm) 76 1 c76_17 L76_0 (en76_16 (i5, j6, h0_0_0, h0_0_1))) = (s76_16 i5 j6 h0_0_0 h0_0_1).map (sm en76_16 e76) := by
  unfold s76_16; exact go k76 @j76_35_t
def l76_16 (i5 j6 : Int) (h0_0_0 : Bool) (h0_0_1 : List Bs) : Option R76 := iter (fun x : (Int × Int × Bool × List Bs) => s76_16 x.1 x.2.1 x.2.2.1 x.2.2.2) (i5, j6, h0_0_0, h0_0_1)
theorem l76_16_t (i5 j6 : Int) (h0_0_0 : Bool) (h0_0_1 : List Bs) : (K76_16 mm) (itW (lp (E0 mm) 76 1 c76_17 L76_0) (en76_16 (i5, j6, h0_0_0, h0_0_1))) = (l76_16 i5 j6 h0_0_0 h0_0_1).map e76 :=
  it_sim (K := (K76_16 mm)) rfl (enc := en76_16) (fun x => s76_16_t x.1 x.2.1 x.2.2.1 x.2.2.2) (i5, j6, h0_0_0, h0_0_1)
def m76 (h0_0_0 : Bool) (h0_0_1 : List Bs) : Option R76 :=
  (m122 h0_0_0 h0_0_1).bind fun yr2 =>
    if (yr2.1 == (-1)) = true then
      some (yr2.2.1, yr2.2.2)
    else
      l76_16 yr2.1 (w64 (yr2.1 + 1)) yr2.2.1 yr2.2.2
theorem f76_t (h0_0_0 : Bool) (h0_0_1 : List Bs) :
    callW (E0 mm) 76 [cd (.lst true []), .c (.fn 78 [(0, 0)])] [.cells [.d (.lst h0_0_0 (enL enS h0_0_1))]] = (m76 h0_0_0 h0_0_1).map e76 := by
  rw [cR c76_0 [.tmp 4] Tryz.func76]
  unfold m76; exact go k76 @l76_16_t
abbrev R122a := (Int × Bool × List Bs)
def L122a_0 : List (Nat × Co) := [(0, .keep), (1, .keep), (7, .keep), (8, .keep)]
def e122a (x : R122a) : AV × Heap := (vd (dI x.1), [.cells [], .cells [.d (.lst x.2.1 (enL enS x.2.2))]])
def j122a_25 (h1_0_0 : Bool) (h1_0_1 : List Bs) : Option R122a :=
  some ((-1 : Int), h1_0_0, h1_0_1)
def K122a_6 (mm : Int) (r : Option (Ex × St)) : Option (AV × Heap) := bodyD (E0 mm) [.tmp 4] 2 false (sq (E0 mm) 122 2 c122_25 (blockD 0 (r)))
def en122a_6 (x : (Int × Int × Bool × List Bs)) : X := (none, [.v (.c (.slc 0 0 2 0 (some 0))), .v (.c (.fn 78 [(1, 0)])), vd (dI x.1), vd (dI x.2.1)], [.cells [], .cells [.d (.lst x.2.2.1 (enL enS x.2.2.2))]])
def k122a := Q (rx c122_26) (Q (rx c122_8) (Q (rx c122_16) (Q (rx c122_18) (Q @K122a_6.eq_1 (Q (rx c122_1) (Q (rx c122_4) (Q (fun mm => lx (E0 mm) 122 c122_6 c122_7 L122a_0) (Q (nE c122_0 (.seq c122_1 (.seq (.seq c122_4 (.block 0 c122_6)) c122_25))) (Q (nE c122_7 (.seq c122_8 (.seq (.cond _ .skip (.exit 0)) (.seq (.block 1 (.seq c122_16 (.seq c122_18 (.cond _ (.seq c122_21 .ret) .skip)))) c122_24)))) (Q @en122a_6.eq_1 (Q @L122a_0.eq_1 hA)))))))))))
theorem j122a_25_t (h1_0_0 : Bool) (h1_0_1 : List Bs)  (sl : Sl)  :
    bodyD (E0 mm) [.tmp 4] 2 false (dn (E0 mm) 122 2 c122_25 sl [.cells [], .cells [.d (.lst h1_0_0 (enL enS h1_0_1))]]) = (j122a_25 h1_0_0 h1_0_1).map e122a := by
  unfold j122a_25; exact go (Q (nE c122_25 (.seq c122_26 .ret)) k122a) trivial
def s122a_6 (t7 t8 : Int) (h1_0_0 : Bool) (h1_0_1 : List Bs) : Option ((Int × Int × Bool × List Bs) ⊕ R122a) :=
  if (decide (t8 < t7)) = true then
    none
  else
    (j122a_25 h1_0_0 h1_0_1).map .inr
theorem s122a_6_t (t7 t8 : Int) (h1_0_0 : Bool) (h1_0_1 : List Bs) :
    stepE (K122a_6 mm) (lp (E0 mm) 122 2 c122_7 L122a_0 (en122a_6 (t7, t8, h1_0_0, h1_0_1))) = (s122a_6 t7 t8 h1_0_0 h1_0_1).map (sm en122a_6 e122a) := by
  unfold s122a_6; exact go k122a @j122a_25_t
def l122a_6 (t7 t8 : Int) (h1_0_0 : Bool) (h1_0_1 : List Bs) : Option R122a := iter (fun x : (Int × Int × Bool × List Bs) => s122a_6 x.1 x.2.1 x.2.2.1 x.2.2.2) (t7, t8, h1_0_0, h1_0_1)
theorem l122a_6_t (t7 t8 : Int) (h1_0_0 : Bool) (h1_0_1 : List Bs) : (K122a_6 mm) (itW (lp (E0 mm) 122 2 c122_7 L122a_0) (en122a_6 (t7, t8, h1_0_0, h1_0_1))) = (l122a_6 t7 t8 h1_0_0 h1_0_1).map e122a :=
  it_sim (K := (K122a_6 mm)) rfl (enc := en122a_6) (fun x => s122a_6_t x.1 x.2.1 x.2.2.1 x.2.2.2) (t7, t8, h1_0_0, h1_0_1)
def m122a (h1_0_0 : Bool) (h1_0_1 : List Bs) : Option R122a :=
  l122a_6 (0 : Int) (0 : Int) h1_0_0 h1_0_1
theorem f122a_t (h1_0_0 : Bool) (h1_0_1 : List Bs) :
    callW (E0 mm) 122 [.c (.slc 0 0 2 0 (some 0)), .c (.fn 78 [(1, 0)])] [.cells [], .cells [.d (.lst h1_0_0 (enL enS h1_0_1))]] = (m122a h1_0_0 h1_0_1).map e122a := by
  rw [cR c122_0 [.tmp 4] Tryz.func122]
  unfold m122a; exact go k122a @l122a_6_t
abbrev R76a := (Bool × List Bs)
def L76a_0 : List (Nat × Co) := [(0, .keep), (1, .keep), (5, .keep), (6, .keep)]
def e76a (x : R76a) : AV × Heap := (.v (.c (.slc 0 0 2 0 (some 0))), [.cells [], .cells [.d (.lst x.1 (enL enS x.2))]])
def j76a_35 (i5 : Int) (h1_0_0 : Bool) (h1_0_1 : List Bs) : Option R76a :=
  if i5 = 0 then
    some (h1_0_0, h1_0_1)
  else none
def K76a_16 (mm : Int) (r : Option (Ex × St)) : Option (AV × Heap) := bodyD (E0 mm) [.tmp 4] 2 true (sq (E0 mm) 76 2 c76_35 (blockD 0 (r)))
def en76a_16 (x : (Int × Int × Bool × List Bs)) : X := (none, [.v (.c (.slc 0 0 2 0 (some 0))), .v (.c (.fn 78 [(1, 0)])), vd (dI x.1), vd (dI x.2.1)], [.cells [], .cells [.d (.lst x.2.2.1 (enL enS x.2.2.2))]])
def k76a := Q (rx c76_36) (Q @bnd_n0 (Q @ce22 (Q (rx c76_38) (Q (rx c76_19) (Q (rx c76_26) (Q @K76a_16.eq_1 (Q (rx c76_1) (Q (rx c76_3) (Q @f122a_t (Q @e122a.eq_1 (Q (rx c76_6) (Q (rx c76_9) (Q (rx c76_14) (Q (fun mm => lx (E0 mm) 76 c76_16 c76_17 L76a_0) (Q (nE c76_0 (.seq c76_1 (.seq c76_3 (.seq (.seq c76_6 (.cond _ (.seq c76_9 .ret) .skip)) (.seq (.seq c76_14 (.block 0 c76_16)) c76_35))))) (Q (nE c76_17 (.seq (.seq c76_19 (.cond _ .skip (.exit 0))) (.seq (.block 1 (.seq c76_26 (.seq c76_28 (.cond _ (.seq c76_31 c76_32) .skip)))) c76_34))) (Q @en76a_16.eq_1 (Q @L76a_0.eq_1 hA))))))))))))))))))
theorem j76a_35_t (i5 : Int) (h1_0_0 : Bool) (h1_0_1 : List Bs)  (sl : Sl) (_ : sl 0 = .v (.c (.slc 0 0 2 0 (some 0)))) (_ : sl 5 = vd (dI i5)) :
    bodyD (E0 mm) [.tmp 4] 2 true (dn (E0 mm) 76 2 c76_35 sl [.cells [], .cells [.d (.lst h1_0_0 (enL enS h1_0_1))]]) = (j76a_35 i5 h1_0_0 h1_0_1).map e76a := by
  unfold j76a_35; exact go (Q (nE c76_35 (.seq c76_36 (.seq c76_38 .ret))) k76a) trivial
def s76a_16 (i5 j6 : Int) (h1_0_0 : Bool) (h1_0_1 : List Bs) : Option ((Int × Int × Bool × List Bs) ⊕ R76a) :=
  if (decide (j6 < 0)) = true then
    none
  else
    (j76a_35 i5 h1_0_0 h1_0_1).map .inr
theorem s76a_16_t (i5 j6 : Int) (h1_0_0 : Bool) (h1_0_1 : List Bs) :
    stepE (K76a_16 mm) (lp (E0 mm) 76 2 c76_17 L76a_0 (en76a_16 (i5, j6, h1_0_0, h1_0_1))) = (s76a_16 i5 j6 h1_0_0 h1_0_1).map (sm en76a_16 e76a) := by
  unfold s76a_16; exact go k76a @j76a_35_t
def l76a_16 (i5 j6 : Int) (h1_0_0 : Bool) (h1_0_1 : List Bs) : Option R76a := iter (fun x : (Int × Int × Bool × List Bs) => s76a_16 x.1 x.2.1 x.2.2.1 x.2.2.2) (i5, j6, h1_0_0, h1_0_1)
theorem l76a_16_t (i5 j6 : Int) (h1_0_0 : Bool) (h1_0_1 : List Bs) : (K76a_16 mm) (itW (lp (E0 mm) 76 2 c76_17 L76a_0) (en76a_16 (i5, j6, h1_0_0, h1_0_1))) = (l76a_16 i5 j6 h1_0_0 h1_0_1).map e76a :=
  it_sim (K := (K76a_16 mm)) rfl (enc := en76a_16) (fun x => s76a_16_t x.1 x.2.1 x.2.2.1 x.2.2.2) (i5, j6, h1_0_0, h1_0_1)
def m76a (h1_0_0 : Bool) (h1_0_1 : List Bs) : Option R76a :=
  (m122a h1_0_0 h1_0_1).bind fun yr2 =>
    if (yr2.1 == (-1)) = true then
      some (yr2.2.1, yr2.2.2)
    else
      l76a_16 yr2.1 (w64 (yr2.1 + 1)) yr2.2.1 yr2.2.2
theorem f76a_t (h1_0_0 : Bool) (h1_0_1 : List Bs) :
    callW (E0 mm) 76 [.c (.slc 0 0 2 0 (some 0)), .c (.fn 78 [(1, 0)])] [.cells [], .cells [.d (.lst h1_0_0 (enL enS h1_0_1))]] = (m76a h1_0_0 h1_0_1).map e76a := by
  rw [cR c76_0 [.tmp 4] Tryz.func76]
  unfold m76a; exact go k76a @l76a_16_t
noncomputable def c80_0 : Code := bodyOf Tryz.f80
def c80_1 := cA c80_0
def c80_3 := cA (cB c80_0)
abbrev R80 := (Bool × Bs × Bs)
def e80 (x : R80) : AV × Heap := (vd (dB x.1), [.cells [.d (dS x.2.1), .d (dS x.2.2)]])
def m80 (name h0_0 h0_1 : Bs) : Option R80 :=
  (m73 h0_0 name).bind fun yr2 =>
    some (yr2, h0_0, h0_1)
def k80 := Q (rx c80_1) (Q (rx c80_3) (Q @f73_t (Q @e73.eq_1 (Q (nE c80_0 (.seq c80_1 (.seq c80_3 .ret))) hA))))
theorem f80_t (name h0_0 h0_1 : Bs) :
    callW (E0 mm) 80 [cd (dS name), .c (.ptr 0 0)] [.cells [.d (dS h0_0), .d (dS h0_1)]] = (m80 name h0_0 h0_1).map e80 := by
  rw [cR c80_0 [.tmp 3] Tryz.func80]
  unfold m80; exact go k80 trivial
noncomputable def c123_0 : Code := bodyOf Tryz.f123
def c123_1 := cA c123_0
def c123_4 := cA (cA (cB c123_0))
def c123_6 := cA (cB (cA (cB c123_0)))
def c123_7 := cA c123_6
def c123_8 := cA c123_7
def c123_16 := cA (cA (cA (cB (cB c123_7))))
def c123_18 := cA (cB (cA (cA (cB (cB c123_7)))))
def c123_21 := cA (cA (cB (cB (cA (cA (cB (cB c123_7)))))))
def c123_24 := cB (cB (cB c123_7))
def c123_25 := cB (cB c123_0)
def c123_26 := cA c123_25
def L123_0 : List (Nat × Co) := [(0, .keep), (1, .keep), (7, .keep), (8, .keep)]
abbrev R123 := (Int × Bs × Bs)
def e123 (x : R123) : AV × Heap := (vd (dI x.1), [.cells [.d (dS x.2.1), .d (dS x.2.2)]])
def j123_25 (h0_0 h0_1 : Bs) : Option R123 :=
  some ((-1 : Int), h0_0, h0_1)
def K123_6 (mm : Int) (r : Option (Ex × St)) : Option (AV × Heap) := bodyD (E0 mm) [.tmp 4] 1 false (sq (E0 mm) 123 1 c123_25 (blockD 0 (r)))
def en123_6 (x : (Bool × List Bs × Int × Int × Bs × Bs)) : X := (none, [vd (.lst x.1 (enL enS x.2.1)), .v (.c (.fn 80 [(0, 0)])), vd (dI x.2.2.1), vd (dI x.2.2.2.1)], [.cells [.d (dS x.2.2.2.2.1), .d (dS x.2.2.2.2.2)]])
def k123 := Q (rx c123_26) (Q (rx c123_8) (Q (rx c123_16) (Q (rx c123_18) (Q @ent80 (Q @prm80 (Q @f80_t (Q @e80.eq_1 (Q (rx c123_21) (Q @K123_6.eq_1 (Q (rx c123_24) (Q (rx c123_1) (Q (rx c123_4) (Q (fun mm => lx (E0 mm) 123 c123_6 c123_7 L123_0) (Q (nE c123_0 (.seq c123_1 (.seq (.seq c123_4 (.block 0 c123_6)) c123_25))) (Q (nE c123_7 (.seq c123_8 (.seq (.cond _ .skip (.exit 0)) (.seq (.block 1 (.seq c123_16 (.seq c123_18 (.cond _ (.seq c123_21 .ret) .skip)))) c123_24)))) (Q @en123_6.eq_1 (Q @L123_0.eq_1 hA)))))))))))))))))
theorem j123_25_t (h0_0 h0_1 : Bs)  (sl : Sl)  :
    bodyD (E0 mm) [.tmp 4] 1 false (dn (E0 mm) 123 1 c123_25 sl [.cells [.d (dS h0_0), .d (dS h0_1)]]) = (j123_25 h0_0 h0_1).map e123 := by
  unfold j123_25; exact go (Q (nE c123_25 (.seq c123_26 .ret)) k123) trivial
def s123_6 (s0_0 : Bool) (s0_1 : List Bs) (t7 t8 : Int) (h0_0 h0_1 : Bs) : Option ((Bool × List Bs × Int × Int × Bs × Bs) ⊕ R123) :=
  if (decide (t8 < t7)) = true then
    if 0 ≤ t8 ∧ t8 < (s0_1.length : Int) then
      (m80 (s0_1.getD t8.toNat default) h0_0 h0_1).bind fun yr5 =>
        if yr5.1 = true then
          some (.inr (t8, yr5.2.1, yr5.2.2))
        else
          some (.inl (s0_0, s0_1, t7, (w64 (t8 + 1)), yr5.2.1, yr5.2.2))
    else none
  else
    (j123_25 h0_0 h0_1).map .inr
theorem s123_6_t (s0_0 : Bool) (s0_1 : List Bs) (t7 t8 : Int) (h0_0 h0_1 : Bs) :
    stepE (K123_6 mm) (lp (E0 mm) 123 1 c123_7 L123_0 (en123_6 (s0_0, s0_1, t7, t8, h0_0, h0_1))) = (s123_6 s0_0 s0_1 t7 t8 h0_0 h0_1).map (sm en123_6 e123) := by
  unfold s123_6; exact go k123 @j123_25_t
def l123_6 (s0_0 : Bool) (s0_1 : List Bs) (t7 t8 : Int) (h0_0 h0_1 : Bs) : Option R123 := iter (fun x : (Bool × List Bs × Int × Int × Bs × Bs) => s123_6 x.1 x.2.1 x.2.2.1 x.2.2.2.1 x.2.2.2.2.1 x.2.2.2.2.2) (s0_0, s0_1, t7, t8, h0_0, h0_1)
theorem l123_6_t (s0_0 : Bool) (s0_1 : List Bs) (t7 t8 : Int) (h0_0 h0_1 : Bs) : (K123_6 mm) (itW (lp (E0 mm) 123 1 c123_7 L123_0) (en123_6 (s0_0, s0_1, t7, t8, h0_0, h0_1))) = (l123_6 s0_0 s0_1 t7 t8 h0_0 h0_1).map e123 :=
  it_sim (K := (K123_6 mm)) rfl (enc := en123_6) (fun x => s123_6_t x.1 x.2.1 x.2.2.1 x.2.2.2.1 x.2.2.2.2.1 x.2.2.2.2.2) (s0_0, s0_1, t7, t8, h0_0, h0_1)
def m123 (s_0 : Bool) (s_1 : List Bs) (h0_0 h0_1 : Bs) : Option R123 :=
  l123_6 s_0 s_1 (s_1.length : Int) (0 : Int) h0_0 h0_1
theorem f123_t (s_0 : Bool) (s_1 : List Bs) (h0_0 h0_1 : Bs) :
    callW (E0 mm) 123 [cd (.lst s_0 (enL enS s_1)), .c (.fn 80 [(0, 0)])] [.cells [.d (dS h0_0), .d (dS h0_1)]] = (m123 s_0 s_1 h0_0 h0_1).map e123 := by
  rw [cR c123_0 [.tmp 4] Tryz.func123]
  unfold m123; exact go k123 @l123_6_t
noncomputable def c79_0 : Code := bodyOf Tryz.f79
def c79_1 := cA c79_0
def c79_3 := cA (cB c79_0)
abbrev R79 := (Bool × Bs × Bs)
def e79 (x : R79) : AV × Heap := (vd (dB x.1), [.cells [.d (dS x.2.1), .d (dS x.2.2)]])
def m79 (s_0 : Bool) (s_1 : List Bs) (h0_0 h0_1 : Bs) : Option R79 :=
  (m123 s_0 s_1 h0_0 h0_1).bind fun yr2 =>
    some ((decide (0 ≤ yr2.1)), yr2.2.1, yr2.2.2)
def k79 := Q (rx c79_1) (Q (rx c79_3) (Q @f123_t (Q @e123.eq_1 (Q (nE c79_0 (.seq c79_1 (.seq c79_3 .ret))) hA))))
theorem f79_t (s_0 : Bool) (s_1 : List Bs) (h0_0 h0_1 : Bs) :
    callW (E0 mm) 79 [cd (.lst s_0 (enL enS s_1)), .c (.fn 80 [(0, 0)])] [.cells [.d (dS h0_0), .d (dS h0_1)]] = (m79 s_0 s_1 h0_0 h0_1).map e79 := by
  rw [cR c79_0 [.tmp 4] Tryz.func79]
  unfold m79; exact go k79 trivial
noncomputable def c78_0 : Code := bodyOf Tryz.f78
def c78_1 := cA c78_0
def c78_3 := cA (cB c78_0)
abbrev R78 := (Bool × Bool × List Bs)
def e78 (x : R78) : AV × Heap := (vd (dB x.1), [.cells [.d (.lst x.2.1 (enL enS x.2.2))]])
def m78 (f_0 f_1 : Bs) (h0_0_0 : Bool) (h0_0_1 : List Bs) : Option R78 :=
  (m79 h0_0_0 h0_0_1 f_0 f_1).bind fun yr2 =>
    some (yr2.1, h0_0_0, h0_0_1)
def k78 := Q (rx c78_1) (Q (rx c78_3) (Q @f79_t (Q @e79.eq_1 (Q (nE c78_0 (.seq c78_1 (.seq c78_3 .ret))) hA))))
theorem f78_t (f_0 f_1 : Bs) (h0_0_0 : Bool) (h0_0_1 : List Bs) :
    callW (E0 mm) 78 [.agg [.d (dS f_0), .d (dS f_1)], .c (.ptr 0 0)] [.cells [.d (.lst h0_0_0 (enL enS h0_0_1))]] = (m78 f_0 f_1 h0_0_0 h0_0_1).map e78 := by
  rw [cR c78_0 [.tmp 3] Tryz.func78]
  unfold m78; exact go k78 trivial
abbrev R122b := (Int × List (Bs × Bs) × Bool × List Bs)
def L122b_0 : List (Nat × Co) := [(0, .keep), (1, .keep), (7, .keep), (8, .keep)]
def e122b (x : R122b) : AV × Heap := (vd (dI x.1), [.cells (enZ enSS x.2.1), .cells [.d (.lst x.2.2.1 (enL enS x.2.2.2))]])
def j122b_25 (h0 : List (Bs × Bs)) (h1_0_0 : Bool) (h1_0_1 : List Bs) : Option R122b :=
  some ((-1 : Int), h0, h1_0_0, h1_0_1)
def K122b_6 (mm : Int) (r : Option (Ex × St)) : Option (AV × Heap) := bodyD (E0 mm) [.tmp 4] 2 false (sq (E0 mm) 122 2 c122_25 (blockD 0 (r)))
def en122b_6 (x : (Nat × Int × Int × List (Bs × Bs) × Bool × List Bs)) : X := (none, [.v (.c (.slc 0 0 2 x.1 none)), .v (.c (.fn 78 [(1, 0)])), vd (dI x.2.1), vd (dI x.2.2.1)], [.cells (enZ enSS x.2.2.2.1), .cells [.d (.lst x.2.2.2.2.1 (enL enS x.2.2.2.2.2))]])
def k122b := Q (rx c122_26) (Q @enZ_isD (Q (enZ_listY (f := enSS) (n := 2) (fun _ => rfl) (by decide)) (Q (rx c122_8) (Q (rx c122_16) (Q (rx c122_18) (Q (enZ_length (f := enSS) (n := 2) (fun _ => rfl)) (Q (enZ_le 2 (by decide)) (Q (enZ_load (f := enSS) (n := 2) (fun _ => rfl)) (Q @f78_t (Q @e78.eq_1 (Q (rx c122_21) (Q @K122b_6.eq_1 (Q (rx c122_24) (Q (rx c122_1) (Q (rx c122_4) (Q (fun mm => lx (E0 mm) 122 c122_6 c122_7 L122b_0) (Q (nE c122_0 (.seq c122_1 (.seq (.seq c122_4 (.block 0 c122_6)) c122_25))) (Q (nE c122_7 (.seq c122_8 (.seq (.cond _ .skip (.exit 0)) (.seq (.block 1 (.seq c122_16 (.seq c122_18 (.cond _ (.seq c122_21 .ret) .skip)))) c122_24)))) (Q @en122b_6.eq_1 (Q @L122b_0.eq_1 hA))))))))))))))))))))
theorem j122b_25_t (h0 : List (Bs × Bs)) (h1_0_0 : Bool) (h1_0_1 : List Bs)  (sl : Sl)  :
    bodyD (E0 mm) [.tmp 4] 2 false (dn (E0 mm) 122 2 c122_25 sl [.cells (enZ enSS h0), .cells [.d (.lst h1_0_0 (enL enS h1_0_1))]]) = (j122b_25 h0 h1_0_0 h1_0_1).map e122b := by
  unfold j122b_25; exact go (Q (nE c122_25 (.seq c122_26 .ret)) k122b) trivial
def s122b_6 (s0_1 : Nat) (t7 t8 : Int) (h0 : List (Bs × Bs)) (h1_0_0 : Bool) (h1_0_1 : List Bs) : Option ((Nat × Int × Int × List (Bs × Bs) × Bool × List Bs) ⊕ R122b) :=
  if (decide (t8 < t7)) = true then
    if 0 ≤ t8 ∧ t8 < (s0_1 : Int) then
      if t8.toNat < h0.length then
        (m78 ((h0.getD t8.toNat default).1) ((h0.getD t8.toNat default).2) h1_0_0 h1_0_1).bind fun yr6 =>
          if yr6.1 = true then
            some (.inr (t8, h0, yr6.2.1, yr6.2.2))
          else
            some (.inl (s0_1, t7, (w64 (t8 + 1)), h0, yr6.2.1, yr6.2.2))
      else none
    else none
  else
    (j122b_25 h0 h1_0_0 h1_0_1).map .inr
theorem s122b_6_t (s0_1 : Nat) (t7 t8 : Int) (h0 : List (Bs × Bs)) (h1_0_0 : Bool) (h1_0_1 : List Bs) :
    stepE (K122b_6 mm) (lp (E0 mm) 122 2 c122_7 L122b_0 (en122b_6 (s0_1, t7, t8, h0, h1_0_0, h1_0_1))) = (s122b_6 s0_1 t7 t8 h0 h1_0_0 h1_0_1).map (sm en122b_6 e122b) := by
  unfold s122b_6; exact go k122b @j122b_25_t
def l122b_6 (s0_1 : Nat) (t7 t8 : Int) (h0 : List (Bs × Bs)) (h1_0_0 : Bool) (h1_0_1 : List Bs) : Option R122b := iter (fun x : (Nat × Int × Int × List (Bs × Bs) × Bool × List Bs) => s122b_6 x.1 x.2.1 x.2.2.1 x.2.2.2.1 x.2.2.2.2.1 x.2.2.2.2.2) (s0_1, t7, t8, h0, h1_0_0, h1_0_1)
theorem l122b_6_t (s0_1 : Nat) (t7 t8 : Int) (h0 : List (Bs × Bs)) (h1_0_0 : Bool) (h1_0_1 : List Bs) : (K122b_6 mm) (itW (lp (E0 mm) 122 2 c122_7 L122b_0) (en122b_6 (s0_1, t7, t8, h0, h1_0_0, h1_0_1))) = (l122b_6 s0_1 t7 t8 h0 h1_0_0 h1_0_1).map e122b :=
  it_sim (K := (K122b_6 mm)) rfl (enc := en122b_6) (fun x => s122b_6_t x.1 x.2.1 x.2.2.1 x.2.2.2.1 x.2.2.2.2.1 x.2.2.2.2.2) (s0_1, t7, t8, h0, h1_0_0, h1_0_1)
def m122b (s_1 : Nat) (h0 : List (Bs × Bs)) (h1_0_0 : Bool) (h1_0_1 : List Bs) : Option R122b :=
  l122b_6 s_1 (s_1 : Int) (0 : Int) h0 h1_0_0 h1_0_1
theorem f122b_t (s_1 : Nat) (h0 : List (Bs × Bs)) (h1_0_0 : Bool) (h1_0_1 : List Bs) :
    callW (E0 mm) 122 [.c (.slc 0 0 2 s_1 none), .c (.fn 78 [(1, 0)])] [.cells (enZ enSS h0), .cells [.d (.lst h1_0_0 (enL enS h1_0_1))]] = (m122b s_1 h0 h1_0_0 h1_0_1).map e122b := by
  rw [cR c122_0 [.tmp 4] Tryz.func122]
  unfold m122b; exact go k122b @l122b_6_t
abbrev R76b := (Nat × List (Bs × Bs) × Bool × List Bs)
def L76b_0 : List (Nat × Co) := [(0, .keep), (1, .keep), (5, .keep), (6, .keep)]
def e76b (x : R76b) : AV × Heap := (.v (.c (.slc 0 0 2 x.1 none)), [.cells (enZ enSS x.2.1), .cells [.d (.lst x.2.2.1 (enL enS x.2.2.2))]])
def j76b_34 (s0_1 : Nat) (i5 j6 : Int) (h0 : List (Bs × Bs)) (h1_0_0 : Bool) (h1_0_1 : List Bs) : Option ((Nat × Int × Int × List (Bs × Bs) × Bool × List Bs) ⊕ R76b) :=
  some (.inl (s0_1, i5, (w64 (j6 + 1)), h0, h1_0_0, h1_0_1))
def K76b_16 (mm : Int) (r : Option (Ex × St)) : Option (AV × Heap) := bodyD (E0 mm) [.tmp 4] 2 true (sq (E0 mm) 76 2 c76_35 (blockD 0 (r)))
def en76b_16 (x : (Nat × Int × Int × List (Bs × Bs) × Bool × List Bs)) : X := (none, [.v (.c (.slc 0 0 2 x.1 none)), .v (.c (.fn 78 [(1, 0)])), vd (dI x.2.1), vd (dI x.2.2.1)], [.cells (enZ enSS x.2.2.2.1), .cells [.d (.lst x.2.2.2.2.1 (enL enS x.2.2.2.2.2))]])
def k76b := Q @enZ_isD (Q (enZ_listY (f := enSS) (n := 2) (fun _ => rfl) (by decide)) (Q (rx c76_36) (Q (fun l hp => cz22 (hp := .cells _ :: hp) (k := 0) (l := l) rfl) (Q (rx c76_38) (Q (rx c76_19) (Q (rx c76_26) (Q (enZ_length (f := enSS) (n := 2) (fun _ => rfl)) (Q (enZ_le 2 (by decide)) (Q (enZ_load (f := enSS) (n := 2) (fun _ => rfl)) (Q @ao29 (Q (rx c76_28) (Q @f78_t (Q @e78.eq_1 (Q (rx c76_31) (Q @wz30 (Q (rx c76_32) (Q @K76b_16.eq_1 (Q (rx c76_1) (Q (rx c76_3) (Q @f122b_t (Q @e122b.eq_1 (Q (rx c76_6) (Q (rx c76_9) (Q (rx c76_14) (Q (fun mm => lx (E0 mm) 76 c76_16 c76_17 L76b_0) (Q (nE c76_0 (.seq c76_1 (.seq c76_3 (.seq (.seq c76_6 (.cond _ (.seq c76_9 .ret) .skip)) (.seq (.seq c76_14 (.block 0 c76_16)) c76_35))))) (Q (nE c76_17 (.seq (.seq c76_19 (.cond _ .skip (.exit 0))) (.seq (.block 1 (.seq c76_26 (.seq c76_28 (.cond _ (.seq c76_31 c76_32) .skip)))) c76_34))) (Q @en76b_16.eq_1 (Q @L76b_0.eq_1 hA)))))))))))))))))))))))))))))
theorem j76b_34_t (s0_1 : Nat) (i5 j6 : Int) (h0 : List (Bs × Bs)) (h1_0_0 : Bool) (h1_0_1 : List Bs) (g2 : Ob) (sl : Sl) (_ : sl 0 = .v (.c (.slc 0 0 2 s0_1 none))) (_ : sl 1 = .v (.c (.fn 78 [(1, 0)]))) (_ : sl 5 = vd (dI i5)) (_ : sl 6 = vd (dI j6)) :
    stepE (K76b_16 mm) (loopK 2 L76b_0 (dn (E0 mm) 76 2 c76_34 sl [.cells (enZ enSS h0), .cells [.d (.lst h1_0_0 (enL enS h1_0_1))], g2])) = (j76b_34 s0_1 i5 j6 h0 h1_0_0 h1_0_1).map (sm en76b_16 e76b) := by
  unfold j76b_34; exact go (Q (rx c76_34) k76b) trivial
def j76b_35 (s0_1 : Nat) (i5 : Int) (h0 : List (Bs × Bs)) (h1_0_0 : Bool) (h1_0_1 : List Bs) : Option R76b :=
  (bnd i5 s0_1).bind fun yk15 =>
    if yk15 + (s0_1 - yk15) ≤ h0.length then
      some (yk15, (h0.take yk15 ++ (List.replicate (s0_1 - yk15) (([] : Bs), ([] : Bs)) ++ h0.drop (yk15 + (s0_1 - yk15)))), h1_0_0, h1_0_1)
    else none
theorem j76b_35_t (s0_1 : Nat) (i5 : Int) (h0 : List (Bs × Bs)) (h1_0_0 : Bool) (h1_0_1 : List Bs)  (sl : Sl) (_ : sl 0 = .v (.c (.slc 0 0 2 s0_1 none))) (_ : sl 5 = vd (dI i5)) :
    bodyD (E0 mm) [.tmp 4] 2 true (dn (E0 mm) 76 2 c76_35 sl [.cells (enZ enSS h0), .cells [.d (.lst h1_0_0 (enL enS h1_0_1))]]) = (j76b_35 s0_1 i5 h0 h1_0_0 h1_0_1).map e76b := by
  unfold j76b_35; exact go (Q (nE c76_35 (.seq c76_36 (.seq c76_38 .ret))) k76b) trivial
def s76b_16 (s0_1 : Nat) (i5 j6 : Int) (h0 : List (Bs × Bs)) (h1_0_0 : Bool) (h1_0_1 : List Bs) : Option ((Nat × Int × Int × List (Bs × Bs) × Bool × List Bs) ⊕ R76b) :=
  if (decide (j6 < (s0_1 : Int))) = true then
    if 0 ≤ j6 ∧ j6 < (s0_1 : Int) then
      if j6.toNat < h0.length then
        (m78 ((h0.getD j6.toNat default).1) ((h0.getD j6.toNat default).2) h1_0_0 h1_0_1).bind fun yr9 =>
          if yr9.1 = true then
            j76b_34 s0_1 i5 j6 h0 yr9.2.1 yr9.2.2
          else
            if 0 ≤ i5 ∧ i5 < (s0_1 : Int) then
              if i5.toNat < h0.length then
                j76b_34 s0_1 (w64 (i5 + 1)) j6 (h0.set i5.toNat ((h0.getD j6.toNat default).1, (h0.getD j6.toNat default).2)) yr9.2.1 yr9.2.2
              else none
            else none
      else none
    else none
  else
    (j76b_35 s0_1 i5 h0 h1_0_0 h1_0_1).map .inr
theorem s76b_16_t (s0_1 : Nat) (i5 j6 : Int) (h0 : List (Bs × Bs)) (h1_0_0 : Bool) (h1_0_1 : List Bs) :
    stepE (K76b_16 mm) (lp (E0 mm) 76 2 c76_17 L76b_0 (en76b_16 (s0_1, i5, j6, h0, h1_0_0, h1_0_1))) = (s76b_16 s0_1 i5 j6 h0 h1_0_0 h1_0_1).map (sm en76b_16 e76b) := by
  unfold s76b_16; exact go k76b (Q @j76b_34_t @j76b_35_t)
def l76b_16 (s0_1 : Nat) (i5 j6 : Int) (h0 : List (Bs × Bs)) (h1_0_0 : Bool) (h1_0_1 : List Bs) : Option R76b := iter (fun x : (Nat × Int × Int × List (Bs × Bs) × Bool × List Bs) => s76b_16 x.1 x.2.1 x.2.2.1 x.2.2.2.1 x.2.2.2.2.1 x.2.2.2.2.2) (s0_1, i5, j6, h0, h1_0_0, h1_0_1)
theorem l76b_16_t (s0_1 : Nat) (i5 j6 : Int) (h0 : List (Bs × Bs)) (h1_0_0 : Bool) (h1_0_1 : List Bs) : (K76b_16 mm) (itW (lp (E0 mm) 76 2 c76_17 L76b_0) (en76b_16 (s0_1, i5, j6, h0, h1_0_0, h1_0_1))) = (l76b_16 s0_1 i5 j6 h0 h1_0_0 h1_0_1).map e76b :=
  it_sim (K := (K76b_16 mm)) rfl (enc := en76b_16) (fun x => s76b_16_t x.1 x.2.1 x.2.2.1 x.2.2.2.1 x.2.2.2.2.1 x.2.2.2.2.2) (s0_1, i5, j6, h0, h1_0_0, h1_0_1)
def m76b (s_1 : Nat) (h0 : List (Bs × Bs)) (h1_0_0 : Bool) (h1_0_1 : List Bs) : Option R76b :=
  (m122b s_1 h0 h1_0_0 h1_0_1).bind fun yr2 =>
    if (yr2.1 == (-1)) = true then
      some (s_1, yr2.2.1, yr2.2.2.1, yr2.2.2.2)
    else
      l76b_16 s_1 yr2.1 (w64 (yr2.1 + 1)) yr2.2.1 yr2.2.2.1 yr2.2.2.2
theorem f76b_t (s_1 : Nat) (h0 : List (Bs × Bs)) (h1_0_0 : Bool) (h1_0_1 : List Bs) :
    callW (E0 mm) 76 [.c (.slc 0 0 2 s_1 none), .c (.fn 78 [(1, 0)])] [.cells (enZ enSS h0), .cells [.d (.lst h1_0_0 (enL enS h1_0_1))]] = (m76b s_1 h0 h1_0_0 h1_0_1).map e76b := by
  rw [cR c76_0 [.tmp 4] Tryz.func76]
  unfold m76b; exact go k76b @l76b_16_t
noncomputable def c37_0 : Code := bodyOf Tryz.f37
def c37_1 := cA c37_0
def c37_2 := cB c37_0
def c37_3 := cA c37_2
def c37_4 := cB c37_2
theorem c37_0_e : c37_0 = .seq c37_1 c37_2 := rfl
theorem c37_1_r : RG (E0 mm) 37 c37_1 := rgN rfl
theorem c37_2_e : c37_2 = .seq c37_3 c37_4 := rfl
theorem c37_3_r : RG (E0 mm) 37 c37_3 := rgN rfl
theorem c37_4_e : c37_4 = .ret := rfl
abbrev R37 := (Bool × List (Bs × Bs))
def e37 (x : R37) : AV × Heap := (.v (.c (.d (.lst x.1 (enL enSS x.2)))), [])
def m37 (l_0 : Bool) (l_1 : List (Bs × Bs)) (names_0 : Bool) (names_1 : List Bs) : Option R37 :=
  (m77 l_0 l_1).bind fun yr2 =>
    match yr2 with
    | .inl yr3 =>
      (m76 names_0 names_1).bind fun yr6 =>
        some (true, ([] : List (Bs × Bs)))
    | .inr yr4 =>
      match yr4 with
      | .inl yr7 =>
        (m76a names_0 names_1).bind fun yr10 =>
          some (false, ([] : List (Bs × Bs)))
      | .inr yr8 =>
        (m76b yr8.1 yr8.2 names_0 names_1).bind fun yr12 =>
          if yr12.1 ≤ yr12.2.1.length then
            some (false, (yr12.2.1.take yr12.1))
          else none
theorem f37_t (l_0 : Bool) (l_1 : List (Bs × Bs)) (names_0 : Bool) (names_1 : List Bs) :
    callW (E0 mm) 37 [.c (.d (.lst l_0 (enL enSS l_1))), .c (.d (.lst names_0 (enL enS names_1)))] [] = (m37 l_0 l_1 names_0 names_1).map e37 := by
  rw [cR c37_0 [.tmp 4] Tryz.func37]
  simp -implicitDefEqProofs only [m37, slots2, c37_0_e, c37_1_r, (show opsOf c37_1 = _ :: _ from rfl), c37_2_e, c37_3_r, (show opsOf c37_3 = _ :: _ from rfl), ent77, prm77, f77_t, setA, setB, za, zb, zc, zd, ze, zf, zg, zh, zi, zj, zk, zl, zm, zn, zo, zp, reduceCtorEq, zE, ↓reduceIte]
  refine brM (fun yc1 => ?_) (fun yr2 yc1 => ?_)
  · rw [yc1]; rfl
  · rcases yr2 with yr3 | yr4
    · simp -implicitDefEqProofs only [e77, ent76, prm76, f76_t, yc1, setA, setB, za, zb, zc, zd, ze, zf, zg, zh, zi, zj, zk, zl, zm, zn, zo, zp, reduceCtorEq, zE, ↓reduceIte]
      refine brM (fun yc5 => ?_) (fun yr6 yc5 => ?_)
      · rw [yc5]; rfl
      · simp -implicitDefEqProofs only [e76, c37_4_e, yc1, yc5, setA, setB, za, zb, zc, zd, ze, zf, zg, zh, zi, zj, zk, zl, zm, zn, zo, zp, reduceCtorEq, zE, ↓reduceIte]
        all_goals rfl
    · rcases yr4 with yr7 | yr8
      · simp -implicitDefEqProofs only [e77, ent76, prm76, f76a_t, yc1, setA, setB, za, zb, zc, zd, ze, zf, zg, zh, zi, zj, zk, zl, zm, zn, zo, zp, reduceCtorEq, zE, ↓reduceIte]
        refine brM (fun yc9 => ?_) (fun yr10 yc9 => ?_)
        · rw [yc9]; rfl
        · simp -implicitDefEqProofs only [e76a, c37_4_e, (enZ_list0 (n := 2) (hp := [.cells [.d (.lst yr10.1 (enL enS yr10.2))], .cells []]) (k := 1) rfl (some 0)), yc1, yc9, setA, setB, za, zb, zc, zd, ze, zf, zg, zh, zi, zj, zk, zl, zm, zn, zo, zp, reduceCtorEq, zE, ↓reduceIte]
          all_goals rfl
      · simp -implicitDefEqProofs only [e77, ent76, prm76, f76b_t, enZ_isD, (enZ_listY (f := enSS) (n := 2) (fun _ => rfl) (by decide)), yc1, setA, setB, za, zb, zc, zd, ze, zf, zg, zh, zi, zj, zk, zl, zm, zn, zo, zp, reduceCtorEq, zE, ↓reduceIte]
        refine brM (fun yc11 => ?_) (fun yr12 yc11 => ?_)
        · rw [yc11]; rfl
        · simp -implicitDefEqProofs only [e76b, c37_4_e, enZ_isD, (enZ_listY (f := enSS) (n := 2) (fun _ => rfl) (by decide)), yc1, yc11, setA, setB, za, zb, zc, zd, ze, zf, zg, zh, zi, zj, zk, zl, zm, zn, zo, zp, reduceCtorEq, zE, ↓reduceIte]
          refine brP (fun yc13 => ?_) (fun yc13 => ?_)
          · simp -implicitDefEqProofs only [(enZ_list (f := enSS) (n := 2) (hp := [.cells [.d (.lst yr12.2.2.1 (enL enS yr12.2.2.2))], .cells (enZ enSS yr12.2.1)]) (k := 1) (l := yr12.2.1) (fun _ => rfl) rfl yr12.1 none yc13), enZ_isD, (enZ_listY (f := enSS) (n := 2) (fun _ => rfl) (by decide)), yc1, yc11, yc13, setA, setB, za, zb, zc, zd, ze, zf, zg, zh, zi, zj, zk, zl, zm, zn, zo, zp, reduceCtorEq, zE, ↓reduceIte]
            all_goals rfl
          · rw [if_neg yc13]; rfl
noncomputable def c58_0 : Code := bodyOf Tryz.f58
def c58_1 := cA c58_0
def c58_3 := cA (cB c58_0)
abbrev R58 := (Bool)
def e58 (x : R58) : AV × Heap := (vd (dB x), [])
def m58 (l_0 : Bool) (l_1 : List (Bs × Bs)) (names_0 : Bool) (names_1 : List Bs) : Option R58 :=
  (m37 l_0 l_1 names_0 names_1).bind fun yr2 =>
    some (decide ((yr2.2.length : Int) < (l_1.length : Int)))
def k58 := Q (rx c58_1) (Q (rx c58_3) (Q @ent37 (Q @prm37 (Q @f37_t (Q @e37.eq_1 (Q (nE c58_0 (.seq c58_1 (.seq c58_3 .ret))) hA))))))
theorem f58_t (l_0 : Bool) (l_1 : List (Bs × Bs)) (names_0 : Bool) (names_1 : List Bs) :
    callW (E0 mm) 58 [cd (.lst l_0 (enL enSS l_1)), cd (.lst names_0 (enL enS names_1))] [] = (m58 l_0 l_1 names_0 names_1).map e58 := by
  rw [cR c58_0 [.tmp 4] Tryz.func58]
  unfold m58; exact go k58 trivial
noncomputable def c30_0 : Code := bodyOf Tryz.f30
def c30_1 := cA c30_0
def c30_3 := cA (cB c30_0)
abbrev R30 := (Bool)
def e30 (x : R30) : AV × Heap := (vd (dB x), [])
def m30 (l_0 : Bool) (l_1 : List (Bs × Bs)) : Option R30 :=
  (m58 l_0 l_1 false ([([105, 102, 45, 109, 97, 116, 99, 104] : Bs), ([105, 102, 45, 110, 111, 110, 101, 45, 109, 97, 116, 99, 104] : Bs), ([105, 102, 45, 109, 111, 100, 105, 102, 105, 101, 100, 45, 115, 105, 110, 99, 101] : Bs), ([105, 102, 45, 117, 110, 109, 111, 100, 105, 102, 105, 101, 100, 45, 115, 105, 110, 99, 101] : Bs), ([105, 102, 45, 114, 97, 110, 103, 101] : Bs), ([114, 97, 110, 103, 101] : Bs), ([99, 111, 110, 116, 101, 110, 116, 45, 108, 101, 110, 103, 116, 104] : Bs), ([116, 114, 97, 110, 115, 102, 101, 114, 45, 101, 110, 99, 111, 100, 105, 110, 103] : Bs)] : List Bs)).bind fun yr2 =>
    some (!yr2)
def k30 := Q (rx c30_1) (Q (rx c30_3) (Q @hd20 (Q @nv21 (Q @rw22 (Q @ns23 (Q (fun (mm : Int) (l_0 : Bool) (l_1 : List (Bs × Bs)) => (show callW (E0 mm) 58 [cd (.lst l_0 (enL enSS l_1)), cd (.lst false (enL enS ([([105, 102, 45, 109, 97, 116, 99, 104] : Bs), ([105, 102, 45, 110, 111, 110, 101, 45, 109, 97, 116, 99, 104] : Bs), ([105, 102, 45, 109, 111, 100, 105, 102, 105, 101, 100, 45, 115, 105, 110, 99, 101] : Bs), ([105, 102, 45, 117, 110, 109, 111, 100, 105, 102, 105, 101, 100, 45, 115, 105, 110, 99, 101] : Bs), ([105, 102, 45, 114, 97, 110, 103, 101] : Bs), ([114, 97, 110, 103, 101] : Bs), ([99, 111, 110, 116, 101, 110, 116, 45, 108, 101, 110, 103, 116, 104] : Bs), ([116, 114, 97, 110, 115, 102, 101, 114, 45, 101, 110, 99, 111, 100, 105, 110, 103] : Bs)] : List Bs)))] [] = _ from f58_t l_0 l_1 false ([([105, 102, 45, 109, 97, 116, 99, 104] : Bs), ([105, 102, 45, 110, 111, 110, 101, 45, 109, 97, 116, 99, 104] : Bs), ([105, 102, 45, 109, 111, 100, 105, 102, 105, 101, 100, 45, 115, 105, 110, 99, 101] : Bs), ([105, 102, 45, 117, 110, 109, 111, 100, 105, 102, 105, 101, 100, 45, 115, 105, 110, 99, 101] : Bs), ([105, 102, 45, 114, 97, 110, 103, 101] : Bs), ([114, 97, 110, 103, 101] : Bs), ([99, 111, 110, 116, 101, 110, 116, 45, 108, 101, 110, 103, 116, 104] : Bs), ([116, 114, 97, 110, 115, 102, 101, 114, 45, 101, 110, 99, 111, 100, 105, 110, 103] : Bs)] : List Bs))) (Q @f58_t (Q @e58.eq_1 (Q (nE c30_0 (.seq c30_1 (.seq c30_3 .ret))) hA)))))))))
theorem f30_t (l_0 : Bool) (l_1 : List (Bs × Bs)) :
    callW (E0 mm) 30 [cd (.lst l_0 (enL enSS l_1))] [] = (m30 l_0 l_1).map e30 := by
  rw [cR c30_0 [.tmp 2] Tryz.func30]
  unfold m30; exact go k30 trivial
noncomputable def c113_0 : Code := bodyOf Tryz.f113
def c113_1 := cA c113_0
def c113_3 := cA (cB c113_0)
abbrev R113 := (Bs)
def e113 (x : R113) : AV × Heap := (vd (dS x), [])
def m113 (s : Bs) : Option R113 :=
  (mTrim s ([32, 9] : Bs)).bind fun yr2 =>
    some yr2
def k113 := Q (rx c113_1) (Q (rx c113_3) (Q @ent142 (Q @prm142 (Q @pTrim_t (Q (nE c113_0 (.seq c113_1 (.seq c113_3 .ret))) hA)))))
theorem f113_t (s : Bs) :
    callW (E0 mm) 113 [cd (dS s)] [] = (m113 s).map e113 := by
  rw [cR c113_0 [.tmp 2] Tryz.func113]
  unfold m113; exact go k113 trivial
noncomputable def c112_0 : Code := bodyOf Tryz.f112
def c112_2 := cA (cA c112_0)
def c112_4 := cA (cB (cA c112_0))
def c112_6 := cA (cB (cB (cA c112_0)))
def c112_8 := cB c112_0
abbrev R112 := (Bs × Int × Bool × List Bs)
def e112 (x : R112) : AV × Heap := (.tup [], [.cells [.d (dS x.1)], .cells [.d (dI x.2.1)], .cells [.own x.2.2.1 (enL enS x.2.2.2) 3], .row x.2.2.2.length (rz x.2.2.1 1)])
def j112_8 (to0 : Int) (h0_0 : Bs) (h1_0 : Int) (h2_0_0 : Bool) (h2_0_1 : List Bs) : Option R112 :=
  some (h0_0, (w64 (to0 + 1)), h2_0_0, h2_0_1)
def k112 := Q @slots4 (Q (rx c112_2) (Q @ent113 (Q @prm113 (Q @f113_t (Q @e113.eq_1 (Q (rx c112_4) (Q (rx c112_6) (Q @hd40 (Q @nv41 (Q @rw42 (Q (nE c112_0 (.seq (.seq c112_2 (.seq c112_4 (.cond _ c112_6 .skip))) c112_8)) hA)))))))))))
theorem j112_8_t (to0 : Int) (h0_0 : Bs) (h1_0 : Int) (h2_0_0 : Bool) (h2_0_1 : List Bs)  (sl : Sl) (_ : sl 0 = vd (dI to0)) (_ : sl 2 = .v (.c (.ptr 1 0))) :
    bodyD (E0 mm) [] 4 false (dn (E0 mm) 112 4 c112_8 sl [.cells [.d (dS h0_0)], .cells [.d (dI h1_0)], .cells [.own h2_0_0 (enL enS h2_0_1) 3], .row h2_0_1.length (rz h2_0_0 1)]) = (j112_8 to0 h0_0 h1_0 h2_0_0 h2_0_1).map e112 := by
  unfold j112_8; exact go (Q (rx c112_8) k112) trivial
def m112 (to : Int) (h0_0 : Bs) (h1_0 : Int) (h2_0_0 : Bool) (h2_0_1 : List Bs) : Option R112 :=
  (bnd to h0_0.length).bind fun yk2 =>
    (bnd h1_0 yk2).bind fun yk4 =>
      (m113 ((h0_0.take yk2).drop yk4)).bind fun yr6 =>
        if (yr6 == ([] : Bs)) = true then
          j112_8 to h0_0 h1_0 h2_0_0 h2_0_1
        else
          if (h2_0_1.length + 1) * 16 ≤ 140737488355328 then
            j112_8 to h0_0 h1_0 false (h2_0_1 ++ ([yr6] : List Bs))
          else none
theorem f112_t (to : Int) (h0_0 : Bs) (h1_0 : Int) (h2_0_0 : Bool) (h2_0_1 : List Bs) :
    callW (E0 mm) 112 [cd (dI to), .c (.ptr 0 0), .c (.ptr 1 0), .c (.ptr 2 0)] [.cells [.d (dS h0_0)], .cells [.d (dI h1_0)], .cells [.own h2_0_0 (enL enS h2_0_1) 3], .row h2_0_1.length (rz h2_0_0 1)] = (m112 to h0_0 h1_0 h2_0_0 h2_0_1).map e112 := by
  rw [cR c112_0 [] Tryz.func112]
  unfold m112; exact go k112 @j112_8_t
noncomputable def c68_0 : Code := bodyOf Tryz.f68
def c68_1 := cA c68_0
def c68_3 := cA (cB c68_0)
def c68_5 := cA (cB (cB c68_0))
def c68_7 := cA (cB (cB (cB c68_0)))
def c68_10 := cA (cA (cB (cB (cB (cB c68_0)))))
def c68_12 := cA (cB (cA (cB (cB (cB (cB c68_0))))))
def c68_13 := cA c68_12
def c68_14 := cA c68_13
def c68_21 := cA (cA (cB (cB c68_13)))
def c68_24 := cA (cA (cB (cA (cB (cB c68_13)))))
def c68_26 := cA (cB (cA (cB (cA (cB (cB c68_13))))))
def c68_28 := cA (cB (cB (cA (cB (cA (cB (cB c68_13)))))))
def c68_29 := cB (cB (cB (cA (cB (cA (cB (cB c68_13)))))))
def c68_30 := cA c68_29
def c68_32 := cA (cB c68_29)
def c68_34 := cA (cB (cB c68_29))
def c68_36 := cA (cB (cB (cB c68_29)))
def c68_37 := cB (cB (cB (cB c68_29)))
def c68_38 := cA c68_37
def c68_40 := cB (cB (cB (cB (cB c68_0))))
def c68_41 := cA c68_40
def c68_43 := cA (cB c68_40)
def L68_0 : List (Nat × Co) := [(1, .keep), (3, .keep), (5, .keep), (6, .keep), (7, .keep), (12, .keep)]
abbrev R68 := (Bool × List Bs)
def e68 (x : R68) : AV × Heap := (.v (.c (.own x.1 (enL enS x.2) 0)), [.row x.2.length (rz x.1 1)])
def j68_37 (quoted5 masked6 : Bool) (i8 : Int) (t30 : Bool) (h0_0 : Bs) (h1_0_0 : Bool) (h1_0_1 : List Bs) (h3_0 : Int) (s4 : Bs) (p4 : Nat) : Option ((Bool × Bool × Bs × Bool × List Bs × Int × Bs × Nat) ⊕ R68) :=
  if t30 = true then
    (m112 i8 h0_0 h3_0 h1_0_0 h1_0_1).bind fun yr10 =>
      some (.inl (quoted5, masked6, yr10.1, yr10.2.2.1, yr10.2.2.2, yr10.2.1, s4, p4))
  else
    some (.inl (quoted5, masked6, h0_0, h1_0_0, h1_0_1, h3_0, s4, p4))
def K68_12 (mm : Int) (r : Option (Ex × St)) : Option (AV × Heap) := bodyD (E0 mm) [.tmp 2] 0 false (sq (E0 mm) 68 0 c68_40 (blockD 0 (r)))
def en68_12 (x : (Bool × Bool × Bs × Bool × List Bs × Int × Bs × Nat)) : X := (none, [.v (.c (.ptr 0 0)), .v (.c (.ptr 1 0)), vd (dB x.1), vd (dB x.2.1), .v (.c (.fn 112 [(0, 0), (3, 0), (1, 0)])), .v (.c (.it 4))], [.cells [.d (dS x.2.2.1)], .cells [.own x.2.2.2.1 (enL enS x.2.2.2.2.1) 2], .row x.2.2.2.2.1.length (rz x.2.2.2.1 1), .cells [.d (dI x.2.2.2.2.2.1)], .siter (S x.2.2.2.2.2.2.1) x.2.2.2.2.2.2.2])
def k68 := Q (show List.range 5 = [0, 1, 2, 3, 4] from rfl) (Q (rx c68_38) (Q @ent112 (Q @prm112 (Q @f112_t (Q @e112.eq_1 (Q (rx c68_30) (Q (rx c68_32) (Q (rx c68_34) (Q (rx c68_36) (Q (rx c68_41) (Q (rx c68_43) (Q (rx c68_14) (Q @dec_eq (Q (rx c68_21) (Q (rx c68_24) (Q (rx c68_26) (Q (rx c68_28) (Q @K68_12.eq_1 (Q (rx c68_1) (Q (rx c68_3) (Q @zc45 (Q @ao38 (Q (rx c68_5) (Q @ao39 (Q (rx c68_7) (Q (rx c68_10) (Q (fun mm => lx (E0 mm) 68 c68_12 c68_13 L68_0) (Q (nE c68_0 (.seq c68_1 (.seq c68_3 (.seq c68_5 (.seq c68_7 (.seq (.seq c68_10 (.block 0 c68_12)) c68_40)))))) (Q (nE c68_13 (.seq c68_14 (.seq (.cond _ .skip (.exit 0)) (.block 1 (.seq c68_21 (.block 2 (.seq c68_24 (.cond _ c68_26 (.seq c68_28 c68_29))))))))) (Q @en68_12.eq_1 (Q @L68_0.eq_1 hA)))))))))))))))))))))))))))))))
theorem j68_37_t (quoted5 masked6 : Bool) (i8 : Int) (t30 : Bool) (h0_0 : Bs) (h1_0_0 : Bool) (h1_0_1 : List Bs) (h3_0 : Int) (s4 : Bs) (p4 : Nat)  (sl : Sl) (_ : sl 1 = .v (.c (.ptr 0 0))) (_ : sl 3 = .v (.c (.ptr 1 0))) (_ : sl 5 = vd (dB quoted5)) (_ : sl 6 = vd (dB masked6)) (_ : sl 7 = .v (.c (.fn 112 [(0, 0), (3, 0), (1, 0)]))) (_ : sl 8 = vd (dI i8)) (_ : sl 12 = .v (.c (.it 4))) (_ : sl 30 = vd (dB t30)) :
    stepE (K68_12 mm) (loopK 0 L68_0 (blockD 1 (blockD 2 (dn (E0 mm) 68 0 c68_37 sl [.cells [.d (dS h0_0)], .cells [.own h1_0_0 (enL enS h1_0_1) 2], .row h1_0_1.length (rz h1_0_0 1), .cells [.d (dI h3_0)], .siter (S s4) p4])))) = (j68_37 quoted5 masked6 i8 t30 h0_0 h1_0_0 h1_0_1 h3_0 s4 p4).map (sm en68_12 e68) := by
  unfold j68_37; exact go (Q (nE c68_37 (.cond _ c68_38 .skip)) k68) trivial
def j68_29 (quoted5 masked6 : Bool) (i8 r9 : Int) (t19 : Bool) (h0_0 : Bs) (h1_0_0 : Bool) (h1_0_1 : List Bs) (h3_0 : Int) (s4 : Bs) (p4 : Nat) : Option ((Bool × Bool × Bs × Bool × List Bs × Int × Bs × Nat) ⊕ R68) :=
  if t19 = true then
    some (.inl (quoted5, true, h0_0, h1_0_0, h1_0_1, h3_0, s4, p4))
  else
    if (r9 == 34) = true then
      some (.inl ((!quoted5), masked6, h0_0, h1_0_0, h1_0_1, h3_0, s4, p4))
    else
      if (r9 == 44) = true then
        j68_37 quoted5 masked6 i8 (!quoted5) h0_0 h1_0_0 h1_0_1 h3_0 s4 p4
      else
        j68_37 quoted5 masked6 i8 false h0_0 h1_0_0 h1_0_1 h3_0 s4 p4
theorem j68_29_t (quoted5 masked6 : Bool) (i8 r9 : Int) (t19 : Bool) (h0_0 : Bs) (h1_0_0 : Bool) (h1_0_1 : List Bs) (h3_0 : Int) (s4 : Bs) (p4 : Nat)  (sl : Sl) (_ : sl 1 = .v (.c (.ptr 0 0))) (_ : sl 3 = .v (.c (.ptr 1 0))) (_ : sl 5 = vd (dB quoted5)) (_ : sl 6 = vd (dB masked6)) (_ : sl 7 = .v (.c (.fn 112 [(0, 0), (3, 0), (1, 0)]))) (_ : sl 8 = vd (dI i8)) (_ : sl 9 = vd (.sc (.int .i32 r9))) (_ : sl 12 = .v (.c (.it 4))) (_ : sl 19 = vd (dB t19)) :
    stepE (K68_12 mm) (loopK 0 L68_0 (blockD 1 (blockD 2 (dn (E0 mm) 68 0 c68_29 sl [.cells [.d (dS h0_0)], .cells [.own h1_0_0 (enL enS h1_0_1) 2], .row h1_0_1.length (rz h1_0_0 1), .cells [.d (dI h3_0)], .siter (S s4) p4])))) = (j68_29 quoted5 masked6 i8 r9 t19 h0_0 h1_0_0 h1_0_1 h3_0 s4 p4).map (sm en68_12 e68) := by
  unfold j68_29; exact go (Q (nE c68_29 (.cond _ c68_30 (.seq c68_32 (.cond _ c68_34 (.seq c68_36 c68_37))))) k68) @j68_37_t
def j68_40 (h0_0 : Bs) (h1_0_0 : Bool) (h1_0_1 : List Bs) (h3_0 : Int) : Option R68 :=
  (m112 (h0_0.length : Int) h0_0 h3_0 h1_0_0 h1_0_1).bind fun yr12 =>
    some (yr12.2.2.1, yr12.2.2.2)
theorem j68_40_t (h0_0 : Bs) (h1_0_0 : Bool) (h1_0_1 : List Bs) (h3_0 : Int) (g4 : Ob) (sl : Sl) (_ : sl 1 = .v (.c (.ptr 0 0))) (_ : sl 3 = .v (.c (.ptr 1 0))) (_ : sl 7 = .v (.c (.fn 112 [(0, 0), (3, 0), (1, 0)]))) :
    bodyD (E0 mm) [.tmp 2] 0 false (dn (E0 mm) 68 0 c68_40 sl [.cells [.d (dS h0_0)], .cells [.own h1_0_0 (enL enS h1_0_1) 2], .row h1_0_1.length (rz h1_0_0 1), .cells [.d (dI h3_0)], g4]) = (j68_40 h0_0 h1_0_0 h1_0_1 h3_0).map e68 := by
  unfold j68_40; exact go (Q (nE c68_40 (.seq c68_41 (.seq c68_43 .ret))) k68) trivial
def s68_12 (quoted5 masked6 : Bool) (h0_0 : Bs) (h1_0_0 : Bool) (h1_0_1 : List Bs) (h3_0 : Int) (s4 : Bs) (p4 : Nat) : Option ((Bool × Bool × Bs × Bool × List Bs × Int × Bs × Nat) ⊕ R68) :=
  if (decide (p4 < s4.length)) = true then
    if masked6 = true then
      some (.inl (quoted5, false, h0_0, h1_0_0, h1_0_1, h3_0, s4, (p4 + uw s4 p4)))
    else
      if quoted5 = true then
        j68_29 true false (p4 : Int) (uc s4 p4 : Int) ((uc s4 p4 : Int) == 92) h0_0 h1_0_0 h1_0_1 h3_0 s4 (p4 + uw s4 p4)
      else
        j68_29 false false (p4 : Int) (uc s4 p4 : Int) false h0_0 h1_0_0 h1_0_1 h3_0 s4 (p4 + uw s4 p4)
  else
    (j68_40 h0_0 h1_0_0 h1_0_1 h3_0).map .inr
theorem s68_12_t (quoted5 masked6 : Bool) (h0_0 : Bs) (h1_0_0 : Bool) (h1_0_1 : List Bs) (h3_0 : Int) (s4 : Bs) (p4 : Nat) :
    stepE (K68_12 mm) (lp (E0 mm) 68 0 c68_13 L68_0 (en68_12 (quoted5, masked6, h0_0, h1_0_0, h1_0_1, h3_0, s4, p4))) = (s68_12 quoted5 masked6 h0_0 h1_0_0 h1_0_1 h3_0 s4 p4).map (sm en68_12 e68) := by
  unfold s68_12; exact go k68 (Q @j68_29_t @j68_40_t)
def l68_12 (quoted5 masked6 : Bool) (h0_0 : Bs) (h1_0_0 : Bool) (h1_0_1 : List Bs) (h3_0 : Int) (s4 : Bs) (p4 : Nat) : Option R68 := iter (fun x : (Bool × Bool × Bs × Bool × List Bs × Int × Bs × Nat) => s68_12 x.1 x.2.1 x.2.2.1 x.2.2.2.1 x.2.2.2.2.1 x.2.2.2.2.2.1 x.2.2.2.2.2.2.1 x.2.2.2.2.2.2.2) (quoted5, masked6, h0_0, h1_0_0, h1_0_1, h3_0, s4, p4)
theorem l68_12_t (quoted5 masked6 : Bool) (h0_0 : Bs) (h1_0_0 : Bool) (h1_0_1 : List Bs) (h3_0 : Int) (s4 : Bs) (p4 : Nat) : (K68_12 mm) (itW (lp (E0 mm) 68 0 c68_13 L68_0) (en68_12 (quoted5, masked6, h0_0, h1_0_0, h1_0_1, h3_0, s4, p4))) = (l68_12 quoted5 masked6 h0_0 h1_0_0 h1_0_1 h3_0 s4 p4).map e68 :=
  it_sim (K := (K68_12 mm)) rfl (enc := en68_12) (fun x => s68_12_t x.1 x.2.1 x.2.2.1 x.2.2.2.1 x.2.2.2.2.1 x.2.2.2.2.2.1 x.2.2.2.2.2.2.1 x.2.2.2.2.2.2.2) (quoted5, masked6, h0_0, h1_0_0, h1_0_1, h3_0, s4, p4)
def m68 (s : Bs) : Option R68 :=
  l68_12 false false s true ([] : List Bs) (0 : Int) s 0
theorem f68_t (s : Bs) :
    callW (E0 mm) 68 [cd (dS s)] [] = (m68 s).map e68 := by
  rw [cR c68_0 [.tmp 2] Tryz.func68]
  unfold m68; exact go k68 @l68_12_t
noncomputable def c26_0 : Code := bodyOf Tryz.f26
def c26_1 := cA c26_0
def c26_3 := cA (cB c26_0)
def c26_6 := cA (cA (cB (cB c26_0)))
def c26_8 := cA (cB (cA (cB (cB c26_0))))
def c26_9 := cA c26_8
def c26_10 := cA c26_9
def c26_18 := cA (cA (cA (cB (cB c26_9))))
def c26_19 := cB (cA (cA (cB (cB c26_9))))
def c26_20 := cB (cB (cB c26_9))
def c26_21 := cB (cB (cB c26_0))
def c26_22 := cA c26_21
def L26_0 : List (Nat × Co) := [(5, .own), (10, .keep), (11, .keep), (12, .keep)]
abbrev R26 := (Bool × List Bs)
def e26 (x : R26) : AV × Heap := (.v (.c (.own x.1 (enL enS x.2) 0)), [.row x.2.length (rz x.1 1)])
def j26_21 (out5_0 : Bool) (out5_1 : List Bs) : Option R26 :=
  some (out5_0, out5_1)
def K26_8 (mm : Int) (r : Option (Ex × St)) : Option (AV × Heap) := bodyD (E0 mm) [.tmp 4] 0 false (sq (E0 mm) 26 0 c26_21 (blockD 0 (r)))
def en26_8 (x : (Bool × List Bs × Bool × List Bs × Int × Int)) : X := (none, [.v (.c (.own x.1 (enL enS x.2.1) 0)), .v (.c (.own x.2.2.1 (enL enS x.2.2.2.1) 1)), vd (dI x.2.2.2.2.1), vd (dI x.2.2.2.2.2)], [.row x.2.1.length (rz x.1 1), .row x.2.2.2.1.length (rz x.2.2.1 1)])
def k26 := Q (rx c26_22) (Q (rx c26_10) (Q (rx c26_18) (Q (rx c26_19) (Q @ent68 (Q @prm68 (Q @f68_t (Q @e68.eq_1 (Q @hd43 (Q (rx c26_20) (Q @K26_8.eq_1 (Q (rx c26_1) (Q (rx c26_3) (Q (rx c26_6) (Q @f29_t (Q @e29.eq_1 (Q (fun mm => lx (E0 mm) 26 c26_8 c26_9 L26_0) (Q (nE c26_0 (.seq c26_1 (.seq c26_3 (.seq (.seq c26_6 (.block 0 c26_8)) c26_21)))) (Q (nE c26_9 (.seq c26_10 (.seq (.cond _ .skip (.exit 0)) (.seq (.block 1 (.seq c26_18 c26_19)) c26_20)))) (Q @en26_8.eq_1 (Q @L26_0.eq_1 hA))))))))))))))))))))
theorem j26_21_t (out5_0 : Bool) (out5_1 : List Bs) (g1 : Ob) (sl : Sl) (_ : sl 5 = .v (.c (.own out5_0 (enL enS out5_1) 0))) :
    bodyD (E0 mm) [.tmp 4] 0 false (dn (E0 mm) 26 0 c26_21 sl [.row out5_1.length (rz out5_0 1), g1]) = (j26_21 out5_0 out5_1).map e26 := by
  unfold j26_21; exact go (Q (nE c26_21 (.seq c26_22 .ret)) k26) trivial
def s26_8 (out5_0 : Bool) (out5_1 : List Bs) (t10_0 : Bool) (t10_1 : List Bs) (t11 t12 : Int) : Option ((Bool × List Bs × Bool × List Bs × Int × Int) ⊕ R26) :=
  if (decide (t12 < t11)) = true then
    if 0 ≤ t12 ∧ t12 < (t10_1.length : Int) then
      (m68 (t10_1.getD t12.toNat default)).bind fun yr7 =>
        if yr7.2 = [] ∨ (out5_1.length + yr7.2.length) * 16 ≤ 140737488355328 then
          some (.inl ((out5_0 && yr7.2.isEmpty), (out5_1 ++ yr7.2), t10_0, t10_1, t11, (w64 (t12 + 1))))
        else none
    else none
  else
    (j26_21 out5_0 out5_1).map .inr
theorem s26_8_t (out5_0 : Bool) (out5_1 : List Bs) (t10_0 : Bool) (t10_1 : List Bs) (t11 t12 : Int) :
    stepE (K26_8 mm) (lp (E0 mm) 26 0 c26_9 L26_0 (en26_8 (out5_0, out5_1, t10_0, t10_1, t11, t12))) = (s26_8 out5_0 out5_1 t10_0 t10_1 t11 t12).map (sm en26_8 e26) := by
  unfold s26_8; exact go k26 @j26_21_t
def l26_8 (out5_0 : Bool) (out5_1 : List Bs) (t10_0 : Bool) (t10_1 : List Bs) (t11 t12 : Int) : Option R26 := iter (fun x : (Bool × List Bs × Bool × List Bs × Int × Int) => s26_8 x.1 x.2.1 x.2.2.1 x.2.2.2.1 x.2.2.2.2.1 x.2.2.2.2.2) (out5_0, out5_1, t10_0, t10_1, t11, t12)
theorem l26_8_t (out5_0 : Bool) (out5_1 : List Bs) (t10_0 : Bool) (t10_1 : List Bs) (t11 t12 : Int) : (K26_8 mm) (itW (lp (E0 mm) 26 0 c26_9 L26_0) (en26_8 (out5_0, out5_1, t10_0, t10_1, t11, t12))) = (l26_8 out5_0 out5_1 t10_0 t10_1 t11 t12).map e26 :=
  it_sim (K := (K26_8 mm)) rfl (enc := en26_8) (fun x => s26_8_t x.1 x.2.1 x.2.2.1 x.2.2.2.1 x.2.2.2.2.1 x.2.2.2.2.2) (out5_0, out5_1, t10_0, t10_1, t11, t12)
def m26 (l_0 : Bool) (l_1 : List (Bs × Bs)) (name : Bs) : Option R26 :=
  (m29 l_0 l_1 name).bind fun yr2 =>
    l26_8 true ([] : List Bs) yr2.1 yr2.2 (yr2.2.length : Int) (0 : Int)
theorem f26_t (l_0 : Bool) (l_1 : List (Bs × Bs)) (name : Bs) :
    callW (E0 mm) 26 [cd (.lst l_0 (enL enSS l_1)), cd (dS name)] [] = (m26 l_0 l_1 name).map e26 := by
  rw [cR c26_0 [.tmp 4] Tryz.func26]
  unfold m26; exact go k26 @l26_8_t
noncomputable def c154_0 : Code := bodyOf Tryz.f154
def c154_1 := cA c154_0
def c154_4 := cA (cA (cB c154_0))
def c154_6 := cA (cB (cA (cB c154_0)))
def c154_9 := cA (cA (cB (cB (cA (cB c154_0)))))
def c154_13 := cA (cB (cB c154_0))
abbrev R154 := (Bs × Bs × Bool)
def e154 (x : R154) : AV × Heap := (.tup [cd (dS x.1), cd (dS x.2.1), cd (dB x.2.2)], [])
def m154 (s sep : Bs) : Option R154 :=
  (mIx s sep).bind fun yr2 =>
    if (decide (0 ≤ yr2)) = true then
      (bnd yr2 s.length).bind fun yk5 =>
        (bnd (w64 (yr2 + (sep.length : Int))) s.length).bind fun yk7 =>
          some ((s.take yk5), (s.drop yk7), true)
    else
      some (s, ([] : Bs), false)
def k154 := Q (rx c154_1) (Q (rx c154_4) (Q @pIndex_t (Q (rx c154_6) (Q (fun mm => ry (E0 mm) c154_9) (Q (rx c154_13) (Q (nE c154_0 (.seq c154_1 (.seq (.seq c154_4 (.seq c154_6 (.cond _ (.seq c154_9 .ret) .skip))) (.seq c154_13 .ret)))) hA))))))
theorem f154_t (s sep : Bs) :
    callW (E0 mm) 154 [cd (dS s), cd (dS sep)] [] = (m154 s sep).map e154 := by
  rw [cR c154_0 [.tmp 4, .tmp 5, .tmp 6] Tryz.func154]
  unfold m154; exact go k154 trivial
noncomputable def c140_0 : Code := bodyOf Tryz.f140
def c140_1 := cA c140_0
def c140_3 := cA (cB c140_0)
abbrev R140 := (Bs × Bs × Bool)
def e140 (x : R140) : AV × Heap := (.tup [cd (dS x.1), cd (dS x.2.1), cd (dB x.2.2)], [])
def m140 (s sep : Bs) : Option R140 :=
  (m154 s sep).bind fun yr2 =>
    some (yr2.1, yr2.2.1, yr2.2.2)
def k140 := Q (rx c140_1) (Q (rx c140_3) (Q @ent154 (Q @prm154 (Q @f154_t (Q @e154.eq_1 (Q (nE c140_0 (.seq c140_1 (.seq c140_3 .ret))) hA))))))
theorem f140_t (s sep : Bs) :
    callW (E0 mm) 140 [cd (dS s), cd (dS sep)] [] = (m140 s sep).map e140 := by
  rw [cR c140_0 [.tmp 4, .tmp 5, .tmp 6] Tryz.func140]
  unfold m140; exact go k140 trivial
noncomputable def c144_0 : Code := bodyOf Tryz.f144
def c144_1 := cA c144_0
def c144_3 := cA (cB c144_0)
abbrev R144 := (Int)
def e144 (x : R144) : AV × Heap := (vd (dI x), [])
def m144 (s : Bs) (c : UInt8) : Option R144 :=
  some (Lib.indexByte s c)
def k144 := Q (rx c144_1) (Q (rx c144_3) (Q @entf163 (Q @exf163 (Q @ext163_t (Q (nE c144_0 (.seq c144_1 (.seq c144_3 .ret))) hA)))))
theorem f144_t (s : Bs) (c : UInt8) :
    callW (E0 mm) 144 [cd (dS s), cd (.sc (.int .u8 ((c).toNat : Int)))] [] = (m144 s c).map e144 := by
  rw [cR c144_0 [.tmp 4] Tryz.func144]
  unfold m144; exact go k144 trivial
noncomputable def c116_0 : Code := bodyOf Tryz.f116
def c116_1 := cA c116_0
def c116_3 := cA (cB c116_0)
abbrev R116 := (Int)
def e116 (x : R116) : AV × Heap := (vd (dI x), [])
def m116 (s : Bs) (c : UInt8) : Option R116 :=
  (m144 s c).bind fun yr2 =>
    some yr2
def k116 := Q (rx c116_1) (Q (rx c116_3) (Q @ent144 (Q @prm144 (Q @f144_t (Q @e144.eq_1 (Q (nE c116_0 (.seq c116_1 (.seq c116_3 .ret))) hA))))))
theorem f116_t (s : Bs) (c : UInt8) :
    callW (E0 mm) 116 [cd (dS s), cd (.sc (.int .u8 ((c).toNat : Int)))] [] = (m116 s c).map e116 := by
  rw [cR c116_0 [.tmp 4] Tryz.func116]
  unfold m116; exact go k116 trivial
noncomputable def c115_0 : Code := bodyOf Tryz.f115
def c115_1 := cA c115_0
def c115_3 := cA (cB c115_0)
def c115_5 := cA (cB (cB c115_0))
abbrev R115 := (Bool)
def e115 (x : R115) : AV × Heap := (vd (dB x), [])
def m115 (c : UInt8) : Option R115 :=
  if (decide ((97 : UInt8) ≤ (c ||| (32 : UInt8)))) = true then
    if (decide ((c ||| (32 : UInt8)) ≤ (122 : UInt8))) = true then
      some true
    else
      if (decide ((48 : UInt8) ≤ c)) = true then
        if (decide (c ≤ (57 : UInt8))) = true then
          some true
        else
          (m116 ([33, 35, 36, 37, 38, 39, 42, 43, 45, 46, 94, 95, 96, 124, 126] : Bs) c).bind fun yr6 =>
            some (decide (0 ≤ yr6))
      else
        (m116 ([33, 35, 36, 37, 38, 39, 42, 43, 45, 46, 94, 95, 96, 124, 126] : Bs) c).bind fun yr8 =>
          some (decide (0 ≤ yr8))
  else
    if (decide ((48 : UInt8) ≤ c)) = true then
      if (decide (c ≤ (57 : UInt8))) = true then
        some true
      else
        (m116 ([33, 35, 36, 37, 38, 39, 42, 43, 45, 46, 94, 95, 96, 124, 126] : Bs) c).bind fun yr12 =>
          some (decide (0 ≤ yr12))
    else
      (m116 ([33, 35, 36, 37, 38, 39, 42, 43, 45, 46, 94, 95, 96, 124, 126] : Bs) c).bind fun yr14 =>
        some (decide (0 ≤ yr14))
def k115 := Q (rx c115_1) (Q (rx c115_3) (Q (rx c115_5) (Q @ent116 (Q @prm116 (Q (fun (mm : Int) (c : UInt8) => (show callW (E0 mm) 116 [cd (dS ([33, 35, 36, 37, 38, 39, 42, 43, 45, 46, 94, 95, 96, 124, 126] : Bs)), cd (.sc (.int .u8 ((c).toNat : Int)))] [] = _ from f116_t ([33, 35, 36, 37, 38, 39, 42, 43, 45, 46, 94, 95, 96, 124, 126] : Bs) c)) (Q @f116_t (Q @e116.eq_1 (Q (nE c115_0 (.seq c115_1 (.seq c115_3 (.seq c115_5 .ret)))) hA))))))))
theorem f115_t (c : UInt8) :
    callW (E0 mm) 115 [cd (.sc (.int .u8 ((c).toNat : Int)))] [] = (m115 c).map e115 := by
  rw [cR c115_0 [.tmp 2] Tryz.func115]
  unfold m115; exact go k115 trivial
noncomputable def c143_0 : Code := bodyOf Tryz.f143
def c143_1 := cA c143_0
def c143_3 := cA (cB c143_0)
abbrev R143 := (Bool)
def e143 (x : R143) : AV × Heap := (vd (dB x), [.cells [.d (.sc (.func (.func 115) #[] #[]))]])
def m143 (c : UInt8) : Option R143 :=
  (m115 c).bind fun yr2 =>
    some (!yr2)
def k143 := Q (rx c143_1) (Q (rx c143_3) (Q @sz115 (Q @ag115 (Q @ent115 (Q @prm115 (Q @f115_t (Q @e115.eq_1 (Q (nE c143_0 (.seq c143_1 (.seq c143_3 .ret))) hA))))))))
theorem f143_t (c : UInt8) :
    callW (E0 mm) 143 [cd (.sc (.int .u8 ((c).toNat : Int))), .c (.ptr 0 0)] [.cells [.d (.sc (.func (.func 115) #[] #[]))]] = (m143 c).map e143 := by
  rw [cR c143_0 [.tmp 3] Tryz.func143]
  unfold m143; exact go k143 trivial
abbrev R147a := (Int)
def L147a_0 : List (Nat × Co) := [(0, .keep), (1, .keep), (7, .keep), (8, .keep)]
def e147a (x : R147a) : AV × Heap := (vd (dI x), [.cells [.d (.sc (.func (.func 115) #[] #[]))]])
def j147a_25  : Option R147a :=
  some (-1 : Int)
def K147a_6 (mm : Int) (r : Option (Ex × St)) : Option (AV × Heap) := bodyD (E0 mm) [.tmp 4] 1 false (sq (E0 mm) 147 1 c147_25 (blockD 0 (r)))
def en147a_6 (x : (Bool × List UInt8 × Int × Int)) : X := (none, [vd (.lst x.1 (enL enB x.2.1)), .v (.c (.fn 143 [(0, 0)])), vd (dI x.2.2.1), vd (dI x.2.2.2)], [.cells [.d (.sc (.func (.func 115) #[] #[]))]])
def k147a := Q (rx c147_26) (Q (rx c147_8) (Q (rx c147_16) (Q (rx c147_18) (Q @ent143 (Q @prm143 (Q @f143_t (Q @e143.eq_1 (Q (rx c147_21) (Q @K147a_6.eq_1 (Q (rx c147_24) (Q (rx c147_1) (Q (rx c147_4) (Q (fun mm => lx (E0 mm) 147 c147_6 c147_7 L147a_0) (Q (nE c147_0 (.seq c147_1 (.seq (.seq c147_4 (.block 0 c147_6)) c147_25))) (Q (nE c147_7 (.seq c147_8 (.seq (.cond _ .skip (.exit 0)) (.seq (.block 1 (.seq c147_16 (.seq c147_18 (.cond _ (.seq c147_21 .ret) .skip)))) c147_24)))) (Q @en147a_6.eq_1 (Q @L147a_0.eq_1 hA)))))))))))))))))
theorem j147a_25_t (sl : Sl)  :
    bodyD (E0 mm) [.tmp 4] 1 false (dn (E0 mm) 147 1 c147_25 sl [.cells [.d (.sc (.func (.func 115) #[] #[]))]]) = (j147a_25).map e147a := by
  unfold j147a_25; exact go (Q (nE c147_25 (.seq c147_26 .ret)) k147a) trivial
def s147a_6 (s0_0 : Bool) (s0_1 : List UInt8) (t7 t8 : Int) : Option ((Bool × List UInt8 × Int × Int) ⊕ R147a) :=
  if (decide (t8 < t7)) = true then
    if 0 ≤ t8 ∧ t8 < (s0_1.length : Int) then
      (m143 (s0_1.getD t8.toNat default)).bind fun yr5 =>
        if yr5 = true then
          some (.inr t8)
        else
          some (.inl (s0_0, s0_1, t7, (w64 (t8 + 1))))
    else none
  else
    (j147a_25).map .inr
theorem s147a_6_t (s0_0 : Bool) (s0_1 : List UInt8) (t7 t8 : Int) :
    stepE (K147a_6 mm) (lp (E0 mm) 147 1 c147_7 L147a_0 (en147a_6 (s0_0, s0_1, t7, t8))) = (s147a_6 s0_0 s0_1 t7 t8).map (sm en147a_6 e147a) := by
  unfold s147a_6; exact go k147a @j147a_25_t
def l147a_6 (s0_0 : Bool) (s0_1 : List UInt8) (t7 t8 : Int) : Option R147a := iter (fun x : (Bool × List UInt8 × Int × Int) => s147a_6 x.1 x.2.1 x.2.2.1 x.2.2.2) (s0_0, s0_1, t7, t8)
theorem l147a_6_t (s0_0 : Bool) (s0_1 : List UInt8) (t7 t8 : Int) : (K147a_6 mm) (itW (lp (E0 mm) 147 1 c147_7 L147a_0) (en147a_6 (s0_0, s0_1, t7, t8))) = (l147a_6 s0_0 s0_1 t7 t8).map e147a :=
  it_sim (K := (K147a_6 mm)) rfl (enc := en147a_6) (fun x => s147a_6_t x.1 x.2.1 x.2.2.1 x.2.2.2) (s0_0, s0_1, t7, t8)
def m147a (s_0 : Bool) (s_1 : List UInt8) : Option R147a :=
  l147a_6 s_0 s_1 (s_1.length : Int) (0 : Int)
theorem f147a_t (s_0 : Bool) (s_1 : List UInt8) :
    callW (E0 mm) 147 [cd (.lst s_0 (enL enB s_1)), .c (.fn 143 [(0, 0)])] [.cells [.d (.sc (.func (.func 115) #[] #[]))]] = (m147a s_0 s_1).map e147a := by
  rw [cR c147_0 [.tmp 4] Tryz.func147]
  unfold m147a; exact go k147a @l147a_6_t
abbrev R120a := (Bool)
def e120a (x : R120a) : AV × Heap := (vd (dB x), [.cells [.d (.sc (.func (.func 115) #[] #[]))]])
def m120a (s_0 : Bool) (s_1 : List UInt8) : Option R120a :=
  (m147a s_0 s_1).bind fun yr2 =>
    some (decide (0 ≤ yr2))
def k120a := Q (rx c120_1) (Q (rx c120_3) (Q @f147a_t (Q @e147a.eq_1 (Q (nE c120_0 (.seq c120_1 (.seq c120_3 .ret))) hA))))
theorem f120a_t (s_0 : Bool) (s_1 : List UInt8) :
    callW (E0 mm) 120 [cd (.lst s_0 (enL enB s_1)), .c (.fn 143 [(0, 0)])] [.cells [.d (.sc (.func (.func 115) #[] #[]))]] = (m120a s_0 s_1).map e120a := by
  rw [cR c120_0 [.tmp 4] Tryz.func120]
  unfold m120a; exact go k120a trivial
noncomputable def c114_0 : Code := bodyOf Tryz.f114
def c114_1 := cA c114_0
def c114_3 := cA (cB c114_0)
abbrev R114 := (Bool)
def e114 (x : R114) : AV × Heap := (vd (dB x), [])
def m114 (s : Bs) : Option R114 :=
  (m120a false s).bind fun yr2 =>
    some (!yr2)
def k114 := Q (rx c114_1) (Q (rx c114_3) (Q @hd44 (Q @rw45 (Q (fun (mm : Int) (s : Bs) => (show callW (E0 mm) 120 [cd (.lst false (enL enB s)), .c (.fn 143 [(0, 0)])] [.cells [.d (.sc (.func (.func 115) #[] #[]))]] = _ from f120a_t false s)) (Q @f120a_t (Q @e120a.eq_1 (Q (nE c114_0 (.seq c114_1 (.seq c114_3 .ret))) hA)))))))
theorem f114_t (s : Bs) :
    callW (E0 mm) 114 [cd (dS s), cd (.sc (.func (.func 115) #[] #[]))] [] = (m114 s).map e114 := by
  rw [cR c114_0 [.tmp 4] Tryz.func114]
  unfold m114; exact go k114 trivial
noncomputable def c69_0 : Code := bodyOf Tryz.f69
def c69_1 := cA c69_0
def c69_3 := cA (cB c69_0)
abbrev R69 := (Bool)
def e69 (x : R69) : AV × Heap := (vd (dB x), [])
def m69 (s : Bs) : Option R69 :=
  if (s == ([] : Bs)) = true then
    some false
  else
    (m114 s).bind fun yr3 =>
      some yr3
def k69 := Q (rx c69_1) (Q (rx c69_3) (Q @ent114 (Q @prm114 (Q @f114_t (Q @e114.eq_1 (Q (nE c69_0 (.seq c69_1 (.seq c69_3 .ret))) hA))))))
theorem f69_t (s : Bs) :
    callW (E0 mm) 69 [cd (dS s)] [] = (m69 s).map e69 := by
  rw [cR c69_0 [.tmp 2] Tryz.func69]
  unfold m69; exact go k69 trivial
noncomputable def c155_0 : Code := bodyOf Tryz.f155
def c155_1 := cA c155_0
def c155_3 := cA (cB c155_0)
abbrev R155 := (Bool)
def e155 (x : R155) : AV × Heap := (vd (dB x), [])
def m155 (c : UInt8) : Option R155 :=
  if (c == (9 : UInt8)) = true then
    some true
  else
    if (decide ((32 : UInt8) ≤ c)) = true then
      some (!(c == (127 : UInt8)))
    else
      some false
def k155 := Q (rx c155_1) (Q (rx c155_3) (Q (nE c155_0 (.seq c155_1 (.seq c155_3 .ret))) hA))
theorem f155_t (c : UInt8) :
    callW (E0 mm) 155 [cd (.sc (.int .u8 ((c).toNat : Int)))] [] = (m155 c).map e155 := by
  rw [cR c155_0 [.tmp 2] Tryz.func155]
  unfold m155; exact go k155 trivial
end
end Go.Proofs.YtbkobjepahlegaaGreatDoor
