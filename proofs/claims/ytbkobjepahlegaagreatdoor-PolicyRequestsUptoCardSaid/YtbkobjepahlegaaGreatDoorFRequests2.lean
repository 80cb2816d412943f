/- The Go functions as plain functions, and that the evaluator computes them. -/
import Derived.Test.YtbkobjepahlegaaGreatDoorFRequests1
set_option linter.all false
set_option maxRecDepth 100000
namespace Go.Proofs.YtbkobjepahlegaaGreatDoor
open Go Go.Ab
open Nat renaming reduceEqDiff → za, reduceAdd → zb, reduceLeDiff → zc, reduceLT → zd, reduceMul → ze, reduceBEq → zf, reduceSub → zg, reducePow → zh
open Int renaming reduceEq → zi, reduceLE → zj, reduceLT → zk, reduceToNat → zl, reduceNegSucc → zm, reduceAdd → zn, reduceBEq → zo
open String renaming reduceBEq → zp
set_option maxHeartbeats 4000000
noncomputable section
variable {mm : Int}
noncomputable def c68_0 : Code := bodyOf Tryz.f68
def c68_1 := cA c68_0
def c68_3 := cA (cB c68_0)
def c68_5 := cA (cB (cB c68_0))
def c68_7 := cA (cB (cB (cB c68_0)))
def c68_10 := cA (cA (cB (cB (cB (cB c68_0)))))
def c68_12 := cA (cB (cA (cB (cB (cB (cB c68_0))))))
def c68_13 := cA c68_12
def c68_14 := cA c68_13
def c68_21 := cA (cA (cB (cB c68_13)))
def c68_24 := cA (cA (cB (cA (cB (cB c68_13)))))
def c68_26 := cA (cB (cA (cB (cA (cB (cB c68_13))))))
def c68_28 := cA (cB (cB (cA (cB (cA (cB (cB c68_13)))))))
def c68_29 := cB (cB (cB (cA (cB (cA (cB (cB c68_13)))))))
def c68_30 := cA c68_29
def c68_32 := cA (cB c68_29)
def c68_34 := cA (cB (cB c68_29))
def c68_36 := cA (cB (cB (cB c68_29)))
def c68_37 := cB (cB (cB (cB c68_29)))
def c68_38 := cA c68_37
def c68_40 := cB (cB (cB (cB (cB c68_0))))
def c68_41 := cA c68_40
def c68_43 := cA (cB c68_40)
def L68_12 : List (Nat × Co) := [(1, .keep), (3, .keep), (5, .keep), (6, .keep), (7, .keep), (12, .keep)]
abbrev R68 := (Bool × List Bs)
def e68 (x : R68) : AV × Heap := (.v (.c (.own x.1 (enL enS x.2) 0)), [.row x.2.length (rz x.1 1)])
def j68_37 (quoted5 masked6 : Bool) (i8 : Int) (t30 : Bool) (h0_0 : Bs) (h1_0_0 : Bool) (h1_0_1 : List Bs) (h3_0 : Int) (s4 : Bs) (p4 : Nat) : Option ((Bool × Bool × Bs × Bool × List Bs × Int × Bs × Nat) ⊕ R68) :=
  if t30 = true then
    (m112 i8 h0_0 h3_0 h1_0_0 h1_0_1).bind fun yr10 =>
      some (.inl (quoted5, masked6, yr10.1, yr10.2.2.1, yr10.2.2.2, yr10.2.1, s4, p4))
  else
    some (.inl (quoted5, masked6, h0_0, h1_0_0, h1_0_1, h3_0, s4, p4))
def K68_12 (mm : Int) (r : Option (Ex × St)) : Option (AV × Heap) := bodyD (E0 mm) [.tmp 2] 0 false (sq (E0 mm) 68 0 c68_40 (blockD 0 (r)))
def en68_12 (x : (Bool × Bool × Bs × Bool × List Bs × Int × Bs × Nat)) : X := (none, [.v (.c (.ptr 0 0)), .v (.c (.ptr 1 0)), vd (dB x.1), vd (dB x.2.1), .v (.c (.fn 112 [(0, 0), (3, 0), (1, 0)])), .v (.c (.it 4))], [.cells [.d (dS x.2.2.1)], .cells [.own x.2.2.2.1 (enL enS x.2.2.2.2.1) 2], .row x.2.2.2.2.1.length (rz x.2.2.2.1 1), .cells [.d (dI x.2.2.2.2.2.1)], .siter (S x.2.2.2.2.2.2.1) x.2.2.2.2.2.2.2])
def k68 := Q (rx c68_38) (Q @ent112 (Q @prm112 (Q @f112_t (Q @e112.eq_1 (Q (rx c68_30) (Q (rx c68_32) (Q (rx c68_34) (Q (rx c68_36) (Q (rx c68_41) (Q (rx c68_43) (Q (rx c68_14) (Q @dec_eq (Q (rx c68_21) (Q (rx c68_24) (Q (rx c68_26) (Q (rx c68_28) (Q @K68_12.eq_1 (Q (rx c68_1) (Q (rx c68_3) (Q @zc45 (Q @ao38 (Q (rx c68_5) (Q @ao39 (Q (rx c68_7) (Q (rx c68_10) (Q (fun mm => lx (E0 mm) 68 c68_12 c68_13 L68_12) (Q (nE c68_0 (.seq c68_1 (.seq c68_3 (.seq c68_5 (.seq c68_7 (.seq (.seq c68_10 (.block 0 c68_12)) c68_40)))))) (Q (nE c68_13 (.seq c68_14 (.seq (.cond _ .skip (.exit 0)) (.block 1 (.seq c68_21 (.block 2 (.seq c68_24 (.cond _ c68_26 (.seq c68_28 c68_29))))))))) (Q @en68_12.eq_1 (Q @L68_12.eq_1 hA))))))))))))))))))))))))))))))
theorem j68_37_t (quoted5 masked6 : Bool) (i8 : Int) (t30 : Bool) (h0_0 : Bs) (h1_0_0 : Bool) (h1_0_1 : List Bs) (h3_0 : Int) (s4 : Bs) (p4 : Nat)  (sl : Sl) (_ : sl 1 = .v (.c (.ptr 0 0))) (_ : sl 3 = .v (.c (.ptr 1 0))) (_ : sl 5 = vd (dB quoted5)) (_ : sl 6 = vd (dB masked6)) (_ : sl 7 = .v (.c (.fn 112 [(0, 0), (3, 0), (1, 0)]))) (_ : sl 8 = vd (dI i8)) (_ : sl 12 = .v (.c (.it 4))) (_ : sl 30 = vd (dB t30)) :
    stepE (K68_12 mm) (loopK 0 L68_12 (blockD 1 (blockD 2 (dn (E0 mm) 68 0 c68_37 sl [.cells [.d (dS h0_0)], .cells [.own h1_0_0 (enL enS h1_0_1) 2], .row h1_0_1.length (rz h1_0_0 1), .cells [.d (dI h3_0)], .siter (S s4) p4])))) = (j68_37 quoted5 masked6 i8 t30 h0_0 h1_0_0 h1_0_1 h3_0 s4 p4).map (sm en68_12 e68) := by
  unfold j68_37; exact go (Q (nE c68_37 (.cond _ c68_38 .skip)) k68) trivial
def j68_29 (quoted5 masked6 : Bool) (i8 r9 : Int) (t19 : Bool) (h0_0 : Bs) (h1_0_0 : Bool) (h1_0_1 : List Bs) (h3_0 : Int) (s4 : Bs) (p4 : Nat) : Option ((Bool × Bool × Bs × Bool × List Bs × Int × Bs × Nat) ⊕ R68) :=
  if t19 = true then
    some (.inl (quoted5, true, h0_0, h1_0_0, h1_0_1, h3_0, s4, p4))
  else
    if (r9 == 34) = true then
      some (.inl ((!quoted5), masked6, h0_0, h1_0_0, h1_0_1, h3_0, s4, p4))
    else
      if (r9 == 44) = true then
        j68_37 quoted5 masked6 i8 (!quoted5) h0_0 h1_0_0 h1_0_1 h3_0 s4 p4
      else
        j68_37 quoted5 masked6 i8 false h0_0 h1_0_0 h1_0_1 h3_0 s4 p4
theorem j68_29_t (quoted5 masked6 : Bool) (i8 r9 : Int) (t19 : Bool) (h0_0 : Bs) (h1_0_0 : Bool) (h1_0_1 : List Bs) (h3_0 : Int) (s4 : Bs) (p4 : Nat)  (sl : Sl) (_ : sl 1 = .v (.c (.ptr 0 0))) (_ : sl 3 = .v (.c (.ptr 1 0))) (_ : sl 5 = vd (dB quoted5)) (_ : sl 6 = vd (dB masked6)) (_ : sl 7 = .v (.c (.fn 112 [(0, 0), (3, 0), (1, 0)]))) (_ : sl 8 = vd (dI i8)) (_ : sl 9 = vd (.sc (.int .i32 r9))) (_ : sl 12 = .v (.c (.it 4))) (_ : sl 19 = vd (dB t19)) :
    stepE (K68_12 mm) (loopK 0 L68_12 (blockD 1 (blockD 2 (dn (E0 mm) 68 0 c68_29 sl [.cells [.d (dS h0_0)], .cells [.own h1_0_0 (enL enS h1_0_1) 2], .row h1_0_1.length (rz h1_0_0 1), .cells [.d (dI h3_0)], .siter (S s4) p4])))) = (j68_29 quoted5 masked6 i8 r9 t19 h0_0 h1_0_0 h1_0_1 h3_0 s4 p4).map (sm en68_12 e68) := by
  unfold j68_29; exact go (Q (nE c68_29 (.cond _ c68_30 (.seq c68_32 (.cond _ c68_34 (.seq c68_36 c68_37))))) k68) @j68_37_t
def j68_40 (h0_0 : Bs) (h1_0_0 : Bool) (h1_0_1 : List Bs) (h3_0 : Int) : Option R68 :=
  (m112 (h0_0.length : Int) h0_0 h3_0 h1_0_0 h1_0_1).bind fun yr12 =>
    some (yr12.2.2.1, yr12.2.2.2)
theorem j68_40_t (h0_0 : Bs) (h1_0_0 : Bool) (h1_0_1 : List Bs) (h3_0 : Int) (g4 : Ob) (sl : Sl) (_ : sl 1 = .v (.c (.ptr 0 0))) (_ : sl 3 = .v (.c (.ptr 1 0))) (_ : sl 7 = .v (.c (.fn 112 [(0, 0), (3, 0), (1, 0)]))) :
    bodyD (E0 mm) [.tmp 2] 0 false (dn (E0 mm) 68 0 c68_40 sl [.cells [.d (dS h0_0)], .cells [.own h1_0_0 (enL enS h1_0_1) 2], .row h1_0_1.length (rz h1_0_0 1), .cells [.d (dI h3_0)], g4]) = (j68_40 h0_0 h1_0_0 h1_0_1 h3_0).map e68 := by
  unfold j68_40; exact go (Q (nE c68_40 (.seq c68_41 (.seq c68_43 .ret))) k68) trivial
def s68_12 (quoted5 masked6 : Bool) (h0_0 : Bs) (h1_0_0 : Bool) (h1_0_1 : List Bs) (h3_0 : Int) (s4 : Bs) (p4 : Nat) : Option ((Bool × Bool × Bs × Bool × List Bs × Int × Bs × Nat) ⊕ R68) :=
  if (decide (p4 < s4.length)) = true then
    if masked6 = true then
      some (.inl (quoted5, false, h0_0, h1_0_0, h1_0_1, h3_0, s4, (p4 + uw s4 p4)))
    else
      if quoted5 = true then
        j68_29 true false (p4 : Int) (uc s4 p4 : Int) ((uc s4 p4 : Int) == 92) h0_0 h1_0_0 h1_0_1 h3_0 s4 (p4 + uw s4 p4)
      else
        j68_29 false false (p4 : Int) (uc s4 p4 : Int) false h0_0 h1_0_0 h1_0_1 h3_0 s4 (p4 + uw s4 p4)
  else
    (j68_40 h0_0 h1_0_0 h1_0_1 h3_0).map .inr
theorem s68_12_t (quoted5 masked6 : Bool) (h0_0 : Bs) (h1_0_0 : Bool) (h1_0_1 : List Bs) (h3_0 : Int) (s4 : Bs) (p4 : Nat) :
    stepE (K68_12 mm) (lp (E0 mm) 68 0 c68_13 L68_12 (en68_12 (quoted5, masked6, h0_0, h1_0_0, h1_0_1, h3_0, s4, p4))) = (s68_12 quoted5 masked6 h0_0 h1_0_0 h1_0_1 h3_0 s4 p4).map (sm en68_12 e68) := by
  unfold s68_12; exact go k68 (Q @j68_29_t @j68_40_t)
def l68_12 (quoted5 masked6 : Bool) (h0_0 : Bs) (h1_0_0 : Bool) (h1_0_1 : List Bs) (h3_0 : Int) (s4 : Bs) (p4 : Nat) : Option R68 := iter (fun x : (Bool × Bool × Bs × Bool × List Bs × Int × Bs × Nat) => s68_12 x.1 x.2.1 x.2.2.1 x.2.2.2.1 x.2.2.2.2.1 x.2.2.2.2.2.1 x.2.2.2.2.2.2.1 x.2.2.2.2.2.2.2) (quoted5, masked6, h0_0, h1_0_0, h1_0_1, h3_0, s4, p4)
theorem l68_12_t (quoted5 masked6 : Bool) (h0_0 : Bs) (h1_0_0 : Bool) (h1_0_1 : List Bs) (h3_0 : Int) (s4 : Bs) (p4 : Nat) : (K68_12 mm) (itW (lp (E0 mm) 68 0 c68_13 L68_12) (en68_12 (quoted5, masked6, h0_0, h1_0_0, h1_0_1, h3_0, s4, p4))) = (l68_12 quoted5 masked6 h0_0 h1_0_0 h1_0_1 h3_0 s4 p4).map e68 :=
  it_sim (K := (K68_12 mm)) rfl (enc := en68_12) (fun x => s68_12_t x.1 x.2.1 x.2.2.1 x.2.2.2.1 x.2.2.2.2.1 x.2.2.2.2.2.1 x.2.2.2.2.2.2.1 x.2.2.2.2.2.2.2) (quoted5, masked6, h0_0, h1_0_0, h1_0_1, h3_0, s4, p4)
def m68 (s : Bs) : Option R68 :=
  l68_12 false false s true ([] : List Bs) (0 : Int) s 0
theorem f68_t (s : Bs) :
    callW (E0 mm) 68 [cd (dS s)] [] = (m68 s).map e68 := by
  rw [cR c68_0 [.tmp 2] Tryz.func68]
  unfold m68; exact go k68 @l68_12_t
noncomputable def c26_0 : Code := bodyOf Tryz.f26
def c26_1 := cA c26_0
def c26_3 := cA (cB c26_0)
def c26_6 := cA (cA (cB (cB c26_0)))
def c26_8 := cA (cB (cA (cB (cB c26_0))))
def c26_9 := cA c26_8
def c26_10 := cA c26_9
def c26_18 := cA (cA (cA (cB (cB c26_9))))
def c26_19 := cB (cA (cA (cB (cB c26_9))))
def c26_20 := cB (cB (cB c26_9))
def c26_21 := cB (cB (cB c26_0))
def c26_22 := cA c26_21
def L26_8 : List (Nat × Co) := [(5, .own), (10, .keep), (11, .keep), (12, .keep)]
abbrev R26 := (Bool × List Bs)
def e26 (x : R26) : AV × Heap := (.v (.c (.own x.1 (enL enS x.2) 0)), [.row x.2.length (rz x.1 1)])
def j26_21 (out5_0 : Bool) (out5_1 : List Bs) : Option R26 :=
  some (out5_0, out5_1)
def K26_8 (mm : Int) (r : Option (Ex × St)) : Option (AV × Heap) := bodyD (E0 mm) [.tmp 4] 0 false (sq (E0 mm) 26 0 c26_21 (blockD 0 (r)))
def en26_8 (x : (Bool × List Bs × Bool × List Bs × Int × Int)) : X := (none, [.v (.c (.own x.1 (enL enS x.2.1) 0)), .v (.c (.own x.2.2.1 (enL enS x.2.2.2.1) 1)), vd (dI x.2.2.2.2.1), vd (dI x.2.2.2.2.2)], [.row x.2.1.length (rz x.1 1), .row x.2.2.2.1.length (rz x.2.2.1 1)])
def k26 := Q (rx c26_22) (Q (rx c26_10) (Q (rx c26_18) (Q (rx c26_19) (Q @ent68 (Q @prm68 (Q @f68_t (Q @e68.eq_1 (Q @hd43 (Q (rx c26_20) (Q @K26_8.eq_1 (Q (rx c26_1) (Q (rx c26_3) (Q (rx c26_6) (Q @f29_t (Q @e29.eq_1 (Q (fun mm => lx (E0 mm) 26 c26_8 c26_9 L26_8) (Q (nE c26_0 (.seq c26_1 (.seq c26_3 (.seq (.seq c26_6 (.block 0 c26_8)) c26_21)))) (Q (nE c26_9 (.seq c26_10 (.seq (.cond _ .skip (.exit 0)) (.seq (.block 1 (.seq c26_18 c26_19)) c26_20)))) (Q @en26_8.eq_1 (Q @L26_8.eq_1 hA))))))))))))))))))))
theorem j26_21_t (out5_0 : Bool) (out5_1 : List Bs) (g1 : Ob) (sl : Sl) (_ : sl 5 = .v (.c (.own out5_0 (enL enS out5_1) 0))) :
    bodyD (E0 mm) [.tmp 4] 0 false (dn (E0 mm) 26 0 c26_21 sl [.row out5_1.length (rz out5_0 1), g1]) = (j26_21 out5_0 out5_1).map e26 := by
  unfold j26_21; exact go (Q (nE c26_21 (.seq c26_22 .ret)) k26) trivial
def s26_8 (out5_0 : Bool) (out5_1 : List Bs) (t10_0 : Bool) (t10_1 : List Bs) (t11 t12 : Int) : Option ((Bool × List Bs × Bool × List Bs × Int × Int) ⊕ R26) :=
  if (decide (t12 < t11)) = true then
    if 0 ≤ t12 ∧ t12 < (t10_1.length : Int) then
      (m68 (t10_1.getD t12.toNat default)).bind fun yr7 =>
        if yr7.2 = [] ∨ (out5_1.length + yr7.2.length) * 16 ≤ 140737488355328 then
          some (.inl ((out5_0 && yr7.2.isEmpty), (out5_1 ++ yr7.2), t10_0, t10_1, t11, (w64 (t12 + 1))))
        else none
    else none
  else
    (j26_21 out5_0 out5_1).map .inr
theorem s26_8_t (out5_0 : Bool) (out5_1 : List Bs) (t10_0 : Bool) (t10_1 : List Bs) (t11 t12 : Int) :
    stepE (K26_8 mm) (lp (E0 mm) 26 0 c26_9 L26_8 (en26_8 (out5_0, out5_1, t10_0, t10_1, t11, t12))) = (s26_8 out5_0 out5_1 t10_0 t10_1 t11 t12).map (sm en26_8 e26) := by
  unfold s26_8; exact go k26 @j26_21_t
def l26_8 (out5_0 : Bool) (out5_1 : List Bs) (t10_0 : Bool) (t10_1 : List Bs) (t11 t12 : Int) : Option R26 := iter (fun x : (Bool × List Bs × Bool × List Bs × Int × Int) => s26_8 x.1 x.2.1 x.2.2.1 x.2.2.2.1 x.2.2.2.2.1 x.2.2.2.2.2) (out5_0, out5_1, t10_0, t10_1, t11, t12)
theorem l26_8_t (out5_0 : Bool) (out5_1 : List Bs) (t10_0 : Bool) (t10_1 : List Bs) (t11 t12 : Int) : (K26_8 mm) (itW (lp (E0 mm) 26 0 c26_9 L26_8) (en26_8 (out5_0, out5_1, t10_0, t10_1, t11, t12))) = (l26_8 out5_0 out5_1 t10_0 t10_1 t11 t12).map e26 :=
  it_sim (K := (K26_8 mm)) rfl (enc := en26_8) (fun x => s26_8_t x.1 x.2.1 x.2.2.1 x.2.2.2.1 x.2.2.2.2.1 x.2.2.2.2.2) (out5_0, out5_1, t10_0, t10_1, t11, t12)
def m26 (l_0 : Bool) (l_1 : List (Bs × Bs)) (name : Bs) : Option R26 :=
  (m29 l_0 l_1 name).bind fun yr2 =>
    l26_8 true ([] : List Bs) yr2.1 yr2.2 (yr2.2.length : Int) (0 : Int)
theorem f26_t (l_0 : Bool) (l_1 : List (Bs × Bs)) (name : Bs) :
    callW (E0 mm) 26 [cd (.lst l_0 (enL enSS l_1)), cd (dS name)] [] = (m26 l_0 l_1 name).map e26 := by
  rw [cR c26_0 [.tmp 4] Tryz.func26]
  unfold m26; exact go k26 @l26_8_t
noncomputable def c154_0 : Code := bodyOf Tryz.f154
def c154_1 := cA c154_0
def c154_4 := cA (cA (cB c154_0))
def c154_6 := cA (cB (cA (cB c154_0)))
def c154_9 := cA (cA (cB (cB (cA (cB c154_0)))))
def c154_13 := cA (cB (cB c154_0))
abbrev R154 := (Bs × Bs × Bool)
def e154 (x : R154) : AV × Heap := (.tup [cd (dS x.1), cd (dS x.2.1), cd (dB x.2.2)], [])
def m154 (s sep : Bs) : Option R154 :=
  (mIx s sep).bind fun yr2 =>
    if (decide (0 ≤ yr2)) = true then
      (bnd yr2 s.length).bind fun yk5 =>
        (bnd (w64 (yr2 + (sep.length : Int))) s.length).bind fun yk7 =>
          some ((s.take yk5), (s.drop yk7), true)
    else
      some (s, ([] : Bs), false)
def k154 := Q (rx c154_1) (Q (rx c154_4) (Q @ent145 (Q @prm145 (Q @pIndex_t (Q (rx c154_6) (Q (fun mm => ry (E0 mm) c154_9) (Q (rx c154_13) (Q (nE c154_0 (.seq c154_1 (.seq (.seq c154_4 (.seq c154_6 (.cond _ (.seq c154_9 .ret) .skip))) (.seq c154_13 .ret)))) hA))))))))
theorem f154_t (s sep : Bs) :
    callW (E0 mm) 154 [cd (dS s), cd (dS sep)] [] = (m154 s sep).map e154 := by
  rw [cR c154_0 [.tmp 4, .tmp 5, .tmp 6] Tryz.func154]
  unfold m154; exact go k154 trivial
noncomputable def c140_0 : Code := bodyOf Tryz.f140
def c140_1 := cA c140_0
def c140_3 := cA (cB c140_0)
abbrev R140 := (Bs × Bs × Bool)
def e140 (x : R140) : AV × Heap := (.tup [cd (dS x.1), cd (dS x.2.1), cd (dB x.2.2)], [])
def m140 (s sep : Bs) : Option R140 :=
  (m154 s sep).bind fun yr2 =>
    some (yr2.1, yr2.2.1, yr2.2.2)
def k140 := Q (rx c140_1) (Q (rx c140_3) (Q @ent154 (Q @prm154 (Q @f154_t (Q @e154.eq_1 (Q (nE c140_0 (.seq c140_1 (.seq c140_3 .ret))) hA))))))
theorem f140_t (s sep : Bs) :
    callW (E0 mm) 140 [cd (dS s), cd (dS sep)] [] = (m140 s sep).map e140 := by
  rw [cR c140_0 [.tmp 4, .tmp 5, .tmp 6] Tryz.func140]
  unfold m140; exact go k140 trivial
noncomputable def c144_0 : Code := bodyOf Tryz.f144
def c144_1 := cA c144_0
def c144_3 := cA (cB c144_0)
abbrev R144 := (Int)
def e144 (x : R144) : AV × Heap := (vd (dI x), [])
def m144 (s : Bs) (c : UInt8) : Option R144 :=
  some (Lib.indexByte s c)
def k144 := Q (rx c144_1) (Q (rx c144_3) (Q @entf163 (Q @exf163 (Q @ext163_t (Q (nE c144_0 (.seq c144_1 (.seq c144_3 .ret))) hA)))))
theorem f144_t (s : Bs) (c : UInt8) :
    callW (E0 mm) 144 [cd (dS s), cd (.sc (.int .u8 ((c).toNat : Int)))] [] = (m144 s c).map e144 := by
  rw [cR c144_0 [.tmp 4] Tryz.func144]
  unfold m144; exact go k144 trivial
noncomputable def c116_0 : Code := bodyOf Tryz.f116
def c116_1 := cA c116_0
def c116_3 := cA (cB c116_0)
abbrev R116 := (Int)
def e116 (x : R116) : AV × Heap := (vd (dI x), [])
def m116 (s : Bs) (c : UInt8) : Option R116 :=
  (m144 s c).bind fun yr2 =>
    some yr2
def k116 := Q (rx c116_1) (Q (rx c116_3) (Q @ent144 (Q @prm144 (Q @f144_t (Q @e144.eq_1 (Q (nE c116_0 (.seq c116_1 (.seq c116_3 .ret))) hA))))))
theorem f116_t (s : Bs) (c : UInt8) :
    callW (E0 mm) 116 [cd (dS s), cd (.sc (.int .u8 ((c).toNat : Int)))] [] = (m116 s c).map e116 := by
  rw [cR c116_0 [.tmp 4] Tryz.func116]
  unfold m116; exact go k116 trivial
noncomputable def c115_0 : Code := bodyOf Tryz.f115
def c115_1 := cA c115_0
def c115_3 := cA (cB c115_0)
def c115_5 := cA (cB (cB c115_0))
abbrev R115 := (Bool)
def e115 (x : R115) : AV × Heap := (vd (dB x), [])
def m115 (c : UInt8) : Option R115 :=
  if (decide ((97 : UInt8) ≤ (c ||| (32 : UInt8)))) = true then
    if (decide ((c ||| (32 : UInt8)) ≤ (122 : UInt8))) = true then
      some true
    else
      if (decide ((48 : UInt8) ≤ c)) = true then
        if (decide (c ≤ (57 : UInt8))) = true then
          some true
        else
          (m116 ([33, 35, 36, 37, 38, 39, 42, 43, 45, 46, 94, 95, 96, 124, 126] : Bs) c).bind fun yr6 =>
            some (decide (0 ≤ yr6))
      else
        (m116 ([33, 35, 36, 37, 38, 39, 42, 43, 45, 46, 94, 95, 96, 124, 126] : Bs) c).bind fun yr8 =>
          some (decide (0 ≤ yr8))
  else
    if (decide ((48 : UInt8) ≤ c)) = true then
      if (decide (c ≤ (57 : UInt8))) = true then
        some true
      else
        (m116 ([33, 35, 36, 37, 38, 39, 42, 43, 45, 46, 94, 95, 96, 124, 126] : Bs) c).bind fun yr12 =>
          some (decide (0 ≤ yr12))
    else
      (m116 ([33, 35, 36, 37, 38, 39, 42, 43, 45, 46, 94, 95, 96, 124, 126] : Bs) c).bind fun yr14 =>
        some (decide (0 ≤ yr14))
def k115 := Q (rx c115_1) (Q (rx c115_3) (Q (rx c115_5) (Q @ent116 (Q @prm116 (Q (fun (mm : Int) (c : UInt8) => (show callW (E0 mm) 116 [cd (dS ([33, 35, 36, 37, 38, 39, 42, 43, 45, 46, 94, 95, 96, 124, 126] : Bs)), cd (.sc (.int .u8 ((c).toNat : Int)))] [] = _ from f116_t ([33, 35, 36, 37, 38, 39, 42, 43, 45, 46, 94, 95, 96, 124, 126] : Bs) c)) (Q @f116_t (Q @e116.eq_1 (Q (nE c115_0 (.seq c115_1 (.seq c115_3 (.seq c115_5 .ret)))) hA))))))))
theorem f115_t (c : UInt8) :
    callW (E0 mm) 115 [cd (.sc (.int .u8 ((c).toNat : Int)))] [] = (m115 c).map e115 := by
  rw [cR c115_0 [.tmp 2] Tryz.func115]
  unfold m115; exact go k115 trivial
noncomputable def c143_0 : Code := bodyOf Tryz.f143
def c143_1 := cA c143_0
def c143_3 := cA (cB c143_0)
abbrev R143 := (Bool)
def e143 (x : R143) : AV × Heap := (vd (dB x), [.cells [.d (.sc (.func (.func 115) #[] #[]))]])
def m143 (c : UInt8) : Option R143 :=
  (m115 c).bind fun yr2 =>
    some (!yr2)
def k143 := Q (rx c143_1) (Q (rx c143_3) (Q @sz115 (Q @ag115 (Q @ent115 (Q @prm115 (Q @f115_t (Q @e115.eq_1 (Q (nE c143_0 (.seq c143_1 (.seq c143_3 .ret))) hA))))))))
theorem f143_t (c : UInt8) :
    callW (E0 mm) 143 [cd (.sc (.int .u8 ((c).toNat : Int))), .c (.ptr 0 0)] [.cells [.d (.sc (.func (.func 115) #[] #[]))]] = (m143 c).map e143 := by
  rw [cR c143_0 [.tmp 3] Tryz.func143]
  unfold m143; exact go k143 trivial
abbrev R147a := (Int)
def L147a_6 : List (Nat × Co) := [(0, .keep), (1, .keep), (7, .keep), (8, .keep)]
def e147a (x : R147a) : AV × Heap := (vd (dI x), [.cells [.d (.sc (.func (.func 115) #[] #[]))]])
def j147a_25  : Option R147a :=
  some (-1 : Int)
def K147a_6 (mm : Int) (r : Option (Ex × St)) : Option (AV × Heap) := bodyD (E0 mm) [.tmp 4] 1 false (sq (E0 mm) 147 1 c147_25 (blockD 0 (r)))
def en147a_6 (x : (Bool × List UInt8 × Int × Int)) : X := (none, [vd (.lst x.1 (enL enB x.2.1)), .v (.c (.fn 143 [(0, 0)])), vd (dI x.2.2.1), vd (dI x.2.2.2)], [.cells [.d (.sc (.func (.func 115) #[] #[]))]])
def k147a := Q (rx c147_26) (Q (rx c147_8) (Q (rx c147_16) (Q (rx c147_18) (Q @ent143 (Q @prm143 (Q @f143_t (Q @e143.eq_1 (Q (rx c147_21) (Q @K147a_6.eq_1 (Q (rx c147_24) (Q (rx c147_1) (Q (rx c147_4) (Q (fun mm => lx (E0 mm) 147 c147_6 c147_7 L147a_6) (Q (nE c147_0 (.seq c147_1 (.seq (.seq c147_4 (.block 0 c147_6)) c147_25))) (Q (nE c147_7 (.seq c147_8 (.seq (.cond _ .skip (.exit 0)) (.seq (.block 1 (.seq c147_16 (.seq c147_18 (.cond _ (.seq c147_21 .ret) .skip)))) c147_24)))) (Q @en147a_6.eq_1 (Q @L147a_6.eq_1 hA)))))))))))))))))
theorem j147a_25_t (sl : Sl)  :
    bodyD (E0 mm) [.tmp 4] 1 false (dn (E0 mm) 147 1 c147_25 sl [.cells [.d (.sc (.func (.func 115) #[] #[]))]]) = (j147a_25).map e147a := by
  unfold j147a_25; exact go (Q (nE c147_25 (.seq c147_26 .ret)) k147a) trivial
def s147a_6 (s0_0 : Bool) (s0_1 : List UInt8) (t7 t8 : Int) : Option ((Bool × List UInt8 × Int × Int) ⊕ R147a) :=
  if (decide (t8 < t7)) = true then
    if 0 ≤ t8 ∧ t8 < (s0_1.length : Int) then
      (m143 (s0_1.getD t8.toNat default)).bind fun yr5 =>
        if yr5 = true then
          some (.inr t8)
        else
          some (.inl (s0_0, s0_1, t7, (w64 (t8 + 1))))
    else none
  else
    (j147a_25).map .inr
theorem s147a_6_t (s0_0 : Bool) (s0_1 : List UInt8) (t7 t8 : Int) :
    stepE (K147a_6 mm) (lp (E0 mm) 147 1 c147_7 L147a_6 (en147a_6 (s0_0, s0_1, t7, t8))) = (s147a_6 s0_0 s0_1 t7 t8).map (sm en147a_6 e147a) := by
  unfold s147a_6; exact go k147a @j147a_25_t
def l147a_6 (s0_0 : Bool) (s0_1 : List UInt8) (t7 t8 : Int) : Option R147a := iter (fun x : (Bool × List UInt8 × Int × Int) => s147a_6 x.1 x.2.1 x.2.2.1 x.2.2.2) (s0_0, s0_1, t7, t8)
theorem l147a_6_t (s0_0 : Bool) (s0_1 : List UInt8) (t7 t8 : Int) : (K147a_6 mm) (itW (lp (E0 mm) 147 1 c147_7 L147a_6) (en147a_6 (s0_0, s0_1, t7, t8))) = (l147a_6 s0_0 s0_1 t7 t8).map e147a :=
  it_sim (K := (K147a_6 mm)) rfl (enc := en147a_6) (fun x => s147a_6_t x.1 x.2.1 x.2.2.1 x.2.2.2) (s0_0, s0_1, t7, t8)
def m147a (s_0 : Bool) (s_1 : List UInt8) : Option R147a :=
  l147a_6 s_0 s_1 (s_1.length : Int) (0 : Int)
theorem f147a_t (s_0 : Bool) (s_1 : List UInt8) :
    callW (E0 mm) 147 [cd (.lst s_0 (enL enB s_1)), .c (.fn 143 [(0, 0)])] [.cells [.d (.sc (.func (.func 115) #[] #[]))]] = (m147a s_0 s_1).map e147a := by
  rw [cR c147_0 [.tmp 4] Tryz.func147]
  unfold m147a; exact go k147a @l147a_6_t
abbrev R120a := (Bool)
def e120a (x : R120a) : AV × Heap := (vd (dB x), [.cells [.d (.sc (.func (.func 115) #[] #[]))]])
def m120a (s_0 : Bool) (s_1 : List UInt8) : Option R120a :=
  (m147a s_0 s_1).bind fun yr2 =>
    some (decide (0 ≤ yr2))
def k120a := Q (rx c120_1) (Q (rx c120_3) (Q @f147a_t (Q @e147a.eq_1 (Q (nE c120_0 (.seq c120_1 (.seq c120_3 .ret))) hA))))
theorem f120a_t (s_0 : Bool) (s_1 : List UInt8) :
    callW (E0 mm) 120 [cd (.lst s_0 (enL enB s_1)), .c (.fn 143 [(0, 0)])] [.cells [.d (.sc (.func (.func 115) #[] #[]))]] = (m120a s_0 s_1).map e120a := by
  rw [cR c120_0 [.tmp 4] Tryz.func120]
  unfold m120a; exact go k120a trivial
noncomputable def c114_0 : Code := bodyOf Tryz.f114
def c114_1 := cA c114_0
def c114_3 := cA (cB c114_0)
abbrev R114 := (Bool)
def e114 (x : R114) : AV × Heap := (vd (dB x), [])
def m114 (s : Bs) : Option R114 :=
  (m120a false s).bind fun yr2 =>
    some (!yr2)
def k114 := Q (rx c114_1) (Q (rx c114_3) (Q @hd44 (Q @rw45 (Q (fun (mm : Int) (s : Bs) => (show callW (E0 mm) 120 [cd (.lst false (enL enB s)), .c (.fn 143 [(0, 0)])] [.cells [.d (.sc (.func (.func 115) #[] #[]))]] = _ from f120a_t false s)) (Q @f120a_t (Q @e120a.eq_1 (Q (nE c114_0 (.seq c114_1 (.seq c114_3 .ret))) hA)))))))
theorem f114_t (s : Bs) :
    callW (E0 mm) 114 [cd (dS s), cd (.sc (.func (.func 115) #[] #[]))] [] = (m114 s).map e114 := by
  rw [cR c114_0 [.tmp 4] Tryz.func114]
  unfold m114; exact go k114 trivial
noncomputable def c69_0 : Code := bodyOf Tryz.f69
def c69_1 := cA c69_0
def c69_3 := cA (cB c69_0)
abbrev R69 := (Bool)
def e69 (x : R69) : AV × Heap := (vd (dB x), [])
def m69 (s : Bs) : Option R69 :=
  if (s == ([] : Bs)) = true then
    some false
  else
    (m114 s).bind fun yr3 =>
      some yr3
def k69 := Q (rx c69_1) (Q (rx c69_3) (Q @ent114 (Q @prm114 (Q @f114_t (Q @e114.eq_1 (Q (nE c69_0 (.seq c69_1 (.seq c69_3 .ret))) hA))))))
theorem f69_t (s : Bs) :
    callW (E0 mm) 69 [cd (dS s)] [] = (m69 s).map e69 := by
  rw [cR c69_0 [.tmp 2] Tryz.func69]
  unfold m69; exact go k69 trivial
noncomputable def c155_0 : Code := bodyOf Tryz.f155
def c155_1 := cA c155_0
def c155_3 := cA (cB c155_0)
abbrev R155 := (Bool)
def e155 (x : R155) : AV × Heap := (vd (dB x), [])
def m155 (c : UInt8) : Option R155 :=
  if (c == (9 : UInt8)) = true then
    some true
  else
    if (decide ((32 : UInt8) ≤ c)) = true then
      some (!(c == (127 : UInt8)))
    else
      some false
def k155 := Q (rx c155_1) (Q (rx c155_3) (Q (nE c155_0 (.seq c155_1 (.seq c155_3 .ret))) hA))
theorem f155_t (c : UInt8) :
    callW (E0 mm) 155 [cd (.sc (.int .u8 ((c).toNat : Int)))] [] = (m155 c).map e155 := by
  rw [cR c155_0 [.tmp 2] Tryz.func155]
  unfold m155; exact go k155 trivial
noncomputable def c141_0 : Code := bodyOf Tryz.f141
def c141_1 := cA c141_0
def c141_4 := cA (cA (cB c141_0))
def c141_5 := cB (cA (cB c141_0))
def c141_7 := cA (cA c141_5)
def c141_10 := cB (cB c141_0)
def c141_11 := cA c141_10
def c141_13 := cA (cB c141_10)
def c141_16 := cA (cA (cB (cB c141_10)))
def c141_18 := cA (cB (cA (cB (cB c141_10))))
def c141_19 := cA c141_18
def c141_21 := cA (cA c141_19)
def c141_30 := cA (cA (cA (cA (cA (cB c141_19)))))
def c141_33 := cA (cA (cB (cA (cA (cA (cA (cB c141_19)))))))
def c141_36 := cA (cB (cB (cA (cA (cA (cA (cB c141_19)))))))
def c141_39 := cA (cA (cB (cB (cB (cA (cA (cA (cA (cB c141_19)))))))))
def c141_41 := cA (cB (cA (cB (cB (cB (cA (cA (cA (cA (cB c141_19))))))))))
def c141_44 := cA (cA (cB (cB (cA (cB (cB (cB (cA (cA (cA (cA (cB c141_19))))))))))))
def c141_48 := cB (cA (cA (cB c141_19)))
def c141_50 := cA (cA c141_48)
def c141_53 := cA (cA (cB (cA c141_48)))
def c141_56 := cB c141_48
def c141_57 := cB (cB c141_19)
def c141_58 := cB (cB (cB c141_10))
def c141_59 := cA c141_58
def L141_18 : List (Nat × Co) := [(4, .own), (5, .keep), (6, .keep)]
abbrev b141 (mm : Int) := bodyD (E0 mm) [.tmp 2, .tmp 3] 0 false
abbrev R141 := (Bs × Bool)
def e141 (x : R141) : AV × Heap := (.tup [cd (dS x.1), cd (dB x.2)], [])
def j141_48 (b4_0 : Bool) (b4_1 : List UInt8) (in5 : Bs) (i6 : Int) : Option ((Bool × List UInt8 × Bs × Int) ⊕ R141) :=
  if 0 ≤ i6 ∧ i6 < (in5.length : Int) then
    (m155 (in5.getD i6.toNat 0)).bind fun yr14 =>
      if yr14 = true then
        if (b4_1.length + 1) * 1 ≤ 140737488355328 then
          some (.inl (false, (b4_1 ++ ([(in5.getD i6.toNat 0)] : List UInt8)), in5, (w64 (i6 + 1))))
        else none
      else
        some (.inr (([] : Bs), false))
  else none
def K141_18 (mm : Int) (r : Option (Ex × St)) : Option (AV × Heap) := b141 mm (sq (E0 mm) 141 0 c141_58 (blockD 0 (r)))
def en141_18 (x : (Bool × List UInt8 × Bs × Int)) : X := (none, [.v (.c (.own x.1 (enL enB x.2.1) 0)), vd (dS x.2.2.1), vd (dI x.2.2.2)], [.row x.2.1.length (rz x.1 1)])
def k141 := Q (rx c141_50) (Q @ent155 (Q @prm155 (Q @f155_t (Q @e155.eq_1 (Q (rx c141_56) (Q @hd46 (Q @nv47 (Q @rw48 (Q (rx c141_57) (Q (rx c141_53) (Q @K141_18.eq_1 (Q (rx c141_59) (Q (rx c141_21) (Q (rx c141_30) (Q (rx c141_33) (Q (rx c141_36) (Q (rx c141_39) (Q (rx c141_41) (Q (rx c141_44) (Q (rx c141_7) (Q (rx c141_11) (Q (rx c141_13) (Q (rx c141_16) (Q (fun mm => lx (E0 mm) 141 c141_18 c141_19 L141_18) (Q (rx c141_1) (Q (rx c141_4) (Q (nE c141_0 (.seq c141_1 (.seq (.seq c141_4 c141_5) c141_10))) (Q (nE c141_10 (.seq c141_11 (.seq c141_13 (.seq (.seq c141_16 (.block 0 c141_18)) c141_58)))) (Q (nE c141_19 (.seq (.seq c141_21 (.cond _ .skip (.exit 0))) (.seq (.block 1 (.seq (.block 2 (.seq c141_30 (.cond _ (.seq c141_33 .ret) (.seq c141_36 (.cond _ (.seq c141_39 (.seq c141_41 (.cond _ (.seq c141_44 .ret) .skip))) .skip))))) c141_48)) c141_57))) (Q @en141_18.eq_1 (Q @L141_18.eq_1 hA)))))))))))))))))))))))))))))))
theorem j141_48_t (b4_0 : Bool) (b4_1 : List UInt8) (in5 : Bs) (i6 : Int)  (sl : Sl) (_ : sl 4 = .v (.c (.own b4_0 (enL enB b4_1) 0))) (_ : sl 5 = vd (dS in5)) (_ : sl 6 = vd (dI i6)) :
    stepE (K141_18 mm) (loopK 0 L141_18 (sq (E0 mm) 141 0 c141_57 (blockD 1 (dn (E0 mm) 141 0 c141_48 sl [.row b4_1.length (rz b4_0 1)])))) = (j141_48 b4_0 b4_1 in5 i6).map (sm en141_18 e141) := by
  unfold j141_48; exact go (Q (nE c141_48 (.seq (.seq c141_50 (.cond _ (.seq c141_53 .ret) .skip)) c141_56)) k141) trivial
def j141_58 (b4_0 : Bool) (b4_1 : List UInt8) : Option R141 :=
  some (b4_1, true)
theorem j141_58_t (b4_0 : Bool) (b4_1 : List UInt8)  (sl : Sl) (_ : sl 4 = .v (.c (.own b4_0 (enL enB b4_1) 0))) :
    b141 mm (dn (E0 mm) 141 0 c141_58 sl [.row b4_1.length (rz b4_0 1)]) = (j141_58 b4_0 b4_1).map e141 := by
  unfold j141_58; exact go (Q (nE c141_58 (.seq c141_59 .ret)) k141) trivial
def s141_18 (b4_0 : Bool) (b4_1 : List UInt8) (in5 : Bs) (i6 : Int) : Option ((Bool × List UInt8 × Bs × Int) ⊕ R141) :=
  if (decide (i6 < (in5.length : Int))) = true then
    if 0 ≤ i6 ∧ i6 < (in5.length : Int) then
      if ((in5.getD i6.toNat 0) == (34 : UInt8)) = true then
        some (.inr (([] : Bs), false))
      else
        if ((in5.getD i6.toNat 0) == (92 : UInt8)) = true then
          if ((w64 (i6 + 1)) == (in5.length : Int)) = true then
            some (.inr (([] : Bs), false))
          else
            j141_48 b4_0 b4_1 in5 (w64 (i6 + 1))
        else
          j141_48 b4_0 b4_1 in5 i6
    else none
  else
    (j141_58 b4_0 b4_1).map .inr
theorem s141_18_t (b4_0 : Bool) (b4_1 : List UInt8) (in5 : Bs) (i6 : Int) :
    stepE (K141_18 mm) (lp (E0 mm) 141 0 c141_19 L141_18 (en141_18 (b4_0, b4_1, in5, i6))) = (s141_18 b4_0 b4_1 in5 i6).map (sm en141_18 e141) := by
  unfold s141_18; exact go k141 (Q @j141_48_t @j141_58_t)
def l141_18 (b4_0 : Bool) (b4_1 : List UInt8) (in5 : Bs) (i6 : Int) : Option R141 := iter (fun x : (Bool × List UInt8 × Bs × Int) => s141_18 x.1 x.2.1 x.2.2.1 x.2.2.2) (b4_0, b4_1, in5, i6)
theorem l141_18_t (b4_0 : Bool) (b4_1 : List UInt8) (in5 : Bs) (i6 : Int) : (K141_18 mm) (itW (lp (E0 mm) 141 0 c141_19 L141_18) (en141_18 (b4_0, b4_1, in5, i6))) = (l141_18 b4_0 b4_1 in5 i6).map e141 :=
  it_sim (K := (K141_18 mm)) rfl (enc := en141_18) (fun x => s141_18_t x.1 x.2.1 x.2.2.1 x.2.2.2) (b4_0, b4_1, in5, i6)
def j141_5 (s0 : Bs) (t22 : Bool) : Option R141 :=
  if t22 = true then
    some (([] : Bs), false)
  else
    (bnd (w64 ((s0.length : Int) - 1)) s0.length).bind fun yk4 =>
      (bnd 1 yk4).bind fun yk6 =>
        l141_18 true ([] : List UInt8) ((s0.take yk4).drop yk6) (0 : Int)
theorem j141_5_t (s0 : Bs) (t22 : Bool)  (sl : Sl) (_ : sl 0 = vd (dS s0)) (_ : sl 22 = vd (dB t22)) :
    b141 mm (sq (E0 mm) 141 0 c141_10 (dn (E0 mm) 141 0 c141_5 sl [])) = (j141_5 s0 t22).map e141 := by
  unfold j141_5; exact go (Q (nE c141_5 (.cond _ (.seq c141_7 .ret) .skip)) k141) @l141_18_t
def m141 (s : Bs) : Option R141 :=
  if (decide ((s.length : Int) < 2)) = true then
    j141_5 s true
  else
    if (0 : Int) < (s.length : Int) then
      if ((s.getD 0 0) == (34 : UInt8)) = true then
        if 0 ≤ (w64 ((s.length : Int) - 1)) ∧ (w64 ((s.length : Int) - 1)) < (s.length : Int) then
          j141_5 s (!((s.getD (w64 ((s.length : Int) - 1)).toNat 0) == (34 : UInt8)))
        else none
      else
        j141_5 s true
    else none
theorem f141_t (s : Bs) :
    callW (E0 mm) 141 [cd (dS s)] [] = (m141 s).map e141 := by
  rw [cR c141_0 [.tmp 2, .tmp 3] Tryz.func141]
  unfold m141; exact go k141 @j141_5_t
noncomputable def c107_0 : Code := bodyOf Tryz.f107
def c107_1 := cA c107_0
def c107_3 := cA (cB c107_0)
def c107_6 := cA (cA (cB (cB c107_0)))
def c107_9 := cA (cA (cB (cA (cB (cB c107_0)))))
def c107_14 := cA (cA (cB (cB (cB c107_0))))
def c107_15 := cB (cA (cB (cB (cB c107_0))))
def c107_17 := cA (cA c107_15)
def c107_20 := cB (cB (cB (cB c107_0)))
def c107_21 := cA c107_20
def c107_24 := cA (cA (cB c107_20))
def c107_27 := cA (cA (cB (cA (cB c107_20))))
def c107_31 := cA (cB (cB c107_20))
abbrev R107 := (Bs × Bs × Bool)
def e107 (x : R107) : AV × Heap := (.tup [cd (dS x.1), cd (dS x.2.1), cd (dB x.2.2)], [])
def j107_15 (name5 value6 : Bs) (t24 : Bool) : Option R107 :=
  if t24 = true then
    (m63 name5).bind fun yr11 =>
      some (yr11, value6, true)
  else
    (m141 value6).bind fun yr13 =>
      if yr13.2 = true then
        (m63 name5).bind fun yr16 =>
          some (yr16, yr13.1, true)
      else
        some (([] : Bs), ([] : Bs), false)
def k107 := Q (rx c107_17) (Q @f63_t (Q @e63.eq_1 (Q (rx c107_21) (Q @ent141 (Q @prm141 (Q @f141_t (Q @e141.eq_1 (Q (rx c107_24) (Q (rx c107_31) (Q (rx c107_27) (Q (rx c107_1) (Q (rx c107_3) (Q @ent140 (Q @prm140 (Q (fun (mm : Int) (s : Bs) => (show callW (E0 mm) 140 [cd (dS s), cd (dS ([61] : Bs))] [] = _ from f140_t s ([61] : Bs))) (Q @f140_t (Q @e140.eq_1 (Q (rx c107_6) (Q @ent69 (Q @prm69 (Q @f69_t (Q @e69.eq_1 (Q (rx c107_14) (Q (rx c107_9) (Q (nE c107_0 (.seq c107_1 (.seq c107_3 (.seq (.seq c107_6 (.cond _ (.seq c107_9 .ret) .skip)) (.seq (.seq c107_14 c107_15) c107_20))))) (Q (nE c107_20 (.seq c107_21 (.seq (.seq c107_24 (.cond _ (.seq c107_27 .ret) .skip)) (.seq c107_31 .ret)))) hA))))))))))))))))))))))))))
theorem j107_15_t (name5 value6 : Bs) (t24 : Bool)  (sl : Sl) (_ : sl 5 = vd (dS name5)) (_ : sl 6 = vd (dS value6)) (_ : sl 24 = vd (dB t24)) :
    bodyD (E0 mm) [.tmp 2, .tmp 3, .tmp 4] 0 false (sq (E0 mm) 107 0 c107_20 (dn (E0 mm) 107 0 c107_15 sl [])) = (j107_15 name5 value6 t24).map e107 := by
  unfold j107_15; exact go (Q (nE c107_15 (.cond _ (.seq c107_17 .ret) .skip)) k107) trivial
def m107 (s : Bs) : Option R107 :=
  (m140 s ([61] : Bs)).bind fun yr2 =>
    (m69 yr2.1).bind fun yr4 =>
      if yr4 = true then
        if yr2.2.2 = true then
          (m69 yr2.2.1).bind fun yr8 =>
            j107_15 yr2.1 yr2.2.1 yr8
        else
          j107_15 yr2.1 yr2.2.1 true
      else
        some (([] : Bs), ([] : Bs), false)
theorem f107_t (s : Bs) :
    callW (E0 mm) 107 [cd (dS s)] [] = (m107 s).map e107 := by
  rw [cR c107_0 [.tmp 2, .tmp 3, .tmp 4] Tryz.func107]
  unfold m107; exact go k107 @j107_15_t
noncomputable def c59_0 : Code := bodyOf Tryz.f59
def c59_1 := cA c59_0
def c59_3 := cA (cB c59_0)
def c59_6 := cA (cA (cB (cB c59_0)))
def c59_8 := cA (cB (cA (cB (cB c59_0))))
def c59_9 := cA c59_8
def c59_10 := cA c59_9
def c59_18 := cA (cA (cA (cB (cB c59_9))))
def c59_20 := cA (cB (cA (cA (cB (cB c59_9)))))
def c59_22 := cA (cB (cB (cA (cA (cB (cB c59_9))))))
def c59_24 := cA (cB (cB (cB (cA (cA (cB (cB c59_9)))))))
def c59_26 := cB (cB (cB c59_9))
def c59_27 := cB (cB (cB c59_0))
def c59_28 := cA c59_27
def L59_8 : List (Nat × Co) := [(3, .freeze), (11, .freeze), (12, .freeze), (13, .freeze)]
abbrev b59 (mm : Int) := bodyD (E0 mm) [.tmp 2] 0 false
abbrev R59 := (List (Bs × List Bs))
def e59 (x : R59) : AV × Heap := (.v (.c (.mp 0)), [.amap (enM x)])
def j59_26 (t11_0 : Bool) (t11_1 : List Bs) (t12 t13 : Int) (kv0 : Kvs) : Option ((Bool × List Bs × Int × Int × Kvs) ⊕ R59) :=
  some (.inl (t11_0, t11_1, t12, (w64 (t13 + 1)), kv0))
def K59_8 (mm : Int) (r : Option (Ex × St)) : Option (AV × Heap) := b59 mm (sq (E0 mm) 59 0 c59_27 (blockD 0 (r)))
def en59_8 (x : (Bool × List Bs × Int × Int × Kvs)) : X := (none, [.v (.c (.mp 0)), vd (.lst x.1 (enL enS x.2.1)), vd (dI x.2.2.1), vd (dI x.2.2.2.1)], (HO x.2.2.2.2))
def k59 := Q @closeHO_c (Q @renHO (Q @idxHO0 (Q (rx c59_28) (Q @frzHO (Q @closeHF_c (Q @HF_0 (Q (rx c59_10) (Q (rx c59_18) (Q (rx c59_20) (Q @ent107 (Q @prm107 (Q @f107_t (Q @e107.eq_1 (Q (rx c59_22) (Q (rx c59_24) (Q @HO_0 (Q @findO (Q @hd49 (Q @nv50 (Q @rw51 (Q @ao45O (Q @HO_s0 (Q @HO_put (Q @findO0 (Q @ao45O0 (Q @HO_a0 (Q @HO_put0 (Q @K59_8.eq_1 (Q (rx c59_1) (Q (rx c59_3) (Q (rx c59_6) (Q (fun (mm : Int) (l_0 : Bool) (l_1 : List (Bs × Bs)) => (show callW (E0 mm) 26 [cd (.lst l_0 (enL enSS l_1)), cd (dS ([99, 97, 99, 104, 101, 45, 99, 111, 110, 116, 114, 111, 108] : Bs))] [] = _ from f26_t l_0 l_1 ([99, 97, 99, 104, 101, 45, 99, 111, 110, 116, 114, 111, 108] : Bs))) (Q @f26_t (Q @e26.eq_1 (Q (fun mm => lx (E0 mm) 59 c59_8 c59_9 L59_8) (Q (nE c59_0 (.seq c59_1 (.seq c59_3 (.seq (.seq c59_6 (.block 0 c59_8)) c59_27)))) (Q (nE c59_9 (.seq c59_10 (.seq (.cond _ .skip (.exit 0)) (.seq (.block 1 (.seq c59_18 (.seq c59_20 (.seq c59_22 (.cond _ c59_24 .skip))))) c59_26)))) (Q @L59_8.eq_1 hA))))))))))))))))))))))))))))))))))))))
theorem j59_26_t (t11_0 : Bool) (t11_1 : List Bs) (t12 t13 : Int) (kv0 : Kvs)  (sl : Sl) (_ : sl 3 = .v (.c (.mp 0))) (_ : sl 11 = vd (.lst t11_0 (enL enS t11_1))) (_ : sl 12 = vd (dI t12)) (_ : sl 13 = vd (dI t13)) :
    stepE (K59_8 mm) (loopK 0 L59_8 (den (E0 mm) 59 0 (callW (E0 mm)) itW c59_26 none ⟨sl, (HO kv0)⟩)) = (j59_26 t11_0 t11_1 t12 t13 kv0).map (sm en59_8 e59) := by
  unfold j59_26; exact go (Q (rx c59_26) k59) trivial
def j59_27 (kv0 : Kvs) : Option R59 :=
  some kv0
theorem j59_27_t (kv0 : Kvs)  (sl : Sl) (_ : sl 3 = .v (.c (.mp 0))) :
    b59 mm (den (E0 mm) 59 0 (callW (E0 mm)) itW c59_27 none ⟨sl, (HO kv0)⟩) = (j59_27 kv0).map e59 := by
  unfold j59_27; exact go (Q (nE c59_27 (.seq c59_28 .ret)) k59) trivial
def s59_8 (t11_0 : Bool) (t11_1 : List Bs) (t12 t13 : Int) (kv0 : Kvs) : Option ((Bool × List Bs × Int × Int × Kvs) ⊕ R59) :=
  if (decide (t13 < t12)) = true then
    if 0 ≤ t13 ∧ t13 < (t11_1.length : Int) then
      (m107 (t11_1.getD t13.toNat default)).bind fun yr7 =>
        if yr7.2.2 = true then
          if (hasM yr7.1 kv0) = true then
            if ((valM yr7.1 kv0).length + 1) * 16 ≤ 140737488355328 then
              j59_26 t11_0 t11_1 t12 t13 (appM yr7.1 yr7.2.1 kv0)
            else none
          else
            j59_26 t11_0 t11_1 t12 t13 (kv0 ++ [(yr7.1, [yr7.2.1])])
        else
          j59_26 t11_0 t11_1 t12 t13 kv0
    else none
  else
    (j59_27 kv0).map .inr
theorem s59_8_t (t11_0 : Bool) (t11_1 : List Bs) (t12 t13 : Int) (kv0 : Kvs) :
    stepE (K59_8 mm) (lp (E0 mm) 59 0 c59_9 L59_8 (none, [.v (.c (.mp 0)), vd (.lst t11_0 (enL enS t11_1)), vd (dI t12), vd (dI t13)], (HO kv0))) = (s59_8 t11_0 t11_1 t12 t13 kv0).map (sm en59_8 e59) := by
  unfold s59_8; exact go k59 (Q @j59_26_t @j59_27_t)
def l59_8 (t11_0 : Bool) (t11_1 : List Bs) (t12 t13 : Int) (kv0 : Kvs) : Option R59 := iter (fun x : (Bool × List Bs × Int × Int × Kvs) => s59_8 x.1 x.2.1 x.2.2.1 x.2.2.2.1 x.2.2.2.2) (t11_0, t11_1, t12, t13, kv0)
theorem l59_8_t (t11_0 : Bool) (t11_1 : List Bs) (t12 t13 : Int) (kv0 : Kvs) : b59 mm (sq (E0 mm) 59 0 c59_27 (blockD 0 (itW (lp (E0 mm) 59 0 c59_9 L59_8) (none, [.v (.c (.mp 0)), vd (.lst t11_0 (enL enS t11_1)), vd (dI t12), vd (dI t13)], (HO kv0))))) = (l59_8 t11_0 t11_1 t12 t13 kv0).map e59 :=
  it_sim (K := (K59_8 mm)) rfl (enc := en59_8) (fun x => s59_8_t x.1 x.2.1 x.2.2.1 x.2.2.2.1 x.2.2.2.2) (t11_0, t11_1, t12, t13, kv0)
def m59 (l_0 : Bool) (l_1 : List (Bs × Bs)) : Option R59 :=
  (m26 l_0 l_1 ([99, 97, 99, 104, 101, 45, 99, 111, 110, 116, 114, 111, 108] : Bs)).bind fun yr2 =>
    l59_8 yr2.1 yr2.2 (yr2.2.length : Int) (0 : Int) ([] : Kvs)
theorem f59_t (l_0 : Bool) (l_1 : List (Bs × Bs)) :
    callW (E0 mm) 59 [cd (.lst l_0 (enL enSS l_1))] [] = (m59 l_0 l_1).map e59 := by
  rw [cR c59_0 [.tmp 2] Tryz.func59]
  unfold m59; exact go k59 @l59_8_t
noncomputable def c108_0 : Code := bodyOf Tryz.f108
def c108_1 := cA c108_0
def c108_3 := cA (cB c108_0)
def c108_5 := cA (cB (cB c108_0))
abbrev R108 := (Bool)
def e108 (gm1 : List (Bs × List Bs)) (x : R108) : AV × Heap := (vd (dB x), [.cells [.mp 1], .amap (enM gm1)])
def m108 (name : Bs) (gm1 : List (Bs × List Bs)) : Option R108 :=
  some (hasM name gm1)
def k108 := Q (rx c108_1) (Q (rx c108_3) (Q (rx c108_5) (Q (nE c108_0 (.seq c108_1 (.seq c108_3 (.seq c108_5 .ret)))) hA)))
theorem f108_t (name : Bs) (gm1 : List (Bs × List Bs)) :
    callW (E0 mm) 108 [cd (dS name), .c (.ptr 0 0)] [.cells [.mp 1], .amap (enM gm1)] = (m108 name gm1).map (e108 gm1) := by
  rw [cR c108_0 [.tmp 3] Tryz.func108]
  unfold m108; exact go k108 trivial
abbrev b123a (mm : Int) := bodyD (E0 mm) [.tmp 4] 2 false
abbrev R123a := (Int)
def L123a_6 : List (Nat × Co) := [(0, .keep), (1, .keep), (7, .keep), (8, .keep)]
def e123a (gm1 : List (Bs × List Bs)) (x : R123a) : AV × Heap := (vd (dI x), [.cells [.mp 1], .amap (enM gm1)])
def j123a_25 (gm1 : List (Bs × List Bs))  : Option R123a :=
  some (-1 : Int)
def K123a_6 (mm : Int) (r : Option (Ex × St)) : Option (AV × Heap) := b123a mm (sq (E0 mm) 123 2 c123_25 (blockD 0 (r)))
def en123a_6 (gm1 : List (Bs × List Bs)) : (Bool × List Bs × Int × Int) → X := fun x => (none, [vd (.lst x.1 (enL enS x.2.1)), .v (.c (.fn 108 [(0, 0)])), vd (dI x.2.2.1), vd (dI x.2.2.2)], [.cells [.mp 1], .amap (enM gm1)])
def k123a := Q (rx c123_26) (Q (rx c123_8) (Q (rx c123_16) (Q (rx c123_18) (Q @ent108 (Q @prm108 (Q @f108_t (Q @e108.eq_1 (Q (rx c123_21) (Q @K123a_6.eq_1 (Q (rx c123_24) (Q (rx c123_1) (Q (rx c123_4) (Q (fun mm => lx (E0 mm) 123 c123_6 c123_7 L123a_6) (Q (nE c123_0 (.seq c123_1 (.seq (.seq c123_4 (.block 0 c123_6)) c123_25))) (Q (nE c123_7 (.seq c123_8 (.seq (.cond _ .skip (.exit 0)) (.seq (.block 1 (.seq c123_16 (.seq c123_18 (.cond _ (.seq c123_21 .ret) .skip)))) c123_24)))) (Q @L123a_6.eq_1 hA))))))))))))))))
theorem j123a_25_t (gm1 : List (Bs × List Bs))   (sl : Sl)  :
    b123a mm (dn (E0 mm) 123 2 c123_25 sl [.cells [.mp 1], .amap (enM gm1)]) = (j123a_25 gm1).map (e123a gm1) := by
  unfold j123a_25; exact go (Q (nE c123_25 (.seq c123_26 .ret)) k123a) trivial
def s123a_6 (gm1 : List (Bs × List Bs)) (s0_0 : Bool) (s0_1 : List Bs) (t7 t8 : Int) : Option ((Bool × List Bs × Int × Int) ⊕ R123a) :=
  if (decide (t8 < t7)) = true then
    if 0 ≤ t8 ∧ t8 < (s0_1.length : Int) then
      (m108 (s0_1.getD t8.toNat default) gm1).bind fun yr5 =>
        if yr5 = true then
          some (.inr t8)
        else
          some (.inl (s0_0, s0_1, t7, (w64 (t8 + 1))))
    else none
  else
    (j123a_25 gm1).map .inr
theorem s123a_6_t (gm1 : List (Bs × List Bs)) (s0_0 : Bool) (s0_1 : List Bs) (t7 t8 : Int) :
    stepE (K123a_6 mm) (lp (E0 mm) 123 2 c123_7 L123a_6 (none, [vd (.lst s0_0 (enL enS s0_1)), .v (.c (.fn 108 [(0, 0)])), vd (dI t7), vd (dI t8)], [.cells [.mp 1], .amap (enM gm1)])) = (s123a_6 gm1 s0_0 s0_1 t7 t8).map (sm (en123a_6 gm1) (e123a gm1)) := by
  unfold s123a_6; exact go k123a @j123a_25_t
def l123a_6 (gm1 : List (Bs × List Bs)) (s0_0 : Bool) (s0_1 : List Bs) (t7 t8 : Int) : Option R123a := iter (fun x : (Bool × List Bs × Int × Int) => s123a_6 gm1 x.1 x.2.1 x.2.2.1 x.2.2.2) (s0_0, s0_1, t7, t8)
theorem l123a_6_t (gm1 : List (Bs × List Bs)) (s0_0 : Bool) (s0_1 : List Bs) (t7 t8 : Int) : b123a mm (sq (E0 mm) 123 2 c123_25 (blockD 0 (itW (lp (E0 mm) 123 2 c123_7 L123a_6) (none, [vd (.lst s0_0 (enL enS s0_1)), .v (.c (.fn 108 [(0, 0)])), vd (dI t7), vd (dI t8)], [.cells [.mp 1], .amap (enM gm1)])))) = (l123a_6 gm1 s0_0 s0_1 t7 t8).map (e123a gm1) :=
  it_sim (K := (K123a_6 mm)) rfl (enc := (en123a_6 gm1)) (fun x => s123a_6_t gm1 x.1 x.2.1 x.2.2.1 x.2.2.2) (s0_0, s0_1, t7, t8)
def m123a (s_0 : Bool) (s_1 : List Bs) (gm1 : List (Bs × List Bs)) : Option R123a :=
  l123a_6 gm1 s_0 s_1 (s_1.length : Int) (0 : Int)
theorem f123a_t (s_0 : Bool) (s_1 : List Bs) (gm1 : List (Bs × List Bs)) :
    callW (E0 mm) 123 [cd (.lst s_0 (enL enS s_1)), .c (.fn 108 [(0, 0)])] [.cells [.mp 1], .amap (enM gm1)] = (m123a s_0 s_1 gm1).map (e123a gm1) := by
  rw [cR c123_0 [.tmp 4] Tryz.func123]
  unfold m123a; exact go k123a @l123a_6_t
abbrev R79a := (Bool)
def e79a (gm1 : List (Bs × List Bs)) (x : R79a) : AV × Heap := (vd (dB x), [.cells [.mp 1], .amap (enM gm1)])
def m79a (s_0 : Bool) (s_1 : List Bs) (gm1 : List (Bs × List Bs)) : Option R79a :=
  (m123a s_0 s_1 gm1).bind fun yr2 =>
    some (decide (0 ≤ yr2))
def k79a := Q (rx c79_1) (Q (rx c79_3) (Q @f123a_t (Q @e123a.eq_1 (Q (nE c79_0 (.seq c79_1 (.seq c79_3 .ret))) hA))))
theorem f79a_t (s_0 : Bool) (s_1 : List Bs) (gm1 : List (Bs × List Bs)) :
    callW (E0 mm) 79 [cd (.lst s_0 (enL enS s_1)), .c (.fn 108 [(0, 0)])] [.cells [.mp 1], .amap (enM gm1)] = (m79a s_0 s_1 gm1).map (e79a gm1) := by
  rw [cR c79_0 [.tmp 4] Tryz.func79]
  unfold m79a; exact go k79a trivial
noncomputable def c60_0 : Code := bodyOf Tryz.f60
def c60_1 := cA c60_0
def c60_3 := cA (cB c60_0)
abbrev R60 := (Bool)
def e60 (gm0 : List (Bs × List Bs)) (x : R60) : AV × Heap := (vd (dB x), [.amap (enM gm0)])
def m60 (names_0 : Bool) (names_1 : List Bs) (gm0 : List (Bs × List Bs)) : Option R60 :=
  (m79a names_0 names_1 gm0).bind fun yr2 =>
    some yr2
def k60 := Q (rx c60_1) (Q (rx c60_3) (Q @f79a_t (Q @e79a.eq_1 (Q (nE c60_0 (.seq c60_1 (.seq c60_3 .ret))) hA))))
theorem f60_t (names_0 : Bool) (names_1 : List Bs) (gm0 : List (Bs × List Bs)) :
    callW (E0 mm) 60 [.c (.mp 0), cd (.lst names_0 (enL enS names_1))] [.amap (enM gm0)] = (m60 names_0 names_1 gm0).map (e60 gm0) := by
  rw [cR c60_0 [.tmp 4] Tryz.func60]
  unfold m60; exact go k60 trivial
noncomputable def c152_0 : Code := bodyOf Tryz.f152
def c152_1 := cA c152_0
def c152_4 := cA (cA (cB c152_0))
def c152_5 := cB (cA (cB c152_0))
def c152_7 := cA (cA c152_5)
def c152_10 := cB (cB c152_0)
def c152_11 := cA c152_10
abbrev R152 := (Int)
def e152 (x : R152) : AV × Heap := (vd (dI x), [])
def j152_5 (c0 : Int) (t8 : Bool) : Option R152 :=
  if t8 = true then
    some (w64 (w32 (c0 - 48)))
  else
    some (-1 : Int)
def k152 := Q (rx c152_7) (Q @Tryz.underlying21 (Q (rx c152_11) (Q (rx c152_1) (Q (rx c152_4) (Q (nE c152_0 (.seq c152_1 (.seq (.seq c152_4 c152_5) c152_10))) (Q (nE c152_10 (.seq c152_11 .ret)) hA))))))
theorem j152_5_t (c0 : Int) (t8 : Bool)  (sl : Sl) (_ : sl 0 = vd (.sc (.int .i32 c0))) (_ : sl 8 = vd (dB t8)) :
    bodyD (E0 mm) [.tmp 2] 0 false (sq (E0 mm) 152 0 c152_10 (dn (E0 mm) 152 0 c152_5 sl [])) = (j152_5 c0 t8).map e152 := by
  unfold j152_5; exact go (Q (nE c152_5 (.cond _ (.seq c152_7 .ret) .skip)) k152) trivial
def m152 (c : Int) : Option R152 :=
  if (decide (48 ≤ c)) = true then
    j152_5 c (decide (c ≤ 57))
  else
    j152_5 c false
theorem f152_t (c : Int) :
    callW (E0 mm) 152 [cd (.sc (.int .i32 c))] [] = (m152 c).map e152 := by
  rw [cR c152_0 [.tmp 2] Tryz.func152]
  unfold m152; exact go k152 @j152_5_t
noncomputable def c151_0 : Code := bodyOf Tryz.f151
def c151_1 := cA c151_0
def c151_4 := cA (cA (cB c151_0))
def c151_7 := cA (cA (cB (cA (cB c151_0))))
def c151_11 := cA (cB (cB c151_0))
def c151_14 := cA (cA (cB (cB (cB c151_0))))
def c151_16 := cA (cB (cA (cB (cB (cB c151_0)))))
def c151_17 := cA c151_16
def c151_18 := cA c151_17
def c151_25 := cA (cA (cB (cB c151_17)))
def c151_27 := cA (cB (cA (cB (cB c151_17))))
def c151_30 := cA (cA (cB (cB (cA (cB (cB c151_17))))))
def c151_33 := cA (cA (cB (cA (cB (cB (cA (cB (cB c151_17))))))))
def c151_38 := cA (cA (cB (cB (cB (cA (cB (cB c151_17)))))))
def c151_39 := cB (cA (cB (cB (cB (cA (cB (cB c151_17)))))))
def c151_41 := cA (cA c151_39)
def c151_44 := cB (cB (cB (cB (cA (cB (cB c151_17))))))
def c151_45 := cB (cB (cB (cB c151_0)))
def c151_47 := cA (cA c151_45)
def c151_50 := cA (cA (cB (cA c151_45)))
def c151_54 := cA (cB c151_45)
def L151_16 : List (Nat × Co) := [(1, .keep), (2, .keep), (8, .keep), (9, .keep), (16, .keep)]
abbrev R151 := (Int × Int)
def e151 (x : R151) : AV × Heap := (.tup [cd (dU x.1), cd (dI x.2)], [])
def j151_39 (base1 n8 : Int) (long9 : Bool) (d12 : Int) (t34 : Bool) (s0 : Bs) (p0 : Nat) : Option ((Int × Int × Bool × Bs × Nat) ⊕ R151) :=
  if t34 = true then
    some (.inl (base1, n8, true, s0, p0))
  else
    some (.inl (base1, (wu64 ((wu64 (n8 * base1)) + (wu64 d12))), long9, s0, p0))
def K151_16 (mm : Int) (r : Option (Ex × St)) : Option (AV × Heap) := bodyD (E0 mm) [.tmp 6, .tmp 7] 0 false (sq (E0 mm) 151 0 c151_45 (blockD 0 (r)))
def en151_16 (x : (Int × Int × Bool × Bs × Nat)) : X := (none, [vd (dU x.1), vd (.sc (.func (.func 152) #[] #[])), vd (dU x.2.1), vd (dB x.2.2.1), .v (.c (.it 0))], [.siter (S x.2.2.2.1) x.2.2.2.2])
def k151 := Q (rx c151_41) (Q (rx c151_44) (Q (rx c151_47) (Q (rx c151_50) (Q (rx c151_54) (Q (rx c151_18) (Q @dec_eq (Q (rx c151_25) (Q (rx c151_27) (Q @ent152 (Q @prm152 (Q @f152_t (Q @e152.eq_1 (Q (rx c151_30) (Q (rx c151_33) (Q @K151_16.eq_1 (Q (rx c151_38) (Q @ev_quo0 (Q (rx c151_1) (Q (rx c151_4) (Q (rx c151_7) (Q (rx c151_11) (Q (rx c151_14) (Q (fun mm => lx (E0 mm) 151 c151_16 c151_17 L151_16) (Q (nE c151_0 (.seq c151_1 (.seq (.seq c151_4 (.cond _ (.seq c151_7 .ret) .skip)) (.seq c151_11 (.seq (.seq c151_14 (.block 0 c151_16)) c151_45))))) (Q (nE c151_17 (.seq c151_18 (.seq (.cond _ .skip (.exit 0)) (.block 1 (.seq c151_25 (.seq c151_27 (.seq (.seq c151_30 (.cond _ (.seq c151_33 .ret) .skip)) (.seq (.seq c151_38 c151_39) c151_44)))))))) (Q @en151_16.eq_1 (Q @L151_16.eq_1 hA)))))))))))))))))))))))))))
theorem j151_39_t (base1 n8 : Int) (long9 : Bool) (d12 : Int) (t34 : Bool) (s0 : Bs) (p0 : Nat)  (sl : Sl) (_ : sl 1 = vd (dU base1)) (_ : sl 2 = vd (.sc (.func (.func 152) #[] #[]))) (_ : sl 8 = vd (dU n8)) (_ : sl 9 = vd (dB long9)) (_ : sl 12 = vd (dI d12)) (_ : sl 16 = .v (.c (.it 0))) (_ : sl 34 = vd (dB t34)) :
    stepE (K151_16 mm) (loopK 0 L151_16 (blockD 1 (sq (E0 mm) 151 0 c151_44 (dn (E0 mm) 151 0 c151_39 sl [.siter (S s0) p0])))) = (j151_39 base1 n8 long9 d12 t34 s0 p0).map (sm en151_16 e151) := by
  unfold j151_39; exact go (Q (nE c151_39 (.cond _ (.seq c151_41 (.exit 1)) .skip)) k151) trivial
def j151_45 (n8 : Int) (long9 : Bool) : Option R151 :=
  if long9 = true then
    some ((0 : Int), (3 : Int))
  else
    some (n8, (0 : Int))
theorem j151_45_t (n8 : Int) (long9 : Bool) (g0 : Ob) (sl : Sl) (_ : sl 8 = vd (dU n8)) (_ : sl 9 = vd (dB long9)) :
    bodyD (E0 mm) [.tmp 6, .tmp 7] 0 false (dn (E0 mm) 151 0 c151_45 sl [g0]) = (j151_45 n8 long9).map e151 := by
  unfold j151_45; exact go (Q (nE c151_45 (.seq (.seq c151_47 (.cond _ (.seq c151_50 .ret) .skip)) (.seq c151_54 .ret))) k151) trivial
def s151_16 (base1 n8 : Int) (long9 : Bool) (s0 : Bs) (p0 : Nat) : Option ((Int × Int × Bool × Bs × Nat) ⊕ R151) :=
  if (decide (p0 < s0.length)) = true then
    (m152 (uc s0 p0 : Int)).bind fun yr5 =>
      if (decide (yr5 < 0)) = true then
        some (.inr ((0 : Int), (5 : Int)))
      else
        if long9 = true then
          j151_39 base1 n8 true yr5 true s0 (p0 + uw s0 p0)
        else
          if (base1 == 0) = false then
            j151_39 base1 n8 false yr5 (decide ((wu64 ((wu64 (9007199254740991 - (wu64 yr5))).tdiv base1)) < n8)) s0 (p0 + uw s0 p0)
          else none
  else
    (j151_45 n8 long9).map .inr
theorem s151_16_t (base1 n8 : Int) (long9 : Bool) (s0 : Bs) (p0 : Nat) :
    stepE (K151_16 mm) (lp (E0 mm) 151 0 c151_17 L151_16 (en151_16 (base1, n8, long9, s0, p0))) = (s151_16 base1 n8 long9 s0 p0).map (sm en151_16 e151) := by
  unfold s151_16; exact go k151 (Q @j151_39_t @j151_45_t)
def l151_16 (base1 n8 : Int) (long9 : Bool) (s0 : Bs) (p0 : Nat) : Option R151 := iter (fun x : (Int × Int × Bool × Bs × Nat) => s151_16 x.1 x.2.1 x.2.2.1 x.2.2.2.1 x.2.2.2.2) (base1, n8, long9, s0, p0)
theorem l151_16_t (base1 n8 : Int) (long9 : Bool) (s0 : Bs) (p0 : Nat) : (K151_16 mm) (itW (lp (E0 mm) 151 0 c151_17 L151_16) (en151_16 (base1, n8, long9, s0, p0))) = (l151_16 base1 n8 long9 s0 p0).map e151 :=
  it_sim (K := (K151_16 mm)) rfl (enc := en151_16) (fun x => s151_16_t x.1 x.2.1 x.2.2.1 x.2.2.2.1 x.2.2.2.2) (base1, n8, long9, s0, p0)
def m151 (s : Bs) (base : Int) : Option R151 :=
  if (s == ([] : Bs)) = true then
    some ((0 : Int), (5 : Int))
  else
    l151_16 base (0 : Int) false s 0
theorem f151_t (s : Bs) (base : Int) :
    callW (E0 mm) 151 [cd (dS s), cd (dU base), cd (.sc (.func (.func 152) #[] #[]))] [] = (m151 s base).map e151 := by
  rw [cR c151_0 [.tmp 6, .tmp 7] Tryz.func151]
  unfold m151; exact go k151 @l151_16_t
noncomputable def c138_0 : Code := bodyOf Tryz.f138
def c138_1 := cA c138_0
def c138_3 := cA (cB c138_0)
abbrev R138 := (Int × Int)
def e138 (x : R138) : AV × Heap := (.tup [cd (dU x.1), cd (dI x.2)], [])
def m138 (s : Bs) : Option R138 :=
  (m151 s (10 : Int)).bind fun yr2 =>
    some (yr2.1, yr2.2)
def k138 := Q (rx c138_1) (Q (rx c138_3) (Q @ent151 (Q @prm151 (Q @f151_t (Q @e151.eq_1 (Q (nE c138_0 (.seq c138_1 (.seq c138_3 .ret))) hA))))))
theorem f138_t (s : Bs) :
    callW (E0 mm) 138 [cd (dS s)] [] = (m138 s).map e138 := by
  rw [cR c138_0 [.tmp 2, .tmp 3] Tryz.func138]
  unfold m138; exact go k138 trivial
noncomputable def c109_0 : Code := bodyOf Tryz.f109
def c109_1 := cA c109_0
def c109_3 := cA (cB c109_0)
def c109_6 := cA (cA (cB (cB c109_0)))
def c109_9 := cA (cA (cB (cA (cB (cB c109_0)))))
def c109_12 := cA (cA (cB (cA (cB (cA (cB (cB c109_0)))))))
def c109_15 := cA (cB (cB (cA (cB (cA (cB (cB c109_0)))))))
def c109_18 := cA (cA (cB (cB (cB (cA (cB (cA (cB (cB c109_0)))))))))
def c109_22 := cA (cB (cB (cB c109_0)))
abbrev R109 := (Int)
def e109 (x : R109) : AV × Heap := (vd (dI x), [])
def m109 (s : Bs) : Option R109 :=
  (m138 s).bind fun yr2 =>
    if (yr2.2 == 0) = true then
      some (w64 (min2 yr2.1 2147483647))
    else
      if (yr2.2 == 3) = true then
        some (2147483647 : Int)
      else
        some (0 : Int)
def k109 := Q (rx c109_1) (Q (rx c109_3) (Q @ent138 (Q @prm138 (Q @f138_t (Q @e138.eq_1 (Q (rx c109_6) (Q (rx c109_9) (Q (rx c109_12) (Q (rx c109_15) (Q (rx c109_18) (Q (rx c109_22) (Q (nE c109_0 (.seq c109_1 (.seq c109_3 (.seq (.seq c109_6 (.block 0 (.seq c109_9 (.cond _ (.seq c109_12 .ret) (.seq c109_15 (.cond _ (.seq c109_18 .ret) .skip)))))) (.seq c109_22 .ret))))) hA))))))))))))
theorem f109_t (s : Bs) :
    callW (E0 mm) 109 [cd (dS s)] [] = (m109 s).map e109 := by
  rw [cR c109_0 [.tmp 2] Tryz.func109]
  unfold m109; exact go k109 trivial
noncomputable def c62_0 : Code := bodyOf Tryz.f62
def c62_1 := cA c62_0
def c62_4 := cA (cA (cB c62_0))
def c62_6 := cA (cB (cA (cB c62_0)))
def c62_9 := cA (cB (cB c62_0))
def c62_12 := cA (cA (cB (cB (cB c62_0))))
def c62_14 := cA (cB (cA (cB (cB (cB c62_0)))))
def c62_15 := cA c62_14
def c62_17 := cA (cA c62_15)
def c62_23 := cA (cA (cB c62_15))
def c62_24 := cB (cB c62_15)
def c62_25 := cB (cB (cB (cB c62_0)))
def c62_26 := cA c62_25
theorem c62_6_r : RG (E0 mm) 62 c62_6 := rgN rfl
def L62_8 : List (Nat × Co) := [(0, .keep), (3, .keep), (4, .keep)]
abbrev R62 := (Int × List Int)
def e62 (x : R62) : AV × Heap := (vd (dI x.1), [.cells (enI x.2)])
def j62_25 (m3 : Int) (h0 : List Int) : Option R62 :=
  some (m3, h0)
def K62_14 (mm : Int) (r : Option (Ex × St)) : Option (AV × Heap) := bodyD (E0 mm) [.tmp 2] 1 false (sq (E0 mm) 62 1 c62_25 (blockD 0 (r)))
def en62_14 (x : (Int × Int × List Int)) : X := (none, [.v (.c (.slc 0 0 1 x.2.2.length none)), vd (dI x.1), vd (dI x.2.1)], [.cells (enI x.2.2)])
def k62 (mm : Int) := Q (rx c62_26) (Q (rx c62_17) (Q (rx c62_23) (Q @enI_length (Q @enI_load (Q (rx c62_24) (Q @K62_14.eq_1 (Q (rx c62_1) (Q (rx c62_4) (Q @c62_6_r (Q (runOps_dead (E := (E0 mm)) (call := callW (E0 mm)) (all := opsOf c62_6) (os := opsOf c62_6) (by kernel_rfl)) (Q (rx c62_9) (Q (fun l => enI_load0 l 0) (Q (rx c62_12) (Q (fun mm => lx (E0 mm) 62 c62_14 c62_15 L62_8) (Q (nE c62_0 (.seq c62_1 (.seq (.seq c62_4 (.cond _ c62_6 .skip)) (.seq c62_9 (.seq (.seq c62_12 (.block 0 c62_14)) c62_25))))) (Q (nE c62_15 (.seq (.seq c62_17 (.cond _ .skip (.exit 0))) (.seq (.block 1 c62_23) c62_24))) (Q @en62_14.eq_1 (Q @L62_8.eq_1 hA))))))))))))))))))
theorem j62_25_t (m3 : Int) (h0 : List Int)  (sl : Sl) (_ : sl 3 = vd (dI m3)) :
    bodyD (E0 mm) [.tmp 2] 1 false (dn (E0 mm) 62 1 c62_25 sl [.cells (enI h0)]) = (j62_25 m3 h0).map e62 := by
  unfold j62_25; exact go (Q (nE c62_25 (.seq c62_26 .ret)) (k62 mm)) trivial
def s62_14 (m3 i4 : Int) (h0 : List Int) : Option ((Int × Int × List Int) ⊕ R62) :=
  if (decide (i4 < (h0.length : Int))) = true then
    if 0 ≤ i4 ∧ i4 < (h0.length : Int) then
      some (.inl ((min2 m3 (h0.getD i4.toNat default)), (w64 (i4 + 1)), h0))
    else none
  else
    (j62_25 m3 h0).map .inr
theorem s62_14_t (m3 i4 : Int) (h0 : List Int) :
    stepE (K62_14 mm) (lp (E0 mm) 62 1 c62_15 L62_8 (en62_14 (m3, i4, h0))) = (s62_14 m3 i4 h0).map (sm en62_14 e62) := by
  unfold s62_14; exact go (k62 mm) @j62_25_t
def l62_14 (m3 i4 : Int) (h0 : List Int) : Option R62 := iter (fun x : (Int × Int × List Int) => s62_14 x.1 x.2.1 x.2.2) (m3, i4, h0)
theorem l62_14_t (m3 i4 : Int) (h0 : List Int) : (K62_14 mm) (itW (lp (E0 mm) 62 1 c62_15 L62_8) (en62_14 (m3, i4, h0))) = (l62_14 m3 i4 h0).map e62 :=
  it_sim (K := (K62_14 mm)) rfl (enc := en62_14) (fun x => s62_14_t x.1 x.2.1 x.2.2) (m3, i4, h0)
def m62 (h0 : List Int) : Option R62 :=
  if (decide ((h0.length : Int) < 1)) = true then
    none
  else
    if (0 : Int) < (h0.length : Int) then
      l62_14 (h0.getD 0 default) (1 : Int) h0
    else none
theorem f62_t (h0 : List Int) :
    callW (E0 mm) 62 [.c (.slc 0 0 1 h0.length none)] [.cells (enI h0)] = (m62 h0).map e62 := by
  rw [cR c62_0 [.tmp 2] Tryz.func62]
  unfold m62; exact go (k62 mm) @l62_14_t
noncomputable def c61_0 : Code := bodyOf Tryz.f61
def c61_1 := cA c61_0
def c61_3 := cA (cB c61_0)
def c61_6 := cA (cA (cB (cB c61_0)))
def c61_8 := cA (cB (cA (cB (cB c61_0))))
def c61_9 := cA c61_8
def c61_10 := cA c61_9
def c61_15 := cB (cB c61_9)
def c61_18 := cA (cA (cA c61_15))
def c61_19 := cB (cA (cA c61_15))
def c61_20 := cB c61_15
def c61_21 := cB (cB (cB c61_0))
def c61_23 := cA (cA c61_21)
def c61_26 := cA (cA (cB (cA c61_21)))
def c61_30 := cA (cB c61_21)
def L61_8 : List (Nat × Co) := [(1, .keep), (5, .keep), (8, .keep), (9, .keep), (10, .keep)]
abbrev b61 (mm : Int) := bodyD (E0 mm) [.tmp 4] 0 false
abbrev R61 := (Int)
def e61 (x : R61) : AV × Heap := (vd (dI x), [])
def j61_20 (t8_0 : Bool) (t8_1 : List Bs) (t9 t10 : Int) (h1 : List Int) : Option (((Bool × List Bs × Int × Int) ⊕ (Bool × List Bs × Int × Int × List Int)) ⊕ R61) :=
  some (.inl (.inr (t8_0, t8_1, t9, (w64 (t10 + 1)), h1)))
def K61_8 (mm : Int) (r : Option (Ex × St)) : Option (AV × Heap) := b61 mm (sq (E0 mm) 61 0 c61_21 (blockD 0 (r)))
def en61_8 : ((Bool × List Bs × Int × Int) ⊕ (Bool × List Bs × Int × Int × List Int)) → X := fun x => match x with
  | (.inl x) => (none, [vd (.sc (.func (.func 62) #[] #[])), vd (.lst true []), vd (.lst x.1 (enL enS x.2.1)), vd (dI x.2.2.1), vd (dI x.2.2.2)], [])
  | (.inr x) => (none, [vd (.sc (.func (.func 62) #[] #[])), .v (.c (.slc 0 0 1 x.2.2.2.2.length none)), vd (.lst x.1 (enL enS x.2.1)), vd (dI x.2.2.1), vd (dI x.2.2.2.1)], [.cells (enI x.2.2.2.2)])
def k61 := Q (rx c61_18) (Q (rx c61_19) (Q @f109_t (Q @e109.eq_1 (Q @enI_length (Q @enI1_src (Q (rx c61_23) (Q (rx c61_26) (Q (rx c61_10) (Q @K61_8.eq_1 (Q (rx c61_30) (Q @f62_t (Q @e62.eq_1 (Q (rx c61_1) (Q (rx c61_3) (Q (rx c61_6) (Q (fun mm => lx (E0 mm) 61 c61_8 c61_9 L61_8) (Q (nE c61_0 (.seq c61_1 (.seq c61_3 (.seq (.seq c61_6 (.block 0 c61_8)) c61_21)))) (Q (nE c61_9 (.seq c61_10 (.seq (.cond _ .skip (.exit 0)) c61_15))) (Q @L61_8.eq_1 hA)))))))))))))))))))
theorem j61_20_t (t8_0 : Bool) (t8_1 : List Bs) (t9 t10 : Int) (h1 : List Int) (g0 : Ob) (sl : Sl) (_ : sl 1 = vd (.sc (.func (.func 62) #[] #[]))) (_ : sl 5 = .v (.c (.slc 1 0 1 h1.length none))) (_ : sl 8 = vd (.lst t8_0 (enL enS t8_1))) (_ : sl 9 = vd (dI t9)) (_ : sl 10 = vd (dI t10)) :
    stepE (K61_8 mm) (loopK 0 L61_8 (dn (E0 mm) 61 0 c61_20 sl [g0, .cells (enI h1)])) = (j61_20 t8_0 t8_1 t9 t10 h1).map (sm en61_8 e61) := by
  unfold j61_20; exact go (Q (rx c61_20) k61) trivial
def j61_15 (t8_0 : Bool) (t8_1 : List Bs) (t9 t10 : Int) : Option (((Bool × List Bs × Int × Int) ⊕ (Bool × List Bs × Int × Int × List Int)) ⊕ R61) :=
  if 0 ≤ t10 ∧ t10 < (t8_1.length : Int) then
    (m109 (t8_1.getD t10.toNat default)).bind fun yr5 =>
      j61_20 t8_0 t8_1 t9 t10 ([yr5] : List Int)
  else none
theorem j61_15_t (t8_0 : Bool) (t8_1 : List Bs) (t9 t10 : Int)  (sl : Sl) (_ : sl 1 = vd (.sc (.func (.func 62) #[] #[]))) (_ : sl 5 = vd (.lst true [])) (_ : sl 8 = vd (.lst t8_0 (enL enS t8_1))) (_ : sl 9 = vd (dI t9)) (_ : sl 10 = vd (dI t10)) :
    stepE (K61_8 mm) (loopK 0 L61_8 (dn (E0 mm) 61 0 c61_15 sl [])) = (j61_15 t8_0 t8_1 t9 t10).map (sm en61_8 e61) := by
  unfold j61_15; exact go (Q (nE c61_15 (.seq (.block 1 (.seq c61_18 c61_19)) c61_20)) k61) @j61_20_t
def j61_21  : Option R61 :=
  some (-1 : Int)
theorem j61_21_t (sl : Sl) (_ : sl 1 = vd (.sc (.func (.func 62) #[] #[]))) (_ : sl 5 = vd (.lst true [])) :
    b61 mm (dn (E0 mm) 61 0 c61_21 sl []) = (j61_21).map e61 := by
  unfold j61_21; exact go (Q (nE c61_21 (.seq (.seq c61_23 (.cond _ (.seq c61_26 .ret) .skip)) (.seq c61_30 .ret))) k61) trivial
def s61_8x0 (t8_0 : Bool) (t8_1 : List Bs) (t9 t10 : Int) : Option (((Bool × List Bs × Int × Int) ⊕ (Bool × List Bs × Int × Int × List Int)) ⊕ R61) :=
  if (decide (t10 < t9)) = true then
    j61_15 t8_0 t8_1 t9 t10
  else
    (j61_21).map .inr
theorem s61_8x0_t (t8_0 : Bool) (t8_1 : List Bs) (t9 t10 : Int) :
    stepE (K61_8 mm) (lp (E0 mm) 61 0 c61_9 L61_8 (none, [vd (.sc (.func (.func 62) #[] #[])), vd (.lst true []), vd (.lst t8_0 (enL enS t8_1)), vd (dI t9), vd (dI t10)], [])) = (s61_8x0 t8_0 t8_1 t9 t10).map (sm en61_8 e61) := by
  unfold s61_8x0; exact go k61 (Q @j61_15_t @j61_21_t)
def j61_20v1 (t8_0 : Bool) (t8_1 : List Bs) (t9 t10 : Int) (h2 : List Int) : Option (((Bool × List Bs × Int × Int) ⊕ (Bool × List Bs × Int × Int × List Int)) ⊕ R61) :=
  some (.inl (.inr (t8_0, t8_1, t9, (w64 (t10 + 1)), h2)))
theorem j61_20v1_t (t8_0 : Bool) (t8_1 : List Bs) (t9 t10 : Int) (h2 : List Int) (g0 g1 : Ob) (sl : Sl) (_ : sl 1 = vd (.sc (.func (.func 62) #[] #[]))) (_ : sl 5 = .v (.c (.slc 2 0 1 h2.length none))) (_ : sl 8 = vd (.lst t8_0 (enL enS t8_1))) (_ : sl 9 = vd (dI t9)) (_ : sl 10 = vd (dI t10)) :
    stepE (K61_8 mm) (loopK 0 L61_8 (dn (E0 mm) 61 0 c61_20 sl [g0, g1, .cells (enI h2)])) = (j61_20v1 t8_0 t8_1 t9 t10 h2).map (sm en61_8 e61) := by
  unfold j61_20v1; exact go (Q (rx c61_20) k61) trivial
def j61_15v1 (t8_0 : Bool) (t8_1 : List Bs) (t9 t10 : Int) (h0 : List Int) : Option (((Bool × List Bs × Int × Int) ⊕ (Bool × List Bs × Int × Int × List Int)) ⊕ R61) :=
  if 0 ≤ t10 ∧ t10 < (t8_1.length : Int) then
    (m109 (t8_1.getD t10.toNat default)).bind fun yr10 =>
      if (h0.length + 1) * 8 ≤ 140737488355328 then
        j61_20v1 t8_0 t8_1 t9 t10 (h0 ++ ([yr10] : List Int))
      else none
  else none
theorem j61_15v1_t (t8_0 : Bool) (t8_1 : List Bs) (t9 t10 : Int) (h0 : List Int)  (sl : Sl) (_ : sl 1 = vd (.sc (.func (.func 62) #[] #[]))) (_ : sl 5 = .v (.c (.slc 0 0 1 h0.length none))) (_ : sl 8 = vd (.lst t8_0 (enL enS t8_1))) (_ : sl 9 = vd (dI t9)) (_ : sl 10 = vd (dI t10)) :
    stepE (K61_8 mm) (loopK 0 L61_8 (dn (E0 mm) 61 0 c61_15 sl [.cells (enI h0)])) = (j61_15v1 t8_0 t8_1 t9 t10 h0).map (sm en61_8 e61) := by
  unfold j61_15v1; exact go (Q (nE c61_15 (.seq (.block 1 (.seq c61_18 c61_19)) c61_20)) k61) @j61_20v1_t
def j61_21v1 (h0 : List Int) : Option R61 :=
  if ((h0.length : Int) == 0) = true then
    some (-1 : Int)
  else
    (m62 h0).bind fun yr14 =>
      some yr14.1
theorem j61_21v1_t (h0 : List Int)  (sl : Sl) (_ : sl 1 = vd (.sc (.func (.func 62) #[] #[]))) (_ : sl 5 = .v (.c (.slc 0 0 1 h0.length none))) :
    b61 mm (dn (E0 mm) 61 0 c61_21 sl [.cells (enI h0)]) = (j61_21v1 h0).map e61 := by
  unfold j61_21v1; exact go (Q (nE c61_21 (.seq (.seq c61_23 (.cond _ (.seq c61_26 .ret) .skip)) (.seq c61_30 .ret))) k61) trivial
def s61_8x1 (t8_0 : Bool) (t8_1 : List Bs) (t9 t10 : Int) (h0 : List Int) : Option (((Bool × List Bs × Int × Int) ⊕ (Bool × List Bs × Int × Int × List Int)) ⊕ R61) :=
  if (decide (t10 < t9)) = true then
    j61_15v1 t8_0 t8_1 t9 t10 h0
  else
    (j61_21v1 h0).map .inr
theorem s61_8x1_t (t8_0 : Bool) (t8_1 : List Bs) (t9 t10 : Int) (h0 : List Int) :
    stepE (K61_8 mm) (lp (E0 mm) 61 0 c61_9 L61_8 (none, [vd (.sc (.func (.func 62) #[] #[])), .v (.c (.slc 0 0 1 h0.length none)), vd (.lst t8_0 (enL enS t8_1)), vd (dI t9), vd (dI t10)], [.cells (enI h0)])) = (s61_8x1 t8_0 t8_1 t9 t10 h0).map (sm en61_8 e61) := by
  unfold s61_8x1; exact go k61 (Q @j61_15v1_t @j61_21v1_t)
def s61_8 : ((Bool × List Bs × Int × Int) ⊕ (Bool × List Bs × Int × Int × List Int)) → Option (((Bool × List Bs × Int × Int) ⊕ (Bool × List Bs × Int × Int × List Int)) ⊕ R61) := fun x => match x with
  | (.inl x) => s61_8x0 x.1 x.2.1 x.2.2.1 x.2.2.2
  | (.inr x) => s61_8x1 x.1 x.2.1 x.2.2.1 x.2.2.2.1 x.2.2.2.2
def l61_8 (t8_0 : Bool) (t8_1 : List Bs) (t9 t10 : Int) : Option R61 := iter s61_8 (.inl (t8_0, t8_1, t9, t10))
theorem l61_8_t (t8_0 : Bool) (t8_1 : List Bs) (t9 t10 : Int) : b61 mm (sq (E0 mm) 61 0 c61_21 (blockD 0 (itW (lp (E0 mm) 61 0 c61_9 L61_8) (none, [vd (.sc (.func (.func 62) #[] #[])), vd (.lst true []), vd (.lst t8_0 (enL enS t8_1)), vd (dI t9), vd (dI t10)], [])))) = (l61_8 t8_0 t8_1 t9 t10).map e61 :=
  it_sim (K := (K61_8 mm)) rfl (enc := en61_8) (fun x => match x with
  | (.inl x) => s61_8x0_t x.1 x.2.1 x.2.2.1 x.2.2.2
  | (.inr x) => s61_8x1_t x.1 x.2.1 x.2.2.1 x.2.2.2.1 x.2.2.2.2) (.inl (t8_0, t8_1, t9, t10))
def m61 (values_0 : Bool) (values_1 : List Bs) : Option R61 :=
  l61_8 values_0 values_1 (values_1.length : Int) (0 : Int)
theorem f61_t (values_0 : Bool) (values_1 : List Bs) :
    callW (E0 mm) 61 [cd (.lst values_0 (enL enS values_1)), cd (.sc (.func (.func 62) #[] #[]))] [] = (m61 values_0 values_1).map e61 := by
  rw [cR c61_0 [.tmp 4] Tryz.func61]
  unfold m61; exact go k61 @l61_8_t
noncomputable def c81_0 : Code := bodyOf Tryz.f81
def c81_1 := cA c81_0
def c81_4 := cA (cA (cB c81_0))
def c81_6 := cA (cB (cA (cB c81_0)))
def c81_9 := cA (cB (cB c81_0))
def c81_12 := cA (cA (cB (cB (cB c81_0))))
def c81_14 := cA (cB (cA (cB (cB (cB c81_0)))))
def c81_15 := cA c81_14
def c81_17 := cA (cA c81_15)
def c81_23 := cA (cA (cB c81_15))
def c81_24 := cB (cB c81_15)
def c81_25 := cB (cB (cB (cB c81_0)))
def c81_26 := cA c81_25
theorem c81_6_r : RG (E0 mm) 81 c81_6 := rgN rfl
def L81_8 : List (Nat × Co) := [(0, .keep), (3, .keep), (4, .keep)]
abbrev R81 := (Int × List Int)
def e81 (x : R81) : AV × Heap := (vd (dI x.1), [.cells (enI x.2)])
def j81_25 (m3 : Int) (h0 : List Int) : Option R81 :=
  some (m3, h0)
def K81_14 (mm : Int) (r : Option (Ex × St)) : Option (AV × Heap) := bodyD (E0 mm) [.tmp 2] 1 false (sq (E0 mm) 81 1 c81_25 (blockD 0 (r)))
def en81_14 (x : (Int × Int × List Int)) : X := (none, [.v (.c (.slc 0 0 1 x.2.2.length none)), vd (dI x.1), vd (dI x.2.1)], [.cells (enI x.2.2)])
def k81 (mm : Int) := Q (rx c81_26) (Q (rx c81_17) (Q (rx c81_23) (Q @enI_length (Q @enI_load (Q (rx c81_24) (Q @K81_14.eq_1 (Q (rx c81_1) (Q (rx c81_4) (Q @c81_6_r (Q (runOps_dead (E := (E0 mm)) (call := callW (E0 mm)) (all := opsOf c81_6) (os := opsOf c81_6) (by kernel_rfl)) (Q (rx c81_9) (Q (fun l => enI_load0 l 0) (Q (rx c81_12) (Q (fun mm => lx (E0 mm) 81 c81_14 c81_15 L81_8) (Q (nE c81_0 (.seq c81_1 (.seq (.seq c81_4 (.cond _ c81_6 .skip)) (.seq c81_9 (.seq (.seq c81_12 (.block 0 c81_14)) c81_25))))) (Q (nE c81_15 (.seq (.seq c81_17 (.cond _ .skip (.exit 0))) (.seq (.block 1 c81_23) c81_24))) (Q @en81_14.eq_1 (Q @L81_8.eq_1 hA))))))))))))))))))
theorem j81_25_t (m3 : Int) (h0 : List Int)  (sl : Sl) (_ : sl 3 = vd (dI m3)) :
    bodyD (E0 mm) [.tmp 2] 1 false (dn (E0 mm) 81 1 c81_25 sl [.cells (enI h0)]) = (j81_25 m3 h0).map e81 := by
  unfold j81_25; exact go (Q (nE c81_25 (.seq c81_26 .ret)) (k81 mm)) trivial
def s81_14 (m3 i4 : Int) (h0 : List Int) : Option ((Int × Int × List Int) ⊕ R81) :=
  if (decide (i4 < (h0.length : Int))) = true then
    if 0 ≤ i4 ∧ i4 < (h0.length : Int) then
      some (.inl ((max2 m3 (h0.getD i4.toNat default)), (w64 (i4 + 1)), h0))
    else none
  else
    (j81_25 m3 h0).map .inr
theorem s81_14_t (m3 i4 : Int) (h0 : List Int) :
    stepE (K81_14 mm) (lp (E0 mm) 81 1 c81_15 L81_8 (en81_14 (m3, i4, h0))) = (s81_14 m3 i4 h0).map (sm en81_14 e81) := by
  unfold s81_14; exact go (k81 mm) @j81_25_t
def l81_14 (m3 i4 : Int) (h0 : List Int) : Option R81 := iter (fun x : (Int × Int × List Int) => s81_14 x.1 x.2.1 x.2.2) (m3, i4, h0)
theorem l81_14_t (m3 i4 : Int) (h0 : List Int) : (K81_14 mm) (itW (lp (E0 mm) 81 1 c81_15 L81_8) (en81_14 (m3, i4, h0))) = (l81_14 m3 i4 h0).map e81 :=
  it_sim (K := (K81_14 mm)) rfl (enc := en81_14) (fun x => s81_14_t x.1 x.2.1 x.2.2) (m3, i4, h0)
def m81 (h0 : List Int) : Option R81 :=
  if (decide ((h0.length : Int) < 1)) = true then
    none
  else
    if (0 : Int) < (h0.length : Int) then
      l81_14 (h0.getD 0 default) (1 : Int) h0
    else none
theorem f81_t (h0 : List Int) :
    callW (E0 mm) 81 [.c (.slc 0 0 1 h0.length none)] [.cells (enI h0)] = (m81 h0).map e81 := by
  rw [cR c81_0 [.tmp 2] Tryz.func81]
  unfold m81; exact go (k81 mm) @l81_14_t
abbrev b61a (mm : Int) := bodyD (E0 mm) [.tmp 4] 0 false
abbrev R61a := (Int)
def L61a_8 : List (Nat × Co) := [(1, .keep), (5, .keep), (8, .keep), (9, .keep), (10, .keep)]
def e61a (x : R61a) : AV × Heap := (vd (dI x), [])
def j61a_20 (t8_0 : Bool) (t8_1 : List Bs) (t9 t10 : Int) (h1 : List Int) : Option (((Bool × List Bs × Int × Int) ⊕ (Bool × List Bs × Int × Int × List Int)) ⊕ R61a) :=
  some (.inl (.inr (t8_0, t8_1, t9, (w64 (t10 + 1)), h1)))
def K61a_8 (mm : Int) (r : Option (Ex × St)) : Option (AV × Heap) := b61a mm (sq (E0 mm) 61 0 c61_21 (blockD 0 (r)))
def en61a_8 : ((Bool × List Bs × Int × Int) ⊕ (Bool × List Bs × Int × Int × List Int)) → X := fun x => match x with
  | (.inl x) => (none, [vd (.sc (.func (.func 81) #[] #[])), vd (.lst true []), vd (.lst x.1 (enL enS x.2.1)), vd (dI x.2.2.1), vd (dI x.2.2.2)], [])
  | (.inr x) => (none, [vd (.sc (.func (.func 81) #[] #[])), .v (.c (.slc 0 0 1 x.2.2.2.2.length none)), vd (.lst x.1 (enL enS x.2.1)), vd (dI x.2.2.1), vd (dI x.2.2.2.1)], [.cells (enI x.2.2.2.2)])
def k61a := Q (rx c61_18) (Q (rx c61_19) (Q @f109_t (Q @e109.eq_1 (Q @enI_length (Q @enI1_src (Q (rx c61_23) (Q (rx c61_26) (Q (rx c61_10) (Q @K61a_8.eq_1 (Q (rx c61_30) (Q @ent81 (Q @prm81 (Q @f81_t (Q @e81.eq_1 (Q (rx c61_1) (Q (rx c61_3) (Q (rx c61_6) (Q (fun mm => lx (E0 mm) 61 c61_8 c61_9 L61a_8) (Q (nE c61_0 (.seq c61_1 (.seq c61_3 (.seq (.seq c61_6 (.block 0 c61_8)) c61_21)))) (Q (nE c61_9 (.seq c61_10 (.seq (.cond _ .skip (.exit 0)) c61_15))) (Q @L61a_8.eq_1 hA)))))))))))))))))))))
theorem j61a_20_t (t8_0 : Bool) (t8_1 : List Bs) (t9 t10 : Int) (h1 : List Int) (g0 : Ob) (sl : Sl) (_ : sl 1 = vd (.sc (.func (.func 81) #[] #[]))) (_ : sl 5 = .v (.c (.slc 1 0 1 h1.length none))) (_ : sl 8 = vd (.lst t8_0 (enL enS t8_1))) (_ : sl 9 = vd (dI t9)) (_ : sl 10 = vd (dI t10)) :
    stepE (K61a_8 mm) (loopK 0 L61a_8 (dn (E0 mm) 61 0 c61_20 sl [g0, .cells (enI h1)])) = (j61a_20 t8_0 t8_1 t9 t10 h1).map (sm en61a_8 e61a) := by
  unfold j61a_20; exact go (Q (rx c61_20) k61a) trivial
def j61a_15 (t8_0 : Bool) (t8_1 : List Bs) (t9 t10 : Int) : Option (((Bool × List Bs × Int × Int) ⊕ (Bool × List Bs × Int × Int × List Int)) ⊕ R61a) :=
  if 0 ≤ t10 ∧ t10 < (t8_1.length : Int) then
    (m109 (t8_1.getD t10.toNat default)).bind fun yr5 =>
      j61a_20 t8_0 t8_1 t9 t10 ([yr5] : List Int)
  else none
theorem j61a_15_t (t8_0 : Bool) (t8_1 : List Bs) (t9 t10 : Int)  (sl : Sl) (_ : sl 1 = vd (.sc (.func (.func 81) #[] #[]))) (_ : sl 5 = vd (.lst true [])) (_ : sl 8 = vd (.lst t8_0 (enL enS t8_1))) (_ : sl 9 = vd (dI t9)) (_ : sl 10 = vd (dI t10)) :
    stepE (K61a_8 mm) (loopK 0 L61a_8 (dn (E0 mm) 61 0 c61_15 sl [])) = (j61a_15 t8_0 t8_1 t9 t10).map (sm en61a_8 e61a) := by
  unfold j61a_15; exact go (Q (nE c61_15 (.seq (.block 1 (.seq c61_18 c61_19)) c61_20)) k61a) @j61a_20_t
def j61a_21  : Option R61a :=
  some (-1 : Int)
theorem j61a_21_t (sl : Sl) (_ : sl 1 = vd (.sc (.func (.func 81) #[] #[]))) (_ : sl 5 = vd (.lst true [])) :
    b61a mm (dn (E0 mm) 61 0 c61_21 sl []) = (j61a_21).map e61a := by
  unfold j61a_21; exact go (Q (nE c61_21 (.seq (.seq c61_23 (.cond _ (.seq c61_26 .ret) .skip)) (.seq c61_30 .ret))) k61a) trivial
def s61a_8x0 (t8_0 : Bool) (t8_1 : List Bs) (t9 t10 : Int) : Option (((Bool × List Bs × Int × Int) ⊕ (Bool × List Bs × Int × Int × List Int)) ⊕ R61a) :=
  if (decide (t10 < t9)) = true then
    j61a_15 t8_0 t8_1 t9 t10
  else
    (j61a_21).map .inr
theorem s61a_8x0_t (t8_0 : Bool) (t8_1 : List Bs) (t9 t10 : Int) :
    stepE (K61a_8 mm) (lp (E0 mm) 61 0 c61_9 L61a_8 (none, [vd (.sc (.func (.func 81) #[] #[])), vd (.lst true []), vd (.lst t8_0 (enL enS t8_1)), vd (dI t9), vd (dI t10)], [])) = (s61a_8x0 t8_0 t8_1 t9 t10).map (sm en61a_8 e61a) := by
  unfold s61a_8x0; exact go k61a (Q @j61a_15_t @j61a_21_t)
def j61a_20v1 (t8_0 : Bool) (t8_1 : List Bs) (t9 t10 : Int) (h2 : List Int) : Option (((Bool × List Bs × Int × Int) ⊕ (Bool × List Bs × Int × Int × List Int)) ⊕ R61a) :=
  some (.inl (.inr (t8_0, t8_1, t9, (w64 (t10 + 1)), h2)))
theorem j61a_20v1_t (t8_0 : Bool) (t8_1 : List Bs) (t9 t10 : Int) (h2 : List Int) (g0 g1 : Ob) (sl : Sl) (_ : sl 1 = vd (.sc (.func (.func 81) #[] #[]))) (_ : sl 5 = .v (.c (.slc 2 0 1 h2.length none))) (_ : sl 8 = vd (.lst t8_0 (enL enS t8_1))) (_ : sl 9 = vd (dI t9)) (_ : sl 10 = vd (dI t10)) :
    stepE (K61a_8 mm) (loopK 0 L61a_8 (dn (E0 mm) 61 0 c61_20 sl [g0, g1, .cells (enI h2)])) = (j61a_20v1 t8_0 t8_1 t9 t10 h2).map (sm en61a_8 e61a) := by
  unfold j61a_20v1; exact go (Q (rx c61_20) k61a) trivial
def j61a_15v1 (t8_0 : Bool) (t8_1 : List Bs) (t9 t10 : Int) (h0 : List Int) : Option (((Bool × List Bs × Int × Int) ⊕ (Bool × List Bs × Int × Int × List Int)) ⊕ R61a) :=
  if 0 ≤ t10 ∧ t10 < (t8_1.length : Int) then
    (m109 (t8_1.getD t10.toNat default)).bind fun yr10 =>
      if (h0.length + 1) * 8 ≤ 140737488355328 then
        j61a_20v1 t8_0 t8_1 t9 t10 (h0 ++ ([yr10] : List Int))
      else none
  else none
theorem j61a_15v1_t (t8_0 : Bool) (t8_1 : List Bs) (t9 t10 : Int) (h0 : List Int)  (sl : Sl) (_ : sl 1 = vd (.sc (.func (.func 81) #[] #[]))) (_ : sl 5 = .v (.c (.slc 0 0 1 h0.length none))) (_ : sl 8 = vd (.lst t8_0 (enL enS t8_1))) (_ : sl 9 = vd (dI t9)) (_ : sl 10 = vd (dI t10)) :
    stepE (K61a_8 mm) (loopK 0 L61a_8 (dn (E0 mm) 61 0 c61_15 sl [.cells (enI h0)])) = (j61a_15v1 t8_0 t8_1 t9 t10 h0).map (sm en61a_8 e61a) := by
  unfold j61a_15v1; exact go (Q (nE c61_15 (.seq (.block 1 (.seq c61_18 c61_19)) c61_20)) k61a) @j61a_20v1_t
def j61a_21v1 (h0 : List Int) : Option R61a :=
  if ((h0.length : Int) == 0) = true then
    some (-1 : Int)
  else
    (m81 h0).bind fun yr14 =>
      some yr14.1
theorem j61a_21v1_t (h0 : List Int)  (sl : Sl) (_ : sl 1 = vd (.sc (.func (.func 81) #[] #[]))) (_ : sl 5 = .v (.c (.slc 0 0 1 h0.length none))) :
    b61a mm (dn (E0 mm) 61 0 c61_21 sl [.cells (enI h0)]) = (j61a_21v1 h0).map e61a := by
  unfold j61a_21v1; exact go (Q (nE c61_21 (.seq (.seq c61_23 (.cond _ (.seq c61_26 .ret) .skip)) (.seq c61_30 .ret))) k61a) trivial
def s61a_8x1 (t8_0 : Bool) (t8_1 : List Bs) (t9 t10 : Int) (h0 : List Int) : Option (((Bool × List Bs × Int × Int) ⊕ (Bool × List Bs × Int × Int × List Int)) ⊕ R61a) :=
  if (decide (t10 < t9)) = true then
    j61a_15v1 t8_0 t8_1 t9 t10 h0
  else
    (j61a_21v1 h0).map .inr
theorem s61a_8x1_t (t8_0 : Bool) (t8_1 : List Bs) (t9 t10 : Int) (h0 : List Int) :
    stepE (K61a_8 mm) (lp (E0 mm) 61 0 c61_9 L61a_8 (none, [vd (.sc (.func (.func 81) #[] #[])), .v (.c (.slc 0 0 1 h0.length none)), vd (.lst t8_0 (enL enS t8_1)), vd (dI t9), vd (dI t10)], [.cells (enI h0)])) = (s61a_8x1 t8_0 t8_1 t9 t10 h0).map (sm en61a_8 e61a) := by
  unfold s61a_8x1; exact go k61a (Q @j61a_15v1_t @j61a_21v1_t)
def s61a_8 : ((Bool × List Bs × Int × Int) ⊕ (Bool × List Bs × Int × Int × List Int)) → Option (((Bool × List Bs × Int × Int) ⊕ (Bool × List Bs × Int × Int × List Int)) ⊕ R61a) := fun x => match x with
  | (.inl x) => s61a_8x0 x.1 x.2.1 x.2.2.1 x.2.2.2
  | (.inr x) => s61a_8x1 x.1 x.2.1 x.2.2.1 x.2.2.2.1 x.2.2.2.2
def l61a_8 (t8_0 : Bool) (t8_1 : List Bs) (t9 t10 : Int) : Option R61a := iter s61a_8 (.inl (t8_0, t8_1, t9, t10))
theorem l61a_8_t (t8_0 : Bool) (t8_1 : List Bs) (t9 t10 : Int) : b61a mm (sq (E0 mm) 61 0 c61_21 (blockD 0 (itW (lp (E0 mm) 61 0 c61_9 L61a_8) (none, [vd (.sc (.func (.func 81) #[] #[])), vd (.lst true []), vd (.lst t8_0 (enL enS t8_1)), vd (dI t9), vd (dI t10)], [])))) = (l61a_8 t8_0 t8_1 t9 t10).map e61a :=
  it_sim (K := (K61a_8 mm)) rfl (enc := en61a_8) (fun x => match x with
  | (.inl x) => s61a_8x0_t x.1 x.2.1 x.2.2.1 x.2.2.2
  | (.inr x) => s61a_8x1_t x.1 x.2.1 x.2.2.1 x.2.2.2.1 x.2.2.2.2) (.inl (t8_0, t8_1, t9, t10))
def m61a (values_0 : Bool) (values_1 : List Bs) : Option R61a :=
  l61a_8 values_0 values_1 (values_1.length : Int) (0 : Int)
theorem f61a_t (values_0 : Bool) (values_1 : List Bs) :
    callW (E0 mm) 61 [cd (.lst values_0 (enL enS values_1)), cd (.sc (.func (.func 81) #[] #[]))] [] = (m61a values_0 values_1).map e61a := by
  rw [cR c61_0 [.tmp 4] Tryz.func61]
  unfold m61a; exact go k61a @l61a_8_t
abbrev R62a := (Int × List Int)
def L62a_8 : List (Nat × Co) := [(0, .keep), (3, .keep), (4, .keep)]
def e62a (x : R62a) : AV × Heap := (vd (dI x.1), [.cells (enI x.2)])
def j62a_25 (m3 : Int) (h0 : List Int) : Option R62a :=
  some (m3, h0)
def K62a_14 (mm : Int) (r : Option (Ex × St)) : Option (AV × Heap) := bodyD (E0 mm) [.tmp 2] 1 false (sq (E0 mm) 62 1 c62_25 (blockD 0 (r)))
def en62a_14 (x : (Nat × Int × Int × List Int)) : X := (none, [.v (.c (.slc 0 0 1 x.1 none)), vd (dI x.2.1), vd (dI x.2.2.1)], [.cells (enI x.2.2.2)])
def k62a (mm : Int) := Q (rx c62_26) (Q (rx c62_17) (Q (rx c62_23) (Q @enI_length (Q @enI_load (Q (rx c62_24) (Q @K62a_14.eq_1 (Q (rx c62_1) (Q (rx c62_4) (Q @c62_6_r (Q (runOps_dead (E := (E0 mm)) (call := callW (E0 mm)) (all := opsOf c62_6) (os := opsOf c62_6) (by kernel_rfl)) (Q (rx c62_9) (Q (fun l => enI_load0 l 0) (Q (rx c62_12) (Q (fun mm => lx (E0 mm) 62 c62_14 c62_15 L62a_8) (Q (nE c62_0 (.seq c62_1 (.seq (.seq c62_4 (.cond _ c62_6 .skip)) (.seq c62_9 (.seq (.seq c62_12 (.block 0 c62_14)) c62_25))))) (Q (nE c62_15 (.seq (.seq c62_17 (.cond _ .skip (.exit 0))) (.seq (.block 1 c62_23) c62_24))) (Q @en62a_14.eq_1 (Q @L62a_8.eq_1 hA))))))))))))))))))
theorem j62a_25_t (m3 : Int) (h0 : List Int)  (sl : Sl) (_ : sl 3 = vd (dI m3)) :
    bodyD (E0 mm) [.tmp 2] 1 false (dn (E0 mm) 62 1 c62_25 sl [.cells (enI h0)]) = (j62a_25 m3 h0).map e62a := by
  unfold j62a_25; exact go (Q (nE c62_25 (.seq c62_26 .ret)) (k62a mm)) trivial
def s62a_14 (x0_1 : Nat) (m3 i4 : Int) (h0 : List Int) : Option ((Nat × Int × Int × List Int) ⊕ R62a) :=
  if (decide (i4 < (x0_1 : Int))) = true then
    if 0 ≤ i4 ∧ i4 < (x0_1 : Int) then
      if i4.toNat < h0.length then
        some (.inl (x0_1, (min2 m3 (h0.getD i4.toNat default)), (w64 (i4 + 1)), h0))
      else none
    else none
  else
    (j62a_25 m3 h0).map .inr
theorem s62a_14_t (x0_1 : Nat) (m3 i4 : Int) (h0 : List Int) :
    stepE (K62a_14 mm) (lp (E0 mm) 62 1 c62_15 L62a_8 (en62a_14 (x0_1, m3, i4, h0))) = (s62a_14 x0_1 m3 i4 h0).map (sm en62a_14 e62a) := by
  unfold s62a_14; exact go (k62a mm) @j62a_25_t
def l62a_14 (x0_1 : Nat) (m3 i4 : Int) (h0 : List Int) : Option R62a := iter (fun x : (Nat × Int × Int × List Int) => s62a_14 x.1 x.2.1 x.2.2.1 x.2.2.2) (x0_1, m3, i4, h0)
theorem l62a_14_t (x0_1 : Nat) (m3 i4 : Int) (h0 : List Int) : (K62a_14 mm) (itW (lp (E0 mm) 62 1 c62_15 L62a_8) (en62a_14 (x0_1, m3, i4, h0))) = (l62a_14 x0_1 m3 i4 h0).map e62a :=
  it_sim (K := (K62a_14 mm)) rfl (enc := en62a_14) (fun x => s62a_14_t x.1 x.2.1 x.2.2.1 x.2.2.2) (x0_1, m3, i4, h0)
def m62a (x0_1 : Nat) (h0 : List Int) : Option R62a :=
  if (decide ((x0_1 : Int) < 1)) = true then
    none
  else
    if (0 : Int) < (x0_1 : Int) then
      if 0 < h0.length then
        l62a_14 x0_1 (h0.getD 0 default) (1 : Int) h0
      else none
    else none
theorem f62a_t (x0_1 : Nat) (h0 : List Int) :
    callW (E0 mm) 62 [.c (.slc 0 0 1 x0_1 none)] [.cells (enI h0)] = (m62a x0_1 h0).map e62a := by
  rw [cR c62_0 [.tmp 2] Tryz.func62]
  unfold m62a; exact go (k62a mm) @l62a_14_t
noncomputable def c82_0 : Code := bodyOf Tryz.f82
def c82_1 := cA c82_0
def c82_4 := cA (cA (cB c82_0))
def c82_6 := cA (cB (cA (cB c82_0)))
def c82_7 := cA c82_6
def c82_8 := cA c82_7
def c82_13 := cB (cB c82_7)
def c82_16 := cA (cA (cA c82_13))
def c82_18 := cA (cB (cA (cA c82_13)))
def c82_20 := cA (cB (cB (cA (cA c82_13))))
def c82_22 := cB c82_13
def c82_23 := cB (cB c82_0)
def c82_24 := cA c82_23
def L82_6 : List (Nat × Co) := [(0, .keep), (7, .keep), (8, .keep), (9, .keep)]
abbrev b82 (mm : Int) := bodyD (E0 mm) [.tmp 3] 3 false
abbrev R82 := (Int × List Int)
def e82 (gm2 : List (Bs × List Bs)) (x : R82) : AV × Heap := (vd (dI x.1), [.cells (enI x.2), .cells [.mp 2], .amap (enM gm2)])
def j82_22 (gm2 : List (Bs × List Bs)) (numbers0_1 : Nat) (t7_0 : Bool) (t7_1 : List Bs) (t8 t9 : Int) (h0 : List Int) : Option (((Bool × List Bs × Int × Int × List Int) ⊕ (Nat × Bool × List Bs × Int × Int × List Int)) ⊕ R82) :=
  some (.inl (.inr (numbers0_1, t7_0, t7_1, t8, (w64 (t9 + 1)), h0)))
def K82_6 (mm : Int) (r : Option (Ex × St)) : Option (AV × Heap) := b82 mm (sq (E0 mm) 82 3 c82_23 (blockD 0 (r)))
def en82_6 (gm2 : List (Bs × List Bs)) : ((Bool × List Bs × Int × Int × List Int) ⊕ (Nat × Bool × List Bs × Int × Int × List Int)) → X := fun x => match x with
  | (.inl x) => (none, [.v (.c (.slc 0 0 1 x.2.2.2.2.length none)), vd (.lst x.1 (enL enS x.2.1)), vd (dI x.2.2.1), vd (dI x.2.2.2.1)], [.cells (enI x.2.2.2.2), .cells [.mp 2], .amap (enM gm2)])
  | (.inr x) => (none, [.v (.c (.slc 0 0 1 x.1 none)), vd (.lst x.2.1 (enL enS x.2.2.1)), vd (dI x.2.2.2.1), vd (dI x.2.2.2.2.1)], [.cells (enI x.2.2.2.2.2), .cells [.mp 2], .amap (enM gm2)])
def k82 := Q (rx c82_16) (Q (rx c82_18) (Q (rx c82_20) (Q @enI_length (Q @enI_wr (Q (rx c82_24) (Q @f62_t (Q @e62.eq_1 (Q (rx c82_8) (Q @K82_6.eq_1 (Q @f62a_t (Q @e62a.eq_1 (Q (rx c82_1) (Q (rx c82_4) (Q (fun mm => lx (E0 mm) 82 c82_6 c82_7 L82_6) (Q (nE c82_0 (.seq c82_1 (.seq (.seq c82_4 (.block 0 c82_6)) c82_23))) (Q (nE c82_7 (.seq c82_8 (.seq (.cond _ .skip (.exit 0)) c82_13))) (Q @L82_6.eq_1 hA)))))))))))))))))
theorem j82_22_t (gm2 : List (Bs × List Bs)) (numbers0_1 : Nat) (t7_0 : Bool) (t7_1 : List Bs) (t8 t9 : Int) (h0 : List Int)  (sl : Sl) (_ : sl 0 = .v (.c (.slc 0 0 1 numbers0_1 none))) (_ : sl 7 = vd (.lst t7_0 (enL enS t7_1))) (_ : sl 8 = vd (dI t8)) (_ : sl 9 = vd (dI t9)) :
    stepE (K82_6 mm) (loopK 3 L82_6 (dn (E0 mm) 82 3 c82_22 sl [.cells (enI h0), .cells [.mp 2], .amap (enM gm2)])) = (j82_22 gm2 numbers0_1 t7_0 t7_1 t8 t9 h0).map (sm (en82_6 gm2) (e82 gm2)) := by
  unfold j82_22; exact go (Q (rx c82_22) k82) trivial
def j82_22v1 (gm2 : List (Bs × List Bs)) (t7_0 : Bool) (t7_1 : List Bs) (t8 t9 : Int) (h0 : List Int) : Option (((Bool × List Bs × Int × Int × List Int) ⊕ (Nat × Bool × List Bs × Int × Int × List Int)) ⊕ R82) :=
  some (.inl (.inl (t7_0, t7_1, t8, (w64 (t9 + 1)), h0)))
theorem j82_22v1_t (gm2 : List (Bs × List Bs)) (t7_0 : Bool) (t7_1 : List Bs) (t8 t9 : Int) (h0 : List Int)  (sl : Sl) (_ : sl 0 = .v (.c (.slc 0 0 1 h0.length none))) (_ : sl 7 = vd (.lst t7_0 (enL enS t7_1))) (_ : sl 8 = vd (dI t8)) (_ : sl 9 = vd (dI t9)) :
    stepE (K82_6 mm) (loopK 3 L82_6 (dn (E0 mm) 82 3 c82_22 sl [.cells (enI h0), .cells [.mp 2], .amap (enM gm2)])) = (j82_22v1 gm2 t7_0 t7_1 t8 t9 h0).map (sm (en82_6 gm2) (e82 gm2)) := by
  unfold j82_22v1; exact go (Q (rx c82_22) k82) trivial
def j82_13 (gm2 : List (Bs × List Bs)) (t7_0 : Bool) (t7_1 : List Bs) (t8 t9 : Int) (h0 : List Int) : Option (((Bool × List Bs × Int × Int × List Int) ⊕ (Nat × Bool × List Bs × Int × Int × List Int)) ⊕ R82) :=
  if 0 ≤ t9 ∧ t9 < (t7_1.length : Int) then
    if ((t7_1.getD t9.toNat default) == ([] : Bs)) = true then
      if 0 ≤ t9 ∧ t9 < (h0.length : Int) then
        j82_22 gm2 h0.length t7_0 t7_1 t8 t9 (h0.set t9.toNat (2147483647 : Int))
      else none
    else
      j82_22v1 gm2 t7_0 t7_1 t8 t9 h0
  else none
theorem j82_13_t (gm2 : List (Bs × List Bs)) (t7_0 : Bool) (t7_1 : List Bs) (t8 t9 : Int) (h0 : List Int)  (sl : Sl) (_ : sl 0 = .v (.c (.slc 0 0 1 h0.length none))) (_ : sl 7 = vd (.lst t7_0 (enL enS t7_1))) (_ : sl 8 = vd (dI t8)) (_ : sl 9 = vd (dI t9)) :
    stepE (K82_6 mm) (loopK 3 L82_6 (dn (E0 mm) 82 3 c82_13 sl [.cells (enI h0), .cells [.mp 2], .amap (enM gm2)])) = (j82_13 gm2 t7_0 t7_1 t8 t9 h0).map (sm (en82_6 gm2) (e82 gm2)) := by
  unfold j82_13; exact go (Q (nE c82_13 (.seq (.block 1 (.seq c82_16 (.seq c82_18 (.cond _ c82_20 .skip)))) c82_22)) k82) (Q @j82_22_t @j82_22v1_t)
def j82_23 (gm2 : List (Bs × List Bs)) (h0 : List Int) : Option R82 :=
  (m62 h0).bind fun yr8 =>
    some (yr8.1, yr8.2)
theorem j82_23_t (gm2 : List (Bs × List Bs)) (h0 : List Int)  (sl : Sl) (_ : sl 0 = .v (.c (.slc 0 0 1 h0.length none))) :
    b82 mm (dn (E0 mm) 82 3 c82_23 sl [.cells (enI h0), .cells [.mp 2], .amap (enM gm2)]) = (j82_23 gm2 h0).map (e82 gm2) := by
  unfold j82_23; exact go (Q (nE c82_23 (.seq c82_24 .ret)) k82) trivial
def s82_6x0 (gm2 : List (Bs × List Bs)) (t7_0 : Bool) (t7_1 : List Bs) (t8 t9 : Int) (h0 : List Int) : Option (((Bool × List Bs × Int × Int × List Int) ⊕ (Nat × Bool × List Bs × Int × Int × List Int)) ⊕ R82) :=
  if (decide (t9 < t8)) = true then
    j82_13 gm2 t7_0 t7_1 t8 t9 h0
  else
    (j82_23 gm2 h0).map .inr
theorem s82_6x0_t (gm2 : List (Bs × List Bs)) (t7_0 : Bool) (t7_1 : List Bs) (t8 t9 : Int) (h0 : List Int) :
    stepE (K82_6 mm) (lp (E0 mm) 82 3 c82_7 L82_6 (none, [.v (.c (.slc 0 0 1 h0.length none)), vd (.lst t7_0 (enL enS t7_1)), vd (dI t8), vd (dI t9)], [.cells (enI h0), .cells [.mp 2], .amap (enM gm2)])) = (s82_6x0 gm2 t7_0 t7_1 t8 t9 h0).map (sm (en82_6 gm2) (e82 gm2)) := by
  unfold s82_6x0; exact go k82 (Q @j82_13_t @j82_23_t)
def j82_13v1 (gm2 : List (Bs × List Bs)) (numbers0_1 : Nat) (t7_0 : Bool) (t7_1 : List Bs) (t8 t9 : Int) (h0 : List Int) : Option (((Bool × List Bs × Int × Int × List Int) ⊕ (Nat × Bool × List Bs × Int × Int × List Int)) ⊕ R82) :=
  if 0 ≤ t9 ∧ t9 < (t7_1.length : Int) then
    if ((t7_1.getD t9.toNat default) == ([] : Bs)) = true then
      if 0 ≤ t9 ∧ t9 < (numbers0_1 : Int) then
        if t9.toNat < h0.length then
          j82_22 gm2 numbers0_1 t7_0 t7_1 t8 t9 (h0.set t9.toNat (2147483647 : Int))
        else none
      else none
    else
      j82_22 gm2 numbers0_1 t7_0 t7_1 t8 t9 h0
  else none
theorem j82_13v1_t (gm2 : List (Bs × List Bs)) (numbers0_1 : Nat) (t7_0 : Bool) (t7_1 : List Bs) (t8 t9 : Int) (h0 : List Int)  (sl : Sl) (_ : sl 0 = .v (.c (.slc 0 0 1 numbers0_1 none))) (_ : sl 7 = vd (.lst t7_0 (enL enS t7_1))) (_ : sl 8 = vd (dI t8)) (_ : sl 9 = vd (dI t9)) :
    stepE (K82_6 mm) (loopK 3 L82_6 (dn (E0 mm) 82 3 c82_13 sl [.cells (enI h0), .cells [.mp 2], .amap (enM gm2)])) = (j82_13v1 gm2 numbers0_1 t7_0 t7_1 t8 t9 h0).map (sm (en82_6 gm2) (e82 gm2)) := by
  unfold j82_13v1; exact go (Q (nE c82_13 (.seq (.block 1 (.seq c82_16 (.seq c82_18 (.cond _ c82_20 .skip)))) c82_22)) k82) @j82_22_t
def j82_23v1 (gm2 : List (Bs × List Bs)) (numbers0_1 : Nat) (h0 : List Int) : Option R82 :=
  (m62a numbers0_1 h0).bind fun yr17 =>
    some (yr17.1, yr17.2)
theorem j82_23v1_t (gm2 : List (Bs × List Bs)) (numbers0_1 : Nat) (h0 : List Int)  (sl : Sl) (_ : sl 0 = .v (.c (.slc 0 0 1 numbers0_1 none))) :
    b82 mm (dn (E0 mm) 82 3 c82_23 sl [.cells (enI h0), .cells [.mp 2], .amap (enM gm2)]) = (j82_23v1 gm2 numbers0_1 h0).map (e82 gm2) := by
  unfold j82_23v1; exact go (Q (nE c82_23 (.seq c82_24 .ret)) k82) trivial
def s82_6x1 (gm2 : List (Bs × List Bs)) (numbers0_1 : Nat) (t7_0 : Bool) (t7_1 : List Bs) (t8 t9 : Int) (h0 : List Int) : Option (((Bool × List Bs × Int × Int × List Int) ⊕ (Nat × Bool × List Bs × Int × Int × List Int)) ⊕ R82) :=
  if (decide (t9 < t8)) = true then
    j82_13v1 gm2 numbers0_1 t7_0 t7_1 t8 t9 h0
  else
    (j82_23v1 gm2 numbers0_1 h0).map .inr
theorem s82_6x1_t (gm2 : List (Bs × List Bs)) (numbers0_1 : Nat) (t7_0 : Bool) (t7_1 : List Bs) (t8 t9 : Int) (h0 : List Int) :
    stepE (K82_6 mm) (lp (E0 mm) 82 3 c82_7 L82_6 (none, [.v (.c (.slc 0 0 1 numbers0_1 none)), vd (.lst t7_0 (enL enS t7_1)), vd (dI t8), vd (dI t9)], [.cells (enI h0), .cells [.mp 2], .amap (enM gm2)])) = (s82_6x1 gm2 numbers0_1 t7_0 t7_1 t8 t9 h0).map (sm (en82_6 gm2) (e82 gm2)) := by
  unfold s82_6x1; exact go k82 (Q @j82_13v1_t @j82_23v1_t)
def s82_6 (gm2 : List (Bs × List Bs)) : ((Bool × List Bs × Int × Int × List Int) ⊕ (Nat × Bool × List Bs × Int × Int × List Int)) → Option (((Bool × List Bs × Int × Int × List Int) ⊕ (Nat × Bool × List Bs × Int × Int × List Int)) ⊕ R82) := fun x => match x with
  | (.inl x) => s82_6x0 gm2 x.1 x.2.1 x.2.2.1 x.2.2.2.1 x.2.2.2.2
  | (.inr x) => s82_6x1 gm2 x.1 x.2.1 x.2.2.1 x.2.2.2.1 x.2.2.2.2.1 x.2.2.2.2.2
def l82_6 (gm2 : List (Bs × List Bs)) (t7_0 : Bool) (t7_1 : List Bs) (t8 t9 : Int) (h0 : List Int) : Option R82 := iter (s82_6 gm2) (.inl (t7_0, t7_1, t8, t9, h0))
theorem l82_6_t (gm2 : List (Bs × List Bs)) (t7_0 : Bool) (t7_1 : List Bs) (t8 t9 : Int) (h0 : List Int) : b82 mm (sq (E0 mm) 82 3 c82_23 (blockD 0 (itW (lp (E0 mm) 82 3 c82_7 L82_6) (none, [.v (.c (.slc 0 0 1 h0.length none)), vd (.lst t7_0 (enL enS t7_1)), vd (dI t8), vd (dI t9)], [.cells (enI h0), .cells [.mp 2], .amap (enM gm2)])))) = (l82_6 gm2 t7_0 t7_1 t8 t9 h0).map (e82 gm2) :=
  it_sim (K := (K82_6 mm)) rfl (enc := (en82_6 gm2)) (fun x => match x with
  | (.inl x) => s82_6x0_t gm2 x.1 x.2.1 x.2.2.1 x.2.2.2.1 x.2.2.2.2
  | (.inr x) => s82_6x1_t gm2 x.1 x.2.1 x.2.2.1 x.2.2.2.1 x.2.2.2.2.1 x.2.2.2.2.2) (.inl (t7_0, t7_1, t8, t9, h0))
def m82 (h0 : List Int) (gm2 : List (Bs × List Bs)) : Option R82 :=
  l82_6 gm2 (!(hasM ([109, 97, 120, 45, 115, 116, 97, 108, 101] : Bs) gm2)) (valM ([109, 97, 120, 45, 115, 116, 97, 108, 101] : Bs) gm2) ((valM ([109, 97, 120, 45, 115, 116, 97, 108, 101] : Bs) gm2).length : Int) (0 : Int) h0
theorem f82_t (h0 : List Int) (gm2 : List (Bs × List Bs)) :
    callW (E0 mm) 82 [.c (.slc 0 0 1 h0.length none), .c (.ptr 1 0)] [.cells (enI h0), .cells [.mp 2], .amap (enM gm2)] = (m82 h0 gm2).map (e82 gm2) := by
  rw [cR c82_0 [.tmp 3] Tryz.func82]
  unfold m82; exact go k82 @l82_6_t
end
end Go.Proofs.YtbkobjepahlegaaGreatDoor
