/- The Go functions as plain functions, and that the evaluator computes them. -/
import Derived.Test.YtbkobjepahlegaaGreatDoorFKeeps1
set_option linter.all false
set_option maxRecDepth 100000
namespace Go.Proofs.YtbkobjepahlegaaGreatDoor
open Go Go.Ab
open Nat renaming reduceEqDiff → za, reduceAdd → zb, reduceLeDiff → zc, reduceLT → zd, reduceMul → ze, reduceBEq → zf, reduceSub → zg, reducePow → zh
open Int renaming reduceEq → zi, reduceLE → zj, reduceLT → zk, reduceToNat → zl, reduceNegSucc → zm, reduceAdd → zn, reduceBEq → zo
open String renaming reduceBEq → zp
set_option maxHeartbeats 4000000
noncomputable section
variable {mm : Int}
noncomputable def c141_0 : Code := bodyOf Tryz.f141
def c141_1 := cA c141_0
def c141_4 := cA (cA (cB c141_0))
def c141_5 := cB (cA (cB c141_0))
def c141_7 := cA (cA c141_5)
def c141_10 := cB (cB c141_0)
def c141_11 := cA c141_10
def c141_13 := cA (cB c141_10)
def c141_16 := cA (cA (cB (cB c141_10)))
def c141_18 := cA (cB (cA (cB (cB c141_10))))
def c141_19 := cA c141_18
def c141_21 := cA (cA c141_19)
def c141_30 := cA (cA (cA (cA (cA (cB c141_19)))))
def c141_33 := cA (cA (cB (cA (cA (cA (cA (cB c141_19)))))))
def c141_36 := cA (cB (cB (cA (cA (cA (cA (cB c141_19)))))))
def c141_39 := cA (cA (cB (cB (cB (cA (cA (cA (cA (cB c141_19)))))))))
def c141_41 := cA (cB (cA (cB (cB (cB (cA (cA (cA (cA (cB c141_19))))))))))
def c141_44 := cA (cA (cB (cB (cA (cB (cB (cB (cA (cA (cA (cA (cB c141_19))))))))))))
def c141_48 := cB (cA (cA (cB c141_19)))
def c141_50 := cA (cA c141_48)
def c141_53 := cA (cA (cB (cA c141_48)))
def c141_56 := cB c141_48
def c141_57 := cB (cB c141_19)
def c141_58 := cB (cB (cB c141_10))
def c141_59 := cA c141_58
def L141_0 : List (Nat × Co) := [(4, .own), (5, .keep), (6, .keep)]
abbrev b141 (mm : Int) := bodyD (E0 mm) [.tmp 2, .tmp 3] 0 false
abbrev R141 := (Bs × Bool)
def e141 (x : R141) : AV × Heap := (.tup [cd (dS x.1), cd (dB x.2)], [])
def j141_48 (b4_0 : Bool) (b4_1 : List UInt8) (in5 : Bs) (i6 : Int) : Option ((Bool × List UInt8 × Bs × Int) ⊕ R141) :=
  if 0 ≤ i6 ∧ i6 < (in5.length : Int) then
    (m155 (in5.getD i6.toNat 0)).bind fun yr14 =>
      if yr14 = true then
        if (b4_1.length + 1) * 1 ≤ 140737488355328 then
          some (.inl (false, (b4_1 ++ ([(in5.getD i6.toNat 0)] : List UInt8)), in5, (w64 (i6 + 1))))
        else none
      else
        some (.inr (([] : Bs), false))
  else none
def K141_18 (mm : Int) (r : Option (Ex × St)) : Option (AV × Heap) := b141 mm (sq (E0 mm) 141 0 c141_58 (blockD 0 (r)))
def en141_18 (x : (Bool × List UInt8 × Bs × Int)) : X := (none, [.v (.c (.own x.1 (enL enB x.2.1) 0)), vd (dS x.2.2.1), vd (dI x.2.2.2)], [.row x.2.1.length (rz x.1 1)])
def k141 := Q (rx c141_50) (Q @ent155 (Q @prm155 (Q @f155_t (Q @e155.eq_1 (Q (rx c141_56) (Q @hd46 (Q @nv47 (Q @rw48 (Q @ap23 (Q (rx c141_57) (Q (rx c141_53) (Q @K141_18.eq_1 (Q (rx c141_59) (Q (rx c141_21) (Q (rx c141_30) (Q (rx c141_33) (Q (rx c141_36) (Q (rx c141_39) (Q (rx c141_41) (Q (rx c141_44) (Q (rx c141_7) (Q (rx c141_11) (Q (rx c141_13) (Q (rx c141_16) (Q (fun mm => lx (E0 mm) 141 c141_18 c141_19 L141_0) (Q (rx c141_1) (Q (rx c141_4) (Q (nE c141_0 (.seq c141_1 (.seq (.seq c141_4 c141_5) c141_10))) (Q (nE c141_10 (.seq c141_11 (.seq c141_13 (.seq (.seq c141_16 (.block 0 c141_18)) c141_58)))) (Q (nE c141_19 (.seq (.seq c141_21 (.cond _ .skip (.exit 0))) (.seq (.block 1 (.seq (.block 2 (.seq c141_30 (.cond _ (.seq c141_33 .ret) (.seq c141_36 (.cond _ (.seq c141_39 (.seq c141_41 (.cond _ (.seq c141_44 .ret) .skip))) .skip))))) c141_48)) c141_57))) (Q @en141_18.eq_1 (Q @L141_0.eq_1 hA))))))))))))))))))))))))))))))))
theorem j141_48_t (b4_0 : Bool) (b4_1 : List UInt8) (in5 : Bs) (i6 : Int)  (sl : Sl) (_ : sl 4 = .v (.c (.own b4_0 (enL enB b4_1) 0))) (_ : sl 5 = vd (dS in5)) (_ : sl 6 = vd (dI i6)) :
    stepE (K141_18 mm) (loopK 0 L141_0 (sq (E0 mm) 141 0 c141_57 (blockD 1 (dn (E0 mm) 141 0 c141_48 sl [.row b4_1.length (rz b4_0 1)])))) = (j141_48 b4_0 b4_1 in5 i6).map (sm en141_18 e141) := by
  unfold j141_48; exact go (Q (nE c141_48 (.seq (.seq c141_50 (.cond _ (.seq c141_53 .ret) .skip)) c141_56)) k141) trivial
def j141_58 (b4_0 : Bool) (b4_1 : List UInt8) : Option R141 :=
  some (b4_1, true)
theorem j141_58_t (b4_0 : Bool) (b4_1 : List UInt8)  (sl : Sl) (_ : sl 4 = .v (.c (.own b4_0 (enL enB b4_1) 0))) :
    b141 mm (dn (E0 mm) 141 0 c141_58 sl [.row b4_1.length (rz b4_0 1)]) = (j141_58 b4_0 b4_1).map e141 := by
  unfold j141_58; exact go (Q (nE c141_58 (.seq c141_59 .ret)) k141) trivial
def s141_18 (b4_0 : Bool) (b4_1 : List UInt8) (in5 : Bs) (i6 : Int) : Option ((Bool × List UInt8 × Bs × Int) ⊕ R141) :=
  if (decide (i6 < (in5.length : Int))) = true then
    if 0 ≤ i6 ∧ i6 < (in5.length : Int) then
      if ((in5.getD i6.toNat 0) == (34 : UInt8)) = true then
        some (.inr (([] : Bs), false))
      else
        if ((in5.getD i6.toNat 0) == (92 : UInt8)) = true then
          if ((w64 (i6 + 1)) == (in5.length : Int)) = true then
            some (.inr (([] : Bs), false))
          else
            j141_48 b4_0 b4_1 in5 (w64 (i6 + 1))
        else
          j141_48 b4_0 b4_1 in5 i6
    else none
  else
    (j141_58 b4_0 b4_1).map .inr
theorem s141_18_t (b4_0 : Bool) (b4_1 : List UInt8) (in5 : Bs) (i6 : Int) :
    stepE (K141_18 mm) (lp (E0 mm) 141 0 c141_19 L141_0 (en141_18 (b4_0, b4_1, in5, i6))) = (s141_18 b4_0 b4_1 in5 i6).map (sm en141_18 e141) := by
  unfold s141_18; exact go k141 (Q @j141_48_t @j141_58_t)
def l141_18 (b4_0 : Bool) (b4_1 : List UInt8) (in5 : Bs) (i6 : Int) : Option R141 := iter (fun x : (Bool × List UInt8 × Bs × Int) => s141_18 x.1 x.2.1 x.2.2.1 x.2.2.2) (b4_0, b4_1, in5, i6)
theorem l141_18_t (b4_0 : Bool) (b4_1 : List UInt8) (in5 : Bs) (i6 : Int) : (K141_18 mm) (itW (lp (E0 mm) 141 0 c141_19 L141_0) (en141_18 (b4_0, b4_1, in5, i6))) = (l141_18 b4_0 b4_1 in5 i6).map e141 :=
  it_sim (K := (K141_18 mm)) rfl (enc := en141_18) (fun x => s141_18_t x.1 x.2.1 x.2.2.1 x.2.2.2) (b4_0, b4_1, in5, i6)
def j141_5 (s0 : Bs) (t22 : Bool) : Option R141 :=
  if t22 = true then
    some (([] : Bs), false)
  else
    (bnd (w64 ((s0.length : Int) - 1)) s0.length).bind fun yk4 =>
      (bnd 1 yk4).bind fun yk6 =>
        l141_18 true ([] : List UInt8) ((s0.take yk4).drop yk6) (0 : Int)
theorem j141_5_t (s0 : Bs) (t22 : Bool)  (sl : Sl) (_ : sl 0 = vd (dS s0)) (_ : sl 22 = vd (dB t22)) :
    b141 mm (sq (E0 mm) 141 0 c141_10 (dn (E0 mm) 141 0 c141_5 sl [])) = (j141_5 s0 t22).map e141 := by
  unfold j141_5; exact go (Q (nE c141_5 (.cond _ (.seq c141_7 .ret) .skip)) k141) @l141_18_t
def m141 (s : Bs) : Option R141 :=
  if (decide ((s.length : Int) < 2)) = true then
    j141_5 s true
  else
    if (0 : Int) < (s.length : Int) then
      if ((s.getD 0 0) == (34 : UInt8)) = true then
        if 0 ≤ (w64 ((s.length : Int) - 1)) ∧ (w64 ((s.length : Int) - 1)) < (s.length : Int) then
          j141_5 s (!((s.getD (w64 ((s.length : Int) - 1)).toNat 0) == (34 : UInt8)))
        else none
      else
        j141_5 s true
    else none
theorem f141_t (s : Bs) :
    callW (E0 mm) 141 [cd (dS s)] [] = (m141 s).map e141 := by
  rw [cR c141_0 [.tmp 2, .tmp 3] Tryz.func141]
  unfold m141; exact go k141 @j141_5_t
noncomputable def c107_0 : Code := bodyOf Tryz.f107
def c107_1 := cA c107_0
def c107_3 := cA (cB c107_0)
def c107_6 := cA (cA (cB (cB c107_0)))
def c107_9 := cA (cA (cB (cA (cB (cB c107_0)))))
def c107_14 := cA (cA (cB (cB (cB c107_0))))
def c107_15 := cB (cA (cB (cB (cB c107_0))))
def c107_17 := cA (cA c107_15)
def c107_20 := cB (cB (cB (cB c107_0)))
def c107_21 := cA c107_20
def c107_24 := cA (cA (cB c107_20))
def c107_27 := cA (cA (cB (cA (cB c107_20))))
def c107_31 := cA (cB (cB c107_20))
abbrev R107 := (Bs × Bs × Bool)
def e107 (x : R107) : AV × Heap := (.tup [cd (dS x.1), cd (dS x.2.1), cd (dB x.2.2)], [])
def j107_15 (name5 value6 : Bs) (t24 : Bool) : Option R107 :=
  if t24 = true then
    (m63 name5).bind fun yr11 =>
      some (yr11, value6, true)
  else
    (m141 value6).bind fun yr13 =>
      if yr13.2 = true then
        (m63 name5).bind fun yr16 =>
          some (yr16, yr13.1, true)
      else
        some (([] : Bs), ([] : Bs), false)
def k107 := Q (rx c107_17) (Q @f63_t (Q @e63.eq_1 (Q (rx c107_21) (Q @ent141 (Q @prm141 (Q @f141_t (Q @e141.eq_1 (Q (rx c107_24) (Q (rx c107_31) (Q (rx c107_27) (Q (rx c107_1) (Q (rx c107_3) (Q @ent140 (Q @prm140 (Q (fun (mm : Int) (s : Bs) => (show callW (E0 mm) 140 [cd (dS s), cd (dS ([61] : Bs))] [] = _ from f140_t s ([61] : Bs))) (Q @f140_t (Q @e140.eq_1 (Q (rx c107_6) (Q @f69_t (Q @e69.eq_1 (Q (rx c107_14) (Q (rx c107_9) (Q (nE c107_0 (.seq c107_1 (.seq c107_3 (.seq (.seq c107_6 (.cond _ (.seq c107_9 .ret) .skip)) (.seq (.seq c107_14 c107_15) c107_20))))) (Q (nE c107_20 (.seq c107_21 (.seq (.seq c107_24 (.cond _ (.seq c107_27 .ret) .skip)) (.seq c107_31 .ret)))) hA))))))))))))))))))))))))
theorem j107_15_t (name5 value6 : Bs) (t24 : Bool)  (sl : Sl) (_ : sl 5 = vd (dS name5)) (_ : sl 6 = vd (dS value6)) (_ : sl 24 = vd (dB t24)) :
    bodyD (E0 mm) [.tmp 2, .tmp 3, .tmp 4] 0 false (sq (E0 mm) 107 0 c107_20 (dn (E0 mm) 107 0 c107_15 sl [])) = (j107_15 name5 value6 t24).map e107 := by
  unfold j107_15; exact go (Q (nE c107_15 (.cond _ (.seq c107_17 .ret) .skip)) k107) trivial
def m107 (s : Bs) : Option R107 :=
  (m140 s ([61] : Bs)).bind fun yr2 =>
    (m69 yr2.1).bind fun yr4 =>
      if yr4 = true then
        if yr2.2.2 = true then
          (m69 yr2.2.1).bind fun yr8 =>
            j107_15 yr2.1 yr2.2.1 yr8
        else
          j107_15 yr2.1 yr2.2.1 true
      else
        some (([] : Bs), ([] : Bs), false)
theorem f107_t (s : Bs) :
    callW (E0 mm) 107 [cd (dS s)] [] = (m107 s).map e107 := by
  rw [cR c107_0 [.tmp 2, .tmp 3, .tmp 4] Tryz.func107]
  unfold m107; exact go k107 @j107_15_t
noncomputable def c59_0 : Code := bodyOf Tryz.f59
def c59_1 := cA c59_0
def c59_3 := cA (cB c59_0)
def c59_6 := cA (cA (cB (cB c59_0)))
def c59_8 := cA (cB (cA (cB (cB c59_0))))
def c59_9 := cA c59_8
def c59_10 := cA c59_9
def c59_18 := cA (cA (cA (cB (cB c59_9))))
def c59_20 := cA (cB (cA (cA (cB (cB c59_9)))))
def c59_22 := cA (cB (cB (cA (cA (cB (cB c59_9))))))
def c59_24 := cA (cB (cB (cB (cA (cA (cB (cB c59_9)))))))
def c59_26 := cB (cB (cB c59_9))
def c59_27 := cB (cB (cB c59_0))
def c59_28 := cA c59_27
def L59_0 : List (Nat × Co) := [(3, .freeze), (11, .freeze), (12, .freeze), (13, .freeze)]
abbrev b59 (mm : Int) := bodyD (E0 mm) [.tmp 2] 0 false
abbrev R59 := (List (Bs × List Bs))
def e59 (x : R59) : AV × Heap := (.v (.c (.mp 0)), [.amap (enM x)])
def j59_26 (t11_0 : Bool) (t11_1 : List Bs) (t12 t13 : Int) (kv0 : Kvs) : Option ((Bool × List Bs × Int × Int × Kvs) ⊕ R59) :=
  some (.inl (t11_0, t11_1, t12, (w64 (t13 + 1)), kv0))
def K59_8 (mm : Int) (r : Option (Ex × St)) : Option (AV × Heap) := b59 mm (sq (E0 mm) 59 0 c59_27 (blockD 0 (r)))
def en59_8 (x : (Bool × List Bs × Int × Int × Kvs)) : X := (none, [.v (.c (.mp 0)), vd (.lst x.1 (enL enS x.2.1)), vd (dI x.2.2.1), vd (dI x.2.2.2.1)], (HO x.2.2.2.2))
def k59 := Q @closeHO_c (Q @renHO (Q @idxHO0 (Q (rx c59_28) (Q @frzHO (Q @closeHF_c (Q @HF_0 (Q (rx c59_10) (Q (rx c59_18) (Q (rx c59_20) (Q @ent107 (Q @prm107 (Q @f107_t (Q @e107.eq_1 (Q (rx c59_22) (Q (rx c59_24) (Q @HO_0 (Q @findO (Q @hd49 (Q @nv50 (Q @rw51 (Q @ao45O (Q @HO_s0 (Q @HO_put (Q @findO0 (Q @ao45O0 (Q @HO_a0 (Q @HO_put0 (Q @K59_8.eq_1 (Q (rx c59_1) (Q (rx c59_3) (Q (rx c59_6) (Q (fun (mm : Int) (l_0 : Bool) (l_1 : List (Bs × Bs)) => (show callW (E0 mm) 26 [cd (.lst l_0 (enL enSS l_1)), cd (dS ([99, 97, 99, 104, 101, 45, 99, 111, 110, 116, 114, 111, 108] : Bs))] [] = _ from f26_t l_0 l_1 ([99, 97, 99, 104, 101, 45, 99, 111, 110, 116, 114, 111, 108] : Bs))) (Q @f26_t (Q @e26.eq_1 (Q (fun mm => lx (E0 mm) 59 c59_8 c59_9 L59_0) (Q (nE c59_0 (.seq c59_1 (.seq c59_3 (.seq (.seq c59_6 (.block 0 c59_8)) c59_27)))) (Q (nE c59_9 (.seq c59_10 (.seq (.cond _ .skip (.exit 0)) (.seq (.block 1 (.seq c59_18 (.seq c59_20 (.seq c59_22 (.cond _ c59_24 .skip))))) c59_26)))) (Q @L59_0.eq_1 hA))))))))))))))))))))))))))))))))))))))
theorem j59_26_t (t11_0 : Bool) (t11_1 : List Bs) (t12 t13 : Int) (kv0 : Kvs)  (sl : Sl) (_ : sl 3 = .v (.c (.mp 0))) (_ : sl 11 = vd (.lst t11_0 (enL enS t11_1))) (_ : sl 12 = vd (dI t12)) (_ : sl 13 = vd (dI t13)) :
    stepE (K59_8 mm) (loopK 0 L59_0 (den (E0 mm) 59 0 (callW (E0 mm)) itW c59_26 none ⟨sl, (HO kv0)⟩)) = (j59_26 t11_0 t11_1 t12 t13 kv0).map (sm en59_8 e59) := by
  unfold j59_26; exact go (Q (rx c59_26) k59) trivial
def j59_27 (kv0 : Kvs) : Option R59 :=
  some kv0
theorem j59_27_t (kv0 : Kvs)  (sl : Sl) (_ : sl 3 = .v (.c (.mp 0))) :
    b59 mm (den (E0 mm) 59 0 (callW (E0 mm)) itW c59_27 none ⟨sl, (HO kv0)⟩) = (j59_27 kv0).map e59 := by
  unfold j59_27; exact go (Q (nE c59_27 (.seq c59_28 .ret)) k59) trivial
def s59_8 (t11_0 : Bool) (t11_1 : List Bs) (t12 t13 : Int) (kv0 : Kvs) : Option ((Bool × List Bs × Int × Int × Kvs) ⊕ R59) :=
  if (decide (t13 < t12)) = true then
    if 0 ≤ t13 ∧ t13 < (t11_1.length : Int) then
      (m107 (t11_1.getD t13.toNat default)).bind fun yr7 =>
        if yr7.2.2 = true then
          if (hasM yr7.1 kv0) = true then
            if ((valM yr7.1 kv0).length + 1) * 16 ≤ 140737488355328 then
              j59_26 t11_0 t11_1 t12 t13 (appM yr7.1 yr7.2.1 kv0)
            else none
          else
            j59_26 t11_0 t11_1 t12 t13 (kv0 ++ [(yr7.1, [yr7.2.1])])
        else
          j59_26 t11_0 t11_1 t12 t13 kv0
    else none
  else
    (j59_27 kv0).map .inr
theorem s59_8_t (t11_0 : Bool) (t11_1 : List Bs) (t12 t13 : Int) (kv0 : Kvs) :
    stepE (K59_8 mm) (lp (E0 mm) 59 0 c59_9 L59_0 (none, [.v (.c (.mp 0)), vd (.lst t11_0 (enL enS t11_1)), vd (dI t12), vd (dI t13)], (HO kv0))) = (s59_8 t11_0 t11_1 t12 t13 kv0).map (sm en59_8 e59) := by
  unfold s59_8; exact go k59 (Q @j59_26_t @j59_27_t)
def l59_8 (t11_0 : Bool) (t11_1 : List Bs) (t12 t13 : Int) (kv0 : Kvs) : Option R59 := iter (fun x : (Bool × List Bs × Int × Int × Kvs) => s59_8 x.1 x.2.1 x.2.2.1 x.2.2.2.1 x.2.2.2.2) (t11_0, t11_1, t12, t13, kv0)
theorem l59_8_t (t11_0 : Bool) (t11_1 : List Bs) (t12 t13 : Int) (kv0 : Kvs) : b59 mm (sq (E0 mm) 59 0 c59_27 (blockD 0 (itW (lp (E0 mm) 59 0 c59_9 L59_0) (none, [.v (.c (.mp 0)), vd (.lst t11_0 (enL enS t11_1)), vd (dI t12), vd (dI t13)], (HO kv0))))) = (l59_8 t11_0 t11_1 t12 t13 kv0).map e59 :=
  it_sim (K := (K59_8 mm)) rfl (enc := en59_8) (fun x => s59_8_t x.1 x.2.1 x.2.2.1 x.2.2.2.1 x.2.2.2.2) (t11_0, t11_1, t12, t13, kv0)
def m59 (l_0 : Bool) (l_1 : List (Bs × Bs)) : Option R59 :=
  (m26 l_0 l_1 ([99, 97, 99, 104, 101, 45, 99, 111, 110, 116, 114, 111, 108] : Bs)).bind fun yr2 =>
    l59_8 yr2.1 yr2.2 (yr2.2.length : Int) (0 : Int) ([] : Kvs)
theorem f59_t (l_0 : Bool) (l_1 : List (Bs × Bs)) :
    callW (E0 mm) 59 [cd (.lst l_0 (enL enSS l_1))] [] = (m59 l_0 l_1).map e59 := by
  rw [cR c59_0 [.tmp 2] Tryz.func59]
  unfold m59; exact go k59 @l59_8_t
noncomputable def c108_0 : Code := bodyOf Tryz.f108
def c108_1 := cA c108_0
def c108_3 := cA (cB c108_0)
def c108_5 := cA (cB (cB c108_0))
abbrev R108 := (Bool)
def e108 (gm1 : List (Bs × List Bs)) (x : R108) : AV × Heap := (vd (dB x), [.cells [.mp 1], .amap (enM gm1)])
def m108 (name : Bs) (gm1 : List (Bs × List Bs)) : Option R108 :=
  some (hasM name gm1)
def k108 := Q (rx c108_1) (Q (rx c108_3) (Q (rx c108_5) (Q (nE c108_0 (.seq c108_1 (.seq c108_3 (.seq c108_5 .ret)))) hA)))
theorem f108_t (name : Bs) (gm1 : List (Bs × List Bs)) :
    callW (E0 mm) 108 [cd (dS name), .c (.ptr 0 0)] [.cells [.mp 1], .amap (enM gm1)] = (m108 name gm1).map (e108 gm1) := by
  rw [cR c108_0 [.tmp 3] Tryz.func108]
  unfold m108; exact go k108 trivial
abbrev b123a (mm : Int) := bodyD (E0 mm) [.tmp 4] 2 false
abbrev R123a := (Int)
def L123a_0 : List (Nat × Co) := [(0, .keep), (1, .keep), (7, .keep), (8, .keep)]
def e123a (gm1 : List (Bs × List Bs)) (x : R123a) : AV × Heap := (vd (dI x), [.cells [.mp 1], .amap (enM gm1)])
def j123a_25 (gm1 : List (Bs × List Bs))  : Option R123a :=
  some (-1 : Int)
def K123a_6 (mm : Int) (r : Option (Ex × St)) : Option (AV × Heap) := b123a mm (sq (E0 mm) 123 2 c123_25 (blockD 0 (r)))
def en123a_6 (gm1 : List (Bs × List Bs)) : (Bool × List Bs × Int × Int) → X := fun x => (none, [vd (.lst x.1 (enL enS x.2.1)), .v (.c (.fn 108 [(0, 0)])), vd (dI x.2.2.1), vd (dI x.2.2.2)], [.cells [.mp 1], .amap (enM gm1)])
def k123a := Q (rx c123_26) (Q (rx c123_8) (Q (rx c123_16) (Q (rx c123_18) (Q @ent108 (Q @prm108 (Q @f108_t (Q @e108.eq_1 (Q (rx c123_21) (Q @K123a_6.eq_1 (Q (rx c123_24) (Q (rx c123_1) (Q (rx c123_4) (Q (fun mm => lx (E0 mm) 123 c123_6 c123_7 L123a_0) (Q (nE c123_0 (.seq c123_1 (.seq (.seq c123_4 (.block 0 c123_6)) c123_25))) (Q (nE c123_7 (.seq c123_8 (.seq (.cond _ .skip (.exit 0)) (.seq (.block 1 (.seq c123_16 (.seq c123_18 (.cond _ (.seq c123_21 .ret) .skip)))) c123_24)))) (Q @L123a_0.eq_1 hA))))))))))))))))
theorem j123a_25_t (gm1 : List (Bs × List Bs))   (sl : Sl)  :
    b123a mm (dn (E0 mm) 123 2 c123_25 sl [.cells [.mp 1], .amap (enM gm1)]) = (j123a_25 gm1).map (e123a gm1) := by
  unfold j123a_25; exact go (Q (nE c123_25 (.seq c123_26 .ret)) k123a) trivial
def s123a_6 (gm1 : List (Bs × List Bs)) (s0_0 : Bool) (s0_1 : List Bs) (t7 t8 : Int) : Option ((Bool × List Bs × Int × Int) ⊕ R123a) :=
  if (decide (t8 < t7)) = true then
    if 0 ≤ t8 ∧ t8 < (s0_1.length : Int) then
      (m108 (s0_1.getD t8.toNat default) gm1).bind fun yr5 =>
        if yr5 = true then
          some (.inr t8)
        else
          some (.inl (s0_0, s0_1, t7, (w64 (t8 + 1))))
    else none
  else
    (j123a_25 gm1).map .inr
theorem s123a_6_t (gm1 : List (Bs × List Bs)) (s0_0 : Bool) (s0_1 : List Bs) (t7 t8 : Int) :
    stepE (K123a_6 mm) (lp (E0 mm) 123 2 c123_7 L123a_0 (none, [vd (.lst s0_0 (enL enS s0_1)), .v (.c (.fn 108 [(0, 0)])), vd (dI t7), vd (dI t8)], [.cells [.mp 1], .amap (enM gm1)])) = (s123a_6 gm1 s0_0 s0_1 t7 t8).map (sm (en123a_6 gm1) (e123a gm1)) := by
  unfold s123a_6; exact go k123a @j123a_25_t
def l123a_6 (gm1 : List (Bs × List Bs)) (s0_0 : Bool) (s0_1 : List Bs) (t7 t8 : Int) : Option R123a := iter (fun x : (Bool × List Bs × Int × Int) => s123a_6 gm1 x.1 x.2.1 x.2.2.1 x.2.2.2) (s0_0, s0_1, t7, t8)
theorem l123a_6_t (gm1 : List (Bs × List Bs)) (s0_0 : Bool) (s0_1 : List Bs) (t7 t8 : Int) : b123a mm (sq (E0 mm) 123 2 c123_25 (blockD 0 (itW (lp (E0 mm) 123 2 c123_7 L123a_0) (none, [vd (.lst s0_0 (enL enS s0_1)), .v (.c (.fn 108 [(0, 0)])), vd (dI t7), vd (dI t8)], [.cells [.mp 1], .amap (enM gm1)])))) = (l123a_6 gm1 s0_0 s0_1 t7 t8).map (e123a gm1) :=
  it_sim (K := (K123a_6 mm)) rfl (enc := (en123a_6 gm1)) (fun x => s123a_6_t gm1 x.1 x.2.1 x.2.2.1 x.2.2.2) (s0_0, s0_1, t7, t8)
def m123a (s_0 : Bool) (s_1 : List Bs) (gm1 : List (Bs × List Bs)) : Option R123a :=
  l123a_6 gm1 s_0 s_1 (s_1.length : Int) (0 : Int)
theorem f123a_t (s_0 : Bool) (s_1 : List Bs) (gm1 : List (Bs × List Bs)) :
    callW (E0 mm) 123 [cd (.lst s_0 (enL enS s_1)), .c (.fn 108 [(0, 0)])] [.cells [.mp 1], .amap (enM gm1)] = (m123a s_0 s_1 gm1).map (e123a gm1) := by
  rw [cR c123_0 [.tmp 4] Tryz.func123]
  unfold m123a; exact go k123a @l123a_6_t
abbrev R79a := (Bool)
def e79a (gm1 : List (Bs × List Bs)) (x : R79a) : AV × Heap := (vd (dB x), [.cells [.mp 1], .amap (enM gm1)])
def m79a (s_0 : Bool) (s_1 : List Bs) (gm1 : List (Bs × List Bs)) : Option R79a :=
  (m123a s_0 s_1 gm1).bind fun yr2 =>
    some (decide (0 ≤ yr2))
def k79a := Q (rx c79_1) (Q (rx c79_3) (Q @f123a_t (Q @e123a.eq_1 (Q (nE c79_0 (.seq c79_1 (.seq c79_3 .ret))) hA))))
theorem f79a_t (s_0 : Bool) (s_1 : List Bs) (gm1 : List (Bs × List Bs)) :
    callW (E0 mm) 79 [cd (.lst s_0 (enL enS s_1)), .c (.fn 108 [(0, 0)])] [.cells [.mp 1], .amap (enM gm1)] = (m79a s_0 s_1 gm1).map (e79a gm1) := by
  rw [cR c79_0 [.tmp 4] Tryz.func79]
  unfold m79a; exact go k79a trivial
noncomputable def c60_0 : Code := bodyOf Tryz.f60
def c60_1 := cA c60_0
def c60_3 := cA (cB c60_0)
abbrev R60 := (Bool)
def e60 (gm0 : List (Bs × List Bs)) (x : R60) : AV × Heap := (vd (dB x), [.amap (enM gm0)])
def m60 (names_0 : Bool) (names_1 : List Bs) (gm0 : List (Bs × List Bs)) : Option R60 :=
  (m79a names_0 names_1 gm0).bind fun yr2 =>
    some yr2
def k60 := Q (rx c60_1) (Q (rx c60_3) (Q @f79a_t (Q @e79a.eq_1 (Q (nE c60_0 (.seq c60_1 (.seq c60_3 .ret))) hA))))
theorem f60_t (names_0 : Bool) (names_1 : List Bs) (gm0 : List (Bs × List Bs)) :
    callW (E0 mm) 60 [.c (.mp 0), cd (.lst names_0 (enL enS names_1))] [.amap (enM gm0)] = (m60 names_0 names_1 gm0).map (e60 gm0) := by
  rw [cR c60_0 [.tmp 4] Tryz.func60]
  unfold m60; exact go k60 trivial
noncomputable def c152_0 : Code := bodyOf Tryz.f152
def c152_1 := cA c152_0
def c152_4 := cA (cA (cB c152_0))
def c152_5 := cB (cA (cB c152_0))
def c152_7 := cA (cA c152_5)
def c152_10 := cB (cB c152_0)
def c152_11 := cA c152_10
abbrev R152 := (Int)
def e152 (x : R152) : AV × Heap := (vd (dI x), [])
def j152_5 (c0 : Int) (t8 : Bool) : Option R152 :=
  if t8 = true then
    some (w64 (w32 (c0 - 48)))
  else
    some (-1 : Int)
def k152 := Q (rx c152_7) (Q @Tryz.underlying21 (Q (rx c152_11) (Q (rx c152_1) (Q (rx c152_4) (Q (nE c152_0 (.seq c152_1 (.seq (.seq c152_4 c152_5) c152_10))) (Q (nE c152_10 (.seq c152_11 .ret)) hA))))))
theorem j152_5_t (c0 : Int) (t8 : Bool)  (sl : Sl) (_ : sl 0 = vd (.sc (.int .i32 c0))) (_ : sl 8 = vd (dB t8)) :
    bodyD (E0 mm) [.tmp 2] 0 false (sq (E0 mm) 152 0 c152_10 (dn (E0 mm) 152 0 c152_5 sl [])) = (j152_5 c0 t8).map e152 := by
  unfold j152_5; exact go (Q (nE c152_5 (.cond _ (.seq c152_7 .ret) .skip)) k152) trivial
def m152 (c : Int) : Option R152 :=
  if (decide (48 ≤ c)) = true then
    j152_5 c (decide (c ≤ 57))
  else
    j152_5 c false
theorem f152_t (c : Int) :
    callW (E0 mm) 152 [cd (.sc (.int .i32 c))] [] = (m152 c).map e152 := by
  rw [cR c152_0 [.tmp 2] Tryz.func152]
  unfold m152; exact go k152 @j152_5_t
noncomputable def c151_0 : Code := bodyOf Tryz.f151
def c151_1 := cA c151_0
def c151_4 := cA (cA (cB c151_0))
def c151_7 := cA (cA (cB (cA (cB c151_0))))
def c151_11 := cA (cB (cB c151_0))
def c151_14 := cA (cA (cB (cB (cB c151_0))))
def c151_16 := cA (cB (cA (cB (cB (cB c151_0)))))
def c151_17 := cA c151_16
def c151_18 := cA c151_17
def c151_25 := cA (cA (cB (cB c151_17)))
def c151_27 := cA (cB (cA (cB (cB c151_17))))
def c151_30 := cA (cA (cB (cB (cA (cB (cB c151_17))))))
def c151_33 := cA (cA (cB (cA (cB (cB (cA (cB (cB c151_17))))))))
def c151_38 := cA (cA (cB (cB (cB (cA (cB (cB c151_17)))))))
def c151_39 := cB (cA (cB (cB (cB (cA (cB (cB c151_17)))))))
def c151_41 := cA (cA c151_39)
def c151_44 := cB (cB (cB (cB (cA (cB (cB c151_17))))))
def c151_45 := cB (cB (cB (cB c151_0)))
def c151_47 := cA (cA c151_45)
def c151_50 := cA (cA (cB (cA c151_45)))
def c151_54 := cA (cB c151_45)
def L151_0 : List (Nat × Co) := [(1, .keep), (2, .keep), (8, .keep), (9, .keep), (16, .keep)]
abbrev R151 := (Int × Int)
def e151 (x : R151) : AV × Heap := (.tup [cd (dU x.1), cd (dI x.2)], [])
def j151_39 (base1 n8 : Int) (long9 : Bool) (d12 : Int) (t34 : Bool) (s0 : Bs) (p0 : Nat) : Option ((Int × Int × Bool × Bs × Nat) ⊕ R151) :=
  if t34 = true then
    some (.inl (base1, n8, true, s0, p0))
  else
    some (.inl (base1, (wu64 ((wu64 (n8 * base1)) + (wu64 d12))), long9, s0, p0))
def K151_16 (mm : Int) (r : Option (Ex × St)) : Option (AV × Heap) := bodyD (E0 mm) [.tmp 6, .tmp 7] 0 false (sq (E0 mm) 151 0 c151_45 (blockD 0 (r)))
def en151_16 (x : (Int × Int × Bool × Bs × Nat)) : X := (none, [vd (dU x.1), vd (.sc (.func (.func 152) #[] #[])), vd (dU x.2.1), vd (dB x.2.2.1), .v (.c (.it 0))], [.siter (S x.2.2.2.1) x.2.2.2.2])
def k151 := Q (rx c151_41) (Q (rx c151_44) (Q (rx c151_47) (Q (rx c151_50) (Q (rx c151_54) (Q (rx c151_18) (Q @dec_eq (Q (rx c151_25) (Q (rx c151_27) (Q @ent152 (Q @prm152 (Q @f152_t (Q @e152.eq_1 (Q (rx c151_30) (Q (rx c151_33) (Q @K151_16.eq_1 (Q (rx c151_38) (Q @ev_quo0 (Q (rx c151_1) (Q (rx c151_4) (Q (rx c151_7) (Q (rx c151_11) (Q (rx c151_14) (Q (fun mm => lx (E0 mm) 151 c151_16 c151_17 L151_0) (Q (nE c151_0 (.seq c151_1 (.seq (.seq c151_4 (.cond _ (.seq c151_7 .ret) .skip)) (.seq c151_11 (.seq (.seq c151_14 (.block 0 c151_16)) c151_45))))) (Q (nE c151_17 (.seq c151_18 (.seq (.cond _ .skip (.exit 0)) (.block 1 (.seq c151_25 (.seq c151_27 (.seq (.seq c151_30 (.cond _ (.seq c151_33 .ret) .skip)) (.seq (.seq c151_38 c151_39) c151_44)))))))) (Q @en151_16.eq_1 (Q @L151_0.eq_1 hA)))))))))))))))))))))))))))
theorem j151_39_t (base1 n8 : Int) (long9 : Bool) (d12 : Int) (t34 : Bool) (s0 : Bs) (p0 : Nat)  (sl : Sl) (_ : sl 1 = vd (dU base1)) (_ : sl 2 = vd (.sc (.func (.func 152) #[] #[]))) (_ : sl 8 = vd (dU n8)) (_ : sl 9 = vd (dB long9)) (_ : sl 12 = vd (dI d12)) (_ : sl 16 = .v (.c (.it 0))) (_ : sl 34 = vd (dB t34)) :
    stepE (K151_16 mm) (loopK 0 L151_0 (blockD 1 (sq (E0 mm) 151 0 c151_44 (dn (E0 mm) 151 0 c151_39 sl [.siter (S s0) p0])))) = (j151_39 base1 n8 long9 d12 t34 s0 p0).map (sm en151_16 e151) := by
  unfold j151_39; exact go (Q (nE c151_39 (.cond _ (.seq c151_41 (.exit 1)) .skip)) k151) trivial
def j151_45 (n8 : Int) (long9 : Bool) : Option R151 :=
  if long9 = true then
    some ((0 : Int), (3 : Int))
  else
    some (n8, (0 : Int))
theorem j151_45_t (n8 : Int) (long9 : Bool) (g0 : Ob) (sl : Sl) (_ : sl 8 = vd (dU n8)) (_ : sl 9 = vd (dB long9)) :
    bodyD (E0 mm) [.tmp 6, .tmp 7] 0 false (dn (E0 mm) 151 0 c151_45 sl [g0]) = (j151_45 n8 long9).map e151 := by
  unfold j151_45; exact go (Q (nE c151_45 (.seq (.seq c151_47 (.cond _ (.seq c151_50 .ret) .skip)) (.seq c151_54 .ret))) k151) trivial
def s151_16 (base1 n8 : Int) (long9 : Bool) (s0 : Bs) (p0 : Nat) : Option ((Int × Int × Bool × Bs × Nat) ⊕ R151) :=
  if (decide (p0 < s0.length)) = true then
    (m152 (uc s0 p0 : Int)).bind fun yr5 =>
      if (decide (yr5 < 0)) = true then
        some (.inr ((0 : Int), (5 : Int)))
      else
        if long9 = true then
          j151_39 base1 n8 true yr5 true s0 (p0 + uw s0 p0)
        else
          if (base1 == 0) = false then
            j151_39 base1 n8 false yr5 (decide ((wu64 ((wu64 (9007199254740991 - (wu64 yr5))).tdiv base1)) < n8)) s0 (p0 + uw s0 p0)
          else none
  else
    (j151_45 n8 long9).map .inr
theorem s151_16_t (base1 n8 : Int) (long9 : Bool) (s0 : Bs) (p0 : Nat) :
    stepE (K151_16 mm) (lp (E0 mm) 151 0 c151_17 L151_0 (en151_16 (base1, n8, long9, s0, p0))) = (s151_16 base1 n8 long9 s0 p0).map (sm en151_16 e151) := by
  unfold s151_16; exact go k151 (Q @j151_39_t @j151_45_t)
def l151_16 (base1 n8 : Int) (long9 : Bool) (s0 : Bs) (p0 : Nat) : Option R151 := iter (fun x : (Int × Int × Bool × Bs × Nat) => s151_16 x.1 x.2.1 x.2.2.1 x.2.2.2.1 x.2.2.2.2) (base1, n8, long9, s0, p0)
theorem l151_16_t (base1 n8 : Int) (long9 : Bool) (s0 : Bs) (p0 : Nat) : (K151_16 mm) (itW (lp (E0 mm) 151 0 c151_17 L151_0) (en151_16 (base1, n8, long9, s0, p0))) = (l151_16 base1 n8 long9 s0 p0).map e151 :=
  it_sim (K := (K151_16 mm)) rfl (enc := en151_16) (fun x => s151_16_t x.1 x.2.1 x.2.2.1 x.2.2.2.1 x.2.2.2.2) (base1, n8, long9, s0, p0)
def m151 (s : Bs) (base : Int) : Option R151 :=
  if (s == ([] : Bs)) = true then
    some ((0 : Int), (5 : Int))
  else
    l151_16 base (0 : Int) false s 0
theorem f151_t (s : Bs) (base : Int) :
    callW (E0 mm) 151 [cd (dS s), cd (dU base), cd (.sc (.func (.func 152) #[] #[]))] [] = (m151 s base).map e151 := by
  rw [cR c151_0 [.tmp 6, .tmp 7] Tryz.func151]
  unfold m151; exact go k151 @l151_16_t
noncomputable def c138_0 : Code := bodyOf Tryz.f138
def c138_1 := cA c138_0
def c138_3 := cA (cB c138_0)
abbrev R138 := (Int × Int)
def e138 (x : R138) : AV × Heap := (.tup [cd (dU x.1), cd (dI x.2)], [])
def m138 (s : Bs) : Option R138 :=
  (m151 s (10 : Int)).bind fun yr2 =>
    some (yr2.1, yr2.2)
def k138 := Q (rx c138_1) (Q (rx c138_3) (Q @ent151 (Q @prm151 (Q @f151_t (Q @e151.eq_1 (Q (nE c138_0 (.seq c138_1 (.seq c138_3 .ret))) hA))))))
theorem f138_t (s : Bs) :
    callW (E0 mm) 138 [cd (dS s)] [] = (m138 s).map e138 := by
  rw [cR c138_0 [.tmp 2, .tmp 3] Tryz.func138]
  unfold m138; exact go k138 trivial
noncomputable def c109_0 : Code := bodyOf Tryz.f109
def c109_1 := cA c109_0
def c109_3 := cA (cB c109_0)
def c109_6 := cA (cA (cB (cB c109_0)))
def c109_9 := cA (cA (cB (cA (cB (cB c109_0)))))
def c109_12 := cA (cA (cB (cA (cB (cA (cB (cB c109_0)))))))
def c109_15 := cA (cB (cB (cA (cB (cA (cB (cB c109_0)))))))
def c109_18 := cA (cA (cB (cB (cB (cA (cB (cA (cB (cB c109_0)))))))))
def c109_22 := cA (cB (cB (cB c109_0)))
abbrev R109 := (Int)
def e109 (x : R109) : AV × Heap := (vd (dI x), [])
def m109 (s : Bs) : Option R109 :=
  (m138 s).bind fun yr2 =>
    if (yr2.2 == 0) = true then
      some (w64 (min2 yr2.1 2147483647))
    else
      if (yr2.2 == 3) = true then
        some (2147483647 : Int)
      else
        some (0 : Int)
def k109 := Q (rx c109_1) (Q (rx c109_3) (Q @ent138 (Q @prm138 (Q @f138_t (Q @e138.eq_1 (Q (rx c109_6) (Q (rx c109_9) (Q (rx c109_12) (Q (rx c109_15) (Q (rx c109_18) (Q (rx c109_22) (Q (nE c109_0 (.seq c109_1 (.seq c109_3 (.seq (.seq c109_6 (.block 0 (.seq c109_9 (.cond _ (.seq c109_12 .ret) (.seq c109_15 (.cond _ (.seq c109_18 .ret) .skip)))))) (.seq c109_22 .ret))))) hA))))))))))))
theorem f109_t (s : Bs) :
    callW (E0 mm) 109 [cd (dS s)] [] = (m109 s).map e109 := by
  rw [cR c109_0 [.tmp 2] Tryz.func109]
  unfold m109; exact go k109 trivial
noncomputable def c62_0 : Code := bodyOf Tryz.f62
def c62_1 := cA c62_0
def c62_4 := cA (cA (cB c62_0))
def c62_6 := cA (cB (cA (cB c62_0)))
def c62_9 := cA (cB (cB c62_0))
def c62_12 := cA (cA (cB (cB (cB c62_0))))
def c62_14 := cA (cB (cA (cB (cB (cB c62_0)))))
def c62_15 := cA c62_14
def c62_17 := cA (cA c62_15)
def c62_23 := cA (cA (cB c62_15))
def c62_24 := cB (cB c62_15)
def c62_25 := cB (cB (cB (cB c62_0)))
def c62_26 := cA c62_25
theorem c62_6_r : RG (E0 mm) 62 c62_6 := rgN rfl
def L62_0 : List (Nat × Co) := [(0, .keep), (3, .keep), (4, .keep)]
abbrev R62 := (Int × List Int)
def e62 (x : R62) : AV × Heap := (vd (dI x.1), [.cells (enI x.2)])
def j62_25 (m3 : Int) (h0 : List Int) : Option R62 :=
  some (m3, h0)
def K62_14 (mm : Int) (r : Option (Ex × St)) : Option (AV × Heap) := bodyD (E0 mm) [.tmp 2] 1 false (sq (E0 mm) 62 1 c62_25 (blockD 0 (r)))
def en62_14 (x : (Int × Int × List Int)) : X := (none, [.v (.c (.slc 0 0 1 x.2.2.length none)), vd (dI x.1), vd (dI x.2.1)], [.cells (enI x.2.2)])
def k62 (mm : Int) := Q (rx c62_26) (Q (rx c62_17) (Q (rx c62_23) (Q @enI_length (Q @enI_load (Q (rx c62_24) (Q @K62_14.eq_1 (Q (rx c62_1) (Q (rx c62_4) (Q @c62_6_r (Q (runOps_dead (E := (E0 mm)) (call := callW (E0 mm)) (all := opsOf c62_6) (os := opsOf c62_6) (by kernel_rfl)) (Q (rx c62_9) (Q (fun l => enI_load0 l 0) (Q (rx c62_12) (Q (fun mm => lx (E0 mm) 62 c62_14 c62_15 L62_0) (Q (nE c62_0 (.seq c62_1 (.seq (.seq c62_4 (.cond _ c62_6 .skip)) (.seq c62_9 (.seq (.seq c62_12 (.block 0 c62_14)) c62_25))))) (Q (nE c62_15 (.seq (.seq c62_17 (.cond _ .skip (.exit 0))) (.seq (.block 1 c62_23) c62_24))) (Q @en62_14.eq_1 (Q @L62_0.eq_1 hA))))))))))))))))))
theorem j62_25_t (m3 : Int) (h0 : List Int)  (sl : Sl) (_ : sl 3 = vd (dI m3)) :
    bodyD (E0 mm) [.tmp 2] 1 false (dn (E0 mm) 62 1 c62_25 sl [.cells (enI h0)]) = (j62_25 m3 h0).map e62 := by
  unfold j62_25; exact go (Q (nE c62_25 (.seq c62_26 .ret)) (k62 mm)) trivial
def s62_14 (m3 i4 : Int) (h0 : List Int) : Option ((Int × Int × List Int) ⊕ R62) :=
  if (decide (i4 < (h0.length : Int))) = true then
    if 0 ≤ i4 ∧ i4 < (h0.length : Int) then
      some (.inl ((min2 m3 (h0.getD i4.toNat default)), (w64 (i4 + 1)), h0))
    else none
  else
    (j62_25 m3 h0).map .inr
theorem s62_14_t (m3 i4 : Int) (h0 : List Int) :
    stepE (K62_14 mm) (lp (E0 mm) 62 1 c62_15 L62_0 (en62_14 (m3, i4, h0))) = (s62_14 m3 i4 h0).map (sm en62_14 e62) := by
  unfold s62_14; exact go (k62 mm) @j62_25_t
def l62_14 (m3 i4 : Int) (h0 : List Int) : Option R62 := iter (fun x : (Int × Int × List Int) => s62_14 x.1 x.2.1 x.2.2) (m3, i4, h0)
theorem l62_14_t (m3 i4 : Int) (h0 : List Int) : (K62_14 mm) (itW (lp (E0 mm) 62 1 c62_15 L62_0) (en62_14 (m3, i4, h0))) = (l62_14 m3 i4 h0).map e62 :=
  it_sim (K := (K62_14 mm)) rfl (enc := en62_14) (fun x => s62_14_t x.1 x.2.1 x.2.2) (m3, i4, h0)
def m62 (h0 : List Int) : Option R62 :=
  if (decide ((h0.length : Int) < 1)) = true then
    none
  else
    if (0 : Int) < (h0.length : Int) then
      l62_14 (h0.getD 0 default) (1 : Int) h0
    else none
theorem f62_t (h0 : List Int) :
    callW (E0 mm) 62 [.c (.slc 0 0 1 h0.length none)] [.cells (enI h0)] = (m62 h0).map e62 := by
  rw [cR c62_0 [.tmp 2] Tryz.func62]
  unfold m62; exact go (k62 mm) @l62_14_t
noncomputable def c61_0 : Code := bodyOf Tryz.f61
def c61_1 := cA c61_0
def c61_3 := cA (cB c61_0)
def c61_6 := cA (cA (cB (cB c61_0)))
def c61_8 := cA (cB (cA (cB (cB c61_0))))
def c61_9 := cA c61_8
def c61_10 := cA c61_9
def c61_15 := cB (cB c61_9)
def c61_18 := cA (cA (cA c61_15))
def c61_19 := cB (cA (cA c61_15))
def c61_20 := cB c61_15
def c61_21 := cB (cB (cB c61_0))
def c61_23 := cA (cA c61_21)
def c61_26 := cA (cA (cB (cA c61_21)))
def c61_30 := cA (cB c61_21)
def L61_0 : List (Nat × Co) := [(1, .keep), (5, .keep), (8, .keep), (9, .keep), (10, .keep)]
abbrev b61 (mm : Int) := bodyD (E0 mm) [.tmp 4] 0 false
abbrev R61 := (Int)
def e61 (x : R61) : AV × Heap := (vd (dI x), [])
def j61_20 (t8_0 : Bool) (t8_1 : List Bs) (t9 t10 : Int) (h1 : List Int) : Option (((Bool × List Bs × Int × Int) ⊕ (Bool × List Bs × Int × Int × List Int)) ⊕ R61) :=
  some (.inl (.inr (t8_0, t8_1, t9, (w64 (t10 + 1)), h1)))
def K61_8 (mm : Int) (r : Option (Ex × St)) : Option (AV × Heap) := b61 mm (sq (E0 mm) 61 0 c61_21 (blockD 0 (r)))
def en61_8 : ((Bool × List Bs × Int × Int) ⊕ (Bool × List Bs × Int × Int × List Int)) → X := fun x => match x with
  | (.inl x) => (none, [vd (.sc (.func (.func 62) #[] #[])), vd (.lst true []), vd (.lst x.1 (enL enS x.2.1)), vd (dI x.2.2.1), vd (dI x.2.2.2)], [])
  | (.inr x) => (none, [vd (.sc (.func (.func 62) #[] #[])), .v (.c (.slc 0 0 1 x.2.2.2.2.length none)), vd (.lst x.1 (enL enS x.2.1)), vd (dI x.2.2.1), vd (dI x.2.2.2.1)], [.cells (enI x.2.2.2.2)])
def k61 := Q (rx c61_18) (Q (rx c61_19) (Q @f109_t (Q @e109.eq_1 (Q @enI_length (Q @enI1_src (Q (rx c61_23) (Q (rx c61_26) (Q (rx c61_10) (Q @K61_8.eq_1 (Q (rx c61_30) (Q @f62_t (Q @e62.eq_1 (Q (rx c61_1) (Q (rx c61_3) (Q (rx c61_6) (Q (fun mm => lx (E0 mm) 61 c61_8 c61_9 L61_0) (Q (nE c61_0 (.seq c61_1 (.seq c61_3 (.seq (.seq c61_6 (.block 0 c61_8)) c61_21)))) (Q (nE c61_9 (.seq c61_10 (.seq (.cond _ .skip (.exit 0)) c61_15))) (Q @L61_0.eq_1 hA)))))))))))))))))))
theorem j61_20_t (t8_0 : Bool) (t8_1 : List Bs) (t9 t10 : Int) (h1 : List Int) (g0 : Ob) (sl : Sl) (_ : sl 1 = vd (.sc (.func (.func 62) #[] #[]))) (_ : sl 5 = .v (.c (.slc 1 0 1 h1.length none))) (_ : sl 8 = vd (.lst t8_0 (enL enS t8_1))) (_ : sl 9 = vd (dI t9)) (_ : sl 10 = vd (dI t10)) :
    stepE (K61_8 mm) (loopK 0 L61_0 (dn (E0 mm) 61 0 c61_20 sl [g0, .cells (enI h1)])) = (j61_20 t8_0 t8_1 t9 t10 h1).map (sm en61_8 e61) := by
  unfold j61_20; exact go (Q (rx c61_20) k61) trivial
def j61_15 (t8_0 : Bool) (t8_1 : List Bs) (t9 t10 : Int) : Option (((Bool × List Bs × Int × Int) ⊕ (Bool × List Bs × Int × Int × List Int)) ⊕ R61) :=
  if 0 ≤ t10 ∧ t10 < (t8_1.length : Int) then
    (m109 (t8_1.getD t10.toNat default)).bind fun yr5 =>
      j61_20 t8_0 t8_1 t9 t10 ([yr5] : List Int)
  else none
theorem j61_15_t (t8_0 : Bool) (t8_1 : List Bs) (t9 t10 : Int)  (sl : Sl) (_ : sl 1 = vd (.sc (.func (.func 62) #[] #[]))) (_ : sl 5 = vd (.lst true [])) (_ : sl 8 = vd (.lst t8_0 (enL enS t8_1))) (_ : sl 9 = vd (dI t9)) (_ : sl 10 = vd (dI t10)) :
    stepE (K61_8 mm) (loopK 0 L61_0 (dn (E0 mm) 61 0 c61_15 sl [])) = (j61_15 t8_0 t8_1 t9 t10).map (sm en61_8 e61) := by
  unfold j61_15; exact go (Q (nE c61_15 (.seq (.block 1 (.seq c61_18 c61_19)) c61_20)) k61) @j61_20_t
def j61_21  : Option R61 :=
  some (-1 : Int)
theorem j61_21_t (sl : Sl) (_ : sl 1 = vd (.sc (.func (.func 62) #[] #[]))) (_ : sl 5 = vd (.lst true [])) :
    b61 mm (dn (E0 mm) 61 0 c61_21 sl []) = (j61_21).map e61 := by
  unfold j61_21; exact go (Q (nE c61_21 (.seq (.seq c61_23 (.cond _ (.seq c61_26 .ret) .skip)) (.seq c61_30 .ret))) k61) trivial
def s61_8x0 (t8_0 : Bool) (t8_1 : List Bs) (t9 t10 : Int) : Option (((Bool × List Bs × Int × Int) ⊕ (Bool × List Bs × Int × Int × List Int)) ⊕ R61) :=
  if (decide (t10 < t9)) = true then
    j61_15 t8_0 t8_1 t9 t10
  else
    (j61_21).map .inr
theorem s61_8x0_t (t8_0 : Bool) (t8_1 : List Bs) (t9 t10 : Int) :
    stepE (K61_8 mm) (lp (E0 mm) 61 0 c61_9 L61_0 (none, [vd (.sc (.func (.func 62) #[] #[])), vd (.lst true []), vd (.lst t8_0 (enL enS t8_1)), vd (dI t9), vd (dI t10)], [])) = (s61_8x0 t8_0 t8_1 t9 t10).map (sm en61_8 e61) := by
  unfold s61_8x0; exact go k61 (Q @j61_15_t @j61_21_t)
def j61_20v1 (t8_0 : Bool) (t8_1 : List Bs) (t9 t10 : Int) (h2 : List Int) : Option (((Bool × List Bs × Int × Int) ⊕ (Bool × List Bs × Int × Int × List Int)) ⊕ R61) :=
  some (.inl (.inr (t8_0, t8_1, t9, (w64 (t10 + 1)), h2)))
theorem j61_20v1_t (t8_0 : Bool) (t8_1 : List Bs) (t9 t10 : Int) (h2 : List Int) (g0 g1 : Ob) (sl : Sl) (_ : sl 1 = vd (.sc (.func (.func 62) #[] #[]))) (_ : sl 5 = .v (.c (.slc 2 0 1 h2.length none))) (_ : sl 8 = vd (.lst t8_0 (enL enS t8_1))) (_ : sl 9 = vd (dI t9)) (_ : sl 10 = vd (dI t10)) :
    stepE (K61_8 mm) (loopK 0 L61_0 (dn (E0 mm) 61 0 c61_20 sl [g0, g1, .cells (enI h2)])) = (j61_20v1 t8_0 t8_1 t9 t10 h2).map (sm en61_8 e61) := by
  unfold j61_20v1; exact go (Q (rx c61_20) k61) trivial
def j61_15v1 (t8_0 : Bool) (t8_1 : List Bs) (t9 t10 : Int) (h0 : List Int) : Option (((Bool × List Bs × Int × Int) ⊕ (Bool × List Bs × Int × Int × List Int)) ⊕ R61) :=
  if 0 ≤ t10 ∧ t10 < (t8_1.length : Int) then
    (m109 (t8_1.getD t10.toNat default)).bind fun yr10 =>
      if (h0.length + 1) * 8 ≤ 140737488355328 then
        j61_20v1 t8_0 t8_1 t9 t10 (h0 ++ ([yr10] : List Int))
      else none
  else none
theorem j61_15v1_t (t8_0 : Bool) (t8_1 : List Bs) (t9 t10 : Int) (h0 : List Int)  (sl : Sl) (_ : sl 1 = vd (.sc (.func (.func 62) #[] #[]))) (_ : sl 5 = .v (.c (.slc 0 0 1 h0.length none))) (_ : sl 8 = vd (.lst t8_0 (enL enS t8_1))) (_ : sl 9 = vd (dI t9)) (_ : sl 10 = vd (dI t10)) :
    stepE (K61_8 mm) (loopK 0 L61_0 (dn (E0 mm) 61 0 c61_15 sl [.cells (enI h0)])) = (j61_15v1 t8_0 t8_1 t9 t10 h0).map (sm en61_8 e61) := by
  unfold j61_15v1; exact go (Q (nE c61_15 (.seq (.block 1 (.seq c61_18 c61_19)) c61_20)) k61) @j61_20v1_t
def j61_21v1 (h0 : List Int) : Option R61 :=
  if ((h0.length : Int) == 0) = true then
    some (-1 : Int)
  else
    (m62 h0).bind fun yr14 =>
      some yr14.1
theorem j61_21v1_t (h0 : List Int)  (sl : Sl) (_ : sl 1 = vd (.sc (.func (.func 62) #[] #[]))) (_ : sl 5 = .v (.c (.slc 0 0 1 h0.length none))) :
    b61 mm (dn (E0 mm) 61 0 c61_21 sl [.cells (enI h0)]) = (j61_21v1 h0).map e61 := by
  unfold j61_21v1; exact go (Q (nE c61_21 (.seq (.seq c61_23 (.cond _ (.seq c61_26 .ret) .skip)) (.seq c61_30 .ret))) k61) trivial
def s61_8x1 (t8_0 : Bool) (t8_1 : List Bs) (t9 t10 : Int) (h0 : List Int) : Option (((Bool × List Bs × Int × Int) ⊕ (Bool × List Bs × Int × Int × List Int)) ⊕ R61) :=
  if (decide (t10 < t9)) = true then
    j61_15v1 t8_0 t8_1 t9 t10 h0
  else
    (j61_21v1 h0).map .inr
theorem s61_8x1_t (t8_0 : Bool) (t8_1 : List Bs) (t9 t10 : Int) (h0 : List Int) :
    stepE (K61_8 mm) (lp (E0 mm) 61 0 c61_9 L61_0 (none, [vd (.sc (.func (.func 62) #[] #[])), .v (.c (.slc 0 0 1 h0.length none)), vd (.lst t8_0 (enL enS t8_1)), vd (dI t9), vd (dI t10)], [.cells (enI h0)])) = (s61_8x1 t8_0 t8_1 t9 t10 h0).map (sm en61_8 e61) := by
  unfold s61_8x1; exact go k61 (Q @j61_15v1_t @j61_21v1_t)
def s61_8 : ((Bool × List Bs × Int × Int) ⊕ (Bool × List Bs × Int × Int × List Int)) → Option (((Bool × List Bs × Int × Int) ⊕ (Bool × List Bs × Int × Int × List Int)) ⊕ R61) := fun x => match x with
  | (.inl x) => s61_8x0 x.1 x.2.1 x.2.2.1 x.2.2.2
  | (.inr x) => s61_8x1 x.1 x.2.1 x.2.2.1 x.2.2.2.1 x.2.2.2.2
def l61_8 (t8_0 : Bool) (t8_1 : List Bs) (t9 t10 : Int) : Option R61 := iter s61_8 (.inl (t8_0, t8_1, t9, t10))
theorem l61_8_t (t8_0 : Bool) (t8_1 : List Bs) (t9 t10 : Int) : b61 mm (sq (E0 mm) 61 0 c61_21 (blockD 0 (itW (lp (E0 mm) 61 0 c61_9 L61_0) (none, [vd (.sc (.func (.func 62) #[] #[])), vd (.lst true []), vd (.lst t8_0 (enL enS t8_1)), vd (dI t9), vd (dI t10)], [])))) = (l61_8 t8_0 t8_1 t9 t10).map e61 :=
  it_sim (K := (K61_8 mm)) rfl (enc := en61_8) (fun x => match x with
  | (.inl x) => s61_8x0_t x.1 x.2.1 x.2.2.1 x.2.2.2
  | (.inr x) => s61_8x1_t x.1 x.2.1 x.2.2.1 x.2.2.2.1 x.2.2.2.2) (.inl (t8_0, t8_1, t9, t10))
def m61 (values_0 : Bool) (values_1 : List Bs) : Option R61 :=
  l61_8 values_0 values_1 (values_1.length : Int) (0 : Int)
theorem f61_t (values_0 : Bool) (values_1 : List Bs) :
    callW (E0 mm) 61 [cd (.lst values_0 (enL enS values_1)), cd (.sc (.func (.func 62) #[] #[]))] [] = (m61 values_0 values_1).map e61 := by
  rw [cR c61_0 [.tmp 4] Tryz.func61]
  unfold m61; exact go k61 @l61_8_t
noncomputable def c81_0 : Code := bodyOf Tryz.f81
def c81_1 := cA c81_0
def c81_4 := cA (cA (cB c81_0))
def c81_6 := cA (cB (cA (cB c81_0)))
def c81_9 := cA (cB (cB c81_0))
def c81_12 := cA (cA (cB (cB (cB c81_0))))
def c81_14 := cA (cB (cA (cB (cB (cB c81_0)))))
def c81_15 := cA c81_14
def c81_17 := cA (cA c81_15)
def c81_23 := cA (cA (cB c81_15))
def c81_24 := cB (cB c81_15)
def c81_25 := cB (cB (cB (cB c81_0)))
def c81_26 := cA c81_25
theorem c81_6_r : RG (E0 mm) 81 c81_6 := rgN rfl
def L81_0 : List (Nat × Co) := [(0, .keep), (3, .keep), (4, .keep)]
abbrev R81 := (Int × List Int)
def e81 (x : R81) : AV × Heap := (vd (dI x.1), [.cells (enI x.2)])
def j81_25 (m3 : Int) (h0 : List Int) : Option R81 :=
  some (m3, h0)
def K81_14 (mm : Int) (r : Option (Ex × St)) : Option (AV × Heap) := bodyD (E0 mm) [.tmp 2] 1 false (sq (E0 mm) 81 1 c81_25 (blockD 0 (r)))
def en81_14 (x : (Int × Int × List Int)) : X := (none, [.v (.c (.slc 0 0 1 x.2.2.length none)), vd (dI x.1), vd (dI x.2.1)], [.cells (enI x.2.2)])
def k81 (mm : Int) := Q (rx c81_26) (Q (rx c81_17) (Q (rx c81_23) (Q @enI_length (Q @enI_load (Q (rx c81_24) (Q @K81_14.eq_1 (Q (rx c81_1) (Q (rx c81_4) (Q @c81_6_r (Q (runOps_dead (E := (E0 mm)) (call := callW (E0 mm)) (all := opsOf c81_6) (os := opsOf c81_6) (by kernel_rfl)) (Q (rx c81_9) (Q (fun l => enI_load0 l 0) (Q (rx c81_12) (Q (fun mm => lx (E0 mm) 81 c81_14 c81_15 L81_0) (Q (nE c81_0 (.seq c81_1 (.seq (.seq c81_4 (.cond _ c81_6 .skip)) (.seq c81_9 (.seq (.seq c81_12 (.block 0 c81_14)) c81_25))))) (Q (nE c81_15 (.seq (.seq c81_17 (.cond _ .skip (.exit 0))) (.seq (.block 1 c81_23) c81_24))) (Q @en81_14.eq_1 (Q @L81_0.eq_1 hA))))))))))))))))))
theorem j81_25_t (m3 : Int) (h0 : List Int)  (sl : Sl) (_ : sl 3 = vd (dI m3)) :
    bodyD (E0 mm) [.tmp 2] 1 false (dn (E0 mm) 81 1 c81_25 sl [.cells (enI h0)]) = (j81_25 m3 h0).map e81 := by
  unfold j81_25; exact go (Q (nE c81_25 (.seq c81_26 .ret)) (k81 mm)) trivial
def s81_14 (m3 i4 : Int) (h0 : List Int) : Option ((Int × Int × List Int) ⊕ R81) :=
  if (decide (i4 < (h0.length : Int))) = true then
    if 0 ≤ i4 ∧ i4 < (h0.length : Int) then
      some (.inl ((max2 m3 (h0.getD i4.toNat default)), (w64 (i4 + 1)), h0))
    else none
  else
    (j81_25 m3 h0).map .inr
theorem s81_14_t (m3 i4 : Int) (h0 : List Int) :
    stepE (K81_14 mm) (lp (E0 mm) 81 1 c81_15 L81_0 (en81_14 (m3, i4, h0))) = (s81_14 m3 i4 h0).map (sm en81_14 e81) := by
  unfold s81_14; exact go (k81 mm) @j81_25_t
def l81_14 (m3 i4 : Int) (h0 : List Int) : Option R81 := iter (fun x : (Int × Int × List Int) => s81_14 x.1 x.2.1 x.2.2) (m3, i4, h0)
theorem l81_14_t (m3 i4 : Int) (h0 : List Int) : (K81_14 mm) (itW (lp (E0 mm) 81 1 c81_15 L81_0) (en81_14 (m3, i4, h0))) = (l81_14 m3 i4 h0).map e81 :=
  it_sim (K := (K81_14 mm)) rfl (enc := en81_14) (fun x => s81_14_t x.1 x.2.1 x.2.2) (m3, i4, h0)
def m81 (h0 : List Int) : Option R81 :=
  if (decide ((h0.length : Int) < 1)) = true then
    none
  else
    if (0 : Int) < (h0.length : Int) then
      l81_14 (h0.getD 0 default) (1 : Int) h0
    else none
theorem f81_t (h0 : List Int) :
    callW (E0 mm) 81 [.c (.slc 0 0 1 h0.length none)] [.cells (enI h0)] = (m81 h0).map e81 := by
  rw [cR c81_0 [.tmp 2] Tryz.func81]
  unfold m81; exact go (k81 mm) @l81_14_t
abbrev b61a (mm : Int) := bodyD (E0 mm) [.tmp 4] 0 false
abbrev R61a := (Int)
def L61a_0 : List (Nat × Co) := [(1, .keep), (5, .keep), (8, .keep), (9, .keep), (10, .keep)]
def e61a (x : R61a) : AV × Heap := (vd (dI x), [])
def j61a_20 (t8_0 : Bool) (t8_1 : List Bs) (t9 t10 : Int) (h1 : List Int) : Option (((Bool × List Bs × Int × Int) ⊕ (Bool × List Bs × Int × Int × List Int)) ⊕ R61a) :=
  some (.inl (.inr (t8_0, t8_1, t9, (w64 (t10 + 1)), h1)))
def K61a_8 (mm : Int) (r : Option (Ex × St)) : Option (AV × Heap) := b61a mm (sq (E0 mm) 61 0 c61_21 (blockD 0 (r)))
def en61a_8 : ((Bool × List Bs × Int × Int) ⊕ (Bool × List Bs × Int × Int × List Int)) → X := fun x => match x with
  | (.inl x) => (none, [vd (.sc (.func (.func 81) #[] #[])), vd (.lst true []), vd (.lst x.1 (enL enS x.2.1)), vd (dI x.2.2.1), vd (dI x.2.2.2)], [])
  | (.inr x) => (none, [vd (.sc (.func (.func 81) #[] #[])), .v (.c (.slc 0 0 1 x.2.2.2.2.length none)), vd (.lst x.1 (enL enS x.2.1)), vd (dI x.2.2.1), vd (dI x.2.2.2.1)], [.cells (enI x.2.2.2.2)])
def k61a := Q (rx c61_18) (Q (rx c61_19) (Q @f109_t (Q @e109.eq_1 (Q @enI_length (Q @enI1_src (Q (rx c61_23) (Q (rx c61_26) (Q (rx c61_10) (Q @K61a_8.eq_1 (Q (rx c61_30) (Q @ent81 (Q @prm81 (Q @f81_t (Q @e81.eq_1 (Q (rx c61_1) (Q (rx c61_3) (Q (rx c61_6) (Q (fun mm => lx (E0 mm) 61 c61_8 c61_9 L61a_0) (Q (nE c61_0 (.seq c61_1 (.seq c61_3 (.seq (.seq c61_6 (.block 0 c61_8)) c61_21)))) (Q (nE c61_9 (.seq c61_10 (.seq (.cond _ .skip (.exit 0)) c61_15))) (Q @L61a_0.eq_1 hA)))))))))))))))))))))
theorem j61a_20_t (t8_0 : Bool) (t8_1 : List Bs) (t9 t10 : Int) (h1 : List Int) (g0 : Ob) (sl : Sl) (_ : sl 1 = vd (.sc (.func (.func 81) #[] #[]))) (_ : sl 5 = .v (.c (.slc 1 0 1 h1.length none))) (_ : sl 8 = vd (.lst t8_0 (enL enS t8_1))) (_ : sl 9 = vd (dI t9)) (_ : sl 10 = vd (dI t10)) :
    stepE (K61a_8 mm) (loopK 0 L61a_0 (dn (E0 mm) 61 0 c61_20 sl [g0, .cells (enI h1)])) = (j61a_20 t8_0 t8_1 t9 t10 h1).map (sm en61a_8 e61a) := by
  unfold j61a_20; exact go (Q (rx c61_20) k61a) trivial
def j61a_15 (t8_0 : Bool) (t8_1 : List Bs) (t9 t10 : Int) : Option (((Bool × List Bs × Int × Int) ⊕ (Bool × List Bs × Int × Int × List Int)) ⊕ R61a) :=
  if 0 ≤ t10 ∧ t10 < (t8_1.length : Int) then
    (m109 (t8_1.getD t10.toNat default)).bind fun yr5 =>
      j61a_20 t8_0 t8_1 t9 t10 ([yr5] : List Int)
  else none
theorem j61a_15_t (t8_0 : Bool) (t8_1 : List Bs) (t9 t10 : Int)  (sl : Sl) (_ : sl 1 = vd (.sc (.func (.func 81) #[] #[]))) (_ : sl 5 = vd (.lst true [])) (_ : sl 8 = vd (.lst t8_0 (enL enS t8_1))) (_ : sl 9 = vd (dI t9)) (_ : sl 10 = vd (dI t10)) :
    stepE (K61a_8 mm) (loopK 0 L61a_0 (dn (E0 mm) 61 0 c61_15 sl [])) = (j61a_15 t8_0 t8_1 t9 t10).map (sm en61a_8 e61a) := by
  unfold j61a_15; exact go (Q (nE c61_15 (.seq (.block 1 (.seq c61_18 c61_19)) c61_20)) k61a) @j61a_20_t
def j61a_21  : Option R61a :=
  some (-1 : Int)
theorem j61a_21_t (sl : Sl) (_ : sl 1 = vd (.sc (.func (.func 81) #[] #[]))) (_ : sl 5 = vd (.lst true [])) :
    b61a mm (dn (E0 mm) 61 0 c61_21 sl []) = (j61a_21).map e61a := by
  unfold j61a_21; exact go (Q (nE c61_21 (.seq (.seq c61_23 (.cond _ (.seq c61_26 .ret) .skip)) (.seq c61_30 .ret))) k61a) trivial
def s61a_8x0 (t8_0 : Bool) (t8_1 : List Bs) (t9 t10 : Int) : Option (((Bool × List Bs × Int × Int) ⊕ (Bool × List Bs × Int × Int × List Int)) ⊕ R61a) :=
  if (decide (t10 < t9)) = true then
    j61a_15 t8_0 t8_1 t9 t10
  else
    (j61a_21).map .inr
theorem s61a_8x0_t (t8_0 : Bool) (t8_1 : List Bs) (t9 t10 : Int) :
    stepE (K61a_8 mm) (lp (E0 mm) 61 0 c61_9 L61a_0 (none, [vd (.sc (.func (.func 81) #[] #[])), vd (.lst true []), vd (.lst t8_0 (enL enS t8_1)), vd (dI t9), vd (dI t10)], [])) = (s61a_8x0 t8_0 t8_1 t9 t10).map (sm en61a_8 e61a) := by
  unfold s61a_8x0; exact go k61a (Q @j61a_15_t @j61a_21_t)
def j61a_20v1 (t8_0 : Bool) (t8_1 : List Bs) (t9 t10 : Int) (h2 : List Int) : Option (((Bool × List Bs × Int × Int) ⊕ (Bool × List Bs × Int × Int × List Int)) ⊕ R61a) :=
  some (.inl (.inr (t8_0, t8_1, t9, (w64 (t10 + 1)), h2)))
theorem j61a_20v1_t (t8_0 : Bool) (t8_1 : List Bs) (t9 t10 : Int) (h2 : List Int) (g0 g1 : Ob) (sl : Sl) (_ : sl 1 = vd (.sc (.func (.func 81) #[] #[]))) (_ : sl 5 = .v (.c (.slc 2 0 1 h2.length none))) (_ : sl 8 = vd (.lst t8_0 (enL enS t8_1))) (_ : sl 9 = vd (dI t9)) (_ : sl 10 = vd (dI t10)) :
    stepE (K61a_8 mm) (loopK 0 L61a_0 (dn (E0 mm) 61 0 c61_20 sl [g0, g1, .cells (enI h2)])) = (j61a_20v1 t8_0 t8_1 t9 t10 h2).map (sm en61a_8 e61a) := by
  unfold j61a_20v1; exact go (Q (rx c61_20) k61a) trivial
def j61a_15v1 (t8_0 : Bool) (t8_1 : List Bs) (t9 t10 : Int) (h0 : List Int) : Option (((Bool × List Bs × Int × Int) ⊕ (Bool × List Bs × Int × Int × List Int)) ⊕ R61a) :=
  if 0 ≤ t10 ∧ t10 < (t8_1.length : Int) then
    (m109 (t8_1.getD t10.toNat default)).bind fun yr10 =>
      if (h0.length + 1) * 8 ≤ 140737488355328 then
        j61a_20v1 t8_0 t8_1 t9 t10 (h0 ++ ([yr10] : List Int))
      else none
  else none
theorem j61a_15v1_t (t8_0 : Bool) (t8_1 : List Bs) (t9 t10 : Int) (h0 : List Int)  (sl : Sl) (_ : sl 1 = vd (.sc (.func (.func 81) #[] #[]))) (_ : sl 5 = .v (.c (.slc 0 0 1 h0.length none))) (_ : sl 8 = vd (.lst t8_0 (enL enS t8_1))) (_ : sl 9 = vd (dI t9)) (_ : sl 10 = vd (dI t10)) :
    stepE (K61a_8 mm) (loopK 0 L61a_0 (dn (E0 mm) 61 0 c61_15 sl [.cells (enI h0)])) = (j61a_15v1 t8_0 t8_1 t9 t10 h0).map (sm en61a_8 e61a) := by
  unfold j61a_15v1; exact go (Q (nE c61_15 (.seq (.block 1 (.seq c61_18 c61_19)) c61_20)) k61a) @j61a_20v1_t
def j61a_21v1 (h0 : List Int) : Option R61a :=
  if ((h0.length : Int) == 0) = true then
    some (-1 : Int)
  else
    (m81 h0).bind fun yr14 =>
      some yr14.1
theorem j61a_21v1_t (h0 : List Int)  (sl : Sl) (_ : sl 1 = vd (.sc (.func (.func 81) #[] #[]))) (_ : sl 5 = .v (.c (.slc 0 0 1 h0.length none))) :
    b61a mm (dn (E0 mm) 61 0 c61_21 sl [.cells (enI h0)]) = (j61a_21v1 h0).map e61a := by
  unfold j61a_21v1; exact go (Q (nE c61_21 (.seq (.seq c61_23 (.cond _ (.seq c61_26 .ret) .skip)) (.seq c61_30 .ret))) k61a) trivial
def s61a_8x1 (t8_0 : Bool) (t8_1 : List Bs) (t9 t10 : Int) (h0 : List Int) : Option (((Bool × List Bs × Int × Int) ⊕ (Bool × List Bs × Int × Int × List Int)) ⊕ R61a) :=
  if (decide (t10 < t9)) = true then
    j61a_15v1 t8_0 t8_1 t9 t10 h0
  else
    (j61a_21v1 h0).map .inr
theorem s61a_8x1_t (t8_0 : Bool) (t8_1 : List Bs) (t9 t10 : Int) (h0 : List Int) :
    stepE (K61a_8 mm) (lp (E0 mm) 61 0 c61_9 L61a_0 (none, [vd (.sc (.func (.func 81) #[] #[])), .v (.c (.slc 0 0 1 h0.length none)), vd (.lst t8_0 (enL enS t8_1)), vd (dI t9), vd (dI t10)], [.cells (enI h0)])) = (s61a_8x1 t8_0 t8_1 t9 t10 h0).map (sm en61a_8 e61a) := by
  unfold s61a_8x1; exact go k61a (Q @j61a_15v1_t @j61a_21v1_t)
def s61a_8 : ((Bool × List Bs × Int × Int) ⊕ (Bool × List Bs × Int × Int × List Int)) → Option (((Bool × List Bs × Int × Int) ⊕ (Bool × List Bs × Int × Int × List Int)) ⊕ R61a) := fun x => match x with
  | (.inl x) => s61a_8x0 x.1 x.2.1 x.2.2.1 x.2.2.2
  | (.inr x) => s61a_8x1 x.1 x.2.1 x.2.2.1 x.2.2.2.1 x.2.2.2.2
def l61a_8 (t8_0 : Bool) (t8_1 : List Bs) (t9 t10 : Int) : Option R61a := iter s61a_8 (.inl (t8_0, t8_1, t9, t10))
theorem l61a_8_t (t8_0 : Bool) (t8_1 : List Bs) (t9 t10 : Int) : b61a mm (sq (E0 mm) 61 0 c61_21 (blockD 0 (itW (lp (E0 mm) 61 0 c61_9 L61a_0) (none, [vd (.sc (.func (.func 81) #[] #[])), vd (.lst true []), vd (.lst t8_0 (enL enS t8_1)), vd (dI t9), vd (dI t10)], [])))) = (l61a_8 t8_0 t8_1 t9 t10).map e61a :=
  it_sim (K := (K61a_8 mm)) rfl (enc := en61a_8) (fun x => match x with
  | (.inl x) => s61a_8x0_t x.1 x.2.1 x.2.2.1 x.2.2.2
  | (.inr x) => s61a_8x1_t x.1 x.2.1 x.2.2.1 x.2.2.2.1 x.2.2.2.2) (.inl (t8_0, t8_1, t9, t10))
def m61a (values_0 : Bool) (values_1 : List Bs) : Option R61a :=
  l61a_8 values_0 values_1 (values_1.length : Int) (0 : Int)
theorem f61a_t (values_0 : Bool) (values_1 : List Bs) :
    callW (E0 mm) 61 [cd (.lst values_0 (enL enS values_1)), cd (.sc (.func (.func 81) #[] #[]))] [] = (m61a values_0 values_1).map e61a := by
  rw [cR c61_0 [.tmp 4] Tryz.func61]
  unfold m61a; exact go k61a @l61a_8_t
abbrev R62a := (Int × List Int)
def L62a_0 : List (Nat × Co) := [(0, .keep), (3, .keep), (4, .keep)]
def e62a (x : R62a) : AV × Heap := (vd (dI x.1), [.cells (enI x.2)])
def j62a_25 (m3 : Int) (h0 : List Int) : Option R62a :=
  some (m3, h0)
def K62a_14 (mm : Int) (r : Option (Ex × St)) : Option (AV × Heap) := bodyD (E0 mm) [.tmp 2] 1 false (sq (E0 mm) 62 1 c62_25 (blockD 0 (r)))
def en62a_14 (x : (Nat × Int × Int × List Int)) : X := (none, [.v (.c (.slc 0 0 1 x.1 none)), vd (dI x.2.1), vd (dI x.2.2.1)], [.cells (enI x.2.2.2)])
def k62a (mm : Int) := Q (rx c62_26) (Q (rx c62_17) (Q (rx c62_23) (Q @enI_length (Q @enI_load (Q (rx c62_24) (Q @K62a_14.eq_1 (Q (rx c62_1) (Q (rx c62_4) (Q @c62_6_r (Q (runOps_dead (E := (E0 mm)) (call := callW (E0 mm)) (all := opsOf c62_6) (os := opsOf c62_6) (by kernel_rfl)) (Q (rx c62_9) (Q (fun l => enI_load0 l 0) (Q (rx c62_12) (Q (fun mm => lx (E0 mm) 62 c62_14 c62_15 L62a_0) (Q (nE c62_0 (.seq c62_1 (.seq (.seq c62_4 (.cond _ c62_6 .skip)) (.seq c62_9 (.seq (.seq c62_12 (.block 0 c62_14)) c62_25))))) (Q (nE c62_15 (.seq (.seq c62_17 (.cond _ .skip (.exit 0))) (.seq (.block 1 c62_23) c62_24))) (Q @en62a_14.eq_1 (Q @L62a_0.eq_1 hA))))))))))))))))))
theorem j62a_25_t (m3 : Int) (h0 : List Int)  (sl : Sl) (_ : sl 3 = vd (dI m3)) :
    bodyD (E0 mm) [.tmp 2] 1 false (dn (E0 mm) 62 1 c62_25 sl [.cells (enI h0)]) = (j62a_25 m3 h0).map e62a := by
  unfold j62a_25; exact go (Q (nE c62_25 (.seq c62_26 .ret)) (k62a mm)) trivial
def s62a_14 (x0_1 : Nat) (m3 i4 : Int) (h0 : List Int) : Option ((Nat × Int × Int × List Int) ⊕ R62a) :=
  if (decide (i4 < (x0_1 : Int))) = true then
    if 0 ≤ i4 ∧ i4 < (x0_1 : Int) then
      if i4.toNat < h0.length then
        some (.inl (x0_1, (min2 m3 (h0.getD i4.toNat default)), (w64 (i4 + 1)), h0))
      else none
    else none
  else
    (j62a_25 m3 h0).map .inr
theorem s62a_14_t (x0_1 : Nat) (m3 i4 : Int) (h0 : List Int) :
    stepE (K62a_14 mm) (lp (E0 mm) 62 1 c62_15 L62a_0 (en62a_14 (x0_1, m3, i4, h0))) = (s62a_14 x0_1 m3 i4 h0).map (sm en62a_14 e62a) := by
  unfold s62a_14; exact go (k62a mm) @j62a_25_t
def l62a_14 (x0_1 : Nat) (m3 i4 : Int) (h0 : List Int) : Option R62a := iter (fun x : (Nat × Int × Int × List Int) => s62a_14 x.1 x.2.1 x.2.2.1 x.2.2.2) (x0_1, m3, i4, h0)
theorem l62a_14_t (x0_1 : Nat) (m3 i4 : Int) (h0 : List Int) : (K62a_14 mm) (itW (lp (E0 mm) 62 1 c62_15 L62a_0) (en62a_14 (x0_1, m3, i4, h0))) = (l62a_14 x0_1 m3 i4 h0).map e62a :=
  it_sim (K := (K62a_14 mm)) rfl (enc := en62a_14) (fun x => s62a_14_t x.1 x.2.1 x.2.2.1 x.2.2.2) (x0_1, m3, i4, h0)
def m62a (x0_1 : Nat) (h0 : List Int) : Option R62a :=
  if (decide ((x0_1 : Int) < 1)) = true then
    none
  else
    if (0 : Int) < (x0_1 : Int) then
      if 0 < h0.length then
        l62a_14 x0_1 (h0.getD 0 default) (1 : Int) h0
      else none
    else none
theorem f62a_t (x0_1 : Nat) (h0 : List Int) :
    callW (E0 mm) 62 [.c (.slc 0 0 1 x0_1 none)] [.cells (enI h0)] = (m62a x0_1 h0).map e62a := by
  rw [cR c62_0 [.tmp 2] Tryz.func62]
  unfold m62a; exact go (k62a mm) @l62a_14_t
noncomputable def c82_0 : Code := bodyOf Tryz.f82
def c82_1 := cA c82_0
def c82_4 := cA (cA (cB c82_0))
def c82_6 := cA (cB (cA (cB c82_0)))
def c82_7 := cA c82_6
def c82_8 := cA c82_7
def c82_13 := cB (cB c82_7)
def c82_16 := cA (cA (cA c82_13))
def c82_18 := cA (cB (cA (cA c82_13)))
def c82_20 := cA (cB (cB (cA (cA c82_13))))
def c82_22 := cB c82_13
def c82_23 := cB (cB c82_0)
def c82_24 := cA c82_23
def L82_0 : List (Nat × Co) := [(0, .keep), (7, .keep), (8, .keep), (9, .keep)]
abbrev b82 (mm : Int) := bodyD (E0 mm) [.tmp 3] 3 false
abbrev R82 := (Int × List Int)
def e82 (gm2 : List (Bs × List Bs)) (x : R82) : AV × Heap := (vd (dI x.1), [.cells (enI x.2), .cells [.mp 2], .amap (enM gm2)])
def j82_22 (gm2 : List (Bs × List Bs)) (numbers0_1 : Nat) (t7_0 : Bool) (t7_1 : List Bs) (t8 t9 : Int) (h0 : List Int) : Option (((Bool × List Bs × Int × Int × List Int) ⊕ (Nat × Bool × List Bs × Int × Int × List Int)) ⊕ R82) :=
  some (.inl (.inr (numbers0_1, t7_0, t7_1, t8, (w64 (t9 + 1)), h0)))
def K82_6 (mm : Int) (r : Option (Ex × St)) : Option (AV × Heap) := b82 mm (sq (E0 mm) 82 3 c82_23 (blockD 0 (r)))
def en82_6 (gm2 : List (Bs × List Bs)) : ((Bool × List Bs × Int × Int × List Int) ⊕ (Nat × Bool × List Bs × Int × Int × List Int)) → X := fun x => match x with
  | (.inl x) => (none, [.v (.c (.slc 0 0 1 x.2.2.2.2.length none)), vd (.lst x.1 (enL enS x.2.1)), vd (dI x.2.2.1), vd (dI x.2.2.2.1)], [.cells (enI x.2.2.2.2), .cells [.mp 2], .amap (enM gm2)])
  | (.inr x) => (none, [.v (.c (.slc 0 0 1 x.1 none)), vd (.lst x.2.1 (enL enS x.2.2.1)), vd (dI x.2.2.2.1), vd (dI x.2.2.2.2.1)], [.cells (enI x.2.2.2.2.2), .cells [.mp 2], .amap (enM gm2)])
def k82 := Q (rx c82_16) (Q (rx c82_18) (Q (rx c82_20) (Q @enI_length (Q @enI_wr (Q (rx c82_24) (Q @f62_t (Q @e62.eq_1 (Q (rx c82_8) (Q @K82_6.eq_1 (Q @f62a_t (Q @e62a.eq_1 (Q (rx c82_1) (Q (rx c82_4) (Q (fun mm => lx (E0 mm) 82 c82_6 c82_7 L82_0) (Q (nE c82_0 (.seq c82_1 (.seq (.seq c82_4 (.block 0 c82_6)) c82_23))) (Q (nE c82_7 (.seq c82_8 (.seq (.cond _ .skip (.exit 0)) c82_13))) (Q @L82_0.eq_1 hA)))))))))))))))))
theorem j82_22_t (gm2 : List (Bs × List Bs)) (numbers0_1 : Nat) (t7_0 : Bool) (t7_1 : List Bs) (t8 t9 : Int) (h0 : List Int)  (sl : Sl) (_ : sl 0 = .v (.c (.slc 0 0 1 numbers0_1 none))) (_ : sl 7 = vd (.lst t7_0 (enL enS t7_1))) (_ : sl 8 = vd (dI t8)) (_ : sl 9 = vd (dI t9)) :
    stepE (K82_6 mm) (loopK 3 L82_0 (dn (E0 mm) 82 3 c82_22 sl [.cells (enI h0), .cells [.mp 2], .amap (enM gm2)])) = (j82_22 gm2 numbers0_1 t7_0 t7_1 t8 t9 h0).map (sm (en82_6 gm2) (e82 gm2)) := by
  unfold j82_22; exact go (Q (rx c82_22) k82) trivial
def j82_22v1 (gm2 : List (Bs × List Bs)) (t7_0 : Bool) (t7_1 : List Bs) (t8 t9 : Int) (h0 : List Int) : Option (((Bool × List Bs × Int × Int × List Int) ⊕ (Nat × Bool × List Bs × Int × Int × List Int)) ⊕ R82) :=
  some (.inl (.inl (t7_0, t7_1, t8, (w64 (t9 + 1)), h0)))
theorem j82_22v1_t (gm2 : List (Bs × List Bs)) (t7_0 : Bool) (t7_1 : List Bs) (t8 t9 : Int) (h0 : List Int)  (sl : Sl) (_ : sl 0 = .v (.c (.slc 0 0 1 h0.length none))) (_ : sl 7 = vd (.lst t7_0 (enL enS t7_1))) (_ : sl 8 = vd (dI t8)) (_ : sl 9 = vd (dI t9)) :
    stepE (K82_6 mm) (loopK 3 L82_0 (dn (E0 mm) 82 3 c82_22 sl [.cells (enI h0), .cells [.mp 2], .amap (enM gm2)])) = (j82_22v1 gm2 t7_0 t7_1 t8 t9 h0).map (sm (en82_6 gm2) (e82 gm2)) := by
  unfold j82_22v1; exact go (Q (rx c82_22) k82) trivial
def j82_13 (gm2 : List (Bs × List Bs)) (t7_0 : Bool) (t7_1 : List Bs) (t8 t9 : Int) (h0 : List Int) : Option (((Bool × List Bs × Int × Int × List Int) ⊕ (Nat × Bool × List Bs × Int × Int × List Int)) ⊕ R82) :=
  if 0 ≤ t9 ∧ t9 < (t7_1.length : Int) then
    if ((t7_1.getD t9.toNat default) == ([] : Bs)) = true then
      if 0 ≤ t9 ∧ t9 < (h0.length : Int) then
        j82_22 gm2 h0.length t7_0 t7_1 t8 t9 (h0.set t9.toNat (2147483647 : Int))
      else none
    else
      j82_22v1 gm2 t7_0 t7_1 t8 t9 h0
  else none
theorem j82_13_t (gm2 : List (Bs × List Bs)) (t7_0 : Bool) (t7_1 : List Bs) (t8 t9 : Int) (h0 : List Int)  (sl : Sl) (_ : sl 0 = .v (.c (.slc 0 0 1 h0.length none))) (_ : sl 7 = vd (.lst t7_0 (enL enS t7_1))) (_ : sl 8 = vd (dI t8)) (_ : sl 9 = vd (dI t9)) :
    stepE (K82_6 mm) (loopK 3 L82_0 (dn (E0 mm) 82 3 c82_13 sl [.cells (enI h0), .cells [.mp 2], .amap (enM gm2)])) = (j82_13 gm2 t7_0 t7_1 t8 t9 h0).map (sm (en82_6 gm2) (e82 gm2)) := by
  unfold j82_13; exact go (Q (nE c82_13 (.seq (.block 1 (.seq c82_16 (.seq c82_18 (.cond _ c82_20 .skip)))) c82_22)) k82) (Q @j82_22_t @j82_22v1_t)
def j82_23 (gm2 : List (Bs × List Bs)) (h0 : List Int) : Option R82 :=
  (m62 h0).bind fun yr8 =>
    some (yr8.1, yr8.2)
theorem j82_23_t (gm2 : List (Bs × List Bs)) (h0 : List Int)  (sl : Sl) (_ : sl 0 = .v (.c (.slc 0 0 1 h0.length none))) :
    b82 mm (dn (E0 mm) 82 3 c82_23 sl [.cells (enI h0), .cells [.mp 2], .amap (enM gm2)]) = (j82_23 gm2 h0).map (e82 gm2) := by
  unfold j82_23; exact go (Q (nE c82_23 (.seq c82_24 .ret)) k82) trivial
def s82_6x0 (gm2 : List (Bs × List Bs)) (t7_0 : Bool) (t7_1 : List Bs) (t8 t9 : Int) (h0 : List Int) : Option (((Bool × List Bs × Int × Int × List Int) ⊕ (Nat × Bool × List Bs × Int × Int × List Int)) ⊕ R82) :=
  if (decide (t9 < t8)) = true then
    j82_13 gm2 t7_0 t7_1 t8 t9 h0
  else
    (j82_23 gm2 h0).map .inr
theorem s82_6x0_t (gm2 : List (Bs × List Bs)) (t7_0 : Bool) (t7_1 : List Bs) (t8 t9 : Int) (h0 : List Int) :
    stepE (K82_6 mm) (lp (E0 mm) 82 3 c82_7 L82_0 (none, [.v (.c (.slc 0 0 1 h0.length none)), vd (.lst t7_0 (enL enS t7_1)), vd (dI t8), vd (dI t9)], [.cells (enI h0), .cells [.mp 2], .amap (enM gm2)])) = (s82_6x0 gm2 t7_0 t7_1 t8 t9 h0).map (sm (en82_6 gm2) (e82 gm2)) := by
  unfold s82_6x0; exact go k82 (Q @j82_13_t @j82_23_t)
def j82_13v1 (gm2 : List (Bs × List Bs)) (numbers0_1 : Nat) (t7_0 : Bool) (t7_1 : List Bs) (t8 t9 : Int) (h0 : List Int) : Option (((Bool × List Bs × Int × Int × List Int) ⊕ (Nat × Bool × List Bs × Int × Int × List Int)) ⊕ R82) :=
  if 0 ≤ t9 ∧ t9 < (t7_1.length : Int) then
    if ((t7_1.getD t9.toNat default) == ([] : Bs)) = true then
      if 0 ≤ t9 ∧ t9 < (numbers0_1 : Int) then
        if t9.toNat < h0.length then
          j82_22 gm2 numbers0_1 t7_0 t7_1 t8 t9 (h0.set t9.toNat (2147483647 : Int))
        else none
      else none
    else
      j82_22 gm2 numbers0_1 t7_0 t7_1 t8 t9 h0
  else none
theorem j82_13v1_t (gm2 : List (Bs × List Bs)) (numbers0_1 : Nat) (t7_0 : Bool) (t7_1 : List Bs) (t8 t9 : Int) (h0 : List Int)  (sl : Sl) (_ : sl 0 = .v (.c (.slc 0 0 1 numbers0_1 none))) (_ : sl 7 = vd (.lst t7_0 (enL enS t7_1))) (_ : sl 8 = vd (dI t8)) (_ : sl 9 = vd (dI t9)) :
    stepE (K82_6 mm) (loopK 3 L82_0 (dn (E0 mm) 82 3 c82_13 sl [.cells (enI h0), .cells [.mp 2], .amap (enM gm2)])) = (j82_13v1 gm2 numbers0_1 t7_0 t7_1 t8 t9 h0).map (sm (en82_6 gm2) (e82 gm2)) := by
  unfold j82_13v1; exact go (Q (nE c82_13 (.seq (.block 1 (.seq c82_16 (.seq c82_18 (.cond _ c82_20 .skip)))) c82_22)) k82) @j82_22_t
def j82_23v1 (gm2 : List (Bs × List Bs)) (numbers0_1 : Nat) (h0 : List Int) : Option R82 :=
  (m62a numbers0_1 h0).bind fun yr17 =>
    some (yr17.1, yr17.2)
theorem j82_23v1_t (gm2 : List (Bs × List Bs)) (numbers0_1 : Nat) (h0 : List Int)  (sl : Sl) (_ : sl 0 = .v (.c (.slc 0 0 1 numbers0_1 none))) :
    b82 mm (dn (E0 mm) 82 3 c82_23 sl [.cells (enI h0), .cells [.mp 2], .amap (enM gm2)]) = (j82_23v1 gm2 numbers0_1 h0).map (e82 gm2) := by
  unfold j82_23v1; exact go (Q (nE c82_23 (.seq c82_24 .ret)) k82) trivial
def s82_6x1 (gm2 : List (Bs × List Bs)) (numbers0_1 : Nat) (t7_0 : Bool) (t7_1 : List Bs) (t8 t9 : Int) (h0 : List Int) : Option (((Bool × List Bs × Int × Int × List Int) ⊕ (Nat × Bool × List Bs × Int × Int × List Int)) ⊕ R82) :=
  if (decide (t9 < t8)) = true then
    j82_13v1 gm2 numbers0_1 t7_0 t7_1 t8 t9 h0
  else
    (j82_23v1 gm2 numbers0_1 h0).map .inr
theorem s82_6x1_t (gm2 : List (Bs × List Bs)) (numbers0_1 : Nat) (t7_0 : Bool) (t7_1 : List Bs) (t8 t9 : Int) (h0 : List Int) :
    stepE (K82_6 mm) (lp (E0 mm) 82 3 c82_7 L82_0 (none, [.v (.c (.slc 0 0 1 numbers0_1 none)), vd (.lst t7_0 (enL enS t7_1)), vd (dI t8), vd (dI t9)], [.cells (enI h0), .cells [.mp 2], .amap (enM gm2)])) = (s82_6x1 gm2 numbers0_1 t7_0 t7_1 t8 t9 h0).map (sm (en82_6 gm2) (e82 gm2)) := by
  unfold s82_6x1; exact go k82 (Q @j82_13v1_t @j82_23v1_t)
def s82_6 (gm2 : List (Bs × List Bs)) : ((Bool × List Bs × Int × Int × List Int) ⊕ (Nat × Bool × List Bs × Int × Int × List Int)) → Option (((Bool × List Bs × Int × Int × List Int) ⊕ (Nat × Bool × List Bs × Int × Int × List Int)) ⊕ R82) := fun x => match x with
  | (.inl x) => s82_6x0 gm2 x.1 x.2.1 x.2.2.1 x.2.2.2.1 x.2.2.2.2
  | (.inr x) => s82_6x1 gm2 x.1 x.2.1 x.2.2.1 x.2.2.2.1 x.2.2.2.2.1 x.2.2.2.2.2
def l82_6 (gm2 : List (Bs × List Bs)) (t7_0 : Bool) (t7_1 : List Bs) (t8 t9 : Int) (h0 : List Int) : Option R82 := iter (s82_6 gm2) (.inl (t7_0, t7_1, t8, t9, h0))
theorem l82_6_t (gm2 : List (Bs × List Bs)) (t7_0 : Bool) (t7_1 : List Bs) (t8 t9 : Int) (h0 : List Int) : b82 mm (sq (E0 mm) 82 3 c82_23 (blockD 0 (itW (lp (E0 mm) 82 3 c82_7 L82_0) (none, [.v (.c (.slc 0 0 1 h0.length none)), vd (.lst t7_0 (enL enS t7_1)), vd (dI t8), vd (dI t9)], [.cells (enI h0), .cells [.mp 2], .amap (enM gm2)])))) = (l82_6 gm2 t7_0 t7_1 t8 t9 h0).map (e82 gm2) :=
  it_sim (K := (K82_6 mm)) rfl (enc := (en82_6 gm2)) (fun x => match x with
  | (.inl x) => s82_6x0_t gm2 x.1 x.2.1 x.2.2.1 x.2.2.2.1 x.2.2.2.2
  | (.inr x) => s82_6x1_t gm2 x.1 x.2.1 x.2.2.1 x.2.2.2.1 x.2.2.2.2.1 x.2.2.2.2.2) (.inl (t7_0, t7_1, t8, t9, h0))
def m82 (h0 : List Int) (gm2 : List (Bs × List Bs)) : Option R82 :=
  l82_6 gm2 (!(hasM ([109, 97, 120, 45, 115, 116, 97, 108, 101] : Bs) gm2)) (valM ([109, 97, 120, 45, 115, 116, 97, 108, 101] : Bs) gm2) ((valM ([109, 97, 120, 45, 115, 116, 97, 108, 101] : Bs) gm2).length : Int) (0 : Int) h0
theorem f82_t (h0 : List Int) (gm2 : List (Bs × List Bs)) :
    callW (E0 mm) 82 [.c (.slc 0 0 1 h0.length none), .c (.ptr 1 0)] [.cells (enI h0), .cells [.mp 2], .amap (enM gm2)] = (m82 h0 gm2).map (e82 gm2) := by
  rw [cR c82_0 [.tmp 3] Tryz.func82]
  unfold m82; exact go k82 @l82_6_t
abbrev b61b (mm : Int) := bodyD (E0 mm) [.tmp 4] 2 false
abbrev R61b := (Int)
def L61b_0 : List (Nat × Co) := [(1, .keep), (5, .keep), (8, .keep), (9, .keep), (10, .keep)]
def e61b (gm1 : List (Bs × List Bs)) (x : R61b) : AV × Heap := (vd (dI x), [.cells [.mp 1], .amap (enM gm1)])
def j61b_20 (gm1 : List (Bs × List Bs)) (t8_0 : Bool) (t8_1 : List Bs) (t9 t10 : Int) (h3 : List Int) : Option (((Bool × List Bs × Int × Int) ⊕ (Bool × List Bs × Int × Int × List Int)) ⊕ R61b) :=
  some (.inl (.inr (t8_0, t8_1, t9, (w64 (t10 + 1)), h3)))
def K61b_8 (mm : Int) (r : Option (Ex × St)) : Option (AV × Heap) := b61b mm (sq (E0 mm) 61 2 c61_21 (blockD 0 (r)))
def en61b_8 (gm1 : List (Bs × List Bs)) : ((Bool × List Bs × Int × Int) ⊕ (Bool × List Bs × Int × Int × List Int)) → X := fun x => match x with
  | (.inl x) => (none, [.v (.c (.fn 82 [(0, 0)])), vd (.lst true []), vd (.lst x.1 (enL enS x.2.1)), vd (dI x.2.2.1), vd (dI x.2.2.2)], [.cells [.mp 1], .amap (enM gm1)])
  | (.inr x) => (none, [.v (.c (.fn 82 [(0, 0)])), .v (.c (.slc 2 0 1 x.2.2.2.2.length none)), vd (.lst x.1 (enL enS x.2.1)), vd (dI x.2.2.1), vd (dI x.2.2.2.1)], [.cells [.mp 1], .amap (enM gm1), .cells (enI x.2.2.2.2)])
def k61b := Q (rx c61_18) (Q (rx c61_19) (Q @f109_t (Q @e109.eq_1 (Q @enI_length (Q @enI1_src (Q (rx c61_23) (Q (rx c61_26) (Q (rx c61_10) (Q @K61b_8.eq_1 (Q (show List.range 5 = [0, 1, 2, 3, 4] from rfl) (Q (rx c61_30) (Q @ent82 (Q @prm82 (Q @f82_t (Q @e82.eq_1 (Q (rx c61_1) (Q (rx c61_3) (Q (rx c61_6) (Q (fun mm => lx (E0 mm) 61 c61_8 c61_9 L61b_0) (Q (nE c61_0 (.seq c61_1 (.seq c61_3 (.seq (.seq c61_6 (.block 0 c61_8)) c61_21)))) (Q (nE c61_9 (.seq c61_10 (.seq (.cond _ .skip (.exit 0)) c61_15))) (Q @L61b_0.eq_1 hA))))))))))))))))))))))
theorem j61b_20_t (gm1 : List (Bs × List Bs)) (t8_0 : Bool) (t8_1 : List Bs) (t9 t10 : Int) (h3 : List Int) (g2 : Ob) (sl : Sl) (_ : sl 1 = .v (.c (.fn 82 [(0, 0)]))) (_ : sl 5 = .v (.c (.slc 3 0 1 h3.length none))) (_ : sl 8 = vd (.lst t8_0 (enL enS t8_1))) (_ : sl 9 = vd (dI t9)) (_ : sl 10 = vd (dI t10)) :
    stepE (K61b_8 mm) (loopK 2 L61b_0 (dn (E0 mm) 61 2 c61_20 sl [.cells [.mp 1], .amap (enM gm1), g2, .cells (enI h3)])) = (j61b_20 gm1 t8_0 t8_1 t9 t10 h3).map (sm (en61b_8 gm1) (e61b gm1)) := by
  unfold j61b_20; exact go (Q (rx c61_20) k61b) trivial
def j61b_15 (gm1 : List (Bs × List Bs)) (t8_0 : Bool) (t8_1 : List Bs) (t9 t10 : Int) : Option (((Bool × List Bs × Int × Int) ⊕ (Bool × List Bs × Int × Int × List Int)) ⊕ R61b) :=
  if 0 ≤ t10 ∧ t10 < (t8_1.length : Int) then
    (m109 (t8_1.getD t10.toNat default)).bind fun yr5 =>
      j61b_20 gm1 t8_0 t8_1 t9 t10 ([yr5] : List Int)
  else none
theorem j61b_15_t (gm1 : List (Bs × List Bs)) (t8_0 : Bool) (t8_1 : List Bs) (t9 t10 : Int)  (sl : Sl) (_ : sl 1 = .v (.c (.fn 82 [(0, 0)]))) (_ : sl 5 = vd (.lst true [])) (_ : sl 8 = vd (.lst t8_0 (enL enS t8_1))) (_ : sl 9 = vd (dI t9)) (_ : sl 10 = vd (dI t10)) :
    stepE (K61b_8 mm) (loopK 2 L61b_0 (dn (E0 mm) 61 2 c61_15 sl [.cells [.mp 1], .amap (enM gm1)])) = (j61b_15 gm1 t8_0 t8_1 t9 t10).map (sm (en61b_8 gm1) (e61b gm1)) := by
  unfold j61b_15; exact go (Q (nE c61_15 (.seq (.block 1 (.seq c61_18 c61_19)) c61_20)) k61b) @j61b_20_t
def j61b_21 (gm1 : List (Bs × List Bs))  : Option R61b :=
  some (-1 : Int)
theorem j61b_21_t (gm1 : List (Bs × List Bs))   (sl : Sl) (_ : sl 1 = .v (.c (.fn 82 [(0, 0)]))) (_ : sl 5 = vd (.lst true [])) :
    b61b mm (dn (E0 mm) 61 2 c61_21 sl [.cells [.mp 1], .amap (enM gm1)]) = (j61b_21 gm1).map (e61b gm1) := by
  unfold j61b_21; exact go (Q (nE c61_21 (.seq (.seq c61_23 (.cond _ (.seq c61_26 .ret) .skip)) (.seq c61_30 .ret))) k61b) trivial
def s61b_8x0 (gm1 : List (Bs × List Bs)) (t8_0 : Bool) (t8_1 : List Bs) (t9 t10 : Int) : Option (((Bool × List Bs × Int × Int) ⊕ (Bool × List Bs × Int × Int × List Int)) ⊕ R61b) :=
  if (decide (t10 < t9)) = true then
    j61b_15 gm1 t8_0 t8_1 t9 t10
  else
    (j61b_21 gm1).map .inr
theorem s61b_8x0_t (gm1 : List (Bs × List Bs)) (t8_0 : Bool) (t8_1 : List Bs) (t9 t10 : Int) :
    stepE (K61b_8 mm) (lp (E0 mm) 61 2 c61_9 L61b_0 (none, [.v (.c (.fn 82 [(0, 0)])), vd (.lst true []), vd (.lst t8_0 (enL enS t8_1)), vd (dI t9), vd (dI t10)], [.cells [.mp 1], .amap (enM gm1)])) = (s61b_8x0 gm1 t8_0 t8_1 t9 t10).map (sm (en61b_8 gm1) (e61b gm1)) := by
  unfold s61b_8x0; exact go k61b (Q @j61b_15_t @j61b_21_t)
def j61b_20v1 (gm1 : List (Bs × List Bs)) (t8_0 : Bool) (t8_1 : List Bs) (t9 t10 : Int) (h4 : List Int) : Option (((Bool × List Bs × Int × Int) ⊕ (Bool × List Bs × Int × Int × List Int)) ⊕ R61b) :=
  some (.inl (.inr (t8_0, t8_1, t9, (w64 (t10 + 1)), h4)))
theorem j61b_20v1_t (gm1 : List (Bs × List Bs)) (t8_0 : Bool) (t8_1 : List Bs) (t9 t10 : Int) (h4 : List Int) (g2 g3 : Ob) (sl : Sl) (_ : sl 1 = .v (.c (.fn 82 [(0, 0)]))) (_ : sl 5 = .v (.c (.slc 4 0 1 h4.length none))) (_ : sl 8 = vd (.lst t8_0 (enL enS t8_1))) (_ : sl 9 = vd (dI t9)) (_ : sl 10 = vd (dI t10)) :
    stepE (K61b_8 mm) (loopK 2 L61b_0 (dn (E0 mm) 61 2 c61_20 sl [.cells [.mp 1], .amap (enM gm1), g2, g3, .cells (enI h4)])) = (j61b_20v1 gm1 t8_0 t8_1 t9 t10 h4).map (sm (en61b_8 gm1) (e61b gm1)) := by
  unfold j61b_20v1; exact go (Q (rx c61_20) k61b) trivial
def j61b_15v1 (gm1 : List (Bs × List Bs)) (t8_0 : Bool) (t8_1 : List Bs) (t9 t10 : Int) (h2 : List Int) : Option (((Bool × List Bs × Int × Int) ⊕ (Bool × List Bs × Int × Int × List Int)) ⊕ R61b) :=
  if 0 ≤ t10 ∧ t10 < (t8_1.length : Int) then
    (m109 (t8_1.getD t10.toNat default)).bind fun yr10 =>
      if (h2.length + 1) * 8 ≤ 140737488355328 then
        j61b_20v1 gm1 t8_0 t8_1 t9 t10 (h2 ++ ([yr10] : List Int))
      else none
  else none
theorem j61b_15v1_t (gm1 : List (Bs × List Bs)) (t8_0 : Bool) (t8_1 : List Bs) (t9 t10 : Int) (h2 : List Int)  (sl : Sl) (_ : sl 1 = .v (.c (.fn 82 [(0, 0)]))) (_ : sl 5 = .v (.c (.slc 2 0 1 h2.length none))) (_ : sl 8 = vd (.lst t8_0 (enL enS t8_1))) (_ : sl 9 = vd (dI t9)) (_ : sl 10 = vd (dI t10)) :
    stepE (K61b_8 mm) (loopK 2 L61b_0 (dn (E0 mm) 61 2 c61_15 sl [.cells [.mp 1], .amap (enM gm1), .cells (enI h2)])) = (j61b_15v1 gm1 t8_0 t8_1 t9 t10 h2).map (sm (en61b_8 gm1) (e61b gm1)) := by
  unfold j61b_15v1; exact go (Q (nE c61_15 (.seq (.block 1 (.seq c61_18 c61_19)) c61_20)) k61b) @j61b_20v1_t
def j61b_21v1 (gm1 : List (Bs × List Bs)) (h2 : List Int) : Option R61b :=
  if ((h2.length : Int) == 0) = true then
    some (-1 : Int)
  else
    (m82 h2 gm1).bind fun yr14 =>
      some yr14.1
theorem j61b_21v1_t (gm1 : List (Bs × List Bs)) (h2 : List Int)  (sl : Sl) (_ : sl 1 = .v (.c (.fn 82 [(0, 0)]))) (_ : sl 5 = .v (.c (.slc 2 0 1 h2.length none))) :
    b61b mm (dn (E0 mm) 61 2 c61_21 sl [.cells [.mp 1], .amap (enM gm1), .cells (enI h2)]) = (j61b_21v1 gm1 h2).map (e61b gm1) := by
  unfold j61b_21v1; exact go (Q (nE c61_21 (.seq (.seq c61_23 (.cond _ (.seq c61_26 .ret) .skip)) (.seq c61_30 .ret))) k61b) trivial
def s61b_8x1 (gm1 : List (Bs × List Bs)) (t8_0 : Bool) (t8_1 : List Bs) (t9 t10 : Int) (h2 : List Int) : Option (((Bool × List Bs × Int × Int) ⊕ (Bool × List Bs × Int × Int × List Int)) ⊕ R61b) :=
  if (decide (t10 < t9)) = true then
    j61b_15v1 gm1 t8_0 t8_1 t9 t10 h2
  else
    (j61b_21v1 gm1 h2).map .inr
theorem s61b_8x1_t (gm1 : List (Bs × List Bs)) (t8_0 : Bool) (t8_1 : List Bs) (t9 t10 : Int) (h2 : List Int) :
    stepE (K61b_8 mm) (lp (E0 mm) 61 2 c61_9 L61b_0 (none, [.v (.c (.fn 82 [(0, 0)])), .v (.c (.slc 2 0 1 h2.length none)), vd (.lst t8_0 (enL enS t8_1)), vd (dI t9), vd (dI t10)], [.cells [.mp 1], .amap (enM gm1), .cells (enI h2)])) = (s61b_8x1 gm1 t8_0 t8_1 t9 t10 h2).map (sm (en61b_8 gm1) (e61b gm1)) := by
  unfold s61b_8x1; exact go k61b (Q @j61b_15v1_t @j61b_21v1_t)
def s61b_8 (gm1 : List (Bs × List Bs)) : ((Bool × List Bs × Int × Int) ⊕ (Bool × List Bs × Int × Int × List Int)) → Option (((Bool × List Bs × Int × Int) ⊕ (Bool × List Bs × Int × Int × List Int)) ⊕ R61b) := fun x => match x with
  | (.inl x) => s61b_8x0 gm1 x.1 x.2.1 x.2.2.1 x.2.2.2
  | (.inr x) => s61b_8x1 gm1 x.1 x.2.1 x.2.2.1 x.2.2.2.1 x.2.2.2.2
def l61b_8 (gm1 : List (Bs × List Bs)) (t8_0 : Bool) (t8_1 : List Bs) (t9 t10 : Int) : Option R61b := iter (s61b_8 gm1) (.inl (t8_0, t8_1, t9, t10))
theorem l61b_8_t (gm1 : List (Bs × List Bs)) (t8_0 : Bool) (t8_1 : List Bs) (t9 t10 : Int) : b61b mm (sq (E0 mm) 61 2 c61_21 (blockD 0 (itW (lp (E0 mm) 61 2 c61_9 L61b_0) (none, [.v (.c (.fn 82 [(0, 0)])), vd (.lst true []), vd (.lst t8_0 (enL enS t8_1)), vd (dI t9), vd (dI t10)], [.cells [.mp 1], .amap (enM gm1)])))) = (l61b_8 gm1 t8_0 t8_1 t9 t10).map (e61b gm1) :=
  it_sim (K := (K61b_8 mm)) rfl (enc := (en61b_8 gm1)) (fun x => match x with
  | (.inl x) => s61b_8x0_t gm1 x.1 x.2.1 x.2.2.1 x.2.2.2
  | (.inr x) => s61b_8x1_t gm1 x.1 x.2.1 x.2.2.1 x.2.2.2.1 x.2.2.2.2) (.inl (t8_0, t8_1, t9, t10))
def m61b (values_0 : Bool) (values_1 : List Bs) (gm1 : List (Bs × List Bs)) : Option R61b :=
  l61b_8 gm1 values_0 values_1 (values_1.length : Int) (0 : Int)
theorem f61b_t (values_0 : Bool) (values_1 : List Bs) (gm1 : List (Bs × List Bs)) :
    callW (E0 mm) 61 [cd (.lst values_0 (enL enS values_1)), .c (.fn 82 [(0, 0)])] [.cells [.mp 1], .amap (enM gm1)] = (m61b values_0 values_1 gm1).map (e61b gm1) := by
  rw [cR c61_0 [.tmp 4] Tryz.func61]
  unfold m61b; exact go k61b @l61b_8_t
noncomputable def c83_0 : Code := bodyOf Tryz.f83
def c83_1 := cA c83_0
def c83_3 := cA (cB c83_0)
abbrev R83 := (Bool)
def e83 (x : R83) : AV × Heap := (vd (dB x), [])
def m83 (x0 : Bs) : Option R83 :=
  (m73 x0 ([110, 111, 45, 99, 97, 99, 104, 101] : Bs)).bind fun yr2 =>
    some yr2
def k83 := Q (rx c83_1) (Q (rx c83_3) (Q (fun (mm : Int) (x0 : Bs) => (show callW (E0 mm) 73 [cd (dS x0), cd (dS ([110, 111, 45, 99, 97, 99, 104, 101] : Bs))] [] = _ from f73_t x0 ([110, 111, 45, 99, 97, 99, 104, 101] : Bs))) (Q @f73_t (Q @e73.eq_1 (Q (nE c83_0 (.seq c83_1 (.seq c83_3 .ret))) hA)))))
theorem f83_t (x0 : Bs) :
    callW (E0 mm) 83 [cd (dS x0)] [] = (m83 x0).map e83 := by
  rw [cR c83_0 [.tmp 2] Tryz.func83]
  unfold m83; exact go k83 trivial
abbrev R123b := (Int)
def L123b_0 : List (Nat × Co) := [(0, .keep), (1, .keep), (7, .keep), (8, .keep)]
def e123b (x : R123b) : AV × Heap := (vd (dI x), [])
def j123b_25  : Option R123b :=
  some (-1 : Int)
def K123b_6 (mm : Int) (r : Option (Ex × St)) : Option (AV × Heap) := bodyD (E0 mm) [.tmp 4] 0 false (sq (E0 mm) 123 0 c123_25 (blockD 0 (r)))
def en123b_6 (x : (Bool × List Bs × Int × Int)) : X := (none, [vd (.lst x.1 (enL enS x.2.1)), vd (.sc (.func (.func 83) #[] #[])), vd (dI x.2.2.1), vd (dI x.2.2.2)], [])
def k123b := Q (rx c123_26) (Q (rx c123_8) (Q (rx c123_16) (Q (rx c123_18) (Q @ent83 (Q @prm83 (Q @f83_t (Q @e83.eq_1 (Q (rx c123_21) (Q @K123b_6.eq_1 (Q (rx c123_24) (Q (rx c123_1) (Q (rx c123_4) (Q (fun mm => lx (E0 mm) 123 c123_6 c123_7 L123b_0) (Q (nE c123_0 (.seq c123_1 (.seq (.seq c123_4 (.block 0 c123_6)) c123_25))) (Q (nE c123_7 (.seq c123_8 (.seq (.cond _ .skip (.exit 0)) (.seq (.block 1 (.seq c123_16 (.seq c123_18 (.cond _ (.seq c123_21 .ret) .skip)))) c123_24)))) (Q @en123b_6.eq_1 (Q @L123b_0.eq_1 hA)))))))))))))))))
theorem j123b_25_t (sl : Sl)  :
    bodyD (E0 mm) [.tmp 4] 0 false (dn (E0 mm) 123 0 c123_25 sl []) = (j123b_25).map e123b := by
  unfold j123b_25; exact go (Q (nE c123_25 (.seq c123_26 .ret)) k123b) trivial
def s123b_6 (s0_0 : Bool) (s0_1 : List Bs) (t7 t8 : Int) : Option ((Bool × List Bs × Int × Int) ⊕ R123b) :=
  if (decide (t8 < t7)) = true then
    if 0 ≤ t8 ∧ t8 < (s0_1.length : Int) then
      (m83 (s0_1.getD t8.toNat default)).bind fun yr5 =>
        if yr5 = true then
          some (.inr t8)
        else
          some (.inl (s0_0, s0_1, t7, (w64 (t8 + 1))))
    else none
  else
    (j123b_25).map .inr
theorem s123b_6_t (s0_0 : Bool) (s0_1 : List Bs) (t7 t8 : Int) :
    stepE (K123b_6 mm) (lp (E0 mm) 123 0 c123_7 L123b_0 (en123b_6 (s0_0, s0_1, t7, t8))) = (s123b_6 s0_0 s0_1 t7 t8).map (sm en123b_6 e123b) := by
  unfold s123b_6; exact go k123b @j123b_25_t
def l123b_6 (s0_0 : Bool) (s0_1 : List Bs) (t7 t8 : Int) : Option R123b := iter (fun x : (Bool × List Bs × Int × Int) => s123b_6 x.1 x.2.1 x.2.2.1 x.2.2.2) (s0_0, s0_1, t7, t8)
theorem l123b_6_t (s0_0 : Bool) (s0_1 : List Bs) (t7 t8 : Int) : (K123b_6 mm) (itW (lp (E0 mm) 123 0 c123_7 L123b_0) (en123b_6 (s0_0, s0_1, t7, t8))) = (l123b_6 s0_0 s0_1 t7 t8).map e123b :=
  it_sim (K := (K123b_6 mm)) rfl (enc := en123b_6) (fun x => s123b_6_t x.1 x.2.1 x.2.2.1 x.2.2.2) (s0_0, s0_1, t7, t8)
def m123b (s_0 : Bool) (s_1 : List Bs) : Option R123b :=
  l123b_6 s_0 s_1 (s_1.length : Int) (0 : Int)
theorem f123b_t (s_0 : Bool) (s_1 : List Bs) :
    callW (E0 mm) 123 [cd (.lst s_0 (enL enS s_1)), cd (.sc (.func (.func 83) #[] #[]))] [] = (m123b s_0 s_1).map e123b := by
  rw [cR c123_0 [.tmp 4] Tryz.func123]
  unfold m123b; exact go k123b @l123b_6_t
abbrev R79b := (Bool)
def e79b (x : R79b) : AV × Heap := (vd (dB x), [])
def m79b (s_0 : Bool) (s_1 : List Bs) : Option R79b :=
  (m123b s_0 s_1).bind fun yr2 =>
    some (decide (0 ≤ yr2))
def k79b := Q (rx c79_1) (Q (rx c79_3) (Q @f123b_t (Q @e123b.eq_1 (Q (nE c79_0 (.seq c79_1 (.seq c79_3 .ret))) hA))))
theorem f79b_t (s_0 : Bool) (s_1 : List Bs) :
    callW (E0 mm) 79 [cd (.lst s_0 (enL enS s_1)), cd (.sc (.func (.func 83) #[] #[]))] [] = (m79b s_0 s_1).map e79b := by
  rw [cR c79_0 [.tmp 4] Tryz.func79]
  unfold m79b; exact go k79b trivial
noncomputable def c41_0 : Code := bodyOf Tryz.f41
def c41_1 := cA c41_0
def c41_3 := cA (cB c41_0)
def c41_5 := cA (cB (cB c41_0))
def c41_7 := cA (cB (cB (cB c41_0)))
def c41_9 := cA (cB (cB (cB (cB c41_0))))
def c41_12 := cA (cA (cB (cB (cB (cB (cB c41_0))))))
def c41_14 := cA (cB (cA (cB (cB (cB (cB (cB c41_0)))))))
def c41_16 := cB (cB (cB (cB (cB (cB c41_0)))))
def c41_17 := cA c41_16
theorem c41_5_r (m : Nat) (st : St) : den (E0 mm) 41 m (callW (E0 mm)) itW c41_5 none st = regD ((runF (E0 mm) (callW (E0 mm)) (opsOf c41_5) (opsOf c41_5) [some true, none, some false, some true, none, some false, some true, none, none, none, some false, none] st []).bind (ckF [(0, 10), (3, 2), (3, 10), (6, 2), (6, 5), (6, 10)])) := den_dF (by kernel_rfl)
theorem c41_7_r (m : Nat) (st : St) : den (E0 mm) 41 m (callW (E0 mm)) itW c41_7 none st = regD ((runF (E0 mm) (callW (E0 mm)) (opsOf c41_7) (opsOf c41_7) [none, none, some false, some true, some true, none, none, none, none, none] st []).bind (ckF [(3, 2), (4, 2)])) := den_dF (by kernel_rfl)
abbrev R41 := (Bool × Bool × Bool × Bool × Bool × Bool × Int × Int × Int × Int)
def e41 (x : R41) : AV × Heap := (.v (.agg [.d (dB x.1), .d (dB x.2.1), .d (dB x.2.2.1), .d (dB x.2.2.2.1), .d (dB x.2.2.2.2.1), .d (dB x.2.2.2.2.2.1), .d (dI x.2.2.2.2.2.2.1), .d (dI x.2.2.2.2.2.2.2.1), .d (dI x.2.2.2.2.2.2.2.2.1), .d (dI x.2.2.2.2.2.2.2.2.2)]), [])
def j41_16 (h0_0 h0_1 : Bool) (h0_2 h0_3 : Bool) (h0_4 h0_5 : Bool) (h0_6 h0_7 : Int) (h0_8 h0_9 : Int) (h3_0 h3_1 : Bool) (h3_2 h3_3 : Bool) (h3_4 h3_5 : Bool) (h3_6 h3_7 : Int) (h3_8 h3_9 : Int) : Option R41 :=
  some (h3_0, h3_1, h3_2, h3_3, h3_4, h3_5, h3_6, h3_7, h3_8, h3_9)
def k41 := Q (rx c41_17) (Q (show List.range 6 = [0, 1, 2, 3, 4, 5] from rfl) (Q (show List.range 5 = [0, 1, 2, 3, 4] from rfl) (Q (rx c41_1) (Q @ao37 (Q (rx c41_3) (Q @f59_t (Q @e59.eq_1 (Q @zc73 (Q @ao54 (Q @c41_5_r (Q (show opsOf c41_5 = _ :: _ from rfl) (Q @hd55 (Q @nv56 (Q @rw57 (Q (fun (mm : Int) (yr2 : R59) => (show callW (E0 mm) 60 [.c (.mp 0), cd (.lst false (enL enS ([([110, 111, 45, 115, 116, 111, 114, 101] : Bs)] : List Bs)))] [.amap (enM yr2)] = _ from f60_t false ([([110, 111, 45, 115, 116, 111, 114, 101] : Bs)] : List Bs) yr2)) (Q @f60_t (Q setF (Q @e60.eq_1 (Q (fun (mm : Int) (yr2 : R59) => (show callW (E0 mm) 60 [.c (.mp 0), cd (.lst false (enL enS ([([110, 111, 45, 99, 97, 99, 104, 101] : Bs)] : List Bs)))] [.amap (enM yr2)] = _ from f60_t false ([([110, 111, 45, 99, 97, 99, 104, 101] : Bs)] : List Bs) yr2)) (Q (fun (mm : Int) (yr2 : R59) => (show callW (E0 mm) 60 [.c (.mp 0), cd (.lst false (enL enS ([([111, 110, 108, 121, 45, 105, 102, 45, 99, 97, 99, 104, 101, 100] : Bs)] : List Bs)))] [.amap (enM yr2)] = _ from f60_t false ([([111, 110, 108, 121, 45, 105, 102, 45, 99, 97, 99, 104, 101, 100] : Bs)] : List Bs) yr2)) (Q @ao58 (Q @c41_7_r (Q (show opsOf c41_7 = _ :: _ from rfl) (Q @f61_t (Q @e61.eq_1 (Q @f61a_t (Q @e61a.eq_1 (Q (rx c41_9) (Q @f61b_t (Q @e61b.eq_1 (Q (rx c41_12) (Q (fun (mm : Int) (l_0 : Bool) (l_1 : List (Bs × Bs)) => (show callW (E0 mm) 29 [cd (.lst l_0 (enL enSS l_1)), cd (dS ([99, 97, 99, 104, 101, 45, 99, 111, 110, 116, 114, 111, 108] : Bs))] [] = _ from f29_t l_0 l_1 ([99, 97, 99, 104, 101, 45, 99, 111, 110, 116, 114, 111, 108] : Bs))) (Q @f29_t (Q @e29.eq_1 (Q (rx c41_14) (Q (fun (mm : Int) (l_0 : Bool) (l_1 : List (Bs × Bs)) => (show callW (E0 mm) 26 [cd (.lst l_0 (enL enSS l_1)), cd (dS ([112, 114, 97, 103, 109, 97] : Bs))] [] = _ from f26_t l_0 l_1 ([112, 114, 97, 103, 109, 97] : Bs))) (Q @f26_t (Q @e26.eq_1 (Q @f79b_t (Q @e79b.eq_1 (Q (nE c41_0 (.seq c41_1 (.seq c41_3 (.seq c41_5 (.seq c41_7 (.seq c41_9 (.seq (.seq c41_12 (.cond _ c41_14 .skip)) c41_16))))))) hA)))))))))))))))))))))))))))))))))))))))))
theorem j41_16_t (h0_0 h0_1 : Bool) (h0_2 h0_3 : Bool) (h0_4 h0_5 : Bool) (h0_6 h0_7 : Int) (h0_8 h0_9 : Int) (h3_0 h3_1 : Bool) (h3_2 h3_3 : Bool) (h3_4 h3_5 : Bool) (h3_6 h3_7 : Int) (h3_8 h3_9 : Int) (g1 g2 : Ob) (g4 g5 : Ob) (sl : Sl) (_ : sl 2 = .v (.c (.ptr 0 0))) (_ : sl 4 = .v (.c (.ptr 3 0))) :
    bodyD (E0 mm) [.cell 2 37] 0 false (dn (E0 mm) 41 0 c41_16 sl [.cells [.d (dB h0_0), .d (dB h0_1), .d (dB h0_2), .d (dB h0_3), .d (dB h0_4), .d (dB h0_5), .d (dI h0_6), .d (dI h0_7), .d (dI h0_8), .d (dI h0_9)], g1, g2, .cells [.d (dB h3_0), .d (dB h3_1), .d (dB h3_2), .d (dB h3_3), .d (dB h3_4), .d (dB h3_5), .d (dI h3_6), .d (dI h3_7), .d (dI h3_8), .d (dI h3_9)], g4, g5]) = (j41_16 h0_0 h0_1 h0_2 h0_3 h0_4 h0_5 h0_6 h0_7 h0_8 h0_9 h3_0 h3_1 h3_2 h3_3 h3_4 h3_5 h3_6 h3_7 h3_8 h3_9).map e41 := by
  unfold j41_16; exact go (Q (nE c41_16 (.seq c41_17 .ret)) k41) trivial
def j41_16v1 (h0_0 h0_1 : Bool) (h0_2 h0_3 : Bool) (h0_4 h0_5 : Bool) (h0_6 h0_7 : Int) (h0_8 h0_9 : Int) (h3_0 h3_1 : Bool) (h3_2 h3_3 : Bool) (h3_4 h3_5 : Bool) (h3_6 h3_7 : Int) (h3_8 h3_9 : Int) : Option R41 :=
  some (h3_0, h3_1, h3_2, h3_3, h3_4, h3_5, h3_6, h3_7, h3_8, h3_9)
theorem j41_16v1_t (h0_0 h0_1 : Bool) (h0_2 h0_3 : Bool) (h0_4 h0_5 : Bool) (h0_6 h0_7 : Int) (h0_8 h0_9 : Int) (h3_0 h3_1 : Bool) (h3_2 h3_3 : Bool) (h3_4 h3_5 : Bool) (h3_6 h3_7 : Int) (h3_8 h3_9 : Int) (g1 g2 g4 : Ob) (sl : Sl) (_ : sl 2 = .v (.c (.ptr 0 0))) (_ : sl 4 = .v (.c (.ptr 3 0))) :
    bodyD (E0 mm) [.cell 2 37] 0 false (dn (E0 mm) 41 0 c41_16 sl [.cells [.d (dB h0_0), .d (dB h0_1), .d (dB h0_2), .d (dB h0_3), .d (dB h0_4), .d (dB h0_5), .d (dI h0_6), .d (dI h0_7), .d (dI h0_8), .d (dI h0_9)], g1, g2, .cells [.d (dB h3_0), .d (dB h3_1), .d (dB h3_2), .d (dB h3_3), .d (dB h3_4), .d (dB h3_5), .d (dI h3_6), .d (dI h3_7), .d (dI h3_8), .d (dI h3_9)], g4]) = (j41_16v1 h0_0 h0_1 h0_2 h0_3 h0_4 h0_5 h0_6 h0_7 h0_8 h0_9 h3_0 h3_1 h3_2 h3_3 h3_4 h3_5 h3_6 h3_7 h3_8 h3_9).map e41 := by
  unfold j41_16v1; exact go (Q (nE c41_16 (.seq c41_17 .ret)) k41) trivial
def m41 (l_0 : Bool) (l_1 : List (Bs × Bs)) : Option R41 :=
  (m59 l_0 l_1).bind fun yr2 =>
    (m60 false ([([110, 111, 45, 115, 116, 111, 114, 101] : Bs)] : List Bs) yr2).bind fun yr4 =>
      (m60 false ([([110, 111, 45, 99, 97, 99, 104, 101] : Bs)] : List Bs) yr2).bind fun yr6 =>
        (m60 false ([([111, 110, 108, 121, 45, 105, 102, 45, 99, 97, 99, 104, 101, 100] : Bs)] : List Bs) yr2).bind fun yr8 =>
          (m61 (!(hasM ([109, 97, 120, 45, 97, 103, 101] : Bs) yr2)) (valM ([109, 97, 120, 45, 97, 103, 101] : Bs) yr2)).bind fun yr10 =>
            (m61a (!(hasM ([109, 105, 110, 45, 102, 114, 101, 115, 104] : Bs) yr2)) (valM ([109, 105, 110, 45, 102, 114, 101, 115, 104] : Bs) yr2)).bind fun yr12 =>
              (m61b (!(hasM ([109, 97, 120, 45, 115, 116, 97, 108, 101] : Bs) yr2)) (valM ([109, 97, 120, 45, 115, 116, 97, 108, 101] : Bs) yr2) yr2).bind fun yr14 =>
                (m29 l_0 l_1 ([99, 97, 99, 104, 101, 45, 99, 111, 110, 116, 114, 111, 108] : Bs)).bind fun yr16 =>
                  if ((yr16.2.length : Int) == 0) = true then
                    (m26 l_0 l_1 ([112, 114, 97, 103, 109, 97] : Bs)).bind fun yr19 =>
                      (m79b yr19.1 yr19.2).bind fun yr21 =>
                        j41_16 false false false false false false (0 : Int) (0 : Int) (0 : Int) (0 : Int) yr4 yr21 false false false yr8 yr10 (-1 : Int) yr12 yr14
                  else
                    j41_16v1 false false false false false false (0 : Int) (0 : Int) (0 : Int) (0 : Int) yr4 yr6 false false false yr8 yr10 (-1 : Int) yr12 yr14
theorem f41_t (l_0 : Bool) (l_1 : List (Bs × Bs)) :
    callW (E0 mm) 41 [cd (.lst l_0 (enL enSS l_1))] [] = (m41 l_0 l_1).map e41 := by
  rw [cR c41_0 [.cell 2 37] Tryz.func41]
  unfold m41; exact go k41 (Q @j41_16_t @j41_16v1_t)
noncomputable def c21_0 : Code := bodyOf Tryz.f21
def c21_1 := cA c21_0
def c21_3 := cA (cB c21_0)
abbrev R21 := (Bool)
def e21 (x : R21) : AV × Heap := (vd (dB x), [])
def m21 (r0_0 r0_1 : Bs) (r0_2 : Int) (r0_3 : Bool) (r0_4 : List (Bs × Bs)) (r0_5 : Bool) (r0_6 : List UInt8) : Option R21 :=
  if (r0_0 == ([71, 69, 84] : Bs)) = true then
    if ((r0_6.length : Int) == 0) = true then
      (m30 r0_3 r0_4).bind fun yr4 =>
        if yr4 = true then
          (m58 r0_3 r0_4 false ([([97, 117, 116, 104, 111, 114, 105, 122, 97, 116, 105, 111, 110] : Bs)] : List Bs)).bind fun yr7 =>
            if yr7 = true then
              some false
            else
              (m41 r0_3 r0_4).bind fun yr10 =>
                some (!yr10.1)
        else
          some false
    else
      some false
  else
    if (r0_0 == ([72, 69, 65, 68] : Bs)) = true then
      if ((r0_6.length : Int) == 0) = true then
        (m30 r0_3 r0_4).bind fun yr14 =>
          if yr14 = true then
            (m58 r0_3 r0_4 false ([([97, 117, 116, 104, 111, 114, 105, 122, 97, 116, 105, 111, 110] : Bs)] : List Bs)).bind fun yr17 =>
              if yr17 = true then
                some false
              else
                (m41 r0_3 r0_4).bind fun yr20 =>
                  some (!yr20.1)
          else
            some false
      else
        some false
    else
      some false
def k21 := Q (rx c21_1) (Q (rx c21_3) (Q @ag23 (Q @f30_t (Q @e30.eq_1 (Q @hd34 (Q @nv35 (Q @rw36 (Q (fun (mm : Int) (r0_3 : Bool) (r0_4 : List (Bs × Bs)) => (show callW (E0 mm) 58 [cd (.lst r0_3 (enL enSS r0_4)), cd (.lst false (enL enS ([([97, 117, 116, 104, 111, 114, 105, 122, 97, 116, 105, 111, 110] : Bs)] : List Bs)))] [] = _ from f58_t r0_3 r0_4 false ([([97, 117, 116, 104, 111, 114, 105, 122, 97, 116, 105, 111, 110] : Bs)] : List Bs))) (Q @f58_t (Q @e58.eq_1 (Q @f41_t (Q @e41.eq_1 (Q (nE c21_0 (.seq c21_1 (.seq c21_3 .ret))) hA)))))))))))))
theorem f21_t (r0_0 r0_1 : Bs) (r0_2 : Int) (r0_3 : Bool) (r0_4 : List (Bs × Bs)) (r0_5 : Bool) (r0_6 : List UInt8) :
    callW (E0 mm) 21 [.agg [.d (dS r0_0), .d (dS r0_1), .d (dI r0_2), .d (.lst r0_3 (enL enSS r0_4)), .d (.lst r0_5 (enL enB r0_6))]] [] = (m21 r0_0 r0_1 r0_2 r0_3 r0_4 r0_5 r0_6).map e21 := by
  rw [cR c21_0 [.tmp 2] Tryz.func21]
  unfold m21; exact go k21 trivial
end
end Go.Proofs.YtbkobjepahlegaaGreatDoor
