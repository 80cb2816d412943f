/- The Go functions as plain functions, and that the evaluator computes them. -/
import Derived.Test.YtbkobjepahlegaaGreatDoorFKeeps2
set_option linter.all false
set_option maxRecDepth 100000
namespace Go.Proofs.YtbkobjepahlegaaGreatDoor
open Go Go.Ab
open Nat renaming reduceEqDiff → za, reduceAdd → zb, reduceLeDiff → zc, reduceLT → zd, reduceMul → ze, reduceBEq → zf, reduceSub → zg, reducePow → zh
open Int renaming reduceEq → zi, reduceLE → zj, reduceLT → zk, reduceToNat → zl, reduceNegSucc → zm, reduceAdd → zn, reduceBEq → zo
open String renaming reduceBEq → zp
set_option maxHeartbeats 4000000
noncomputable section
variable {mm : Int}
noncomputable def c22_0 : Code := bodyOf Tryz.f22
def c22_1 := cA c22_0
def c22_3 := cA (cB c22_0)
def c22_5 := cA (cB (cB c22_0))
abbrev R22 := (Bool)
def e22 (x : R22) : AV × Heap := (vd (dB x), [])
def m22 (r0_0 r0_1 : Bs) (r0_2 : Int) (r0_3 : Bool) (r0_4 : List (Bs × Bs)) (r0_5 : Bool) (r0_6 : List UInt8) : Option R22 :=
  (m41 r0_3 r0_4).bind fun yr2 =>
    (m21 r0_0 r0_1 r0_2 r0_3 r0_4 r0_5 r0_6).bind fun yr4 =>
      if yr4 = true then
        if (r0_0 == ([71, 69, 84] : Bs)) = true then
          if yr2.2.1 = true then
            some false
          else
            some (!yr2.2.2.2.2.2.1)
        else
          some false
      else
        some false
def k22 := Q (rx c22_1) (Q (rx c22_3) (Q @f41_t (Q @e41.eq_1 (Q @ao71 (Q (rx c22_5) (Q @f21_t (Q @e21.eq_1 (Q (nE c22_0 (.seq c22_1 (.seq c22_3 (.seq c22_5 .ret)))) hA))))))))
theorem f22_t (r0_0 r0_1 : Bs) (r0_2 : Int) (r0_3 : Bool) (r0_4 : List (Bs × Bs)) (r0_5 : Bool) (r0_6 : List UInt8) :
    callW (E0 mm) 22 [.agg [.d (dS r0_0), .d (dS r0_1), .d (dI r0_2), .d (.lst r0_3 (enL enSS r0_4)), .d (.lst r0_5 (enL enB r0_6))]] [] = (m22 r0_0 r0_1 r0_2 r0_3 r0_4 r0_5 r0_6).map e22 := by
  rw [cR c22_0 [.tmp 2] Tryz.func22]
  unfold m22; exact go k22 trivial
noncomputable def c23_0 : Code := bodyOf Tryz.f23
def c23_1 := cA c23_0
def c23_3 := cA (cB c23_0)
def c23_5 := cA (cB (cB c23_0))
theorem c23_5_r (m : Nat) (st : St) : den (E0 mm) 23 m (callW (E0 mm)) itW c23_5 none st = regD ((runF (E0 mm) (callW (E0 mm)) (opsOf c23_5) (opsOf c23_5) [none, none, some false, none, none, some false, none, none, some false, none, none, some false, none, none, some false, none, some true, some false, none, some true, none, none, none] st []).bind (ckF [(16, 2), (16, 5), (16, 8), (16, 11), (16, 14), (19, 2), (19, 5), (19, 8), (19, 11), (19, 14), (19, 17)])) := den_dF (by kernel_rfl)
abbrev R23 := (Bool × Bool × Bool × Bool × Bool × Bool × Int × Int × Int × Int)
def e23 (x : R23) : AV × Heap := (.v (.agg [.d (dB x.1), .d (dB x.2.1), .d (dB x.2.2.1), .d (dB x.2.2.2.1), .d (dB x.2.2.2.2.1), .d (dB x.2.2.2.2.2.1), .d (dI x.2.2.2.2.2.2.1), .d (dI x.2.2.2.2.2.2.2.1), .d (dI x.2.2.2.2.2.2.2.2.1), .d (dI x.2.2.2.2.2.2.2.2.2)]), [])
def m23 (l_0 : Bool) (l_1 : List (Bs × Bs)) : Option R23 :=
  (m59 l_0 l_1).bind fun yr2 =>
    (m60 false ([([110, 111, 45, 115, 116, 111, 114, 101] : Bs)] : List Bs) yr2).bind fun yr4 =>
      (m60 false ([([110, 111, 45, 99, 97, 99, 104, 101] : Bs)] : List Bs) yr2).bind fun yr6 =>
        (m60 false ([([112, 114, 105, 118, 97, 116, 101] : Bs)] : List Bs) yr2).bind fun yr8 =>
          (m60 false ([([112, 117, 98, 108, 105, 99] : Bs)] : List Bs) yr2).bind fun yr10 =>
            (m60 false ([([109, 117, 115, 116, 45, 114, 101, 118, 97, 108, 105, 100, 97, 116, 101] : Bs), ([112, 114, 111, 120, 121, 45, 114, 101, 118, 97, 108, 105, 100, 97, 116, 101] : Bs)] : List Bs) yr2).bind fun yr12 =>
              (m61 (!(hasM ([109, 97, 120, 45, 97, 103, 101] : Bs) yr2)) (valM ([109, 97, 120, 45, 97, 103, 101] : Bs) yr2)).bind fun yr14 =>
                (m61 (!(hasM ([115, 45, 109, 97, 120, 97, 103, 101] : Bs) yr2)) (valM ([115, 45, 109, 97, 120, 97, 103, 101] : Bs) yr2)).bind fun yr16 =>
                  some (yr4, yr6, yr8, yr10, yr12, false, yr14, yr16, (-1 : Int), (-1 : Int))
def k23 := Q (rx c23_1) (Q @ao78 (Q (rx c23_3) (Q @f59_t (Q @e59.eq_1 (Q @c23_5_r (Q (show opsOf c23_5 = _ :: _ from rfl) (Q @hd79 (Q @nv80 (Q @rw81 (Q (fun (mm : Int) (yr2 : R59) => (show callW (E0 mm) 60 [.c (.mp 0), cd (.lst false (enL enS ([([110, 111, 45, 115, 116, 111, 114, 101] : Bs)] : List Bs)))] [.amap (enM yr2)] = _ from f60_t false ([([110, 111, 45, 115, 116, 111, 114, 101] : Bs)] : List Bs) yr2)) (Q @f60_t (Q setF (Q @e60.eq_1 (Q (fun (mm : Int) (yr2 : R59) => (show callW (E0 mm) 60 [.c (.mp 0), cd (.lst false (enL enS ([([110, 111, 45, 99, 97, 99, 104, 101] : Bs)] : List Bs)))] [.amap (enM yr2)] = _ from f60_t false ([([110, 111, 45, 99, 97, 99, 104, 101] : Bs)] : List Bs) yr2)) (Q (fun (mm : Int) (yr2 : R59) => (show callW (E0 mm) 60 [.c (.mp 0), cd (.lst false (enL enS ([([112, 114, 105, 118, 97, 116, 101] : Bs)] : List Bs)))] [.amap (enM yr2)] = _ from f60_t false ([([112, 114, 105, 118, 97, 116, 101] : Bs)] : List Bs) yr2)) (Q (fun (mm : Int) (yr2 : R59) => (show callW (E0 mm) 60 [.c (.mp 0), cd (.lst false (enL enS ([([112, 117, 98, 108, 105, 99] : Bs)] : List Bs)))] [.amap (enM yr2)] = _ from f60_t false ([([112, 117, 98, 108, 105, 99] : Bs)] : List Bs) yr2)) (Q @ns82 (Q (fun (mm : Int) (yr2 : R59) => (show callW (E0 mm) 60 [.c (.mp 0), cd (.lst false (enL enS ([([109, 117, 115, 116, 45, 114, 101, 118, 97, 108, 105, 100, 97, 116, 101] : Bs), ([112, 114, 111, 120, 121, 45, 114, 101, 118, 97, 108, 105, 100, 97, 116, 101] : Bs)] : List Bs)))] [.amap (enM yr2)] = _ from f60_t false ([([109, 117, 115, 116, 45, 114, 101, 118, 97, 108, 105, 100, 97, 116, 101] : Bs), ([112, 114, 111, 120, 121, 45, 114, 101, 118, 97, 108, 105, 100, 97, 116, 101] : Bs)] : List Bs) yr2)) (Q @f61_t (Q @e61.eq_1 (Q (nE c23_0 (.seq c23_1 (.seq c23_3 (.seq c23_5 .ret)))) hA)))))))))))))))))))))
theorem f23_t (l_0 : Bool) (l_1 : List (Bs × Bs)) :
    callW (E0 mm) 23 [cd (.lst l_0 (enL enSS l_1))] [] = (m23 l_0 l_1).map e23 := by
  rw [cR c23_0 [.cell 2 37] Tryz.func23]
  unfold m23; exact go k23 trivial
noncomputable def c110_0 : Code := bodyOf Tryz.f110
def c110_1 := cA c110_0
def c110_3 := cA (cB c110_0)
def c110_6 := cA (cA (cB (cB c110_0)))
def c110_9 := cA (cA (cB (cA (cB (cB c110_0)))))
def c110_13 := cA (cB (cB (cB c110_0)))
abbrev R110 := (Bs × Bool)
def e110 (x : R110) : AV × Heap := (.tup [cd (dS x.1), cd (dB x.2)], [])
def m110 (r0_0 : Int) (r0_1 : Bs) (r0_2 : Int) (r0_3 : Bool) (r0_4 : List (Bs × Bs)) (r0_5 : Bool) (r0_6 : List UInt8) (name : Bs) : Option R110 :=
  (m29 r0_3 r0_4 name).bind fun yr2 =>
    if ((yr2.2.length : Int) == 1) = true then
      if (0 : Int) < (yr2.2.length : Int) then
        some ((yr2.2.getD 0 default), true)
      else none
    else
      some (([] : Bs), false)
def k110 := Q (rx c110_1) (Q (rx c110_3) (Q @f29_t (Q @e29.eq_1 (Q (rx c110_6) (Q (rx c110_13) (Q (rx c110_9) (Q (nE c110_0 (.seq c110_1 (.seq c110_3 (.seq (.seq c110_6 (.cond _ (.seq c110_9 .ret) .skip)) (.seq c110_13 .ret))))) hA)))))))
theorem f110_t (r0_0 : Int) (r0_1 : Bs) (r0_2 : Int) (r0_3 : Bool) (r0_4 : List (Bs × Bs)) (r0_5 : Bool) (r0_6 : List UInt8) (name : Bs) :
    callW (E0 mm) 110 [.agg [.d (dI r0_0), .d (dS r0_1), .d (dI r0_2), .d (.lst r0_3 (enL enSS r0_4)), .d (.lst r0_5 (enL enB r0_6))], cd (dS name)] [] = (m110 r0_0 r0_1 r0_2 r0_3 r0_4 r0_5 r0_6 name).map e110 := by
  rw [cR c110_0 [.tmp 4, .tmp 5] Tryz.func110]
  unfold m110; exact go k110 trivial
noncomputable def c117_0 : Code := bodyOf Tryz.f117
def c117_1 := cA c117_0
def c117_3 := cA (cB c117_0)
abbrev R117 := (Int)
def e117 (x : R117) : AV × Heap := (vd (dI x), [])
def m117 (s substr : Bs) : Option R117 :=
  (mIx s substr).bind fun yr2 =>
    some yr2
def k117 := Q (rx c117_1) (Q (rx c117_3) (Q @pIndex_t (Q (nE c117_0 (.seq c117_1 (.seq c117_3 .ret))) hA)))
theorem f117_t (s substr : Bs) :
    callW (E0 mm) 117 [cd (dS s), cd (dS substr)] [] = (m117 s substr).map e117 := by
  rw [cR c117_0 [.tmp 4] Tryz.func117]
  unfold m117; exact go k117 trivial
noncomputable def c134_0 : Code := bodyOf Tryz.f134
def c134_1 := cA c134_0
def c134_3 := cA (cB c134_0)
def c134_6 := cA (cA (cB (cB c134_0)))
def c134_8 := cA (cB (cA (cB (cB c134_0))))
def c134_9 := cA c134_8
def c134_10 := cA c134_9
def c134_18 := cA (cA (cA (cB (cB c134_9))))
def c134_19 := cB (cA (cA (cB (cB c134_9))))
def c134_20 := cB (cB (cB c134_9))
def c134_21 := cB (cB (cB c134_0))
def c134_22 := cA c134_21
def L134_0 : List (Nat × Co) := [(0, .keep), (3, .keep), (6, .keep), (7, .keep)]
abbrev R134 := (Int)
def e134 (x : R134) : AV × Heap := (vd (dI x), [])
def j134_21 (n3 : Int) : Option R134 :=
  some n3
def K134_8 (mm : Int) (r : Option (Ex × St)) : Option (AV × Heap) := bodyD (E0 mm) [.tmp 2] 0 false (sq (E0 mm) 134 0 c134_21 (blockD 0 (r)))
def en134_8 (x : (Bs × Int × Int × Int)) : X := (none, [vd (dS x.1), vd (dI x.2.1), vd (dI x.2.2.1), vd (dI x.2.2.2)], [])
def k134 := Q (rx c134_22) (Q (rx c134_10) (Q (rx c134_18) (Q (rx c134_19) (Q (rx c134_20) (Q @K134_8.eq_1 (Q (rx c134_1) (Q (rx c134_3) (Q (rx c134_6) (Q (fun mm => lx (E0 mm) 134 c134_8 c134_9 L134_0) (Q (nE c134_0 (.seq c134_1 (.seq c134_3 (.seq (.seq c134_6 (.block 0 c134_8)) c134_21)))) (Q (nE c134_9 (.seq c134_10 (.seq (.cond _ .skip (.exit 0)) (.seq (.block 1 (.seq c134_18 c134_19)) c134_20)))) (Q @en134_8.eq_1 (Q @L134_0.eq_1 hA)))))))))))))
theorem j134_21_t (n3 : Int)  (sl : Sl) (_ : sl 3 = vd (dI n3)) :
    bodyD (E0 mm) [.tmp 2] 0 false (dn (E0 mm) 134 0 c134_21 sl []) = (j134_21 n3).map e134 := by
  unfold j134_21; exact go (Q (nE c134_21 (.seq c134_22 .ret)) k134) trivial
def s134_8 (s0 : Bs) (n3 t6 t7 : Int) : Option ((Bs × Int × Int × Int) ⊕ R134) :=
  if (decide (t7 < t6)) = true then
    if 0 ≤ t7 ∧ t7 < (s0.length : Int) then
      some (.inl (s0, (w64 ((w64 (10 * n3)) + ((((s0.getD t7.toNat 0) - (48 : UInt8)).toNat : Int).tmod 10))), t6, (w64 (t7 + 1))))
    else none
  else
    (j134_21 n3).map .inr
theorem s134_8_t (s0 : Bs) (n3 t6 t7 : Int) :
    stepE (K134_8 mm) (lp (E0 mm) 134 0 c134_9 L134_0 (en134_8 (s0, n3, t6, t7))) = (s134_8 s0 n3 t6 t7).map (sm en134_8 e134) := by
  unfold s134_8; exact go k134 @j134_21_t
def l134_8 (s0 : Bs) (n3 t6 t7 : Int) : Option R134 := iter (fun x : (Bs × Int × Int × Int) => s134_8 x.1 x.2.1 x.2.2.1 x.2.2.2) (s0, n3, t6, t7)
theorem l134_8_t (s0 : Bs) (n3 t6 t7 : Int) : (K134_8 mm) (itW (lp (E0 mm) 134 0 c134_9 L134_0) (en134_8 (s0, n3, t6, t7))) = (l134_8 s0 n3 t6 t7).map e134 :=
  it_sim (K := (K134_8 mm)) rfl (enc := en134_8) (fun x => s134_8_t x.1 x.2.1 x.2.2.1 x.2.2.2) (s0, n3, t6, t7)
def m134 (s : Bs) : Option R134 :=
  l134_8 s (0 : Int) (s.length : Int) (0 : Int)
theorem f134_t (s : Bs) :
    callW (E0 mm) 134 [cd (dS s)] [] = (m134 s).map e134 := by
  rw [cR c134_0 [.tmp 2] Tryz.func134]
  unfold m134; exact go k134 @l134_8_t
noncomputable def c136_0 : Code := bodyOf Tryz.f136
def c136_1 := cA c136_0
def c136_3 := cA (cB c136_0)
def c136_5 := cA (cB (cB c136_0))
def c136_7 := cA (cB (cB (cB c136_0)))
abbrev R136 := (Int)
def e136 (x : R136) : AV × Heap := (vd (dI x), [])
def m136 (year : Int) : Option R136 :=
  some (w64 ((w64 ((w64 (365 * (w64 (year - 1970)))) + (w64 ((w64 ((w64 ((w64 (year - 1)).tdiv 4)) - (w64 ((w64 (year - 1)).tdiv 100)))) + (w64 ((w64 (year - 1)).tdiv 400)))))) - 477))
def k136 := Q (rx c136_1) (Q (rx c136_3) (Q (rx c136_5) (Q (rx c136_7) (Q (nE c136_0 (.seq c136_1 (.seq c136_3 (.seq c136_5 (.seq c136_7 .ret))))) hA))))
theorem f136_t (year : Int) :
    callW (E0 mm) 136 [cd (dI year)] [] = (m136 year).map e136 := by
  rw [cR c136_0 [.tmp 2] Tryz.func136]
  unfold m136; exact go k136 trivial
noncomputable def c149_0 : Code := bodyOf Tryz.f149
def c149_1 := cA c149_0
def c149_3 := cA (cB c149_0)
abbrev R149 := (Bool)
def e149 (x : R149) : AV × Heap := (vd (dB x), [])
def m149 (year : Int) : Option R149 :=
  if ((year.tmod 4) == 0) = true then
    if ((year.tmod 100) == 0) = true then
      some ((year.tmod 400) == 0)
    else
      some true
  else
    some ((year.tmod 400) == 0)
def k149 := Q (rx c149_1) (Q (rx c149_3) (Q (nE c149_0 (.seq c149_1 (.seq c149_3 .ret))) hA))
theorem f149_t (year : Int) :
    callW (E0 mm) 149 [cd (dI year)] [] = (m149 year).map e149 := by
  rw [cR c149_0 [.tmp 2] Tryz.func149]
  unfold m149; exact go k149 trivial
noncomputable def c135_0 : Code := bodyOf Tryz.f135
def c135_1 := cA c135_0
def c135_3 := cA (cB c135_0)
def c135_6 := cA (cA (cB (cB c135_0)))
def c135_7 := cB (cA (cB (cB c135_0)))
def c135_9 := cA (cA c135_7)
def c135_12 := cB (cB (cB c135_0))
def c135_13 := cA c135_12
abbrev R135 := (Int)
def e135 (x : R135) : AV × Heap := (vd (dI x), [])
def j135_7 (month1 : Int) (t12 : Bool) : Option R135 :=
  if t12 = true then
    some (29 : Int)
  else
    if 0 ≤ month1 ∧ month1 < 12 then
      some (([(31 : Int), (28 : Int), (31 : Int), (30 : Int), (31 : Int), (30 : Int), (31 : Int), (31 : Int), (30 : Int), (31 : Int), (30 : Int), (31 : Int)] : List Int).getD month1.toNat default)
    else none
def k135 := Q (rx c135_9) (Q (rx c135_13) (Q (rx c135_1) (Q (rx c135_3) (Q @ao85 (Q (rx c135_6) (Q @ent149 (Q @prm149 (Q @f149_t (Q @e149.eq_1 (Q (nE c135_0 (.seq c135_1 (.seq c135_3 (.seq (.seq c135_6 c135_7) c135_12)))) (Q (nE c135_12 (.seq c135_13 .ret)) hA)))))))))))
theorem j135_7_t (month1 : Int) (t12 : Bool)  (sl : Sl) (_ : sl 1 = vd (dI month1)) (_ : sl 5 = .v (.c (.ptr 0 0))) (_ : sl 12 = vd (dB t12)) :
    bodyD (E0 mm) [.tmp 4] 0 false (sq (E0 mm) 135 0 c135_12 (dn (E0 mm) 135 0 c135_7 sl [.cells [.d (dI 31), .d (dI 28), .d (dI 31), .d (dI 30), .d (dI 31), .d (dI 30), .d (dI 31), .d (dI 31), .d (dI 30), .d (dI 31), .d (dI 30), .d (dI 31)]])) = (j135_7 month1 t12).map e135 := by
  unfold j135_7; exact go (Q (nE c135_7 (.cond _ (.seq c135_9 .ret) .skip)) k135) trivial
def m135 (year month : Int) : Option R135 :=
  if (month == 1) = true then
    (m149 year).bind fun yr3 =>
      j135_7 month yr3
  else
    j135_7 month false
theorem f135_t (year month : Int) :
    callW (E0 mm) 135 [cd (dI year), cd (dI month)] [] = (m135 year month).map e135 := by
  rw [cR c135_0 [.tmp 4] Tryz.func135]
  unfold m135; exact go k135 @j135_7_t
noncomputable def c150_0 : Code := bodyOf Tryz.f150
def c150_1 := cA c150_0
def c150_3 := cA (cB c150_0)
abbrev R150 := (Bs)
def e150 (x : R150) : AV × Heap := (vd (dS x), [])
def m150 (n : Int) : Option R150 :=
  some ([(u8 (w64 (48 + ((w64 (n.tdiv 10)).tmod 10)))), (u8 (w64 (48 + (n.tmod 10))))] : List UInt8)
def k150 := Q (rx c150_1) (Q (rx c150_3) (Q @hd87 (Q @nv88 (Q @rw89 (Q @ns90 (Q (nE c150_0 (.seq c150_1 (.seq c150_3 .ret))) hA))))))
theorem f150_t (n : Int) :
    callW (E0 mm) 150 [cd (dI n)] [] = (m150 n).map e150 := by
  rw [cR c150_0 [.tmp 2] Tryz.func150]
  unfold m150; exact go k150 trivial
noncomputable def c137_0 : Code := bodyOf Tryz.f137
def c137_1 := cA c137_0
def c137_4 := cA (cA (cB c137_0))
def c137_7 := cA (cA (cB (cA (cB c137_0))))
def c137_11 := cA (cB (cB c137_0))
def c137_13 := cA (cB (cB (cB c137_0)))
def c137_16 := cA (cA (cB (cB (cB (cB c137_0)))))
def c137_17 := cA c137_16
def c137_19 := cA (cA c137_17)
def c137_24 := cA (cB c137_17)
def c137_25 := cB (cB (cB (cB (cB c137_0))))
def c137_26 := cA c137_25
def c137_29 := cA (cA (cB c137_25))
def c137_30 := cA c137_29
def c137_32 := cA (cA c137_30)
def c137_38 := cA (cA (cB c137_30))
def c137_39 := cB (cA (cB c137_30))
def c137_40 := cB (cB c137_25)
def c137_41 := cA c137_40
def c137_43 := cA (cB c137_40)
def L137_0 : List (Nat × Co) := [(4, .keep), (5, .keep), (6, .keep)]
def L137_1 : List (Nat × Co) := [(4, .keep), (5, .keep), (6, .keep), (7, .keep), (8, .keep)]
abbrev b137 (mm : Int) := bodyD (E0 mm) [.tmp 2, .tmp 3] 0 false
abbrev R137 := (Bs × Int)
def e137 (x : R137) : AV × Heap := (.tup [cd (dS x.1), cd (dI x.2)], [])
def j137_40 (d4 s5 : Int) (year6 rest7 month8 : Int) : Option R137 :=
  (bnd (w64 ((w64 (3 * (d4.tmod 7))) + 3)) 21).bind fun yk11 =>
    (bnd (w64 (3 * (d4.tmod 7))) yk11).bind fun yk13 =>
      if ((([84, 104, 117, 70, 114, 105, 83, 97, 116, 83, 117, 110, 77, 111, 110, 84, 117, 101, 87, 101, 100] : Bs).take yk11).drop yk13).length + 2 < 9223372036854775808 then
        (m150 (w64 (rest7 + 1))).bind fun yr16 =>
          if (((([84, 104, 117, 70, 114, 105, 83, 97, 116, 83, 117, 110, 77, 111, 110, 84, 117, 101, 87, 101, 100] : Bs).take yk11).drop yk13) ++ ([44, 32] : Bs)).length + yr16.length < 9223372036854775808 then
            if ((((([84, 104, 117, 70, 114, 105, 83, 97, 116, 83, 117, 110, 77, 111, 110, 84, 117, 101, 87, 101, 100] : Bs).take yk11).drop yk13) ++ ([44, 32] : Bs)) ++ yr16).length + 1 < 9223372036854775808 then
              (bnd (w64 ((w64 (3 * month8)) + 3)) 36).bind fun yk20 =>
                (bnd (w64 (3 * month8)) yk20).bind fun yk22 =>
                  if (((((([84, 104, 117, 70, 114, 105, 83, 97, 116, 83, 117, 110, 77, 111, 110, 84, 117, 101, 87, 101, 100] : Bs).take yk11).drop yk13) ++ ([44, 32] : Bs)) ++ yr16) ++ ([32] : Bs)).length + ((([74, 97, 110, 70, 101, 98, 77, 97, 114, 65, 112, 114, 77, 97, 121, 74, 117, 110, 74, 117, 108, 65, 117, 103, 83, 101, 112, 79, 99, 116, 78, 111, 118, 68, 101, 99] : Bs).take yk20).drop yk22).length < 9223372036854775808 then
                    if ((((((([84, 104, 117, 70, 114, 105, 83, 97, 116, 83, 117, 110, 77, 111, 110, 84, 117, 101, 87, 101, 100] : Bs).take yk11).drop yk13) ++ ([44, 32] : Bs)) ++ yr16) ++ ([32] : Bs)) ++ ((([74, 97, 110, 70, 101, 98, 77, 97, 114, 65, 112, 114, 77, 97, 121, 74, 117, 110, 74, 117, 108, 65, 117, 103, 83, 101, 112, 79, 99, 116, 78, 111, 118, 68, 101, 99] : Bs).take yk20).drop yk22)).length + 1 < 9223372036854775808 then
                      (m150 (w64 (year6.tdiv 100))).bind fun yr26 =>
                        if (((((((([84, 104, 117, 70, 114, 105, 83, 97, 116, 83, 117, 110, 77, 111, 110, 84, 117, 101, 87, 101, 100] : Bs).take yk11).drop yk13) ++ ([44, 32] : Bs)) ++ yr16) ++ ([32] : Bs)) ++ ((([74, 97, 110, 70, 101, 98, 77, 97, 114, 65, 112, 114, 77, 97, 121, 74, 117, 110, 74, 117, 108, 65, 117, 103, 83, 101, 112, 79, 99, 116, 78, 111, 118, 68, 101, 99] : Bs).take yk20).drop yk22)) ++ ([32] : Bs)).length + yr26.length < 9223372036854775808 then
                          (m150 (year6.tmod 100)).bind fun yr29 =>
                            if ((((((((([84, 104, 117, 70, 114, 105, 83, 97, 116, 83, 117, 110, 77, 111, 110, 84, 117, 101, 87, 101, 100] : Bs).take yk11).drop yk13) ++ ([44, 32] : Bs)) ++ yr16) ++ ([32] : Bs)) ++ ((([74, 97, 110, 70, 101, 98, 77, 97, 114, 65, 112, 114, 77, 97, 121, 74, 117, 110, 74, 117, 108, 65, 117, 103, 83, 101, 112, 79, 99, 116, 78, 111, 118, 68, 101, 99] : Bs).take yk20).drop yk22)) ++ ([32] : Bs)) ++ yr26).length + yr29.length < 9223372036854775808 then
                              if (((((((((([84, 104, 117, 70, 114, 105, 83, 97, 116, 83, 117, 110, 77, 111, 110, 84, 117, 101, 87, 101, 100] : Bs).take yk11).drop yk13) ++ ([44, 32] : Bs)) ++ yr16) ++ ([32] : Bs)) ++ ((([74, 97, 110, 70, 101, 98, 77, 97, 114, 65, 112, 114, 77, 97, 121, 74, 117, 110, 74, 117, 108, 65, 117, 103, 83, 101, 112, 79, 99, 116, 78, 111, 118, 68, 101, 99] : Bs).take yk20).drop yk22)) ++ ([32] : Bs)) ++ yr26) ++ yr29).length + 1 < 9223372036854775808 then
                                (m150 (w64 (s5.tdiv 3600))).bind fun yr33 =>
                                  if ((((((((((([84, 104, 117, 70, 114, 105, 83, 97, 116, 83, 117, 110, 77, 111, 110, 84, 117, 101, 87, 101, 100] : Bs).take yk11).drop yk13) ++ ([44, 32] : Bs)) ++ yr16) ++ ([32] : Bs)) ++ ((([74, 97, 110, 70, 101, 98, 77, 97, 114, 65, 112, 114, 77, 97, 121, 74, 117, 110, 74, 117, 108, 65, 117, 103, 83, 101, 112, 79, 99, 116, 78, 111, 118, 68, 101, 99] : Bs).take yk20).drop yk22)) ++ ([32] : Bs)) ++ yr26) ++ yr29) ++ ([32] : Bs)).length + yr33.length < 9223372036854775808 then
                                    if (((((((((((([84, 104, 117, 70, 114, 105, 83, 97, 116, 83, 117, 110, 77, 111, 110, 84, 117, 101, 87, 101, 100] : Bs).take yk11).drop yk13) ++ ([44, 32] : Bs)) ++ yr16) ++ ([32] : Bs)) ++ ((([74, 97, 110, 70, 101, 98, 77, 97, 114, 65, 112, 114, 77, 97, 121, 74, 117, 110, 74, 117, 108, 65, 117, 103, 83, 101, 112, 79, 99, 116, 78, 111, 118, 68, 101, 99] : Bs).take yk20).drop yk22)) ++ ([32] : Bs)) ++ yr26) ++ yr29) ++ ([32] : Bs)) ++ yr33).length + 1 < 9223372036854775808 then
                                      (m150 ((w64 (s5.tdiv 60)).tmod 60)).bind fun yr37 =>
                                        if ((((((((((((([84, 104, 117, 70, 114, 105, 83, 97, 116, 83, 117, 110, 77, 111, 110, 84, 117, 101, 87, 101, 100] : Bs).take yk11).drop yk13) ++ ([44, 32] : Bs)) ++ yr16) ++ ([32] : Bs)) ++ ((([74, 97, 110, 70, 101, 98, 77, 97, 114, 65, 112, 114, 77, 97, 121, 74, 117, 110, 74, 117, 108, 65, 117, 103, 83, 101, 112, 79, 99, 116, 78, 111, 118, 68, 101, 99] : Bs).take yk20).drop yk22)) ++ ([32] : Bs)) ++ yr26) ++ yr29) ++ ([32] : Bs)) ++ yr33) ++ ([58] : Bs)).length + yr37.length < 9223372036854775808 then
                                          if (((((((((((((([84, 104, 117, 70, 114, 105, 83, 97, 116, 83, 117, 110, 77, 111, 110, 84, 117, 101, 87, 101, 100] : Bs).take yk11).drop yk13) ++ ([44, 32] : Bs)) ++ yr16) ++ ([32] : Bs)) ++ ((([74, 97, 110, 70, 101, 98, 77, 97, 114, 65, 112, 114, 77, 97, 121, 74, 117, 110, 74, 117, 108, 65, 117, 103, 83, 101, 112, 79, 99, 116, 78, 111, 118, 68, 101, 99] : Bs).take yk20).drop yk22)) ++ ([32] : Bs)) ++ yr26) ++ yr29) ++ ([32] : Bs)) ++ yr33) ++ ([58] : Bs)) ++ yr37).length + 1 < 9223372036854775808 then
                                            (m150 (s5.tmod 60)).bind fun yr41 =>
                                              if ((((((((((((((([84, 104, 117, 70, 114, 105, 83, 97, 116, 83, 117, 110, 77, 111, 110, 84, 117, 101, 87, 101, 100] : Bs).take yk11).drop yk13) ++ ([44, 32] : Bs)) ++ yr16) ++ ([32] : Bs)) ++ ((([74, 97, 110, 70, 101, 98, 77, 97, 114, 65, 112, 114, 77, 97, 121, 74, 117, 110, 74, 117, 108, 65, 117, 103, 83, 101, 112, 79, 99, 116, 78, 111, 118, 68, 101, 99] : Bs).take yk20).drop yk22)) ++ ([32] : Bs)) ++ yr26) ++ yr29) ++ ([32] : Bs)) ++ yr33) ++ ([58] : Bs)) ++ yr37) ++ ([58] : Bs)).length + yr41.length < 9223372036854775808 then
                                                if (((((((((((((((([84, 104, 117, 70, 114, 105, 83, 97, 116, 83, 117, 110, 77, 111, 110, 84, 117, 101, 87, 101, 100] : Bs).take yk11).drop yk13) ++ ([44, 32] : Bs)) ++ yr16) ++ ([32] : Bs)) ++ ((([74, 97, 110, 70, 101, 98, 77, 97, 114, 65, 112, 114, 77, 97, 121, 74, 117, 110, 74, 117, 108, 65, 117, 103, 83, 101, 112, 79, 99, 116, 78, 111, 118, 68, 101, 99] : Bs).take yk20).drop yk22)) ++ ([32] : Bs)) ++ yr26) ++ yr29) ++ ([32] : Bs)) ++ yr33) ++ ([58] : Bs)) ++ yr37) ++ ([58] : Bs)) ++ yr41).length + 4 < 9223372036854775808 then
                                                  some (((((((((((((((((([84, 104, 117, 70, 114, 105, 83, 97, 116, 83, 117, 110, 77, 111, 110, 84, 117, 101, 87, 101, 100] : Bs).take yk11).drop yk13) ++ ([44, 32] : Bs)) ++ yr16) ++ ([32] : Bs)) ++ ((([74, 97, 110, 70, 101, 98, 77, 97, 114, 65, 112, 114, 77, 97, 121, 74, 117, 110, 74, 117, 108, 65, 117, 103, 83, 101, 112, 79, 99, 116, 78, 111, 118, 68, 101, 99] : Bs).take yk20).drop yk22)) ++ ([32] : Bs)) ++ yr26) ++ yr29) ++ ([32] : Bs)) ++ yr33) ++ ([58] : Bs)) ++ yr37) ++ ([58] : Bs)) ++ yr41) ++ ([32, 71, 77, 84] : Bs)), (0 : Int))
                                                else none
                                              else none
                                          else none
                                        else none
                                    else none
                                  else none
                              else none
                            else none
                        else none
                    else none
                  else none
            else none
          else none
      else none
def K137_16 (mm : Int) (r : Option (Ex × St)) : Option (AV × Heap) := b137 mm (sq (E0 mm) 137 0 c137_25 (blockD 0 (r)))
def en137_16 (x : (Int × Int × Int)) : X := (none, [vd (dI x.1), vd (dI x.2.1), vd (dI x.2.2)], [])
def K137_29 (mm : Int) (r : Option (Ex × St)) : Option (AV × Heap) := b137 mm (sq (E0 mm) 137 0 c137_40 (blockD 2 (r)))
def en137_29 (x : (Int × Int × Int × Int × Int)) : X := (none, [vd (dI x.1), vd (dI x.2.1), vd (dI x.2.2.1), vd (dI x.2.2.2.1), vd (dI x.2.2.2.2)], [])
def k137 := Q (rx c137_41) (Q (fun mm => ry (E0 mm) c137_43) (Q @ent150 (Q @prm150 (Q @f150_t (Q @e150.eq_1 (Q (rx c137_32) (Q @f135_t (Q @e135.eq_1 (Q (rx c137_38) (Q (rx c137_39) (Q @K137_29.eq_1 (Q (rx c137_26) (Q @f136_t (Q @e136.eq_1 (Q (fun mm => lx (E0 mm) 137 c137_29 c137_30 L137_1) (Q (rx c137_19) (Q (rx c137_24) (Q @K137_16.eq_1 (Q (rx c137_1) (Q (rx c137_4) (Q (rx c137_7) (Q (rx c137_11) (Q (rx c137_13) (Q (fun mm => lx (E0 mm) 137 c137_16 c137_17 L137_0) (Q (nE c137_0 (.seq c137_1 (.seq (.seq c137_4 (.cond _ (.seq c137_7 .ret) .skip)) (.seq c137_11 (.seq c137_13 (.seq (.block 0 c137_16) c137_25)))))) (Q (nE c137_17 (.seq (.seq c137_19 (.cond _ .skip (.exit 0))) (.block 1 c137_24))) (Q (nE c137_30 (.seq (.seq c137_32 (.cond _ .skip (.exit 2))) (.block 3 (.seq c137_38 c137_39)))) (Q @en137_16.eq_1 (Q @en137_29.eq_1 (Q @L137_0.eq_1 (Q @L137_1.eq_1 hA)))))))))))))))))))))))))))))))
theorem j137_40_t (d4 s5 : Int) (year6 rest7 month8 : Int)  (sl : Sl) (_ : sl 4 = vd (dI d4)) (_ : sl 5 = vd (dI s5)) (_ : sl 6 = vd (dI year6)) (_ : sl 7 = vd (dI rest7)) (_ : sl 8 = vd (dI month8)) :
    b137 mm (dn (E0 mm) 137 0 c137_40 sl []) = (j137_40 d4 s5 year6 rest7 month8).map e137 := by
  unfold j137_40; exact go (Q (nE c137_40 (.seq c137_41 (.seq c137_43 .ret))) k137) trivial
def s137_29 (d4 s5 : Int) (year6 rest7 month8 : Int) : Option ((Int × Int × Int × Int × Int) ⊕ R137) :=
  (m135 year6 month8).bind fun yr8 =>
    if (decide (yr8 ≤ rest7)) = true then
      some (.inl (d4, s5, year6, (w64 (rest7 - yr8)), (w64 (month8 + 1))))
    else
      (j137_40 d4 s5 year6 rest7 month8).map .inr
theorem s137_29_t (d4 s5 : Int) (year6 rest7 month8 : Int) :
    stepE (K137_29 mm) (lp (E0 mm) 137 0 c137_30 L137_1 (en137_29 (d4, s5, year6, rest7, month8))) = (s137_29 d4 s5 year6 rest7 month8).map (sm en137_29 e137) := by
  unfold s137_29; exact go k137 @j137_40_t
def l137_29 (d4 s5 : Int) (year6 rest7 month8 : Int) : Option R137 := iter (fun x : (Int × Int × Int × Int × Int) => s137_29 x.1 x.2.1 x.2.2.1 x.2.2.2.1 x.2.2.2.2) (d4, s5, year6, rest7, month8)
theorem l137_29_t (d4 s5 : Int) (year6 rest7 month8 : Int) : (K137_29 mm) (itW (lp (E0 mm) 137 0 c137_30 L137_1) (en137_29 (d4, s5, year6, rest7, month8))) = (l137_29 d4 s5 year6 rest7 month8).map e137 :=
  it_sim (K := (K137_29 mm)) rfl (enc := en137_29) (fun x => s137_29_t x.1 x.2.1 x.2.2.1 x.2.2.2.1 x.2.2.2.2) (d4, s5, year6, rest7, month8)
def j137_25 (d4 s5 year6 : Int) : Option R137 :=
  (m136 year6).bind fun yr6 =>
    l137_29 d4 s5 year6 (w64 (d4 - yr6)) (0 : Int)
theorem j137_25_t (d4 s5 year6 : Int)  (sl : Sl) (_ : sl 4 = vd (dI d4)) (_ : sl 5 = vd (dI s5)) (_ : sl 6 = vd (dI year6)) :
    b137 mm (dn (E0 mm) 137 0 c137_25 sl []) = (j137_25 d4 s5 year6).map e137 := by
  unfold j137_25; exact go (Q (nE c137_25 (.seq c137_26 (.seq (.block 2 c137_29) c137_40))) k137) @l137_29_t
def s137_16 (d4 s5 year6 : Int) : Option ((Int × Int × Int) ⊕ R137) :=
  (m136 (w64 (year6 + 1))).bind fun yr3 =>
    if (decide (yr3 ≤ d4)) = true then
      some (.inl (d4, s5, (w64 (year6 + 1))))
    else
      (j137_25 d4 s5 year6).map .inr
theorem s137_16_t (d4 s5 year6 : Int) :
    stepE (K137_16 mm) (lp (E0 mm) 137 0 c137_17 L137_0 (en137_16 (d4, s5, year6))) = (s137_16 d4 s5 year6).map (sm en137_16 e137) := by
  unfold s137_16; exact go k137 @j137_25_t
def l137_16 (d4 s5 year6 : Int) : Option R137 := iter (fun x : (Int × Int × Int) => s137_16 x.1 x.2.1 x.2.2) (d4, s5, year6)
theorem l137_16_t (d4 s5 year6 : Int) : (K137_16 mm) (itW (lp (E0 mm) 137 0 c137_17 L137_0) (en137_16 (d4, s5, year6))) = (l137_16 d4 s5 year6).map e137 :=
  it_sim (K := (K137_16 mm)) rfl (enc := en137_16) (fun x => s137_16_t x.1 x.2.1 x.2.2) (d4, s5, year6)
def m137 (n : Int) : Option R137 :=
  if (decide (253402300799 < n)) = true then
    some (([] : Bs), (3 : Int))
  else
    l137_16 (w64 (wu64 (n.tdiv 86400))) (w64 (n.tmod 86400)) (w64 (1970 + (w64 ((w64 (wu64 (n.tdiv 86400))).tdiv 366))))
theorem f137_t (n : Int) :
    callW (E0 mm) 137 [cd (dU n)] [] = (m137 n).map e137 := by
  rw [cR c137_0 [.tmp 2, .tmp 3] Tryz.func137]
  unfold m137; exact go k137 @l137_16_t
noncomputable def c104_0 : Code := bodyOf Tryz.f104
def c104_1 := cA c104_0
def c104_4 := cA (cA (cB c104_0))
def c104_7 := cA (cA (cB (cA (cB c104_0))))
def c104_11 := cA (cB (cB c104_0))
def c104_13 := cA (cB (cB (cB c104_0)))
def c104_16 := cA (cA (cB (cB (cB (cB c104_0)))))
def c104_17 := cB (cA (cB (cB (cB (cB c104_0)))))
def c104_19 := cA (cA c104_17)
def c104_22 := cB (cB (cB (cB (cB c104_0))))
def c104_23 := cA c104_22
def c104_26 := cA (cA (cB c104_22))
def c104_28 := cA (cB (cA (cB c104_22)))
def c104_29 := cA c104_28
def c104_30 := cA c104_29
def c104_38 := cA (cA (cA (cB (cB c104_29))))
def c104_39 := cB (cA (cA (cB (cB c104_29))))
def c104_40 := cB (cB (cB c104_29))
def c104_41 := cB (cB c104_22)
def c104_42 := cA c104_41
def c104_45 := cA (cA (cB c104_41))
def c104_47 := cA (cB (cA (cB c104_41)))
def c104_48 := cB (cB (cA (cB c104_41)))
def c104_50 := cA (cA c104_48)
def c104_53 := cB (cB c104_41)
def c104_54 := cA c104_53
def L104_0 : List (Nat × Co) := [(0, .keep), (5, .keep), (7, .keep), (53, .keep), (54, .keep)]
abbrev b104 (mm : Int) := bodyD (E0 mm) [.tmp 2, .tmp 3] 0 false
abbrev R104 := (Int × Int)
def e104 (x : R104) : AV × Heap := (.tup [cd (dU x.1), cd (dI x.2)], [])
def j104_48 (n9 : Int) (t91 : Bool) : Option R104 :=
  if t91 = true then
    some ((0 : Int), (5 : Int))
  else
    some (n9, (0 : Int))
def K104_28 (mm : Int) (r : Option (Ex × St)) : Option (AV × Heap) := b104 mm (sq (E0 mm) 104 0 c104_41 (blockD 0 (r)))
def en104_28 (x : (Bs × Int × Int × Int × Int)) : X := (none, [vd (dS x.1), vd (dI x.2.1), vd (dI x.2.2.1), vd (dI x.2.2.2.1), vd (dI x.2.2.2.2)], [])
def k104 := Q (rx c104_50) (Q (rx c104_54) (Q (fun mm => ry (E0 mm) c104_42) (Q @ent134 (Q @prm134 (Q @f134_t (Q @e134.eq_1 (Q (rx c104_45) (Q @ent137 (Q @prm137 (Q @f137_t (Q @e137.eq_1 (Q (rx c104_47) (Q (rx c104_30) (Q (rx c104_38) (Q (rx c104_39) (Q @f135_t (Q @e135.eq_1 (Q (rx c104_40) (Q @K104_28.eq_1 (Q (rx c104_19) (Q (rx c104_23) (Q @f136_t (Q @e136.eq_1 (Q (rx c104_26) (Q (fun mm => lx (E0 mm) 104 c104_28 c104_29 L104_0) (Q (rx c104_1) (Q (rx c104_4) (Q (rx c104_11) (Q (fun (mm : Int) (s : Bs) (yk3 : Nat) (yk5 : Nat) => (show callW (E0 mm) 117 [cd (dS ([74, 97, 110, 70, 101, 98, 77, 97, 114, 65, 112, 114, 77, 97, 121, 74, 117, 110, 74, 117, 108, 65, 117, 103, 83, 101, 112, 79, 99, 116, 78, 111, 118, 68, 101, 99] : Bs)), cd (dS ((s.take yk3).drop yk5))] [] = _ from f117_t ([74, 97, 110, 70, 101, 98, 77, 97, 114, 65, 112, 114, 77, 97, 121, 74, 117, 110, 74, 117, 108, 65, 117, 103, 83, 101, 112, 79, 99, 116, 78, 111, 118, 68, 101, 99] : Bs) ((s.take yk3).drop yk5))) (Q @f117_t (Q @e117.eq_1 (Q (fun mm => ry (E0 mm) c104_13) (Q (rx c104_16) (Q (rx c104_7) (Q (nE c104_0 (.seq c104_1 (.seq (.seq c104_4 (.cond _ (.seq c104_7 .ret) .skip)) (.seq c104_11 (.seq c104_13 (.seq (.seq c104_16 c104_17) c104_22)))))) (Q (nE c104_22 (.seq c104_23 (.seq (.seq c104_26 (.block 0 c104_28)) c104_41))) (Q (nE c104_29 (.seq c104_30 (.seq (.cond _ .skip (.exit 0)) (.seq (.block 1 (.seq c104_38 c104_39)) c104_40)))) (Q (nE c104_53 (.seq c104_54 .ret)) (Q @en104_28.eq_1 (Q @L104_0.eq_1 hA))))))))))))))))))))))))))))))))))))))))
theorem j104_48_t (n9 : Int) (t91 : Bool)  (sl : Sl) (_ : sl 9 = vd (dU n9)) (_ : sl 91 = vd (dB t91)) :
    b104 mm (sq (E0 mm) 104 0 c104_53 (dn (E0 mm) 104 0 c104_48 sl [])) = (j104_48 n9 t91).map e104 := by
  unfold j104_48; exact go (Q (nE c104_48 (.cond _ (.seq c104_50 .ret) .skip)) k104) trivial
def j104_41 (s0 : Bs) (d7 : Int) : Option R104 :=
  (bnd 19 s0.length).bind fun yk28 =>
    (bnd 17 yk28).bind fun yk30 =>
      (m134 ((s0.take yk28).drop yk30)).bind fun yr32 =>
        (bnd 22 s0.length).bind fun yk34 =>
          (bnd 20 yk34).bind fun yk36 =>
            (m134 ((s0.take yk34).drop yk36)).bind fun yr38 =>
              (bnd 25 s0.length).bind fun yk40 =>
                (bnd 23 yk40).bind fun yk42 =>
                  (m134 ((s0.take yk40).drop yk42)).bind fun yr44 =>
                    (m137 (wu64 (w64 ((w64 ((w64 ((w64 (d7 * 86400)) + (w64 (yr32 * 3600)))) + (w64 (yr38 * 60)))) + yr44)))).bind fun yr46 =>
                      if (yr46.2 == 0) = true then
                        j104_48 (wu64 (w64 ((w64 ((w64 ((w64 (d7 * 86400)) + (w64 (yr32 * 3600)))) + (w64 (yr38 * 60)))) + yr44))) (!(yr46.1 == s0))
                      else
                        j104_48 (wu64 (w64 ((w64 ((w64 ((w64 (d7 * 86400)) + (w64 (yr32 * 3600)))) + (w64 (yr38 * 60)))) + yr44))) true
theorem j104_41_t (s0 : Bs) (d7 : Int)  (sl : Sl) (_ : sl 0 = vd (dS s0)) (_ : sl 7 = vd (dI d7)) :
    b104 mm (dn (E0 mm) 104 0 c104_41 sl []) = (j104_41 s0 d7).map e104 := by
  unfold j104_41; exact go (Q (nE c104_41 (.seq c104_42 (.seq (.seq c104_45 (.seq c104_47 c104_48)) c104_53))) k104) @j104_48_t
def s104_28 (s0 : Bs) (year5 d7 : Int) (t53 t54 : Int) : Option ((Bs × Int × Int × Int × Int) ⊕ R104) :=
  if (decide (t54 < t53)) = true then
    (m135 year5 t54).bind fun yr26 =>
      some (.inl (s0, year5, (w64 (d7 + yr26)), t53, (w64 (t54 + 1))))
  else
    (j104_41 s0 d7).map .inr
theorem s104_28_t (s0 : Bs) (year5 d7 : Int) (t53 t54 : Int) :
    stepE (K104_28 mm) (lp (E0 mm) 104 0 c104_29 L104_0 (en104_28 (s0, year5, d7, t53, t54))) = (s104_28 s0 year5 d7 t53 t54).map (sm en104_28 e104) := by
  unfold s104_28; exact go k104 @j104_41_t
def l104_28 (s0 : Bs) (year5 d7 : Int) (t53 t54 : Int) : Option R104 := iter (fun x : (Bs × Int × Int × Int × Int) => s104_28 x.1 x.2.1 x.2.2.1 x.2.2.2.1 x.2.2.2.2) (s0, year5, d7, t53, t54)
theorem l104_28_t (s0 : Bs) (year5 d7 : Int) (t53 t54 : Int) : (K104_28 mm) (itW (lp (E0 mm) 104 0 c104_29 L104_0) (en104_28 (s0, year5, d7, t53, t54))) = (l104_28 s0 year5 d7 t53 t54).map e104 :=
  it_sim (K := (K104_28 mm)) rfl (enc := en104_28) (fun x => s104_28_t x.1 x.2.1 x.2.2.1 x.2.2.2.1 x.2.2.2.2) (s0, year5, d7, t53, t54)
def j104_17 (s0 : Bs) (at4 year5 date6 : Int) (t46 : Bool) : Option R104 :=
  if t46 = true then
    some ((0 : Int), (5 : Int))
  else
    (m136 year5).bind fun yr23 =>
      l104_28 s0 year5 (w64 ((w64 (yr23 + date6)) - 1)) (w64 (at4.tdiv 3)) (0 : Int)
theorem j104_17_t (s0 : Bs) (at4 year5 date6 : Int) (t46 : Bool)  (sl : Sl) (_ : sl 0 = vd (dS s0)) (_ : sl 4 = vd (dI at4)) (_ : sl 5 = vd (dI year5)) (_ : sl 6 = vd (dI date6)) (_ : sl 46 = vd (dB t46)) :
    b104 mm (sq (E0 mm) 104 0 c104_22 (dn (E0 mm) 104 0 c104_17 sl [])) = (j104_17 s0 at4 year5 date6 t46).map e104 := by
  unfold j104_17; exact go (Q (nE c104_17 (.cond _ (.seq c104_19 .ret) .skip)) k104) @l104_28_t
def m104 (s : Bs) : Option R104 :=
  if ((s.length : Int) == 29) = true then
    (bnd 11 s.length).bind fun yk3 =>
      (bnd 8 yk3).bind fun yk5 =>
        (m117 ([74, 97, 110, 70, 101, 98, 77, 97, 114, 65, 112, 114, 77, 97, 121, 74, 117, 110, 74, 117, 108, 65, 117, 103, 83, 101, 112, 79, 99, 116, 78, 111, 118, 68, 101, 99] : Bs) ((s.take yk3).drop yk5)).bind fun yr7 =>
          (bnd 16 s.length).bind fun yk9 =>
            (bnd 12 yk9).bind fun yk11 =>
              (m134 ((s.take yk9).drop yk11)).bind fun yr13 =>
                (bnd 7 s.length).bind fun yk15 =>
                  (bnd 5 yk15).bind fun yk17 =>
                    (m134 ((s.take yk15).drop yk17)).bind fun yr19 =>
                      if (decide (yr7 < 0)) = true then
                        j104_17 s yr7 yr13 yr19 true
                      else
                        if ((yr7.tmod 3) == 0) = true then
                          if (decide (yr13 < 1970)) = true then
                            j104_17 s yr7 yr13 yr19 true
                          else
                            if (decide (yr19 < 1)) = true then
                              j104_17 s yr7 yr13 yr19 true
                            else
                              (m135 yr13 (w64 (yr7.tdiv 3))).bind fun yr53 =>
                                j104_17 s yr7 yr13 yr19 (decide (yr53 < yr19))
                        else
                          j104_17 s yr7 yr13 yr19 true
  else
    some ((0 : Int), (5 : Int))
theorem f104_t (s : Bs) :
    callW (E0 mm) 104 [cd (dS s)] [] = (m104 s).map e104 := by
  rw [cR c104_0 [.tmp 2, .tmp 3] Tryz.func104]
  unfold m104; exact go k104 @j104_17_t
noncomputable def c65_0 : Code := bodyOf Tryz.f65
def c65_1 := cA c65_0
def c65_3 := cA (cB c65_0)
def c65_6 := cA (cA (cB (cB c65_0)))
def c65_9 := cA (cA (cB (cA (cB (cB c65_0)))))
def c65_13 := cA (cB (cB (cB c65_0)))
def c65_15 := cA (cB (cB (cB (cB c65_0))))
abbrev R65 := (Int × Bool)
def e65 (x : R65) : AV × Heap := (.tup [cd (dU x.1), cd (dB x.2)], [])
def m65 (r0_0 : Int) (r0_1 : Bs) (r0_2 : Int) (r0_3 : Bool) (r0_4 : List (Bs × Bs)) (r0_5 : Bool) (r0_6 : List UInt8) (name : Bs) : Option R65 :=
  (m110 r0_0 r0_1 r0_2 r0_3 r0_4 r0_5 r0_6 name).bind fun yr2 =>
    if yr2.2 = true then
      (m104 yr2.1).bind fun yr5 =>
        some (yr5.1, (yr5.2 == 0))
    else
      some ((0 : Int), false)
def k65 := Q (rx c65_1) (Q (rx c65_3) (Q @ent110 (Q @prm110 (Q @f110_t (Q @e110.eq_1 (Q (rx c65_6) (Q (rx c65_13) (Q @f104_t (Q @e104.eq_1 (Q (rx c65_15) (Q (rx c65_9) (Q (nE c65_0 (.seq c65_1 (.seq c65_3 (.seq (.seq c65_6 (.cond _ (.seq c65_9 .ret) .skip)) (.seq c65_13 (.seq c65_15 .ret)))))) hA))))))))))))
theorem f65_t (r0_0 : Int) (r0_1 : Bs) (r0_2 : Int) (r0_3 : Bool) (r0_4 : List (Bs × Bs)) (r0_5 : Bool) (r0_6 : List UInt8) (name : Bs) :
    callW (E0 mm) 65 [.agg [.d (dI r0_0), .d (dS r0_1), .d (dI r0_2), .d (.lst r0_3 (enL enSS r0_4)), .d (.lst r0_5 (enL enB r0_6))], cd (dS name)] [] = (m65 r0_0 r0_1 r0_2 r0_3 r0_4 r0_5 r0_6 name).map e65 := by
  rw [cR c65_0 [.tmp 4, .tmp 5] Tryz.func65]
  unfold m65; exact go k65 trivial
noncomputable def c64_0 : Code := bodyOf Tryz.f64
def c64_1 := cA c64_0
def c64_3 := cA (cB c64_0)
abbrev R64 := (Int × Bool)
def e64 (x : R64) : AV × Heap := (.tup [cd (dU x.1), cd (dB x.2)], [])
def m64 (r0_0 : Int) (r0_1 : Bs) (r0_2 : Int) (r0_3 : Bool) (r0_4 : List (Bs × Bs)) (r0_5 : Bool) (r0_6 : List UInt8) : Option R64 :=
  (m65 r0_0 r0_1 r0_2 r0_3 r0_4 r0_5 r0_6 ([100, 97, 116, 101] : Bs)).bind fun yr2 =>
    some (yr2.1, yr2.2)
def k64 := Q (rx c64_1) (Q (rx c64_3) (Q (fun (mm : Int) (r0_0 : Int) (r0_1 : Bs) (r0_2 : Int) (r0_3 : Bool) (r0_4 : List (Bs × Bs)) (r0_5 : Bool) (r0_6 : List UInt8) => (show callW (E0 mm) 65 [.agg [.d (dI r0_0), .d (dS r0_1), .d (dI r0_2), .d (.lst r0_3 (enL enSS r0_4)), .d (.lst r0_5 (enL enB r0_6))], cd (dS ([100, 97, 116, 101] : Bs))] [] = _ from f65_t r0_0 r0_1 r0_2 r0_3 r0_4 r0_5 r0_6 ([100, 97, 116, 101] : Bs))) (Q @f65_t (Q @e65.eq_1 (Q (nE c64_0 (.seq c64_1 (.seq c64_3 .ret))) hA)))))
theorem f64_t (r0_0 : Int) (r0_1 : Bs) (r0_2 : Int) (r0_3 : Bool) (r0_4 : List (Bs × Bs)) (r0_5 : Bool) (r0_6 : List UInt8) :
    callW (E0 mm) 64 [.agg [.d (dI r0_0), .d (dS r0_1), .d (dI r0_2), .d (.lst r0_3 (enL enSS r0_4)), .d (.lst r0_5 (enL enB r0_6))]] [] = (m64 r0_0 r0_1 r0_2 r0_3 r0_4 r0_5 r0_6).map e64 := by
  rw [cR c64_0 [.tmp 2, .tmp 3] Tryz.func64]
  unfold m64; exact go k64 trivial
noncomputable def c66_0 : Code := bodyOf Tryz.f66
def c66_1 := cA c66_0
def c66_4 := cA (cA (cB c66_0))
def c66_7 := cA (cA (cB (cA (cB c66_0))))
def c66_11 := cA (cB (cB c66_0))
abbrev R66 := (Int)
def e66 (x : R66) : AV × Heap := (vd (dU x), [])
def m66 (xfrom to : Int) : Option R66 :=
  if (decide (to ≤ xfrom)) = true then
    some (0 : Int)
  else
    some (wu64 (to - xfrom))
def k66 := Q (rx c66_1) (Q (rx c66_4) (Q (rx c66_7) (Q (rx c66_11) (Q (nE c66_0 (.seq c66_1 (.seq (.seq c66_4 (.cond _ (.seq c66_7 .ret) .skip)) (.seq c66_11 .ret)))) hA))))
theorem f66_t (xfrom to : Int) :
    callW (E0 mm) 66 [cd (dU xfrom), cd (dU to)] [] = (m66 xfrom to).map e66 := by
  rw [cR c66_0 [.tmp 4] Tryz.func66]
  unfold m66; exact go k66 trivial
noncomputable def c111_0 : Code := bodyOf Tryz.f111
def c111_1 := cA c111_0
def c111_4 := cA (cA (cB c111_0))
def c111_6 := cA (cB (cA (cB c111_0)))
def c111_7 := cA c111_6
def c111_8 := cA c111_7
def c111_16 := cA (cA (cA (cB (cB c111_7))))
def c111_18 := cA (cB (cA (cA (cB (cB c111_7)))))
def c111_21 := cA (cA (cB (cB (cA (cA (cB (cB c111_7)))))))
def c111_24 := cB (cB (cB c111_7))
def c111_25 := cB (cB c111_0)
def c111_26 := cA c111_25
def L111_0 : List (Nat × Co) := [(0, .keep), (1, .keep), (7, .keep), (8, .keep)]
abbrev R111 := (Int)
def e111 (x : R111) : AV × Heap := (vd (dI x), [])
def j111_25  : Option R111 :=
  some (-1 : Int)
def K111_6 (mm : Int) (r : Option (Ex × St)) : Option (AV × Heap) := bodyD (E0 mm) [.tmp 4] 0 false (sq (E0 mm) 111 0 c111_25 (blockD 0 (r)))
def en111_6 (x : (Bool × List Int × Int × Int × Int)) : X := (none, [vd (.lst x.1 (enL enN x.2.1)), vd (dI x.2.2.1), vd (dI x.2.2.2.1), vd (dI x.2.2.2.2)], [])
def k111 := Q (rx c111_26) (Q (rx c111_8) (Q (rx c111_16) (Q (rx c111_18) (Q @enN_a (Q @enN_e (Q (rx c111_21) (Q @K111_6.eq_1 (Q (rx c111_24) (Q (rx c111_1) (Q (rx c111_4) (Q (fun mm => lx (E0 mm) 111 c111_6 c111_7 L111_0) (Q (nE c111_0 (.seq c111_1 (.seq (.seq c111_4 (.block 0 c111_6)) c111_25))) (Q (nE c111_7 (.seq c111_8 (.seq (.cond _ .skip (.exit 0)) (.seq (.block 1 (.seq c111_16 (.seq c111_18 (.cond _ (.seq c111_21 .ret) .skip)))) c111_24)))) (Q @en111_6.eq_1 (Q @L111_0.eq_1 hA)))))))))))))))
theorem j111_25_t (sl : Sl)  :
    bodyD (E0 mm) [.tmp 4] 0 false (dn (E0 mm) 111 0 c111_25 sl []) = (j111_25).map e111 := by
  unfold j111_25; exact go (Q (nE c111_25 (.seq c111_26 .ret)) k111) trivial
def s111_6 (s0_0 : Bool) (s0_1 : List Int) (v1 t7 t8 : Int) : Option ((Bool × List Int × Int × Int × Int) ⊕ R111) :=
  if (decide (t8 < t7)) = true then
    if 0 ≤ t8 ∧ t8 < (s0_1.length : Int) then
      if (v1 == (s0_1.getD t8.toNat default)) = true then
        some (.inr t8)
      else
        some (.inl (s0_0, s0_1, v1, t7, (w64 (t8 + 1))))
    else none
  else
    (j111_25).map .inr
theorem s111_6_t (s0_0 : Bool) (s0_1 : List Int) (v1 t7 t8 : Int) :
    stepE (K111_6 mm) (lp (E0 mm) 111 0 c111_7 L111_0 (en111_6 (s0_0, s0_1, v1, t7, t8))) = (s111_6 s0_0 s0_1 v1 t7 t8).map (sm en111_6 e111) := by
  unfold s111_6; exact go k111 @j111_25_t
def l111_6 (s0_0 : Bool) (s0_1 : List Int) (v1 t7 t8 : Int) : Option R111 := iter (fun x : (Bool × List Int × Int × Int × Int) => s111_6 x.1 x.2.1 x.2.2.1 x.2.2.2.1 x.2.2.2.2) (s0_0, s0_1, v1, t7, t8)
theorem l111_6_t (s0_0 : Bool) (s0_1 : List Int) (v1 t7 t8 : Int) : (K111_6 mm) (itW (lp (E0 mm) 111 0 c111_7 L111_0) (en111_6 (s0_0, s0_1, v1, t7, t8))) = (l111_6 s0_0 s0_1 v1 t7 t8).map e111 :=
  it_sim (K := (K111_6 mm)) rfl (enc := en111_6) (fun x => s111_6_t x.1 x.2.1 x.2.2.1 x.2.2.2.1 x.2.2.2.2) (s0_0, s0_1, v1, t7, t8)
def m111 (s_0 : Bool) (s_1 : List Int) (v : Int) : Option R111 :=
  l111_6 s_0 s_1 v (s_1.length : Int) (0 : Int)
theorem f111_t (s_0 : Bool) (s_1 : List Int) (v : Int) :
    callW (E0 mm) 111 [cd (.lst s_0 (enL enN s_1)), cd (dI v)] [] = (m111 s_0 s_1 v).map e111 := by
  rw [cR c111_0 [.tmp 4] Tryz.func111]
  unfold m111; exact go k111 @l111_6_t
noncomputable def c67_0 : Code := bodyOf Tryz.f67
def c67_1 := cA c67_0
def c67_3 := cA (cB c67_0)
abbrev R67 := (Bool)
def e67 (x : R67) : AV × Heap := (vd (dB x), [])
def m67 (s_0 : Bool) (s_1 : List Int) (v : Int) : Option R67 :=
  (m111 s_0 s_1 v).bind fun yr2 =>
    some (decide (0 ≤ yr2))
def k67 := Q (rx c67_1) (Q (rx c67_3) (Q @ent111 (Q @prm111 (Q @f111_t (Q @e111.eq_1 (Q (nE c67_0 (.seq c67_1 (.seq c67_3 .ret))) hA))))))
theorem f67_t (s_0 : Bool) (s_1 : List Int) (v : Int) :
    callW (E0 mm) 67 [cd (.lst s_0 (enL enN s_1)), cd (dI v)] [] = (m67 s_0 s_1 v).map e67 := by
  rw [cR c67_0 [.tmp 4] Tryz.func67]
  unfold m67; exact go k67 trivial
noncomputable def c25_0 : Code := bodyOf Tryz.f25
def c25_1 := cA c25_0
def c25_3 := cA (cB c25_0)
def c25_5 := cA (cB (cB c25_0))
def c25_9 := cA (cA (cA (cB (cB (cB c25_0)))))
def c25_12 := cA (cA (cB (cA (cA (cB (cB (cB c25_0)))))))
def c25_15 := cA (cB (cB (cA (cA (cB (cB (cB c25_0)))))))
def c25_18 := cA (cA (cB (cB (cB (cA (cA (cB (cB (cB c25_0)))))))))
def c25_21 := cA (cB (cB (cB (cB (cA (cA (cB (cB (cB c25_0)))))))))
def c25_24 := cA (cA (cB (cB (cB (cB (cB (cA (cA (cB (cB (cB c25_0)))))))))))
def c25_27 := cA (cA (cB (cA (cB (cB (cB (cB (cB (cA (cA (cB (cB (cB c25_0)))))))))))))
def c25_28 := cB (cA (cB (cA (cB (cB (cB (cB (cB (cA (cA (cB (cB (cB c25_0)))))))))))))
def c25_30 := cA (cA c25_28)
def c25_33 := cB (cB (cA (cB (cB (cB (cB (cB (cA (cA (cB (cB (cB c25_0))))))))))))
def c25_34 := cA c25_33
def c25_37 := cB (cB (cB (cB c25_0)))
def c25_38 := cA c25_37
def c25_41 := cA (cA (cB c25_37))
def c25_42 := cB (cA (cB c25_37))
def c25_44 := cA (cA c25_42)
def c25_47 := cB (cB c25_37)
def c25_48 := cA c25_47
abbrev R25 := (Int × Bool)
def e25 (x : R25) : AV × Heap := (.tup [cd (dI x.1), cd (dB x.2)], [])
def j25_28 (at5 end7 : Int) (t49 : Bool) : Option R25 :=
  if t49 = true then
    some ((0 : Int), true)
  else
    (m66 at5 end7).bind fun yr15 =>
      some ((w64 (min2 yr15 2147483648)), true)
def k25 := Q (rx c25_30) (Q (rx c25_34) (Q @ent66 (Q @prm66 (Q @f66_t (Q @e66.eq_1 (Q (rx c25_44) (Q (rx c25_48) (Q (rx c25_1) (Q (rx c25_3) (Q @f23_t (Q @e23.eq_1 (Q @ao84 (Q (rx c25_5) (Q @ent64 (Q @prm64 (Q @f64_t (Q @e64.eq_1 (Q (rx c25_9) (Q (rx c25_12) (Q (rx c25_15) (Q (rx c25_18) (Q (rx c25_21) (Q (fun (mm : Int) (r0_3 : Bool) (r0_4 : List (Bs × Bs)) => (show callW (E0 mm) 29 [cd (.lst r0_3 (enL enSS r0_4)), cd (dS ([101, 120, 112, 105, 114, 101, 115] : Bs))] [] = _ from f29_t r0_3 r0_4 ([101, 120, 112, 105, 114, 101, 115] : Bs))) (Q @f29_t (Q @e29.eq_1 (Q (rx c25_24) (Q (fun (mm : Int) (r0_0 : Int) (r0_1 : Bs) (r0_2 : Int) (r0_3 : Bool) (r0_4 : List (Bs × Bs)) (r0_5 : Bool) (r0_6 : List UInt8) => (show callW (E0 mm) 65 [.agg [.d (dI r0_0), .d (dS r0_1), .d (dI r0_2), .d (.lst r0_3 (enL enSS r0_4)), .d (.lst r0_5 (enL enB r0_6))], cd (dS ([101, 120, 112, 105, 114, 101, 115] : Bs))] [] = _ from f65_t r0_0 r0_1 r0_2 r0_3 r0_4 r0_5 r0_6 ([101, 120, 112, 105, 114, 101, 115] : Bs))) (Q @f65_t (Q @e65.eq_1 (Q (rx c25_27) (Q (rx c25_38) (Q (fun (mm : Int) (r0_0 : Int) (r0_1 : Bs) (r0_2 : Int) (r0_3 : Bool) (r0_4 : List (Bs × Bs)) (r0_5 : Bool) (r0_6 : List UInt8) => (show callW (E0 mm) 65 [.agg [.d (dI r0_0), .d (dS r0_1), .d (dI r0_2), .d (.lst r0_3 (enL enSS r0_4)), .d (.lst r0_5 (enL enB r0_6))], cd (dS ([108, 97, 115, 116, 45, 109, 111, 100, 105, 102, 105, 101, 100] : Bs))] [] = _ from f65_t r0_0 r0_1 r0_2 r0_3 r0_4 r0_5 r0_6 ([108, 97, 115, 116, 45, 109, 111, 100, 105, 102, 105, 101, 100] : Bs))) (Q (rx c25_41) (Q @hd91 (Q @nv92 (Q @rw93 (Q (fun (mm : Int) (r0_0 : Int) => (show callW (E0 mm) 67 [cd (.lst false (enL enN ([(200 : Int), (203 : Int), (204 : Int), (300 : Int), (301 : Int), (308 : Int), (404 : Int), (405 : Int), (410 : Int), (414 : Int), (501 : Int)] : List Int))), cd (dI r0_0)] [] = _ from f67_t false ([(200 : Int), (203 : Int), (204 : Int), (300 : Int), (301 : Int), (308 : Int), (404 : Int), (405 : Int), (410 : Int), (414 : Int), (501 : Int)] : List Int) r0_0)) (Q @f67_t (Q @e67.eq_1 (Q (nE c25_0 (.seq c25_1 (.seq c25_3 (.seq c25_5 (.seq (.block 0 (.seq c25_9 (.cond _ (.seq c25_12 .ret) (.seq c25_15 (.cond _ (.seq c25_18 .ret) (.seq c25_21 (.cond _ (.seq c25_24 (.seq (.seq c25_27 c25_28) c25_33)) .skip))))))) c25_37))))) (Q (nE c25_33 (.seq c25_34 .ret)) (Q (nE c25_37 (.seq c25_38 (.seq (.seq c25_41 c25_42) c25_47))) (Q (nE c25_47 (.seq c25_48 .ret)) hA)))))))))))))))))))))))))))))))))))))))))))
theorem j25_28_t (at5 end7 : Int) (t49 : Bool) (g0 g1 g2 : Ob) (sl : Sl) (_ : sl 5 = vd (dU at5)) (_ : sl 7 = vd (dU end7)) (_ : sl 49 = vd (dB t49)) :
    bodyD (E0 mm) [.tmp 2, .tmp 3] 0 false (sq (E0 mm) 25 0 c25_37 (blockD 0 (sq (E0 mm) 25 0 c25_33 (dn (E0 mm) 25 0 c25_28 sl [g0, g1, g2])))) = (j25_28 at5 end7 t49).map e25 := by
  unfold j25_28; exact go (Q (nE c25_28 (.cond _ (.seq c25_30 .ret) .skip)) k25) trivial
def j25_42 (at5 changed9 : Int) (t72 : Bool) : Option R25 :=
  if t72 = true then
    some ((0 : Int), false)
  else
    (m66 changed9 at5).bind fun yr24 =>
      some ((w64 (min2 (wu64 (yr24.tdiv 10)) 86400)), false)
theorem j25_42_t (at5 changed9 : Int) (t72 : Bool) (g0 g1 g2 : Ob) (sl : Sl) (_ : sl 5 = vd (dU at5)) (_ : sl 9 = vd (dU changed9)) (_ : sl 72 = vd (dB t72)) :
    bodyD (E0 mm) [.tmp 2, .tmp 3] 0 false (sq (E0 mm) 25 0 c25_47 (dn (E0 mm) 25 0 c25_42 sl [g0, g1, g2])) = (j25_42 at5 changed9 t72).map e25 := by
  unfold j25_42; exact go (Q (nE c25_42 (.cond _ (.seq c25_44 .ret) .skip)) k25) trivial
def m25 (r0_0 : Int) (r0_1 : Bs) (r0_2 : Int) (r0_3 : Bool) (r0_4 : List (Bs × Bs)) (r0_5 : Bool) (r0_6 : List UInt8) : Option R25 :=
  (m23 r0_3 r0_4).bind fun yr2 =>
    (m64 r0_0 r0_1 r0_2 r0_3 r0_4 r0_5 r0_6).bind fun yr4 =>
      if (decide (0 ≤ yr2.2.2.2.2.2.2.2.1)) = true then
        some ((min2 yr2.2.2.2.2.2.2.2.1 2147483648), true)
      else
        if (decide (0 ≤ yr2.2.2.2.2.2.2.1)) = true then
          some ((min2 yr2.2.2.2.2.2.2.1 2147483648), true)
        else
          (m29 r0_3 r0_4 ([101, 120, 112, 105, 114, 101, 115] : Bs)).bind fun yr8 =>
            if (decide (0 < (yr8.2.length : Int))) = true then
              (m65 r0_0 r0_1 r0_2 r0_3 r0_4 r0_5 r0_6 ([101, 120, 112, 105, 114, 101, 115] : Bs)).bind fun yr11 =>
                if yr11.2 = true then
                  j25_28 yr4.1 yr11.1 (!yr4.2)
                else
                  j25_28 yr4.1 yr11.1 true
            else
              (m65 r0_0 r0_1 r0_2 r0_3 r0_4 r0_5 r0_6 ([108, 97, 115, 116, 45, 109, 111, 100, 105, 102, 105, 101, 100] : Bs)).bind fun yr17 =>
                if yr17.2 = true then
                  if yr4.2 = true then
                    (m67 false ([(200 : Int), (203 : Int), (204 : Int), (300 : Int), (301 : Int), (308 : Int), (404 : Int), (405 : Int), (410 : Int), (414 : Int), (501 : Int)] : List Int) r0_0).bind fun yr21 =>
                      j25_42 yr4.1 yr17.1 (!yr21)
                  else
                    j25_42 yr4.1 yr17.1 true
                else
                  j25_42 yr4.1 yr17.1 true
theorem f25_t (r0_0 : Int) (r0_1 : Bs) (r0_2 : Int) (r0_3 : Bool) (r0_4 : List (Bs × Bs)) (r0_5 : Bool) (r0_6 : List UInt8) :
    callW (E0 mm) 25 [.agg [.d (dI r0_0), .d (dS r0_1), .d (dI r0_2), .d (.lst r0_3 (enL enSS r0_4)), .d (.lst r0_5 (enL enB r0_6))]] [] = (m25 r0_0 r0_1 r0_2 r0_3 r0_4 r0_5 r0_6).map e25 := by
  rw [cR c25_0 [.tmp 2, .tmp 3] Tryz.func25]
  unfold m25; exact go k25 (Q @j25_28_t @j25_42_t)
noncomputable def c54_0 : Code := bodyOf Tryz.f54
def c54_1 := cA c54_0
def c54_3 := cA (cB c54_0)
def c54_5 := cA (cB (cB c54_0))
def c54_7 := cA (cB (cB (cB c54_0)))
abbrev R54 := (Bs × Bool)
def e54 (x : R54) : AV × Heap := (.tup [cd (dS x.1), cd (dB x.2)], [])
def m54 (l_0 : Bool) (l_1 : List (Bs × Bs)) : Option R54 :=
  (m71 l_0 l_1 ([108, 97, 115, 116, 45, 109, 111, 100, 105, 102, 105, 101, 100] : Bs)).bind fun yr2 =>
    (m104 yr2).bind fun yr4 =>
      some (yr2, (yr4.2 == 0))
def k54 := Q (rx c54_1) (Q (rx c54_3) (Q (fun (mm : Int) (l_0 : Bool) (l_1 : List (Bs × Bs)) => (show callW (E0 mm) 71 [cd (.lst l_0 (enL enSS l_1)), cd (dS ([108, 97, 115, 116, 45, 109, 111, 100, 105, 102, 105, 101, 100] : Bs))] [] = _ from f71_t l_0 l_1 ([108, 97, 115, 116, 45, 109, 111, 100, 105, 102, 105, 101, 100] : Bs))) (Q @f71_t (Q @e71.eq_1 (Q (rx c54_5) (Q @f104_t (Q @e104.eq_1 (Q (rx c54_7) (Q (nE c54_0 (.seq c54_1 (.seq c54_3 (.seq c54_5 (.seq c54_7 .ret))))) hA)))))))))
theorem f54_t (l_0 : Bool) (l_1 : List (Bs × Bs)) :
    callW (E0 mm) 54 [cd (.lst l_0 (enL enSS l_1))] [] = (m54 l_0 l_1).map e54 := by
  rw [cR c54_0 [.tmp 2, .tmp 3] Tryz.func54]
  unfold m54; exact go k54 trivial
noncomputable def c15_0 : Code := bodyOf Tryz.f15
def c15_1 := cA c15_0
def c15_3 := cA (cB c15_0)
def c15_6 := cA (cA (cB (cB c15_0)))
def c15_8 := cA (cB (cA (cB (cB c15_0))))
def c15_10 := cA (cB (cB (cA (cB (cB c15_0)))))
def c15_12 := cB (cB (cB c15_0))
def c15_14 := cA (cA c15_12)
def c15_16 := cA (cB (cA c15_12))
def c15_18 := cA (cB (cB (cA c15_12)))
def c15_20 := cB c15_12
def c15_21 := cA c15_20
abbrev b15 (mm : Int) := bodyD (E0 mm) [.tmp 2] 0 false
abbrev R15 := (Bool × List (Bs × Bs)) ⊕ (Bool × List (Bs × Bs))
def e15 (x : R15) : AV × Heap := match x with
  | .inl x => (.v (.c (.own x.1 (enL enSS x.2) 0)), [.row x.2.length (rz x.1 2)])
  | .inr x => (vd (.lst x.1 (enL enSS x.2)), [])
def j15_20 (l3_0 : Bool) (l3_1 : List (Bs × Bs)) : Option R15 :=
  some (.inl (l3_0, l3_1))
def k15 := Q (rx c15_21) (Q (rx c15_14) (Q @ent54 (Q @prm54 (Q @f54_t (Q @e54.eq_1 (Q (rx c15_16) (Q (rx c15_18) (Q @hd100 (Q @nv101 (Q @rw102 (Q (rx c15_1) (Q (rx c15_3) (Q (rx c15_6) (Q @ent28 (Q @prm28 (Q @f28_t (Q @e28.eq_1 (Q (rx c15_8) (Q (rx c15_10) (Q @hd95 (Q @nv96 (Q @rw97 (Q (nE c15_0 (.seq c15_1 (.seq c15_3 (.seq (.seq c15_6 (.seq c15_8 (.cond _ c15_10 .skip))) c15_12)))) hA)))))))))))))))))))))))
theorem j15_20_t (l3_0 : Bool) (l3_1 : List (Bs × Bs)) (g0 : Ob) (sl : Sl) (_ : sl 3 = .v (.c (.own l3_0 (enL enSS l3_1) 1))) :
    b15 mm (dn (E0 mm) 15 0 c15_20 sl [g0, .row l3_1.length (rz l3_0 2)]) = (j15_20 l3_0 l3_1).map e15 := by
  unfold j15_20; exact go (Q (nE c15_20 (.seq c15_21 .ret)) k15) trivial
def j15_12 (l3_0 : Bool) (l3_1 : List (Bs × Bs)) (h0_0 : Bs) (h0_1 h0_2 : Int) (h0_3_0 : Bool) (h0_3_1 : List (Bs × Bs)) (h0_4 : Int) (h0_5 : Bs) (h0_6 : Int) (h0_7_0 : Bool) (h0_7_1 : List (Bs × Bs)) (h0_8_0 : Bool) (h0_8_1 : List UInt8) : Option R15 :=
  (m54 h0_7_0 h0_7_1).bind fun yr5 =>
    if yr5.2 = true then
      if (l3_1.length + 1) * 32 ≤ 140737488355328 then
        j15_20 false (l3_1 ++ ([(([73, 102, 45, 77, 111, 100, 105, 102, 105, 101, 100, 45, 83, 105, 110, 99, 101] : Bs), yr5.1)] : List (Bs × Bs)))
      else none
    else
      j15_20 l3_0 l3_1
theorem j15_12_t (l3_0 : Bool) (l3_1 : List (Bs × Bs)) (h0_0 : Bs) (h0_1 h0_2 : Int) (h0_3_0 : Bool) (h0_3_1 : List (Bs × Bs)) (h0_4 : Int) (h0_5 : Bs) (h0_6 : Int) (h0_7_0 : Bool) (h0_7_1 : List (Bs × Bs)) (h0_8_0 : Bool) (h0_8_1 : List UInt8)  (sl : Sl) (_ : sl 1 = .v (.c (.ptr 0 0))) (_ : sl 3 = .v (.c (.own l3_0 (enL enSS l3_1) 1))) :
    b15 mm (dn (E0 mm) 15 0 c15_12 sl [.cells [.d (dS h0_0), .d (dU h0_1), .d (dU h0_2), .d (.lst h0_3_0 (enL enSS h0_3_1)), .d (dI h0_4), .d (dS h0_5), .d (dI h0_6), .d (.lst h0_7_0 (enL enSS h0_7_1)), .d (.lst h0_8_0 (enL enB h0_8_1))], .row l3_1.length (rz l3_0 2)]) = (j15_12 l3_0 l3_1 h0_0 h0_1 h0_2 h0_3_0 h0_3_1 h0_4 h0_5 h0_6 h0_7_0 h0_7_1 h0_8_0 h0_8_1).map e15 := by
  unfold j15_12; exact go (Q (nE c15_12 (.seq (.seq c15_14 (.seq c15_16 (.cond _ c15_18 .skip))) c15_20)) k15) @j15_20_t
def j15_20v1  : Option R15 :=
  some (.inr (true, ([] : List (Bs × Bs))))
theorem j15_20v1_t (g0 : Ob) (sl : Sl) (_ : sl 3 = vd (.lst true [])) :
    b15 mm (dn (E0 mm) 15 0 c15_20 sl [g0]) = (j15_20v1).map e15 := by
  unfold j15_20v1; exact go (Q (nE c15_20 (.seq c15_21 .ret)) k15) trivial
def j15_12v1 (h0_0 : Bs) (h0_1 h0_2 : Int) (h0_3_0 : Bool) (h0_3_1 : List (Bs × Bs)) (h0_4 : Int) (h0_5 : Bs) (h0_6 : Int) (h0_7_0 : Bool) (h0_7_1 : List (Bs × Bs)) (h0_8_0 : Bool) (h0_8_1 : List UInt8) : Option R15 :=
  (m54 h0_7_0 h0_7_1).bind fun yr9 =>
    if yr9.2 = true then
      j15_20 false ([(([73, 102, 45, 77, 111, 100, 105, 102, 105, 101, 100, 45, 83, 105, 110, 99, 101] : Bs), yr9.1)] : List (Bs × Bs))
    else
      j15_20v1
theorem j15_12v1_t (h0_0 : Bs) (h0_1 h0_2 : Int) (h0_3_0 : Bool) (h0_3_1 : List (Bs × Bs)) (h0_4 : Int) (h0_5 : Bs) (h0_6 : Int) (h0_7_0 : Bool) (h0_7_1 : List (Bs × Bs)) (h0_8_0 : Bool) (h0_8_1 : List UInt8)  (sl : Sl) (_ : sl 1 = .v (.c (.ptr 0 0))) (_ : sl 3 = vd (.lst true [])) :
    b15 mm (dn (E0 mm) 15 0 c15_12 sl [.cells [.d (dS h0_0), .d (dU h0_1), .d (dU h0_2), .d (.lst h0_3_0 (enL enSS h0_3_1)), .d (dI h0_4), .d (dS h0_5), .d (dI h0_6), .d (.lst h0_7_0 (enL enSS h0_7_1)), .d (.lst h0_8_0 (enL enB h0_8_1))]]) = (j15_12v1 h0_0 h0_1 h0_2 h0_3_0 h0_3_1 h0_4 h0_5 h0_6 h0_7_0 h0_7_1 h0_8_0 h0_8_1).map e15 := by
  unfold j15_12v1; exact go (Q (nE c15_12 (.seq (.seq c15_14 (.seq c15_16 (.cond _ c15_18 .skip))) c15_20)) k15) (Q @j15_20_t @j15_20v1_t)
def m15 (e0_0 : Bs) (e0_1 e0_2 : Int) (e0_3 : Bool) (e0_4 : List (Bs × Bs)) (e0_5 : Int) (e0_6 : Bs) (e0_7 : Int) (e0_8 : Bool) (e0_9 : List (Bs × Bs)) (e0_10 : Bool) (e0_11 : List UInt8) : Option R15 :=
  (m28 e0_8 e0_9).bind fun yr2 =>
    if yr2.2 = true then
      j15_12 false ([(([73, 102, 45, 78, 111, 110, 101, 45, 77, 97, 116, 99, 104] : Bs), yr2.1)] : List (Bs × Bs)) e0_0 e0_1 e0_2 e0_3 e0_4 e0_5 e0_6 e0_7 e0_8 e0_9 e0_10 e0_11
    else
      j15_12v1 e0_0 e0_1 e0_2 e0_3 e0_4 e0_5 e0_6 e0_7 e0_8 e0_9 e0_10 e0_11
theorem f15_t (e0_0 : Bs) (e0_1 e0_2 : Int) (e0_3 : Bool) (e0_4 : List (Bs × Bs)) (e0_5 : Int) (e0_6 : Bs) (e0_7 : Int) (e0_8 : Bool) (e0_9 : List (Bs × Bs)) (e0_10 : Bool) (e0_11 : List UInt8) :
    callW (E0 mm) 15 [.agg [.d (dS e0_0), .d (dU e0_1), .d (dU e0_2), .d (.lst e0_3 (enL enSS e0_4)), .d (dI e0_5), .d (dS e0_6), .d (dI e0_7), .d (.lst e0_8 (enL enSS e0_9)), .d (.lst e0_10 (enL enB e0_11))]] [] = (m15 e0_0 e0_1 e0_2 e0_3 e0_4 e0_5 e0_6 e0_7 e0_8 e0_9 e0_10 e0_11).map e15 := by
  rw [cR c15_0 [.tmp 2] Tryz.func15]
  unfold m15; exact go k15 (Q @j15_12_t @j15_12v1_t)
abbrev R129 := (Bs)
def m129 (n : Int) : Option R129 :=
  if 0 ≤ n ∧ n < 12 then
    some (([([74, 97, 110] : Bs), ([70, 101, 98] : Bs), ([77, 97, 114] : Bs), ([65, 112, 114] : Bs), ([77, 97, 121] : Bs), ([74, 117, 110] : Bs), ([74, 117, 108] : Bs), ([65, 117, 103] : Bs), ([83, 101, 112] : Bs), ([79, 99, 116] : Bs), ([78, 111, 118] : Bs), ([68, 101, 99] : Bs)] : List Bs).getD n.toNat default)
  else none
abbrev R130 := (Int)
def j130_20 (s0 : Bs) (at1 many2 : Int) (n7 i8 : Int) (t26 : Bool) : Option ((Bs × Int × Int × Int × Int) ⊕ R130) :=
  if t26 = true then
    some (.inr (-1 : Int))
  else
    if 0 ≤ i8 ∧ i8 < (s0.length : Int) then
      some (.inl (s0, at1, many2, (w64 ((w64 (10 * n7)) + (((s0.getD i8.toNat 0) - (48 : UInt8)).toNat : Int))), (w64 (i8 + 1))))
    else none
def j130_27 (n7 : Int) : Option R130 :=
  some n7
def s130_8 (s0 : Bs) (at1 many2 : Int) (n7 i8 : Int) : Option ((Bs × Int × Int × Int × Int) ⊕ R130) :=
  if (decide (i8 < (w64 (at1 + many2)))) = true then
    if 0 ≤ i8 ∧ i8 < (s0.length : Int) then
      if (decide ((s0.getD i8.toNat 0) < (48 : UInt8))) = true then
        j130_20 s0 at1 many2 n7 i8 true
      else
        j130_20 s0 at1 many2 n7 i8 (decide ((57 : UInt8) < (s0.getD i8.toNat 0)))
    else none
  else
    (j130_27 n7).map .inr
def l130_8 (s0 : Bs) (at1 many2 : Int) (n7 i8 : Int) : Option R130 := iter (fun x : (Bs × Int × Int × Int × Int) => s130_8 x.1 x.2.1 x.2.2.1 x.2.2.2.1 x.2.2.2.2) (s0, at1, many2, n7, i8)
def m130 (s : Bs) (xat many : Int) : Option R130 :=
  l130_8 s xat many (0 : Int) xat
abbrev R132 := (Bool)
def m132 (year : Int) : Option R132 :=
  if ((year.tmod 400) == 0) = true then
    some true
  else
    if ((year.tmod 4) == 0) = true then
      some (!((year.tmod 100) == 0))
    else
      some false
abbrev R131 := (Int)
def j131_12 (n6 : Int) : Option R131 :=
  some n6
def j131_9 (n6 : Int) (t16 : Bool) : Option R131 :=
  if t16 = true then
    j131_12 (29 : Int)
  else
    j131_12 n6
def m131 (year month : Int) : Option R131 :=
  if 0 ≤ month ∧ month < 12 then
    if (month == 1) = true then
      (m132 year).bind fun yr5 =>
        j131_9 (([(31 : Int), (28 : Int), (31 : Int), (30 : Int), (31 : Int), (30 : Int), (31 : Int), (31 : Int), (30 : Int), (31 : Int), (30 : Int), (31 : Int)] : List Int).getD month.toNat default) yr5
    else
      j131_9 (([(31 : Int), (28 : Int), (31 : Int), (30 : Int), (31 : Int), (30 : Int), (31 : Int), (31 : Int), (30 : Int), (31 : Int), (30 : Int), (31 : Int)] : List Int).getD month.toNat default) false
  else none
abbrev R133 := (Bs)
def m133 (n : Int) : Option R133 :=
  if 0 ≤ (n.tmod 7) ∧ (n.tmod 7) < 7 then
    some (([([84, 104, 117] : Bs), ([70, 114, 105] : Bs), ([83, 97, 116] : Bs), ([83, 117, 110] : Bs), ([77, 111, 110] : Bs), ([84, 117, 101] : Bs), ([87, 101, 100] : Bs)] : List Bs).getD ((n.tmod 7).toNat) default)
  else none
abbrev R103 := (Int × Int)
def j103_30 (s0 : Bs) (m4 i5 : Int) : Option ((Bs × Int × Int) ⊕ R103) :=
  some (.inl (s0, m4, (w64 (i5 + 1))))
def j103_65 (s0 : Bs) (m4 year7 : Int) (h8 min9 : Int) (sec10 d11 y12 : Int) : Option ((Bs × Int × Int × Int × Int × Int × Int × Int) ⊕ R103) :=
  some (.inl (s0, m4, year7, h8, min9, sec10, d11, (w64 (y12 + 1))))
def j103_81 (s0 : Bs) (h8 min9 : Int) (sec10 d11 : Int) : Option R103 :=
  (m133 d11).bind fun yr48 =>
    (bnd 3 s0.length).bind fun yk50 =>
      if (yr48 == (s0.take yk50)) = true then
        some ((wu64 ((wu64 (86400 * d11)) + (wu64 (w64 ((w64 ((w64 (3600 * h8)) + (w64 (60 * min9)))) + sec10))))), (0 : Int))
      else
        some ((0 : Int), (5 : Int))
def s103_70 (s0 : Bs) (m4 year7 : Int) (h8 min9 : Int) (sec10 d11 i13 : Int) : Option ((Bs × Int × Int × Int × Int × Int × Int × Int) ⊕ R103) :=
  if (decide (i13 < m4)) = true then
    (m131 year7 i13).bind fun yr46 =>
      some (.inl (s0, m4, year7, h8, min9, sec10, (wu64 (d11 + (wu64 yr46))), (w64 (i13 + 1))))
  else
    (j103_81 s0 h8 min9 sec10 d11).map .inr
def l103_70 (s0 : Bs) (m4 year7 : Int) (h8 min9 : Int) (sec10 d11 i13 : Int) : Option R103 := iter (fun x : (Bs × Int × Int × Int × Int × Int × Int × Int) => s103_70 x.1 x.2.1 x.2.2.1 x.2.2.2.1 x.2.2.2.2.1 x.2.2.2.2.2.1 x.2.2.2.2.2.2.1 x.2.2.2.2.2.2.2) (s0, m4, year7, h8, min9, sec10, d11, i13)
def j103_66 (s0 : Bs) (m4 year7 : Int) (h8 min9 : Int) (sec10 d11 : Int) : Option R103 :=
  l103_70 s0 m4 year7 h8 min9 sec10 d11 (0 : Int)
def s103_49 (s0 : Bs) (m4 year7 : Int) (h8 min9 : Int) (sec10 d11 y12 : Int) : Option ((Bs × Int × Int × Int × Int × Int × Int × Int) ⊕ R103) :=
  if (decide (y12 < year7)) = true then
    (m132 y12).bind fun yr42 =>
      if yr42 = true then
        j103_65 s0 m4 year7 h8 min9 sec10 (wu64 ((wu64 (d11 + 365)) + 1)) y12
      else
        j103_65 s0 m4 year7 h8 min9 sec10 (wu64 (d11 + 365)) y12
  else
    (j103_66 s0 m4 year7 h8 min9 sec10 d11).map .inr
def l103_49 (s0 : Bs) (m4 year7 : Int) (h8 min9 : Int) (sec10 d11 y12 : Int) : Option R103 := iter (fun x : (Bs × Int × Int × Int × Int × Int × Int × Int) => s103_49 x.1 x.2.1 x.2.2.1 x.2.2.2.1 x.2.2.2.2.1 x.2.2.2.2.2.1 x.2.2.2.2.2.2.1 x.2.2.2.2.2.2.2) (s0, m4, year7, h8, min9, sec10, d11, y12)
def j103_38 (s0 : Bs) (m4 day6 : Int) (year7 h8 : Int) (min9 sec10 : Int) (t112 : Bool) : Option R103 :=
  if t112 = true then
    some ((0 : Int), (5 : Int))
  else
    l103_49 s0 m4 year7 h8 min9 sec10 (wu64 (w64 (day6 - 1))) (1970 : Int)
def j103_31 (s0 : Bs) (m4 : Int) : Option R103 :=
  (m130 s0 (5 : Int) (2 : Int)).bind fun yr29 =>
    (m130 s0 (12 : Int) (4 : Int)).bind fun yr31 =>
      (m130 s0 (17 : Int) (2 : Int)).bind fun yr33 =>
        (m130 s0 (20 : Int) (2 : Int)).bind fun yr35 =>
          (m130 s0 (23 : Int) (2 : Int)).bind fun yr37 =>
            if (decide (m4 < 0)) = true then
              j103_38 s0 m4 yr29 yr31 yr33 yr35 yr37 true
            else
              if (decide (yr31 < 1970)) = true then
                j103_38 s0 m4 yr29 yr31 yr33 yr35 yr37 true
              else
                if (decide (yr29 < 1)) = true then
                  j103_38 s0 m4 yr29 yr31 yr33 yr35 yr37 true
                else
                  (m131 yr31 m4).bind fun yr55 =>
                    if (decide (yr55 < yr29)) = true then
                      j103_38 s0 m4 yr29 yr31 yr33 yr35 yr37 true
                    else
                      if (decide (yr33 < 0)) = true then
                        j103_38 s0 m4 yr29 yr31 yr33 yr35 yr37 true
                      else
                        if (decide (23 < yr33)) = true then
                          j103_38 s0 m4 yr29 yr31 yr33 yr35 yr37 true
                        else
                          if (decide (yr35 < 0)) = true then
                            j103_38 s0 m4 yr29 yr31 yr33 yr35 yr37 true
                          else
                            if (decide (59 < yr35)) = true then
                              j103_38 s0 m4 yr29 yr31 yr33 yr35 yr37 true
                            else
                              if (decide (yr37 < 0)) = true then
                                j103_38 s0 m4 yr29 yr31 yr33 yr35 yr37 true
                              else
                                j103_38 s0 m4 yr29 yr31 yr33 yr35 yr37 (decide (59 < yr37))
def s103_16 (s0 : Bs) (m4 i5 : Int) : Option ((Bs × Int × Int) ⊕ R103) :=
  if (decide (i5 < 12)) = true then
    (m129 i5).bind fun yr22 =>
      (bnd 11 s0.length).bind fun yk24 =>
        (bnd 8 yk24).bind fun yk26 =>
          if (yr22 == ((s0.take yk24).drop yk26)) = true then
            j103_30 s0 i5 i5
          else
            j103_30 s0 m4 i5
  else
    (j103_31 s0 m4).map .inr
def l103_16 (s0 : Bs) (m4 i5 : Int) : Option R103 := iter (fun x : (Bs × Int × Int) => s103_16 x.1 x.2.1 x.2.2) (s0, m4, i5)
def j103_5 (s0 : Bs) (t51 : Bool) : Option R103 :=
  if t51 = true then
    some ((0 : Int), (5 : Int))
  else
    l103_16 s0 (-1 : Int) (0 : Int)
def m103 (s : Bs) : Option R103 :=
  if ((s.length : Int) == 29) = true then
    (bnd 5 s.length).bind fun yk3 =>
      (bnd 3 yk3).bind fun yk5 =>
        if (((s.take yk3).drop yk5) == ([44, 32] : Bs)) = true then
          if (7 : Int) < (s.length : Int) then
            if ((s.getD 7 0) == (32 : UInt8)) = true then
              if (11 : Int) < (s.length : Int) then
                if ((s.getD 11 0) == (32 : UInt8)) = true then
                  if (16 : Int) < (s.length : Int) then
                    if ((s.getD 16 0) == (32 : UInt8)) = true then
                      if (19 : Int) < (s.length : Int) then
                        if ((s.getD 19 0) == (58 : UInt8)) = true then
                          if (22 : Int) < (s.length : Int) then
                            if ((s.getD 22 0) == (58 : UInt8)) = true then
                              (bnd 25 s.length).bind fun yk18 =>
                                j103_5 s (!((s.drop yk18) == ([32, 71, 77, 84] : Bs)))
                            else
                              j103_5 s true
                          else none
                        else
                          j103_5 s true
                      else none
                    else
                      j103_5 s true
                  else none
                else
                  j103_5 s true
              else none
            else
              j103_5 s true
          else none
        else
          j103_5 s true
  else
    j103_5 s true
end
end Go.Proofs.YtbkobjepahlegaaGreatDoor
