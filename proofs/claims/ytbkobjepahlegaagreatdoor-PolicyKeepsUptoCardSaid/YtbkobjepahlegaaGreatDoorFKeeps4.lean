/- The Go functions as plain functions, and that the evaluator computes them. -/
import Derived.Test.YtbkobjepahlegaaGreatDoorFKeeps3
set_option linter.all false
set_option maxRecDepth 100000
namespace Go.Proofs.YtbkobjepahlegaaGreatDoor
open Go Go.Ab
open Nat renaming reduceEqDiff → za, reduceAdd → zb, reduceLeDiff → zc, reduceLT → zd, reduceMul → ze, reduceBEq → zf, reduceSub → zg, reducePow → zh
open Int renaming reduceEq → zi, reduceLE → zj, reduceLT → zk, reduceToNat → zl, reduceNegSucc → zm, reduceAdd → zn, reduceBEq → zo
open String renaming reduceBEq → zp
set_option maxHeartbeats 4000000
noncomputable section
variable {mm : Int}
noncomputable def c24_0 : Code := bodyOf Tryz.f24
def c24_1 := cA c24_0
def c24_3 := cA (cB c24_0)
def c24_5 := cA (cB (cB c24_0))
def c24_8 := cA (cA (cB (cB (cB c24_0))))
def c24_10 := cA (cB (cA (cB (cB (cB c24_0)))))
def c24_11 := cA c24_10
def c24_12 := cA c24_11
def c24_20 := cA (cA (cA (cB (cB c24_11))))
def c24_22 := cA (cB (cA (cA (cB (cB c24_11)))))
def c24_25 := cA (cA (cB (cB (cA (cA (cB (cB c24_11)))))))
def c24_26 := cB (cA (cB (cB (cA (cA (cB (cB c24_11)))))))
def c24_27 := cA c24_26
def c24_29 := cB (cB (cB (cA (cA (cB (cB c24_11))))))
def c24_30 := cB (cB (cB c24_11))
def c24_31 := cB (cB (cB (cB c24_0)))
def c24_32 := cA c24_31
def L24_0 : List (Nat × Co) := [(4, .own), (5, .keep), (11, .keep), (12, .keep), (13, .keep)]
abbrev R24 := (Bool × List Bs × Bool)
def e24 (x : R24) : AV × Heap := (.tup [.c (.own x.1 (enL enS x.2.1) 0), cd (dB x.2.2)], [.row x.2.1.length (rz x.1 1)])
def j24_29 (names4_0 : Bool) (names4_1 : List Bs) (name8 : Bs) (t11_0 : Bool) (t11_1 : List Bs) (t12 t13 : Int) (qm1 : List (Bs × Int)) : Option ((Bool × List Bs × Bool × List Bs × Int × Int × List (Bs × Int)) ⊕ R24) :=
  some (.inl (names4_0, names4_1, t11_0, t11_1, t12, (w64 (t13 + 1)), (setQ name8 (1 : Int) qm1)))
def K24_10 (mm : Int) (r : Option (Ex × St)) : Option (AV × Heap) := bodyD (E0 mm) [.tmp 2, .tmp 3] 0 false (sq (E0 mm) 24 0 c24_31 (blockD 0 (r)))
def en24_10 (x : (Bool × List Bs × Bool × List Bs × Int × Int × List (Bs × Int))) : X := (none, [.v (.c (.own x.1 (enL enS x.2.1) 0)), .v (.c (.mp 1)), .v (.c (.own x.2.2.1 (enL enS x.2.2.2.1) 2)), vd (dI x.2.2.2.2.1), vd (dI x.2.2.2.2.2.1)], [.row x.2.1.length (rz x.1 1), .amap (enQ x.2.2.2.2.2.2), .row x.2.2.2.1.length (rz x.2.2.1 1)])
def k24 := Q @Tryz.underlying79 (Q @enQ_find (Q @gQ_d (Q @gQ_s (Q @enQ_put (Q @enQ_put0 (Q @enQ_refs (Q @enQ_refs2 (Q @enQ_ren (Q @enQ_ro (Q (rx c24_30) (Q (rx c24_27) (Q @hd140 (Q @nv141 (Q @rw142 (Q (fun mm => ry (E0 mm) c24_32) (Q @zv3 (Q (rx c24_12) (Q (rx c24_20) (Q (rx c24_22) (Q @f63_t (Q @e63.eq_1 (Q (rx c24_25) (Q @K24_10.eq_1 (Q (rx c24_1) (Q (rx c24_3) (Q (rx c24_5) (Q (rx c24_8) (Q (fun (mm : Int) (l_0 : Bool) (l_1 : List (Bs × Bs)) => (show callW (E0 mm) 26 [cd (.lst l_0 (enL enSS l_1)), cd (dS ([118, 97, 114, 121] : Bs))] [] = _ from f26_t l_0 l_1 ([118, 97, 114, 121] : Bs))) (Q @f26_t (Q @e26.eq_1 (Q (fun mm => lx (E0 mm) 24 c24_10 c24_11 L24_0) (Q (nE c24_0 (.seq c24_1 (.seq c24_3 (.seq c24_5 (.seq (.seq c24_8 (.block 0 c24_10)) c24_31))))) (Q (nE c24_11 (.seq c24_12 (.seq (.cond _ .skip (.exit 0)) (.seq (.block 1 (.seq c24_20 (.seq c24_22 (.seq (.seq c24_25 c24_26) c24_29)))) c24_30)))) (Q @en24_10.eq_1 (Q @L24_0.eq_1 hA)))))))))))))))))))))))))))))))))))
theorem j24_29_t (names4_0 : Bool) (names4_1 : List Bs) (name8 : Bs) (t11_0 : Bool) (t11_1 : List Bs) (t12 t13 : Int) (qm1 : List (Bs × Int))  (sl : Sl) (_ : sl 4 = .v (.c (.own names4_0 (enL enS names4_1) 0))) (_ : sl 5 = .v (.c (.mp 1))) (_ : sl 8 = vd (dS name8)) (_ : sl 11 = .v (.c (.own t11_0 (enL enS t11_1) 2))) (_ : sl 12 = vd (dI t12)) (_ : sl 13 = vd (dI t13)) :
    stepE (K24_10 mm) (loopK 0 L24_0 (sq (E0 mm) 24 0 c24_30 (blockD 1 (dn (E0 mm) 24 0 c24_29 sl [.row names4_1.length (rz names4_0 1), .amap (enQ qm1), .row t11_1.length (rz t11_0 1)])))) = (j24_29 names4_0 names4_1 name8 t11_0 t11_1 t12 t13 qm1).map (sm en24_10 e24) := by
  unfold j24_29; exact go (Q (rx c24_29) k24) trivial
def j24_26 (names4_0 : Bool) (names4_1 : List Bs) (name8 : Bs) (t11_0 : Bool) (t11_1 : List Bs) (t12 t13 : Int) (t26 : Bool) (qm1 : List (Bs × Int)) : Option ((Bool × List Bs × Bool × List Bs × Int × Int × List (Bs × Int)) ⊕ R24) :=
  if t26 = true then
    if (names4_1.length + 1) * 16 ≤ 140737488355328 then
      j24_29 false (names4_1 ++ ([name8] : List Bs)) name8 t11_0 t11_1 t12 t13 qm1
    else none
  else
    j24_29 names4_0 names4_1 name8 t11_0 t11_1 t12 t13 qm1
theorem j24_26_t (names4_0 : Bool) (names4_1 : List Bs) (name8 : Bs) (t11_0 : Bool) (t11_1 : List Bs) (t12 t13 : Int) (t26 : Bool) (qm1 : List (Bs × Int))  (sl : Sl) (_ : sl 4 = .v (.c (.own names4_0 (enL enS names4_1) 0))) (_ : sl 5 = .v (.c (.mp 1))) (_ : sl 8 = vd (dS name8)) (_ : sl 11 = .v (.c (.own t11_0 (enL enS t11_1) 2))) (_ : sl 12 = vd (dI t12)) (_ : sl 13 = vd (dI t13)) (_ : sl 26 = vd (dB t26)) :
    stepE (K24_10 mm) (loopK 0 L24_0 (sq (E0 mm) 24 0 c24_30 (blockD 1 (sq (E0 mm) 24 0 c24_29 (dn (E0 mm) 24 0 c24_26 sl [.row names4_1.length (rz names4_0 1), .amap (enQ qm1), .row t11_1.length (rz t11_0 1)]))))) = (j24_26 names4_0 names4_1 name8 t11_0 t11_1 t12 t13 t26 qm1).map (sm en24_10 e24) := by
  unfold j24_26; exact go (Q (nE c24_26 (.cond _ c24_27 .skip)) k24) @j24_29_t
def j24_31 (names4_0 : Bool) (names4_1 : List Bs) (qm1 : List (Bs × Int)) : Option R24 :=
  some (names4_0, names4_1, (decide (0 < (getQ ([42] : Bs) qm1))))
theorem j24_31_t (names4_0 : Bool) (names4_1 : List Bs) (qm1 : List (Bs × Int)) (g2 : Ob) (sl : Sl) (_ : sl 4 = .v (.c (.own names4_0 (enL enS names4_1) 0))) (_ : sl 5 = .v (.c (.mp 1))) :
    bodyD (E0 mm) [.tmp 2, .tmp 3] 0 false (dn (E0 mm) 24 0 c24_31 sl [.row names4_1.length (rz names4_0 1), .amap (enQ qm1), g2]) = (j24_31 names4_0 names4_1 qm1).map e24 := by
  unfold j24_31; exact go (Q (nE c24_31 (.seq c24_32 .ret)) k24) trivial
def s24_10 (names4_0 : Bool) (names4_1 : List Bs) (t11_0 : Bool) (t11_1 : List Bs) (t12 t13 : Int) (qm1 : List (Bs × Int)) : Option ((Bool × List Bs × Bool × List Bs × Int × Int × List (Bs × Int)) ⊕ R24) :=
  if (decide (t13 < t12)) = true then
    if 0 ≤ t13 ∧ t13 < (t11_1.length : Int) then
      (m63 (t11_1.getD t13.toNat default)).bind fun yr7 =>
        if ((getQ yr7 qm1) == 0) = true then
          j24_26 names4_0 names4_1 yr7 t11_0 t11_1 t12 t13 (!(yr7 == ([42] : Bs))) qm1
        else
          j24_26 names4_0 names4_1 yr7 t11_0 t11_1 t12 t13 false qm1
    else none
  else
    (j24_31 names4_0 names4_1 qm1).map .inr
theorem s24_10_t (names4_0 : Bool) (names4_1 : List Bs) (t11_0 : Bool) (t11_1 : List Bs) (t12 t13 : Int) (qm1 : List (Bs × Int)) :
    stepE (K24_10 mm) (lp (E0 mm) 24 0 c24_11 L24_0 (en24_10 (names4_0, names4_1, t11_0, t11_1, t12, t13, qm1))) = (s24_10 names4_0 names4_1 t11_0 t11_1 t12 t13 qm1).map (sm en24_10 e24) := by
  unfold s24_10; exact go k24 (Q @j24_26_t @j24_31_t)
def l24_10 (names4_0 : Bool) (names4_1 : List Bs) (t11_0 : Bool) (t11_1 : List Bs) (t12 t13 : Int) (qm1 : List (Bs × Int)) : Option R24 := iter (fun x : (Bool × List Bs × Bool × List Bs × Int × Int × List (Bs × Int)) => s24_10 x.1 x.2.1 x.2.2.1 x.2.2.2.1 x.2.2.2.2.1 x.2.2.2.2.2.1 x.2.2.2.2.2.2) (names4_0, names4_1, t11_0, t11_1, t12, t13, qm1)
theorem l24_10_t (names4_0 : Bool) (names4_1 : List Bs) (t11_0 : Bool) (t11_1 : List Bs) (t12 t13 : Int) (qm1 : List (Bs × Int)) : (K24_10 mm) (itW (lp (E0 mm) 24 0 c24_11 L24_0) (en24_10 (names4_0, names4_1, t11_0, t11_1, t12, t13, qm1))) = (l24_10 names4_0 names4_1 t11_0 t11_1 t12 t13 qm1).map e24 :=
  it_sim (K := (K24_10 mm)) rfl (enc := en24_10) (fun x => s24_10_t x.1 x.2.1 x.2.2.1 x.2.2.2.1 x.2.2.2.2.1 x.2.2.2.2.2.1 x.2.2.2.2.2.2) (names4_0, names4_1, t11_0, t11_1, t12, t13, qm1)
def m24 (l_0 : Bool) (l_1 : List (Bs × Bs)) : Option R24 :=
  (m26 l_0 l_1 ([118, 97, 114, 121] : Bs)).bind fun yr2 =>
    l24_10 true ([] : List Bs) yr2.1 yr2.2 (yr2.2.length : Int) (0 : Int) ([] : List (Bs × Int))
theorem f24_t (l_0 : Bool) (l_1 : List (Bs × Bs)) :
    callW (E0 mm) 24 [cd (.lst l_0 (enL enSS l_1))] [] = (m24 l_0 l_1).map e24 := by
  rw [cR c24_0 [.tmp 2, .tmp 3] Tryz.func24]
  unfold m24; exact go k24 @l24_10_t
noncomputable def c84_0 : Code := bodyOf Tryz.f84
def c84_1 := cA c84_0
def c84_3 := cA (cB c84_0)
abbrev R84 := (Bool × Bs × Bool × List (Bs × Bs))
def e84 (x : R84) : AV × Heap := (vd (dB x.1), [.cells [.d (dS x.2.1)], .cells [.d (.lst x.2.2.1 (enL enSS x.2.2.2))]])
def m84 (h0_0 : Bs) (h1_0_0 : Bool) (h1_0_1 : List (Bs × Bs)) : Option R84 :=
  if (h0_0 == ([71, 69, 84] : Bs)) = true then
    (m30 h1_0_0 h1_0_1).bind fun yr3 =>
      if yr3 = true then
        (m41 h1_0_0 h1_0_1).bind fun yr6 =>
          some ((!yr6.1), h0_0, h1_0_0, h1_0_1)
      else
        some (false, h0_0, h1_0_0, h1_0_1)
  else
    some (false, h0_0, h1_0_0, h1_0_1)
def k84 := Q (rx c84_1) (Q (rx c84_3) (Q @f30_t (Q @e30.eq_1 (Q @f41_t (Q @e41.eq_1 (Q (nE c84_0 (.seq c84_1 (.seq c84_3 .ret))) hA))))))
theorem f84_t (h0_0 : Bs) (h1_0_0 : Bool) (h1_0_1 : List (Bs × Bs)) :
    callW (E0 mm) 84 [.c (.ptr 0 0), .c (.ptr 1 0)] [.cells [.d (dS h0_0)], .cells [.d (.lst h1_0_0 (enL enSS h1_0_1))]] = (m84 h0_0 h1_0_0 h1_0_1).map e84 := by
  rw [cR c84_0 [.tmp 2] Tryz.func84]
  unfold m84; exact go k84 trivial
noncomputable def c91_0 : Code := bodyOf Tryz.f91
def c91_1 := cA c91_0
def c91_3 := cA (cB c91_0)
abbrev R91 := (Bool × Bs × Bool × List (Bs × Bs))
def e91 (x : R91) : AV × Heap := (vd (dB x.1), [.cells [.d (dS x.2.1)], .cells [.d (.lst x.2.2.1 (enL enSS x.2.2.2))]])
def m91 (h0_0 : Bs) (h1_0_0 : Bool) (h1_0_1 : List (Bs × Bs)) : Option R91 :=
  (m84 h0_0 h1_0_0 h1_0_1).bind fun yr2 =>
    some ((!yr2.1), yr2.2.1, yr2.2.2.1, yr2.2.2.2)
def k91 := Q (rx c91_1) (Q (rx c91_3) (Q @ent84 (Q @prm84 (Q @f84_t (Q @e84.eq_1 (Q (nE c91_0 (.seq c91_1 (.seq c91_3 .ret))) hA))))))
theorem f91_t (h0_0 : Bs) (h1_0_0 : Bool) (h1_0_1 : List (Bs × Bs)) :
    callW (E0 mm) 91 [.c (.fn 84 [(0, 0), (1, 0)])] [.cells [.d (dS h0_0)], .cells [.d (.lst h1_0_0 (enL enSS h1_0_1))]] = (m91 h0_0 h1_0_0 h1_0_1).map e91 := by
  rw [cR c91_0 [.tmp 2] Tryz.func91]
  unfold m91; exact go k91 trivial
noncomputable def c86_0 : Code := bodyOf Tryz.f86
def c86_1 := cA c86_0
def c86_3 := cA (cB c86_0)
abbrev R86 := (Bool)
def e86 (x : R86) : AV × Heap := (vd (dB x), [])
def m86 (status : Int) : Option R86 :=
  (m67 false ([(200 : Int), (203 : Int), (204 : Int), (300 : Int), (301 : Int), (308 : Int), (404 : Int), (405 : Int), (410 : Int), (414 : Int), (501 : Int)] : List Int) status).bind fun yr2 =>
    some yr2
def k86 := Q (rx c86_1) (Q (rx c86_3) (Q @hd148 (Q @nv149 (Q @rw150 (Q (fun (mm : Int) (status : Int) => (show callW (E0 mm) 67 [cd (.lst false (enL enN ([(200 : Int), (203 : Int), (204 : Int), (300 : Int), (301 : Int), (308 : Int), (404 : Int), (405 : Int), (410 : Int), (414 : Int), (501 : Int)] : List Int))), cd (dI status)] [] = _ from f67_t false ([(200 : Int), (203 : Int), (204 : Int), (300 : Int), (301 : Int), (308 : Int), (404 : Int), (405 : Int), (410 : Int), (414 : Int), (501 : Int)] : List Int) status)) (Q @f67_t (Q @e67.eq_1 (Q (nE c86_0 (.seq c86_1 (.seq c86_3 .ret))) hA))))))))
theorem f86_t (status : Int) :
    callW (E0 mm) 86 [cd (dI status)] [] = (m86 status).map e86 := by
  rw [cR c86_0 [.tmp 2] Tryz.func86]
  unfold m86; exact go k86 trivial
noncomputable def c85_0 : Code := bodyOf Tryz.f85
def c85_1 := cA c85_0
def c85_3 := cA (cB c85_0)
abbrev R85 := (Bool × Int × Bs × Int × Bool × List (Bs × Bs) × Bool × List UInt8 × Bool × Bool × Bool × Bool × Bool × Bool × Int × Int × Int × Int × Bool)
def e85 (x : R85) : AV × Heap := (vd (dB x.1), [.cells [.d (dI x.2.1), .d (dS x.2.2.1), .d (dI x.2.2.2.1), .d (.lst x.2.2.2.2.1 (enL enSS x.2.2.2.2.2.1)), .d (.lst x.2.2.2.2.2.2.1 (enL enB x.2.2.2.2.2.2.2.1))], .cells [.d (dB x.2.2.2.2.2.2.2.2.1), .d (dB x.2.2.2.2.2.2.2.2.2.1), .d (dB x.2.2.2.2.2.2.2.2.2.2.1), .d (dB x.2.2.2.2.2.2.2.2.2.2.2.1), .d (dB x.2.2.2.2.2.2.2.2.2.2.2.2.1), .d (dB x.2.2.2.2.2.2.2.2.2.2.2.2.2.1), .d (dI x.2.2.2.2.2.2.2.2.2.2.2.2.2.2.1), .d (dI x.2.2.2.2.2.2.2.2.2.2.2.2.2.2.2.1), .d (dI x.2.2.2.2.2.2.2.2.2.2.2.2.2.2.2.2.1), .d (dI x.2.2.2.2.2.2.2.2.2.2.2.2.2.2.2.2.2.1)], .cells [.d (dB x.2.2.2.2.2.2.2.2.2.2.2.2.2.2.2.2.2.2)]])
def m85 (h0_0 : Int) (h0_1 : Bs) (h0_2 : Int) (h0_3_0 : Bool) (h0_3_1 : List (Bs × Bs)) (h0_4_0 : Bool) (h0_4_1 : List UInt8) (h1_0 h1_1 : Bool) (h1_2 h1_3 : Bool) (h1_4 h1_5 : Bool) (h1_6 h1_7 : Int) (h1_8 h1_9 : Int) (h2_0 : Bool) : Option R85 :=
  (m86 h0_0).bind fun yr2 =>
    if yr2 = true then
      if h1_0 = true then
        some (false, h0_0, h0_1, h0_2, h0_3_0, h0_3_1, h0_4_0, h0_4_1, true, h1_1, h1_2, h1_3, h1_4, h1_5, h1_6, h1_7, h1_8, h1_9, h2_0)
      else
        if h1_2 = true then
          some (false, h0_0, h0_1, h0_2, h0_3_0, h0_3_1, h0_4_0, h0_4_1, false, h1_1, true, h1_3, h1_4, h1_5, h1_6, h1_7, h1_8, h1_9, h2_0)
        else
          some ((!h2_0), h0_0, h0_1, h0_2, h0_3_0, h0_3_1, h0_4_0, h0_4_1, false, h1_1, false, h1_3, h1_4, h1_5, h1_6, h1_7, h1_8, h1_9, h2_0)
    else
      some (false, h0_0, h0_1, h0_2, h0_3_0, h0_3_1, h0_4_0, h0_4_1, h1_0, h1_1, h1_2, h1_3, h1_4, h1_5, h1_6, h1_7, h1_8, h1_9, h2_0)
def k85 := Q (rx c85_1) (Q (rx c85_3) (Q @ent86 (Q @prm86 (Q @f86_t (Q @e86.eq_1 (Q (nE c85_0 (.seq c85_1 (.seq c85_3 .ret))) hA))))))
theorem f85_t (h0_0 : Int) (h0_1 : Bs) (h0_2 : Int) (h0_3_0 : Bool) (h0_3_1 : List (Bs × Bs)) (h0_4_0 : Bool) (h0_4_1 : List UInt8) (h1_0 h1_1 : Bool) (h1_2 h1_3 : Bool) (h1_4 h1_5 : Bool) (h1_6 h1_7 : Int) (h1_8 h1_9 : Int) (h2_0 : Bool) :
    callW (E0 mm) 85 [.c (.ptr 0 0), .c (.ptr 1 0), .c (.ptr 2 0)] [.cells [.d (dI h0_0), .d (dS h0_1), .d (dI h0_2), .d (.lst h0_3_0 (enL enSS h0_3_1)), .d (.lst h0_4_0 (enL enB h0_4_1))], .cells [.d (dB h1_0), .d (dB h1_1), .d (dB h1_2), .d (dB h1_3), .d (dB h1_4), .d (dB h1_5), .d (dI h1_6), .d (dI h1_7), .d (dI h1_8), .d (dI h1_9)], .cells [.d (dB h2_0)]] = (m85 h0_0 h0_1 h0_2 h0_3_0 h0_3_1 h0_4_0 h0_4_1 h1_0 h1_1 h1_2 h1_3 h1_4 h1_5 h1_6 h1_7 h1_8 h1_9 h2_0).map e85 := by
  rw [cR c85_0 [.tmp 3] Tryz.func85]
  unfold m85; exact go k85 trivial
abbrev R91a := (Bool × Int × Bs × Int × Bool × List (Bs × Bs) × Bool × List UInt8 × Bool × Bool × Bool × Bool × Bool × Bool × Int × Int × Int × Int × Bool)
def e91a (x : R91a) : AV × Heap := (vd (dB x.1), [.cells [.d (dI x.2.1), .d (dS x.2.2.1), .d (dI x.2.2.2.1), .d (.lst x.2.2.2.2.1 (enL enSS x.2.2.2.2.2.1)), .d (.lst x.2.2.2.2.2.2.1 (enL enB x.2.2.2.2.2.2.2.1))], .cells [.d (dB x.2.2.2.2.2.2.2.2.1), .d (dB x.2.2.2.2.2.2.2.2.2.1), .d (dB x.2.2.2.2.2.2.2.2.2.2.1), .d (dB x.2.2.2.2.2.2.2.2.2.2.2.1), .d (dB x.2.2.2.2.2.2.2.2.2.2.2.2.1), .d (dB x.2.2.2.2.2.2.2.2.2.2.2.2.2.1), .d (dI x.2.2.2.2.2.2.2.2.2.2.2.2.2.2.1), .d (dI x.2.2.2.2.2.2.2.2.2.2.2.2.2.2.2.1), .d (dI x.2.2.2.2.2.2.2.2.2.2.2.2.2.2.2.2.1), .d (dI x.2.2.2.2.2.2.2.2.2.2.2.2.2.2.2.2.2.1)], .cells [.d (dB x.2.2.2.2.2.2.2.2.2.2.2.2.2.2.2.2.2.2)]])
def m91a (h0_0 : Int) (h0_1 : Bs) (h0_2 : Int) (h0_3_0 : Bool) (h0_3_1 : List (Bs × Bs)) (h0_4_0 : Bool) (h0_4_1 : List UInt8) (h1_0 h1_1 : Bool) (h1_2 h1_3 : Bool) (h1_4 h1_5 : Bool) (h1_6 h1_7 : Int) (h1_8 h1_9 : Int) (h2_0 : Bool) : Option R91a :=
  (m85 h0_0 h0_1 h0_2 h0_3_0 h0_3_1 h0_4_0 h0_4_1 h1_0 h1_1 h1_2 h1_3 h1_4 h1_5 h1_6 h1_7 h1_8 h1_9 h2_0).bind fun yr2 =>
    some ((!yr2.1), yr2.2.1, yr2.2.2.1, yr2.2.2.2.1, yr2.2.2.2.2.1, yr2.2.2.2.2.2.1, yr2.2.2.2.2.2.2.1, yr2.2.2.2.2.2.2.2.1, yr2.2.2.2.2.2.2.2.2.1, yr2.2.2.2.2.2.2.2.2.2.1, yr2.2.2.2.2.2.2.2.2.2.2.1, yr2.2.2.2.2.2.2.2.2.2.2.2.1, yr2.2.2.2.2.2.2.2.2.2.2.2.2.1, yr2.2.2.2.2.2.2.2.2.2.2.2.2.2.1, yr2.2.2.2.2.2.2.2.2.2.2.2.2.2.2.1, yr2.2.2.2.2.2.2.2.2.2.2.2.2.2.2.2.1, yr2.2.2.2.2.2.2.2.2.2.2.2.2.2.2.2.2.1, yr2.2.2.2.2.2.2.2.2.2.2.2.2.2.2.2.2.2.1, yr2.2.2.2.2.2.2.2.2.2.2.2.2.2.2.2.2.2.2)
def k91a := Q (rx c91_1) (Q (rx c91_3) (Q @ent85 (Q @prm85 (Q @f85_t (Q @e85.eq_1 (Q (nE c91_0 (.seq c91_1 (.seq c91_3 .ret))) hA))))))
theorem f91a_t (h0_0 : Int) (h0_1 : Bs) (h0_2 : Int) (h0_3_0 : Bool) (h0_3_1 : List (Bs × Bs)) (h0_4_0 : Bool) (h0_4_1 : List UInt8) (h1_0 h1_1 : Bool) (h1_2 h1_3 : Bool) (h1_4 h1_5 : Bool) (h1_6 h1_7 : Int) (h1_8 h1_9 : Int) (h2_0 : Bool) :
    callW (E0 mm) 91 [.c (.fn 85 [(0, 0), (1, 0), (2, 0)])] [.cells [.d (dI h0_0), .d (dS h0_1), .d (dI h0_2), .d (.lst h0_3_0 (enL enSS h0_3_1)), .d (.lst h0_4_0 (enL enB h0_4_1))], .cells [.d (dB h1_0), .d (dB h1_1), .d (dB h1_2), .d (dB h1_3), .d (dB h1_4), .d (dB h1_5), .d (dI h1_6), .d (dI h1_7), .d (dI h1_8), .d (dI h1_9)], .cells [.d (dB h2_0)]] = (m91a h0_0 h0_1 h0_2 h0_3_0 h0_3_1 h0_4_0 h0_4_1 h1_0 h1_1 h1_2 h1_3 h1_4 h1_5 h1_6 h1_7 h1_8 h1_9 h2_0).map e91a := by
  rw [cR c91_0 [.tmp 2] Tryz.func91]
  unfold m91a; exact go k91a trivial
noncomputable def c87_0 : Code := bodyOf Tryz.f87
def c87_1 := cA c87_0
def c87_3 := cA (cB c87_0)
abbrev R87 := (Bool × Bool × List (Bs × Bs) × Bool × Bool × Bool × Bool × Bool × Bool × Int × Int × Int × Int)
def e87 (x : R87) : AV × Heap := (vd (dB x.1), [.cells [.d (.lst x.2.1 (enL enSS x.2.2.1))], .cells [.d (dB x.2.2.2.1), .d (dB x.2.2.2.2.1), .d (dB x.2.2.2.2.2.1), .d (dB x.2.2.2.2.2.2.1), .d (dB x.2.2.2.2.2.2.2.1), .d (dB x.2.2.2.2.2.2.2.2.1), .d (dI x.2.2.2.2.2.2.2.2.2.1), .d (dI x.2.2.2.2.2.2.2.2.2.2.1), .d (dI x.2.2.2.2.2.2.2.2.2.2.2.1), .d (dI x.2.2.2.2.2.2.2.2.2.2.2.2)]])
def m87 (h0_0_0 : Bool) (h0_0_1 : List (Bs × Bs)) (h1_0 h1_1 : Bool) (h1_2 h1_3 : Bool) (h1_4 h1_5 : Bool) (h1_6 h1_7 : Int) (h1_8 h1_9 : Int) : Option R87 :=
  (m58 h0_0_0 h0_0_1 false ([([97, 117, 116, 104, 111, 114, 105, 122, 97, 116, 105, 111, 110] : Bs)] : List Bs)).bind fun yr2 =>
    if yr2 = true then
      if h1_3 = true then
        some (true, h0_0_0, h0_0_1, h1_0, h1_1, h1_2, true, h1_4, h1_5, h1_6, h1_7, h1_8, h1_9)
      else
        if h1_4 = true then
          some (true, h0_0_0, h0_0_1, h1_0, h1_1, h1_2, false, true, h1_5, h1_6, h1_7, h1_8, h1_9)
        else
          some ((decide (0 ≤ h1_7)), h0_0_0, h0_0_1, h1_0, h1_1, h1_2, false, false, h1_5, h1_6, h1_7, h1_8, h1_9)
    else
      some (true, h0_0_0, h0_0_1, h1_0, h1_1, h1_2, h1_3, h1_4, h1_5, h1_6, h1_7, h1_8, h1_9)
def k87 := Q (rx c87_1) (Q (rx c87_3) (Q @hd151 (Q @nv152 (Q @rw153 (Q (fun (mm : Int) (h0_0_0 : Bool) (h0_0_1 : List (Bs × Bs)) => (show callW (E0 mm) 58 [cd (.lst h0_0_0 (enL enSS h0_0_1)), cd (.lst false (enL enS ([([97, 117, 116, 104, 111, 114, 105, 122, 97, 116, 105, 111, 110] : Bs)] : List Bs)))] [] = _ from f58_t h0_0_0 h0_0_1 false ([([97, 117, 116, 104, 111, 114, 105, 122, 97, 116, 105, 111, 110] : Bs)] : List Bs))) (Q @f58_t (Q @e58.eq_1 (Q (nE c87_0 (.seq c87_1 (.seq c87_3 .ret))) hA))))))))
theorem f87_t (h0_0_0 : Bool) (h0_0_1 : List (Bs × Bs)) (h1_0 h1_1 : Bool) (h1_2 h1_3 : Bool) (h1_4 h1_5 : Bool) (h1_6 h1_7 : Int) (h1_8 h1_9 : Int) :
    callW (E0 mm) 87 [.c (.ptr 0 0), .c (.ptr 1 0)] [.cells [.d (.lst h0_0_0 (enL enSS h0_0_1))], .cells [.d (dB h1_0), .d (dB h1_1), .d (dB h1_2), .d (dB h1_3), .d (dB h1_4), .d (dB h1_5), .d (dI h1_6), .d (dI h1_7), .d (dI h1_8), .d (dI h1_9)]] = (m87 h0_0_0 h0_0_1 h1_0 h1_1 h1_2 h1_3 h1_4 h1_5 h1_6 h1_7 h1_8 h1_9).map e87 := by
  rw [cR c87_0 [.tmp 2] Tryz.func87]
  unfold m87; exact go k87 trivial
abbrev R91b := (Bool × Bool × List (Bs × Bs) × Bool × Bool × Bool × Bool × Bool × Bool × Int × Int × Int × Int)
def e91b (x : R91b) : AV × Heap := (vd (dB x.1), [.cells [.d (.lst x.2.1 (enL enSS x.2.2.1))], .cells [.d (dB x.2.2.2.1), .d (dB x.2.2.2.2.1), .d (dB x.2.2.2.2.2.1), .d (dB x.2.2.2.2.2.2.1), .d (dB x.2.2.2.2.2.2.2.1), .d (dB x.2.2.2.2.2.2.2.2.1), .d (dI x.2.2.2.2.2.2.2.2.2.1), .d (dI x.2.2.2.2.2.2.2.2.2.2.1), .d (dI x.2.2.2.2.2.2.2.2.2.2.2.1), .d (dI x.2.2.2.2.2.2.2.2.2.2.2.2)]])
def m91b (h0_0_0 : Bool) (h0_0_1 : List (Bs × Bs)) (h1_0 h1_1 : Bool) (h1_2 h1_3 : Bool) (h1_4 h1_5 : Bool) (h1_6 h1_7 : Int) (h1_8 h1_9 : Int) : Option R91b :=
  (m87 h0_0_0 h0_0_1 h1_0 h1_1 h1_2 h1_3 h1_4 h1_5 h1_6 h1_7 h1_8 h1_9).bind fun yr2 =>
    some ((!yr2.1), yr2.2.1, yr2.2.2.1, yr2.2.2.2.1, yr2.2.2.2.2.1, yr2.2.2.2.2.2.1, yr2.2.2.2.2.2.2.1, yr2.2.2.2.2.2.2.2.1, yr2.2.2.2.2.2.2.2.2.1, yr2.2.2.2.2.2.2.2.2.2.1, yr2.2.2.2.2.2.2.2.2.2.2.1, yr2.2.2.2.2.2.2.2.2.2.2.2.1, yr2.2.2.2.2.2.2.2.2.2.2.2.2)
def k91b := Q (rx c91_1) (Q (rx c91_3) (Q @ent87 (Q @prm87 (Q @f87_t (Q @e87.eq_1 (Q (nE c91_0 (.seq c91_1 (.seq c91_3 .ret))) hA))))))
theorem f91b_t (h0_0_0 : Bool) (h0_0_1 : List (Bs × Bs)) (h1_0 h1_1 : Bool) (h1_2 h1_3 : Bool) (h1_4 h1_5 : Bool) (h1_6 h1_7 : Int) (h1_8 h1_9 : Int) :
    callW (E0 mm) 91 [.c (.fn 87 [(0, 0), (1, 0)])] [.cells [.d (.lst h0_0_0 (enL enSS h0_0_1))], .cells [.d (dB h1_0), .d (dB h1_1), .d (dB h1_2), .d (dB h1_3), .d (dB h1_4), .d (dB h1_5), .d (dI h1_6), .d (dI h1_7), .d (dI h1_8), .d (dI h1_9)]] = (m91b h0_0_0 h0_0_1 h1_0 h1_1 h1_2 h1_3 h1_4 h1_5 h1_6 h1_7 h1_8 h1_9).map e91b := by
  rw [cR c91_0 [.tmp 2] Tryz.func91]
  unfold m91b; exact go k91b trivial
noncomputable def c70_0 : Code := bodyOf Tryz.f70
def c70_1 := cA c70_0
def c70_3 := cA (cB c70_0)
abbrev R70 := (Bool)
def e70 (x : R70) : AV × Heap := (vd (dB x), [])
def m70 (s substr : Bs) : Option R70 :=
  (m117 s substr).bind fun yr2 =>
    some (decide (0 ≤ yr2))
def k70 := Q (rx c70_1) (Q (rx c70_3) (Q @f117_t (Q @e117.eq_1 (Q (nE c70_0 (.seq c70_1 (.seq c70_3 .ret))) hA))))
theorem f70_t (s substr : Bs) :
    callW (E0 mm) 70 [cd (dS s), cd (dS substr)] [] = (m70 s substr).map e70 := by
  rw [cR c70_0 [.tmp 4] Tryz.func70]
  unfold m70; exact go k70 trivial
noncomputable def c27_0 : Code := bodyOf Tryz.f27
def c27_1 := cA c27_0
def c27_3 := cA (cB c27_0)
abbrev R27 := (Bool)
def e27 (x : R27) : AV × Heap := (vd (dB x), [])
def m27 (name : Bs) : Option R27 :=
  (m69 name).bind fun yr2 =>
    if yr2 = true then
      (m63 name).bind fun yr5 =>
        if 1 + yr5.length < 9223372036854775808 then
          if ((32 : UInt8) :: yr5).length + 1 < 9223372036854775808 then
            (m70 ([32, 97, 103, 101, 32, 97, 117, 116, 104, 111, 114, 105, 122, 97, 116, 105, 111, 110, 32, 99, 97, 99, 104, 101, 45, 99, 111, 110, 116, 114, 111, 108, 32, 99, 111, 110, 116, 101, 110, 116, 45, 101, 110, 99, 111, 100, 105, 110, 103, 32, 99, 111, 110, 116, 101, 110, 116, 45, 108, 111, 99, 97, 116, 105, 111, 110, 32, 99, 111, 110, 116, 101, 110, 116, 45, 114, 97, 110, 103, 101, 32, 99, 111, 110, 116, 101, 110, 116, 45, 116, 121, 112, 101, 32, 100, 97, 116, 101, 32, 101, 116, 97, 103, 32, 101, 120, 112, 105, 114, 101, 115, 32, 104, 111, 115, 116, 32, 105, 102, 45, 109, 97, 116, 99, 104, 32, 105, 102, 45, 109, 111, 100, 105, 102, 105, 101, 100, 45, 115, 105, 110, 99, 101, 32, 105, 102, 45, 110, 111, 110, 101, 45, 109, 97, 116, 99, 104, 32, 105, 102, 45, 114, 97, 110, 103, 101, 32, 105, 102, 45, 117, 110, 109, 111, 100, 105, 102, 105, 101, 100, 45, 115, 105, 110, 99, 101, 32, 108, 97, 115, 116, 45, 109, 111, 100, 105, 102, 105, 101, 100, 32, 108, 111, 99, 97, 116, 105, 111, 110, 32, 112, 114, 97, 103, 109, 97, 32, 114, 97, 110, 103, 101, 32, 118, 97, 114, 121, 32, 118, 105, 97, 32] : Bs) (((32 : UInt8) :: yr5) ++ ([32] : Bs))).bind fun yr9 =>
              some yr9
          else none
        else none
    else
      some false
def k27 := Q (rx c27_1) (Q (rx c27_3) (Q @f69_t (Q @e69.eq_1 (Q @f63_t (Q @e63.eq_1 (Q @List.append_eq.{0} (Q @ent70 (Q @prm70 (Q (fun (mm : Int) (yr5 : R63) => (show callW (E0 mm) 70 [cd (dS ([32, 97, 103, 101, 32, 97, 117, 116, 104, 111, 114, 105, 122, 97, 116, 105, 111, 110, 32, 99, 97, 99, 104, 101, 45, 99, 111, 110, 116, 114, 111, 108, 32, 99, 111, 110, 116, 101, 110, 116, 45, 101, 110, 99, 111, 100, 105, 110, 103, 32, 99, 111, 110, 116, 101, 110, 116, 45, 108, 111, 99, 97, 116, 105, 111, 110, 32, 99, 111, 110, 116, 101, 110, 116, 45, 114, 97, 110, 103, 101, 32, 99, 111, 110, 116, 101, 110, 116, 45, 116, 121, 112, 101, 32, 100, 97, 116, 101, 32, 101, 116, 97, 103, 32, 101, 120, 112, 105, 114, 101, 115, 32, 104, 111, 115, 116, 32, 105, 102, 45, 109, 97, 116, 99, 104, 32, 105, 102, 45, 109, 111, 100, 105, 102, 105, 101, 100, 45, 115, 105, 110, 99, 101, 32, 105, 102, 45, 110, 111, 110, 101, 45, 109, 97, 116, 99, 104, 32, 105, 102, 45, 114, 97, 110, 103, 101, 32, 105, 102, 45, 117, 110, 109, 111, 100, 105, 102, 105, 101, 100, 45, 115, 105, 110, 99, 101, 32, 108, 97, 115, 116, 45, 109, 111, 100, 105, 102, 105, 101, 100, 32, 108, 111, 99, 97, 116, 105, 111, 110, 32, 112, 114, 97, 103, 109, 97, 32, 114, 97, 110, 103, 101, 32, 118, 97, 114, 121, 32, 118, 105, 97, 32] : Bs)), cd (dS (((32 : UInt8) :: yr5) ++ ([32] : Bs)))] [] = _ from f70_t ([32, 97, 103, 101, 32, 97, 117, 116, 104, 111, 114, 105, 122, 97, 116, 105, 111, 110, 32, 99, 97, 99, 104, 101, 45, 99, 111, 110, 116, 114, 111, 108, 32, 99, 111, 110, 116, 101, 110, 116, 45, 101, 110, 99, 111, 100, 105, 110, 103, 32, 99, 111, 110, 116, 101, 110, 116, 45, 108, 111, 99, 97, 116, 105, 111, 110, 32, 99, 111, 110, 116, 101, 110, 116, 45, 114, 97, 110, 103, 101, 32, 99, 111, 110, 116, 101, 110, 116, 45, 116, 121, 112, 101, 32, 100, 97, 116, 101, 32, 101, 116, 97, 103, 32, 101, 120, 112, 105, 114, 101, 115, 32, 104, 111, 115, 116, 32, 105, 102, 45, 109, 97, 116, 99, 104, 32, 105, 102, 45, 109, 111, 100, 105, 102, 105, 101, 100, 45, 115, 105, 110, 99, 101, 32, 105, 102, 45, 110, 111, 110, 101, 45, 109, 97, 116, 99, 104, 32, 105, 102, 45, 114, 97, 110, 103, 101, 32, 105, 102, 45, 117, 110, 109, 111, 100, 105, 102, 105, 101, 100, 45, 115, 105, 110, 99, 101, 32, 108, 97, 115, 116, 45, 109, 111, 100, 105, 102, 105, 101, 100, 32, 108, 111, 99, 97, 116, 105, 111, 110, 32, 112, 114, 97, 103, 109, 97, 32, 114, 97, 110, 103, 101, 32, 118, 97, 114, 121, 32, 118, 105, 97, 32] : Bs) (((32 : UInt8) :: yr5) ++ ([32] : Bs)))) (Q @f70_t (Q @e70.eq_1 (Q (nE c27_0 (.seq c27_1 (.seq c27_3 .ret))) hA))))))))))))
theorem f27_t (name : Bs) :
    callW (E0 mm) 27 [cd (dS name)] [] = (m27 name).map e27 := by
  rw [cR c27_0 [.tmp 2] Tryz.func27]
  unfold m27; exact go k27 trivial
abbrev R123c := (Int)
def L123c_0 : List (Nat × Co) := [(0, .keep), (1, .keep), (7, .keep), (8, .keep)]
def e123c (x : R123c) : AV × Heap := (vd (dI x), [])
def j123c_25  : Option R123c :=
  some (-1 : Int)
def K123c_6 (mm : Int) (r : Option (Ex × St)) : Option (AV × Heap) := bodyD (E0 mm) [.tmp 4] 0 false (sq (E0 mm) 123 0 c123_25 (blockD 0 (r)))
def en123c_6 (x : (Bool × List Bs × Int × Int)) : X := (none, [vd (.lst x.1 (enL enS x.2.1)), vd (.sc (.func (.func 27) #[] #[])), vd (dI x.2.2.1), vd (dI x.2.2.2)], [])
def k123c := Q (rx c123_26) (Q (rx c123_8) (Q (rx c123_16) (Q (rx c123_18) (Q @f27_t (Q @e27.eq_1 (Q (rx c123_21) (Q @K123c_6.eq_1 (Q (rx c123_24) (Q (rx c123_1) (Q (rx c123_4) (Q (fun mm => lx (E0 mm) 123 c123_6 c123_7 L123c_0) (Q (nE c123_0 (.seq c123_1 (.seq (.seq c123_4 (.block 0 c123_6)) c123_25))) (Q (nE c123_7 (.seq c123_8 (.seq (.cond _ .skip (.exit 0)) (.seq (.block 1 (.seq c123_16 (.seq c123_18 (.cond _ (.seq c123_21 .ret) .skip)))) c123_24)))) (Q @en123c_6.eq_1 (Q @L123c_0.eq_1 hA)))))))))))))))
theorem j123c_25_t (sl : Sl)  :
    bodyD (E0 mm) [.tmp 4] 0 false (dn (E0 mm) 123 0 c123_25 sl []) = (j123c_25).map e123c := by
  unfold j123c_25; exact go (Q (nE c123_25 (.seq c123_26 .ret)) k123c) trivial
def s123c_6 (s0_0 : Bool) (s0_1 : List Bs) (t7 t8 : Int) : Option ((Bool × List Bs × Int × Int) ⊕ R123c) :=
  if (decide (t8 < t7)) = true then
    if 0 ≤ t8 ∧ t8 < (s0_1.length : Int) then
      (m27 (s0_1.getD t8.toNat default)).bind fun yr5 =>
        if yr5 = true then
          some (.inr t8)
        else
          some (.inl (s0_0, s0_1, t7, (w64 (t8 + 1))))
    else none
  else
    (j123c_25).map .inr
theorem s123c_6_t (s0_0 : Bool) (s0_1 : List Bs) (t7 t8 : Int) :
    stepE (K123c_6 mm) (lp (E0 mm) 123 0 c123_7 L123c_0 (en123c_6 (s0_0, s0_1, t7, t8))) = (s123c_6 s0_0 s0_1 t7 t8).map (sm en123c_6 e123c) := by
  unfold s123c_6; exact go k123c @j123c_25_t
def l123c_6 (s0_0 : Bool) (s0_1 : List Bs) (t7 t8 : Int) : Option R123c := iter (fun x : (Bool × List Bs × Int × Int) => s123c_6 x.1 x.2.1 x.2.2.1 x.2.2.2) (s0_0, s0_1, t7, t8)
theorem l123c_6_t (s0_0 : Bool) (s0_1 : List Bs) (t7 t8 : Int) : (K123c_6 mm) (itW (lp (E0 mm) 123 0 c123_7 L123c_0) (en123c_6 (s0_0, s0_1, t7, t8))) = (l123c_6 s0_0 s0_1 t7 t8).map e123c :=
  it_sim (K := (K123c_6 mm)) rfl (enc := en123c_6) (fun x => s123c_6_t x.1 x.2.1 x.2.2.1 x.2.2.2) (s0_0, s0_1, t7, t8)
def m123c (s_0 : Bool) (s_1 : List Bs) : Option R123c :=
  l123c_6 s_0 s_1 (s_1.length : Int) (0 : Int)
theorem f123c_t (s_0 : Bool) (s_1 : List Bs) :
    callW (E0 mm) 123 [cd (.lst s_0 (enL enS s_1)), cd (.sc (.func (.func 27) #[] #[]))] [] = (m123c s_0 s_1).map e123c := by
  rw [cR c123_0 [.tmp 4] Tryz.func123]
  unfold m123c; exact go k123c @l123c_6_t
abbrev R79c := (Bool)
def e79c (x : R79c) : AV × Heap := (vd (dB x), [])
def m79c (s_0 : Bool) (s_1 : List Bs) : Option R79c :=
  (m123c s_0 s_1).bind fun yr2 =>
    some (decide (0 ≤ yr2))
def k79c := Q (rx c79_1) (Q (rx c79_3) (Q @f123c_t (Q @e123c.eq_1 (Q (nE c79_0 (.seq c79_1 (.seq c79_3 .ret))) hA))))
theorem f79c_t (s_0 : Bool) (s_1 : List Bs) :
    callW (E0 mm) 79 [cd (.lst s_0 (enL enS s_1)), cd (.sc (.func (.func 27) #[] #[]))] [] = (m79c s_0 s_1).map e79c := by
  rw [cR c79_0 [.tmp 4] Tryz.func79]
  unfold m79c; exact go k79c trivial
noncomputable def c88_0 : Code := bodyOf Tryz.f88
def c88_1 := cA c88_0
def c88_3 := cA (cB c88_0)
abbrev R88 := (Bool × Int × Bs × Int × Bool × List (Bs × Bs) × Bool × List UInt8)
def e88 (x : R88) : AV × Heap := (vd (dB x.1), [.cells [.d (dI x.2.1), .d (dS x.2.2.1), .d (dI x.2.2.2.1), .d (.lst x.2.2.2.2.1 (enL enSS x.2.2.2.2.2.1)), .d (.lst x.2.2.2.2.2.2.1 (enL enB x.2.2.2.2.2.2.2))]])
def m88 (h0_0 : Int) (h0_1 : Bs) (h0_2 : Int) (h0_3_0 : Bool) (h0_3_1 : List (Bs × Bs)) (h0_4_0 : Bool) (h0_4_1 : List UInt8) : Option R88 :=
  (m26 h0_3_0 h0_3_1 ([99, 111, 110, 110, 101, 99, 116, 105, 111, 110] : Bs)).bind fun yr2 =>
    (m79c yr2.1 yr2.2).bind fun yr4 =>
      some ((!yr4), h0_0, h0_1, h0_2, h0_3_0, h0_3_1, h0_4_0, h0_4_1)
def k88 := Q (rx c88_1) (Q (rx c88_3) (Q (fun (mm : Int) (h0_3_0 : Bool) (h0_3_1 : List (Bs × Bs)) => (show callW (E0 mm) 26 [cd (.lst h0_3_0 (enL enSS h0_3_1)), cd (dS ([99, 111, 110, 110, 101, 99, 116, 105, 111, 110] : Bs))] [] = _ from f26_t h0_3_0 h0_3_1 ([99, 111, 110, 110, 101, 99, 116, 105, 111, 110] : Bs))) (Q @f26_t (Q @e26.eq_1 (Q @f79c_t (Q @e79c.eq_1 (Q (nE c88_0 (.seq c88_1 (.seq c88_3 .ret))) hA)))))))
theorem f88_t (h0_0 : Int) (h0_1 : Bs) (h0_2 : Int) (h0_3_0 : Bool) (h0_3_1 : List (Bs × Bs)) (h0_4_0 : Bool) (h0_4_1 : List UInt8) :
    callW (E0 mm) 88 [.c (.ptr 0 0)] [.cells [.d (dI h0_0), .d (dS h0_1), .d (dI h0_2), .d (.lst h0_3_0 (enL enSS h0_3_1)), .d (.lst h0_4_0 (enL enB h0_4_1))]] = (m88 h0_0 h0_1 h0_2 h0_3_0 h0_3_1 h0_4_0 h0_4_1).map e88 := by
  rw [cR c88_0 [.tmp 1] Tryz.func88]
  unfold m88; exact go k88 trivial
abbrev R91c := (Bool × Int × Bs × Int × Bool × List (Bs × Bs) × Bool × List UInt8)
def e91c (x : R91c) : AV × Heap := (vd (dB x.1), [.cells [.d (dI x.2.1), .d (dS x.2.2.1), .d (dI x.2.2.2.1), .d (.lst x.2.2.2.2.1 (enL enSS x.2.2.2.2.2.1)), .d (.lst x.2.2.2.2.2.2.1 (enL enB x.2.2.2.2.2.2.2))]])
def m91c (h0_0 : Int) (h0_1 : Bs) (h0_2 : Int) (h0_3_0 : Bool) (h0_3_1 : List (Bs × Bs)) (h0_4_0 : Bool) (h0_4_1 : List UInt8) : Option R91c :=
  (m88 h0_0 h0_1 h0_2 h0_3_0 h0_3_1 h0_4_0 h0_4_1).bind fun yr2 =>
    some ((!yr2.1), yr2.2.1, yr2.2.2.1, yr2.2.2.2.1, yr2.2.2.2.2.1, yr2.2.2.2.2.2.1, yr2.2.2.2.2.2.2.1, yr2.2.2.2.2.2.2.2)
def k91c := Q (rx c91_1) (Q (rx c91_3) (Q @ent88 (Q @prm88 (Q @f88_t (Q @e88.eq_1 (Q (nE c91_0 (.seq c91_1 (.seq c91_3 .ret))) hA))))))
theorem f91c_t (h0_0 : Int) (h0_1 : Bs) (h0_2 : Int) (h0_3_0 : Bool) (h0_3_1 : List (Bs × Bs)) (h0_4_0 : Bool) (h0_4_1 : List UInt8) :
    callW (E0 mm) 91 [.c (.fn 88 [(0, 0)])] [.cells [.d (dI h0_0), .d (dS h0_1), .d (dI h0_2), .d (.lst h0_3_0 (enL enSS h0_3_1)), .d (.lst h0_4_0 (enL enB h0_4_1))]] = (m91c h0_0 h0_1 h0_2 h0_3_0 h0_3_1 h0_4_0 h0_4_1).map e91c := by
  rw [cR c91_0 [.tmp 2] Tryz.func91]
  unfold m91c; exact go k91c trivial
noncomputable def c89_0 : Code := bodyOf Tryz.f89
def c89_1 := cA c89_0
def c89_3 := cA (cB c89_0)
def c89_5 := cA (cB (cB c89_0))
abbrev R89 := (Bool × Int × Bs × Int × Bool × List (Bs × Bs) × Bool × List UInt8)
def e89 (x : R89) : AV × Heap := (vd (dB x.1), [.cells [.d (dI x.2.1), .d (dS x.2.2.1), .d (dI x.2.2.2.1), .d (.lst x.2.2.2.2.1 (enL enSS x.2.2.2.2.2.1)), .d (.lst x.2.2.2.2.2.2.1 (enL enB x.2.2.2.2.2.2.2))]])
def m89 (h0_0 : Int) (h0_1 : Bs) (h0_2 : Int) (h0_3_0 : Bool) (h0_3_1 : List (Bs × Bs)) (h0_4_0 : Bool) (h0_4_1 : List UInt8) : Option R89 :=
  (m25 h0_0 h0_1 h0_2 h0_3_0 h0_3_1 h0_4_0 h0_4_1).bind fun yr2 =>
    if yr2.2 = true then
      some (true, h0_0, h0_1, h0_2, h0_3_0, h0_3_1, h0_4_0, h0_4_1)
    else
      if (decide (0 < yr2.1)) = true then
        some (true, h0_0, h0_1, h0_2, h0_3_0, h0_3_1, h0_4_0, h0_4_1)
      else
        (m15 ([] : Bs) (0 : Int) (0 : Int) true ([] : List (Bs × Bs)) h0_0 h0_1 h0_2 h0_3_0 h0_3_1 h0_4_0 h0_4_1).bind fun yr6 =>
          match yr6 with
          | .inl yr7 =>
            some ((decide (0 < (yr7.2.length : Int))), h0_0, h0_1, h0_2, h0_3_0, h0_3_1, h0_4_0, h0_4_1)
          | .inr yr8 =>
            some ((decide (0 < (yr8.2.length : Int))), h0_0, h0_1, h0_2, h0_3_0, h0_3_1, h0_4_0, h0_4_1)
def k89 := Q (rx c89_1) (Q (rx c89_3) (Q @f25_t (Q @e25.eq_1 (Q (rx c89_5) (Q (fun (mm : Int) (h0_0 : Int) (h0_1 : Bs) (h0_2 : Int) (h0_3_0 : Bool) (h0_3_1 : List (Bs × Bs)) (h0_4_0 : Bool) (h0_4_1 : List UInt8) => (show callW (E0 mm) 15 [.agg [.d (dS ([] : Bs)), .d (dU 0), .d (dU 0), .d (.lst true []), .d (dI h0_0), .d (dS h0_1), .d (dI h0_2), .d (.lst h0_3_0 (enL enSS h0_3_1)), .d (.lst h0_4_0 (enL enB h0_4_1))]] [] = _ from f15_t ([] : Bs) (0 : Int) (0 : Int) true ([] : List (Bs × Bs)) h0_0 h0_1 h0_2 h0_3_0 h0_3_1 h0_4_0 h0_4_1)) (Q @f15_t (Q @e15.eq_1 (Q @e15.eq_2 (Q (nE c89_0 (.seq c89_1 (.seq c89_3 (.seq c89_5 .ret)))) hA)))))))))
theorem f89_t (h0_0 : Int) (h0_1 : Bs) (h0_2 : Int) (h0_3_0 : Bool) (h0_3_1 : List (Bs × Bs)) (h0_4_0 : Bool) (h0_4_1 : List UInt8) :
    callW (E0 mm) 89 [.c (.ptr 0 0)] [.cells [.d (dI h0_0), .d (dS h0_1), .d (dI h0_2), .d (.lst h0_3_0 (enL enSS h0_3_1)), .d (.lst h0_4_0 (enL enB h0_4_1))]] = (m89 h0_0 h0_1 h0_2 h0_3_0 h0_3_1 h0_4_0 h0_4_1).map e89 := by
  rw [cR c89_0 [.tmp 1] Tryz.func89]
  unfold m89; exact go k89 trivial
abbrev R91d := (Bool × Int × Bs × Int × Bool × List (Bs × Bs) × Bool × List UInt8)
def e91d (x : R91d) : AV × Heap := (vd (dB x.1), [.cells [.d (dI x.2.1), .d (dS x.2.2.1), .d (dI x.2.2.2.1), .d (.lst x.2.2.2.2.1 (enL enSS x.2.2.2.2.2.1)), .d (.lst x.2.2.2.2.2.2.1 (enL enB x.2.2.2.2.2.2.2))]])
def m91d (h0_0 : Int) (h0_1 : Bs) (h0_2 : Int) (h0_3_0 : Bool) (h0_3_1 : List (Bs × Bs)) (h0_4_0 : Bool) (h0_4_1 : List UInt8) : Option R91d :=
  (m89 h0_0 h0_1 h0_2 h0_3_0 h0_3_1 h0_4_0 h0_4_1).bind fun yr2 =>
    some ((!yr2.1), yr2.2.1, yr2.2.2.1, yr2.2.2.2.1, yr2.2.2.2.2.1, yr2.2.2.2.2.2.1, yr2.2.2.2.2.2.2.1, yr2.2.2.2.2.2.2.2)
def k91d := Q (rx c91_1) (Q (rx c91_3) (Q @ent89 (Q @prm89 (Q @f89_t (Q @e89.eq_1 (Q (nE c91_0 (.seq c91_1 (.seq c91_3 .ret))) hA))))))
theorem f91d_t (h0_0 : Int) (h0_1 : Bs) (h0_2 : Int) (h0_3_0 : Bool) (h0_3_1 : List (Bs × Bs)) (h0_4_0 : Bool) (h0_4_1 : List UInt8) :
    callW (E0 mm) 91 [.c (.fn 89 [(0, 0)])] [.cells [.d (dI h0_0), .d (dS h0_1), .d (dI h0_2), .d (.lst h0_3_0 (enL enSS h0_3_1)), .d (.lst h0_4_0 (enL enB h0_4_1))]] = (m91d h0_0 h0_1 h0_2 h0_3_0 h0_3_1 h0_4_0 h0_4_1).map e91d := by
  rw [cR c91_0 [.tmp 2] Tryz.func91]
  unfold m91d; exact go k91d trivial
noncomputable def c124_0 : Code := bodyOf Tryz.f124
def c124_1 := cA c124_0
def c124_4 := cA (cA (cB c124_0))
def c124_6 := cA (cB (cA (cB c124_0)))
def c124_7 := cA c124_6
def c124_8 := cA c124_7
def c124_13 := cB (cB c124_7)
def c124_16 := cA (cA (cA c124_13))
def c124_18 := cA (cB (cA (cA c124_13)))
def c124_21 := cA (cA (cB (cB (cA (cA c124_13)))))
def c124_24 := cB c124_13
def c124_25 := cB (cB c124_0)
def c124_26 := cA c124_25
def L124_0 : List (Nat × Co) := [(0, .keep), (1, .keep), (7, .keep), (8, .keep)]
abbrev b124 (mm : Int) := bodyD (E0 mm) [.tmp 4] 6 false
abbrev R124 := (Int × Bs × Bool × List (Bs × Bs) × Int × Bs × Int × Bool × List (Bs × Bs) × Bool × List UInt8 × Bool × Bool × Bool × Bool × Bool × Bool × Int × Int × Int × Int × Bool)
def e124 (x : R124) : AV × Heap := (vd (dI x.1), [.cells [.fn 84 [(1, 0), (2, 0)], .fn 85 [(3, 0), (4, 0), (5, 0)], .fn 87 [(2, 0), (4, 0)], .fn 88 [(3, 0)], .fn 89 [(3, 0)]], .cells [.d (dS x.2.1)], .cells [.d (.lst x.2.2.1 (enL enSS x.2.2.2.1))], .cells [.d (dI x.2.2.2.2.1), .d (dS x.2.2.2.2.2.1), .d (dI x.2.2.2.2.2.2.1), .d (.lst x.2.2.2.2.2.2.2.1 (enL enSS x.2.2.2.2.2.2.2.2.1)), .d (.lst x.2.2.2.2.2.2.2.2.2.1 (enL enB x.2.2.2.2.2.2.2.2.2.2.1))], .cells [.d (dB x.2.2.2.2.2.2.2.2.2.2.2.1), .d (dB x.2.2.2.2.2.2.2.2.2.2.2.2.1), .d (dB x.2.2.2.2.2.2.2.2.2.2.2.2.2.1), .d (dB x.2.2.2.2.2.2.2.2.2.2.2.2.2.2.1), .d (dB x.2.2.2.2.2.2.2.2.2.2.2.2.2.2.2.1), .d (dB x.2.2.2.2.2.2.2.2.2.2.2.2.2.2.2.2.1), .d (dI x.2.2.2.2.2.2.2.2.2.2.2.2.2.2.2.2.2.1), .d (dI x.2.2.2.2.2.2.2.2.2.2.2.2.2.2.2.2.2.2.1), .d (dI x.2.2.2.2.2.2.2.2.2.2.2.2.2.2.2.2.2.2.2.1), .d (dI x.2.2.2.2.2.2.2.2.2.2.2.2.2.2.2.2.2.2.2.2.1)], .cells [.d (dB x.2.2.2.2.2.2.2.2.2.2.2.2.2.2.2.2.2.2.2.2.2)]])
def u124_6_5 (h1_0 : Bs) (h2_0_0 : Bool) (h2_0_1 : List (Bs × Bs)) (h3_0 : Int) (h3_1 : Bs) (h3_2 : Int) (h3_3_0 : Bool) (h3_3_1 : List (Bs × Bs)) (h3_4_0 : Bool) (h3_4_1 : List UInt8) (h4_0 h4_1 : Bool) (h4_2 h4_3 : Bool) (h4_4 h4_5 : Bool) (h4_6 h4_7 : Int) (h4_8 h4_9 : Int) (h5_0 : Bool) : Option R124 :=
  some ((-1 : Int), h1_0, h2_0_0, h2_0_1, h3_0, h3_1, h3_2, h3_3_0, h3_3_1, h3_4_0, h3_4_1, h4_0, h4_1, h4_2, h4_3, h4_4, h4_5, h4_6, h4_7, h4_8, h4_9, h5_0)
def k124 := Q @itB_l (Q @itB_r (Q (rx c124_8) (Q (rx c124_26) (Q (show List.range 6 = [0, 1, 2, 3, 4, 5] from rfl) (Q (rx c124_16) (Q (rx c124_18) (Q @ag35 (Q @ent91 (Q @prm91 (Q @f91d_t (Q @e91d.eq_1 (Q (rx c124_21) (Q @f91c_t (Q @e91c.eq_1 (Q @f91b_t (Q @e91b.eq_1 (Q @f91a_t (Q @e91a.eq_1 (Q @f91_t (Q @e91.eq_1 (Q (rx c124_1) (Q (rx c124_4) (Q (fun mm => lx (E0 mm) 124 c124_6 c124_7 L124_0) (Q (nE c124_0 (.seq c124_1 (.seq (.seq c124_4 (.block 0 c124_6)) c124_25))) (Q (nE c124_7 (.seq c124_8 (.seq (.cond _ .skip (.exit 0)) c124_13))) (Q (nE c124_25 (.seq c124_26 .ret)) (Q @L124_0.eq_1 hA)))))))))))))))))))))))))))
theorem u124_6_5_t (h1_0 : Bs) (h2_0_0 : Bool) (h2_0_1 : List (Bs × Bs)) (h3_0 : Int) (h3_1 : Bs) (h3_2 : Int) (h3_3_0 : Bool) (h3_3_1 : List (Bs × Bs)) (h3_4_0 : Bool) (h3_4_1 : List UInt8) (h4_0 h4_1 : Bool) (h4_2 h4_3 : Bool) (h4_4 h4_5 : Bool) (h4_6 h4_7 : Int) (h4_8 h4_9 : Int) (h5_0 : Bool) :
    b124 mm (sq (E0 mm) 124 6 c124_25 (blockD 0 (itW (lp (E0 mm) 124 6 c124_7 L124_0) (none, [.v (.c (.slc 0 0 1 5 (some 5))), vd (.sc (.func (.func 91) #[] #[])), vd (dI 5), vd (dI 5)], [.cells [.fn 84 [(1, 0), (2, 0)], .fn 85 [(3, 0), (4, 0), (5, 0)], .fn 87 [(2, 0), (4, 0)], .fn 88 [(3, 0)], .fn 89 [(3, 0)]], .cells [.d (dS h1_0)], .cells [.d (.lst h2_0_0 (enL enSS h2_0_1))], .cells [.d (dI h3_0), .d (dS h3_1), .d (dI h3_2), .d (.lst h3_3_0 (enL enSS h3_3_1)), .d (.lst h3_4_0 (enL enB h3_4_1))], .cells [.d (dB h4_0), .d (dB h4_1), .d (dB h4_2), .d (dB h4_3), .d (dB h4_4), .d (dB h4_5), .d (dI h4_6), .d (dI h4_7), .d (dI h4_8), .d (dI h4_9)], .cells [.d (dB h5_0)]])))) = (u124_6_5 h1_0 h2_0_0 h2_0_1 h3_0 h3_1 h3_2 h3_3_0 h3_3_1 h3_4_0 h3_4_1 h4_0 h4_1 h4_2 h4_3 h4_4 h4_5 h4_6 h4_7 h4_8 h4_9 h5_0).map e124 := by
  rw [itW_B]
  unfold u124_6_5; exact go k124 trivial
def j124_24v4 (h1_0 : Bs) (h2_0_0 : Bool) (h2_0_1 : List (Bs × Bs)) (h3_0 : Int) (h3_1 : Bs) (h3_2 : Int) (h3_3_0 : Bool) (h3_3_1 : List (Bs × Bs)) (h3_4_0 : Bool) (h3_4_1 : List UInt8) (h4_0 h4_1 : Bool) (h4_2 h4_3 : Bool) (h4_4 h4_5 : Bool) (h4_6 h4_7 : Int) (h4_8 h4_9 : Int) (h5_0 : Bool) : Option R124 :=
  u124_6_5 h1_0 h2_0_0 h2_0_1 h3_0 h3_1 h3_2 h3_3_0 h3_3_1 h3_4_0 h3_4_1 h4_0 h4_1 h4_2 h4_3 h4_4 h4_5 h4_6 h4_7 h4_8 h4_9 h5_0
theorem j124_24v4_t (h1_0 : Bs) (h2_0_0 : Bool) (h2_0_1 : List (Bs × Bs)) (h3_0 : Int) (h3_1 : Bs) (h3_2 : Int) (h3_3_0 : Bool) (h3_3_1 : List (Bs × Bs)) (h3_4_0 : Bool) (h3_4_1 : List UInt8) (h4_0 h4_1 : Bool) (h4_2 h4_3 : Bool) (h4_4 h4_5 : Bool) (h4_6 h4_7 : Int) (h4_8 h4_9 : Int) (h5_0 : Bool)  (sl : Sl) (_ : sl 0 = .v (.c (.slc 0 0 1 5 (some 5)))) (_ : sl 1 = vd (.sc (.func (.func 91) #[] #[]))) (_ : sl 7 = vd (dI 5)) (_ : sl 8 = vd (dI 4)) :
    b124 mm (sq (E0 mm) 124 6 c124_25 (blockD 0 (itB (lp (E0 mm) 124 6 c124_7 L124_0) (loopK 6 L124_0 (dn (E0 mm) 124 6 c124_24 sl [.cells [.fn 84 [(1, 0), (2, 0)], .fn 85 [(3, 0), (4, 0), (5, 0)], .fn 87 [(2, 0), (4, 0)], .fn 88 [(3, 0)], .fn 89 [(3, 0)]], .cells [.d (dS h1_0)], .cells [.d (.lst h2_0_0 (enL enSS h2_0_1))], .cells [.d (dI h3_0), .d (dS h3_1), .d (dI h3_2), .d (.lst h3_3_0 (enL enSS h3_3_1)), .d (.lst h3_4_0 (enL enB h3_4_1))], .cells [.d (dB h4_0), .d (dB h4_1), .d (dB h4_2), .d (dB h4_3), .d (dB h4_4), .d (dB h4_5), .d (dI h4_6), .d (dI h4_7), .d (dI h4_8), .d (dI h4_9)], .cells [.d (dB h5_0)]]))))) = (j124_24v4 h1_0 h2_0_0 h2_0_1 h3_0 h3_1 h3_2 h3_3_0 h3_3_1 h3_4_0 h3_4_1 h4_0 h4_1 h4_2 h4_3 h4_4 h4_5 h4_6 h4_7 h4_8 h4_9 h5_0).map e124 := by
  unfold j124_24v4; exact go (Q (rx c124_24) k124) @u124_6_5_t
def j124_13v4 (h1_0 : Bs) (h2_0_0 : Bool) (h2_0_1 : List (Bs × Bs)) (h3_0 : Int) (h3_1 : Bs) (h3_2 : Int) (h3_3_0 : Bool) (h3_3_1 : List (Bs × Bs)) (h3_4_0 : Bool) (h3_4_1 : List UInt8) (h4_0 h4_1 : Bool) (h4_2 h4_3 : Bool) (h4_4 h4_5 : Bool) (h4_6 h4_7 : Int) (h4_8 h4_9 : Int) (h5_0 : Bool) : Option R124 :=
  (m91d h3_0 h3_1 h3_2 h3_3_0 h3_3_1 h3_4_0 h3_4_1).bind fun yr14 =>
    if yr14.1 = true then
      some ((4 : Int), h1_0, h2_0_0, h2_0_1, yr14.2.1, yr14.2.2.1, yr14.2.2.2.1, yr14.2.2.2.2.1, yr14.2.2.2.2.2.1, yr14.2.2.2.2.2.2.1, yr14.2.2.2.2.2.2.2, h4_0, h4_1, h4_2, h4_3, h4_4, h4_5, h4_6, h4_7, h4_8, h4_9, h5_0)
    else
      j124_24v4 h1_0 h2_0_0 h2_0_1 yr14.2.1 yr14.2.2.1 yr14.2.2.2.1 yr14.2.2.2.2.1 yr14.2.2.2.2.2.1 yr14.2.2.2.2.2.2.1 yr14.2.2.2.2.2.2.2 h4_0 h4_1 h4_2 h4_3 h4_4 h4_5 h4_6 h4_7 h4_8 h4_9 h5_0
theorem j124_13v4_t (h1_0 : Bs) (h2_0_0 : Bool) (h2_0_1 : List (Bs × Bs)) (h3_0 : Int) (h3_1 : Bs) (h3_2 : Int) (h3_3_0 : Bool) (h3_3_1 : List (Bs × Bs)) (h3_4_0 : Bool) (h3_4_1 : List UInt8) (h4_0 h4_1 : Bool) (h4_2 h4_3 : Bool) (h4_4 h4_5 : Bool) (h4_6 h4_7 : Int) (h4_8 h4_9 : Int) (h5_0 : Bool)  (sl : Sl) (_ : sl 0 = .v (.c (.slc 0 0 1 5 (some 5)))) (_ : sl 1 = vd (.sc (.func (.func 91) #[] #[]))) (_ : sl 7 = vd (dI 5)) (_ : sl 8 = vd (dI 4)) :
    b124 mm (sq (E0 mm) 124 6 c124_25 (blockD 0 (itB (lp (E0 mm) 124 6 c124_7 L124_0) (loopK 6 L124_0 (dn (E0 mm) 124 6 c124_13 sl [.cells [.fn 84 [(1, 0), (2, 0)], .fn 85 [(3, 0), (4, 0), (5, 0)], .fn 87 [(2, 0), (4, 0)], .fn 88 [(3, 0)], .fn 89 [(3, 0)]], .cells [.d (dS h1_0)], .cells [.d (.lst h2_0_0 (enL enSS h2_0_1))], .cells [.d (dI h3_0), .d (dS h3_1), .d (dI h3_2), .d (.lst h3_3_0 (enL enSS h3_3_1)), .d (.lst h3_4_0 (enL enB h3_4_1))], .cells [.d (dB h4_0), .d (dB h4_1), .d (dB h4_2), .d (dB h4_3), .d (dB h4_4), .d (dB h4_5), .d (dI h4_6), .d (dI h4_7), .d (dI h4_8), .d (dI h4_9)], .cells [.d (dB h5_0)]]))))) = (j124_13v4 h1_0 h2_0_0 h2_0_1 h3_0 h3_1 h3_2 h3_3_0 h3_3_1 h3_4_0 h3_4_1 h4_0 h4_1 h4_2 h4_3 h4_4 h4_5 h4_6 h4_7 h4_8 h4_9 h5_0).map e124 := by
  unfold j124_13v4; exact go (Q (nE c124_13 (.seq (.block 1 (.seq c124_16 (.seq c124_18 (.cond _ (.seq c124_21 .ret) .skip)))) c124_24)) k124) @j124_24v4_t
def u124_6_4 (h1_0 : Bs) (h2_0_0 : Bool) (h2_0_1 : List (Bs × Bs)) (h3_0 : Int) (h3_1 : Bs) (h3_2 : Int) (h3_3_0 : Bool) (h3_3_1 : List (Bs × Bs)) (h3_4_0 : Bool) (h3_4_1 : List UInt8) (h4_0 h4_1 : Bool) (h4_2 h4_3 : Bool) (h4_4 h4_5 : Bool) (h4_6 h4_7 : Int) (h4_8 h4_9 : Int) (h5_0 : Bool) : Option R124 :=
  j124_13v4 h1_0 h2_0_0 h2_0_1 h3_0 h3_1 h3_2 h3_3_0 h3_3_1 h3_4_0 h3_4_1 h4_0 h4_1 h4_2 h4_3 h4_4 h4_5 h4_6 h4_7 h4_8 h4_9 h5_0
theorem u124_6_4_t (h1_0 : Bs) (h2_0_0 : Bool) (h2_0_1 : List (Bs × Bs)) (h3_0 : Int) (h3_1 : Bs) (h3_2 : Int) (h3_3_0 : Bool) (h3_3_1 : List (Bs × Bs)) (h3_4_0 : Bool) (h3_4_1 : List UInt8) (h4_0 h4_1 : Bool) (h4_2 h4_3 : Bool) (h4_4 h4_5 : Bool) (h4_6 h4_7 : Int) (h4_8 h4_9 : Int) (h5_0 : Bool) :
    b124 mm (sq (E0 mm) 124 6 c124_25 (blockD 0 (itW (lp (E0 mm) 124 6 c124_7 L124_0) (none, [.v (.c (.slc 0 0 1 5 (some 5))), vd (.sc (.func (.func 91) #[] #[])), vd (dI 5), vd (dI 4)], [.cells [.fn 84 [(1, 0), (2, 0)], .fn 85 [(3, 0), (4, 0), (5, 0)], .fn 87 [(2, 0), (4, 0)], .fn 88 [(3, 0)], .fn 89 [(3, 0)]], .cells [.d (dS h1_0)], .cells [.d (.lst h2_0_0 (enL enSS h2_0_1))], .cells [.d (dI h3_0), .d (dS h3_1), .d (dI h3_2), .d (.lst h3_3_0 (enL enSS h3_3_1)), .d (.lst h3_4_0 (enL enB h3_4_1))], .cells [.d (dB h4_0), .d (dB h4_1), .d (dB h4_2), .d (dB h4_3), .d (dB h4_4), .d (dB h4_5), .d (dI h4_6), .d (dI h4_7), .d (dI h4_8), .d (dI h4_9)], .cells [.d (dB h5_0)]])))) = (u124_6_4 h1_0 h2_0_0 h2_0_1 h3_0 h3_1 h3_2 h3_3_0 h3_3_1 h3_4_0 h3_4_1 h4_0 h4_1 h4_2 h4_3 h4_4 h4_5 h4_6 h4_7 h4_8 h4_9 h5_0).map e124 := by
  rw [itW_B]
  unfold u124_6_4; exact go k124 @j124_13v4_t
def j124_24v3 (h1_0 : Bs) (h2_0_0 : Bool) (h2_0_1 : List (Bs × Bs)) (h3_0 : Int) (h3_1 : Bs) (h3_2 : Int) (h3_3_0 : Bool) (h3_3_1 : List (Bs × Bs)) (h3_4_0 : Bool) (h3_4_1 : List UInt8) (h4_0 h4_1 : Bool) (h4_2 h4_3 : Bool) (h4_4 h4_5 : Bool) (h4_6 h4_7 : Int) (h4_8 h4_9 : Int) (h5_0 : Bool) : Option R124 :=
  u124_6_4 h1_0 h2_0_0 h2_0_1 h3_0 h3_1 h3_2 h3_3_0 h3_3_1 h3_4_0 h3_4_1 h4_0 h4_1 h4_2 h4_3 h4_4 h4_5 h4_6 h4_7 h4_8 h4_9 h5_0
theorem j124_24v3_t (h1_0 : Bs) (h2_0_0 : Bool) (h2_0_1 : List (Bs × Bs)) (h3_0 : Int) (h3_1 : Bs) (h3_2 : Int) (h3_3_0 : Bool) (h3_3_1 : List (Bs × Bs)) (h3_4_0 : Bool) (h3_4_1 : List UInt8) (h4_0 h4_1 : Bool) (h4_2 h4_3 : Bool) (h4_4 h4_5 : Bool) (h4_6 h4_7 : Int) (h4_8 h4_9 : Int) (h5_0 : Bool)  (sl : Sl) (_ : sl 0 = .v (.c (.slc 0 0 1 5 (some 5)))) (_ : sl 1 = vd (.sc (.func (.func 91) #[] #[]))) (_ : sl 7 = vd (dI 5)) (_ : sl 8 = vd (dI 3)) :
    b124 mm (sq (E0 mm) 124 6 c124_25 (blockD 0 (itB (lp (E0 mm) 124 6 c124_7 L124_0) (loopK 6 L124_0 (dn (E0 mm) 124 6 c124_24 sl [.cells [.fn 84 [(1, 0), (2, 0)], .fn 85 [(3, 0), (4, 0), (5, 0)], .fn 87 [(2, 0), (4, 0)], .fn 88 [(3, 0)], .fn 89 [(3, 0)]], .cells [.d (dS h1_0)], .cells [.d (.lst h2_0_0 (enL enSS h2_0_1))], .cells [.d (dI h3_0), .d (dS h3_1), .d (dI h3_2), .d (.lst h3_3_0 (enL enSS h3_3_1)), .d (.lst h3_4_0 (enL enB h3_4_1))], .cells [.d (dB h4_0), .d (dB h4_1), .d (dB h4_2), .d (dB h4_3), .d (dB h4_4), .d (dB h4_5), .d (dI h4_6), .d (dI h4_7), .d (dI h4_8), .d (dI h4_9)], .cells [.d (dB h5_0)]]))))) = (j124_24v3 h1_0 h2_0_0 h2_0_1 h3_0 h3_1 h3_2 h3_3_0 h3_3_1 h3_4_0 h3_4_1 h4_0 h4_1 h4_2 h4_3 h4_4 h4_5 h4_6 h4_7 h4_8 h4_9 h5_0).map e124 := by
  unfold j124_24v3; exact go (Q (rx c124_24) k124) @u124_6_4_t
def j124_13v3 (h1_0 : Bs) (h2_0_0 : Bool) (h2_0_1 : List (Bs × Bs)) (h3_0 : Int) (h3_1 : Bs) (h3_2 : Int) (h3_3_0 : Bool) (h3_3_1 : List (Bs × Bs)) (h3_4_0 : Bool) (h3_4_1 : List UInt8) (h4_0 h4_1 : Bool) (h4_2 h4_3 : Bool) (h4_4 h4_5 : Bool) (h4_6 h4_7 : Int) (h4_8 h4_9 : Int) (h5_0 : Bool) : Option R124 :=
  (m91c h3_0 h3_1 h3_2 h3_3_0 h3_3_1 h3_4_0 h3_4_1).bind fun yr11 =>
    if yr11.1 = true then
      some ((3 : Int), h1_0, h2_0_0, h2_0_1, yr11.2.1, yr11.2.2.1, yr11.2.2.2.1, yr11.2.2.2.2.1, yr11.2.2.2.2.2.1, yr11.2.2.2.2.2.2.1, yr11.2.2.2.2.2.2.2, h4_0, h4_1, h4_2, h4_3, h4_4, h4_5, h4_6, h4_7, h4_8, h4_9, h5_0)
    else
      j124_24v3 h1_0 h2_0_0 h2_0_1 yr11.2.1 yr11.2.2.1 yr11.2.2.2.1 yr11.2.2.2.2.1 yr11.2.2.2.2.2.1 yr11.2.2.2.2.2.2.1 yr11.2.2.2.2.2.2.2 h4_0 h4_1 h4_2 h4_3 h4_4 h4_5 h4_6 h4_7 h4_8 h4_9 h5_0
theorem j124_13v3_t (h1_0 : Bs) (h2_0_0 : Bool) (h2_0_1 : List (Bs × Bs)) (h3_0 : Int) (h3_1 : Bs) (h3_2 : Int) (h3_3_0 : Bool) (h3_3_1 : List (Bs × Bs)) (h3_4_0 : Bool) (h3_4_1 : List UInt8) (h4_0 h4_1 : Bool) (h4_2 h4_3 : Bool) (h4_4 h4_5 : Bool) (h4_6 h4_7 : Int) (h4_8 h4_9 : Int) (h5_0 : Bool)  (sl : Sl) (_ : sl 0 = .v (.c (.slc 0 0 1 5 (some 5)))) (_ : sl 1 = vd (.sc (.func (.func 91) #[] #[]))) (_ : sl 7 = vd (dI 5)) (_ : sl 8 = vd (dI 3)) :
    b124 mm (sq (E0 mm) 124 6 c124_25 (blockD 0 (itB (lp (E0 mm) 124 6 c124_7 L124_0) (loopK 6 L124_0 (dn (E0 mm) 124 6 c124_13 sl [.cells [.fn 84 [(1, 0), (2, 0)], .fn 85 [(3, 0), (4, 0), (5, 0)], .fn 87 [(2, 0), (4, 0)], .fn 88 [(3, 0)], .fn 89 [(3, 0)]], .cells [.d (dS h1_0)], .cells [.d (.lst h2_0_0 (enL enSS h2_0_1))], .cells [.d (dI h3_0), .d (dS h3_1), .d (dI h3_2), .d (.lst h3_3_0 (enL enSS h3_3_1)), .d (.lst h3_4_0 (enL enB h3_4_1))], .cells [.d (dB h4_0), .d (dB h4_1), .d (dB h4_2), .d (dB h4_3), .d (dB h4_4), .d (dB h4_5), .d (dI h4_6), .d (dI h4_7), .d (dI h4_8), .d (dI h4_9)], .cells [.d (dB h5_0)]]))))) = (j124_13v3 h1_0 h2_0_0 h2_0_1 h3_0 h3_1 h3_2 h3_3_0 h3_3_1 h3_4_0 h3_4_1 h4_0 h4_1 h4_2 h4_3 h4_4 h4_5 h4_6 h4_7 h4_8 h4_9 h5_0).map e124 := by
  unfold j124_13v3; exact go (Q (nE c124_13 (.seq (.block 1 (.seq c124_16 (.seq c124_18 (.cond _ (.seq c124_21 .ret) .skip)))) c124_24)) k124) @j124_24v3_t
def u124_6_3 (h1_0 : Bs) (h2_0_0 : Bool) (h2_0_1 : List (Bs × Bs)) (h3_0 : Int) (h3_1 : Bs) (h3_2 : Int) (h3_3_0 : Bool) (h3_3_1 : List (Bs × Bs)) (h3_4_0 : Bool) (h3_4_1 : List UInt8) (h4_0 h4_1 : Bool) (h4_2 h4_3 : Bool) (h4_4 h4_5 : Bool) (h4_6 h4_7 : Int) (h4_8 h4_9 : Int) (h5_0 : Bool) : Option R124 :=
  j124_13v3 h1_0 h2_0_0 h2_0_1 h3_0 h3_1 h3_2 h3_3_0 h3_3_1 h3_4_0 h3_4_1 h4_0 h4_1 h4_2 h4_3 h4_4 h4_5 h4_6 h4_7 h4_8 h4_9 h5_0
theorem u124_6_3_t (h1_0 : Bs) (h2_0_0 : Bool) (h2_0_1 : List (Bs × Bs)) (h3_0 : Int) (h3_1 : Bs) (h3_2 : Int) (h3_3_0 : Bool) (h3_3_1 : List (Bs × Bs)) (h3_4_0 : Bool) (h3_4_1 : List UInt8) (h4_0 h4_1 : Bool) (h4_2 h4_3 : Bool) (h4_4 h4_5 : Bool) (h4_6 h4_7 : Int) (h4_8 h4_9 : Int) (h5_0 : Bool) :
    b124 mm (sq (E0 mm) 124 6 c124_25 (blockD 0 (itW (lp (E0 mm) 124 6 c124_7 L124_0) (none, [.v (.c (.slc 0 0 1 5 (some 5))), vd (.sc (.func (.func 91) #[] #[])), vd (dI 5), vd (dI 3)], [.cells [.fn 84 [(1, 0), (2, 0)], .fn 85 [(3, 0), (4, 0), (5, 0)], .fn 87 [(2, 0), (4, 0)], .fn 88 [(3, 0)], .fn 89 [(3, 0)]], .cells [.d (dS h1_0)], .cells [.d (.lst h2_0_0 (enL enSS h2_0_1))], .cells [.d (dI h3_0), .d (dS h3_1), .d (dI h3_2), .d (.lst h3_3_0 (enL enSS h3_3_1)), .d (.lst h3_4_0 (enL enB h3_4_1))], .cells [.d (dB h4_0), .d (dB h4_1), .d (dB h4_2), .d (dB h4_3), .d (dB h4_4), .d (dB h4_5), .d (dI h4_6), .d (dI h4_7), .d (dI h4_8), .d (dI h4_9)], .cells [.d (dB h5_0)]])))) = (u124_6_3 h1_0 h2_0_0 h2_0_1 h3_0 h3_1 h3_2 h3_3_0 h3_3_1 h3_4_0 h3_4_1 h4_0 h4_1 h4_2 h4_3 h4_4 h4_5 h4_6 h4_7 h4_8 h4_9 h5_0).map e124 := by
  rw [itW_B]
  unfold u124_6_3; exact go k124 @j124_13v3_t
def j124_24v2 (h1_0 : Bs) (h2_0_0 : Bool) (h2_0_1 : List (Bs × Bs)) (h3_0 : Int) (h3_1 : Bs) (h3_2 : Int) (h3_3_0 : Bool) (h3_3_1 : List (Bs × Bs)) (h3_4_0 : Bool) (h3_4_1 : List UInt8) (h4_0 h4_1 : Bool) (h4_2 h4_3 : Bool) (h4_4 h4_5 : Bool) (h4_6 h4_7 : Int) (h4_8 h4_9 : Int) (h5_0 : Bool) : Option R124 :=
  u124_6_3 h1_0 h2_0_0 h2_0_1 h3_0 h3_1 h3_2 h3_3_0 h3_3_1 h3_4_0 h3_4_1 h4_0 h4_1 h4_2 h4_3 h4_4 h4_5 h4_6 h4_7 h4_8 h4_9 h5_0
theorem j124_24v2_t (h1_0 : Bs) (h2_0_0 : Bool) (h2_0_1 : List (Bs × Bs)) (h3_0 : Int) (h3_1 : Bs) (h3_2 : Int) (h3_3_0 : Bool) (h3_3_1 : List (Bs × Bs)) (h3_4_0 : Bool) (h3_4_1 : List UInt8) (h4_0 h4_1 : Bool) (h4_2 h4_3 : Bool) (h4_4 h4_5 : Bool) (h4_6 h4_7 : Int) (h4_8 h4_9 : Int) (h5_0 : Bool)  (sl : Sl) (_ : sl 0 = .v (.c (.slc 0 0 1 5 (some 5)))) (_ : sl 1 = vd (.sc (.func (.func 91) #[] #[]))) (_ : sl 7 = vd (dI 5)) (_ : sl 8 = vd (dI 2)) :
    b124 mm (sq (E0 mm) 124 6 c124_25 (blockD 0 (itB (lp (E0 mm) 124 6 c124_7 L124_0) (loopK 6 L124_0 (dn (E0 mm) 124 6 c124_24 sl [.cells [.fn 84 [(1, 0), (2, 0)], .fn 85 [(3, 0), (4, 0), (5, 0)], .fn 87 [(2, 0), (4, 0)], .fn 88 [(3, 0)], .fn 89 [(3, 0)]], .cells [.d (dS h1_0)], .cells [.d (.lst h2_0_0 (enL enSS h2_0_1))], .cells [.d (dI h3_0), .d (dS h3_1), .d (dI h3_2), .d (.lst h3_3_0 (enL enSS h3_3_1)), .d (.lst h3_4_0 (enL enB h3_4_1))], .cells [.d (dB h4_0), .d (dB h4_1), .d (dB h4_2), .d (dB h4_3), .d (dB h4_4), .d (dB h4_5), .d (dI h4_6), .d (dI h4_7), .d (dI h4_8), .d (dI h4_9)], .cells [.d (dB h5_0)]]))))) = (j124_24v2 h1_0 h2_0_0 h2_0_1 h3_0 h3_1 h3_2 h3_3_0 h3_3_1 h3_4_0 h3_4_1 h4_0 h4_1 h4_2 h4_3 h4_4 h4_5 h4_6 h4_7 h4_8 h4_9 h5_0).map e124 := by
  unfold j124_24v2; exact go (Q (rx c124_24) k124) @u124_6_3_t
def j124_13v2 (h1_0 : Bs) (h2_0_0 : Bool) (h2_0_1 : List (Bs × Bs)) (h3_0 : Int) (h3_1 : Bs) (h3_2 : Int) (h3_3_0 : Bool) (h3_3_1 : List (Bs × Bs)) (h3_4_0 : Bool) (h3_4_1 : List UInt8) (h4_0 h4_1 : Bool) (h4_2 h4_3 : Bool) (h4_4 h4_5 : Bool) (h4_6 h4_7 : Int) (h4_8 h4_9 : Int) (h5_0 : Bool) : Option R124 :=
  (m91b h2_0_0 h2_0_1 h4_0 h4_1 h4_2 h4_3 h4_4 h4_5 h4_6 h4_7 h4_8 h4_9).bind fun yr8 =>
    if yr8.1 = true then
      some ((2 : Int), h1_0, yr8.2.1, yr8.2.2.1, h3_0, h3_1, h3_2, h3_3_0, h3_3_1, h3_4_0, h3_4_1, yr8.2.2.2.1, yr8.2.2.2.2.1, yr8.2.2.2.2.2.1, yr8.2.2.2.2.2.2.1, yr8.2.2.2.2.2.2.2.1, yr8.2.2.2.2.2.2.2.2.1, yr8.2.2.2.2.2.2.2.2.2.1, yr8.2.2.2.2.2.2.2.2.2.2.1, yr8.2.2.2.2.2.2.2.2.2.2.2.1, yr8.2.2.2.2.2.2.2.2.2.2.2.2, h5_0)
    else
      j124_24v2 h1_0 yr8.2.1 yr8.2.2.1 h3_0 h3_1 h3_2 h3_3_0 h3_3_1 h3_4_0 h3_4_1 yr8.2.2.2.1 yr8.2.2.2.2.1 yr8.2.2.2.2.2.1 yr8.2.2.2.2.2.2.1 yr8.2.2.2.2.2.2.2.1 yr8.2.2.2.2.2.2.2.2.1 yr8.2.2.2.2.2.2.2.2.2.1 yr8.2.2.2.2.2.2.2.2.2.2.1 yr8.2.2.2.2.2.2.2.2.2.2.2.1 yr8.2.2.2.2.2.2.2.2.2.2.2.2 h5_0
theorem j124_13v2_t (h1_0 : Bs) (h2_0_0 : Bool) (h2_0_1 : List (Bs × Bs)) (h3_0 : Int) (h3_1 : Bs) (h3_2 : Int) (h3_3_0 : Bool) (h3_3_1 : List (Bs × Bs)) (h3_4_0 : Bool) (h3_4_1 : List UInt8) (h4_0 h4_1 : Bool) (h4_2 h4_3 : Bool) (h4_4 h4_5 : Bool) (h4_6 h4_7 : Int) (h4_8 h4_9 : Int) (h5_0 : Bool)  (sl : Sl) (_ : sl 0 = .v (.c (.slc 0 0 1 5 (some 5)))) (_ : sl 1 = vd (.sc (.func (.func 91) #[] #[]))) (_ : sl 7 = vd (dI 5)) (_ : sl 8 = vd (dI 2)) :
    b124 mm (sq (E0 mm) 124 6 c124_25 (blockD 0 (itB (lp (E0 mm) 124 6 c124_7 L124_0) (loopK 6 L124_0 (dn (E0 mm) 124 6 c124_13 sl [.cells [.fn 84 [(1, 0), (2, 0)], .fn 85 [(3, 0), (4, 0), (5, 0)], .fn 87 [(2, 0), (4, 0)], .fn 88 [(3, 0)], .fn 89 [(3, 0)]], .cells [.d (dS h1_0)], .cells [.d (.lst h2_0_0 (enL enSS h2_0_1))], .cells [.d (dI h3_0), .d (dS h3_1), .d (dI h3_2), .d (.lst h3_3_0 (enL enSS h3_3_1)), .d (.lst h3_4_0 (enL enB h3_4_1))], .cells [.d (dB h4_0), .d (dB h4_1), .d (dB h4_2), .d (dB h4_3), .d (dB h4_4), .d (dB h4_5), .d (dI h4_6), .d (dI h4_7), .d (dI h4_8), .d (dI h4_9)], .cells [.d (dB h5_0)]]))))) = (j124_13v2 h1_0 h2_0_0 h2_0_1 h3_0 h3_1 h3_2 h3_3_0 h3_3_1 h3_4_0 h3_4_1 h4_0 h4_1 h4_2 h4_3 h4_4 h4_5 h4_6 h4_7 h4_8 h4_9 h5_0).map e124 := by
  unfold j124_13v2; exact go (Q (nE c124_13 (.seq (.block 1 (.seq c124_16 (.seq c124_18 (.cond _ (.seq c124_21 .ret) .skip)))) c124_24)) k124) @j124_24v2_t
def u124_6_2 (h1_0 : Bs) (h2_0_0 : Bool) (h2_0_1 : List (Bs × Bs)) (h3_0 : Int) (h3_1 : Bs) (h3_2 : Int) (h3_3_0 : Bool) (h3_3_1 : List (Bs × Bs)) (h3_4_0 : Bool) (h3_4_1 : List UInt8) (h4_0 h4_1 : Bool) (h4_2 h4_3 : Bool) (h4_4 h4_5 : Bool) (h4_6 h4_7 : Int) (h4_8 h4_9 : Int) (h5_0 : Bool) : Option R124 :=
  j124_13v2 h1_0 h2_0_0 h2_0_1 h3_0 h3_1 h3_2 h3_3_0 h3_3_1 h3_4_0 h3_4_1 h4_0 h4_1 h4_2 h4_3 h4_4 h4_5 h4_6 h4_7 h4_8 h4_9 h5_0
theorem u124_6_2_t (h1_0 : Bs) (h2_0_0 : Bool) (h2_0_1 : List (Bs × Bs)) (h3_0 : Int) (h3_1 : Bs) (h3_2 : Int) (h3_3_0 : Bool) (h3_3_1 : List (Bs × Bs)) (h3_4_0 : Bool) (h3_4_1 : List UInt8) (h4_0 h4_1 : Bool) (h4_2 h4_3 : Bool) (h4_4 h4_5 : Bool) (h4_6 h4_7 : Int) (h4_8 h4_9 : Int) (h5_0 : Bool) :
    b124 mm (sq (E0 mm) 124 6 c124_25 (blockD 0 (itW (lp (E0 mm) 124 6 c124_7 L124_0) (none, [.v (.c (.slc 0 0 1 5 (some 5))), vd (.sc (.func (.func 91) #[] #[])), vd (dI 5), vd (dI 2)], [.cells [.fn 84 [(1, 0), (2, 0)], .fn 85 [(3, 0), (4, 0), (5, 0)], .fn 87 [(2, 0), (4, 0)], .fn 88 [(3, 0)], .fn 89 [(3, 0)]], .cells [.d (dS h1_0)], .cells [.d (.lst h2_0_0 (enL enSS h2_0_1))], .cells [.d (dI h3_0), .d (dS h3_1), .d (dI h3_2), .d (.lst h3_3_0 (enL enSS h3_3_1)), .d (.lst h3_4_0 (enL enB h3_4_1))], .cells [.d (dB h4_0), .d (dB h4_1), .d (dB h4_2), .d (dB h4_3), .d (dB h4_4), .d (dB h4_5), .d (dI h4_6), .d (dI h4_7), .d (dI h4_8), .d (dI h4_9)], .cells [.d (dB h5_0)]])))) = (u124_6_2 h1_0 h2_0_0 h2_0_1 h3_0 h3_1 h3_2 h3_3_0 h3_3_1 h3_4_0 h3_4_1 h4_0 h4_1 h4_2 h4_3 h4_4 h4_5 h4_6 h4_7 h4_8 h4_9 h5_0).map e124 := by
  rw [itW_B]
  unfold u124_6_2; exact go k124 @j124_13v2_t
def j124_24v1 (h1_0 : Bs) (h2_0_0 : Bool) (h2_0_1 : List (Bs × Bs)) (h3_0 : Int) (h3_1 : Bs) (h3_2 : Int) (h3_3_0 : Bool) (h3_3_1 : List (Bs × Bs)) (h3_4_0 : Bool) (h3_4_1 : List UInt8) (h4_0 h4_1 : Bool) (h4_2 h4_3 : Bool) (h4_4 h4_5 : Bool) (h4_6 h4_7 : Int) (h4_8 h4_9 : Int) (h5_0 : Bool) : Option R124 :=
  u124_6_2 h1_0 h2_0_0 h2_0_1 h3_0 h3_1 h3_2 h3_3_0 h3_3_1 h3_4_0 h3_4_1 h4_0 h4_1 h4_2 h4_3 h4_4 h4_5 h4_6 h4_7 h4_8 h4_9 h5_0
theorem j124_24v1_t (h1_0 : Bs) (h2_0_0 : Bool) (h2_0_1 : List (Bs × Bs)) (h3_0 : Int) (h3_1 : Bs) (h3_2 : Int) (h3_3_0 : Bool) (h3_3_1 : List (Bs × Bs)) (h3_4_0 : Bool) (h3_4_1 : List UInt8) (h4_0 h4_1 : Bool) (h4_2 h4_3 : Bool) (h4_4 h4_5 : Bool) (h4_6 h4_7 : Int) (h4_8 h4_9 : Int) (h5_0 : Bool)  (sl : Sl) (_ : sl 0 = .v (.c (.slc 0 0 1 5 (some 5)))) (_ : sl 1 = vd (.sc (.func (.func 91) #[] #[]))) (_ : sl 7 = vd (dI 5)) (_ : sl 8 = vd (dI 1)) :
    b124 mm (sq (E0 mm) 124 6 c124_25 (blockD 0 (itB (lp (E0 mm) 124 6 c124_7 L124_0) (loopK 6 L124_0 (dn (E0 mm) 124 6 c124_24 sl [.cells [.fn 84 [(1, 0), (2, 0)], .fn 85 [(3, 0), (4, 0), (5, 0)], .fn 87 [(2, 0), (4, 0)], .fn 88 [(3, 0)], .fn 89 [(3, 0)]], .cells [.d (dS h1_0)], .cells [.d (.lst h2_0_0 (enL enSS h2_0_1))], .cells [.d (dI h3_0), .d (dS h3_1), .d (dI h3_2), .d (.lst h3_3_0 (enL enSS h3_3_1)), .d (.lst h3_4_0 (enL enB h3_4_1))], .cells [.d (dB h4_0), .d (dB h4_1), .d (dB h4_2), .d (dB h4_3), .d (dB h4_4), .d (dB h4_5), .d (dI h4_6), .d (dI h4_7), .d (dI h4_8), .d (dI h4_9)], .cells [.d (dB h5_0)]]))))) = (j124_24v1 h1_0 h2_0_0 h2_0_1 h3_0 h3_1 h3_2 h3_3_0 h3_3_1 h3_4_0 h3_4_1 h4_0 h4_1 h4_2 h4_3 h4_4 h4_5 h4_6 h4_7 h4_8 h4_9 h5_0).map e124 := by
  unfold j124_24v1; exact go (Q (rx c124_24) k124) @u124_6_2_t
def j124_13v1 (h1_0 : Bs) (h2_0_0 : Bool) (h2_0_1 : List (Bs × Bs)) (h3_0 : Int) (h3_1 : Bs) (h3_2 : Int) (h3_3_0 : Bool) (h3_3_1 : List (Bs × Bs)) (h3_4_0 : Bool) (h3_4_1 : List UInt8) (h4_0 h4_1 : Bool) (h4_2 h4_3 : Bool) (h4_4 h4_5 : Bool) (h4_6 h4_7 : Int) (h4_8 h4_9 : Int) (h5_0 : Bool) : Option R124 :=
  (m91a h3_0 h3_1 h3_2 h3_3_0 h3_3_1 h3_4_0 h3_4_1 h4_0 h4_1 h4_2 h4_3 h4_4 h4_5 h4_6 h4_7 h4_8 h4_9 h5_0).bind fun yr5 =>
    if yr5.1 = true then
      some ((1 : Int), h1_0, h2_0_0, h2_0_1, yr5.2.1, yr5.2.2.1, yr5.2.2.2.1, yr5.2.2.2.2.1, yr5.2.2.2.2.2.1, yr5.2.2.2.2.2.2.1, yr5.2.2.2.2.2.2.2.1, yr5.2.2.2.2.2.2.2.2.1, yr5.2.2.2.2.2.2.2.2.2.1, yr5.2.2.2.2.2.2.2.2.2.2.1, yr5.2.2.2.2.2.2.2.2.2.2.2.1, yr5.2.2.2.2.2.2.2.2.2.2.2.2.1, yr5.2.2.2.2.2.2.2.2.2.2.2.2.2.1, yr5.2.2.2.2.2.2.2.2.2.2.2.2.2.2.1, yr5.2.2.2.2.2.2.2.2.2.2.2.2.2.2.2.1, yr5.2.2.2.2.2.2.2.2.2.2.2.2.2.2.2.2.1, yr5.2.2.2.2.2.2.2.2.2.2.2.2.2.2.2.2.2.1, yr5.2.2.2.2.2.2.2.2.2.2.2.2.2.2.2.2.2.2)
    else
      j124_24v1 h1_0 h2_0_0 h2_0_1 yr5.2.1 yr5.2.2.1 yr5.2.2.2.1 yr5.2.2.2.2.1 yr5.2.2.2.2.2.1 yr5.2.2.2.2.2.2.1 yr5.2.2.2.2.2.2.2.1 yr5.2.2.2.2.2.2.2.2.1 yr5.2.2.2.2.2.2.2.2.2.1 yr5.2.2.2.2.2.2.2.2.2.2.1 yr5.2.2.2.2.2.2.2.2.2.2.2.1 yr5.2.2.2.2.2.2.2.2.2.2.2.2.1 yr5.2.2.2.2.2.2.2.2.2.2.2.2.2.1 yr5.2.2.2.2.2.2.2.2.2.2.2.2.2.2.1 yr5.2.2.2.2.2.2.2.2.2.2.2.2.2.2.2.1 yr5.2.2.2.2.2.2.2.2.2.2.2.2.2.2.2.2.1 yr5.2.2.2.2.2.2.2.2.2.2.2.2.2.2.2.2.2.1 yr5.2.2.2.2.2.2.2.2.2.2.2.2.2.2.2.2.2.2
theorem j124_13v1_t (h1_0 : Bs) (h2_0_0 : Bool) (h2_0_1 : List (Bs × Bs)) (h3_0 : Int) (h3_1 : Bs) (h3_2 : Int) (h3_3_0 : Bool) (h3_3_1 : List (Bs × Bs)) (h3_4_0 : Bool) (h3_4_1 : List UInt8) (h4_0 h4_1 : Bool) (h4_2 h4_3 : Bool) (h4_4 h4_5 : Bool) (h4_6 h4_7 : Int) (h4_8 h4_9 : Int) (h5_0 : Bool)  (sl : Sl) (_ : sl 0 = .v (.c (.slc 0 0 1 5 (some 5)))) (_ : sl 1 = vd (.sc (.func (.func 91) #[] #[]))) (_ : sl 7 = vd (dI 5)) (_ : sl 8 = vd (dI 1)) :
    b124 mm (sq (E0 mm) 124 6 c124_25 (blockD 0 (itB (lp (E0 mm) 124 6 c124_7 L124_0) (loopK 6 L124_0 (dn (E0 mm) 124 6 c124_13 sl [.cells [.fn 84 [(1, 0), (2, 0)], .fn 85 [(3, 0), (4, 0), (5, 0)], .fn 87 [(2, 0), (4, 0)], .fn 88 [(3, 0)], .fn 89 [(3, 0)]], .cells [.d (dS h1_0)], .cells [.d (.lst h2_0_0 (enL enSS h2_0_1))], .cells [.d (dI h3_0), .d (dS h3_1), .d (dI h3_2), .d (.lst h3_3_0 (enL enSS h3_3_1)), .d (.lst h3_4_0 (enL enB h3_4_1))], .cells [.d (dB h4_0), .d (dB h4_1), .d (dB h4_2), .d (dB h4_3), .d (dB h4_4), .d (dB h4_5), .d (dI h4_6), .d (dI h4_7), .d (dI h4_8), .d (dI h4_9)], .cells [.d (dB h5_0)]]))))) = (j124_13v1 h1_0 h2_0_0 h2_0_1 h3_0 h3_1 h3_2 h3_3_0 h3_3_1 h3_4_0 h3_4_1 h4_0 h4_1 h4_2 h4_3 h4_4 h4_5 h4_6 h4_7 h4_8 h4_9 h5_0).map e124 := by
  unfold j124_13v1; exact go (Q (nE c124_13 (.seq (.block 1 (.seq c124_16 (.seq c124_18 (.cond _ (.seq c124_21 .ret) .skip)))) c124_24)) k124) @j124_24v1_t
def u124_6_1 (h1_0 : Bs) (h2_0_0 : Bool) (h2_0_1 : List (Bs × Bs)) (h3_0 : Int) (h3_1 : Bs) (h3_2 : Int) (h3_3_0 : Bool) (h3_3_1 : List (Bs × Bs)) (h3_4_0 : Bool) (h3_4_1 : List UInt8) (h4_0 h4_1 : Bool) (h4_2 h4_3 : Bool) (h4_4 h4_5 : Bool) (h4_6 h4_7 : Int) (h4_8 h4_9 : Int) (h5_0 : Bool) : Option R124 :=
  j124_13v1 h1_0 h2_0_0 h2_0_1 h3_0 h3_1 h3_2 h3_3_0 h3_3_1 h3_4_0 h3_4_1 h4_0 h4_1 h4_2 h4_3 h4_4 h4_5 h4_6 h4_7 h4_8 h4_9 h5_0
theorem u124_6_1_t (h1_0 : Bs) (h2_0_0 : Bool) (h2_0_1 : List (Bs × Bs)) (h3_0 : Int) (h3_1 : Bs) (h3_2 : Int) (h3_3_0 : Bool) (h3_3_1 : List (Bs × Bs)) (h3_4_0 : Bool) (h3_4_1 : List UInt8) (h4_0 h4_1 : Bool) (h4_2 h4_3 : Bool) (h4_4 h4_5 : Bool) (h4_6 h4_7 : Int) (h4_8 h4_9 : Int) (h5_0 : Bool) :
    b124 mm (sq (E0 mm) 124 6 c124_25 (blockD 0 (itW (lp (E0 mm) 124 6 c124_7 L124_0) (none, [.v (.c (.slc 0 0 1 5 (some 5))), vd (.sc (.func (.func 91) #[] #[])), vd (dI 5), vd (dI 1)], [.cells [.fn 84 [(1, 0), (2, 0)], .fn 85 [(3, 0), (4, 0), (5, 0)], .fn 87 [(2, 0), (4, 0)], .fn 88 [(3, 0)], .fn 89 [(3, 0)]], .cells [.d (dS h1_0)], .cells [.d (.lst h2_0_0 (enL enSS h2_0_1))], .cells [.d (dI h3_0), .d (dS h3_1), .d (dI h3_2), .d (.lst h3_3_0 (enL enSS h3_3_1)), .d (.lst h3_4_0 (enL enB h3_4_1))], .cells [.d (dB h4_0), .d (dB h4_1), .d (dB h4_2), .d (dB h4_3), .d (dB h4_4), .d (dB h4_5), .d (dI h4_6), .d (dI h4_7), .d (dI h4_8), .d (dI h4_9)], .cells [.d (dB h5_0)]])))) = (u124_6_1 h1_0 h2_0_0 h2_0_1 h3_0 h3_1 h3_2 h3_3_0 h3_3_1 h3_4_0 h3_4_1 h4_0 h4_1 h4_2 h4_3 h4_4 h4_5 h4_6 h4_7 h4_8 h4_9 h5_0).map e124 := by
  rw [itW_B]
  unfold u124_6_1; exact go k124 @j124_13v1_t
def j124_24 (h1_0 : Bs) (h2_0_0 : Bool) (h2_0_1 : List (Bs × Bs)) (h3_0 : Int) (h3_1 : Bs) (h3_2 : Int) (h3_3_0 : Bool) (h3_3_1 : List (Bs × Bs)) (h3_4_0 : Bool) (h3_4_1 : List UInt8) (h4_0 h4_1 : Bool) (h4_2 h4_3 : Bool) (h4_4 h4_5 : Bool) (h4_6 h4_7 : Int) (h4_8 h4_9 : Int) (h5_0 : Bool) : Option R124 :=
  u124_6_1 h1_0 h2_0_0 h2_0_1 h3_0 h3_1 h3_2 h3_3_0 h3_3_1 h3_4_0 h3_4_1 h4_0 h4_1 h4_2 h4_3 h4_4 h4_5 h4_6 h4_7 h4_8 h4_9 h5_0
theorem j124_24_t (h1_0 : Bs) (h2_0_0 : Bool) (h2_0_1 : List (Bs × Bs)) (h3_0 : Int) (h3_1 : Bs) (h3_2 : Int) (h3_3_0 : Bool) (h3_3_1 : List (Bs × Bs)) (h3_4_0 : Bool) (h3_4_1 : List UInt8) (h4_0 h4_1 : Bool) (h4_2 h4_3 : Bool) (h4_4 h4_5 : Bool) (h4_6 h4_7 : Int) (h4_8 h4_9 : Int) (h5_0 : Bool)  (sl : Sl) (_ : sl 0 = .v (.c (.slc 0 0 1 5 (some 5)))) (_ : sl 1 = vd (.sc (.func (.func 91) #[] #[]))) (_ : sl 7 = vd (dI 5)) (_ : sl 8 = vd (dI 0)) :
    b124 mm (sq (E0 mm) 124 6 c124_25 (blockD 0 (itB (lp (E0 mm) 124 6 c124_7 L124_0) (loopK 6 L124_0 (dn (E0 mm) 124 6 c124_24 sl [.cells [.fn 84 [(1, 0), (2, 0)], .fn 85 [(3, 0), (4, 0), (5, 0)], .fn 87 [(2, 0), (4, 0)], .fn 88 [(3, 0)], .fn 89 [(3, 0)]], .cells [.d (dS h1_0)], .cells [.d (.lst h2_0_0 (enL enSS h2_0_1))], .cells [.d (dI h3_0), .d (dS h3_1), .d (dI h3_2), .d (.lst h3_3_0 (enL enSS h3_3_1)), .d (.lst h3_4_0 (enL enB h3_4_1))], .cells [.d (dB h4_0), .d (dB h4_1), .d (dB h4_2), .d (dB h4_3), .d (dB h4_4), .d (dB h4_5), .d (dI h4_6), .d (dI h4_7), .d (dI h4_8), .d (dI h4_9)], .cells [.d (dB h5_0)]]))))) = (j124_24 h1_0 h2_0_0 h2_0_1 h3_0 h3_1 h3_2 h3_3_0 h3_3_1 h3_4_0 h3_4_1 h4_0 h4_1 h4_2 h4_3 h4_4 h4_5 h4_6 h4_7 h4_8 h4_9 h5_0).map e124 := by
  unfold j124_24; exact go (Q (rx c124_24) k124) @u124_6_1_t
def j124_13 (h1_0 : Bs) (h2_0_0 : Bool) (h2_0_1 : List (Bs × Bs)) (h3_0 : Int) (h3_1 : Bs) (h3_2 : Int) (h3_3_0 : Bool) (h3_3_1 : List (Bs × Bs)) (h3_4_0 : Bool) (h3_4_1 : List UInt8) (h4_0 h4_1 : Bool) (h4_2 h4_3 : Bool) (h4_4 h4_5 : Bool) (h4_6 h4_7 : Int) (h4_8 h4_9 : Int) (h5_0 : Bool) : Option R124 :=
  (m91 h1_0 h2_0_0 h2_0_1).bind fun yr2 =>
    if yr2.1 = true then
      some ((0 : Int), yr2.2.1, yr2.2.2.1, yr2.2.2.2, h3_0, h3_1, h3_2, h3_3_0, h3_3_1, h3_4_0, h3_4_1, h4_0, h4_1, h4_2, h4_3, h4_4, h4_5, h4_6, h4_7, h4_8, h4_9, h5_0)
    else
      j124_24 yr2.2.1 yr2.2.2.1 yr2.2.2.2 h3_0 h3_1 h3_2 h3_3_0 h3_3_1 h3_4_0 h3_4_1 h4_0 h4_1 h4_2 h4_3 h4_4 h4_5 h4_6 h4_7 h4_8 h4_9 h5_0
theorem j124_13_t (h1_0 : Bs) (h2_0_0 : Bool) (h2_0_1 : List (Bs × Bs)) (h3_0 : Int) (h3_1 : Bs) (h3_2 : Int) (h3_3_0 : Bool) (h3_3_1 : List (Bs × Bs)) (h3_4_0 : Bool) (h3_4_1 : List UInt8) (h4_0 h4_1 : Bool) (h4_2 h4_3 : Bool) (h4_4 h4_5 : Bool) (h4_6 h4_7 : Int) (h4_8 h4_9 : Int) (h5_0 : Bool)  (sl : Sl) (_ : sl 0 = .v (.c (.slc 0 0 1 5 (some 5)))) (_ : sl 1 = vd (.sc (.func (.func 91) #[] #[]))) (_ : sl 7 = vd (dI 5)) (_ : sl 8 = vd (dI 0)) :
    b124 mm (sq (E0 mm) 124 6 c124_25 (blockD 0 (itB (lp (E0 mm) 124 6 c124_7 L124_0) (loopK 6 L124_0 (dn (E0 mm) 124 6 c124_13 sl [.cells [.fn 84 [(1, 0), (2, 0)], .fn 85 [(3, 0), (4, 0), (5, 0)], .fn 87 [(2, 0), (4, 0)], .fn 88 [(3, 0)], .fn 89 [(3, 0)]], .cells [.d (dS h1_0)], .cells [.d (.lst h2_0_0 (enL enSS h2_0_1))], .cells [.d (dI h3_0), .d (dS h3_1), .d (dI h3_2), .d (.lst h3_3_0 (enL enSS h3_3_1)), .d (.lst h3_4_0 (enL enB h3_4_1))], .cells [.d (dB h4_0), .d (dB h4_1), .d (dB h4_2), .d (dB h4_3), .d (dB h4_4), .d (dB h4_5), .d (dI h4_6), .d (dI h4_7), .d (dI h4_8), .d (dI h4_9)], .cells [.d (dB h5_0)]]))))) = (j124_13 h1_0 h2_0_0 h2_0_1 h3_0 h3_1 h3_2 h3_3_0 h3_3_1 h3_4_0 h3_4_1 h4_0 h4_1 h4_2 h4_3 h4_4 h4_5 h4_6 h4_7 h4_8 h4_9 h5_0).map e124 := by
  unfold j124_13; exact go (Q (nE c124_13 (.seq (.block 1 (.seq c124_16 (.seq c124_18 (.cond _ (.seq c124_21 .ret) .skip)))) c124_24)) k124) @j124_24_t
def u124_6_0 (h1_0 : Bs) (h2_0_0 : Bool) (h2_0_1 : List (Bs × Bs)) (h3_0 : Int) (h3_1 : Bs) (h3_2 : Int) (h3_3_0 : Bool) (h3_3_1 : List (Bs × Bs)) (h3_4_0 : Bool) (h3_4_1 : List UInt8) (h4_0 h4_1 : Bool) (h4_2 h4_3 : Bool) (h4_4 h4_5 : Bool) (h4_6 h4_7 : Int) (h4_8 h4_9 : Int) (h5_0 : Bool) : Option R124 :=
  j124_13 h1_0 h2_0_0 h2_0_1 h3_0 h3_1 h3_2 h3_3_0 h3_3_1 h3_4_0 h3_4_1 h4_0 h4_1 h4_2 h4_3 h4_4 h4_5 h4_6 h4_7 h4_8 h4_9 h5_0
theorem u124_6_0_t (h1_0 : Bs) (h2_0_0 : Bool) (h2_0_1 : List (Bs × Bs)) (h3_0 : Int) (h3_1 : Bs) (h3_2 : Int) (h3_3_0 : Bool) (h3_3_1 : List (Bs × Bs)) (h3_4_0 : Bool) (h3_4_1 : List UInt8) (h4_0 h4_1 : Bool) (h4_2 h4_3 : Bool) (h4_4 h4_5 : Bool) (h4_6 h4_7 : Int) (h4_8 h4_9 : Int) (h5_0 : Bool) :
    b124 mm (sq (E0 mm) 124 6 c124_25 (blockD 0 (itW (lp (E0 mm) 124 6 c124_7 L124_0) (none, [.v (.c (.slc 0 0 1 5 (some 5))), vd (.sc (.func (.func 91) #[] #[])), vd (dI 5), vd (dI 0)], [.cells [.fn 84 [(1, 0), (2, 0)], .fn 85 [(3, 0), (4, 0), (5, 0)], .fn 87 [(2, 0), (4, 0)], .fn 88 [(3, 0)], .fn 89 [(3, 0)]], .cells [.d (dS h1_0)], .cells [.d (.lst h2_0_0 (enL enSS h2_0_1))], .cells [.d (dI h3_0), .d (dS h3_1), .d (dI h3_2), .d (.lst h3_3_0 (enL enSS h3_3_1)), .d (.lst h3_4_0 (enL enB h3_4_1))], .cells [.d (dB h4_0), .d (dB h4_1), .d (dB h4_2), .d (dB h4_3), .d (dB h4_4), .d (dB h4_5), .d (dI h4_6), .d (dI h4_7), .d (dI h4_8), .d (dI h4_9)], .cells [.d (dB h5_0)]])))) = (u124_6_0 h1_0 h2_0_0 h2_0_1 h3_0 h3_1 h3_2 h3_3_0 h3_3_1 h3_4_0 h3_4_1 h4_0 h4_1 h4_2 h4_3 h4_4 h4_5 h4_6 h4_7 h4_8 h4_9 h5_0).map e124 := by
  rw [itW_B]
  unfold u124_6_0; exact go k124 @j124_13_t
def m124 (h1_0 : Bs) (h2_0_0 : Bool) (h2_0_1 : List (Bs × Bs)) (h3_0 : Int) (h3_1 : Bs) (h3_2 : Int) (h3_3_0 : Bool) (h3_3_1 : List (Bs × Bs)) (h3_4_0 : Bool) (h3_4_1 : List UInt8) (h4_0 h4_1 : Bool) (h4_2 h4_3 : Bool) (h4_4 h4_5 : Bool) (h4_6 h4_7 : Int) (h4_8 h4_9 : Int) (h5_0 : Bool) : Option R124 :=
  u124_6_0 h1_0 h2_0_0 h2_0_1 h3_0 h3_1 h3_2 h3_3_0 h3_3_1 h3_4_0 h3_4_1 h4_0 h4_1 h4_2 h4_3 h4_4 h4_5 h4_6 h4_7 h4_8 h4_9 h5_0
theorem f124_t (h1_0 : Bs) (h2_0_0 : Bool) (h2_0_1 : List (Bs × Bs)) (h3_0 : Int) (h3_1 : Bs) (h3_2 : Int) (h3_3_0 : Bool) (h3_3_1 : List (Bs × Bs)) (h3_4_0 : Bool) (h3_4_1 : List UInt8) (h4_0 h4_1 : Bool) (h4_2 h4_3 : Bool) (h4_4 h4_5 : Bool) (h4_6 h4_7 : Int) (h4_8 h4_9 : Int) (h5_0 : Bool) :
    callW (E0 mm) 124 [.c (.slc 0 0 1 5 (some 5)), cd (.sc (.func (.func 91) #[] #[]))] [.cells [.fn 84 [(1, 0), (2, 0)], .fn 85 [(3, 0), (4, 0), (5, 0)], .fn 87 [(2, 0), (4, 0)], .fn 88 [(3, 0)], .fn 89 [(3, 0)]], .cells [.d (dS h1_0)], .cells [.d (.lst h2_0_0 (enL enSS h2_0_1))], .cells [.d (dI h3_0), .d (dS h3_1), .d (dI h3_2), .d (.lst h3_3_0 (enL enSS h3_3_1)), .d (.lst h3_4_0 (enL enB h3_4_1))], .cells [.d (dB h4_0), .d (dB h4_1), .d (dB h4_2), .d (dB h4_3), .d (dB h4_4), .d (dB h4_5), .d (dI h4_6), .d (dI h4_7), .d (dI h4_8), .d (dI h4_9)], .cells [.d (dB h5_0)]] = (m124 h1_0 h2_0_0 h2_0_1 h3_0 h3_1 h3_2 h3_3_0 h3_3_1 h3_4_0 h3_4_1 h4_0 h4_1 h4_2 h4_3 h4_4 h4_5 h4_6 h4_7 h4_8 h4_9 h5_0).map e124 := by
  rw [cR c124_0 [.tmp 4] Tryz.func124]
  unfold m124; exact go k124 @u124_6_0_t
noncomputable def c90_0 : Code := bodyOf Tryz.f90
def c90_1 := cA c90_0
def c90_3 := cA (cB c90_0)
abbrev R90 := (Bool × Bs × Bool × List (Bs × Bs) × Int × Bs × Int × Bool × List (Bs × Bs) × Bool × List UInt8 × Bool × Bool × Bool × Bool × Bool × Bool × Int × Int × Int × Int × Bool)
def e90 (x : R90) : AV × Heap := (vd (dB x.1), [.cells [.fn 84 [(1, 0), (2, 0)], .fn 85 [(3, 0), (4, 0), (5, 0)], .fn 87 [(2, 0), (4, 0)], .fn 88 [(3, 0)], .fn 89 [(3, 0)]], .cells [.d (dS x.2.1)], .cells [.d (.lst x.2.2.1 (enL enSS x.2.2.2.1))], .cells [.d (dI x.2.2.2.2.1), .d (dS x.2.2.2.2.2.1), .d (dI x.2.2.2.2.2.2.1), .d (.lst x.2.2.2.2.2.2.2.1 (enL enSS x.2.2.2.2.2.2.2.2.1)), .d (.lst x.2.2.2.2.2.2.2.2.2.1 (enL enB x.2.2.2.2.2.2.2.2.2.2.1))], .cells [.d (dB x.2.2.2.2.2.2.2.2.2.2.2.1), .d (dB x.2.2.2.2.2.2.2.2.2.2.2.2.1), .d (dB x.2.2.2.2.2.2.2.2.2.2.2.2.2.1), .d (dB x.2.2.2.2.2.2.2.2.2.2.2.2.2.2.1), .d (dB x.2.2.2.2.2.2.2.2.2.2.2.2.2.2.2.1), .d (dB x.2.2.2.2.2.2.2.2.2.2.2.2.2.2.2.2.1), .d (dI x.2.2.2.2.2.2.2.2.2.2.2.2.2.2.2.2.2.1), .d (dI x.2.2.2.2.2.2.2.2.2.2.2.2.2.2.2.2.2.2.1), .d (dI x.2.2.2.2.2.2.2.2.2.2.2.2.2.2.2.2.2.2.2.1), .d (dI x.2.2.2.2.2.2.2.2.2.2.2.2.2.2.2.2.2.2.2.2.1)], .cells [.d (dB x.2.2.2.2.2.2.2.2.2.2.2.2.2.2.2.2.2.2.2.2.2)]])
def m90 (h1_0 : Bs) (h2_0_0 : Bool) (h2_0_1 : List (Bs × Bs)) (h3_0 : Int) (h3_1 : Bs) (h3_2 : Int) (h3_3_0 : Bool) (h3_3_1 : List (Bs × Bs)) (h3_4_0 : Bool) (h3_4_1 : List UInt8) (h4_0 h4_1 : Bool) (h4_2 h4_3 : Bool) (h4_4 h4_5 : Bool) (h4_6 h4_7 : Int) (h4_8 h4_9 : Int) (h5_0 : Bool) : Option R90 :=
  (m124 h1_0 h2_0_0 h2_0_1 h3_0 h3_1 h3_2 h3_3_0 h3_3_1 h3_4_0 h3_4_1 h4_0 h4_1 h4_2 h4_3 h4_4 h4_5 h4_6 h4_7 h4_8 h4_9 h5_0).bind fun yr2 =>
    some ((decide (0 ≤ yr2.1)), yr2.2.1, yr2.2.2.1, yr2.2.2.2.1, yr2.2.2.2.2.1, yr2.2.2.2.2.2.1, yr2.2.2.2.2.2.2.1, yr2.2.2.2.2.2.2.2.1, yr2.2.2.2.2.2.2.2.2.1, yr2.2.2.2.2.2.2.2.2.2.1, yr2.2.2.2.2.2.2.2.2.2.2.1, yr2.2.2.2.2.2.2.2.2.2.2.2.1, yr2.2.2.2.2.2.2.2.2.2.2.2.2.1, yr2.2.2.2.2.2.2.2.2.2.2.2.2.2.1, yr2.2.2.2.2.2.2.2.2.2.2.2.2.2.2.1, yr2.2.2.2.2.2.2.2.2.2.2.2.2.2.2.2.1, yr2.2.2.2.2.2.2.2.2.2.2.2.2.2.2.2.2.1, yr2.2.2.2.2.2.2.2.2.2.2.2.2.2.2.2.2.2.1, yr2.2.2.2.2.2.2.2.2.2.2.2.2.2.2.2.2.2.2.1, yr2.2.2.2.2.2.2.2.2.2.2.2.2.2.2.2.2.2.2.2.1, yr2.2.2.2.2.2.2.2.2.2.2.2.2.2.2.2.2.2.2.2.2.1, yr2.2.2.2.2.2.2.2.2.2.2.2.2.2.2.2.2.2.2.2.2.2)
def k90 := Q (rx c90_1) (Q (rx c90_3) (Q @ent124 (Q @prm124 (Q @f124_t (Q (show List.range 6 = [0, 1, 2, 3, 4, 5] from rfl) (Q @e124.eq_1 (Q (nE c90_0 (.seq c90_1 (.seq c90_3 .ret))) hA)))))))
theorem f90_t (h1_0 : Bs) (h2_0_0 : Bool) (h2_0_1 : List (Bs × Bs)) (h3_0 : Int) (h3_1 : Bs) (h3_2 : Int) (h3_3_0 : Bool) (h3_3_1 : List (Bs × Bs)) (h3_4_0 : Bool) (h3_4_1 : List UInt8) (h4_0 h4_1 : Bool) (h4_2 h4_3 : Bool) (h4_4 h4_5 : Bool) (h4_6 h4_7 : Int) (h4_8 h4_9 : Int) (h5_0 : Bool) :
    callW (E0 mm) 90 [.c (.slc 0 0 1 5 (some 5)), cd (.sc (.func (.func 91) #[] #[]))] [.cells [.fn 84 [(1, 0), (2, 0)], .fn 85 [(3, 0), (4, 0), (5, 0)], .fn 87 [(2, 0), (4, 0)], .fn 88 [(3, 0)], .fn 89 [(3, 0)]], .cells [.d (dS h1_0)], .cells [.d (.lst h2_0_0 (enL enSS h2_0_1))], .cells [.d (dI h3_0), .d (dS h3_1), .d (dI h3_2), .d (.lst h3_3_0 (enL enSS h3_3_1)), .d (.lst h3_4_0 (enL enB h3_4_1))], .cells [.d (dB h4_0), .d (dB h4_1), .d (dB h4_2), .d (dB h4_3), .d (dB h4_4), .d (dB h4_5), .d (dI h4_6), .d (dI h4_7), .d (dI h4_8), .d (dI h4_9)], .cells [.d (dB h5_0)]] = (m90 h1_0 h2_0_0 h2_0_1 h3_0 h3_1 h3_2 h3_3_0 h3_3_1 h3_4_0 h3_4_1 h4_0 h4_1 h4_2 h4_3 h4_4 h4_5 h4_6 h4_7 h4_8 h4_9 h5_0).map e90 := by
  rw [cR c90_0 [.tmp 4] Tryz.func90]
  unfold m90; exact go k90 trivial
noncomputable def c43_0 : Code := bodyOf Tryz.f43
def c43_1 := cA c43_0
def c43_3 := cA (cB c43_0)
def c43_5 := cA (cB (cB c43_0))
def c43_7 := cA (cB (cB (cB c43_0)))
def c43_9 := cA (cB (cB (cB (cB c43_0))))
def c43_11 := cA (cB (cB (cB (cB (cB c43_0)))))
def c43_13 := cA (cB (cB (cB (cB (cB (cB c43_0))))))
def c43_15 := cA (cB (cB (cB (cB (cB (cB (cB c43_0)))))))
def c43_17 := cA (cB (cB (cB (cB (cB (cB (cB (cB c43_0))))))))
abbrev R43 := (Bool)
def e43 (x : R43) : AV × Heap := (vd (dB x), [])
def m43 (method : Bs) (l_0 : Bool) (l_1 : List (Bs × Bs)) (x0_0 : Int) (x0_1 : Bs) (x0_2 : Int) (x0_3 : Bool) (x0_4 : List (Bs × Bs)) (x0_5 : Bool) (x0_6 : List UInt8) : Option R43 :=
  (m23 x0_3 x0_4).bind fun yr2 =>
    (m24 x0_3 x0_4).bind fun yr4 =>
      (m90 method l_0 l_1 x0_0 x0_1 x0_2 x0_3 x0_4 x0_5 x0_6 yr2.1 yr2.2.1 yr2.2.2.1 yr2.2.2.2.1 yr2.2.2.2.2.1 yr2.2.2.2.2.2.1 yr2.2.2.2.2.2.2.1 yr2.2.2.2.2.2.2.2.1 yr2.2.2.2.2.2.2.2.2.1 yr2.2.2.2.2.2.2.2.2.2 yr4.2.2).bind fun yr6 =>
        some (!yr6.1)
def k43 := Q (rx c43_1) (Q (rx c43_3) (Q @f23_t (Q @e23.eq_1 (Q @ao139 (Q (rx c43_5) (Q @f24_t (Q @e24.eq_1 (Q @zc4 (Q @ao143 (Q (rx c43_7) (Q (rx c43_9) (Q (rx c43_11) (Q (rx c43_13) (Q (rx c43_15) (Q (rx c43_17) (Q @zc35 (Q @hd144 (Q @nv145 (Q @rw146 (Q @nc147 (Q @ent90 (Q @prm90 (Q @f90_t (Q (show List.range 7 = [0, 1, 2, 3, 4, 5, 6] from rfl) (Q @e90.eq_1 (Q (nE c43_0 (.seq c43_1 (.seq c43_3 (.seq c43_5 (.seq c43_7 (.seq c43_9 (.seq c43_11 (.seq c43_13 (.seq c43_15 (.seq c43_17 .ret)))))))))) hA))))))))))))))))))))))))))
theorem f43_t (method : Bs) (l_0 : Bool) (l_1 : List (Bs × Bs)) (x0_0 : Int) (x0_1 : Bs) (x0_2 : Int) (x0_3 : Bool) (x0_4 : List (Bs × Bs)) (x0_5 : Bool) (x0_6 : List UInt8) :
    callW (E0 mm) 43 [cd (dS method), cd (.lst l_0 (enL enSS l_1)), .agg [.d (dI x0_0), .d (dS x0_1), .d (dI x0_2), .d (.lst x0_3 (enL enSS x0_4)), .d (.lst x0_5 (enL enB x0_6))]] [] = (m43 method l_0 l_1 x0_0 x0_1 x0_2 x0_3 x0_4 x0_5 x0_6).map e43 := by
  rw [cR c43_0 [.tmp 6] Tryz.func43]
  unfold m43; exact go k43 trivial
noncomputable def c12_0 : Code := bodyOf Tryz.f12
def c12_1 := cA c12_0
def c12_3 := cA (cB c12_0)
abbrev R12 := (Bool)
def e12 (x : R12) : AV × Heap := (vd (dB x), [])
def m12 (r0_0 r0_1 : Bs) (r0_2 : Int) (r0_3 : Bool) (r0_4 : List (Bs × Bs)) (r0_5 : Bool) (r0_6 : List UInt8) (x0_0 : Int) (x0_1 : Bs) (x0_2 : Int) (x0_3 : Bool) (x0_4 : List (Bs × Bs)) (x0_5 : Bool) (x0_6 : List UInt8) : Option R12 :=
  (m43 r0_0 r0_3 r0_4 x0_0 x0_1 x0_2 x0_3 x0_4 x0_5 x0_6).bind fun yr2 =>
    some yr2
def k12 := Q (rx c12_1) (Q (rx c12_3) (Q @ent43 (Q @prm43 (Q @f43_t (Q @e43.eq_1 (Q (nE c12_0 (.seq c12_1 (.seq c12_3 .ret))) hA))))))
theorem f12_t (r0_0 r0_1 : Bs) (r0_2 : Int) (r0_3 : Bool) (r0_4 : List (Bs × Bs)) (r0_5 : Bool) (r0_6 : List UInt8) (x0_0 : Int) (x0_1 : Bs) (x0_2 : Int) (x0_3 : Bool) (x0_4 : List (Bs × Bs)) (x0_5 : Bool) (x0_6 : List UInt8) :
    callW (E0 mm) 12 [.agg [.d (dS r0_0), .d (dS r0_1), .d (dI r0_2), .d (.lst r0_3 (enL enSS r0_4)), .d (.lst r0_5 (enL enB r0_6))], .agg [.d (dI x0_0), .d (dS x0_1), .d (dI x0_2), .d (.lst x0_3 (enL enSS x0_4)), .d (.lst x0_5 (enL enB x0_6))]] [] = (m12 r0_0 r0_1 r0_2 r0_3 r0_4 r0_5 r0_6 x0_0 x0_1 x0_2 x0_3 x0_4 x0_5 x0_6).map e12 := by
  rw [cR c12_0 [.tmp 4] Tryz.func12]
  unfold m12; exact go k12 trivial
end
end Go.Proofs.YtbkobjepahlegaaGreatDoor
