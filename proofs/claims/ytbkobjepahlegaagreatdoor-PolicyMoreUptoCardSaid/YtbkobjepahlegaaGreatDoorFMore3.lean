/- The Go functions as plain functions, and that the evaluator computes them. -/
import Derived.Test.YtbkobjepahlegaaGreatDoorFMore2
set_option linter.all false
set_option maxRecDepth 100000
namespace Go.Proofs.YtbkobjepahlegaaGreatDoor
open Go Go.Ab
open Nat renaming reduceEqDiff → za, reduceAdd → zb, reduceLeDiff → zc, reduceLT → zd, reduceMul → ze, reduceBEq → zf, reduceSub → zg, reducePow → zh
open Int renaming reduceEq → zi, reduceLE → zj, reduceLT → zk, reduceToNat → zl, reduceNegSucc → zm, reduceAdd → zn, reduceBEq → zo
open String renaming reduceBEq → zp
set_option maxHeartbeats 4000000
noncomputable section
variable {mm : Int}
noncomputable def c65_0 : Code := bodyOf Tryz.f65
def c65_1 := cA c65_0
def c65_3 := cA (cB c65_0)
def c65_6 := cA (cA (cB (cB c65_0)))
def c65_9 := cA (cA (cB (cA (cB (cB c65_0)))))
def c65_13 := cA (cB (cB (cB c65_0)))
def c65_15 := cA (cB (cB (cB (cB c65_0))))
abbrev R65 := (Int × Bool)
def e65 (x : R65) : AV × Heap := (.tup [cd (dU x.1), cd (dB x.2)], [])
def m65 (r0_0 : Int) (r0_1 : Bs) (r0_2 : Int) (r0_3 : Bool) (r0_4 : List (Bs × Bs)) (r0_5 : Bool) (r0_6 : List UInt8) (name : Bs) : Option R65 :=
  (m110 r0_0 r0_1 r0_2 r0_3 r0_4 r0_5 r0_6 name).bind fun yr2 =>
    if yr2.2 = true then
      (m104 yr2.1).bind fun yr5 =>
        some (yr5.1, (yr5.2 == 0))
    else
      some ((0 : Int), false)
def k65 := Q (rx c65_1) (Q (rx c65_3) (Q @f110_t (Q @e110.eq_1 (Q (rx c65_6) (Q (rx c65_13) (Q @f104_t (Q @e104.eq_1 (Q (rx c65_15) (Q (rx c65_9) (Q (nE c65_0 (.seq c65_1 (.seq c65_3 (.seq (.seq c65_6 (.cond _ (.seq c65_9 .ret) .skip)) (.seq c65_13 (.seq c65_15 .ret)))))) hA))))))))))
theorem f65_t (r0_0 : Int) (r0_1 : Bs) (r0_2 : Int) (r0_3 : Bool) (r0_4 : List (Bs × Bs)) (r0_5 : Bool) (r0_6 : List UInt8) (name : Bs) :
    callW (E0 mm) 65 [.agg [.d (dI r0_0), .d (dS r0_1), .d (dI r0_2), .d (.lst r0_3 (enL enSS r0_4)), .d (.lst r0_5 (enL enB r0_6))], cd (dS name)] [] = (m65 r0_0 r0_1 r0_2 r0_3 r0_4 r0_5 r0_6 name).map e65 := by
  rw [cR c65_0 [.tmp 4, .tmp 5] Tryz.func65]
  unfold m65; exact go k65 trivial
noncomputable def c64_0 : Code := bodyOf Tryz.f64
def c64_1 := cA c64_0
def c64_3 := cA (cB c64_0)
abbrev R64 := (Int × Bool)
def e64 (x : R64) : AV × Heap := (.tup [cd (dU x.1), cd (dB x.2)], [])
def m64 (r0_0 : Int) (r0_1 : Bs) (r0_2 : Int) (r0_3 : Bool) (r0_4 : List (Bs × Bs)) (r0_5 : Bool) (r0_6 : List UInt8) : Option R64 :=
  (m65 r0_0 r0_1 r0_2 r0_3 r0_4 r0_5 r0_6 ([100, 97, 116, 101] : Bs)).bind fun yr2 =>
    some (yr2.1, yr2.2)
def k64 := Q (rx c64_1) (Q (rx c64_3) (Q (fun (mm : Int) (r0_0 : Int) (r0_1 : Bs) (r0_2 : Int) (r0_3 : Bool) (r0_4 : List (Bs × Bs)) (r0_5 : Bool) (r0_6 : List UInt8) => (show callW (E0 mm) 65 [.agg [.d (dI r0_0), .d (dS r0_1), .d (dI r0_2), .d (.lst r0_3 (enL enSS r0_4)), .d (.lst r0_5 (enL enB r0_6))], cd (dS ([100, 97, 116, 101] : Bs))] [] = _ from f65_t r0_0 r0_1 r0_2 r0_3 r0_4 r0_5 r0_6 ([100, 97, 116, 101] : Bs))) (Q @e65.eq_1 (Q (nE c64_0 (.seq c64_1 (.seq c64_3 .ret))) hA))))
theorem f64_t (r0_0 : Int) (r0_1 : Bs) (r0_2 : Int) (r0_3 : Bool) (r0_4 : List (Bs × Bs)) (r0_5 : Bool) (r0_6 : List UInt8) :
    callW (E0 mm) 64 [.agg [.d (dI r0_0), .d (dS r0_1), .d (dI r0_2), .d (.lst r0_3 (enL enSS r0_4)), .d (.lst r0_5 (enL enB r0_6))]] [] = (m64 r0_0 r0_1 r0_2 r0_3 r0_4 r0_5 r0_6).map e64 := by
  rw [cR c64_0 [.tmp 2, .tmp 3] Tryz.func64]
  unfold m64; exact go k64 trivial
noncomputable def c66_0 : Code := bodyOf Tryz.f66
def c66_1 := cA c66_0
def c66_4 := cA (cA (cB c66_0))
def c66_7 := cA (cA (cB (cA (cB c66_0))))
def c66_11 := cA (cB (cB c66_0))
abbrev R66 := (Int)
def e66 (x : R66) : AV × Heap := (vd (dU x), [])
def m66 (xfrom to : Int) : Option R66 :=
  if (decide (to ≤ xfrom)) = true then
    some (0 : Int)
  else
    some (wu64 (to - xfrom))
def k66 := Q (rx c66_1) (Q (rx c66_4) (Q (rx c66_7) (Q (rx c66_11) (Q (nE c66_0 (.seq c66_1 (.seq (.seq c66_4 (.cond _ (.seq c66_7 .ret) .skip)) (.seq c66_11 .ret)))) hA))))
theorem f66_t (xfrom to : Int) :
    callW (E0 mm) 66 [cd (dU xfrom), cd (dU to)] [] = (m66 xfrom to).map e66 := by
  rw [cR c66_0 [.tmp 4] Tryz.func66]
  unfold m66; exact go k66 trivial
noncomputable def c111_0 : Code := bodyOf Tryz.f111
def c111_1 := cA c111_0
def c111_4 := cA (cA (cB c111_0))
def c111_6 := cA (cB (cA (cB c111_0)))
def c111_7 := cA c111_6
def c111_8 := cA c111_7
def c111_16 := cA (cA (cA (cB (cB c111_7))))
def c111_18 := cA (cB (cA (cA (cB (cB c111_7)))))
def c111_21 := cA (cA (cB (cB (cA (cA (cB (cB c111_7)))))))
def c111_24 := cB (cB (cB c111_7))
def c111_25 := cB (cB c111_0)
def c111_26 := cA c111_25
def L111_6 : List (Nat × Co) := [(0, .keep), (1, .keep), (7, .keep), (8, .keep)]
abbrev R111 := (Int)
def e111 (x : R111) : AV × Heap := (vd (dI x), [])
def j111_25  : Option R111 :=
  some (-1 : Int)
def K111_6 (mm : Int) (r : Option (Ex × St)) : Option (AV × Heap) := bodyD (E0 mm) [.tmp 4] 0 false (sq (E0 mm) 111 0 c111_25 (blockD 0 (r)))
def en111_6 (x : (Bool × List Int × Int × Int × Int)) : X := (none, [vd (.lst x.1 (enL enN x.2.1)), vd (dI x.2.2.1), vd (dI x.2.2.2.1), vd (dI x.2.2.2.2)], [])
def k111 := Q (rx c111_26) (Q (rx c111_8) (Q (rx c111_16) (Q (rx c111_18) (Q @enN_a (Q @enN_e (Q (rx c111_21) (Q @K111_6.eq_1 (Q (rx c111_24) (Q (rx c111_1) (Q (rx c111_4) (Q (fun mm => lx (E0 mm) 111 c111_6 c111_7 L111_6) (Q (nE c111_0 (.seq c111_1 (.seq (.seq c111_4 (.block 0 c111_6)) c111_25))) (Q (nE c111_7 (.seq c111_8 (.seq (.cond _ .skip (.exit 0)) (.seq (.block 1 (.seq c111_16 (.seq c111_18 (.cond _ (.seq c111_21 .ret) .skip)))) c111_24)))) (Q @en111_6.eq_1 (Q @L111_6.eq_1 hA)))))))))))))))
theorem j111_25_t (sl : Sl)  :
    bodyD (E0 mm) [.tmp 4] 0 false (dn (E0 mm) 111 0 c111_25 sl []) = (j111_25).map e111 := by
  unfold j111_25; exact go (Q (nE c111_25 (.seq c111_26 .ret)) k111) trivial
def s111_6 (s0_0 : Bool) (s0_1 : List Int) (v1 t7 t8 : Int) : Option ((Bool × List Int × Int × Int × Int) ⊕ R111) :=
  if (decide (t8 < t7)) = true then
    if 0 ≤ t8 ∧ t8 < (s0_1.length : Int) then
      if (v1 == (s0_1.getD t8.toNat default)) = true then
        some (.inr t8)
      else
        some (.inl (s0_0, s0_1, v1, t7, (w64 (t8 + 1))))
    else none
  else
    (j111_25).map .inr
theorem s111_6_t (s0_0 : Bool) (s0_1 : List Int) (v1 t7 t8 : Int) :
    stepE (K111_6 mm) (lp (E0 mm) 111 0 c111_7 L111_6 (en111_6 (s0_0, s0_1, v1, t7, t8))) = (s111_6 s0_0 s0_1 v1 t7 t8).map (sm en111_6 e111) := by
  unfold s111_6; exact go k111 @j111_25_t
def l111_6 (s0_0 : Bool) (s0_1 : List Int) (v1 t7 t8 : Int) : Option R111 := iter (fun x : (Bool × List Int × Int × Int × Int) => s111_6 x.1 x.2.1 x.2.2.1 x.2.2.2.1 x.2.2.2.2) (s0_0, s0_1, v1, t7, t8)
theorem l111_6_t (s0_0 : Bool) (s0_1 : List Int) (v1 t7 t8 : Int) : (K111_6 mm) (itW (lp (E0 mm) 111 0 c111_7 L111_6) (en111_6 (s0_0, s0_1, v1, t7, t8))) = (l111_6 s0_0 s0_1 v1 t7 t8).map e111 :=
  it_sim (K := (K111_6 mm)) rfl (enc := en111_6) (fun x => s111_6_t x.1 x.2.1 x.2.2.1 x.2.2.2.1 x.2.2.2.2) (s0_0, s0_1, v1, t7, t8)
def m111 (s_0 : Bool) (s_1 : List Int) (v : Int) : Option R111 :=
  l111_6 s_0 s_1 v (s_1.length : Int) (0 : Int)
theorem f111_t (s_0 : Bool) (s_1 : List Int) (v : Int) :
    callW (E0 mm) 111 [cd (.lst s_0 (enL enN s_1)), cd (dI v)] [] = (m111 s_0 s_1 v).map e111 := by
  rw [cR c111_0 [.tmp 4] Tryz.func111]
  unfold m111; exact go k111 @l111_6_t
noncomputable def c67_0 : Code := bodyOf Tryz.f67
def c67_1 := cA c67_0
def c67_3 := cA (cB c67_0)
abbrev R67 := (Bool)
def e67 (x : R67) : AV × Heap := (vd (dB x), [])
def m67 (s_0 : Bool) (s_1 : List Int) (v : Int) : Option R67 :=
  (m111 s_0 s_1 v).bind fun yr2 =>
    some (decide (0 ≤ yr2))
def k67 := Q (rx c67_1) (Q (rx c67_3) (Q @ent111 (Q @prm111 (Q @f111_t (Q @e111.eq_1 (Q (nE c67_0 (.seq c67_1 (.seq c67_3 .ret))) hA))))))
theorem f67_t (s_0 : Bool) (s_1 : List Int) (v : Int) :
    callW (E0 mm) 67 [cd (.lst s_0 (enL enN s_1)), cd (dI v)] [] = (m67 s_0 s_1 v).map e67 := by
  rw [cR c67_0 [.tmp 4] Tryz.func67]
  unfold m67; exact go k67 trivial
noncomputable def c25_0 : Code := bodyOf Tryz.f25
def c25_1 := cA c25_0
def c25_3 := cA (cB c25_0)
def c25_5 := cA (cB (cB c25_0))
def c25_9 := cA (cA (cA (cB (cB (cB c25_0)))))
def c25_12 := cA (cA (cB (cA (cA (cB (cB (cB c25_0)))))))
def c25_15 := cA (cB (cB (cA (cA (cB (cB (cB c25_0)))))))
def c25_18 := cA (cA (cB (cB (cB (cA (cA (cB (cB (cB c25_0)))))))))
def c25_21 := cA (cB (cB (cB (cB (cA (cA (cB (cB (cB c25_0)))))))))
def c25_24 := cA (cA (cB (cB (cB (cB (cB (cA (cA (cB (cB (cB c25_0)))))))))))
def c25_27 := cA (cA (cB (cA (cB (cB (cB (cB (cB (cA (cA (cB (cB (cB c25_0)))))))))))))
def c25_28 := cB (cA (cB (cA (cB (cB (cB (cB (cB (cA (cA (cB (cB (cB c25_0)))))))))))))
def c25_30 := cA (cA c25_28)
def c25_33 := cB (cB (cA (cB (cB (cB (cB (cB (cA (cA (cB (cB (cB c25_0))))))))))))
def c25_34 := cA c25_33
def c25_37 := cB (cB (cB (cB c25_0)))
def c25_38 := cA c25_37
def c25_41 := cA (cA (cB c25_37))
def c25_42 := cB (cA (cB c25_37))
def c25_44 := cA (cA c25_42)
def c25_47 := cB (cB c25_37)
def c25_48 := cA c25_47
abbrev R25 := (Int × Bool)
def e25 (x : R25) : AV × Heap := (.tup [cd (dI x.1), cd (dB x.2)], [])
def j25_28 (at5 end7 : Int) (t49 : Bool) : Option R25 :=
  if t49 = true then
    some ((0 : Int), true)
  else
    (m66 at5 end7).bind fun yr15 =>
      some ((w64 (min2 yr15 2147483648)), true)
def k25 := Q (rx c25_30) (Q (rx c25_34) (Q @f66_t (Q @e66.eq_1 (Q (rx c25_44) (Q (rx c25_48) (Q (rx c25_1) (Q (rx c25_3) (Q @f23_t (Q @e23.eq_1 (Q @ao84 (Q (rx c25_5) (Q @f64_t (Q @e64.eq_1 (Q (rx c25_9) (Q (rx c25_12) (Q (rx c25_15) (Q (rx c25_18) (Q (rx c25_21) (Q (fun (mm : Int) (r0_3 : Bool) (r0_4 : List (Bs × Bs)) => (show callW (E0 mm) 29 [cd (.lst r0_3 (enL enSS r0_4)), cd (dS ([101, 120, 112, 105, 114, 101, 115] : Bs))] [] = _ from f29_t r0_3 r0_4 ([101, 120, 112, 105, 114, 101, 115] : Bs))) (Q @e29.eq_1 (Q (rx c25_24) (Q (fun (mm : Int) (r0_0 : Int) (r0_1 : Bs) (r0_2 : Int) (r0_3 : Bool) (r0_4 : List (Bs × Bs)) (r0_5 : Bool) (r0_6 : List UInt8) => (show callW (E0 mm) 65 [.agg [.d (dI r0_0), .d (dS r0_1), .d (dI r0_2), .d (.lst r0_3 (enL enSS r0_4)), .d (.lst r0_5 (enL enB r0_6))], cd (dS ([101, 120, 112, 105, 114, 101, 115] : Bs))] [] = _ from f65_t r0_0 r0_1 r0_2 r0_3 r0_4 r0_5 r0_6 ([101, 120, 112, 105, 114, 101, 115] : Bs))) (Q @e65.eq_1 (Q (rx c25_27) (Q (rx c25_38) (Q (fun (mm : Int) (r0_0 : Int) (r0_1 : Bs) (r0_2 : Int) (r0_3 : Bool) (r0_4 : List (Bs × Bs)) (r0_5 : Bool) (r0_6 : List UInt8) => (show callW (E0 mm) 65 [.agg [.d (dI r0_0), .d (dS r0_1), .d (dI r0_2), .d (.lst r0_3 (enL enSS r0_4)), .d (.lst r0_5 (enL enB r0_6))], cd (dS ([108, 97, 115, 116, 45, 109, 111, 100, 105, 102, 105, 101, 100] : Bs))] [] = _ from f65_t r0_0 r0_1 r0_2 r0_3 r0_4 r0_5 r0_6 ([108, 97, 115, 116, 45, 109, 111, 100, 105, 102, 105, 101, 100] : Bs))) (Q (rx c25_41) (Q @hd91 (Q @nv92 (Q @rw93 (Q @ns94 (Q @ent67 (Q @prm67 (Q (fun (mm : Int) (r0_0 : Int) => (show callW (E0 mm) 67 [cd (.lst false (enL enN ([(200 : Int), (203 : Int), (204 : Int), (300 : Int), (301 : Int), (308 : Int), (404 : Int), (405 : Int), (410 : Int), (414 : Int), (501 : Int)] : List Int))), cd (dI r0_0)] [] = _ from f67_t false ([(200 : Int), (203 : Int), (204 : Int), (300 : Int), (301 : Int), (308 : Int), (404 : Int), (405 : Int), (410 : Int), (414 : Int), (501 : Int)] : List Int) r0_0)) (Q @e67.eq_1 (Q (nE c25_0 (.seq c25_1 (.seq c25_3 (.seq c25_5 (.seq (.block 0 (.seq c25_9 (.cond _ (.seq c25_12 .ret) (.seq c25_15 (.cond _ (.seq c25_18 .ret) (.seq c25_21 (.cond _ (.seq c25_24 (.seq (.seq c25_27 c25_28) c25_33)) .skip))))))) c25_37))))) (Q (nE c25_33 (.seq c25_34 .ret)) (Q (nE c25_37 (.seq c25_38 (.seq (.seq c25_41 c25_42) c25_47))) (Q (nE c25_47 (.seq c25_48 .ret)) hA)))))))))))))))))))))))))))))))))))))))
theorem j25_28_t (at5 end7 : Int) (t49 : Bool) (g0 g1 g2 : Ob) (sl : Sl) (_ : sl 5 = vd (dU at5)) (_ : sl 7 = vd (dU end7)) (_ : sl 49 = vd (dB t49)) :
    bodyD (E0 mm) [.tmp 2, .tmp 3] 0 false (sq (E0 mm) 25 0 c25_37 (blockD 0 (sq (E0 mm) 25 0 c25_33 (dn (E0 mm) 25 0 c25_28 sl [g0, g1, g2])))) = (j25_28 at5 end7 t49).map e25 := by
  unfold j25_28; exact go (Q (nE c25_28 (.cond _ (.seq c25_30 .ret) .skip)) k25) trivial
def j25_42 (at5 changed9 : Int) (t72 : Bool) : Option R25 :=
  if t72 = true then
    some ((0 : Int), false)
  else
    (m66 changed9 at5).bind fun yr24 =>
      some ((w64 (min2 (wu64 (yr24.tdiv 10)) 86400)), false)
theorem j25_42_t (at5 changed9 : Int) (t72 : Bool) (g0 g1 g2 : Ob) (sl : Sl) (_ : sl 5 = vd (dU at5)) (_ : sl 9 = vd (dU changed9)) (_ : sl 72 = vd (dB t72)) :
    bodyD (E0 mm) [.tmp 2, .tmp 3] 0 false (sq (E0 mm) 25 0 c25_47 (dn (E0 mm) 25 0 c25_42 sl [g0, g1, g2])) = (j25_42 at5 changed9 t72).map e25 := by
  unfold j25_42; exact go (Q (nE c25_42 (.cond _ (.seq c25_44 .ret) .skip)) k25) trivial
def m25 (r0_0 : Int) (r0_1 : Bs) (r0_2 : Int) (r0_3 : Bool) (r0_4 : List (Bs × Bs)) (r0_5 : Bool) (r0_6 : List UInt8) : Option R25 :=
  (m23 r0_3 r0_4).bind fun yr2 =>
    (m64 r0_0 r0_1 r0_2 r0_3 r0_4 r0_5 r0_6).bind fun yr4 =>
      if (decide (0 ≤ yr2.2.2.2.2.2.2.2.1)) = true then
        some ((min2 yr2.2.2.2.2.2.2.2.1 2147483648), true)
      else
        if (decide (0 ≤ yr2.2.2.2.2.2.2.1)) = true then
          some ((min2 yr2.2.2.2.2.2.2.1 2147483648), true)
        else
          (m29 r0_3 r0_4 ([101, 120, 112, 105, 114, 101, 115] : Bs)).bind fun yr8 =>
            if (decide (0 < (yr8.2.length : Int))) = true then
              (m65 r0_0 r0_1 r0_2 r0_3 r0_4 r0_5 r0_6 ([101, 120, 112, 105, 114, 101, 115] : Bs)).bind fun yr11 =>
                if yr11.2 = true then
                  j25_28 yr4.1 yr11.1 (!yr4.2)
                else
                  j25_28 yr4.1 yr11.1 true
            else
              (m65 r0_0 r0_1 r0_2 r0_3 r0_4 r0_5 r0_6 ([108, 97, 115, 116, 45, 109, 111, 100, 105, 102, 105, 101, 100] : Bs)).bind fun yr17 =>
                if yr17.2 = true then
                  if yr4.2 = true then
                    (m67 false ([(200 : Int), (203 : Int), (204 : Int), (300 : Int), (301 : Int), (308 : Int), (404 : Int), (405 : Int), (410 : Int), (414 : Int), (501 : Int)] : List Int) r0_0).bind fun yr21 =>
                      j25_42 yr4.1 yr17.1 (!yr21)
                  else
                    j25_42 yr4.1 yr17.1 true
                else
                  j25_42 yr4.1 yr17.1 true
theorem f25_t (r0_0 : Int) (r0_1 : Bs) (r0_2 : Int) (r0_3 : Bool) (r0_4 : List (Bs × Bs)) (r0_5 : Bool) (r0_6 : List UInt8) :
    callW (E0 mm) 25 [.agg [.d (dI r0_0), .d (dS r0_1), .d (dI r0_2), .d (.lst r0_3 (enL enSS r0_4)), .d (.lst r0_5 (enL enB r0_6))]] [] = (m25 r0_0 r0_1 r0_2 r0_3 r0_4 r0_5 r0_6).map e25 := by
  rw [cR c25_0 [.tmp 2, .tmp 3] Tryz.func25]
  unfold m25; exact go k25 (Q @j25_28_t @j25_42_t)
noncomputable def c105_0 : Code := bodyOf Tryz.f105
def c105_1 := cA c105_0
def c105_3 := cA (cB c105_0)
def c105_6 := cA (cA (cB (cB c105_0)))
def c105_9 := cA (cA (cB (cA (cB (cB c105_0)))))
def c105_13 := cA (cB (cB (cB c105_0)))
def c105_16 := cA (cA (cB (cB (cB (cB c105_0)))))
def c105_19 := cA (cA (cB (cA (cB (cB (cB (cB c105_0)))))))
def c105_22 := cA (cA (cB (cA (cB (cA (cB (cB (cB (cB c105_0)))))))))
def c105_25 := cA (cB (cB (cA (cB (cA (cB (cB (cB (cB c105_0)))))))))
def c105_28 := cA (cA (cB (cB (cB (cA (cB (cA (cB (cB (cB (cB c105_0)))))))))))
def c105_32 := cA (cB (cB (cB (cB (cB c105_0)))))
abbrev R105 := (Int)
def e105 (x : R105) : AV × Heap := (vd (dU x), [])
def m105 (r0_0 : Int) (r0_1 : Bs) (r0_2 : Int) (r0_3 : Bool) (r0_4 : List (Bs × Bs)) (r0_5 : Bool) (r0_6 : List UInt8) : Option R105 :=
  (m110 r0_0 r0_1 r0_2 r0_3 r0_4 r0_5 r0_6 ([97, 103, 101] : Bs)).bind fun yr2 =>
    if yr2.2 = true then
      (m138 yr2.1).bind fun yr5 =>
        if (yr5.2 == 0) = true then
          some (min2 yr5.1 2147483648)
        else
          if (yr5.2 == 3) = true then
            some (2147483648 : Int)
          else
            some (0 : Int)
    else
      some (0 : Int)
def k105 := Q (rx c105_1) (Q (rx c105_3) (Q (fun (mm : Int) (r0_0 : Int) (r0_1 : Bs) (r0_2 : Int) (r0_3 : Bool) (r0_4 : List (Bs × Bs)) (r0_5 : Bool) (r0_6 : List UInt8) => (show callW (E0 mm) 110 [.agg [.d (dI r0_0), .d (dS r0_1), .d (dI r0_2), .d (.lst r0_3 (enL enSS r0_4)), .d (.lst r0_5 (enL enB r0_6))], cd (dS ([97, 103, 101] : Bs))] [] = _ from f110_t r0_0 r0_1 r0_2 r0_3 r0_4 r0_5 r0_6 ([97, 103, 101] : Bs))) (Q @e110.eq_1 (Q (rx c105_6) (Q (rx c105_13) (Q @f138_t (Q @e138.eq_1 (Q (rx c105_16) (Q (rx c105_19) (Q (rx c105_22) (Q (rx c105_25) (Q (rx c105_28) (Q (rx c105_32) (Q (rx c105_9) (Q (nE c105_0 (.seq c105_1 (.seq c105_3 (.seq (.seq c105_6 (.cond _ (.seq c105_9 .ret) .skip)) (.seq c105_13 (.seq (.seq c105_16 (.block 0 (.seq c105_19 (.cond _ (.seq c105_22 .ret) (.seq c105_25 (.cond _ (.seq c105_28 .ret) .skip)))))) (.seq c105_32 .ret))))))) hA)))))))))))))))
theorem f105_t (r0_0 : Int) (r0_1 : Bs) (r0_2 : Int) (r0_3 : Bool) (r0_4 : List (Bs × Bs)) (r0_5 : Bool) (r0_6 : List UInt8) :
    callW (E0 mm) 105 [.agg [.d (dI r0_0), .d (dS r0_1), .d (dI r0_2), .d (.lst r0_3 (enL enSS r0_4)), .d (.lst r0_5 (enL enB r0_6))]] [] = (m105 r0_0 r0_1 r0_2 r0_3 r0_4 r0_5 r0_6).map e105 := by
  rw [cR c105_0 [.tmp 2] Tryz.func105]
  unfold m105; exact go k105 trivial
noncomputable def c56_0 : Code := bodyOf Tryz.f56
def c56_1 := cA c56_0
def c56_3 := cA (cB c56_0)
def c56_6 := cA (cA (cB (cB c56_0)))
def c56_8 := cA (cB (cA (cB (cB c56_0))))
def c56_10 := cA (cB (cB (cA (cB (cB c56_0)))))
def c56_12 := cB (cB (cB c56_0))
def c56_13 := cA c56_12
theorem c56_3_r (m : Nat) (st : St) : den (E0 mm) 56 m (callW (E0 mm)) itW c56_3 none st = regD ((runF (E0 mm) (callW (E0 mm)) (opsOf c56_3) (opsOf c56_3) [none, none, some false, none, none, some true, none, some true, none, none, none, none] st []).bind (ckF [(5, 2), (7, 2)])) := den_dF (by kernel_rfl)
abbrev R56 := (Int)
def e56 (x : R56) : AV × Heap := (vd (dI x), [])
def j56_12 (now1 first5 : Int) (h0_0 : Bs) (h0_1 h0_2 : Int) (h0_3_0 : Bool) (h0_3_1 : List (Bs × Bs)) (h0_4 : Int) (h0_5 : Bs) (h0_6 : Int) (h0_7_0 : Bool) (h0_7_1 : List (Bs × Bs)) (h0_8_0 : Bool) (h0_8_1 : List UInt8) : Option R56 :=
  (m66 h0_2 now1).bind fun yr11 =>
    some (w64 (min2 (wu64 ((wu64 (first5 + (min2 yr11 2147483648000))).tdiv 1000)) 2147483648))
def k56 := Q (rx c56_13) (Q @sz28 (Q @ag28 (Q @f66_t (Q @e66.eq_1 (Q (rx c56_1) (Q @c56_3_r (Q (show opsOf c56_3 = _ :: _ from rfl) (Q @ent105 (Q @prm105 (Q @f105_t (Q setF (Q @e105.eq_1 (Q (rx c56_6) (Q @f64_t (Q @e64.eq_1 (Q (rx c56_8) (Q (rx c56_10) (Q (nE c56_0 (.seq c56_1 (.seq c56_3 (.seq (.seq c56_6 (.seq c56_8 (.cond _ c56_10 .skip))) c56_12)))) hA))))))))))))))))))
theorem j56_12_t (now1 first5 : Int) (h0_0 : Bs) (h0_1 h0_2 : Int) (h0_3_0 : Bool) (h0_3_1 : List (Bs × Bs)) (h0_4 : Int) (h0_5 : Bs) (h0_6 : Int) (h0_7_0 : Bool) (h0_7_1 : List (Bs × Bs)) (h0_8_0 : Bool) (h0_8_1 : List UInt8)  (sl : Sl) (_ : sl 1 = vd (dU now1)) (_ : sl 2 = .v (.c (.ptr 0 0))) (_ : sl 5 = vd (dU first5)) :
    bodyD (E0 mm) [.tmp 4] 0 false (dn (E0 mm) 56 0 c56_12 sl [.cells [.d (dS h0_0), .d (dU h0_1), .d (dU h0_2), .d (.lst h0_3_0 (enL enSS h0_3_1)), .d (dI h0_4), .d (dS h0_5), .d (dI h0_6), .d (.lst h0_7_0 (enL enSS h0_7_1)), .d (.lst h0_8_0 (enL enB h0_8_1))]]) = (j56_12 now1 first5 h0_0 h0_1 h0_2 h0_3_0 h0_3_1 h0_4 h0_5 h0_6 h0_7_0 h0_7_1 h0_8_0 h0_8_1).map e56 := by
  unfold j56_12; exact go (Q (nE c56_12 (.seq c56_13 .ret)) k56) trivial
def m56 (e0_0 : Bs) (e0_1 e0_2 : Int) (e0_3 : Bool) (e0_4 : List (Bs × Bs)) (e0_5 : Int) (e0_6 : Bs) (e0_7 : Int) (e0_8 : Bool) (e0_9 : List (Bs × Bs)) (e0_10 : Bool) (e0_11 : List UInt8) (now : Int) : Option R56 :=
  (m105 e0_5 e0_6 e0_7 e0_8 e0_9 e0_10 e0_11).bind fun yr2 =>
    (m66 e0_1 e0_2).bind fun yr4 =>
      (m64 e0_5 e0_6 e0_7 e0_8 e0_9 e0_10 e0_11).bind fun yr6 =>
        if yr6.2 = true then
          (m66 (wu64 (1000 * yr6.1)) e0_2).bind fun yr9 =>
            j56_12 now (max2 (wu64 ((wu64 (1000 * yr2)) + (min2 yr4 2147483648000))) (min2 yr9 2147483648000)) e0_0 e0_1 e0_2 e0_3 e0_4 e0_5 e0_6 e0_7 e0_8 e0_9 e0_10 e0_11
        else
          j56_12 now (wu64 ((wu64 (1000 * yr2)) + (min2 yr4 2147483648000))) e0_0 e0_1 e0_2 e0_3 e0_4 e0_5 e0_6 e0_7 e0_8 e0_9 e0_10 e0_11
theorem f56_t (e0_0 : Bs) (e0_1 e0_2 : Int) (e0_3 : Bool) (e0_4 : List (Bs × Bs)) (e0_5 : Int) (e0_6 : Bs) (e0_7 : Int) (e0_8 : Bool) (e0_9 : List (Bs × Bs)) (e0_10 : Bool) (e0_11 : List UInt8) (now : Int) :
    callW (E0 mm) 56 [.agg [.d (dS e0_0), .d (dU e0_1), .d (dU e0_2), .d (.lst e0_3 (enL enSS e0_4)), .d (dI e0_5), .d (dS e0_6), .d (dI e0_7), .d (.lst e0_8 (enL enSS e0_9)), .d (.lst e0_10 (enL enB e0_11))], cd (dU now)] [] = (m56 e0_0 e0_1 e0_2 e0_3 e0_4 e0_5 e0_6 e0_7 e0_8 e0_9 e0_10 e0_11 now).map e56 := by
  rw [cR c56_0 [.tmp 4] Tryz.func56]
  unfold m56; exact go k56 @j56_12_t
noncomputable def c54_0 : Code := bodyOf Tryz.f54
def c54_1 := cA c54_0
def c54_3 := cA (cB c54_0)
def c54_5 := cA (cB (cB c54_0))
def c54_7 := cA (cB (cB (cB c54_0)))
abbrev R54 := (Bs × Bool)
def e54 (x : R54) : AV × Heap := (.tup [cd (dS x.1), cd (dB x.2)], [])
def m54 (l_0 : Bool) (l_1 : List (Bs × Bs)) : Option R54 :=
  (m71 l_0 l_1 ([108, 97, 115, 116, 45, 109, 111, 100, 105, 102, 105, 101, 100] : Bs)).bind fun yr2 =>
    (m104 yr2).bind fun yr4 =>
      some (yr2, (yr4.2 == 0))
def k54 := Q (rx c54_1) (Q (rx c54_3) (Q (fun (mm : Int) (l_0 : Bool) (l_1 : List (Bs × Bs)) => (show callW (E0 mm) 71 [cd (.lst l_0 (enL enSS l_1)), cd (dS ([108, 97, 115, 116, 45, 109, 111, 100, 105, 102, 105, 101, 100] : Bs))] [] = _ from f71_t l_0 l_1 ([108, 97, 115, 116, 45, 109, 111, 100, 105, 102, 105, 101, 100] : Bs))) (Q @e71.eq_1 (Q (rx c54_5) (Q @f104_t (Q @e104.eq_1 (Q (rx c54_7) (Q (nE c54_0 (.seq c54_1 (.seq c54_3 (.seq c54_5 (.seq c54_7 .ret))))) hA))))))))
theorem f54_t (l_0 : Bool) (l_1 : List (Bs × Bs)) :
    callW (E0 mm) 54 [cd (.lst l_0 (enL enSS l_1))] [] = (m54 l_0 l_1).map e54 := by
  rw [cR c54_0 [.tmp 2, .tmp 3] Tryz.func54]
  unfold m54; exact go k54 trivial
noncomputable def c15_0 : Code := bodyOf Tryz.f15
def c15_1 := cA c15_0
def c15_3 := cA (cB c15_0)
def c15_6 := cA (cA (cB (cB c15_0)))
def c15_8 := cA (cB (cA (cB (cB c15_0))))
def c15_10 := cA (cB (cB (cA (cB (cB c15_0)))))
def c15_12 := cB (cB (cB c15_0))
def c15_14 := cA (cA c15_12)
def c15_16 := cA (cB (cA c15_12))
def c15_18 := cA (cB (cB (cA c15_12)))
def c15_20 := cB c15_12
def c15_21 := cA c15_20
abbrev b15 (mm : Int) := bodyD (E0 mm) [.tmp 2] 0 false
abbrev R15 := (Bool × List (Bs × Bs)) ⊕ (Bool × List (Bs × Bs))
def e15 (x : R15) : AV × Heap := match x with
  | .inl x => (.v (.c (.own x.1 (enL enSS x.2) 0)), [.row x.2.length (rz x.1 2)])
  | .inr x => (vd (.lst x.1 (enL enSS x.2)), [])
def j15_20 (l3_0 : Bool) (l3_1 : List (Bs × Bs)) : Option R15 :=
  some (.inl (l3_0, l3_1))
def k15 := Q (rx c15_21) (Q (rx c15_14) (Q @ent54 (Q @prm54 (Q @f54_t (Q @e54.eq_1 (Q (rx c15_16) (Q (rx c15_18) (Q @hd100 (Q @nv101 (Q @rw102 (Q (rx c15_1) (Q (rx c15_3) (Q (rx c15_6) (Q @ent28 (Q @prm28 (Q @f28_t (Q @e28.eq_1 (Q (rx c15_8) (Q (rx c15_10) (Q @hd95 (Q @nv96 (Q @rw97 (Q (nE c15_0 (.seq c15_1 (.seq c15_3 (.seq (.seq c15_6 (.seq c15_8 (.cond _ c15_10 .skip))) c15_12)))) hA)))))))))))))))))))))))
theorem j15_20_t (l3_0 : Bool) (l3_1 : List (Bs × Bs)) (g0 : Ob) (sl : Sl) (_ : sl 3 = .v (.c (.own l3_0 (enL enSS l3_1) 1))) :
    b15 mm (dn (E0 mm) 15 0 c15_20 sl [g0, .row l3_1.length (rz l3_0 2)]) = (j15_20 l3_0 l3_1).map e15 := by
  unfold j15_20; exact go (Q (nE c15_20 (.seq c15_21 .ret)) k15) trivial
def j15_12 (l3_0 : Bool) (l3_1 : List (Bs × Bs)) (h0_0 : Bs) (h0_1 h0_2 : Int) (h0_3_0 : Bool) (h0_3_1 : List (Bs × Bs)) (h0_4 : Int) (h0_5 : Bs) (h0_6 : Int) (h0_7_0 : Bool) (h0_7_1 : List (Bs × Bs)) (h0_8_0 : Bool) (h0_8_1 : List UInt8) : Option R15 :=
  (m54 h0_7_0 h0_7_1).bind fun yr5 =>
    if yr5.2 = true then
      if (l3_1.length + 1) * 32 ≤ 140737488355328 then
        j15_20 false (l3_1 ++ ([(([73, 102, 45, 77, 111, 100, 105, 102, 105, 101, 100, 45, 83, 105, 110, 99, 101] : Bs), yr5.1)] : List (Bs × Bs)))
      else none
    else
      j15_20 l3_0 l3_1
theorem j15_12_t (l3_0 : Bool) (l3_1 : List (Bs × Bs)) (h0_0 : Bs) (h0_1 h0_2 : Int) (h0_3_0 : Bool) (h0_3_1 : List (Bs × Bs)) (h0_4 : Int) (h0_5 : Bs) (h0_6 : Int) (h0_7_0 : Bool) (h0_7_1 : List (Bs × Bs)) (h0_8_0 : Bool) (h0_8_1 : List UInt8)  (sl : Sl) (_ : sl 1 = .v (.c (.ptr 0 0))) (_ : sl 3 = .v (.c (.own l3_0 (enL enSS l3_1) 1))) :
    b15 mm (dn (E0 mm) 15 0 c15_12 sl [.cells [.d (dS h0_0), .d (dU h0_1), .d (dU h0_2), .d (.lst h0_3_0 (enL enSS h0_3_1)), .d (dI h0_4), .d (dS h0_5), .d (dI h0_6), .d (.lst h0_7_0 (enL enSS h0_7_1)), .d (.lst h0_8_0 (enL enB h0_8_1))], .row l3_1.length (rz l3_0 2)]) = (j15_12 l3_0 l3_1 h0_0 h0_1 h0_2 h0_3_0 h0_3_1 h0_4 h0_5 h0_6 h0_7_0 h0_7_1 h0_8_0 h0_8_1).map e15 := by
  unfold j15_12; exact go (Q (nE c15_12 (.seq (.seq c15_14 (.seq c15_16 (.cond _ c15_18 .skip))) c15_20)) k15) @j15_20_t
def j15_20v1  : Option R15 :=
  some (.inr (true, ([] : List (Bs × Bs))))
theorem j15_20v1_t (g0 : Ob) (sl : Sl) (_ : sl 3 = vd (.lst true [])) :
    b15 mm (dn (E0 mm) 15 0 c15_20 sl [g0]) = (j15_20v1).map e15 := by
  unfold j15_20v1; exact go (Q (nE c15_20 (.seq c15_21 .ret)) k15) trivial
def j15_12v1 (h0_0 : Bs) (h0_1 h0_2 : Int) (h0_3_0 : Bool) (h0_3_1 : List (Bs × Bs)) (h0_4 : Int) (h0_5 : Bs) (h0_6 : Int) (h0_7_0 : Bool) (h0_7_1 : List (Bs × Bs)) (h0_8_0 : Bool) (h0_8_1 : List UInt8) : Option R15 :=
  (m54 h0_7_0 h0_7_1).bind fun yr9 =>
    if yr9.2 = true then
      j15_20 false ([(([73, 102, 45, 77, 111, 100, 105, 102, 105, 101, 100, 45, 83, 105, 110, 99, 101] : Bs), yr9.1)] : List (Bs × Bs))
    else
      j15_20v1
theorem j15_12v1_t (h0_0 : Bs) (h0_1 h0_2 : Int) (h0_3_0 : Bool) (h0_3_1 : List (Bs × Bs)) (h0_4 : Int) (h0_5 : Bs) (h0_6 : Int) (h0_7_0 : Bool) (h0_7_1 : List (Bs × Bs)) (h0_8_0 : Bool) (h0_8_1 : List UInt8)  (sl : Sl) (_ : sl 1 = .v (.c (.ptr 0 0))) (_ : sl 3 = vd (.lst true [])) :
    b15 mm (dn (E0 mm) 15 0 c15_12 sl [.cells [.d (dS h0_0), .d (dU h0_1), .d (dU h0_2), .d (.lst h0_3_0 (enL enSS h0_3_1)), .d (dI h0_4), .d (dS h0_5), .d (dI h0_6), .d (.lst h0_7_0 (enL enSS h0_7_1)), .d (.lst h0_8_0 (enL enB h0_8_1))]]) = (j15_12v1 h0_0 h0_1 h0_2 h0_3_0 h0_3_1 h0_4 h0_5 h0_6 h0_7_0 h0_7_1 h0_8_0 h0_8_1).map e15 := by
  unfold j15_12v1; exact go (Q (nE c15_12 (.seq (.seq c15_14 (.seq c15_16 (.cond _ c15_18 .skip))) c15_20)) k15) (Q @j15_20_t @j15_20v1_t)
def m15 (e0_0 : Bs) (e0_1 e0_2 : Int) (e0_3 : Bool) (e0_4 : List (Bs × Bs)) (e0_5 : Int) (e0_6 : Bs) (e0_7 : Int) (e0_8 : Bool) (e0_9 : List (Bs × Bs)) (e0_10 : Bool) (e0_11 : List UInt8) : Option R15 :=
  (m28 e0_8 e0_9).bind fun yr2 =>
    if yr2.2 = true then
      j15_12 false ([(([73, 102, 45, 78, 111, 110, 101, 45, 77, 97, 116, 99, 104] : Bs), yr2.1)] : List (Bs × Bs)) e0_0 e0_1 e0_2 e0_3 e0_4 e0_5 e0_6 e0_7 e0_8 e0_9 e0_10 e0_11
    else
      j15_12v1 e0_0 e0_1 e0_2 e0_3 e0_4 e0_5 e0_6 e0_7 e0_8 e0_9 e0_10 e0_11
theorem f15_t (e0_0 : Bs) (e0_1 e0_2 : Int) (e0_3 : Bool) (e0_4 : List (Bs × Bs)) (e0_5 : Int) (e0_6 : Bs) (e0_7 : Int) (e0_8 : Bool) (e0_9 : List (Bs × Bs)) (e0_10 : Bool) (e0_11 : List UInt8) :
    callW (E0 mm) 15 [.agg [.d (dS e0_0), .d (dU e0_1), .d (dU e0_2), .d (.lst e0_3 (enL enSS e0_4)), .d (dI e0_5), .d (dS e0_6), .d (dI e0_7), .d (.lst e0_8 (enL enSS e0_9)), .d (.lst e0_10 (enL enB e0_11))]] [] = (m15 e0_0 e0_1 e0_2 e0_3 e0_4 e0_5 e0_6 e0_7 e0_8 e0_9 e0_10 e0_11).map e15 := by
  rw [cR c15_0 [.tmp 2] Tryz.func15]
  unfold m15; exact go k15 (Q @j15_12_t @j15_12v1_t)
noncomputable def c19_0 : Code := bodyOf Tryz.f19
def c19_1 := cA c19_0
def c19_3 := cA (cB c19_0)
def c19_5 := cA (cB (cB c19_0))
def c19_7 := cA (cB (cB (cB c19_0)))
def c19_9 := cA (cB (cB (cB (cB c19_0))))
def c19_10 := cB (cB (cB (cB (cB c19_0))))
def c19_11 := cA c19_10
def c19_12 := cB c19_10
def c19_15 := cA (cA (cA c19_12))
def c19_16 := cB (cA (cA c19_12))
def c19_18 := cA (cA c19_16)
def c19_21 := cA (cB c19_16)
def c19_24 := cA (cA (cB (cB c19_16)))
def c19_27 := cB c19_12
def c19_28 := cA c19_27
abbrev b19 (mm : Int) := bodyD (E0 mm) [.tmp 6] 0 false
abbrev R19 := (Int)
def e19 (x : R19) : AV × Heap := (vd (dI x), [])
def j19_27  : Option R19 :=
  some (0 : Int)
def k19 := Q (rx c19_28) (Q (rx c19_18) (Q (rx c19_21) (Q @ent15 (Q @prm15 (Q @f15_t (Q @e15.eq_1 (Q @e15.eq_2 (Q (rx c19_24) (Q (rx c19_15) (Q (rx c19_11) (Q (rx c19_1) (Q (rx c19_3) (Q @f23_t (Q @e23.eq_1 (Q @ao83 (Q (rx c19_5) (Q @f25_t (Q @e25.eq_1 (Q (rx c19_7) (Q @f56_t (Q @e56.eq_1 (Q (rx c19_9) (Q (nE c19_0 (.seq c19_1 (.seq c19_3 (.seq c19_5 (.seq c19_7 (.seq c19_9 c19_10)))))) hA)))))))))))))))))))))))
theorem j19_27_t (g0 g1 : Ob) (g2 g3 : Ob) (sl : Sl)  :
    b19 mm (dn (E0 mm) 19 0 c19_27 sl [g0, g1, g2, g3]) = (j19_27).map e19 := by
  unfold j19_27; exact go (Q (nE c19_27 (.seq c19_28 .ret)) k19) trivial
def j19_27v1  : Option R19 :=
  some (0 : Int)
theorem j19_27v1_t (g0 g1 g2 : Ob) (sl : Sl)  :
    b19 mm (dn (E0 mm) 19 0 c19_27 sl [g0, g1, g2]) = (j19_27v1).map e19 := by
  unfold j19_27v1; exact go (Q (nE c19_27 (.seq c19_28 .ret)) k19) trivial
def j19_16 (t79 : Bool) (h0_0 : Bs) (h0_1 h0_2 : Int) (h0_3_0 : Bool) (h0_3_1 : List (Bs × Bs)) (h0_4 : Int) (h0_5 : Bs) (h0_6 : Int) (h0_7_0 : Bool) (h0_7_1 : List (Bs × Bs)) (h0_8_0 : Bool) (h0_8_1 : List UInt8) : Option R19 :=
  if t79 = true then
    some (2 : Int)
  else
    (m15 h0_0 h0_1 h0_2 h0_3_0 h0_3_1 h0_4 h0_5 h0_6 h0_7_0 h0_7_1 h0_8_0 h0_8_1).bind fun yr15 =>
      match yr15 with
      | .inl yr16 =>
        if (decide (0 < (yr16.2.length : Int))) = true then
          some (1 : Int)
        else
          j19_27
      | .inr yr17 =>
        if (decide (0 < (yr17.2.length : Int))) = true then
          some (1 : Int)
        else
          j19_27v1
theorem j19_16_t (t79 : Bool) (h0_0 : Bs) (h0_1 h0_2 : Int) (h0_3_0 : Bool) (h0_3_1 : List (Bs × Bs)) (h0_4 : Int) (h0_5 : Bs) (h0_6 : Int) (h0_7_0 : Bool) (h0_7_1 : List (Bs × Bs)) (h0_8_0 : Bool) (h0_8_1 : List UInt8) (g1 g2 : Ob) (sl : Sl) (_ : sl 3 = .v (.c (.ptr 0 0))) (_ : sl 79 = vd (dB t79)) :
    b19 mm (sq (E0 mm) 19 0 c19_27 (blockD 0 (dn (E0 mm) 19 0 c19_16 sl [.cells [.d (dS h0_0), .d (dU h0_1), .d (dU h0_2), .d (.lst h0_3_0 (enL enSS h0_3_1)), .d (dI h0_4), .d (dS h0_5), .d (dI h0_6), .d (.lst h0_7_0 (enL enSS h0_7_1)), .d (.lst h0_8_0 (enL enB h0_8_1))], g1, g2]))) = (j19_16 t79 h0_0 h0_1 h0_2 h0_3_0 h0_3_1 h0_4 h0_5 h0_6 h0_7_0 h0_7_1 h0_8_0 h0_8_1).map e19 := by
  unfold j19_16; exact go (Q (nE c19_16 (.cond _ (.seq c19_18 .ret) (.seq c19_21 (.cond _ (.seq c19_24 .ret) .skip)))) k19) (Q @j19_27_t @j19_27v1_t)
def j19_12 (life8 age10 : Int) (young11 stale12 : Bool) (h0_0 : Bs) (h0_1 h0_2 : Int) (h0_3_0 : Bool) (h0_3_1 : List (Bs × Bs)) (h0_4 : Int) (h0_5 : Bs) (h0_6 : Int) (h0_7_0 : Bool) (h0_7_1 : List (Bs × Bs)) (h0_8_0 : Bool) (h0_8_1 : List UInt8) : Option R19 :=
  if young11 = true then
    if (decide (age10 < life8)) = true then
      j19_16 true h0_0 h0_1 h0_2 h0_3_0 h0_3_1 h0_4 h0_5 h0_6 h0_7_0 h0_7_1 h0_8_0 h0_8_1
    else
      j19_16 stale12 h0_0 h0_1 h0_2 h0_3_0 h0_3_1 h0_4 h0_5 h0_6 h0_7_0 h0_7_1 h0_8_0 h0_8_1
  else
    j19_16 false h0_0 h0_1 h0_2 h0_3_0 h0_3_1 h0_4 h0_5 h0_6 h0_7_0 h0_7_1 h0_8_0 h0_8_1
theorem j19_12_t (life8 age10 : Int) (young11 stale12 : Bool) (h0_0 : Bs) (h0_1 h0_2 : Int) (h0_3_0 : Bool) (h0_3_1 : List (Bs × Bs)) (h0_4 : Int) (h0_5 : Bs) (h0_6 : Int) (h0_7_0 : Bool) (h0_7_1 : List (Bs × Bs)) (h0_8_0 : Bool) (h0_8_1 : List UInt8) (g1 g2 : Ob) (sl : Sl) (_ : sl 3 = .v (.c (.ptr 0 0))) (_ : sl 8 = vd (dI life8)) (_ : sl 10 = vd (dI age10)) (_ : sl 11 = vd (dB young11)) (_ : sl 12 = vd (dB stale12)) :
    b19 mm (dn (E0 mm) 19 0 c19_12 sl [.cells [.d (dS h0_0), .d (dU h0_1), .d (dU h0_2), .d (.lst h0_3_0 (enL enSS h0_3_1)), .d (dI h0_4), .d (dS h0_5), .d (dI h0_6), .d (.lst h0_7_0 (enL enSS h0_7_1)), .d (.lst h0_8_0 (enL enB h0_8_1))], g1, g2]) = (j19_12 life8 age10 young11 stale12 h0_0 h0_1 h0_2 h0_3_0 h0_3_1 h0_4 h0_5 h0_6 h0_7_0 h0_7_1 h0_8_0 h0_8_1).map e19 := by
  unfold j19_12; exact go (Q (nE c19_12 (.seq (.block 0 (.seq c19_15 c19_16)) c19_27)) k19) @j19_16_t
def j19_10 (life8 age10 : Int) (young11 : Bool) (h0_0 : Bs) (h0_1 h0_2 : Int) (h0_3_0 : Bool) (h0_3_1 : List (Bs × Bs)) (h0_4 : Int) (h0_5 : Bs) (h0_6 : Int) (h0_7_0 : Bool) (h0_7_1 : List (Bs × Bs)) (h0_8_0 : Bool) (h0_8_1 : List UInt8) (h1_0 h1_1 : Bool) (h1_2 h1_3 : Bool) (h1_4 h1_5 : Bool) (h1_6 h1_7 : Int) (h1_8 h1_9 : Int) (h2_0 h2_1 : Bool) (h2_2 h2_3 : Bool) (h2_4 h2_5 : Bool) (h2_6 h2_7 : Int) (h2_8 h2_9 : Int) : Option R19 :=
  if (decide (0 ≤ h1_9)) = true then
    if (decide (age10 ≤ (w64 (life8 + h1_9)))) = true then
      if h2_4 = true then
        j19_12 life8 age10 young11 false h0_0 h0_1 h0_2 h0_3_0 h0_3_1 h0_4 h0_5 h0_6 h0_7_0 h0_7_1 h0_8_0 h0_8_1
      else
        j19_12 life8 age10 young11 (decide (h2_7 < 0)) h0_0 h0_1 h0_2 h0_3_0 h0_3_1 h0_4 h0_5 h0_6 h0_7_0 h0_7_1 h0_8_0 h0_8_1
    else
      j19_12 life8 age10 young11 false h0_0 h0_1 h0_2 h0_3_0 h0_3_1 h0_4 h0_5 h0_6 h0_7_0 h0_7_1 h0_8_0 h0_8_1
  else
    j19_12 life8 age10 young11 false h0_0 h0_1 h0_2 h0_3_0 h0_3_1 h0_4 h0_5 h0_6 h0_7_0 h0_7_1 h0_8_0 h0_8_1
theorem j19_10_t (life8 age10 : Int) (young11 : Bool) (h0_0 : Bs) (h0_1 h0_2 : Int) (h0_3_0 : Bool) (h0_3_1 : List (Bs × Bs)) (h0_4 : Int) (h0_5 : Bs) (h0_6 : Int) (h0_7_0 : Bool) (h0_7_1 : List (Bs × Bs)) (h0_8_0 : Bool) (h0_8_1 : List UInt8) (h1_0 h1_1 : Bool) (h1_2 h1_3 : Bool) (h1_4 h1_5 : Bool) (h1_6 h1_7 : Int) (h1_8 h1_9 : Int) (h2_0 h2_1 : Bool) (h2_2 h2_3 : Bool) (h2_4 h2_5 : Bool) (h2_6 h2_7 : Int) (h2_8 h2_9 : Int)  (sl : Sl) (_ : sl 3 = .v (.c (.ptr 0 0))) (_ : sl 4 = .v (.c (.ptr 1 0))) (_ : sl 7 = .v (.c (.ptr 2 0))) (_ : sl 8 = vd (dI life8)) (_ : sl 10 = vd (dI age10)) (_ : sl 11 = vd (dB young11)) :
    b19 mm (dn (E0 mm) 19 0 c19_10 sl [.cells [.d (dS h0_0), .d (dU h0_1), .d (dU h0_2), .d (.lst h0_3_0 (enL enSS h0_3_1)), .d (dI h0_4), .d (dS h0_5), .d (dI h0_6), .d (.lst h0_7_0 (enL enSS h0_7_1)), .d (.lst h0_8_0 (enL enB h0_8_1))], .cells [.d (dB h1_0), .d (dB h1_1), .d (dB h1_2), .d (dB h1_3), .d (dB h1_4), .d (dB h1_5), .d (dI h1_6), .d (dI h1_7), .d (dI h1_8), .d (dI h1_9)], .cells [.d (dB h2_0), .d (dB h2_1), .d (dB h2_2), .d (dB h2_3), .d (dB h2_4), .d (dB h2_5), .d (dI h2_6), .d (dI h2_7), .d (dI h2_8), .d (dI h2_9)]]) = (j19_10 life8 age10 young11 h0_0 h0_1 h0_2 h0_3_0 h0_3_1 h0_4 h0_5 h0_6 h0_7_0 h0_7_1 h0_8_0 h0_8_1 h1_0 h1_1 h1_2 h1_3 h1_4 h1_5 h1_6 h1_7 h1_8 h1_9 h2_0 h2_1 h2_2 h2_3 h2_4 h2_5 h2_6 h2_7 h2_8 h2_9).map e19 := by
  unfold j19_10; exact go (Q (nE c19_10 (.seq c19_11 c19_12)) k19) @j19_12_t
def m19 (e0_0 : Bs) (e0_1 e0_2 : Int) (e0_3 : Bool) (e0_4 : List (Bs × Bs)) (e0_5 : Int) (e0_6 : Bs) (e0_7 : Int) (e0_8 : Bool) (e0_9 : List (Bs × Bs)) (e0_10 : Bool) (e0_11 : List UInt8) (c_0 c_1 : Bool) (c_2 c_3 : Bool) (c_4 c_5 : Bool) (c_6 c_7 : Int) (c_8 c_9 now : Int) : Option R19 :=
  (m23 e0_8 e0_9).bind fun yr2 =>
    (m25 e0_5 e0_6 e0_7 e0_8 e0_9 e0_10 e0_11).bind fun yr4 =>
      (m56 e0_0 e0_1 e0_2 e0_3 e0_4 e0_5 e0_6 e0_7 e0_8 e0_9 e0_10 e0_11 now).bind fun yr6 =>
        if c_1 = true then
          j19_10 yr4.1 yr6 false e0_0 e0_1 e0_2 e0_3 e0_4 e0_5 e0_6 e0_7 e0_8 e0_9 e0_10 e0_11 c_0 true c_2 c_3 c_4 c_5 c_6 c_7 c_8 c_9 yr2.1 yr2.2.1 yr2.2.2.1 yr2.2.2.2.1 yr2.2.2.2.2.1 yr2.2.2.2.2.2.1 yr2.2.2.2.2.2.2.1 yr2.2.2.2.2.2.2.2.1 yr2.2.2.2.2.2.2.2.2.1 yr2.2.2.2.2.2.2.2.2.2
        else
          if yr2.2.1 = true then
            j19_10 yr4.1 yr6 false e0_0 e0_1 e0_2 e0_3 e0_4 e0_5 e0_6 e0_7 e0_8 e0_9 e0_10 e0_11 c_0 false c_2 c_3 c_4 c_5 c_6 c_7 c_8 c_9 yr2.1 true yr2.2.2.1 yr2.2.2.2.1 yr2.2.2.2.2.1 yr2.2.2.2.2.2.1 yr2.2.2.2.2.2.2.1 yr2.2.2.2.2.2.2.2.1 yr2.2.2.2.2.2.2.2.2.1 yr2.2.2.2.2.2.2.2.2.2
          else
            if (decide (c_6 < 0)) = true then
              if (decide (c_8 < 0)) = true then
                j19_10 yr4.1 yr6 true e0_0 e0_1 e0_2 e0_3 e0_4 e0_5 e0_6 e0_7 e0_8 e0_9 e0_10 e0_11 c_0 false c_2 c_3 c_4 c_5 c_6 c_7 c_8 c_9 yr2.1 false yr2.2.2.1 yr2.2.2.2.1 yr2.2.2.2.2.1 yr2.2.2.2.2.2.1 yr2.2.2.2.2.2.2.1 yr2.2.2.2.2.2.2.2.1 yr2.2.2.2.2.2.2.2.2.1 yr2.2.2.2.2.2.2.2.2.2
              else
                j19_10 yr4.1 yr6 (decide ((w64 (yr6 + c_8)) ≤ yr4.1)) e0_0 e0_1 e0_2 e0_3 e0_4 e0_5 e0_6 e0_7 e0_8 e0_9 e0_10 e0_11 c_0 false c_2 c_3 c_4 c_5 c_6 c_7 c_8 c_9 yr2.1 false yr2.2.2.1 yr2.2.2.2.1 yr2.2.2.2.2.1 yr2.2.2.2.2.2.1 yr2.2.2.2.2.2.2.1 yr2.2.2.2.2.2.2.2.1 yr2.2.2.2.2.2.2.2.2.1 yr2.2.2.2.2.2.2.2.2.2
            else
              if (decide (yr6 ≤ c_6)) = true then
                if (decide (c_8 < 0)) = true then
                  j19_10 yr4.1 yr6 true e0_0 e0_1 e0_2 e0_3 e0_4 e0_5 e0_6 e0_7 e0_8 e0_9 e0_10 e0_11 c_0 false c_2 c_3 c_4 c_5 c_6 c_7 c_8 c_9 yr2.1 false yr2.2.2.1 yr2.2.2.2.1 yr2.2.2.2.2.1 yr2.2.2.2.2.2.1 yr2.2.2.2.2.2.2.1 yr2.2.2.2.2.2.2.2.1 yr2.2.2.2.2.2.2.2.2.1 yr2.2.2.2.2.2.2.2.2.2
                else
                  j19_10 yr4.1 yr6 (decide ((w64 (yr6 + c_8)) ≤ yr4.1)) e0_0 e0_1 e0_2 e0_3 e0_4 e0_5 e0_6 e0_7 e0_8 e0_9 e0_10 e0_11 c_0 false c_2 c_3 c_4 c_5 c_6 c_7 c_8 c_9 yr2.1 false yr2.2.2.1 yr2.2.2.2.1 yr2.2.2.2.2.1 yr2.2.2.2.2.2.1 yr2.2.2.2.2.2.2.1 yr2.2.2.2.2.2.2.2.1 yr2.2.2.2.2.2.2.2.2.1 yr2.2.2.2.2.2.2.2.2.2
              else
                j19_10 yr4.1 yr6 false e0_0 e0_1 e0_2 e0_3 e0_4 e0_5 e0_6 e0_7 e0_8 e0_9 e0_10 e0_11 c_0 false c_2 c_3 c_4 c_5 c_6 c_7 c_8 c_9 yr2.1 false yr2.2.2.1 yr2.2.2.2.1 yr2.2.2.2.2.1 yr2.2.2.2.2.2.1 yr2.2.2.2.2.2.2.1 yr2.2.2.2.2.2.2.2.1 yr2.2.2.2.2.2.2.2.2.1 yr2.2.2.2.2.2.2.2.2.2
theorem f19_t (e0_0 : Bs) (e0_1 e0_2 : Int) (e0_3 : Bool) (e0_4 : List (Bs × Bs)) (e0_5 : Int) (e0_6 : Bs) (e0_7 : Int) (e0_8 : Bool) (e0_9 : List (Bs × Bs)) (e0_10 : Bool) (e0_11 : List UInt8) (c_0 c_1 : Bool) (c_2 c_3 : Bool) (c_4 c_5 : Bool) (c_6 c_7 : Int) (c_8 c_9 now : Int) :
    callW (E0 mm) 19 [.agg [.d (dS e0_0), .d (dU e0_1), .d (dU e0_2), .d (.lst e0_3 (enL enSS e0_4)), .d (dI e0_5), .d (dS e0_6), .d (dI e0_7), .d (.lst e0_8 (enL enSS e0_9)), .d (.lst e0_10 (enL enB e0_11))], .agg [.d (dB c_0), .d (dB c_1), .d (dB c_2), .d (dB c_3), .d (dB c_4), .d (dB c_5), .d (dI c_6), .d (dI c_7), .d (dI c_8), .d (dI c_9)], cd (dU now)] [] = (m19 e0_0 e0_1 e0_2 e0_3 e0_4 e0_5 e0_6 e0_7 e0_8 e0_9 e0_10 e0_11 c_0 c_1 c_2 c_3 c_4 c_5 c_6 c_7 c_8 c_9 now).map e19 := by
  rw [cR c19_0 [.tmp 6] Tryz.func19]
  unfold m19; exact go k19 @j19_10_t
abbrev R129 := (Bs)
def m129 (n : Int) : Option R129 :=
  if 0 ≤ n ∧ n < 12 then
    some (([([74, 97, 110] : Bs), ([70, 101, 98] : Bs), ([77, 97, 114] : Bs), ([65, 112, 114] : Bs), ([77, 97, 121] : Bs), ([74, 117, 110] : Bs), ([74, 117, 108] : Bs), ([65, 117, 103] : Bs), ([83, 101, 112] : Bs), ([79, 99, 116] : Bs), ([78, 111, 118] : Bs), ([68, 101, 99] : Bs)] : List Bs).getD n.toNat default)
  else none
abbrev R130 := (Int)
def j130_20 (s0 : Bs) (at1 many2 : Int) (n7 i8 : Int) (t26 : Bool) : Option ((Bs × Int × Int × Int × Int) ⊕ R130) :=
  if t26 = true then
    some (.inr (-1 : Int))
  else
    if 0 ≤ i8 ∧ i8 < (s0.length : Int) then
      some (.inl (s0, at1, many2, (w64 ((w64 (10 * n7)) + (((s0.getD i8.toNat 0) - (48 : UInt8)).toNat : Int))), (w64 (i8 + 1))))
    else none
def j130_27 (n7 : Int) : Option R130 :=
  some n7
def s130_8 (s0 : Bs) (at1 many2 : Int) (n7 i8 : Int) : Option ((Bs × Int × Int × Int × Int) ⊕ R130) :=
  if (decide (i8 < (w64 (at1 + many2)))) = true then
    if 0 ≤ i8 ∧ i8 < (s0.length : Int) then
      if (decide ((s0.getD i8.toNat 0) < (48 : UInt8))) = true then
        j130_20 s0 at1 many2 n7 i8 true
      else
        j130_20 s0 at1 many2 n7 i8 (decide ((57 : UInt8) < (s0.getD i8.toNat 0)))
    else none
  else
    (j130_27 n7).map .inr
def l130_8 (s0 : Bs) (at1 many2 : Int) (n7 i8 : Int) : Option R130 := iter (fun x : (Bs × Int × Int × Int × Int) => s130_8 x.1 x.2.1 x.2.2.1 x.2.2.2.1 x.2.2.2.2) (s0, at1, many2, n7, i8)
def m130 (s : Bs) (xat many : Int) : Option R130 :=
  l130_8 s xat many (0 : Int) xat
abbrev R132 := (Bool)
def m132 (year : Int) : Option R132 :=
  if ((year.tmod 400) == 0) = true then
    some true
  else
    if ((year.tmod 4) == 0) = true then
      some (!((year.tmod 100) == 0))
    else
      some false
abbrev R131 := (Int)
def j131_12 (n6 : Int) : Option R131 :=
  some n6
def j131_9 (n6 : Int) (t16 : Bool) : Option R131 :=
  if t16 = true then
    j131_12 (29 : Int)
  else
    j131_12 n6
def m131 (year month : Int) : Option R131 :=
  if 0 ≤ month ∧ month < 12 then
    if (month == 1) = true then
      (m132 year).bind fun yr5 =>
        j131_9 (([(31 : Int), (28 : Int), (31 : Int), (30 : Int), (31 : Int), (30 : Int), (31 : Int), (31 : Int), (30 : Int), (31 : Int), (30 : Int), (31 : Int)] : List Int).getD month.toNat default) yr5
    else
      j131_9 (([(31 : Int), (28 : Int), (31 : Int), (30 : Int), (31 : Int), (30 : Int), (31 : Int), (31 : Int), (30 : Int), (31 : Int), (30 : Int), (31 : Int)] : List Int).getD month.toNat default) false
  else none
abbrev R133 := (Bs)
def m133 (n : Int) : Option R133 :=
  if 0 ≤ (n.tmod 7) ∧ (n.tmod 7) < 7 then
    some (([([84, 104, 117] : Bs), ([70, 114, 105] : Bs), ([83, 97, 116] : Bs), ([83, 117, 110] : Bs), ([77, 111, 110] : Bs), ([84, 117, 101] : Bs), ([87, 101, 100] : Bs)] : List Bs).getD ((n.tmod 7).toNat) default)
  else none
abbrev R103 := (Int × Int)
def j103_30 (s0 : Bs) (m4 i5 : Int) : Option ((Bs × Int × Int) ⊕ R103) :=
  some (.inl (s0, m4, (w64 (i5 + 1))))
def j103_65 (s0 : Bs) (m4 year7 : Int) (h8 min9 : Int) (sec10 d11 y12 : Int) : Option ((Bs × Int × Int × Int × Int × Int × Int × Int) ⊕ R103) :=
  some (.inl (s0, m4, year7, h8, min9, sec10, d11, (w64 (y12 + 1))))
def j103_81 (s0 : Bs) (h8 min9 : Int) (sec10 d11 : Int) : Option R103 :=
  (m133 d11).bind fun yr48 =>
    (bnd 3 s0.length).bind fun yk50 =>
      if (yr48 == (s0.take yk50)) = true then
        some ((wu64 ((wu64 (86400 * d11)) + (wu64 (w64 ((w64 ((w64 (3600 * h8)) + (w64 (60 * min9)))) + sec10))))), (0 : Int))
      else
        some ((0 : Int), (5 : Int))
def s103_70 (s0 : Bs) (m4 year7 : Int) (h8 min9 : Int) (sec10 d11 i13 : Int) : Option ((Bs × Int × Int × Int × Int × Int × Int × Int) ⊕ R103) :=
  if (decide (i13 < m4)) = true then
    (m131 year7 i13).bind fun yr46 =>
      some (.inl (s0, m4, year7, h8, min9, sec10, (wu64 (d11 + (wu64 yr46))), (w64 (i13 + 1))))
  else
    (j103_81 s0 h8 min9 sec10 d11).map .inr
def l103_70 (s0 : Bs) (m4 year7 : Int) (h8 min9 : Int) (sec10 d11 i13 : Int) : Option R103 := iter (fun x : (Bs × Int × Int × Int × Int × Int × Int × Int) => s103_70 x.1 x.2.1 x.2.2.1 x.2.2.2.1 x.2.2.2.2.1 x.2.2.2.2.2.1 x.2.2.2.2.2.2.1 x.2.2.2.2.2.2.2) (s0, m4, year7, h8, min9, sec10, d11, i13)
def j103_66 (s0 : Bs) (m4 year7 : Int) (h8 min9 : Int) (sec10 d11 : Int) : Option R103 :=
  l103_70 s0 m4 year7 h8 min9 sec10 d11 (0 : Int)
def s103_49 (s0 : Bs) (m4 year7 : Int) (h8 min9 : Int) (sec10 d11 y12 : Int) : Option ((Bs × Int × Int × Int × Int × Int × Int × Int) ⊕ R103) :=
  if (decide (y12 < year7)) = true then
    (m132 y12).bind fun yr42 =>
      if yr42 = true then
        j103_65 s0 m4 year7 h8 min9 sec10 (wu64 ((wu64 (d11 + 365)) + 1)) y12
      else
        j103_65 s0 m4 year7 h8 min9 sec10 (wu64 (d11 + 365)) y12
  else
    (j103_66 s0 m4 year7 h8 min9 sec10 d11).map .inr
def l103_49 (s0 : Bs) (m4 year7 : Int) (h8 min9 : Int) (sec10 d11 y12 : Int) : Option R103 := iter (fun x : (Bs × Int × Int × Int × Int × Int × Int × Int) => s103_49 x.1 x.2.1 x.2.2.1 x.2.2.2.1 x.2.2.2.2.1 x.2.2.2.2.2.1 x.2.2.2.2.2.2.1 x.2.2.2.2.2.2.2) (s0, m4, year7, h8, min9, sec10, d11, y12)
def j103_38 (s0 : Bs) (m4 day6 : Int) (year7 h8 : Int) (min9 sec10 : Int) (t112 : Bool) : Option R103 :=
  if t112 = true then
    some ((0 : Int), (5 : Int))
  else
    l103_49 s0 m4 year7 h8 min9 sec10 (wu64 (w64 (day6 - 1))) (1970 : Int)
def j103_31 (s0 : Bs) (m4 : Int) : Option R103 :=
  (m130 s0 (5 : Int) (2 : Int)).bind fun yr29 =>
    (m130 s0 (12 : Int) (4 : Int)).bind fun yr31 =>
      (m130 s0 (17 : Int) (2 : Int)).bind fun yr33 =>
        (m130 s0 (20 : Int) (2 : Int)).bind fun yr35 =>
          (m130 s0 (23 : Int) (2 : Int)).bind fun yr37 =>
            if (decide (m4 < 0)) = true then
              j103_38 s0 m4 yr29 yr31 yr33 yr35 yr37 true
            else
              if (decide (yr31 < 1970)) = true then
                j103_38 s0 m4 yr29 yr31 yr33 yr35 yr37 true
              else
                if (decide (yr29 < 1)) = true then
                  j103_38 s0 m4 yr29 yr31 yr33 yr35 yr37 true
                else
                  (m131 yr31 m4).bind fun yr55 =>
                    if (decide (yr55 < yr29)) = true then
                      j103_38 s0 m4 yr29 yr31 yr33 yr35 yr37 true
                    else
                      if (decide (yr33 < 0)) = true then
                        j103_38 s0 m4 yr29 yr31 yr33 yr35 yr37 true
                      else
                        if (decide (23 < yr33)) = true then
                          j103_38 s0 m4 yr29 yr31 yr33 yr35 yr37 true
                        else
                          if (decide (yr35 < 0)) = true then
                            j103_38 s0 m4 yr29 yr31 yr33 yr35 yr37 true
                          else
                            if (decide (59 < yr35)) = true then
                              j103_38 s0 m4 yr29 yr31 yr33 yr35 yr37 true
                            else
                              if (decide (yr37 < 0)) = true then
                                j103_38 s0 m4 yr29 yr31 yr33 yr35 yr37 true
                              else
                                j103_38 s0 m4 yr29 yr31 yr33 yr35 yr37 (decide (59 < yr37))
def s103_16 (s0 : Bs) (m4 i5 : Int) : Option ((Bs × Int × Int) ⊕ R103) :=
  if (decide (i5 < 12)) = true then
    (m129 i5).bind fun yr22 =>
      (bnd 11 s0.length).bind fun yk24 =>
        (bnd 8 yk24).bind fun yk26 =>
          if (yr22 == ((s0.take yk24).drop yk26)) = true then
            j103_30 s0 i5 i5
          else
            j103_30 s0 m4 i5
  else
    (j103_31 s0 m4).map .inr
def l103_16 (s0 : Bs) (m4 i5 : Int) : Option R103 := iter (fun x : (Bs × Int × Int) => s103_16 x.1 x.2.1 x.2.2) (s0, m4, i5)
def j103_5 (s0 : Bs) (t51 : Bool) : Option R103 :=
  if t51 = true then
    some ((0 : Int), (5 : Int))
  else
    l103_16 s0 (-1 : Int) (0 : Int)
def m103 (s : Bs) : Option R103 :=
  if ((s.length : Int) == 29) = true then
    (bnd 5 s.length).bind fun yk3 =>
      (bnd 3 yk3).bind fun yk5 =>
        if (((s.take yk3).drop yk5) == ([44, 32] : Bs)) = true then
          if (7 : Int) < (s.length : Int) then
            if ((s.getD 7 0) == (32 : UInt8)) = true then
              if (11 : Int) < (s.length : Int) then
                if ((s.getD 11 0) == (32 : UInt8)) = true then
                  if (16 : Int) < (s.length : Int) then
                    if ((s.getD 16 0) == (32 : UInt8)) = true then
                      if (19 : Int) < (s.length : Int) then
                        if ((s.getD 19 0) == (58 : UInt8)) = true then
                          if (22 : Int) < (s.length : Int) then
                            if ((s.getD 22 0) == (58 : UInt8)) = true then
                              (bnd 25 s.length).bind fun yk18 =>
                                j103_5 s (!((s.drop yk18) == ([32, 71, 77, 84] : Bs)))
                            else
                              j103_5 s true
                          else none
                        else
                          j103_5 s true
                      else none
                    else
                      j103_5 s true
                  else none
                else
                  j103_5 s true
              else none
            else
              j103_5 s true
          else none
        else
          j103_5 s true
  else
    j103_5 s true
noncomputable def c40_0 : Code := bodyOf Tryz.f40
def c40_1 := cA c40_0
def c40_3 := cA (cB c40_0)
abbrev R40 := (Bool × Bool × Bool × Bool × Bool × Bool × Int × Int × Int × Int)
def e40 (x : R40) : AV × Heap := (.v (.agg [.d (dB x.1), .d (dB x.2.1), .d (dB x.2.2.1), .d (dB x.2.2.2.1), .d (dB x.2.2.2.2.1), .d (dB x.2.2.2.2.2.1), .d (dI x.2.2.2.2.2.2.1), .d (dI x.2.2.2.2.2.2.2.1), .d (dI x.2.2.2.2.2.2.2.2.1), .d (dI x.2.2.2.2.2.2.2.2.2)]), [])
def m40  : Option R40 :=
  some (false, false, false, false, false, false, (-1 : Int), (-1 : Int), (-1 : Int), (-1 : Int))
def k40 := Q @slots0 (Q (rx c40_1) (Q @ao131 (Q (rx c40_3) (Q (nE c40_0 (.seq c40_1 (.seq c40_3 .ret))) hA))))
theorem f40_t :
    callW (E0 mm) 40 [] [] = (m40).map e40 := by
  rw [cR c40_0 [.cell 0 37] Tryz.func40]
  unfold m40; exact go k40 trivial
noncomputable def c42_0 : Code := bodyOf Tryz.f42
def c42_1 := cA c42_0
def c42_3 := cA (cB c42_0)
def c42_5 := cA (cB (cB c42_0))
abbrev R42 := (Bool)
def e42 (x : R42) : AV × Heap := (vd (dB x), [])
def m42 (e0_0 : Bs) (e0_1 e0_2 : Int) (e0_3 : Bool) (e0_4 : List (Bs × Bs)) (e0_5 : Int) (e0_6 : Bs) (e0_7 : Int) (e0_8 : Bool) (e0_9 : List (Bs × Bs)) (e0_10 : Bool) (e0_11 : List UInt8) (now : Int) : Option R42 :=
  (m25 e0_5 e0_6 e0_7 e0_8 e0_9 e0_10 e0_11).bind fun yr2 =>
    (m56 e0_0 e0_1 e0_2 e0_3 e0_4 e0_5 e0_6 e0_7 e0_8 e0_9 e0_10 e0_11 now).bind fun yr4 =>
      some (decide (yr4 < yr2.1))
def k42 := Q (rx c42_1) (Q (rx c42_3) (Q @f25_t (Q @e25.eq_1 (Q (rx c42_5) (Q @f56_t (Q @e56.eq_1 (Q (nE c42_0 (.seq c42_1 (.seq c42_3 (.seq c42_5 .ret)))) hA)))))))
theorem f42_t (e0_0 : Bs) (e0_1 e0_2 : Int) (e0_3 : Bool) (e0_4 : List (Bs × Bs)) (e0_5 : Int) (e0_6 : Bs) (e0_7 : Int) (e0_8 : Bool) (e0_9 : List (Bs × Bs)) (e0_10 : Bool) (e0_11 : List UInt8) (now : Int) :
    callW (E0 mm) 42 [.agg [.d (dS e0_0), .d (dU e0_1), .d (dU e0_2), .d (.lst e0_3 (enL enSS e0_4)), .d (dI e0_5), .d (dS e0_6), .d (dI e0_7), .d (.lst e0_8 (enL enSS e0_9)), .d (.lst e0_10 (enL enB e0_11))], cd (dU now)] [] = (m42 e0_0 e0_1 e0_2 e0_3 e0_4 e0_5 e0_6 e0_7 e0_8 e0_9 e0_10 e0_11 now).map e42 := by
  rw [cR c42_0 [.tmp 4] Tryz.func42]
  unfold m42; exact go k42 trivial
end
end Go.Proofs.YtbkobjepahlegaaGreatDoor
