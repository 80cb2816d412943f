/- The Go functions as plain functions, and that the evaluator computes them. -/
import Derived.Test.YtbkobjepahlegaaGreatDoorFReuses4
set_option linter.all false
set_option maxRecDepth 100000
namespace Go.Proofs.YtbkobjepahlegaaGreatDoor
open Go Go.Ab
open Nat renaming reduceEqDiff → za, reduceAdd → zb, reduceLeDiff → zc, reduceLT → zd, reduceMul → ze, reduceBEq → zf, reduceSub → zg, reducePow → zh
open Int renaming reduceEq → zi, reduceLE → zj, reduceLT → zk, reduceToNat → zl, reduceNegSucc → zm, reduceAdd → zn, reduceBEq → zo
open String renaming reduceBEq → zp
set_option maxHeartbeats 4000000
noncomputable section
variable {mm : Int}
noncomputable def c20_0 : Code := bodyOf Tryz.f20
def c20_1 := cA c20_0
def c20_3 := cA (cB c20_0)
def c20_6 := cA (cA (cB (cB c20_0)))
def c20_8 := cA (cB (cA (cB (cB c20_0))))
def c20_10 := cB (cB (cB c20_0))
def c20_11 := cA c20_10
def c20_14 := cA (cA (cB c20_10))
def c20_15 := cB (cA (cB c20_10))
def c20_17 := cA (cA c20_15)
def c20_20 := cB (cB c20_10)
def c20_21 := cA c20_20
def c20_23 := cA (cB c20_20)
def c20_26 := cA (cA (cB (cB c20_20)))
def c20_27 := cB (cA (cB (cB c20_20)))
def c20_29 := cA (cA c20_27)
def c20_32 := cB (cB (cB c20_20))
def c20_34 := cA (cA c20_32)
def c20_37 := cA (cA (cB (cA c20_32)))
def c20_40 := cB c20_32
def c20_42 := cA (cA c20_40)
def c20_43 := cB (cA c20_40)
def c20_45 := cA (cA c20_43)
def c20_48 := cB c20_40
def c20_49 := cA c20_48
abbrev b20 (mm : Int) := bodyD (E0 mm) [.tmp 6] 0 false
abbrev R20 := (Int)
def e20 (x : R20) : AV × Heap := (vd (dI x), [])
def j20_48  : Option R20 :=
  some (2 : Int)
def k20 := Q (rx c20_49) (Q (rx c20_45) (Q (rx c20_42) (Q (rx c20_34) (Q (rx c20_37) (Q (rx c20_29) (Q (rx c20_21) (Q @ent52 (Q @prm52 (Q @f52_t (Q @e52.eq_1 (Q (rx c20_23) (Q @ent57 (Q @prm57 (Q @f57_t (Q @e57.eq_1 (Q (rx c20_26) (Q (rx c20_17) (Q (rx c20_11) (Q @f46_t (Q @e46.eq_1 (Q @ao116 (Q (rx c20_14) (Q (rx c20_1) (Q (rx c20_3) (Q (rx c20_6) (Q @ent16 (Q @prm16 (Q @f16_t (Q @e16.eq_1 (Q @e16.eq_2 (Q (rx c20_8) (Q (nE c20_0 (.seq c20_1 (.seq c20_3 (.seq (.seq c20_6 (.cond _ c20_8 .skip)) c20_10)))) hA))))))))))))))))))))))))))))))))
theorem j20_48_t (g0 g1 : Ob) (g2 g3 : Ob) (sl : Sl)  :
    b20 mm (dn (E0 mm) 20 0 c20_48 sl [g0, g1, g2, g3]) = (j20_48).map e20 := by
  unfold j20_48; exact go (Q (nE c20_48 (.seq c20_49 .ret)) k20) trivial
def j20_43 (other7 : Int) (t81 : Bool) : Option R20 :=
  if t81 = true then
    some other7
  else
    j20_48
theorem j20_43_t (other7 : Int) (t81 : Bool) (g0 g1 : Ob) (g2 g3 : Ob) (sl : Sl) (_ : sl 7 = vd (dI other7)) (_ : sl 81 = vd (dB t81)) :
    b20 mm (sq (E0 mm) 20 0 c20_48 (dn (E0 mm) 20 0 c20_43 sl [g0, g1, g2, g3])) = (j20_43 other7 t81).map e20 := by
  unfold j20_43; exact go (Q (nE c20_43 (.cond _ (.seq c20_45 .ret) .skip)) k20) @j20_48_t
def j20_40 (other7 life9 age11 : Int) (h1_0 h1_1 : Bool) (h1_2 h1_3 : Bool) (h1_4 h1_5 : Bool) (h1_6 h1_7 : Int) (h1_8 h1_9 : Int) (h3_0 h3_1 : Bool) (h3_2 h3_3 : Bool) (h3_4 h3_5 : Bool) (h3_6 h3_7 : Int) (h3_8 h3_9 : Int) : Option R20 :=
  if (decide (h1_9 < 0)) = true then
    j20_43 other7 true
  else
    if (decide (h1_9 < (w64 (age11 - life9)))) = true then
      j20_43 other7 true
    else
      if h3_4 = true then
        j20_43 other7 true
      else
        j20_43 other7 (decide (0 ≤ h3_7))
theorem j20_40_t (other7 life9 age11 : Int) (h1_0 h1_1 : Bool) (h1_2 h1_3 : Bool) (h1_4 h1_5 : Bool) (h1_6 h1_7 : Int) (h1_8 h1_9 : Int) (h3_0 h3_1 : Bool) (h3_2 h3_3 : Bool) (h3_4 h3_5 : Bool) (h3_6 h3_7 : Int) (h3_8 h3_9 : Int) (g0 g2 : Ob) (sl : Sl) (_ : sl 4 = .v (.c (.ptr 1 0))) (_ : sl 7 = vd (dI other7)) (_ : sl 8 = .v (.c (.ptr 3 0))) (_ : sl 9 = vd (dI life9)) (_ : sl 11 = vd (dI age11)) :
    b20 mm (dn (E0 mm) 20 0 c20_40 sl [g0, .cells [.d (dB h1_0), .d (dB h1_1), .d (dB h1_2), .d (dB h1_3), .d (dB h1_4), .d (dB h1_5), .d (dI h1_6), .d (dI h1_7), .d (dI h1_8), .d (dI h1_9)], g2, .cells [.d (dB h3_0), .d (dB h3_1), .d (dB h3_2), .d (dB h3_3), .d (dB h3_4), .d (dB h3_5), .d (dI h3_6), .d (dI h3_7), .d (dI h3_8), .d (dI h3_9)]]) = (j20_40 other7 life9 age11 h1_0 h1_1 h1_2 h1_3 h1_4 h1_5 h1_6 h1_7 h1_8 h1_9 h3_0 h3_1 h3_2 h3_3 h3_4 h3_5 h3_6 h3_7 h3_8 h3_9).map e20 := by
  unfold j20_40; exact go (Q (nE c20_40 (.seq (.seq c20_42 c20_43) c20_48)) k20) @j20_43_t
def j20_32 (other7 life9 age11 : Int) (h1_0 h1_1 : Bool) (h1_2 h1_3 : Bool) (h1_4 h1_5 : Bool) (h1_6 h1_7 : Int) (h1_8 h1_9 : Int) (h3_0 h3_1 : Bool) (h3_2 h3_3 : Bool) (h3_4 h3_5 : Bool) (h3_6 h3_7 : Int) (h3_8 h3_9 : Int) : Option R20 :=
  if (decide (age11 < life9)) = true then
    some (2 : Int)
  else
    j20_40 other7 life9 age11 h1_0 h1_1 h1_2 h1_3 h1_4 h1_5 h1_6 h1_7 h1_8 h1_9 h3_0 h3_1 h3_2 h3_3 h3_4 h3_5 h3_6 h3_7 h3_8 h3_9
theorem j20_32_t (other7 life9 age11 : Int) (h1_0 h1_1 : Bool) (h1_2 h1_3 : Bool) (h1_4 h1_5 : Bool) (h1_6 h1_7 : Int) (h1_8 h1_9 : Int) (h3_0 h3_1 : Bool) (h3_2 h3_3 : Bool) (h3_4 h3_5 : Bool) (h3_6 h3_7 : Int) (h3_8 h3_9 : Int) (g0 g2 : Ob) (sl : Sl) (_ : sl 4 = .v (.c (.ptr 1 0))) (_ : sl 7 = vd (dI other7)) (_ : sl 8 = .v (.c (.ptr 3 0))) (_ : sl 9 = vd (dI life9)) (_ : sl 11 = vd (dI age11)) :
    b20 mm (dn (E0 mm) 20 0 c20_32 sl [g0, .cells [.d (dB h1_0), .d (dB h1_1), .d (dB h1_2), .d (dB h1_3), .d (dB h1_4), .d (dB h1_5), .d (dI h1_6), .d (dI h1_7), .d (dI h1_8), .d (dI h1_9)], g2, .cells [.d (dB h3_0), .d (dB h3_1), .d (dB h3_2), .d (dB h3_3), .d (dB h3_4), .d (dB h3_5), .d (dI h3_6), .d (dI h3_7), .d (dI h3_8), .d (dI h3_9)]]) = (j20_32 other7 life9 age11 h1_0 h1_1 h1_2 h1_3 h1_4 h1_5 h1_6 h1_7 h1_8 h1_9 h3_0 h3_1 h3_2 h3_3 h3_4 h3_5 h3_6 h3_7 h3_8 h3_9).map e20 := by
  unfold j20_32; exact go (Q (nE c20_32 (.seq (.seq c20_34 (.cond _ (.seq c20_37 .ret) .skip)) c20_40)) k20) @j20_40_t
def j20_27 (other7 life9 age11 : Int) (t57 h1_0 : Bool) (h1_1 h1_2 : Bool) (h1_3 h1_4 h1_5 : Bool) (h1_6 h1_7 : Int) (h1_8 h1_9 : Int) (h3_0 h3_1 : Bool) (h3_2 h3_3 : Bool) (h3_4 h3_5 : Bool) (h3_6 h3_7 : Int) (h3_8 h3_9 : Int) : Option R20 :=
  if t57 = true then
    some other7
  else
    j20_32 other7 life9 age11 h1_0 h1_1 h1_2 h1_3 h1_4 h1_5 h1_6 h1_7 h1_8 h1_9 h3_0 h3_1 h3_2 h3_3 h3_4 h3_5 h3_6 h3_7 h3_8 h3_9
theorem j20_27_t (other7 life9 age11 : Int) (t57 h1_0 : Bool) (h1_1 h1_2 : Bool) (h1_3 h1_4 h1_5 : Bool) (h1_6 h1_7 : Int) (h1_8 h1_9 : Int) (h3_0 h3_1 : Bool) (h3_2 h3_3 : Bool) (h3_4 h3_5 : Bool) (h3_6 h3_7 : Int) (h3_8 h3_9 : Int) (g0 g2 : Ob) (sl : Sl) (_ : sl 4 = .v (.c (.ptr 1 0))) (_ : sl 7 = vd (dI other7)) (_ : sl 8 = .v (.c (.ptr 3 0))) (_ : sl 9 = vd (dI life9)) (_ : sl 11 = vd (dI age11)) (_ : sl 57 = vd (dB t57)) :
    b20 mm (sq (E0 mm) 20 0 c20_32 (dn (E0 mm) 20 0 c20_27 sl [g0, .cells [.d (dB h1_0), .d (dB h1_1), .d (dB h1_2), .d (dB h1_3), .d (dB h1_4), .d (dB h1_5), .d (dI h1_6), .d (dI h1_7), .d (dI h1_8), .d (dI h1_9)], g2, .cells [.d (dB h3_0), .d (dB h3_1), .d (dB h3_2), .d (dB h3_3), .d (dB h3_4), .d (dB h3_5), .d (dI h3_6), .d (dI h3_7), .d (dI h3_8), .d (dI h3_9)]])) = (j20_27 other7 life9 age11 t57 h1_0 h1_1 h1_2 h1_3 h1_4 h1_5 h1_6 h1_7 h1_8 h1_9 h3_0 h3_1 h3_2 h3_3 h3_4 h3_5 h3_6 h3_7 h3_8 h3_9).map e20 := by
  unfold j20_27; exact go (Q (nE c20_27 (.cond _ (.seq c20_29 .ret) .skip)) k20) @j20_32_t
def j20_20 (now2 other7 : Int) (h0_0 : Bs) (h0_1 h0_2 : Int) (h0_3_0 : Bool) (h0_3_1 : List (Bs × Bs)) (h0_4 : Int) (h0_5 : Bs) (h0_6 : Int) (h0_7_0 : Bool) (h0_7_1 : List (Bs × Bs)) (h0_8_0 : Bool) (h0_8_1 : List UInt8) (h1_0 h1_1 : Bool) (h1_2 h1_3 : Bool) (h1_4 h1_5 : Bool) (h1_6 h1_7 : Int) (h1_8 h1_9 : Int) (h3_0 h3_1 : Bool) (h3_2 h3_3 : Bool) (h3_4 h3_5 : Bool) (h3_6 h3_7 : Int) (h3_8 h3_9 : Int) : Option R20 :=
  (m52 h0_4 h0_5 h0_6 h0_7_0 h0_7_1 h0_8_0 h0_8_1).bind fun yr11 =>
    (m57 h0_0 h0_1 h0_2 h0_3_0 h0_3_1 h0_4 h0_5 h0_6 h0_7_0 h0_7_1 h0_8_0 h0_8_1 now2).bind fun yr13 =>
      if (decide (0 ≤ h1_6)) = true then
        if (decide (h1_6 < yr13)) = true then
          j20_27 other7 yr11.1 yr13 true h1_0 h1_1 h1_2 h1_3 h1_4 h1_5 h1_6 h1_7 h1_8 h1_9 h3_0 h3_1 h3_2 h3_3 h3_4 h3_5 h3_6 h3_7 h3_8 h3_9
        else
          if (decide (0 ≤ h1_8)) = true then
            j20_27 other7 yr11.1 yr13 (decide ((w64 (yr11.1 - yr13)) < h1_8)) h1_0 h1_1 h1_2 h1_3 h1_4 h1_5 h1_6 h1_7 h1_8 h1_9 h3_0 h3_1 h3_2 h3_3 h3_4 h3_5 h3_6 h3_7 h3_8 h3_9
          else
            j20_27 other7 yr11.1 yr13 false h1_0 h1_1 h1_2 h1_3 h1_4 h1_5 h1_6 h1_7 h1_8 h1_9 h3_0 h3_1 h3_2 h3_3 h3_4 h3_5 h3_6 h3_7 h3_8 h3_9
      else
        if (decide (0 ≤ h1_8)) = true then
          j20_27 other7 yr11.1 yr13 (decide ((w64 (yr11.1 - yr13)) < h1_8)) h1_0 h1_1 h1_2 h1_3 h1_4 h1_5 h1_6 h1_7 h1_8 h1_9 h3_0 h3_1 h3_2 h3_3 h3_4 h3_5 h3_6 h3_7 h3_8 h3_9
        else
          j20_27 other7 yr11.1 yr13 false h1_0 h1_1 h1_2 h1_3 h1_4 h1_5 h1_6 h1_7 h1_8 h1_9 h3_0 h3_1 h3_2 h3_3 h3_4 h3_5 h3_6 h3_7 h3_8 h3_9
theorem j20_20_t (now2 other7 : Int) (h0_0 : Bs) (h0_1 h0_2 : Int) (h0_3_0 : Bool) (h0_3_1 : List (Bs × Bs)) (h0_4 : Int) (h0_5 : Bs) (h0_6 : Int) (h0_7_0 : Bool) (h0_7_1 : List (Bs × Bs)) (h0_8_0 : Bool) (h0_8_1 : List UInt8) (h1_0 h1_1 : Bool) (h1_2 h1_3 : Bool) (h1_4 h1_5 : Bool) (h1_6 h1_7 : Int) (h1_8 h1_9 : Int) (h3_0 h3_1 : Bool) (h3_2 h3_3 : Bool) (h3_4 h3_5 : Bool) (h3_6 h3_7 : Int) (h3_8 h3_9 : Int) (g2 : Ob) (sl : Sl) (_ : sl 2 = vd (dU now2)) (_ : sl 3 = .v (.c (.ptr 0 0))) (_ : sl 4 = .v (.c (.ptr 1 0))) (_ : sl 7 = vd (dI other7)) (_ : sl 8 = .v (.c (.ptr 3 0))) :
    b20 mm (dn (E0 mm) 20 0 c20_20 sl [.cells [.d (dS h0_0), .d (dU h0_1), .d (dU h0_2), .d (.lst h0_3_0 (enL enSS h0_3_1)), .d (dI h0_4), .d (dS h0_5), .d (dI h0_6), .d (.lst h0_7_0 (enL enSS h0_7_1)), .d (.lst h0_8_0 (enL enB h0_8_1))], .cells [.d (dB h1_0), .d (dB h1_1), .d (dB h1_2), .d (dB h1_3), .d (dB h1_4), .d (dB h1_5), .d (dI h1_6), .d (dI h1_7), .d (dI h1_8), .d (dI h1_9)], g2, .cells [.d (dB h3_0), .d (dB h3_1), .d (dB h3_2), .d (dB h3_3), .d (dB h3_4), .d (dB h3_5), .d (dI h3_6), .d (dI h3_7), .d (dI h3_8), .d (dI h3_9)]]) = (j20_20 now2 other7 h0_0 h0_1 h0_2 h0_3_0 h0_3_1 h0_4 h0_5 h0_6 h0_7_0 h0_7_1 h0_8_0 h0_8_1 h1_0 h1_1 h1_2 h1_3 h1_4 h1_5 h1_6 h1_7 h1_8 h1_9 h3_0 h3_1 h3_2 h3_3 h3_4 h3_5 h3_6 h3_7 h3_8 h3_9).map e20 := by
  unfold j20_20; exact go (Q (nE c20_20 (.seq c20_21 (.seq c20_23 (.seq (.seq c20_26 c20_27) c20_32)))) k20) @j20_27_t
def j20_15 (now2 other7 : Int) (t25 : Bool) (h0_0 : Bs) (h0_1 h0_2 : Int) (h0_3_0 : Bool) (h0_3_1 : List (Bs × Bs)) (h0_4 : Int) (h0_5 : Bs) (h0_6 : Int) (h0_7_0 : Bool) (h0_7_1 : List (Bs × Bs)) (h0_8_0 : Bool) (h0_8_1 : List UInt8) (h1_0 h1_1 : Bool) (h1_2 h1_3 : Bool) (h1_4 h1_5 : Bool) (h1_6 h1_7 : Int) (h1_8 h1_9 : Int) (h3_0 h3_1 : Bool) (h3_2 h3_3 : Bool) (h3_4 h3_5 : Bool) (h3_6 h3_7 : Int) (h3_8 h3_9 : Int) : Option R20 :=
  if t25 = true then
    some other7
  else
    j20_20 now2 other7 h0_0 h0_1 h0_2 h0_3_0 h0_3_1 h0_4 h0_5 h0_6 h0_7_0 h0_7_1 h0_8_0 h0_8_1 h1_0 h1_1 h1_2 h1_3 h1_4 h1_5 h1_6 h1_7 h1_8 h1_9 h3_0 h3_1 h3_2 h3_3 h3_4 h3_5 h3_6 h3_7 h3_8 h3_9
theorem j20_15_t (now2 other7 : Int) (t25 : Bool) (h0_0 : Bs) (h0_1 h0_2 : Int) (h0_3_0 : Bool) (h0_3_1 : List (Bs × Bs)) (h0_4 : Int) (h0_5 : Bs) (h0_6 : Int) (h0_7_0 : Bool) (h0_7_1 : List (Bs × Bs)) (h0_8_0 : Bool) (h0_8_1 : List UInt8) (h1_0 h1_1 : Bool) (h1_2 h1_3 : Bool) (h1_4 h1_5 : Bool) (h1_6 h1_7 : Int) (h1_8 h1_9 : Int) (h3_0 h3_1 : Bool) (h3_2 h3_3 : Bool) (h3_4 h3_5 : Bool) (h3_6 h3_7 : Int) (h3_8 h3_9 : Int) (g2 : Ob) (sl : Sl) (_ : sl 2 = vd (dU now2)) (_ : sl 3 = .v (.c (.ptr 0 0))) (_ : sl 4 = .v (.c (.ptr 1 0))) (_ : sl 7 = vd (dI other7)) (_ : sl 8 = .v (.c (.ptr 3 0))) (_ : sl 25 = vd (dB t25)) :
    b20 mm (sq (E0 mm) 20 0 c20_20 (dn (E0 mm) 20 0 c20_15 sl [.cells [.d (dS h0_0), .d (dU h0_1), .d (dU h0_2), .d (.lst h0_3_0 (enL enSS h0_3_1)), .d (dI h0_4), .d (dS h0_5), .d (dI h0_6), .d (.lst h0_7_0 (enL enSS h0_7_1)), .d (.lst h0_8_0 (enL enB h0_8_1))], .cells [.d (dB h1_0), .d (dB h1_1), .d (dB h1_2), .d (dB h1_3), .d (dB h1_4), .d (dB h1_5), .d (dI h1_6), .d (dI h1_7), .d (dI h1_8), .d (dI h1_9)], g2, .cells [.d (dB h3_0), .d (dB h3_1), .d (dB h3_2), .d (dB h3_3), .d (dB h3_4), .d (dB h3_5), .d (dI h3_6), .d (dI h3_7), .d (dI h3_8), .d (dI h3_9)]])) = (j20_15 now2 other7 t25 h0_0 h0_1 h0_2 h0_3_0 h0_3_1 h0_4 h0_5 h0_6 h0_7_0 h0_7_1 h0_8_0 h0_8_1 h1_0 h1_1 h1_2 h1_3 h1_4 h1_5 h1_6 h1_7 h1_8 h1_9 h3_0 h3_1 h3_2 h3_3 h3_4 h3_5 h3_6 h3_7 h3_8 h3_9).map e20 := by
  unfold j20_15; exact go (Q (nE c20_15 (.cond _ (.seq c20_17 .ret) .skip)) k20) @j20_20_t
def j20_10 (now2 other7 : Int) (h0_0 : Bs) (h0_1 h0_2 : Int) (h0_3_0 : Bool) (h0_3_1 : List (Bs × Bs)) (h0_4 : Int) (h0_5 : Bs) (h0_6 : Int) (h0_7_0 : Bool) (h0_7_1 : List (Bs × Bs)) (h0_8_0 : Bool) (h0_8_1 : List UInt8) (h1_0 h1_1 : Bool) (h1_2 h1_3 : Bool) (h1_4 h1_5 : Bool) (h1_6 h1_7 : Int) (h1_8 h1_9 : Int) : Option R20 :=
  (m46 h0_7_0 h0_7_1).bind fun yr7 =>
    if h1_1 = true then
      j20_15 now2 other7 true h0_0 h0_1 h0_2 h0_3_0 h0_3_1 h0_4 h0_5 h0_6 h0_7_0 h0_7_1 h0_8_0 h0_8_1 h1_0 true h1_2 h1_3 h1_4 h1_5 h1_6 h1_7 h1_8 h1_9 yr7.1 yr7.2.1 yr7.2.2.1 yr7.2.2.2.1 yr7.2.2.2.2.1 yr7.2.2.2.2.2.1 yr7.2.2.2.2.2.2.1 yr7.2.2.2.2.2.2.2.1 yr7.2.2.2.2.2.2.2.2.1 yr7.2.2.2.2.2.2.2.2.2
    else
      j20_15 now2 other7 yr7.2.1 h0_0 h0_1 h0_2 h0_3_0 h0_3_1 h0_4 h0_5 h0_6 h0_7_0 h0_7_1 h0_8_0 h0_8_1 h1_0 false h1_2 h1_3 h1_4 h1_5 h1_6 h1_7 h1_8 h1_9 yr7.1 yr7.2.1 yr7.2.2.1 yr7.2.2.2.1 yr7.2.2.2.2.1 yr7.2.2.2.2.2.1 yr7.2.2.2.2.2.2.1 yr7.2.2.2.2.2.2.2.1 yr7.2.2.2.2.2.2.2.2.1 yr7.2.2.2.2.2.2.2.2.2
theorem j20_10_t (now2 other7 : Int) (h0_0 : Bs) (h0_1 h0_2 : Int) (h0_3_0 : Bool) (h0_3_1 : List (Bs × Bs)) (h0_4 : Int) (h0_5 : Bs) (h0_6 : Int) (h0_7_0 : Bool) (h0_7_1 : List (Bs × Bs)) (h0_8_0 : Bool) (h0_8_1 : List UInt8) (h1_0 h1_1 : Bool) (h1_2 h1_3 : Bool) (h1_4 h1_5 : Bool) (h1_6 h1_7 : Int) (h1_8 h1_9 : Int) (g2 : Ob) (sl : Sl) (_ : sl 2 = vd (dU now2)) (_ : sl 3 = .v (.c (.ptr 0 0))) (_ : sl 4 = .v (.c (.ptr 1 0))) (_ : sl 7 = vd (dI other7)) :
    b20 mm (dn (E0 mm) 20 0 c20_10 sl [.cells [.d (dS h0_0), .d (dU h0_1), .d (dU h0_2), .d (.lst h0_3_0 (enL enSS h0_3_1)), .d (dI h0_4), .d (dS h0_5), .d (dI h0_6), .d (.lst h0_7_0 (enL enSS h0_7_1)), .d (.lst h0_8_0 (enL enB h0_8_1))], .cells [.d (dB h1_0), .d (dB h1_1), .d (dB h1_2), .d (dB h1_3), .d (dB h1_4), .d (dB h1_5), .d (dI h1_6), .d (dI h1_7), .d (dI h1_8), .d (dI h1_9)], g2]) = (j20_10 now2 other7 h0_0 h0_1 h0_2 h0_3_0 h0_3_1 h0_4 h0_5 h0_6 h0_7_0 h0_7_1 h0_8_0 h0_8_1 h1_0 h1_1 h1_2 h1_3 h1_4 h1_5 h1_6 h1_7 h1_8 h1_9).map e20 := by
  unfold j20_10; exact go (Q (nE c20_10 (.seq c20_11 (.seq (.seq c20_14 c20_15) c20_20))) k20) @j20_15_t
def j20_48v1  : Option R20 :=
  some (2 : Int)
theorem j20_48v1_t (g0 g1 g2 : Ob) (sl : Sl)  :
    b20 mm (dn (E0 mm) 20 0 c20_48 sl [g0, g1, g2]) = (j20_48v1).map e20 := by
  unfold j20_48v1; exact go (Q (nE c20_48 (.seq c20_49 .ret)) k20) trivial
def j20_43v1 (other7 : Int) (t81 : Bool) : Option R20 :=
  if t81 = true then
    some other7
  else
    j20_48v1
theorem j20_43v1_t (other7 : Int) (t81 : Bool) (g0 g1 g2 : Ob) (sl : Sl) (_ : sl 7 = vd (dI other7)) (_ : sl 81 = vd (dB t81)) :
    b20 mm (sq (E0 mm) 20 0 c20_48 (dn (E0 mm) 20 0 c20_43 sl [g0, g1, g2])) = (j20_43v1 other7 t81).map e20 := by
  unfold j20_43v1; exact go (Q (nE c20_43 (.cond _ (.seq c20_45 .ret) .skip)) k20) @j20_48v1_t
def j20_40v1 (other7 life9 age11 : Int) (h1_0 h1_1 : Bool) (h1_2 h1_3 : Bool) (h1_4 h1_5 : Bool) (h1_6 h1_7 : Int) (h1_8 h1_9 : Int) (h2_0 h2_1 : Bool) (h2_2 h2_3 : Bool) (h2_4 h2_5 : Bool) (h2_6 h2_7 : Int) (h2_8 h2_9 : Int) : Option R20 :=
  if (decide (h1_9 < 0)) = true then
    j20_43v1 other7 true
  else
    if (decide (h1_9 < (w64 (age11 - life9)))) = true then
      j20_43v1 other7 true
    else
      if h2_4 = true then
        j20_43v1 other7 true
      else
        j20_43v1 other7 (decide (0 ≤ h2_7))
theorem j20_40v1_t (other7 life9 age11 : Int) (h1_0 h1_1 : Bool) (h1_2 h1_3 : Bool) (h1_4 h1_5 : Bool) (h1_6 h1_7 : Int) (h1_8 h1_9 : Int) (h2_0 h2_1 : Bool) (h2_2 h2_3 : Bool) (h2_4 h2_5 : Bool) (h2_6 h2_7 : Int) (h2_8 h2_9 : Int) (g0 : Ob) (sl : Sl) (_ : sl 4 = .v (.c (.ptr 1 0))) (_ : sl 7 = vd (dI other7)) (_ : sl 8 = .v (.c (.ptr 2 0))) (_ : sl 9 = vd (dI life9)) (_ : sl 11 = vd (dI age11)) :
    b20 mm (dn (E0 mm) 20 0 c20_40 sl [g0, .cells [.d (dB h1_0), .d (dB h1_1), .d (dB h1_2), .d (dB h1_3), .d (dB h1_4), .d (dB h1_5), .d (dI h1_6), .d (dI h1_7), .d (dI h1_8), .d (dI h1_9)], .cells [.d (dB h2_0), .d (dB h2_1), .d (dB h2_2), .d (dB h2_3), .d (dB h2_4), .d (dB h2_5), .d (dI h2_6), .d (dI h2_7), .d (dI h2_8), .d (dI h2_9)]]) = (j20_40v1 other7 life9 age11 h1_0 h1_1 h1_2 h1_3 h1_4 h1_5 h1_6 h1_7 h1_8 h1_9 h2_0 h2_1 h2_2 h2_3 h2_4 h2_5 h2_6 h2_7 h2_8 h2_9).map e20 := by
  unfold j20_40v1; exact go (Q (nE c20_40 (.seq (.seq c20_42 c20_43) c20_48)) k20) @j20_43v1_t
def j20_32v1 (other7 life9 age11 : Int) (h1_0 h1_1 : Bool) (h1_2 h1_3 : Bool) (h1_4 h1_5 : Bool) (h1_6 h1_7 : Int) (h1_8 h1_9 : Int) (h2_0 h2_1 : Bool) (h2_2 h2_3 : Bool) (h2_4 h2_5 : Bool) (h2_6 h2_7 : Int) (h2_8 h2_9 : Int) : Option R20 :=
  if (decide (age11 < life9)) = true then
    some (2 : Int)
  else
    j20_40v1 other7 life9 age11 h1_0 h1_1 h1_2 h1_3 h1_4 h1_5 h1_6 h1_7 h1_8 h1_9 h2_0 h2_1 h2_2 h2_3 h2_4 h2_5 h2_6 h2_7 h2_8 h2_9
theorem j20_32v1_t (other7 life9 age11 : Int) (h1_0 h1_1 : Bool) (h1_2 h1_3 : Bool) (h1_4 h1_5 : Bool) (h1_6 h1_7 : Int) (h1_8 h1_9 : Int) (h2_0 h2_1 : Bool) (h2_2 h2_3 : Bool) (h2_4 h2_5 : Bool) (h2_6 h2_7 : Int) (h2_8 h2_9 : Int) (g0 : Ob) (sl : Sl) (_ : sl 4 = .v (.c (.ptr 1 0))) (_ : sl 7 = vd (dI other7)) (_ : sl 8 = .v (.c (.ptr 2 0))) (_ : sl 9 = vd (dI life9)) (_ : sl 11 = vd (dI age11)) :
    b20 mm (dn (E0 mm) 20 0 c20_32 sl [g0, .cells [.d (dB h1_0), .d (dB h1_1), .d (dB h1_2), .d (dB h1_3), .d (dB h1_4), .d (dB h1_5), .d (dI h1_6), .d (dI h1_7), .d (dI h1_8), .d (dI h1_9)], .cells [.d (dB h2_0), .d (dB h2_1), .d (dB h2_2), .d (dB h2_3), .d (dB h2_4), .d (dB h2_5), .d (dI h2_6), .d (dI h2_7), .d (dI h2_8), .d (dI h2_9)]]) = (j20_32v1 other7 life9 age11 h1_0 h1_1 h1_2 h1_3 h1_4 h1_5 h1_6 h1_7 h1_8 h1_9 h2_0 h2_1 h2_2 h2_3 h2_4 h2_5 h2_6 h2_7 h2_8 h2_9).map e20 := by
  unfold j20_32v1; exact go (Q (nE c20_32 (.seq (.seq c20_34 (.cond _ (.seq c20_37 .ret) .skip)) c20_40)) k20) @j20_40v1_t
def j20_27v1 (other7 life9 age11 : Int) (t57 h1_0 : Bool) (h1_1 h1_2 : Bool) (h1_3 h1_4 h1_5 : Bool) (h1_6 h1_7 : Int) (h1_8 h1_9 : Int) (h2_0 h2_1 : Bool) (h2_2 h2_3 : Bool) (h2_4 h2_5 : Bool) (h2_6 h2_7 : Int) (h2_8 h2_9 : Int) : Option R20 :=
  if t57 = true then
    some other7
  else
    j20_32v1 other7 life9 age11 h1_0 h1_1 h1_2 h1_3 h1_4 h1_5 h1_6 h1_7 h1_8 h1_9 h2_0 h2_1 h2_2 h2_3 h2_4 h2_5 h2_6 h2_7 h2_8 h2_9
theorem j20_27v1_t (other7 life9 age11 : Int) (t57 h1_0 : Bool) (h1_1 h1_2 : Bool) (h1_3 h1_4 h1_5 : Bool) (h1_6 h1_7 : Int) (h1_8 h1_9 : Int) (h2_0 h2_1 : Bool) (h2_2 h2_3 : Bool) (h2_4 h2_5 : Bool) (h2_6 h2_7 : Int) (h2_8 h2_9 : Int) (g0 : Ob) (sl : Sl) (_ : sl 4 = .v (.c (.ptr 1 0))) (_ : sl 7 = vd (dI other7)) (_ : sl 8 = .v (.c (.ptr 2 0))) (_ : sl 9 = vd (dI life9)) (_ : sl 11 = vd (dI age11)) (_ : sl 57 = vd (dB t57)) :
    b20 mm (sq (E0 mm) 20 0 c20_32 (dn (E0 mm) 20 0 c20_27 sl [g0, .cells [.d (dB h1_0), .d (dB h1_1), .d (dB h1_2), .d (dB h1_3), .d (dB h1_4), .d (dB h1_5), .d (dI h1_6), .d (dI h1_7), .d (dI h1_8), .d (dI h1_9)], .cells [.d (dB h2_0), .d (dB h2_1), .d (dB h2_2), .d (dB h2_3), .d (dB h2_4), .d (dB h2_5), .d (dI h2_6), .d (dI h2_7), .d (dI h2_8), .d (dI h2_9)]])) = (j20_27v1 other7 life9 age11 t57 h1_0 h1_1 h1_2 h1_3 h1_4 h1_5 h1_6 h1_7 h1_8 h1_9 h2_0 h2_1 h2_2 h2_3 h2_4 h2_5 h2_6 h2_7 h2_8 h2_9).map e20 := by
  unfold j20_27v1; exact go (Q (nE c20_27 (.cond _ (.seq c20_29 .ret) .skip)) k20) @j20_32v1_t
def j20_20v1 (now2 other7 : Int) (h0_0 : Bs) (h0_1 h0_2 : Int) (h0_3_0 : Bool) (h0_3_1 : List (Bs × Bs)) (h0_4 : Int) (h0_5 : Bs) (h0_6 : Int) (h0_7_0 : Bool) (h0_7_1 : List (Bs × Bs)) (h0_8_0 : Bool) (h0_8_1 : List UInt8) (h1_0 h1_1 : Bool) (h1_2 h1_3 : Bool) (h1_4 h1_5 : Bool) (h1_6 h1_7 : Int) (h1_8 h1_9 : Int) (h2_0 h2_1 : Bool) (h2_2 h2_3 : Bool) (h2_4 h2_5 : Bool) (h2_6 h2_7 : Int) (h2_8 h2_9 : Int) : Option R20 :=
  (m52 h0_4 h0_5 h0_6 h0_7_0 h0_7_1 h0_8_0 h0_8_1).bind fun yr30 =>
    (m57 h0_0 h0_1 h0_2 h0_3_0 h0_3_1 h0_4 h0_5 h0_6 h0_7_0 h0_7_1 h0_8_0 h0_8_1 now2).bind fun yr32 =>
      if (decide (0 ≤ h1_6)) = true then
        if (decide (h1_6 < yr32)) = true then
          j20_27v1 other7 yr30.1 yr32 true h1_0 h1_1 h1_2 h1_3 h1_4 h1_5 h1_6 h1_7 h1_8 h1_9 h2_0 h2_1 h2_2 h2_3 h2_4 h2_5 h2_6 h2_7 h2_8 h2_9
        else
          if (decide (0 ≤ h1_8)) = true then
            j20_27v1 other7 yr30.1 yr32 (decide ((w64 (yr30.1 - yr32)) < h1_8)) h1_0 h1_1 h1_2 h1_3 h1_4 h1_5 h1_6 h1_7 h1_8 h1_9 h2_0 h2_1 h2_2 h2_3 h2_4 h2_5 h2_6 h2_7 h2_8 h2_9
          else
            j20_27v1 other7 yr30.1 yr32 false h1_0 h1_1 h1_2 h1_3 h1_4 h1_5 h1_6 h1_7 h1_8 h1_9 h2_0 h2_1 h2_2 h2_3 h2_4 h2_5 h2_6 h2_7 h2_8 h2_9
      else
        if (decide (0 ≤ h1_8)) = true then
          j20_27v1 other7 yr30.1 yr32 (decide ((w64 (yr30.1 - yr32)) < h1_8)) h1_0 h1_1 h1_2 h1_3 h1_4 h1_5 h1_6 h1_7 h1_8 h1_9 h2_0 h2_1 h2_2 h2_3 h2_4 h2_5 h2_6 h2_7 h2_8 h2_9
        else
          j20_27v1 other7 yr30.1 yr32 false h1_0 h1_1 h1_2 h1_3 h1_4 h1_5 h1_6 h1_7 h1_8 h1_9 h2_0 h2_1 h2_2 h2_3 h2_4 h2_5 h2_6 h2_7 h2_8 h2_9
theorem j20_20v1_t (now2 other7 : Int) (h0_0 : Bs) (h0_1 h0_2 : Int) (h0_3_0 : Bool) (h0_3_1 : List (Bs × Bs)) (h0_4 : Int) (h0_5 : Bs) (h0_6 : Int) (h0_7_0 : Bool) (h0_7_1 : List (Bs × Bs)) (h0_8_0 : Bool) (h0_8_1 : List UInt8) (h1_0 h1_1 : Bool) (h1_2 h1_3 : Bool) (h1_4 h1_5 : Bool) (h1_6 h1_7 : Int) (h1_8 h1_9 : Int) (h2_0 h2_1 : Bool) (h2_2 h2_3 : Bool) (h2_4 h2_5 : Bool) (h2_6 h2_7 : Int) (h2_8 h2_9 : Int)  (sl : Sl) (_ : sl 2 = vd (dU now2)) (_ : sl 3 = .v (.c (.ptr 0 0))) (_ : sl 4 = .v (.c (.ptr 1 0))) (_ : sl 7 = vd (dI other7)) (_ : sl 8 = .v (.c (.ptr 2 0))) :
    b20 mm (dn (E0 mm) 20 0 c20_20 sl [.cells [.d (dS h0_0), .d (dU h0_1), .d (dU h0_2), .d (.lst h0_3_0 (enL enSS h0_3_1)), .d (dI h0_4), .d (dS h0_5), .d (dI h0_6), .d (.lst h0_7_0 (enL enSS h0_7_1)), .d (.lst h0_8_0 (enL enB h0_8_1))], .cells [.d (dB h1_0), .d (dB h1_1), .d (dB h1_2), .d (dB h1_3), .d (dB h1_4), .d (dB h1_5), .d (dI h1_6), .d (dI h1_7), .d (dI h1_8), .d (dI h1_9)], .cells [.d (dB h2_0), .d (dB h2_1), .d (dB h2_2), .d (dB h2_3), .d (dB h2_4), .d (dB h2_5), .d (dI h2_6), .d (dI h2_7), .d (dI h2_8), .d (dI h2_9)]]) = (j20_20v1 now2 other7 h0_0 h0_1 h0_2 h0_3_0 h0_3_1 h0_4 h0_5 h0_6 h0_7_0 h0_7_1 h0_8_0 h0_8_1 h1_0 h1_1 h1_2 h1_3 h1_4 h1_5 h1_6 h1_7 h1_8 h1_9 h2_0 h2_1 h2_2 h2_3 h2_4 h2_5 h2_6 h2_7 h2_8 h2_9).map e20 := by
  unfold j20_20v1; exact go (Q (nE c20_20 (.seq c20_21 (.seq c20_23 (.seq (.seq c20_26 c20_27) c20_32)))) k20) @j20_27v1_t
def j20_15v1 (now2 other7 : Int) (t25 : Bool) (h0_0 : Bs) (h0_1 h0_2 : Int) (h0_3_0 : Bool) (h0_3_1 : List (Bs × Bs)) (h0_4 : Int) (h0_5 : Bs) (h0_6 : Int) (h0_7_0 : Bool) (h0_7_1 : List (Bs × Bs)) (h0_8_0 : Bool) (h0_8_1 : List UInt8) (h1_0 h1_1 : Bool) (h1_2 h1_3 : Bool) (h1_4 h1_5 : Bool) (h1_6 h1_7 : Int) (h1_8 h1_9 : Int) (h2_0 h2_1 : Bool) (h2_2 h2_3 : Bool) (h2_4 h2_5 : Bool) (h2_6 h2_7 : Int) (h2_8 h2_9 : Int) : Option R20 :=
  if t25 = true then
    some other7
  else
    j20_20v1 now2 other7 h0_0 h0_1 h0_2 h0_3_0 h0_3_1 h0_4 h0_5 h0_6 h0_7_0 h0_7_1 h0_8_0 h0_8_1 h1_0 h1_1 h1_2 h1_3 h1_4 h1_5 h1_6 h1_7 h1_8 h1_9 h2_0 h2_1 h2_2 h2_3 h2_4 h2_5 h2_6 h2_7 h2_8 h2_9
theorem j20_15v1_t (now2 other7 : Int) (t25 : Bool) (h0_0 : Bs) (h0_1 h0_2 : Int) (h0_3_0 : Bool) (h0_3_1 : List (Bs × Bs)) (h0_4 : Int) (h0_5 : Bs) (h0_6 : Int) (h0_7_0 : Bool) (h0_7_1 : List (Bs × Bs)) (h0_8_0 : Bool) (h0_8_1 : List UInt8) (h1_0 h1_1 : Bool) (h1_2 h1_3 : Bool) (h1_4 h1_5 : Bool) (h1_6 h1_7 : Int) (h1_8 h1_9 : Int) (h2_0 h2_1 : Bool) (h2_2 h2_3 : Bool) (h2_4 h2_5 : Bool) (h2_6 h2_7 : Int) (h2_8 h2_9 : Int)  (sl : Sl) (_ : sl 2 = vd (dU now2)) (_ : sl 3 = .v (.c (.ptr 0 0))) (_ : sl 4 = .v (.c (.ptr 1 0))) (_ : sl 7 = vd (dI other7)) (_ : sl 8 = .v (.c (.ptr 2 0))) (_ : sl 25 = vd (dB t25)) :
    b20 mm (sq (E0 mm) 20 0 c20_20 (dn (E0 mm) 20 0 c20_15 sl [.cells [.d (dS h0_0), .d (dU h0_1), .d (dU h0_2), .d (.lst h0_3_0 (enL enSS h0_3_1)), .d (dI h0_4), .d (dS h0_5), .d (dI h0_6), .d (.lst h0_7_0 (enL enSS h0_7_1)), .d (.lst h0_8_0 (enL enB h0_8_1))], .cells [.d (dB h1_0), .d (dB h1_1), .d (dB h1_2), .d (dB h1_3), .d (dB h1_4), .d (dB h1_5), .d (dI h1_6), .d (dI h1_7), .d (dI h1_8), .d (dI h1_9)], .cells [.d (dB h2_0), .d (dB h2_1), .d (dB h2_2), .d (dB h2_3), .d (dB h2_4), .d (dB h2_5), .d (dI h2_6), .d (dI h2_7), .d (dI h2_8), .d (dI h2_9)]])) = (j20_15v1 now2 other7 t25 h0_0 h0_1 h0_2 h0_3_0 h0_3_1 h0_4 h0_5 h0_6 h0_7_0 h0_7_1 h0_8_0 h0_8_1 h1_0 h1_1 h1_2 h1_3 h1_4 h1_5 h1_6 h1_7 h1_8 h1_9 h2_0 h2_1 h2_2 h2_3 h2_4 h2_5 h2_6 h2_7 h2_8 h2_9).map e20 := by
  unfold j20_15v1; exact go (Q (nE c20_15 (.cond _ (.seq c20_17 .ret) .skip)) k20) @j20_20v1_t
def j20_10v1 (now2 other7 : Int) (h0_0 : Bs) (h0_1 h0_2 : Int) (h0_3_0 : Bool) (h0_3_1 : List (Bs × Bs)) (h0_4 : Int) (h0_5 : Bs) (h0_6 : Int) (h0_7_0 : Bool) (h0_7_1 : List (Bs × Bs)) (h0_8_0 : Bool) (h0_8_1 : List UInt8) (h1_0 h1_1 : Bool) (h1_2 h1_3 : Bool) (h1_4 h1_5 : Bool) (h1_6 h1_7 : Int) (h1_8 h1_9 : Int) : Option R20 :=
  (m46 h0_7_0 h0_7_1).bind fun yr26 =>
    if h1_1 = true then
      j20_15v1 now2 other7 true h0_0 h0_1 h0_2 h0_3_0 h0_3_1 h0_4 h0_5 h0_6 h0_7_0 h0_7_1 h0_8_0 h0_8_1 h1_0 true h1_2 h1_3 h1_4 h1_5 h1_6 h1_7 h1_8 h1_9 yr26.1 yr26.2.1 yr26.2.2.1 yr26.2.2.2.1 yr26.2.2.2.2.1 yr26.2.2.2.2.2.1 yr26.2.2.2.2.2.2.1 yr26.2.2.2.2.2.2.2.1 yr26.2.2.2.2.2.2.2.2.1 yr26.2.2.2.2.2.2.2.2.2
    else
      j20_15v1 now2 other7 yr26.2.1 h0_0 h0_1 h0_2 h0_3_0 h0_3_1 h0_4 h0_5 h0_6 h0_7_0 h0_7_1 h0_8_0 h0_8_1 h1_0 false h1_2 h1_3 h1_4 h1_5 h1_6 h1_7 h1_8 h1_9 yr26.1 yr26.2.1 yr26.2.2.1 yr26.2.2.2.1 yr26.2.2.2.2.1 yr26.2.2.2.2.2.1 yr26.2.2.2.2.2.2.1 yr26.2.2.2.2.2.2.2.1 yr26.2.2.2.2.2.2.2.2.1 yr26.2.2.2.2.2.2.2.2.2
theorem j20_10v1_t (now2 other7 : Int) (h0_0 : Bs) (h0_1 h0_2 : Int) (h0_3_0 : Bool) (h0_3_1 : List (Bs × Bs)) (h0_4 : Int) (h0_5 : Bs) (h0_6 : Int) (h0_7_0 : Bool) (h0_7_1 : List (Bs × Bs)) (h0_8_0 : Bool) (h0_8_1 : List UInt8) (h1_0 h1_1 : Bool) (h1_2 h1_3 : Bool) (h1_4 h1_5 : Bool) (h1_6 h1_7 : Int) (h1_8 h1_9 : Int)  (sl : Sl) (_ : sl 2 = vd (dU now2)) (_ : sl 3 = .v (.c (.ptr 0 0))) (_ : sl 4 = .v (.c (.ptr 1 0))) (_ : sl 7 = vd (dI other7)) :
    b20 mm (dn (E0 mm) 20 0 c20_10 sl [.cells [.d (dS h0_0), .d (dU h0_1), .d (dU h0_2), .d (.lst h0_3_0 (enL enSS h0_3_1)), .d (dI h0_4), .d (dS h0_5), .d (dI h0_6), .d (.lst h0_7_0 (enL enSS h0_7_1)), .d (.lst h0_8_0 (enL enB h0_8_1))], .cells [.d (dB h1_0), .d (dB h1_1), .d (dB h1_2), .d (dB h1_3), .d (dB h1_4), .d (dB h1_5), .d (dI h1_6), .d (dI h1_7), .d (dI h1_8), .d (dI h1_9)]]) = (j20_10v1 now2 other7 h0_0 h0_1 h0_2 h0_3_0 h0_3_1 h0_4 h0_5 h0_6 h0_7_0 h0_7_1 h0_8_0 h0_8_1 h1_0 h1_1 h1_2 h1_3 h1_4 h1_5 h1_6 h1_7 h1_8 h1_9).map e20 := by
  unfold j20_10v1; exact go (Q (nE c20_10 (.seq c20_11 (.seq (.seq c20_14 c20_15) c20_20))) k20) @j20_15v1_t
def m20 (e0_0 : Bs) (e0_1 e0_2 : Int) (e0_3 : Bool) (e0_4 : List (Bs × Bs)) (e0_5 : Int) (e0_6 : Bs) (e0_7 : Int) (e0_8 : Bool) (e0_9 : List (Bs × Bs)) (e0_10 : Bool) (e0_11 : List UInt8) (c_0 c_1 : Bool) (c_2 c_3 : Bool) (c_4 c_5 : Bool) (c_6 c_7 : Int) (c_8 c_9 now : Int) : Option R20 :=
  (m16 e0_0 e0_1 e0_2 e0_3 e0_4 e0_5 e0_6 e0_7 e0_8 e0_9 e0_10 e0_11).bind fun yr2 =>
    match yr2 with
    | .inl yr3 =>
      if (decide (0 < (yr3.2.length : Int))) = true then
        j20_10 now (1 : Int) e0_0 e0_1 e0_2 e0_3 e0_4 e0_5 e0_6 e0_7 e0_8 e0_9 e0_10 e0_11 c_0 c_1 c_2 c_3 c_4 c_5 c_6 c_7 c_8 c_9
      else
        j20_10 now (0 : Int) e0_0 e0_1 e0_2 e0_3 e0_4 e0_5 e0_6 e0_7 e0_8 e0_9 e0_10 e0_11 c_0 c_1 c_2 c_3 c_4 c_5 c_6 c_7 c_8 c_9
    | .inr yr4 =>
      if (decide (0 < (yr4.2.length : Int))) = true then
        j20_10v1 now (1 : Int) e0_0 e0_1 e0_2 e0_3 e0_4 e0_5 e0_6 e0_7 e0_8 e0_9 e0_10 e0_11 c_0 c_1 c_2 c_3 c_4 c_5 c_6 c_7 c_8 c_9
      else
        j20_10v1 now (0 : Int) e0_0 e0_1 e0_2 e0_3 e0_4 e0_5 e0_6 e0_7 e0_8 e0_9 e0_10 e0_11 c_0 c_1 c_2 c_3 c_4 c_5 c_6 c_7 c_8 c_9
theorem f20_t (e0_0 : Bs) (e0_1 e0_2 : Int) (e0_3 : Bool) (e0_4 : List (Bs × Bs)) (e0_5 : Int) (e0_6 : Bs) (e0_7 : Int) (e0_8 : Bool) (e0_9 : List (Bs × Bs)) (e0_10 : Bool) (e0_11 : List UInt8) (c_0 c_1 : Bool) (c_2 c_3 : Bool) (c_4 c_5 : Bool) (c_6 c_7 : Int) (c_8 c_9 now : Int) :
    callW (E0 mm) 20 [.agg [.d (dS e0_0), .d (dU e0_1), .d (dU e0_2), .d (.lst e0_3 (enL enSS e0_4)), .d (dI e0_5), .d (dS e0_6), .d (dI e0_7), .d (.lst e0_8 (enL enSS e0_9)), .d (.lst e0_10 (enL enB e0_11))], .agg [.d (dB c_0), .d (dB c_1), .d (dB c_2), .d (dB c_3), .d (dB c_4), .d (dB c_5), .d (dI c_6), .d (dI c_7), .d (dI c_8), .d (dI c_9)], cd (dU now)] [] = (m20 e0_0 e0_1 e0_2 e0_3 e0_4 e0_5 e0_6 e0_7 e0_8 e0_9 e0_10 e0_11 c_0 c_1 c_2 c_3 c_4 c_5 c_6 c_7 c_8 c_9 now).map e20 := by
  rw [cR c20_0 [.tmp 6] Tryz.func20]
  unfold m20; exact go k20 (Q @j20_10_t @j20_10v1_t)
noncomputable def c4_0 : Code := bodyOf Tryz.f4
def c4_1 := cA c4_0
def c4_3 := cA (cB c4_0)
def c4_5 := cA (cB (cB c4_0))
theorem c4_5_r (m : Nat) (st : St) : den (E0 mm) 4 m (callW (E0 mm)) itW c4_5 none st = regD ((runF (E0 mm) (callW (E0 mm)) (opsOf c4_5) (opsOf c4_5) [none, none, none, some false, some true, some true, none, none, none, none, none, none, none] st []).bind (ckF [(4, 3), (5, 3)])) := den_dF (by kernel_rfl)
abbrev R4 := (Bool)
def e4 (x : R4) : AV × Heap := (vd (dB x), [])
def m4 (e0_0 : Bs) (e0_1 e0_2 : Int) (e0_3 : Bool) (e0_4 : List (Bs × Bs)) (e0_5 : Int) (e0_6 : Bs) (e0_7 : Int) (e0_8 : Bool) (e0_9 : List (Bs × Bs)) (e0_10 : Bool) (e0_11 : List UInt8) (c_0 c_1 : Bool) (c_2 c_3 : Bool) (c_4 c_5 : Bool) (c_6 c_7 : Int) (c_8 c_9 now : Int) : Option R4 :=
  (m18 c_0 c_1 c_2 c_3 c_4 c_5 c_6 c_7 c_8 c_9).bind fun yr2 =>
    (m19 e0_0 e0_1 e0_2 e0_3 e0_4 e0_5 e0_6 e0_7 e0_8 e0_9 e0_10 e0_11 yr2.1 yr2.2.1 yr2.2.2.1 yr2.2.2.2.1 yr2.2.2.2.2.1 yr2.2.2.2.2.2.1 yr2.2.2.2.2.2.2.1 yr2.2.2.2.2.2.2.2.1 yr2.2.2.2.2.2.2.2.2.1 yr2.2.2.2.2.2.2.2.2.2 now).bind fun yr4 =>
      (m20 e0_0 e0_1 e0_2 e0_3 e0_4 e0_5 e0_6 e0_7 e0_8 e0_9 e0_10 e0_11 yr2.1 yr2.2.1 yr2.2.2.1 yr2.2.2.2.1 yr2.2.2.2.2.1 yr2.2.2.2.2.2.1 yr2.2.2.2.2.2.2.1 yr2.2.2.2.2.2.2.2.1 yr2.2.2.2.2.2.2.2.2.1 yr2.2.2.2.2.2.2.2.2.2 now).bind fun yr6 =>
        if (yr4 == yr6) = true then
          some true
        else
          some false
def k4 := Q (rx c4_1) (Q (rx c4_3) (Q @ent18 (Q @prm18 (Q @f18_t (Q @e18.eq_1 (Q @c4_5_r (Q (show opsOf c4_5 = _ :: _ from rfl) (Q @ent19 (Q @prm19 (Q @f19_t (Q setF (Q @e19.eq_1 (Q @ent20 (Q @prm20 (Q @f20_t (Q @e20.eq_1 (Q @ent17 (Q @prm17 (Q @f17_t (Q (nE c4_0 (.seq c4_1 (.seq c4_3 (.seq c4_5 .ret)))) hA))))))))))))))))))))
theorem f4_t (e0_0 : Bs) (e0_1 e0_2 : Int) (e0_3 : Bool) (e0_4 : List (Bs × Bs)) (e0_5 : Int) (e0_6 : Bs) (e0_7 : Int) (e0_8 : Bool) (e0_9 : List (Bs × Bs)) (e0_10 : Bool) (e0_11 : List UInt8) (c_0 c_1 : Bool) (c_2 c_3 : Bool) (c_4 c_5 : Bool) (c_6 c_7 : Int) (c_8 c_9 now : Int) :
    callW (E0 mm) 4 [.agg [.d (dS e0_0), .d (dU e0_1), .d (dU e0_2), .d (.lst e0_3 (enL enSS e0_4)), .d (dI e0_5), .d (dS e0_6), .d (dI e0_7), .d (.lst e0_8 (enL enSS e0_9)), .d (.lst e0_10 (enL enB e0_11))], .agg [.d (dB c_0), .d (dB c_1), .d (dB c_2), .d (dB c_3), .d (dB c_4), .d (dB c_5), .d (dI c_6), .d (dI c_7), .d (dI c_8), .d (dI c_9)], cd (dU now)] [] = (m4 e0_0 e0_1 e0_2 e0_3 e0_4 e0_5 e0_6 e0_7 e0_8 e0_9 e0_10 e0_11 c_0 c_1 c_2 c_3 c_4 c_5 c_6 c_7 c_8 c_9 now).map e4 := by
  rw [cR c4_0 [.tmp 6] Tryz.func4]
  unfold m4; exact go k4 trivial
end
end Go.Proofs.YtbkobjepahlegaaGreatDoor
