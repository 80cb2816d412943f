/- The Go functions as plain functions, and that the evaluator computes them. -/
import Derived.Test.YtbkobjepahlegaaGreatDoorFMore3
set_option linter.all false
set_option maxRecDepth 100000
namespace Go.Proofs.YtbkobjepahlegaaGreatDoor
open Go Go.Ab
open Nat renaming reduceEqDiff → za, reduceAdd → zb, reduceLeDiff → zc, reduceLT → zd, reduceMul → ze, reduceBEq → zf, reduceSub → zg, reducePow → zh
open Int renaming reduceEq → zi, reduceLE → zj, reduceLT → zk, reduceToNat → zl, reduceNegSucc → zm, reduceAdd → zn, reduceBEq → zo
open String renaming reduceBEq → zp
set_option maxHeartbeats 4000000
noncomputable section
variable {mm : Int}
noncomputable def c11_0 : Code := bodyOf Tryz.f11
def c11_1 := cA c11_0
def c11_3 := cA (cB c11_0)
def c11_5 := cA (cB (cB c11_0))
def c11_7 := cA (cB (cB (cB c11_0)))
def c11_10 := cA (cA (cB (cB (cB (cB c11_0)))))
def c11_12 := cA (cB (cA (cB (cB (cB (cB c11_0))))))
def c11_14 := cB (cB (cB (cB (cB c11_0))))
def c11_15 := cA c11_14
def c11_16 := cB c11_14
def c11_18 := cA (cA c11_16)
def c11_19 := cB (cA c11_16)
def c11_21 := cA (cA c11_19)
def c11_24 := cB c11_16
def c11_25 := cA c11_24
def c11_28 := cA (cA (cB c11_24))
def c11_29 := cB (cA (cB c11_24))
def c11_31 := cA (cA c11_29)
def c11_34 := cB (cB c11_24)
def c11_35 := cA c11_34
def c11_37 := cA (cB c11_34)
def c11_39 := cA (cB (cB c11_34))
theorem c11_25_r (m : Nat) (st : St) : den (E0 mm) 11 m (callW (E0 mm)) itW c11_25 none st = regD ((runF (E0 mm) (callW (E0 mm)) (opsOf c11_25) (opsOf c11_25) [some true, some false, none, none, none, none] st []).bind (ckF [(0, 1)])) := den_dF (by kernel_rfl)
abbrev b11 (mm : Int) := bodyD (E0 mm) [.tmp 8] 0 false
abbrev R11 := (Bool)
def e11 (x : R11) : AV × Heap := (vd (dB x), [])
def j11_34 (now3 : Int) (h0_0 : Bs) (h0_1 h0_2 : Int) (h0_3_0 : Bool) (h0_3_1 : List (Bs × Bs)) (h0_4 : Int) (h0_5 : Bs) (h0_6 : Int) (h0_7_0 : Bool) (h0_7_1 : List (Bs × Bs)) (h0_8_0 : Bool) (h0_8_1 : List UInt8) (h1_0 h1_1 : Bool) (h1_2 h1_3 : Bool) (h1_4 h1_5 : Bool) (h1_6 h1_7 : Int) (h1_8 h1_9 : Int) : Option R11 :=
  if h0_7_1.isEmpty = true then
    (m19 h0_0 h0_1 h0_2 h0_3_0 h0_3_1 h0_4 h0_5 h0_6 false ([(([67, 97, 99, 104, 101, 45, 67, 111, 110, 116, 114, 111, 108] : Bs), ([110, 111, 45, 99, 97, 99, 104, 101] : Bs))] : List (Bs × Bs)) h0_8_0 h0_8_1 h1_0 h1_1 h1_2 h1_3 h1_4 h1_5 h1_6 h1_7 h1_8 h1_9 now3).bind fun yr29 =>
      if (yr29 == 2) = true then
        some false
      else
        some true
  else
    if h0_7_1.length * 32 ≤ 140737488355328 then
      if (h0_7_1.length + 1) * 32 ≤ 140737488355328 then
        (m19 h0_0 h0_1 h0_2 h0_3_0 h0_3_1 h0_4 h0_5 h0_6 false (h0_7_1 ++ ([(([67, 97, 99, 104, 101, 45, 67, 111, 110, 116, 114, 111, 108] : Bs), ([110, 111, 45, 99, 97, 99, 104, 101] : Bs))] : List (Bs × Bs))) h0_8_0 h0_8_1 h1_0 h1_1 h1_2 h1_3 h1_4 h1_5 h1_6 h1_7 h1_8 h1_9 now3).bind fun yr34 =>
          if (yr34 == 2) = true then
            some false
          else
            some true
      else none
    else none
def k11 := Q (rx c11_35) (Q @zc30 (Q @ao132 (Q (rx c11_37) (Q @hd133 (Q @nv134 (Q @rw135 (Q (rx c11_39) (Q @ent19 (Q @prm19 (Q (fun (mm : Int) (h0_0 : Bs) (h0_1 : Int) (h0_2 : Int) (h0_3_0 : Bool) (h0_3_1 : List (Bs × Bs)) (h0_4 : Int) (h0_5 : Bs) (h0_6 : Int) (h0_8_0 : Bool) (h0_8_1 : List UInt8) (h1_0 : Bool) (h1_1 : Bool) (h1_2 : Bool) (h1_3 : Bool) (h1_4 : Bool) (h1_5 : Bool) (h1_6 : Int) (h1_7 : Int) (h1_8 : Int) (h1_9 : Int) (now3 : Int) => (show callW (E0 mm) 19 [.agg [.d (dS h0_0), .d (dU h0_1), .d (dU h0_2), .d (.lst h0_3_0 (enL enSS h0_3_1)), .d (dI h0_4), .d (dS h0_5), .d (dI h0_6), .d (.lst false (enL enSS ([(([67, 97, 99, 104, 101, 45, 67, 111, 110, 116, 114, 111, 108] : Bs), ([110, 111, 45, 99, 97, 99, 104, 101] : Bs))] : List (Bs × Bs)))), .d (.lst h0_8_0 (enL enB h0_8_1))], .agg [.d (dB h1_0), .d (dB h1_1), .d (dB h1_2), .d (dB h1_3), .d (dB h1_4), .d (dB h1_5), .d (dI h1_6), .d (dI h1_7), .d (dI h1_8), .d (dI h1_9)], cd (dU now3)] [] = _ from f19_t h0_0 h0_1 h0_2 h0_3_0 h0_3_1 h0_4 h0_5 h0_6 false ([(([67, 97, 99, 104, 101, 45, 67, 111, 110, 116, 114, 111, 108] : Bs), ([110, 111, 45, 99, 97, 99, 104, 101] : Bs))] : List (Bs × Bs)) h0_8_0 h0_8_1 h1_0 h1_1 h1_2 h1_3 h1_4 h1_5 h1_6 h1_7 h1_8 h1_9 now3)) (Q @e19.eq_1 (Q @ent17 (Q @prm17 (Q @f17_t (Q (fun (mm : Int) (h0_0 : Bs) (h0_1 : Int) (h0_2 : Int) (h0_3_0 : Bool) (h0_3_1 : List (Bs × Bs)) (h0_4 : Int) (h0_5 : Bs) (h0_6 : Int) (h0_7_1 : List (Bs × Bs)) (h0_8_0 : Bool) (h0_8_1 : List UInt8) (h1_0 : Bool) (h1_1 : Bool) (h1_2 : Bool) (h1_3 : Bool) (h1_4 : Bool) (h1_5 : Bool) (h1_6 : Int) (h1_7 : Int) (h1_8 : Int) (h1_9 : Int) (now3 : Int) => (show callW (E0 mm) 19 [.agg [.d (dS h0_0), .d (dU h0_1), .d (dU h0_2), .d (.lst h0_3_0 (enL enSS h0_3_1)), .d (dI h0_4), .d (dS h0_5), .d (dI h0_6), .d (.lst false (enL enSS (h0_7_1 ++ ([(([67, 97, 99, 104, 101, 45, 67, 111, 110, 116, 114, 111, 108] : Bs), ([110, 111, 45, 99, 97, 99, 104, 101] : Bs))] : List (Bs × Bs))))), .d (.lst h0_8_0 (enL enB h0_8_1))], .agg [.d (dB h1_0), .d (dB h1_1), .d (dB h1_2), .d (dB h1_3), .d (dB h1_4), .d (dB h1_5), .d (dI h1_6), .d (dI h1_7), .d (dI h1_8), .d (dI h1_9)], cd (dU now3)] [] = _ from f19_t h0_0 h0_1 h0_2 h0_3_0 h0_3_1 h0_4 h0_5 h0_6 false (h0_7_1 ++ ([(([67, 97, 99, 104, 101, 45, 67, 111, 110, 116, 114, 111, 108] : Bs), ([110, 111, 45, 99, 97, 99, 104, 101] : Bs))] : List (Bs × Bs))) h0_8_0 h0_8_1 h1_0 h1_1 h1_2 h1_3 h1_4 h1_5 h1_6 h1_7 h1_8 h1_9 now3)) (Q (rx c11_31) (Q @c11_25_r (Q (show opsOf c11_25 = _ :: _ from rfl) (Q @ent40 (Q @prm40 (Q @f40_t (Q setF (Q @e40.eq_1 (Q @f19_t (Q (rx c11_28) (Q @ent42 (Q @prm42 (Q @f42_t (Q @e42.eq_1 (Q @f23_t (Q @e23.eq_1 (Q (rx c11_21) (Q (rx c11_18) (Q (rx c11_15) (Q (fun (mm : Int) (l1_0 : Bool) (l1_1 : List (Bs × Bs)) => (show callW (E0 mm) 29 [cd (.lst l1_0 (enL enSS l1_1)), cd (dS ([99, 97, 99, 104, 101, 45, 99, 111, 110, 116, 114, 111, 108] : Bs))] [] = _ from f29_t l1_0 l1_1 ([99, 97, 99, 104, 101, 45, 99, 111, 110, 116, 114, 111, 108] : Bs))) (Q @e29.eq_1 (Q (fun (mm : Int) (l1_0 : Bool) (l1_1 : List (Bs × Bs)) => (show callW (E0 mm) 26 [cd (.lst l1_0 (enL enSS l1_1)), cd (dS ([112, 114, 97, 103, 109, 97] : Bs))] [] = _ from f26_t l1_0 l1_1 ([112, 114, 97, 103, 109, 97] : Bs))) (Q @e26.eq_1 (Q (rx c11_1) (Q (rx c11_3) (Q @ent41 (Q @prm41 (Q @f41_t (Q @e41.eq_1 (Q @ao126 (Q (rx c11_5) (Q (rx c11_7) (Q @hd127 (Q @nv128 (Q @rw129 (Q (fun (mm : Int) (more : Bs) => (show callW (E0 mm) 41 [.c (.d (.lst false (enL enSS ([(([67, 97, 99, 104, 101, 45, 67, 111, 110, 116, 114, 111, 108] : Bs), more)] : List (Bs × Bs)))))] [] = _ from f41_t false ([(([67, 97, 99, 104, 101, 45, 67, 111, 110, 116, 114, 111, 108] : Bs), more)] : List (Bs × Bs)))) (Q @ao130 (Q (rx c11_10) (Q (rx c11_12) (Q (fun (mm : Int) (l_1 : List (Bs × Bs)) (more : Bs) => (show callW (E0 mm) 41 [.c (.d (.lst false (enL enSS (l_1 ++ ([(([67, 97, 99, 104, 101, 45, 67, 111, 110, 116, 114, 111, 108] : Bs), more)] : List (Bs × Bs))))))] [] = _ from f41_t false (l_1 ++ ([(([67, 97, 99, 104, 101, 45, 67, 111, 110, 116, 114, 111, 108] : Bs), more)] : List (Bs × Bs))))) (Q (nE c11_0 (.seq c11_1 (.seq c11_3 (.seq c11_5 (.seq c11_7 (.seq (.seq c11_10 (.cond _ c11_12 .skip)) c11_14)))))) hA))))))))))))))))))))))))))))))))))))))))))))))))))))))))
theorem j11_34_t (now3 : Int) (h0_0 : Bs) (h0_1 h0_2 : Int) (h0_3_0 : Bool) (h0_3_1 : List (Bs × Bs)) (h0_4 : Int) (h0_5 : Bs) (h0_6 : Int) (h0_7_0 : Bool) (h0_7_1 : List (Bs × Bs)) (h0_8_0 : Bool) (h0_8_1 : List UInt8) (h1_0 h1_1 : Bool) (h1_2 h1_3 : Bool) (h1_4 h1_5 : Bool) (h1_6 h1_7 : Int) (h1_8 h1_9 : Int) (g2 g3 : Ob) (g4 g5 : Ob) (sl : Sl) (_ : sl 3 = vd (dU now3)) (_ : sl 4 = .v (.c (.ptr 0 0))) (_ : sl 9 = .v (.c (.ptr 1 0))) :
    b11 mm (dn (E0 mm) 11 0 c11_34 sl [.cells [.d (dS h0_0), .d (dU h0_1), .d (dU h0_2), .d (.lst h0_3_0 (enL enSS h0_3_1)), .d (dI h0_4), .d (dS h0_5), .d (dI h0_6), .d (.lst h0_7_0 (enL enSS h0_7_1)), .d (.lst h0_8_0 (enL enB h0_8_1))], .cells [.d (dB h1_0), .d (dB h1_1), .d (dB h1_2), .d (dB h1_3), .d (dB h1_4), .d (dB h1_5), .d (dI h1_6), .d (dI h1_7), .d (dI h1_8), .d (dI h1_9)], g2, g3, g4, g5]) = (j11_34 now3 h0_0 h0_1 h0_2 h0_3_0 h0_3_1 h0_4 h0_5 h0_6 h0_7_0 h0_7_1 h0_8_0 h0_8_1 h1_0 h1_1 h1_2 h1_3 h1_4 h1_5 h1_6 h1_7 h1_8 h1_9).map e11 := by
  unfold j11_34; exact go (Q (nE c11_34 (.seq c11_35 (.seq c11_37 (.seq c11_39 .ret)))) k11) trivial
def j11_29 (now3 : Int) (t74 : Bool) (h0_0 : Bs) (h0_1 h0_2 : Int) (h0_3_0 : Bool) (h0_3_1 : List (Bs × Bs)) (h0_4 : Int) (h0_5 : Bs) (h0_6 : Int) (h0_7_0 : Bool) (h0_7_1 : List (Bs × Bs)) (h0_8_0 : Bool) (h0_8_1 : List UInt8) (h1_0 h1_1 : Bool) (h1_2 h1_3 : Bool) (h1_4 h1_5 : Bool) (h1_6 h1_7 : Int) (h1_8 h1_9 : Int) : Option R11 :=
  if t74 = true then
    some false
  else
    j11_34 now3 h0_0 h0_1 h0_2 h0_3_0 h0_3_1 h0_4 h0_5 h0_6 h0_7_0 h0_7_1 h0_8_0 h0_8_1 h1_0 h1_1 h1_2 h1_3 h1_4 h1_5 h1_6 h1_7 h1_8 h1_9
theorem j11_29_t (now3 : Int) (t74 : Bool) (h0_0 : Bs) (h0_1 h0_2 : Int) (h0_3_0 : Bool) (h0_3_1 : List (Bs × Bs)) (h0_4 : Int) (h0_5 : Bs) (h0_6 : Int) (h0_7_0 : Bool) (h0_7_1 : List (Bs × Bs)) (h0_8_0 : Bool) (h0_8_1 : List UInt8) (h1_0 h1_1 : Bool) (h1_2 h1_3 : Bool) (h1_4 h1_5 : Bool) (h1_6 h1_7 : Int) (h1_8 h1_9 : Int) (g2 g3 : Ob) (g4 g5 : Ob) (sl : Sl) (_ : sl 3 = vd (dU now3)) (_ : sl 4 = .v (.c (.ptr 0 0))) (_ : sl 9 = .v (.c (.ptr 1 0))) (_ : sl 74 = vd (dB t74)) :
    b11 mm (sq (E0 mm) 11 0 c11_34 (dn (E0 mm) 11 0 c11_29 sl [.cells [.d (dS h0_0), .d (dU h0_1), .d (dU h0_2), .d (.lst h0_3_0 (enL enSS h0_3_1)), .d (dI h0_4), .d (dS h0_5), .d (dI h0_6), .d (.lst h0_7_0 (enL enSS h0_7_1)), .d (.lst h0_8_0 (enL enB h0_8_1))], .cells [.d (dB h1_0), .d (dB h1_1), .d (dB h1_2), .d (dB h1_3), .d (dB h1_4), .d (dB h1_5), .d (dI h1_6), .d (dI h1_7), .d (dI h1_8), .d (dI h1_9)], g2, g3, g4, g5])) = (j11_29 now3 t74 h0_0 h0_1 h0_2 h0_3_0 h0_3_1 h0_4 h0_5 h0_6 h0_7_0 h0_7_1 h0_8_0 h0_8_1 h1_0 h1_1 h1_2 h1_3 h1_4 h1_5 h1_6 h1_7 h1_8 h1_9).map e11 := by
  unfold j11_29; exact go (Q (nE c11_29 (.cond _ (.seq c11_31 .ret) .skip)) k11) @j11_34_t
def j11_24 (now3 : Int) (h0_0 : Bs) (h0_1 h0_2 : Int) (h0_3_0 : Bool) (h0_3_1 : List (Bs × Bs)) (h0_4 : Int) (h0_5 : Bs) (h0_6 : Int) (h0_7_0 : Bool) (h0_7_1 : List (Bs × Bs)) (h0_8_0 : Bool) (h0_8_1 : List UInt8) (h1_0 h1_1 : Bool) (h1_2 h1_3 : Bool) (h1_4 h1_5 : Bool) (h1_6 h1_7 : Int) (h1_8 h1_9 : Int) : Option R11 :=
  (m40).bind fun yr17 =>
    (m19 h0_0 h0_1 h0_2 h0_3_0 h0_3_1 h0_4 h0_5 h0_6 h0_7_0 h0_7_1 h0_8_0 h0_8_1 yr17.1 yr17.2.1 yr17.2.2.1 yr17.2.2.2.1 yr17.2.2.2.2.1 yr17.2.2.2.2.2.1 yr17.2.2.2.2.2.2.1 yr17.2.2.2.2.2.2.2.1 yr17.2.2.2.2.2.2.2.2.1 yr17.2.2.2.2.2.2.2.2.2 now3).bind fun yr19 =>
      if (yr19 == 2) = true then
        (m42 h0_0 h0_1 h0_2 h0_3_0 h0_3_1 h0_4 h0_5 h0_6 h0_7_0 h0_7_1 h0_8_0 h0_8_1 now3).bind fun yr22 =>
          if yr22 = true then
            (m23 h0_7_0 h0_7_1).bind fun yr25 =>
              j11_29 now3 yr25.2.1 h0_0 h0_1 h0_2 h0_3_0 h0_3_1 h0_4 h0_5 h0_6 h0_7_0 h0_7_1 h0_8_0 h0_8_1 h1_0 h1_1 h1_2 h1_3 h1_4 h1_5 h1_6 h1_7 h1_8 h1_9
          else
            j11_29 now3 true h0_0 h0_1 h0_2 h0_3_0 h0_3_1 h0_4 h0_5 h0_6 h0_7_0 h0_7_1 h0_8_0 h0_8_1 h1_0 h1_1 h1_2 h1_3 h1_4 h1_5 h1_6 h1_7 h1_8 h1_9
      else
        j11_29 now3 false h0_0 h0_1 h0_2 h0_3_0 h0_3_1 h0_4 h0_5 h0_6 h0_7_0 h0_7_1 h0_8_0 h0_8_1 h1_0 h1_1 h1_2 h1_3 h1_4 h1_5 h1_6 h1_7 h1_8 h1_9
theorem j11_24_t (now3 : Int) (h0_0 : Bs) (h0_1 h0_2 : Int) (h0_3_0 : Bool) (h0_3_1 : List (Bs × Bs)) (h0_4 : Int) (h0_5 : Bs) (h0_6 : Int) (h0_7_0 : Bool) (h0_7_1 : List (Bs × Bs)) (h0_8_0 : Bool) (h0_8_1 : List UInt8) (h1_0 h1_1 : Bool) (h1_2 h1_3 : Bool) (h1_4 h1_5 : Bool) (h1_6 h1_7 : Int) (h1_8 h1_9 : Int) (g2 g3 : Ob) (g4 g5 : Ob) (sl : Sl) (_ : sl 3 = vd (dU now3)) (_ : sl 4 = .v (.c (.ptr 0 0))) (_ : sl 9 = .v (.c (.ptr 1 0))) :
    b11 mm (dn (E0 mm) 11 0 c11_24 sl [.cells [.d (dS h0_0), .d (dU h0_1), .d (dU h0_2), .d (.lst h0_3_0 (enL enSS h0_3_1)), .d (dI h0_4), .d (dS h0_5), .d (dI h0_6), .d (.lst h0_7_0 (enL enSS h0_7_1)), .d (.lst h0_8_0 (enL enB h0_8_1))], .cells [.d (dB h1_0), .d (dB h1_1), .d (dB h1_2), .d (dB h1_3), .d (dB h1_4), .d (dB h1_5), .d (dI h1_6), .d (dI h1_7), .d (dI h1_8), .d (dI h1_9)], g2, g3, g4, g5]) = (j11_24 now3 h0_0 h0_1 h0_2 h0_3_0 h0_3_1 h0_4 h0_5 h0_6 h0_7_0 h0_7_1 h0_8_0 h0_8_1 h1_0 h1_1 h1_2 h1_3 h1_4 h1_5 h1_6 h1_7 h1_8 h1_9).map e11 := by
  unfold j11_24; exact go (Q (nE c11_24 (.seq c11_25 (.seq (.seq c11_28 c11_29) c11_34))) k11) @j11_29_t
def j11_19 (now3 : Int) (t55 : Bool) (h0_0 : Bs) (h0_1 h0_2 : Int) (h0_3_0 : Bool) (h0_3_1 : List (Bs × Bs)) (h0_4 : Int) (h0_5 : Bs) (h0_6 : Int) (h0_7_0 : Bool) (h0_7_1 : List (Bs × Bs)) (h0_8_0 : Bool) (h0_8_1 : List UInt8) (h1_0 h1_1 : Bool) (h1_2 h1_3 : Bool) (h1_4 h1_5 : Bool) (h1_6 h1_7 : Int) (h1_8 h1_9 : Int) : Option R11 :=
  if t55 = true then
    some false
  else
    j11_24 now3 h0_0 h0_1 h0_2 h0_3_0 h0_3_1 h0_4 h0_5 h0_6 h0_7_0 h0_7_1 h0_8_0 h0_8_1 h1_0 h1_1 h1_2 h1_3 h1_4 h1_5 h1_6 h1_7 h1_8 h1_9
theorem j11_19_t (now3 : Int) (t55 : Bool) (h0_0 : Bs) (h0_1 h0_2 : Int) (h0_3_0 : Bool) (h0_3_1 : List (Bs × Bs)) (h0_4 : Int) (h0_5 : Bs) (h0_6 : Int) (h0_7_0 : Bool) (h0_7_1 : List (Bs × Bs)) (h0_8_0 : Bool) (h0_8_1 : List UInt8) (h1_0 h1_1 : Bool) (h1_2 h1_3 : Bool) (h1_4 h1_5 : Bool) (h1_6 h1_7 : Int) (h1_8 h1_9 : Int) (g2 g3 : Ob) (g4 g5 : Ob) (sl : Sl) (_ : sl 3 = vd (dU now3)) (_ : sl 4 = .v (.c (.ptr 0 0))) (_ : sl 9 = .v (.c (.ptr 1 0))) (_ : sl 55 = vd (dB t55)) :
    b11 mm (sq (E0 mm) 11 0 c11_24 (dn (E0 mm) 11 0 c11_19 sl [.cells [.d (dS h0_0), .d (dU h0_1), .d (dU h0_2), .d (.lst h0_3_0 (enL enSS h0_3_1)), .d (dI h0_4), .d (dS h0_5), .d (dI h0_6), .d (.lst h0_7_0 (enL enSS h0_7_1)), .d (.lst h0_8_0 (enL enB h0_8_1))], .cells [.d (dB h1_0), .d (dB h1_1), .d (dB h1_2), .d (dB h1_3), .d (dB h1_4), .d (dB h1_5), .d (dI h1_6), .d (dI h1_7), .d (dI h1_8), .d (dI h1_9)], g2, g3, g4, g5])) = (j11_19 now3 t55 h0_0 h0_1 h0_2 h0_3_0 h0_3_1 h0_4 h0_5 h0_6 h0_7_0 h0_7_1 h0_8_0 h0_8_1 h1_0 h1_1 h1_2 h1_3 h1_4 h1_5 h1_6 h1_7 h1_8 h1_9).map e11 := by
  unfold j11_19; exact go (Q (nE c11_19 (.cond _ (.seq c11_21 .ret) .skip)) k11) @j11_24_t
def j11_16 (now3 : Int) (was10 pragma12 : Bool) (h0_0 : Bs) (h0_1 h0_2 : Int) (h0_3_0 : Bool) (h0_3_1 : List (Bs × Bs)) (h0_4 : Int) (h0_5 : Bs) (h0_6 : Int) (h0_7_0 : Bool) (h0_7_1 : List (Bs × Bs)) (h0_8_0 : Bool) (h0_8_1 : List UInt8) (h1_0 h1_1 : Bool) (h1_2 h1_3 : Bool) (h1_4 h1_5 : Bool) (h1_6 h1_7 : Int) (h1_8 h1_9 : Int) (h3_0 h3_1 : Bool) (h3_2 h3_3 : Bool) (h3_4 h3_5 : Bool) (h3_6 h3_7 : Int) (h3_8 h3_9 : Int) : Option R11 :=
  if was10 = true then
    j11_19 now3 false h0_0 h0_1 h0_2 h0_3_0 h0_3_1 h0_4 h0_5 h0_6 h0_7_0 h0_7_1 h0_8_0 h0_8_1 h1_0 h1_1 h1_2 h1_3 h1_4 h1_5 h1_6 h1_7 h1_8 h1_9
  else
    if pragma12 = true then
      j11_19 now3 false h0_0 h0_1 h0_2 h0_3_0 h0_3_1 h0_4 h0_5 h0_6 h0_7_0 h0_7_1 h0_8_0 h0_8_1 h1_0 h1_1 h1_2 h1_3 h1_4 h1_5 h1_6 h1_7 h1_8 h1_9
    else
      (m19 h0_0 h0_1 h0_2 h0_3_0 h0_3_1 h0_4 h0_5 h0_6 h0_7_0 h0_7_1 h0_8_0 h0_8_1 h3_0 h3_1 h3_2 h3_3 h3_4 h3_5 h3_6 h3_7 h3_8 h3_9 now3).bind fun yr38 =>
        j11_19 now3 (yr38 == 2) h0_0 h0_1 h0_2 h0_3_0 h0_3_1 h0_4 h0_5 h0_6 h0_7_0 h0_7_1 h0_8_0 h0_8_1 h1_0 h1_1 h1_2 h1_3 h1_4 h1_5 h1_6 h1_7 h1_8 h1_9
theorem j11_16_t (now3 : Int) (was10 pragma12 : Bool) (h0_0 : Bs) (h0_1 h0_2 : Int) (h0_3_0 : Bool) (h0_3_1 : List (Bs × Bs)) (h0_4 : Int) (h0_5 : Bs) (h0_6 : Int) (h0_7_0 : Bool) (h0_7_1 : List (Bs × Bs)) (h0_8_0 : Bool) (h0_8_1 : List UInt8) (h1_0 h1_1 : Bool) (h1_2 h1_3 : Bool) (h1_4 h1_5 : Bool) (h1_6 h1_7 : Int) (h1_8 h1_9 : Int) (h3_0 h3_1 : Bool) (h3_2 h3_3 : Bool) (h3_4 h3_5 : Bool) (h3_6 h3_7 : Int) (h3_8 h3_9 : Int) (g2 g4 g5 : Ob) (sl : Sl) (_ : sl 3 = vd (dU now3)) (_ : sl 4 = .v (.c (.ptr 0 0))) (_ : sl 9 = .v (.c (.ptr 1 0))) (_ : sl 10 = vd (dB was10)) (_ : sl 11 = .v (.c (.ptr 3 0))) (_ : sl 12 = vd (dB pragma12)) :
    b11 mm (dn (E0 mm) 11 0 c11_16 sl [.cells [.d (dS h0_0), .d (dU h0_1), .d (dU h0_2), .d (.lst h0_3_0 (enL enSS h0_3_1)), .d (dI h0_4), .d (dS h0_5), .d (dI h0_6), .d (.lst h0_7_0 (enL enSS h0_7_1)), .d (.lst h0_8_0 (enL enB h0_8_1))], .cells [.d (dB h1_0), .d (dB h1_1), .d (dB h1_2), .d (dB h1_3), .d (dB h1_4), .d (dB h1_5), .d (dI h1_6), .d (dI h1_7), .d (dI h1_8), .d (dI h1_9)], g2, .cells [.d (dB h3_0), .d (dB h3_1), .d (dB h3_2), .d (dB h3_3), .d (dB h3_4), .d (dB h3_5), .d (dI h3_6), .d (dI h3_7), .d (dI h3_8), .d (dI h3_9)], g4, g5]) = (j11_16 now3 was10 pragma12 h0_0 h0_1 h0_2 h0_3_0 h0_3_1 h0_4 h0_5 h0_6 h0_7_0 h0_7_1 h0_8_0 h0_8_1 h1_0 h1_1 h1_2 h1_3 h1_4 h1_5 h1_6 h1_7 h1_8 h1_9 h3_0 h3_1 h3_2 h3_3 h3_4 h3_5 h3_6 h3_7 h3_8 h3_9).map e11 := by
  unfold j11_16; exact go (Q (nE c11_16 (.seq (.seq c11_18 c11_19) c11_24)) k11) @j11_19_t
def j11_34v1 (now3 : Int) (h0_0 : Bs) (h0_1 h0_2 : Int) (h0_3_0 : Bool) (h0_3_1 : List (Bs × Bs)) (h0_4 : Int) (h0_5 : Bs) (h0_6 : Int) (h0_7_0 : Bool) (h0_7_1 : List (Bs × Bs)) (h0_8_0 : Bool) (h0_8_1 : List UInt8) (h1_0 h1_1 : Bool) (h1_2 h1_3 : Bool) (h1_4 h1_5 : Bool) (h1_6 h1_7 : Int) (h1_8 h1_9 : Int) : Option R11 :=
  if h0_7_1.isEmpty = true then
    (m19 h0_0 h0_1 h0_2 h0_3_0 h0_3_1 h0_4 h0_5 h0_6 false ([(([67, 97, 99, 104, 101, 45, 67, 111, 110, 116, 114, 111, 108] : Bs), ([110, 111, 45, 99, 97, 99, 104, 101] : Bs))] : List (Bs × Bs)) h0_8_0 h0_8_1 h1_0 h1_1 h1_2 h1_3 h1_4 h1_5 h1_6 h1_7 h1_8 h1_9 now3).bind fun yr54 =>
      if (yr54 == 2) = true then
        some false
      else
        some true
  else
    if h0_7_1.length * 32 ≤ 140737488355328 then
      if (h0_7_1.length + 1) * 32 ≤ 140737488355328 then
        (m19 h0_0 h0_1 h0_2 h0_3_0 h0_3_1 h0_4 h0_5 h0_6 false (h0_7_1 ++ ([(([67, 97, 99, 104, 101, 45, 67, 111, 110, 116, 114, 111, 108] : Bs), ([110, 111, 45, 99, 97, 99, 104, 101] : Bs))] : List (Bs × Bs))) h0_8_0 h0_8_1 h1_0 h1_1 h1_2 h1_3 h1_4 h1_5 h1_6 h1_7 h1_8 h1_9 now3).bind fun yr59 =>
          if (yr59 == 2) = true then
            some false
          else
            some true
      else none
    else none
theorem j11_34v1_t (now3 : Int) (h0_0 : Bs) (h0_1 h0_2 : Int) (h0_3_0 : Bool) (h0_3_1 : List (Bs × Bs)) (h0_4 : Int) (h0_5 : Bs) (h0_6 : Int) (h0_7_0 : Bool) (h0_7_1 : List (Bs × Bs)) (h0_8_0 : Bool) (h0_8_1 : List UInt8) (h1_0 h1_1 : Bool) (h1_2 h1_3 : Bool) (h1_4 h1_5 : Bool) (h1_6 h1_7 : Int) (h1_8 h1_9 : Int) (g2 g3 g4 : Ob) (sl : Sl) (_ : sl 3 = vd (dU now3)) (_ : sl 4 = .v (.c (.ptr 0 0))) (_ : sl 9 = .v (.c (.ptr 1 0))) :
    b11 mm (dn (E0 mm) 11 0 c11_34 sl [.cells [.d (dS h0_0), .d (dU h0_1), .d (dU h0_2), .d (.lst h0_3_0 (enL enSS h0_3_1)), .d (dI h0_4), .d (dS h0_5), .d (dI h0_6), .d (.lst h0_7_0 (enL enSS h0_7_1)), .d (.lst h0_8_0 (enL enB h0_8_1))], .cells [.d (dB h1_0), .d (dB h1_1), .d (dB h1_2), .d (dB h1_3), .d (dB h1_4), .d (dB h1_5), .d (dI h1_6), .d (dI h1_7), .d (dI h1_8), .d (dI h1_9)], g2, g3, g4]) = (j11_34v1 now3 h0_0 h0_1 h0_2 h0_3_0 h0_3_1 h0_4 h0_5 h0_6 h0_7_0 h0_7_1 h0_8_0 h0_8_1 h1_0 h1_1 h1_2 h1_3 h1_4 h1_5 h1_6 h1_7 h1_8 h1_9).map e11 := by
  unfold j11_34v1; exact go (Q (nE c11_34 (.seq c11_35 (.seq c11_37 (.seq c11_39 .ret)))) k11) trivial
def j11_29v1 (now3 : Int) (t74 : Bool) (h0_0 : Bs) (h0_1 h0_2 : Int) (h0_3_0 : Bool) (h0_3_1 : List (Bs × Bs)) (h0_4 : Int) (h0_5 : Bs) (h0_6 : Int) (h0_7_0 : Bool) (h0_7_1 : List (Bs × Bs)) (h0_8_0 : Bool) (h0_8_1 : List UInt8) (h1_0 h1_1 : Bool) (h1_2 h1_3 : Bool) (h1_4 h1_5 : Bool) (h1_6 h1_7 : Int) (h1_8 h1_9 : Int) : Option R11 :=
  if t74 = true then
    some false
  else
    j11_34v1 now3 h0_0 h0_1 h0_2 h0_3_0 h0_3_1 h0_4 h0_5 h0_6 h0_7_0 h0_7_1 h0_8_0 h0_8_1 h1_0 h1_1 h1_2 h1_3 h1_4 h1_5 h1_6 h1_7 h1_8 h1_9
theorem j11_29v1_t (now3 : Int) (t74 : Bool) (h0_0 : Bs) (h0_1 h0_2 : Int) (h0_3_0 : Bool) (h0_3_1 : List (Bs × Bs)) (h0_4 : Int) (h0_5 : Bs) (h0_6 : Int) (h0_7_0 : Bool) (h0_7_1 : List (Bs × Bs)) (h0_8_0 : Bool) (h0_8_1 : List UInt8) (h1_0 h1_1 : Bool) (h1_2 h1_3 : Bool) (h1_4 h1_5 : Bool) (h1_6 h1_7 : Int) (h1_8 h1_9 : Int) (g2 g3 g4 : Ob) (sl : Sl) (_ : sl 3 = vd (dU now3)) (_ : sl 4 = .v (.c (.ptr 0 0))) (_ : sl 9 = .v (.c (.ptr 1 0))) (_ : sl 74 = vd (dB t74)) :
    b11 mm (sq (E0 mm) 11 0 c11_34 (dn (E0 mm) 11 0 c11_29 sl [.cells [.d (dS h0_0), .d (dU h0_1), .d (dU h0_2), .d (.lst h0_3_0 (enL enSS h0_3_1)), .d (dI h0_4), .d (dS h0_5), .d (dI h0_6), .d (.lst h0_7_0 (enL enSS h0_7_1)), .d (.lst h0_8_0 (enL enB h0_8_1))], .cells [.d (dB h1_0), .d (dB h1_1), .d (dB h1_2), .d (dB h1_3), .d (dB h1_4), .d (dB h1_5), .d (dI h1_6), .d (dI h1_7), .d (dI h1_8), .d (dI h1_9)], g2, g3, g4])) = (j11_29v1 now3 t74 h0_0 h0_1 h0_2 h0_3_0 h0_3_1 h0_4 h0_5 h0_6 h0_7_0 h0_7_1 h0_8_0 h0_8_1 h1_0 h1_1 h1_2 h1_3 h1_4 h1_5 h1_6 h1_7 h1_8 h1_9).map e11 := by
  unfold j11_29v1; exact go (Q (nE c11_29 (.cond _ (.seq c11_31 .ret) .skip)) k11) @j11_34v1_t
def j11_24v1 (now3 : Int) (h0_0 : Bs) (h0_1 h0_2 : Int) (h0_3_0 : Bool) (h0_3_1 : List (Bs × Bs)) (h0_4 : Int) (h0_5 : Bs) (h0_6 : Int) (h0_7_0 : Bool) (h0_7_1 : List (Bs × Bs)) (h0_8_0 : Bool) (h0_8_1 : List UInt8) (h1_0 h1_1 : Bool) (h1_2 h1_3 : Bool) (h1_4 h1_5 : Bool) (h1_6 h1_7 : Int) (h1_8 h1_9 : Int) : Option R11 :=
  (m40).bind fun yr42 =>
    (m19 h0_0 h0_1 h0_2 h0_3_0 h0_3_1 h0_4 h0_5 h0_6 h0_7_0 h0_7_1 h0_8_0 h0_8_1 yr42.1 yr42.2.1 yr42.2.2.1 yr42.2.2.2.1 yr42.2.2.2.2.1 yr42.2.2.2.2.2.1 yr42.2.2.2.2.2.2.1 yr42.2.2.2.2.2.2.2.1 yr42.2.2.2.2.2.2.2.2.1 yr42.2.2.2.2.2.2.2.2.2 now3).bind fun yr44 =>
      if (yr44 == 2) = true then
        (m42 h0_0 h0_1 h0_2 h0_3_0 h0_3_1 h0_4 h0_5 h0_6 h0_7_0 h0_7_1 h0_8_0 h0_8_1 now3).bind fun yr47 =>
          if yr47 = true then
            (m23 h0_7_0 h0_7_1).bind fun yr50 =>
              j11_29v1 now3 yr50.2.1 h0_0 h0_1 h0_2 h0_3_0 h0_3_1 h0_4 h0_5 h0_6 h0_7_0 h0_7_1 h0_8_0 h0_8_1 h1_0 h1_1 h1_2 h1_3 h1_4 h1_5 h1_6 h1_7 h1_8 h1_9
          else
            j11_29v1 now3 true h0_0 h0_1 h0_2 h0_3_0 h0_3_1 h0_4 h0_5 h0_6 h0_7_0 h0_7_1 h0_8_0 h0_8_1 h1_0 h1_1 h1_2 h1_3 h1_4 h1_5 h1_6 h1_7 h1_8 h1_9
      else
        j11_29v1 now3 false h0_0 h0_1 h0_2 h0_3_0 h0_3_1 h0_4 h0_5 h0_6 h0_7_0 h0_7_1 h0_8_0 h0_8_1 h1_0 h1_1 h1_2 h1_3 h1_4 h1_5 h1_6 h1_7 h1_8 h1_9
theorem j11_24v1_t (now3 : Int) (h0_0 : Bs) (h0_1 h0_2 : Int) (h0_3_0 : Bool) (h0_3_1 : List (Bs × Bs)) (h0_4 : Int) (h0_5 : Bs) (h0_6 : Int) (h0_7_0 : Bool) (h0_7_1 : List (Bs × Bs)) (h0_8_0 : Bool) (h0_8_1 : List UInt8) (h1_0 h1_1 : Bool) (h1_2 h1_3 : Bool) (h1_4 h1_5 : Bool) (h1_6 h1_7 : Int) (h1_8 h1_9 : Int) (g2 g3 g4 : Ob) (sl : Sl) (_ : sl 3 = vd (dU now3)) (_ : sl 4 = .v (.c (.ptr 0 0))) (_ : sl 9 = .v (.c (.ptr 1 0))) :
    b11 mm (dn (E0 mm) 11 0 c11_24 sl [.cells [.d (dS h0_0), .d (dU h0_1), .d (dU h0_2), .d (.lst h0_3_0 (enL enSS h0_3_1)), .d (dI h0_4), .d (dS h0_5), .d (dI h0_6), .d (.lst h0_7_0 (enL enSS h0_7_1)), .d (.lst h0_8_0 (enL enB h0_8_1))], .cells [.d (dB h1_0), .d (dB h1_1), .d (dB h1_2), .d (dB h1_3), .d (dB h1_4), .d (dB h1_5), .d (dI h1_6), .d (dI h1_7), .d (dI h1_8), .d (dI h1_9)], g2, g3, g4]) = (j11_24v1 now3 h0_0 h0_1 h0_2 h0_3_0 h0_3_1 h0_4 h0_5 h0_6 h0_7_0 h0_7_1 h0_8_0 h0_8_1 h1_0 h1_1 h1_2 h1_3 h1_4 h1_5 h1_6 h1_7 h1_8 h1_9).map e11 := by
  unfold j11_24v1; exact go (Q (nE c11_24 (.seq c11_25 (.seq (.seq c11_28 c11_29) c11_34))) k11) @j11_29v1_t
def j11_19v1 (now3 : Int) (t55 : Bool) (h0_0 : Bs) (h0_1 h0_2 : Int) (h0_3_0 : Bool) (h0_3_1 : List (Bs × Bs)) (h0_4 : Int) (h0_5 : Bs) (h0_6 : Int) (h0_7_0 : Bool) (h0_7_1 : List (Bs × Bs)) (h0_8_0 : Bool) (h0_8_1 : List UInt8) (h1_0 h1_1 : Bool) (h1_2 h1_3 : Bool) (h1_4 h1_5 : Bool) (h1_6 h1_7 : Int) (h1_8 h1_9 : Int) : Option R11 :=
  if t55 = true then
    some false
  else
    j11_24v1 now3 h0_0 h0_1 h0_2 h0_3_0 h0_3_1 h0_4 h0_5 h0_6 h0_7_0 h0_7_1 h0_8_0 h0_8_1 h1_0 h1_1 h1_2 h1_3 h1_4 h1_5 h1_6 h1_7 h1_8 h1_9
theorem j11_19v1_t (now3 : Int) (t55 : Bool) (h0_0 : Bs) (h0_1 h0_2 : Int) (h0_3_0 : Bool) (h0_3_1 : List (Bs × Bs)) (h0_4 : Int) (h0_5 : Bs) (h0_6 : Int) (h0_7_0 : Bool) (h0_7_1 : List (Bs × Bs)) (h0_8_0 : Bool) (h0_8_1 : List UInt8) (h1_0 h1_1 : Bool) (h1_2 h1_3 : Bool) (h1_4 h1_5 : Bool) (h1_6 h1_7 : Int) (h1_8 h1_9 : Int) (g2 g3 g4 : Ob) (sl : Sl) (_ : sl 3 = vd (dU now3)) (_ : sl 4 = .v (.c (.ptr 0 0))) (_ : sl 9 = .v (.c (.ptr 1 0))) (_ : sl 55 = vd (dB t55)) :
    b11 mm (sq (E0 mm) 11 0 c11_24 (dn (E0 mm) 11 0 c11_19 sl [.cells [.d (dS h0_0), .d (dU h0_1), .d (dU h0_2), .d (.lst h0_3_0 (enL enSS h0_3_1)), .d (dI h0_4), .d (dS h0_5), .d (dI h0_6), .d (.lst h0_7_0 (enL enSS h0_7_1)), .d (.lst h0_8_0 (enL enB h0_8_1))], .cells [.d (dB h1_0), .d (dB h1_1), .d (dB h1_2), .d (dB h1_3), .d (dB h1_4), .d (dB h1_5), .d (dI h1_6), .d (dI h1_7), .d (dI h1_8), .d (dI h1_9)], g2, g3, g4])) = (j11_19v1 now3 t55 h0_0 h0_1 h0_2 h0_3_0 h0_3_1 h0_4 h0_5 h0_6 h0_7_0 h0_7_1 h0_8_0 h0_8_1 h1_0 h1_1 h1_2 h1_3 h1_4 h1_5 h1_6 h1_7 h1_8 h1_9).map e11 := by
  unfold j11_19v1; exact go (Q (nE c11_19 (.cond _ (.seq c11_21 .ret) .skip)) k11) @j11_24v1_t
def j11_16v1 (now3 : Int) (was10 pragma12 : Bool) (h0_0 : Bs) (h0_1 h0_2 : Int) (h0_3_0 : Bool) (h0_3_1 : List (Bs × Bs)) (h0_4 : Int) (h0_5 : Bs) (h0_6 : Int) (h0_7_0 : Bool) (h0_7_1 : List (Bs × Bs)) (h0_8_0 : Bool) (h0_8_1 : List UInt8) (h1_0 h1_1 : Bool) (h1_2 h1_3 : Bool) (h1_4 h1_5 : Bool) (h1_6 h1_7 : Int) (h1_8 h1_9 : Int) (h3_0 h3_1 : Bool) (h3_2 h3_3 : Bool) (h3_4 h3_5 : Bool) (h3_6 h3_7 : Int) (h3_8 h3_9 : Int) : Option R11 :=
  if was10 = true then
    j11_19v1 now3 false h0_0 h0_1 h0_2 h0_3_0 h0_3_1 h0_4 h0_5 h0_6 h0_7_0 h0_7_1 h0_8_0 h0_8_1 h1_0 h1_1 h1_2 h1_3 h1_4 h1_5 h1_6 h1_7 h1_8 h1_9
  else
    if pragma12 = true then
      j11_19v1 now3 false h0_0 h0_1 h0_2 h0_3_0 h0_3_1 h0_4 h0_5 h0_6 h0_7_0 h0_7_1 h0_8_0 h0_8_1 h1_0 h1_1 h1_2 h1_3 h1_4 h1_5 h1_6 h1_7 h1_8 h1_9
    else
      (m19 h0_0 h0_1 h0_2 h0_3_0 h0_3_1 h0_4 h0_5 h0_6 h0_7_0 h0_7_1 h0_8_0 h0_8_1 h3_0 h3_1 h3_2 h3_3 h3_4 h3_5 h3_6 h3_7 h3_8 h3_9 now3).bind fun yr63 =>
        j11_19v1 now3 (yr63 == 2) h0_0 h0_1 h0_2 h0_3_0 h0_3_1 h0_4 h0_5 h0_6 h0_7_0 h0_7_1 h0_8_0 h0_8_1 h1_0 h1_1 h1_2 h1_3 h1_4 h1_5 h1_6 h1_7 h1_8 h1_9
theorem j11_16v1_t (now3 : Int) (was10 pragma12 : Bool) (h0_0 : Bs) (h0_1 h0_2 : Int) (h0_3_0 : Bool) (h0_3_1 : List (Bs × Bs)) (h0_4 : Int) (h0_5 : Bs) (h0_6 : Int) (h0_7_0 : Bool) (h0_7_1 : List (Bs × Bs)) (h0_8_0 : Bool) (h0_8_1 : List UInt8) (h1_0 h1_1 : Bool) (h1_2 h1_3 : Bool) (h1_4 h1_5 : Bool) (h1_6 h1_7 : Int) (h1_8 h1_9 : Int) (h3_0 h3_1 : Bool) (h3_2 h3_3 : Bool) (h3_4 h3_5 : Bool) (h3_6 h3_7 : Int) (h3_8 h3_9 : Int) (g2 g4 : Ob) (sl : Sl) (_ : sl 3 = vd (dU now3)) (_ : sl 4 = .v (.c (.ptr 0 0))) (_ : sl 9 = .v (.c (.ptr 1 0))) (_ : sl 10 = vd (dB was10)) (_ : sl 11 = .v (.c (.ptr 3 0))) (_ : sl 12 = vd (dB pragma12)) :
    b11 mm (dn (E0 mm) 11 0 c11_16 sl [.cells [.d (dS h0_0), .d (dU h0_1), .d (dU h0_2), .d (.lst h0_3_0 (enL enSS h0_3_1)), .d (dI h0_4), .d (dS h0_5), .d (dI h0_6), .d (.lst h0_7_0 (enL enSS h0_7_1)), .d (.lst h0_8_0 (enL enB h0_8_1))], .cells [.d (dB h1_0), .d (dB h1_1), .d (dB h1_2), .d (dB h1_3), .d (dB h1_4), .d (dB h1_5), .d (dI h1_6), .d (dI h1_7), .d (dI h1_8), .d (dI h1_9)], g2, .cells [.d (dB h3_0), .d (dB h3_1), .d (dB h3_2), .d (dB h3_3), .d (dB h3_4), .d (dB h3_5), .d (dI h3_6), .d (dI h3_7), .d (dI h3_8), .d (dI h3_9)], g4]) = (j11_16v1 now3 was10 pragma12 h0_0 h0_1 h0_2 h0_3_0 h0_3_1 h0_4 h0_5 h0_6 h0_7_0 h0_7_1 h0_8_0 h0_8_1 h1_0 h1_1 h1_2 h1_3 h1_4 h1_5 h1_6 h1_7 h1_8 h1_9 h3_0 h3_1 h3_2 h3_3 h3_4 h3_5 h3_6 h3_7 h3_8 h3_9).map e11 := by
  unfold j11_16v1; exact go (Q (nE c11_16 (.seq (.seq c11_18 c11_19) c11_24)) k11) @j11_19v1_t
def j11_14 (l1_0 : Bool) (l1_1 : List (Bs × Bs)) (now3 : Int) (was10 : Bool) (h0_0 : Bs) (h0_1 h0_2 : Int) (h0_3_0 : Bool) (h0_3_1 : List (Bs × Bs)) (h0_4 : Int) (h0_5 : Bs) (h0_6 : Int) (h0_7_0 : Bool) (h0_7_1 : List (Bs × Bs)) (h0_8_0 : Bool) (h0_8_1 : List UInt8) (h1_0 h1_1 : Bool) (h1_2 h1_3 : Bool) (h1_4 h1_5 : Bool) (h1_6 h1_7 : Int) (h1_8 h1_9 : Int) (h3_0 h3_1 : Bool) (h3_2 h3_3 : Bool) (h3_4 h3_5 : Bool) (h3_6 h3_7 : Int) (h3_8 h3_9 : Int) : Option R11 :=
  (m29 l1_0 l1_1 ([99, 97, 99, 104, 101, 45, 99, 111, 110, 116, 114, 111, 108] : Bs)).bind fun yr10 =>
    if ((yr10.2.length : Int) == 0) = true then
      (m26 l1_0 l1_1 ([112, 114, 97, 103, 109, 97] : Bs)).bind fun yr13 =>
        j11_16 now3 was10 (decide (0 < (yr13.2.length : Int))) h0_0 h0_1 h0_2 h0_3_0 h0_3_1 h0_4 h0_5 h0_6 h0_7_0 h0_7_1 h0_8_0 h0_8_1 h1_0 h1_1 h1_2 h1_3 h1_4 h1_5 h1_6 h1_7 h1_8 h1_9 h3_0 h3_1 h3_2 h3_3 h3_4 h3_5 h3_6 h3_7 h3_8 h3_9
    else
      j11_16v1 now3 was10 false h0_0 h0_1 h0_2 h0_3_0 h0_3_1 h0_4 h0_5 h0_6 h0_7_0 h0_7_1 h0_8_0 h0_8_1 h1_0 h1_1 h1_2 h1_3 h1_4 h1_5 h1_6 h1_7 h1_8 h1_9 h3_0 h3_1 h3_2 h3_3 h3_4 h3_5 h3_6 h3_7 h3_8 h3_9
theorem j11_14_t (l1_0 : Bool) (l1_1 : List (Bs × Bs)) (now3 : Int) (was10 : Bool) (h0_0 : Bs) (h0_1 h0_2 : Int) (h0_3_0 : Bool) (h0_3_1 : List (Bs × Bs)) (h0_4 : Int) (h0_5 : Bs) (h0_6 : Int) (h0_7_0 : Bool) (h0_7_1 : List (Bs × Bs)) (h0_8_0 : Bool) (h0_8_1 : List UInt8) (h1_0 h1_1 : Bool) (h1_2 h1_3 : Bool) (h1_4 h1_5 : Bool) (h1_6 h1_7 : Int) (h1_8 h1_9 : Int) (h3_0 h3_1 : Bool) (h3_2 h3_3 : Bool) (h3_4 h3_5 : Bool) (h3_6 h3_7 : Int) (h3_8 h3_9 : Int) (g2 : Ob) (sl : Sl) (_ : sl 1 = vd (.lst l1_0 (enL enSS l1_1))) (_ : sl 3 = vd (dU now3)) (_ : sl 4 = .v (.c (.ptr 0 0))) (_ : sl 9 = .v (.c (.ptr 1 0))) (_ : sl 10 = vd (dB was10)) (_ : sl 11 = .v (.c (.ptr 3 0))) :
    b11 mm (dn (E0 mm) 11 0 c11_14 sl [.cells [.d (dS h0_0), .d (dU h0_1), .d (dU h0_2), .d (.lst h0_3_0 (enL enSS h0_3_1)), .d (dI h0_4), .d (dS h0_5), .d (dI h0_6), .d (.lst h0_7_0 (enL enSS h0_7_1)), .d (.lst h0_8_0 (enL enB h0_8_1))], .cells [.d (dB h1_0), .d (dB h1_1), .d (dB h1_2), .d (dB h1_3), .d (dB h1_4), .d (dB h1_5), .d (dI h1_6), .d (dI h1_7), .d (dI h1_8), .d (dI h1_9)], g2, .cells [.d (dB h3_0), .d (dB h3_1), .d (dB h3_2), .d (dB h3_3), .d (dB h3_4), .d (dB h3_5), .d (dI h3_6), .d (dI h3_7), .d (dI h3_8), .d (dI h3_9)]]) = (j11_14 l1_0 l1_1 now3 was10 h0_0 h0_1 h0_2 h0_3_0 h0_3_1 h0_4 h0_5 h0_6 h0_7_0 h0_7_1 h0_8_0 h0_8_1 h1_0 h1_1 h1_2 h1_3 h1_4 h1_5 h1_6 h1_7 h1_8 h1_9 h3_0 h3_1 h3_2 h3_3 h3_4 h3_5 h3_6 h3_7 h3_8 h3_9).map e11 := by
  unfold j11_14; exact go (Q (nE c11_14 (.seq c11_15 c11_16)) k11) (Q @j11_16_t @j11_16v1_t)
def m11 (e0_0 : Bs) (e0_1 e0_2 : Int) (e0_3 : Bool) (e0_4 : List (Bs × Bs)) (e0_5 : Int) (e0_6 : Bs) (e0_7 : Int) (e0_8 : Bool) (e0_9 : List (Bs × Bs)) (e0_10 : Bool) (e0_11 : List UInt8) (l_0 : Bool) (l_1 : List (Bs × Bs)) (more : Bs) (now : Int) : Option R11 :=
  (m41 l_0 l_1).bind fun yr2 =>
    (m19 e0_0 e0_1 e0_2 e0_3 e0_4 e0_5 e0_6 e0_7 e0_8 e0_9 e0_10 e0_11 yr2.1 yr2.2.1 yr2.2.2.1 yr2.2.2.2.1 yr2.2.2.2.2.1 yr2.2.2.2.2.2.1 yr2.2.2.2.2.2.2.1 yr2.2.2.2.2.2.2.2.1 yr2.2.2.2.2.2.2.2.2.1 yr2.2.2.2.2.2.2.2.2.2 now).bind fun yr4 =>
      if l_1.isEmpty = true then
        (m41 false ([(([67, 97, 99, 104, 101, 45, 67, 111, 110, 116, 114, 111, 108] : Bs), more)] : List (Bs × Bs))).bind fun yr7 =>
          if (decide (yr2.2.2.2.2.2.2.2.2.2 < 0)) = true then
            j11_14 l_0 l_1 now (yr4 == 2) e0_0 e0_1 e0_2 e0_3 e0_4 e0_5 e0_6 e0_7 e0_8 e0_9 e0_10 e0_11 yr2.1 yr2.2.1 yr2.2.2.1 yr2.2.2.2.1 yr2.2.2.2.2.1 yr2.2.2.2.2.2.1 yr2.2.2.2.2.2.2.1 yr2.2.2.2.2.2.2.2.1 yr2.2.2.2.2.2.2.2.2.1 yr2.2.2.2.2.2.2.2.2.2 yr7.1 yr7.2.1 yr7.2.2.1 yr7.2.2.2.1 yr7.2.2.2.2.1 yr7.2.2.2.2.2.1 yr7.2.2.2.2.2.2.1 yr7.2.2.2.2.2.2.2.1 yr7.2.2.2.2.2.2.2.2.1 (-1 : Int)
          else
            j11_14 l_0 l_1 now (yr4 == 2) e0_0 e0_1 e0_2 e0_3 e0_4 e0_5 e0_6 e0_7 e0_8 e0_9 e0_10 e0_11 yr2.1 yr2.2.1 yr2.2.2.1 yr2.2.2.2.1 yr2.2.2.2.2.1 yr2.2.2.2.2.2.1 yr2.2.2.2.2.2.2.1 yr2.2.2.2.2.2.2.2.1 yr2.2.2.2.2.2.2.2.2.1 yr2.2.2.2.2.2.2.2.2.2 yr7.1 yr7.2.1 yr7.2.2.1 yr7.2.2.2.1 yr7.2.2.2.2.1 yr7.2.2.2.2.2.1 yr7.2.2.2.2.2.2.1 yr7.2.2.2.2.2.2.2.1 yr7.2.2.2.2.2.2.2.2.1 yr7.2.2.2.2.2.2.2.2.2
      else
        if l_1.length * 32 ≤ 140737488355328 then
          if (l_1.length + 1) * 32 ≤ 140737488355328 then
            (m41 false (l_1 ++ ([(([67, 97, 99, 104, 101, 45, 67, 111, 110, 116, 114, 111, 108] : Bs), more)] : List (Bs × Bs)))).bind fun yr67 =>
              if (decide (yr2.2.2.2.2.2.2.2.2.2 < 0)) = true then
                j11_14 l_0 l_1 now (yr4 == 2) e0_0 e0_1 e0_2 e0_3 e0_4 e0_5 e0_6 e0_7 e0_8 e0_9 e0_10 e0_11 yr2.1 yr2.2.1 yr2.2.2.1 yr2.2.2.2.1 yr2.2.2.2.2.1 yr2.2.2.2.2.2.1 yr2.2.2.2.2.2.2.1 yr2.2.2.2.2.2.2.2.1 yr2.2.2.2.2.2.2.2.2.1 yr2.2.2.2.2.2.2.2.2.2 yr67.1 yr67.2.1 yr67.2.2.1 yr67.2.2.2.1 yr67.2.2.2.2.1 yr67.2.2.2.2.2.1 yr67.2.2.2.2.2.2.1 yr67.2.2.2.2.2.2.2.1 yr67.2.2.2.2.2.2.2.2.1 (-1 : Int)
              else
                j11_14 l_0 l_1 now (yr4 == 2) e0_0 e0_1 e0_2 e0_3 e0_4 e0_5 e0_6 e0_7 e0_8 e0_9 e0_10 e0_11 yr2.1 yr2.2.1 yr2.2.2.1 yr2.2.2.2.1 yr2.2.2.2.2.1 yr2.2.2.2.2.2.1 yr2.2.2.2.2.2.2.1 yr2.2.2.2.2.2.2.2.1 yr2.2.2.2.2.2.2.2.2.1 yr2.2.2.2.2.2.2.2.2.2 yr67.1 yr67.2.1 yr67.2.2.1 yr67.2.2.2.1 yr67.2.2.2.2.1 yr67.2.2.2.2.2.1 yr67.2.2.2.2.2.2.1 yr67.2.2.2.2.2.2.2.1 yr67.2.2.2.2.2.2.2.2.1 yr67.2.2.2.2.2.2.2.2.2
          else none
        else none
theorem f11_t (e0_0 : Bs) (e0_1 e0_2 : Int) (e0_3 : Bool) (e0_4 : List (Bs × Bs)) (e0_5 : Int) (e0_6 : Bs) (e0_7 : Int) (e0_8 : Bool) (e0_9 : List (Bs × Bs)) (e0_10 : Bool) (e0_11 : List UInt8) (l_0 : Bool) (l_1 : List (Bs × Bs)) (more : Bs) (now : Int) :
    callW (E0 mm) 11 [.agg [.d (dS e0_0), .d (dU e0_1), .d (dU e0_2), .d (.lst e0_3 (enL enSS e0_4)), .d (dI e0_5), .d (dS e0_6), .d (dI e0_7), .d (.lst e0_8 (enL enSS e0_9)), .d (.lst e0_10 (enL enB e0_11))], cd (.lst l_0 (enL enSS l_1)), cd (dS more), cd (dU now)] [] = (m11 e0_0 e0_1 e0_2 e0_3 e0_4 e0_5 e0_6 e0_7 e0_8 e0_9 e0_10 e0_11 l_0 l_1 more now).map e11 := by
  rw [cR c11_0 [.tmp 8] Tryz.func11]
  unfold m11; exact go k11 @j11_14_t
end
end Go.Proofs.YtbkobjepahlegaaGreatDoor
