/- The Go functions as plain functions, and that the evaluator computes them. -/
import Derived.Test.YtbkobjepahlegaaGreatDoorFOlder2
set_option linter.all false
set_option maxRecDepth 100000
namespace Go.Proofs.YtbkobjepahlegaaGreatDoor
open Go Go.Ab
open Nat renaming reduceEqDiff → za, reduceAdd → zb, reduceLeDiff → zc, reduceLT → zd, reduceMul → ze, reduceBEq → zf, reduceSub → zg, reducePow → zh
open Int renaming reduceEq → zi, reduceLE → zj, reduceLT → zk, reduceToNat → zl, reduceNegSucc → zm, reduceAdd → zn, reduceBEq → zo
open String renaming reduceBEq → zp
set_option maxHeartbeats 4000000
noncomputable section
variable {mm : Int}
abbrev R132 := (Bool)
def m132 (year : Int) : Option R132 :=
  if ((year.tmod 400) == 0) = true then
    some true
  else
    if ((year.tmod 4) == 0) = true then
      some (!((year.tmod 100) == 0))
    else
      some false
abbrev R131 := (Int)
def j131_12 (n6 : Int) : Option R131 :=
  some n6
def j131_9 (n6 : Int) (t16 : Bool) : Option R131 :=
  if t16 = true then
    j131_12 (29 : Int)
  else
    j131_12 n6
def m131 (year month : Int) : Option R131 :=
  if 0 ≤ month ∧ month < 12 then
    if (month == 1) = true then
      (m132 year).bind fun yr5 =>
        j131_9 (([(31 : Int), (28 : Int), (31 : Int), (30 : Int), (31 : Int), (30 : Int), (31 : Int), (31 : Int), (30 : Int), (31 : Int), (30 : Int), (31 : Int)] : List Int).getD month.toNat default) yr5
    else
      j131_9 (([(31 : Int), (28 : Int), (31 : Int), (30 : Int), (31 : Int), (30 : Int), (31 : Int), (31 : Int), (30 : Int), (31 : Int), (30 : Int), (31 : Int)] : List Int).getD month.toNat default) false
  else none
abbrev R133 := (Bs)
def m133 (n : Int) : Option R133 :=
  if 0 ≤ (n.tmod 7) ∧ (n.tmod 7) < 7 then
    some (([([84, 104, 117] : Bs), ([70, 114, 105] : Bs), ([83, 97, 116] : Bs), ([83, 117, 110] : Bs), ([77, 111, 110] : Bs), ([84, 117, 101] : Bs), ([87, 101, 100] : Bs)] : List Bs).getD ((n.tmod 7).toNat) default)
  else none
abbrev R103 := (Int × Int)
def j103_30 (s0 : Bs) (m4 i5 : Int) : Option ((Bs × Int × Int) ⊕ R103) :=
  some (.inl (s0, m4, (w64 (i5 + 1))))
def j103_65 (s0 : Bs) (m4 year7 : Int) (h8 min9 : Int) (sec10 d11 y12 : Int) : Option ((Bs × Int × Int × Int × Int × Int × Int × Int) ⊕ R103) :=
  some (.inl (s0, m4, year7, h8, min9, sec10, d11, (w64 (y12 + 1))))
def j103_81 (s0 : Bs) (h8 min9 : Int) (sec10 d11 : Int) : Option R103 :=
  (m133 d11).bind fun yr48 =>
    (bnd 3 s0.length).bind fun yk50 =>
      if (yr48 == (s0.take yk50)) = true then
        some ((wu64 ((wu64 (86400 * d11)) + (wu64 (w64 ((w64 ((w64 (3600 * h8)) + (w64 (60 * min9)))) + sec10))))), (0 : Int))
      else
        some ((0 : Int), (5 : Int))
def s103_70 (s0 : Bs) (m4 year7 : Int) (h8 min9 : Int) (sec10 d11 i13 : Int) : Option ((Bs × Int × Int × Int × Int × Int × Int × Int) ⊕ R103) :=
  if (decide (i13 < m4)) = true then
    (m131 year7 i13).bind fun yr46 =>
      some (.inl (s0, m4, year7, h8, min9, sec10, (wu64 (d11 + (wu64 yr46))), (w64 (i13 + 1))))
  else
    (j103_81 s0 h8 min9 sec10 d11).map .inr
def l103_70 (s0 : Bs) (m4 year7 : Int) (h8 min9 : Int) (sec10 d11 i13 : Int) : Option R103 := iter (fun x : (Bs × Int × Int × Int × Int × Int × Int × Int) => s103_70 x.1 x.2.1 x.2.2.1 x.2.2.2.1 x.2.2.2.2.1 x.2.2.2.2.2.1 x.2.2.2.2.2.2.1 x.2.2.2.2.2.2.2) (s0, m4, year7, h8, min9, sec10, d11, i13)
def j103_66 (s0 : Bs) (m4 year7 : Int) (h8 min9 : Int) (sec10 d11 : Int) : Option R103 :=
  l103_70 s0 m4 year7 h8 min9 sec10 d11 (0 : Int)
def s103_49 (s0 : Bs) (m4 year7 : Int) (h8 min9 : Int) (sec10 d11 y12 : Int) : Option ((Bs × Int × Int × Int × Int × Int × Int × Int) ⊕ R103) :=
  if (decide (y12 < year7)) = true then
    (m132 y12).bind fun yr42 =>
      if yr42 = true then
        j103_65 s0 m4 year7 h8 min9 sec10 (wu64 ((wu64 (d11 + 365)) + 1)) y12
      else
        j103_65 s0 m4 year7 h8 min9 sec10 (wu64 (d11 + 365)) y12
  else
    (j103_66 s0 m4 year7 h8 min9 sec10 d11).map .inr
def l103_49 (s0 : Bs) (m4 year7 : Int) (h8 min9 : Int) (sec10 d11 y12 : Int) : Option R103 := iter (fun x : (Bs × Int × Int × Int × Int × Int × Int × Int) => s103_49 x.1 x.2.1 x.2.2.1 x.2.2.2.1 x.2.2.2.2.1 x.2.2.2.2.2.1 x.2.2.2.2.2.2.1 x.2.2.2.2.2.2.2) (s0, m4, year7, h8, min9, sec10, d11, y12)
def j103_38 (s0 : Bs) (m4 day6 : Int) (year7 h8 : Int) (min9 sec10 : Int) (t112 : Bool) : Option R103 :=
  if t112 = true then
    some ((0 : Int), (5 : Int))
  else
    l103_49 s0 m4 year7 h8 min9 sec10 (wu64 (w64 (day6 - 1))) (1970 : Int)
def j103_31 (s0 : Bs) (m4 : Int) : Option R103 :=
  (m130 s0 (5 : Int) (2 : Int)).bind fun yr29 =>
    (m130 s0 (12 : Int) (4 : Int)).bind fun yr31 =>
      (m130 s0 (17 : Int) (2 : Int)).bind fun yr33 =>
        (m130 s0 (20 : Int) (2 : Int)).bind fun yr35 =>
          (m130 s0 (23 : Int) (2 : Int)).bind fun yr37 =>
            if (decide (m4 < 0)) = true then
              j103_38 s0 m4 yr29 yr31 yr33 yr35 yr37 true
            else
              if (decide (yr31 < 1970)) = true then
                j103_38 s0 m4 yr29 yr31 yr33 yr35 yr37 true
              else
                if (decide (yr29 < 1)) = true then
                  j103_38 s0 m4 yr29 yr31 yr33 yr35 yr37 true
                else
                  (m131 yr31 m4).bind fun yr55 =>
                    if (decide (yr55 < yr29)) = true then
                      j103_38 s0 m4 yr29 yr31 yr33 yr35 yr37 true
                    else
                      if (decide (yr33 < 0)) = true then
                        j103_38 s0 m4 yr29 yr31 yr33 yr35 yr37 true
                      else
                        if (decide (23 < yr33)) = true then
                          j103_38 s0 m4 yr29 yr31 yr33 yr35 yr37 true
                        else
                          if (decide (yr35 < 0)) = true then
                            j103_38 s0 m4 yr29 yr31 yr33 yr35 yr37 true
                          else
                            if (decide (59 < yr35)) = true then
                              j103_38 s0 m4 yr29 yr31 yr33 yr35 yr37 true
                            else
                              if (decide (yr37 < 0)) = true then
                                j103_38 s0 m4 yr29 yr31 yr33 yr35 yr37 true
                              else
                                j103_38 s0 m4 yr29 yr31 yr33 yr35 yr37 (decide (59 < yr37))
def s103_16 (s0 : Bs) (m4 i5 : Int) : Option ((Bs × Int × Int) ⊕ R103) :=
  if (decide (i5 < 12)) = true then
    (m129 i5).bind fun yr22 =>
      (bnd 11 s0.length).bind fun yk24 =>
        (bnd 8 yk24).bind fun yk26 =>
          if (yr22 == ((s0.take yk24).drop yk26)) = true then
            j103_30 s0 i5 i5
          else
            j103_30 s0 m4 i5
  else
    (j103_31 s0 m4).map .inr
def l103_16 (s0 : Bs) (m4 i5 : Int) : Option R103 := iter (fun x : (Bs × Int × Int) => s103_16 x.1 x.2.1 x.2.2) (s0, m4, i5)
def j103_5 (s0 : Bs) (t51 : Bool) : Option R103 :=
  if t51 = true then
    some ((0 : Int), (5 : Int))
  else
    l103_16 s0 (-1 : Int) (0 : Int)
def m103 (s : Bs) : Option R103 :=
  if ((s.length : Int) == 29) = true then
    (bnd 5 s.length).bind fun yk3 =>
      (bnd 3 yk3).bind fun yk5 =>
        if (((s.take yk3).drop yk5) == ([44, 32] : Bs)) = true then
          if (7 : Int) < (s.length : Int) then
            if ((s.getD 7 0) == (32 : UInt8)) = true then
              if (11 : Int) < (s.length : Int) then
                if ((s.getD 11 0) == (32 : UInt8)) = true then
                  if (16 : Int) < (s.length : Int) then
                    if ((s.getD 16 0) == (32 : UInt8)) = true then
                      if (19 : Int) < (s.length : Int) then
                        if ((s.getD 19 0) == (58 : UInt8)) = true then
                          if (22 : Int) < (s.length : Int) then
                            if ((s.getD 22 0) == (58 : UInt8)) = true then
                              (bnd 25 s.length).bind fun yk18 =>
                                j103_5 s (!((s.drop yk18) == ([32, 71, 77, 84] : Bs)))
                            else
                              j103_5 s true
                          else none
                        else
                          j103_5 s true
                      else none
                    else
                      j103_5 s true
                  else none
                else
                  j103_5 s true
              else none
            else
              j103_5 s true
          else none
        else
          j103_5 s true
  else
    j103_5 s true
noncomputable def c6_0 : Code := bodyOf Tryz.f6
def c6_1 := cA c6_0
def c6_3 := cA (cB c6_0)
def c6_5 := cA (cB (cB c6_0))
def c6_7 := cA (cB (cB (cB c6_0)))
def c6_10 := cA (cA (cB (cB (cB (cB c6_0)))))
def c6_11 := cB (cA (cB (cB (cB (cB c6_0)))))
def c6_13 := cA (cA c6_11)
def c6_16 := cB (cB (cB (cB (cB c6_0))))
def c6_18 := cA (cA c6_16)
def c6_19 := cB (cA c6_16)
def c6_21 := cA (cA c6_19)
def c6_24 := cB c6_16
def c6_25 := cA c6_24
def c6_27 := cA (cB c6_24)
def c6_30 := cA (cA (cB (cB c6_24)))
def c6_33 := cA (cA (cB (cA (cB (cB c6_24)))))
def c6_36 := cB (cB (cB c6_24))
def c6_37 := cA c6_36
def c6_39 := cA (cB c6_36)
def c6_41 := cA (cB (cB c6_36))
def c6_43 := cA (cB (cB (cB c6_36)))
def c6_45 := cA (cB (cB (cB (cB c6_36))))
def c6_47 := cA (cB (cB (cB (cB (cB c6_36)))))
def c6_49 := cA (cB (cB (cB (cB (cB (cB c6_36))))))
def c6_51 := cA (cB (cB (cB (cB (cB (cB (cB c6_36)))))))
abbrev b6 (mm : Int) := bodyD (E0 mm) [.tmp 8] 0 false
abbrev R6 := (Bool)
def e6 (x : R6) : AV × Heap := (vd (dB x), [])
def j6_36 (now2 : Int) (h0_0 : Bs) (h0_1 h0_2 : Int) (h0_3_0 : Bool) (h0_3_1 : List (Bs × Bs)) (h0_4 : Int) (h0_5 : Bs) (h0_6 : Int) (h0_7_0 : Bool) (h0_7_1 : List (Bs × Bs)) (h0_8_0 : Bool) (h0_8_1 : List UInt8) (h1_0 h1_1 : Bool) (h1_2 h1_3 : Bool) (h1_4 h1_5 : Bool) (h1_6 h1_7 : Int) (h1_8 h1_9 : Int) (h2_0 h2_1 : Bool) (h2_2 h2_3 : Bool) (h2_4 h2_5 : Bool) (h2_6 h2_7 : Int) (h2_8 h2_9 : Int) : Option R6 :=
  (m19 h0_0 h0_1 h0_2 h0_3_0 h0_3_1 h0_4 h0_5 h0_6 h0_7_0 h0_7_1 h0_8_0 h0_8_1 h1_0 h1_1 h1_2 h1_3 h1_4 h1_5 h1_6 h1_7 h1_8 h1_9 now2).bind fun yr15 =>
    if (yr15 == 2) = true then
      some true
    else
      (m19 h0_0 h0_1 h0_2 h0_3_0 h0_3_1 h0_4 h0_5 h0_6 h0_7_0 h0_7_1 h0_8_0 h0_8_1 h1_0 h1_1 h1_2 h1_3 h1_4 h1_5 (0 : Int) h1_7 h1_8 h1_9 now2).bind fun yr18 =>
        if (yr18 == 2) = true then
          some false
        else
          (m19 h0_0 h0_1 h0_2 h0_3_0 h0_3_1 h0_4 h0_5 h0_6 h0_7_0 h0_7_1 h0_8_0 h0_8_1 h1_0 h1_1 h1_2 h1_3 h1_4 h1_5 h1_6 h1_7 h1_8 (-1 : Int) now2).bind fun yr21 =>
            if (yr21 == 2) = true then
              some false
            else
              (m19 h0_0 h0_1 h0_2 h0_3_0 h0_3_1 h0_4 h0_5 h0_6 h0_7_0 h0_7_1 h0_8_0 h0_8_1 h1_0 h1_1 h1_2 h1_3 h1_4 h1_5 h1_6 h1_7 (w64 ((max2 h1_8 0) + 1)) h1_9 now2).bind fun yr24 =>
                if (yr24 == 2) = true then
                  some false
                else
                  some true
def k6 := Q (rx c6_37) (Q (rx c6_39) (Q (rx c6_41) (Q @ao122 (Q (rx c6_43) (Q (rx c6_45) (Q @ao123 (Q (rx c6_47) (Q (rx c6_49) (Q @ent19 (Q @prm19 (Q @f19_t (Q @e19.eq_1 (Q (rx c6_51) (Q @ent17 (Q @prm17 (Q @f17_t (Q (rx c6_25) (Q @ao121 (Q (rx c6_27) (Q (rx c6_30) (Q (fun (mm : Int) (h0_0 : Bs) (h0_1 : Int) (h0_2 : Int) (h0_3_0 : Bool) (h0_3_1 : List (Bs × Bs)) (h0_4 : Int) (h0_5 : Bs) (h0_6 : Int) (h0_7_0 : Bool) (h0_7_1 : List (Bs × Bs)) (h0_8_0 : Bool) (h0_8_1 : List UInt8) (h1_0 : Bool) (h1_2 : Bool) (h1_3 : Bool) (h1_4 : Bool) (h1_5 : Bool) (h1_6 : Int) (h1_7 : Int) (h1_8 : Int) (h1_9 : Int) (now2 : Int) => (show callW (E0 mm) 19 [.agg [.d (dS h0_0), .d (dU h0_1), .d (dU h0_2), .d (.lst h0_3_0 (enL enSS h0_3_1)), .d (dI h0_4), .d (dS h0_5), .d (dI h0_6), .d (.lst h0_7_0 (enL enSS h0_7_1)), .d (.lst h0_8_0 (enL enB h0_8_1))], .agg [.d (dB h1_0), .d (dB true), .d (dB h1_2), .d (dB h1_3), .d (dB h1_4), .d (dB h1_5), .d (dI h1_6), .d (dI h1_7), .d (dI h1_8), .d (dI h1_9)], cd (dU now2)] [] = _ from f19_t h0_0 h0_1 h0_2 h0_3_0 h0_3_1 h0_4 h0_5 h0_6 h0_7_0 h0_7_1 h0_8_0 h0_8_1 h1_0 true h1_2 h1_3 h1_4 h1_5 h1_6 h1_7 h1_8 h1_9 now2)) (Q (rx c6_33) (Q (rx c6_21) (Q (rx c6_13) (Q (rx c6_18) (Q @Tryz.underlying4 (Q @f15_t (Q @e15.eq_1 (Q @e15.eq_2 (Q (rx c6_1) (Q (rx c6_3) (Q @ent18 (Q @prm18 (Q @f18_t (Q @e18.eq_1 (Q (rx c6_5) (Q (rx c6_7) (Q (rx c6_10) (Q (nE c6_0 (.seq c6_1 (.seq c6_3 (.seq c6_5 (.seq c6_7 (.seq (.seq c6_10 c6_11) c6_16)))))) (Q (nE c6_16 (.seq (.seq c6_18 c6_19) c6_24)) hA))))))))))))))))))))))))))))))))))))))))
theorem j6_36_t (now2 : Int) (h0_0 : Bs) (h0_1 h0_2 : Int) (h0_3_0 : Bool) (h0_3_1 : List (Bs × Bs)) (h0_4 : Int) (h0_5 : Bs) (h0_6 : Int) (h0_7_0 : Bool) (h0_7_1 : List (Bs × Bs)) (h0_8_0 : Bool) (h0_8_1 : List UInt8) (h1_0 h1_1 : Bool) (h1_2 h1_3 : Bool) (h1_4 h1_5 : Bool) (h1_6 h1_7 : Int) (h1_8 h1_9 : Int) (h2_0 h2_1 : Bool) (h2_2 h2_3 : Bool) (h2_4 h2_5 : Bool) (h2_6 h2_7 : Int) (h2_8 h2_9 : Int)  (sl : Sl) (_ : sl 2 = vd (dU now2)) (_ : sl 4 = .v (.c (.ptr 0 0))) (_ : sl 5 = .v (.c (.ptr 1 0))) (_ : sl 11 = .v (.c (.ptr 2 0))) :
    b6 mm (dn (E0 mm) 6 0 c6_36 sl [.cells [.d (dS h0_0), .d (dU h0_1), .d (dU h0_2), .d (.lst h0_3_0 (enL enSS h0_3_1)), .d (dI h0_4), .d (dS h0_5), .d (dI h0_6), .d (.lst h0_7_0 (enL enSS h0_7_1)), .d (.lst h0_8_0 (enL enB h0_8_1))], .cells [.d (dB h1_0), .d (dB h1_1), .d (dB h1_2), .d (dB h1_3), .d (dB h1_4), .d (dB h1_5), .d (dI h1_6), .d (dI h1_7), .d (dI h1_8), .d (dI h1_9)], .cells [.d (dB h2_0), .d (dB h2_1), .d (dB h2_2), .d (dB h2_3), .d (dB h2_4), .d (dB h2_5), .d (dI h2_6), .d (dI h2_7), .d (dI h2_8), .d (dI h2_9)]]) = (j6_36 now2 h0_0 h0_1 h0_2 h0_3_0 h0_3_1 h0_4 h0_5 h0_6 h0_7_0 h0_7_1 h0_8_0 h0_8_1 h1_0 h1_1 h1_2 h1_3 h1_4 h1_5 h1_6 h1_7 h1_8 h1_9 h2_0 h2_1 h2_2 h2_3 h2_4 h2_5 h2_6 h2_7 h2_8 h2_9).map e6 := by
  unfold j6_36; exact go (Q (nE c6_36 (.seq c6_37 (.seq c6_39 (.seq c6_41 (.seq c6_43 (.seq c6_45 (.seq c6_47 (.seq c6_49 (.seq c6_51 .ret))))))))) k6) trivial
def j6_24 (now2 : Int) (h0_0 : Bs) (h0_1 h0_2 : Int) (h0_3_0 : Bool) (h0_3_1 : List (Bs × Bs)) (h0_4 : Int) (h0_5 : Bs) (h0_6 : Int) (h0_7_0 : Bool) (h0_7_1 : List (Bs × Bs)) (h0_8_0 : Bool) (h0_8_1 : List UInt8) (h1_0 h1_1 : Bool) (h1_2 h1_3 : Bool) (h1_4 h1_5 : Bool) (h1_6 h1_7 : Int) (h1_8 h1_9 : Int) : Option R6 :=
  (m19 h0_0 h0_1 h0_2 h0_3_0 h0_3_1 h0_4 h0_5 h0_6 h0_7_0 h0_7_1 h0_8_0 h0_8_1 h1_0 true h1_2 h1_3 h1_4 h1_5 h1_6 h1_7 h1_8 h1_9 now2).bind fun yr12 =>
    if (yr12 == 2) = true then
      some false
    else
      j6_36 now2 h0_0 h0_1 h0_2 h0_3_0 h0_3_1 h0_4 h0_5 h0_6 h0_7_0 h0_7_1 h0_8_0 h0_8_1 h1_0 h1_1 h1_2 h1_3 h1_4 h1_5 h1_6 h1_7 h1_8 h1_9 h1_0 true h1_2 h1_3 h1_4 h1_5 h1_6 h1_7 h1_8 h1_9
theorem j6_24_t (now2 : Int) (h0_0 : Bs) (h0_1 h0_2 : Int) (h0_3_0 : Bool) (h0_3_1 : List (Bs × Bs)) (h0_4 : Int) (h0_5 : Bs) (h0_6 : Int) (h0_7_0 : Bool) (h0_7_1 : List (Bs × Bs)) (h0_8_0 : Bool) (h0_8_1 : List UInt8) (h1_0 h1_1 : Bool) (h1_2 h1_3 : Bool) (h1_4 h1_5 : Bool) (h1_6 h1_7 : Int) (h1_8 h1_9 : Int)  (sl : Sl) (_ : sl 2 = vd (dU now2)) (_ : sl 4 = .v (.c (.ptr 0 0))) (_ : sl 5 = .v (.c (.ptr 1 0))) :
    b6 mm (dn (E0 mm) 6 0 c6_24 sl [.cells [.d (dS h0_0), .d (dU h0_1), .d (dU h0_2), .d (.lst h0_3_0 (enL enSS h0_3_1)), .d (dI h0_4), .d (dS h0_5), .d (dI h0_6), .d (.lst h0_7_0 (enL enSS h0_7_1)), .d (.lst h0_8_0 (enL enB h0_8_1))], .cells [.d (dB h1_0), .d (dB h1_1), .d (dB h1_2), .d (dB h1_3), .d (dB h1_4), .d (dB h1_5), .d (dI h1_6), .d (dI h1_7), .d (dI h1_8), .d (dI h1_9)]]) = (j6_24 now2 h0_0 h0_1 h0_2 h0_3_0 h0_3_1 h0_4 h0_5 h0_6 h0_7_0 h0_7_1 h0_8_0 h0_8_1 h1_0 h1_1 h1_2 h1_3 h1_4 h1_5 h1_6 h1_7 h1_8 h1_9).map e6 := by
  unfold j6_24; exact go (Q (nE c6_24 (.seq c6_25 (.seq c6_27 (.seq (.seq c6_30 (.cond _ (.seq c6_33 .ret) .skip)) c6_36)))) k6) @j6_36_t
def j6_19 (now2 : Int) (t45 : Bool) (h0_0 : Bs) (h0_1 h0_2 : Int) (h0_3_0 : Bool) (h0_3_1 : List (Bs × Bs)) (h0_4 : Int) (h0_5 : Bs) (h0_6 : Int) (h0_7_0 : Bool) (h0_7_1 : List (Bs × Bs)) (h0_8_0 : Bool) (h0_8_1 : List UInt8) (h1_0 h1_1 : Bool) (h1_2 h1_3 : Bool) (h1_4 h1_5 : Bool) (h1_6 h1_7 : Int) (h1_8 h1_9 : Int) : Option R6 :=
  if t45 = true then
    some false
  else
    j6_24 now2 h0_0 h0_1 h0_2 h0_3_0 h0_3_1 h0_4 h0_5 h0_6 h0_7_0 h0_7_1 h0_8_0 h0_8_1 h1_0 h1_1 h1_2 h1_3 h1_4 h1_5 h1_6 h1_7 h1_8 h1_9
theorem j6_19_t (now2 : Int) (t45 : Bool) (h0_0 : Bs) (h0_1 h0_2 : Int) (h0_3_0 : Bool) (h0_3_1 : List (Bs × Bs)) (h0_4 : Int) (h0_5 : Bs) (h0_6 : Int) (h0_7_0 : Bool) (h0_7_1 : List (Bs × Bs)) (h0_8_0 : Bool) (h0_8_1 : List UInt8) (h1_0 h1_1 : Bool) (h1_2 h1_3 : Bool) (h1_4 h1_5 : Bool) (h1_6 h1_7 : Int) (h1_8 h1_9 : Int)  (sl : Sl) (_ : sl 2 = vd (dU now2)) (_ : sl 4 = .v (.c (.ptr 0 0))) (_ : sl 5 = .v (.c (.ptr 1 0))) (_ : sl 45 = vd (dB t45)) :
    b6 mm (sq (E0 mm) 6 0 c6_24 (dn (E0 mm) 6 0 c6_19 sl [.cells [.d (dS h0_0), .d (dU h0_1), .d (dU h0_2), .d (.lst h0_3_0 (enL enSS h0_3_1)), .d (dI h0_4), .d (dS h0_5), .d (dI h0_6), .d (.lst h0_7_0 (enL enSS h0_7_1)), .d (.lst h0_8_0 (enL enB h0_8_1))], .cells [.d (dB h1_0), .d (dB h1_1), .d (dB h1_2), .d (dB h1_3), .d (dB h1_4), .d (dB h1_5), .d (dI h1_6), .d (dI h1_7), .d (dI h1_8), .d (dI h1_9)]])) = (j6_19 now2 t45 h0_0 h0_1 h0_2 h0_3_0 h0_3_1 h0_4 h0_5 h0_6 h0_7_0 h0_7_1 h0_8_0 h0_8_1 h1_0 h1_1 h1_2 h1_3 h1_4 h1_5 h1_6 h1_7 h1_8 h1_9).map e6 := by
  unfold j6_19; exact go (Q (nE c6_19 (.cond _ (.seq c6_21 .ret) .skip)) k6) @j6_24_t
def j6_36v1 (now2 : Int) (h0_0 : Bs) (h0_1 h0_2 : Int) (h0_3_0 : Bool) (h0_3_1 : List (Bs × Bs)) (h0_4 : Int) (h0_5 : Bs) (h0_6 : Int) (h0_7_0 : Bool) (h0_7_1 : List (Bs × Bs)) (h0_8_0 : Bool) (h0_8_1 : List UInt8) (h1_0 h1_1 : Bool) (h1_2 h1_3 : Bool) (h1_4 h1_5 : Bool) (h1_6 h1_7 : Int) (h1_8 h1_9 : Int) (h3_0 h3_1 : Bool) (h3_2 h3_3 : Bool) (h3_4 h3_5 : Bool) (h3_6 h3_7 : Int) (h3_8 h3_9 : Int) : Option R6 :=
  (m19 h0_0 h0_1 h0_2 h0_3_0 h0_3_1 h0_4 h0_5 h0_6 h0_7_0 h0_7_1 h0_8_0 h0_8_1 h1_0 h1_1 h1_2 h1_3 h1_4 h1_5 h1_6 h1_7 h1_8 h1_9 now2).bind fun yr35 =>
    if (yr35 == 2) = true then
      some true
    else
      (m19 h0_0 h0_1 h0_2 h0_3_0 h0_3_1 h0_4 h0_5 h0_6 h0_7_0 h0_7_1 h0_8_0 h0_8_1 h1_0 h1_1 h1_2 h1_3 h1_4 h1_5 (0 : Int) h1_7 h1_8 h1_9 now2).bind fun yr38 =>
        if (yr38 == 2) = true then
          some false
        else
          (m19 h0_0 h0_1 h0_2 h0_3_0 h0_3_1 h0_4 h0_5 h0_6 h0_7_0 h0_7_1 h0_8_0 h0_8_1 h1_0 h1_1 h1_2 h1_3 h1_4 h1_5 h1_6 h1_7 h1_8 (-1 : Int) now2).bind fun yr41 =>
            if (yr41 == 2) = true then
              some false
            else
              (m19 h0_0 h0_1 h0_2 h0_3_0 h0_3_1 h0_4 h0_5 h0_6 h0_7_0 h0_7_1 h0_8_0 h0_8_1 h1_0 h1_1 h1_2 h1_3 h1_4 h1_5 h1_6 h1_7 (w64 ((max2 h1_8 0) + 1)) h1_9 now2).bind fun yr44 =>
                if (yr44 == 2) = true then
                  some false
                else
                  some true
theorem j6_36v1_t (now2 : Int) (h0_0 : Bs) (h0_1 h0_2 : Int) (h0_3_0 : Bool) (h0_3_1 : List (Bs × Bs)) (h0_4 : Int) (h0_5 : Bs) (h0_6 : Int) (h0_7_0 : Bool) (h0_7_1 : List (Bs × Bs)) (h0_8_0 : Bool) (h0_8_1 : List UInt8) (h1_0 h1_1 : Bool) (h1_2 h1_3 : Bool) (h1_4 h1_5 : Bool) (h1_6 h1_7 : Int) (h1_8 h1_9 : Int) (h3_0 h3_1 : Bool) (h3_2 h3_3 : Bool) (h3_4 h3_5 : Bool) (h3_6 h3_7 : Int) (h3_8 h3_9 : Int) (g2 : Ob) (sl : Sl) (_ : sl 2 = vd (dU now2)) (_ : sl 4 = .v (.c (.ptr 0 0))) (_ : sl 5 = .v (.c (.ptr 1 0))) (_ : sl 11 = .v (.c (.ptr 3 0))) :
    b6 mm (dn (E0 mm) 6 0 c6_36 sl [.cells [.d (dS h0_0), .d (dU h0_1), .d (dU h0_2), .d (.lst h0_3_0 (enL enSS h0_3_1)), .d (dI h0_4), .d (dS h0_5), .d (dI h0_6), .d (.lst h0_7_0 (enL enSS h0_7_1)), .d (.lst h0_8_0 (enL enB h0_8_1))], .cells [.d (dB h1_0), .d (dB h1_1), .d (dB h1_2), .d (dB h1_3), .d (dB h1_4), .d (dB h1_5), .d (dI h1_6), .d (dI h1_7), .d (dI h1_8), .d (dI h1_9)], g2, .cells [.d (dB h3_0), .d (dB h3_1), .d (dB h3_2), .d (dB h3_3), .d (dB h3_4), .d (dB h3_5), .d (dI h3_6), .d (dI h3_7), .d (dI h3_8), .d (dI h3_9)]]) = (j6_36v1 now2 h0_0 h0_1 h0_2 h0_3_0 h0_3_1 h0_4 h0_5 h0_6 h0_7_0 h0_7_1 h0_8_0 h0_8_1 h1_0 h1_1 h1_2 h1_3 h1_4 h1_5 h1_6 h1_7 h1_8 h1_9 h3_0 h3_1 h3_2 h3_3 h3_4 h3_5 h3_6 h3_7 h3_8 h3_9).map e6 := by
  unfold j6_36v1; exact go (Q (nE c6_36 (.seq c6_37 (.seq c6_39 (.seq c6_41 (.seq c6_43 (.seq c6_45 (.seq c6_47 (.seq c6_49 (.seq c6_51 .ret))))))))) k6) trivial
def j6_24v1 (now2 : Int) (h0_0 : Bs) (h0_1 h0_2 : Int) (h0_3_0 : Bool) (h0_3_1 : List (Bs × Bs)) (h0_4 : Int) (h0_5 : Bs) (h0_6 : Int) (h0_7_0 : Bool) (h0_7_1 : List (Bs × Bs)) (h0_8_0 : Bool) (h0_8_1 : List UInt8) (h1_0 h1_1 : Bool) (h1_2 h1_3 : Bool) (h1_4 h1_5 : Bool) (h1_6 h1_7 : Int) (h1_8 h1_9 : Int) : Option R6 :=
  (m19 h0_0 h0_1 h0_2 h0_3_0 h0_3_1 h0_4 h0_5 h0_6 h0_7_0 h0_7_1 h0_8_0 h0_8_1 h1_0 true h1_2 h1_3 h1_4 h1_5 h1_6 h1_7 h1_8 h1_9 now2).bind fun yr32 =>
    if (yr32 == 2) = true then
      some false
    else
      j6_36v1 now2 h0_0 h0_1 h0_2 h0_3_0 h0_3_1 h0_4 h0_5 h0_6 h0_7_0 h0_7_1 h0_8_0 h0_8_1 h1_0 h1_1 h1_2 h1_3 h1_4 h1_5 h1_6 h1_7 h1_8 h1_9 h1_0 true h1_2 h1_3 h1_4 h1_5 h1_6 h1_7 h1_8 h1_9
theorem j6_24v1_t (now2 : Int) (h0_0 : Bs) (h0_1 h0_2 : Int) (h0_3_0 : Bool) (h0_3_1 : List (Bs × Bs)) (h0_4 : Int) (h0_5 : Bs) (h0_6 : Int) (h0_7_0 : Bool) (h0_7_1 : List (Bs × Bs)) (h0_8_0 : Bool) (h0_8_1 : List UInt8) (h1_0 h1_1 : Bool) (h1_2 h1_3 : Bool) (h1_4 h1_5 : Bool) (h1_6 h1_7 : Int) (h1_8 h1_9 : Int) (g2 : Ob) (sl : Sl) (_ : sl 2 = vd (dU now2)) (_ : sl 4 = .v (.c (.ptr 0 0))) (_ : sl 5 = .v (.c (.ptr 1 0))) :
    b6 mm (dn (E0 mm) 6 0 c6_24 sl [.cells [.d (dS h0_0), .d (dU h0_1), .d (dU h0_2), .d (.lst h0_3_0 (enL enSS h0_3_1)), .d (dI h0_4), .d (dS h0_5), .d (dI h0_6), .d (.lst h0_7_0 (enL enSS h0_7_1)), .d (.lst h0_8_0 (enL enB h0_8_1))], .cells [.d (dB h1_0), .d (dB h1_1), .d (dB h1_2), .d (dB h1_3), .d (dB h1_4), .d (dB h1_5), .d (dI h1_6), .d (dI h1_7), .d (dI h1_8), .d (dI h1_9)], g2]) = (j6_24v1 now2 h0_0 h0_1 h0_2 h0_3_0 h0_3_1 h0_4 h0_5 h0_6 h0_7_0 h0_7_1 h0_8_0 h0_8_1 h1_0 h1_1 h1_2 h1_3 h1_4 h1_5 h1_6 h1_7 h1_8 h1_9).map e6 := by
  unfold j6_24v1; exact go (Q (nE c6_24 (.seq c6_25 (.seq c6_27 (.seq (.seq c6_30 (.cond _ (.seq c6_33 .ret) .skip)) c6_36)))) k6) @j6_36v1_t
def j6_19v1 (now2 : Int) (t45 : Bool) (h0_0 : Bs) (h0_1 h0_2 : Int) (h0_3_0 : Bool) (h0_3_1 : List (Bs × Bs)) (h0_4 : Int) (h0_5 : Bs) (h0_6 : Int) (h0_7_0 : Bool) (h0_7_1 : List (Bs × Bs)) (h0_8_0 : Bool) (h0_8_1 : List UInt8) (h1_0 h1_1 : Bool) (h1_2 h1_3 : Bool) (h1_4 h1_5 : Bool) (h1_6 h1_7 : Int) (h1_8 h1_9 : Int) : Option R6 :=
  if t45 = true then
    some false
  else
    j6_24v1 now2 h0_0 h0_1 h0_2 h0_3_0 h0_3_1 h0_4 h0_5 h0_6 h0_7_0 h0_7_1 h0_8_0 h0_8_1 h1_0 h1_1 h1_2 h1_3 h1_4 h1_5 h1_6 h1_7 h1_8 h1_9
theorem j6_19v1_t (now2 : Int) (t45 : Bool) (h0_0 : Bs) (h0_1 h0_2 : Int) (h0_3_0 : Bool) (h0_3_1 : List (Bs × Bs)) (h0_4 : Int) (h0_5 : Bs) (h0_6 : Int) (h0_7_0 : Bool) (h0_7_1 : List (Bs × Bs)) (h0_8_0 : Bool) (h0_8_1 : List UInt8) (h1_0 h1_1 : Bool) (h1_2 h1_3 : Bool) (h1_4 h1_5 : Bool) (h1_6 h1_7 : Int) (h1_8 h1_9 : Int) (g2 : Ob) (sl : Sl) (_ : sl 2 = vd (dU now2)) (_ : sl 4 = .v (.c (.ptr 0 0))) (_ : sl 5 = .v (.c (.ptr 1 0))) (_ : sl 45 = vd (dB t45)) :
    b6 mm (sq (E0 mm) 6 0 c6_24 (dn (E0 mm) 6 0 c6_19 sl [.cells [.d (dS h0_0), .d (dU h0_1), .d (dU h0_2), .d (.lst h0_3_0 (enL enSS h0_3_1)), .d (dI h0_4), .d (dS h0_5), .d (dI h0_6), .d (.lst h0_7_0 (enL enSS h0_7_1)), .d (.lst h0_8_0 (enL enB h0_8_1))], .cells [.d (dB h1_0), .d (dB h1_1), .d (dB h1_2), .d (dB h1_3), .d (dB h1_4), .d (dB h1_5), .d (dI h1_6), .d (dI h1_7), .d (dI h1_8), .d (dI h1_9)], g2])) = (j6_19v1 now2 t45 h0_0 h0_1 h0_2 h0_3_0 h0_3_1 h0_4 h0_5 h0_6 h0_7_0 h0_7_1 h0_8_0 h0_8_1 h1_0 h1_1 h1_2 h1_3 h1_4 h1_5 h1_6 h1_7 h1_8 h1_9).map e6 := by
  unfold j6_19v1; exact go (Q (nE c6_19 (.cond _ (.seq c6_21 .ret) .skip)) k6) @j6_24v1_t
def j6_11 (now2 a9 : Int) (t34 : Bool) (h0_0 : Bs) (h0_1 h0_2 : Int) (h0_3_0 : Bool) (h0_3_1 : List (Bs × Bs)) (h0_4 : Int) (h0_5 : Bs) (h0_6 : Int) (h0_7_0 : Bool) (h0_7_1 : List (Bs × Bs)) (h0_8_0 : Bool) (h0_8_1 : List UInt8) (h1_0 h1_1 : Bool) (h1_2 h1_3 : Bool) (h1_4 h1_5 : Bool) (h1_6 h1_7 : Int) (h1_8 h1_9 : Int) : Option R6 :=
  if t34 = true then
    some false
  else
    if (a9 == 2) = true then
      j6_19 now2 (a9 == 1) h0_0 h0_1 h0_2 h0_3_0 h0_3_1 h0_4 h0_5 h0_6 h0_7_0 h0_7_1 h0_8_0 h0_8_1 h1_0 h1_1 h1_2 h1_3 h1_4 h1_5 h1_6 h1_7 h1_8 h1_9
    else
      (m15 h0_0 h0_1 h0_2 h0_3_0 h0_3_1 h0_4 h0_5 h0_6 h0_7_0 h0_7_1 h0_8_0 h0_8_1).bind fun yr27 =>
        match yr27 with
        | .inl yr28 =>
          j6_19v1 now2 (!((a9 == 1) == (decide (0 < (yr28.2.length : Int))))) h0_0 h0_1 h0_2 h0_3_0 h0_3_1 h0_4 h0_5 h0_6 h0_7_0 h0_7_1 h0_8_0 h0_8_1 h1_0 h1_1 h1_2 h1_3 h1_4 h1_5 h1_6 h1_7 h1_8 h1_9
        | .inr yr29 =>
          j6_19 now2 (!((a9 == 1) == (decide (0 < (yr29.2.length : Int))))) h0_0 h0_1 h0_2 h0_3_0 h0_3_1 h0_4 h0_5 h0_6 h0_7_0 h0_7_1 h0_8_0 h0_8_1 h1_0 h1_1 h1_2 h1_3 h1_4 h1_5 h1_6 h1_7 h1_8 h1_9
theorem j6_11_t (now2 a9 : Int) (t34 : Bool) (h0_0 : Bs) (h0_1 h0_2 : Int) (h0_3_0 : Bool) (h0_3_1 : List (Bs × Bs)) (h0_4 : Int) (h0_5 : Bs) (h0_6 : Int) (h0_7_0 : Bool) (h0_7_1 : List (Bs × Bs)) (h0_8_0 : Bool) (h0_8_1 : List UInt8) (h1_0 h1_1 : Bool) (h1_2 h1_3 : Bool) (h1_4 h1_5 : Bool) (h1_6 h1_7 : Int) (h1_8 h1_9 : Int)  (sl : Sl) (_ : sl 2 = vd (dU now2)) (_ : sl 4 = .v (.c (.ptr 0 0))) (_ : sl 5 = .v (.c (.ptr 1 0))) (_ : sl 9 = vd (dI a9)) (_ : sl 34 = vd (dB t34)) :
    b6 mm (sq (E0 mm) 6 0 c6_16 (dn (E0 mm) 6 0 c6_11 sl [.cells [.d (dS h0_0), .d (dU h0_1), .d (dU h0_2), .d (.lst h0_3_0 (enL enSS h0_3_1)), .d (dI h0_4), .d (dS h0_5), .d (dI h0_6), .d (.lst h0_7_0 (enL enSS h0_7_1)), .d (.lst h0_8_0 (enL enB h0_8_1))], .cells [.d (dB h1_0), .d (dB h1_1), .d (dB h1_2), .d (dB h1_3), .d (dB h1_4), .d (dB h1_5), .d (dI h1_6), .d (dI h1_7), .d (dI h1_8), .d (dI h1_9)]])) = (j6_11 now2 a9 t34 h0_0 h0_1 h0_2 h0_3_0 h0_3_1 h0_4 h0_5 h0_6 h0_7_0 h0_7_1 h0_8_0 h0_8_1 h1_0 h1_1 h1_2 h1_3 h1_4 h1_5 h1_6 h1_7 h1_8 h1_9).map e6 := by
  unfold j6_11; exact go (Q (nE c6_11 (.cond _ (.seq c6_13 .ret) .skip)) k6) (Q @j6_19_t @j6_19v1_t)
def m6 (e0_0 : Bs) (e0_1 e0_2 : Int) (e0_3 : Bool) (e0_4 : List (Bs × Bs)) (e0_5 : Int) (e0_6 : Bs) (e0_7 : Int) (e0_8 : Bool) (e0_9 : List (Bs × Bs)) (e0_10 : Bool) (e0_11 : List UInt8) (c_0 c_1 : Bool) (c_2 c_3 : Bool) (c_4 c_5 : Bool) (c_6 c_7 : Int) (c_8 c_9 : Int) (now later : Int) : Option R6 :=
  (m18 c_0 c_1 c_2 c_3 c_4 c_5 c_6 c_7 c_8 c_9).bind fun yr2 =>
    (m19 e0_0 e0_1 e0_2 e0_3 e0_4 e0_5 e0_6 e0_7 e0_8 e0_9 e0_10 e0_11 yr2.1 yr2.2.1 yr2.2.2.1 yr2.2.2.2.1 yr2.2.2.2.2.1 yr2.2.2.2.2.2.1 yr2.2.2.2.2.2.2.1 yr2.2.2.2.2.2.2.2.1 yr2.2.2.2.2.2.2.2.2.1 yr2.2.2.2.2.2.2.2.2.2 (min2 now later)).bind fun yr4 =>
      (m19 e0_0 e0_1 e0_2 e0_3 e0_4 e0_5 e0_6 e0_7 e0_8 e0_9 e0_10 e0_11 yr2.1 yr2.2.1 yr2.2.2.1 yr2.2.2.2.1 yr2.2.2.2.2.1 yr2.2.2.2.2.2.1 yr2.2.2.2.2.2.2.1 yr2.2.2.2.2.2.2.2.1 yr2.2.2.2.2.2.2.2.2.1 yr2.2.2.2.2.2.2.2.2.2 (max2 now later)).bind fun yr6 =>
        if (yr6 == 2) = true then
          j6_11 now yr4 (!(yr4 == 2)) e0_0 e0_1 e0_2 e0_3 e0_4 e0_5 e0_6 e0_7 e0_8 e0_9 e0_10 e0_11 yr2.1 yr2.2.1 yr2.2.2.1 yr2.2.2.2.1 yr2.2.2.2.2.1 yr2.2.2.2.2.2.1 yr2.2.2.2.2.2.2.1 yr2.2.2.2.2.2.2.2.1 yr2.2.2.2.2.2.2.2.2.1 yr2.2.2.2.2.2.2.2.2.2
        else
          j6_11 now yr4 false e0_0 e0_1 e0_2 e0_3 e0_4 e0_5 e0_6 e0_7 e0_8 e0_9 e0_10 e0_11 yr2.1 yr2.2.1 yr2.2.2.1 yr2.2.2.2.1 yr2.2.2.2.2.1 yr2.2.2.2.2.2.1 yr2.2.2.2.2.2.2.1 yr2.2.2.2.2.2.2.2.1 yr2.2.2.2.2.2.2.2.2.1 yr2.2.2.2.2.2.2.2.2.2
theorem f6_t (e0_0 : Bs) (e0_1 e0_2 : Int) (e0_3 : Bool) (e0_4 : List (Bs × Bs)) (e0_5 : Int) (e0_6 : Bs) (e0_7 : Int) (e0_8 : Bool) (e0_9 : List (Bs × Bs)) (e0_10 : Bool) (e0_11 : List UInt8) (c_0 c_1 : Bool) (c_2 c_3 : Bool) (c_4 c_5 : Bool) (c_6 c_7 : Int) (c_8 c_9 : Int) (now later : Int) :
    callW (E0 mm) 6 [.agg [.d (dS e0_0), .d (dU e0_1), .d (dU e0_2), .d (.lst e0_3 (enL enSS e0_4)), .d (dI e0_5), .d (dS e0_6), .d (dI e0_7), .d (.lst e0_8 (enL enSS e0_9)), .d (.lst e0_10 (enL enB e0_11))], .agg [.d (dB c_0), .d (dB c_1), .d (dB c_2), .d (dB c_3), .d (dB c_4), .d (dB c_5), .d (dI c_6), .d (dI c_7), .d (dI c_8), .d (dI c_9)], cd (dU now), cd (dU later)] [] = (m6 e0_0 e0_1 e0_2 e0_3 e0_4 e0_5 e0_6 e0_7 e0_8 e0_9 e0_10 e0_11 c_0 c_1 c_2 c_3 c_4 c_5 c_6 c_7 c_8 c_9 now later).map e6 := by
  rw [cR c6_0 [.tmp 8] Tryz.func6]
  unfold m6; exact go k6 @j6_11_t
end
end Go.Proofs.YtbkobjepahlegaaGreatDoor
