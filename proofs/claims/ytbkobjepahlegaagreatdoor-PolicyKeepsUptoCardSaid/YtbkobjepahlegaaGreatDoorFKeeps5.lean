/- The Go functions as plain functions, and that the evaluator computes them. -/
import Derived.Test.YtbkobjepahlegaaGreatDoorFKeeps4
set_option linter.all false
set_option maxRecDepth 100000
namespace Go.Proofs.YtbkobjepahlegaaGreatDoor
open Go Go.Ab
open Nat renaming reduceEqDiff → za, reduceAdd → zb, reduceLeDiff → zc, reduceLT → zd, reduceMul → ze, reduceBEq → zf, reduceSub → zg, reducePow → zh
open Int renaming reduceEq → zi, reduceLE → zj, reduceLT → zk, reduceToNat → zl, reduceNegSucc → zm, reduceAdd → zn, reduceBEq → zo
open String renaming reduceBEq → zp
set_option maxHeartbeats 4000000
noncomputable section
variable {mm : Int}
noncomputable def c5_0 : Code := bodyOf Tryz.f5
def c5_1 := cA c5_0
def c5_3 := cA (cB c5_0)
def c5_5 := cA (cB (cB c5_0))
def c5_7 := cA (cB (cB (cB c5_0)))
def c5_9 := cA (cB (cB (cB (cB c5_0))))
def c5_11 := cA (cB (cB (cB (cB (cB c5_0)))))
def c5_13 := cA (cB (cB (cB (cB (cB (cB c5_0))))))
def c5_15 := cA (cB (cB (cB (cB (cB (cB (cB c5_0)))))))
def c5_17 := cA (cB (cB (cB (cB (cB (cB (cB (cB c5_0))))))))
def c5_20 := cA (cA (cB (cB (cB (cB (cB (cB (cB (cB (cB c5_0))))))))))
def c5_21 := cB (cA (cB (cB (cB (cB (cB (cB (cB (cB (cB c5_0))))))))))
def c5_23 := cA (cA c5_21)
def c5_26 := cB (cB (cB (cB (cB (cB (cB (cB (cB (cB c5_0)))))))))
def c5_27 := cA c5_26
def c5_29 := cA (cB c5_26)
def c5_31 := cA (cB (cB c5_26))
def c5_33 := cA (cB (cB (cB c5_26)))
def c5_35 := cA (cB (cB (cB (cB c5_26))))
def c5_37 := cA (cB (cB (cB (cB (cB c5_26)))))
def c5_39 := cA (cB (cB (cB (cB (cB (cB c5_26))))))
def c5_41 := cA (cB (cB (cB (cB (cB (cB (cB c5_26)))))))
def c5_44 := cA (cA (cB (cB (cB (cB (cB (cB (cB (cB c5_26)))))))))
def c5_45 := cB (cA (cB (cB (cB (cB (cB (cB (cB (cB c5_26)))))))))
def c5_47 := cA (cA c5_45)
def c5_50 := cB (cB (cB (cB (cB (cB (cB (cB (cB c5_26))))))))
def c5_52 := cA (cA c5_50)
def c5_55 := cA (cA (cB (cA c5_50)))
def c5_59 := cA (cB c5_50)
def c5_61 := cA (cB (cB c5_50))
def c5_63 := cA (cB (cB (cB c5_50)))
def c5_66 := cA (cA (cB (cB (cB (cB c5_50)))))
def c5_67 := cB (cA (cB (cB (cB (cB c5_50)))))
def c5_69 := cA (cA c5_67)
def c5_72 := cB (cB (cB (cB (cB c5_50))))
def c5_73 := cA c5_72
def c5_76 := cA (cA (cB c5_72))
def c5_78 := cA (cB (cA (cB c5_72)))
def c5_79 := cA c5_78
def c5_81 := cA (cA c5_79)
def c5_88 := cA (cA (cA (cB c5_79)))
def c5_91 := cA (cA (cB (cA (cA (cB c5_79)))))
def c5_94 := cB (cB c5_79)
def c5_95 := cB (cB c5_72)
def c5_96 := cA c5_95
def c5_98 := cA (cB c5_95)
def c5_100 := cA (cB (cB c5_95))
theorem c5_98_r (m : Nat) (st : St) : den (E0 mm) 5 m (callW (E0 mm)) itW c5_98 none st = regD ((runF (E0 mm) (callW (E0 mm)) (opsOf c5_98) (opsOf c5_98) [none, none, some false, none, some true, none, none, none, none, none] st []).bind (ckF [(4, 2)])) := den_dF (by kernel_rfl)
theorem c5_100_r (m : Nat) (st : St) : den (E0 mm) 5 m (callW (E0 mm)) itW c5_100 none st = regD ((runF (E0 mm) (callW (E0 mm)) (opsOf c5_100) (opsOf c5_100) [none, none, some false, none, some true, none, none, none, none, none, none, none, none, none, none, none, none, none, none] st []).bind (ckF [(4, 2)])) := den_dF (by kernel_rfl)
def L5_0 : List (Nat × Co) := [(3, .keep), (4, .keep), (5, .keep), (15, .keep), (20, .keep), (21, .keep)]
abbrev b5 (mm : Int) := bodyD (E0 mm) [.tmp 6] 0 false
abbrev R5 := (Bool)
def e5 (x : R5) : AV × Heap := (vd (dB x), [])
def j5_95 (h0_0 h0_1 : Bs) (h0_2 : Int) (h0_3_0 : Bool) (h0_3_1 : List (Bs × Bs)) (h0_4_0 : Bool) (h0_4_1 : List UInt8) (h1_0 : Int) (h1_1 : Bs) (h1_2 : Int) (h1_3_0 : Bool) (h1_3_1 : List (Bs × Bs)) (h1_4_0 : Bool) (h1_4_1 : List UInt8) (h2_0 h2_1 : Bs) (h3_0 h3_1 : Bool) (h3_2 h3_3 : Bool) (h3_4 h3_5 : Bool) (h3_6 h3_7 : Int) (h3_8 h3_9 : Int) : Option R5 :=
  if h0_3_1.isEmpty = true then
    (m12 h0_0 h0_1 h0_2 false ([(([65, 117, 116, 104, 111, 114, 105, 122, 97, 116, 105, 111, 110] : Bs), h2_1)] : List (Bs × Bs)) h0_4_0 h0_4_1 h1_0 h1_1 h1_2 h1_3_0 h1_3_1 h1_4_0 h1_4_1).bind fun yr33 =>
      if h3_3 = true then
        if yr33 = true then
          some true
        else
          some false
      else
        if h3_4 = true then
          if yr33 = true then
            some true
          else
            some false
        else
          if (yr33 == (decide (0 ≤ h3_7))) = true then
            some true
          else
            some false
  else
    if h0_3_1.length * 32 ≤ 140737488355328 then
      if (h0_3_1.length + 1) * 32 ≤ 140737488355328 then
        (m12 h0_0 h0_1 h0_2 false (h0_3_1 ++ ([(([65, 117, 116, 104, 111, 114, 105, 122, 97, 116, 105, 111, 110] : Bs), h2_1)] : List (Bs × Bs))) h0_4_0 h0_4_1 h1_0 h1_1 h1_2 h1_3_0 h1_3_1 h1_4_0 h1_4_1).bind fun yr42 =>
          if h3_3 = true then
            if yr42 = true then
              some true
            else
              some false
          else
            if h3_4 = true then
              if yr42 = true then
                some true
              else
                some false
            else
              if (yr42 == (decide (0 ≤ h3_7))) = true then
                some true
              else
                some false
      else none
    else none
def K5_78 (mm : Int) (r : Option (Ex × St)) : Option (AV × Heap) := b5 mm (sq (E0 mm) 5 0 c5_95 (blockD 0 (r)))
def en5_78 (x : (Bool × List Bs × Int × Bs × Bs × Int × Bool × List (Bs × Bs) × Bool × List UInt8 × Int × Bs × Int × Bool × List (Bs × Bs) × Bool × List UInt8 × Bs × Bs × Bool × Bool × Bool × Bool × Bool × Bool × Int × Int × Int × Int)) : X := (none, [.v (.c (.ptr 0 0)), .v (.c (.ptr 1 0)), .v (.c (.ptr 2 0)), .v (.c (.ptr 3 0)), .v (.c (.own x.1 (enL enS x.2.1) 4)), vd (dI x.2.2.1)], [.cells [.d (dS x.2.2.2.1), .d (dS x.2.2.2.2.1), .d (dI x.2.2.2.2.2.1), .d (.lst x.2.2.2.2.2.2.1 (enL enSS x.2.2.2.2.2.2.2.1)), .d (.lst x.2.2.2.2.2.2.2.2.1 (enL enB x.2.2.2.2.2.2.2.2.2.1))], .cells [.d (dI x.2.2.2.2.2.2.2.2.2.2.1), .d (dS x.2.2.2.2.2.2.2.2.2.2.2.1), .d (dI x.2.2.2.2.2.2.2.2.2.2.2.2.1), .d (.lst x.2.2.2.2.2.2.2.2.2.2.2.2.2.1 (enL enSS x.2.2.2.2.2.2.2.2.2.2.2.2.2.2.1)), .d (.lst x.2.2.2.2.2.2.2.2.2.2.2.2.2.2.2.1 (enL enB x.2.2.2.2.2.2.2.2.2.2.2.2.2.2.2.2.1))], .cells [.d (dS x.2.2.2.2.2.2.2.2.2.2.2.2.2.2.2.2.2.1), .d (dS x.2.2.2.2.2.2.2.2.2.2.2.2.2.2.2.2.2.2.1)], .cells [.d (dB x.2.2.2.2.2.2.2.2.2.2.2.2.2.2.2.2.2.2.2.1), .d (dB x.2.2.2.2.2.2.2.2.2.2.2.2.2.2.2.2.2.2.2.2.1), .d (dB x.2.2.2.2.2.2.2.2.2.2.2.2.2.2.2.2.2.2.2.2.2.1), .d (dB x.2.2.2.2.2.2.2.2.2.2.2.2.2.2.2.2.2.2.2.2.2.2.1), .d (dB x.2.2.2.2.2.2.2.2.2.2.2.2.2.2.2.2.2.2.2.2.2.2.2.1), .d (dB x.2.2.2.2.2.2.2.2.2.2.2.2.2.2.2.2.2.2.2.2.2.2.2.2.1), .d (dI x.2.2.2.2.2.2.2.2.2.2.2.2.2.2.2.2.2.2.2.2.2.2.2.2.2.1), .d (dI x.2.2.2.2.2.2.2.2.2.2.2.2.2.2.2.2.2.2.2.2.2.2.2.2.2.2.1), .d (dI x.2.2.2.2.2.2.2.2.2.2.2.2.2.2.2.2.2.2.2.2.2.2.2.2.2.2.2.1), .d (dI x.2.2.2.2.2.2.2.2.2.2.2.2.2.2.2.2.2.2.2.2.2.2.2.2.2.2.2.2)], .row x.2.1.length (rz x.1 1)])
def k5 := Q (rx c5_96) (Q @zc25 (Q @ao196 (Q @c5_98_r (Q (show opsOf c5_98 = _ :: _ from rfl) (Q @hd197 (Q (show List.range 6 = [0, 1, 2, 3, 4, 5] from rfl) (Q setF (Q @nv198 (Q @rw199 (Q @c5_100_r (Q (show opsOf c5_100 = _ :: _ from rfl) (Q @ent12 (Q @prm12 (Q (fun (mm : Int) (h0_0 : Bs) (h0_1 : Bs) (h0_2 : Int) (h2_1 : Bs) (h0_4_0 : Bool) (h0_4_1 : List UInt8) (h1_0 : Int) (h1_1 : Bs) (h1_2 : Int) (h1_3_0 : Bool) (h1_3_1 : List (Bs × Bs)) (h1_4_0 : Bool) (h1_4_1 : List UInt8) => (show callW (E0 mm) 12 [.agg [.d (dS h0_0), .d (dS h0_1), .d (dI h0_2), .d (.lst false (enL enSS ([(([65, 117, 116, 104, 111, 114, 105, 122, 97, 116, 105, 111, 110] : Bs), h2_1)] : List (Bs × Bs)))), .d (.lst h0_4_0 (enL enB h0_4_1))], .agg [.d (dI h1_0), .d (dS h1_1), .d (dI h1_2), .d (.lst h1_3_0 (enL enSS h1_3_1)), .d (.lst h1_4_0 (enL enB h1_4_1))]] [] = _ from f12_t h0_0 h0_1 h0_2 false ([(([65, 117, 116, 104, 111, 114, 105, 122, 97, 116, 105, 111, 110] : Bs), h2_1)] : List (Bs × Bs)) h0_4_0 h0_4_1 h1_0 h1_1 h1_2 h1_3_0 h1_3_1 h1_4_0 h1_4_1)) (Q @f12_t (Q (show List.range 7 = [0, 1, 2, 3, 4, 5, 6] from rfl) (Q @e12.eq_1 (Q @Tryz.underlying4 (Q @ent17 (Q @prm17 (Q @f17_t (Q (fun (mm : Int) (h0_0 : Bs) (h0_1 : Bs) (h0_2 : Int) (h0_3_1 : List (Bs × Bs)) (h2_1 : Bs) (h0_4_0 : Bool) (h0_4_1 : List UInt8) (h1_0 : Int) (h1_1 : Bs) (h1_2 : Int) (h1_3_0 : Bool) (h1_3_1 : List (Bs × Bs)) (h1_4_0 : Bool) (h1_4_1 : List UInt8) => (show callW (E0 mm) 12 [.agg [.d (dS h0_0), .d (dS h0_1), .d (dI h0_2), .d (.lst false (enL enSS (h0_3_1 ++ ([(([65, 117, 116, 104, 111, 114, 105, 122, 97, 116, 105, 111, 110] : Bs), h2_1)] : List (Bs × Bs))))), .d (.lst h0_4_0 (enL enB h0_4_1))], .agg [.d (dI h1_0), .d (dS h1_1), .d (dI h1_2), .d (.lst h1_3_0 (enL enSS h1_3_1)), .d (.lst h1_4_0 (enL enB h1_4_1))]] [] = _ from f12_t h0_0 h0_1 h0_2 false (h0_3_1 ++ ([(([65, 117, 116, 104, 111, 114, 105, 122, 97, 116, 105, 111, 110] : Bs), h2_1)] : List (Bs × Bs))) h0_4_0 h0_4_1 h1_0 h1_1 h1_2 h1_3_0 h1_3_1 h1_4_0 h1_4_1)) (Q (rx c5_81) (Q (show List.range 5 = [0, 1, 2, 3, 4] from rfl) (Q (rx c5_88) (Q @f27_t (Q @e27.eq_1 (Q (rx c5_91) (Q @K5_78.eq_1 (Q (rx c5_94) (Q (rx c5_73) (Q (fun (mm : Int) (h1_3_0 : Bool) (h1_3_1 : List (Bs × Bs)) => (show callW (E0 mm) 26 [cd (.lst h1_3_0 (enL enSS h1_3_1)), cd (dS ([99, 111, 110, 110, 101, 99, 116, 105, 111, 110] : Bs))] [] = _ from f26_t h1_3_0 h1_3_1 ([99, 111, 110, 110, 101, 99, 116, 105, 111, 110] : Bs))) (Q @f26_t (Q (show List.range 20 = [0, 1, 2, 3, 4, 5, 6, 7, 8, 9, 10, 11, 12, 13, 14, 15, 16, 17, 18, 19] from rfl) (Q @e26.eq_1 (Q (rx c5_76) (Q (fun mm => lx (E0 mm) 5 c5_78 c5_79 L5_0) (Q (show List.range 21 = [0, 1, 2, 3, 4, 5, 6, 7, 8, 9, 10, 11, 12, 13, 14, 15, 16, 17, 18, 19, 20] from rfl) (Q (rx c5_69) (Q (show List.range 22 = [0, 1, 2, 3, 4, 5, 6, 7, 8, 9, 10, 11, 12, 13, 14, 15, 16, 17, 18, 19, 20, 21] from rfl) (Q (show List.range 18 = [0, 1, 2, 3, 4, 5, 6, 7, 8, 9, 10, 11, 12, 13, 14, 15, 16, 17] from rfl) (Q (rx c5_47) (Q (rx c5_52) (Q (rx c5_59) (Q @f23_t (Q @e23.eq_1 (Q @ao195 (Q (rx c5_61) (Q @f24_t (Q (show List.range 19 = [0, 1, 2, 3, 4, 5, 6, 7, 8, 9, 10, 11, 12, 13, 14, 15, 16, 17, 18] from rfl) (Q @e24.eq_1 (Q (rx c5_63) (Q @f25_t (Q @e25.eq_1 (Q (rx c5_66) (Q (fun (mm : Int) (h1_0 : Int) (h1_1 : Bs) (h1_2 : Int) (h1_3_0 : Bool) (h1_3_1 : List (Bs × Bs)) (h1_4_0 : Bool) (h1_4_1 : List UInt8) => (show callW (E0 mm) 15 [.agg [.d (dS ([] : Bs)), .d (dU 0), .d (dU 0), .d (.lst true []), .d (dI h1_0), .d (dS h1_1), .d (dI h1_2), .d (.lst h1_3_0 (enL enSS h1_3_1)), .d (.lst h1_4_0 (enL enB h1_4_1))]] [] = _ from f15_t ([] : Bs) (0 : Int) (0 : Int) true ([] : List (Bs × Bs)) h1_0 h1_1 h1_2 h1_3_0 h1_3_1 h1_4_0 h1_4_1)) (Q @f15_t (Q @e15.eq_1 (Q @e15.eq_2 (Q (rx c5_55) (Q (show List.range 11 = [0, 1, 2, 3, 4, 5, 6, 7, 8, 9, 10] from rfl) (Q (rx c5_23) (Q (rx c5_27) (Q @ao179 (Q (rx c5_29) (Q @hd180 (Q (show List.range 12 = [0, 1, 2, 3, 4, 5, 6, 7, 8, 9, 10, 11] from rfl) (Q @nv181 (Q @rw182 (Q (rx c5_31) (Q @ao183 (Q (rx c5_33) (Q @hd184 (Q @nv185 (Q @rw186 (Q (rx c5_35) (Q @ao187 (Q (rx c5_37) (Q @hd188 (Q @nv189 (Q @rw190 (Q (rx c5_39) (Q @ao191 (Q (rx c5_41) (Q @hd192 (Q @nv193 (Q @rw194 (Q @mkNw_t (Q @iu5 (Q @nwOk_B (Q (rx c5_44) (Q (fun (mm : Int) (h0_0 : Bs) (h0_1 : Bs) (h0_2 : Int) (h0_4_0 : Bool) (h0_4_1 : List UInt8) (h1_0 : Int) (h1_1 : Bs) (h1_2 : Int) (h1_3_0 : Bool) (h1_3_1 : List (Bs × Bs)) (h1_4_0 : Bool) (h1_4_1 : List UInt8) => (show callW (E0 mm) 12 [.agg [.d (dS h0_0), .d (dS h0_1), .d (dI h0_2), .d (.lst false (enL enSS ([(([82, 65, 78, 71, 69] : Bs), ([98, 121, 116, 101, 115, 61, 48, 45] : Bs))] : List (Bs × Bs)))), .d (.lst h0_4_0 (enL enB h0_4_1))], .agg [.d (dI h1_0), .d (dS h1_1), .d (dI h1_2), .d (.lst h1_3_0 (enL enSS h1_3_1)), .d (.lst h1_4_0 (enL enB h1_4_1))]] [] = _ from f12_t h0_0 h0_1 h0_2 false ([(([82, 65, 78, 71, 69] : Bs), ([98, 121, 116, 101, 115, 61, 48, 45] : Bs))] : List (Bs × Bs)) h0_4_0 h0_4_1 h1_0 h1_1 h1_2 h1_3_0 h1_3_1 h1_4_0 h1_4_1)) (Q (fun (mm : Int) (h0_0 : Bs) (h0_1 : Bs) (h0_2 : Int) (h0_4_0 : Bool) (h0_4_1 : List UInt8) (h1_0 : Int) (h1_1 : Bs) (h1_2 : Int) (h1_3_0 : Bool) (h1_3_1 : List (Bs × Bs)) (h1_4_0 : Bool) (h1_4_1 : List UInt8) => (show callW (E0 mm) 12 [.agg [.d (dS h0_0), .d (dS h0_1), .d (dI h0_2), .d (.lst false (enL enSS ([(([73, 102, 45, 78, 111, 110, 101, 45, 77, 97, 116, 99, 104] : Bs), ([42] : Bs))] : List (Bs × Bs)))), .d (.lst h0_4_0 (enL enB h0_4_1))], .agg [.d (dI h1_0), .d (dS h1_1), .d (dI h1_2), .d (.lst h1_3_0 (enL enSS h1_3_1)), .d (.lst h1_4_0 (enL enB h1_4_1))]] [] = _ from f12_t h0_0 h0_1 h0_2 false ([(([73, 102, 45, 78, 111, 110, 101, 45, 77, 97, 116, 99, 104] : Bs), ([42] : Bs))] : List (Bs × Bs)) h0_4_0 h0_4_1 h1_0 h1_1 h1_2 h1_3_0 h1_3_1 h1_4_0 h1_4_1)) (Q (fun (mm : Int) (h0_0 : Bs) (h0_1 : Bs) (h0_2 : Int) (h0_4_0 : Bool) (h0_4_1 : List UInt8) (h1_0 : Int) (h1_1 : Bs) (h1_2 : Int) (h1_3_0 : Bool) (h1_3_1 : List (Bs × Bs)) (h1_4_0 : Bool) (h1_4_1 : List UInt8) => (show callW (E0 mm) 12 [.agg [.d (dS h0_0), .d (dS h0_1), .d (dI h0_2), .d (.lst false (enL enSS ([(([67, 97, 99, 104, 101, 45, 67, 111, 110, 116, 114, 111, 108] : Bs), ([110, 111, 45, 115, 116, 111, 114, 101] : Bs))] : List (Bs × Bs)))), .d (.lst h0_4_0 (enL enB h0_4_1))], .agg [.d (dI h1_0), .d (dS h1_1), .d (dI h1_2), .d (.lst h1_3_0 (enL enSS h1_3_1)), .d (.lst h1_4_0 (enL enB h1_4_1))]] [] = _ from f12_t h0_0 h0_1 h0_2 false ([(([67, 97, 99, 104, 101, 45, 67, 111, 110, 116, 114, 111, 108] : Bs), ([110, 111, 45, 115, 116, 111, 114, 101] : Bs))] : List (Bs × Bs)) h0_4_0 h0_4_1 h1_0 h1_1 h1_2 h1_3_0 h1_3_1 h1_4_0 h1_4_1)) (Q (fun (mm : Int) (h0_0 : Bs) (h0_1 : Bs) (h0_2 : Int) (h0_4_0 : Bool) (h0_4_1 : List UInt8) => (show callW (E0 mm) 21 [.agg [.d (dS h0_0), .d (dS h0_1), .d (dI h0_2), .d (.lst false (enL enSS ([(([82, 65, 78, 71, 69] : Bs), ([98, 121, 116, 101, 115, 61, 48, 45] : Bs))] : List (Bs × Bs)))), .d (.lst h0_4_0 (enL enB h0_4_1))]] [] = _ from f21_t h0_0 h0_1 h0_2 false ([(([82, 65, 78, 71, 69] : Bs), ([98, 121, 116, 101, 115, 61, 48, 45] : Bs))] : List (Bs × Bs)) h0_4_0 h0_4_1)) (Q @f21_t (Q @e21.eq_1 (Q (fun (mm : Int) (h0_0 : Bs) (h0_1 : Bs) (h0_2 : Int) (h0_4_0 : Bool) (h0_4_1 : List UInt8) => (show callW (E0 mm) 21 [.agg [.d (dS h0_0), .d (dS h0_1), .d (dI h0_2), .d (.lst false (enL enSS ([(([73, 102, 45, 78, 111, 110, 101, 45, 77, 97, 116, 99, 104] : Bs), ([42] : Bs))] : List (Bs × Bs)))), .d (.lst h0_4_0 (enL enB h0_4_1))]] [] = _ from f21_t h0_0 h0_1 h0_2 false ([(([73, 102, 45, 78, 111, 110, 101, 45, 77, 97, 116, 99, 104] : Bs), ([42] : Bs))] : List (Bs × Bs)) h0_4_0 h0_4_1)) (Q (fun (mm : Int) (h0_0 : Bs) (h0_1 : Bs) (h0_2 : Int) (h0_3_0 : Bool) (h0_3_1 : List (Bs × Bs)) => (show callW (E0 mm) 21 [.agg [.d (dS h0_0), .d (dS h0_1), .d (dI h0_2), .d (.lst h0_3_0 (enL enSS h0_3_1)), .d (.lst false (enL enB ([(120 : UInt8)] : List UInt8)))]] [] = _ from f21_t h0_0 h0_1 h0_2 h0_3_0 h0_3_1 false ([(120 : UInt8)] : List UInt8))) (Q (fun (mm : Int) (h0_0 : Bs) (h0_1 : Bs) (h0_2 : Int) (h0_4_0 : Bool) (h0_4_1 : List UInt8) => (show callW (E0 mm) 21 [.agg [.d (dS h0_0), .d (dS h0_1), .d (dI h0_2), .d (.lst false (enL enSS ([(([67, 97, 99, 104, 101, 45, 67, 111, 110, 116, 114, 111, 108] : Bs), ([110, 111, 45, 115, 116, 111, 114, 101] : Bs))] : List (Bs × Bs)))), .d (.lst h0_4_0 (enL enB h0_4_1))]] [] = _ from f21_t h0_0 h0_1 h0_2 false ([(([67, 97, 99, 104, 101, 45, 67, 111, 110, 116, 114, 111, 108] : Bs), ([110, 111, 45, 115, 116, 111, 114, 101] : Bs))] : List (Bs × Bs)) h0_4_0 h0_4_1)) (Q @ent22 (Q @prm22 (Q (fun (mm : Int) (h0_0 : Bs) (h0_1 : Bs) (h0_2 : Int) (h0_4_0 : Bool) (h0_4_1 : List UInt8) => (show callW (E0 mm) 22 [.agg [.d (dS h0_0), .d (dS h0_1), .d (dI h0_2), .d (.lst false (enL enSS ([(([67, 97, 99, 104, 101, 45, 67, 111, 110, 116, 114, 111, 108] : Bs), ([110, 111, 45, 115, 116, 111, 114, 101] : Bs))] : List (Bs × Bs)))), .d (.lst h0_4_0 (enL enB h0_4_1))]] [] = _ from f22_t h0_0 h0_1 h0_2 false ([(([67, 97, 99, 104, 101, 45, 67, 111, 110, 116, 114, 111, 108] : Bs), ([110, 111, 45, 115, 116, 111, 114, 101] : Bs))] : List (Bs × Bs)) h0_4_0 h0_4_1)) (Q @f22_t (Q @e22.eq_1 (Q (show List.range 13 = [0, 1, 2, 3, 4, 5, 6, 7, 8, 9, 10, 11, 12] from rfl) (Q (fun (mm : Int) (h0_0 : Bs) (h0_1 : Bs) (h0_2 : Int) (h0_3_1 : List (Bs × Bs)) (h0_4_0 : Bool) (h0_4_1 : List UInt8) (h1_0 : Int) (h1_1 : Bs) (h1_2 : Int) (h1_3_0 : Bool) (h1_3_1 : List (Bs × Bs)) (h1_4_0 : Bool) (h1_4_1 : List UInt8) => (show callW (E0 mm) 12 [.agg [.d (dS h0_0), .d (dS h0_1), .d (dI h0_2), .d (.lst false (enL enSS (h0_3_1 ++ ([(([82, 65, 78, 71, 69] : Bs), ([98, 121, 116, 101, 115, 61, 48, 45] : Bs))] : List (Bs × Bs))))), .d (.lst h0_4_0 (enL enB h0_4_1))], .agg [.d (dI h1_0), .d (dS h1_1), .d (dI h1_2), .d (.lst h1_3_0 (enL enSS h1_3_1)), .d (.lst h1_4_0 (enL enB h1_4_1))]] [] = _ from f12_t h0_0 h0_1 h0_2 false (h0_3_1 ++ ([(([82, 65, 78, 71, 69] : Bs), ([98, 121, 116, 101, 115, 61, 48, 45] : Bs))] : List (Bs × Bs))) h0_4_0 h0_4_1 h1_0 h1_1 h1_2 h1_3_0 h1_3_1 h1_4_0 h1_4_1)) (Q (fun (mm : Int) (h0_0 : Bs) (h0_1 : Bs) (h0_2 : Int) (h0_3_1 : List (Bs × Bs)) (h0_4_0 : Bool) (h0_4_1 : List UInt8) (h1_0 : Int) (h1_1 : Bs) (h1_2 : Int) (h1_3_0 : Bool) (h1_3_1 : List (Bs × Bs)) (h1_4_0 : Bool) (h1_4_1 : List UInt8) => (show callW (E0 mm) 12 [.agg [.d (dS h0_0), .d (dS h0_1), .d (dI h0_2), .d (.lst false (enL enSS (h0_3_1 ++ ([(([73, 102, 45, 78, 111, 110, 101, 45, 77, 97, 116, 99, 104] : Bs), ([42] : Bs))] : List (Bs × Bs))))), .d (.lst h0_4_0 (enL enB h0_4_1))], .agg [.d (dI h1_0), .d (dS h1_1), .d (dI h1_2), .d (.lst h1_3_0 (enL enSS h1_3_1)), .d (.lst h1_4_0 (enL enB h1_4_1))]] [] = _ from f12_t h0_0 h0_1 h0_2 false (h0_3_1 ++ ([(([73, 102, 45, 78, 111, 110, 101, 45, 77, 97, 116, 99, 104] : Bs), ([42] : Bs))] : List (Bs × Bs))) h0_4_0 h0_4_1 h1_0 h1_1 h1_2 h1_3_0 h1_3_1 h1_4_0 h1_4_1)) (Q (fun (mm : Int) (h0_0 : Bs) (h0_1 : Bs) (h0_2 : Int) (h0_3_1 : List (Bs × Bs)) (h0_4_0 : Bool) (h0_4_1 : List UInt8) (h1_0 : Int) (h1_1 : Bs) (h1_2 : Int) (h1_3_0 : Bool) (h1_3_1 : List (Bs × Bs)) (h1_4_0 : Bool) (h1_4_1 : List UInt8) => (show callW (E0 mm) 12 [.agg [.d (dS h0_0), .d (dS h0_1), .d (dI h0_2), .d (.lst false (enL enSS (h0_3_1 ++ ([(([67, 97, 99, 104, 101, 45, 67, 111, 110, 116, 114, 111, 108] : Bs), ([110, 111, 45, 115, 116, 111, 114, 101] : Bs))] : List (Bs × Bs))))), .d (.lst h0_4_0 (enL enB h0_4_1))], .agg [.d (dI h1_0), .d (dS h1_1), .d (dI h1_2), .d (.lst h1_3_0 (enL enSS h1_3_1)), .d (.lst h1_4_0 (enL enB h1_4_1))]] [] = _ from f12_t h0_0 h0_1 h0_2 false (h0_3_1 ++ ([(([67, 97, 99, 104, 101, 45, 67, 111, 110, 116, 114, 111, 108] : Bs), ([110, 111, 45, 115, 116, 111, 114, 101] : Bs))] : List (Bs × Bs))) h0_4_0 h0_4_1 h1_0 h1_1 h1_2 h1_3_0 h1_3_1 h1_4_0 h1_4_1)) (Q (fun (mm : Int) (h0_0 : Bs) (h0_1 : Bs) (h0_2 : Int) (h0_3_1 : List (Bs × Bs)) (h0_4_0 : Bool) (h0_4_1 : List UInt8) => (show callW (E0 mm) 21 [.agg [.d (dS h0_0), .d (dS h0_1), .d (dI h0_2), .d (.lst false (enL enSS (h0_3_1 ++ ([(([82, 65, 78, 71, 69] : Bs), ([98, 121, 116, 101, 115, 61, 48, 45] : Bs))] : List (Bs × Bs))))), .d (.lst h0_4_0 (enL enB h0_4_1))]] [] = _ from f21_t h0_0 h0_1 h0_2 false (h0_3_1 ++ ([(([82, 65, 78, 71, 69] : Bs), ([98, 121, 116, 101, 115, 61, 48, 45] : Bs))] : List (Bs × Bs))) h0_4_0 h0_4_1)) (Q (fun (mm : Int) (h0_0 : Bs) (h0_1 : Bs) (h0_2 : Int) (h0_3_1 : List (Bs × Bs)) (h0_4_0 : Bool) (h0_4_1 : List UInt8) => (show callW (E0 mm) 21 [.agg [.d (dS h0_0), .d (dS h0_1), .d (dI h0_2), .d (.lst false (enL enSS (h0_3_1 ++ ([(([73, 102, 45, 78, 111, 110, 101, 45, 77, 97, 116, 99, 104] : Bs), ([42] : Bs))] : List (Bs × Bs))))), .d (.lst h0_4_0 (enL enB h0_4_1))]] [] = _ from f21_t h0_0 h0_1 h0_2 false (h0_3_1 ++ ([(([73, 102, 45, 78, 111, 110, 101, 45, 77, 97, 116, 99, 104] : Bs), ([42] : Bs))] : List (Bs × Bs))) h0_4_0 h0_4_1)) (Q (fun (mm : Int) (h0_0 : Bs) (h0_1 : Bs) (h0_2 : Int) (h0_3_1 : List (Bs × Bs)) (h0_4_0 : Bool) (h0_4_1 : List UInt8) => (show callW (E0 mm) 21 [.agg [.d (dS h0_0), .d (dS h0_1), .d (dI h0_2), .d (.lst false (enL enSS (h0_3_1 ++ ([(([67, 97, 99, 104, 101, 45, 67, 111, 110, 116, 114, 111, 108] : Bs), ([110, 111, 45, 115, 116, 111, 114, 101] : Bs))] : List (Bs × Bs))))), .d (.lst h0_4_0 (enL enB h0_4_1))]] [] = _ from f21_t h0_0 h0_1 h0_2 false (h0_3_1 ++ ([(([67, 97, 99, 104, 101, 45, 67, 111, 110, 116, 114, 111, 108] : Bs), ([110, 111, 45, 115, 116, 111, 114, 101] : Bs))] : List (Bs × Bs))) h0_4_0 h0_4_1)) (Q (fun (mm : Int) (h0_0 : Bs) (h0_1 : Bs) (h0_2 : Int) (h0_3_1 : List (Bs × Bs)) (h0_4_0 : Bool) (h0_4_1 : List UInt8) => (show callW (E0 mm) 22 [.agg [.d (dS h0_0), .d (dS h0_1), .d (dI h0_2), .d (.lst false (enL enSS (h0_3_1 ++ ([(([67, 97, 99, 104, 101, 45, 67, 111, 110, 116, 114, 111, 108] : Bs), ([110, 111, 45, 115, 116, 111, 114, 101] : Bs))] : List (Bs × Bs))))), .d (.lst h0_4_0 (enL enB h0_4_1))]] [] = _ from f22_t h0_0 h0_1 h0_2 false (h0_3_1 ++ ([(([67, 97, 99, 104, 101, 45, 67, 111, 110, 116, 114, 111, 108] : Bs), ([110, 111, 45, 115, 116, 111, 114, 101] : Bs))] : List (Bs × Bs))) h0_4_0 h0_4_1)) (Q (rx c5_1) (Q (rx c5_3) (Q @zc27 (Q @ao163 (Q (rx c5_5) (Q @hd164 (Q @nv165 (Q @rw166 (Q (rx c5_7) (Q @ao167 (Q (rx c5_9) (Q @hd168 (Q @nv169 (Q @rw170 (Q (rx c5_11) (Q @ao171 (Q (rx c5_13) (Q @hd172 (Q @nv173 (Q @rw174 (Q (rx c5_15) (Q @ao175 (Q (rx c5_17) (Q @hd176 (Q @nv177 (Q @rw178 (Q (rx c5_20) (Q (fun (mm : Int) (r0_0 : Bs) (r0_1 : Bs) (r0_2 : Int) (r0_3 : Bool) (r0_4 : List (Bs × Bs)) (r0_5 : Bool) (r0_6 : List UInt8) (x0_0 : Int) (x0_1 : Bs) (x0_2 : Int) (x0_5 : Bool) (x0_6 : List UInt8) => (show callW (E0 mm) 12 [.agg [.d (dS r0_0), .d (dS r0_1), .d (dI r0_2), .d (.lst r0_3 (enL enSS r0_4)), .d (.lst r0_5 (enL enB r0_6))], .agg [.d (dI x0_0), .d (dS x0_1), .d (dI x0_2), .d (.lst false (enL enSS ([(([99, 97, 99, 104, 101, 45, 67, 79, 78, 84, 82, 79, 76] : Bs), ([78, 111, 45, 83, 116, 111, 114, 101] : Bs))] : List (Bs × Bs)))), .d (.lst x0_5 (enL enB x0_6))]] [] = _ from f12_t r0_0 r0_1 r0_2 r0_3 r0_4 r0_5 r0_6 x0_0 x0_1 x0_2 false ([(([99, 97, 99, 104, 101, 45, 67, 79, 78, 84, 82, 79, 76] : Bs), ([78, 111, 45, 83, 116, 111, 114, 101] : Bs))] : List (Bs × Bs)) x0_5 x0_6)) (Q (fun (mm : Int) (r0_0 : Bs) (r0_1 : Bs) (r0_2 : Int) (r0_3 : Bool) (r0_4 : List (Bs × Bs)) (r0_5 : Bool) (r0_6 : List UInt8) (x0_0 : Int) (x0_1 : Bs) (x0_2 : Int) (x0_5 : Bool) (x0_6 : List UInt8) => (show callW (E0 mm) 12 [.agg [.d (dS r0_0), .d (dS r0_1), .d (dI r0_2), .d (.lst r0_3 (enL enSS r0_4)), .d (.lst r0_5 (enL enB r0_6))], .agg [.d (dI x0_0), .d (dS x0_1), .d (dI x0_2), .d (.lst false (enL enSS ([(([67, 97, 99, 104, 101, 45, 67, 111, 110, 116, 114, 111, 108] : Bs), ([112, 114, 105, 118, 97, 116, 101, 61, 120] : Bs))] : List (Bs × Bs)))), .d (.lst x0_5 (enL enB x0_6))]] [] = _ from f12_t r0_0 r0_1 r0_2 r0_3 r0_4 r0_5 r0_6 x0_0 x0_1 x0_2 false ([(([67, 97, 99, 104, 101, 45, 67, 111, 110, 116, 114, 111, 108] : Bs), ([112, 114, 105, 118, 97, 116, 101, 61, 120] : Bs))] : List (Bs × Bs)) x0_5 x0_6)) (Q (fun (mm : Int) (r0_0 : Bs) (r0_1 : Bs) (r0_2 : Int) (r0_3 : Bool) (r0_4 : List (Bs × Bs)) (r0_5 : Bool) (r0_6 : List UInt8) (x0_0 : Int) (x0_1 : Bs) (x0_2 : Int) (x0_5 : Bool) (x0_6 : List UInt8) => (show callW (E0 mm) 12 [.agg [.d (dS r0_0), .d (dS r0_1), .d (dI r0_2), .d (.lst r0_3 (enL enSS r0_4)), .d (.lst r0_5 (enL enB r0_6))], .agg [.d (dI x0_0), .d (dS x0_1), .d (dI x0_2), .d (.lst false (enL enSS ([(([86, 65, 82, 89] : Bs), ([97, 44, 32, 42] : Bs))] : List (Bs × Bs)))), .d (.lst x0_5 (enL enB x0_6))]] [] = _ from f12_t r0_0 r0_1 r0_2 r0_3 r0_4 r0_5 r0_6 x0_0 x0_1 x0_2 false ([(([86, 65, 82, 89] : Bs), ([97, 44, 32, 42] : Bs))] : List (Bs × Bs)) x0_5 x0_6)) (Q (fun (mm : Int) (r0_0 : Bs) (r0_1 : Bs) (r0_2 : Int) (r0_3 : Bool) (r0_4 : List (Bs × Bs)) (r0_5 : Bool) (r0_6 : List UInt8) (x0_0 : Int) (x0_1 : Bs) (x0_2 : Int) (x0_5 : Bool) (x0_6 : List UInt8) => (show callW (E0 mm) 12 [.agg [.d (dS r0_0), .d (dS r0_1), .d (dI r0_2), .d (.lst r0_3 (enL enSS r0_4)), .d (.lst r0_5 (enL enB r0_6))], .agg [.d (dI x0_0), .d (dS x0_1), .d (dI x0_2), .d (.lst false (enL enSS ([(([67, 111, 110, 110, 101, 99, 116, 105, 111, 110] : Bs), ([88, 44, 32, 67, 97, 99, 104, 101, 45, 67, 111, 110, 116, 114, 111, 108] : Bs))] : List (Bs × Bs)))), .d (.lst x0_5 (enL enB x0_6))]] [] = _ from f12_t r0_0 r0_1 r0_2 r0_3 r0_4 r0_5 r0_6 x0_0 x0_1 x0_2 false ([(([67, 111, 110, 110, 101, 99, 116, 105, 111, 110] : Bs), ([88, 44, 32, 67, 97, 99, 104, 101, 45, 67, 111, 110, 116, 114, 111, 108] : Bs))] : List (Bs × Bs)) x0_5 x0_6)) (Q (fun (mm : Int) (r0_0 : Bs) (r0_1 : Bs) (r0_2 : Int) (r0_3 : Bool) (r0_4 : List (Bs × Bs)) (r0_5 : Bool) (r0_6 : List UInt8) (x0_0 : Int) (x0_1 : Bs) (x0_2 : Int) (x0_4 : List (Bs × Bs)) (x0_5 : Bool) (x0_6 : List UInt8) => (show callW (E0 mm) 12 [.agg [.d (dS r0_0), .d (dS r0_1), .d (dI r0_2), .d (.lst r0_3 (enL enSS r0_4)), .d (.lst r0_5 (enL enB r0_6))], .agg [.d (dI x0_0), .d (dS x0_1), .d (dI x0_2), .d (.lst false (enL enSS (x0_4 ++ ([(([99, 97, 99, 104, 101, 45, 67, 79, 78, 84, 82, 79, 76] : Bs), ([78, 111, 45, 83, 116, 111, 114, 101] : Bs))] : List (Bs × Bs))))), .d (.lst x0_5 (enL enB x0_6))]] [] = _ from f12_t r0_0 r0_1 r0_2 r0_3 r0_4 r0_5 r0_6 x0_0 x0_1 x0_2 false (x0_4 ++ ([(([99, 97, 99, 104, 101, 45, 67, 79, 78, 84, 82, 79, 76] : Bs), ([78, 111, 45, 83, 116, 111, 114, 101] : Bs))] : List (Bs × Bs))) x0_5 x0_6)) (Q (fun (mm : Int) (r0_0 : Bs) (r0_1 : Bs) (r0_2 : Int) (r0_3 : Bool) (r0_4 : List (Bs × Bs)) (r0_5 : Bool) (r0_6 : List UInt8) (x0_0 : Int) (x0_1 : Bs) (x0_2 : Int) (x0_4 : List (Bs × Bs)) (x0_5 : Bool) (x0_6 : List UInt8) => (show callW (E0 mm) 12 [.agg [.d (dS r0_0), .d (dS r0_1), .d (dI r0_2), .d (.lst r0_3 (enL enSS r0_4)), .d (.lst r0_5 (enL enB r0_6))], .agg [.d (dI x0_0), .d (dS x0_1), .d (dI x0_2), .d (.lst false (enL enSS (x0_4 ++ ([(([67, 97, 99, 104, 101, 45, 67, 111, 110, 116, 114, 111, 108] : Bs), ([112, 114, 105, 118, 97, 116, 101, 61, 120] : Bs))] : List (Bs × Bs))))), .d (.lst x0_5 (enL enB x0_6))]] [] = _ from f12_t r0_0 r0_1 r0_2 r0_3 r0_4 r0_5 r0_6 x0_0 x0_1 x0_2 false (x0_4 ++ ([(([67, 97, 99, 104, 101, 45, 67, 111, 110, 116, 114, 111, 108] : Bs), ([112, 114, 105, 118, 97, 116, 101, 61, 120] : Bs))] : List (Bs × Bs))) x0_5 x0_6)) (Q (fun (mm : Int) (r0_0 : Bs) (r0_1 : Bs) (r0_2 : Int) (r0_3 : Bool) (r0_4 : List (Bs × Bs)) (r0_5 : Bool) (r0_6 : List UInt8) (x0_0 : Int) (x0_1 : Bs) (x0_2 : Int) (x0_4 : List (Bs × Bs)) (x0_5 : Bool) (x0_6 : List UInt8) => (show callW (E0 mm) 12 [.agg [.d (dS r0_0), .d (dS r0_1), .d (dI r0_2), .d (.lst r0_3 (enL enSS r0_4)), .d (.lst r0_5 (enL enB r0_6))], .agg [.d (dI x0_0), .d (dS x0_1), .d (dI x0_2), .d (.lst false (enL enSS (x0_4 ++ ([(([86, 65, 82, 89] : Bs), ([97, 44, 32, 42] : Bs))] : List (Bs × Bs))))), .d (.lst x0_5 (enL enB x0_6))]] [] = _ from f12_t r0_0 r0_1 r0_2 r0_3 r0_4 r0_5 r0_6 x0_0 x0_1 x0_2 false (x0_4 ++ ([(([86, 65, 82, 89] : Bs), ([97, 44, 32, 42] : Bs))] : List (Bs × Bs))) x0_5 x0_6)) (Q (fun (mm : Int) (r0_0 : Bs) (r0_1 : Bs) (r0_2 : Int) (r0_3 : Bool) (r0_4 : List (Bs × Bs)) (r0_5 : Bool) (r0_6 : List UInt8) (x0_0 : Int) (x0_1 : Bs) (x0_2 : Int) (x0_4 : List (Bs × Bs)) (x0_5 : Bool) (x0_6 : List UInt8) => (show callW (E0 mm) 12 [.agg [.d (dS r0_0), .d (dS r0_1), .d (dI r0_2), .d (.lst r0_3 (enL enSS r0_4)), .d (.lst r0_5 (enL enB r0_6))], .agg [.d (dI x0_0), .d (dS x0_1), .d (dI x0_2), .d (.lst false (enL enSS (x0_4 ++ ([(([67, 111, 110, 110, 101, 99, 116, 105, 111, 110] : Bs), ([88, 44, 32, 67, 97, 99, 104, 101, 45, 67, 111, 110, 116, 114, 111, 108] : Bs))] : List (Bs × Bs))))), .d (.lst x0_5 (enL enB x0_6))]] [] = _ from f12_t r0_0 r0_1 r0_2 r0_3 r0_4 r0_5 r0_6 x0_0 x0_1 x0_2 false (x0_4 ++ ([(([67, 111, 110, 110, 101, 99, 116, 105, 111, 110] : Bs), ([88, 44, 32, 67, 97, 99, 104, 101, 45, 67, 111, 110, 116, 114, 111, 108] : Bs))] : List (Bs × Bs))) x0_5 x0_6)) (Q (nE c5_0 (.seq c5_1 (.seq c5_3 (.seq c5_5 (.seq c5_7 (.seq c5_9 (.seq c5_11 (.seq c5_13 (.seq c5_15 (.seq c5_17 (.seq (.seq c5_20 c5_21) c5_26))))))))))) (Q (nE c5_26 (.seq c5_27 (.seq c5_29 (.seq c5_31 (.seq c5_33 (.seq c5_35 (.seq c5_37 (.seq c5_39 (.seq c5_41 (.seq (.seq c5_44 c5_45) c5_50)))))))))) (Q (nE c5_50 (.seq (.seq c5_52 (.cond _ (.seq c5_55 .ret) .skip)) (.seq c5_59 (.seq c5_61 (.seq c5_63 (.seq (.seq c5_66 c5_67) c5_72)))))) (Q (nE c5_79 (.seq (.seq c5_81 (.cond _ .skip (.exit 0))) (.seq (.block 1 (.seq c5_88 (.cond _ (.seq c5_91 .ret) .skip))) c5_94))) (Q @en5_78.eq_1 (Q @L5_0.eq_1 hA))))))))))))))))))))))))))))))))))))))))))))))))))))))))))))))))))))))))))))))))))))))))))))))))))))))))))))))))))))))))))))))))))))))))))))))))))))))))))
theorem j5_95_t (h0_0 h0_1 : Bs) (h0_2 : Int) (h0_3_0 : Bool) (h0_3_1 : List (Bs × Bs)) (h0_4_0 : Bool) (h0_4_1 : List UInt8) (h1_0 : Int) (h1_1 : Bs) (h1_2 : Int) (h1_3_0 : Bool) (h1_3_1 : List (Bs × Bs)) (h1_4_0 : Bool) (h1_4_1 : List UInt8) (h2_0 h2_1 : Bs) (h3_0 h3_1 : Bool) (h3_2 h3_3 : Bool) (h3_4 h3_5 : Bool) (h3_6 h3_7 : Int) (h3_8 h3_9 : Int) (g4 : Ob) (sl : Sl) (_ : sl 3 = .v (.c (.ptr 0 0))) (_ : sl 4 = .v (.c (.ptr 1 0))) (_ : sl 5 = .v (.c (.ptr 2 0))) (_ : sl 15 = .v (.c (.ptr 3 0))) :
    b5 mm (dn (E0 mm) 5 0 c5_95 sl [.cells [.d (dS h0_0), .d (dS h0_1), .d (dI h0_2), .d (.lst h0_3_0 (enL enSS h0_3_1)), .d (.lst h0_4_0 (enL enB h0_4_1))], .cells [.d (dI h1_0), .d (dS h1_1), .d (dI h1_2), .d (.lst h1_3_0 (enL enSS h1_3_1)), .d (.lst h1_4_0 (enL enB h1_4_1))], .cells [.d (dS h2_0), .d (dS h2_1)], .cells [.d (dB h3_0), .d (dB h3_1), .d (dB h3_2), .d (dB h3_3), .d (dB h3_4), .d (dB h3_5), .d (dI h3_6), .d (dI h3_7), .d (dI h3_8), .d (dI h3_9)], g4]) = (j5_95 h0_0 h0_1 h0_2 h0_3_0 h0_3_1 h0_4_0 h0_4_1 h1_0 h1_1 h1_2 h1_3_0 h1_3_1 h1_4_0 h1_4_1 h2_0 h2_1 h3_0 h3_1 h3_2 h3_3 h3_4 h3_5 h3_6 h3_7 h3_8 h3_9).map e5 := by
  unfold j5_95; exact go (Q (nE c5_95 (.seq c5_96 (.seq c5_98 (.seq c5_100 .ret)))) k5) trivial
def s5_78 (l20_0 : Bool) (l20_1 : List Bs) (i21 : Int) (h0_0 h0_1 : Bs) (h0_2 : Int) (h0_3_0 : Bool) (h0_3_1 : List (Bs × Bs)) (h0_4_0 : Bool) (h0_4_1 : List UInt8) (h1_0 : Int) (h1_1 : Bs) (h1_2 : Int) (h1_3_0 : Bool) (h1_3_1 : List (Bs × Bs)) (h1_4_0 : Bool) (h1_4_1 : List UInt8) (h2_0 h2_1 : Bs) (h3_0 h3_1 : Bool) (h3_2 h3_3 : Bool) (h3_4 h3_5 : Bool) (h3_6 h3_7 : Int) (h3_8 h3_9 : Int) : Option ((Bool × List Bs × Int × Bs × Bs × Int × Bool × List (Bs × Bs) × Bool × List UInt8 × Int × Bs × Int × Bool × List (Bs × Bs) × Bool × List UInt8 × Bs × Bs × Bool × Bool × Bool × Bool × Bool × Bool × Int × Int × Int × Int) ⊕ R5) :=
  if (decide (i21 < (l20_1.length : Int))) = true then
    if 0 ≤ i21 ∧ i21 < (l20_1.length : Int) then
      (m27 (l20_1.getD i21.toNat default)).bind fun yr29 =>
        if yr29 = true then
          some (.inr false)
        else
          some (.inl (l20_0, l20_1, (w64 (i21 + 1)), h0_0, h0_1, h0_2, h0_3_0, h0_3_1, h0_4_0, h0_4_1, h1_0, h1_1, h1_2, h1_3_0, h1_3_1, h1_4_0, h1_4_1, h2_0, h2_1, h3_0, h3_1, h3_2, h3_3, h3_4, h3_5, h3_6, h3_7, h3_8, h3_9))
    else none
  else
    (j5_95 h0_0 h0_1 h0_2 h0_3_0 h0_3_1 h0_4_0 h0_4_1 h1_0 h1_1 h1_2 h1_3_0 h1_3_1 h1_4_0 h1_4_1 h2_0 h2_1 h3_0 h3_1 h3_2 h3_3 h3_4 h3_5 h3_6 h3_7 h3_8 h3_9).map .inr
theorem s5_78_t (l20_0 : Bool) (l20_1 : List Bs) (i21 : Int) (h0_0 h0_1 : Bs) (h0_2 : Int) (h0_3_0 : Bool) (h0_3_1 : List (Bs × Bs)) (h0_4_0 : Bool) (h0_4_1 : List UInt8) (h1_0 : Int) (h1_1 : Bs) (h1_2 : Int) (h1_3_0 : Bool) (h1_3_1 : List (Bs × Bs)) (h1_4_0 : Bool) (h1_4_1 : List UInt8) (h2_0 h2_1 : Bs) (h3_0 h3_1 : Bool) (h3_2 h3_3 : Bool) (h3_4 h3_5 : Bool) (h3_6 h3_7 : Int) (h3_8 h3_9 : Int) :
    stepE (K5_78 mm) (lp (E0 mm) 5 0 c5_79 L5_0 (en5_78 (l20_0, l20_1, i21, h0_0, h0_1, h0_2, h0_3_0, h0_3_1, h0_4_0, h0_4_1, h1_0, h1_1, h1_2, h1_3_0, h1_3_1, h1_4_0, h1_4_1, h2_0, h2_1, h3_0, h3_1, h3_2, h3_3, h3_4, h3_5, h3_6, h3_7, h3_8, h3_9))) = (s5_78 l20_0 l20_1 i21 h0_0 h0_1 h0_2 h0_3_0 h0_3_1 h0_4_0 h0_4_1 h1_0 h1_1 h1_2 h1_3_0 h1_3_1 h1_4_0 h1_4_1 h2_0 h2_1 h3_0 h3_1 h3_2 h3_3 h3_4 h3_5 h3_6 h3_7 h3_8 h3_9).map (sm en5_78 e5) := by
  unfold s5_78; exact go k5 @j5_95_t
def l5_78 (l20_0 : Bool) (l20_1 : List Bs) (i21 : Int) (h0_0 h0_1 : Bs) (h0_2 : Int) (h0_3_0 : Bool) (h0_3_1 : List (Bs × Bs)) (h0_4_0 : Bool) (h0_4_1 : List UInt8) (h1_0 : Int) (h1_1 : Bs) (h1_2 : Int) (h1_3_0 : Bool) (h1_3_1 : List (Bs × Bs)) (h1_4_0 : Bool) (h1_4_1 : List UInt8) (h2_0 h2_1 : Bs) (h3_0 h3_1 : Bool) (h3_2 h3_3 : Bool) (h3_4 h3_5 : Bool) (h3_6 h3_7 : Int) (h3_8 h3_9 : Int) : Option R5 := iter (fun x : (Bool × List Bs × Int × Bs × Bs × Int × Bool × List (Bs × Bs) × Bool × List UInt8 × Int × Bs × Int × Bool × List (Bs × Bs) × Bool × List UInt8 × Bs × Bs × Bool × Bool × Bool × Bool × Bool × Bool × Int × Int × Int × Int) => s5_78 x.1 x.2.1 x.2.2.1 x.2.2.2.1 x.2.2.2.2.1 x.2.2.2.2.2.1 x.2.2.2.2.2.2.1 x.2.2.2.2.2.2.2.1 x.2.2.2.2.2.2.2.2.1 x.2.2.2.2.2.2.2.2.2.1 x.2.2.2.2.2.2.2.2.2.2.1 x.2.2.2.2.2.2.2.2.2.2.2.1 x.2.2.2.2.2.2.2.2.2.2.2.2.1 x.2.2.2.2.2.2.2.2.2.2.2.2.2.1 x.2.2.2.2.2.2.2.2.2.2.2.2.2.2.1 x.2.2.2.2.2.2.2.2.2.2.2.2.2.2.2.1 x.2.2.2.2.2.2.2.2.2.2.2.2.2.2.2.2.1 x.2.2.2.2.2.2.2.2.2.2.2.2.2.2.2.2.2.1 x.2.2.2.2.2.2.2.2.2.2.2.2.2.2.2.2.2.2.1 x.2.2.2.2.2.2.2.2.2.2.2.2.2.2.2.2.2.2.2.1 x.2.2.2.2.2.2.2.2.2.2.2.2.2.2.2.2.2.2.2.2.1 x.2.2.2.2.2.2.2.2.2.2.2.2.2.2.2.2.2.2.2.2.2.1 x.2.2.2.2.2.2.2.2.2.2.2.2.2.2.2.2.2.2.2.2.2.2.1 x.2.2.2.2.2.2.2.2.2.2.2.2.2.2.2.2.2.2.2.2.2.2.2.1 x.2.2.2.2.2.2.2.2.2.2.2.2.2.2.2.2.2.2.2.2.2.2.2.2.1 x.2.2.2.2.2.2.2.2.2.2.2.2.2.2.2.2.2.2.2.2.2.2.2.2.2.1 x.2.2.2.2.2.2.2.2.2.2.2.2.2.2.2.2.2.2.2.2.2.2.2.2.2.2.1 x.2.2.2.2.2.2.2.2.2.2.2.2.2.2.2.2.2.2.2.2.2.2.2.2.2.2.2.1 x.2.2.2.2.2.2.2.2.2.2.2.2.2.2.2.2.2.2.2.2.2.2.2.2.2.2.2.2) (l20_0, l20_1, i21, h0_0, h0_1, h0_2, h0_3_0, h0_3_1, h0_4_0, h0_4_1, h1_0, h1_1, h1_2, h1_3_0, h1_3_1, h1_4_0, h1_4_1, h2_0, h2_1, h3_0, h3_1, h3_2, h3_3, h3_4, h3_5, h3_6, h3_7, h3_8, h3_9)
theorem l5_78_t (l20_0 : Bool) (l20_1 : List Bs) (i21 : Int) (h0_0 h0_1 : Bs) (h0_2 : Int) (h0_3_0 : Bool) (h0_3_1 : List (Bs × Bs)) (h0_4_0 : Bool) (h0_4_1 : List UInt8) (h1_0 : Int) (h1_1 : Bs) (h1_2 : Int) (h1_3_0 : Bool) (h1_3_1 : List (Bs × Bs)) (h1_4_0 : Bool) (h1_4_1 : List UInt8) (h2_0 h2_1 : Bs) (h3_0 h3_1 : Bool) (h3_2 h3_3 : Bool) (h3_4 h3_5 : Bool) (h3_6 h3_7 : Int) (h3_8 h3_9 : Int) : (K5_78 mm) (itW (lp (E0 mm) 5 0 c5_79 L5_0) (en5_78 (l20_0, l20_1, i21, h0_0, h0_1, h0_2, h0_3_0, h0_3_1, h0_4_0, h0_4_1, h1_0, h1_1, h1_2, h1_3_0, h1_3_1, h1_4_0, h1_4_1, h2_0, h2_1, h3_0, h3_1, h3_2, h3_3, h3_4, h3_5, h3_6, h3_7, h3_8, h3_9))) = (l5_78 l20_0 l20_1 i21 h0_0 h0_1 h0_2 h0_3_0 h0_3_1 h0_4_0 h0_4_1 h1_0 h1_1 h1_2 h1_3_0 h1_3_1 h1_4_0 h1_4_1 h2_0 h2_1 h3_0 h3_1 h3_2 h3_3 h3_4 h3_5 h3_6 h3_7 h3_8 h3_9).map e5 :=
  it_sim (K := (K5_78 mm)) rfl (enc := en5_78) (fun x => s5_78_t x.1 x.2.1 x.2.2.1 x.2.2.2.1 x.2.2.2.2.1 x.2.2.2.2.2.1 x.2.2.2.2.2.2.1 x.2.2.2.2.2.2.2.1 x.2.2.2.2.2.2.2.2.1 x.2.2.2.2.2.2.2.2.2.1 x.2.2.2.2.2.2.2.2.2.2.1 x.2.2.2.2.2.2.2.2.2.2.2.1 x.2.2.2.2.2.2.2.2.2.2.2.2.1 x.2.2.2.2.2.2.2.2.2.2.2.2.2.1 x.2.2.2.2.2.2.2.2.2.2.2.2.2.2.1 x.2.2.2.2.2.2.2.2.2.2.2.2.2.2.2.1 x.2.2.2.2.2.2.2.2.2.2.2.2.2.2.2.2.1 x.2.2.2.2.2.2.2.2.2.2.2.2.2.2.2.2.2.1 x.2.2.2.2.2.2.2.2.2.2.2.2.2.2.2.2.2.2.1 x.2.2.2.2.2.2.2.2.2.2.2.2.2.2.2.2.2.2.2.1 x.2.2.2.2.2.2.2.2.2.2.2.2.2.2.2.2.2.2.2.2.1 x.2.2.2.2.2.2.2.2.2.2.2.2.2.2.2.2.2.2.2.2.2.1 x.2.2.2.2.2.2.2.2.2.2.2.2.2.2.2.2.2.2.2.2.2.2.1 x.2.2.2.2.2.2.2.2.2.2.2.2.2.2.2.2.2.2.2.2.2.2.2.1 x.2.2.2.2.2.2.2.2.2.2.2.2.2.2.2.2.2.2.2.2.2.2.2.2.1 x.2.2.2.2.2.2.2.2.2.2.2.2.2.2.2.2.2.2.2.2.2.2.2.2.2.1 x.2.2.2.2.2.2.2.2.2.2.2.2.2.2.2.2.2.2.2.2.2.2.2.2.2.2.1 x.2.2.2.2.2.2.2.2.2.2.2.2.2.2.2.2.2.2.2.2.2.2.2.2.2.2.2.1 x.2.2.2.2.2.2.2.2.2.2.2.2.2.2.2.2.2.2.2.2.2.2.2.2.2.2.2.2) (l20_0, l20_1, i21, h0_0, h0_1, h0_2, h0_3_0, h0_3_1, h0_4_0, h0_4_1, h1_0, h1_1, h1_2, h1_3_0, h1_3_1, h1_4_0, h1_4_1, h2_0, h2_1, h3_0, h3_1, h3_2, h3_3, h3_4, h3_5, h3_6, h3_7, h3_8, h3_9)
def j5_72 (h0_0 h0_1 : Bs) (h0_2 : Int) (h0_3_0 : Bool) (h0_3_1 : List (Bs × Bs)) (h0_4_0 : Bool) (h0_4_1 : List UInt8) (h1_0 : Int) (h1_1 : Bs) (h1_2 : Int) (h1_3_0 : Bool) (h1_3_1 : List (Bs × Bs)) (h1_4_0 : Bool) (h1_4_1 : List UInt8) (h2_0 h2_1 : Bs) (h18_0 h18_1 : Bool) (h18_2 h18_3 : Bool) (h18_4 h18_5 : Bool) (h18_6 h18_7 : Int) (h18_8 h18_9 : Int) : Option R5 :=
  (m26 h1_3_0 h1_3_1 ([99, 111, 110, 110, 101, 99, 116, 105, 111, 110] : Bs)).bind fun yr24 =>
    l5_78 yr24.1 yr24.2 (0 : Int) h0_0 h0_1 h0_2 h0_3_0 h0_3_1 h0_4_0 h0_4_1 h1_0 h1_1 h1_2 h1_3_0 h1_3_1 h1_4_0 h1_4_1 h2_0 h2_1 h18_0 h18_1 h18_2 h18_3 h18_4 h18_5 h18_6 h18_7 h18_8 h18_9
theorem j5_72_t (h0_0 h0_1 : Bs) (h0_2 : Int) (h0_3_0 : Bool) (h0_3_1 : List (Bs × Bs)) (h0_4_0 : Bool) (h0_4_1 : List UInt8) (h1_0 : Int) (h1_1 : Bs) (h1_2 : Int) (h1_3_0 : Bool) (h1_3_1 : List (Bs × Bs)) (h1_4_0 : Bool) (h1_4_1 : List UInt8) (h2_0 h2_1 : Bs) (h18_0 h18_1 : Bool) (h18_2 h18_3 : Bool) (h18_4 h18_5 : Bool) (h18_6 h18_7 : Int) (h18_8 h18_9 : Int) (g3 g4 : Ob) (g5 g6 : Ob) (g7 g8 : Ob) (g9 g10 : Ob) (g11 g12 : Ob) (g13 g14 : Ob) (g15 g16 : Ob) (g17 g19 : Ob) (sl : Sl) (_ : sl 3 = .v (.c (.ptr 0 0))) (_ : sl 4 = .v (.c (.ptr 1 0))) (_ : sl 5 = .v (.c (.ptr 2 0))) (_ : sl 15 = .v (.c (.ptr 18 0))) :
    b5 mm (dn (E0 mm) 5 0 c5_72 sl [.cells [.d (dS h0_0), .d (dS h0_1), .d (dI h0_2), .d (.lst h0_3_0 (enL enSS h0_3_1)), .d (.lst h0_4_0 (enL enB h0_4_1))], .cells [.d (dI h1_0), .d (dS h1_1), .d (dI h1_2), .d (.lst h1_3_0 (enL enSS h1_3_1)), .d (.lst h1_4_0 (enL enB h1_4_1))], .cells [.d (dS h2_0), .d (dS h2_1)], g3, g4, g5, g6, g7, g8, g9, g10, g11, g12, g13, g14, g15, g16, g17, .cells [.d (dB h18_0), .d (dB h18_1), .d (dB h18_2), .d (dB h18_3), .d (dB h18_4), .d (dB h18_5), .d (dI h18_6), .d (dI h18_7), .d (dI h18_8), .d (dI h18_9)], g19]) = (j5_72 h0_0 h0_1 h0_2 h0_3_0 h0_3_1 h0_4_0 h0_4_1 h1_0 h1_1 h1_2 h1_3_0 h1_3_1 h1_4_0 h1_4_1 h2_0 h2_1 h18_0 h18_1 h18_2 h18_3 h18_4 h18_5 h18_6 h18_7 h18_8 h18_9).map e5 := by
  unfold j5_72; exact go (Q (nE c5_72 (.seq c5_73 (.seq (.seq c5_76 (.block 0 c5_78)) c5_95))) k5) @l5_78_t
def j5_67 (t181 : Bool) (h0_0 h0_1 : Bs) (h0_2 : Int) (h0_3_0 : Bool) (h0_3_1 : List (Bs × Bs)) (h0_4_0 : Bool) (h0_4_1 : List UInt8) (h1_0 : Int) (h1_1 : Bs) (h1_2 : Int) (h1_3_0 : Bool) (h1_3_1 : List (Bs × Bs)) (h1_4_0 : Bool) (h1_4_1 : List UInt8) (h2_0 h2_1 : Bs) (h18_0 h18_1 : Bool) (h18_2 h18_3 : Bool) (h18_4 h18_5 : Bool) (h18_6 h18_7 : Int) (h18_8 h18_9 : Int) : Option R5 :=
  if t181 = true then
    some false
  else
    j5_72 h0_0 h0_1 h0_2 h0_3_0 h0_3_1 h0_4_0 h0_4_1 h1_0 h1_1 h1_2 h1_3_0 h1_3_1 h1_4_0 h1_4_1 h2_0 h2_1 h18_0 h18_1 h18_2 h18_3 h18_4 h18_5 h18_6 h18_7 h18_8 h18_9
theorem j5_67_t (t181 : Bool) (h0_0 h0_1 : Bs) (h0_2 : Int) (h0_3_0 : Bool) (h0_3_1 : List (Bs × Bs)) (h0_4_0 : Bool) (h0_4_1 : List UInt8) (h1_0 : Int) (h1_1 : Bs) (h1_2 : Int) (h1_3_0 : Bool) (h1_3_1 : List (Bs × Bs)) (h1_4_0 : Bool) (h1_4_1 : List UInt8) (h2_0 h2_1 : Bs) (h18_0 h18_1 : Bool) (h18_2 h18_3 : Bool) (h18_4 h18_5 : Bool) (h18_6 h18_7 : Int) (h18_8 h18_9 : Int) (g3 g4 : Ob) (g5 g6 : Ob) (g7 g8 : Ob) (g9 g10 : Ob) (g11 g12 : Ob) (g13 g14 : Ob) (g15 g16 : Ob) (g17 g19 : Ob) (sl : Sl) (_ : sl 3 = .v (.c (.ptr 0 0))) (_ : sl 4 = .v (.c (.ptr 1 0))) (_ : sl 5 = .v (.c (.ptr 2 0))) (_ : sl 15 = .v (.c (.ptr 18 0))) (_ : sl 181 = vd (dB t181)) :
    b5 mm (sq (E0 mm) 5 0 c5_72 (dn (E0 mm) 5 0 c5_67 sl [.cells [.d (dS h0_0), .d (dS h0_1), .d (dI h0_2), .d (.lst h0_3_0 (enL enSS h0_3_1)), .d (.lst h0_4_0 (enL enB h0_4_1))], .cells [.d (dI h1_0), .d (dS h1_1), .d (dI h1_2), .d (.lst h1_3_0 (enL enSS h1_3_1)), .d (.lst h1_4_0 (enL enB h1_4_1))], .cells [.d (dS h2_0), .d (dS h2_1)], g3, g4, g5, g6, g7, g8, g9, g10, g11, g12, g13, g14, g15, g16, g17, .cells [.d (dB h18_0), .d (dB h18_1), .d (dB h18_2), .d (dB h18_3), .d (dB h18_4), .d (dB h18_5), .d (dI h18_6), .d (dI h18_7), .d (dI h18_8), .d (dI h18_9)], g19])) = (j5_67 t181 h0_0 h0_1 h0_2 h0_3_0 h0_3_1 h0_4_0 h0_4_1 h1_0 h1_1 h1_2 h1_3_0 h1_3_1 h1_4_0 h1_4_1 h2_0 h2_1 h18_0 h18_1 h18_2 h18_3 h18_4 h18_5 h18_6 h18_7 h18_8 h18_9).map e5 := by
  unfold j5_67; exact go (Q (nE c5_67 (.cond _ (.seq c5_69 .ret) .skip)) k5) @j5_72_t
def j5_72v1 (h0_0 h0_1 : Bs) (h0_2 : Int) (h0_3_0 : Bool) (h0_3_1 : List (Bs × Bs)) (h0_4_0 : Bool) (h0_4_1 : List UInt8) (h1_0 : Int) (h1_1 : Bs) (h1_2 : Int) (h1_3_0 : Bool) (h1_3_1 : List (Bs × Bs)) (h1_4_0 : Bool) (h1_4_1 : List UInt8) (h2_0 h2_1 : Bs) (h18_0 h18_1 : Bool) (h18_2 h18_3 : Bool) (h18_4 h18_5 : Bool) (h18_6 h18_7 : Int) (h18_8 h18_9 : Int) : Option R5 :=
  (m26 h1_3_0 h1_3_1 ([99, 111, 110, 110, 101, 99, 116, 105, 111, 110] : Bs)).bind fun yr58 =>
    l5_78 yr58.1 yr58.2 (0 : Int) h0_0 h0_1 h0_2 h0_3_0 h0_3_1 h0_4_0 h0_4_1 h1_0 h1_1 h1_2 h1_3_0 h1_3_1 h1_4_0 h1_4_1 h2_0 h2_1 h18_0 h18_1 h18_2 h18_3 h18_4 h18_5 h18_6 h18_7 h18_8 h18_9
theorem j5_72v1_t (h0_0 h0_1 : Bs) (h0_2 : Int) (h0_3_0 : Bool) (h0_3_1 : List (Bs × Bs)) (h0_4_0 : Bool) (h0_4_1 : List UInt8) (h1_0 : Int) (h1_1 : Bs) (h1_2 : Int) (h1_3_0 : Bool) (h1_3_1 : List (Bs × Bs)) (h1_4_0 : Bool) (h1_4_1 : List UInt8) (h2_0 h2_1 : Bs) (h18_0 h18_1 : Bool) (h18_2 h18_3 : Bool) (h18_4 h18_5 : Bool) (h18_6 h18_7 : Int) (h18_8 h18_9 : Int) (g3 g4 : Ob) (g5 g6 : Ob) (g7 g8 : Ob) (g9 g10 : Ob) (g11 g12 : Ob) (g13 g14 : Ob) (g15 g16 : Ob) (g17 g19 g20 : Ob) (sl : Sl) (_ : sl 3 = .v (.c (.ptr 0 0))) (_ : sl 4 = .v (.c (.ptr 1 0))) (_ : sl 5 = .v (.c (.ptr 2 0))) (_ : sl 15 = .v (.c (.ptr 18 0))) :
    b5 mm (dn (E0 mm) 5 0 c5_72 sl [.cells [.d (dS h0_0), .d (dS h0_1), .d (dI h0_2), .d (.lst h0_3_0 (enL enSS h0_3_1)), .d (.lst h0_4_0 (enL enB h0_4_1))], .cells [.d (dI h1_0), .d (dS h1_1), .d (dI h1_2), .d (.lst h1_3_0 (enL enSS h1_3_1)), .d (.lst h1_4_0 (enL enB h1_4_1))], .cells [.d (dS h2_0), .d (dS h2_1)], g3, g4, g5, g6, g7, g8, g9, g10, g11, g12, g13, g14, g15, g16, g17, .cells [.d (dB h18_0), .d (dB h18_1), .d (dB h18_2), .d (dB h18_3), .d (dB h18_4), .d (dB h18_5), .d (dI h18_6), .d (dI h18_7), .d (dI h18_8), .d (dI h18_9)], g19, g20]) = (j5_72v1 h0_0 h0_1 h0_2 h0_3_0 h0_3_1 h0_4_0 h0_4_1 h1_0 h1_1 h1_2 h1_3_0 h1_3_1 h1_4_0 h1_4_1 h2_0 h2_1 h18_0 h18_1 h18_2 h18_3 h18_4 h18_5 h18_6 h18_7 h18_8 h18_9).map e5 := by
  unfold j5_72v1; exact go (Q (nE c5_72 (.seq c5_73 (.seq (.seq c5_76 (.block 0 c5_78)) c5_95))) k5) @l5_78_t
def j5_67v1 (t181 : Bool) (h0_0 h0_1 : Bs) (h0_2 : Int) (h0_3_0 : Bool) (h0_3_1 : List (Bs × Bs)) (h0_4_0 : Bool) (h0_4_1 : List UInt8) (h1_0 : Int) (h1_1 : Bs) (h1_2 : Int) (h1_3_0 : Bool) (h1_3_1 : List (Bs × Bs)) (h1_4_0 : Bool) (h1_4_1 : List UInt8) (h2_0 h2_1 : Bs) (h18_0 h18_1 : Bool) (h18_2 h18_3 : Bool) (h18_4 h18_5 : Bool) (h18_6 h18_7 : Int) (h18_8 h18_9 : Int) : Option R5 :=
  if t181 = true then
    some false
  else
    j5_72v1 h0_0 h0_1 h0_2 h0_3_0 h0_3_1 h0_4_0 h0_4_1 h1_0 h1_1 h1_2 h1_3_0 h1_3_1 h1_4_0 h1_4_1 h2_0 h2_1 h18_0 h18_1 h18_2 h18_3 h18_4 h18_5 h18_6 h18_7 h18_8 h18_9
theorem j5_67v1_t (t181 : Bool) (h0_0 h0_1 : Bs) (h0_2 : Int) (h0_3_0 : Bool) (h0_3_1 : List (Bs × Bs)) (h0_4_0 : Bool) (h0_4_1 : List UInt8) (h1_0 : Int) (h1_1 : Bs) (h1_2 : Int) (h1_3_0 : Bool) (h1_3_1 : List (Bs × Bs)) (h1_4_0 : Bool) (h1_4_1 : List UInt8) (h2_0 h2_1 : Bs) (h18_0 h18_1 : Bool) (h18_2 h18_3 : Bool) (h18_4 h18_5 : Bool) (h18_6 h18_7 : Int) (h18_8 h18_9 : Int) (g3 g4 : Ob) (g5 g6 : Ob) (g7 g8 : Ob) (g9 g10 : Ob) (g11 g12 : Ob) (g13 g14 : Ob) (g15 g16 : Ob) (g17 g19 g20 : Ob) (sl : Sl) (_ : sl 3 = .v (.c (.ptr 0 0))) (_ : sl 4 = .v (.c (.ptr 1 0))) (_ : sl 5 = .v (.c (.ptr 2 0))) (_ : sl 15 = .v (.c (.ptr 18 0))) (_ : sl 181 = vd (dB t181)) :
    b5 mm (sq (E0 mm) 5 0 c5_72 (dn (E0 mm) 5 0 c5_67 sl [.cells [.d (dS h0_0), .d (dS h0_1), .d (dI h0_2), .d (.lst h0_3_0 (enL enSS h0_3_1)), .d (.lst h0_4_0 (enL enB h0_4_1))], .cells [.d (dI h1_0), .d (dS h1_1), .d (dI h1_2), .d (.lst h1_3_0 (enL enSS h1_3_1)), .d (.lst h1_4_0 (enL enB h1_4_1))], .cells [.d (dS h2_0), .d (dS h2_1)], g3, g4, g5, g6, g7, g8, g9, g10, g11, g12, g13, g14, g15, g16, g17, .cells [.d (dB h18_0), .d (dB h18_1), .d (dB h18_2), .d (dB h18_3), .d (dB h18_4), .d (dB h18_5), .d (dI h18_6), .d (dI h18_7), .d (dI h18_8), .d (dI h18_9)], g19, g20])) = (j5_67v1 t181 h0_0 h0_1 h0_2 h0_3_0 h0_3_1 h0_4_0 h0_4_1 h1_0 h1_1 h1_2 h1_3_0 h1_3_1 h1_4_0 h1_4_1 h2_0 h2_1 h18_0 h18_1 h18_2 h18_3 h18_4 h18_5 h18_6 h18_7 h18_8 h18_9).map e5 := by
  unfold j5_67v1; exact go (Q (nE c5_67 (.cond _ (.seq c5_69 .ret) .skip)) k5) @j5_72v1_t
def j5_45 (t133 : Bool) (h0_0 h0_1 : Bs) (h0_2 : Int) (h0_3_0 : Bool) (h0_3_1 : List (Bs × Bs)) (h0_4_0 : Bool) (h0_4_1 : List UInt8) (h1_0 : Int) (h1_1 : Bs) (h1_2 : Int) (h1_3_0 : Bool) (h1_3_1 : List (Bs × Bs)) (h1_4_0 : Bool) (h1_4_1 : List UInt8) (h2_0 h2_1 : Bs) : Option R5 :=
  if t133 = true then
    some false
  else
    (m12 h0_0 h0_1 h0_2 h0_3_0 h0_3_1 h0_4_0 h0_4_1 h1_0 h1_1 h1_2 h1_3_0 h1_3_1 h1_4_0 h1_4_1).bind fun yr12 =>
      if yr12 = true then
        (m23 h1_3_0 h1_3_1).bind fun yr15 =>
          (m24 h1_3_0 h1_3_1).bind fun yr17 =>
            (m25 h1_0 h1_1 h1_2 h1_3_0 h1_3_1 h1_4_0 h1_4_1).bind fun yr19 =>
              if (h0_0 == ([71, 69, 84] : Bs)) = true then
                if yr15.1 = true then
                  j5_67 true h0_0 h0_1 h0_2 h0_3_0 h0_3_1 h0_4_0 h0_4_1 h1_0 h1_1 h1_2 h1_3_0 h1_3_1 h1_4_0 h1_4_1 h2_0 h2_1 true yr15.2.1 yr15.2.2.1 yr15.2.2.2.1 yr15.2.2.2.2.1 yr15.2.2.2.2.2.1 yr15.2.2.2.2.2.2.1 yr15.2.2.2.2.2.2.2.1 yr15.2.2.2.2.2.2.2.2.1 yr15.2.2.2.2.2.2.2.2.2
                else
                  if yr15.2.2.1 = true then
                    j5_67 true h0_0 h0_1 h0_2 h0_3_0 h0_3_1 h0_4_0 h0_4_1 h1_0 h1_1 h1_2 h1_3_0 h1_3_1 h1_4_0 h1_4_1 h2_0 h2_1 false yr15.2.1 true yr15.2.2.2.1 yr15.2.2.2.2.1 yr15.2.2.2.2.2.1 yr15.2.2.2.2.2.2.1 yr15.2.2.2.2.2.2.2.1 yr15.2.2.2.2.2.2.2.2.1 yr15.2.2.2.2.2.2.2.2.2
                  else
                    if yr17.2.2 = true then
                      j5_67 true h0_0 h0_1 h0_2 h0_3_0 h0_3_1 h0_4_0 h0_4_1 h1_0 h1_1 h1_2 h1_3_0 h1_3_1 h1_4_0 h1_4_1 h2_0 h2_1 false yr15.2.1 false yr15.2.2.2.1 yr15.2.2.2.2.1 yr15.2.2.2.2.2.1 yr15.2.2.2.2.2.2.1 yr15.2.2.2.2.2.2.2.1 yr15.2.2.2.2.2.2.2.2.1 yr15.2.2.2.2.2.2.2.2.2
                    else
                      if yr19.2 = true then
                        j5_67 false h0_0 h0_1 h0_2 h0_3_0 h0_3_1 h0_4_0 h0_4_1 h1_0 h1_1 h1_2 h1_3_0 h1_3_1 h1_4_0 h1_4_1 h2_0 h2_1 false yr15.2.1 false yr15.2.2.2.1 yr15.2.2.2.2.1 yr15.2.2.2.2.2.1 yr15.2.2.2.2.2.2.1 yr15.2.2.2.2.2.2.2.1 yr15.2.2.2.2.2.2.2.2.1 yr15.2.2.2.2.2.2.2.2.2
                      else
                        if (decide (yr19.1 ≤ 0)) = true then
                          (m15 ([] : Bs) (0 : Int) (0 : Int) true ([] : List (Bs × Bs)) h1_0 h1_1 h1_2 h1_3_0 h1_3_1 h1_4_0 h1_4_1).bind fun yr53 =>
                            match yr53 with
                            | .inl yr54 =>
                              j5_67v1 ((yr54.2.length : Int) == 0) h0_0 h0_1 h0_2 h0_3_0 h0_3_1 h0_4_0 h0_4_1 h1_0 h1_1 h1_2 h1_3_0 h1_3_1 h1_4_0 h1_4_1 h2_0 h2_1 false yr15.2.1 false yr15.2.2.2.1 yr15.2.2.2.2.1 yr15.2.2.2.2.2.1 yr15.2.2.2.2.2.2.1 yr15.2.2.2.2.2.2.2.1 yr15.2.2.2.2.2.2.2.2.1 yr15.2.2.2.2.2.2.2.2.2
                            | .inr yr55 =>
                              j5_67 ((yr55.2.length : Int) == 0) h0_0 h0_1 h0_2 h0_3_0 h0_3_1 h0_4_0 h0_4_1 h1_0 h1_1 h1_2 h1_3_0 h1_3_1 h1_4_0 h1_4_1 h2_0 h2_1 false yr15.2.1 false yr15.2.2.2.1 yr15.2.2.2.2.1 yr15.2.2.2.2.2.1 yr15.2.2.2.2.2.2.1 yr15.2.2.2.2.2.2.2.1 yr15.2.2.2.2.2.2.2.2.1 yr15.2.2.2.2.2.2.2.2.2
                        else
                          j5_67 false h0_0 h0_1 h0_2 h0_3_0 h0_3_1 h0_4_0 h0_4_1 h1_0 h1_1 h1_2 h1_3_0 h1_3_1 h1_4_0 h1_4_1 h2_0 h2_1 false yr15.2.1 false yr15.2.2.2.1 yr15.2.2.2.2.1 yr15.2.2.2.2.2.1 yr15.2.2.2.2.2.2.1 yr15.2.2.2.2.2.2.2.1 yr15.2.2.2.2.2.2.2.2.1 yr15.2.2.2.2.2.2.2.2.2
              else
                j5_67 true h0_0 h0_1 h0_2 h0_3_0 h0_3_1 h0_4_0 h0_4_1 h1_0 h1_1 h1_2 h1_3_0 h1_3_1 h1_4_0 h1_4_1 h2_0 h2_1 yr15.1 yr15.2.1 yr15.2.2.1 yr15.2.2.2.1 yr15.2.2.2.2.1 yr15.2.2.2.2.2.1 yr15.2.2.2.2.2.2.1 yr15.2.2.2.2.2.2.2.1 yr15.2.2.2.2.2.2.2.2.1 yr15.2.2.2.2.2.2.2.2.2
      else
        some true
theorem j5_45_t (t133 : Bool) (h0_0 h0_1 : Bs) (h0_2 : Int) (h0_3_0 : Bool) (h0_3_1 : List (Bs × Bs)) (h0_4_0 : Bool) (h0_4_1 : List UInt8) (h1_0 : Int) (h1_1 : Bs) (h1_2 : Int) (h1_3_0 : Bool) (h1_3_1 : List (Bs × Bs)) (h1_4_0 : Bool) (h1_4_1 : List UInt8) (h2_0 h2_1 : Bs) (g3 g4 : Ob) (g5 g6 : Ob) (g7 g8 : Ob) (g9 g10 : Ob) (g11 g12 : Ob) (g13 g14 : Ob) (g15 g16 g17 : Ob) (sl : Sl) (_ : sl 3 = .v (.c (.ptr 0 0))) (_ : sl 4 = .v (.c (.ptr 1 0))) (_ : sl 5 = .v (.c (.ptr 2 0))) (_ : sl 133 = vd (dB t133)) :
    b5 mm (sq (E0 mm) 5 0 c5_50 (dn (E0 mm) 5 0 c5_45 sl [.cells [.d (dS h0_0), .d (dS h0_1), .d (dI h0_2), .d (.lst h0_3_0 (enL enSS h0_3_1)), .d (.lst h0_4_0 (enL enB h0_4_1))], .cells [.d (dI h1_0), .d (dS h1_1), .d (dI h1_2), .d (.lst h1_3_0 (enL enSS h1_3_1)), .d (.lst h1_4_0 (enL enB h1_4_1))], .cells [.d (dS h2_0), .d (dS h2_1)], g3, g4, g5, g6, g7, g8, g9, g10, g11, g12, g13, g14, g15, g16, g17])) = (j5_45 t133 h0_0 h0_1 h0_2 h0_3_0 h0_3_1 h0_4_0 h0_4_1 h1_0 h1_1 h1_2 h1_3_0 h1_3_1 h1_4_0 h1_4_1 h2_0 h2_1).map e5 := by
  unfold j5_45; exact go (Q (nE c5_45 (.cond _ (.seq c5_47 .ret) .skip)) k5) (Q @j5_67_t @j5_67v1_t)
def j5_21 (t72 : Bool) (h0_0 h0_1 : Bs) (h0_2 : Int) (h0_3_0 : Bool) (h0_3_1 : List (Bs × Bs)) (h0_4_0 : Bool) (h0_4_1 : List UInt8) (h1_0 : Int) (h1_1 : Bs) (h1_2 : Int) (h1_3_0 : Bool) (h1_3_1 : List (Bs × Bs)) (h1_4_0 : Bool) (h1_4_1 : List UInt8) (h2_0 h2_1 : Bs) : Option R5 :=
  if t72 = true then
    some false
  else
    if h0_3_1.isEmpty = true then
      (m12 h0_0 h0_1 h0_2 false ([(([82, 65, 78, 71, 69] : Bs), ([98, 121, 116, 101, 115, 61, 48, 45] : Bs))] : List (Bs × Bs)) h0_4_0 h0_4_1 h1_0 h1_1 h1_2 h1_3_0 h1_3_1 h1_4_0 h1_4_1).bind fun yr8 =>
        if yr8 = true then
          j5_45 true h0_0 h0_1 h0_2 h0_3_0 h0_3_1 h0_4_0 h0_4_1 h1_0 h1_1 h1_2 h1_3_0 h1_3_1 h1_4_0 h1_4_1 h2_0 h2_1
        else
          (m12 h0_0 h0_1 h0_2 false ([(([73, 102, 45, 78, 111, 110, 101, 45, 77, 97, 116, 99, 104] : Bs), ([42] : Bs))] : List (Bs × Bs)) h0_4_0 h0_4_1 h1_0 h1_1 h1_2 h1_3_0 h1_3_1 h1_4_0 h1_4_1).bind fun yr60 =>
            if yr60 = true then
              j5_45 true h0_0 h0_1 h0_2 h0_3_0 h0_3_1 h0_4_0 h0_4_1 h1_0 h1_1 h1_2 h1_3_0 h1_3_1 h1_4_0 h1_4_1 h2_0 h2_1
            else
              (m12 h0_0 h0_1 h0_2 false ([(([67, 97, 99, 104, 101, 45, 67, 111, 110, 116, 114, 111, 108] : Bs), ([110, 111, 45, 115, 116, 111, 114, 101] : Bs))] : List (Bs × Bs)) h0_4_0 h0_4_1 h1_0 h1_1 h1_2 h1_3_0 h1_3_1 h1_4_0 h1_4_1).bind fun yr63 =>
                if yr63 = true then
                  j5_45 true h0_0 h0_1 h0_2 h0_3_0 h0_3_1 h0_4_0 h0_4_1 h1_0 h1_1 h1_2 h1_3_0 h1_3_1 h1_4_0 h1_4_1 h2_0 h2_1
                else
                  (m21 h0_0 h0_1 h0_2 false ([(([82, 65, 78, 71, 69] : Bs), ([98, 121, 116, 101, 115, 61, 48, 45] : Bs))] : List (Bs × Bs)) h0_4_0 h0_4_1).bind fun yr66 =>
                    if yr66 = true then
                      j5_45 true h0_0 h0_1 h0_2 h0_3_0 h0_3_1 h0_4_0 h0_4_1 h1_0 h1_1 h1_2 h1_3_0 h1_3_1 h1_4_0 h1_4_1 h2_0 h2_1
                    else
                      (m21 h0_0 h0_1 h0_2 false ([(([73, 102, 45, 78, 111, 110, 101, 45, 77, 97, 116, 99, 104] : Bs), ([42] : Bs))] : List (Bs × Bs)) h0_4_0 h0_4_1).bind fun yr69 =>
                        if yr69 = true then
                          j5_45 true h0_0 h0_1 h0_2 h0_3_0 h0_3_1 h0_4_0 h0_4_1 h1_0 h1_1 h1_2 h1_3_0 h1_3_1 h1_4_0 h1_4_1 h2_0 h2_1
                        else
                          (m21 h0_0 h0_1 h0_2 h0_3_0 h0_3_1 false ([(120 : UInt8)] : List UInt8)).bind fun yr72 =>
                            if yr72 = true then
                              j5_45 true h0_0 h0_1 h0_2 h0_3_0 h0_3_1 h0_4_0 h0_4_1 h1_0 h1_1 h1_2 h1_3_0 h1_3_1 h1_4_0 h1_4_1 h2_0 h2_1
                            else
                              (m21 h0_0 h0_1 h0_2 false ([(([67, 97, 99, 104, 101, 45, 67, 111, 110, 116, 114, 111, 108] : Bs), ([110, 111, 45, 115, 116, 111, 114, 101] : Bs))] : List (Bs × Bs)) h0_4_0 h0_4_1).bind fun yr75 =>
                                if yr75 = true then
                                  j5_45 true h0_0 h0_1 h0_2 h0_3_0 h0_3_1 h0_4_0 h0_4_1 h1_0 h1_1 h1_2 h1_3_0 h1_3_1 h1_4_0 h1_4_1 h2_0 h2_1
                                else
                                  (m22 h0_0 h0_1 h0_2 false ([(([67, 97, 99, 104, 101, 45, 67, 111, 110, 116, 114, 111, 108] : Bs), ([110, 111, 45, 115, 116, 111, 114, 101] : Bs))] : List (Bs × Bs)) h0_4_0 h0_4_1).bind fun yr78 =>
                                    j5_45 yr78 h0_0 h0_1 h0_2 h0_3_0 h0_3_1 h0_4_0 h0_4_1 h1_0 h1_1 h1_2 h1_3_0 h1_3_1 h1_4_0 h1_4_1 h2_0 h2_1
    else
      if h0_3_1.length * 32 ≤ 140737488355328 then
        if (h0_3_1.length + 1) * 32 ≤ 140737488355328 then
          (m12 h0_0 h0_1 h0_2 false (h0_3_1 ++ ([(([82, 65, 78, 71, 69] : Bs), ([98, 121, 116, 101, 115, 61, 48, 45] : Bs))] : List (Bs × Bs))) h0_4_0 h0_4_1 h1_0 h1_1 h1_2 h1_3_0 h1_3_1 h1_4_0 h1_4_1).bind fun yr82 =>
            if yr82 = true then
              j5_45 true h0_0 h0_1 h0_2 h0_3_0 h0_3_1 h0_4_0 h0_4_1 h1_0 h1_1 h1_2 h1_3_0 h1_3_1 h1_4_0 h1_4_1 h2_0 h2_1
            else
              (m12 h0_0 h0_1 h0_2 false (h0_3_1 ++ ([(([73, 102, 45, 78, 111, 110, 101, 45, 77, 97, 116, 99, 104] : Bs), ([42] : Bs))] : List (Bs × Bs))) h0_4_0 h0_4_1 h1_0 h1_1 h1_2 h1_3_0 h1_3_1 h1_4_0 h1_4_1).bind fun yr85 =>
                if yr85 = true then
                  j5_45 true h0_0 h0_1 h0_2 h0_3_0 h0_3_1 h0_4_0 h0_4_1 h1_0 h1_1 h1_2 h1_3_0 h1_3_1 h1_4_0 h1_4_1 h2_0 h2_1
                else
                  (m12 h0_0 h0_1 h0_2 false (h0_3_1 ++ ([(([67, 97, 99, 104, 101, 45, 67, 111, 110, 116, 114, 111, 108] : Bs), ([110, 111, 45, 115, 116, 111, 114, 101] : Bs))] : List (Bs × Bs))) h0_4_0 h0_4_1 h1_0 h1_1 h1_2 h1_3_0 h1_3_1 h1_4_0 h1_4_1).bind fun yr88 =>
                    if yr88 = true then
                      j5_45 true h0_0 h0_1 h0_2 h0_3_0 h0_3_1 h0_4_0 h0_4_1 h1_0 h1_1 h1_2 h1_3_0 h1_3_1 h1_4_0 h1_4_1 h2_0 h2_1
                    else
                      (m21 h0_0 h0_1 h0_2 false (h0_3_1 ++ ([(([82, 65, 78, 71, 69] : Bs), ([98, 121, 116, 101, 115, 61, 48, 45] : Bs))] : List (Bs × Bs))) h0_4_0 h0_4_1).bind fun yr91 =>
                        if yr91 = true then
                          j5_45 true h0_0 h0_1 h0_2 h0_3_0 h0_3_1 h0_4_0 h0_4_1 h1_0 h1_1 h1_2 h1_3_0 h1_3_1 h1_4_0 h1_4_1 h2_0 h2_1
                        else
                          (m21 h0_0 h0_1 h0_2 false (h0_3_1 ++ ([(([73, 102, 45, 78, 111, 110, 101, 45, 77, 97, 116, 99, 104] : Bs), ([42] : Bs))] : List (Bs × Bs))) h0_4_0 h0_4_1).bind fun yr94 =>
                            if yr94 = true then
                              j5_45 true h0_0 h0_1 h0_2 h0_3_0 h0_3_1 h0_4_0 h0_4_1 h1_0 h1_1 h1_2 h1_3_0 h1_3_1 h1_4_0 h1_4_1 h2_0 h2_1
                            else
                              (m21 h0_0 h0_1 h0_2 h0_3_0 h0_3_1 false ([(120 : UInt8)] : List UInt8)).bind fun yr97 =>
                                if yr97 = true then
                                  j5_45 true h0_0 h0_1 h0_2 h0_3_0 h0_3_1 h0_4_0 h0_4_1 h1_0 h1_1 h1_2 h1_3_0 h1_3_1 h1_4_0 h1_4_1 h2_0 h2_1
                                else
                                  (m21 h0_0 h0_1 h0_2 false (h0_3_1 ++ ([(([67, 97, 99, 104, 101, 45, 67, 111, 110, 116, 114, 111, 108] : Bs), ([110, 111, 45, 115, 116, 111, 114, 101] : Bs))] : List (Bs × Bs))) h0_4_0 h0_4_1).bind fun yr100 =>
                                    if yr100 = true then
                                      j5_45 true h0_0 h0_1 h0_2 h0_3_0 h0_3_1 h0_4_0 h0_4_1 h1_0 h1_1 h1_2 h1_3_0 h1_3_1 h1_4_0 h1_4_1 h2_0 h2_1
                                    else
                                      (m22 h0_0 h0_1 h0_2 false (h0_3_1 ++ ([(([67, 97, 99, 104, 101, 45, 67, 111, 110, 116, 114, 111, 108] : Bs), ([110, 111, 45, 115, 116, 111, 114, 101] : Bs))] : List (Bs × Bs))) h0_4_0 h0_4_1).bind fun yr103 =>
                                        j5_45 yr103 h0_0 h0_1 h0_2 h0_3_0 h0_3_1 h0_4_0 h0_4_1 h1_0 h1_1 h1_2 h1_3_0 h1_3_1 h1_4_0 h1_4_1 h2_0 h2_1
        else none
      else none
theorem j5_21_t (t72 : Bool) (h0_0 h0_1 : Bs) (h0_2 : Int) (h0_3_0 : Bool) (h0_3_1 : List (Bs × Bs)) (h0_4_0 : Bool) (h0_4_1 : List UInt8) (h1_0 : Int) (h1_1 : Bs) (h1_2 : Int) (h1_3_0 : Bool) (h1_3_1 : List (Bs × Bs)) (h1_4_0 : Bool) (h1_4_1 : List UInt8) (h2_0 h2_1 : Bs) (g3 g4 : Ob) (g5 g6 : Ob) (g7 g8 : Ob) (g9 g10 : Ob) (sl : Sl) (_ : sl 3 = .v (.c (.ptr 0 0))) (_ : sl 4 = .v (.c (.ptr 1 0))) (_ : sl 5 = .v (.c (.ptr 2 0))) (_ : sl 72 = vd (dB t72)) :
    b5 mm (sq (E0 mm) 5 0 c5_26 (dn (E0 mm) 5 0 c5_21 sl [.cells [.d (dS h0_0), .d (dS h0_1), .d (dI h0_2), .d (.lst h0_3_0 (enL enSS h0_3_1)), .d (.lst h0_4_0 (enL enB h0_4_1))], .cells [.d (dI h1_0), .d (dS h1_1), .d (dI h1_2), .d (.lst h1_3_0 (enL enSS h1_3_1)), .d (.lst h1_4_0 (enL enB h1_4_1))], .cells [.d (dS h2_0), .d (dS h2_1)], g3, g4, g5, g6, g7, g8, g9, g10])) = (j5_21 t72 h0_0 h0_1 h0_2 h0_3_0 h0_3_1 h0_4_0 h0_4_1 h1_0 h1_1 h1_2 h1_3_0 h1_3_1 h1_4_0 h1_4_1 h2_0 h2_1).map e5 := by
  unfold j5_21; exact go (Q (nE c5_21 (.cond _ (.seq c5_23 .ret) .skip)) k5) @j5_45_t
def m5 (r0_0 r0_1 : Bs) (r0_2 : Int) (r0_3 : Bool) (r0_4 : List (Bs × Bs)) (r0_5 : Bool) (r0_6 : List UInt8) (x0_0 : Int) (x0_1 : Bs) (x0_2 : Int) (x0_3 : Bool) (x0_4 : List (Bs × Bs)) (x0_5 : Bool) (x0_6 : List UInt8) (f_0 f_1 : Bs) : Option R5 :=
  if x0_4.isEmpty = true then
    (m12 r0_0 r0_1 r0_2 r0_3 r0_4 r0_5 r0_6 x0_0 x0_1 x0_2 false ([(([99, 97, 99, 104, 101, 45, 67, 79, 78, 84, 82, 79, 76] : Bs), ([78, 111, 45, 83, 116, 111, 114, 101] : Bs))] : List (Bs × Bs)) x0_5 x0_6).bind fun yr3 =>
      if yr3 = true then
        j5_21 true r0_0 r0_1 r0_2 r0_3 r0_4 r0_5 r0_6 x0_0 x0_1 x0_2 x0_3 x0_4 x0_5 x0_6 f_0 f_1
      else
        (m12 r0_0 r0_1 r0_2 r0_3 r0_4 r0_5 r0_6 x0_0 x0_1 x0_2 false ([(([67, 97, 99, 104, 101, 45, 67, 111, 110, 116, 114, 111, 108] : Bs), ([112, 114, 105, 118, 97, 116, 101, 61, 120] : Bs))] : List (Bs × Bs)) x0_5 x0_6).bind fun yr105 =>
          if yr105 = true then
            j5_21 true r0_0 r0_1 r0_2 r0_3 r0_4 r0_5 r0_6 x0_0 x0_1 x0_2 x0_3 x0_4 x0_5 x0_6 f_0 f_1
          else
            (m12 r0_0 r0_1 r0_2 r0_3 r0_4 r0_5 r0_6 x0_0 x0_1 x0_2 false ([(([86, 65, 82, 89] : Bs), ([97, 44, 32, 42] : Bs))] : List (Bs × Bs)) x0_5 x0_6).bind fun yr108 =>
              if yr108 = true then
                j5_21 true r0_0 r0_1 r0_2 r0_3 r0_4 r0_5 r0_6 x0_0 x0_1 x0_2 x0_3 x0_4 x0_5 x0_6 f_0 f_1
              else
                (m12 r0_0 r0_1 r0_2 r0_3 r0_4 r0_5 r0_6 x0_0 x0_1 x0_2 false ([(([67, 111, 110, 110, 101, 99, 116, 105, 111, 110] : Bs), ([88, 44, 32, 67, 97, 99, 104, 101, 45, 67, 111, 110, 116, 114, 111, 108] : Bs))] : List (Bs × Bs)) x0_5 x0_6).bind fun yr111 =>
                  j5_21 yr111 r0_0 r0_1 r0_2 r0_3 r0_4 r0_5 r0_6 x0_0 x0_1 x0_2 x0_3 x0_4 x0_5 x0_6 f_0 f_1
  else
    if x0_4.length * 32 ≤ 140737488355328 then
      if (x0_4.length + 1) * 32 ≤ 140737488355328 then
        (m12 r0_0 r0_1 r0_2 r0_3 r0_4 r0_5 r0_6 x0_0 x0_1 x0_2 false (x0_4 ++ ([(([99, 97, 99, 104, 101, 45, 67, 79, 78, 84, 82, 79, 76] : Bs), ([78, 111, 45, 83, 116, 111, 114, 101] : Bs))] : List (Bs × Bs))) x0_5 x0_6).bind fun yr115 =>
          if yr115 = true then
            j5_21 true r0_0 r0_1 r0_2 r0_3 r0_4 r0_5 r0_6 x0_0 x0_1 x0_2 x0_3 x0_4 x0_5 x0_6 f_0 f_1
          else
            (m12 r0_0 r0_1 r0_2 r0_3 r0_4 r0_5 r0_6 x0_0 x0_1 x0_2 false (x0_4 ++ ([(([67, 97, 99, 104, 101, 45, 67, 111, 110, 116, 114, 111, 108] : Bs), ([112, 114, 105, 118, 97, 116, 101, 61, 120] : Bs))] : List (Bs × Bs))) x0_5 x0_6).bind fun yr118 =>
              if yr118 = true then
                j5_21 true r0_0 r0_1 r0_2 r0_3 r0_4 r0_5 r0_6 x0_0 x0_1 x0_2 x0_3 x0_4 x0_5 x0_6 f_0 f_1
              else
                (m12 r0_0 r0_1 r0_2 r0_3 r0_4 r0_5 r0_6 x0_0 x0_1 x0_2 false (x0_4 ++ ([(([86, 65, 82, 89] : Bs), ([97, 44, 32, 42] : Bs))] : List (Bs × Bs))) x0_5 x0_6).bind fun yr121 =>
                  if yr121 = true then
                    j5_21 true r0_0 r0_1 r0_2 r0_3 r0_4 r0_5 r0_6 x0_0 x0_1 x0_2 x0_3 x0_4 x0_5 x0_6 f_0 f_1
                  else
                    (m12 r0_0 r0_1 r0_2 r0_3 r0_4 r0_5 r0_6 x0_0 x0_1 x0_2 false (x0_4 ++ ([(([67, 111, 110, 110, 101, 99, 116, 105, 111, 110] : Bs), ([88, 44, 32, 67, 97, 99, 104, 101, 45, 67, 111, 110, 116, 114, 111, 108] : Bs))] : List (Bs × Bs))) x0_5 x0_6).bind fun yr124 =>
                      j5_21 yr124 r0_0 r0_1 r0_2 r0_3 r0_4 r0_5 r0_6 x0_0 x0_1 x0_2 x0_3 x0_4 x0_5 x0_6 f_0 f_1
      else none
    else none
theorem f5_t (r0_0 r0_1 : Bs) (r0_2 : Int) (r0_3 : Bool) (r0_4 : List (Bs × Bs)) (r0_5 : Bool) (r0_6 : List UInt8) (x0_0 : Int) (x0_1 : Bs) (x0_2 : Int) (x0_3 : Bool) (x0_4 : List (Bs × Bs)) (x0_5 : Bool) (x0_6 : List UInt8) (f_0 f_1 : Bs) :
    callW (E0 mm) 5 [.agg [.d (dS r0_0), .d (dS r0_1), .d (dI r0_2), .d (.lst r0_3 (enL enSS r0_4)), .d (.lst r0_5 (enL enB r0_6))], .agg [.d (dI x0_0), .d (dS x0_1), .d (dI x0_2), .d (.lst x0_3 (enL enSS x0_4)), .d (.lst x0_5 (enL enB x0_6))], .agg [.d (dS f_0), .d (dS f_1)]] [] = (m5 r0_0 r0_1 r0_2 r0_3 r0_4 r0_5 r0_6 x0_0 x0_1 x0_2 x0_3 x0_4 x0_5 x0_6 f_0 f_1).map e5 := by
  rw [cR c5_0 [.tmp 6] Tryz.func5]
  unfold m5; exact go k5 @j5_21_t
end
end Go.Proofs.YtbkobjepahlegaaGreatDoor
