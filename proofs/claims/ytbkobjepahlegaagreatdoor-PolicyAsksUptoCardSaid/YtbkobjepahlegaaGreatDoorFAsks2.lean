/- The Go functions as plain functions, and that the evaluator computes them. -/
import Derived.Test.YtbkobjepahlegaaGreatDoorFAsks1
set_option linter.all false
set_option maxRecDepth 100000
namespace Go.Proofs.YtbkobjepahlegaaGreatDoor
open Go Go.Ab
open Nat renaming reduceEqDiff → za, reduceAdd → zb, reduceLeDiff → zc, reduceLT → zd, reduceMul → ze, reduceBEq → zf, reduceSub → zg, reducePow → zh
open Int renaming reduceEq → zi, reduceLE → zj, reduceLT → zk, reduceToNat → zl, reduceNegSucc → zm, reduceAdd → zn, reduceBEq → zo
open String renaming reduceBEq → zp
set_option maxHeartbeats 4000000
noncomputable section
variable {mm : Int}
noncomputable def c104_0 : Code := bodyOf Tryz.f104
def c104_1 := cA c104_0
def c104_4 := cA (cA (cB c104_0))
def c104_7 := cA (cA (cB (cA (cB c104_0))))
def c104_11 := cA (cB (cB c104_0))
def c104_13 := cA (cB (cB (cB c104_0)))
def c104_16 := cA (cA (cB (cB (cB (cB c104_0)))))
def c104_17 := cB (cA (cB (cB (cB (cB c104_0)))))
def c104_19 := cA (cA c104_17)
def c104_22 := cB (cB (cB (cB (cB c104_0))))
def c104_23 := cA c104_22
def c104_26 := cA (cA (cB c104_22))
def c104_28 := cA (cB (cA (cB c104_22)))
def c104_29 := cA c104_28
def c104_30 := cA c104_29
def c104_38 := cA (cA (cA (cB (cB c104_29))))
def c104_39 := cB (cA (cA (cB (cB c104_29))))
def c104_40 := cB (cB (cB c104_29))
def c104_41 := cB (cB c104_22)
def c104_42 := cA c104_41
def c104_45 := cA (cA (cB c104_41))
def c104_47 := cA (cB (cA (cB c104_41)))
def c104_48 := cB (cB (cA (cB c104_41)))
def c104_50 := cA (cA c104_48)
def c104_53 := cB (cB c104_41)
def c104_54 := cA c104_53
def L104_28 : List (Nat × Co) := [(0, .keep), (5, .keep), (7, .keep), (53, .keep), (54, .keep)]
abbrev b104 (mm : Int) := bodyD (E0 mm) [.tmp 2, .tmp 3] 0 false
abbrev R104 := (Int × Int)
def e104 (x : R104) : AV × Heap := (.tup [cd (dU x.1), cd (dI x.2)], [])
def j104_48 (n9 : Int) (t91 : Bool) : Option R104 :=
  if t91 = true then
    some ((0 : Int), (5 : Int))
  else
    some (n9, (0 : Int))
def K104_28 (mm : Int) (r : Option (Ex × St)) : Option (AV × Heap) := b104 mm (sq (E0 mm) 104 0 c104_41 (blockD 0 (r)))
def en104_28 (x : (Bs × Int × Int × Int × Int)) : X := (none, [vd (dS x.1), vd (dI x.2.1), vd (dI x.2.2.1), vd (dI x.2.2.2.1), vd (dI x.2.2.2.2)], [])
def k104 := Q (rx c104_50) (Q (rx c104_54) (Q (fun mm => ry (E0 mm) c104_42) (Q @ent134 (Q @prm134 (Q @f134_t (Q @e134.eq_1 (Q (rx c104_45) (Q @ent137 (Q @prm137 (Q @f137_t (Q @e137.eq_1 (Q (rx c104_47) (Q (rx c104_30) (Q (rx c104_38) (Q (rx c104_39) (Q @f135_t (Q @e135.eq_1 (Q (rx c104_40) (Q @K104_28.eq_1 (Q (rx c104_19) (Q (rx c104_23) (Q @f136_t (Q @e136.eq_1 (Q (rx c104_26) (Q (fun mm => lx (E0 mm) 104 c104_28 c104_29 L104_28) (Q (rx c104_1) (Q (rx c104_4) (Q (rx c104_11) (Q @ent117 (Q @prm117 (Q (fun (mm : Int) (s : Bs) (yk3 : Nat) (yk5 : Nat) => (show callW (E0 mm) 117 [cd (dS ([74, 97, 110, 70, 101, 98, 77, 97, 114, 65, 112, 114, 77, 97, 121, 74, 117, 110, 74, 117, 108, 65, 117, 103, 83, 101, 112, 79, 99, 116, 78, 111, 118, 68, 101, 99] : Bs)), cd (dS ((s.take yk3).drop yk5))] [] = _ from f117_t ([74, 97, 110, 70, 101, 98, 77, 97, 114, 65, 112, 114, 77, 97, 121, 74, 117, 110, 74, 117, 108, 65, 117, 103, 83, 101, 112, 79, 99, 116, 78, 111, 118, 68, 101, 99] : Bs) ((s.take yk3).drop yk5))) (Q @f117_t (Q @e117.eq_1 (Q (fun mm => ry (E0 mm) c104_13) (Q (rx c104_16) (Q (rx c104_7) (Q (nE c104_0 (.seq c104_1 (.seq (.seq c104_4 (.cond _ (.seq c104_7 .ret) .skip)) (.seq c104_11 (.seq c104_13 (.seq (.seq c104_16 c104_17) c104_22)))))) (Q (nE c104_22 (.seq c104_23 (.seq (.seq c104_26 (.block 0 c104_28)) c104_41))) (Q (nE c104_29 (.seq c104_30 (.seq (.cond _ .skip (.exit 0)) (.seq (.block 1 (.seq c104_38 c104_39)) c104_40)))) (Q (nE c104_53 (.seq c104_54 .ret)) (Q @en104_28.eq_1 (Q @L104_28.eq_1 hA))))))))))))))))))))))))))))))))))))))))))
theorem j104_48_t (n9 : Int) (t91 : Bool)  (sl : Sl) (_ : sl 9 = vd (dU n9)) (_ : sl 91 = vd (dB t91)) :
    b104 mm (sq (E0 mm) 104 0 c104_53 (dn (E0 mm) 104 0 c104_48 sl [])) = (j104_48 n9 t91).map e104 := by
  unfold j104_48; exact go (Q (nE c104_48 (.cond _ (.seq c104_50 .ret) .skip)) k104) trivial
def j104_41 (s0 : Bs) (d7 : Int) : Option R104 :=
  (bnd 19 s0.length).bind fun yk28 =>
    (bnd 17 yk28).bind fun yk30 =>
      (m134 ((s0.take yk28).drop yk30)).bind fun yr32 =>
        (bnd 22 s0.length).bind fun yk34 =>
          (bnd 20 yk34).bind fun yk36 =>
            (m134 ((s0.take yk34).drop yk36)).bind fun yr38 =>
              (bnd 25 s0.length).bind fun yk40 =>
                (bnd 23 yk40).bind fun yk42 =>
                  (m134 ((s0.take yk40).drop yk42)).bind fun yr44 =>
                    (m137 (wu64 (w64 ((w64 ((w64 ((w64 (d7 * 86400)) + (w64 (yr32 * 3600)))) + (w64 (yr38 * 60)))) + yr44)))).bind fun yr46 =>
                      if (yr46.2 == 0) = true then
                        j104_48 (wu64 (w64 ((w64 ((w64 ((w64 (d7 * 86400)) + (w64 (yr32 * 3600)))) + (w64 (yr38 * 60)))) + yr44))) (!(yr46.1 == s0))
                      else
                        j104_48 (wu64 (w64 ((w64 ((w64 ((w64 (d7 * 86400)) + (w64 (yr32 * 3600)))) + (w64 (yr38 * 60)))) + yr44))) true
theorem j104_41_t (s0 : Bs) (d7 : Int)  (sl : Sl) (_ : sl 0 = vd (dS s0)) (_ : sl 7 = vd (dI d7)) :
    b104 mm (dn (E0 mm) 104 0 c104_41 sl []) = (j104_41 s0 d7).map e104 := by
  unfold j104_41; exact go (Q (nE c104_41 (.seq c104_42 (.seq (.seq c104_45 (.seq c104_47 c104_48)) c104_53))) k104) @j104_48_t
def s104_28 (s0 : Bs) (year5 d7 : Int) (t53 t54 : Int) : Option ((Bs × Int × Int × Int × Int) ⊕ R104) :=
  if (decide (t54 < t53)) = true then
    (m135 year5 t54).bind fun yr26 =>
      some (.inl (s0, year5, (w64 (d7 + yr26)), t53, (w64 (t54 + 1))))
  else
    (j104_41 s0 d7).map .inr
theorem s104_28_t (s0 : Bs) (year5 d7 : Int) (t53 t54 : Int) :
    stepE (K104_28 mm) (lp (E0 mm) 104 0 c104_29 L104_28 (en104_28 (s0, year5, d7, t53, t54))) = (s104_28 s0 year5 d7 t53 t54).map (sm en104_28 e104) := by
  unfold s104_28; exact go k104 @j104_41_t
def l104_28 (s0 : Bs) (year5 d7 : Int) (t53 t54 : Int) : Option R104 := iter (fun x : (Bs × Int × Int × Int × Int) => s104_28 x.1 x.2.1 x.2.2.1 x.2.2.2.1 x.2.2.2.2) (s0, year5, d7, t53, t54)
theorem l104_28_t (s0 : Bs) (year5 d7 : Int) (t53 t54 : Int) : (K104_28 mm) (itW (lp (E0 mm) 104 0 c104_29 L104_28) (en104_28 (s0, year5, d7, t53, t54))) = (l104_28 s0 year5 d7 t53 t54).map e104 :=
  it_sim (K := (K104_28 mm)) rfl (enc := en104_28) (fun x => s104_28_t x.1 x.2.1 x.2.2.1 x.2.2.2.1 x.2.2.2.2) (s0, year5, d7, t53, t54)
def j104_17 (s0 : Bs) (at4 year5 date6 : Int) (t46 : Bool) : Option R104 :=
  if t46 = true then
    some ((0 : Int), (5 : Int))
  else
    (m136 year5).bind fun yr23 =>
      l104_28 s0 year5 (w64 ((w64 (yr23 + date6)) - 1)) (w64 (at4.tdiv 3)) (0 : Int)
theorem j104_17_t (s0 : Bs) (at4 year5 date6 : Int) (t46 : Bool)  (sl : Sl) (_ : sl 0 = vd (dS s0)) (_ : sl 4 = vd (dI at4)) (_ : sl 5 = vd (dI year5)) (_ : sl 6 = vd (dI date6)) (_ : sl 46 = vd (dB t46)) :
    b104 mm (sq (E0 mm) 104 0 c104_22 (dn (E0 mm) 104 0 c104_17 sl [])) = (j104_17 s0 at4 year5 date6 t46).map e104 := by
  unfold j104_17; exact go (Q (nE c104_17 (.cond _ (.seq c104_19 .ret) .skip)) k104) @l104_28_t
def m104 (s : Bs) : Option R104 :=
  if ((s.length : Int) == 29) = true then
    (bnd 11 s.length).bind fun yk3 =>
      (bnd 8 yk3).bind fun yk5 =>
        (m117 ([74, 97, 110, 70, 101, 98, 77, 97, 114, 65, 112, 114, 77, 97, 121, 74, 117, 110, 74, 117, 108, 65, 117, 103, 83, 101, 112, 79, 99, 116, 78, 111, 118, 68, 101, 99] : Bs) ((s.take yk3).drop yk5)).bind fun yr7 =>
          (bnd 16 s.length).bind fun yk9 =>
            (bnd 12 yk9).bind fun yk11 =>
              (m134 ((s.take yk9).drop yk11)).bind fun yr13 =>
                (bnd 7 s.length).bind fun yk15 =>
                  (bnd 5 yk15).bind fun yk17 =>
                    (m134 ((s.take yk15).drop yk17)).bind fun yr19 =>
                      if (decide (yr7 < 0)) = true then
                        j104_17 s yr7 yr13 yr19 true
                      else
                        if ((yr7.tmod 3) == 0) = true then
                          if (decide (yr13 < 1970)) = true then
                            j104_17 s yr7 yr13 yr19 true
                          else
                            if (decide (yr19 < 1)) = true then
                              j104_17 s yr7 yr13 yr19 true
                            else
                              (m135 yr13 (w64 (yr7.tdiv 3))).bind fun yr53 =>
                                j104_17 s yr7 yr13 yr19 (decide (yr53 < yr19))
                        else
                          j104_17 s yr7 yr13 yr19 true
  else
    some ((0 : Int), (5 : Int))
theorem f104_t (s : Bs) :
    callW (E0 mm) 104 [cd (dS s)] [] = (m104 s).map e104 := by
  rw [cR c104_0 [.tmp 2, .tmp 3] Tryz.func104]
  unfold m104; exact go k104 @j104_17_t
noncomputable def c54_0 : Code := bodyOf Tryz.f54
def c54_1 := cA c54_0
def c54_3 := cA (cB c54_0)
def c54_5 := cA (cB (cB c54_0))
def c54_7 := cA (cB (cB (cB c54_0)))
abbrev R54 := (Bs × Bool)
def e54 (x : R54) : AV × Heap := (.tup [cd (dS x.1), cd (dB x.2)], [])
def m54 (l_0 : Bool) (l_1 : List (Bs × Bs)) : Option R54 :=
  (m71 l_0 l_1 ([108, 97, 115, 116, 45, 109, 111, 100, 105, 102, 105, 101, 100] : Bs)).bind fun yr2 =>
    (m104 yr2).bind fun yr4 =>
      some (yr2, (yr4.2 == 0))
def k54 := Q (rx c54_1) (Q (rx c54_3) (Q (fun (mm : Int) (l_0 : Bool) (l_1 : List (Bs × Bs)) => (show callW (E0 mm) 71 [cd (.lst l_0 (enL enSS l_1)), cd (dS ([108, 97, 115, 116, 45, 109, 111, 100, 105, 102, 105, 101, 100] : Bs))] [] = _ from f71_t l_0 l_1 ([108, 97, 115, 116, 45, 109, 111, 100, 105, 102, 105, 101, 100] : Bs))) (Q @f71_t (Q @e71.eq_1 (Q (rx c54_5) (Q @ent104 (Q @prm104 (Q @f104_t (Q @e104.eq_1 (Q (rx c54_7) (Q (nE c54_0 (.seq c54_1 (.seq c54_3 (.seq c54_5 (.seq c54_7 .ret))))) hA)))))))))))
theorem f54_t (l_0 : Bool) (l_1 : List (Bs × Bs)) :
    callW (E0 mm) 54 [cd (.lst l_0 (enL enSS l_1))] [] = (m54 l_0 l_1).map e54 := by
  rw [cR c54_0 [.tmp 2, .tmp 3] Tryz.func54]
  unfold m54; exact go k54 trivial
noncomputable def c15_0 : Code := bodyOf Tryz.f15
def c15_1 := cA c15_0
def c15_3 := cA (cB c15_0)
def c15_6 := cA (cA (cB (cB c15_0)))
def c15_8 := cA (cB (cA (cB (cB c15_0))))
def c15_10 := cA (cB (cB (cA (cB (cB c15_0)))))
def c15_12 := cB (cB (cB c15_0))
def c15_14 := cA (cA c15_12)
def c15_16 := cA (cB (cA c15_12))
def c15_18 := cA (cB (cB (cA c15_12)))
def c15_20 := cB c15_12
def c15_21 := cA c15_20
abbrev b15 (mm : Int) := bodyD (E0 mm) [.tmp 2] 0 false
abbrev R15 := (Bool × List (Bs × Bs)) ⊕ (Bool × List (Bs × Bs))
def e15 (x : R15) : AV × Heap := match x with
  | .inl x => (.v (.c (.own x.1 (enL enSS x.2) 0)), [.row x.2.length (rz x.1 2)])
  | .inr x => (vd (.lst x.1 (enL enSS x.2)), [])
def j15_20 (l3_0 : Bool) (l3_1 : List (Bs × Bs)) : Option R15 :=
  some (.inl (l3_0, l3_1))
def k15 := Q (rx c15_21) (Q (rx c15_14) (Q @ent54 (Q @prm54 (Q @f54_t (Q @e54.eq_1 (Q (rx c15_16) (Q (rx c15_18) (Q @hd100 (Q @nv101 (Q @rw102 (Q @ns98 (Q (rx c15_1) (Q (rx c15_3) (Q (rx c15_6) (Q @f28_t (Q @e28.eq_1 (Q (rx c15_8) (Q (rx c15_10) (Q @hd95 (Q @nv96 (Q @rw97 (Q (nE c15_0 (.seq c15_1 (.seq c15_3 (.seq (.seq c15_6 (.seq c15_8 (.cond _ c15_10 .skip))) c15_12)))) hA))))))))))))))))))))))
theorem j15_20_t (l3_0 : Bool) (l3_1 : List (Bs × Bs)) (g0 : Ob) (sl : Sl) (_ : sl 3 = .v (.c (.own l3_0 (enL enSS l3_1) 1))) :
    b15 mm (dn (E0 mm) 15 0 c15_20 sl [g0, .row l3_1.length (rz l3_0 2)]) = (j15_20 l3_0 l3_1).map e15 := by
  unfold j15_20; exact go (Q (nE c15_20 (.seq c15_21 .ret)) k15) trivial
def j15_12 (l3_0 : Bool) (l3_1 : List (Bs × Bs)) (h0_0 : Bs) (h0_1 h0_2 : Int) (h0_3_0 : Bool) (h0_3_1 : List (Bs × Bs)) (h0_4 : Int) (h0_5 : Bs) (h0_6 : Int) (h0_7_0 : Bool) (h0_7_1 : List (Bs × Bs)) (h0_8_0 : Bool) (h0_8_1 : List UInt8) : Option R15 :=
  (m54 h0_7_0 h0_7_1).bind fun yr5 =>
    if yr5.2 = true then
      if (l3_1.length + 1) * 32 ≤ 140737488355328 then
        j15_20 false (l3_1 ++ ([(([73, 102, 45, 77, 111, 100, 105, 102, 105, 101, 100, 45, 83, 105, 110, 99, 101] : Bs), yr5.1)] : List (Bs × Bs)))
      else none
    else
      j15_20 l3_0 l3_1
theorem j15_12_t (l3_0 : Bool) (l3_1 : List (Bs × Bs)) (h0_0 : Bs) (h0_1 h0_2 : Int) (h0_3_0 : Bool) (h0_3_1 : List (Bs × Bs)) (h0_4 : Int) (h0_5 : Bs) (h0_6 : Int) (h0_7_0 : Bool) (h0_7_1 : List (Bs × Bs)) (h0_8_0 : Bool) (h0_8_1 : List UInt8)  (sl : Sl) (_ : sl 1 = .v (.c (.ptr 0 0))) (_ : sl 3 = .v (.c (.own l3_0 (enL enSS l3_1) 1))) :
    b15 mm (dn (E0 mm) 15 0 c15_12 sl [.cells [.d (dS h0_0), .d (dU h0_1), .d (dU h0_2), .d (.lst h0_3_0 (enL enSS h0_3_1)), .d (dI h0_4), .d (dS h0_5), .d (dI h0_6), .d (.lst h0_7_0 (enL enSS h0_7_1)), .d (.lst h0_8_0 (enL enB h0_8_1))], .row l3_1.length (rz l3_0 2)]) = (j15_12 l3_0 l3_1 h0_0 h0_1 h0_2 h0_3_0 h0_3_1 h0_4 h0_5 h0_6 h0_7_0 h0_7_1 h0_8_0 h0_8_1).map e15 := by
  unfold j15_12; exact go (Q (nE c15_12 (.seq (.seq c15_14 (.seq c15_16 (.cond _ c15_18 .skip))) c15_20)) k15) @j15_20_t
def j15_20v1  : Option R15 :=
  some (.inr (true, ([] : List (Bs × Bs))))
theorem j15_20v1_t (g0 : Ob) (sl : Sl) (_ : sl 3 = vd (.lst true [])) :
    b15 mm (dn (E0 mm) 15 0 c15_20 sl [g0]) = (j15_20v1).map e15 := by
  unfold j15_20v1; exact go (Q (nE c15_20 (.seq c15_21 .ret)) k15) trivial
def j15_12v1 (h0_0 : Bs) (h0_1 h0_2 : Int) (h0_3_0 : Bool) (h0_3_1 : List (Bs × Bs)) (h0_4 : Int) (h0_5 : Bs) (h0_6 : Int) (h0_7_0 : Bool) (h0_7_1 : List (Bs × Bs)) (h0_8_0 : Bool) (h0_8_1 : List UInt8) : Option R15 :=
  (m54 h0_7_0 h0_7_1).bind fun yr9 =>
    if yr9.2 = true then
      j15_20 false ([(([73, 102, 45, 77, 111, 100, 105, 102, 105, 101, 100, 45, 83, 105, 110, 99, 101] : Bs), yr9.1)] : List (Bs × Bs))
    else
      j15_20v1
theorem j15_12v1_t (h0_0 : Bs) (h0_1 h0_2 : Int) (h0_3_0 : Bool) (h0_3_1 : List (Bs × Bs)) (h0_4 : Int) (h0_5 : Bs) (h0_6 : Int) (h0_7_0 : Bool) (h0_7_1 : List (Bs × Bs)) (h0_8_0 : Bool) (h0_8_1 : List UInt8)  (sl : Sl) (_ : sl 1 = .v (.c (.ptr 0 0))) (_ : sl 3 = vd (.lst true [])) :
    b15 mm (dn (E0 mm) 15 0 c15_12 sl [.cells [.d (dS h0_0), .d (dU h0_1), .d (dU h0_2), .d (.lst h0_3_0 (enL enSS h0_3_1)), .d (dI h0_4), .d (dS h0_5), .d (dI h0_6), .d (.lst h0_7_0 (enL enSS h0_7_1)), .d (.lst h0_8_0 (enL enB h0_8_1))]]) = (j15_12v1 h0_0 h0_1 h0_2 h0_3_0 h0_3_1 h0_4 h0_5 h0_6 h0_7_0 h0_7_1 h0_8_0 h0_8_1).map e15 := by
  unfold j15_12v1; exact go (Q (nE c15_12 (.seq (.seq c15_14 (.seq c15_16 (.cond _ c15_18 .skip))) c15_20)) k15) (Q @j15_20_t @j15_20v1_t)
def m15 (e0_0 : Bs) (e0_1 e0_2 : Int) (e0_3 : Bool) (e0_4 : List (Bs × Bs)) (e0_5 : Int) (e0_6 : Bs) (e0_7 : Int) (e0_8 : Bool) (e0_9 : List (Bs × Bs)) (e0_10 : Bool) (e0_11 : List UInt8) : Option R15 :=
  (m28 e0_8 e0_9).bind fun yr2 =>
    if yr2.2 = true then
      j15_12 false ([(([73, 102, 45, 78, 111, 110, 101, 45, 77, 97, 116, 99, 104] : Bs), yr2.1)] : List (Bs × Bs)) e0_0 e0_1 e0_2 e0_3 e0_4 e0_5 e0_6 e0_7 e0_8 e0_9 e0_10 e0_11
    else
      j15_12v1 e0_0 e0_1 e0_2 e0_3 e0_4 e0_5 e0_6 e0_7 e0_8 e0_9 e0_10 e0_11
theorem f15_t (e0_0 : Bs) (e0_1 e0_2 : Int) (e0_3 : Bool) (e0_4 : List (Bs × Bs)) (e0_5 : Int) (e0_6 : Bs) (e0_7 : Int) (e0_8 : Bool) (e0_9 : List (Bs × Bs)) (e0_10 : Bool) (e0_11 : List UInt8) :
    callW (E0 mm) 15 [.agg [.d (dS e0_0), .d (dU e0_1), .d (dU e0_2), .d (.lst e0_3 (enL enSS e0_4)), .d (dI e0_5), .d (dS e0_6), .d (dI e0_7), .d (.lst e0_8 (enL enSS e0_9)), .d (.lst e0_10 (enL enB e0_11))]] [] = (m15 e0_0 e0_1 e0_2 e0_3 e0_4 e0_5 e0_6 e0_7 e0_8 e0_9 e0_10 e0_11).map e15 := by
  rw [cR c15_0 [.tmp 2] Tryz.func15]
  unfold m15; exact go k15 (Q @j15_12_t @j15_12v1_t)
abbrev R129 := (Bs)
def m129 (n : Int) : Option R129 :=
  if 0 ≤ n ∧ n < 12 then
    some (([([74, 97, 110] : Bs), ([70, 101, 98] : Bs), ([77, 97, 114] : Bs), ([65, 112, 114] : Bs), ([77, 97, 121] : Bs), ([74, 117, 110] : Bs), ([74, 117, 108] : Bs), ([65, 117, 103] : Bs), ([83, 101, 112] : Bs), ([79, 99, 116] : Bs), ([78, 111, 118] : Bs), ([68, 101, 99] : Bs)] : List Bs).getD n.toNat default)
  else none
abbrev R130 := (Int)
def j130_20 (s0 : Bs) (at1 many2 : Int) (n7 i8 : Int) (t26 : Bool) : Option ((Bs × Int × Int × Int × Int) ⊕ R130) :=
  if t26 = true then
    some (.inr (-1 : Int))
  else
    if 0 ≤ i8 ∧ i8 < (s0.length : Int) then
      some (.inl (s0, at1, many2, (w64 ((w64 (10 * n7)) + (((s0.getD i8.toNat 0) - (48 : UInt8)).toNat : Int))), (w64 (i8 + 1))))
    else none
def j130_27 (n7 : Int) : Option R130 :=
  some n7
def s130_8 (s0 : Bs) (at1 many2 : Int) (n7 i8 : Int) : Option ((Bs × Int × Int × Int × Int) ⊕ R130) :=
  if (decide (i8 < (w64 (at1 + many2)))) = true then
    if 0 ≤ i8 ∧ i8 < (s0.length : Int) then
      if (decide ((s0.getD i8.toNat 0) < (48 : UInt8))) = true then
        j130_20 s0 at1 many2 n7 i8 true
      else
        j130_20 s0 at1 many2 n7 i8 (decide ((57 : UInt8) < (s0.getD i8.toNat 0)))
    else none
  else
    (j130_27 n7).map .inr
def l130_8 (s0 : Bs) (at1 many2 : Int) (n7 i8 : Int) : Option R130 := iter (fun x : (Bs × Int × Int × Int × Int) => s130_8 x.1 x.2.1 x.2.2.1 x.2.2.2.1 x.2.2.2.2) (s0, at1, many2, n7, i8)
def m130 (s : Bs) (xat many : Int) : Option R130 :=
  l130_8 s xat many (0 : Int) xat
abbrev R132 := (Bool)
def m132 (year : Int) : Option R132 :=
  if ((year.tmod 400) == 0) = true then
    some true
  else
    if ((year.tmod 4) == 0) = true then
      some (!((year.tmod 100) == 0))
    else
      some false
abbrev R131 := (Int)
def j131_12 (n6 : Int) : Option R131 :=
  some n6
def j131_9 (n6 : Int) (t16 : Bool) : Option R131 :=
  if t16 = true then
    j131_12 (29 : Int)
  else
    j131_12 n6
def m131 (year month : Int) : Option R131 :=
  if 0 ≤ month ∧ month < 12 then
    if (month == 1) = true then
      (m132 year).bind fun yr5 =>
        j131_9 (([(31 : Int), (28 : Int), (31 : Int), (30 : Int), (31 : Int), (30 : Int), (31 : Int), (31 : Int), (30 : Int), (31 : Int), (30 : Int), (31 : Int)] : List Int).getD month.toNat default) yr5
    else
      j131_9 (([(31 : Int), (28 : Int), (31 : Int), (30 : Int), (31 : Int), (30 : Int), (31 : Int), (31 : Int), (30 : Int), (31 : Int), (30 : Int), (31 : Int)] : List Int).getD month.toNat default) false
  else none
abbrev R133 := (Bs)
def m133 (n : Int) : Option R133 :=
  if 0 ≤ (n.tmod 7) ∧ (n.tmod 7) < 7 then
    some (([([84, 104, 117] : Bs), ([70, 114, 105] : Bs), ([83, 97, 116] : Bs), ([83, 117, 110] : Bs), ([77, 111, 110] : Bs), ([84, 117, 101] : Bs), ([87, 101, 100] : Bs)] : List Bs).getD ((n.tmod 7).toNat) default)
  else none
abbrev R103 := (Int × Int)
def j103_30 (s0 : Bs) (m4 i5 : Int) : Option ((Bs × Int × Int) ⊕ R103) :=
  some (.inl (s0, m4, (w64 (i5 + 1))))
def j103_65 (s0 : Bs) (m4 year7 : Int) (h8 min9 : Int) (sec10 d11 y12 : Int) : Option ((Bs × Int × Int × Int × Int × Int × Int × Int) ⊕ R103) :=
  some (.inl (s0, m4, year7, h8, min9, sec10, d11, (w64 (y12 + 1))))
def j103_81 (s0 : Bs) (h8 min9 : Int) (sec10 d11 : Int) : Option R103 :=
  (m133 d11).bind fun yr48 =>
    (bnd 3 s0.length).bind fun yk50 =>
      if (yr48 == (s0.take yk50)) = true then
        some ((wu64 ((wu64 (86400 * d11)) + (wu64 (w64 ((w64 ((w64 (3600 * h8)) + (w64 (60 * min9)))) + sec10))))), (0 : Int))
      else
        some ((0 : Int), (5 : Int))
def s103_70 (s0 : Bs) (m4 year7 : Int) (h8 min9 : Int) (sec10 d11 i13 : Int) : Option ((Bs × Int × Int × Int × Int × Int × Int × Int) ⊕ R103) :=
  if (decide (i13 < m4)) = true then
    (m131 year7 i13).bind fun yr46 =>
      some (.inl (s0, m4, year7, h8, min9, sec10, (wu64 (d11 + (wu64 yr46))), (w64 (i13 + 1))))
  else
    (j103_81 s0 h8 min9 sec10 d11).map .inr
def l103_70 (s0 : Bs) (m4 year7 : Int) (h8 min9 : Int) (sec10 d11 i13 : Int) : Option R103 := iter (fun x : (Bs × Int × Int × Int × Int × Int × Int × Int) => s103_70 x.1 x.2.1 x.2.2.1 x.2.2.2.1 x.2.2.2.2.1 x.2.2.2.2.2.1 x.2.2.2.2.2.2.1 x.2.2.2.2.2.2.2) (s0, m4, year7, h8, min9, sec10, d11, i13)
def j103_66 (s0 : Bs) (m4 year7 : Int) (h8 min9 : Int) (sec10 d11 : Int) : Option R103 :=
  l103_70 s0 m4 year7 h8 min9 sec10 d11 (0 : Int)
def s103_49 (s0 : Bs) (m4 year7 : Int) (h8 min9 : Int) (sec10 d11 y12 : Int) : Option ((Bs × Int × Int × Int × Int × Int × Int × Int) ⊕ R103) :=
  if (decide (y12 < year7)) = true then
    (m132 y12).bind fun yr42 =>
      if yr42 = true then
        j103_65 s0 m4 year7 h8 min9 sec10 (wu64 ((wu64 (d11 + 365)) + 1)) y12
      else
        j103_65 s0 m4 year7 h8 min9 sec10 (wu64 (d11 + 365)) y12
  else
    (j103_66 s0 m4 year7 h8 min9 sec10 d11).map .inr
def l103_49 (s0 : Bs) (m4 year7 : Int) (h8 min9 : Int) (sec10 d11 y12 : Int) : Option R103 := iter (fun x : (Bs × Int × Int × Int × Int × Int × Int × Int) => s103_49 x.1 x.2.1 x.2.2.1 x.2.2.2.1 x.2.2.2.2.1 x.2.2.2.2.2.1 x.2.2.2.2.2.2.1 x.2.2.2.2.2.2.2) (s0, m4, year7, h8, min9, sec10, d11, y12)
def j103_38 (s0 : Bs) (m4 day6 : Int) (year7 h8 : Int) (min9 sec10 : Int) (t112 : Bool) : Option R103 :=
  if t112 = true then
    some ((0 : Int), (5 : Int))
  else
    l103_49 s0 m4 year7 h8 min9 sec10 (wu64 (w64 (day6 - 1))) (1970 : Int)
def j103_31 (s0 : Bs) (m4 : Int) : Option R103 :=
  (m130 s0 (5 : Int) (2 : Int)).bind fun yr29 =>
    (m130 s0 (12 : Int) (4 : Int)).bind fun yr31 =>
      (m130 s0 (17 : Int) (2 : Int)).bind fun yr33 =>
        (m130 s0 (20 : Int) (2 : Int)).bind fun yr35 =>
          (m130 s0 (23 : Int) (2 : Int)).bind fun yr37 =>
            if (decide (m4 < 0)) = true then
              j103_38 s0 m4 yr29 yr31 yr33 yr35 yr37 true
            else
              if (decide (yr31 < 1970)) = true then
                j103_38 s0 m4 yr29 yr31 yr33 yr35 yr37 true
              else
                if (decide (yr29 < 1)) = true then
                  j103_38 s0 m4 yr29 yr31 yr33 yr35 yr37 true
                else
                  (m131 yr31 m4).bind fun yr55 =>
                    if (decide (yr55 < yr29)) = true then
                      j103_38 s0 m4 yr29 yr31 yr33 yr35 yr37 true
                    else
                      if (decide (yr33 < 0)) = true then
                        j103_38 s0 m4 yr29 yr31 yr33 yr35 yr37 true
                      else
                        if (decide (23 < yr33)) = true then
                          j103_38 s0 m4 yr29 yr31 yr33 yr35 yr37 true
                        else
                          if (decide (yr35 < 0)) = true then
                            j103_38 s0 m4 yr29 yr31 yr33 yr35 yr37 true
                          else
                            if (decide (59 < yr35)) = true then
                              j103_38 s0 m4 yr29 yr31 yr33 yr35 yr37 true
                            else
                              if (decide (yr37 < 0)) = true then
                                j103_38 s0 m4 yr29 yr31 yr33 yr35 yr37 true
                              else
                                j103_38 s0 m4 yr29 yr31 yr33 yr35 yr37 (decide (59 < yr37))
def s103_16 (s0 : Bs) (m4 i5 : Int) : Option ((Bs × Int × Int) ⊕ R103) :=
  if (decide (i5 < 12)) = true then
    (m129 i5).bind fun yr22 =>
      (bnd 11 s0.length).bind fun yk24 =>
        (bnd 8 yk24).bind fun yk26 =>
          if (yr22 == ((s0.take yk24).drop yk26)) = true then
            j103_30 s0 i5 i5
          else
            j103_30 s0 m4 i5
  else
    (j103_31 s0 m4).map .inr
def l103_16 (s0 : Bs) (m4 i5 : Int) : Option R103 := iter (fun x : (Bs × Int × Int) => s103_16 x.1 x.2.1 x.2.2) (s0, m4, i5)
def j103_5 (s0 : Bs) (t51 : Bool) : Option R103 :=
  if t51 = true then
    some ((0 : Int), (5 : Int))
  else
    l103_16 s0 (-1 : Int) (0 : Int)
def m103 (s : Bs) : Option R103 :=
  if ((s.length : Int) == 29) = true then
    (bnd 5 s.length).bind fun yk3 =>
      (bnd 3 yk3).bind fun yk5 =>
        if (((s.take yk3).drop yk5) == ([44, 32] : Bs)) = true then
          if (7 : Int) < (s.length : Int) then
            if ((s.getD 7 0) == (32 : UInt8)) = true then
              if (11 : Int) < (s.length : Int) then
                if ((s.getD 11 0) == (32 : UInt8)) = true then
                  if (16 : Int) < (s.length : Int) then
                    if ((s.getD 16 0) == (32 : UInt8)) = true then
                      if (19 : Int) < (s.length : Int) then
                        if ((s.getD 19 0) == (58 : UInt8)) = true then
                          if (22 : Int) < (s.length : Int) then
                            if ((s.getD 22 0) == (58 : UInt8)) = true then
                              (bnd 25 s.length).bind fun yk18 =>
                                j103_5 s (!((s.drop yk18) == ([32, 71, 77, 84] : Bs)))
                            else
                              j103_5 s true
                          else none
                        else
                          j103_5 s true
                      else none
                    else
                      j103_5 s true
                  else none
                else
                  j103_5 s true
              else none
            else
              j103_5 s true
          else none
        else
          j103_5 s true
  else
    j103_5 s true
noncomputable def c7_0 : Code := bodyOf Tryz.f7
def c7_1 := cA c7_0
def c7_3 := cA (cB c7_0)
def c7_5 := cA (cB (cB c7_0))
def c7_8 := cA (cA (cB (cB (cB c7_0))))
def c7_9 := cB (cA (cB (cB (cB c7_0))))
def c7_11 := cA (cA c7_9)
def c7_14 := cB (cB (cB (cB c7_0)))
def c7_16 := cA (cA c7_14)
def c7_18 := cA (cB (cA c7_14))
def c7_19 := cA c7_18
def c7_21 := cA (cA c7_19)
def c7_25 := cB c7_19
def c7_28 := cA (cA (cA c7_25))
def c7_31 := cA (cA (cB (cA (cA c7_25))))
def c7_33 := cA (cB (cA (cB (cA (cA c7_25)))))
def c7_35 := cB (cB (cA (cA c7_25)))
def c7_36 := cA c7_35
def c7_38 := cA (cB c7_35)
def c7_39 := cB (cB c7_35)
def c7_41 := cA (cA c7_39)
def c7_44 := cB c7_25
def c7_45 := cB c7_14
def c7_46 := cA c7_45
def c7_48 := cA (cB c7_45)
def c7_50 := cA (cB (cB c7_45))
def L7_18 : List (Nat × Co) := [(2, .keep), (3, .keep), (5, .keep), (8, .keep)]
abbrev b7 (mm : Int) := bodyD (E0 mm) [.tmp 4] 0 false
abbrev R7 := (Bool)
def e7 (x : R7) : AV × Heap := (vd (dB x), [])
def j7_44 (l5_0 : Bool) (l5_1 : List (Bs × Bs)) (i8 : Int) (h0_0 : Bs) (h0_1 h0_2 : Int) (h0_3_0 : Bool) (h0_3_1 : List (Bs × Bs)) (h0_4 : Int) (h0_5 : Bs) (h0_6 : Int) (h0_7_0 : Bool) (h0_7_1 : List (Bs × Bs)) (h0_8_0 : Bool) (h0_8_1 : List UInt8) (h1_0 h1_1 : Bs) (h1_2 : Int) (h1_3_0 : Bool) (h1_3_1 : List (Bs × Bs)) (h1_4_0 : Bool) (h1_4_1 : List UInt8) : Option ((Bool × List (Bs × Bs) × Int × Bs × Int × Int × Bool × List (Bs × Bs) × Int × Bs × Int × Bool × List (Bs × Bs) × Bool × List UInt8 × Bs × Bs × Int × Bool × List (Bs × Bs) × Bool × List UInt8) ⊕ R7) :=
  some (.inl (l5_0, l5_1, (w64 (i8 + 1)), h0_0, h0_1, h0_2, h0_3_0, h0_3_1, h0_4, h0_5, h0_6, h0_7_0, h0_7_1, h0_8_0, h0_8_1, h1_0, h1_1, h1_2, h1_3_0, h1_3_1, h1_4_0, h1_4_1))
def K7_18 (mm : Int) (r : Option (Ex × St)) : Option (AV × Heap) := b7 mm (sq (E0 mm) 7 0 c7_45 (blockD 0 (r)))
def en7_18 (x : (Bool × List (Bs × Bs) × Int × Bs × Int × Int × Bool × List (Bs × Bs) × Int × Bs × Int × Bool × List (Bs × Bs) × Bool × List UInt8 × Bs × Bs × Int × Bool × List (Bs × Bs) × Bool × List UInt8)) : X := (none, [.v (.c (.ptr 0 0)), .v (.c (.ptr 1 0)), .v (.c (.own x.1 (enL enSS x.2.1) 2)), vd (dI x.2.2.1)], [.cells [.d (dS x.2.2.2.1), .d (dU x.2.2.2.2.1), .d (dU x.2.2.2.2.2.1), .d (.lst x.2.2.2.2.2.2.1 (enL enSS x.2.2.2.2.2.2.2.1)), .d (dI x.2.2.2.2.2.2.2.2.1), .d (dS x.2.2.2.2.2.2.2.2.2.1), .d (dI x.2.2.2.2.2.2.2.2.2.2.1), .d (.lst x.2.2.2.2.2.2.2.2.2.2.2.1 (enL enSS x.2.2.2.2.2.2.2.2.2.2.2.2.1)), .d (.lst x.2.2.2.2.2.2.2.2.2.2.2.2.2.1 (enL enB x.2.2.2.2.2.2.2.2.2.2.2.2.2.2.1))], .cells [.d (dS x.2.2.2.2.2.2.2.2.2.2.2.2.2.2.2.1), .d (dS x.2.2.2.2.2.2.2.2.2.2.2.2.2.2.2.2.1), .d (dI x.2.2.2.2.2.2.2.2.2.2.2.2.2.2.2.2.2.1), .d (.lst x.2.2.2.2.2.2.2.2.2.2.2.2.2.2.2.2.2.2.1 (enL enSS x.2.2.2.2.2.2.2.2.2.2.2.2.2.2.2.2.2.2.2.1)), .d (.lst x.2.2.2.2.2.2.2.2.2.2.2.2.2.2.2.2.2.2.2.2.1 (enL enB x.2.2.2.2.2.2.2.2.2.2.2.2.2.2.2.2.2.2.2.2.2))], .row x.2.1.length (rz x.1 2)])
def K7_18v1 (mm : Int) (r : Option (Ex × St)) : Option (AV × Heap) := b7 mm (sq (E0 mm) 7 0 c7_45 (blockD 0 (r)))
def en7_18v1 (x : (Bool × List (Bs × Bs) × Int × Bs × Int × Int × Bool × List (Bs × Bs) × Int × Bs × Int × Bool × List (Bs × Bs) × Bool × List UInt8 × Bs × Bs × Int × Bool × List (Bs × Bs) × Bool × List UInt8)) : X := (none, [.v (.c (.ptr 0 0)), .v (.c (.ptr 1 0)), vd (.lst x.1 (enL enSS x.2.1)), vd (dI x.2.2.1)], [.cells [.d (dS x.2.2.2.1), .d (dU x.2.2.2.2.1), .d (dU x.2.2.2.2.2.1), .d (.lst x.2.2.2.2.2.2.1 (enL enSS x.2.2.2.2.2.2.2.1)), .d (dI x.2.2.2.2.2.2.2.2.1), .d (dS x.2.2.2.2.2.2.2.2.2.1), .d (dI x.2.2.2.2.2.2.2.2.2.2.1), .d (.lst x.2.2.2.2.2.2.2.2.2.2.2.1 (enL enSS x.2.2.2.2.2.2.2.2.2.2.2.2.1)), .d (.lst x.2.2.2.2.2.2.2.2.2.2.2.2.2.1 (enL enB x.2.2.2.2.2.2.2.2.2.2.2.2.2.2.1))], .cells [.d (dS x.2.2.2.2.2.2.2.2.2.2.2.2.2.2.2.1), .d (dS x.2.2.2.2.2.2.2.2.2.2.2.2.2.2.2.2.1), .d (dI x.2.2.2.2.2.2.2.2.2.2.2.2.2.2.2.2.2.1), .d (.lst x.2.2.2.2.2.2.2.2.2.2.2.2.2.2.2.2.2.2.1 (enL enSS x.2.2.2.2.2.2.2.2.2.2.2.2.2.2.2.2.2.2.2.1)), .d (.lst x.2.2.2.2.2.2.2.2.2.2.2.2.2.2.2.2.2.2.2.2.1 (enL enB x.2.2.2.2.2.2.2.2.2.2.2.2.2.2.2.2.2.2.2.2.2))]])
def k7 (mm : Int) := Q (rx c7_41) (Q @K7_18.eq_1 (Q (rx c7_36) (Q @f29_t (Q @e29.eq_1 (Q (fun mm => ry (E0 mm) c7_38) (Q (rx c7_28) (Q (rx c7_31) (Q (rx c7_33) (Q (rx c7_46) (Q @sz25 (Q @ag25 (Q @zc25 (Q @ao124 (Q (rx c7_48) (Q @Tryz.underlying25 (Q @hd125 (Q (rx c7_50) (Q @ent17 (Q @prm17 (Q @f17_t (Q @ent30 (Q @prm30 (Q (show callW (E0 mm) 30 [cd (.lst true [])] [] = _ from f30_t true ([] : List (Bs × Bs))) (Q @f30_t (Q @e30.eq_1 (Q (show List.range 5 = [0, 1, 2, 3, 4] from rfl) (Q (fun (mm : Int) (l5_1 : List (Bs × Bs)) => (show callW (E0 mm) 30 [cd (.lst false (enL enSS l5_1))] [] = _ from f30_t false l5_1)) (Q (fun (mm : Int) (h1_3_1 : List (Bs × Bs)) (l5_1 : List (Bs × Bs)) => (show callW (E0 mm) 30 [cd (.lst false (enL enSS (h1_3_1 ++ l5_1)))] [] = _ from f30_t false (h1_3_1 ++ l5_1))) (Q (rx c7_21) (Q (rx c7_16) (Q (fun mm => lx (E0 mm) 7 c7_18 c7_19 L7_18) (Q (rx c7_11) (Q @K7_18v1.eq_1 (Q (rx c7_1) (Q (rx c7_3) (Q @sz30 (Q @ag30 (Q @ent15 (Q @prm15 (Q @f15_t (Q @e15.eq_1 (Q @e15.eq_2 (Q (rx c7_5) (Q @f28_t (Q @e28.eq_1 (Q (rx c7_8) (Q @Tryz.underlying4 (Q (nE c7_0 (.seq c7_1 (.seq c7_3 (.seq c7_5 (.seq (.seq c7_8 c7_9) c7_14))))) (Q (nE c7_19 (.seq (.seq c7_21 (.cond _ .skip (.exit 0))) c7_25)) (Q @en7_18.eq_1 (Q @en7_18v1.eq_1 (Q @L7_18.eq_1 hA))))))))))))))))))))))))))))))))))))))))))))))))))))
theorem j7_44_t (l5_0 : Bool) (l5_1 : List (Bs × Bs)) (i8 : Int) (h0_0 : Bs) (h0_1 h0_2 : Int) (h0_3_0 : Bool) (h0_3_1 : List (Bs × Bs)) (h0_4 : Int) (h0_5 : Bs) (h0_6 : Int) (h0_7_0 : Bool) (h0_7_1 : List (Bs × Bs)) (h0_8_0 : Bool) (h0_8_1 : List UInt8) (h1_0 h1_1 : Bs) (h1_2 : Int) (h1_3_0 : Bool) (h1_3_1 : List (Bs × Bs)) (h1_4_0 : Bool) (h1_4_1 : List UInt8) (g3 : Ob) (sl : Sl) (_ : sl 2 = .v (.c (.ptr 0 0))) (_ : sl 3 = .v (.c (.ptr 1 0))) (_ : sl 5 = .v (.c (.own l5_0 (enL enSS l5_1) 2))) (_ : sl 8 = vd (dI i8)) :
    stepE (K7_18 mm) (loopK 0 L7_18 (dn (E0 mm) 7 0 c7_44 sl [.cells [.d (dS h0_0), .d (dU h0_1), .d (dU h0_2), .d (.lst h0_3_0 (enL enSS h0_3_1)), .d (dI h0_4), .d (dS h0_5), .d (dI h0_6), .d (.lst h0_7_0 (enL enSS h0_7_1)), .d (.lst h0_8_0 (enL enB h0_8_1))], .cells [.d (dS h1_0), .d (dS h1_1), .d (dI h1_2), .d (.lst h1_3_0 (enL enSS h1_3_1)), .d (.lst h1_4_0 (enL enB h1_4_1))], .row l5_1.length (rz l5_0 2), g3])) = (j7_44 l5_0 l5_1 i8 h0_0 h0_1 h0_2 h0_3_0 h0_3_1 h0_4 h0_5 h0_6 h0_7_0 h0_7_1 h0_8_0 h0_8_1 h1_0 h1_1 h1_2 h1_3_0 h1_3_1 h1_4_0 h1_4_1).map (sm en7_18 e7) := by
  unfold j7_44; exact go (Q (rx c7_44) (k7 mm)) trivial
def j7_39 (l5_0 : Bool) (l5_1 : List (Bs × Bs)) (i8 : Int) (t95 : Bool) (h0_0 : Bs) (h0_1 h0_2 : Int) (h0_3_0 : Bool) (h0_3_1 : List (Bs × Bs)) (h0_4 : Int) (h0_5 : Bs) (h0_6 : Int) (h0_7_0 : Bool) (h0_7_1 : List (Bs × Bs)) (h0_8_0 : Bool) (h0_8_1 : List UInt8) (h1_0 h1_1 : Bs) (h1_2 : Int) (h1_3_0 : Bool) (h1_3_1 : List (Bs × Bs)) (h1_4_0 : Bool) (h1_4_1 : List UInt8) : Option ((Bool × List (Bs × Bs) × Int × Bs × Int × Int × Bool × List (Bs × Bs) × Int × Bs × Int × Bool × List (Bs × Bs) × Bool × List UInt8 × Bs × Bs × Int × Bool × List (Bs × Bs) × Bool × List UInt8) ⊕ R7) :=
  if t95 = true then
    some (.inr false)
  else
    j7_44 l5_0 l5_1 i8 h0_0 h0_1 h0_2 h0_3_0 h0_3_1 h0_4 h0_5 h0_6 h0_7_0 h0_7_1 h0_8_0 h0_8_1 h1_0 h1_1 h1_2 h1_3_0 h1_3_1 h1_4_0 h1_4_1
theorem j7_39_t (l5_0 : Bool) (l5_1 : List (Bs × Bs)) (i8 : Int) (t95 : Bool) (h0_0 : Bs) (h0_1 h0_2 : Int) (h0_3_0 : Bool) (h0_3_1 : List (Bs × Bs)) (h0_4 : Int) (h0_5 : Bs) (h0_6 : Int) (h0_7_0 : Bool) (h0_7_1 : List (Bs × Bs)) (h0_8_0 : Bool) (h0_8_1 : List UInt8) (h1_0 h1_1 : Bs) (h1_2 : Int) (h1_3_0 : Bool) (h1_3_1 : List (Bs × Bs)) (h1_4_0 : Bool) (h1_4_1 : List UInt8) (g3 : Ob) (sl : Sl) (_ : sl 2 = .v (.c (.ptr 0 0))) (_ : sl 3 = .v (.c (.ptr 1 0))) (_ : sl 5 = .v (.c (.own l5_0 (enL enSS l5_1) 2))) (_ : sl 8 = vd (dI i8)) (_ : sl 95 = vd (dB t95)) :
    stepE (K7_18 mm) (loopK 0 L7_18 (sq (E0 mm) 7 0 c7_44 (blockD 1 (dn (E0 mm) 7 0 c7_39 sl [.cells [.d (dS h0_0), .d (dU h0_1), .d (dU h0_2), .d (.lst h0_3_0 (enL enSS h0_3_1)), .d (dI h0_4), .d (dS h0_5), .d (dI h0_6), .d (.lst h0_7_0 (enL enSS h0_7_1)), .d (.lst h0_8_0 (enL enB h0_8_1))], .cells [.d (dS h1_0), .d (dS h1_1), .d (dI h1_2), .d (.lst h1_3_0 (enL enSS h1_3_1)), .d (.lst h1_4_0 (enL enB h1_4_1))], .row l5_1.length (rz l5_0 2), g3])))) = (j7_39 l5_0 l5_1 i8 t95 h0_0 h0_1 h0_2 h0_3_0 h0_3_1 h0_4 h0_5 h0_6 h0_7_0 h0_7_1 h0_8_0 h0_8_1 h1_0 h1_1 h1_2 h1_3_0 h1_3_1 h1_4_0 h1_4_1).map (sm en7_18 e7) := by
  unfold j7_39; exact go (Q (nE c7_39 (.cond _ (.seq c7_41 .ret) .skip)) (k7 mm)) @j7_44_t
def j7_35 (l5_0 : Bool) (l5_1 : List (Bs × Bs)) (i8 : Int) (name9 h0_0 : Bs) (h0_1 h0_2 : Int) (h0_3_0 : Bool) (h0_3_1 : List (Bs × Bs)) (h0_4 : Int) (h0_5 : Bs) (h0_6 : Int) (h0_7_0 : Bool) (h0_7_1 : List (Bs × Bs)) (h0_8_0 : Bool) (h0_8_1 : List UInt8) (h1_0 h1_1 : Bs) (h1_2 : Int) (h1_3_0 : Bool) (h1_3_1 : List (Bs × Bs)) (h1_4_0 : Bool) (h1_4_1 : List UInt8) : Option ((Bool × List (Bs × Bs) × Int × Bs × Int × Int × Bool × List (Bs × Bs) × Int × Bs × Int × Bool × List (Bs × Bs) × Bool × List UInt8 × Bs × Bs × Int × Bool × List (Bs × Bs) × Bool × List UInt8) ⊕ R7) :=
  (m29 h0_7_0 h0_7_1 name9).bind fun yr14 =>
    if ((yr14.2.length : Int) == 1) = true then
      if (0 : Int) < (yr14.2.length : Int) then
        if 0 ≤ i8 ∧ i8 < (l5_1.length : Int) then
          if ((yr14.2.getD 0 default) == (l5_1.getD i8.toNat default).2) = true then
            if (i8 == 1) = true then
              if (0 : Int) < (l5_1.length : Int) then
                j7_39 l5_0 l5_1 i8 ((l5_1.getD i8.toNat default).1 == (l5_1.getD 0 default).1) h0_0 h0_1 h0_2 h0_3_0 h0_3_1 h0_4 h0_5 h0_6 h0_7_0 h0_7_1 h0_8_0 h0_8_1 h1_0 h1_1 h1_2 h1_3_0 h1_3_1 h1_4_0 h1_4_1
              else none
            else
              j7_39 l5_0 l5_1 i8 false h0_0 h0_1 h0_2 h0_3_0 h0_3_1 h0_4 h0_5 h0_6 h0_7_0 h0_7_1 h0_8_0 h0_8_1 h1_0 h1_1 h1_2 h1_3_0 h1_3_1 h1_4_0 h1_4_1
          else
            j7_39 l5_0 l5_1 i8 true h0_0 h0_1 h0_2 h0_3_0 h0_3_1 h0_4 h0_5 h0_6 h0_7_0 h0_7_1 h0_8_0 h0_8_1 h1_0 h1_1 h1_2 h1_3_0 h1_3_1 h1_4_0 h1_4_1
        else none
      else none
    else
      j7_39 l5_0 l5_1 i8 true h0_0 h0_1 h0_2 h0_3_0 h0_3_1 h0_4 h0_5 h0_6 h0_7_0 h0_7_1 h0_8_0 h0_8_1 h1_0 h1_1 h1_2 h1_3_0 h1_3_1 h1_4_0 h1_4_1
theorem j7_35_t (l5_0 : Bool) (l5_1 : List (Bs × Bs)) (i8 : Int) (name9 h0_0 : Bs) (h0_1 h0_2 : Int) (h0_3_0 : Bool) (h0_3_1 : List (Bs × Bs)) (h0_4 : Int) (h0_5 : Bs) (h0_6 : Int) (h0_7_0 : Bool) (h0_7_1 : List (Bs × Bs)) (h0_8_0 : Bool) (h0_8_1 : List UInt8) (h1_0 h1_1 : Bs) (h1_2 : Int) (h1_3_0 : Bool) (h1_3_1 : List (Bs × Bs)) (h1_4_0 : Bool) (h1_4_1 : List UInt8)  (sl : Sl) (_ : sl 2 = .v (.c (.ptr 0 0))) (_ : sl 3 = .v (.c (.ptr 1 0))) (_ : sl 5 = .v (.c (.own l5_0 (enL enSS l5_1) 2))) (_ : sl 8 = vd (dI i8)) (_ : sl 9 = vd (dS name9)) :
    stepE (K7_18 mm) (loopK 0 L7_18 (sq (E0 mm) 7 0 c7_44 (blockD 1 (dn (E0 mm) 7 0 c7_35 sl [.cells [.d (dS h0_0), .d (dU h0_1), .d (dU h0_2), .d (.lst h0_3_0 (enL enSS h0_3_1)), .d (dI h0_4), .d (dS h0_5), .d (dI h0_6), .d (.lst h0_7_0 (enL enSS h0_7_1)), .d (.lst h0_8_0 (enL enB h0_8_1))], .cells [.d (dS h1_0), .d (dS h1_1), .d (dI h1_2), .d (.lst h1_3_0 (enL enSS h1_3_1)), .d (.lst h1_4_0 (enL enB h1_4_1))], .row l5_1.length (rz l5_0 2)])))) = (j7_35 l5_0 l5_1 i8 name9 h0_0 h0_1 h0_2 h0_3_0 h0_3_1 h0_4 h0_5 h0_6 h0_7_0 h0_7_1 h0_8_0 h0_8_1 h1_0 h1_1 h1_2 h1_3_0 h1_3_1 h1_4_0 h1_4_1).map (sm en7_18 e7) := by
  unfold j7_35; exact go (Q (nE c7_35 (.seq c7_36 (.seq c7_38 c7_39))) (k7 mm)) @j7_39_t
def j7_25 (l5_0 : Bool) (l5_1 : List (Bs × Bs)) (i8 : Int) (h0_0 : Bs) (h0_1 h0_2 : Int) (h0_3_0 : Bool) (h0_3_1 : List (Bs × Bs)) (h0_4 : Int) (h0_5 : Bs) (h0_6 : Int) (h0_7_0 : Bool) (h0_7_1 : List (Bs × Bs)) (h0_8_0 : Bool) (h0_8_1 : List UInt8) (h1_0 h1_1 : Bs) (h1_2 : Int) (h1_3_0 : Bool) (h1_3_1 : List (Bs × Bs)) (h1_4_0 : Bool) (h1_4_1 : List UInt8) : Option ((Bool × List (Bs × Bs) × Int × Bs × Int × Int × Bool × List (Bs × Bs) × Int × Bs × Int × Bool × List (Bs × Bs) × Bool × List UInt8 × Bs × Bs × Int × Bool × List (Bs × Bs) × Bool × List UInt8) ⊕ R7) :=
  if 0 ≤ i8 ∧ i8 < (l5_1.length : Int) then
    if ((l5_1.getD i8.toNat default).1 == ([73, 102, 45, 77, 111, 100, 105, 102, 105, 101, 100, 45, 83, 105, 110, 99, 101] : Bs)) = true then
      j7_35 l5_0 l5_1 i8 ([108, 97, 115, 116, 45, 109, 111, 100, 105, 102, 105, 101, 100] : Bs) h0_0 h0_1 h0_2 h0_3_0 h0_3_1 h0_4 h0_5 h0_6 h0_7_0 h0_7_1 h0_8_0 h0_8_1 h1_0 h1_1 h1_2 h1_3_0 h1_3_1 h1_4_0 h1_4_1
    else
      j7_35 l5_0 l5_1 i8 ([101, 116, 97, 103] : Bs) h0_0 h0_1 h0_2 h0_3_0 h0_3_1 h0_4 h0_5 h0_6 h0_7_0 h0_7_1 h0_8_0 h0_8_1 h1_0 h1_1 h1_2 h1_3_0 h1_3_1 h1_4_0 h1_4_1
  else none
theorem j7_25_t (l5_0 : Bool) (l5_1 : List (Bs × Bs)) (i8 : Int) (h0_0 : Bs) (h0_1 h0_2 : Int) (h0_3_0 : Bool) (h0_3_1 : List (Bs × Bs)) (h0_4 : Int) (h0_5 : Bs) (h0_6 : Int) (h0_7_0 : Bool) (h0_7_1 : List (Bs × Bs)) (h0_8_0 : Bool) (h0_8_1 : List UInt8) (h1_0 h1_1 : Bs) (h1_2 : Int) (h1_3_0 : Bool) (h1_3_1 : List (Bs × Bs)) (h1_4_0 : Bool) (h1_4_1 : List UInt8)  (sl : Sl) (_ : sl 2 = .v (.c (.ptr 0 0))) (_ : sl 3 = .v (.c (.ptr 1 0))) (_ : sl 5 = .v (.c (.own l5_0 (enL enSS l5_1) 2))) (_ : sl 8 = vd (dI i8)) :
    stepE (K7_18 mm) (loopK 0 L7_18 (dn (E0 mm) 7 0 c7_25 sl [.cells [.d (dS h0_0), .d (dU h0_1), .d (dU h0_2), .d (.lst h0_3_0 (enL enSS h0_3_1)), .d (dI h0_4), .d (dS h0_5), .d (dI h0_6), .d (.lst h0_7_0 (enL enSS h0_7_1)), .d (.lst h0_8_0 (enL enB h0_8_1))], .cells [.d (dS h1_0), .d (dS h1_1), .d (dI h1_2), .d (.lst h1_3_0 (enL enSS h1_3_1)), .d (.lst h1_4_0 (enL enB h1_4_1))], .row l5_1.length (rz l5_0 2)])) = (j7_25 l5_0 l5_1 i8 h0_0 h0_1 h0_2 h0_3_0 h0_3_1 h0_4 h0_5 h0_6 h0_7_0 h0_7_1 h0_8_0 h0_8_1 h1_0 h1_1 h1_2 h1_3_0 h1_3_1 h1_4_0 h1_4_1).map (sm en7_18 e7) := by
  unfold j7_25; exact go (Q (nE c7_25 (.seq (.block 1 (.seq c7_28 (.seq (.seq c7_31 (.cond _ c7_33 .skip)) c7_35))) c7_44)) (k7 mm)) @j7_35_t
def j7_45 (l5_0 : Bool) (l5_1 : List (Bs × Bs)) (h1_0 h1_1 : Bs) (h1_2 : Int) (h1_3_0 : Bool) (h1_3_1 : List (Bs × Bs)) (h1_4_0 : Bool) (h1_4_1 : List UInt8) : Option R7 :=
  if h1_3_1.isEmpty = true then
    if l5_1.isEmpty = true then
      if ((l5_1.length : Int) == 0) = true then
        some true
      else
        (m30 true ([] : List (Bs × Bs))).bind fun yr29 =>
          if yr29 = true then
            some false
          else
            some true
    else
      if l5_1.length * 32 ≤ 140737488355328 then
        if ((l5_1.length : Int) == 0) = true then
          some true
        else
          (m30 false l5_1).bind fun yr34 =>
            if yr34 = true then
              some false
            else
              some true
      else none
  else
    if h1_3_1.length * 32 ≤ 140737488355328 then
      if l5_1 = [] ∨ (h1_3_1.length + l5_1.length) * 32 ≤ 140737488355328 then
        if ((l5_1.length : Int) == 0) = true then
          some true
        else
          (m30 false (h1_3_1 ++ l5_1)).bind fun yr40 =>
            if yr40 = true then
              some false
            else
              some true
      else none
    else none
theorem j7_45_t (l5_0 : Bool) (l5_1 : List (Bs × Bs)) (h1_0 h1_1 : Bs) (h1_2 : Int) (h1_3_0 : Bool) (h1_3_1 : List (Bs × Bs)) (h1_4_0 : Bool) (h1_4_1 : List UInt8) (g0 : Ob) (sl : Sl) (_ : sl 3 = .v (.c (.ptr 1 0))) (_ : sl 5 = .v (.c (.own l5_0 (enL enSS l5_1) 2))) :
    b7 mm (dn (E0 mm) 7 0 c7_45 sl [g0, .cells [.d (dS h1_0), .d (dS h1_1), .d (dI h1_2), .d (.lst h1_3_0 (enL enSS h1_3_1)), .d (.lst h1_4_0 (enL enB h1_4_1))], .row l5_1.length (rz l5_0 2)]) = (j7_45 l5_0 l5_1 h1_0 h1_1 h1_2 h1_3_0 h1_3_1 h1_4_0 h1_4_1).map e7 := by
  unfold j7_45; exact go (Q (nE c7_45 (.seq c7_46 (.seq c7_48 (.seq c7_50 .ret)))) (k7 mm)) trivial
def s7_18 (l5_0 : Bool) (l5_1 : List (Bs × Bs)) (i8 : Int) (h0_0 : Bs) (h0_1 h0_2 : Int) (h0_3_0 : Bool) (h0_3_1 : List (Bs × Bs)) (h0_4 : Int) (h0_5 : Bs) (h0_6 : Int) (h0_7_0 : Bool) (h0_7_1 : List (Bs × Bs)) (h0_8_0 : Bool) (h0_8_1 : List UInt8) (h1_0 h1_1 : Bs) (h1_2 : Int) (h1_3_0 : Bool) (h1_3_1 : List (Bs × Bs)) (h1_4_0 : Bool) (h1_4_1 : List UInt8) : Option ((Bool × List (Bs × Bs) × Int × Bs × Int × Int × Bool × List (Bs × Bs) × Int × Bs × Int × Bool × List (Bs × Bs) × Bool × List UInt8 × Bs × Bs × Int × Bool × List (Bs × Bs) × Bool × List UInt8) ⊕ R7) :=
  if (decide (i8 < (l5_1.length : Int))) = true then
    j7_25 l5_0 l5_1 i8 h0_0 h0_1 h0_2 h0_3_0 h0_3_1 h0_4 h0_5 h0_6 h0_7_0 h0_7_1 h0_8_0 h0_8_1 h1_0 h1_1 h1_2 h1_3_0 h1_3_1 h1_4_0 h1_4_1
  else
    (j7_45 l5_0 l5_1 h1_0 h1_1 h1_2 h1_3_0 h1_3_1 h1_4_0 h1_4_1).map .inr
theorem s7_18_t (l5_0 : Bool) (l5_1 : List (Bs × Bs)) (i8 : Int) (h0_0 : Bs) (h0_1 h0_2 : Int) (h0_3_0 : Bool) (h0_3_1 : List (Bs × Bs)) (h0_4 : Int) (h0_5 : Bs) (h0_6 : Int) (h0_7_0 : Bool) (h0_7_1 : List (Bs × Bs)) (h0_8_0 : Bool) (h0_8_1 : List UInt8) (h1_0 h1_1 : Bs) (h1_2 : Int) (h1_3_0 : Bool) (h1_3_1 : List (Bs × Bs)) (h1_4_0 : Bool) (h1_4_1 : List UInt8) :
    stepE (K7_18 mm) (lp (E0 mm) 7 0 c7_19 L7_18 (en7_18 (l5_0, l5_1, i8, h0_0, h0_1, h0_2, h0_3_0, h0_3_1, h0_4, h0_5, h0_6, h0_7_0, h0_7_1, h0_8_0, h0_8_1, h1_0, h1_1, h1_2, h1_3_0, h1_3_1, h1_4_0, h1_4_1))) = (s7_18 l5_0 l5_1 i8 h0_0 h0_1 h0_2 h0_3_0 h0_3_1 h0_4 h0_5 h0_6 h0_7_0 h0_7_1 h0_8_0 h0_8_1 h1_0 h1_1 h1_2 h1_3_0 h1_3_1 h1_4_0 h1_4_1).map (sm en7_18 e7) := by
  unfold s7_18; exact go (k7 mm) (Q @j7_25_t @j7_45_t)
def l7_18 (l5_0 : Bool) (l5_1 : List (Bs × Bs)) (i8 : Int) (h0_0 : Bs) (h0_1 h0_2 : Int) (h0_3_0 : Bool) (h0_3_1 : List (Bs × Bs)) (h0_4 : Int) (h0_5 : Bs) (h0_6 : Int) (h0_7_0 : Bool) (h0_7_1 : List (Bs × Bs)) (h0_8_0 : Bool) (h0_8_1 : List UInt8) (h1_0 h1_1 : Bs) (h1_2 : Int) (h1_3_0 : Bool) (h1_3_1 : List (Bs × Bs)) (h1_4_0 : Bool) (h1_4_1 : List UInt8) : Option R7 := iter (fun x : (Bool × List (Bs × Bs) × Int × Bs × Int × Int × Bool × List (Bs × Bs) × Int × Bs × Int × Bool × List (Bs × Bs) × Bool × List UInt8 × Bs × Bs × Int × Bool × List (Bs × Bs) × Bool × List UInt8) => s7_18 x.1 x.2.1 x.2.2.1 x.2.2.2.1 x.2.2.2.2.1 x.2.2.2.2.2.1 x.2.2.2.2.2.2.1 x.2.2.2.2.2.2.2.1 x.2.2.2.2.2.2.2.2.1 x.2.2.2.2.2.2.2.2.2.1 x.2.2.2.2.2.2.2.2.2.2.1 x.2.2.2.2.2.2.2.2.2.2.2.1 x.2.2.2.2.2.2.2.2.2.2.2.2.1 x.2.2.2.2.2.2.2.2.2.2.2.2.2.1 x.2.2.2.2.2.2.2.2.2.2.2.2.2.2.1 x.2.2.2.2.2.2.2.2.2.2.2.2.2.2.2.1 x.2.2.2.2.2.2.2.2.2.2.2.2.2.2.2.2.1 x.2.2.2.2.2.2.2.2.2.2.2.2.2.2.2.2.2.1 x.2.2.2.2.2.2.2.2.2.2.2.2.2.2.2.2.2.2.1 x.2.2.2.2.2.2.2.2.2.2.2.2.2.2.2.2.2.2.2.1 x.2.2.2.2.2.2.2.2.2.2.2.2.2.2.2.2.2.2.2.2.1 x.2.2.2.2.2.2.2.2.2.2.2.2.2.2.2.2.2.2.2.2.2) (l5_0, l5_1, i8, h0_0, h0_1, h0_2, h0_3_0, h0_3_1, h0_4, h0_5, h0_6, h0_7_0, h0_7_1, h0_8_0, h0_8_1, h1_0, h1_1, h1_2, h1_3_0, h1_3_1, h1_4_0, h1_4_1)
theorem l7_18_t (l5_0 : Bool) (l5_1 : List (Bs × Bs)) (i8 : Int) (h0_0 : Bs) (h0_1 h0_2 : Int) (h0_3_0 : Bool) (h0_3_1 : List (Bs × Bs)) (h0_4 : Int) (h0_5 : Bs) (h0_6 : Int) (h0_7_0 : Bool) (h0_7_1 : List (Bs × Bs)) (h0_8_0 : Bool) (h0_8_1 : List UInt8) (h1_0 h1_1 : Bs) (h1_2 : Int) (h1_3_0 : Bool) (h1_3_1 : List (Bs × Bs)) (h1_4_0 : Bool) (h1_4_1 : List UInt8) : (K7_18 mm) (itW (lp (E0 mm) 7 0 c7_19 L7_18) (en7_18 (l5_0, l5_1, i8, h0_0, h0_1, h0_2, h0_3_0, h0_3_1, h0_4, h0_5, h0_6, h0_7_0, h0_7_1, h0_8_0, h0_8_1, h1_0, h1_1, h1_2, h1_3_0, h1_3_1, h1_4_0, h1_4_1))) = (l7_18 l5_0 l5_1 i8 h0_0 h0_1 h0_2 h0_3_0 h0_3_1 h0_4 h0_5 h0_6 h0_7_0 h0_7_1 h0_8_0 h0_8_1 h1_0 h1_1 h1_2 h1_3_0 h1_3_1 h1_4_0 h1_4_1).map e7 :=
  it_sim (K := (K7_18 mm)) rfl (enc := en7_18) (fun x => s7_18_t x.1 x.2.1 x.2.2.1 x.2.2.2.1 x.2.2.2.2.1 x.2.2.2.2.2.1 x.2.2.2.2.2.2.1 x.2.2.2.2.2.2.2.1 x.2.2.2.2.2.2.2.2.1 x.2.2.2.2.2.2.2.2.2.1 x.2.2.2.2.2.2.2.2.2.2.1 x.2.2.2.2.2.2.2.2.2.2.2.1 x.2.2.2.2.2.2.2.2.2.2.2.2.1 x.2.2.2.2.2.2.2.2.2.2.2.2.2.1 x.2.2.2.2.2.2.2.2.2.2.2.2.2.2.1 x.2.2.2.2.2.2.2.2.2.2.2.2.2.2.2.1 x.2.2.2.2.2.2.2.2.2.2.2.2.2.2.2.2.1 x.2.2.2.2.2.2.2.2.2.2.2.2.2.2.2.2.2.1 x.2.2.2.2.2.2.2.2.2.2.2.2.2.2.2.2.2.2.1 x.2.2.2.2.2.2.2.2.2.2.2.2.2.2.2.2.2.2.2.1 x.2.2.2.2.2.2.2.2.2.2.2.2.2.2.2.2.2.2.2.2.1 x.2.2.2.2.2.2.2.2.2.2.2.2.2.2.2.2.2.2.2.2.2) (l5_0, l5_1, i8, h0_0, h0_1, h0_2, h0_3_0, h0_3_1, h0_4, h0_5, h0_6, h0_7_0, h0_7_1, h0_8_0, h0_8_1, h1_0, h1_1, h1_2, h1_3_0, h1_3_1, h1_4_0, h1_4_1)
def j7_14 (l5_0 : Bool) (l5_1 : List (Bs × Bs)) (h0_0 : Bs) (h0_1 h0_2 : Int) (h0_3_0 : Bool) (h0_3_1 : List (Bs × Bs)) (h0_4 : Int) (h0_5 : Bs) (h0_6 : Int) (h0_7_0 : Bool) (h0_7_1 : List (Bs × Bs)) (h0_8_0 : Bool) (h0_8_1 : List UInt8) (h1_0 h1_1 : Bs) (h1_2 : Int) (h1_3_0 : Bool) (h1_3_1 : List (Bs × Bs)) (h1_4_0 : Bool) (h1_4_1 : List UInt8) : Option R7 :=
  l7_18 l5_0 l5_1 (0 : Int) h0_0 h0_1 h0_2 h0_3_0 h0_3_1 h0_4 h0_5 h0_6 h0_7_0 h0_7_1 h0_8_0 h0_8_1 h1_0 h1_1 h1_2 h1_3_0 h1_3_1 h1_4_0 h1_4_1
theorem j7_14_t (l5_0 : Bool) (l5_1 : List (Bs × Bs)) (h0_0 : Bs) (h0_1 h0_2 : Int) (h0_3_0 : Bool) (h0_3_1 : List (Bs × Bs)) (h0_4 : Int) (h0_5 : Bs) (h0_6 : Int) (h0_7_0 : Bool) (h0_7_1 : List (Bs × Bs)) (h0_8_0 : Bool) (h0_8_1 : List UInt8) (h1_0 h1_1 : Bs) (h1_2 : Int) (h1_3_0 : Bool) (h1_3_1 : List (Bs × Bs)) (h1_4_0 : Bool) (h1_4_1 : List UInt8)  (sl : Sl) (_ : sl 2 = .v (.c (.ptr 0 0))) (_ : sl 3 = .v (.c (.ptr 1 0))) (_ : sl 5 = .v (.c (.own l5_0 (enL enSS l5_1) 2))) :
    b7 mm (dn (E0 mm) 7 0 c7_14 sl [.cells [.d (dS h0_0), .d (dU h0_1), .d (dU h0_2), .d (.lst h0_3_0 (enL enSS h0_3_1)), .d (dI h0_4), .d (dS h0_5), .d (dI h0_6), .d (.lst h0_7_0 (enL enSS h0_7_1)), .d (.lst h0_8_0 (enL enB h0_8_1))], .cells [.d (dS h1_0), .d (dS h1_1), .d (dI h1_2), .d (.lst h1_3_0 (enL enSS h1_3_1)), .d (.lst h1_4_0 (enL enB h1_4_1))], .row l5_1.length (rz l5_0 2)]) = (j7_14 l5_0 l5_1 h0_0 h0_1 h0_2 h0_3_0 h0_3_1 h0_4 h0_5 h0_6 h0_7_0 h0_7_1 h0_8_0 h0_8_1 h1_0 h1_1 h1_2 h1_3_0 h1_3_1 h1_4_0 h1_4_1).map e7 := by
  unfold j7_14; exact go (Q (nE c7_14 (.seq (.seq c7_16 (.block 0 c7_18)) c7_45)) (k7 mm)) @l7_18_t
def j7_9 (l5_0 : Bool) (l5_1 : List (Bs × Bs)) (t48 : Bool) (h0_0 : Bs) (h0_1 h0_2 : Int) (h0_3_0 : Bool) (h0_3_1 : List (Bs × Bs)) (h0_4 : Int) (h0_5 : Bs) (h0_6 : Int) (h0_7_0 : Bool) (h0_7_1 : List (Bs × Bs)) (h0_8_0 : Bool) (h0_8_1 : List UInt8) (h1_0 h1_1 : Bs) (h1_2 : Int) (h1_3_0 : Bool) (h1_3_1 : List (Bs × Bs)) (h1_4_0 : Bool) (h1_4_1 : List UInt8) : Option R7 :=
  if t48 = true then
    some false
  else
    j7_14 l5_0 l5_1 h0_0 h0_1 h0_2 h0_3_0 h0_3_1 h0_4 h0_5 h0_6 h0_7_0 h0_7_1 h0_8_0 h0_8_1 h1_0 h1_1 h1_2 h1_3_0 h1_3_1 h1_4_0 h1_4_1
theorem j7_9_t (l5_0 : Bool) (l5_1 : List (Bs × Bs)) (t48 : Bool) (h0_0 : Bs) (h0_1 h0_2 : Int) (h0_3_0 : Bool) (h0_3_1 : List (Bs × Bs)) (h0_4 : Int) (h0_5 : Bs) (h0_6 : Int) (h0_7_0 : Bool) (h0_7_1 : List (Bs × Bs)) (h0_8_0 : Bool) (h0_8_1 : List UInt8) (h1_0 h1_1 : Bs) (h1_2 : Int) (h1_3_0 : Bool) (h1_3_1 : List (Bs × Bs)) (h1_4_0 : Bool) (h1_4_1 : List UInt8)  (sl : Sl) (_ : sl 2 = .v (.c (.ptr 0 0))) (_ : sl 3 = .v (.c (.ptr 1 0))) (_ : sl 5 = .v (.c (.own l5_0 (enL enSS l5_1) 2))) (_ : sl 48 = vd (dB t48)) :
    b7 mm (sq (E0 mm) 7 0 c7_14 (dn (E0 mm) 7 0 c7_9 sl [.cells [.d (dS h0_0), .d (dU h0_1), .d (dU h0_2), .d (.lst h0_3_0 (enL enSS h0_3_1)), .d (dI h0_4), .d (dS h0_5), .d (dI h0_6), .d (.lst h0_7_0 (enL enSS h0_7_1)), .d (.lst h0_8_0 (enL enB h0_8_1))], .cells [.d (dS h1_0), .d (dS h1_1), .d (dI h1_2), .d (.lst h1_3_0 (enL enSS h1_3_1)), .d (.lst h1_4_0 (enL enB h1_4_1))], .row l5_1.length (rz l5_0 2)])) = (j7_9 l5_0 l5_1 t48 h0_0 h0_1 h0_2 h0_3_0 h0_3_1 h0_4 h0_5 h0_6 h0_7_0 h0_7_1 h0_8_0 h0_8_1 h1_0 h1_1 h1_2 h1_3_0 h1_3_1 h1_4_0 h1_4_1).map e7 := by
  unfold j7_9; exact go (Q (nE c7_9 (.cond _ (.seq c7_11 .ret) .skip)) (k7 mm)) @j7_14_t
def j7_44v1 (l5_0 : Bool) (l5_1 : List (Bs × Bs)) (i8 : Int) (h0_0 : Bs) (h0_1 h0_2 : Int) (h0_3_0 : Bool) (h0_3_1 : List (Bs × Bs)) (h0_4 : Int) (h0_5 : Bs) (h0_6 : Int) (h0_7_0 : Bool) (h0_7_1 : List (Bs × Bs)) (h0_8_0 : Bool) (h0_8_1 : List UInt8) (h1_0 h1_1 : Bs) (h1_2 : Int) (h1_3_0 : Bool) (h1_3_1 : List (Bs × Bs)) (h1_4_0 : Bool) (h1_4_1 : List UInt8) : Option ((Bool × List (Bs × Bs) × Int × Bs × Int × Int × Bool × List (Bs × Bs) × Int × Bs × Int × Bool × List (Bs × Bs) × Bool × List UInt8 × Bs × Bs × Int × Bool × List (Bs × Bs) × Bool × List UInt8) ⊕ R7) :=
  some (.inl (l5_0, l5_1, (w64 (i8 + 1)), h0_0, h0_1, h0_2, h0_3_0, h0_3_1, h0_4, h0_5, h0_6, h0_7_0, h0_7_1, h0_8_0, h0_8_1, h1_0, h1_1, h1_2, h1_3_0, h1_3_1, h1_4_0, h1_4_1))
theorem j7_44v1_t (l5_0 : Bool) (l5_1 : List (Bs × Bs)) (i8 : Int) (h0_0 : Bs) (h0_1 h0_2 : Int) (h0_3_0 : Bool) (h0_3_1 : List (Bs × Bs)) (h0_4 : Int) (h0_5 : Bs) (h0_6 : Int) (h0_7_0 : Bool) (h0_7_1 : List (Bs × Bs)) (h0_8_0 : Bool) (h0_8_1 : List UInt8) (h1_0 h1_1 : Bs) (h1_2 : Int) (h1_3_0 : Bool) (h1_3_1 : List (Bs × Bs)) (h1_4_0 : Bool) (h1_4_1 : List UInt8) (g2 : Ob) (sl : Sl) (_ : sl 2 = .v (.c (.ptr 0 0))) (_ : sl 3 = .v (.c (.ptr 1 0))) (_ : sl 5 = vd (.lst l5_0 (enL enSS l5_1))) (_ : sl 8 = vd (dI i8)) :
    stepE (K7_18v1 mm) (loopK 0 L7_18 (dn (E0 mm) 7 0 c7_44 sl [.cells [.d (dS h0_0), .d (dU h0_1), .d (dU h0_2), .d (.lst h0_3_0 (enL enSS h0_3_1)), .d (dI h0_4), .d (dS h0_5), .d (dI h0_6), .d (.lst h0_7_0 (enL enSS h0_7_1)), .d (.lst h0_8_0 (enL enB h0_8_1))], .cells [.d (dS h1_0), .d (dS h1_1), .d (dI h1_2), .d (.lst h1_3_0 (enL enSS h1_3_1)), .d (.lst h1_4_0 (enL enB h1_4_1))], g2])) = (j7_44v1 l5_0 l5_1 i8 h0_0 h0_1 h0_2 h0_3_0 h0_3_1 h0_4 h0_5 h0_6 h0_7_0 h0_7_1 h0_8_0 h0_8_1 h1_0 h1_1 h1_2 h1_3_0 h1_3_1 h1_4_0 h1_4_1).map (sm en7_18v1 e7) := by
  unfold j7_44v1; exact go (Q (rx c7_44) (k7 mm)) trivial
def j7_39v1 (l5_0 : Bool) (l5_1 : List (Bs × Bs)) (i8 : Int) (t95 : Bool) (h0_0 : Bs) (h0_1 h0_2 : Int) (h0_3_0 : Bool) (h0_3_1 : List (Bs × Bs)) (h0_4 : Int) (h0_5 : Bs) (h0_6 : Int) (h0_7_0 : Bool) (h0_7_1 : List (Bs × Bs)) (h0_8_0 : Bool) (h0_8_1 : List UInt8) (h1_0 h1_1 : Bs) (h1_2 : Int) (h1_3_0 : Bool) (h1_3_1 : List (Bs × Bs)) (h1_4_0 : Bool) (h1_4_1 : List UInt8) : Option ((Bool × List (Bs × Bs) × Int × Bs × Int × Int × Bool × List (Bs × Bs) × Int × Bs × Int × Bool × List (Bs × Bs) × Bool × List UInt8 × Bs × Bs × Int × Bool × List (Bs × Bs) × Bool × List UInt8) ⊕ R7) :=
  if t95 = true then
    some (.inr false)
  else
    j7_44v1 l5_0 l5_1 i8 h0_0 h0_1 h0_2 h0_3_0 h0_3_1 h0_4 h0_5 h0_6 h0_7_0 h0_7_1 h0_8_0 h0_8_1 h1_0 h1_1 h1_2 h1_3_0 h1_3_1 h1_4_0 h1_4_1
theorem j7_39v1_t (l5_0 : Bool) (l5_1 : List (Bs × Bs)) (i8 : Int) (t95 : Bool) (h0_0 : Bs) (h0_1 h0_2 : Int) (h0_3_0 : Bool) (h0_3_1 : List (Bs × Bs)) (h0_4 : Int) (h0_5 : Bs) (h0_6 : Int) (h0_7_0 : Bool) (h0_7_1 : List (Bs × Bs)) (h0_8_0 : Bool) (h0_8_1 : List UInt8) (h1_0 h1_1 : Bs) (h1_2 : Int) (h1_3_0 : Bool) (h1_3_1 : List (Bs × Bs)) (h1_4_0 : Bool) (h1_4_1 : List UInt8) (g2 : Ob) (sl : Sl) (_ : sl 2 = .v (.c (.ptr 0 0))) (_ : sl 3 = .v (.c (.ptr 1 0))) (_ : sl 5 = vd (.lst l5_0 (enL enSS l5_1))) (_ : sl 8 = vd (dI i8)) (_ : sl 95 = vd (dB t95)) :
    stepE (K7_18v1 mm) (loopK 0 L7_18 (sq (E0 mm) 7 0 c7_44 (blockD 1 (dn (E0 mm) 7 0 c7_39 sl [.cells [.d (dS h0_0), .d (dU h0_1), .d (dU h0_2), .d (.lst h0_3_0 (enL enSS h0_3_1)), .d (dI h0_4), .d (dS h0_5), .d (dI h0_6), .d (.lst h0_7_0 (enL enSS h0_7_1)), .d (.lst h0_8_0 (enL enB h0_8_1))], .cells [.d (dS h1_0), .d (dS h1_1), .d (dI h1_2), .d (.lst h1_3_0 (enL enSS h1_3_1)), .d (.lst h1_4_0 (enL enB h1_4_1))], g2])))) = (j7_39v1 l5_0 l5_1 i8 t95 h0_0 h0_1 h0_2 h0_3_0 h0_3_1 h0_4 h0_5 h0_6 h0_7_0 h0_7_1 h0_8_0 h0_8_1 h1_0 h1_1 h1_2 h1_3_0 h1_3_1 h1_4_0 h1_4_1).map (sm en7_18v1 e7) := by
  unfold j7_39v1; exact go (Q (nE c7_39 (.cond _ (.seq c7_41 .ret) .skip)) (k7 mm)) @j7_44v1_t
def j7_35v1 (l5_0 : Bool) (l5_1 : List (Bs × Bs)) (i8 : Int) (name9 h0_0 : Bs) (h0_1 h0_2 : Int) (h0_3_0 : Bool) (h0_3_1 : List (Bs × Bs)) (h0_4 : Int) (h0_5 : Bs) (h0_6 : Int) (h0_7_0 : Bool) (h0_7_1 : List (Bs × Bs)) (h0_8_0 : Bool) (h0_8_1 : List UInt8) (h1_0 h1_1 : Bs) (h1_2 : Int) (h1_3_0 : Bool) (h1_3_1 : List (Bs × Bs)) (h1_4_0 : Bool) (h1_4_1 : List UInt8) : Option ((Bool × List (Bs × Bs) × Int × Bs × Int × Int × Bool × List (Bs × Bs) × Int × Bs × Int × Bool × List (Bs × Bs) × Bool × List UInt8 × Bs × Bs × Int × Bool × List (Bs × Bs) × Bool × List UInt8) ⊕ R7) :=
  (m29 h0_7_0 h0_7_1 name9).bind fun yr57 =>
    if ((yr57.2.length : Int) == 1) = true then
      if (0 : Int) < (yr57.2.length : Int) then
        if 0 ≤ i8 ∧ i8 < (l5_1.length : Int) then
          if ((yr57.2.getD 0 default) == (l5_1.getD i8.toNat default).2) = true then
            if (i8 == 1) = true then
              if (0 : Int) < (l5_1.length : Int) then
                j7_39v1 l5_0 l5_1 i8 ((l5_1.getD i8.toNat default).1 == (l5_1.getD 0 default).1) h0_0 h0_1 h0_2 h0_3_0 h0_3_1 h0_4 h0_5 h0_6 h0_7_0 h0_7_1 h0_8_0 h0_8_1 h1_0 h1_1 h1_2 h1_3_0 h1_3_1 h1_4_0 h1_4_1
              else none
            else
              j7_39v1 l5_0 l5_1 i8 false h0_0 h0_1 h0_2 h0_3_0 h0_3_1 h0_4 h0_5 h0_6 h0_7_0 h0_7_1 h0_8_0 h0_8_1 h1_0 h1_1 h1_2 h1_3_0 h1_3_1 h1_4_0 h1_4_1
          else
            j7_39v1 l5_0 l5_1 i8 true h0_0 h0_1 h0_2 h0_3_0 h0_3_1 h0_4 h0_5 h0_6 h0_7_0 h0_7_1 h0_8_0 h0_8_1 h1_0 h1_1 h1_2 h1_3_0 h1_3_1 h1_4_0 h1_4_1
        else none
      else none
    else
      j7_39v1 l5_0 l5_1 i8 true h0_0 h0_1 h0_2 h0_3_0 h0_3_1 h0_4 h0_5 h0_6 h0_7_0 h0_7_1 h0_8_0 h0_8_1 h1_0 h1_1 h1_2 h1_3_0 h1_3_1 h1_4_0 h1_4_1
theorem j7_35v1_t (l5_0 : Bool) (l5_1 : List (Bs × Bs)) (i8 : Int) (name9 h0_0 : Bs) (h0_1 h0_2 : Int) (h0_3_0 : Bool) (h0_3_1 : List (Bs × Bs)) (h0_4 : Int) (h0_5 : Bs) (h0_6 : Int) (h0_7_0 : Bool) (h0_7_1 : List (Bs × Bs)) (h0_8_0 : Bool) (h0_8_1 : List UInt8) (h1_0 h1_1 : Bs) (h1_2 : Int) (h1_3_0 : Bool) (h1_3_1 : List (Bs × Bs)) (h1_4_0 : Bool) (h1_4_1 : List UInt8)  (sl : Sl) (_ : sl 2 = .v (.c (.ptr 0 0))) (_ : sl 3 = .v (.c (.ptr 1 0))) (_ : sl 5 = vd (.lst l5_0 (enL enSS l5_1))) (_ : sl 8 = vd (dI i8)) (_ : sl 9 = vd (dS name9)) :
    stepE (K7_18v1 mm) (loopK 0 L7_18 (sq (E0 mm) 7 0 c7_44 (blockD 1 (dn (E0 mm) 7 0 c7_35 sl [.cells [.d (dS h0_0), .d (dU h0_1), .d (dU h0_2), .d (.lst h0_3_0 (enL enSS h0_3_1)), .d (dI h0_4), .d (dS h0_5), .d (dI h0_6), .d (.lst h0_7_0 (enL enSS h0_7_1)), .d (.lst h0_8_0 (enL enB h0_8_1))], .cells [.d (dS h1_0), .d (dS h1_1), .d (dI h1_2), .d (.lst h1_3_0 (enL enSS h1_3_1)), .d (.lst h1_4_0 (enL enB h1_4_1))]])))) = (j7_35v1 l5_0 l5_1 i8 name9 h0_0 h0_1 h0_2 h0_3_0 h0_3_1 h0_4 h0_5 h0_6 h0_7_0 h0_7_1 h0_8_0 h0_8_1 h1_0 h1_1 h1_2 h1_3_0 h1_3_1 h1_4_0 h1_4_1).map (sm en7_18v1 e7) := by
  unfold j7_35v1; exact go (Q (nE c7_35 (.seq c7_36 (.seq c7_38 c7_39))) (k7 mm)) @j7_39v1_t
def j7_25v1 (l5_0 : Bool) (l5_1 : List (Bs × Bs)) (i8 : Int) (h0_0 : Bs) (h0_1 h0_2 : Int) (h0_3_0 : Bool) (h0_3_1 : List (Bs × Bs)) (h0_4 : Int) (h0_5 : Bs) (h0_6 : Int) (h0_7_0 : Bool) (h0_7_1 : List (Bs × Bs)) (h0_8_0 : Bool) (h0_8_1 : List UInt8) (h1_0 h1_1 : Bs) (h1_2 : Int) (h1_3_0 : Bool) (h1_3_1 : List (Bs × Bs)) (h1_4_0 : Bool) (h1_4_1 : List UInt8) : Option ((Bool × List (Bs × Bs) × Int × Bs × Int × Int × Bool × List (Bs × Bs) × Int × Bs × Int × Bool × List (Bs × Bs) × Bool × List UInt8 × Bs × Bs × Int × Bool × List (Bs × Bs) × Bool × List UInt8) ⊕ R7) :=
  if 0 ≤ i8 ∧ i8 < (l5_1.length : Int) then
    if ((l5_1.getD i8.toNat default).1 == ([73, 102, 45, 77, 111, 100, 105, 102, 105, 101, 100, 45, 83, 105, 110, 99, 101] : Bs)) = true then
      j7_35v1 l5_0 l5_1 i8 ([108, 97, 115, 116, 45, 109, 111, 100, 105, 102, 105, 101, 100] : Bs) h0_0 h0_1 h0_2 h0_3_0 h0_3_1 h0_4 h0_5 h0_6 h0_7_0 h0_7_1 h0_8_0 h0_8_1 h1_0 h1_1 h1_2 h1_3_0 h1_3_1 h1_4_0 h1_4_1
    else
      j7_35v1 l5_0 l5_1 i8 ([101, 116, 97, 103] : Bs) h0_0 h0_1 h0_2 h0_3_0 h0_3_1 h0_4 h0_5 h0_6 h0_7_0 h0_7_1 h0_8_0 h0_8_1 h1_0 h1_1 h1_2 h1_3_0 h1_3_1 h1_4_0 h1_4_1
  else none
theorem j7_25v1_t (l5_0 : Bool) (l5_1 : List (Bs × Bs)) (i8 : Int) (h0_0 : Bs) (h0_1 h0_2 : Int) (h0_3_0 : Bool) (h0_3_1 : List (Bs × Bs)) (h0_4 : Int) (h0_5 : Bs) (h0_6 : Int) (h0_7_0 : Bool) (h0_7_1 : List (Bs × Bs)) (h0_8_0 : Bool) (h0_8_1 : List UInt8) (h1_0 h1_1 : Bs) (h1_2 : Int) (h1_3_0 : Bool) (h1_3_1 : List (Bs × Bs)) (h1_4_0 : Bool) (h1_4_1 : List UInt8)  (sl : Sl) (_ : sl 2 = .v (.c (.ptr 0 0))) (_ : sl 3 = .v (.c (.ptr 1 0))) (_ : sl 5 = vd (.lst l5_0 (enL enSS l5_1))) (_ : sl 8 = vd (dI i8)) :
    stepE (K7_18v1 mm) (loopK 0 L7_18 (dn (E0 mm) 7 0 c7_25 sl [.cells [.d (dS h0_0), .d (dU h0_1), .d (dU h0_2), .d (.lst h0_3_0 (enL enSS h0_3_1)), .d (dI h0_4), .d (dS h0_5), .d (dI h0_6), .d (.lst h0_7_0 (enL enSS h0_7_1)), .d (.lst h0_8_0 (enL enB h0_8_1))], .cells [.d (dS h1_0), .d (dS h1_1), .d (dI h1_2), .d (.lst h1_3_0 (enL enSS h1_3_1)), .d (.lst h1_4_0 (enL enB h1_4_1))]])) = (j7_25v1 l5_0 l5_1 i8 h0_0 h0_1 h0_2 h0_3_0 h0_3_1 h0_4 h0_5 h0_6 h0_7_0 h0_7_1 h0_8_0 h0_8_1 h1_0 h1_1 h1_2 h1_3_0 h1_3_1 h1_4_0 h1_4_1).map (sm en7_18v1 e7) := by
  unfold j7_25v1; exact go (Q (nE c7_25 (.seq (.block 1 (.seq c7_28 (.seq (.seq c7_31 (.cond _ c7_33 .skip)) c7_35))) c7_44)) (k7 mm)) @j7_35v1_t
def j7_45v1 (l5_0 : Bool) (l5_1 : List (Bs × Bs)) (h1_0 h1_1 : Bs) (h1_2 : Int) (h1_3_0 : Bool) (h1_3_1 : List (Bs × Bs)) (h1_4_0 : Bool) (h1_4_1 : List UInt8) : Option R7 :=
  if h1_3_1.isEmpty = true then
    if l5_1.isEmpty = true then
      if ((l5_1.length : Int) == 0) = true then
        some true
      else
        (m30 true ([] : List (Bs × Bs))).bind fun yr72 =>
          if yr72 = true then
            some false
          else
            some true
    else
      if l5_1.length * 32 ≤ 140737488355328 then
        if ((l5_1.length : Int) == 0) = true then
          some true
        else
          (m30 false l5_1).bind fun yr77 =>
            if yr77 = true then
              some false
            else
              some true
      else none
  else
    if h1_3_1.length * 32 ≤ 140737488355328 then
      if l5_1 = [] ∨ (h1_3_1.length + l5_1.length) * 32 ≤ 140737488355328 then
        if ((l5_1.length : Int) == 0) = true then
          some true
        else
          (m30 false (h1_3_1 ++ l5_1)).bind fun yr83 =>
            if yr83 = true then
              some false
            else
              some true
      else none
    else none
theorem j7_45v1_t (l5_0 : Bool) (l5_1 : List (Bs × Bs)) (h1_0 h1_1 : Bs) (h1_2 : Int) (h1_3_0 : Bool) (h1_3_1 : List (Bs × Bs)) (h1_4_0 : Bool) (h1_4_1 : List UInt8) (g0 : Ob) (sl : Sl) (_ : sl 3 = .v (.c (.ptr 1 0))) (_ : sl 5 = vd (.lst l5_0 (enL enSS l5_1))) :
    b7 mm (dn (E0 mm) 7 0 c7_45 sl [g0, .cells [.d (dS h1_0), .d (dS h1_1), .d (dI h1_2), .d (.lst h1_3_0 (enL enSS h1_3_1)), .d (.lst h1_4_0 (enL enB h1_4_1))]]) = (j7_45v1 l5_0 l5_1 h1_0 h1_1 h1_2 h1_3_0 h1_3_1 h1_4_0 h1_4_1).map e7 := by
  unfold j7_45v1; exact go (Q (nE c7_45 (.seq c7_46 (.seq c7_48 (.seq c7_50 .ret)))) (k7 mm)) trivial
def s7_18v1 (l5_0 : Bool) (l5_1 : List (Bs × Bs)) (i8 : Int) (h0_0 : Bs) (h0_1 h0_2 : Int) (h0_3_0 : Bool) (h0_3_1 : List (Bs × Bs)) (h0_4 : Int) (h0_5 : Bs) (h0_6 : Int) (h0_7_0 : Bool) (h0_7_1 : List (Bs × Bs)) (h0_8_0 : Bool) (h0_8_1 : List UInt8) (h1_0 h1_1 : Bs) (h1_2 : Int) (h1_3_0 : Bool) (h1_3_1 : List (Bs × Bs)) (h1_4_0 : Bool) (h1_4_1 : List UInt8) : Option ((Bool × List (Bs × Bs) × Int × Bs × Int × Int × Bool × List (Bs × Bs) × Int × Bs × Int × Bool × List (Bs × Bs) × Bool × List UInt8 × Bs × Bs × Int × Bool × List (Bs × Bs) × Bool × List UInt8) ⊕ R7) :=
  if (decide (i8 < (l5_1.length : Int))) = true then
    j7_25v1 l5_0 l5_1 i8 h0_0 h0_1 h0_2 h0_3_0 h0_3_1 h0_4 h0_5 h0_6 h0_7_0 h0_7_1 h0_8_0 h0_8_1 h1_0 h1_1 h1_2 h1_3_0 h1_3_1 h1_4_0 h1_4_1
  else
    (j7_45v1 l5_0 l5_1 h1_0 h1_1 h1_2 h1_3_0 h1_3_1 h1_4_0 h1_4_1).map .inr
theorem s7_18v1_t (l5_0 : Bool) (l5_1 : List (Bs × Bs)) (i8 : Int) (h0_0 : Bs) (h0_1 h0_2 : Int) (h0_3_0 : Bool) (h0_3_1 : List (Bs × Bs)) (h0_4 : Int) (h0_5 : Bs) (h0_6 : Int) (h0_7_0 : Bool) (h0_7_1 : List (Bs × Bs)) (h0_8_0 : Bool) (h0_8_1 : List UInt8) (h1_0 h1_1 : Bs) (h1_2 : Int) (h1_3_0 : Bool) (h1_3_1 : List (Bs × Bs)) (h1_4_0 : Bool) (h1_4_1 : List UInt8) :
    stepE (K7_18v1 mm) (lp (E0 mm) 7 0 c7_19 L7_18 (en7_18v1 (l5_0, l5_1, i8, h0_0, h0_1, h0_2, h0_3_0, h0_3_1, h0_4, h0_5, h0_6, h0_7_0, h0_7_1, h0_8_0, h0_8_1, h1_0, h1_1, h1_2, h1_3_0, h1_3_1, h1_4_0, h1_4_1))) = (s7_18v1 l5_0 l5_1 i8 h0_0 h0_1 h0_2 h0_3_0 h0_3_1 h0_4 h0_5 h0_6 h0_7_0 h0_7_1 h0_8_0 h0_8_1 h1_0 h1_1 h1_2 h1_3_0 h1_3_1 h1_4_0 h1_4_1).map (sm en7_18v1 e7) := by
  unfold s7_18v1; exact go (k7 mm) (Q @j7_25v1_t @j7_45v1_t)
def l7_18v1 (l5_0 : Bool) (l5_1 : List (Bs × Bs)) (i8 : Int) (h0_0 : Bs) (h0_1 h0_2 : Int) (h0_3_0 : Bool) (h0_3_1 : List (Bs × Bs)) (h0_4 : Int) (h0_5 : Bs) (h0_6 : Int) (h0_7_0 : Bool) (h0_7_1 : List (Bs × Bs)) (h0_8_0 : Bool) (h0_8_1 : List UInt8) (h1_0 h1_1 : Bs) (h1_2 : Int) (h1_3_0 : Bool) (h1_3_1 : List (Bs × Bs)) (h1_4_0 : Bool) (h1_4_1 : List UInt8) : Option R7 := iter (fun x : (Bool × List (Bs × Bs) × Int × Bs × Int × Int × Bool × List (Bs × Bs) × Int × Bs × Int × Bool × List (Bs × Bs) × Bool × List UInt8 × Bs × Bs × Int × Bool × List (Bs × Bs) × Bool × List UInt8) => s7_18v1 x.1 x.2.1 x.2.2.1 x.2.2.2.1 x.2.2.2.2.1 x.2.2.2.2.2.1 x.2.2.2.2.2.2.1 x.2.2.2.2.2.2.2.1 x.2.2.2.2.2.2.2.2.1 x.2.2.2.2.2.2.2.2.2.1 x.2.2.2.2.2.2.2.2.2.2.1 x.2.2.2.2.2.2.2.2.2.2.2.1 x.2.2.2.2.2.2.2.2.2.2.2.2.1 x.2.2.2.2.2.2.2.2.2.2.2.2.2.1 x.2.2.2.2.2.2.2.2.2.2.2.2.2.2.1 x.2.2.2.2.2.2.2.2.2.2.2.2.2.2.2.1 x.2.2.2.2.2.2.2.2.2.2.2.2.2.2.2.2.1 x.2.2.2.2.2.2.2.2.2.2.2.2.2.2.2.2.2.1 x.2.2.2.2.2.2.2.2.2.2.2.2.2.2.2.2.2.2.1 x.2.2.2.2.2.2.2.2.2.2.2.2.2.2.2.2.2.2.2.1 x.2.2.2.2.2.2.2.2.2.2.2.2.2.2.2.2.2.2.2.2.1 x.2.2.2.2.2.2.2.2.2.2.2.2.2.2.2.2.2.2.2.2.2) (l5_0, l5_1, i8, h0_0, h0_1, h0_2, h0_3_0, h0_3_1, h0_4, h0_5, h0_6, h0_7_0, h0_7_1, h0_8_0, h0_8_1, h1_0, h1_1, h1_2, h1_3_0, h1_3_1, h1_4_0, h1_4_1)
theorem l7_18v1_t (l5_0 : Bool) (l5_1 : List (Bs × Bs)) (i8 : Int) (h0_0 : Bs) (h0_1 h0_2 : Int) (h0_3_0 : Bool) (h0_3_1 : List (Bs × Bs)) (h0_4 : Int) (h0_5 : Bs) (h0_6 : Int) (h0_7_0 : Bool) (h0_7_1 : List (Bs × Bs)) (h0_8_0 : Bool) (h0_8_1 : List UInt8) (h1_0 h1_1 : Bs) (h1_2 : Int) (h1_3_0 : Bool) (h1_3_1 : List (Bs × Bs)) (h1_4_0 : Bool) (h1_4_1 : List UInt8) : (K7_18v1 mm) (itW (lp (E0 mm) 7 0 c7_19 L7_18) (en7_18v1 (l5_0, l5_1, i8, h0_0, h0_1, h0_2, h0_3_0, h0_3_1, h0_4, h0_5, h0_6, h0_7_0, h0_7_1, h0_8_0, h0_8_1, h1_0, h1_1, h1_2, h1_3_0, h1_3_1, h1_4_0, h1_4_1))) = (l7_18v1 l5_0 l5_1 i8 h0_0 h0_1 h0_2 h0_3_0 h0_3_1 h0_4 h0_5 h0_6 h0_7_0 h0_7_1 h0_8_0 h0_8_1 h1_0 h1_1 h1_2 h1_3_0 h1_3_1 h1_4_0 h1_4_1).map e7 :=
  it_sim (K := (K7_18v1 mm)) rfl (enc := en7_18v1) (fun x => s7_18v1_t x.1 x.2.1 x.2.2.1 x.2.2.2.1 x.2.2.2.2.1 x.2.2.2.2.2.1 x.2.2.2.2.2.2.1 x.2.2.2.2.2.2.2.1 x.2.2.2.2.2.2.2.2.1 x.2.2.2.2.2.2.2.2.2.1 x.2.2.2.2.2.2.2.2.2.2.1 x.2.2.2.2.2.2.2.2.2.2.2.1 x.2.2.2.2.2.2.2.2.2.2.2.2.1 x.2.2.2.2.2.2.2.2.2.2.2.2.2.1 x.2.2.2.2.2.2.2.2.2.2.2.2.2.2.1 x.2.2.2.2.2.2.2.2.2.2.2.2.2.2.2.1 x.2.2.2.2.2.2.2.2.2.2.2.2.2.2.2.2.1 x.2.2.2.2.2.2.2.2.2.2.2.2.2.2.2.2.2.1 x.2.2.2.2.2.2.2.2.2.2.2.2.2.2.2.2.2.2.1 x.2.2.2.2.2.2.2.2.2.2.2.2.2.2.2.2.2.2.2.1 x.2.2.2.2.2.2.2.2.2.2.2.2.2.2.2.2.2.2.2.2.1 x.2.2.2.2.2.2.2.2.2.2.2.2.2.2.2.2.2.2.2.2.2) (l5_0, l5_1, i8, h0_0, h0_1, h0_2, h0_3_0, h0_3_1, h0_4, h0_5, h0_6, h0_7_0, h0_7_1, h0_8_0, h0_8_1, h1_0, h1_1, h1_2, h1_3_0, h1_3_1, h1_4_0, h1_4_1)
def j7_14v1 (l5_0 : Bool) (l5_1 : List (Bs × Bs)) (h0_0 : Bs) (h0_1 h0_2 : Int) (h0_3_0 : Bool) (h0_3_1 : List (Bs × Bs)) (h0_4 : Int) (h0_5 : Bs) (h0_6 : Int) (h0_7_0 : Bool) (h0_7_1 : List (Bs × Bs)) (h0_8_0 : Bool) (h0_8_1 : List UInt8) (h1_0 h1_1 : Bs) (h1_2 : Int) (h1_3_0 : Bool) (h1_3_1 : List (Bs × Bs)) (h1_4_0 : Bool) (h1_4_1 : List UInt8) : Option R7 :=
  l7_18v1 l5_0 l5_1 (0 : Int) h0_0 h0_1 h0_2 h0_3_0 h0_3_1 h0_4 h0_5 h0_6 h0_7_0 h0_7_1 h0_8_0 h0_8_1 h1_0 h1_1 h1_2 h1_3_0 h1_3_1 h1_4_0 h1_4_1
theorem j7_14v1_t (l5_0 : Bool) (l5_1 : List (Bs × Bs)) (h0_0 : Bs) (h0_1 h0_2 : Int) (h0_3_0 : Bool) (h0_3_1 : List (Bs × Bs)) (h0_4 : Int) (h0_5 : Bs) (h0_6 : Int) (h0_7_0 : Bool) (h0_7_1 : List (Bs × Bs)) (h0_8_0 : Bool) (h0_8_1 : List UInt8) (h1_0 h1_1 : Bs) (h1_2 : Int) (h1_3_0 : Bool) (h1_3_1 : List (Bs × Bs)) (h1_4_0 : Bool) (h1_4_1 : List UInt8)  (sl : Sl) (_ : sl 2 = .v (.c (.ptr 0 0))) (_ : sl 3 = .v (.c (.ptr 1 0))) (_ : sl 5 = vd (.lst l5_0 (enL enSS l5_1))) :
    b7 mm (dn (E0 mm) 7 0 c7_14 sl [.cells [.d (dS h0_0), .d (dU h0_1), .d (dU h0_2), .d (.lst h0_3_0 (enL enSS h0_3_1)), .d (dI h0_4), .d (dS h0_5), .d (dI h0_6), .d (.lst h0_7_0 (enL enSS h0_7_1)), .d (.lst h0_8_0 (enL enB h0_8_1))], .cells [.d (dS h1_0), .d (dS h1_1), .d (dI h1_2), .d (.lst h1_3_0 (enL enSS h1_3_1)), .d (.lst h1_4_0 (enL enB h1_4_1))]]) = (j7_14v1 l5_0 l5_1 h0_0 h0_1 h0_2 h0_3_0 h0_3_1 h0_4 h0_5 h0_6 h0_7_0 h0_7_1 h0_8_0 h0_8_1 h1_0 h1_1 h1_2 h1_3_0 h1_3_1 h1_4_0 h1_4_1).map e7 := by
  unfold j7_14v1; exact go (Q (nE c7_14 (.seq (.seq c7_16 (.block 0 c7_18)) c7_45)) (k7 mm)) @l7_18v1_t
def j7_9v1 (l5_0 : Bool) (l5_1 : List (Bs × Bs)) (t48 : Bool) (h0_0 : Bs) (h0_1 h0_2 : Int) (h0_3_0 : Bool) (h0_3_1 : List (Bs × Bs)) (h0_4 : Int) (h0_5 : Bs) (h0_6 : Int) (h0_7_0 : Bool) (h0_7_1 : List (Bs × Bs)) (h0_8_0 : Bool) (h0_8_1 : List UInt8) (h1_0 h1_1 : Bs) (h1_2 : Int) (h1_3_0 : Bool) (h1_3_1 : List (Bs × Bs)) (h1_4_0 : Bool) (h1_4_1 : List UInt8) : Option R7 :=
  if t48 = true then
    some false
  else
    j7_14v1 l5_0 l5_1 h0_0 h0_1 h0_2 h0_3_0 h0_3_1 h0_4 h0_5 h0_6 h0_7_0 h0_7_1 h0_8_0 h0_8_1 h1_0 h1_1 h1_2 h1_3_0 h1_3_1 h1_4_0 h1_4_1
theorem j7_9v1_t (l5_0 : Bool) (l5_1 : List (Bs × Bs)) (t48 : Bool) (h0_0 : Bs) (h0_1 h0_2 : Int) (h0_3_0 : Bool) (h0_3_1 : List (Bs × Bs)) (h0_4 : Int) (h0_5 : Bs) (h0_6 : Int) (h0_7_0 : Bool) (h0_7_1 : List (Bs × Bs)) (h0_8_0 : Bool) (h0_8_1 : List UInt8) (h1_0 h1_1 : Bs) (h1_2 : Int) (h1_3_0 : Bool) (h1_3_1 : List (Bs × Bs)) (h1_4_0 : Bool) (h1_4_1 : List UInt8)  (sl : Sl) (_ : sl 2 = .v (.c (.ptr 0 0))) (_ : sl 3 = .v (.c (.ptr 1 0))) (_ : sl 5 = vd (.lst l5_0 (enL enSS l5_1))) (_ : sl 48 = vd (dB t48)) :
    b7 mm (sq (E0 mm) 7 0 c7_14 (dn (E0 mm) 7 0 c7_9 sl [.cells [.d (dS h0_0), .d (dU h0_1), .d (dU h0_2), .d (.lst h0_3_0 (enL enSS h0_3_1)), .d (dI h0_4), .d (dS h0_5), .d (dI h0_6), .d (.lst h0_7_0 (enL enSS h0_7_1)), .d (.lst h0_8_0 (enL enB h0_8_1))], .cells [.d (dS h1_0), .d (dS h1_1), .d (dI h1_2), .d (.lst h1_3_0 (enL enSS h1_3_1)), .d (.lst h1_4_0 (enL enB h1_4_1))]])) = (j7_9v1 l5_0 l5_1 t48 h0_0 h0_1 h0_2 h0_3_0 h0_3_1 h0_4 h0_5 h0_6 h0_7_0 h0_7_1 h0_8_0 h0_8_1 h1_0 h1_1 h1_2 h1_3_0 h1_3_1 h1_4_0 h1_4_1).map e7 := by
  unfold j7_9v1; exact go (Q (nE c7_9 (.cond _ (.seq c7_11 .ret) .skip)) (k7 mm)) @j7_14v1_t
def m7 (e0_0 : Bs) (e0_1 e0_2 : Int) (e0_3 : Bool) (e0_4 : List (Bs × Bs)) (e0_5 : Int) (e0_6 : Bs) (e0_7 : Int) (e0_8 : Bool) (e0_9 : List (Bs × Bs)) (e0_10 : Bool) (e0_11 : List UInt8) (r0_0 r0_1 : Bs) (r0_2 : Int) (r0_3 : Bool) (r0_4 : List (Bs × Bs)) (r0_5 : Bool) (r0_6 : List UInt8) : Option R7 :=
  (m15 e0_0 e0_1 e0_2 e0_3 e0_4 e0_5 e0_6 e0_7 e0_8 e0_9 e0_10 e0_11).bind fun yr2 =>
    match yr2 with
    | .inl yr3 =>
      (m28 e0_8 e0_9).bind fun yr6 =>
        if (decide (2 < (yr3.2.length : Int))) = true then
          j7_9 yr3.1 yr3.2 true e0_0 e0_1 e0_2 e0_3 e0_4 e0_5 e0_6 e0_7 e0_8 e0_9 e0_10 e0_11 r0_0 r0_1 r0_2 r0_3 r0_4 r0_5 r0_6
        else
          if (decide (0 < (yr3.2.length : Int))) = true then
            if (0 : Int) < (yr3.2.length : Int) then
              if (yr6.2 == ((yr3.2.getD 0 default).1 == ([73, 102, 45, 78, 111, 110, 101, 45, 77, 97, 116, 99, 104] : Bs))) = true then
                if yr6.2 = true then
                  j7_9 yr3.1 yr3.2 (!((yr3.2.getD 0 default).2 == yr6.1)) e0_0 e0_1 e0_2 e0_3 e0_4 e0_5 e0_6 e0_7 e0_8 e0_9 e0_10 e0_11 r0_0 r0_1 r0_2 r0_3 r0_4 r0_5 r0_6
                else
                  j7_9 yr3.1 yr3.2 false e0_0 e0_1 e0_2 e0_3 e0_4 e0_5 e0_6 e0_7 e0_8 e0_9 e0_10 e0_11 r0_0 r0_1 r0_2 r0_3 r0_4 r0_5 r0_6
              else
                j7_9 yr3.1 yr3.2 true e0_0 e0_1 e0_2 e0_3 e0_4 e0_5 e0_6 e0_7 e0_8 e0_9 e0_10 e0_11 r0_0 r0_1 r0_2 r0_3 r0_4 r0_5 r0_6
            else none
          else
            if yr6.2 = true then
              j7_9 yr3.1 yr3.2 true e0_0 e0_1 e0_2 e0_3 e0_4 e0_5 e0_6 e0_7 e0_8 e0_9 e0_10 e0_11 r0_0 r0_1 r0_2 r0_3 r0_4 r0_5 r0_6
            else
              j7_9 yr3.1 yr3.2 false e0_0 e0_1 e0_2 e0_3 e0_4 e0_5 e0_6 e0_7 e0_8 e0_9 e0_10 e0_11 r0_0 r0_1 r0_2 r0_3 r0_4 r0_5 r0_6
    | .inr yr4 =>
      (m28 e0_8 e0_9).bind fun yr49 =>
        if (decide (2 < (yr4.2.length : Int))) = true then
          j7_9v1 yr4.1 yr4.2 true e0_0 e0_1 e0_2 e0_3 e0_4 e0_5 e0_6 e0_7 e0_8 e0_9 e0_10 e0_11 r0_0 r0_1 r0_2 r0_3 r0_4 r0_5 r0_6
        else
          if (decide (0 < (yr4.2.length : Int))) = true then
            if (0 : Int) < (yr4.2.length : Int) then
              if (yr49.2 == ((yr4.2.getD 0 default).1 == ([73, 102, 45, 78, 111, 110, 101, 45, 77, 97, 116, 99, 104] : Bs))) = true then
                if yr49.2 = true then
                  j7_9v1 yr4.1 yr4.2 (!((yr4.2.getD 0 default).2 == yr49.1)) e0_0 e0_1 e0_2 e0_3 e0_4 e0_5 e0_6 e0_7 e0_8 e0_9 e0_10 e0_11 r0_0 r0_1 r0_2 r0_3 r0_4 r0_5 r0_6
                else
                  j7_9v1 yr4.1 yr4.2 false e0_0 e0_1 e0_2 e0_3 e0_4 e0_5 e0_6 e0_7 e0_8 e0_9 e0_10 e0_11 r0_0 r0_1 r0_2 r0_3 r0_4 r0_5 r0_6
              else
                j7_9v1 yr4.1 yr4.2 true e0_0 e0_1 e0_2 e0_3 e0_4 e0_5 e0_6 e0_7 e0_8 e0_9 e0_10 e0_11 r0_0 r0_1 r0_2 r0_3 r0_4 r0_5 r0_6
            else none
          else
            if yr49.2 = true then
              j7_9v1 yr4.1 yr4.2 true e0_0 e0_1 e0_2 e0_3 e0_4 e0_5 e0_6 e0_7 e0_8 e0_9 e0_10 e0_11 r0_0 r0_1 r0_2 r0_3 r0_4 r0_5 r0_6
            else
              j7_9v1 yr4.1 yr4.2 false e0_0 e0_1 e0_2 e0_3 e0_4 e0_5 e0_6 e0_7 e0_8 e0_9 e0_10 e0_11 r0_0 r0_1 r0_2 r0_3 r0_4 r0_5 r0_6
theorem f7_t (e0_0 : Bs) (e0_1 e0_2 : Int) (e0_3 : Bool) (e0_4 : List (Bs × Bs)) (e0_5 : Int) (e0_6 : Bs) (e0_7 : Int) (e0_8 : Bool) (e0_9 : List (Bs × Bs)) (e0_10 : Bool) (e0_11 : List UInt8) (r0_0 r0_1 : Bs) (r0_2 : Int) (r0_3 : Bool) (r0_4 : List (Bs × Bs)) (r0_5 : Bool) (r0_6 : List UInt8) :
    callW (E0 mm) 7 [.agg [.d (dS e0_0), .d (dU e0_1), .d (dU e0_2), .d (.lst e0_3 (enL enSS e0_4)), .d (dI e0_5), .d (dS e0_6), .d (dI e0_7), .d (.lst e0_8 (enL enSS e0_9)), .d (.lst e0_10 (enL enB e0_11))], .agg [.d (dS r0_0), .d (dS r0_1), .d (dI r0_2), .d (.lst r0_3 (enL enSS r0_4)), .d (.lst r0_5 (enL enB r0_6))]] [] = (m7 e0_0 e0_1 e0_2 e0_3 e0_4 e0_5 e0_6 e0_7 e0_8 e0_9 e0_10 e0_11 r0_0 r0_1 r0_2 r0_3 r0_4 r0_5 r0_6).map e7 := by
  rw [cR c7_0 [.tmp 4] Tryz.func7]
  unfold m7; exact go (k7 mm) (Q @j7_9_t @j7_9v1_t)
end
end Go.Proofs.YtbkobjepahlegaaGreatDoor
