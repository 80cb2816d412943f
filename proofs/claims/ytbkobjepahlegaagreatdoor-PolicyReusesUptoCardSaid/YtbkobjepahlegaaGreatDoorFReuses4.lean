/- The Go functions as plain functions, and that the evaluator computes them. -/
import Derived.Test.YtbkobjepahlegaaGreatDoorFReuses3
set_option linter.all false
set_option maxRecDepth 100000
namespace Go.Proofs.YtbkobjepahlegaaGreatDoor
open Go Go.Ab
open Nat renaming reduceEqDiff → za, reduceAdd → zb, reduceLeDiff → zc, reduceLT → zd, reduceMul → ze, reduceBEq → zf, reduceSub → zg, reducePow → zh
open Int renaming reduceEq → zi, reduceLE → zj, reduceLT → zk, reduceToNat → zl, reduceNegSucc → zm, reduceAdd → zn, reduceBEq → zo
open String renaming reduceBEq → zp
set_option maxHeartbeats 4000000
noncomputable section
variable {mm : Int}
noncomputable def c103_0 : Code := bodyOf Tryz.f103
def c103_1 := cA c103_0
def c103_4 := cA (cA (cB c103_0))
def c103_5 := cB (cA (cB c103_0))
def c103_7 := cA (cA c103_5)
def c103_10 := cB (cB c103_0)
def c103_11 := cA c103_10
def c103_14 := cA (cA (cB c103_10))
def c103_16 := cA (cB (cA (cB c103_10)))
def c103_17 := cA c103_16
def c103_19 := cA (cA c103_17)
def c103_26 := cA (cA (cA (cB c103_17)))
def c103_28 := cA (cB (cA (cA (cB c103_17))))
def c103_30 := cB (cB c103_17)
def c103_31 := cB (cB c103_10)
def c103_32 := cA c103_31
def c103_34 := cA (cB c103_31)
def c103_37 := cA (cA (cB (cB c103_31)))
def c103_38 := cB (cA (cB (cB c103_31)))
def c103_40 := cA (cA c103_38)
def c103_43 := cB (cB (cB c103_31))
def c103_44 := cA c103_43
def c103_47 := cA (cA (cB c103_43))
def c103_49 := cA (cB (cA (cB c103_43)))
def c103_50 := cA c103_49
def c103_52 := cA (cA c103_50)
def c103_59 := cA (cA (cA (cB c103_50)))
def c103_61 := cA (cB (cA (cA (cB c103_50))))
def c103_63 := cA (cB (cB (cA (cA (cB c103_50)))))
def c103_65 := cB (cB c103_50)
def c103_66 := cB (cB c103_43)
def c103_68 := cA (cA c103_66)
def c103_70 := cA (cB (cA c103_66))
def c103_71 := cA c103_70
def c103_73 := cA (cA c103_71)
def c103_79 := cA (cA (cB c103_71))
def c103_80 := cB (cB c103_71)
def c103_81 := cB c103_66
def c103_83 := cA (cA c103_81)
def c103_86 := cA (cA (cB (cA c103_81)))
def c103_90 := cA (cB c103_81)
def L103_0 : List (Nat × Co) := [(0, .keep), (4, .keep), (5, .keep)]
def L103_1 : List (Nat × Co) := [(0, .keep), (4, .keep), (7, .keep), (8, .keep), (9, .keep), (10, .keep), (11, .keep), (12, .keep)]
def L103_2 : List (Nat × Co) := [(0, .keep), (4, .keep), (7, .keep), (8, .keep), (9, .keep), (10, .keep), (11, .keep), (13, .keep)]
abbrev b103 (mm : Int) := bodyD (E0 mm) [.tmp 2, .tmp 3] 0 false
abbrev R103 := (Int × Int)
def e103 (x : R103) : AV × Heap := (.tup [cd (dU x.1), cd (dI x.2)], [])
def j103_30 (s0 : Bs) (m4 i5 : Int) : Option ((Bs × Int × Int) ⊕ R103) :=
  some (.inl (s0, m4, (w64 (i5 + 1))))
def K103_16 (mm : Int) (r : Option (Ex × St)) : Option (AV × Heap) := b103 mm (sq (E0 mm) 103 0 c103_31 (blockD 0 (r)))
def en103_16 (x : (Bs × Int × Int)) : X := (none, [vd (dS x.1), vd (dI x.2.1), vd (dI x.2.2)], [])
def K103_49 (mm : Int) (r : Option (Ex × St)) : Option (AV × Heap) := b103 mm (sq (E0 mm) 103 0 c103_66 (blockD 2 (r)))
def en103_49 (x : (Bs × Int × Int × Int × Int × Int × Int × Int)) : X := (none, [vd (dS x.1), vd (dI x.2.1), vd (dI x.2.2.1), vd (dI x.2.2.2.1), vd (dI x.2.2.2.2.1), vd (dI x.2.2.2.2.2.1), vd (dU x.2.2.2.2.2.2.1), vd (dI x.2.2.2.2.2.2.2)], [])
def K103_70 (mm : Int) (r : Option (Ex × St)) : Option (AV × Heap) := b103 mm (sq (E0 mm) 103 0 c103_81 (blockD 4 (r)))
def en103_70 (x : (Bs × Int × Int × Int × Int × Int × Int × Int)) : X := (none, [vd (dS x.1), vd (dI x.2.1), vd (dI x.2.2.1), vd (dI x.2.2.2.1), vd (dI x.2.2.2.2.1), vd (dI x.2.2.2.2.2.1), vd (dU x.2.2.2.2.2.2.1), vd (dI x.2.2.2.2.2.2.2)], [])
def k103 := Q (fun mm => ry (E0 mm) c103_83) (Q @ent133 (Q @prm133 (Q @f133_t (Q @e133.eq_1 (Q (rx c103_90) (Q (rx c103_86) (Q (rx c103_73) (Q (rx c103_79) (Q @ent131 (Q @prm131 (Q @f131_t (Q @e131.eq_1 (Q (rx c103_80) (Q @K103_70.eq_1 (Q (rx c103_68) (Q (fun mm => lx (E0 mm) 103 c103_70 c103_71 L103_2) (Q (rx c103_52) (Q (rx c103_59) (Q (rx c103_61) (Q @f132_t (Q @e132.eq_1 (Q (rx c103_63) (Q @K103_49.eq_1 (Q (rx c103_40) (Q (rx c103_44) (Q (rx c103_47) (Q (fun mm => lx (E0 mm) 103 c103_49 c103_50 L103_1) (Q (rx c103_32) (Q @ent130 (Q @prm130 (Q @f130_t (Q @e130.eq_1 (Q (rx c103_34) (Q (rx c103_37) (Q (rx c103_19) (Q (fun mm => ry (E0 mm) c103_26) (Q @ent129 (Q @prm129 (Q @f129_t (Q @e129.eq_1 (Q (rx c103_28) (Q @K103_16.eq_1 (Q (rx c103_7) (Q (rx c103_11) (Q (rx c103_14) (Q (fun mm => lx (E0 mm) 103 c103_16 c103_17 L103_0) (Q (rx c103_1) (Q (rx c103_4) (Q (nE c103_0 (.seq c103_1 (.seq (.seq c103_4 c103_5) c103_10))) (Q (nE c103_10 (.seq c103_11 (.seq (.seq c103_14 (.block 0 c103_16)) c103_31))) (Q (nE c103_17 (.seq (.seq c103_19 (.cond _ .skip (.exit 0))) (.seq (.block 1 (.seq c103_26 (.cond _ c103_28 .skip))) c103_30))) (Q (nE c103_43 (.seq c103_44 (.seq (.seq c103_47 (.block 2 c103_49)) c103_66))) (Q (nE c103_50 (.seq (.seq c103_52 (.cond _ .skip (.exit 2))) (.seq (.block 3 (.seq c103_59 (.seq c103_61 (.cond _ c103_63 .skip)))) c103_65))) (Q (nE c103_71 (.seq (.seq c103_73 (.cond _ .skip (.exit 4))) (.seq (.block 5 c103_79) c103_80))) (Q @en103_16.eq_1 (Q @en103_49.eq_1 (Q @en103_70.eq_1 (Q @L103_0.eq_1 (Q @L103_1.eq_1 (Q @L103_2.eq_1 hA))))))))))))))))))))))))))))))))))))))))))))))))))))))))))))
theorem j103_30_t (s0 : Bs) (m4 i5 : Int)  (sl : Sl) (_ : sl 0 = vd (dS s0)) (_ : sl 4 = vd (dI m4)) (_ : sl 5 = vd (dI i5)) :
    stepE (K103_16 mm) (loopK 0 L103_0 (dn (E0 mm) 103 0 c103_30 sl [])) = (j103_30 s0 m4 i5).map (sm en103_16 e103) := by
  unfold j103_30; exact go (Q (rx c103_30) k103) trivial
def j103_65 (s0 : Bs) (m4 year7 : Int) (h8 min9 : Int) (sec10 d11 y12 : Int) : Option ((Bs × Int × Int × Int × Int × Int × Int × Int) ⊕ R103) :=
  some (.inl (s0, m4, year7, h8, min9, sec10, d11, (w64 (y12 + 1))))
theorem j103_65_t (s0 : Bs) (m4 year7 : Int) (h8 min9 : Int) (sec10 d11 y12 : Int)  (sl : Sl) (_ : sl 0 = vd (dS s0)) (_ : sl 4 = vd (dI m4)) (_ : sl 7 = vd (dI year7)) (_ : sl 8 = vd (dI h8)) (_ : sl 9 = vd (dI min9)) (_ : sl 10 = vd (dI sec10)) (_ : sl 11 = vd (dU d11)) (_ : sl 12 = vd (dI y12)) :
    stepE (K103_49 mm) (loopK 0 L103_1 (dn (E0 mm) 103 0 c103_65 sl [])) = (j103_65 s0 m4 year7 h8 min9 sec10 d11 y12).map (sm en103_49 e103) := by
  unfold j103_65; exact go (Q (rx c103_65) k103) trivial
def j103_81 (s0 : Bs) (h8 min9 : Int) (sec10 d11 : Int) : Option R103 :=
  (m133 d11).bind fun yr48 =>
    (bnd 3 s0.length).bind fun yk50 =>
      if (yr48 == (s0.take yk50)) = true then
        some ((wu64 ((wu64 (86400 * d11)) + (wu64 (w64 ((w64 ((w64 (3600 * h8)) + (w64 (60 * min9)))) + sec10))))), (0 : Int))
      else
        some ((0 : Int), (5 : Int))
theorem j103_81_t (s0 : Bs) (h8 min9 : Int) (sec10 d11 : Int)  (sl : Sl) (_ : sl 0 = vd (dS s0)) (_ : sl 8 = vd (dI h8)) (_ : sl 9 = vd (dI min9)) (_ : sl 10 = vd (dI sec10)) (_ : sl 11 = vd (dU d11)) :
    b103 mm (dn (E0 mm) 103 0 c103_81 sl []) = (j103_81 s0 h8 min9 sec10 d11).map e103 := by
  unfold j103_81; exact go (Q (nE c103_81 (.seq (.seq c103_83 (.cond _ (.seq c103_86 .ret) .skip)) (.seq c103_90 .ret))) k103) trivial
def s103_70 (s0 : Bs) (m4 year7 : Int) (h8 min9 : Int) (sec10 d11 i13 : Int) : Option ((Bs × Int × Int × Int × Int × Int × Int × Int) ⊕ R103) :=
  if (decide (i13 < m4)) = true then
    (m131 year7 i13).bind fun yr46 =>
      some (.inl (s0, m4, year7, h8, min9, sec10, (wu64 (d11 + (wu64 yr46))), (w64 (i13 + 1))))
  else
    (j103_81 s0 h8 min9 sec10 d11).map .inr
theorem s103_70_t (s0 : Bs) (m4 year7 : Int) (h8 min9 : Int) (sec10 d11 i13 : Int) :
    stepE (K103_70 mm) (lp (E0 mm) 103 0 c103_71 L103_2 (en103_70 (s0, m4, year7, h8, min9, sec10, d11, i13))) = (s103_70 s0 m4 year7 h8 min9 sec10 d11 i13).map (sm en103_70 e103) := by
  unfold s103_70; exact go k103 @j103_81_t
def l103_70 (s0 : Bs) (m4 year7 : Int) (h8 min9 : Int) (sec10 d11 i13 : Int) : Option R103 := iter (fun x : (Bs × Int × Int × Int × Int × Int × Int × Int) => s103_70 x.1 x.2.1 x.2.2.1 x.2.2.2.1 x.2.2.2.2.1 x.2.2.2.2.2.1 x.2.2.2.2.2.2.1 x.2.2.2.2.2.2.2) (s0, m4, year7, h8, min9, sec10, d11, i13)
theorem l103_70_t (s0 : Bs) (m4 year7 : Int) (h8 min9 : Int) (sec10 d11 i13 : Int) : (K103_70 mm) (itW (lp (E0 mm) 103 0 c103_71 L103_2) (en103_70 (s0, m4, year7, h8, min9, sec10, d11, i13))) = (l103_70 s0 m4 year7 h8 min9 sec10 d11 i13).map e103 :=
  it_sim (K := (K103_70 mm)) rfl (enc := en103_70) (fun x => s103_70_t x.1 x.2.1 x.2.2.1 x.2.2.2.1 x.2.2.2.2.1 x.2.2.2.2.2.1 x.2.2.2.2.2.2.1 x.2.2.2.2.2.2.2) (s0, m4, year7, h8, min9, sec10, d11, i13)
def j103_66 (s0 : Bs) (m4 year7 : Int) (h8 min9 : Int) (sec10 d11 : Int) : Option R103 :=
  l103_70 s0 m4 year7 h8 min9 sec10 d11 (0 : Int)
theorem j103_66_t (s0 : Bs) (m4 year7 : Int) (h8 min9 : Int) (sec10 d11 : Int)  (sl : Sl) (_ : sl 0 = vd (dS s0)) (_ : sl 4 = vd (dI m4)) (_ : sl 7 = vd (dI year7)) (_ : sl 8 = vd (dI h8)) (_ : sl 9 = vd (dI min9)) (_ : sl 10 = vd (dI sec10)) (_ : sl 11 = vd (dU d11)) :
    b103 mm (dn (E0 mm) 103 0 c103_66 sl []) = (j103_66 s0 m4 year7 h8 min9 sec10 d11).map e103 := by
  unfold j103_66; exact go (Q (nE c103_66 (.seq (.seq c103_68 (.block 4 c103_70)) c103_81)) k103) @l103_70_t
def s103_49 (s0 : Bs) (m4 year7 : Int) (h8 min9 : Int) (sec10 d11 y12 : Int) : Option ((Bs × Int × Int × Int × Int × Int × Int × Int) ⊕ R103) :=
  if (decide (y12 < year7)) = true then
    (m132 y12).bind fun yr42 =>
      if yr42 = true then
        j103_65 s0 m4 year7 h8 min9 sec10 (wu64 ((wu64 (d11 + 365)) + 1)) y12
      else
        j103_65 s0 m4 year7 h8 min9 sec10 (wu64 (d11 + 365)) y12
  else
    (j103_66 s0 m4 year7 h8 min9 sec10 d11).map .inr
theorem s103_49_t (s0 : Bs) (m4 year7 : Int) (h8 min9 : Int) (sec10 d11 y12 : Int) :
    stepE (K103_49 mm) (lp (E0 mm) 103 0 c103_50 L103_1 (en103_49 (s0, m4, year7, h8, min9, sec10, d11, y12))) = (s103_49 s0 m4 year7 h8 min9 sec10 d11 y12).map (sm en103_49 e103) := by
  unfold s103_49; exact go k103 (Q @j103_65_t @j103_66_t)
def l103_49 (s0 : Bs) (m4 year7 : Int) (h8 min9 : Int) (sec10 d11 y12 : Int) : Option R103 := iter (fun x : (Bs × Int × Int × Int × Int × Int × Int × Int) => s103_49 x.1 x.2.1 x.2.2.1 x.2.2.2.1 x.2.2.2.2.1 x.2.2.2.2.2.1 x.2.2.2.2.2.2.1 x.2.2.2.2.2.2.2) (s0, m4, year7, h8, min9, sec10, d11, y12)
theorem l103_49_t (s0 : Bs) (m4 year7 : Int) (h8 min9 : Int) (sec10 d11 y12 : Int) : (K103_49 mm) (itW (lp (E0 mm) 103 0 c103_50 L103_1) (en103_49 (s0, m4, year7, h8, min9, sec10, d11, y12))) = (l103_49 s0 m4 year7 h8 min9 sec10 d11 y12).map e103 :=
  it_sim (K := (K103_49 mm)) rfl (enc := en103_49) (fun x => s103_49_t x.1 x.2.1 x.2.2.1 x.2.2.2.1 x.2.2.2.2.1 x.2.2.2.2.2.1 x.2.2.2.2.2.2.1 x.2.2.2.2.2.2.2) (s0, m4, year7, h8, min9, sec10, d11, y12)
def j103_38 (s0 : Bs) (m4 day6 : Int) (year7 h8 : Int) (min9 sec10 : Int) (t112 : Bool) : Option R103 :=
  if t112 = true then
    some ((0 : Int), (5 : Int))
  else
    l103_49 s0 m4 year7 h8 min9 sec10 (wu64 (w64 (day6 - 1))) (1970 : Int)
theorem j103_38_t (s0 : Bs) (m4 day6 : Int) (year7 h8 : Int) (min9 sec10 : Int) (t112 : Bool)  (sl : Sl) (_ : sl 0 = vd (dS s0)) (_ : sl 4 = vd (dI m4)) (_ : sl 6 = vd (dI day6)) (_ : sl 7 = vd (dI year7)) (_ : sl 8 = vd (dI h8)) (_ : sl 9 = vd (dI min9)) (_ : sl 10 = vd (dI sec10)) (_ : sl 112 = vd (dB t112)) :
    b103 mm (sq (E0 mm) 103 0 c103_43 (dn (E0 mm) 103 0 c103_38 sl [])) = (j103_38 s0 m4 day6 year7 h8 min9 sec10 t112).map e103 := by
  unfold j103_38; exact go (Q (nE c103_38 (.cond _ (.seq c103_40 .ret) .skip)) k103) @l103_49_t
def j103_31 (s0 : Bs) (m4 : Int) : Option R103 :=
  (m130 s0 (5 : Int) (2 : Int)).bind fun yr29 =>
    (m130 s0 (12 : Int) (4 : Int)).bind fun yr31 =>
      (m130 s0 (17 : Int) (2 : Int)).bind fun yr33 =>
        (m130 s0 (20 : Int) (2 : Int)).bind fun yr35 =>
          (m130 s0 (23 : Int) (2 : Int)).bind fun yr37 =>
            if (decide (m4 < 0)) = true then
              j103_38 s0 m4 yr29 yr31 yr33 yr35 yr37 true
            else
              if (decide (yr31 < 1970)) = true then
                j103_38 s0 m4 yr29 yr31 yr33 yr35 yr37 true
              else
                if (decide (yr29 < 1)) = true then
                  j103_38 s0 m4 yr29 yr31 yr33 yr35 yr37 true
                else
                  (m131 yr31 m4).bind fun yr55 =>
                    if (decide (yr55 < yr29)) = true then
                      j103_38 s0 m4 yr29 yr31 yr33 yr35 yr37 true
                    else
                      if (decide (yr33 < 0)) = true then
                        j103_38 s0 m4 yr29 yr31 yr33 yr35 yr37 true
                      else
                        if (decide (23 < yr33)) = true then
                          j103_38 s0 m4 yr29 yr31 yr33 yr35 yr37 true
                        else
                          if (decide (yr35 < 0)) = true then
                            j103_38 s0 m4 yr29 yr31 yr33 yr35 yr37 true
                          else
                            if (decide (59 < yr35)) = true then
                              j103_38 s0 m4 yr29 yr31 yr33 yr35 yr37 true
                            else
                              if (decide (yr37 < 0)) = true then
                                j103_38 s0 m4 yr29 yr31 yr33 yr35 yr37 true
                              else
                                j103_38 s0 m4 yr29 yr31 yr33 yr35 yr37 (decide (59 < yr37))
theorem j103_31_t (s0 : Bs) (m4 : Int)  (sl : Sl) (_ : sl 0 = vd (dS s0)) (_ : sl 4 = vd (dI m4)) :
    b103 mm (dn (E0 mm) 103 0 c103_31 sl []) = (j103_31 s0 m4).map e103 := by
  unfold j103_31; exact go (Q (nE c103_31 (.seq c103_32 (.seq c103_34 (.seq (.seq c103_37 c103_38) c103_43)))) k103) @j103_38_t
def s103_16 (s0 : Bs) (m4 i5 : Int) : Option ((Bs × Int × Int) ⊕ R103) :=
  if (decide (i5 < 12)) = true then
    (m129 i5).bind fun yr22 =>
      (bnd 11 s0.length).bind fun yk24 =>
        (bnd 8 yk24).bind fun yk26 =>
          if (yr22 == ((s0.take yk24).drop yk26)) = true then
            j103_30 s0 i5 i5
          else
            j103_30 s0 m4 i5
  else
    (j103_31 s0 m4).map .inr
theorem s103_16_t (s0 : Bs) (m4 i5 : Int) :
    stepE (K103_16 mm) (lp (E0 mm) 103 0 c103_17 L103_0 (en103_16 (s0, m4, i5))) = (s103_16 s0 m4 i5).map (sm en103_16 e103) := by
  unfold s103_16; exact go k103 (Q @j103_30_t @j103_31_t)
def l103_16 (s0 : Bs) (m4 i5 : Int) : Option R103 := iter (fun x : (Bs × Int × Int) => s103_16 x.1 x.2.1 x.2.2) (s0, m4, i5)
theorem l103_16_t (s0 : Bs) (m4 i5 : Int) : (K103_16 mm) (itW (lp (E0 mm) 103 0 c103_17 L103_0) (en103_16 (s0, m4, i5))) = (l103_16 s0 m4 i5).map e103 :=
  it_sim (K := (K103_16 mm)) rfl (enc := en103_16) (fun x => s103_16_t x.1 x.2.1 x.2.2) (s0, m4, i5)
def j103_5 (s0 : Bs) (t51 : Bool) : Option R103 :=
  if t51 = true then
    some ((0 : Int), (5 : Int))
  else
    l103_16 s0 (-1 : Int) (0 : Int)
theorem j103_5_t (s0 : Bs) (t51 : Bool)  (sl : Sl) (_ : sl 0 = vd (dS s0)) (_ : sl 51 = vd (dB t51)) :
    b103 mm (sq (E0 mm) 103 0 c103_10 (dn (E0 mm) 103 0 c103_5 sl [])) = (j103_5 s0 t51).map e103 := by
  unfold j103_5; exact go (Q (nE c103_5 (.cond _ (.seq c103_7 .ret) .skip)) k103) @l103_16_t
def m103 (s : Bs) : Option R103 :=
  if ((s.length : Int) == 29) = true then
    (bnd 5 s.length).bind fun yk3 =>
      (bnd 3 yk3).bind fun yk5 =>
        if (((s.take yk3).drop yk5) == ([44, 32] : Bs)) = true then
          if (7 : Int) < (s.length : Int) then
            if ((s.getD 7 0) == (32 : UInt8)) = true then
              if (11 : Int) < (s.length : Int) then
                if ((s.getD 11 0) == (32 : UInt8)) = true then
                  if (16 : Int) < (s.length : Int) then
                    if ((s.getD 16 0) == (32 : UInt8)) = true then
                      if (19 : Int) < (s.length : Int) then
                        if ((s.getD 19 0) == (58 : UInt8)) = true then
                          if (22 : Int) < (s.length : Int) then
                            if ((s.getD 22 0) == (58 : UInt8)) = true then
                              (bnd 25 s.length).bind fun yk18 =>
                                j103_5 s (!((s.drop yk18) == ([32, 71, 77, 84] : Bs)))
                            else
                              j103_5 s true
                          else none
                        else
                          j103_5 s true
                      else none
                    else
                      j103_5 s true
                  else none
                else
                  j103_5 s true
              else none
            else
              j103_5 s true
          else none
        else
          j103_5 s true
  else
    j103_5 s true
theorem f103_t (s : Bs) :
    callW (E0 mm) 103 [cd (dS s)] [] = (m103 s).map e103 := by
  rw [cR c103_0 [.tmp 2, .tmp 3] Tryz.func103]
  unfold m103; exact go k103 @j103_5_t
noncomputable def c53_0 : Code := bodyOf Tryz.f53
def c53_1 := cA c53_0
def c53_3 := cA (cB c53_0)
def c53_6 := cA (cA (cB (cB c53_0)))
def c53_9 := cA (cA (cB (cA (cB (cB c53_0)))))
def c53_13 := cA (cB (cB (cB c53_0)))
def c53_15 := cA (cB (cB (cB (cB c53_0))))
abbrev R53 := (Bs × Bool)
def e53 (x : R53) : AV × Heap := (.tup [cd (dS x.1), cd (dB x.2)], [])
def m53 (l_0 : Bool) (l_1 : List (Bs × Bs)) : Option R53 :=
  (m74 l_0 l_1 ([108, 97, 115, 116, 45, 109, 111, 100, 105, 102, 105, 101, 100] : Bs)).bind fun yr2 =>
    if ((yr2.2.length : Int) == 1) = true then
      if (0 : Int) < (yr2.2.length : Int) then
        (m103 (yr2.2.getD 0 default)).bind fun yr7 =>
          some ((yr2.2.getD 0 default), (yr7.2 == 0))
      else none
    else
      some (([] : Bs), false)
def k53 := Q (rx c53_1) (Q (rx c53_3) (Q (fun (mm : Int) (l_0 : Bool) (l_1 : List (Bs × Bs)) => (show callW (E0 mm) 74 [cd (.lst l_0 (enL enSS l_1)), cd (dS ([108, 97, 115, 116, 45, 109, 111, 100, 105, 102, 105, 101, 100] : Bs))] [] = _ from f74_t l_0 l_1 ([108, 97, 115, 116, 45, 109, 111, 100, 105, 102, 105, 101, 100] : Bs))) (Q @f74_t (Q @e74.eq_1 (Q (rx c53_6) (Q (rx c53_13) (Q @f103_t (Q @e103.eq_1 (Q (rx c53_15) (Q (rx c53_9) (Q (nE c53_0 (.seq c53_1 (.seq c53_3 (.seq (.seq c53_6 (.cond _ (.seq c53_9 .ret) .skip)) (.seq c53_13 (.seq c53_15 .ret)))))) hA)))))))))))
theorem f53_t (l_0 : Bool) (l_1 : List (Bs × Bs)) :
    callW (E0 mm) 53 [cd (.lst l_0 (enL enSS l_1))] [] = (m53 l_0 l_1).map e53 := by
  rw [cR c53_0 [.tmp 2, .tmp 3] Tryz.func53]
  unfold m53; exact go k53 trivial
noncomputable def c16_0 : Code := bodyOf Tryz.f16
def c16_1 := cA c16_0
def c16_3 := cA (cB c16_0)
def c16_5 := cA (cB (cB c16_0))
def c16_8 := cA (cA (cB (cB (cB c16_0))))
def c16_10 := cA (cB (cA (cB (cB (cB c16_0)))))
def c16_12 := cB (cB (cB (cB c16_0)))
def c16_13 := cA c16_12
def c16_16 := cA (cA (cB c16_12))
def c16_18 := cA (cB (cA (cB c16_12)))
def c16_20 := cB (cB c16_12)
def c16_21 := cA c16_20
abbrev b16 (mm : Int) := bodyD (E0 mm) [.tmp 2] 0 false
abbrev R16 := (Bool × List (Bs × Bs)) ⊕ (Bool × List (Bs × Bs))
def e16 (x : R16) : AV × Heap := match x with
  | .inl x => (.v (.c (.own x.1 (enL enSS x.2) 0)), [.row x.2.length (rz x.1 2)])
  | .inr x => (vd (.lst x.1 (enL enSS x.2)), [])
def j16_20 (l3_0 : Bool) (l3_1 : List (Bs × Bs)) : Option R16 :=
  some (.inl (l3_0, l3_1))
def k16 := Q (rx c16_21) (Q (rx c16_13) (Q @ent53 (Q @prm53 (Q @f53_t (Q @e53.eq_1 (Q (rx c16_16) (Q (rx c16_18) (Q @hd111 (Q @nv112 (Q @rw113 (Q (rx c16_1) (Q (rx c16_3) (Q (rx c16_5) (Q @ent31 (Q @prm31 (Q @f31_t (Q @e31.eq_1 (Q (rx c16_8) (Q (rx c16_10) (Q @hd104 (Q @nv105 (Q @rw106 (Q (nE c16_0 (.seq c16_1 (.seq c16_3 (.seq c16_5 (.seq (.seq c16_8 (.cond _ c16_10 .skip)) c16_12))))) hA)))))))))))))))))))))))
theorem j16_20_t (l3_0 : Bool) (l3_1 : List (Bs × Bs)) (g0 : Ob) (sl : Sl) (_ : sl 3 = .v (.c (.own l3_0 (enL enSS l3_1) 1))) :
    b16 mm (dn (E0 mm) 16 0 c16_20 sl [g0, .row l3_1.length (rz l3_0 2)]) = (j16_20 l3_0 l3_1).map e16 := by
  unfold j16_20; exact go (Q (nE c16_20 (.seq c16_21 .ret)) k16) trivial
def j16_12 (l3_0 : Bool) (l3_1 : List (Bs × Bs)) (h0_0 : Bs) (h0_1 h0_2 : Int) (h0_3_0 : Bool) (h0_3_1 : List (Bs × Bs)) (h0_4 : Int) (h0_5 : Bs) (h0_6 : Int) (h0_7_0 : Bool) (h0_7_1 : List (Bs × Bs)) (h0_8_0 : Bool) (h0_8_1 : List UInt8) : Option R16 :=
  (m53 h0_7_0 h0_7_1).bind fun yr5 =>
    if yr5.2 = true then
      if (l3_1.length + 1) * 32 ≤ 140737488355328 then
        j16_20 false (l3_1 ++ ([(([73, 102, 45, 77, 111, 100, 105, 102, 105, 101, 100, 45, 83, 105, 110, 99, 101] : Bs), yr5.1)] : List (Bs × Bs)))
      else none
    else
      j16_20 l3_0 l3_1
theorem j16_12_t (l3_0 : Bool) (l3_1 : List (Bs × Bs)) (h0_0 : Bs) (h0_1 h0_2 : Int) (h0_3_0 : Bool) (h0_3_1 : List (Bs × Bs)) (h0_4 : Int) (h0_5 : Bs) (h0_6 : Int) (h0_7_0 : Bool) (h0_7_1 : List (Bs × Bs)) (h0_8_0 : Bool) (h0_8_1 : List UInt8)  (sl : Sl) (_ : sl 1 = .v (.c (.ptr 0 0))) (_ : sl 3 = .v (.c (.own l3_0 (enL enSS l3_1) 1))) :
    b16 mm (dn (E0 mm) 16 0 c16_12 sl [.cells [.d (dS h0_0), .d (dU h0_1), .d (dU h0_2), .d (.lst h0_3_0 (enL enSS h0_3_1)), .d (dI h0_4), .d (dS h0_5), .d (dI h0_6), .d (.lst h0_7_0 (enL enSS h0_7_1)), .d (.lst h0_8_0 (enL enB h0_8_1))], .row l3_1.length (rz l3_0 2)]) = (j16_12 l3_0 l3_1 h0_0 h0_1 h0_2 h0_3_0 h0_3_1 h0_4 h0_5 h0_6 h0_7_0 h0_7_1 h0_8_0 h0_8_1).map e16 := by
  unfold j16_12; exact go (Q (nE c16_12 (.seq c16_13 (.seq (.seq c16_16 (.cond _ c16_18 .skip)) c16_20))) k16) @j16_20_t
def j16_20v1  : Option R16 :=
  some (.inr (true, ([] : List (Bs × Bs))))
theorem j16_20v1_t (g0 : Ob) (sl : Sl) (_ : sl 3 = vd (.lst true [])) :
    b16 mm (dn (E0 mm) 16 0 c16_20 sl [g0]) = (j16_20v1).map e16 := by
  unfold j16_20v1; exact go (Q (nE c16_20 (.seq c16_21 .ret)) k16) trivial
def j16_12v1 (h0_0 : Bs) (h0_1 h0_2 : Int) (h0_3_0 : Bool) (h0_3_1 : List (Bs × Bs)) (h0_4 : Int) (h0_5 : Bs) (h0_6 : Int) (h0_7_0 : Bool) (h0_7_1 : List (Bs × Bs)) (h0_8_0 : Bool) (h0_8_1 : List UInt8) : Option R16 :=
  (m53 h0_7_0 h0_7_1).bind fun yr9 =>
    if yr9.2 = true then
      j16_20 false ([(([73, 102, 45, 77, 111, 100, 105, 102, 105, 101, 100, 45, 83, 105, 110, 99, 101] : Bs), yr9.1)] : List (Bs × Bs))
    else
      j16_20v1
theorem j16_12v1_t (h0_0 : Bs) (h0_1 h0_2 : Int) (h0_3_0 : Bool) (h0_3_1 : List (Bs × Bs)) (h0_4 : Int) (h0_5 : Bs) (h0_6 : Int) (h0_7_0 : Bool) (h0_7_1 : List (Bs × Bs)) (h0_8_0 : Bool) (h0_8_1 : List UInt8)  (sl : Sl) (_ : sl 1 = .v (.c (.ptr 0 0))) (_ : sl 3 = vd (.lst true [])) :
    b16 mm (dn (E0 mm) 16 0 c16_12 sl [.cells [.d (dS h0_0), .d (dU h0_1), .d (dU h0_2), .d (.lst h0_3_0 (enL enSS h0_3_1)), .d (dI h0_4), .d (dS h0_5), .d (dI h0_6), .d (.lst h0_7_0 (enL enSS h0_7_1)), .d (.lst h0_8_0 (enL enB h0_8_1))]]) = (j16_12v1 h0_0 h0_1 h0_2 h0_3_0 h0_3_1 h0_4 h0_5 h0_6 h0_7_0 h0_7_1 h0_8_0 h0_8_1).map e16 := by
  unfold j16_12v1; exact go (Q (nE c16_12 (.seq c16_13 (.seq (.seq c16_16 (.cond _ c16_18 .skip)) c16_20))) k16) (Q @j16_20_t @j16_20v1_t)
def m16 (e0_0 : Bs) (e0_1 e0_2 : Int) (e0_3 : Bool) (e0_4 : List (Bs × Bs)) (e0_5 : Int) (e0_6 : Bs) (e0_7 : Int) (e0_8 : Bool) (e0_9 : List (Bs × Bs)) (e0_10 : Bool) (e0_11 : List UInt8) : Option R16 :=
  (m31 e0_8 e0_9).bind fun yr2 =>
    if yr2.2 = true then
      j16_12 false ([(([73, 102, 45, 78, 111, 110, 101, 45, 77, 97, 116, 99, 104] : Bs), yr2.1)] : List (Bs × Bs)) e0_0 e0_1 e0_2 e0_3 e0_4 e0_5 e0_6 e0_7 e0_8 e0_9 e0_10 e0_11
    else
      j16_12v1 e0_0 e0_1 e0_2 e0_3 e0_4 e0_5 e0_6 e0_7 e0_8 e0_9 e0_10 e0_11
theorem f16_t (e0_0 : Bs) (e0_1 e0_2 : Int) (e0_3 : Bool) (e0_4 : List (Bs × Bs)) (e0_5 : Int) (e0_6 : Bs) (e0_7 : Int) (e0_8 : Bool) (e0_9 : List (Bs × Bs)) (e0_10 : Bool) (e0_11 : List UInt8) :
    callW (E0 mm) 16 [.agg [.d (dS e0_0), .d (dU e0_1), .d (dU e0_2), .d (.lst e0_3 (enL enSS e0_4)), .d (dI e0_5), .d (dS e0_6), .d (dI e0_7), .d (.lst e0_8 (enL enSS e0_9)), .d (.lst e0_10 (enL enB e0_11))]] [] = (m16 e0_0 e0_1 e0_2 e0_3 e0_4 e0_5 e0_6 e0_7 e0_8 e0_9 e0_10 e0_11).map e16 := by
  rw [cR c16_0 [.tmp 2] Tryz.func16]
  unfold m16; exact go k16 (Q @j16_12_t @j16_12v1_t)
noncomputable def c46_0 : Code := bodyOf Tryz.f46
def c46_1 := cA c46_0
def c46_3 := cA (cB c46_0)
def c46_5 := cA (cB (cB c46_0))
def c46_8 := cA (cA (cB (cB (cB c46_0))))
def c46_10 := cA (cB (cA (cB (cB (cB c46_0)))))
def c46_11 := cA c46_10
def c46_13 := cA (cA c46_11)
def c46_20 := cA (cA (cA (cB c46_11)))
def c46_23 := cA (cA (cB (cA (cA (cB c46_11)))))
def c46_28 := cA (cB (cB (cA (cA (cB c46_11)))))
def c46_30 := cA (cB (cB (cB (cA (cA (cB c46_11))))))
def c46_33 := cA (cA (cB (cB (cB (cB (cA (cA (cB c46_11))))))))
def c46_35 := cA (cB (cA (cB (cB (cB (cB (cA (cA (cB c46_11)))))))))
def c46_37 := cA (cB (cB (cA (cB (cB (cB (cB (cA (cA (cB c46_11))))))))))
def c46_39 := cA (cB (cB (cB (cA (cB (cB (cB (cB (cA (cA (cB c46_11)))))))))))
def c46_41 := cA (cB (cB (cB (cB (cA (cB (cB (cB (cB (cA (cA (cB c46_11))))))))))))
def c46_43 := cA (cB (cB (cB (cB (cB (cA (cB (cB (cB (cB (cA (cA (cB c46_11)))))))))))))
def c46_45 := cA (cB (cB (cB (cB (cB (cB (cA (cB (cB (cB (cB (cA (cA (cB c46_11))))))))))))))
def c46_47 := cA (cB (cB (cB (cB (cB (cB (cB (cA (cB (cB (cB (cB (cA (cA (cB c46_11)))))))))))))))
def c46_50 := cA (cA (cB (cB (cB (cB (cB (cB (cB (cB (cA (cB (cB (cB (cB (cA (cA (cB c46_11)))))))))))))))))
def c46_53 := cB (cB (cA (cB (cB (cB (cB (cB (cB (cB (cB (cA (cB (cB (cB (cB (cA (cA (cB c46_11))))))))))))))))))
def c46_54 := cB (cB (cB (cB (cB (cB (cB (cB (cB (cA (cB (cB (cB (cB (cA (cA (cB c46_11))))))))))))))))
def c46_55 := cA c46_54
def c46_57 := cA (cB c46_54)
def c46_59 := cA (cB (cB c46_54))
def c46_61 := cA (cB (cB (cB c46_54)))
def c46_63 := cA (cB (cB (cB (cB c46_54))))
def c46_65 := cB (cB c46_11)
def c46_66 := cB (cB (cB (cB c46_0)))
def c46_67 := cA c46_66
def L46_0 : List (Nat × Co) := [(2, .keep), (3, .keep), (4, .keep), (5, .keep)]
abbrev R46 := (Bool × Bool × Bool × Bool × Bool × Bool × Int × Int × Int × Int)
def e46 (x : R46) : AV × Heap := (.v (.agg [.d (dB x.1), .d (dB x.2.1), .d (dB x.2.2.1), .d (dB x.2.2.2.1), .d (dB x.2.2.2.2.1), .d (dB x.2.2.2.2.2.1), .d (dI x.2.2.2.2.2.2.1), .d (dI x.2.2.2.2.2.2.2.1), .d (dI x.2.2.2.2.2.2.2.2.1), .d (dI x.2.2.2.2.2.2.2.2.2)]), [])
def j46_65 (all4_0 : Bool) (all4_1 : List Bs) (i5 : Int) (h0_0 h0_1 : Bool) (h0_2 h0_3 : Bool) (h0_4 h0_5 : Bool) (h0_6 h0_7 : Int) (h0_8 h0_9 : Int) (h1_0 h1_1 : Bool) (h1_2 h1_3 : Bool) (h1_4 h1_5 : Bool) (h1_6 h1_7 : Int) (h1_8 h1_9 : Int) : Option ((Bool × List Bs × Int × Bool × Bool × Bool × Bool × Bool × Bool × Int × Int × Int × Int × Bool × Bool × Bool × Bool × Bool × Bool × Int × Int × Int × Int) ⊕ R46) :=
  some (.inl (all4_0, all4_1, (w64 (i5 + 1)), h0_0, h0_1, h0_2, h0_3, h0_4, h0_5, h0_6, h0_7, h0_8, h0_9, h1_0, h1_1, h1_2, h1_3, h1_4, h1_5, h1_6, h1_7, h1_8, h1_9))
def K46_10 (mm : Int) (r : Option (Ex × St)) : Option (AV × Heap) := bodyD (E0 mm) [.cell 2 37] 0 false (sq (E0 mm) 46 0 c46_66 (blockD 0 (r)))
def en46_10 (x : (Bool × List Bs × Int × Bool × Bool × Bool × Bool × Bool × Bool × Int × Int × Int × Int × Bool × Bool × Bool × Bool × Bool × Bool × Int × Int × Int × Int)) : X := (none, [.v (.c (.ptr 0 0)), .v (.c (.ptr 1 0)), .v (.c (.own x.1 (enL enS x.2.1) 2)), vd (dI x.2.2.1)], [.cells [.d (dB x.2.2.2.1), .d (dB x.2.2.2.2.1), .d (dB x.2.2.2.2.2.1), .d (dB x.2.2.2.2.2.2.1), .d (dB x.2.2.2.2.2.2.2.1), .d (dB x.2.2.2.2.2.2.2.2.1), .d (dI x.2.2.2.2.2.2.2.2.2.1), .d (dI x.2.2.2.2.2.2.2.2.2.2.1), .d (dI x.2.2.2.2.2.2.2.2.2.2.2.1), .d (dI x.2.2.2.2.2.2.2.2.2.2.2.2.1)], .cells [.d (dB x.2.2.2.2.2.2.2.2.2.2.2.2.2.1), .d (dB x.2.2.2.2.2.2.2.2.2.2.2.2.2.2.1), .d (dB x.2.2.2.2.2.2.2.2.2.2.2.2.2.2.2.1), .d (dB x.2.2.2.2.2.2.2.2.2.2.2.2.2.2.2.2.1), .d (dB x.2.2.2.2.2.2.2.2.2.2.2.2.2.2.2.2.2.1), .d (dB x.2.2.2.2.2.2.2.2.2.2.2.2.2.2.2.2.2.2.1), .d (dI x.2.2.2.2.2.2.2.2.2.2.2.2.2.2.2.2.2.2.2.1), .d (dI x.2.2.2.2.2.2.2.2.2.2.2.2.2.2.2.2.2.2.2.2.1), .d (dI x.2.2.2.2.2.2.2.2.2.2.2.2.2.2.2.2.2.2.2.2.2.1), .d (dI x.2.2.2.2.2.2.2.2.2.2.2.2.2.2.2.2.2.2.2.2.2.2)], .row x.2.1.length (rz x.1 1)])
def k46 := Q (rx c46_55) (Q (rx c46_57) (Q (rx c46_59) (Q @ent94 (Q @prm94 (Q @f94_t (Q @e94.eq_1 (Q (rx c46_61) (Q (rx c46_63) (Q (rx c46_67) (Q (rx c46_13) (Q (rx c46_20) (Q @ent92 (Q @prm92 (Q @f92_t (Q @e92.eq_1 (Q (rx c46_23) (Q (rx c46_28) (Q @ent93 (Q @prm93 (Q @f93_t (Q @e93.eq_1 (Q (rx c46_30) (Q (rx c46_33) (Q (rx c46_35) (Q (rx c46_37) (Q (rx c46_39) (Q (rx c46_41) (Q (rx c46_43) (Q (rx c46_45) (Q (rx c46_47) (Q (rx c46_50) (Q (rx c46_53) (Q @K46_10.eq_1 (Q (rx c46_1) (Q @ao114 (Q (rx c46_3) (Q @ao115 (Q (rx c46_5) (Q @ent49 (Q @prm49 (Q (fun (mm : Int) (l_0 : Bool) (l_1 : List (Bs × Bs)) => (show callW (E0 mm) 49 [cd (.lst l_0 (enL enSS l_1)), cd (dS ([99, 97, 99, 104, 101, 45, 99, 111, 110, 116, 114, 111, 108] : Bs))] [] = _ from f49_t l_0 l_1 ([99, 97, 99, 104, 101, 45, 99, 111, 110, 116, 114, 111, 108] : Bs))) (Q @f49_t (Q @e49.eq_1 (Q (rx c46_8) (Q (fun mm => lx (E0 mm) 46 c46_10 c46_11 L46_0) (Q (nE c46_0 (.seq c46_1 (.seq c46_3 (.seq c46_5 (.seq (.seq c46_8 (.block 0 c46_10)) c46_66))))) (Q (nE c46_11 (.seq (.seq c46_13 (.cond _ .skip (.exit 0))) (.seq (.block 1 (.seq c46_20 (.seq (.seq c46_23 (.cond _ (.exit 1) .skip)) (.seq c46_28 (.seq c46_30 (.block 2 (.seq c46_33 (.cond _ c46_35 (.seq c46_37 (.cond _ c46_39 (.seq c46_41 (.cond _ c46_43 (.seq c46_45 (.cond _ c46_47 (.seq (.seq c46_50 (.cond _ .skip c46_53)) c46_54))))))))))))))) c46_65))) (Q @en46_10.eq_1 (Q @L46_0.eq_1 hA)))))))))))))))))))))))))))))))))))))))))))))))))
theorem j46_65_t (all4_0 : Bool) (all4_1 : List Bs) (i5 : Int) (h0_0 h0_1 : Bool) (h0_2 h0_3 : Bool) (h0_4 h0_5 : Bool) (h0_6 h0_7 : Int) (h0_8 h0_9 : Int) (h1_0 h1_1 : Bool) (h1_2 h1_3 : Bool) (h1_4 h1_5 : Bool) (h1_6 h1_7 : Int) (h1_8 h1_9 : Int)  (sl : Sl) (_ : sl 2 = .v (.c (.ptr 0 0))) (_ : sl 3 = .v (.c (.ptr 1 0))) (_ : sl 4 = .v (.c (.own all4_0 (enL enS all4_1) 2))) (_ : sl 5 = vd (dI i5)) :
    stepE (K46_10 mm) (loopK 0 L46_0 (dn (E0 mm) 46 0 c46_65 sl [.cells [.d (dB h0_0), .d (dB h0_1), .d (dB h0_2), .d (dB h0_3), .d (dB h0_4), .d (dB h0_5), .d (dI h0_6), .d (dI h0_7), .d (dI h0_8), .d (dI h0_9)], .cells [.d (dB h1_0), .d (dB h1_1), .d (dB h1_2), .d (dB h1_3), .d (dB h1_4), .d (dB h1_5), .d (dI h1_6), .d (dI h1_7), .d (dI h1_8), .d (dI h1_9)], .row all4_1.length (rz all4_0 1)])) = (j46_65 all4_0 all4_1 i5 h0_0 h0_1 h0_2 h0_3 h0_4 h0_5 h0_6 h0_7 h0_8 h0_9 h1_0 h1_1 h1_2 h1_3 h1_4 h1_5 h1_6 h1_7 h1_8 h1_9).map (sm en46_10 e46) := by
  unfold j46_65; exact go (Q (rx c46_65) k46) trivial
def j46_54 (all4_0 : Bool) (all4_1 : List Bs) (i5 n9 : Int) (t32 : Bs) (t45 h0_0 : Bool) (h0_1 h0_2 : Bool) (h0_3 h0_4 h0_5 : Bool) (h0_6 h0_7 : Int) (h0_8 h0_9 : Int) (h1_0 h1_1 : Bool) (h1_2 h1_3 : Bool) (h1_4 h1_5 : Bool) (h1_6 h1_7 : Int) (h1_8 h1_9 : Int) : Option ((Bool × List Bs × Int × Bool × Bool × Bool × Bool × Bool × Bool × Int × Int × Int × Int × Bool × Bool × Bool × Bool × Bool × Bool × Int × Int × Int × Int) ⊕ R46) :=
  if t45 = true then
    j46_65 all4_0 all4_1 i5 h0_0 h0_1 h0_2 h0_3 h0_4 h0_5 h0_6 h0_7 h0_8 h0_9 h1_0 h1_1 h1_2 h1_3 true h1_5 h1_6 h1_7 h1_8 h1_9
  else
    if (t32 == ([109, 97, 120, 45, 97, 103, 101] : Bs)) = true then
      (m94 h1_6 n9).bind fun yr19 =>
        j46_65 all4_0 all4_1 i5 h0_0 h0_1 h0_2 h0_3 h0_4 h0_5 h0_6 h0_7 h0_8 h0_9 h1_0 h1_1 h1_2 h1_3 h1_4 h1_5 yr19 h1_7 h1_8 h1_9
    else
      if (t32 == ([115, 45, 109, 97, 120, 97, 103, 101] : Bs)) = true then
        (m94 h1_7 n9).bind fun yr22 =>
          j46_65 all4_0 all4_1 i5 h0_0 h0_1 h0_2 h0_3 h0_4 h0_5 h0_6 h0_7 h0_8 h0_9 h1_0 h1_1 h1_2 h1_3 h1_4 h1_5 h1_6 yr22 h1_8 h1_9
      else
        j46_65 all4_0 all4_1 i5 h0_0 h0_1 h0_2 h0_3 h0_4 h0_5 h0_6 h0_7 h0_8 h0_9 h1_0 h1_1 h1_2 h1_3 h1_4 h1_5 h1_6 h1_7 h1_8 h1_9
theorem j46_54_t (all4_0 : Bool) (all4_1 : List Bs) (i5 n9 : Int) (t32 : Bs) (t45 h0_0 : Bool) (h0_1 h0_2 : Bool) (h0_3 h0_4 h0_5 : Bool) (h0_6 h0_7 : Int) (h0_8 h0_9 : Int) (h1_0 h1_1 : Bool) (h1_2 h1_3 : Bool) (h1_4 h1_5 : Bool) (h1_6 h1_7 : Int) (h1_8 h1_9 : Int)  (sl : Sl) (_ : sl 2 = .v (.c (.ptr 0 0))) (_ : sl 3 = .v (.c (.ptr 1 0))) (_ : sl 4 = .v (.c (.own all4_0 (enL enS all4_1) 2))) (_ : sl 5 = vd (dI i5)) (_ : sl 9 = vd (dI n9)) (_ : sl 32 = vd (dS t32)) (_ : sl 45 = vd (dB t45)) :
    stepE (K46_10 mm) (loopK 0 L46_0 (sq (E0 mm) 46 0 c46_65 (blockD 1 (blockD 2 (dn (E0 mm) 46 0 c46_54 sl [.cells [.d (dB h0_0), .d (dB h0_1), .d (dB h0_2), .d (dB h0_3), .d (dB h0_4), .d (dB h0_5), .d (dI h0_6), .d (dI h0_7), .d (dI h0_8), .d (dI h0_9)], .cells [.d (dB h1_0), .d (dB h1_1), .d (dB h1_2), .d (dB h1_3), .d (dB h1_4), .d (dB h1_5), .d (dI h1_6), .d (dI h1_7), .d (dI h1_8), .d (dI h1_9)], .row all4_1.length (rz all4_0 1)]))))) = (j46_54 all4_0 all4_1 i5 n9 t32 t45 h0_0 h0_1 h0_2 h0_3 h0_4 h0_5 h0_6 h0_7 h0_8 h0_9 h1_0 h1_1 h1_2 h1_3 h1_4 h1_5 h1_6 h1_7 h1_8 h1_9).map (sm en46_10 e46) := by
  unfold j46_54; exact go (Q (nE c46_54 (.cond _ c46_55 (.seq c46_57 (.cond _ c46_59 (.seq c46_61 (.cond _ c46_63 .skip)))))) k46) @j46_65_t
def j46_66 (h0_0 h0_1 : Bool) (h0_2 h0_3 : Bool) (h0_4 h0_5 : Bool) (h0_6 h0_7 : Int) (h0_8 h0_9 : Int) (h1_0 h1_1 : Bool) (h1_2 h1_3 : Bool) (h1_4 h1_5 : Bool) (h1_6 h1_7 : Int) (h1_8 h1_9 : Int) : Option R46 :=
  some (h1_0, h1_1, h1_2, h1_3, h1_4, h1_5, h1_6, h1_7, h1_8, h1_9)
theorem j46_66_t (h0_0 h0_1 : Bool) (h0_2 h0_3 : Bool) (h0_4 h0_5 : Bool) (h0_6 h0_7 : Int) (h0_8 h0_9 : Int) (h1_0 h1_1 : Bool) (h1_2 h1_3 : Bool) (h1_4 h1_5 : Bool) (h1_6 h1_7 : Int) (h1_8 h1_9 : Int) (g2 : Ob) (sl : Sl) (_ : sl 2 = .v (.c (.ptr 0 0))) (_ : sl 3 = .v (.c (.ptr 1 0))) :
    bodyD (E0 mm) [.cell 2 37] 0 false (dn (E0 mm) 46 0 c46_66 sl [.cells [.d (dB h0_0), .d (dB h0_1), .d (dB h0_2), .d (dB h0_3), .d (dB h0_4), .d (dB h0_5), .d (dI h0_6), .d (dI h0_7), .d (dI h0_8), .d (dI h0_9)], .cells [.d (dB h1_0), .d (dB h1_1), .d (dB h1_2), .d (dB h1_3), .d (dB h1_4), .d (dB h1_5), .d (dI h1_6), .d (dI h1_7), .d (dI h1_8), .d (dI h1_9)], g2]) = (j46_66 h0_0 h0_1 h0_2 h0_3 h0_4 h0_5 h0_6 h0_7 h0_8 h0_9 h1_0 h1_1 h1_2 h1_3 h1_4 h1_5 h1_6 h1_7 h1_8 h1_9).map e46 := by
  unfold j46_66; exact go (Q (nE c46_66 (.seq c46_67 .ret)) k46) trivial
def s46_10 (all4_0 : Bool) (all4_1 : List Bs) (i5 : Int) (h0_0 h0_1 : Bool) (h0_2 h0_3 : Bool) (h0_4 h0_5 : Bool) (h0_6 h0_7 : Int) (h0_8 h0_9 : Int) (h1_0 h1_1 : Bool) (h1_2 h1_3 : Bool) (h1_4 h1_5 : Bool) (h1_6 h1_7 : Int) (h1_8 h1_9 : Int) : Option ((Bool × List Bs × Int × Bool × Bool × Bool × Bool × Bool × Bool × Int × Int × Int × Int × Bool × Bool × Bool × Bool × Bool × Bool × Int × Int × Int × Int) ⊕ R46) :=
  if (decide (i5 < (all4_1.length : Int))) = true then
    if 0 ≤ i5 ∧ i5 < (all4_1.length : Int) then
      (m92 (all4_1.getD i5.toNat default)).bind fun yr7 =>
        if yr7.2.2 = true then
          (m93 yr7.2.1).bind fun yr10 =>
            if (yr7.1 == ([110, 111, 45, 115, 116, 111, 114, 101] : Bs)) = true then
              j46_65 all4_0 all4_1 i5 h0_0 h0_1 h0_2 h0_3 h0_4 h0_5 h0_6 h0_7 h0_8 h0_9 true h1_1 h1_2 h1_3 h1_4 h1_5 h1_6 h1_7 h1_8 h1_9
            else
              if (yr7.1 == ([110, 111, 45, 99, 97, 99, 104, 101] : Bs)) = true then
                j46_65 all4_0 all4_1 i5 h0_0 h0_1 h0_2 h0_3 h0_4 h0_5 h0_6 h0_7 h0_8 h0_9 h1_0 true h1_2 h1_3 h1_4 h1_5 h1_6 h1_7 h1_8 h1_9
              else
                if (yr7.1 == ([112, 114, 105, 118, 97, 116, 101] : Bs)) = true then
                  j46_65 all4_0 all4_1 i5 h0_0 h0_1 h0_2 h0_3 h0_4 h0_5 h0_6 h0_7 h0_8 h0_9 h1_0 h1_1 true h1_3 h1_4 h1_5 h1_6 h1_7 h1_8 h1_9
                else
                  if (yr7.1 == ([112, 117, 98, 108, 105, 99] : Bs)) = true then
                    j46_65 all4_0 all4_1 i5 h0_0 h0_1 h0_2 h0_3 h0_4 h0_5 h0_6 h0_7 h0_8 h0_9 h1_0 h1_1 h1_2 true h1_4 h1_5 h1_6 h1_7 h1_8 h1_9
                  else
                    if (yr7.1 == ([109, 117, 115, 116, 45, 114, 101, 118, 97, 108, 105, 100, 97, 116, 101] : Bs)) = true then
                      j46_54 all4_0 all4_1 i5 yr10 yr7.1 true h0_0 h0_1 h0_2 h0_3 h0_4 h0_5 h0_6 h0_7 h0_8 h0_9 h1_0 h1_1 h1_2 h1_3 h1_4 h1_5 h1_6 h1_7 h1_8 h1_9
                    else
                      j46_54 all4_0 all4_1 i5 yr10 yr7.1 (yr7.1 == ([112, 114, 111, 120, 121, 45, 114, 101, 118, 97, 108, 105, 100, 97, 116, 101] : Bs)) h0_0 h0_1 h0_2 h0_3 h0_4 h0_5 h0_6 h0_7 h0_8 h0_9 h1_0 h1_1 h1_2 h1_3 h1_4 h1_5 h1_6 h1_7 h1_8 h1_9
        else
          j46_65 all4_0 all4_1 i5 h0_0 h0_1 h0_2 h0_3 h0_4 h0_5 h0_6 h0_7 h0_8 h0_9 h1_0 h1_1 h1_2 h1_3 h1_4 h1_5 h1_6 h1_7 h1_8 h1_9
    else none
  else
    (j46_66 h0_0 h0_1 h0_2 h0_3 h0_4 h0_5 h0_6 h0_7 h0_8 h0_9 h1_0 h1_1 h1_2 h1_3 h1_4 h1_5 h1_6 h1_7 h1_8 h1_9).map .inr
theorem s46_10_t (all4_0 : Bool) (all4_1 : List Bs) (i5 : Int) (h0_0 h0_1 : Bool) (h0_2 h0_3 : Bool) (h0_4 h0_5 : Bool) (h0_6 h0_7 : Int) (h0_8 h0_9 : Int) (h1_0 h1_1 : Bool) (h1_2 h1_3 : Bool) (h1_4 h1_5 : Bool) (h1_6 h1_7 : Int) (h1_8 h1_9 : Int) :
    stepE (K46_10 mm) (lp (E0 mm) 46 0 c46_11 L46_0 (en46_10 (all4_0, all4_1, i5, h0_0, h0_1, h0_2, h0_3, h0_4, h0_5, h0_6, h0_7, h0_8, h0_9, h1_0, h1_1, h1_2, h1_3, h1_4, h1_5, h1_6, h1_7, h1_8, h1_9))) = (s46_10 all4_0 all4_1 i5 h0_0 h0_1 h0_2 h0_3 h0_4 h0_5 h0_6 h0_7 h0_8 h0_9 h1_0 h1_1 h1_2 h1_3 h1_4 h1_5 h1_6 h1_7 h1_8 h1_9).map (sm en46_10 e46) := by
  unfold s46_10; exact go k46 (Q @j46_65_t (Q @j46_54_t @j46_66_t))
def l46_10 (all4_0 : Bool) (all4_1 : List Bs) (i5 : Int) (h0_0 h0_1 : Bool) (h0_2 h0_3 : Bool) (h0_4 h0_5 : Bool) (h0_6 h0_7 : Int) (h0_8 h0_9 : Int) (h1_0 h1_1 : Bool) (h1_2 h1_3 : Bool) (h1_4 h1_5 : Bool) (h1_6 h1_7 : Int) (h1_8 h1_9 : Int) : Option R46 := iter (fun x : (Bool × List Bs × Int × Bool × Bool × Bool × Bool × Bool × Bool × Int × Int × Int × Int × Bool × Bool × Bool × Bool × Bool × Bool × Int × Int × Int × Int) => s46_10 x.1 x.2.1 x.2.2.1 x.2.2.2.1 x.2.2.2.2.1 x.2.2.2.2.2.1 x.2.2.2.2.2.2.1 x.2.2.2.2.2.2.2.1 x.2.2.2.2.2.2.2.2.1 x.2.2.2.2.2.2.2.2.2.1 x.2.2.2.2.2.2.2.2.2.2.1 x.2.2.2.2.2.2.2.2.2.2.2.1 x.2.2.2.2.2.2.2.2.2.2.2.2.1 x.2.2.2.2.2.2.2.2.2.2.2.2.2.1 x.2.2.2.2.2.2.2.2.2.2.2.2.2.2.1 x.2.2.2.2.2.2.2.2.2.2.2.2.2.2.2.1 x.2.2.2.2.2.2.2.2.2.2.2.2.2.2.2.2.1 x.2.2.2.2.2.2.2.2.2.2.2.2.2.2.2.2.2.1 x.2.2.2.2.2.2.2.2.2.2.2.2.2.2.2.2.2.2.1 x.2.2.2.2.2.2.2.2.2.2.2.2.2.2.2.2.2.2.2.1 x.2.2.2.2.2.2.2.2.2.2.2.2.2.2.2.2.2.2.2.2.1 x.2.2.2.2.2.2.2.2.2.2.2.2.2.2.2.2.2.2.2.2.2.1 x.2.2.2.2.2.2.2.2.2.2.2.2.2.2.2.2.2.2.2.2.2.2) (all4_0, all4_1, i5, h0_0, h0_1, h0_2, h0_3, h0_4, h0_5, h0_6, h0_7, h0_8, h0_9, h1_0, h1_1, h1_2, h1_3, h1_4, h1_5, h1_6, h1_7, h1_8, h1_9)
theorem l46_10_t (all4_0 : Bool) (all4_1 : List Bs) (i5 : Int) (h0_0 h0_1 : Bool) (h0_2 h0_3 : Bool) (h0_4 h0_5 : Bool) (h0_6 h0_7 : Int) (h0_8 h0_9 : Int) (h1_0 h1_1 : Bool) (h1_2 h1_3 : Bool) (h1_4 h1_5 : Bool) (h1_6 h1_7 : Int) (h1_8 h1_9 : Int) : (K46_10 mm) (itW (lp (E0 mm) 46 0 c46_11 L46_0) (en46_10 (all4_0, all4_1, i5, h0_0, h0_1, h0_2, h0_3, h0_4, h0_5, h0_6, h0_7, h0_8, h0_9, h1_0, h1_1, h1_2, h1_3, h1_4, h1_5, h1_6, h1_7, h1_8, h1_9))) = (l46_10 all4_0 all4_1 i5 h0_0 h0_1 h0_2 h0_3 h0_4 h0_5 h0_6 h0_7 h0_8 h0_9 h1_0 h1_1 h1_2 h1_3 h1_4 h1_5 h1_6 h1_7 h1_8 h1_9).map e46 :=
  it_sim (K := (K46_10 mm)) rfl (enc := en46_10) (fun x => s46_10_t x.1 x.2.1 x.2.2.1 x.2.2.2.1 x.2.2.2.2.1 x.2.2.2.2.2.1 x.2.2.2.2.2.2.1 x.2.2.2.2.2.2.2.1 x.2.2.2.2.2.2.2.2.1 x.2.2.2.2.2.2.2.2.2.1 x.2.2.2.2.2.2.2.2.2.2.1 x.2.2.2.2.2.2.2.2.2.2.2.1 x.2.2.2.2.2.2.2.2.2.2.2.2.1 x.2.2.2.2.2.2.2.2.2.2.2.2.2.1 x.2.2.2.2.2.2.2.2.2.2.2.2.2.2.1 x.2.2.2.2.2.2.2.2.2.2.2.2.2.2.2.1 x.2.2.2.2.2.2.2.2.2.2.2.2.2.2.2.2.1 x.2.2.2.2.2.2.2.2.2.2.2.2.2.2.2.2.2.1 x.2.2.2.2.2.2.2.2.2.2.2.2.2.2.2.2.2.2.1 x.2.2.2.2.2.2.2.2.2.2.2.2.2.2.2.2.2.2.2.1 x.2.2.2.2.2.2.2.2.2.2.2.2.2.2.2.2.2.2.2.2.1 x.2.2.2.2.2.2.2.2.2.2.2.2.2.2.2.2.2.2.2.2.2.1 x.2.2.2.2.2.2.2.2.2.2.2.2.2.2.2.2.2.2.2.2.2.2) (all4_0, all4_1, i5, h0_0, h0_1, h0_2, h0_3, h0_4, h0_5, h0_6, h0_7, h0_8, h0_9, h1_0, h1_1, h1_2, h1_3, h1_4, h1_5, h1_6, h1_7, h1_8, h1_9)
def m46 (l_0 : Bool) (l_1 : List (Bs × Bs)) : Option R46 :=
  (m49 l_0 l_1 ([99, 97, 99, 104, 101, 45, 99, 111, 110, 116, 114, 111, 108] : Bs)).bind fun yr2 =>
    l46_10 yr2.1 yr2.2 (0 : Int) false false false false false false (0 : Int) (0 : Int) (0 : Int) (0 : Int) false false false false false false (-1 : Int) (-1 : Int) (-1 : Int) (-1 : Int)
theorem f46_t (l_0 : Bool) (l_1 : List (Bs × Bs)) :
    callW (E0 mm) 46 [cd (.lst l_0 (enL enSS l_1))] [] = (m46 l_0 l_1).map e46 := by
  rw [cR c46_0 [.cell 2 37] Tryz.func46]
  unfold m46; exact go k46 @l46_10_t
noncomputable def c97_0 : Code := bodyOf Tryz.f97
def c97_1 := cA c97_0
def c97_4 := cA (cA (cB c97_0))
def c97_7 := cA (cA (cB (cA (cB c97_0))))
def c97_11 := cA (cB (cB c97_0))
abbrev R97 := (Int)
def e97 (x : R97) : AV × Heap := (vd (dU x), [])
def m97 (a b : Int) : Option R97 :=
  if (decide (a < b)) = true then
    some a
  else
    some b
def k97 := Q (rx c97_1) (Q (rx c97_4) (Q (rx c97_7) (Q (rx c97_11) (Q (nE c97_0 (.seq c97_1 (.seq (.seq c97_4 (.cond _ (.seq c97_7 .ret) .skip)) (.seq c97_11 .ret)))) hA))))
theorem f97_t (a b : Int) :
    callW (E0 mm) 97 [cd (dU a), cd (dU b)] [] = (m97 a b).map e97 := by
  rw [cR c97_0 [.tmp 4] Tryz.func97]
  unfold m97; exact go k97 trivial
noncomputable def c99_0 : Code := bodyOf Tryz.f99
def c99_1 := cA c99_0
def c99_3 := cA (cB c99_0)
def c99_6 := cA (cA (cB (cB c99_0)))
def c99_8 := cA (cB (cA (cB (cB c99_0))))
def c99_9 := cA c99_8
def c99_11 := cA (cA c99_9)
def c99_18 := cA (cA (cA (cB c99_9)))
def c99_20 := cA (cB (cA (cA (cB c99_9))))
def c99_22 := cB (cB c99_9)
def c99_23 := cB (cB (cB c99_0))
def c99_24 := cA c99_23
def L99_0 : List (Nat × Co) := [(1, .keep), (2, .keep), (5, .own), (6, .keep)]
abbrev R99 := (Bool × List Bs)
def e99 (x : R99) : AV × Heap := (.v (.c (.own x.1 (enL enS x.2) 0)), [.row x.2.length (rz x.1 1)])
def j99_22 (name1 : Bs) (out5_0 : Bool) (out5_1 : List Bs) (i6 h0_0 : Int) (h0_1 : Bs) (h0_2 : Int) (h0_3_0 : Bool) (h0_3_1 : List (Bs × Bs)) (h0_4_0 : Bool) (h0_4_1 : List UInt8) : Option ((Bs × Bool × List Bs × Int × Int × Bs × Int × Bool × List (Bs × Bs) × Bool × List UInt8) ⊕ R99) :=
  some (.inl (name1, out5_0, out5_1, (w64 (i6 + 1)), h0_0, h0_1, h0_2, h0_3_0, h0_3_1, h0_4_0, h0_4_1))
def K99_8 (mm : Int) (r : Option (Ex × St)) : Option (AV × Heap) := bodyD (E0 mm) [.tmp 4] 0 false (sq (E0 mm) 99 0 c99_23 (blockD 0 (r)))
def en99_8 (x : (Bs × Bool × List Bs × Int × Int × Bs × Int × Bool × List (Bs × Bs) × Bool × List UInt8)) : X := (none, [vd (dS x.1), .v (.c (.ptr 0 0)), .v (.c (.own x.2.1 (enL enS x.2.2.1) 1)), vd (dI x.2.2.2.1)], [.cells [.d (dI x.2.2.2.2.1), .d (dS x.2.2.2.2.2.1), .d (dI x.2.2.2.2.2.2.1), .d (.lst x.2.2.2.2.2.2.2.1 (enL enSS x.2.2.2.2.2.2.2.2.1)), .d (.lst x.2.2.2.2.2.2.2.2.2.1 (enL enB x.2.2.2.2.2.2.2.2.2.2))], .row x.2.2.1.length (rz x.2.1 1)])
def k99 := Q (rx c99_24) (Q (rx c99_11) (Q (rx c99_18) (Q @f95_t (Q @e95.eq_1 (Q (rx c99_20) (Q @hd118 (Q @nv119 (Q @rw120 (Q @K99_8.eq_1 (Q (rx c99_1) (Q (rx c99_3) (Q (rx c99_6) (Q (fun mm => lx (E0 mm) 99 c99_8 c99_9 L99_0) (Q (nE c99_0 (.seq c99_1 (.seq c99_3 (.seq (.seq c99_6 (.block 0 c99_8)) c99_23)))) (Q (nE c99_9 (.seq (.seq c99_11 (.cond _ .skip (.exit 0))) (.seq (.block 1 (.seq c99_18 (.cond _ c99_20 .skip))) c99_22))) (Q @en99_8.eq_1 (Q @L99_0.eq_1 hA)))))))))))))))))
theorem j99_22_t (name1 : Bs) (out5_0 : Bool) (out5_1 : List Bs) (i6 h0_0 : Int) (h0_1 : Bs) (h0_2 : Int) (h0_3_0 : Bool) (h0_3_1 : List (Bs × Bs)) (h0_4_0 : Bool) (h0_4_1 : List UInt8)  (sl : Sl) (_ : sl 1 = vd (dS name1)) (_ : sl 2 = .v (.c (.ptr 0 0))) (_ : sl 5 = .v (.c (.own out5_0 (enL enS out5_1) 1))) (_ : sl 6 = vd (dI i6)) :
    stepE (K99_8 mm) (loopK 0 L99_0 (dn (E0 mm) 99 0 c99_22 sl [.cells [.d (dI h0_0), .d (dS h0_1), .d (dI h0_2), .d (.lst h0_3_0 (enL enSS h0_3_1)), .d (.lst h0_4_0 (enL enB h0_4_1))], .row out5_1.length (rz out5_0 1)])) = (j99_22 name1 out5_0 out5_1 i6 h0_0 h0_1 h0_2 h0_3_0 h0_3_1 h0_4_0 h0_4_1).map (sm en99_8 e99) := by
  unfold j99_22; exact go (Q (rx c99_22) k99) trivial
def j99_23 (out5_0 : Bool) (out5_1 : List Bs) : Option R99 :=
  some (out5_0, out5_1)
theorem j99_23_t (out5_0 : Bool) (out5_1 : List Bs) (g0 : Ob) (sl : Sl) (_ : sl 5 = .v (.c (.own out5_0 (enL enS out5_1) 1))) :
    bodyD (E0 mm) [.tmp 4] 0 false (dn (E0 mm) 99 0 c99_23 sl [g0, .row out5_1.length (rz out5_0 1)]) = (j99_23 out5_0 out5_1).map e99 := by
  unfold j99_23; exact go (Q (nE c99_23 (.seq c99_24 .ret)) k99) trivial
def s99_8 (name1 : Bs) (out5_0 : Bool) (out5_1 : List Bs) (i6 h0_0 : Int) (h0_1 : Bs) (h0_2 : Int) (h0_3_0 : Bool) (h0_3_1 : List (Bs × Bs)) (h0_4_0 : Bool) (h0_4_1 : List UInt8) : Option ((Bs × Bool × List Bs × Int × Int × Bs × Int × Bool × List (Bs × Bs) × Bool × List UInt8) ⊕ R99) :=
  if (decide (i6 < (h0_3_1.length : Int))) = true then
    if 0 ≤ i6 ∧ i6 < (h0_3_1.length : Int) then
      (m95 ((h0_3_1.getD i6.toNat default).1) name1).bind fun yr5 =>
        if yr5 = true then
          if (out5_1.length + 1) * 16 ≤ 140737488355328 then
            j99_22 name1 false (out5_1 ++ ([(h0_3_1.getD i6.toNat default).2] : List Bs)) i6 h0_0 h0_1 h0_2 h0_3_0 h0_3_1 h0_4_0 h0_4_1
          else none
        else
          j99_22 name1 out5_0 out5_1 i6 h0_0 h0_1 h0_2 h0_3_0 h0_3_1 h0_4_0 h0_4_1
    else none
  else
    (j99_23 out5_0 out5_1).map .inr
theorem s99_8_t (name1 : Bs) (out5_0 : Bool) (out5_1 : List Bs) (i6 h0_0 : Int) (h0_1 : Bs) (h0_2 : Int) (h0_3_0 : Bool) (h0_3_1 : List (Bs × Bs)) (h0_4_0 : Bool) (h0_4_1 : List UInt8) :
    stepE (K99_8 mm) (lp (E0 mm) 99 0 c99_9 L99_0 (en99_8 (name1, out5_0, out5_1, i6, h0_0, h0_1, h0_2, h0_3_0, h0_3_1, h0_4_0, h0_4_1))) = (s99_8 name1 out5_0 out5_1 i6 h0_0 h0_1 h0_2 h0_3_0 h0_3_1 h0_4_0 h0_4_1).map (sm en99_8 e99) := by
  unfold s99_8; exact go k99 (Q @j99_22_t @j99_23_t)
def l99_8 (name1 : Bs) (out5_0 : Bool) (out5_1 : List Bs) (i6 h0_0 : Int) (h0_1 : Bs) (h0_2 : Int) (h0_3_0 : Bool) (h0_3_1 : List (Bs × Bs)) (h0_4_0 : Bool) (h0_4_1 : List UInt8) : Option R99 := iter (fun x : (Bs × Bool × List Bs × Int × Int × Bs × Int × Bool × List (Bs × Bs) × Bool × List UInt8) => s99_8 x.1 x.2.1 x.2.2.1 x.2.2.2.1 x.2.2.2.2.1 x.2.2.2.2.2.1 x.2.2.2.2.2.2.1 x.2.2.2.2.2.2.2.1 x.2.2.2.2.2.2.2.2.1 x.2.2.2.2.2.2.2.2.2.1 x.2.2.2.2.2.2.2.2.2.2) (name1, out5_0, out5_1, i6, h0_0, h0_1, h0_2, h0_3_0, h0_3_1, h0_4_0, h0_4_1)
theorem l99_8_t (name1 : Bs) (out5_0 : Bool) (out5_1 : List Bs) (i6 h0_0 : Int) (h0_1 : Bs) (h0_2 : Int) (h0_3_0 : Bool) (h0_3_1 : List (Bs × Bs)) (h0_4_0 : Bool) (h0_4_1 : List UInt8) : (K99_8 mm) (itW (lp (E0 mm) 99 0 c99_9 L99_0) (en99_8 (name1, out5_0, out5_1, i6, h0_0, h0_1, h0_2, h0_3_0, h0_3_1, h0_4_0, h0_4_1))) = (l99_8 name1 out5_0 out5_1 i6 h0_0 h0_1 h0_2 h0_3_0 h0_3_1 h0_4_0 h0_4_1).map e99 :=
  it_sim (K := (K99_8 mm)) rfl (enc := en99_8) (fun x => s99_8_t x.1 x.2.1 x.2.2.1 x.2.2.2.1 x.2.2.2.2.1 x.2.2.2.2.2.1 x.2.2.2.2.2.2.1 x.2.2.2.2.2.2.2.1 x.2.2.2.2.2.2.2.2.1 x.2.2.2.2.2.2.2.2.2.1 x.2.2.2.2.2.2.2.2.2.2) (name1, out5_0, out5_1, i6, h0_0, h0_1, h0_2, h0_3_0, h0_3_1, h0_4_0, h0_4_1)
def m99 (r0_0 : Int) (r0_1 : Bs) (r0_2 : Int) (r0_3 : Bool) (r0_4 : List (Bs × Bs)) (r0_5 : Bool) (r0_6 : List UInt8) (name : Bs) : Option R99 :=
  l99_8 name true ([] : List Bs) (0 : Int) r0_0 r0_1 r0_2 r0_3 r0_4 r0_5 r0_6
theorem f99_t (r0_0 : Int) (r0_1 : Bs) (r0_2 : Int) (r0_3 : Bool) (r0_4 : List (Bs × Bs)) (r0_5 : Bool) (r0_6 : List UInt8) (name : Bs) :
    callW (E0 mm) 99 [.agg [.d (dI r0_0), .d (dS r0_1), .d (dI r0_2), .d (.lst r0_3 (enL enSS r0_4)), .d (.lst r0_5 (enL enB r0_6))], cd (dS name)] [] = (m99 r0_0 r0_1 r0_2 r0_3 r0_4 r0_5 r0_6 name).map e99 := by
  rw [cR c99_0 [.tmp 4] Tryz.func99]
  unfold m99; exact go k99 @l99_8_t
noncomputable def c100_0 : Code := bodyOf Tryz.f100
def c100_1 := cA c100_0
def c100_3 := cA (cB c100_0)
def c100_6 := cA (cA (cB (cB c100_0)))
def c100_9 := cA (cA (cB (cA (cB (cB c100_0)))))
def c100_13 := cA (cB (cB (cB c100_0)))
def c100_16 := cA (cA (cB (cB (cB (cB c100_0)))))
def c100_19 := cA (cA (cB (cA (cB (cB (cB (cB c100_0)))))))
def c100_23 := cA (cB (cB (cB (cB (cB c100_0)))))
abbrev R100 := (Int × Bool)
def e100 (x : R100) : AV × Heap := (.tup [cd (dU x.1), cd (dB x.2)], [])
def m100 (r0_0 : Int) (r0_1 : Bs) (r0_2 : Int) (r0_3 : Bool) (r0_4 : List (Bs × Bs)) (r0_5 : Bool) (r0_6 : List UInt8) (name : Bs) : Option R100 :=
  (m99 r0_0 r0_1 r0_2 r0_3 r0_4 r0_5 r0_6 name).bind fun yr2 =>
    if ((yr2.2.length : Int) == 1) = true then
      if (0 : Int) < (yr2.2.length : Int) then
        (m103 (yr2.2.getD 0 default)).bind fun yr7 =>
          if (yr7.2 == 0) = true then
            some (yr7.1, true)
          else
            some ((0 : Int), false)
      else none
    else
      some ((0 : Int), false)
def k100 := Q (rx c100_1) (Q (rx c100_3) (Q @f99_t (Q @e99.eq_1 (Q (rx c100_6) (Q (rx c100_13) (Q @f103_t (Q @e103.eq_1 (Q (rx c100_16) (Q (rx c100_23) (Q (rx c100_19) (Q (rx c100_9) (Q (nE c100_0 (.seq c100_1 (.seq c100_3 (.seq (.seq c100_6 (.cond _ (.seq c100_9 .ret) .skip)) (.seq c100_13 (.seq (.seq c100_16 (.cond _ (.seq c100_19 .ret) .skip)) (.seq c100_23 .ret))))))) hA))))))))))))
theorem f100_t (r0_0 : Int) (r0_1 : Bs) (r0_2 : Int) (r0_3 : Bool) (r0_4 : List (Bs × Bs)) (r0_5 : Bool) (r0_6 : List UInt8) (name : Bs) :
    callW (E0 mm) 100 [.agg [.d (dI r0_0), .d (dS r0_1), .d (dI r0_2), .d (.lst r0_3 (enL enSS r0_4)), .d (.lst r0_5 (enL enB r0_6))], cd (dS name)] [] = (m100 r0_0 r0_1 r0_2 r0_3 r0_4 r0_5 r0_6 name).map e100 := by
  rw [cR c100_0 [.tmp 4, .tmp 5] Tryz.func100]
  unfold m100; exact go k100 trivial
noncomputable def c98_0 : Code := bodyOf Tryz.f98
def c98_1 := cA c98_0
def c98_3 := cA (cB c98_0)
abbrev R98 := (Int × Bool)
def e98 (x : R98) : AV × Heap := (.tup [cd (dU x.1), cd (dB x.2)], [])
def m98 (r0_0 : Int) (r0_1 : Bs) (r0_2 : Int) (r0_3 : Bool) (r0_4 : List (Bs × Bs)) (r0_5 : Bool) (r0_6 : List UInt8) : Option R98 :=
  (m100 r0_0 r0_1 r0_2 r0_3 r0_4 r0_5 r0_6 ([100, 97, 116, 101] : Bs)).bind fun yr2 =>
    some (yr2.1, yr2.2)
def k98 := Q (rx c98_1) (Q (rx c98_3) (Q (fun (mm : Int) (r0_0 : Int) (r0_1 : Bs) (r0_2 : Int) (r0_3 : Bool) (r0_4 : List (Bs × Bs)) (r0_5 : Bool) (r0_6 : List UInt8) => (show callW (E0 mm) 100 [.agg [.d (dI r0_0), .d (dS r0_1), .d (dI r0_2), .d (.lst r0_3 (enL enSS r0_4)), .d (.lst r0_5 (enL enB r0_6))], cd (dS ([100, 97, 116, 101] : Bs))] [] = _ from f100_t r0_0 r0_1 r0_2 r0_3 r0_4 r0_5 r0_6 ([100, 97, 116, 101] : Bs))) (Q @f100_t (Q @e100.eq_1 (Q (nE c98_0 (.seq c98_1 (.seq c98_3 .ret))) hA)))))
theorem f98_t (r0_0 : Int) (r0_1 : Bs) (r0_2 : Int) (r0_3 : Bool) (r0_4 : List (Bs × Bs)) (r0_5 : Bool) (r0_6 : List UInt8) :
    callW (E0 mm) 98 [.agg [.d (dI r0_0), .d (dS r0_1), .d (dI r0_2), .d (.lst r0_3 (enL enSS r0_4)), .d (.lst r0_5 (enL enB r0_6))]] [] = (m98 r0_0 r0_1 r0_2 r0_3 r0_4 r0_5 r0_6).map e98 := by
  rw [cR c98_0 [.tmp 2, .tmp 3] Tryz.func98]
  unfold m98; exact go k98 trivial
noncomputable def c101_0 : Code := bodyOf Tryz.f101
def c101_1 := cA c101_0
def c101_4 := cA (cA (cB c101_0))
def c101_7 := cA (cA (cB (cA (cB c101_0))))
def c101_11 := cA (cB (cB c101_0))
abbrev R101 := (Int)
def e101 (x : R101) : AV × Heap := (vd (dU x), [])
def m101 (a b : Int) : Option R101 :=
  if (decide (b < a)) = true then
    some (0 : Int)
  else
    some (wu64 (b - a))
def k101 := Q (rx c101_1) (Q (rx c101_4) (Q (rx c101_7) (Q (rx c101_11) (Q (nE c101_0 (.seq c101_1 (.seq (.seq c101_4 (.cond _ (.seq c101_7 .ret) .skip)) (.seq c101_11 .ret)))) hA))))
theorem f101_t (a b : Int) :
    callW (E0 mm) 101 [cd (dU a), cd (dU b)] [] = (m101 a b).map e101 := by
  rw [cR c101_0 [.tmp 4] Tryz.func101]
  unfold m101; exact go k101 trivial
noncomputable def c102_0 : Code := bodyOf Tryz.f102
def c102_1 := cA c102_0
def c102_3 := cA (cB c102_0)
abbrev R102 := (Bool)
def e102 (x : R102) : AV × Heap := (vd (dB x), [])
def m102 (status : Int) : Option R102 :=
  if (status == 200) = true then
    some true
  else
    if (status == 203) = true then
      some true
    else
      if (status == 204) = true then
        some true
      else
        if (status == 300) = true then
          some true
        else
          if (status == 301) = true then
            some true
          else
            if (status == 308) = true then
              some true
            else
              if (status == 404) = true then
                some true
              else
                if (status == 405) = true then
                  some true
                else
                  if (status == 410) = true then
                    some true
                  else
                    if (status == 414) = true then
                      some true
                    else
                      some (status == 501)
def k102 := Q (rx c102_1) (Q (rx c102_3) (Q (nE c102_0 (.seq c102_1 (.seq c102_3 .ret))) hA))
theorem f102_t (status : Int) :
    callW (E0 mm) 102 [cd (dI status)] [] = (m102 status).map e102 := by
  rw [cR c102_0 [.tmp 2] Tryz.func102]
  unfold m102; exact go k102 trivial
noncomputable def c52_0 : Code := bodyOf Tryz.f52
def c52_1 := cA c52_0
def c52_3 := cA (cB c52_0)
def c52_6 := cA (cA (cB (cB c52_0)))
def c52_9 := cA (cA (cB (cA (cB (cB c52_0)))))
def c52_14 := cA (cA (cB (cB (cB c52_0))))
def c52_17 := cA (cA (cB (cA (cB (cB (cB c52_0))))))
def c52_21 := cA (cB (cB (cB (cB c52_0))))
def c52_24 := cA (cA (cB (cB (cB (cB (cB c52_0))))))
def c52_27 := cA (cA (cB (cA (cB (cB (cB (cB (cB c52_0))))))))
def c52_30 := cA (cA (cB (cA (cB (cA (cB (cB (cB (cB (cB c52_0))))))))))
def c52_31 := cB (cA (cB (cA (cB (cA (cB (cB (cB (cB (cB c52_0))))))))))
def c52_33 := cA (cA c52_31)
def c52_36 := cB (cB (cA (cB (cA (cB (cB (cB (cB (cB c52_0)))))))))
def c52_37 := cA c52_36
def c52_40 := cB (cB (cB (cB (cB (cB c52_0)))))
def c52_41 := cA c52_40
def c52_44 := cA (cA (cB c52_40))
def c52_45 := cB (cA (cB c52_40))
def c52_47 := cA (cA c52_45)
def c52_50 := cB (cB c52_40)
def c52_51 := cA c52_50
abbrev R52 := (Int × Bool)
def e52 (x : R52) : AV × Heap := (.tup [cd (dI x.1), cd (dB x.2)], [])
def j52_31 (at5 end7 : Int) (t47 : Bool) : Option R52 :=
  if t47 = true then
    (m101 at5 end7).bind fun yr19 =>
      (m97 yr19 (2147483648 : Int)).bind fun yr21 =>
        some ((w64 yr21), true)
  else
    some ((0 : Int), true)
def k52 := Q (rx c52_33) (Q @f101_t (Q @e101.eq_1 (Q @f97_t (Q @e97.eq_1 (Q (rx c52_37) (Q (rx c52_47) (Q (rx c52_51) (Q (rx c52_1) (Q (rx c52_3) (Q @f46_t (Q @e46.eq_1 (Q @ao117 (Q (rx c52_6) (Q (rx c52_9) (Q (rx c52_14) (Q (rx c52_17) (Q (rx c52_21) (Q @f98_t (Q @e98.eq_1 (Q (rx c52_24) (Q (fun (mm : Int) (r0_0 : Int) (r0_1 : Bs) (r0_2 : Int) (r0_3 : Bool) (r0_4 : List (Bs × Bs)) (r0_5 : Bool) (r0_6 : List UInt8) => (show callW (E0 mm) 99 [.agg [.d (dI r0_0), .d (dS r0_1), .d (dI r0_2), .d (.lst r0_3 (enL enSS r0_4)), .d (.lst r0_5 (enL enB r0_6))], cd (dS ([101, 120, 112, 105, 114, 101, 115] : Bs))] [] = _ from f99_t r0_0 r0_1 r0_2 r0_3 r0_4 r0_5 r0_6 ([101, 120, 112, 105, 114, 101, 115] : Bs))) (Q @f99_t (Q @e99.eq_1 (Q (rx c52_27) (Q (fun (mm : Int) (r0_0 : Int) (r0_1 : Bs) (r0_2 : Int) (r0_3 : Bool) (r0_4 : List (Bs × Bs)) (r0_5 : Bool) (r0_6 : List UInt8) => (show callW (E0 mm) 100 [.agg [.d (dI r0_0), .d (dS r0_1), .d (dI r0_2), .d (.lst r0_3 (enL enSS r0_4)), .d (.lst r0_5 (enL enB r0_6))], cd (dS ([101, 120, 112, 105, 114, 101, 115] : Bs))] [] = _ from f100_t r0_0 r0_1 r0_2 r0_3 r0_4 r0_5 r0_6 ([101, 120, 112, 105, 114, 101, 115] : Bs))) (Q @f100_t (Q @e100.eq_1 (Q (rx c52_30) (Q (rx c52_41) (Q (fun (mm : Int) (r0_0 : Int) (r0_1 : Bs) (r0_2 : Int) (r0_3 : Bool) (r0_4 : List (Bs × Bs)) (r0_5 : Bool) (r0_6 : List UInt8) => (show callW (E0 mm) 100 [.agg [.d (dI r0_0), .d (dS r0_1), .d (dI r0_2), .d (.lst r0_3 (enL enSS r0_4)), .d (.lst r0_5 (enL enB r0_6))], cd (dS ([108, 97, 115, 116, 45, 109, 111, 100, 105, 102, 105, 101, 100] : Bs))] [] = _ from f100_t r0_0 r0_1 r0_2 r0_3 r0_4 r0_5 r0_6 ([108, 97, 115, 116, 45, 109, 111, 100, 105, 102, 105, 101, 100] : Bs))) (Q (rx c52_44) (Q @ent102 (Q @prm102 (Q @f102_t (Q @e102.eq_1 (Q (nE c52_0 (.seq c52_1 (.seq c52_3 (.seq (.seq c52_6 (.cond _ (.seq c52_9 .ret) .skip)) (.seq (.seq c52_14 (.cond _ (.seq c52_17 .ret) .skip)) (.seq c52_21 (.seq (.seq c52_24 (.cond _ (.seq c52_27 (.seq (.seq c52_30 c52_31) c52_36)) .skip)) c52_40))))))) (Q (nE c52_36 (.seq c52_37 .ret)) (Q (nE c52_40 (.seq c52_41 (.seq (.seq c52_44 c52_45) c52_50))) (Q (nE c52_50 (.seq c52_51 .ret)) hA)))))))))))))))))))))))))))))))))))))))
theorem j52_31_t (at5 end7 : Int) (t47 : Bool) (g0 g1 g2 : Ob) (sl : Sl) (_ : sl 5 = vd (dU at5)) (_ : sl 7 = vd (dU end7)) (_ : sl 47 = vd (dB t47)) :
    bodyD (E0 mm) [.tmp 2, .tmp 3] 0 false (sq (E0 mm) 52 0 c52_40 (sq (E0 mm) 52 0 c52_36 (dn (E0 mm) 52 0 c52_31 sl [g0, g1, g2]))) = (j52_31 at5 end7 t47).map e52 := by
  unfold j52_31; exact go (Q (nE c52_31 (.cond _ (.seq c52_33 .ret) .skip)) k52) trivial
def j52_45 (at5 changed9 : Int) (t71 : Bool) : Option R52 :=
  if t71 = true then
    (m97 (wu64 ((wu64 (at5 - changed9)).tdiv 10)) (86400 : Int)).bind fun yr31 =>
      some ((w64 yr31), false)
  else
    some ((0 : Int), false)
theorem j52_45_t (at5 changed9 : Int) (t71 : Bool) (g0 g1 g2 : Ob) (sl : Sl) (_ : sl 5 = vd (dU at5)) (_ : sl 9 = vd (dU changed9)) (_ : sl 71 = vd (dB t71)) :
    bodyD (E0 mm) [.tmp 2, .tmp 3] 0 false (sq (E0 mm) 52 0 c52_50 (dn (E0 mm) 52 0 c52_45 sl [g0, g1, g2])) = (j52_45 at5 changed9 t71).map e52 := by
  unfold j52_45; exact go (Q (nE c52_45 (.cond _ (.seq c52_47 .ret) .skip)) k52) trivial
def m52 (r0_0 : Int) (r0_1 : Bs) (r0_2 : Int) (r0_3 : Bool) (r0_4 : List (Bs × Bs)) (r0_5 : Bool) (r0_6 : List UInt8) : Option R52 :=
  (m46 r0_3 r0_4).bind fun yr2 =>
    if (decide (0 ≤ yr2.2.2.2.2.2.2.2.1)) = true then
      (m97 (wu64 yr2.2.2.2.2.2.2.2.1) (2147483648 : Int)).bind fun yr5 =>
        some ((w64 yr5), true)
    else
      if (decide (0 ≤ yr2.2.2.2.2.2.2.1)) = true then
        (m97 (wu64 yr2.2.2.2.2.2.2.1) (2147483648 : Int)).bind fun yr8 =>
          some ((w64 yr8), true)
      else
        (m98 r0_0 r0_1 r0_2 r0_3 r0_4 r0_5 r0_6).bind fun yr10 =>
          (m99 r0_0 r0_1 r0_2 r0_3 r0_4 r0_5 r0_6 ([101, 120, 112, 105, 114, 101, 115] : Bs)).bind fun yr12 =>
            if (decide (0 < (yr12.2.length : Int))) = true then
              (m100 r0_0 r0_1 r0_2 r0_3 r0_4 r0_5 r0_6 ([101, 120, 112, 105, 114, 101, 115] : Bs)).bind fun yr15 =>
                if yr15.2 = true then
                  j52_31 yr10.1 yr15.1 yr10.2
                else
                  j52_31 yr10.1 yr15.1 false
            else
              (m100 r0_0 r0_1 r0_2 r0_3 r0_4 r0_5 r0_6 ([108, 97, 115, 116, 45, 109, 111, 100, 105, 102, 105, 101, 100] : Bs)).bind fun yr23 =>
                if yr23.2 = true then
                  if yr10.2 = true then
                    if (decide (yr23.1 ≤ yr10.1)) = true then
                      (m102 r0_0).bind fun yr28 =>
                        j52_45 yr10.1 yr23.1 yr28
                    else
                      j52_45 yr10.1 yr23.1 false
                  else
                    j52_45 yr10.1 yr23.1 false
                else
                  j52_45 yr10.1 yr23.1 false
theorem f52_t (r0_0 : Int) (r0_1 : Bs) (r0_2 : Int) (r0_3 : Bool) (r0_4 : List (Bs × Bs)) (r0_5 : Bool) (r0_6 : List UInt8) :
    callW (E0 mm) 52 [.agg [.d (dI r0_0), .d (dS r0_1), .d (dI r0_2), .d (.lst r0_3 (enL enSS r0_4)), .d (.lst r0_5 (enL enB r0_6))]] [] = (m52 r0_0 r0_1 r0_2 r0_3 r0_4 r0_5 r0_6).map e52 := by
  rw [cR c52_0 [.tmp 2, .tmp 3] Tryz.func52]
  unfold m52; exact go k52 (Q @j52_31_t @j52_45_t)
noncomputable def c168_0 : Code := bodyOf Tryz.f168
def c168_1 := cA c168_0
def c168_3 := cA (cB c168_0)
def c168_6 := cA (cA (cB (cB c168_0)))
def c168_7 := cB (cA (cB (cB c168_0)))
def c168_8 := cA c168_7
def c168_10 := cB (cB (cB c168_0))
def c168_12 := cA (cA c168_10)
def c168_13 := cB (cA c168_10)
def c168_14 := cA c168_13
def c168_16 := cB c168_10
def c168_18 := cA (cA c168_16)
def c168_19 := cB (cA c168_16)
def c168_20 := cA c168_19
def c168_22 := cB c168_16
def c168_24 := cA (cA c168_22)
def c168_27 := cA (cA (cB (cA c168_22)))
def c168_31 := cA (cB c168_22)
abbrev b168 (mm : Int) := bodyD (E0 mm) [.tmp 4] 0 false
abbrev R168 := (Int)
def e168 (x : R168) : AV × Heap := (vd (dI x), [])
def j168_22 (base1 d5 : Int) : Option R168 :=
  if (decide ((w64 base1) ≤ d5)) = true then
    some (-1 : Int)
  else
    some d5
def k168 := Q (rx c168_24) (Q (rx c168_27) (Q (rx c168_31) (Q (rx c168_20) (Q (rx c168_18) (Q (rx c168_14) (Q (rx c168_12) (Q (rx c168_8) (Q (rx c168_1) (Q (rx c168_3) (Q (rx c168_6) (Q (nE c168_0 (.seq c168_1 (.seq c168_3 (.seq (.seq c168_6 c168_7) c168_10)))) hA)))))))))))
theorem j168_22_t (base1 d5 : Int)  (sl : Sl) (_ : sl 1 = vd (dU base1)) (_ : sl 5 = vd (dI d5)) :
    b168 mm (dn (E0 mm) 168 0 c168_22 sl []) = (j168_22 base1 d5).map e168 := by
  unfold j168_22; exact go (Q (nE c168_22 (.seq (.seq c168_24 (.cond _ (.seq c168_27 .ret) .skip)) (.seq c168_31 .ret))) k168) trivial
def j168_19 (c0 : UInt8) (base1 d5 : Int) (t30 : Bool) : Option R168 :=
  if t30 = true then
    j168_22 base1 (w64 ((w64 ((c0.toNat : Int) - 65)) + 10))
  else
    j168_22 base1 d5
theorem j168_19_t (c0 : UInt8) (base1 d5 : Int) (t30 : Bool)  (sl : Sl) (_ : sl 0 = vd (.sc (.int .u8 ((c0).toNat : Int)))) (_ : sl 1 = vd (dU base1)) (_ : sl 5 = vd (dI d5)) (_ : sl 30 = vd (dB t30)) :
    b168 mm (sq (E0 mm) 168 0 c168_22 (dn (E0 mm) 168 0 c168_19 sl [])) = (j168_19 c0 base1 d5 t30).map e168 := by
  unfold j168_19; exact go (Q (nE c168_19 (.cond _ c168_20 .skip)) k168) @j168_22_t
def j168_16 (c0 : UInt8) (base1 d5 : Int) : Option R168 :=
  if (decide ((65 : UInt8) ≤ c0)) = true then
    j168_19 c0 base1 d5 (decide (c0 ≤ (70 : UInt8)))
  else
    j168_19 c0 base1 d5 false
theorem j168_16_t (c0 : UInt8) (base1 d5 : Int)  (sl : Sl) (_ : sl 0 = vd (.sc (.int .u8 ((c0).toNat : Int)))) (_ : sl 1 = vd (dU base1)) (_ : sl 5 = vd (dI d5)) :
    b168 mm (dn (E0 mm) 168 0 c168_16 sl []) = (j168_16 c0 base1 d5).map e168 := by
  unfold j168_16; exact go (Q (nE c168_16 (.seq (.seq c168_18 c168_19) c168_22)) k168) @j168_19_t
def j168_13 (c0 : UInt8) (base1 d5 : Int) (t20 : Bool) : Option R168 :=
  if t20 = true then
    j168_16 c0 base1 (w64 ((w64 ((c0.toNat : Int) - 97)) + 10))
  else
    j168_16 c0 base1 d5
theorem j168_13_t (c0 : UInt8) (base1 d5 : Int) (t20 : Bool)  (sl : Sl) (_ : sl 0 = vd (.sc (.int .u8 ((c0).toNat : Int)))) (_ : sl 1 = vd (dU base1)) (_ : sl 5 = vd (dI d5)) (_ : sl 20 = vd (dB t20)) :
    b168 mm (sq (E0 mm) 168 0 c168_16 (dn (E0 mm) 168 0 c168_13 sl [])) = (j168_13 c0 base1 d5 t20).map e168 := by
  unfold j168_13; exact go (Q (nE c168_13 (.cond _ c168_14 .skip)) k168) @j168_16_t
def j168_10 (c0 : UInt8) (base1 d5 : Int) : Option R168 :=
  if (decide ((97 : UInt8) ≤ c0)) = true then
    j168_13 c0 base1 d5 (decide (c0 ≤ (102 : UInt8)))
  else
    j168_13 c0 base1 d5 false
theorem j168_10_t (c0 : UInt8) (base1 d5 : Int)  (sl : Sl) (_ : sl 0 = vd (.sc (.int .u8 ((c0).toNat : Int)))) (_ : sl 1 = vd (dU base1)) (_ : sl 5 = vd (dI d5)) :
    b168 mm (dn (E0 mm) 168 0 c168_10 sl []) = (j168_10 c0 base1 d5).map e168 := by
  unfold j168_10; exact go (Q (nE c168_10 (.seq (.seq c168_12 c168_13) c168_16)) k168) @j168_13_t
def j168_7 (c0 : UInt8) (base1 d5 : Int) (t11 : Bool) : Option R168 :=
  if t11 = true then
    j168_10 c0 base1 (w64 ((c0.toNat : Int) - 48))
  else
    j168_10 c0 base1 d5
theorem j168_7_t (c0 : UInt8) (base1 d5 : Int) (t11 : Bool)  (sl : Sl) (_ : sl 0 = vd (.sc (.int .u8 ((c0).toNat : Int)))) (_ : sl 1 = vd (dU base1)) (_ : sl 5 = vd (dI d5)) (_ : sl 11 = vd (dB t11)) :
    b168 mm (sq (E0 mm) 168 0 c168_10 (dn (E0 mm) 168 0 c168_7 sl [])) = (j168_7 c0 base1 d5 t11).map e168 := by
  unfold j168_7; exact go (Q (nE c168_7 (.cond _ c168_8 .skip)) k168) @j168_10_t
def m168 (c : UInt8) (base : Int) : Option R168 :=
  if (decide ((48 : UInt8) ≤ c)) = true then
    j168_7 c base (-1 : Int) (decide (c ≤ (57 : UInt8)))
  else
    j168_7 c base (-1 : Int) false
theorem f168_t (c : UInt8) (base : Int) :
    callW (E0 mm) 168 [cd (.sc (.int .u8 ((c).toNat : Int))), cd (dU base)] [] = (m168 c base).map e168 := by
  rw [cR c168_0 [.tmp 4] Tryz.func168]
  unfold m168; exact go k168 @j168_7_t
noncomputable def c153_0 : Code := bodyOf Tryz.f153
def c153_1 := cA c153_0
def c153_4 := cA (cA (cB c153_0))
def c153_7 := cA (cA (cB (cA (cB c153_0))))
def c153_12 := cA (cA (cB (cB c153_0)))
def c153_14 := cA (cB (cA (cB (cB c153_0))))
def c153_15 := cA c153_14
def c153_17 := cA (cA c153_15)
def c153_24 := cA (cA (cA (cB c153_15)))
def c153_27 := cA (cA (cB (cA (cA (cB c153_15)))))
def c153_30 := cB (cB c153_15)
def c153_31 := cB (cB (cB c153_0))
def c153_33 := cA (cA c153_31)
def c153_34 := cA c153_33
def c153_36 := cA (cA c153_34)
def c153_37 := cB (cA c153_34)
def c153_40 := cB c153_34
def c153_41 := cA c153_40
def c153_42 := cB c153_31
def c153_44 := cA (cA c153_42)
def c153_47 := cA (cA (cB (cA c153_42)))
def c153_51 := cA (cB c153_42)
def c153_54 := cA (cA (cB (cB c153_42)))
def c153_56 := cA (cB (cA (cB (cB c153_42))))
def c153_57 := cA c153_56
def c153_59 := cA (cA c153_57)
def c153_66 := cA (cA (cA (cB c153_57)))
def c153_68 := cA (cB (cA (cA (cB c153_57))))
def c153_71 := cA (cA (cB (cB (cA (cA (cB c153_57))))))
def c153_74 := cB (cB c153_57)
def c153_75 := cB (cB (cB c153_42))
def c153_76 := cA c153_75
def L153_0 : List (Nat × Co) := [(0, .keep), (1, .keep), (7, .keep), (8, .keep)]
def L153_1 : List (Nat × Co) := [(0, .keep), (1, .keep)]
def L153_2 : List (Nat × Co) := [(0, .keep), (1, .keep), (6, .keep)]
abbrev b153 (mm : Int) := bodyD (E0 mm) [.tmp 4, .tmp 5] 0 false
abbrev R153 := (Int × Int)
def e153 (x : R153) : AV × Heap := (.tup [cd (dU x.1), cd (dI x.2)], [])
def j153_75 (n7 : Int) : Option R153 :=
  some (n7, (0 : Int))
def K153_14 (mm : Int) (r : Option (Ex × St)) : Option (AV × Heap) := b153 mm (sq (E0 mm) 153 0 c153_31 (blockD 0 (r)))
def en153_14 (x : (Bs × Int × Int)) : X := (none, [vd (dS x.1), vd (dU x.2.1), vd (dI x.2.2)], [])
def K153_33 (mm : Int) (r : Option (Ex × St)) : Option (AV × Heap) := b153 mm (sq (E0 mm) 153 0 c153_42 (blockD 2 (r)))
def en153_33 (x : (Bs × Int)) : X := (none, [vd (dS x.1), vd (dU x.2)], [])
def K153_56 (mm : Int) (r : Option (Ex × St)) : Option (AV × Heap) := b153 mm (sq (E0 mm) 153 0 c153_75 (blockD 4 (r)))
def en153_56 (x : (Bs × Int × Int × Int)) : X := (none, [vd (dS x.1), vd (dU x.2.1), vd (dU x.2.2.1), vd (dI x.2.2.2)], [])
def k153 := Q (rx c153_76) (Q (rx c153_59) (Q (rx c153_66) (Q @ent168 (Q @prm168 (Q @f168_t (Q @e168.eq_1 (Q (rx c153_68) (Q (rx c153_71) (Q @K153_56.eq_1 (Q (rx c153_74) (Q (rx c153_44) (Q (rx c153_47) (Q (rx c153_51) (Q (rx c153_54) (Q (fun mm => lx (E0 mm) 153 c153_56 c153_57 L153_0) (Q (rx c153_41) (Q @K153_33.eq_1 (Q (rx c153_36) (Q (fun mm => lx (E0 mm) 153 c153_33 c153_34 L153_1) (Q (rx c153_17) (Q (rx c153_24) (Q (rx c153_27) (Q @K153_14.eq_1 (Q (rx c153_30) (Q (rx c153_1) (Q (rx c153_4) (Q (rx c153_7) (Q (rx c153_12) (Q (fun mm => lx (E0 mm) 153 c153_14 c153_15 L153_2) (Q (nE c153_0 (.seq c153_1 (.seq (.seq c153_4 (.cond _ (.seq c153_7 .ret) .skip)) (.seq (.seq c153_12 (.block 0 c153_14)) c153_31)))) (Q (nE c153_15 (.seq (.seq c153_17 (.cond _ .skip (.exit 0))) (.seq (.block 1 (.seq c153_24 (.cond _ (.seq c153_27 .ret) .skip))) c153_30))) (Q (nE c153_34 (.seq (.seq c153_36 c153_37) c153_40)) (Q (nE c153_40 (.block 3 c153_41)) (Q (nE c153_57 (.seq (.seq c153_59 (.cond _ .skip (.exit 4))) (.seq (.block 5 (.seq c153_66 (.seq c153_68 (.cond _ (.seq c153_71 .ret) .skip)))) c153_74))) (Q @en153_14.eq_1 (Q @en153_33.eq_1 (Q @en153_56.eq_1 (Q @L153_0.eq_1 (Q @L153_1.eq_1 (Q @L153_2.eq_1 hA))))))))))))))))))))))))))))))))))))))))
theorem j153_75_t (n7 : Int)  (sl : Sl) (_ : sl 7 = vd (dU n7)) :
    b153 mm (dn (E0 mm) 153 0 c153_75 sl []) = (j153_75 n7).map e153 := by
  unfold j153_75; exact go (Q (nE c153_75 (.seq c153_76 .ret)) k153) trivial
def s153_56 (s0 : Bs) (base1 n7 i8 : Int) : Option ((Bs × Int × Int × Int) ⊕ R153) :=
  if (decide (i8 < (s0.length : Int))) = true then
    if 0 ≤ i8 ∧ i8 < (s0.length : Int) then
      (m168 (s0.getD i8.toNat 0) base1).bind fun yr16 =>
        if (decide (9007199254740991 < (wu64 ((wu64 (base1 * n7)) + (wu64 yr16))))) = true then
          some (.inr ((0 : Int), (3 : Int)))
        else
          some (.inl (s0, base1, (wu64 ((wu64 (base1 * n7)) + (wu64 yr16))), (w64 (i8 + 1))))
    else none
  else
    (j153_75 n7).map .inr
theorem s153_56_t (s0 : Bs) (base1 n7 i8 : Int) :
    stepE (K153_56 mm) (lp (E0 mm) 153 0 c153_57 L153_0 (en153_56 (s0, base1, n7, i8))) = (s153_56 s0 base1 n7 i8).map (sm en153_56 e153) := by
  unfold s153_56; exact go k153 @j153_75_t
def l153_56 (s0 : Bs) (base1 n7 i8 : Int) : Option R153 := iter (fun x : (Bs × Int × Int × Int) => s153_56 x.1 x.2.1 x.2.2.1 x.2.2.2) (s0, base1, n7, i8)
theorem l153_56_t (s0 : Bs) (base1 n7 i8 : Int) : (K153_56 mm) (itW (lp (E0 mm) 153 0 c153_57 L153_0) (en153_56 (s0, base1, n7, i8))) = (l153_56 s0 base1 n7 i8).map e153 :=
  it_sim (K := (K153_56 mm)) rfl (enc := en153_56) (fun x => s153_56_t x.1 x.2.1 x.2.2.1 x.2.2.2) (s0, base1, n7, i8)
def j153_42 (s0 : Bs) (base1 : Int) : Option R153 :=
  if (decide (16 < (s0.length : Int))) = true then
    some ((0 : Int), (3 : Int))
  else
    l153_56 s0 base1 (0 : Int) (0 : Int)
theorem j153_42_t (s0 : Bs) (base1 : Int)  (sl : Sl) (_ : sl 0 = vd (dS s0)) (_ : sl 1 = vd (dU base1)) :
    b153 mm (dn (E0 mm) 153 0 c153_42 sl []) = (j153_42 s0 base1).map e153 := by
  unfold j153_42; exact go (Q (nE c153_42 (.seq (.seq c153_44 (.cond _ (.seq c153_47 .ret) .skip)) (.seq c153_51 (.seq (.seq c153_54 (.block 4 c153_56)) c153_75)))) k153) @l153_56_t
def j153_37 (s0 : Bs) (base1 : Int) (t31 : Bool) : Option ((Bs × Int) ⊕ R153) :=
  if t31 = true then
    (bnd 1 s0.length).bind fun yk11 =>
      some (.inl ((s0.drop yk11), base1))
  else
    (j153_42 s0 base1).map .inr
theorem j153_37_t (s0 : Bs) (base1 : Int) (t31 : Bool)  (sl : Sl) (_ : sl 0 = vd (dS s0)) (_ : sl 1 = vd (dU base1)) (_ : sl 31 = vd (dB t31)) :
    stepE (K153_33 mm) (loopK 0 L153_1 (sq (E0 mm) 153 0 c153_40 (dn (E0 mm) 153 0 c153_37 sl []))) = (j153_37 s0 base1 t31).map (sm en153_33 e153) := by
  unfold j153_37; exact go (Q (nE c153_37 (.cond _ .skip (.exit 2))) k153) @j153_42_t
def s153_33 (s0 : Bs) (base1 : Int) : Option ((Bs × Int) ⊕ R153) :=
  if (decide (1 < (s0.length : Int))) = true then
    if (0 : Int) < (s0.length : Int) then
      j153_37 s0 base1 ((s0.getD 0 0) == (48 : UInt8))
    else none
  else
    j153_37 s0 base1 false
theorem s153_33_t (s0 : Bs) (base1 : Int) :
    stepE (K153_33 mm) (lp (E0 mm) 153 0 c153_34 L153_1 (en153_33 (s0, base1))) = (s153_33 s0 base1).map (sm en153_33 e153) := by
  unfold s153_33; exact go k153 @j153_37_t
def l153_33 (s0 : Bs) (base1 : Int) : Option R153 := iter (fun x : (Bs × Int) => s153_33 x.1 x.2) (s0, base1)
theorem l153_33_t (s0 : Bs) (base1 : Int) : (K153_33 mm) (itW (lp (E0 mm) 153 0 c153_34 L153_1) (en153_33 (s0, base1))) = (l153_33 s0 base1).map e153 :=
  it_sim (K := (K153_33 mm)) rfl (enc := en153_33) (fun x => s153_33_t x.1 x.2) (s0, base1)
def j153_31 (s0 : Bs) (base1 : Int) : Option R153 :=
  l153_33 s0 base1
theorem j153_31_t (s0 : Bs) (base1 : Int)  (sl : Sl) (_ : sl 0 = vd (dS s0)) (_ : sl 1 = vd (dU base1)) :
    b153 mm (dn (E0 mm) 153 0 c153_31 sl []) = (j153_31 s0 base1).map e153 := by
  unfold j153_31; exact go (Q (nE c153_31 (.seq (.block 2 c153_33) c153_42)) k153) @l153_33_t
def s153_14 (s0 : Bs) (base1 i6 : Int) : Option ((Bs × Int × Int) ⊕ R153) :=
  if (decide (i6 < (s0.length : Int))) = true then
    if 0 ≤ i6 ∧ i6 < (s0.length : Int) then
      (m168 (s0.getD i6.toNat 0) base1).bind fun yr5 =>
        if (decide (yr5 < 0)) = true then
          some (.inr ((0 : Int), (5 : Int)))
        else
          some (.inl (s0, base1, (w64 (i6 + 1))))
    else none
  else
    (j153_31 s0 base1).map .inr
theorem s153_14_t (s0 : Bs) (base1 i6 : Int) :
    stepE (K153_14 mm) (lp (E0 mm) 153 0 c153_15 L153_2 (en153_14 (s0, base1, i6))) = (s153_14 s0 base1 i6).map (sm en153_14 e153) := by
  unfold s153_14; exact go k153 @j153_31_t
def l153_14 (s0 : Bs) (base1 i6 : Int) : Option R153 := iter (fun x : (Bs × Int × Int) => s153_14 x.1 x.2.1 x.2.2) (s0, base1, i6)
theorem l153_14_t (s0 : Bs) (base1 i6 : Int) : (K153_14 mm) (itW (lp (E0 mm) 153 0 c153_15 L153_2) (en153_14 (s0, base1, i6))) = (l153_14 s0 base1 i6).map e153 :=
  it_sim (K := (K153_14 mm)) rfl (enc := en153_14) (fun x => s153_14_t x.1 x.2.1 x.2.2) (s0, base1, i6)
def m153 (s : Bs) (base : Int) : Option R153 :=
  if ((s.length : Int) == 0) = true then
    some ((0 : Int), (5 : Int))
  else
    l153_14 s base (0 : Int)
theorem f153_t (s : Bs) (base : Int) :
    callW (E0 mm) 153 [cd (dS s), cd (dU base)] [] = (m153 s base).map e153 := by
  rw [cR c153_0 [.tmp 4, .tmp 5] Tryz.func153]
  unfold m153; exact go k153 @l153_14_t
noncomputable def c139_0 : Code := bodyOf Tryz.f139
def c139_1 := cA c139_0
def c139_3 := cA (cB c139_0)
abbrev R139 := (Int × Int)
def e139 (x : R139) : AV × Heap := (.tup [cd (dU x.1), cd (dI x.2)], [])
def m139 (s : Bs) : Option R139 :=
  (m153 s (10 : Int)).bind fun yr2 =>
    some (yr2.1, yr2.2)
def k139 := Q (rx c139_1) (Q (rx c139_3) (Q @ent153 (Q @prm153 (Q @f153_t (Q @e153.eq_1 (Q (nE c139_0 (.seq c139_1 (.seq c139_3 .ret))) hA))))))
theorem f139_t (s : Bs) :
    callW (E0 mm) 139 [cd (dS s)] [] = (m139 s).map e139 := by
  rw [cR c139_0 [.tmp 2, .tmp 3] Tryz.func139]
  unfold m139; exact go k139 trivial
noncomputable def c106_0 : Code := bodyOf Tryz.f106
def c106_1 := cA c106_0
def c106_3 := cA (cB c106_0)
def c106_6 := cA (cA (cB (cB c106_0)))
def c106_9 := cA (cA (cB (cA (cB (cB c106_0)))))
def c106_13 := cA (cB (cB (cB c106_0)))
def c106_16 := cA (cA (cB (cB (cB (cB c106_0)))))
def c106_19 := cA (cA (cB (cA (cB (cB (cB (cB c106_0)))))))
def c106_24 := cA (cA (cB (cB (cB (cB (cB c106_0))))))
def c106_27 := cA (cA (cB (cA (cB (cB (cB (cB (cB c106_0))))))))
def c106_31 := cA (cB (cB (cB (cB (cB (cB c106_0))))))
abbrev R106 := (Int)
def e106 (x : R106) : AV × Heap := (vd (dU x), [])
def m106 (r0_0 : Int) (r0_1 : Bs) (r0_2 : Int) (r0_3 : Bool) (r0_4 : List (Bs × Bs)) (r0_5 : Bool) (r0_6 : List UInt8) : Option R106 :=
  (m99 r0_0 r0_1 r0_2 r0_3 r0_4 r0_5 r0_6 ([97, 103, 101] : Bs)).bind fun yr2 =>
    if ((yr2.2.length : Int) == 1) = true then
      if (0 : Int) < (yr2.2.length : Int) then
        (m139 (yr2.2.getD 0 default)).bind fun yr7 =>
          if (yr7.2 == 3) = true then
            some (2147483648 : Int)
          else
            if (yr7.2 == 0) = true then
              (m97 yr7.1 (2147483648 : Int)).bind fun yr11 =>
                some yr11
            else
              some (0 : Int)
      else none
    else
      some (0 : Int)
def k106 := Q (rx c106_1) (Q (rx c106_3) (Q (fun (mm : Int) (r0_0 : Int) (r0_1 : Bs) (r0_2 : Int) (r0_3 : Bool) (r0_4 : List (Bs × Bs)) (r0_5 : Bool) (r0_6 : List UInt8) => (show callW (E0 mm) 99 [.agg [.d (dI r0_0), .d (dS r0_1), .d (dI r0_2), .d (.lst r0_3 (enL enSS r0_4)), .d (.lst r0_5 (enL enB r0_6))], cd (dS ([97, 103, 101] : Bs))] [] = _ from f99_t r0_0 r0_1 r0_2 r0_3 r0_4 r0_5 r0_6 ([97, 103, 101] : Bs))) (Q @f99_t (Q @e99.eq_1 (Q (rx c106_6) (Q (rx c106_13) (Q @ent139 (Q @prm139 (Q @f139_t (Q @e139.eq_1 (Q (rx c106_16) (Q (rx c106_19) (Q (rx c106_24) (Q (rx c106_31) (Q @f97_t (Q @e97.eq_1 (Q (rx c106_27) (Q (rx c106_9) (Q (nE c106_0 (.seq c106_1 (.seq c106_3 (.seq (.seq c106_6 (.cond _ (.seq c106_9 .ret) .skip)) (.seq c106_13 (.seq (.seq c106_16 (.cond _ (.seq c106_19 .ret) .skip)) (.seq (.seq c106_24 (.cond _ (.seq c106_27 .ret) .skip)) (.seq c106_31 .ret)))))))) hA)))))))))))))))))))
theorem f106_t (r0_0 : Int) (r0_1 : Bs) (r0_2 : Int) (r0_3 : Bool) (r0_4 : List (Bs × Bs)) (r0_5 : Bool) (r0_6 : List UInt8) :
    callW (E0 mm) 106 [.agg [.d (dI r0_0), .d (dS r0_1), .d (dI r0_2), .d (.lst r0_3 (enL enSS r0_4)), .d (.lst r0_5 (enL enB r0_6))]] [] = (m106 r0_0 r0_1 r0_2 r0_3 r0_4 r0_5 r0_6).map e106 := by
  rw [cR c106_0 [.tmp 2] Tryz.func106]
  unfold m106; exact go k106 trivial
noncomputable def c57_0 : Code := bodyOf Tryz.f57
def c57_1 := cA c57_0
def c57_3 := cA (cB c57_0)
def c57_5 := cA (cB (cB c57_0))
def c57_7 := cA (cB (cB (cB c57_0)))
def c57_10 := cA (cA (cB (cB (cB (cB c57_0)))))
def c57_12 := cA (cB (cA (cB (cB (cB (cB c57_0))))))
def c57_14 := cB (cB (cB (cB (cB c57_0))))
def c57_15 := cA c57_14
def c57_18 := cA (cA (cB c57_14))
def c57_20 := cA (cB (cA (cB c57_14)))
def c57_22 := cB (cB c57_14)
def c57_23 := cA c57_22
theorem c57_15_r (m : Nat) (st : St) : den (E0 mm) 57 m (callW (E0 mm)) itW c57_15 none st = regD ((runF (E0 mm) (callW (E0 mm)) (opsOf c57_15) (opsOf c57_15) [none, none, some false, none, none, some true, none, some true, none, none, none, none, none] st []).bind (ckF [(5, 2), (7, 2)])) := den_dF (by kernel_rfl)
abbrev R57 := (Int)
def e57 (x : R57) : AV × Heap := (vd (dI x), [])
def j57_22 (now1 most5 first6 : Int) (h0_0 : Bs) (h0_1 h0_2 : Int) (h0_3_0 : Bool) (h0_3_1 : List (Bs × Bs)) (h0_4 : Int) (h0_5 : Bs) (h0_6 : Int) (h0_7_0 : Bool) (h0_7_1 : List (Bs × Bs)) (h0_8_0 : Bool) (h0_8_1 : List UInt8) : Option R57 :=
  (m101 h0_2 now1).bind fun yr16 =>
    (m97 yr16 most5).bind fun yr18 =>
      (m97 (wu64 ((wu64 (first6 + yr18)).tdiv 1000)) (2147483648 : Int)).bind fun yr20 =>
        some (w64 yr20)
def k57 := Q (rx c57_23) (Q @f101_t (Q @e101.eq_1 (Q @f97_t (Q @e97.eq_1 (Q @c57_15_r (Q (show opsOf c57_15 = _ :: _ from rfl) (Q @ent106 (Q @prm106 (Q @f106_t (Q setF (Q @e106.eq_1 (Q (rx c57_18) (Q (rx c57_20) (Q (rx c57_1) (Q (rx c57_3) (Q (rx c57_5) (Q (rx c57_7) (Q @f98_t (Q @e98.eq_1 (Q (rx c57_10) (Q (rx c57_12) (Q (nE c57_0 (.seq c57_1 (.seq c57_3 (.seq c57_5 (.seq c57_7 (.seq (.seq c57_10 (.cond _ c57_12 .skip)) c57_14)))))) hA))))))))))))))))))))))
theorem j57_22_t (now1 most5 first6 : Int) (h0_0 : Bs) (h0_1 h0_2 : Int) (h0_3_0 : Bool) (h0_3_1 : List (Bs × Bs)) (h0_4 : Int) (h0_5 : Bs) (h0_6 : Int) (h0_7_0 : Bool) (h0_7_1 : List (Bs × Bs)) (h0_8_0 : Bool) (h0_8_1 : List UInt8)  (sl : Sl) (_ : sl 1 = vd (dU now1)) (_ : sl 2 = .v (.c (.ptr 0 0))) (_ : sl 5 = vd (dU most5)) (_ : sl 6 = vd (dU first6)) :
    bodyD (E0 mm) [.tmp 4] 0 false (dn (E0 mm) 57 0 c57_22 sl [.cells [.d (dS h0_0), .d (dU h0_1), .d (dU h0_2), .d (.lst h0_3_0 (enL enSS h0_3_1)), .d (dI h0_4), .d (dS h0_5), .d (dI h0_6), .d (.lst h0_7_0 (enL enSS h0_7_1)), .d (.lst h0_8_0 (enL enB h0_8_1))]]) = (j57_22 now1 most5 first6 h0_0 h0_1 h0_2 h0_3_0 h0_3_1 h0_4 h0_5 h0_6 h0_7_0 h0_7_1 h0_8_0 h0_8_1).map e57 := by
  unfold j57_22; exact go (Q (nE c57_22 (.seq c57_23 .ret)) k57) trivial
def j57_14 (now1 most5 first6 : Int) (h0_0 : Bs) (h0_1 h0_2 : Int) (h0_3_0 : Bool) (h0_3_1 : List (Bs × Bs)) (h0_4 : Int) (h0_5 : Bs) (h0_6 : Int) (h0_7_0 : Bool) (h0_7_1 : List (Bs × Bs)) (h0_8_0 : Bool) (h0_8_1 : List UInt8) : Option R57 :=
  (m106 h0_4 h0_5 h0_6 h0_7_0 h0_7_1 h0_8_0 h0_8_1).bind fun yr9 =>
    (m101 h0_1 h0_2).bind fun yr11 =>
      (m97 yr11 most5).bind fun yr13 =>
        if (decide (first6 < (wu64 ((wu64 (1000 * yr9)) + yr13)))) = true then
          j57_22 now1 most5 (wu64 ((wu64 (1000 * yr9)) + yr13)) h0_0 h0_1 h0_2 h0_3_0 h0_3_1 h0_4 h0_5 h0_6 h0_7_0 h0_7_1 h0_8_0 h0_8_1
        else
          j57_22 now1 most5 first6 h0_0 h0_1 h0_2 h0_3_0 h0_3_1 h0_4 h0_5 h0_6 h0_7_0 h0_7_1 h0_8_0 h0_8_1
theorem j57_14_t (now1 most5 first6 : Int) (h0_0 : Bs) (h0_1 h0_2 : Int) (h0_3_0 : Bool) (h0_3_1 : List (Bs × Bs)) (h0_4 : Int) (h0_5 : Bs) (h0_6 : Int) (h0_7_0 : Bool) (h0_7_1 : List (Bs × Bs)) (h0_8_0 : Bool) (h0_8_1 : List UInt8)  (sl : Sl) (_ : sl 1 = vd (dU now1)) (_ : sl 2 = .v (.c (.ptr 0 0))) (_ : sl 5 = vd (dU most5)) (_ : sl 6 = vd (dU first6)) :
    bodyD (E0 mm) [.tmp 4] 0 false (dn (E0 mm) 57 0 c57_14 sl [.cells [.d (dS h0_0), .d (dU h0_1), .d (dU h0_2), .d (.lst h0_3_0 (enL enSS h0_3_1)), .d (dI h0_4), .d (dS h0_5), .d (dI h0_6), .d (.lst h0_7_0 (enL enSS h0_7_1)), .d (.lst h0_8_0 (enL enB h0_8_1))]]) = (j57_14 now1 most5 first6 h0_0 h0_1 h0_2 h0_3_0 h0_3_1 h0_4 h0_5 h0_6 h0_7_0 h0_7_1 h0_8_0 h0_8_1).map e57 := by
  unfold j57_14; exact go (Q (nE c57_14 (.seq c57_15 (.seq (.seq c57_18 (.cond _ c57_20 .skip)) c57_22))) k57) @j57_22_t
def m57 (e0_0 : Bs) (e0_1 e0_2 : Int) (e0_3 : Bool) (e0_4 : List (Bs × Bs)) (e0_5 : Int) (e0_6 : Bs) (e0_7 : Int) (e0_8 : Bool) (e0_9 : List (Bs × Bs)) (e0_10 : Bool) (e0_11 : List UInt8) (now : Int) : Option R57 :=
  (m98 e0_5 e0_6 e0_7 e0_8 e0_9 e0_10 e0_11).bind fun yr2 =>
    if yr2.2 = true then
      (m101 (wu64 (1000 * yr2.1)) e0_2).bind fun yr5 =>
        (m97 yr5 (2147483648000 : Int)).bind fun yr7 =>
          j57_14 now (2147483648000 : Int) yr7 e0_0 e0_1 e0_2 e0_3 e0_4 e0_5 e0_6 e0_7 e0_8 e0_9 e0_10 e0_11
    else
      j57_14 now (2147483648000 : Int) (0 : Int) e0_0 e0_1 e0_2 e0_3 e0_4 e0_5 e0_6 e0_7 e0_8 e0_9 e0_10 e0_11
theorem f57_t (e0_0 : Bs) (e0_1 e0_2 : Int) (e0_3 : Bool) (e0_4 : List (Bs × Bs)) (e0_5 : Int) (e0_6 : Bs) (e0_7 : Int) (e0_8 : Bool) (e0_9 : List (Bs × Bs)) (e0_10 : Bool) (e0_11 : List UInt8) (now : Int) :
    callW (E0 mm) 57 [.agg [.d (dS e0_0), .d (dU e0_1), .d (dU e0_2), .d (.lst e0_3 (enL enSS e0_4)), .d (dI e0_5), .d (dS e0_6), .d (dI e0_7), .d (.lst e0_8 (enL enSS e0_9)), .d (.lst e0_10 (enL enB e0_11))], cd (dU now)] [] = (m57 e0_0 e0_1 e0_2 e0_3 e0_4 e0_5 e0_6 e0_7 e0_8 e0_9 e0_10 e0_11 now).map e57 := by
  rw [cR c57_0 [.tmp 4] Tryz.func57]
  unfold m57; exact go k57 @j57_14_t
end
end Go.Proofs.YtbkobjepahlegaaGreatDoor
