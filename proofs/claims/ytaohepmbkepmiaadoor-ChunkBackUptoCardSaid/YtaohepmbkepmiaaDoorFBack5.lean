/- The Go functions as plain functions, and that the evaluator computes them. -/
import Derived.Test.YtaohepmbkepmiaaDoorFBack4
set_option linter.all false
set_option maxRecDepth 100000
namespace Go.Proofs.YtaohepmbkepmiaaDoor
open Go Go.Ab
open Nat renaming reduceEqDiff → za, reduceAdd → zb, reduceLeDiff → zc, reduceLT → zd, reduceMul → ze, reduceBEq → zf, reduceSub → zg, reducePow → zh
open Int renaming reduceEq → zi, reduceLE → zj, reduceLT → zk, reduceToNat → zl, reduceNegSucc → zm, reduceAdd → zn, reduceBEq → zo
open String renaming reduceBEq → zp
set_option maxHeartbeats 4000000
noncomputable section
variable {mm : Int}
noncomputable def c14_0 : Code := bodyOf Tryd.f14
def c14_1 := cA c14_0
def c14_2 := cB c14_0
def c14_3 := cA c14_2
def c14_4 := cA c14_3
def c14_5 := cB c14_3
def c14_6 := cA c14_5
def c14_7 := cA c14_6
def c14_8 := cB c14_6
def c14_9 := cB c14_5
def c14_10 := cB c14_2
def c14_11 := cA c14_10
def c14_12 := cA c14_11
def c14_13 := cB c14_11
def c14_14 := cA c14_13
def c14_15 := cA c14_14
def c14_16 := cB c14_14
def c14_17 := cB c14_13
def c14_18 := cB c14_10
def c14_19 := cA c14_18
def c14_20 := cB c14_18
def c14_21 := cA c14_20
def c14_22 := cA c14_21
def c14_23 := cB c14_21
def c14_24 := cA c14_23
def c14_25 := cA c14_24
def c14_26 := cA c14_25
def c14_27 := cB c14_25
def c14_28 := cA c14_27
def c14_29 := cB c14_27
def c14_30 := cB c14_24
def c14_31 := cB c14_23
def c14_32 := cB c14_20
def c14_33 := cA c14_32
def c14_34 := cA c14_33
def c14_35 := cB c14_33
def c14_36 := cA c14_35
def c14_37 := cA c14_36
def c14_38 := cA c14_37
def c14_39 := cB c14_37
def c14_40 := cA c14_39
def c14_41 := cA c14_40
def c14_42 := cB c14_40
def c14_43 := cB c14_39
def c14_44 := cA c14_43
def c14_45 := cA c14_44
def c14_46 := cA c14_45
def c14_47 := cB c14_45
def c14_48 := cA c14_47
def c14_49 := cA c14_48
def c14_50 := cB c14_48
def c14_51 := cA c14_50
def c14_52 := cB c14_50
def c14_53 := cB c14_47
def c14_54 := cB c14_43
def c14_55 := cB c14_32
def c14_56 := cA c14_55
def c14_57 := cB c14_55
def c14_58 := cA c14_57
def c14_59 := cB c14_57
def c14_60 := cA c14_59
def c14_61 := cA c14_60
def c14_62 := cB c14_60
def c14_63 := cA c14_62
def c14_64 := cA c14_63
def c14_65 := cA c14_64
def c14_66 := cB c14_64
def c14_67 := cA c14_66
def c14_68 := cA c14_67
def c14_69 := cB c14_67
def c14_70 := cB c14_66
def c14_71 := cA c14_70
def c14_72 := cA c14_71
def c14_73 := cA c14_72
def c14_74 := cB c14_72
def c14_75 := cA c14_74
def c14_76 := cB c14_74
def c14_77 := cB c14_70
def c14_78 := cB c14_59
def c14_79 := cA c14_78
def c14_80 := cB c14_78
theorem c14_0_e : c14_0 = .seq c14_1 c14_2 := rfl
theorem c14_1_r : RG (E0 mm) 14 c14_1 := rgN rfl
theorem c14_2_e : c14_2 = .seq c14_3 c14_10 := rfl
theorem c14_3_e : c14_3 = .seq c14_4 c14_5 := rfl
theorem c14_4_r : RG (E0 mm) 14 c14_4 := rgN rfl
theorem c14_6_e : c14_6 = .seq c14_7 c14_8 := rfl
theorem c14_7_r : RG (E0 mm) 14 c14_7 := rgN rfl
theorem c14_8_e : c14_8 = .ret := rfl
theorem c14_9_e : c14_9 = .skip := rfl
theorem c14_10_e : c14_10 = .seq c14_11 c14_18 := rfl
theorem c14_11_e : c14_11 = .seq c14_12 c14_13 := rfl
theorem c14_12_r : RG (E0 mm) 14 c14_12 := rgN rfl
theorem c14_14_e : c14_14 = .seq c14_15 c14_16 := rfl
theorem c14_15_r : RG (E0 mm) 14 c14_15 := rgN rfl
theorem c14_16_e : c14_16 = .ret := rfl
theorem c14_17_e : c14_17 = .skip := rfl
theorem c14_18_e : c14_18 = .seq c14_19 c14_20 := rfl
theorem c14_19_r : RG (E0 mm) 14 c14_19 := rgN rfl
theorem c14_20_e : c14_20 = .seq c14_21 c14_32 := rfl
theorem c14_21_e : c14_21 = .seq c14_22 c14_23 := rfl
theorem c14_22_r : RG (E0 mm) 14 c14_22 := rgN rfl
theorem c14_24_e : c14_24 = .seq c14_25 c14_30 := rfl
theorem c14_25_e : c14_25 = .seq c14_26 c14_27 := rfl
theorem c14_26_r : RG (E0 mm) 14 c14_26 := rgN rfl
theorem c14_28_r : RG (E0 mm) 14 c14_28 := rgN rfl
theorem c14_29_e : c14_29 = .skip := rfl
theorem c14_30_r : RG (E0 mm) 14 c14_30 := rgN rfl
theorem c14_31_e : c14_31 = .skip := rfl
theorem c14_32_e : c14_32 = .seq c14_33 c14_55 := rfl
theorem c14_33_e : c14_33 = .seq c14_34 c14_35 := rfl
theorem c14_34_r : RG (E0 mm) 14 c14_34 := rgN rfl
theorem c14_35_e : c14_35 = .block 0 c14_36 := rfl
theorem c14_36_l (m : Nat) (st : St) : den (E0 mm) 14 m (callW (E0 mm)) itW c14_36 none st = loopD itW (loopF (E0 mm) 14 m (callW (E0 mm)) itW c14_37 [(0, .keep), (1, .keep), (5, .keep), (42, .keep), (43, .keep), (44, .keep)]) (canon m [(0, .keep), (1, .keep), (5, .keep), (42, .keep), (43, .keep), (44, .keep)] st) := rfl
theorem c14_37_e : c14_37 = .seq c14_38 c14_39 := rfl
theorem c14_38_r : RG (E0 mm) 14 c14_38 := rgN rfl
theorem c14_39_e : c14_39 = .seq c14_40 c14_43 := rfl
theorem c14_41_e : c14_41 = .skip := rfl
theorem c14_42_e : c14_42 = .exit 0 := rfl
theorem c14_43_e : c14_43 = .seq c14_44 c14_54 := rfl
theorem c14_44_e : c14_44 = .block 1 c14_45 := rfl
theorem c14_45_e : c14_45 = .seq c14_46 c14_47 := rfl
theorem c14_46_r : RG (E0 mm) 14 c14_46 := rgN rfl
theorem c14_47_e : c14_47 = .seq c14_48 c14_53 := rfl
theorem c14_48_e : c14_48 = .seq c14_49 c14_50 := rfl
theorem c14_49_r : RG (E0 mm) 14 c14_49 := rgN rfl
theorem c14_51_r : RG (E0 mm) 14 c14_51 := rgN rfl
theorem c14_52_e : c14_52 = .skip := rfl
theorem c14_53_r : RG (E0 mm) 14 c14_53 := rgN rfl
theorem c14_54_r : RG (E0 mm) 14 c14_54 := rgN rfl
theorem c14_55_e : c14_55 = .seq c14_56 c14_57 := rfl
theorem c14_56_r : RG (E0 mm) 14 c14_56 := rgN rfl
theorem c14_57_e : c14_57 = .seq c14_58 c14_59 := rfl
theorem c14_58_r : RG (E0 mm) 14 c14_58 := rgN rfl
theorem c14_59_e : c14_59 = .seq c14_60 c14_78 := rfl
theorem c14_60_e : c14_60 = .seq c14_61 c14_62 := rfl
theorem c14_61_r : RG (E0 mm) 14 c14_61 := rgN rfl
theorem c14_62_e : c14_62 = .block 2 c14_63 := rfl
theorem c14_63_l (m : Nat) (st : St) : den (E0 mm) 14 m (callW (E0 mm)) itW c14_63 none st = loopD itW (loopF (E0 mm) 14 m (callW (E0 mm)) itW c14_64 [(1, .keep), (8, .keep), (9, .keep), (70, .keep), (71, .keep), (72, .keep)]) (canon m [(1, .keep), (8, .keep), (9, .keep), (70, .keep), (71, .keep), (72, .keep)] st) := rfl
theorem c14_64_e : c14_64 = .seq c14_65 c14_66 := rfl
theorem c14_65_r : RG (E0 mm) 14 c14_65 := rgN rfl
theorem c14_66_e : c14_66 = .seq c14_67 c14_70 := rfl
theorem c14_68_e : c14_68 = .skip := rfl
theorem c14_69_e : c14_69 = .exit 2 := rfl
theorem c14_70_e : c14_70 = .seq c14_71 c14_77 := rfl
theorem c14_71_e : c14_71 = .block 3 c14_72 := rfl
theorem c14_72_e : c14_72 = .seq c14_73 c14_74 := rfl
theorem c14_73_r : RG (E0 mm) 14 c14_73 := rgN rfl
theorem c14_74_e : c14_74 = .seq c14_75 c14_76 := rfl
theorem c14_75_r : RG (E0 mm) 14 c14_75 := rgN rfl
theorem c14_76_r : RG (E0 mm) 14 c14_76 := rgN rfl
theorem c14_77_r : RG (E0 mm) 14 c14_77 := rgN rfl
theorem c14_78_e : c14_78 = .seq c14_79 c14_80 := rfl
theorem c14_79_r : RG (E0 mm) 14 c14_79 := rgN rfl
theorem c14_80_e : c14_80 = .ret := rfl
abbrev R14 := (Bool × List UInt8) ⊕ (Bool × List UInt8)
def e14 : R14 → AV × Heap := fun x => match x with
  | .inl x => (.v (.c (.d (.lst x.1 (enL enB x.2)))), [])
  | .inr x => (.v (.c (.own x.1 (enL enB x.2) 0)), [.row x.2.length (rz x.1 1)])
def K14_36 : Option (Ex × St) → Option (AV × Heap) := fun r => bodyD (E0 mm) [.tmp 4] 0 false (seqD (E0 mm) 14 0 (callW (E0 mm)) itW c14_55 (blockD 0 (r)))
def en14_36 : (Bool × List (Bool × List UInt8) × Bool × List UInt8 × Int × Bool × List (Bool × List UInt8) × Int × Int) → X := fun x => (none, [.v (.c (.d (.lst x.1 (enL en0 x.2.1)))), .v (.c (.d (.lst x.2.2.1 (enL enB x.2.2.2.1)))), .v (.c (.d (.sc (.int .i64 x.2.2.2.2.1)))), .v (.c (.d (.lst x.2.2.2.2.2.1 (enL en0 x.2.2.2.2.2.2.1)))), .v (.c (.d (.sc (.int .i64 x.2.2.2.2.2.2.2.1)))), .v (.c (.d (.sc (.int .i64 x.2.2.2.2.2.2.2.2))))], [])
def K14_63 : Option (Ex × St) → Option (AV × Heap) := fun r => bodyD (E0 mm) [.tmp 4] 0 false (seqD (E0 mm) 14 0 (callW (E0 mm)) itW c14_78 (blockD 2 (r)))
def en14_63 : (Bool × List UInt8 × Nat × Nat × Int × Bool × List (Bool × List UInt8) × Int × Int × List (Option UInt8)) → X := fun x => (none, [.v (.c (.d (.lst x.1 (enL enB x.2.1)))), .v (.c (.slc 0 0 1 x.2.2.1 (some x.2.2.2.1))), .v (.c (.d (.sc (.int .i64 x.2.2.2.2.1)))), .v (.c (.d (.lst x.2.2.2.2.2.1 (enL en0 x.2.2.2.2.2.2.1)))), .v (.c (.d (.sc (.int .i64 x.2.2.2.2.2.2.2.1)))), .v (.c (.d (.sc (.int .i64 x.2.2.2.2.2.2.2.2.1))))], [.cells (enW x.2.2.2.2.2.2.2.2.2)])
def j14_78 (b8_1 b8_2 : Nat) (h0 : List (Option UInt8)) : Option R14 :=
  if b8_1 ≤ h0.length then
    (unO (h0.take b8_1)).bind fun yl37 =>
      some (.inl (false, yl37))
  else none
theorem j14_78_t (b8_1 b8_2 : Nat) (h0 : List (Option UInt8))  (sl : Nat → AV) (zq8 : sl 8 = .v (.c (.slc 0 0 1 b8_1 (some b8_2)))) :
    bodyD (E0 mm) [.tmp 4] 0 false (den (E0 mm) 14 0 (callW (E0 mm)) itW c14_78 none ⟨sl, [.cells (enW h0)]⟩) = (j14_78 b8_1 b8_2 h0).map e14 := by
  simp -implicitDefEqProofs only [j14_78, c14_78_e, c14_79_r, (show opsOf c14_79 = _ :: _ from rfl), c14_80_e, enW_length, enW_take, List.drop_zero, toD_o, Nat.zero_add, Nat.mul_one, enW_flat, enW_mapM, ite_self, zq8, setA, setB, za, zb, zc, zd, ze, zf, zg, zh, zi, zj, zk, zl, zm, zn, zo, zp, reduceCtorEq, zE, ↓reduceIte]
  refine brP (fun yc35 => ?_) (fun yc35 => ?_)
  · simp -implicitDefEqProofs only [enW_length, enW_take, List.drop_zero, toD_o, Nat.zero_add, Nat.mul_one, enW_flat, enW_mapM, ite_self, zq8, yc35, setA, setB, za, zb, zc, zd, ze, zf, zg, zh, zi, zj, zk, zl, zm, zn, zo, zp, reduceCtorEq, zE, ↓reduceIte]
    refine brM (fun yc36 => ?_) (fun yl37 yc36 => ?_)
    · rw [yc36]; rfl
    · simp -implicitDefEqProofs only [enW_length, enW_take, List.drop_zero, toD_o, Nat.zero_add, Nat.mul_one, (chunk_enO yc36 yc35), enW_flat, enW_mapM, ite_self, zq8, yc35, yc36, setA, setB, za, zb, zc, zd, ze, zf, zg, zh, zi, zj, zk, zl, zm, zn, zo, zp, reduceCtorEq, zE, ↓reduceIte]
      all_goals rfl
  · rw [if_neg yc35]; rfl
def s14_63 (sep1_0 : Bool) (sep1_1 : List UInt8) (b8_1 b8_2 : Nat) (bp9 : Int) (t70_0 : Bool) (t70_1 : List (Bool × List UInt8)) (t71 t72 : Int) (h0 : List (Option UInt8)) : Option ((Bool × List UInt8 × Nat × Nat × Int × Bool × List (Bool × List UInt8) × Int × Int × List (Option UInt8)) ⊕ R14) :=
  if (decide (t72 < t71)) = true then
    if 0 ≤ t72 ∧ t72 < (t70_1.length : Int) then
      (bnd (b8_1 : Int) b8_2).bind fun yk28 =>
        (bnd bp9 yk28).bind fun yk30 =>
          if yk30 + (yk28 - yk30) ≤ h0.length then
            (bnd (w64 (bp9 + (((min sep1_1.length (yk28 - yk30)) : Nat) : Int))) yk28).bind fun yk33 =>
              if yk33 + (yk28 - yk33) ≤ (cpyO h0 yk30 (yk28 - yk30) sep1_1).length then
                some (.inl (sep1_0, sep1_1, b8_1, b8_2, (w64 ((w64 (bp9 + (((min sep1_1.length (yk28 - yk30)) : Nat) : Int))) + (((min ((t70_1.getD t72.toNat default).2).length (yk28 - yk33)) : Nat) : Int))), t70_0, t70_1, t71, (w64 (t72 + 1)), (cpyO (cpyO h0 yk30 (yk28 - yk30) sep1_1) yk33 (yk28 - yk33) ((t70_1.getD t72.toNat default).2))))
              else none
          else none
    else none
  else
    (j14_78 b8_1 b8_2 h0).map .inr
theorem s14_63_t (sep1_0 : Bool) (sep1_1 : List UInt8) (b8_1 b8_2 : Nat) (bp9 : Int) (t70_0 : Bool) (t70_1 : List (Bool × List UInt8)) (t71 t72 : Int) (h0 : List (Option UInt8)) :
    stepE (K14_63 (mm := mm)) (loopF (E0 mm) 14 0 (callW (E0 mm)) itW c14_64 [(1, .keep), (8, .keep), (9, .keep), (70, .keep), (71, .keep), (72, .keep)] (none, [.v (.c (.d (.lst sep1_0 (enL enB sep1_1)))), .v (.c (.slc 0 0 1 b8_1 (some b8_2))), .v (.c (.d (.sc (.int .i64 bp9)))), .v (.c (.d (.lst t70_0 (enL en0 t70_1)))), .v (.c (.d (.sc (.int .i64 t71)))), .v (.c (.d (.sc (.int .i64 t72))))], [.cells (enW h0)])) = (s14_63 sep1_0 sep1_1 b8_1 b8_2 bp9 t70_0 t70_1 t71 t72 h0).map (sm en14_63 e14) := by
  simp -implicitDefEqProofs only [s14_63, loopF_eq, c14_64_e, c14_65_r, (show opsOf c14_65 = _ :: _ from rfl), c14_66_e, (show c14_67 = Code.cond _ c14_68 c14_69 from rfl), enW_flat, enW_mapM, ite_self, setA, setB, za, zb, zc, zd, ze, zf, zg, zh, zi, zj, zk, zl, zm, zn, zo, zp, reduceCtorEq, zE, ↓reduceIte]
  refine brB (fun yc24 => ?_) (fun yc24 => ?_)
  · simp -implicitDefEqProofs only [c14_68_e, c14_70_e, c14_71_e, c14_72_e, c14_73_r, (show opsOf c14_73 = _ :: _ from rfl), Tryd.underlying31, sz22, en0_a, enW_flat, enW_mapM, ite_self, yc24, setA, setB, za, zb, zc, zd, ze, zf, zg, zh, zi, zj, zk, zl, zm, zn, zo, zp, reduceCtorEq, zE, ↓reduceIte]
    refine brP (fun yc25 => ?_) (fun yc25 => ?_)
    · have yd26 : t72.toNat < t70_1.length := by omega
      simp -implicitDefEqProofs only [(enL_get en0 t70_1 t72.toNat yd26), en0_e, sz22, ag22, c14_74_e, c14_75_r, (show opsOf c14_75 = _ :: _ from rfl), Tryd.underlying22, sz5, Option.getD_none, Option.getD_some, Option.map_none, Option.map_some, Nat.zero_add, Nat.sub_zero, Nat.zero_mul, Nat.mul_one, enW_flat, enW_mapM, ite_self, yc24, yc25, yd26, setA, setB, za, zb, zc, zd, ze, zf, zg, zh, zi, zj, zk, zl, zm, zn, zo, zp, reduceCtorEq, zE, ↓reduceIte]
      refine brM (fun yc27 => ?_) (fun yk28 yc27 => ?_)
      · rw [yc27]; rfl
      · simp -implicitDefEqProofs only [enW_flat, enW_mapM, ite_self, yc24, yc25, yd26, yc27, setA, setB, za, zb, zc, zd, ze, zf, zg, zh, zi, zj, zk, zl, zm, zn, zo, zp, reduceCtorEq, zE, ↓reduceIte]
        refine brM (fun yc29 => ?_) (fun yk30 yc29 => ?_)
        · rw [yc29]; rfl
        · simp -implicitDefEqProofs only [Tryd.underlying22, (copyA_b Tryd.underlying22 sz5), (copyA_n Tryd.underlying22 sz5), cpO_o, cpyO_nil, List.length_nil, Nat.zero_min, Int.natCast_zero, Nat.zero_add, enW_flat, enW_mapM, ite_self, yc24, yc25, yd26, yc27, yc29, setA, setB, za, zb, zc, zd, ze, zf, zg, zh, zi, zj, zk, zl, zm, zn, zo, zp, reduceCtorEq, zE, ↓reduceIte]
          refine brP (fun yc31 => ?_) (fun yc31 => ?_)
          · simp -implicitDefEqProofs only [(copyA_b Tryd.underlying22 sz5), (copyA_n Tryd.underlying22 sz5), cpO_o, cpyO_nil, List.length_nil, Nat.zero_min, Int.natCast_zero, Nat.zero_add, c14_76_r, (show opsOf c14_76 = _ :: _ from rfl), Tryd.underlying22, sz5, Option.getD_none, Option.getD_some, Option.map_none, Option.map_some, Nat.sub_zero, Nat.zero_mul, Nat.mul_one, enW_flat, enW_mapM, ite_self, yc24, yc25, yd26, yc27, yc29, yc31, setA, setB, za, zb, zc, zd, ze, zf, zg, zh, zi, zj, zk, zl, zm, zn, zo, zp, reduceCtorEq, zE, ↓reduceIte]
            refine brM (fun yc32 => ?_) (fun yk33 yc32 => ?_)
            · rw [yc32]; rfl
            · simp -implicitDefEqProofs only [Tryd.underlying22, (copyA_b Tryd.underlying22 sz5), (copyA_n Tryd.underlying22 sz5), cpO_o, cpyO_nil, List.length_nil, Nat.zero_min, Int.natCast_zero, Nat.zero_add, enW_flat, enW_mapM, ite_self, yc24, yc25, yd26, yc27, yc29, yc31, yc32, setA, setB, za, zb, zc, zd, ze, zf, zg, zh, zi, zj, zk, zl, zm, zn, zo, zp, reduceCtorEq, zE, ↓reduceIte]
              refine brP (fun yc34 => ?_) (fun yc34 => ?_)
              · simp -implicitDefEqProofs only [(copyA_b Tryd.underlying22 sz5), (copyA_n Tryd.underlying22 sz5), cpO_o, cpyO_nil, List.length_nil, Nat.zero_min, Int.natCast_zero, Nat.zero_add, c14_77_r, (show opsOf c14_77 = _ :: _ from rfl), enW_flat, enW_mapM, ite_self, yc24, yc25, yd26, yc27, yc29, yc31, yc32, yc34, setA, setB, za, zb, zc, zd, ze, zf, zg, zh, zi, zj, zk, zl, zm, zn, zo, zp, reduceCtorEq, zE, ↓reduceIte]
                all_goals rfl
              · rw [if_neg yc34]; rfl
          · rw [if_neg yc31]; rfl
    · rw [if_neg yc25]; rfl
  · simp -implicitDefEqProofs only [c14_69_e, K14_63, enW_flat, enW_mapM, ite_self, yc24, setA, setB, za, zb, zc, zd, ze, zf, zg, zh, zi, zj, zk, zl, zm, zn, zo, zp, reduceCtorEq, zE, ↓reduceIte]
    exact mi (j14_78_t b8_1 b8_2 h0 _ (by rfl))
def l14_63 (sep1_0 : Bool) (sep1_1 : List UInt8) (b8_1 b8_2 : Nat) (bp9 : Int) (t70_0 : Bool) (t70_1 : List (Bool × List UInt8)) (t71 t72 : Int) (h0 : List (Option UInt8)) : Option R14 := iter (fun x : (Bool × List UInt8 × Nat × Nat × Int × Bool × List (Bool × List UInt8) × Int × Int × List (Option UInt8)) => s14_63 x.1 x.2.1 x.2.2.1 x.2.2.2.1 x.2.2.2.2.1 x.2.2.2.2.2.1 x.2.2.2.2.2.2.1 x.2.2.2.2.2.2.2.1 x.2.2.2.2.2.2.2.2.1 x.2.2.2.2.2.2.2.2.2) (sep1_0, sep1_1, b8_1, b8_2, bp9, t70_0, t70_1, t71, t72, h0)
theorem l14_63_t (sep1_0 : Bool) (sep1_1 : List UInt8) (b8_1 b8_2 : Nat) (bp9 : Int) (t70_0 : Bool) (t70_1 : List (Bool × List UInt8)) (t71 t72 : Int) (h0 : List (Option UInt8)) : bodyD (E0 mm) [.tmp 4] 0 false (seqD (E0 mm) 14 0 (callW (E0 mm)) itW c14_78 (blockD 2 (itW (loopF (E0 mm) 14 0 (callW (E0 mm)) itW c14_64 [(1, .keep), (8, .keep), (9, .keep), (70, .keep), (71, .keep), (72, .keep)]) (none, [.v (.c (.d (.lst sep1_0 (enL enB sep1_1)))), .v (.c (.slc 0 0 1 b8_1 (some b8_2))), .v (.c (.d (.sc (.int .i64 bp9)))), .v (.c (.d (.lst t70_0 (enL en0 t70_1)))), .v (.c (.d (.sc (.int .i64 t71)))), .v (.c (.d (.sc (.int .i64 t72))))], [.cells (enW h0)])))) = (l14_63 sep1_0 sep1_1 b8_1 b8_2 bp9 t70_0 t70_1 t71 t72 h0).map e14 :=
  it_sim (K := (K14_63 (mm := mm))) rfl (enc := en14_63) (fun x => s14_63_t x.1 x.2.1 x.2.2.1 x.2.2.2.1 x.2.2.2.2.1 x.2.2.2.2.2.1 x.2.2.2.2.2.2.1 x.2.2.2.2.2.2.2.1 x.2.2.2.2.2.2.2.2.1 x.2.2.2.2.2.2.2.2.2) (sep1_0, sep1_1, b8_1, b8_2, bp9, t70_0, t70_1, t71, t72, h0)
def j14_55 (s0_0 : Bool) (s0_1 : List (Bool × List UInt8)) (sep1_0 : Bool) (sep1_1 : List UInt8) (n5 : Int) : Option R14 :=
  if 0 ≤ n5 ∧ n5 ≤ 16777216 then
    (bnd n5 n5.toNat).bind fun yk16 =>
      (bnd n5 yk16).bind fun yk18 =>
        if (0 : Int) < (s0_1.length : Int) then
          if yk18 ≤ (List.replicate n5.toNat (none : Option UInt8)).length then
            (bnd 1 s0_1.length).bind fun yk23 =>
              l14_63 sep1_0 sep1_1 yk18 yk16 (((min ((s0_1.getD 0 default).2).length yk18) : Nat) : Int) s0_0 (s0_1.drop yk23) ((s0_1.drop yk23).length : Int) (0 : Int) (cpyO (List.replicate n5.toNat (none : Option UInt8)) 0 yk18 ((s0_1.getD 0 default).2))
          else none
        else none
  else none
theorem j14_55_t (s0_0 : Bool) (s0_1 : List (Bool × List UInt8)) (sep1_0 : Bool) (sep1_1 : List UInt8) (n5 : Int)  (sl : Nat → AV) (zq0 : sl 0 = .v (.c (.d (.lst s0_0 (enL en0 s0_1))))) (zq1 : sl 1 = .v (.c (.d (.lst sep1_0 (enL enB sep1_1))))) (zq5 : sl 5 = .v (.c (.d (.sc (.int .i64 n5))))) :
    bodyD (E0 mm) [.tmp 4] 0 false (den (E0 mm) 14 0 (callW (E0 mm)) itW c14_55 none ⟨sl, []⟩) = (j14_55 s0_0 s0_1 sep1_0 sep1_1 n5).map e14 := by
  simp -implicitDefEqProofs only [j14_55, c14_55_e, c14_56_r, (show opsOf c14_56 = _ :: _ from rfl), entf25, exf25, pNoZero_n, zq0, zq1, zq5, setA, setB, za, zb, zc, zd, ze, zf, zg, zh, zi, zj, zk, zl, zm, zn, zo, zp, reduceCtorEq, zE, ↓reduceIte]
  refine brP (fun yc14 => ?_) (fun yc14 => ?_)
  · simp -implicitDefEqProofs only [Tryd.underlying22, sz5, evI, Option.getD_none, Nat.sub_zero, Nat.zero_mul, Nat.zero_add, enW_flat, enW_mapM, ite_self, zq0, zq1, zq5, yc14, setA, setB, za, zb, zc, zd, ze, zf, zg, zh, zi, zj, zk, zl, zm, zn, zo, zp, reduceCtorEq, zE, ↓reduceIte]
    refine brM (fun yc15 => ?_) (fun yk16 yc15 => ?_)
    · rw [yc15]; rfl
    · simp -implicitDefEqProofs only [enW_flat, enW_mapM, ite_self, zq0, zq1, zq5, yc14, yc15, setA, setB, za, zb, zc, zd, ze, zf, zg, zh, zi, zj, zk, zl, zm, zn, zo, zp, reduceCtorEq, zE, ↓reduceIte]
      refine brM (fun yc17 => ?_) (fun yk18 yc17 => ?_)
      · rw [yc17]; rfl
      · simp -implicitDefEqProofs only [c14_57_e, c14_58_r, (show opsOf c14_58 = _ :: _ from rfl), Tryd.underlying31, sz22, en0_a, enW_flat, enW_mapM, ite_self, zq0, zq1, zq5, yc14, yc15, yc17, setA, setB, za, zb, zc, zd, ze, zf, zg, zh, zi, zj, zk, zl, zm, zn, zo, zp, reduceCtorEq, zE, ↓reduceIte]
        refine brP (fun yc19 => ?_) (fun yc19 => ?_)
        · have yd20 : 0 < s0_1.length := by omega
          simp -implicitDefEqProofs only [(enL_get en0 s0_1 0 yd20), en0_e, sz22, ag22, Tryd.underlying22, (copyA_b Tryd.underlying22 sz5), (copyA_n Tryd.underlying22 sz5), cpO_o, cpyO_nil, List.length_nil, Nat.zero_min, Int.natCast_zero, Nat.zero_add, enW_flat, enW_mapM, ite_self, zq0, zq1, zq5, yc14, yc15, yc17, yc19, yd20, setA, setB, za, zb, zc, zd, ze, zf, zg, zh, zi, zj, zk, zl, zm, zn, zo, zp, reduceCtorEq, zE, ↓reduceIte]
          refine brP (fun yc21 => ?_) (fun yc21 => ?_)
          · simp -implicitDefEqProofs only [(copyA_b Tryd.underlying22 sz5), (copyA_n Tryd.underlying22 sz5), cpO_o, cpyO_nil, List.length_nil, Nat.zero_min, Int.natCast_zero, Nat.zero_add, c14_59_e, c14_60_e, c14_61_r, (show opsOf c14_61 = _ :: _ from rfl), Tryd.underlying31, en0_a, sz22, enW_flat, enW_mapM, ite_self, zq0, zq1, zq5, yc14, yc15, yc17, yc19, yd20, yc21, setA, setB, za, zb, zc, zd, ze, zf, zg, zh, zi, zj, zk, zl, zm, zn, zo, zp, reduceCtorEq, zE, ↓reduceIte]
            refine brM (fun yc22 => ?_) (fun yk23 yc22 => ?_)
            · rw [yc22]; rfl
            · simp -implicitDefEqProofs only [Option.isNone_some, Bool.false_and, Bool.and_false, Bool.false_eq_true, if_false, Tryd.underlying31, c14_62_e, c14_63_l, enW_flat, enW_mapM, ite_self, zq0, zq1, zq5, yc14, yc15, yc17, yc19, yd20, yc21, yc22, setA, setB, za, zb, zc, zd, ze, zf, zg, zh, zi, zj, zk, zl, zm, zn, zo, zp, reduceCtorEq, zE, ↓reduceIte]
              exact l14_63_t sep1_0 sep1_1 yk18 yk16 (((min ((s0_1.getD 0 default).2).length yk18) : Nat) : Int) s0_0 (s0_1.drop yk23) ((s0_1.drop yk23).length : Int) (0 : Int) (cpyO (List.replicate n5.toNat (none : Option UInt8)) 0 yk18 ((s0_1.getD 0 default).2))
          · rw [if_neg yc21]; rfl
        · rw [if_neg yc19]; rfl
  · rw [if_neg yc14]; rfl
def s14_36 (s0_0 : Bool) (s0_1 : List (Bool × List UInt8)) (sep1_0 : Bool) (sep1_1 : List UInt8) (n5 : Int) (t42_0 : Bool) (t42_1 : List (Bool × List UInt8)) (t43 t44 : Int) : Option ((Bool × List (Bool × List UInt8) × Bool × List UInt8 × Int × Bool × List (Bool × List UInt8) × Int × Int) ⊕ R14) :=
  if (decide (t44 < t43)) = true then
    if 0 ≤ t44 ∧ t44 < (t42_1.length : Int) then
      if (decide ((w64 (9223372036854775807 - n5)) < (((t42_1.getD t44.toNat default).2).length : Int))) = true then
        none
      else
        some (.inl (s0_0, s0_1, sep1_0, sep1_1, (w64 (n5 + (((t42_1.getD t44.toNat default).2).length : Int))), t42_0, t42_1, t43, (w64 (t44 + 1))))
    else none
  else
    (j14_55 s0_0 s0_1 sep1_0 sep1_1 n5).map .inr
theorem s14_36_t (s0_0 : Bool) (s0_1 : List (Bool × List UInt8)) (sep1_0 : Bool) (sep1_1 : List UInt8) (n5 : Int) (t42_0 : Bool) (t42_1 : List (Bool × List UInt8)) (t43 t44 : Int) :
    stepE (K14_36 (mm := mm)) (loopF (E0 mm) 14 0 (callW (E0 mm)) itW c14_37 [(0, .keep), (1, .keep), (5, .keep), (42, .keep), (43, .keep), (44, .keep)] (none, [.v (.c (.d (.lst s0_0 (enL en0 s0_1)))), .v (.c (.d (.lst sep1_0 (enL enB sep1_1)))), .v (.c (.d (.sc (.int .i64 n5)))), .v (.c (.d (.lst t42_0 (enL en0 t42_1)))), .v (.c (.d (.sc (.int .i64 t43)))), .v (.c (.d (.sc (.int .i64 t44))))], [])) = (s14_36 s0_0 s0_1 sep1_0 sep1_1 n5 t42_0 t42_1 t43 t44).map (sm en14_36 e14) := by
  simp -implicitDefEqProofs only [s14_36, loopF_eq, c14_37_e, c14_38_r, (show opsOf c14_38 = _ :: _ from rfl), c14_39_e, (show c14_40 = Code.cond _ c14_41 c14_42 from rfl), setA, setB, za, zb, zc, zd, ze, zf, zg, zh, zi, zj, zk, zl, zm, zn, zo, zp, reduceCtorEq, zE, ↓reduceIte]
  refine brB (fun yc10 => ?_) (fun yc10 => ?_)
  · simp -implicitDefEqProofs only [c14_41_e, c14_43_e, c14_44_e, c14_45_e, c14_46_r, (show opsOf c14_46 = _ :: _ from rfl), Tryd.underlying31, sz22, en0_a, yc10, setA, setB, za, zb, zc, zd, ze, zf, zg, zh, zi, zj, zk, zl, zm, zn, zo, zp, reduceCtorEq, zE, ↓reduceIte]
    refine brP (fun yc11 => ?_) (fun yc11 => ?_)
    · have yd12 : t44.toNat < t42_1.length := by omega
      simp -implicitDefEqProofs only [(enL_get en0 t42_1 t44.toNat yd12), en0_e, sz22, ag22, c14_47_e, c14_48_e, c14_49_r, (show opsOf c14_49 = _ :: _ from rfl), Tryd.underlying22, (show c14_50 = Code.cond _ c14_51 c14_52 from rfl), yc10, yc11, yd12, setA, setB, za, zb, zc, zd, ze, zf, zg, zh, zi, zj, zk, zl, zm, zn, zo, zp, reduceCtorEq, zE, ↓reduceIte]
      refine brB (fun yc13 => ?_) (fun yc13 => ?_)
      · simp -implicitDefEqProofs only [c14_51_r, (runOps_dead (E := (E0 mm)) (call := callW (E0 mm)) (all := opsOf c14_51) (os := opsOf c14_51) (by kernel_rfl)), regD_none, seqD_none, blockD_none, stepE_none, loopK_none, bodyD_none, Option.map_none, yc10, yc11, yd12, yc13, setA, setB, za, zb, zc, zd, ze, zf, zg, zh, zi, zj, zk, zl, zm, zn, zo, zp, reduceCtorEq, zE, ↓reduceIte]
      · simp -implicitDefEqProofs only [c14_52_e, c14_53_r, (show opsOf c14_53 = _ :: _ from rfl), Tryd.underlying22, c14_54_r, (show opsOf c14_54 = _ :: _ from rfl), yc10, yc11, yd12, yc13, setA, setB, za, zb, zc, zd, ze, zf, zg, zh, zi, zj, zk, zl, zm, zn, zo, zp, reduceCtorEq, zE, ↓reduceIte]
        all_goals rfl
    · rw [if_neg yc11]; rfl
  · simp -implicitDefEqProofs only [c14_42_e, K14_36, yc10, setA, setB, za, zb, zc, zd, ze, zf, zg, zh, zi, zj, zk, zl, zm, zn, zo, zp, reduceCtorEq, zE, ↓reduceIte]
    exact mi (j14_55_t s0_0 s0_1 sep1_0 sep1_1 n5 _ (by rfl) (by rfl) (by rfl))
def l14_36 (s0_0 : Bool) (s0_1 : List (Bool × List UInt8)) (sep1_0 : Bool) (sep1_1 : List UInt8) (n5 : Int) (t42_0 : Bool) (t42_1 : List (Bool × List UInt8)) (t43 t44 : Int) : Option R14 := iter (fun x : (Bool × List (Bool × List UInt8) × Bool × List UInt8 × Int × Bool × List (Bool × List UInt8) × Int × Int) => s14_36 x.1 x.2.1 x.2.2.1 x.2.2.2.1 x.2.2.2.2.1 x.2.2.2.2.2.1 x.2.2.2.2.2.2.1 x.2.2.2.2.2.2.2.1 x.2.2.2.2.2.2.2.2) (s0_0, s0_1, sep1_0, sep1_1, n5, t42_0, t42_1, t43, t44)
theorem l14_36_t (s0_0 : Bool) (s0_1 : List (Bool × List UInt8)) (sep1_0 : Bool) (sep1_1 : List UInt8) (n5 : Int) (t42_0 : Bool) (t42_1 : List (Bool × List UInt8)) (t43 t44 : Int) : bodyD (E0 mm) [.tmp 4] 0 false (seqD (E0 mm) 14 0 (callW (E0 mm)) itW c14_55 (blockD 0 (itW (loopF (E0 mm) 14 0 (callW (E0 mm)) itW c14_37 [(0, .keep), (1, .keep), (5, .keep), (42, .keep), (43, .keep), (44, .keep)]) (none, [.v (.c (.d (.lst s0_0 (enL en0 s0_1)))), .v (.c (.d (.lst sep1_0 (enL enB sep1_1)))), .v (.c (.d (.sc (.int .i64 n5)))), .v (.c (.d (.lst t42_0 (enL en0 t42_1)))), .v (.c (.d (.sc (.int .i64 t43)))), .v (.c (.d (.sc (.int .i64 t44))))], [])))) = (l14_36 s0_0 s0_1 sep1_0 sep1_1 n5 t42_0 t42_1 t43 t44).map e14 :=
  it_sim (K := (K14_36 (mm := mm))) rfl (enc := en14_36) (fun x => s14_36_t x.1 x.2.1 x.2.2.1 x.2.2.2.1 x.2.2.2.2.1 x.2.2.2.2.2.1 x.2.2.2.2.2.2.1 x.2.2.2.2.2.2.2.1 x.2.2.2.2.2.2.2.2) (s0_0, s0_1, sep1_0, sep1_1, n5, t42_0, t42_1, t43, t44)
def j14_32 (s0_0 : Bool) (s0_1 : List (Bool × List UInt8)) (sep1_0 : Bool) (sep1_1 : List UInt8) (n5 : Int) : Option R14 :=
  l14_36 s0_0 s0_1 sep1_0 sep1_1 n5 s0_0 s0_1 (s0_1.length : Int) (0 : Int)
theorem j14_32_t (s0_0 : Bool) (s0_1 : List (Bool × List UInt8)) (sep1_0 : Bool) (sep1_1 : List UInt8) (n5 : Int)  (sl : Nat → AV) (zq0 : sl 0 = .v (.c (.d (.lst s0_0 (enL en0 s0_1))))) (zq1 : sl 1 = .v (.c (.d (.lst sep1_0 (enL enB sep1_1))))) (zq5 : sl 5 = .v (.c (.d (.sc (.int .i64 n5))))) :
    bodyD (E0 mm) [.tmp 4] 0 false (den (E0 mm) 14 0 (callW (E0 mm)) itW c14_32 none ⟨sl, []⟩) = (j14_32 s0_0 s0_1 sep1_0 sep1_1 n5).map e14 := by
  simp -implicitDefEqProofs only [j14_32, c14_32_e, c14_33_e, c14_34_r, (show opsOf c14_34 = _ :: _ from rfl), Tryd.underlying31, c14_35_e, c14_36_l, zq0, zq1, zq5, setA, setB, za, zb, zc, zd, ze, zf, zg, zh, zi, zj, zk, zl, zm, zn, zo, zp, reduceCtorEq, zE, ↓reduceIte]
  exact l14_36_t s0_0 s0_1 sep1_0 sep1_1 n5 s0_0 s0_1 (s0_1.length : Int) (0 : Int)
def m14 (s_0 : Bool) (s_1 : List (Bool × List UInt8)) (sep_0 : Bool) (sep_1 : List UInt8) : Option R14 :=
  if ((s_1.length : Int) == 0) = true then
    some (.inl (false, ([] : List UInt8)))
  else
    if ((s_1.length : Int) == 1) = true then
      if (0 : Int) < (s_1.length : Int) then
        if ((s_1.getD 0 default).2).isEmpty = true then
          some (.inl (true, ([] : List UInt8)))
        else
          if ((s_1.getD 0 default).2).length * 1 ≤ 140737488355328 then
            some (.inr (false, (s_1.getD 0 default).2))
          else none
      else none
    else
      if (decide (0 < (sep_1.length : Int))) = true then
        if ((w64 ((s_1.length : Int) - 1)) == 0) = false then
          if (decide ((w64 ((9223372036854775807 : Int).tdiv (w64 ((s_1.length : Int) - 1)))) ≤ (sep_1.length : Int))) = true then
            none
          else
            j14_32 s_0 s_1 sep_0 sep_1 (w64 (0 + (w64 ((sep_1.length : Int) * (w64 ((s_1.length : Int) - 1))))))
        else none
      else
        j14_32 s_0 s_1 sep_0 sep_1 (0 : Int)
theorem f14_t (s_0 : Bool) (s_1 : List (Bool × List UInt8)) (sep_0 : Bool) (sep_1 : List UInt8) :
    callW (E0 mm) 14 [.c (.d (.lst s_0 (enL en0 s_1))), .c (.d (.lst sep_0 (enL enB sep_1)))] [] = (m14 s_0 s_1 sep_0 sep_1).map e14 := by
  rw [callW_run (body := c14_0) (res := [.tmp 4]) Tryd.func14 rfl rfl (by kernel_rfl)]
  simp -implicitDefEqProofs only [m14, slots2, c14_0_e, c14_1_r, (show opsOf c14_1 = _ :: _ from rfl), c14_2_e, c14_3_e, c14_4_r, (show opsOf c14_4 = _ :: _ from rfl), Tryd.underlying31, (show c14_5 = Code.cond _ c14_6 c14_9 from rfl), setA, setB, za, zb, zc, zd, ze, zf, zg, zh, zi, zj, zk, zl, zm, zn, zo, zp, reduceCtorEq, zE, ↓reduceIte]
  refine brB (fun yc1 => ?_) (fun yc1 => ?_)
  · simp -implicitDefEqProofs only [c14_6_e, c14_7_r, (show opsOf c14_7 = _ :: _ from rfl), Tryd.underlying22, sz5, zc5, hd25, nv26, rw27, ns28, c14_8_e, yc1, setA, setB, za, zb, zc, zd, ze, zf, zg, zh, zi, zj, zk, zl, zm, zn, zo, zp, reduceCtorEq, zE, ↓reduceIte]
    all_goals rfl
  · simp -implicitDefEqProofs only [c14_9_e, c14_10_e, c14_11_e, c14_12_r, (show opsOf c14_12 = _ :: _ from rfl), Tryd.underlying31, (show c14_13 = Code.cond _ c14_14 c14_17 from rfl), yc1, setA, setB, za, zb, zc, zd, ze, zf, zg, zh, zi, zj, zk, zl, zm, zn, zo, zp, reduceCtorEq, zE, ↓reduceIte]
    refine brB (fun yc2 => ?_) (fun yc2 => ?_)
    · simp -implicitDefEqProofs only [c14_14_e, c14_15_r, (show opsOf c14_15 = _ :: _ from rfl), Tryd.underlying31, sz22, en0_a, yc1, yc2, setA, setB, za, zb, zc, zd, ze, zf, zg, zh, zi, zj, zk, zl, zm, zn, zo, zp, reduceCtorEq, zE, ↓reduceIte]
      refine brP (fun yc3 => ?_) (fun yc3 => ?_)
      · have yd4 : 0 < s_1.length := by omega
        simp -implicitDefEqProofs only [(enL_get en0 s_1 0 yd4), en0_e, sz22, ag22, Tryd.underlying22, hd29, an22, yc1, yc2, yc3, yd4, setA, setB, za, zb, zc, zd, ze, zf, zg, zh, zi, zj, zk, zl, zm, zn, zo, zp, reduceCtorEq, zE, ↓reduceIte]
        refine brB (fun yc5 => ?_) (fun yc5 => ?_)
        · simp -implicitDefEqProofs only [c14_16_e, yc1, yc2, yc3, yd4, yc5, setA, setB, za, zb, zc, zd, ze, zf, zg, zh, zi, zj, zk, zl, zm, zn, zo, zp, reduceCtorEq, zE, ↓reduceIte]
          all_goals rfl
        · simp -implicitDefEqProofs only [yc1, yc2, yc3, yd4, yc5, setA, setB, za, zb, zc, zd, ze, zf, zg, zh, zi, zj, zk, zl, zm, zn, zo, zp, reduceCtorEq, zE, ↓reduceIte]
          refine brP (fun yc6 => ?_) (fun yc6 => ?_)
          · simp -implicitDefEqProofs only [c14_16_e, yc1, yc2, yc3, yd4, yc5, yc6, setA, setB, za, zb, zc, zd, ze, zf, zg, zh, zi, zj, zk, zl, zm, zn, zo, zp, reduceCtorEq, zE, ↓reduceIte]
            all_goals rfl
          · rw [if_neg yc6]; rfl
      · rw [if_neg yc3]; rfl
    · simp -implicitDefEqProofs only [c14_17_e, c14_18_e, c14_19_r, (show opsOf c14_19 = _ :: _ from rfl), c14_20_e, c14_21_e, c14_22_r, (show opsOf c14_22 = _ :: _ from rfl), Tryd.underlying22, (show c14_23 = Code.cond _ c14_24 c14_31 from rfl), yc1, yc2, setA, setB, za, zb, zc, zd, ze, zf, zg, zh, zi, zj, zk, zl, zm, zn, zo, zp, reduceCtorEq, zE, ↓reduceIte]
      refine brB (fun yc7 => ?_) (fun yc7 => ?_)
      · simp -implicitDefEqProofs only [c14_24_e, c14_25_e, c14_26_r, (show opsOf c14_26 = _ :: _ from rfl), Tryd.underlying22, Tryd.underlying31, ev_quo0, yc1, yc2, yc7, setA, setB, za, zb, zc, zd, ze, zf, zg, zh, zi, zj, zk, zl, zm, zn, zo, zp, reduceCtorEq, zE, ↓reduceIte]
        refine brP (fun yc8 => ?_) (fun yc8 => ?_)
        · simp -implicitDefEqProofs only [(show c14_27 = Code.cond _ c14_28 c14_29 from rfl), yc1, yc2, yc7, yc8, setA, setB, za, zb, zc, zd, ze, zf, zg, zh, zi, zj, zk, zl, zm, zn, zo, zp, reduceCtorEq, zE, ↓reduceIte]
          refine brB (fun yc9 => ?_) (fun yc9 => ?_)
          · simp -implicitDefEqProofs only [c14_28_r, (runOps_dead (E := (E0 mm)) (call := callW (E0 mm)) (all := opsOf c14_28) (os := opsOf c14_28) (by kernel_rfl)), regD_none, seqD_none, blockD_none, stepE_none, loopK_none, bodyD_none, Option.map_none, yc1, yc2, yc7, yc8, yc9, setA, setB, za, zb, zc, zd, ze, zf, zg, zh, zi, zj, zk, zl, zm, zn, zo, zp, reduceCtorEq, zE, ↓reduceIte]
          · simp -implicitDefEqProofs only [c14_29_e, c14_30_r, (show opsOf c14_30 = _ :: _ from rfl), Tryd.underlying22, Tryd.underlying31, yc1, yc2, yc7, yc8, yc9, setA, setB, za, zb, zc, zd, ze, zf, zg, zh, zi, zj, zk, zl, zm, zn, zo, zp, reduceCtorEq, zE, ↓reduceIte]
            exact j14_32_t s_0 s_1 sep_0 sep_1 (w64 (0 + (w64 ((sep_1.length : Int) * (w64 ((s_1.length : Int) - 1)))))) _ (by rfl) (by rfl) (by rfl)
        · rw [if_neg yc8]; rfl
      · simp -implicitDefEqProofs only [c14_31_e, yc1, yc2, yc7, setA, setB, za, zb, zc, zd, ze, zf, zg, zh, zi, zj, zk, zl, zm, zn, zo, zp, reduceCtorEq, zE, ↓reduceIte]
        exact j14_32_t s_0 s_1 sep_0 sep_1 (0 : Int) _ (by rfl) (by rfl) (by rfl)
noncomputable def c10_0 : Code := bodyOf Tryd.f10
def c10_1 := cA c10_0
def c10_2 := cB c10_0
def c10_3 := cA c10_2
def c10_4 := cB c10_2
theorem c10_0_e : c10_0 = .seq c10_1 c10_2 := rfl
theorem c10_1_r : RG (E0 mm) 10 c10_1 := rgN rfl
theorem c10_2_e : c10_2 = .seq c10_3 c10_4 := rfl
theorem c10_3_r : RG (E0 mm) 10 c10_3 := rgN rfl
theorem c10_4_e : c10_4 = .ret := rfl
abbrev R10 := (Bool)
def e10 : R10 → AV × Heap := fun x => (.v (.c (.d (.sc (.bool x)))), [])
def m10 (a_0 : Bool) (a_1 : List UInt8) (b_0 : Bool) (b_1 : List UInt8) : Option R10 :=
  some (a_1 == b_1)
theorem f10_t (a_0 : Bool) (a_1 : List UInt8) (b_0 : Bool) (b_1 : List UInt8) :
    callW (E0 mm) 10 [.c (.d (.lst a_0 (enL enB a_1))), .c (.d (.lst b_0 (enL enB b_1)))] [] = (m10 a_0 a_1 b_0 b_1).map e10 := by
  rw [callW_run (body := c10_0) (res := [.tmp 4]) Tryd.func10 rfl rfl (by kernel_rfl)]
  simp -implicitDefEqProofs only [m10, slots2, c10_0_e, c10_1_r, (show opsOf c10_1 = _ :: _ from rfl), c10_2_e, c10_3_r, (show opsOf c10_3 = _ :: _ from rfl), Tryd.underlying22, Tryd.underlying9, Tryd.underlying5, c10_4_e, setA, setB, za, zb, zc, zd, ze, zf, zg, zh, zi, zj, zk, zl, zm, zn, zo, zp, reduceCtorEq, zE, ↓reduceIte]
  all_goals rfl
end
end Go.Proofs.YtaohepmbkepmiaaDoor
