/- The Go functions as plain functions, and that the evaluator computes them. -/
import Derived.Test.YtbdjemdhjanffaaDoorFOrder3
set_option linter.all false
set_option maxRecDepth 100000
namespace Go.Proofs.YtbdjemdhjanffaaDoor
open Go Go.Ab
open Nat renaming reduceEqDiff → za, reduceAdd → zb, reduceLeDiff → zc, reduceLT → zd, reduceMul → ze, reduceBEq → zf, reduceSub → zg, reducePow → zh
open Int renaming reduceEq → zi, reduceLE → zj, reduceLT → zk, reduceToNat → zl, reduceNegSucc → zm, reduceAdd → zn, reduceBEq → zo
open String renaming reduceBEq → zp
set_option maxHeartbeats 4000000
noncomputable section
variable {mm : Int}
noncomputable def c5_0 : Code := bodyOf Tryd.f5
def c5_1 := cA c5_0
def c5_2 := cB c5_0
def c5_3 := cA c5_2
def c5_4 := cB c5_2
def c5_5 := cA c5_4
def c5_6 := cA c5_5
def c5_7 := cB c5_5
def c5_8 := cA c5_7
def c5_9 := cA c5_8
def c5_10 := cA c5_9
def c5_11 := cA c5_10
def c5_12 := cB c5_10
def c5_13 := cA c5_12
def c5_14 := cB c5_12
def c5_15 := cB c5_9
def c5_16 := cA c5_15
def c5_17 := cA c5_16
def c5_18 := cB c5_15
def c5_19 := cB c5_4
def c5_20 := cA c5_19
def c5_21 := cA c5_20
def c5_22 := cB c5_20
def c5_23 := cA c5_22
def c5_24 := cA c5_23
def c5_25 := cA c5_24
def c5_26 := cA c5_25
def c5_27 := cB c5_25
def c5_28 := cA c5_27
def c5_29 := cB c5_27
def c5_30 := cB c5_24
def c5_31 := cA c5_30
def c5_32 := cA c5_31
def c5_33 := cA c5_32
def c5_34 := cA c5_33
def c5_35 := cB c5_33
def c5_36 := cA c5_35
def c5_37 := cA c5_36
def c5_38 := cB c5_36
def c5_39 := cB c5_35
def c5_40 := cB c5_32
def c5_41 := cA c5_40
def c5_42 := cB c5_40
def c5_43 := cA c5_42
def c5_44 := cB c5_42
def c5_45 := cA c5_44
def c5_46 := cA c5_45
def c5_47 := cB c5_45
def c5_48 := cA c5_47
def c5_49 := cA c5_48
def c5_50 := cA c5_49
def c5_51 := cA c5_50
def c5_52 := cB c5_50
def c5_53 := cA c5_52
def c5_54 := cB c5_52
def c5_55 := cB c5_49
def c5_56 := cA c5_55
def c5_57 := cA c5_56
def c5_58 := cB c5_55
def c5_59 := cB c5_44
def c5_60 := cA c5_59
def c5_61 := cB c5_59
def c5_62 := cA c5_61
def c5_63 := cA c5_62
def c5_64 := cB c5_62
def c5_65 := cA c5_64
def c5_66 := cA c5_65
def c5_67 := cA c5_66
def c5_68 := cA c5_67
def c5_69 := cB c5_67
def c5_70 := cA c5_69
def c5_71 := cB c5_69
def c5_72 := cB c5_66
def c5_73 := cA c5_72
def c5_74 := cA c5_73
def c5_75 := cA c5_74
def c5_76 := cB c5_74
def c5_77 := cA c5_76
def c5_78 := cB c5_76
def c5_79 := cB c5_72
def c5_80 := cB c5_61
def c5_81 := cB c5_30
def c5_82 := cB c5_19
def c5_83 := cA c5_82
def c5_84 := cB c5_82
def c5_85 := cA c5_84
def c5_86 := cB c5_84
theorem c5_0_e : c5_0 = .seq c5_1 c5_2 := rfl
theorem c5_1_r : RG (E0 mm) 5 c5_1 := rgN rfl
theorem c5_2_e : c5_2 = .seq c5_3 c5_4 := rfl
theorem c5_3_r : RG (E0 mm) 5 c5_3 := rgN rfl
theorem c5_4_e : c5_4 = .seq c5_5 c5_19 := rfl
theorem c5_5_e : c5_5 = .seq c5_6 c5_7 := rfl
theorem c5_6_r : RG (E0 mm) 5 c5_6 := rgN rfl
theorem c5_7_e : c5_7 = .block 0 c5_8 := rfl
theorem c5_8_l (m : Nat) (st : St) : den (E0 mm) 5 m (callW (E0 mm)) itW c5_8 none st = loopD itW (loopF (E0 mm) 5 m (callW (E0 mm)) itW c5_9 [(0, .keep), (3, .own), (4, .keep), (5, .keep), (6, .keep)]) (canon m [(0, .keep), (3, .own), (4, .keep), (5, .keep), (6, .keep)] st) := rfl
theorem c5_9_e : c5_9 = .seq c5_10 c5_15 := rfl
theorem c5_10_e : c5_10 = .seq c5_11 c5_12 := rfl
theorem c5_11_r : RG (E0 mm) 5 c5_11 := rgN rfl
theorem c5_13_e : c5_13 = .skip := rfl
theorem c5_14_e : c5_14 = .exit 0 := rfl
theorem c5_15_e : c5_15 = .seq c5_16 c5_18 := rfl
theorem c5_16_e : c5_16 = .block 1 c5_17 := rfl
theorem c5_17_r : RG (E0 mm) 5 c5_17 := rgN rfl
theorem c5_18_r : RG (E0 mm) 5 c5_18 := rgN rfl
theorem c5_19_e : c5_19 = .seq c5_20 c5_82 := rfl
theorem c5_20_e : c5_20 = .seq c5_21 c5_22 := rfl
theorem c5_21_r : RG (E0 mm) 5 c5_21 := rgN rfl
theorem c5_22_e : c5_22 = .block 2 c5_23 := rfl
theorem c5_23_l (m : Nat) (st : St) : den (E0 mm) 5 m (callW (E0 mm)) itW c5_23 none st = loopD itW (loopF (E0 mm) 5 m (callW (E0 mm)) itW c5_24 [(0, .keep), (3, .keep), (4, .own), (5, .own), (7, .keep)]) (canon m [(0, .keep), (3, .keep), (4, .own), (5, .own), (7, .keep)] st) := rfl
theorem c5_24_e : c5_24 = .seq c5_25 c5_30 := rfl
theorem c5_25_e : c5_25 = .seq c5_26 c5_27 := rfl
theorem c5_26_r : RG (E0 mm) 5 c5_26 := rgN rfl
theorem c5_28_e : c5_28 = .skip := rfl
theorem c5_29_e : c5_29 = .exit 2 := rfl
theorem c5_30_e : c5_30 = .seq c5_31 c5_81 := rfl
theorem c5_31_e : c5_31 = .block 3 c5_32 := rfl
theorem c5_32_e : c5_32 = .seq c5_33 c5_40 := rfl
theorem c5_33_e : c5_33 = .seq c5_34 c5_35 := rfl
theorem c5_34_r : RG (E0 mm) 5 c5_34 := rgN rfl
theorem c5_36_e : c5_36 = .seq c5_37 c5_38 := rfl
theorem c5_37_r (m : Nat) (st : St) : den (E0 mm) 5 m (callW (E0 mm)) itW c5_37 none st = regD ((runF (E0 mm) (callW (E0 mm)) (opsOf c5_37) (opsOf c5_37) [none, none, none, none, none, none, some false, none, none, none, none, some true, none, none, none, none] st []).bind (ckF [(11, 6)])) := den_dF (by kernel_rfl)
theorem c5_38_e : c5_38 = .exit 3 := rfl
theorem c5_39_e : c5_39 = .skip := rfl
theorem c5_40_e : c5_40 = .seq c5_41 c5_42 := rfl
theorem c5_41_r : RG (E0 mm) 5 c5_41 := rgN rfl
theorem c5_42_e : c5_42 = .seq c5_43 c5_44 := rfl
theorem c5_43_r : RG (E0 mm) 5 c5_43 := rgN rfl
theorem c5_44_e : c5_44 = .seq c5_45 c5_59 := rfl
theorem c5_45_e : c5_45 = .seq c5_46 c5_47 := rfl
theorem c5_46_r : RG (E0 mm) 5 c5_46 := rgN rfl
theorem c5_47_e : c5_47 = .block 4 c5_48 := rfl
theorem c5_48_l (m : Nat) (st : St) : den (E0 mm) 5 m (callW (E0 mm)) itW c5_48 none st = loopD itW (loopF (E0 mm) 5 m (callW (E0 mm)) itW c5_49 [(0, .keep), (3, .keep), (4, .own), (5, .keep), (7, .keep), (8, .keep), (9, .keep)]) (canon m [(0, .keep), (3, .keep), (4, .own), (5, .keep), (7, .keep), (8, .keep), (9, .keep)] st) := rfl
theorem c5_49_e : c5_49 = .seq c5_50 c5_55 := rfl
theorem c5_50_e : c5_50 = .seq c5_51 c5_52 := rfl
theorem c5_51_r : RG (E0 mm) 5 c5_51 := rgN rfl
theorem c5_53_e : c5_53 = .skip := rfl
theorem c5_54_e : c5_54 = .exit 4 := rfl
theorem c5_55_e : c5_55 = .seq c5_56 c5_58 := rfl
theorem c5_56_e : c5_56 = .block 5 c5_57 := rfl
theorem c5_57_r : RG (E0 mm) 5 c5_57 := rgN rfl
theorem c5_58_r : RG (E0 mm) 5 c5_58 := rgN rfl
theorem c5_59_e : c5_59 = .seq c5_60 c5_61 := rfl
theorem c5_60_r : RG (E0 mm) 5 c5_60 := rgN rfl
theorem c5_61_e : c5_61 = .seq c5_62 c5_80 := rfl
theorem c5_62_e : c5_62 = .seq c5_63 c5_64 := rfl
theorem c5_63_r : RG (E0 mm) 5 c5_63 := rgN rfl
theorem c5_64_e : c5_64 = .block 6 c5_65 := rfl
theorem c5_65_l (m : Nat) (st : St) : den (E0 mm) 5 m (callW (E0 mm)) itW c5_65 none st = loopD itW (loopF (E0 mm) 5 m (callW (E0 mm)) itW c5_66 [(0, .keep), (3, .keep), (4, .keep), (5, .keep), (7, .keep), (10, .keep), (11, .keep)]) (canon m [(0, .keep), (3, .keep), (4, .keep), (5, .keep), (7, .keep), (10, .keep), (11, .keep)] st) := rfl
theorem c5_66_e : c5_66 = .seq c5_67 c5_72 := rfl
theorem c5_67_e : c5_67 = .seq c5_68 c5_69 := rfl
theorem c5_68_r : RG (E0 mm) 5 c5_68 := rgN rfl
theorem c5_70_e : c5_70 = .skip := rfl
theorem c5_71_e : c5_71 = .exit 6 := rfl
theorem c5_72_e : c5_72 = .seq c5_73 c5_79 := rfl
theorem c5_73_e : c5_73 = .block 7 c5_74 := rfl
theorem c5_74_e : c5_74 = .seq c5_75 c5_76 := rfl
theorem c5_75_r : RG (E0 mm) 5 c5_75 := rgN rfl
theorem c5_77_r : RG (E0 mm) 5 c5_77 := rgN rfl
theorem c5_78_e : c5_78 = .skip := rfl
theorem c5_79_r : RG (E0 mm) 5 c5_79 := rgN rfl
theorem c5_80_r : RG (E0 mm) 5 c5_80 := rgN rfl
theorem c5_81_r : RG (E0 mm) 5 c5_81 := rgN rfl
theorem c5_82_e : c5_82 = .seq c5_83 c5_84 := rfl
theorem c5_83_r : RG (E0 mm) 5 c5_83 := rgN rfl
theorem c5_84_e : c5_84 = .seq c5_85 c5_86 := rfl
theorem c5_85_r (m : Nat) (st : St) : den (E0 mm) 5 m (callW (E0 mm)) itW c5_85 none st = regD ((runF (E0 mm) (callW (E0 mm)) (opsOf c5_85) (opsOf c5_85) [none, some false, some true, none, none, none, some false, some true, none, none, none, none, some false, some true, none, none, none, none, some false, some true, none, none, none, none, some false, some true, none, none, none, none, some false, some true, none, none, none, none, none, none] st []).bind (ckF [(2, 1), (7, 6), (13, 12), (19, 18), (25, 24), (31, 30)])) := den_dF (by kernel_rfl)
theorem c5_86_e : c5_86 = .ret := rfl
abbrev R5 := (Bool)
def e5 : R5 → AV × Heap := fun x => (.v (.c (.d (.sc (.bool x)))), [])
def K5_8 : Option (Ex × St) → Option (AV × Heap) := fun r => bodyD (E0 mm) [.tmp 2] 0 false (seqD (E0 mm) 5 0 (callW (E0 mm)) itW c5_19 (blockD 0 (r)))
def en5_8 : (Bool × List (Bs × Bs) × Bool × List (Bs × Bs) × Int) → X := fun x => (none, [.v (.c (.d (.lst x.1 (enL enSS x.2.1)))), .v (.c (.own x.2.2.1 (enL enSS x.2.2.2.1) 0)), .v (.c (.d (.lst true []))), .v (.c (.d (.lst true []))), .v (.c (.d (.sc (.int .i64 x.2.2.2.2))))], [.row x.2.2.2.1.length (rz x.2.2.1 2)])
def K5_23 : Option (Ex × St) → Option (AV × Heap) := fun r => bodyD (E0 mm) [.tmp 2] 0 false (seqD (E0 mm) 5 0 (callW (E0 mm)) itW c5_82 (blockD 2 (r)))
def en5_23 : (Bool × List (Bs × Bs) × Bool × List (Bs × Bs) × Bool × List (Bs × Bs) × Bool × List (Bs × Bs) × Int) → X := fun x => (none, [.v (.c (.d (.lst x.1 (enL enSS x.2.1)))), .v (.c (.own x.2.2.1 (enL enSS x.2.2.2.1) 0)), .v (.c (.own x.2.2.2.2.1 (enL enSS x.2.2.2.2.2.1) 1)), .v (.c (.own x.2.2.2.2.2.2.1 (enL enSS x.2.2.2.2.2.2.2.1) 2)), .v (.c (.d (.sc (.int .i64 x.2.2.2.2.2.2.2.2))))], [.row x.2.2.2.1.length (rz x.2.2.1 2), .row x.2.2.2.2.2.1.length (rz x.2.2.2.2.1 2), .row x.2.2.2.2.2.2.2.1.length (rz x.2.2.2.2.2.2.1 2)])
def K5_48 : Option (Ex × St) → Option (X ⊕ (AV × Heap)) := fun r => stepE (K5_23 (mm := mm)) (loopK 0 [(0, .keep), (3, .keep), (4, .own), (5, .own), (7, .keep)] (seqD (E0 mm) 5 0 (callW (E0 mm)) itW c5_81 (blockD 3 (seqD (E0 mm) 5 0 (callW (E0 mm)) itW c5_59 (blockD 4 (r))))))
def en5_48 : (Bool × List (Bs × Bs) × Bool × List (Bs × Bs) × Bool × List (Bs × Bs) × Bool × List (Bs × Bs) × Int × Bool × List Bs × Int) → X := fun x => (none, [.v (.c (.d (.lst x.1 (enL enSS x.2.1)))), .v (.c (.own x.2.2.1 (enL enSS x.2.2.2.1) 0)), .v (.c (.own x.2.2.2.2.1 (enL enSS x.2.2.2.2.2.1) 1)), .v (.c (.own x.2.2.2.2.2.2.1 (enL enSS x.2.2.2.2.2.2.2.1) 2)), .v (.c (.d (.sc (.int .i64 x.2.2.2.2.2.2.2.2.1)))), .v (.c (.own x.2.2.2.2.2.2.2.2.2.1 (enL enS x.2.2.2.2.2.2.2.2.2.2.1) 3)), .v (.c (.d (.sc (.int .i64 x.2.2.2.2.2.2.2.2.2.2.2))))], [.row x.2.2.2.1.length (rz x.2.2.1 2), .row x.2.2.2.2.2.1.length (rz x.2.2.2.2.1 2), .row x.2.2.2.2.2.2.2.1.length (rz x.2.2.2.2.2.2.1 2), .row x.2.2.2.2.2.2.2.2.2.2.1.length (rz x.2.2.2.2.2.2.2.2.2.1 1)])
def K5_65 : Option (Ex × St) → Option (X ⊕ (AV × Heap)) := fun r => stepE (K5_23 (mm := mm)) (loopK 0 [(0, .keep), (3, .keep), (4, .own), (5, .own), (7, .keep)] (seqD (E0 mm) 5 0 (callW (E0 mm)) itW c5_81 (blockD 3 (seqD (E0 mm) 5 0 (callW (E0 mm)) itW c5_80 (blockD 6 (r))))))
def en5_65 : (Bool × List (Bs × Bs) × Bool × List (Bs × Bs) × Bool × List (Bs × Bs) × Bool × List (Bs × Bs) × Int × Nat × Int × List UInt8) → X := fun x => (none, [.v (.c (.d (.lst x.1 (enL enSS x.2.1)))), .v (.c (.own x.2.2.1 (enL enSS x.2.2.2.1) 0)), .v (.c (.own x.2.2.2.2.1 (enL enSS x.2.2.2.2.2.1) 1)), .v (.c (.own x.2.2.2.2.2.2.1 (enL enSS x.2.2.2.2.2.2.2.1) 2)), .v (.c (.d (.sc (.int .i64 x.2.2.2.2.2.2.2.2.1)))), .v (.c (.slc 3 0 1 x.2.2.2.2.2.2.2.2.2.1 none)), .v (.c (.d (.sc (.int .i64 x.2.2.2.2.2.2.2.2.2.2.1))))], [.row x.2.2.2.1.length (rz x.2.2.1 2), .row x.2.2.2.2.2.1.length (rz x.2.2.2.2.1 2), .row x.2.2.2.2.2.2.2.1.length (rz x.2.2.2.2.2.2.1 2), .cells (enC x.2.2.2.2.2.2.2.2.2.2.2)])
def j5_79 (l0_0 : Bool) (l0_1 : List (Bs × Bs)) (back3_0 : Bool) (back3_1 : List (Bs × Bs)) (apart4_0 : Bool) (apart4_1 : List (Bs × Bs)) (big5_0 : Bool) (big5_1 : List (Bs × Bs)) (i7 : Int) (b10_1 : Nat) (k11 : Int) (h3 : List UInt8) : Option ((Bool × List (Bs × Bs) × Bool × List (Bs × Bs) × Bool × List (Bs × Bs) × Bool × List (Bs × Bs) × Int × Nat × Int × List UInt8) ⊕ ((Bool × List (Bs × Bs) × Bool × List (Bs × Bs) × Bool × List (Bs × Bs) × Bool × List (Bs × Bs) × Int) ⊕ R5)) :=
  some (.inl (l0_0, l0_1, back3_0, back3_1, apart4_0, apart4_1, big5_0, big5_1, i7, b10_1, (w64 (k11 + 1)), h3))
theorem j5_79_t (l0_0 : Bool) (l0_1 : List (Bs × Bs)) (back3_0 : Bool) (back3_1 : List (Bs × Bs)) (apart4_0 : Bool) (apart4_1 : List (Bs × Bs)) (big5_0 : Bool) (big5_1 : List (Bs × Bs)) (i7 : Int) (b10_1 : Nat) (k11 : Int) (h3 : List UInt8)  (sl : Nat → AV) (zq0 : sl 0 = .v (.c (.d (.lst l0_0 (enL enSS l0_1))))) (zq3 : sl 3 = .v (.c (.own back3_0 (enL enSS back3_1) 0))) (zq4 : sl 4 = .v (.c (.own apart4_0 (enL enSS apart4_1) 1))) (zq5 : sl 5 = .v (.c (.own big5_0 (enL enSS big5_1) 2))) (zq7 : sl 7 = .v (.c (.d (.sc (.int .i64 i7))))) (zq10 : sl 10 = .v (.c (.slc 3 0 1 b10_1 none))) (zq11 : sl 11 = .v (.c (.d (.sc (.int .i64 k11))))) :
    stepE (K5_65 (mm := mm)) (loopK 0 [(0, .keep), (3, .keep), (4, .keep), (5, .keep), (7, .keep), (10, .keep), (11, .keep)] (den (E0 mm) 5 0 (callW (E0 mm)) itW c5_79 none ⟨sl, [.row back3_1.length (rz back3_0 2), .row apart4_1.length (rz apart4_0 2), .row big5_1.length (rz big5_0 2), .cells (enC h3)]⟩)) = (j5_79 l0_0 l0_1 back3_0 back3_1 apart4_0 apart4_1 big5_0 big5_1 i7 b10_1 k11 h3).map (sm en5_65 (sm en5_23 e5)) := by
  simp -implicitDefEqProofs only [j5_79, c5_79_r, (show opsOf c5_79 = _ :: _ from rfl), zq0, zq3, zq4, zq5, zq7, zq10, zq11, setA, setB, za, zb, zc, zd, ze, zf, zg, zh, zi, zj, zk, zl, zm, zn, zo, zp, reduceCtorEq, zE, ↓reduceIte]
  all_goals rfl
def j5_76 (l0_0 : Bool) (l0_1 : List (Bs × Bs)) (back3_0 : Bool) (back3_1 : List (Bs × Bs)) (apart4_0 : Bool) (apart4_1 : List (Bs × Bs)) (big5_0 : Bool) (big5_1 : List (Bs × Bs)) (i7 : Int) (b10_1 : Nat) (k11 : Int) (t103 : Bool) (h3 : List UInt8) : Option ((Bool × List (Bs × Bs) × Bool × List (Bs × Bs) × Bool × List (Bs × Bs) × Bool × List (Bs × Bs) × Int × Nat × Int × List UInt8) ⊕ ((Bool × List (Bs × Bs) × Bool × List (Bs × Bs) × Bool × List (Bs × Bs) × Bool × List (Bs × Bs) × Int) ⊕ R5)) :=
  if t103 = true then
    if 0 ≤ k11 ∧ k11 < (b10_1 : Int) then
      if k11.toNat < h3.length then
        j5_79 l0_0 l0_1 back3_0 back3_1 apart4_0 apart4_1 big5_0 big5_1 i7 b10_1 k11 (h3.set k11.toNat ((h3.getD k11.toNat 0) - (32 : UInt8)))
      else none
    else none
  else
    j5_79 l0_0 l0_1 back3_0 back3_1 apart4_0 apart4_1 big5_0 big5_1 i7 b10_1 k11 h3
theorem j5_76_t (l0_0 : Bool) (l0_1 : List (Bs × Bs)) (back3_0 : Bool) (back3_1 : List (Bs × Bs)) (apart4_0 : Bool) (apart4_1 : List (Bs × Bs)) (big5_0 : Bool) (big5_1 : List (Bs × Bs)) (i7 : Int) (b10_1 : Nat) (k11 : Int) (t103 : Bool) (h3 : List UInt8)  (sl : Nat → AV) (zq0 : sl 0 = .v (.c (.d (.lst l0_0 (enL enSS l0_1))))) (zq3 : sl 3 = .v (.c (.own back3_0 (enL enSS back3_1) 0))) (zq4 : sl 4 = .v (.c (.own apart4_0 (enL enSS apart4_1) 1))) (zq5 : sl 5 = .v (.c (.own big5_0 (enL enSS big5_1) 2))) (zq7 : sl 7 = .v (.c (.d (.sc (.int .i64 i7))))) (zq10 : sl 10 = .v (.c (.slc 3 0 1 b10_1 none))) (zq11 : sl 11 = .v (.c (.d (.sc (.int .i64 k11))))) (zq103 : sl 103 = .v (.c (.d (.sc (.bool t103))))) :
    stepE (K5_65 (mm := mm)) (loopK 0 [(0, .keep), (3, .keep), (4, .keep), (5, .keep), (7, .keep), (10, .keep), (11, .keep)] (seqD (E0 mm) 5 0 (callW (E0 mm)) itW c5_79 (blockD 7 (den (E0 mm) 5 0 (callW (E0 mm)) itW c5_76 none ⟨sl, [.row back3_1.length (rz back3_0 2), .row apart4_1.length (rz apart4_0 2), .row big5_1.length (rz big5_0 2), .cells (enC h3)]⟩)))) = (j5_76 l0_0 l0_1 back3_0 back3_1 apart4_0 apart4_1 big5_0 big5_1 i7 b10_1 k11 t103 h3).map (sm en5_65 (sm en5_23 e5)) := by
  simp -implicitDefEqProofs only [j5_76, (show c5_76 = Code.cond _ c5_77 c5_78 from rfl), zq0, zq3, zq4, zq5, zq7, zq10, zq11, zq103, setA, setB, za, zb, zc, zd, ze, zf, zg, zh, zi, zj, zk, zl, zm, zn, zo, zp, reduceCtorEq, zE, ↓reduceIte]
  refine brB (fun yc25 => ?_) (fun yc25 => ?_)
  · simp -implicitDefEqProofs only [c5_77_r, (show opsOf c5_77 = _ :: _ from rfl), Tryd.underlying36, sz5, zq0, zq3, zq4, zq5, zq7, zq10, zq11, zq103, yc25, setA, setB, za, zb, zc, zd, ze, zf, zg, zh, zi, zj, zk, zl, zm, zn, zo, zp, reduceCtorEq, zE, ↓reduceIte]
    refine brP (fun yc26 => ?_) (fun yc26 => ?_)
    · have yd27 : k11.toNat < b10_1 := by omega
      simp -implicitDefEqProofs only [sz5, ag5, enC_length, zq0, zq3, zq4, zq5, zq7, zq10, zq11, zq103, yc25, yc26, yd27, setA, setB, za, zb, zc, zd, ze, zf, zg, zh, zi, zj, zk, zl, zm, zn, zo, zp, reduceCtorEq, zE, ↓reduceIte]
      refine brP (fun yc28 => ?_) (fun yc28 => ?_)
      · simp -implicitDefEqProofs only [(enC_load h3 k11.toNat yc28), Tryd.underlying36, sz5, enC_length, enC_wr, zq0, zq3, zq4, zq5, zq7, zq10, zq11, zq103, yc25, yc26, yd27, yc28, setA, setB, za, zb, zc, zd, ze, zf, zg, zh, zi, zj, zk, zl, zm, zn, zo, zp, reduceCtorEq, zE, ↓reduceIte]
        exact j5_79_t l0_0 l0_1 back3_0 back3_1 apart4_0 apart4_1 big5_0 big5_1 i7 b10_1 k11 (h3.set k11.toNat ((h3.getD k11.toNat 0) - (32 : UInt8))) _ (by exact zq0) (by exact zq3) (by exact zq4) (by exact zq5) (by exact zq7) (by exact zq10) (by exact zq11)
      · rw [if_neg yc28]; rfl
    · rw [if_neg yc26]; rfl
  · simp -implicitDefEqProofs only [c5_78_e, zq0, zq3, zq4, zq5, zq7, zq10, zq11, zq103, yc25, setA, setB, za, zb, zc, zd, ze, zf, zg, zh, zi, zj, zk, zl, zm, zn, zo, zp, reduceCtorEq, zE, ↓reduceIte]
    exact j5_79_t l0_0 l0_1 back3_0 back3_1 apart4_0 apart4_1 big5_0 big5_1 i7 b10_1 k11 h3 _ (by exact zq0) (by exact zq3) (by exact zq4) (by exact zq5) (by exact zq7) (by exact zq10) (by exact zq11)
def j5_81 (l0_0 : Bool) (l0_1 : List (Bs × Bs)) (back3_0 : Bool) (back3_1 : List (Bs × Bs)) (apart4_0 : Bool) (apart4_1 : List (Bs × Bs)) (big5_0 : Bool) (big5_1 : List (Bs × Bs)) (i7 : Int) : Option ((Bool × List (Bs × Bs) × Bool × List (Bs × Bs) × Bool × List (Bs × Bs) × Bool × List (Bs × Bs) × Int) ⊕ R5) :=
  some (.inl (l0_0, l0_1, back3_0, back3_1, apart4_0, apart4_1, big5_0, big5_1, (w64 (i7 + 1))))
theorem j5_81_t (l0_0 : Bool) (l0_1 : List (Bs × Bs)) (back3_0 : Bool) (back3_1 : List (Bs × Bs)) (apart4_0 : Bool) (apart4_1 : List (Bs × Bs)) (big5_0 : Bool) (big5_1 : List (Bs × Bs)) (i7 : Int) (g3 : Ob) (sl : Nat → AV) (zq0 : sl 0 = .v (.c (.d (.lst l0_0 (enL enSS l0_1))))) (zq3 : sl 3 = .v (.c (.own back3_0 (enL enSS back3_1) 0))) (zq4 : sl 4 = .v (.c (.own apart4_0 (enL enSS apart4_1) 1))) (zq5 : sl 5 = .v (.c (.own big5_0 (enL enSS big5_1) 2))) (zq7 : sl 7 = .v (.c (.d (.sc (.int .i64 i7))))) :
    stepE (K5_23 (mm := mm)) (loopK 0 [(0, .keep), (3, .keep), (4, .own), (5, .own), (7, .keep)] (den (E0 mm) 5 0 (callW (E0 mm)) itW c5_81 none ⟨sl, [.row back3_1.length (rz back3_0 2), .row apart4_1.length (rz apart4_0 2), .row big5_1.length (rz big5_0 2), g3]⟩)) = (j5_81 l0_0 l0_1 back3_0 back3_1 apart4_0 apart4_1 big5_0 big5_1 i7).map (sm en5_23 e5) := by
  simp -implicitDefEqProofs only [j5_81, c5_81_r, (show opsOf c5_81 = _ :: _ from rfl), zq0, zq3, zq4, zq5, zq7, setA, setB, za, zb, zc, zd, ze, zf, zg, zh, zi, zj, zk, zl, zm, zn, zo, zp, reduceCtorEq, zE, ↓reduceIte]
  all_goals rfl
def j5_80 (l0_0 : Bool) (l0_1 : List (Bs × Bs)) (back3_0 : Bool) (back3_1 : List (Bs × Bs)) (apart4_0 : Bool) (apart4_1 : List (Bs × Bs)) (big5_0 : Bool) (big5_1 : List (Bs × Bs)) (i7 : Int) (b10_1 : Nat) (h3 : List UInt8) : Option ((Bool × List (Bs × Bs) × Bool × List (Bs × Bs) × Bool × List (Bs × Bs) × Bool × List (Bs × Bs) × Int) ⊕ R5) :=
  if b10_1 ≤ h3.length then
    if (big5_1.length + 1) * 32 ≤ 140737488355328 then
      j5_81 l0_0 l0_1 back3_0 back3_1 apart4_0 apart4_1 false (big5_1 ++ ([(([67, 97, 99, 104, 101, 45, 67, 111, 110, 116, 114, 111, 108] : Bs), (h3.take b10_1))] : List (Bs × Bs))) i7
    else none
  else none
theorem j5_80_t (l0_0 : Bool) (l0_1 : List (Bs × Bs)) (back3_0 : Bool) (back3_1 : List (Bs × Bs)) (apart4_0 : Bool) (apart4_1 : List (Bs × Bs)) (big5_0 : Bool) (big5_1 : List (Bs × Bs)) (i7 : Int) (b10_1 : Nat) (h3 : List UInt8)  (sl : Nat → AV) (zq0 : sl 0 = .v (.c (.d (.lst l0_0 (enL enSS l0_1))))) (zq3 : sl 3 = .v (.c (.own back3_0 (enL enSS back3_1) 0))) (zq4 : sl 4 = .v (.c (.own apart4_0 (enL enSS apart4_1) 1))) (zq5 : sl 5 = .v (.c (.own big5_0 (enL enSS big5_1) 2))) (zq7 : sl 7 = .v (.c (.d (.sc (.int .i64 i7))))) (zq10 : sl 10 = .v (.c (.slc 3 0 1 b10_1 none))) :
    stepE (K5_23 (mm := mm)) (loopK 0 [(0, .keep), (3, .keep), (4, .own), (5, .own), (7, .keep)] (seqD (E0 mm) 5 0 (callW (E0 mm)) itW c5_81 (blockD 3 (den (E0 mm) 5 0 (callW (E0 mm)) itW c5_80 none ⟨sl, [.row back3_1.length (rz back3_0 2), .row apart4_1.length (rz apart4_0 2), .row big5_1.length (rz big5_0 2), .cells (enC h3)]⟩)))) = (j5_80 l0_0 l0_1 back3_0 back3_1 apart4_0 apart4_1 big5_0 big5_1 i7 b10_1 h3).map (sm en5_23 e5) := by
  simp -implicitDefEqProofs only [j5_80, c5_80_r, (show opsOf c5_80 = _ :: _ from rfl), Tryd.underlying36, Tryd.underlying9, Tryd.underlying5, enC_length, enC_take, mapM_enC, zq0, zq3, zq4, zq5, zq7, zq10, setA, setB, za, zb, zc, zd, ze, zf, zg, zh, zi, zj, zk, zl, zm, zn, zo, zp, reduceCtorEq, zE, ↓reduceIte]
  refine brP (fun yc29 => ?_) (fun yc29 => ?_)
  · simp -implicitDefEqProofs only [enC_length, enC_take, mapM_enC, (chunk_enD b10_1 h3 yc29), Tryd.underlying33, zc33, sz9, Tryd.underlying22, sz33, hd78, nv79, rw80, ns70, ap22, zq0, zq3, zq4, zq5, zq7, zq10, yc29, setA, setB, za, zb, zc, zd, ze, zf, zg, zh, zi, zj, zk, zl, zm, zn, zo, zp, reduceCtorEq, zE, ↓reduceIte]
    refine brP (fun yc30 => ?_) (fun yc30 => ?_)
    · simp -implicitDefEqProofs only [zq0, zq3, zq4, zq5, zq7, zq10, yc29, yc30, setA, setB, za, zb, zc, zd, ze, zf, zg, zh, zi, zj, zk, zl, zm, zn, zo, zp, reduceCtorEq, zE, ↓reduceIte]
      exact j5_81_t l0_0 l0_1 back3_0 back3_1 apart4_0 apart4_1 false (big5_1 ++ ([(([67, 97, 99, 104, 101, 45, 67, 111, 110, 116, 114, 111, 108] : Bs), (h3.take b10_1))] : List (Bs × Bs))) i7 _ _ (by exact zq0) (by exact zq3) (by exact zq4) (by rfl) (by exact zq7)
    · rw [if_neg yc30]; rfl
  · rw [if_neg yc29]; rfl
def s5_65 (l0_0 : Bool) (l0_1 : List (Bs × Bs)) (back3_0 : Bool) (back3_1 : List (Bs × Bs)) (apart4_0 : Bool) (apart4_1 : List (Bs × Bs)) (big5_0 : Bool) (big5_1 : List (Bs × Bs)) (i7 : Int) (b10_1 : Nat) (k11 : Int) (h3 : List UInt8) : Option ((Bool × List (Bs × Bs) × Bool × List (Bs × Bs) × Bool × List (Bs × Bs) × Bool × List (Bs × Bs) × Int × Nat × Int × List UInt8) ⊕ ((Bool × List (Bs × Bs) × Bool × List (Bs × Bs) × Bool × List (Bs × Bs) × Bool × List (Bs × Bs) × Int) ⊕ R5)) :=
  if (decide (k11 < (b10_1 : Int))) = true then
    if 0 ≤ k11 ∧ k11 < (b10_1 : Int) then
      if k11.toNat < h3.length then
        if (decide ((97 : UInt8) ≤ (h3.getD k11.toNat 0))) = true then
          j5_76 l0_0 l0_1 back3_0 back3_1 apart4_0 apart4_1 big5_0 big5_1 i7 b10_1 k11 (decide ((h3.getD k11.toNat 0) ≤ (122 : UInt8))) h3
        else
          j5_76 l0_0 l0_1 back3_0 back3_1 apart4_0 apart4_1 big5_0 big5_1 i7 b10_1 k11 false h3
      else none
    else none
  else
    (j5_80 l0_0 l0_1 back3_0 back3_1 apart4_0 apart4_1 big5_0 big5_1 i7 b10_1 h3).map .inr
theorem s5_65_t (l0_0 : Bool) (l0_1 : List (Bs × Bs)) (back3_0 : Bool) (back3_1 : List (Bs × Bs)) (apart4_0 : Bool) (apart4_1 : List (Bs × Bs)) (big5_0 : Bool) (big5_1 : List (Bs × Bs)) (i7 : Int) (b10_1 : Nat) (k11 : Int) (h3 : List UInt8) :
    stepE (K5_65 (mm := mm)) (loopF (E0 mm) 5 0 (callW (E0 mm)) itW c5_66 [(0, .keep), (3, .keep), (4, .keep), (5, .keep), (7, .keep), (10, .keep), (11, .keep)] (none, [.v (.c (.d (.lst l0_0 (enL enSS l0_1)))), .v (.c (.own back3_0 (enL enSS back3_1) 0)), .v (.c (.own apart4_0 (enL enSS apart4_1) 1)), .v (.c (.own big5_0 (enL enSS big5_1) 2)), .v (.c (.d (.sc (.int .i64 i7)))), .v (.c (.slc 3 0 1 b10_1 none)), .v (.c (.d (.sc (.int .i64 k11))))], [.row back3_1.length (rz back3_0 2), .row apart4_1.length (rz apart4_0 2), .row big5_1.length (rz big5_0 2), .cells (enC h3)])) = (s5_65 l0_0 l0_1 back3_0 back3_1 apart4_0 apart4_1 big5_0 big5_1 i7 b10_1 k11 h3).map (sm en5_65 (sm en5_23 e5)) := by
  simp -implicitDefEqProofs only [s5_65, loopF_eq, c5_66_e, c5_67_e, c5_68_r, (show opsOf c5_68 = _ :: _ from rfl), Tryd.underlying36, (show c5_69 = Code.cond _ c5_70 c5_71 from rfl), setA, setB, za, zb, zc, zd, ze, zf, zg, zh, zi, zj, zk, zl, zm, zn, zo, zp, reduceCtorEq, zE, ↓reduceIte]
  refine brB (fun yc20 => ?_) (fun yc20 => ?_)
  · simp -implicitDefEqProofs only [c5_70_e, c5_72_e, c5_73_e, c5_74_e, c5_75_r, (show opsOf c5_75 = _ :: _ from rfl), Tryd.underlying36, sz5, yc20, setA, setB, za, zb, zc, zd, ze, zf, zg, zh, zi, zj, zk, zl, zm, zn, zo, zp, reduceCtorEq, zE, ↓reduceIte]
    refine brP (fun yc21 => ?_) (fun yc21 => ?_)
    · have yd22 : k11.toNat < b10_1 := by omega
      simp -implicitDefEqProofs only [sz5, ag5, enC_length, yc20, yc21, yd22, setA, setB, za, zb, zc, zd, ze, zf, zg, zh, zi, zj, zk, zl, zm, zn, zo, zp, reduceCtorEq, zE, ↓reduceIte]
      refine brP (fun yc23 => ?_) (fun yc23 => ?_)
      · simp -implicitDefEqProofs only [(enC_load h3 k11.toNat yc23), yc20, yc21, yd22, yc23, setA, setB, za, zb, zc, zd, ze, zf, zg, zh, zi, zj, zk, zl, zm, zn, zo, zp, reduceCtorEq, zE, ↓reduceIte]
        refine brB (fun yc24 => ?_) (fun yc24 => ?_)
        · simp -implicitDefEqProofs only [Tryd.underlying36, sz5, ag5, enC_length, (enC_load h3 k11.toNat yc23), yc20, yc21, yd22, yc23, yc24, setA, setB, za, zb, zc, zd, ze, zf, zg, zh, zi, zj, zk, zl, zm, zn, zo, zp, reduceCtorEq, zE, ↓reduceIte]
          exact j5_76_t l0_0 l0_1 back3_0 back3_1 apart4_0 apart4_1 big5_0 big5_1 i7 b10_1 k11 (decide ((h3.getD k11.toNat 0) ≤ (122 : UInt8))) h3 _ (by rfl) (by rfl) (by rfl) (by rfl) (by rfl) (by rfl) (by rfl) (by rfl)
        · simp -implicitDefEqProofs only [yc20, yc21, yd22, yc23, yc24, setA, setB, za, zb, zc, zd, ze, zf, zg, zh, zi, zj, zk, zl, zm, zn, zo, zp, reduceCtorEq, zE, ↓reduceIte]
          exact j5_76_t l0_0 l0_1 back3_0 back3_1 apart4_0 apart4_1 big5_0 big5_1 i7 b10_1 k11 false h3 _ (by rfl) (by rfl) (by rfl) (by rfl) (by rfl) (by rfl) (by rfl) (by rfl)
      · rw [if_neg yc23]; rfl
    · rw [if_neg yc21]; rfl
  · simp -implicitDefEqProofs only [c5_71_e, K5_65, yc20, setA, setB, za, zb, zc, zd, ze, zf, zg, zh, zi, zj, zk, zl, zm, zn, zo, zp, reduceCtorEq, zE, ↓reduceIte]
    exact mi (j5_80_t l0_0 l0_1 back3_0 back3_1 apart4_0 apart4_1 big5_0 big5_1 i7 b10_1 h3 _ (by rfl) (by rfl) (by rfl) (by rfl) (by rfl) (by rfl))
def l5_65 (l0_0 : Bool) (l0_1 : List (Bs × Bs)) (back3_0 : Bool) (back3_1 : List (Bs × Bs)) (apart4_0 : Bool) (apart4_1 : List (Bs × Bs)) (big5_0 : Bool) (big5_1 : List (Bs × Bs)) (i7 : Int) (b10_1 : Nat) (k11 : Int) (h3 : List UInt8) : Option ((Bool × List (Bs × Bs) × Bool × List (Bs × Bs) × Bool × List (Bs × Bs) × Bool × List (Bs × Bs) × Int) ⊕ R5) := iter (fun x : (Bool × List (Bs × Bs) × Bool × List (Bs × Bs) × Bool × List (Bs × Bs) × Bool × List (Bs × Bs) × Int × Nat × Int × List UInt8) => s5_65 x.1 x.2.1 x.2.2.1 x.2.2.2.1 x.2.2.2.2.1 x.2.2.2.2.2.1 x.2.2.2.2.2.2.1 x.2.2.2.2.2.2.2.1 x.2.2.2.2.2.2.2.2.1 x.2.2.2.2.2.2.2.2.2.1 x.2.2.2.2.2.2.2.2.2.2.1 x.2.2.2.2.2.2.2.2.2.2.2) (l0_0, l0_1, back3_0, back3_1, apart4_0, apart4_1, big5_0, big5_1, i7, b10_1, k11, h3)
theorem l5_65_t (l0_0 : Bool) (l0_1 : List (Bs × Bs)) (back3_0 : Bool) (back3_1 : List (Bs × Bs)) (apart4_0 : Bool) (apart4_1 : List (Bs × Bs)) (big5_0 : Bool) (big5_1 : List (Bs × Bs)) (i7 : Int) (b10_1 : Nat) (k11 : Int) (h3 : List UInt8) : stepE (K5_23 (mm := mm)) (loopK 0 [(0, .keep), (3, .keep), (4, .own), (5, .own), (7, .keep)] (seqD (E0 mm) 5 0 (callW (E0 mm)) itW c5_81 (blockD 3 (seqD (E0 mm) 5 0 (callW (E0 mm)) itW c5_80 (blockD 6 (itW (loopF (E0 mm) 5 0 (callW (E0 mm)) itW c5_66 [(0, .keep), (3, .keep), (4, .keep), (5, .keep), (7, .keep), (10, .keep), (11, .keep)]) (none, [.v (.c (.d (.lst l0_0 (enL enSS l0_1)))), .v (.c (.own back3_0 (enL enSS back3_1) 0)), .v (.c (.own apart4_0 (enL enSS apart4_1) 1)), .v (.c (.own big5_0 (enL enSS big5_1) 2)), .v (.c (.d (.sc (.int .i64 i7)))), .v (.c (.slc 3 0 1 b10_1 none)), .v (.c (.d (.sc (.int .i64 k11))))], [.row back3_1.length (rz back3_0 2), .row apart4_1.length (rz apart4_0 2), .row big5_1.length (rz big5_0 2), .cells (enC h3)]))))))) = (l5_65 l0_0 l0_1 back3_0 back3_1 apart4_0 apart4_1 big5_0 big5_1 i7 b10_1 k11 h3).map (sm en5_23 e5) :=
  it_sim (K := (K5_65 (mm := mm))) rfl (enc := en5_65) (fun x => s5_65_t x.1 x.2.1 x.2.2.1 x.2.2.2.1 x.2.2.2.2.1 x.2.2.2.2.2.1 x.2.2.2.2.2.2.1 x.2.2.2.2.2.2.2.1 x.2.2.2.2.2.2.2.2.1 x.2.2.2.2.2.2.2.2.2.1 x.2.2.2.2.2.2.2.2.2.2.1 x.2.2.2.2.2.2.2.2.2.2.2) (l0_0, l0_1, back3_0, back3_1, apart4_0, apart4_1, big5_0, big5_1, i7, b10_1, k11, h3)
def j5_59 (l0_0 : Bool) (l0_1 : List (Bs × Bs)) (back3_0 : Bool) (back3_1 : List (Bs × Bs)) (apart4_0 : Bool) (apart4_1 : List (Bs × Bs)) (big5_0 : Bool) (big5_1 : List (Bs × Bs)) (i7 : Int) : Option ((Bool × List (Bs × Bs) × Bool × List (Bs × Bs) × Bool × List (Bs × Bs) × Bool × List (Bs × Bs) × Int) ⊕ R5) :=
  if 0 ≤ i7 ∧ i7 < (l0_1.length : Int) then
    l5_65 l0_0 l0_1 back3_0 back3_1 apart4_0 apart4_1 big5_0 big5_1 i7 (((l0_1.getD i7.toNat default).2).length) (0 : Int) ((l0_1.getD i7.toNat default).2)
  else none
theorem j5_59_t (l0_0 : Bool) (l0_1 : List (Bs × Bs)) (back3_0 : Bool) (back3_1 : List (Bs × Bs)) (apart4_0 : Bool) (apart4_1 : List (Bs × Bs)) (big5_0 : Bool) (big5_1 : List (Bs × Bs)) (i7 : Int) (g3 : Ob) (sl : Nat → AV) (zq0 : sl 0 = .v (.c (.d (.lst l0_0 (enL enSS l0_1))))) (zq3 : sl 3 = .v (.c (.own back3_0 (enL enSS back3_1) 0))) (zq4 : sl 4 = .v (.c (.own apart4_0 (enL enSS apart4_1) 1))) (zq5 : sl 5 = .v (.c (.own big5_0 (enL enSS big5_1) 2))) (zq7 : sl 7 = .v (.c (.d (.sc (.int .i64 i7))))) :
    stepE (K5_23 (mm := mm)) (loopK 0 [(0, .keep), (3, .keep), (4, .own), (5, .own), (7, .keep)] (seqD (E0 mm) 5 0 (callW (E0 mm)) itW c5_81 (blockD 3 (den (E0 mm) 5 0 (callW (E0 mm)) itW c5_59 none ⟨sl, [.row back3_1.length (rz back3_0 2), .row apart4_1.length (rz apart4_0 2), .row big5_1.length (rz big5_0 2), g3]⟩)))) = (j5_59 l0_0 l0_1 back3_0 back3_1 apart4_0 apart4_1 big5_0 big5_1 i7).map (sm en5_23 e5) := by
  simp -implicitDefEqProofs only [j5_59, c5_59_e, c5_60_r, (show opsOf c5_60 = _ :: _ from rfl), Tryd.underlying22, sz33, enSS_a, zq0, zq3, zq4, zq5, zq7, setA, setB, za, zb, zc, zd, ze, zf, zg, zh, zi, zj, zk, zl, zm, zn, zo, zp, reduceCtorEq, zE, ↓reduceIte]
  refine brP (fun yc18 => ?_) (fun yc18 => ?_)
  · have yd19 : i7.toNat < l0_1.length := by omega
    simp -implicitDefEqProofs only [(enL_get enSS l0_1 i7.toNat yd19), enSS_e, Tryd.underlying33, sz9, ag9, Tryd.underlying9, Tryd.underlying36, Tryd.underlying5, hd77, enC_S, S_size, c5_61_e, c5_62_e, c5_63_r, (show opsOf c5_63 = _ :: _ from rfl), c5_64_e, c5_65_l, zq0, zq3, zq4, zq5, zq7, yc18, yd19, setA, setB, za, zb, zc, zd, ze, zf, zg, zh, zi, zj, zk, zl, zm, zn, zo, zp, reduceCtorEq, zE, ↓reduceIte]
    exact l5_65_t l0_0 l0_1 back3_0 back3_1 apart4_0 apart4_1 big5_0 big5_1 i7 (((l0_1.getD i7.toNat default).2).length) (0 : Int) ((l0_1.getD i7.toNat default).2)
  · rw [if_neg yc18]; rfl
def s5_48 (l0_0 : Bool) (l0_1 : List (Bs × Bs)) (back3_0 : Bool) (back3_1 : List (Bs × Bs)) (apart4_0 : Bool) (apart4_1 : List (Bs × Bs)) (big5_0 : Bool) (big5_1 : List (Bs × Bs)) (i7 : Int) (x8_0 : Bool) (x8_1 : List Bs) (k9 : Int) : Option ((Bool × List (Bs × Bs) × Bool × List (Bs × Bs) × Bool × List (Bs × Bs) × Bool × List (Bs × Bs) × Int × Bool × List Bs × Int) ⊕ ((Bool × List (Bs × Bs) × Bool × List (Bs × Bs) × Bool × List (Bs × Bs) × Bool × List (Bs × Bs) × Int) ⊕ R5)) :=
  if (decide (0 ≤ k9)) = true then
    if 0 ≤ k9 ∧ k9 < (x8_1.length : Int) then
      if (apart4_1.length + 1) * 32 ≤ 140737488355328 then
        some (.inl (l0_0, l0_1, back3_0, back3_1, false, (apart4_1 ++ ([(([99, 97, 99, 104, 101, 45, 67, 79, 78, 84, 82, 79, 76] : Bs), (x8_1.getD k9.toNat default))] : List (Bs × Bs))), big5_0, big5_1, i7, x8_0, x8_1, (w64 (k9 - 1))))
      else none
    else none
  else
    (j5_59 l0_0 l0_1 back3_0 back3_1 apart4_0 apart4_1 big5_0 big5_1 i7).map .inr
theorem s5_48_t (l0_0 : Bool) (l0_1 : List (Bs × Bs)) (back3_0 : Bool) (back3_1 : List (Bs × Bs)) (apart4_0 : Bool) (apart4_1 : List (Bs × Bs)) (big5_0 : Bool) (big5_1 : List (Bs × Bs)) (i7 : Int) (x8_0 : Bool) (x8_1 : List Bs) (k9 : Int) :
    stepE (K5_48 (mm := mm)) (loopF (E0 mm) 5 0 (callW (E0 mm)) itW c5_49 [(0, .keep), (3, .keep), (4, .own), (5, .keep), (7, .keep), (8, .keep), (9, .keep)] (none, [.v (.c (.d (.lst l0_0 (enL enSS l0_1)))), .v (.c (.own back3_0 (enL enSS back3_1) 0)), .v (.c (.own apart4_0 (enL enSS apart4_1) 1)), .v (.c (.own big5_0 (enL enSS big5_1) 2)), .v (.c (.d (.sc (.int .i64 i7)))), .v (.c (.own x8_0 (enL enS x8_1) 3)), .v (.c (.d (.sc (.int .i64 k9))))], [.row back3_1.length (rz back3_0 2), .row apart4_1.length (rz apart4_0 2), .row big5_1.length (rz big5_0 2), .row x8_1.length (rz x8_0 1)])) = (s5_48 l0_0 l0_1 back3_0 back3_1 apart4_0 apart4_1 big5_0 big5_1 i7 x8_0 x8_1 k9).map (sm en5_48 (sm en5_23 e5)) := by
  simp -implicitDefEqProofs only [s5_48, loopF_eq, c5_49_e, c5_50_e, c5_51_r, (show opsOf c5_51 = _ :: _ from rfl), (show c5_52 = Code.cond _ c5_53 c5_54 from rfl), setA, setB, za, zb, zc, zd, ze, zf, zg, zh, zi, zj, zk, zl, zm, zn, zo, zp, reduceCtorEq, zE, ↓reduceIte]
  refine brB (fun yc14 => ?_) (fun yc14 => ?_)
  · simp -implicitDefEqProofs only [c5_53_e, c5_55_e, c5_56_e, c5_57_r, (show opsOf c5_57 = _ :: _ from rfl), Tryd.underlying30, sz9, enS_a, yc14, setA, setB, za, zb, zc, zd, ze, zf, zg, zh, zi, zj, zk, zl, zm, zn, zo, zp, reduceCtorEq, zE, ↓reduceIte]
    refine brP (fun yc15 => ?_) (fun yc15 => ?_)
    · have yd16 : k9.toNat < x8_1.length := by omega
      simp -implicitDefEqProofs only [(enL_get enS x8_1 k9.toNat yd16), enS_e, sz9, ag9, Tryd.underlying33, zc33, Tryd.underlying22, sz33, hd74, nv75, rw76, ns70, ap22, yc14, yc15, yd16, setA, setB, za, zb, zc, zd, ze, zf, zg, zh, zi, zj, zk, zl, zm, zn, zo, zp, reduceCtorEq, zE, ↓reduceIte]
      refine brP (fun yc17 => ?_) (fun yc17 => ?_)
      · simp -implicitDefEqProofs only [c5_58_r, (show opsOf c5_58 = _ :: _ from rfl), yc14, yc15, yd16, yc17, setA, setB, za, zb, zc, zd, ze, zf, zg, zh, zi, zj, zk, zl, zm, zn, zo, zp, reduceCtorEq, zE, ↓reduceIte]
        all_goals rfl
      · rw [if_neg yc17]; rfl
    · rw [if_neg yc15]; rfl
  · simp -implicitDefEqProofs only [c5_54_e, K5_48, yc14, setA, setB, za, zb, zc, zd, ze, zf, zg, zh, zi, zj, zk, zl, zm, zn, zo, zp, reduceCtorEq, zE, ↓reduceIte]
    exact mi (j5_59_t l0_0 l0_1 back3_0 back3_1 apart4_0 apart4_1 big5_0 big5_1 i7 _ _ (by rfl) (by rfl) (by rfl) (by rfl) (by rfl))
def l5_48 (l0_0 : Bool) (l0_1 : List (Bs × Bs)) (back3_0 : Bool) (back3_1 : List (Bs × Bs)) (apart4_0 : Bool) (apart4_1 : List (Bs × Bs)) (big5_0 : Bool) (big5_1 : List (Bs × Bs)) (i7 : Int) (x8_0 : Bool) (x8_1 : List Bs) (k9 : Int) : Option ((Bool × List (Bs × Bs) × Bool × List (Bs × Bs) × Bool × List (Bs × Bs) × Bool × List (Bs × Bs) × Int) ⊕ R5) := iter (fun x : (Bool × List (Bs × Bs) × Bool × List (Bs × Bs) × Bool × List (Bs × Bs) × Bool × List (Bs × Bs) × Int × Bool × List Bs × Int) => s5_48 x.1 x.2.1 x.2.2.1 x.2.2.2.1 x.2.2.2.2.1 x.2.2.2.2.2.1 x.2.2.2.2.2.2.1 x.2.2.2.2.2.2.2.1 x.2.2.2.2.2.2.2.2.1 x.2.2.2.2.2.2.2.2.2.1 x.2.2.2.2.2.2.2.2.2.2.1 x.2.2.2.2.2.2.2.2.2.2.2) (l0_0, l0_1, back3_0, back3_1, apart4_0, apart4_1, big5_0, big5_1, i7, x8_0, x8_1, k9)
theorem l5_48_t (l0_0 : Bool) (l0_1 : List (Bs × Bs)) (back3_0 : Bool) (back3_1 : List (Bs × Bs)) (apart4_0 : Bool) (apart4_1 : List (Bs × Bs)) (big5_0 : Bool) (big5_1 : List (Bs × Bs)) (i7 : Int) (x8_0 : Bool) (x8_1 : List Bs) (k9 : Int) : stepE (K5_23 (mm := mm)) (loopK 0 [(0, .keep), (3, .keep), (4, .own), (5, .own), (7, .keep)] (seqD (E0 mm) 5 0 (callW (E0 mm)) itW c5_81 (blockD 3 (seqD (E0 mm) 5 0 (callW (E0 mm)) itW c5_59 (blockD 4 (itW (loopF (E0 mm) 5 0 (callW (E0 mm)) itW c5_49 [(0, .keep), (3, .keep), (4, .own), (5, .keep), (7, .keep), (8, .keep), (9, .keep)]) (none, [.v (.c (.d (.lst l0_0 (enL enSS l0_1)))), .v (.c (.own back3_0 (enL enSS back3_1) 0)), .v (.c (.own apart4_0 (enL enSS apart4_1) 1)), .v (.c (.own big5_0 (enL enSS big5_1) 2)), .v (.c (.d (.sc (.int .i64 i7)))), .v (.c (.own x8_0 (enL enS x8_1) 3)), .v (.c (.d (.sc (.int .i64 k9))))], [.row back3_1.length (rz back3_0 2), .row apart4_1.length (rz apart4_0 2), .row big5_1.length (rz big5_0 2), .row x8_1.length (rz x8_0 1)]))))))) = (l5_48 l0_0 l0_1 back3_0 back3_1 apart4_0 apart4_1 big5_0 big5_1 i7 x8_0 x8_1 k9).map (sm en5_23 e5) :=
  it_sim (K := (K5_48 (mm := mm))) rfl (enc := en5_48) (fun x => s5_48_t x.1 x.2.1 x.2.2.1 x.2.2.2.1 x.2.2.2.2.1 x.2.2.2.2.2.1 x.2.2.2.2.2.2.1 x.2.2.2.2.2.2.2.1 x.2.2.2.2.2.2.2.2.1 x.2.2.2.2.2.2.2.2.2.1 x.2.2.2.2.2.2.2.2.2.2.1 x.2.2.2.2.2.2.2.2.2.2.2) (l0_0, l0_1, back3_0, back3_1, apart4_0, apart4_1, big5_0, big5_1, i7, x8_0, x8_1, k9)
def j5_81v1 (l0_0 : Bool) (l0_1 : List (Bs × Bs)) (back3_0 : Bool) (back3_1 : List (Bs × Bs)) (apart4_0 : Bool) (apart4_1 : List (Bs × Bs)) (big5_0 : Bool) (big5_1 : List (Bs × Bs)) (i7 : Int) : Option ((Bool × List (Bs × Bs) × Bool × List (Bs × Bs) × Bool × List (Bs × Bs) × Bool × List (Bs × Bs) × Int) ⊕ R5) :=
  some (.inl (l0_0, l0_1, back3_0, back3_1, apart4_0, apart4_1, big5_0, big5_1, (w64 (i7 + 1))))
theorem j5_81v1_t (l0_0 : Bool) (l0_1 : List (Bs × Bs)) (back3_0 : Bool) (back3_1 : List (Bs × Bs)) (apart4_0 : Bool) (apart4_1 : List (Bs × Bs)) (big5_0 : Bool) (big5_1 : List (Bs × Bs)) (i7 : Int)  (sl : Nat → AV) (zq0 : sl 0 = .v (.c (.d (.lst l0_0 (enL enSS l0_1))))) (zq3 : sl 3 = .v (.c (.own back3_0 (enL enSS back3_1) 0))) (zq4 : sl 4 = .v (.c (.own apart4_0 (enL enSS apart4_1) 1))) (zq5 : sl 5 = .v (.c (.own big5_0 (enL enSS big5_1) 2))) (zq7 : sl 7 = .v (.c (.d (.sc (.int .i64 i7))))) :
    stepE (K5_23 (mm := mm)) (loopK 0 [(0, .keep), (3, .keep), (4, .own), (5, .own), (7, .keep)] (den (E0 mm) 5 0 (callW (E0 mm)) itW c5_81 none ⟨sl, [.row back3_1.length (rz back3_0 2), .row apart4_1.length (rz apart4_0 2), .row big5_1.length (rz big5_0 2)]⟩)) = (j5_81v1 l0_0 l0_1 back3_0 back3_1 apart4_0 apart4_1 big5_0 big5_1 i7).map (sm en5_23 e5) := by
  simp -implicitDefEqProofs only [j5_81v1, c5_81_r, (show opsOf c5_81 = _ :: _ from rfl), zq0, zq3, zq4, zq5, zq7, setA, setB, za, zb, zc, zd, ze, zf, zg, zh, zi, zj, zk, zl, zm, zn, zo, zp, reduceCtorEq, zE, ↓reduceIte]
  all_goals rfl
def j5_82 (l0_0 : Bool) (l0_1 : List (Bs × Bs)) (back3_0 : Bool) (back3_1 : List (Bs × Bs)) (apart4_0 : Bool) (apart4_1 : List (Bs × Bs)) (big5_0 : Bool) (big5_1 : List (Bs × Bs)) : Option R5 :=
  (m7 l0_0 l0_1).bind fun yr34 =>
    (m9 l0_0 l0_1).bind fun yr36 =>
      (m7 back3_0 back3_1).bind fun yr38 =>
        if ((((((((((yr38.1 == yr34.1) && (yr38.2.1 == yr34.2.1)) && (yr38.2.2.1 == yr34.2.2.1)) && (yr38.2.2.2.1 == yr34.2.2.2.1)) && (yr38.2.2.2.2.1 == yr34.2.2.2.2.1)) && (yr38.2.2.2.2.2.1 == yr34.2.2.2.2.2.1)) && (yr38.2.2.2.2.2.2.1 == yr34.2.2.2.2.2.2.1)) && (yr38.2.2.2.2.2.2.2.1 == yr34.2.2.2.2.2.2.2.1)) && (yr38.2.2.2.2.2.2.2.2.1 == yr34.2.2.2.2.2.2.2.2.1)) && (yr38.2.2.2.2.2.2.2.2.2 == yr34.2.2.2.2.2.2.2.2.2)) = true then
          (m9 back3_0 back3_1).bind fun yr41 =>
            if ((((((((((yr41.1 == yr36.1) && (yr41.2.1 == yr36.2.1)) && (yr41.2.2.1 == yr36.2.2.1)) && (yr41.2.2.2.1 == yr36.2.2.2.1)) && (yr41.2.2.2.2.1 == yr36.2.2.2.2.1)) && (yr41.2.2.2.2.2.1 == yr36.2.2.2.2.2.1)) && (yr41.2.2.2.2.2.2.1 == yr36.2.2.2.2.2.2.1)) && (yr41.2.2.2.2.2.2.2.1 == yr36.2.2.2.2.2.2.2.1)) && (yr41.2.2.2.2.2.2.2.2.1 == yr36.2.2.2.2.2.2.2.2.1)) && (yr41.2.2.2.2.2.2.2.2.2 == yr36.2.2.2.2.2.2.2.2.2)) = true then
              (m7 apart4_0 apart4_1).bind fun yr44 =>
                if ((((((((((yr44.1 == yr34.1) && (yr44.2.1 == yr34.2.1)) && (yr44.2.2.1 == yr34.2.2.1)) && (yr44.2.2.2.1 == yr34.2.2.2.1)) && (yr44.2.2.2.2.1 == yr34.2.2.2.2.1)) && (yr44.2.2.2.2.2.1 == yr34.2.2.2.2.2.1)) && (yr44.2.2.2.2.2.2.1 == yr34.2.2.2.2.2.2.1)) && (yr44.2.2.2.2.2.2.2.1 == yr34.2.2.2.2.2.2.2.1)) && (yr44.2.2.2.2.2.2.2.2.1 == yr34.2.2.2.2.2.2.2.2.1)) && (yr44.2.2.2.2.2.2.2.2.2 == yr34.2.2.2.2.2.2.2.2.2)) = true then
                  (m9 apart4_0 apart4_1).bind fun yr47 =>
                    if ((((((((((yr47.1 == yr36.1) && (yr47.2.1 == yr36.2.1)) && (yr47.2.2.1 == yr36.2.2.1)) && (yr47.2.2.2.1 == yr36.2.2.2.1)) && (yr47.2.2.2.2.1 == yr36.2.2.2.2.1)) && (yr47.2.2.2.2.2.1 == yr36.2.2.2.2.2.1)) && (yr47.2.2.2.2.2.2.1 == yr36.2.2.2.2.2.2.1)) && (yr47.2.2.2.2.2.2.2.1 == yr36.2.2.2.2.2.2.2.1)) && (yr47.2.2.2.2.2.2.2.2.1 == yr36.2.2.2.2.2.2.2.2.1)) && (yr47.2.2.2.2.2.2.2.2.2 == yr36.2.2.2.2.2.2.2.2.2)) = true then
                      (m7 big5_0 big5_1).bind fun yr50 =>
                        if ((((((((((yr50.1 == yr34.1) && (yr50.2.1 == yr34.2.1)) && (yr50.2.2.1 == yr34.2.2.1)) && (yr50.2.2.2.1 == yr34.2.2.2.1)) && (yr50.2.2.2.2.1 == yr34.2.2.2.2.1)) && (yr50.2.2.2.2.2.1 == yr34.2.2.2.2.2.1)) && (yr50.2.2.2.2.2.2.1 == yr34.2.2.2.2.2.2.1)) && (yr50.2.2.2.2.2.2.2.1 == yr34.2.2.2.2.2.2.2.1)) && (yr50.2.2.2.2.2.2.2.2.1 == yr34.2.2.2.2.2.2.2.2.1)) && (yr50.2.2.2.2.2.2.2.2.2 == yr34.2.2.2.2.2.2.2.2.2)) = true then
                          (m9 big5_0 big5_1).bind fun yr53 =>
                            if ((((((((((yr53.1 == yr36.1) && (yr53.2.1 == yr36.2.1)) && (yr53.2.2.1 == yr36.2.2.1)) && (yr53.2.2.2.1 == yr36.2.2.2.1)) && (yr53.2.2.2.2.1 == yr36.2.2.2.2.1)) && (yr53.2.2.2.2.2.1 == yr36.2.2.2.2.2.1)) && (yr53.2.2.2.2.2.2.1 == yr36.2.2.2.2.2.2.1)) && (yr53.2.2.2.2.2.2.2.1 == yr36.2.2.2.2.2.2.2.1)) && (yr53.2.2.2.2.2.2.2.2.1 == yr36.2.2.2.2.2.2.2.2.1)) && (yr53.2.2.2.2.2.2.2.2.2 == yr36.2.2.2.2.2.2.2.2.2)) = true then
                              some true
                            else
                              some false
                        else
                          some false
                    else
                      some false
                else
                  some false
            else
              some false
        else
          some false
theorem j5_82_t (l0_0 : Bool) (l0_1 : List (Bs × Bs)) (back3_0 : Bool) (back3_1 : List (Bs × Bs)) (apart4_0 : Bool) (apart4_1 : List (Bs × Bs)) (big5_0 : Bool) (big5_1 : List (Bs × Bs))  (sl : Nat → AV) (zq0 : sl 0 = .v (.c (.d (.lst l0_0 (enL enSS l0_1))))) (zq3 : sl 3 = .v (.c (.own back3_0 (enL enSS back3_1) 0))) (zq4 : sl 4 = .v (.c (.own apart4_0 (enL enSS apart4_1) 1))) (zq5 : sl 5 = .v (.c (.own big5_0 (enL enSS big5_1) 2))) :
    bodyD (E0 mm) [.tmp 2] 0 false (den (E0 mm) 5 0 (callW (E0 mm)) itW c5_82 none ⟨sl, [.row back3_1.length (rz back3_0 2), .row apart4_1.length (rz apart4_0 2), .row big5_1.length (rz big5_0 2)]⟩) = (j5_82 l0_0 l0_1 back3_0 back3_1 apart4_0 apart4_1 big5_0 big5_1).map e5 := by
  simp -implicitDefEqProofs only [j5_82, c5_82_e, c5_83_r, (show opsOf c5_83 = _ :: _ from rfl), ent7, prm7, f7_t, zq0, zq3, zq4, zq5, setA, setB, za, zb, zc, zd, ze, zf, zg, zh, zi, zj, zk, zl, zm, zn, zo, zp, reduceCtorEq, zE, ↓reduceIte]
  refine brM (fun yc33 => ?_) (fun yr34 yc33 => ?_)
  · rw [yc33]; rfl
  · simp -implicitDefEqProofs only [e7, ent9, prm9, f9_t, zq0, zq3, zq4, zq5, yc33, setA, setB, za, zb, zc, zd, ze, zf, zg, zh, zi, zj, zk, zl, zm, zn, zo, zp, reduceCtorEq, zE, ↓reduceIte]
    refine brM (fun yc35 => ?_) (fun yr36 yc35 => ?_)
    · rw [yc35]; rfl
    · simp -implicitDefEqProofs only [e9, zc24, ao84, sz24, c5_84_e, c5_85_r, (show opsOf c5_85 = _ :: _ from rfl), ent7, prm7, f7_t, zq0, zq3, zq4, zq5, yc33, yc35, runF_nil, runF_none, runF_some, runKF_t, runKF_f, runKF_x, stepKF_s, stepKF_x, tlT_c, tlT_n, hdT_c, hdT_n, footT_n, foot_t, readsO, setA, setB, za, zb, zc, zd, ze, zf, zg, zh, zi, zj, zk, zl, zm, zn, zo, zp, reduceCtorEq, zE, ↓reduceIte]
      refine brM (fun yc37 => ?_) (fun yr38 yc37 => ?_)
      · rw [yc37]; rfl
      · simp -implicitDefEqProofs only [e7, sz24, ag24, eqs24e, toV_agg, zq0, zq3, zq4, zq5, yc33, yc35, runF_nil, runF_none, runF_some, runKF_t, runKF_f, runKF_x, stepKF_s, stepKF_x, tlT_c, tlT_n, hdT_c, hdT_n, footT_n, foot_t, readsO, yc37, setA, setB, za, zb, zc, zd, ze, zf, zg, zh, zi, zj, zk, zl, zm, zn, zo, zp, reduceCtorEq, zE, ↓reduceIte]
        refine brB (fun yc39 => ?_) (fun yc39 => ?_)
        · simp -implicitDefEqProofs only [ent9, prm9, f9_t, zq0, zq3, zq4, zq5, yc33, yc35, runF_nil, runF_none, runF_some, runKF_t, runKF_f, runKF_x, stepKF_s, stepKF_x, tlT_c, tlT_n, hdT_c, hdT_n, footT_n, foot_t, readsO, yc37, yc39, setA, setB, za, zb, zc, zd, ze, zf, zg, zh, zi, zj, zk, zl, zm, zn, zo, zp, reduceCtorEq, zE, ↓reduceIte]
          refine brM (fun yc40 => ?_) (fun yr41 yc40 => ?_)
          · rw [yc40]; rfl
          · simp -implicitDefEqProofs only [e9, sz24, ag24, eqs24e, toV_agg, zq0, zq3, zq4, zq5, yc33, yc35, runF_nil, runF_none, runF_some, runKF_t, runKF_f, runKF_x, stepKF_s, stepKF_x, tlT_c, tlT_n, hdT_c, hdT_n, footT_n, foot_t, readsO, yc37, yc39, yc40, setA, setB, za, zb, zc, zd, ze, zf, zg, zh, zi, zj, zk, zl, zm, zn, zo, zp, reduceCtorEq, zE, ↓reduceIte]
            refine brB (fun yc42 => ?_) (fun yc42 => ?_)
            · simp -implicitDefEqProofs only [ent7, prm7, f7_t, zq0, zq3, zq4, zq5, yc33, yc35, runF_nil, runF_none, runF_some, runKF_t, runKF_f, runKF_x, stepKF_s, stepKF_x, tlT_c, tlT_n, hdT_c, hdT_n, footT_n, foot_t, readsO, yc37, yc39, yc40, yc42, setA, setB, za, zb, zc, zd, ze, zf, zg, zh, zi, zj, zk, zl, zm, zn, zo, zp, reduceCtorEq, zE, ↓reduceIte]
              refine brM (fun yc43 => ?_) (fun yr44 yc43 => ?_)
              · rw [yc43]; rfl
              · simp -implicitDefEqProofs only [e7, sz24, ag24, eqs24e, toV_agg, zq0, zq3, zq4, zq5, yc33, yc35, runF_nil, runF_none, runF_some, runKF_t, runKF_f, runKF_x, stepKF_s, stepKF_x, tlT_c, tlT_n, hdT_c, hdT_n, footT_n, foot_t, readsO, yc37, yc39, yc40, yc42, yc43, setA, setB, za, zb, zc, zd, ze, zf, zg, zh, zi, zj, zk, zl, zm, zn, zo, zp, reduceCtorEq, zE, ↓reduceIte]
                refine brB (fun yc45 => ?_) (fun yc45 => ?_)
                · simp -implicitDefEqProofs only [ent9, prm9, f9_t, zq0, zq3, zq4, zq5, yc33, yc35, runF_nil, runF_none, runF_some, runKF_t, runKF_f, runKF_x, stepKF_s, stepKF_x, tlT_c, tlT_n, hdT_c, hdT_n, footT_n, foot_t, readsO, yc37, yc39, yc40, yc42, yc43, yc45, setA, setB, za, zb, zc, zd, ze, zf, zg, zh, zi, zj, zk, zl, zm, zn, zo, zp, reduceCtorEq, zE, ↓reduceIte]
                  refine brM (fun yc46 => ?_) (fun yr47 yc46 => ?_)
                  · rw [yc46]; rfl
                  · simp -implicitDefEqProofs only [e9, sz24, ag24, eqs24e, toV_agg, zq0, zq3, zq4, zq5, yc33, yc35, runF_nil, runF_none, runF_some, runKF_t, runKF_f, runKF_x, stepKF_s, stepKF_x, tlT_c, tlT_n, hdT_c, hdT_n, footT_n, foot_t, readsO, yc37, yc39, yc40, yc42, yc43, yc45, yc46, setA, setB, za, zb, zc, zd, ze, zf, zg, zh, zi, zj, zk, zl, zm, zn, zo, zp, reduceCtorEq, zE, ↓reduceIte]
                    refine brB (fun yc48 => ?_) (fun yc48 => ?_)
                    · simp -implicitDefEqProofs only [ent7, prm7, f7_t, zq0, zq3, zq4, zq5, yc33, yc35, runF_nil, runF_none, runF_some, runKF_t, runKF_f, runKF_x, stepKF_s, stepKF_x, tlT_c, tlT_n, hdT_c, hdT_n, footT_n, foot_t, readsO, yc37, yc39, yc40, yc42, yc43, yc45, yc46, yc48, setA, setB, za, zb, zc, zd, ze, zf, zg, zh, zi, zj, zk, zl, zm, zn, zo, zp, reduceCtorEq, zE, ↓reduceIte]
                      refine brM (fun yc49 => ?_) (fun yr50 yc49 => ?_)
                      · rw [yc49]; rfl
                      · simp -implicitDefEqProofs only [e7, sz24, ag24, eqs24e, toV_agg, zq0, zq3, zq4, zq5, yc33, yc35, runF_nil, runF_none, runF_some, runKF_t, runKF_f, runKF_x, stepKF_s, stepKF_x, tlT_c, tlT_n, hdT_c, hdT_n, footT_n, foot_t, readsO, yc37, yc39, yc40, yc42, yc43, yc45, yc46, yc48, yc49, setA, setB, za, zb, zc, zd, ze, zf, zg, zh, zi, zj, zk, zl, zm, zn, zo, zp, reduceCtorEq, zE, ↓reduceIte]
                        refine brB (fun yc51 => ?_) (fun yc51 => ?_)
                        · simp -implicitDefEqProofs only [ent9, prm9, f9_t, zq0, zq3, zq4, zq5, yc33, yc35, runF_nil, runF_none, runF_some, runKF_t, runKF_f, runKF_x, stepKF_s, stepKF_x, tlT_c, tlT_n, hdT_c, hdT_n, footT_n, foot_t, readsO, yc37, yc39, yc40, yc42, yc43, yc45, yc46, yc48, yc49, yc51, setA, setB, za, zb, zc, zd, ze, zf, zg, zh, zi, zj, zk, zl, zm, zn, zo, zp, reduceCtorEq, zE, ↓reduceIte]
                          refine brM (fun yc52 => ?_) (fun yr53 yc52 => ?_)
                          · rw [yc52]; rfl
                          · simp -implicitDefEqProofs only [e9, sz24, ag24, eqs24e, toV_agg, zq0, zq3, zq4, zq5, yc33, yc35, runF_nil, runF_none, runF_some, runKF_t, runKF_f, runKF_x, stepKF_s, stepKF_x, tlT_c, tlT_n, hdT_c, hdT_n, footT_n, foot_t, readsO, yc37, yc39, yc40, yc42, yc43, yc45, yc46, yc48, yc49, yc51, yc52, setA, setB, za, zb, zc, zd, ze, zf, zg, zh, zi, zj, zk, zl, zm, zn, zo, zp, reduceCtorEq, zE, ↓reduceIte]
                            refine brB (fun yc54 => ?_) (fun yc54 => ?_)
                            · simp -implicitDefEqProofs only [ent12, prm12, f12_t, ckF, foot_f, pair1, pair0, chgA, eqO, eqOb_cells, eqOb_row, eqOb_siter, eqOb_amapN, eqOb_amapC, eqOb_sm, eqE_S, eqE_SS, eqE_N, eqE_B, eqL, eqC, eqD, eqV, eqV1, eqB_refl, eq_self, decide_true, List.all_nil, List.getD_cons_zero, List.getD_cons_succ, Bool.and_self, c5_86_e, zq0, zq3, zq4, zq5, yc33, yc35, runF_nil, runF_none, runF_some, runKF_t, runKF_f, runKF_x, stepKF_s, stepKF_x, tlT_c, tlT_n, hdT_c, hdT_n, footT_n, foot_t, readsO, yc37, yc39, yc40, yc42, yc43, yc45, yc46, yc48, yc49, yc51, yc52, yc54, setA, setB, za, zb, zc, zd, ze, zf, zg, zh, zi, zj, zk, zl, zm, zn, zo, zp, reduceCtorEq, zE, ↓reduceIte]
                              all_goals rfl
                            · simp -implicitDefEqProofs only [ckF, foot_f, pair1, pair0, chgA, eqO, eqOb_cells, eqOb_row, eqOb_siter, eqOb_amapN, eqOb_amapC, eqOb_sm, eqE_S, eqE_SS, eqE_N, eqE_B, eqL, eqC, eqD, eqV, eqV1, eqB_refl, eq_self, decide_true, List.all_nil, List.getD_cons_zero, List.getD_cons_succ, Bool.and_self, c5_86_e, zq0, zq3, zq4, zq5, yc33, yc35, runF_nil, runF_none, runF_some, runKF_t, runKF_f, runKF_x, stepKF_s, stepKF_x, tlT_c, tlT_n, hdT_c, hdT_n, footT_n, foot_t, readsO, yc37, yc39, yc40, yc42, yc43, yc45, yc46, yc48, yc49, yc51, yc52, yc54, setA, setB, za, zb, zc, zd, ze, zf, zg, zh, zi, zj, zk, zl, zm, zn, zo, zp, reduceCtorEq, zE, ↓reduceIte]
                              all_goals rfl
                        · simp -implicitDefEqProofs only [ckF, foot_f, pair1, pair0, chgA, eqO, eqOb_cells, eqOb_row, eqOb_siter, eqOb_amapN, eqOb_amapC, eqOb_sm, eqE_S, eqE_SS, eqE_N, eqE_B, eqL, eqC, eqD, eqV, eqV1, eqB_refl, eq_self, decide_true, List.all_nil, List.getD_cons_zero, List.getD_cons_succ, Bool.and_self, c5_86_e, zq0, zq3, zq4, zq5, yc33, yc35, runF_nil, runF_none, runF_some, runKF_t, runKF_f, runKF_x, stepKF_s, stepKF_x, tlT_c, tlT_n, hdT_c, hdT_n, footT_n, foot_t, readsO, yc37, yc39, yc40, yc42, yc43, yc45, yc46, yc48, yc49, yc51, setA, setB, za, zb, zc, zd, ze, zf, zg, zh, zi, zj, zk, zl, zm, zn, zo, zp, reduceCtorEq, zE, ↓reduceIte]
                          all_goals rfl
                    · simp -implicitDefEqProofs only [ckF, foot_f, pair1, pair0, chgA, eqO, eqOb_cells, eqOb_row, eqOb_siter, eqOb_amapN, eqOb_amapC, eqOb_sm, eqE_S, eqE_SS, eqE_N, eqE_B, eqL, eqC, eqD, eqV, eqV1, eqB_refl, eq_self, decide_true, List.all_nil, List.getD_cons_zero, List.getD_cons_succ, Bool.and_self, c5_86_e, zq0, zq3, zq4, zq5, yc33, yc35, runF_nil, runF_none, runF_some, runKF_t, runKF_f, runKF_x, stepKF_s, stepKF_x, tlT_c, tlT_n, hdT_c, hdT_n, footT_n, foot_t, readsO, yc37, yc39, yc40, yc42, yc43, yc45, yc46, yc48, setA, setB, za, zb, zc, zd, ze, zf, zg, zh, zi, zj, zk, zl, zm, zn, zo, zp, reduceCtorEq, zE, ↓reduceIte]
                      all_goals rfl
                · simp -implicitDefEqProofs only [ckF, foot_f, pair1, pair0, chgA, eqO, eqOb_cells, eqOb_row, eqOb_siter, eqOb_amapN, eqOb_amapC, eqOb_sm, eqE_S, eqE_SS, eqE_N, eqE_B, eqL, eqC, eqD, eqV, eqV1, eqB_refl, eq_self, decide_true, List.all_nil, List.getD_cons_zero, List.getD_cons_succ, Bool.and_self, c5_86_e, zq0, zq3, zq4, zq5, yc33, yc35, runF_nil, runF_none, runF_some, runKF_t, runKF_f, runKF_x, stepKF_s, stepKF_x, tlT_c, tlT_n, hdT_c, hdT_n, footT_n, foot_t, readsO, yc37, yc39, yc40, yc42, yc43, yc45, setA, setB, za, zb, zc, zd, ze, zf, zg, zh, zi, zj, zk, zl, zm, zn, zo, zp, reduceCtorEq, zE, ↓reduceIte]
                  all_goals rfl
            · simp -implicitDefEqProofs only [ckF, foot_f, pair1, pair0, chgA, eqO, eqOb_cells, eqOb_row, eqOb_siter, eqOb_amapN, eqOb_amapC, eqOb_sm, eqE_S, eqE_SS, eqE_N, eqE_B, eqL, eqC, eqD, eqV, eqV1, eqB_refl, eq_self, decide_true, List.all_nil, List.getD_cons_zero, List.getD_cons_succ, Bool.and_self, c5_86_e, zq0, zq3, zq4, zq5, yc33, yc35, runF_nil, runF_none, runF_some, runKF_t, runKF_f, runKF_x, stepKF_s, stepKF_x, tlT_c, tlT_n, hdT_c, hdT_n, footT_n, foot_t, readsO, yc37, yc39, yc40, yc42, setA, setB, za, zb, zc, zd, ze, zf, zg, zh, zi, zj, zk, zl, zm, zn, zo, zp, reduceCtorEq, zE, ↓reduceIte]
              all_goals rfl
        · simp -implicitDefEqProofs only [ckF, foot_f, pair1, pair0, chgA, eqO, eqOb_cells, eqOb_row, eqOb_siter, eqOb_amapN, eqOb_amapC, eqOb_sm, eqE_S, eqE_SS, eqE_N, eqE_B, eqL, eqC, eqD, eqV, eqV1, eqB_refl, eq_self, decide_true, List.all_nil, List.getD_cons_zero, List.getD_cons_succ, Bool.and_self, c5_86_e, zq0, zq3, zq4, zq5, yc33, yc35, runF_nil, runF_none, runF_some, runKF_t, runKF_f, runKF_x, stepKF_s, stepKF_x, tlT_c, tlT_n, hdT_c, hdT_n, footT_n, foot_t, readsO, yc37, yc39, setA, setB, za, zb, zc, zd, ze, zf, zg, zh, zi, zj, zk, zl, zm, zn, zo, zp, reduceCtorEq, zE, ↓reduceIte]
          all_goals rfl
def s5_23 (l0_0 : Bool) (l0_1 : List (Bs × Bs)) (back3_0 : Bool) (back3_1 : List (Bs × Bs)) (apart4_0 : Bool) (apart4_1 : List (Bs × Bs)) (big5_0 : Bool) (big5_1 : List (Bs × Bs)) (i7 : Int) : Option ((Bool × List (Bs × Bs) × Bool × List (Bs × Bs) × Bool × List (Bs × Bs) × Bool × List (Bs × Bs) × Int) ⊕ R5) :=
  if (decide (i7 < (l0_1.length : Int))) = true then
    if 0 ≤ i7 ∧ i7 < (l0_1.length : Int) then
      (m15 ((l0_1.getD i7.toNat default).1) ([99, 97, 99, 104, 101, 45, 99, 111, 110, 116, 114, 111, 108] : Bs)).bind fun yr9 =>
        if yr9 = true then
          (m16 ((l0_1.getD i7.toNat default).2)).bind fun yr12 =>
            if (apart4_1.length + 1) * 32 ≤ 140737488355328 then
              l5_48 l0_0 l0_1 back3_0 back3_1 false (apart4_1 ++ ([(([67, 65, 67, 72, 69, 45, 99, 111, 110, 116, 114, 111, 108] : Bs), ([44] : Bs))] : List (Bs × Bs))) big5_0 big5_1 i7 yr12.1 yr12.2 (w64 ((yr12.2.length : Int) - 1))
            else none
        else
          if (apart4_1.length + 1) * 32 ≤ 140737488355328 then
            if (big5_1.length + 1) * 32 ≤ 140737488355328 then
              j5_81v1 l0_0 l0_1 back3_0 back3_1 false (apart4_1 ++ ([((l0_1.getD i7.toNat default).1, (l0_1.getD i7.toNat default).2)] : List (Bs × Bs))) false (big5_1 ++ ([((l0_1.getD i7.toNat default).1, (l0_1.getD i7.toNat default).2)] : List (Bs × Bs))) i7
            else none
          else none
    else none
  else
    (j5_82 l0_0 l0_1 back3_0 back3_1 apart4_0 apart4_1 big5_0 big5_1).map .inr
theorem s5_23_t (l0_0 : Bool) (l0_1 : List (Bs × Bs)) (back3_0 : Bool) (back3_1 : List (Bs × Bs)) (apart4_0 : Bool) (apart4_1 : List (Bs × Bs)) (big5_0 : Bool) (big5_1 : List (Bs × Bs)) (i7 : Int) :
    stepE (K5_23 (mm := mm)) (loopF (E0 mm) 5 0 (callW (E0 mm)) itW c5_24 [(0, .keep), (3, .keep), (4, .own), (5, .own), (7, .keep)] (none, [.v (.c (.d (.lst l0_0 (enL enSS l0_1)))), .v (.c (.own back3_0 (enL enSS back3_1) 0)), .v (.c (.own apart4_0 (enL enSS apart4_1) 1)), .v (.c (.own big5_0 (enL enSS big5_1) 2)), .v (.c (.d (.sc (.int .i64 i7))))], [.row back3_1.length (rz back3_0 2), .row apart4_1.length (rz apart4_0 2), .row big5_1.length (rz big5_0 2)])) = (s5_23 l0_0 l0_1 back3_0 back3_1 apart4_0 apart4_1 big5_0 big5_1 i7).map (sm en5_23 e5) := by
  simp -implicitDefEqProofs only [s5_23, loopF_eq, c5_24_e, c5_25_e, c5_26_r, (show opsOf c5_26 = _ :: _ from rfl), Tryd.underlying22, (show c5_27 = Code.cond _ c5_28 c5_29 from rfl), setA, setB, za, zb, zc, zd, ze, zf, zg, zh, zi, zj, zk, zl, zm, zn, zo, zp, reduceCtorEq, zE, ↓reduceIte]
  refine brB (fun yc5 => ?_) (fun yc5 => ?_)
  · simp -implicitDefEqProofs only [c5_28_e, c5_30_e, c5_31_e, c5_32_e, c5_33_e, c5_34_r, (show opsOf c5_34 = _ :: _ from rfl), Tryd.underlying22, sz33, enSS_a, yc5, setA, setB, za, zb, zc, zd, ze, zf, zg, zh, zi, zj, zk, zl, zm, zn, zo, zp, reduceCtorEq, zE, ↓reduceIte]
    refine brP (fun yc6 => ?_) (fun yc6 => ?_)
    · have yd7 : i7.toNat < l0_1.length := by omega
      simp -implicitDefEqProofs only [(enL_get enSS l0_1 i7.toNat yd7), enSS_e, Tryd.underlying33, sz9, ag9, ent15, prm15, (show callW (E0 mm) 15 [.c (.d (.sc (.string (S (l0_1.getD i7.toNat default).1)))), .c (.d (.sc (.string (S ([99, 97, 99, 104, 101, 45, 99, 111, 110, 116, 114, 111, 108] : Bs)))))] [] = _ from f15_t ((l0_1.getD i7.toNat default).1) ([99, 97, 99, 104, 101, 45, 99, 111, 110, 116, 114, 111, 108] : Bs)), yc5, yc6, yd7, setA, setB, za, zb, zc, zd, ze, zf, zg, zh, zi, zj, zk, zl, zm, zn, zo, zp, reduceCtorEq, zE, ↓reduceIte]
      refine brM (fun yc8 => ?_) (fun yr9 yc8 => ?_)
      · rw [yc8]; rfl
      · simp -implicitDefEqProofs only [e15, (show c5_35 = Code.cond _ c5_36 c5_39 from rfl), yc5, yc6, yd7, yc8, setA, setB, za, zb, zc, zd, ze, zf, zg, zh, zi, zj, zk, zl, zm, zn, zo, zp, reduceCtorEq, zE, ↓reduceIte]
        refine brB (fun yc10 => ?_) (fun yc10 => ?_)
        · simp -implicitDefEqProofs only [c5_39_e, c5_40_e, c5_41_r, (show opsOf c5_41 = _ :: _ from rfl), Tryd.underlying22, sz33, enSS_a, (enL_get enSS l0_1 i7.toNat yd7), enSS_e, Tryd.underlying33, sz9, ag9, ent16, prm16, f16_t, yc5, yc6, yd7, yc8, yc10, setA, setB, za, zb, zc, zd, ze, zf, zg, zh, zi, zj, zk, zl, zm, zn, zo, zp, reduceCtorEq, zE, ↓reduceIte]
          refine brM (fun yc11 => ?_) (fun yr12 yc11 => ?_)
          · rw [yc11]; rfl
          · simp -implicitDefEqProofs only [e16, c5_42_e, c5_43_r, (show opsOf c5_43 = _ :: _ from rfl), Tryd.underlying33, zc33, sz9, Tryd.underlying22, sz33, hd71, nv72, rw73, ns70, ap22, yc5, yc6, yd7, yc8, yc10, yc11, setA, setB, za, zb, zc, zd, ze, zf, zg, zh, zi, zj, zk, zl, zm, zn, zo, zp, reduceCtorEq, zE, ↓reduceIte]
            refine brP (fun yc13 => ?_) (fun yc13 => ?_)
            · simp -implicitDefEqProofs only [c5_44_e, c5_45_e, c5_46_r, (show opsOf c5_46 = _ :: _ from rfl), Tryd.underlying30, c5_47_e, c5_48_l, yc5, yc6, yd7, yc8, yc10, yc11, yc13, setA, setB, za, zb, zc, zd, ze, zf, zg, zh, zi, zj, zk, zl, zm, zn, zo, zp, reduceCtorEq, zE, ↓reduceIte]
              exact l5_48_t l0_0 l0_1 back3_0 back3_1 false (apart4_1 ++ ([(([67, 65, 67, 72, 69, 45, 99, 111, 110, 116, 114, 111, 108] : Bs), ([44] : Bs))] : List (Bs × Bs))) big5_0 big5_1 i7 yr12.1 yr12.2 (w64 ((yr12.2.length : Int) - 1))
            · rw [if_neg yc13]; rfl
        · simp -implicitDefEqProofs only [c5_36_e, c5_37_r, (show opsOf c5_37 = _ :: _ from rfl), Tryd.underlying22, sz33, enSS_a, (enL_get enSS l0_1 i7.toNat yd7), enSS_e, ag33, zc33, hd81, nv82, rw83, ns70, ap22, yc5, yc6, yd7, yc8, yc10, runF_nil, runF_none, runF_some, runKF_t, runKF_f, runKF_x, stepKF_s, stepKF_x, tlT_c, tlT_n, hdT_c, hdT_n, footT_n, foot_t, readsO, setA, setB, za, zb, zc, zd, ze, zf, zg, zh, zi, zj, zk, zl, zm, zn, zo, zp, reduceCtorEq, zE, ↓reduceIte]
          refine brP (fun yc31 => ?_) (fun yc31 => ?_)
          · simp -implicitDefEqProofs only [Tryd.underlying22, sz33, enSS_a, (enL_get enSS l0_1 i7.toNat yd7), enSS_e, ag33, zc33, hd81, nv82, rw83, ns70, ap22, yc5, yc6, yd7, yc8, yc10, runF_nil, runF_none, runF_some, runKF_t, runKF_f, runKF_x, stepKF_s, stepKF_x, tlT_c, tlT_n, hdT_c, hdT_n, footT_n, foot_t, readsO, yc31, setA, setB, za, zb, zc, zd, ze, zf, zg, zh, zi, zj, zk, zl, zm, zn, zo, zp, reduceCtorEq, zE, ↓reduceIte]
            refine brP (fun yc32 => ?_) (fun yc32 => ?_)
            · simp -implicitDefEqProofs only [ckF, foot_f, pair1, pair0, chgA, eqO, eqOb_cells, eqOb_row, eqOb_siter, eqOb_amapN, eqOb_amapC, eqOb_sm, eqE_S, eqE_SS, eqE_N, eqE_B, eqL, eqC, eqD, eqV, eqV1, eqB_refl, eq_self, decide_true, List.all_nil, List.getD_cons_zero, List.getD_cons_succ, Bool.and_self, c5_38_e, yc5, yc6, yd7, yc8, yc10, runF_nil, runF_none, runF_some, runKF_t, runKF_f, runKF_x, stepKF_s, stepKF_x, tlT_c, tlT_n, hdT_c, hdT_n, footT_n, foot_t, readsO, yc31, yc32, setA, setB, za, zb, zc, zd, ze, zf, zg, zh, zi, zj, zk, zl, zm, zn, zo, zp, reduceCtorEq, zE, ↓reduceIte]
              exact j5_81v1_t l0_0 l0_1 back3_0 back3_1 false (apart4_1 ++ ([((l0_1.getD i7.toNat default).1, (l0_1.getD i7.toNat default).2)] : List (Bs × Bs))) false (big5_1 ++ ([((l0_1.getD i7.toNat default).1, (l0_1.getD i7.toNat default).2)] : List (Bs × Bs))) i7 _ (by rfl) (by rfl) (by rfl) (by rfl) (by rfl)
            · rw [if_neg yc32]; rfl
          · rw [if_neg yc31]; rfl
    · rw [if_neg yc6]; rfl
  · simp -implicitDefEqProofs only [c5_29_e, K5_23, yc5, setA, setB, za, zb, zc, zd, ze, zf, zg, zh, zi, zj, zk, zl, zm, zn, zo, zp, reduceCtorEq, zE, ↓reduceIte]
    exact mi (j5_82_t l0_0 l0_1 back3_0 back3_1 apart4_0 apart4_1 big5_0 big5_1 _ (by rfl) (by rfl) (by rfl) (by rfl))
def l5_23 (l0_0 : Bool) (l0_1 : List (Bs × Bs)) (back3_0 : Bool) (back3_1 : List (Bs × Bs)) (apart4_0 : Bool) (apart4_1 : List (Bs × Bs)) (big5_0 : Bool) (big5_1 : List (Bs × Bs)) (i7 : Int) : Option R5 := iter (fun x : (Bool × List (Bs × Bs) × Bool × List (Bs × Bs) × Bool × List (Bs × Bs) × Bool × List (Bs × Bs) × Int) => s5_23 x.1 x.2.1 x.2.2.1 x.2.2.2.1 x.2.2.2.2.1 x.2.2.2.2.2.1 x.2.2.2.2.2.2.1 x.2.2.2.2.2.2.2.1 x.2.2.2.2.2.2.2.2) (l0_0, l0_1, back3_0, back3_1, apart4_0, apart4_1, big5_0, big5_1, i7)
theorem l5_23_t (l0_0 : Bool) (l0_1 : List (Bs × Bs)) (back3_0 : Bool) (back3_1 : List (Bs × Bs)) (apart4_0 : Bool) (apart4_1 : List (Bs × Bs)) (big5_0 : Bool) (big5_1 : List (Bs × Bs)) (i7 : Int) : bodyD (E0 mm) [.tmp 2] 0 false (seqD (E0 mm) 5 0 (callW (E0 mm)) itW c5_82 (blockD 2 (itW (loopF (E0 mm) 5 0 (callW (E0 mm)) itW c5_24 [(0, .keep), (3, .keep), (4, .own), (5, .own), (7, .keep)]) (none, [.v (.c (.d (.lst l0_0 (enL enSS l0_1)))), .v (.c (.own back3_0 (enL enSS back3_1) 0)), .v (.c (.own apart4_0 (enL enSS apart4_1) 1)), .v (.c (.own big5_0 (enL enSS big5_1) 2)), .v (.c (.d (.sc (.int .i64 i7))))], [.row back3_1.length (rz back3_0 2), .row apart4_1.length (rz apart4_0 2), .row big5_1.length (rz big5_0 2)])))) = (l5_23 l0_0 l0_1 back3_0 back3_1 apart4_0 apart4_1 big5_0 big5_1 i7).map e5 :=
  it_sim (K := (K5_23 (mm := mm))) rfl (enc := en5_23) (fun x => s5_23_t x.1 x.2.1 x.2.2.1 x.2.2.2.1 x.2.2.2.2.1 x.2.2.2.2.2.1 x.2.2.2.2.2.2.1 x.2.2.2.2.2.2.2.1 x.2.2.2.2.2.2.2.2) (l0_0, l0_1, back3_0, back3_1, apart4_0, apart4_1, big5_0, big5_1, i7)
def j5_19 (l0_0 : Bool) (l0_1 : List (Bs × Bs)) (back3_0 : Bool) (back3_1 : List (Bs × Bs)) : Option R5 :=
  l5_23 l0_0 l0_1 back3_0 back3_1 true ([] : List (Bs × Bs)) true ([] : List (Bs × Bs)) (0 : Int)
theorem j5_19_t (l0_0 : Bool) (l0_1 : List (Bs × Bs)) (back3_0 : Bool) (back3_1 : List (Bs × Bs))  (sl : Nat → AV) (zq0 : sl 0 = .v (.c (.d (.lst l0_0 (enL enSS l0_1))))) (zq3 : sl 3 = .v (.c (.own back3_0 (enL enSS back3_1) 0))) (zq4 : sl 4 = .v (.c (.d (.lst true [])))) (zq5 : sl 5 = .v (.c (.d (.lst true [])))) :
    bodyD (E0 mm) [.tmp 2] 0 false (den (E0 mm) 5 0 (callW (E0 mm)) itW c5_19 none ⟨sl, [.row back3_1.length (rz back3_0 2)]⟩) = (j5_19 l0_0 l0_1 back3_0 back3_1).map e5 := by
  simp -implicitDefEqProofs only [j5_19, c5_19_e, c5_20_e, c5_21_r, (show opsOf c5_21 = _ :: _ from rfl), c5_22_e, c5_23_l, zq0, zq3, zq4, zq5, setA, setB, za, zb, zc, zd, ze, zf, zg, zh, zi, zj, zk, zl, zm, zn, zo, zp, reduceCtorEq, zE, ↓reduceIte]
  exact l5_23_t l0_0 l0_1 back3_0 back3_1 true ([] : List (Bs × Bs)) true ([] : List (Bs × Bs)) (0 : Int)
def s5_8 (l0_0 : Bool) (l0_1 : List (Bs × Bs)) (back3_0 : Bool) (back3_1 : List (Bs × Bs)) (i6 : Int) : Option ((Bool × List (Bs × Bs) × Bool × List (Bs × Bs) × Int) ⊕ R5) :=
  if (decide (0 ≤ i6)) = true then
    if 0 ≤ i6 ∧ i6 < (l0_1.length : Int) then
      if (back3_1.length + 1) * 32 ≤ 140737488355328 then
        some (.inl (l0_0, l0_1, false, (back3_1 ++ ([((l0_1.getD i6.toNat default).1, (l0_1.getD i6.toNat default).2)] : List (Bs × Bs))), (w64 (i6 - 1))))
      else none
    else none
  else
    (j5_19 l0_0 l0_1 back3_0 back3_1).map .inr
theorem s5_8_t (l0_0 : Bool) (l0_1 : List (Bs × Bs)) (back3_0 : Bool) (back3_1 : List (Bs × Bs)) (i6 : Int) :
    stepE (K5_8 (mm := mm)) (loopF (E0 mm) 5 0 (callW (E0 mm)) itW c5_9 [(0, .keep), (3, .own), (4, .keep), (5, .keep), (6, .keep)] (none, [.v (.c (.d (.lst l0_0 (enL enSS l0_1)))), .v (.c (.own back3_0 (enL enSS back3_1) 0)), .v (.c (.d (.lst true []))), .v (.c (.d (.lst true []))), .v (.c (.d (.sc (.int .i64 i6))))], [.row back3_1.length (rz back3_0 2)])) = (s5_8 l0_0 l0_1 back3_0 back3_1 i6).map (sm en5_8 e5) := by
  simp -implicitDefEqProofs only [s5_8, loopF_eq, c5_9_e, c5_10_e, c5_11_r, (show opsOf c5_11 = _ :: _ from rfl), (show c5_12 = Code.cond _ c5_13 c5_14 from rfl), setA, setB, za, zb, zc, zd, ze, zf, zg, zh, zi, zj, zk, zl, zm, zn, zo, zp, reduceCtorEq, zE, ↓reduceIte]
  refine brB (fun yc1 => ?_) (fun yc1 => ?_)
  · simp -implicitDefEqProofs only [c5_13_e, c5_15_e, c5_16_e, c5_17_r, (show opsOf c5_17 = _ :: _ from rfl), Tryd.underlying22, sz33, enSS_a, yc1, setA, setB, za, zb, zc, zd, ze, zf, zg, zh, zi, zj, zk, zl, zm, zn, zo, zp, reduceCtorEq, zE, ↓reduceIte]
    refine brP (fun yc2 => ?_) (fun yc2 => ?_)
    · have yd3 : i6.toNat < l0_1.length := by omega
      simp -implicitDefEqProofs only [(enL_get enSS l0_1 i6.toNat yd3), enSS_e, sz33, ag33, Tryd.underlying22, zc33, hd67, nv68, rw69, ns70, ap22, yc1, yc2, yd3, setA, setB, za, zb, zc, zd, ze, zf, zg, zh, zi, zj, zk, zl, zm, zn, zo, zp, reduceCtorEq, zE, ↓reduceIte]
      refine brP (fun yc4 => ?_) (fun yc4 => ?_)
      · simp -implicitDefEqProofs only [c5_18_r, (show opsOf c5_18 = _ :: _ from rfl), yc1, yc2, yd3, yc4, setA, setB, za, zb, zc, zd, ze, zf, zg, zh, zi, zj, zk, zl, zm, zn, zo, zp, reduceCtorEq, zE, ↓reduceIte]
        all_goals rfl
      · rw [if_neg yc4]; rfl
    · rw [if_neg yc2]; rfl
  · simp -implicitDefEqProofs only [c5_14_e, K5_8, yc1, setA, setB, za, zb, zc, zd, ze, zf, zg, zh, zi, zj, zk, zl, zm, zn, zo, zp, reduceCtorEq, zE, ↓reduceIte]
    exact mi (j5_19_t l0_0 l0_1 back3_0 back3_1 _ (by rfl) (by rfl) (by rfl) (by rfl))
def l5_8 (l0_0 : Bool) (l0_1 : List (Bs × Bs)) (back3_0 : Bool) (back3_1 : List (Bs × Bs)) (i6 : Int) : Option R5 := iter (fun x : (Bool × List (Bs × Bs) × Bool × List (Bs × Bs) × Int) => s5_8 x.1 x.2.1 x.2.2.1 x.2.2.2.1 x.2.2.2.2) (l0_0, l0_1, back3_0, back3_1, i6)
theorem l5_8_t (l0_0 : Bool) (l0_1 : List (Bs × Bs)) (back3_0 : Bool) (back3_1 : List (Bs × Bs)) (i6 : Int) : bodyD (E0 mm) [.tmp 2] 0 false (seqD (E0 mm) 5 0 (callW (E0 mm)) itW c5_19 (blockD 0 (itW (loopF (E0 mm) 5 0 (callW (E0 mm)) itW c5_9 [(0, .keep), (3, .own), (4, .keep), (5, .keep), (6, .keep)]) (none, [.v (.c (.d (.lst l0_0 (enL enSS l0_1)))), .v (.c (.own back3_0 (enL enSS back3_1) 0)), .v (.c (.d (.lst true []))), .v (.c (.d (.lst true []))), .v (.c (.d (.sc (.int .i64 i6))))], [.row back3_1.length (rz back3_0 2)])))) = (l5_8 l0_0 l0_1 back3_0 back3_1 i6).map e5 :=
  it_sim (K := (K5_8 (mm := mm))) rfl (enc := en5_8) (fun x => s5_8_t x.1 x.2.1 x.2.2.1 x.2.2.2.1 x.2.2.2.2) (l0_0, l0_1, back3_0, back3_1, i6)
def m5 (l_0 : Bool) (l_1 : List (Bs × Bs)) : Option R5 :=
  l5_8 l_0 l_1 true ([] : List (Bs × Bs)) (w64 ((l_1.length : Int) - 1))
theorem f5_t (l_0 : Bool) (l_1 : List (Bs × Bs)) :
    callW (E0 mm) 5 [.c (.d (.lst l_0 (enL enSS l_1)))] [] = (m5 l_0 l_1).map e5 := by
  rw [callW_run (body := c5_0) (res := [.tmp 2]) Tryd.func5 rfl rfl (by kernel_rfl)]
  simp -implicitDefEqProofs only [m5, slots1, c5_0_e, c5_1_r, (show opsOf c5_1 = _ :: _ from rfl), c5_2_e, c5_3_r, (show opsOf c5_3 = _ :: _ from rfl), c5_4_e, c5_5_e, c5_6_r, (show opsOf c5_6 = _ :: _ from rfl), Tryd.underlying22, c5_7_e, c5_8_l, setA, setB, za, zb, zc, zd, ze, zf, zg, zh, zi, zj, zk, zl, zm, zn, zo, zp, reduceCtorEq, zE, ↓reduceIte]
  exact l5_8_t l_0 l_1 true ([] : List (Bs × Bs)) (w64 ((l_1.length : Int) - 1))
end
end Go.Proofs.YtbdjemdhjanffaaDoor
