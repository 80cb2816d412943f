/- The Go functions as plain functions, and that the evaluator computes them. -/
import Derived.Test.YtbkobjepahlegaaGreatDoorFRequests3
set_option linter.all false
set_option maxRecDepth 100000
namespace Go.Proofs.YtbkobjepahlegaaGreatDoor
open Go Go.Ab
open Nat renaming reduceEqDiff → za, reduceAdd → zb, reduceLeDiff → zc, reduceLT → zd, reduceMul → ze, reduceBEq → zf, reduceSub → zg, reducePow → zh
open Int renaming reduceEq → zi, reduceLE → zj, reduceLT → zk, reduceToNat → zl, reduceNegSucc → zm, reduceAdd → zn, reduceBEq → zo
open String renaming reduceBEq → zp
set_option maxHeartbeats 4000000
noncomputable section
variable {mm : Int}
noncomputable def c44_0 : Code := bodyOf Tryz.f44
def c44_1 := cA c44_0
def c44_3 := cA (cB c44_0)
def c44_5 := cA (cB (cB c44_0))
def c44_8 := cA (cA (cB (cB (cB c44_0))))
def c44_10 := cA (cB (cA (cB (cB (cB c44_0)))))
def c44_11 := cA c44_10
def c44_13 := cA (cA c44_11)
def c44_20 := cA (cA (cA (cB c44_11)))
def c44_23 := cA (cA (cB (cA (cA (cB c44_11)))))
def c44_28 := cA (cB (cB (cA (cA (cB c44_11)))))
def c44_30 := cA (cB (cB (cB (cA (cA (cB c44_11))))))
def c44_33 := cA (cA (cB (cB (cB (cB (cA (cA (cB c44_11))))))))
def c44_35 := cA (cB (cA (cB (cB (cB (cB (cA (cA (cB c44_11)))))))))
def c44_37 := cA (cB (cB (cA (cB (cB (cB (cB (cA (cA (cB c44_11))))))))))
def c44_39 := cA (cB (cB (cB (cA (cB (cB (cB (cB (cA (cA (cB c44_11)))))))))))
def c44_41 := cA (cB (cB (cB (cB (cA (cB (cB (cB (cB (cA (cA (cB c44_11))))))))))))
def c44_43 := cA (cB (cB (cB (cB (cB (cA (cB (cB (cB (cB (cA (cA (cB c44_11)))))))))))))
def c44_45 := cA (cB (cB (cB (cB (cB (cB (cA (cB (cB (cB (cB (cA (cA (cB c44_11))))))))))))))
def c44_47 := cA (cB (cB (cB (cB (cB (cB (cB (cA (cB (cB (cB (cB (cA (cA (cB c44_11)))))))))))))))
def c44_49 := cA (cB (cB (cB (cB (cB (cB (cB (cB (cA (cB (cB (cB (cB (cA (cA (cB c44_11))))))))))))))))
def c44_52 := cA (cA (cB (cB (cB (cB (cB (cB (cB (cB (cB (cA (cB (cB (cB (cB (cA (cA (cB c44_11))))))))))))))))))
def c44_54 := cA (cB (cA (cB (cB (cB (cB (cB (cB (cB (cB (cB (cA (cB (cB (cB (cB (cA (cA (cB c44_11)))))))))))))))))))
def c44_57 := cA (cB (cB (cB (cB (cB (cB (cB (cB (cB (cB (cA (cB (cB (cB (cB (cA (cA (cB c44_11))))))))))))))))))
def c44_61 := cA (cA (cA (cB (cB (cB (cB (cB (cB (cB (cB (cB (cB (cB (cA (cB (cB (cB (cB (cA (cA (cB c44_11)))))))))))))))))))))
def c44_63 := cA (cB (cA (cA (cB (cB (cB (cB (cB (cB (cB (cB (cB (cB (cB (cA (cB (cB (cB (cB (cA (cA (cB c44_11))))))))))))))))))))))
def c44_65 := cB (cA (cB (cB (cB (cB (cB (cB (cB (cB (cB (cB (cB (cA (cB (cB (cB (cB (cA (cA (cB c44_11))))))))))))))))))))
def c44_67 := cB (cB c44_11)
def c44_68 := cB (cB (cB (cB c44_0)))
def c44_70 := cA (cA c44_68)
def c44_72 := cA (cB (cA c44_68))
def c44_73 := cA c44_72
def c44_75 := cA (cA c44_73)
def c44_82 := cA (cA (cA (cB c44_73)))
def c44_85 := cA (cA (cB (cA (cA (cB c44_73)))))
def c44_88 := cB (cB c44_73)
def c44_89 := cB c44_68
def c44_90 := cA c44_89
def c44_93 := cA (cA (cB c44_89))
def c44_95 := cA (cB (cA (cB c44_89)))
def c44_96 := cA c44_95
def c44_98 := cA (cA c44_96)
def c44_105 := cA (cA (cA (cB c44_96)))
def c44_107 := cA (cB (cA (cA (cB c44_96))))
def c44_109 := cB (cB c44_96)
def c44_110 := cB (cB c44_89)
def c44_111 := cA c44_110
def L44_10 : List (Nat × Co) := [(0, .keep), (2, .keep), (3, .keep), (4, .keep), (5, .keep)]
def L44_72 : List (Nat × Co) := [(0, .keep), (2, .keep), (3, .keep), (10, .keep)]
def L44_95 : List (Nat × Co) := [(2, .keep), (3, .keep), (11, .keep), (12, .keep)]
abbrev b44 (mm : Int) := bodyD (E0 mm) [.cell 2 37] 0 false
abbrev R44 := (Bool × Bool × Bool × Bool × Bool × Bool × Int × Int × Int × Int)
def e44 (x : R44) : AV × Heap := (.v (.agg [.d (dB x.1), .d (dB x.2.1), .d (dB x.2.2.1), .d (dB x.2.2.2.1), .d (dB x.2.2.2.2.1), .d (dB x.2.2.2.2.2.1), .d (dI x.2.2.2.2.2.2.1), .d (dI x.2.2.2.2.2.2.2.1), .d (dI x.2.2.2.2.2.2.2.2.1), .d (dI x.2.2.2.2.2.2.2.2.2)]), [])
def j44_67 (l0_0 : Bool) (l0_1 : List (Bs × Bs)) (all4_0 : Bool) (all4_1 : List Bs) (i5 : Int) (h0_0 h0_1 : Bool) (h0_2 h0_3 : Bool) (h0_4 h0_5 : Bool) (h0_6 h0_7 : Int) (h0_8 h0_9 : Int) (h1_0 h1_1 : Bool) (h1_2 h1_3 : Bool) (h1_4 h1_5 : Bool) (h1_6 h1_7 : Int) (h1_8 h1_9 : Int) : Option ((Bool × List (Bs × Bs) × Bool × List Bs × Int × Bool × Bool × Bool × Bool × Bool × Bool × Int × Int × Int × Int × Bool × Bool × Bool × Bool × Bool × Bool × Int × Int × Int × Int) ⊕ R44) :=
  some (.inl (l0_0, l0_1, all4_0, all4_1, (w64 (i5 + 1)), h0_0, h0_1, h0_2, h0_3, h0_4, h0_5, h0_6, h0_7, h0_8, h0_9, h1_0, h1_1, h1_2, h1_3, h1_4, h1_5, h1_6, h1_7, h1_8, h1_9))
def K44_10 (mm : Int) (r : Option (Ex × St)) : Option (AV × Heap) := b44 mm (sq (E0 mm) 44 0 c44_68 (blockD 0 (r)))
def en44_10 (x : (Bool × List (Bs × Bs) × Bool × List Bs × Int × Bool × Bool × Bool × Bool × Bool × Bool × Int × Int × Int × Int × Bool × Bool × Bool × Bool × Bool × Bool × Int × Int × Int × Int)) : X := (none, [vd (.lst x.1 (enL enSS x.2.1)), .v (.c (.ptr 0 0)), .v (.c (.ptr 1 0)), .v (.c (.own x.2.2.1 (enL enS x.2.2.2.1) 2)), vd (dI x.2.2.2.2.1)], [.cells [.d (dB x.2.2.2.2.2.1), .d (dB x.2.2.2.2.2.2.1), .d (dB x.2.2.2.2.2.2.2.1), .d (dB x.2.2.2.2.2.2.2.2.1), .d (dB x.2.2.2.2.2.2.2.2.2.1), .d (dB x.2.2.2.2.2.2.2.2.2.2.1), .d (dI x.2.2.2.2.2.2.2.2.2.2.2.1), .d (dI x.2.2.2.2.2.2.2.2.2.2.2.2.1), .d (dI x.2.2.2.2.2.2.2.2.2.2.2.2.2.1), .d (dI x.2.2.2.2.2.2.2.2.2.2.2.2.2.2.1)], .cells [.d (dB x.2.2.2.2.2.2.2.2.2.2.2.2.2.2.2.1), .d (dB x.2.2.2.2.2.2.2.2.2.2.2.2.2.2.2.2.1), .d (dB x.2.2.2.2.2.2.2.2.2.2.2.2.2.2.2.2.2.1), .d (dB x.2.2.2.2.2.2.2.2.2.2.2.2.2.2.2.2.2.2.1), .d (dB x.2.2.2.2.2.2.2.2.2.2.2.2.2.2.2.2.2.2.2.1), .d (dB x.2.2.2.2.2.2.2.2.2.2.2.2.2.2.2.2.2.2.2.2.1), .d (dI x.2.2.2.2.2.2.2.2.2.2.2.2.2.2.2.2.2.2.2.2.2.1), .d (dI x.2.2.2.2.2.2.2.2.2.2.2.2.2.2.2.2.2.2.2.2.2.2.1), .d (dI x.2.2.2.2.2.2.2.2.2.2.2.2.2.2.2.2.2.2.2.2.2.2.2.1), .d (dI x.2.2.2.2.2.2.2.2.2.2.2.2.2.2.2.2.2.2.2.2.2.2.2.2)], .row x.2.2.2.1.length (rz x.2.2.1 1)])
def K44_72 (mm : Int) (r : Option (Ex × St)) : Option (AV × Heap) := b44 mm (sq (E0 mm) 44 0 c44_89 (blockD 3 (r)))
def en44_72 (x : (Bool × List (Bs × Bs) × Int × Bool × Bool × Bool × Bool × Bool × Bool × Int × Int × Int × Int × Bool × Bool × Bool × Bool × Bool × Bool × Int × Int × Int × Int)) : X := (none, [vd (.lst x.1 (enL enSS x.2.1)), .v (.c (.ptr 0 0)), .v (.c (.ptr 1 0)), vd (dI x.2.2.1)], [.cells [.d (dB x.2.2.2.1), .d (dB x.2.2.2.2.1), .d (dB x.2.2.2.2.2.1), .d (dB x.2.2.2.2.2.2.1), .d (dB x.2.2.2.2.2.2.2.1), .d (dB x.2.2.2.2.2.2.2.2.1), .d (dI x.2.2.2.2.2.2.2.2.2.1), .d (dI x.2.2.2.2.2.2.2.2.2.2.1), .d (dI x.2.2.2.2.2.2.2.2.2.2.2.1), .d (dI x.2.2.2.2.2.2.2.2.2.2.2.2.1)], .cells [.d (dB x.2.2.2.2.2.2.2.2.2.2.2.2.2.1), .d (dB x.2.2.2.2.2.2.2.2.2.2.2.2.2.2.1), .d (dB x.2.2.2.2.2.2.2.2.2.2.2.2.2.2.2.1), .d (dB x.2.2.2.2.2.2.2.2.2.2.2.2.2.2.2.2.1), .d (dB x.2.2.2.2.2.2.2.2.2.2.2.2.2.2.2.2.2.1), .d (dB x.2.2.2.2.2.2.2.2.2.2.2.2.2.2.2.2.2.2.1), .d (dI x.2.2.2.2.2.2.2.2.2.2.2.2.2.2.2.2.2.2.2.1), .d (dI x.2.2.2.2.2.2.2.2.2.2.2.2.2.2.2.2.2.2.2.2.1), .d (dI x.2.2.2.2.2.2.2.2.2.2.2.2.2.2.2.2.2.2.2.2.2.1), .d (dI x.2.2.2.2.2.2.2.2.2.2.2.2.2.2.2.2.2.2.2.2.2.2)]])
def K44_95 (mm : Int) (r : Option (Ex × St)) : Option (AV × Heap) := b44 mm (sq (E0 mm) 44 0 c44_110 (blockD 5 (r)))
def en44_95 (x : (Bool × List Bs × Int × Bool × Bool × Bool × Bool × Bool × Bool × Int × Int × Int × Int × Bool × Bool × Bool × Bool × Bool × Bool × Int × Int × Int × Int)) : X := (none, [.v (.c (.ptr 0 0)), .v (.c (.ptr 1 0)), .v (.c (.own x.1 (enL enS x.2.1) 2)), vd (dI x.2.2.1)], [.cells [.d (dB x.2.2.2.1), .d (dB x.2.2.2.2.1), .d (dB x.2.2.2.2.2.1), .d (dB x.2.2.2.2.2.2.1), .d (dB x.2.2.2.2.2.2.2.1), .d (dB x.2.2.2.2.2.2.2.2.1), .d (dI x.2.2.2.2.2.2.2.2.2.1), .d (dI x.2.2.2.2.2.2.2.2.2.2.1), .d (dI x.2.2.2.2.2.2.2.2.2.2.2.1), .d (dI x.2.2.2.2.2.2.2.2.2.2.2.2.1)], .cells [.d (dB x.2.2.2.2.2.2.2.2.2.2.2.2.2.1), .d (dB x.2.2.2.2.2.2.2.2.2.2.2.2.2.2.1), .d (dB x.2.2.2.2.2.2.2.2.2.2.2.2.2.2.2.1), .d (dB x.2.2.2.2.2.2.2.2.2.2.2.2.2.2.2.2.1), .d (dB x.2.2.2.2.2.2.2.2.2.2.2.2.2.2.2.2.2.1), .d (dB x.2.2.2.2.2.2.2.2.2.2.2.2.2.2.2.2.2.2.1), .d (dI x.2.2.2.2.2.2.2.2.2.2.2.2.2.2.2.2.2.2.2.1), .d (dI x.2.2.2.2.2.2.2.2.2.2.2.2.2.2.2.2.2.2.2.2.1), .d (dI x.2.2.2.2.2.2.2.2.2.2.2.2.2.2.2.2.2.2.2.2.2.1), .d (dI x.2.2.2.2.2.2.2.2.2.2.2.2.2.2.2.2.2.2.2.2.2.2)], .row x.2.1.length (rz x.1 1)])
def k44 := Q @ent94 (Q @prm94 (Q @f94_t (Q @e94.eq_1 (Q (rx c44_111) (Q (rx c44_98) (Q (rx c44_105) (Q @f51_t (Q @e51.eq_1 (Q (rx c44_107) (Q @K44_95.eq_1 (Q (rx c44_90) (Q @ent49 (Q @prm49 (Q (fun (mm : Int) (l0_0 : Bool) (l0_1 : List (Bs × Bs)) => (show callW (E0 mm) 49 [cd (.lst l0_0 (enL enSS l0_1)), cd (dS ([112, 114, 97, 103, 109, 97] : Bs))] [] = _ from f49_t l0_0 l0_1 ([112, 114, 97, 103, 109, 97] : Bs))) (Q @f49_t (Q @e49.eq_1 (Q (rx c44_93) (Q (fun mm => lx (E0 mm) 44 c44_95 c44_96 L44_95) (Q (rx c44_75) (Q (rx c44_82) (Q (fun (mm : Int) (l0_1 : List (Bs × Bs)) (i10 : Int) => (show callW (E0 mm) 95 [cd (.sc (.string (S (l0_1.getD i10.toNat default).1))), cd (dS ([99, 97, 99, 104, 101, 45, 99, 111, 110, 116, 114, 111, 108] : Bs))] [] = _ from f95_t ((l0_1.getD i10.toNat default).1) ([99, 97, 99, 104, 101, 45, 99, 111, 110, 116, 114, 111, 108] : Bs))) (Q @f95_t (Q @e95.eq_1 (Q (rx c44_85) (Q @K44_72.eq_1 (Q (rx c44_88) (Q (rx c44_70) (Q (fun mm => lx (E0 mm) 44 c44_72 c44_73 L44_72) (Q (rx c44_13) (Q (rx c44_20) (Q @ent92 (Q @prm92 (Q @f92_t (Q @e92.eq_1 (Q (rx c44_23) (Q (rx c44_28) (Q @ent93 (Q @prm93 (Q @f93_t (Q @e93.eq_1 (Q (rx c44_30) (Q (rx c44_33) (Q (rx c44_35) (Q (rx c44_37) (Q (rx c44_39) (Q (rx c44_41) (Q (rx c44_43) (Q (rx c44_45) (Q (rx c44_47) (Q (rx c44_49) (Q (rx c44_52) (Q (rx c44_54) (Q (rx c44_57) (Q (rx c44_61) (Q (rx c44_63) (Q @K44_10.eq_1 (Q (rx c44_1) (Q @ao65 (Q (rx c44_3) (Q @ao66 (Q (rx c44_5) (Q (fun (mm : Int) (l_0 : Bool) (l_1 : List (Bs × Bs)) => (show callW (E0 mm) 49 [cd (.lst l_0 (enL enSS l_1)), cd (dS ([99, 97, 99, 104, 101, 45, 99, 111, 110, 116, 114, 111, 108] : Bs))] [] = _ from f49_t l_0 l_1 ([99, 97, 99, 104, 101, 45, 99, 111, 110, 116, 114, 111, 108] : Bs))) (Q (rx c44_8) (Q (fun mm => lx (E0 mm) 44 c44_10 c44_11 L44_10) (Q (nE c44_0 (.seq c44_1 (.seq c44_3 (.seq c44_5 (.seq (.seq c44_8 (.block 0 c44_10)) c44_68))))) (Q (nE c44_11 (.seq (.seq c44_13 (.cond _ .skip (.exit 0))) (.seq (.block 1 (.seq c44_20 (.seq (.seq c44_23 (.cond _ (.exit 1) .skip)) (.seq c44_28 (.seq c44_30 (.block 2 (.seq c44_33 (.cond _ c44_35 (.seq c44_37 (.cond _ c44_39 (.seq c44_41 (.cond _ c44_43 (.seq c44_45 (.cond _ c44_47 (.seq c44_49 (.cond _ (.seq c44_52 (.cond _ c44_54 .skip)) (.seq c44_57 (.cond _ (.seq (.seq c44_61 (.cond _ c44_63 .skip)) c44_65) .skip)))))))))))))))))) c44_67))) (Q (nE c44_73 (.seq (.seq c44_75 (.cond _ .skip (.exit 3))) (.seq (.block 4 (.seq c44_82 (.cond _ (.seq c44_85 .ret) .skip))) c44_88))) (Q (nE c44_96 (.seq (.seq c44_98 (.cond _ .skip (.exit 5))) (.seq (.block 6 (.seq c44_105 (.cond _ c44_107 .skip))) c44_109))) (Q @en44_10.eq_1 (Q @en44_72.eq_1 (Q @en44_95.eq_1 (Q @L44_10.eq_1 (Q @L44_72.eq_1 (Q @L44_95.eq_1 hA))))))))))))))))))))))))))))))))))))))))))))))))))))))))))))))))))))))))))
theorem j44_67_t (l0_0 : Bool) (l0_1 : List (Bs × Bs)) (all4_0 : Bool) (all4_1 : List Bs) (i5 : Int) (h0_0 h0_1 : Bool) (h0_2 h0_3 : Bool) (h0_4 h0_5 : Bool) (h0_6 h0_7 : Int) (h0_8 h0_9 : Int) (h1_0 h1_1 : Bool) (h1_2 h1_3 : Bool) (h1_4 h1_5 : Bool) (h1_6 h1_7 : Int) (h1_8 h1_9 : Int)  (sl : Sl) (_ : sl 0 = vd (.lst l0_0 (enL enSS l0_1))) (_ : sl 2 = .v (.c (.ptr 0 0))) (_ : sl 3 = .v (.c (.ptr 1 0))) (_ : sl 4 = .v (.c (.own all4_0 (enL enS all4_1) 2))) (_ : sl 5 = vd (dI i5)) :
    stepE (K44_10 mm) (loopK 0 L44_10 (dn (E0 mm) 44 0 c44_67 sl [.cells [.d (dB h0_0), .d (dB h0_1), .d (dB h0_2), .d (dB h0_3), .d (dB h0_4), .d (dB h0_5), .d (dI h0_6), .d (dI h0_7), .d (dI h0_8), .d (dI h0_9)], .cells [.d (dB h1_0), .d (dB h1_1), .d (dB h1_2), .d (dB h1_3), .d (dB h1_4), .d (dB h1_5), .d (dI h1_6), .d (dI h1_7), .d (dI h1_8), .d (dI h1_9)], .row all4_1.length (rz all4_0 1)])) = (j44_67 l0_0 l0_1 all4_0 all4_1 i5 h0_0 h0_1 h0_2 h0_3 h0_4 h0_5 h0_6 h0_7 h0_8 h0_9 h1_0 h1_1 h1_2 h1_3 h1_4 h1_5 h1_6 h1_7 h1_8 h1_9).map (sm en44_10 e44) := by
  unfold j44_67; exact go (Q (rx c44_67) k44) trivial
def j44_65 (l0_0 : Bool) (l0_1 : List (Bs × Bs)) (all4_0 : Bool) (all4_1 : List Bs) (i5 n9 : Int) (h0_0 h0_1 : Bool) (h0_2 h0_3 : Bool) (h0_4 h0_5 : Bool) (h0_6 h0_7 : Int) (h0_8 h0_9 : Int) (h1_0 h1_1 : Bool) (h1_2 h1_3 : Bool) (h1_4 h1_5 : Bool) (h1_6 h1_7 : Int) (h1_8 h1_9 : Int) : Option ((Bool × List (Bs × Bs) × Bool × List Bs × Int × Bool × Bool × Bool × Bool × Bool × Bool × Int × Int × Int × Int × Bool × Bool × Bool × Bool × Bool × Bool × Int × Int × Int × Int) ⊕ R44) :=
  (m94 h1_9 n9).bind fun yr22 =>
    j44_67 l0_0 l0_1 all4_0 all4_1 i5 h0_0 h0_1 h0_2 h0_3 h0_4 h0_5 h0_6 h0_7 h0_8 h0_9 h1_0 h1_1 h1_2 h1_3 h1_4 h1_5 h1_6 h1_7 h1_8 yr22
theorem j44_65_t (l0_0 : Bool) (l0_1 : List (Bs × Bs)) (all4_0 : Bool) (all4_1 : List Bs) (i5 n9 : Int) (h0_0 h0_1 : Bool) (h0_2 h0_3 : Bool) (h0_4 h0_5 : Bool) (h0_6 h0_7 : Int) (h0_8 h0_9 : Int) (h1_0 h1_1 : Bool) (h1_2 h1_3 : Bool) (h1_4 h1_5 : Bool) (h1_6 h1_7 : Int) (h1_8 h1_9 : Int)  (sl : Sl) (_ : sl 0 = vd (.lst l0_0 (enL enSS l0_1))) (_ : sl 2 = .v (.c (.ptr 0 0))) (_ : sl 3 = .v (.c (.ptr 1 0))) (_ : sl 4 = .v (.c (.own all4_0 (enL enS all4_1) 2))) (_ : sl 5 = vd (dI i5)) (_ : sl 9 = vd (dI n9)) :
    stepE (K44_10 mm) (loopK 0 L44_10 (sq (E0 mm) 44 0 c44_67 (blockD 1 (blockD 2 (dn (E0 mm) 44 0 c44_65 sl [.cells [.d (dB h0_0), .d (dB h0_1), .d (dB h0_2), .d (dB h0_3), .d (dB h0_4), .d (dB h0_5), .d (dI h0_6), .d (dI h0_7), .d (dI h0_8), .d (dI h0_9)], .cells [.d (dB h1_0), .d (dB h1_1), .d (dB h1_2), .d (dB h1_3), .d (dB h1_4), .d (dB h1_5), .d (dI h1_6), .d (dI h1_7), .d (dI h1_8), .d (dI h1_9)], .row all4_1.length (rz all4_0 1)]))))) = (j44_65 l0_0 l0_1 all4_0 all4_1 i5 n9 h0_0 h0_1 h0_2 h0_3 h0_4 h0_5 h0_6 h0_7 h0_8 h0_9 h1_0 h1_1 h1_2 h1_3 h1_4 h1_5 h1_6 h1_7 h1_8 h1_9).map (sm en44_10 e44) := by
  unfold j44_65; exact go (Q (rx c44_65) k44) @j44_67_t
def j44_109 (old11_0 : Bool) (old11_1 : List Bs) (i12 : Int) (h0_0 h0_1 : Bool) (h0_2 h0_3 : Bool) (h0_4 h0_5 : Bool) (h0_6 h0_7 : Int) (h0_8 h0_9 : Int) (h1_0 h1_1 : Bool) (h1_2 h1_3 : Bool) (h1_4 h1_5 : Bool) (h1_6 h1_7 : Int) (h1_8 h1_9 : Int) : Option ((Bool × List Bs × Int × Bool × Bool × Bool × Bool × Bool × Bool × Int × Int × Int × Int × Bool × Bool × Bool × Bool × Bool × Bool × Int × Int × Int × Int) ⊕ R44) :=
  some (.inl (old11_0, old11_1, (w64 (i12 + 1)), h0_0, h0_1, h0_2, h0_3, h0_4, h0_5, h0_6, h0_7, h0_8, h0_9, h1_0, h1_1, h1_2, h1_3, h1_4, h1_5, h1_6, h1_7, h1_8, h1_9))
theorem j44_109_t (old11_0 : Bool) (old11_1 : List Bs) (i12 : Int) (h0_0 h0_1 : Bool) (h0_2 h0_3 : Bool) (h0_4 h0_5 : Bool) (h0_6 h0_7 : Int) (h0_8 h0_9 : Int) (h1_0 h1_1 : Bool) (h1_2 h1_3 : Bool) (h1_4 h1_5 : Bool) (h1_6 h1_7 : Int) (h1_8 h1_9 : Int)  (sl : Sl) (_ : sl 2 = .v (.c (.ptr 0 0))) (_ : sl 3 = .v (.c (.ptr 1 0))) (_ : sl 11 = .v (.c (.own old11_0 (enL enS old11_1) 2))) (_ : sl 12 = vd (dI i12)) :
    stepE (K44_95 mm) (loopK 0 L44_95 (dn (E0 mm) 44 0 c44_109 sl [.cells [.d (dB h0_0), .d (dB h0_1), .d (dB h0_2), .d (dB h0_3), .d (dB h0_4), .d (dB h0_5), .d (dI h0_6), .d (dI h0_7), .d (dI h0_8), .d (dI h0_9)], .cells [.d (dB h1_0), .d (dB h1_1), .d (dB h1_2), .d (dB h1_3), .d (dB h1_4), .d (dB h1_5), .d (dI h1_6), .d (dI h1_7), .d (dI h1_8), .d (dI h1_9)], .row old11_1.length (rz old11_0 1)])) = (j44_109 old11_0 old11_1 i12 h0_0 h0_1 h0_2 h0_3 h0_4 h0_5 h0_6 h0_7 h0_8 h0_9 h1_0 h1_1 h1_2 h1_3 h1_4 h1_5 h1_6 h1_7 h1_8 h1_9).map (sm en44_95 e44) := by
  unfold j44_109; exact go (Q (rx c44_109) k44) trivial
def j44_110 (h0_0 h0_1 : Bool) (h0_2 h0_3 : Bool) (h0_4 h0_5 : Bool) (h0_6 h0_7 : Int) (h0_8 h0_9 : Int) (h1_0 h1_1 : Bool) (h1_2 h1_3 : Bool) (h1_4 h1_5 : Bool) (h1_6 h1_7 : Int) (h1_8 h1_9 : Int) : Option R44 :=
  some (h1_0, h1_1, h1_2, h1_3, h1_4, h1_5, h1_6, h1_7, h1_8, h1_9)
theorem j44_110_t (h0_0 h0_1 : Bool) (h0_2 h0_3 : Bool) (h0_4 h0_5 : Bool) (h0_6 h0_7 : Int) (h0_8 h0_9 : Int) (h1_0 h1_1 : Bool) (h1_2 h1_3 : Bool) (h1_4 h1_5 : Bool) (h1_6 h1_7 : Int) (h1_8 h1_9 : Int) (g2 : Ob) (sl : Sl) (_ : sl 2 = .v (.c (.ptr 0 0))) (_ : sl 3 = .v (.c (.ptr 1 0))) :
    b44 mm (dn (E0 mm) 44 0 c44_110 sl [.cells [.d (dB h0_0), .d (dB h0_1), .d (dB h0_2), .d (dB h0_3), .d (dB h0_4), .d (dB h0_5), .d (dI h0_6), .d (dI h0_7), .d (dI h0_8), .d (dI h0_9)], .cells [.d (dB h1_0), .d (dB h1_1), .d (dB h1_2), .d (dB h1_3), .d (dB h1_4), .d (dB h1_5), .d (dI h1_6), .d (dI h1_7), .d (dI h1_8), .d (dI h1_9)], g2]) = (j44_110 h0_0 h0_1 h0_2 h0_3 h0_4 h0_5 h0_6 h0_7 h0_8 h0_9 h1_0 h1_1 h1_2 h1_3 h1_4 h1_5 h1_6 h1_7 h1_8 h1_9).map e44 := by
  unfold j44_110; exact go (Q (nE c44_110 (.seq c44_111 .ret)) k44) trivial
def s44_95 (old11_0 : Bool) (old11_1 : List Bs) (i12 : Int) (h0_0 h0_1 : Bool) (h0_2 h0_3 : Bool) (h0_4 h0_5 : Bool) (h0_6 h0_7 : Int) (h0_8 h0_9 : Int) (h1_0 h1_1 : Bool) (h1_2 h1_3 : Bool) (h1_4 h1_5 : Bool) (h1_6 h1_7 : Int) (h1_8 h1_9 : Int) : Option ((Bool × List Bs × Int × Bool × Bool × Bool × Bool × Bool × Bool × Int × Int × Int × Int × Bool × Bool × Bool × Bool × Bool × Bool × Int × Int × Int × Int) ⊕ R44) :=
  if (decide (i12 < (old11_1.length : Int))) = true then
    if 0 ≤ i12 ∧ i12 < (old11_1.length : Int) then
      (m51 (old11_1.getD i12.toNat default)).bind fun yr35 =>
        if (yr35 == ([110, 111, 45, 99, 97, 99, 104, 101] : Bs)) = true then
          j44_109 old11_0 old11_1 i12 h0_0 h0_1 h0_2 h0_3 h0_4 h0_5 h0_6 h0_7 h0_8 h0_9 h1_0 true h1_2 h1_3 h1_4 h1_5 h1_6 h1_7 h1_8 h1_9
        else
          j44_109 old11_0 old11_1 i12 h0_0 h0_1 h0_2 h0_3 h0_4 h0_5 h0_6 h0_7 h0_8 h0_9 h1_0 h1_1 h1_2 h1_3 h1_4 h1_5 h1_6 h1_7 h1_8 h1_9
    else none
  else
    (j44_110 h0_0 h0_1 h0_2 h0_3 h0_4 h0_5 h0_6 h0_7 h0_8 h0_9 h1_0 h1_1 h1_2 h1_3 h1_4 h1_5 h1_6 h1_7 h1_8 h1_9).map .inr
theorem s44_95_t (old11_0 : Bool) (old11_1 : List Bs) (i12 : Int) (h0_0 h0_1 : Bool) (h0_2 h0_3 : Bool) (h0_4 h0_5 : Bool) (h0_6 h0_7 : Int) (h0_8 h0_9 : Int) (h1_0 h1_1 : Bool) (h1_2 h1_3 : Bool) (h1_4 h1_5 : Bool) (h1_6 h1_7 : Int) (h1_8 h1_9 : Int) :
    stepE (K44_95 mm) (lp (E0 mm) 44 0 c44_96 L44_95 (en44_95 (old11_0, old11_1, i12, h0_0, h0_1, h0_2, h0_3, h0_4, h0_5, h0_6, h0_7, h0_8, h0_9, h1_0, h1_1, h1_2, h1_3, h1_4, h1_5, h1_6, h1_7, h1_8, h1_9))) = (s44_95 old11_0 old11_1 i12 h0_0 h0_1 h0_2 h0_3 h0_4 h0_5 h0_6 h0_7 h0_8 h0_9 h1_0 h1_1 h1_2 h1_3 h1_4 h1_5 h1_6 h1_7 h1_8 h1_9).map (sm en44_95 e44) := by
  unfold s44_95; exact go k44 (Q @j44_109_t @j44_110_t)
def l44_95 (old11_0 : Bool) (old11_1 : List Bs) (i12 : Int) (h0_0 h0_1 : Bool) (h0_2 h0_3 : Bool) (h0_4 h0_5 : Bool) (h0_6 h0_7 : Int) (h0_8 h0_9 : Int) (h1_0 h1_1 : Bool) (h1_2 h1_3 : Bool) (h1_4 h1_5 : Bool) (h1_6 h1_7 : Int) (h1_8 h1_9 : Int) : Option R44 := iter (fun x : (Bool × List Bs × Int × Bool × Bool × Bool × Bool × Bool × Bool × Int × Int × Int × Int × Bool × Bool × Bool × Bool × Bool × Bool × Int × Int × Int × Int) => s44_95 x.1 x.2.1 x.2.2.1 x.2.2.2.1 x.2.2.2.2.1 x.2.2.2.2.2.1 x.2.2.2.2.2.2.1 x.2.2.2.2.2.2.2.1 x.2.2.2.2.2.2.2.2.1 x.2.2.2.2.2.2.2.2.2.1 x.2.2.2.2.2.2.2.2.2.2.1 x.2.2.2.2.2.2.2.2.2.2.2.1 x.2.2.2.2.2.2.2.2.2.2.2.2.1 x.2.2.2.2.2.2.2.2.2.2.2.2.2.1 x.2.2.2.2.2.2.2.2.2.2.2.2.2.2.1 x.2.2.2.2.2.2.2.2.2.2.2.2.2.2.2.1 x.2.2.2.2.2.2.2.2.2.2.2.2.2.2.2.2.1 x.2.2.2.2.2.2.2.2.2.2.2.2.2.2.2.2.2.1 x.2.2.2.2.2.2.2.2.2.2.2.2.2.2.2.2.2.2.1 x.2.2.2.2.2.2.2.2.2.2.2.2.2.2.2.2.2.2.2.1 x.2.2.2.2.2.2.2.2.2.2.2.2.2.2.2.2.2.2.2.2.1 x.2.2.2.2.2.2.2.2.2.2.2.2.2.2.2.2.2.2.2.2.2.1 x.2.2.2.2.2.2.2.2.2.2.2.2.2.2.2.2.2.2.2.2.2.2) (old11_0, old11_1, i12, h0_0, h0_1, h0_2, h0_3, h0_4, h0_5, h0_6, h0_7, h0_8, h0_9, h1_0, h1_1, h1_2, h1_3, h1_4, h1_5, h1_6, h1_7, h1_8, h1_9)
theorem l44_95_t (old11_0 : Bool) (old11_1 : List Bs) (i12 : Int) (h0_0 h0_1 : Bool) (h0_2 h0_3 : Bool) (h0_4 h0_5 : Bool) (h0_6 h0_7 : Int) (h0_8 h0_9 : Int) (h1_0 h1_1 : Bool) (h1_2 h1_3 : Bool) (h1_4 h1_5 : Bool) (h1_6 h1_7 : Int) (h1_8 h1_9 : Int) : (K44_95 mm) (itW (lp (E0 mm) 44 0 c44_96 L44_95) (en44_95 (old11_0, old11_1, i12, h0_0, h0_1, h0_2, h0_3, h0_4, h0_5, h0_6, h0_7, h0_8, h0_9, h1_0, h1_1, h1_2, h1_3, h1_4, h1_5, h1_6, h1_7, h1_8, h1_9))) = (l44_95 old11_0 old11_1 i12 h0_0 h0_1 h0_2 h0_3 h0_4 h0_5 h0_6 h0_7 h0_8 h0_9 h1_0 h1_1 h1_2 h1_3 h1_4 h1_5 h1_6 h1_7 h1_8 h1_9).map e44 :=
  it_sim (K := (K44_95 mm)) rfl (enc := en44_95) (fun x => s44_95_t x.1 x.2.1 x.2.2.1 x.2.2.2.1 x.2.2.2.2.1 x.2.2.2.2.2.1 x.2.2.2.2.2.2.1 x.2.2.2.2.2.2.2.1 x.2.2.2.2.2.2.2.2.1 x.2.2.2.2.2.2.2.2.2.1 x.2.2.2.2.2.2.2.2.2.2.1 x.2.2.2.2.2.2.2.2.2.2.2.1 x.2.2.2.2.2.2.2.2.2.2.2.2.1 x.2.2.2.2.2.2.2.2.2.2.2.2.2.1 x.2.2.2.2.2.2.2.2.2.2.2.2.2.2.1 x.2.2.2.2.2.2.2.2.2.2.2.2.2.2.2.1 x.2.2.2.2.2.2.2.2.2.2.2.2.2.2.2.2.1 x.2.2.2.2.2.2.2.2.2.2.2.2.2.2.2.2.2.1 x.2.2.2.2.2.2.2.2.2.2.2.2.2.2.2.2.2.2.1 x.2.2.2.2.2.2.2.2.2.2.2.2.2.2.2.2.2.2.2.1 x.2.2.2.2.2.2.2.2.2.2.2.2.2.2.2.2.2.2.2.2.1 x.2.2.2.2.2.2.2.2.2.2.2.2.2.2.2.2.2.2.2.2.2.1 x.2.2.2.2.2.2.2.2.2.2.2.2.2.2.2.2.2.2.2.2.2.2) (old11_0, old11_1, i12, h0_0, h0_1, h0_2, h0_3, h0_4, h0_5, h0_6, h0_7, h0_8, h0_9, h1_0, h1_1, h1_2, h1_3, h1_4, h1_5, h1_6, h1_7, h1_8, h1_9)
def j44_89 (l0_0 : Bool) (l0_1 : List (Bs × Bs)) (h0_0 h0_1 : Bool) (h0_2 h0_3 : Bool) (h0_4 h0_5 : Bool) (h0_6 h0_7 : Int) (h0_8 h0_9 : Int) (h1_0 h1_1 : Bool) (h1_2 h1_3 : Bool) (h1_4 h1_5 : Bool) (h1_6 h1_7 : Int) (h1_8 h1_9 : Int) : Option R44 :=
  (m49 l0_0 l0_1 ([112, 114, 97, 103, 109, 97] : Bs)).bind fun yr30 =>
    l44_95 yr30.1 yr30.2 (0 : Int) h0_0 h0_1 h0_2 h0_3 h0_4 h0_5 h0_6 h0_7 h0_8 h0_9 h1_0 h1_1 h1_2 h1_3 h1_4 h1_5 h1_6 h1_7 h1_8 h1_9
theorem j44_89_t (l0_0 : Bool) (l0_1 : List (Bs × Bs)) (h0_0 h0_1 : Bool) (h0_2 h0_3 : Bool) (h0_4 h0_5 : Bool) (h0_6 h0_7 : Int) (h0_8 h0_9 : Int) (h1_0 h1_1 : Bool) (h1_2 h1_3 : Bool) (h1_4 h1_5 : Bool) (h1_6 h1_7 : Int) (h1_8 h1_9 : Int)  (sl : Sl) (_ : sl 0 = vd (.lst l0_0 (enL enSS l0_1))) (_ : sl 2 = .v (.c (.ptr 0 0))) (_ : sl 3 = .v (.c (.ptr 1 0))) :
    b44 mm (dn (E0 mm) 44 0 c44_89 sl [.cells [.d (dB h0_0), .d (dB h0_1), .d (dB h0_2), .d (dB h0_3), .d (dB h0_4), .d (dB h0_5), .d (dI h0_6), .d (dI h0_7), .d (dI h0_8), .d (dI h0_9)], .cells [.d (dB h1_0), .d (dB h1_1), .d (dB h1_2), .d (dB h1_3), .d (dB h1_4), .d (dB h1_5), .d (dI h1_6), .d (dI h1_7), .d (dI h1_8), .d (dI h1_9)]]) = (j44_89 l0_0 l0_1 h0_0 h0_1 h0_2 h0_3 h0_4 h0_5 h0_6 h0_7 h0_8 h0_9 h1_0 h1_1 h1_2 h1_3 h1_4 h1_5 h1_6 h1_7 h1_8 h1_9).map e44 := by
  unfold j44_89; exact go (Q (nE c44_89 (.seq c44_90 (.seq (.seq c44_93 (.block 5 c44_95)) c44_110))) k44) @l44_95_t
def s44_72 (l0_0 : Bool) (l0_1 : List (Bs × Bs)) (i10 : Int) (h0_0 h0_1 : Bool) (h0_2 h0_3 : Bool) (h0_4 h0_5 : Bool) (h0_6 h0_7 : Int) (h0_8 h0_9 : Int) (h1_0 h1_1 : Bool) (h1_2 h1_3 : Bool) (h1_4 h1_5 : Bool) (h1_6 h1_7 : Int) (h1_8 h1_9 : Int) : Option ((Bool × List (Bs × Bs) × Int × Bool × Bool × Bool × Bool × Bool × Bool × Int × Int × Int × Int × Bool × Bool × Bool × Bool × Bool × Bool × Int × Int × Int × Int) ⊕ R44) :=
  if (decide (i10 < (l0_1.length : Int))) = true then
    if 0 ≤ i10 ∧ i10 < (l0_1.length : Int) then
      (m95 ((l0_1.getD i10.toNat default).1) ([99, 97, 99, 104, 101, 45, 99, 111, 110, 116, 114, 111, 108] : Bs)).bind fun yr27 =>
        if yr27 = true then
          some (.inr (h1_0, h1_1, h1_2, h1_3, h1_4, h1_5, h1_6, h1_7, h1_8, h1_9))
        else
          some (.inl (l0_0, l0_1, (w64 (i10 + 1)), h0_0, h0_1, h0_2, h0_3, h0_4, h0_5, h0_6, h0_7, h0_8, h0_9, h1_0, h1_1, h1_2, h1_3, h1_4, h1_5, h1_6, h1_7, h1_8, h1_9))
    else none
  else
    (j44_89 l0_0 l0_1 h0_0 h0_1 h0_2 h0_3 h0_4 h0_5 h0_6 h0_7 h0_8 h0_9 h1_0 h1_1 h1_2 h1_3 h1_4 h1_5 h1_6 h1_7 h1_8 h1_9).map .inr
theorem s44_72_t (l0_0 : Bool) (l0_1 : List (Bs × Bs)) (i10 : Int) (h0_0 h0_1 : Bool) (h0_2 h0_3 : Bool) (h0_4 h0_5 : Bool) (h0_6 h0_7 : Int) (h0_8 h0_9 : Int) (h1_0 h1_1 : Bool) (h1_2 h1_3 : Bool) (h1_4 h1_5 : Bool) (h1_6 h1_7 : Int) (h1_8 h1_9 : Int) :
    stepE (K44_72 mm) (lp (E0 mm) 44 0 c44_73 L44_72 (en44_72 (l0_0, l0_1, i10, h0_0, h0_1, h0_2, h0_3, h0_4, h0_5, h0_6, h0_7, h0_8, h0_9, h1_0, h1_1, h1_2, h1_3, h1_4, h1_5, h1_6, h1_7, h1_8, h1_9))) = (s44_72 l0_0 l0_1 i10 h0_0 h0_1 h0_2 h0_3 h0_4 h0_5 h0_6 h0_7 h0_8 h0_9 h1_0 h1_1 h1_2 h1_3 h1_4 h1_5 h1_6 h1_7 h1_8 h1_9).map (sm en44_72 e44) := by
  unfold s44_72; exact go k44 @j44_89_t
def l44_72 (l0_0 : Bool) (l0_1 : List (Bs × Bs)) (i10 : Int) (h0_0 h0_1 : Bool) (h0_2 h0_3 : Bool) (h0_4 h0_5 : Bool) (h0_6 h0_7 : Int) (h0_8 h0_9 : Int) (h1_0 h1_1 : Bool) (h1_2 h1_3 : Bool) (h1_4 h1_5 : Bool) (h1_6 h1_7 : Int) (h1_8 h1_9 : Int) : Option R44 := iter (fun x : (Bool × List (Bs × Bs) × Int × Bool × Bool × Bool × Bool × Bool × Bool × Int × Int × Int × Int × Bool × Bool × Bool × Bool × Bool × Bool × Int × Int × Int × Int) => s44_72 x.1 x.2.1 x.2.2.1 x.2.2.2.1 x.2.2.2.2.1 x.2.2.2.2.2.1 x.2.2.2.2.2.2.1 x.2.2.2.2.2.2.2.1 x.2.2.2.2.2.2.2.2.1 x.2.2.2.2.2.2.2.2.2.1 x.2.2.2.2.2.2.2.2.2.2.1 x.2.2.2.2.2.2.2.2.2.2.2.1 x.2.2.2.2.2.2.2.2.2.2.2.2.1 x.2.2.2.2.2.2.2.2.2.2.2.2.2.1 x.2.2.2.2.2.2.2.2.2.2.2.2.2.2.1 x.2.2.2.2.2.2.2.2.2.2.2.2.2.2.2.1 x.2.2.2.2.2.2.2.2.2.2.2.2.2.2.2.2.1 x.2.2.2.2.2.2.2.2.2.2.2.2.2.2.2.2.2.1 x.2.2.2.2.2.2.2.2.2.2.2.2.2.2.2.2.2.2.1 x.2.2.2.2.2.2.2.2.2.2.2.2.2.2.2.2.2.2.2.1 x.2.2.2.2.2.2.2.2.2.2.2.2.2.2.2.2.2.2.2.2.1 x.2.2.2.2.2.2.2.2.2.2.2.2.2.2.2.2.2.2.2.2.2.1 x.2.2.2.2.2.2.2.2.2.2.2.2.2.2.2.2.2.2.2.2.2.2) (l0_0, l0_1, i10, h0_0, h0_1, h0_2, h0_3, h0_4, h0_5, h0_6, h0_7, h0_8, h0_9, h1_0, h1_1, h1_2, h1_3, h1_4, h1_5, h1_6, h1_7, h1_8, h1_9)
theorem l44_72_t (l0_0 : Bool) (l0_1 : List (Bs × Bs)) (i10 : Int) (h0_0 h0_1 : Bool) (h0_2 h0_3 : Bool) (h0_4 h0_5 : Bool) (h0_6 h0_7 : Int) (h0_8 h0_9 : Int) (h1_0 h1_1 : Bool) (h1_2 h1_3 : Bool) (h1_4 h1_5 : Bool) (h1_6 h1_7 : Int) (h1_8 h1_9 : Int) : (K44_72 mm) (itW (lp (E0 mm) 44 0 c44_73 L44_72) (en44_72 (l0_0, l0_1, i10, h0_0, h0_1, h0_2, h0_3, h0_4, h0_5, h0_6, h0_7, h0_8, h0_9, h1_0, h1_1, h1_2, h1_3, h1_4, h1_5, h1_6, h1_7, h1_8, h1_9))) = (l44_72 l0_0 l0_1 i10 h0_0 h0_1 h0_2 h0_3 h0_4 h0_5 h0_6 h0_7 h0_8 h0_9 h1_0 h1_1 h1_2 h1_3 h1_4 h1_5 h1_6 h1_7 h1_8 h1_9).map e44 :=
  it_sim (K := (K44_72 mm)) rfl (enc := en44_72) (fun x => s44_72_t x.1 x.2.1 x.2.2.1 x.2.2.2.1 x.2.2.2.2.1 x.2.2.2.2.2.1 x.2.2.2.2.2.2.1 x.2.2.2.2.2.2.2.1 x.2.2.2.2.2.2.2.2.1 x.2.2.2.2.2.2.2.2.2.1 x.2.2.2.2.2.2.2.2.2.2.1 x.2.2.2.2.2.2.2.2.2.2.2.1 x.2.2.2.2.2.2.2.2.2.2.2.2.1 x.2.2.2.2.2.2.2.2.2.2.2.2.2.1 x.2.2.2.2.2.2.2.2.2.2.2.2.2.2.1 x.2.2.2.2.2.2.2.2.2.2.2.2.2.2.2.1 x.2.2.2.2.2.2.2.2.2.2.2.2.2.2.2.2.1 x.2.2.2.2.2.2.2.2.2.2.2.2.2.2.2.2.2.1 x.2.2.2.2.2.2.2.2.2.2.2.2.2.2.2.2.2.2.1 x.2.2.2.2.2.2.2.2.2.2.2.2.2.2.2.2.2.2.2.1 x.2.2.2.2.2.2.2.2.2.2.2.2.2.2.2.2.2.2.2.2.1 x.2.2.2.2.2.2.2.2.2.2.2.2.2.2.2.2.2.2.2.2.2.1 x.2.2.2.2.2.2.2.2.2.2.2.2.2.2.2.2.2.2.2.2.2.2) (l0_0, l0_1, i10, h0_0, h0_1, h0_2, h0_3, h0_4, h0_5, h0_6, h0_7, h0_8, h0_9, h1_0, h1_1, h1_2, h1_3, h1_4, h1_5, h1_6, h1_7, h1_8, h1_9)
def j44_68 (l0_0 : Bool) (l0_1 : List (Bs × Bs)) (h0_0 h0_1 : Bool) (h0_2 h0_3 : Bool) (h0_4 h0_5 : Bool) (h0_6 h0_7 : Int) (h0_8 h0_9 : Int) (h1_0 h1_1 : Bool) (h1_2 h1_3 : Bool) (h1_4 h1_5 : Bool) (h1_6 h1_7 : Int) (h1_8 h1_9 : Int) : Option R44 :=
  l44_72 l0_0 l0_1 (0 : Int) h0_0 h0_1 h0_2 h0_3 h0_4 h0_5 h0_6 h0_7 h0_8 h0_9 h1_0 h1_1 h1_2 h1_3 h1_4 h1_5 h1_6 h1_7 h1_8 h1_9
theorem j44_68_t (l0_0 : Bool) (l0_1 : List (Bs × Bs)) (h0_0 h0_1 : Bool) (h0_2 h0_3 : Bool) (h0_4 h0_5 : Bool) (h0_6 h0_7 : Int) (h0_8 h0_9 : Int) (h1_0 h1_1 : Bool) (h1_2 h1_3 : Bool) (h1_4 h1_5 : Bool) (h1_6 h1_7 : Int) (h1_8 h1_9 : Int) (g2 : Ob) (sl : Sl) (_ : sl 0 = vd (.lst l0_0 (enL enSS l0_1))) (_ : sl 2 = .v (.c (.ptr 0 0))) (_ : sl 3 = .v (.c (.ptr 1 0))) :
    b44 mm (dn (E0 mm) 44 0 c44_68 sl [.cells [.d (dB h0_0), .d (dB h0_1), .d (dB h0_2), .d (dB h0_3), .d (dB h0_4), .d (dB h0_5), .d (dI h0_6), .d (dI h0_7), .d (dI h0_8), .d (dI h0_9)], .cells [.d (dB h1_0), .d (dB h1_1), .d (dB h1_2), .d (dB h1_3), .d (dB h1_4), .d (dB h1_5), .d (dI h1_6), .d (dI h1_7), .d (dI h1_8), .d (dI h1_9)], g2]) = (j44_68 l0_0 l0_1 h0_0 h0_1 h0_2 h0_3 h0_4 h0_5 h0_6 h0_7 h0_8 h0_9 h1_0 h1_1 h1_2 h1_3 h1_4 h1_5 h1_6 h1_7 h1_8 h1_9).map e44 := by
  unfold j44_68; exact go (Q (nE c44_68 (.seq (.seq c44_70 (.block 3 c44_72)) c44_89)) k44) @l44_72_t
def s44_10 (l0_0 : Bool) (l0_1 : List (Bs × Bs)) (all4_0 : Bool) (all4_1 : List Bs) (i5 : Int) (h0_0 h0_1 : Bool) (h0_2 h0_3 : Bool) (h0_4 h0_5 : Bool) (h0_6 h0_7 : Int) (h0_8 h0_9 : Int) (h1_0 h1_1 : Bool) (h1_2 h1_3 : Bool) (h1_4 h1_5 : Bool) (h1_6 h1_7 : Int) (h1_8 h1_9 : Int) : Option ((Bool × List (Bs × Bs) × Bool × List Bs × Int × Bool × Bool × Bool × Bool × Bool × Bool × Int × Int × Int × Int × Bool × Bool × Bool × Bool × Bool × Bool × Int × Int × Int × Int) ⊕ R44) :=
  if (decide (i5 < (all4_1.length : Int))) = true then
    if 0 ≤ i5 ∧ i5 < (all4_1.length : Int) then
      (m92 (all4_1.getD i5.toNat default)).bind fun yr7 =>
        if yr7.2.2 = true then
          (m93 yr7.2.1).bind fun yr10 =>
            if (yr7.1 == ([110, 111, 45, 115, 116, 111, 114, 101] : Bs)) = true then
              j44_67 l0_0 l0_1 all4_0 all4_1 i5 h0_0 h0_1 h0_2 h0_3 h0_4 h0_5 h0_6 h0_7 h0_8 h0_9 true h1_1 h1_2 h1_3 h1_4 h1_5 h1_6 h1_7 h1_8 h1_9
            else
              if (yr7.1 == ([110, 111, 45, 99, 97, 99, 104, 101] : Bs)) = true then
                j44_67 l0_0 l0_1 all4_0 all4_1 i5 h0_0 h0_1 h0_2 h0_3 h0_4 h0_5 h0_6 h0_7 h0_8 h0_9 h1_0 true h1_2 h1_3 h1_4 h1_5 h1_6 h1_7 h1_8 h1_9
              else
                if (yr7.1 == ([111, 110, 108, 121, 45, 105, 102, 45, 99, 97, 99, 104, 101, 100] : Bs)) = true then
                  j44_67 l0_0 l0_1 all4_0 all4_1 i5 h0_0 h0_1 h0_2 h0_3 h0_4 h0_5 h0_6 h0_7 h0_8 h0_9 h1_0 h1_1 h1_2 h1_3 h1_4 true h1_6 h1_7 h1_8 h1_9
                else
                  if (yr7.1 == ([109, 97, 120, 45, 97, 103, 101] : Bs)) = true then
                    (m94 h1_6 yr10).bind fun yr16 =>
                      j44_67 l0_0 l0_1 all4_0 all4_1 i5 h0_0 h0_1 h0_2 h0_3 h0_4 h0_5 h0_6 h0_7 h0_8 h0_9 h1_0 h1_1 h1_2 h1_3 h1_4 h1_5 yr16 h1_7 h1_8 h1_9
                  else
                    if (yr7.1 == ([109, 105, 110, 45, 102, 114, 101, 115, 104] : Bs)) = true then
                      if (decide (h1_8 < yr10)) = true then
                        j44_67 l0_0 l0_1 all4_0 all4_1 i5 h0_0 h0_1 h0_2 h0_3 h0_4 h0_5 h0_6 h0_7 h0_8 h0_9 h1_0 h1_1 h1_2 h1_3 h1_4 h1_5 h1_6 h1_7 yr10 h1_9
                      else
                        j44_67 l0_0 l0_1 all4_0 all4_1 i5 h0_0 h0_1 h0_2 h0_3 h0_4 h0_5 h0_6 h0_7 h0_8 h0_9 h1_0 h1_1 h1_2 h1_3 h1_4 h1_5 h1_6 h1_7 h1_8 h1_9
                    else
                      if (yr7.1 == ([109, 97, 120, 45, 115, 116, 97, 108, 101] : Bs)) = true then
                        if (yr7.2.1 == ([] : Bs)) = true then
                          j44_65 l0_0 l0_1 all4_0 all4_1 i5 (2147483647 : Int) h0_0 h0_1 h0_2 h0_3 h0_4 h0_5 h0_6 h0_7 h0_8 h0_9 h1_0 h1_1 h1_2 h1_3 h1_4 h1_5 h1_6 h1_7 h1_8 h1_9
                        else
                          j44_65 l0_0 l0_1 all4_0 all4_1 i5 yr10 h0_0 h0_1 h0_2 h0_3 h0_4 h0_5 h0_6 h0_7 h0_8 h0_9 h1_0 h1_1 h1_2 h1_3 h1_4 h1_5 h1_6 h1_7 h1_8 h1_9
                      else
                        j44_67 l0_0 l0_1 all4_0 all4_1 i5 h0_0 h0_1 h0_2 h0_3 h0_4 h0_5 h0_6 h0_7 h0_8 h0_9 h1_0 h1_1 h1_2 h1_3 h1_4 h1_5 h1_6 h1_7 h1_8 h1_9
        else
          j44_67 l0_0 l0_1 all4_0 all4_1 i5 h0_0 h0_1 h0_2 h0_3 h0_4 h0_5 h0_6 h0_7 h0_8 h0_9 h1_0 h1_1 h1_2 h1_3 h1_4 h1_5 h1_6 h1_7 h1_8 h1_9
    else none
  else
    (j44_68 l0_0 l0_1 h0_0 h0_1 h0_2 h0_3 h0_4 h0_5 h0_6 h0_7 h0_8 h0_9 h1_0 h1_1 h1_2 h1_3 h1_4 h1_5 h1_6 h1_7 h1_8 h1_9).map .inr
theorem s44_10_t (l0_0 : Bool) (l0_1 : List (Bs × Bs)) (all4_0 : Bool) (all4_1 : List Bs) (i5 : Int) (h0_0 h0_1 : Bool) (h0_2 h0_3 : Bool) (h0_4 h0_5 : Bool) (h0_6 h0_7 : Int) (h0_8 h0_9 : Int) (h1_0 h1_1 : Bool) (h1_2 h1_3 : Bool) (h1_4 h1_5 : Bool) (h1_6 h1_7 : Int) (h1_8 h1_9 : Int) :
    stepE (K44_10 mm) (lp (E0 mm) 44 0 c44_11 L44_10 (en44_10 (l0_0, l0_1, all4_0, all4_1, i5, h0_0, h0_1, h0_2, h0_3, h0_4, h0_5, h0_6, h0_7, h0_8, h0_9, h1_0, h1_1, h1_2, h1_3, h1_4, h1_5, h1_6, h1_7, h1_8, h1_9))) = (s44_10 l0_0 l0_1 all4_0 all4_1 i5 h0_0 h0_1 h0_2 h0_3 h0_4 h0_5 h0_6 h0_7 h0_8 h0_9 h1_0 h1_1 h1_2 h1_3 h1_4 h1_5 h1_6 h1_7 h1_8 h1_9).map (sm en44_10 e44) := by
  unfold s44_10; exact go k44 (Q @j44_67_t (Q @j44_65_t @j44_68_t))
def l44_10 (l0_0 : Bool) (l0_1 : List (Bs × Bs)) (all4_0 : Bool) (all4_1 : List Bs) (i5 : Int) (h0_0 h0_1 : Bool) (h0_2 h0_3 : Bool) (h0_4 h0_5 : Bool) (h0_6 h0_7 : Int) (h0_8 h0_9 : Int) (h1_0 h1_1 : Bool) (h1_2 h1_3 : Bool) (h1_4 h1_5 : Bool) (h1_6 h1_7 : Int) (h1_8 h1_9 : Int) : Option R44 := iter (fun x : (Bool × List (Bs × Bs) × Bool × List Bs × Int × Bool × Bool × Bool × Bool × Bool × Bool × Int × Int × Int × Int × Bool × Bool × Bool × Bool × Bool × Bool × Int × Int × Int × Int) => s44_10 x.1 x.2.1 x.2.2.1 x.2.2.2.1 x.2.2.2.2.1 x.2.2.2.2.2.1 x.2.2.2.2.2.2.1 x.2.2.2.2.2.2.2.1 x.2.2.2.2.2.2.2.2.1 x.2.2.2.2.2.2.2.2.2.1 x.2.2.2.2.2.2.2.2.2.2.1 x.2.2.2.2.2.2.2.2.2.2.2.1 x.2.2.2.2.2.2.2.2.2.2.2.2.1 x.2.2.2.2.2.2.2.2.2.2.2.2.2.1 x.2.2.2.2.2.2.2.2.2.2.2.2.2.2.1 x.2.2.2.2.2.2.2.2.2.2.2.2.2.2.2.1 x.2.2.2.2.2.2.2.2.2.2.2.2.2.2.2.2.1 x.2.2.2.2.2.2.2.2.2.2.2.2.2.2.2.2.2.1 x.2.2.2.2.2.2.2.2.2.2.2.2.2.2.2.2.2.2.1 x.2.2.2.2.2.2.2.2.2.2.2.2.2.2.2.2.2.2.2.1 x.2.2.2.2.2.2.2.2.2.2.2.2.2.2.2.2.2.2.2.2.1 x.2.2.2.2.2.2.2.2.2.2.2.2.2.2.2.2.2.2.2.2.2.1 x.2.2.2.2.2.2.2.2.2.2.2.2.2.2.2.2.2.2.2.2.2.2.1 x.2.2.2.2.2.2.2.2.2.2.2.2.2.2.2.2.2.2.2.2.2.2.2.1 x.2.2.2.2.2.2.2.2.2.2.2.2.2.2.2.2.2.2.2.2.2.2.2.2) (l0_0, l0_1, all4_0, all4_1, i5, h0_0, h0_1, h0_2, h0_3, h0_4, h0_5, h0_6, h0_7, h0_8, h0_9, h1_0, h1_1, h1_2, h1_3, h1_4, h1_5, h1_6, h1_7, h1_8, h1_9)
theorem l44_10_t (l0_0 : Bool) (l0_1 : List (Bs × Bs)) (all4_0 : Bool) (all4_1 : List Bs) (i5 : Int) (h0_0 h0_1 : Bool) (h0_2 h0_3 : Bool) (h0_4 h0_5 : Bool) (h0_6 h0_7 : Int) (h0_8 h0_9 : Int) (h1_0 h1_1 : Bool) (h1_2 h1_3 : Bool) (h1_4 h1_5 : Bool) (h1_6 h1_7 : Int) (h1_8 h1_9 : Int) : (K44_10 mm) (itW (lp (E0 mm) 44 0 c44_11 L44_10) (en44_10 (l0_0, l0_1, all4_0, all4_1, i5, h0_0, h0_1, h0_2, h0_3, h0_4, h0_5, h0_6, h0_7, h0_8, h0_9, h1_0, h1_1, h1_2, h1_3, h1_4, h1_5, h1_6, h1_7, h1_8, h1_9))) = (l44_10 l0_0 l0_1 all4_0 all4_1 i5 h0_0 h0_1 h0_2 h0_3 h0_4 h0_5 h0_6 h0_7 h0_8 h0_9 h1_0 h1_1 h1_2 h1_3 h1_4 h1_5 h1_6 h1_7 h1_8 h1_9).map e44 :=
  it_sim (K := (K44_10 mm)) rfl (enc := en44_10) (fun x => s44_10_t x.1 x.2.1 x.2.2.1 x.2.2.2.1 x.2.2.2.2.1 x.2.2.2.2.2.1 x.2.2.2.2.2.2.1 x.2.2.2.2.2.2.2.1 x.2.2.2.2.2.2.2.2.1 x.2.2.2.2.2.2.2.2.2.1 x.2.2.2.2.2.2.2.2.2.2.1 x.2.2.2.2.2.2.2.2.2.2.2.1 x.2.2.2.2.2.2.2.2.2.2.2.2.1 x.2.2.2.2.2.2.2.2.2.2.2.2.2.1 x.2.2.2.2.2.2.2.2.2.2.2.2.2.2.1 x.2.2.2.2.2.2.2.2.2.2.2.2.2.2.2.1 x.2.2.2.2.2.2.2.2.2.2.2.2.2.2.2.2.1 x.2.2.2.2.2.2.2.2.2.2.2.2.2.2.2.2.2.1 x.2.2.2.2.2.2.2.2.2.2.2.2.2.2.2.2.2.2.1 x.2.2.2.2.2.2.2.2.2.2.2.2.2.2.2.2.2.2.2.1 x.2.2.2.2.2.2.2.2.2.2.2.2.2.2.2.2.2.2.2.2.1 x.2.2.2.2.2.2.2.2.2.2.2.2.2.2.2.2.2.2.2.2.2.1 x.2.2.2.2.2.2.2.2.2.2.2.2.2.2.2.2.2.2.2.2.2.2.1 x.2.2.2.2.2.2.2.2.2.2.2.2.2.2.2.2.2.2.2.2.2.2.2.1 x.2.2.2.2.2.2.2.2.2.2.2.2.2.2.2.2.2.2.2.2.2.2.2.2) (l0_0, l0_1, all4_0, all4_1, i5, h0_0, h0_1, h0_2, h0_3, h0_4, h0_5, h0_6, h0_7, h0_8, h0_9, h1_0, h1_1, h1_2, h1_3, h1_4, h1_5, h1_6, h1_7, h1_8, h1_9)
def m44 (l_0 : Bool) (l_1 : List (Bs × Bs)) : Option R44 :=
  (m49 l_0 l_1 ([99, 97, 99, 104, 101, 45, 99, 111, 110, 116, 114, 111, 108] : Bs)).bind fun yr2 =>
    l44_10 l_0 l_1 yr2.1 yr2.2 (0 : Int) false false false false false false (0 : Int) (0 : Int) (0 : Int) (0 : Int) false false false false false false (-1 : Int) (-1 : Int) (-1 : Int) (-1 : Int)
theorem f44_t (l_0 : Bool) (l_1 : List (Bs × Bs)) :
    callW (E0 mm) 44 [cd (.lst l_0 (enL enSS l_1))] [] = (m44 l_0 l_1).map e44 := by
  rw [cR c44_0 [.cell 2 37] Tryz.func44]
  unfold m44; exact go k44 @l44_10_t
noncomputable def c33_0 : Code := bodyOf Tryz.f33
def c33_1 := cA c33_0
def c33_4 := cA (cA (cB c33_0))
def c33_5 := cB (cA (cB c33_0))
def c33_7 := cA (cA c33_5)
def c33_10 := cB (cB c33_0)
def c33_11 := cA c33_10
abbrev R33 := (Bool)
def e33 (x : R33) : AV × Heap := (vd (dB x), [])
def j33_5 (t10 : Bool) (h0_0 h0_1 : Bs) (h0_2 : Int) (h0_3_0 : Bool) (h0_3_1 : List (Bs × Bs)) (h0_4_0 : Bool) (h0_4_1 : List UInt8) : Option R33 :=
  if t10 = true then
    some false
  else
    if ((h0_4_1.length : Int) == 0) = true then
      (m32 h0_3_0 h0_3_1).bind fun yr5 =>
        if yr5 = true then
          (m47 h0_3_0 h0_3_1 ([97, 117, 116, 104, 111, 114, 105, 122, 97, 116, 105, 111, 110] : Bs)).bind fun yr8 =>
            if yr8 = true then
              some false
            else
              (m44 h0_3_0 h0_3_1).bind fun yr11 =>
                some (!yr11.1)
        else
          some false
    else
      some false
def k33 := Q (rx c33_7) (Q (rx c33_11) (Q @f32_t (Q @e32.eq_1 (Q (fun (mm : Int) (h0_3_0 : Bool) (h0_3_1 : List (Bs × Bs)) => (show callW (E0 mm) 47 [cd (.lst h0_3_0 (enL enSS h0_3_1)), cd (dS ([97, 117, 116, 104, 111, 114, 105, 122, 97, 116, 105, 111, 110] : Bs))] [] = _ from f47_t h0_3_0 h0_3_1 ([97, 117, 116, 104, 111, 114, 105, 122, 97, 116, 105, 111, 110] : Bs))) (Q @f47_t (Q @e47.eq_1 (Q @f44_t (Q @e44.eq_1 (Q (rx c33_1) (Q (rx c33_4) (Q (nE c33_0 (.seq c33_1 (.seq (.seq c33_4 c33_5) c33_10))) (Q (nE c33_10 (.seq c33_11 .ret)) hA))))))))))))
theorem j33_5_t (t10 : Bool) (h0_0 h0_1 : Bs) (h0_2 : Int) (h0_3_0 : Bool) (h0_3_1 : List (Bs × Bs)) (h0_4_0 : Bool) (h0_4_1 : List UInt8)  (sl : Sl) (_ : sl 1 = .v (.c (.ptr 0 0))) (_ : sl 10 = vd (dB t10)) :
    bodyD (E0 mm) [.tmp 2] 0 false (sq (E0 mm) 33 0 c33_10 (dn (E0 mm) 33 0 c33_5 sl [.cells [.d (dS h0_0), .d (dS h0_1), .d (dI h0_2), .d (.lst h0_3_0 (enL enSS h0_3_1)), .d (.lst h0_4_0 (enL enB h0_4_1))]])) = (j33_5 t10 h0_0 h0_1 h0_2 h0_3_0 h0_3_1 h0_4_0 h0_4_1).map e33 := by
  unfold j33_5; exact go (Q (nE c33_5 (.cond _ (.seq c33_7 .ret) .skip)) k33) trivial
def m33 (r0_0 r0_1 : Bs) (r0_2 : Int) (r0_3 : Bool) (r0_4 : List (Bs × Bs)) (r0_5 : Bool) (r0_6 : List UInt8) : Option R33 :=
  if (r0_0 == ([71, 69, 84] : Bs)) = true then
    j33_5 false r0_0 r0_1 r0_2 r0_3 r0_4 r0_5 r0_6
  else
    j33_5 (!(r0_0 == ([72, 69, 65, 68] : Bs))) r0_0 r0_1 r0_2 r0_3 r0_4 r0_5 r0_6
theorem f33_t (r0_0 r0_1 : Bs) (r0_2 : Int) (r0_3 : Bool) (r0_4 : List (Bs × Bs)) (r0_5 : Bool) (r0_6 : List UInt8) :
    callW (E0 mm) 33 [.agg [.d (dS r0_0), .d (dS r0_1), .d (dI r0_2), .d (.lst r0_3 (enL enSS r0_4)), .d (.lst r0_5 (enL enB r0_6))]] [] = (m33 r0_0 r0_1 r0_2 r0_3 r0_4 r0_5 r0_6).map e33 := by
  rw [cR c33_0 [.tmp 2] Tryz.func33]
  unfold m33; exact go k33 @j33_5_t
noncomputable def c22_0 : Code := bodyOf Tryz.f22
def c22_1 := cA c22_0
def c22_3 := cA (cB c22_0)
def c22_5 := cA (cB (cB c22_0))
abbrev R22 := (Bool)
def e22 (x : R22) : AV × Heap := (vd (dB x), [])
def m22 (r0_0 r0_1 : Bs) (r0_2 : Int) (r0_3 : Bool) (r0_4 : List (Bs × Bs)) (r0_5 : Bool) (r0_6 : List UInt8) : Option R22 :=
  (m41 r0_3 r0_4).bind fun yr2 =>
    (m21 r0_0 r0_1 r0_2 r0_3 r0_4 r0_5 r0_6).bind fun yr4 =>
      if yr4 = true then
        if (r0_0 == ([71, 69, 84] : Bs)) = true then
          if yr2.2.1 = true then
            some false
          else
            some (!yr2.2.2.2.2.2.1)
        else
          some false
      else
        some false
def k22 := Q (rx c22_1) (Q (rx c22_3) (Q @f41_t (Q @e41.eq_1 (Q @ao71 (Q (rx c22_5) (Q @f21_t (Q @e21.eq_1 (Q (nE c22_0 (.seq c22_1 (.seq c22_3 (.seq c22_5 .ret)))) hA))))))))
theorem f22_t (r0_0 r0_1 : Bs) (r0_2 : Int) (r0_3 : Bool) (r0_4 : List (Bs × Bs)) (r0_5 : Bool) (r0_6 : List UInt8) :
    callW (E0 mm) 22 [.agg [.d (dS r0_0), .d (dS r0_1), .d (dI r0_2), .d (.lst r0_3 (enL enSS r0_4)), .d (.lst r0_5 (enL enB r0_6))]] [] = (m22 r0_0 r0_1 r0_2 r0_3 r0_4 r0_5 r0_6).map e22 := by
  rw [cR c22_0 [.tmp 2] Tryz.func22]
  unfold m22; exact go k22 trivial
noncomputable def c34_0 : Code := bodyOf Tryz.f34
def c34_1 := cA c34_0
def c34_3 := cA (cB c34_0)
def c34_5 := cA (cB (cB c34_0))
abbrev R34 := (Bool)
def e34 (x : R34) : AV × Heap := (vd (dB x), [])
def m34 (r0_0 r0_1 : Bs) (r0_2 : Int) (r0_3 : Bool) (r0_4 : List (Bs × Bs)) (r0_5 : Bool) (r0_6 : List UInt8) : Option R34 :=
  (m44 r0_3 r0_4).bind fun yr2 =>
    if (r0_0 == ([71, 69, 84] : Bs)) = true then
      (m33 r0_0 r0_1 r0_2 r0_3 r0_4 r0_5 r0_6).bind fun yr5 =>
        if yr5 = true then
          if yr2.2.1 = true then
            some false
          else
            some (!yr2.2.2.2.2.2.1)
        else
          some false
    else
      some false
def k34 := Q (rx c34_1) (Q (rx c34_3) (Q @f44_t (Q @e44.eq_1 (Q @ao72 (Q (rx c34_5) (Q @f33_t (Q @e33.eq_1 (Q (nE c34_0 (.seq c34_1 (.seq c34_3 (.seq c34_5 .ret)))) hA))))))))
theorem f34_t (r0_0 r0_1 : Bs) (r0_2 : Int) (r0_3 : Bool) (r0_4 : List (Bs × Bs)) (r0_5 : Bool) (r0_6 : List UInt8) :
    callW (E0 mm) 34 [.agg [.d (dS r0_0), .d (dS r0_1), .d (dI r0_2), .d (.lst r0_3 (enL enSS r0_4)), .d (.lst r0_5 (enL enB r0_6))]] [] = (m34 r0_0 r0_1 r0_2 r0_3 r0_4 r0_5 r0_6).map e34 := by
  rw [cR c34_0 [.tmp 2] Tryz.func34]
  unfold m34; exact go k34 trivial
noncomputable def c121_0 : Code := bodyOf Tryz.f121
def c121_1 := cA c121_0
def c121_4 := cA (cA (cB c121_0))
def c121_6 := cA (cB (cA (cB c121_0)))
def c121_7 := cA c121_6
def c121_8 := cA c121_7
def c121_16 := cA (cA (cA (cB (cB c121_7))))
def c121_18 := cA (cB (cA (cA (cB (cB c121_7)))))
def c121_21 := cA (cA (cB (cB (cA (cA (cB (cB c121_7)))))))
def c121_24 := cB (cB (cB c121_7))
def c121_25 := cB (cB c121_0)
def c121_26 := cA c121_25
def L121_6 : List (Nat × Co) := [(0, .keep), (1, .keep), (7, .keep), (8, .keep)]
abbrev R121 := (Int)
def e121 (x : R121) : AV × Heap := (vd (dI x), [])
def j121_25  : Option R121 :=
  some (-1 : Int)
def K121_6 (mm : Int) (r : Option (Ex × St)) : Option (AV × Heap) := bodyD (E0 mm) [.tmp 4] 0 false (sq (E0 mm) 121 0 c121_25 (blockD 0 (r)))
def en121_6 (x : (Bool × List Bs × Bs × Int × Int)) : X := (none, [vd (.lst x.1 (enL enS x.2.1)), vd (dS x.2.2.1), vd (dI x.2.2.2.1), vd (dI x.2.2.2.2)], [])
def k121 := Q (rx c121_26) (Q (rx c121_8) (Q (rx c121_16) (Q (rx c121_18) (Q (rx c121_21) (Q @K121_6.eq_1 (Q (rx c121_24) (Q (rx c121_1) (Q (rx c121_4) (Q (fun mm => lx (E0 mm) 121 c121_6 c121_7 L121_6) (Q (nE c121_0 (.seq c121_1 (.seq (.seq c121_4 (.block 0 c121_6)) c121_25))) (Q (nE c121_7 (.seq c121_8 (.seq (.cond _ .skip (.exit 0)) (.seq (.block 1 (.seq c121_16 (.seq c121_18 (.cond _ (.seq c121_21 .ret) .skip)))) c121_24)))) (Q @en121_6.eq_1 (Q @L121_6.eq_1 hA)))))))))))))
theorem j121_25_t (sl : Sl)  :
    bodyD (E0 mm) [.tmp 4] 0 false (dn (E0 mm) 121 0 c121_25 sl []) = (j121_25).map e121 := by
  unfold j121_25; exact go (Q (nE c121_25 (.seq c121_26 .ret)) k121) trivial
def s121_6 (s0_0 : Bool) (s0_1 : List Bs) (v1 : Bs) (t7 t8 : Int) : Option ((Bool × List Bs × Bs × Int × Int) ⊕ R121) :=
  if (decide (t8 < t7)) = true then
    if 0 ≤ t8 ∧ t8 < (s0_1.length : Int) then
      if (v1 == (s0_1.getD t8.toNat default)) = true then
        some (.inr t8)
      else
        some (.inl (s0_0, s0_1, v1, t7, (w64 (t8 + 1))))
    else none
  else
    (j121_25).map .inr
theorem s121_6_t (s0_0 : Bool) (s0_1 : List Bs) (v1 : Bs) (t7 t8 : Int) :
    stepE (K121_6 mm) (lp (E0 mm) 121 0 c121_7 L121_6 (en121_6 (s0_0, s0_1, v1, t7, t8))) = (s121_6 s0_0 s0_1 v1 t7 t8).map (sm en121_6 e121) := by
  unfold s121_6; exact go k121 @j121_25_t
def l121_6 (s0_0 : Bool) (s0_1 : List Bs) (v1 : Bs) (t7 t8 : Int) : Option R121 := iter (fun x : (Bool × List Bs × Bs × Int × Int) => s121_6 x.1 x.2.1 x.2.2.1 x.2.2.2.1 x.2.2.2.2) (s0_0, s0_1, v1, t7, t8)
theorem l121_6_t (s0_0 : Bool) (s0_1 : List Bs) (v1 : Bs) (t7 t8 : Int) : (K121_6 mm) (itW (lp (E0 mm) 121 0 c121_7 L121_6) (en121_6 (s0_0, s0_1, v1, t7, t8))) = (l121_6 s0_0 s0_1 v1 t7 t8).map e121 :=
  it_sim (K := (K121_6 mm)) rfl (enc := en121_6) (fun x => s121_6_t x.1 x.2.1 x.2.2.1 x.2.2.2.1 x.2.2.2.2) (s0_0, s0_1, v1, t7, t8)
def m121 (s_0 : Bool) (s_1 : List Bs) (v : Bs) : Option R121 :=
  l121_6 s_0 s_1 v (s_1.length : Int) (0 : Int)
theorem f121_t (s_0 : Bool) (s_1 : List Bs) (v : Bs) :
    callW (E0 mm) 121 [cd (.lst s_0 (enL enS s_1)), cd (dS v)] [] = (m121 s_0 s_1 v).map e121 := by
  rw [cR c121_0 [.tmp 4] Tryz.func121]
  unfold m121; exact go k121 @l121_6_t
noncomputable def c75_0 : Code := bodyOf Tryz.f75
def c75_1 := cA c75_0
def c75_3 := cA (cB c75_0)
abbrev R75 := (Bool)
def e75 (x : R75) : AV × Heap := (vd (dB x), [])
def m75 (s_0 : Bool) (s_1 : List Bs) (v : Bs) : Option R75 :=
  (m121 s_0 s_1 v).bind fun yr2 =>
    some (decide (0 ≤ yr2))
def k75 := Q (rx c75_1) (Q (rx c75_3) (Q @ent121 (Q @prm121 (Q @f121_t (Q @e121.eq_1 (Q (nE c75_0 (.seq c75_1 (.seq c75_3 .ret))) hA))))))
theorem f75_t (s_0 : Bool) (s_1 : List Bs) (v : Bs) :
    callW (E0 mm) 75 [cd (.lst s_0 (enL enS s_1)), cd (dS v)] [] = (m75 s_0 s_1 v).map e75 := by
  rw [cR c75_0 [.tmp 4] Tryz.func75]
  unfold m75; exact go k75 trivial
noncomputable def c35_0 : Code := bodyOf Tryz.f35
def c35_1 := cA c35_0
def c35_3 := cA (cB c35_0)
abbrev R35 := (Bool)
def e35 (x : R35) : AV × Heap := (vd (dB x), [])
def m35 (method : Bs) : Option R35 :=
  (m75 false ([([71, 69, 84] : Bs), ([72, 69, 65, 68] : Bs), ([79, 80, 84, 73, 79, 78, 83] : Bs), ([84, 82, 65, 67, 69] : Bs)] : List Bs) method).bind fun yr2 =>
    some yr2
def k35 := Q (rx c35_1) (Q (rx c35_3) (Q @hd73 (Q @nv74 (Q @rw75 (Q @ns76 (Q @ent75 (Q @prm75 (Q (fun (mm : Int) (method : Bs) => (show callW (E0 mm) 75 [cd (.lst false (enL enS ([([71, 69, 84] : Bs), ([72, 69, 65, 68] : Bs), ([79, 80, 84, 73, 79, 78, 83] : Bs), ([84, 82, 65, 67, 69] : Bs)] : List Bs))), cd (dS method)] [] = _ from f75_t false ([([71, 69, 84] : Bs), ([72, 69, 65, 68] : Bs), ([79, 80, 84, 73, 79, 78, 83] : Bs), ([84, 82, 65, 67, 69] : Bs)] : List Bs) method)) (Q @f75_t (Q @e75.eq_1 (Q (nE c35_0 (.seq c35_1 (.seq c35_3 .ret))) hA)))))))))))
theorem f35_t (method : Bs) :
    callW (E0 mm) 35 [cd (dS method)] [] = (m35 method).map e35 := by
  rw [cR c35_0 [.tmp 2] Tryz.func35]
  unfold m35; exact go k35 trivial
noncomputable def c36_0 : Code := bodyOf Tryz.f36
def c36_1 := cA c36_0
def c36_3 := cA (cB c36_0)
abbrev R36 := (Bool)
def e36 (x : R36) : AV × Heap := (vd (dB x), [])
def m36 (method : Bs) : Option R36 :=
  if (method == ([71, 69, 84] : Bs)) = true then
    some true
  else
    if (method == ([72, 69, 65, 68] : Bs)) = true then
      some true
    else
      if (method == ([79, 80, 84, 73, 79, 78, 83] : Bs)) = true then
        some true
      else
        some (method == ([84, 82, 65, 67, 69] : Bs))
def k36 := Q (rx c36_1) (Q (rx c36_3) (Q (nE c36_0 (.seq c36_1 (.seq c36_3 .ret))) hA))
theorem f36_t (method : Bs) :
    callW (E0 mm) 36 [cd (dS method)] [] = (m36 method).map e36 := by
  rw [cR c36_0 [.tmp 2] Tryz.func36]
  unfold m36; exact go k36 trivial
noncomputable def c8_0 : Code := bodyOf Tryz.f8
def c8_1 := cA c8_0
def c8_3 := cA (cB c8_0)
def c8_5 := cA (cB (cB c8_0))
def c8_7 := cA (cB (cB (cB c8_0)))
theorem c8_7_r (m : Nat) (st : St) : den (E0 mm) 8 m (callW (E0 mm)) itW c8_7 none st = regD ((runF (E0 mm) (callW (E0 mm)) (opsOf c8_7) (opsOf c8_7) [none, none, none, none, none, none, none, none, some false, none, some true, none, none, none, none, none, some false, some true, none, none, none, none, none, some false, some true, none, none, none, none, none, none, none, none, none, none, none, none, none, none, none, none, none, none, none, none, none, none, none, none] st []).bind (ckF [(10, 8), (17, 16), (24, 23)])) := den_dF (by kernel_rfl)
abbrev R8 := (Bool)
def e8 (x : R8) : AV × Heap := (vd (dB x), [])
def m8 (r0_0 r0_1 : Bs) (r0_2 : Int) (r0_3 : Bool) (r0_4 : List (Bs × Bs)) (r0_5 : Bool) (r0_6 : List UInt8) (l_0 : Bool) (l_1 : List (Bs × Bs)) (method : Bs) : Option R8 :=
  (m28 l_0 l_1).bind fun yr2 =>
    (m31 l_0 l_1).bind fun yr4 =>
      (m30 l_0 l_1).bind fun yr6 =>
        (m32 l_0 l_1).bind fun yr8 =>
          if (yr6 == yr8) = true then
            (m30 r0_3 r0_4).bind fun yr11 =>
              (m32 r0_3 r0_4).bind fun yr13 =>
                if (yr11 == yr13) = true then
                  (m21 r0_0 r0_1 r0_2 r0_3 r0_4 r0_5 r0_6).bind fun yr16 =>
                    (m33 r0_0 r0_1 r0_2 r0_3 r0_4 r0_5 r0_6).bind fun yr18 =>
                      if (yr16 == yr18) = true then
                        (m22 r0_0 r0_1 r0_2 r0_3 r0_4 r0_5 r0_6).bind fun yr21 =>
                          (m34 r0_0 r0_1 r0_2 r0_3 r0_4 r0_5 r0_6).bind fun yr23 =>
                            if (yr21 == yr23) = true then
                              (m35 method).bind fun yr26 =>
                                (m36 method).bind fun yr28 =>
                                  if (yr26 == yr28) = true then
                                    if (yr2.1 == yr4.1) = true then
                                      if (yr2.2 == yr4.2) = true then
                                        some true
                                      else
                                        some false
                                    else
                                      some false
                                  else
                                    some false
                            else
                              some false
                      else
                        some false
                else
                  some false
          else
            some false
def k8 := Q (rx c8_1) (Q (rx c8_3) (Q @ent28 (Q @prm28 (Q @f28_t (Q @e28.eq_1 (Q (rx c8_5) (Q @ent31 (Q @prm31 (Q @f31_t (Q @e31.eq_1 (Q @c8_7_r (Q (show opsOf c8_7 = _ :: _ from rfl) (Q @f30_t (Q setF (Q @e30.eq_1 (Q @f32_t (Q @e32.eq_1 (Q @Tryz.underlying4 (Q @f21_t (Q @e21.eq_1 (Q @f33_t (Q @e33.eq_1 (Q @ent22 (Q @prm22 (Q @f22_t (Q @e22.eq_1 (Q @ent34 (Q @prm34 (Q @f34_t (Q @e34.eq_1 (Q @ent35 (Q @prm35 (Q @f35_t (Q @e35.eq_1 (Q @ent36 (Q @prm36 (Q @f36_t (Q @e36.eq_1 (Q @ent17 (Q @prm17 (Q @f17_t (Q (nE c8_0 (.seq c8_1 (.seq c8_3 (.seq c8_5 (.seq c8_7 .ret))))) hA))))))))))))))))))))))))))))))))))))))))))
theorem f8_t (r0_0 r0_1 : Bs) (r0_2 : Int) (r0_3 : Bool) (r0_4 : List (Bs × Bs)) (r0_5 : Bool) (r0_6 : List UInt8) (l_0 : Bool) (l_1 : List (Bs × Bs)) (method : Bs) :
    callW (E0 mm) 8 [.agg [.d (dS r0_0), .d (dS r0_1), .d (dI r0_2), .d (.lst r0_3 (enL enSS r0_4)), .d (.lst r0_5 (enL enB r0_6))], cd (.lst l_0 (enL enSS l_1)), cd (dS method)] [] = (m8 r0_0 r0_1 r0_2 r0_3 r0_4 r0_5 r0_6 l_0 l_1 method).map e8 := by
  rw [cR c8_0 [.tmp 6] Tryz.func8]
  unfold m8; exact go k8 trivial
end
end Go.Proofs.YtbkobjepahlegaaGreatDoor
