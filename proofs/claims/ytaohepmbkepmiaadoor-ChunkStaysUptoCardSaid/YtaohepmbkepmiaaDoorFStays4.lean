/- The Go functions as plain functions, and that the evaluator computes them. -/
import Derived.Test.YtaohepmbkepmiaaDoorFStays3
set_option linter.all false
set_option maxRecDepth 100000
namespace Go.Proofs.YtaohepmbkepmiaaDoor
open Go Go.Ab
open Nat renaming reduceEqDiff → za, reduceAdd → zb, reduceLeDiff → zc, reduceLT → zd, reduceMul → ze, reduceBEq → zf, reduceSub → zg, reducePow → zh
open Int renaming reduceEq → zi, reduceLE → zj, reduceLT → zk, reduceToNat → zl, reduceNegSucc → zm, reduceAdd → zn, reduceBEq → zo
open String renaming reduceBEq → zp
set_option maxHeartbeats 4000000
noncomputable section
variable {mm : Int}
noncomputable def c10_0 : Code := bodyOf Tryd.f10
def c10_1 := cA c10_0
def c10_2 := cB c10_0
def c10_3 := cA c10_2
def c10_4 := cB c10_2
theorem c10_0_e : c10_0 = .seq c10_1 c10_2 := rfl
theorem c10_1_r : RG (E0 mm) 10 c10_1 := rgN rfl
theorem c10_2_e : c10_2 = .seq c10_3 c10_4 := rfl
theorem c10_3_r : RG (E0 mm) 10 c10_3 := rgN rfl
theorem c10_4_e : c10_4 = .ret := rfl
abbrev R10 := (Bool)
def e10 : R10 → AV × Heap := fun x => (.v (.c (.d (.sc (.bool x)))), [])
def m10 (a_0 : Bool) (a_1 : List UInt8) (b_0 : Bool) (b_1 : List UInt8) : Option R10 :=
  some (a_1 == b_1)
theorem f10_t (a_0 : Bool) (a_1 : List UInt8) (b_0 : Bool) (b_1 : List UInt8) :
    callW (E0 mm) 10 [.c (.d (.lst a_0 (enL enB a_1))), .c (.d (.lst b_0 (enL enB b_1)))] [] = (m10 a_0 a_1 b_0 b_1).map e10 := by
  rw [callW_run (body := c10_0) (res := [.tmp 4]) Tryd.func10 rfl rfl (by kernel_rfl)]
  simp -implicitDefEqProofs only [m10, slots2, c10_0_e, c10_1_r, (show opsOf c10_1 = _ :: _ from rfl), c10_2_e, c10_3_r, (show opsOf c10_3 = _ :: _ from rfl), Tryd.underlying22, Tryd.underlying9, Tryd.underlying5, c10_4_e, setA, setB, za, zb, zc, zd, ze, zf, zg, zh, zi, zj, zk, zl, zm, zn, zo, zp, reduceCtorEq, zE, ↓reduceIte]
  all_goals rfl
noncomputable def c5_0 : Code := bodyOf Tryd.f5
def c5_1 := cA c5_0
def c5_2 := cB c5_0
def c5_3 := cA c5_2
def c5_4 := cB c5_2
def c5_5 := cA c5_4
def c5_6 := cA c5_5
def c5_7 := cB c5_5
def c5_8 := cA c5_7
def c5_9 := cA c5_8
def c5_10 := cB c5_8
def c5_11 := cB c5_7
def c5_12 := cB c5_4
def c5_13 := cA c5_12
def c5_14 := cB c5_12
def c5_15 := cA c5_14
def c5_16 := cB c5_14
theorem c5_0_e : c5_0 = .seq c5_1 c5_2 := rfl
theorem c5_1_r : RG (E0 mm) 5 c5_1 := rgN rfl
theorem c5_2_e : c5_2 = .seq c5_3 c5_4 := rfl
theorem c5_3_r : RG (E0 mm) 5 c5_3 := rgN rfl
theorem c5_4_e : c5_4 = .seq c5_5 c5_12 := rfl
theorem c5_5_e : c5_5 = .seq c5_6 c5_7 := rfl
theorem c5_6_r : RG (E0 mm) 5 c5_6 := rgN rfl
theorem c5_8_e : c5_8 = .seq c5_9 c5_10 := rfl
theorem c5_9_r : RG (E0 mm) 5 c5_9 := rgN rfl
theorem c5_10_e : c5_10 = .ret := rfl
theorem c5_11_e : c5_11 = .skip := rfl
theorem c5_12_e : c5_12 = .seq c5_13 c5_14 := rfl
theorem c5_13_r : RG (E0 mm) 5 c5_13 := rgN rfl
theorem c5_14_e : c5_14 = .seq c5_15 c5_16 := rfl
theorem c5_15_r : RG (E0 mm) 5 c5_15 := rgN rfl
theorem c5_16_e : c5_16 = .ret := rfl
abbrev R5 := (Bool)
def e5 : R5 → AV × Heap := fun x => (.v (.c (.d (.sc (.bool x)))), [])
def m5 (b_0 : Bool) (b_1 : List UInt8) (tail_0 : Bool) (tail_1 : List UInt8) : Option R5 :=
  (m8 b_0 b_1).bind fun yr2 =>
    if (yr2.2.2.2 == 8) = true then
      if (yr2.2.2.1 == 0) = true then
        some ((yr2.2.1.length : Int) == 0)
      else
        some false
    else
      if b_1 = [] ∨ (0 + b_1.length) * 1 ≤ 140737488355328 then
        if tail_1 = [] ∨ (b_1.length + tail_1.length) * 1 ≤ 140737488355328 then
          (m8 false (b_1 ++ tail_1)).bind fun yr8 =>
            if (yr2.2.2.2 == yr8.2.2.2) = true then
              if (yr2.2.2.1 == yr8.2.2.1) = true then
                (m10 yr2.1 yr2.2.1 yr8.1 yr8.2.1).bind fun yr12 =>
                  if yr12 = true then
                    if (decide ((yr2.2.1.length : Int) ≤ 4096)) = true then
                      if (decide (yr2.2.2.1 ≤ (b_1.length : Int))) = true then
                        if (decide ((yr2.2.1.length : Int) ≤ yr2.2.2.1)) = true then
                          if (yr2.2.2.2 == 0) = true then
                            some true
                          else
                            if (yr2.2.2.1 == 0) = true then
                              some ((yr2.2.1.length : Int) == 0)
                            else
                              some false
                        else
                          some false
                      else
                        some false
                    else
                      some false
                  else
                    some false
              else
                some false
            else
              some false
        else none
      else none
theorem f5_t (b_0 : Bool) (b_1 : List UInt8) (tail_0 : Bool) (tail_1 : List UInt8) :
    callW (E0 mm) 5 [.c (.d (.lst b_0 (enL enB b_1))), .c (.d (.lst tail_0 (enL enB tail_1)))] [] = (m5 b_0 b_1 tail_0 tail_1).map e5 := by
  rw [callW_run (body := c5_0) (res := [.tmp 4]) Tryd.func5 rfl rfl (by kernel_rfl)]
  simp -implicitDefEqProofs only [m5, slots2, c5_0_e, c5_1_r, (show opsOf c5_1 = _ :: _ from rfl), c5_2_e, c5_3_r, (show opsOf c5_3 = _ :: _ from rfl), ent8, prm8, f8_t, setA, setB, za, zb, zc, zd, ze, zf, zg, zh, zi, zj, zk, zl, zm, zn, zo, zp, reduceCtorEq, zE, ↓reduceIte]
  refine brM (fun yc1 => ?_) (fun yr2 yc1 => ?_)
  · rw [yc1]; rfl
  · simp -implicitDefEqProofs only [e8, c5_4_e, c5_5_e, c5_6_r, (show opsOf c5_6 = _ :: _ from rfl), (show c5_7 = Code.cond _ c5_8 c5_11 from rfl), yc1, setA, setB, za, zb, zc, zd, ze, zf, zg, zh, zi, zj, zk, zl, zm, zn, zo, zp, reduceCtorEq, zE, ↓reduceIte]
    refine brB (fun yc3 => ?_) (fun yc3 => ?_)
    · simp -implicitDefEqProofs only [c5_8_e, c5_9_r, (show opsOf c5_9 = _ :: _ from rfl), ent11, prm11, f11_t, yc1, yc3, setA, setB, za, zb, zc, zd, ze, zf, zg, zh, zi, zj, zk, zl, zm, zn, zo, zp, reduceCtorEq, zE, ↓reduceIte]
      refine brB (fun yc4 => ?_) (fun yc4 => ?_)
      · simp -implicitDefEqProofs only [Tryd.underlying22, c5_10_e, yc1, yc3, yc4, setA, setB, za, zb, zc, zd, ze, zf, zg, zh, zi, zj, zk, zl, zm, zn, zo, zp, reduceCtorEq, zE, ↓reduceIte]
        all_goals rfl
      · simp -implicitDefEqProofs only [c5_10_e, yc1, yc3, yc4, setA, setB, za, zb, zc, zd, ze, zf, zg, zh, zi, zj, zk, zl, zm, zn, zo, zp, reduceCtorEq, zE, ↓reduceIte]
        all_goals rfl
    · simp -implicitDefEqProofs only [c5_11_e, c5_12_e, c5_13_r, (show opsOf c5_13 = _ :: _ from rfl), Tryd.underlying22, sz5, zc5, hd14, nv15, rw16, ns17, ap22, yc1, yc3, setA, setB, za, zb, zc, zd, ze, zf, zg, zh, zi, zj, zk, zl, zm, zn, zo, zp, reduceCtorEq, zE, ↓reduceIte]
      refine brP (fun yc5 => ?_) (fun yc5 => ?_)
      · simp -implicitDefEqProofs only [Tryd.underlying22, hd14, ap22, yc1, yc3, yc5, setA, setB, za, zb, zc, zd, ze, zf, zg, zh, zi, zj, zk, zl, zm, zn, zo, zp, reduceCtorEq, zE, ↓reduceIte]
        refine brP (fun yc6 => ?_) (fun yc6 => ?_)
        · simp -implicitDefEqProofs only [ent8, prm8, (show callW (E0 mm) 8 [.c (.d (.lst false (enL enB (b_1 ++ tail_1))))] [] = _ from f8_t false (b_1 ++ tail_1)), yc1, yc3, yc5, yc6, setA, setB, za, zb, zc, zd, ze, zf, zg, zh, zi, zj, zk, zl, zm, zn, zo, zp, reduceCtorEq, zE, ↓reduceIte]
          refine brM (fun yc7 => ?_) (fun yr8 yc7 => ?_)
          · rw [yc7]; rfl
          · simp -implicitDefEqProofs only [e8, c5_14_e, c5_15_r, (show opsOf c5_15 = _ :: _ from rfl), ent11, prm11, f11_t, yc1, yc3, yc5, yc6, yc7, setA, setB, za, zb, zc, zd, ze, zf, zg, zh, zi, zj, zk, zl, zm, zn, zo, zp, reduceCtorEq, zE, ↓reduceIte]
            refine brB (fun yc9 => ?_) (fun yc9 => ?_)
            · simp -implicitDefEqProofs only [yc1, yc3, yc5, yc6, yc7, yc9, setA, setB, za, zb, zc, zd, ze, zf, zg, zh, zi, zj, zk, zl, zm, zn, zo, zp, reduceCtorEq, zE, ↓reduceIte]
              refine brB (fun yc10 => ?_) (fun yc10 => ?_)
              · simp -implicitDefEqProofs only [ent10, prm10, f10_t, yc1, yc3, yc5, yc6, yc7, yc9, yc10, setA, setB, za, zb, zc, zd, ze, zf, zg, zh, zi, zj, zk, zl, zm, zn, zo, zp, reduceCtorEq, zE, ↓reduceIte]
                refine brM (fun yc11 => ?_) (fun yr12 yc11 => ?_)
                · rw [yc11]; rfl
                · simp -implicitDefEqProofs only [e10, yc1, yc3, yc5, yc6, yc7, yc9, yc10, yc11, setA, setB, za, zb, zc, zd, ze, zf, zg, zh, zi, zj, zk, zl, zm, zn, zo, zp, reduceCtorEq, zE, ↓reduceIte]
                  refine brB (fun yc13 => ?_) (fun yc13 => ?_)
                  · simp -implicitDefEqProofs only [Tryd.underlying22, yc1, yc3, yc5, yc6, yc7, yc9, yc10, yc11, yc13, setA, setB, za, zb, zc, zd, ze, zf, zg, zh, zi, zj, zk, zl, zm, zn, zo, zp, reduceCtorEq, zE, ↓reduceIte]
                    refine brB (fun yc14 => ?_) (fun yc14 => ?_)
                    · simp -implicitDefEqProofs only [Tryd.underlying22, yc1, yc3, yc5, yc6, yc7, yc9, yc10, yc11, yc13, yc14, setA, setB, za, zb, zc, zd, ze, zf, zg, zh, zi, zj, zk, zl, zm, zn, zo, zp, reduceCtorEq, zE, ↓reduceIte]
                      refine brB (fun yc15 => ?_) (fun yc15 => ?_)
                      · simp -implicitDefEqProofs only [Tryd.underlying22, yc1, yc3, yc5, yc6, yc7, yc9, yc10, yc11, yc13, yc14, yc15, setA, setB, za, zb, zc, zd, ze, zf, zg, zh, zi, zj, zk, zl, zm, zn, zo, zp, reduceCtorEq, zE, ↓reduceIte]
                        refine brB (fun yc16 => ?_) (fun yc16 => ?_)
                        · simp -implicitDefEqProofs only [yc1, yc3, yc5, yc6, yc7, yc9, yc10, yc11, yc13, yc14, yc15, yc16, setA, setB, za, zb, zc, zd, ze, zf, zg, zh, zi, zj, zk, zl, zm, zn, zo, zp, reduceCtorEq, zE, ↓reduceIte]
                          refine brB (fun yc17 => ?_) (fun yc17 => ?_)
                          · simp -implicitDefEqProofs only [c5_16_e, yc1, yc3, yc5, yc6, yc7, yc9, yc10, yc11, yc13, yc14, yc15, yc16, yc17, setA, setB, za, zb, zc, zd, ze, zf, zg, zh, zi, zj, zk, zl, zm, zn, zo, zp, reduceCtorEq, zE, ↓reduceIte]
                            all_goals rfl
                          · simp -implicitDefEqProofs only [yc1, yc3, yc5, yc6, yc7, yc9, yc10, yc11, yc13, yc14, yc15, yc16, yc17, setA, setB, za, zb, zc, zd, ze, zf, zg, zh, zi, zj, zk, zl, zm, zn, zo, zp, reduceCtorEq, zE, ↓reduceIte]
                            refine brB (fun yc18 => ?_) (fun yc18 => ?_)
                            · simp -implicitDefEqProofs only [Tryd.underlying22, c5_16_e, yc1, yc3, yc5, yc6, yc7, yc9, yc10, yc11, yc13, yc14, yc15, yc16, yc17, yc18, setA, setB, za, zb, zc, zd, ze, zf, zg, zh, zi, zj, zk, zl, zm, zn, zo, zp, reduceCtorEq, zE, ↓reduceIte]
                              all_goals rfl
                            · simp -implicitDefEqProofs only [c5_16_e, yc1, yc3, yc5, yc6, yc7, yc9, yc10, yc11, yc13, yc14, yc15, yc16, yc17, yc18, setA, setB, za, zb, zc, zd, ze, zf, zg, zh, zi, zj, zk, zl, zm, zn, zo, zp, reduceCtorEq, zE, ↓reduceIte]
                              all_goals rfl
                        · simp -implicitDefEqProofs only [c5_16_e, yc1, yc3, yc5, yc6, yc7, yc9, yc10, yc11, yc13, yc14, yc15, yc16, setA, setB, za, zb, zc, zd, ze, zf, zg, zh, zi, zj, zk, zl, zm, zn, zo, zp, reduceCtorEq, zE, ↓reduceIte]
                          all_goals rfl
                      · simp -implicitDefEqProofs only [c5_16_e, yc1, yc3, yc5, yc6, yc7, yc9, yc10, yc11, yc13, yc14, yc15, setA, setB, za, zb, zc, zd, ze, zf, zg, zh, zi, zj, zk, zl, zm, zn, zo, zp, reduceCtorEq, zE, ↓reduceIte]
                        all_goals rfl
                    · simp -implicitDefEqProofs only [c5_16_e, yc1, yc3, yc5, yc6, yc7, yc9, yc10, yc11, yc13, yc14, setA, setB, za, zb, zc, zd, ze, zf, zg, zh, zi, zj, zk, zl, zm, zn, zo, zp, reduceCtorEq, zE, ↓reduceIte]
                      all_goals rfl
                  · simp -implicitDefEqProofs only [c5_16_e, yc1, yc3, yc5, yc6, yc7, yc9, yc10, yc11, yc13, setA, setB, za, zb, zc, zd, ze, zf, zg, zh, zi, zj, zk, zl, zm, zn, zo, zp, reduceCtorEq, zE, ↓reduceIte]
                    all_goals rfl
              · simp -implicitDefEqProofs only [c5_16_e, yc1, yc3, yc5, yc6, yc7, yc9, yc10, setA, setB, za, zb, zc, zd, ze, zf, zg, zh, zi, zj, zk, zl, zm, zn, zo, zp, reduceCtorEq, zE, ↓reduceIte]
                all_goals rfl
            · simp -implicitDefEqProofs only [c5_16_e, yc1, yc3, yc5, yc6, yc7, yc9, setA, setB, za, zb, zc, zd, ze, zf, zg, zh, zi, zj, zk, zl, zm, zn, zo, zp, reduceCtorEq, zE, ↓reduceIte]
              all_goals rfl
        · rw [if_neg yc6]; rfl
      · rw [if_neg yc5]; rfl
end
end Go.Proofs.YtaohepmbkepmiaaDoor
