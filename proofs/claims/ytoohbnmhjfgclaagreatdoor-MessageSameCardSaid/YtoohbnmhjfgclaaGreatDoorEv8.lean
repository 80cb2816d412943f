/- An abstract evaluator of the loaded code, and that what it says is what the machine does. -/
import Derived.Test.YtoohbnmhjfgclaaGreatDoorEv7
set_option linter.all false
section
set_option linter.all false
set_option linter.unusedVariables false
set_option linter.unusedSimpArgs false
namespace Go.Ab
open Go
structure W (T : Prop) : Type where
  o : T
theorem Q {a b : Prop} (x : a) (y : b) : a ∧ b := ⟨x, y⟩
theorem lf {α : Type} {a b c : α} (h : b = c) (e : a = b) : a = c := e.trans h
theorem tnlt {i : Int} {n : Nat} (h : 0 ≤ i ∧ i < (n : Int)) : i.toNat < n := by omega
theorem tnl0 {n : Nat} (h : (0 : Int) < (n : Int)) : 0 < n := by omega
theorem tnl1 {n : Nat} (h : (1 : Int) < (n : Int)) : 1 < n := by omega
theorem tnl2 {n : Nat} (h : (2 : Int) < (n : Int)) : 2 < n := by omega
theorem tnl3 {n : Nat} (h : (3 : Int) < (n : Int)) : 3 < n := by omega
def setC := Q @List.length_nil.{0} (Q @Option.map_none.{0,0} (Q @List.take_nil.{0} (Q @List.drop_nil.{0} (Q @Option.isNone_some.{0} (Q @Bool.false_and (Q @Bool.false_eq_true (Q @List.all_nil.{0} (Q @List.getD_cons_zero.{0} (Q @List.getD_cons_succ.{0} (Q @List.map_cons.{0,0} (Q @List.map_nil.{0,0} (Q @List.take_length.{0} (Q @decide_true (Q @Bool.and_self (Q @Nat.zero_add (Q @Nat.sub_zero (Q @Nat.zero_mul (Q @Nat.sub_self (Q @not_false_eq_true (Q @Option.getD_some.{0} (Q @Option.getD_none.{0} (Q @if_false.{1} (Q @regD_none (Q @seqD_none (Q @blockD_none (Q @stepE_none (Q @loopK_none (@bodyD_none))))))))))))))))))))))))))))
theorem rx (c : Code) {o : Oper} {l : List Oper} (h : isRg c = true := by rfl) (ho : opsOf c = o :: l := by rfl) (E : Env) (f m : Nat) (st : St) :
    den E f m (callW E) itW c none st = regD (runOps E (callW E) (o :: l) (o :: l) st) := by rw [← ho]; exact rgN h m st
abbrev Sl := Nat → AV
noncomputable abbrev dn (E : Env) (f m : Nat) (c : Code) (sl : Sl) (h : Heap) := den E f m (callW E) itW c none ⟨sl, h⟩
noncomputable abbrev sq (E : Env) (f m : Nat) (c : Code) := seqD E f m (callW E) itW c
noncomputable abbrev lp (E : Env) (f m : Nat) (c : Code) (L : List (Nat × Co)) := loopF E f m (callW E) itW c L
abbrev dS (x : Bs) : D := .sc (.string (S x))
abbrev dB (x : Bool) : D := .sc (.bool x)
abbrev dI (x : Int) : D := .sc (.int .i64 x)
abbrev dU (x : Int) : D := .sc (.int .u64 x)
abbrev vd (x : D) : AV := .v (.c (.d x))
abbrev cd (x : D) : V1 := .c (.d x)
theorem go {p C T : Prop} (c : C) (t : T) (h : W C → W T → p := by
    intro yc yk
    try simp -implicitDefEqProofs only [yc.o, *, dn, sq, lp, dS, dB, dI, dU, vd, cd, setA, setB, setC, Nat.reduceEqDiff, Nat.reduceAdd, Nat.reduceLeDiff, Nat.reduceLT, Nat.reduceMul, Nat.reduceBEq, Nat.reduceSub, Nat.reducePow, Int.reduceEq, Int.reduceLE, Int.reduceLT, Int.reduceToNat, Int.reduceNegSucc, Int.reduceAdd, Int.reduceBEq, String.reduceBEq, reduceCtorEq, zE, ↓reduceIte]
    repeat' first
      | ((with_reducible refine brB (fun ya => ?_) (fun ya => ?_))
         all_goals try first | have yb : (_ : Nat) < _ := of_decide_eq_true ya | have yb : ¬ ((_ : Nat) < _) := of_decide_eq_false ya
         all_goals try simp -implicitDefEqProofs only [yc.o, *, dn, sq, lp, dS, dB, dI, dU, vd, cd, setA, setB, setC, Nat.reduceEqDiff, Nat.reduceAdd, Nat.reduceLeDiff, Nat.reduceLT, Nat.reduceMul, Nat.reduceBEq, Nat.reduceSub, Nat.reducePow, Int.reduceEq, Int.reduceLE, Int.reduceLT, Int.reduceToNat, Int.reduceNegSucc, Int.reduceAdd, Int.reduceBEq, String.reduceBEq, reduceCtorEq, zE, ↓reduceIte])
      | ((with_reducible refine brP (fun ya => ?_) (fun ya => ?_))
         rotate_left
         · rw [if_neg ya]; rfl
         try first | have yb := tnlt ya | have yb := tnl0 ya | have yb := tnl1 ya | have yb := tnl2 ya | have yb := tnl3 ya | have yb := tnlt (And.intro (by omega) ya) | have yb := of_decide_eq_true ya
         try simp -implicitDefEqProofs only [yc.o, *, dn, sq, lp, dS, dB, dI, dU, vd, cd, setA, setB, setC, Nat.reduceEqDiff, Nat.reduceAdd, Nat.reduceLeDiff, Nat.reduceLT, Nat.reduceMul, Nat.reduceBEq, Nat.reduceSub, Nat.reducePow, Int.reduceEq, Int.reduceLE, Int.reduceLT, Int.reduceToNat, Int.reduceNegSucc, Int.reduceAdd, Int.reduceBEq, String.reduceBEq, reduceCtorEq, zE, ↓reduceIte])
      | ((with_reducible refine brM (fun ya => ?_) (fun yr ya => ?_))
         · rw [ya]; rfl
         try simp -implicitDefEqProofs only [yc.o, *, dn, sq, lp, dS, dB, dI, dU, vd, cd, setA, setB, setC, Nat.reduceEqDiff, Nat.reduceAdd, Nat.reduceLeDiff, Nat.reduceLT, Nat.reduceMul, Nat.reduceBEq, Nat.reduceSub, Nat.reducePow, Int.reduceEq, Int.reduceLE, Int.reduceLT, Int.reduceToNat, Int.reduceNegSucc, Int.reduceAdd, Int.reduceBEq, String.reduceBEq, reduceCtorEq, zE, ↓reduceIte])
      | (apply lf
         (with_reducible first | apply yk.o | apply yk.o.1 | apply yk.o.2 | apply yk.o.2.1 | apply yk.o.2.2 | apply yk.o.2.2.1 | apply yk.o.2.2.2 | apply yk.o.2.2.2.1 | apply yk.o.2.2.2.2 | apply yk.o.2.2.2.2.1 | apply yk.o.2.2.2.2.2 | apply yk.o.2.2.2.2.2.1 | apply yk.o.2.2.2.2.2.2 | apply yk.o.2.2.2.2.2.2.1 | apply yk.o.2.2.2.2.2.2.2 | apply yk.o.2.2.2.2.2.2.2.1 | apply yk.o.2.2.2.2.2.2.2.2)
         all_goals try exact rfl
         all_goals first | exact rfl | assumption)
      | (with_reducible refine mi ?_)
      | ((cases yr with | inl yr => ?_ | inr yr => ?_)
         all_goals try simp -implicitDefEqProofs only [yc.o, *, dn, sq, lp, dS, dB, dI, dU, vd, cd, setA, setB, setC, Nat.reduceEqDiff, Nat.reduceAdd, Nat.reduceLeDiff, Nat.reduceLT, Nat.reduceMul, Nat.reduceBEq, Nat.reduceSub, Nat.reducePow, Int.reduceEq, Int.reduceLE, Int.reduceLT, Int.reduceToNat, Int.reduceNegSucc, Int.reduceAdd, Int.reduceBEq, String.reduceBEq, reduceCtorEq, zE, ↓reduceIte])
      | rfl
      | (rw [if_neg (by omega)]; rfl)) : p := h ⟨c⟩ ⟨t⟩
end Go.Ab
end
section
set_option linter.unusedVariables false
set_option linter.unusedSimpArgs false
namespace Go.Ab
open Go
end Go.Ab
end
section
set_option linter.unusedVariables false
set_option linter.unusedSimpArgs false
namespace Go.Ab
open Go
end Go.Ab
end
