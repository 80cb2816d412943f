/- A text between quotes, as the evaluator answers it. -/
import Derived.Test.YteenmbcmgcnkmaaGreatDoorAb32
set_option linter.unusedVariables false
set_option linter.unusedSimpArgs false
namespace Go.Ab
open Go
/-- a text between quotes, its quotes and masks masked -/
def qb (l : List UInt8) : List UInt8 := l.flatMap fun c => if c = 34 ∨ c = 92 then [92, c] else [c]
def quoteL (l : List UInt8) : List UInt8 := 34 :: (qb l ++ [34])
theorem qb_len (l : List UInt8) : (qb l).length ≤ 2 * l.length := by
  induction l with
  | nil => decide
  | cons c l ih =>
    have : qb (c :: l) = (if c = 34 ∨ c = 92 then [92, c] else [c]) ++ qb l := rfl
    rw [this, List.length_append, List.length_cons]
    split <;> simp <;> omega
theorem qb_snoc (l : List UInt8) (c : UInt8) : qb (l ++ [c]) = qb l ++ (if c = 34 ∨ c = 92 then [92, c] else [c]) := by
  simp [qb]
def pQuote : List V1 → Heap → Option (AV × Heap) := fun args hp => match args with
  | [.c (.d (.sc (.string s)))] => if s.size ≤ 35184372088832 then some (.str ⟨(quoteL s.data.toList).toArray⟩, hp) else none
  | _ => none
def mQuote (s : Bs) : Option Bs := if s.length ≤ 35184372088832 then some (quoteL s) else none
theorem pQuote_t (s : Bs) (hp : Heap) : pQuote [.c (.d (.sc (.string (S s))))] hp = (mQuote s).map fun x => (.v (.c (.d (.sc (.string (S x))))), hp) := by
  unfold pQuote mQuote
  have h : (S s).size = s.length := S_size s
  simp only [h, S_toList]
  split <;> rfl
/-- strings.Trim over plain lists -/
def mTrim (s t : Bs) : Option Bs := if s.length ≤ 9223372036854775807 ∧ t.length < 4294967281 ∧ t.all (fun b => decide (b.toNat < 128)) = true then some (Lib.trimS s t) else none
theorem pTrim_t (s t : Bs) (hp : Heap) : pTrim [.c (.d (.sc (.string (S s)))), .c (.d (.sc (.string (S t))))] hp = (mTrim s t).map fun x => (.v (.c (.d (.sc (.string (S x))))), hp) := by
  unfold pTrim mTrim asciiB
  have h : (S s).size = s.length := S_size s
  have h' : (S t).size = t.length := S_size t
  simp only [h, h', S_toList]
  split <;> rfl
end Go.Ab
