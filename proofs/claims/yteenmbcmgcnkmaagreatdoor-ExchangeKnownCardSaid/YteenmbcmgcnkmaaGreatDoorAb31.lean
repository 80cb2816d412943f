/- The evaluator over typed values: more laws for the printed proofs. -/
import Derived.Test.YteenmbcmgcnkmaaGreatDoorAb24
import Derived.Test.YteenmbcmgcnkmaaGreatDoorAb30
set_option linter.unusedVariables false
set_option linter.unusedSimpArgs false
namespace Go.Ab
open Go
theorem mkNw_f (x : V1) : mkNw false x = x := by
  unfold mkNw
  split <;> rfl
/-- strings.Index over plain lists -/
def mIx (s t : Bs) : Option Int := if s.length < 4294967281 then some (Lib.index s t) else none
theorem pIndex_t (s t : Bs) (hp : Heap) : pIndex [.c (.d (.sc (.string (S s)))), .c (.d (.sc (.string (S t))))] hp = (mIx s t).map fun x => (.v (.c (.d (.sc (.int .i64 x)))), hp) := by
  unfold pIndex mIx
  have h : (S s).size = s.length := S_size s
  simp only [h, S_toList]
  split <;> rfl
theorem ev_eqB (P : Program) (t : TypeId) (x y : Operand) (a b : Bool) (h : P.underlying t = some .bool) : evalS P (do eqGuard .eql t x y (.bool a) (.bool b); binOp .eql t (.bool a) (.bool b)) = some (.bool (a == b)) := by
  have e : evalS P (do eqGuard .eql t x y (.bool a) (.bool b); binOp .eql t (.bool a) (.bool b)) = evalS P (do let r ← Op.equalIn (9999+1) t (.bool a) (.bool b); pure (.bool r)) := rfl
  rw [e]
  unfold Op.equalIn
  simp only [evalS_bind, evalS_und, h, Option.bind_some]
  rfl
theorem ev_neB (P : Program) (t : TypeId) (x y : Operand) (a b : Bool) (h : P.underlying t = some .bool) : evalS P (do eqGuard .neq t x y (.bool a) (.bool b); binOp .neq t (.bool a) (.bool b)) = some (.bool (!(a == b))) := by
  have e : evalS P (do eqGuard .neq t x y (.bool a) (.bool b); binOp .neq t (.bool a) (.bool b)) = evalS P (do let r ← Op.equalIn (9999+1) t (.bool a) (.bool b); pure (.bool (!r))) := rfl
  rw [e]
  unfold Op.equalIn
  simp only [evalS_bind, evalS_und, h, Option.bind_some]
  rfl
end Go.Ab
