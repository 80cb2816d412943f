/- Functions of the library as the evaluator answers them: strings.Index, IndexByte, Trim. -/
import Derived.Test.YteenmbcmgcnkmaaGreatDoorAb25
import Derived.Lib.Index
import Derived.Lib.SlTrimSet
set_option linter.unusedVariables false
set_option linter.unusedSimpArgs false
namespace Go.Ab
open Go
def pIndex : List V1 → Heap → Option (AV × Heap) := fun args hp => match args with
  | [.c (.d (.sc (.string s))), .c (.d (.sc (.string t)))] => if s.size < 4294967281 then some (.int .i64 (Lib.index s.data.toList t.data.toList), hp) else none
  | _ => none
def pIndexByte : List V1 → Heap → Option (AV × Heap) := fun args hp => match args with
  | [.c (.d (.sc (.string s))), .c (.d (.sc (.int .u8 c)))] => some (.int .i64 (Lib.indexByte s.data.toList c.toNat.toUInt8), hp)
  | _ => none
def asciiB (s : ByteArray) : Bool := s.data.toList.all fun b => decide (b.toNat < 128)
theorem asciiB_ok {s : ByteArray} (h : asciiB s = true) : ∀ (j : Nat) b, s.data.toList[j]? = some b → b.toNat < 128 := fun j b hj => by
  have := List.all_eq_true.1 h b (List.mem_of_getElem? hj)
  simpa using this
def pTrim : List V1 → Heap → Option (AV × Heap) := fun args hp => match args with
  | [.c (.d (.sc (.string s))), .c (.d (.sc (.string t)))] => if s.size ≤ 9223372036854775807 ∧ t.size < 4294967281 ∧ asciiB t = true then some (.str ⟨(Lib.trimS s.data.toList t.data.toList).toArray⟩, hp) else none
  | _ => none
end Go.Ab
