/- Texts: the law on lists. -/
import Derived.Test.YtcjkhdkfdnjhaaaDoorPT5L
import Derived.Test.YtcjkhdkfdnjhaaaDoorFL2
set_option linter.unusedVariables false
set_option linter.unusedSimpArgs false
set_option linter.unnecessarySimpa false
open Go Go.Ab Go.Proofs Go.Proofs.YtcjkhdkfdnjhaaaDoor
namespace Go.Ab
theorem t4_true {s : Bs} (hs : s.length ≤ SZ) : m4 s = some true := by
  unfold SZ at hs
  unfold m4
  obtain ⟨z, h1⟩ := m22_eq s (by omega)
  obtain ⟨z', h2⟩ := m23_eq s (by omega)
  have hl := listL_len s
  rw [h1, h2]
  simp only [Option.bind_some]
  rw [m21_eq _ _ _ _ (by omega)]
  simp
end Go.Ab
