/- Texts: the law on words. -/
import Derived.Test.YtcjkhdkfdnjhaaaDoorPT5W
import Derived.Test.YtcjkhdkfdnjhaaaDoorFW2
set_option linter.unusedVariables false
set_option linter.unusedSimpArgs false
set_option linter.unnecessarySimpa false
open Go Go.Ab Go.Proofs Go.Proofs.YtcjkhdkfdnjhaaaDoor
namespace Go.Ab
theorem t3_true {s t : Bs} (hs : s.length ≤ 140737488351232) (ht : t.length ≤ 140737488351232) : m3 s t = some true := by
  unfold m3 m18 m19
  rw [m10_eq s (by omega), m11_eq s (by omega), m12_eq s (by omega), m13_eq s (by omega), m14_eq s (by omega), m15_eq s (by omega), m16_eq s (by omega), m17_eq s (by omega), m16_eq t (by omega), m17_eq t (by omega)]
  simp
end Go.Ab
