/- Texts: the law on quoted strings and pairs. -/
import Derived.Test.YtcjkhdkfdnjhaaaDoorPT5Q
import Derived.Test.YtcjkhdkfdnjhaaaDoorFQ2
set_option linter.unusedVariables false
set_option linter.unusedSimpArgs false
set_option linter.unnecessarySimpa false
open Go Go.Ab Go.Proofs Go.Proofs.YtcjkhdkfdnjhaaaDoor
namespace Go.Ab
theorem t5_true {s t : Bs} (hs : s.length ≤ SZ) (ht : t.length ≤ SZ) : m5 s t = some true := by
  unfold SZ at hs ht
  unfold m5
  rw [m24_eq t (by omega), m25_eq t (by omega), m26_eq t (by omega), m27_eq t (by omega), mQuote_eq s (by omega), m29_eq s (by omega)]
  simp
end Go.Ab
