/-
  The walk of ClipWithin, its second half: the polygon; under the facts WOk of what is left.
-/
import Derived.Test.YtbehddngdjfkhaaClipXb
set_option linter.unusedSimpArgs false
set_option linter.unusedVariables false
open Go Go.Proofs
namespace Go.Ev.Clip
set_option maxRecDepth 100000
set_option maxHeartbeats 1000000
end Go.Ev.Clip
