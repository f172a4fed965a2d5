/-
  The contract of lent; for lists of at most 8796093022206 points.
-/
import Derived.Test.YtbehddngdjfkhaaClipKb
import Derived.Test.YtbehddngdjfkhaaClipD
set_option linter.unusedSimpArgs false
set_option linter.unusedVariables false
open Go Go.Proofs
namespace Go.Ev.Clip
set_option maxRecDepth 100000
set_option maxHeartbeats 1000000
def room : Nat := 8700000000000
end Go.Ev.Clip
