/-
  The contract of apart, which writes and grows two lists; for lists of at most 13000000000000 pairs.
-/
import Derived.Test.YtbnfcjckbgpkeaaSweV
import Derived.Test.YtbnfcjckbgpkeaaEvL
set_option linter.unusedSimpArgs false
set_option linter.unusedVariables false
open Go Go.Proofs
namespace Go.Ev.Sweep
set_option maxRecDepth 100000
set_option maxHeartbeats 1000000
open Go.Ev.So
end Go.Ev.Sweep
