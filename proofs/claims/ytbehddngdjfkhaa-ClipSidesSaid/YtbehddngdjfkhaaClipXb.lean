/-
  The walk of ClipWithin, its first half: the segment, case by case; under what the cases say.
-/
import Derived.Test.YtbehddngdjfkhaaClipXa
set_option linter.unusedSimpArgs false
set_option linter.unusedVariables false
open Go Go.Proofs
namespace Go.Ev.Clip
set_option maxRecDepth 100000
set_option maxHeartbeats 1000000
def inP (nx ny pf M : Nat) (v : Nat × Nat) : Prop := fle .f64 (bey nx ny pf v.1 v.2) (fmul .f64 4436045632959938560 M) = true
end Go.Ev.Clip
