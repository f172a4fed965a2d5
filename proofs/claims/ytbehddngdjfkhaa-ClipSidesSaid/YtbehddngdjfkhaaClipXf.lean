/-
  The contract of ClipWithin: it answers true; for lists below 2^62 points.
-/
import Derived.Test.YtbehddngdjfkhaaClipXe
set_option linter.unusedSimpArgs false
set_option linter.unusedVariables false
open Go Go.Proofs
namespace Go.Ev.Clip
open Ieee
set_option maxRecDepth 100000
end Go.Ev.Clip
