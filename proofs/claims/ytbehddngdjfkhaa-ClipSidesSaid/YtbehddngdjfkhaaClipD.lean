/-
  Both lefts leave the same; for all lists.
-/
import Derived.Test.YtbehddngdjfkhaaClipKb
set_option linter.unusedSimpArgs false
set_option linter.unusedVariables false
open Go Go.Proofs
namespace Go.Ev.Clip
end Go.Ev.Clip
