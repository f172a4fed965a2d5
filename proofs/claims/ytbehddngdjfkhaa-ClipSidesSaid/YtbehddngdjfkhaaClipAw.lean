/-
  The contract of awake, by closed runs; no condition.
-/
import Derived.Test.YtbehddngdjfkhaaClipB
set_option linter.unusedSimpArgs false
set_option linter.unusedVariables false
open Go Go.Proofs
namespace Go.Ev.Clip.C
set_option maxRecDepth 100000
noncomputable def fi7 : FnI := ⟨127, Try.f7.body.getD .skip, [.tmp 0], true⟩
theorem fi7_ok : fnGen Try.prog 7 = some fi7 := by kernel_rfl
noncomputable def ED : Env := genQ Try.prog exts eqs (List.range 82) S18
theorem t7 : CM Try.prog 7 [] (.b true) [] true :=
  oBool_sound (E := ED) (genQ_full extsOK eqsOK S18_ok) mixOK (fnGen_ok fi7_ok) rfl (L := 40) (k := 12) (by kernel_rfl)
end Go.Ev.Clip.C
