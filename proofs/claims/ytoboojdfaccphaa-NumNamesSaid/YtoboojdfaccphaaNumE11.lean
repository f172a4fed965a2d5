/-
  The contract of the closed law on the layer's names; no condition.
-/
import Derived.Test.YtoboojdfaccphaaNumD
open Go Go.Proofs
namespace Go.Ev.Num
set_option maxRecDepth 100000
noncomputable def fi11 : FnI := ⟨129, Try.f11.body.getD .skip, [.tmp 0], true⟩
theorem fi11_ok : fnGen Try.prog 11 = some fi11 := by kernel_rfl
theorem t11  : CM Try.prog 11 [] (.b true) [] true := by
  refine CM.of_gen (exts := exts) (inl := []) (sum := S60) extsOK S60_ok fi11_ok 6 rfl fun cx => ?_
  repeat' ((fail_if_success (with_reducible refine Side.mk ?_)); (fail_if_success (with_reducible refine Rest.mk ?_)); first | (with_reducible exact True.intro) | (with_reducible refine Need.mk ?_ ?_) | (with_reducible refine And.intro ?_ ?_) | (with_reducible intro hcl; try (exact absurd hcl (by decide +kernel))) | ((fail_if_success (with_reducible refine FinS.mk ?_)); (conv => whnf)) | (refine FinS.b ?_) | (refine FinS.lb ?_) | (refine FinS.i ?_) | (refine FinS.f ?_))
  all_goals first | (exact Side.mk (by decide +kernel)) | (refine Side.mk ⟨by decide, fun i hi => ?_, by decide⟩; obtain rfl : i = 0 := (by omega); rfl) | (refine Side.mk ⟨by decide, fun i hi => ?_⟩; obtain rfl : i = 0 := (by omega); rfl) | trace_state
def g11 : List MV → Option (List Prop × MV × List Blk × Bool)
  | [] => some ([], (.b true), [], false)
  | _ => none
theorem s11 : SumsOK Try.prog (sumOf 11 g11 S60) := by
  refine SumsOK.add S60_ok fun ms ps m blks al e hp => ?_
  unfold g11 at e
  split at e
  · cases e; exact (t11  ).alone rfl
  · cases e
def S11 := sumOf 11 g11 S60
theorem S11_ok : SumsOK Try.prog S11 := s11
end Go.Ev.Num
