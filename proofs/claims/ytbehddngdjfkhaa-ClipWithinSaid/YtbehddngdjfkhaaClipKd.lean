/-
  The contract of Both, the layer's; for lists below 2^62 points.
-/
import Derived.Test.YtbehddngdjfkhaaClipKc
set_option linter.unusedSimpArgs false
set_option linter.unusedVariables false
open Go Go.Proofs
namespace Go.Ev.Clip
set_option maxRecDepth 100000
set_option maxHeartbeats 1000000
theorem check_ge {n : Nat} {p : Nat → Nat × Nat} (h : (checkV n p != 0) = false) : 3 ≤ n := by
  rcases Nat.lt_or_ge n 3 with e | e
  · have h0 : checkV n p = 0 := by simpa using h
    cases hr : (realsV n p != 0)
    · rw [check_a hr e] at h0; cases h0
    · rw [check_r hr] at h0; rw [h0] at hr; cases hr
  · exact e
noncomputable def fi18 : FnI := ⟨35, Try.f18.body.getD .skip, [.tmp 4, .tmp 5], true⟩
theorem fi18_ok : fnGen Try.prog 18 = some fi18 := by kernel_rfl
end Go.Ev.Clip
