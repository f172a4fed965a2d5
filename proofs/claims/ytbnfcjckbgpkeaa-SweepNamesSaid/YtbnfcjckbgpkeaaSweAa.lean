/-
  What SweepAll counts as it goes is what stands in the lists; for all boxes.
-/
import Derived.Test.YtbnfcjckbgpkeaaSweZ
import Derived.Test.YtbnfcjckbgpkeaaEvS
set_option linter.unusedSimpArgs false
set_option linter.unusedVariables false
open Go Go.Proofs
namespace Go.Ev.Sweep
open Go.Ev.So
theorem mM_ok {q : Nat → Bx} {i k : Nat} (h : mM q i k = true) : okB q i = true ∧ okB q k = true := by
  unfold mM at h
  rw [m_ok, Bool.and_eq_true, Bool.and_eq_true] at h
  exact h.1
end Go.Ev.Sweep
