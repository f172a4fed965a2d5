/-
  What SweepAll counts as it goes is what stands in the lists; for all boxes.
-/
import Derived.Test.YtbnfcjckbgpkeaaSweZ
import Derived.Test.YtbnfcjckbgpkeaaEvS
set_option linter.unusedSimpArgs false
set_option linter.unusedVariables false
open Go Go.Proofs
namespace Go.Ev.Sweep
open Go.Ev.So
/-! ## What SweepAll counts -/
theorem mV2_sym (a b : Bx) : mV2 a b = mV2 b a := by
  rw [m_ok, m_ok, ov_sym]
  cases (ck a == 0 : Bool) <;> cases (ck b == 0 : Bool) <;> rfl
theorem mM_ok {q : Nat → Bx} {i k : Nat} (h : mM q i k = true) : okB q i = true ∧ okB q k = true := by
  unfold mM at h
  rw [m_ok, Bool.and_eq_true, Bool.and_eq_true] at h
  exact h.1
end Go.Ev.Sweep
