/-
  The contract of ClipSides: it answers true; for lists below 2^62 points.
-/
import Derived.Test.YtbehddngdjfkhaaClipYd
set_option linter.unusedSimpArgs false
set_option linter.unusedVariables false
open Go Go.Proofs
namespace Go.Ev.Clip
set_option maxRecDepth 100000
theorem t6 (n : Nat) (p : Nat → Nat × Nat) (m : Nat) (q : Nat → Nat × Nat) (b0 : n < big) (b1 : m < big) : CM Try.prog 6 [.ro 2 n (fun j => ptM (p j)), .ro 2 m (fun j => ptM (q j))] (.b true) [] true :=
  CM.of_cut (exts := exts) (eqs := eqs) (inl := []) (sum := S18Y) extsOK eqsOK S18Y_ok fi6_ok rfl fun cx => by
    cases h : (checkV n p != 0 || checkV m q != 0)
    · rw [Bool.or_eq_false_iff] at h
      have hp : checkV n p = 0 := by have := h.1; simpa using this
      have hq : checkV m q = 0 := by have := h.2; simpa using this
      exact q6_0 n p m q hp hq (sides_ok hp hq) cx
    · exact q6_n n p m q b0 b1 h cx
end Go.Ev.Clip
