/-
  Boxes the other way round have the same pairs by their new numbers; for all boxes.
-/
import Derived.Test.YtbnfcjckbgpkeaaSweAa
set_option linter.unusedSimpArgs false
set_option linter.unusedVariables false
open Go Go.Proofs
namespace Go.Ev.Sweep
open Go.Ev.So
theorem cl_m {n : Nat} {p : Nat → Bx} {i k : Nat} (hi : i < n) (hk : k < n) : mM (cl n p) i k = mV2 (p i) (p k) := by
  unfold mM
  rw [cl_lo hi, cl_lo hk]
theorem rP_mem {q : Nat → Bx} {n : Nat} {x : Pr} : x ∈ rP q n n ↔ ∃ i k : Nat, i < k ∧ k < n ∧ mM q i k = true ∧ x = ((i : Int), (k : Int)) := by
  unfold rP rL
  rw [gL_mem]
  constructor
  · rintro ⟨i, h1, h2, y, h3, h4, h5⟩
    exact ⟨i, i + 1 + y, by omega, by omega, h4, h5⟩
  · rintro ⟨i, k, h1, h2, h3, h4⟩
    refine ⟨i, by omega, (mM_ok h3).1, k - (i + 1), by omega, ?_, ?_⟩
    · show mM q i (i + 1 + (k - (i + 1))) = true
      rw [show i + 1 + (k - (i + 1)) = k by omega]; exact h3
    · rw [show i + 1 + (k - (i + 1)) = k by omega]; exact h4
end Go.Ev.Sweep
