/-
  Both lefts leave the same; for all lists.
-/
import Derived.Test.YtbehddngdjfkhaaClipKb
set_option linter.unusedSimpArgs false
set_option linter.unusedVariables false
open Go Go.Proofs
namespace Go.Ev.Clip
/-! What a plane leaves: dropping equals to the last one kept is dropping equals to the one ahead. -/
theorem feq_symm (x y : Nat) : feq .f64 x y = feq .f64 y x := by
  rw [feq_eq, feq_eq, Bool.and_comm (!isNan .f64 x)]
  congr 1
  exact decide_eq_decide.2 ⟨Eq.symm, Eq.symm⟩
theorem feq_tr {x y : Nat} (h : feq .f64 x y = true) (z : Nat) : feq .f64 x z = feq .f64 y z := by
  rw [feq_eq] at h
  simp only [Bool.and_eq_true, decide_eq_true_eq, Bool.not_eq_true'] at h
  rw [feq_eq, feq_eq, h.1.1, h.1.2, h.2]
theorem eqP_symm (x y : Nat × Nat) : eqP x y = eqP y x := by unfold eqP; rw [feq_symm x.1, feq_symm x.2]
theorem eqP_tr {x y : Nat × Nat} (h : eqP x y = true) (z : Nat × Nat) : eqP x z = eqP y z := by
  unfold eqP at h ⊢
  simp only [Bool.and_eq_true, Bool.and_true] at h ⊢
  rw [feq_tr h.1, feq_tr h.2]
theorem put_last (L : List (Nat × Nat)) (v : Nat × Nat) (d : Nat × Nat) : (L ++ [v]).getD ((L ++ [v]).length - 1) d = v := by
  simp [List.getD_eq_getElem?_getD]
end Go.Ev.Clip
