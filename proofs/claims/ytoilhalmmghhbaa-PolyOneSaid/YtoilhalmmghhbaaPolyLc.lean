/-
  The layer's area, centre, what a polygon has and what is farthest are the document's; for all floats.
-/
import Derived.Test.YtoilhalmmghhbaaPolyLb
import Derived.Test.YtoilhalmmghhbaaPolyX
set_option linter.unusedSimpArgs false
set_option linter.unusedVariables false
open Go Go.Proofs
namespace Go.Ev.Poly
/-! Area, centre, what a polygon has and what is farthest: the layer's are the document's. -/
theorem areaE_eq (n : Nat) (p : Nat → Nat × Nat) : rareaE n p = areaE n p := by unfold rareaE areaE; rw [check_eq]
theorem areaR_eq (n : Nat) (p : Nat → Nat × Nat) : rareaR n p = areaR n p := by unfold rareaR areaR; rw [areaE_eq]
theorem cenR_eq (n : Nat) (p : Nat → Nat × Nat) : rcenR n p = cenR n p := by unfold rcenR cenR; rw [areaE_eq]
theorem hasE_eq (n : Nat) (p : Nat → Nat × Nat) (a1 a2 : Nat) : rhasE n p a1 a2 = hasE n p a1 a2 := by unfold rhasE hasE; rw [check_eq, nw_mr, nw_mr]
theorem hasV_eq (n : Nat) (p : Nat → Nat × Nat) (a1 a2 : Nat) : rhasV n p a1 a2 = hasV n p a1 a2 := by unfold rhasV hasV; rw [hasE_eq]
theorem farR_eq (n : Nat) (p : Nat → Nat × Nat) (a1 a2 : Nat) : rfarR n p a1 a2 = farR n p a1 a2 := by unfold rfarR farR; rw [hasE_eq]
theorem nOk_64 (n : Nat) (p : Nat → Nat × Nat) : nOk (checkV n p) n ≤ 64 := by
  cases h : (checkV n p != 0)
  · rw [nOk_0 h]; exact check_le h
  · rw [nOk_1 h]; omega
end Go.Ev.Poly
