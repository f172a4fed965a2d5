/-
  What a plane leaves of a polygon lies within, and each point within is left; for all points that Check lets pass.
-/
import Derived.Test.YtbehddngdjfkhaaClipXd
set_option linter.unusedSimpArgs false
set_option linter.unusedVariables false
open Go Go.Proofs
namespace Go.Ev.Clip
open Ieee
set_option maxRecDepth 100000
theorem check_facts {n : Nat} {p : Nat → Nat × Nat} (h : checkV n p = 0) : 3 ≤ n ∧ n ≤ 64 ∧ (∀ i, i < n → wth (p i).1 (p i).2 = true) ∧ ∀ i, i < n → okI n p i = true := by
  have hb : (checkV n p != 0) = false := by rw [h]; rfl
  have h3 := check_ge hb
  have h64 := check_le hb
  have hr : realsV n p = 0 := by
    cases hr : (realsV n p != 0)
    · simpa using hr
    · have h2 : checkV n p = realsV n p := by unfold checkV; rw [hr]; rfl
      rw [← h2, h] at hr; exact absurd hr (by decide)
  refine ⟨h3, h64, fun i hi => ?_, fun i hi => ?_⟩
  · cases hw : wth (p i).1 (p i).2
    · rw [reals_5 h64 hi hw] at hr; cases hr
    · rfl
  · cases hw : okI n p i
    · have : checkV n p = 60 := by
        unfold checkV
        rw [hr, blt_f h3, all_f hi hw]; rfl
      rw [this] at h; cases h
    · rfl
abbrev Wp (nx ny pf : Nat) (v : Nat × Nat) : Bool := fle .f64 (uF (nx, ny, pf) v) 0
abbrev Cp (nx ny pf : Nat) (a b : Nat × Nat) : Nat × Nat := cutF a b (uF (nx, ny, pf) a) (uF (nx, ny, pf) b)
theorem lfL_eq (nx ny pf n : Nat) (p : Nat → Nat × Nat) : ∀ i, lfL (nx, ny, pf) n p i = Le.lf (Wp nx ny pf) (Cp nx ny pf) eqP z2 p (nxt n) i
  | 0 => rfl
  | i + 1 => by
    show lf2 (nx, ny, pf) (lf1 (nx, ny, pf) (lfL (nx, ny, pf) n p i) (p i)) (p i) (p (nxt n i)) = _
    rw [lfL_eq nx ny pf n p i]
    rfl
theorem end_cases (L : List (Nat × Nat)) : (endL L = [] ∨ (endL L = trL L ∧ 3 ≤ (trL L).length)) := by
  unfold endL
  cases h : decide (((trL L).length : Int) < 3)
  · right
    have := of_decide_eq_false h
    exact ⟨rfl, by omega⟩
  · exact .inl rfl
theorem tr_sub {L : List (Nat × Nat)} {x : Nat × Nat} (h : x ∈ trL L) : x ∈ L := by
  unfold trL at h
  cases hb : trB L
  · rw [hb] at h; exact h
  · rw [hb] at h; exact (List.dropLast_sublist L).mem h
theorem end_sub {L : List (Nat × Nat)} {x : Nat × Nat} (h : x ∈ endL L) : x ∈ L := by
  rcases end_cases L with e | ⟨e, _⟩
  · rw [e] at h; cases h
  · rw [e] at h; exact tr_sub h
theorem getD_mem {L : List (Nat × Nat)} {i : Nat} (h : i < L.length) : L.getD i z2 ∈ L := by
  rw [List.getD_eq_getElem?_getD, List.getElem?_eq_getElem h]
  exact List.getElem_mem h
end Go.Ev.Clip
