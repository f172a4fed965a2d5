/-
  Planes that are let pass, the greatest part, neighbours that are not equal; for all floats.
-/
import Derived.Test.YtbehddngdjfkhaaClipXc
import Derived.Test.YtbehddngdjfkhaaClipD
import Derived.Test.YtbehddngdjfkhaaClipKd
set_option linter.unusedSimpArgs false
set_option linter.unusedVariables false
open Go Go.Proofs
namespace Go.Ev.Clip
open Ieee
set_option maxRecDepth 100000
theorem wth_fl {a b : Nat} (h : wth a b = true) : Fl a (2 ^ 40) ∧ Fl b (2 ^ 40) := by
  unfold wth nw at h
  rw [Bool.and_eq_true] at h
  have v := val_40
  exact ⟨(nw_fl (by decide +kernel) (by decide +kernel) (by decide +kernel) h.1).mono v, (nw_fl (by decide +kernel) (by decide +kernel) (by decide +kernel) h.2).mono v⟩
/-! Neighbours are not equal. -/
theorem val_word0 (s : Bool) : val (double.word s 0) = 0 := by
  have h := val_U (double.word s 0)
  have e : vI (double.word s 0) = 0 := by
    unfold vI
    rw [(rg_word double s (by decide +kernel)).1]
    cases neg .f64 (double.word s 0) <;> decide +kernel
  rw [e] at h
  exact zero_of_mul UU_pos h
theorem read0 {x : Nat} (hx : fin .f64 x = true) (h0 : val x = 0) : ∃ e : Nat, double.read x = .number (neg .f64 x) 0 (double.leastPlace + (e : Nat)) := by
  obtain ⟨m, e, a1, a2⟩ := read_kind .f64 hx
  have hv := val_U x
  rw [h0, Rat.zero_mul] at hv
  have hI : vI x = 0 := by
    have : ((0 : Int) : Rat) = (vI x : Rat) := hv
    exact (Rat.intCast_inj.1 this).symm
  have hm : magOf double (rg double x) = 0 := by
    unfold vI sg at hI
    split at hI <;> omega
  have a2 : m * 2 ^ e = magOf double (rg double x) := a2
  rw [hm] at a2
  have : m = 0 := by
    rcases Nat.mul_eq_zero.1 a2 with h | h
    · exact h
    · exact absurd h (by have := Nat.two_pow_pos e; omega)
  subst this
  exact ⟨e, a1⟩
theorem fsqrt_val0 {x : Nat} (hx : fin .f64 x = true) (h0 : val x = 0) : fin .f64 (fsqrt x) = true ∧ val (fsqrt x) = 0 := by
  obtain ⟨e, h⟩ := read0 hx h0
  have hw : ∃ s, fsqrt x = double.word s 0 := by
    unfold fsqrt Format.sqrt
    have h : FloatKind.f64.format.read x = _ := h
    rw [h]
    simp only [Datum.root, Option.map_some, Option.getD_some, Format.write, if_true]
    rw [nearest_zero]
    exact ⟨_, rfl⟩
  obtain ⟨s, hw⟩ := hw
  rw [hw]
  exact ⟨by cases s <;> decide +kernel, val_word0 s⟩
theorem feq_sub0 {x y : Nat} (hx : fin .f64 x = true) (hy : fin .f64 y = true) (h : feq .f64 x y = true) : fin .f64 (fsub .f64 x y) = true ∧ val (fsub .f64 x y) = 0 := by
  rw [feq_eq] at h
  simp only [Bool.and_eq_true, decide_eq_true_eq] at h
  have h1 := val_le.2 (Int.le_of_eq h.2)
  have h2 := val_le.2 (Int.le_of_eq h.2.symm)
  have hC := CC_big
  have h60 : (2 : Rat) ^ 60 = 1152921504606846976 := by grind
  rw [h60] at hC
  obtain ⟨f, n⟩ := fsub_nearX hx hy (by grind) (by grind)
  obtain ⟨n1, n2⟩ := n 0 (by grind) (by grind)
  rw [Rat.zero_mul] at n1 n2
  exact ⟨f, by grind⟩
end Go.Ev.Clip
