/-
  The layer's normals, and how far rows lie apart, are the document's; for all floats.
-/
import Derived.Test.YtoilhalmmghhbaaPolyL
import Derived.Test.YtoilhalmmghhbaaPolyO
set_option linter.unusedSimpArgs false
set_option linter.unusedVariables false
open Go Go.Proofs
namespace Go.Ev.Poly
open Ieee
/-! Roots are never below nought; units, normals, and how far two rows lie apart: the layer's are the document's. -/
theorem wrt_pos {x : Nat} (h : neg .f64 x = false) : 0 ≤ wrt .f64 x := by rw [wrt_eq, h]; exact Int.natCast_nonneg _
theorem fsqrt_wrt {x : Nat} (h : isNan .f64 (fsqrt x) = false) : 0 ≤ wrt .f64 (fsqrt x) := by
  unfold fsqrt Format.sqrt at h ⊢
  by_cases hn : isNan .f64 x = true
  · obtain ⟨a, b, e⟩ := read_nan (k := .f64) hn
    rw [e] at h ⊢
    simp [Datum.root] at h ⊢
    revert h; decide +kernel
  · have hn : isNan .f64 x = false := by simpa using hn
    by_cases hf : fin .f64 x = true
    · obtain ⟨m, i, h1, h2⟩ := read_kind .f64 hf
      rw [h1] at h ⊢
      unfold Datum.root at h ⊢
      dsimp only at h ⊢
      split at h
      · rename_i hm
        subst hm
        rw [if_pos rfl]
        have this : ∀ (s : Bool) (pl : Int), rg FloatKind.f64.format (FloatKind.f64.format.nearest s 0 pl) = 0 := fun s pl => by
          unfold Format.nearest
          rw [if_pos rfl]
          exact (rg_word _ _ (r := 0) (by decide +kernel)).1
        show 0 ≤ wrt .f64 (FloatKind.f64.format.nearest (neg FloatKind.f64 x) 0 (FloatKind.f64.format.leastPlace + (i : Nat)))
        rw [wrt_eq, this]
        split <;> simp
      · rename_i hm
        rw [if_neg hm]
        split at h
        · exfalso; revert h; decide +kernel
        · rename_i hs
          rw [if_neg hs]
          refine wrt_pos ?_
          exact nearest_sgn _ _ _ _ iw
    · have h1 : rg FloatKind.f64.format x = FloatKind.f64.format.infRung := by
        rw [isNan_eq] at hn
        unfold fin at hf
        simp at hn hf
        omega
      rw [read_inf _ x (k_le .f64) h1] at h ⊢
      unfold Datum.root at h ⊢
      dsimp only at h ⊢
      split at h
      · exfalso; revert h; decide +kernel
      · rename_i hs
        rw [if_neg hs]
        have : sgn FloatKind.f64.format x = false := by simpa using hs
        rw [this]
        decide +kernel
theorem can_fsub (x y : Nat) : Can .f64 (fsub .f64 x y) := by
  unfold fsub
  cases h : FloatKind.f64.format.sub x y with
  | none => exact ⟨by rw [Option.getD_none, canon_of_nan (isNan_qnan _)], by decide⟩
  | some r =>
    have hn := map_write_not_nan FloatKind.f64.format (fun _ h => sum_not_nan h) h
    have hl : r < 2 ^ FloatKind.f64.format.width := by
      unfold Format.sub at h
      obtain ⟨d, _, rfl⟩ := Option.map_eq_some_iff.1 h
      exact Format.write_lt _ _
    exact ⟨canon_of_not hn, hl⟩
theorem fneg_fneg {x : Nat} (h : Can .f64 x) : fneg .f64 (fneg .f64 x) = x := by
  have e : Op.negFloat .f64 (Op.negFloat .f64 x) = x := by
    show (x ^^^ _) ^^^ _ = x
    rw [Nat.xor_assoc, Nat.xor_self, Nat.xor_zero]
  cases hn : isNan .f64 x
  · have h1 : isNan .f64 (Op.negFloat .f64 x) = false := by rw [isNan_neg h.lt]; exact hn
    unfold fneg
    rw [canon_of_not h1, e, canon_of_not hn]
  · have h1 : fneg .f64 x = qnan .f64 := canon_of_nan (by rw [isNan_neg h.lt]; exact hn)
    rw [h1, h.qnan hn]
    decide +kernel
theorem bad_eq (a b : Nat) : badR a b = badU a b := by
  unfold badR badU finV
  cases hn : isNan .f64 (lenV a b)
  · have h0 : 0 ≤ wrt .f64 (lenV a b) := fsqrt_wrt hn
    have e : fle .f64 (lenV a b) 0 = feq .f64 (lenV a b) 0 := by
      have hz : wrt .f64 0 = 0 := by decide +kernel
      rw [fle_eq, feq_eq, hz]
      congr 1
      exact decide_eq_decide.2 (by omega)
    rw [e]
  · have : feq .f64 (fsub .f64 (lenV a b) (lenV a b)) 0 = false := by
      have hf : fin .f64 (lenV a b) = false := by
        cases e : fin .f64 (lenV a b)
        · rfl
        · rw [fin_not_nan e] at hn; cases hn
      rw [fsub_self_not hf]; decide +kernel
    rw [this]; rfl
theorem uV_eq (v : Nat × Nat) : ruV v = uV v := by unfold ruV uV; rw [bad_eq]
theorem norm_eq (n : Nat) (p : Nat → Nat × Nat) : rnormV n p = normV n p := by
  funext i
  unfold rnormV normV
  rw [uV_eq]
  congr 1
  unfold rrV rV
  exact congrArg (fun y => (y, fneg .f64 (wayV n p i).1)) (fneg_fneg (x := (wayV n p i).2) (can_fsub _ _)).symm
theorem two_eq (n : Nat) (p : Nat → Nat × Nat) (m : Nat) (q : Nat → Nat × Nat) : rtwoV n p m q = twoV n p m q := by unfold rtwoV twoV; rw [check_eq, check_eq]
theorem apR_eq (n : Nat) (p : Nat → Nat × Nat) (m : Nat) (q : Nat → Nat × Nat) : rapR n p m q = apR n p m q := by unfold rapR apR; rw [two_eq, norm_eq]
end Go.Ev.Poly
