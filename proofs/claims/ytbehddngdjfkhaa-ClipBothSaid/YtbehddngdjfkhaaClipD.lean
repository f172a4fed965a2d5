/-
  Both lefts leave the same; for all lists.
-/
import Derived.Test.YtbehddngdjfkhaaClipKb
set_option linter.unusedSimpArgs false
set_option linter.unusedVariables false
open Go Go.Proofs
namespace Go.Ev.Clip
/-! What a plane leaves: dropping equals to the last one kept is dropping equals to the one ahead. -/
theorem feq_symm (x y : Nat) : feq .f64 x y = feq .f64 y x := by
  rw [feq_eq, feq_eq, Bool.and_comm (!isNan .f64 x)]
  congr 1
  exact decide_eq_decide.2 ⟨Eq.symm, Eq.symm⟩
theorem feq_tr {x y : Nat} (h : feq .f64 x y = true) (z : Nat) : feq .f64 x z = feq .f64 y z := by
  rw [feq_eq] at h
  simp only [Bool.and_eq_true, decide_eq_true_eq, Bool.not_eq_true'] at h
  rw [feq_eq, feq_eq, h.1.1, h.1.2, h.2]
theorem eqP_symm (x y : Nat × Nat) : eqP x y = eqP y x := by unfold eqP; rw [feq_symm x.1, feq_symm x.2]
theorem eqP_tr {x y : Nat × Nat} (h : eqP x y = true) (z : Nat × Nat) : eqP x z = eqP y z := by
  unfold eqP at h ⊢
  simp only [Bool.and_eq_true, Bool.and_true] at h ⊢
  rw [feq_tr h.1, feq_tr h.2]
def pAll (L R : List (Nat × Nat)) : List (Nat × Nat) := R.foldl putV L
theorem lf_pAll (pl : Pl) (n : Nat) (p : Nat → Nat × Nat) : ∀ i, lfL pl n p i = pAll [] (rwL pl n p i)
  | 0 => rfl
  | i + 1 => by
    show lf2 pl (lf1 pl (lfL pl n p i) (p i)) (p i) (p (nxt n i)) = pAll [] (rw1 pl (rwL pl n p i) (p i) (p (nxt n i)))
    have ih := lf_pAll pl n p i
    unfold pAll at ih
    unfold lf2 lf1 rw1 rwA pAll
    cases hu : fle .f64 (uF pl (p i)) 0 <;> cases hw : fle .f64 (uF pl (p (nxt n i))) 0 <;> simp [List.foldl_append, ih]
theorem put_last (L : List (Nat × Nat)) (v : Nat × Nat) (d : Nat × Nat) : (L ++ [v]).getD ((L ++ [v]).length - 1) d = v := by
  simp [List.getD_eq_getElem?_getD]
theorem dd_eq (R : List (Nat × Nat)) : ∀ k, k ≤ R.length → ddL R k = pAll [] (R.take k) ∧ (0 < k → ddL R k ≠ [] ∧ ∀ w, eqP ((ddL R k).getD ((ddL R k).length - 1) z2) w = eqP (R.getD (k - 1) z2) w)
  | 0, _ => ⟨by simp [ddL, pAll], fun h => absurd h (Nat.lt_irrefl _)⟩
  | k + 1, h => by
    obtain ⟨h1, h2⟩ := dd_eq R k (by omega)
    have ht : R.take (k + 1) = R.take k ++ [R.getD k z2] := by
      rw [List.take_add_one, List.getD_eq_getElem?_getD, List.getElem?_eq_getElem (by omega)]; rfl
    have hp : pAll [] (R.take (k + 1)) = putV (pAll [] (R.take k)) (R.getD k z2) := by
      unfold pAll; rw [ht, List.foldl_append]; rfl
    rw [hp, ← h1]
    by_cases hk : k = 0
    · subst hk
      have hn : nb R 0 = false := rfl
      rw [dd_f hn]
      refine ⟨?_, fun _ => ⟨by simp, fun w => ?_⟩⟩
      · show _ = putV [] _
        rfl
      · rw [put_last]
    · obtain ⟨hne, hl⟩ := h2 (by omega)
      have hlen : (ddL R k).length ≠ 0 := by intro e; exact hne (List.length_eq_zero_iff.1 e)
      have hnb : nb R k = eqP (R.getD (k - 1) z2) (R.getD k z2) := by
        unfold nb
        rw [show decide ((0 : Int) < (k : Int)) = true from decide_eq_true (by omega), Bool.true_and, eqP_symm]
      have hpb : putB (ddL R k) (R.getD k z2) = !eqP (R.getD (k - 1) z2) (R.getD k z2) := by
        unfold putB
        rw [hl, show (((ddL R k).length : Int) == 0) = false by simpa using hlen, Bool.false_or]
      cases he : eqP (R.getD (k - 1) z2) (R.getD k z2)
      · rw [he] at hnb hpb
        rw [dd_f hnb, put_t hpb]
        exact ⟨rfl, fun _ => ⟨by simp, fun w => by rw [put_last]; rfl⟩⟩
      · rw [he] at hnb hpb
        rw [dd_t hnb, put_f hpb]
        exact ⟨rfl, fun _ => ⟨hne, fun w => by rw [hl w, eqP_tr he w]; rfl⟩⟩
theorem le_eq (pl : Pl) (n : Nat) (p : Nat → Nat × Nat) : rleV pl n p = leV pl n p := by
  unfold rleV leV
  rw [(dd_eq (rwL pl n p n) _ (Nat.le_refl _)).1, List.take_length, lf_pAll]
end Go.Ev.Clip
