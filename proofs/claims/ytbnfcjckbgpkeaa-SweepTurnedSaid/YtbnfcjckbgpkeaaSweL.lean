/-
  Both Orders answer alike; for all lists.
-/
import Derived.Test.YtbnfcjckbgpkeaaSweK
import Derived.Test.YtbnfcjckbgpkeaaEvL
set_option linter.unusedSimpArgs false
set_option linter.unusedVariables false
open Go Go.Proofs
namespace Go.Ev.Sweep
open Go.Ev.So
/-! ## Both orders are one -/
def kk (p : Nat → Bx) (x : Int) : Int := wrt .f64 (p x.toNat).1
def TT (p : Nat → Bx) (x y : Int) : Prop := kk p x < kk p y ∨ (kk p x = kk p y ∧ x < y)
def EE (p : Nat → Bx) (x y : Int) : Prop := okB p x.toNat = true ∧ okB p y.toNat = true ∧ x < y
theorem ok_num {p : Nat → Bx} {i : Nat} (h : okB p i = true) : isNan .f64 (p i).1 = false := by
  have h1 : bad4 (p i).1 (p i).2.1 (p i).2.2.1 (p i).2.2.2 = false := by
    cases hb : bad4 (p i).1 (p i).2.1 (p i).2.2.1 (p i).2.2.2
    · rfl
    · have : (chk (p i).1 (p i).2.1 (p i).2.2.1 (p i).2.2.2 == 0) = true := h
      unfold chk at this
      rw [hb] at this
      exact absurd this (by decide)
  unfold bad4 at h1
  simp only [Bool.or_eq_false_iff, Bool.not_eq_false', Bool.and_eq_true] at h1
  have h2 := h1.1.1.1.1
  unfold finV at h2
  rw [finite_eq] at h2
  exact fin_not_nan h2
theorem ord_box (p : Nat → Bx) : Ord (lsV p) (TT p) (EE p) where
  irr x h := by unfold TT at h; omega
  tr x y z h g := by unfold TT at *; omega
  ag x y h := by
    obtain ⟨h1, h2, h3⟩ := h
    unfold lsV
    rw [flt_eq, ok_num h1, ok_num h2]
    show (!false && !false && decide (kk p y < kk p x)) = true ↔ TT p y x
    unfold TT
    simp only [Bool.not_false, Bool.true_and, decide_eq_true_eq]
    omega
  tot x y h := by
    obtain ⟨_, _, h3⟩ := h
    unfold TT; omega
theorem fL_lt (q : Nat → Bool) : ∀ i x y, x < y → y < (fL q i).length → (fL q i).getD x 0 < (fL q i).getD y 0
  | 0, x, y, _, h => by simp [fL] at h
  | i + 1, x, y, hxy, h => by
    cases hq : q i
    · rw [fL_f hq] at h ⊢; exact fL_lt q i x y hxy h
    · rw [fL_t hq] at h ⊢
      have hl : y < (fL q i).length + 1 := by simpa using h
      have e1 : (fL q i ++ [(i : Int)]).getD x 0 = (fL q i).getD x 0 := by
        rw [List.getD_eq_getElem?_getD, List.getElem?_append_left (by omega), ← List.getD_eq_getElem?_getD]
      rw [e1]
      rcases Nat.lt_or_ge y (fL q i).length with c | c
      · rw [List.getD_eq_getElem?_getD (i := y), List.getElem?_append_left c, ← List.getD_eq_getElem?_getD]
        exact fL_lt q i x y hxy c
      · have : y = (fL q i).length := by omega
        subst this
        have e2 : (fL q i ++ [(i : Int)]).getD (fL q i).length 0 = (i : Int) := by simp [List.getD_eq_getElem?_getD]
        rw [e2]
        exact (fL_bd (q := q) (nn := i) i (Nat.le_refl _) x hxy).2.1
theorem fL_has (q : Nat → Bool) : ∀ i j, j < i → q j = true → ∃ k, k < (fL q i).length ∧ (fL q i).getD k 0 = (j : Int)
  | 0, j, h, _ => by omega
  | i + 1, j, h, hj => by
    cases hq : q i
    · rw [fL_f hq]
      have : j ≠ i := by intro e; subst e; rw [hj] at hq; cases hq
      exact fL_has q i j (by omega) hj
    · rw [fL_t hq]
      by_cases e : j = i
      · subst e
        exact ⟨(fL q j).length, by simp, by simp [List.getD_eq_getElem?_getD]⟩
      · obtain ⟨k, h1, h2⟩ := fL_has q i j (by omega) hj
        refine ⟨k, by simp; omega, ?_⟩
        rw [List.getD_eq_getElem?_getD, List.getElem?_append_left h1, ← List.getD_eq_getElem?_getD, h2]
theorem rf_sd (p : Nat → Bx) : ∀ i, Sd (TT p) 0 (fL (okB p) i).length (rfV p i)
  | 0 => fun x y _ _ h => by simp [fL] at h
  | i + 1 => by
    have ih := rf_sd p i
    cases h : okB p i
    · rw [rfV_f h, fL_f h]; exact ih
    · rw [rfV_t h, ← fL_tl h]
      refine insD_sd (ord_box p) _ _ (Nat.lt_succ_self _) (fun x y h1 h2 h3 h4 => ?_) (fun x h1 h2 => ?_)
      · rw [apF_lo (by omega), apF_lo (by omega)]
        exact ih x y h1 h2 (by omega)
      · rw [apF_lo h2, apF_at]
        have := rf_ok p i x h2
        exact ⟨this.2.2, by simpa using h, this.2.1⟩
theorem rf_has (p : Nat → Bx) : ∀ i j, j < i → okB p j = true → ∃ k, k < (fL (okB p) i).length ∧ rfV p i k = (j : Int)
  | 0, j, h, _ => by omega
  | i + 1, j, h, hj => by
    cases hq : okB p i
    · rw [fL_f hq, rfV_f hq]
      have : j ≠ i := by intro e; subst e; rw [hj] at hq; cases hq
      exact rf_has p i j (by omega) hj
    · rw [← fL_tl hq, rfV_t hq]
      have sm := same_insD (lsV p) (a := 0) (b := (fL (okB p) i).length + 1) (fL (okB p) i).length (apF (fL (okB p) i).length i (rfV p i)) (Nat.lt_succ_self _)
      have key : ∃ k, k < (fL (okB p) i).length + 1 ∧ apF (fL (okB p) i).length i (rfV p i) k = (j : Int) := by
        by_cases e : j = i
        · subst e; exact ⟨_, Nat.lt_succ_self _, apF_at⟩
        · obtain ⟨k, h1, h2⟩ := rf_has p i j (by omega) hj
          exact ⟨k, by omega, by rw [apF_lo h1]; exact h2⟩
      obtain ⟨k, h1, h2⟩ := key
      obtain ⟨k', q1, q2, q3⟩ := sm.of k (Nat.zero_le _) h1
      exact ⟨k', q2, by rw [← q3]; exact h2⟩
theorem order_eq (p : Nat → Bx) (nn : Nat) : ∀ k, k < (fL (okB p) nn).length → orV p nn k = refV p nn k := by
  have o := ord_box p
  have sm := same_stab (lsV p) (fL (okB p) nn).length (orD p nn)
  refine uniq o.irr o.tr (stab_sd o fun x y h1 h2 => ?_) (rf_sd p nn) (fun k hk => ?_) (fun k hk => ?_)
  · have b1 := fL_bd (q := okB p) (nn := nn) nn (Nat.le_refl _) x (by omega)
    have b2 := fL_bd (q := okB p) (nn := nn) nn (Nat.le_refl _) y h2
    exact ⟨b1.2.2, b2.2.2, fL_lt _ _ x y h1 h2⟩
  · obtain ⟨k', _, q2, q3⟩ := sm.to k (Nat.zero_le _) hk
    have b1 := fL_bd (q := okB p) (nn := nn) nn (Nat.le_refl _) k' q2
    obtain ⟨k2, r1, r2⟩ := rf_has p nn ((fL (okB p) nn).getD k' 0).toNat (by omega) b1.2.2
    refine ⟨k2, r1, ?_⟩
    show stab (lsV p) _ (orD p nn) k = rfV p nn k2
    rw [r2, q3]
    show (fL (okB p) nn).getD k' 0 = _
    omega
  · have b1 := rf_ok p nn k hk
    obtain ⟨k2, r1, r2⟩ := fL_has (okB p) nn (rfV p nn k).toNat (by omega) b1.2.2
    obtain ⟨k3, _, s2, s3⟩ := sm.of k2 (Nat.zero_le _) r1
    refine ⟨k3, s2, ?_⟩
    show rfV p nn k = stab (lsV p) _ (orD p nn) k3
    rw [← s3]
    show rfV p nn k = (fL (okB p) nn).getD k2 0
    rw [r2]; omega
theorem cut_order {p : Nat → Bx} {nn k : Nat} (h : k < (cutL nn (fL (okB p) nn)).length) : orV p nn k = refV p nn k := by
  refine order_eq p nn k ?_
  by_cases c : 16384 < nn
  · rw [(many_t c (l := fL (okB p) nn)).1] at h; simp at h
  · rwa [(many_f c (l := fL (okB p) nn)).1] at h
end Go.Ev.Sweep
