/-
  The layer's functions and the reference's are the same, for all floats.
-/
import Derived.Test.YtoboojdfaccphaaNumA
open Go Go.Proofs
namespace Go.Ev.Num

theorem zero_sgn (k : FloatKind) : neg k 0 = false := by cases k <;> decide
theorem fminus_zero (k : FloatKind) : fminus k 0 = false := by cases k <;> decide
theorem fminus_negzero (k : FloatKind) : fminus k k.format.signWeight = true := by cases k <;> decide
theorem wrt_zero (k : FloatKind) : wrt k 0 = 0 := by cases k <;> decide
theorem nan_zero (k : FloatKind) : isNan k 0 = false := by cases k <;> decide
theorem fminus_of {k : FloatKind} {x : Nat} (hx : Can k x) (h : wrt k x = 0) : fminus k x = neg k x := by
  have hz := zero_cases hx.lt h
  cases hn : neg k x
  · rw [hn] at hz; simp at hz; rw [hz, fminus_zero]
  · rw [hn] at hz; simp at hz; rw [hz, fminus_negzero]

theorem feq0 (k : FloatKind) (x : Nat) : feq k x 0 = (!isNan k x && decide (wrt k x = 0)) := by
  rw [feq_eq, nan_zero, wrt_zero]; simp

theorem nSame_eq {k : FloatKind} {a b : Nat} (ha : Can k a) (hb : Can k b) : nSame k a b = decide (a = b) := by
  unfold nSame
  rw [feq0, feq0, feq_eq]
  cases na : isNan k a
  · cases nb : isNan k b
    · by_cases h0 : wrt k a = 0
      · by_cases h1 : wrt k b = 0
        · rw [fminus_of ha h0, fminus_of hb h1]
          simp only [h0, h1, Bool.not_false, decide_true, Bool.and_self, cond_true]
          rw [Bool.eq_iff_iff]
          simp only [beq_iff_eq, decide_eq_true_eq]
          exact ⟨fun h => can_ext ha hb (h0.trans h1.symm) h, fun h => by rw [h]⟩
        · have hne : a ≠ b := by intro e; rw [e] at h0; exact h1 h0
          simp [h0, h1, hne]; omega
      · have : (decide (wrt k a = 0)) = false := by simp [h0]
        simp only [this, Bool.and_false, Bool.false_and, cond_false, Bool.not_false, Bool.true_and, Bool.or_false]
        rw [Bool.eq_iff_iff]
        simp only [decide_eq_true_eq]
        refine ⟨fun h => can_ext ha hb h ?_, fun h => by rw [h]⟩
        rw [neg_of_wrt h0, neg_of_wrt (h ▸ h0), h]
    · have hne : a ≠ b := by intro e; rw [e, nb] at na; cases na
      simp [hne]
  · cases nb : isNan k b
    · have hne : a ≠ b := by intro e; rw [e, nb] at na; cases na
      simp [hne]
    · have : a = b := by rw [ha.qnan na, hb.qnan nb]
      simp [this]

theorem nWithin_eq {a m : Nat} (_ : Can .f64 a) (hm : Can .f64 m) : nWithin .f64 a m = rWithin a m := by
  unfold nWithin rWithin
  rw [fle_eq, fle_eq, fgt_eq, fgt_eq, isNan_fneg hm]
  cases na : isNan .f64 a
  · cases nm : isNan .f64 m
    · rw [(fneg_of hm nm).1]
      rw [Bool.eq_iff_iff]
      simp
      omega
    · simp
  · simp

theorem fneg_widen {m : Nat} (hm : Can .f32 m) : fneg .f64 (widen m) = widen (fneg .f32 m) := by
  cases nm : isNan .f32 m
  · have nw : isNan .f64 (widen m) = false := by rw [isNan_widen, nm]
    have nf : isNan .f32 (fneg .f32 m) = false := by rw [isNan_fneg hm, nm]
    have h1 := fneg_of (can_widen m) nw
    have h2 := fneg_of hm nm
    apply can_ext (can_fneg (can_widen m)) (can_widen _)
    · rw [h1.1]
      have a := wrt_widen_lt nf nm
      have hz := wrt_widen_zero nm
      have hz' := wrt_widen_zero nf
      have s1 : rg Ieee.double (widen (fneg .f32 m)) = rg Ieee.double (widen m) := by
        have e1 : rg Ieee.single (fneg .f32 m) = rg Ieee.single m := by
          unfold fneg
          rw [canon_of_not ((isNan_neg hm.lt).trans nm)]
          exact (negFloat_eq .f32 hm.lt).1
        have b1 := rg_widen nf nm
        have b2 := rg_widen nm nf
        rw [e1] at b1 b2
        omega
      rw [wrt_eq, wrt_eq, neg_widen nf, h2.2, neg_widen nm]
      show -(if neg .f32 m = true then -(rg Ieee.double (widen m) : Int) else rg Ieee.double (widen m)) = if (!neg .f32 m) = true then -(rg Ieee.double (widen (fneg .f32 m)) : Int) else rg Ieee.double (widen (fneg .f32 m))
      rw [s1]
      cases neg .f32 m <;> simp
    · rw [h1.2, neg_widen nf, h2.2, neg_widen nm]
  · have e1 : fneg .f32 m = m := by rw [hm.qnan nm]; decide
    rw [e1, widen_nan nm]; decide

theorem fgt_widen (a b : Nat) : fgt .f64 (widen a) (widen b) = fgt .f32 a b := by
  rw [fgt_eq, fgt_eq, isNan_widen, isNan_widen]
  cases na : isNan .f32 a
  · cases nb : isNan .f32 b
    · rw [Bool.eq_iff_iff]; simp [wrt_widen_lt nb na]
    · simp
  · simp
theorem flt_widen (a b : Nat) : flt .f64 (widen a) (widen b) = flt .f32 a b := by
  rw [← fgt_swap, ← fgt_swap, fgt_widen]
theorem fle_widen (a b : Nat) : fle .f64 (widen a) (widen b) = fle .f32 a b := by
  rw [fle_eq, fle_eq, isNan_widen, isNan_widen]
  cases na : isNan .f32 a
  · cases nb : isNan .f32 b
    · rw [Bool.eq_iff_iff]
      have := wrt_widen_lt nb na
      simp; omega
    · simp
  · simp
theorem widen_zero : widen 0 = 0 := by decide

theorem nWithin32_eq {a m : Nat} (hm : Can .f32 m) : nWithin .f32 a m = rWithin (widen a) (widen m) := by
  rw [← nWithin_eq (can_widen a) (can_widen m)]
  unfold nWithin
  rw [fneg_widen hm, fle_widen, fle_widen]
theorem nClamp32_eq (a l h : Nat) : widen (nClamp .f32 a l h) = rClamp (widen a) (widen l) (widen h) := by
  unfold nClamp rClamp
  rw [fgt_widen, fgt_widen]
  cases fgt .f32 a l <;> cases fgt .f32 a h <;> rfl
theorem nClamp64_eq (a l h : Nat) : nClamp .f64 a l h = rClamp a l h := rfl
theorem nSign32_eq (a : Nat) : nSign .f32 a = nSign .f64 (widen a) := by
  unfold nSign
  rw [← fgt_widen, ← flt_widen, widen_zero]

/-! Where the places stand. -/
theorem plc_lt {a b : Nat} : plc a < plc b ↔ wrt .f64 a < wrt .f64 b ∨ (wrt .f64 a = wrt .f64 b ∧ neg .f64 a = true ∧ neg .f64 b = false) := by
  unfold plc
  rw [wrt_eq, wrt_eq]
  show _ ↔ (if neg .f64 a = true then -(rg Ieee.double a : Int) else rg Ieee.double a) < (if neg .f64 b = true then -(rg Ieee.double b : Int) else rg Ieee.double b) ∨ ((if neg .f64 a = true then -(rg Ieee.double a : Int) else rg Ieee.double a) = (if neg .f64 b = true then -(rg Ieee.double b : Int) else rg Ieee.double b) ∧ _)
  cases neg .f64 a <;> cases neg .f64 b <;> simp <;> omega

theorem neg_of_eq {k : FloatKind} {a b : Nat} (h : wrt k a = wrt k b) (h0 : wrt k a ≠ 0) : neg k a = neg k b := by
  rw [neg_of_wrt h0, neg_of_wrt (h ▸ h0), h]

theorem nLeast_eq {a b : Nat} (ha : Can .f64 a) (hb : Can .f64 b) : nLeast .f64 a b = rLeast a b := by
  unfold nLeast rLeast
  rw [feq0, feq0, flt_eq]
  cases na : isNan .f64 a
  · cases nb : isNan .f64 b
    · have h1 := @plc_lt b a
      simp only [Bool.not_false, Bool.true_and, Bool.false_or, cond_false]
      by_cases hlt : wrt .f64 b < wrt .f64 a
      · have : ¬ plc a ≤ plc b := by have := h1.2 (.inl hlt); omega
        simp [hlt, this]
      · by_cases he : wrt .f64 b = wrt .f64 a
        · by_cases h0 : wrt .f64 a = 0
          · have hb0 : wrt .f64 b = 0 := he.trans h0
            rw [fminus_of hb hb0]
            cases n1 : neg .f64 b
            · have : plc a ≤ plc b := by
                have : ¬ plc b < plc a := by rw [h1]; simp [hlt, n1]
                omega
              simp [h0, hb0, this]
            · cases n2 : neg .f64 a
              · have : ¬ plc a ≤ plc b := by have := h1.2 (.inr ⟨he, n1, n2⟩); omega
                simp [h0, hb0, this]
              · have hab : a = b := can_ext ha hb he.symm (by rw [n1, n2])
                rw [hab]; simp
          · have hb0 : wrt .f64 b ≠ 0 := by omega
            have hab : a = b := can_ext ha hb he.symm (neg_of_eq he.symm h0)
            rw [hab]; simp
        · have : plc a ≤ plc b := by
            have : ¬ plc b < plc a := by rw [h1]; simp [hlt, he]
            omega
          have h2 : ¬ (wrt .f64 a = 0 ∧ wrt .f64 b = 0) := by omega
          by_cases h3 : wrt .f64 a = 0
          · have h4 : wrt .f64 b ≠ 0 := fun h => h2 ⟨h3, h⟩
            simp [hlt, this, h4]
          · simp [hlt, this, h3]
    · simp
  · simp

theorem nMost_eq {a b : Nat} (ha : Can .f64 a) (hb : Can .f64 b) : nMost .f64 a b = rMost a b := by
  unfold nMost rMost
  rw [feq0, feq0, fgt_eq]
  cases na : isNan .f64 a
  · cases nb : isNan .f64 b
    · have h1 := @plc_lt a b
      simp only [Bool.not_false, Bool.true_and, Bool.false_or, cond_false]
      by_cases hlt : wrt .f64 a < wrt .f64 b
      · have : ¬ plc b ≤ plc a := by have := h1.2 (.inl hlt); omega
        simp [hlt, this]
      · by_cases he : wrt .f64 a = wrt .f64 b
        · by_cases h0 : wrt .f64 a = 0
          · have hb0 : wrt .f64 b = 0 := he.symm.trans h0
            rw [fminus_of ha h0]
            cases n1 : neg .f64 a
            · have : plc b ≤ plc a := by
                have : ¬ plc a < plc b := by rw [h1]; simp [hlt, n1]
                omega
              simp [h0, hb0, this]
            · cases n2 : neg .f64 b
              · have : ¬ plc b ≤ plc a := by have := h1.2 (.inr ⟨he, n1, n2⟩); omega
                simp [h0, hb0, this]
              · have hab : a = b := can_ext ha hb he (by rw [n1, n2])
                rw [hab]; simp
          · have hab : a = b := can_ext ha hb he (neg_of_eq he h0)
            rw [hab]; simp
        · have : plc b ≤ plc a := by
            have : ¬ plc a < plc b := by rw [h1]; simp [hlt, he]
            omega
          have h2 : ¬ (wrt .f64 a = 0 ∧ wrt .f64 b = 0) := by omega
          by_cases h3 : wrt .f64 a = 0
          · have h4 : wrt .f64 b ≠ 0 := fun h => h2 ⟨h3, h⟩
            simp [hlt, this, h4]
          · simp [hlt, this, h3]
    · simp
  · simp

theorem feq_widen (a b : Nat) : feq .f64 (widen a) (widen b) = feq .f32 a b := by
  rw [feq_eq, feq_eq, isNan_widen, isNan_widen]
  cases na : isNan .f32 a
  · cases nb : isNan .f32 b
    · rw [Bool.eq_iff_iff]; simp [wrt_widen_eq na nb]
    · simp
  · simp
theorem fminus_widen {a : Nat} (ha : Can .f32 a) (h : feq .f32 a 0 = true) : fminus .f64 (widen a) = fminus .f32 a := by
  rw [feq0] at h
  simp at h
  have h0 := (wrt_widen_zero h.1).2 h.2
  rw [fminus_of ha h.2, fminus_of (can_widen a) h0, neg_widen h.1]
theorem nLeast32_eq {a b : Nat} (hb : Can .f32 b) : widen (nLeast .f32 a b) = rLeast (widen a) (widen b) := by
  rw [← nLeast_eq (can_widen a) (can_widen b)]
  unfold nLeast
  have e : (feq .f64 (widen a) 0 && feq .f64 (widen b) 0 && fminus .f64 (widen b)) = (feq .f32 a 0 && feq .f32 b 0 && fminus .f32 b) := by
    have e1 := feq_widen a 0
    have e2 := feq_widen b 0
    rw [widen_zero] at e1 e2
    rw [e1, e2]
    cases h : feq .f32 b 0
    · simp
    · rw [fminus_widen hb h]
  rw [isNan_widen, flt_widen, e]
  cases (isNan .f32 a || flt .f32 b a || (feq .f32 a 0 && feq .f32 b 0 && fminus .f32 b)) <;> rfl
theorem nMost32_eq {a b : Nat} (ha : Can .f32 a) : widen (nMost .f32 a b) = rMost (widen a) (widen b) := by
  rw [← nMost_eq (can_widen a) (can_widen b)]
  unfold nMost
  have e : (feq .f64 (widen a) 0 && feq .f64 (widen b) 0 && fminus .f64 (widen a)) = (feq .f32 a 0 && feq .f32 b 0 && fminus .f32 a) := by
    have e1 := feq_widen a 0
    have e2 := feq_widen b 0
    rw [widen_zero] at e1 e2
    rw [e1, e2]
    cases h : feq .f32 a 0
    · simp
    · rw [fminus_widen ha h]
  rw [isNan_widen, fgt_widen, e]
  cases (isNan .f32 a || fgt .f32 b a || (feq .f32 a 0 && feq .f32 b 0 && fminus .f32 a)) <;> rfl

theorem nOrder_eq {a b : Nat} (ha : Can .f64 a) (hb : Can .f64 b) : nOrder a b = rOrder a b := by
  unfold nOrder rOrder
  rw [nSame_eq ha hb, feq_eq, fgt_eq]
  cases na : isNan .f64 a
  · cases nb : isNan .f64 b
    · have h1 := @plc_lt a b
      have h2 := @plc_lt b a
      simp only [Bool.not_false, Bool.true_and, Bool.false_or, cond_false]
      by_cases hab : a = b
      · have e1 : ¬ plc a < plc b := by rw [hab]; omega
        have e2 : ¬ plc b < plc a := by rw [hab]; omega
        simp [hab]
      · by_cases hlt : wrt .f64 b < wrt .f64 a
        · have e1 : plc b < plc a := h2.2 (.inl hlt)
          have e2 : ¬ plc a < plc b := by omega
          simp [hab, hlt, e1, e2]
        · by_cases he : wrt .f64 a = wrt .f64 b
          · have h0 : wrt .f64 a = 0 := by
              by_cases h0 : wrt .f64 a = 0
              · exact h0
              · exact absurd (can_ext ha hb he (neg_of_eq he h0)) hab
            rw [fminus_of hb (he ▸ h0)]
            have hn : neg .f64 a ≠ neg .f64 b := fun h => hab (can_ext ha hb he h)
            cases n1 : neg .f64 b
            · have n2 : neg .f64 a = true := by cases h : neg .f64 a; exact absurd (h.trans n1.symm) hn; rfl
              have e1 : plc a < plc b := h1.2 (.inr ⟨he, n2, n1⟩)
              simp [hab, hlt, e1]
            · have n2 : neg .f64 a = false := by cases h : neg .f64 a; rfl; exact absurd (h.trans n1.symm) hn
              have e1 : plc b < plc a := h2.2 (.inr ⟨he.symm, n1, n2⟩)
              have e2 : ¬ plc a < plc b := by omega
              simp [hab, he, e1, e2]
          · have e1 : plc a < plc b := h1.2 (.inl (by omega))
            simp [hab, hlt, he, e1]
    · have hne : a ≠ b := by intro e; rw [e, nb] at na; cases na
      simp [hne]
  · cases nb : isNan .f64 b
    · have hne : a ≠ b := by intro e; rw [e, nb] at na; cases na
      simp [hne]
    · have : a = b := by rw [ha.qnan na, hb.qnan nb]
      simp [this]
end Go.Ev.Num
