/-
  The layer's Check and Rectangle answer as the document's do; for all floats.
-/
import Derived.Test.YtoilhalmmghhbaaPolyS
import Derived.Test.YtoilhalmmghhbaaEvL
set_option linter.unusedSimpArgs false
set_option linter.unusedVariables false
open Go Go.Proofs
namespace Go.Ev.Poly
open Ieee
/-! What the two agree on. -/
theorem rg_rg (x : Nat) : rg double (rg double x) = rg double x := Nat.mod_mod _ _
theorem rg_lt (x : Nat) : rg double x < double.signWeight := Nat.mod_lt _ (by decide)
theorem neg_rg (x : Nat) : neg .f64 (rg double x) = false := by
  unfold neg sgn
  have h := rg_lt x
  rw [show FloatKind.f64.format.signWeight = double.signWeight from rfl]
  unfold rg at *
  simp [Nat.div_eq_of_lt h]
theorem isNan_rg (x : Nat) : isNan .f64 (rg double x) = isNan .f64 x := by
  rw [isNan_eq, isNan_eq]
  show decide (_ < rg double (rg double x)) = _
  rw [rg_rg]; rfl
theorem fabs_nan (x : Nat) : isNan .f64 (fabs x) = isNan .f64 x := by unfold fabs; rw [isNan_canon, isNan_rg]
theorem fabs_wrt {x : Nat} (h : isNan .f64 x = false) : wrt .f64 (fabs x) = rg double x := by
  unfold fabs
  rw [canon_of_not (by rw [isNan_rg]; exact h), wrt_eq, neg_rg]
  show ((rg double (rg double x) : Nat) : Int) = _
  rw [rg_rg]
theorem nw_eq {a m m' : Nat} (hm : isNan .f64 m = false) (hm' : isNan .f64 m' = false) (hw : wrt .f64 m' = -wrt .f64 m) (e : fneg .f64 m = m') : nw a m = aw a m := by
  unfold nw aw
  rw [e, fle_eq, fle_eq, fle_eq, fabs_nan, hm, hm', hw]
  cases hn : isNan .f64 a
  · rw [fabs_wrt hn]
    have h1 : wrt .f64 a = if neg .f64 a then -(rg double a : Int) else rg double a := wrt_eq .f64 a
    rw [h1, Bool.eq_iff_iff]
    simp
    split <;> omega
  · simp
theorem nw_mr (a : Nat) : nw a 4787326403894837248 = aw a 4787326403894837248 := nw_eq (m' := 14010698440749613056) (by decide +kernel) (by decide +kernel) (by decide +kernel) (by decide +kernel)
theorem wth_eq (a b : Nat) : rth a b = wth a b := by unfold rth wth; rw [nw_mr, nw_mr]
theorem aw_fin {a m : Nat} (h : aw a m = true) (hm : wrt .f64 m < double.infRung) : fin .f64 a = true ∧ (rg double a : Int) ≤ wrt .f64 m := by
  unfold aw at h
  rw [fle_eq, fabs_nan] at h
  simp at h
  obtain ⟨⟨h1, _⟩, h2⟩ := h
  rw [fabs_wrt h1] at h2
  refine ⟨?_, h2⟩
  unfold fin
  show decide (rg double a < double.infRung) = true
  rw [decide_eq_true_eq]; omega
theorem gt_le {x : Nat} (h : isNan .f64 x = false) : fgt .f64 x 0 = !fle .f64 x 0 := by
  rw [fgt_eq, fle_eq, h, show isNan .f64 0 = false by decide +kernel, Bool.eq_iff_iff]
  simp
theorem ge_lt {x y : Nat} (h : isNan .f64 x = false) (hy : isNan .f64 y = false) : fge .f64 x y = !flt .f64 x y := by
  rw [fge_eq, flt_eq, h, hy, Bool.eq_iff_iff]
  simp
/-- A place within the bounds. -/
def bdd (v : Nat × Nat) : Prop := wth v.1 v.2 = true
theorem bdd_fin {v : Nat × Nat} (h : bdd v) : (fin .f64 v.1 = true ∧ rg double v.1 ≤ 4787326403894837248) ∧ (fin .f64 v.2 = true ∧ rg double v.2 ≤ 4787326403894837248) := by
  unfold bdd at h
  rw [← wth_eq] at h
  unfold rth at h
  simp only [Bool.and_eq_true] at h
  have hmr : wrt .f64 4787326403894837248 = 4787326403894837248 := by decide +kernel
  obtain ⟨x1, x2⟩ := aw_fin h.1 (by decide +kernel)
  obtain ⟨y1, y2⟩ := aw_fin h.2 (by decide +kernel)
  rw [hmr] at x2 y2
  exact ⟨⟨x1, by omega⟩, ⟨y1, by omega⟩⟩
def sml (x : Nat) : Prop := fin .f64 x = true ∧ rg double x ≤ 4796333603149578240
theorem sub_sml {v w : Nat × Nat} (hv : bdd v) (hw : bdd w) : sml (subV v w).1 ∧ sml (subV v w).2 := by
  obtain ⟨⟨a1, a2⟩, b1, b2⟩ := bdd_fin hv
  obtain ⟨⟨c1, c2⟩, d1, d2⟩ := bdd_fin hw
  exact ⟨fsub_bd a1 c1 a2 c2, fsub_bd b1 d1 b2 d2⟩
theorem mul_fin {x y : Nat} (hx : sml x) (hy : sml y) : fin .f64 (fmul .f64 x y) = true :=
  fmul_fin (rx := 4796333603149578240) (ry := 4796333603149578240) hx.1 hy.1 hx.2 hy.2 (by decide +kernel)
theorem crs_num {v w : Nat × Nat} (hv : sml v.1 ∧ sml v.2) (hw : sml w.1 ∧ sml w.2) : isNan .f64 (crsV v w) = false :=
  fsub_num (fin_not_nan (mul_fin hv.1 hw.2)) (mul_fin hv.2 hw.1)
theorem len_num {v : Nat × Nat} (hv : sml v.1 ∧ sml v.2) : isNan .f64 (lnV v) = false :=
  fsqrt_num (fadd_num (fin_not_nan (mul_fin hv.1 hv.1)) (mul_fin hv.2 hv.2)) (fadd_pos (mul_fin hv.1 hv.1) (mul_fin hv.2 hv.2) (fsq_pos hv.1.1) (fsq_pos hv.2.1))
theorem idx_inv {n i j : Nat} (hi : i < n) (hj : j < n) : (i + (j + n - i) % n) % n = j := by
  by_cases h : i ≤ j
  · rw [show j + n - i = (j - i) + n by omega, Nat.add_mod_right, Nat.mod_eq_of_lt (show j - i < n by omega), show i + (j - i) = j by omega, Nat.mod_eq_of_lt hj]
  · rw [Nat.mod_eq_of_lt (show j + n - i < n by omega), show i + (j + n - i) = j + n by omega, Nat.add_mod_right, Nat.mod_eq_of_lt hj]
theorem idx_ne {n i k l : Nat} (hk : k < n) (hl : l < n) (h : k ≠ l) : (i + k) % n ≠ (i + l) % n := by
  intro e
  have h1 := Nat.sub_mod_eq_zero_of_mod_eq e
  have h2 := Nat.sub_mod_eq_zero_of_mod_eq e.symm
  rcases Nat.lt_or_gt_of_ne h with h | h
  · rw [show i + l - (i + k) = l - k by omega, Nat.mod_eq_of_lt (by omega)] at h2; omega
  · rw [show i + k - (i + l) = k - l by omega, Nat.mod_eq_of_lt (by omega)] at h1; omega
theorem okI_eq {n i : Nat} {p : Nat → Nat × Nat} (hi : i < n) (hb : ∀ j, j < n → bdd (p j)) : rokI n p i = okI n p i := by
  have hw : sml (wayV n p i).1 ∧ sml (wayV n p i).2 := sub_sml (hb _ (nxt_lt hi)) (hb i hi)
  have hc : ∀ j, j < n → fgt .f64 (crsV (wayV n p i) (subV (p j) (p i))) 0 = !fle .f64 (crsV (wayV n p i) (subV (p j) (p i))) 0 := fun j hj => gt_le (crs_num hw (sub_sml (hb j hj) (hb i hi)))
  unfold rokI okI
  rw [ge_lt (len_num hw) (by decide +kernel)]
  congr 1
  rw [Bool.eq_iff_iff, List.all_eq_true, List.all_eq_true]
  simp only [List.mem_range, Bool.or_eq_true]
  constructor
  · intro h k hk
    rcases Nat.lt_or_ge k 2 with h2 | h2
    · exact .inl (blt_t h2)
    · right
      have hm : (i + k) % n < n := Nat.mod_lt _ (by omega)
      have e1 : (i + k) % n ≠ i := by
        have := idx_ne (i := i) (k := k) (l := 0) hk (by omega) (by omega)
        rwa [Nat.add_zero, Nat.mod_eq_of_lt hi] at this
      have e2 : (i + k) % n ≠ nxt n i := idx_ne (i := i) (k := k) (l := 1) hk (by omega) (by omega)
      have := h _ hm
      rw [beq_f e1, beq_f e2] at this
      have := this.resolve_left (by simp)
      unfold crossR at this
      rw [hc _ hm] at this
      exact this
  · intro h j hj
    by_cases e1 : j = i
    · subst e1; exact .inl (.inl (by simp))
    · by_cases e2 : j = nxt n i
      · exact .inl (.inr (by rw [← e2]; simp))
      · right
        unfold crossR
        rw [hc j hj]
        have e3 := idx_inv hi hj
        have hk : (j + n - i) % n < n := Nat.mod_lt _ (by omega)
        have := h _ hk
        unfold crossK at this
        rw [e3] at this
        refine this.resolve_left fun h2 => ?_
        have h2 : (j + n - i) % n < 2 := by simpa using h2
        have h3 : (j + n - i) % n = 0 ∨ (j + n - i) % n = 1 := by omega
        rcases h3 with h3 | h3 <;> rw [h3] at e3
        · rw [Nat.add_zero, Nat.mod_eq_of_lt hi] at e3; exact e1 e3.symm
        · exact e2 e3.symm
theorem reals_eq (n : Nat) (p : Nat → Nat × Nat) : rrealsV n p = realsV n p := by
  unfold rrealsV realsV allRW allW
  simp only [wth_eq]
theorem check_eq (n : Nat) (p : Nat → Nat × Nat) : rcheckV n p = checkV n p := by
  unfold rcheckV checkV
  rw [reals_eq]
  cases hr : (realsV n p != 0)
  · have hb : ∀ j, j < n → bdd (p j) := by
      intro j hj
      cases e : wth (p j).1 (p j).2
      · rcases Nat.lt_or_ge 64 n with h | h
        · rw [reals_4 h] at hr; cases hr
        · rw [reals_5 h hj e] at hr; cases hr
      · exact e
    have : (List.range n).all (rokI n p) = (List.range n).all (okI n p) := by
      rw [Bool.eq_iff_iff, List.all_eq_true, List.all_eq_true]
      constructor <;> intro h j hj <;> have := h j hj <;> have e := okI_eq (List.mem_range.1 hj) hb
      · rw [← e]; exact this
      · rw [e]; exact this
    rw [this]
  · rfl
end Go.Ev.Poly
