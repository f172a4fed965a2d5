/-
  Boxes far from one another have no pairs, equal ones all; for rows of any length.
-/
import Derived.Test.YtbnfcjckbgpkeaaSweTa
set_option linter.unusedSimpArgs false
set_option linter.unusedVariables false
open Go Go.Proofs
namespace Go.Ev.Sweep
open Go.Ev.So
set_option maxRecDepth 100000
/-! ## Boxes far from one another, and equal ones -/
def fN (m : Nat) : Nat := floatOfInt .f64 (m : Int)
theorem bin_d : FloatKind.f64.format.binade = 4503599627370496 := by decide
theorem lp_d : FloatKind.f64.format.leastPlace = -1074 := by decide
theorem inf_d : FloatKind.f64.format.infRung = 9218868437227405312 := by decide
theorem sw_d : FloatKind.f64.format.signWeight = 9223372036854775808 := by decide
theorem wrt_word {r : Nat} (h : r < 9223372036854775808) : wrt .f64 (FloatKind.f64.format.word false r) = (r : Int) := by
  have := rg_word FloatKind.f64.format false (r := r) (by rw [sw_d]; exact h)
  have hn : neg .f64 (FloatKind.f64.format.word false r) = false := this.2
  rw [wrt_eq, hn, this.1]; rfl
theorem fN_eq {m L c : Nat} (hc : m * 2 ^ (52 - L) = c) (h1 : 4503599627370496 ≤ c) (h2 : c < 9007199254740992) (hL : L ≤ 52) : wrt .f64 (fN m) = (((1022 + L) * 4503599627370496 + c : Nat) : Int) := by
  have hn : FloatKind.f64.format.nearest false m 0 = FloatKind.f64.format.word false ((1022 + L) * FloatKind.f64.format.binade + c) := by
    refine nearest_exact _ false m 0 _ 1074 0 (by rw [bin_d, inf_d]; omega) ?_ (.inl (by rw [lp_d]; rfl))
    rw [magOf_norm _ (by rw [bin_d]; exact h1) (by rw [bin_d]; exact h2), ← hc, Nat.pow_zero, Nat.mul_one, Nat.mul_assoc, ← Nat.pow_add, show 52 - L + (1022 + L) = 1074 by omega]
  have e : fN m = FloatKind.f64.format.nearest false m 0 := by
    show FloatKind.f64.format.write (.number (decide ((m : Int) < 0)) (m : Int).natAbs 0) = _
    rw [decide_eq_false (by omega), Int.natAbs_natCast]; rfl
  rw [e, hn, bin_d, wrt_word (by omega)]
theorem fN_0 : wrt .f64 (fN 0) = 0 := by decide +kernel
theorem fN_lt {a b : Nat} (h : a < b) (hb : b ≤ 65536) : wrt .f64 (fN a) < wrt .f64 (fN b) := by
  have key : ∀ m : Nat, m ≠ 0 → m ≤ 65536 → ∃ L c, m * 2 ^ (52 - L) = c ∧ 4503599627370496 ≤ c ∧ c < 9007199254740992 ∧ L ≤ 16 ∧ 2 ^ L ≤ m ∧ m < 2 ^ (L + 1) := fun m h0 h1 => by
    have hl := Nat.log2_self_le h0
    have hu := Nat.lt_log2_self (n := m)
    have hL : m.log2 ≤ 16 := by
      rcases Nat.lt_or_ge 16 m.log2 with c | c
      · have := Nat.pow_le_pow_right (n := 2) (by omega) (show 17 ≤ m.log2 from c)
        omega
      · exact c
    refine ⟨m.log2, _, rfl, ?_, ?_, hL, hl, hu⟩
    · have := Nat.mul_le_mul_right (2 ^ (52 - m.log2)) hl
      rw [← Nat.pow_add, show m.log2 + (52 - m.log2) = 52 by omega] at this
      exact this
    · have := Nat.mul_lt_mul_of_pos_right hu (show 0 < 2 ^ (52 - m.log2) from Nat.two_pow_pos _)
      rw [← Nat.pow_add, show m.log2 + 1 + (52 - m.log2) = 53 by omega] at this
      exact this
  obtain ⟨L, c, e1, e2, e3, e4, e5, e6⟩ := key b (by omega) hb
  rw [fN_eq e1 e2 e3 (by omega)]
  by_cases ha : a = 0
  · subst ha; rw [fN_0]; omega
  obtain ⟨K, d, f1, f2, f3, f4, f5, f6⟩ := key a ha (by omega)
  rw [fN_eq f1 f2 f3 (by omega)]
  have hKL : K ≤ L := by
    rcases Nat.lt_or_ge L K with q | q
    · have := Nat.pow_le_pow_right (n := 2) (by omega) (show L + 1 ≤ K from q)
      omega
    · exact q
  rcases Nat.lt_or_eq_of_le hKL with q | q
  · have := Nat.mul_le_mul_right 4503599627370496 (show 1022 + K + 1 ≤ 1022 + L by omega)
    omega
  · subst q
    have := Nat.mul_lt_mul_of_pos_right h (show 0 < 2 ^ (52 - K) from Nat.two_pow_pos _)
    omega
def far (i : Nat) : Bx := (fN (2 * i), 0, fN (2 * i + 1), 4607182418800017408)
theorem far_no {i k : Nat} (h : i < k) (hk : k < 16384) : mV2 (far i) (far k) = false := by
  have := fN_lt (a := 2 * i + 1) (b := 2 * k) (by omega) (by omega)
  have h2 : fle .f64 (far k).1 (far i).2.2.1 = false := by
    show fle .f64 (fN (2 * k)) (fN (2 * i + 1)) = false
    rw [fle_eq, decide_eq_false (by omega), Bool.and_false]
  rw [m_ok]
  have h3 : oV2 (far i) (far k) = false := by
    unfold oV2 ovV belV
    rw [h2, Bool.false_and, Bool.and_false]
  rw [h3, Bool.and_false]
theorem far_rP {n : Nat} (hn : n ≤ 16384) : rP (cl n far) n n = [] := by
  apply List.eq_nil_iff_forall_not_mem.2
  intro x hx
  rw [rP_mem] at hx
  obtain ⟨i, k, h1, h2, h3, _⟩ := hx
  rw [cl_m (by omega) h2, far_no h1 (by omega)] at h3
  cases h3
theorem far_p : pEr (cl 16384 far) 16384 = 0 ∧ pNr (cl 16384 far) 16384 = 0 := by
  have h := sE_ok (q := cl 16384 far) (n := 16384) (by omega) (by rw [far_rP (Nat.le_refl _)]; exact Nat.zero_le _)
  rw [far_rP (Nat.le_refl _)] at h
  exact ⟨by rw [pE_eq]; exact h.1, by rw [pN_eq]; exact h.2⟩
theorem gI_all {e : Nat → Pr} {ov : Nat → Bool} : ∀ {z : Nat}, (∀ y, y < z → ov y = true) → (gI e ov z).length = z
  | 0, _ => rfl
  | z + 1, h => by
    rw [gI_t (h z (Nat.lt_succ_self _)), List.length_append, gI_all fun y hy => h y (by omega)]; rfl
theorem in_all {i : Nat} {J : Nat → Nat} {ov : Nat → Bool} : ∀ {z : Nat}, (∀ y, y < z → ov y = true) → (inL i J ov z).length = z
  | 0, _ => rfl
  | z + 1, h => by
    rw [in_t (h z (Nat.lt_succ_self _)), List.length_append, in_all fun y hy => h y (by omega)]; rfl
def sm (_ : Nat) : Bx := (0, 0, 4611686018427387904, 4611686018427387904)
theorem sm_m : mV2 (sm 0) (sm 0) = true := by decide +kernel
theorem sm_ok : (ck (sm 0) == 0) = true := by decide +kernel
theorem sm_rP {n : Nat} : ∀ {i : Nat}, i ≤ n → 2 * (rP (cl n sm) n i).length + i * i + i = 2 * (n * i)
  | 0, _ => rfl
  | i + 1, h => by
    have ih := sm_rP (n := n) (i := i) (by omega)
    have ho : okB (cl n sm) i = true := by rw [ok_cl h]; exact sm_ok
    rw [← sI_end ho]
    unfold sI
    rw [List.length_append, gI_all fun y hy => by rw [cl_m h (by omega)]; exact sm_m]
    rw [Nat.mul_succ (i + 1) i, Nat.succ_mul i, Nat.mul_succ n]
    omega
theorem sm_rB {m n : Nat} : ∀ {i : Nat}, i ≤ n → (rB (cl n sm) (cl m sm) m i).length = i * m
  | 0, _ => by rw [Nat.zero_mul]; rfl
  | i + 1, h => by
    have ih := sm_rB (m := m) (n := n) (i := i) (by omega)
    have ho : okB (cl n sm) i = true := by rw [ok_cl h]; exact sm_ok
    unfold rB at ih ⊢
    rw [rb_t ho, List.length_append, ih, in_all (ov := bM2 (cl n sm) (cl m sm) i) fun y hy => by unfold bM2; rw [cl_lo h, cl_lo hy]; exact sm_m]
    rw [Nat.succ_mul]
theorem sm_p : pEr (cl 362 sm) 362 = 0 ∧ pNr (cl 362 sm) 362 = 65341 := by
  have hl := sm_rP (n := 362) (Nat.le_refl _)
  have hv : (rP (cl 362 sm) 362 362).length = 65341 := by
    revert hl
    generalize (rP (cl 362 sm) 362 362).length = L
    intro hl
    omega
  have h := sE_ok (q := cl 362 sm) (n := 362) (by omega) (by omega)
  exact ⟨by rw [pE_eq]; exact h.1, (pN_eq _ _).trans (h.2.trans hv)⟩
theorem sm_p2 : pEr (cl 363 sm) 363 = 4 ∧ pNr (cl 363 sm) 363 = 0 := by
  have hl := sm_rP (n := 363) (Nat.le_refl _)
  have h := sE_long (q := cl 363 sm) (n := 363) (by omega)
  exact ⟨by rw [pE_eq]; exact h.1, by rw [pN_eq, h.2]⟩
theorem sm_b : bE (cl 256 sm) (cl 256 sm) 256 256 = 0 ∧ bN (cl 256 sm) (cl 256 sm) 256 256 = 65536 := by
  have hl := sm_rB (m := 256) (n := 256) (Nat.le_refl _)
  have hv : (rB (cl 256 sm) (cl 256 sm) 256 256).length = 65536 := by
    rw [hl]
  have h := rE_ok (p := cl 256 sm) (q := cl 256 sm) (n := 256) (m := 256) (by omega) (by omega)
  exact ⟨by rw [bE_eq]; exact h.1, (bN_eq _ _ _ _).trans (h.2.trans hv)⟩
theorem sm_b2 : bE (cl 256 sm) (cl 257 sm) 256 257 = 4 ∧ bN (cl 256 sm) (cl 257 sm) 256 257 = 0 := by
  have hl := sm_rB (m := 257) (n := 256) (Nat.le_refl _)
  have h := rE_long (p := cl 256 sm) (q := cl 257 sm) (n := 256) (m := 257) (by omega)
  exact ⟨by rw [bE_eq]; exact h.1, by rw [bN_eq, h.2]⟩
end Go.Ev.Sweep
