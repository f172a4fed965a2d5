/-
  Boxes the other way round have the same pairs by their new numbers; for all boxes.
-/
import Derived.Test.YtbnfcjckbgpkeaaSweAa
set_option linter.unusedSimpArgs false
set_option linter.unusedVariables false
open Go Go.Proofs
namespace Go.Ev.Sweep
open Go.Ev.So
/-! ## Boxes the other way round -/
def rv (n : Nat) (p : Nat → Bx) (j : Nat) : Bx := p (n - 1 - j)
theorem rv_m {n : Nat} {p : Nat → Bx} {i k : Nat} (hi : i < n) (hk : k < n) : mM (cl n (rv n p)) i k = mV2 (p (n - 1 - i)) (p (n - 1 - k)) := by
  unfold mM
  rw [cl_lo hi, cl_lo hk]; rfl
theorem cl_m {n : Nat} {p : Nat → Bx} {i k : Nat} (hi : i < n) (hk : k < n) : mM (cl n p) i k = mV2 (p i) (p k) := by
  unfold mM
  rw [cl_lo hi, cl_lo hk]
theorem rP_mem {q : Nat → Bx} {n : Nat} {x : Pr} : x ∈ rP q n n ↔ ∃ i k : Nat, i < k ∧ k < n ∧ mM q i k = true ∧ x = ((i : Int), (k : Int)) := by
  unfold rP rL
  rw [gL_mem]
  constructor
  · rintro ⟨i, h1, h2, y, h3, h4, h5⟩
    exact ⟨i, i + 1 + y, by omega, by omega, h4, h5⟩
  · rintro ⟨i, k, h1, h2, h3, h4⟩
    refine ⟨i, by omega, (mM_ok h3).1, k - (i + 1), by omega, ?_, ?_⟩
    · show mM q i (i + 1 + (k - (i + 1))) = true
      rw [show i + 1 + (k - (i + 1)) = k by omega]; exact h3
    · rw [show i + 1 + (k - (i + 1)) = k by omega]; exact h4
theorem rP_nodup (q : Nat → Bx) (n : Nat) : (rP q n n).Nodup := by
  have h : (rP q n n).Pairwise LX := gL_pair
  refine h.imp fun {a b} (q : LX a b) => fun w => ?_
  subst w; unfold LX at q; omega
def trn (n : Nat) (x : Pr) : Pr := ((n : Int) - 1 - x.2, (n : Int) - 1 - x.1)
theorem rv_perm (p : Nat → Bx) (n : Nat) : (rP (cl n (rv n p)) n n).Perm ((rP (cl n p) n n).map (trn n)) := by
  refine (List.perm_ext_iff_of_nodup (rP_nodup _ _) ?_).2 fun x => ?_
  · unfold List.Nodup
    rw [List.pairwise_map]
    refine (rP_nodup (cl n p) n).imp fun {a b} (h : a ≠ b) => fun w => h ?_
    have e1 := congrArg Prod.fst w
    have e2 := congrArg Prod.snd w
    unfold trn at e1 e2
    dsimp only at e1 e2
    exact Prod.ext (by omega) (by omega)
  · rw [rP_mem, List.mem_map]
    constructor
    · rintro ⟨i, k, h1, h2, h3, rfl⟩
      rw [rv_m (by omega) h2] at h3
      refine ⟨(((n - 1 - k : Nat) : Int), ((n - 1 - i : Nat) : Int)), ?_, ?_⟩
      · rw [rP_mem]
        refine ⟨n - 1 - k, n - 1 - i, by omega, by omega, ?_, rfl⟩
        rw [cl_m (by omega) (by omega), mV2_sym]; exact h3
      · unfold trn
        exact Prod.ext (by dsimp only; omega) (by dsimp only; omega)
    · rintro ⟨y, h, rfl⟩
      rw [rP_mem] at h
      obtain ⟨i, k, h1, h2, h3, rfl⟩ := h
      rw [cl_m (by omega) h2] at h3
      refine ⟨n - 1 - k, n - 1 - i, by omega, by omega, ?_, ?_⟩
      · rw [rv_m (by omega) (by omega), show n - 1 - (n - 1 - k) = k by omega, show n - 1 - (n - 1 - i) = i by omega, mV2_sym]; exact h3
      · unfold trn
        exact Prod.ext (by dsimp only; omega) (by dsimp only; omega)
theorem rv_len (p : Nat → Bx) (n : Nat) : (rP (cl n (rv n p)) n n).length = (rP (cl n p) n n).length := by
  rw [(rv_perm p n).length_eq, List.length_map]
theorem rv_E (p : Nat → Bx) (n : Nat) : pEr (cl n (rv n p)) n = pEr (cl n p) n := by
  rw [pE_eq, pE_eq]
  unfold sEr
  rw [rv_len]
theorem rv_N (p : Nat → Bx) (n : Nat) : pNr (cl n (rv n p)) n = pNr (cl n p) n := by
  rw [pN_eq, pN_eq]
  unfold sNr sEr
  rw [rv_len]
theorem pN_rP {q : Nat → Bx} {n k : Nat} (h : k < pNr q n) : k < (rP q n n).length := by
  rw [pN_eq] at h
  unfold sNr at h
  cases hb : (sEr q n == 0)
  · rw [hb] at h; exact absurd h (Nat.not_lt_zero _)
  · rw [hb] at h; exact h
theorem rv_get {p : Nat → Bx} {n k : Nat} (h : k < pNr (cl n p) n) : ∃ x y : Nat, pG (cl n (rv n p)) n k = ((x : Int), (y : Int)) ∧ x < y ∧ y < n ∧ mV2 (p (n - 1 - y)) (p (n - 1 - x)) = true := by
  rw [← rv_N] at h
  have hm : gP (rP (cl n (rv n p)) n n) k ∈ rP (cl n (rv n p)) n n := by
    have := pN_rP h
    unfold gP
    rw [List.getD_eq_getElem?_getD, List.getElem?_eq_getElem this]
    exact List.getElem_mem this
  rw [rP_mem] at hm
  obtain ⟨x, y, h1, h2, h3, h4⟩ := hm
  rw [rv_m (by omega) h2, mV2_sym] at h3
  exact ⟨x, y, by rw [pG_get h, h4], h1, h2, h3⟩
theorem or_next {q : Nat → Bx} {m z : Nat} (h : z + 1 < oC q m) : flt .f64 (q (oJ q m z)).1 (q (oJ q m (z + 1))).1 = true ∨ (flt .f64 (q (oJ q m z)).1 (q (oJ q m (z + 1))).1 = false ∧ feq .f64 (q (oJ q m z)).1 (q (oJ q m (z + 1))).1 = true ∧ oJ q m z < oJ q m (z + 1)) := by
  have h0 : z < oC q m := by omega
  have t := or_sd (cl m q) m z (z + 1) (Nat.zero_le _) (Nat.lt_succ_self _) h
  rw [oJ_eq h0, oJ_eq h] at t
  unfold TT kk at t
  rw [Int.toNat_natCast, Int.toNat_natCast, cl_lo (oJ_lt h0), cl_lo (oJ_lt h)] at t
  have n0 := ok_num (oJ_ok h0)
  have n1 := ok_num (oJ_ok h)
  rw [flt_eq, feq_eq, n0, n1]
  simp only [Bool.not_false, Bool.true_and, decide_eq_true_eq, decide_eq_false_iff_not]
  omega
end Go.Ev.Sweep
