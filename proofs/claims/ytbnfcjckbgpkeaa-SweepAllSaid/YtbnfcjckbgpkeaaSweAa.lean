/-
  What SweepAll counts as it goes is what stands in the lists; for all boxes.
-/
import Derived.Test.YtbnfcjckbgpkeaaSweZ
import Derived.Test.YtbnfcjckbgpkeaaEvS
set_option linter.unusedSimpArgs false
set_option linter.unusedVariables false
open Go Go.Proofs
namespace Go.Ev.Sweep
open Go.Ev.So
/-! ## What SweepAll counts -/
theorem mV2_sym (a b : Bx) : mV2 a b = mV2 b a := by
  rw [m_ok, m_ok, ov_sym]
  cases (ck a == 0 : Bool) <;> cases (ck b == 0 : Bool) <;> rfl
theorem wP_m (q : Nat → Bx) (i k : Nat) : wP q (q i) k = mM q i k := by
  unfold mM
  rw [mV2_sym, w_eq]; rfl
theorem mM_ok {q : Nat → Bx} {i k : Nat} (h : mM q i k = true) : okB q i = true ∧ okB q k = true := by
  unfold mM at h
  rw [m_ok, Bool.and_eq_true, Bool.and_eq_true] at h
  exact h.1
theorem fL_pre {q : Nat → Bool} : ∀ {m j : Nat}, j ≤ m → fL q j <+: fL q m
  | 0, j, h => by obtain rfl : j = 0 := by omega
                  exact List.prefix_refl _
  | m + 1, j, h => by
    rcases Nat.lt_or_eq_of_le h with c | c
    · refine List.IsPrefix.trans (fL_pre (Nat.le_of_lt_succ c)) ?_
      cases hk : q m
      · rw [fL_f hk]; exact List.prefix_refl _
      · rw [fL_t hk]; exact List.prefix_append _ _
    · subst c; exact List.prefix_refl _
def aT (q : Nat → Bx) (n i k : Nat) : List Pr := bif okB q i then sI q n i (k - (i + 1)) else rP q n i
def tT (q : Nat → Bx) (n i k : Nat) : List Pr := bif okB q i then rB q q n i ++ inL i (fun j => j) (bM2 q q i) k else rB q q n i
def wT (q : Nat → Bx) (i k : Nat) : List Int := fL (wP q (q i)) k
theorem aT_0 (q : Nat → Bx) (n i : Nat) : aT q n i 0 = rP q n i := by
  unfold aT
  rw [Nat.zero_sub, sI_0]
  cases okB q i <;> rfl
theorem tT_0 (q : Nat → Bx) (n i : Nat) : tT q n i 0 = rB q q n i := by
  unfold tT
  show (bif okB q i then rB q q n i ++ [] else rB q q n i) = _
  rw [List.append_nil]
  cases okB q i <;> rfl
theorem aT_n (q : Nat → Bx) (n i : Nat) : aT q n i n = rP q n (i + 1) := by
  unfold aT
  cases h : okB q i
  · exact (rP_skip h).symm
  · exact sI_end h
theorem tT_n (q : Nat → Bx) (n i : Nat) : tT q n i n = rB q q n (i + 1) := by
  unfold tT rB
  cases h : okB q i
  · exact (rb_f h).symm
  · exact (rb_t h).symm
theorem aT_f {q : Nat → Bx} {n i k : Nat} (h : mM q i k = false) : aT q n i (k + 1) = aT q n i k := by
  unfold aT
  cases okB q i
  · rfl
  · show sI q n i (k + 1 - (i + 1)) = sI q n i (k - (i + 1))
    rcases Nat.lt_or_ge i k with c | c
    · obtain ⟨y, rfl⟩ : ∃ y, k = i + 1 + y := ⟨k - (i + 1), by omega⟩
      rw [show i + 1 + y + 1 - (i + 1) = y + 1 by omega, show i + 1 + y - (i + 1) = y by omega, sI_f h]
    · rw [show k + 1 - (i + 1) = 0 by omega, show k - (i + 1) = 0 by omega]
theorem aT_lo {q : Nat → Bx} {n i k : Nat} (h : k ≤ i) : aT q n i (k + 1) = aT q n i k := by
  unfold aT
  rw [show k + 1 - (i + 1) = 0 by omega, show k - (i + 1) = 0 by omega]
theorem aT_t {q : Nat → Bx} {n i k : Nat} (h : mM q i k = true) (c : i < k) : aT q n i (k + 1) = aT q n i k ++ [((i : Int), (k : Int))] := by
  unfold aT
  rw [(mM_ok h).1]
  show sI q n i (k + 1 - (i + 1)) = sI q n i (k - (i + 1)) ++ _
  obtain ⟨y, rfl⟩ : ∃ y, k = i + 1 + y := ⟨k - (i + 1), by omega⟩
  rw [show i + 1 + y + 1 - (i + 1) = y + 1 by omega, show i + 1 + y - (i + 1) = y by omega, sI_t h]
theorem tT_f {q : Nat → Bx} {n i k : Nat} (h : mM q i k = false) : tT q n i (k + 1) = tT q n i k := by
  unfold tT
  rw [in_f (ov := bM2 q q i) h]
theorem tT_t {q : Nat → Bx} {n i k : Nat} (h : mM q i k = true) : tT q n i (k + 1) = tT q n i k ++ [((i : Int), (k : Int))] := by
  unfold tT
  rw [(mM_ok h).1]
  show _ ++ inL i (fun j => j) (bM2 q q i) (k + 1) = (_ ++ inL i (fun j => j) (bM2 q q i) k) ++ _
  rw [in_t (ov := bM2 q q i) h, List.append_assoc]
theorem wT_f {q : Nat → Bx} {i k : Nat} (h : mM q i k = false) : wT q i (k + 1) = wT q i k := fL_f (by rw [wP_m]; exact h)
theorem wT_t {q : Nat → Bx} {i k : Nat} (h : mM q i k = true) : wT q i (k + 1) = wT q i k ++ [(k : Int)] := fL_t (by rw [wP_m]; exact h)
theorem aT_pre {q : Nat → Bx} {n i k : Nat} (hi : i < n) (hk : k ≤ n) : aT q n i k <+: rP q n n := by
  have h1 : rP q n (i + 1) <+: rP q n n := gL_pre hi
  rw [← aT_n q n i] at h1
  refine List.IsPrefix.trans ?_ h1
  unfold aT
  cases okB q i
  · exact List.prefix_refl _
  · exact pre_app (gI_pre (by omega))
theorem tT_pre {q : Nat → Bx} {n i k : Nat} (hi : i < n) (hk : k ≤ n) : tT q n i k <+: rB q q n n := by
  have h1 : rB q q n (i + 1) <+: rB q q n n := rb_pre hi
  rw [← tT_n q n i] at h1
  refine List.IsPrefix.trans ?_ h1
  unfold tT
  cases okB q i
  · exact List.prefix_refl _
  · exact pre_app (in_pre hk)
theorem aT_get {q : Nat → Bx} {n i k : Nat} (hi : i < n) (hk : k < n) (h : mM q i k = true) (c : i < k) : (aT q n i k).length < (rP q n n).length ∧ gP (rP q n n) (aT q n i k).length = ((i : Int), (k : Int)) ∧ (aT q n i k).length + 1 = (aT q n i (k + 1)).length := by
  have p := aT_pre (q := q) hi (show k + 1 ≤ n from hk)
  rw [aT_t h c] at p
  have := pre_get (d := (0, 0)) p
  exact ⟨this.1, this.2, by rw [aT_t h c]; simp⟩
theorem tT_get {q : Nat → Bx} {n i k : Nat} (hi : i < n) (hk : k < n) (h : mM q i k = true) : (tT q n i k).length < (rB q q n n).length ∧ gP (rB q q n n) (tT q n i k).length = ((i : Int), (k : Int)) ∧ (tT q n i k).length + 1 = (tT q n i (k + 1)).length := by
  have p := tT_pre (q := q) hi (show k + 1 ≤ n from hk)
  rw [tT_t h] at p
  have := pre_get (d := (0, 0)) p
  exact ⟨this.1, this.2, by rw [tT_t h]; simp⟩
theorem wT_get {q : Nat → Bx} {n i k : Nat} (hk : k < n) (h : mM q i k = true) : (wT q i k).length < (wT q i n).length ∧ (wT q i n).getD (wT q i k).length 0 = (k : Int) ∧ (wT q i k).length + 1 = (wT q i (k + 1)).length := by
  have p : wT q i (k + 1) <+: wT q i n := fL_pre hk
  rw [wT_t h] at p
  have := pre_get (d := (0 : Int)) p
  exact ⟨this.1, this.2, by rw [wT_t h]; simp⟩
theorem pE_250 {q : Nat → Bx} {n : Nat} (h : n ≤ 250) : pEr q n = 0 := by
  have h1 : (rP q n n).length ≤ n * n := gL_bd (fun i => Nat.sub_le _ _) n
  have h2 : n * n ≤ 250 * 250 := Nat.mul_le_mul h h
  rw [pE_eq]
  exact (sE_ok (by omega) (by omega)).1
theorem bE_250 {q : Nat → Bx} {n : Nat} (h : n ≤ 250) : bE q q n n = 0 := by
  have h1 : (rB q q n n).length ≤ n * n := rb_bd n
  have h2 : n * n ≤ 250 * 250 := Nat.mul_le_mul h h
  rw [bE_eq]
  exact (rE_ok (by omega) (by omega)).1
theorem pN_0 {q : Nat → Bx} {n : Nat} (h : pEr q n = 0) : pNr q n = (rP q n n).length := by
  unfold pNr
  rw [h]
  exact (pB_perm q n).length_eq
theorem bN_0 {q : Nat → Bx} {n : Nat} (h : bE q q n n = 0) : bN q q n n = (rB q q n n).length := by
  unfold bN
  rw [h]
  exact bB_len q q n n
end Go.Ev.Sweep
