/-
  The contracts of both Checks of points; for lists below 2^62 points.
-/
import Derived.Test.YtbehddngdjfkhaaClipQ
set_option linter.unusedSimpArgs false
set_option linter.unusedVariables false
open Go Go.Proofs
namespace Go.Ev.Clip
set_option maxRecDepth 100000
set_option maxHeartbeats 1000000
def crossK (n : Nat) (p : Nat → Nat × Nat) (i k : Nat) : Nat := crsV (wayV n p i) (subV (p ((i + k) % n)) (p i))
def crossR (n : Nat) (p : Nat → Nat × Nat) (i k : Nat) : Nat := crsV (wayV n p i) (subV (p k) (p i))
def okI (n : Nat) (p : Nat → Nat × Nat) (i : Nat) : Bool := !flt .f64 (lnV (wayV n p i)) 4472074429978902528 && (List.range n).all fun k => Nat.blt k 2 || !fle .f64 (crossK n p i k) 0
def rokI (n : Nat) (p : Nat → Nat × Nat) (i : Nat) : Bool := fge .f64 (lnV (wayV n p i)) 4472074429978902528 && (List.range n).all fun k => Nat.beq k i || Nat.beq k (nxt n i) || fgt .f64 (crossR n p i k) 0
def checkV (n : Nat) (p : Nat → Nat × Nat) : Int := bif realsV n p != 0 then realsV n p else bif Nat.blt n 3 then 60 else bif (List.range n).all (okI n p) then 0 else 60
def rcheckV (n : Nat) (p : Nat → Nat × Nat) : Int := bif rrealsV n p != 0 then rrealsV n p else bif Nat.blt n 3 then 60 else bif (List.range n).all (rokI n p) then 0 else 60
theorem okI_len {n i : Nat} {p : Nat → Nat × Nat} (h : flt .f64 (lnV (wayV n p i)) 4472074429978902528 = true) : okI n p i = false := by unfold okI; rw [h]; rfl
theorem okI_k {n i k : Nat} {p : Nat → Nat × Nat} (h2 : 2 ≤ k) (hk : k < n) (h : fle .f64 (crossK n p i k) 0 = true) : okI n p i = false := by
  unfold okI
  rw [all_f hk (by rw [h, blt_f h2]; rfl), Bool.and_false]
theorem okI_t {n i : Nat} {p : Nat → Nat × Nat} (h : flt .f64 (lnV (wayV n p i)) 4472074429978902528 = false) (hk : ∀ k, k < n → 2 ≤ k → fle .f64 (crossK n p i k) 0 = false) : okI n p i = true := by
  unfold okI
  rw [h, all_t fun k h1 => ?_]
  · rfl
  · rcases Nat.lt_or_ge k 2 with h2 | h2
    · rw [blt_t h2]; rfl
    · rw [hk k h1 h2, Bool.or_comm]; rfl
theorem rokI_len {n i : Nat} {p : Nat → Nat × Nat} (h : fge .f64 (lnV (wayV n p i)) 4472074429978902528 = false) : rokI n p i = false := by unfold rokI; rw [h]; rfl
theorem beq_f {a b : Nat} (h : a ≠ b) : Nat.beq a b = false := by
  cases e : Nat.beq a b
  · rfl
  · exact absurd (Nat.eq_of_beq_eq_true e) h
theorem rokI_k {n i k : Nat} {p : Nat → Nat × Nat} (h1 : k ≠ i) (h2 : k ≠ nxt n i) (hk : k < n) (h : fgt .f64 (crossR n p i k) 0 = false) : rokI n p i = false := by
  unfold rokI
  rw [all_f hk (by rw [h, beq_f h1, beq_f h2]; rfl), Bool.and_false]
theorem rokI_t {n i : Nat} {p : Nat → Nat × Nat} (h : fge .f64 (lnV (wayV n p i)) 4472074429978902528 = true) (hk : ∀ k, k < n → k ≠ i → k ≠ nxt n i → fgt .f64 (crossR n p i k) 0 = true) : rokI n p i = true := by
  unfold rokI
  rw [h, all_t fun k h1 => ?_]
  · rfl
  · by_cases h2 : k = i
    · subst h2; simp
    · by_cases h3 : k = nxt n i
      · rw [← h3]; simp
      · rw [hk k h1 h2 h3, Bool.or_true]
theorem check_r {n : Nat} {p : Nat → Nat × Nat} (h : (realsV n p != 0) = true) : checkV n p = realsV n p := by unfold checkV; rw [h]; rfl
theorem check_a {n : Nat} {p : Nat → Nat × Nat} (h0 : (realsV n p != 0) = false) (h : n < 3) : checkV n p = 60 := by unfold checkV; rw [h0, blt_t h]; rfl
theorem check_b {n i : Nat} {p : Nat → Nat × Nat} (h0 : (realsV n p != 0) = false) (hi : i < n) (h : okI n p i = false) : checkV n p = 60 := by
  unfold checkV; rw [h0, all_f hi h]; cases Nat.blt n 3 <;> rfl
theorem check_0 {n : Nat} {p : Nat → Nat × Nat} (h0 : (realsV n p != 0) = false) (h3 : 3 ≤ n) (h : ∀ i, i < n → okI n p i = true) : checkV n p = 0 := by
  unfold checkV; rw [h0, blt_f h3, all_t h]; rfl
theorem rcheck_r {n : Nat} {p : Nat → Nat × Nat} (h : (rrealsV n p != 0) = true) : rcheckV n p = rrealsV n p := by unfold rcheckV; rw [h]; rfl
theorem rcheck_a {n : Nat} {p : Nat → Nat × Nat} (h0 : (rrealsV n p != 0) = false) (h : n < 3) : rcheckV n p = 60 := by unfold rcheckV; rw [h0, blt_t h]; rfl
theorem rcheck_b {n i : Nat} {p : Nat → Nat × Nat} (h0 : (rrealsV n p != 0) = false) (hi : i < n) (h : rokI n p i = false) : rcheckV n p = 60 := by
  unfold rcheckV; rw [h0, all_f hi h]; cases Nat.blt n 3 <;> rfl
theorem rcheck_0 {n : Nat} {p : Nat → Nat × Nat} (h0 : (rrealsV n p != 0) = false) (h3 : 3 ≤ n) (h : ∀ i, i < n → rokI n p i = true) : rcheckV n p = 0 := by
  unfold rcheckV; rw [h0, blt_f h3, all_t h]; rfl
theorem pre2_up {i n : Nat} {P : Nat → Prop} (h : ∀ k, k < i → 2 ≤ k → P k) (hi : P i) : ∀ k, k < i + 1 → 2 ≤ k → P k := fun k hk h2 => by
  rcases Nat.lt_or_eq_of_le (Nat.le_of_lt_succ hk) with e | e
  · exact h k e h2
  · subst e; exact hi
noncomputable def fi25 : FnI := ⟨50, Try.f25.body.getD .skip, [.tmp 2], true⟩
theorem fi25_ok : fnGen Try.prog 25 = some fi25 := by kernel_rfl
theorem zHS61_R {cx : Cx} : CallH (genQ Try.prog exts eqs [] S61).P cx (hnd (genQ Try.prog exts eqs [] S61) cx 6) := hnd_sound (genQ_full extsOK eqsOK S61_ok) 6
theorem zES61_R : EnvAll (genQ Try.prog exts eqs [] S61) := (genQ_full extsOK eqsOK S61_ok).toEnvAll
theorem t25 (n : Nat) (p : Nat → Nat × Nat) (c0 : n < big): CM Try.prog 25 [.ro 2 n (fun j => ptM (p j))] (.i .i64 (checkV n p)) [] true := by
  refine CM.of_genQ (exts := exts) (eqs := eqs) (inl := []) (sum := S61) extsOK eqsOK S61_ok fi25_ok 6 rfl fun cx => ?_
  have c1 : n < 4611686018427387904 := c0
  repeat' ((fail_if_success (with_reducible refine Side.mk ?_)); first | (refine Rest.mk (drawR_sound zES61_R mixOK zHS61_R ?_)) | ((fail_if_success (with_reducible refine Rest.mk ?_)); first | (with_reducible exact True.intro) | (with_reducible refine Need.mk ?_ ?_) | (with_reducible refine And.intro ?_ ?_) | (with_reducible intro _) | ((fail_if_success (with_reducible refine FinS.mk ?_)); (fail_if_success (with_reducible refine Le.mk ?_)); (conv => whnf)) | (refine FinS.b ?_) | (refine FinS.lb ?_) | (refine FinS.i ?_) | (refine FinS.f ?_) | (refine FinS.agg ?_) | (refine FinS.tup ?_)))
  rotate_right
  · rename_i hr0 hq
    have h3 : 3 ≤ n := by simp at hq; omega
    clear hq
    have hr0 : (realsV n p != 0) = false := hr0
    refine loop_ruleC zES61_R zHS61_R (fun i => ⟨[(0, .ro 2 n (fun j => ptM (p j))), (16, .ro 2 n (fun j => ptM (p j))), (17, .i .i64 (n : Int)), (18, .i .i64 (i : Int))], [], [], 0⟩) (fun i => ∀ j, j < i → okI n p j = true) n (Le.of ?_) ?_ ?_
    · conv => whnf
      repeat' ((fail_if_success (with_reducible refine Side.mk ?_)); first | (refine Rest.mk (drawR_sound zES61_R mixOK zHS61_R ?_)) | ((fail_if_success (with_reducible refine Rest.mk ?_)); first | (with_reducible exact True.intro) | (with_reducible refine Need.mk ?_ ?_) | (with_reducible refine And.intro ?_ ?_) | (with_reducible intro _) | ((fail_if_success (with_reducible refine FinS.mk ?_)); (fail_if_success (with_reducible refine Le.mk ?_)); (conv => whnf)) | (refine FinS.b ?_) | (refine FinS.lb ?_) | (refine FinS.i ?_) | (refine FinS.f ?_) | (refine FinS.agg ?_) | (refine FinS.tup ?_)))
      all_goals (try (refine Le.of ?_; (conv => whnf)))
      repeat' ((fail_if_success (with_reducible refine Side.mk ?_)); first | (refine Rest.mk (drawR_sound zES61_R mixOK zHS61_R ?_)) | ((fail_if_success (with_reducible refine Rest.mk ?_)); first | (with_reducible exact True.intro) | (with_reducible refine Need.mk ?_ ?_) | (with_reducible refine And.intro ?_ ?_) | (with_reducible intro _) | ((fail_if_success (with_reducible refine FinS.mk ?_)); (fail_if_success (with_reducible refine Le.mk ?_)); (conv => whnf)) | (refine FinS.b ?_) | (refine FinS.lb ?_) | (refine FinS.i ?_) | (refine FinS.f ?_) | (refine FinS.agg ?_) | (refine FinS.tup ?_)))
      all_goals (try refine Side.mk ?_)
      all_goals (try simp only [decide_eq_true_eq, decide_eq_false_iff_not, Int.ofNat_lt, Int.ofNat_le, gt_iff_lt, ge_iff_le, true_and, Bool.not_eq_true', Bool.not_eq_false'] at *)
      all_goals first | rfl | trivial | exact fun _ _ => trivial | exact ⟨rfl, rfl⟩ | exact ⟨rfl, fun _ _ => rfl⟩ | exact ⟨rfl, rfl, fun _ _ => rfl⟩ | exact i64_id (by omega) (by omega) | omega
    · intro j hj; omega
    · intro i hi hpre
      repeat' ((fail_if_success (with_reducible refine Side.mk ?_)); first | (refine Rest.mk (drawR_sound zES61_R mixOK zHS61_R ?_)) | ((fail_if_success (with_reducible refine Rest.mk ?_)); first | (with_reducible exact True.intro) | (with_reducible refine Need.mk ?_ ?_) | (with_reducible refine And.intro ?_ ?_) | (with_reducible intro _) | ((fail_if_success (with_reducible refine FinS.mk ?_)); (fail_if_success (with_reducible refine Le.mk ?_)); (conv => whnf)) | (refine FinS.b ?_) | (refine FinS.lb ?_) | (refine FinS.i ?_) | (refine FinS.f ?_) | (refine FinS.agg ?_) | (refine FinS.tup ?_)))
      rotate_right 2
      · rename_i hin hln
        have hin : i < n := by simp at hin; omega
        refine loop_ruleC zES61_R zHS61_R (fun k => ⟨[(0, .ro 2 n (fun j => ptM (p j))), (4, .i .i64 (i : Int)), (5, .p 0 0), (6, .p 1 0), (7, .i .i64 ((k + 2 : Nat) : Int)), (16, .ro 2 n (fun j => ptM (p j))), (17, .i .i64 (n : Int)), (18, .i .i64 (i : Int))], [], [(0, .cells (ptM (p i))), (1, .cells (ptM (wayV n p i)))], 2⟩) (fun k => ∀ j, j < k + 2 → 2 ≤ j → fle .f64 (crossK n p i j) 0 = false) (n - 2) (Le.of ?_) ?_ ?_
        · conv => whnf
          repeat' ((fail_if_success (with_reducible refine Side.mk ?_)); first | (refine Rest.mk (drawR_sound zES61_R mixOK zHS61_R ?_)) | ((fail_if_success (with_reducible refine Rest.mk ?_)); first | (with_reducible exact True.intro) | (with_reducible refine Need.mk ?_ ?_) | (with_reducible refine And.intro ?_ ?_) | (with_reducible intro _) | ((fail_if_success (with_reducible refine FinS.mk ?_)); (fail_if_success (with_reducible refine Le.mk ?_)); (conv => whnf)) | (refine FinS.b ?_) | (refine FinS.lb ?_) | (refine FinS.i ?_) | (refine FinS.f ?_) | (refine FinS.agg ?_) | (refine FinS.tup ?_)))
          all_goals (try (refine Le.of ?_; (conv => whnf)))
          repeat' ((fail_if_success (with_reducible refine Side.mk ?_)); first | (refine Rest.mk (drawR_sound zES61_R mixOK zHS61_R ?_)) | ((fail_if_success (with_reducible refine Rest.mk ?_)); first | (with_reducible exact True.intro) | (with_reducible refine Need.mk ?_ ?_) | (with_reducible refine And.intro ?_ ?_) | (with_reducible intro _) | ((fail_if_success (with_reducible refine FinS.mk ?_)); (fail_if_success (with_reducible refine Le.mk ?_)); (conv => whnf)) | (refine FinS.b ?_) | (refine FinS.lb ?_) | (refine FinS.i ?_) | (refine FinS.f ?_) | (refine FinS.agg ?_) | (refine FinS.tup ?_)))
          all_goals (try refine Side.mk ?_)
          all_goals (try simp only [decide_eq_true_eq, decide_eq_false_iff_not, Int.ofNat_lt, Int.ofNat_le, gt_iff_lt, ge_iff_le, true_and, Bool.not_eq_true', Bool.not_eq_false'] at *)
          all_goals first | rfl | trivial | exact fun _ _ => trivial | exact ⟨rfl, rfl⟩ | exact ⟨rfl, fun _ _ => rfl⟩ | exact ⟨rfl, rfl, fun _ _ => rfl⟩ | exact i64_id (by omega) (by omega) | omega
        · intro j hj h2; omega
        · intro k hk hpk
          repeat' ((fail_if_success (with_reducible refine Side.mk ?_)); first | (refine Rest.mk (drawR_sound zES61_R mixOK zHS61_R ?_)) | ((fail_if_success (with_reducible refine Rest.mk ?_)); first | (with_reducible exact True.intro) | (with_reducible refine Need.mk ?_ ?_) | (with_reducible refine And.intro ?_ ?_) | (with_reducible intro _) | ((fail_if_success (with_reducible refine FinS.mk ?_)); (fail_if_success (with_reducible refine Le.mk ?_)); (conv => whnf)) | (refine FinS.b ?_) | (refine FinS.lb ?_) | (refine FinS.i ?_) | (refine FinS.f ?_) | (refine FinS.agg ?_) | (refine FinS.tup ?_)))
          all_goals (try (refine Le.of ?_; (conv => whnf)))
          repeat' ((fail_if_success (with_reducible refine Side.mk ?_)); first | (refine Rest.mk (drawR_sound zES61_R mixOK zHS61_R ?_)) | ((fail_if_success (with_reducible refine Rest.mk ?_)); first | (with_reducible exact True.intro) | (with_reducible refine Need.mk ?_ ?_) | (with_reducible refine And.intro ?_ ?_) | (with_reducible intro _) | ((fail_if_success (with_reducible refine FinS.mk ?_)); (fail_if_success (with_reducible refine Le.mk ?_)); (conv => whnf)) | (refine FinS.b ?_) | (refine FinS.lb ?_) | (refine FinS.i ?_) | (refine FinS.f ?_) | (refine FinS.agg ?_) | (refine FinS.tup ?_)))
          all_goals (try refine Side.mk ?_)
          all_goals (try simp only [decide_eq_true_eq, decide_eq_false_iff_not, Int.ofNat_lt, Int.ofNat_le, gt_iff_lt, ge_iff_le, true_and, Bool.not_eq_true', Bool.not_eq_false', nxt_int (a := i) (b := k + 2) (n := n) (by omega)] at *)
          all_goals first | rfl | trivial | exact fun _ _ => trivial | exact ⟨rfl, rfl⟩ | exact ⟨rfl, fun _ _ => rfl⟩ | exact ⟨rfl, rfl, fun _ _ => rfl⟩ | exact i64_id (by omega) (by omega) | omega | (exact ⟨by omega, Nat.mod_lt _ (by omega)⟩) | (exact (check_b hr0 hin (okI_k (k := k + 2) (by omega) (by omega) ‹_›)).symm) | (exact ⟨by omega, pre2_up (n := n) hpk ‹_›⟩) | (exact ⟨hin, pre_up hpre (okI_t hln fun j hj h2 => hpk j (by omega) h2)⟩)
      all_goals (try (refine Le.of ?_; (conv => whnf)))
      repeat' ((fail_if_success (with_reducible refine Side.mk ?_)); first | (refine Rest.mk (drawR_sound zES61_R mixOK zHS61_R ?_)) | ((fail_if_success (with_reducible refine Rest.mk ?_)); first | (with_reducible exact True.intro) | (with_reducible refine Need.mk ?_ ?_) | (with_reducible refine And.intro ?_ ?_) | (with_reducible intro _) | ((fail_if_success (with_reducible refine FinS.mk ?_)); (fail_if_success (with_reducible refine Le.mk ?_)); (conv => whnf)) | (refine FinS.b ?_) | (refine FinS.lb ?_) | (refine FinS.i ?_) | (refine FinS.f ?_) | (refine FinS.agg ?_) | (refine FinS.tup ?_)))
      all_goals (try refine Side.mk ?_)
      all_goals (try simp only [decide_eq_true_eq, decide_eq_false_iff_not, Int.ofNat_lt, Int.ofNat_le, gt_iff_lt, ge_iff_le, true_and, Bool.not_eq_true', Bool.not_eq_false'] at *)
      all_goals first | rfl | trivial | exact fun _ _ => trivial | exact ⟨rfl, rfl⟩ | exact ⟨rfl, fun _ _ => rfl⟩ | exact ⟨rfl, rfl, fun _ _ => rfl⟩ | exact i64_id (by omega) (by omega) | omega | (exact ⟨isPts_pt _ _, by omega, by omega, c0⟩) | (exact (check_b hr0 (i := i) (by omega) (okI_len ‹_›)).symm) | (exact (check_0 hr0 h3 fun j hj => hpre j (by omega)).symm)
  all_goals (try (refine Le.of ?_; (conv => whnf)))
  repeat' ((fail_if_success (with_reducible refine Side.mk ?_)); first | (refine Rest.mk (drawR_sound zES61_R mixOK zHS61_R ?_)) | ((fail_if_success (with_reducible refine Rest.mk ?_)); first | (with_reducible exact True.intro) | (with_reducible refine Need.mk ?_ ?_) | (with_reducible refine And.intro ?_ ?_) | (with_reducible intro _) | ((fail_if_success (with_reducible refine FinS.mk ?_)); (fail_if_success (with_reducible refine Le.mk ?_)); (conv => whnf)) | (refine FinS.b ?_) | (refine FinS.lb ?_) | (refine FinS.i ?_) | (refine FinS.f ?_) | (refine FinS.agg ?_) | (refine FinS.tup ?_)))
  all_goals (try refine Side.mk ?_)
  all_goals (try simp only [decide_eq_true_eq, decide_eq_false_iff_not, Int.ofNat_lt, Int.ofNat_le, gt_iff_lt, ge_iff_le, true_and, Bool.not_eq_true', Bool.not_eq_false'] at *)
  all_goals first | rfl | trivial | exact fun _ _ => trivial | exact ⟨rfl, rfl⟩ | exact ⟨rfl, fun _ _ => rfl⟩ | exact ⟨rfl, rfl, fun _ _ => rfl⟩ | exact i64_id (by omega) (by omega) | omega | (exact ⟨isPts_pt _ _, c0⟩) | (exact (check_r ‹_›).symm) | (exact (check_a ‹_› (by omega)).symm)
noncomputable def g25 : List MV → Option (List Prop × MV × List Blk × Bool)
  | [.ro 2 n get] => some ([isPts n get, n < big], .i .i64 (checkV n (pOf get)), [], false)
  | _ => none
theorem s25 : SumsOK Try.prog (sumOf 25 g25 S61) := by
  refine SumsOK.add S61_ok fun ms ps m blks al e hp => ?_
  unfold g25 at e
  split at e
  · cases e
    have h0 := hp _ (.head _)
    exact (le_arg1 (t25 _ (pOf _) (hp _ (.tail _ (.head _)))) (leR_pts h0)).aloneT rfl
  · cases e
noncomputable def S25 := sumOf 25 g25 S61
theorem S25_ok : SumsOK Try.prog S25 := s25
theorem pre3_up {i k n : Nat} {P : Nat → Prop} (h : ∀ j, j < k → j ≠ i → j ≠ nxt n i → P j) (hi : k ≠ i → k ≠ nxt n i → P k) : ∀ j, j < k + 1 → j ≠ i → j ≠ nxt n i → P j := fun j hj h1 h2 => by
  rcases Nat.lt_or_eq_of_le (Nat.le_of_lt_succ hj) with e | e
  · exact h j e h1 h2
  · subst e; exact hi h1 h2
theorem notf {b : Bool} (h : (!b) = false) : b = true := by cases b <;> simp_all
theorem and3 {k i m : Nat} {g : Bool} (h : (((k : Int) != (i : Int)) && ((k : Int) != (m : Int)) && !g) = true) : k ≠ i ∧ k ≠ m ∧ g = false := by
  simp at h; exact ⟨by omega, by omega, h.2⟩
theorem and3f {k i m : Nat} {g : Bool} (h : (((k : Int) != (i : Int)) && ((k : Int) != (m : Int)) && !g) = false) (h1 : k ≠ i) (h2 : k ≠ m) : g = true := by
  cases g
  · have e1 : ((k : Int) != (i : Int)) = true := by simp; omega
    have e2 : ((k : Int) != (m : Int)) = true := by simp; omega
    rw [e1, e2] at h; cases h
  · rfl
noncomputable def fi44 : FnI := ⟨53, Try.f44.body.getD .skip, [.tmp 2], true⟩
theorem fi44_ok : fnGen Try.prog 44 = some fi44 := by kernel_rfl
theorem zHS25_R {cx : Cx} : CallH (genQ Try.prog exts eqs [] S25).P cx (hnd (genQ Try.prog exts eqs [] S25) cx 6) := hnd_sound (genQ_full extsOK eqsOK S25_ok) 6
theorem zES25_R : EnvAll (genQ Try.prog exts eqs [] S25) := (genQ_full extsOK eqsOK S25_ok).toEnvAll
theorem t44 (n : Nat) (p : Nat → Nat × Nat) (c0 : n < big): CM Try.prog 44 [.ro 2 n (fun j => ptM (p j))] (.i .i64 (rcheckV n p)) [] true := by
  refine CM.of_genQ (exts := exts) (eqs := eqs) (inl := []) (sum := S25) extsOK eqsOK S25_ok fi44_ok 6 rfl fun cx => ?_
  have c1 : n < 4611686018427387904 := c0
  repeat' ((fail_if_success (with_reducible refine Side.mk ?_)); first | ((fail_if_success (with_reducible refine Rest.mk ?_)); first | (with_reducible exact True.intro) | (with_reducible refine Need.mk ?_ ?_) | (with_reducible refine And.intro ?_ ?_) | (with_reducible intro _) | ((fail_if_success (with_reducible refine FinS.mk ?_)); (fail_if_success (with_reducible refine Le.mk ?_)); (conv => whnf)) | (refine FinS.b ?_) | (refine FinS.lb ?_) | (refine FinS.i ?_) | (refine FinS.f ?_) | (refine FinS.agg ?_) | (refine FinS.tup ?_)))
  rotate_right
  · rename_i hr0 hq
    have h3 : 3 ≤ n := by simp at hq; omega
    clear hq
    have hr0 : (rrealsV n p != 0) = false := hr0
    refine loop_ruleC zES25_R zHS25_R (fun i => ⟨[(0, .ro 2 n (fun j => ptM (p j))), (4, .i .i64 (i : Int))], [], [], 0⟩) (fun i => ∀ j, j < i → rokI n p j = true) n (Le.of ?_) ?_ ?_
    · conv => whnf
      repeat' ((fail_if_success (with_reducible refine Side.mk ?_)); first | ((fail_if_success (with_reducible refine Rest.mk ?_)); first | (with_reducible exact True.intro) | (with_reducible refine Need.mk ?_ ?_) | (with_reducible refine And.intro ?_ ?_) | (with_reducible intro _) | ((fail_if_success (with_reducible refine FinS.mk ?_)); (fail_if_success (with_reducible refine Le.mk ?_)); (conv => whnf)) | (refine FinS.b ?_) | (refine FinS.lb ?_) | (refine FinS.i ?_) | (refine FinS.f ?_) | (refine FinS.agg ?_) | (refine FinS.tup ?_)))
      all_goals (try (refine Le.of ?_; (conv => whnf)))
      repeat' ((fail_if_success (with_reducible refine Side.mk ?_)); first | ((fail_if_success (with_reducible refine Rest.mk ?_)); first | (with_reducible exact True.intro) | (with_reducible refine Need.mk ?_ ?_) | (with_reducible refine And.intro ?_ ?_) | (with_reducible intro _) | ((fail_if_success (with_reducible refine FinS.mk ?_)); (fail_if_success (with_reducible refine Le.mk ?_)); (conv => whnf)) | (refine FinS.b ?_) | (refine FinS.lb ?_) | (refine FinS.i ?_) | (refine FinS.f ?_) | (refine FinS.agg ?_) | (refine FinS.tup ?_)))
      all_goals (try refine Side.mk ?_)
      all_goals (try simp only [decide_eq_true_eq, decide_eq_false_iff_not, Int.ofNat_lt, Int.ofNat_le, gt_iff_lt, ge_iff_le, true_and, Bool.not_eq_true', Bool.not_eq_false'] at *)
      all_goals first | rfl | trivial | exact fun _ _ => trivial | exact ⟨rfl, rfl⟩ | exact ⟨rfl, fun _ _ => rfl⟩ | exact ⟨rfl, rfl, fun _ _ => rfl⟩ | exact i64_id (by omega) (by omega) | omega
    · intro j hj; omega
    · intro i hi hpre
      repeat' ((fail_if_success (with_reducible refine Side.mk ?_)); first | ((fail_if_success (with_reducible refine Rest.mk ?_)); first | (with_reducible exact True.intro) | (with_reducible refine Need.mk ?_ ?_) | (with_reducible refine And.intro ?_ ?_) | (with_reducible intro _) | ((fail_if_success (with_reducible refine FinS.mk ?_)); (fail_if_success (with_reducible refine Le.mk ?_)); (conv => whnf)) | (refine FinS.b ?_) | (refine FinS.lb ?_) | (refine FinS.i ?_) | (refine FinS.f ?_) | (refine FinS.agg ?_) | (refine FinS.tup ?_)))
      rotate_right 2
      · rename_i hin hln
        have hin : i < n := by simp at hin; omega
        have hln : fge .f64 (lnV (wayV n p i)) 4472074429978902528 = true := notf hln
        refine loop_ruleC zES25_R zHS25_R (fun k => ⟨[(0, .ro 2 n (fun j => ptM (p j))), (4, .i .i64 (i : Int)), (5, .i .i64 (k : Int))], [], [], 0⟩) (fun k => ∀ j, j < k → j ≠ i → j ≠ nxt n i → fgt .f64 (crossR n p i j) 0 = true) (n) (Le.of ?_) ?_ ?_
        · conv => whnf
          repeat' ((fail_if_success (with_reducible refine Side.mk ?_)); first | ((fail_if_success (with_reducible refine Rest.mk ?_)); first | (with_reducible exact True.intro) | (with_reducible refine Need.mk ?_ ?_) | (with_reducible refine And.intro ?_ ?_) | (with_reducible intro _) | ((fail_if_success (with_reducible refine FinS.mk ?_)); (fail_if_success (with_reducible refine Le.mk ?_)); (conv => whnf)) | (refine FinS.b ?_) | (refine FinS.lb ?_) | (refine FinS.i ?_) | (refine FinS.f ?_) | (refine FinS.agg ?_) | (refine FinS.tup ?_)))
          all_goals (try (refine Le.of ?_; (conv => whnf)))
          repeat' ((fail_if_success (with_reducible refine Side.mk ?_)); first | ((fail_if_success (with_reducible refine Rest.mk ?_)); first | (with_reducible exact True.intro) | (with_reducible refine Need.mk ?_ ?_) | (with_reducible refine And.intro ?_ ?_) | (with_reducible intro _) | ((fail_if_success (with_reducible refine FinS.mk ?_)); (fail_if_success (with_reducible refine Le.mk ?_)); (conv => whnf)) | (refine FinS.b ?_) | (refine FinS.lb ?_) | (refine FinS.i ?_) | (refine FinS.f ?_) | (refine FinS.agg ?_) | (refine FinS.tup ?_)))
          all_goals (try refine Side.mk ?_)
          all_goals (try simp only [decide_eq_true_eq, decide_eq_false_iff_not, Int.ofNat_lt, Int.ofNat_le, gt_iff_lt, ge_iff_le, true_and, Bool.not_eq_true', Bool.not_eq_false'] at *)
          all_goals first | rfl | trivial | exact fun _ _ => trivial | exact ⟨rfl, rfl⟩ | exact ⟨rfl, fun _ _ => rfl⟩ | exact ⟨rfl, rfl, fun _ _ => rfl⟩ | exact i64_id (by omega) (by omega) | omega
        · intro j hj; omega
        · intro k hk hpk
          repeat' ((fail_if_success (with_reducible refine Side.mk ?_)); first | ((fail_if_success (with_reducible refine Rest.mk ?_)); first | (with_reducible exact True.intro) | (with_reducible refine Need.mk ?_ ?_) | (with_reducible refine And.intro ?_ ?_) | (with_reducible intro _) | ((fail_if_success (with_reducible refine FinS.mk ?_)); (fail_if_success (with_reducible refine Le.mk ?_)); (conv => whnf)) | (refine FinS.b ?_) | (refine FinS.lb ?_) | (refine FinS.i ?_) | (refine FinS.f ?_) | (refine FinS.agg ?_) | (refine FinS.tup ?_)))
          all_goals (try (refine Le.of ?_; (conv => whnf)))
          repeat' ((fail_if_success (with_reducible refine Side.mk ?_)); first | ((fail_if_success (with_reducible refine Rest.mk ?_)); first | (with_reducible exact True.intro) | (with_reducible refine Need.mk ?_ ?_) | (with_reducible refine And.intro ?_ ?_) | (with_reducible intro _) | ((fail_if_success (with_reducible refine FinS.mk ?_)); (fail_if_success (with_reducible refine Le.mk ?_)); (conv => whnf)) | (refine FinS.b ?_) | (refine FinS.lb ?_) | (refine FinS.i ?_) | (refine FinS.f ?_) | (refine FinS.agg ?_) | (refine FinS.tup ?_)))
          all_goals (try refine Side.mk ?_)
          all_goals (try simp only [decide_eq_true_eq, decide_eq_false_iff_not, Int.ofNat_lt, Int.ofNat_le, gt_iff_lt, ge_iff_le, true_and, Bool.not_eq_true', Bool.not_eq_false'] at *)
          all_goals first | rfl | trivial | exact fun _ _ => trivial | exact ⟨rfl, rfl⟩ | exact ⟨rfl, fun _ _ => rfl⟩ | exact ⟨rfl, rfl, fun _ _ => rfl⟩ | exact i64_id (by omega) (by omega) | omega | (exact fun _ => ⟨isPts_pt _ _, by omega, by omega, c0⟩) | (exact fun _ => ⟨by omega, by omega⟩) | (exact (rcheck_b hr0 hin (rokI_k (and3 (k := k) (i := i) (m := nxt n i) (g := fgt .f64 (crossR n p i k) 0) ‹_›).1 (and3 (k := k) (i := i) (m := nxt n i) (g := fgt .f64 (crossR n p i k) 0) ‹_›).2.1 (by omega) (and3 (k := k) (i := i) (m := nxt n i) (g := fgt .f64 (crossR n p i k) 0) ‹_›).2.2)).symm) | (exact ⟨by omega, pre3_up hpk (and3f (k := k) (i := i) (m := nxt n i) (g := fgt .f64 (crossR n p i k) 0) ‹_›)⟩) | (exact ⟨hin, pre_up hpre (rokI_t hln fun j hj => hpk j (by omega))⟩)
      all_goals (try (refine Le.of ?_; (conv => whnf)))
      repeat' ((fail_if_success (with_reducible refine Side.mk ?_)); first | ((fail_if_success (with_reducible refine Rest.mk ?_)); first | (with_reducible exact True.intro) | (with_reducible refine Need.mk ?_ ?_) | (with_reducible refine And.intro ?_ ?_) | (with_reducible intro _) | ((fail_if_success (with_reducible refine FinS.mk ?_)); (fail_if_success (with_reducible refine Le.mk ?_)); (conv => whnf)) | (refine FinS.b ?_) | (refine FinS.lb ?_) | (refine FinS.i ?_) | (refine FinS.f ?_) | (refine FinS.agg ?_) | (refine FinS.tup ?_)))
      all_goals (try refine Side.mk ?_)
      all_goals (try simp only [decide_eq_true_eq, decide_eq_false_iff_not, Int.ofNat_lt, Int.ofNat_le, gt_iff_lt, ge_iff_le, true_and, Bool.not_eq_true', Bool.not_eq_false'] at *)
      all_goals first | rfl | trivial | exact fun _ _ => trivial | exact ⟨rfl, rfl⟩ | exact ⟨rfl, fun _ _ => rfl⟩ | exact ⟨rfl, rfl, fun _ _ => rfl⟩ | exact i64_id (by omega) (by omega) | omega | (exact ⟨isPts_pt _ _, by omega, by omega, c0⟩) | (exact (rcheck_b hr0 (i := i) (by omega) (rokI_len ‹_›)).symm) | (exact (rcheck_0 hr0 h3 fun j hj => hpre j (by omega)).symm)
  all_goals (try (refine Le.of ?_; (conv => whnf)))
  repeat' ((fail_if_success (with_reducible refine Side.mk ?_)); first | ((fail_if_success (with_reducible refine Rest.mk ?_)); first | (with_reducible exact True.intro) | (with_reducible refine Need.mk ?_ ?_) | (with_reducible refine And.intro ?_ ?_) | (with_reducible intro _) | ((fail_if_success (with_reducible refine FinS.mk ?_)); (fail_if_success (with_reducible refine Le.mk ?_)); (conv => whnf)) | (refine FinS.b ?_) | (refine FinS.lb ?_) | (refine FinS.i ?_) | (refine FinS.f ?_) | (refine FinS.agg ?_) | (refine FinS.tup ?_)))
  all_goals (try refine Side.mk ?_)
  all_goals (try simp only [decide_eq_true_eq, decide_eq_false_iff_not, Int.ofNat_lt, Int.ofNat_le, gt_iff_lt, ge_iff_le, true_and, Bool.not_eq_true', Bool.not_eq_false'] at *)
  all_goals first | rfl | trivial | exact fun _ _ => trivial | exact ⟨rfl, rfl⟩ | exact ⟨rfl, fun _ _ => rfl⟩ | exact ⟨rfl, rfl, fun _ _ => rfl⟩ | exact i64_id (by omega) (by omega) | omega | (exact ⟨isPts_pt _ _, c0⟩) | (exact (rcheck_r ‹_›).symm) | (exact (rcheck_a ‹_› (by omega)).symm)
noncomputable def g44 : List MV → Option (List Prop × MV × List Blk × Bool)
  | [.ro 2 n get] => some ([isPts n get, n < big], .i .i64 (rcheckV n (pOf get)), [], false)
  | _ => none
theorem s44 : SumsOK Try.prog (sumOf 44 g44 S25) := by
  refine SumsOK.add S25_ok fun ms ps m blks al e hp => ?_
  unfold g44 at e
  split at e
  · cases e
    have h0 := hp _ (.head _)
    exact (le_arg1 (t44 _ (pOf _) (hp _ (.tail _ (.head _)))) (leR_pts h0)).aloneT rfl
  · cases e
noncomputable def S44 := sumOf 44 g44 S25
theorem S44_ok : SumsOK Try.prog S44 := s44
end Go.Ev.Clip
