/-
  The contracts of both Normals; for lists below 2^62 points.
-/
import Derived.Test.YtbehddngdjfkhaaClipR
set_option linter.unusedSimpArgs false
set_option linter.unusedVariables false
open Go Go.Proofs
namespace Go.Ev.Clip
set_option maxRecDepth 100000
set_option maxHeartbeats 1000000
def uV (a : Nat × Nat) : Nat × Nat := (bif badU a.1 a.2 then 0 else fdiv .f64 a.1 (lenV a.1 a.2), bif badU a.1 a.2 then 0 else fdiv .f64 a.2 (lenV a.1 a.2))
def ruV (a : Nat × Nat) : Nat × Nat := (bif badR a.1 a.2 then 0 else fdiv .f64 a.1 (lenV a.1 a.2), bif badR a.1 a.2 then 0 else fdiv .f64 a.2 (lenV a.1 a.2))
def rV (a : Nat × Nat) : Nat × Nat := (fneg .f64 (fneg .f64 a.2), fneg .f64 a.1)
def rrV (a : Nat × Nat) : Nat × Nat := (a.2, fneg .f64 a.1)
def normV (n : Nat) (p : Nat → Nat × Nat) (i : Nat) : Nat × Nat := uV (rV (wayV n p i))
def rnormV (n : Nat) (p : Nat → Nat × Nat) (i : Nat) : Nat × Nat := ruV (rrV (wayV n p i))
def nOk (e : Int) (n : Nat) : Nat := bif e != 0 then 0 else n
def rowTo (f : Nat → Nat × Nat) (i k : Nat) : List MV := ptM (bif Nat.blt k i then f k else (0, 0))
theorem updL_rowTo {f : Nat → Nat × Nat} {i k m : Nat} (hm : m = i) : updL (Nat.beq k m) (rowTo f i k) 0 (ptM (f i)) = rowTo f (i + 1) k := by
  subst hm
  rcases Nat.lt_trichotomy k m with h | h | h
  · unfold rowTo; rw [blt_t h, blt_t (Nat.lt_succ_of_lt h), beq_f (by omega)]; rfl
  · subst h
    unfold rowTo
    rw [blt_f (Nat.le_refl k), blt_t (Nat.lt_succ_self k), show Nat.beq k k = true by simp]; rfl
  · unfold rowTo; rw [blt_f (by omega), blt_f (by omega), beq_f (by omega)]; rfl
theorem rowTo_end {f : Nat → Nat × Nat} {n k : Nat} (h : k < n) : rowTo f n k = ptM (f k) := by unfold rowTo; rw [blt_t h]; rfl
theorem nOk_0 {e : Int} {n : Nat} (h : (e != 0) = false) : nOk e n = n := by unfold nOk; rw [h]; rfl
theorem nOk_1 {e : Int} {n : Nat} (h : (e != 0) = true) : nOk e n = 0 := by unfold nOk; rw [h]; rfl
noncomputable def fi68 : FnI := ⟨16, Try.f68.body.getD .skip, [.cell 4 24], true⟩
theorem fi68_ok : fnGen Try.prog 68 = some fi68 := by kernel_rfl
theorem t68 (n : Nat) (p : Nat → Nat × Nat) (i : Nat) (c0 : i < n) (c1 : n < big): CM Try.prog 68 [.ro 2 n (fun j => ptM (p j)), .i .i64 (i : Int)] (.agg (ptM (normV n p i))) [] true := by
  refine CM.of_genQ (exts := exts) (eqs := eqs) (inl := []) (sum := S44) extsOK eqsOK S44_ok fi68_ok 6 rfl fun cx => ?_
  repeat' ((fail_if_success (with_reducible refine Side.mk ?_)); first | ((fail_if_success (with_reducible refine Rest.mk ?_)); first | (with_reducible exact True.intro) | (with_reducible refine Need.mk ?_ ?_) | (with_reducible refine And.intro ?_ ?_) | (with_reducible intro _) | ((fail_if_success (with_reducible refine FinS.mk ?_)); (fail_if_success (with_reducible refine Le.mk ?_)); (conv => whnf)) | (refine FinS.b ?_) | (refine FinS.lb ?_) | (refine FinS.i ?_) | (refine FinS.f ?_) | (refine FinS.agg ?_) | (refine FinS.tup ?_)))
  all_goals (refine Side.mk ?_; (try simp only [nxt1 c0 c1]); all_goals first | rfl | exact ⟨trivial, rfl⟩ | exact ⟨rfl, rfl⟩ | omega | (have := nxt_lt c0; show 0 ≤ ((nxt n i : Nat) : Int) ∧ ((nxt n i : Nat) : Int) < (n : Int); omega) | exact ⟨isPts_pt _ _, by omega, by omega, c1⟩)
noncomputable def g68 : List MV → Option (List Prop × MV × List Blk × Bool)
  | [.ro 2 n get, .i .i64 k] => some ([isPts n get, 0 ≤ k ∧ k < n ∧ n < big], .agg (ptM (normV n (pOf get) k.toNat)), [], false)
  | _ => none
theorem s68 : SumsOK Try.prog (sumOf 68 g68 S44) := by
  refine SumsOK.add S44_ok fun ms ps m blks al e hp => ?_
  unfold g68 at e
  split at e
  · cases e
    have h0 := hp _ (.head _)
    obtain ⟨k1, k2, k3⟩ := hp _ (.tail _ (.head _))
    obtain ⟨i, rfl⟩ := Int.eq_ofNat_of_zero_le k1
    exact (le_arg1 (t68 _ (pOf _) i (by omega) k3) (leR_pts h0)).aloneT rfl
  · cases e
noncomputable def S68 := sumOf 68 g68 S44
theorem S68_ok : SumsOK Try.prog S68 := s68
noncomputable def fi72 : FnI := ⟨16, Try.f72.body.getD .skip, [.cell 4 24], true⟩
theorem fi72_ok : fnGen Try.prog 72 = some fi72 := by kernel_rfl
theorem t72 (n : Nat) (p : Nat → Nat × Nat) (i : Nat) (c0 : i < n) (c1 : n < big): CM Try.prog 72 [.ro 2 n (fun j => ptM (p j)), .i .i64 (i : Int)] (.agg (ptM (rnormV n p i))) [] true := by
  refine CM.of_genQ (exts := exts) (eqs := eqs) (inl := []) (sum := S68) extsOK eqsOK S68_ok fi72_ok 6 rfl fun cx => ?_
  repeat' ((fail_if_success (with_reducible refine Side.mk ?_)); first | ((fail_if_success (with_reducible refine Rest.mk ?_)); first | (with_reducible exact True.intro) | (with_reducible refine Need.mk ?_ ?_) | (with_reducible refine And.intro ?_ ?_) | (with_reducible intro _) | ((fail_if_success (with_reducible refine FinS.mk ?_)); (fail_if_success (with_reducible refine Le.mk ?_)); (conv => whnf)) | (refine FinS.b ?_) | (refine FinS.lb ?_) | (refine FinS.i ?_) | (refine FinS.f ?_) | (refine FinS.agg ?_) | (refine FinS.tup ?_)))
  all_goals (refine Side.mk ?_; (try simp only [nxt1 c0 c1]); all_goals first | rfl | exact ⟨trivial, rfl⟩ | exact ⟨rfl, rfl⟩ | omega | (have := nxt_lt c0; show 0 ≤ ((nxt n i : Nat) : Int) ∧ ((nxt n i : Nat) : Int) < (n : Int); omega) | exact ⟨isPts_pt _ _, by omega, by omega, c1⟩)
noncomputable def g72 : List MV → Option (List Prop × MV × List Blk × Bool)
  | [.ro 2 n get, .i .i64 k] => some ([isPts n get, 0 ≤ k ∧ k < n ∧ n < big], .agg (ptM (rnormV n (pOf get) k.toNat)), [], false)
  | _ => none
theorem s72 : SumsOK Try.prog (sumOf 72 g72 S68) := by
  refine SumsOK.add S68_ok fun ms ps m blks al e hp => ?_
  unfold g72 at e
  split at e
  · cases e
    have h0 := hp _ (.head _)
    obtain ⟨k1, k2, k3⟩ := hp _ (.tail _ (.head _))
    obtain ⟨i, rfl⟩ := Int.eq_ofNat_of_zero_le k1
    exact (le_arg1 (t72 _ (pOf _) i (by omega) k3) (leR_pts h0)).aloneT rfl
  · cases e
noncomputable def S72 := sumOf 72 g72 S68
theorem S72_ok : SumsOK Try.prog S72 := s72
theorem zeroOf {e : Int} (h : (e != 0) = false) : 0 = e := by simp at h; exact h.symm
theorem check_le {n : Nat} {p : Nat → Nat × Nat} (h : (checkV n p != 0) = false) : n ≤ 64 := by
  rcases Nat.lt_or_ge 64 n with e | e
  · have : checkV n p = 4 := by
      rw [check_r (by rw [reals_4 e]; rfl), reals_4 e]
    rw [this] at h; cases h
  · exact e
theorem rcheck_le {n : Nat} {p : Nat → Nat × Nat} (h : (rcheckV n p != 0) = false) : n ≤ 64 := by
  rcases Nat.lt_or_ge 64 n with e | e
  · have : rcheckV n p = 4 := by
      rw [rcheck_r (by rw [rreals_4 e]; rfl), rreals_4 e]
    rw [this] at h; cases h
  · exact e
theorem app_pts {i k j : Nat} {f : Nat → Nat × Nat} {X : Nat → List MV} {tl : List MV} (hX : X 0 = .f .f64 (f i).1 :: .f .f64 (f i).2 :: tl) (hk : k < i + 1) (hj : j < 2) : getM (appGet i (fun k => ptM (f k)) X k) j = getM (ptM (f k)) j := by
  unfold appGet
  rw [show k - i = 0 by omega, hX]
  have hj : j = 0 ∨ j = 1 := by omega
  rcases Nat.lt_or_eq_of_le (Nat.le_of_lt_succ hk) with e | e
  · rw [blt_t e]; rcases hj with rfl | rfl <;> rfl
  · subst e; rw [blt_f (Nat.le_refl _)]; rcases hj with rfl | rfl <;> rfl
theorem rowTo_fin {f : Nat → Nat × Nat} {n m i k : Nat} (hm : m = n) (hi : i = n) (hk : k < m) : rowTo f i k = ptM (f k) := rowTo_end (by omega)
noncomputable def fi54 : FnI := ⟨28, Try.f54.body.getD .skip, [.tmp 2, .tmp 3], true⟩
theorem fi54_ok : fnGen Try.prog 54 = some fi54 := by kernel_rfl
theorem t54 (n : Nat) (p : Nat → Nat × Nat) (c0 : n < big): CM Try.prog 54 [.ro 2 n (fun j => ptM (p j))] (.tup [.os 0 2 0 (nOk (checkV n p) n), .i .i64 (checkV n p)]) [.rows 2 (nOk (checkV n p) n) fun i => ptM (normV n p i)] true := by
  refine CM.of_genQ (exts := exts) (eqs := eqs) (inl := []) (sum := S72) extsOK eqsOK S72_ok fi54_ok 6 rfl fun cx => ?_
  have c1 : n < 4611686018427387904 := c0
  repeat' ((fail_if_success (with_reducible refine Side.mk ?_)); first | ((fail_if_success (with_reducible refine Rest.mk ?_)); first | (with_reducible exact True.intro) | (with_reducible refine Need.mk ?_ ?_) | (with_reducible refine And.intro ?_ ?_) | (with_reducible intro _) | ((fail_if_success (with_reducible refine FinS.mk ?_)); (fail_if_success (with_reducible refine Le.mk ?_)); (conv => whnf)) | (refine FinS.b ?_) | (refine FinS.lb ?_) | (refine FinS.i ?_) | (refine FinS.f ?_) | (refine FinS.agg ?_) | (refine FinS.tup ?_)))
  rotate_right
  · rename_i hc
    have hc : (checkV n p != 0) = false := hc
    have hL := check_le hc
    refine loop_ruleC (E := genQ Try.prog exts eqs [] S72) (genQ_full extsOK eqsOK S72_ok).toEnvAll (hnd_sound (E := genQ Try.prog exts eqs [] S72) (genQ_full extsOK eqsOK S72_ok) 6) (fun i => ⟨[(0, .ro 2 n (fun j => ptM (p j))), (5, .os 0 2 0 n), (16, .i .i64 (n : Int)), (17, .i .i64 (i : Int))], [], [(0, .rows 2 n (rowTo (normV n p) i))], 1⟩) (fun i => True) (n) (Le.of ?_) ?_ ?_
    · conv => whnf
      repeat' ((fail_if_success (with_reducible refine Side.mk ?_)); first | ((fail_if_success (with_reducible refine Rest.mk ?_)); first | (with_reducible exact True.intro) | (with_reducible refine Need.mk ?_ ?_) | (with_reducible refine And.intro ?_ ?_) | (with_reducible intro _) | ((fail_if_success (with_reducible refine FinS.mk ?_)); (fail_if_success (with_reducible refine Le.mk ?_)); (conv => whnf)) | (refine FinS.b ?_) | (refine FinS.lb ?_) | (refine FinS.i ?_) | (refine FinS.f ?_) | (refine FinS.agg ?_) | (refine FinS.tup ?_)))
      all_goals (try (refine Le.of ?_; (conv => whnf)))
      repeat' ((fail_if_success (with_reducible refine Side.mk ?_)); first | ((fail_if_success (with_reducible refine Rest.mk ?_)); first | (with_reducible exact True.intro) | (with_reducible refine Need.mk ?_ ?_) | (with_reducible refine And.intro ?_ ?_) | (with_reducible intro _) | ((fail_if_success (with_reducible refine FinS.mk ?_)); (fail_if_success (with_reducible refine Le.mk ?_)); (conv => whnf)) | (refine FinS.b ?_) | (refine FinS.lb ?_) | (refine FinS.i ?_) | (refine FinS.f ?_) | (refine FinS.agg ?_) | (refine FinS.tup ?_)))
      all_goals (try refine Side.mk ?_)
      all_goals (try simp only [decide_eq_true_eq, decide_eq_false_iff_not, Int.ofNat_lt, Int.ofNat_le, gt_iff_lt, ge_iff_le, true_and, Bool.not_eq_true', Bool.not_eq_false'] at *)
      all_goals first | rfl | trivial | exact fun _ _ => trivial | exact ⟨rfl, rfl⟩ | exact ⟨rfl, fun _ _ => rfl⟩ | exact ⟨rfl, rfl, fun _ _ => rfl⟩ | exact i64_id (by omega) (by omega) | omega | (exact ⟨rfl, rfl, fun k hk j hj => .inr rfl⟩) | (exact ⟨rfl, fun k hk j hj => .inr rfl⟩) | (exact fun k hk j hj => .inr rfl) | ((rename_i hlt; exact ⟨trivial, fun k hk j hj => .inr (congrArg (fun l => getM l j) (updL_rowTo (f := normV n p) (Nat.zero_add _)))⟩)) | (exact fun k hk j hj => .inr (congrArg (fun l => getM l j) (updL_rowTo (f := normV n p) (Nat.zero_add _))))
    · trivial
    · intro i hi _
      repeat' ((fail_if_success (with_reducible refine Side.mk ?_)); first | ((fail_if_success (with_reducible refine Rest.mk ?_)); first | (with_reducible exact True.intro) | (with_reducible refine Need.mk ?_ ?_) | (with_reducible refine And.intro ?_ ?_) | (with_reducible intro _) | ((fail_if_success (with_reducible refine FinS.mk ?_)); (fail_if_success (with_reducible refine Le.mk ?_)); (conv => whnf)) | (refine FinS.b ?_) | (refine FinS.lb ?_) | (refine FinS.i ?_) | (refine FinS.f ?_) | (refine FinS.agg ?_) | (refine FinS.tup ?_)))
      all_goals (try (refine Le.of ?_; (conv => whnf)))
      repeat' ((fail_if_success (with_reducible refine Side.mk ?_)); first | ((fail_if_success (with_reducible refine Rest.mk ?_)); first | (with_reducible exact True.intro) | (with_reducible refine Need.mk ?_ ?_) | (with_reducible refine And.intro ?_ ?_) | (with_reducible intro _) | ((fail_if_success (with_reducible refine FinS.mk ?_)); (fail_if_success (with_reducible refine Le.mk ?_)); (conv => whnf)) | (refine FinS.b ?_) | (refine FinS.lb ?_) | (refine FinS.i ?_) | (refine FinS.f ?_) | (refine FinS.agg ?_) | (refine FinS.tup ?_)))
      all_goals (try refine Side.mk ?_)
      all_goals (try simp only [decide_eq_true_eq, decide_eq_false_iff_not, Int.ofNat_lt, Int.ofNat_le, gt_iff_lt, ge_iff_le, true_and, Bool.not_eq_true', Bool.not_eq_false'] at *)
      all_goals first | rfl | trivial | exact fun _ _ => trivial | exact ⟨rfl, rfl⟩ | exact ⟨rfl, fun _ _ => rfl⟩ | exact ⟨rfl, rfl, fun _ _ => rfl⟩ | exact i64_id (by omega) (by omega) | omega | (exact ⟨isPts_pt _ _, by omega, by omega, c0⟩) | (exact FinS.rows 0 ⟨rfl, (nOk_0 hc).symm, fun k hk j hj => congrArg (fun l => getM l j) (rowTo_fin (nOk_0 hc) (by omega) hk)⟩ ⟨⟨rfl, rfl, (nOk_0 hc).symm⟩, ⟨rfl, zeroOf hc⟩, True.intro⟩) | (exact FinS.rows 0 ⟨rfl, (by rw [nOk_0 hc]; omega), fun k hk j hj => rfl⟩ ⟨⟨rfl, rfl, (by rw [nOk_0 hc]; omega)⟩, ⟨rfl, zeroOf hc⟩, True.intro⟩) | (exact ⟨rfl, rfl, fun k hk j hj => .inr rfl⟩) | (exact ⟨rfl, fun k hk j hj => .inr rfl⟩) | (exact fun k hk j hj => .inr rfl) | ((rename_i hlt; exact ⟨trivial, fun k hk j hj => .inr (congrArg (fun l => getM l j) (updL_rowTo (f := normV n p) (Nat.zero_add _)))⟩)) | (exact fun k hk j hj => .inr (congrArg (fun l => getM l j) (updL_rowTo (f := normV n p) (Nat.zero_add _))))
  all_goals (try (refine Le.of ?_; (conv => whnf)))
  repeat' ((fail_if_success (with_reducible refine Side.mk ?_)); first | ((fail_if_success (with_reducible refine Rest.mk ?_)); first | (with_reducible exact True.intro) | (with_reducible refine Need.mk ?_ ?_) | (with_reducible refine And.intro ?_ ?_) | (with_reducible intro _) | ((fail_if_success (with_reducible refine FinS.mk ?_)); (fail_if_success (with_reducible refine Le.mk ?_)); (conv => whnf)) | (refine FinS.b ?_) | (refine FinS.lb ?_) | (refine FinS.i ?_) | (refine FinS.f ?_) | (refine FinS.agg ?_) | (refine FinS.tup ?_)))
  all_goals (try refine Side.mk ?_)
  all_goals (try simp only [decide_eq_true_eq, decide_eq_false_iff_not, Int.ofNat_lt, Int.ofNat_le, gt_iff_lt, ge_iff_le, true_and, Bool.not_eq_true', Bool.not_eq_false'] at *)
  all_goals first | rfl | trivial | exact fun _ _ => trivial | exact ⟨rfl, rfl⟩ | exact ⟨rfl, fun _ _ => rfl⟩ | exact ⟨rfl, rfl, fun _ _ => rfl⟩ | exact i64_id (by omega) (by omega) | omega | (exact ⟨isPts_pt _ _, c0⟩) | (exact FinS.rows0 ⟨nOk_1 ‹_›⟩ ⟨⟨nOk_1 ‹_›⟩, ⟨rfl, rfl⟩, True.intro⟩) | (((have hL := check_le ‹_›); exact ⟨by omega, by omega, (by show (16 : Int) * (n : Int) ≤ 140737488355328; omega), by omega⟩))
noncomputable def g54 : List MV → Option (List Prop × MV × List Blk × Bool)
  | [.ro 2 n get] => some ([isPts n get, n < big], .tup [.os 0 2 0 (nOk (checkV n (pOf get)) n), .i .i64 (checkV n (pOf get))], [.rows 2 (nOk (checkV n (pOf get)) n) fun i => ptM (normV n (pOf get) i)], true)
  | _ => none
theorem s54 : SumsOK Try.prog (sumOf 54 g54 S72) := by
  refine SumsOK.add S72_ok fun ms ps m blks al e hp => ?_
  unfold g54 at e
  split at e
  · cases e
    exact (le_arg1 (t54 _ (pOf _) (hp _ (.tail _ (.head _)))) (leR_pts (hp _ (.head _))))
  · cases e
noncomputable def S54 := sumOf 54 g54 S72
theorem S54_ok : SumsOK Try.prog S54 := s54
noncomputable def fi66 : FnI := ⟨25, Try.f66.body.getD .skip, [.tmp 2, .tmp 3], true⟩
theorem fi66_ok : fnGen Try.prog 66 = some fi66 := by kernel_rfl
theorem t66 (n : Nat) (p : Nat → Nat × Nat) (c0 : n < big): CM Try.prog 66 [.ro 2 n (fun j => ptM (p j))] (.tup [.os 0 2 0 (nOk (rcheckV n p) n), .i .i64 (rcheckV n p)]) [.rows 2 (nOk (rcheckV n p) n) fun i => ptM (rnormV n p i)] true := by
  refine CM.of_genQ (exts := exts) (eqs := eqs) (inl := []) (sum := S54) extsOK eqsOK S54_ok fi66_ok 6 rfl fun cx => ?_
  have c1 : n < 4611686018427387904 := c0
  repeat' ((fail_if_success (with_reducible refine Side.mk ?_)); first | ((fail_if_success (with_reducible refine Rest.mk ?_)); first | (with_reducible exact True.intro) | (with_reducible refine Need.mk ?_ ?_) | (with_reducible refine And.intro ?_ ?_) | (with_reducible intro _) | ((fail_if_success (with_reducible refine FinS.mk ?_)); (fail_if_success (with_reducible refine Le.mk ?_)); (conv => whnf)) | (refine FinS.b ?_) | (refine FinS.lb ?_) | (refine FinS.i ?_) | (refine FinS.f ?_) | (refine FinS.agg ?_) | (refine FinS.tup ?_)))
  rotate_right
  · rename_i hc
    have hc : (rcheckV n p != 0) = false := hc
    have hL := rcheck_le hc
    refine loop_ruleC (E := genQ Try.prog exts eqs [] S54) (genQ_full extsOK eqsOK S54_ok).toEnvAll (hnd_sound (E := genQ Try.prog exts eqs [] S54) (genQ_full extsOK eqsOK S54_ok) 6) (fun i => ⟨[(0, .ro 2 n (fun j => ptM (p j))), (6, .i .i64 (i : Int)), (5, .os 0 2 0 i)], [], [(0, .rows 2 i fun k => ptM (rnormV n p k))], 1⟩) (fun i => True) (n) (Le.phan 2 (Le.of ?_)) ?_ ?_
    · conv => whnf
      repeat' ((fail_if_success (with_reducible refine Side.mk ?_)); first | ((fail_if_success (with_reducible refine Rest.mk ?_)); first | (with_reducible exact True.intro) | (with_reducible refine Need.mk ?_ ?_) | (with_reducible refine And.intro ?_ ?_) | (with_reducible intro _) | ((fail_if_success (with_reducible refine FinS.mk ?_)); (fail_if_success (with_reducible refine Le.mk ?_)); (conv => whnf)) | (refine FinS.b ?_) | (refine FinS.lb ?_) | (refine FinS.i ?_) | (refine FinS.f ?_) | (refine FinS.agg ?_) | (refine FinS.tup ?_)))
      all_goals (try (refine Le.of ?_; (conv => whnf)))
      repeat' ((fail_if_success (with_reducible refine Side.mk ?_)); first | ((fail_if_success (with_reducible refine Rest.mk ?_)); first | (with_reducible exact True.intro) | (with_reducible refine Need.mk ?_ ?_) | (with_reducible refine And.intro ?_ ?_) | (with_reducible intro _) | ((fail_if_success (with_reducible refine FinS.mk ?_)); (fail_if_success (with_reducible refine Le.mk ?_)); (conv => whnf)) | (refine FinS.b ?_) | (refine FinS.lb ?_) | (refine FinS.i ?_) | (refine FinS.f ?_) | (refine FinS.agg ?_) | (refine FinS.tup ?_)))
      all_goals (try refine Side.mk ?_)
      all_goals (try simp only [decide_eq_true_eq, decide_eq_false_iff_not, Int.ofNat_lt, Int.ofNat_le, gt_iff_lt, ge_iff_le, true_and, Bool.not_eq_true', Bool.not_eq_false'] at *)
      all_goals first | rfl | trivial | exact fun _ _ => trivial | exact ⟨rfl, rfl⟩ | exact ⟨rfl, fun _ _ => rfl⟩ | exact ⟨rfl, rfl, fun _ _ => rfl⟩ | exact i64_id (by omega) (by omega) | omega | (exact ⟨rfl, rfl, fun k hk j hj => absurd hk (Nat.not_lt_zero _)⟩) | (exact ⟨by omega, by omega, (by show (i + 1) * 16 ≤ _; omega), by omega⟩) | (exact fun k hk j hj => .inr (app_pts (f := rnormV n p) rfl hk hj))
    · trivial
    · intro i hi _
      repeat' ((fail_if_success (with_reducible refine Side.mk ?_)); first | ((fail_if_success (with_reducible refine Rest.mk ?_)); first | (with_reducible exact True.intro) | (with_reducible refine Need.mk ?_ ?_) | (with_reducible refine And.intro ?_ ?_) | (with_reducible intro _) | ((fail_if_success (with_reducible refine FinS.mk ?_)); (fail_if_success (with_reducible refine Le.mk ?_)); (conv => whnf)) | (refine FinS.b ?_) | (refine FinS.lb ?_) | (refine FinS.i ?_) | (refine FinS.f ?_) | (refine FinS.agg ?_) | (refine FinS.tup ?_)))
      all_goals (try (refine Le.of ?_; (conv => whnf)))
      repeat' ((fail_if_success (with_reducible refine Side.mk ?_)); first | ((fail_if_success (with_reducible refine Rest.mk ?_)); first | (with_reducible exact True.intro) | (with_reducible refine Need.mk ?_ ?_) | (with_reducible refine And.intro ?_ ?_) | (with_reducible intro _) | ((fail_if_success (with_reducible refine FinS.mk ?_)); (fail_if_success (with_reducible refine Le.mk ?_)); (conv => whnf)) | (refine FinS.b ?_) | (refine FinS.lb ?_) | (refine FinS.i ?_) | (refine FinS.f ?_) | (refine FinS.agg ?_) | (refine FinS.tup ?_)))
      all_goals (try refine Side.mk ?_)
      all_goals (try simp only [decide_eq_true_eq, decide_eq_false_iff_not, Int.ofNat_lt, Int.ofNat_le, gt_iff_lt, ge_iff_le, true_and, Bool.not_eq_true', Bool.not_eq_false'] at *)
      all_goals first | rfl | trivial | exact fun _ _ => trivial | exact ⟨rfl, rfl⟩ | exact ⟨rfl, fun _ _ => rfl⟩ | exact ⟨rfl, rfl, fun _ _ => rfl⟩ | exact i64_id (by omega) (by omega) | omega | (exact ⟨isPts_pt _ _, by omega, by omega, c0⟩) | (exact FinS.rows 0 ⟨rfl, (nOk_0 hc).symm, fun k hk j hj => congrArg (fun l => getM l j) (rowTo_fin (nOk_0 hc) (by omega) hk)⟩ ⟨⟨rfl, rfl, (nOk_0 hc).symm⟩, ⟨rfl, zeroOf hc⟩, True.intro⟩) | (exact FinS.rows 0 ⟨rfl, (by rw [nOk_0 hc]; omega), fun k hk j hj => rfl⟩ ⟨⟨rfl, rfl, (by rw [nOk_0 hc]; omega)⟩, ⟨rfl, zeroOf hc⟩, True.intro⟩) | (exact ⟨rfl, rfl, fun k hk j hj => absurd hk (Nat.not_lt_zero _)⟩) | (exact ⟨by omega, by omega, (by show (i + 1) * 16 ≤ _; omega), by omega⟩) | (exact fun k hk j hj => .inr (app_pts (f := rnormV n p) rfl hk hj))
  all_goals (try (refine Le.of ?_; (conv => whnf)))
  repeat' ((fail_if_success (with_reducible refine Side.mk ?_)); first | ((fail_if_success (with_reducible refine Rest.mk ?_)); first | (with_reducible exact True.intro) | (with_reducible refine Need.mk ?_ ?_) | (with_reducible refine And.intro ?_ ?_) | (with_reducible intro _) | ((fail_if_success (with_reducible refine FinS.mk ?_)); (fail_if_success (with_reducible refine Le.mk ?_)); (conv => whnf)) | (refine FinS.b ?_) | (refine FinS.lb ?_) | (refine FinS.i ?_) | (refine FinS.f ?_) | (refine FinS.agg ?_) | (refine FinS.tup ?_)))
  all_goals (try refine Side.mk ?_)
  all_goals (try simp only [decide_eq_true_eq, decide_eq_false_iff_not, Int.ofNat_lt, Int.ofNat_le, gt_iff_lt, ge_iff_le, true_and, Bool.not_eq_true', Bool.not_eq_false'] at *)
  all_goals first | rfl | trivial | exact fun _ _ => trivial | exact ⟨rfl, rfl⟩ | exact ⟨rfl, fun _ _ => rfl⟩ | exact ⟨rfl, rfl, fun _ _ => rfl⟩ | exact i64_id (by omega) (by omega) | omega | (exact ⟨isPts_pt _ _, c0⟩) | (exact FinS.rows0 ⟨nOk_1 ‹_›⟩ ⟨⟨nOk_1 ‹_›⟩, ⟨rfl, rfl⟩, True.intro⟩) | (((have hL := rcheck_le ‹_›); exact ⟨by omega, by omega, (by show (16 : Int) * (n : Int) ≤ 140737488355328; omega), by omega⟩))
noncomputable def g66 : List MV → Option (List Prop × MV × List Blk × Bool)
  | [.ro 2 n get] => some ([isPts n get, n < big], .tup [.os 0 2 0 (nOk (rcheckV n (pOf get)) n), .i .i64 (rcheckV n (pOf get))], [.rows 2 (nOk (rcheckV n (pOf get)) n) fun i => ptM (rnormV n (pOf get) i)], true)
  | _ => none
theorem s66 : SumsOK Try.prog (sumOf 66 g66 S54) := by
  refine SumsOK.add S54_ok fun ms ps m blks al e hp => ?_
  unfold g66 at e
  split at e
  · cases e
    exact (le_arg1 (t66 _ (pOf _) (hp _ (.tail _ (.head _)))) (leR_pts (hp _ (.head _))))
  · cases e
noncomputable def S66 := sumOf 66 g66 S54
theorem S66_ok : SumsOK Try.prog S66 := s66
end Go.Ev.Clip
