/-
  The contract of lent; for lists of at most 8796093022206 points.
-/
import Derived.Test.YtbehddngdjfkhaaClipKb
import Derived.Test.YtbehddngdjfkhaaClipD
set_option linter.unusedSimpArgs false
set_option linter.unusedVariables false
open Go Go.Proofs
namespace Go.Ev.Clip
set_option maxRecDepth 100000
set_option maxHeartbeats 1000000
def lentV (n : Nat) (p : Nat → Nat × Nat) (i : Nat) : Nat × Nat := bif Nat.blt i n then p i else (4635118810238550016, 0)
def room : Nat := 8700000000000
theorem lent_lo {n i : Nat} {p : Nat → Nat × Nat} (h : i < n) : lentV n p i = p i := by unfold lentV; rw [blt_t h]; rfl
theorem lent_0 {n : Nat} {p : Nat → Nat × Nat} : lentV n p n = (4635118810238550016, 0) := by unfold lentV; rw [blt_f (Nat.le_refl n)]; rfl
theorem lent_get {n k j : Nat} {p : Nat → Nat × Nat} {X : Nat → List MV} {t0 : List MV} (h0 : X 0 = .f .f64 4635118810238550016 :: .f .f64 0 :: t0) (hk : k < n + 1) (hj : j < 2) :
    getM (appGet n (fun j => ptM (p j)) X k) j = getM (ptM (lentV n p k)) j := by
  unfold appGet
  rw [show k - n = 0 by omega, h0]
  have hj : j = 0 ∨ j = 1 := by omega
  rcases Nat.lt_or_eq_of_le (Nat.le_of_lt_succ hk) with h | h
  · rw [blt_t h, lent_lo h]; rcases hj with rfl | rfl <;> rfl
  · subst h; rw [blt_f (Nat.le_refl _), lent_0]; rcases hj with rfl | rfl <;> rfl
noncomputable def fi17 : FnI := ⟨15, Try.f17.body.getD .skip, [.tmp 2], true⟩
theorem fi17_ok : fnGen Try.prog 17 = some fi17 := by kernel_rfl
theorem t17 (n : Nat) (p : Nat → Nat × Nat) (c0 : n ≤ 8796093022206): CM Try.prog 17 [.ro 2 n (fun j => ptM (p j))] (.oc 0 2 n (n + 1)) [.rows 2 (n + 1) fun i => ptM (lentV n p i)] true := by
  refine CM.of_genQ (exts := exts) (eqs := eqs) (inl := []) (sum := S46) extsOK eqsOK S46_ok fi17_ok 6 rfl fun cx => ?_
  repeat' ((fail_if_success (with_reducible refine Side.mk ?_)); first | ((fail_if_success (with_reducible refine Rest.mk ?_)); first | (with_reducible exact True.intro) | (with_reducible refine Need.mk ?_ ?_) | (with_reducible refine And.intro ?_ ?_) | (with_reducible intro _) | ((fail_if_success (with_reducible refine FinS.mk ?_)); (fail_if_success (with_reducible refine Le.mk ?_)); (conv => whnf)) | (refine FinS.b ?_) | (refine FinS.lb ?_) | (refine FinS.i ?_) | (refine FinS.f ?_) | (refine FinS.agg ?_) | (refine FinS.tup ?_)))
  all_goals (try (refine Le.of ?_; (conv => whnf)))
  repeat' ((fail_if_success (with_reducible refine Side.mk ?_)); first | ((fail_if_success (with_reducible refine Rest.mk ?_)); first | (with_reducible exact True.intro) | (with_reducible refine Need.mk ?_ ?_) | (with_reducible refine And.intro ?_ ?_) | (with_reducible intro _) | ((fail_if_success (with_reducible refine FinS.mk ?_)); (fail_if_success (with_reducible refine Le.mk ?_)); (conv => whnf)) | (refine FinS.b ?_) | (refine FinS.lb ?_) | (refine FinS.i ?_) | (refine FinS.f ?_) | (refine FinS.agg ?_) | (refine FinS.tup ?_)))
  all_goals (try refine Side.mk ?_)
  all_goals (try simp only [pOf_pt, eq_self, decide_eq_true_eq, decide_eq_false_iff_not, Int.ofNat_lt, Int.ofNat_le, gt_iff_lt, ge_iff_le, true_and, Bool.not_eq_true', Bool.not_eq_false'] at *)
  all_goals first | (with_reducible rfl) | trivial | omega | rfl | exact fun _ _ => trivial | exact ⟨rfl, rfl⟩ | exact ⟨rfl, fun _ _ => rfl⟩ | exact ⟨rfl, rfl, fun _ _ => rfl⟩ | exact ⟨by omega, trivial⟩ | exact i64_id (by omega) (by omega) | (exact ⟨by show n * 16 ≤ _; omega, by omega⟩) | (exact ⟨by omega, by omega, by show (n + 1) * 16 ≤ _; omega, by omega⟩) | ((show 0 ≤ (0 : Int) ∧ (0 : Int) ≤ (n : Int) ∧ (n : Int) ≤ ((n + 1 : Nat) : Int) ∧ ((n + 1 : Nat) : Int) ≤ ((n + 1 : Nat) : Int); omega)) | (exact FinS.rows 0 ⟨rfl, rfl, fun k hk j hj => lent_get (t0 := []) rfl hk hj⟩ ⟨rfl, rfl, rfl⟩)
noncomputable def g17 : List MV → Option (List Prop × MV × List Blk × Bool)
  | [.ro 2 n get] => some ([isPts n get, n ≤ 8796093022206], .oc 0 2 n (n + 1), [.rows 2 (n + 1) fun i => ptM (lentV n (pOf get) i)], true)
  | _ => none
theorem s17 : SumsOK Try.prog (sumOf 17 g17 S46) := by
  refine SumsOK.add S46_ok fun ms ps m blks al e hp => ?_
  unfold g17 at e
  split at e
  · cases e
    exact (le_arg1 (t17 _ (pOf _) (hp _ (.tail _ (.head _)))) (leR_pts (hp _ (.head _))))
  · cases e
noncomputable def S17 := sumOf 17 g17 S46
theorem S17_ok : SumsOK Try.prog S17 := s17
end Go.Ev.Clip
