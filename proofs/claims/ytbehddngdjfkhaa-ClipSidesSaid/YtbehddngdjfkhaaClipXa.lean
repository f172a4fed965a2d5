/-
  The contracts of greatest, in and Polygon; for lists below 2^62 points.
-/
import Derived.Test.YtbehddngdjfkhaaClipKb
import Derived.Test.YtbehddngdjfkhaaClipU
import Derived.Test.YtbehddngdjfkhaaClipAw
import Derived.Test.YtbehddngdjfkhaaEvF
import Derived.Test.YtbehddngdjfkhaaEvL
set_option linter.unusedSimpArgs false
set_option linter.unusedVariables false
open Go Go.Proofs
namespace Go.Ev.Clip
set_option maxRecDepth 100000
set_option maxHeartbeats 1000000
noncomputable def g8X : List MV → Option (List Prop × MV × List Blk × Bool)
  | [.agg [.f .f64 nx, .f .f64 ny, .f .f64 pf], .agg [.f .f64 a1, .f .f64 a2]] => some ([], .tup [.f .f64 (farV nx ny pf a1 a2), .i .i64 (ask1 nx ny pf a1 a2)], [], false)
  | _ => none
theorem s8X : SumsOK Try.prog (sumOf 8 g8X S46) := by
  refine SumsOK.add S46_ok fun ms ps m blks al e hp => ?_
  unfold g8X at e
  split at e
  · cases e; exact (t8 _ _ _ _ _).aloneT rfl
  · cases e
noncomputable def S8X := sumOf 8 g8X S46
theorem S8X_ok : SumsOK Try.prog S8X := s8X
noncomputable def g7X : List MV → Option (List Prop × MV × List Blk × Bool)
  | [] => some ([], .b true, [], false)
  | _ => none
theorem s7X : SumsOK Try.prog (sumOf 7 g7X S8X) := by
  refine SumsOK.add S8X_ok fun ms ps m blks al e hp => ?_
  unfold g7X at e
  split at e
  · cases e; exact C.t7.aloneT rfl
  · cases e
noncomputable def S7X := sumOf 7 g7X S8X
theorem S7X_ok : SumsOK Try.prog S7X := s7X
noncomputable def fi23 : FnI := ⟨30, Try.f23.body.getD .skip, [.tmp 6], true⟩
theorem fi23_ok : fnGen Try.prog 23 = some fi23 := by kernel_rfl
theorem t23 (nx ny pf : Nat) (a1 a2 : Nat) (M : Nat) : CM Try.prog 23 [.agg [.f .f64 nx, .f .f64 ny, .f .f64 pf], .agg [.f .f64 a1, .f .f64 a2], .f .f64 M] (.b (fle .f64 (bey nx ny pf a1 a2) (fmul .f64 4436045632959938560 M))) [] true := by
  refine CM.of_genQ (exts := exts) (eqs := eqs) (inl := []) (sum := S7X) extsOK eqsOK S7X_ok fi23_ok 6 rfl fun cx => ?_
  repeat' ((fail_if_success (with_reducible refine Side.mk ?_)); first | ((fail_if_success (with_reducible refine Rest.mk ?_)); first | (with_reducible exact True.intro) | (with_reducible refine Need.mk ?_ ?_) | (with_reducible refine And.intro ?_ ?_) | (with_reducible intro _) | ((fail_if_success (with_reducible refine FinS.mk ?_)); (fail_if_success (with_reducible refine Le.mk ?_)); (conv => whnf)) | (refine FinS.b ?_) | (refine FinS.lb ?_) | (refine FinS.i ?_) | (refine FinS.f ?_) | (refine FinS.agg ?_) | (refine FinS.tup ?_)))
  all_goals first | (refine Side.mk ?_; with_reducible rfl) | exact ⟨rfl⟩
noncomputable def g23X : List MV → Option (List Prop × MV × List Blk × Bool)
  | [.agg [.f .f64 nx, .f .f64 ny, .f .f64 pf], .agg [.f .f64 a1, .f .f64 a2], .f .f64 M] => some ([], .b (fle .f64 (bey nx ny pf a1 a2) (fmul .f64 4436045632959938560 M)), [], false)
  | _ => none
theorem s23X : SumsOK Try.prog (sumOf 23 g23X S7X) := by
  refine SumsOK.add S7X_ok fun ms ps m blks al e hp => ?_
  unfold g23X at e
  split at e
  · cases e; exact (t23 _ _ _ _ _ _).aloneT rfl
  · cases e
noncomputable def S23X := sumOf 23 g23X S7X
theorem S23X_ok : SumsOK Try.prog S23X := s23X
theorem grt_up (p : Nat → Nat × Nat) (M i : Nat) : fmx .f64 (fmx .f64 (grt p M i) (fabs (p i).1)) (fabs (p i).2) = grt p M (i + 1) := rfl
noncomputable def fi21 : FnI := ⟨27, Try.f21.body.getD .skip, [.tmp 4], true⟩
theorem fi21_ok : fnGen Try.prog 21 = some fi21 := by kernel_rfl
theorem zHS23X_X1 {cx : Cx} : CallH (genQ Try.prog exts eqs [] S23X).P cx (hnd (genQ Try.prog exts eqs [] S23X) cx 6) := hnd_sound (genQ_full extsOK eqsOK S23X_ok) 6
theorem zES23X_X1 : EnvAll (genQ Try.prog exts eqs [] S23X) := (genQ_full extsOK eqsOK S23X_ok).toEnvAll
theorem t21 (n : Nat) (p : Nat → Nat × Nat) (M : Nat) (c0 : n < big): CM Try.prog 21 [.ro 2 n (fun j => ptM (p j)), .f .f64 M] (.f .f64 (grt p M n)) [] true := by
  refine CM.of_genQ (exts := exts) (eqs := eqs) (inl := []) (sum := S23X) extsOK eqsOK S23X_ok fi21_ok 6 rfl fun cx => ?_
  have k0 : n < 4611686018427387904 := c0
  repeat' ((fail_if_success (with_reducible refine Side.mk ?_)); first | (refine Rest.mk (drawR_sound zES23X_X1 mixOK zHS23X_X1 ?_)) | ((fail_if_success (with_reducible refine Rest.mk ?_)); first | (with_reducible exact True.intro) | (with_reducible refine Need.mk ?_ ?_) | (with_reducible refine And.intro ?_ ?_) | (with_reducible intro _) | ((fail_if_success (with_reducible refine FinS.mk ?_)); (fail_if_success (with_reducible refine Le.mk ?_)); (conv => whnf)) | (refine FinS.b ?_) | (refine FinS.lb ?_) | (refine FinS.i ?_) | (refine FinS.f ?_) | (refine FinS.agg ?_) | (refine FinS.tup ?_)))
  refine loop_ruleC zES23X_X1 zHS23X_X1 (fun i => ⟨[(0, .ro 2 n (fun j => ptM (p j))), (1, .f .f64 (grt p M i)), (5, .i .i64 (i : Int))], [], [], 0⟩) (fun i => True) (n) (Le.of ?_) ?_ ?_
  · conv => whnf
    repeat' ((fail_if_success (with_reducible refine Side.mk ?_)); first | (refine Rest.mk (drawR_sound zES23X_X1 mixOK zHS23X_X1 ?_)) | ((fail_if_success (with_reducible refine Rest.mk ?_)); first | (with_reducible exact True.intro) | (with_reducible refine Need.mk ?_ ?_) | (with_reducible refine And.intro ?_ ?_) | (with_reducible intro _) | ((fail_if_success (with_reducible refine FinS.mk ?_)); (fail_if_success (with_reducible refine Le.mk ?_)); (conv => whnf)) | (refine FinS.b ?_) | (refine FinS.lb ?_) | (refine FinS.i ?_) | (refine FinS.f ?_) | (refine FinS.agg ?_) | (refine FinS.tup ?_)))
    all_goals (try (refine Le.of ?_; (conv => whnf)))
    repeat' ((fail_if_success (with_reducible refine Side.mk ?_)); first | (refine Rest.mk (drawR_sound zES23X_X1 mixOK zHS23X_X1 ?_)) | ((fail_if_success (with_reducible refine Rest.mk ?_)); first | (with_reducible exact True.intro) | (with_reducible refine Need.mk ?_ ?_) | (with_reducible refine And.intro ?_ ?_) | (with_reducible intro _) | ((fail_if_success (with_reducible refine FinS.mk ?_)); (fail_if_success (with_reducible refine Le.mk ?_)); (conv => whnf)) | (refine FinS.b ?_) | (refine FinS.lb ?_) | (refine FinS.i ?_) | (refine FinS.f ?_) | (refine FinS.agg ?_) | (refine FinS.tup ?_)))
    all_goals (try refine Side.mk ?_)
    all_goals (try simp only [decide_eq_true_eq, decide_eq_false_iff_not, Int.ofNat_lt, Int.ofNat_le, gt_iff_lt, ge_iff_le, true_and, Bool.not_eq_true', Bool.not_eq_false'] at *)
    all_goals first | rfl | trivial | exact fun _ _ => trivial | exact ⟨rfl, rfl⟩ | exact ⟨rfl, fun _ _ => rfl⟩ | exact ⟨rfl, rfl, fun _ _ => rfl⟩ | exact i64_id (by omega) (by omega) | omega
  · trivial
  · intro i hi _
    repeat' ((fail_if_success (with_reducible refine Side.mk ?_)); first | (refine Rest.mk (drawR_sound zES23X_X1 mixOK zHS23X_X1 ?_)) | ((fail_if_success (with_reducible refine Rest.mk ?_)); first | (with_reducible exact True.intro) | (with_reducible refine Need.mk ?_ ?_) | (with_reducible refine And.intro ?_ ?_) | (with_reducible intro _) | ((fail_if_success (with_reducible refine FinS.mk ?_)); (fail_if_success (with_reducible refine Le.mk ?_)); (conv => whnf)) | (refine FinS.b ?_) | (refine FinS.lb ?_) | (refine FinS.i ?_) | (refine FinS.f ?_) | (refine FinS.agg ?_) | (refine FinS.tup ?_)))
    all_goals (try (refine Le.of ?_; (conv => whnf)))
    repeat' ((fail_if_success (with_reducible refine Side.mk ?_)); first | (refine Rest.mk (drawR_sound zES23X_X1 mixOK zHS23X_X1 ?_)) | ((fail_if_success (with_reducible refine Rest.mk ?_)); first | (with_reducible exact True.intro) | (with_reducible refine Need.mk ?_ ?_) | (with_reducible refine And.intro ?_ ?_) | (with_reducible intro _) | ((fail_if_success (with_reducible refine FinS.mk ?_)); (fail_if_success (with_reducible refine Le.mk ?_)); (conv => whnf)) | (refine FinS.b ?_) | (refine FinS.lb ?_) | (refine FinS.i ?_) | (refine FinS.f ?_) | (refine FinS.agg ?_) | (refine FinS.tup ?_)))
    all_goals (try refine Side.mk ?_)
    all_goals (try simp only [decide_eq_true_eq, decide_eq_false_iff_not, Int.ofNat_lt, Int.ofNat_le, gt_iff_lt, ge_iff_le, true_and, Bool.not_eq_true', Bool.not_eq_false', Int.toNat_natCast, Nat.zero_add] at *)
    all_goals first | (with_reducible rfl) | (with_reducible trivial) | exact fun _ _ => trivial | omega | (with_reducible exact grt_up _ _ _) | exact i64_id (by omega) (by omega) | exact ⟨by omega, trivial⟩ | (rename_i hi hlt; (have e : i = n := by omega); subst e; with_reducible rfl)
noncomputable def g21X : List MV → Option (List Prop × MV × List Blk × Bool)
  | [.ro 2 n get, .f .f64 M] => some ([isPts n get, n < big], .f .f64 (grt (pOf get) M n), [], false)
  | _ => none
theorem s21X : SumsOK Try.prog (sumOf 21 g21X S23X) := by
  refine SumsOK.add S23X_ok fun ms ps m blks al e hp => ?_
  unfold g21X at e
  split at e
  · cases e
    exact (le_arg1 (t21 _ (pOf _) _ (hp _ (.tail _ (.head _)))) (leR_pts (hp _ (.head _)))).aloneT rfl
  · cases e
noncomputable def S21X := sumOf 21 g21X S23X
theorem S21X_ok : SumsOK Try.prog S21X := s21X
end Go.Ev.Clip
