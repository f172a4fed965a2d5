/-
  The contract of spoil, which writes its list; for lists of at most 2^30 points.
-/
import Derived.Test.YtoilhalmmghhbaaPolyS
set_option linter.unusedSimpArgs false
set_option linter.unusedVariables false
open Go Go.Proofs
namespace Go.Ev.Poly
set_option maxRecDepth 100000
set_option maxHeartbeats 1000000
noncomputable def fi14 : FnI := ⟨28, Try.f14.body.getD .skip, [], true⟩
theorem fi14_ok : fnGen Try.prog 14 = some fi14 := by kernel_rfl
theorem w14 : CWf Try.prog 14 [2] (.tup []) := by
  refine ⟨rfl, fun l hl hle => ?_⟩
  obtain ⟨⟨n, gg⟩, rfl⟩ := List.length_eq_one_iff.1 hl
  have hn : n ≤ 13000000000000 := hle (n, gg) (by simp)
  clear hl hle
  refine CW.of_genQ (exts := exts) (eqs := eqs) (inl := []) (sum := S28) extsOK eqsOK S28_ok fi14_ok rfl 6 rfl fun cx => ?_
  repeat' ((fail_if_success (with_reducible refine Side.mk ?_)); first | ((fail_if_success (with_reducible refine Rest.mk ?_)); first | (with_reducible exact True.intro) | (with_reducible refine Need.mk ?_ ?_) | (with_reducible refine And.intro ?_ ?_) | (with_reducible intro _) | ((fail_if_success (with_reducible refine FinS.mk ?_)); (conv => whnf)) | (refine FinS.b ?_) | (refine FinS.lb ?_) | (refine FinS.i ?_) | (refine FinS.f ?_) | (refine FinS.agg ?_) | (refine FinS.tup ?_)))
  refine loop_rule (genQ_full extsOK eqsOK S28_ok) 6 (fun i => ⟨[(2, .i .i64 (i : Int)), (0, .os 0 2 0 n)], [], [(0, .rows 2 n fun _ => [])], 1⟩) n ?_ ?_
  · conv => whnf
    repeat' ((fail_if_success (with_reducible refine Side.mk ?_)); first | ((fail_if_success (with_reducible refine Rest.mk ?_)); first | (with_reducible exact True.intro) | (with_reducible refine Need.mk ?_ ?_) | (with_reducible refine And.intro ?_ ?_) | (with_reducible intro _) | ((fail_if_success (with_reducible refine FinS.mk ?_)); (conv => whnf)) | (refine FinS.b ?_) | (refine FinS.lb ?_) | (refine FinS.i ?_) | (refine FinS.f ?_) | (refine FinS.agg ?_) | (refine FinS.tup ?_)))
    all_goals (try refine Side.mk ?_)
    all_goals (try simp only [decide_eq_true_eq, decide_eq_false_iff_not, Int.ofNat_lt, true_and] at *)
    all_goals first | omega | (exact fun _ _ _ _ => .inl rfl) | (exact ⟨by omega, fun _ _ _ _ => .inl rfl⟩) | (exact ⟨trivial, fun _ _ _ _ => .inl rfl⟩) | (exact i64_id (by omega) (by omega)) | rfl | trivial | (intros; rfl) | (intros; trivial) | decide
  · intro i hi
    repeat' ((fail_if_success (with_reducible refine Side.mk ?_)); first | ((fail_if_success (with_reducible refine Rest.mk ?_)); first | (with_reducible exact True.intro) | (with_reducible refine Need.mk ?_ ?_) | (with_reducible refine And.intro ?_ ?_) | (with_reducible intro _) | ((fail_if_success (with_reducible refine FinS.mk ?_)); (conv => whnf)) | (refine FinS.b ?_) | (refine FinS.lb ?_) | (refine FinS.i ?_) | (refine FinS.f ?_) | (refine FinS.agg ?_) | (refine FinS.tup ?_)))
    rotate_right
    · refine loop_rule (genQ_full extsOK eqsOK S28_ok) 6 (fun i => ⟨[(3, .i .i64 (i : Int)), (0, .os 0 2 0 (n + i))], [], [(0, .rows 2 (n + i) fun _ => [])], 1⟩) 5 ?_ ?_
      · conv => whnf
        repeat' ((fail_if_success (with_reducible refine Side.mk ?_)); first | ((fail_if_success (with_reducible refine Rest.mk ?_)); first | (with_reducible exact True.intro) | (with_reducible refine Need.mk ?_ ?_) | (with_reducible refine And.intro ?_ ?_) | (with_reducible intro _) | ((fail_if_success (with_reducible refine FinS.mk ?_)); (conv => whnf)) | (refine FinS.b ?_) | (refine FinS.lb ?_) | (refine FinS.i ?_) | (refine FinS.f ?_) | (refine FinS.agg ?_) | (refine FinS.tup ?_)))
        all_goals (try refine Side.mk ?_)
        all_goals (try simp only [decide_eq_true_eq, decide_eq_false_iff_not, Int.ofNat_lt, true_and] at *)
        all_goals first | omega | (exact fun _ _ _ _ => .inl rfl) | (exact ⟨by omega, fun _ _ _ _ => .inl rfl⟩) | (exact ⟨trivial, fun _ _ _ _ => .inl rfl⟩) | (exact i64_id (by omega) (by omega)) | rfl | trivial | (intros; rfl) | (intros; trivial) | decide
      · intro k hk
        repeat' ((fail_if_success (with_reducible refine Side.mk ?_)); first | ((fail_if_success (with_reducible refine Rest.mk ?_)); first | (with_reducible exact True.intro) | (with_reducible refine Need.mk ?_ ?_) | (with_reducible refine And.intro ?_ ?_) | (with_reducible intro _) | ((fail_if_success (with_reducible refine FinS.mk ?_)); (conv => whnf)) | (refine FinS.b ?_) | (refine FinS.lb ?_) | (refine FinS.i ?_) | (refine FinS.f ?_) | (refine FinS.agg ?_) | (refine FinS.tup ?_)))
        all_goals (try refine Side.mk ?_)
        all_goals (try simp only [decide_eq_true_eq, decide_eq_false_iff_not, Int.ofNat_lt, true_and] at *)
        all_goals first | omega | (exact fun _ _ _ _ => .inl rfl) | (exact ⟨by omega, fun _ _ _ _ => .inl rfl⟩) | (exact ⟨trivial, fun _ _ _ _ => .inl rfl⟩) | (exact i64_id (by omega) (by omega)) | (exact ⟨by omega, by omega, (by show (n + k + 1) * 16 ≤ _; omega), by omega⟩) | rfl | trivial | (intros; rfl) | (intros; trivial) | decide
    all_goals (try refine Side.mk ?_)
    all_goals (try simp only [decide_eq_true_eq, decide_eq_false_iff_not, Int.ofNat_lt, true_and] at *)
    all_goals first | omega | (exact fun _ _ _ _ => .inl rfl) | (exact ⟨by omega, fun _ _ _ _ => .inl rfl⟩) | (exact ⟨trivial, fun _ _ _ _ => .inl rfl⟩) | (exact i64_id (by omega) (by omega)) | rfl | trivial | (intros; rfl) | (intros; trivial) | decide
def W14 : FuncId → Option (List Nat × MV) := fun f => match Nat.beq 14 f with
  | true => some ([2], .tup [])
  | false => none
theorem W14_ok : WOK Try.prog W14 := by
  intro f szs m h
  unfold W14 at h
  split at h
  · rename_i e; have := Nat.eq_of_beq_eq_true e; subst this; cases h; exact w14
  · cases h
end Go.Ev.Poly
