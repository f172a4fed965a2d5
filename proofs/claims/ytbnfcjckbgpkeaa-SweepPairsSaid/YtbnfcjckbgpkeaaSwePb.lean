/-
  The walk of the law; for lists of at most 4398046511103 boxes.
-/
import Derived.Test.YtbnfcjckbgpkeaaSwePa
set_option linter.unusedSimpArgs false
set_option linter.unusedVariables false
open Go Go.Proofs
namespace Go.Ev.Sweep
set_option maxRecDepth 100000
set_option maxHeartbeats 1000000
open Go.Ev.So
theorem p_lim (p : Nat → Bx) (n : Nat) : pNr p n ≤ lim := Nat.le_trans (pN_le p n) (by decide)
theorem p_w (p : Nat → Bx) (n : Nat) : pNr p n ≤ wLe := Nat.le_trans (pN_le p n) (by decide)
noncomputable def g21c : List MV → Option (List Prop × MV × List Blk × Bool)
  | [.ro 4 n get] => some ([isBx n get, n ≤ room], .tup [.os 0 2 0 (pNr (cl n (bOf get)) n), .i .i64 (pEr (cl n (bOf get)) n)], [.rows 2 (pNr (cl n (bOf get)) n) (rowI2 (pG (cl n (bOf get)) n))], false)
  | _ => none
theorem s21c : SumsOK Try.prog (sumOf 21 g21c S20c) := by
  refine SumsOK.add S20c_ok fun ms ps m blks al e hp => ?_
  unfold g21c at e
  split at e
  · cases e
    exact (le_arg1 (t21 _ (cl _ (bOf _)) (hp _ (.tail _ (.head _)))) (leR_cl (hp _ (.head _)))).aloneR rfl (fun i hi j hj => flat_P hj)
  · cases e
noncomputable def S21c := sumOf 21 g21c S20c
theorem S21c_ok : SumsOK Try.prog S21c := s21c
noncomputable def fi5 : FnI := ⟨61, Try.f5.body.getD .skip, [.tmp 2], true⟩
theorem fi5_ok : fnGen Try.prog 5 = some fi5 := by kernel_rfl
set_option maxHeartbeats 4000000 in
theorem zHS21c_Pb {cx : Cx} : CallH (genQ Try.prog exts eqs [] S21c).P cx (hnd (genQ Try.prog exts eqs [] S21c) cx 6) := hnd_sound (genQ_full extsOK eqsOK S21c_ok) 6
theorem zES21c_Pb : EnvAll (genQ Try.prog exts eqs [] S21c) := (genQ_full extsOK eqsOK S21c_ok).toEnvAll
theorem t5 (n : Nat) (p : Nat → Bx) (c0 : n ≤ room) : CM Try.prog 5 [.ro 4 n (fun j => bM (p j))] (.b true) [] true := by
  refine CM.of_code zES21c_Pb (fnGen_ok fi5_ok) rfl fun w0 okA => ?_
  refine evC_sound (genQ_full extsOK eqsOK S21c_ok).toEnvAll (hndX_sound X19_ok zHS21c_Pb) ?_
  have k0 : n ≤ 4398046511103 := c0
  repeat' ((fail_if_success (with_reducible refine Side.mk ?_)); first | ((fail_if_success (with_reducible refine Rest.mk ?_)); first | (with_reducible exact True.intro) | (with_reducible refine Need.mk ?_ ?_) | (with_reducible refine And.intro ?_ ?_) | (with_reducible intro hcl; try (exfalso; ((simp at hcl; done)); done)) | ((fail_if_success (with_reducible refine FinS.mk ?_)); (fail_if_success (with_reducible refine Le.mk ?_)); (conv => whnf)) | (refine FinS.b ?_) | (refine FinS.lb ?_) | (refine FinS.i ?_) | (refine FinS.f ?_) | (refine FinS.agg ?_) | (refine FinS.tup ?_)))
  all_goals (try (refine Le.of ?_; (conv => whnf)))
  repeat' ((fail_if_success (with_reducible refine Side.mk ?_)); first | ((fail_if_success (with_reducible refine Rest.mk ?_)); first | (with_reducible exact True.intro) | (with_reducible refine Need.mk ?_ ?_) | (with_reducible refine And.intro ?_ ?_) | (with_reducible intro _) | ((fail_if_success (with_reducible refine FinS.mk ?_)); (fail_if_success (with_reducible refine Le.mk ?_)); (conv => whnf)) | (refine FinS.b ?_) | (refine FinS.lb ?_) | (refine FinS.i ?_) | (refine FinS.f ?_) | (refine FinS.agg ?_) | (refine FinS.tup ?_)))
  all_goals (try refine Side.mk ?_)
  all_goals (try simp only [Int.toNat_natCast, Nat.zero_add, bOf_b, cl_lent, Option.getD_none, Option.getD_some, prO_row, prO_gP, pE_eq, beq_self_eq_true] at *)
  all_goals (try simp only [eq_self, decide_eq_true_eq, decide_eq_false_iff_not, Int.ofNat_lt, Int.ofNat_le, gt_iff_lt, ge_iff_le, true_and, Bool.not_eq_true', Bool.not_eq_false'] at *)
  all_goals first | (with_reducible rfl) | trivial | omega | rfl | exact fun _ _ => trivial | exact ⟨rfl, rfl⟩ | exact ⟨rfl, fun _ _ => rfl⟩ | exact ⟨rfl, rfl, fun _ _ => rfl⟩ | (exact ⟨isBx_b _ _, c0⟩) | (exact ⟨isBx_b _ _, by omega⟩) | (exact ⟨isPr_row _ _, isPr_row _ _, (pN_eq (cl n p) n).symm, p_lim (cl n p) n, fun k hk => pG_get hk⟩) | (exact fun _ => ⟨isPr_row _ _, isPr_row _ _, (pN_eq (cl n p) n).symm, p_lim (cl n p) n, fun k hk => pG_get hk⟩) | (exact ⟨isPr_row _ _, isPr_row _ _, (pN_eq (cl n p) n).symm, p_lim (cl n p) n, fun k hk => pG_get hk, Nat.le_refl _⟩) | (exact fun _ => ⟨isPr_row _ _, isPr_row _ _, (pN_eq (cl n p) n).symm, p_lim (cl n p) n, fun k hk => pG_get hk, Nat.le_refl _⟩) | (exact ⟨isPr_row _ _, isPr_row _ _, (pN_eq (cl n p) n).symm, p_lim (cl n p) n, fun k hk => pG_get hk, Nat.le_refl _, Nat.le_refl _⟩) | (exact fun _ => ⟨isPr_row _ _, isPr_row _ _, (pN_eq (cl n p) n).symm, p_lim (cl n p) n, fun k hk => pG_get hk, Nat.le_refl _, Nat.le_refl _⟩) | (exact ⟨isBx_b _ _, isBx_b _ _, trivial, c0, fun k hk => lent_lo hk, lent_0, Nat.le_refl _⟩) | (exact fun _ => ⟨isBx_b _ _, isBx_b _ _, trivial, c0, fun k hk => lent_lo hk, lent_0, Nat.le_refl _⟩) | (exact ⟨isBx_b _ _, isBx_b _ _, rfl, c0, fun k hk => lent_lo hk, lent_0, Nat.le_refl _⟩) | (exact fun _ => ⟨isBx_b _ _, isBx_b _ _, rfl, c0, fun k hk => lent_lo hk, lent_0, Nat.le_refl _⟩) | (exact ⟨isBx_b _ _, isBx_b _ _, c0, fun k hk => lent_lo hk, lent_0, Nat.le_refl _⟩) | (exact fun _ => ⟨isBx_b _ _, isBx_b _ _, c0, fun k hk => lent_lo hk, lent_0, Nat.le_refl _⟩) | (exact ⟨isPr_row _ _, isPr_row _ _, ⟨Nat.le_refl _, p_w _ _⟩, ⟨Nat.le_refl _, p_w _ _⟩⟩) | (exact fun _ => ⟨isPr_row _ _, isPr_row _ _, ⟨Nat.le_refl _, p_w _ _⟩, ⟨Nat.le_refl _, p_w _ _⟩⟩) | (exact ⟨isPr_row _ _, isPr_row _ _, ⟨Nat.le_refl _, p_w _ _⟩, Nat.le_refl _, p_w _ _⟩) | (exact fun _ => ⟨isPr_row _ _, isPr_row _ _, ⟨Nat.le_refl _, p_w _ _⟩, Nat.le_refl _, p_w _ _⟩)
end Go.Ev.Sweep
