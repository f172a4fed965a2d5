/-
  The contracts of both Areas, Centres, Has and Far; for lists below 2^62 points, for all floats.
-/
import Derived.Test.YtoilhalmmghhbaaPolyXa
set_option linter.unusedSimpArgs false
set_option linter.unusedVariables false
open Go Go.Proofs
namespace Go.Ev.Poly
set_option maxRecDepth 100000
set_option maxHeartbeats 1000000
def areaE (n : Nat) (p : Nat → Nat × Nat) : Int := bif checkV n p != 0 then checkV n p else bif fgt .f64 (smV p (n - 2)) 0 then 0 else 61
def areaR (n : Nat) (p : Nat → Nat × Nat) : Nat := bif areaE n p != 0 then 0 else fmul .f64 (smV p (n - 2)) 4602678819172646912
def cenR (n : Nat) (p : Nat → Nat × Nat) : Nat × Nat := bif areaE n p != 0 then (0, 0) else (fadd .f64 (p 0).1 (fdiv .f64 (mmV p (n - 2)).1 (fmul .f64 4613937818241073152 (smV p (n - 2)))), fadd .f64 (p 0).2 (fdiv .f64 (mmV p (n - 2)).2 (fmul .f64 4613937818241073152 (smV p (n - 2)))))
def hasE (n : Nat) (p : Nat → Nat × Nat) (a1 a2 : Nat) : Int := bif checkV n p != 0 then checkV n p else bif (nw a1 4787326403894837248 && nw a2 4787326403894837248) then 0 else 5
def hasV (n : Nat) (p : Nat → Nat × Nat) (a1 a2 : Nat) : Bool := bif hasE n p a1 a2 != 0 then false else (List.range n).all fun i => !flt .f64 (crsV (wayV n p i) (subV (a1, a2) (p i))) 0
theorem areaE_1 {n : Nat} {p : Nat → Nat × Nat} (h : (checkV n p != 0) = true) : areaE n p = checkV n p := by unfold areaE; rw [h]; rfl
theorem areaE_2 {n : Nat} {p : Nat → Nat × Nat} (h : (checkV n p != 0) = false) (g : fgt .f64 (smV p (n - 2)) 0 = false) : areaE n p = 61 := by unfold areaE; rw [h, g]; rfl
theorem areaE_3 {n : Nat} {p : Nat → Nat × Nat} (h : (checkV n p != 0) = false) (g : fgt .f64 (smV p (n - 2)) 0 = true) : areaE n p = 0 := by unfold areaE; rw [h, g]; rfl
theorem areaR_1 {n : Nat} {p : Nat → Nat × Nat} (h : (areaE n p != 0) = true) : areaR n p = 0 := by unfold areaR; rw [h]; rfl
theorem areaR_0 {n : Nat} {p : Nat → Nat × Nat} (h : areaE n p = 0) : areaR n p = fmul .f64 (smV p (n - 2)) 4602678819172646912 := by unfold areaR; rw [h]; rfl
theorem cenR_1 {n : Nat} {p : Nat → Nat × Nat} (h : (areaE n p != 0) = true) : cenR n p = (0, 0) := by unfold cenR; rw [h]; rfl
theorem cenR_0 {n : Nat} {p : Nat → Nat × Nat} (h : areaE n p = 0) : cenR n p = (fadd .f64 (p 0).1 (fdiv .f64 (mmV p (n - 2)).1 (fmul .f64 4613937818241073152 (smV p (n - 2)))), fadd .f64 (p 0).2 (fdiv .f64 (mmV p (n - 2)).2 (fmul .f64 4613937818241073152 (smV p (n - 2))))) := by unfold cenR; rw [h]; rfl
theorem areaE_ge {n : Nat} {p : Nat → Nat × Nat} (h : (areaE n p != 0) = false) : 3 ≤ n := by
  cases e : (checkV n p != 0)
  · exact check_ge e
  · rw [areaE_1 e, e] at h; cases h
theorem hasE_1 {n a1 a2 : Nat} {p : Nat → Nat × Nat} (h : (checkV n p != 0) = true) : hasE n p a1 a2 = checkV n p := by unfold hasE; rw [h]; rfl
theorem hasE_2 {n a1 a2 : Nat} {p : Nat → Nat × Nat} (h : (checkV n p != 0) = false) (g : (nw a1 4787326403894837248 && nw a2 4787326403894837248) = false) : hasE n p a1 a2 = 5 := by unfold hasE; rw [h, g]; rfl
theorem hasE_3 {n a1 a2 : Nat} {p : Nat → Nat × Nat} (h : (checkV n p != 0) = false) (g : (nw a1 4787326403894837248 && nw a2 4787326403894837248) = true) : hasE n p a1 a2 = 0 := by unfold hasE; rw [h, g]; rfl
theorem hasV_1 {n a1 a2 : Nat} {p : Nat → Nat × Nat} (h : (hasE n p a1 a2 != 0) = true) : hasV n p a1 a2 = false := by unfold hasV; rw [h]; rfl
theorem hasV_f {n a1 a2 i : Nat} {p : Nat → Nat × Nat} (hi : i < n) (g : flt .f64 (crsV (wayV n p i) (subV (a1, a2) (p i))) 0 = true) : hasV n p a1 a2 = false := by
  unfold hasV
  rw [all_f hi (by rw [g]; rfl)]; cases (hasE n p a1 a2 != 0) <;> rfl
theorem hasV_t {n a1 a2 : Nat} {p : Nat → Nat × Nat} (h : hasE n p a1 a2 = 0) (g : ∀ i, i < n → flt .f64 (crsV (wayV n p i) (subV (a1, a2) (p i))) 0 = false) : hasV n p a1 a2 = true := by
  unfold hasV
  rw [h, all_t fun i hi => by rw [g i hi]; rfl]; rfl
def rareaE (n : Nat) (p : Nat → Nat × Nat) : Int := bif rcheckV n p != 0 then rcheckV n p else bif fgt .f64 (smV p (n - 2)) 0 then 0 else 61
def rareaR (n : Nat) (p : Nat → Nat × Nat) : Nat := bif rareaE n p != 0 then 0 else fmul .f64 (smV p (n - 2)) 4602678819172646912
def rcenR (n : Nat) (p : Nat → Nat × Nat) : Nat × Nat := bif rareaE n p != 0 then (0, 0) else (fadd .f64 (p 0).1 (fdiv .f64 (mmV p (n - 2)).1 (fmul .f64 4613937818241073152 (smV p (n - 2)))), fadd .f64 (p 0).2 (fdiv .f64 (mmV p (n - 2)).2 (fmul .f64 4613937818241073152 (smV p (n - 2)))))
def rhasE (n : Nat) (p : Nat → Nat × Nat) (a1 a2 : Nat) : Int := bif rcheckV n p != 0 then rcheckV n p else bif (aw a1 4787326403894837248 && aw a2 4787326403894837248) then 0 else 5
def rhasV (n : Nat) (p : Nat → Nat × Nat) (a1 a2 : Nat) : Bool := bif rhasE n p a1 a2 != 0 then false else (List.range n).all fun i => !flt .f64 (crsV (wayV n p i) (subV (a1, a2) (p i))) 0
theorem rareaE_1 {n : Nat} {p : Nat → Nat × Nat} (h : (rcheckV n p != 0) = true) : rareaE n p = rcheckV n p := by unfold rareaE; rw [h]; rfl
theorem rareaE_2 {n : Nat} {p : Nat → Nat × Nat} (h : (rcheckV n p != 0) = false) (g : fgt .f64 (smV p (n - 2)) 0 = false) : rareaE n p = 61 := by unfold rareaE; rw [h, g]; rfl
theorem rareaE_3 {n : Nat} {p : Nat → Nat × Nat} (h : (rcheckV n p != 0) = false) (g : fgt .f64 (smV p (n - 2)) 0 = true) : rareaE n p = 0 := by unfold rareaE; rw [h, g]; rfl
theorem rareaR_1 {n : Nat} {p : Nat → Nat × Nat} (h : (rareaE n p != 0) = true) : rareaR n p = 0 := by unfold rareaR; rw [h]; rfl
theorem rareaR_0 {n : Nat} {p : Nat → Nat × Nat} (h : rareaE n p = 0) : rareaR n p = fmul .f64 (smV p (n - 2)) 4602678819172646912 := by unfold rareaR; rw [h]; rfl
theorem rcenR_1 {n : Nat} {p : Nat → Nat × Nat} (h : (rareaE n p != 0) = true) : rcenR n p = (0, 0) := by unfold rcenR; rw [h]; rfl
theorem rcenR_0 {n : Nat} {p : Nat → Nat × Nat} (h : rareaE n p = 0) : rcenR n p = (fadd .f64 (p 0).1 (fdiv .f64 (mmV p (n - 2)).1 (fmul .f64 4613937818241073152 (smV p (n - 2)))), fadd .f64 (p 0).2 (fdiv .f64 (mmV p (n - 2)).2 (fmul .f64 4613937818241073152 (smV p (n - 2))))) := by unfold rcenR; rw [h]; rfl
theorem rareaE_ge {n : Nat} {p : Nat → Nat × Nat} (h : (rareaE n p != 0) = false) : 3 ≤ n := by
  cases e : (rcheckV n p != 0)
  · exact rcheck_ge e
  · rw [rareaE_1 e, e] at h; cases h
theorem rhasE_1 {n a1 a2 : Nat} {p : Nat → Nat × Nat} (h : (rcheckV n p != 0) = true) : rhasE n p a1 a2 = rcheckV n p := by unfold rhasE; rw [h]; rfl
theorem rhasE_2 {n a1 a2 : Nat} {p : Nat → Nat × Nat} (h : (rcheckV n p != 0) = false) (g : (aw a1 4787326403894837248 && aw a2 4787326403894837248) = false) : rhasE n p a1 a2 = 5 := by unfold rhasE; rw [h, g]; rfl
theorem rhasE_3 {n a1 a2 : Nat} {p : Nat → Nat × Nat} (h : (rcheckV n p != 0) = false) (g : (aw a1 4787326403894837248 && aw a2 4787326403894837248) = true) : rhasE n p a1 a2 = 0 := by unfold rhasE; rw [h, g]; rfl
theorem rhasV_1 {n a1 a2 : Nat} {p : Nat → Nat × Nat} (h : (rhasE n p a1 a2 != 0) = true) : rhasV n p a1 a2 = false := by unfold rhasV; rw [h]; rfl
theorem rhasV_f {n a1 a2 i : Nat} {p : Nat → Nat × Nat} (hi : i < n) (g : flt .f64 (crsV (wayV n p i) (subV (a1, a2) (p i))) 0 = true) : rhasV n p a1 a2 = false := by
  unfold rhasV
  rw [all_f hi (by rw [g]; rfl)]; cases (rhasE n p a1 a2 != 0) <;> rfl
theorem rhasV_t {n a1 a2 : Nat} {p : Nat → Nat × Nat} (h : rhasE n p a1 a2 = 0) (g : ∀ i, i < n → flt .f64 (crsV (wayV n p i) (subV (a1, a2) (p i))) 0 = false) : rhasV n p a1 a2 = true := by
  unfold rhasV
  rw [h, all_t fun i hi => by rw [g i hi]; rfl]; rfl
noncomputable def fi29 : FnI := ⟨22, Try.f29.body.getD .skip, [.tmp 2, .tmp 3], true⟩
theorem fi29_ok : fnGen Try.prog 29 = some fi29 := by kernel_rfl
theorem t29 (n : Nat) (p : Nat → Nat × Nat) (c0 : n < big): CM Try.prog 29 [.ro 2 n (fun j => ptM (p j))] (.tup [.f .f64 (areaR n p), .i .i64 (areaE n p)]) [] true := by
  refine CM.of_genQ (exts := exts) (eqs := eqs) (inl := []) (sum := S71) extsOK eqsOK S71_ok fi29_ok 6 rfl fun cx => ?_

  have k0 : n < 4611686018427387904 := c0
  repeat' ((fail_if_success (with_reducible refine Side.mk ?_)); first | (refine Rest.mk (drawR_sound (E := genQ Try.prog exts eqs [] S71) (genQ_full extsOK eqsOK S71_ok).toEnvAll mixOK (hnd_sound (genQ_full extsOK eqsOK S71_ok) 6) ?_)) | ((fail_if_success (with_reducible refine Rest.mk ?_)); first | (with_reducible exact True.intro) | (with_reducible refine Need.mk ?_ ?_) | (with_reducible refine And.intro ?_ ?_) | (with_reducible intro _) | ((fail_if_success (with_reducible refine FinS.mk ?_)); (fail_if_success (with_reducible refine Le.mk ?_)); (conv => whnf)) | (refine FinS.b ?_) | (refine FinS.lb ?_) | (refine FinS.i ?_) | (refine FinS.f ?_) | (refine FinS.agg ?_) | (refine FinS.tup ?_)))
  all_goals (try (refine Le.of ?_; (conv => whnf)))
  repeat' ((fail_if_success (with_reducible refine Side.mk ?_)); first | (refine Rest.mk (drawR_sound (E := genQ Try.prog exts eqs [] S71) (genQ_full extsOK eqsOK S71_ok).toEnvAll mixOK (hnd_sound (genQ_full extsOK eqsOK S71_ok) 6) ?_)) | ((fail_if_success (with_reducible refine Rest.mk ?_)); first | (with_reducible exact True.intro) | (with_reducible refine Need.mk ?_ ?_) | (with_reducible refine And.intro ?_ ?_) | (with_reducible intro _) | ((fail_if_success (with_reducible refine FinS.mk ?_)); (fail_if_success (with_reducible refine Le.mk ?_)); (conv => whnf)) | (refine FinS.b ?_) | (refine FinS.lb ?_) | (refine FinS.i ?_) | (refine FinS.f ?_) | (refine FinS.agg ?_) | (refine FinS.tup ?_)))
  all_goals (try refine Side.mk ?_)
  all_goals (try simp only [pOf_pt, eq_self, decide_eq_true_eq, decide_eq_false_iff_not, Int.ofNat_lt, Int.ofNat_le, gt_iff_lt, ge_iff_le, true_and, Bool.not_eq_true', Bool.not_eq_false'] at *)
  all_goals first | (with_reducible exact (areaE_1 (by assumption)).symm) | (with_reducible exact (areaE_2 (by assumption) (by assumption)).symm) | (with_reducible exact (areaE_3 (by assumption) (by assumption)).symm) | (with_reducible exact (areaR_1 (by rw [areaE_1 (by assumption)]; assumption)).symm) | (with_reducible exact (areaR_1 (by rw [areaE_2 (by assumption) (by assumption)]; exact ne0 (by decide))).symm) | (with_reducible exact (areaR_0 (areaE_3 (by assumption) (by assumption))).symm) | (with_reducible rfl) | trivial | omega | rfl | exact fun _ _ => trivial | exact ⟨rfl, rfl⟩ | exact ⟨rfl, fun _ _ => rfl⟩ | exact ⟨rfl, rfl, fun _ _ => rfl⟩ | exact ⟨by omega, trivial⟩ | exact i64_id (by omega) (by omega) | (exact ⟨isPts_pt _ _, c0⟩) | (exact ⟨isPts_pt _ _, check_ge (by assumption), c0⟩)
noncomputable def g29 : List MV → Option (List Prop × MV × List Blk × Bool)
  | [.ro 2 n get] => some ([isPts n get, n < big], .tup [.f .f64 (areaR n (pOf get)), .i .i64 (areaE n (pOf get))], [], false)
  | _ => none
theorem s29 : SumsOK Try.prog (sumOf 29 g29 S71) := by
  refine SumsOK.add S71_ok fun ms ps m blks al e hp => ?_
  unfold g29 at e
  split at e
  · cases e
    exact (le_arg1 (t29 _ (pOf _) (hp _ (.tail _ (.head _)))) (leR_pts (hp _ (.head _)))).aloneT rfl
  · cases e
noncomputable def S29 := sumOf 29 g29 S71
theorem S29_ok : SumsOK Try.prog S29 := s29
noncomputable def fi30 : FnI := ⟨18, Try.f30.body.getD .skip, [.tmp 2, .tmp 3], true⟩
theorem fi30_ok : fnGen Try.prog 30 = some fi30 := by kernel_rfl
theorem t30 (n : Nat) (p : Nat → Nat × Nat) (c0 : n < big): CM Try.prog 30 [.ro 2 n (fun j => ptM (p j))] (.tup [.f .f64 (rareaR n p), .i .i64 (rareaE n p)]) [] true := by
  refine CM.of_genQ (exts := exts) (eqs := eqs) (inl := []) (sum := S29) extsOK eqsOK S29_ok fi30_ok 6 rfl fun cx => ?_

  have k0 : n < 4611686018427387904 := c0
  repeat' ((fail_if_success (with_reducible refine Side.mk ?_)); first | (refine Rest.mk (drawR_sound (E := genQ Try.prog exts eqs [] S29) (genQ_full extsOK eqsOK S29_ok).toEnvAll mixOK (hnd_sound (genQ_full extsOK eqsOK S29_ok) 6) ?_)) | ((fail_if_success (with_reducible refine Rest.mk ?_)); first | (with_reducible exact True.intro) | (with_reducible refine Need.mk ?_ ?_) | (with_reducible refine And.intro ?_ ?_) | (with_reducible intro _) | ((fail_if_success (with_reducible refine FinS.mk ?_)); (fail_if_success (with_reducible refine Le.mk ?_)); (conv => whnf)) | (refine FinS.b ?_) | (refine FinS.lb ?_) | (refine FinS.i ?_) | (refine FinS.f ?_) | (refine FinS.agg ?_) | (refine FinS.tup ?_)))
  all_goals (try (refine Le.of ?_; (conv => whnf)))
  repeat' ((fail_if_success (with_reducible refine Side.mk ?_)); first | (refine Rest.mk (drawR_sound (E := genQ Try.prog exts eqs [] S29) (genQ_full extsOK eqsOK S29_ok).toEnvAll mixOK (hnd_sound (genQ_full extsOK eqsOK S29_ok) 6) ?_)) | ((fail_if_success (with_reducible refine Rest.mk ?_)); first | (with_reducible exact True.intro) | (with_reducible refine Need.mk ?_ ?_) | (with_reducible refine And.intro ?_ ?_) | (with_reducible intro _) | ((fail_if_success (with_reducible refine FinS.mk ?_)); (fail_if_success (with_reducible refine Le.mk ?_)); (conv => whnf)) | (refine FinS.b ?_) | (refine FinS.lb ?_) | (refine FinS.i ?_) | (refine FinS.f ?_) | (refine FinS.agg ?_) | (refine FinS.tup ?_)))
  all_goals (try refine Side.mk ?_)
  all_goals (try simp only [pOf_pt, eq_self, decide_eq_true_eq, decide_eq_false_iff_not, Int.ofNat_lt, Int.ofNat_le, gt_iff_lt, ge_iff_le, true_and, Bool.not_eq_true', Bool.not_eq_false'] at *)
  all_goals first | (with_reducible exact (rareaE_1 (by assumption)).symm) | (with_reducible exact (rareaE_2 (by assumption) (by assumption)).symm) | (with_reducible exact (rareaE_3 (by assumption) (by assumption)).symm) | (with_reducible exact (rareaR_1 (by rw [rareaE_1 (by assumption)]; assumption)).symm) | (with_reducible exact (rareaR_1 (by rw [rareaE_2 (by assumption) (by assumption)]; exact ne0 (by decide))).symm) | (with_reducible exact (rareaR_0 (rareaE_3 (by assumption) (by assumption))).symm) | (with_reducible rfl) | trivial | omega | rfl | exact fun _ _ => trivial | exact ⟨rfl, rfl⟩ | exact ⟨rfl, fun _ _ => rfl⟩ | exact ⟨rfl, rfl, fun _ _ => rfl⟩ | exact ⟨by omega, trivial⟩ | exact i64_id (by omega) (by omega) | (exact ⟨isPts_pt _ _, c0⟩) | (exact ⟨isPts_pt _ _, rcheck_ge (by assumption), c0⟩)
noncomputable def g30 : List MV → Option (List Prop × MV × List Blk × Bool)
  | [.ro 2 n get] => some ([isPts n get, n < big], .tup [.f .f64 (rareaR n (pOf get)), .i .i64 (rareaE n (pOf get))], [], false)
  | _ => none
theorem s30 : SumsOK Try.prog (sumOf 30 g30 S29) := by
  refine SumsOK.add S29_ok fun ms ps m blks al e hp => ?_
  unfold g30 at e
  split at e
  · cases e
    exact (le_arg1 (t30 _ (pOf _) (hp _ (.tail _ (.head _)))) (leR_pts (hp _ (.head _)))).aloneT rfl
  · cases e
noncomputable def S30 := sumOf 30 g30 S29
theorem S30_ok : SumsOK Try.prog S30 := s30
noncomputable def fi31 : FnI := ⟨37, Try.f31.body.getD .skip, [.cell 2 40, .tmp 3], true⟩
theorem fi31_ok : fnGen Try.prog 31 = some fi31 := by kernel_rfl
theorem t31 (n : Nat) (p : Nat → Nat × Nat) (c0 : n < big): CM Try.prog 31 [.ro 2 n (fun j => ptM (p j))] (.tup [.agg (ptM (cenR n p)), .i .i64 (areaE n p)]) [] true := by
  refine CM.of_genQ (exts := exts) (eqs := eqs) (inl := []) (sum := S30) extsOK eqsOK S30_ok fi31_ok 6 rfl fun cx => ?_

  have k0 : n < 4611686018427387904 := c0
  repeat' ((fail_if_success (with_reducible refine Side.mk ?_)); first | (refine Rest.mk (drawR_sound (E := genQ Try.prog exts eqs [] S30) (genQ_full extsOK eqsOK S30_ok).toEnvAll mixOK (hnd_sound (genQ_full extsOK eqsOK S30_ok) 6) ?_)) | ((fail_if_success (with_reducible refine Rest.mk ?_)); first | (with_reducible exact True.intro) | (with_reducible refine Need.mk ?_ ?_) | (with_reducible refine And.intro ?_ ?_) | (with_reducible intro _) | ((fail_if_success (with_reducible refine FinS.mk ?_)); (fail_if_success (with_reducible refine Le.mk ?_)); (conv => whnf)) | (refine FinS.b ?_) | (refine FinS.lb ?_) | (refine FinS.i ?_) | (refine FinS.f ?_) | (refine FinS.agg ?_) | (refine FinS.tup ?_)))
  all_goals (try (refine Le.of ?_; (conv => whnf)))
  repeat' ((fail_if_success (with_reducible refine Side.mk ?_)); first | (refine Rest.mk (drawR_sound (E := genQ Try.prog exts eqs [] S30) (genQ_full extsOK eqsOK S30_ok).toEnvAll mixOK (hnd_sound (genQ_full extsOK eqsOK S30_ok) 6) ?_)) | ((fail_if_success (with_reducible refine Rest.mk ?_)); first | (with_reducible exact True.intro) | (with_reducible refine Need.mk ?_ ?_) | (with_reducible refine And.intro ?_ ?_) | (with_reducible intro _) | ((fail_if_success (with_reducible refine FinS.mk ?_)); (fail_if_success (with_reducible refine Le.mk ?_)); (conv => whnf)) | (refine FinS.b ?_) | (refine FinS.lb ?_) | (refine FinS.i ?_) | (refine FinS.f ?_) | (refine FinS.agg ?_) | (refine FinS.tup ?_)))
  all_goals (try refine Side.mk ?_)
  all_goals (try simp only [pOf_pt, eq_self, decide_eq_true_eq, decide_eq_false_iff_not, Int.ofNat_lt, Int.ofNat_le, gt_iff_lt, ge_iff_le, true_and, Bool.not_eq_true', Bool.not_eq_false'] at *)
  all_goals first | (with_reducible exact (areaE_1 (by assumption)).symm) | (with_reducible exact (areaE_2 (by assumption) (by assumption)).symm) | (with_reducible exact (areaE_3 (by assumption) (by assumption)).symm) | (with_reducible exact (congrArg Prod.fst (cenR_1 (by rw [areaE_1 (by assumption)]; assumption))).symm) | (with_reducible exact (congrArg Prod.fst (cenR_1 (by rw [areaE_2 (by assumption) (by assumption)]; exact ne0 (by decide)))).symm) | (with_reducible exact (congrArg Prod.fst (cenR_0 (areaE_3 (by assumption) (by assumption)))).symm) | (with_reducible exact (congrArg Prod.snd (cenR_1 (by rw [areaE_1 (by assumption)]; assumption))).symm) | (with_reducible exact (congrArg Prod.snd (cenR_1 (by rw [areaE_2 (by assumption) (by assumption)]; exact ne0 (by decide)))).symm) | (with_reducible exact (congrArg Prod.snd (cenR_0 (areaE_3 (by assumption) (by assumption)))).symm) | (with_reducible rfl) | trivial | omega | rfl | exact fun _ _ => trivial | exact ⟨rfl, rfl⟩ | exact ⟨rfl, fun _ _ => rfl⟩ | exact ⟨rfl, rfl, fun _ _ => rfl⟩ | exact ⟨by omega, trivial⟩ | exact i64_id (by omega) (by omega) | (exact ⟨isPts_pt _ _, c0⟩) | (exact ⟨isPts_pt _ _, check_ge (by assumption), c0⟩) | ((have := check_ge (by assumption); omega)) | ((rw [cenR_0 (areaE_3 (by assumption) (by assumption))]) <;> rfl)
noncomputable def g31 : List MV → Option (List Prop × MV × List Blk × Bool)
  | [.ro 2 n get] => some ([isPts n get, n < big], .tup [.agg (ptM (cenR n (pOf get))), .i .i64 (areaE n (pOf get))], [], false)
  | _ => none
theorem s31 : SumsOK Try.prog (sumOf 31 g31 S30) := by
  refine SumsOK.add S30_ok fun ms ps m blks al e hp => ?_
  unfold g31 at e
  split at e
  · cases e
    exact (le_arg1 (t31 _ (pOf _) (hp _ (.tail _ (.head _)))) (leR_pts (hp _ (.head _)))).aloneT rfl
  · cases e
noncomputable def S31 := sumOf 31 g31 S30
theorem S31_ok : SumsOK Try.prog S31 := s31
noncomputable def fi32 : FnI := ⟨95, Try.f32.body.getD .skip, [.cell 2 40, .tmp 3], true⟩
theorem fi32_ok : fnGen Try.prog 32 = some fi32 := by kernel_rfl
theorem t32 (n : Nat) (p : Nat → Nat × Nat) (c0 : n < big): CM Try.prog 32 [.ro 2 n (fun j => ptM (p j))] (.tup [.agg (ptM (rcenR n p)), .i .i64 (rareaE n p)]) [] true := by
  refine CM.of_genQ (exts := exts) (eqs := eqs) (inl := []) (sum := S31) extsOK eqsOK S31_ok fi32_ok 6 rfl fun cx => ?_

  have k0 : n < 4611686018427387904 := c0
  have kw := sub_w k0
  repeat' ((fail_if_success (with_reducible refine Side.mk ?_)); first | (refine Rest.mk (drawR_sound (E := genQ Try.prog exts eqs [] S31) (genQ_full extsOK eqsOK S31_ok).toEnvAll mixOK (hnd_sound (genQ_full extsOK eqsOK S31_ok) 6) ?_)) | ((fail_if_success (with_reducible refine Rest.mk ?_)); first | (with_reducible exact True.intro) | (with_reducible refine Need.mk ?_ ?_) | (with_reducible refine And.intro ?_ ?_) | (with_reducible intro _) | ((fail_if_success (with_reducible refine FinS.mk ?_)); (fail_if_success (with_reducible refine Le.mk ?_)); (conv => whnf)) | (refine FinS.b ?_) | (refine FinS.lb ?_) | (refine FinS.i ?_) | (refine FinS.f ?_) | (refine FinS.agg ?_) | (refine FinS.tup ?_)))
  all_goals (try (refine Side.mk ?_; (try simp only [pOf_pt, eq_self, decide_eq_true_eq, decide_eq_false_iff_not, Int.ofNat_lt, Int.ofNat_le, gt_iff_lt, ge_iff_le, true_and, Bool.not_eq_true', Bool.not_eq_false'] at *); all_goals first | (with_reducible exact (congrArg Prod.fst (rcenR_1 (by assumption))).symm) | (with_reducible exact (congrArg Prod.snd (rcenR_1 (by assumption))).symm) | (with_reducible rfl) | trivial | omega | rfl | exact fun _ _ => trivial | exact ⟨rfl, rfl⟩ | exact ⟨rfl, fun _ _ => rfl⟩ | exact ⟨rfl, rfl, fun _ _ => rfl⟩ | exact ⟨by omega, trivial⟩ | exact i64_id (by omega) (by omega) | (exact ⟨isPts_pt _ _, c0⟩)))
  rename_i hE
  have hE : (rareaE n p != 0) = false := hE
  have hn := rareaE_ge hE
  have h0 : rareaE n p = 0 := (zeroOf hE).symm
  refine loop_ruleC (E := genQ Try.prog exts eqs [] S31) (genQ_full extsOK eqsOK S31_ok).toEnvAll (hnd_sound (E := genQ Try.prog exts eqs [] S31) (genQ_full extsOK eqsOK S31_ok) 6) (fun t => ⟨[(0, .ro 2 n (fun j => ptM (p j))), (2, .p 0 0), (6, .f .f64 (mmV p t).1), (7, .f .f64 (mmV p t).2), (8, .i .i64 ((t + 1 : Nat) : Int))], [], [(0, .cells (ptM (0, 0)))], 1⟩) (fun t => True) (n - 2) (Le.of ?_) ?_ ?_
  · conv => whnf
    repeat' ((fail_if_success (with_reducible refine Side.mk ?_)); first | (refine Rest.mk (drawR_sound (E := genQ Try.prog exts eqs [] S31) (genQ_full extsOK eqsOK S31_ok).toEnvAll mixOK (hnd_sound (genQ_full extsOK eqsOK S31_ok) 6) ?_)) | ((fail_if_success (with_reducible refine Rest.mk ?_)); first | (with_reducible exact True.intro) | (with_reducible refine Need.mk ?_ ?_) | (with_reducible refine And.intro ?_ ?_) | (with_reducible intro _) | ((fail_if_success (with_reducible refine FinS.mk ?_)); (fail_if_success (with_reducible refine Le.mk ?_)); (conv => whnf)) | (refine FinS.b ?_) | (refine FinS.lb ?_) | (refine FinS.i ?_) | (refine FinS.f ?_) | (refine FinS.agg ?_) | (refine FinS.tup ?_)))
    all_goals (try (refine Le.of ?_; (conv => whnf)))
    repeat' ((fail_if_success (with_reducible refine Side.mk ?_)); first | (refine Rest.mk (drawR_sound (E := genQ Try.prog exts eqs [] S31) (genQ_full extsOK eqsOK S31_ok).toEnvAll mixOK (hnd_sound (genQ_full extsOK eqsOK S31_ok) 6) ?_)) | ((fail_if_success (with_reducible refine Rest.mk ?_)); first | (with_reducible exact True.intro) | (with_reducible refine Need.mk ?_ ?_) | (with_reducible refine And.intro ?_ ?_) | (with_reducible intro _) | ((fail_if_success (with_reducible refine FinS.mk ?_)); (fail_if_success (with_reducible refine Le.mk ?_)); (conv => whnf)) | (refine FinS.b ?_) | (refine FinS.lb ?_) | (refine FinS.i ?_) | (refine FinS.f ?_) | (refine FinS.agg ?_) | (refine FinS.tup ?_)))
    all_goals (try refine Side.mk ?_)
    all_goals (try simp only [pOf_pt, eq_self, decide_eq_true_eq, decide_eq_false_iff_not, Int.ofNat_lt, Int.ofNat_le, gt_iff_lt, ge_iff_le, true_and, Bool.not_eq_true', Bool.not_eq_false'] at *)
    all_goals first | (with_reducible rfl) | trivial | omega | rfl | exact fun _ _ => trivial | exact ⟨rfl, rfl⟩ | exact ⟨rfl, fun _ _ => rfl⟩ | exact ⟨rfl, rfl, fun _ _ => rfl⟩ | exact ⟨by omega, trivial⟩ | exact i64_id (by omega) (by omega)
  · trivial
  · intro t ht _
    repeat' ((fail_if_success (with_reducible refine Side.mk ?_)); first | (refine Rest.mk (drawR_sound (E := genQ Try.prog exts eqs [] S31) (genQ_full extsOK eqsOK S31_ok).toEnvAll mixOK (hnd_sound (genQ_full extsOK eqsOK S31_ok) 6) ?_)) | ((fail_if_success (with_reducible refine Rest.mk ?_)); first | (with_reducible exact True.intro) | (with_reducible refine Need.mk ?_ ?_) | (with_reducible refine And.intro ?_ ?_) | (with_reducible intro _) | ((fail_if_success (with_reducible refine FinS.mk ?_)); (fail_if_success (with_reducible refine Le.mk ?_)); (conv => whnf)) | (refine FinS.b ?_) | (refine FinS.lb ?_) | (refine FinS.i ?_) | (refine FinS.f ?_) | (refine FinS.agg ?_) | (refine FinS.tup ?_)))
    all_goals (try (refine Le.of ?_; (conv => whnf)))
    repeat' ((fail_if_success (with_reducible refine Side.mk ?_)); first | (refine Rest.mk (drawR_sound (E := genQ Try.prog exts eqs [] S31) (genQ_full extsOK eqsOK S31_ok).toEnvAll mixOK (hnd_sound (genQ_full extsOK eqsOK S31_ok) 6) ?_)) | ((fail_if_success (with_reducible refine Rest.mk ?_)); first | (with_reducible exact True.intro) | (with_reducible refine Need.mk ?_ ?_) | (with_reducible refine And.intro ?_ ?_) | (with_reducible intro _) | ((fail_if_success (with_reducible refine FinS.mk ?_)); (fail_if_success (with_reducible refine Le.mk ?_)); (conv => whnf)) | (refine FinS.b ?_) | (refine FinS.lb ?_) | (refine FinS.i ?_) | (refine FinS.f ?_) | (refine FinS.agg ?_) | (refine FinS.tup ?_)))
    all_goals (try refine Side.mk ?_)
    all_goals (try simp only [kw, wrap_s (show t < 4611686018427387904 by omega), Int.toNat_natCast, Int.toNat_zero] at *)
    all_goals (try simp only [pOf_pt, eq_self, decide_eq_true_eq, decide_eq_false_iff_not, Int.ofNat_lt, Int.ofNat_le, gt_iff_lt, ge_iff_le, true_and, Bool.not_eq_true', Bool.not_eq_false'] at *)
    all_goals first | (with_reducible rfl) | trivial | omega | rfl | exact fun _ _ => trivial | exact ⟨rfl, rfl⟩ | exact ⟨rfl, fun _ _ => rfl⟩ | exact ⟨rfl, rfl, fun _ _ => rfl⟩ | exact ⟨by omega, trivial⟩ | exact i64_id (by omega) (by omega) | (exact ⟨isPts_pt _ _, hn, c0⟩) | (exact zeroOf hE) | ((have e : t = n - 2 := by omega); (rw [rcenR_0 h0, ← e]) <;> rfl) | (exact ⟨by omega, by omega⟩) | (refine sm_t (by assumption) ?_; rfl) | (refine sm_f (by assumption) ?_; rfl) | (refine mm_t1 (by assumption) ?_; rfl) | (refine mm_t2 (by assumption) ?_; rfl) | (refine mm_f1 (by assumption) ?_; rfl) | (refine mm_f2 (by assumption) ?_; rfl) | (refine sm_to ?_; omega) | (refine mm_to1 ?_; omega) | (refine mm_to2 ?_; omega)
noncomputable def g32 : List MV → Option (List Prop × MV × List Blk × Bool)
  | [.ro 2 n get] => some ([isPts n get, n < big], .tup [.agg (ptM (rcenR n (pOf get))), .i .i64 (rareaE n (pOf get))], [], false)
  | _ => none
theorem s32 : SumsOK Try.prog (sumOf 32 g32 S31) := by
  refine SumsOK.add S31_ok fun ms ps m blks al e hp => ?_
  unfold g32 at e
  split at e
  · cases e
    exact (le_arg1 (t32 _ (pOf _) (hp _ (.tail _ (.head _)))) (leR_pts (hp _ (.head _)))).aloneT rfl
  · cases e
noncomputable def S32 := sumOf 32 g32 S31
theorem S32_ok : SumsOK Try.prog S32 := s32
noncomputable def fi22 : FnI := ⟨33, Try.f22.body.getD .skip, [.tmp 4, .tmp 5], true⟩
theorem fi22_ok : fnGen Try.prog 22 = some fi22 := by kernel_rfl
theorem t22 (n : Nat) (p : Nat → Nat × Nat) (a1 a2 : Nat) (c0 : n < big): CM Try.prog 22 [.ro 2 n (fun j => ptM (p j)), .agg [.f .f64 a1, .f .f64 a2]] (.tup [.b (hasV n p a1 a2), .i .i64 (hasE n p a1 a2)]) [] true := by
  refine CM.of_genQ (exts := exts) (eqs := eqs) (inl := []) (sum := S32) extsOK eqsOK S32_ok fi22_ok 6 rfl fun cx => ?_

  have k0 : n < 4611686018427387904 := c0
  repeat' ((fail_if_success (with_reducible refine Side.mk ?_)); first | (refine Rest.mk (drawR_sound (E := genQ Try.prog exts eqs [] S32) (genQ_full extsOK eqsOK S32_ok).toEnvAll mixOK (hnd_sound (genQ_full extsOK eqsOK S32_ok) 6) ?_)) | ((fail_if_success (with_reducible refine Rest.mk ?_)); first | (with_reducible exact True.intro) | (with_reducible refine Need.mk ?_ ?_) | (with_reducible refine And.intro ?_ ?_) | (with_reducible intro _) | ((fail_if_success (with_reducible refine FinS.mk ?_)); (fail_if_success (with_reducible refine Le.mk ?_)); (conv => whnf)) | (refine FinS.b ?_) | (refine FinS.lb ?_) | (refine FinS.i ?_) | (refine FinS.f ?_) | (refine FinS.agg ?_) | (refine FinS.tup ?_)))
  all_goals (try (refine Side.mk ?_; (try simp only [pOf_pt, eq_self, decide_eq_true_eq, decide_eq_false_iff_not, Int.ofNat_lt, Int.ofNat_le, gt_iff_lt, ge_iff_le, true_and, Bool.not_eq_true', Bool.not_eq_false'] at *); all_goals first | (with_reducible exact (hasE_1 (by assumption)).symm) | (with_reducible exact (hasE_2 (by assumption) (by assumption)).symm) | (with_reducible exact (hasV_1 (by rw [hasE_1 (by assumption)]; assumption)).symm) | (with_reducible exact (hasV_1 (by rw [hasE_2 (by assumption) (by assumption)]; exact ne0 (by decide))).symm) | (with_reducible rfl) | trivial | omega | rfl | exact fun _ _ => trivial | exact ⟨rfl, rfl⟩ | exact ⟨rfl, fun _ _ => rfl⟩ | exact ⟨rfl, rfl, fun _ _ => rfl⟩ | exact ⟨by omega, trivial⟩ | exact i64_id (by omega) (by omega) | (exact ⟨isPts_pt _ _, c0⟩)))
  rename_i hc hw
  have hE : hasE n p a1 a2 = 0 := hasE_3 hc (notf hw)
  refine loop_ruleC (E := genQ Try.prog exts eqs [] S32) (genQ_full extsOK eqsOK S32_ok).toEnvAll (hnd_sound (E := genQ Try.prog exts eqs [] S32) (genQ_full extsOK eqsOK S32_ok) 6) (fun i => ⟨[(0, .ro 2 n (fun j => ptM (p j))), (3, .p 0 0), (17, .i .i64 (n : Int)), (18, .i .i64 (i : Int))], [], [(0, .cells (ptM (a1, a2)))], 1⟩) (fun i => ∀ j, j < i → flt .f64 (crsV (wayV n p j) (subV (a1, a2) (p j))) 0 = false) (n) (Le.of ?_) ?_ ?_
  · conv => whnf
    repeat' ((fail_if_success (with_reducible refine Side.mk ?_)); first | (refine Rest.mk (drawR_sound (E := genQ Try.prog exts eqs [] S32) (genQ_full extsOK eqsOK S32_ok).toEnvAll mixOK (hnd_sound (genQ_full extsOK eqsOK S32_ok) 6) ?_)) | ((fail_if_success (with_reducible refine Rest.mk ?_)); first | (with_reducible exact True.intro) | (with_reducible refine Need.mk ?_ ?_) | (with_reducible refine And.intro ?_ ?_) | (with_reducible intro _) | ((fail_if_success (with_reducible refine FinS.mk ?_)); (fail_if_success (with_reducible refine Le.mk ?_)); (conv => whnf)) | (refine FinS.b ?_) | (refine FinS.lb ?_) | (refine FinS.i ?_) | (refine FinS.f ?_) | (refine FinS.agg ?_) | (refine FinS.tup ?_)))
    all_goals (try (refine Le.of ?_; (conv => whnf)))
    repeat' ((fail_if_success (with_reducible refine Side.mk ?_)); first | (refine Rest.mk (drawR_sound (E := genQ Try.prog exts eqs [] S32) (genQ_full extsOK eqsOK S32_ok).toEnvAll mixOK (hnd_sound (genQ_full extsOK eqsOK S32_ok) 6) ?_)) | ((fail_if_success (with_reducible refine Rest.mk ?_)); first | (with_reducible exact True.intro) | (with_reducible refine Need.mk ?_ ?_) | (with_reducible refine And.intro ?_ ?_) | (with_reducible intro _) | ((fail_if_success (with_reducible refine FinS.mk ?_)); (fail_if_success (with_reducible refine Le.mk ?_)); (conv => whnf)) | (refine FinS.b ?_) | (refine FinS.lb ?_) | (refine FinS.i ?_) | (refine FinS.f ?_) | (refine FinS.agg ?_) | (refine FinS.tup ?_)))
    all_goals (try refine Side.mk ?_)
    all_goals (try simp only [pOf_pt, eq_self, decide_eq_true_eq, decide_eq_false_iff_not, Int.ofNat_lt, Int.ofNat_le, gt_iff_lt, ge_iff_le, true_and, Bool.not_eq_true', Bool.not_eq_false'] at *)
    all_goals first | (with_reducible rfl) | trivial | omega | rfl | exact fun _ _ => trivial | exact ⟨rfl, rfl⟩ | exact ⟨rfl, fun _ _ => rfl⟩ | exact ⟨rfl, rfl, fun _ _ => rfl⟩ | exact ⟨by omega, trivial⟩ | exact i64_id (by omega) (by omega)
  · intro j hj; omega
  · intro i hi hpre
    repeat' ((fail_if_success (with_reducible refine Side.mk ?_)); first | (refine Rest.mk (drawR_sound (E := genQ Try.prog exts eqs [] S32) (genQ_full extsOK eqsOK S32_ok).toEnvAll mixOK (hnd_sound (genQ_full extsOK eqsOK S32_ok) 6) ?_)) | ((fail_if_success (with_reducible refine Rest.mk ?_)); first | (with_reducible exact True.intro) | (with_reducible refine Need.mk ?_ ?_) | (with_reducible refine And.intro ?_ ?_) | (with_reducible intro _) | ((fail_if_success (with_reducible refine FinS.mk ?_)); (fail_if_success (with_reducible refine Le.mk ?_)); (conv => whnf)) | (refine FinS.b ?_) | (refine FinS.lb ?_) | (refine FinS.i ?_) | (refine FinS.f ?_) | (refine FinS.agg ?_) | (refine FinS.tup ?_)))
    all_goals (try (refine Le.of ?_; (conv => whnf)))
    repeat' ((fail_if_success (with_reducible refine Side.mk ?_)); first | (refine Rest.mk (drawR_sound (E := genQ Try.prog exts eqs [] S32) (genQ_full extsOK eqsOK S32_ok).toEnvAll mixOK (hnd_sound (genQ_full extsOK eqsOK S32_ok) 6) ?_)) | ((fail_if_success (with_reducible refine Rest.mk ?_)); first | (with_reducible exact True.intro) | (with_reducible refine Need.mk ?_ ?_) | (with_reducible refine And.intro ?_ ?_) | (with_reducible intro _) | ((fail_if_success (with_reducible refine FinS.mk ?_)); (fail_if_success (with_reducible refine Le.mk ?_)); (conv => whnf)) | (refine FinS.b ?_) | (refine FinS.lb ?_) | (refine FinS.i ?_) | (refine FinS.f ?_) | (refine FinS.agg ?_) | (refine FinS.tup ?_)))
    all_goals (try refine Side.mk ?_)
    all_goals (try simp only [pOf_pt, eq_self, decide_eq_true_eq, decide_eq_false_iff_not, Int.ofNat_lt, Int.ofNat_le, gt_iff_lt, ge_iff_le, true_and, Bool.not_eq_true', Bool.not_eq_false'] at *)
    all_goals first | (with_reducible exact hE.symm) | (with_reducible rfl) | trivial | omega | rfl | exact fun _ _ => trivial | exact ⟨rfl, rfl⟩ | exact ⟨rfl, fun _ _ => rfl⟩ | exact ⟨rfl, rfl, fun _ _ => rfl⟩ | exact ⟨by omega, trivial⟩ | exact i64_id (by omega) (by omega) | (exact ⟨isPts_pt _ _, by omega, by omega, c0⟩) | (exact (hasV_f (i := i) (by omega) (by assumption)).symm) | (exact (hasV_t hE fun j hj => hpre j (by omega)).symm) | (exact ⟨by omega, pre_up hpre (by assumption)⟩)
noncomputable def g22 : List MV → Option (List Prop × MV × List Blk × Bool)
  | [.ro 2 n get, .agg [.f .f64 a1, .f .f64 a2]] => some ([isPts n get, n < big], .tup [.b (hasV n (pOf get) a1 a2), .i .i64 (hasE n (pOf get) a1 a2)], [], false)
  | _ => none
theorem s22 : SumsOK Try.prog (sumOf 22 g22 S32) := by
  refine SumsOK.add S32_ok fun ms ps m blks al e hp => ?_
  unfold g22 at e
  split at e
  · cases e
    exact (le_arg1 (t22 _ (pOf _) _ _ (hp _ (.tail _ (.head _)))) (leR_pts (hp _ (.head _)))).aloneT rfl
  · cases e
noncomputable def S22 := sumOf 22 g22 S32
theorem S22_ok : SumsOK Try.prog S22 := s22
noncomputable def fi34 : FnI := ⟨27, Try.f34.body.getD .skip, [.tmp 4, .tmp 5], true⟩
theorem fi34_ok : fnGen Try.prog 34 = some fi34 := by kernel_rfl
theorem t34 (n : Nat) (p : Nat → Nat × Nat) (a1 a2 : Nat) (c0 : n < big): CM Try.prog 34 [.ro 2 n (fun j => ptM (p j)), .agg [.f .f64 a1, .f .f64 a2]] (.tup [.b (rhasV n p a1 a2), .i .i64 (rhasE n p a1 a2)]) [] true := by
  refine CM.of_genQ (exts := exts) (eqs := eqs) (inl := []) (sum := S22) extsOK eqsOK S22_ok fi34_ok 6 rfl fun cx => ?_

  have k0 : n < 4611686018427387904 := c0
  repeat' ((fail_if_success (with_reducible refine Side.mk ?_)); first | (refine Rest.mk (drawR_sound (E := genQ Try.prog exts eqs [] S22) (genQ_full extsOK eqsOK S22_ok).toEnvAll mixOK (hnd_sound (genQ_full extsOK eqsOK S22_ok) 6) ?_)) | ((fail_if_success (with_reducible refine Rest.mk ?_)); first | (with_reducible exact True.intro) | (with_reducible refine Need.mk ?_ ?_) | (with_reducible refine And.intro ?_ ?_) | (with_reducible intro _) | ((fail_if_success (with_reducible refine FinS.mk ?_)); (fail_if_success (with_reducible refine Le.mk ?_)); (conv => whnf)) | (refine FinS.b ?_) | (refine FinS.lb ?_) | (refine FinS.i ?_) | (refine FinS.f ?_) | (refine FinS.agg ?_) | (refine FinS.tup ?_)))
  all_goals (try (refine Side.mk ?_; (try simp only [pOf_pt, eq_self, decide_eq_true_eq, decide_eq_false_iff_not, Int.ofNat_lt, Int.ofNat_le, gt_iff_lt, ge_iff_le, true_and, Bool.not_eq_true', Bool.not_eq_false'] at *); all_goals first | (with_reducible exact (rhasE_1 (by assumption)).symm) | (with_reducible exact (rhasE_2 (by assumption) (by assumption)).symm) | (with_reducible exact (rhasV_1 (by rw [rhasE_1 (by assumption)]; assumption)).symm) | (with_reducible exact (rhasV_1 (by rw [rhasE_2 (by assumption) (by assumption)]; exact ne0 (by decide))).symm) | (with_reducible rfl) | trivial | omega | rfl | exact fun _ _ => trivial | exact ⟨rfl, rfl⟩ | exact ⟨rfl, fun _ _ => rfl⟩ | exact ⟨rfl, rfl, fun _ _ => rfl⟩ | exact ⟨by omega, trivial⟩ | exact i64_id (by omega) (by omega) | (exact ⟨isPts_pt _ _, c0⟩)))
  rename_i hc hw
  have hE : rhasE n p a1 a2 = 0 := rhasE_3 hc (notf hw)
  refine loop_ruleC (E := genQ Try.prog exts eqs [] S22) (genQ_full extsOK eqsOK S22_ok).toEnvAll (hnd_sound (E := genQ Try.prog exts eqs [] S22) (genQ_full extsOK eqsOK S22_ok) 6) (fun i => ⟨[(0, .ro 2 n (fun j => ptM (p j))), (3, .p 0 0), (7, .i .i64 (i : Int))], [], [(0, .cells (ptM (a1, a2)))], 1⟩) (fun i => ∀ j, j < i → flt .f64 (crsV (wayV n p j) (subV (a1, a2) (p j))) 0 = false) (n) (Le.of ?_) ?_ ?_
  · conv => whnf
    repeat' ((fail_if_success (with_reducible refine Side.mk ?_)); first | (refine Rest.mk (drawR_sound (E := genQ Try.prog exts eqs [] S22) (genQ_full extsOK eqsOK S22_ok).toEnvAll mixOK (hnd_sound (genQ_full extsOK eqsOK S22_ok) 6) ?_)) | ((fail_if_success (with_reducible refine Rest.mk ?_)); first | (with_reducible exact True.intro) | (with_reducible refine Need.mk ?_ ?_) | (with_reducible refine And.intro ?_ ?_) | (with_reducible intro _) | ((fail_if_success (with_reducible refine FinS.mk ?_)); (fail_if_success (with_reducible refine Le.mk ?_)); (conv => whnf)) | (refine FinS.b ?_) | (refine FinS.lb ?_) | (refine FinS.i ?_) | (refine FinS.f ?_) | (refine FinS.agg ?_) | (refine FinS.tup ?_)))
    all_goals (try (refine Le.of ?_; (conv => whnf)))
    repeat' ((fail_if_success (with_reducible refine Side.mk ?_)); first | (refine Rest.mk (drawR_sound (E := genQ Try.prog exts eqs [] S22) (genQ_full extsOK eqsOK S22_ok).toEnvAll mixOK (hnd_sound (genQ_full extsOK eqsOK S22_ok) 6) ?_)) | ((fail_if_success (with_reducible refine Rest.mk ?_)); first | (with_reducible exact True.intro) | (with_reducible refine Need.mk ?_ ?_) | (with_reducible refine And.intro ?_ ?_) | (with_reducible intro _) | ((fail_if_success (with_reducible refine FinS.mk ?_)); (fail_if_success (with_reducible refine Le.mk ?_)); (conv => whnf)) | (refine FinS.b ?_) | (refine FinS.lb ?_) | (refine FinS.i ?_) | (refine FinS.f ?_) | (refine FinS.agg ?_) | (refine FinS.tup ?_)))
    all_goals (try refine Side.mk ?_)
    all_goals (try simp only [pOf_pt, eq_self, decide_eq_true_eq, decide_eq_false_iff_not, Int.ofNat_lt, Int.ofNat_le, gt_iff_lt, ge_iff_le, true_and, Bool.not_eq_true', Bool.not_eq_false'] at *)
    all_goals first | (with_reducible rfl) | trivial | omega | rfl | exact fun _ _ => trivial | exact ⟨rfl, rfl⟩ | exact ⟨rfl, fun _ _ => rfl⟩ | exact ⟨rfl, rfl, fun _ _ => rfl⟩ | exact ⟨by omega, trivial⟩ | exact i64_id (by omega) (by omega)
  · intro j hj; omega
  · intro i hi hpre
    repeat' ((fail_if_success (with_reducible refine Side.mk ?_)); first | (refine Rest.mk (drawR_sound (E := genQ Try.prog exts eqs [] S22) (genQ_full extsOK eqsOK S22_ok).toEnvAll mixOK (hnd_sound (genQ_full extsOK eqsOK S22_ok) 6) ?_)) | ((fail_if_success (with_reducible refine Rest.mk ?_)); first | (with_reducible exact True.intro) | (with_reducible refine Need.mk ?_ ?_) | (with_reducible refine And.intro ?_ ?_) | (with_reducible intro _) | ((fail_if_success (with_reducible refine FinS.mk ?_)); (fail_if_success (with_reducible refine Le.mk ?_)); (conv => whnf)) | (refine FinS.b ?_) | (refine FinS.lb ?_) | (refine FinS.i ?_) | (refine FinS.f ?_) | (refine FinS.agg ?_) | (refine FinS.tup ?_)))
    all_goals (try (refine Le.of ?_; (conv => whnf)))
    repeat' ((fail_if_success (with_reducible refine Side.mk ?_)); first | (refine Rest.mk (drawR_sound (E := genQ Try.prog exts eqs [] S22) (genQ_full extsOK eqsOK S22_ok).toEnvAll mixOK (hnd_sound (genQ_full extsOK eqsOK S22_ok) 6) ?_)) | ((fail_if_success (with_reducible refine Rest.mk ?_)); first | (with_reducible exact True.intro) | (with_reducible refine Need.mk ?_ ?_) | (with_reducible refine And.intro ?_ ?_) | (with_reducible intro _) | ((fail_if_success (with_reducible refine FinS.mk ?_)); (fail_if_success (with_reducible refine Le.mk ?_)); (conv => whnf)) | (refine FinS.b ?_) | (refine FinS.lb ?_) | (refine FinS.i ?_) | (refine FinS.f ?_) | (refine FinS.agg ?_) | (refine FinS.tup ?_)))
    all_goals (try refine Side.mk ?_)
    all_goals (try simp only [pOf_pt, eq_self, decide_eq_true_eq, decide_eq_false_iff_not, Int.ofNat_lt, Int.ofNat_le, gt_iff_lt, ge_iff_le, true_and, Bool.not_eq_true', Bool.not_eq_false'] at *)
    all_goals first | (with_reducible exact hE.symm) | (with_reducible rfl) | trivial | omega | rfl | exact fun _ _ => trivial | exact ⟨rfl, rfl⟩ | exact ⟨rfl, fun _ _ => rfl⟩ | exact ⟨rfl, rfl, fun _ _ => rfl⟩ | exact ⟨by omega, trivial⟩ | exact i64_id (by omega) (by omega) | (exact ⟨isPts_pt _ _, by omega, by omega, c0⟩) | (exact (rhasV_f (i := i) (by omega) (by assumption)).symm) | (exact (rhasV_t hE fun j hj => hpre j (by omega)).symm) | (exact ⟨by omega, pre_up hpre (by assumption)⟩)
noncomputable def g34 : List MV → Option (List Prop × MV × List Blk × Bool)
  | [.ro 2 n get, .agg [.f .f64 a1, .f .f64 a2]] => some ([isPts n get, n < big], .tup [.b (rhasV n (pOf get) a1 a2), .i .i64 (rhasE n (pOf get) a1 a2)], [], false)
  | _ => none
theorem s34 : SumsOK Try.prog (sumOf 34 g34 S22) := by
  refine SumsOK.add S22_ok fun ms ps m blks al e hp => ?_
  unfold g34 at e
  split at e
  · cases e
    exact (le_arg1 (t34 _ (pOf _) _ _ (hp _ (.tail _ (.head _)))) (leR_pts (hp _ (.head _)))).aloneT rfl
  · cases e
noncomputable def S34 := sumOf 34 g34 S22
theorem S34_ok : SumsOK Try.prog S34 := s34
def bst (p : Nat → Nat × Nat) (w : Nat × Nat) : Nat → Nat
  | 0 => 0
  | k + 1 => bif fgt .f64 (dotV (p k) w) (dotV (p (bst p w k)) w) then k else bst p w k
theorem bst_t {p : Nat → Nat × Nat} {w : Nat × Nat} {k x y : Nat} (h : fgt .f64 x y = true) (hx : x = dotV (p k) w) (hy : y = dotV (p (bst p w k)) w) : k = bst p w (k + 1) := by
  subst hx hy
  show _ = bif fgt .f64 (dotV (p k) w) (dotV (p (bst p w k)) w) then k else bst p w k
  rw [h]; rfl
theorem bst_f {p : Nat → Nat × Nat} {w : Nat × Nat} {k x y : Nat} (h : fgt .f64 x y = false) (hx : x = dotV (p k) w) (hy : y = dotV (p (bst p w k)) w) : bst p w k = bst p w (k + 1) := by
  subst hx hy
  show _ = bif fgt .f64 (dotV (p k) w) (dotV (p (bst p w k)) w) then k else bst p w k
  rw [h]; rfl
theorem bst_td {p : Nat → Nat × Nat} {w : Nat × Nat} {k x y : Nat} (h : fgt .f64 x y = true) (hx : x = dotV (p k) w) (hy : y = dotV (p (bst p w k)) w) : x = dotV (p (bst p w (k + 1))) w := by rw [← bst_t h hx hy]; exact hx
theorem bst_fd {p : Nat → Nat × Nat} {w : Nat × Nat} {k x y : Nat} (h : fgt .f64 x y = false) (hx : x = dotV (p k) w) (hy : y = dotV (p (bst p w k)) w) : dotV (p (bst p w k)) w = dotV (p (bst p w (k + 1))) w := by rw [← bst_f h hx hy]
theorem bst_1 {p : Nat → Nat × Nat} {w : Nat × Nat} : bst p w 1 = 0 := by
  show (bif fgt .f64 (dotV (p 0) w) (dotV (p (bst p w 0)) w) then 0 else bst p w 0) = 0
  cases fgt .f64 (dotV (p 0) w) (dotV (p (bst p w 0)) w) <;> rfl
theorem bst_lt {p : Nat → Nat × Nat} {w : Nat × Nat} {n : Nat} (hn : 0 < n) : ∀ k, k ≤ n → bst p w k < n
  | 0, _ => hn
  | k + 1, h => by
    show (bif fgt .f64 (dotV (p k) w) (dotV (p (bst p w k)) w) then k else bst p w k) < n
    cases fgt .f64 (dotV (p k) w) (dotV (p (bst p w k)) w)
    · exact bst_lt hn k (by omega)
    · show k < n
      omega
theorem bst_i {p : Nat → Nat × Nat} {w : Nat × Nat} {k m : Nat} (h : k = m) : ((bst p w k : Nat) : Int) = ((m : Nat) : Int) → ((bst p w k : Nat) : Int) = ((k : Nat) : Int) := by subst h; exact id
def farR (n : Nat) (p : Nat → Nat × Nat) (a1 a2 : Nat) : Nat := bif hasE n p a1 a2 != 0 then 0 else bst p (a1, a2) n
theorem farR_1 {n a1 a2 : Nat} {p : Nat → Nat × Nat} (h : (hasE n p a1 a2 != 0) = true) : (0 : Int) = (farR n p a1 a2 : Nat) := by unfold farR; rw [h]; rfl
theorem farR_0 {n a1 a2 k : Nat} {p : Nat → Nat × Nat} (h : hasE n p a1 a2 = 0) (hk : k = n) : ((bst p (a1, a2) k : Nat) : Int) = (farR n p a1 a2 : Nat) := by subst hk; unfold farR; rw [h]; rfl
def rfarR (n : Nat) (p : Nat → Nat × Nat) (a1 a2 : Nat) : Nat := bif rhasE n p a1 a2 != 0 then 0 else bst p (a1, a2) n
theorem rfarR_1 {n a1 a2 : Nat} {p : Nat → Nat × Nat} (h : (rhasE n p a1 a2 != 0) = true) : (0 : Int) = (rfarR n p a1 a2 : Nat) := by unfold rfarR; rw [h]; rfl
theorem rfarR_0 {n a1 a2 k : Nat} {p : Nat → Nat × Nat} (h : rhasE n p a1 a2 = 0) (hk : k = n) : ((bst p (a1, a2) k : Nat) : Int) = (rfarR n p a1 a2 : Nat) := by subst hk; unfold rfarR; rw [h]; rfl
noncomputable def fi35 : FnI := ⟨42, Try.f35.body.getD .skip, [.tmp 4, .tmp 5], true⟩
theorem fi35_ok : fnGen Try.prog 35 = some fi35 := by kernel_rfl
theorem t35 (n : Nat) (p : Nat → Nat × Nat) (a1 a2 : Nat) (c0 : n < big): CM Try.prog 35 [.ro 2 n (fun j => ptM (p j)), .agg [.f .f64 a1, .f .f64 a2]] (.tup [.i .i64 (farR n p a1 a2 : Nat), .i .i64 (hasE n p a1 a2)]) [] true := by
  refine CM.of_genQ (exts := exts) (eqs := eqs) (inl := []) (sum := S34) extsOK eqsOK S34_ok fi35_ok 6 rfl fun cx => ?_

  have k0 : n < 4611686018427387904 := c0
  repeat' ((fail_if_success (with_reducible refine Side.mk ?_)); first | (refine Rest.mk (drawR_sound (E := genQ Try.prog exts eqs [] S34) (genQ_full extsOK eqsOK S34_ok).toEnvAll mixOK (hnd_sound (genQ_full extsOK eqsOK S34_ok) 6) ?_)) | ((fail_if_success (with_reducible refine Rest.mk ?_)); first | (with_reducible exact True.intro) | (with_reducible refine Need.mk ?_ ?_) | (with_reducible refine And.intro ?_ ?_) | (with_reducible intro _) | ((fail_if_success (with_reducible refine FinS.mk ?_)); (fail_if_success (with_reducible refine Le.mk ?_)); (conv => whnf)) | (refine FinS.b ?_) | (refine FinS.lb ?_) | (refine FinS.i ?_) | (refine FinS.f ?_) | (refine FinS.agg ?_) | (refine FinS.tup ?_)))
  all_goals (try (refine Side.mk ?_; (try simp only [pOf_pt, eq_self, decide_eq_true_eq, decide_eq_false_iff_not, Int.ofNat_lt, Int.ofNat_le, gt_iff_lt, ge_iff_le, true_and, Bool.not_eq_true', Bool.not_eq_false'] at *); all_goals first | (with_reducible exact (hasE_1 (by assumption)).symm) | (with_reducible exact (hasE_2 (by assumption) (by assumption)).symm) | (with_reducible exact farR_1 (by rw [hasE_1 (by assumption)]; assumption)) | (with_reducible exact farR_1 (by rw [hasE_2 (by assumption) (by assumption)]; exact ne0 (by decide))) | (with_reducible rfl) | trivial | omega | rfl | exact fun _ _ => trivial | exact ⟨rfl, rfl⟩ | exact ⟨rfl, fun _ _ => rfl⟩ | exact ⟨rfl, rfl, fun _ _ => rfl⟩ | exact ⟨by omega, trivial⟩ | exact i64_id (by omega) (by omega) | (exact ⟨isPts_pt _ _, c0⟩) | ((have := check_ge (by assumption); omega))))
  rename_i hc hw
  have hE : hasE n p a1 a2 = 0 := hasE_3 hc (notf hw)
  have hn := check_ge hc
  clear hw
  refine loop_ruleC (E := genQ Try.prog exts eqs [] S34) (genQ_full extsOK eqsOK S34_ok).toEnvAll (hnd_sound (E := genQ Try.prog exts eqs [] S34) (genQ_full extsOK eqsOK S34_ok) 6) (fun t => ⟨[(0, .ro 2 n (fun j => ptM (p j))), (3, .p 0 0), (7, .i .i64 (bst p (a1, a2) t : Nat)), (8, .f .f64 (dotV (p (bst p (a1, a2) t)) (a1, a2))), (25, .ro 2 n (fun j => ptM (p j))), (26, .i .i64 (n : Int)), (27, .i .i64 (t : Int))], [], [(0, .cells (ptM (a1, a2)))], 1⟩) (fun t => True) (n) (Le.of ?_) ?_ ?_
  · conv => whnf
    repeat' ((fail_if_success (with_reducible refine Side.mk ?_)); first | (refine Rest.mk (drawR_sound (E := genQ Try.prog exts eqs [] S34) (genQ_full extsOK eqsOK S34_ok).toEnvAll mixOK (hnd_sound (genQ_full extsOK eqsOK S34_ok) 6) ?_)) | ((fail_if_success (with_reducible refine Rest.mk ?_)); first | (with_reducible exact True.intro) | (with_reducible refine Need.mk ?_ ?_) | (with_reducible refine And.intro ?_ ?_) | (with_reducible intro _) | ((fail_if_success (with_reducible refine FinS.mk ?_)); (fail_if_success (with_reducible refine Le.mk ?_)); (conv => whnf)) | (refine FinS.b ?_) | (refine FinS.lb ?_) | (refine FinS.i ?_) | (refine FinS.f ?_) | (refine FinS.agg ?_) | (refine FinS.tup ?_)))
    all_goals (try (refine Le.of ?_; (conv => whnf)))
    repeat' ((fail_if_success (with_reducible refine Side.mk ?_)); first | (refine Rest.mk (drawR_sound (E := genQ Try.prog exts eqs [] S34) (genQ_full extsOK eqsOK S34_ok).toEnvAll mixOK (hnd_sound (genQ_full extsOK eqsOK S34_ok) 6) ?_)) | ((fail_if_success (with_reducible refine Rest.mk ?_)); first | (with_reducible exact True.intro) | (with_reducible refine Need.mk ?_ ?_) | (with_reducible refine And.intro ?_ ?_) | (with_reducible intro _) | ((fail_if_success (with_reducible refine FinS.mk ?_)); (fail_if_success (with_reducible refine Le.mk ?_)); (conv => whnf)) | (refine FinS.b ?_) | (refine FinS.lb ?_) | (refine FinS.i ?_) | (refine FinS.f ?_) | (refine FinS.agg ?_) | (refine FinS.tup ?_)))
    all_goals (try refine Side.mk ?_)
    all_goals (try simp only [pOf_pt, eq_self, decide_eq_true_eq, decide_eq_false_iff_not, Int.ofNat_lt, Int.ofNat_le, gt_iff_lt, ge_iff_le, true_and, Bool.not_eq_true', Bool.not_eq_false'] at *)
    all_goals first | (with_reducible rfl) | trivial | omega | rfl | exact fun _ _ => trivial | exact ⟨rfl, rfl⟩ | exact ⟨rfl, fun _ _ => rfl⟩ | exact ⟨rfl, rfl, fun _ _ => rfl⟩ | exact ⟨by omega, trivial⟩ | exact i64_id (by omega) (by omega)
  · trivial
  · intro t ht _
    have hb := bst_lt (p := p) (w := (a1, a2)) (n := n) (by omega)
    repeat' ((fail_if_success (with_reducible refine Side.mk ?_)); first | (refine Rest.mk (drawR_sound (E := genQ Try.prog exts eqs [] S34) (genQ_full extsOK eqsOK S34_ok).toEnvAll mixOK (hnd_sound (genQ_full extsOK eqsOK S34_ok) 6) ?_)) | ((fail_if_success (with_reducible refine Rest.mk ?_)); first | (with_reducible exact True.intro) | (with_reducible refine Need.mk ?_ ?_) | (with_reducible refine And.intro ?_ ?_) | (with_reducible intro _) | ((fail_if_success (with_reducible refine FinS.mk ?_)); (fail_if_success (with_reducible refine Le.mk ?_)); (conv => whnf)) | (refine FinS.b ?_) | (refine FinS.lb ?_) | (refine FinS.i ?_) | (refine FinS.f ?_) | (refine FinS.agg ?_) | (refine FinS.tup ?_)))
    all_goals (try (refine Le.of ?_; (conv => whnf)))
    repeat' ((fail_if_success (with_reducible refine Side.mk ?_)); first | (refine Rest.mk (drawR_sound (E := genQ Try.prog exts eqs [] S34) (genQ_full extsOK eqsOK S34_ok).toEnvAll mixOK (hnd_sound (genQ_full extsOK eqsOK S34_ok) 6) ?_)) | ((fail_if_success (with_reducible refine Rest.mk ?_)); first | (with_reducible exact True.intro) | (with_reducible refine Need.mk ?_ ?_) | (with_reducible refine And.intro ?_ ?_) | (with_reducible intro _) | ((fail_if_success (with_reducible refine FinS.mk ?_)); (fail_if_success (with_reducible refine Le.mk ?_)); (conv => whnf)) | (refine FinS.b ?_) | (refine FinS.lb ?_) | (refine FinS.i ?_) | (refine FinS.f ?_) | (refine FinS.agg ?_) | (refine FinS.tup ?_)))
    all_goals (try refine Side.mk ?_)
    all_goals (try simp only [pOf_pt, eq_self, decide_eq_true_eq, decide_eq_false_iff_not, Int.ofNat_lt, Int.ofNat_le, gt_iff_lt, ge_iff_le, true_and, Bool.not_eq_true', Bool.not_eq_false'] at *)
    all_goals (try first | (with_reducible exact hE.symm) | (with_reducible exact farR_0 hE (by omega)) | (with_reducible rfl) | trivial | omega | exact fun _ _ => trivial | exact i64_id (by omega) (by omega) | exact ⟨rfl, fun _ _ => rfl⟩ | exact ⟨by omega, trivial⟩ | exact ⟨trivial, trivial⟩)
    · rename_i hF _; exact congrArg (fun (x : Nat) => (x : Int)) (bst_t hF rfl rfl)
    · rename_i hF _; exact bst_td hF rfl rfl
    · rename_i hF _; exact congrArg (fun (x : Nat) => (x : Int)) (bst_f hF rfl rfl)
    · rename_i hF _; exact bst_fd hF rfl rfl
noncomputable def g35 : List MV → Option (List Prop × MV × List Blk × Bool)
  | [.ro 2 n get, .agg [.f .f64 a1, .f .f64 a2]] => some ([isPts n get, n < big], .tup [.i .i64 (farR n (pOf get) a1 a2 : Nat), .i .i64 (hasE n (pOf get) a1 a2)], [], false)
  | _ => none
theorem s35 : SumsOK Try.prog (sumOf 35 g35 S34) := by
  refine SumsOK.add S34_ok fun ms ps m blks al e hp => ?_
  unfold g35 at e
  split at e
  · cases e
    exact (le_arg1 (t35 _ (pOf _) _ _ (hp _ (.tail _ (.head _)))) (leR_pts (hp _ (.head _)))).aloneT rfl
  · cases e
noncomputable def S35 := sumOf 35 g35 S34
theorem S35_ok : SumsOK Try.prog S35 := s35
noncomputable def fi36 : FnI := ⟨38, Try.f36.body.getD .skip, [.tmp 4, .tmp 5], true⟩
theorem fi36_ok : fnGen Try.prog 36 = some fi36 := by kernel_rfl
theorem t36 (n : Nat) (p : Nat → Nat × Nat) (a1 a2 : Nat) (c0 : n < big): CM Try.prog 36 [.ro 2 n (fun j => ptM (p j)), .agg [.f .f64 a1, .f .f64 a2]] (.tup [.i .i64 (rfarR n p a1 a2 : Nat), .i .i64 (rhasE n p a1 a2)]) [] true := by
  refine CM.of_genQ (exts := exts) (eqs := eqs) (inl := []) (sum := S35) extsOK eqsOK S35_ok fi36_ok 6 rfl fun cx => ?_

  have k0 : n < 4611686018427387904 := c0
  repeat' ((fail_if_success (with_reducible refine Side.mk ?_)); first | (refine Rest.mk (drawR_sound (E := genQ Try.prog exts eqs [] S35) (genQ_full extsOK eqsOK S35_ok).toEnvAll mixOK (hnd_sound (genQ_full extsOK eqsOK S35_ok) 6) ?_)) | ((fail_if_success (with_reducible refine Rest.mk ?_)); first | (with_reducible exact True.intro) | (with_reducible refine Need.mk ?_ ?_) | (with_reducible refine And.intro ?_ ?_) | (with_reducible intro _) | ((fail_if_success (with_reducible refine FinS.mk ?_)); (fail_if_success (with_reducible refine Le.mk ?_)); (conv => whnf)) | (refine FinS.b ?_) | (refine FinS.lb ?_) | (refine FinS.i ?_) | (refine FinS.f ?_) | (refine FinS.agg ?_) | (refine FinS.tup ?_)))
  all_goals (try (refine Side.mk ?_; (try simp only [pOf_pt, eq_self, decide_eq_true_eq, decide_eq_false_iff_not, Int.ofNat_lt, Int.ofNat_le, gt_iff_lt, ge_iff_le, true_and, Bool.not_eq_true', Bool.not_eq_false'] at *); all_goals first | (with_reducible exact (rhasE_1 (by assumption)).symm) | (with_reducible exact (rhasE_2 (by assumption) (by assumption)).symm) | (with_reducible exact rfarR_1 (by rw [rhasE_1 (by assumption)]; assumption)) | (with_reducible exact rfarR_1 (by rw [rhasE_2 (by assumption) (by assumption)]; exact ne0 (by decide))) | (with_reducible rfl) | trivial | omega | rfl | exact fun _ _ => trivial | exact ⟨rfl, rfl⟩ | exact ⟨rfl, fun _ _ => rfl⟩ | exact ⟨rfl, rfl, fun _ _ => rfl⟩ | exact ⟨by omega, trivial⟩ | exact i64_id (by omega) (by omega) | (exact ⟨isPts_pt _ _, c0⟩) | ((have := rcheck_ge (by assumption); omega))))
  rename_i hc hw
  have hE : rhasE n p a1 a2 = 0 := rhasE_3 hc (notf hw)
  have hn := rcheck_ge hc
  clear hw
  refine loop_ruleC (E := genQ Try.prog exts eqs [] S35) (genQ_full extsOK eqsOK S35_ok).toEnvAll (hnd_sound (E := genQ Try.prog exts eqs [] S35) (genQ_full extsOK eqsOK S35_ok) 6) (fun t => ⟨[(0, .ro 2 n (fun j => ptM (p j))), (3, .p 0 0), (7, .i .i64 (bst p (a1, a2) (t + 1) : Nat)), (8, .i .i64 ((t + 1 : Nat) : Int))], [], [(0, .cells (ptM (a1, a2)))], 1⟩) (fun t => True) (n - 1) (Le.of ?_) ?_ ?_
  · conv => whnf
    repeat' ((fail_if_success (with_reducible refine Side.mk ?_)); first | (refine Rest.mk (drawR_sound (E := genQ Try.prog exts eqs [] S35) (genQ_full extsOK eqsOK S35_ok).toEnvAll mixOK (hnd_sound (genQ_full extsOK eqsOK S35_ok) 6) ?_)) | ((fail_if_success (with_reducible refine Rest.mk ?_)); first | (with_reducible exact True.intro) | (with_reducible refine Need.mk ?_ ?_) | (with_reducible refine And.intro ?_ ?_) | (with_reducible intro _) | ((fail_if_success (with_reducible refine FinS.mk ?_)); (fail_if_success (with_reducible refine Le.mk ?_)); (conv => whnf)) | (refine FinS.b ?_) | (refine FinS.lb ?_) | (refine FinS.i ?_) | (refine FinS.f ?_) | (refine FinS.agg ?_) | (refine FinS.tup ?_)))
    all_goals (try (refine Le.of ?_; (conv => whnf)))
    repeat' ((fail_if_success (with_reducible refine Side.mk ?_)); first | (refine Rest.mk (drawR_sound (E := genQ Try.prog exts eqs [] S35) (genQ_full extsOK eqsOK S35_ok).toEnvAll mixOK (hnd_sound (genQ_full extsOK eqsOK S35_ok) 6) ?_)) | ((fail_if_success (with_reducible refine Rest.mk ?_)); first | (with_reducible exact True.intro) | (with_reducible refine Need.mk ?_ ?_) | (with_reducible refine And.intro ?_ ?_) | (with_reducible intro _) | ((fail_if_success (with_reducible refine FinS.mk ?_)); (fail_if_success (with_reducible refine Le.mk ?_)); (conv => whnf)) | (refine FinS.b ?_) | (refine FinS.lb ?_) | (refine FinS.i ?_) | (refine FinS.f ?_) | (refine FinS.agg ?_) | (refine FinS.tup ?_)))
    all_goals (try refine Side.mk ?_)
    all_goals (try simp only [pOf_pt, eq_self, decide_eq_true_eq, decide_eq_false_iff_not, Int.ofNat_lt, Int.ofNat_le, gt_iff_lt, ge_iff_le, true_and, Bool.not_eq_true', Bool.not_eq_false'] at *)
    all_goals first | (with_reducible rfl) | trivial | omega | exact fun _ _ => trivial | exact i64_id (by omega) (by omega) | ((rw [bst_1]; rfl)) | rfl | exact fun _ _ => trivial | exact ⟨rfl, rfl⟩ | exact ⟨rfl, fun _ _ => rfl⟩ | exact ⟨rfl, rfl, fun _ _ => rfl⟩ | exact ⟨by omega, trivial⟩ | exact i64_id (by omega) (by omega)
  · trivial
  · intro t ht _
    have hb := bst_lt (p := p) (w := (a1, a2)) (n := n) (by omega)
    repeat' ((fail_if_success (with_reducible refine Side.mk ?_)); first | (refine Rest.mk (drawR_sound (E := genQ Try.prog exts eqs [] S35) (genQ_full extsOK eqsOK S35_ok).toEnvAll mixOK (hnd_sound (genQ_full extsOK eqsOK S35_ok) 6) ?_)) | ((fail_if_success (with_reducible refine Rest.mk ?_)); first | (with_reducible exact True.intro) | (with_reducible refine Need.mk ?_ ?_) | (with_reducible refine And.intro ?_ ?_) | (with_reducible intro _) | ((fail_if_success (with_reducible refine FinS.mk ?_)); (fail_if_success (with_reducible refine Le.mk ?_)); (conv => whnf)) | (refine FinS.b ?_) | (refine FinS.lb ?_) | (refine FinS.i ?_) | (refine FinS.f ?_) | (refine FinS.agg ?_) | (refine FinS.tup ?_)))
    all_goals (try (refine Le.of ?_; (conv => whnf)))
    repeat' ((fail_if_success (with_reducible refine Side.mk ?_)); first | (refine Rest.mk (drawR_sound (E := genQ Try.prog exts eqs [] S35) (genQ_full extsOK eqsOK S35_ok).toEnvAll mixOK (hnd_sound (genQ_full extsOK eqsOK S35_ok) 6) ?_)) | ((fail_if_success (with_reducible refine Rest.mk ?_)); first | (with_reducible exact True.intro) | (with_reducible refine Need.mk ?_ ?_) | (with_reducible refine And.intro ?_ ?_) | (with_reducible intro _) | ((fail_if_success (with_reducible refine FinS.mk ?_)); (fail_if_success (with_reducible refine Le.mk ?_)); (conv => whnf)) | (refine FinS.b ?_) | (refine FinS.lb ?_) | (refine FinS.i ?_) | (refine FinS.f ?_) | (refine FinS.agg ?_) | (refine FinS.tup ?_)))
    all_goals (try refine Side.mk ?_)
    all_goals (try simp only [pOf_pt, eq_self, decide_eq_true_eq, decide_eq_false_iff_not, Int.ofNat_lt, Int.ofNat_le, gt_iff_lt, ge_iff_le, true_and, Bool.not_eq_true', Bool.not_eq_false'] at *)
    all_goals (try first | (with_reducible exact hE.symm) | (with_reducible exact rfarR_0 hE (by omega)) | (with_reducible rfl) | trivial | omega | exact fun _ _ => trivial | exact i64_id (by omega) (by omega) | exact ⟨rfl, fun _ _ => rfl⟩ | exact ⟨by omega, trivial⟩ | exact ⟨trivial, trivial⟩ | (have := hb (t + 1) (by omega); omega))
    · rename_i hF _; exact congrArg (fun (x : Nat) => (x : Int)) (bst_t hF rfl rfl)
    · rename_i hF _; exact congrArg (fun (x : Nat) => (x : Int)) (bst_f hF rfl rfl)
noncomputable def g36 : List MV → Option (List Prop × MV × List Blk × Bool)
  | [.ro 2 n get, .agg [.f .f64 a1, .f .f64 a2]] => some ([isPts n get, n < big], .tup [.i .i64 (rfarR n (pOf get) a1 a2 : Nat), .i .i64 (rhasE n (pOf get) a1 a2)], [], false)
  | _ => none
theorem s36 : SumsOK Try.prog (sumOf 36 g36 S35) := by
  refine SumsOK.add S35_ok fun ms ps m blks al e hp => ?_
  unfold g36 at e
  split at e
  · cases e
    exact (le_arg1 (t36 _ (pOf _) _ _ (hp _ (.tail _ (.head _)))) (leR_pts (hp _ (.head _)))).aloneT rfl
  · cases e
noncomputable def S36 := sumOf 36 g36 S35
theorem S36_ok : SumsOK Try.prog S36 := s36
end Go.Ev.Poly
