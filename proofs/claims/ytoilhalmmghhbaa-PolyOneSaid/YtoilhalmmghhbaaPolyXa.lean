/-
  The contracts of what is weighed; for lists of 3 points at least and below 2^62.
-/
import Derived.Test.YtoilhalmmghhbaaPolyO
set_option linter.unusedSimpArgs false
set_option linter.unusedVariables false
open Go Go.Proofs
namespace Go.Ev.Poly
set_option maxRecDepth 100000
set_option maxHeartbeats 1000000
noncomputable def fi72 : FnI := ⟨16, Try.f72.body.getD .skip, [.cell 4 40], true⟩
theorem fi72_ok : fnGen Try.prog 72 = some fi72 := by kernel_rfl
theorem t72 (a1 : Nat) (a2 : Nat) (b1 : Nat) (b2 : Nat) : CM Try.prog 72 [.agg [.f .f64 a1, .f .f64 a2], .agg [.f .f64 b1, .f .f64 b2]] (.agg [.f .f64 (fadd .f64 a1 b1), .f .f64 (fadd .f64 a2 b2)]) [] true := by
  refine CM.of_genQ (exts := exts) (eqs := eqs) (inl := []) (sum := S17) extsOK eqsOK S17_ok fi72_ok 6 rfl fun cx => ?_
  repeat' ((fail_if_success (with_reducible refine Side.mk ?_)); first | (refine Rest.mk (drawR_sound (E := genQ Try.prog exts eqs [] S17) (genQ_full extsOK eqsOK S17_ok).toEnvAll mixOK (hnd_sound (genQ_full extsOK eqsOK S17_ok) 6) ?_)) | ((fail_if_success (with_reducible refine Rest.mk ?_)); first | (with_reducible exact True.intro) | (with_reducible refine Need.mk ?_ ?_) | (with_reducible refine And.intro ?_ ?_) | (with_reducible intro _) | ((fail_if_success (with_reducible refine FinS.mk ?_)); (fail_if_success (with_reducible refine Le.mk ?_)); (conv => whnf)) | (refine FinS.b ?_) | (refine FinS.lb ?_) | (refine FinS.i ?_) | (refine FinS.f ?_) | (refine FinS.agg ?_) | (refine FinS.tup ?_)))
  all_goals first | exact ⟨rfl⟩ | exact ⟨⟨rfl, rfl⟩⟩
noncomputable def g72 : List MV → Option (List Prop × MV × List Blk × Bool)
  | [.agg [.f .f64 a1, .f .f64 a2], .agg [.f .f64 b1, .f .f64 b2]] => some ([], (.agg [.f .f64 (fadd .f64 a1 b1), .f .f64 (fadd .f64 a2 b2)]), [], false)
  | _ => none
theorem s72 : SumsOK Try.prog (sumOf 72 g72 S17) := by
  refine SumsOK.add S17_ok fun ms ps m blks al e hp => ?_
  unfold g72 at e
  split at e
  · cases e; exact (t72 _ _ _ _ ).aloneT rfl
  · cases e
noncomputable def S72 := sumOf 72 g72 S17
theorem S72_ok : SumsOK Try.prog S72 := s72
noncomputable def fi43 : FnI := ⟨14, Try.f43.body.getD .skip, [.cell 4 40], true⟩
theorem fi43_ok : fnGen Try.prog 43 = some fi43 := by kernel_rfl
theorem t43 (a1 : Nat) (a2 : Nat) (x : Nat) : CM Try.prog 43 [.agg [.f .f64 a1, .f .f64 a2], .f .f64 x] (.agg [.f .f64 (fmul .f64 a1 x), .f .f64 (fmul .f64 a2 x)]) [] true := by
  refine CM.of_genQ (exts := exts) (eqs := eqs) (inl := []) (sum := S72) extsOK eqsOK S72_ok fi43_ok 6 rfl fun cx => ?_
  repeat' ((fail_if_success (with_reducible refine Side.mk ?_)); first | (refine Rest.mk (drawR_sound (E := genQ Try.prog exts eqs [] S72) (genQ_full extsOK eqsOK S72_ok).toEnvAll mixOK (hnd_sound (genQ_full extsOK eqsOK S72_ok) 6) ?_)) | ((fail_if_success (with_reducible refine Rest.mk ?_)); first | (with_reducible exact True.intro) | (with_reducible refine Need.mk ?_ ?_) | (with_reducible refine And.intro ?_ ?_) | (with_reducible intro _) | ((fail_if_success (with_reducible refine FinS.mk ?_)); (fail_if_success (with_reducible refine Le.mk ?_)); (conv => whnf)) | (refine FinS.b ?_) | (refine FinS.lb ?_) | (refine FinS.i ?_) | (refine FinS.f ?_) | (refine FinS.agg ?_) | (refine FinS.tup ?_)))
  all_goals first | exact ⟨rfl⟩ | exact ⟨⟨rfl, rfl⟩⟩
noncomputable def g43 : List MV → Option (List Prop × MV × List Blk × Bool)
  | [.agg [.f .f64 a1, .f .f64 a2], .f .f64 x] => some ([], (.agg [.f .f64 (fmul .f64 a1 x), .f .f64 (fmul .f64 a2 x)]), [], false)
  | _ => none
theorem s43 : SumsOK Try.prog (sumOf 43 g43 S72) := by
  refine SumsOK.add S72_ok fun ms ps m blks al e hp => ?_
  unfold g43 at e
  split at e
  · cases e; exact (t43 _ _ _ ).aloneT rfl
  · cases e
noncomputable def S43 := sumOf 43 g43 S72
theorem S43_ok : SumsOK Try.prog S43 := s43
def crF (p : Nat → Nat × Nat) (i : Nat) : Nat := crsV (subV (p i) (p 0)) (subV (p (i + 1)) (p 0))
def paF (p : Nat → Nat × Nat) (i : Nat) : Nat × Nat := (fmul .f64 (fadd .f64 (subV (p i) (p 0)).1 (subV (p (i + 1)) (p 0)).1) (crF p i), fmul .f64 (fadd .f64 (subV (p i) (p 0)).2 (subV (p (i + 1)) (p 0)).2) (crF p i))
def smV (p : Nat → Nat × Nat) : Nat → Nat
  | 0 => 0
  | t + 1 => bif (((t + 1 : Nat) : Int) == 1) then crF p (t + 1) else fadd .f64 (smV p t) (crF p (t + 1))
def mmV (p : Nat → Nat × Nat) : Nat → Nat × Nat
  | 0 => (0, 0)
  | t + 1 => bif (((t + 1 : Nat) : Int) == 1) then paF p (t + 1) else (fadd .f64 (mmV p t).1 (paF p (t + 1)).1, fadd .f64 (mmV p t).2 (paF p (t + 1)).2)
theorem sm_t {p : Nat → Nat × Nat} {t x : Nat} (h : (((t + 1 : Nat) : Int) == 1) = true) (hx : x = crF p (t + 1)) : x = smV p (t + 1) := by
  show x = bif (((t + 1 : Nat) : Int) == 1) then crF p (t + 1) else fadd .f64 (smV p t) (crF p (t + 1))
  rw [h]; exact hx
theorem sm_f {p : Nat → Nat × Nat} {t x : Nat} (h : (((t + 1 : Nat) : Int) == 1) = false) (hx : x = crF p (t + 1)) : fadd .f64 (smV p t) x = smV p (t + 1) := by
  show _ = bif (((t + 1 : Nat) : Int) == 1) then crF p (t + 1) else fadd .f64 (smV p t) (crF p (t + 1))
  rw [h, hx]; rfl
theorem mm_t1 {p : Nat → Nat × Nat} {t x : Nat} (h : (((t + 1 : Nat) : Int) == 1) = true) (hx : x = (paF p (t + 1)).1) : x = (mmV p (t + 1)).1 := by
  show x = (bif (((t + 1 : Nat) : Int) == 1) then paF p (t + 1) else (fadd .f64 (mmV p t).1 (paF p (t + 1)).1, fadd .f64 (mmV p t).2 (paF p (t + 1)).2)).1
  rw [h]; exact hx
theorem mm_f1 {p : Nat → Nat × Nat} {t x : Nat} (h : (((t + 1 : Nat) : Int) == 1) = false) (hx : x = (paF p (t + 1)).1) : fadd .f64 (mmV p t).1 x = (mmV p (t + 1)).1 := by
  show _ = (bif (((t + 1 : Nat) : Int) == 1) then paF p (t + 1) else (fadd .f64 (mmV p t).1 (paF p (t + 1)).1, fadd .f64 (mmV p t).2 (paF p (t + 1)).2)).1
  rw [h, hx]; rfl
theorem mm_t2 {p : Nat → Nat × Nat} {t x : Nat} (h : (((t + 1 : Nat) : Int) == 1) = true) (hx : x = (paF p (t + 1)).2) : x = (mmV p (t + 1)).2 := by
  show x = (bif (((t + 1 : Nat) : Int) == 1) then paF p (t + 1) else (fadd .f64 (mmV p t).1 (paF p (t + 1)).1, fadd .f64 (mmV p t).2 (paF p (t + 1)).2)).2
  rw [h]; exact hx
theorem mm_f2 {p : Nat → Nat × Nat} {t x : Nat} (h : (((t + 1 : Nat) : Int) == 1) = false) (hx : x = (paF p (t + 1)).2) : fadd .f64 (mmV p t).2 x = (mmV p (t + 1)).2 := by
  show _ = (bif (((t + 1 : Nat) : Int) == 1) then paF p (t + 1) else (fadd .f64 (mmV p t).1 (paF p (t + 1)).1, fadd .f64 (mmV p t).2 (paF p (t + 1)).2)).2
  rw [h, hx]; rfl
theorem sub_w {n : Nat} (h : n < 4611686018427387904) : IntKind.i64.wrap ((n : Int) - 1) = (n : Int) - 1 := i64_wrap (by omega) (by omega)
theorem ne0 {x : Int} (h : x ≠ 0) : (x != 0) = true := by simpa using h
theorem wrap_s {t : Nat} (h : t < 4611686018427387904) : IntKind.i64.wrap (((t + 1 : Nat) : Int) + 1) = ((t + 1 + 1 : Nat) : Int) := i64_wrap (by omega) (by omega)
theorem sm_to {p : Nat → Nat × Nat} {t m : Nat} (h : t = m) : smV p t = smV p m := by rw [h]
theorem mm_to1 {p : Nat → Nat × Nat} {t m : Nat} (h : t = m) : (mmV p t).1 = (mmV p m).1 := by rw [h]
theorem mm_to2 {p : Nat → Nat × Nat} {t m : Nat} (h : t = m) : (mmV p t).2 = (mmV p m).2 := by rw [h]
noncomputable def fi70 : FnI := ⟨53, Try.f70.body.getD .skip, [.tmp 2, .cell 3 40], true⟩
theorem fi70_ok : fnGen Try.prog 70 = some fi70 := by kernel_rfl
theorem t70 (n : Nat) (p : Nat → Nat × Nat) (c0 : 3 ≤ n) (c1 : n < big): CM Try.prog 70 [.ro 2 n (fun j => ptM (p j))] (.tup [.f .f64 (smV p (n - 2)), .agg (ptM (mmV p (n - 2)))]) [] true := by
  refine CM.of_genQ (exts := exts) (eqs := eqs) (inl := []) (sum := S43) extsOK eqsOK S43_ok fi70_ok 6 rfl fun cx => ?_

  have k0 : n < 4611686018427387904 := c1
  have kw := sub_w k0
  repeat' ((fail_if_success (with_reducible refine Side.mk ?_)); first | (refine Rest.mk (drawR_sound (E := genQ Try.prog exts eqs [] S43) (genQ_full extsOK eqsOK S43_ok).toEnvAll mixOK (hnd_sound (genQ_full extsOK eqsOK S43_ok) 6) ?_)) | ((fail_if_success (with_reducible refine Rest.mk ?_)); first | (with_reducible exact True.intro) | (with_reducible refine Need.mk ?_ ?_) | (with_reducible refine And.intro ?_ ?_) | (with_reducible intro _) | ((fail_if_success (with_reducible refine FinS.mk ?_)); (fail_if_success (with_reducible refine Le.mk ?_)); (conv => whnf)) | (refine FinS.b ?_) | (refine FinS.lb ?_) | (refine FinS.i ?_) | (refine FinS.f ?_) | (refine FinS.agg ?_) | (refine FinS.tup ?_)))
  refine loop_ruleC (E := genQ Try.prog exts eqs [] S43) (genQ_full extsOK eqsOK S43_ok).toEnvAll (hnd_sound (E := genQ Try.prog exts eqs [] S43) (genQ_full extsOK eqsOK S43_ok) 6) (fun t => ⟨[(0, .ro 2 n (fun j => ptM (p j))), (2, .f .f64 (smV p t)), (3, .p 0 0), (4, .i .i64 ((t + 1 : Nat) : Int))], [], [(0, .cells (ptM (mmV p t)))], 1⟩) (fun t => True) (n - 2) (Le.of ?_) ?_ ?_
  · conv => whnf
    repeat' ((fail_if_success (with_reducible refine Side.mk ?_)); first | (refine Rest.mk (drawR_sound (E := genQ Try.prog exts eqs [] S43) (genQ_full extsOK eqsOK S43_ok).toEnvAll mixOK (hnd_sound (genQ_full extsOK eqsOK S43_ok) 6) ?_)) | ((fail_if_success (with_reducible refine Rest.mk ?_)); first | (with_reducible exact True.intro) | (with_reducible refine Need.mk ?_ ?_) | (with_reducible refine And.intro ?_ ?_) | (with_reducible intro _) | ((fail_if_success (with_reducible refine FinS.mk ?_)); (fail_if_success (with_reducible refine Le.mk ?_)); (conv => whnf)) | (refine FinS.b ?_) | (refine FinS.lb ?_) | (refine FinS.i ?_) | (refine FinS.f ?_) | (refine FinS.agg ?_) | (refine FinS.tup ?_)))
    all_goals (try (refine Le.of ?_; (conv => whnf)))
    repeat' ((fail_if_success (with_reducible refine Side.mk ?_)); first | (refine Rest.mk (drawR_sound (E := genQ Try.prog exts eqs [] S43) (genQ_full extsOK eqsOK S43_ok).toEnvAll mixOK (hnd_sound (genQ_full extsOK eqsOK S43_ok) 6) ?_)) | ((fail_if_success (with_reducible refine Rest.mk ?_)); first | (with_reducible exact True.intro) | (with_reducible refine Need.mk ?_ ?_) | (with_reducible refine And.intro ?_ ?_) | (with_reducible intro _) | ((fail_if_success (with_reducible refine FinS.mk ?_)); (fail_if_success (with_reducible refine Le.mk ?_)); (conv => whnf)) | (refine FinS.b ?_) | (refine FinS.lb ?_) | (refine FinS.i ?_) | (refine FinS.f ?_) | (refine FinS.agg ?_) | (refine FinS.tup ?_)))
    all_goals (try refine Side.mk ?_)
    all_goals (try simp only [pOf_pt, eq_self, decide_eq_true_eq, decide_eq_false_iff_not, Int.ofNat_lt, Int.ofNat_le, gt_iff_lt, ge_iff_le, true_and, Bool.not_eq_true', Bool.not_eq_false'] at *)
    all_goals first | (with_reducible rfl) | trivial | omega | rfl | exact fun _ _ => trivial | exact ⟨rfl, rfl⟩ | exact ⟨rfl, fun _ _ => rfl⟩ | exact ⟨rfl, rfl, fun _ _ => rfl⟩ | exact ⟨by omega, trivial⟩ | exact i64_id (by omega) (by omega)
  · trivial
  · intro t ht _
    repeat' ((fail_if_success (with_reducible refine Side.mk ?_)); first | (refine Rest.mk (drawR_sound (E := genQ Try.prog exts eqs [] S43) (genQ_full extsOK eqsOK S43_ok).toEnvAll mixOK (hnd_sound (genQ_full extsOK eqsOK S43_ok) 6) ?_)) | ((fail_if_success (with_reducible refine Rest.mk ?_)); first | (with_reducible exact True.intro) | (with_reducible refine Need.mk ?_ ?_) | (with_reducible refine And.intro ?_ ?_) | (with_reducible intro _) | ((fail_if_success (with_reducible refine FinS.mk ?_)); (fail_if_success (with_reducible refine Le.mk ?_)); (conv => whnf)) | (refine FinS.b ?_) | (refine FinS.lb ?_) | (refine FinS.i ?_) | (refine FinS.f ?_) | (refine FinS.agg ?_) | (refine FinS.tup ?_)))
    all_goals (try (refine Le.of ?_; (conv => whnf)))
    repeat' ((fail_if_success (with_reducible refine Side.mk ?_)); first | (refine Rest.mk (drawR_sound (E := genQ Try.prog exts eqs [] S43) (genQ_full extsOK eqsOK S43_ok).toEnvAll mixOK (hnd_sound (genQ_full extsOK eqsOK S43_ok) 6) ?_)) | ((fail_if_success (with_reducible refine Rest.mk ?_)); first | (with_reducible exact True.intro) | (with_reducible refine Need.mk ?_ ?_) | (with_reducible refine And.intro ?_ ?_) | (with_reducible intro _) | ((fail_if_success (with_reducible refine FinS.mk ?_)); (fail_if_success (with_reducible refine Le.mk ?_)); (conv => whnf)) | (refine FinS.b ?_) | (refine FinS.lb ?_) | (refine FinS.i ?_) | (refine FinS.f ?_) | (refine FinS.agg ?_) | (refine FinS.tup ?_)))
    all_goals (try refine Side.mk ?_)
    all_goals (try simp only [kw, wrap_s (show t < 4611686018427387904 by omega), Int.toNat_natCast, Int.toNat_zero] at *)
    all_goals (try simp only [pOf_pt, eq_self, decide_eq_true_eq, decide_eq_false_iff_not, Int.ofNat_lt, Int.ofNat_le, gt_iff_lt, ge_iff_le, true_and, Bool.not_eq_true', Bool.not_eq_false'] at *)
    all_goals first | (with_reducible rfl) | trivial | omega | rfl | exact fun _ _ => trivial | exact ⟨rfl, rfl⟩ | exact ⟨rfl, fun _ _ => rfl⟩ | exact ⟨rfl, rfl, fun _ _ => rfl⟩ | exact ⟨by omega, trivial⟩ | exact i64_id (by omega) (by omega) | (exact ⟨by omega, by omega⟩) | (refine sm_t (by assumption) ?_; rfl) | (refine sm_f (by assumption) ?_; rfl) | (refine mm_t1 (by assumption) ?_; rfl) | (refine mm_t2 (by assumption) ?_; rfl) | (refine mm_f1 (by assumption) ?_; rfl) | (refine mm_f2 (by assumption) ?_; rfl) | (refine sm_to ?_; omega) | (refine mm_to1 ?_; omega) | (refine mm_to2 ?_; omega)
noncomputable def g70 : List MV → Option (List Prop × MV × List Blk × Bool)
  | [.ro 2 n get] => some ([isPts n get, 3 ≤ n, n < big], .tup [.f .f64 (smV (pOf get) (n - 2)), .agg (ptM (mmV (pOf get) (n - 2)))], [], false)
  | _ => none
theorem s70 : SumsOK Try.prog (sumOf 70 g70 S43) := by
  refine SumsOK.add S43_ok fun ms ps m blks al e hp => ?_
  unfold g70 at e
  split at e
  · cases e
    exact (le_arg1 (t70 _ (pOf _) (hp _ (.tail _ (.head _))) (hp _ (.tail _ (.tail _ (.head _))))) (leR_pts (hp _ (.head _)))).aloneT rfl
  · cases e
noncomputable def S70 := sumOf 70 g70 S43
theorem S70_ok : SumsOK Try.prog S70 := s70
noncomputable def fi71 : FnI := ⟨38, Try.f71.body.getD .skip, [.tmp 2], true⟩
theorem fi71_ok : fnGen Try.prog 71 = some fi71 := by kernel_rfl
theorem t71 (n : Nat) (p : Nat → Nat × Nat) (c0 : 3 ≤ n) (c1 : n < big): CM Try.prog 71 [.ro 2 n (fun j => ptM (p j))] (.f .f64 (smV p (n - 2))) [] true := by
  refine CM.of_genQ (exts := exts) (eqs := eqs) (inl := []) (sum := S70) extsOK eqsOK S70_ok fi71_ok 6 rfl fun cx => ?_

  have k0 : n < 4611686018427387904 := c1
  have kw := sub_w k0
  repeat' ((fail_if_success (with_reducible refine Side.mk ?_)); first | (refine Rest.mk (drawR_sound (E := genQ Try.prog exts eqs [] S70) (genQ_full extsOK eqsOK S70_ok).toEnvAll mixOK (hnd_sound (genQ_full extsOK eqsOK S70_ok) 6) ?_)) | ((fail_if_success (with_reducible refine Rest.mk ?_)); first | (with_reducible exact True.intro) | (with_reducible refine Need.mk ?_ ?_) | (with_reducible refine And.intro ?_ ?_) | (with_reducible intro _) | ((fail_if_success (with_reducible refine FinS.mk ?_)); (fail_if_success (with_reducible refine Le.mk ?_)); (conv => whnf)) | (refine FinS.b ?_) | (refine FinS.lb ?_) | (refine FinS.i ?_) | (refine FinS.f ?_) | (refine FinS.agg ?_) | (refine FinS.tup ?_)))
  refine loop_ruleC (E := genQ Try.prog exts eqs [] S70) (genQ_full extsOK eqsOK S70_ok).toEnvAll (hnd_sound (E := genQ Try.prog exts eqs [] S70) (genQ_full extsOK eqsOK S70_ok) 6) (fun t => ⟨[(0, .ro 2 n (fun j => ptM (p j))), (3, .f .f64 (smV p t)), (4, .i .i64 ((t + 1 : Nat) : Int))], [], [], 0⟩) (fun t => True) (n - 2) (Le.of ?_) ?_ ?_
  · conv => whnf
    repeat' ((fail_if_success (with_reducible refine Side.mk ?_)); first | (refine Rest.mk (drawR_sound (E := genQ Try.prog exts eqs [] S70) (genQ_full extsOK eqsOK S70_ok).toEnvAll mixOK (hnd_sound (genQ_full extsOK eqsOK S70_ok) 6) ?_)) | ((fail_if_success (with_reducible refine Rest.mk ?_)); first | (with_reducible exact True.intro) | (with_reducible refine Need.mk ?_ ?_) | (with_reducible refine And.intro ?_ ?_) | (with_reducible intro _) | ((fail_if_success (with_reducible refine FinS.mk ?_)); (fail_if_success (with_reducible refine Le.mk ?_)); (conv => whnf)) | (refine FinS.b ?_) | (refine FinS.lb ?_) | (refine FinS.i ?_) | (refine FinS.f ?_) | (refine FinS.agg ?_) | (refine FinS.tup ?_)))
    all_goals (try (refine Le.of ?_; (conv => whnf)))
    repeat' ((fail_if_success (with_reducible refine Side.mk ?_)); first | (refine Rest.mk (drawR_sound (E := genQ Try.prog exts eqs [] S70) (genQ_full extsOK eqsOK S70_ok).toEnvAll mixOK (hnd_sound (genQ_full extsOK eqsOK S70_ok) 6) ?_)) | ((fail_if_success (with_reducible refine Rest.mk ?_)); first | (with_reducible exact True.intro) | (with_reducible refine Need.mk ?_ ?_) | (with_reducible refine And.intro ?_ ?_) | (with_reducible intro _) | ((fail_if_success (with_reducible refine FinS.mk ?_)); (fail_if_success (with_reducible refine Le.mk ?_)); (conv => whnf)) | (refine FinS.b ?_) | (refine FinS.lb ?_) | (refine FinS.i ?_) | (refine FinS.f ?_) | (refine FinS.agg ?_) | (refine FinS.tup ?_)))
    all_goals (try refine Side.mk ?_)
    all_goals (try simp only [pOf_pt, eq_self, decide_eq_true_eq, decide_eq_false_iff_not, Int.ofNat_lt, Int.ofNat_le, gt_iff_lt, ge_iff_le, true_and, Bool.not_eq_true', Bool.not_eq_false'] at *)
    all_goals first | (with_reducible rfl) | trivial | omega | rfl | exact fun _ _ => trivial | exact ⟨rfl, rfl⟩ | exact ⟨rfl, fun _ _ => rfl⟩ | exact ⟨rfl, rfl, fun _ _ => rfl⟩ | exact ⟨by omega, trivial⟩ | exact i64_id (by omega) (by omega)
  · trivial
  · intro t ht _
    repeat' ((fail_if_success (with_reducible refine Side.mk ?_)); first | (refine Rest.mk (drawR_sound (E := genQ Try.prog exts eqs [] S70) (genQ_full extsOK eqsOK S70_ok).toEnvAll mixOK (hnd_sound (genQ_full extsOK eqsOK S70_ok) 6) ?_)) | ((fail_if_success (with_reducible refine Rest.mk ?_)); first | (with_reducible exact True.intro) | (with_reducible refine Need.mk ?_ ?_) | (with_reducible refine And.intro ?_ ?_) | (with_reducible intro _) | ((fail_if_success (with_reducible refine FinS.mk ?_)); (fail_if_success (with_reducible refine Le.mk ?_)); (conv => whnf)) | (refine FinS.b ?_) | (refine FinS.lb ?_) | (refine FinS.i ?_) | (refine FinS.f ?_) | (refine FinS.agg ?_) | (refine FinS.tup ?_)))
    all_goals (try (refine Le.of ?_; (conv => whnf)))
    repeat' ((fail_if_success (with_reducible refine Side.mk ?_)); first | (refine Rest.mk (drawR_sound (E := genQ Try.prog exts eqs [] S70) (genQ_full extsOK eqsOK S70_ok).toEnvAll mixOK (hnd_sound (genQ_full extsOK eqsOK S70_ok) 6) ?_)) | ((fail_if_success (with_reducible refine Rest.mk ?_)); first | (with_reducible exact True.intro) | (with_reducible refine Need.mk ?_ ?_) | (with_reducible refine And.intro ?_ ?_) | (with_reducible intro _) | ((fail_if_success (with_reducible refine FinS.mk ?_)); (fail_if_success (with_reducible refine Le.mk ?_)); (conv => whnf)) | (refine FinS.b ?_) | (refine FinS.lb ?_) | (refine FinS.i ?_) | (refine FinS.f ?_) | (refine FinS.agg ?_) | (refine FinS.tup ?_)))
    all_goals (try refine Side.mk ?_)
    all_goals (try simp only [kw, wrap_s (show t < 4611686018427387904 by omega), Int.toNat_natCast, Int.toNat_zero] at *)
    all_goals (try simp only [pOf_pt, eq_self, decide_eq_true_eq, decide_eq_false_iff_not, Int.ofNat_lt, Int.ofNat_le, gt_iff_lt, ge_iff_le, true_and, Bool.not_eq_true', Bool.not_eq_false'] at *)
    all_goals first | (with_reducible rfl) | trivial | omega | rfl | exact fun _ _ => trivial | exact ⟨rfl, rfl⟩ | exact ⟨rfl, fun _ _ => rfl⟩ | exact ⟨rfl, rfl, fun _ _ => rfl⟩ | exact ⟨by omega, trivial⟩ | exact i64_id (by omega) (by omega) | (exact ⟨by omega, by omega⟩) | (refine sm_t (by assumption) ?_; rfl) | (refine sm_f (by assumption) ?_; rfl) | (refine mm_t1 (by assumption) ?_; rfl) | (refine mm_t2 (by assumption) ?_; rfl) | (refine mm_f1 (by assumption) ?_; rfl) | (refine mm_f2 (by assumption) ?_; rfl) | (refine sm_to ?_; omega) | (refine mm_to1 ?_; omega) | (refine mm_to2 ?_; omega)
noncomputable def g71 : List MV → Option (List Prop × MV × List Blk × Bool)
  | [.ro 2 n get] => some ([isPts n get, 3 ≤ n, n < big], .f .f64 (smV (pOf get) (n - 2)), [], false)
  | _ => none
theorem s71 : SumsOK Try.prog (sumOf 71 g71 S70) := by
  refine SumsOK.add S70_ok fun ms ps m blks al e hp => ?_
  unfold g71 at e
  split at e
  · cases e
    exact (le_arg1 (t71 _ (pOf _) (hp _ (.tail _ (.head _))) (hp _ (.tail _ (.tail _ (.head _))))) (leR_pts (hp _ (.head _)))).aloneT rfl
  · cases e
noncomputable def S71 := sumOf 71 g71 S70
theorem S71_ok : SumsOK Try.prog S71 := s71
end Go.Ev.Poly
