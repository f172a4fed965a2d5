/-
  The walk of the law on segments, case by case; for all floats.
-/
import Derived.Test.YtbehddngdjfkhaaClipU
import Derived.Test.YtbehddngdjfkhaaClipW
import Derived.Test.YtbehddngdjfkhaaClipAw
open Go Go.Proofs
namespace Go.Ev.Clip
set_option maxRecDepth 100000
set_option maxHeartbeats 4000000
def g7 : List MV → Option (List Prop × MV × List Blk × Bool)
  | [] => some ([], .b true, [], false)
  | _ => none
theorem s7 : SumsOK Try.prog (sumOf 7 g7 S9) := by
  refine SumsOK.add S9_ok fun ms ps m blks al e hp => ?_
  unfold g7 at e
  split at e
  · cases e; exact t7.aloneT rfl
  · cases e
def S7 := sumOf 7 g7 S9
theorem S7_ok : SumsOK Try.prog S7 := s7
def g10e : List MV → Option (List Prop × MV × List Blk × Bool)
  | [.agg [.f .f64 nx, .f .f64 ny, .f .f64 pf], .agg [.f .f64 a1, .f .f64 a2], .agg [.f .f64 b1, .f .f64 b2]] => some ([(ask2 nx ny pf a1 a2 b1 b2 != 0) = true], (.tup [.nils, .nils, .i .i64 (ask2 nx ny pf a1 a2 b1 b2)]), [], true)
  | _ => none
theorem s10e : SumsOK Try.prog (sumOf 10 g10e S7) := by
  refine SumsOK.add S7_ok fun ms ps m blks al e hp => ?_
  unfold g10e at e
  split at e
  · cases e; exact t10e _ _ _ _ _ _ _ (hp _ (by simp))
  · cases e
def S10e := sumOf 10 g10e S7
theorem S10e_ok : SumsOK Try.prog S10e := s10e
def g11e : List MV → Option (List Prop × MV × List Blk × Bool)
  | [.agg [.f .f64 nx, .f .f64 ny, .f .f64 pf], .agg [.f .f64 a1, .f .f64 a2], .agg [.f .f64 b1, .f .f64 b2]] => some ([((fst3 (bif rchk nx ny pf then 0 else 90) (bif aw a1 4787326403894837248 && aw a2 4787326403894837248 then 0 else 5) (bif aw b1 4787326403894837248 && aw b2 4787326403894837248 then 0 else 5)) != 0) = true], (.tup [.nils, .nils, .i .i64 (fst3 (bif rchk nx ny pf then 0 else 90) (bif aw a1 4787326403894837248 && aw a2 4787326403894837248 then 0 else 5) (bif aw b1 4787326403894837248 && aw b2 4787326403894837248 then 0 else 5))]), [], true)
  | _ => none
theorem s11e : SumsOK Try.prog (sumOf 11 g11e S10e) := by
  refine SumsOK.add S10e_ok fun ms ps m blks al e hp => ?_
  unfold g11e at e
  split at e
  · cases e; exact t11e _ _ _ _ _ _ _ (hp _ (by simp))
  · cases e
def S11e := sumOf 11 g11e S10e
theorem S11e_ok : SumsOK Try.prog S11e := s11e
noncomputable def fi3 : FnI := ⟨127, Try.f3.body.getD .skip, [.tmp 6], true⟩
theorem fi3_ok : fnGen Try.prog 3 = some fi3 := by kernel_rfl
theorem t3e (nx ny pf : Nat) (a1 a2 : Nat) (b1 b2 : Nat) (c0 : (ask2 nx ny pf a1 a2 b1 b2 != 0) = true) (c1 : ((fst3 (bif rchk nx ny pf then 0 else 90) (bif aw a1 4787326403894837248 && aw a2 4787326403894837248 then 0 else 5) (bif aw b1 4787326403894837248 && aw b2 4787326403894837248 then 0 else 5)) != 0) = true) (c2 : (fst3 (bif rchk nx ny pf then 0 else 90) (bif aw a1 4787326403894837248 && aw a2 4787326403894837248 then 0 else 5) (bif aw b1 4787326403894837248 && aw b2 4787326403894837248 then 0 else 5)) = ask2 nx ny pf a1 a2 b1 b2) (c3 : rfarV nx ny pf a1 a2 = farV nx ny pf a1 a2) (c4 : rask1 nx ny pf a1 a2 = ask1 nx ny pf a1 a2) (c5 : rchk nx ny pf = chk nx ny pf): CM Try.prog 3 [.agg [.f .f64 nx, .f .f64 ny, .f .f64 pf], .agg [.f .f64 a1, .f .f64 a2], .agg [.f .f64 b1, .f .f64 b2]] (.b true) [] true := by
  refine CM.of_genW (exts := exts) (eqs := eqs) (inl := []) (sum := S11e) extsOK eqsOK S11e_ok W13_ok fi3_ok 6 rfl fun cx => ?_
  repeat' ((fail_if_success (with_reducible refine Side.mk ?_)); first | (refine Rest.mk (drawR_sound (E := genQ Try.prog exts eqs [] S11e) (genQ_full extsOK eqsOK S11e_ok).toEnvAll mixOK (hndW_sound W13_ok (hnd_sound (E := genQ Try.prog exts eqs [] S11e) (genQ_full extsOK eqsOK S11e_ok) 6)) ?_)) | (refine RestL.loop (E := genQ Try.prog exts eqs [] S11e) ?_) | (refine RestL.stepW (E := genQ Try.prog exts eqs [] S11e) (genQ_full extsOK eqsOK S11e_ok) W13_ok 6 ?_) | ((fail_if_success (with_reducible refine RestL.mk ?_)); (fail_if_success (with_reducible refine Rest.mk ?_)); first | (with_reducible exact True.intro) | (with_reducible refine Need.mk ?_ ?_) | (with_reducible refine And.intro ?_ ?_) | (with_reducible intro hcl; try (exfalso; first | exact absurd hcl (by decide) | (simp_all only [isI_self, sameI_self]; done) | simp_all [isI_self, sameI_self]; done)) | ((fail_if_success (with_reducible refine FinS.mk ?_)); (conv => whnf)) | (refine FinS.b ?_) | (refine FinS.lb ?_) | (refine FinS.i ?_) | (refine FinS.f ?_) | (refine FinS.agg ?_) | (refine FinS.tup ?_)))
  all_goals (refine Side.mk ?_; first | assumption | decide | omega | (simp_all only [isI_self, sameI_self]; simp))
def g10n : List MV → Option (List Prop × MV × List Blk × Bool)
  | [.agg [.f .f64 nx, .f .f64 ny, .f .f64 pf], .agg [.f .f64 a1, .f .f64 a2], .agg [.f .f64 b1, .f .f64 b2]] => some ([(ask2 nx ny pf a1 a2 b1 b2 != 0) = false, fgt .f64 (fsub .f64 (dot nx ny a1 a2) pf) 0 = true, fgt .f64 (fsub .f64 (dot nx ny b1 b2) pf) 0 = true], (.tup [.nils, .nils, .i .i64 0]), [], true)
  | _ => none
theorem s10n : SumsOK Try.prog (sumOf 10 g10n S7) := by
  refine SumsOK.add S7_ok fun ms ps m blks al e hp => ?_
  unfold g10n at e
  split at e
  · cases e; exact t10n _ _ _ _ _ _ _ (hp _ (by simp)) (hp _ (by simp)) (hp _ (by simp))
  · cases e
def S10n := sumOf 10 g10n S7
theorem S10n_ok : SumsOK Try.prog S10n := s10n
def g11n : List MV → Option (List Prop × MV × List Blk × Bool)
  | [.agg [.f .f64 nx, .f .f64 ny, .f .f64 pf], .agg [.f .f64 a1, .f .f64 a2], .agg [.f .f64 b1, .f .f64 b2]] => some ([((fst3 (bif rchk nx ny pf then 0 else 90) (bif aw a1 4787326403894837248 && aw a2 4787326403894837248 then 0 else 5) (bif aw b1 4787326403894837248 && aw b2 4787326403894837248 then 0 else 5)) != 0) = false, fle .f64 (bey nx ny pf a1 a2) 0 = false, fle .f64 (bey nx ny pf b1 b2) 0 = false], (.tup [.nils, .nils, .i .i64 0]), [], true)
  | _ => none
theorem s11n : SumsOK Try.prog (sumOf 11 g11n S10n) := by
  refine SumsOK.add S10n_ok fun ms ps m blks al e hp => ?_
  unfold g11n at e
  split at e
  · cases e; exact t11n _ _ _ _ _ _ _ (hp _ (by simp)) (hp _ (by simp)) (hp _ (by simp))
  · cases e
def S11n := sumOf 11 g11n S10n
theorem S11n_ok : SumsOK Try.prog S11n := s11n
theorem t3n (nx ny pf : Nat) (a1 a2 : Nat) (b1 b2 : Nat) (c0 : (ask2 nx ny pf a1 a2 b1 b2 != 0) = false) (c1 : fgt .f64 (fsub .f64 (dot nx ny a1 a2) pf) 0 = true) (c2 : fgt .f64 (fsub .f64 (dot nx ny b1 b2) pf) 0 = true) (c3 : ((fst3 (bif rchk nx ny pf then 0 else 90) (bif aw a1 4787326403894837248 && aw a2 4787326403894837248 then 0 else 5) (bif aw b1 4787326403894837248 && aw b2 4787326403894837248 then 0 else 5)) != 0) = false) (c4 : fle .f64 (bey nx ny pf a1 a2) 0 = false) (c5 : fle .f64 (bey nx ny pf b1 b2) 0 = false) (c6 : (fst3 (bif rchk nx ny pf then 0 else 90) (bif aw a1 4787326403894837248 && aw a2 4787326403894837248 then 0 else 5) (bif aw b1 4787326403894837248 && aw b2 4787326403894837248 then 0 else 5)) = ask2 nx ny pf a1 a2 b1 b2) (c7 : rfarV nx ny pf a1 a2 = farV nx ny pf a1 a2) (c8 : rask1 nx ny pf a1 a2 = ask1 nx ny pf a1 a2) (c9 : rchk nx ny pf = chk nx ny pf): CM Try.prog 3 [.agg [.f .f64 nx, .f .f64 ny, .f .f64 pf], .agg [.f .f64 a1, .f .f64 a2], .agg [.f .f64 b1, .f .f64 b2]] (.b true) [] true := by
  refine CM.of_genW (exts := exts) (eqs := eqs) (inl := []) (sum := S11n) extsOK eqsOK S11n_ok W13_ok fi3_ok 6 rfl fun cx => ?_
  repeat' ((fail_if_success (with_reducible refine Side.mk ?_)); first | (refine Rest.mk (drawR_sound (E := genQ Try.prog exts eqs [] S11n) (genQ_full extsOK eqsOK S11n_ok).toEnvAll mixOK (hndW_sound W13_ok (hnd_sound (E := genQ Try.prog exts eqs [] S11n) (genQ_full extsOK eqsOK S11n_ok) 6)) ?_)) | (refine RestL.loop (E := genQ Try.prog exts eqs [] S11n) ?_) | (refine RestL.stepW (E := genQ Try.prog exts eqs [] S11n) (genQ_full extsOK eqsOK S11n_ok) W13_ok 6 ?_) | ((fail_if_success (with_reducible refine RestL.mk ?_)); (fail_if_success (with_reducible refine Rest.mk ?_)); first | (with_reducible exact True.intro) | (with_reducible refine Need.mk ?_ ?_) | (with_reducible refine And.intro ?_ ?_) | (with_reducible intro hcl; try (exfalso; first | exact absurd hcl (by decide) | (simp_all only [isI_self, sameI_self]; done) | simp_all [isI_self, sameI_self]; done)) | ((fail_if_success (with_reducible refine FinS.mk ?_)); (conv => whnf)) | (refine FinS.b ?_) | (refine FinS.lb ?_) | (refine FinS.i ?_) | (refine FinS.f ?_) | (refine FinS.agg ?_) | (refine FinS.tup ?_)))
  all_goals (refine Side.mk ?_; first | assumption | decide | omega | (simp_all only [isI_self, sameI_self]; simp))
def g10_11 : List MV → Option (List Prop × MV × List Blk × Bool)
  | [.agg [.f .f64 nx, .f .f64 ny, .f .f64 pf], .agg [.f .f64 a1, .f .f64 a2], .agg [.f .f64 b1, .f .f64 b2]] => some ([(ask2 nx ny pf a1 a2 b1 b2 != 0) = false, fgt .f64 (fsub .f64 (dot nx ny a1 a2) pf) 0 = false, fgt .f64 (fsub .f64 (dot nx ny b1 b2) pf) 0 = false], (.tup [.os 0 2 0 2, .os 1 1 0 2, .i .i64 0]), [.rows 2 2 (r2 (.f .f64 a1) (.f .f64 a2) (.f .f64 b1) (.f .f64 b2)), .rows 1 2 (i2 0 1)], true)
  | _ => none
theorem s10_11 : SumsOK Try.prog (sumOf 10 g10_11 S7) := by
  refine SumsOK.add S7_ok fun ms ps m blks al e hp => ?_
  unfold g10_11 at e
  split at e
  · cases e; exact t10_11 _ _ _ _ _ _ _ (hp _ (by simp)) (hp _ (by simp)) (hp _ (by simp))
  · cases e
def S10_11 := sumOf 10 g10_11 S7
theorem S10_11_ok : SumsOK Try.prog S10_11 := s10_11
def g11_11 : List MV → Option (List Prop × MV × List Blk × Bool)
  | [.agg [.f .f64 nx, .f .f64 ny, .f .f64 pf], .agg [.f .f64 a1, .f .f64 a2], .agg [.f .f64 b1, .f .f64 b2]] => some ([((fst3 (bif rchk nx ny pf then 0 else 90) (bif aw a1 4787326403894837248 && aw a2 4787326403894837248 then 0 else 5) (bif aw b1 4787326403894837248 && aw b2 4787326403894837248 then 0 else 5)) != 0) = false, fle .f64 (bey nx ny pf a1 a2) 0 = true, fle .f64 (bey nx ny pf b1 b2) 0 = true], (.tup [.os 0 2 0 2, .os 1 1 0 2, .i .i64 0]), [.rows 2 2 (r2 (.f .f64 a1) (.f .f64 a2) (.f .f64 b1) (.f .f64 b2)), .rows 1 2 (i2 0 1)], true)
  | _ => none
theorem s11_11 : SumsOK Try.prog (sumOf 11 g11_11 S10_11) := by
  refine SumsOK.add S10_11_ok fun ms ps m blks al e hp => ?_
  unfold g11_11 at e
  split at e
  · cases e; exact t11_11 _ _ _ _ _ _ _ (hp _ (by simp)) (hp _ (by simp)) (hp _ (by simp))
  · cases e
def S11_11 := sumOf 11 g11_11 S10_11
theorem S11_11_ok : SumsOK Try.prog S11_11 := s11_11
theorem t3_11 (nx ny pf : Nat) (a1 a2 : Nat) (b1 b2 : Nat) (c0 : (ask2 nx ny pf a1 a2 b1 b2 != 0) = false) (c1 : fgt .f64 (fsub .f64 (dot nx ny a1 a2) pf) 0 = false) (c2 : fgt .f64 (fsub .f64 (dot nx ny b1 b2) pf) 0 = false) (c3 : ((fst3 (bif rchk nx ny pf then 0 else 90) (bif aw a1 4787326403894837248 && aw a2 4787326403894837248 then 0 else 5) (bif aw b1 4787326403894837248 && aw b2 4787326403894837248 then 0 else 5)) != 0) = false) (c4 : fle .f64 (bey nx ny pf a1 a2) 0 = true) (c5 : fle .f64 (bey nx ny pf b1 b2) 0 = true) (c6 : (fst3 (bif rchk nx ny pf then 0 else 90) (bif aw a1 4787326403894837248 && aw a2 4787326403894837248 then 0 else 5) (bif aw b1 4787326403894837248 && aw b2 4787326403894837248 then 0 else 5)) = ask2 nx ny pf a1 a2 b1 b2) (c7 : rfarV nx ny pf a1 a2 = farV nx ny pf a1 a2) (c8 : rask1 nx ny pf a1 a2 = ask1 nx ny pf a1 a2) (c9 : rchk nx ny pf = chk nx ny pf): CM Try.prog 3 [.agg [.f .f64 nx, .f .f64 ny, .f .f64 pf], .agg [.f .f64 a1, .f .f64 a2], .agg [.f .f64 b1, .f .f64 b2]] (.b true) [] true := by
  refine CM.of_genW (exts := exts) (eqs := eqs) (inl := []) (sum := S11_11) extsOK eqsOK S11_11_ok W13_ok fi3_ok 6 rfl fun cx => ?_
  repeat' ((fail_if_success (with_reducible refine Side.mk ?_)); first | (refine Rest.mk (drawR_sound (E := genQ Try.prog exts eqs [] S11_11) (genQ_full extsOK eqsOK S11_11_ok).toEnvAll mixOK (hndW_sound W13_ok (hnd_sound (E := genQ Try.prog exts eqs [] S11_11) (genQ_full extsOK eqsOK S11_11_ok) 6)) ?_)) | (refine RestL.loop (E := genQ Try.prog exts eqs [] S11_11) ?_) | (refine RestL.stepW (E := genQ Try.prog exts eqs [] S11_11) (genQ_full extsOK eqsOK S11_11_ok) W13_ok 6 ?_) | ((fail_if_success (with_reducible refine RestL.mk ?_)); (fail_if_success (with_reducible refine Rest.mk ?_)); first | (with_reducible exact True.intro) | (with_reducible refine Need.mk ?_ ?_) | (with_reducible refine And.intro ?_ ?_) | (with_reducible intro hcl; try (exfalso; first | exact absurd hcl (by decide) | (simp_all only [isI_self, sameI_self]; done) | simp_all [isI_self, sameI_self]; done)) | ((fail_if_success (with_reducible refine FinS.mk ?_)); (conv => whnf)) | (refine FinS.b ?_) | (refine FinS.lb ?_) | (refine FinS.i ?_) | (refine FinS.f ?_) | (refine FinS.agg ?_) | (refine FinS.tup ?_)))
  all_goals (refine Side.mk ?_; first | assumption | decide | omega | (simp_all only [isI_self, sameI_self]; simp))
def g10_10 : List MV → Option (List Prop × MV × List Blk × Bool)
  | [.agg [.f .f64 nx, .f .f64 ny, .f .f64 pf], .agg [.f .f64 a1, .f .f64 a2], .agg [.f .f64 b1, .f .f64 b2]] => some ([(ask2 nx ny pf a1 a2 b1 b2 != 0) = false, fgt .f64 (fsub .f64 (dot nx ny a1 a2) pf) 0 = false, fgt .f64 (fsub .f64 (dot nx ny b1 b2) pf) 0 = true], (.tup [.os 0 2 0 2, .os 1 1 0 2, .i .i64 0]), [.rows 2 2 (r2 (.f .f64 a1) (.f .f64 a2) ((.f .f64 (mor a1 (cutt (bey nx ny pf a1 a2) (bey nx ny pf b1 b2)) b1 a1))) ((.f .f64 (mor a2 (cutt (bey nx ny pf a1 a2) (bey nx ny pf b1 b2)) b2 a2)))), .rows 1 2 (i2 0 2)], true)
  | _ => none
theorem s10_10 : SumsOK Try.prog (sumOf 10 g10_10 S7) := by
  refine SumsOK.add S7_ok fun ms ps m blks al e hp => ?_
  unfold g10_10 at e
  split at e
  · cases e; exact t10_10 _ _ _ _ _ _ _ (hp _ (by simp)) (hp _ (by simp)) (hp _ (by simp))
  · cases e
def S10_10 := sumOf 10 g10_10 S7
theorem S10_10_ok : SumsOK Try.prog S10_10 := s10_10
def g11_10 : List MV → Option (List Prop × MV × List Blk × Bool)
  | [.agg [.f .f64 nx, .f .f64 ny, .f .f64 pf], .agg [.f .f64 a1, .f .f64 a2], .agg [.f .f64 b1, .f .f64 b2]] => some ([((fst3 (bif rchk nx ny pf then 0 else 90) (bif aw a1 4787326403894837248 && aw a2 4787326403894837248 then 0 else 5) (bif aw b1 4787326403894837248 && aw b2 4787326403894837248 then 0 else 5)) != 0) = false, fle .f64 (bey nx ny pf a1 a2) 0 = true, fle .f64 (bey nx ny pf b1 b2) 0 = false], (.tup [.os 0 2 0 2, .os 1 1 0 2, .i .i64 0]), [.rows 2 2 (r2 (.f .f64 a1) (.f .f64 a2) ((.f .f64 (mor a1 (cutt (bey nx ny pf a1 a2) (bey nx ny pf b1 b2)) b1 a1))) ((.f .f64 (mor a2 (cutt (bey nx ny pf a1 a2) (bey nx ny pf b1 b2)) b2 a2)))), .rows 1 2 (i2 0 2)], true)
  | _ => none
theorem s11_10 : SumsOK Try.prog (sumOf 11 g11_10 S10_10) := by
  refine SumsOK.add S10_10_ok fun ms ps m blks al e hp => ?_
  unfold g11_10 at e
  split at e
  · cases e; exact t11_10 _ _ _ _ _ _ _ (hp _ (by simp)) (hp _ (by simp)) (hp _ (by simp))
  · cases e
def S11_10 := sumOf 11 g11_10 S10_10
theorem S11_10_ok : SumsOK Try.prog S11_10 := s11_10
theorem t3_10 (nx ny pf : Nat) (a1 a2 : Nat) (b1 b2 : Nat) (c0 : (ask2 nx ny pf a1 a2 b1 b2 != 0) = false) (c1 : fgt .f64 (fsub .f64 (dot nx ny a1 a2) pf) 0 = false) (c2 : fgt .f64 (fsub .f64 (dot nx ny b1 b2) pf) 0 = true) (c3 : ((fst3 (bif rchk nx ny pf then 0 else 90) (bif aw a1 4787326403894837248 && aw a2 4787326403894837248 then 0 else 5) (bif aw b1 4787326403894837248 && aw b2 4787326403894837248 then 0 else 5)) != 0) = false) (c4 : fle .f64 (bey nx ny pf a1 a2) 0 = true) (c5 : fle .f64 (bey nx ny pf b1 b2) 0 = false) (c6 : (fst3 (bif rchk nx ny pf then 0 else 90) (bif aw a1 4787326403894837248 && aw a2 4787326403894837248 then 0 else 5) (bif aw b1 4787326403894837248 && aw b2 4787326403894837248 then 0 else 5)) = ask2 nx ny pf a1 a2 b1 b2) (c7 : rfarV nx ny pf a1 a2 = farV nx ny pf a1 a2) (c8 : rask1 nx ny pf a1 a2 = ask1 nx ny pf a1 a2) (c9 : rchk nx ny pf = chk nx ny pf): CM Try.prog 3 [.agg [.f .f64 nx, .f .f64 ny, .f .f64 pf], .agg [.f .f64 a1, .f .f64 a2], .agg [.f .f64 b1, .f .f64 b2]] (.b true) [] true := by
  refine CM.of_genW (exts := exts) (eqs := eqs) (inl := []) (sum := S11_10) extsOK eqsOK S11_10_ok W13_ok fi3_ok 6 rfl fun cx => ?_
  repeat' ((fail_if_success (with_reducible refine Side.mk ?_)); first | (refine Rest.mk (drawR_sound (E := genQ Try.prog exts eqs [] S11_10) (genQ_full extsOK eqsOK S11_10_ok).toEnvAll mixOK (hndW_sound W13_ok (hnd_sound (E := genQ Try.prog exts eqs [] S11_10) (genQ_full extsOK eqsOK S11_10_ok) 6)) ?_)) | (refine RestL.loop (E := genQ Try.prog exts eqs [] S11_10) ?_) | (refine RestL.stepW (E := genQ Try.prog exts eqs [] S11_10) (genQ_full extsOK eqsOK S11_10_ok) W13_ok 6 ?_) | ((fail_if_success (with_reducible refine RestL.mk ?_)); (fail_if_success (with_reducible refine Rest.mk ?_)); first | (with_reducible exact True.intro) | (with_reducible refine Need.mk ?_ ?_) | (with_reducible refine And.intro ?_ ?_) | (with_reducible intro hcl; try (exfalso; first | exact absurd hcl (by decide) | (simp_all only [isI_self, sameI_self]; done) | simp_all [isI_self, sameI_self]; done)) | ((fail_if_success (with_reducible refine FinS.mk ?_)); (conv => whnf)) | (refine FinS.b ?_) | (refine FinS.lb ?_) | (refine FinS.i ?_) | (refine FinS.f ?_) | (refine FinS.agg ?_) | (refine FinS.tup ?_)))
  all_goals (refine Side.mk ?_; first | assumption | decide | omega | (simp_all only [isI_self, sameI_self]; simp))
def g10_01 : List MV → Option (List Prop × MV × List Blk × Bool)
  | [.agg [.f .f64 nx, .f .f64 ny, .f .f64 pf], .agg [.f .f64 a1, .f .f64 a2], .agg [.f .f64 b1, .f .f64 b2]] => some ([(ask2 nx ny pf a1 a2 b1 b2 != 0) = false, fgt .f64 (fsub .f64 (dot nx ny a1 a2) pf) 0 = true, fgt .f64 (fsub .f64 (dot nx ny b1 b2) pf) 0 = false], (.tup [.os 0 2 0 2, .os 1 1 0 2, .i .i64 0]), [.rows 2 2 (r2 ((.f .f64 (mor a1 (cutt (bey nx ny pf a1 a2) (bey nx ny pf b1 b2)) b1 a1))) ((.f .f64 (mor a2 (cutt (bey nx ny pf a1 a2) (bey nx ny pf b1 b2)) b2 a2))) (.f .f64 b1) (.f .f64 b2)), .rows 1 2 (i2 2 1)], true)
  | _ => none
theorem s10_01 : SumsOK Try.prog (sumOf 10 g10_01 S7) := by
  refine SumsOK.add S7_ok fun ms ps m blks al e hp => ?_
  unfold g10_01 at e
  split at e
  · cases e; exact t10_01 _ _ _ _ _ _ _ (hp _ (by simp)) (hp _ (by simp)) (hp _ (by simp))
  · cases e
def S10_01 := sumOf 10 g10_01 S7
theorem S10_01_ok : SumsOK Try.prog S10_01 := s10_01
def g11_01 : List MV → Option (List Prop × MV × List Blk × Bool)
  | [.agg [.f .f64 nx, .f .f64 ny, .f .f64 pf], .agg [.f .f64 a1, .f .f64 a2], .agg [.f .f64 b1, .f .f64 b2]] => some ([((fst3 (bif rchk nx ny pf then 0 else 90) (bif aw a1 4787326403894837248 && aw a2 4787326403894837248 then 0 else 5) (bif aw b1 4787326403894837248 && aw b2 4787326403894837248 then 0 else 5)) != 0) = false, fle .f64 (bey nx ny pf a1 a2) 0 = false, fle .f64 (bey nx ny pf b1 b2) 0 = true], (.tup [.os 0 2 0 2, .os 1 1 0 2, .i .i64 0]), [.rows 2 2 (r2 ((.f .f64 (mor a1 (cutt (bey nx ny pf a1 a2) (bey nx ny pf b1 b2)) b1 a1))) ((.f .f64 (mor a2 (cutt (bey nx ny pf a1 a2) (bey nx ny pf b1 b2)) b2 a2))) (.f .f64 b1) (.f .f64 b2)), .rows 1 2 (i2 2 1)], true)
  | _ => none
theorem s11_01 : SumsOK Try.prog (sumOf 11 g11_01 S10_01) := by
  refine SumsOK.add S10_01_ok fun ms ps m blks al e hp => ?_
  unfold g11_01 at e
  split at e
  · cases e; exact t11_01 _ _ _ _ _ _ _ (hp _ (by simp)) (hp _ (by simp)) (hp _ (by simp))
  · cases e
def S11_01 := sumOf 11 g11_01 S10_01
theorem S11_01_ok : SumsOK Try.prog S11_01 := s11_01
theorem t3_01 (nx ny pf : Nat) (a1 a2 : Nat) (b1 b2 : Nat) (c0 : (ask2 nx ny pf a1 a2 b1 b2 != 0) = false) (c1 : fgt .f64 (fsub .f64 (dot nx ny a1 a2) pf) 0 = true) (c2 : fgt .f64 (fsub .f64 (dot nx ny b1 b2) pf) 0 = false) (c3 : ((fst3 (bif rchk nx ny pf then 0 else 90) (bif aw a1 4787326403894837248 && aw a2 4787326403894837248 then 0 else 5) (bif aw b1 4787326403894837248 && aw b2 4787326403894837248 then 0 else 5)) != 0) = false) (c4 : fle .f64 (bey nx ny pf a1 a2) 0 = false) (c5 : fle .f64 (bey nx ny pf b1 b2) 0 = true) (c6 : (fst3 (bif rchk nx ny pf then 0 else 90) (bif aw a1 4787326403894837248 && aw a2 4787326403894837248 then 0 else 5) (bif aw b1 4787326403894837248 && aw b2 4787326403894837248 then 0 else 5)) = ask2 nx ny pf a1 a2 b1 b2) (c7 : rfarV nx ny pf a1 a2 = farV nx ny pf a1 a2) (c8 : rask1 nx ny pf a1 a2 = ask1 nx ny pf a1 a2) (c9 : rchk nx ny pf = chk nx ny pf): CM Try.prog 3 [.agg [.f .f64 nx, .f .f64 ny, .f .f64 pf], .agg [.f .f64 a1, .f .f64 a2], .agg [.f .f64 b1, .f .f64 b2]] (.b true) [] true := by
  refine CM.of_genW (exts := exts) (eqs := eqs) (inl := []) (sum := S11_01) extsOK eqsOK S11_01_ok W13_ok fi3_ok 6 rfl fun cx => ?_
  repeat' ((fail_if_success (with_reducible refine Side.mk ?_)); first | (refine Rest.mk (drawR_sound (E := genQ Try.prog exts eqs [] S11_01) (genQ_full extsOK eqsOK S11_01_ok).toEnvAll mixOK (hndW_sound W13_ok (hnd_sound (E := genQ Try.prog exts eqs [] S11_01) (genQ_full extsOK eqsOK S11_01_ok) 6)) ?_)) | (refine RestL.loop (E := genQ Try.prog exts eqs [] S11_01) ?_) | (refine RestL.stepW (E := genQ Try.prog exts eqs [] S11_01) (genQ_full extsOK eqsOK S11_01_ok) W13_ok 6 ?_) | ((fail_if_success (with_reducible refine RestL.mk ?_)); (fail_if_success (with_reducible refine Rest.mk ?_)); first | (with_reducible exact True.intro) | (with_reducible refine Need.mk ?_ ?_) | (with_reducible refine And.intro ?_ ?_) | (with_reducible intro hcl; try (exfalso; first | exact absurd hcl (by decide) | (simp_all only [isI_self, sameI_self]; done) | simp_all [isI_self, sameI_self]; done)) | ((fail_if_success (with_reducible refine FinS.mk ?_)); (conv => whnf)) | (refine FinS.b ?_) | (refine FinS.lb ?_) | (refine FinS.i ?_) | (refine FinS.f ?_) | (refine FinS.agg ?_) | (refine FinS.tup ?_)))
  all_goals (refine Side.mk ?_; first | assumption | decide | omega | (simp_all only [isI_self, sameI_self]; simp))
end Go.Ev.Clip
