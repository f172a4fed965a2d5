/-
  The contracts of the layer's smallest functions; for all floats.
-/
import Derived.Test.YtbehddngdjfkhaaProg
import Derived.KernelRfl
import Derived.Test.YtbehddngdjfkhaaEvC
import Derived.Test.YtbehddngdjfkhaaEvL
set_option linter.unusedSimpArgs false
set_option linter.unusedVariables false
open Go Go.Proofs
namespace Go.Ev.Clip
set_option maxRecDepth 100000
def exts : List (Nat × XK) := [(47, .f64from), (48, .f64bits), (73, .sqrt)]
theorem ext47 : ExtOK Try.prog 47 .f64from := .of Try.func47 (by kernel_rfl) (by kernel_rfl) (by kernel_rfl) (by kernel_rfl)
theorem ext48 : ExtOK Try.prog 48 .f64bits := .of Try.func48 (by kernel_rfl) (by kernel_rfl) (by kernel_rfl) (by kernel_rfl)
theorem ext73 : ExtOK Try.prog 73 .sqrt := .of Try.func73 (by kernel_rfl) (by kernel_rfl) (by kernel_rfl) (by kernel_rfl)
theorem extsOK : ∀ f k, look exts f = some k → ExtOK Try.prog f k := by
  intro f k h
  unfold exts at h
  simp only [look] at h
  split at h
  · rename_i e; have := Nat.eq_of_beq_eq_true e; subst this; cases h; exact ext47
  · skip
    split at h
    · rename_i e; have := Nat.eq_of_beq_eq_true e; subst this; cases h; exact ext48
    · skip
      split at h
      · rename_i e; have := Nat.eq_of_beq_eq_true e; subst this; cases h; exact ext73
      · skip
        cases h
def eqs : List Nat := [24, 26]
theorem eqsOK : eqsB Try.prog eqs = true := by kernel_rfl
theorem mixOK : Try.prog.follows .mixedOrders = true := by kernel_rfl
def dot (ax ay bx by' : Nat) : Nat := fadd .f64 (fmul .f64 ax bx) (fmul .f64 ay by')
def crs (ax ay bx by' : Nat) : Nat := fsub .f64 (fmul .f64 ax by') (fmul .f64 ay bx)
noncomputable def fi55 : FnI := ⟨16, Try.f55.body.getD .skip, [.tmp 4], true⟩
theorem fi55_ok : fnGen Try.prog 55 = some fi55 := by kernel_rfl
theorem t55 (a1 : Nat) (a2 : Nat) (b1 : Nat) (b2 : Nat) : CM Try.prog 55 [.agg [.f .f64 a1, .f .f64 a2], .agg [.f .f64 b1, .f .f64 b2]] (.f .f64 (dot a1 a2 b1 b2)) [] true := by
  refine CM.of_genQ (exts := exts) (eqs := eqs) (inl := []) (sum := sum0) extsOK eqsOK sums0 fi55_ok 6 rfl fun cx => ?_
  repeat' ((fail_if_success (with_reducible refine Side.mk ?_)); first | ((fail_if_success (with_reducible refine Rest.mk ?_)); first | (with_reducible exact True.intro) | (with_reducible refine Need.mk ?_ ?_) | (with_reducible refine And.intro ?_ ?_) | (with_reducible intro _) | ((fail_if_success (with_reducible refine FinS.mk ?_)); (conv => whnf)) | (refine FinS.b ?_) | (refine FinS.lb ?_) | (refine FinS.i ?_) | (refine FinS.f ?_) | (refine FinS.agg ?_) | (refine FinS.tup ?_)))
  all_goals first | exact ⟨rfl⟩ | exact ⟨⟨rfl, rfl⟩⟩
def g55 : List MV → Option (List Prop × MV × List Blk × Bool)
  | [.agg [.f .f64 a1, .f .f64 a2], .agg [.f .f64 b1, .f .f64 b2]] => some ([], (.f .f64 (dot a1 a2 b1 b2)), [], false)
  | _ => none
theorem s55 : SumsOK Try.prog (sumOf 55 g55 sum0) := by
  refine SumsOK.add sums0 fun ms ps m blks al e hp => ?_
  unfold g55 at e
  split at e
  · cases e; exact (t55 _ _ _ _ ).aloneT rfl
  · cases e
def S55 := sumOf 55 g55 sum0
theorem S55_ok : SumsOK Try.prog S55 := s55
noncomputable def fi56 : FnI := ⟨16, Try.f56.body.getD .skip, [.tmp 4], true⟩
theorem fi56_ok : fnGen Try.prog 56 = some fi56 := by kernel_rfl
theorem t56 (a1 : Nat) (a2 : Nat) (b1 : Nat) (b2 : Nat) : CM Try.prog 56 [.agg [.f .f64 a1, .f .f64 a2], .agg [.f .f64 b1, .f .f64 b2]] (.f .f64 (dot a1 a2 b1 b2)) [] true := by
  refine CM.of_genQ (exts := exts) (eqs := eqs) (inl := []) (sum := S55) extsOK eqsOK S55_ok fi56_ok 6 rfl fun cx => ?_
  repeat' ((fail_if_success (with_reducible refine Side.mk ?_)); first | ((fail_if_success (with_reducible refine Rest.mk ?_)); first | (with_reducible exact True.intro) | (with_reducible refine Need.mk ?_ ?_) | (with_reducible refine And.intro ?_ ?_) | (with_reducible intro _) | ((fail_if_success (with_reducible refine FinS.mk ?_)); (conv => whnf)) | (refine FinS.b ?_) | (refine FinS.lb ?_) | (refine FinS.i ?_) | (refine FinS.f ?_) | (refine FinS.agg ?_) | (refine FinS.tup ?_)))
  all_goals first | exact ⟨rfl⟩ | exact ⟨⟨rfl, rfl⟩⟩
def g56 : List MV → Option (List Prop × MV × List Blk × Bool)
  | [.agg [.f .f64 a1, .f .f64 a2], .agg [.f .f64 b1, .f .f64 b2]] => some ([], (.f .f64 (dot a1 a2 b1 b2)), [], false)
  | _ => none
theorem s56 : SumsOK Try.prog (sumOf 56 g56 S55) := by
  refine SumsOK.add S55_ok fun ms ps m blks al e hp => ?_
  unfold g56 at e
  split at e
  · cases e; exact (t56 _ _ _ _ ).aloneT rfl
  · cases e
def S56 := sumOf 56 g56 S55
theorem S56_ok : SumsOK Try.prog S56 := s56
noncomputable def fi52 : FnI := ⟨16, Try.f52.body.getD .skip, [.tmp 4], true⟩
theorem fi52_ok : fnGen Try.prog 52 = some fi52 := by kernel_rfl
theorem t52 (a1 : Nat) (a2 : Nat) (b1 : Nat) (b2 : Nat) : CM Try.prog 52 [.agg [.f .f64 a1, .f .f64 a2], .agg [.f .f64 b1, .f .f64 b2]] (.f .f64 (crs a1 a2 b1 b2)) [] true := by
  refine CM.of_genQ (exts := exts) (eqs := eqs) (inl := []) (sum := S56) extsOK eqsOK S56_ok fi52_ok 6 rfl fun cx => ?_
  repeat' ((fail_if_success (with_reducible refine Side.mk ?_)); first | ((fail_if_success (with_reducible refine Rest.mk ?_)); first | (with_reducible exact True.intro) | (with_reducible refine Need.mk ?_ ?_) | (with_reducible refine And.intro ?_ ?_) | (with_reducible intro _) | ((fail_if_success (with_reducible refine FinS.mk ?_)); (conv => whnf)) | (refine FinS.b ?_) | (refine FinS.lb ?_) | (refine FinS.i ?_) | (refine FinS.f ?_) | (refine FinS.agg ?_) | (refine FinS.tup ?_)))
  all_goals first | exact ⟨rfl⟩ | exact ⟨⟨rfl, rfl⟩⟩
def g52 : List MV → Option (List Prop × MV × List Blk × Bool)
  | [.agg [.f .f64 a1, .f .f64 a2], .agg [.f .f64 b1, .f .f64 b2]] => some ([], (.f .f64 (crs a1 a2 b1 b2)), [], false)
  | _ => none
theorem s52 : SumsOK Try.prog (sumOf 52 g52 S56) := by
  refine SumsOK.add S56_ok fun ms ps m blks al e hp => ?_
  unfold g52 at e
  split at e
  · cases e; exact (t52 _ _ _ _ ).aloneT rfl
  · cases e
def S52 := sumOf 52 g52 S56
theorem S52_ok : SumsOK Try.prog S52 := s52
noncomputable def fi71 : FnI := ⟨16, Try.f71.body.getD .skip, [.tmp 4], true⟩
theorem fi71_ok : fnGen Try.prog 71 = some fi71 := by kernel_rfl
theorem t71 (a1 : Nat) (a2 : Nat) (b1 : Nat) (b2 : Nat) : CM Try.prog 71 [.agg [.f .f64 a1, .f .f64 a2], .agg [.f .f64 b1, .f .f64 b2]] (.f .f64 (crs a1 a2 b1 b2)) [] true := by
  refine CM.of_genQ (exts := exts) (eqs := eqs) (inl := []) (sum := S52) extsOK eqsOK S52_ok fi71_ok 6 rfl fun cx => ?_
  repeat' ((fail_if_success (with_reducible refine Side.mk ?_)); first | ((fail_if_success (with_reducible refine Rest.mk ?_)); first | (with_reducible exact True.intro) | (with_reducible refine Need.mk ?_ ?_) | (with_reducible refine And.intro ?_ ?_) | (with_reducible intro _) | ((fail_if_success (with_reducible refine FinS.mk ?_)); (conv => whnf)) | (refine FinS.b ?_) | (refine FinS.lb ?_) | (refine FinS.i ?_) | (refine FinS.f ?_) | (refine FinS.agg ?_) | (refine FinS.tup ?_)))
  all_goals first | exact ⟨rfl⟩ | exact ⟨⟨rfl, rfl⟩⟩
def g71 : List MV → Option (List Prop × MV × List Blk × Bool)
  | [.agg [.f .f64 a1, .f .f64 a2], .agg [.f .f64 b1, .f .f64 b2]] => some ([], (.f .f64 (crs a1 a2 b1 b2)), [], false)
  | _ => none
theorem s71 : SumsOK Try.prog (sumOf 71 g71 S52) := by
  refine SumsOK.add S52_ok fun ms ps m blks al e hp => ?_
  unfold g71 at e
  split at e
  · cases e; exact (t71 _ _ _ _ ).aloneT rfl
  · cases e
def S71 := sumOf 71 g71 S52
theorem S71_ok : SumsOK Try.prog S71 := s71
noncomputable def fi69 : FnI := ⟨8, Try.f69.body.getD .skip, [.cell 4 24], true⟩
theorem fi69_ok : fnGen Try.prog 69 = some fi69 := by kernel_rfl
theorem t69 (x : Nat) (y : Nat) : CM Try.prog 69 [.f .f64 x, .f .f64 y] (.agg [.f .f64 x, .f .f64 y]) [] true := by
  refine CM.of_genQ (exts := exts) (eqs := eqs) (inl := []) (sum := S71) extsOK eqsOK S71_ok fi69_ok 6 rfl fun cx => ?_
  repeat' ((fail_if_success (with_reducible refine Side.mk ?_)); first | ((fail_if_success (with_reducible refine Rest.mk ?_)); first | (with_reducible exact True.intro) | (with_reducible refine Need.mk ?_ ?_) | (with_reducible refine And.intro ?_ ?_) | (with_reducible intro _) | ((fail_if_success (with_reducible refine FinS.mk ?_)); (conv => whnf)) | (refine FinS.b ?_) | (refine FinS.lb ?_) | (refine FinS.i ?_) | (refine FinS.f ?_) | (refine FinS.agg ?_) | (refine FinS.tup ?_)))
  all_goals first | exact ⟨rfl⟩ | exact ⟨⟨rfl, rfl⟩⟩
def g69 : List MV → Option (List Prop × MV × List Blk × Bool)
  | [.f .f64 x, .f .f64 y] => some ([], (.agg [.f .f64 x, .f .f64 y]), [], false)
  | _ => none
theorem s69 : SumsOK Try.prog (sumOf 69 g69 S71) := by
  refine SumsOK.add S71_ok fun ms ps m blks al e hp => ?_
  unfold g69 at e
  split at e
  · cases e; exact (t69 _ _ ).aloneT rfl
  · cases e
def S69 := sumOf 69 g69 S71
theorem S69_ok : SumsOK Try.prog S69 := s69
noncomputable def fi53 : FnI := ⟨16, Try.f53.body.getD .skip, [.cell 4 24], true⟩
theorem fi53_ok : fnGen Try.prog 53 = some fi53 := by kernel_rfl
theorem t53 (a1 : Nat) (a2 : Nat) (b1 : Nat) (b2 : Nat) : CM Try.prog 53 [.agg [.f .f64 a1, .f .f64 a2], .agg [.f .f64 b1, .f .f64 b2]] (.agg [.f .f64 (fsub .f64 a1 b1), .f .f64 (fsub .f64 a2 b2)]) [] true := by
  refine CM.of_genQ (exts := exts) (eqs := eqs) (inl := []) (sum := S69) extsOK eqsOK S69_ok fi53_ok 6 rfl fun cx => ?_
  repeat' ((fail_if_success (with_reducible refine Side.mk ?_)); first | ((fail_if_success (with_reducible refine Rest.mk ?_)); first | (with_reducible exact True.intro) | (with_reducible refine Need.mk ?_ ?_) | (with_reducible refine And.intro ?_ ?_) | (with_reducible intro _) | ((fail_if_success (with_reducible refine FinS.mk ?_)); (conv => whnf)) | (refine FinS.b ?_) | (refine FinS.lb ?_) | (refine FinS.i ?_) | (refine FinS.f ?_) | (refine FinS.agg ?_) | (refine FinS.tup ?_)))
  all_goals first | exact ⟨rfl⟩ | exact ⟨⟨rfl, rfl⟩⟩
def g53 : List MV → Option (List Prop × MV × List Blk × Bool)
  | [.agg [.f .f64 a1, .f .f64 a2], .agg [.f .f64 b1, .f .f64 b2]] => some ([], (.agg [.f .f64 (fsub .f64 a1 b1), .f .f64 (fsub .f64 a2 b2)]), [], false)
  | _ => none
theorem s53 : SumsOK Try.prog (sumOf 53 g53 S69) := by
  refine SumsOK.add S69_ok fun ms ps m blks al e hp => ?_
  unfold g53 at e
  split at e
  · cases e; exact (t53 _ _ _ _ ).aloneT rfl
  · cases e
def S53 := sumOf 53 g53 S69
theorem S53_ok : SumsOK Try.prog S53 := s53
noncomputable def fi59 : FnI := ⟨16, Try.f59.body.getD .skip, [.cell 4 24], true⟩
theorem fi59_ok : fnGen Try.prog 59 = some fi59 := by kernel_rfl
theorem t59 (a1 : Nat) (a2 : Nat) (b1 : Nat) (b2 : Nat) : CM Try.prog 59 [.agg [.f .f64 a1, .f .f64 a2], .agg [.f .f64 b1, .f .f64 b2]] (.agg [.f .f64 (fsub .f64 a1 b1), .f .f64 (fsub .f64 a2 b2)]) [] true := by
  refine CM.of_genQ (exts := exts) (eqs := eqs) (inl := []) (sum := S53) extsOK eqsOK S53_ok fi59_ok 6 rfl fun cx => ?_
  repeat' ((fail_if_success (with_reducible refine Side.mk ?_)); first | ((fail_if_success (with_reducible refine Rest.mk ?_)); first | (with_reducible exact True.intro) | (with_reducible refine Need.mk ?_ ?_) | (with_reducible refine And.intro ?_ ?_) | (with_reducible intro _) | ((fail_if_success (with_reducible refine FinS.mk ?_)); (conv => whnf)) | (refine FinS.b ?_) | (refine FinS.lb ?_) | (refine FinS.i ?_) | (refine FinS.f ?_) | (refine FinS.agg ?_) | (refine FinS.tup ?_)))
  all_goals first | exact ⟨rfl⟩ | exact ⟨⟨rfl, rfl⟩⟩
def g59 : List MV → Option (List Prop × MV × List Blk × Bool)
  | [.agg [.f .f64 a1, .f .f64 a2], .agg [.f .f64 b1, .f .f64 b2]] => some ([], (.agg [.f .f64 (fsub .f64 a1 b1), .f .f64 (fsub .f64 a2 b2)]), [], false)
  | _ => none
theorem s59 : SumsOK Try.prog (sumOf 59 g59 S53) := by
  refine SumsOK.add S53_ok fun ms ps m blks al e hp => ?_
  unfold g59 at e
  split at e
  · cases e; exact (t59 _ _ _ _ ).aloneT rfl
  · cases e
def S59 := sumOf 59 g59 S53
theorem S59_ok : SumsOK Try.prog S59 := s59
noncomputable def fi57 : FnI := ⟨22, Try.f57.body.getD .skip, [.cell 6 24], true⟩
theorem fi57_ok : fnGen Try.prog 57 = some fi57 := by kernel_rfl
theorem t57 (a1 : Nat) (a2 : Nat) (s : Nat) (b1 : Nat) (b2 : Nat) : CM Try.prog 57 [.agg [.f .f64 a1, .f .f64 a2], .f .f64 s, .agg [.f .f64 b1, .f .f64 b2]] (.agg [.f .f64 (fadd .f64 a1 (fmul .f64 s b1)), .f .f64 (fadd .f64 a2 (fmul .f64 s b2))]) [] true := by
  refine CM.of_genQ (exts := exts) (eqs := eqs) (inl := []) (sum := S59) extsOK eqsOK S59_ok fi57_ok 6 rfl fun cx => ?_
  repeat' ((fail_if_success (with_reducible refine Side.mk ?_)); first | ((fail_if_success (with_reducible refine Rest.mk ?_)); first | (with_reducible exact True.intro) | (with_reducible refine Need.mk ?_ ?_) | (with_reducible refine And.intro ?_ ?_) | (with_reducible intro _) | ((fail_if_success (with_reducible refine FinS.mk ?_)); (conv => whnf)) | (refine FinS.b ?_) | (refine FinS.lb ?_) | (refine FinS.i ?_) | (refine FinS.f ?_) | (refine FinS.agg ?_) | (refine FinS.tup ?_)))
  all_goals first | exact ⟨rfl⟩ | exact ⟨⟨rfl, rfl⟩⟩
def g57 : List MV → Option (List Prop × MV × List Blk × Bool)
  | [.agg [.f .f64 a1, .f .f64 a2], .f .f64 s, .agg [.f .f64 b1, .f .f64 b2]] => some ([], (.agg [.f .f64 (fadd .f64 a1 (fmul .f64 s b1)), .f .f64 (fadd .f64 a2 (fmul .f64 s b2))]), [], false)
  | _ => none
theorem s57 : SumsOK Try.prog (sumOf 57 g57 S59) := by
  refine SumsOK.add S59_ok fun ms ps m blks al e hp => ?_
  unfold g57 at e
  split at e
  · cases e; exact (t57 _ _ _ _ _ ).aloneT rfl
  · cases e
def S57 := sumOf 57 g57 S59
theorem S57_ok : SumsOK Try.prog S57 := s57
noncomputable def fi58 : FnI := ⟨22, Try.f58.body.getD .skip, [.cell 6 24], true⟩
theorem fi58_ok : fnGen Try.prog 58 = some fi58 := by kernel_rfl
theorem t58 (a1 : Nat) (a2 : Nat) (s : Nat) (b1 : Nat) (b2 : Nat) : CM Try.prog 58 [.agg [.f .f64 a1, .f .f64 a2], .f .f64 s, .agg [.f .f64 b1, .f .f64 b2]] (.agg [.f .f64 (fadd .f64 a1 (fmul .f64 s b1)), .f .f64 (fadd .f64 a2 (fmul .f64 s b2))]) [] true := by
  refine CM.of_genQ (exts := exts) (eqs := eqs) (inl := []) (sum := S57) extsOK eqsOK S57_ok fi58_ok 6 rfl fun cx => ?_
  repeat' ((fail_if_success (with_reducible refine Side.mk ?_)); first | ((fail_if_success (with_reducible refine Rest.mk ?_)); first | (with_reducible exact True.intro) | (with_reducible refine Need.mk ?_ ?_) | (with_reducible refine And.intro ?_ ?_) | (with_reducible intro _) | ((fail_if_success (with_reducible refine FinS.mk ?_)); (conv => whnf)) | (refine FinS.b ?_) | (refine FinS.lb ?_) | (refine FinS.i ?_) | (refine FinS.f ?_) | (refine FinS.agg ?_) | (refine FinS.tup ?_)))
  all_goals first | exact ⟨rfl⟩ | exact ⟨⟨rfl, rfl⟩⟩
def g58 : List MV → Option (List Prop × MV × List Blk × Bool)
  | [.agg [.f .f64 a1, .f .f64 a2], .f .f64 s, .agg [.f .f64 b1, .f .f64 b2]] => some ([], (.agg [.f .f64 (fadd .f64 a1 (fmul .f64 s b1)), .f .f64 (fadd .f64 a2 (fmul .f64 s b2))]), [], false)
  | _ => none
theorem s58 : SumsOK Try.prog (sumOf 58 g58 S57) := by
  refine SumsOK.add S57_ok fun ms ps m blks al e hp => ?_
  unfold g58 at e
  split at e
  · cases e; exact (t58 _ _ _ _ _ ).aloneT rfl
  · cases e
def S58 := sumOf 58 g58 S57
theorem S58_ok : SumsOK Try.prog S58 := s58
noncomputable def fi37 : FnI := ⟨6, Try.f37.body.getD .skip, [.tmp 2], true⟩
theorem fi37_ok : fnGen Try.prog 37 = some fi37 := by kernel_rfl
theorem t37 (a1 : Nat) (a2 : Nat) : CM Try.prog 37 [.agg [.f .f64 a1, .f .f64 a2]] (.f .f64 (dot a1 a2 a1 a2)) [] true := by
  refine CM.of_genQ (exts := exts) (eqs := eqs) (inl := []) (sum := S58) extsOK eqsOK S58_ok fi37_ok 6 rfl fun cx => ?_
  repeat' ((fail_if_success (with_reducible refine Side.mk ?_)); first | ((fail_if_success (with_reducible refine Rest.mk ?_)); first | (with_reducible exact True.intro) | (with_reducible refine Need.mk ?_ ?_) | (with_reducible refine And.intro ?_ ?_) | (with_reducible intro _) | ((fail_if_success (with_reducible refine FinS.mk ?_)); (conv => whnf)) | (refine FinS.b ?_) | (refine FinS.lb ?_) | (refine FinS.i ?_) | (refine FinS.f ?_) | (refine FinS.agg ?_) | (refine FinS.tup ?_)))
  all_goals first | exact ⟨rfl⟩ | exact ⟨⟨rfl, rfl⟩⟩
def g37 : List MV → Option (List Prop × MV × List Blk × Bool)
  | [.agg [.f .f64 a1, .f .f64 a2]] => some ([], (.f .f64 (dot a1 a2 a1 a2)), [], false)
  | _ => none
theorem s37 : SumsOK Try.prog (sumOf 37 g37 S58) := by
  refine SumsOK.add S58_ok fun ms ps m blks al e hp => ?_
  unfold g37 at e
  split at e
  · cases e; exact (t37 _ _ ).aloneT rfl
  · cases e
def S37 := sumOf 37 g37 S58
theorem S37_ok : SumsOK Try.prog S37 := s37
noncomputable def fi40 : FnI := ⟨6, Try.f40.body.getD .skip, [.tmp 2], true⟩
theorem fi40_ok : fnGen Try.prog 40 = some fi40 := by kernel_rfl
theorem t40 (a1 : Nat) (a2 : Nat) : CM Try.prog 40 [.agg [.f .f64 a1, .f .f64 a2]] (.f .f64 (dot a1 a2 a1 a2)) [] true := by
  refine CM.of_genQ (exts := exts) (eqs := eqs) (inl := []) (sum := S37) extsOK eqsOK S37_ok fi40_ok 6 rfl fun cx => ?_
  repeat' ((fail_if_success (with_reducible refine Side.mk ?_)); first | ((fail_if_success (with_reducible refine Rest.mk ?_)); first | (with_reducible exact True.intro) | (with_reducible refine Need.mk ?_ ?_) | (with_reducible refine And.intro ?_ ?_) | (with_reducible intro _) | ((fail_if_success (with_reducible refine FinS.mk ?_)); (conv => whnf)) | (refine FinS.b ?_) | (refine FinS.lb ?_) | (refine FinS.i ?_) | (refine FinS.f ?_) | (refine FinS.agg ?_) | (refine FinS.tup ?_)))
  all_goals first | exact ⟨rfl⟩ | exact ⟨⟨rfl, rfl⟩⟩
def g40 : List MV → Option (List Prop × MV × List Blk × Bool)
  | [.agg [.f .f64 a1, .f .f64 a2]] => some ([], (.f .f64 (dot a1 a2 a1 a2)), [], false)
  | _ => none
theorem s40 : SumsOK Try.prog (sumOf 40 g40 S37) := by
  refine SumsOK.add S37_ok fun ms ps m blks al e hp => ?_
  unfold g40 at e
  split at e
  · cases e; exact (t40 _ _ ).aloneT rfl
  · cases e
def S40 := sumOf 40 g40 S37
theorem S40_ok : SumsOK Try.prog S40 := s40
noncomputable def fi29 : FnI := ⟨12, Try.f29.body.getD .skip, [.tmp 4], true⟩
theorem fi29_ok : fnGen Try.prog 29 = some fi29 := by kernel_rfl
theorem t29 (nx : Nat) (ny : Nat) (pf : Nat) (a1 : Nat) (a2 : Nat) : CM Try.prog 29 [.agg [.f .f64 nx, .f .f64 ny, .f .f64 pf], .agg [.f .f64 a1, .f .f64 a2]] (.f .f64 (fsub .f64 (dot nx ny a1 a2) pf)) [] true := by
  refine CM.of_genQ (exts := exts) (eqs := eqs) (inl := []) (sum := S40) extsOK eqsOK S40_ok fi29_ok 6 rfl fun cx => ?_
  repeat' ((fail_if_success (with_reducible refine Side.mk ?_)); first | (refine Rest.mk (drawR_sound (E := genQ Try.prog exts eqs [] S40) (genQ_full extsOK eqsOK S40_ok).toEnvAll mixOK (hnd_sound (genQ_full extsOK eqsOK S40_ok) 6) ?_)) | ((fail_if_success (with_reducible refine Rest.mk ?_)); first | (with_reducible exact True.intro) | (with_reducible refine Need.mk ?_ ?_) | (with_reducible refine And.intro ?_ ?_) | (with_reducible intro _) | ((fail_if_success (with_reducible refine FinS.mk ?_)); (conv => whnf)) | (refine FinS.b ?_) | (refine FinS.lb ?_) | (refine FinS.i ?_) | (refine FinS.f ?_) | (refine FinS.agg ?_) | (refine FinS.tup ?_)))
  all_goals first | exact ⟨rfl⟩ | exact ⟨⟨rfl, rfl⟩⟩
def g29 : List MV → Option (List Prop × MV × List Blk × Bool)
  | [.agg [.f .f64 nx, .f .f64 ny, .f .f64 pf], .agg [.f .f64 a1, .f .f64 a2]] => some ([], (.f .f64 (fsub .f64 (dot nx ny a1 a2) pf)), [], false)
  | _ => none
theorem s29 : SumsOK Try.prog (sumOf 29 g29 S40) := by
  refine SumsOK.add S40_ok fun ms ps m blks al e hp => ?_
  unfold g29 at e
  split at e
  · cases e; exact (t29 _ _ _ _ _ ).aloneT rfl
  · cases e
def S29 := sumOf 29 g29 S40
theorem S29_ok : SumsOK Try.prog S29 := s29
noncomputable def fi32 : FnI := ⟨12, Try.f32.body.getD .skip, [.tmp 4], true⟩
theorem fi32_ok : fnGen Try.prog 32 = some fi32 := by kernel_rfl
theorem t32 (nx : Nat) (ny : Nat) (pf : Nat) (a1 : Nat) (a2 : Nat) : CM Try.prog 32 [.agg [.f .f64 nx, .f .f64 ny, .f .f64 pf], .agg [.f .f64 a1, .f .f64 a2]] (.f .f64 (fsub .f64 (dot nx ny a1 a2) pf)) [] true := by
  refine CM.of_genQ (exts := exts) (eqs := eqs) (inl := []) (sum := S29) extsOK eqsOK S29_ok fi32_ok 6 rfl fun cx => ?_
  repeat' ((fail_if_success (with_reducible refine Side.mk ?_)); first | (refine Rest.mk (drawR_sound (E := genQ Try.prog exts eqs [] S29) (genQ_full extsOK eqsOK S29_ok).toEnvAll mixOK (hnd_sound (genQ_full extsOK eqsOK S29_ok) 6) ?_)) | ((fail_if_success (with_reducible refine Rest.mk ?_)); first | (with_reducible exact True.intro) | (with_reducible refine Need.mk ?_ ?_) | (with_reducible refine And.intro ?_ ?_) | (with_reducible intro _) | ((fail_if_success (with_reducible refine FinS.mk ?_)); (conv => whnf)) | (refine FinS.b ?_) | (refine FinS.lb ?_) | (refine FinS.i ?_) | (refine FinS.f ?_) | (refine FinS.agg ?_) | (refine FinS.tup ?_)))
  all_goals first | exact ⟨rfl⟩ | exact ⟨⟨rfl, rfl⟩⟩
def g32 : List MV → Option (List Prop × MV × List Blk × Bool)
  | [.agg [.f .f64 nx, .f .f64 ny, .f .f64 pf], .agg [.f .f64 a1, .f .f64 a2]] => some ([], (.f .f64 (fsub .f64 (dot nx ny a1 a2) pf)), [], false)
  | _ => none
theorem s32 : SumsOK Try.prog (sumOf 32 g32 S29) := by
  refine SumsOK.add S29_ok fun ms ps m blks al e hp => ?_
  unfold g32 at e
  split at e
  · cases e; exact (t32 _ _ _ _ _ ).aloneT rfl
  · cases e
def S32 := sumOf 32 g32 S29
theorem S32_ok : SumsOK Try.prog S32 := s32
noncomputable def fi27 : FnI := ⟨6, Try.f27.body.getD .skip, [.tmp 0], true⟩
theorem fi27_ok : fnGen Try.prog 27 = some fi27 := by kernel_rfl
theorem t27 : CM Try.prog 27 [] (.os 0 2 0 4) [.rows 2 4 fun i => dropM [.f .f64 0, .f .f64 0, .f .f64 4611686018427387904, .f .f64 0, .f .f64 4611686018427387904, .f .f64 4611686018427387904, .f .f64 0, .f .f64 4611686018427387904] (i * 2)] true := by
  refine CM.of_genQ (exts := exts) (eqs := eqs) (inl := []) (sum := S32) extsOK eqsOK S32_ok fi27_ok 6 rfl fun cx => ?_
  repeat' ((fail_if_success (with_reducible refine Side.mk ?_)); first | ((fail_if_success (with_reducible refine Rest.mk ?_)); first | (with_reducible exact True.intro) | (with_reducible refine Need.mk ?_ ?_) | (with_reducible refine And.intro ?_ ?_) | (with_reducible intro _) | ((fail_if_success (with_reducible refine FinS.mk ?_)); (conv => whnf)) | (refine FinS.b ?_) | (refine FinS.lb ?_) | (refine FinS.i ?_) | (refine FinS.f ?_) | (refine FinS.agg ?_) | (refine FinS.tup ?_)))
  all_goals exact FinS.rows 0 ⟨rfl, rfl, fun _ _ _ _ => rfl⟩ ⟨rfl, rfl, rfl⟩
def g27 : List MV → Option (List Prop × MV × List Blk × Bool)
  | [] => some ([], .os 0 2 0 4, [.rows 2 4 fun i => dropM [.f .f64 0, .f .f64 0, .f .f64 4611686018427387904, .f .f64 0, .f .f64 4611686018427387904, .f .f64 4611686018427387904, .f .f64 0, .f .f64 4611686018427387904] (i * 2)], true)
  | _ => none
theorem s27 : SumsOK Try.prog (sumOf 27 g27 S32) := by
  refine SumsOK.add S32_ok fun ms ps m blks al e hp => ?_
  unfold g27 at e
  split at e
  · cases e; exact t27
  · cases e
def S27 := sumOf 27 g27 S32
theorem S27_ok : SumsOK Try.prog S27 := s27
end Go.Ev.Clip
