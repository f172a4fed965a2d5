/-
  The contracts of Inf, Copysign, NaN, Signbit and of alive; no condition.
-/
import Derived.Test.YtoboojdfaccphaaNumS
import Derived.Test.YtoboojdfaccphaaNumM
open Go Go.Proofs
namespace Go.Ev.Num
set_option maxRecDepth 100000
def infOf (n : Int) : Nat := bif decide (0 ≤ n) then 9218868437227405312 else 18442240474082181120
def cpy (x y : Nat) : Nat := canon .f64 (ibits BinOp.or IntKind.u64 (ibits BinOp.andNot IntKind.u64 (x : Int) 9223372036854775808) (ibits BinOp.and IntKind.u64 (y : Int) 9223372036854775808)).toNat
theorem wrap_lt (n : Int) : (IntKind.u64.wrap n).toNat < 18446744073709551616 := by
  show (if (false && decide (n % (18446744073709551616 : Int) ≥ (9223372036854775808 : Int))) = true then n % (18446744073709551616 : Int) - (18446744073709551616 : Int) else n % (18446744073709551616 : Int)).toNat < _
  simp; omega
noncomputable def fi61 : FnI := ⟨8, Try.f61.body.getD .skip, [.tmp 2], true⟩
theorem fi61_ok : fnGen Try.prog 61 = some fi61 := by kernel_rfl
theorem t61 (n : Int) : CM Try.prog 61 [.i .i64 n] (.f .f64 (infOf n)) [] true := by
  refine CM.of_gen (exts := exts) (inl := []) (sum := S32) extsOK S32_ok fi61_ok 6 rfl fun cx => ?_
  repeat' ((fail_if_success (with_reducible refine Side.mk ?_)); (fail_if_success (with_reducible refine Rest.mk ?_)); first | (with_reducible exact True.intro) | (with_reducible refine Need.mk ?_ ?_) | (with_reducible refine And.intro ?_ ?_) | (with_reducible intro _) | ((fail_if_success (with_reducible refine FinS.mk ?_)); (conv => whnf)) | (refine FinS.b ?_) | (refine FinS.lb ?_) | (refine FinS.i ?_) | (refine FinS.f ?_))
  all_goals (refine Side.mk ?_)
  all_goals first | decide | (rename_i h; unfold infOf; rw [h]; decide)
def g61 : List MV → Option (List Prop × MV × List Blk × Bool)
  | [.i .i64 n] => some ([], (.f .f64 (infOf n)), [], false)
  | _ => none
theorem s61 : SumsOK Try.prog (sumOf 61 g61 S32) := by
  refine SumsOK.add S32_ok fun ms ps m blks al e hp => ?_
  unfold g61 at e
  split at e
  · cases e; exact (t61 _ ).alone rfl
  · cases e
def S61 := sumOf 61 g61 S32
theorem S61_ok : SumsOK Try.prog S61 := s61
noncomputable def fi62 : FnI := ⟨13, Try.f62.body.getD .skip, [.tmp 4], true⟩
theorem fi62_ok : fnGen Try.prog 62 = some fi62 := by kernel_rfl
theorem t62 (x : Nat) (y : Nat) (c0 : isNan .f64 x = false) (c1 : isNan .f64 y = false): CM Try.prog 62 [.f .f64 x, .f .f64 y] (.f .f64 (cpy x y)) [] true := by
  refine CM.assume (fnGen_ok fi62_ok).enters fun hcan => ?_
  have can_x : Can .f64 x := hcan 0 .f64 x (by simp) rfl
  have can_y : Can .f64 y := hcan 1 .f64 y (by simp) rfl
  clear hcan
  refine CM.of_gen (exts := exts) (inl := []) (sum := S61) extsOK S61_ok fi62_ok 6 rfl fun cx => ?_
  repeat' ((fail_if_success (with_reducible refine Side.mk ?_)); (fail_if_success (with_reducible refine Rest.mk ?_)); first | (with_reducible exact True.intro) | (with_reducible refine Need.mk ?_ ?_) | (with_reducible refine And.intro ?_ ?_) | (with_reducible intro _) | ((fail_if_success (with_reducible refine FinS.mk ?_)); (conv => whnf)) | (refine FinS.b ?_) | (refine FinS.lb ?_) | (refine FinS.i ?_) | (refine FinS.f ?_))
  all_goals (refine Side.mk ?_)
  all_goals rename_i r hr q hq
  · exact wrap_lt _
  · rw [hr.raw c0, hq.raw c1]; rfl
def g62 : List MV → Option (List Prop × MV × List Blk × Bool)
  | [.f .f64 x, .f .f64 y] => some ([isNan .f64 x = false, isNan .f64 y = false], (.f .f64 (cpy x y)), [], false)
  | _ => none
theorem s62 : SumsOK Try.prog (sumOf 62 g62 S61) := by
  refine SumsOK.add S61_ok fun ms ps m blks al e hp => ?_
  unfold g62 at e
  split at e
  · cases e; exact (t62 _ _ (hp _ (by simp)) (hp _ (by simp))).alone rfl
  · cases e
def S62 := sumOf 62 g62 S61
theorem S62_ok : SumsOK Try.prog S62 := s62
noncomputable def fi63 : FnI := ⟨2, Try.f63.body.getD .skip, [.tmp 0], true⟩
theorem fi63_ok : fnGen Try.prog 63 = some fi63 := by kernel_rfl
theorem t63  : CM Try.prog 63 [] (.f .f64 9221120237041090560) [] true := by
  refine CM.of_gen (exts := exts) (inl := []) (sum := S62) extsOK S62_ok fi63_ok 6 rfl fun cx => ?_
  repeat' ((fail_if_success (with_reducible refine Side.mk ?_)); (fail_if_success (with_reducible refine Rest.mk ?_)); first | (with_reducible exact True.intro) | (with_reducible refine Need.mk ?_ ?_) | (with_reducible refine And.intro ?_ ?_) | (with_reducible intro _) | ((fail_if_success (with_reducible refine FinS.mk ?_)); (conv => whnf)) | (refine FinS.b ?_) | (refine FinS.lb ?_) | (refine FinS.i ?_) | (refine FinS.f ?_))
  all_goals exact Side.mk (by decide)
def g63 : List MV → Option (List Prop × MV × List Blk × Bool)
  | [] => some ([], (.f .f64 9221120237041090560), [], false)
  | _ => none
theorem s63 : SumsOK Try.prog (sumOf 63 g63 S62) := by
  refine SumsOK.add S62_ok fun ms ps m blks al e hp => ?_
  unfold g63 at e
  split at e
  · cases e; exact (t63  ).alone rfl
  · cases e
def S63 := sumOf 63 g63 S62
theorem S63_ok : SumsOK Try.prog S63 := s63
noncomputable def fi64 : FnI := ⟨7, Try.f64.body.getD .skip, [.tmp 2], true⟩
theorem fi64_ok : fnGen Try.prog 64 = some fi64 := by kernel_rfl
theorem t64 (x : Nat) (c0 : isNan .f64 x = false): CM Try.prog 64 [.f .f64 x] (.b (neg .f64 x)) [] true := by
  refine CM.assume (fnGen_ok fi64_ok).enters fun hcan => ?_
  have can_x : Can .f64 x := hcan 0 .f64 x (by simp) rfl
  clear hcan
  refine CM.of_gen (exts := exts) (inl := []) (sum := S63) extsOK S63_ok fi64_ok 6 rfl fun cx => ?_
  repeat' ((fail_if_success (with_reducible refine Side.mk ?_)); (fail_if_success (with_reducible refine Rest.mk ?_)); first | (with_reducible exact True.intro) | (with_reducible refine Need.mk ?_ ?_) | (with_reducible refine And.intro ?_ ?_) | (with_reducible intro _) | ((fail_if_success (with_reducible refine FinS.mk ?_)); (conv => whnf)) | (refine FinS.b ?_) | (refine FinS.lb ?_) | (refine FinS.i ?_) | (refine FinS.f ?_))
  all_goals (refine Side.mk ?_; rename_i r hr)
  rw [hr.raw c0]
  have h := parts .f64 can_x.lt
  have hx := f64_lt can_x
  rw [Bool.eq_iff_iff, neg_f64]
  simp only [decide_eq_true_eq, beq_iff_eq]
  show (if (true && decide ((x : Int) % (18446744073709551616 : Int) ≥ (9223372036854775808 : Int))) = true then (x : Int) % (18446744073709551616 : Int) - (18446744073709551616 : Int) else (x : Int) % (18446744073709551616 : Int)) < 0 ↔ _
  split <;> simp at * <;> omega
def g64 : List MV → Option (List Prop × MV × List Blk × Bool)
  | [.f .f64 x] => some ([isNan .f64 x = false], (.b (neg .f64 x)), [], false)
  | _ => none
theorem s64 : SumsOK Try.prog (sumOf 64 g64 S63) := by
  refine SumsOK.add S63_ok fun ms ps m blks al e hp => ?_
  unfold g64 at e
  split at e
  · cases e; exact (t64 _ (hp _ (by simp))).alone rfl
  · cases e
def S64 := sumOf 64 g64 S63
theorem S64_ok : SumsOK Try.prog S64 := s64
noncomputable def fi60 : FnI := ⟨64, Try.f60.body.getD .skip, [.tmp 0], true⟩
theorem fi60_ok : fnGen Try.prog 60 = some fi60 := by kernel_rfl
theorem t60  : CM Try.prog 60 [] (.b true) [] true := by
  refine CM.of_gen (exts := exts) (inl := []) (sum := S64) extsOK S64_ok fi60_ok 6 rfl fun cx => ?_
  repeat' ((fail_if_success (with_reducible refine Side.mk ?_)); (fail_if_success (with_reducible refine Rest.mk ?_)); first | (with_reducible exact True.intro) | (with_reducible refine Need.mk ?_ ?_) | (with_reducible refine And.intro ?_ ?_) | (with_reducible intro _) | ((fail_if_success (with_reducible refine FinS.mk ?_)); (conv => whnf)) | (refine FinS.b ?_) | (refine FinS.lb ?_) | (refine FinS.i ?_) | (refine FinS.f ?_))
  · exact Side.mk (by decide +kernel)
  · exact Side.mk (fun _ => by decide +kernel)
  · refine Side.mk ⟨by decide, fun i hi => ?_, by decide⟩
    rcases i with _ | _ | _ | i
    · rfl
    · rfl
    · rfl
    · omega
  · exact Side.mk (by decide +kernel)
  · rename_i h; exact absurd h (by decide +kernel)
def g60 : List MV → Option (List Prop × MV × List Blk × Bool)
  | [] => some ([], (.b true), [], false)
  | _ => none
theorem s60 : SumsOK Try.prog (sumOf 60 g60 S64) := by
  refine SumsOK.add S64_ok fun ms ps m blks al e hp => ?_
  unfold g60 at e
  split at e
  · cases e; exact (t60  ).alone rfl
  · cases e
def S60 := sumOf 60 g60 S64
theorem S60_ok : SumsOK Try.prog S60 := s60
end Go.Ev.Num
