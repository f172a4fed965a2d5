/-
  That the law NumBits yields true, for all inputs of 64 bits; no other condition.
-/
import Derived.Test.YtoboojdfaccphaaNumB
open Go Go.Proofs
namespace Go.Ev.Num
set_option maxRecDepth 100000
noncomputable def fi3 : FnI := ⟨38, Try.f3.body.getD .skip, [.tmp 6], true⟩
theorem fi3_ok : fnGen Try.prog 3 = some fi3 := by kernel_rfl
theorem t3 (x : Int) (y : Int) (z : Int) (c0 : x.toNat < 18446744073709551616) (c1 : y.toNat < 18446744073709551616) (c2 : z.toNat < 18446744073709551616): CM Try.prog 3 [.i .u64 x, .i .u64 y, .i .u64 z] (.b true) [] true := by
  refine CM.of_gen (exts := exts) (inl := []) (sum := S59) extsOK S59_ok fi3_ok 6 rfl fun cx => ?_
  repeat' ((fail_if_success (with_reducible refine Side.mk ?_)); first | (with_reducible refine Need.mk ?_ ?_) | (with_reducible refine And.intro ?_ ?_) | (with_reducible intro _) | ((fail_if_success (with_reducible refine FinS.mk ?_)); (conv => whnf)) | (refine FinS.b ?_) | (refine FinS.lb ?_) | (refine FinS.i ?_) | (refine FinS.f ?_))
  all_goals first | exact Side.mk c0 | exact Side.mk c1 | exact Side.mk c2 | exact Side.mk (fun _ => c0) | exact Side.mk (fun _ => c1) | exact Side.mk (fun _ => c2) | skip
  all_goals (refine Side.mk ?_; simp)
def g3 : List MV → Option (List Prop × MV × List Blk × Bool)
  | [.i .u64 x, .i .u64 y, .i .u64 z] => some ([x.toNat < 18446744073709551616, y.toNat < 18446744073709551616, z.toNat < 18446744073709551616], (.b true), [], false)
  | _ => none
theorem s3 : SumsOK Try.prog (sumOf 3 g3 S59) := by
  refine SumsOK.add S59_ok fun ms ps m blks al e hp => ?_
  unfold g3 at e
  split at e
  · cases e; exact (t3 _ _ _ (hp _ (by simp)) (hp _ (by simp)) (hp _ (by simp))).alone rfl
  · cases e
def S3 := sumOf 3 g3 S59
theorem S3_ok : SumsOK Try.prog S3 := s3
end Go.Ev.Num
