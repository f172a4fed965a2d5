/-
  That the law NumRow yields true, for all inputs of 64 bits; no other condition.
-/
import Derived.Test.YtoboojdfaccphaaNumD
open Go Go.Proofs
namespace Go.Ev.Num
set_option maxRecDepth 100000
noncomputable def fi8 : FnI := ⟨119, Try.f8.body.getD .skip, [.tmp 6], true⟩
theorem fi8_ok : fnGen Try.prog 8 = some fi8 := by kernel_rfl
theorem t8 (x : Int) (y : Int) (z : Int) (c0 : x.toNat < 18446744073709551616) (c1 : y.toNat < 18446744073709551616) (c2 : z.toNat < 18446744073709551616): CM Try.prog 8 [.i .u64 x, .i .u64 y, .i .u64 z] (.b true) [] true := by
  refine CM.of_gen (exts := exts) (inl := []) (sum := S60) extsOK S60_ok fi8_ok 6 rfl fun cx => ?_
  repeat' ((fail_if_success (with_reducible refine Side.mk ?_)); (fail_if_success (with_reducible refine Rest.mk ?_)); first | (with_reducible exact True.intro) | (with_reducible refine Need.mk ?_ ?_) | (with_reducible refine And.intro ?_ ?_) | (with_reducible intro _) | ((fail_if_success (with_reducible refine FinS.mk ?_)); (conv => whnf)) | (refine FinS.b ?_) | (refine FinS.lb ?_) | (refine FinS.i ?_) | (refine FinS.f ?_))
  all_goals first | exact Side.mk c0 | exact Side.mk c1 | exact Side.mk c2 | exact Side.mk (fun _ => c0) | exact Side.mk (fun _ => c1) | exact Side.mk (fun _ => c2) | skip
  all_goals refine Side.mk ?_
  all_goals exact (row_law (can_canon (k := .f64) c0) (can_canon (k := .f64) c1) (can_canon (k := .f64) c2))
def g8 : List MV → Option (List Prop × MV × List Blk × Bool)
  | [.i .u64 x, .i .u64 y, .i .u64 z] => some ([x.toNat < 18446744073709551616, y.toNat < 18446744073709551616, z.toNat < 18446744073709551616], (.b true), [], false)
  | _ => none
theorem s8 : SumsOK Try.prog (sumOf 8 g8 S60) := by
  refine SumsOK.add S60_ok fun ms ps m blks al e hp => ?_
  unfold g8 at e
  split at e
  · cases e; exact (t8 _ _ _ (hp _ (by simp)) (hp _ (by simp)) (hp _ (by simp))).alone rfl
  · cases e
def S8 := sumOf 8 g8 S60
theorem S8_ok : SumsOK Try.prog S8 := s8
end Go.Ev.Num
