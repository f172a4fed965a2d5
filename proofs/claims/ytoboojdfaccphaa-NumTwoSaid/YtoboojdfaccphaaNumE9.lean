/-
  That the law NumTwo yields true, for all inputs of 64 bits; no other condition.
-/
import Derived.Test.YtoboojdfaccphaaNumD
open Go Go.Proofs
namespace Go.Ev.Num
set_option maxRecDepth 100000
noncomputable def fi9 : FnI := ⟨84, Try.f9.body.getD .skip, [.tmp 4], true⟩
theorem fi9_ok : fnGen Try.prog 9 = some fi9 := by kernel_rfl
theorem t9 (x : Int) (y : Int) (c0 : x.toNat < 18446744073709551616) (c1 : y.toNat < 18446744073709551616): CM Try.prog 9 [.i .u64 x, .i .u64 y] (.b true) [] true := by
  refine CM.of_gen (exts := exts) (inl := []) (sum := S60) extsOK S60_ok fi9_ok 6 rfl fun cx => ?_
  repeat' ((fail_if_success (with_reducible refine Side.mk ?_)); (fail_if_success (with_reducible refine Rest.mk ?_)); first | (with_reducible exact True.intro) | (with_reducible refine Need.mk ?_ ?_) | (with_reducible refine And.intro ?_ ?_) | (with_reducible intro _) | ((fail_if_success (with_reducible refine FinS.mk ?_)); (conv => whnf)) | (refine FinS.b ?_) | (refine FinS.lb ?_) | (refine FinS.i ?_) | (refine FinS.f ?_))
  all_goals first | exact Side.mk c0 | exact Side.mk c1 | exact Side.mk (fun _ => c0) | exact Side.mk (fun _ => c1) | skip
  · rename_i h; exact Side.mk (two_law1 (can_canon (k := .f64) c0) (can_canon (k := .f64) c1) h)
  · rename_i h; exact Side.mk (two_law2 (can_canon (k := .f64) c0) (can_canon (k := .f64) c1) h)
def g9 : List MV → Option (List Prop × MV × List Blk × Bool)
  | [.i .u64 x, .i .u64 y] => some ([x.toNat < 18446744073709551616, y.toNat < 18446744073709551616], (.b true), [], false)
  | _ => none
theorem s9 : SumsOK Try.prog (sumOf 9 g9 S60) := by
  refine SumsOK.add S60_ok fun ms ps m blks al e hp => ?_
  unfold g9 at e
  split at e
  · cases e; exact (t9 _ _ (hp _ (by simp)) (hp _ (by simp))).alone rfl
  · cases e
def S9 := sumOf 9 g9 S60
theorem S9_ok : SumsOK Try.prog S9 := s9
end Go.Ev.Num
