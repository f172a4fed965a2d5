/-
  That the law NumHeld yields true, for all inputs of 64 bits; no other condition.
-/
import Derived.Test.YtoboojdfaccphaaNumD
open Go Go.Proofs
namespace Go.Ev.Num
set_option maxRecDepth 100000
noncomputable def fi10 : FnI := ⟨95, Try.f10.body.getD .skip, [.tmp 6], true⟩
theorem fi10_ok : fnGen Try.prog 10 = some fi10 := by kernel_rfl
theorem t10 (x : Int) (y : Int) (z : Int) (c0 : x.toNat < 18446744073709551616) (c1 : y.toNat < 18446744073709551616) (c2 : z.toNat < 18446744073709551616): CM Try.prog 10 [.i .u64 x, .i .u64 y, .i .u64 z] (.b true) [] true := by
  refine CM.of_gen (exts := exts) (inl := []) (sum := S60) extsOK S60_ok fi10_ok 6 rfl fun cx => ?_
  repeat' ((fail_if_success (with_reducible refine Side.mk ?_)); (fail_if_success (with_reducible refine Rest.mk ?_)); first | (with_reducible exact True.intro) | (with_reducible refine Need.mk ?_ ?_) | (with_reducible refine And.intro ?_ ?_) | (with_reducible intro _) | ((fail_if_success (with_reducible refine FinS.mk ?_)); (conv => whnf)) | (refine FinS.b ?_) | (refine FinS.lb ?_) | (refine FinS.i ?_) | (refine FinS.f ?_))
  all_goals first | exact Side.mk c0 | exact Side.mk c1 | exact Side.mk c2 | exact Side.mk (fun _ => c0) | exact Side.mk (fun _ => c1) | exact Side.mk (fun _ => c2) | skip
  · exact Side.mk (fun _ => by rw [Int.toNat_natCast]; exact (can_canon (k := .f64) c0).lt)
  · rename_i h1 h; rw [clamp_law h1] at h; cases h
  · rename_i h1 h2 h; rw [between_law (can_canon (k := .f64) c0)] at h; cases h
  · exact Side.mk (held_law (can_canon (k := .f64) c0))
  · rename_i h1 h; rw [between_law (can_canon (k := .f64) c0)] at h; cases h
  · exact Side.mk (held_law (can_canon (k := .f64) c0))
def g10 : List MV → Option (List Prop × MV × List Blk × Bool)
  | [.i .u64 x, .i .u64 y, .i .u64 z] => some ([x.toNat < 18446744073709551616, y.toNat < 18446744073709551616, z.toNat < 18446744073709551616], (.b true), [], false)
  | _ => none
theorem s10 : SumsOK Try.prog (sumOf 10 g10 S60) := by
  refine SumsOK.add S60_ok fun ms ps m blks al e hp => ?_
  unfold g10 at e
  split at e
  · cases e; exact (t10 _ _ _ (hp _ (by simp)) (hp _ (by simp)) (hp _ (by simp))).alone rfl
  · cases e
def S10 := sumOf 10 g10 S60
theorem S10_ok : SumsOK Try.prog S10 := s10
end Go.Ev.Num
