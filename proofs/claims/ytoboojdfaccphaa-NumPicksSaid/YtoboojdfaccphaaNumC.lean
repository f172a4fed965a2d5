/-
  That the laws NumBits, NumSame, NumBounds, NumPicks yield true, for all inputs of their widths; no other condition.
-/
import Derived.Test.YtoboojdfaccphaaNumB
import Derived.Test.YtoboojdfaccphaaNumL
open Go Go.Proofs
namespace Go.Ev.Num
set_option maxRecDepth 100000
noncomputable def fi3 : FnI := ⟨38, Try.f3.body.getD .skip, [.tmp 6], true⟩
theorem fi3_ok : fnGen Try.prog 3 = some fi3 := by kernel_rfl
theorem t3 (x : Int) (y : Int) (z : Int) (c0 : x.toNat < 18446744073709551616) (c1 : y.toNat < 18446744073709551616) (c2 : z.toNat < 18446744073709551616): CM Try.prog 3 [.i .u64 x, .i .u64 y, .i .u64 z] (.b true) [] true := by
  refine CM.of_gen (exts := exts) (inl := []) (sum := S59) extsOK S59_ok fi3_ok 6 rfl fun cx => ?_
  repeat' ((fail_if_success (with_reducible refine Side.mk ?_)); (fail_if_success (with_reducible refine Rest.mk ?_)); first | (with_reducible refine Need.mk ?_ ?_) | (with_reducible refine And.intro ?_ ?_) | (with_reducible intro _) | ((fail_if_success (with_reducible refine FinS.mk ?_)); (conv => whnf)) | (refine FinS.b ?_) | (refine FinS.lb ?_) | (refine FinS.i ?_) | (refine FinS.f ?_))
  all_goals first | exact Side.mk c0 | exact Side.mk c1 | exact Side.mk c2 | exact Side.mk (fun _ => c0) | exact Side.mk (fun _ => c1) | exact Side.mk (fun _ => c2) | skip
  all_goals (refine Side.mk ?_; simp)
def g3 : List MV → Option (List Prop × MV × List Blk × Bool)
  | [.i .u64 x, .i .u64 y, .i .u64 z] => some ([x.toNat < 18446744073709551616, y.toNat < 18446744073709551616, z.toNat < 18446744073709551616], (.b true), [], false)
  | _ => none
theorem s3 : SumsOK Try.prog (sumOf 3 g3 S59) := by
  refine SumsOK.add S59_ok fun ms ps m blks al e hp => ?_
  unfold g3 at e
  split at e
  · cases e; exact (t3 _ _ _ (hp _ (by simp)) (hp _ (by simp)) (hp _ (by simp))).alone rfl
  · cases e
def S3 := sumOf 3 g3 S59
theorem S3_ok : SumsOK Try.prog S3 := s3
noncomputable def fi4 : FnI := ⟨105, Try.f4.body.getD .skip, [.tmp 8], true⟩
theorem fi4_ok : fnGen Try.prog 4 = some fi4 := by kernel_rfl
theorem t4 (x : Int) (y : Int) (p : Int) (q : Int) (c0 : x.toNat < 18446744073709551616) (c1 : y.toNat < 18446744073709551616) (c2 : p.toNat < 4294967296) (c3 : q.toNat < 4294967296): CM Try.prog 4 [.i .u64 x, .i .u64 y, .i .u32 p, .i .u32 q] (.b true) [] true := by
  refine CM.of_gen (exts := exts) (inl := []) (sum := S3) extsOK S3_ok fi4_ok 6 rfl fun cx => ?_
  repeat' ((fail_if_success (with_reducible refine Side.mk ?_)); (fail_if_success (with_reducible refine Rest.mk ?_)); first | (with_reducible refine Need.mk ?_ ?_) | (with_reducible refine And.intro ?_ ?_) | (with_reducible intro _) | ((fail_if_success (with_reducible refine FinS.mk ?_)); (conv => whnf)) | (refine FinS.b ?_) | (refine FinS.lb ?_) | (refine FinS.i ?_) | (refine FinS.f ?_))
  all_goals first | exact Side.mk c0 | exact Side.mk c1 | exact Side.mk c2 | exact Side.mk c3 | exact Side.mk (fun _ => c0) | exact Side.mk (fun _ => c1) | exact Side.mk (fun _ => c2) | exact Side.mk (fun _ => c3) | skip
  all_goals (refine Side.mk ?_)
  have h_x : Can .f64 (canon .f64 x.toNat) := can_canon c0
  have h_y : Can .f64 (canon .f64 y.toNat) := can_canon c1
  have h_p : Can .f32 (canon .f32 p.toNat) := can_canon c2
  have h_q : Can .f32 (canon .f32 q.toNat) := can_canon c3
  generalize canon .f64 x.toNat = e_x at h_x ⊢
  generalize canon .f64 y.toNat = e_y at h_y ⊢
  generalize canon .f32 p.toNat = e_p at h_p ⊢
  generalize canon .f32 q.toNat = e_q at h_q ⊢
  simp [nSame_eq h_x h_y, nSame_eq h_x h_x, nSame_eq h_p h_q, nSame_eq h_p h_p, widen_inj h_p h_q, fin_widen]
def g4 : List MV → Option (List Prop × MV × List Blk × Bool)
  | [.i .u64 x, .i .u64 y, .i .u32 p, .i .u32 q] => some ([x.toNat < 18446744073709551616, y.toNat < 18446744073709551616, p.toNat < 4294967296, q.toNat < 4294967296], (.b true), [], false)
  | _ => none
theorem s4 : SumsOK Try.prog (sumOf 4 g4 S3) := by
  refine SumsOK.add S3_ok fun ms ps m blks al e hp => ?_
  unfold g4 at e
  split at e
  · cases e; exact (t4 _ _ _ _ (hp _ (by simp)) (hp _ (by simp)) (hp _ (by simp)) (hp _ (by simp))).alone rfl
  · cases e
def S4 := sumOf 4 g4 S3
theorem S4_ok : SumsOK Try.prog S4 := s4
noncomputable def fi6 : FnI := ⟨127, Try.f6.body.getD .skip, [.tmp 12], true⟩
theorem fi6_ok : fnGen Try.prog 6 = some fi6 := by kernel_rfl
theorem t6 (x : Int) (y : Int) (z : Int) (p : Int) (q : Int) (r : Int) (c0 : x.toNat < 18446744073709551616) (c1 : y.toNat < 18446744073709551616) (c2 : z.toNat < 18446744073709551616) (c3 : p.toNat < 4294967296) (c4 : q.toNat < 4294967296) (c5 : r.toNat < 4294967296): CM Try.prog 6 [.i .u64 x, .i .u64 y, .i .u64 z, .i .u32 p, .i .u32 q, .i .u32 r] (.b true) [] true := by
  refine CM.of_gen (exts := exts) (inl := []) (sum := S4) extsOK S4_ok fi6_ok 6 rfl fun cx => ?_
  repeat' ((fail_if_success (with_reducible refine Side.mk ?_)); (fail_if_success (with_reducible refine Rest.mk ?_)); first | (with_reducible refine Need.mk ?_ ?_) | (with_reducible refine And.intro ?_ ?_) | (with_reducible intro _) | ((fail_if_success (with_reducible refine FinS.mk ?_)); (conv => whnf)) | (refine FinS.b ?_) | (refine FinS.lb ?_) | (refine FinS.i ?_) | (refine FinS.f ?_))
  all_goals first | exact Side.mk c0 | exact Side.mk c1 | exact Side.mk c2 | exact Side.mk c3 | exact Side.mk c4 | exact Side.mk c5 | exact Side.mk (fun _ => c0) | exact Side.mk (fun _ => c1) | exact Side.mk (fun _ => c2) | exact Side.mk (fun _ => c3) | exact Side.mk (fun _ => c4) | exact Side.mk (fun _ => c5) | skip
  all_goals (refine Side.mk ?_)
  have h_x : Can .f64 (canon .f64 x.toNat) := can_canon c0
  have h_y : Can .f64 (canon .f64 y.toNat) := can_canon c1
  have h_z : Can .f64 (canon .f64 z.toNat) := can_canon c2
  have h_p : Can .f32 (canon .f32 p.toNat) := can_canon c3
  have h_q : Can .f32 (canon .f32 q.toNat) := can_canon c4
  have h_r : Can .f32 (canon .f32 r.toNat) := can_canon c5
  generalize canon .f64 x.toNat = e_x at h_x ⊢
  generalize canon .f64 y.toNat = e_y at h_y ⊢
  generalize canon .f64 z.toNat = e_z at h_z ⊢
  generalize canon .f32 p.toNat = e_p at h_p ⊢
  generalize canon .f32 q.toNat = e_q at h_q ⊢
  generalize canon .f32 r.toNat = e_r at h_r ⊢
  simp [nWithin_eq h_x h_y, nWithin_eq h_y h_x, nWithin32_eq h_q, nWithin32_eq h_p, nClamp32_eq, nClamp64_eq]
def g6 : List MV → Option (List Prop × MV × List Blk × Bool)
  | [.i .u64 x, .i .u64 y, .i .u64 z, .i .u32 p, .i .u32 q, .i .u32 r] => some ([x.toNat < 18446744073709551616, y.toNat < 18446744073709551616, z.toNat < 18446744073709551616, p.toNat < 4294967296, q.toNat < 4294967296, r.toNat < 4294967296], (.b true), [], false)
  | _ => none
theorem s6 : SumsOK Try.prog (sumOf 6 g6 S4) := by
  refine SumsOK.add S4_ok fun ms ps m blks al e hp => ?_
  unfold g6 at e
  split at e
  · cases e; exact (t6 _ _ _ _ _ _ (hp _ (by simp)) (hp _ (by simp)) (hp _ (by simp)) (hp _ (by simp)) (hp _ (by simp)) (hp _ (by simp))).alone rfl
  · cases e
def S6 := sumOf 6 g6 S4
theorem S6_ok : SumsOK Try.prog S6 := s6
noncomputable def fi7 : FnI := ⟨136, Try.f7.body.getD .skip, [.tmp 8], true⟩
theorem fi7_ok : fnGen Try.prog 7 = some fi7 := by kernel_rfl
theorem t7 (x : Int) (y : Int) (p : Int) (q : Int) (c0 : x.toNat < 18446744073709551616) (c1 : y.toNat < 18446744073709551616) (c2 : p.toNat < 4294967296) (c3 : q.toNat < 4294967296): CM Try.prog 7 [.i .u64 x, .i .u64 y, .i .u32 p, .i .u32 q] (.b true) [] true := by
  refine CM.of_gen (exts := exts) (inl := []) (sum := S6) extsOK S6_ok fi7_ok 6 rfl fun cx => ?_
  repeat' ((fail_if_success (with_reducible refine Side.mk ?_)); (fail_if_success (with_reducible refine Rest.mk ?_)); first | (with_reducible refine Need.mk ?_ ?_) | (with_reducible refine And.intro ?_ ?_) | (with_reducible intro _) | ((fail_if_success (with_reducible refine FinS.mk ?_)); (conv => whnf)) | (refine FinS.b ?_) | (refine FinS.lb ?_) | (refine FinS.i ?_) | (refine FinS.f ?_))
  all_goals first | exact Side.mk c0 | exact Side.mk c1 | exact Side.mk c2 | exact Side.mk c3 | exact Side.mk (fun _ => c0) | exact Side.mk (fun _ => c1) | exact Side.mk (fun _ => c2) | exact Side.mk (fun _ => c3) | skip
  all_goals (refine Side.mk ?_)
  have h_x : Can .f64 (canon .f64 x.toNat) := can_canon c0
  have h_y : Can .f64 (canon .f64 y.toNat) := can_canon c1
  have h_p : Can .f32 (canon .f32 p.toNat) := can_canon c2
  have h_q : Can .f32 (canon .f32 q.toNat) := can_canon c3
  generalize canon .f64 x.toNat = e_x at h_x ⊢
  generalize canon .f64 y.toNat = e_y at h_y ⊢
  generalize canon .f32 p.toNat = e_p at h_p ⊢
  generalize canon .f32 q.toNat = e_q at h_q ⊢
  simp [nLeast_eq h_x h_y, nMost_eq h_x h_y, nLeast32_eq h_q, nMost32_eq h_p, nSign32_eq, nOrder_eq h_x h_y]
def g7 : List MV → Option (List Prop × MV × List Blk × Bool)
  | [.i .u64 x, .i .u64 y, .i .u32 p, .i .u32 q] => some ([x.toNat < 18446744073709551616, y.toNat < 18446744073709551616, p.toNat < 4294967296, q.toNat < 4294967296], (.b true), [], false)
  | _ => none
theorem s7 : SumsOK Try.prog (sumOf 7 g7 S6) := by
  refine SumsOK.add S6_ok fun ms ps m blks al e hp => ?_
  unfold g7 at e
  split at e
  · cases e; exact (t7 _ _ _ _ (hp _ (by simp)) (hp _ (by simp)) (hp _ (by simp)) (hp _ (by simp))).alone rfl
  · cases e
def S7 := sumOf 7 g7 S6
theorem S7_ok : SumsOK Try.prog S7 := s7
end Go.Ev.Num
