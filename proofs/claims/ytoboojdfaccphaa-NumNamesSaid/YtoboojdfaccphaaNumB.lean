/-
  The contracts of the layer's functions and of the reference's; for all floats.
-/
import Derived.Test.YtoboojdfaccphaaNumA
open Go Go.Proofs
namespace Go.Ev.Num
set_option maxRecDepth 100000
noncomputable def fi68 : FnI := ⟨15, Try.f68.body.getD .skip, [.tmp 2], true⟩
theorem fi68_ok : fnGen Try.prog 68 = some fi68 := by kernel_rfl
theorem t68 (x : Nat) : CM Try.prog 68 [.f .f64 x] (.b (isNan .f64 x)) [] true := by
  refine CM.assume (fnGen_ok fi68_ok).enters fun hcan => ?_
  have can_x : Can .f64 x := hcan 0 .f64 x (by simp) rfl
  clear hcan
  refine CM.of_gen (exts := exts) (inl := []) (sum := sum0) extsOK sums0 fi68_ok 6 rfl fun cx => ?_
  repeat' ((fail_if_success (with_reducible refine Side.mk ?_)); (fail_if_success (with_reducible refine Rest.mk ?_)); first | (with_reducible refine Need.mk ?_ ?_) | (with_reducible refine And.intro ?_ ?_) | (with_reducible intro _) | ((fail_if_success (with_reducible refine FinS.mk ?_)); (conv => whnf)) | (refine FinS.b ?_) | (refine FinS.lb ?_) | (refine FinS.i ?_) | (refine FinS.f ?_))
  all_goals (refine Side.mk ?_)
  rename_i r hr
  rw [← hr.nan]; exact none_bits (f64_lt hr)
def g68 : List MV → Option (List Prop × MV × List Blk × Bool)
  | [.f .f64 x] => some ([], (.b (isNan .f64 x)), [], false)
  | _ => none
theorem s68 : SumsOK Try.prog (sumOf 68 g68 sum0) := by
  refine SumsOK.add sums0 fun ms ps m blks al e hp => ?_
  unfold g68 at e
  split at e
  · cases e; exact (t68 _ ).alone rfl
  · cases e
def S68 := sumOf 68 g68 sum0
theorem S68_ok : SumsOK Try.prog S68 := s68
noncomputable def fi78 : FnI := ⟨17, Try.f78.body.getD .skip, [.tmp 2], true⟩
theorem fi78_ok : fnGen Try.prog 78 = some fi78 := by kernel_rfl
theorem t78 (x : Nat) (c0 : isNan .f64 x = false): CM Try.prog 78 [.f .f64 x] (.i .i64 (plc x)) [] true := by
  refine CM.assume (fnGen_ok fi78_ok).enters fun hcan => ?_
  have can_x : Can .f64 x := hcan 0 .f64 x (by simp) rfl
  clear hcan
  refine CM.of_gen (exts := exts) (inl := []) (sum := S68) extsOK S68_ok fi78_ok 6 rfl fun cx => ?_
  repeat' ((fail_if_success (with_reducible refine Side.mk ?_)); (fail_if_success (with_reducible refine Rest.mk ?_)); first | (with_reducible refine Need.mk ?_ ?_) | (with_reducible refine And.intro ?_ ?_) | (with_reducible intro _) | ((fail_if_success (with_reducible refine FinS.mk ?_)); (conv => whnf)) | (refine FinS.b ?_) | (refine FinS.lb ?_) | (refine FinS.i ?_) | (refine FinS.f ?_))
  all_goals (refine Side.mk ?_)
  all_goals rename_i r hr q hq hb
  all_goals (have e1 := hr.raw c0; have e2 := hq.raw c0; rw [e2, sign_bits (f64_lt can_x)] at hb; rw [e1, low_bits (f64_lt can_x)])
  all_goals unfold plc
  · rw [hb]; have := (parts .f64 can_x.lt).2
    have hlt : rg Ieee.double x < 9223372036854775808 := by rw [← sw_double]; exact this
    simp only [cond_true]
    rw [i64_wrap (n := 0 - (rg Ieee.double x : Int)) (by omega) (by omega), i64_wrap (by omega) (by omega)]; omega
  · rw [hb]; rfl
def g78 : List MV → Option (List Prop × MV × List Blk × Bool)
  | [.f .f64 x] => some ([isNan .f64 x = false], (.i .i64 (plc x)), [], false)
  | _ => none
theorem s78 : SumsOK Try.prog (sumOf 78 g78 S68) := by
  refine SumsOK.add S68_ok fun ms ps m blks al e hp => ?_
  unfold g78 at e
  split at e
  · cases e; exact (t78 _ (hp _ (by simp))).alone rfl
  · cases e
def S78 := sumOf 78 g78 S68
theorem S78_ok : SumsOK Try.prog S78 := s78
noncomputable def fi79 : FnI := ⟨9, Try.f79.body.getD .skip, [.tmp 2], true⟩
theorem fi79_ok : fnGen Try.prog 79 = some fi79 := by kernel_rfl
theorem t79 (x : Nat) (c0 : isNan .f64 x = false): CM Try.prog 79 [.f .f64 x] (.i .i64 (wor x)) [] true := by
  refine CM.assume (fnGen_ok fi79_ok).enters fun hcan => ?_
  have can_x : Can .f64 x := hcan 0 .f64 x (by simp) rfl
  clear hcan
  refine CM.of_gen (exts := exts) (inl := []) (sum := S78) extsOK S78_ok fi79_ok 6 rfl fun cx => ?_
  repeat' ((fail_if_success (with_reducible refine Side.mk ?_)); (fail_if_success (with_reducible refine Rest.mk ?_)); first | (with_reducible refine Need.mk ?_ ?_) | (with_reducible refine And.intro ?_ ?_) | (with_reducible intro _) | ((fail_if_success (with_reducible refine FinS.mk ?_)); (conv => whnf)) | (refine FinS.b ?_) | (refine FinS.lb ?_) | (refine FinS.i ?_) | (refine FinS.f ?_))
  all_goals first | exact Side.mk c0 | skip
  all_goals (refine Side.mk ?_)
  all_goals (rename_i h; unfold wor; rw [h]; rfl)
def g79 : List MV → Option (List Prop × MV × List Blk × Bool)
  | [.f .f64 x] => some ([isNan .f64 x = false], (.i .i64 (wor x)), [], false)
  | _ => none
theorem s79 : SumsOK Try.prog (sumOf 79 g79 S78) := by
  refine SumsOK.add S78_ok fun ms ps m blks al e hp => ?_
  unfold g79 at e
  split at e
  · cases e; exact (t79 _ (hp _ (by simp))).alone rfl
  · cases e
def S79 := sumOf 79 g79 S78
theorem S79_ok : SumsOK Try.prog S79 := s79
noncomputable def fi77 : FnI := ⟨20, Try.f77.body.getD .skip, [.tmp 4], true⟩
theorem fi77_ok : fnGen Try.prog 77 = some fi77 := by kernel_rfl
theorem t77 (x : Nat) (y : Nat) : CM Try.prog 77 [.f .f64 x, .f .f64 y] (.b (fgt .f64 x y)) [] true := by
  refine CM.assume (fnGen_ok fi77_ok).enters fun hcan => ?_
  have can_x : Can .f64 x := hcan 0 .f64 x (by simp) rfl
  have can_y : Can .f64 y := hcan 1 .f64 y (by simp) rfl
  clear hcan
  refine CM.of_gen (exts := exts) (inl := []) (sum := S79) extsOK S79_ok fi77_ok 6 rfl fun cx => ?_
  repeat' ((fail_if_success (with_reducible refine Side.mk ?_)); (fail_if_success (with_reducible refine Rest.mk ?_)); first | (with_reducible refine Need.mk ?_ ?_) | (with_reducible refine And.intro ?_ ?_) | (with_reducible intro _) | ((fail_if_success (with_reducible refine FinS.mk ?_)); (conv => whnf)) | (refine FinS.b ?_) | (refine FinS.lb ?_) | (refine FinS.i ?_) | (refine FinS.f ?_))
  all_goals (refine Side.mk ?_)
  · intro h; cases hx : isNan .f64 x <;> simp_all
  · intro h; cases hx : isNan .f64 y <;> simp_all
  · exact gt_wor x y
def g77 : List MV → Option (List Prop × MV × List Blk × Bool)
  | [.f .f64 x, .f .f64 y] => some ([], (.b (fgt .f64 x y)), [], false)
  | _ => none
theorem s77 : SumsOK Try.prog (sumOf 77 g77 S79) := by
  refine SumsOK.add S79_ok fun ms ps m blks al e hp => ?_
  unfold g77 at e
  split at e
  · cases e; exact (t77 _ _ ).alone rfl
  · cases e
def S77 := sumOf 77 g77 S79
theorem S77_ok : SumsOK Try.prog S77 := s77
noncomputable def fi15 : FnI := ⟨22, Try.f15.body.getD .skip, [.tmp 4], true⟩
theorem fi15_ok : fnGen Try.prog 15 = some fi15 := by kernel_rfl
theorem t15 (x : Nat) (y : Nat) : CM Try.prog 15 [.f .f64 x, .f .f64 y] (.b (decide (x = y))) [] true := by
  refine CM.assume (fnGen_ok fi15_ok).enters fun hcan => ?_
  have can_x : Can .f64 x := hcan 0 .f64 x (by simp) rfl
  have can_y : Can .f64 y := hcan 1 .f64 y (by simp) rfl
  clear hcan
  refine CM.of_gen (exts := exts) (inl := []) (sum := S77) extsOK S77_ok fi15_ok 6 rfl fun cx => ?_
  repeat' ((fail_if_success (with_reducible refine Side.mk ?_)); (fail_if_success (with_reducible refine Rest.mk ?_)); first | (with_reducible refine Need.mk ?_ ?_) | (with_reducible refine And.intro ?_ ?_) | (with_reducible intro _) | ((fail_if_success (with_reducible refine FinS.mk ?_)); (conv => whnf)) | (refine FinS.b ?_) | (refine FinS.lb ?_) | (refine FinS.i ?_) | (refine FinS.f ?_))
  all_goals (refine Side.mk ?_)
  · rename_i h; exact same_nan can_x can_y h
  · rename_i h r hr q hq; exact same_raw hr hq h
def g15 : List MV → Option (List Prop × MV × List Blk × Bool)
  | [.f .f64 x, .f .f64 y] => some ([], (.b (decide (x = y))), [], false)
  | _ => none
theorem s15 : SumsOK Try.prog (sumOf 15 g15 S77) := by
  refine SumsOK.add S77_ok fun ms ps m blks al e hp => ?_
  unfold g15 at e
  split at e
  · cases e; exact (t15 _ _ ).alone rfl
  · cases e
def S15 := sumOf 15 g15 S77
theorem S15_ok : SumsOK Try.prog S15 := s15
noncomputable def fi14 : FnI := ⟨7, Try.f14.body.getD .skip, [.tmp 2], true⟩
theorem fi14_ok : fnGen Try.prog 14 = some fi14 := by kernel_rfl
theorem t14 (x : Nat) : CM Try.prog 14 [.f .f64 x] (.i .u64 (x : Int)) [] true := by
  refine CM.assume (fnGen_ok fi14_ok).enters fun hcan => ?_
  have can_x : Can .f64 x := hcan 0 .f64 x (by simp) rfl
  clear hcan
  refine CM.of_gen (exts := exts) (inl := []) (sum := S15) extsOK S15_ok fi14_ok 6 rfl fun cx => ?_
  repeat' ((fail_if_success (with_reducible refine Side.mk ?_)); (fail_if_success (with_reducible refine Rest.mk ?_)); first | (with_reducible refine Need.mk ?_ ?_) | (with_reducible refine And.intro ?_ ?_) | (with_reducible intro _) | ((fail_if_success (with_reducible refine FinS.mk ?_)); (conv => whnf)) | (refine FinS.b ?_) | (refine FinS.lb ?_) | (refine FinS.i ?_) | (refine FinS.f ?_))
  all_goals (refine Side.mk ?_)
  · rename_i h; rw [can_x.qnan h]; rfl
  · rename_i h r hr; rw [hr.raw h]
def g14 : List MV → Option (List Prop × MV × List Blk × Bool)
  | [.f .f64 x] => some ([], (.i .u64 (x : Int)), [], false)
  | _ => none
theorem s14 : SumsOK Try.prog (sumOf 14 g14 S15) := by
  refine SumsOK.add S15_ok fun ms ps m blks al e hp => ?_
  unfold g14 at e
  split at e
  · cases e; exact (t14 _ ).alone rfl
  · cases e
def S14 := sumOf 14 g14 S15
theorem S14_ok : SumsOK Try.prog S14 := s14
noncomputable def fi66 : FnI := ⟨6, Try.f66.body.getD .skip, [.tmp 2], true⟩
theorem fi66_ok : fnGen Try.prog 66 = some fi66 := by kernel_rfl
theorem t66 (x : Nat) : CM Try.prog 66 [.f .f64 x] (.b (isNan .f64 x)) [] true := by
  refine CM.assume (fnGen_ok fi66_ok).enters fun hcan => ?_
  have can_x : Can .f64 x := hcan 0 .f64 x (by simp) rfl
  clear hcan
  refine CM.of_gen (exts := exts) (inl := []) (sum := S14) extsOK S14_ok fi66_ok 6 rfl fun cx => ?_
  repeat' ((fail_if_success (with_reducible refine Side.mk ?_)); (fail_if_success (with_reducible refine Rest.mk ?_)); first | (with_reducible refine Need.mk ?_ ?_) | (with_reducible refine And.intro ?_ ?_) | (with_reducible intro _) | ((fail_if_success (with_reducible refine FinS.mk ?_)); (conv => whnf)) | (refine FinS.b ?_) | (refine FinS.lb ?_) | (refine FinS.i ?_) | (refine FinS.f ?_))
  all_goals exact Side.mk (none_feq .f64 x)
def g66 : List MV → Option (List Prop × MV × List Blk × Bool)
  | [.f .f64 x] => some ([], (.b (isNan .f64 x)), [], false)
  | _ => none
theorem s66 : SumsOK Try.prog (sumOf 66 g66 S14) := by
  refine SumsOK.add S14_ok fun ms ps m blks al e hp => ?_
  unfold g66 at e
  split at e
  · cases e; exact (t66 _ ).alone rfl
  · cases e
def S66 := sumOf 66 g66 S14
theorem S66_ok : SumsOK Try.prog S66 := s66
noncomputable def fi72 : FnI := ⟨6, Try.f72.body.getD .skip, [.tmp 2], true⟩
theorem fi72_ok : fnGen Try.prog 72 = some fi72 := by kernel_rfl
theorem t72 (x : Nat) : CM Try.prog 72 [.f .f64 x] (.b (isNan .f64 x)) [] true := by
  refine CM.assume (fnGen_ok fi72_ok).enters fun hcan => ?_
  have can_x : Can .f64 x := hcan 0 .f64 x (by simp) rfl
  clear hcan
  refine CM.of_gen (exts := exts) (inl := []) (sum := S66) extsOK S66_ok fi72_ok 6 rfl fun cx => ?_
  repeat' ((fail_if_success (with_reducible refine Side.mk ?_)); (fail_if_success (with_reducible refine Rest.mk ?_)); first | (with_reducible refine Need.mk ?_ ?_) | (with_reducible refine And.intro ?_ ?_) | (with_reducible intro _) | ((fail_if_success (with_reducible refine FinS.mk ?_)); (conv => whnf)) | (refine FinS.b ?_) | (refine FinS.lb ?_) | (refine FinS.i ?_) | (refine FinS.f ?_))
  all_goals exact Side.mk (none_feq .f64 x)
def g72 : List MV → Option (List Prop × MV × List Blk × Bool)
  | [.f .f64 x] => some ([], (.b (isNan .f64 x)), [], false)
  | _ => none
theorem s72 : SumsOK Try.prog (sumOf 72 g72 S66) := by
  refine SumsOK.add S66_ok fun ms ps m blks al e hp => ?_
  unfold g72 at e
  split at e
  · cases e; exact (t72 _ ).alone rfl
  · cases e
def S72 := sumOf 72 g72 S66
theorem S72_ok : SumsOK Try.prog S72 := s72
noncomputable def fi74 : FnI := ⟨6, Try.f74.body.getD .skip, [.tmp 2], true⟩
theorem fi74_ok : fnGen Try.prog 74 = some fi74 := by kernel_rfl
theorem t74 (x : Nat) : CM Try.prog 74 [.f .f32 x] (.b (isNan .f32 x)) [] true := by
  refine CM.assume (fnGen_ok fi74_ok).enters fun hcan => ?_
  have can_x : Can .f32 x := hcan 0 .f32 x (by simp) rfl
  clear hcan
  refine CM.of_gen (exts := exts) (inl := []) (sum := S72) extsOK S72_ok fi74_ok 6 rfl fun cx => ?_
  repeat' ((fail_if_success (with_reducible refine Side.mk ?_)); (fail_if_success (with_reducible refine Rest.mk ?_)); first | (with_reducible refine Need.mk ?_ ?_) | (with_reducible refine And.intro ?_ ?_) | (with_reducible intro _) | ((fail_if_success (with_reducible refine FinS.mk ?_)); (conv => whnf)) | (refine FinS.b ?_) | (refine FinS.lb ?_) | (refine FinS.i ?_) | (refine FinS.f ?_))
  all_goals exact Side.mk (none_feq .f32 x)
def g74 : List MV → Option (List Prop × MV × List Blk × Bool)
  | [.f .f32 x] => some ([], (.b (isNan .f32 x)), [], false)
  | _ => none
theorem s74 : SumsOK Try.prog (sumOf 74 g74 S72) := by
  refine SumsOK.add S72_ok fun ms ps m blks al e hp => ?_
  unfold g74 at e
  split at e
  · cases e; exact (t74 _ ).alone rfl
  · cases e
def S74 := sumOf 74 g74 S72
theorem S74_ok : SumsOK Try.prog S74 := s74
noncomputable def fi76 : FnI := ⟨6, Try.f76.body.getD .skip, [.tmp 2], true⟩
theorem fi76_ok : fnGen Try.prog 76 = some fi76 := by kernel_rfl
theorem t76 (x : Nat) : CM Try.prog 76 [.f .f32 x] (.b (isNan .f32 x)) [] true := by
  refine CM.assume (fnGen_ok fi76_ok).enters fun hcan => ?_
  have can_x : Can .f32 x := hcan 0 .f32 x (by simp) rfl
  clear hcan
  refine CM.of_gen (exts := exts) (inl := []) (sum := S74) extsOK S74_ok fi76_ok 6 rfl fun cx => ?_
  repeat' ((fail_if_success (with_reducible refine Side.mk ?_)); (fail_if_success (with_reducible refine Rest.mk ?_)); first | (with_reducible refine Need.mk ?_ ?_) | (with_reducible refine And.intro ?_ ?_) | (with_reducible intro _) | ((fail_if_success (with_reducible refine FinS.mk ?_)); (conv => whnf)) | (refine FinS.b ?_) | (refine FinS.lb ?_) | (refine FinS.i ?_) | (refine FinS.f ?_))
  all_goals exact Side.mk (none_feq .f32 x)
def g76 : List MV → Option (List Prop × MV × List Blk × Bool)
  | [.f .f32 x] => some ([], (.b (isNan .f32 x)), [], false)
  | _ => none
theorem s76 : SumsOK Try.prog (sumOf 76 g76 S74) := by
  refine SumsOK.add S74_ok fun ms ps m blks al e hp => ?_
  unfold g76 at e
  split at e
  · cases e; exact (t76 _ ).alone rfl
  · cases e
def S76 := sumOf 76 g76 S74
theorem S76_ok : SumsOK Try.prog S76 := s76
noncomputable def fi13 : FnI := ⟨7, Try.f13.body.getD .skip, [.tmp 2], true⟩
theorem fi13_ok : fnGen Try.prog 13 = some fi13 := by kernel_rfl
theorem t13 (x : Nat) : CM Try.prog 13 [.f .f64 x] (.i .u64 (x : Int)) [] true := by
  refine CM.assume (fnGen_ok fi13_ok).enters fun hcan => ?_
  have can_x : Can .f64 x := hcan 0 .f64 x (by simp) rfl
  clear hcan
  refine CM.of_gen (exts := exts) (inl := []) (sum := S76) extsOK S76_ok fi13_ok 6 rfl fun cx => ?_
  repeat' ((fail_if_success (with_reducible refine Side.mk ?_)); (fail_if_success (with_reducible refine Rest.mk ?_)); first | (with_reducible refine Need.mk ?_ ?_) | (with_reducible refine And.intro ?_ ?_) | (with_reducible intro _) | ((fail_if_success (with_reducible refine FinS.mk ?_)); (conv => whnf)) | (refine FinS.b ?_) | (refine FinS.lb ?_) | (refine FinS.i ?_) | (refine FinS.f ?_))
  all_goals (refine Side.mk ?_)
  · rename_i h; rw [can_x.qnan h]; rfl
  · rename_i h r hr; rw [hr.raw h]
def g13 : List MV → Option (List Prop × MV × List Blk × Bool)
  | [.f .f64 x] => some ([], (.i .u64 (x : Int)), [], false)
  | _ => none
theorem s13 : SumsOK Try.prog (sumOf 13 g13 S76) := by
  refine SumsOK.add S76_ok fun ms ps m blks al e hp => ?_
  unfold g13 at e
  split at e
  · cases e; exact (t13 _ ).alone rfl
  · cases e
def S13 := sumOf 13 g13 S76
theorem S13_ok : SumsOK Try.prog S13 := s13
noncomputable def fi12 : FnI := ⟨5, Try.f12.body.getD .skip, [.tmp 2], true⟩
theorem fi12_ok : fnGen Try.prog 12 = some fi12 := by kernel_rfl
theorem t12 (n : Int) (c0 : n.toNat < 18446744073709551616): CM Try.prog 12 [.i .u64 n] (.f .f64 (canon .f64 n.toNat)) [] true := by
  refine CM.of_gen (exts := exts) (inl := []) (sum := S13) extsOK S13_ok fi12_ok 6 rfl fun cx => ?_
  repeat' ((fail_if_success (with_reducible refine Side.mk ?_)); (fail_if_success (with_reducible refine Rest.mk ?_)); first | (with_reducible refine Need.mk ?_ ?_) | (with_reducible refine And.intro ?_ ?_) | (with_reducible intro _) | ((fail_if_success (with_reducible refine FinS.mk ?_)); (conv => whnf)) | (refine FinS.b ?_) | (refine FinS.lb ?_) | (refine FinS.i ?_) | (refine FinS.f ?_))
  all_goals first | exact Side.mk rfl | exact Side.mk c0
def g12 : List MV → Option (List Prop × MV × List Blk × Bool)
  | [.i .u64 n] => some ([n.toNat < 18446744073709551616], (.f .f64 (canon .f64 n.toNat)), [], false)
  | _ => none
theorem s12 : SumsOK Try.prog (sumOf 12 g12 S13) := by
  refine SumsOK.add S13_ok fun ms ps m blks al e hp => ?_
  unfold g12 at e
  split at e
  · cases e; exact (t12 _ (hp _ (by simp))).alone rfl
  · cases e
def S12 := sumOf 12 g12 S13
theorem S12_ok : SumsOK Try.prog S12 := s12
noncomputable def fi16 : FnI := ⟨5, Try.f16.body.getD .skip, [.tmp 2], true⟩
theorem fi16_ok : fnGen Try.prog 16 = some fi16 := by kernel_rfl
theorem t16 (n : Int) (c0 : n.toNat < 18446744073709551616): CM Try.prog 16 [.i .u64 n] (.f .f64 (canon .f64 n.toNat)) [] true := by
  refine CM.of_gen (exts := exts) (inl := []) (sum := S12) extsOK S12_ok fi16_ok 6 rfl fun cx => ?_
  repeat' ((fail_if_success (with_reducible refine Side.mk ?_)); (fail_if_success (with_reducible refine Rest.mk ?_)); first | (with_reducible refine Need.mk ?_ ?_) | (with_reducible refine And.intro ?_ ?_) | (with_reducible intro _) | ((fail_if_success (with_reducible refine FinS.mk ?_)); (conv => whnf)) | (refine FinS.b ?_) | (refine FinS.lb ?_) | (refine FinS.i ?_) | (refine FinS.f ?_))
  all_goals first | exact Side.mk rfl | exact Side.mk c0
def g16 : List MV → Option (List Prop × MV × List Blk × Bool)
  | [.i .u64 n] => some ([n.toNat < 18446744073709551616], (.f .f64 (canon .f64 n.toNat)), [], false)
  | _ => none
theorem s16 : SumsOK Try.prog (sumOf 16 g16 S12) := by
  refine SumsOK.add S12_ok fun ms ps m blks al e hp => ?_
  unfold g16 at e
  split at e
  · cases e; exact (t16 _ (hp _ (by simp))).alone rfl
  · cases e
def S16 := sumOf 16 g16 S12
theorem S16_ok : SumsOK Try.prog S16 := s16
noncomputable def fi19 : FnI := ⟨5, Try.f19.body.getD .skip, [.tmp 2], true⟩
theorem fi19_ok : fnGen Try.prog 19 = some fi19 := by kernel_rfl
theorem t19 (n : Int) (c0 : n.toNat < 4294967296): CM Try.prog 19 [.i .u32 n] (.f .f32 (canon .f32 n.toNat)) [] true := by
  refine CM.of_gen (exts := exts) (inl := []) (sum := S16) extsOK S16_ok fi19_ok 6 rfl fun cx => ?_
  repeat' ((fail_if_success (with_reducible refine Side.mk ?_)); (fail_if_success (with_reducible refine Rest.mk ?_)); first | (with_reducible refine Need.mk ?_ ?_) | (with_reducible refine And.intro ?_ ?_) | (with_reducible intro _) | ((fail_if_success (with_reducible refine FinS.mk ?_)); (conv => whnf)) | (refine FinS.b ?_) | (refine FinS.lb ?_) | (refine FinS.i ?_) | (refine FinS.f ?_))
  all_goals first | exact Side.mk rfl | exact Side.mk c0
def g19 : List MV → Option (List Prop × MV × List Blk × Bool)
  | [.i .u32 n] => some ([n.toNat < 4294967296], (.f .f32 (canon .f32 n.toNat)), [], false)
  | _ => none
theorem s19 : SumsOK Try.prog (sumOf 19 g19 S16) := by
  refine SumsOK.add S16_ok fun ms ps m blks al e hp => ?_
  unfold g19 at e
  split at e
  · cases e; exact (t19 _ (hp _ (by simp))).alone rfl
  · cases e
def S19 := sumOf 19 g19 S16
theorem S19_ok : SumsOK Try.prog S19 := s19
noncomputable def fi23 : FnI := ⟨5, Try.f23.body.getD .skip, [.tmp 2], true⟩
theorem fi23_ok : fnGen Try.prog 23 = some fi23 := by kernel_rfl
theorem t23 (x : Nat) : CM Try.prog 23 [.f .f32 x] (.f .f64 (widen x)) [] true := by
  refine CM.assume (fnGen_ok fi23_ok).enters fun hcan => ?_
  have can_x : Can .f32 x := hcan 0 .f32 x (by simp) rfl
  clear hcan
  refine CM.of_gen (exts := exts) (inl := []) (sum := S19) extsOK S19_ok fi23_ok 6 rfl fun cx => ?_
  repeat' ((fail_if_success (with_reducible refine Side.mk ?_)); (fail_if_success (with_reducible refine Rest.mk ?_)); first | (with_reducible refine Need.mk ?_ ?_) | (with_reducible refine And.intro ?_ ?_) | (with_reducible intro _) | ((fail_if_success (with_reducible refine FinS.mk ?_)); (conv => whnf)) | (refine FinS.b ?_) | (refine FinS.lb ?_) | (refine FinS.i ?_) | (refine FinS.f ?_))
  all_goals first | exact Side.mk rfl | exact Side.mk c0
def g23 : List MV → Option (List Prop × MV × List Blk × Bool)
  | [.f .f32 x] => some ([], (.f .f64 (widen x)), [], false)
  | _ => none
theorem s23 : SumsOK Try.prog (sumOf 23 g23 S19) := by
  refine SumsOK.add S19_ok fun ms ps m blks al e hp => ?_
  unfold g23 at e
  split at e
  · cases e; exact (t23 _ ).alone rfl
  · cases e
def S23 := sumOf 23 g23 S19
theorem S23_ok : SumsOK Try.prog S23 := s23
noncomputable def fi17 : FnI := ⟨14, Try.f17.body.getD .skip, [.tmp 6], true⟩
theorem fi17_ok : fnGen Try.prog 17 = some fi17 := by kernel_rfl
theorem t17 (a : Nat) (b : Nat) (t : Nat) : CM Try.prog 17 [.f .f64 a, .f .f64 b, .f .f64 t] (.f .f64 (nBetween a b t)) [] true := by
  refine CM.assume (fnGen_ok fi17_ok).enters fun hcan => ?_
  have can_a : Can .f64 a := hcan 0 .f64 a (by simp) rfl
  have can_b : Can .f64 b := hcan 1 .f64 b (by simp) rfl
  have can_t : Can .f64 t := hcan 2 .f64 t (by simp) rfl
  clear hcan
  refine CM.of_gen (exts := exts) (inl := []) (sum := S23) extsOK S23_ok fi17_ok 6 rfl fun cx => ?_
  repeat' ((fail_if_success (with_reducible refine Side.mk ?_)); (fail_if_success (with_reducible refine Rest.mk ?_)); first | (with_reducible refine Need.mk ?_ ?_) | (with_reducible refine And.intro ?_ ?_) | (with_reducible intro _) | ((fail_if_success (with_reducible refine FinS.mk ?_)); (conv => whnf)) | (refine FinS.b ?_) | (refine FinS.lb ?_) | (refine FinS.i ?_) | (refine FinS.f ?_))
  all_goals first | exact Side.mk rfl | exact Side.mk c0
def g17 : List MV → Option (List Prop × MV × List Blk × Bool)
  | [.f .f64 a, .f .f64 b, .f .f64 t] => some ([], (.f .f64 (nBetween a b t)), [], false)
  | _ => none
theorem s17 : SumsOK Try.prog (sumOf 17 g17 S23) := by
  refine SumsOK.add S23_ok fun ms ps m blks al e hp => ?_
  unfold g17 at e
  split at e
  · cases e; exact (t17 _ _ _ ).alone rfl
  · cases e
def S17 := sumOf 17 g17 S23
theorem S17_ok : SumsOK Try.prog S17 := s17
noncomputable def fi18 : FnI := ⟨18, Try.f18.body.getD .skip, [.tmp 6], true⟩
theorem fi18_ok : fnGen Try.prog 18 = some fi18 := by kernel_rfl
theorem t18 (a : Nat) (b : Nat) (t : Nat) : CM Try.prog 18 [.f .f64 a, .f .f64 b, .f .f64 t] (.f .f64 (nBetween a b t)) [] true := by
  refine CM.assume (fnGen_ok fi18_ok).enters fun hcan => ?_
  have can_a : Can .f64 a := hcan 0 .f64 a (by simp) rfl
  have can_b : Can .f64 b := hcan 1 .f64 b (by simp) rfl
  have can_t : Can .f64 t := hcan 2 .f64 t (by simp) rfl
  clear hcan
  refine CM.of_gen (exts := exts) (inl := []) (sum := S17) extsOK S17_ok fi18_ok 6 rfl fun cx => ?_
  repeat' ((fail_if_success (with_reducible refine Side.mk ?_)); (fail_if_success (with_reducible refine Rest.mk ?_)); first | (with_reducible refine Need.mk ?_ ?_) | (with_reducible refine And.intro ?_ ?_) | (with_reducible intro _) | ((fail_if_success (with_reducible refine FinS.mk ?_)); (conv => whnf)) | (refine FinS.b ?_) | (refine FinS.lb ?_) | (refine FinS.i ?_) | (refine FinS.f ?_))
  all_goals first | exact Side.mk rfl | exact Side.mk c0
def g18 : List MV → Option (List Prop × MV × List Blk × Bool)
  | [.f .f64 a, .f .f64 b, .f .f64 t] => some ([], (.f .f64 (nBetween a b t)), [], false)
  | _ => none
theorem s18 : SumsOK Try.prog (sumOf 18 g18 S17) := by
  refine SumsOK.add S17_ok fun ms ps m blks al e hp => ?_
  unfold g18 at e
  split at e
  · cases e; exact (t18 _ _ _ ).alone rfl
  · cases e
def S18 := sumOf 18 g18 S17
theorem S18_ok : SumsOK Try.prog S18 := s18
noncomputable def fi70 : FnI := ⟨6, Try.f70.body.getD .skip, [.tmp 2], true⟩
theorem fi70_ok : fnGen Try.prog 70 = some fi70 := by kernel_rfl
theorem t70 (x : Nat) : CM Try.prog 70 [.f .f64 x] (.b (fminus .f64 x)) [] true := by
  refine CM.assume (fnGen_ok fi70_ok).enters fun hcan => ?_
  have can_x : Can .f64 x := hcan 0 .f64 x (by simp) rfl
  clear hcan
  refine CM.of_gen (exts := exts) (inl := []) (sum := S18) extsOK S18_ok fi70_ok 6 rfl fun cx => ?_
  repeat' ((fail_if_success (with_reducible refine Side.mk ?_)); (fail_if_success (with_reducible refine Rest.mk ?_)); first | (with_reducible refine Need.mk ?_ ?_) | (with_reducible refine And.intro ?_ ?_) | (with_reducible intro _) | ((fail_if_success (with_reducible refine FinS.mk ?_)); (conv => whnf)) | (refine FinS.b ?_) | (refine FinS.lb ?_) | (refine FinS.i ?_) | (refine FinS.f ?_))
  all_goals exact Side.mk rfl
def g70 : List MV → Option (List Prop × MV × List Blk × Bool)
  | [.f .f64 x] => some ([], (.b (fminus .f64 x)), [], false)
  | _ => none
theorem s70 : SumsOK Try.prog (sumOf 70 g70 S18) := by
  refine SumsOK.add S18_ok fun ms ps m blks al e hp => ?_
  unfold g70 at e
  split at e
  · cases e; exact (t70 _ ).alone rfl
  · cases e
def S70 := sumOf 70 g70 S18
theorem S70_ok : SumsOK Try.prog S70 := s70
noncomputable def fi71 : FnI := ⟨6, Try.f71.body.getD .skip, [.tmp 2], true⟩
theorem fi71_ok : fnGen Try.prog 71 = some fi71 := by kernel_rfl
theorem t71 (x : Nat) : CM Try.prog 71 [.f .f64 x] (.b (fminus .f64 x)) [] true := by
  refine CM.assume (fnGen_ok fi71_ok).enters fun hcan => ?_
  have can_x : Can .f64 x := hcan 0 .f64 x (by simp) rfl
  clear hcan
  refine CM.of_gen (exts := exts) (inl := []) (sum := S70) extsOK S70_ok fi71_ok 6 rfl fun cx => ?_
  repeat' ((fail_if_success (with_reducible refine Side.mk ?_)); (fail_if_success (with_reducible refine Rest.mk ?_)); first | (with_reducible refine Need.mk ?_ ?_) | (with_reducible refine And.intro ?_ ?_) | (with_reducible intro _) | ((fail_if_success (with_reducible refine FinS.mk ?_)); (conv => whnf)) | (refine FinS.b ?_) | (refine FinS.lb ?_) | (refine FinS.i ?_) | (refine FinS.f ?_))
  all_goals exact Side.mk rfl
def g71 : List MV → Option (List Prop × MV × List Blk × Bool)
  | [.f .f64 x] => some ([], (.b (fminus .f64 x)), [], false)
  | _ => none
theorem s71 : SumsOK Try.prog (sumOf 71 g71 S70) := by
  refine SumsOK.add S70_ok fun ms ps m blks al e hp => ?_
  unfold g71 at e
  split at e
  · cases e; exact (t71 _ ).alone rfl
  · cases e
def S71 := sumOf 71 g71 S70
theorem S71_ok : SumsOK Try.prog S71 := s71
noncomputable def fi73 : FnI := ⟨6, Try.f73.body.getD .skip, [.tmp 2], true⟩
theorem fi73_ok : fnGen Try.prog 73 = some fi73 := by kernel_rfl
theorem t73 (x : Nat) : CM Try.prog 73 [.f .f32 x] (.b (fminus .f32 x)) [] true := by
  refine CM.assume (fnGen_ok fi73_ok).enters fun hcan => ?_
  have can_x : Can .f32 x := hcan 0 .f32 x (by simp) rfl
  clear hcan
  refine CM.of_gen (exts := exts) (inl := []) (sum := S71) extsOK S71_ok fi73_ok 6 rfl fun cx => ?_
  repeat' ((fail_if_success (with_reducible refine Side.mk ?_)); (fail_if_success (with_reducible refine Rest.mk ?_)); first | (with_reducible refine Need.mk ?_ ?_) | (with_reducible refine And.intro ?_ ?_) | (with_reducible intro _) | ((fail_if_success (with_reducible refine FinS.mk ?_)); (conv => whnf)) | (refine FinS.b ?_) | (refine FinS.lb ?_) | (refine FinS.i ?_) | (refine FinS.f ?_))
  all_goals exact Side.mk rfl
def g73 : List MV → Option (List Prop × MV × List Blk × Bool)
  | [.f .f32 x] => some ([], (.b (fminus .f32 x)), [], false)
  | _ => none
theorem s73 : SumsOK Try.prog (sumOf 73 g73 S71) := by
  refine SumsOK.add S71_ok fun ms ps m blks al e hp => ?_
  unfold g73 at e
  split at e
  · cases e; exact (t73 _ ).alone rfl
  · cases e
def S73 := sumOf 73 g73 S71
theorem S73_ok : SumsOK Try.prog S73 := s73
noncomputable def fi75 : FnI := ⟨6, Try.f75.body.getD .skip, [.tmp 2], true⟩
theorem fi75_ok : fnGen Try.prog 75 = some fi75 := by kernel_rfl
theorem t75 (x : Nat) : CM Try.prog 75 [.f .f32 x] (.b (fminus .f32 x)) [] true := by
  refine CM.assume (fnGen_ok fi75_ok).enters fun hcan => ?_
  have can_x : Can .f32 x := hcan 0 .f32 x (by simp) rfl
  clear hcan
  refine CM.of_gen (exts := exts) (inl := []) (sum := S73) extsOK S73_ok fi75_ok 6 rfl fun cx => ?_
  repeat' ((fail_if_success (with_reducible refine Side.mk ?_)); (fail_if_success (with_reducible refine Rest.mk ?_)); first | (with_reducible refine Need.mk ?_ ?_) | (with_reducible refine And.intro ?_ ?_) | (with_reducible intro _) | ((fail_if_success (with_reducible refine FinS.mk ?_)); (conv => whnf)) | (refine FinS.b ?_) | (refine FinS.lb ?_) | (refine FinS.i ?_) | (refine FinS.f ?_))
  all_goals exact Side.mk rfl
def g75 : List MV → Option (List Prop × MV × List Blk × Bool)
  | [.f .f32 x] => some ([], (.b (fminus .f32 x)), [], false)
  | _ => none
theorem s75 : SumsOK Try.prog (sumOf 75 g75 S73) := by
  refine SumsOK.add S73_ok fun ms ps m blks al e hp => ?_
  unfold g75 at e
  split at e
  · cases e; exact (t75 _ ).alone rfl
  · cases e
def S75 := sumOf 75 g75 S73
theorem S75_ok : SumsOK Try.prog S75 := s75
noncomputable def fi20 : FnI := ⟨27, Try.f20.body.getD .skip, [.tmp 4], true⟩
theorem fi20_ok : fnGen Try.prog 20 = some fi20 := by kernel_rfl
theorem t20 (a : Nat) (b : Nat) : CM Try.prog 20 [.f .f64 a, .f .f64 b] (.b (nSame .f64 a b)) [] true := by
  refine CM.assume (fnGen_ok fi20_ok).enters fun hcan => ?_
  have can_a : Can .f64 a := hcan 0 .f64 a (by simp) rfl
  have can_b : Can .f64 b := hcan 1 .f64 b (by simp) rfl
  clear hcan
  refine CM.of_gen (exts := exts) (inl := []) (sum := S75) extsOK S75_ok fi20_ok 6 rfl fun cx => ?_
  repeat' ((fail_if_success (with_reducible refine Side.mk ?_)); (fail_if_success (with_reducible refine Rest.mk ?_)); first | (with_reducible refine Need.mk ?_ ?_) | (with_reducible refine And.intro ?_ ?_) | (with_reducible intro _) | ((fail_if_success (with_reducible refine FinS.mk ?_)); (conv => whnf)) | (refine FinS.b ?_) | (refine FinS.lb ?_) | (refine FinS.i ?_) | (refine FinS.f ?_))
  all_goals (refine Side.mk ?_)
  all_goals (unfold nSame; simp only [*, cond_true, cond_false])
def g20 : List MV → Option (List Prop × MV × List Blk × Bool)
  | [.f .f64 a, .f .f64 b] => some ([], (.b (nSame .f64 a b)), [], false)
  | _ => none
theorem s20 : SumsOK Try.prog (sumOf 20 g20 S75) := by
  refine SumsOK.add S75_ok fun ms ps m blks al e hp => ?_
  unfold g20 at e
  split at e
  · cases e; exact (t20 _ _ ).alone rfl
  · cases e
def S20 := sumOf 20 g20 S75
theorem S20_ok : SumsOK Try.prog S20 := s20
noncomputable def fi21 : FnI := ⟨27, Try.f21.body.getD .skip, [.tmp 4], true⟩
theorem fi21_ok : fnGen Try.prog 21 = some fi21 := by kernel_rfl
theorem t21 (a : Nat) (b : Nat) : CM Try.prog 21 [.f .f64 a, .f .f64 b] (.b (nSame .f64 a b)) [] true := by
  refine CM.assume (fnGen_ok fi21_ok).enters fun hcan => ?_
  have can_a : Can .f64 a := hcan 0 .f64 a (by simp) rfl
  have can_b : Can .f64 b := hcan 1 .f64 b (by simp) rfl
  clear hcan
  refine CM.of_gen (exts := exts) (inl := []) (sum := S20) extsOK S20_ok fi21_ok 6 rfl fun cx => ?_
  repeat' ((fail_if_success (with_reducible refine Side.mk ?_)); (fail_if_success (with_reducible refine Rest.mk ?_)); first | (with_reducible refine Need.mk ?_ ?_) | (with_reducible refine And.intro ?_ ?_) | (with_reducible intro _) | ((fail_if_success (with_reducible refine FinS.mk ?_)); (conv => whnf)) | (refine FinS.b ?_) | (refine FinS.lb ?_) | (refine FinS.i ?_) | (refine FinS.f ?_))
  all_goals (refine Side.mk ?_)
  all_goals (unfold nSame; simp only [*, cond_true, cond_false])
def g21 : List MV → Option (List Prop × MV × List Blk × Bool)
  | [.f .f64 a, .f .f64 b] => some ([], (.b (nSame .f64 a b)), [], false)
  | _ => none
theorem s21 : SumsOK Try.prog (sumOf 21 g21 S20) := by
  refine SumsOK.add S20_ok fun ms ps m blks al e hp => ?_
  unfold g21 at e
  split at e
  · cases e; exact (t21 _ _ ).alone rfl
  · cases e
def S21 := sumOf 21 g21 S20
theorem S21_ok : SumsOK Try.prog S21 := s21
noncomputable def fi22 : FnI := ⟨27, Try.f22.body.getD .skip, [.tmp 4], true⟩
theorem fi22_ok : fnGen Try.prog 22 = some fi22 := by kernel_rfl
theorem t22 (a : Nat) (b : Nat) : CM Try.prog 22 [.f .f32 a, .f .f32 b] (.b (nSame .f32 a b)) [] true := by
  refine CM.assume (fnGen_ok fi22_ok).enters fun hcan => ?_
  have can_a : Can .f32 a := hcan 0 .f32 a (by simp) rfl
  have can_b : Can .f32 b := hcan 1 .f32 b (by simp) rfl
  clear hcan
  refine CM.of_gen (exts := exts) (inl := []) (sum := S21) extsOK S21_ok fi22_ok 6 rfl fun cx => ?_
  repeat' ((fail_if_success (with_reducible refine Side.mk ?_)); (fail_if_success (with_reducible refine Rest.mk ?_)); first | (with_reducible refine Need.mk ?_ ?_) | (with_reducible refine And.intro ?_ ?_) | (with_reducible intro _) | ((fail_if_success (with_reducible refine FinS.mk ?_)); (conv => whnf)) | (refine FinS.b ?_) | (refine FinS.lb ?_) | (refine FinS.i ?_) | (refine FinS.f ?_))
  all_goals (refine Side.mk ?_)
  all_goals (unfold nSame; simp only [*, cond_true, cond_false])
def g22 : List MV → Option (List Prop × MV × List Blk × Bool)
  | [.f .f32 a, .f .f32 b] => some ([], (.b (nSame .f32 a b)), [], false)
  | _ => none
theorem s22 : SumsOK Try.prog (sumOf 22 g22 S21) := by
  refine SumsOK.add S21_ok fun ms ps m blks al e hp => ?_
  unfold g22 at e
  split at e
  · cases e; exact (t22 _ _ ).alone rfl
  · cases e
def S22 := sumOf 22 g22 S21
theorem S22_ok : SumsOK Try.prog S22 := s22
noncomputable def fi24 : FnI := ⟨27, Try.f24.body.getD .skip, [.tmp 4], true⟩
theorem fi24_ok : fnGen Try.prog 24 = some fi24 := by kernel_rfl
theorem t24 (a : Nat) (b : Nat) : CM Try.prog 24 [.f .f32 a, .f .f32 b] (.b (nSame .f32 a b)) [] true := by
  refine CM.assume (fnGen_ok fi24_ok).enters fun hcan => ?_
  have can_a : Can .f32 a := hcan 0 .f32 a (by simp) rfl
  have can_b : Can .f32 b := hcan 1 .f32 b (by simp) rfl
  clear hcan
  refine CM.of_gen (exts := exts) (inl := []) (sum := S22) extsOK S22_ok fi24_ok 6 rfl fun cx => ?_
  repeat' ((fail_if_success (with_reducible refine Side.mk ?_)); (fail_if_success (with_reducible refine Rest.mk ?_)); first | (with_reducible refine Need.mk ?_ ?_) | (with_reducible refine And.intro ?_ ?_) | (with_reducible intro _) | ((fail_if_success (with_reducible refine FinS.mk ?_)); (conv => whnf)) | (refine FinS.b ?_) | (refine FinS.lb ?_) | (refine FinS.i ?_) | (refine FinS.f ?_))
  all_goals (refine Side.mk ?_)
  all_goals (unfold nSame; simp only [*, cond_true, cond_false])
def g24 : List MV → Option (List Prop × MV × List Blk × Bool)
  | [.f .f32 a, .f .f32 b] => some ([], (.b (nSame .f32 a b)), [], false)
  | _ => none
theorem s24 : SumsOK Try.prog (sumOf 24 g24 S22) := by
  refine SumsOK.add S22_ok fun ms ps m blks al e hp => ?_
  unfold g24 at e
  split at e
  · cases e; exact (t24 _ _ ).alone rfl
  · cases e
def S24 := sumOf 24 g24 S22
theorem S24_ok : SumsOK Try.prog S24 := s24
noncomputable def fi25 : FnI := ⟨7, Try.f25.body.getD .skip, [.tmp 2], true⟩
theorem fi25_ok : fnGen Try.prog 25 = some fi25 := by kernel_rfl
theorem t25 (a : Nat) : CM Try.prog 25 [.f .f64 a] (.b (fin .f64 a)) [] true := by
  refine CM.assume (fnGen_ok fi25_ok).enters fun hcan => ?_
  have can_a : Can .f64 a := hcan 0 .f64 a (by simp) rfl
  clear hcan
  refine CM.of_gen (exts := exts) (inl := []) (sum := S24) extsOK S24_ok fi25_ok 6 rfl fun cx => ?_
  repeat' ((fail_if_success (with_reducible refine Side.mk ?_)); (fail_if_success (with_reducible refine Rest.mk ?_)); first | (with_reducible refine Need.mk ?_ ?_) | (with_reducible refine And.intro ?_ ?_) | (with_reducible intro _) | ((fail_if_success (with_reducible refine FinS.mk ?_)); (conv => whnf)) | (refine FinS.b ?_) | (refine FinS.lb ?_) | (refine FinS.i ?_) | (refine FinS.f ?_))
  all_goals exact Side.mk (finite_eq .f64 a)
def g25 : List MV → Option (List Prop × MV × List Blk × Bool)
  | [.f .f64 a] => some ([], (.b (fin .f64 a)), [], false)
  | _ => none
theorem s25 : SumsOK Try.prog (sumOf 25 g25 S24) := by
  refine SumsOK.add S24_ok fun ms ps m blks al e hp => ?_
  unfold g25 at e
  split at e
  · cases e; exact (t25 _ ).alone rfl
  · cases e
def S25 := sumOf 25 g25 S24
theorem S25_ok : SumsOK Try.prog S25 := s25
noncomputable def fi27 : FnI := ⟨7, Try.f27.body.getD .skip, [.tmp 2], true⟩
theorem fi27_ok : fnGen Try.prog 27 = some fi27 := by kernel_rfl
theorem t27 (a : Nat) : CM Try.prog 27 [.f .f64 a] (.b (fin .f64 a)) [] true := by
  refine CM.assume (fnGen_ok fi27_ok).enters fun hcan => ?_
  have can_a : Can .f64 a := hcan 0 .f64 a (by simp) rfl
  clear hcan
  refine CM.of_gen (exts := exts) (inl := []) (sum := S25) extsOK S25_ok fi27_ok 6 rfl fun cx => ?_
  repeat' ((fail_if_success (with_reducible refine Side.mk ?_)); (fail_if_success (with_reducible refine Rest.mk ?_)); first | (with_reducible refine Need.mk ?_ ?_) | (with_reducible refine And.intro ?_ ?_) | (with_reducible intro _) | ((fail_if_success (with_reducible refine FinS.mk ?_)); (conv => whnf)) | (refine FinS.b ?_) | (refine FinS.lb ?_) | (refine FinS.i ?_) | (refine FinS.f ?_))
  all_goals exact Side.mk (finite_eq .f64 a)
def g27 : List MV → Option (List Prop × MV × List Blk × Bool)
  | [.f .f64 a] => some ([], (.b (fin .f64 a)), [], false)
  | _ => none
theorem s27 : SumsOK Try.prog (sumOf 27 g27 S25) := by
  refine SumsOK.add S25_ok fun ms ps m blks al e hp => ?_
  unfold g27 at e
  split at e
  · cases e; exact (t27 _ ).alone rfl
  · cases e
def S27 := sumOf 27 g27 S25
theorem S27_ok : SumsOK Try.prog S27 := s27
noncomputable def fi28 : FnI := ⟨7, Try.f28.body.getD .skip, [.tmp 2], true⟩
theorem fi28_ok : fnGen Try.prog 28 = some fi28 := by kernel_rfl
theorem t28 (a : Nat) : CM Try.prog 28 [.f .f32 a] (.b (fin .f32 a)) [] true := by
  refine CM.assume (fnGen_ok fi28_ok).enters fun hcan => ?_
  have can_a : Can .f32 a := hcan 0 .f32 a (by simp) rfl
  clear hcan
  refine CM.of_gen (exts := exts) (inl := []) (sum := S27) extsOK S27_ok fi28_ok 6 rfl fun cx => ?_
  repeat' ((fail_if_success (with_reducible refine Side.mk ?_)); (fail_if_success (with_reducible refine Rest.mk ?_)); first | (with_reducible refine Need.mk ?_ ?_) | (with_reducible refine And.intro ?_ ?_) | (with_reducible intro _) | ((fail_if_success (with_reducible refine FinS.mk ?_)); (conv => whnf)) | (refine FinS.b ?_) | (refine FinS.lb ?_) | (refine FinS.i ?_) | (refine FinS.f ?_))
  all_goals exact Side.mk (finite_eq .f32 a)
def g28 : List MV → Option (List Prop × MV × List Blk × Bool)
  | [.f .f32 a] => some ([], (.b (fin .f32 a)), [], false)
  | _ => none
theorem s28 : SumsOK Try.prog (sumOf 28 g28 S27) := by
  refine SumsOK.add S27_ok fun ms ps m blks al e hp => ?_
  unfold g28 at e
  split at e
  · cases e; exact (t28 _ ).alone rfl
  · cases e
def S28 := sumOf 28 g28 S27
theorem S28_ok : SumsOK Try.prog S28 := s28
noncomputable def fi29 : FnI := ⟨7, Try.f29.body.getD .skip, [.tmp 2], true⟩
theorem fi29_ok : fnGen Try.prog 29 = some fi29 := by kernel_rfl
theorem t29 (a : Nat) : CM Try.prog 29 [.f .f32 a] (.b (fin .f32 a)) [] true := by
  refine CM.assume (fnGen_ok fi29_ok).enters fun hcan => ?_
  have can_a : Can .f32 a := hcan 0 .f32 a (by simp) rfl
  clear hcan
  refine CM.of_gen (exts := exts) (inl := []) (sum := S28) extsOK S28_ok fi29_ok 6 rfl fun cx => ?_
  repeat' ((fail_if_success (with_reducible refine Side.mk ?_)); (fail_if_success (with_reducible refine Rest.mk ?_)); first | (with_reducible refine Need.mk ?_ ?_) | (with_reducible refine And.intro ?_ ?_) | (with_reducible intro _) | ((fail_if_success (with_reducible refine FinS.mk ?_)); (conv => whnf)) | (refine FinS.b ?_) | (refine FinS.lb ?_) | (refine FinS.i ?_) | (refine FinS.f ?_))
  all_goals exact Side.mk (finite_eq .f32 a)
def g29 : List MV → Option (List Prop × MV × List Blk × Bool)
  | [.f .f32 a] => some ([], (.b (fin .f32 a)), [], false)
  | _ => none
theorem s29 : SumsOK Try.prog (sumOf 29 g29 S28) := by
  refine SumsOK.add S28_ok fun ms ps m blks al e hp => ?_
  unfold g29 at e
  split at e
  · cases e; exact (t29 _ ).alone rfl
  · cases e
def S29 := sumOf 29 g29 S28
theorem S29_ok : SumsOK Try.prog S29 := s29
noncomputable def fi26 : FnI := ⟨8, Try.f26.body.getD .skip, [.tmp 2], true⟩
theorem fi26_ok : fnGen Try.prog 26 = some fi26 := by kernel_rfl
theorem t26 (x : Nat) : CM Try.prog 26 [.f .f64 x] (.b (fin .f64 x)) [] true := by
  refine CM.assume (fnGen_ok fi26_ok).enters fun hcan => ?_
  have can_x : Can .f64 x := hcan 0 .f64 x (by simp) rfl
  clear hcan
  refine CM.of_gen (exts := exts) (inl := []) (sum := S29) extsOK S29_ok fi26_ok 6 rfl fun cx => ?_
  repeat' ((fail_if_success (with_reducible refine Side.mk ?_)); (fail_if_success (with_reducible refine Rest.mk ?_)); first | (with_reducible refine Need.mk ?_ ?_) | (with_reducible refine And.intro ?_ ?_) | (with_reducible intro _) | ((fail_if_success (with_reducible refine FinS.mk ?_)); (conv => whnf)) | (refine FinS.b ?_) | (refine FinS.lb ?_) | (refine FinS.i ?_) | (refine FinS.f ?_))
  all_goals (rename_i r hr; exact Side.mk (fin_bits hr))
def g26 : List MV → Option (List Prop × MV × List Blk × Bool)
  | [.f .f64 x] => some ([], (.b (fin .f64 x)), [], false)
  | _ => none
theorem s26 : SumsOK Try.prog (sumOf 26 g26 S29) := by
  refine SumsOK.add S29_ok fun ms ps m blks al e hp => ?_
  unfold g26 at e
  split at e
  · cases e; exact (t26 _ ).alone rfl
  · cases e
def S26 := sumOf 26 g26 S29
theorem S26_ok : SumsOK Try.prog S26 := s26
noncomputable def fi34 : FnI := ⟨14, Try.f34.body.getD .skip, [.tmp 4], true⟩
theorem fi34_ok : fnGen Try.prog 34 = some fi34 := by kernel_rfl
theorem t34 (a : Nat) (m : Nat) : CM Try.prog 34 [.f .f64 a, .f .f64 m] (.b (nWithin .f64 a m)) [] true := by
  refine CM.assume (fnGen_ok fi34_ok).enters fun hcan => ?_
  have can_a : Can .f64 a := hcan 0 .f64 a (by simp) rfl
  have can_m : Can .f64 m := hcan 1 .f64 m (by simp) rfl
  clear hcan
  refine CM.of_gen (exts := exts) (inl := []) (sum := S26) extsOK S26_ok fi34_ok 6 rfl fun cx => ?_
  repeat' ((fail_if_success (with_reducible refine Side.mk ?_)); (fail_if_success (with_reducible refine Rest.mk ?_)); first | (with_reducible refine Need.mk ?_ ?_) | (with_reducible refine And.intro ?_ ?_) | (with_reducible intro _) | ((fail_if_success (with_reducible refine FinS.mk ?_)); (conv => whnf)) | (refine FinS.b ?_) | (refine FinS.lb ?_) | (refine FinS.i ?_) | (refine FinS.f ?_))
  all_goals exact Side.mk rfl
def g34 : List MV → Option (List Prop × MV × List Blk × Bool)
  | [.f .f64 a, .f .f64 m] => some ([], (.b (nWithin .f64 a m)), [], false)
  | _ => none
theorem s34 : SumsOK Try.prog (sumOf 34 g34 S26) := by
  refine SumsOK.add S26_ok fun ms ps m blks al e hp => ?_
  unfold g34 at e
  split at e
  · cases e; exact (t34 _ _ ).alone rfl
  · cases e
def S34 := sumOf 34 g34 S26
theorem S34_ok : SumsOK Try.prog S34 := s34
noncomputable def fi36 : FnI := ⟨14, Try.f36.body.getD .skip, [.tmp 4], true⟩
theorem fi36_ok : fnGen Try.prog 36 = some fi36 := by kernel_rfl
theorem t36 (a : Nat) (m : Nat) : CM Try.prog 36 [.f .f64 a, .f .f64 m] (.b (nWithin .f64 a m)) [] true := by
  refine CM.assume (fnGen_ok fi36_ok).enters fun hcan => ?_
  have can_a : Can .f64 a := hcan 0 .f64 a (by simp) rfl
  have can_m : Can .f64 m := hcan 1 .f64 m (by simp) rfl
  clear hcan
  refine CM.of_gen (exts := exts) (inl := []) (sum := S34) extsOK S34_ok fi36_ok 6 rfl fun cx => ?_
  repeat' ((fail_if_success (with_reducible refine Side.mk ?_)); (fail_if_success (with_reducible refine Rest.mk ?_)); first | (with_reducible refine Need.mk ?_ ?_) | (with_reducible refine And.intro ?_ ?_) | (with_reducible intro _) | ((fail_if_success (with_reducible refine FinS.mk ?_)); (conv => whnf)) | (refine FinS.b ?_) | (refine FinS.lb ?_) | (refine FinS.i ?_) | (refine FinS.f ?_))
  all_goals exact Side.mk rfl
def g36 : List MV → Option (List Prop × MV × List Blk × Bool)
  | [.f .f64 a, .f .f64 m] => some ([], (.b (nWithin .f64 a m)), [], false)
  | _ => none
theorem s36 : SumsOK Try.prog (sumOf 36 g36 S34) := by
  refine SumsOK.add S34_ok fun ms ps m blks al e hp => ?_
  unfold g36 at e
  split at e
  · cases e; exact (t36 _ _ ).alone rfl
  · cases e
def S36 := sumOf 36 g36 S34
theorem S36_ok : SumsOK Try.prog S36 := s36
noncomputable def fi37 : FnI := ⟨14, Try.f37.body.getD .skip, [.tmp 4], true⟩
theorem fi37_ok : fnGen Try.prog 37 = some fi37 := by kernel_rfl
theorem t37 (a : Nat) (m : Nat) : CM Try.prog 37 [.f .f32 a, .f .f32 m] (.b (nWithin .f32 a m)) [] true := by
  refine CM.assume (fnGen_ok fi37_ok).enters fun hcan => ?_
  have can_a : Can .f32 a := hcan 0 .f32 a (by simp) rfl
  have can_m : Can .f32 m := hcan 1 .f32 m (by simp) rfl
  clear hcan
  refine CM.of_gen (exts := exts) (inl := []) (sum := S36) extsOK S36_ok fi37_ok 6 rfl fun cx => ?_
  repeat' ((fail_if_success (with_reducible refine Side.mk ?_)); (fail_if_success (with_reducible refine Rest.mk ?_)); first | (with_reducible refine Need.mk ?_ ?_) | (with_reducible refine And.intro ?_ ?_) | (with_reducible intro _) | ((fail_if_success (with_reducible refine FinS.mk ?_)); (conv => whnf)) | (refine FinS.b ?_) | (refine FinS.lb ?_) | (refine FinS.i ?_) | (refine FinS.f ?_))
  all_goals exact Side.mk rfl
def g37 : List MV → Option (List Prop × MV × List Blk × Bool)
  | [.f .f32 a, .f .f32 m] => some ([], (.b (nWithin .f32 a m)), [], false)
  | _ => none
theorem s37 : SumsOK Try.prog (sumOf 37 g37 S36) := by
  refine SumsOK.add S36_ok fun ms ps m blks al e hp => ?_
  unfold g37 at e
  split at e
  · cases e; exact (t37 _ _ ).alone rfl
  · cases e
def S37 := sumOf 37 g37 S36
theorem S37_ok : SumsOK Try.prog S37 := s37
noncomputable def fi38 : FnI := ⟨14, Try.f38.body.getD .skip, [.tmp 4], true⟩
theorem fi38_ok : fnGen Try.prog 38 = some fi38 := by kernel_rfl
theorem t38 (a : Nat) (m : Nat) : CM Try.prog 38 [.f .f32 a, .f .f32 m] (.b (nWithin .f32 a m)) [] true := by
  refine CM.assume (fnGen_ok fi38_ok).enters fun hcan => ?_
  have can_a : Can .f32 a := hcan 0 .f32 a (by simp) rfl
  have can_m : Can .f32 m := hcan 1 .f32 m (by simp) rfl
  clear hcan
  refine CM.of_gen (exts := exts) (inl := []) (sum := S37) extsOK S37_ok fi38_ok 6 rfl fun cx => ?_
  repeat' ((fail_if_success (with_reducible refine Side.mk ?_)); (fail_if_success (with_reducible refine Rest.mk ?_)); first | (with_reducible refine Need.mk ?_ ?_) | (with_reducible refine And.intro ?_ ?_) | (with_reducible intro _) | ((fail_if_success (with_reducible refine FinS.mk ?_)); (conv => whnf)) | (refine FinS.b ?_) | (refine FinS.lb ?_) | (refine FinS.i ?_) | (refine FinS.f ?_))
  all_goals exact Side.mk rfl
def g38 : List MV → Option (List Prop × MV × List Blk × Bool)
  | [.f .f32 a, .f .f32 m] => some ([], (.b (nWithin .f32 a m)), [], false)
  | _ => none
theorem s38 : SumsOK Try.prog (sumOf 38 g38 S37) := by
  refine SumsOK.add S37_ok fun ms ps m blks al e hp => ?_
  unfold g38 at e
  split at e
  · cases e; exact (t38 _ _ ).alone rfl
  · cases e
def S38 := sumOf 38 g38 S37
theorem S38_ok : SumsOK Try.prog S38 := s38
noncomputable def fi35 : FnI := ⟨26, Try.f35.body.getD .skip, [.tmp 4], true⟩
theorem fi35_ok : fnGen Try.prog 35 = some fi35 := by kernel_rfl
theorem t35 (a : Nat) (m : Nat) : CM Try.prog 35 [.f .f64 a, .f .f64 m] (.b (rWithin a m)) [] true := by
  refine CM.assume (fnGen_ok fi35_ok).enters fun hcan => ?_
  have can_a : Can .f64 a := hcan 0 .f64 a (by simp) rfl
  have can_m : Can .f64 m := hcan 1 .f64 m (by simp) rfl
  clear hcan
  refine CM.of_gen (exts := exts) (inl := []) (sum := S38) extsOK S38_ok fi35_ok 6 rfl fun cx => ?_
  repeat' ((fail_if_success (with_reducible refine Side.mk ?_)); (fail_if_success (with_reducible refine Rest.mk ?_)); first | (with_reducible refine Need.mk ?_ ?_) | (with_reducible refine And.intro ?_ ?_) | (with_reducible intro _) | ((fail_if_success (with_reducible refine FinS.mk ?_)); (conv => whnf)) | (refine FinS.b ?_) | (refine FinS.lb ?_) | (refine FinS.i ?_) | (refine FinS.f ?_))
  all_goals exact Side.mk rfl
def g35 : List MV → Option (List Prop × MV × List Blk × Bool)
  | [.f .f64 a, .f .f64 m] => some ([], (.b (rWithin a m)), [], false)
  | _ => none
theorem s35 : SumsOK Try.prog (sumOf 35 g35 S38) := by
  refine SumsOK.add S38_ok fun ms ps m blks al e hp => ?_
  unfold g35 at e
  split at e
  · cases e; exact (t35 _ _ ).alone rfl
  · cases e
def S35 := sumOf 35 g35 S38
theorem S35_ok : SumsOK Try.prog S35 := s35
noncomputable def fi39 : FnI := ⟨19, Try.f39.body.getD .skip, [.tmp 6], true⟩
theorem fi39_ok : fnGen Try.prog 39 = some fi39 := by kernel_rfl
theorem t39 (a : Nat) (l : Nat) (h : Nat) : CM Try.prog 39 [.f .f64 a, .f .f64 l, .f .f64 h] (.f .f64 (nClamp .f64 a l h)) [] true := by
  refine CM.assume (fnGen_ok fi39_ok).enters fun hcan => ?_
  have can_a : Can .f64 a := hcan 0 .f64 a (by simp) rfl
  have can_l : Can .f64 l := hcan 1 .f64 l (by simp) rfl
  have can_h : Can .f64 h := hcan 2 .f64 h (by simp) rfl
  clear hcan
  refine CM.of_gen (exts := exts) (inl := []) (sum := S35) extsOK S35_ok fi39_ok 6 rfl fun cx => ?_
  repeat' ((fail_if_success (with_reducible refine Side.mk ?_)); (fail_if_success (with_reducible refine Rest.mk ?_)); first | (with_reducible refine Need.mk ?_ ?_) | (with_reducible refine And.intro ?_ ?_) | (with_reducible intro _) | ((fail_if_success (with_reducible refine FinS.mk ?_)); (conv => whnf)) | (refine FinS.b ?_) | (refine FinS.lb ?_) | (refine FinS.i ?_) | (refine FinS.f ?_))
  all_goals (refine Side.mk ?_)
  all_goals (unfold nClamp; simp only [*, cond_true, cond_false])
def g39 : List MV → Option (List Prop × MV × List Blk × Bool)
  | [.f .f64 a, .f .f64 l, .f .f64 h] => some ([], (.f .f64 (nClamp .f64 a l h)), [], false)
  | _ => none
theorem s39 : SumsOK Try.prog (sumOf 39 g39 S35) := by
  refine SumsOK.add S35_ok fun ms ps m blks al e hp => ?_
  unfold g39 at e
  split at e
  · cases e; exact (t39 _ _ _ ).alone rfl
  · cases e
def S39 := sumOf 39 g39 S35
theorem S39_ok : SumsOK Try.prog S39 := s39
noncomputable def fi41 : FnI := ⟨19, Try.f41.body.getD .skip, [.tmp 6], true⟩
theorem fi41_ok : fnGen Try.prog 41 = some fi41 := by kernel_rfl
theorem t41 (a : Nat) (l : Nat) (h : Nat) : CM Try.prog 41 [.f .f64 a, .f .f64 l, .f .f64 h] (.f .f64 (nClamp .f64 a l h)) [] true := by
  refine CM.assume (fnGen_ok fi41_ok).enters fun hcan => ?_
  have can_a : Can .f64 a := hcan 0 .f64 a (by simp) rfl
  have can_l : Can .f64 l := hcan 1 .f64 l (by simp) rfl
  have can_h : Can .f64 h := hcan 2 .f64 h (by simp) rfl
  clear hcan
  refine CM.of_gen (exts := exts) (inl := []) (sum := S39) extsOK S39_ok fi41_ok 6 rfl fun cx => ?_
  repeat' ((fail_if_success (with_reducible refine Side.mk ?_)); (fail_if_success (with_reducible refine Rest.mk ?_)); first | (with_reducible refine Need.mk ?_ ?_) | (with_reducible refine And.intro ?_ ?_) | (with_reducible intro _) | ((fail_if_success (with_reducible refine FinS.mk ?_)); (conv => whnf)) | (refine FinS.b ?_) | (refine FinS.lb ?_) | (refine FinS.i ?_) | (refine FinS.f ?_))
  all_goals (refine Side.mk ?_)
  all_goals (unfold nClamp; simp only [*, cond_true, cond_false])
def g41 : List MV → Option (List Prop × MV × List Blk × Bool)
  | [.f .f64 a, .f .f64 l, .f .f64 h] => some ([], (.f .f64 (nClamp .f64 a l h)), [], false)
  | _ => none
theorem s41 : SumsOK Try.prog (sumOf 41 g41 S39) := by
  refine SumsOK.add S39_ok fun ms ps m blks al e hp => ?_
  unfold g41 at e
  split at e
  · cases e; exact (t41 _ _ _ ).alone rfl
  · cases e
def S41 := sumOf 41 g41 S39
theorem S41_ok : SumsOK Try.prog S41 := s41
noncomputable def fi42 : FnI := ⟨19, Try.f42.body.getD .skip, [.tmp 6], true⟩
theorem fi42_ok : fnGen Try.prog 42 = some fi42 := by kernel_rfl
theorem t42 (a : Nat) (l : Nat) (h : Nat) : CM Try.prog 42 [.f .f32 a, .f .f32 l, .f .f32 h] (.f .f32 (nClamp .f32 a l h)) [] true := by
  refine CM.assume (fnGen_ok fi42_ok).enters fun hcan => ?_
  have can_a : Can .f32 a := hcan 0 .f32 a (by simp) rfl
  have can_l : Can .f32 l := hcan 1 .f32 l (by simp) rfl
  have can_h : Can .f32 h := hcan 2 .f32 h (by simp) rfl
  clear hcan
  refine CM.of_gen (exts := exts) (inl := []) (sum := S41) extsOK S41_ok fi42_ok 6 rfl fun cx => ?_
  repeat' ((fail_if_success (with_reducible refine Side.mk ?_)); (fail_if_success (with_reducible refine Rest.mk ?_)); first | (with_reducible refine Need.mk ?_ ?_) | (with_reducible refine And.intro ?_ ?_) | (with_reducible intro _) | ((fail_if_success (with_reducible refine FinS.mk ?_)); (conv => whnf)) | (refine FinS.b ?_) | (refine FinS.lb ?_) | (refine FinS.i ?_) | (refine FinS.f ?_))
  all_goals (refine Side.mk ?_)
  all_goals (unfold nClamp; simp only [*, cond_true, cond_false])
def g42 : List MV → Option (List Prop × MV × List Blk × Bool)
  | [.f .f32 a, .f .f32 l, .f .f32 h] => some ([], (.f .f32 (nClamp .f32 a l h)), [], false)
  | _ => none
theorem s42 : SumsOK Try.prog (sumOf 42 g42 S41) := by
  refine SumsOK.add S41_ok fun ms ps m blks al e hp => ?_
  unfold g42 at e
  split at e
  · cases e; exact (t42 _ _ _ ).alone rfl
  · cases e
def S42 := sumOf 42 g42 S41
theorem S42_ok : SumsOK Try.prog S42 := s42
noncomputable def fi43 : FnI := ⟨19, Try.f43.body.getD .skip, [.tmp 6], true⟩
theorem fi43_ok : fnGen Try.prog 43 = some fi43 := by kernel_rfl
theorem t43 (a : Nat) (l : Nat) (h : Nat) : CM Try.prog 43 [.f .f32 a, .f .f32 l, .f .f32 h] (.f .f32 (nClamp .f32 a l h)) [] true := by
  refine CM.assume (fnGen_ok fi43_ok).enters fun hcan => ?_
  have can_a : Can .f32 a := hcan 0 .f32 a (by simp) rfl
  have can_l : Can .f32 l := hcan 1 .f32 l (by simp) rfl
  have can_h : Can .f32 h := hcan 2 .f32 h (by simp) rfl
  clear hcan
  refine CM.of_gen (exts := exts) (inl := []) (sum := S42) extsOK S42_ok fi43_ok 6 rfl fun cx => ?_
  repeat' ((fail_if_success (with_reducible refine Side.mk ?_)); (fail_if_success (with_reducible refine Rest.mk ?_)); first | (with_reducible refine Need.mk ?_ ?_) | (with_reducible refine And.intro ?_ ?_) | (with_reducible intro _) | ((fail_if_success (with_reducible refine FinS.mk ?_)); (conv => whnf)) | (refine FinS.b ?_) | (refine FinS.lb ?_) | (refine FinS.i ?_) | (refine FinS.f ?_))
  all_goals (refine Side.mk ?_)
  all_goals (unfold nClamp; simp only [*, cond_true, cond_false])
def g43 : List MV → Option (List Prop × MV × List Blk × Bool)
  | [.f .f32 a, .f .f32 l, .f .f32 h] => some ([], (.f .f32 (nClamp .f32 a l h)), [], false)
  | _ => none
theorem s43 : SumsOK Try.prog (sumOf 43 g43 S42) := by
  refine SumsOK.add S42_ok fun ms ps m blks al e hp => ?_
  unfold g43 at e
  split at e
  · cases e; exact (t43 _ _ _ ).alone rfl
  · cases e
def S43 := sumOf 43 g43 S42
theorem S43_ok : SumsOK Try.prog S43 := s43
noncomputable def fi40 : FnI := ⟨17, Try.f40.body.getD .skip, [.tmp 6], true⟩
theorem fi40_ok : fnGen Try.prog 40 = some fi40 := by kernel_rfl
theorem t40 (a : Nat) (l : Nat) (h : Nat) : CM Try.prog 40 [.f .f64 a, .f .f64 l, .f .f64 h] (.f .f64 (rClamp a l h)) [] true := by
  refine CM.assume (fnGen_ok fi40_ok).enters fun hcan => ?_
  have can_a : Can .f64 a := hcan 0 .f64 a (by simp) rfl
  have can_l : Can .f64 l := hcan 1 .f64 l (by simp) rfl
  have can_h : Can .f64 h := hcan 2 .f64 h (by simp) rfl
  clear hcan
  refine CM.of_gen (exts := exts) (inl := []) (sum := S43) extsOK S43_ok fi40_ok 6 rfl fun cx => ?_
  repeat' ((fail_if_success (with_reducible refine Side.mk ?_)); (fail_if_success (with_reducible refine Rest.mk ?_)); first | (with_reducible refine Need.mk ?_ ?_) | (with_reducible refine And.intro ?_ ?_) | (with_reducible intro _) | ((fail_if_success (with_reducible refine FinS.mk ?_)); (conv => whnf)) | (refine FinS.b ?_) | (refine FinS.lb ?_) | (refine FinS.i ?_) | (refine FinS.f ?_))
  all_goals (refine Side.mk ?_)
  all_goals (unfold rClamp; simp only [*, cond_true, cond_false])
def g40 : List MV → Option (List Prop × MV × List Blk × Bool)
  | [.f .f64 a, .f .f64 l, .f .f64 h] => some ([], (.f .f64 (rClamp a l h)), [], false)
  | _ => none
theorem s40 : SumsOK Try.prog (sumOf 40 g40 S43) := by
  refine SumsOK.add S43_ok fun ms ps m blks al e hp => ?_
  unfold g40 at e
  split at e
  · cases e; exact (t40 _ _ _ ).alone rfl
  · cases e
def S40 := sumOf 40 g40 S43
theorem S40_ok : SumsOK Try.prog S40 := s40
noncomputable def fi44 : FnI := ⟨26, Try.f44.body.getD .skip, [.tmp 4], true⟩
theorem fi44_ok : fnGen Try.prog 44 = some fi44 := by kernel_rfl
theorem t44 (a : Nat) (b : Nat) : CM Try.prog 44 [.f .f64 a, .f .f64 b] (.f .f64 (nLeast .f64 a b)) [] true := by
  refine CM.assume (fnGen_ok fi44_ok).enters fun hcan => ?_
  have can_a : Can .f64 a := hcan 0 .f64 a (by simp) rfl
  have can_b : Can .f64 b := hcan 1 .f64 b (by simp) rfl
  clear hcan
  refine CM.of_gen (exts := exts) (inl := []) (sum := S40) extsOK S40_ok fi44_ok 6 rfl fun cx => ?_
  repeat' ((fail_if_success (with_reducible refine Side.mk ?_)); (fail_if_success (with_reducible refine Rest.mk ?_)); first | (with_reducible refine Need.mk ?_ ?_) | (with_reducible refine And.intro ?_ ?_) | (with_reducible intro _) | ((fail_if_success (with_reducible refine FinS.mk ?_)); (conv => whnf)) | (refine FinS.b ?_) | (refine FinS.lb ?_) | (refine FinS.i ?_) | (refine FinS.f ?_))
  all_goals (refine Side.mk ?_)
  all_goals (unfold nLeast; simp only [*, cond_true, cond_false])
def g44 : List MV → Option (List Prop × MV × List Blk × Bool)
  | [.f .f64 a, .f .f64 b] => some ([], (.f .f64 (nLeast .f64 a b)), [], false)
  | _ => none
theorem s44 : SumsOK Try.prog (sumOf 44 g44 S40) := by
  refine SumsOK.add S40_ok fun ms ps m blks al e hp => ?_
  unfold g44 at e
  split at e
  · cases e; exact (t44 _ _ ).alone rfl
  · cases e
def S44 := sumOf 44 g44 S40
theorem S44_ok : SumsOK Try.prog S44 := s44
noncomputable def fi48 : FnI := ⟨26, Try.f48.body.getD .skip, [.tmp 4], true⟩
theorem fi48_ok : fnGen Try.prog 48 = some fi48 := by kernel_rfl
theorem t48 (a : Nat) (b : Nat) : CM Try.prog 48 [.f .f64 a, .f .f64 b] (.f .f64 (nLeast .f64 a b)) [] true := by
  refine CM.assume (fnGen_ok fi48_ok).enters fun hcan => ?_
  have can_a : Can .f64 a := hcan 0 .f64 a (by simp) rfl
  have can_b : Can .f64 b := hcan 1 .f64 b (by simp) rfl
  clear hcan
  refine CM.of_gen (exts := exts) (inl := []) (sum := S44) extsOK S44_ok fi48_ok 6 rfl fun cx => ?_
  repeat' ((fail_if_success (with_reducible refine Side.mk ?_)); (fail_if_success (with_reducible refine Rest.mk ?_)); first | (with_reducible refine Need.mk ?_ ?_) | (with_reducible refine And.intro ?_ ?_) | (with_reducible intro _) | ((fail_if_success (with_reducible refine FinS.mk ?_)); (conv => whnf)) | (refine FinS.b ?_) | (refine FinS.lb ?_) | (refine FinS.i ?_) | (refine FinS.f ?_))
  all_goals (refine Side.mk ?_)
  all_goals (unfold nLeast; simp only [*, cond_true, cond_false])
def g48 : List MV → Option (List Prop × MV × List Blk × Bool)
  | [.f .f64 a, .f .f64 b] => some ([], (.f .f64 (nLeast .f64 a b)), [], false)
  | _ => none
theorem s48 : SumsOK Try.prog (sumOf 48 g48 S44) := by
  refine SumsOK.add S44_ok fun ms ps m blks al e hp => ?_
  unfold g48 at e
  split at e
  · cases e; exact (t48 _ _ ).alone rfl
  · cases e
def S48 := sumOf 48 g48 S44
theorem S48_ok : SumsOK Try.prog S48 := s48
noncomputable def fi50 : FnI := ⟨26, Try.f50.body.getD .skip, [.tmp 4], true⟩
theorem fi50_ok : fnGen Try.prog 50 = some fi50 := by kernel_rfl
theorem t50 (a : Nat) (b : Nat) : CM Try.prog 50 [.f .f32 a, .f .f32 b] (.f .f32 (nLeast .f32 a b)) [] true := by
  refine CM.assume (fnGen_ok fi50_ok).enters fun hcan => ?_
  have can_a : Can .f32 a := hcan 0 .f32 a (by simp) rfl
  have can_b : Can .f32 b := hcan 1 .f32 b (by simp) rfl
  clear hcan
  refine CM.of_gen (exts := exts) (inl := []) (sum := S48) extsOK S48_ok fi50_ok 6 rfl fun cx => ?_
  repeat' ((fail_if_success (with_reducible refine Side.mk ?_)); (fail_if_success (with_reducible refine Rest.mk ?_)); first | (with_reducible refine Need.mk ?_ ?_) | (with_reducible refine And.intro ?_ ?_) | (with_reducible intro _) | ((fail_if_success (with_reducible refine FinS.mk ?_)); (conv => whnf)) | (refine FinS.b ?_) | (refine FinS.lb ?_) | (refine FinS.i ?_) | (refine FinS.f ?_))
  all_goals (refine Side.mk ?_)
  all_goals (unfold nLeast; simp only [*, cond_true, cond_false])
def g50 : List MV → Option (List Prop × MV × List Blk × Bool)
  | [.f .f32 a, .f .f32 b] => some ([], (.f .f32 (nLeast .f32 a b)), [], false)
  | _ => none
theorem s50 : SumsOK Try.prog (sumOf 50 g50 S48) := by
  refine SumsOK.add S48_ok fun ms ps m blks al e hp => ?_
  unfold g50 at e
  split at e
  · cases e; exact (t50 _ _ ).alone rfl
  · cases e
def S50 := sumOf 50 g50 S48
theorem S50_ok : SumsOK Try.prog S50 := s50
noncomputable def fi46 : FnI := ⟨26, Try.f46.body.getD .skip, [.tmp 4], true⟩
theorem fi46_ok : fnGen Try.prog 46 = some fi46 := by kernel_rfl
theorem t46 (a : Nat) (b : Nat) : CM Try.prog 46 [.f .f64 a, .f .f64 b] (.f .f64 (nMost .f64 a b)) [] true := by
  refine CM.assume (fnGen_ok fi46_ok).enters fun hcan => ?_
  have can_a : Can .f64 a := hcan 0 .f64 a (by simp) rfl
  have can_b : Can .f64 b := hcan 1 .f64 b (by simp) rfl
  clear hcan
  refine CM.of_gen (exts := exts) (inl := []) (sum := S50) extsOK S50_ok fi46_ok 6 rfl fun cx => ?_
  repeat' ((fail_if_success (with_reducible refine Side.mk ?_)); (fail_if_success (with_reducible refine Rest.mk ?_)); first | (with_reducible refine Need.mk ?_ ?_) | (with_reducible refine And.intro ?_ ?_) | (with_reducible intro _) | ((fail_if_success (with_reducible refine FinS.mk ?_)); (conv => whnf)) | (refine FinS.b ?_) | (refine FinS.lb ?_) | (refine FinS.i ?_) | (refine FinS.f ?_))
  all_goals (refine Side.mk ?_)
  all_goals (unfold nMost; simp only [*, cond_true, cond_false])
def g46 : List MV → Option (List Prop × MV × List Blk × Bool)
  | [.f .f64 a, .f .f64 b] => some ([], (.f .f64 (nMost .f64 a b)), [], false)
  | _ => none
theorem s46 : SumsOK Try.prog (sumOf 46 g46 S50) := by
  refine SumsOK.add S50_ok fun ms ps m blks al e hp => ?_
  unfold g46 at e
  split at e
  · cases e; exact (t46 _ _ ).alone rfl
  · cases e
def S46 := sumOf 46 g46 S50
theorem S46_ok : SumsOK Try.prog S46 := s46
noncomputable def fi49 : FnI := ⟨26, Try.f49.body.getD .skip, [.tmp 4], true⟩
theorem fi49_ok : fnGen Try.prog 49 = some fi49 := by kernel_rfl
theorem t49 (a : Nat) (b : Nat) : CM Try.prog 49 [.f .f64 a, .f .f64 b] (.f .f64 (nMost .f64 a b)) [] true := by
  refine CM.assume (fnGen_ok fi49_ok).enters fun hcan => ?_
  have can_a : Can .f64 a := hcan 0 .f64 a (by simp) rfl
  have can_b : Can .f64 b := hcan 1 .f64 b (by simp) rfl
  clear hcan
  refine CM.of_gen (exts := exts) (inl := []) (sum := S46) extsOK S46_ok fi49_ok 6 rfl fun cx => ?_
  repeat' ((fail_if_success (with_reducible refine Side.mk ?_)); (fail_if_success (with_reducible refine Rest.mk ?_)); first | (with_reducible refine Need.mk ?_ ?_) | (with_reducible refine And.intro ?_ ?_) | (with_reducible intro _) | ((fail_if_success (with_reducible refine FinS.mk ?_)); (conv => whnf)) | (refine FinS.b ?_) | (refine FinS.lb ?_) | (refine FinS.i ?_) | (refine FinS.f ?_))
  all_goals (refine Side.mk ?_)
  all_goals (unfold nMost; simp only [*, cond_true, cond_false])
def g49 : List MV → Option (List Prop × MV × List Blk × Bool)
  | [.f .f64 a, .f .f64 b] => some ([], (.f .f64 (nMost .f64 a b)), [], false)
  | _ => none
theorem s49 : SumsOK Try.prog (sumOf 49 g49 S46) := by
  refine SumsOK.add S46_ok fun ms ps m blks al e hp => ?_
  unfold g49 at e
  split at e
  · cases e; exact (t49 _ _ ).alone rfl
  · cases e
def S49 := sumOf 49 g49 S46
theorem S49_ok : SumsOK Try.prog S49 := s49
noncomputable def fi51 : FnI := ⟨26, Try.f51.body.getD .skip, [.tmp 4], true⟩
theorem fi51_ok : fnGen Try.prog 51 = some fi51 := by kernel_rfl
theorem t51 (a : Nat) (b : Nat) : CM Try.prog 51 [.f .f32 a, .f .f32 b] (.f .f32 (nMost .f32 a b)) [] true := by
  refine CM.assume (fnGen_ok fi51_ok).enters fun hcan => ?_
  have can_a : Can .f32 a := hcan 0 .f32 a (by simp) rfl
  have can_b : Can .f32 b := hcan 1 .f32 b (by simp) rfl
  clear hcan
  refine CM.of_gen (exts := exts) (inl := []) (sum := S49) extsOK S49_ok fi51_ok 6 rfl fun cx => ?_
  repeat' ((fail_if_success (with_reducible refine Side.mk ?_)); (fail_if_success (with_reducible refine Rest.mk ?_)); first | (with_reducible refine Need.mk ?_ ?_) | (with_reducible refine And.intro ?_ ?_) | (with_reducible intro _) | ((fail_if_success (with_reducible refine FinS.mk ?_)); (conv => whnf)) | (refine FinS.b ?_) | (refine FinS.lb ?_) | (refine FinS.i ?_) | (refine FinS.f ?_))
  all_goals (refine Side.mk ?_)
  all_goals (unfold nMost; simp only [*, cond_true, cond_false])
def g51 : List MV → Option (List Prop × MV × List Blk × Bool)
  | [.f .f32 a, .f .f32 b] => some ([], (.f .f32 (nMost .f32 a b)), [], false)
  | _ => none
theorem s51 : SumsOK Try.prog (sumOf 51 g51 S49) := by
  refine SumsOK.add S49_ok fun ms ps m blks al e hp => ?_
  unfold g51 at e
  split at e
  · cases e; exact (t51 _ _ ).alone rfl
  · cases e
def S51 := sumOf 51 g51 S49
theorem S51_ok : SumsOK Try.prog S51 := s51
noncomputable def fi52 : FnI := ⟨26, Try.f52.body.getD .skip, [.tmp 4], true⟩
theorem fi52_ok : fnGen Try.prog 52 = some fi52 := by kernel_rfl
theorem t52 (a : Nat) (b : Nat) : CM Try.prog 52 [.f .f32 a, .f .f32 b] (.f .f32 (nMost .f32 a b)) [] true := by
  refine CM.assume (fnGen_ok fi52_ok).enters fun hcan => ?_
  have can_a : Can .f32 a := hcan 0 .f32 a (by simp) rfl
  have can_b : Can .f32 b := hcan 1 .f32 b (by simp) rfl
  clear hcan
  refine CM.of_gen (exts := exts) (inl := []) (sum := S51) extsOK S51_ok fi52_ok 6 rfl fun cx => ?_
  repeat' ((fail_if_success (with_reducible refine Side.mk ?_)); (fail_if_success (with_reducible refine Rest.mk ?_)); first | (with_reducible refine Need.mk ?_ ?_) | (with_reducible refine And.intro ?_ ?_) | (with_reducible intro _) | ((fail_if_success (with_reducible refine FinS.mk ?_)); (conv => whnf)) | (refine FinS.b ?_) | (refine FinS.lb ?_) | (refine FinS.i ?_) | (refine FinS.f ?_))
  all_goals (refine Side.mk ?_)
  all_goals (unfold nMost; simp only [*, cond_true, cond_false])
def g52 : List MV → Option (List Prop × MV × List Blk × Bool)
  | [.f .f32 a, .f .f32 b] => some ([], (.f .f32 (nMost .f32 a b)), [], false)
  | _ => none
theorem s52 : SumsOK Try.prog (sumOf 52 g52 S51) := by
  refine SumsOK.add S51_ok fun ms ps m blks al e hp => ?_
  unfold g52 at e
  split at e
  · cases e; exact (t52 _ _ ).alone rfl
  · cases e
def S52 := sumOf 52 g52 S51
theorem S52_ok : SumsOK Try.prog S52 := s52
noncomputable def fi45 : FnI := ⟨19, Try.f45.body.getD .skip, [.tmp 4], true⟩
theorem fi45_ok : fnGen Try.prog 45 = some fi45 := by kernel_rfl
theorem t45 (a : Nat) (b : Nat) : CM Try.prog 45 [.f .f64 a, .f .f64 b] (.f .f64 (rLeast a b)) [] true := by
  refine CM.assume (fnGen_ok fi45_ok).enters fun hcan => ?_
  have can_a : Can .f64 a := hcan 0 .f64 a (by simp) rfl
  have can_b : Can .f64 b := hcan 1 .f64 b (by simp) rfl
  clear hcan
  refine CM.of_gen (exts := exts) (inl := []) (sum := S52) extsOK S52_ok fi45_ok 6 rfl fun cx => ?_
  repeat' ((fail_if_success (with_reducible refine Side.mk ?_)); (fail_if_success (with_reducible refine Rest.mk ?_)); first | (with_reducible refine Need.mk ?_ ?_) | (with_reducible refine And.intro ?_ ?_) | (with_reducible intro _) | ((fail_if_success (with_reducible refine FinS.mk ?_)); (conv => whnf)) | (refine FinS.b ?_) | (refine FinS.lb ?_) | (refine FinS.i ?_) | (refine FinS.f ?_))
  all_goals (refine Side.mk ?_)
  all_goals first | (unfold rLeast; simp only [*, cond_true, cond_false]; done) | (cases ha : isNan .f64 a <;> cases hb : isNan .f64 b <;> simp_all)
def g45 : List MV → Option (List Prop × MV × List Blk × Bool)
  | [.f .f64 a, .f .f64 b] => some ([], (.f .f64 (rLeast a b)), [], false)
  | _ => none
theorem s45 : SumsOK Try.prog (sumOf 45 g45 S52) := by
  refine SumsOK.add S52_ok fun ms ps m blks al e hp => ?_
  unfold g45 at e
  split at e
  · cases e; exact (t45 _ _ ).alone rfl
  · cases e
def S45 := sumOf 45 g45 S52
theorem S45_ok : SumsOK Try.prog S45 := s45
noncomputable def fi47 : FnI := ⟨19, Try.f47.body.getD .skip, [.tmp 4], true⟩
theorem fi47_ok : fnGen Try.prog 47 = some fi47 := by kernel_rfl
theorem t47 (a : Nat) (b : Nat) : CM Try.prog 47 [.f .f64 a, .f .f64 b] (.f .f64 (rMost a b)) [] true := by
  refine CM.assume (fnGen_ok fi47_ok).enters fun hcan => ?_
  have can_a : Can .f64 a := hcan 0 .f64 a (by simp) rfl
  have can_b : Can .f64 b := hcan 1 .f64 b (by simp) rfl
  clear hcan
  refine CM.of_gen (exts := exts) (inl := []) (sum := S45) extsOK S45_ok fi47_ok 6 rfl fun cx => ?_
  repeat' ((fail_if_success (with_reducible refine Side.mk ?_)); (fail_if_success (with_reducible refine Rest.mk ?_)); first | (with_reducible refine Need.mk ?_ ?_) | (with_reducible refine And.intro ?_ ?_) | (with_reducible intro _) | ((fail_if_success (with_reducible refine FinS.mk ?_)); (conv => whnf)) | (refine FinS.b ?_) | (refine FinS.lb ?_) | (refine FinS.i ?_) | (refine FinS.f ?_))
  all_goals (refine Side.mk ?_)
  all_goals first | (unfold rMost; simp only [*, cond_true, cond_false]; done) | (cases ha : isNan .f64 a <;> cases hb : isNan .f64 b <;> simp_all)
def g47 : List MV → Option (List Prop × MV × List Blk × Bool)
  | [.f .f64 a, .f .f64 b] => some ([], (.f .f64 (rMost a b)), [], false)
  | _ => none
theorem s47 : SumsOK Try.prog (sumOf 47 g47 S45) := by
  refine SumsOK.add S45_ok fun ms ps m blks al e hp => ?_
  unfold g47 at e
  split at e
  · cases e; exact (t47 _ _ ).alone rfl
  · cases e
def S47 := sumOf 47 g47 S45
theorem S47_ok : SumsOK Try.prog S47 := s47
noncomputable def fi53 : FnI := ⟨9, Try.f53.body.getD .skip, [.tmp 2], true⟩
theorem fi53_ok : fnGen Try.prog 53 = some fi53 := by kernel_rfl
theorem t53 (a : Nat) : CM Try.prog 53 [.f .f64 a] (.i .i64 (nSign .f64 a)) [] true := by
  refine CM.assume (fnGen_ok fi53_ok).enters fun hcan => ?_
  have can_a : Can .f64 a := hcan 0 .f64 a (by simp) rfl
  clear hcan
  refine CM.of_gen (exts := exts) (inl := []) (sum := S47) extsOK S47_ok fi53_ok 6 rfl fun cx => ?_
  repeat' ((fail_if_success (with_reducible refine Side.mk ?_)); (fail_if_success (with_reducible refine Rest.mk ?_)); first | (with_reducible refine Need.mk ?_ ?_) | (with_reducible refine And.intro ?_ ?_) | (with_reducible intro _) | ((fail_if_success (with_reducible refine FinS.mk ?_)); (conv => whnf)) | (refine FinS.b ?_) | (refine FinS.lb ?_) | (refine FinS.i ?_) | (refine FinS.f ?_))
  all_goals (refine Side.mk ?_)
  all_goals (unfold nSign; simp only [*, cond_true, cond_false])
def g53 : List MV → Option (List Prop × MV × List Blk × Bool)
  | [.f .f64 a] => some ([], (.i .i64 (nSign .f64 a)), [], false)
  | _ => none
theorem s53 : SumsOK Try.prog (sumOf 53 g53 S47) := by
  refine SumsOK.add S47_ok fun ms ps m blks al e hp => ?_
  unfold g53 at e
  split at e
  · cases e; exact (t53 _ ).alone rfl
  · cases e
def S53 := sumOf 53 g53 S47
theorem S53_ok : SumsOK Try.prog S53 := s53
noncomputable def fi55 : FnI := ⟨9, Try.f55.body.getD .skip, [.tmp 2], true⟩
theorem fi55_ok : fnGen Try.prog 55 = some fi55 := by kernel_rfl
theorem t55 (a : Nat) : CM Try.prog 55 [.f .f64 a] (.i .i64 (nSign .f64 a)) [] true := by
  refine CM.assume (fnGen_ok fi55_ok).enters fun hcan => ?_
  have can_a : Can .f64 a := hcan 0 .f64 a (by simp) rfl
  clear hcan
  refine CM.of_gen (exts := exts) (inl := []) (sum := S53) extsOK S53_ok fi55_ok 6 rfl fun cx => ?_
  repeat' ((fail_if_success (with_reducible refine Side.mk ?_)); (fail_if_success (with_reducible refine Rest.mk ?_)); first | (with_reducible refine Need.mk ?_ ?_) | (with_reducible refine And.intro ?_ ?_) | (with_reducible intro _) | ((fail_if_success (with_reducible refine FinS.mk ?_)); (conv => whnf)) | (refine FinS.b ?_) | (refine FinS.lb ?_) | (refine FinS.i ?_) | (refine FinS.f ?_))
  all_goals (refine Side.mk ?_)
  all_goals (unfold nSign; simp only [*, cond_true, cond_false])
def g55 : List MV → Option (List Prop × MV × List Blk × Bool)
  | [.f .f64 a] => some ([], (.i .i64 (nSign .f64 a)), [], false)
  | _ => none
theorem s55 : SumsOK Try.prog (sumOf 55 g55 S53) := by
  refine SumsOK.add S53_ok fun ms ps m blks al e hp => ?_
  unfold g55 at e
  split at e
  · cases e; exact (t55 _ ).alone rfl
  · cases e
def S55 := sumOf 55 g55 S53
theorem S55_ok : SumsOK Try.prog S55 := s55
noncomputable def fi56 : FnI := ⟨9, Try.f56.body.getD .skip, [.tmp 2], true⟩
theorem fi56_ok : fnGen Try.prog 56 = some fi56 := by kernel_rfl
theorem t56 (a : Nat) : CM Try.prog 56 [.f .f32 a] (.i .i64 (nSign .f32 a)) [] true := by
  refine CM.assume (fnGen_ok fi56_ok).enters fun hcan => ?_
  have can_a : Can .f32 a := hcan 0 .f32 a (by simp) rfl
  clear hcan
  refine CM.of_gen (exts := exts) (inl := []) (sum := S55) extsOK S55_ok fi56_ok 6 rfl fun cx => ?_
  repeat' ((fail_if_success (with_reducible refine Side.mk ?_)); (fail_if_success (with_reducible refine Rest.mk ?_)); first | (with_reducible refine Need.mk ?_ ?_) | (with_reducible refine And.intro ?_ ?_) | (with_reducible intro _) | ((fail_if_success (with_reducible refine FinS.mk ?_)); (conv => whnf)) | (refine FinS.b ?_) | (refine FinS.lb ?_) | (refine FinS.i ?_) | (refine FinS.f ?_))
  all_goals (refine Side.mk ?_)
  all_goals (unfold nSign; simp only [*, cond_true, cond_false])
def g56 : List MV → Option (List Prop × MV × List Blk × Bool)
  | [.f .f32 a] => some ([], (.i .i64 (nSign .f32 a)), [], false)
  | _ => none
theorem s56 : SumsOK Try.prog (sumOf 56 g56 S55) := by
  refine SumsOK.add S55_ok fun ms ps m blks al e hp => ?_
  unfold g56 at e
  split at e
  · cases e; exact (t56 _ ).alone rfl
  · cases e
def S56 := sumOf 56 g56 S55
theorem S56_ok : SumsOK Try.prog S56 := s56
noncomputable def fi57 : FnI := ⟨9, Try.f57.body.getD .skip, [.tmp 2], true⟩
theorem fi57_ok : fnGen Try.prog 57 = some fi57 := by kernel_rfl
theorem t57 (a : Nat) : CM Try.prog 57 [.f .f32 a] (.i .i64 (nSign .f32 a)) [] true := by
  refine CM.assume (fnGen_ok fi57_ok).enters fun hcan => ?_
  have can_a : Can .f32 a := hcan 0 .f32 a (by simp) rfl
  clear hcan
  refine CM.of_gen (exts := exts) (inl := []) (sum := S56) extsOK S56_ok fi57_ok 6 rfl fun cx => ?_
  repeat' ((fail_if_success (with_reducible refine Side.mk ?_)); (fail_if_success (with_reducible refine Rest.mk ?_)); first | (with_reducible refine Need.mk ?_ ?_) | (with_reducible refine And.intro ?_ ?_) | (with_reducible intro _) | ((fail_if_success (with_reducible refine FinS.mk ?_)); (conv => whnf)) | (refine FinS.b ?_) | (refine FinS.lb ?_) | (refine FinS.i ?_) | (refine FinS.f ?_))
  all_goals (refine Side.mk ?_)
  all_goals (unfold nSign; simp only [*, cond_true, cond_false])
def g57 : List MV → Option (List Prop × MV × List Blk × Bool)
  | [.f .f32 a] => some ([], (.i .i64 (nSign .f32 a)), [], false)
  | _ => none
theorem s57 : SumsOK Try.prog (sumOf 57 g57 S56) := by
  refine SumsOK.add S56_ok fun ms ps m blks al e hp => ?_
  unfold g57 at e
  split at e
  · cases e; exact (t57 _ ).alone rfl
  · cases e
def S57 := sumOf 57 g57 S56
theorem S57_ok : SumsOK Try.prog S57 := s57
noncomputable def fi54 : FnI := ⟨7, Try.f54.body.getD .skip, [.tmp 2], true⟩
theorem fi54_ok : fnGen Try.prog 54 = some fi54 := by kernel_rfl
theorem t54 (a : Nat) : CM Try.prog 54 [.f .f64 a] (.i .i64 (nSign .f64 a)) [] true := by
  refine CM.assume (fnGen_ok fi54_ok).enters fun hcan => ?_
  have can_a : Can .f64 a := hcan 0 .f64 a (by simp) rfl
  clear hcan
  refine CM.of_gen (exts := exts) (inl := []) (sum := S57) extsOK S57_ok fi54_ok 6 rfl fun cx => ?_
  repeat' ((fail_if_success (with_reducible refine Side.mk ?_)); (fail_if_success (with_reducible refine Rest.mk ?_)); first | (with_reducible refine Need.mk ?_ ?_) | (with_reducible refine And.intro ?_ ?_) | (with_reducible intro _) | ((fail_if_success (with_reducible refine FinS.mk ?_)); (conv => whnf)) | (refine FinS.b ?_) | (refine FinS.lb ?_) | (refine FinS.i ?_) | (refine FinS.f ?_))
  all_goals (refine Side.mk ?_)
  all_goals (unfold nSign; simp_all [fgt_swap])
def g54 : List MV → Option (List Prop × MV × List Blk × Bool)
  | [.f .f64 a] => some ([], (.i .i64 (nSign .f64 a)), [], false)
  | _ => none
theorem s54 : SumsOK Try.prog (sumOf 54 g54 S57) := by
  refine SumsOK.add S57_ok fun ms ps m blks al e hp => ?_
  unfold g54 at e
  split at e
  · cases e; exact (t54 _ ).alone rfl
  · cases e
def S54 := sumOf 54 g54 S57
theorem S54_ok : SumsOK Try.prog S54 := s54
noncomputable def fi58 : FnI := ⟨26, Try.f58.body.getD .skip, [.tmp 4], true⟩
theorem fi58_ok : fnGen Try.prog 58 = some fi58 := by kernel_rfl
theorem t58 (a : Nat) (b : Nat) : CM Try.prog 58 [.f .f64 a, .f .f64 b] (.i .i64 (nOrder a b)) [] true := by
  refine CM.assume (fnGen_ok fi58_ok).enters fun hcan => ?_
  have can_a : Can .f64 a := hcan 0 .f64 a (by simp) rfl
  have can_b : Can .f64 b := hcan 1 .f64 b (by simp) rfl
  clear hcan
  refine CM.of_gen (exts := exts) (inl := []) (sum := S54) extsOK S54_ok fi58_ok 6 rfl fun cx => ?_
  repeat' ((fail_if_success (with_reducible refine Side.mk ?_)); (fail_if_success (with_reducible refine Rest.mk ?_)); first | (with_reducible refine Need.mk ?_ ?_) | (with_reducible refine And.intro ?_ ?_) | (with_reducible intro _) | ((fail_if_success (with_reducible refine FinS.mk ?_)); (conv => whnf)) | (refine FinS.b ?_) | (refine FinS.lb ?_) | (refine FinS.i ?_) | (refine FinS.f ?_))
  all_goals (refine Side.mk ?_)
  all_goals (unfold nOrder; simp only [*, cond_true, cond_false])
def g58 : List MV → Option (List Prop × MV × List Blk × Bool)
  | [.f .f64 a, .f .f64 b] => some ([], (.i .i64 (nOrder a b)), [], false)
  | _ => none
theorem s58 : SumsOK Try.prog (sumOf 58 g58 S54) := by
  refine SumsOK.add S54_ok fun ms ps m blks al e hp => ?_
  unfold g58 at e
  split at e
  · cases e; exact (t58 _ _ ).alone rfl
  · cases e
def S58 := sumOf 58 g58 S54
theorem S58_ok : SumsOK Try.prog S58 := s58
noncomputable def fi59 : FnI := ⟨33, Try.f59.body.getD .skip, [.tmp 4], true⟩
theorem fi59_ok : fnGen Try.prog 59 = some fi59 := by kernel_rfl
theorem t59 (a : Nat) (b : Nat) : CM Try.prog 59 [.f .f64 a, .f .f64 b] (.i .i64 (rOrder a b)) [] true := by
  refine CM.assume (fnGen_ok fi59_ok).enters fun hcan => ?_
  have can_a : Can .f64 a := hcan 0 .f64 a (by simp) rfl
  have can_b : Can .f64 b := hcan 1 .f64 b (by simp) rfl
  clear hcan
  refine CM.of_gen (exts := exts) (inl := []) (sum := S58) extsOK S58_ok fi59_ok 6 rfl fun cx => ?_
  repeat' ((fail_if_success (with_reducible refine Side.mk ?_)); (fail_if_success (with_reducible refine Rest.mk ?_)); first | (with_reducible refine Need.mk ?_ ?_) | (with_reducible refine And.intro ?_ ?_) | (with_reducible intro _) | ((fail_if_success (with_reducible refine FinS.mk ?_)); (conv => whnf)) | (refine FinS.b ?_) | (refine FinS.lb ?_) | (refine FinS.i ?_) | (refine FinS.f ?_))
  all_goals (refine Side.mk ?_)
  all_goals first | (unfold rOrder; simp only [*, cond_true, cond_false]; done) | (cases ha : isNan .f64 a <;> cases hb : isNan .f64 b <;> simp_all [rOrder])
def g59 : List MV → Option (List Prop × MV × List Blk × Bool)
  | [.f .f64 a, .f .f64 b] => some ([], (.i .i64 (rOrder a b)), [], false)
  | _ => none
theorem s59 : SumsOK Try.prog (sumOf 59 g59 S58) := by
  refine SumsOK.add S58_ok fun ms ps m blks al e hp => ?_
  unfold g59 at e
  split at e
  · cases e; exact (t59 _ _ ).alone rfl
  · cases e
def S59 := sumOf 59 g59 S58
theorem S59_ok : SumsOK Try.prog S59 := s59
end Go.Ev.Num
