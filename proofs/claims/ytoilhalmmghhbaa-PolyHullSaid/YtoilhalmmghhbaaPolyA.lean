/-
  The contracts of the layer's smallest functions and of Hull's order; for all floats.
-/
import Derived.Test.YtoilhalmmghhbaaProg
import Derived.KernelRfl
import Derived.Test.YtoilhalmmghhbaaEvC
import Derived.Test.YtoilhalmmghhbaaEvL
set_option linter.unusedSimpArgs false
set_option linter.unusedVariables false
open Go Go.Proofs
namespace Go.Ev.Poly
set_option maxRecDepth 100000
set_option maxHeartbeats 1000000
def exts : List (Nat × XK) := [(67, .f64from), (68, .f64bits), (103, .sqrt)]
theorem ext67 : ExtOK Try.prog 67 .f64from := .of Try.func67 (by kernel_rfl) (by kernel_rfl) (by kernel_rfl) (by kernel_rfl)
theorem ext68 : ExtOK Try.prog 68 .f64bits := .of Try.func68 (by kernel_rfl) (by kernel_rfl) (by kernel_rfl) (by kernel_rfl)
theorem ext103 : ExtOK Try.prog 103 .sqrt := .of Try.func103 (by kernel_rfl) (by kernel_rfl) (by kernel_rfl) (by kernel_rfl)
theorem extsOK : ∀ f k, look exts f = some k → ExtOK Try.prog f k := by
  intro f k h
  unfold exts at h
  simp only [look] at h
  split at h
  · rename_i e; have := Nat.eq_of_beq_eq_true e; subst this; cases h; exact ext67
  · skip
    split at h
    · rename_i e; have := Nat.eq_of_beq_eq_true e; subst this; cases h; exact ext68
    · skip
      split at h
      · rename_i e; have := Nat.eq_of_beq_eq_true e; subst this; cases h; exact ext103
      · skip
        cases h
def eqs : List Nat := [40]
theorem eqsOK : eqsB Try.prog eqs = true := by kernel_rfl
theorem mixOK : Try.prog.follows .mixedOrders = true := by kernel_rfl
def dot (ax ay bx by' : Nat) : Nat := fadd .f64 (fmul .f64 ax bx) (fmul .f64 ay by')
def crs (ax ay bx by' : Nat) : Nat := fsub .f64 (fmul .f64 ax by') (fmul .f64 ay bx)
noncomputable def fi25 : FnI := ⟨16, Try.f25.body.getD .skip, [.tmp 4], true⟩
theorem fi25_ok : fnGen Try.prog 25 = some fi25 := by kernel_rfl
theorem t25 (a1 : Nat) (a2 : Nat) (b1 : Nat) (b2 : Nat) : CM Try.prog 25 [.agg [.f .f64 a1, .f .f64 a2], .agg [.f .f64 b1, .f .f64 b2]] (.f .f64 (dot a1 a2 b1 b2)) [] true := by
  refine CM.of_genQ (exts := exts) (eqs := eqs) (inl := []) (sum := sum0) extsOK eqsOK sums0 fi25_ok 6 rfl fun cx => ?_
  repeat' ((fail_if_success (with_reducible refine Side.mk ?_)); first | ((fail_if_success (with_reducible refine Rest.mk ?_)); first | (with_reducible exact True.intro) | (with_reducible refine Need.mk ?_ ?_) | (with_reducible refine And.intro ?_ ?_) | (with_reducible intro _) | ((fail_if_success (with_reducible refine FinS.mk ?_)); (conv => whnf)) | (refine FinS.b ?_) | (refine FinS.lb ?_) | (refine FinS.i ?_) | (refine FinS.f ?_) | (refine FinS.agg ?_) | (refine FinS.tup ?_)))
  all_goals first | exact ⟨by decide⟩ | exact ⟨rfl⟩ | exact ⟨⟨rfl, rfl⟩⟩
noncomputable def g25 : List MV → Option (List Prop × MV × List Blk × Bool)
  | [.agg [.f .f64 a1, .f .f64 a2], .agg [.f .f64 b1, .f .f64 b2]] => some ([], (.f .f64 (dot a1 a2 b1 b2)), [], false)
  | _ => none
theorem s25 : SumsOK Try.prog (sumOf 25 g25 sum0) := by
  refine SumsOK.add sums0 fun ms ps m blks al e hp => ?_
  unfold g25 at e
  split at e
  · cases e; exact (t25 _ _ _ _ ).aloneT rfl
  · cases e
noncomputable def S25 := sumOf 25 g25 sum0
theorem S25_ok : SumsOK Try.prog S25 := s25
noncomputable def fi60 : FnI := ⟨16, Try.f60.body.getD .skip, [.tmp 4], true⟩
theorem fi60_ok : fnGen Try.prog 60 = some fi60 := by kernel_rfl
theorem t60 (a1 : Nat) (a2 : Nat) (b1 : Nat) (b2 : Nat) : CM Try.prog 60 [.agg [.f .f64 a1, .f .f64 a2], .agg [.f .f64 b1, .f .f64 b2]] (.f .f64 (dot a1 a2 b1 b2)) [] true := by
  refine CM.of_genQ (exts := exts) (eqs := eqs) (inl := []) (sum := S25) extsOK eqsOK S25_ok fi60_ok 6 rfl fun cx => ?_
  repeat' ((fail_if_success (with_reducible refine Side.mk ?_)); first | ((fail_if_success (with_reducible refine Rest.mk ?_)); first | (with_reducible exact True.intro) | (with_reducible refine Need.mk ?_ ?_) | (with_reducible refine And.intro ?_ ?_) | (with_reducible intro _) | ((fail_if_success (with_reducible refine FinS.mk ?_)); (conv => whnf)) | (refine FinS.b ?_) | (refine FinS.lb ?_) | (refine FinS.i ?_) | (refine FinS.f ?_) | (refine FinS.agg ?_) | (refine FinS.tup ?_)))
  all_goals first | exact ⟨by decide⟩ | exact ⟨rfl⟩ | exact ⟨⟨rfl, rfl⟩⟩
noncomputable def g60 : List MV → Option (List Prop × MV × List Blk × Bool)
  | [.agg [.f .f64 a1, .f .f64 a2], .agg [.f .f64 b1, .f .f64 b2]] => some ([], (.f .f64 (dot a1 a2 b1 b2)), [], false)
  | _ => none
theorem s60 : SumsOK Try.prog (sumOf 60 g60 S25) := by
  refine SumsOK.add S25_ok fun ms ps m blks al e hp => ?_
  unfold g60 at e
  split at e
  · cases e; exact (t60 _ _ _ _ ).aloneT rfl
  · cases e
noncomputable def S60 := sumOf 60 g60 S25
theorem S60_ok : SumsOK Try.prog S60 := s60
noncomputable def fi65 : FnI := ⟨16, Try.f65.body.getD .skip, [.tmp 4], true⟩
theorem fi65_ok : fnGen Try.prog 65 = some fi65 := by kernel_rfl
theorem t65 (a1 : Nat) (a2 : Nat) (b1 : Nat) (b2 : Nat) : CM Try.prog 65 [.agg [.f .f64 a1, .f .f64 a2], .agg [.f .f64 b1, .f .f64 b2]] (.f .f64 (crs a1 a2 b1 b2)) [] true := by
  refine CM.of_genQ (exts := exts) (eqs := eqs) (inl := []) (sum := S60) extsOK eqsOK S60_ok fi65_ok 6 rfl fun cx => ?_
  repeat' ((fail_if_success (with_reducible refine Side.mk ?_)); first | ((fail_if_success (with_reducible refine Rest.mk ?_)); first | (with_reducible exact True.intro) | (with_reducible refine Need.mk ?_ ?_) | (with_reducible refine And.intro ?_ ?_) | (with_reducible intro _) | ((fail_if_success (with_reducible refine FinS.mk ?_)); (conv => whnf)) | (refine FinS.b ?_) | (refine FinS.lb ?_) | (refine FinS.i ?_) | (refine FinS.f ?_) | (refine FinS.agg ?_) | (refine FinS.tup ?_)))
  all_goals first | exact ⟨by decide⟩ | exact ⟨rfl⟩ | exact ⟨⟨rfl, rfl⟩⟩
noncomputable def g65 : List MV → Option (List Prop × MV × List Blk × Bool)
  | [.agg [.f .f64 a1, .f .f64 a2], .agg [.f .f64 b1, .f .f64 b2]] => some ([], (.f .f64 (crs a1 a2 b1 b2)), [], false)
  | _ => none
theorem s65 : SumsOK Try.prog (sumOf 65 g65 S60) := by
  refine SumsOK.add S60_ok fun ms ps m blks al e hp => ?_
  unfold g65 at e
  split at e
  · cases e; exact (t65 _ _ _ _ ).aloneT rfl
  · cases e
noncomputable def S65 := sumOf 65 g65 S60
theorem S65_ok : SumsOK Try.prog S65 := s65
noncomputable def fi73 : FnI := ⟨16, Try.f73.body.getD .skip, [.tmp 4], true⟩
theorem fi73_ok : fnGen Try.prog 73 = some fi73 := by kernel_rfl
theorem t73 (a1 : Nat) (a2 : Nat) (b1 : Nat) (b2 : Nat) : CM Try.prog 73 [.agg [.f .f64 a1, .f .f64 a2], .agg [.f .f64 b1, .f .f64 b2]] (.f .f64 (crs a1 a2 b1 b2)) [] true := by
  refine CM.of_genQ (exts := exts) (eqs := eqs) (inl := []) (sum := S65) extsOK eqsOK S65_ok fi73_ok 6 rfl fun cx => ?_
  repeat' ((fail_if_success (with_reducible refine Side.mk ?_)); first | ((fail_if_success (with_reducible refine Rest.mk ?_)); first | (with_reducible exact True.intro) | (with_reducible refine Need.mk ?_ ?_) | (with_reducible refine And.intro ?_ ?_) | (with_reducible intro _) | ((fail_if_success (with_reducible refine FinS.mk ?_)); (conv => whnf)) | (refine FinS.b ?_) | (refine FinS.lb ?_) | (refine FinS.i ?_) | (refine FinS.f ?_) | (refine FinS.agg ?_) | (refine FinS.tup ?_)))
  all_goals first | exact ⟨by decide⟩ | exact ⟨rfl⟩ | exact ⟨⟨rfl, rfl⟩⟩
noncomputable def g73 : List MV → Option (List Prop × MV × List Blk × Bool)
  | [.agg [.f .f64 a1, .f .f64 a2], .agg [.f .f64 b1, .f .f64 b2]] => some ([], (.f .f64 (crs a1 a2 b1 b2)), [], false)
  | _ => none
theorem s73 : SumsOK Try.prog (sumOf 73 g73 S65) := by
  refine SumsOK.add S65_ok fun ms ps m blks al e hp => ?_
  unfold g73 at e
  split at e
  · cases e; exact (t73 _ _ _ _ ).aloneT rfl
  · cases e
noncomputable def S73 := sumOf 73 g73 S65
theorem S73_ok : SumsOK Try.prog S73 := s73
noncomputable def fi101 : FnI := ⟨8, Try.f101.body.getD .skip, [.cell 4 40], true⟩
theorem fi101_ok : fnGen Try.prog 101 = some fi101 := by kernel_rfl
theorem t101 (x : Nat) (y : Nat) : CM Try.prog 101 [.f .f64 x, .f .f64 y] (.agg [.f .f64 x, .f .f64 y]) [] true := by
  refine CM.of_genQ (exts := exts) (eqs := eqs) (inl := []) (sum := S73) extsOK eqsOK S73_ok fi101_ok 6 rfl fun cx => ?_
  repeat' ((fail_if_success (with_reducible refine Side.mk ?_)); first | ((fail_if_success (with_reducible refine Rest.mk ?_)); first | (with_reducible exact True.intro) | (with_reducible refine Need.mk ?_ ?_) | (with_reducible refine And.intro ?_ ?_) | (with_reducible intro _) | ((fail_if_success (with_reducible refine FinS.mk ?_)); (conv => whnf)) | (refine FinS.b ?_) | (refine FinS.lb ?_) | (refine FinS.i ?_) | (refine FinS.f ?_) | (refine FinS.agg ?_) | (refine FinS.tup ?_)))
  all_goals first | exact ⟨by decide⟩ | exact ⟨rfl⟩ | exact ⟨⟨rfl, rfl⟩⟩
noncomputable def g101 : List MV → Option (List Prop × MV × List Blk × Bool)
  | [.f .f64 x, .f .f64 y] => some ([], (.agg [.f .f64 x, .f .f64 y]), [], false)
  | _ => none
theorem s101 : SumsOK Try.prog (sumOf 101 g101 S73) := by
  refine SumsOK.add S73_ok fun ms ps m blks al e hp => ?_
  unfold g101 at e
  split at e
  · cases e; exact (t101 _ _ ).aloneT rfl
  · cases e
noncomputable def S101 := sumOf 101 g101 S73
theorem S101_ok : SumsOK Try.prog S101 := s101
noncomputable def fi24 : FnI := ⟨16, Try.f24.body.getD .skip, [.cell 4 40], true⟩
theorem fi24_ok : fnGen Try.prog 24 = some fi24 := by kernel_rfl
theorem t24 (a1 : Nat) (a2 : Nat) (b1 : Nat) (b2 : Nat) : CM Try.prog 24 [.agg [.f .f64 a1, .f .f64 a2], .agg [.f .f64 b1, .f .f64 b2]] (.agg [.f .f64 (fsub .f64 a1 b1), .f .f64 (fsub .f64 a2 b2)]) [] true := by
  refine CM.of_genQ (exts := exts) (eqs := eqs) (inl := []) (sum := S101) extsOK eqsOK S101_ok fi24_ok 6 rfl fun cx => ?_
  repeat' ((fail_if_success (with_reducible refine Side.mk ?_)); first | ((fail_if_success (with_reducible refine Rest.mk ?_)); first | (with_reducible exact True.intro) | (with_reducible refine Need.mk ?_ ?_) | (with_reducible refine And.intro ?_ ?_) | (with_reducible intro _) | ((fail_if_success (with_reducible refine FinS.mk ?_)); (conv => whnf)) | (refine FinS.b ?_) | (refine FinS.lb ?_) | (refine FinS.i ?_) | (refine FinS.f ?_) | (refine FinS.agg ?_) | (refine FinS.tup ?_)))
  all_goals first | exact ⟨by decide⟩ | exact ⟨rfl⟩ | exact ⟨⟨rfl, rfl⟩⟩
noncomputable def g24 : List MV → Option (List Prop × MV × List Blk × Bool)
  | [.agg [.f .f64 a1, .f .f64 a2], .agg [.f .f64 b1, .f .f64 b2]] => some ([], (.agg [.f .f64 (fsub .f64 a1 b1), .f .f64 (fsub .f64 a2 b2)]), [], false)
  | _ => none
theorem s24 : SumsOK Try.prog (sumOf 24 g24 S101) := by
  refine SumsOK.add S101_ok fun ms ps m blks al e hp => ?_
  unfold g24 at e
  split at e
  · cases e; exact (t24 _ _ _ _ ).aloneT rfl
  · cases e
noncomputable def S24 := sumOf 24 g24 S101
theorem S24_ok : SumsOK Try.prog S24 := s24
noncomputable def fi87 : FnI := ⟨16, Try.f87.body.getD .skip, [.cell 4 40], true⟩
theorem fi87_ok : fnGen Try.prog 87 = some fi87 := by kernel_rfl
theorem t87 (a1 : Nat) (a2 : Nat) (b1 : Nat) (b2 : Nat) : CM Try.prog 87 [.agg [.f .f64 a1, .f .f64 a2], .agg [.f .f64 b1, .f .f64 b2]] (.agg [.f .f64 (fsub .f64 a1 b1), .f .f64 (fsub .f64 a2 b2)]) [] true := by
  refine CM.of_genQ (exts := exts) (eqs := eqs) (inl := []) (sum := S24) extsOK eqsOK S24_ok fi87_ok 6 rfl fun cx => ?_
  repeat' ((fail_if_success (with_reducible refine Side.mk ?_)); first | ((fail_if_success (with_reducible refine Rest.mk ?_)); first | (with_reducible exact True.intro) | (with_reducible refine Need.mk ?_ ?_) | (with_reducible refine And.intro ?_ ?_) | (with_reducible intro _) | ((fail_if_success (with_reducible refine FinS.mk ?_)); (conv => whnf)) | (refine FinS.b ?_) | (refine FinS.lb ?_) | (refine FinS.i ?_) | (refine FinS.f ?_) | (refine FinS.agg ?_) | (refine FinS.tup ?_)))
  all_goals first | exact ⟨by decide⟩ | exact ⟨rfl⟩ | exact ⟨⟨rfl, rfl⟩⟩
noncomputable def g87 : List MV → Option (List Prop × MV × List Blk × Bool)
  | [.agg [.f .f64 a1, .f .f64 a2], .agg [.f .f64 b1, .f .f64 b2]] => some ([], (.agg [.f .f64 (fsub .f64 a1 b1), .f .f64 (fsub .f64 a2 b2)]), [], false)
  | _ => none
theorem s87 : SumsOK Try.prog (sumOf 87 g87 S24) := by
  refine SumsOK.add S24_ok fun ms ps m blks al e hp => ?_
  unfold g87 at e
  split at e
  · cases e; exact (t87 _ _ _ _ ).aloneT rfl
  · cases e
noncomputable def S87 := sumOf 87 g87 S24
theorem S87_ok : SumsOK Try.prog S87 := s87
noncomputable def fi23 : FnI := ⟨6, Try.f23.body.getD .skip, [.tmp 2], true⟩
theorem fi23_ok : fnGen Try.prog 23 = some fi23 := by kernel_rfl
theorem t23 (a1 : Nat) (a2 : Nat) : CM Try.prog 23 [.agg [.f .f64 a1, .f .f64 a2]] (.f .f64 (dot a1 a2 a1 a2)) [] true := by
  refine CM.of_genQ (exts := exts) (eqs := eqs) (inl := []) (sum := S87) extsOK eqsOK S87_ok fi23_ok 6 rfl fun cx => ?_
  repeat' ((fail_if_success (with_reducible refine Side.mk ?_)); first | ((fail_if_success (with_reducible refine Rest.mk ?_)); first | (with_reducible exact True.intro) | (with_reducible refine Need.mk ?_ ?_) | (with_reducible refine And.intro ?_ ?_) | (with_reducible intro _) | ((fail_if_success (with_reducible refine FinS.mk ?_)); (conv => whnf)) | (refine FinS.b ?_) | (refine FinS.lb ?_) | (refine FinS.i ?_) | (refine FinS.f ?_) | (refine FinS.agg ?_) | (refine FinS.tup ?_)))
  all_goals first | exact ⟨by decide⟩ | exact ⟨rfl⟩ | exact ⟨⟨rfl, rfl⟩⟩
noncomputable def g23 : List MV → Option (List Prop × MV × List Blk × Bool)
  | [.agg [.f .f64 a1, .f .f64 a2]] => some ([], (.f .f64 (dot a1 a2 a1 a2)), [], false)
  | _ => none
theorem s23 : SumsOK Try.prog (sumOf 23 g23 S87) := by
  refine SumsOK.add S87_ok fun ms ps m blks al e hp => ?_
  unfold g23 at e
  split at e
  · cases e; exact (t23 _ _ ).aloneT rfl
  · cases e
noncomputable def S23 := sumOf 23 g23 S87
theorem S23_ok : SumsOK Try.prog S23 := s23
noncomputable def fi90 : FnI := ⟨6, Try.f90.body.getD .skip, [.tmp 2], true⟩
theorem fi90_ok : fnGen Try.prog 90 = some fi90 := by kernel_rfl
theorem t90 (a1 : Nat) (a2 : Nat) : CM Try.prog 90 [.agg [.f .f64 a1, .f .f64 a2]] (.f .f64 (dot a1 a2 a1 a2)) [] true := by
  refine CM.of_genQ (exts := exts) (eqs := eqs) (inl := []) (sum := S23) extsOK eqsOK S23_ok fi90_ok 6 rfl fun cx => ?_
  repeat' ((fail_if_success (with_reducible refine Side.mk ?_)); first | ((fail_if_success (with_reducible refine Rest.mk ?_)); first | (with_reducible exact True.intro) | (with_reducible refine Need.mk ?_ ?_) | (with_reducible refine And.intro ?_ ?_) | (with_reducible intro _) | ((fail_if_success (with_reducible refine FinS.mk ?_)); (conv => whnf)) | (refine FinS.b ?_) | (refine FinS.lb ?_) | (refine FinS.i ?_) | (refine FinS.f ?_) | (refine FinS.agg ?_) | (refine FinS.tup ?_)))
  all_goals first | exact ⟨by decide⟩ | exact ⟨rfl⟩ | exact ⟨⟨rfl, rfl⟩⟩
noncomputable def g90 : List MV → Option (List Prop × MV × List Blk × Bool)
  | [.agg [.f .f64 a1, .f .f64 a2]] => some ([], (.f .f64 (dot a1 a2 a1 a2)), [], false)
  | _ => none
theorem s90 : SumsOK Try.prog (sumOf 90 g90 S23) := by
  refine SumsOK.add S23_ok fun ms ps m blks al e hp => ?_
  unfold g90 at e
  split at e
  · cases e; exact (t90 _ _ ).aloneT rfl
  · cases e
noncomputable def S90 := sumOf 90 g90 S23
theorem S90_ok : SumsOK Try.prog S90 := s90
def cmpV (x y : Nat) : Int := bif !feq .f64 x x then (bif !feq .f64 y y then 0 else -1) else bif !feq .f64 y y then 1 else bif flt .f64 x y then -1 else bif fgt .f64 x y then 1 else 0
def orV (x y : Int) : Int := bif x != 0 then x else bif y != 0 then y else 0
def i2 (x y : Int) : Nat → List MV := fun i => match i with | 0 => [.i .i64 x] | _ => [.i .i64 y]
theorem leR_i2 {get : Nat → List MV} {x y : Int} {l m : List MV} (h0 : get 0 = .i .i64 x :: l) (h1 : get 1 = .i .i64 y :: m) : leR (.ro 1 2 get) (.ro 1 2 (i2 x y)) := by
  refine ⟨rfl, rfl, fun i hi j hj => ?_⟩
  have : i = 0 ∨ i = 1 := by omega
  have hj : j = 0 := by omega
  subst hj
  rcases this with rfl | rfl
  · rw [h0]; rfl
  · rw [h1]; rfl
noncomputable def fi81 : FnI := ⟨6, Try.f81.body.getD .skip, [.tmp 2], true⟩
theorem fi81_ok : fnGen Try.prog 81 = some fi81 := by kernel_rfl
theorem t81 (x : Nat) : CM Try.prog 81 [.f .f64 x] (.b (!feq .f64 x x)) [] true := by
  refine CM.of_genQ (exts := exts) (eqs := eqs) (inl := []) (sum := S90) extsOK eqsOK S90_ok fi81_ok 6 rfl fun cx => ?_
  repeat' ((fail_if_success (with_reducible refine Side.mk ?_)); first | ((fail_if_success (with_reducible refine Rest.mk ?_)); first | (with_reducible exact True.intro) | (with_reducible refine Need.mk ?_ ?_) | (with_reducible refine And.intro ?_ ?_) | (with_reducible intro _) | ((fail_if_success (with_reducible refine FinS.mk ?_)); (conv => whnf)) | (refine FinS.b ?_) | (refine FinS.lb ?_) | (refine FinS.i ?_) | (refine FinS.f ?_) | (refine FinS.agg ?_) | (refine FinS.tup ?_)))
  all_goals first | exact ⟨by decide⟩ | exact ⟨rfl⟩ | exact ⟨⟨rfl, rfl⟩⟩
noncomputable def g81 : List MV → Option (List Prop × MV × List Blk × Bool)
  | [.f .f64 x] => some ([], (.b (!feq .f64 x x)), [], false)
  | _ => none
theorem s81 : SumsOK Try.prog (sumOf 81 g81 S90) := by
  refine SumsOK.add S90_ok fun ms ps m blks al e hp => ?_
  unfold g81 at e
  split at e
  · cases e; exact (t81 _ ).aloneT rfl
  · cases e
noncomputable def S81 := sumOf 81 g81 S90
theorem S81_ok : SumsOK Try.prog S81 := s81
noncomputable def fi50 : FnI := ⟨20, Try.f50.body.getD .skip, [.tmp 4], true⟩
theorem fi50_ok : fnGen Try.prog 50 = some fi50 := by kernel_rfl
theorem t50 (x : Nat) (y : Nat) : CM Try.prog 50 [.f .f64 x, .f .f64 y] (.i .i64 (cmpV x y)) [] true := by
  refine CM.of_genQ (exts := exts) (eqs := eqs) (inl := []) (sum := S81) extsOK eqsOK S81_ok fi50_ok 6 rfl fun cx => ?_
  repeat' ((fail_if_success (with_reducible refine Side.mk ?_)); first | ((fail_if_success (with_reducible refine Rest.mk ?_)); first | (with_reducible exact True.intro) | (with_reducible refine Need.mk ?_ ?_) | (with_reducible refine And.intro ?_ ?_) | (with_reducible intro _) | ((fail_if_success (with_reducible refine FinS.mk ?_)); (conv => whnf)) | (refine FinS.b ?_) | (refine FinS.lb ?_) | (refine FinS.i ?_) | (refine FinS.f ?_) | (refine FinS.agg ?_) | (refine FinS.tup ?_)))
  all_goals (refine Side.mk ?_; unfold cmpV; simp_all)
noncomputable def g50 : List MV → Option (List Prop × MV × List Blk × Bool)
  | [.f .f64 x, .f .f64 y] => some ([], (.i .i64 (cmpV x y)), [], false)
  | _ => none
theorem s50 : SumsOK Try.prog (sumOf 50 g50 S81) := by
  refine SumsOK.add S81_ok fun ms ps m blks al e hp => ?_
  unfold g50 at e
  split at e
  · cases e; exact (t50 _ _ ).aloneT rfl
  · cases e
noncomputable def S50 := sumOf 50 g50 S81
theorem S50_ok : SumsOK Try.prog S50 := s50
noncomputable def fi49 : FnI := ⟨18, Try.f49.body.getD .skip, [.tmp 2], true⟩
theorem fi49_ok : fnGen Try.prog 49 = some fi49 := by kernel_rfl
theorem t49 (x y : Int) : CM Try.prog 49 [.ro 1 2 (i2 x y)] (.i .i64 (orV x y)) [] true := by
  refine CM.of_genQ (exts := exts) (eqs := eqs) (inl := []) (sum := S50) extsOK eqsOK S50_ok fi49_ok 6 rfl fun cx => ?_
  repeat' ((fail_if_success (with_reducible refine Side.mk ?_)); first | (refine RestL.loop (E := genQ Try.prog exts eqs [] S50) ?_) | (refine RestL.step (E := genQ Try.prog exts eqs [] S50) (genQ_full extsOK eqsOK S50_ok) 6 ?_) | ((fail_if_success (with_reducible refine RestL.mk ?_)); (fail_if_success (with_reducible refine Rest.mk ?_)); first | (with_reducible exact True.intro) | (with_reducible refine Need.mk ?_ ?_) | (with_reducible refine And.intro ?_ ?_) | (with_reducible intro hcl; try (exfalso; exact absurd hcl (by decide); done)) | ((fail_if_success (with_reducible refine FinS.mk ?_)); (conv => whnf)) | (refine FinS.b ?_) | (refine FinS.lb ?_) | (refine FinS.i ?_) | (refine FinS.f ?_) | (refine FinS.agg ?_) | (refine FinS.tup ?_)))
  all_goals (refine Side.mk ?_; first | decide | (exact ⟨by decide, by decide⟩) | (unfold orV; cases hX : (x != 0) <;> cases hY : (y != 0) <;> first | rfl | (simp_all; done)))
noncomputable def g49 : List MV → Option (List Prop × MV × List Blk × Bool)
  | [.ro 1 2 get] => match get 0 with
    | .i .i64 x :: l => match get 1 with
      | .i .i64 y :: m => some ([], .i .i64 (orV x y), [], false)
      | _ => none
    | _ => none
  | _ => none
theorem s49 : SumsOK Try.prog (sumOf 49 g49 S50) := by
  refine SumsOK.add S50_ok fun ms ps m blks al e hp => ?_
  unfold g49 at e
  split at e
  · split at e
    · rename_i h0
      split at e
      · rename_i h1
        cases e; exact ((t49 _ _).aloneT rfl).le1 (leR_i2 h0 h1)
      · cases e
    · cases e
  · cases e
noncomputable def S49 := sumOf 49 g49 S50
theorem S49_ok : SumsOK Try.prog S49 := s49
def ordV (a1 a2 b1 b2 : Nat) : Int := orV (cmpV a1 b1) (cmpV a2 b2)
noncomputable def fi48 : FnI := ⟨17, Try.f48.body.getD .skip, [.tmp 4], true⟩
theorem fi48_ok : fnGen Try.prog 48 = some fi48 := by kernel_rfl
theorem t48 (a1 : Nat) (a2 : Nat) (b1 : Nat) (b2 : Nat) : CM Try.prog 48 [.agg [.f .f64 a1, .f .f64 a2], .agg [.f .f64 b1, .f .f64 b2]] (.i .i64 (ordV a1 a2 b1 b2)) [] true := by
  refine CM.of_genQ (exts := exts) (eqs := eqs) (inl := []) (sum := S49) extsOK eqsOK S49_ok fi48_ok 6 rfl fun cx => ?_
  repeat' ((fail_if_success (with_reducible refine Side.mk ?_)); first | (refine Rest.mk (drawR_sound (E := genQ Try.prog exts eqs [] S49) (genQ_full extsOK eqsOK S49_ok).toEnvAll mixOK (hnd_sound (genQ_full extsOK eqsOK S49_ok) 6) ?_)) | ((fail_if_success (with_reducible refine Rest.mk ?_)); first | (with_reducible exact True.intro) | (with_reducible refine Need.mk ?_ ?_) | (with_reducible refine And.intro ?_ ?_) | (with_reducible intro _) | ((fail_if_success (with_reducible refine FinS.mk ?_)); (conv => whnf)) | (refine FinS.b ?_) | (refine FinS.lb ?_) | (refine FinS.i ?_) | (refine FinS.f ?_) | (refine FinS.agg ?_) | (refine FinS.tup ?_)))
  all_goals first | exact ⟨by decide⟩ | exact ⟨rfl⟩ | exact ⟨⟨rfl, rfl⟩⟩
noncomputable def g48 : List MV → Option (List Prop × MV × List Blk × Bool)
  | [.agg [.f .f64 a1, .f .f64 a2], .agg [.f .f64 b1, .f .f64 b2]] => some ([], (.i .i64 (ordV a1 a2 b1 b2)), [], false)
  | _ => none
theorem s48 : SumsOK Try.prog (sumOf 48 g48 S49) := by
  refine SumsOK.add S49_ok fun ms ps m blks al e hp => ?_
  unfold g48 at e
  split at e
  · cases e; exact (t48 _ _ _ _ ).aloneT rfl
  · cases e
noncomputable def S48 := sumOf 48 g48 S49
theorem S48_ok : SumsOK Try.prog S48 := s48
end Go.Ev.Poly
