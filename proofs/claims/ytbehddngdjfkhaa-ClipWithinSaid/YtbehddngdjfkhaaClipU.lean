/-
  The contracts of Far and of Segment, case by case; for all floats.
-/
import Derived.Test.YtbehddngdjfkhaaClipT
import Derived.Test.YtbehddngdjfkhaaEvL
set_option linter.unusedSimpArgs false
set_option linter.unusedVariables false
open Go Go.Proofs
namespace Go.Ev.Clip
set_option maxRecDepth 100000
def farV (nx ny pf a1 a2 : Nat) : Nat := bif ask1 nx ny pf a1 a2 != 0 then 0 else bey nx ny pf a1 a2
def rask1 (nx ny pf a1 a2 : Nat) : Int := fst2 (rchkE nx ny pf) (bif rth a1 a2 then 0 else 5)
def rfarV (nx ny pf a1 a2 : Nat) : Nat := bif rask1 nx ny pf a1 a2 != 0 then 0 else bey nx ny pf a1 a2
theorem bif_t {c : Bool} {α : Type} {x y : α} (h : c = true) : (bif c then x else y) = x := by rw [h]; rfl
theorem bif_f {c : Bool} {α : Type} {x y : α} (h : c = false) : (bif c then x else y) = y := by rw [h]; rfl
theorem ne0_f {x : Int} (h : (x != 0) = false) : 0 = x := by simp at h; exact h.symm
noncomputable def fi8 : FnI := ⟨17, Try.f8.body.getD .skip, [.tmp 4, .tmp 5], true⟩
theorem fi8_ok : fnGen Try.prog 8 = some fi8 := by kernel_rfl
theorem t8 (nx ny pf : Nat) (a1 a2 : Nat) : CM Try.prog 8 [.agg [.f .f64 nx, .f .f64 ny, .f .f64 pf], .agg [.f .f64 a1, .f .f64 a2]] (.tup [.f .f64 (farV nx ny pf a1 a2), .i .i64 (ask1 nx ny pf a1 a2)]) [] true := by
  refine CM.of_genQ (exts := exts) (eqs := eqs) (inl := []) (sum := S12) extsOK eqsOK S12_ok fi8_ok 6 rfl fun cx => ?_
  repeat' ((fail_if_success (with_reducible refine Side.mk ?_)); first | ((fail_if_success (with_reducible refine Rest.mk ?_)); first | (with_reducible exact True.intro) | (with_reducible refine Need.mk ?_ ?_) | (with_reducible refine And.intro ?_ ?_) | (with_reducible intro _) | ((fail_if_success (with_reducible refine FinS.mk ?_)); (conv => whnf)) | (refine FinS.b ?_) | (refine FinS.lb ?_) | (refine FinS.i ?_) | (refine FinS.f ?_) | (refine FinS.agg ?_) | (refine FinS.tup ?_)))
  all_goals first | exact ⟨by decide⟩ | (rename_i h; refine Side.mk ⟨rfl, ?_⟩; first | exact (bif_t (c := ask1 nx ny pf a1 a2 != 0) h).symm | exact (bif_f (c := ask1 nx ny pf a1 a2 != 0) h).symm | rfl | exact ne0_f (x := ask1 nx ny pf a1 a2) h)
def g8 : List MV → Option (List Prop × MV × List Blk × Bool)
  | [.agg [.f .f64 nx, .f .f64 ny, .f .f64 pf], .agg [.f .f64 a1, .f .f64 a2]] => some ([], .tup [.f .f64 (farV nx ny pf a1 a2), .i .i64 (ask1 nx ny pf a1 a2)], [], false)
  | _ => none
theorem s8 : SumsOK Try.prog (sumOf 8 g8 S12) := by
  refine SumsOK.add S12_ok fun ms ps m blks al e hp => ?_
  unfold g8 at e
  split at e
  · cases e; exact (t8 _ _ _ _ _).aloneT rfl
  · cases e
def S8 := sumOf 8 g8 S12
theorem S8_ok : SumsOK Try.prog S8 := s8
noncomputable def fi9 : FnI := ⟨19, Try.f9.body.getD .skip, [.tmp 4, .tmp 5], true⟩
theorem fi9_ok : fnGen Try.prog 9 = some fi9 := by kernel_rfl
theorem t9 (nx ny pf : Nat) (a1 a2 : Nat) : CM Try.prog 9 [.agg [.f .f64 nx, .f .f64 ny, .f .f64 pf], .agg [.f .f64 a1, .f .f64 a2]] (.tup [.f .f64 (rfarV nx ny pf a1 a2), .i .i64 (rask1 nx ny pf a1 a2)]) [] true := by
  refine CM.of_genQ (exts := exts) (eqs := eqs) (inl := []) (sum := S8) extsOK eqsOK S8_ok fi9_ok 6 rfl fun cx => ?_
  repeat' ((fail_if_success (with_reducible refine Side.mk ?_)); first | (refine Rest.mk (drawR_sound (E := genQ Try.prog exts eqs [] S8) (genQ_full extsOK eqsOK S8_ok).toEnvAll mixOK (hnd_sound (genQ_full extsOK eqsOK S8_ok) 6) ?_)) | ((fail_if_success (with_reducible refine Rest.mk ?_)); first | (with_reducible exact True.intro) | (with_reducible refine Need.mk ?_ ?_) | (with_reducible refine And.intro ?_ ?_) | (with_reducible intro _) | ((fail_if_success (with_reducible refine FinS.mk ?_)); (conv => whnf)) | (refine FinS.b ?_) | (refine FinS.lb ?_) | (refine FinS.i ?_) | (refine FinS.f ?_) | (refine FinS.agg ?_) | (refine FinS.tup ?_)))
  all_goals first | exact ⟨by decide⟩ | (rename_i h; refine Side.mk ⟨rfl, ?_⟩; first | exact (bif_t (c := rask1 nx ny pf a1 a2 != 0) h).symm | exact (bif_f (c := rask1 nx ny pf a1 a2 != 0) h).symm | rfl | exact ne0_f (x := rask1 nx ny pf a1 a2) h)
def g9 : List MV → Option (List Prop × MV × List Blk × Bool)
  | [.agg [.f .f64 nx, .f .f64 ny, .f .f64 pf], .agg [.f .f64 a1, .f .f64 a2]] => some ([], .tup [.f .f64 (rfarV nx ny pf a1 a2), .i .i64 (rask1 nx ny pf a1 a2)], [], false)
  | _ => none
theorem s9 : SumsOK Try.prog (sumOf 9 g9 S8) := by
  refine SumsOK.add S8_ok fun ms ps m blks al e hp => ?_
  unfold g9 at e
  split at e
  · cases e; exact (t9 _ _ _ _ _).aloneT rfl
  · cases e
def S9 := sumOf 9 g9 S8
theorem S9_ok : SumsOK Try.prog S9 := s9
noncomputable def fi10 : FnI := ⟨66, Try.f10.body.getD .skip, [.tmp 6, .tmp 7, .tmp 8], true⟩
theorem fi10_ok : fnGen Try.prog 10 = some fi10 := by kernel_rfl
theorem t10e (nx ny pf : Nat) (a1 a2 : Nat) (b1 b2 : Nat) (c0 : (ask2 nx ny pf a1 a2 b1 b2 != 0) = true): CM Try.prog 10 [.agg [.f .f64 nx, .f .f64 ny, .f .f64 pf], .agg [.f .f64 a1, .f .f64 a2], .agg [.f .f64 b1, .f .f64 b2]] (.tup [.nils, .nils, .i .i64 (ask2 nx ny pf a1 a2 b1 b2)]) [] true := by
  refine CM.of_genQ (exts := exts) (eqs := eqs) (inl := []) (sum := S9) extsOK eqsOK S9_ok fi10_ok 6 rfl fun cx => ?_
  repeat' ((fail_if_success (with_reducible refine Side.mk ?_)); first | (refine Rest.mk (drawR_sound (E := genQ Try.prog exts eqs [] S9) (genQ_full extsOK eqsOK S9_ok).toEnvAll mixOK (hnd_sound (genQ_full extsOK eqsOK S9_ok) 6) ?_)) | ((fail_if_success (with_reducible refine Rest.mk ?_)); first | (with_reducible exact True.intro) | (with_reducible refine Need.mk ?_ ?_) | (with_reducible refine And.intro ?_ ?_) | (with_reducible intro hcl; try (exfalso; simp [c0] at hcl; done)) | ((fail_if_success (with_reducible refine FinS.mk ?_)); (conv => whnf)) | (refine FinS.b ?_) | (refine FinS.lb ?_) | (refine FinS.i ?_) | (refine FinS.f ?_) | (refine FinS.agg ?_) | (refine FinS.tup ?_)))
  all_goals first | (first | exact ⟨by decide⟩ | exact ⟨rfl⟩ | exact ⟨⟨by decide, by decide⟩⟩ | (refine Side.mk ⟨rfl, ?_⟩; first | rfl | exact ne0_f ‹_›) | (refine Side.mk ⟨by decide, by decide, ?_, by decide⟩; decide +kernel)) | (refine FinS.two 9 10 ⟨by decide⟩ (Side.mk ⟨rfl, rfl, fun i hi j hj => by rcases i with _ | _ | i <;> rcases j with _ | _ | j <;> first | rfl | omega⟩) (Side.mk ⟨rfl, rfl, fun i hi j hj => by rcases i with _ | _ | i <;> rcases j with _ | _ | j <;> first | rfl | omega⟩) ?_; exact ⟨⟨rfl, rfl, rfl, .inl ⟨rfl, rfl⟩⟩, ⟨rfl, rfl, rfl, .inr ⟨rfl, rfl⟩⟩, ⟨rfl, rfl⟩, True.intro⟩)
theorem t10n (nx ny pf : Nat) (a1 a2 : Nat) (b1 b2 : Nat) (c0 : (ask2 nx ny pf a1 a2 b1 b2 != 0) = false) (c1 : fgt .f64 (fsub .f64 (dot nx ny a1 a2) pf) 0 = true) (c2 : fgt .f64 (fsub .f64 (dot nx ny b1 b2) pf) 0 = true): CM Try.prog 10 [.agg [.f .f64 nx, .f .f64 ny, .f .f64 pf], .agg [.f .f64 a1, .f .f64 a2], .agg [.f .f64 b1, .f .f64 b2]] (.tup [.nils, .nils, .i .i64 0]) [] true := by
  refine CM.of_genQ (exts := exts) (eqs := eqs) (inl := []) (sum := S9) extsOK eqsOK S9_ok fi10_ok 6 rfl fun cx => ?_
  repeat' ((fail_if_success (with_reducible refine Side.mk ?_)); first | (refine Rest.mk (drawR_sound (E := genQ Try.prog exts eqs [] S9) (genQ_full extsOK eqsOK S9_ok).toEnvAll mixOK (hnd_sound (genQ_full extsOK eqsOK S9_ok) 6) ?_)) | ((fail_if_success (with_reducible refine Rest.mk ?_)); first | (with_reducible exact True.intro) | (with_reducible refine Need.mk ?_ ?_) | (with_reducible refine And.intro ?_ ?_) | (with_reducible intro hcl; try (exfalso; simp [c0, c1, c2] at hcl; done)) | ((fail_if_success (with_reducible refine FinS.mk ?_)); (conv => whnf)) | (refine FinS.b ?_) | (refine FinS.lb ?_) | (refine FinS.i ?_) | (refine FinS.f ?_) | (refine FinS.agg ?_) | (refine FinS.tup ?_)))
  all_goals first | (first | exact ⟨by decide⟩ | exact ⟨rfl⟩ | exact ⟨⟨by decide, by decide⟩⟩ | (refine Side.mk ⟨rfl, ?_⟩; first | rfl | exact ne0_f ‹_›) | (refine Side.mk ⟨by decide, by decide, ?_, by decide⟩; decide +kernel)) | (refine FinS.two 9 10 ⟨by decide⟩ (Side.mk ⟨rfl, rfl, fun i hi j hj => by rcases i with _ | _ | i <;> rcases j with _ | _ | j <;> first | rfl | omega⟩) (Side.mk ⟨rfl, rfl, fun i hi j hj => by rcases i with _ | _ | i <;> rcases j with _ | _ | j <;> first | rfl | omega⟩) ?_; exact ⟨⟨rfl, rfl, rfl, .inl ⟨rfl, rfl⟩⟩, ⟨rfl, rfl, rfl, .inr ⟨rfl, rfl⟩⟩, ⟨rfl, rfl⟩, True.intro⟩)
theorem t10_11 (nx ny pf : Nat) (a1 a2 : Nat) (b1 b2 : Nat) (c0 : (ask2 nx ny pf a1 a2 b1 b2 != 0) = false) (c1 : fgt .f64 (fsub .f64 (dot nx ny a1 a2) pf) 0 = false) (c2 : fgt .f64 (fsub .f64 (dot nx ny b1 b2) pf) 0 = false): CM Try.prog 10 [.agg [.f .f64 nx, .f .f64 ny, .f .f64 pf], .agg [.f .f64 a1, .f .f64 a2], .agg [.f .f64 b1, .f .f64 b2]] (.tup [.os 0 2 0 2, .os 1 1 0 2, .i .i64 0]) [.rows 2 2 (r2 (.f .f64 a1) (.f .f64 a2) (.f .f64 b1) (.f .f64 b2)), .rows 1 2 (i2 0 1)] true := by
  refine CM.of_genQ (exts := exts) (eqs := eqs) (inl := []) (sum := S9) extsOK eqsOK S9_ok fi10_ok 6 rfl fun cx => ?_
  repeat' ((fail_if_success (with_reducible refine Side.mk ?_)); first | (refine Rest.mk (drawR_sound (E := genQ Try.prog exts eqs [] S9) (genQ_full extsOK eqsOK S9_ok).toEnvAll mixOK (hnd_sound (genQ_full extsOK eqsOK S9_ok) 6) ?_)) | ((fail_if_success (with_reducible refine Rest.mk ?_)); first | (with_reducible exact True.intro) | (with_reducible refine Need.mk ?_ ?_) | (with_reducible refine And.intro ?_ ?_) | (with_reducible intro hcl; try (exfalso; simp [c0, c1, c2] at hcl; done)) | ((fail_if_success (with_reducible refine FinS.mk ?_)); (conv => whnf)) | (refine FinS.b ?_) | (refine FinS.lb ?_) | (refine FinS.i ?_) | (refine FinS.f ?_) | (refine FinS.agg ?_) | (refine FinS.tup ?_)))
  all_goals first | (first | exact ⟨by decide⟩ | exact ⟨rfl⟩ | exact ⟨⟨by decide, by decide⟩⟩ | (refine Side.mk ⟨rfl, ?_⟩; first | rfl | exact ne0_f ‹_›) | (refine Side.mk ⟨by decide, by decide, ?_, by decide⟩; decide +kernel)) | (refine FinS.two 9 10 ⟨by decide⟩ (Side.mk ⟨rfl, rfl, fun i hi j hj => by rcases i with _ | _ | i <;> rcases j with _ | _ | j <;> first | rfl | omega⟩) (Side.mk ⟨rfl, rfl, fun i hi j hj => by rcases i with _ | _ | i <;> rcases j with _ | _ | j <;> first | rfl | omega⟩) ?_; exact ⟨⟨rfl, rfl, rfl, .inl ⟨rfl, rfl⟩⟩, ⟨rfl, rfl, rfl, .inr ⟨rfl, rfl⟩⟩, ⟨rfl, rfl⟩, True.intro⟩)
theorem t10_10 (nx ny pf : Nat) (a1 a2 : Nat) (b1 b2 : Nat) (c0 : (ask2 nx ny pf a1 a2 b1 b2 != 0) = false) (c1 : fgt .f64 (fsub .f64 (dot nx ny a1 a2) pf) 0 = false) (c2 : fgt .f64 (fsub .f64 (dot nx ny b1 b2) pf) 0 = true): CM Try.prog 10 [.agg [.f .f64 nx, .f .f64 ny, .f .f64 pf], .agg [.f .f64 a1, .f .f64 a2], .agg [.f .f64 b1, .f .f64 b2]] (.tup [.os 0 2 0 2, .os 1 1 0 2, .i .i64 0]) [.rows 2 2 (r2 (.f .f64 a1) (.f .f64 a2) ((.f .f64 (mor a1 (cutt (bey nx ny pf a1 a2) (bey nx ny pf b1 b2)) b1 a1))) ((.f .f64 (mor a2 (cutt (bey nx ny pf a1 a2) (bey nx ny pf b1 b2)) b2 a2)))), .rows 1 2 (i2 0 2)] true := by
  refine CM.of_genQ (exts := exts) (eqs := eqs) (inl := []) (sum := S9) extsOK eqsOK S9_ok fi10_ok 6 rfl fun cx => ?_
  repeat' ((fail_if_success (with_reducible refine Side.mk ?_)); first | (refine Rest.mk (drawR_sound (E := genQ Try.prog exts eqs [] S9) (genQ_full extsOK eqsOK S9_ok).toEnvAll mixOK (hnd_sound (genQ_full extsOK eqsOK S9_ok) 6) ?_)) | ((fail_if_success (with_reducible refine Rest.mk ?_)); first | (with_reducible exact True.intro) | (with_reducible refine Need.mk ?_ ?_) | (with_reducible refine And.intro ?_ ?_) | (with_reducible intro hcl; try (exfalso; simp [c0, c1, c2] at hcl; done)) | ((fail_if_success (with_reducible refine FinS.mk ?_)); (conv => whnf)) | (refine FinS.b ?_) | (refine FinS.lb ?_) | (refine FinS.i ?_) | (refine FinS.f ?_) | (refine FinS.agg ?_) | (refine FinS.tup ?_)))
  all_goals first | (first | exact ⟨by decide⟩ | exact ⟨rfl⟩ | exact ⟨⟨by decide, by decide⟩⟩ | (refine Side.mk ⟨rfl, ?_⟩; first | rfl | exact ne0_f ‹_›) | (refine Side.mk ⟨by decide, by decide, ?_, by decide⟩; decide +kernel)) | (refine FinS.two 9 10 ⟨by decide⟩ (Side.mk ⟨rfl, rfl, fun i hi j hj => by rcases i with _ | _ | i <;> rcases j with _ | _ | j <;> first | rfl | omega⟩) (Side.mk ⟨rfl, rfl, fun i hi j hj => by rcases i with _ | _ | i <;> rcases j with _ | _ | j <;> first | rfl | omega⟩) ?_; exact ⟨⟨rfl, rfl, rfl, .inl ⟨rfl, rfl⟩⟩, ⟨rfl, rfl, rfl, .inr ⟨rfl, rfl⟩⟩, ⟨rfl, rfl⟩, True.intro⟩)
theorem t10_01 (nx ny pf : Nat) (a1 a2 : Nat) (b1 b2 : Nat) (c0 : (ask2 nx ny pf a1 a2 b1 b2 != 0) = false) (c1 : fgt .f64 (fsub .f64 (dot nx ny a1 a2) pf) 0 = true) (c2 : fgt .f64 (fsub .f64 (dot nx ny b1 b2) pf) 0 = false): CM Try.prog 10 [.agg [.f .f64 nx, .f .f64 ny, .f .f64 pf], .agg [.f .f64 a1, .f .f64 a2], .agg [.f .f64 b1, .f .f64 b2]] (.tup [.os 0 2 0 2, .os 1 1 0 2, .i .i64 0]) [.rows 2 2 (r2 ((.f .f64 (mor a1 (cutt (bey nx ny pf a1 a2) (bey nx ny pf b1 b2)) b1 a1))) ((.f .f64 (mor a2 (cutt (bey nx ny pf a1 a2) (bey nx ny pf b1 b2)) b2 a2))) (.f .f64 b1) (.f .f64 b2)), .rows 1 2 (i2 2 1)] true := by
  refine CM.of_genQ (exts := exts) (eqs := eqs) (inl := []) (sum := S9) extsOK eqsOK S9_ok fi10_ok 6 rfl fun cx => ?_
  repeat' ((fail_if_success (with_reducible refine Side.mk ?_)); first | (refine Rest.mk (drawR_sound (E := genQ Try.prog exts eqs [] S9) (genQ_full extsOK eqsOK S9_ok).toEnvAll mixOK (hnd_sound (genQ_full extsOK eqsOK S9_ok) 6) ?_)) | ((fail_if_success (with_reducible refine Rest.mk ?_)); first | (with_reducible exact True.intro) | (with_reducible refine Need.mk ?_ ?_) | (with_reducible refine And.intro ?_ ?_) | (with_reducible intro hcl; try (exfalso; simp [c0, c1, c2] at hcl; done)) | ((fail_if_success (with_reducible refine FinS.mk ?_)); (conv => whnf)) | (refine FinS.b ?_) | (refine FinS.lb ?_) | (refine FinS.i ?_) | (refine FinS.f ?_) | (refine FinS.agg ?_) | (refine FinS.tup ?_)))
  all_goals first | (first | exact ⟨by decide⟩ | exact ⟨rfl⟩ | exact ⟨⟨by decide, by decide⟩⟩ | (refine Side.mk ⟨rfl, ?_⟩; first | rfl | exact ne0_f ‹_›) | (refine Side.mk ⟨by decide, by decide, ?_, by decide⟩; decide +kernel)) | (refine FinS.two 9 10 ⟨by decide⟩ (Side.mk ⟨rfl, rfl, fun i hi j hj => by rcases i with _ | _ | i <;> rcases j with _ | _ | j <;> first | rfl | omega⟩) (Side.mk ⟨rfl, rfl, fun i hi j hj => by rcases i with _ | _ | i <;> rcases j with _ | _ | j <;> first | rfl | omega⟩) ?_; exact ⟨⟨rfl, rfl, rfl, .inl ⟨rfl, rfl⟩⟩, ⟨rfl, rfl, rfl, .inr ⟨rfl, rfl⟩⟩, ⟨rfl, rfl⟩, True.intro⟩)
end Go.Ev.Clip
