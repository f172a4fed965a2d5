/-
  The contracts of Far and of Segment, case by case; for all floats.
-/
import Derived.Test.YtbehddngdjfkhaaClipT
import Derived.Test.YtbehddngdjfkhaaEvL
set_option linter.unusedSimpArgs false
set_option linter.unusedVariables false
open Go Go.Proofs
namespace Go.Ev.Clip
set_option maxRecDepth 100000
def farV (nx ny pf a1 a2 : Nat) : Nat := bif ask1 nx ny pf a1 a2 != 0 then 0 else bey nx ny pf a1 a2
theorem bif_t {c : Bool} {α : Type} {x y : α} (h : c = true) : (bif c then x else y) = x := by rw [h]; rfl
theorem bif_f {c : Bool} {α : Type} {x y : α} (h : c = false) : (bif c then x else y) = y := by rw [h]; rfl
theorem ne0_f {x : Int} (h : (x != 0) = false) : 0 = x := by simp at h; exact h.symm
noncomputable def fi8 : FnI := ⟨17, Try.f8.body.getD .skip, [.tmp 4, .tmp 5], true⟩
theorem fi8_ok : fnGen Try.prog 8 = some fi8 := by kernel_rfl
theorem t8 (nx ny pf : Nat) (a1 a2 : Nat) : CM Try.prog 8 [.agg [.f .f64 nx, .f .f64 ny, .f .f64 pf], .agg [.f .f64 a1, .f .f64 a2]] (.tup [.f .f64 (farV nx ny pf a1 a2), .i .i64 (ask1 nx ny pf a1 a2)]) [] true := by
  refine CM.of_genQ (exts := exts) (eqs := eqs) (inl := []) (sum := S12) extsOK eqsOK S12_ok fi8_ok 6 rfl fun cx => ?_
  repeat' ((fail_if_success (with_reducible refine Side.mk ?_)); first | ((fail_if_success (with_reducible refine Rest.mk ?_)); first | (with_reducible exact True.intro) | (with_reducible refine Need.mk ?_ ?_) | (with_reducible refine And.intro ?_ ?_) | (with_reducible intro _) | ((fail_if_success (with_reducible refine FinS.mk ?_)); (conv => whnf)) | (refine FinS.b ?_) | (refine FinS.lb ?_) | (refine FinS.i ?_) | (refine FinS.f ?_) | (refine FinS.agg ?_) | (refine FinS.tup ?_)))
  all_goals first | exact ⟨by decide⟩ | (rename_i h; refine Side.mk ⟨rfl, ?_⟩; first | exact (bif_t (c := ask1 nx ny pf a1 a2 != 0) h).symm | exact (bif_f (c := ask1 nx ny pf a1 a2 != 0) h).symm | rfl | exact ne0_f (x := ask1 nx ny pf a1 a2) h)
end Go.Ev.Clip
