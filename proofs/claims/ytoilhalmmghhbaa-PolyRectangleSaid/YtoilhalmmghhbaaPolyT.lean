/-
  The walk of the law on rectangles; where both Rectangles answer alike.
-/
import Derived.Test.YtoilhalmmghhbaaPolyS
import Derived.Test.YtoilhalmmghhbaaPolyW
import Derived.Test.YtoilhalmmghhbaaPolyC
open Go Go.Proofs
namespace Go.Ev.Poly
set_option maxRecDepth 100000
set_option maxHeartbeats 1000000
noncomputable def g9 : List MV → Option (List Prop × MV × List Blk × Bool)
  | [] => some ([], .b true, [], false)
  | _ => none
theorem s9 : SumsOK Try.prog (sumOf 9 g9 S28) := by
  refine SumsOK.add S28_ok fun ms ps m blks al e hp => ?_
  unfold g9 at e
  split at e
  · cases e; exact C.t9.aloneT rfl
  · cases e
noncomputable def S9 := sumOf 9 g9 S28
theorem S9_ok : SumsOK Try.prog S9 := s9
theorem eq_self_int (x : Int) : (x == x) = true := by simp
theorem isPts_sh {e : Int} {c1 c2 h1 h2 : Nat} : isPts (nOk e 4) (rectG c1 c2 h1 h2) := isPts_le (isPts_rect _ _ _ _) (nOk_le _ _)
theorem nOk_w (e : Int) : nOk e 4 ≤ wLe := Nat.le_trans (nOk_le e 4) (by decide)
noncomputable def fi6 : FnI := ⟨53, Try.f6.body.getD .skip, [.tmp 4], true⟩
theorem fi6_ok : fnGen Try.prog 6 = some fi6 := by kernel_rfl
theorem t6 (c1 c2 h1 h2 : Nat) (c0 : rrectE c1 c2 h1 h2 = rectE c1 c2 h1 h2): CM Try.prog 6 [.agg [.f .f64 c1, .f .f64 c2], .agg [.f .f64 h1, .f .f64 h2]] (.b true) [] true := by
  refine CM.of_genW (exts := exts) (eqs := eqs) (inl := []) (sum := S9) extsOK eqsOK S9_ok W14_ok fi6_ok 6 rfl fun cx => ?_
  repeat' ((fail_if_success (with_reducible refine Side.mk ?_)); first | (refine Rest.mk (drawR_sound (E := genQ Try.prog exts eqs [] S9) (genQ_full extsOK eqsOK S9_ok).toEnvAll mixOK (hndW_sound W14_ok (hnd_sound (E := genQ Try.prog exts eqs [] S9) (genQ_full extsOK eqsOK S9_ok) 6)) ?_)) | ((fail_if_success (with_reducible refine Rest.mk ?_)); first | (with_reducible exact True.intro) | (with_reducible refine Need.mk ?_ ?_) | (with_reducible refine And.intro ?_ ?_) | (with_reducible intro hcl; try (exfalso; first | exact absurd hcl (by decide) | (simp [c0, sameL_self] at hcl; done); done)) | ((fail_if_success (with_reducible refine FinS.mk ?_)); (conv => whnf)) | (refine FinS.b ?_) | (refine FinS.lb ?_) | (refine FinS.i ?_) | (refine FinS.f ?_) | (refine FinS.agg ?_) | (refine FinS.tup ?_)))
  all_goals (refine Side.mk ?_)
  all_goals (try simp only [Nat.zero_add, c0])
  all_goals first | rfl | decide | exact ⟨isPts_sh, isPts_sh, nOk_big _, nOk_big _, Nat.le_refl _, Nat.le_refl _⟩ | exact fun _ => ⟨isPts_sh, isPts_sh, nOk_big _, nOk_big _, Nat.le_refl _, Nat.le_refl _⟩ | exact ⟨Nat.le_refl _, nOk_w _⟩ | (simp [sameL_self]; done)
end Go.Ev.Poly
