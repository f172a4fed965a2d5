/-
  PolyRectangle: of any centre and half sides the law answers true; no condition beyond the form's own.
-/
import Derived.Test.YtoilhalmmghhbaaPolyL
import Derived.Test.YtoilhalmmghhbaaPolyT
import Derived.Test.YtoilhalmmghhbaaRows
namespace Go.Proofs.Ytoilhalmmghhbaa
open Go.ChangeShapes Go.WideShapes Go.ChangeAt Go.RowKit Go.Ev Go.Ev.Poly
theorem Try.own3 : ownKnob Try.prog.godebug = none := by kernel_rfl
theorem Try.laidOut3 : laidOutB Try.prog = true := by kernel_rfl
set_option maxRecDepth 100000 in
theorem polyRectangle_lifted (os : Os) (started : os.Started) (H : Type) (enc : TypeId × Value → H) :
    ReturnsInHanded {} Try.checked os 6 .any (Rows.polyRectangleSpec.pre6 enc Try.prog Try.f6 Rows.polyRectangleRow.domain false) (Rows.polyRectangleSpec.post enc Try.prog Try.f6 false true false false) := by
  refine law_handed (C := Try.checked) (tb := 4) (s := Rows.polyRectangleSpec) (fn := Try.f6) Try.laidOut3 Try.own3 started (by kernel_rfl) Try.func6 (by kernel_rfl)
    (ChangeSpec.witness6 (enc := enc) (C := Try.checked) false ⟨#[], #[.agg #[.float .f64 0, .float .f64 0], .agg #[.float .f64 0, .float .f64 0]], []⟩ 8 (by kernel_rfl) (by kernel_rfl) (by kernel_rfl) (by kernel_rfl)) rfl (by kernel_rfl) (by kernel_rfl)
    (fun ds hd => ?_) ?_
  · have hd' : ds.length = 2 := hd
    match ds, hd' with
    | [d, e], _ => exact ⟨rfl, rfl, rfl⟩
  intro W args ds ps hval0 hA0 hlt hw0
  have hval : ∀ (j : Nat) t v, Try.f6.params[j]? = some t → args[j]? = some v → Value.okWide Try.prog W .any W.heap.size t v := hval0
  have hA : DataW.TrodAll enc Try.prog W 0 (fun _ => true) true Try.f6.params.toList args.toList ds ps := hA0
  rw [Try.params6] at hA hval
  obtain ⟨v0, vs0, d0, ds0, p0, q0, hargs, rfl, rfl, h0, r0⟩ := trodAll_cons hA
  obtain ⟨v1, vs1, d1, ds1, p1, q1, rfl, rfl, rfl, h1, r1⟩ := trodAll_cons r0
  obtain ⟨rfl, rfl, rfl⟩ := trodAll_nil r1
  obtain rfl : args = #[v0, v1] := by cases args; simp_all
  obtain ⟨c0, e0, _⟩ := Go.WideShapes.okWide_struct Try.underlying40 (hval 0 40 v0 rfl rfl)
  obtain ⟨c1, e1, _⟩ := Go.WideShapes.okWide_struct Try.underlying40 (hval 1 40 v1 rfl rfl)
  have o0 := open_agg (m := 4) (ks := [.f .f64, .f .f64]) (by kernel_rfl) e0 h0
  have o1 := open_agg (m := 4) (ks := [.f .f64, .f .f64]) (by kernel_rfl) e1 h1
  refine (t6 (canon .f64 (Ev.fltOf (c0.getD 0 undef))) (canon .f64 (Ev.fltOf (c0.getD 1 undef))) (canon .f64 (Ev.fltOf (c1.getD 0 undef))) (canon .f64 (Ev.fltOf (c1.getD 1 undef))) (rectE_eq _ _ _ _)).said (W := W) (okA := fun b => b < W.heap.size) (fun _ h => h) (vs := [v0, v1]) ⟨rfl, fun j hj => ?_⟩
  have hj' : j = 0 ∨ j = 1 := by simp at hj; omega
  rcases hj' with rfl | rfl
  · exact o0.2
  · exact o1.2
theorem polyRectangle_holds : Rows.PolyRectangleSaid :=
  OpenClaim.holds_of_wide 6 Try.f6 rfl rfl rfl rfl rfl rfl rfl ⟨rfl, rfl, rfl, rfl, rfl⟩ rfl rfl rfl rfl rfl (by kernel_rfl) Try.func6 (by kernel_rfl)
    (of_decide_eq_true (by kernel_rfl)) (by unfold Func.isWrapper; rw [if_neg (of_decide_eq_false (by kernel_rfl))]; exact ⟨rfl, rfl⟩)
    (fun os started H enc _ => polyRectangle_lifted os started H enc)
#print axioms polyRectangle_holds
end Go.Proofs.Ytoilhalmmghhbaa
