/-
  ClipWithin: of any plane, points and segment the law answers true; no condition beyond the form's own.
-/
import Derived.Test.YtbehddngdjfkhaaClipXf
import Derived.Test.YtbehddngdjfkhaaRows
set_option linter.unusedSimpArgs false
set_option linter.unusedVariables false
namespace Go.Proofs.Ytbehddngdjfkhaa
open Go.ChangeShapes Go.WideShapes Go.ChangeAt Go.RowKit Go.Ev Go.Ev.Clip
theorem Try.own5 : ownKnob Try.prog.godebug = none := by kernel_rfl
theorem Try.laidOut5 : laidOutB Try.prog = true := by kernel_rfl
set_option maxRecDepth 100000 in
theorem clipWithin_lifted (os : Os) (started : os.Started) (H : Type) (enc : TypeId × Value → H) :
    ReturnsInHanded {} Try.checked os 5 .any (Rows.clipWithinSpec.pre6 enc Try.prog Try.f5 Rows.clipWithinRow.domain false) (Rows.clipWithinSpec.post enc Try.prog Try.f5 false true false false) := by
  refine law_handed (C := Try.checked) (tb := 4) (s := Rows.clipWithinSpec) (fn := Try.f5) Try.laidOut5 Try.own5 started (by kernel_rfl) Try.func5 (by kernel_rfl)
    (ChangeSpec.witness6 (enc := enc) (C := Try.checked) false ⟨#[], #[.agg #[.float .f64 0, .float .f64 0, .float .f64 0], .slice none 0 0, .agg #[.float .f64 0, .float .f64 0], .agg #[.float .f64 0, .float .f64 0]], []⟩ 8 (by kernel_rfl) (by kernel_rfl) (by kernel_rfl) (by kernel_rfl)) rfl (by kernel_rfl) (by kernel_rfl)
    (fun ds hd => ?_) ?_
  · have hd' : ds.length = 4 := hd
    match ds, hd' with
    | [d, e, f, g], _ => exact ⟨rfl, rfl, rfl⟩
  intro W args ds ps hval0 hA0 hlt hw0
  have hval : ∀ (j : Nat) t v, Try.f5.params[j]? = some t → args[j]? = some v → Value.okWide Try.prog W .any W.heap.size t v := hval0
  have hA : DataW.TrodAll enc Try.prog W 0 (fun _ => true) true Try.f5.params.toList args.toList ds ps := hA0
  have hw : (DataW.weightsEach Try.prog Try.f5.params.toList ds).all (· ≤ reachBytes) = true := hw0
  rw [Try.params5] at hA hval hw
  obtain ⟨v0, vs0, d0, ds0, p0, q0, hargs, rfl, rfl, h0, r0⟩ := trodAll_cons hA
  obtain ⟨v1, vs1, d1, ds1, p1, q1, rfl, rfl, rfl, h1, r1⟩ := trodAll_cons r0
  obtain ⟨v2, vs2, d2, ds2, p2, q2, rfl, rfl, rfl, h2, r2⟩ := trodAll_cons r1
  obtain ⟨v3, vs3, d3, ds3, p3, q3, rfl, rfl, rfl, h3, r3⟩ := trodAll_cons r2
  obtain ⟨rfl, rfl, rfl⟩ := trodAll_nil r3
  obtain rfl : args = #[v0, v1, v2, v3] := by cases args; simp_all
  have hw2 : (DataW.weights Try.prog 31 d1).all (· ≤ reachBytes) = true := by
    simp only [DataW.weightsEach, List.append_nil] at hw
    simp only [List.all_append, Bool.and_eq_true] at hw
    exact hw.2.1
  obtain ⟨c0, e0, _⟩ := Go.WideShapes.okWide_struct Try.underlying26 (hval 0 26 v0 rfl rfl)
  obtain ⟨n, u, hu, hr, hn⟩ := open_slice (m := 4) (ks := [.f .f64, .f .f64]) Try.underlying31 (by kernel_rfl) (by kernel_rfl) (by decide) (hval 1 31 v1 rfl rfl) h1 hw2
  obtain ⟨c1, e1, _⟩ := Go.WideShapes.okWide_struct Try.underlying24 (hval 2 24 v2 rfl rfl)
  obtain ⟨c2, e2, _⟩ := Go.WideShapes.okWide_struct Try.underlying24 (hval 3 24 v3 rfl rfl)
  have hb : Try.prog.bytesOf 24 = 16 := by kernel_rfl
  rw [hb] at hn
  have hn' : n < big := by unfold reachBytes at hn; unfold big; omega
  have o0 := open_agg (m := 4) (ks := [.f .f64, .f .f64, .f .f64]) (by kernel_rfl) e0 h0
  have o1 := open_agg (m := 4) (ks := [.f .f64, .f .f64]) (by kernel_rfl) e1 h2
  have o2 := open_agg (m := 4) (ks := [.f .f64, .f .f64]) (by kernel_rfl) e2 h3
  refine (t5 (canon .f64 (Ev.fltOf (c0.getD 0 undef))) (canon .f64 (Ev.fltOf (c0.getD 1 undef))) (canon .f64 (Ev.fltOf (c0.getD 2 undef))) n (fun i => (canon .f64 (Ev.fltOf (u i 0)), canon .f64 (Ev.fltOf (u i 1)))) (canon .f64 (Ev.fltOf (c1.getD 0 undef))) (canon .f64 (Ev.fltOf (c1.getD 1 undef))) (canon .f64 (Ev.fltOf (c2.getD 0 undef))) (canon .f64 (Ev.fltOf (c2.getD 1 undef))) hn').said (W := W) (okA := fun b => b < W.heap.size) (fun _ h => h) (vs := [v0, v1, v2, v3]) ⟨rfl, fun j hj => ?_⟩
  have hj' : j = 0 ∨ j = 1 ∨ j = 2 ∨ j = 3 := by simp at hj; omega
  rcases hj' with rfl | rfl | rfl | rfl
  · exact o0.2
  · exact hr
  · exact o1.2
  · exact o2.2
theorem clipWithin_holds : Rows.ClipWithinSaid :=
  OpenClaim.holds_of_wide 5 Try.f5 rfl rfl rfl rfl rfl rfl rfl ⟨rfl, rfl, rfl, rfl, rfl⟩ rfl rfl rfl rfl rfl (by kernel_rfl) Try.func5 (by kernel_rfl)
    (of_decide_eq_true (by kernel_rfl)) (by unfold Func.isWrapper; rw [if_neg (of_decide_eq_false (by kernel_rfl))]; exact ⟨rfl, rfl⟩)
    (fun os started H enc _ => clipWithin_lifted os started H enc)
#print axioms clipWithin_holds
end Go.Proofs.Ytbehddngdjfkhaa
