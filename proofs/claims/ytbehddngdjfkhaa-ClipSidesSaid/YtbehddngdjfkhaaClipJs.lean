/-
  ClipSides: of any two rows of points the law answers true; no condition beyond the form's own.
-/
import Derived.Test.YtbehddngdjfkhaaClipYe
import Derived.Test.YtbehddngdjfkhaaRows
set_option linter.unusedSimpArgs false
set_option linter.unusedVariables false
namespace Go.Proofs.Ytbehddngdjfkhaa
open Go.ChangeShapes Go.WideShapes Go.ChangeAt Go.RowKit Go.Ev Go.Ev.Clip
theorem Try.own6 : ownKnob Try.prog.godebug = none := by kernel_rfl
theorem Try.laidOut6 : laidOutB Try.prog = true := by kernel_rfl
set_option maxRecDepth 100000 in
theorem clipSides_lifted (os : Os) (started : os.Started) (H : Type) (enc : TypeId × Value → H) :
    ReturnsInHanded {} Try.checked os 6 .any (Rows.clipSidesSpec.pre6 enc Try.prog Try.f6 Rows.clipSidesRow.domain false) (Rows.clipSidesSpec.post enc Try.prog Try.f6 false true false false) := by
  refine law_handed (C := Try.checked) (tb := 4) (s := Rows.clipSidesSpec) (fn := Try.f6) Try.laidOut6 Try.own6 started (by kernel_rfl) Try.func6 (by kernel_rfl)
    (ChangeSpec.witness6 (enc := enc) (C := Try.checked) false ⟨#[], #[.slice none 0 0, .slice none 0 0], []⟩ 8 (by kernel_rfl) (by kernel_rfl) (by kernel_rfl) (by kernel_rfl)) rfl (by kernel_rfl) (by kernel_rfl)
    (fun ds hd => ?_) ?_
  · have hd' : ds.length = 2 := hd
    match ds, hd' with
    | [d, e], _ => exact ⟨rfl, rfl, rfl⟩
  intro W args ds ps hval0 hA0 hlt hw0
  have hval : ∀ (j : Nat) t v, Try.f6.params[j]? = some t → args[j]? = some v → Value.okWide Try.prog W .any W.heap.size t v := hval0
  have hA : DataW.TrodAll enc Try.prog W 0 (fun _ => true) true Try.f6.params.toList args.toList ds ps := hA0
  have hw : (DataW.weightsEach Try.prog Try.f6.params.toList ds).all (· ≤ reachBytes) = true := hw0
  rw [Try.params6] at hA hval hw
  obtain ⟨v0, vs0, d0, ds0, p0, q0, hargs, rfl, rfl, h0, r0⟩ := trodAll_cons hA
  obtain ⟨v1, vs1, d1, ds1, p1, q1, rfl, rfl, rfl, h1, r1⟩ := trodAll_cons r0
  obtain ⟨rfl, rfl, rfl⟩ := trodAll_nil r1
  obtain rfl : args = #[v0, v1] := by cases args; simp_all
  have hw2 : (DataW.weights Try.prog 31 d0).all (· ≤ reachBytes) = true ∧ (DataW.weights Try.prog 31 d1).all (· ≤ reachBytes) = true := by
    simp only [DataW.weightsEach, List.append_nil] at hw
    rw [List.all_append, Bool.and_eq_true] at hw
    exact hw
  obtain ⟨n, u, hu, hr, hn⟩ := open_slice (m := 4) (ks := [.f .f64, .f .f64]) Try.underlying31 (by kernel_rfl) (by kernel_rfl) (by decide) (hval 0 31 v0 rfl rfl) h0 hw2.1
  obtain ⟨m, x, hx, hs, hm⟩ := open_slice (m := 4) (ks := [.f .f64, .f .f64]) Try.underlying31 (by kernel_rfl) (by kernel_rfl) (by decide) (hval 1 31 v1 rfl rfl) h1 hw2.2
  have hb : Try.prog.bytesOf 24 = 16 := by kernel_rfl
  rw [hb] at hn hm
  have hn' : n < big := by unfold reachBytes at hn; unfold big; omega
  have hm' : m < big := by unfold reachBytes at hm; unfold big; omega
  refine (t6 n (fun i => (canon .f64 (Ev.fltOf (u i 0)), canon .f64 (Ev.fltOf (u i 1)))) m (fun i => (canon .f64 (Ev.fltOf (x i 0)), canon .f64 (Ev.fltOf (x i 1)))) hn' hm').said (W := W) (okA := fun b => b < W.heap.size) (fun _ h => h) (vs := [v0, v1]) ⟨rfl, fun j hj => ?_⟩
  have hj' : j = 0 ∨ j = 1 := by simp at hj; omega
  rcases hj' with rfl | rfl
  · exact hr
  · exact hs
theorem clipSides_holds : Rows.ClipSidesSaid :=
  OpenClaim.holds_of_wide 6 Try.f6 rfl rfl rfl rfl rfl rfl rfl ⟨rfl, rfl, rfl, rfl, rfl⟩ rfl rfl rfl rfl rfl (by kernel_rfl) Try.func6 (by kernel_rfl)
    (of_decide_eq_true (by kernel_rfl)) (by unfold Func.isWrapper; rw [if_neg (of_decide_eq_false (by kernel_rfl))]; exact ⟨rfl, rfl⟩)
    (fun os started H enc _ => clipSides_lifted os started H enc)
#print axioms clipSides_holds
end Go.Proofs.Ytbehddngdjfkhaa
