/-
  SweepTurned: of any list of boxes the law answers true; no condition beyond the form's own.
-/
import Derived.Test.YtbnfcjckbgpkeaaSweTu
import Derived.Test.YtbnfcjckbgpkeaaRows
set_option linter.unusedSimpArgs false
set_option linter.unusedVariables false
namespace Go.Proofs.Ytbnfcjckbgpkeaa
open Go.ChangeShapes Go.WideShapes Go.ChangeAt Go.RowKit Go.Ev Go.Ev.Sweep
theorem Try.own8 : ownKnob Try.prog.godebug = none := by kernel_rfl
theorem Try.laidOut8 : laidOutB Try.prog = true := by kernel_rfl
set_option maxRecDepth 100000 in
theorem sweepTurned_lifted (os : Os) (started : os.Started) (H : Type) (enc : TypeId × Value → H) :
    ReturnsInHanded {} Try.checked os 8 .any (Rows.sweepTurnedSpec.pre6 enc Try.prog Try.f8 Rows.sweepTurnedRow.domain false) (Rows.sweepTurnedSpec.post enc Try.prog Try.f8 false true false false) := by
  refine law_handed (C := Try.checked) (tb := 4) (s := Rows.sweepTurnedSpec) (fn := Try.f8) Try.laidOut8 Try.own8 started (by kernel_rfl) Try.func8 (by kernel_rfl)
    (ChangeSpec.witness6 (enc := enc) (C := Try.checked) false ⟨#[], #[.slice none 0 0], []⟩ 8 (by kernel_rfl) (by kernel_rfl) (by kernel_rfl) (by kernel_rfl)) rfl (by kernel_rfl) (by kernel_rfl)
    (fun ds hd => ?_) ?_
  · have hd' : ds.length = 1 := hd
    match ds, hd' with
    | [d], _ => exact ⟨rfl, rfl, rfl⟩
  intro W args ds ps hval0 hA0 hlt hw0
  have hval : ∀ (j : Nat) t v, Try.f8.params[j]? = some t → args[j]? = some v → Value.okWide Try.prog W .any W.heap.size t v := hval0
  have hA : DataW.TrodAll enc Try.prog W 0 (fun _ => true) true Try.f8.params.toList args.toList ds ps := hA0
  have hw : (DataW.weightsEach Try.prog Try.f8.params.toList ds).all (· ≤ reachBytes) = true := hw0
  rw [Try.params8] at hA hval hw
  obtain ⟨v0, vs0, d0, ds0, p0, q0, hargs, rfl, rfl, h0, r0⟩ := trodAll_cons hA
  obtain ⟨rfl, rfl, rfl⟩ := trodAll_nil r0
  obtain rfl : args = #[v0] := by cases args; simp_all
  have hw2 : (DataW.weights Try.prog 22 d0).all (· ≤ reachBytes) = true := by
    simp only [DataW.weightsEach, List.append_nil] at hw
    exact hw
  obtain ⟨n, u, hu, hr, hn⟩ := open_slice (m := 4) (ks := [.f .f64, .f .f64, .f .f64, .f .f64]) Try.underlying22 (by kernel_rfl) (by kernel_rfl) (by decide) (hval 0 22 v0 rfl rfl) h0 hw2
  have hb : Try.prog.bytesOf 27 = 32 := by kernel_rfl
  rw [hb] at hn
  have hn' : n ≤ room := by unfold reachBytes at hn; unfold room; omega
  refine (t8 n (fun i => (canon .f64 (Ev.fltOf (u i 0)), canon .f64 (Ev.fltOf (u i 1)), canon .f64 (Ev.fltOf (u i 2)), canon .f64 (Ev.fltOf (u i 3)))) hn').said (W := W) (okA := fun b => b < W.heap.size) (fun _ h => h) (vs := [v0]) ⟨rfl, fun j hj => ?_⟩
  have hj' : j = 0 := by simp at hj; omega
  subst hj'
  exact hr
theorem sweepTurned_holds : Rows.SweepTurnedSaid :=
  OpenClaim.holds_of_wide 8 Try.f8 rfl rfl rfl rfl rfl rfl rfl ⟨rfl, rfl, rfl, rfl, rfl⟩ rfl rfl rfl rfl rfl (by kernel_rfl) Try.func8 (by kernel_rfl)
    (of_decide_eq_true (by kernel_rfl)) (by unfold Func.isWrapper; rw [if_neg (of_decide_eq_false (by kernel_rfl))]; exact ⟨rfl, rfl⟩)
    (fun os started H enc _ => sweepTurned_lifted os started H enc)
#print axioms sweepTurned_holds
end Go.Proofs.Ytbnfcjckbgpkeaa
