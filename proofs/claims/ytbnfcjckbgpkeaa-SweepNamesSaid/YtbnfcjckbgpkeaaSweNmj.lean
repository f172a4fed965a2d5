/-
  SweepNames: the closed sentence answers true; no condition.
-/
import Derived.Test.YtbnfcjckbgpkeaaSweNm
import Derived.Test.YtbnfcjckbgpkeaaRows
set_option linter.unusedSimpArgs false
set_option linter.unusedVariables false
namespace Go.Proofs.Ytbnfcjckbgpkeaa
open Go.ChangeShapes Go.WideShapes Go.ChangeAt Go.RowKit Go.Ev Go.Ev.Sweep
theorem Try.own6 : ownKnob Try.prog.godebug = none := by kernel_rfl
theorem Try.laidOut6 : laidOutB Try.prog = true := by kernel_rfl
set_option maxRecDepth 100000 in
theorem sweepNames_lifted (os : Os) (started : os.Started) (H : Type) (enc : TypeId × Value → H) :
    ReturnsInHanded {} Try.checked os 6 .any (Rows.sweepNamesSpec.pre6 enc Try.prog Try.f6 Rows.sweepNamesRow.domain false) (Rows.sweepNamesSpec.post enc Try.prog Try.f6 false true false false) := by
  refine law_handed (C := Try.checked) (tb := 4) (s := Rows.sweepNamesSpec) (fn := Try.f6) Try.laidOut6 Try.own6 started (by kernel_rfl) Try.func6 (by kernel_rfl)
    (ChangeSpec.witness6 (enc := enc) (C := Try.checked) false ⟨#[], #[], []⟩ 8 (by kernel_rfl) (by kernel_rfl) (by kernel_rfl) (by kernel_rfl)) rfl (by kernel_rfl) (by kernel_rfl)
    (fun ds hd => ?_) ?_
  · have hd' : ds.length = 0 := hd
    match ds, hd' with
    | [], _ => exact ⟨rfl, rfl, rfl⟩
  intro W args ds ps hval0 hA0 hlt hw0
  have hA : DataW.TrodAll enc Try.prog W 0 (fun _ => true) true Try.f6.params.toList args.toList ds ps := hA0
  rw [Try.params6] at hA
  obtain ⟨hargs, rfl, rfl⟩ := trodAll_nil hA
  obtain rfl : args = #[] := by cases args; simp_all
  exact t6.said (W := W) (okA := fun b => b < W.heap.size) (fun _ h => h) (vs := []) ⟨rfl, fun j hj => absurd hj (Nat.not_lt_zero _)⟩
theorem sweepNames_holds : Rows.SweepNamesSaid :=
  OpenClaim.holds_of_wide 6 Try.f6 rfl rfl rfl rfl rfl rfl rfl ⟨rfl, rfl, rfl, rfl, rfl⟩ rfl rfl rfl rfl rfl (by kernel_rfl) Try.func6 (by kernel_rfl)
    (of_decide_eq_true (by kernel_rfl)) (by unfold Func.isWrapper; rw [if_neg (of_decide_eq_false (by kernel_rfl))]; exact ⟨rfl, rfl⟩)
    (fun os started H enc _ => sweepNames_lifted os started H enc)
#print axioms sweepNames_holds
end Go.Proofs.Ytbnfcjckbgpkeaa
