/-
  NumSums: of any floats added from the left the law answers true, whatever the input; no condition beyond the form's own.
-/
import Derived.Test.YtoboojdfaccphaaNumS2
import Derived.Test.YtoboojdfaccphaaEvZ
import Derived.Test.YtoboojdfaccphaaRows
namespace Go.Proofs.Ytoboojdfaccphaa
open Go.ChangeShapes Go.WideShapes Go.ChangeAt Go.RowKit Go.Ev Go.Ev.Num
theorem Try.own5 : ownKnob Try.prog.godebug = none := by kernel_rfl
theorem Try.laidOut5 : laidOutB Try.prog = true := by kernel_rfl
set_option maxRecDepth 100000 in
theorem numSums_lifted (os : Os) (started : os.Started) (H : Type) (enc : TypeId × Value → H) :
    ReturnsInHanded {} Try.checked os 5 .any (Rows.numSumsSpec.pre6 enc Try.prog Try.f5 Rows.numSumsRow.domain false) (Rows.numSumsSpec.post enc Try.prog Try.f5 false true false false) := by
  refine law_handed (C := Try.checked) (tb := 4) (s := Rows.numSumsSpec) (fn := Try.f5) Try.laidOut5 Try.own5 started (by kernel_rfl) Try.func5 (by kernel_rfl)
    (ChangeSpec.witness6 (enc := enc) (C := Try.checked) false ⟨#[], #[.slice none 0 0], []⟩ 8 (by kernel_rfl) (by kernel_rfl) (by kernel_rfl) (by kernel_rfl)) rfl (by kernel_rfl) (by kernel_rfl)
    (fun ds hd => ?_) ?_
  · have hd' : ds.length = 1 := hd
    match ds, hd' with
    | [d], _ => exact ⟨rfl, rfl, rfl⟩
  intro W args ds ps hval0 hA0 hlt hw0
  have hval : ∀ (j : Nat) t v, Try.f5.params[j]? = some t → args[j]? = some v → Value.okWide Try.prog W .any W.heap.size t v := hval0
  have hA : DataW.TrodAll enc Try.prog W 0 (fun _ => true) true Try.f5.params.toList args.toList ds ps := hA0
  have hw : (DataW.weightsEach Try.prog Try.f5.params.toList ds).all (· ≤ reachBytes) = true := hw0
  rw [Try.params5] at hA hval hw
  obtain ⟨v0, vs0, d0, ds0, p0, q0, hargs, rfl, rfl, h0, r0⟩ := trodAll_cons hA
  obtain ⟨rfl, rfl, rfl⟩ := trodAll_nil r0
  obtain rfl : args = #[v0] := by cases args; simp_all
  have hw1 : (DataW.weights Try.prog 43 d0).all (· ≤ reachBytes) = true := by
    simp only [DataW.weightsEach, List.append_nil] at hw
    exact hw
  obtain ⟨n, u, hu, hr, hn⟩ := open_slice (m := 3) (ks := [.i .u64]) Try.underlying43 (by kernel_rfl) (by kernel_rfl) (by decide) (hval 0 43 v0 rfl rfl) h0 hw1
  have hb : Try.prog.bytesOf 22 = 8 := by kernel_rfl
  rw [hb] at hn
  have hn' : n < 17592186044415 := by unfold reachBytes at hn; omega
  refine (t5 n (fun i => Ev.intOf (u i 0)) hn' (fun i hi => ?_)).said (W := W) (okA := fun b => b < W.heap.size) (fun _ h => h) (vs := [v0]) ⟨rfl, fun j hj => ?_⟩
  · have := (hu i hi 0 _ rfl).2
    simp [Lit.wf, IntKind.min, IntKind.max, IntKind.signed, IntKind.bits] at this
    omega
  · have hj' : j = 0 := by simpa using hj
    subst hj'
    exact hr
theorem numSums_holds : Rows.NumSumsSaid :=
  OpenClaim.holds_of_wide 5 Try.f5 rfl rfl rfl rfl rfl rfl rfl ⟨rfl, rfl, rfl, rfl, rfl⟩ rfl rfl rfl rfl rfl (by kernel_rfl) Try.func5 (by kernel_rfl)
    (of_decide_eq_true (by kernel_rfl)) (by unfold Func.isWrapper; rw [if_neg (of_decide_eq_false (by kernel_rfl))]; exact ⟨rfl, rfl⟩)
    (fun os started H enc _ => numSums_lifted os started H enc)
#print axioms numSums_holds
end Go.Proofs.Ytoboojdfaccphaa
