/-
  The contracts of closed calls by closed runs; no condition.
-/
import Derived.Test.YtbehddngdjfkhaaClipA
set_option linter.unusedSimpArgs false
set_option linter.unusedVariables false
open Go Go.Proofs
namespace Go.Ev.Clip.C
set_option maxRecDepth 100000
noncomputable def EC : Env := genQ Try.prog exts eqs (List.range 82) S27
theorem EC_full : EnvFull EC := genQ_full extsOK eqsOK S27_ok
def sqA : List (List MV) := [[.f .f64 0, .f .f64 0], [.f .f64 4611686018427387904, .f .f64 0], [.f .f64 4611686018427387904, .f .f64 4611686018427387904], [.f .f64 0, .f .f64 4611686018427387904]]
def sqB : List (List MV) := [[.f .f64 4617315517961601024, .f .f64 0], [.f .f64 4619567317775286272, .f .f64 0], [.f .f64 4619567317775286272, .f .f64 4611686018427387904], [.f .f64 4617315517961601024, .f .f64 4611686018427387904]]
noncomputable def fi18 : FnI := ⟨35, Try.f18.body.getD .skip, [.tmp 4, .tmp 5], true⟩
theorem fi18_ok : fnGen Try.prog 18 = some fi18 := by kernel_rfl
theorem t18 : CM Try.prog 18 [.ro 2 4 (tblGet sqA), .ro 2 4 (tblGet sqB)] (packM [.nils, .i .i64 0]) [] true :=
  oTell_sound (E := EC) EC_full mixOK (fnGen_ok fi18_ok) rfl (L := 40) (k := 12) (rs := [.nils, .i .i64 0]) (by kernel_rfl)
def g18 : List MV → Option (List Prop × MV × List Blk × Bool)
  | [.ro 2 4 get, .ro 2 4 get'] => match rowsAre 2 get 0 sqA with
    | true => match rowsAre 2 get' 0 sqB with
      | true => some ([], .tup [.nils, .i .i64 0], [], false)
      | false => none
    | false => none
  | _ => none
theorem s18 : SumsOK Try.prog (sumOf 18 g18 S27) := by
  refine SumsOK.add S27_ok fun ms ps m blks al e hp => ?_
  unfold g18 at e
  split at e
  · split at e
    · rename_i h1
      split at e
      · rename_i h2
        cases e
        refine (t18.aloneT rfl).le fun w ok vs r => ⟨r.len, fun j hj => ?_⟩
        have hj' : j = 0 ∨ j = 1 := by simp at hj; omega
        rcases hj' with rfl | rfl
        · exact ro_are (r := sqA) h1 (r.rep 0 (by simp))
        · exact ro_are (r := sqB) h2 (r.rep 1 (by simp))
      · cases e
    · cases e
  · cases e
def S18 := sumOf 18 g18 S27
theorem S18_ok : SumsOK Try.prog S18 := s18
end Go.Ev.Clip.C
