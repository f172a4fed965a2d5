/-
  No cell of these rows narrows 'for every input' (looked for: loops, veiled, ifaces, maps, wideKeys, modest, calm, conditions, laid).
  DERIVED. THE GIVEN ROWS OF THIS SEAT. 4 by the template 'for every input the law returns true; each argument reads behind the call as it read before'; 0 by the template 'total and deterministic' (their statements: YtbehddngdjfkhaaTotals.lean).
  GIVEN WITH THE SEED: the statements are not yours to turn. If you find one false, say at which input.
  Laid BY PROGRAM, IN A SANDBOX (cutbox-rows.mjs): the forced cells as the released guide's own fill.sh prints them over the translation ede758599db458f0… (all of the seat's roots in one cut). By AI agents, Wed Nov 11 2026. No macro, syntax, notation, axiom, sorry.
-/
import Derived.Test.YtbehddngdjfkhaaChecked
import GoSem.Claim
import GoSem.ClaimJoined
import GoSem.ClaimMapViews
import Derived.JoinedTies
import Derived.KernelRfl
namespace Go.Proofs.Ytbehddngdjfkhaa
/- THE CELL 'sum', in the pinned program and in every row, IS THE sha256 OF THE DUMP (.gsa) THAT YtbehddngdjfkhaaProg.lean LOADS. Nothing in Lean hashes anything: it is a label: what it is worth is what the hold of that sum in a sandbox is worth. -/
noncomputable def Try.pinned : Pinned := { name := "ytbehddngdjfkhaa", sum := "ede758599db458f03d509f6cedaccbe1bddad4ad949a275c2c0de13ec9dac3fd", checked := Try.checked }
namespace Rows
def none {H : Type} : Left H := { results := [], args := [] }

/-- 'tumblelaw09.ClipSegment': WHATEVER THE INPUT: true; the input reads as it did. -/
def clipSegmentSpec : ChangeSpec := { name := "clipSegment", fn := fun _ => fun
  | [d1, d2, d3] => { results := [.lit (.bool true)], args := [d1, d2, d3] }
  | _ => none }
def clipSegmentRow : OpenClaim := { program := "ytbehddngdjfkhaa", sum := "ede758599db458f03d509f6cedaccbe1bddad4ad949a275c2c0de13ec9dac3fd", func := "tumble/tumblelaw09.ClipSegment", spec := "clipSegment", inPlace := ["math.sqrt", "math.Float64bits", "math.Float64frombits"], unfollowed := true, recurses := true, apart := false }
def ClipSegmentSaid : Prop := clipSegmentRow.holds Try.pinned (OpenSpec.ofChange clipSegmentSpec)

/-- ITS FALSE NEIGHBOUR: 'it returns false'. Refute it at one input. -/
def clipSegmentWrong : ChangeSpec := { name := "clipSegment", fn := fun _ => fun
  | [d1, d2, d3] => { results := [.lit (.bool false)], args := [d1, d2, d3] }
  | _ => none }
def ClipSegmentWrongFalsely : Prop := clipSegmentRow.holds Try.pinned (OpenSpec.ofChange clipSegmentWrong)

/-- 'tumblelaw09.ClipBoth': WHATEVER THE INPUT: true; the input reads as it did. -/
def clipBothSpec : ChangeSpec := { name := "clipBoth", fn := fun _ => fun
  | [d1, d2] => { results := [.lit (.bool true)], args := [d1, d2] }
  | _ => none }
def clipBothRow : OpenClaim := { program := "ytbehddngdjfkhaa", sum := "ede758599db458f03d509f6cedaccbe1bddad4ad949a275c2c0de13ec9dac3fd", func := "tumble/tumblelaw09.ClipBoth", spec := "clipBoth", inPlace := ["math.sqrt", "math.Float64bits", "math.Float64frombits"], unfollowed := true, recurses := true, apart := false }
def ClipBothSaid : Prop := clipBothRow.holds Try.pinned (OpenSpec.ofChange clipBothSpec)

/-- ITS FALSE NEIGHBOUR: 'it returns false'. Refute it at one input. -/
def clipBothWrong : ChangeSpec := { name := "clipBoth", fn := fun _ => fun
  | [d1, d2] => { results := [.lit (.bool false)], args := [d1, d2] }
  | _ => none }
def ClipBothWrongFalsely : Prop := clipBothRow.holds Try.pinned (OpenSpec.ofChange clipBothWrong)

/-- 'tumblelaw09.ClipWithin': WHATEVER THE INPUT: true; the input reads as it did. -/
def clipWithinSpec : ChangeSpec := { name := "clipWithin", fn := fun _ => fun
  | [d1, d2, d3, d4] => { results := [.lit (.bool true)], args := [d1, d2, d3, d4] }
  | _ => none }
def clipWithinRow : OpenClaim := { program := "ytbehddngdjfkhaa", sum := "ede758599db458f03d509f6cedaccbe1bddad4ad949a275c2c0de13ec9dac3fd", func := "tumble/tumblelaw09.ClipWithin", spec := "clipWithin", inPlace := ["math.sqrt", "math.Float64bits", "math.Float64frombits"], unfollowed := true, recurses := true, apart := false }
def ClipWithinSaid : Prop := clipWithinRow.holds Try.pinned (OpenSpec.ofChange clipWithinSpec)

/-- ITS FALSE NEIGHBOUR: 'it returns false'. Refute it at one input. -/
def clipWithinWrong : ChangeSpec := { name := "clipWithin", fn := fun _ => fun
  | [d1, d2, d3, d4] => { results := [.lit (.bool false)], args := [d1, d2, d3, d4] }
  | _ => none }
def ClipWithinWrongFalsely : Prop := clipWithinRow.holds Try.pinned (OpenSpec.ofChange clipWithinWrong)

/-- 'tumblelaw09.ClipSides': WHATEVER THE INPUT: true; the input reads as it did. -/
def clipSidesSpec : ChangeSpec := { name := "clipSides", fn := fun _ => fun
  | [d1, d2] => { results := [.lit (.bool true)], args := [d1, d2] }
  | _ => none }
def clipSidesRow : OpenClaim := { program := "ytbehddngdjfkhaa", sum := "ede758599db458f03d509f6cedaccbe1bddad4ad949a275c2c0de13ec9dac3fd", func := "tumble/tumblelaw09.ClipSides", spec := "clipSides", inPlace := ["math.sqrt", "math.Float64bits", "math.Float64frombits"], unfollowed := true, recurses := true, apart := false }
def ClipSidesSaid : Prop := clipSidesRow.holds Try.pinned (OpenSpec.ofChange clipSidesSpec)

/-- ITS FALSE NEIGHBOUR: 'it returns false'. Refute it at one input. -/
def clipSidesWrong : ChangeSpec := { name := "clipSides", fn := fun _ => fun
  | [d1, d2] => { results := [.lit (.bool false)], args := [d1, d2] }
  | _ => none }
def ClipSidesWrongFalsely : Prop := clipSidesRow.holds Try.pinned (OpenSpec.ofChange clipSidesWrong)

/- THE SECOND FORM. 'bulk': how many values and letters a reading holds, each counted each time it is reached (what is shared counts as often as it is met; a slice's spare places count too). A statement '..UptoSaid' is the law's where the arguments, and the package variables that the reading takes, are together of bulk at most 1048576: NARROWER than '..Said'. Prove '..Said' where nothing that the law and all that it calls make is longer than what came in: it says more and counts as full. Else prove '..UptoSaid'. A law counts once. -/
mutual
def uptoBulk {H : Type} : DataW H → Nat
  | .lit (.string bytes) => bytes.length + 1
  | .lit _ => 1
  | .nil => 1
  | .ptr d => uptoBulk d + 1
  | .slice elems spare => uptoBulkAll elems + uptoBulkAll spare + 1
  | .agg parts => uptoBulkAll parts + 1
  | .iface _ d => uptoBulk d + 1
  | .map entries => uptoBulkEntries entries + 1
  | .held _ => 1
def uptoBulkAll {H : Type} : List (DataW H) → Nat
  | [] => 0
  | d :: r => uptoBulk d + uptoBulkAll r
def uptoBulkEntries {H : Type} : List (Lit × DataW H) → Nat
  | [] => 0
  | x :: r => uptoBulkEntry x + uptoBulkEntries r
def uptoBulkEntry {H : Type} : Lit × DataW H → Nat
  | (.string bytes, d) => bytes.length + uptoBulk d + 1
  | (_, d) => uptoBulk d + 1
 end
def uptoSmall : (H : Type) → List (DataW H) → Bool := fun _ ds => decide (uptoBulkAll ds ≤ 1048576)
def OpenSpec.upto (s : _root_.Go.ChangeSpec) : _root_.Go.OpenSpec := { _root_.Go.OpenSpec.ofChange s with cond := some uptoSmall }

/-- 'tumblelaw09.ClipSegment', WHERE WHAT IT READS IS OF BULK AT MOST 1048576: true; the input reads as it did. -/
def clipSegmentUptoRow : OpenClaim := { program := "ytbehddngdjfkhaa", sum := "ede758599db458f03d509f6cedaccbe1bddad4ad949a275c2c0de13ec9dac3fd", func := "tumble/tumblelaw09.ClipSegment", spec := "clipSegment", inPlace := ["math.sqrt", "math.Float64bits", "math.Float64frombits"], unfollowed := true, recurses := true, apart := false, narrowed := true }
def ClipSegmentUptoSaid : Prop := clipSegmentUptoRow.holds Try.pinned (OpenSpec.upto clipSegmentSpec)

/-- 'tumblelaw09.ClipBoth', WHERE WHAT IT READS IS OF BULK AT MOST 1048576: true; the input reads as it did. -/
def clipBothUptoRow : OpenClaim := { program := "ytbehddngdjfkhaa", sum := "ede758599db458f03d509f6cedaccbe1bddad4ad949a275c2c0de13ec9dac3fd", func := "tumble/tumblelaw09.ClipBoth", spec := "clipBoth", inPlace := ["math.sqrt", "math.Float64bits", "math.Float64frombits"], unfollowed := true, recurses := true, apart := false, narrowed := true }
def ClipBothUptoSaid : Prop := clipBothUptoRow.holds Try.pinned (OpenSpec.upto clipBothSpec)

/-- 'tumblelaw09.ClipWithin', WHERE WHAT IT READS IS OF BULK AT MOST 1048576: true; the input reads as it did. -/
def clipWithinUptoRow : OpenClaim := { program := "ytbehddngdjfkhaa", sum := "ede758599db458f03d509f6cedaccbe1bddad4ad949a275c2c0de13ec9dac3fd", func := "tumble/tumblelaw09.ClipWithin", spec := "clipWithin", inPlace := ["math.sqrt", "math.Float64bits", "math.Float64frombits"], unfollowed := true, recurses := true, apart := false, narrowed := true }
def ClipWithinUptoSaid : Prop := clipWithinUptoRow.holds Try.pinned (OpenSpec.upto clipWithinSpec)

/-- 'tumblelaw09.ClipSides', WHERE WHAT IT READS IS OF BULK AT MOST 1048576: true; the input reads as it did. -/
def clipSidesUptoRow : OpenClaim := { program := "ytbehddngdjfkhaa", sum := "ede758599db458f03d509f6cedaccbe1bddad4ad949a275c2c0de13ec9dac3fd", func := "tumble/tumblelaw09.ClipSides", spec := "clipSides", inPlace := ["math.sqrt", "math.Float64bits", "math.Float64frombits"], unfollowed := true, recurses := true, apart := false, narrowed := true }
def ClipSidesUptoSaid : Prop := clipSidesUptoRow.holds Try.pinned (OpenSpec.upto clipSidesSpec)

end Rows
end Go.Proofs.Ytbehddngdjfkhaa
