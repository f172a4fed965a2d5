/-
  No cell of these rows narrows 'for every input' (looked for: loops, veiled, ifaces, maps, wideKeys, modest, calm, conditions, laid).
  DERIVED. THE GIVEN ROWS OF THIS SEAT. 9 by the template 'for every input the law returns true; each argument reads behind the call as it read before'; 0 by the template 'total and deterministic' (their statements: YtoboojdfaccphaaTotals.lean).
  GIVEN WITH THE SEED: the statements are not yours to turn. If you find one false, say at which input.
  Laid BY PROGRAM, IN A SANDBOX (cutbox-rows.mjs): the forced cells as the released guide's own fill.sh prints them over the translation c28622fb4ba2686d… (all of the seat's roots in one cut). By AI agents, Wed Nov 11 2026. No macro, syntax, notation, axiom, sorry.
-/
import Derived.Test.YtoboojdfaccphaaChecked
import GoSem.Claim
import GoSem.ClaimJoined
import GoSem.ClaimMapViews
import Derived.JoinedTies
import Derived.KernelRfl
namespace Go.Proofs.Ytoboojdfaccphaa
/- THE CELL 'sum', in the pinned program and in every row, IS THE sha256 OF THE DUMP (.gsa) THAT YtoboojdfaccphaaProg.lean LOADS. Nothing in Lean hashes anything: it is a label: what it is worth is what the hold of that sum in a sandbox is worth. -/
noncomputable def Try.pinned : Pinned := { name := "ytoboojdfaccphaa", sum := "c28622fb4ba2686df7a8a8d69e767ac66e71c3c8ee61f3a40a3bb5d05c98ef0d", checked := Try.checked }
namespace Rows
def none {H : Type} : Left H := { results := [], args := [] }

/-- 'tumblelaw01.NumBits': WHATEVER THE INPUT: true; the input reads as it did. -/
def numBitsSpec : ChangeSpec := { name := "numBits", fn := fun _ => fun
  | [d1, d2, d3] => { results := [.lit (.bool true)], args := [d1, d2, d3] }
  | _ => none }
def numBitsRow : OpenClaim := { program := "ytoboojdfaccphaa", sum := "c28622fb4ba2686df7a8a8d69e767ac66e71c3c8ee61f3a40a3bb5d05c98ef0d", func := "tumble/tumblelaw01.NumBits", spec := "numBits", inPlace := ["math.Float64frombits", "math.Float64bits"], apart := false }
def NumBitsSaid : Prop := numBitsRow.holds Try.pinned (OpenSpec.ofChange numBitsSpec)

/-- ITS FALSE NEIGHBOUR: 'it returns false'. Refute it at one input. -/
def numBitsWrong : ChangeSpec := { name := "numBits", fn := fun _ => fun
  | [d1, d2, d3] => { results := [.lit (.bool false)], args := [d1, d2, d3] }
  | _ => none }
def NumBitsWrongFalsely : Prop := numBitsRow.holds Try.pinned (OpenSpec.ofChange numBitsWrong)

/-- 'tumblelaw01.NumSame': WHATEVER THE INPUT: true; the input reads as it did. -/
def numSameSpec : ChangeSpec := { name := "numSame", fn := fun _ => fun
  | [d1, d2, d3, d4] => { results := [.lit (.bool true)], args := [d1, d2, d3, d4] }
  | _ => none }
def numSameRow : OpenClaim := { program := "ytoboojdfaccphaa", sum := "c28622fb4ba2686df7a8a8d69e767ac66e71c3c8ee61f3a40a3bb5d05c98ef0d", func := "tumble/tumblelaw01.NumSame", spec := "numSame", inPlace := ["math.Float64frombits", "math.Float32frombits", "math.Float64bits"], apart := false }
def NumSameSaid : Prop := numSameRow.holds Try.pinned (OpenSpec.ofChange numSameSpec)

/-- ITS FALSE NEIGHBOUR: 'it returns false'. Refute it at one input. -/
def numSameWrong : ChangeSpec := { name := "numSame", fn := fun _ => fun
  | [d1, d2, d3, d4] => { results := [.lit (.bool false)], args := [d1, d2, d3, d4] }
  | _ => none }
def NumSameWrongFalsely : Prop := numSameRow.holds Try.pinned (OpenSpec.ofChange numSameWrong)

/-- 'tumblelaw01.NumSums': WHATEVER THE INPUT: true; the input reads as it did. -/
def numSumsSpec : ChangeSpec := { name := "numSums", fn := fun _ => fun
  | [d] => { results := [.lit (.bool true)], args := [d] }
  | _ => none }
def numSumsRow : OpenClaim := { program := "ytoboojdfaccphaa", sum := "c28622fb4ba2686df7a8a8d69e767ac66e71c3c8ee61f3a40a3bb5d05c98ef0d", func := "tumble/tumblelaw01.NumSums", spec := "numSums", inPlace := ["math.Float64frombits", "math.Float64bits"], apart := false }
def NumSumsSaid : Prop := numSumsRow.holds Try.pinned (OpenSpec.ofChange numSumsSpec)

/-- ITS FALSE NEIGHBOUR: 'it returns false'. Refute it at one input. -/
def numSumsWrong : ChangeSpec := { name := "numSums", fn := fun _ => fun
  | [d] => { results := [.lit (.bool false)], args := [d] }
  | _ => none }
def NumSumsWrongFalsely : Prop := numSumsRow.holds Try.pinned (OpenSpec.ofChange numSumsWrong)

/-- 'tumblelaw01.NumBounds': WHATEVER THE INPUT: true; the input reads as it did. -/
def numBoundsSpec : ChangeSpec := { name := "numBounds", fn := fun _ => fun
  | [d1, d2, d3, d4, d5, d6] => { results := [.lit (.bool true)], args := [d1, d2, d3, d4, d5, d6] }
  | _ => none }
def numBoundsRow : OpenClaim := { program := "ytoboojdfaccphaa", sum := "c28622fb4ba2686df7a8a8d69e767ac66e71c3c8ee61f3a40a3bb5d05c98ef0d", func := "tumble/tumblelaw01.NumBounds", spec := "numBounds", inPlace := ["math.Float64frombits", "math.Float32frombits", "math.Float64bits"], apart := false }
def NumBoundsSaid : Prop := numBoundsRow.holds Try.pinned (OpenSpec.ofChange numBoundsSpec)

/-- ITS FALSE NEIGHBOUR: 'it returns false'. Refute it at one input. -/
def numBoundsWrong : ChangeSpec := { name := "numBounds", fn := fun _ => fun
  | [d1, d2, d3, d4, d5, d6] => { results := [.lit (.bool false)], args := [d1, d2, d3, d4, d5, d6] }
  | _ => none }
def NumBoundsWrongFalsely : Prop := numBoundsRow.holds Try.pinned (OpenSpec.ofChange numBoundsWrong)

/-- 'tumblelaw01.NumPicks': WHATEVER THE INPUT: true; the input reads as it did. -/
def numPicksSpec : ChangeSpec := { name := "numPicks", fn := fun _ => fun
  | [d1, d2, d3, d4] => { results := [.lit (.bool true)], args := [d1, d2, d3, d4] }
  | _ => none }
def numPicksRow : OpenClaim := { program := "ytoboojdfaccphaa", sum := "c28622fb4ba2686df7a8a8d69e767ac66e71c3c8ee61f3a40a3bb5d05c98ef0d", func := "tumble/tumblelaw01.NumPicks", spec := "numPicks", inPlace := ["math.Float64frombits", "math.Float32frombits", "math.Float64bits"], apart := false }
def NumPicksSaid : Prop := numPicksRow.holds Try.pinned (OpenSpec.ofChange numPicksSpec)

/-- ITS FALSE NEIGHBOUR: 'it returns false'. Refute it at one input. -/
def numPicksWrong : ChangeSpec := { name := "numPicks", fn := fun _ => fun
  | [d1, d2, d3, d4] => { results := [.lit (.bool false)], args := [d1, d2, d3, d4] }
  | _ => none }
def NumPicksWrongFalsely : Prop := numPicksRow.holds Try.pinned (OpenSpec.ofChange numPicksWrong)

/-- 'tumblelaw01.NumRow': WHATEVER THE INPUT: true; the input reads as it did. -/
def numRowSpec : ChangeSpec := { name := "numRow", fn := fun _ => fun
  | [d1, d2, d3] => { results := [.lit (.bool true)], args := [d1, d2, d3] }
  | _ => none }
def numRowRow : OpenClaim := { program := "ytoboojdfaccphaa", sum := "c28622fb4ba2686df7a8a8d69e767ac66e71c3c8ee61f3a40a3bb5d05c98ef0d", func := "tumble/tumblelaw01.NumRow", spec := "numRow", inPlace := ["math.Float64frombits", "math.Float64bits"], apart := false }
def NumRowSaid : Prop := numRowRow.holds Try.pinned (OpenSpec.ofChange numRowSpec)

/-- ITS FALSE NEIGHBOUR: 'it returns false'. Refute it at one input. -/
def numRowWrong : ChangeSpec := { name := "numRow", fn := fun _ => fun
  | [d1, d2, d3] => { results := [.lit (.bool false)], args := [d1, d2, d3] }
  | _ => none }
def NumRowWrongFalsely : Prop := numRowRow.holds Try.pinned (OpenSpec.ofChange numRowWrong)

/-- 'tumblelaw01.NumTwo': WHATEVER THE INPUT: true; the input reads as it did. -/
def numTwoSpec : ChangeSpec := { name := "numTwo", fn := fun _ => fun
  | [d1, d2] => { results := [.lit (.bool true)], args := [d1, d2] }
  | _ => none }
def numTwoRow : OpenClaim := { program := "ytoboojdfaccphaa", sum := "c28622fb4ba2686df7a8a8d69e767ac66e71c3c8ee61f3a40a3bb5d05c98ef0d", func := "tumble/tumblelaw01.NumTwo", spec := "numTwo", inPlace := ["math.Float64frombits", "math.Float64bits"], apart := false }
def NumTwoSaid : Prop := numTwoRow.holds Try.pinned (OpenSpec.ofChange numTwoSpec)

/-- ITS FALSE NEIGHBOUR: 'it returns false'. Refute it at one input. -/
def numTwoWrong : ChangeSpec := { name := "numTwo", fn := fun _ => fun
  | [d1, d2] => { results := [.lit (.bool false)], args := [d1, d2] }
  | _ => none }
def NumTwoWrongFalsely : Prop := numTwoRow.holds Try.pinned (OpenSpec.ofChange numTwoWrong)

/-- 'tumblelaw01.NumHeld': WHATEVER THE INPUT: true; the input reads as it did. -/
def numHeldSpec : ChangeSpec := { name := "numHeld", fn := fun _ => fun
  | [d1, d2, d3] => { results := [.lit (.bool true)], args := [d1, d2, d3] }
  | _ => none }
def numHeldRow : OpenClaim := { program := "ytoboojdfaccphaa", sum := "c28622fb4ba2686df7a8a8d69e767ac66e71c3c8ee61f3a40a3bb5d05c98ef0d", func := "tumble/tumblelaw01.NumHeld", spec := "numHeld", inPlace := ["math.Float64frombits", "math.Float64bits"], apart := false }
def NumHeldSaid : Prop := numHeldRow.holds Try.pinned (OpenSpec.ofChange numHeldSpec)

/-- ITS FALSE NEIGHBOUR: 'it returns false'. Refute it at one input. -/
def numHeldWrong : ChangeSpec := { name := "numHeld", fn := fun _ => fun
  | [d1, d2, d3] => { results := [.lit (.bool false)], args := [d1, d2, d3] }
  | _ => none }
def NumHeldWrongFalsely : Prop := numHeldRow.holds Try.pinned (OpenSpec.ofChange numHeldWrong)

/-- 'tumblelaw01.NumNames': WHATEVER THE INPUT: true; the input reads as it did. -/
def numNamesSpec : ChangeSpec := { name := "numNames", fn := fun _ => fun
  | [] => { results := [.lit (.bool true)], args := [] }
  | _ => none }
def numNamesRow : OpenClaim := { program := "ytoboojdfaccphaa", sum := "c28622fb4ba2686df7a8a8d69e767ac66e71c3c8ee61f3a40a3bb5d05c98ef0d", func := "tumble/tumblelaw01.NumNames", spec := "numNames", inPlace := ["math.Float64bits", "math.Float64frombits"], apart := false }
def NumNamesSaid : Prop := numNamesRow.holds Try.pinned (OpenSpec.ofChange numNamesSpec)

/-- ITS FALSE NEIGHBOUR: 'it returns false'. Refute it at one input. -/
def numNamesWrong : ChangeSpec := { name := "numNames", fn := fun _ => fun
  | [] => { results := [.lit (.bool false)], args := [] }
  | _ => none }
def NumNamesWrongFalsely : Prop := numNamesRow.holds Try.pinned (OpenSpec.ofChange numNamesWrong)

/- THE SECOND FORM. 'bulk': how many values and letters a reading holds, each counted each time it is reached (what is shared counts as often as it is met; a slice's spare places count too). A statement '..UptoSaid' is the law's where the arguments, and the package variables that the reading takes, are together of bulk at most 1048576: NARROWER than '..Said'. Prove '..Said' where nothing that the law and all that it calls make is longer than what came in: it says more and counts as full. Else prove '..UptoSaid'. A law counts once. -/
mutual
def uptoBulk {H : Type} : DataW H → Nat
  | .lit (.string bytes) => bytes.length + 1
  | .lit _ => 1
  | .nil => 1
  | .ptr d => uptoBulk d + 1
  | .slice elems spare => uptoBulkAll elems + uptoBulkAll spare + 1
  | .agg parts => uptoBulkAll parts + 1
  | .iface _ d => uptoBulk d + 1
  | .map entries => uptoBulkEntries entries + 1
  | .held _ => 1
def uptoBulkAll {H : Type} : List (DataW H) → Nat
  | [] => 0
  | d :: r => uptoBulk d + uptoBulkAll r
def uptoBulkEntries {H : Type} : List (Lit × DataW H) → Nat
  | [] => 0
  | x :: r => uptoBulkEntry x + uptoBulkEntries r
def uptoBulkEntry {H : Type} : Lit × DataW H → Nat
  | (.string bytes, d) => bytes.length + uptoBulk d + 1
  | (_, d) => uptoBulk d + 1
 end
def uptoSmall : (H : Type) → List (DataW H) → Bool := fun _ ds => decide (uptoBulkAll ds ≤ 1048576)
def OpenSpec.upto (s : _root_.Go.ChangeSpec) : _root_.Go.OpenSpec := { _root_.Go.OpenSpec.ofChange s with cond := some uptoSmall }

/-- 'tumblelaw01.NumBits', WHERE WHAT IT READS IS OF BULK AT MOST 1048576: true; the input reads as it did. -/
def numBitsUptoRow : OpenClaim := { program := "ytoboojdfaccphaa", sum := "c28622fb4ba2686df7a8a8d69e767ac66e71c3c8ee61f3a40a3bb5d05c98ef0d", func := "tumble/tumblelaw01.NumBits", spec := "numBits", inPlace := ["math.Float64frombits", "math.Float64bits"], apart := false, narrowed := true }
def NumBitsUptoSaid : Prop := numBitsUptoRow.holds Try.pinned (OpenSpec.upto numBitsSpec)

/-- 'tumblelaw01.NumSame', WHERE WHAT IT READS IS OF BULK AT MOST 1048576: true; the input reads as it did. -/
def numSameUptoRow : OpenClaim := { program := "ytoboojdfaccphaa", sum := "c28622fb4ba2686df7a8a8d69e767ac66e71c3c8ee61f3a40a3bb5d05c98ef0d", func := "tumble/tumblelaw01.NumSame", spec := "numSame", inPlace := ["math.Float64frombits", "math.Float32frombits", "math.Float64bits"], apart := false, narrowed := true }
def NumSameUptoSaid : Prop := numSameUptoRow.holds Try.pinned (OpenSpec.upto numSameSpec)

/-- 'tumblelaw01.NumSums', WHERE WHAT IT READS IS OF BULK AT MOST 1048576: true; the input reads as it did. -/
def numSumsUptoRow : OpenClaim := { program := "ytoboojdfaccphaa", sum := "c28622fb4ba2686df7a8a8d69e767ac66e71c3c8ee61f3a40a3bb5d05c98ef0d", func := "tumble/tumblelaw01.NumSums", spec := "numSums", inPlace := ["math.Float64frombits", "math.Float64bits"], apart := false, narrowed := true }
def NumSumsUptoSaid : Prop := numSumsUptoRow.holds Try.pinned (OpenSpec.upto numSumsSpec)

/-- 'tumblelaw01.NumBounds', WHERE WHAT IT READS IS OF BULK AT MOST 1048576: true; the input reads as it did. -/
def numBoundsUptoRow : OpenClaim := { program := "ytoboojdfaccphaa", sum := "c28622fb4ba2686df7a8a8d69e767ac66e71c3c8ee61f3a40a3bb5d05c98ef0d", func := "tumble/tumblelaw01.NumBounds", spec := "numBounds", inPlace := ["math.Float64frombits", "math.Float32frombits", "math.Float64bits"], apart := false, narrowed := true }
def NumBoundsUptoSaid : Prop := numBoundsUptoRow.holds Try.pinned (OpenSpec.upto numBoundsSpec)

/-- 'tumblelaw01.NumPicks', WHERE WHAT IT READS IS OF BULK AT MOST 1048576: true; the input reads as it did. -/
def numPicksUptoRow : OpenClaim := { program := "ytoboojdfaccphaa", sum := "c28622fb4ba2686df7a8a8d69e767ac66e71c3c8ee61f3a40a3bb5d05c98ef0d", func := "tumble/tumblelaw01.NumPicks", spec := "numPicks", inPlace := ["math.Float64frombits", "math.Float32frombits", "math.Float64bits"], apart := false, narrowed := true }
def NumPicksUptoSaid : Prop := numPicksUptoRow.holds Try.pinned (OpenSpec.upto numPicksSpec)

/-- 'tumblelaw01.NumRow', WHERE WHAT IT READS IS OF BULK AT MOST 1048576: true; the input reads as it did. -/
def numRowUptoRow : OpenClaim := { program := "ytoboojdfaccphaa", sum := "c28622fb4ba2686df7a8a8d69e767ac66e71c3c8ee61f3a40a3bb5d05c98ef0d", func := "tumble/tumblelaw01.NumRow", spec := "numRow", inPlace := ["math.Float64frombits", "math.Float64bits"], apart := false, narrowed := true }
def NumRowUptoSaid : Prop := numRowUptoRow.holds Try.pinned (OpenSpec.upto numRowSpec)

/-- 'tumblelaw01.NumTwo', WHERE WHAT IT READS IS OF BULK AT MOST 1048576: true; the input reads as it did. -/
def numTwoUptoRow : OpenClaim := { program := "ytoboojdfaccphaa", sum := "c28622fb4ba2686df7a8a8d69e767ac66e71c3c8ee61f3a40a3bb5d05c98ef0d", func := "tumble/tumblelaw01.NumTwo", spec := "numTwo", inPlace := ["math.Float64frombits", "math.Float64bits"], apart := false, narrowed := true }
def NumTwoUptoSaid : Prop := numTwoUptoRow.holds Try.pinned (OpenSpec.upto numTwoSpec)

/-- 'tumblelaw01.NumHeld', WHERE WHAT IT READS IS OF BULK AT MOST 1048576: true; the input reads as it did. -/
def numHeldUptoRow : OpenClaim := { program := "ytoboojdfaccphaa", sum := "c28622fb4ba2686df7a8a8d69e767ac66e71c3c8ee61f3a40a3bb5d05c98ef0d", func := "tumble/tumblelaw01.NumHeld", spec := "numHeld", inPlace := ["math.Float64frombits", "math.Float64bits"], apart := false, narrowed := true }
def NumHeldUptoSaid : Prop := numHeldUptoRow.holds Try.pinned (OpenSpec.upto numHeldSpec)

/-- 'tumblelaw01.NumNames', WHERE WHAT IT READS IS OF BULK AT MOST 1048576: true; the input reads as it did. -/
def numNamesUptoRow : OpenClaim := { program := "ytoboojdfaccphaa", sum := "c28622fb4ba2686df7a8a8d69e767ac66e71c3c8ee61f3a40a3bb5d05c98ef0d", func := "tumble/tumblelaw01.NumNames", spec := "numNames", inPlace := ["math.Float64bits", "math.Float64frombits"], apart := false, narrowed := true }
def NumNamesUptoSaid : Prop := numNamesUptoRow.holds Try.pinned (OpenSpec.upto numNamesSpec)

end Rows
end Go.Proofs.Ytoboojdfaccphaa
