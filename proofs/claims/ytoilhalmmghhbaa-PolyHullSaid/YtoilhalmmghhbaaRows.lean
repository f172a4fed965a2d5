/-
  No cell of these rows narrows 'for every input' (looked for: loops, veiled, ifaces, maps, wideKeys, modest, calm, conditions, laid).
  DERIVED. THE GIVEN ROWS OF THIS SEAT. 6 by the template 'for every input the law returns true; each argument reads behind the call as it read before'; 0 by the template 'total and deterministic' (their statements: YtoilhalmmghhbaaTotals.lean).
  GIVEN WITH THE SEED: the statements are not yours to turn. If you find one false, say at which input.
  Laid BY PROGRAM, IN A SANDBOX (cutbox-rows.mjs): the forced cells as the released guide's own fill.sh prints them over the translation 99a44f45d308c8dc… (all of the seat's roots in one cut). By AI agents, Wed Nov 11 2026. No macro, syntax, notation, axiom, sorry.
-/
import Derived.Test.YtoilhalmmghhbaaChecked
import GoSem.Claim
import GoSem.ClaimJoined
import GoSem.ClaimMapViews
import Derived.JoinedTies
import Derived.KernelRfl
namespace Go.Proofs.Ytoilhalmmghhbaa
/- THE CELL 'sum', in the pinned program and in every row, IS THE sha256 OF THE DUMP (.gsa) THAT YtoilhalmmghhbaaProg.lean LOADS. Nothing in Lean hashes anything: it is a label: what it is worth is what the hold of that sum in a sandbox is worth. -/
noncomputable def Try.pinned : Pinned := { name := "ytoilhalmmghhbaa", sum := "99a44f45d308c8dcf6a49f7a2d36a19af949857796b239100d05a847b9465349", checked := Try.checked }
namespace Rows
def none {H : Type} : Left H := { results := [], args := [] }

/-- 'tumblelaw06.PolyHull': WHATEVER THE INPUT: true; the input reads as it did. -/
def polyHullSpec : ChangeSpec := { name := "polyHull", fn := fun _ => fun
  | [d] => { results := [.lit (.bool true)], args := [d] }
  | _ => none }
def polyHullRow : OpenClaim := { program := "ytoilhalmmghhbaa", sum := "99a44f45d308c8dcf6a49f7a2d36a19af949857796b239100d05a847b9465349", func := "tumble/tumblelaw06.PolyHull", spec := "polyHull", inPlace := ["math.sqrt", "math.Float64bits", "math.Float64frombits"], unfollowed := true, recurses := true, apart := false }
def PolyHullSaid : Prop := polyHullRow.holds Try.pinned (OpenSpec.ofChange polyHullSpec)

/-- ITS FALSE NEIGHBOUR: 'it returns false'. Refute it at one input. -/
def polyHullWrong : ChangeSpec := { name := "polyHull", fn := fun _ => fun
  | [d] => { results := [.lit (.bool false)], args := [d] }
  | _ => none }
def PolyHullWrongFalsely : Prop := polyHullRow.holds Try.pinned (OpenSpec.ofChange polyHullWrong)

/-- 'tumblelaw06.PolyApart': WHATEVER THE INPUT: true; the input reads as it did. -/
def polyApartSpec : ChangeSpec := { name := "polyApart", fn := fun _ => fun
  | [d1, d2] => { results := [.lit (.bool true)], args := [d1, d2] }
  | _ => none }
def polyApartRow : OpenClaim := { program := "ytoilhalmmghhbaa", sum := "99a44f45d308c8dcf6a49f7a2d36a19af949857796b239100d05a847b9465349", func := "tumble/tumblelaw06.PolyApart", spec := "polyApart", inPlace := ["math.sqrt", "math.Float64bits", "math.Float64frombits"], unfollowed := true, recurses := true, apart := false }
def PolyApartSaid : Prop := polyApartRow.holds Try.pinned (OpenSpec.ofChange polyApartSpec)

/-- ITS FALSE NEIGHBOUR: 'it returns false'. Refute it at one input. -/
def polyApartWrong : ChangeSpec := { name := "polyApart", fn := fun _ => fun
  | [d1, d2] => { results := [.lit (.bool false)], args := [d1, d2] }
  | _ => none }
def PolyApartWrongFalsely : Prop := polyApartRow.holds Try.pinned (OpenSpec.ofChange polyApartWrong)

/-- 'tumblelaw06.PolyRound': WHATEVER THE INPUT: true; the input reads as it did. -/
def polyRoundSpec : ChangeSpec := { name := "polyRound", fn := fun _ => fun
  | [d1, d2] => { results := [.lit (.bool true)], args := [d1, d2] }
  | _ => none }
def polyRoundRow : OpenClaim := { program := "ytoilhalmmghhbaa", sum := "99a44f45d308c8dcf6a49f7a2d36a19af949857796b239100d05a847b9465349", func := "tumble/tumblelaw06.PolyRound", spec := "polyRound", inPlace := ["math.sqrt", "math.Float64bits", "math.Float64frombits"], unfollowed := true, recurses := true, apart := false }
def PolyRoundSaid : Prop := polyRoundRow.holds Try.pinned (OpenSpec.ofChange polyRoundSpec)

/-- ITS FALSE NEIGHBOUR: 'it returns false'. Refute it at one input. -/
def polyRoundWrong : ChangeSpec := { name := "polyRound", fn := fun _ => fun
  | [d1, d2] => { results := [.lit (.bool false)], args := [d1, d2] }
  | _ => none }
def PolyRoundWrongFalsely : Prop := polyRoundRow.holds Try.pinned (OpenSpec.ofChange polyRoundWrong)

/-- 'tumblelaw06.PolyRectangle': WHATEVER THE INPUT: true; the input reads as it did. -/
def polyRectangleSpec : ChangeSpec := { name := "polyRectangle", fn := fun _ => fun
  | [d1, d2] => { results := [.lit (.bool true)], args := [d1, d2] }
  | _ => none }
def polyRectangleRow : OpenClaim := { program := "ytoilhalmmghhbaa", sum := "99a44f45d308c8dcf6a49f7a2d36a19af949857796b239100d05a847b9465349", func := "tumble/tumblelaw06.PolyRectangle", spec := "polyRectangle", inPlace := ["math.sqrt", "math.Float64bits", "math.Float64frombits"], unfollowed := true, recurses := true, apart := false }
def PolyRectangleSaid : Prop := polyRectangleRow.holds Try.pinned (OpenSpec.ofChange polyRectangleSpec)

/-- ITS FALSE NEIGHBOUR: 'it returns false'. Refute it at one input. -/
def polyRectangleWrong : ChangeSpec := { name := "polyRectangle", fn := fun _ => fun
  | [d1, d2] => { results := [.lit (.bool false)], args := [d1, d2] }
  | _ => none }
def PolyRectangleWrongFalsely : Prop := polyRectangleRow.holds Try.pinned (OpenSpec.ofChange polyRectangleWrong)

/-- 'tumblelaw06.PolyOne': WHATEVER THE INPUT: true; the input reads as it did. -/
def polyOneSpec : ChangeSpec := { name := "polyOne", fn := fun _ => fun
  | [d1, d2, d3] => { results := [.lit (.bool true)], args := [d1, d2, d3] }
  | _ => none }
def polyOneRow : OpenClaim := { program := "ytoilhalmmghhbaa", sum := "99a44f45d308c8dcf6a49f7a2d36a19af949857796b239100d05a847b9465349", func := "tumble/tumblelaw06.PolyOne", spec := "polyOne", inPlace := ["math.sqrt", "math.Float64bits", "math.Float64frombits"], unfollowed := true, recurses := true, apart := false }
def PolyOneSaid : Prop := polyOneRow.holds Try.pinned (OpenSpec.ofChange polyOneSpec)

/-- ITS FALSE NEIGHBOUR: 'it returns false'. Refute it at one input. -/
def polyOneWrong : ChangeSpec := { name := "polyOne", fn := fun _ => fun
  | [d1, d2, d3] => { results := [.lit (.bool false)], args := [d1, d2, d3] }
  | _ => none }
def PolyOneWrongFalsely : Prop := polyOneRow.holds Try.pinned (OpenSpec.ofChange polyOneWrong)

/-- 'tumblelaw06.PolyScaled': WHATEVER THE INPUT: true; the input reads as it did. -/
def polyScaledSpec : ChangeSpec := { name := "polyScaled", fn := fun _ => fun
  | [d1, d2, d3] => { results := [.lit (.bool true)], args := [d1, d2, d3] }
  | _ => none }
def polyScaledRow : OpenClaim := { program := "ytoilhalmmghhbaa", sum := "99a44f45d308c8dcf6a49f7a2d36a19af949857796b239100d05a847b9465349", func := "tumble/tumblelaw06.PolyScaled", spec := "polyScaled", inPlace := ["math.sqrt", "math.Float64bits", "math.Float64frombits"], unfollowed := true, recurses := true, apart := false }
def PolyScaledSaid : Prop := polyScaledRow.holds Try.pinned (OpenSpec.ofChange polyScaledSpec)

/-- ITS FALSE NEIGHBOUR: 'it returns false'. Refute it at one input. -/
def polyScaledWrong : ChangeSpec := { name := "polyScaled", fn := fun _ => fun
  | [d1, d2, d3] => { results := [.lit (.bool false)], args := [d1, d2, d3] }
  | _ => none }
def PolyScaledWrongFalsely : Prop := polyScaledRow.holds Try.pinned (OpenSpec.ofChange polyScaledWrong)

/- THE SECOND FORM. 'bulk': how many values and letters a reading holds, each counted each time it is reached (what is shared counts as often as it is met; a slice's spare places count too). A statement '..UptoSaid' is the law's where the arguments, and the package variables that the reading takes, are together of bulk at most 1048576: NARROWER than '..Said'. Prove '..Said' where nothing that the law and all that it calls make is longer than what came in: it says more and counts as full. Else prove '..UptoSaid'. A law counts once. -/
mutual
def uptoBulk {H : Type} : DataW H → Nat
  | .lit (.string bytes) => bytes.length + 1
  | .lit _ => 1
  | .nil => 1
  | .ptr d => uptoBulk d + 1
  | .slice elems spare => uptoBulkAll elems + uptoBulkAll spare + 1
  | .agg parts => uptoBulkAll parts + 1
  | .iface _ d => uptoBulk d + 1
  | .map entries => uptoBulkEntries entries + 1
  | .held _ => 1
def uptoBulkAll {H : Type} : List (DataW H) → Nat
  | [] => 0
  | d :: r => uptoBulk d + uptoBulkAll r
def uptoBulkEntries {H : Type} : List (Lit × DataW H) → Nat
  | [] => 0
  | x :: r => uptoBulkEntry x + uptoBulkEntries r
def uptoBulkEntry {H : Type} : Lit × DataW H → Nat
  | (.string bytes, d) => bytes.length + uptoBulk d + 1
  | (_, d) => uptoBulk d + 1
 end
def uptoSmall : (H : Type) → List (DataW H) → Bool := fun _ ds => decide (uptoBulkAll ds ≤ 1048576)
def OpenSpec.upto (s : _root_.Go.ChangeSpec) : _root_.Go.OpenSpec := { _root_.Go.OpenSpec.ofChange s with cond := some uptoSmall }

/-- 'tumblelaw06.PolyHull', WHERE WHAT IT READS IS OF BULK AT MOST 1048576: true; the input reads as it did. -/
def polyHullUptoRow : OpenClaim := { program := "ytoilhalmmghhbaa", sum := "99a44f45d308c8dcf6a49f7a2d36a19af949857796b239100d05a847b9465349", func := "tumble/tumblelaw06.PolyHull", spec := "polyHull", inPlace := ["math.sqrt", "math.Float64bits", "math.Float64frombits"], unfollowed := true, recurses := true, apart := false, narrowed := true }
def PolyHullUptoSaid : Prop := polyHullUptoRow.holds Try.pinned (OpenSpec.upto polyHullSpec)

/-- 'tumblelaw06.PolyApart', WHERE WHAT IT READS IS OF BULK AT MOST 1048576: true; the input reads as it did. -/
def polyApartUptoRow : OpenClaim := { program := "ytoilhalmmghhbaa", sum := "99a44f45d308c8dcf6a49f7a2d36a19af949857796b239100d05a847b9465349", func := "tumble/tumblelaw06.PolyApart", spec := "polyApart", inPlace := ["math.sqrt", "math.Float64bits", "math.Float64frombits"], unfollowed := true, recurses := true, apart := false, narrowed := true }
def PolyApartUptoSaid : Prop := polyApartUptoRow.holds Try.pinned (OpenSpec.upto polyApartSpec)

/-- 'tumblelaw06.PolyRound', WHERE WHAT IT READS IS OF BULK AT MOST 1048576: true; the input reads as it did. -/
def polyRoundUptoRow : OpenClaim := { program := "ytoilhalmmghhbaa", sum := "99a44f45d308c8dcf6a49f7a2d36a19af949857796b239100d05a847b9465349", func := "tumble/tumblelaw06.PolyRound", spec := "polyRound", inPlace := ["math.sqrt", "math.Float64bits", "math.Float64frombits"], unfollowed := true, recurses := true, apart := false, narrowed := true }
def PolyRoundUptoSaid : Prop := polyRoundUptoRow.holds Try.pinned (OpenSpec.upto polyRoundSpec)

/-- 'tumblelaw06.PolyRectangle', WHERE WHAT IT READS IS OF BULK AT MOST 1048576: true; the input reads as it did. -/
def polyRectangleUptoRow : OpenClaim := { program := "ytoilhalmmghhbaa", sum := "99a44f45d308c8dcf6a49f7a2d36a19af949857796b239100d05a847b9465349", func := "tumble/tumblelaw06.PolyRectangle", spec := "polyRectangle", inPlace := ["math.sqrt", "math.Float64bits", "math.Float64frombits"], unfollowed := true, recurses := true, apart := false, narrowed := true }
def PolyRectangleUptoSaid : Prop := polyRectangleUptoRow.holds Try.pinned (OpenSpec.upto polyRectangleSpec)

/-- 'tumblelaw06.PolyOne', WHERE WHAT IT READS IS OF BULK AT MOST 1048576: true; the input reads as it did. -/
def polyOneUptoRow : OpenClaim := { program := "ytoilhalmmghhbaa", sum := "99a44f45d308c8dcf6a49f7a2d36a19af949857796b239100d05a847b9465349", func := "tumble/tumblelaw06.PolyOne", spec := "polyOne", inPlace := ["math.sqrt", "math.Float64bits", "math.Float64frombits"], unfollowed := true, recurses := true, apart := false, narrowed := true }
def PolyOneUptoSaid : Prop := polyOneUptoRow.holds Try.pinned (OpenSpec.upto polyOneSpec)

/-- 'tumblelaw06.PolyScaled', WHERE WHAT IT READS IS OF BULK AT MOST 1048576: true; the input reads as it did. -/
def polyScaledUptoRow : OpenClaim := { program := "ytoilhalmmghhbaa", sum := "99a44f45d308c8dcf6a49f7a2d36a19af949857796b239100d05a847b9465349", func := "tumble/tumblelaw06.PolyScaled", spec := "polyScaled", inPlace := ["math.sqrt", "math.Float64bits", "math.Float64frombits"], unfollowed := true, recurses := true, apart := false, narrowed := true }
def PolyScaledUptoSaid : Prop := polyScaledUptoRow.holds Try.pinned (OpenSpec.upto polyScaledSpec)

end Rows
end Go.Proofs.Ytoilhalmmghhbaa
