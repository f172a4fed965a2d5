/-
  No cell of these rows narrows 'for every input' (looked for: loops, veiled, ifaces, maps, wideKeys, modest, calm, conditions, laid).
  DERIVED. THE GIVEN ROWS OF THIS SEAT. 6 by the template 'for every input the law returns true; each argument reads behind the call as it read before'; 0 by the template 'total and deterministic' (their statements: YtbnfcjckbgpkeaaTotals.lean).
  GIVEN WITH THE SEED: the statements are not yours to turn. If you find one false, say at which input.
  Laid BY PROGRAM, IN A SANDBOX (cutbox-rows.mjs): the forced cells as the released guide's own fill.sh prints them over the translation 86da08fecdf69773… (all of the seat's roots in one cut). By AI agents, Wed Nov 11 2026. No macro, syntax, notation, axiom, sorry.
-/
import Derived.Test.YtbnfcjckbgpkeaaChecked
import GoSem.Claim
import GoSem.ClaimJoined
import GoSem.ClaimMapViews
import Derived.JoinedTies
import Derived.KernelRfl
namespace Go.Proofs.Ytbnfcjckbgpkeaa
/- THE CELL 'sum', in the pinned program and in every row, IS THE sha256 OF THE DUMP (.gsa) THAT YtbnfcjckbgpkeaaProg.lean LOADS. Nothing in Lean hashes anything: it is a label: what it is worth is what the hold of that sum in a sandbox is worth. -/
noncomputable def Try.pinned : Pinned := { name := "ytbnfcjckbgpkeaa", sum := "86da08fecdf69773616595bd1919fce651d0ddfaac2a61433c6c76500710c7ce", checked := Try.checked }
namespace Rows
def none {H : Type} : Left H := { results := [], args := [] }

/-- 'tumblelaw13.SweepWith': WHATEVER THE INPUT: true; the input reads as it did. -/
def sweepWithSpec : ChangeSpec := { name := "sweepWith", fn := fun _ => fun
  | [d1, d2] => { results := [.lit (.bool true)], args := [d1, d2] }
  | _ => none }
def sweepWithRow : OpenClaim := { program := "ytbnfcjckbgpkeaa", sum := "86da08fecdf69773616595bd1919fce651d0ddfaac2a61433c6c76500710c7ce", func := "tumble/tumblelaw13.SweepWith", spec := "sweepWith", inPlace := ["math.Float64bits"], unfollowed := true, recurses := true, apart := false }
def SweepWithSaid : Prop := sweepWithRow.holds Try.pinned (OpenSpec.ofChange sweepWithSpec)

/-- ITS FALSE NEIGHBOUR: 'it returns false'. Refute it at one input. -/
def sweepWithWrong : ChangeSpec := { name := "sweepWith", fn := fun _ => fun
  | [d1, d2] => { results := [.lit (.bool false)], args := [d1, d2] }
  | _ => none }
def SweepWithWrongFalsely : Prop := sweepWithRow.holds Try.pinned (OpenSpec.ofChange sweepWithWrong)

/-- 'tumblelaw13.SweepBetween': WHATEVER THE INPUT: true; the input reads as it did. -/
def sweepBetweenSpec : ChangeSpec := { name := "sweepBetween", fn := fun _ => fun
  | [d1, d2] => { results := [.lit (.bool true)], args := [d1, d2] }
  | _ => none }
def sweepBetweenRow : OpenClaim := { program := "ytbnfcjckbgpkeaa", sum := "86da08fecdf69773616595bd1919fce651d0ddfaac2a61433c6c76500710c7ce", func := "tumble/tumblelaw13.SweepBetween", spec := "sweepBetween", inPlace := ["math.Float64bits"], unfollowed := true, recurses := true, apart := false }
def SweepBetweenSaid : Prop := sweepBetweenRow.holds Try.pinned (OpenSpec.ofChange sweepBetweenSpec)

/-- ITS FALSE NEIGHBOUR: 'it returns false'. Refute it at one input. -/
def sweepBetweenWrong : ChangeSpec := { name := "sweepBetween", fn := fun _ => fun
  | [d1, d2] => { results := [.lit (.bool false)], args := [d1, d2] }
  | _ => none }
def SweepBetweenWrongFalsely : Prop := sweepBetweenRow.holds Try.pinned (OpenSpec.ofChange sweepBetweenWrong)

/-- 'tumblelaw13.SweepPairs': WHATEVER THE INPUT: true; the input reads as it did. -/
def sweepPairsSpec : ChangeSpec := { name := "sweepPairs", fn := fun _ => fun
  | [d] => { results := [.lit (.bool true)], args := [d] }
  | _ => none }
def sweepPairsRow : OpenClaim := { program := "ytbnfcjckbgpkeaa", sum := "86da08fecdf69773616595bd1919fce651d0ddfaac2a61433c6c76500710c7ce", func := "tumble/tumblelaw13.SweepPairs", spec := "sweepPairs", inPlace := ["math.Float64bits"], unfollowed := true, recurses := true, apart := false }
def SweepPairsSaid : Prop := sweepPairsRow.holds Try.pinned (OpenSpec.ofChange sweepPairsSpec)

/-- ITS FALSE NEIGHBOUR: 'it returns false'. Refute it at one input. -/
def sweepPairsWrong : ChangeSpec := { name := "sweepPairs", fn := fun _ => fun
  | [d] => { results := [.lit (.bool false)], args := [d] }
  | _ => none }
def SweepPairsWrongFalsely : Prop := sweepPairsRow.holds Try.pinned (OpenSpec.ofChange sweepPairsWrong)

/-- 'tumblelaw13.SweepNames': WHATEVER THE INPUT: true; the input reads as it did. -/
def sweepNamesSpec : ChangeSpec := { name := "sweepNames", fn := fun _ => fun
  | [] => { results := [.lit (.bool true)], args := [] }
  | _ => none }
def sweepNamesRow : OpenClaim := { program := "ytbnfcjckbgpkeaa", sum := "86da08fecdf69773616595bd1919fce651d0ddfaac2a61433c6c76500710c7ce", func := "tumble/tumblelaw13.SweepNames", spec := "sweepNames", inPlace := ["math.Float64frombits"], unfollowed := true, recurses := true, apart := false }
def SweepNamesSaid : Prop := sweepNamesRow.holds Try.pinned (OpenSpec.ofChange sweepNamesSpec)

/-- ITS FALSE NEIGHBOUR: 'it returns false'. Refute it at one input. -/
def sweepNamesWrong : ChangeSpec := { name := "sweepNames", fn := fun _ => fun
  | [] => { results := [.lit (.bool false)], args := [] }
  | _ => none }
def SweepNamesWrongFalsely : Prop := sweepNamesRow.holds Try.pinned (OpenSpec.ofChange sweepNamesWrong)

/-- 'tumblelaw13.SweepAll': WHATEVER THE INPUT: true; the input reads as it did. -/
def sweepAllSpec : ChangeSpec := { name := "sweepAll", fn := fun _ => fun
  | [d] => { results := [.lit (.bool true)], args := [d] }
  | _ => none }
def sweepAllRow : OpenClaim := { program := "ytbnfcjckbgpkeaa", sum := "86da08fecdf69773616595bd1919fce651d0ddfaac2a61433c6c76500710c7ce", func := "tumble/tumblelaw13.SweepAll", spec := "sweepAll", inPlace := ["math.Float64frombits"], unfollowed := true, recurses := true, apart := false }
def SweepAllSaid : Prop := sweepAllRow.holds Try.pinned (OpenSpec.ofChange sweepAllSpec)

/-- ITS FALSE NEIGHBOUR: 'it returns false'. Refute it at one input. -/
def sweepAllWrong : ChangeSpec := { name := "sweepAll", fn := fun _ => fun
  | [d] => { results := [.lit (.bool false)], args := [d] }
  | _ => none }
def SweepAllWrongFalsely : Prop := sweepAllRow.holds Try.pinned (OpenSpec.ofChange sweepAllWrong)

/-- 'tumblelaw13.SweepTurned': WHATEVER THE INPUT: true; the input reads as it did. -/
def sweepTurnedSpec : ChangeSpec := { name := "sweepTurned", fn := fun _ => fun
  | [d] => { results := [.lit (.bool true)], args := [d] }
  | _ => none }
def sweepTurnedRow : OpenClaim := { program := "ytbnfcjckbgpkeaa", sum := "86da08fecdf69773616595bd1919fce651d0ddfaac2a61433c6c76500710c7ce", func := "tumble/tumblelaw13.SweepTurned", spec := "sweepTurned", inPlace := ["math.Float64frombits"], unfollowed := true, recurses := true, apart := false }
def SweepTurnedSaid : Prop := sweepTurnedRow.holds Try.pinned (OpenSpec.ofChange sweepTurnedSpec)

/-- ITS FALSE NEIGHBOUR: 'it returns false'. Refute it at one input. -/
def sweepTurnedWrong : ChangeSpec := { name := "sweepTurned", fn := fun _ => fun
  | [d] => { results := [.lit (.bool false)], args := [d] }
  | _ => none }
def SweepTurnedWrongFalsely : Prop := sweepTurnedRow.holds Try.pinned (OpenSpec.ofChange sweepTurnedWrong)

/- THE SECOND FORM. 'bulk': how many values and letters a reading holds, each counted each time it is reached (what is shared counts as often as it is met; a slice's spare places count too). A statement '..UptoSaid' is the law's where the arguments, and the package variables that the reading takes, are together of bulk at most 1048576: NARROWER than '..Said'. Prove '..Said' where nothing that the law and all that it calls make is longer than what came in: it says more and counts as full. Else prove '..UptoSaid'. A law counts once. -/
mutual
def uptoBulk {H : Type} : DataW H → Nat
  | .lit (.string bytes) => bytes.length + 1
  | .lit _ => 1
  | .nil => 1
  | .ptr d => uptoBulk d + 1
  | .slice elems spare => uptoBulkAll elems + uptoBulkAll spare + 1
  | .agg parts => uptoBulkAll parts + 1
  | .iface _ d => uptoBulk d + 1
  | .map entries => uptoBulkEntries entries + 1
  | .held _ => 1
def uptoBulkAll {H : Type} : List (DataW H) → Nat
  | [] => 0
  | d :: r => uptoBulk d + uptoBulkAll r
def uptoBulkEntries {H : Type} : List (Lit × DataW H) → Nat
  | [] => 0
  | x :: r => uptoBulkEntry x + uptoBulkEntries r
def uptoBulkEntry {H : Type} : Lit × DataW H → Nat
  | (.string bytes, d) => bytes.length + uptoBulk d + 1
  | (_, d) => uptoBulk d + 1
 end
def uptoSmall : (H : Type) → List (DataW H) → Bool := fun _ ds => decide (uptoBulkAll ds ≤ 1048576)
def OpenSpec.upto (s : _root_.Go.ChangeSpec) : _root_.Go.OpenSpec := { _root_.Go.OpenSpec.ofChange s with cond := some uptoSmall }

/-- 'tumblelaw13.SweepWith', WHERE WHAT IT READS IS OF BULK AT MOST 1048576: true; the input reads as it did. -/
def sweepWithUptoRow : OpenClaim := { program := "ytbnfcjckbgpkeaa", sum := "86da08fecdf69773616595bd1919fce651d0ddfaac2a61433c6c76500710c7ce", func := "tumble/tumblelaw13.SweepWith", spec := "sweepWith", inPlace := ["math.Float64bits"], unfollowed := true, recurses := true, apart := false, narrowed := true }
def SweepWithUptoSaid : Prop := sweepWithUptoRow.holds Try.pinned (OpenSpec.upto sweepWithSpec)

/-- 'tumblelaw13.SweepBetween', WHERE WHAT IT READS IS OF BULK AT MOST 1048576: true; the input reads as it did. -/
def sweepBetweenUptoRow : OpenClaim := { program := "ytbnfcjckbgpkeaa", sum := "86da08fecdf69773616595bd1919fce651d0ddfaac2a61433c6c76500710c7ce", func := "tumble/tumblelaw13.SweepBetween", spec := "sweepBetween", inPlace := ["math.Float64bits"], unfollowed := true, recurses := true, apart := false, narrowed := true }
def SweepBetweenUptoSaid : Prop := sweepBetweenUptoRow.holds Try.pinned (OpenSpec.upto sweepBetweenSpec)

/-- 'tumblelaw13.SweepPairs', WHERE WHAT IT READS IS OF BULK AT MOST 1048576: true; the input reads as it did. -/
def sweepPairsUptoRow : OpenClaim := { program := "ytbnfcjckbgpkeaa", sum := "86da08fecdf69773616595bd1919fce651d0ddfaac2a61433c6c76500710c7ce", func := "tumble/tumblelaw13.SweepPairs", spec := "sweepPairs", inPlace := ["math.Float64bits"], unfollowed := true, recurses := true, apart := false, narrowed := true }
def SweepPairsUptoSaid : Prop := sweepPairsUptoRow.holds Try.pinned (OpenSpec.upto sweepPairsSpec)

/-- 'tumblelaw13.SweepNames', WHERE WHAT IT READS IS OF BULK AT MOST 1048576: true; the input reads as it did. -/
def sweepNamesUptoRow : OpenClaim := { program := "ytbnfcjckbgpkeaa", sum := "86da08fecdf69773616595bd1919fce651d0ddfaac2a61433c6c76500710c7ce", func := "tumble/tumblelaw13.SweepNames", spec := "sweepNames", inPlace := ["math.Float64frombits"], unfollowed := true, recurses := true, apart := false, narrowed := true }
def SweepNamesUptoSaid : Prop := sweepNamesUptoRow.holds Try.pinned (OpenSpec.upto sweepNamesSpec)

/-- 'tumblelaw13.SweepAll', WHERE WHAT IT READS IS OF BULK AT MOST 1048576: true; the input reads as it did. -/
def sweepAllUptoRow : OpenClaim := { program := "ytbnfcjckbgpkeaa", sum := "86da08fecdf69773616595bd1919fce651d0ddfaac2a61433c6c76500710c7ce", func := "tumble/tumblelaw13.SweepAll", spec := "sweepAll", inPlace := ["math.Float64frombits"], unfollowed := true, recurses := true, apart := false, narrowed := true }
def SweepAllUptoSaid : Prop := sweepAllUptoRow.holds Try.pinned (OpenSpec.upto sweepAllSpec)

/-- 'tumblelaw13.SweepTurned', WHERE WHAT IT READS IS OF BULK AT MOST 1048576: true; the input reads as it did. -/
def sweepTurnedUptoRow : OpenClaim := { program := "ytbnfcjckbgpkeaa", sum := "86da08fecdf69773616595bd1919fce651d0ddfaac2a61433c6c76500710c7ce", func := "tumble/tumblelaw13.SweepTurned", spec := "sweepTurned", inPlace := ["math.Float64frombits"], unfollowed := true, recurses := true, apart := false, narrowed := true }
def SweepTurnedUptoSaid : Prop := sweepTurnedUptoRow.holds Try.pinned (OpenSpec.upto sweepTurnedSpec)

end Rows
end Go.Proofs.Ytbnfcjckbgpkeaa
