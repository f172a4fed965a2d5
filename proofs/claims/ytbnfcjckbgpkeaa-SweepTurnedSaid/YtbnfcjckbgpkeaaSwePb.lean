/-
  The walk of the law; for lists of at most 4398046511103 boxes.
-/
import Derived.Test.YtbnfcjckbgpkeaaSwePa
set_option linter.unusedSimpArgs false
set_option linter.unusedVariables false
open Go Go.Proofs
namespace Go.Ev.Sweep
set_option maxRecDepth 100000
set_option maxHeartbeats 1000000
open Go.Ev.So
noncomputable def g21c : List MV → Option (List Prop × MV × List Blk × Bool)
  | [.ro 4 n get] => some ([isBx n get, n ≤ room], .tup [.os 0 2 0 (pNr (cl n (bOf get)) n), .i .i64 (pEr (cl n (bOf get)) n)], [.rows 2 (pNr (cl n (bOf get)) n) (rowI2 (pG (cl n (bOf get)) n))], false)
  | _ => none
theorem s21c : SumsOK Try.prog (sumOf 21 g21c S20c) := by
  refine SumsOK.add S20c_ok fun ms ps m blks al e hp => ?_
  unfold g21c at e
  split at e
  · cases e
    exact (le_arg1 (t21 _ (cl _ (bOf _)) (hp _ (.tail _ (.head _)))) (leR_cl (hp _ (.head _)))).aloneR rfl (fun i hi j hj => flat_P hj)
  · cases e
noncomputable def S21c := sumOf 21 g21c S20c
theorem S21c_ok : SumsOK Try.prog S21c := s21c
end Go.Ev.Sweep
