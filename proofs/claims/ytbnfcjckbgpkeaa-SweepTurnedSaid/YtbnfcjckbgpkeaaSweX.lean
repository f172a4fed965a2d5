/-
  The walk of the law; for lists of at most 4398046511103 boxes.
-/
import Derived.Test.YtbnfcjckbgpkeaaSweW
set_option linter.unusedSimpArgs false
set_option linter.unusedVariables false
open Go Go.Proofs
namespace Go.Ev.Sweep
set_option maxRecDepth 100000
set_option maxHeartbeats 1000000
open Go.Ev.So
theorem prO_gP (l : List Pr) : prO (rowI2 (gP l)) = gP l := rfl
noncomputable def g17c : List MV → Option (List Prop × MV × List Blk × Bool)
  | [.ro 4 n get, .ro 4 m get'] => some ([isBx n get, isBx m get', n ≤ room, m ≤ room], .tup [.os 0 2 0 (bN (cl n (bOf get)) (cl m (bOf get')) n m), .i .i64 (bE (cl n (bOf get)) (cl m (bOf get')) n m)], [.rows 2 (bN (cl n (bOf get)) (cl m (bOf get')) n m) (rowI2 (bG (cl n (bOf get)) (cl m (bOf get')) n m))], false)
  | _ => none
theorem s17c : SumsOK Try.prog (sumOf 17 g17c S18) := by
  refine SumsOK.add S18_ok fun ms ps m blks al e hp => ?_
  unfold g17c at e
  split at e
  · cases e
    exact ((t17 _ (cl _ (bOf _)) _ (cl _ (bOf _)) (hp _ (.tail _ (.tail _ (.head _)))) (hp _ (.tail _ (.tail _ (.tail _ (.head _)))))).aloneR rfl (fun i hi j hj => flat_P hj)).le2 (leR_cl (hp _ (.head _))) (leR_cl (hp _ (.tail _ (.head _))))
  · cases e
noncomputable def S17c := sumOf 17 g17c S18
theorem S17c_ok : SumsOK Try.prog S17c := s17c
noncomputable def g16c : List MV → Option (List Prop × MV × List Blk × Bool)
  | [.ro 4 n get, .ro 4 m get'] => some ([isBx n get, isBx m get', n ≤ room, m ≤ room], .tup [.os 0 2 0 (rN (cl n (bOf get)) (cl m (bOf get')) n m), .i .i64 (rE (cl n (bOf get)) (cl m (bOf get')) n m)], [.rows 2 (rN (cl n (bOf get)) (cl m (bOf get')) n m) (rowI2 (gP (rB (cl n (bOf get)) (cl m (bOf get')) m n)))], false)
  | _ => none
theorem s16c : SumsOK Try.prog (sumOf 16 g16c S17c) := by
  refine SumsOK.add S17c_ok fun ms ps m blks al e hp => ?_
  unfold g16c at e
  split at e
  · cases e
    exact ((t16 _ (cl _ (bOf _)) _ (cl _ (bOf _)) (hp _ (.tail _ (.tail _ (.head _)))) (hp _ (.tail _ (.tail _ (.tail _ (.head _)))))).aloneR rfl (fun i hi j hj => flat_P hj)).le2 (leR_cl (hp _ (.head _))) (leR_cl (hp _ (.tail _ (.head _))))
  · cases e
noncomputable def S16c := sumOf 16 g16c S17c
theorem S16c_ok : SumsOK Try.prog S16c := s16c
end Go.Ev.Sweep
