/-
  The contracts of both Orders, told below the length alone; for lists of at most 4398046511103 boxes.
-/
import Derived.Test.YtbnfcjckbgpkeaaSweM
import Derived.Test.YtbnfcjckbgpkeaaSweL
set_option linter.unusedSimpArgs false
set_option linter.unusedVariables false
open Go Go.Proofs
namespace Go.Ev.Sweep
set_option maxRecDepth 100000
set_option maxHeartbeats 1000000
open Go.Ev.So
def cl (nn : Nat) (p : Nat → Bx) (i : Nat) : Bx := bif Nat.blt i nn then p i else (0, 0, 0, 0)
theorem cl_lo {nn i : Nat} {p : Nat → Bx} (h : i < nn) : cl nn p i = p i := by unfold cl; rw [show Nat.blt i nn = true by simpa using h]; rfl
theorem leR_cl {n : Nat} {get : Nat → List MV} (h : isBx n get) : leR (.ro 4 n get) (.ro 4 n fun i => bM (cl n (bOf get) i)) := ⟨rfl, rfl, fun i hi j hj => by dsimp only; rw [cl_lo hi]; exact h i hi j hj⟩
noncomputable def g10c : List MV → Option (List Prop × MV × List Blk × Bool)
  | [.ro 4 nn get, .agg [.f .f64 b1, .f .f64 b2, .f .f64 b3, .f .f64 b4]] => some ([isBx nn get, nn ≤ room], (.tup [.os 0 1 0 (cutL nn (fL (wR (cl nn (bOf get)) (b1, b2, b3, b4)) nn)).length, .i .i64 (eN nn)]), [.rows 1 (cutL nn (fL (wR (cl nn (bOf get)) (b1, b2, b3, b4)) nn)).length (lR (cutL nn (fL (wR (cl nn (bOf get)) (b1, b2, b3, b4)) nn)))], false)
  | _ => none
theorem s10c : SumsOK Try.prog (sumOf 10 g10c S15) := by
  refine SumsOK.add S15_ok fun ms ps m blks al e hp => ?_
  unfold g10c at e
  split at e
  · cases e
    rename_i nn get b1 b2 b3 b4
    exact (le_arg1 (t10 nn (cl nn (bOf get)) (b1, b2, b3, b4) (hp _ (.tail _ (.head _)))) (leR_cl (hp _ (.head _)))).aloneR rfl (fun i hi j hj => flat_I hj)
  · cases e
noncomputable def S10c := sumOf 10 g10c S15
theorem S10c_ok : SumsOK Try.prog S10c := s10c
noncomputable def g11c : List MV → Option (List Prop × MV × List Blk × Bool)
  | [.ro 4 nn get, .agg [.f .f64 b1, .f .f64 b2, .f .f64 b3, .f .f64 b4]] => some ([isBx nn get, nn ≤ room], (.tup [.os 0 1 0 (cutL nn (fL (wP (cl nn (bOf get)) (b1, b2, b3, b4)) nn)).length, .i .i64 (eN nn)]), [.rows 1 (cutL nn (fL (wP (cl nn (bOf get)) (b1, b2, b3, b4)) nn)).length (lR (cutL nn (fL (wP (cl nn (bOf get)) (b1, b2, b3, b4)) nn)))], false)
  | _ => none
theorem s11c : SumsOK Try.prog (sumOf 11 g11c S10c) := by
  refine SumsOK.add S10c_ok fun ms ps m blks al e hp => ?_
  unfold g11c at e
  split at e
  · cases e
    rename_i nn get b1 b2 b3 b4
    exact (le_arg1 (t11 nn (cl nn (bOf get)) (b1, b2, b3, b4) (hp _ (.tail _ (.head _)))) (leR_cl (hp _ (.head _)))).aloneR rfl (fun i hi j hj => flat_I hj)
  · cases e
noncomputable def S11c := sumOf 11 g11c S10c
theorem S11c_ok : SumsOK Try.prog S11c := s11c
noncomputable def g13c : List MV → Option (List Prop × MV × List Blk × Bool)
  | [.ro 4 nn get] => some ([isBx nn get, nn ≤ room], .tup [.os 0 1 0 (cutL nn (fL (okB (cl nn (bOf get))) nn)).length, .i .i64 (eN nn)], [.rows 1 (cutL nn (fL (okB (cl nn (bOf get))) nn)).length (rowI (orV (cl nn (bOf get)) nn))], false)
  | _ => none
theorem s13c : SumsOK Try.prog (sumOf 13 g13c S11c) := by
  refine SumsOK.add S11c_ok fun ms ps m blks al e hp => ?_
  unfold g13c at e
  split at e
  · cases e
    exact (le_arg1 (t13 _ (cl _ (bOf _)) (hp _ (.tail _ (.head _)))) (leR_cl (hp _ (.head _)))).aloneR rfl (fun i hi j hj => flat_I hj)
  · cases e
noncomputable def S13c := sumOf 13 g13c S11c
theorem S13c_ok : SumsOK Try.prog S13c := s13c
noncomputable def g12c : List MV → Option (List Prop × MV × List Blk × Bool)
  | [.ro 4 nn get] => some ([isBx nn get, nn ≤ room], .tup [.os 0 1 0 (cutL nn (fL (okB (cl nn (bOf get))) nn)).length, .i .i64 (eN nn)], [.rows 1 (cutL nn (fL (okB (cl nn (bOf get))) nn)).length (rowI (refV (cl nn (bOf get)) nn))], false)
  | _ => none
theorem s12c : SumsOK Try.prog (sumOf 12 g12c S13c) := by
  refine SumsOK.add S13c_ok fun ms ps m blks al e hp => ?_
  unfold g12c at e
  split at e
  · cases e
    exact (le_arg1 (t12 _ (cl _ (bOf _)) (hp _ (.tail _ (.head _)))) (leR_cl (hp _ (.head _)))).aloneR rfl (fun i hi j hj => flat_I hj)
  · cases e
noncomputable def S12c := sumOf 12 g12c S13c
theorem S12c_ok : SumsOK Try.prog S12c := s12c
end Go.Ev.Sweep
