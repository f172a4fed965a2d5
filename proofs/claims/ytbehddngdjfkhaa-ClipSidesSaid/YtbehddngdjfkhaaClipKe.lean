/-
  The contract of Both, the document's; for lists below 2^62 points.
-/
import Derived.Test.YtbehddngdjfkhaaClipKd
set_option linter.unusedSimpArgs false
set_option linter.unusedVariables false
open Go Go.Proofs
namespace Go.Ev.Clip
set_option maxRecDepth 100000
set_option maxHeartbeats 1000000
noncomputable def g18 : List MV → Option (List Prop × MV × List Blk × Bool)
  | [.ro 2 n get, .ro 2 m get'] => some ([isPts n get, isPts m get', n < big, m < big], .tup [.os 0 2 0 (boV n (pOf get) m (pOf get')).length, .i .i64 (twoV n (pOf get) m (pOf get'))], [.rows 2 (boV n (pOf get) m (pOf get')).length fun k => ptM ((boV n (pOf get) m (pOf get')).getD k z2)], false)
  | _ => none
theorem s18 : SumsOK Try.prog (sumOf 18 g18 S17) := by
  refine SumsOK.add S17_ok fun ms ps m blks al e hp => ?_
  unfold g18 at e
  split at e
  · cases e
    exact (((t18 _ (pOf _) _ (pOf _) (hp _ (.tail _ (.tail _ (.head _)))) (hp _ (.tail _ (.tail _ (.tail _ (.head _)))))).le2 (leR_pts (hp _ (.head _))) (leR_pts (hp _ (.tail _ (.head _))))).aloneR rfl fun _ _ _ hj => flat2 hj)
  · cases e
noncomputable def S18 := sumOf 18 g18 S17
theorem S18_ok : SumsOK Try.prog S18 := s18
theorem two_0 {n m : Nat} {p q : Nat → Nat × Nat} (h : (twoV n p m q != 0) = false) : (checkV n p != 0) = false ∧ (checkV m q != 0) = false := by
  cases e : (checkV n p != 0)
  · rw [two_2 e] at h; exact ⟨rfl, h⟩
  · rw [two_1 e, e] at h; cases h
end Go.Ev.Clip
