/-
  The walk of the law on the hull; for lists of at most 8796093022206 points.
-/
import Derived.Test.YtoilhalmmghhbaaHulP
import Derived.Test.YtoilhalmmghhbaaPolyY
import Derived.Test.YtoilhalmmghhbaaPolyW
import Derived.Test.YtoilhalmmghhbaaPolyC
set_option linter.unusedSimpArgs false
set_option linter.unusedVariables false
open Go Go.Proofs
namespace Go.Ev.Poly
set_option maxRecDepth 100000
set_option maxHeartbeats 1000000
theorem cm_lent (n : Nat) (p : Nat → Nat × Nat) : cm n (fun j => lentV n p (0 + j)) = cm n p := cl_lent n p
theorem cm_lent0 (n : Nat) (p : Nat → Nat × Nat) : cm n (lentV n p) = cm n p := cl_lent0 n p
theorem cl_hull (n : Nat) (p : Nat → Nat × Nat) : cl (hN n p) (gD (rB n p)) = cl (hN n p) (gD (hB n p)) := cl_ext fun i hi => hull_rows hi
theorem hN_room (n : Nat) (p : Nat → Nat × Nat) : hN n p ≤ room := Nat.le_trans (hN_64 n p) (by decide)
theorem hN_big (n : Nat) (p : Nat → Nat × Nat) : hN n p < big := Nat.lt_of_le_of_lt (hN_64 n p) (by decide)
noncomputable def g13H : List MV → Option (List Prop × MV × List Blk × Bool)
  | [.ro 2 n get, .ro 2 m get'] => some ([isPts n get, isPts m get', n < big, m < big], .b (sameL n (cl n (pOf get)) m (cl m (pOf get'))), [], false)
  | _ => none
theorem s13H : SumsOK Try.prog (sumOf 13 g13H S12) := by
  refine SumsOK.add S12_ok fun ms ps m blks al e hp => ?_
  unfold g13H at e
  split at e
  · cases e
    exact ((t13L _ (cl _ (pOf _)) _ (cl _ (pOf _)) (hp _ (.tail _ (.tail _ (.head _)))) (hp _ (.tail _ (.tail _ (.tail _ (.head _)))))).aloneT rfl).le2 (leR_cl (hp _ (.head _))) (leR_cl (hp _ (.tail _ (.head _))))
  · cases e
noncomputable def S13H := sumOf 13 g13H S12
theorem S13H_ok : SumsOK Try.prog S13H := s13H
noncomputable def g9H : List MV → Option (List Prop × MV × List Blk × Bool)
  | [] => some ([], .b true, [], false)
  | _ => none
theorem s9H : SumsOK Try.prog (sumOf 9 g9H S13H) := by
  refine SumsOK.add S13H_ok fun ms ps m blks al e hp => ?_
  unfold g9H at e
  split at e
  · cases e; exact C.t9.aloneT rfl
  · cases e
noncomputable def S9H := sumOf 9 g9H S13H
theorem S9H_ok : SumsOK Try.prog S9H := s9H
noncomputable def fi3 : FnI := ⟨56, Try.f3.body.getD .skip, [.tmp 2], true⟩
theorem fi3_ok : fnGen Try.prog 3 = some fi3 := by kernel_rfl
theorem t3 (n : Nat) (p : Nat → Nat × Nat) (c0 : n ≤ room) : CM Try.prog 3 [.ro 2 n (fun j => ptM (p j))] (.b true) [] true := by
  refine CM.of_genW (exts := exts) (eqs := eqs) (inl := [15]) (sum := S9H) extsOK eqsOK S9H_ok W14_ok fi3_ok 6 rfl fun cx => ?_
  have k0 : n ≤ 8796093022206 := c0
  have b0 := room_big c0
  repeat' ((fail_if_success (with_reducible refine Side.mk ?_)); first | ((fail_if_success (with_reducible refine Rest.mk ?_)); first | (with_reducible exact True.intro) | (with_reducible refine Need.mk ?_ ?_) | (with_reducible refine And.intro ?_ ?_) | (with_reducible intro _) | ((fail_if_success (with_reducible refine FinS.mk ?_)); (conv => whnf)) | (refine FinS.b ?_) | (refine FinS.lb ?_) | (refine FinS.i ?_) | (refine FinS.f ?_) | (refine FinS.agg ?_) | (refine FinS.tup ?_)))
  all_goals (try refine Side.mk ?_)
  all_goals (try simp only [pOf_pt, pOf_lst, cl_lent, cl_lent0, cm_lent, cm_lent0, hull_E, hull_N, cl_hull, wrap_2 k0, wrap_1 k0, sameL_self, isI_self, sameI_self, Nat.zero_add, Int.toNat_natCast, lent_0, lent_1, feq77, feq78, beq_self_eq_true, Bool.and_self, Bool.true_and, Bool.and_true, and_self, or_true, implies_true, true_and] at *)
  all_goals first | rfl | omega | contradiction | (show (0 : Int) ≤ 0 ∧ (0 : Int) ≤ ((n + 2 : Nat) : Int) ∧ ((n + 2 : Nat) : Int) ≤ ((n + 2 : Nat) : Int) ∧ ((n + 2 : Nat) : Int) ≤ ((n + 2 : Nat) : Int); omega) | (exact ⟨isPts_pt _ _, (by first | assumption | omega)⟩) | (exact ⟨isPts_pt _ _, (by first | assumption | omega), (by first | assumption | omega)⟩) | (exact ⟨isPts_pt _ _, (by first | assumption | omega), (by first | assumption | omega), (by first | assumption | omega)⟩) | (exact ⟨isPts_pt _ _, (by first | assumption | omega), (by first | assumption | omega), (by first | assumption | omega), (by first | assumption | omega)⟩) | (exact ⟨isPts_pt _ _, isPts_pt _ _, (by first | assumption | omega)⟩) | (exact ⟨isPts_pt _ _, isPts_pt _ _, (by first | assumption | omega), (by first | assumption | omega)⟩) | (exact ⟨isPts_pt _ _, isPts_pt _ _, (by first | assumption | omega), (by first | assumption | omega), (by first | assumption | omega)⟩) | (exact ⟨isPts_pt _ _, isPts_pt _ _, (by first | assumption | omega), (by first | assumption | omega), (by first | assumption | omega), (by first | assumption | omega)⟩) | (exact ⟨isPts_lst _ _, isPts_lst _ _, hN_big _ _, hN_big _ _⟩) | (exact ⟨isPts_lst _ _, isPts_lst _ _, hN_big _ _, hN_big _ _, Nat.le_refl _, Nat.le_refl _⟩) | (exact ⟨isPts_lst _ _, isPts_lst _ _, hN_big _ _, hN_big _ _, Nat.le_refl _⟩) | (exact fun _ => ⟨isPts_lst _ _, isPts_lst _ _, hN_big _ _, hN_big _ _⟩) | (exact fun _ => ⟨isPts_lst _ _, isPts_lst _ _, hN_big _ _, hN_big _ _, Nat.le_refl _, Nat.le_refl _⟩) | (exact fun _ => ⟨isPts_lst _ _, isPts_lst _ _, hN_big _ _, hN_big _ _, Nat.le_refl _⟩) | (exact ⟨Nat.le_refl _, hN_room _ _⟩) | (exact ⟨Nat.le_refl _, Nat.le_trans (hN_64 _ _) (by decide)⟩)
end Go.Ev.Poly
