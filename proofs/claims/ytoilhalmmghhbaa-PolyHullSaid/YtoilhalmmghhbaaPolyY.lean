/-
  The walk of the law on two rows of points; for lists of at most 8796093022206 points.
-/
import Derived.Test.YtoilhalmmghhbaaPolyO
import Derived.Test.YtoilhalmmghhbaaPolyW
import Derived.Test.YtoilhalmmghhbaaPolyC
import Derived.Test.YtoilhalmmghhbaaPolyLb
set_option linter.unusedSimpArgs false
set_option linter.unusedVariables false
open Go Go.Proofs
namespace Go.Ev.Poly
set_option maxRecDepth 100000
set_option maxHeartbeats 1000000
def cl (n : Nat) (p : Nat → Nat × Nat) : Nat → Nat × Nat := fun i => bif Nat.blt i n then p i else (0, 0)
theorem cl_at {n i : Nat} {p : Nat → Nat × Nat} (h : i < n) : cl n p i = p i := by unfold cl; rw [blt_t h]; rfl
theorem cl_ext {n : Nat} {p q : Nat → Nat × Nat} (h : ∀ i, i < n → p i = q i) : cl n p = cl n q := by
  funext i
  unfold cl
  rcases Nat.lt_or_ge i n with e | e
  · rw [blt_t e, h i e]
  · rw [blt_f e]; rfl
theorem cl_lent (n : Nat) (p : Nat → Nat × Nat) : cl n (fun j => lentV n p (0 + j)) = cl n p := cl_ext fun i hi => by rw [Nat.zero_add, lent_lo hi]
theorem cl_lent0 (n : Nat) (p : Nat → Nat × Nat) : cl n (lentV n p) = cl n p := cl_ext fun i hi => by rw [lent_lo hi]
theorem leR_cl {n : Nat} {get : Nat → List MV} (h : isPts n get) : leR (.ro 2 n get) (.ro 2 n fun i => ptM (cl n (pOf get) i)) := by
  refine ⟨rfl, rfl, fun i hi j hj => ?_⟩
  show getM (get i) j = getM (ptM (cl n (pOf get) i)) j
  rw [cl_at hi]
  have hj : j = 0 ∨ j = 1 := by omega
  rcases hj with rfl | rfl
  · exact (h i hi).1
  · exact (h i hi).2
theorem wrap2 {n k : Nat} (h : n ≤ 8796093022206) (hk : k ≤ 2) : IntKind.i64.wrap ((n : Int) + (k : Nat)) = ((n + k : Nat) : Int) := by rw [i64_wrap (by omega) (by omega)]; omega
theorem wrap_2 {n : Nat} (h : n ≤ 8796093022206) : IntKind.i64.wrap ((n : Int) + 2) = ((n + 2 : Nat) : Int) := wrap2 (k := 2) h (by omega)
theorem wrap_1 {n : Nat} (h : n ≤ 8796093022206) : IntKind.i64.wrap ((n : Int) + 1) = ((n + 1 : Nat) : Int) := wrap2 (k := 1) h (by omega)
theorem feq77 : feq .f64 4635118810238550016 4635118810238550016 = true := by decide +kernel
theorem feq78 : feq .f64 4635189178982727680 4635189178982727680 = true := by decide +kernel
noncomputable def g16C : List MV → Option (List Prop × MV × List Blk × Bool)
  | [.ro 2 n get, .ro 2 m get'] => some ([isPts n get, isPts m get', n < big, m < big], (.tup [.i .i64 ((apR n (cl n (pOf get)) m (cl m (pOf get'))).1 : Nat), .f .f64 (apR n (cl n (pOf get)) m (cl m (pOf get'))).2, .i .i64 (twoV n (cl n (pOf get)) m (cl m (pOf get')))]), [], false)
  | _ => none
theorem s16C : SumsOK Try.prog (sumOf 16 g16C S17) := by
  refine SumsOK.add S17_ok fun ms ps m blks al e hp => ?_
  unfold g16C at e
  split at e
  · cases e
    exact ((t16 _ (cl _ (pOf _)) _ (cl _ (pOf _)) (hp _ (.tail _ (.tail _ (.head _)))) (hp _ (.tail _ (.tail _ (.tail _ (.head _)))))).aloneT rfl).le2 (leR_cl (hp _ (.head _))) (leR_cl (hp _ (.tail _ (.head _))))
  · cases e
noncomputable def S16C := sumOf 16 g16C S17
theorem S16C_ok : SumsOK Try.prog S16C := s16C
noncomputable def g17C : List MV → Option (List Prop × MV × List Blk × Bool)
  | [.ro 2 n get, .ro 2 m get'] => some ([isPts n get, isPts m get', n < big, m < big], (.tup [.i .i64 ((rapR n (cl n (pOf get)) m (cl m (pOf get'))).1 : Nat), .f .f64 (rapR n (cl n (pOf get)) m (cl m (pOf get'))).2, .i .i64 (rtwoV n (cl n (pOf get)) m (cl m (pOf get')))]), [], false)
  | _ => none
theorem s17C : SumsOK Try.prog (sumOf 17 g17C S16C) := by
  refine SumsOK.add S16C_ok fun ms ps m blks al e hp => ?_
  unfold g17C at e
  split at e
  · cases e
    exact ((t17 _ (cl _ (pOf _)) _ (cl _ (pOf _)) (hp _ (.tail _ (.tail _ (.head _)))) (hp _ (.tail _ (.tail _ (.tail _ (.head _)))))).aloneT rfl).le2 (leR_cl (hp _ (.head _))) (leR_cl (hp _ (.tail _ (.head _))))
  · cases e
noncomputable def S17C := sumOf 17 g17C S16C
theorem S17C_ok : SumsOK Try.prog S17C := s17C
noncomputable def g13C : List MV → Option (List Prop × MV × List Blk × Bool)
  | [.ro 2 n get, .ro 2 m get'] => some ([isPts n get, isPts m get', n < big, m < big], .b (sameL n (cl n (pOf get)) m (cl m (pOf get'))), [], false)
  | _ => none
theorem s13C : SumsOK Try.prog (sumOf 13 g13C S17C) := by
  refine SumsOK.add S17C_ok fun ms ps m blks al e hp => ?_
  unfold g13C at e
  split at e
  · cases e
    exact ((t13L _ (cl _ (pOf _)) _ (cl _ (pOf _)) (hp _ (.tail _ (.tail _ (.head _)))) (hp _ (.tail _ (.tail _ (.tail _ (.head _)))))).aloneT rfl).le2 (leR_cl (hp _ (.head _))) (leR_cl (hp _ (.tail _ (.head _))))
  · cases e
noncomputable def S13C := sumOf 13 g13C S17C
theorem S13C_ok : SumsOK Try.prog S13C := s13C
noncomputable def g9 : List MV → Option (List Prop × MV × List Blk × Bool)
  | [] => some ([], .b true, [], false)
  | _ => none
theorem s9 : SumsOK Try.prog (sumOf 9 g9 S13C) := by
  refine SumsOK.add S13C_ok fun ms ps m blks al e hp => ?_
  unfold g9 at e
  split at e
  · cases e; exact C.t9.aloneT rfl
  · cases e
noncomputable def S9 := sumOf 9 g9 S13C
theorem S9_ok : SumsOK Try.prog S9 := s9
noncomputable def fi4 : FnI := ⟨61, Try.f4.body.getD .skip, [.tmp 4], true⟩
theorem fi4_ok : fnGen Try.prog 4 = some fi4 := by kernel_rfl
theorem t4 (n : Nat) (p : Nat → Nat × Nat) (m : Nat) (q : Nat → Nat × Nat) (c0 : n ≤ room) (c1 : m ≤ room): CM Try.prog 4 [.ro 2 n (fun j => ptM (p j)), .ro 2 m (fun j => ptM (q j))] (.b true) [] true := by
  refine CM.of_genQ (exts := exts) (eqs := eqs) (inl := [15]) (sum := S9) extsOK eqsOK S9_ok fi4_ok 6 rfl fun cx => ?_
  have k0 : n ≤ 8796093022206 := c0
  have k1 : m ≤ 8796093022206 := c1
  have b0 := room_big c0
  have b1 := room_big c1
  repeat' ((fail_if_success (with_reducible refine Side.mk ?_)); first | ((fail_if_success (with_reducible refine Rest.mk ?_)); first | (with_reducible exact True.intro) | (with_reducible refine Need.mk ?_ ?_) | (with_reducible refine And.intro ?_ ?_) | (with_reducible intro _) | ((fail_if_success (with_reducible refine FinS.mk ?_)); (conv => whnf)) | (refine FinS.b ?_) | (refine FinS.lb ?_) | (refine FinS.i ?_) | (refine FinS.f ?_) | (refine FinS.agg ?_) | (refine FinS.tup ?_)))
  all_goals (try refine Side.mk ?_)
  all_goals (try simp only [pOf_pt, cl_lent, cl_lent0, apR_eq, two_eq, wrap_2 k0, wrap_1 k0, sameL_self, isI_self, Nat.zero_add, Int.toNat_natCast, lent_0, lent_1, feq77, feq78, wrap_2 k1, wrap_1 k1, beq_self_eq_true, Bool.and_self, Bool.true_and, Bool.and_true] at *)
  all_goals first | rfl | omega | contradiction | (show (0 : Int) ≤ 0 ∧ (0 : Int) ≤ ((n + 2 : Nat) : Int) ∧ ((n + 2 : Nat) : Int) ≤ ((n + 2 : Nat) : Int) ∧ ((n + 2 : Nat) : Int) ≤ ((n + 2 : Nat) : Int); omega) | (show (0 : Int) ≤ 0 ∧ (0 : Int) ≤ ((m + 2 : Nat) : Int) ∧ ((m + 2 : Nat) : Int) ≤ ((m + 2 : Nat) : Int) ∧ ((m + 2 : Nat) : Int) ≤ ((m + 2 : Nat) : Int); omega) | (exact ⟨isPts_pt _ _, (by first | assumption | omega)⟩) | (exact ⟨isPts_pt _ _, (by first | assumption | omega), (by first | assumption | omega)⟩) | (exact ⟨isPts_pt _ _, (by first | assumption | omega), (by first | assumption | omega), (by first | assumption | omega)⟩) | (exact ⟨isPts_pt _ _, (by first | assumption | omega), (by first | assumption | omega), (by first | assumption | omega), (by first | assumption | omega)⟩) | (exact ⟨isPts_pt _ _, isPts_pt _ _, (by first | assumption | omega)⟩) | (exact ⟨isPts_pt _ _, isPts_pt _ _, (by first | assumption | omega), (by first | assumption | omega)⟩) | (exact ⟨isPts_pt _ _, isPts_pt _ _, (by first | assumption | omega), (by first | assumption | omega), (by first | assumption | omega)⟩) | (exact ⟨isPts_pt _ _, isPts_pt _ _, (by first | assumption | omega), (by first | assumption | omega), (by first | assumption | omega), (by first | assumption | omega)⟩)
end Go.Ev.Poly
