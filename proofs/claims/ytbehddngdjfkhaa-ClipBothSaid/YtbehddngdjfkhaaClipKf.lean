/-
  The walk of the law on two rows of points; for lists of at most 8796093022206 points.
-/
import Derived.Test.YtbehddngdjfkhaaClipKe
import Derived.Test.YtbehddngdjfkhaaClipW
import Derived.Test.YtbehddngdjfkhaaClipAw
set_option linter.unusedSimpArgs false
set_option linter.unusedVariables false
open Go Go.Proofs
namespace Go.Ev.Clip
set_option maxRecDepth 100000
set_option maxHeartbeats 1000000
def cl (n : Nat) (p : Nat → Nat × Nat) : Nat → Nat × Nat := fun i => bif Nat.blt i n then p i else (0, 0)
theorem cl_at {n i : Nat} {p : Nat → Nat × Nat} (h : i < n) : cl n p i = p i := by unfold cl; rw [blt_t h]; rfl
theorem cl_ext {n : Nat} {p q : Nat → Nat × Nat} (h : ∀ i, i < n → p i = q i) : cl n p = cl n q := by
  funext i
  unfold cl
  rcases Nat.lt_or_ge i n with e | e
  · rw [blt_t e, h i e]
  · rw [blt_f e]; rfl
theorem cl_lent (n : Nat) (p : Nat → Nat × Nat) : cl n (fun j => lentV n p (0 + j)) = cl n p := cl_ext fun i hi => by rw [Nat.zero_add, lent_lo hi]
theorem cl_lent0 (n : Nat) (p : Nat → Nat × Nat) : cl n (lentV n p) = cl n p := cl_ext fun i hi => by rw [lent_lo hi]
theorem leR_cl {n : Nat} {get : Nat → List MV} (h : isPts n get) : leR (.ro 2 n get) (.ro 2 n fun i => ptM (cl n (pOf get) i)) := by
  refine ⟨rfl, rfl, fun i hi j hj => ?_⟩
  show getM (get i) j = getM (ptM (cl n (pOf get) i)) j
  rw [cl_at hi]
  have hj : j = 0 ∨ j = 1 := by omega
  rcases hj with rfl | rfl
  · exact (h i hi).1
  · exact (h i hi).2
theorem wrap2 {n k : Nat} (h : n ≤ 8796093022206) (hk : k ≤ 2) : IntKind.i64.wrap ((n : Int) + (k : Nat)) = ((n + k : Nat) : Int) := by rw [i64_wrap (by omega) (by omega)]; omega
theorem wrap_2 {n : Nat} (h : n ≤ 8796093022206) : IntKind.i64.wrap ((n : Int) + 2) = ((n + 2 : Nat) : Int) := wrap2 (k := 2) h (by omega)
theorem wrap_1 {n : Nat} (h : n ≤ 8796093022206) : IntKind.i64.wrap ((n : Int) + 1) = ((n + 1 : Nat) : Int) := wrap2 (k := 1) h (by omega)
theorem feq77 : feq .f64 4635118810238550016 4635118810238550016 = true := by decide +kernel
noncomputable def g18C : List MV → Option (List Prop × MV × List Blk × Bool)
  | [.ro 2 n get, .ro 2 m get'] => some ([isPts n get, isPts m get', n < big, m < big], .tup [.os 0 2 0 (boV n (cl n (pOf get)) m (cl m (pOf get'))).length, .i .i64 (twoV n (cl n (pOf get)) m (cl m (pOf get')))], [.rows 2 (boV n (cl n (pOf get)) m (cl m (pOf get'))).length fun k => ptM ((boV n (cl n (pOf get)) m (cl m (pOf get'))).getD k z2)], false)
  | _ => none
theorem s18C : SumsOK Try.prog (sumOf 18 g18C S19) := by
  refine SumsOK.add S19_ok fun ms ps m blks al e hp => ?_
  unfold g18C at e
  split at e
  · cases e
    exact ((t18 _ (cl _ (pOf _)) _ (cl _ (pOf _)) (hp _ (.tail _ (.tail _ (.head _)))) (hp _ (.tail _ (.tail _ (.tail _ (.head _)))))).le2 (leR_cl (hp _ (.head _))) (leR_cl (hp _ (.tail _ (.head _))))).aloneR rfl fun _ _ _ hj => flat2 hj
  · cases e
noncomputable def S18C := sumOf 18 g18C S19
theorem S18C_ok : SumsOK Try.prog S18C := s18C
noncomputable def g19C : List MV → Option (List Prop × MV × List Blk × Bool)
  | [.ro 2 n get, .ro 2 m get'] => some ([isPts n get, isPts m get', n < big, m < big], .tup [.os 0 2 0 (boV n (cl n (pOf get)) m (cl m (pOf get'))).length, .i .i64 (twoV n (cl n (pOf get)) m (cl m (pOf get')))], [.rows 2 (boV n (cl n (pOf get)) m (cl m (pOf get'))).length fun k => ptM ((boV n (cl n (pOf get)) m (cl m (pOf get'))).getD k z2)], false)
  | _ => none
theorem s19C : SumsOK Try.prog (sumOf 19 g19C S18C) := by
  refine SumsOK.add S18C_ok fun ms ps m blks al e hp => ?_
  unfold g19C at e
  split at e
  · cases e
    exact ((t19 _ (cl _ (pOf _)) _ (cl _ (pOf _)) (hp _ (.tail _ (.tail _ (.head _)))) (hp _ (.tail _ (.tail _ (.tail _ (.head _)))))).le2 (leR_cl (hp _ (.head _))) (leR_cl (hp _ (.tail _ (.head _))))).aloneR rfl fun _ _ _ hj => flat2 hj
  · cases e
noncomputable def S19C := sumOf 19 g19C S18C
theorem S19C_ok : SumsOK Try.prog S19C := s19C
noncomputable def g12C : List MV → Option (List Prop × MV × List Blk × Bool)
  | [.ro 2 n get, .ro 2 m get'] => some ([isPts n get, isPts m get', n < big, m < big], .b (sameL n (cl n (pOf get)) m (cl m (pOf get'))), [], false)
  | _ => none
theorem s12C : SumsOK Try.prog (sumOf 12 g12C S19C) := by
  refine SumsOK.add S19C_ok fun ms ps m blks al e hp => ?_
  unfold g12C at e
  split at e
  · cases e
    exact ((t12L _ (cl _ (pOf _)) _ (cl _ (pOf _)) (hp _ (.tail _ (.tail _ (.head _)))) (hp _ (.tail _ (.tail _ (.tail _ (.head _)))))).le2 (leR_cl (hp _ (.head _))) (leR_cl (hp _ (.tail _ (.head _))))).aloneT rfl
  · cases e
noncomputable def S12C := sumOf 12 g12C S19C
theorem S12C_ok : SumsOK Try.prog S12C := s12C
noncomputable def g7 : List MV → Option (List Prop × MV × List Blk × Bool)
  | [] => some ([], .b true, [], false)
  | _ => none
theorem s7 : SumsOK Try.prog (sumOf 7 g7 S12C) := by
  refine SumsOK.add S12C_ok fun ms ps m blks al e hp => ?_
  unfold g7 at e
  split at e
  · cases e; exact C.t7.aloneT rfl
  · cases e
noncomputable def S7 := sumOf 7 g7 S12C
theorem S7_ok : SumsOK Try.prog S7 := s7
theorem sameL_self {n : Nat} {p : Nat → Nat × Nat} : sameL n p n p = true := same_t rfl fun _ _ => sameI_self _ _
theorem bo_len {n m : Nat} {p q : Nat → Nat × Nat} : (boV n p m q).length ≤ wLe := by
  unfold boV
  cases h : (twoV n p m q != 0)
  · obtain ⟨hp, hq⟩ := two_0 h
    exact both_64 (check_le hp) (check_le hq)
  · exact Nat.zero_le _
noncomputable def fi4 : FnI := ⟨56, Try.f4.body.getD .skip, [.tmp 4], true⟩
theorem fi4_ok : fnGen Try.prog 4 = some fi4 := by kernel_rfl
theorem t4 (n : Nat) (p : Nat → Nat × Nat) (m : Nat) (q : Nat → Nat × Nat) (c0 : n ≤ 8796093022206) (c1 : m ≤ 8796093022206) : CM Try.prog 4 [.ro 2 n (fun j => ptM (p j)), .ro 2 m (fun j => ptM (q j))] (.b true) [] true := by
  refine CM.of_genW (exts := exts) (eqs := eqs) (inl := [20]) (sum := S7) extsOK eqsOK S7_ok W13_ok fi4_ok 6 rfl fun cx => ?_
  have k0 := c0
  have k1 := c1
  have b0 : n < big := Nat.lt_of_le_of_lt c0 (by decide)
  have b1 : m < big := Nat.lt_of_le_of_lt c1 (by decide)
  have bb : (boV n (cl n p) m (cl m q)).length < big := Nat.lt_of_le_of_lt bo_len (by decide)
  repeat' ((fail_if_success (with_reducible refine Side.mk ?_)); first | (refine Rest.mk (drawR_sound (E := genQ Try.prog exts eqs [20] S7) (genQ_full extsOK eqsOK S7_ok).toEnvAll mixOK (hndW_sound W13_ok (hnd_sound (E := genQ Try.prog exts eqs [20] S7) (genQ_full extsOK eqsOK S7_ok) 6)) ?_)) | ((fail_if_success (with_reducible refine Rest.mk ?_)); first | (with_reducible exact True.intro) | (with_reducible refine Need.mk ?_ ?_) | (with_reducible refine And.intro ?_ ?_) | (with_reducible intro _) | ((fail_if_success (with_reducible refine FinS.mk ?_)); (conv => whnf)) | (refine FinS.b ?_) | (refine FinS.lb ?_) | (refine FinS.i ?_) | (refine FinS.f ?_) | (refine FinS.agg ?_) | (refine FinS.tup ?_)))
  all_goals (try refine Side.mk ?_)
  all_goals (try simp only [pOf_pt, cl_lent, cl_lent0, wrap_1 k0, wrap_1 k1, sameL_self, Nat.zero_add, Int.toNat_natCast, lent_0, feq77, beq_self_eq_true, Bool.and_self, Bool.true_and, Bool.and_true] at *)
  all_goals first | rfl | omega | contradiction | (show (0 : Int) ≤ 0 ∧ (0 : Int) ≤ ((n + 1 : Nat) : Int) ∧ ((n + 1 : Nat) : Int) ≤ ((n + 1 : Nat) : Int) ∧ ((n + 1 : Nat) : Int) ≤ ((n + 1 : Nat) : Int); omega) | (show (0 : Int) ≤ 0 ∧ (0 : Int) ≤ ((m + 1 : Nat) : Int) ∧ ((m + 1 : Nat) : Int) ≤ ((m + 1 : Nat) : Int) ∧ ((m + 1 : Nat) : Int) ≤ ((m + 1 : Nat) : Int); omega) | (exact fun _ => (show (0 : Int) ≤ 0 ∧ (0 : Int) ≤ ((n + 1 : Nat) : Int) ∧ ((n + 1 : Nat) : Int) ≤ ((n + 1 : Nat) : Int) ∧ ((n + 1 : Nat) : Int) ≤ ((n + 1 : Nat) : Int) from (by omega))) | (exact fun _ => (show (0 : Int) ≤ 0 ∧ (0 : Int) ≤ ((m + 1 : Nat) : Int) ∧ ((m + 1 : Nat) : Int) ≤ ((m + 1 : Nat) : Int) ∧ ((m + 1 : Nat) : Int) ≤ ((m + 1 : Nat) : Int) from (by omega))) | (exact ⟨isPts_pt _ _, (by first | assumption | omega)⟩) | (exact ⟨isPts_pt _ _, (by first | assumption | omega), (by first | assumption | omega)⟩) | (exact ⟨isPts_pt _ _, (by first | assumption | omega), (by first | assumption | omega), (by first | assumption | omega)⟩) | (exact ⟨isPts_pt _ _, (by first | assumption | omega), (by first | assumption | omega), (by first | assumption | omega), (by first | assumption | omega)⟩) | (exact ⟨isPts_pt _ _, isPts_pt _ _, (by first | assumption | omega)⟩) | (exact ⟨isPts_pt _ _, isPts_pt _ _, (by first | assumption | omega), (by first | assumption | omega)⟩) | (exact ⟨isPts_pt _ _, isPts_pt _ _, (by first | assumption | omega), (by first | assumption | omega), (by first | assumption | omega)⟩) | (exact ⟨isPts_pt _ _, isPts_pt _ _, (by first | assumption | omega), (by first | assumption | omega), (by first | assumption | omega), (by first | assumption | omega)⟩) | (exact ⟨isPts_pt _ _, isPts_pt _ _, bb, bb, Nat.le_refl _, Nat.le_refl _⟩) | (exact ⟨isPts_pt _ _, isPts_pt _ _, bb, bb, Nat.le_refl _⟩) | (exact ⟨Nat.le_refl _, bo_len⟩) | (exact fun _ => ⟨isPts_pt _ _, isPts_pt _ _, bb, bb, Nat.le_refl _, Nat.le_refl _⟩)
end Go.Ev.Clip
