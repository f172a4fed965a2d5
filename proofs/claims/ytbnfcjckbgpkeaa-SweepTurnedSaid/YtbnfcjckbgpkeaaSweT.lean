/-
  The contracts of SamePairs and of rising; for lists of at most 2^40 pairs.
-/
import Derived.Test.YtbnfcjckbgpkeaaSweR
set_option linter.unusedSimpArgs false
set_option linter.unusedVariables false
open Go Go.Proofs
namespace Go.Ev.Sweep
set_option maxRecDepth 100000
set_option maxHeartbeats 1000000
open Go.Ev.So
theorem leR_P {n : Nat} {g : Nat → List MV} (h : isPr n g) : leR (.ro 2 n g) (.ro 2 n (rowI2 (prO g))) := ⟨rfl, rfl, le_Pr h⟩
theorem flat_P {d : Nat → Pr} {i j : Nat} (hj : j < 2) : flatM (getM (rowI2 d i) j) = true := by
  have : j = 0 ∨ j = 1 := by omega
  rcases this with rfl | rfl <;> rfl
noncomputable def fi18 : FnI := ⟨26, Try.f18.body.getD .skip, [.tmp 4], true⟩
theorem fi18_ok : fnGen Try.prog 18 = some fi18 := by kernel_rfl
theorem zHS12c_T {cx : Cx} : CallH (genQ Try.prog exts eqs [] S12c).P cx (hnd (genQ Try.prog exts eqs [] S12c) cx 6) := hnd_sound (genQ_full extsOK eqsOK S12c_ok) 6
theorem zES12c_T : EnvAll (genQ Try.prog exts eqs [] S12c) := (genQ_full extsOK eqsOK S12c_ok).toEnvAll
theorem t18 (n : Nat) (f h : Nat → Pr) (c0 : n ≤ lim) (c1 : ∀ k, k < n → f k = h k) : CM Try.prog 18 [.ro 2 n (rowI2 f), .ro 2 n (rowI2 h)] (.b true) [] true := by
  refine CM.of_code zES12c_T (fnGen_ok fi18_ok) rfl fun w0 okA => ?_
  refine evC_sound (genQ_full extsOK eqsOK S12c_ok).toEnvAll (hndU_sound U30_k zHS12c_T) ?_
  have c0' : n ≤ 1099511627776 := c0
  repeat' ((fail_if_success (with_reducible refine Side.mk ?_)); first | (refine Rest.mk (drawR_sound zES12c_T mixOK (hndU_sound U30_k zHS12c_T) ?_)) | ((fail_if_success (with_reducible refine Rest.mk ?_)); first | (with_reducible exact True.intro) | (with_reducible refine Need.mk ?_ ?_) | (with_reducible refine And.intro ?_ ?_) | (with_reducible intro hcl; try (exfalso; (simp at hcl); done)) | ((fail_if_success (with_reducible refine FinS.mk ?_)); (fail_if_success (with_reducible refine Le.mk ?_)); (conv => whnf)) | (refine FinS.b ?_) | (refine FinS.lb ?_) | (refine FinS.i ?_) | (refine FinS.f ?_) | (refine FinS.agg ?_) | (refine FinS.tup ?_)))
  refine loop_ruleD zES12c_T (hndU_sound U30_k zHS12c_T) (γ := Nat) (fun i => ⟨[(0, .ro 2 n (rowI2 f)), (1, .ro 2 n (rowI2 h)), (5, .i .i64 (i : Int))], [], [], 0⟩) (fun i => i ≤ n) Nat.succ (fun i => n - i) (0) (Le.of ?_) ?_ ?_
  · conv => whnf
    repeat' ((fail_if_success (with_reducible refine Side.mk ?_)); first | (refine Rest.mk (drawR_sound zES12c_T mixOK (hndU_sound U30_k zHS12c_T) ?_)) | ((fail_if_success (with_reducible refine Rest.mk ?_)); first | (with_reducible exact True.intro) | (with_reducible refine Need.mk ?_ ?_) | (with_reducible refine And.intro ?_ ?_) | (with_reducible intro _) | ((fail_if_success (with_reducible refine FinS.mk ?_)); (fail_if_success (with_reducible refine Le.mk ?_)); (conv => whnf)) | (refine FinS.b ?_) | (refine FinS.lb ?_) | (refine FinS.i ?_) | (refine FinS.f ?_) | (refine FinS.agg ?_) | (refine FinS.tup ?_)))
    all_goals (try (refine Le.of ?_; (conv => whnf)))
    repeat' ((fail_if_success (with_reducible refine Side.mk ?_)); first | (refine Rest.mk (drawR_sound zES12c_T mixOK (hndU_sound U30_k zHS12c_T) ?_)) | ((fail_if_success (with_reducible refine Rest.mk ?_)); first | (with_reducible exact True.intro) | (with_reducible refine Need.mk ?_ ?_) | (with_reducible refine And.intro ?_ ?_) | (with_reducible intro _) | ((fail_if_success (with_reducible refine FinS.mk ?_)); (fail_if_success (with_reducible refine Le.mk ?_)); (conv => whnf)) | (refine FinS.b ?_) | (refine FinS.lb ?_) | (refine FinS.i ?_) | (refine FinS.f ?_) | (refine FinS.agg ?_) | (refine FinS.tup ?_)))
    all_goals (try refine Side.mk ?_)
    all_goals (try simp only [eq_self, decide_eq_true_eq, decide_eq_false_iff_not, Int.ofNat_lt, Int.ofNat_le, gt_iff_lt, ge_iff_le, true_and, Bool.not_eq_true', Bool.not_eq_false'] at *)
    all_goals first | (with_reducible rfl) | trivial | omega | rfl | exact fun _ _ => trivial | exact ⟨rfl, rfl⟩ | exact ⟨rfl, fun _ _ => rfl⟩ | exact ⟨rfl, rfl, fun _ _ => rfl⟩
  · omega
  · intro i hi
    have w1 : IntKind.i64.wrap ((i : Int) + 1) = ((i + 1 : Nat) : Int) := wadd1 (by omega)
    rcases Nat.lt_or_ge i n with hlt | hge
    · have he := c1 i hlt
      repeat' ((fail_if_success (with_reducible refine Side.mk ?_)); first | (refine Rest.mk (drawR_sound zES12c_T mixOK (hndU_sound U30_k zHS12c_T) ?_)) | ((fail_if_success (with_reducible refine Rest.mk ?_)); first | (with_reducible exact True.intro) | (with_reducible refine Need.mk ?_ ?_) | (with_reducible refine And.intro ?_ ?_) | (with_reducible intro hcl; try (exfalso; (first | (simp only [decide_eq_true_eq, decide_eq_false_iff_not] at hcl; omega) | (simp only [Int.toNat_natCast, Nat.zero_add, he] at hcl; simp at hcl; done)); done)) | ((fail_if_success (with_reducible refine FinS.mk ?_)); (fail_if_success (with_reducible refine Le.mk ?_)); (conv => whnf)) | (refine FinS.b ?_) | (refine FinS.lb ?_) | (refine FinS.i ?_) | (refine FinS.f ?_) | (refine FinS.agg ?_) | (refine FinS.tup ?_)))
      all_goals (try (refine Le.of ?_; (conv => whnf)))
      repeat' ((fail_if_success (with_reducible refine Side.mk ?_)); first | (refine Rest.mk (drawR_sound zES12c_T mixOK (hndU_sound U30_k zHS12c_T) ?_)) | ((fail_if_success (with_reducible refine Rest.mk ?_)); first | (with_reducible exact True.intro) | (with_reducible refine Need.mk ?_ ?_) | (with_reducible refine And.intro ?_ ?_) | (with_reducible intro _) | ((fail_if_success (with_reducible refine FinS.mk ?_)); (fail_if_success (with_reducible refine Le.mk ?_)); (conv => whnf)) | (refine FinS.b ?_) | (refine FinS.lb ?_) | (refine FinS.i ?_) | (refine FinS.f ?_) | (refine FinS.agg ?_) | (refine FinS.tup ?_)))
      all_goals (try refine Side.mk ?_)
      all_goals (try simp only [Int.toNat_natCast, Nat.zero_add, dOf_row, lsV_c, bOf_b, w1, Nat.succ_eq_add_one] at *)
      all_goals (try simp only [eq_self, decide_eq_true_eq, decide_eq_false_iff_not, Int.ofNat_lt, Int.ofNat_le, gt_iff_lt, ge_iff_le, true_and, Bool.not_eq_true', Bool.not_eq_false'] at *)
      all_goals first | (with_reducible rfl) | trivial | omega | rfl | exact fun _ _ => trivial | exact ⟨rfl, rfl⟩ | exact ⟨rfl, fun _ _ => rfl⟩ | exact ⟨rfl, rfl, fun _ _ => rfl⟩ | (exact ⟨by omega, by omega⟩)
    · obtain rfl : i = n := by omega
      repeat' ((fail_if_success (with_reducible refine Side.mk ?_)); first | (refine Rest.mk (drawR_sound zES12c_T mixOK (hndU_sound U30_k zHS12c_T) ?_)) | ((fail_if_success (with_reducible refine Rest.mk ?_)); first | (with_reducible exact True.intro) | (with_reducible refine Need.mk ?_ ?_) | (with_reducible refine And.intro ?_ ?_) | (with_reducible intro hcl; try (exfalso; (simp at hcl); done)) | ((fail_if_success (with_reducible refine FinS.mk ?_)); (fail_if_success (with_reducible refine Le.mk ?_)); (conv => whnf)) | (refine FinS.b ?_) | (refine FinS.lb ?_) | (refine FinS.i ?_) | (refine FinS.f ?_) | (refine FinS.agg ?_) | (refine FinS.tup ?_)))
      all_goals (try (refine Le.of ?_; (conv => whnf)))
      repeat' ((fail_if_success (with_reducible refine Side.mk ?_)); first | (refine Rest.mk (drawR_sound zES12c_T mixOK (hndU_sound U30_k zHS12c_T) ?_)) | ((fail_if_success (with_reducible refine Rest.mk ?_)); first | (with_reducible exact True.intro) | (with_reducible refine Need.mk ?_ ?_) | (with_reducible refine And.intro ?_ ?_) | (with_reducible intro _) | ((fail_if_success (with_reducible refine FinS.mk ?_)); (fail_if_success (with_reducible refine Le.mk ?_)); (conv => whnf)) | (refine FinS.b ?_) | (refine FinS.lb ?_) | (refine FinS.i ?_) | (refine FinS.f ?_) | (refine FinS.agg ?_) | (refine FinS.tup ?_)))
      all_goals (try refine Side.mk ?_)
      all_goals (try simp only [Int.toNat_natCast, Nat.zero_add, dOf_row, lsV_c, bOf_b] at *)
      all_goals (try simp only [eq_self, decide_eq_true_eq, decide_eq_false_iff_not, Int.ofNat_lt, Int.ofNat_le, gt_iff_lt, ge_iff_le, true_and, Bool.not_eq_true', Bool.not_eq_false'] at *)
      all_goals first | (with_reducible rfl) | trivial | omega | rfl | exact fun _ _ => trivial | exact ⟨rfl, rfl⟩ | exact ⟨rfl, fun _ _ => rfl⟩ | exact ⟨rfl, rfl, fun _ _ => rfl⟩
noncomputable def g18 : List MV → Option (List Prop × MV × List Blk × Bool)
  | [.ro 2 n get, .ro 2 m get'] => some ([isPr n get, isPr m get', m = n, n ≤ lim, ∀ k, k < n → prO get k = prO get' k], .b true, [], false)
  | _ => none
theorem s18 : SumsOK Try.prog (sumOf 18 g18 S12c) := by
  refine SumsOK.add S12c_ok fun ms ps m blks al e hp => ?_
  unfold g18 at e
  split at e
  · cases e
    rename_i n get m get'
    have h1 := hp _ (.head _)
    have h2 := hp _ (.tail _ (.head _))
    have h3 : m = n := hp _ (.tail _ (.tail _ (.head _)))
    have h4 := hp _ (.tail _ (.tail _ (.tail _ (.head _))))
    have h5 := hp _ (.tail _ (.tail _ (.tail _ (.tail _ (.head _)))))
    subst h3
    exact ((t18 _ (prO get) (prO get') h4 h5).aloneT rfl).le2 (leR_P h1) (leR_P h2)
  · cases e
noncomputable def S18 := sumOf 18 g18 S12c
theorem S18_ok : SumsOK Try.prog S18 := s18
def u42 : UT := fun sz n g rest => match sz, rest with
  | 2, [.fn 43 [] []] => some ([isPr n g, n ≤ lim], rowI2 (srtV n (prO g)))
  | _, _ => none
theorem U42_ok : UOK Try.prog (uAdd 42 u42 U0) := by
  refine UOK.add U0_ok fun sz n g rest ps g' e hp => ?_
  unfold u42 at e
  split at e
  · cases e
    have h0 := hp _ (.head _)
    have h2 := hp _ (.tail _ (.head _))
    exact CU.leG (t42 n (prO g) h2) (le_Pr h0)
  · cases e
noncomputable def U42 := uAdd 42 u42 U0
theorem U42_k : UOK Try.prog U42 := U42_ok
noncomputable def fi32 : FnI := ⟨4, Try.f32.body.getD .skip, [], true⟩
theorem fi32_ok : fnGen Try.prog 32 = some fi32 := by kernel_rfl
theorem t32 (n : Nat) (d : Nat → Pr) (c0 : n ≤ lim) : CU Try.prog 32 2 n (rowI2 d) (rowI2 (srtV n d)) [] := by
  refine CU.of_genU (exts := exts) (eqs := eqs) (inl := []) (sum := S18) extsOK eqsOK S18_ok fi32_ok rfl (fun _ _ _ hj => flat_P hj) rfl fun cx => ?_
  refine evC_sound (E := genQ Try.prog exts eqs [] S18) (genQ_full extsOK eqsOK S18_ok).toEnvAll (hndU_sound U42_k (hnd_sound (E := genQ Try.prog exts eqs [] S18) (genQ_full extsOK eqsOK S18_ok) 6)) ?_
  repeat' ((fail_if_success (with_reducible refine Side.mk ?_)); first | ((fail_if_success (with_reducible refine Rest.mk ?_)); first | (with_reducible exact True.intro) | (with_reducible refine Need.mk ?_ ?_) | (with_reducible refine And.intro ?_ ?_) | (with_reducible intro _) | ((fail_if_success (with_reducible refine FinS.mk ?_)); (fail_if_success (with_reducible refine Le.mk ?_)); (conv => whnf)) | (refine FinS.b ?_) | (refine FinS.lb ?_) | (refine FinS.i ?_) | (refine FinS.f ?_) | (refine FinS.agg ?_) | (refine FinS.tup ?_)))
  all_goals (try (refine Le.of ?_; (conv => whnf)))
  repeat' ((fail_if_success (with_reducible refine Side.mk ?_)); first | ((fail_if_success (with_reducible refine Rest.mk ?_)); first | (with_reducible exact True.intro) | (with_reducible refine Need.mk ?_ ?_) | (with_reducible refine And.intro ?_ ?_) | (with_reducible intro _) | ((fail_if_success (with_reducible refine FinS.mk ?_)); (fail_if_success (with_reducible refine Le.mk ?_)); (conv => whnf)) | (refine FinS.b ?_) | (refine FinS.lb ?_) | (refine FinS.i ?_) | (refine FinS.f ?_) | (refine FinS.agg ?_) | (refine FinS.tup ?_)))
  all_goals (try refine Side.mk ?_)
  all_goals (try simp only [prO_row] at *)
  all_goals (try simp only [eq_self, decide_eq_true_eq, decide_eq_false_iff_not, Int.ofNat_lt, Int.ofNat_le, gt_iff_lt, ge_iff_le, true_and, Bool.not_eq_true', Bool.not_eq_false'] at *)
  all_goals first | (with_reducible rfl) | trivial | omega | rfl | exact fun _ _ => trivial | exact ⟨rfl, rfl⟩ | exact ⟨rfl, fun _ _ => rfl⟩ | exact ⟨rfl, rfl, fun _ _ => rfl⟩ | (exact ⟨Nat.le_refl _, isPr_row _ _, c0⟩) | (exact ⟨rfl, rfl, rfl, fun i hi j hj => rfl⟩) | (exact ⟨rfl, fun i hi j hj => rfl⟩) | (exact fun i hi j hj => rfl) | (exact fun _ _ _ _ => trivial)
def u32 : UT := fun sz n g rest => match sz, rest with
  | 2, [] => some ([isPr n g, n ≤ lim], rowI2 (srtV n (prO g)))
  | _, _ => none
theorem U32_ok : UOK Try.prog (uAdd 32 u32 U42) := by
  refine UOK.add U42_k fun sz n g rest ps g' e hp => ?_
  unfold u32 at e
  split at e
  · cases e
    have h0 := hp _ (.head _)
    have h2 := hp _ (.tail _ (.head _))
    exact CU.leG (t32 n (prO g) h2) (le_Pr h0)
  · cases e
noncomputable def U32 := uAdd 32 u32 U42
theorem U32_k : UOK Try.prog U32 := U32_ok
end Go.Ev.Sweep
