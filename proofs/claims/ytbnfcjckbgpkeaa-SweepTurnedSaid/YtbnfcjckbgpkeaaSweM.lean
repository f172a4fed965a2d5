/-
  The contracts of SameInts and of kept; for lists of at most 4398046511103 boxes.
-/
import Derived.Test.YtbnfcjckbgpkeaaSweK
set_option linter.unusedSimpArgs false
set_option linter.unusedVariables false
open Go Go.Proofs
namespace Go.Ev.Sweep
set_option maxRecDepth 100000
set_option maxHeartbeats 1000000
open Go.Ev.So
theorem leR_I {n : Nat} {g : Nat → List MV} (h : isI n g) : leR (.ro 1 n g) (.ro 1 n (rowI (dOf g))) := ⟨rfl, rfl, le_I h⟩
def mark : Bx := (4635118810238550016, 0, 0, 0)
theorem kill_self (a : Bx) : (!(smV a.1 a.1 && smV a.2.1 a.2.1 && (smV a.2.2.1 a.2.2.1 && smV a.2.2.2 a.2.2.2))) = false := by
  rw [smV_self, smV_self, smV_self, smV_self]; rfl
noncomputable def fi14 : FnI := ⟨26, Try.f14.body.getD .skip, [.tmp 4], true⟩
theorem fi14_ok : fnGen Try.prog 14 = some fi14 := by kernel_rfl
theorem zHS12_M {cx : Cx} : CallH (genQ Try.prog exts eqs [] S12).P cx (hnd (genQ Try.prog exts eqs [] S12) cx 6) := hnd_sound (genQ_full extsOK eqsOK S12_ok) 6
theorem zES12_M : EnvAll (genQ Try.prog exts eqs [] S12) := (genQ_full extsOK eqsOK S12_ok).toEnvAll
theorem t14 (n : Nat) (f h : Nat → Int) (c0 : n ≤ lim) (c1 : ∀ k, k < n → f k = h k) : CM Try.prog 14 [.ro 1 n (rowI f), .ro 1 n (rowI h)] (.b true) [] true := by
  refine CM.of_code zES12_M (fnGen_ok fi14_ok) rfl fun w0 okA => ?_
  refine evC_sound (genQ_full extsOK eqsOK S12_ok).toEnvAll (hndU_sound U30_k zHS12_M) ?_
  have c0' : n ≤ 1099511627776 := c0
  repeat' ((fail_if_success (with_reducible refine Side.mk ?_)); first | (refine Rest.mk (drawR_sound zES12_M mixOK (hndU_sound U30_k zHS12_M) ?_)) | ((fail_if_success (with_reducible refine Rest.mk ?_)); first | (with_reducible exact True.intro) | (with_reducible refine Need.mk ?_ ?_) | (with_reducible refine And.intro ?_ ?_) | (with_reducible intro hcl; try (exfalso; (simp at hcl); done)) | ((fail_if_success (with_reducible refine FinS.mk ?_)); (fail_if_success (with_reducible refine Le.mk ?_)); (conv => whnf)) | (refine FinS.b ?_) | (refine FinS.lb ?_) | (refine FinS.i ?_) | (refine FinS.f ?_) | (refine FinS.agg ?_) | (refine FinS.tup ?_)))
  refine loop_ruleD zES12_M (hndU_sound U30_k zHS12_M) (γ := Nat) (fun i => ⟨[(0, .ro 1 n (rowI f)), (1, .ro 1 n (rowI h)), (5, .i .i64 (i : Int))], [], [], 0⟩) (fun i => i ≤ n) Nat.succ (fun i => n - i) (0) (Le.of ?_) ?_ ?_
  · conv => whnf
    repeat' ((fail_if_success (with_reducible refine Side.mk ?_)); first | (refine Rest.mk (drawR_sound zES12_M mixOK (hndU_sound U30_k zHS12_M) ?_)) | ((fail_if_success (with_reducible refine Rest.mk ?_)); first | (with_reducible exact True.intro) | (with_reducible refine Need.mk ?_ ?_) | (with_reducible refine And.intro ?_ ?_) | (with_reducible intro _) | ((fail_if_success (with_reducible refine FinS.mk ?_)); (fail_if_success (with_reducible refine Le.mk ?_)); (conv => whnf)) | (refine FinS.b ?_) | (refine FinS.lb ?_) | (refine FinS.i ?_) | (refine FinS.f ?_) | (refine FinS.agg ?_) | (refine FinS.tup ?_)))
    all_goals (try (refine Le.of ?_; (conv => whnf)))
    repeat' ((fail_if_success (with_reducible refine Side.mk ?_)); first | (refine Rest.mk (drawR_sound zES12_M mixOK (hndU_sound U30_k zHS12_M) ?_)) | ((fail_if_success (with_reducible refine Rest.mk ?_)); first | (with_reducible exact True.intro) | (with_reducible refine Need.mk ?_ ?_) | (with_reducible refine And.intro ?_ ?_) | (with_reducible intro _) | ((fail_if_success (with_reducible refine FinS.mk ?_)); (fail_if_success (with_reducible refine Le.mk ?_)); (conv => whnf)) | (refine FinS.b ?_) | (refine FinS.lb ?_) | (refine FinS.i ?_) | (refine FinS.f ?_) | (refine FinS.agg ?_) | (refine FinS.tup ?_)))
    all_goals (try refine Side.mk ?_)
    all_goals (try simp only [eq_self, decide_eq_true_eq, decide_eq_false_iff_not, Int.ofNat_lt, Int.ofNat_le, gt_iff_lt, ge_iff_le, true_and, Bool.not_eq_true', Bool.not_eq_false'] at *)
    all_goals first | (with_reducible rfl) | trivial | omega | rfl | exact fun _ _ => trivial | exact ⟨rfl, rfl⟩ | exact ⟨rfl, fun _ _ => rfl⟩ | exact ⟨rfl, rfl, fun _ _ => rfl⟩
  · omega
  · intro i hi
    have w1 : IntKind.i64.wrap ((i : Int) + 1) = ((i + 1 : Nat) : Int) := wadd1 (by omega)
    rcases Nat.lt_or_ge i n with hlt | hge
    · have he := c1 i hlt
      repeat' ((fail_if_success (with_reducible refine Side.mk ?_)); first | (refine Rest.mk (drawR_sound zES12_M mixOK (hndU_sound U30_k zHS12_M) ?_)) | ((fail_if_success (with_reducible refine Rest.mk ?_)); first | (with_reducible exact True.intro) | (with_reducible refine Need.mk ?_ ?_) | (with_reducible refine And.intro ?_ ?_) | (with_reducible intro hcl; try (exfalso; (first | (simp only [decide_eq_true_eq, decide_eq_false_iff_not] at hcl; omega) | (simp only [Int.toNat_natCast, Nat.zero_add, he] at hcl; simp at hcl; done)); done)) | ((fail_if_success (with_reducible refine FinS.mk ?_)); (fail_if_success (with_reducible refine Le.mk ?_)); (conv => whnf)) | (refine FinS.b ?_) | (refine FinS.lb ?_) | (refine FinS.i ?_) | (refine FinS.f ?_) | (refine FinS.agg ?_) | (refine FinS.tup ?_)))
      all_goals (try (refine Le.of ?_; (conv => whnf)))
      repeat' ((fail_if_success (with_reducible refine Side.mk ?_)); first | (refine Rest.mk (drawR_sound zES12_M mixOK (hndU_sound U30_k zHS12_M) ?_)) | ((fail_if_success (with_reducible refine Rest.mk ?_)); first | (with_reducible exact True.intro) | (with_reducible refine Need.mk ?_ ?_) | (with_reducible refine And.intro ?_ ?_) | (with_reducible intro _) | ((fail_if_success (with_reducible refine FinS.mk ?_)); (fail_if_success (with_reducible refine Le.mk ?_)); (conv => whnf)) | (refine FinS.b ?_) | (refine FinS.lb ?_) | (refine FinS.i ?_) | (refine FinS.f ?_) | (refine FinS.agg ?_) | (refine FinS.tup ?_)))
      all_goals (try refine Side.mk ?_)
      all_goals (try simp only [Int.toNat_natCast, Nat.zero_add, dOf_row, lsV_c, bOf_b, w1, Nat.succ_eq_add_one] at *)
      all_goals (try simp only [eq_self, decide_eq_true_eq, decide_eq_false_iff_not, Int.ofNat_lt, Int.ofNat_le, gt_iff_lt, ge_iff_le, true_and, Bool.not_eq_true', Bool.not_eq_false'] at *)
      all_goals first | (with_reducible rfl) | trivial | omega | rfl | exact fun _ _ => trivial | exact ⟨rfl, rfl⟩ | exact ⟨rfl, fun _ _ => rfl⟩ | exact ⟨rfl, rfl, fun _ _ => rfl⟩ | (exact ⟨by omega, by omega⟩)
    · obtain rfl : i = n := by omega
      repeat' ((fail_if_success (with_reducible refine Side.mk ?_)); first | (refine Rest.mk (drawR_sound zES12_M mixOK (hndU_sound U30_k zHS12_M) ?_)) | ((fail_if_success (with_reducible refine Rest.mk ?_)); first | (with_reducible exact True.intro) | (with_reducible refine Need.mk ?_ ?_) | (with_reducible refine And.intro ?_ ?_) | (with_reducible intro hcl; try (exfalso; (simp at hcl); done)) | ((fail_if_success (with_reducible refine FinS.mk ?_)); (fail_if_success (with_reducible refine Le.mk ?_)); (conv => whnf)) | (refine FinS.b ?_) | (refine FinS.lb ?_) | (refine FinS.i ?_) | (refine FinS.f ?_) | (refine FinS.agg ?_) | (refine FinS.tup ?_)))
      all_goals (try (refine Le.of ?_; (conv => whnf)))
      repeat' ((fail_if_success (with_reducible refine Side.mk ?_)); first | (refine Rest.mk (drawR_sound zES12_M mixOK (hndU_sound U30_k zHS12_M) ?_)) | ((fail_if_success (with_reducible refine Rest.mk ?_)); first | (with_reducible exact True.intro) | (with_reducible refine Need.mk ?_ ?_) | (with_reducible refine And.intro ?_ ?_) | (with_reducible intro _) | ((fail_if_success (with_reducible refine FinS.mk ?_)); (fail_if_success (with_reducible refine Le.mk ?_)); (conv => whnf)) | (refine FinS.b ?_) | (refine FinS.lb ?_) | (refine FinS.i ?_) | (refine FinS.f ?_) | (refine FinS.agg ?_) | (refine FinS.tup ?_)))
      all_goals (try refine Side.mk ?_)
      all_goals (try simp only [Int.toNat_natCast, Nat.zero_add, dOf_row, lsV_c, bOf_b] at *)
      all_goals (try simp only [eq_self, decide_eq_true_eq, decide_eq_false_iff_not, Int.ofNat_lt, Int.ofNat_le, gt_iff_lt, ge_iff_le, true_and, Bool.not_eq_true', Bool.not_eq_false'] at *)
      all_goals first | (with_reducible rfl) | trivial | omega | rfl | exact fun _ _ => trivial | exact ⟨rfl, rfl⟩ | exact ⟨rfl, fun _ _ => rfl⟩ | exact ⟨rfl, rfl, fun _ _ => rfl⟩
noncomputable def g14 : List MV → Option (List Prop × MV × List Blk × Bool)
  | [.ro 1 n get, .ro 1 m get'] => some ([isI n get, isI m get', m = n, n ≤ lim, ∀ k, k < n → dOf get k = dOf get' k], .b true, [], false)
  | _ => none
theorem s14 : SumsOK Try.prog (sumOf 14 g14 S12) := by
  refine SumsOK.add S12_ok fun ms ps m blks al e hp => ?_
  unfold g14 at e
  split at e
  · cases e
    rename_i n get m get'
    have h1 := hp _ (.head _)
    have h2 := hp _ (.tail _ (.head _))
    have h3 : m = n := hp _ (.tail _ (.tail _ (.head _)))
    have h4 := hp _ (.tail _ (.tail _ (.tail _ (.head _))))
    have h5 := hp _ (.tail _ (.tail _ (.tail _ (.tail _ (.head _)))))
    subst h3
    exact ((t14 _ (dOf get) (dOf get') h4 h5).aloneT rfl).le2 (leR_I h1) (leR_I h2)
  · cases e
noncomputable def S14 := sumOf 14 g14 S12
theorem S14_ok : SumsOK Try.prog S14 := s14
noncomputable def fi15 : FnI := ⟨30, Try.f15.body.getD .skip, [.tmp 4], true⟩
theorem fi15_ok : fnGen Try.prog 15 = some fi15 := by kernel_rfl
theorem zHS14_M {cx : Cx} : CallH (genQ Try.prog exts eqs [] S14).P cx (hnd (genQ Try.prog exts eqs [] S14) cx 6) := hnd_sound (genQ_full extsOK eqsOK S14_ok) 6
theorem zES14_M : EnvAll (genQ Try.prog exts eqs [] S14) := (genQ_full extsOK eqsOK S14_ok).toEnvAll
theorem t15 (nn : Nat) (p : Nat → Bx) (q : Nat → Bx) (c0 : nn ≤ room) (c1 : ∀ k, k < nn → q k = p k) (c2 : q nn = mark) : CM Try.prog 15 [.ro 4 (nn + 1) (fun j => bM (q j)), .ro 4 nn (fun j => bM (p j))] (.b true) [] true := by
  refine CM.of_code zES14_M (fnGen_ok fi15_ok) rfl fun w0 okA => ?_
  refine evC_sound (genQ_full extsOK eqsOK S14_ok).toEnvAll (hndU_sound U30_k zHS14_M) ?_
  have c0' : nn ≤ 4398046511103 := c0
  repeat' ((fail_if_success (with_reducible refine Side.mk ?_)); first | (refine Rest.mk (drawR_sound zES14_M mixOK (hndU_sound U30_k zHS14_M) ?_)) | ((fail_if_success (with_reducible refine Rest.mk ?_)); first | (with_reducible exact True.intro) | (with_reducible refine Need.mk ?_ ?_) | (with_reducible refine And.intro ?_ ?_) | (with_reducible intro hcl; try (exfalso; (simp at hcl); done)) | ((fail_if_success (with_reducible refine FinS.mk ?_)); (fail_if_success (with_reducible refine Le.mk ?_)); (conv => whnf)) | (refine FinS.b ?_) | (refine FinS.lb ?_) | (refine FinS.i ?_) | (refine FinS.f ?_) | (refine FinS.agg ?_) | (refine FinS.tup ?_)))
  refine loop_ruleD zES14_M (hndU_sound U30_k zHS14_M) (γ := Nat) (fun i => ⟨[(0, .ro 4 (nn + 1) (fun j => bM (q j))), (1, .ro 4 nn (fun j => bM (p j))), (5, .i .i64 (i : Int))], [], [], 0⟩) (fun i => i ≤ nn) Nat.succ (fun i => nn - i) (0) (Le.of ?_) ?_ ?_
  · conv => whnf
    repeat' ((fail_if_success (with_reducible refine Side.mk ?_)); first | (refine Rest.mk (drawR_sound zES14_M mixOK (hndU_sound U30_k zHS14_M) ?_)) | ((fail_if_success (with_reducible refine Rest.mk ?_)); first | (with_reducible exact True.intro) | (with_reducible refine Need.mk ?_ ?_) | (with_reducible refine And.intro ?_ ?_) | (with_reducible intro _) | ((fail_if_success (with_reducible refine FinS.mk ?_)); (fail_if_success (with_reducible refine Le.mk ?_)); (conv => whnf)) | (refine FinS.b ?_) | (refine FinS.lb ?_) | (refine FinS.i ?_) | (refine FinS.f ?_) | (refine FinS.agg ?_) | (refine FinS.tup ?_)))
    all_goals (try (refine Le.of ?_; (conv => whnf)))
    repeat' ((fail_if_success (with_reducible refine Side.mk ?_)); first | (refine Rest.mk (drawR_sound zES14_M mixOK (hndU_sound U30_k zHS14_M) ?_)) | ((fail_if_success (with_reducible refine Rest.mk ?_)); first | (with_reducible exact True.intro) | (with_reducible refine Need.mk ?_ ?_) | (with_reducible refine And.intro ?_ ?_) | (with_reducible intro _) | ((fail_if_success (with_reducible refine FinS.mk ?_)); (fail_if_success (with_reducible refine Le.mk ?_)); (conv => whnf)) | (refine FinS.b ?_) | (refine FinS.lb ?_) | (refine FinS.i ?_) | (refine FinS.f ?_) | (refine FinS.agg ?_) | (refine FinS.tup ?_)))
    all_goals (try refine Side.mk ?_)
    all_goals (try simp only [eq_self, decide_eq_true_eq, decide_eq_false_iff_not, Int.ofNat_lt, Int.ofNat_le, gt_iff_lt, ge_iff_le, true_and, Bool.not_eq_true', Bool.not_eq_false'] at *)
    all_goals first | (with_reducible rfl) | trivial | omega | rfl | exact fun _ _ => trivial | exact ⟨rfl, rfl⟩ | exact ⟨rfl, fun _ _ => rfl⟩ | exact ⟨rfl, rfl, fun _ _ => rfl⟩
  · omega
  · intro i hi
    have w1 : IntKind.i64.wrap ((i : Int) + 1) = ((i + 1 : Nat) : Int) := wadd1 (by omega)
    rcases Nat.lt_or_ge i nn with hlt | hge
    · have he := c1 i hlt
      have hk := kill_self (p i)
      repeat' ((fail_if_success (with_reducible refine Side.mk ?_)); first | (refine Rest.mk (drawR_sound zES14_M mixOK (hndU_sound U30_k zHS14_M) ?_)) | ((fail_if_success (with_reducible refine Rest.mk ?_)); first | (with_reducible exact True.intro) | (with_reducible refine Need.mk ?_ ?_) | (with_reducible refine And.intro ?_ ?_) | (with_reducible intro hcl; try (exfalso; (first | (simp only [decide_eq_true_eq, decide_eq_false_iff_not] at hcl; omega) | (simp only [Int.toNat_natCast, Nat.zero_add, he] at hcl; rw [hk] at hcl; cases hcl; done)); done)) | ((fail_if_success (with_reducible refine FinS.mk ?_)); (fail_if_success (with_reducible refine Le.mk ?_)); (conv => whnf)) | (refine FinS.b ?_) | (refine FinS.lb ?_) | (refine FinS.i ?_) | (refine FinS.f ?_) | (refine FinS.agg ?_) | (refine FinS.tup ?_)))
      all_goals (try (refine Le.of ?_; (conv => whnf)))
      repeat' ((fail_if_success (with_reducible refine Side.mk ?_)); first | (refine Rest.mk (drawR_sound zES14_M mixOK (hndU_sound U30_k zHS14_M) ?_)) | ((fail_if_success (with_reducible refine Rest.mk ?_)); first | (with_reducible exact True.intro) | (with_reducible refine Need.mk ?_ ?_) | (with_reducible refine And.intro ?_ ?_) | (with_reducible intro _) | ((fail_if_success (with_reducible refine FinS.mk ?_)); (fail_if_success (with_reducible refine Le.mk ?_)); (conv => whnf)) | (refine FinS.b ?_) | (refine FinS.lb ?_) | (refine FinS.i ?_) | (refine FinS.f ?_) | (refine FinS.agg ?_) | (refine FinS.tup ?_)))
      all_goals (try refine Side.mk ?_)
      all_goals (try simp only [Int.toNat_natCast, Nat.zero_add, w1, Nat.succ_eq_add_one] at *)
      all_goals (try simp only [eq_self, decide_eq_true_eq, decide_eq_false_iff_not, Int.ofNat_lt, Int.ofNat_le, gt_iff_lt, ge_iff_le, true_and, Bool.not_eq_true', Bool.not_eq_false'] at *)
      all_goals first | (with_reducible rfl) | trivial | omega | rfl | exact fun _ _ => trivial | exact ⟨rfl, rfl⟩ | exact ⟨rfl, fun _ _ => rfl⟩ | exact ⟨rfl, rfl, fun _ _ => rfl⟩ | (exact ⟨by omega, by omega⟩)
    · obtain rfl : i = nn := by omega
      repeat' ((fail_if_success (with_reducible refine Side.mk ?_)); first | (refine Rest.mk (drawR_sound zES14_M mixOK (hndU_sound U30_k zHS14_M) ?_)) | ((fail_if_success (with_reducible refine Rest.mk ?_)); first | (with_reducible exact True.intro) | (with_reducible refine Need.mk ?_ ?_) | (with_reducible refine And.intro ?_ ?_) | (with_reducible intro hcl; try (exfalso; (simp only [decide_eq_true_eq, decide_eq_false_iff_not] at hcl; omega); done)) | ((fail_if_success (with_reducible refine FinS.mk ?_)); (fail_if_success (with_reducible refine Le.mk ?_)); (conv => whnf)) | (refine FinS.b ?_) | (refine FinS.lb ?_) | (refine FinS.i ?_) | (refine FinS.f ?_) | (refine FinS.agg ?_) | (refine FinS.tup ?_)))
      · exact ⟨⟨by omega, by omega⟩⟩
      · refine Side.mk ?_
        rw [Int.toNat_natCast, c2]
        decide +kernel
noncomputable def g15 : List MV → Option (List Prop × MV × List Blk × Bool)
  | [.ro 4 m own, .ro 4 nn get] => some ([isBx m own, isBx nn get, m = nn + 1, nn ≤ room, ∀ k, k < nn → bOf own k = bOf get k, bOf own nn = mark], .b true, [], false)
  | _ => none
theorem s15 : SumsOK Try.prog (sumOf 15 g15 S14) := by
  refine SumsOK.add S14_ok fun ms ps m blks al e hp => ?_
  unfold g15 at e
  split at e
  · cases e
    rename_i m own nn get
    have h1 := hp _ (.head _)
    have h2 := hp _ (.tail _ (.head _))
    have h3 : m = nn + 1 := hp _ (.tail _ (.tail _ (.head _)))
    have h4 := hp _ (.tail _ (.tail _ (.tail _ (.head _))))
    have h5 := hp _ (.tail _ (.tail _ (.tail _ (.tail _ (.head _)))))
    have h6 := hp _ (.tail _ (.tail _ (.tail _ (.tail _ (.tail _ (.head _))))))
    subst h3
    exact ((t15 nn (bOf get) (bOf own) h4 h5 h6).aloneT rfl).le2 (leR_bx h1) (leR_bx h2)
  · cases e
noncomputable def S15 := sumOf 15 g15 S14
theorem S15_ok : SumsOK Try.prog S15 := s15
end Go.Ev.Sweep
