/-
  The contracts of both Sides and of Same; for lists below 2^62 points.
-/
import Derived.Test.YtbehddngdjfkhaaClipN
set_option linter.unusedSimpArgs false
set_option linter.unusedVariables false
open Go Go.Proofs
namespace Go.Ev.Clip
set_option maxRecDepth 100000
set_option maxHeartbeats 1000000
def sameL (n : Nat) (p : Nat → Nat × Nat) (m : Nat) (q : Nat → Nat × Nat) : Bool := Nat.beq n m && (List.range n).all fun i => sameI (p i).1 (p i).2 (q i).1 (q i).2
theorem same_n {n m : Nat} {p q : Nat → Nat × Nat} (h : n ≠ m) : sameL n p m q = false := by unfold sameL; rw [beq_f h]; rfl
theorem same_f {n m i : Nat} {p q : Nat → Nat × Nat} (hi : i < n) (h : sameI (p i).1 (p i).2 (q i).1 (q i).2 = false) : sameL n p m q = false := by unfold sameL; rw [all_f hi h, Bool.and_false]
theorem same_t {n m : Nat} {p q : Nat → Nat × Nat} (e : n = m) (h : ∀ i, i < n → sameI (p i).1 (p i).2 (q i).1 (q i).2 = true) : sameL n p m q = true := by
  subst e; unfold sameL; rw [all_t h, show Nat.beq n n = true by simp]; rfl
abbrev Pl := Nat × Nat × Nat
def plM (v : Pl) : List MV := [.f .f64 v.1, .f .f64 v.2.1, .f .f64 v.2.2]
def sideV (f : Nat → Nat × Nat) (p : Nat → Nat × Nat) (i : Nat) : Pl := ((f i).1, (f i).2, dotV (f i) (p i))
def rowTo3 (f : Nat → Pl) (i k : Nat) : List MV := plM (bif Nat.blt k i then f k else (0, 0, 0))
theorem updL_rowTo3 {f : Nat → Pl} {i k m : Nat} (hm : m = i) : updL (Nat.beq k m) (rowTo3 f i k) 0 (plM (f i)) = rowTo3 f (i + 1) k := by
  subst hm
  rcases Nat.lt_trichotomy k m with h | h | h
  · unfold rowTo3; rw [blt_t h, blt_t (Nat.lt_succ_of_lt h), beq_f (by omega)]; rfl
  · subst h
    unfold rowTo3
    rw [blt_f (Nat.le_refl k), blt_t (Nat.lt_succ_self k), show Nat.beq k k = true by simp]; rfl
  · unfold rowTo3; rw [blt_f (by omega), blt_f (by omega), beq_f (by omega)]; rfl
theorem rowTo3_fin {f : Nat → Pl} {n m i k : Nat} (hm : m = n) (hi : i = n) (hk : k < m) : rowTo3 f i k = plM (f k) := by
  unfold rowTo3; rw [blt_t (by omega)]; rfl
theorem app_pl {i k j : Nat} {f : Nat → Pl} {X : Nat → List MV} {tl : List MV} (hX : X 0 = .f .f64 (f i).1 :: .f .f64 (f i).2.1 :: .f .f64 (f i).2.2 :: tl) (hk : k < i + 1) (hj : j < 3) : getM (appGet i (fun k => plM (f k)) X k) j = getM (plM (f k)) j := by
  unfold appGet
  rw [show k - i = 0 by omega, hX]
  have hj : j = 0 ∨ j = 1 ∨ j = 2 := by omega
  rcases Nat.lt_or_eq_of_le (Nat.le_of_lt_succ hk) with e | e
  · rw [blt_t e]; rcases hj with rfl | rfl | rfl <;> rfl
  · subst e; rw [blt_f (Nat.le_refl _)]; rcases hj with rfl | rfl | rfl <;> rfl
theorem zHS66_S3 {cx : Cx} : CallH (genQ Try.prog exts eqs [] S66).P cx (hnd (genQ Try.prog exts eqs [] S66) cx 6) := hnd_sound (genQ_full extsOK eqsOK S66_ok) 6
theorem zES66_S3 : EnvAll (genQ Try.prog exts eqs [] S66) := (genQ_full extsOK eqsOK S66_ok).toEnvAll
theorem t12L (n : Nat) (p : Nat → Nat × Nat) (m : Nat) (q : Nat → Nat × Nat) (c0 : n < big) (c1 : m < big): CM Try.prog 12 [.ro 2 n (fun j => ptM (p j)), .ro 2 m (fun j => ptM (q j))] (.b (sameL n p m q)) [] true := by
  refine CM.of_genQ (exts := exts) (eqs := eqs) (inl := []) (sum := S66) extsOK eqsOK S66_ok fi12_ok 6 rfl fun cx => ?_
  have k0 : n < 4611686018427387904 := c0
  have k1 : m < 4611686018427387904 := c1
  repeat' ((fail_if_success (with_reducible refine Side.mk ?_)); first | (refine Rest.mk (drawR_sound zES66_S3 mixOK zHS66_S3 ?_)) | ((fail_if_success (with_reducible refine Rest.mk ?_)); first | (with_reducible exact True.intro) | (with_reducible refine Need.mk ?_ ?_) | (with_reducible refine And.intro ?_ ?_) | (with_reducible intro _) | ((fail_if_success (with_reducible refine FinS.mk ?_)); (fail_if_success (with_reducible refine Le.mk ?_)); (conv => whnf)) | (refine FinS.b ?_) | (refine FinS.lb ?_) | (refine FinS.i ?_) | (refine FinS.f ?_) | (refine FinS.agg ?_) | (refine FinS.tup ?_)))
  rotate_right
  · rename_i hq
    have hm : n = m := by simp at hq; omega
    clear hq
    refine loop_ruleC zES66_S3 zHS66_S3 (fun i => ⟨[(0, .ro 2 n (fun j => ptM (p j))), (1, .ro 2 m (fun j => ptM (q j))), (5, .i .i64 (i : Int))], [], [], 0⟩) (fun i => ∀ j, j < i → sameI (p j).1 (p j).2 (q j).1 (q j).2 = true) (n) (Le.of ?_) ?_ ?_
    · conv => whnf
      repeat' ((fail_if_success (with_reducible refine Side.mk ?_)); first | (refine Rest.mk (drawR_sound zES66_S3 mixOK zHS66_S3 ?_)) | ((fail_if_success (with_reducible refine Rest.mk ?_)); first | (with_reducible exact True.intro) | (with_reducible refine Need.mk ?_ ?_) | (with_reducible refine And.intro ?_ ?_) | (with_reducible intro _) | ((fail_if_success (with_reducible refine FinS.mk ?_)); (fail_if_success (with_reducible refine Le.mk ?_)); (conv => whnf)) | (refine FinS.b ?_) | (refine FinS.lb ?_) | (refine FinS.i ?_) | (refine FinS.f ?_) | (refine FinS.agg ?_) | (refine FinS.tup ?_)))
      all_goals (try (refine Le.of ?_; (conv => whnf)))
      repeat' ((fail_if_success (with_reducible refine Side.mk ?_)); first | (refine Rest.mk (drawR_sound zES66_S3 mixOK zHS66_S3 ?_)) | ((fail_if_success (with_reducible refine Rest.mk ?_)); first | (with_reducible exact True.intro) | (with_reducible refine Need.mk ?_ ?_) | (with_reducible refine And.intro ?_ ?_) | (with_reducible intro _) | ((fail_if_success (with_reducible refine FinS.mk ?_)); (fail_if_success (with_reducible refine Le.mk ?_)); (conv => whnf)) | (refine FinS.b ?_) | (refine FinS.lb ?_) | (refine FinS.i ?_) | (refine FinS.f ?_) | (refine FinS.agg ?_) | (refine FinS.tup ?_)))
      all_goals (try refine Side.mk ?_)
      all_goals (try simp only [decide_eq_true_eq, decide_eq_false_iff_not, Int.ofNat_lt, Int.ofNat_le, gt_iff_lt, ge_iff_le, true_and, Bool.not_eq_true', Bool.not_eq_false'] at *)
      all_goals first | rfl | trivial | exact fun _ _ => trivial | exact ⟨rfl, rfl⟩ | exact ⟨rfl, fun _ _ => rfl⟩ | exact ⟨rfl, rfl, fun _ _ => rfl⟩ | exact i64_id (by omega) (by omega) | omega
    · intro j hj; omega
    · intro i hi hpre
      repeat' ((fail_if_success (with_reducible refine Side.mk ?_)); first | (refine Rest.mk (drawR_sound zES66_S3 mixOK zHS66_S3 ?_)) | ((fail_if_success (with_reducible refine Rest.mk ?_)); first | (with_reducible exact True.intro) | (with_reducible refine Need.mk ?_ ?_) | (with_reducible refine And.intro ?_ ?_) | (with_reducible intro _) | ((fail_if_success (with_reducible refine FinS.mk ?_)); (fail_if_success (with_reducible refine Le.mk ?_)); (conv => whnf)) | (refine FinS.b ?_) | (refine FinS.lb ?_) | (refine FinS.i ?_) | (refine FinS.f ?_) | (refine FinS.agg ?_) | (refine FinS.tup ?_)))
      all_goals (try (refine Le.of ?_; (conv => whnf)))
      repeat' ((fail_if_success (with_reducible refine Side.mk ?_)); first | (refine Rest.mk (drawR_sound zES66_S3 mixOK zHS66_S3 ?_)) | ((fail_if_success (with_reducible refine Rest.mk ?_)); first | (with_reducible exact True.intro) | (with_reducible refine Need.mk ?_ ?_) | (with_reducible refine And.intro ?_ ?_) | (with_reducible intro _) | ((fail_if_success (with_reducible refine FinS.mk ?_)); (fail_if_success (with_reducible refine Le.mk ?_)); (conv => whnf)) | (refine FinS.b ?_) | (refine FinS.lb ?_) | (refine FinS.i ?_) | (refine FinS.f ?_) | (refine FinS.agg ?_) | (refine FinS.tup ?_)))
      all_goals (try refine Side.mk ?_)
      all_goals (try simp only [decide_eq_true_eq, decide_eq_false_iff_not, Int.ofNat_lt, Int.ofNat_le, gt_iff_lt, ge_iff_le, true_and, Bool.not_eq_true', Bool.not_eq_false'] at *)
      all_goals first | rfl | trivial | exact fun _ _ => trivial | exact ⟨rfl, rfl⟩ | exact ⟨rfl, fun _ _ => rfl⟩ | exact ⟨rfl, rfl, fun _ _ => rfl⟩ | exact i64_id (by omega) (by omega) | omega | (exact (same_f (i := i) (by omega) ‹_›).symm) | (exact (same_t hm fun j hj => hpre j (by omega)).symm) | (exact ⟨by omega, pre_up hpre ‹_›⟩)
  all_goals (try (refine Le.of ?_; (conv => whnf)))
  repeat' ((fail_if_success (with_reducible refine Side.mk ?_)); first | (refine Rest.mk (drawR_sound zES66_S3 mixOK zHS66_S3 ?_)) | ((fail_if_success (with_reducible refine Rest.mk ?_)); first | (with_reducible exact True.intro) | (with_reducible refine Need.mk ?_ ?_) | (with_reducible refine And.intro ?_ ?_) | (with_reducible intro _) | ((fail_if_success (with_reducible refine FinS.mk ?_)); (fail_if_success (with_reducible refine Le.mk ?_)); (conv => whnf)) | (refine FinS.b ?_) | (refine FinS.lb ?_) | (refine FinS.i ?_) | (refine FinS.f ?_) | (refine FinS.agg ?_) | (refine FinS.tup ?_)))
  all_goals (try refine Side.mk ?_)
  all_goals (try simp only [decide_eq_true_eq, decide_eq_false_iff_not, Int.ofNat_lt, Int.ofNat_le, gt_iff_lt, ge_iff_le, true_and, Bool.not_eq_true', Bool.not_eq_false'] at *)
  all_goals first | rfl | trivial | exact fun _ _ => trivial | exact ⟨rfl, rfl⟩ | exact ⟨rfl, fun _ _ => rfl⟩ | exact ⟨rfl, rfl, fun _ _ => rfl⟩ | exact i64_id (by omega) (by omega) | omega | (exact (same_n (by simp at *; omega)).symm)
noncomputable def g12L : List MV → Option (List Prop × MV × List Blk × Bool)
  | [.ro 2 n get, .ro 2 m get'] => some ([isPts n get, isPts m get', n < big, m < big], .b (sameL n (pOf get) m (pOf get')), [], false)
  | _ => none
theorem s12L : SumsOK Try.prog (sumOf 12 g12L S66) := by
  refine SumsOK.add S66_ok fun ms ps m blks al e hp => ?_
  unfold g12L at e
  split at e
  · cases e
    exact ((t12L _ (pOf _) _ (pOf _) (hp _ (.tail _ (.tail _ (.head _)))) (hp _ (.tail _ (.tail _ (.tail _ (.head _)))))).aloneT rfl).le2 (leR_pts (hp _ (.head _))) (leR_pts (hp _ (.tail _ (.head _))))
  · cases e
noncomputable def S12L := sumOf 12 g12L S66
theorem S12L_ok : SumsOK Try.prog S12L := s12L
noncomputable def fi26 : FnI := ⟨43, Try.f26.body.getD .skip, [.tmp 2, .tmp 3], true⟩
theorem fi26_ok : fnGen Try.prog 26 = some fi26 := by kernel_rfl
theorem zHS12L_S3 {cx : Cx} : CallH (genQ Try.prog exts eqs [] S12L).P cx (hnd (genQ Try.prog exts eqs [] S12L) cx 6) := hnd_sound (genQ_full extsOK eqsOK S12L_ok) 6
theorem zES12L_S3 : EnvAll (genQ Try.prog exts eqs [] S12L) := (genQ_full extsOK eqsOK S12L_ok).toEnvAll
theorem t26 (n : Nat) (p : Nat → Nat × Nat) (c0 : n < big): CM Try.prog 26 [.ro 2 n (fun j => ptM (p j))] (.tup [.os 0 3 0 (nOk (checkV n p) n), .i .i64 (checkV n p)]) [.rows 3 (nOk (checkV n p) n) fun i => plM (sideV (normV n p) p i)] true := by
  refine CM.of_genQ (exts := exts) (eqs := eqs) (inl := []) (sum := S12L) extsOK eqsOK S12L_ok fi26_ok 6 rfl fun cx => ?_
  have c1 : n < 4611686018427387904 := c0
  repeat' ((fail_if_success (with_reducible refine Side.mk ?_)); first | (refine Rest.mk (drawR_sound zES12L_S3 mixOK zHS12L_S3 ?_)) | ((fail_if_success (with_reducible refine Rest.mk ?_)); first | (with_reducible exact True.intro) | (with_reducible refine Need.mk ?_ ?_) | (with_reducible refine And.intro ?_ ?_) | (with_reducible intro _) | ((fail_if_success (with_reducible refine FinS.mk ?_)); (fail_if_success (with_reducible refine Le.mk ?_)); (conv => whnf)) | (refine FinS.b ?_) | (refine FinS.lb ?_) | (refine FinS.i ?_) | (refine FinS.f ?_) | (refine FinS.agg ?_) | (refine FinS.tup ?_)))
  rotate_right
  · rename_i hc
    have hc : (checkV n p != 0) = false := hc
    have hL := check_le hc
    have hN : nOk (checkV n p) n = n := nOk_0 hc
    refine loop_ruleC zES12L_S3 zHS12L_S3 (fun i => ⟨[(0, .ro 2 n (fun j => ptM (p j))), (4, .os 0 2 0 n), (6, .os 1 3 0 n), (20, .i .i64 (n : Int)), (21, .i .i64 (i : Int))], [], [(0, .rows 2 n fun k => ptM (normV n p k)), (1, .rows 3 n (rowTo3 (sideV (normV n p) p) i))], 2⟩) (fun i => True) (n) (Le.of ?_) ?_ ?_
    · conv => whnf
      repeat' ((fail_if_success (with_reducible refine Side.mk ?_)); first | (refine Rest.mk (drawR_sound zES12L_S3 mixOK zHS12L_S3 ?_)) | ((fail_if_success (with_reducible refine Rest.mk ?_)); first | (with_reducible exact True.intro) | (with_reducible refine Need.mk ?_ ?_) | (with_reducible refine And.intro ?_ ?_) | (with_reducible intro _) | ((fail_if_success (with_reducible refine FinS.mk ?_)); (fail_if_success (with_reducible refine Le.mk ?_)); (conv => whnf)) | (refine FinS.b ?_) | (refine FinS.lb ?_) | (refine FinS.i ?_) | (refine FinS.f ?_) | (refine FinS.agg ?_) | (refine FinS.tup ?_)))
      all_goals (try (refine Le.of ?_; (conv => whnf)))
      repeat' ((fail_if_success (with_reducible refine Side.mk ?_)); first | (refine Rest.mk (drawR_sound zES12L_S3 mixOK zHS12L_S3 ?_)) | ((fail_if_success (with_reducible refine Rest.mk ?_)); first | (with_reducible exact True.intro) | (with_reducible refine Need.mk ?_ ?_) | (with_reducible refine And.intro ?_ ?_) | (with_reducible intro _) | ((fail_if_success (with_reducible refine FinS.mk ?_)); (fail_if_success (with_reducible refine Le.mk ?_)); (conv => whnf)) | (refine FinS.b ?_) | (refine FinS.lb ?_) | (refine FinS.i ?_) | (refine FinS.f ?_) | (refine FinS.agg ?_) | (refine FinS.tup ?_)))
      all_goals (try refine Side.mk ?_)
      all_goals (try simp only [decide_eq_true_eq, decide_eq_false_iff_not, Int.ofNat_lt, Int.ofNat_le, gt_iff_lt, ge_iff_le, true_and, Bool.not_eq_true', Bool.not_eq_false', Nat.zero_add, Int.toNat_natCast] at *)
      all_goals first | rfl | trivial | exact fun _ _ => trivial | exact ⟨rfl, rfl⟩ | exact ⟨rfl, fun _ _ => rfl⟩ | exact ⟨rfl, rfl, fun _ _ => rfl⟩ | exact i64_id (by omega) (by omega) | omega | (exact hN) | (exact ⟨rfl, hN⟩) | (exact ⟨rfl, rfl, hN⟩) | (exact ⟨rfl, rfl, rfl, hN⟩) | (exact ⟨rfl, hN, fun k hk j hj => .inr rfl⟩) | (exact ⟨hN, fun k hk j hj => .inr rfl⟩) | (exact congrArg Nat.cast hN) | ((rename_i hlt; exact ⟨trivial, fun k hk j hj => .inr (congrArg (fun l => getM l j) (updL_rowTo3 (f := sideV (normV n p) p) rfl))⟩)) | (exact fun k hk j hj => .inr (congrArg (fun l => getM l j) (updL_rowTo3 (f := sideV (normV n p) p) rfl)))
    · trivial
    · intro i hi _
      repeat' ((fail_if_success (with_reducible refine Side.mk ?_)); first | (refine Rest.mk (drawR_sound zES12L_S3 mixOK zHS12L_S3 ?_)) | ((fail_if_success (with_reducible refine Rest.mk ?_)); first | (with_reducible exact True.intro) | (with_reducible refine Need.mk ?_ ?_) | (with_reducible refine And.intro ?_ ?_) | (with_reducible intro _) | ((fail_if_success (with_reducible refine FinS.mk ?_)); (fail_if_success (with_reducible refine Le.mk ?_)); (conv => whnf)) | (refine FinS.b ?_) | (refine FinS.lb ?_) | (refine FinS.i ?_) | (refine FinS.f ?_) | (refine FinS.agg ?_) | (refine FinS.tup ?_)))
      all_goals (try (refine Le.of ?_; (conv => whnf)))
      repeat' ((fail_if_success (with_reducible refine Side.mk ?_)); first | (refine Rest.mk (drawR_sound zES12L_S3 mixOK zHS12L_S3 ?_)) | ((fail_if_success (with_reducible refine Rest.mk ?_)); first | (with_reducible exact True.intro) | (with_reducible refine Need.mk ?_ ?_) | (with_reducible refine And.intro ?_ ?_) | (with_reducible intro _) | ((fail_if_success (with_reducible refine FinS.mk ?_)); (fail_if_success (with_reducible refine Le.mk ?_)); (conv => whnf)) | (refine FinS.b ?_) | (refine FinS.lb ?_) | (refine FinS.i ?_) | (refine FinS.f ?_) | (refine FinS.agg ?_) | (refine FinS.tup ?_)))
      all_goals (try refine Side.mk ?_)
      all_goals (try simp only [decide_eq_true_eq, decide_eq_false_iff_not, Int.ofNat_lt, Int.ofNat_le, gt_iff_lt, ge_iff_le, true_and, Bool.not_eq_true', Bool.not_eq_false', Nat.zero_add, Int.toNat_natCast] at *)
      all_goals first | rfl | trivial | exact fun _ _ => trivial | exact ⟨rfl, rfl⟩ | exact ⟨rfl, fun _ _ => rfl⟩ | exact ⟨rfl, rfl, fun _ _ => rfl⟩ | exact i64_id (by omega) (by omega) | omega | (exact ⟨isPts_pt _ _, by omega, by omega, c0⟩) | (exact FinS.rows 1 ⟨rfl, (nOk_0 hc).symm, fun k hk j hj => congrArg (fun l => getM l j) (rowTo3_fin (nOk_0 hc) (by omega) hk)⟩ ⟨⟨rfl, rfl, (nOk_0 hc).symm⟩, ⟨rfl, zeroOf hc⟩, True.intro⟩) | (exact FinS.rows 1 ⟨rfl, (by rw [nOk_0 hc]; omega), fun k hk j hj => rfl⟩ ⟨⟨rfl, rfl, (by rw [nOk_0 hc]; omega)⟩, ⟨rfl, zeroOf hc⟩, True.intro⟩) | (exact fun _ _ _ _ => .inr trivial) | ((rename_i hlt; exact ⟨trivial, fun k hk j hj => .inr (congrArg (fun l => getM l j) (updL_rowTo3 (f := sideV (normV n p) p) rfl))⟩)) | (exact fun k hk j hj => .inr (congrArg (fun l => getM l j) (updL_rowTo3 (f := sideV (normV n p) p) rfl)))
  all_goals (try (refine Le.of ?_; (conv => whnf)))
  repeat' ((fail_if_success (with_reducible refine Side.mk ?_)); first | (refine Rest.mk (drawR_sound zES12L_S3 mixOK zHS12L_S3 ?_)) | ((fail_if_success (with_reducible refine Rest.mk ?_)); first | (with_reducible exact True.intro) | (with_reducible refine Need.mk ?_ ?_) | (with_reducible refine And.intro ?_ ?_) | (with_reducible intro _) | ((fail_if_success (with_reducible refine FinS.mk ?_)); (fail_if_success (with_reducible refine Le.mk ?_)); (conv => whnf)) | (refine FinS.b ?_) | (refine FinS.lb ?_) | (refine FinS.i ?_) | (refine FinS.f ?_) | (refine FinS.agg ?_) | (refine FinS.tup ?_)))
  all_goals (try refine Side.mk ?_)
  all_goals (try simp only [decide_eq_true_eq, decide_eq_false_iff_not, Int.ofNat_lt, Int.ofNat_le, gt_iff_lt, ge_iff_le, true_and, Bool.not_eq_true', Bool.not_eq_false'] at *)
  all_goals first | rfl | trivial | exact fun _ _ => trivial | exact ⟨rfl, rfl⟩ | exact ⟨rfl, fun _ _ => rfl⟩ | exact ⟨rfl, rfl, fun _ _ => rfl⟩ | exact i64_id (by omega) (by omega) | omega | (exact ⟨isPts_pt _ _, c0⟩) | (exact FinS.rows0 ⟨nOk_1 ‹_›⟩ ⟨⟨nOk_1 ‹_›⟩, ⟨rfl, rfl⟩, True.intro⟩) | (((have hL := check_le ‹_›); (have hN : nOk (checkV n p) n = n := nOk_0 ‹_›); exact ⟨by omega, by omega, (by show (24 : Int) * ((nOk (checkV n p) n : Nat) : Int) ≤ 140737488355328; omega), (by show ((nOk (checkV n p) n : Nat) : Int) ≤ 140737488355328; omega)⟩))
noncomputable def g26 : List MV → Option (List Prop × MV × List Blk × Bool)
  | [.ro 2 n get] => some ([isPts n get, n < big], .tup [.os 0 3 0 (nOk (checkV n (pOf get)) n), .i .i64 (checkV n (pOf get))], [.rows 3 (nOk (checkV n (pOf get)) n) fun i => plM (sideV (normV n (pOf get)) (pOf get) i)], true)
  | _ => none
theorem s26 : SumsOK Try.prog (sumOf 26 g26 S12L) := by
  refine SumsOK.add S12L_ok fun ms ps m blks al e hp => ?_
  unfold g26 at e
  split at e
  · cases e
    exact (le_arg1 (t26 _ (pOf _) (hp _ (.tail _ (.head _)))) (leR_pts (hp _ (.head _))))
  · cases e
noncomputable def S26 := sumOf 26 g26 S12L
theorem S26_ok : SumsOK Try.prog S26 := s26
noncomputable def fi45 : FnI := ⟨40, Try.f45.body.getD .skip, [.tmp 2, .tmp 3], true⟩
theorem fi45_ok : fnGen Try.prog 45 = some fi45 := by kernel_rfl
theorem zHS26_S3 {cx : Cx} : CallH (genQ Try.prog exts eqs [] S26).P cx (hnd (genQ Try.prog exts eqs [] S26) cx 6) := hnd_sound (genQ_full extsOK eqsOK S26_ok) 6
theorem zES26_S3 : EnvAll (genQ Try.prog exts eqs [] S26) := (genQ_full extsOK eqsOK S26_ok).toEnvAll
theorem t45 (n : Nat) (p : Nat → Nat × Nat) (c0 : n < big): CM Try.prog 45 [.ro 2 n (fun j => ptM (p j))] (.tup [.os 0 3 0 (nOk (rcheckV n p) n), .i .i64 (rcheckV n p)]) [.rows 3 (nOk (rcheckV n p) n) fun i => plM (sideV (rnormV n p) p i)] true := by
  refine CM.of_genQ (exts := exts) (eqs := eqs) (inl := []) (sum := S26) extsOK eqsOK S26_ok fi45_ok 6 rfl fun cx => ?_
  have c1 : n < 4611686018427387904 := c0
  repeat' ((fail_if_success (with_reducible refine Side.mk ?_)); first | (refine Rest.mk (drawR_sound zES26_S3 mixOK zHS26_S3 ?_)) | ((fail_if_success (with_reducible refine Rest.mk ?_)); first | (with_reducible exact True.intro) | (with_reducible refine Need.mk ?_ ?_) | (with_reducible refine And.intro ?_ ?_) | (with_reducible intro _) | ((fail_if_success (with_reducible refine FinS.mk ?_)); (fail_if_success (with_reducible refine Le.mk ?_)); (conv => whnf)) | (refine FinS.b ?_) | (refine FinS.lb ?_) | (refine FinS.i ?_) | (refine FinS.f ?_) | (refine FinS.agg ?_) | (refine FinS.tup ?_)))
  rotate_right
  · rename_i hc
    have hc : (rcheckV n p != 0) = false := hc
    have hL := rcheck_le hc
    have hN : nOk (rcheckV n p) n = n := nOk_0 hc
    refine loop_ruleC zES26_S3 zHS26_S3 (fun i => ⟨[(0, .ro 2 n (fun j => ptM (p j))), (4, .os 0 2 0 n), (7, .i .i64 (i : Int)), (6, .os 1 3 0 i)], [], [(0, .rows 2 n fun k => ptM (rnormV n p k)), (1, .rows 3 i fun k => plM (sideV (rnormV n p) p k))], 2⟩) (fun i => True) (n) (Le.phan 3 (Le.of ?_)) ?_ ?_
    · conv => whnf
      repeat' ((fail_if_success (with_reducible refine Side.mk ?_)); first | (refine Rest.mk (drawR_sound zES26_S3 mixOK zHS26_S3 ?_)) | ((fail_if_success (with_reducible refine Rest.mk ?_)); first | (with_reducible exact True.intro) | (with_reducible refine Need.mk ?_ ?_) | (with_reducible refine And.intro ?_ ?_) | (with_reducible intro _) | ((fail_if_success (with_reducible refine FinS.mk ?_)); (fail_if_success (with_reducible refine Le.mk ?_)); (conv => whnf)) | (refine FinS.b ?_) | (refine FinS.lb ?_) | (refine FinS.i ?_) | (refine FinS.f ?_) | (refine FinS.agg ?_) | (refine FinS.tup ?_)))
      all_goals (try (refine Le.of ?_; (conv => whnf)))
      repeat' ((fail_if_success (with_reducible refine Side.mk ?_)); first | (refine Rest.mk (drawR_sound zES26_S3 mixOK zHS26_S3 ?_)) | ((fail_if_success (with_reducible refine Rest.mk ?_)); first | (with_reducible exact True.intro) | (with_reducible refine Need.mk ?_ ?_) | (with_reducible refine And.intro ?_ ?_) | (with_reducible intro _) | ((fail_if_success (with_reducible refine FinS.mk ?_)); (fail_if_success (with_reducible refine Le.mk ?_)); (conv => whnf)) | (refine FinS.b ?_) | (refine FinS.lb ?_) | (refine FinS.i ?_) | (refine FinS.f ?_) | (refine FinS.agg ?_) | (refine FinS.tup ?_)))
      all_goals (try refine Side.mk ?_)
      all_goals (try simp only [decide_eq_true_eq, decide_eq_false_iff_not, Int.ofNat_lt, Int.ofNat_le, gt_iff_lt, ge_iff_le, true_and, Bool.not_eq_true', Bool.not_eq_false', Nat.zero_add, Int.toNat_natCast] at *)
      all_goals first | rfl | trivial | exact fun _ _ => trivial | exact ⟨rfl, rfl⟩ | exact ⟨rfl, fun _ _ => rfl⟩ | exact ⟨rfl, rfl, fun _ _ => rfl⟩ | exact i64_id (by omega) (by omega) | omega | (exact hN) | (exact ⟨rfl, hN⟩) | (exact ⟨rfl, rfl, hN⟩) | (exact ⟨rfl, rfl, rfl, hN⟩) | (exact ⟨rfl, hN, fun k hk j hj => .inr rfl⟩) | (exact ⟨hN, fun k hk j hj => .inr rfl⟩) | (exact congrArg Nat.cast hN) | (exact ⟨rfl, rfl, fun k hk j hj => absurd hk (Nat.not_lt_zero _)⟩) | (exact ⟨by omega, by omega, (by show (i + 1) * 24 ≤ _; omega), by omega⟩) | (exact fun k hk j hj => .inr (app_pl (f := sideV (rnormV n p) p) rfl hk hj))
    · trivial
    · intro i hi _
      repeat' ((fail_if_success (with_reducible refine Side.mk ?_)); first | (refine Rest.mk (drawR_sound zES26_S3 mixOK zHS26_S3 ?_)) | ((fail_if_success (with_reducible refine Rest.mk ?_)); first | (with_reducible exact True.intro) | (with_reducible refine Need.mk ?_ ?_) | (with_reducible refine And.intro ?_ ?_) | (with_reducible intro _) | ((fail_if_success (with_reducible refine FinS.mk ?_)); (fail_if_success (with_reducible refine Le.mk ?_)); (conv => whnf)) | (refine FinS.b ?_) | (refine FinS.lb ?_) | (refine FinS.i ?_) | (refine FinS.f ?_) | (refine FinS.agg ?_) | (refine FinS.tup ?_)))
      all_goals (try (refine Le.of ?_; (conv => whnf)))
      repeat' ((fail_if_success (with_reducible refine Side.mk ?_)); first | (refine Rest.mk (drawR_sound zES26_S3 mixOK zHS26_S3 ?_)) | ((fail_if_success (with_reducible refine Rest.mk ?_)); first | (with_reducible exact True.intro) | (with_reducible refine Need.mk ?_ ?_) | (with_reducible refine And.intro ?_ ?_) | (with_reducible intro _) | ((fail_if_success (with_reducible refine FinS.mk ?_)); (fail_if_success (with_reducible refine Le.mk ?_)); (conv => whnf)) | (refine FinS.b ?_) | (refine FinS.lb ?_) | (refine FinS.i ?_) | (refine FinS.f ?_) | (refine FinS.agg ?_) | (refine FinS.tup ?_)))
      all_goals (try refine Side.mk ?_)
      all_goals (try simp only [decide_eq_true_eq, decide_eq_false_iff_not, Int.ofNat_lt, Int.ofNat_le, gt_iff_lt, ge_iff_le, true_and, Bool.not_eq_true', Bool.not_eq_false', Nat.zero_add, Int.toNat_natCast] at *)
      all_goals first | rfl | trivial | exact fun _ _ => trivial | exact ⟨rfl, rfl⟩ | exact ⟨rfl, fun _ _ => rfl⟩ | exact ⟨rfl, rfl, fun _ _ => rfl⟩ | exact i64_id (by omega) (by omega) | omega | (exact ⟨isPts_pt _ _, by omega, by omega, c0⟩) | (exact FinS.rows 1 ⟨rfl, (nOk_0 hc).symm, fun k hk j hj => congrArg (fun l => getM l j) (rowTo3_fin (nOk_0 hc) (by omega) hk)⟩ ⟨⟨rfl, rfl, (nOk_0 hc).symm⟩, ⟨rfl, zeroOf hc⟩, True.intro⟩) | (exact FinS.rows 1 ⟨rfl, (by rw [nOk_0 hc]; omega), fun k hk j hj => rfl⟩ ⟨⟨rfl, rfl, (by rw [nOk_0 hc]; omega)⟩, ⟨rfl, zeroOf hc⟩, True.intro⟩) | (exact fun _ _ _ _ => .inr trivial) | (exact ⟨rfl, rfl, fun k hk j hj => absurd hk (Nat.not_lt_zero _)⟩) | (exact ⟨by omega, by omega, (by show (i + 1) * 24 ≤ _; omega), by omega⟩) | (exact fun k hk j hj => .inr (app_pl (f := sideV (rnormV n p) p) rfl hk hj))
  all_goals (try (refine Le.of ?_; (conv => whnf)))
  repeat' ((fail_if_success (with_reducible refine Side.mk ?_)); first | (refine Rest.mk (drawR_sound zES26_S3 mixOK zHS26_S3 ?_)) | ((fail_if_success (with_reducible refine Rest.mk ?_)); first | (with_reducible exact True.intro) | (with_reducible refine Need.mk ?_ ?_) | (with_reducible refine And.intro ?_ ?_) | (with_reducible intro _) | ((fail_if_success (with_reducible refine FinS.mk ?_)); (fail_if_success (with_reducible refine Le.mk ?_)); (conv => whnf)) | (refine FinS.b ?_) | (refine FinS.lb ?_) | (refine FinS.i ?_) | (refine FinS.f ?_) | (refine FinS.agg ?_) | (refine FinS.tup ?_)))
  all_goals (try refine Side.mk ?_)
  all_goals (try simp only [decide_eq_true_eq, decide_eq_false_iff_not, Int.ofNat_lt, Int.ofNat_le, gt_iff_lt, ge_iff_le, true_and, Bool.not_eq_true', Bool.not_eq_false'] at *)
  all_goals first | rfl | trivial | exact fun _ _ => trivial | exact ⟨rfl, rfl⟩ | exact ⟨rfl, fun _ _ => rfl⟩ | exact ⟨rfl, rfl, fun _ _ => rfl⟩ | exact i64_id (by omega) (by omega) | omega | (exact ⟨isPts_pt _ _, c0⟩) | (exact FinS.rows0 ⟨nOk_1 ‹_›⟩ ⟨⟨nOk_1 ‹_›⟩, ⟨rfl, rfl⟩, True.intro⟩) | (((have hL := rcheck_le ‹_›); (have hN : nOk (rcheckV n p) n = n := nOk_0 ‹_›); exact ⟨by omega, by omega, (by show (24 : Int) * ((nOk (rcheckV n p) n : Nat) : Int) ≤ 140737488355328; omega), (by show ((nOk (rcheckV n p) n : Nat) : Int) ≤ 140737488355328; omega)⟩))
noncomputable def g45 : List MV → Option (List Prop × MV × List Blk × Bool)
  | [.ro 2 n get] => some ([isPts n get, n < big], .tup [.os 0 3 0 (nOk (rcheckV n (pOf get)) n), .i .i64 (rcheckV n (pOf get))], [.rows 3 (nOk (rcheckV n (pOf get)) n) fun i => plM (sideV (rnormV n (pOf get)) (pOf get) i)], true)
  | _ => none
theorem s45 : SumsOK Try.prog (sumOf 45 g45 S26) := by
  refine SumsOK.add S26_ok fun ms ps m blks al e hp => ?_
  unfold g45 at e
  split at e
  · cases e
    exact (le_arg1 (t45 _ (pOf _) (hp _ (.tail _ (.head _)))) (leR_pts (hp _ (.head _))))
  · cases e
noncomputable def S45 := sumOf 45 g45 S26
theorem S45_ok : SumsOK Try.prog S45 := s45
end Go.Ev.Clip
