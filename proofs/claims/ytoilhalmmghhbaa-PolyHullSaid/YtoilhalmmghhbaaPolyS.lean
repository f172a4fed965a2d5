/-
  The contracts of Same and of both Rectangles; for lists below 2^62 points, for all floats.
-/
import Derived.Test.YtoilhalmmghhbaaPolyN
set_option linter.unusedSimpArgs false
set_option linter.unusedVariables false
open Go Go.Proofs
namespace Go.Ev.Poly
set_option maxRecDepth 100000
set_option maxHeartbeats 1000000
def sameL (n : Nat) (p : Nat → Nat × Nat) (m : Nat) (q : Nat → Nat × Nat) : Bool := Nat.beq n m && (List.range n).all fun i => sameI (p i).1 (p i).2 (q i).1 (q i).2
theorem same_n {n m : Nat} {p q : Nat → Nat × Nat} (h : n ≠ m) : sameL n p m q = false := by unfold sameL; rw [beq_f h]; rfl
theorem same_f {n m i : Nat} {p q : Nat → Nat × Nat} (hi : i < n) (h : sameI (p i).1 (p i).2 (q i).1 (q i).2 = false) : sameL n p m q = false := by unfold sameL; rw [all_f hi h, Bool.and_false]
theorem same_t {n m : Nat} {p q : Nat → Nat × Nat} (e : n = m) (h : ∀ i, i < n → sameI (p i).1 (p i).2 (q i).1 (q i).2 = true) : sameL n p m q = true := by
  subst e; unfold sameL; rw [all_t h, show Nat.beq n n = true by simp]; rfl
theorem sameL_self {n : Nat} {p : Nat → Nat × Nat} : sameL n p n p = true := same_t rfl fun _ _ => sameI_self _ _
noncomputable def fi13 : FnI := ⟨27, Try.f13.body.getD .skip, [.tmp 4], true⟩
theorem fi13_ok : fnGen Try.prog 13 = some fi13 := by kernel_rfl
theorem zHS33_S3 {cx : Cx} : CallH (genQ Try.prog exts eqs [] S33).P cx (hnd (genQ Try.prog exts eqs [] S33) cx 6) := hnd_sound (genQ_full extsOK eqsOK S33_ok) 6
theorem zES33_S3 : EnvAll (genQ Try.prog exts eqs [] S33) := (genQ_full extsOK eqsOK S33_ok).toEnvAll
theorem t13L (n : Nat) (p : Nat → Nat × Nat) (m : Nat) (q : Nat → Nat × Nat) (c0 : n < big) (c1 : m < big): CM Try.prog 13 [.ro 2 n (fun j => ptM (p j)), .ro 2 m (fun j => ptM (q j))] (.b (sameL n p m q)) [] true := by
  refine CM.of_genQ (exts := exts) (eqs := eqs) (inl := []) (sum := S33) extsOK eqsOK S33_ok fi13_ok 6 rfl fun cx => ?_
  have k0 : n < 4611686018427387904 := c0
  have k1 : m < 4611686018427387904 := c1
  repeat' ((fail_if_success (with_reducible refine Side.mk ?_)); first | (refine Rest.mk (drawR_sound zES33_S3 mixOK zHS33_S3 ?_)) | ((fail_if_success (with_reducible refine Rest.mk ?_)); first | (with_reducible exact True.intro) | (with_reducible refine Need.mk ?_ ?_) | (with_reducible refine And.intro ?_ ?_) | (with_reducible intro _) | ((fail_if_success (with_reducible refine FinS.mk ?_)); (fail_if_success (with_reducible refine Le.mk ?_)); (conv => whnf)) | (refine FinS.b ?_) | (refine FinS.lb ?_) | (refine FinS.i ?_) | (refine FinS.f ?_) | (refine FinS.agg ?_) | (refine FinS.tup ?_)))
  rotate_right
  · rename_i hq
    have hm : n = m := by simp at hq; omega
    clear hq
    refine loop_ruleC zES33_S3 zHS33_S3 (fun i => ⟨[(0, .ro 2 n (fun j => ptM (p j))), (1, .ro 2 m (fun j => ptM (q j))), (5, .i .i64 (i : Int))], [], [], 0⟩) (fun i => ∀ j, j < i → sameI (p j).1 (p j).2 (q j).1 (q j).2 = true) (n) (Le.of ?_) ?_ ?_
    · conv => whnf
      repeat' ((fail_if_success (with_reducible refine Side.mk ?_)); first | (refine Rest.mk (drawR_sound zES33_S3 mixOK zHS33_S3 ?_)) | ((fail_if_success (with_reducible refine Rest.mk ?_)); first | (with_reducible exact True.intro) | (with_reducible refine Need.mk ?_ ?_) | (with_reducible refine And.intro ?_ ?_) | (with_reducible intro _) | ((fail_if_success (with_reducible refine FinS.mk ?_)); (fail_if_success (with_reducible refine Le.mk ?_)); (conv => whnf)) | (refine FinS.b ?_) | (refine FinS.lb ?_) | (refine FinS.i ?_) | (refine FinS.f ?_) | (refine FinS.agg ?_) | (refine FinS.tup ?_)))
      all_goals (try (refine Le.of ?_; (conv => whnf)))
      repeat' ((fail_if_success (with_reducible refine Side.mk ?_)); first | (refine Rest.mk (drawR_sound zES33_S3 mixOK zHS33_S3 ?_)) | ((fail_if_success (with_reducible refine Rest.mk ?_)); first | (with_reducible exact True.intro) | (with_reducible refine Need.mk ?_ ?_) | (with_reducible refine And.intro ?_ ?_) | (with_reducible intro _) | ((fail_if_success (with_reducible refine FinS.mk ?_)); (fail_if_success (with_reducible refine Le.mk ?_)); (conv => whnf)) | (refine FinS.b ?_) | (refine FinS.lb ?_) | (refine FinS.i ?_) | (refine FinS.f ?_) | (refine FinS.agg ?_) | (refine FinS.tup ?_)))
      all_goals (try refine Side.mk ?_)
      all_goals (try simp only [decide_eq_true_eq, decide_eq_false_iff_not, Int.ofNat_lt, Int.ofNat_le, gt_iff_lt, ge_iff_le, true_and, Bool.not_eq_true', Bool.not_eq_false'] at *)
      all_goals first | rfl | trivial | exact fun _ _ => trivial | exact ⟨rfl, rfl⟩ | exact ⟨rfl, fun _ _ => rfl⟩ | exact ⟨rfl, rfl, fun _ _ => rfl⟩ | exact i64_id (by omega) (by omega) | omega
    · intro j hj; omega
    · intro i hi hpre
      repeat' ((fail_if_success (with_reducible refine Side.mk ?_)); first | (refine Rest.mk (drawR_sound zES33_S3 mixOK zHS33_S3 ?_)) | ((fail_if_success (with_reducible refine Rest.mk ?_)); first | (with_reducible exact True.intro) | (with_reducible refine Need.mk ?_ ?_) | (with_reducible refine And.intro ?_ ?_) | (with_reducible intro _) | ((fail_if_success (with_reducible refine FinS.mk ?_)); (fail_if_success (with_reducible refine Le.mk ?_)); (conv => whnf)) | (refine FinS.b ?_) | (refine FinS.lb ?_) | (refine FinS.i ?_) | (refine FinS.f ?_) | (refine FinS.agg ?_) | (refine FinS.tup ?_)))
      all_goals (try (refine Le.of ?_; (conv => whnf)))
      repeat' ((fail_if_success (with_reducible refine Side.mk ?_)); first | (refine Rest.mk (drawR_sound zES33_S3 mixOK zHS33_S3 ?_)) | ((fail_if_success (with_reducible refine Rest.mk ?_)); first | (with_reducible exact True.intro) | (with_reducible refine Need.mk ?_ ?_) | (with_reducible refine And.intro ?_ ?_) | (with_reducible intro _) | ((fail_if_success (with_reducible refine FinS.mk ?_)); (fail_if_success (with_reducible refine Le.mk ?_)); (conv => whnf)) | (refine FinS.b ?_) | (refine FinS.lb ?_) | (refine FinS.i ?_) | (refine FinS.f ?_) | (refine FinS.agg ?_) | (refine FinS.tup ?_)))
      all_goals (try refine Side.mk ?_)
      all_goals (try simp only [decide_eq_true_eq, decide_eq_false_iff_not, Int.ofNat_lt, Int.ofNat_le, gt_iff_lt, ge_iff_le, true_and, Bool.not_eq_true', Bool.not_eq_false'] at *)
      all_goals first | rfl | trivial | exact fun _ _ => trivial | exact ⟨rfl, rfl⟩ | exact ⟨rfl, fun _ _ => rfl⟩ | exact ⟨rfl, rfl, fun _ _ => rfl⟩ | exact i64_id (by omega) (by omega) | omega | (exact (same_f (i := i) (by omega) ‹_›).symm) | (exact (same_t hm fun j hj => hpre j (by omega)).symm) | (exact ⟨by omega, pre_up hpre ‹_›⟩)
  all_goals (try (refine Le.of ?_; (conv => whnf)))
  repeat' ((fail_if_success (with_reducible refine Side.mk ?_)); first | (refine Rest.mk (drawR_sound zES33_S3 mixOK zHS33_S3 ?_)) | ((fail_if_success (with_reducible refine Rest.mk ?_)); first | (with_reducible exact True.intro) | (with_reducible refine Need.mk ?_ ?_) | (with_reducible refine And.intro ?_ ?_) | (with_reducible intro _) | ((fail_if_success (with_reducible refine FinS.mk ?_)); (fail_if_success (with_reducible refine Le.mk ?_)); (conv => whnf)) | (refine FinS.b ?_) | (refine FinS.lb ?_) | (refine FinS.i ?_) | (refine FinS.f ?_) | (refine FinS.agg ?_) | (refine FinS.tup ?_)))
  all_goals (try refine Side.mk ?_)
  all_goals (try simp only [decide_eq_true_eq, decide_eq_false_iff_not, Int.ofNat_lt, Int.ofNat_le, gt_iff_lt, ge_iff_le, true_and, Bool.not_eq_true', Bool.not_eq_false'] at *)
  all_goals first | rfl | trivial | exact fun _ _ => trivial | exact ⟨rfl, rfl⟩ | exact ⟨rfl, fun _ _ => rfl⟩ | exact ⟨rfl, rfl, fun _ _ => rfl⟩ | exact i64_id (by omega) (by omega) | omega | (exact (same_n (by simp at *; omega)).symm)
noncomputable def g13L : List MV → Option (List Prop × MV × List Blk × Bool)
  | [.ro 2 n get, .ro 2 m get'] => some ([isPts n get, isPts m get', n < big, m < big], .b (sameL n (pOf get) m (pOf get')), [], false)
  | _ => none
theorem s13L : SumsOK Try.prog (sumOf 13 g13L S33) := by
  refine SumsOK.add S33_ok fun ms ps m blks al e hp => ?_
  unfold g13L at e
  split at e
  · cases e
    exact ((t13L _ (pOf _) _ (pOf _) (hp _ (.tail _ (.tail _ (.head _)))) (hp _ (.tail _ (.tail _ (.tail _ (.head _)))))).aloneT rfl).le2 (leR_pts (hp _ (.head _))) (leR_pts (hp _ (.tail _ (.head _))))
  · cases e
noncomputable def S13L := sumOf 13 g13L S33
theorem S13L_ok : SumsOK Try.prog S13L := s13L
def rectG (c1 c2 h1 h2 : Nat) : Nat → List MV := fun i => dropM [.f .f64 (fsub .f64 c1 h1), .f .f64 (fsub .f64 c2 h2), .f .f64 (fadd .f64 c1 h1), .f .f64 (fsub .f64 c2 h2), .f .f64 (fadd .f64 c1 h1), .f .f64 (fadd .f64 c2 h2), .f .f64 (fsub .f64 c1 h1), .f .f64 (fadd .f64 c2 h2)] (i * 2)
theorem isPts_rect (c1 c2 h1 h2 : Nat) : isPts 4 (rectG c1 c2 h1 h2) := fun i hi => by
  have : i = 0 ∨ i = 1 ∨ i = 2 ∨ i = 3 := by omega
  rcases this with rfl | rfl | rfl | rfl <;> exact ⟨rfl, rfl⟩
def rectP (c1 c2 h1 h2 : Nat) : Nat → Nat × Nat := pOf (rectG c1 c2 h1 h2)
def rectB (c1 c2 h1 h2 : Nat) : Bool := !(nw c1 4787326403894837248 && nw c2 4787326403894837248) || !(nw h1 4787326403894837248 && nw h2 4787326403894837248) || flt .f64 h1 4472074429978902528 || flt .f64 h2 4472074429978902528
def rrectB (c1 c2 h1 h2 : Nat) : Bool := !(aw c1 4787326403894837248 && aw c2 4787326403894837248) || !(aw h1 4787326403894837248 && aw h2 4787326403894837248) || flt .f64 h1 4472074429978902528 || flt .f64 h2 4472074429978902528
def rectE (c1 c2 h1 h2 : Nat) : Int := bif rectB c1 c2 h1 h2 then 5 else checkV 4 (rectP c1 c2 h1 h2)
def rrectE (c1 c2 h1 h2 : Nat) : Int := bif rrectB c1 c2 h1 h2 then 5 else rcheckV 4 (rectP c1 c2 h1 h2)
theorem rectE_t {c1 c2 h1 h2 : Nat} (h : rectB c1 c2 h1 h2 = true) : rectE c1 c2 h1 h2 = 5 := by unfold rectE; rw [h]; rfl
theorem rectE_f {c1 c2 h1 h2 : Nat} (h : rectB c1 c2 h1 h2 = false) : rectE c1 c2 h1 h2 = checkV 4 (rectP c1 c2 h1 h2) := by unfold rectE; rw [h]; rfl
theorem rectE_n {c1 c2 h1 h2 : Nat} (h : rectB c1 c2 h1 h2 = true) : nOk (rectE c1 c2 h1 h2) 4 = 0 := by rw [rectE_t h]; rfl
theorem rectE_n1 {c1 c2 h1 h2 : Nat} (h : rectB c1 c2 h1 h2 = false) (hc : (checkV 4 (rectP c1 c2 h1 h2) != 0) = true) : nOk (rectE c1 c2 h1 h2) 4 = 0 := by rw [rectE_f h]; exact nOk_1 hc
theorem rectE_n0 {c1 c2 h1 h2 : Nat} (h : rectB c1 c2 h1 h2 = false) (hc : (checkV 4 (rectP c1 c2 h1 h2) != 0) = false) : nOk (rectE c1 c2 h1 h2) 4 = 4 := by rw [rectE_f h]; exact nOk_0 hc
theorem rectE_0 {c1 c2 h1 h2 : Nat} (h : rectB c1 c2 h1 h2 = false) (hc : (checkV 4 (rectP c1 c2 h1 h2) != 0) = false) : 0 = rectE c1 c2 h1 h2 := by rw [rectE_f h]; exact zeroOf hc
theorem rrectE_t {c1 c2 h1 h2 : Nat} (h : rrectB c1 c2 h1 h2 = true) : rrectE c1 c2 h1 h2 = 5 := by unfold rrectE; rw [h]; rfl
theorem rrectE_f {c1 c2 h1 h2 : Nat} (h : rrectB c1 c2 h1 h2 = false) : rrectE c1 c2 h1 h2 = rcheckV 4 (rectP c1 c2 h1 h2) := by unfold rrectE; rw [h]; rfl
theorem rrectE_n {c1 c2 h1 h2 : Nat} (h : rrectB c1 c2 h1 h2 = true) : nOk (rrectE c1 c2 h1 h2) 4 = 0 := by rw [rrectE_t h]; rfl
theorem rrectE_n1 {c1 c2 h1 h2 : Nat} (h : rrectB c1 c2 h1 h2 = false) (hc : (rcheckV 4 (rectP c1 c2 h1 h2) != 0) = true) : nOk (rrectE c1 c2 h1 h2) 4 = 0 := by rw [rrectE_f h]; exact nOk_1 hc
theorem rrectE_n0 {c1 c2 h1 h2 : Nat} (h : rrectB c1 c2 h1 h2 = false) (hc : (rcheckV 4 (rectP c1 c2 h1 h2) != 0) = false) : nOk (rrectE c1 c2 h1 h2) 4 = 4 := by rw [rrectE_f h]; exact nOk_0 hc
theorem rrectE_0 {c1 c2 h1 h2 : Nat} (h : rrectB c1 c2 h1 h2 = false) (hc : (rcheckV 4 (rectP c1 c2 h1 h2) != 0) = false) : 0 = rrectE c1 c2 h1 h2 := by rw [rrectE_f h]; exact zeroOf hc
noncomputable def fi27 : FnI := ⟨77, Try.f27.body.getD .skip, [.tmp 4, .tmp 5], true⟩
theorem fi27_ok : fnGen Try.prog 27 = some fi27 := by kernel_rfl
theorem t27 (c1 c2 h1 h2 : Nat) : CM Try.prog 27 [.agg [.f .f64 c1, .f .f64 c2], .agg [.f .f64 h1, .f .f64 h2]] (.tup [.os 0 2 0 (nOk (rectE c1 c2 h1 h2) 4), .i .i64 (rectE c1 c2 h1 h2)]) [.rows 2 (nOk (rectE c1 c2 h1 h2) 4) (rectG c1 c2 h1 h2)] true := by
  refine CM.of_genQ (exts := exts) (eqs := eqs) (inl := []) (sum := S13L) extsOK eqsOK S13L_ok fi27_ok 6 rfl fun cx => ?_
  repeat' ((fail_if_success (with_reducible refine Side.mk ?_)); first | ((fail_if_success (with_reducible refine Rest.mk ?_)); first | (with_reducible exact True.intro) | (with_reducible refine Need.mk ?_ ?_) | (with_reducible refine And.intro ?_ ?_) | (with_reducible intro _) | ((fail_if_success (with_reducible refine FinS.mk ?_)); (fail_if_success (with_reducible refine Le.mk ?_)); (conv => whnf)) | (refine FinS.b ?_) | (refine FinS.lb ?_) | (refine FinS.i ?_) | (refine FinS.f ?_) | (refine FinS.agg ?_) | (refine FinS.tup ?_)))
  all_goals (try (refine Le.of ?_; (conv => whnf)))
  repeat' ((fail_if_success (with_reducible refine Side.mk ?_)); first | ((fail_if_success (with_reducible refine Rest.mk ?_)); first | (with_reducible exact True.intro) | (with_reducible refine Need.mk ?_ ?_) | (with_reducible refine And.intro ?_ ?_) | (with_reducible intro _) | ((fail_if_success (with_reducible refine FinS.mk ?_)); (fail_if_success (with_reducible refine Le.mk ?_)); (conv => whnf)) | (refine FinS.b ?_) | (refine FinS.lb ?_) | (refine FinS.i ?_) | (refine FinS.f ?_) | (refine FinS.agg ?_) | (refine FinS.tup ?_)))
  all_goals (try refine Side.mk ?_)
  all_goals (try simp only [decide_eq_true_eq, decide_eq_false_iff_not, Int.ofNat_lt, Int.ofNat_le, gt_iff_lt, ge_iff_le, true_and, Bool.not_eq_true', Bool.not_eq_false', Nat.zero_add] at *)
  all_goals first | rfl | trivial | exact fun _ _ => trivial | exact ⟨rfl, rfl⟩ | exact ⟨rfl, fun _ _ => rfl⟩ | exact ⟨rfl, rfl, fun _ _ => rfl⟩ | exact i64_id (by omega) (by omega) | omega | (exact ⟨isPts_rect _ _ _ _, by decide⟩) | (exact FinS.rows0 ⟨rectE_n ‹_›⟩ ⟨⟨rectE_n ‹_›⟩, ⟨rfl, (rectE_t ‹_›).symm⟩, True.intro⟩) | (exact FinS.rows0 ⟨rectE_n1 ‹_› ‹_›⟩ ⟨⟨rectE_n1 ‹_› ‹_›⟩, ⟨rfl, (rectE_f ‹_›).symm⟩, True.intro⟩) | (exact FinS.rows 0 ⟨rfl, (rectE_n0 ‹_› ‹_›).symm, fun _ _ _ _ => rfl⟩ ⟨⟨rfl, rfl, (rectE_n0 ‹_› ‹_›).symm⟩, ⟨rfl, rectE_0 ‹_› ‹_›⟩, True.intro⟩) | (exact FinS.rows 1 ⟨rfl, (rectE_n0 ‹_› ‹_›).symm, fun _ _ _ _ => rfl⟩ ⟨⟨rfl, rfl, (rectE_n0 ‹_› ‹_›).symm⟩, ⟨rfl, rectE_0 ‹_› ‹_›⟩, True.intro⟩) | (exact FinS.rows 2 ⟨rfl, (rectE_n0 ‹_› ‹_›).symm, fun _ _ _ _ => rfl⟩ ⟨⟨rfl, rfl, (rectE_n0 ‹_› ‹_›).symm⟩, ⟨rfl, rectE_0 ‹_› ‹_›⟩, True.intro⟩)
noncomputable def g27 : List MV → Option (List Prop × MV × List Blk × Bool)
  | [.agg [.f .f64 c1, .f .f64 c2], .agg [.f .f64 h1, .f .f64 h2]] => some ([], .tup [.os 0 2 0 (nOk (rectE c1 c2 h1 h2) 4), .i .i64 (rectE c1 c2 h1 h2)], [.rows 2 (nOk (rectE c1 c2 h1 h2) 4) (rectG c1 c2 h1 h2)], true)
  | _ => none
theorem s27 : SumsOK Try.prog (sumOf 27 g27 S13L) := by
  refine SumsOK.add S13L_ok fun ms ps m blks al e hp => ?_
  unfold g27 at e
  split at e
  · cases e; exact t27 _ _ _ _
  · cases e
noncomputable def S27 := sumOf 27 g27 S13L
theorem S27_ok : SumsOK Try.prog S27 := s27
noncomputable def fi28 : FnI := ⟨77, Try.f28.body.getD .skip, [.tmp 4, .tmp 5], true⟩
theorem fi28_ok : fnGen Try.prog 28 = some fi28 := by kernel_rfl
theorem t28 (c1 c2 h1 h2 : Nat) : CM Try.prog 28 [.agg [.f .f64 c1, .f .f64 c2], .agg [.f .f64 h1, .f .f64 h2]] (.tup [.os 0 2 0 (nOk (rrectE c1 c2 h1 h2) 4), .i .i64 (rrectE c1 c2 h1 h2)]) [.rows 2 (nOk (rrectE c1 c2 h1 h2) 4) (rectG c1 c2 h1 h2)] true := by
  refine CM.of_genQ (exts := exts) (eqs := eqs) (inl := []) (sum := S27) extsOK eqsOK S27_ok fi28_ok 6 rfl fun cx => ?_
  repeat' ((fail_if_success (with_reducible refine Side.mk ?_)); first | ((fail_if_success (with_reducible refine Rest.mk ?_)); first | (with_reducible exact True.intro) | (with_reducible refine Need.mk ?_ ?_) | (with_reducible refine And.intro ?_ ?_) | (with_reducible intro _) | ((fail_if_success (with_reducible refine FinS.mk ?_)); (fail_if_success (with_reducible refine Le.mk ?_)); (conv => whnf)) | (refine FinS.b ?_) | (refine FinS.lb ?_) | (refine FinS.i ?_) | (refine FinS.f ?_) | (refine FinS.agg ?_) | (refine FinS.tup ?_)))
  all_goals (try (refine Le.of ?_; (conv => whnf)))
  repeat' ((fail_if_success (with_reducible refine Side.mk ?_)); first | ((fail_if_success (with_reducible refine Rest.mk ?_)); first | (with_reducible exact True.intro) | (with_reducible refine Need.mk ?_ ?_) | (with_reducible refine And.intro ?_ ?_) | (with_reducible intro _) | ((fail_if_success (with_reducible refine FinS.mk ?_)); (fail_if_success (with_reducible refine Le.mk ?_)); (conv => whnf)) | (refine FinS.b ?_) | (refine FinS.lb ?_) | (refine FinS.i ?_) | (refine FinS.f ?_) | (refine FinS.agg ?_) | (refine FinS.tup ?_)))
  all_goals (try refine Side.mk ?_)
  all_goals (try simp only [decide_eq_true_eq, decide_eq_false_iff_not, Int.ofNat_lt, Int.ofNat_le, gt_iff_lt, ge_iff_le, true_and, Bool.not_eq_true', Bool.not_eq_false', Nat.zero_add] at *)
  all_goals first | rfl | trivial | exact fun _ _ => trivial | exact ⟨rfl, rfl⟩ | exact ⟨rfl, fun _ _ => rfl⟩ | exact ⟨rfl, rfl, fun _ _ => rfl⟩ | exact i64_id (by omega) (by omega) | omega | (exact ⟨isPts_rect _ _ _ _, by decide⟩) | (exact FinS.rows0 ⟨rrectE_n ‹_›⟩ ⟨⟨rrectE_n ‹_›⟩, ⟨rfl, (rrectE_t ‹_›).symm⟩, True.intro⟩) | (exact FinS.rows0 ⟨rrectE_n1 ‹_› ‹_›⟩ ⟨⟨rrectE_n1 ‹_› ‹_›⟩, ⟨rfl, (rrectE_f ‹_›).symm⟩, True.intro⟩) | (exact FinS.rows 0 ⟨rfl, (rrectE_n0 ‹_› ‹_›).symm, fun _ _ _ _ => rfl⟩ ⟨⟨rfl, rfl, (rrectE_n0 ‹_› ‹_›).symm⟩, ⟨rfl, rrectE_0 ‹_› ‹_›⟩, True.intro⟩) | (exact FinS.rows 1 ⟨rfl, (rrectE_n0 ‹_› ‹_›).symm, fun _ _ _ _ => rfl⟩ ⟨⟨rfl, rfl, (rrectE_n0 ‹_› ‹_›).symm⟩, ⟨rfl, rrectE_0 ‹_› ‹_›⟩, True.intro⟩) | (exact FinS.rows 2 ⟨rfl, (rrectE_n0 ‹_› ‹_›).symm, fun _ _ _ _ => rfl⟩ ⟨⟨rfl, rfl, (rrectE_n0 ‹_› ‹_›).symm⟩, ⟨rfl, rrectE_0 ‹_› ‹_›⟩, True.intro⟩)
noncomputable def g28 : List MV → Option (List Prop × MV × List Blk × Bool)
  | [.agg [.f .f64 c1, .f .f64 c2], .agg [.f .f64 h1, .f .f64 h2]] => some ([], .tup [.os 0 2 0 (nOk (rrectE c1 c2 h1 h2) 4), .i .i64 (rrectE c1 c2 h1 h2)], [.rows 2 (nOk (rrectE c1 c2 h1 h2) 4) (rectG c1 c2 h1 h2)], true)
  | _ => none
theorem s28 : SumsOK Try.prog (sumOf 28 g28 S27) := by
  refine SumsOK.add S27_ok fun ms ps m blks al e hp => ?_
  unfold g28 at e
  split at e
  · cases e; exact t28 _ _ _ _
  · cases e
noncomputable def S28 := sumOf 28 g28 S27
theorem S28_ok : SumsOK Try.prog S28 := s28
end Go.Ev.Poly
