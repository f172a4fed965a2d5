/-
  The walk of ClipSides; under the facts SOk.
-/
import Derived.Test.YtbehddngdjfkhaaClipXb
import Derived.Test.YtbehddngdjfkhaaClipXf
import Derived.Test.YtbehddngdjfkhaaClipYc
import Derived.Test.YtbehddngdjfkhaaClipKe
set_option linter.unusedSimpArgs false
set_option linter.unusedVariables false
open Go Go.Proofs
namespace Go.Ev.Clip
set_option maxRecDepth 100000
set_option maxHeartbeats 1000000
noncomputable def fi6 : FnI := ⟨144, Try.f6.body.getD .skip, [.tmp 4], true⟩
theorem fi6_ok : fnGen Try.prog 6 = some fi6 := by kernel_rfl
theorem bo_le {n m : Nat} {p q : Nat → Nat × Nat} : (boV n p m q).length ≤ wLe := by
  unfold boV
  cases h : (twoV n p m q != 0)
  · obtain ⟨hp, hq⟩ := two_0 h
    exact both_64 (check_le hp) (check_le hq)
  · exact Nat.zero_le _
noncomputable def g18Y : List MV → Option (List Prop × MV × List Blk × Bool)
  | [.ro 2 n get, .ro 2 m get'] => some ([isPts n get, isPts m get', n < big, m < big], .tup [.os 0 2 0 (boV n (pOf get) m (pOf get')).length, .i .i64 (twoV n (pOf get) m (pOf get'))], [.rows 2 (boV n (pOf get) m (pOf get')).length fun k => ptM ((boV n (pOf get) m (pOf get')).getD k z2)], false)
  | _ => none
theorem s18Y : SumsOK Try.prog (sumOf 18 g18Y S21X) := by
  refine SumsOK.add S21X_ok fun ms ps m blks al e hp => ?_
  unfold g18Y at e
  split at e
  · cases e
    exact (((t18 _ (pOf _) _ (pOf _) (hp _ (.tail _ (.tail _ (.head _)))) (hp _ (.tail _ (.tail _ (.tail _ (.head _)))))).le2 (leR_pts (hp _ (.head _))) (leR_pts (hp _ (.tail _ (.head _))))).aloneR rfl fun _ _ _ hj => flat2 hj)
  · cases e
noncomputable def S18Y := sumOf 18 g18Y S21X
theorem S18Y_ok : SumsOK Try.prog S18Y := s18Y
theorem zHS18Y_Y4 {cx : Cx} : CallH (genQ Try.prog exts eqs [] S18Y).P cx (hnd (genQ Try.prog exts eqs [] S18Y) cx 6) := hnd_sound (genQ_full extsOK eqsOK S18Y_ok) 6
theorem zES18Y_Y4 : EnvAll (genQ Try.prog exts eqs [] S18Y) := (genQ_full extsOK eqsOK S18Y_ok).toEnvAll
theorem q6_11 (n : Nat) (p : Nat → Nat × Nat) (m : Nat) (q : Nat → Nat × Nat) (hp : checkV n p = 0) (hq : checkV m q = 0) (w : SOk n p m q (boV n p m q) (MB n p m q)) (cx : Cx) : CodeOK Try.prog cx fi6.n (dropS 11 fi6.body) ⟨[(5, .b true)], [], [], 0⟩ (finK (genQ Try.prog exts eqs [] S18Y) fi6.res (.b true) []) := by
  have hpb : (checkV n p != 0) = false := by rw [hp]; rfl
  have hqb : (checkV m q != 0) = false := by rw [hq]; rfl
  have hn := check_le hpb
  have hm := check_le hqb
  have b0 : n < big := Nat.lt_of_le_of_lt hn (by decide)
  have b1 : m < big := Nat.lt_of_le_of_lt hm (by decide)
  have h0n : nOk (checkV n p) n = n := nOk_0 hpb
  have h0m : nOk (checkV m q) m = m := nOk_0 hqb
  have h2 : twoV n p m q = 0 := by rw [two_2 hpb]; exact hq
  have hl : (boV n p m q).length < 4611686018427387904 := Nat.lt_of_le_of_lt bo_le (by decide)
  refine evC_sound zES18Y_Y4 zHS18Y_Y4 ?_
  repeat' ((fail_if_success (with_reducible refine Side.mk ?_)); first | (refine Rest.mk (drawR_sound zES18Y_Y4 mixOK zHS18Y_Y4 ?_)) | ((fail_if_success (with_reducible refine Rest.mk ?_)); first | (with_reducible exact True.intro) | (with_reducible refine Need.mk ?_ ?_) | (with_reducible refine And.intro ?_ ?_) | (with_reducible intro _) | ((fail_if_success (with_reducible refine FinS.mk ?_)); (fail_if_success (with_reducible refine Le.mk ?_)); (conv => whnf)) | (refine FinS.b ?_) | (refine FinS.lb ?_) | (refine FinS.i ?_) | (refine FinS.f ?_) | (refine FinS.agg ?_) | (refine FinS.tup ?_)))
  all_goals (try (refine Le.of ?_; (conv => whnf)))
  repeat' ((fail_if_success (with_reducible refine Side.mk ?_)); first | (refine Rest.mk (drawR_sound zES18Y_Y4 mixOK zHS18Y_Y4 ?_)) | ((fail_if_success (with_reducible refine Rest.mk ?_)); first | (with_reducible exact True.intro) | (with_reducible refine Need.mk ?_ ?_) | (with_reducible refine And.intro ?_ ?_) | (with_reducible intro _) | ((fail_if_success (with_reducible refine FinS.mk ?_)); (fail_if_success (with_reducible refine Le.mk ?_)); (conv => whnf)) | (refine FinS.b ?_) | (refine FinS.lb ?_) | (refine FinS.i ?_) | (refine FinS.f ?_) | (refine FinS.agg ?_) | (refine FinS.tup ?_)))
  all_goals (try refine Side.mk ?_)
  all_goals (try simp only [pOf_pt, eq_self, decide_eq_true_eq, decide_eq_false_iff_not, Int.ofNat_lt, Int.ofNat_le, gt_iff_lt, ge_iff_le, true_and, Bool.not_eq_true', Bool.not_eq_false', Int.toNat_natCast, Nat.zero_add] at *)
  all_goals first | (with_reducible rfl) | (with_reducible trivial) | (with_reducible assumption) | omega | exact ⟨rfl, rfl⟩ | exact ⟨rfl, fun _ _ => rfl⟩ | exact ⟨rfl, rfl, fun _ _ => rfl⟩ | exact ⟨by omega, trivial⟩ | exact fun _ _ => trivial | exact i64_id (by omega) (by omega) | exact fun _ _ _ _ => .inr rfl | exact ⟨rfl, fun _ _ _ _ => .inr rfl⟩ | (exact fun _ => ⟨by decide, by decide⟩) | (exact ⟨by decide, by decide⟩) | (exact fun _ _ => ⟨by decide, by decide⟩) | ((intro i hi j hj; rcases i with _ | _ | i <;> rcases j with _ | _ | j <;> first | exact .inr rfl | (exfalso; omega))) | (exact fun _ _ _ _ => .inr trivial)
theorem q6_10 (n : Nat) (p : Nat → Nat × Nat) (m : Nat) (q : Nat → Nat × Nat) (hp : checkV n p = 0) (hq : checkV m q = 0) (w : SOk n p m q (boV n p m q) (MB n p m q)) (cx : Cx) : CodeOK Try.prog cx fi6.n (dropS 10 fi6.body) ⟨[(0, .ro 2 n (fun j => ptM (p j))), (1, .ro 2 m (fun j => ptM (q j))), (5, .b true), (6, .os 0 3 0 n), (8, .os 1 3 0 m), (10, .os 2 2 0 (boV n p m q).length), (12, .f .f64 (MB n p m q))], [], [(0, .rows 3 n fun i => plM (SD n p i)), (1, .rows 3 m fun i => plM (SD m q i)), (2, .rows 2 (boV n p m q).length fun k => ptM ((boV n p m q).getD k z2))], 3⟩ (finK (genQ Try.prog exts eqs [] S18Y) fi6.res (.b true) []) := by
  have hpb : (checkV n p != 0) = false := by rw [hp]; rfl
  have hqb : (checkV m q != 0) = false := by rw [hq]; rfl
  have hn := check_le hpb
  have hm := check_le hqb
  have b0 : n < big := Nat.lt_of_le_of_lt hn (by decide)
  have b1 : m < big := Nat.lt_of_le_of_lt hm (by decide)
  have h0n : nOk (checkV n p) n = n := nOk_0 hpb
  have h0m : nOk (checkV m q) m = m := nOk_0 hqb
  have h2 : twoV n p m q = 0 := by rw [two_2 hpb]; exact hq
  have hl : (boV n p m q).length < 4611686018427387904 := Nat.lt_of_le_of_lt bo_le (by decide)
  refine CodeOK.cut zES18Y_Y4 zHS18Y_Y4 1 (c := dropS 10 fi6.body) (by kernel_rfl) ?_ (q6_11 n p m q hp hq w cx)
  repeat' ((fail_if_success (with_reducible refine Side.mk ?_)); first | (refine Rest.mk (drawR_sound zES18Y_Y4 mixOK zHS18Y_Y4 ?_)) | ((fail_if_success (with_reducible refine Rest.mk ?_)); first | (with_reducible exact True.intro) | (with_reducible refine Need.mk ?_ ?_) | (with_reducible refine And.intro ?_ ?_) | (with_reducible intro _) | ((fail_if_success (with_reducible refine FinS.mk ?_)); (fail_if_success (with_reducible refine Le.mk ?_)); (conv => whnf)) | (refine FinS.b ?_) | (refine FinS.lb ?_) | (refine FinS.i ?_) | (refine FinS.f ?_) | (refine FinS.agg ?_) | (refine FinS.tup ?_)))
  refine loop_ruleC zES18Y_Y4 zHS18Y_Y4 (fun i => ⟨[(0, .ro 2 n (fun j => ptM (p j))), (1, .ro 2 m (fun j => ptM (q j))), (5, .b true), (6, .os 0 3 0 n), (8, .os 1 3 0 m), (10, .os 2 2 0 (boV n p m q).length), (12, .f .f64 (MB n p m q)), (16, .i .i64 ((i : Nat) : Int))], [], [(0, .rows 3 n fun i => plM (SD n p i)), (1, .rows 3 m fun i => plM (SD m q i)), (2, .rows 2 (boV n p m q).length fun k => ptM ((boV n p m q).getD k z2))], 3⟩) (fun i => True) (m) (Le.of ?_) ?_ ?_
  · conv => whnf
    repeat' ((fail_if_success (with_reducible refine Side.mk ?_)); first | (refine Rest.mk (drawR_sound zES18Y_Y4 mixOK zHS18Y_Y4 ?_)) | ((fail_if_success (with_reducible refine Rest.mk ?_)); first | (with_reducible exact True.intro) | (with_reducible refine Need.mk ?_ ?_) | (with_reducible refine And.intro ?_ ?_) | (with_reducible intro _) | ((fail_if_success (with_reducible refine FinS.mk ?_)); (fail_if_success (with_reducible refine Le.mk ?_)); (conv => whnf)) | (refine FinS.b ?_) | (refine FinS.lb ?_) | (refine FinS.i ?_) | (refine FinS.f ?_) | (refine FinS.agg ?_) | (refine FinS.tup ?_)))
    all_goals (try refine Side.mk ?_)
    all_goals (try simp only [pOf_pt, eq_self, decide_eq_true_eq, decide_eq_false_iff_not, Int.ofNat_lt, Int.ofNat_le, gt_iff_lt, ge_iff_le, true_and, Bool.not_eq_true', Bool.not_eq_false', Int.toNat_natCast, Nat.zero_add] at *)
    all_goals first | (with_reducible rfl) | (with_reducible trivial) | (with_reducible assumption) | omega | exact fun _ => trivial | exact fun _ _ => trivial | exact fun _ _ _ _ => .inr trivial | exact fun _ _ _ _ => .inr rfl | exact ⟨by omega, by omega⟩ | exact ⟨by omega, trivial⟩ | exact i64_id (by omega) (by omega)
  · trivial
  · intro i hi _
    repeat' ((fail_if_success (with_reducible refine Side.mk ?_)); first | (refine Rest.mk (drawR_sound zES18Y_Y4 mixOK zHS18Y_Y4 ?_)) | ((fail_if_success (with_reducible refine Rest.mk ?_)); first | (with_reducible exact True.intro) | (with_reducible refine Need.mk ?_ ?_) | (with_reducible refine And.intro ?_ ?_) | (with_reducible intro _) | ((fail_if_success (with_reducible refine FinS.mk ?_)); (fail_if_success (with_reducible refine Le.mk ?_)); (conv => whnf)) | (refine FinS.b ?_) | (refine FinS.lb ?_) | (refine FinS.i ?_) | (refine FinS.f ?_) | (refine FinS.agg ?_) | (refine FinS.tup ?_)))
    rotate_left
    all_goals (try (refine Le.of ?_; (conv => whnf)))
    repeat' ((fail_if_success (with_reducible refine Side.mk ?_)); first | (refine Rest.mk (drawR_sound zES18Y_Y4 mixOK zHS18Y_Y4 ?_)) | ((fail_if_success (with_reducible refine Rest.mk ?_)); first | (with_reducible exact True.intro) | (with_reducible refine Need.mk ?_ ?_) | (with_reducible refine And.intro ?_ ?_) | (with_reducible intro _) | ((fail_if_success (with_reducible refine FinS.mk ?_)); (fail_if_success (with_reducible refine Le.mk ?_)); (conv => whnf)) | (refine FinS.b ?_) | (refine FinS.lb ?_) | (refine FinS.i ?_) | (refine FinS.f ?_) | (refine FinS.agg ?_) | (refine FinS.tup ?_)))
    all_goals (try refine Side.mk ?_)
    all_goals (try simp only [pOf_pt, eq_self, decide_eq_true_eq, decide_eq_false_iff_not, Int.ofNat_lt, Int.ofNat_le, gt_iff_lt, ge_iff_le, true_and, Bool.not_eq_true', Bool.not_eq_false', Int.toNat_natCast, Nat.zero_add] at *)
    all_goals first | (with_reducible rfl) | (with_reducible trivial) | (with_reducible assumption) | omega | exact fun _ => trivial | exact fun _ _ => trivial | exact fun _ _ _ _ => .inr trivial | exact fun _ _ _ _ => .inr rfl | exact ⟨by omega, by omega⟩ | exact ⟨by omega, trivial⟩ | exact i64_id (by omega) (by omega) | skip
    refine loop_ruleC zES18Y_Y4 zHS18Y_Y4 (fun k => ⟨[(0, .ro 2 n (fun j => ptM (p j))), (1, .ro 2 m (fun j => ptM (q j))), (5, .b true), (6, .os 0 3 0 n), (8, .os 1 3 0 m), (10, .os 2 2 0 (boV n p m q).length), (12, .f .f64 (MB n p m q)), (16, .i .i64 ((i : Nat) : Int)), (17, .i .i64 ((k : Nat) : Int))], [], [(0, .rows 3 n fun i => plM (SD n p i)), (1, .rows 3 m fun i => plM (SD m q i)), (2, .rows 2 (boV n p m q).length fun k => ptM ((boV n p m q).getD k z2))], 3⟩) (fun k => True) ((boV n p m q).length) (Le.of ?_) ?_ ?_
    · conv => whnf
      repeat' ((fail_if_success (with_reducible refine Side.mk ?_)); first | (refine Rest.mk (drawR_sound zES18Y_Y4 mixOK zHS18Y_Y4 ?_)) | ((fail_if_success (with_reducible refine Rest.mk ?_)); first | (with_reducible exact True.intro) | (with_reducible refine Need.mk ?_ ?_) | (with_reducible refine And.intro ?_ ?_) | (with_reducible intro _) | ((fail_if_success (with_reducible refine FinS.mk ?_)); (fail_if_success (with_reducible refine Le.mk ?_)); (conv => whnf)) | (refine FinS.b ?_) | (refine FinS.lb ?_) | (refine FinS.i ?_) | (refine FinS.f ?_) | (refine FinS.agg ?_) | (refine FinS.tup ?_)))
      all_goals (try refine Side.mk ?_)
      all_goals (try simp only [pOf_pt, eq_self, decide_eq_true_eq, decide_eq_false_iff_not, Int.ofNat_lt, Int.ofNat_le, gt_iff_lt, ge_iff_le, true_and, Bool.not_eq_true', Bool.not_eq_false', Int.toNat_natCast, Nat.zero_add] at *)
      all_goals first | (with_reducible rfl) | (with_reducible trivial) | (with_reducible assumption) | omega | exact fun _ => trivial | exact fun _ _ => trivial | exact fun _ _ _ _ => .inr trivial | exact fun _ _ _ _ => .inr rfl | exact ⟨by omega, by omega⟩ | exact ⟨by omega, trivial⟩ | exact i64_id (by omega) (by omega)
    · trivial
    · intro k hk _
      repeat' ((fail_if_success (with_reducible refine Side.mk ?_)); first | (refine Rest.mk (drawR_sound zES18Y_Y4 mixOK zHS18Y_Y4 ?_)) | ((fail_if_success (with_reducible refine Rest.mk ?_)); first | (with_reducible exact True.intro) | (with_reducible refine Need.mk ?_ ?_) | (with_reducible refine And.intro ?_ ?_) | (with_reducible intro _) | ((fail_if_success (with_reducible refine FinS.mk ?_)); (fail_if_success (with_reducible refine Le.mk ?_)); (conv => whnf)) | (refine FinS.b ?_) | (refine FinS.lb ?_) | (refine FinS.i ?_) | (refine FinS.f ?_) | (refine FinS.agg ?_) | (refine FinS.tup ?_)))
      all_goals (try (refine Le.of ?_; (conv => whnf)))
      repeat' ((fail_if_success (with_reducible refine Side.mk ?_)); first | (refine Rest.mk (drawR_sound zES18Y_Y4 mixOK zHS18Y_Y4 ?_)) | ((fail_if_success (with_reducible refine Rest.mk ?_)); first | (with_reducible exact True.intro) | (with_reducible refine Need.mk ?_ ?_) | (with_reducible refine And.intro ?_ ?_) | (with_reducible intro _) | ((fail_if_success (with_reducible refine FinS.mk ?_)); (fail_if_success (with_reducible refine Le.mk ?_)); (conv => whnf)) | (refine FinS.b ?_) | (refine FinS.lb ?_) | (refine FinS.i ?_) | (refine FinS.f ?_) | (refine FinS.agg ?_) | (refine FinS.tup ?_)))
      all_goals (try refine Side.mk ?_)
      all_goals (try simp only [pOf_pt, eq_self, decide_eq_true_eq, decide_eq_false_iff_not, Int.ofNat_lt, Int.ofNat_le, gt_iff_lt, ge_iff_le, true_and, Bool.not_eq_true', Bool.not_eq_false', Int.toNat_natCast, Nat.zero_add] at *)
      all_goals first | (with_reducible rfl) | (with_reducible trivial) | (with_reducible assumption) | omega | exact fun _ => trivial | exact fun _ _ => trivial | exact fun _ _ _ _ => .inr trivial | exact fun _ _ _ _ => .inr rfl | exact ⟨by omega, by omega⟩ | exact ⟨by omega, trivial⟩ | exact i64_id (by omega) (by omega) | (exfalso; rename_i hk hx; (have hz := w.two i (by assumption) _ hk); unfold inP at hz; rw [hz] at hx; exact absurd hx (by decide))
theorem q6_9 (n : Nat) (p : Nat → Nat × Nat) (m : Nat) (q : Nat → Nat × Nat) (hp : checkV n p = 0) (hq : checkV m q = 0) (w : SOk n p m q (boV n p m q) (MB n p m q)) (cx : Cx) : CodeOK Try.prog cx fi6.n (dropS 9 fi6.body) ⟨[(0, .ro 2 n (fun j => ptM (p j))), (1, .ro 2 m (fun j => ptM (q j))), (5, .b true), (6, .os 0 3 0 n), (8, .os 1 3 0 m), (10, .os 2 2 0 (boV n p m q).length), (12, .f .f64 (MB n p m q))], [], [(0, .rows 3 n fun i => plM (SD n p i)), (1, .rows 3 m fun i => plM (SD m q i)), (2, .rows 2 (boV n p m q).length fun k => ptM ((boV n p m q).getD k z2))], 3⟩ (finK (genQ Try.prog exts eqs [] S18Y) fi6.res (.b true) []) := by
  have hpb : (checkV n p != 0) = false := by rw [hp]; rfl
  have hqb : (checkV m q != 0) = false := by rw [hq]; rfl
  have hn := check_le hpb
  have hm := check_le hqb
  have b0 : n < big := Nat.lt_of_le_of_lt hn (by decide)
  have b1 : m < big := Nat.lt_of_le_of_lt hm (by decide)
  have h0n : nOk (checkV n p) n = n := nOk_0 hpb
  have h0m : nOk (checkV m q) m = m := nOk_0 hqb
  have h2 : twoV n p m q = 0 := by rw [two_2 hpb]; exact hq
  have hl : (boV n p m q).length < 4611686018427387904 := Nat.lt_of_le_of_lt bo_le (by decide)
  refine CodeOK.cut zES18Y_Y4 zHS18Y_Y4 1 (c := dropS 9 fi6.body) (by kernel_rfl) ?_ (q6_10 n p m q hp hq w cx)
  repeat' ((fail_if_success (with_reducible refine Side.mk ?_)); first | (refine Rest.mk (drawR_sound zES18Y_Y4 mixOK zHS18Y_Y4 ?_)) | ((fail_if_success (with_reducible refine Rest.mk ?_)); first | (with_reducible exact True.intro) | (with_reducible refine Need.mk ?_ ?_) | (with_reducible refine And.intro ?_ ?_) | (with_reducible intro _) | ((fail_if_success (with_reducible refine FinS.mk ?_)); (fail_if_success (with_reducible refine Le.mk ?_)); (conv => whnf)) | (refine FinS.b ?_) | (refine FinS.lb ?_) | (refine FinS.i ?_) | (refine FinS.f ?_) | (refine FinS.agg ?_) | (refine FinS.tup ?_)))
  refine loop_ruleC zES18Y_Y4 zHS18Y_Y4 (fun i => ⟨[(0, .ro 2 n (fun j => ptM (p j))), (1, .ro 2 m (fun j => ptM (q j))), (5, .b true), (6, .os 0 3 0 n), (8, .os 1 3 0 m), (10, .os 2 2 0 (boV n p m q).length), (12, .f .f64 (MB n p m q)), (13, .i .i64 ((i : Nat) : Int))], [], [(0, .rows 3 n fun i => plM (SD n p i)), (1, .rows 3 m fun i => plM (SD m q i)), (2, .rows 2 (boV n p m q).length fun k => ptM ((boV n p m q).getD k z2))], 3⟩) (fun i => True) (n) (Le.of ?_) ?_ ?_
  · conv => whnf
    repeat' ((fail_if_success (with_reducible refine Side.mk ?_)); first | (refine Rest.mk (drawR_sound zES18Y_Y4 mixOK zHS18Y_Y4 ?_)) | ((fail_if_success (with_reducible refine Rest.mk ?_)); first | (with_reducible exact True.intro) | (with_reducible refine Need.mk ?_ ?_) | (with_reducible refine And.intro ?_ ?_) | (with_reducible intro _) | ((fail_if_success (with_reducible refine FinS.mk ?_)); (fail_if_success (with_reducible refine Le.mk ?_)); (conv => whnf)) | (refine FinS.b ?_) | (refine FinS.lb ?_) | (refine FinS.i ?_) | (refine FinS.f ?_) | (refine FinS.agg ?_) | (refine FinS.tup ?_)))
    all_goals (try refine Side.mk ?_)
    all_goals (try simp only [pOf_pt, eq_self, decide_eq_true_eq, decide_eq_false_iff_not, Int.ofNat_lt, Int.ofNat_le, gt_iff_lt, ge_iff_le, true_and, Bool.not_eq_true', Bool.not_eq_false', Int.toNat_natCast, Nat.zero_add] at *)
    all_goals first | (with_reducible rfl) | (with_reducible trivial) | (with_reducible assumption) | omega | exact fun _ => trivial | exact fun _ _ => trivial | exact fun _ _ _ _ => .inr trivial | exact fun _ _ _ _ => .inr rfl | exact ⟨by omega, by omega⟩ | exact ⟨by omega, trivial⟩ | exact i64_id (by omega) (by omega)
  · trivial
  · intro i hi _
    repeat' ((fail_if_success (with_reducible refine Side.mk ?_)); first | (refine Rest.mk (drawR_sound zES18Y_Y4 mixOK zHS18Y_Y4 ?_)) | ((fail_if_success (with_reducible refine Rest.mk ?_)); first | (with_reducible exact True.intro) | (with_reducible refine Need.mk ?_ ?_) | (with_reducible refine And.intro ?_ ?_) | (with_reducible intro _) | ((fail_if_success (with_reducible refine FinS.mk ?_)); (fail_if_success (with_reducible refine Le.mk ?_)); (conv => whnf)) | (refine FinS.b ?_) | (refine FinS.lb ?_) | (refine FinS.i ?_) | (refine FinS.f ?_) | (refine FinS.agg ?_) | (refine FinS.tup ?_)))
    all_goals (try (refine Le.of ?_; (conv => whnf)))
    repeat' ((fail_if_success (with_reducible refine Side.mk ?_)); first | (refine Rest.mk (drawR_sound zES18Y_Y4 mixOK zHS18Y_Y4 ?_)) | ((fail_if_success (with_reducible refine Rest.mk ?_)); first | (with_reducible exact True.intro) | (with_reducible refine Need.mk ?_ ?_) | (with_reducible refine And.intro ?_ ?_) | (with_reducible intro _) | ((fail_if_success (with_reducible refine FinS.mk ?_)); (fail_if_success (with_reducible refine Le.mk ?_)); (conv => whnf)) | (refine FinS.b ?_) | (refine FinS.lb ?_) | (refine FinS.i ?_) | (refine FinS.f ?_) | (refine FinS.agg ?_) | (refine FinS.tup ?_)))
    all_goals (try refine Side.mk ?_)
    all_goals (try simp only [pOf_pt, eq_self, decide_eq_true_eq, decide_eq_false_iff_not, Int.ofNat_lt, Int.ofNat_le, gt_iff_lt, ge_iff_le, true_and, Bool.not_eq_true', Bool.not_eq_false', Int.toNat_natCast, Nat.zero_add] at *)
    all_goals first | (with_reducible rfl) | (with_reducible trivial) | (with_reducible assumption) | omega | exact fun _ => trivial | exact fun _ _ => trivial | exact fun _ _ _ _ => .inr trivial | exact fun _ _ _ _ => .inr rfl | exact ⟨by omega, by omega⟩ | exact ⟨by omega, trivial⟩ | exact i64_id (by omega) (by omega) | (exfalso; rename_i hk hx; rw [w.chks _ hk] at hx; exact absurd hx (by decide)) | (exfalso; rename_i hx hk; rw [w.chks _ hk] at hx; exact absurd hx (by decide)) | skip
    rename_i hin
    refine loop_ruleC zES18Y_Y4 zHS18Y_Y4 (fun k => ⟨[(0, .ro 2 n (fun j => ptM (p j))), (1, .ro 2 m (fun j => ptM (q j))), (5, .b true), (6, .os 0 3 0 n), (8, .os 1 3 0 m), (10, .os 2 2 0 (boV n p m q).length), (12, .f .f64 (MB n p m q)), (13, .i .i64 ((i : Nat) : Int)), (14, .i .i64 ((k : Nat) : Int))], [], [(0, .rows 3 n fun i => plM (SD n p i)), (1, .rows 3 m fun i => plM (SD m q i)), (2, .rows 2 (boV n p m q).length fun k => ptM ((boV n p m q).getD k z2))], 3⟩) (fun k => True) (n) (Le.of ?_) ?_ ?_
    · conv => whnf
      repeat' ((fail_if_success (with_reducible refine Side.mk ?_)); first | (refine Rest.mk (drawR_sound zES18Y_Y4 mixOK zHS18Y_Y4 ?_)) | ((fail_if_success (with_reducible refine Rest.mk ?_)); first | (with_reducible exact True.intro) | (with_reducible refine Need.mk ?_ ?_) | (with_reducible refine And.intro ?_ ?_) | (with_reducible intro _) | ((fail_if_success (with_reducible refine FinS.mk ?_)); (fail_if_success (with_reducible refine Le.mk ?_)); (conv => whnf)) | (refine FinS.b ?_) | (refine FinS.lb ?_) | (refine FinS.i ?_) | (refine FinS.f ?_) | (refine FinS.agg ?_) | (refine FinS.tup ?_)))
      all_goals (try refine Side.mk ?_)
      all_goals (try simp only [pOf_pt, eq_self, decide_eq_true_eq, decide_eq_false_iff_not, Int.ofNat_lt, Int.ofNat_le, gt_iff_lt, ge_iff_le, true_and, Bool.not_eq_true', Bool.not_eq_false', Int.toNat_natCast, Nat.zero_add] at *)
      all_goals first | (with_reducible rfl) | (with_reducible trivial) | (with_reducible assumption) | omega | exact fun _ => trivial | exact fun _ _ => trivial | exact fun _ _ _ _ => .inr trivial | exact fun _ _ _ _ => .inr rfl | exact ⟨by omega, by omega⟩ | exact ⟨by omega, trivial⟩ | exact i64_id (by omega) (by omega)
    · trivial
    · intro k hk _
      repeat' ((fail_if_success (with_reducible refine Side.mk ?_)); first | (refine Rest.mk (drawR_sound zES18Y_Y4 mixOK zHS18Y_Y4 ?_)) | ((fail_if_success (with_reducible refine Rest.mk ?_)); first | (with_reducible exact True.intro) | (with_reducible refine Need.mk ?_ ?_) | (with_reducible refine And.intro ?_ ?_) | (with_reducible intro _) | ((fail_if_success (with_reducible refine FinS.mk ?_)); (fail_if_success (with_reducible refine Le.mk ?_)); (conv => whnf)) | (refine FinS.b ?_) | (refine FinS.lb ?_) | (refine FinS.i ?_) | (refine FinS.f ?_) | (refine FinS.agg ?_) | (refine FinS.tup ?_)))
      all_goals (try (refine Le.of ?_; (conv => whnf)))
      repeat' ((fail_if_success (with_reducible refine Side.mk ?_)); first | (refine Rest.mk (drawR_sound zES18Y_Y4 mixOK zHS18Y_Y4 ?_)) | ((fail_if_success (with_reducible refine Rest.mk ?_)); first | (with_reducible exact True.intro) | (with_reducible refine Need.mk ?_ ?_) | (with_reducible refine And.intro ?_ ?_) | (with_reducible intro _) | ((fail_if_success (with_reducible refine FinS.mk ?_)); (fail_if_success (with_reducible refine Le.mk ?_)); (conv => whnf)) | (refine FinS.b ?_) | (refine FinS.lb ?_) | (refine FinS.i ?_) | (refine FinS.f ?_) | (refine FinS.agg ?_) | (refine FinS.tup ?_)))
      all_goals (try refine Side.mk ?_)
      all_goals (try simp only [pOf_pt, eq_self, decide_eq_true_eq, decide_eq_false_iff_not, Int.ofNat_lt, Int.ofNat_le, gt_iff_lt, ge_iff_le, true_and, Bool.not_eq_true', Bool.not_eq_false', Int.toNat_natCast, Nat.zero_add] at *)
      all_goals first | (with_reducible rfl) | (with_reducible trivial) | (with_reducible assumption) | omega | exact fun _ => trivial | exact fun _ _ => trivial | exact fun _ _ _ _ => .inr trivial | exact fun _ _ _ _ => .inr rfl | exact ⟨by omega, by omega⟩ | exact ⟨by omega, trivial⟩ | exact i64_id (by omega) (by omega) | (exfalso; rename_i hk hx; (have hz := w.own i (by assumption) _ hk); unfold inP at hz; rw [hz] at hx; exact absurd hx (by decide)) | skip
      refine loop_ruleC zES18Y_Y4 zHS18Y_Y4 (fun k => ⟨[(0, .ro 2 n (fun j => ptM (p j))), (1, .ro 2 m (fun j => ptM (q j))), (5, .b true), (6, .os 0 3 0 n), (8, .os 1 3 0 m), (10, .os 2 2 0 (boV n p m q).length), (12, .f .f64 (MB n p m q)), (13, .i .i64 ((i : Nat) : Int)), (15, .i .i64 ((k : Nat) : Int))], [], [(0, .rows 3 n fun i => plM (SD n p i)), (1, .rows 3 m fun i => plM (SD m q i)), (2, .rows 2 (boV n p m q).length fun k => ptM ((boV n p m q).getD k z2))], 3⟩) (fun k => True) ((boV n p m q).length) (Le.of ?_) ?_ ?_
      · conv => whnf
        repeat' ((fail_if_success (with_reducible refine Side.mk ?_)); first | (refine Rest.mk (drawR_sound zES18Y_Y4 mixOK zHS18Y_Y4 ?_)) | ((fail_if_success (with_reducible refine Rest.mk ?_)); first | (with_reducible exact True.intro) | (with_reducible refine Need.mk ?_ ?_) | (with_reducible refine And.intro ?_ ?_) | (with_reducible intro _) | ((fail_if_success (with_reducible refine FinS.mk ?_)); (fail_if_success (with_reducible refine Le.mk ?_)); (conv => whnf)) | (refine FinS.b ?_) | (refine FinS.lb ?_) | (refine FinS.i ?_) | (refine FinS.f ?_) | (refine FinS.agg ?_) | (refine FinS.tup ?_)))
        all_goals (try refine Side.mk ?_)
        all_goals (try simp only [pOf_pt, eq_self, decide_eq_true_eq, decide_eq_false_iff_not, Int.ofNat_lt, Int.ofNat_le, gt_iff_lt, ge_iff_le, true_and, Bool.not_eq_true', Bool.not_eq_false', Int.toNat_natCast, Nat.zero_add] at *)
        all_goals first | (with_reducible rfl) | (with_reducible trivial) | (with_reducible assumption) | omega | exact fun _ => trivial | exact fun _ _ => trivial | exact fun _ _ _ _ => .inr trivial | exact fun _ _ _ _ => .inr rfl | exact ⟨by omega, by omega⟩ | exact ⟨by omega, trivial⟩ | exact i64_id (by omega) (by omega)
      · trivial
      · intro k hk _
        repeat' ((fail_if_success (with_reducible refine Side.mk ?_)); first | (refine Rest.mk (drawR_sound zES18Y_Y4 mixOK zHS18Y_Y4 ?_)) | ((fail_if_success (with_reducible refine Rest.mk ?_)); first | (with_reducible exact True.intro) | (with_reducible refine Need.mk ?_ ?_) | (with_reducible refine And.intro ?_ ?_) | (with_reducible intro _) | ((fail_if_success (with_reducible refine FinS.mk ?_)); (fail_if_success (with_reducible refine Le.mk ?_)); (conv => whnf)) | (refine FinS.b ?_) | (refine FinS.lb ?_) | (refine FinS.i ?_) | (refine FinS.f ?_) | (refine FinS.agg ?_) | (refine FinS.tup ?_)))
        all_goals (try (refine Le.of ?_; (conv => whnf)))
        repeat' ((fail_if_success (with_reducible refine Side.mk ?_)); first | (refine Rest.mk (drawR_sound zES18Y_Y4 mixOK zHS18Y_Y4 ?_)) | ((fail_if_success (with_reducible refine Rest.mk ?_)); first | (with_reducible exact True.intro) | (with_reducible refine Need.mk ?_ ?_) | (with_reducible refine And.intro ?_ ?_) | (with_reducible intro _) | ((fail_if_success (with_reducible refine FinS.mk ?_)); (fail_if_success (with_reducible refine Le.mk ?_)); (conv => whnf)) | (refine FinS.b ?_) | (refine FinS.lb ?_) | (refine FinS.i ?_) | (refine FinS.f ?_) | (refine FinS.agg ?_) | (refine FinS.tup ?_)))
        all_goals (try refine Side.mk ?_)
        all_goals (try simp only [pOf_pt, eq_self, decide_eq_true_eq, decide_eq_false_iff_not, Int.ofNat_lt, Int.ofNat_le, gt_iff_lt, ge_iff_le, true_and, Bool.not_eq_true', Bool.not_eq_false', Int.toNat_natCast, Nat.zero_add] at *)
        all_goals first | (with_reducible rfl) | (with_reducible trivial) | (with_reducible assumption) | omega | exact fun _ => trivial | exact fun _ _ => trivial | exact fun _ _ _ _ => .inr trivial | exact fun _ _ _ _ => .inr rfl | exact ⟨by omega, by omega⟩ | exact ⟨by omega, trivial⟩ | exact i64_id (by omega) (by omega) | (exfalso; rename_i hk hx; (have hz := w.one i (by assumption) _ hk); unfold inP at hz; rw [hz] at hx; exact absurd hx (by decide))
theorem mb_eq {n m : Nat} {p q : Nat → Nat × Nat} : grt q (grt p 4607182418800017408 n) m = MB n p m q := rfl
theorem q6_8 (n : Nat) (p : Nat → Nat × Nat) (m : Nat) (q : Nat → Nat × Nat) (hp : checkV n p = 0) (hq : checkV m q = 0) (w : SOk n p m q (boV n p m q) (MB n p m q)) (cx : Cx) : CodeOK Try.prog cx fi6.n (dropS 8 fi6.body) ⟨[(0, .ro 2 n (fun j => ptM (p j))), (1, .ro 2 m (fun j => ptM (q j))), (5, .b true), (6, .os 0 3 0 n), (8, .os 1 3 0 m), (10, .os 2 2 0 (boV n p m q).length)], [], [(0, .rows 3 n fun i => plM (SD n p i)), (1, .rows 3 m fun i => plM (SD m q i)), (2, .rows 2 (boV n p m q).length fun k => ptM ((boV n p m q).getD k z2))], 3⟩ (finK (genQ Try.prog exts eqs [] S18Y) fi6.res (.b true) []) := by
  have hpb : (checkV n p != 0) = false := by rw [hp]; rfl
  have hqb : (checkV m q != 0) = false := by rw [hq]; rfl
  have hn := check_le hpb
  have hm := check_le hqb
  have b0 : n < big := Nat.lt_of_le_of_lt hn (by decide)
  have b1 : m < big := Nat.lt_of_le_of_lt hm (by decide)
  have h0n : nOk (checkV n p) n = n := nOk_0 hpb
  have h0m : nOk (checkV m q) m = m := nOk_0 hqb
  have h2 : twoV n p m q = 0 := by rw [two_2 hpb]; exact hq
  have hl : (boV n p m q).length < 4611686018427387904 := Nat.lt_of_le_of_lt bo_le (by decide)
  refine CodeOK.cut zES18Y_Y4 zHS18Y_Y4 1 (c := dropS 8 fi6.body) (by kernel_rfl) ?_ (q6_9 n p m q hp hq w cx)
  repeat' ((fail_if_success (with_reducible refine Side.mk ?_)); first | (refine Rest.mk (drawR_sound zES18Y_Y4 mixOK zHS18Y_Y4 ?_)) | ((fail_if_success (with_reducible refine Rest.mk ?_)); first | (with_reducible exact True.intro) | (with_reducible refine Need.mk ?_ ?_) | (with_reducible refine And.intro ?_ ?_) | (with_reducible intro _) | ((fail_if_success (with_reducible refine FinS.mk ?_)); (fail_if_success (with_reducible refine Le.mk ?_)); (conv => whnf)) | (refine FinS.b ?_) | (refine FinS.lb ?_) | (refine FinS.i ?_) | (refine FinS.f ?_) | (refine FinS.agg ?_) | (refine FinS.tup ?_)))
  all_goals (try (refine Le.of ?_; (conv => whnf)))
  repeat' ((fail_if_success (with_reducible refine Side.mk ?_)); first | (refine Rest.mk (drawR_sound zES18Y_Y4 mixOK zHS18Y_Y4 ?_)) | ((fail_if_success (with_reducible refine Rest.mk ?_)); first | (with_reducible exact True.intro) | (with_reducible refine Need.mk ?_ ?_) | (with_reducible refine And.intro ?_ ?_) | (with_reducible intro _) | ((fail_if_success (with_reducible refine FinS.mk ?_)); (fail_if_success (with_reducible refine Le.mk ?_)); (conv => whnf)) | (refine FinS.b ?_) | (refine FinS.lb ?_) | (refine FinS.i ?_) | (refine FinS.f ?_) | (refine FinS.agg ?_) | (refine FinS.tup ?_)))
  all_goals (try refine Side.mk ?_)
  all_goals (try simp only [pOf_pt, eq_self, decide_eq_true_eq, decide_eq_false_iff_not, Int.ofNat_lt, Int.ofNat_le, gt_iff_lt, ge_iff_le, true_and, Bool.not_eq_true', Bool.not_eq_false', Int.toNat_natCast, Nat.zero_add] at *)
  all_goals first | (with_reducible rfl) | (with_reducible trivial) | (with_reducible assumption) | omega | exact ⟨rfl, rfl⟩ | exact ⟨rfl, fun _ _ => rfl⟩ | exact ⟨rfl, rfl, fun _ _ => rfl⟩ | exact ⟨by omega, trivial⟩ | exact fun _ _ => trivial | exact i64_id (by omega) (by omega) | exact fun _ _ _ _ => .inr rfl | exact ⟨rfl, fun _ _ _ _ => .inr rfl⟩ | (exact h0n) | (exact h0m) | (exact h2) | (exact hp) | (exact hq) | (exact ⟨h0m, fun _ _ _ _ => .inr rfl⟩) | (exact ⟨h0n, fun _ _ _ _ => .inr rfl⟩) | ((rename_i hx; exfalso; simp at hx; done)) | (exact ⟨isPts_pt _ _, b0⟩) | (exact ⟨isPts_pt _ _, b1⟩) | (exact ⟨isPts_pt _ _, isPts_pt _ _, b0, b1⟩) | (with_reducible exact mb_eq) | (exact fun _ => ⟨isPts_pt _ _, b1⟩) | (exact ⟨rfl, fun _ _ _ _ => .inr rfl⟩) | (exact ⟨by omega, fun _ _ _ _ => .inr rfl⟩) | (exact fun _ => ⟨by decide, by decide⟩) | (exact ⟨by decide, by decide⟩) | (exact fun _ _ => ⟨by decide, by decide⟩) | ((intro i hi j hj; rcases i with _ | _ | i <;> rcases j with _ | _ | j <;> first | exact .inr rfl | (exfalso; omega))) | (exact fun _ _ _ _ => .inr trivial)
theorem q6_7 (n : Nat) (p : Nat → Nat × Nat) (m : Nat) (q : Nat → Nat × Nat) (hp : checkV n p = 0) (hq : checkV m q = 0) (w : SOk n p m q (boV n p m q) (MB n p m q)) (cx : Cx) : CodeOK Try.prog cx fi6.n (dropS 7 fi6.body) ⟨[(0, .ro 2 n (fun j => ptM (p j))), (1, .ro 2 m (fun j => ptM (q j))), (5, .b true), (6, .os 0 3 0 n), (7, .i .i64 0), (8, .os 1 3 0 m), (9, .i .i64 0), (10, .os 2 2 0 (boV n p m q).length), (11, .i .i64 0)], [], [(0, .rows 3 n fun i => plM (SD n p i)), (1, .rows 3 m fun i => plM (SD m q i)), (2, .rows 2 (boV n p m q).length fun k => ptM ((boV n p m q).getD k z2))], 3⟩ (finK (genQ Try.prog exts eqs [] S18Y) fi6.res (.b true) []) := by
  have hpb : (checkV n p != 0) = false := by rw [hp]; rfl
  have hqb : (checkV m q != 0) = false := by rw [hq]; rfl
  have hn := check_le hpb
  have hm := check_le hqb
  have b0 : n < big := Nat.lt_of_le_of_lt hn (by decide)
  have b1 : m < big := Nat.lt_of_le_of_lt hm (by decide)
  have h0n : nOk (checkV n p) n = n := nOk_0 hpb
  have h0m : nOk (checkV m q) m = m := nOk_0 hqb
  have h2 : twoV n p m q = 0 := by rw [two_2 hpb]; exact hq
  have hl : (boV n p m q).length < 4611686018427387904 := Nat.lt_of_le_of_lt bo_le (by decide)
  refine CodeOK.cut zES18Y_Y4 zHS18Y_Y4 1 (c := dropS 7 fi6.body) (by kernel_rfl) ?_ (q6_8 n p m q hp hq w cx)
  repeat' ((fail_if_success (with_reducible refine Side.mk ?_)); first | (refine Rest.mk (drawR_sound zES18Y_Y4 mixOK zHS18Y_Y4 ?_)) | ((fail_if_success (with_reducible refine Rest.mk ?_)); first | (with_reducible exact True.intro) | (with_reducible refine Need.mk ?_ ?_) | (with_reducible refine And.intro ?_ ?_) | (with_reducible intro _) | ((fail_if_success (with_reducible refine FinS.mk ?_)); (fail_if_success (with_reducible refine Le.mk ?_)); (conv => whnf)) | (refine FinS.b ?_) | (refine FinS.lb ?_) | (refine FinS.i ?_) | (refine FinS.f ?_) | (refine FinS.agg ?_) | (refine FinS.tup ?_)))
  all_goals (try (refine Le.of ?_; (conv => whnf)))
  repeat' ((fail_if_success (with_reducible refine Side.mk ?_)); first | (refine Rest.mk (drawR_sound zES18Y_Y4 mixOK zHS18Y_Y4 ?_)) | ((fail_if_success (with_reducible refine Rest.mk ?_)); first | (with_reducible exact True.intro) | (with_reducible refine Need.mk ?_ ?_) | (with_reducible refine And.intro ?_ ?_) | (with_reducible intro _) | ((fail_if_success (with_reducible refine FinS.mk ?_)); (fail_if_success (with_reducible refine Le.mk ?_)); (conv => whnf)) | (refine FinS.b ?_) | (refine FinS.lb ?_) | (refine FinS.i ?_) | (refine FinS.f ?_) | (refine FinS.agg ?_) | (refine FinS.tup ?_)))
  all_goals (try refine Side.mk ?_)
  all_goals (try simp only [pOf_pt, eq_self, decide_eq_true_eq, decide_eq_false_iff_not, Int.ofNat_lt, Int.ofNat_le, gt_iff_lt, ge_iff_le, true_and, Bool.not_eq_true', Bool.not_eq_false', Int.toNat_natCast, Nat.zero_add] at *)
  all_goals first | (with_reducible rfl) | (with_reducible trivial) | (with_reducible assumption) | omega | exact ⟨rfl, rfl⟩ | exact ⟨rfl, fun _ _ => rfl⟩ | exact ⟨rfl, rfl, fun _ _ => rfl⟩ | exact ⟨by omega, trivial⟩ | exact fun _ _ => trivial | exact i64_id (by omega) (by omega) | exact fun _ _ _ _ => .inr rfl | exact ⟨rfl, fun _ _ _ _ => .inr rfl⟩ | (exact h0n) | (exact h0m) | (exact h2) | (exact hp) | (exact hq) | (exact ⟨h0m, fun _ _ _ _ => .inr rfl⟩) | (exact ⟨h0n, fun _ _ _ _ => .inr rfl⟩) | ((rename_i hx; exfalso; simp at hx; done)) | (exact ⟨isPts_pt _ _, b0⟩) | (exact ⟨isPts_pt _ _, b1⟩) | (exact ⟨isPts_pt _ _, isPts_pt _ _, b0, b1⟩) | (with_reducible exact mb_eq) | (exact fun _ => ⟨isPts_pt _ _, b1⟩) | (exact ⟨rfl, fun _ _ _ _ => .inr rfl⟩) | (exact ⟨by omega, fun _ _ _ _ => .inr rfl⟩) | (exact fun _ => ⟨by decide, by decide⟩) | (exact ⟨by decide, by decide⟩) | (exact fun _ _ => ⟨by decide, by decide⟩) | ((intro i hi j hj; rcases i with _ | _ | i <;> rcases j with _ | _ | j <;> first | exact .inr rfl | (exfalso; omega))) | (exact fun _ _ _ _ => .inr trivial)
theorem q6_6 (n : Nat) (p : Nat → Nat × Nat) (m : Nat) (q : Nat → Nat × Nat) (hp : checkV n p = 0) (hq : checkV m q = 0) (w : SOk n p m q (boV n p m q) (MB n p m q)) (cx : Cx) : CodeOK Try.prog cx fi6.n (dropS 6 fi6.body) ⟨[(0, .ro 2 n (fun j => ptM (p j))), (1, .ro 2 m (fun j => ptM (q j))), (5, .b true), (6, .os 0 3 0 n), (7, .i .i64 0), (8, .os 1 3 0 m), (9, .i .i64 0)], [], [(0, .rows 3 n fun i => plM (SD n p i)), (1, .rows 3 m fun i => plM (SD m q i))], 2⟩ (finK (genQ Try.prog exts eqs [] S18Y) fi6.res (.b true) []) := by
  have hpb : (checkV n p != 0) = false := by rw [hp]; rfl
  have hqb : (checkV m q != 0) = false := by rw [hq]; rfl
  have hn := check_le hpb
  have hm := check_le hqb
  have b0 : n < big := Nat.lt_of_le_of_lt hn (by decide)
  have b1 : m < big := Nat.lt_of_le_of_lt hm (by decide)
  have h0n : nOk (checkV n p) n = n := nOk_0 hpb
  have h0m : nOk (checkV m q) m = m := nOk_0 hqb
  have h2 : twoV n p m q = 0 := by rw [two_2 hpb]; exact hq
  have hl : (boV n p m q).length < 4611686018427387904 := Nat.lt_of_le_of_lt bo_le (by decide)
  refine CodeOK.cut zES18Y_Y4 zHS18Y_Y4 1 (c := dropS 6 fi6.body) (by kernel_rfl) ?_ (q6_7 n p m q hp hq w cx)
  repeat' ((fail_if_success (with_reducible refine Side.mk ?_)); first | (refine Rest.mk (drawR_sound zES18Y_Y4 mixOK zHS18Y_Y4 ?_)) | ((fail_if_success (with_reducible refine Rest.mk ?_)); first | (with_reducible exact True.intro) | (with_reducible refine Need.mk ?_ ?_) | (with_reducible refine And.intro ?_ ?_) | (with_reducible intro _) | ((fail_if_success (with_reducible refine FinS.mk ?_)); (fail_if_success (with_reducible refine Le.mk ?_)); (conv => whnf)) | (refine FinS.b ?_) | (refine FinS.lb ?_) | (refine FinS.i ?_) | (refine FinS.f ?_) | (refine FinS.agg ?_) | (refine FinS.tup ?_)))
  all_goals (try (refine Le.of ?_; (conv => whnf)))
  repeat' ((fail_if_success (with_reducible refine Side.mk ?_)); first | (refine Rest.mk (drawR_sound zES18Y_Y4 mixOK zHS18Y_Y4 ?_)) | ((fail_if_success (with_reducible refine Rest.mk ?_)); first | (with_reducible exact True.intro) | (with_reducible refine Need.mk ?_ ?_) | (with_reducible refine And.intro ?_ ?_) | (with_reducible intro _) | ((fail_if_success (with_reducible refine FinS.mk ?_)); (fail_if_success (with_reducible refine Le.mk ?_)); (conv => whnf)) | (refine FinS.b ?_) | (refine FinS.lb ?_) | (refine FinS.i ?_) | (refine FinS.f ?_) | (refine FinS.agg ?_) | (refine FinS.tup ?_)))
  all_goals (try refine Side.mk ?_)
  all_goals (try simp only [pOf_pt, eq_self, decide_eq_true_eq, decide_eq_false_iff_not, Int.ofNat_lt, Int.ofNat_le, gt_iff_lt, ge_iff_le, true_and, Bool.not_eq_true', Bool.not_eq_false', Int.toNat_natCast, Nat.zero_add] at *)
  all_goals first | (with_reducible rfl) | (with_reducible trivial) | (with_reducible assumption) | omega | exact ⟨rfl, rfl⟩ | exact ⟨rfl, fun _ _ => rfl⟩ | exact ⟨rfl, rfl, fun _ _ => rfl⟩ | exact ⟨by omega, trivial⟩ | exact fun _ _ => trivial | exact i64_id (by omega) (by omega) | exact fun _ _ _ _ => .inr rfl | exact ⟨rfl, fun _ _ _ _ => .inr rfl⟩ | (exact h0n) | (exact h0m) | (exact h2) | (exact hp) | (exact hq) | (exact ⟨h0m, fun _ _ _ _ => .inr rfl⟩) | (exact ⟨h0n, fun _ _ _ _ => .inr rfl⟩) | ((rename_i hx; exfalso; simp at hx; done)) | (exact ⟨isPts_pt _ _, b0⟩) | (exact ⟨isPts_pt _ _, b1⟩) | (exact ⟨isPts_pt _ _, isPts_pt _ _, b0, b1⟩) | (with_reducible exact mb_eq) | (exact fun _ => ⟨isPts_pt _ _, b1⟩) | (exact ⟨rfl, fun _ _ _ _ => .inr rfl⟩) | (exact ⟨by omega, fun _ _ _ _ => .inr rfl⟩) | (exact fun _ => ⟨by decide, by decide⟩) | (exact ⟨by decide, by decide⟩) | (exact fun _ _ => ⟨by decide, by decide⟩) | ((intro i hi j hj; rcases i with _ | _ | i <;> rcases j with _ | _ | j <;> first | exact .inr rfl | (exfalso; omega))) | (exact fun _ _ _ _ => .inr trivial)
theorem q6_5 (n : Nat) (p : Nat → Nat × Nat) (m : Nat) (q : Nat → Nat × Nat) (hp : checkV n p = 0) (hq : checkV m q = 0) (w : SOk n p m q (boV n p m q) (MB n p m q)) (cx : Cx) : CodeOK Try.prog cx fi6.n (dropS 5 fi6.body) ⟨[(0, .ro 2 n (fun j => ptM (p j))), (1, .ro 2 m (fun j => ptM (q j))), (5, .b true), (6, .os 0 3 0 n), (7, .i .i64 0)], [], [(0, .rows 3 n fun i => plM (SD n p i))], 1⟩ (finK (genQ Try.prog exts eqs [] S18Y) fi6.res (.b true) []) := by
  have hpb : (checkV n p != 0) = false := by rw [hp]; rfl
  have hqb : (checkV m q != 0) = false := by rw [hq]; rfl
  have hn := check_le hpb
  have hm := check_le hqb
  have b0 : n < big := Nat.lt_of_le_of_lt hn (by decide)
  have b1 : m < big := Nat.lt_of_le_of_lt hm (by decide)
  have h0n : nOk (checkV n p) n = n := nOk_0 hpb
  have h0m : nOk (checkV m q) m = m := nOk_0 hqb
  have h2 : twoV n p m q = 0 := by rw [two_2 hpb]; exact hq
  have hl : (boV n p m q).length < 4611686018427387904 := Nat.lt_of_le_of_lt bo_le (by decide)
  refine CodeOK.cut zES18Y_Y4 zHS18Y_Y4 1 (c := dropS 5 fi6.body) (by kernel_rfl) ?_ (q6_6 n p m q hp hq w cx)
  repeat' ((fail_if_success (with_reducible refine Side.mk ?_)); first | (refine Rest.mk (drawR_sound zES18Y_Y4 mixOK zHS18Y_Y4 ?_)) | ((fail_if_success (with_reducible refine Rest.mk ?_)); first | (with_reducible exact True.intro) | (with_reducible refine Need.mk ?_ ?_) | (with_reducible refine And.intro ?_ ?_) | (with_reducible intro _) | ((fail_if_success (with_reducible refine FinS.mk ?_)); (fail_if_success (with_reducible refine Le.mk ?_)); (conv => whnf)) | (refine FinS.b ?_) | (refine FinS.lb ?_) | (refine FinS.i ?_) | (refine FinS.f ?_) | (refine FinS.agg ?_) | (refine FinS.tup ?_)))
  all_goals (try (refine Le.of ?_; (conv => whnf)))
  repeat' ((fail_if_success (with_reducible refine Side.mk ?_)); first | (refine Rest.mk (drawR_sound zES18Y_Y4 mixOK zHS18Y_Y4 ?_)) | ((fail_if_success (with_reducible refine Rest.mk ?_)); first | (with_reducible exact True.intro) | (with_reducible refine Need.mk ?_ ?_) | (with_reducible refine And.intro ?_ ?_) | (with_reducible intro _) | ((fail_if_success (with_reducible refine FinS.mk ?_)); (fail_if_success (with_reducible refine Le.mk ?_)); (conv => whnf)) | (refine FinS.b ?_) | (refine FinS.lb ?_) | (refine FinS.i ?_) | (refine FinS.f ?_) | (refine FinS.agg ?_) | (refine FinS.tup ?_)))
  all_goals (try refine Side.mk ?_)
  all_goals (try simp only [pOf_pt, eq_self, decide_eq_true_eq, decide_eq_false_iff_not, Int.ofNat_lt, Int.ofNat_le, gt_iff_lt, ge_iff_le, true_and, Bool.not_eq_true', Bool.not_eq_false', Int.toNat_natCast, Nat.zero_add] at *)
  all_goals first | (with_reducible rfl) | (with_reducible trivial) | (with_reducible assumption) | omega | exact ⟨rfl, rfl⟩ | exact ⟨rfl, fun _ _ => rfl⟩ | exact ⟨rfl, rfl, fun _ _ => rfl⟩ | exact ⟨by omega, trivial⟩ | exact fun _ _ => trivial | exact i64_id (by omega) (by omega) | exact fun _ _ _ _ => .inr rfl | exact ⟨rfl, fun _ _ _ _ => .inr rfl⟩ | (exact h0n) | (exact h0m) | (exact h2) | (exact hp) | (exact hq) | (exact ⟨h0m, fun _ _ _ _ => .inr rfl⟩) | (exact ⟨h0n, fun _ _ _ _ => .inr rfl⟩) | ((rename_i hx; exfalso; simp at hx; done)) | (exact ⟨isPts_pt _ _, b0⟩) | (exact ⟨isPts_pt _ _, b1⟩) | (exact ⟨isPts_pt _ _, isPts_pt _ _, b0, b1⟩) | (with_reducible exact mb_eq) | (exact fun _ => ⟨isPts_pt _ _, b1⟩) | (exact ⟨rfl, fun _ _ _ _ => .inr rfl⟩) | (exact ⟨by omega, fun _ _ _ _ => .inr rfl⟩) | (exact fun _ => ⟨by decide, by decide⟩) | (exact ⟨by decide, by decide⟩) | (exact fun _ _ => ⟨by decide, by decide⟩) | ((intro i hi j hj; rcases i with _ | _ | i <;> rcases j with _ | _ | j <;> first | exact .inr rfl | (exfalso; omega))) | (exact fun _ _ _ _ => .inr trivial)
theorem q6_4 (n : Nat) (p : Nat → Nat × Nat) (m : Nat) (q : Nat → Nat × Nat) (hp : checkV n p = 0) (hq : checkV m q = 0) (w : SOk n p m q (boV n p m q) (MB n p m q)) (cx : Cx) : CodeOK Try.prog cx fi6.n (dropS 4 fi6.body) ⟨[(0, .ro 2 n (fun j => ptM (p j))), (1, .ro 2 m (fun j => ptM (q j))), (5, .b true)], [], [], 0⟩ (finK (genQ Try.prog exts eqs [] S18Y) fi6.res (.b true) []) := by
  have hpb : (checkV n p != 0) = false := by rw [hp]; rfl
  have hqb : (checkV m q != 0) = false := by rw [hq]; rfl
  have hn := check_le hpb
  have hm := check_le hqb
  have b0 : n < big := Nat.lt_of_le_of_lt hn (by decide)
  have b1 : m < big := Nat.lt_of_le_of_lt hm (by decide)
  have h0n : nOk (checkV n p) n = n := nOk_0 hpb
  have h0m : nOk (checkV m q) m = m := nOk_0 hqb
  have h2 : twoV n p m q = 0 := by rw [two_2 hpb]; exact hq
  have hl : (boV n p m q).length < 4611686018427387904 := Nat.lt_of_le_of_lt bo_le (by decide)
  refine CodeOK.cut zES18Y_Y4 zHS18Y_Y4 1 (c := dropS 4 fi6.body) (by kernel_rfl) ?_ (q6_5 n p m q hp hq w cx)
  repeat' ((fail_if_success (with_reducible refine Side.mk ?_)); first | (refine Rest.mk (drawR_sound zES18Y_Y4 mixOK zHS18Y_Y4 ?_)) | ((fail_if_success (with_reducible refine Rest.mk ?_)); first | (with_reducible exact True.intro) | (with_reducible refine Need.mk ?_ ?_) | (with_reducible refine And.intro ?_ ?_) | (with_reducible intro _) | ((fail_if_success (with_reducible refine FinS.mk ?_)); (fail_if_success (with_reducible refine Le.mk ?_)); (conv => whnf)) | (refine FinS.b ?_) | (refine FinS.lb ?_) | (refine FinS.i ?_) | (refine FinS.f ?_) | (refine FinS.agg ?_) | (refine FinS.tup ?_)))
  all_goals (try (refine Le.of ?_; (conv => whnf)))
  repeat' ((fail_if_success (with_reducible refine Side.mk ?_)); first | (refine Rest.mk (drawR_sound zES18Y_Y4 mixOK zHS18Y_Y4 ?_)) | ((fail_if_success (with_reducible refine Rest.mk ?_)); first | (with_reducible exact True.intro) | (with_reducible refine Need.mk ?_ ?_) | (with_reducible refine And.intro ?_ ?_) | (with_reducible intro _) | ((fail_if_success (with_reducible refine FinS.mk ?_)); (fail_if_success (with_reducible refine Le.mk ?_)); (conv => whnf)) | (refine FinS.b ?_) | (refine FinS.lb ?_) | (refine FinS.i ?_) | (refine FinS.f ?_) | (refine FinS.agg ?_) | (refine FinS.tup ?_)))
  all_goals (try refine Side.mk ?_)
  all_goals (try simp only [pOf_pt, eq_self, decide_eq_true_eq, decide_eq_false_iff_not, Int.ofNat_lt, Int.ofNat_le, gt_iff_lt, ge_iff_le, true_and, Bool.not_eq_true', Bool.not_eq_false', Int.toNat_natCast, Nat.zero_add] at *)
  all_goals first | (with_reducible rfl) | (with_reducible trivial) | (with_reducible assumption) | omega | exact ⟨rfl, rfl⟩ | exact ⟨rfl, fun _ _ => rfl⟩ | exact ⟨rfl, rfl, fun _ _ => rfl⟩ | exact ⟨by omega, trivial⟩ | exact fun _ _ => trivial | exact i64_id (by omega) (by omega) | exact fun _ _ _ _ => .inr rfl | exact ⟨rfl, fun _ _ _ _ => .inr rfl⟩ | (exact h0n) | (exact h0m) | (exact h2) | (exact hp) | (exact hq) | (exact ⟨h0m, fun _ _ _ _ => .inr rfl⟩) | (exact ⟨h0n, fun _ _ _ _ => .inr rfl⟩) | ((rename_i hx; exfalso; simp at hx; done)) | (exact ⟨isPts_pt _ _, b0⟩) | (exact ⟨isPts_pt _ _, b1⟩) | (exact ⟨isPts_pt _ _, isPts_pt _ _, b0, b1⟩) | (with_reducible exact mb_eq) | (exact fun _ => ⟨isPts_pt _ _, b1⟩) | (exact ⟨rfl, fun _ _ _ _ => .inr rfl⟩) | (exact ⟨by omega, fun _ _ _ _ => .inr rfl⟩) | (exact fun _ => ⟨by decide, by decide⟩) | (exact ⟨by decide, by decide⟩) | (exact fun _ _ => ⟨by decide, by decide⟩) | ((intro i hi j hj; rcases i with _ | _ | i <;> rcases j with _ | _ | j <;> first | exact .inr rfl | (exfalso; omega))) | (exact fun _ _ _ _ => .inr trivial)
theorem q6_0 (n : Nat) (p : Nat → Nat × Nat) (m : Nat) (q : Nat → Nat × Nat) (hp : checkV n p = 0) (hq : checkV m q = 0) (w : SOk n p m q (boV n p m q) (MB n p m q)) (cx : Cx) : CodeOK Try.prog cx fi6.n (dropS 0 fi6.body) ⟨initF 0 [.ro 2 n (fun j => ptM (p j)), .ro 2 m (fun j => ptM (q j))], [], [], 0⟩ (finK (genQ Try.prog exts eqs [] S18Y) fi6.res (.b true) []) := by
  have hpb : (checkV n p != 0) = false := by rw [hp]; rfl
  have hqb : (checkV m q != 0) = false := by rw [hq]; rfl
  have hn := check_le hpb
  have hm := check_le hqb
  have b0 : n < big := Nat.lt_of_le_of_lt hn (by decide)
  have b1 : m < big := Nat.lt_of_le_of_lt hm (by decide)
  have h0n : nOk (checkV n p) n = n := nOk_0 hpb
  have h0m : nOk (checkV m q) m = m := nOk_0 hqb
  have h2 : twoV n p m q = 0 := by rw [two_2 hpb]; exact hq
  have hl : (boV n p m q).length < 4611686018427387904 := Nat.lt_of_le_of_lt bo_le (by decide)
  refine CodeOK.cut zES18Y_Y4 zHS18Y_Y4 4 (c := dropS 0 fi6.body) (by kernel_rfl) ?_ (q6_4 n p m q hp hq w cx)
  repeat' ((fail_if_success (with_reducible refine Side.mk ?_)); first | (refine Rest.mk (drawR_sound zES18Y_Y4 mixOK zHS18Y_Y4 ?_)) | ((fail_if_success (with_reducible refine Rest.mk ?_)); first | (with_reducible exact True.intro) | (with_reducible refine Need.mk ?_ ?_) | (with_reducible refine And.intro ?_ ?_) | (with_reducible intro hcl; try (exfalso; rw [pOf_pt, pOf_pt, hp, hq] at hcl; exact absurd hcl (by decide); done)) | ((fail_if_success (with_reducible refine FinS.mk ?_)); (fail_if_success (with_reducible refine Le.mk ?_)); (conv => whnf)) | (refine FinS.b ?_) | (refine FinS.lb ?_) | (refine FinS.i ?_) | (refine FinS.f ?_) | (refine FinS.agg ?_) | (refine FinS.tup ?_)))
  all_goals (try (refine Le.of ?_; (conv => whnf)))
  repeat' ((fail_if_success (with_reducible refine Side.mk ?_)); first | (refine Rest.mk (drawR_sound zES18Y_Y4 mixOK zHS18Y_Y4 ?_)) | ((fail_if_success (with_reducible refine Rest.mk ?_)); first | (with_reducible exact True.intro) | (with_reducible refine Need.mk ?_ ?_) | (with_reducible refine And.intro ?_ ?_) | (with_reducible intro hcl; try (exfalso; rw [pOf_pt, pOf_pt, hp, hq] at hcl; exact absurd hcl (by decide); done)) | ((fail_if_success (with_reducible refine FinS.mk ?_)); (fail_if_success (with_reducible refine Le.mk ?_)); (conv => whnf)) | (refine FinS.b ?_) | (refine FinS.lb ?_) | (refine FinS.i ?_) | (refine FinS.f ?_) | (refine FinS.agg ?_) | (refine FinS.tup ?_)))
  all_goals (try refine Side.mk ?_)
  all_goals (try simp only [pOf_pt, eq_self, decide_eq_true_eq, decide_eq_false_iff_not, Int.ofNat_lt, Int.ofNat_le, gt_iff_lt, ge_iff_le, true_and, Bool.not_eq_true', Bool.not_eq_false', Int.toNat_natCast, Nat.zero_add] at *)
  all_goals first | (with_reducible rfl) | (with_reducible trivial) | (with_reducible assumption) | omega | exact ⟨rfl, rfl⟩ | exact ⟨rfl, fun _ _ => rfl⟩ | exact ⟨rfl, rfl, fun _ _ => rfl⟩ | exact ⟨by omega, trivial⟩ | exact fun _ _ => trivial | exact i64_id (by omega) (by omega) | exact fun _ _ _ _ => .inr rfl | exact ⟨rfl, fun _ _ _ _ => .inr rfl⟩ | (exact h0n) | (exact h0m) | (exact h2) | (exact hp) | (exact hq) | (exact ⟨h0m, fun _ _ _ _ => .inr rfl⟩) | (exact ⟨h0n, fun _ _ _ _ => .inr rfl⟩) | ((rename_i hx; exfalso; simp at hx; done)) | (exact ⟨isPts_pt _ _, b0⟩) | (exact ⟨isPts_pt _ _, b1⟩) | (exact ⟨isPts_pt _ _, isPts_pt _ _, b0, b1⟩) | (with_reducible exact mb_eq) | (exact fun _ => ⟨isPts_pt _ _, b1⟩) | (exact ⟨rfl, fun _ _ _ _ => .inr rfl⟩) | (exact ⟨by omega, fun _ _ _ _ => .inr rfl⟩) | (exact fun _ => ⟨by decide, by decide⟩) | (exact ⟨by decide, by decide⟩) | (exact fun _ _ => ⟨by decide, by decide⟩) | ((intro i hi j hj; rcases i with _ | _ | i <;> rcases j with _ | _ | j <;> first | exact .inr rfl | (exfalso; omega))) | (exact fun _ _ _ _ => .inr trivial)
theorem q6_n (n : Nat) (p : Nat → Nat × Nat) (m : Nat) (q : Nat → Nat × Nat) (b0 : n < big) (b1 : m < big) (h : (checkV n p != 0 || checkV m q != 0) = true) (cx : Cx) : CodeOK Try.prog cx fi6.n (dropS 0 fi6.body) ⟨initF 0 [.ro 2 n (fun j => ptM (p j)), .ro 2 m (fun j => ptM (q j))], [], [], 0⟩ (finK (genQ Try.prog exts eqs [] S18Y) fi6.res (.b true) []) := by
  refine evC_sound zES18Y_Y4 zHS18Y_Y4 ?_
  repeat' ((fail_if_success (with_reducible refine Side.mk ?_)); first | (refine Rest.mk (drawR_sound zES18Y_Y4 mixOK zHS18Y_Y4 ?_)) | ((fail_if_success (with_reducible refine Rest.mk ?_)); first | (with_reducible exact True.intro) | (with_reducible refine Need.mk ?_ ?_) | (with_reducible refine And.intro ?_ ?_) | (with_reducible intro hcl; try (exfalso; rw [pOf_pt, pOf_pt] at hcl; rw [h] at hcl; exact absurd hcl (by decide); done)) | ((fail_if_success (with_reducible refine FinS.mk ?_)); (fail_if_success (with_reducible refine Le.mk ?_)); (conv => whnf)) | (refine FinS.b ?_) | (refine FinS.lb ?_) | (refine FinS.i ?_) | (refine FinS.f ?_) | (refine FinS.agg ?_) | (refine FinS.tup ?_)))
  all_goals (try refine Side.mk ?_)
  all_goals (try simp only [pOf_pt, eq_self, decide_eq_true_eq, decide_eq_false_iff_not, Int.ofNat_lt, Int.ofNat_le, gt_iff_lt, ge_iff_le, true_and, Bool.not_eq_true', Bool.not_eq_false', Int.toNat_natCast, Nat.zero_add] at *)
  all_goals first | (with_reducible rfl) | (with_reducible trivial) | (with_reducible assumption) | omega | exact ⟨rfl, rfl⟩ | exact ⟨rfl, fun _ _ => rfl⟩ | exact ⟨rfl, rfl, fun _ _ => rfl⟩ | exact ⟨by omega, trivial⟩ | exact fun _ _ => trivial | exact i64_id (by omega) (by omega) | exact fun _ _ _ _ => .inr rfl | exact ⟨rfl, fun _ _ _ _ => .inr rfl⟩ | (exact fun _ => ⟨by decide, by decide⟩) | (exact ⟨by decide, by decide⟩) | (exact fun _ _ => ⟨by decide, by decide⟩) | ((intro i hi j hj; rcases i with _ | _ | i <;> rcases j with _ | _ | j <;> first | exact .inr rfl | (exfalso; omega))) | (exact fun _ _ _ _ => .inr trivial) | (exact h0n) | (exact h0m) | (exact h2) | (exact hp) | (exact hq) | (exact ⟨h0m, fun _ _ _ _ => .inr rfl⟩) | (exact ⟨h0n, fun _ _ _ _ => .inr rfl⟩) | ((rename_i hx; exfalso; simp at hx; done)) | (exact ⟨isPts_pt _ _, b0⟩) | (exact ⟨isPts_pt _ _, b1⟩) | (exact ⟨isPts_pt _ _, isPts_pt _ _, b0, b1⟩) | (with_reducible exact mb_eq) | (exact fun _ => ⟨isPts_pt _ _, b1⟩) | (exact ⟨rfl, fun _ _ _ _ => .inr rfl⟩) | (exact ⟨by omega, fun _ _ _ _ => .inr rfl⟩)
end Go.Ev.Clip
