/-
  The walk of the closed sentence; no condition.
-/
import Derived.Test.YtbnfcjckbgpkeaaSweAl
import Derived.Test.YtbnfcjckbgpkeaaSweNa
set_option linter.unusedSimpArgs false
set_option linter.unusedVariables false
open Go Go.Proofs
namespace Go.Ev.Sweep
set_option maxRecDepth 100000
set_option maxHeartbeats 1000000
open Go.Ev.So
theorem eN_b : eN 16385 = 4 := rfl
theorem big_p (p : Nat → Bx) : pEr (cl 16385 p) 16385 = 4 := (pE_big (by omega)).1
theorem big_b (p : Nat → Bx) : bE (cl 3 p) (cl 16385 p) 3 16385 = 4 := (bE_big (by omega)).1
theorem tn0 : Int.toNat 16384 = 16384 := rfl
theorem tn1 : Int.toNat 3 = 3 := rfl
theorem tn2 : Int.toNat 362 = 362 := rfl
theorem tn3 : Int.toNat 256 = 256 := rfl
theorem tn4 : Int.toNat 257 = 257 := rfl
structure NmOK (f s : Nat → Bx) : Prop where
  f0 : ∀ k : Nat, f k = (floatOfInt .f64 ((2 * k : Nat) : Int), 0, floatOfInt .f64 ((2 * k + 1 : Nat) : Int), 4607182418800017408)
  s0 : ∀ k : Nat, s k = (0, 0, 4611686018427387904, 4611686018427387904)
  f1 : pEr (cl 16384 f) 16384 = 0
  f2 : pNr (cl 16384 f) 16384 = 0
  s1 : pEr (cl 362 s) 362 = 0
  s2 : pNr (cl 362 s) 362 = 65341
  s3 : pEr (cl 363 s) 363 = 4
  b1 : bE (cl 256 s) (cl 256 s) 256 256 = 0
  b2 : bN (cl 256 s) (cl 256 s) 256 256 = 65536
  b3 : bE (cl 256 s) (cl 257 s) 256 257 = 4
theorem nm_ok : NmOK far sm where
  f0 _ := rfl
  s0 _ := rfl
  f1 := far_p.1
  f2 := far_p.2
  s1 := sm_p.1
  s2 := sm_p.2
  s3 := sm_p2.1
  b1 := sm_b.1
  b2 := sm_b.2
  b3 := sm_b2.1
theorem app_bx {k : Nat} {p : Nat → Bx} {X : Nat → List MV} {tl : List MV} (hX : X 0 = .f .f64 (p k).1 :: .f .f64 (p k).2.1 :: .f .f64 (p k).2.2.1 :: .f .f64 (p k).2.2.2 :: tl) {i j : Nat} (hi : i < k + 1) (hj : j < 4) : getM (appGet k (fun j => bM (p j)) X i) j = getM (bM (p i)) j := by
  unfold appGet
  rw [show i - k = 0 by omega, hX]
  have hj4 : j = 0 ∨ j = 1 ∨ j = 2 ∨ j = 3 := by omega
  rcases Nat.lt_or_eq_of_le (Nat.le_of_lt_succ hi) with e | e
  · rw [show Nat.blt i k = true by simpa using e]
    rcases hj4 with rfl | rfl | rfl | rfl <;> rfl
  · subst e
    have hb : Nat.blt i i = false := by
      cases h : Nat.blt i i
      · rfl
      · simp at h
    rw [hb]
    rcases hj4 with rfl | rfl | rfl | rfl <;> rfl
attribute [local irreducible] pNr pEr pG bE bN bG orV oC oJ fL rP cutL mV2 ck oV2 flt feq fN
noncomputable def fi6 : FnI := ⟨158, Try.f6.body.getD .skip, [.tmp 0], true⟩
theorem fi6_ok : fnGen Try.prog 6 = some fi6 := by kernel_rfl
set_option maxHeartbeats 8000000 in
theorem zHS23_Nm {cx : Cx} : CallH (genQ Try.prog exts eqs [] S23).P cx (hnd (genQ Try.prog exts eqs [] S23) cx 6) := hnd_sound (genQ_full extsOK eqsOK S23_ok) 6
theorem zES23_Nm : EnvAll (genQ Try.prog exts eqs [] S23) := (genQ_full extsOK eqsOK S23_ok).toEnvAll
theorem t6g (f s : Nat → Bx) (h : NmOK f s)  : CM Try.prog 6 [] (.b true) [] true := by
  refine CM.of_code zES23_Nm (fnGen_ok fi6_ok) rfl fun w0 okA => ?_
  refine evC_sound (genQ_full extsOK eqsOK S23_ok).toEnvAll zHS23_Nm ?_
  repeat' ((fail_if_success (with_reducible refine Side.mk ?_)); first | (refine Rest.mk (drawR_sound zES23_Nm mixOK zHS23_Nm ?_)) | ((fail_if_success (with_reducible refine Rest.mk ?_)); first | (with_reducible exact True.intro) | (with_reducible refine Need.mk ?_ ?_) | (with_reducible refine And.intro ?_ ?_) | (with_reducible intro hcl; try (exfalso; (first | ((try simp only [Int.toNat_natCast, Nat.zero_add, bOf_b] at hcl); first | (cases hcl; done) | exact absurd hcl (by decide)) | ((try simp only [decide_eq_true_eq, decide_eq_false_iff_not] at hcl); (try simp only [Int.toNat_natCast, Nat.zero_add, bOf_b] at hcl); first | omega | (simp at hcl; omega))); done)) | ((fail_if_success (with_reducible refine FinS.mk ?_)); (fail_if_success (with_reducible refine Le.mk ?_)); (conv => whnf)) | (refine FinS.b ?_) | (refine FinS.lb ?_) | (refine FinS.i ?_) | (refine FinS.f ?_) | (refine FinS.agg ?_) | (refine FinS.tup ?_)))
  all_goals (try (refine Side.mk ?_; (try simp only [Int.toNat_natCast, Nat.zero_add, bOf_b] at *); (try simp only [eq_self, decide_eq_true_eq, decide_eq_false_iff_not, Int.ofNat_lt, Int.ofNat_le, gt_iff_lt, ge_iff_le, true_and, Bool.not_eq_true', Bool.not_eq_false'] at *); all_goals first | (with_reducible rfl) | trivial | omega | rfl | exact fun _ _ => trivial | exact ⟨rfl, rfl⟩ | exact ⟨rfl, fun _ _ => rfl⟩ | exact ⟨rfl, rfl, fun _ _ => rfl⟩ | ((simp; done)) | ((simp; omega)) | (exact ⟨isBx_b _ _, by unfold room; omega⟩) | (exact ⟨isBx_b _ _, by omega⟩) | (exact ⟨isBx_b _ _, isBx_b _ _, by unfold room; omega, by unfold room; omega⟩) | (exact ⟨by omega, by omega⟩) | (exact ⟨by omega, by omega, by omega⟩) | (exact ⟨by omega, by omega, (by show (k + 1) * 32 ≤ _; omega), by omega⟩) | (exact ⟨⟨by omega, by omega⟩, by omega⟩)))
  refine loop_ruleD zES23_Nm zHS23_Nm (γ := Nat) (fun k => ⟨[(1, .os 0 4 0 k), (2, .i .i64 (k : Int))], [], [(0, .rows 4 k (fun j => bM (f j)))], 1⟩) (fun k => k ≤ 16385) Nat.succ (fun k => 16385 - k) (0) (Le.phan 4 (Le.of ?_)) ?_ ?_
  · conv => whnf
    repeat' ((fail_if_success (with_reducible refine Side.mk ?_)); first | (refine Rest.mk (drawR_sound zES23_Nm mixOK zHS23_Nm ?_)) | ((fail_if_success (with_reducible refine Rest.mk ?_)); first | (with_reducible exact True.intro) | (with_reducible refine Need.mk ?_ ?_) | (with_reducible refine And.intro ?_ ?_) | (with_reducible intro _) | ((fail_if_success (with_reducible refine FinS.mk ?_)); (fail_if_success (with_reducible refine Le.mk ?_)); (conv => whnf)) | (refine FinS.b ?_) | (refine FinS.lb ?_) | (refine FinS.i ?_) | (refine FinS.f ?_) | (refine FinS.agg ?_) | (refine FinS.tup ?_)))
    all_goals (try (refine Le.of ?_; (conv => whnf)))
    repeat' ((fail_if_success (with_reducible refine Side.mk ?_)); first | (refine Rest.mk (drawR_sound zES23_Nm mixOK zHS23_Nm ?_)) | ((fail_if_success (with_reducible refine Rest.mk ?_)); first | (with_reducible exact True.intro) | (with_reducible refine Need.mk ?_ ?_) | (with_reducible refine And.intro ?_ ?_) | (with_reducible intro _) | ((fail_if_success (with_reducible refine FinS.mk ?_)); (fail_if_success (with_reducible refine Le.mk ?_)); (conv => whnf)) | (refine FinS.b ?_) | (refine FinS.lb ?_) | (refine FinS.i ?_) | (refine FinS.f ?_) | (refine FinS.agg ?_) | (refine FinS.tup ?_)))
    all_goals (try refine Side.mk ?_)
    all_goals (try simp only [eq_self, decide_eq_true_eq, decide_eq_false_iff_not, Int.ofNat_lt, Int.ofNat_le, gt_iff_lt, ge_iff_le, true_and, Bool.not_eq_true', Bool.not_eq_false'] at *)
    all_goals first | (with_reducible rfl) | trivial | omega | rfl | exact fun _ _ => trivial | exact ⟨rfl, rfl⟩ | exact ⟨rfl, fun _ _ => rfl⟩ | exact ⟨rfl, rfl, fun _ _ => rfl⟩ | (exact fun _ hi _ _ => absurd hi (Nat.not_lt_zero _)) | (exact ⟨rfl, fun _ hi _ _ => absurd hi (Nat.not_lt_zero _)⟩)
  · exact Nat.zero_le _
  · intro k hk
    rcases Nat.lt_or_ge k 16385 with hlt | hge
    · have w1 : IntKind.i64.wrap (2 * (k : Int)) = ((2 * k : Nat) : Int) := by rw [i64_wrap (by omega) (by omega)]; omega
      have w2 : IntKind.i64.wrap (((2 * k : Nat) : Int) + 1) = ((2 * k + 1 : Nat) : Int) := wadd1 (by omega)
      have wk : IntKind.i64.wrap ((k : Int) + 1) = ((k + 1 : Nat) : Int) := wadd1 (by omega)
      repeat' ((fail_if_success (with_reducible refine Side.mk ?_)); first | (refine Rest.mk (drawR_sound zES23_Nm mixOK zHS23_Nm ?_)) | ((fail_if_success (with_reducible refine Rest.mk ?_)); first | (with_reducible exact True.intro) | (with_reducible refine Need.mk ?_ ?_) | (with_reducible refine And.intro ?_ ?_) | (with_reducible intro hcl; try (exfalso; (first | ((try simp only [Int.toNat_natCast, Nat.zero_add, bOf_b] at hcl); first | (cases hcl; done) | exact absurd hcl (by decide)) | ((try simp only [decide_eq_true_eq, decide_eq_false_iff_not] at hcl); (try simp only [Int.toNat_natCast, Nat.zero_add, bOf_b] at hcl); first | omega | (simp at hcl; omega))); done)) | ((fail_if_success (with_reducible refine FinS.mk ?_)); (fail_if_success (with_reducible refine Le.mk ?_)); (conv => whnf)) | (refine FinS.b ?_) | (refine FinS.lb ?_) | (refine FinS.i ?_) | (refine FinS.f ?_) | (refine FinS.agg ?_) | (refine FinS.tup ?_)))
      all_goals (try (refine Le.of ?_; (conv => whnf)))
      repeat' ((fail_if_success (with_reducible refine Side.mk ?_)); first | (refine Rest.mk (drawR_sound zES23_Nm mixOK zHS23_Nm ?_)) | ((fail_if_success (with_reducible refine Rest.mk ?_)); first | (with_reducible exact True.intro) | (with_reducible refine Need.mk ?_ ?_) | (with_reducible refine And.intro ?_ ?_) | (with_reducible intro _) | ((fail_if_success (with_reducible refine FinS.mk ?_)); (fail_if_success (with_reducible refine Le.mk ?_)); (conv => whnf)) | (refine FinS.b ?_) | (refine FinS.lb ?_) | (refine FinS.i ?_) | (refine FinS.f ?_) | (refine FinS.agg ?_) | (refine FinS.tup ?_)))
      all_goals (try refine Side.mk ?_)
      all_goals (try simp only [w1, w2, wk, Nat.succ_eq_add_one] at *)
      all_goals (try simp only [eq_self, decide_eq_true_eq, decide_eq_false_iff_not, Int.ofNat_lt, Int.ofNat_le, gt_iff_lt, ge_iff_le, true_and, Bool.not_eq_true', Bool.not_eq_false'] at *)
      all_goals first | (with_reducible rfl) | trivial | omega | rfl | exact fun _ _ => trivial | exact ⟨rfl, rfl⟩ | exact ⟨rfl, fun _ _ => rfl⟩ | exact ⟨rfl, rfl, fun _ _ => rfl⟩ | ((simp; done)) | ((simp; omega)) | (exact ⟨isBx_b _ _, by unfold room; omega⟩) | (exact ⟨isBx_b _ _, by omega⟩) | (exact ⟨isBx_b _ _, isBx_b _ _, by unfold room; omega, by unfold room; omega⟩) | (exact ⟨by omega, by omega⟩) | (exact ⟨by omega, by omega, by omega⟩) | (exact ⟨by omega, by omega, (by show (k + 1) * 32 ≤ _; omega), by omega⟩) | (exact ⟨⟨by omega, by omega⟩, by omega⟩) | (exact fun _ _ _ _ => .inr trivial) | (exact fun _ _ _ _ => .inr rfl) | (exact ⟨rfl, rfl, fun _ _ _ _ => .inr rfl⟩) | (exact ⟨rfl, fun _ _ _ _ => .inr rfl⟩) | (exact fun i hi j hj => .inr (app_bx (tl := []) (by simp only [h.f0, h.s0]; rfl) hi hj)) | (exact ⟨rfl, fun i hi j hj => .inr (app_bx (tl := []) (by simp only [h.f0, h.s0]; rfl) hi hj)⟩) | (exact ⟨rfl, rfl, fun i hi j hj => .inr (app_bx (tl := []) (by simp only [h.f0, h.s0]; rfl) hi hj)⟩)
    · obtain rfl : k = 16385 := by omega
      repeat' ((fail_if_success (with_reducible refine Side.mk ?_)); first | (refine Rest.mk (drawR_sound zES23_Nm mixOK zHS23_Nm ?_)) | ((fail_if_success (with_reducible refine Rest.mk ?_)); first | (with_reducible exact True.intro) | (with_reducible refine Need.mk ?_ ?_) | (with_reducible refine And.intro ?_ ?_) | (with_reducible intro hcl; try (exfalso; (first | ((try simp only [Int.toNat_natCast, tn0, tn1, tn2, tn3, tn4, Nat.zero_add, bOf_b, h.f1, h.f2, big_p, big_b, eN_b, h.s1, h.s2, h.s3, h.b1, h.b2, h.b3] at hcl); first | (cases hcl; done) | exact absurd hcl (by decide)) | ((try simp only [decide_eq_true_eq, decide_eq_false_iff_not] at hcl); (try simp only [Int.toNat_natCast, tn0, tn1, tn2, tn3, tn4, Nat.zero_add, bOf_b, h.f1, h.f2, big_p, big_b, eN_b, h.s1, h.s2, h.s3, h.b1, h.b2, h.b3] at hcl); first | omega | (simp at hcl; omega))); done)) | ((fail_if_success (with_reducible refine FinS.mk ?_)); (fail_if_success (with_reducible refine Le.mk ?_)); (conv => whnf)) | (refine FinS.b ?_) | (refine FinS.lb ?_) | (refine FinS.i ?_) | (refine FinS.f ?_) | (refine FinS.agg ?_) | (refine FinS.tup ?_)))
      all_goals (try (refine Side.mk ?_; (try simp only [Int.toNat_natCast, tn0, tn1, tn2, tn3, tn4, Nat.zero_add, bOf_b, h.f1, h.f2, big_p, big_b, eN_b, h.s1, h.s2, h.s3, h.b1, h.b2, h.b3] at *); (try simp only [eq_self, decide_eq_true_eq, decide_eq_false_iff_not, Int.ofNat_lt, Int.ofNat_le, gt_iff_lt, ge_iff_le, true_and, Bool.not_eq_true', Bool.not_eq_false'] at *); all_goals first | (with_reducible rfl) | trivial | omega | rfl | exact fun _ _ => trivial | exact ⟨rfl, rfl⟩ | exact ⟨rfl, fun _ _ => rfl⟩ | exact ⟨rfl, rfl, fun _ _ => rfl⟩ | ((simp; done)) | ((simp; omega)) | (exact ⟨isBx_b _ _, by unfold room; omega⟩) | (exact ⟨isBx_b _ _, by omega⟩) | (exact ⟨isBx_b _ _, isBx_b _ _, by unfold room; omega, by unfold room; omega⟩) | (exact ⟨by omega, by omega⟩) | (exact ⟨by omega, by omega, by omega⟩) | (exact ⟨by omega, by omega, (by show (k + 1) * 32 ≤ _; omega), by omega⟩) | (exact ⟨⟨by omega, by omega⟩, by omega⟩)))
      refine loop_ruleD zES23_Nm zHS23_Nm (γ := Nat) (fun k => ⟨[(3, .os 1 2 0 0), (4, .i .i64 0), (6, .i .i64 4), (8, .i .i64 4), (10, .i .i64 4), (12, .i .i64 4), (13, .os 6 4 0 k), (14, .i .i64 (k : Int))], [], [(1, .rows 2 0 (rowI2 (pG (cl 16384 f) 16384))), (6, .rows 4 k (fun j => bM (s j)))], 7⟩) (fun k => k ≤ 363) Nat.succ (fun k => 363 - k) (0) (Le.phan 4 (Le.of ?_)) ?_ ?_
      · conv => whnf
        repeat' ((fail_if_success (with_reducible refine Side.mk ?_)); first | (refine Rest.mk (drawR_sound zES23_Nm mixOK zHS23_Nm ?_)) | ((fail_if_success (with_reducible refine Rest.mk ?_)); first | (with_reducible exact True.intro) | (with_reducible refine Need.mk ?_ ?_) | (with_reducible refine And.intro ?_ ?_) | (with_reducible intro _) | ((fail_if_success (with_reducible refine FinS.mk ?_)); (fail_if_success (with_reducible refine Le.mk ?_)); (conv => whnf)) | (refine FinS.b ?_) | (refine FinS.lb ?_) | (refine FinS.i ?_) | (refine FinS.f ?_) | (refine FinS.agg ?_) | (refine FinS.tup ?_)))
        all_goals (try (refine Le.of ?_; (conv => whnf)))
        repeat' ((fail_if_success (with_reducible refine Side.mk ?_)); first | (refine Rest.mk (drawR_sound zES23_Nm mixOK zHS23_Nm ?_)) | ((fail_if_success (with_reducible refine Rest.mk ?_)); first | (with_reducible exact True.intro) | (with_reducible refine Need.mk ?_ ?_) | (with_reducible refine And.intro ?_ ?_) | (with_reducible intro _) | ((fail_if_success (with_reducible refine FinS.mk ?_)); (fail_if_success (with_reducible refine Le.mk ?_)); (conv => whnf)) | (refine FinS.b ?_) | (refine FinS.lb ?_) | (refine FinS.i ?_) | (refine FinS.f ?_) | (refine FinS.agg ?_) | (refine FinS.tup ?_)))
        all_goals (try refine Side.mk ?_)
        all_goals (try simp only [Int.toNat_natCast, tn0, tn1, tn2, tn3, tn4, Nat.zero_add, bOf_b, h.f1, h.f2, big_p, big_b, eN_b, h.s1, h.s2, h.s3, h.b1, h.b2, h.b3] at *)
        all_goals (try simp only [eq_self, decide_eq_true_eq, decide_eq_false_iff_not, Int.ofNat_lt, Int.ofNat_le, gt_iff_lt, ge_iff_le, true_and, Bool.not_eq_true', Bool.not_eq_false'] at *)
        all_goals first | (with_reducible rfl) | trivial | omega | rfl | exact fun _ _ => trivial | exact ⟨rfl, rfl⟩ | exact ⟨rfl, fun _ _ => rfl⟩ | exact ⟨rfl, rfl, fun _ _ => rfl⟩ | (exact fun _ hi _ _ => absurd hi (Nat.not_lt_zero _)) | (exact ⟨rfl, fun _ hi _ _ => absurd hi (Nat.not_lt_zero _)⟩) | ((simp; done)) | ((simp; omega)) | (exact ⟨isBx_b _ _, by unfold room; omega⟩) | (exact ⟨isBx_b _ _, by omega⟩) | (exact ⟨isBx_b _ _, isBx_b _ _, by unfold room; omega, by unfold room; omega⟩) | (exact ⟨by omega, by omega⟩) | (exact ⟨by omega, by omega, by omega⟩) | (exact ⟨by omega, by omega, (by show (k + 1) * 32 ≤ _; omega), by omega⟩) | (exact ⟨⟨by omega, by omega⟩, by omega⟩) | (exact fun _ _ _ _ => .inr trivial) | (exact fun _ _ _ _ => .inr rfl) | (exact ⟨rfl, rfl, fun _ _ _ _ => .inr rfl⟩) | (exact ⟨rfl, fun _ _ _ _ => .inr rfl⟩) | (exact fun _ _ _ _ => .inr rfl) | (exact ⟨rfl, fun _ _ _ _ => .inr rfl⟩) | (exact ⟨rfl, rfl, fun _ _ _ _ => .inr rfl⟩)
      · exact Nat.zero_le _
      · intro k hk
        rcases Nat.lt_or_ge k 363 with hlt | hge
        · have wk : IntKind.i64.wrap ((k : Int) + 1) = ((k + 1 : Nat) : Int) := wadd1 (by omega)
          repeat' ((fail_if_success (with_reducible refine Side.mk ?_)); first | (refine Rest.mk (drawR_sound zES23_Nm mixOK zHS23_Nm ?_)) | ((fail_if_success (with_reducible refine Rest.mk ?_)); first | (with_reducible exact True.intro) | (with_reducible refine Need.mk ?_ ?_) | (with_reducible refine And.intro ?_ ?_) | (with_reducible intro hcl; try (exfalso; (first | ((try simp only [Int.toNat_natCast, Nat.zero_add, bOf_b] at hcl); first | (cases hcl; done) | exact absurd hcl (by decide)) | ((try simp only [decide_eq_true_eq, decide_eq_false_iff_not] at hcl); (try simp only [Int.toNat_natCast, Nat.zero_add, bOf_b] at hcl); first | omega | (simp at hcl; omega))); done)) | ((fail_if_success (with_reducible refine FinS.mk ?_)); (fail_if_success (with_reducible refine Le.mk ?_)); (conv => whnf)) | (refine FinS.b ?_) | (refine FinS.lb ?_) | (refine FinS.i ?_) | (refine FinS.f ?_) | (refine FinS.agg ?_) | (refine FinS.tup ?_)))
          all_goals (try (refine Le.of ?_; (conv => whnf)))
          repeat' ((fail_if_success (with_reducible refine Side.mk ?_)); first | (refine Rest.mk (drawR_sound zES23_Nm mixOK zHS23_Nm ?_)) | ((fail_if_success (with_reducible refine Rest.mk ?_)); first | (with_reducible exact True.intro) | (with_reducible refine Need.mk ?_ ?_) | (with_reducible refine And.intro ?_ ?_) | (with_reducible intro _) | ((fail_if_success (with_reducible refine FinS.mk ?_)); (fail_if_success (with_reducible refine Le.mk ?_)); (conv => whnf)) | (refine FinS.b ?_) | (refine FinS.lb ?_) | (refine FinS.i ?_) | (refine FinS.f ?_) | (refine FinS.agg ?_) | (refine FinS.tup ?_)))
          all_goals (try refine Side.mk ?_)
          all_goals (try simp only [wk, Nat.succ_eq_add_one] at *)
          all_goals (try simp only [eq_self, decide_eq_true_eq, decide_eq_false_iff_not, Int.ofNat_lt, Int.ofNat_le, gt_iff_lt, ge_iff_le, true_and, Bool.not_eq_true', Bool.not_eq_false'] at *)
          all_goals first | (with_reducible rfl) | trivial | omega | rfl | exact fun _ _ => trivial | exact ⟨rfl, rfl⟩ | exact ⟨rfl, fun _ _ => rfl⟩ | exact ⟨rfl, rfl, fun _ _ => rfl⟩ | ((simp; done)) | ((simp; omega)) | (exact ⟨isBx_b _ _, by unfold room; omega⟩) | (exact ⟨isBx_b _ _, by omega⟩) | (exact ⟨isBx_b _ _, isBx_b _ _, by unfold room; omega, by unfold room; omega⟩) | (exact ⟨by omega, by omega⟩) | (exact ⟨by omega, by omega, by omega⟩) | (exact ⟨by omega, by omega, (by show (k + 1) * 32 ≤ _; omega), by omega⟩) | (exact ⟨⟨by omega, by omega⟩, by omega⟩) | (exact fun _ _ _ _ => .inr trivial) | (exact fun _ _ _ _ => .inr rfl) | (exact ⟨rfl, rfl, fun _ _ _ _ => .inr rfl⟩) | (exact ⟨rfl, fun _ _ _ _ => .inr rfl⟩) | (exact fun i hi j hj => .inr (app_bx (tl := []) (by simp only [h.f0, h.s0]; rfl) hi hj)) | (exact ⟨rfl, fun i hi j hj => .inr (app_bx (tl := []) (by simp only [h.f0, h.s0]; rfl) hi hj)⟩) | (exact ⟨rfl, rfl, fun i hi j hj => .inr (app_bx (tl := []) (by simp only [h.f0, h.s0]; rfl) hi hj)⟩)
        · obtain rfl : k = 363 := by omega
          repeat' ((fail_if_success (with_reducible refine Side.mk ?_)); first | (refine Rest.mk (drawR_sound zES23_Nm mixOK zHS23_Nm ?_)) | ((fail_if_success (with_reducible refine Rest.mk ?_)); first | (with_reducible exact True.intro) | (with_reducible refine Need.mk ?_ ?_) | (with_reducible refine And.intro ?_ ?_) | (with_reducible intro hcl; try (exfalso; (first | ((try simp only [Int.toNat_natCast, tn0, tn1, tn2, tn3, tn4, Nat.zero_add, bOf_b, h.f1, h.f2, big_p, big_b, eN_b, h.s1, h.s2, h.s3, h.b1, h.b2, h.b3] at hcl); first | (cases hcl; done) | exact absurd hcl (by decide)) | ((try simp only [decide_eq_true_eq, decide_eq_false_iff_not] at hcl); (try simp only [Int.toNat_natCast, tn0, tn1, tn2, tn3, tn4, Nat.zero_add, bOf_b, h.f1, h.f2, big_p, big_b, eN_b, h.s1, h.s2, h.s3, h.b1, h.b2, h.b3] at hcl); first | omega | (simp at hcl; omega))); done)) | ((fail_if_success (with_reducible refine FinS.mk ?_)); (fail_if_success (with_reducible refine Le.mk ?_)); (conv => whnf)) | (refine FinS.b ?_) | (refine FinS.lb ?_) | (refine FinS.i ?_) | (refine FinS.f ?_) | (refine FinS.agg ?_) | (refine FinS.tup ?_)))
          all_goals (try (refine Le.of ?_; (conv => whnf)))
          repeat' ((fail_if_success (with_reducible refine Side.mk ?_)); first | (refine Rest.mk (drawR_sound zES23_Nm mixOK zHS23_Nm ?_)) | ((fail_if_success (with_reducible refine Rest.mk ?_)); first | (with_reducible exact True.intro) | (with_reducible refine Need.mk ?_ ?_) | (with_reducible refine And.intro ?_ ?_) | (with_reducible intro _) | ((fail_if_success (with_reducible refine FinS.mk ?_)); (fail_if_success (with_reducible refine Le.mk ?_)); (conv => whnf)) | (refine FinS.b ?_) | (refine FinS.lb ?_) | (refine FinS.i ?_) | (refine FinS.f ?_) | (refine FinS.agg ?_) | (refine FinS.tup ?_)))
          all_goals (try refine Side.mk ?_)
          all_goals (try simp only [Int.toNat_natCast, tn0, tn1, tn2, tn3, tn4, Nat.zero_add, bOf_b, h.f1, h.f2, big_p, big_b, eN_b, h.s1, h.s2, h.s3, h.b1, h.b2, h.b3] at *)
          all_goals (try simp only [eq_self, decide_eq_true_eq, decide_eq_false_iff_not, Int.ofNat_lt, Int.ofNat_le, gt_iff_lt, ge_iff_le, true_and, Bool.not_eq_true', Bool.not_eq_false'] at *)
          all_goals first | (with_reducible rfl) | trivial | omega | rfl | exact fun _ _ => trivial | exact ⟨rfl, rfl⟩ | exact ⟨rfl, fun _ _ => rfl⟩ | exact ⟨rfl, rfl, fun _ _ => rfl⟩ | ((simp; done)) | ((simp; omega)) | (exact ⟨isBx_b _ _, by unfold room; omega⟩) | (exact ⟨isBx_b _ _, by omega⟩) | (exact ⟨isBx_b _ _, isBx_b _ _, by unfold room; omega, by unfold room; omega⟩) | (exact ⟨by omega, by omega⟩) | (exact ⟨by omega, by omega, by omega⟩) | (exact ⟨by omega, by omega, (by show (k + 1) * 32 ≤ _; omega), by omega⟩) | (exact ⟨⟨by omega, by omega⟩, by omega⟩) | (exact fun _ _ _ _ => .inr trivial) | (exact fun _ _ _ _ => .inr rfl) | (exact ⟨rfl, rfl, fun _ _ _ _ => .inr rfl⟩) | (exact ⟨rfl, fun _ _ _ _ => .inr rfl⟩) | (exact fun i hi j hj => .inr (app_bx (tl := []) (by simp only [h.f0, h.s0]; rfl) hi hj)) | (exact ⟨rfl, fun i hi j hj => .inr (app_bx (tl := []) (by simp only [h.f0, h.s0]; rfl) hi hj)⟩) | (exact ⟨rfl, rfl, fun i hi j hj => .inr (app_bx (tl := []) (by simp only [h.f0, h.s0]; rfl) hi hj)⟩)
theorem t6 : CM Try.prog 6 [] (.b true) [] true := t6g far sm nm_ok
end Go.Ev.Sweep
