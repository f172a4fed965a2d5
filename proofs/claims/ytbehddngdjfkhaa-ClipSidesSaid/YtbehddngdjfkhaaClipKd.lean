/-
  The contract of Both, the layer's; for lists below 2^62 points.
-/
import Derived.Test.YtbehddngdjfkhaaClipKc
set_option linter.unusedSimpArgs false
set_option linter.unusedVariables false
open Go Go.Proofs
namespace Go.Ev.Clip
set_option maxRecDepth 100000
set_option maxHeartbeats 1000000
def SD (m : Nat) (q : Nat → Nat × Nat) : Nat → Pl := sideV (normV m q) q
def bothL (S : Nat → Pl) (n : Nat) (p : Nat → Nat × Nat) : Nat → List (Nat × Nat)
  | 0 => (List.range n).map p
  | i + 1 => leV (S i) (bothL S n p i).length (fun k => (bothL S n p i).getD k z2)
def twoV (n : Nat) (p : Nat → Nat × Nat) (m : Nat) (q : Nat → Nat × Nat) : Int := bif checkV n p != 0 then checkV n p else checkV m q
theorem two_1 {n m : Nat} {p q : Nat → Nat × Nat} (h : (checkV n p != 0) = true) : twoV n p m q = checkV n p := by unfold twoV; rw [h]; rfl
theorem two_2 {n m : Nat} {p q : Nat → Nat × Nat} (h : (checkV n p != 0) = false) : twoV n p m q = checkV m q := by unfold twoV; rw [h]; rfl
def boV (n : Nat) (p : Nat → Nat × Nat) (m : Nat) (q : Nat → Nat × Nat) : List (Nat × Nat) := bif twoV n p m q != 0 then [] else bothL (SD m q) n p m
theorem end_len (L : List (Nat × Nat)) : (endL L).length ≤ L.length := by
  unfold endL trL
  cases trB L <;> simp only [cond_true, cond_false]
  · cases decide ((L.length : Int) < 3) <;> simp
  · cases decide ((L.dropLast.length : Int) < 3) <;> simp
theorem le_len (pl : Pl) (n : Nat) (p : Nat → Nat × Nat) : 2 * (leV pl n p).length ≤ 3 * n + 1 := by
  unfold leV
  have := lf_le pl n p (Nat.le_refl n)
  have := end_len (lfL pl n p n)
  omega
theorem both_pow (S : Nat → Pl) (n : Nat) (p : Nat → Nat × Nat) : ∀ i, ((bothL S n p i).length + 1) * 2 ^ i ≤ (n + 1) * 3 ^ i
  | 0 => by simp [bothL]
  | i + 1 => by
    have ih := both_pow S n p i
    have h := le_len (S i) (bothL S n p i).length (fun k => (bothL S n p i).getD k z2)
    show ((leV (S i) (bothL S n p i).length (fun k => (bothL S n p i).getD k z2)).length + 1) * 2 ^ (i + 1) ≤ (n + 1) * 3 ^ (i + 1)
    generalize (leV (S i) (bothL S n p i).length (fun k => (bothL S n p i).getD k z2)).length = x at *
    generalize (bothL S n p i).length = y at *
    have h1 : (x + 1) * 2 ≤ (y + 1) * 3 := by omega
    calc (x + 1) * 2 ^ (i + 1) = (x + 1) * 2 * 2 ^ i := by rw [Nat.pow_succ, Nat.mul_comm (2 ^ i) 2, Nat.mul_assoc]
      _ ≤ (y + 1) * 3 * 2 ^ i := Nat.mul_le_mul_right _ h1
      _ = (y + 1) * 2 ^ i * 3 := by rw [Nat.mul_assoc, Nat.mul_comm 3, ← Nat.mul_assoc]
      _ ≤ (n + 1) * 3 ^ i * 3 := Nat.mul_le_mul_right _ ih
      _ = (n + 1) * 3 ^ (i + 1) := by rw [Nat.pow_succ, Nat.mul_assoc]
theorem both_lt {S : Nat → Pl} {n i k : Nat} {p : Nat → Nat × Nat} (hn : n ≤ 64) (hi : i ≤ k) : ((bothL S n p i).length + 1) * 2 ^ k ≤ 65 * 3 ^ k := by
  have h := both_pow S n p i
  have h1 : ((bothL S n p i).length + 1) * 2 ^ k = ((bothL S n p i).length + 1) * 2 ^ i * 2 ^ (k - i) := by rw [Nat.mul_assoc, ← Nat.pow_add, Nat.add_sub_cancel' hi]
  have h2 : 65 * 3 ^ k = 65 * 3 ^ i * 3 ^ (k - i) := by rw [Nat.mul_assoc, ← Nat.pow_add, Nat.add_sub_cancel' hi]
  rw [h1, h2]
  refine Nat.mul_le_mul (Nat.le_trans h (Nat.mul_le_mul_right _ (by omega))) (Nat.pow_le_pow_left (by omega) _)
theorem both_43 {S : Nat → Pl} {n i : Nat} {p : Nat → Nat × Nat} (hn : n ≤ 64) (hi : i ≤ 63) : (bothL S n p i).length ≤ lim43 := by
  have h := both_lt (S := S) (p := p) hn hi
  have h2 : 65 * 3 ^ 63 ≤ 8700000000001 * 2 ^ 63 := by decide +kernel
  have := Nat.le_of_mul_le_mul_right (Nat.le_trans h h2) (by decide)
  unfold lim43; omega
theorem both_64 {S : Nat → Pl} {n i : Nat} {p : Nat → Nat × Nat} (hn : n ≤ 64) (hi : i ≤ 64) : (bothL S n p i).length ≤ wLe := by
  have h := both_lt (S := S) (p := p) hn hi
  have h2 : 65 * 3 ^ 64 ≤ 13000000000001 * 2 ^ 64 := by decide +kernel
  have := Nat.le_of_mul_le_mul_right (Nat.le_trans h h2) (by decide)
  unfold wLe; omega
theorem base_len (S : Nat → Pl) (n : Nat) (p : Nat → Nat × Nat) : (bothL S n p 0).length = n := by simp [bothL]
theorem base_get {S : Nat → Pl} {n k : Nat} {p : Nat → Nat × Nat} (h : k < n) : (bothL S n p 0).getD k z2 = p k := by simp [bothL, List.getD_eq_getElem?_getD, h]
theorem bo_1 {n m : Nat} {p q : Nat → Nat × Nat} (h : (twoV n p m q != 0) = true) : boV n p m q = [] := by unfold boV; rw [h]; rfl
theorem bo_0 {n m : Nat} {p q : Nat → Nat × Nat} (h : (twoV n p m q != 0) = false) : boV n p m q = bothL (SD m q) n p m := by unfold boV; rw [h]; rfl
theorem check_ge {n : Nat} {p : Nat → Nat × Nat} (h : (checkV n p != 0) = false) : 3 ≤ n := by
  rcases Nat.lt_or_ge n 3 with e | e
  · have h0 : checkV n p = 0 := by simpa using h
    cases hr : (realsV n p != 0)
    · rw [check_a hr e] at h0; cases h0
    · rw [check_r hr] at h0; rw [h0] at hr; cases hr
  · exact e
noncomputable def fi18 : FnI := ⟨35, Try.f18.body.getD .skip, [.tmp 4, .tmp 5], true⟩
theorem fi18_ok : fnGen Try.prog 18 = some fi18 := by kernel_rfl
theorem t18 (n : Nat) (p : Nat → Nat × Nat) (m : Nat) (q : Nat → Nat × Nat) (c0 : n < big) (c1 : m < big) : CM Try.prog 18 [.ro 2 n (fun j => ptM (p j)), .ro 2 m (fun j => ptM (q j))] (.tup [.os 0 2 0 (boV n p m q).length, .i .i64 (twoV n p m q)]) [.rows 2 (boV n p m q).length fun k => ptM ((boV n p m q).getD k z2)] true := by
  refine CM.of_genF (exts := exts) (eqs := eqs) (inl := []) (sum := S17) extsOK eqsOK S17_ok W0_ok fi18_ok 6 rfl fun w0 okA => ?_
  repeat' ((fail_if_success (with_reducible refine Side.mk ?_)); first | ((fail_if_success (with_reducible refine Rest.mk ?_)); first | (with_reducible exact True.intro) | (with_reducible refine Need.mk ?_ ?_) | (with_reducible refine And.intro ?_ ?_) | (with_reducible intro _) | ((fail_if_success (with_reducible refine FinS.mk ?_)); (fail_if_success (with_reducible refine Le.mk ?_)); (conv => whnf)) | (refine FinS.b ?_) | (refine FinS.lb ?_) | (refine FinS.i ?_) | (refine FinS.f ?_) | (refine FinS.agg ?_) | (refine FinS.tup ?_)))
  all_goals (try (refine Side.mk ?_; first | exact ⟨isPts_pt _ _, c0⟩ | exact ⟨isPts_pt _ _, c1⟩))
  · rename_i hc
    have hc : (checkV n p != 0) = true := hc
    have e : (boV n p m q).length = 0 := by rw [bo_1 (by rw [two_1 hc]; exact hc)]; rfl
    exact FinS.rows0 ⟨e⟩ ⟨⟨e⟩, ⟨rfl, (two_1 hc).symm⟩, True.intro⟩
  · rename_i hp hc
    have hp : (checkV n p != 0) = false := hp
    have hc : (checkV m q != 0) = true := hc
    have e : (boV n p m q).length = 0 := by rw [bo_1 (by rw [two_2 hp]; exact hc)]; rfl
    exact FinS.rows0 ⟨e⟩ ⟨⟨e⟩, ⟨rfl, (two_2 hp).symm⟩, True.intro⟩
  · rename_i hp hq
    have hp : (checkV n p != 0) = false := hp
    have hq : (checkV m q != 0) = false := hq
    have hm3 := check_ge hq
    have hm64 := check_le hq
    have hn64 := check_le hp
    have hk : nOk (checkV m q) m = m := nOk_0 hq
    have hT : (twoV n p m q != 0) = false := by rw [two_2 hp]; exact hq
    refine loop_ruleC (E := genQ Try.prog exts eqs [] S17) (genQ_full extsOK eqsOK S17_ok).toEnvAll (hndW_sound W0_ok (hnd_sound (E := genQ Try.prog exts eqs [] S17) (genQ_full extsOK eqsOK S17_ok) 6)) (fun i => bif Nat.beq i m then ⟨[(0, .os 2 2 0 (bothL (SD m q) n p i).length), (24, .os 0 3 0 m), (25, .i .i64 (m : Int)), (26, .i .i64 (i : Int))], [], [(0, .rows 3 m fun k => plM (SD m q k)), (2, .rows 2 (bothL (SD m q) n p i).length fun k => ptM ((bothL (SD m q) n p i).getD k z2))], 3⟩ else ⟨[(0, .ro 2 (bothL (SD m q) n p i).length fun k => ptM ((bothL (SD m q) n p i).getD k z2)), (24, .os 0 3 0 m), (25, .i .i64 (m : Int)), (26, .i .i64 (i : Int))], [], [(0, .rows 3 m fun k => plM (SD m q k))], 1⟩) (fun _ => True) m ?_ trivial ?_
    · show Le _ _ _ (bif Nat.beq 0 m then _ else _)
      rw [beq_f (show 0 ≠ m by omega)]
      refine Le.of ?_
      conv => whnf
      repeat' ((fail_if_success (with_reducible refine Side.mk ?_)); first | ((fail_if_success (with_reducible refine Rest.mk ?_)); first | (with_reducible exact True.intro) | (with_reducible refine Need.mk ?_ ?_) | (with_reducible refine And.intro ?_ ?_) | (with_reducible intro _) | ((fail_if_success (with_reducible refine FinS.mk ?_)); (fail_if_success (with_reducible refine Le.mk ?_)); (conv => whnf)) | (refine FinS.b ?_) | (refine FinS.lb ?_) | (refine FinS.i ?_) | (refine FinS.f ?_) | (refine FinS.agg ?_) | (refine FinS.tup ?_)))
      all_goals (try refine Side.mk ?_)
      all_goals first | exact ⟨rfl, rfl, rfl, hk⟩ | exact ⟨rfl, congrArg (fun (x : Nat) => (x : Int)) hk⟩ | exact ⟨rfl, hk, fun k hk j hj => .inr rfl⟩ | exact ⟨rfl, (base_len _ n p).symm, fun k hk => congrArg ptM (base_get hk).symm⟩ | rfl | exact ⟨rfl, rfl⟩
    · intro i hi _
      rcases Nat.lt_or_eq_of_le hi with h | h
      · show evC _ _ _ _ _ (bif Nat.beq i m then _ else _) _
        rw [beq_f (show i ≠ m by omega)]
        repeat' ((fail_if_success (with_reducible refine Side.mk ?_)); first | ((fail_if_success (with_reducible refine Rest.mk ?_)); first | (with_reducible exact True.intro) | (with_reducible refine Need.mk ?_ ?_) | (with_reducible refine And.intro ?_ ?_) | (with_reducible intro _) | ((fail_if_success (with_reducible refine FinS.mk ?_)); (fail_if_success (with_reducible refine Le.mk ?_)); (conv => whnf)) | (refine FinS.b ?_) | (refine FinS.lb ?_) | (refine FinS.i ?_) | (refine FinS.f ?_) | (refine FinS.agg ?_) | (refine FinS.tup ?_)))
        all_goals (try (exfalso; simp only [decide_eq_true_eq, decide_eq_false_iff_not, Int.ofNat_lt] at *; omega))
        all_goals (try (refine Side.mk ?_; first | exact ⟨by omega, by omega⟩ | (show 0 + i < m; omega) | exact ⟨isPts_pt _ _, both_43 hn64 (by omega)⟩ | exact ⟨h, trivial⟩))
        by_cases h1 : i + 1 = m
        · subst h1
          show Le _ _ _ (bif Nat.beq (i + 1) (i + 1) then _ else _)
          rw [show Nat.beq (i + 1) (i + 1) = true by simp]
          refine Le.of ?_
          conv => whnf
          repeat' ((fail_if_success (with_reducible refine Side.mk ?_)); first | ((fail_if_success (with_reducible refine Rest.mk ?_)); first | (with_reducible exact True.intro) | (with_reducible refine Need.mk ?_ ?_) | (with_reducible refine And.intro ?_ ?_) | (with_reducible intro _) | ((fail_if_success (with_reducible refine FinS.mk ?_)); (fail_if_success (with_reducible refine Le.mk ?_)); (conv => whnf)) | (refine FinS.b ?_) | (refine FinS.lb ?_) | (refine FinS.i ?_) | (refine FinS.f ?_) | (refine FinS.agg ?_) | (refine FinS.tup ?_)))
          all_goals (try refine Side.mk ?_)
          all_goals (try simp only [Nat.zero_add, Int.toNat_natCast, true_and, and_self, or_true, implies_true])
          all_goals first | rfl | (show 1 ≤ 3; omega) | exact i64_id (by omega) (by omega) | exact ⟨rfl, fun k hk j hj => .inr rfl⟩ | exact ⟨rfl, fun k hk => rfl⟩ | exact ⟨rfl, rfl⟩ | exact ⟨rfl, rfl, rfl, rfl⟩ | exact ⟨rfl, i64_id (by omega) (by omega)⟩ | exact ⟨rfl, rfl, fun k hk j hj => .inr rfl⟩
        · show Le _ _ _ (bif Nat.beq (i + 1) m then _ else _)
          rw [beq_f h1]
          refine Le.freeze 2 ?_
          conv => whnf
          refine ⟨?_, Le.of ?_⟩
          · refine Side.mk ?_
            exact ⟨Nat.le_of_eq (Nat.zero_add _), Nat.le_of_eq (Nat.zero_add _)⟩
          conv => whnf
          repeat' ((fail_if_success (with_reducible refine Side.mk ?_)); first | ((fail_if_success (with_reducible refine Rest.mk ?_)); first | (with_reducible exact True.intro) | (with_reducible refine Need.mk ?_ ?_) | (with_reducible refine And.intro ?_ ?_) | (with_reducible intro _) | ((fail_if_success (with_reducible refine FinS.mk ?_)); (fail_if_success (with_reducible refine Le.mk ?_)); (conv => whnf)) | (refine FinS.b ?_) | (refine FinS.lb ?_) | (refine FinS.i ?_) | (refine FinS.f ?_) | (refine FinS.agg ?_) | (refine FinS.tup ?_)))
          all_goals (try refine Side.mk ?_)
          all_goals (try simp only [Nat.zero_add, Int.toNat_natCast, true_and, and_self, or_true, implies_true])
          all_goals first | rfl | (show 1 ≤ 3; omega) | exact i64_id (by omega) (by omega) | exact ⟨rfl, fun k hk j hj => .inr rfl⟩ | exact ⟨rfl, fun k hk => rfl⟩ | exact ⟨rfl, rfl⟩ | exact ⟨rfl, rfl, rfl, rfl⟩ | exact ⟨rfl, i64_id (by omega) (by omega)⟩ | exact ⟨rfl, rfl, fun k hk j hj => .inr rfl⟩ | exact ⟨rfl, rfl, fun k hk => rfl⟩
      · subst h
        show evC _ _ _ _ _ (bif Nat.beq i i then _ else _) _
        rw [show Nat.beq i i = true by simp]
        repeat' ((fail_if_success (with_reducible refine Side.mk ?_)); first | ((fail_if_success (with_reducible refine Rest.mk ?_)); first | (with_reducible exact True.intro) | (with_reducible refine Need.mk ?_ ?_) | (with_reducible refine And.intro ?_ ?_) | (with_reducible intro _) | ((fail_if_success (with_reducible refine FinS.mk ?_)); (fail_if_success (with_reducible refine Le.mk ?_)); (conv => whnf)) | (refine FinS.b ?_) | (refine FinS.lb ?_) | (refine FinS.i ?_) | (refine FinS.f ?_) | (refine FinS.agg ?_) | (refine FinS.tup ?_)))
        all_goals (try (exfalso; simp only [decide_eq_true_eq, decide_eq_false_iff_not, Int.ofNat_lt] at *; omega))
        have e : boV n p i q = bothL (SD i q) n p i := bo_0 hT
        exact FinS.rows 2 ⟨rfl, by rw [e], fun k hk j hj => by rw [e]⟩ ⟨⟨rfl, rfl, by rw [e]⟩, ⟨rfl, zeroOf hT⟩, True.intro⟩
end Go.Ev.Clip
