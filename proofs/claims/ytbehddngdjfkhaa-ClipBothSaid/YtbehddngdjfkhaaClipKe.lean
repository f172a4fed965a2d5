/-
  The contract of Both, the document's; for lists below 2^62 points.
-/
import Derived.Test.YtbehddngdjfkhaaClipKd
set_option linter.unusedSimpArgs false
set_option linter.unusedVariables false
open Go Go.Proofs
namespace Go.Ev.Clip
set_option maxRecDepth 100000
set_option maxHeartbeats 1000000
noncomputable def g18 : List MV → Option (List Prop × MV × List Blk × Bool)
  | [.ro 2 n get, .ro 2 m get'] => some ([isPts n get, isPts m get', n < big, m < big], .tup [.os 0 2 0 (boV n (pOf get) m (pOf get')).length, .i .i64 (twoV n (pOf get) m (pOf get'))], [.rows 2 (boV n (pOf get) m (pOf get')).length fun k => ptM ((boV n (pOf get) m (pOf get')).getD k z2)], false)
  | _ => none
theorem s18 : SumsOK Try.prog (sumOf 18 g18 S17) := by
  refine SumsOK.add S17_ok fun ms ps m blks al e hp => ?_
  unfold g18 at e
  split at e
  · cases e
    exact (((t18 _ (pOf _) _ (pOf _) (hp _ (.tail _ (.tail _ (.head _)))) (hp _ (.tail _ (.tail _ (.tail _ (.head _)))))).le2 (leR_pts (hp _ (.head _))) (leR_pts (hp _ (.tail _ (.head _))))).aloneR rfl fun _ _ _ hj => flat2 hj)
  · cases e
noncomputable def S18 := sumOf 18 g18 S17
theorem S18_ok : SumsOK Try.prog S18 := s18
theorem f2r {n m : Nat} {p q : Nat → Nat × Nat} : fst2 (rcheckV n p) (rcheckV m q) = twoV n p m q := by
  rw [check_eq, check_eq]
  unfold fst2 twoV
  cases (checkV n p != 0)
  · cases h : (checkV m q != 0)
    · have : checkV m q = 0 := by simpa using h
      rw [this]; rfl
    · rfl
  · rfl
theorem two_0 {n m : Nat} {p q : Nat → Nat × Nat} (h : (twoV n p m q != 0) = false) : (checkV n p != 0) = false ∧ (checkV m q != 0) = false := by
  cases e : (checkV n p != 0)
  · rw [two_2 e] at h; exact ⟨rfl, h⟩
  · rw [two_1 e, e] at h; cases h
noncomputable def fi19 : FnI := ⟨39, Try.f19.body.getD .skip, [.tmp 4, .tmp 5], true⟩
theorem fi19_ok : fnGen Try.prog 19 = some fi19 := by kernel_rfl
theorem t19 (n : Nat) (p : Nat → Nat × Nat) (m : Nat) (q : Nat → Nat × Nat) (c0 : n < big) (c1 : m < big) : CM Try.prog 19 [.ro 2 n (fun j => ptM (p j)), .ro 2 m (fun j => ptM (q j))] (.tup [.os 0 2 0 (boV n p m q).length, .i .i64 (twoV n p m q)]) [.rows 2 (boV n p m q).length fun k => ptM ((boV n p m q).getD k z2)] true := by
  refine CM.of_genF (exts := exts) (eqs := eqs) (inl := []) (sum := S18) extsOK eqsOK S18_ok W0_ok fi19_ok 6 rfl fun w0 okA => ?_
  repeat' ((fail_if_success (with_reducible refine Side.mk ?_)); first | (refine Rest.mk (drawR_sound (E := genQ Try.prog exts eqs [] S18) (genQ_full extsOK eqsOK S18_ok).toEnvAll mixOK (hndW_sound W0_ok (hnd_sound (E := genQ Try.prog exts eqs [] S18) (genQ_full extsOK eqsOK S18_ok) 6)) ?_)) | ((fail_if_success (with_reducible refine Rest.mk ?_)); first | (with_reducible exact True.intro) | (with_reducible refine Need.mk ?_ ?_) | (with_reducible refine And.intro ?_ ?_) | (with_reducible intro _) | ((fail_if_success (with_reducible refine FinS.mk ?_)); (fail_if_success (with_reducible refine Le.mk ?_)); (conv => whnf)) | (refine FinS.b ?_) | (refine FinS.lb ?_) | (refine FinS.i ?_) | (refine FinS.f ?_) | (refine FinS.agg ?_) | (refine FinS.tup ?_)))
  all_goals (try (refine Side.mk ?_; first | exact ⟨isPts_pt _ _, c0⟩ | exact ⟨isPts_pt _ _, c1⟩ | omega))
  · rename_i hc
    have hT : (twoV n p m q != 0) = true := by rw [← f2r]; exact hc
    have e : (boV n p m q).length = 0 := by rw [bo_1 hT]; rfl
    exact FinS.rows0 ⟨e⟩ ⟨⟨e⟩, ⟨rfl, f2r⟩, True.intro⟩
  · rename_i hc
    have hT : (twoV n p m q != 0) = false := by rw [← f2r]; exact hc
    obtain ⟨hp, hq⟩ := two_0 hT
    have hm3 := check_ge hq
    have hm64 := check_le hq
    have hn64 := check_le hp
    have hk : nOk (rcheckV m q) m = m := nOk_0 (by rw [check_eq]; exact hq)
    refine loop_ruleC (E := genQ Try.prog exts eqs [] S18) (genQ_full extsOK eqsOK S18_ok).toEnvAll (hndW_sound W0_ok (hnd_sound (E := genQ Try.prog exts eqs [] S18) (genQ_full extsOK eqsOK S18_ok) 6)) (fun i => bif Nat.beq i m then ⟨[(9, .os 2 2 0 (bothL (SD m q) n p i).length), (7, .os 1 3 0 m), (10, .i .i64 (i : Int))], [], [(1, .rows 3 m fun k => plM (SD m q k)), (2, .rows 2 (bothL (SD m q) n p i).length fun k => ptM ((bothL (SD m q) n p i).getD k z2))], 3⟩ else ⟨[(9, .ro 2 (bothL (SD m q) n p i).length fun k => ptM ((bothL (SD m q) n p i).getD k z2)), (7, .os 1 3 0 m), (10, .i .i64 (i : Int))], [], [(1, .rows 3 m fun k => plM (SD m q k))], 2⟩) (fun _ => True) m ?_ trivial ?_
    · show Le _ _ _ (bif Nat.beq 0 m then _ else _)
      rw [beq_f (show 0 ≠ m by omega)]
      refine Le.of ?_
      conv => whnf
      repeat' ((fail_if_success (with_reducible refine Side.mk ?_)); first | (refine Rest.mk (drawR_sound (E := genQ Try.prog exts eqs [] S18) (genQ_full extsOK eqsOK S18_ok).toEnvAll mixOK (hndW_sound W0_ok (hnd_sound (E := genQ Try.prog exts eqs [] S18) (genQ_full extsOK eqsOK S18_ok) 6)) ?_)) | ((fail_if_success (with_reducible refine Rest.mk ?_)); first | (with_reducible exact True.intro) | (with_reducible refine Need.mk ?_ ?_) | (with_reducible refine And.intro ?_ ?_) | (with_reducible intro _) | ((fail_if_success (with_reducible refine FinS.mk ?_)); (fail_if_success (with_reducible refine Le.mk ?_)); (conv => whnf)) | (refine FinS.b ?_) | (refine FinS.lb ?_) | (refine FinS.i ?_) | (refine FinS.f ?_) | (refine FinS.agg ?_) | (refine FinS.tup ?_)))
      all_goals (try refine Side.mk ?_)
      all_goals first | exact ⟨rfl, rfl, rfl, hk⟩ | exact ⟨rfl, congrArg (fun (x : Nat) => (x : Int)) hk⟩ | exact ⟨rfl, hk, fun k hk j hj => .inr (by show getM (plM (sideV (rnormV m q) q k)) j = _; rw [norm_eq]; rfl)⟩ | exact ⟨rfl, (base_len _ n p).symm, fun k hk => congrArg ptM (base_get hk).symm⟩ | rfl | exact ⟨rfl, rfl⟩
    · intro i hi _
      rcases Nat.lt_or_eq_of_le hi with h | h
      · show evC _ _ _ _ _ (bif Nat.beq i m then _ else _) _
        rw [beq_f (show i ≠ m by omega)]
        repeat' ((fail_if_success (with_reducible refine Side.mk ?_)); first | (refine Rest.mk (drawR_sound (E := genQ Try.prog exts eqs [] S18) (genQ_full extsOK eqsOK S18_ok).toEnvAll mixOK (hndW_sound W0_ok (hnd_sound (E := genQ Try.prog exts eqs [] S18) (genQ_full extsOK eqsOK S18_ok) 6)) ?_)) | ((fail_if_success (with_reducible refine Rest.mk ?_)); first | (with_reducible exact True.intro) | (with_reducible refine Need.mk ?_ ?_) | (with_reducible refine And.intro ?_ ?_) | (with_reducible intro _) | ((fail_if_success (with_reducible refine FinS.mk ?_)); (fail_if_success (with_reducible refine Le.mk ?_)); (conv => whnf)) | (refine FinS.b ?_) | (refine FinS.lb ?_) | (refine FinS.i ?_) | (refine FinS.f ?_) | (refine FinS.agg ?_) | (refine FinS.tup ?_)))
        all_goals (try (exfalso; simp only [decide_eq_true_eq, decide_eq_false_iff_not, Int.ofNat_lt] at *; omega))
        all_goals (try (refine Side.mk ?_; first | exact ⟨by omega, by omega⟩ | (show 0 + i < m; omega) | exact ⟨isPts_pt _ _, both_43 hn64 (by omega)⟩ | exact ⟨h, trivial⟩))
        by_cases h1 : i + 1 = m
        · subst h1
          show Le _ _ _ (bif Nat.beq (i + 1) (i + 1) then _ else _)
          rw [show Nat.beq (i + 1) (i + 1) = true by simp]
          refine Le.of ?_
          conv => whnf
          repeat' ((fail_if_success (with_reducible refine Side.mk ?_)); first | (refine Rest.mk (drawR_sound (E := genQ Try.prog exts eqs [] S18) (genQ_full extsOK eqsOK S18_ok).toEnvAll mixOK (hndW_sound W0_ok (hnd_sound (E := genQ Try.prog exts eqs [] S18) (genQ_full extsOK eqsOK S18_ok) 6)) ?_)) | ((fail_if_success (with_reducible refine Rest.mk ?_)); first | (with_reducible exact True.intro) | (with_reducible refine Need.mk ?_ ?_) | (with_reducible refine And.intro ?_ ?_) | (with_reducible intro _) | ((fail_if_success (with_reducible refine FinS.mk ?_)); (fail_if_success (with_reducible refine Le.mk ?_)); (conv => whnf)) | (refine FinS.b ?_) | (refine FinS.lb ?_) | (refine FinS.i ?_) | (refine FinS.f ?_) | (refine FinS.agg ?_) | (refine FinS.tup ?_)))
          all_goals (try refine Side.mk ?_)
          all_goals (try simp only [Nat.zero_add, Int.toNat_natCast, le_eq, true_and, and_self, or_true, implies_true])
          all_goals first | rfl | (first | (show 1 ≤ 3; omega) | (show 2 ≤ 3; omega)) | exact i64_id (by omega) (by omega) | exact ⟨rfl, fun k hk j hj => .inr rfl⟩ | exact ⟨rfl, fun k hk => rfl⟩ | exact ⟨rfl, rfl⟩ | exact ⟨rfl, rfl, rfl, rfl⟩ | exact ⟨rfl, i64_id (by omega) (by omega)⟩ | exact ⟨rfl, rfl, fun k hk j hj => .inr rfl⟩
        · show Le _ _ _ (bif Nat.beq (i + 1) m then _ else _)
          rw [beq_f h1]
          refine Le.freeze 2 ?_
          conv => whnf
          refine ⟨?_, Le.of ?_⟩
          · refine Side.mk ?_
            exact ⟨Nat.le_of_eq (Nat.zero_add _), Nat.le_of_eq (Nat.zero_add _)⟩
          conv => whnf
          repeat' ((fail_if_success (with_reducible refine Side.mk ?_)); first | (refine Rest.mk (drawR_sound (E := genQ Try.prog exts eqs [] S18) (genQ_full extsOK eqsOK S18_ok).toEnvAll mixOK (hndW_sound W0_ok (hnd_sound (E := genQ Try.prog exts eqs [] S18) (genQ_full extsOK eqsOK S18_ok) 6)) ?_)) | ((fail_if_success (with_reducible refine Rest.mk ?_)); first | (with_reducible exact True.intro) | (with_reducible refine Need.mk ?_ ?_) | (with_reducible refine And.intro ?_ ?_) | (with_reducible intro _) | ((fail_if_success (with_reducible refine FinS.mk ?_)); (fail_if_success (with_reducible refine Le.mk ?_)); (conv => whnf)) | (refine FinS.b ?_) | (refine FinS.lb ?_) | (refine FinS.i ?_) | (refine FinS.f ?_) | (refine FinS.agg ?_) | (refine FinS.tup ?_)))
          all_goals (try refine Side.mk ?_)
          all_goals (try simp only [Nat.zero_add, Int.toNat_natCast, le_eq, true_and, and_self, or_true, implies_true])
          all_goals first | rfl | (first | (show 1 ≤ 3; omega) | (show 2 ≤ 3; omega)) | exact i64_id (by omega) (by omega) | exact ⟨rfl, fun k hk j hj => .inr rfl⟩ | exact ⟨rfl, fun k hk => rfl⟩ | exact ⟨rfl, rfl⟩ | exact ⟨rfl, rfl, rfl, rfl⟩ | exact ⟨rfl, i64_id (by omega) (by omega)⟩ | exact ⟨rfl, rfl, fun k hk j hj => .inr rfl⟩ | exact ⟨rfl, rfl, fun k hk => rfl⟩
      · subst h
        show evC _ _ _ _ _ (bif Nat.beq i i then _ else _) _
        rw [show Nat.beq i i = true by simp]
        repeat' ((fail_if_success (with_reducible refine Side.mk ?_)); first | (refine Rest.mk (drawR_sound (E := genQ Try.prog exts eqs [] S18) (genQ_full extsOK eqsOK S18_ok).toEnvAll mixOK (hndW_sound W0_ok (hnd_sound (E := genQ Try.prog exts eqs [] S18) (genQ_full extsOK eqsOK S18_ok) 6)) ?_)) | ((fail_if_success (with_reducible refine Rest.mk ?_)); first | (with_reducible exact True.intro) | (with_reducible refine Need.mk ?_ ?_) | (with_reducible refine And.intro ?_ ?_) | (with_reducible intro _) | ((fail_if_success (with_reducible refine FinS.mk ?_)); (fail_if_success (with_reducible refine Le.mk ?_)); (conv => whnf)) | (refine FinS.b ?_) | (refine FinS.lb ?_) | (refine FinS.i ?_) | (refine FinS.f ?_) | (refine FinS.agg ?_) | (refine FinS.tup ?_)))
        all_goals (try (exfalso; simp only [decide_eq_true_eq, decide_eq_false_iff_not, Int.ofNat_lt] at *; omega))
        have e : boV n p i q = bothL (SD i q) n p i := bo_0 hT
        exact FinS.rows 2 ⟨rfl, by rw [e], fun k hk j hj => by rw [e]⟩ ⟨⟨rfl, rfl, by rw [e]⟩, ⟨rfl, zeroOf hT⟩, True.intro⟩

noncomputable def g19 : List MV → Option (List Prop × MV × List Blk × Bool)
  | [.ro 2 n get, .ro 2 m get'] => some ([isPts n get, isPts m get', n < big, m < big], .tup [.os 0 2 0 (boV n (pOf get) m (pOf get')).length, .i .i64 (twoV n (pOf get) m (pOf get'))], [.rows 2 (boV n (pOf get) m (pOf get')).length fun k => ptM ((boV n (pOf get) m (pOf get')).getD k z2)], false)
  | _ => none
theorem s19 : SumsOK Try.prog (sumOf 19 g19 S18) := by
  refine SumsOK.add S18_ok fun ms ps m blks al e hp => ?_
  unfold g19 at e
  split at e
  · cases e
    exact (((t19 _ (pOf _) _ (pOf _) (hp _ (.tail _ (.tail _ (.head _)))) (hp _ (.tail _ (.tail _ (.tail _ (.head _)))))).le2 (leR_pts (hp _ (.head _))) (leR_pts (hp _ (.tail _ (.head _))))).aloneR rfl fun _ _ _ hj => flat2 hj)
  · cases e
noncomputable def S19 := sumOf 19 g19 S18
theorem S19_ok : SumsOK Try.prog S19 := s19
end Go.Ev.Clip
