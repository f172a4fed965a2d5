/-
  The closed sentence with which the laws begin answers true; no condition.
-/
import Derived.Test.YtbnfcjckbgpkeaaSwePb
import Derived.Test.YtbnfcjckbgpkeaaSweAa
set_option linter.unusedSimpArgs false
set_option linter.unusedVariables false
open Go Go.Proofs
namespace Go.Ev.Sweep
set_option maxRecDepth 100000
set_option maxHeartbeats 1000000
open Go.Ev.So
def alB : Nat → Bx
  | 0 => (4617315517961601024, 0, 4618441417868443648, 4621256167635550208)
  | 1 => (4611686018427387904, 4611686018427387904, 4616189618054758400, 4616189618054758400)
  | 2 => (canon .f64 9221120237041090561, 0, 4607182418800017408, 4607182418800017408)
  | 3 => (4607182418800017408, 4607182418800017408, 4613937818241073152, 4613937818241073152)
  | _ => (0, 0, 4611686018427387904, 4611686018427387904)
def alA : Bx := (4607182418800017408, 4607182418800017408, 4611686018427387904, 4611686018427387904)
theorem al1 : rP (cl 5 alB) 5 5 = [(1, 3), (1, 4), (3, 4)] := by decide +kernel
theorem al2 : fL (okB (cl 5 alB)) 5 = [0, 1, 3, 4] := by decide +kernel
theorem al3 : fL (wP (cl 5 alB) alA) 5 = [1, 3, 4] := by decide +kernel
theorem al4 : (List.range 4).map (refV (cl 5 alB) 5) = [4, 3, 1, 0] := by decide +kernel
theorem al5 : rB (cl 2 alB) (cl 2 fun k => alB (k + 3)) 2 2 = [(1, 0), (1, 1)] := by decide +kernel
theorem al6 : pEr (cl 5 alB) 5 = 0 ∧ pNr (cl 5 alB) 5 = 3 := by
  have h : sEr (cl 5 alB) 5 = 0 ∧ sNr (cl 5 alB) 5 = 3 := by have := sE_ok (q := cl 5 alB) (n := 5) (by decide) (by rw [al1]; decide); rw [al1] at this; exact this
  exact ⟨by rw [pE_eq]; exact h.1, by rw [pN_eq]; exact h.2⟩
theorem al7 : ∀ k, k < 3 → pG (cl 5 alB) 5 k = gP [(1, 3), (1, 4), (3, 4)] k := fun k hk => by
  rw [pG_get (by rw [al6.2]; exact hk), al1]
theorem al8 : bE (cl 2 alB) (cl 2 fun k => alB (k + 3)) 2 2 = 0 ∧ bN (cl 2 alB) (cl 2 fun k => alB (k + 3)) 2 2 = 2 := by
  have h := rE_ok (p := cl 2 alB) (q := cl 2 fun k => alB (k + 3)) (n := 2) (m := 2) (by decide) (by rw [al5]; decide)
  rw [al5] at h
  exact ⟨by rw [bE_eq]; exact h.1, by rw [bN_eq]; exact h.2⟩
theorem al9 : ∀ k, k < 2 → bG (cl 2 alB) (cl 2 fun k => alB (k + 3)) 2 2 k = gP [(1, 0), (1, 1)] k := fun k hk => by
  rw [bG_get (by rw [al8.2]; exact hk), al5]
theorem al10 : (cutL 5 (fL (okB (cl 5 alB)) 5)).length = 4 := by rw [al2]; rfl
theorem al11 : ∀ k, k < 4 → orV (cl 5 alB) 5 k = [4, 3, 1, 0].getD k 0 := fun k hk => by
  rw [cut_order (by rw [al10]; exact hk), ← al4]
  simp [List.getD_eq_getElem?_getD, hk]
theorem cl_e {n : Nat} {p q : Nat → Bx} (h : ∀ k, k < n → p k = q k) : cl n p = cl n q := by
  funext k
  unfold cl
  cases hb : Nat.blt k n
  · rfl
  · exact h k (by simpa using hb)
noncomputable def fi35 : FnI := ⟨2, Try.f35.body.getD .skip, [.tmp 0], true⟩
theorem fi35_ok : fnGen Try.prog 35 = some fi35 := by kernel_rfl
theorem t35  : CM Try.prog 35 [] (.f .f64 (canon .f64 9221120237041090561)) [] true := by
  refine CM.of_genQ (exts := exts) (eqs := eqs) (inl := []) (sum := S21c) extsOK eqsOK S21c_ok fi35_ok 6 rfl fun cx => ?_
  repeat' ((fail_if_success (with_reducible refine Side.mk ?_)); first | ((fail_if_success (with_reducible refine Rest.mk ?_)); first | (with_reducible exact True.intro) | (with_reducible refine Need.mk ?_ ?_) | (with_reducible refine And.intro ?_ ?_) | (with_reducible intro _) | ((fail_if_success (with_reducible refine FinS.mk ?_)); (fail_if_success (with_reducible refine Le.mk ?_)); (conv => whnf)) | (refine FinS.b ?_) | (refine FinS.lb ?_) | (refine FinS.i ?_) | (refine FinS.f ?_) | (refine FinS.agg ?_) | (refine FinS.tup ?_)))
  all_goals first | exact ⟨by decide⟩ | exact ⟨rfl⟩
noncomputable def g35 : List MV → Option (List Prop × MV × List Blk × Bool)
  | [] => some ([], (.f .f64 (canon .f64 9221120237041090561)), [], false)
  | _ => none
theorem s35 : SumsOK Try.prog (sumOf 35 g35 S21c) := by
  refine SumsOK.add S21c_ok fun ms ps m blks al e hp => ?_
  unfold g35 at e
  split at e
  · cases e; exact (t35  ).aloneT rfl
  · cases e
noncomputable def S35 := sumOf 35 g35 S21c
theorem S35_ok : SumsOK Try.prog S35 := s35
noncomputable def fi22 : FnI := ⟨16, Try.f22.body.getD .skip, [.cell 8 27], true⟩
theorem fi22_ok : fnGen Try.prog 22 = some fi22 := by kernel_rfl
theorem t22 (a1 : Nat) (a2 : Nat) (a3 : Nat) (a4 : Nat) : CM Try.prog 22 [.f .f64 a1, .f .f64 a2, .f .f64 a3, .f .f64 a4] (.agg [.f .f64 a1, .f .f64 a2, .f .f64 a3, .f .f64 a4]) [] true := by
  refine CM.of_genQ (exts := exts) (eqs := eqs) (inl := []) (sum := S35) extsOK eqsOK S35_ok fi22_ok 6 rfl fun cx => ?_
  repeat' ((fail_if_success (with_reducible refine Side.mk ?_)); first | ((fail_if_success (with_reducible refine Rest.mk ?_)); first | (with_reducible exact True.intro) | (with_reducible refine Need.mk ?_ ?_) | (with_reducible refine And.intro ?_ ?_) | (with_reducible intro _) | ((fail_if_success (with_reducible refine FinS.mk ?_)); (fail_if_success (with_reducible refine Le.mk ?_)); (conv => whnf)) | (refine FinS.b ?_) | (refine FinS.lb ?_) | (refine FinS.i ?_) | (refine FinS.f ?_) | (refine FinS.agg ?_) | (refine FinS.tup ?_)))
  all_goals first | exact ⟨rfl⟩ | exact ⟨⟨rfl, rfl⟩⟩ | (refine Side.mk ⟨rfl, ?_⟩; first | exact ⟨rfl⟩ | rfl)
noncomputable def g22 : List MV → Option (List Prop × MV × List Blk × Bool)
  | [.f .f64 a1, .f .f64 a2, .f .f64 a3, .f .f64 a4] => some ([], (.agg [.f .f64 a1, .f .f64 a2, .f .f64 a3, .f .f64 a4]), [], false)
  | _ => none
theorem s22 : SumsOK Try.prog (sumOf 22 g22 S35) := by
  refine SumsOK.add S35_ok fun ms ps m blks al e hp => ?_
  unfold g22 at e
  split at e
  · cases e; exact (t22 _ _ _ _ ).aloneT rfl
  · cases e
noncomputable def S22 := sumOf 22 g22 S35
theorem S22_ok : SumsOK Try.prog S22 := s22
noncomputable def fi24 : FnI := ⟨18, Try.f24.body.getD .skip, [.tmp 4], true⟩
theorem fi24_ok : fnGen Try.prog 24 = some fi24 := by kernel_rfl
theorem t24 (a1 : Nat) (a2 : Nat) (a3 : Nat) (a4 : Nat) (b1 : Nat) (b2 : Nat) (b3 : Nat) (b4 : Nat) : CM Try.prog 24 [.agg [.f .f64 a1, .f .f64 a2, .f .f64 a3, .f .f64 a4], .agg [.f .f64 b1, .f .f64 b2, .f .f64 b3, .f .f64 b4]] (.b (mV2 (a1, a2, a3, a4) (b1, b2, b3, b4))) [] true := by
  refine CM.of_genQ (exts := exts) (eqs := eqs) (inl := []) (sum := S22) extsOK eqsOK S22_ok fi24_ok 6 rfl fun cx => ?_
  repeat' ((fail_if_success (with_reducible refine Side.mk ?_)); first | ((fail_if_success (with_reducible refine Rest.mk ?_)); first | (with_reducible exact True.intro) | (with_reducible refine Need.mk ?_ ?_) | (with_reducible refine And.intro ?_ ?_) | (with_reducible intro _) | ((fail_if_success (with_reducible refine FinS.mk ?_)); (fail_if_success (with_reducible refine Le.mk ?_)); (conv => whnf)) | (refine FinS.b ?_) | (refine FinS.lb ?_) | (refine FinS.i ?_) | (refine FinS.f ?_) | (refine FinS.agg ?_) | (refine FinS.tup ?_)))
  all_goals (try simp only [m_ok])
  all_goals first | exact ⟨rfl⟩ | exact ⟨⟨rfl, rfl⟩⟩ | (refine Side.mk ⟨rfl, ?_⟩; first | exact ⟨rfl⟩ | rfl)
noncomputable def g24 : List MV → Option (List Prop × MV × List Blk × Bool)
  | [.agg [.f .f64 a1, .f .f64 a2, .f .f64 a3, .f .f64 a4], .agg [.f .f64 b1, .f .f64 b2, .f .f64 b3, .f .f64 b4]] => some ([], (.b (mV2 (a1, a2, a3, a4) (b1, b2, b3, b4))), [], false)
  | _ => none
theorem s24 : SumsOK Try.prog (sumOf 24 g24 S22) := by
  refine SumsOK.add S22_ok fun ms ps m blks al e hp => ?_
  unfold g24 at e
  split at e
  · cases e; exact (t24 _ _ _ _ _ _ _ _ ).aloneT rfl
  · cases e
noncomputable def S24 := sumOf 24 g24 S22
theorem S24_ok : SumsOK Try.prog S24 := s24
noncomputable def g21a : List MV → Option (List Prop × MV × List Blk × Bool)
  | [.ro 4 n get] => some ([isBx n get, n = 5 ∧ ∀ k, k < 5 → bOf get k = alB k], .tup [.os 0 2 0 3, .i .i64 0], [.rows 2 3 (rowI2 (pG (cl 5 alB) 5))], false)
  | _ => none
theorem s21a : SumsOK Try.prog (sumOf 21 g21a S24) := by
  refine SumsOK.add S24_ok fun ms ps m blks al e hp => ?_
  unfold g21a at e
  split at e
  · cases e
    obtain ⟨h5, h6⟩ := hp _ (.tail _ (.head _))
    have h7 := hp _ (.head _)
    subst h5
    have := (le_arg1 (t21 _ (cl _ (bOf _)) (by unfold room; omega)) (leR_cl h7)).aloneR rfl (fun i hi j hj => flat_P hj)
    rw [cl_e h6, al6.1, al6.2] at this
    exact this
  · cases e
noncomputable def S21a := sumOf 21 g21a S24
theorem S21a_ok : SumsOK Try.prog S21a := s21a
noncomputable def g13a : List MV → Option (List Prop × MV × List Blk × Bool)
  | [.ro 4 n get] => some ([isBx n get, n = 5 ∧ ∀ k, k < 5 → bOf get k = alB k], .tup [.os 0 1 0 4, .i .i64 0], [.rows 1 4 (rowI (orV (cl 5 alB) 5))], false)
  | _ => none
theorem s13a : SumsOK Try.prog (sumOf 13 g13a S21a) := by
  refine SumsOK.add S21a_ok fun ms ps m blks al e hp => ?_
  unfold g13a at e
  split at e
  · cases e
    obtain ⟨h5, h6⟩ := hp _ (.tail _ (.head _))
    have h7 := hp _ (.head _)
    subst h5
    have := (le_arg1 (t13 _ (cl _ (bOf _)) (by unfold room; omega)) (leR_cl h7)).aloneR rfl (fun i hi j hj => flat_I hj)
    rw [cl_e h6, al10] at this
    exact this
  · cases e
noncomputable def S13a := sumOf 13 g13a S21a
theorem S13a_ok : SumsOK Try.prog S13a := s13a
noncomputable def g11a : List MV → Option (List Prop × MV × List Blk × Bool)
  | [.ro 4 n get, .agg [.f .f64 b1, .f .f64 b2, .f .f64 b3, .f .f64 b4]] => some ([isBx n get, (n = 5 ∧ (b1, b2, b3, b4) = alA) ∧ ∀ k, k < 5 → bOf get k = alB k], .tup [.os 0 1 0 3, .i .i64 0], [.rows 1 3 (lR [1, 3, 4])], false)
  | _ => none
theorem s11a : SumsOK Try.prog (sumOf 11 g11a S13a) := by
  refine SumsOK.add S13a_ok fun ms ps m blks al e hp => ?_
  unfold g11a at e
  split at e
  · cases e
    obtain ⟨⟨h5, h8⟩, h6⟩ := hp _ (.tail _ (.head _))
    have h7 := hp _ (.head _)
    subst h5
    rename_i b1 b2 b3 b4
    obtain ⟨rfl, rfl, rfl, rfl⟩ : b1 = alA.1 ∧ b2 = alA.2.1 ∧ b3 = alA.2.2.1 ∧ b4 = alA.2.2.2 := by rw [← h8]; exact ⟨rfl, rfl, rfl, rfl⟩
    have := (le_arg1 (t11 _ (cl _ (bOf _)) alA (by unfold room; omega)) (leR_cl h7)).aloneR rfl (fun i hi j hj => flat_I hj)
    rw [cl_e h6, al3] at this
    exact this
  · cases e
noncomputable def S11a := sumOf 11 g11a S13a
theorem S11a_ok : SumsOK Try.prog S11a := s11a
noncomputable def g17a : List MV → Option (List Prop × MV × List Blk × Bool)
  | [.ro 4 n get, .ro 4 m get'] => some ([isBx n get, isBx m get', (n = 2 ∧ m = 2) ∧ (∀ k, k < 2 → bOf get k = alB k) ∧ ∀ k, k < 2 → bOf get' k = alB (k + 3)], .tup [.os 0 2 0 2, .i .i64 0], [.rows 2 2 (rowI2 (bG (cl 2 alB) (cl 2 fun k => alB (k + 3)) 2 2))], false)
  | _ => none
theorem s17a : SumsOK Try.prog (sumOf 17 g17a S11a) := by
  refine SumsOK.add S11a_ok fun ms ps m blks al e hp => ?_
  unfold g17a at e
  split at e
  · cases e
    obtain ⟨⟨h5, h8⟩, h6, h9⟩ := hp _ (.tail _ (.tail _ (.head _)))
    have h7 := hp _ (.head _)
    have h10 := hp _ (.tail _ (.head _))
    subst h5; subst h8
    have := ((t17 _ (cl _ (bOf _)) _ (cl _ (bOf _)) (by unfold room; omega) (by unfold room; omega)).aloneR rfl (fun i hi j hj => flat_P hj)).le2 (leR_cl h7) (leR_cl h10)
    rw [cl_e h6, cl_e h9, al8.1, al8.2] at this
    exact this
  · cases e
noncomputable def S17a := sumOf 17 g17a S11a
theorem S17a_ok : SumsOK Try.prog S17a := s17a
noncomputable def fi23 : FnI := ⟨82, Try.f23.body.getD .skip, [.tmp 0], true⟩
theorem fi23_ok : fnGen Try.prog 23 = some fi23 := by kernel_rfl
theorem zHS17a_Al {cx : Cx} : CallH (genQ Try.prog exts eqs [] S17a).P cx (hnd (genQ Try.prog exts eqs [] S17a) cx 6) := hnd_sound (genQ_full extsOK eqsOK S17a_ok) 6
theorem zES17a_Al : EnvAll (genQ Try.prog exts eqs [] S17a) := (genQ_full extsOK eqsOK S17a_ok).toEnvAll
theorem t23   : CM Try.prog 23 [] (.b true) [] true := by
  refine CM.of_code zES17a_Al (fnGen_ok fi23_ok) rfl fun w0 okA => ?_
  refine evC_sound (genQ_full extsOK eqsOK S17a_ok).toEnvAll (hndU_sound U32_k zHS17a_Al) ?_
  repeat' ((fail_if_success (with_reducible refine Side.mk ?_)); first | (refine Rest.mk (drawR_sound zES17a_Al mixOK (hndU_sound U32_k zHS17a_Al) ?_)) | ((fail_if_success (with_reducible refine Rest.mk ?_)); first | (with_reducible exact True.intro) | (with_reducible refine Need.mk ?_ ?_) | (with_reducible refine And.intro ?_ ?_) | (with_reducible intro hcl; try (exfalso; ((simp at hcl; done)); done)) | ((fail_if_success (with_reducible refine FinS.mk ?_)); (fail_if_success (with_reducible refine Le.mk ?_)); (conv => whnf)) | (refine FinS.b ?_) | (refine FinS.lb ?_) | (refine FinS.i ?_) | (refine FinS.f ?_) | (refine FinS.agg ?_) | (refine FinS.tup ?_)))
  all_goals (try (refine Le.of ?_; (conv => whnf)))
  repeat' ((fail_if_success (with_reducible refine Side.mk ?_)); first | (refine Rest.mk (drawR_sound zES17a_Al mixOK (hndU_sound U32_k zHS17a_Al) ?_)) | ((fail_if_success (with_reducible refine Rest.mk ?_)); first | (with_reducible exact True.intro) | (with_reducible refine Need.mk ?_ ?_) | (with_reducible refine And.intro ?_ ?_) | (with_reducible intro _) | ((fail_if_success (with_reducible refine FinS.mk ?_)); (fail_if_success (with_reducible refine Le.mk ?_)); (conv => whnf)) | (refine FinS.b ?_) | (refine FinS.lb ?_) | (refine FinS.i ?_) | (refine FinS.f ?_) | (refine FinS.agg ?_) | (refine FinS.tup ?_)))
  all_goals (try refine Side.mk ?_)
  all_goals (try simp only [Int.toNat_natCast, Nat.zero_add, Option.getD_none, Option.getD_some, Int.toNat_ofNat] at *)
  all_goals (try simp only [eq_self, decide_eq_true_eq, decide_eq_false_iff_not, Int.ofNat_lt, Int.ofNat_le, gt_iff_lt, ge_iff_le, true_and, Bool.not_eq_true', Bool.not_eq_false'] at *)
  all_goals first | (with_reducible rfl) | trivial | omega | rfl | exact fun _ _ => trivial | exact ⟨rfl, rfl⟩ | exact ⟨rfl, fun _ _ => rfl⟩ | exact ⟨rfl, rfl, fun _ _ => rfl⟩ | (exact ⟨fun i hi j hj => by (obtain (rfl | rfl | rfl | rfl | rfl) : i = 0 ∨ i = 1 ∨ i = 2 ∨ i = 3 ∨ i = 4 := by omega) <;> (obtain (rfl | rfl | rfl | rfl) : j = 0 ∨ j = 1 ∨ j = 2 ∨ j = 3 := by omega) <;> rfl, fun k hk => by (obtain (rfl | rfl | rfl | rfl | rfl) : k = 0 ∨ k = 1 ∨ k = 2 ∨ k = 3 ∨ k = 4 := by omega) <;> rfl, by omega⟩) | (exact ⟨fun i hi j hj => by (obtain (rfl | rfl | rfl | rfl | rfl) : i = 0 ∨ i = 1 ∨ i = 2 ∨ i = 3 ∨ i = 4 := by omega) <;> (obtain (rfl | rfl | rfl | rfl) : j = 0 ∨ j = 1 ∨ j = 2 ∨ j = 3 := by omega) <;> rfl, ⟨rfl, fun k hk => by (obtain (rfl | rfl | rfl | rfl | rfl) : k = 0 ∨ k = 1 ∨ k = 2 ∨ k = 3 ∨ k = 4 := by omega) <;> rfl⟩, by omega⟩) | (exact ⟨fun i hi j hj => by (have hi : i < 2 := hi; obtain (rfl | rfl) : i = 0 ∨ i = 1 := by omega) <;> (obtain (rfl | rfl | rfl | rfl) : j = 0 ∨ j = 1 ∨ j = 2 ∨ j = 3 := by omega) <;> rfl, fun i hi j hj => by (have hi : i < 2 := hi; obtain (rfl | rfl) : i = 0 ∨ i = 1 := by omega) <;> (obtain (rfl | rfl | rfl | rfl) : j = 0 ∨ j = 1 ∨ j = 2 ∨ j = 3 := by omega) <;> rfl, ⟨⟨rfl, rfl⟩, fun k hk => by (obtain (rfl | rfl) : k = 0 ∨ k = 1 := by omega) <;> rfl, fun k hk => by (obtain (rfl | rfl) : k = 0 ∨ k = 1 := by omega) <;> rfl⟩, by decide, by decide⟩) | (exact ⟨fun k hk => ⟨rfl, rfl⟩, fun k hk => by (obtain (rfl | rfl | rfl) : k = 0 ∨ k = 1 ∨ k = 2 := by omega) <;> exact ⟨rfl, rfl⟩, by decide, fun k hk => by (have h := al7 k hk; show pG (cl 5 alB) 5 (0 + k) = _; rw [Nat.zero_add, h]; (obtain (rfl | rfl | rfl) : k = 0 ∨ k = 1 ∨ k = 2 := by omega) <;> rfl), by omega, by omega⟩) | (exact ⟨fun k hk => ⟨rfl, rfl⟩, fun k hk => by (obtain (rfl | rfl) : k = 0 ∨ k = 1 := by omega) <;> exact ⟨rfl, rfl⟩, by decide, fun k hk => by (have h := al9 k hk; show bG (cl 2 alB) (cl 2 fun k => alB (k + 3)) 2 2 (0 + k) = _; rw [Nat.zero_add, h]; (obtain (rfl | rfl) : k = 0 ∨ k = 1 := by omega) <;> rfl), by omega, by omega⟩) | (exact ⟨fun k hk => rfl, fun k hk => by (obtain (rfl | rfl | rfl | rfl) : k = 0 ∨ k = 1 ∨ k = 2 ∨ k = 3 := by omega) <;> rfl, by decide, fun k hk => by (have h := al11 k hk; show orV (cl 5 alB) 5 (0 + k) = _; rw [Nat.zero_add, h]; (obtain (rfl | rfl | rfl | rfl) : k = 0 ∨ k = 1 ∨ k = 2 ∨ k = 3 := by omega) <;> rfl), by omega, by omega⟩) | (exact ⟨fun k hk => rfl, fun k hk => by (obtain (rfl | rfl | rfl) : k = 0 ∨ k = 1 ∨ k = 2 := by omega) <;> rfl, by decide, fun k hk => by (obtain (rfl | rfl | rfl) : k = 0 ∨ k = 1 ∨ k = 2 := by omega) <;> rfl, by omega, by omega⟩)
noncomputable def g23 : List MV → Option (List Prop × MV × List Blk × Bool)
  | [] => some ([], .b true, [], false)
  | _ => none
theorem s23 : SumsOK Try.prog (sumOf 23 g23 S24) := by
  refine SumsOK.add S24_ok fun ms ps m blks al e hp => ?_
  unfold g23 at e
  split at e
  · cases e; exact t23.aloneT rfl
  · cases e
noncomputable def S23 := sumOf 23 g23 S24
theorem S23_ok : SumsOK Try.prog S23 := s23
end Go.Ev.Sweep
