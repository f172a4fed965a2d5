/-
  The walk of the law; for lists of at most 4398046511103 boxes.
-/
import Derived.Test.YtbnfcjckbgpkeaaSweW
set_option linter.unusedSimpArgs false
set_option linter.unusedVariables false
open Go Go.Proofs
namespace Go.Ev.Sweep
set_option maxRecDepth 100000
set_option maxHeartbeats 1000000
open Go.Ev.So
def X19 : XT := xAdd 19 ([2, 2], .b true, fun l => match l with
  | [(n, g), (m, g')] => some [isPr n g, isPr m g']
  | _ => none) X0
theorem X19_ok : XOK Try.prog X19 := by
  intro f szs m c h
  unfold X19 xAdd at h
  split at h
  · rename_i hb
    have := Nat.eq_of_beq_eq_true hb
    subst this
    cases h
    refine ⟨rfl, fun l qs hl hle hq hp => ?_⟩
    obtain ⟨⟨n, g⟩, ⟨m, g'⟩, rfl⟩ : ∃ a b, l = [a, b] := by
      match l, hl with
      | [a, b], _ => exact ⟨a, b, rfl⟩
    cases hq
    have h1 : n ≤ wLe := hle (n, g) (by simp)
    have h2 : m ≤ wLe := hle (m, g') (by simp)
    have h3 : isPr n g := hp _ (by simp)
    have h4 : isPr m g' := hp _ (by simp)
    exact CW.leB2 (t19 n m (prO g) (prO g') h1 h2) (le_Pr h3) (le_Pr h4)
  · cases h
theorem prO_gP (l : List Pr) : prO (rowI2 (gP l)) = gP l := rfl
theorem b_lim (p q : Nat → Bx) (n m : Nat) : bN p q n m ≤ lim := Nat.le_trans (bN_le p q n m) (by decide)
theorem b_w (p q : Nat → Bx) (n m : Nat) : bN p q n m ≤ wLe := Nat.le_trans (bN_le p q n m) (by decide)
noncomputable def g17c : List MV → Option (List Prop × MV × List Blk × Bool)
  | [.ro 4 n get, .ro 4 m get'] => some ([isBx n get, isBx m get', n ≤ room, m ≤ room], .tup [.os 0 2 0 (bN (cl n (bOf get)) (cl m (bOf get')) n m), .i .i64 (bE (cl n (bOf get)) (cl m (bOf get')) n m)], [.rows 2 (bN (cl n (bOf get)) (cl m (bOf get')) n m) (rowI2 (bG (cl n (bOf get)) (cl m (bOf get')) n m))], false)
  | _ => none
theorem s17c : SumsOK Try.prog (sumOf 17 g17c S18) := by
  refine SumsOK.add S18_ok fun ms ps m blks al e hp => ?_
  unfold g17c at e
  split at e
  · cases e
    exact ((t17 _ (cl _ (bOf _)) _ (cl _ (bOf _)) (hp _ (.tail _ (.tail _ (.head _)))) (hp _ (.tail _ (.tail _ (.tail _ (.head _)))))).aloneR rfl (fun i hi j hj => flat_P hj)).le2 (leR_cl (hp _ (.head _))) (leR_cl (hp _ (.tail _ (.head _))))
  · cases e
noncomputable def S17c := sumOf 17 g17c S18
theorem S17c_ok : SumsOK Try.prog S17c := s17c
noncomputable def g16c : List MV → Option (List Prop × MV × List Blk × Bool)
  | [.ro 4 n get, .ro 4 m get'] => some ([isBx n get, isBx m get', n ≤ room, m ≤ room], .tup [.os 0 2 0 (rN (cl n (bOf get)) (cl m (bOf get')) n m), .i .i64 (rE (cl n (bOf get)) (cl m (bOf get')) n m)], [.rows 2 (rN (cl n (bOf get)) (cl m (bOf get')) n m) (rowI2 (gP (rB (cl n (bOf get)) (cl m (bOf get')) m n)))], false)
  | _ => none
theorem s16c : SumsOK Try.prog (sumOf 16 g16c S17c) := by
  refine SumsOK.add S17c_ok fun ms ps m blks al e hp => ?_
  unfold g16c at e
  split at e
  · cases e
    exact ((t16 _ (cl _ (bOf _)) _ (cl _ (bOf _)) (hp _ (.tail _ (.tail _ (.head _)))) (hp _ (.tail _ (.tail _ (.tail _ (.head _)))))).aloneR rfl (fun i hi j hj => flat_P hj)).le2 (leR_cl (hp _ (.head _))) (leR_cl (hp _ (.tail _ (.head _))))
  · cases e
noncomputable def S16c := sumOf 16 g16c S17c
theorem S16c_ok : SumsOK Try.prog S16c := s16c
noncomputable def fi4 : FnI := ⟨88, Try.f4.body.getD .skip, [.tmp 4], true⟩
theorem fi4_ok : fnGen Try.prog 4 = some fi4 := by kernel_rfl
set_option maxHeartbeats 4000000 in
theorem zHS16c_X {cx : Cx} : CallH (genQ Try.prog exts eqs [] S16c).P cx (hnd (genQ Try.prog exts eqs [] S16c) cx 6) := hnd_sound (genQ_full extsOK eqsOK S16c_ok) 6
theorem zES16c_X : EnvAll (genQ Try.prog exts eqs [] S16c) := (genQ_full extsOK eqsOK S16c_ok).toEnvAll
theorem t4 (n : Nat) (p : Nat → Bx) (m : Nat) (q : Nat → Bx) (c0 : n ≤ room) (c1 : m ≤ room) : CM Try.prog 4 [.ro 4 n (fun j => bM (p j)), .ro 4 m (fun j => bM (q j))] (.b true) [] true := by
  refine CM.of_code zES16c_X (fnGen_ok fi4_ok) rfl fun w0 okA => ?_
  refine evC_sound (genQ_full extsOK eqsOK S16c_ok).toEnvAll (hndX_sound X19_ok zHS16c_X) ?_
  have k0 : n ≤ 4398046511103 := c0
  have k1 : m ≤ 4398046511103 := c1
  repeat' ((fail_if_success (with_reducible refine Side.mk ?_)); first | (refine Rest.mk (drawR_sound zES16c_X mixOK (hndX_sound X19_ok zHS16c_X) ?_)) | ((fail_if_success (with_reducible refine Rest.mk ?_)); first | (with_reducible exact True.intro) | (with_reducible refine Need.mk ?_ ?_) | (with_reducible refine And.intro ?_ ?_) | (with_reducible intro hcl; try (exfalso; ((simp at hcl; done)); done)) | ((fail_if_success (with_reducible refine FinS.mk ?_)); (fail_if_success (with_reducible refine Le.mk ?_)); (conv => whnf)) | (refine FinS.b ?_) | (refine FinS.lb ?_) | (refine FinS.i ?_) | (refine FinS.f ?_) | (refine FinS.agg ?_) | (refine FinS.tup ?_)))
  all_goals (try (refine Le.of ?_; (conv => whnf)))
  repeat' ((fail_if_success (with_reducible refine Side.mk ?_)); first | (refine Rest.mk (drawR_sound zES16c_X mixOK (hndX_sound X19_ok zHS16c_X) ?_)) | ((fail_if_success (with_reducible refine Rest.mk ?_)); first | (with_reducible exact True.intro) | (with_reducible refine Need.mk ?_ ?_) | (with_reducible refine And.intro ?_ ?_) | (with_reducible intro _) | ((fail_if_success (with_reducible refine FinS.mk ?_)); (fail_if_success (with_reducible refine Le.mk ?_)); (conv => whnf)) | (refine FinS.b ?_) | (refine FinS.lb ?_) | (refine FinS.i ?_) | (refine FinS.f ?_) | (refine FinS.agg ?_) | (refine FinS.tup ?_)))
  all_goals (try refine Side.mk ?_)
  all_goals (try simp only [Int.toNat_natCast, Nat.zero_add, bOf_b, cl_lent, Option.getD_none, Option.getD_some, prO_row, prO_gP, bE_eq, beq_self_eq_true] at *)
  all_goals (try simp only [eq_self, decide_eq_true_eq, decide_eq_false_iff_not, Int.ofNat_lt, Int.ofNat_le, gt_iff_lt, ge_iff_le, true_and, Bool.not_eq_true', Bool.not_eq_false'] at *)
  all_goals first | (with_reducible rfl) | trivial | omega | rfl | exact fun _ _ => trivial | exact ⟨rfl, rfl⟩ | exact ⟨rfl, fun _ _ => rfl⟩ | exact ⟨rfl, rfl, fun _ _ => rfl⟩ | (exact ⟨isBx_b _ _, c0⟩) | (exact ⟨isBx_b _ _, c1⟩) | (exact ⟨isBx_b _ _, isBx_b _ _, c0, c1⟩) | (exact ⟨isBx_b _ _, isBx_b _ _, c1, c0⟩) | (exact ⟨isBx_b _ _, c0, by omega⟩) | (exact ⟨by omega, by omega, by omega, by omega⟩) | (exact ⟨isBx_b _ _, isBx_b _ _, c0, c1, by omega, by omega⟩) | (exact ⟨isBx_b _ _, isBx_b _ _, c1, c0, by omega, by omega⟩) | (exact ⟨isPr_row _ _, isPr_row _ _, (bN_eq (cl n p) (cl m q) n m).symm, b_lim (cl n p) (cl m q) n m, fun k hk => bG_get hk⟩) | (exact fun _ => ⟨isPr_row _ _, isPr_row _ _, (bN_eq (cl n p) (cl m q) n m).symm, b_lim (cl n p) (cl m q) n m, fun k hk => bG_get hk⟩) | (exact ⟨isPr_row _ _, isPr_row _ _, (bN_eq (cl n p) (cl m q) n m).symm, b_lim (cl n p) (cl m q) n m, fun k hk => bG_get hk, Nat.le_refl _, Nat.le_refl _⟩) | (exact fun _ => ⟨isPr_row _ _, isPr_row _ _, (bN_eq (cl n p) (cl m q) n m).symm, b_lim (cl n p) (cl m q) n m, fun k hk => bG_get hk, Nat.le_refl _, Nat.le_refl _⟩) | (exact ⟨isPr_row _ _, isPr_row _ _, (bN_eq (cl n p) (cl m q) n m).symm, b_lim (cl n p) (cl m q) n m, fun k hk => bG_get hk, Nat.le_refl _⟩) | (exact fun _ => ⟨isPr_row _ _, isPr_row _ _, (bN_eq (cl n p) (cl m q) n m).symm, b_lim (cl n p) (cl m q) n m, fun k hk => bG_get hk, Nat.le_refl _⟩) | (exact ⟨isPr_row _ _, isPr_row _ _, (bN_eq (cl m q) (cl n p) m n).symm, b_lim (cl m q) (cl n p) m n, fun k hk => bG_get hk⟩) | (exact fun _ => ⟨isPr_row _ _, isPr_row _ _, (bN_eq (cl m q) (cl n p) m n).symm, b_lim (cl m q) (cl n p) m n, fun k hk => bG_get hk⟩) | (exact ⟨isPr_row _ _, isPr_row _ _, (bN_eq (cl m q) (cl n p) m n).symm, b_lim (cl m q) (cl n p) m n, fun k hk => bG_get hk, Nat.le_refl _, Nat.le_refl _⟩) | (exact fun _ => ⟨isPr_row _ _, isPr_row _ _, (bN_eq (cl m q) (cl n p) m n).symm, b_lim (cl m q) (cl n p) m n, fun k hk => bG_get hk, Nat.le_refl _, Nat.le_refl _⟩) | (exact ⟨isPr_row _ _, isPr_row _ _, (bN_eq (cl m q) (cl n p) m n).symm, b_lim (cl m q) (cl n p) m n, fun k hk => bG_get hk, Nat.le_refl _⟩) | (exact fun _ => ⟨isPr_row _ _, isPr_row _ _, (bN_eq (cl m q) (cl n p) m n).symm, b_lim (cl m q) (cl n p) m n, fun k hk => bG_get hk, Nat.le_refl _⟩) | (exact ⟨isBx_b _ _, isBx_b _ _, trivial, c0, fun k hk => lent_lo hk, lent_0, Nat.le_refl _⟩) | (exact fun _ => ⟨isBx_b _ _, isBx_b _ _, trivial, c0, fun k hk => lent_lo hk, lent_0, Nat.le_refl _⟩) | (exact ⟨isBx_b _ _, isBx_b _ _, rfl, c0, fun k hk => lent_lo hk, lent_0, Nat.le_refl _⟩) | (exact fun _ => ⟨isBx_b _ _, isBx_b _ _, rfl, c0, fun k hk => lent_lo hk, lent_0, Nat.le_refl _⟩) | (exact ⟨isBx_b _ _, isBx_b _ _, c0, fun k hk => lent_lo hk, lent_0, Nat.le_refl _⟩) | (exact fun _ => ⟨isBx_b _ _, isBx_b _ _, c0, fun k hk => lent_lo hk, lent_0, Nat.le_refl _⟩) | (exact ⟨isBx_b _ _, isBx_b _ _, trivial, c1, fun k hk => lent_lo hk, lent_0, Nat.le_refl _⟩) | (exact fun _ => ⟨isBx_b _ _, isBx_b _ _, trivial, c1, fun k hk => lent_lo hk, lent_0, Nat.le_refl _⟩) | (exact ⟨isBx_b _ _, isBx_b _ _, rfl, c1, fun k hk => lent_lo hk, lent_0, Nat.le_refl _⟩) | (exact fun _ => ⟨isBx_b _ _, isBx_b _ _, rfl, c1, fun k hk => lent_lo hk, lent_0, Nat.le_refl _⟩) | (exact ⟨isBx_b _ _, isBx_b _ _, c1, fun k hk => lent_lo hk, lent_0, Nat.le_refl _⟩) | (exact fun _ => ⟨isBx_b _ _, isBx_b _ _, c1, fun k hk => lent_lo hk, lent_0, Nat.le_refl _⟩) | (exact ⟨isPr_row _ _, isPr_row _ _, ⟨Nat.le_refl _, b_w _ _ _ _⟩, ⟨Nat.le_refl _, b_w _ _ _ _⟩⟩) | (exact fun _ => ⟨isPr_row _ _, isPr_row _ _, ⟨Nat.le_refl _, b_w _ _ _ _⟩, ⟨Nat.le_refl _, b_w _ _ _ _⟩⟩) | (exact ⟨isPr_row _ _, isPr_row _ _, ⟨Nat.le_refl _, b_w _ _ _ _⟩, Nat.le_refl _, b_w _ _ _ _⟩) | (exact fun _ => ⟨isPr_row _ _, isPr_row _ _, ⟨Nat.le_refl _, b_w _ _ _ _⟩, Nat.le_refl _, b_w _ _ _ _⟩)
end Go.Ev.Sweep
