/-
  The contracts of both Orders, told below the length alone; for lists of at most 4398046511103 boxes.
-/
import Derived.Test.YtbnfcjckbgpkeaaSweM
import Derived.Test.YtbnfcjckbgpkeaaSweL
set_option linter.unusedSimpArgs false
set_option linter.unusedVariables false
open Go Go.Proofs
namespace Go.Ev.Sweep
set_option maxRecDepth 100000
set_option maxHeartbeats 1000000
open Go.Ev.So
theorem with_len (p : Nat → Bx) (b : Bx) (nn : Nat) : (cutL nn (fL (wR p b) nn)).length = (cutL nn (fL (wP p b) nn)).length := by rw [with_eq]
theorem with_get (p : Nat → Bx) (b : Bx) (nn k : Nat) : (cutL nn (fL (wP p b) nn)).getD k 0 = (cutL nn (fL (wR p b) nn)).getD k 0 := by rw [with_eq]
def cl (nn : Nat) (p : Nat → Bx) (i : Nat) : Bx := bif Nat.blt i nn then p i else (0, 0, 0, 0)
theorem cl_lo {nn i : Nat} {p : Nat → Bx} (h : i < nn) : cl nn p i = p i := by unfold cl; rw [show Nat.blt i nn = true by simpa using h]; rfl
theorem cl_lent {nn : Nat} {p : Nat → Bx} : (cl nn fun i => lentV nn p i) = cl nn p := by
  funext i
  unfold cl
  cases h : Nat.blt i nn
  · rfl
  · show lentV nn p i = p i
    exact lent_lo (by simpa using h)
theorem leR_cl {n : Nat} {get : Nat → List MV} (h : isBx n get) : leR (.ro 4 n get) (.ro 4 n fun i => bM (cl n (bOf get) i)) := ⟨rfl, rfl, fun i hi j hj => by dsimp only; rw [cl_lo hi]; exact h i hi j hj⟩
noncomputable def g10c : List MV → Option (List Prop × MV × List Blk × Bool)
  | [.ro 4 nn get, .agg [.f .f64 b1, .f .f64 b2, .f .f64 b3, .f .f64 b4]] => some ([isBx nn get, nn ≤ room], (.tup [.os 0 1 0 (cutL nn (fL (wR (cl nn (bOf get)) (b1, b2, b3, b4)) nn)).length, .i .i64 (eN nn)]), [.rows 1 (cutL nn (fL (wR (cl nn (bOf get)) (b1, b2, b3, b4)) nn)).length (lR (cutL nn (fL (wR (cl nn (bOf get)) (b1, b2, b3, b4)) nn)))], false)
  | _ => none
theorem s10c : SumsOK Try.prog (sumOf 10 g10c S15) := by
  refine SumsOK.add S15_ok fun ms ps m blks al e hp => ?_
  unfold g10c at e
  split at e
  · cases e
    rename_i nn get b1 b2 b3 b4
    exact (le_arg1 (t10 nn (cl nn (bOf get)) (b1, b2, b3, b4) (hp _ (.tail _ (.head _)))) (leR_cl (hp _ (.head _)))).aloneR rfl (fun i hi j hj => flat_I hj)
  · cases e
noncomputable def S10c := sumOf 10 g10c S15
theorem S10c_ok : SumsOK Try.prog S10c := s10c
noncomputable def g11c : List MV → Option (List Prop × MV × List Blk × Bool)
  | [.ro 4 nn get, .agg [.f .f64 b1, .f .f64 b2, .f .f64 b3, .f .f64 b4]] => some ([isBx nn get, nn ≤ room], (.tup [.os 0 1 0 (cutL nn (fL (wP (cl nn (bOf get)) (b1, b2, b3, b4)) nn)).length, .i .i64 (eN nn)]), [.rows 1 (cutL nn (fL (wP (cl nn (bOf get)) (b1, b2, b3, b4)) nn)).length (lR (cutL nn (fL (wP (cl nn (bOf get)) (b1, b2, b3, b4)) nn)))], false)
  | _ => none
theorem s11c : SumsOK Try.prog (sumOf 11 g11c S10c) := by
  refine SumsOK.add S10c_ok fun ms ps m blks al e hp => ?_
  unfold g11c at e
  split at e
  · cases e
    rename_i nn get b1 b2 b3 b4
    exact (le_arg1 (t11 nn (cl nn (bOf get)) (b1, b2, b3, b4) (hp _ (.tail _ (.head _)))) (leR_cl (hp _ (.head _)))).aloneR rfl (fun i hi j hj => flat_I hj)
  · cases e
noncomputable def S11c := sumOf 11 g11c S10c
theorem S11c_ok : SumsOK Try.prog S11c := s11c
noncomputable def g13c : List MV → Option (List Prop × MV × List Blk × Bool)
  | [.ro 4 nn get] => some ([isBx nn get, nn ≤ room], .tup [.os 0 1 0 (cutL nn (fL (okB (cl nn (bOf get))) nn)).length, .i .i64 (eN nn)], [.rows 1 (cutL nn (fL (okB (cl nn (bOf get))) nn)).length (rowI (orV (cl nn (bOf get)) nn))], false)
  | _ => none
theorem s13c : SumsOK Try.prog (sumOf 13 g13c S11c) := by
  refine SumsOK.add S11c_ok fun ms ps m blks al e hp => ?_
  unfold g13c at e
  split at e
  · cases e
    exact (le_arg1 (t13 _ (cl _ (bOf _)) (hp _ (.tail _ (.head _)))) (leR_cl (hp _ (.head _)))).aloneR rfl (fun i hi j hj => flat_I hj)
  · cases e
noncomputable def S13c := sumOf 13 g13c S11c
theorem S13c_ok : SumsOK Try.prog S13c := s13c
noncomputable def g12c : List MV → Option (List Prop × MV × List Blk × Bool)
  | [.ro 4 nn get] => some ([isBx nn get, nn ≤ room], .tup [.os 0 1 0 (cutL nn (fL (okB (cl nn (bOf get))) nn)).length, .i .i64 (eN nn)], [.rows 1 (cutL nn (fL (okB (cl nn (bOf get))) nn)).length (rowI (refV (cl nn (bOf get)) nn))], false)
  | _ => none
theorem s12c : SumsOK Try.prog (sumOf 12 g12c S13c) := by
  refine SumsOK.add S13c_ok fun ms ps m blks al e hp => ?_
  unfold g12c at e
  split at e
  · cases e
    exact (le_arg1 (t12 _ (cl _ (bOf _)) (hp _ (.tail _ (.head _)))) (leR_cl (hp _ (.head _)))).aloneR rfl (fun i hi j hj => flat_I hj)
  · cases e
noncomputable def S12c := sumOf 12 g12c S13c
theorem S12c_ok : SumsOK Try.prog S12c := s12c
noncomputable def fi3 : FnI := ⟨109, Try.f3.body.getD .skip, [.tmp 4], true⟩
theorem fi3_ok : fnGen Try.prog 3 = some fi3 := by kernel_rfl
theorem zHS12c_N {cx : Cx} : CallH (genQ Try.prog exts eqs [] S12c).P cx (hnd (genQ Try.prog exts eqs [] S12c) cx 6) := hnd_sound (genQ_full extsOK eqsOK S12c_ok) 6
theorem zES12c_N : EnvAll (genQ Try.prog exts eqs [] S12c) := (genQ_full extsOK eqsOK S12c_ok).toEnvAll
theorem t3 (nn : Nat) (p : Nat → Bx) (b : Bx) (c0 : nn ≤ room) : CM Try.prog 3 [.ro 4 nn (fun j => bM (p j)), .agg (bM b)] (.b true) [] true := by
  refine CM.of_code zES12c_N (fnGen_ok fi3_ok) rfl fun w0 okA => ?_
  refine evC_sound (genQ_full extsOK eqsOK S12c_ok).toEnvAll (hndU_sound U30_k zHS12c_N) ?_
  have c0' : nn ≤ 4398046511103 := c0
  have hl1 := cut_len (fL_len (okB (cl nn p)) nn)
  have hl2 := cut_len (fL_len (wP (cl nn p) b) nn)
  have hl3 := cut_len (fL_len (wR (cl nn p) b) nn)
  repeat' ((fail_if_success (with_reducible refine Side.mk ?_)); first | (refine Rest.mk (drawR_sound zES12c_N mixOK (hndU_sound U30_k zHS12c_N) ?_)) | ((fail_if_success (with_reducible refine Rest.mk ?_)); first | (with_reducible exact True.intro) | (with_reducible refine Need.mk ?_ ?_) | (with_reducible refine And.intro ?_ ?_) | (with_reducible intro hcl; try (exfalso; ((simp at hcl; done)); done)) | ((fail_if_success (with_reducible refine FinS.mk ?_)); (fail_if_success (with_reducible refine Le.mk ?_)); (conv => whnf)) | (refine FinS.b ?_) | (refine FinS.lb ?_) | (refine FinS.i ?_) | (refine FinS.f ?_) | (refine FinS.agg ?_) | (refine FinS.tup ?_)))
  all_goals (try (refine Side.mk ?_; (try simp only [Int.toNat_natCast, Nat.zero_add, bOf_b, cl_lent, Option.getD_none, Option.getD_some] at *); first | (with_reducible rfl) | trivial | omega | rfl | exact fun _ _ => trivial | exact ⟨rfl, rfl⟩ | exact ⟨rfl, fun _ _ => rfl⟩ | exact ⟨rfl, rfl, fun _ _ => rfl⟩ | (exact ⟨isBx_b _ _, c0⟩) | (exact ⟨isBx_b _ _, c0, by omega⟩) | (exact ⟨by omega, by omega, by omega, by omega⟩) | (exact ⟨fun _ _ => rfl, fun _ _ => rfl, with_len (cl nn p) _ nn, (by show (cutL nn (fL (wP (cl nn p) b) nn)).length ≤ 1099511627776; omega), fun k hk => with_get (cl nn p) _ nn k, Nat.le_refl _, Nat.le_refl _⟩) | (exact fun _ => ⟨fun _ _ => rfl, fun _ _ => rfl, with_len (cl nn p) _ nn, (by show (cutL nn (fL (wP (cl nn p) b) nn)).length ≤ 1099511627776; omega), fun k hk => with_get (cl nn p) _ nn k, Nat.le_refl _, Nat.le_refl _⟩) | (exact ⟨fun _ _ => rfl, fun _ _ => rfl, trivial, (by unfold lim; omega), fun k hk => cut_order hk, Nat.le_refl _, Nat.le_refl _⟩) | (exact fun _ => ⟨fun _ _ => rfl, fun _ _ => rfl, trivial, (by unfold lim; omega), fun k hk => cut_order hk, Nat.le_refl _, Nat.le_refl _⟩) | (exact ⟨fun _ _ => rfl, fun _ _ => rfl, (by unfold lim; omega), fun k hk => cut_order hk⟩) | (exact fun _ => ⟨fun _ _ => rfl, fun _ _ => rfl, (by unfold lim; omega), fun k hk => cut_order hk⟩) | (exact ⟨fun _ _ => rfl, fun _ _ => rfl, (by unfold lim; omega), fun k hk => cut_order hk, Nat.le_refl _, Nat.le_refl _⟩) | (exact fun _ => ⟨fun _ _ => rfl, fun _ _ => rfl, (by unfold lim; omega), fun k hk => cut_order hk, Nat.le_refl _, Nat.le_refl _⟩) | (exact ⟨isBx_b _ _, isBx_b _ _, trivial, c0, fun k hk => lent_lo hk, lent_0, Nat.le_refl _⟩) | (exact fun _ => ⟨isBx_b _ _, isBx_b _ _, trivial, c0, fun k hk => lent_lo hk, lent_0, Nat.le_refl _⟩)))
  refine loop_ruleD zES12c_N (hndU_sound U30_k zHS12c_N) (γ := Nat) (fun k => ⟨[(10, .os 4 1 0 (cutL nn (fL (okB (cl nn p)) nn)).length), (12, .os 5 1 0 (cutL nn (fL (okB (cl nn p)) nn)).length), (14, .os 6 1 0 (cutL nn (fL (okB (cl nn p)) nn)).length), (16, .i .i64 (k : Int))], [], [(4, .rows 1 (cutL nn (fL (okB (cl nn p)) nn)).length (rowI (refV (cl nn p) nn))), (5, .rows 1 (cutL nn (fL (okB (cl nn p)) nn)).length (fun _ => [.und])), (6, .rows 1 (cutL nn (fL (okB (cl nn p)) nn)).length (rowI (orV (cl nn p) nn)))], 7⟩) (fun k => k ≤ (cutL nn (fL (okB (cl nn p)) nn)).length) Nat.succ (fun k => (cutL nn (fL (okB (cl nn p)) nn)).length - k) (0) (Le.of ?_) ?_ ?_
  · conv => whnf
    repeat' ((fail_if_success (with_reducible refine Side.mk ?_)); first | (refine Rest.mk (drawR_sound zES12c_N mixOK (hndU_sound U30_k zHS12c_N) ?_)) | ((fail_if_success (with_reducible refine Rest.mk ?_)); first | (with_reducible exact True.intro) | (with_reducible refine Need.mk ?_ ?_) | (with_reducible refine And.intro ?_ ?_) | (with_reducible intro _) | ((fail_if_success (with_reducible refine FinS.mk ?_)); (fail_if_success (with_reducible refine Le.mk ?_)); (conv => whnf)) | (refine FinS.b ?_) | (refine FinS.lb ?_) | (refine FinS.i ?_) | (refine FinS.f ?_) | (refine FinS.agg ?_) | (refine FinS.tup ?_)))
    all_goals (try (refine Le.of ?_; (conv => whnf)))
    repeat' ((fail_if_success (with_reducible refine Side.mk ?_)); first | (refine Rest.mk (drawR_sound zES12c_N mixOK (hndU_sound U30_k zHS12c_N) ?_)) | ((fail_if_success (with_reducible refine Rest.mk ?_)); first | (with_reducible exact True.intro) | (with_reducible refine Need.mk ?_ ?_) | (with_reducible refine And.intro ?_ ?_) | (with_reducible intro _) | ((fail_if_success (with_reducible refine FinS.mk ?_)); (fail_if_success (with_reducible refine Le.mk ?_)); (conv => whnf)) | (refine FinS.b ?_) | (refine FinS.lb ?_) | (refine FinS.i ?_) | (refine FinS.f ?_) | (refine FinS.agg ?_) | (refine FinS.tup ?_)))
    all_goals (try refine Side.mk ?_)
    all_goals (try simp only [Int.toNat_natCast, Nat.zero_add, bOf_b, cl_lent, Option.getD_none, Option.getD_some] at *)
    all_goals (try simp only [eq_self, decide_eq_true_eq, decide_eq_false_iff_not, Int.ofNat_lt, Int.ofNat_le, gt_iff_lt, ge_iff_le, true_and, Bool.not_eq_true', Bool.not_eq_false'] at *)
    all_goals first | (with_reducible rfl) | trivial | omega | rfl | exact fun _ _ => trivial | exact ⟨rfl, rfl⟩ | exact ⟨rfl, fun _ _ => rfl⟩ | exact ⟨rfl, rfl, fun _ _ => rfl⟩ | (exact fun _ _ _ _ => .inr trivial) | (exact ⟨trivial, fun _ _ _ _ => .inr trivial⟩) | (exact ⟨rfl, rfl, fun _ _ _ _ => .inr trivial⟩) | (exact fun i hi j hj => .inr rfl) | (exact ⟨rfl, rfl, fun i hi j hj => .inr rfl⟩) | (exact ⟨trivial, fun i hi j hj => .inr rfl⟩) | (exact fun _ _ _ _ => .inl trivial) | (exact fun _ _ _ _ => .inl rfl) | (exact ⟨rfl, fun _ _ _ _ => .inl rfl⟩) | (exact ⟨rfl, fun i hi j hj => .inl (by obtain rfl : j = 0 := (by omega); rfl)⟩) | (exact ⟨rfl, rfl, fun i hi j hj => .inl (by obtain rfl : j = 0 := (by omega); rfl)⟩) | (exact fun i hi j hj => .inl (by obtain rfl : j = 0 := (by omega); rfl))
  · omega
  · intro k hk
    have w1 : IntKind.i64.wrap ((k : Int) + 1) = ((k + 1 : Nat) : Int) := wadd1 (by omega)
    repeat' ((fail_if_success (with_reducible refine Side.mk ?_)); first | (refine Rest.mk (drawR_sound zES12c_N mixOK (hndU_sound U30_k zHS12c_N) ?_)) | ((fail_if_success (with_reducible refine Rest.mk ?_)); first | (with_reducible exact True.intro) | (with_reducible refine Need.mk ?_ ?_) | (with_reducible refine And.intro ?_ ?_) | (with_reducible intro _) | ((fail_if_success (with_reducible refine FinS.mk ?_)); (fail_if_success (with_reducible refine Le.mk ?_)); (conv => whnf)) | (refine FinS.b ?_) | (refine FinS.lb ?_) | (refine FinS.i ?_) | (refine FinS.f ?_) | (refine FinS.agg ?_) | (refine FinS.tup ?_)))
    all_goals (try (refine Le.of ?_; (conv => whnf)))
    repeat' ((fail_if_success (with_reducible refine Side.mk ?_)); first | (refine Rest.mk (drawR_sound zES12c_N mixOK (hndU_sound U30_k zHS12c_N) ?_)) | ((fail_if_success (with_reducible refine Rest.mk ?_)); first | (with_reducible exact True.intro) | (with_reducible refine Need.mk ?_ ?_) | (with_reducible refine And.intro ?_ ?_) | (with_reducible intro _) | ((fail_if_success (with_reducible refine FinS.mk ?_)); (fail_if_success (with_reducible refine Le.mk ?_)); (conv => whnf)) | (refine FinS.b ?_) | (refine FinS.lb ?_) | (refine FinS.i ?_) | (refine FinS.f ?_) | (refine FinS.agg ?_) | (refine FinS.tup ?_)))
    all_goals (try refine Side.mk ?_)
    all_goals (try simp only [Int.toNat_natCast, Nat.zero_add, bOf_b, cl_lent, Option.getD_none, Option.getD_some, w1, Nat.succ_eq_add_one] at *)
    all_goals (try simp only [eq_self, decide_eq_true_eq, decide_eq_false_iff_not, Int.ofNat_lt, Int.ofNat_le, gt_iff_lt, ge_iff_le, true_and, Bool.not_eq_true', Bool.not_eq_false'] at *)
    all_goals first | (with_reducible rfl) | trivial | omega | rfl | exact fun _ _ => trivial | exact ⟨rfl, rfl⟩ | exact ⟨rfl, fun _ _ => rfl⟩ | exact ⟨rfl, rfl, fun _ _ => rfl⟩ | (exact ⟨isBx_b _ _, c0⟩) | (exact ⟨isBx_b _ _, c0, by omega⟩) | (exact ⟨by omega, by omega, by omega, by omega⟩) | (exact ⟨fun _ _ => rfl, fun _ _ => rfl, with_len (cl nn p) _ nn, (by show (cutL nn (fL (wP (cl nn p) b) nn)).length ≤ 1099511627776; omega), fun k hk => with_get (cl nn p) _ nn k, Nat.le_refl _, Nat.le_refl _⟩) | (exact fun _ => ⟨fun _ _ => rfl, fun _ _ => rfl, with_len (cl nn p) _ nn, (by show (cutL nn (fL (wP (cl nn p) b) nn)).length ≤ 1099511627776; omega), fun k hk => with_get (cl nn p) _ nn k, Nat.le_refl _, Nat.le_refl _⟩) | (exact ⟨fun _ _ => rfl, fun _ _ => rfl, trivial, (by unfold lim; omega), fun k hk => cut_order hk, Nat.le_refl _, Nat.le_refl _⟩) | (exact fun _ => ⟨fun _ _ => rfl, fun _ _ => rfl, trivial, (by unfold lim; omega), fun k hk => cut_order hk, Nat.le_refl _, Nat.le_refl _⟩) | (exact ⟨fun _ _ => rfl, fun _ _ => rfl, (by unfold lim; omega), fun k hk => cut_order hk⟩) | (exact fun _ => ⟨fun _ _ => rfl, fun _ _ => rfl, (by unfold lim; omega), fun k hk => cut_order hk⟩) | (exact ⟨fun _ _ => rfl, fun _ _ => rfl, (by unfold lim; omega), fun k hk => cut_order hk, Nat.le_refl _, Nat.le_refl _⟩) | (exact fun _ => ⟨fun _ _ => rfl, fun _ _ => rfl, (by unfold lim; omega), fun k hk => cut_order hk, Nat.le_refl _, Nat.le_refl _⟩) | (exact ⟨isBx_b _ _, isBx_b _ _, trivial, c0, fun k hk => lent_lo hk, lent_0, Nat.le_refl _⟩) | (exact fun _ => ⟨isBx_b _ _, isBx_b _ _, trivial, c0, fun k hk => lent_lo hk, lent_0, Nat.le_refl _⟩) | ((rw [wadd1 (by omega)]; simp; done)) | (exact ⟨by omega, by omega⟩) | (exact ⟨⟨by omega, by omega⟩⟩) | (exact ⟨by omega, by omega, by show ((cutL nn (fL (okB (cl nn p)) nn)).length + 1) * 8 ≤ _; omega, by omega⟩) | (exact fun i hi j hj => .inl (by obtain rfl : j = 0 := (by omega); rfl)) | (exact fun _ _ _ _ => .inr trivial) | (exact ⟨trivial, fun _ _ _ _ => .inr trivial⟩) | (exact ⟨rfl, rfl, fun _ _ _ _ => .inr trivial⟩) | (exact fun i hi j hj => .inr rfl) | (exact ⟨rfl, rfl, fun i hi j hj => .inr rfl⟩) | (exact ⟨trivial, fun i hi j hj => .inr rfl⟩)
end Go.Ev.Sweep
