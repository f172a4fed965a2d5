/-
  The walk of ClipWithin, its second half: the polygon; under the facts WOk of what is left.
-/
import Derived.Test.YtbehddngdjfkhaaClipXb
set_option linter.unusedSimpArgs false
set_option linter.unusedVariables false
open Go Go.Proofs
namespace Go.Ev.Clip
set_option maxRecDepth 100000
set_option maxHeartbeats 1000000
noncomputable def g24Xe : List MV → Option (List Prop × MV × List Blk × Bool)
  | [.agg [.f .f64 nx, .f .f64 ny, .f .f64 pf], .ro 2 n get] => some ([isPts n get, n < big, chk nx ny pf = true, (checkV n (pOf get) != 0) = true], .tup [.nils, .i .i64 (checkV n (pOf get))], [], true)
  | _ => none
theorem s24Xe : SumsOK Try.prog (sumOf 24 g24Xe S21X) := by
  refine SumsOK.add S21X_ok fun ms ps m blks al e hp => ?_
  unfold g24Xe at e
  split at e
  · cases e
    exact le_arg2 (t24e _ _ _ _ (pOf _) (hp _ (by simp)) (hp _ (by simp)) (hp _ (by simp))) (leR_pts (hp _ (.head _)))
  · cases e
noncomputable def S24Xe := sumOf 24 g24Xe S21X
theorem S24Xe_ok : SumsOK Try.prog S24Xe := s24Xe
theorem zHS24Xe_X3 {cx : Cx} : CallH (genQ Try.prog exts eqs [] S24Xe).P cx (hnd (genQ Try.prog exts eqs [] S24Xe) cx 6) := hnd_sound (genQ_full extsOK eqsOK S24Xe_ok) 6
theorem zES24Xe_X3 : EnvAll (genQ Try.prog exts eqs [] S24Xe) := (genQ_full extsOK eqsOK S24Xe_ok).toEnvAll
theorem q5_9e (nx ny pf : Nat) (n : Nat) (p : Nat → Nat × Nat) (h : chk nx ny pf = true) (hb : n < big) (hc : (checkV n p != 0) = true) (cx : Cx) : CodeOK Try.prog cx fi5.n (dropS 9 fi5.body) ⟨[(1, .ro 2 n (fun j => ptM (p j))), (4, .p 0 0), (9, .b true)], [], [(0, .cells [.f .f64 nx, .f .f64 ny, .f .f64 pf])], 1⟩ (finK (genQ Try.prog exts eqs [] S21X) fi5.res (.b true) []) := by
  refine evC_sound zES24Xe_X3 zHS24Xe_X3 ?_
  repeat' ((fail_if_success (with_reducible refine Side.mk ?_)); first | (refine Rest.mk (drawR_sound zES24Xe_X3 mixOK zHS24Xe_X3 ?_)) | ((fail_if_success (with_reducible refine Rest.mk ?_)); first | (with_reducible exact True.intro) | (with_reducible refine Need.mk ?_ ?_) | (with_reducible refine And.intro ?_ ?_) | (with_reducible intro hcl; try (exfalso; rw [pOf_pt, hc] at hcl; exact absurd hcl (by decide); done)) | ((fail_if_success (with_reducible refine FinS.mk ?_)); (fail_if_success (with_reducible refine Le.mk ?_)); (conv => whnf)) | (refine FinS.b ?_) | (refine FinS.lb ?_) | (refine FinS.i ?_) | (refine FinS.f ?_) | (refine FinS.agg ?_) | (refine FinS.tup ?_)))
  all_goals (try (refine Le.of ?_; (conv => whnf)))
  repeat' ((fail_if_success (with_reducible refine Side.mk ?_)); first | (refine Rest.mk (drawR_sound zES24Xe_X3 mixOK zHS24Xe_X3 ?_)) | ((fail_if_success (with_reducible refine Rest.mk ?_)); first | (with_reducible exact True.intro) | (with_reducible refine Need.mk ?_ ?_) | (with_reducible refine And.intro ?_ ?_) | (with_reducible intro hcl; try (exfalso; rw [pOf_pt, hc] at hcl; exact absurd hcl (by decide); done)) | ((fail_if_success (with_reducible refine FinS.mk ?_)); (fail_if_success (with_reducible refine Le.mk ?_)); (conv => whnf)) | (refine FinS.b ?_) | (refine FinS.lb ?_) | (refine FinS.i ?_) | (refine FinS.f ?_) | (refine FinS.agg ?_) | (refine FinS.tup ?_)))
  all_goals (try refine Side.mk ?_)
  all_goals (try simp only [pOf_pt, eq_self, decide_eq_true_eq, decide_eq_false_iff_not, Int.ofNat_lt, Int.ofNat_le, gt_iff_lt, ge_iff_le, true_and, Bool.not_eq_true', Bool.not_eq_false', Int.toNat_natCast, Nat.zero_add] at *)
  all_goals first | (with_reducible rfl) | (with_reducible trivial) | (with_reducible assumption) | omega | exact ⟨rfl, rfl⟩ | exact ⟨rfl, fun _ _ => rfl⟩ | exact ⟨rfl, rfl, fun _ _ => rfl⟩ | exact ⟨by omega, trivial⟩ | exact fun _ _ => trivial | exact i64_id (by omega) (by omega) | exact fun _ _ _ _ => .inr rfl | exact ⟨rfl, fun _ _ _ _ => .inr rfl⟩ | (exact ⟨isPts_pt _ _, hb, h, hc⟩) | (exact fun _ => ⟨by decide, by decide⟩) | (exact ⟨by decide, by decide⟩) | (exact fun _ _ => ⟨by decide, by decide⟩) | ((intro i hi j hj; rcases i with _ | _ | i <;> rcases j with _ | _ | j <;> first | exact .inr rfl | (exfalso; omega))) | (exact fun _ _ _ _ => .inr trivial)
noncomputable def g24Xk : List MV → Option (List Prop × MV × List Blk × Bool)
  | [.agg [.f .f64 nx, .f .f64 ny, .f .f64 pf], .ro 2 n get] => some ([isPts n get, n < big, chk nx ny pf = true, checkV n (pOf get) = 0], .tup [.os 0 2 0 (leV (nx, ny, pf) n (pOf get)).length, .i .i64 0], [.rows 2 (leV (nx, ny, pf) n (pOf get)).length fun k => ptM ((leV (nx, ny, pf) n (pOf get)).getD k z2)], true)
  | _ => none
theorem s24Xk : SumsOK Try.prog (sumOf 24 g24Xk S21X) := by
  refine SumsOK.add S21X_ok fun ms ps m blks al e hp => ?_
  unfold g24Xk at e
  split at e
  · cases e
    exact le_arg2 (t24k _ _ _ _ (pOf _) (hp _ (by simp)) (hp _ (by simp)) (hp _ (by simp))) (leR_pts (hp _ (.head _)))
  · cases e
noncomputable def S24Xk := sumOf 24 g24Xk S21X
theorem S24Xk_ok : SumsOK Try.prog S24Xk := s24Xk
theorem zHS21X_X3 {cx : Cx} : CallH (genQ Try.prog exts eqs [] S21X).P cx (hnd (genQ Try.prog exts eqs [] S21X) cx 6) := hnd_sound (genQ_full extsOK eqsOK S21X_ok) 6
theorem zES21X_X3 : EnvAll (genQ Try.prog exts eqs [] S21X) := (genQ_full extsOK eqsOK S21X_ok).toEnvAll
theorem q5_17 (nx ny pf : Nat) (n : Nat) (p : Nat → Nat × Nat) (h : chk nx ny pf = true) (hc : checkV n p = 0) (w : WOk nx ny pf n p (leV (nx, ny, pf) n p)) (cx : Cx) : CodeOK Try.prog cx fi5.n (dropS 17 fi5.body) ⟨[(1, .ro 2 n (fun j => ptM (p j))), (9, .b true), (19, .os 1 2 0 (leV (nx, ny, pf) n p).length), (21, .b (allV nx ny pf p n))], [], [(1, .rows 2 (leV (nx, ny, pf) n p).length fun k => ptM ((leV (nx, ny, pf) n p).getD k z2))], 2⟩ (finK (genQ Try.prog exts eqs [] S21X) fi5.res (.b true) []) := by
  have hn := w.nle
  have hb : n < big := Nat.lt_of_le_of_lt hn (by decide)
  have hl := w.len1
  have hlb : (leV (nx, ny, pf) n p).length < big := by unfold big; omega
  have hwr : IntKind.i64.wrap (2 * (n : Int)) = 2 * (n : Int) := i64_wrap (by omega) (by omega)
  refine evC_sound zES21X_X3 zHS21X_X3 ?_
  repeat' ((fail_if_success (with_reducible refine Side.mk ?_)); first | (refine Rest.mk (drawR_sound zES21X_X3 mixOK zHS21X_X3 ?_)) | ((fail_if_success (with_reducible refine Rest.mk ?_)); first | (with_reducible exact True.intro) | (with_reducible refine Need.mk ?_ ?_) | (with_reducible refine And.intro ?_ ?_) | (with_reducible intro _) | ((fail_if_success (with_reducible refine FinS.mk ?_)); (fail_if_success (with_reducible refine Le.mk ?_)); (conv => whnf)) | (refine FinS.b ?_) | (refine FinS.lb ?_) | (refine FinS.i ?_) | (refine FinS.f ?_) | (refine FinS.agg ?_) | (refine FinS.tup ?_)))
  all_goals (try (refine Le.of ?_; (conv => whnf)))
  repeat' ((fail_if_success (with_reducible refine Side.mk ?_)); first | (refine Rest.mk (drawR_sound zES21X_X3 mixOK zHS21X_X3 ?_)) | ((fail_if_success (with_reducible refine Rest.mk ?_)); first | (with_reducible exact True.intro) | (with_reducible refine Need.mk ?_ ?_) | (with_reducible refine And.intro ?_ ?_) | (with_reducible intro _) | ((fail_if_success (with_reducible refine FinS.mk ?_)); (fail_if_success (with_reducible refine Le.mk ?_)); (conv => whnf)) | (refine FinS.b ?_) | (refine FinS.lb ?_) | (refine FinS.i ?_) | (refine FinS.f ?_) | (refine FinS.agg ?_) | (refine FinS.tup ?_)))
  all_goals (try refine Side.mk ?_)
  all_goals (try simp only [pOf_pt, eq_self, decide_eq_true_eq, decide_eq_false_iff_not, Int.ofNat_lt, Int.ofNat_le, gt_iff_lt, ge_iff_le, true_and, Bool.not_eq_true', Bool.not_eq_false', Int.toNat_natCast, Nat.zero_add] at *)
  all_goals first | (with_reducible rfl) | (with_reducible trivial) | (with_reducible assumption) | omega | exact ⟨rfl, rfl⟩ | exact ⟨rfl, fun _ _ => rfl⟩ | exact ⟨rfl, rfl, fun _ _ => rfl⟩ | exact ⟨by omega, trivial⟩ | exact fun _ _ => trivial | exact i64_id (by omega) (by omega) | exact fun _ _ _ _ => .inr rfl | exact ⟨rfl, fun _ _ _ _ => .inr rfl⟩ | (exact fun _ => ⟨isPts_pt _ _, isPts_pt _ _, hlb, hb, Nat.le_refl _⟩) | (exact ⟨isPts_pt _ _, isPts_pt _ _, hlb, hb, Nat.le_refl _⟩) | (exact fun _ => ⟨isPts_pt _ _, isPts_pt _ _, hlb, hb⟩) | ((cases ha : allV nx ny pf p n <;> first | rfl | (rw [w.all ha]; rfl))) | (exact fun _ => ⟨by decide, by decide⟩) | (exact ⟨by decide, by decide⟩) | (exact fun _ _ => ⟨by decide, by decide⟩) | ((intro i hi j hj; rcases i with _ | _ | i <;> rcases j with _ | _ | j <;> first | exact .inr rfl | (exfalso; omega))) | (exact fun _ _ _ _ => .inr trivial)
theorem scan_stop {m : List (Nat × Nat)} {v : Nat × Nat} {f k K : Nat} (hK : Le.scan eqP z2 m v f k = K) (hc : (decide (k < m.length) && !eqP (m.getD k z2) v) = false) : k = K := by
  cases f with
  | zero => exact hK
  | succ f =>
    have : Le.scan eqP z2 m v (f + 1) k = bif decide (k < m.length) && !eqP (m.getD k z2) v then Le.scan eqP z2 m v f (k + 1) else k := rfl
    rw [hc] at this
    exact this.symm.trans hK
theorem scan_go {m : List (Nat × Nat)} {v : Nat × Nat} {f k K : Nat} (hK : Le.scan eqP z2 m v (f + 1) k = K) (hc : (decide (k < m.length) && !eqP (m.getD k z2) v) = true) : Le.scan eqP z2 m v f (k + 1) = K := by
  have : Le.scan eqP z2 m v (f + 1) k = bif decide (k < m.length) && !eqP (m.getD k z2) v then Le.scan eqP z2 m v f (k + 1) else k := rfl
  rw [hc] at this
  exact this.symm.trans hK
theorem all_up {nx ny pf i : Nat} {p : Nat → Nat × Nat} : (allV nx ny pf p i && fle .f64 (farV nx ny pf (p i).1 (p i).2) 0) = allV nx ny pf p (i + 1) := rfl
theorem k_t {nx ny pf i : Nat} {p : Nat → Nat × Nat} {m : List (Nat × Nat)} (h : (fle .f64 (farV nx ny pf (p i).1 (p i).2) 0 && decide (0 < (m.length : Int))) = true) : kV nx ny pf p m (i + 1) = Le.scan eqP z2 m (p i) (m.length + 1) (kV nx ny pf p m i) := by
  show (bif _ then _ else _) = _
  rw [h]; rfl
theorem k_f {nx ny pf i : Nat} {p : Nat → Nat × Nat} {m : List (Nat × Nat)} (h : (fle .f64 (farV nx ny pf (p i).1 (p i).2) 0 && decide (0 < (m.length : Int))) = false) : kV nx ny pf p m (i + 1) = kV nx ny pf p m i := by
  show (bif _ then _ else _) = _
  rw [h]; rfl
theorem in_step {m : List (Nat × Nat)} {v : Nat × Nat} {k j K : Nat} (hp1 : k + j ≤ m.length) (hp2 : Le.scan eqP z2 m v (m.length + 1 - j) (k + j) = K) (hc : (decide (k + j < m.length) && !eqP (m.getD (k + j) z2) v) = true) :
    j < m.length + 1 ∧ k + (j + 1) ≤ m.length ∧ Le.scan eqP z2 m v (m.length + 1 - (j + 1)) (k + (j + 1)) = K := by
  have h1 := hc
  rw [Bool.and_eq_true, decide_eq_true_eq] at h1
  refine ⟨by omega, by omega, ?_⟩
  rw [show m.length + 1 - j = m.length + 1 - (j + 1) + 1 by omega] at hp2
  exact scan_go hp2 hc
theorem in_stop {m : List (Nat × Nat)} {v : Nat × Nat} {k j K : Nat} (hp2 : Le.scan eqP z2 m v (m.length + 1 - j) (k + j) = K) (hc : (decide (k + j < m.length) && !eqP (m.getD (k + j) z2) v) = false) : k + j = K := scan_stop hp2 hc
theorem in_bad {m : List (Nat × Nat)} {v : Nat × Nat} {k j K K' : Nat} (hK : K = K') (hw : K' = m.length → eqP (m.getD 0 z2) v = true) (hp2 : Le.scan eqP z2 m v (m.length + 1 - j) (k + j) = K) (hc : (decide (k + j < m.length) && !eqP (m.getD (k + j) z2) v) = false)
    (hb : (((k + j : Nat) : Int) == (m.length : Int) && !eqP (m.getD 0 z2) v) = true) : False := by
  have h1 := scan_stop hp2 hc
  rw [Bool.and_eq_true, beq_iff_eq] at hb
  rw [hw (by omega)] at hb
  exact absurd hb.2 (by decide)
theorem all_0 {nx ny pf : Nat} {p : Nat → Nat × Nat} : true = allV nx ny pf p 0 := rfl
theorem k_0 {nx ny pf : Nat} {p : Nat → Nat × Nat} {m : List (Nat × Nat)} : (0 : Int) = ((kV nx ny pf p m 0 : Nat) : Int) := rfl
theorem all_n {nx ny pf i n : Nat} {p : Nat → Nat × Nat} (h1 : ¬ i < n) (h2 : i ≤ n) : allV nx ny pf p i = allV nx ny pf p n := by
  rw [show i = n by omega]
theorem q5_14 (nx ny pf : Nat) (n : Nat) (p : Nat → Nat × Nat) (h : chk nx ny pf = true) (hc : checkV n p = 0) (w : WOk nx ny pf n p (leV (nx, ny, pf) n p)) (cx : Cx) : CodeOK Try.prog cx fi5.n (dropS 14 fi5.body) ⟨[(1, .ro 2 n (fun j => ptM (p j))), (4, .p 0 0), (9, .b true), (19, .os 1 2 0 (leV (nx, ny, pf) n p).length)], [], [(0, .cells [.f .f64 nx, .f .f64 ny, .f .f64 pf]), (1, .rows 2 (leV (nx, ny, pf) n p).length fun k => ptM ((leV (nx, ny, pf) n p).getD k z2))], 2⟩ (finK (genQ Try.prog exts eqs [] S21X) fi5.res (.b true) []) := by
  have hn := w.nle
  have hb : n < big := Nat.lt_of_le_of_lt hn (by decide)
  have hl := w.len1
  have hlb : (leV (nx, ny, pf) n p).length < big := by unfold big; omega
  have hwr : IntKind.i64.wrap (2 * (n : Int)) = 2 * (n : Int) := i64_wrap (by omega) (by omega)
  refine CodeOK.cut zES21X_X3 zHS21X_X3 3 (c := dropS 14 fi5.body) (by kernel_rfl) ?_ (q5_17 nx ny pf n p h hc w cx)
  repeat' ((fail_if_success (with_reducible refine Side.mk ?_)); first | (refine Rest.mk (drawR_sound zES21X_X3 mixOK zHS21X_X3 ?_)) | ((fail_if_success (with_reducible refine Rest.mk ?_)); first | (with_reducible exact True.intro) | (with_reducible refine Need.mk ?_ ?_) | (with_reducible refine And.intro ?_ ?_) | (with_reducible intro _) | ((fail_if_success (with_reducible refine FinS.mk ?_)); (fail_if_success (with_reducible refine Le.mk ?_)); (conv => whnf)) | (refine FinS.b ?_) | (refine FinS.lb ?_) | (refine FinS.i ?_) | (refine FinS.f ?_) | (refine FinS.agg ?_) | (refine FinS.tup ?_)))
  refine loop_ruleC zES21X_X3 zHS21X_X3 (fun i => ⟨[(1, .ro 2 n (fun j => ptM (p j))), (4, .p 0 0), (9, .b true), (19, .os 1 2 0 (leV (nx, ny, pf) n p).length), (21, .b (allV nx ny pf p i)), (22, .i .i64 ((kV nx ny pf p (leV (nx, ny, pf) n p) i : Nat) : Int)), (23, .i .i64 ((i : Nat) : Int))], [], [(0, .cells [.f .f64 nx, .f .f64 ny, .f .f64 pf]), (1, .rows 2 (leV (nx, ny, pf) n p).length fun k => ptM ((leV (nx, ny, pf) n p).getD k z2))], 2⟩) (fun i => True) n (Le.of ?_) ?_ ?_
  · conv => whnf
    repeat' ((fail_if_success (with_reducible refine Side.mk ?_)); first | (refine Rest.mk (drawR_sound zES21X_X3 mixOK zHS21X_X3 ?_)) | ((fail_if_success (with_reducible refine Rest.mk ?_)); first | (with_reducible exact True.intro) | (with_reducible refine Need.mk ?_ ?_) | (with_reducible refine And.intro ?_ ?_) | (with_reducible intro _) | ((fail_if_success (with_reducible refine FinS.mk ?_)); (fail_if_success (with_reducible refine Le.mk ?_)); (conv => whnf)) | (refine FinS.b ?_) | (refine FinS.lb ?_) | (refine FinS.i ?_) | (refine FinS.f ?_) | (refine FinS.agg ?_) | (refine FinS.tup ?_)))
    all_goals (try refine Side.mk ?_)
    all_goals (try simp only [pOf_pt, eq_self, decide_eq_true_eq, decide_eq_false_iff_not, Int.ofNat_lt, Int.ofNat_le, gt_iff_lt, ge_iff_le, true_and, Bool.not_eq_true', Bool.not_eq_false', Int.toNat_natCast, Nat.zero_add] at *)
    all_goals first | (with_reducible rfl) | (with_reducible trivial) | (with_reducible assumption) | omega | exact ⟨rfl, rfl⟩ | exact ⟨rfl, fun _ _ => rfl⟩ | exact ⟨rfl, rfl, fun _ _ => rfl⟩ | exact ⟨by omega, trivial⟩ | exact fun _ _ => trivial | exact i64_id (by omega) (by omega) | exact fun _ _ _ _ => .inr rfl | exact ⟨rfl, fun _ _ _ _ => .inr rfl⟩ | (exact fun _ => ⟨by decide, by decide⟩) | (exact ⟨by decide, by decide⟩) | (exact fun _ _ => ⟨by decide, by decide⟩) | ((intro i hi j hj; rcases i with _ | _ | i <;> rcases j with _ | _ | j <;> first | exact .inr rfl | (exfalso; omega))) | (exact fun _ _ _ _ => .inr trivial) | (with_reducible exact all_0) | (with_reducible exact k_0)
  · trivial
  · intro i hi _
    repeat' ((fail_if_success (with_reducible refine Side.mk ?_)); first | (refine Rest.mk (drawR_sound zES21X_X3 mixOK zHS21X_X3 ?_)) | ((fail_if_success (with_reducible refine Rest.mk ?_)); first | (with_reducible exact True.intro) | (with_reducible refine Need.mk ?_ ?_) | (with_reducible refine And.intro ?_ ?_) | (with_reducible intro _) | ((fail_if_success (with_reducible refine FinS.mk ?_)); (fail_if_success (with_reducible refine Le.mk ?_)); (conv => whnf)) | (refine FinS.b ?_) | (refine FinS.lb ?_) | (refine FinS.i ?_) | (refine FinS.f ?_) | (refine FinS.agg ?_) | (refine FinS.tup ?_)))
    all_goals (try (refine Le.of ?_; (conv => whnf)))
    repeat' ((fail_if_success (with_reducible refine Side.mk ?_)); first | (refine Rest.mk (drawR_sound zES21X_X3 mixOK zHS21X_X3 ?_)) | ((fail_if_success (with_reducible refine Rest.mk ?_)); first | (with_reducible exact True.intro) | (with_reducible refine Need.mk ?_ ?_) | (with_reducible refine And.intro ?_ ?_) | (with_reducible intro _) | ((fail_if_success (with_reducible refine FinS.mk ?_)); (fail_if_success (with_reducible refine Le.mk ?_)); (conv => whnf)) | (refine FinS.b ?_) | (refine FinS.lb ?_) | (refine FinS.i ?_) | (refine FinS.f ?_) | (refine FinS.agg ?_) | (refine FinS.tup ?_)))
    all_goals (try refine Side.mk ?_)
    all_goals (try simp only [pOf_pt, eq_self, decide_eq_true_eq, decide_eq_false_iff_not, Int.ofNat_lt, Int.ofNat_le, gt_iff_lt, ge_iff_le, true_and, Bool.not_eq_true', Bool.not_eq_false', Int.toNat_natCast, Nat.zero_add] at *)
    all_goals first | (with_reducible rfl) | (with_reducible trivial) | (with_reducible assumption) | omega | exact fun _ _ => trivial | exact fun _ _ _ _ => .inr trivial | exact ⟨by omega, by omega⟩ | exact ⟨by omega, trivial⟩ | exact i64_id (by omega) (by omega) | (with_reducible exact all_0) | (with_reducible exact k_0) | (with_reducible exact all_up) | (with_reducible exact all_n ‹_› ‹_›) | (rename_i hx _; exact congrArg Nat.cast (k_f hx).symm) | (exfalso; rename_i hx hy; rw [w.ask _ hy] at hx; exact absurd hx (by decide)) | skip
    rename_i hfar hin
    have hK := k_t hfar
    have hkl := w.kle i hi
    have hkl1 := w.kle (i + 1) hin
    have hml : (decide (0 < ((leV (nx, ny, pf) n p).length : Int))) = true := by rw [Bool.and_eq_true] at hfar; exact hfar.2
    have hml := of_decide_eq_true hml
    refine loop_ruleC zES21X_X3 zHS21X_X3 (fun j => ⟨[(1, .ro 2 n (fun j => ptM (p j))), (4, .p 0 0), (9, .b true), (19, .os 1 2 0 (leV (nx, ny, pf) n p).length), (21, .b (allV nx ny pf p (i + 1))), (22, .i .i64 ((kV nx ny pf p (leV (nx, ny, pf) n p) i + j : Nat) : Int)), (23, .i .i64 ((i : Nat) : Int))], [], [(0, .cells [.f .f64 nx, .f .f64 ny, .f .f64 pf]), (1, .rows 2 (leV (nx, ny, pf) n p).length fun k => ptM ((leV (nx, ny, pf) n p).getD k z2))], 2⟩) (fun j => kV nx ny pf p (leV (nx, ny, pf) n p) i + j ≤ (leV (nx, ny, pf) n p).length ∧ Le.scan eqP z2 (leV (nx, ny, pf) n p) (p i) ((leV (nx, ny, pf) n p).length + 1 - j) (kV nx ny pf p (leV (nx, ny, pf) n p) i + j) = kV nx ny pf p (leV (nx, ny, pf) n p) (i + 1)) ((leV (nx, ny, pf) n p).length + 1) (Le.of ?_) ?_ ?_
    · conv => whnf
      repeat' ((fail_if_success (with_reducible refine Side.mk ?_)); first | (refine Rest.mk (drawR_sound zES21X_X3 mixOK zHS21X_X3 ?_)) | ((fail_if_success (with_reducible refine Rest.mk ?_)); first | (with_reducible exact True.intro) | (with_reducible refine Need.mk ?_ ?_) | (with_reducible refine And.intro ?_ ?_) | (with_reducible intro _) | ((fail_if_success (with_reducible refine FinS.mk ?_)); (fail_if_success (with_reducible refine Le.mk ?_)); (conv => whnf)) | (refine FinS.b ?_) | (refine FinS.lb ?_) | (refine FinS.i ?_) | (refine FinS.f ?_) | (refine FinS.agg ?_) | (refine FinS.tup ?_)))
      all_goals (try refine Side.mk ?_)
      all_goals (try simp only [pOf_pt, eq_self, decide_eq_true_eq, decide_eq_false_iff_not, Int.ofNat_lt, Int.ofNat_le, gt_iff_lt, ge_iff_le, true_and, Bool.not_eq_true', Bool.not_eq_false', Int.toNat_natCast, Nat.zero_add] at *)
      all_goals first | (with_reducible rfl) | (with_reducible trivial) | (with_reducible assumption) | omega | exact ⟨rfl, rfl⟩ | exact ⟨rfl, fun _ _ => rfl⟩ | exact ⟨rfl, rfl, fun _ _ => rfl⟩ | exact ⟨by omega, trivial⟩ | exact fun _ _ => trivial | exact i64_id (by omega) (by omega) | exact fun _ _ _ _ => .inr rfl | exact ⟨rfl, fun _ _ _ _ => .inr rfl⟩ | (exact fun _ => ⟨by decide, by decide⟩) | (exact ⟨by decide, by decide⟩) | (exact fun _ _ => ⟨by decide, by decide⟩) | ((intro i hi j hj; rcases i with _ | _ | i <;> rcases j with _ | _ | j <;> first | exact .inr rfl | (exfalso; omega))) | (exact fun _ _ _ _ => .inr trivial) | (with_reducible exact all_up)
    · exact ⟨hkl, hK.symm⟩
    · rintro j hj ⟨hp1, hp2⟩
      repeat' ((fail_if_success (with_reducible refine Side.mk ?_)); first | (refine Rest.mk (drawR_sound zES21X_X3 mixOK zHS21X_X3 ?_)) | ((fail_if_success (with_reducible refine Rest.mk ?_)); first | (with_reducible exact True.intro) | (with_reducible refine Need.mk ?_ ?_) | (with_reducible refine And.intro ?_ ?_) | (with_reducible intro _) | ((fail_if_success (with_reducible refine FinS.mk ?_)); (fail_if_success (with_reducible refine Le.mk ?_)); (conv => whnf)) | (refine FinS.b ?_) | (refine FinS.lb ?_) | (refine FinS.i ?_) | (refine FinS.f ?_) | (refine FinS.agg ?_) | (refine FinS.tup ?_)))
      all_goals (try (refine Le.of ?_; (conv => whnf)))
      repeat' ((fail_if_success (with_reducible refine Side.mk ?_)); first | (refine Rest.mk (drawR_sound zES21X_X3 mixOK zHS21X_X3 ?_)) | ((fail_if_success (with_reducible refine Rest.mk ?_)); first | (with_reducible exact True.intro) | (with_reducible refine Need.mk ?_ ?_) | (with_reducible refine And.intro ?_ ?_) | (with_reducible intro _) | ((fail_if_success (with_reducible refine FinS.mk ?_)); (fail_if_success (with_reducible refine Le.mk ?_)); (conv => whnf)) | (refine FinS.b ?_) | (refine FinS.lb ?_) | (refine FinS.i ?_) | (refine FinS.f ?_) | (refine FinS.agg ?_) | (refine FinS.tup ?_)))
      all_goals (try refine Side.mk ?_)
      all_goals (try simp only [pOf_pt, eq_self, decide_eq_true_eq, decide_eq_false_iff_not, Int.ofNat_lt, Int.ofNat_le, gt_iff_lt, ge_iff_le, true_and, Bool.not_eq_true', Bool.not_eq_false', Int.toNat_natCast, Nat.zero_add] at *)
      all_goals first | (with_reducible rfl) | (with_reducible trivial) | (with_reducible assumption) | omega | exact fun _ => trivial | exact fun _ _ => trivial | exact fun _ _ _ _ => .inr trivial | exact i64_id (by omega) (by omega) | (rename_i hc; exact in_step hp1 hp2 hc) | (rename_i hc _; exact congrArg Nat.cast (in_stop hp2 hc)) | (rename_i hc hb; exact (in_bad hK (w.scn i hin hfar) hp2 hc hb).elim)
theorem ml_eq {pf n : Nat} {p : Nat → Nat × Nat} : grt p (fmx .f64 4607182418800017408 (fabs pf)) n = ML pf n p := rfl
theorem c21_bad {l n : Nat} {x : Int} (hx : x = 2 * (n : Int)) (h1 : l ≤ 2 * n) (h2 : l = 0 ∨ 3 ≤ l) (hc : (decide (x < (l : Int)) || decide (0 < (l : Int)) && decide ((l : Int) < 3)) = true) : False := by
  subst hx
  simp only [Bool.or_eq_true, Bool.and_eq_true, decide_eq_true_eq] at hc
  omega
theorem q5_13 (nx ny pf : Nat) (n : Nat) (p : Nat → Nat × Nat) (h : chk nx ny pf = true) (hc : checkV n p = 0) (w : WOk nx ny pf n p (leV (nx, ny, pf) n p)) (cx : Cx) : CodeOK Try.prog cx fi5.n (dropS 13 fi5.body) ⟨[(1, .ro 2 n (fun j => ptM (p j))), (4, .p 0 0), (9, .b true), (19, .os 1 2 0 (leV (nx, ny, pf) n p).length), (10, .f .f64 (ML pf n p))], [], [(0, .cells [.f .f64 nx, .f .f64 ny, .f .f64 pf]), (1, .rows 2 (leV (nx, ny, pf) n p).length fun k => ptM ((leV (nx, ny, pf) n p).getD k z2))], 2⟩ (finK (genQ Try.prog exts eqs [] S21X) fi5.res (.b true) []) := by
  have hn := w.nle
  have hb : n < big := Nat.lt_of_le_of_lt hn (by decide)
  have hl := w.len1
  have hlb : (leV (nx, ny, pf) n p).length < big := by unfold big; omega
  have hwr : IntKind.i64.wrap (2 * (n : Int)) = 2 * (n : Int) := i64_wrap (by omega) (by omega)
  refine CodeOK.cut zES21X_X3 zHS21X_X3 1 (c := dropS 13 fi5.body) (by kernel_rfl) ?_ (q5_14 nx ny pf n p h hc w cx)
  repeat' ((fail_if_success (with_reducible refine Side.mk ?_)); first | (refine Rest.mk (drawR_sound zES21X_X3 mixOK zHS21X_X3 ?_)) | ((fail_if_success (with_reducible refine Rest.mk ?_)); first | (with_reducible exact True.intro) | (with_reducible refine Need.mk ?_ ?_) | (with_reducible refine And.intro ?_ ?_) | (with_reducible intro _) | ((fail_if_success (with_reducible refine FinS.mk ?_)); (fail_if_success (with_reducible refine Le.mk ?_)); (conv => whnf)) | (refine FinS.b ?_) | (refine FinS.lb ?_) | (refine FinS.i ?_) | (refine FinS.f ?_) | (refine FinS.agg ?_) | (refine FinS.tup ?_)))
  refine loop_ruleC zES21X_X3 zHS21X_X3 (fun i => ⟨[(1, .ro 2 n (fun j => ptM (p j))), (4, .p 0 0), (9, .b true), (19, .os 1 2 0 (leV (nx, ny, pf) n p).length), (10, .f .f64 (ML pf n p)), (20, .i .i64 (i : Int))], [], [(0, .cells [.f .f64 nx, .f .f64 ny, .f .f64 pf]), (1, .rows 2 (leV (nx, ny, pf) n p).length fun k => ptM ((leV (nx, ny, pf) n p).getD k z2))], 2⟩) (fun i => True) (leV (nx, ny, pf) n p).length (Le.of ?_) ?_ ?_
  · conv => whnf
    repeat' ((fail_if_success (with_reducible refine Side.mk ?_)); first | (refine Rest.mk (drawR_sound zES21X_X3 mixOK zHS21X_X3 ?_)) | ((fail_if_success (with_reducible refine Rest.mk ?_)); first | (with_reducible exact True.intro) | (with_reducible refine Need.mk ?_ ?_) | (with_reducible refine And.intro ?_ ?_) | (with_reducible intro _) | ((fail_if_success (with_reducible refine FinS.mk ?_)); (fail_if_success (with_reducible refine Le.mk ?_)); (conv => whnf)) | (refine FinS.b ?_) | (refine FinS.lb ?_) | (refine FinS.i ?_) | (refine FinS.f ?_) | (refine FinS.agg ?_) | (refine FinS.tup ?_)))
    all_goals (try refine Side.mk ?_)
    all_goals (try simp only [pOf_pt, eq_self, decide_eq_true_eq, decide_eq_false_iff_not, Int.ofNat_lt, Int.ofNat_le, gt_iff_lt, ge_iff_le, true_and, Bool.not_eq_true', Bool.not_eq_false', Int.toNat_natCast, Nat.zero_add] at *)
    all_goals first | (with_reducible rfl) | (with_reducible trivial) | (with_reducible assumption) | omega | exact ⟨rfl, rfl⟩ | exact ⟨rfl, fun _ _ => rfl⟩ | exact ⟨rfl, rfl, fun _ _ => rfl⟩ | exact ⟨by omega, trivial⟩ | exact fun _ _ => trivial | exact i64_id (by omega) (by omega) | exact fun _ _ _ _ => .inr rfl | exact ⟨rfl, fun _ _ _ _ => .inr rfl⟩ | (exact fun _ => ⟨by decide, by decide⟩) | (exact ⟨by decide, by decide⟩) | (exact fun _ _ => ⟨by decide, by decide⟩) | ((intro i hi j hj; rcases i with _ | _ | i <;> rcases j with _ | _ | j <;> first | exact .inr rfl | (exfalso; omega))) | (exact fun _ _ _ _ => .inr trivial)
  · trivial
  · intro i hi _
    repeat' ((fail_if_success (with_reducible refine Side.mk ?_)); first | (refine Rest.mk (drawR_sound zES21X_X3 mixOK zHS21X_X3 ?_)) | ((fail_if_success (with_reducible refine Rest.mk ?_)); first | (with_reducible exact True.intro) | (with_reducible refine Need.mk ?_ ?_) | (with_reducible refine And.intro ?_ ?_) | (with_reducible intro _) | ((fail_if_success (with_reducible refine FinS.mk ?_)); (fail_if_success (with_reducible refine Le.mk ?_)); (conv => whnf)) | (refine FinS.b ?_) | (refine FinS.lb ?_) | (refine FinS.i ?_) | (refine FinS.f ?_) | (refine FinS.agg ?_) | (refine FinS.tup ?_)))
    all_goals (try (refine Le.of ?_; (conv => whnf)))
    repeat' ((fail_if_success (with_reducible refine Side.mk ?_)); first | (refine Rest.mk (drawR_sound zES21X_X3 mixOK zHS21X_X3 ?_)) | ((fail_if_success (with_reducible refine Rest.mk ?_)); first | (with_reducible exact True.intro) | (with_reducible refine Need.mk ?_ ?_) | (with_reducible refine And.intro ?_ ?_) | (with_reducible intro _) | ((fail_if_success (with_reducible refine FinS.mk ?_)); (fail_if_success (with_reducible refine Le.mk ?_)); (conv => whnf)) | (refine FinS.b ?_) | (refine FinS.lb ?_) | (refine FinS.i ?_) | (refine FinS.f ?_) | (refine FinS.agg ?_) | (refine FinS.tup ?_)))
    all_goals (try refine Side.mk ?_)
    all_goals (try simp only [pOf_pt, eq_self, decide_eq_true_eq, decide_eq_false_iff_not, Int.ofNat_lt, Int.ofNat_le, gt_iff_lt, ge_iff_le, true_and, Bool.not_eq_true', Bool.not_eq_false', Int.toNat_natCast, Nat.zero_add] at *)
    all_goals first | (with_reducible rfl) | (with_reducible trivial) | (with_reducible assumption) | omega | exact fun _ => trivial | exact fun _ _ => trivial | exact fun _ _ _ _ => .inr trivial | exact ⟨by omega, by omega⟩ | exact ⟨by omega, trivial⟩ | exact i64_id (by omega) (by omega) | (exfalso; rename_i hy hx; (have hz := w.ins _ hy); unfold inP at hz; rw [hz] at hx; exact absurd hx (by decide))
theorem q5_12 (nx ny pf : Nat) (n : Nat) (p : Nat → Nat × Nat) (h : chk nx ny pf = true) (hc : checkV n p = 0) (w : WOk nx ny pf n p (leV (nx, ny, pf) n p)) (cx : Cx) : CodeOK Try.prog cx fi5.n (dropS 12 fi5.body) ⟨[(1, .ro 2 n (fun j => ptM (p j))), (4, .p 0 0), (9, .b true), (19, .os 1 2 0 (leV (nx, ny, pf) n p).length), (10, .f .f64 (ML pf n p))], [], [(0, .cells [.f .f64 nx, .f .f64 ny, .f .f64 pf]), (1, .rows 2 (leV (nx, ny, pf) n p).length fun k => ptM ((leV (nx, ny, pf) n p).getD k z2))], 2⟩ (finK (genQ Try.prog exts eqs [] S21X) fi5.res (.b true) []) := by
  have hn := w.nle
  have hb : n < big := Nat.lt_of_le_of_lt hn (by decide)
  have hl := w.len1
  have hlb : (leV (nx, ny, pf) n p).length < big := by unfold big; omega
  have hwr : IntKind.i64.wrap (2 * (n : Int)) = 2 * (n : Int) := i64_wrap (by omega) (by omega)
  refine CodeOK.cut zES21X_X3 zHS21X_X3 1 (c := dropS 12 fi5.body) (by kernel_rfl) ?_ (q5_13 nx ny pf n p h hc w cx)
  repeat' ((fail_if_success (with_reducible refine Side.mk ?_)); first | (refine Rest.mk (drawR_sound zES21X_X3 mixOK zHS21X_X3 ?_)) | ((fail_if_success (with_reducible refine Rest.mk ?_)); first | (with_reducible exact True.intro) | (with_reducible refine Need.mk ?_ ?_) | (with_reducible refine And.intro ?_ ?_) | (with_reducible intro _) | ((fail_if_success (with_reducible refine FinS.mk ?_)); (fail_if_success (with_reducible refine Le.mk ?_)); (conv => whnf)) | (refine FinS.b ?_) | (refine FinS.lb ?_) | (refine FinS.i ?_) | (refine FinS.f ?_) | (refine FinS.agg ?_) | (refine FinS.tup ?_)))
  all_goals (try (refine Le.of ?_; (conv => whnf)))
  repeat' ((fail_if_success (with_reducible refine Side.mk ?_)); first | (refine Rest.mk (drawR_sound zES21X_X3 mixOK zHS21X_X3 ?_)) | ((fail_if_success (with_reducible refine Rest.mk ?_)); first | (with_reducible exact True.intro) | (with_reducible refine Need.mk ?_ ?_) | (with_reducible refine And.intro ?_ ?_) | (with_reducible intro _) | ((fail_if_success (with_reducible refine FinS.mk ?_)); (fail_if_success (with_reducible refine Le.mk ?_)); (conv => whnf)) | (refine FinS.b ?_) | (refine FinS.lb ?_) | (refine FinS.i ?_) | (refine FinS.f ?_) | (refine FinS.agg ?_) | (refine FinS.tup ?_)))
  all_goals (try refine Side.mk ?_)
  all_goals (try simp only [pOf_pt, eq_self, decide_eq_true_eq, decide_eq_false_iff_not, Int.ofNat_lt, Int.ofNat_le, gt_iff_lt, ge_iff_le, true_and, Bool.not_eq_true', Bool.not_eq_false', Int.toNat_natCast, Nat.zero_add] at *)
  all_goals first | (with_reducible rfl) | (with_reducible trivial) | (with_reducible assumption) | omega | exact ⟨rfl, rfl⟩ | exact ⟨rfl, fun _ _ => rfl⟩ | exact ⟨rfl, rfl, fun _ _ => rfl⟩ | exact ⟨by omega, trivial⟩ | exact fun _ _ => trivial | exact i64_id (by omega) (by omega) | exact fun _ _ _ _ => .inr rfl | exact ⟨rfl, fun _ _ _ _ => .inr rfl⟩ | ((rename_i hc; exact (c21_bad hwr hl w.len2 hc).elim)) | (exact fun _ => ⟨by decide, by decide⟩) | (exact ⟨by decide, by decide⟩) | (exact fun _ _ => ⟨by decide, by decide⟩) | ((intro i hi j hj; rcases i with _ | _ | i <;> rcases j with _ | _ | j <;> first | exact .inr rfl | (exfalso; omega))) | (exact fun _ _ _ _ => .inr trivial)
theorem q5_11 (nx ny pf : Nat) (n : Nat) (p : Nat → Nat × Nat) (h : chk nx ny pf = true) (hc : checkV n p = 0) (w : WOk nx ny pf n p (leV (nx, ny, pf) n p)) (cx : Cx) : CodeOK Try.prog cx fi5.n (dropS 11 fi5.body) ⟨[(1, .ro 2 n (fun j => ptM (p j))), (4, .p 0 0), (9, .b true), (19, .os 1 2 0 (leV (nx, ny, pf) n p).length)], [], [(0, .cells [.f .f64 nx, .f .f64 ny, .f .f64 pf]), (1, .rows 2 (leV (nx, ny, pf) n p).length fun k => ptM ((leV (nx, ny, pf) n p).getD k z2))], 2⟩ (finK (genQ Try.prog exts eqs [] S21X) fi5.res (.b true) []) := by
  have hn := w.nle
  have hb : n < big := Nat.lt_of_le_of_lt hn (by decide)
  have hl := w.len1
  have hlb : (leV (nx, ny, pf) n p).length < big := by unfold big; omega
  have hwr : IntKind.i64.wrap (2 * (n : Int)) = 2 * (n : Int) := i64_wrap (by omega) (by omega)
  refine CodeOK.cut zES21X_X3 zHS21X_X3 1 (c := dropS 11 fi5.body) (by kernel_rfl) ?_ (q5_12 nx ny pf n p h hc w cx)
  repeat' ((fail_if_success (with_reducible refine Side.mk ?_)); first | (refine Rest.mk (drawR_sound zES21X_X3 mixOK zHS21X_X3 ?_)) | ((fail_if_success (with_reducible refine Rest.mk ?_)); first | (with_reducible exact True.intro) | (with_reducible refine Need.mk ?_ ?_) | (with_reducible refine And.intro ?_ ?_) | (with_reducible intro _) | ((fail_if_success (with_reducible refine FinS.mk ?_)); (fail_if_success (with_reducible refine Le.mk ?_)); (conv => whnf)) | (refine FinS.b ?_) | (refine FinS.lb ?_) | (refine FinS.i ?_) | (refine FinS.f ?_) | (refine FinS.agg ?_) | (refine FinS.tup ?_)))
  all_goals (try (refine Le.of ?_; (conv => whnf)))
  repeat' ((fail_if_success (with_reducible refine Side.mk ?_)); first | (refine Rest.mk (drawR_sound zES21X_X3 mixOK zHS21X_X3 ?_)) | ((fail_if_success (with_reducible refine Rest.mk ?_)); first | (with_reducible exact True.intro) | (with_reducible refine Need.mk ?_ ?_) | (with_reducible refine And.intro ?_ ?_) | (with_reducible intro _) | ((fail_if_success (with_reducible refine FinS.mk ?_)); (fail_if_success (with_reducible refine Le.mk ?_)); (conv => whnf)) | (refine FinS.b ?_) | (refine FinS.lb ?_) | (refine FinS.i ?_) | (refine FinS.f ?_) | (refine FinS.agg ?_) | (refine FinS.tup ?_)))
  all_goals (try refine Side.mk ?_)
  all_goals (try simp only [pOf_pt, eq_self, decide_eq_true_eq, decide_eq_false_iff_not, Int.ofNat_lt, Int.ofNat_le, gt_iff_lt, ge_iff_le, true_and, Bool.not_eq_true', Bool.not_eq_false', Int.toNat_natCast, Nat.zero_add] at *)
  all_goals first | (with_reducible rfl) | (with_reducible trivial) | (with_reducible assumption) | omega | exact ⟨rfl, rfl⟩ | exact ⟨rfl, fun _ _ => rfl⟩ | exact ⟨rfl, rfl, fun _ _ => rfl⟩ | exact ⟨by omega, trivial⟩ | exact fun _ _ => trivial | exact i64_id (by omega) (by omega) | exact fun _ _ _ _ => .inr rfl | exact ⟨rfl, fun _ _ _ _ => .inr rfl⟩ | (exact ⟨isPts_pt _ _, hb⟩) | (with_reducible exact ml_eq) | (exact fun _ => ⟨by decide, by decide⟩) | (exact ⟨by decide, by decide⟩) | (exact fun _ _ => ⟨by decide, by decide⟩) | ((intro i hi j hj; rcases i with _ | _ | i <;> rcases j with _ | _ | j <;> first | exact .inr rfl | (exfalso; omega))) | (exact fun _ _ _ _ => .inr trivial)
theorem zHS24Xk_X3 {cx : Cx} : CallH (genQ Try.prog exts eqs [] S24Xk).P cx (hnd (genQ Try.prog exts eqs [] S24Xk) cx 6) := hnd_sound (genQ_full extsOK eqsOK S24Xk_ok) 6
theorem zES24Xk_X3 : EnvAll (genQ Try.prog exts eqs [] S24Xk) := (genQ_full extsOK eqsOK S24Xk_ok).toEnvAll
theorem q5_9k (nx ny pf : Nat) (n : Nat) (p : Nat → Nat × Nat) (h : chk nx ny pf = true) (hc : checkV n p = 0) (w : WOk nx ny pf n p (leV (nx, ny, pf) n p)) (cx : Cx) : CodeOK Try.prog cx fi5.n (dropS 9 fi5.body) ⟨[(1, .ro 2 n (fun j => ptM (p j))), (4, .p 0 0), (9, .b true)], [], [(0, .cells [.f .f64 nx, .f .f64 ny, .f .f64 pf])], 1⟩ (finK (genQ Try.prog exts eqs [] S21X) fi5.res (.b true) []) := by
  have hn := w.nle
  have hb : n < big := Nat.lt_of_le_of_lt hn (by decide)
  have hl := w.len1
  have hlb : (leV (nx, ny, pf) n p).length < big := by unfold big; omega
  have hwr : IntKind.i64.wrap (2 * (n : Int)) = 2 * (n : Int) := i64_wrap (by omega) (by omega)
  refine CodeOK.cut zES24Xk_X3 zHS24Xk_X3 2 (c := dropS 9 fi5.body) (by kernel_rfl) ?_ (q5_11 nx ny pf n p h hc w cx)
  repeat' ((fail_if_success (with_reducible refine Side.mk ?_)); first | (refine Rest.mk (drawR_sound zES24Xk_X3 mixOK zHS24Xk_X3 ?_)) | ((fail_if_success (with_reducible refine Rest.mk ?_)); first | (with_reducible exact True.intro) | (with_reducible refine Need.mk ?_ ?_) | (with_reducible refine And.intro ?_ ?_) | (with_reducible intro hcl; try (exfalso; exact absurd hcl (by decide); done)) | ((fail_if_success (with_reducible refine FinS.mk ?_)); (fail_if_success (with_reducible refine Le.mk ?_)); (conv => whnf)) | (refine FinS.b ?_) | (refine FinS.lb ?_) | (refine FinS.i ?_) | (refine FinS.f ?_) | (refine FinS.agg ?_) | (refine FinS.tup ?_)))
  all_goals (try (refine Le.of ?_; (conv => whnf)))
  repeat' ((fail_if_success (with_reducible refine Side.mk ?_)); first | (refine Rest.mk (drawR_sound zES24Xk_X3 mixOK zHS24Xk_X3 ?_)) | ((fail_if_success (with_reducible refine Rest.mk ?_)); first | (with_reducible exact True.intro) | (with_reducible refine Need.mk ?_ ?_) | (with_reducible refine And.intro ?_ ?_) | (with_reducible intro hcl; try (exfalso; exact absurd hcl (by decide); done)) | ((fail_if_success (with_reducible refine FinS.mk ?_)); (fail_if_success (with_reducible refine Le.mk ?_)); (conv => whnf)) | (refine FinS.b ?_) | (refine FinS.lb ?_) | (refine FinS.i ?_) | (refine FinS.f ?_) | (refine FinS.agg ?_) | (refine FinS.tup ?_)))
  all_goals (try refine Side.mk ?_)
  all_goals (try simp only [pOf_pt, eq_self, decide_eq_true_eq, decide_eq_false_iff_not, Int.ofNat_lt, Int.ofNat_le, gt_iff_lt, ge_iff_le, true_and, Bool.not_eq_true', Bool.not_eq_false', Int.toNat_natCast, Nat.zero_add] at *)
  all_goals first | (with_reducible rfl) | (with_reducible trivial) | (with_reducible assumption) | omega | exact ⟨rfl, rfl⟩ | exact ⟨rfl, fun _ _ => rfl⟩ | exact ⟨rfl, rfl, fun _ _ => rfl⟩ | exact ⟨by omega, trivial⟩ | exact fun _ _ => trivial | exact i64_id (by omega) (by omega) | exact fun _ _ _ _ => .inr rfl | exact ⟨rfl, fun _ _ _ _ => .inr rfl⟩ | (exact ⟨isPts_pt _ _, hb, h, hc⟩) | (exact fun _ => ⟨by decide, by decide⟩) | (exact ⟨by decide, by decide⟩) | (exact fun _ _ => ⟨by decide, by decide⟩) | ((intro i hi j hj; rcases i with _ | _ | i <;> rcases j with _ | _ | j <;> first | exact .inr rfl | (exfalso; omega))) | (exact fun _ _ _ _ => .inr trivial)
end Go.Ev.Clip
