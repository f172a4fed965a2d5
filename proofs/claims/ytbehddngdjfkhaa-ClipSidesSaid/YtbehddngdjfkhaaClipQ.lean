/-
  The contracts of sides and of Reals; for lists below 2^62 points.
-/
import Derived.Test.YtbehddngdjfkhaaClipP
import Derived.Test.YtbehddngdjfkhaaEvL
set_option linter.unusedSimpArgs false
set_option linter.unusedVariables false
open Go Go.Proofs
namespace Go.Ev.Clip
set_option maxRecDepth 100000
set_option maxHeartbeats 1000000
def flM : MV → Nat
  | .f _ x => x
  | _ => 0
def pOf (get : Nat → List MV) (i : Nat) : Nat × Nat := (flM (getM (get i) 0), flM (getM (get i) 1))
def isPts (n : Nat) (get : Nat → List MV) : Prop := ∀ i, i < n → getM (get i) 0 = .f .f64 (pOf get i).1 ∧ getM (get i) 1 = .f .f64 (pOf get i).2
theorem isPts_pt (n : Nat) (p : Nat → Nat × Nat) : isPts n (fun i => ptM (p i)) := fun _ _ => ⟨rfl, rfl⟩
theorem leR_pts {n : Nat} {get : Nat → List MV} (h : isPts n get) : leR (.ro 2 n get) (.ro 2 n fun i => ptM (pOf get i)) := by
  refine ⟨rfl, rfl, fun i hi j hj => ?_⟩
  have hj : j = 0 ∨ j = 1 := by omega
  rcases hj with rfl | rfl
  · exact (h i hi).1
  · exact (h i hi).2
def big : Nat := 4611686018427387904
theorem le_arg1 {P : Program} {f : FuncId} {a a' : MV} {r : List MV} {m : MV} {blks : List Blk} {al : Bool} (h : CM P f (a' :: r) m blks al) (ha : leR a a') : CM P f (a :: r) m blks al :=
  h.le fun w ok vs r => ⟨r.len, fun j hj => by
    cases j with
    | zero => exact leR_rep ha (r.rep 0 (by simp))
    | succ j => exact r.rep (j + 1) hj⟩
def nxt (n i : Nat) : Nat := (i + 1) % n
def wayV (n : Nat) (p : Nat → Nat × Nat) (i : Nat) : Nat × Nat := subV (p (nxt n i)) (p i)
theorem nxt_int {a b n : Nat} (h : a + b < 9223372036854775808) : (IntKind.i64.wrap ((a : Int) + (b : Int))).tmod (n : Int) = ((a + b) % n : Nat) := by
  rw [i64_wrap (by omega) (by omega)]
  rw [← Int.natCast_add, Int.tmod_eq_emod_of_nonneg (by omega)]; rfl
theorem nxt1 {i n : Nat} (h : i < n) (hn : n < big) : (IntKind.i64.wrap ((i : Int) + 1)).tmod (n : Int) = (nxt n i : Nat) := nxt_int (b := 1) (by unfold big at hn; omega)
theorem nxt_lt {i n : Nat} (h : i < n) : nxt n i < n := Nat.mod_lt _ (by omega)
noncomputable def fi64 : FnI := ⟨10, Try.f64.body.getD .skip, [.tmp 4], true⟩
theorem fi64_ok : fnGen Try.prog 64 = some fi64 := by kernel_rfl
theorem t64 (n : Nat) (p : Nat → Nat × Nat) (i : Nat) (c0 : i < n) (c1 : n < big): CM Try.prog 64 [.ro 2 n (fun j => ptM (p j)), .i .i64 (i : Int)] (.i .i64 (nxt n i : Nat)) [] true := by
  refine CM.of_genQ (exts := exts) (eqs := eqs) (inl := []) (sum := S70) extsOK eqsOK S70_ok fi64_ok 6 rfl fun cx => ?_
  repeat' ((fail_if_success (with_reducible refine Side.mk ?_)); first | ((fail_if_success (with_reducible refine Rest.mk ?_)); first | (with_reducible exact True.intro) | (with_reducible refine Need.mk ?_ ?_) | (with_reducible refine And.intro ?_ ?_) | (with_reducible intro _) | ((fail_if_success (with_reducible refine FinS.mk ?_)); (fail_if_success (with_reducible refine Le.mk ?_)); (conv => whnf)) | (refine FinS.b ?_) | (refine FinS.lb ?_) | (refine FinS.i ?_) | (refine FinS.f ?_) | (refine FinS.agg ?_) | (refine FinS.tup ?_)))
  all_goals (refine Side.mk ?_; (try simp only [nxt1 c0 c1]); all_goals first | rfl | exact ⟨trivial, rfl⟩ | exact ⟨rfl, rfl⟩ | omega | (have := nxt_lt c0; show 0 ≤ ((nxt n i : Nat) : Int) ∧ ((nxt n i : Nat) : Int) < (n : Int); omega) | exact ⟨isPts_pt _ _, by omega, by omega, c1⟩)
noncomputable def g64 : List MV → Option (List Prop × MV × List Blk × Bool)
  | [.ro 2 n get, .i .i64 k] => some ([isPts n get, 0 ≤ k ∧ k < n ∧ n < big], .i .i64 (nxt n k.toNat : Nat), [], false)
  | _ => none
theorem s64 : SumsOK Try.prog (sumOf 64 g64 S70) := by
  refine SumsOK.add S70_ok fun ms ps m blks al e hp => ?_
  unfold g64 at e
  split at e
  · cases e
    have h0 := hp _ (.head _)
    obtain ⟨k1, k2, k3⟩ := hp _ (.tail _ (.head _))
    obtain ⟨i, rfl⟩ := Int.eq_ofNat_of_zero_le k1
    exact (le_arg1 (t64 _ (pOf _) i (by omega) k3) (leR_pts h0)).aloneT rfl
  · cases e
noncomputable def S64 := sumOf 64 g64 S70
theorem S64_ok : SumsOK Try.prog S64 := s64
noncomputable def fi50 : FnI := ⟨18, Try.f50.body.getD .skip, [.cell 4 24], true⟩
theorem fi50_ok : fnGen Try.prog 50 = some fi50 := by kernel_rfl
theorem t50 (n : Nat) (p : Nat → Nat × Nat) (i : Nat) (c0 : i < n) (c1 : n < big): CM Try.prog 50 [.ro 2 n (fun j => ptM (p j)), .i .i64 (i : Int)] (.agg (ptM (wayV n p i))) [] true := by
  refine CM.of_genQ (exts := exts) (eqs := eqs) (inl := []) (sum := S64) extsOK eqsOK S64_ok fi50_ok 6 rfl fun cx => ?_
  repeat' ((fail_if_success (with_reducible refine Side.mk ?_)); first | (refine Rest.mk (drawR_sound (E := genQ Try.prog exts eqs [] S64) (genQ_full extsOK eqsOK S64_ok).toEnvAll mixOK (hnd_sound (genQ_full extsOK eqsOK S64_ok) 6) ?_)) | ((fail_if_success (with_reducible refine Rest.mk ?_)); first | (with_reducible exact True.intro) | (with_reducible refine Need.mk ?_ ?_) | (with_reducible refine And.intro ?_ ?_) | (with_reducible intro _) | ((fail_if_success (with_reducible refine FinS.mk ?_)); (fail_if_success (with_reducible refine Le.mk ?_)); (conv => whnf)) | (refine FinS.b ?_) | (refine FinS.lb ?_) | (refine FinS.i ?_) | (refine FinS.f ?_) | (refine FinS.agg ?_) | (refine FinS.tup ?_)))
  all_goals (refine Side.mk ?_; (try simp only [nxt1 c0 c1]); all_goals first | rfl | exact ⟨trivial, rfl⟩ | exact ⟨rfl, rfl⟩ | omega | (have := nxt_lt c0; show 0 ≤ ((nxt n i : Nat) : Int) ∧ ((nxt n i : Nat) : Int) < (n : Int); omega) | exact ⟨isPts_pt _ _, by omega, by omega, c1⟩)
noncomputable def g50 : List MV → Option (List Prop × MV × List Blk × Bool)
  | [.ro 2 n get, .i .i64 k] => some ([isPts n get, 0 ≤ k ∧ k < n ∧ n < big], .agg (ptM (wayV n (pOf get) k.toNat)), [], false)
  | _ => none
theorem s50 : SumsOK Try.prog (sumOf 50 g50 S64) := by
  refine SumsOK.add S64_ok fun ms ps m blks al e hp => ?_
  unfold g50 at e
  split at e
  · cases e
    have h0 := hp _ (.head _)
    obtain ⟨k1, k2, k3⟩ := hp _ (.tail _ (.head _))
    obtain ⟨i, rfl⟩ := Int.eq_ofNat_of_zero_le k1
    exact (le_arg1 (t50 _ (pOf _) i (by omega) k3) (leR_pts h0)).aloneT rfl
  · cases e
noncomputable def S50 := sumOf 50 g50 S64
theorem S50_ok : SumsOK Try.prog S50 := s50
noncomputable def fi63 : FnI := ⟨16, Try.f63.body.getD .skip, [.cell 4 24], true⟩
theorem fi63_ok : fnGen Try.prog 63 = some fi63 := by kernel_rfl
theorem t63 (n : Nat) (p : Nat → Nat × Nat) (i : Nat) (c0 : i < n) (c1 : n < big): CM Try.prog 63 [.ro 2 n (fun j => ptM (p j)), .i .i64 (i : Int)] (.agg (ptM (wayV n p i))) [] true := by
  refine CM.of_genQ (exts := exts) (eqs := eqs) (inl := []) (sum := S50) extsOK eqsOK S50_ok fi63_ok 6 rfl fun cx => ?_
  repeat' ((fail_if_success (with_reducible refine Side.mk ?_)); first | (refine Rest.mk (drawR_sound (E := genQ Try.prog exts eqs [] S50) (genQ_full extsOK eqsOK S50_ok).toEnvAll mixOK (hnd_sound (genQ_full extsOK eqsOK S50_ok) 6) ?_)) | ((fail_if_success (with_reducible refine Rest.mk ?_)); first | (with_reducible exact True.intro) | (with_reducible refine Need.mk ?_ ?_) | (with_reducible refine And.intro ?_ ?_) | (with_reducible intro _) | ((fail_if_success (with_reducible refine FinS.mk ?_)); (fail_if_success (with_reducible refine Le.mk ?_)); (conv => whnf)) | (refine FinS.b ?_) | (refine FinS.lb ?_) | (refine FinS.i ?_) | (refine FinS.f ?_) | (refine FinS.agg ?_) | (refine FinS.tup ?_)))
  all_goals (refine Side.mk ?_; (try simp only [nxt1 c0 c1]); all_goals first | rfl | exact ⟨trivial, rfl⟩ | exact ⟨rfl, rfl⟩ | omega | (have := nxt_lt c0; show 0 ≤ ((nxt n i : Nat) : Int) ∧ ((nxt n i : Nat) : Int) < (n : Int); omega) | exact ⟨isPts_pt _ _, by omega, by omega, c1⟩)
noncomputable def g63 : List MV → Option (List Prop × MV × List Blk × Bool)
  | [.ro 2 n get, .i .i64 k] => some ([isPts n get, 0 ≤ k ∧ k < n ∧ n < big], .agg (ptM (wayV n (pOf get) k.toNat)), [], false)
  | _ => none
theorem s63 : SumsOK Try.prog (sumOf 63 g63 S50) := by
  refine SumsOK.add S50_ok fun ms ps m blks al e hp => ?_
  unfold g63 at e
  split at e
  · cases e
    have h0 := hp _ (.head _)
    obtain ⟨k1, k2, k3⟩ := hp _ (.tail _ (.head _))
    obtain ⟨i, rfl⟩ := Int.eq_ofNat_of_zero_le k1
    exact (le_arg1 (t63 _ (pOf _) i (by omega) k3) (leR_pts h0)).aloneT rfl
  · cases e
noncomputable def S63 := sumOf 63 g63 S50
theorem S63_ok : SumsOK Try.prog S63 := s63
noncomputable def fi65 : FnI := ⟨17, Try.f65.body.getD .skip, [.tmp 6], true⟩
theorem fi65_ok : fnGen Try.prog 65 = some fi65 := by kernel_rfl
theorem t65 (n : Nat) (p : Nat → Nat × Nat) (i : Nat) (a1 a2 : Nat) (c0 : i < n) (c1 : n < big): CM Try.prog 65 [.ro 2 n (fun j => ptM (p j)), .i .i64 (i : Int), .agg [.f .f64 a1, .f .f64 a2]] (.f .f64 (crsV (wayV n p i) (subV (a1, a2) (p i)))) [] true := by
  refine CM.of_genQ (exts := exts) (eqs := eqs) (inl := []) (sum := S63) extsOK eqsOK S63_ok fi65_ok 6 rfl fun cx => ?_
  repeat' ((fail_if_success (with_reducible refine Side.mk ?_)); first | (refine Rest.mk (drawR_sound (E := genQ Try.prog exts eqs [] S63) (genQ_full extsOK eqsOK S63_ok).toEnvAll mixOK (hnd_sound (genQ_full extsOK eqsOK S63_ok) 6) ?_)) | ((fail_if_success (with_reducible refine Rest.mk ?_)); first | (with_reducible exact True.intro) | (with_reducible refine Need.mk ?_ ?_) | (with_reducible refine And.intro ?_ ?_) | (with_reducible intro _) | ((fail_if_success (with_reducible refine FinS.mk ?_)); (fail_if_success (with_reducible refine Le.mk ?_)); (conv => whnf)) | (refine FinS.b ?_) | (refine FinS.lb ?_) | (refine FinS.i ?_) | (refine FinS.f ?_) | (refine FinS.agg ?_) | (refine FinS.tup ?_)))
  all_goals (refine Side.mk ?_; (try simp only [nxt1 c0 c1]); all_goals first | rfl | exact ⟨trivial, rfl⟩ | exact ⟨rfl, rfl⟩ | omega | (have := nxt_lt c0; show 0 ≤ ((nxt n i : Nat) : Int) ∧ ((nxt n i : Nat) : Int) < (n : Int); omega) | exact ⟨isPts_pt _ _, by omega, by omega, c1⟩)
noncomputable def g65 : List MV → Option (List Prop × MV × List Blk × Bool)
  | [.ro 2 n get, .i .i64 k, .agg [.f .f64 a1, .f .f64 a2]] => some ([isPts n get, 0 ≤ k ∧ k < n ∧ n < big], .f .f64 (crsV (wayV n (pOf get) k.toNat) (subV (a1, a2) (pOf get k.toNat))), [], false)
  | _ => none
theorem s65 : SumsOK Try.prog (sumOf 65 g65 S63) := by
  refine SumsOK.add S63_ok fun ms ps m blks al e hp => ?_
  unfold g65 at e
  split at e
  · cases e
    have h0 := hp _ (.head _)
    obtain ⟨k1, k2, k3⟩ := hp _ (.tail _ (.head _))
    obtain ⟨i, rfl⟩ := Int.eq_ofNat_of_zero_le k1
    exact (le_arg1 (t65 _ (pOf _) i _ _ (by omega) k3) (leR_pts h0)).aloneT rfl
  · cases e
noncomputable def S65 := sumOf 65 g65 S63
theorem S65_ok : SumsOK Try.prog S65 := s65
def allW (n : Nat) (p : Nat → Nat × Nat) : Bool := (List.range n).all fun i => wth (p i).1 (p i).2
def allRW (n : Nat) (p : Nat → Nat × Nat) : Bool := (List.range n).all fun i => rth (p i).1 (p i).2
def realsV (n : Nat) (p : Nat → Nat × Nat) : Int := bif Nat.blt 64 n then 4 else bif allW n p then 0 else 5
def rrealsV (n : Nat) (p : Nat → Nat × Nat) : Int := bif Nat.blt 64 n then 4 else bif allRW n p then 0 else 5
theorem all_t {n : Nat} {f : Nat → Bool} (h : ∀ j, j < n → f j = true) : (List.range n).all f = true := List.all_eq_true.2 fun j hj => h j (List.mem_range.1 hj)
theorem all_f {n i : Nat} {f : Nat → Bool} (hi : i < n) (h : f i = false) : (List.range n).all f = false := by
  cases e : (List.range n).all f
  · rfl
  · rw [List.all_eq_true.1 e i (List.mem_range.2 hi)] at h; cases h
theorem blt_t {a b : Nat} (h : a < b) : Nat.blt a b = true := by simpa using h
theorem blt_f {a b : Nat} (h : b ≤ a) : Nat.blt a b = false := by
  cases e : Nat.blt a b
  · rfl
  · simp at e; omega
theorem reals_4 {n : Nat} {p : Nat → Nat × Nat} (h : 64 < n) : realsV n p = 4 := by unfold realsV; rw [blt_t h]; rfl
theorem reals_5 {n i : Nat} {p : Nat → Nat × Nat} (h : n ≤ 64) (hi : i < n) (hw : wth (p i).1 (p i).2 = false) : realsV n p = 5 := by unfold realsV allW; rw [blt_f h, all_f hi hw]; rfl
theorem reals_0 {n : Nat} {p : Nat → Nat × Nat} (h : n ≤ 64) (hw : ∀ i, i < n → wth (p i).1 (p i).2 = true) : realsV n p = 0 := by unfold realsV allW; rw [blt_f h, all_t hw]; rfl
theorem rreals_4 {n : Nat} {p : Nat → Nat × Nat} (h : 64 < n) : rrealsV n p = 4 := by unfold rrealsV; rw [blt_t h]; rfl
theorem rreals_5 {n i : Nat} {p : Nat → Nat × Nat} (h : n ≤ 64) (hi : i < n) (hw : rth (p i).1 (p i).2 = false) : rrealsV n p = 5 := by unfold rrealsV allRW; rw [blt_f h, all_f hi hw]; rfl
theorem rreals_0 {n : Nat} {p : Nat → Nat × Nat} (h : n ≤ 64) (hw : ∀ i, i < n → rth (p i).1 (p i).2 = true) : rrealsV n p = 0 := by unfold rrealsV allRW; rw [blt_f h, all_t hw]; rfl
theorem pre_up {i : Nat} {P : Nat → Prop} (h : ∀ j, j < i → P j) (hi : P i) : ∀ j, j < i + 1 → P j := fun j hj => by
  rcases Nat.lt_or_eq_of_le (Nat.le_of_lt_succ hj) with e | e
  · exact h j e
  · subst e; exact hi
noncomputable def fi49 : FnI := ⟨18, Try.f49.body.getD .skip, [.tmp 2], true⟩
theorem fi49_ok : fnGen Try.prog 49 = some fi49 := by kernel_rfl
theorem t49 (n : Nat) (p : Nat → Nat × Nat) (c0 : n < big): CM Try.prog 49 [.ro 2 n (fun j => ptM (p j))] (.i .i64 (realsV n p)) [] true := by
  refine CM.of_genQ (exts := exts) (eqs := eqs) (inl := []) (sum := S65) extsOK eqsOK S65_ok fi49_ok 6 rfl fun cx => ?_
  have c1 : n < 4611686018427387904 := c0
  repeat' ((fail_if_success (with_reducible refine Side.mk ?_)); first | ((fail_if_success (with_reducible refine Rest.mk ?_)); first | (with_reducible exact True.intro) | (with_reducible refine Need.mk ?_ ?_) | (with_reducible refine And.intro ?_ ?_) | (with_reducible intro _) | ((fail_if_success (with_reducible refine FinS.mk ?_)); (fail_if_success (with_reducible refine Le.mk ?_)); (conv => whnf)) | (refine FinS.b ?_) | (refine FinS.lb ?_) | (refine FinS.i ?_) | (refine FinS.f ?_) | (refine FinS.agg ?_) | (refine FinS.tup ?_)))
  rotate_right
  · rename_i hq
    have hL : n ≤ 64 := by simp at hq; omega
    clear hq
    refine loop_ruleC (E := genQ Try.prog exts eqs [] S65) (genQ_full extsOK eqsOK S65_ok).toEnvAll (hnd_sound (E := genQ Try.prog exts eqs [] S65) (genQ_full extsOK eqsOK S65_ok) 6) (fun i => ⟨[(0, .ro 2 n (fun j => ptM (p j))), (8, .ro 2 n (fun j => ptM (p j))), (9, .i .i64 (n : Int)), (10, .i .i64 (i : Int))], [], [], 0⟩) (fun i => ∀ j, j < i → wth (p j).1 (p j).2 = true) n (Le.of ?_) ?_ ?_
    · conv => whnf
      repeat' ((fail_if_success (with_reducible refine Side.mk ?_)); first | ((fail_if_success (with_reducible refine Rest.mk ?_)); first | (with_reducible exact True.intro) | (with_reducible refine Need.mk ?_ ?_) | (with_reducible refine And.intro ?_ ?_) | (with_reducible intro _) | ((fail_if_success (with_reducible refine FinS.mk ?_)); (fail_if_success (with_reducible refine Le.mk ?_)); (conv => whnf)) | (refine FinS.b ?_) | (refine FinS.lb ?_) | (refine FinS.i ?_) | (refine FinS.f ?_) | (refine FinS.agg ?_) | (refine FinS.tup ?_)))
      all_goals (try (refine Le.of ?_; (conv => whnf)))
      repeat' ((fail_if_success (with_reducible refine Side.mk ?_)); first | ((fail_if_success (with_reducible refine Rest.mk ?_)); first | (with_reducible exact True.intro) | (with_reducible refine Need.mk ?_ ?_) | (with_reducible refine And.intro ?_ ?_) | (with_reducible intro _) | ((fail_if_success (with_reducible refine FinS.mk ?_)); (fail_if_success (with_reducible refine Le.mk ?_)); (conv => whnf)) | (refine FinS.b ?_) | (refine FinS.lb ?_) | (refine FinS.i ?_) | (refine FinS.f ?_) | (refine FinS.agg ?_) | (refine FinS.tup ?_)))
      all_goals (try refine Side.mk ?_)
      all_goals (try simp only [decide_eq_true_eq, decide_eq_false_iff_not, Int.ofNat_lt, Int.ofNat_le, gt_iff_lt, ge_iff_le, true_and, Bool.not_eq_true', Bool.not_eq_false'] at *)
      all_goals first | rfl | trivial | exact fun _ _ => trivial | exact ⟨rfl, rfl⟩ | exact ⟨rfl, fun _ _ => rfl⟩ | exact ⟨rfl, rfl, fun _ _ => rfl⟩ | exact i64_id (by omega) (by omega) | omega
    · intro j hj; omega
    · intro i hi hpre
      repeat' ((fail_if_success (with_reducible refine Side.mk ?_)); first | ((fail_if_success (with_reducible refine Rest.mk ?_)); first | (with_reducible exact True.intro) | (with_reducible refine Need.mk ?_ ?_) | (with_reducible refine And.intro ?_ ?_) | (with_reducible intro _) | ((fail_if_success (with_reducible refine FinS.mk ?_)); (fail_if_success (with_reducible refine Le.mk ?_)); (conv => whnf)) | (refine FinS.b ?_) | (refine FinS.lb ?_) | (refine FinS.i ?_) | (refine FinS.f ?_) | (refine FinS.agg ?_) | (refine FinS.tup ?_)))
      all_goals (try (refine Le.of ?_; (conv => whnf)))
      repeat' ((fail_if_success (with_reducible refine Side.mk ?_)); first | ((fail_if_success (with_reducible refine Rest.mk ?_)); first | (with_reducible exact True.intro) | (with_reducible refine Need.mk ?_ ?_) | (with_reducible refine And.intro ?_ ?_) | (with_reducible intro _) | ((fail_if_success (with_reducible refine FinS.mk ?_)); (fail_if_success (with_reducible refine Le.mk ?_)); (conv => whnf)) | (refine FinS.b ?_) | (refine FinS.lb ?_) | (refine FinS.i ?_) | (refine FinS.f ?_) | (refine FinS.agg ?_) | (refine FinS.tup ?_)))
      all_goals (try refine Side.mk ?_)
      all_goals (try simp only [decide_eq_true_eq, decide_eq_false_iff_not, Int.ofNat_lt, Int.ofNat_le, gt_iff_lt, ge_iff_le, true_and, Bool.not_eq_true', Bool.not_eq_false'] at *)
      all_goals first | rfl | trivial | exact fun _ _ => trivial | exact ⟨rfl, rfl⟩ | exact ⟨rfl, fun _ _ => rfl⟩ | exact ⟨rfl, rfl, fun _ _ => rfl⟩ | exact i64_id (by omega) (by omega) | omega | (exact (reals_5 hL (i := i) (by omega) ‹_›).symm) | (exact (reals_0 hL fun j hj => hpre j (by omega)).symm) | (exact ⟨by omega, pre_up hpre ‹_›⟩)
  all_goals (try (refine Le.of ?_; (conv => whnf)))
  repeat' ((fail_if_success (with_reducible refine Side.mk ?_)); first | ((fail_if_success (with_reducible refine Rest.mk ?_)); first | (with_reducible exact True.intro) | (with_reducible refine Need.mk ?_ ?_) | (with_reducible refine And.intro ?_ ?_) | (with_reducible intro _) | ((fail_if_success (with_reducible refine FinS.mk ?_)); (fail_if_success (with_reducible refine Le.mk ?_)); (conv => whnf)) | (refine FinS.b ?_) | (refine FinS.lb ?_) | (refine FinS.i ?_) | (refine FinS.f ?_) | (refine FinS.agg ?_) | (refine FinS.tup ?_)))
  all_goals (try refine Side.mk ?_)
  all_goals (try simp only [decide_eq_true_eq, decide_eq_false_iff_not, Int.ofNat_lt, Int.ofNat_le, gt_iff_lt, ge_iff_le, true_and, Bool.not_eq_true', Bool.not_eq_false'] at *)
  all_goals first | rfl | trivial | exact fun _ _ => trivial | exact ⟨rfl, rfl⟩ | exact ⟨rfl, fun _ _ => rfl⟩ | exact ⟨rfl, rfl, fun _ _ => rfl⟩ | exact i64_id (by omega) (by omega) | omega | (exact (reals_4 (by omega)).symm)
noncomputable def g49 : List MV → Option (List Prop × MV × List Blk × Bool)
  | [.ro 2 n get] => some ([isPts n get, n < big], .i .i64 (realsV n (pOf get)), [], false)
  | _ => none
theorem s49 : SumsOK Try.prog (sumOf 49 g49 S65) := by
  refine SumsOK.add S65_ok fun ms ps m blks al e hp => ?_
  unfold g49 at e
  split at e
  · cases e
    have h0 := hp _ (.head _)
    exact (le_arg1 (t49 _ (pOf _) (hp _ (.tail _ (.head _)))) (leR_pts h0)).aloneT rfl
  · cases e
noncomputable def S49 := sumOf 49 g49 S65
theorem S49_ok : SumsOK Try.prog S49 := s49
noncomputable def fi61 : FnI := ⟨19, Try.f61.body.getD .skip, [.tmp 2], true⟩
theorem fi61_ok : fnGen Try.prog 61 = some fi61 := by kernel_rfl
theorem t61 (n : Nat) (p : Nat → Nat × Nat) (c0 : n < big): CM Try.prog 61 [.ro 2 n (fun j => ptM (p j))] (.i .i64 (rrealsV n p)) [] true := by
  refine CM.of_genQ (exts := exts) (eqs := eqs) (inl := []) (sum := S49) extsOK eqsOK S49_ok fi61_ok 6 rfl fun cx => ?_
  have c1 : n < 4611686018427387904 := c0
  repeat' ((fail_if_success (with_reducible refine Side.mk ?_)); first | ((fail_if_success (with_reducible refine Rest.mk ?_)); first | (with_reducible exact True.intro) | (with_reducible refine Need.mk ?_ ?_) | (with_reducible refine And.intro ?_ ?_) | (with_reducible intro _) | ((fail_if_success (with_reducible refine FinS.mk ?_)); (fail_if_success (with_reducible refine Le.mk ?_)); (conv => whnf)) | (refine FinS.b ?_) | (refine FinS.lb ?_) | (refine FinS.i ?_) | (refine FinS.f ?_) | (refine FinS.agg ?_) | (refine FinS.tup ?_)))
  rotate_right
  · rename_i hq
    have hL : n ≤ 64 := by simp at hq; omega
    clear hq
    refine loop_ruleC (E := genQ Try.prog exts eqs [] S49) (genQ_full extsOK eqsOK S49_ok).toEnvAll (hnd_sound (E := genQ Try.prog exts eqs [] S49) (genQ_full extsOK eqsOK S49_ok) 6) (fun i => ⟨[(0, .ro 2 n (fun j => ptM (p j))), (3, .i .i64 (i : Int))], [], [], 0⟩) (fun i => ∀ j, j < i → rth (p j).1 (p j).2 = true) n (Le.of ?_) ?_ ?_
    · conv => whnf
      repeat' ((fail_if_success (with_reducible refine Side.mk ?_)); first | ((fail_if_success (with_reducible refine Rest.mk ?_)); first | (with_reducible exact True.intro) | (with_reducible refine Need.mk ?_ ?_) | (with_reducible refine And.intro ?_ ?_) | (with_reducible intro _) | ((fail_if_success (with_reducible refine FinS.mk ?_)); (fail_if_success (with_reducible refine Le.mk ?_)); (conv => whnf)) | (refine FinS.b ?_) | (refine FinS.lb ?_) | (refine FinS.i ?_) | (refine FinS.f ?_) | (refine FinS.agg ?_) | (refine FinS.tup ?_)))
      all_goals (try (refine Le.of ?_; (conv => whnf)))
      repeat' ((fail_if_success (with_reducible refine Side.mk ?_)); first | ((fail_if_success (with_reducible refine Rest.mk ?_)); first | (with_reducible exact True.intro) | (with_reducible refine Need.mk ?_ ?_) | (with_reducible refine And.intro ?_ ?_) | (with_reducible intro _) | ((fail_if_success (with_reducible refine FinS.mk ?_)); (fail_if_success (with_reducible refine Le.mk ?_)); (conv => whnf)) | (refine FinS.b ?_) | (refine FinS.lb ?_) | (refine FinS.i ?_) | (refine FinS.f ?_) | (refine FinS.agg ?_) | (refine FinS.tup ?_)))
      all_goals (try refine Side.mk ?_)
      all_goals (try simp only [decide_eq_true_eq, decide_eq_false_iff_not, Int.ofNat_lt, Int.ofNat_le, gt_iff_lt, ge_iff_le, true_and, Bool.not_eq_true', Bool.not_eq_false'] at *)
      all_goals first | rfl | trivial | exact fun _ _ => trivial | exact ⟨rfl, rfl⟩ | exact ⟨rfl, fun _ _ => rfl⟩ | exact ⟨rfl, rfl, fun _ _ => rfl⟩ | exact i64_id (by omega) (by omega) | omega
    · intro j hj; omega
    · intro i hi hpre
      repeat' ((fail_if_success (with_reducible refine Side.mk ?_)); first | ((fail_if_success (with_reducible refine Rest.mk ?_)); first | (with_reducible exact True.intro) | (with_reducible refine Need.mk ?_ ?_) | (with_reducible refine And.intro ?_ ?_) | (with_reducible intro _) | ((fail_if_success (with_reducible refine FinS.mk ?_)); (fail_if_success (with_reducible refine Le.mk ?_)); (conv => whnf)) | (refine FinS.b ?_) | (refine FinS.lb ?_) | (refine FinS.i ?_) | (refine FinS.f ?_) | (refine FinS.agg ?_) | (refine FinS.tup ?_)))
      all_goals (try (refine Le.of ?_; (conv => whnf)))
      repeat' ((fail_if_success (with_reducible refine Side.mk ?_)); first | ((fail_if_success (with_reducible refine Rest.mk ?_)); first | (with_reducible exact True.intro) | (with_reducible refine Need.mk ?_ ?_) | (with_reducible refine And.intro ?_ ?_) | (with_reducible intro _) | ((fail_if_success (with_reducible refine FinS.mk ?_)); (fail_if_success (with_reducible refine Le.mk ?_)); (conv => whnf)) | (refine FinS.b ?_) | (refine FinS.lb ?_) | (refine FinS.i ?_) | (refine FinS.f ?_) | (refine FinS.agg ?_) | (refine FinS.tup ?_)))
      all_goals (try refine Side.mk ?_)
      all_goals (try simp only [decide_eq_true_eq, decide_eq_false_iff_not, Int.ofNat_lt, Int.ofNat_le, gt_iff_lt, ge_iff_le, true_and, Bool.not_eq_true', Bool.not_eq_false'] at *)
      all_goals first | rfl | trivial | exact fun _ _ => trivial | exact ⟨rfl, rfl⟩ | exact ⟨rfl, fun _ _ => rfl⟩ | exact ⟨rfl, rfl, fun _ _ => rfl⟩ | exact i64_id (by omega) (by omega) | omega | (exact (rreals_5 hL (i := i) (by omega) ‹_›).symm) | (exact (rreals_0 hL fun j hj => hpre j (by omega)).symm) | (exact ⟨by omega, pre_up hpre ‹_›⟩)
  all_goals (try (refine Le.of ?_; (conv => whnf)))
  repeat' ((fail_if_success (with_reducible refine Side.mk ?_)); first | ((fail_if_success (with_reducible refine Rest.mk ?_)); first | (with_reducible exact True.intro) | (with_reducible refine Need.mk ?_ ?_) | (with_reducible refine And.intro ?_ ?_) | (with_reducible intro _) | ((fail_if_success (with_reducible refine FinS.mk ?_)); (fail_if_success (with_reducible refine Le.mk ?_)); (conv => whnf)) | (refine FinS.b ?_) | (refine FinS.lb ?_) | (refine FinS.i ?_) | (refine FinS.f ?_) | (refine FinS.agg ?_) | (refine FinS.tup ?_)))
  all_goals (try refine Side.mk ?_)
  all_goals (try simp only [decide_eq_true_eq, decide_eq_false_iff_not, Int.ofNat_lt, Int.ofNat_le, gt_iff_lt, ge_iff_le, true_and, Bool.not_eq_true', Bool.not_eq_false'] at *)
  all_goals first | rfl | trivial | exact fun _ _ => trivial | exact ⟨rfl, rfl⟩ | exact ⟨rfl, fun _ _ => rfl⟩ | exact ⟨rfl, rfl, fun _ _ => rfl⟩ | exact i64_id (by omega) (by omega) | omega | (exact (rreals_4 (by omega)).symm)
noncomputable def g61 : List MV → Option (List Prop × MV × List Blk × Bool)
  | [.ro 2 n get] => some ([isPts n get, n < big], .i .i64 (rrealsV n (pOf get)), [], false)
  | _ => none
theorem s61 : SumsOK Try.prog (sumOf 61 g61 S49) := by
  refine SumsOK.add S49_ok fun ms ps m blks al e hp => ?_
  unfold g61 at e
  split at e
  · cases e
    have h0 := hp _ (.head _)
    exact (le_arg1 (t61 _ (pOf _) (hp _ (.tail _ (.head _)))) (leR_pts h0)).aloneT rfl
  · cases e
noncomputable def S61 := sumOf 61 g61 S49
theorem S61_ok : SumsOK Try.prog S61 := s61
end Go.Ev.Clip
