/-
  The contracts of Reverse, Clone, ahead and sorted; for lists of at most 8796093022206 points.
-/
import Derived.Test.YtoilhalmmghhbaaHulK
set_option linter.unusedSimpArgs false
set_option linter.unusedVariables false
open Go Go.Proofs
namespace Go.Ev.Poly
set_option maxRecDepth 100000
set_option maxHeartbeats 1000000
open Go.Ev.So
/-- The first k and the last k rows changed with each other. -/
def rvI (n k : Nat) : Nat → Nat := fun z => if z < k ∨ (n - k ≤ z ∧ z < n) then n - 1 - z else z
theorem rv_0 (n z : Nat) : rvI n 0 z = z := by unfold rvI; split <;> omega
theorem rv_up {n k : Nat} (h : k + 1 ≤ n - 1 - k) (z : Nat) : rvI n k (swpI k (n - 1 - k) z) = rvI n (k + 1) z := by
  unfold rvI swpI; (repeat' split) <;> omega
theorem rv_end {n k : Nat} (h : ¬ k < n - 1 - k) (hk : k ≤ n) {z : Nat} (hz : z < n) : rvI n k z = n - 1 - z := by
  unfold rvI; split <;> omega
noncomputable def fi53 : FnI := ⟨28, Try.f53.body.getD .skip, [], true⟩
theorem fi53_ok : fnGen Try.prog 53 = some fi53 := by kernel_rfl
theorem zHS56_L {cx : Cx} : CallH (genQ Try.prog exts eqs [] S56).P cx (hnd (genQ Try.prog exts eqs [] S56) cx 6) := hnd_sound (genQ_full extsOK eqsOK S56_ok) 6
theorem zES56_L : EnvAll (genQ Try.prog exts eqs [] S56) := (genQ_full extsOK eqsOK S56_ok).toEnvAll
theorem t53 (n : Nat) (d : Nat → Nat × Nat) (c0 : n ≤ lim) (c1 : 0 < n) : CU Try.prog 53 2 n (rowP d) (rowP (fun z => d (n - 1 - z))) [] := by
  refine CU.of_genU (exts := exts) (eqs := eqs) (inl := []) (sum := S56) extsOK eqsOK S56_ok fi53_ok rfl (fun _ _ _ hj => flat_I hj) rfl fun cx => ?_
  refine evC_sound zES56_L (hndU_sound U47_k zHS56_L) ?_
  have c0' : n ≤ 1099511627776 := c0
  have w0 : IntKind.i64.wrap ((n : Int) - 1) = ((n - 1 : Nat) : Int) := wsub1 c1 (by omega)
  repeat' ((fail_if_success (with_reducible refine Side.mk ?_)); first | (refine Rest.mk (drawJ_sound zES56_L mixOK (hndU_sound U47_k zHS56_L) [3,2] (by decide +kernel) ?_)) | (refine Rest.mk (drawR_sound zES56_L mixOK (hndU_sound U47_k zHS56_L) ?_)) | ((fail_if_success (with_reducible refine Rest.mk ?_)); first | (with_reducible exact True.intro) | (with_reducible refine Need.mk ?_ ?_) | (with_reducible refine And.intro ?_ ?_) | (with_reducible intro _) | ((fail_if_success (with_reducible refine FinS.mk ?_)); (fail_if_success (with_reducible refine Le.mk ?_)); (conv => whnf)) | (refine FinS.b ?_) | (refine FinS.lb ?_) | (refine FinS.i ?_) | (refine FinS.f ?_) | (refine FinS.agg ?_) | (refine FinS.tup ?_)))
  refine loop_ruleD zES56_L (hndU_sound U47_k zHS56_L) (γ := Nat) (fun k => ⟨[(0, .os 0 2 0 n), (2, .i .i64 (k : Int)), (3, .i .i64 ((n - 1 - k : Nat) : Int))], [[(0, .os 0 2 0 n)]], [(0, .rows 2 n (rowP fun z => d (rvI n k z)))], 1⟩) (fun k => k ≤ n - 1 - k + 1 ∧ k ≤ n - 1) Nat.succ (fun k => n - k) (0) (Le.of ?_) ?_ ?_
  · conv => whnf
    repeat' ((fail_if_success (with_reducible refine Side.mk ?_)); first | (refine Rest.mk (drawJ_sound zES56_L mixOK (hndU_sound U47_k zHS56_L) [3,2] (by decide +kernel) ?_)) | (refine Rest.mk (drawR_sound zES56_L mixOK (hndU_sound U47_k zHS56_L) ?_)) | ((fail_if_success (with_reducible refine Rest.mk ?_)); first | (with_reducible exact True.intro) | (with_reducible refine Need.mk ?_ ?_) | (with_reducible refine And.intro ?_ ?_) | (with_reducible intro _) | ((fail_if_success (with_reducible refine FinS.mk ?_)); (fail_if_success (with_reducible refine Le.mk ?_)); (conv => whnf)) | (refine FinS.b ?_) | (refine FinS.lb ?_) | (refine FinS.i ?_) | (refine FinS.f ?_) | (refine FinS.agg ?_) | (refine FinS.tup ?_)))
    all_goals (try (refine Le.of ?_; (conv => whnf)))
    repeat' ((fail_if_success (with_reducible refine Side.mk ?_)); first | (refine Rest.mk (drawJ_sound zES56_L mixOK (hndU_sound U47_k zHS56_L) [3,2] (by decide +kernel) ?_)) | (refine Rest.mk (drawR_sound zES56_L mixOK (hndU_sound U47_k zHS56_L) ?_)) | ((fail_if_success (with_reducible refine Rest.mk ?_)); first | (with_reducible exact True.intro) | (with_reducible refine Need.mk ?_ ?_) | (with_reducible refine And.intro ?_ ?_) | (with_reducible intro _) | ((fail_if_success (with_reducible refine FinS.mk ?_)); (fail_if_success (with_reducible refine Le.mk ?_)); (conv => whnf)) | (refine FinS.b ?_) | (refine FinS.lb ?_) | (refine FinS.i ?_) | (refine FinS.f ?_) | (refine FinS.agg ?_) | (refine FinS.tup ?_)))
    all_goals (try refine Side.mk ?_)
    all_goals (try simp only [w0] at *)
    all_goals (try simp only [eq_self, decide_eq_true_eq, decide_eq_false_iff_not, Int.ofNat_lt, Int.ofNat_le, gt_iff_lt, ge_iff_le, true_and, Bool.not_eq_true', Bool.not_eq_false'] at *)
    all_goals first | (with_reducible exact w0) | (with_reducible rfl) | trivial | omega | rfl | exact fun _ _ => trivial | exact ⟨rfl, rfl⟩ | exact ⟨rfl, fun _ _ => rfl⟩ | exact ⟨rfl, rfl, fun _ _ => rfl⟩ | (exact fun _ _ _ _ => .inr trivial) | (exact ⟨trivial, fun _ _ _ _ => .inr trivial⟩) | (exact ⟨rfl, rfl, fun _ _ _ _ => .inr trivial⟩) | (exact fun i hi j hj => .inr (row_eq fun z => by rw [rv_0])) | (exact ⟨rfl, rfl, fun i hi j hj => .inr (row_eq fun z => by rw [rv_0])⟩) | (exact ⟨trivial, fun i hi j hj => .inr (row_eq fun z => by rw [rv_0])⟩) | (exact ⟨trivial, w0⟩) | ((rw [w0]; rfl))
  · omega
  · intro k hk
    rcases Nat.lt_or_ge k (n - 1 - k) with hlt | hge
    · have w1 : IntKind.i64.wrap ((k : Int) + 1) = ((k + 1 : Nat) : Int) := wadd1 (by omega)
      have w2 : IntKind.i64.wrap (((n - 1 - k : Nat) : Int) - 1) = ((n - 1 - (k + 1) : Nat) : Int) := (wsub1 (by omega) (by omega)).trans (by omega)
      repeat' ((fail_if_success (with_reducible refine Side.mk ?_)); first | (refine Rest.mk (drawJ_sound zES56_L mixOK (hndU_sound U47_k zHS56_L) [3,2] (by decide +kernel) ?_)) | (refine Rest.mk (drawR_sound zES56_L mixOK (hndU_sound U47_k zHS56_L) ?_)) | ((fail_if_success (with_reducible refine Rest.mk ?_)); first | (with_reducible exact True.intro) | (with_reducible refine Need.mk ?_ ?_) | (with_reducible refine And.intro ?_ ?_) | (with_reducible intro hcl; try (exfalso; (simp only [decide_eq_true_eq, decide_eq_false_iff_not] at hcl; omega); done)) | ((fail_if_success (with_reducible refine FinS.mk ?_)); (fail_if_success (with_reducible refine Le.mk ?_)); (conv => whnf)) | (refine FinS.b ?_) | (refine FinS.lb ?_) | (refine FinS.i ?_) | (refine FinS.f ?_) | (refine FinS.agg ?_) | (refine FinS.tup ?_)))
      all_goals (try (refine Le.of ?_; (conv => whnf)))
      repeat' ((fail_if_success (with_reducible refine Side.mk ?_)); first | (refine Rest.mk (drawJ_sound zES56_L mixOK (hndU_sound U47_k zHS56_L) [3,2] (by decide +kernel) ?_)) | (refine Rest.mk (drawR_sound zES56_L mixOK (hndU_sound U47_k zHS56_L) ?_)) | ((fail_if_success (with_reducible refine Rest.mk ?_)); first | (with_reducible exact True.intro) | (with_reducible refine Need.mk ?_ ?_) | (with_reducible refine And.intro ?_ ?_) | (with_reducible intro _) | ((fail_if_success (with_reducible refine FinS.mk ?_)); (fail_if_success (with_reducible refine Le.mk ?_)); (conv => whnf)) | (refine FinS.b ?_) | (refine FinS.lb ?_) | (refine FinS.i ?_) | (refine FinS.f ?_) | (refine FinS.agg ?_) | (refine FinS.tup ?_)))
      all_goals (try refine Side.mk ?_)
      all_goals (try simp only [w1, w2, Int.toNat_natCast, Nat.zero_add, Nat.succ_eq_add_one] at *)
      all_goals (try simp only [eq_self, decide_eq_true_eq, decide_eq_false_iff_not, Int.ofNat_lt, Int.ofNat_le, gt_iff_lt, ge_iff_le, true_and, Bool.not_eq_true', Bool.not_eq_false'] at *)
      all_goals first | (with_reducible rfl) | trivial | omega | rfl | exact fun _ _ => trivial | exact ⟨rfl, rfl⟩ | exact ⟨rfl, fun _ _ => rfl⟩ | exact ⟨rfl, rfl, fun _ _ => rfl⟩ | (exact ⟨by omega, by omega⟩) | (exact ⟨⟨by omega, by omega⟩, by omega⟩) | (exact fun _ _ _ _ => .inr trivial) | (exact ⟨trivial, fun _ _ _ _ => .inr trivial⟩) | (exact ⟨rfl, rfl, fun _ _ _ _ => .inr trivial⟩) | (exact fun q hq z hz => .inr (congrArg (fun l => getM l z) (upd_swp _ (fun z => congrArg d (rv_up (by omega) z))))) | (exact ⟨rfl, rfl, fun q hq z hz => .inr (congrArg (fun l => getM l z) (upd_swp _ (fun z => congrArg d (rv_up (by omega) z))))⟩) | (exact ⟨trivial, fun q hq z hz => .inr (congrArg (fun l => getM l z) (upd_swp _ (fun z => congrArg d (rv_up (by omega) z))))⟩)
    · have hr : ∀ z, z < n → d (rvI n k z) = d (n - 1 - z) := fun z hz => congrArg d (rv_end (by omega) (by omega) hz)
      repeat' ((fail_if_success (with_reducible refine Side.mk ?_)); first | (refine Rest.mk (drawJ_sound zES56_L mixOK (hndU_sound U47_k zHS56_L) [3,2] (by decide +kernel) ?_)) | (refine Rest.mk (drawR_sound zES56_L mixOK (hndU_sound U47_k zHS56_L) ?_)) | ((fail_if_success (with_reducible refine Rest.mk ?_)); first | (with_reducible exact True.intro) | (with_reducible refine Need.mk ?_ ?_) | (with_reducible refine And.intro ?_ ?_) | (with_reducible intro hcl; try (exfalso; (simp only [decide_eq_true_eq, decide_eq_false_iff_not] at hcl; omega); done)) | ((fail_if_success (with_reducible refine FinS.mk ?_)); (fail_if_success (with_reducible refine Le.mk ?_)); (conv => whnf)) | (refine FinS.b ?_) | (refine FinS.lb ?_) | (refine FinS.i ?_) | (refine FinS.f ?_) | (refine FinS.agg ?_) | (refine FinS.tup ?_)))
      all_goals (try (refine Le.of ?_; (conv => whnf)))
      repeat' ((fail_if_success (with_reducible refine Side.mk ?_)); first | (refine Rest.mk (drawJ_sound zES56_L mixOK (hndU_sound U47_k zHS56_L) [3,2] (by decide +kernel) ?_)) | (refine Rest.mk (drawR_sound zES56_L mixOK (hndU_sound U47_k zHS56_L) ?_)) | ((fail_if_success (with_reducible refine Rest.mk ?_)); first | (with_reducible exact True.intro) | (with_reducible refine Need.mk ?_ ?_) | (with_reducible refine And.intro ?_ ?_) | (with_reducible intro _) | ((fail_if_success (with_reducible refine FinS.mk ?_)); (fail_if_success (with_reducible refine Le.mk ?_)); (conv => whnf)) | (refine FinS.b ?_) | (refine FinS.lb ?_) | (refine FinS.i ?_) | (refine FinS.f ?_) | (refine FinS.agg ?_) | (refine FinS.tup ?_)))
      all_goals (try refine Side.mk ?_)
      all_goals (try simp only [Int.toNat_natCast, Nat.zero_add] at *)
      all_goals (try simp only [eq_self, decide_eq_true_eq, decide_eq_false_iff_not, Int.ofNat_lt, Int.ofNat_le, gt_iff_lt, ge_iff_le, true_and, Bool.not_eq_true', Bool.not_eq_false'] at *)
      all_goals first | (with_reducible rfl) | trivial | omega | rfl | exact fun _ _ => trivial | exact ⟨rfl, rfl⟩ | exact ⟨rfl, fun _ _ => rfl⟩ | exact ⟨rfl, rfl, fun _ _ => rfl⟩ | (exact fun i hi j hj => congrArg (fun v => getM (ptM v) j) (hr i hi)) | (exact ⟨rfl, rfl, rfl, fun i hi j hj => congrArg (fun v => getM (ptM v) j) (hr i hi)⟩)
def u53 : UT := fun sz n g rest => match sz, rest with
  | 2, [] => some ([isPts n g, n ≤ lim, 0 < n], rowP (fun z => pOf g (n - 1 - z)))
  | _, _ => none
theorem U53_ok : UOK Try.prog (uAdd 53 u53 U47) := by
  refine UOK.add U47_k fun sz n g rest ps g' e hp => ?_
  unfold u53 at e
  split at e
  · cases e
    have h0 := hp _ (.head _)
    have h2 := hp _ (.tail _ (.head _))
    have h3 := hp _ (.tail _ (.tail _ (.head _)))
    exact CU.leG (t53 n (pOf g) h2 h3) (le_I h0)
  · cases e
noncomputable def U53 := uAdd 53 u53 U47
theorem U53_k : UOK Try.prog U53 := U53_ok
def ahA (a b : Nat × Nat) : Bool := flt .f64 a.1 b.1 || (feq .f64 a.1 b.1 && flt .f64 a.2 b.2)
def eqQ (a b : Nat × Nat) : Bool := feq .f64 a.1 b.1 && (feq .f64 a.2 b.2 && true)
noncomputable def fi82 : FnI := ⟨24, Try.f82.body.getD .skip, [.tmp 4], true⟩
theorem fi82_ok : fnGen Try.prog 82 = some fi82 := by kernel_rfl
theorem t82 (a1 : Nat) (a2 : Nat) (b1 : Nat) (b2 : Nat) : CM Try.prog 82 [.agg [.f .f64 a1, .f .f64 a2], .agg [.f .f64 b1, .f .f64 b2]] (.b (flt .f64 a1 b1 || (feq .f64 a1 b1 && flt .f64 a2 b2))) [] true := by
  refine CM.of_genQ (exts := exts) (eqs := eqs) (inl := []) (sum := S56) extsOK eqsOK S56_ok fi82_ok 6 rfl fun cx => ?_
  repeat' ((fail_if_success (with_reducible refine Side.mk ?_)); first | ((fail_if_success (with_reducible refine Rest.mk ?_)); first | (with_reducible exact True.intro) | (with_reducible refine Need.mk ?_ ?_) | (with_reducible refine And.intro ?_ ?_) | (with_reducible intro _) | ((fail_if_success (with_reducible refine FinS.mk ?_)); (fail_if_success (with_reducible refine Le.mk ?_)); (conv => whnf)) | (refine FinS.b ?_) | (refine FinS.lb ?_) | (refine FinS.i ?_) | (refine FinS.f ?_) | (refine FinS.agg ?_) | (refine FinS.tup ?_)))
  all_goals first | exact ⟨rfl⟩
noncomputable def g82 : List MV → Option (List Prop × MV × List Blk × Bool)
  | [.agg [.f .f64 a1, .f .f64 a2], .agg [.f .f64 b1, .f .f64 b2]] => some ([], (.b (flt .f64 a1 b1 || (feq .f64 a1 b1 && flt .f64 a2 b2))), [], false)
  | _ => none
theorem s82 : SumsOK Try.prog (sumOf 82 g82 S56) := by
  refine SumsOK.add S56_ok fun ms ps m blks al e hp => ?_
  unfold g82 at e
  split at e
  · cases e; exact (t82 _ _ _ _ ).aloneT rfl
  · cases e
noncomputable def S82 := sumOf 82 g82 S56
theorem S82_ok : SumsOK Try.prog S82 := s82
theorem dropM_nil : ∀ m, dropM [] m = [] := fun m => by cases m <;> rfl
theorem clone_get {k j : Nat} {p : Nat → Nat × Nat} {g0 : Nat → List MV} (h : g0 k = []) : getM (appGet 0 g0 (fun j => ptM (p j)) k) j = getM (ptM (p k)) j := by
  unfold appGet
  rw [h, blt_f (Nat.zero_le k), Nat.sub_zero]; rfl
noncomputable def fi46 : FnI := ⟨8, Try.f46.body.getD .skip, [.tmp 2], true⟩
theorem fi46_ok : fnGen Try.prog 46 = some fi46 := by kernel_rfl
theorem zHS82_L {cx : Cx} : CallH (genQ Try.prog exts eqs [] S82).P cx (hnd (genQ Try.prog exts eqs [] S82) cx 6) := hnd_sound (genQ_full extsOK eqsOK S82_ok) 6
theorem zES82_L : EnvAll (genQ Try.prog exts eqs [] S82) := (genQ_full extsOK eqsOK S82_ok).toEnvAll
theorem t46 (n : Nat) (p : Nat → Nat × Nat) (c0 : n ≤ room) : CM Try.prog 46 [.ro 2 n (fun j => ptM (p j))] (.os 0 2 0 n) [.rows 2 n fun i => ptM (p i)] true := by
  refine CM.of_code zES82_L (fnGen_ok fi46_ok) rfl fun w0 okA => ?_
  refine evC_sound (genQ_full extsOK eqsOK S82_ok).toEnvAll (hndU_sound U53_k zHS82_L) ?_
  have c1 : n ≤ 8796093022206 := c0
  repeat' ((fail_if_success (with_reducible refine Side.mk ?_)); first | ((fail_if_success (with_reducible refine Rest.mk ?_)); first | (with_reducible exact True.intro) | (with_reducible refine Need.mk ?_ ?_) | (with_reducible refine And.intro ?_ ?_) | (with_reducible intro _) | ((fail_if_success (with_reducible refine FinS.mk ?_)); (fail_if_success (with_reducible refine Le.mk ?_)); (conv => whnf)) | (refine FinS.b ?_) | (refine FinS.lb ?_) | (refine FinS.i ?_) | (refine FinS.f ?_) | (refine FinS.agg ?_) | (refine FinS.tup ?_)))
  · rename_i b hb hb2
    have hn : n = 0 := by
      rcases Nat.eq_zero_or_pos n with h | h
      · exact h
      · rw [hb h] at hb2; cases hb2
    exact FinS.rows0 ⟨hn⟩ ⟨hn⟩
  · exact ⟨⟨trivial, Nat.le_refl _, (by show (0 + n) * 16 ≤ _; omega), by omega⟩⟩
  · exact FinS.rows 0 ⟨rfl, Nat.zero_add _, fun k hk j hj => clone_get (dropM_nil _)⟩ ⟨rfl, rfl, Nat.zero_add _⟩
noncomputable def g46 : List MV → Option (List Prop × MV × List Blk × Bool)
  | [.ro 2 n get] => some ([isPts n get, n ≤ room], .os 0 2 0 n, [.rows 2 n fun i => ptM (pOf get i)], true)
  | _ => none
theorem s46 : SumsOK Try.prog (sumOf 46 g46 S82) := by
  refine SumsOK.add S82_ok fun ms ps m blks al e hp => ?_
  unfold g46 at e
  split at e
  · cases e
    exact (le_arg1 (t46 _ (pOf _) (hp _ (.tail _ (.head _)))) (leR_pts (hp _ (.head _))))
  · cases e
noncomputable def S46 := sumOf 46 g46 S82
theorem S46_ok : SumsOK Try.prog S46 := s46
def anyK (f : Nat → Nat × Nat) (q : Nat × Nat) : Nat → Bool
  | 0 => false
  | k + 1 => anyK f q k || eqQ (f k) q
def apP (c : Nat) (v : Nat × Nat) (f : Nat → Nat × Nat) : Nat → Nat × Nat := fun k => bif Nat.blt k c then f k else v
/-- Sorted, each place once: so many, these. -/
def sdC (p : Nat → Nat × Nat) : Nat → Nat × (Nat → Nat × Nat)
  | 0 => (0, fun _ => z2)
  | i + 1 => bif anyK (sdC p i).2 (p i) (sdC p i).1 then sdC p i else ((sdC p i).1 + 1, insD ahA 0 (sdC p i).1 (apP (sdC p i).1 (p i) (sdC p i).2))
theorem sd_t {p : Nat → Nat × Nat} {i : Nat} (h : anyK (sdC p i).2 (p i) (sdC p i).1 = true) : sdC p (i + 1) = sdC p i := by show (bif _ then _ else _) = _; rw [h]; rfl
theorem sd_f {p : Nat → Nat × Nat} {i : Nat} (h : anyK (sdC p i).2 (p i) (sdC p i).1 = false) : sdC p (i + 1) = ((sdC p i).1 + 1, insD ahA 0 (sdC p i).1 (apP (sdC p i).1 (p i) (sdC p i).2)) := by show (bif _ then _ else _) = _; rw [h]; rfl
theorem sd_le (p : Nat → Nat × Nat) : ∀ i, (sdC p i).1 ≤ i
  | 0 => Nat.le_refl _
  | i + 1 => by
    have := sd_le p i
    cases h : anyK (sdC p i).2 (p i) (sdC p i).1
    · rw [sd_f h]; show _ + 1 ≤ _; omega
    · rw [sd_t h]; omega
theorem apP_lo {c k : Nat} {v : Nat × Nat} {f : Nat → Nat × Nat} (h : k < c) : apP c v f k = f k := by unfold apP; rw [blt_t h]; rfl
theorem apP_at {c : Nat} {v : Nat × Nat} {f : Nat → Nat × Nat} : apP c v f c = v := by unfold apP; rw [blt_f (Nat.le_refl c)]; rfl
theorem app_p {c : Nat} {v : Nat × Nat} {f : Nat → Nat × Nat} {X : Nat → List MV} {tl : List MV} (hX : X 0 = .f .f64 v.1 :: .f .f64 v.2 :: tl) {k j : Nat} (hk : k < c + 1) (hj : j < 2) : getM (appGet c (rowP f) X k) j = getM (rowP (apP c v f) k) j := by
  unfold appGet rowP
  rw [show k - c = 0 by omega, hX]
  have hj : j = 0 ∨ j = 1 := by omega
  rcases Nat.lt_or_eq_of_le (Nat.le_of_lt_succ hk) with e | e
  · rw [blt_t e, apP_lo e]; rcases hj with rfl | rfl <;> rfl
  · subst e; rw [blt_f (Nat.le_refl _), apP_at]; rcases hj with rfl | rfl <;> rfl
structure InsA (a i0 : Nat) (f : Nat → Nat × Nat) (x : Nat × (Nat → Nat × Nat)) : Prop where
  le : a ≤ x.1 ∧ x.1 ≤ i0
  e : insD ahA a x.1 x.2 = insD ahA a i0 f
theorem InsA.next {a i0 j : Nat} {f e : Nat → Nat × Nat} (h : InsA a i0 f (j, e)) (hj : a < j) (hl : ahA (e j) (e (j - 1)) = true) : InsA a i0 f (j - 1, swp e j (j - 1)) := by
  have hle := h.le
  dsimp only at hle
  refine ⟨by dsimp only; omega, ?_⟩
  have he := h.e
  dsimp only at he ⊢
  rw [← he]
  obtain ⟨j, rfl⟩ : ∃ k, j = k + 1 := ⟨j - 1, by omega⟩
  rw [Nat.add_sub_cancel] at hl ⊢
  conv => rhs; unfold insD
  rw [hl, decide_eq_true hj]; rfl
theorem InsA.stop {a i0 j : Nat} {f e : Nat → Nat × Nat} (h : InsA a i0 f (j, e)) (hl : (decide (a < j) && ahA (e j) (e (j - 1))) = false) : e = insD ahA a i0 f := by
  have he := h.e
  dsimp only at he
  rw [← he]
  cases j with
  | zero => rfl
  | succ j =>
    rw [Nat.add_sub_cancel] at hl
    unfold insD
    rw [hl]; rfl
theorem InsA.stop0 {a i0 j : Nat} {f e : Nat → Nat × Nat} (h : InsA a i0 f (j, e)) (hj : ¬ a < j) : e = insD ahA a i0 f := h.stop (by rw [decide_eq_false hj]; rfl)
theorem ahA_c {a b : Nat × Nat} : (flt .f64 a.1 b.1 || (feq .f64 a.1 b.1 && flt .f64 a.2 b.2)) = ahA a b := rfl
theorem eqQ_c {a b : Nat × Nat} : (feq .f64 a.1 b.1 && (feq .f64 a.2 b.2 && true)) = eqQ a b := rfl
noncomputable def fi55 : FnI := ⟨76, Try.f55.body.getD .skip, [.tmp 2], true⟩
theorem fi55_ok : fnGen Try.prog 55 = some fi55 := by kernel_rfl
theorem zHS46_L {cx : Cx} : CallH (genQ Try.prog exts eqs [] S46).P cx (hnd (genQ Try.prog exts eqs [] S46) cx 6) := hnd_sound (genQ_full extsOK eqsOK S46_ok) 6
theorem zES46_L : EnvAll (genQ Try.prog exts eqs [] S46) := (genQ_full extsOK eqsOK S46_ok).toEnvAll
theorem t55 (n : Nat) (p : Nat → Nat × Nat) (c0 : n ≤ room) : CM Try.prog 55 [.ro 2 n (fun j => ptM (p j))] (.os 0 2 0 (sdC p n).1) [.rows 2 (sdC p n).1 (rowP (sdC p n).2)] true := by
  refine CM.of_code zES46_L (fnGen_ok fi55_ok) rfl fun w0 okA => ?_
  refine evC_sound (genQ_full extsOK eqsOK S46_ok).toEnvAll (hndU_sound U53_k zHS46_L) ?_
  have c1 : n ≤ 8796093022206 := c0
  repeat' ((fail_if_success (with_reducible refine Side.mk ?_)); first | (refine Rest.mk (drawJ_sound zES46_L mixOK (hndU_sound U53_k zHS46_L) [4,3,2] (by decide +kernel) ?_)) | (refine Rest.mk (drawR_sound zES46_L mixOK (hndU_sound U53_k zHS46_L) ?_)) | ((fail_if_success (with_reducible refine Rest.mk ?_)); first | (with_reducible exact True.intro) | (with_reducible refine Need.mk ?_ ?_) | (with_reducible refine And.intro ?_ ?_) | (with_reducible intro _) | ((fail_if_success (with_reducible refine FinS.mk ?_)); (fail_if_success (with_reducible refine Le.mk ?_)); (conv => whnf)) | (refine FinS.b ?_) | (refine FinS.lb ?_) | (refine FinS.i ?_) | (refine FinS.f ?_) | (refine FinS.agg ?_) | (refine FinS.tup ?_)))
  refine loop_ruleD zES46_L (hndU_sound U53_k zHS46_L) (γ := Nat) (fun i => ⟨[(0, .ro 2 n (fun j => ptM (p j))), (3, .os 0 2 0 (sdC p i).1), (4, .i .i64 (i : Int))], [], [(0, .rows 2 (sdC p i).1 (rowP (sdC p i).2))], 1⟩) (fun i => i ≤ n) Nat.succ (fun i => n - i) (0) (Le.phan 2 (Le.of ?_)) ?_ ?_
  · conv => whnf
    repeat' ((fail_if_success (with_reducible refine Side.mk ?_)); first | (refine Rest.mk (drawJ_sound zES46_L mixOK (hndU_sound U53_k zHS46_L) [4,3,2] (by decide +kernel) ?_)) | (refine Rest.mk (drawR_sound zES46_L mixOK (hndU_sound U53_k zHS46_L) ?_)) | ((fail_if_success (with_reducible refine Rest.mk ?_)); first | (with_reducible exact True.intro) | (with_reducible refine Need.mk ?_ ?_) | (with_reducible refine And.intro ?_ ?_) | (with_reducible intro _) | ((fail_if_success (with_reducible refine FinS.mk ?_)); (fail_if_success (with_reducible refine Le.mk ?_)); (conv => whnf)) | (refine FinS.b ?_) | (refine FinS.lb ?_) | (refine FinS.i ?_) | (refine FinS.f ?_) | (refine FinS.agg ?_) | (refine FinS.tup ?_)))
    all_goals (try (refine Le.of ?_; (conv => whnf)))
    repeat' ((fail_if_success (with_reducible refine Side.mk ?_)); first | (refine Rest.mk (drawJ_sound zES46_L mixOK (hndU_sound U53_k zHS46_L) [4,3,2] (by decide +kernel) ?_)) | (refine Rest.mk (drawR_sound zES46_L mixOK (hndU_sound U53_k zHS46_L) ?_)) | ((fail_if_success (with_reducible refine Rest.mk ?_)); first | (with_reducible exact True.intro) | (with_reducible refine Need.mk ?_ ?_) | (with_reducible refine And.intro ?_ ?_) | (with_reducible intro _) | ((fail_if_success (with_reducible refine FinS.mk ?_)); (fail_if_success (with_reducible refine Le.mk ?_)); (conv => whnf)) | (refine FinS.b ?_) | (refine FinS.lb ?_) | (refine FinS.i ?_) | (refine FinS.f ?_) | (refine FinS.agg ?_) | (refine FinS.tup ?_)))
    all_goals (try refine Side.mk ?_)
    all_goals (try simp only [eq_self, decide_eq_true_eq, decide_eq_false_iff_not, Int.ofNat_lt, Int.ofNat_le, gt_iff_lt, ge_iff_le, true_and, Bool.not_eq_true', Bool.not_eq_false'] at *)
    all_goals first | (with_reducible rfl) | trivial | omega | rfl | exact fun _ _ => trivial | exact ⟨rfl, rfl⟩ | exact ⟨rfl, fun _ _ => rfl⟩ | exact ⟨rfl, rfl, fun _ _ => rfl⟩ | (exact fun _ _ _ _ => .inr trivial) | (exact ⟨trivial, fun _ _ _ _ => .inr trivial⟩) | (exact ⟨rfl, rfl, fun _ _ _ _ => .inr trivial⟩) | (exact fun k hk j hj => absurd hk (Nat.not_lt_zero _)) | (exact ⟨rfl, rfl, fun k hk j hj => absurd hk (Nat.not_lt_zero _)⟩) | (exact ⟨trivial, fun k hk j hj => absurd hk (Nat.not_lt_zero _)⟩) | (exact fun _ hi _ _ => absurd hi (Nat.not_lt_zero _)) | (exact ⟨rfl, fun _ hi _ _ => absurd hi (Nat.not_lt_zero _)⟩)
  · omega
  · intro i hi
    have hl := sd_le p i
    have wi : IntKind.i64.wrap ((i : Int) + 1) = ((i + 1 : Nat) : Int) := wadd1 (by omega)
    have w2 : IntKind.i64.wrap ((((sdC p i).1 + 1 : Nat) : Int) - 1) = (((sdC p i).1 : Nat) : Int) := (wsub1 (by omega) (by omega)).trans (by omega)
    rcases Nat.lt_or_ge i n with hlt | hge
    · repeat' ((fail_if_success (with_reducible refine Side.mk ?_)); first | (refine Rest.mk (drawJ_sound zES46_L mixOK (hndU_sound U53_k zHS46_L) [4,3,2] (by decide +kernel) ?_)) | (refine Rest.mk (drawR_sound zES46_L mixOK (hndU_sound U53_k zHS46_L) ?_)) | ((fail_if_success (with_reducible refine Rest.mk ?_)); first | (with_reducible exact True.intro) | (with_reducible refine Need.mk ?_ ?_) | (with_reducible refine And.intro ?_ ?_) | (with_reducible intro hcl; try (exfalso; (simp only [decide_eq_true_eq, decide_eq_false_iff_not] at hcl; omega); done)) | ((fail_if_success (with_reducible refine FinS.mk ?_)); (fail_if_success (with_reducible refine Le.mk ?_)); (conv => whnf)) | (refine FinS.b ?_) | (refine FinS.lb ?_) | (refine FinS.i ?_) | (refine FinS.f ?_) | (refine FinS.agg ?_) | (refine FinS.tup ?_)))
      refine loop_ruleD zES46_L (hndU_sound U53_k zHS46_L) (γ := Nat) (fun k => ⟨[(0, .ro 2 n (fun j => ptM (p j))), (3, .os 0 2 0 (sdC p i).1), (4, .i .i64 (i : Int)), (5, .b (anyK (sdC p i).2 (p i) k)), (6, .i .i64 (k : Int))], [], [(0, .rows 2 (sdC p i).1 (rowP (sdC p i).2))], 1⟩) (fun k => k ≤ (sdC p i).1) Nat.succ (fun k => (sdC p i).1 - k) (0) (Le.of ?_) ?_ ?_
      · conv => whnf
        repeat' ((fail_if_success (with_reducible refine Side.mk ?_)); first | (refine Rest.mk (drawJ_sound zES46_L mixOK (hndU_sound U53_k zHS46_L) [4,3,2] (by decide +kernel) ?_)) | (refine Rest.mk (drawR_sound zES46_L mixOK (hndU_sound U53_k zHS46_L) ?_)) | ((fail_if_success (with_reducible refine Rest.mk ?_)); first | (with_reducible exact True.intro) | (with_reducible refine Need.mk ?_ ?_) | (with_reducible refine And.intro ?_ ?_) | (with_reducible intro _) | ((fail_if_success (with_reducible refine FinS.mk ?_)); (fail_if_success (with_reducible refine Le.mk ?_)); (conv => whnf)) | (refine FinS.b ?_) | (refine FinS.lb ?_) | (refine FinS.i ?_) | (refine FinS.f ?_) | (refine FinS.agg ?_) | (refine FinS.tup ?_)))
        all_goals (try (refine Le.of ?_; (conv => whnf)))
        repeat' ((fail_if_success (with_reducible refine Side.mk ?_)); first | (refine Rest.mk (drawJ_sound zES46_L mixOK (hndU_sound U53_k zHS46_L) [4,3,2] (by decide +kernel) ?_)) | (refine Rest.mk (drawR_sound zES46_L mixOK (hndU_sound U53_k zHS46_L) ?_)) | ((fail_if_success (with_reducible refine Rest.mk ?_)); first | (with_reducible exact True.intro) | (with_reducible refine Need.mk ?_ ?_) | (with_reducible refine And.intro ?_ ?_) | (with_reducible intro _) | ((fail_if_success (with_reducible refine FinS.mk ?_)); (fail_if_success (with_reducible refine Le.mk ?_)); (conv => whnf)) | (refine FinS.b ?_) | (refine FinS.lb ?_) | (refine FinS.i ?_) | (refine FinS.f ?_) | (refine FinS.agg ?_) | (refine FinS.tup ?_)))
        all_goals (try refine Side.mk ?_)
        all_goals (try simp only [eq_self, decide_eq_true_eq, decide_eq_false_iff_not, Int.ofNat_lt, Int.ofNat_le, gt_iff_lt, ge_iff_le, true_and, Bool.not_eq_true', Bool.not_eq_false'] at *)
        all_goals first | (with_reducible rfl) | trivial | omega | rfl | exact fun _ _ => trivial | exact ⟨rfl, rfl⟩ | exact ⟨rfl, fun _ _ => rfl⟩ | exact ⟨rfl, rfl, fun _ _ => rfl⟩ | (exact fun _ _ _ _ => .inr trivial) | (exact ⟨trivial, fun _ _ _ _ => .inr trivial⟩) | (exact ⟨rfl, rfl, fun _ _ _ _ => .inr trivial⟩) | (exact fun k hk j hj => .inr rfl) | (exact ⟨rfl, rfl, fun k hk j hj => .inr rfl⟩) | (exact ⟨trivial, fun k hk j hj => .inr rfl⟩) | (exact ⟨rfl, rfl, rfl⟩)
      · omega
      · intro k hk
        have wk : IntKind.i64.wrap ((k : Int) + 1) = ((k + 1 : Nat) : Int) := wadd1 (by omega)
        rcases Nat.lt_or_ge k (sdC p i).1 with hkl | hkg
        · repeat' ((fail_if_success (with_reducible refine Side.mk ?_)); first | (refine Rest.mk (drawJ_sound zES46_L mixOK (hndU_sound U53_k zHS46_L) [4,3,2] (by decide +kernel) ?_)) | (refine Rest.mk (drawR_sound zES46_L mixOK (hndU_sound U53_k zHS46_L) ?_)) | ((fail_if_success (with_reducible refine Rest.mk ?_)); first | (with_reducible exact True.intro) | (with_reducible refine Need.mk ?_ ?_) | (with_reducible refine And.intro ?_ ?_) | (with_reducible intro hcl; try (exfalso; (simp only [decide_eq_true_eq, decide_eq_false_iff_not] at hcl; omega); done)) | ((fail_if_success (with_reducible refine FinS.mk ?_)); (fail_if_success (with_reducible refine Le.mk ?_)); (conv => whnf)) | (refine FinS.b ?_) | (refine FinS.lb ?_) | (refine FinS.i ?_) | (refine FinS.f ?_) | (refine FinS.agg ?_) | (refine FinS.tup ?_)))
          all_goals (try (refine Le.of ?_; (conv => whnf)))
          repeat' ((fail_if_success (with_reducible refine Side.mk ?_)); first | (refine Rest.mk (drawJ_sound zES46_L mixOK (hndU_sound U53_k zHS46_L) [4,3,2] (by decide +kernel) ?_)) | (refine Rest.mk (drawR_sound zES46_L mixOK (hndU_sound U53_k zHS46_L) ?_)) | ((fail_if_success (with_reducible refine Rest.mk ?_)); first | (with_reducible exact True.intro) | (with_reducible refine Need.mk ?_ ?_) | (with_reducible refine And.intro ?_ ?_) | (with_reducible intro _) | ((fail_if_success (with_reducible refine FinS.mk ?_)); (fail_if_success (with_reducible refine Le.mk ?_)); (conv => whnf)) | (refine FinS.b ?_) | (refine FinS.lb ?_) | (refine FinS.i ?_) | (refine FinS.f ?_) | (refine FinS.agg ?_) | (refine FinS.tup ?_)))
          all_goals (try refine Side.mk ?_)
          all_goals (try simp only [Int.toNat_natCast, Nat.zero_add, ahA_c, eqQ_c, Nat.succ_eq_add_one, wk] at *)
          all_goals (try simp only [eq_self, decide_eq_true_eq, decide_eq_false_iff_not, Int.ofNat_lt, Int.ofNat_le, gt_iff_lt, ge_iff_le, true_and, Bool.not_eq_true', Bool.not_eq_false'] at *)
          all_goals first | (with_reducible rfl) | trivial | omega | rfl | exact fun _ _ => trivial | exact ⟨rfl, rfl⟩ | exact ⟨rfl, fun _ _ => rfl⟩ | exact ⟨rfl, rfl, fun _ _ => rfl⟩ | (exact ⟨by omega, by omega⟩) | (exact fun _ => ⟨by omega, by omega⟩) | (exact fun _ => (by omega)) | (exact fun _ _ _ _ => .inr trivial) | (exact ⟨trivial, fun _ _ _ _ => .inr trivial⟩) | (exact ⟨rfl, rfl, fun _ _ _ _ => .inr trivial⟩) | (exact fun k hk j hj => .inr rfl) | (exact ⟨rfl, rfl, fun k hk j hj => .inr rfl⟩) | (exact ⟨trivial, fun k hk j hj => .inr rfl⟩)
        · obtain rfl : k = (sdC p i).1 := by omega
          cases hd : anyK (sdC p i).2 (p i) (sdC p i).1
          · repeat' ((fail_if_success (with_reducible refine Side.mk ?_)); first | (refine Rest.mk (drawJ_sound zES46_L mixOK (hndU_sound U53_k zHS46_L) [4,3,2] (by decide +kernel) ?_)) | (refine Rest.mk (drawR_sound zES46_L mixOK (hndU_sound U53_k zHS46_L) ?_)) | ((fail_if_success (with_reducible refine Rest.mk ?_)); first | (with_reducible exact True.intro) | (with_reducible refine Need.mk ?_ ?_) | (with_reducible refine And.intro ?_ ?_) | (with_reducible intro hcl; try (exfalso; (first | (simp only [decide_eq_true_eq, decide_eq_false_iff_not] at hcl; omega) | (exact absurd hcl (by decide)) | (rw [hd] at hcl; cases hcl; done)); done)) | ((fail_if_success (with_reducible refine FinS.mk ?_)); (fail_if_success (with_reducible refine Le.mk ?_)); (conv => whnf)) | (refine FinS.b ?_) | (refine FinS.lb ?_) | (refine FinS.i ?_) | (refine FinS.f ?_) | (refine FinS.agg ?_) | (refine FinS.tup ?_)))
            all_goals (try (refine Side.mk ?_; (try simp only [Int.toNat_natCast, Nat.zero_add, ahA_c, eqQ_c, Nat.succ_eq_add_one] at *); (try simp only [eq_self, decide_eq_true_eq, decide_eq_false_iff_not, Int.ofNat_lt, Int.ofNat_le, gt_iff_lt, ge_iff_le, true_and, Bool.not_eq_true', Bool.not_eq_false'] at *); all_goals first | (with_reducible rfl) | trivial | omega | rfl | exact fun _ _ => trivial | exact ⟨rfl, rfl⟩ | exact ⟨rfl, fun _ _ => rfl⟩ | exact ⟨rfl, rfl, fun _ _ => rfl⟩ | (exact ⟨by omega, by omega, by show ((sdC p i).1 + 1) * 16 ≤ _; omega, by omega⟩) | (exact ⟨by omega, by omega⟩)))
            refine loop_ruleD zES46_L (hndU_sound U53_k zHS46_L) (γ := Nat × (Nat → Nat × Nat)) (fun x => ⟨[(0, .ro 2 n (fun j => ptM (p j))), (3, .os 0 2 0 ((sdC p i).1 + 1)), (4, .i .i64 (i : Int)), (7, .i .i64 (x.1 : Int))], [], [(0, .rows 2 ((sdC p i).1 + 1) (rowP x.2))], 1⟩) (fun x => InsA 0 (sdC p i).1 (apP (sdC p i).1 (p i) (sdC p i).2) x) insN (fun x => x.1) (((sdC p i).1, apP (sdC p i).1 (p i) (sdC p i).2)) (Le.of ?_) ?_ ?_
            · conv => whnf
              repeat' ((fail_if_success (with_reducible refine Side.mk ?_)); first | (refine Rest.mk (drawJ_sound zES46_L mixOK (hndU_sound U53_k zHS46_L) [4,3,2] (by decide +kernel) ?_)) | (refine Rest.mk (drawR_sound zES46_L mixOK (hndU_sound U53_k zHS46_L) ?_)) | ((fail_if_success (with_reducible refine Rest.mk ?_)); first | (with_reducible exact True.intro) | (with_reducible refine Need.mk ?_ ?_) | (with_reducible refine And.intro ?_ ?_) | (with_reducible intro _) | ((fail_if_success (with_reducible refine FinS.mk ?_)); (fail_if_success (with_reducible refine Le.mk ?_)); (conv => whnf)) | (refine FinS.b ?_) | (refine FinS.lb ?_) | (refine FinS.i ?_) | (refine FinS.f ?_) | (refine FinS.agg ?_) | (refine FinS.tup ?_)))
              all_goals (try (refine Le.of ?_; (conv => whnf)))
              repeat' ((fail_if_success (with_reducible refine Side.mk ?_)); first | (refine Rest.mk (drawJ_sound zES46_L mixOK (hndU_sound U53_k zHS46_L) [4,3,2] (by decide +kernel) ?_)) | (refine Rest.mk (drawR_sound zES46_L mixOK (hndU_sound U53_k zHS46_L) ?_)) | ((fail_if_success (with_reducible refine Rest.mk ?_)); first | (with_reducible exact True.intro) | (with_reducible refine Need.mk ?_ ?_) | (with_reducible refine And.intro ?_ ?_) | (with_reducible intro _) | ((fail_if_success (with_reducible refine FinS.mk ?_)); (fail_if_success (with_reducible refine Le.mk ?_)); (conv => whnf)) | (refine FinS.b ?_) | (refine FinS.lb ?_) | (refine FinS.i ?_) | (refine FinS.f ?_) | (refine FinS.agg ?_) | (refine FinS.tup ?_)))
              all_goals (try refine Side.mk ?_)
              all_goals (try simp only [Int.toNat_natCast, Nat.zero_add, ahA_c, eqQ_c, Nat.succ_eq_add_one, w2] at *)
              all_goals (try simp only [eq_self, decide_eq_true_eq, decide_eq_false_iff_not, Int.ofNat_lt, Int.ofNat_le, gt_iff_lt, ge_iff_le, true_and, Bool.not_eq_true', Bool.not_eq_false'] at *)
              all_goals first | (with_reducible exact w2) | (with_reducible rfl) | trivial | omega | rfl | exact fun _ _ => trivial | exact ⟨rfl, rfl⟩ | exact ⟨rfl, fun _ _ => rfl⟩ | exact ⟨rfl, rfl, fun _ _ => rfl⟩ | (exact fun _ _ _ _ => .inr trivial) | (exact ⟨trivial, fun _ _ _ _ => .inr trivial⟩) | (exact ⟨rfl, rfl, fun _ _ _ _ => .inr trivial⟩) | (exact fun k hk j hj => .inr (app_p rfl hk hj)) | (exact ⟨rfl, rfl, fun k hk j hj => .inr (app_p rfl hk hj)⟩) | (exact ⟨trivial, fun k hk j hj => .inr (app_p rfl hk hj)⟩)
            · exact ⟨by dsimp only; omega, rfl⟩
            · intro x hx
              obtain ⟨j, e⟩ := x
              have hp := hx.le
              dsimp only at hp
              have hs1 : (sdC p i).1 + 1 = (sdC p (i + 1)).1 := by rw [sd_f hd]
              rcases Nat.lt_or_ge 0 j with haj | haj
              · have hj1 : IntKind.i64.wrap ((j : Int) - 1) = ((j - 1 : Nat) : Int) := wsub1 (by omega) (by omega)
                repeat' ((fail_if_success (with_reducible refine Side.mk ?_)); first | (refine Rest.mk (drawJ_sound zES46_L mixOK (hndU_sound U53_k zHS46_L) [4,3,2] (by decide +kernel) ?_)) | (refine Rest.mk (drawR_sound zES46_L mixOK (hndU_sound U53_k zHS46_L) ?_)) | ((fail_if_success (with_reducible refine Rest.mk ?_)); first | (with_reducible exact True.intro) | (with_reducible refine Need.mk ?_ ?_) | (with_reducible refine And.intro ?_ ?_) | (with_reducible intro _) | ((fail_if_success (with_reducible refine FinS.mk ?_)); (fail_if_success (with_reducible refine Le.mk ?_)); (conv => whnf)) | (refine FinS.b ?_) | (refine FinS.lb ?_) | (refine FinS.i ?_) | (refine FinS.f ?_) | (refine FinS.agg ?_) | (refine FinS.tup ?_)))
                all_goals (try (refine Le.of ?_; (conv => whnf)))
                repeat' ((fail_if_success (with_reducible refine Side.mk ?_)); first | (refine Rest.mk (drawJ_sound zES46_L mixOK (hndU_sound U53_k zHS46_L) [4,3,2] (by decide +kernel) ?_)) | (refine Rest.mk (drawR_sound zES46_L mixOK (hndU_sound U53_k zHS46_L) ?_)) | ((fail_if_success (with_reducible refine Rest.mk ?_)); first | (with_reducible exact True.intro) | (with_reducible refine Need.mk ?_ ?_) | (with_reducible refine And.intro ?_ ?_) | (with_reducible intro _) | ((fail_if_success (with_reducible refine FinS.mk ?_)); (fail_if_success (with_reducible refine Le.mk ?_)); (conv => whnf)) | (refine FinS.b ?_) | (refine FinS.lb ?_) | (refine FinS.i ?_) | (refine FinS.f ?_) | (refine FinS.agg ?_) | (refine FinS.tup ?_)))
                all_goals (try refine Side.mk ?_)
                all_goals (try simp only [Int.toNat_natCast, Nat.zero_add, ahA_c, eqQ_c, Nat.succ_eq_add_one, hj1, wi] at *)
                all_goals (try simp only [eq_self, decide_eq_true_eq, decide_eq_false_iff_not, Int.ofNat_lt, Int.ofNat_le, gt_iff_lt, ge_iff_le, true_and, Bool.not_eq_true', Bool.not_eq_false'] at *)
                all_goals first | (with_reducible exact hs1) | (with_reducible rfl) | trivial | omega | rfl | exact fun _ _ => trivial | exact ⟨rfl, rfl⟩ | exact ⟨rfl, fun _ _ => rfl⟩ | exact ⟨rfl, rfl, fun _ _ => rfl⟩ | (exact fun _ => ⟨by omega, by omega⟩) | (exact fun _ => (by omega)) | ((have hc := ‹(decide ((0 : Int) < (j : Int)) && ahA (e j) (e (j - 1))) = true›; exact ⟨hx.next haj (by rw [Bool.and_eq_true] at hc; exact hc.2), by show j - 1 < j; omega⟩)) | (exact ⟨by omega, by omega⟩) | (exact fun _ _ _ _ => .inr trivial) | (exact ⟨trivial, fun _ _ _ _ => .inr trivial⟩) | (exact ⟨rfl, rfl, fun _ _ _ _ => .inr trivial⟩) | (exact fun k hk z hz => .inr (congrArg (fun l => getM l z) (swp_row (insN (j, e)).2 rfl))) | (exact ⟨rfl, rfl, fun k hk z hz => .inr (congrArg (fun l => getM l z) (swp_row (insN (j, e)).2 rfl))⟩) | (exact ⟨trivial, fun k hk z hz => .inr (congrArg (fun l => getM l z) (swp_row (insN (j, e)).2 rfl))⟩) | ((have hc := ‹(decide ((0 : Int) < (j : Int)) && ahA (e j) (e (j - 1))) = false›; exact fun k hk z hz => .inr (by rw [sd_f hd, ← hx.stop (by simpa using hc)]))) | ((have hc := ‹(decide ((0 : Int) < (j : Int)) && ahA (e j) (e (j - 1))) = false›; exact ⟨hs1, fun k hk z hz => .inr (by rw [sd_f hd, ← hx.stop (by simpa using hc)])⟩)) | ((have hc := ‹(decide ((0 : Int) < (j : Int)) && ahA (e j) (e (j - 1))) = false›; exact ⟨rfl, hs1, fun k hk z hz => .inr (by rw [sd_f hd, ← hx.stop (by simpa using hc)])⟩))
              · have hna : ¬ 0 < j := (by omega)
                repeat' ((fail_if_success (with_reducible refine Side.mk ?_)); first | (refine Rest.mk (drawJ_sound zES46_L mixOK (hndU_sound U53_k zHS46_L) [4,3,2] (by decide +kernel) ?_)) | (refine Rest.mk (drawR_sound zES46_L mixOK (hndU_sound U53_k zHS46_L) ?_)) | ((fail_if_success (with_reducible refine Rest.mk ?_)); first | (with_reducible exact True.intro) | (with_reducible refine Need.mk ?_ ?_) | (with_reducible refine And.intro ?_ ?_) | (with_reducible intro _) | ((fail_if_success (with_reducible refine FinS.mk ?_)); (fail_if_success (with_reducible refine Le.mk ?_)); (conv => whnf)) | (refine FinS.b ?_) | (refine FinS.lb ?_) | (refine FinS.i ?_) | (refine FinS.f ?_) | (refine FinS.agg ?_) | (refine FinS.tup ?_)))
                all_goals (try (refine Le.of ?_; (conv => whnf)))
                repeat' ((fail_if_success (with_reducible refine Side.mk ?_)); first | (refine Rest.mk (drawJ_sound zES46_L mixOK (hndU_sound U53_k zHS46_L) [4,3,2] (by decide +kernel) ?_)) | (refine Rest.mk (drawR_sound zES46_L mixOK (hndU_sound U53_k zHS46_L) ?_)) | ((fail_if_success (with_reducible refine Rest.mk ?_)); first | (with_reducible exact True.intro) | (with_reducible refine Need.mk ?_ ?_) | (with_reducible refine And.intro ?_ ?_) | (with_reducible intro _) | ((fail_if_success (with_reducible refine FinS.mk ?_)); (fail_if_success (with_reducible refine Le.mk ?_)); (conv => whnf)) | (refine FinS.b ?_) | (refine FinS.lb ?_) | (refine FinS.i ?_) | (refine FinS.f ?_) | (refine FinS.agg ?_) | (refine FinS.tup ?_)))
                all_goals (try refine Side.mk ?_)
                all_goals (try simp only [Int.toNat_natCast, Nat.zero_add, ahA_c, eqQ_c, Nat.succ_eq_add_one, wi] at *)
                all_goals (try simp only [eq_self, decide_eq_true_eq, decide_eq_false_iff_not, Int.ofNat_lt, Int.ofNat_le, gt_iff_lt, ge_iff_le, true_and, Bool.not_eq_true', Bool.not_eq_false'] at *)
                all_goals first | (with_reducible exact hs1) | (with_reducible rfl) | trivial | omega | rfl | exact fun _ _ => trivial | exact ⟨rfl, rfl⟩ | exact ⟨rfl, fun _ _ => rfl⟩ | exact ⟨rfl, rfl, fun _ _ => rfl⟩ | (exact fun h => absurd (show 0 < j by omega) hna) | (exact fun h => absurd (show 0 < j by have := h.1; omega) hna) | ((exfalso; rename_i hc; rw [Bool.and_eq_true] at hc; exact hna (by simpa using hc.1))) | ((exfalso; rename_i hc _; rw [Bool.and_eq_true] at hc; exact hna (by simpa using hc.1))) | (exact ⟨by omega, by omega⟩) | (exact fun k hk z hz => .inr (by rw [sd_f hd, ← hx.stop0 hna])) | (exact ⟨hs1, fun k hk z hz => .inr (by rw [sd_f hd, ← hx.stop0 hna])⟩) | (exact ⟨rfl, hs1, fun k hk z hz => .inr (by rw [sd_f hd, ← hx.stop0 hna])⟩)
          · repeat' ((fail_if_success (with_reducible refine Side.mk ?_)); first | (refine Rest.mk (drawJ_sound zES46_L mixOK (hndU_sound U53_k zHS46_L) [4,3,2] (by decide +kernel) ?_)) | (refine Rest.mk (drawR_sound zES46_L mixOK (hndU_sound U53_k zHS46_L) ?_)) | ((fail_if_success (with_reducible refine Rest.mk ?_)); first | (with_reducible exact True.intro) | (with_reducible refine Need.mk ?_ ?_) | (with_reducible refine And.intro ?_ ?_) | (with_reducible intro hcl; try (exfalso; (first | (simp only [decide_eq_true_eq, decide_eq_false_iff_not] at hcl; omega) | (exact absurd hcl (by decide)) | (rw [hd] at hcl; cases hcl; done)); done)) | ((fail_if_success (with_reducible refine FinS.mk ?_)); (fail_if_success (with_reducible refine Le.mk ?_)); (conv => whnf)) | (refine FinS.b ?_) | (refine FinS.lb ?_) | (refine FinS.i ?_) | (refine FinS.f ?_) | (refine FinS.agg ?_) | (refine FinS.tup ?_)))
            all_goals (try (refine Le.of ?_; (conv => whnf)))
            repeat' ((fail_if_success (with_reducible refine Side.mk ?_)); first | (refine Rest.mk (drawJ_sound zES46_L mixOK (hndU_sound U53_k zHS46_L) [4,3,2] (by decide +kernel) ?_)) | (refine Rest.mk (drawR_sound zES46_L mixOK (hndU_sound U53_k zHS46_L) ?_)) | ((fail_if_success (with_reducible refine Rest.mk ?_)); first | (with_reducible exact True.intro) | (with_reducible refine Need.mk ?_ ?_) | (with_reducible refine And.intro ?_ ?_) | (with_reducible intro _) | ((fail_if_success (with_reducible refine FinS.mk ?_)); (fail_if_success (with_reducible refine Le.mk ?_)); (conv => whnf)) | (refine FinS.b ?_) | (refine FinS.lb ?_) | (refine FinS.i ?_) | (refine FinS.f ?_) | (refine FinS.agg ?_) | (refine FinS.tup ?_)))
            all_goals (try refine Side.mk ?_)
            all_goals (try simp only [Int.toNat_natCast, Nat.zero_add, ahA_c, eqQ_c, Nat.succ_eq_add_one, wi] at *)
            all_goals (try simp only [eq_self, decide_eq_true_eq, decide_eq_false_iff_not, Int.ofNat_lt, Int.ofNat_le, gt_iff_lt, ge_iff_le, true_and, Bool.not_eq_true', Bool.not_eq_false'] at *)
            all_goals first | (with_reducible rfl) | trivial | omega | rfl | exact fun _ _ => trivial | exact ⟨rfl, rfl⟩ | exact ⟨rfl, fun _ _ => rfl⟩ | exact ⟨rfl, rfl, fun _ _ => rfl⟩ | (exact ⟨by omega, by omega⟩) | ((rw [sd_t hd]; done)) | (exact fun k hk j hj => .inr (by rw [sd_t hd])) | (exact ⟨by rw [sd_t hd], fun k hk j hj => .inr (by rw [sd_t hd])⟩) | (exact ⟨rfl, by rw [sd_t hd], fun k hk j hj => .inr (by rw [sd_t hd])⟩) | (exact congrArg Prod.fst (sd_t hd).symm)
    · obtain rfl : i = n := by omega
      repeat' ((fail_if_success (with_reducible refine Side.mk ?_)); first | (refine Rest.mk (drawJ_sound zES46_L mixOK (hndU_sound U53_k zHS46_L) [4,3,2] (by decide +kernel) ?_)) | (refine Rest.mk (drawR_sound zES46_L mixOK (hndU_sound U53_k zHS46_L) ?_)) | ((fail_if_success (with_reducible refine Rest.mk ?_)); first | (with_reducible exact True.intro) | (with_reducible refine Need.mk ?_ ?_) | (with_reducible refine And.intro ?_ ?_) | (with_reducible intro hcl; try (exfalso; (simp only [decide_eq_true_eq, decide_eq_false_iff_not] at hcl; omega); done)) | ((fail_if_success (with_reducible refine FinS.mk ?_)); (fail_if_success (with_reducible refine Le.mk ?_)); (conv => whnf)) | (refine FinS.b ?_) | (refine FinS.lb ?_) | (refine FinS.i ?_) | (refine FinS.f ?_) | (refine FinS.agg ?_) | (refine FinS.tup ?_)))
      all_goals (try (refine Le.of ?_; (conv => whnf)))
      repeat' ((fail_if_success (with_reducible refine Side.mk ?_)); first | (refine Rest.mk (drawJ_sound zES46_L mixOK (hndU_sound U53_k zHS46_L) [4,3,2] (by decide +kernel) ?_)) | (refine Rest.mk (drawR_sound zES46_L mixOK (hndU_sound U53_k zHS46_L) ?_)) | ((fail_if_success (with_reducible refine Rest.mk ?_)); first | (with_reducible exact True.intro) | (with_reducible refine Need.mk ?_ ?_) | (with_reducible refine And.intro ?_ ?_) | (with_reducible intro _) | ((fail_if_success (with_reducible refine FinS.mk ?_)); (fail_if_success (with_reducible refine Le.mk ?_)); (conv => whnf)) | (refine FinS.b ?_) | (refine FinS.lb ?_) | (refine FinS.i ?_) | (refine FinS.f ?_) | (refine FinS.agg ?_) | (refine FinS.tup ?_)))
      all_goals (try refine Side.mk ?_)
      all_goals (try simp only [Int.toNat_natCast, Nat.zero_add, ahA_c, eqQ_c, Nat.succ_eq_add_one] at *)
      all_goals (try simp only [eq_self, decide_eq_true_eq, decide_eq_false_iff_not, Int.ofNat_lt, Int.ofNat_le, gt_iff_lt, ge_iff_le, true_and, Bool.not_eq_true', Bool.not_eq_false'] at *)
      all_goals first | (with_reducible rfl) | trivial | omega | rfl | exact fun _ _ => trivial | exact ⟨rfl, rfl⟩ | exact ⟨rfl, fun _ _ => rfl⟩ | exact ⟨rfl, rfl, fun _ _ => rfl⟩ | (exact FinS.rows 0 ⟨rfl, rfl, fun k hk j hj => rfl⟩ ⟨rfl, rfl, rfl⟩) | (exact FinS.rows 0 ⟨rfl, rfl, fun k hk j hj => rfl⟩ ⟨⟨rfl, rfl, rfl⟩⟩)
noncomputable def g55 : List MV → Option (List Prop × MV × List Blk × Bool)
  | [.ro 2 n get] => some ([isPts n get, n ≤ room], .os 0 2 0 (sdC (cm n (pOf get)) n).1, [.rows 2 (sdC (cm n (pOf get)) n).1 (rowP (sdC (cm n (pOf get)) n).2)], false)
  | _ => none
theorem s55 : SumsOK Try.prog (sumOf 55 g55 S46) := by
  refine SumsOK.add S46_ok fun ms ps m blks al e hp => ?_
  unfold g55 at e
  split at e
  · cases e
    exact (le_arg1 (t55 _ (cm _ (pOf _)) (hp _ (.tail _ (.head _)))) (leR_cm (hp _ (.head _)))).aloneR rfl (fun i hi j hj => flat2 hj)
  · cases e
noncomputable def S55 := sumOf 55 g55 S46
theorem S55_ok : SumsOK Try.prog S55 := s55
end Go.Ev.Poly
