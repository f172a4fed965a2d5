/-
  The contracts of lent and of both Aparts; for lists of at most 8796093022206 points.
-/
import Derived.Test.YtoilhalmmghhbaaPolyS
set_option linter.unusedSimpArgs false
set_option linter.unusedVariables false
open Go Go.Proofs
namespace Go.Ev.Poly
set_option maxRecDepth 100000
set_option maxHeartbeats 1000000
theorem pOf_pt {p : Nat → Nat × Nat} : pOf (fun j => ptM (p j)) = p := rfl
def lentV (n : Nat) (p : Nat → Nat × Nat) (i : Nat) : Nat × Nat := bif Nat.blt i n then p i else bif Nat.beq i n then (4635118810238550016, 0) else (4635189178982727680, 0)
def room : Nat := 8796093022206
theorem room_big {n : Nat} (h : n ≤ room) : n < big := Nat.lt_of_le_of_lt h (by decide)
theorem lent_lo {n i : Nat} {p : Nat → Nat × Nat} (h : i < n) : lentV n p i = p i := by unfold lentV; rw [blt_t h]; rfl
theorem lent_0 {n : Nat} {p : Nat → Nat × Nat} : lentV n p n = (4635118810238550016, 0) := by unfold lentV; rw [blt_f (Nat.le_refl n), show Nat.beq n n = true by simp]; rfl
theorem lent_1 {n : Nat} {p : Nat → Nat × Nat} : lentV n p (n + 1) = (4635189178982727680, 0) := by unfold lentV; rw [blt_f (Nat.le_succ n), beq_f (Nat.succ_ne_self n)]; rfl
theorem lent_get {n k j : Nat} {p : Nat → Nat × Nat} {X : Nat → List MV} {t0 t1 : List MV} (h0 : X 0 = .f .f64 4635118810238550016 :: .f .f64 0 :: t0) (h1 : X 1 = .f .f64 4635189178982727680 :: .f .f64 0 :: t1) (hk : k < n + 2) (hj : j < 2) :
    getM (appGet n (fun j => ptM (p j)) X k) j = getM (ptM (lentV n p k)) j := by
  unfold appGet
  have hj : j = 0 ∨ j = 1 := by omega
  rcases Nat.lt_trichotomy k n with h | h | h
  · rw [blt_t h, lent_lo h, show k - n = 0 by omega, h0]; rcases hj with rfl | rfl <;> rfl
  · subst h; rw [blt_f (Nat.le_refl _), Nat.sub_self, lent_0, h0]; rcases hj with rfl | rfl <;> rfl
  · obtain rfl : k = n + 1 := by omega
    rw [blt_f (Nat.le_succ n), show n + 1 - n = 1 by omega, lent_1, h1]; rcases hj with rfl | rfl <;> rfl
noncomputable def fi10 : FnI := ⟨16, Try.f10.body.getD .skip, [.tmp 2], true⟩
theorem fi10_ok : fnGen Try.prog 10 = some fi10 := by kernel_rfl
theorem t10 (n : Nat) (p : Nat → Nat × Nat) (c0 : n ≤ room): CM Try.prog 10 [.ro 2 n (fun j => ptM (p j))] (.oc 0 2 n (n + 2)) [.rows 2 (n + 2) fun i => ptM (lentV n p i)] true := by
  refine CM.of_genQ (exts := exts) (eqs := eqs) (inl := []) (sum := S28) extsOK eqsOK S28_ok fi10_ok 6 rfl fun cx => ?_
  have c1 : n ≤ 8796093022206 := c0
  repeat' ((fail_if_success (with_reducible refine Side.mk ?_)); first | ((fail_if_success (with_reducible refine Rest.mk ?_)); first | (with_reducible exact True.intro) | (with_reducible refine Need.mk ?_ ?_) | (with_reducible refine And.intro ?_ ?_) | (with_reducible intro _) | ((fail_if_success (with_reducible refine FinS.mk ?_)); (fail_if_success (with_reducible refine Le.mk ?_)); (conv => whnf)) | (refine FinS.b ?_) | (refine FinS.lb ?_) | (refine FinS.i ?_) | (refine FinS.f ?_) | (refine FinS.agg ?_) | (refine FinS.tup ?_)))
  all_goals (try (refine Le.of ?_; (conv => whnf)))
  repeat' ((fail_if_success (with_reducible refine Side.mk ?_)); first | ((fail_if_success (with_reducible refine Rest.mk ?_)); first | (with_reducible exact True.intro) | (with_reducible refine Need.mk ?_ ?_) | (with_reducible refine And.intro ?_ ?_) | (with_reducible intro _) | ((fail_if_success (with_reducible refine FinS.mk ?_)); (fail_if_success (with_reducible refine Le.mk ?_)); (conv => whnf)) | (refine FinS.b ?_) | (refine FinS.lb ?_) | (refine FinS.i ?_) | (refine FinS.f ?_) | (refine FinS.agg ?_) | (refine FinS.tup ?_)))
  all_goals (try refine Side.mk ?_)
  all_goals (try simp only [decide_eq_true_eq, decide_eq_false_iff_not, Int.ofNat_lt, Int.ofNat_le, gt_iff_lt, ge_iff_le, true_and, Bool.not_eq_true', Bool.not_eq_false'] at *)
  all_goals first | rfl | trivial | exact fun _ _ => trivial | exact ⟨rfl, rfl⟩ | exact ⟨rfl, fun _ _ => rfl⟩ | exact ⟨rfl, rfl, fun _ _ => rfl⟩ | exact i64_id (by omega) (by omega) | omega | (exact ⟨by show n * 16 ≤ _; omega, by omega⟩) | (exact ⟨by omega, by omega, by show (n + 2) * 16 ≤ _; omega, by omega⟩) | ((show 0 ≤ (0 : Int) ∧ (0 : Int) ≤ (n : Int) ∧ (n : Int) ≤ ((n + 2 : Nat) : Int) ∧ ((n + 2 : Nat) : Int) ≤ ((n + 2 : Nat) : Int); omega)) | (exact FinS.rows 0 ⟨rfl, rfl, fun k hk j hj => lent_get (t0 := [.f .f64 4635189178982727680, .f .f64 0]) (t1 := []) rfl rfl hk hj⟩ ⟨rfl, rfl, rfl⟩)
noncomputable def g10 : List MV → Option (List Prop × MV × List Blk × Bool)
  | [.ro 2 n get] => some ([isPts n get, n ≤ room], .oc 0 2 n (n + 2), [.rows 2 (n + 2) fun i => ptM (lentV n (pOf get) i)], true)
  | _ => none
theorem s10 : SumsOK Try.prog (sumOf 10 g10 S28) := by
  refine SumsOK.add S28_ok fun ms ps m blks al e hp => ?_
  unfold g10 at e
  split at e
  · cases e
    exact (le_arg1 (t10 _ (pOf _) (hp _ (.tail _ (.head _)))) (leR_pts (hp _ (.head _))))
  · cases e
noncomputable def S10 := sumOf 10 g10 S28
theorem S10_ok : SumsOK Try.prog S10 := s10
def dmin (f : Nat → Nat) : Nat → Nat
  | 0 => f 0
  | k + 1 => bif flt .f64 (f (k + 1)) (dmin f k) then f (k + 1) else dmin f k
theorem dmin_t {f : Nat → Nat} {k x : Nat} (h : flt .f64 x (dmin f k) = true) (hx : x = f (k + 1)) : x = dmin f (k + 1) := by
  show _ = bif flt .f64 (f (k + 1)) (dmin f k) then f (k + 1) else dmin f k
  rw [← hx, h]; rfl
theorem dmin_f {f : Nat → Nat} {k x : Nat} (h : flt .f64 x (dmin f k) = false) (hx : x = f (k + 1)) : dmin f k = dmin f (k + 1) := by
  show _ = bif flt .f64 (f (k + 1)) (dmin f k) then f (k + 1) else dmin f k
  rw [← hx, h]; rfl
/-- From a side, along its normal: how far a point of the other row lies. -/
def alongV (w : Nat × Nat) (a : Nat × Nat) (q : Nat → Nat × Nat) (k : Nat) : Nat := dotV w (subV (q k) a)
def outV (w : Nat → Nat × Nat) (p : Nat → Nat × Nat) (m : Nat) (q : Nat → Nat × Nat) (i : Nat) : Nat := dmin (alongV (w i) (p i) q) (m - 1)
def apV (f : Nat → Nat) : Nat → Nat × Nat
  | 0 => (0, 0)
  | i + 1 => bif ((i : Int) == 0) || fgt .f64 (f i) (apV f i).2 then (i, f i) else apV f i
theorem apV_t {f : Nat → Nat} {i x : Nat} (h : (((i : Int) == 0) || fgt .f64 x (apV f i).2) = true) (hx : x = f i) : apV f (i + 1) = (i, f i) := by
  subst hx
  show (bif ((i : Int) == 0) || fgt .f64 (f i) (apV f i).2 then (i, f i) else apV f i) = _
  rw [h]; rfl
theorem apV_f {f : Nat → Nat} {i x : Nat} (h : (((i : Int) == 0) || fgt .f64 x (apV f i).2) = false) (hx : x = f i) : apV f (i + 1) = apV f i := by
  subst hx
  show (bif ((i : Int) == 0) || fgt .f64 (f i) (apV f i).2 then (i, f i) else apV f i) = _
  rw [h]; rfl
theorem apV_ti {f : Nat → Nat} {i x : Nat} (h : (((i : Int) == 0) || fgt .f64 x (apV f i).2) = true) (hx : x = f i) : (i : Int) = ((apV f (i + 1)).1 : Nat) := by rw [apV_t h hx]
theorem apV_tj {f : Nat → Nat} {i x : Nat} (h : (((i : Int) == 0) || fgt .f64 x (apV f i).2) = true) (hx : x = f i) : x = (apV f (i + 1)).2 := by rw [apV_t h hx]; exact hx
theorem apV_fi {f : Nat → Nat} {i x : Nat} (h : (((i : Int) == 0) || fgt .f64 x (apV f i).2) = false) (hx : x = f i) : (((apV f i).1 : Nat) : Int) = ((apV f (i + 1)).1 : Nat) := by rw [apV_f h hx]
theorem apV_fj {f : Nat → Nat} {i x : Nat} (h : (((i : Int) == 0) || fgt .f64 x (apV f i).2) = false) (hx : x = f i) : (apV f i).2 = (apV f (i + 1)).2 := by rw [apV_f h hx]
theorem check_ge {n : Nat} {p : Nat → Nat × Nat} (h : (checkV n p != 0) = false) : 3 ≤ n := by
  rcases Nat.lt_or_ge n 3 with e | e
  · have h0 : checkV n p = 0 := by simpa using h
    cases hr : (realsV n p != 0)
    · rw [check_a hr e] at h0; cases h0
    · rw [check_r hr] at h0; rw [h0] at hr; cases hr
  · exact e
def twoV (n : Nat) (p : Nat → Nat × Nat) (m : Nat) (q : Nat → Nat × Nat) : Int := bif checkV n p != 0 then checkV n p else checkV m q
def apR (n : Nat) (p : Nat → Nat × Nat) (m : Nat) (q : Nat → Nat × Nat) : Nat × Nat := bif twoV n p m q != 0 then (0, 0) else apV (outV (normV n p) p m q) n
theorem two_1 {n m : Nat} {p q : Nat → Nat × Nat} (h : (checkV n p != 0) = true) : twoV n p m q = checkV n p := by unfold twoV; rw [h]; rfl
theorem two_2 {n m : Nat} {p q : Nat → Nat × Nat} (h : (checkV n p != 0) = false) : twoV n p m q = checkV m q := by unfold twoV; rw [h]; rfl
theorem apR_1 {n m : Nat} {p q : Nat → Nat × Nat} (h : (twoV n p m q != 0) = true) : apR n p m q = (0, 0) := by unfold apR; rw [h]; rfl
theorem apR_0 {n m : Nat} {p q : Nat → Nat × Nat} (h : (twoV n p m q != 0) = false) : apR n p m q = apV (outV (normV n p) p m q) n := by unfold apR; rw [h]; rfl
theorem rcheck_ge {n : Nat} {p : Nat → Nat × Nat} (h : (rcheckV n p != 0) = false) : 3 ≤ n := by
  rcases Nat.lt_or_ge n 3 with e | e
  · have h0 : rcheckV n p = 0 := by simpa using h
    cases hr : (rrealsV n p != 0)
    · rw [rcheck_a hr e] at h0; cases h0
    · rw [rcheck_r hr] at h0; rw [h0] at hr; cases hr
  · exact e
def rtwoV (n : Nat) (p : Nat → Nat × Nat) (m : Nat) (q : Nat → Nat × Nat) : Int := bif rcheckV n p != 0 then rcheckV n p else rcheckV m q
def rapR (n : Nat) (p : Nat → Nat × Nat) (m : Nat) (q : Nat → Nat × Nat) : Nat × Nat := bif rtwoV n p m q != 0 then (0, 0) else apV (outV (rnormV n p) p m q) n
theorem rtwo_1 {n m : Nat} {p q : Nat → Nat × Nat} (h : (rcheckV n p != 0) = true) : rtwoV n p m q = rcheckV n p := by unfold rtwoV; rw [h]; rfl
theorem rtwo_2 {n m : Nat} {p q : Nat → Nat × Nat} (h : (rcheckV n p != 0) = false) : rtwoV n p m q = rcheckV m q := by unfold rtwoV; rw [h]; rfl
theorem rapR_1 {n m : Nat} {p q : Nat → Nat × Nat} (h : (rtwoV n p m q != 0) = true) : rapR n p m q = (0, 0) := by unfold rapR; rw [h]; rfl
theorem rapR_0 {n m : Nat} {p q : Nat → Nat × Nat} (h : (rtwoV n p m q != 0) = false) : rapR n p m q = apV (outV (rnormV n p) p m q) n := by unfold rapR; rw [h]; rfl
theorem two_2b {n m : Nat} {p q : Nat → Nat × Nat} (h : (checkV n p != 0) = false) (_ : (checkV m q != 0) = true) : twoV n p m q = checkV m q := two_2 h
theorem apR_i {n m i : Nat} {p q : Nat → Nat × Nat} (h : (twoV n p m q != 0) = false) (hi : i = n) : (((apV (outV (normV n p) p m q) i).1 : Nat) : Int) = ((apR n p m q).1 : Nat) := by subst hi; rw [apR_0 h]
theorem apR_j {n m i : Nat} {p q : Nat → Nat × Nat} (h : (twoV n p m q != 0) = false) (hi : i = n) : (apV (outV (normV n p) p m q) i).2 = (apR n p m q).2 := by subst hi; rw [apR_0 h]
theorem apR_1i {n m : Nat} {p q : Nat → Nat × Nat} (h : (twoV n p m q != 0) = true) : (0 : Int) = ((apR n p m q).1 : Nat) := by rw [apR_1 h]; rfl
theorem apR_1j {n m : Nat} {p q : Nat → Nat × Nat} (h : (twoV n p m q != 0) = true) : 0 = (apR n p m q).2 := by rw [apR_1 h]
theorem rapR_i {n m i : Nat} {p q : Nat → Nat × Nat} (h : (rtwoV n p m q != 0) = false) (hi : i = n) : (((apV (outV (rnormV n p) p m q) i).1 : Nat) : Int) = ((rapR n p m q).1 : Nat) := by subst hi; rw [rapR_0 h]
theorem rapR_j {n m i : Nat} {p q : Nat → Nat × Nat} (h : (rtwoV n p m q != 0) = false) (hi : i = n) : (apV (outV (rnormV n p) p m q) i).2 = (rapR n p m q).2 := by subst hi; rw [rapR_0 h]
theorem rapR_1i {n m : Nat} {p q : Nat → Nat × Nat} (h : (rtwoV n p m q != 0) = true) : (0 : Int) = ((rapR n p m q).1 : Nat) := by rw [rapR_1 h]; rfl
theorem rapR_1j {n m : Nat} {p q : Nat → Nat × Nat} (h : (rtwoV n p m q != 0) = true) : 0 = (rapR n p m q).2 := by rw [rapR_1 h]
theorem rtwo_0 {n m : Nat} {p q : Nat → Nat × Nat} (h : (rtwoV n p m q != 0) = false) : (rcheckV n p != 0) = false ∧ (rcheckV m q != 0) = false := by
  cases e : (rcheckV n p != 0)
  · rw [rtwo_2 e] at h; exact ⟨rfl, h⟩
  · rw [rtwo_1 e, e] at h; cases h
noncomputable def fi16 : FnI := ⟨72, Try.f16.body.getD .skip, [.tmp 4, .tmp 5, .tmp 6], true⟩
theorem fi16_ok : fnGen Try.prog 16 = some fi16 := by kernel_rfl
theorem zHS10_O {cx : Cx} : CallH (genQ Try.prog exts eqs [] S10).P cx (hnd (genQ Try.prog exts eqs [] S10) cx 6) := hnd_sound (genQ_full extsOK eqsOK S10_ok) 6
theorem zES10_O : EnvAll (genQ Try.prog exts eqs [] S10) := (genQ_full extsOK eqsOK S10_ok).toEnvAll
theorem t16 (n : Nat) (p : Nat → Nat × Nat) (m : Nat) (q : Nat → Nat × Nat) (c0 : n < big) (c1 : m < big): CM Try.prog 16 [.ro 2 n (fun j => ptM (p j)), .ro 2 m (fun j => ptM (q j))] (.tup [.i .i64 ((apR n p m q).1 : Nat), .f .f64 (apR n p m q).2, .i .i64 (twoV n p m q)]) [] true := by
  refine CM.of_genQ (exts := exts) (eqs := eqs) (inl := []) (sum := S10) extsOK eqsOK S10_ok fi16_ok 6 rfl fun cx => ?_
  have k0 : n < 4611686018427387904 := c0
  have k1 : m < 4611686018427387904 := c1
  repeat' ((fail_if_success (with_reducible refine Side.mk ?_)); first | (refine Rest.mk (drawR_sound zES10_O mixOK zHS10_O ?_)) | ((fail_if_success (with_reducible refine Rest.mk ?_)); first | (with_reducible exact True.intro) | (with_reducible refine Need.mk ?_ ?_) | (with_reducible refine And.intro ?_ ?_) | (with_reducible intro _) | ((fail_if_success (with_reducible refine FinS.mk ?_)); (fail_if_success (with_reducible refine Le.mk ?_)); (conv => whnf)) | (refine FinS.b ?_) | (refine FinS.lb ?_) | (refine FinS.i ?_) | (refine FinS.f ?_) | (refine FinS.agg ?_) | (refine FinS.tup ?_)))
  all_goals (try (refine Side.mk ?_; (try simp only [pOf_pt, eq_self, decide_eq_true_eq, decide_eq_false_iff_not, Int.ofNat_lt, Int.ofNat_le, gt_iff_lt, ge_iff_le, true_and, Bool.not_eq_true', Bool.not_eq_false'] at *); all_goals first | (with_reducible exact (two_1 ‹_›).symm) | (with_reducible exact (two_2b ‹_› ‹_›).symm) | (with_reducible exact apR_1i (by rw [two_1 ‹_›]; assumption)) | (with_reducible exact apR_1i (by rw [two_2 ‹_›]; assumption)) | (with_reducible exact apR_1j (by rw [two_1 ‹_›]; assumption)) | (with_reducible exact apR_1j (by rw [two_2 ‹_›]; assumption)) | (with_reducible rfl) | trivial | omega | rfl | exact fun _ _ => trivial | exact ⟨rfl, rfl⟩ | exact ⟨rfl, fun _ _ => rfl⟩ | exact ⟨rfl, rfl, fun _ _ => rfl⟩ | exact ⟨by omega, trivial⟩ | exact i64_id (by omega) (by omega) | (exact ⟨isPts_pt _ _, c0⟩) | (exact ⟨isPts_pt _ _, c1⟩)))
  · rename_i hp hq
    have hp : (checkV n p != 0) = false := hp
    have hq : (checkV m q != 0) = false := hq
    have hn := check_ge hp
    have hm := check_ge hq
    have hT : (twoV n p m q != 0) = false := by rw [two_2 hp]; exact hq
    have hT0 := zeroOf hT
    refine loop_ruleC zES10_O zHS10_O (fun i => ⟨[(0, .ro 2 n (fun j => ptM (p j))), (1, .ro 2 m (fun j => ptM (q j))), (4, .i .i64 ((apV (outV (normV n p) p m q) i).1 : Nat)), (5, .f .f64 (apV (outV (normV n p) p m q) i).2), (26, .ro 2 n (fun j => ptM (p j))), (27, .i .i64 (n : Int)), (28, .i .i64 (i : Int))], [], [], 0⟩) (fun i => True) (n) (Le.of ?_) ?_ ?_
    · conv => whnf
      repeat' ((fail_if_success (with_reducible refine Side.mk ?_)); first | (refine Rest.mk (drawR_sound zES10_O mixOK zHS10_O ?_)) | ((fail_if_success (with_reducible refine Rest.mk ?_)); first | (with_reducible exact True.intro) | (with_reducible refine Need.mk ?_ ?_) | (with_reducible refine And.intro ?_ ?_) | (with_reducible intro _) | ((fail_if_success (with_reducible refine FinS.mk ?_)); (fail_if_success (with_reducible refine Le.mk ?_)); (conv => whnf)) | (refine FinS.b ?_) | (refine FinS.lb ?_) | (refine FinS.i ?_) | (refine FinS.f ?_) | (refine FinS.agg ?_) | (refine FinS.tup ?_)))
      all_goals (try (refine Le.of ?_; (conv => whnf)))
      repeat' ((fail_if_success (with_reducible refine Side.mk ?_)); first | (refine Rest.mk (drawR_sound zES10_O mixOK zHS10_O ?_)) | ((fail_if_success (with_reducible refine Rest.mk ?_)); first | (with_reducible exact True.intro) | (with_reducible refine Need.mk ?_ ?_) | (with_reducible refine And.intro ?_ ?_) | (with_reducible intro _) | ((fail_if_success (with_reducible refine FinS.mk ?_)); (fail_if_success (with_reducible refine Le.mk ?_)); (conv => whnf)) | (refine FinS.b ?_) | (refine FinS.lb ?_) | (refine FinS.i ?_) | (refine FinS.f ?_) | (refine FinS.agg ?_) | (refine FinS.tup ?_)))
      all_goals (try refine Side.mk ?_)
      all_goals (try simp only [pOf_pt, eq_self, decide_eq_true_eq, decide_eq_false_iff_not, Int.ofNat_lt, Int.ofNat_le, gt_iff_lt, ge_iff_le, true_and, Bool.not_eq_true', Bool.not_eq_false'] at *)
      all_goals first | (with_reducible rfl) | trivial | omega | rfl | exact fun _ _ => trivial | exact ⟨rfl, rfl⟩ | exact ⟨rfl, fun _ _ => rfl⟩ | exact ⟨rfl, rfl, fun _ _ => rfl⟩ | exact ⟨by omega, trivial⟩ | exact i64_id (by omega) (by omega)
    · trivial
    · intro i hi _
      repeat' ((fail_if_success (with_reducible refine Side.mk ?_)); first | (refine Rest.mk (drawR_sound zES10_O mixOK zHS10_O ?_)) | ((fail_if_success (with_reducible refine Rest.mk ?_)); first | (with_reducible exact True.intro) | (with_reducible refine Need.mk ?_ ?_) | (with_reducible refine And.intro ?_ ?_) | (with_reducible intro _) | ((fail_if_success (with_reducible refine FinS.mk ?_)); (fail_if_success (with_reducible refine Le.mk ?_)); (conv => whnf)) | (refine FinS.b ?_) | (refine FinS.lb ?_) | (refine FinS.i ?_) | (refine FinS.f ?_) | (refine FinS.agg ?_) | (refine FinS.tup ?_)))
      all_goals (try (refine Side.mk ?_; (try simp only [pOf_pt, eq_self, decide_eq_true_eq, decide_eq_false_iff_not, Int.ofNat_lt, Int.ofNat_le, gt_iff_lt, ge_iff_le, true_and, Bool.not_eq_true', Bool.not_eq_false'] at *); all_goals first | (with_reducible exact hT0) | (with_reducible exact apR_i hT (by omega)) | (with_reducible exact apR_j hT (by omega)) | (with_reducible rfl) | trivial | omega | rfl | exact fun _ _ => trivial | exact ⟨rfl, rfl⟩ | exact ⟨rfl, fun _ _ => rfl⟩ | exact ⟨rfl, rfl, fun _ _ => rfl⟩ | exact ⟨by omega, trivial⟩ | exact i64_id (by omega) (by omega) | (exact ⟨isPts_pt _ _, by omega, by omega, c0⟩) | ((show 0 ≤ (1 : Int) ∧ (1 : Int) ≤ (m : Int) ∧ (m : Int) ≤ (m : Int) ∧ (m : Int) ≤ (m : Int); omega))))
      · rename_i hin
        have hin : i < n := by simp at hin; omega
        refine loop_ruleC zES10_O zHS10_O (fun t => ⟨[(0, .ro 2 n (fun j => ptM (p j))), (1, .ro 2 m (fun j => ptM (q j))), (4, .i .i64 ((apV (outV (normV n p) p m q) i).1 : Nat)), (5, .f .f64 (apV (outV (normV n p) p m q) i).2), (26, .ro 2 n (fun j => ptM (p j))), (27, .i .i64 (n : Int)), (28, .i .i64 (i : Int)), (9, .i .i64 (i : Int)), (10, .p 0 0), (11, .p 1 0), (12, .f .f64 (dmin (alongV (normV n p i) (p i) q) t)), (44, .ro 2 (m - 1) (fun j => ptM (q (1 + j)))), (45, .i .i64 ((m - 1 : Nat) : Int)), (46, .i .i64 (t : Int))], [], [(0, .cells (ptM (p i))), (1, .cells (ptM (normV n p i)))], 2⟩) (fun t => True) (m - 1) (Le.of ?_) ?_ ?_
        · conv => whnf
          repeat' ((fail_if_success (with_reducible refine Side.mk ?_)); first | (refine Rest.mk (drawR_sound zES10_O mixOK zHS10_O ?_)) | ((fail_if_success (with_reducible refine Rest.mk ?_)); first | (with_reducible exact True.intro) | (with_reducible refine Need.mk ?_ ?_) | (with_reducible refine And.intro ?_ ?_) | (with_reducible intro _) | ((fail_if_success (with_reducible refine FinS.mk ?_)); (fail_if_success (with_reducible refine Le.mk ?_)); (conv => whnf)) | (refine FinS.b ?_) | (refine FinS.lb ?_) | (refine FinS.i ?_) | (refine FinS.f ?_) | (refine FinS.agg ?_) | (refine FinS.tup ?_)))
          all_goals (try (refine Le.of ?_; (conv => whnf)))
          repeat' ((fail_if_success (with_reducible refine Side.mk ?_)); first | (refine Rest.mk (drawR_sound zES10_O mixOK zHS10_O ?_)) | ((fail_if_success (with_reducible refine Rest.mk ?_)); first | (with_reducible exact True.intro) | (with_reducible refine Need.mk ?_ ?_) | (with_reducible refine And.intro ?_ ?_) | (with_reducible intro _) | ((fail_if_success (with_reducible refine FinS.mk ?_)); (fail_if_success (with_reducible refine Le.mk ?_)); (conv => whnf)) | (refine FinS.b ?_) | (refine FinS.lb ?_) | (refine FinS.i ?_) | (refine FinS.f ?_) | (refine FinS.agg ?_) | (refine FinS.tup ?_)))
          all_goals (try refine Side.mk ?_)
          all_goals (try simp only [pOf_pt, eq_self, decide_eq_true_eq, decide_eq_false_iff_not, Int.ofNat_lt, Int.ofNat_le, gt_iff_lt, ge_iff_le, true_and, Bool.not_eq_true', Bool.not_eq_false'] at *)
          all_goals first | (with_reducible rfl) | trivial | omega | rfl | exact fun _ _ => trivial | exact ⟨rfl, rfl⟩ | exact ⟨rfl, fun _ _ => rfl⟩ | exact ⟨rfl, rfl, fun _ _ => rfl⟩ | exact ⟨by omega, trivial⟩ | exact i64_id (by omega) (by omega)
        · trivial
        · intro t ht _
          repeat' ((fail_if_success (with_reducible refine Side.mk ?_)); first | (refine Rest.mk (drawR_sound zES10_O mixOK zHS10_O ?_)) | ((fail_if_success (with_reducible refine Rest.mk ?_)); first | (with_reducible exact True.intro) | (with_reducible refine Need.mk ?_ ?_) | (with_reducible refine And.intro ?_ ?_) | (with_reducible intro _) | ((fail_if_success (with_reducible refine FinS.mk ?_)); (fail_if_success (with_reducible refine Le.mk ?_)); (conv => whnf)) | (refine FinS.b ?_) | (refine FinS.lb ?_) | (refine FinS.i ?_) | (refine FinS.f ?_) | (refine FinS.agg ?_) | (refine FinS.tup ?_)))
          all_goals (try (refine Le.of ?_; (conv => whnf)))
          repeat' ((fail_if_success (with_reducible refine Side.mk ?_)); first | (refine Rest.mk (drawR_sound zES10_O mixOK zHS10_O ?_)) | ((fail_if_success (with_reducible refine Rest.mk ?_)); first | (with_reducible exact True.intro) | (with_reducible refine Need.mk ?_ ?_) | (with_reducible refine And.intro ?_ ?_) | (with_reducible intro _) | ((fail_if_success (with_reducible refine FinS.mk ?_)); (fail_if_success (with_reducible refine Le.mk ?_)); (conv => whnf)) | (refine FinS.b ?_) | (refine FinS.lb ?_) | (refine FinS.i ?_) | (refine FinS.f ?_) | (refine FinS.agg ?_) | (refine FinS.tup ?_)))
          all_goals (try refine Side.mk ?_)
          all_goals (try simp only [pOf_pt, eq_self, decide_eq_true_eq, decide_eq_false_iff_not, Int.ofNat_lt, Int.ofNat_le, gt_iff_lt, ge_iff_le, true_and, Bool.not_eq_true', Bool.not_eq_false'] at *)
          all_goals first | (with_reducible rfl) | trivial | omega | rfl | exact fun _ _ => trivial | exact ⟨rfl, rfl⟩ | exact ⟨rfl, fun _ _ => rfl⟩ | exact ⟨rfl, rfl, fun _ _ => rfl⟩ | exact ⟨by omega, trivial⟩ | exact i64_id (by omega) (by omega) | (refine dmin_t (by assumption) ?_; first | rfl | (simp only [Int.toNat_natCast, Nat.add_comm 1]; rfl)) | (refine dmin_f (by assumption) ?_; first | rfl | (simp only [Int.toNat_natCast, Nat.add_comm 1]; rfl)) | (refine apV_ti (by assumption) ?_; (show dmin _ _ = dmin _ _); congr 1; omega) | (refine apV_tj (by assumption) ?_; (show dmin _ _ = dmin _ _); congr 1; omega) | (refine apV_fi (by assumption) ?_; (show dmin _ _ = dmin _ _); congr 1; omega) | (refine apV_fj (by assumption) ?_; (show dmin _ _ = dmin _ _); congr 1; omega)
noncomputable def g16 : List MV → Option (List Prop × MV × List Blk × Bool)
  | [.ro 2 n get, .ro 2 m get'] => some ([isPts n get, isPts m get', n < big, m < big], (.tup [.i .i64 ((apR n  (pOf get) m (pOf get')).1 : Nat), .f .f64 (apR n  (pOf get) m (pOf get')).2, .i .i64 (twoV n  (pOf get) m (pOf get'))]), [], false)
  | _ => none
theorem s16 : SumsOK Try.prog (sumOf 16 g16 S10) := by
  refine SumsOK.add S10_ok fun ms ps m blks al e hp => ?_
  unfold g16 at e
  split at e
  · cases e
    exact ((t16 _ (pOf _) _ (pOf _) (hp _ (.tail _ (.tail _ (.head _)))) (hp _ (.tail _ (.tail _ (.tail _ (.head _)))))).aloneT rfl).le2 (leR_pts (hp _ (.head _))) (leR_pts (hp _ (.tail _ (.head _))))
  · cases e
noncomputable def S16 := sumOf 16 g16 S10
theorem S16_ok : SumsOK Try.prog S16 := s16
noncomputable def fi58 : FnI := ⟨13, Try.f58.body.getD .skip, [.tmp 4], true⟩
theorem fi58_ok : fnGen Try.prog 58 = some fi58 := by kernel_rfl
theorem t58 (n : Nat) (p : Nat → Nat × Nat) (m : Nat) (q : Nat → Nat × Nat) (c0 : n < big) (c1 : m < big): CM Try.prog 58 [.ro 2 n (fun j => ptM (p j)), .ro 2 m (fun j => ptM (q j))] (.i .i64 (rtwoV n p m q)) [] true := by
  refine CM.of_genQ (exts := exts) (eqs := eqs) (inl := []) (sum := S16) extsOK eqsOK S16_ok fi58_ok 6 rfl fun cx => ?_
  have k0 : n < 4611686018427387904 := c0
  have k1 : m < 4611686018427387904 := c1
  repeat' ((fail_if_success (with_reducible refine Side.mk ?_)); first | ((fail_if_success (with_reducible refine Rest.mk ?_)); first | (with_reducible exact True.intro) | (with_reducible refine Need.mk ?_ ?_) | (with_reducible refine And.intro ?_ ?_) | (with_reducible intro _) | ((fail_if_success (with_reducible refine FinS.mk ?_)); (fail_if_success (with_reducible refine Le.mk ?_)); (conv => whnf)) | (refine FinS.b ?_) | (refine FinS.lb ?_) | (refine FinS.i ?_) | (refine FinS.f ?_) | (refine FinS.agg ?_) | (refine FinS.tup ?_)))
  all_goals (try (refine Le.of ?_; (conv => whnf)))
  repeat' ((fail_if_success (with_reducible refine Side.mk ?_)); first | ((fail_if_success (with_reducible refine Rest.mk ?_)); first | (with_reducible exact True.intro) | (with_reducible refine Need.mk ?_ ?_) | (with_reducible refine And.intro ?_ ?_) | (with_reducible intro _) | ((fail_if_success (with_reducible refine FinS.mk ?_)); (fail_if_success (with_reducible refine Le.mk ?_)); (conv => whnf)) | (refine FinS.b ?_) | (refine FinS.lb ?_) | (refine FinS.i ?_) | (refine FinS.f ?_) | (refine FinS.agg ?_) | (refine FinS.tup ?_)))
  all_goals (try refine Side.mk ?_)
  all_goals (try simp only [pOf_pt, eq_self, decide_eq_true_eq, decide_eq_false_iff_not, Int.ofNat_lt, Int.ofNat_le, gt_iff_lt, ge_iff_le, true_and, Bool.not_eq_true', Bool.not_eq_false'] at *)
  all_goals first | (with_reducible exact (rtwo_1 ‹_›).symm) | (with_reducible exact (rtwo_2 ‹_›).symm) | (with_reducible rfl) | trivial | omega | rfl | exact fun _ _ => trivial | exact ⟨rfl, rfl⟩ | exact ⟨rfl, fun _ _ => rfl⟩ | exact ⟨rfl, rfl, fun _ _ => rfl⟩ | exact ⟨by omega, trivial⟩ | exact i64_id (by omega) (by omega) | (exact ⟨isPts_pt _ _, c0⟩) | (exact ⟨isPts_pt _ _, c1⟩)
noncomputable def g58 : List MV → Option (List Prop × MV × List Blk × Bool)
  | [.ro 2 n get, .ro 2 m get'] => some ([isPts n get, isPts m get', n < big, m < big], .i .i64 (rtwoV n  (pOf get) m (pOf get')), [], false)
  | _ => none
theorem s58 : SumsOK Try.prog (sumOf 58 g58 S16) := by
  refine SumsOK.add S16_ok fun ms ps m blks al e hp => ?_
  unfold g58 at e
  split at e
  · cases e
    exact ((t58 _ (pOf _) _ (pOf _) (hp _ (.tail _ (.tail _ (.head _)))) (hp _ (.tail _ (.tail _ (.tail _ (.head _)))))).aloneT rfl).le2 (leR_pts (hp _ (.head _))) (leR_pts (hp _ (.tail _ (.head _))))
  · cases e
noncomputable def S58 := sumOf 58 g58 S16
theorem S58_ok : SumsOK Try.prog S58 := s58
noncomputable def fi17 : FnI := ⟨72, Try.f17.body.getD .skip, [.tmp 4, .tmp 5, .tmp 6], true⟩
theorem fi17_ok : fnGen Try.prog 17 = some fi17 := by kernel_rfl
theorem zHS58_O {cx : Cx} : CallH (genQ Try.prog exts eqs [] S58).P cx (hnd (genQ Try.prog exts eqs [] S58) cx 6) := hnd_sound (genQ_full extsOK eqsOK S58_ok) 6
theorem zES58_O : EnvAll (genQ Try.prog exts eqs [] S58) := (genQ_full extsOK eqsOK S58_ok).toEnvAll
theorem t17 (n : Nat) (p : Nat → Nat × Nat) (m : Nat) (q : Nat → Nat × Nat) (c0 : n < big) (c1 : m < big): CM Try.prog 17 [.ro 2 n (fun j => ptM (p j)), .ro 2 m (fun j => ptM (q j))] (.tup [.i .i64 ((rapR n p m q).1 : Nat), .f .f64 (rapR n p m q).2, .i .i64 (rtwoV n p m q)]) [] true := by
  refine CM.of_genQ (exts := exts) (eqs := eqs) (inl := []) (sum := S58) extsOK eqsOK S58_ok fi17_ok 6 rfl fun cx => ?_
  have k0 : n < 4611686018427387904 := c0
  have k1 : m < 4611686018427387904 := c1
  repeat' ((fail_if_success (with_reducible refine Side.mk ?_)); first | (refine Rest.mk (drawR_sound zES58_O mixOK zHS58_O ?_)) | ((fail_if_success (with_reducible refine Rest.mk ?_)); first | (with_reducible exact True.intro) | (with_reducible refine Need.mk ?_ ?_) | (with_reducible refine And.intro ?_ ?_) | (with_reducible intro _) | ((fail_if_success (with_reducible refine FinS.mk ?_)); (fail_if_success (with_reducible refine Le.mk ?_)); (conv => whnf)) | (refine FinS.b ?_) | (refine FinS.lb ?_) | (refine FinS.i ?_) | (refine FinS.f ?_) | (refine FinS.agg ?_) | (refine FinS.tup ?_)))
  all_goals (try (refine Side.mk ?_; (try simp only [pOf_pt, eq_self, decide_eq_true_eq, decide_eq_false_iff_not, Int.ofNat_lt, Int.ofNat_le, gt_iff_lt, ge_iff_le, true_and, Bool.not_eq_true', Bool.not_eq_false'] at *); all_goals first | (with_reducible exact rapR_1i (by assumption)) | (with_reducible exact rapR_1j (by assumption)) | (with_reducible rfl) | trivial | omega | rfl | exact fun _ _ => trivial | exact ⟨rfl, rfl⟩ | exact ⟨rfl, fun _ _ => rfl⟩ | exact ⟨rfl, rfl, fun _ _ => rfl⟩ | exact ⟨by omega, trivial⟩ | exact i64_id (by omega) (by omega) | (exact ⟨isPts_pt _ _, isPts_pt _ _, c0, c1⟩)))
  · rename_i hT
    have hT : (rtwoV n p m q != 0) = false := hT
    have hp := (rtwo_0 hT).1
    have hq := (rtwo_0 hT).2
    have hn := rcheck_ge hp
    have hm := rcheck_ge hq
    have hT0 := zeroOf hT
    refine loop_ruleC zES58_O zHS58_O (fun i => ⟨[(0, .ro 2 n (fun j => ptM (p j))), (1, .ro 2 m (fun j => ptM (q j))), (8, .i .i64 ((apV (outV (rnormV n p) p m q) i).1 : Nat)), (9, .f .f64 (apV (outV (rnormV n p) p m q) i).2), (10, .i .i64 (i : Int))], [], [], 0⟩) (fun i => True) (n) (Le.of ?_) ?_ ?_
    · conv => whnf
      repeat' ((fail_if_success (with_reducible refine Side.mk ?_)); first | (refine Rest.mk (drawR_sound zES58_O mixOK zHS58_O ?_)) | ((fail_if_success (with_reducible refine Rest.mk ?_)); first | (with_reducible exact True.intro) | (with_reducible refine Need.mk ?_ ?_) | (with_reducible refine And.intro ?_ ?_) | (with_reducible intro _) | ((fail_if_success (with_reducible refine FinS.mk ?_)); (fail_if_success (with_reducible refine Le.mk ?_)); (conv => whnf)) | (refine FinS.b ?_) | (refine FinS.lb ?_) | (refine FinS.i ?_) | (refine FinS.f ?_) | (refine FinS.agg ?_) | (refine FinS.tup ?_)))
      all_goals (try (refine Le.of ?_; (conv => whnf)))
      repeat' ((fail_if_success (with_reducible refine Side.mk ?_)); first | (refine Rest.mk (drawR_sound zES58_O mixOK zHS58_O ?_)) | ((fail_if_success (with_reducible refine Rest.mk ?_)); first | (with_reducible exact True.intro) | (with_reducible refine Need.mk ?_ ?_) | (with_reducible refine And.intro ?_ ?_) | (with_reducible intro _) | ((fail_if_success (with_reducible refine FinS.mk ?_)); (fail_if_success (with_reducible refine Le.mk ?_)); (conv => whnf)) | (refine FinS.b ?_) | (refine FinS.lb ?_) | (refine FinS.i ?_) | (refine FinS.f ?_) | (refine FinS.agg ?_) | (refine FinS.tup ?_)))
      all_goals (try refine Side.mk ?_)
      all_goals (try simp only [pOf_pt, eq_self, decide_eq_true_eq, decide_eq_false_iff_not, Int.ofNat_lt, Int.ofNat_le, gt_iff_lt, ge_iff_le, true_and, Bool.not_eq_true', Bool.not_eq_false'] at *)
      all_goals first | (with_reducible rfl) | trivial | omega | rfl | exact fun _ _ => trivial | exact ⟨rfl, rfl⟩ | exact ⟨rfl, fun _ _ => rfl⟩ | exact ⟨rfl, rfl, fun _ _ => rfl⟩ | exact ⟨by omega, trivial⟩ | exact i64_id (by omega) (by omega)
    · trivial
    · intro i hi _
      repeat' ((fail_if_success (with_reducible refine Side.mk ?_)); first | (refine Rest.mk (drawR_sound zES58_O mixOK zHS58_O ?_)) | ((fail_if_success (with_reducible refine Rest.mk ?_)); first | (with_reducible exact True.intro) | (with_reducible refine Need.mk ?_ ?_) | (with_reducible refine And.intro ?_ ?_) | (with_reducible intro _) | ((fail_if_success (with_reducible refine FinS.mk ?_)); (fail_if_success (with_reducible refine Le.mk ?_)); (conv => whnf)) | (refine FinS.b ?_) | (refine FinS.lb ?_) | (refine FinS.i ?_) | (refine FinS.f ?_) | (refine FinS.agg ?_) | (refine FinS.tup ?_)))
      all_goals (try (refine Side.mk ?_; (try simp only [pOf_pt, eq_self, decide_eq_true_eq, decide_eq_false_iff_not, Int.ofNat_lt, Int.ofNat_le, gt_iff_lt, ge_iff_le, true_and, Bool.not_eq_true', Bool.not_eq_false'] at *); all_goals first | (with_reducible exact hT0) | (with_reducible exact rapR_i hT (by omega)) | (with_reducible exact rapR_j hT (by omega)) | (with_reducible rfl) | trivial | omega | rfl | exact fun _ _ => trivial | exact ⟨rfl, rfl⟩ | exact ⟨rfl, fun _ _ => rfl⟩ | exact ⟨rfl, rfl, fun _ _ => rfl⟩ | exact ⟨by omega, trivial⟩ | exact i64_id (by omega) (by omega) | (exact ⟨isPts_pt _ _, by omega, by omega, c0⟩)))
      · rename_i hin
        have hin : i < n := by simp at hin; omega
        refine loop_ruleC zES58_O zHS58_O (fun t => ⟨[(0, .ro 2 n (fun j => ptM (p j))), (1, .ro 2 m (fun j => ptM (q j))), (8, .i .i64 ((apV (outV (rnormV n p) p m q) i).1 : Nat)), (9, .f .f64 (apV (outV (rnormV n p) p m q) i).2), (10, .i .i64 (i : Int)), (11, .p 0 0), (12, .f .f64 (dmin (alongV (rnormV n p i) (p i) q) t)), (13, .i .i64 ((t + 1 : Nat) : Int))], [], [(0, .cells (ptM (rnormV n p i)))], 1⟩) (fun t => True) (m - 1) (Le.of ?_) ?_ ?_
        · conv => whnf
          repeat' ((fail_if_success (with_reducible refine Side.mk ?_)); first | (refine Rest.mk (drawR_sound zES58_O mixOK zHS58_O ?_)) | ((fail_if_success (with_reducible refine Rest.mk ?_)); first | (with_reducible exact True.intro) | (with_reducible refine Need.mk ?_ ?_) | (with_reducible refine And.intro ?_ ?_) | (with_reducible intro _) | ((fail_if_success (with_reducible refine FinS.mk ?_)); (fail_if_success (with_reducible refine Le.mk ?_)); (conv => whnf)) | (refine FinS.b ?_) | (refine FinS.lb ?_) | (refine FinS.i ?_) | (refine FinS.f ?_) | (refine FinS.agg ?_) | (refine FinS.tup ?_)))
          all_goals (try (refine Le.of ?_; (conv => whnf)))
          repeat' ((fail_if_success (with_reducible refine Side.mk ?_)); first | (refine Rest.mk (drawR_sound zES58_O mixOK zHS58_O ?_)) | ((fail_if_success (with_reducible refine Rest.mk ?_)); first | (with_reducible exact True.intro) | (with_reducible refine Need.mk ?_ ?_) | (with_reducible refine And.intro ?_ ?_) | (with_reducible intro _) | ((fail_if_success (with_reducible refine FinS.mk ?_)); (fail_if_success (with_reducible refine Le.mk ?_)); (conv => whnf)) | (refine FinS.b ?_) | (refine FinS.lb ?_) | (refine FinS.i ?_) | (refine FinS.f ?_) | (refine FinS.agg ?_) | (refine FinS.tup ?_)))
          all_goals (try refine Side.mk ?_)
          all_goals (try simp only [pOf_pt, eq_self, decide_eq_true_eq, decide_eq_false_iff_not, Int.ofNat_lt, Int.ofNat_le, gt_iff_lt, ge_iff_le, true_and, Bool.not_eq_true', Bool.not_eq_false'] at *)
          all_goals first | (with_reducible rfl) | trivial | omega | rfl | exact fun _ _ => trivial | exact ⟨rfl, rfl⟩ | exact ⟨rfl, fun _ _ => rfl⟩ | exact ⟨rfl, rfl, fun _ _ => rfl⟩ | exact ⟨by omega, trivial⟩ | exact i64_id (by omega) (by omega)
        · trivial
        · intro t ht _
          repeat' ((fail_if_success (with_reducible refine Side.mk ?_)); first | (refine Rest.mk (drawR_sound zES58_O mixOK zHS58_O ?_)) | ((fail_if_success (with_reducible refine Rest.mk ?_)); first | (with_reducible exact True.intro) | (with_reducible refine Need.mk ?_ ?_) | (with_reducible refine And.intro ?_ ?_) | (with_reducible intro _) | ((fail_if_success (with_reducible refine FinS.mk ?_)); (fail_if_success (with_reducible refine Le.mk ?_)); (conv => whnf)) | (refine FinS.b ?_) | (refine FinS.lb ?_) | (refine FinS.i ?_) | (refine FinS.f ?_) | (refine FinS.agg ?_) | (refine FinS.tup ?_)))
          all_goals (try (refine Le.of ?_; (conv => whnf)))
          repeat' ((fail_if_success (with_reducible refine Side.mk ?_)); first | (refine Rest.mk (drawR_sound zES58_O mixOK zHS58_O ?_)) | ((fail_if_success (with_reducible refine Rest.mk ?_)); first | (with_reducible exact True.intro) | (with_reducible refine Need.mk ?_ ?_) | (with_reducible refine And.intro ?_ ?_) | (with_reducible intro _) | ((fail_if_success (with_reducible refine FinS.mk ?_)); (fail_if_success (with_reducible refine Le.mk ?_)); (conv => whnf)) | (refine FinS.b ?_) | (refine FinS.lb ?_) | (refine FinS.i ?_) | (refine FinS.f ?_) | (refine FinS.agg ?_) | (refine FinS.tup ?_)))
          all_goals (try refine Side.mk ?_)
          all_goals (try simp only [pOf_pt, eq_self, decide_eq_true_eq, decide_eq_false_iff_not, Int.ofNat_lt, Int.ofNat_le, gt_iff_lt, ge_iff_le, true_and, Bool.not_eq_true', Bool.not_eq_false'] at *)
          all_goals first | (with_reducible rfl) | trivial | omega | rfl | exact fun _ _ => trivial | exact ⟨rfl, rfl⟩ | exact ⟨rfl, fun _ _ => rfl⟩ | exact ⟨rfl, rfl, fun _ _ => rfl⟩ | exact ⟨by omega, trivial⟩ | exact i64_id (by omega) (by omega) | (refine dmin_t (by assumption) ?_; first | rfl | (simp only [Int.toNat_natCast, Nat.add_comm 1]; rfl)) | (refine dmin_f (by assumption) ?_; first | rfl | (simp only [Int.toNat_natCast, Nat.add_comm 1]; rfl)) | (refine apV_ti (by assumption) ?_; (show dmin _ _ = dmin _ _); congr 1; omega) | (refine apV_tj (by assumption) ?_; (show dmin _ _ = dmin _ _); congr 1; omega) | (refine apV_fi (by assumption) ?_; (show dmin _ _ = dmin _ _); congr 1; omega) | (refine apV_fj (by assumption) ?_; (show dmin _ _ = dmin _ _); congr 1; omega)
noncomputable def g17 : List MV → Option (List Prop × MV × List Blk × Bool)
  | [.ro 2 n get, .ro 2 m get'] => some ([isPts n get, isPts m get', n < big, m < big], (.tup [.i .i64 ((rapR n  (pOf get) m (pOf get')).1 : Nat), .f .f64 (rapR n  (pOf get) m (pOf get')).2, .i .i64 (rtwoV n  (pOf get) m (pOf get'))]), [], false)
  | _ => none
theorem s17 : SumsOK Try.prog (sumOf 17 g17 S58) := by
  refine SumsOK.add S58_ok fun ms ps m blks al e hp => ?_
  unfold g17 at e
  split at e
  · cases e
    exact ((t17 _ (pOf _) _ (pOf _) (hp _ (.tail _ (.tail _ (.head _)))) (hp _ (.tail _ (.tail _ (.tail _ (.head _)))))).aloneT rfl).le2 (leR_pts (hp _ (.head _))) (leR_pts (hp _ (.tail _ (.head _))))
  · cases e
noncomputable def S17 := sumOf 17 g17 S58
theorem S17_ok : SumsOK Try.prog S17 := s17
end Go.Ev.Poly
