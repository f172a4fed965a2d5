/-
  The contracts of both Order; for lists of at most 4398046511103 boxes.
-/
import Derived.Test.YtbnfcjckbgpkeaaSweJ
set_option linter.unusedSimpArgs false
set_option linter.unusedVariables false
open Go Go.Proofs
namespace Go.Ev.Sweep
set_option maxRecDepth 100000
set_option maxHeartbeats 1000000
open Go.Ev.So
theorem fL_bd {q : Nat → Bool} {nn : Nat} : ∀ i, i ≤ nn → ∀ k, k < (fL q i).length → 0 ≤ (fL q i).getD k 0 ∧ (fL q i).getD k 0 < (i : Int) ∧ q ((fL q i).getD k 0).toNat = true
  | 0, _, k, hk => by simp [fL] at hk
  | i + 1, hi, k, hk => by
    cases h : q i
    · rw [fL_f h] at hk ⊢
      have := fL_bd (q := q) (nn := nn) i (by omega) k hk
      exact ⟨this.1, by omega, this.2.2⟩
    · rw [fL_t h] at hk ⊢
      rcases Nat.lt_or_ge k (fL q i).length with c | c
      · have := fL_bd (q := q) (nn := nn) i (by omega) k c
        rw [List.getD_eq_getElem?_getD, List.getElem?_append_left c, ← List.getD_eq_getElem?_getD]
        exact ⟨this.1, by omega, this.2.2⟩
      · have : k = (fL q i).length := by simp at hk; omega
        subst this
        have e : (fL q i ++ [(i : Int)]).getD (fL q i).length 0 = (i : Int) := by simp [List.getD_eq_getElem?_getD]
        rw [e]
        exact ⟨by omega, by omega, by simpa using h⟩
def orD (p : Nat → Bx) (nn : Nat) : Nat → Int := fun k => (fL (okB p) nn).getD k 0
def orV (p : Nat → Bx) (nn : Nat) : Nat → Int := stab (lsV p) (fL (okB p) nn).length (orD p nn)
theorem orD_bd (p : Nat → Bx) (nn : Nat) : Bd nn (fL (okB p) nn).length (orD p nn) := fun k hk => by
  have := fL_bd (q := okB p) (nn := nn) nn (Nat.le_refl _) k hk
  exact ⟨this.1, this.2.1⟩
theorem ok_t {p : Nat → Bx} {i : Nat} (h : (chk (p i).1 (p i).2.1 (p i).2.2.1 (p i).2.2.2 == 0) = true) : okB p i = true := h
theorem ok_f {p : Nat → Bx} {i : Nat} (h : (chk (p i).1 (p i).2.1 (p i).2.2.1 (p i).2.2.2 == 0) = false) : okB p i = false := h
noncomputable def fi13 : FnI := ⟨31, Try.f13.body.getD .skip, [.tmp 2, .tmp 3], true⟩
theorem fi13_ok : fnGen Try.prog 13 = some fi13 := by kernel_rfl
theorem zHS11_K {cx : Cx} : CallH (genQ Try.prog exts eqs [] S11).P cx (hnd (genQ Try.prog exts eqs [] S11) cx 6) := hnd_sound (genQ_full extsOK eqsOK S11_ok) 6
theorem zES11_K : EnvAll (genQ Try.prog exts eqs [] S11) := (genQ_full extsOK eqsOK S11_ok).toEnvAll
theorem t13 (nn : Nat) (p : Nat → Bx) (c0 : nn ≤ room) : CM Try.prog 13 [.ro 4 nn (fun j => bM (p j))] (.tup [.os 0 1 0 (cutL nn (fL (okB p) nn)).length, .i .i64 (eN nn)]) [.rows 1 (cutL nn (fL (okB p) nn)).length (rowI (orV p nn))] true := by
  refine CM.of_code zES11_K (fnGen_ok fi13_ok) rfl fun w0 okA => ?_
  refine evC_sound (genQ_full extsOK eqsOK S11_ok).toEnvAll (hndU_sound U30_k zHS11_K) ?_
  have c1 : nn ≤ 4398046511103 := c0
  by_cases hm : 16384 < nn
  · obtain ⟨e1, e2⟩ := many_t hm (l := fL (okB p) nn)
    repeat' ((fail_if_success (with_reducible refine Side.mk ?_)); first | ((fail_if_success (with_reducible refine Rest.mk ?_)); first | (with_reducible exact True.intro) | (with_reducible refine Need.mk ?_ ?_) | (with_reducible refine And.intro ?_ ?_) | (with_reducible intro hcl; try (exfalso; (simp at hcl; omega); done)) | ((fail_if_success (with_reducible refine FinS.mk ?_)); (fail_if_success (with_reducible refine Le.mk ?_)); (conv => whnf)) | (refine FinS.b ?_) | (refine FinS.lb ?_) | (refine FinS.i ?_) | (refine FinS.f ?_) | (refine FinS.agg ?_) | (refine FinS.tup ?_)))
    all_goals (try (refine Le.of ?_; (conv => whnf)))
    repeat' ((fail_if_success (with_reducible refine Side.mk ?_)); first | ((fail_if_success (with_reducible refine Rest.mk ?_)); first | (with_reducible exact True.intro) | (with_reducible refine Need.mk ?_ ?_) | (with_reducible refine And.intro ?_ ?_) | (with_reducible intro _) | ((fail_if_success (with_reducible refine FinS.mk ?_)); (fail_if_success (with_reducible refine Le.mk ?_)); (conv => whnf)) | (refine FinS.b ?_) | (refine FinS.lb ?_) | (refine FinS.i ?_) | (refine FinS.f ?_) | (refine FinS.agg ?_) | (refine FinS.tup ?_)))
    all_goals (try refine Side.mk ?_)
    all_goals (try simp only [eq_self, decide_eq_true_eq, decide_eq_false_iff_not, Int.ofNat_lt, Int.ofNat_le, gt_iff_lt, ge_iff_le, true_and, Bool.not_eq_true', Bool.not_eq_false'] at *)
    all_goals first | (with_reducible rfl) | trivial | omega | rfl | exact fun _ _ => trivial | exact ⟨rfl, rfl⟩ | exact ⟨rfl, fun _ _ => rfl⟩ | exact ⟨rfl, rfl, fun _ _ => rfl⟩ | (exact FinS.rows0 ⟨by rw [e1]; rfl⟩ ⟨⟨by rw [e1]; rfl⟩, ⟨rfl, e2.symm⟩, True.intro⟩)
  · obtain ⟨e1, e2⟩ := many_f hm (l := fL (okB p) nn)
    repeat' ((fail_if_success (with_reducible refine Side.mk ?_)); first | ((fail_if_success (with_reducible refine Rest.mk ?_)); first | (with_reducible exact True.intro) | (with_reducible refine Need.mk ?_ ?_) | (with_reducible refine And.intro ?_ ?_) | (with_reducible intro hcl; try (exfalso; (simp at hcl; omega); done)) | ((fail_if_success (with_reducible refine FinS.mk ?_)); (fail_if_success (with_reducible refine Le.mk ?_)); (conv => whnf)) | (refine FinS.b ?_) | (refine FinS.lb ?_) | (refine FinS.i ?_) | (refine FinS.f ?_) | (refine FinS.agg ?_) | (refine FinS.tup ?_)))
    refine loop_ruleD zES11_K (hndU_sound U30_k zHS11_K) (γ := Nat) (fun i => ⟨[(1, .p 0 0), (4, .os 1 1 0 (fL (okB p) i).length), (10, .ro 4 nn (fun j => bM (p j))), (11, .i .i64 (nn : Int)), (12, .i .i64 (i : Int))], [], [(0, .cells [.ro 4 nn (fun j => bM (p j))]), (1, .rows 1 (fL (okB p) i).length (lR (fL (okB p) i)))], 2⟩) (fun i => i ≤ nn) Nat.succ (fun i => nn - i) (0) (Le.phan 1 (Le.of ?_)) ?_ ?_
    · conv => whnf
      repeat' ((fail_if_success (with_reducible refine Side.mk ?_)); first | ((fail_if_success (with_reducible refine Rest.mk ?_)); first | (with_reducible exact True.intro) | (with_reducible refine Need.mk ?_ ?_) | (with_reducible refine And.intro ?_ ?_) | (with_reducible intro _) | ((fail_if_success (with_reducible refine FinS.mk ?_)); (fail_if_success (with_reducible refine Le.mk ?_)); (conv => whnf)) | (refine FinS.b ?_) | (refine FinS.lb ?_) | (refine FinS.i ?_) | (refine FinS.f ?_) | (refine FinS.agg ?_) | (refine FinS.tup ?_)))
      all_goals (try (refine Le.of ?_; (conv => whnf)))
      repeat' ((fail_if_success (with_reducible refine Side.mk ?_)); first | ((fail_if_success (with_reducible refine Rest.mk ?_)); first | (with_reducible exact True.intro) | (with_reducible refine Need.mk ?_ ?_) | (with_reducible refine And.intro ?_ ?_) | (with_reducible intro _) | ((fail_if_success (with_reducible refine FinS.mk ?_)); (fail_if_success (with_reducible refine Le.mk ?_)); (conv => whnf)) | (refine FinS.b ?_) | (refine FinS.lb ?_) | (refine FinS.i ?_) | (refine FinS.f ?_) | (refine FinS.agg ?_) | (refine FinS.tup ?_)))
      all_goals (try refine Side.mk ?_)
      all_goals (try simp only [eq_self, decide_eq_true_eq, decide_eq_false_iff_not, Int.ofNat_lt, Int.ofNat_le, gt_iff_lt, ge_iff_le, true_and, Bool.not_eq_true', Bool.not_eq_false'] at *)
      all_goals first | (with_reducible rfl) | trivial | omega | rfl | exact fun _ _ => trivial | exact ⟨rfl, rfl⟩ | exact ⟨rfl, fun _ _ => rfl⟩ | exact ⟨rfl, rfl, fun _ _ => rfl⟩ | (exact fun _ _ _ _ => .inr trivial) | (exact ⟨trivial, fun _ _ _ _ => .inr trivial⟩) | (exact ⟨rfl, rfl, fun _ _ _ _ => .inr trivial⟩) | (exact fun i hi j hj => absurd hi (Nat.not_lt_zero _)) | (exact ⟨rfl, rfl, fun i hi j hj => absurd hi (Nat.not_lt_zero _)⟩) | (exact ⟨trivial, fun i hi j hj => absurd hi (Nat.not_lt_zero _)⟩) | (exact fun _ hi _ _ => absurd hi (Nat.not_lt_zero _)) | (exact ⟨rfl, fun _ hi _ _ => absurd hi (Nat.not_lt_zero _)⟩)
    · omega
    · intro i hi
      have hl := fL_len (okB p) i
      have w1 : IntKind.i64.wrap ((i : Int) + 1) = ((i + 1 : Nat) : Int) := wadd1 (by omega)
      rcases Nat.lt_or_ge i nn with hlt | hge
      · repeat' ((fail_if_success (with_reducible refine Side.mk ?_)); first | ((fail_if_success (with_reducible refine Rest.mk ?_)); first | (with_reducible exact True.intro) | (with_reducible refine Need.mk ?_ ?_) | (with_reducible refine And.intro ?_ ?_) | (with_reducible intro hcl; try (exfalso; (simp at hcl; omega); done)) | ((fail_if_success (with_reducible refine FinS.mk ?_)); (fail_if_success (with_reducible refine Le.mk ?_)); (conv => whnf)) | (refine FinS.b ?_) | (refine FinS.lb ?_) | (refine FinS.i ?_) | (refine FinS.f ?_) | (refine FinS.agg ?_) | (refine FinS.tup ?_)))
        all_goals (try (refine Le.of ?_; (conv => whnf)))
        repeat' ((fail_if_success (with_reducible refine Side.mk ?_)); first | ((fail_if_success (with_reducible refine Rest.mk ?_)); first | (with_reducible exact True.intro) | (with_reducible refine Need.mk ?_ ?_) | (with_reducible refine And.intro ?_ ?_) | (with_reducible intro _) | ((fail_if_success (with_reducible refine FinS.mk ?_)); (fail_if_success (with_reducible refine Le.mk ?_)); (conv => whnf)) | (refine FinS.b ?_) | (refine FinS.lb ?_) | (refine FinS.i ?_) | (refine FinS.f ?_) | (refine FinS.agg ?_) | (refine FinS.tup ?_)))
        all_goals (try refine Side.mk ?_)
        all_goals (try simp only [Int.toNat_natCast, Nat.zero_add, dOf_row, lsV_c, bOf_b, w1, Nat.succ_eq_add_one] at *)
        all_goals (try simp only [eq_self, decide_eq_true_eq, decide_eq_false_iff_not, Int.ofNat_lt, Int.ofNat_le, gt_iff_lt, ge_iff_le, true_and, Bool.not_eq_true', Bool.not_eq_false'] at *)
        all_goals first | (with_reducible rfl) | trivial | omega | rfl | exact fun _ _ => trivial | exact ⟨rfl, rfl⟩ | exact ⟨rfl, fun _ _ => rfl⟩ | exact ⟨rfl, rfl, fun _ _ => rfl⟩ | (exact fL_tl (q := okB p) (ok_t (by assumption))) | (exact fL_fl (q := okB p) (ok_f (by assumption))) | (exact ⟨⟨by omega, by omega⟩⟩) | (exact ⟨by omega, by omega, by show ((fL (okB p) i).length + 1) * 8 ≤ _; omega, by omega⟩) | (exact ⟨by omega, by omega⟩) | (exact fun _ => ⟨by omega, by omega⟩) | (exact fun _ _ _ _ => .inr trivial) | (exact ⟨trivial, fun _ _ _ _ => .inr trivial⟩) | (exact ⟨rfl, rfl, fun _ _ _ _ => .inr trivial⟩) | (exact fun k hk j hj => .inr (fL_ta (ok_t ‹_›) rfl hk hj)) | (exact ⟨rfl, rfl, fun k hk j hj => .inr (fL_ta (ok_t ‹_›) rfl hk hj)⟩) | (exact ⟨trivial, fun k hk j hj => .inr (fL_ta (ok_t ‹_›) rfl hk hj)⟩) | (exact fun _ _ _ _ => .inr trivial) | (exact ⟨trivial, fun _ _ _ _ => .inr trivial⟩) | (exact ⟨rfl, rfl, fun _ _ _ _ => .inr trivial⟩) | (exact fun k hk j hj => .inr (fL_tb (ok_t ‹_›) rfl hk hj)) | (exact ⟨rfl, rfl, fun k hk j hj => .inr (fL_tb (ok_t ‹_›) rfl hk hj)⟩) | (exact ⟨trivial, fun k hk j hj => .inr (fL_tb (ok_t ‹_›) rfl hk hj)⟩) | (exact fun _ _ _ _ => .inr trivial) | (exact ⟨trivial, fun _ _ _ _ => .inr trivial⟩) | (exact ⟨rfl, rfl, fun _ _ _ _ => .inr trivial⟩) | (exact fun k hk j hj => .inr (by rw [fL_f (ok_f ‹_›)])) | (exact ⟨rfl, rfl, fun k hk j hj => .inr (by rw [fL_f (ok_f ‹_›)])⟩) | (exact ⟨trivial, fun k hk j hj => .inr (by rw [fL_f (ok_f ‹_›)])⟩) | (exact ⟨fL_tl (ok_t ‹_›), fun k hk j hj => .inr (fL_tb (ok_t ‹_›) rfl hk hj)⟩) | (exact ⟨fL_fl (ok_f ‹_›), fun k hk j hj => .inr (by rw [fL_f (ok_f ‹_›)])⟩) | (exact ⟨rfl, fL_tl (ok_t ‹_›), fun k hk j hj => .inr (fL_tb (ok_t ‹_›) rfl hk hj)⟩) | (exact ⟨rfl, fL_fl (ok_f ‹_›), fun k hk j hj => .inr (by rw [fL_f (ok_f ‹_›)])⟩)
      · obtain rfl : i = nn := by omega
        have hbd := orD_bd p i
        repeat' ((fail_if_success (with_reducible refine Side.mk ?_)); first | ((fail_if_success (with_reducible refine Rest.mk ?_)); first | (with_reducible exact True.intro) | (with_reducible refine Need.mk ?_ ?_) | (with_reducible refine And.intro ?_ ?_) | (with_reducible intro hcl; try (exfalso; (simp at hcl); done)) | ((fail_if_success (with_reducible refine FinS.mk ?_)); (fail_if_success (with_reducible refine Le.mk ?_)); (conv => whnf)) | (refine FinS.b ?_) | (refine FinS.lb ?_) | (refine FinS.i ?_) | (refine FinS.f ?_) | (refine FinS.agg ?_) | (refine FinS.tup ?_)))
        all_goals (try (refine Le.of ?_; (conv => whnf)))
        repeat' ((fail_if_success (with_reducible refine Side.mk ?_)); first | ((fail_if_success (with_reducible refine Rest.mk ?_)); first | (with_reducible exact True.intro) | (with_reducible refine Need.mk ?_ ?_) | (with_reducible refine And.intro ?_ ?_) | (with_reducible intro _) | ((fail_if_success (with_reducible refine FinS.mk ?_)); (fail_if_success (with_reducible refine Le.mk ?_)); (conv => whnf)) | (refine FinS.b ?_) | (refine FinS.lb ?_) | (refine FinS.i ?_) | (refine FinS.f ?_) | (refine FinS.agg ?_) | (refine FinS.tup ?_)))
        all_goals (try refine Side.mk ?_)
        all_goals (try simp only [Int.toNat_natCast, Nat.zero_add, dOf_row, lsV_c, bOf_b] at *)
        all_goals (try simp only [eq_self, decide_eq_true_eq, decide_eq_false_iff_not, Int.ofNat_lt, Int.ofNat_le, gt_iff_lt, ge_iff_le, true_and, Bool.not_eq_true', Bool.not_eq_false'] at *)
        all_goals first | (with_reducible rfl) | trivial | omega | rfl | exact fun _ _ => trivial | exact ⟨rfl, rfl⟩ | exact ⟨rfl, fun _ _ => rfl⟩ | exact ⟨rfl, rfl, fun _ _ => rfl⟩ | (exact ⟨Nat.le_refl _, isI_row _ _, isBx_b _ _, by unfold lim; omega, hbd⟩) | (exact ⟨Nat.le_refl _, isI_row _ _, isBx_b _ _, by unfold lim; omega, trivial, hbd⟩) | (exact FinS.rows 1 ⟨rfl, by rw [e1], fun k hk j hj => rfl⟩ ⟨⟨rfl, rfl, by rw [e1]⟩, ⟨rfl, e2.symm⟩, True.intro⟩)
noncomputable def g13 : List MV → Option (List Prop × MV × List Blk × Bool)
  | [.ro 4 nn get] => some ([isBx nn get, nn ≤ room], .tup [.os 0 1 0 (cutL nn (fL (okB (bOf get)) nn)).length, .i .i64 (eN nn)], [.rows 1 (cutL nn (fL (okB (bOf get)) nn)).length (rowI (orV (bOf get) nn))], false)
  | _ => none
theorem s13 : SumsOK Try.prog (sumOf 13 g13 S11) := by
  refine SumsOK.add S11_ok fun ms ps m blks al e hp => ?_
  unfold g13 at e
  split at e
  · cases e
    exact (le_arg1 (t13 _ (bOf _) (hp _ (.tail _ (.head _)))) (leR_bx (hp _ (.head _)))).aloneR rfl (fun i hi j hj => flat_I hj)
  · cases e
noncomputable def S13 := sumOf 13 g13 S11
theorem S13_ok : SumsOK Try.prog S13 := s13
def apF (c i : Nat) (f : Nat → Int) : Nat → Int := fun k => bif Nat.blt k c then f k else (i : Int)
def rfV (p : Nat → Bx) : Nat → Nat → Int
  | 0 => fun _ => 0
  | i + 1 => bif okB p i then insD (lsV p) 0 (fL (okB p) i).length (apF (fL (okB p) i).length i (rfV p i)) else rfV p i
def refV (p : Nat → Bx) (nn : Nat) : Nat → Int := rfV p nn
theorem rfV_t {p : Nat → Bx} {i : Nat} (h : okB p i = true) : rfV p (i + 1) = insD (lsV p) 0 (fL (okB p) i).length (apF (fL (okB p) i).length i (rfV p i)) := by show (bif okB p i then _ else _) = _; rw [h]; rfl
theorem rfV_f {p : Nat → Bx} {i : Nat} (h : okB p i = false) : rfV p (i + 1) = rfV p i := by show (bif okB p i then _ else _) = _; rw [h]; rfl
theorem apF_lo {c i k : Nat} {f : Nat → Int} (h : k < c) : apF c i f k = f k := by unfold apF; rw [show Nat.blt k c = true by simpa using h]; rfl
theorem apF_at {c i : Nat} {f : Nat → Int} : apF c i f c = (i : Int) := by
  unfold apF
  have : Nat.blt c c = false := by
    cases h : Nat.blt c c
    · rfl
    · simp at h
  rw [this]; rfl
theorem app_f {c i : Nat} {f : Nat → Int} {X : Nat → List MV} {tl : List MV} (hX : X 0 = .i .i64 (i : Int) :: tl) {k j : Nat} (hk : k < c + 1) (hj : j < 1) : getM (appGet c (rowI f) X k) j = getM (rowI (apF c i f) k) j := by
  obtain rfl : j = 0 := by omega
  unfold appGet
  rw [show k - c = 0 by omega, hX]
  rcases Nat.lt_or_eq_of_le (Nat.le_of_lt_succ hk) with e | e
  · rw [show Nat.blt k c = true by simpa using e]
    show MV.i .i64 (f k) = MV.i .i64 (apF c i f k)
    rw [apF_lo e]
  · subst e
    have hb : Nat.blt k k = false := by
      cases h : Nat.blt k k
      · rfl
      · simp at h
    rw [hb]
    show MV.i .i64 (i : Int) = MV.i .i64 (apF k i f k)
    rw [apF_at]
theorem rf_ok (p : Nat → Bx) : ∀ i, ∀ k, k < (fL (okB p) i).length → 0 ≤ rfV p i k ∧ rfV p i k < (i : Int) ∧ okB p (rfV p i k).toNat = true
  | 0, k, hk => by simp [fL] at hk
  | i + 1, k, hk => by
    cases h : okB p i
    · rw [rfV_f h]
      rw [fL_f h] at hk
      have := rf_ok p i k hk
      exact ⟨this.1, by omega, this.2.2⟩
    · rw [rfV_t h]
      rw [fL_t h] at hk
      have hk : k < (fL (okB p) i).length + 1 := by simpa using hk
      obtain ⟨k', q1, q2, q3⟩ := (same_insD (lsV p) (a := 0) (b := (fL (okB p) i).length + 1) (fL (okB p) i).length (apF (fL (okB p) i).length i (rfV p i)) (Nat.lt_succ_self _)).to k (Nat.zero_le _) hk
      rw [q3]
      rcases Nat.lt_or_ge k' (fL (okB p) i).length with c | c
      · rw [apF_lo c]
        have := rf_ok p i k' c
        exact ⟨this.1, by omega, this.2.2⟩
      · have : k' = (fL (okB p) i).length := by omega
        subst this
        rw [apF_at]
        exact ⟨by omega, by omega, by simpa using h⟩
theorem ap_bd {p : Nat → Bx} {i nn : Nat} (hi : i < nn) : Bd nn ((fL (okB p) i).length + 1) (apF (fL (okB p) i).length i (rfV p i)) := fun k hk => by
  rcases Nat.lt_or_ge k (fL (okB p) i).length with c | c
  · rw [apF_lo c]
    have := rf_ok p i k c
    exact ⟨this.1, by omega⟩
  · have : k = (fL (okB p) i).length := by omega
    subst this
    rw [apF_at]
    omega
theorem lsV_f {p : Nat → Bx} {x y : Int} : flt .f64 (p x.toNat).1 (p y.toNat).1 = lsV p x y := rfl
noncomputable def fi12 : FnI := ⟨72, Try.f12.body.getD .skip, [.tmp 2, .tmp 3], true⟩
theorem fi12_ok : fnGen Try.prog 12 = some fi12 := by kernel_rfl
theorem zHS13_K {cx : Cx} : CallH (genQ Try.prog exts eqs [] S13).P cx (hnd (genQ Try.prog exts eqs [] S13) cx 6) := hnd_sound (genQ_full extsOK eqsOK S13_ok) 6
theorem zES13_K : EnvAll (genQ Try.prog exts eqs [] S13) := (genQ_full extsOK eqsOK S13_ok).toEnvAll
theorem t12 (nn : Nat) (p : Nat → Bx) (c0 : nn ≤ room) : CM Try.prog 12 [.ro 4 nn (fun j => bM (p j))] (.tup [.os 0 1 0 (cutL nn (fL (okB p) nn)).length, .i .i64 (eN nn)]) [.rows 1 (cutL nn (fL (okB p) nn)).length (rowI (refV p nn))] true := by
  refine CM.of_code zES13_K (fnGen_ok fi12_ok) rfl fun w0 okA => ?_
  refine evC_sound (genQ_full extsOK eqsOK S13_ok).toEnvAll (hndU_sound U30_k zHS13_K) ?_
  have c1 : nn ≤ 4398046511103 := c0
  by_cases hm : 16384 < nn
  · obtain ⟨e1, e2⟩ := many_t hm (l := fL (okB p) nn)
    repeat' ((fail_if_success (with_reducible refine Side.mk ?_)); first | (refine Rest.mk (drawJ_sound zES13_K mixOK (hndU_sound U30_k zHS13_K) [4,3,2] (by decide +kernel) ?_)) | (refine Rest.mk (drawR_sound zES13_K mixOK (hndU_sound U30_k zHS13_K) ?_)) | ((fail_if_success (with_reducible refine Rest.mk ?_)); first | (with_reducible exact True.intro) | (with_reducible refine Need.mk ?_ ?_) | (with_reducible refine And.intro ?_ ?_) | (with_reducible intro hcl; try (exfalso; (simp at hcl; omega); done)) | ((fail_if_success (with_reducible refine FinS.mk ?_)); (fail_if_success (with_reducible refine Le.mk ?_)); (conv => whnf)) | (refine FinS.b ?_) | (refine FinS.lb ?_) | (refine FinS.i ?_) | (refine FinS.f ?_) | (refine FinS.agg ?_) | (refine FinS.tup ?_)))
    all_goals (try (refine Le.of ?_; (conv => whnf)))
    repeat' ((fail_if_success (with_reducible refine Side.mk ?_)); first | (refine Rest.mk (drawJ_sound zES13_K mixOK (hndU_sound U30_k zHS13_K) [4,3,2] (by decide +kernel) ?_)) | (refine Rest.mk (drawR_sound zES13_K mixOK (hndU_sound U30_k zHS13_K) ?_)) | ((fail_if_success (with_reducible refine Rest.mk ?_)); first | (with_reducible exact True.intro) | (with_reducible refine Need.mk ?_ ?_) | (with_reducible refine And.intro ?_ ?_) | (with_reducible intro _) | ((fail_if_success (with_reducible refine FinS.mk ?_)); (fail_if_success (with_reducible refine Le.mk ?_)); (conv => whnf)) | (refine FinS.b ?_) | (refine FinS.lb ?_) | (refine FinS.i ?_) | (refine FinS.f ?_) | (refine FinS.agg ?_) | (refine FinS.tup ?_)))
    all_goals (try refine Side.mk ?_)
    all_goals (try simp only [eq_self, decide_eq_true_eq, decide_eq_false_iff_not, Int.ofNat_lt, Int.ofNat_le, gt_iff_lt, ge_iff_le, true_and, Bool.not_eq_true', Bool.not_eq_false'] at *)
    all_goals first | (with_reducible rfl) | trivial | omega | rfl | exact fun _ _ => trivial | exact ⟨rfl, rfl⟩ | exact ⟨rfl, fun _ _ => rfl⟩ | exact ⟨rfl, rfl, fun _ _ => rfl⟩ | (exact FinS.rows0 ⟨by rw [e1]; rfl⟩ ⟨⟨by rw [e1]; rfl⟩, ⟨rfl, e2.symm⟩, True.intro⟩)
  · obtain ⟨e1, e2⟩ := many_f hm (l := fL (okB p) nn)
    repeat' ((fail_if_success (with_reducible refine Side.mk ?_)); first | (refine Rest.mk (drawJ_sound zES13_K mixOK (hndU_sound U30_k zHS13_K) [4,3,2] (by decide +kernel) ?_)) | (refine Rest.mk (drawR_sound zES13_K mixOK (hndU_sound U30_k zHS13_K) ?_)) | ((fail_if_success (with_reducible refine Rest.mk ?_)); first | (with_reducible exact True.intro) | (with_reducible refine Need.mk ?_ ?_) | (with_reducible refine And.intro ?_ ?_) | (with_reducible intro hcl; try (exfalso; (simp at hcl; omega); done)) | ((fail_if_success (with_reducible refine FinS.mk ?_)); (fail_if_success (with_reducible refine Le.mk ?_)); (conv => whnf)) | (refine FinS.b ?_) | (refine FinS.lb ?_) | (refine FinS.i ?_) | (refine FinS.f ?_) | (refine FinS.agg ?_) | (refine FinS.tup ?_)))
    refine loop_ruleD zES13_K (hndU_sound U30_k zHS13_K) (γ := Nat) (fun i => ⟨[(0, .ro 4 nn (fun j => bM (p j))), (4, .os 0 1 0 (fL (okB p) i).length), (5, .i .i64 (i : Int))], [], [(0, .rows 1 (fL (okB p) i).length (rowI (rfV p i)))], 1⟩) (fun i => i ≤ nn) Nat.succ (fun i => nn - i) (0) (Le.phan 1 (Le.of ?_)) ?_ ?_
    · conv => whnf
      repeat' ((fail_if_success (with_reducible refine Side.mk ?_)); first | (refine Rest.mk (drawJ_sound zES13_K mixOK (hndU_sound U30_k zHS13_K) [4,3,2] (by decide +kernel) ?_)) | (refine Rest.mk (drawR_sound zES13_K mixOK (hndU_sound U30_k zHS13_K) ?_)) | ((fail_if_success (with_reducible refine Rest.mk ?_)); first | (with_reducible exact True.intro) | (with_reducible refine Need.mk ?_ ?_) | (with_reducible refine And.intro ?_ ?_) | (with_reducible intro _) | ((fail_if_success (with_reducible refine FinS.mk ?_)); (fail_if_success (with_reducible refine Le.mk ?_)); (conv => whnf)) | (refine FinS.b ?_) | (refine FinS.lb ?_) | (refine FinS.i ?_) | (refine FinS.f ?_) | (refine FinS.agg ?_) | (refine FinS.tup ?_)))
      all_goals (try (refine Le.of ?_; (conv => whnf)))
      repeat' ((fail_if_success (with_reducible refine Side.mk ?_)); first | (refine Rest.mk (drawJ_sound zES13_K mixOK (hndU_sound U30_k zHS13_K) [4,3,2] (by decide +kernel) ?_)) | (refine Rest.mk (drawR_sound zES13_K mixOK (hndU_sound U30_k zHS13_K) ?_)) | ((fail_if_success (with_reducible refine Rest.mk ?_)); first | (with_reducible exact True.intro) | (with_reducible refine Need.mk ?_ ?_) | (with_reducible refine And.intro ?_ ?_) | (with_reducible intro _) | ((fail_if_success (with_reducible refine FinS.mk ?_)); (fail_if_success (with_reducible refine Le.mk ?_)); (conv => whnf)) | (refine FinS.b ?_) | (refine FinS.lb ?_) | (refine FinS.i ?_) | (refine FinS.f ?_) | (refine FinS.agg ?_) | (refine FinS.tup ?_)))
      all_goals (try refine Side.mk ?_)
      all_goals (try simp only [eq_self, decide_eq_true_eq, decide_eq_false_iff_not, Int.ofNat_lt, Int.ofNat_le, gt_iff_lt, ge_iff_le, true_and, Bool.not_eq_true', Bool.not_eq_false'] at *)
      all_goals first | (with_reducible rfl) | trivial | omega | rfl | exact fun _ _ => trivial | exact ⟨rfl, rfl⟩ | exact ⟨rfl, fun _ _ => rfl⟩ | exact ⟨rfl, rfl, fun _ _ => rfl⟩ | (exact fun _ _ _ _ => .inr trivial) | (exact ⟨trivial, fun _ _ _ _ => .inr trivial⟩) | (exact ⟨rfl, rfl, fun _ _ _ _ => .inr trivial⟩) | (exact fun i hi j hj => absurd hi (Nat.not_lt_zero _)) | (exact ⟨rfl, rfl, fun i hi j hj => absurd hi (Nat.not_lt_zero _)⟩) | (exact ⟨trivial, fun i hi j hj => absurd hi (Nat.not_lt_zero _)⟩) | (exact fun _ hi _ _ => absurd hi (Nat.not_lt_zero _)) | (exact ⟨rfl, fun _ hi _ _ => absurd hi (Nat.not_lt_zero _)⟩)
    · omega
    · intro i hi
      have hl := fL_len (okB p) i
      have w1 : IntKind.i64.wrap ((i : Int) + 1) = ((i + 1 : Nat) : Int) := wadd1 (by omega)
      have w2 : IntKind.i64.wrap ((((fL (okB p) i).length + 1 : Nat) : Int) - 1) = (((fL (okB p) i).length : Nat) : Int) := (wsub1 (by omega) (by omega)).trans (by omega)
      rcases Nat.lt_or_ge i nn with hlt | hge
      · cases hok : okB p i
        · have hcc : (chk (p i).1 (p i).2.1 (p i).2.2.1 (p i).2.2.2 != 0) = true := by
            have hok : (chk (p i).1 (p i).2.1 (p i).2.2.1 (p i).2.2.2 == 0) = false := hok
            simpa using hok
          repeat' ((fail_if_success (with_reducible refine Side.mk ?_)); first | (refine Rest.mk (drawJ_sound zES13_K mixOK (hndU_sound U30_k zHS13_K) [4,3,2] (by decide +kernel) ?_)) | (refine Rest.mk (drawR_sound zES13_K mixOK (hndU_sound U30_k zHS13_K) ?_)) | ((fail_if_success (with_reducible refine Rest.mk ?_)); first | (with_reducible exact True.intro) | (with_reducible refine Need.mk ?_ ?_) | (with_reducible refine And.intro ?_ ?_) | (with_reducible intro hcl; try (exfalso; (first | (simp only [Int.toNat_natCast, Nat.zero_add] at hcl; rw [hcc] at hcl; cases hcl) | (simp only [decide_eq_true_eq, decide_eq_false_iff_not] at hcl; omega)); done)) | ((fail_if_success (with_reducible refine FinS.mk ?_)); (fail_if_success (with_reducible refine Le.mk ?_)); (conv => whnf)) | (refine FinS.b ?_) | (refine FinS.lb ?_) | (refine FinS.i ?_) | (refine FinS.f ?_) | (refine FinS.agg ?_) | (refine FinS.tup ?_)))
          all_goals (try (refine Le.of ?_; (conv => whnf)))
          repeat' ((fail_if_success (with_reducible refine Side.mk ?_)); first | (refine Rest.mk (drawJ_sound zES13_K mixOK (hndU_sound U30_k zHS13_K) [4,3,2] (by decide +kernel) ?_)) | (refine Rest.mk (drawR_sound zES13_K mixOK (hndU_sound U30_k zHS13_K) ?_)) | ((fail_if_success (with_reducible refine Rest.mk ?_)); first | (with_reducible exact True.intro) | (with_reducible refine Need.mk ?_ ?_) | (with_reducible refine And.intro ?_ ?_) | (with_reducible intro _) | ((fail_if_success (with_reducible refine FinS.mk ?_)); (fail_if_success (with_reducible refine Le.mk ?_)); (conv => whnf)) | (refine FinS.b ?_) | (refine FinS.lb ?_) | (refine FinS.i ?_) | (refine FinS.f ?_) | (refine FinS.agg ?_) | (refine FinS.tup ?_)))
          all_goals (try refine Side.mk ?_)
          all_goals (try simp only [Int.toNat_natCast, Nat.zero_add, dOf_row, lsV_c, bOf_b, w1, Nat.succ_eq_add_one] at *)
          all_goals (try simp only [eq_self, decide_eq_true_eq, decide_eq_false_iff_not, Int.ofNat_lt, Int.ofNat_le, gt_iff_lt, ge_iff_le, true_and, Bool.not_eq_true', Bool.not_eq_false'] at *)
          all_goals first | (with_reducible rfl) | trivial | omega | rfl | exact fun _ _ => trivial | exact ⟨rfl, rfl⟩ | exact ⟨rfl, fun _ _ => rfl⟩ | exact ⟨rfl, rfl, fun _ _ => rfl⟩ | (exact fL_fl hok) | (exact fun _ _ _ _ => .inr trivial) | (exact ⟨trivial, fun _ _ _ _ => .inr trivial⟩) | (exact ⟨rfl, rfl, fun _ _ _ _ => .inr trivial⟩) | (exact fun k hk j hj => .inr (by rw [rfV_f hok])) | (exact ⟨rfl, rfl, fun k hk j hj => .inr (by rw [rfV_f hok])⟩) | (exact ⟨trivial, fun k hk j hj => .inr (by rw [rfV_f hok])⟩) | (exact ⟨fL_fl hok, fun k hk j hj => .inr (by rw [rfV_f hok])⟩) | (exact ⟨rfl, fL_fl hok, fun k hk j hj => .inr (by rw [rfV_f hok])⟩) | (exact ⟨by omega, by omega⟩)
        · have hcc : (chk (p i).1 (p i).2.1 (p i).2.2.1 (p i).2.2.2 != 0) = false := by
            have hok : (chk (p i).1 (p i).2.1 (p i).2.2.1 (p i).2.2.2 == 0) = true := hok
            simpa using hok
          repeat' ((fail_if_success (with_reducible refine Side.mk ?_)); first | (refine Rest.mk (drawJ_sound zES13_K mixOK (hndU_sound U30_k zHS13_K) [4,3,2] (by decide +kernel) ?_)) | (refine Rest.mk (drawR_sound zES13_K mixOK (hndU_sound U30_k zHS13_K) ?_)) | ((fail_if_success (with_reducible refine Rest.mk ?_)); first | (with_reducible exact True.intro) | (with_reducible refine Need.mk ?_ ?_) | (with_reducible refine And.intro ?_ ?_) | (with_reducible intro hcl; try (exfalso; (first | (simp only [Int.toNat_natCast, Nat.zero_add] at hcl; rw [hcc] at hcl; cases hcl) | (simp only [decide_eq_true_eq, decide_eq_false_iff_not] at hcl; omega)); done)) | ((fail_if_success (with_reducible refine FinS.mk ?_)); (fail_if_success (with_reducible refine Le.mk ?_)); (conv => whnf)) | (refine FinS.b ?_) | (refine FinS.lb ?_) | (refine FinS.i ?_) | (refine FinS.f ?_) | (refine FinS.agg ?_) | (refine FinS.tup ?_)))
          all_goals (try (refine Side.mk ?_; (try simp only [Int.toNat_natCast, Nat.zero_add, dOf_row, lsV_c, bOf_b] at *); (try simp only [eq_self, decide_eq_true_eq, decide_eq_false_iff_not, Int.ofNat_lt, Int.ofNat_le, gt_iff_lt, ge_iff_le, true_and, Bool.not_eq_true', Bool.not_eq_false'] at *); all_goals first | (with_reducible rfl) | trivial | omega | rfl | exact fun _ _ => trivial | exact ⟨rfl, rfl⟩ | exact ⟨rfl, fun _ _ => rfl⟩ | exact ⟨rfl, rfl, fun _ _ => rfl⟩ | (exact ⟨by omega, by omega, by show ((fL (okB p) i).length + 1) * 8 ≤ _; omega, by omega⟩) | (exact ⟨by omega, by omega⟩)))
          refine loop_ruleD zES13_K (hndU_sound U30_k zHS13_K) (γ := Nat × (Nat → Int)) (fun x => ⟨[(0, .ro 4 nn (fun j => bM (p j))), (4, .os 0 1 0 ((fL (okB p) i).length + 1)), (5, .i .i64 (i : Int)), (6, .i .i64 (x.1 : Int))], [], [(0, .rows 1 ((fL (okB p) i).length + 1) (rowI x.2))], 1⟩) (fun x => InsOK p nn ((fL (okB p) i).length + 1) 0 (fL (okB p) i).length (apF (fL (okB p) i).length i (rfV p i)) x) insN (fun x => x.1) (((fL (okB p) i).length, apF (fL (okB p) i).length i (rfV p i))) (Le.of ?_) ?_ ?_
          · conv => whnf
            repeat' ((fail_if_success (with_reducible refine Side.mk ?_)); first | (refine Rest.mk (drawJ_sound zES13_K mixOK (hndU_sound U30_k zHS13_K) [4,3,2] (by decide +kernel) ?_)) | (refine Rest.mk (drawR_sound zES13_K mixOK (hndU_sound U30_k zHS13_K) ?_)) | ((fail_if_success (with_reducible refine Rest.mk ?_)); first | (with_reducible exact True.intro) | (with_reducible refine Need.mk ?_ ?_) | (with_reducible refine And.intro ?_ ?_) | (with_reducible intro _) | ((fail_if_success (with_reducible refine FinS.mk ?_)); (fail_if_success (with_reducible refine Le.mk ?_)); (conv => whnf)) | (refine FinS.b ?_) | (refine FinS.lb ?_) | (refine FinS.i ?_) | (refine FinS.f ?_) | (refine FinS.agg ?_) | (refine FinS.tup ?_)))
            all_goals (try (refine Le.of ?_; (conv => whnf)))
            repeat' ((fail_if_success (with_reducible refine Side.mk ?_)); first | (refine Rest.mk (drawJ_sound zES13_K mixOK (hndU_sound U30_k zHS13_K) [4,3,2] (by decide +kernel) ?_)) | (refine Rest.mk (drawR_sound zES13_K mixOK (hndU_sound U30_k zHS13_K) ?_)) | ((fail_if_success (with_reducible refine Rest.mk ?_)); first | (with_reducible exact True.intro) | (with_reducible refine Need.mk ?_ ?_) | (with_reducible refine And.intro ?_ ?_) | (with_reducible intro _) | ((fail_if_success (with_reducible refine FinS.mk ?_)); (fail_if_success (with_reducible refine Le.mk ?_)); (conv => whnf)) | (refine FinS.b ?_) | (refine FinS.lb ?_) | (refine FinS.i ?_) | (refine FinS.f ?_) | (refine FinS.agg ?_) | (refine FinS.tup ?_)))
            all_goals (try refine Side.mk ?_)
            all_goals (try simp only [eq_self, decide_eq_true_eq, decide_eq_false_iff_not, Int.ofNat_lt, Int.ofNat_le, gt_iff_lt, ge_iff_le, true_and, Bool.not_eq_true', Bool.not_eq_false'] at *)
            all_goals first | (with_reducible exact w2) | (with_reducible rfl) | trivial | omega | rfl | exact fun _ _ => trivial | exact ⟨rfl, rfl⟩ | exact ⟨rfl, fun _ _ => rfl⟩ | exact ⟨rfl, rfl, fun _ _ => rfl⟩ | (exact fun _ _ _ _ => .inr trivial) | (exact ⟨trivial, fun _ _ _ _ => .inr trivial⟩) | (exact ⟨rfl, rfl, fun _ _ _ _ => .inr trivial⟩) | (exact fun k hk j hj => .inr (app_f rfl hk hj)) | (exact ⟨rfl, rfl, fun k hk j hj => .inr (app_f rfl hk hj)⟩) | (exact ⟨trivial, fun k hk j hj => .inr (app_f rfl hk hj)⟩) | (exact fun k hk j hj => .inr (app_f rfl hk hj))
          · exact ⟨by dsimp only; omega, rfl, ap_bd hlt⟩
          · intro x hx
            obtain ⟨j, e⟩ := x
            have hp := hx.le
            dsimp only at hp
            have hbd : Bd nn ((fL (okB p) i).length + 1) e := hx.bd
            have bj := hbd j (by omega)
            have bj1 := hbd (j - 1) (by omega)
            rcases Nat.lt_or_ge 0 j with haj | haj
            · have hj1 : IntKind.i64.wrap ((j : Int) - 1) = ((j - 1 : Nat) : Int) := wsub1 (by omega) (by omega)
              have h0j : (0 : Int) < (j : Int) := by omega
              repeat' ((fail_if_success (with_reducible refine Side.mk ?_)); first | (refine Rest.mk (drawJ_sound zES13_K mixOK (hndU_sound U30_k zHS13_K) [4,3,2] (by decide +kernel) ?_)) | (refine Rest.mk (drawR_sound zES13_K mixOK (hndU_sound U30_k zHS13_K) ?_)) | ((fail_if_success (with_reducible refine Rest.mk ?_)); first | (with_reducible exact True.intro) | (with_reducible refine Need.mk ?_ ?_) | (with_reducible refine And.intro ?_ ?_) | (with_reducible intro _) | ((fail_if_success (with_reducible refine FinS.mk ?_)); (fail_if_success (with_reducible refine Le.mk ?_)); (conv => whnf)) | (refine FinS.b ?_) | (refine FinS.lb ?_) | (refine FinS.i ?_) | (refine FinS.f ?_) | (refine FinS.agg ?_) | (refine FinS.tup ?_)))
              all_goals (try (refine Le.of ?_; (conv => whnf)))
              repeat' ((fail_if_success (with_reducible refine Side.mk ?_)); first | (refine Rest.mk (drawJ_sound zES13_K mixOK (hndU_sound U30_k zHS13_K) [4,3,2] (by decide +kernel) ?_)) | (refine Rest.mk (drawR_sound zES13_K mixOK (hndU_sound U30_k zHS13_K) ?_)) | ((fail_if_success (with_reducible refine Rest.mk ?_)); first | (with_reducible exact True.intro) | (with_reducible refine Need.mk ?_ ?_) | (with_reducible refine And.intro ?_ ?_) | (with_reducible intro _) | ((fail_if_success (with_reducible refine FinS.mk ?_)); (fail_if_success (with_reducible refine Le.mk ?_)); (conv => whnf)) | (refine FinS.b ?_) | (refine FinS.lb ?_) | (refine FinS.i ?_) | (refine FinS.f ?_) | (refine FinS.agg ?_) | (refine FinS.tup ?_)))
              all_goals (try refine Side.mk ?_)
              all_goals (try simp only [Int.toNat_natCast, Nat.zero_add, dOf_row, lsV_c, bOf_b, hj1, w1, lsV_f, Nat.succ_eq_add_one] at *)
              all_goals (try simp only [eq_self, decide_eq_true_eq, decide_eq_false_iff_not, Int.ofNat_lt, Int.ofNat_le, gt_iff_lt, ge_iff_le, true_and, Bool.not_eq_true', Bool.not_eq_false'] at *)
              all_goals first | (with_reducible exact fL_tl hok) | (with_reducible rfl) | trivial | omega | rfl | exact fun _ _ => trivial | exact ⟨rfl, rfl⟩ | exact ⟨rfl, fun _ _ => rfl⟩ | exact ⟨rfl, rfl, fun _ _ => rfl⟩ | (exact fun _ => ⟨by omega, by omega⟩) | (exact fun _ => (by omega)) | (exact fun _ => bj) | (exact fun _ => bj1) | ((have hc := ‹(decide ((0 : Int) < (j : Int)) && lsV p (e j) (e (j - 1))) = true›; exact ⟨hx.next (Nat.lt_succ_self _) haj (by rw [Bool.and_eq_true] at hc; exact hc.2), by show j - 1 < j; omega⟩)) | (exact ⟨by omega, by omega⟩) | (exact fun _ _ _ _ => .inr trivial) | (exact ⟨trivial, fun _ _ _ _ => .inr trivial⟩) | (exact ⟨rfl, rfl, fun _ _ _ _ => .inr trivial⟩) | (exact fun k hk z hz => .inr (congrArg (fun l => getM l z) (swp_row (insN (j, e)).2 rfl))) | (exact ⟨rfl, rfl, fun k hk z hz => .inr (congrArg (fun l => getM l z) (swp_row (insN (j, e)).2 rfl))⟩) | (exact ⟨trivial, fun k hk z hz => .inr (congrArg (fun l => getM l z) (swp_row (insN (j, e)).2 rfl))⟩) | ((have hc := ‹(decide ((0 : Int) < (j : Int)) && lsV p (e j) (e (j - 1))) = false›; exact fun k hk z hz => .inr (by rw [rfV_t hok, ← hx.stop (by simpa using hc)]))) | ((have hc := ‹(decide ((0 : Int) < (j : Int)) && lsV p (e j) (e (j - 1))) = false›; exact ⟨fL_tl hok, fun k hk z hz => .inr (by rw [rfV_t hok, ← hx.stop (by simpa using hc)])⟩)) | ((have hc := ‹(decide ((0 : Int) < (j : Int)) && lsV p (e j) (e (j - 1))) = false›; exact ⟨rfl, fL_tl hok, fun k hk z hz => .inr (by rw [rfV_t hok, ← hx.stop (by simpa using hc)])⟩))
            · have hna : ¬ 0 < j := (by omega)
              repeat' ((fail_if_success (with_reducible refine Side.mk ?_)); first | (refine Rest.mk (drawJ_sound zES13_K mixOK (hndU_sound U30_k zHS13_K) [4,3,2] (by decide +kernel) ?_)) | (refine Rest.mk (drawR_sound zES13_K mixOK (hndU_sound U30_k zHS13_K) ?_)) | ((fail_if_success (with_reducible refine Rest.mk ?_)); first | (with_reducible exact True.intro) | (with_reducible refine Need.mk ?_ ?_) | (with_reducible refine And.intro ?_ ?_) | (with_reducible intro _) | ((fail_if_success (with_reducible refine FinS.mk ?_)); (fail_if_success (with_reducible refine Le.mk ?_)); (conv => whnf)) | (refine FinS.b ?_) | (refine FinS.lb ?_) | (refine FinS.i ?_) | (refine FinS.f ?_) | (refine FinS.agg ?_) | (refine FinS.tup ?_)))
              all_goals (try (refine Le.of ?_; (conv => whnf)))
              repeat' ((fail_if_success (with_reducible refine Side.mk ?_)); first | (refine Rest.mk (drawJ_sound zES13_K mixOK (hndU_sound U30_k zHS13_K) [4,3,2] (by decide +kernel) ?_)) | (refine Rest.mk (drawR_sound zES13_K mixOK (hndU_sound U30_k zHS13_K) ?_)) | ((fail_if_success (with_reducible refine Rest.mk ?_)); first | (with_reducible exact True.intro) | (with_reducible refine Need.mk ?_ ?_) | (with_reducible refine And.intro ?_ ?_) | (with_reducible intro _) | ((fail_if_success (with_reducible refine FinS.mk ?_)); (fail_if_success (with_reducible refine Le.mk ?_)); (conv => whnf)) | (refine FinS.b ?_) | (refine FinS.lb ?_) | (refine FinS.i ?_) | (refine FinS.f ?_) | (refine FinS.agg ?_) | (refine FinS.tup ?_)))
              all_goals (try refine Side.mk ?_)
              all_goals (try simp only [Int.toNat_natCast, Nat.zero_add, dOf_row, lsV_c, bOf_b, w1, Nat.succ_eq_add_one] at *)
              all_goals (try simp only [eq_self, decide_eq_true_eq, decide_eq_false_iff_not, Int.ofNat_lt, Int.ofNat_le, gt_iff_lt, ge_iff_le, true_and, Bool.not_eq_true', Bool.not_eq_false'] at *)
              all_goals first | (with_reducible exact fL_tl hok) | (with_reducible rfl) | trivial | omega | rfl | exact fun _ _ => trivial | exact ⟨rfl, rfl⟩ | exact ⟨rfl, fun _ _ => rfl⟩ | exact ⟨rfl, rfl, fun _ _ => rfl⟩ | (exact fun h => absurd (show 0 < j by omega) hna) | (exact fun h => absurd (show 0 < j by have := h.1; omega) hna) | ((exfalso; rename_i hc; rw [Bool.and_eq_true] at hc; exact hna (by simpa using hc.1))) | ((exfalso; rename_i hc _; rw [Bool.and_eq_true] at hc; exact hna (by simpa using hc.1))) | (exact ⟨by omega, by omega⟩) | (exact fun k hk z hz => .inr (by rw [rfV_t hok, ← hx.stop0 hna])) | (exact ⟨fL_tl hok, fun k hk z hz => .inr (by rw [rfV_t hok, ← hx.stop0 hna])⟩) | (exact ⟨rfl, fL_tl hok, fun k hk z hz => .inr (by rw [rfV_t hok, ← hx.stop0 hna])⟩)
      · obtain rfl : i = nn := by omega
        repeat' ((fail_if_success (with_reducible refine Side.mk ?_)); first | (refine Rest.mk (drawJ_sound zES13_K mixOK (hndU_sound U30_k zHS13_K) [4,3,2] (by decide +kernel) ?_)) | (refine Rest.mk (drawR_sound zES13_K mixOK (hndU_sound U30_k zHS13_K) ?_)) | ((fail_if_success (with_reducible refine Rest.mk ?_)); first | (with_reducible exact True.intro) | (with_reducible refine Need.mk ?_ ?_) | (with_reducible refine And.intro ?_ ?_) | (with_reducible intro hcl; try (exfalso; (simp at hcl); done)) | ((fail_if_success (with_reducible refine FinS.mk ?_)); (fail_if_success (with_reducible refine Le.mk ?_)); (conv => whnf)) | (refine FinS.b ?_) | (refine FinS.lb ?_) | (refine FinS.i ?_) | (refine FinS.f ?_) | (refine FinS.agg ?_) | (refine FinS.tup ?_)))
        all_goals (try (refine Le.of ?_; (conv => whnf)))
        repeat' ((fail_if_success (with_reducible refine Side.mk ?_)); first | (refine Rest.mk (drawJ_sound zES13_K mixOK (hndU_sound U30_k zHS13_K) [4,3,2] (by decide +kernel) ?_)) | (refine Rest.mk (drawR_sound zES13_K mixOK (hndU_sound U30_k zHS13_K) ?_)) | ((fail_if_success (with_reducible refine Rest.mk ?_)); first | (with_reducible exact True.intro) | (with_reducible refine Need.mk ?_ ?_) | (with_reducible refine And.intro ?_ ?_) | (with_reducible intro _) | ((fail_if_success (with_reducible refine FinS.mk ?_)); (fail_if_success (with_reducible refine Le.mk ?_)); (conv => whnf)) | (refine FinS.b ?_) | (refine FinS.lb ?_) | (refine FinS.i ?_) | (refine FinS.f ?_) | (refine FinS.agg ?_) | (refine FinS.tup ?_)))
        all_goals (try refine Side.mk ?_)
        all_goals (try simp only [Int.toNat_natCast, Nat.zero_add, dOf_row, lsV_c, bOf_b] at *)
        all_goals (try simp only [eq_self, decide_eq_true_eq, decide_eq_false_iff_not, Int.ofNat_lt, Int.ofNat_le, gt_iff_lt, ge_iff_le, true_and, Bool.not_eq_true', Bool.not_eq_false'] at *)
        all_goals first | (with_reducible rfl) | trivial | omega | rfl | exact fun _ _ => trivial | exact ⟨rfl, rfl⟩ | exact ⟨rfl, fun _ _ => rfl⟩ | exact ⟨rfl, rfl, fun _ _ => rfl⟩ | (exact FinS.rows 0 ⟨rfl, by rw [e1], fun k hk j hj => rfl⟩ ⟨⟨rfl, rfl, by rw [e1]⟩, ⟨rfl, e2.symm⟩, True.intro⟩)
noncomputable def g12 : List MV → Option (List Prop × MV × List Blk × Bool)
  | [.ro 4 nn get] => some ([isBx nn get, nn ≤ room], .tup [.os 0 1 0 (cutL nn (fL (okB (bOf get)) nn)).length, .i .i64 (eN nn)], [.rows 1 (cutL nn (fL (okB (bOf get)) nn)).length (rowI (refV (bOf get) nn))], false)
  | _ => none
theorem s12 : SumsOK Try.prog (sumOf 12 g12 S13) := by
  refine SumsOK.add S13_ok fun ms ps m blks al e hp => ?_
  unfold g12 at e
  split at e
  · cases e
    exact (le_arg1 (t12 _ (bOf _) (hp _ (.tail _ (.head _)))) (leR_bx (hp _ (.head _)))).aloneR rfl (fun i hi j hj => flat_I hj)
  · cases e
noncomputable def S12 := sumOf 12 g12 S13
theorem S12_ok : SumsOK Try.prog S12 := s12
end Go.Ev.Sweep
