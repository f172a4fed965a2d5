/-
  The contracts of lent and of both With; for lists of at most 4398046511103 boxes.
-/
import Derived.Test.YtbnfcjckbgpkeaaSweI
import Derived.Test.YtbnfcjckbgpkeaaEvL
set_option linter.unusedSimpArgs false
set_option linter.unusedVariables false
open Go Go.Proofs
namespace Go.Ev.Sweep
set_option maxRecDepth 100000
set_option maxHeartbeats 1000000
open Go.Ev.So
def lR (l : List Int) : Nat → List MV := rowI fun k => l.getD k 0
def fL (q : Nat → Bool) : Nat → List Int
  | 0 => []
  | i + 1 => bif q i then fL q i ++ [(i : Int)] else fL q i
theorem fL_t {q : Nat → Bool} {i : Nat} (h : q i = true) : fL q (i + 1) = fL q i ++ [(i : Int)] := by show (bif q i then _ else _) = _; rw [h]; rfl
theorem fL_f {q : Nat → Bool} {i : Nat} (h : q i = false) : fL q (i + 1) = fL q i := by show (bif q i then _ else _) = _; rw [h]; rfl
theorem fL_tl {q : Nat → Bool} {i : Nat} (h : q i = true) : (fL q i).length + 1 = (fL q (i + 1)).length := by rw [fL_t h]; simp
theorem fL_fl {q : Nat → Bool} {i : Nat} (h : q i = false) : (fL q i).length = (fL q (i + 1)).length := by rw [fL_f h]
theorem fL_len (q : Nat → Bool) : ∀ i, (fL q i).length ≤ i
  | 0 => Nat.le_refl _
  | i + 1 => by
    have := fL_len q i
    cases h : q i
    · rw [fL_f h]; omega
    · rw [fL_t h]; simp; omega
theorem app_i {l : List Int} {v : Int} {X : Nat → List MV} {tl : List MV} (hX : X 0 = .i .i64 v :: tl) {k j : Nat} (hk : k < l.length + 1) (hj : j < 1) : getM (appGet l.length (lR l) X k) j = getM (lR (l ++ [v]) k) j := by
  obtain rfl : j = 0 := by omega
  unfold appGet
  rw [show k - l.length = 0 by omega, hX]
  rcases Nat.lt_or_eq_of_le (Nat.le_of_lt_succ hk) with e | e
  · have hb : Nat.blt k l.length = true := by simpa using e
    rw [hb]
    show MV.i .i64 (l.getD k 0) = MV.i .i64 ((l ++ [v]).getD k 0)
    simp [List.getD_eq_getElem?_getD, List.getElem?_append_left e]
  · subst e
    have hb : Nat.blt l.length l.length = false := by
      cases h : Nat.blt l.length l.length
      · rfl
      · simp at h
    rw [hb]
    show MV.i .i64 v = MV.i .i64 ((l ++ [v]).getD l.length 0)
    simp [List.getD_eq_getElem?_getD]
theorem fL_ta {q : Nat → Bool} {i : Nat} (h : q i = true) {X : Nat → List MV} {tl : List MV} (hX : X 0 = .i .i64 (i : Int) :: tl) {k j : Nat} (hk : k < (fL q (i + 1)).length) (hj : j < 1) : getM (appGet (fL q i).length (lR (fL q i)) X k) j = getM (lR (fL q (i + 1)) k) j := by
  rw [← fL_tl h] at hk
  rw [fL_t h]; exact app_i hX hk hj
theorem fL_tb {q : Nat → Bool} {i : Nat} (h : q i = true) {X : Nat → List MV} {tl : List MV} (hX : X 0 = .i .i64 (i : Int) :: tl) {k j : Nat} (hk : k < (fL q i).length + 1) (hj : j < 1) : getM (appGet (fL q i).length (lR (fL q i)) X k) j = getM (lR (fL q (i + 1)) k) j := by
  rw [fL_t h]; exact app_i hX hk hj
def tooMany (nn : Nat) : Bool := decide (16384 < nn)
def eN (nn : Nat) : Int := bif tooMany nn then 4 else 0
def cutL (nn : Nat) (l : List Int) : List Int := bif tooMany nn then [] else l
theorem many_t {nn : Nat} (h : 16384 < nn) {l : List Int} : cutL nn l = [] ∧ eN nn = 4 := by unfold cutL eN tooMany; rw [decide_eq_true h]; exact ⟨rfl, rfl⟩
theorem many_f {nn : Nat} (h : ¬ 16384 < nn) {l : List Int} : cutL nn l = l ∧ eN nn = 0 := by unfold cutL eN tooMany; rw [decide_eq_false h]; exact ⟨rfl, rfl⟩
def ck (v : Bx) : Int := chk v.1 v.2.1 v.2.2.1 v.2.2.2
def okB (p : Nat → Bx) (i : Nat) : Bool := ck (p i) == 0
def wR (p : Nat → Bx) (b : Bx) (i : Nat) : Bool := meetV (p i).1 (p i).2.1 (p i).2.2.1 (p i).2.2.2 b.1 b.2.1 b.2.2.1 b.2.2.2
def wP (p : Nat → Bx) (b : Bx) (i : Nat) : Bool := ck b == 0 && ck (p i) == 0 && ovV (p i).1 (p i).2.1 (p i).2.2.1 (p i).2.2.2 b.1 b.2.1 b.2.2.1 b.2.2.2
def room : Nat := 4398046511103
def lentV (n : Nat) (p : Nat → Bx) (i : Nat) : Bx := bif Nat.blt i n then p i else (4635118810238550016, 0, 0, 0)
theorem lent_lo {n i : Nat} {p : Nat → Bx} (h : i < n) : lentV n p i = p i := by unfold lentV; rw [show Nat.blt i n = true by simpa using h]; rfl
theorem lent_0 {n : Nat} {p : Nat → Bx} : lentV n p n = (4635118810238550016, 0, 0, 0) := by
  unfold lentV
  have hb : Nat.blt n n = false := by
    cases h : Nat.blt n n
    · rfl
    · simp at h
  rw [hb]; rfl
theorem lent_get {n k j : Nat} {p : Nat → Bx} {X : Nat → List MV} {t0 : List MV} (h0 : X 0 = .f .f64 4635118810238550016 :: .f .f64 0 :: .f .f64 0 :: .f .f64 0 :: t0) (hk : k < n + 1) (hj : j < 4) :
    getM (appGet n (fun j => bM (p j)) X k) j = getM (bM (lentV n p k)) j := by
  unfold appGet
  have hj : j = 0 ∨ j = 1 ∨ j = 2 ∨ j = 3 := by omega
  rcases Nat.lt_or_eq_of_le (Nat.le_of_lt_succ hk) with h | h
  · rw [show Nat.blt k n = true by simpa using h, lent_lo h, show k - n = 0 by omega, h0]; rcases hj with rfl | rfl | rfl | rfl <;> rfl
  · subst h
    have hb : Nat.blt k k = false := by
      cases h : Nat.blt k k
      · rfl
      · simp at h
    rw [hb, Nat.sub_self, lent_0, h0]; rcases hj with rfl | rfl | rfl | rfl <;> rfl
noncomputable def fi9 : FnI := ⟨12, Try.f9.body.getD .skip, [.tmp 2], true⟩
theorem fi9_ok : fnGen Try.prog 9 = some fi9 := by kernel_rfl
theorem zHS29_J {cx : Cx} : CallH (genQ Try.prog exts eqs [] S29).P cx (hnd (genQ Try.prog exts eqs [] S29) cx 6) := hnd_sound (genQ_full extsOK eqsOK S29_ok) 6
theorem zES29_J : EnvAll (genQ Try.prog exts eqs [] S29) := (genQ_full extsOK eqsOK S29_ok).toEnvAll
theorem t9 (nn : Nat) (p : Nat → Bx) (c0 : nn ≤ room) : CM Try.prog 9 [.ro 4 nn (fun j => bM (p j))] (.os 0 4 0 (nn + 1)) [.rows 4 (nn + 1) fun i => bM (lentV nn p i)] true := by
  refine CM.of_code zES29_J (fnGen_ok fi9_ok) rfl fun w0 okA => ?_
  refine evC_sound (genQ_full extsOK eqsOK S29_ok).toEnvAll (hndU_sound U30_k zHS29_J) ?_
  have c1 : nn ≤ 4398046511103 := c0
  repeat' ((fail_if_success (with_reducible refine Side.mk ?_)); first | ((fail_if_success (with_reducible refine Rest.mk ?_)); first | (with_reducible exact True.intro) | (with_reducible refine Need.mk ?_ ?_) | (with_reducible refine And.intro ?_ ?_) | (with_reducible intro _) | ((fail_if_success (with_reducible refine FinS.mk ?_)); (fail_if_success (with_reducible refine Le.mk ?_)); (conv => whnf)) | (refine FinS.b ?_) | (refine FinS.lb ?_) | (refine FinS.i ?_) | (refine FinS.f ?_) | (refine FinS.agg ?_) | (refine FinS.tup ?_)))
  all_goals (try (refine Le.of ?_; (conv => whnf)))
  repeat' ((fail_if_success (with_reducible refine Side.mk ?_)); first | ((fail_if_success (with_reducible refine Rest.mk ?_)); first | (with_reducible exact True.intro) | (with_reducible refine Need.mk ?_ ?_) | (with_reducible refine And.intro ?_ ?_) | (with_reducible intro _) | ((fail_if_success (with_reducible refine FinS.mk ?_)); (fail_if_success (with_reducible refine Le.mk ?_)); (conv => whnf)) | (refine FinS.b ?_) | (refine FinS.lb ?_) | (refine FinS.i ?_) | (refine FinS.f ?_) | (refine FinS.agg ?_) | (refine FinS.tup ?_)))
  all_goals (try refine Side.mk ?_)
  all_goals (try simp only [eq_self, decide_eq_true_eq, decide_eq_false_iff_not, Int.ofNat_lt, Int.ofNat_le, gt_iff_lt, ge_iff_le, true_and, Bool.not_eq_true', Bool.not_eq_false'] at *)
  all_goals first | (with_reducible rfl) | trivial | omega | rfl | exact fun _ _ => trivial | exact ⟨rfl, rfl⟩ | exact ⟨rfl, fun _ _ => rfl⟩ | exact ⟨rfl, rfl, fun _ _ => rfl⟩ | (exact ⟨by show nn * 32 ≤ _; omega, by omega⟩) | (exact ⟨by omega, by omega, by show (nn + 1) * 32 ≤ _; omega, by omega⟩) | (exact FinS.rows 0 ⟨rfl, rfl, fun k hk j hj => lent_get (t0 := []) rfl hk hj⟩ ⟨rfl, rfl, rfl⟩)
noncomputable def g9 : List MV → Option (List Prop × MV × List Blk × Bool)
  | [.ro 4 nn get] => some ([isBx nn get, nn ≤ room], .os 0 4 0 (nn + 1), [.rows 4 (nn + 1) fun i => bM (lentV nn (bOf get) i)], true)
  | _ => none
theorem s9 : SumsOK Try.prog (sumOf 9 g9 S29) := by
  refine SumsOK.add S29_ok fun ms ps m blks al e hp => ?_
  unfold g9 at e
  split at e
  · cases e
    exact (le_arg1 (t9 _ (bOf _) (hp _ (.tail _ (.head _)))) (leR_bx (hp _ (.head _))))
  · cases e
noncomputable def S9 := sumOf 9 g9 S29
theorem S9_ok : SumsOK Try.prog S9 := s9
noncomputable def fi10 : FnI := ⟨28, Try.f10.body.getD .skip, [.tmp 4, .tmp 5], true⟩
theorem fi10_ok : fnGen Try.prog 10 = some fi10 := by kernel_rfl
theorem zHS9_J {cx : Cx} : CallH (genQ Try.prog exts eqs [] S9).P cx (hnd (genQ Try.prog exts eqs [] S9) cx 6) := hnd_sound (genQ_full extsOK eqsOK S9_ok) 6
theorem zES9_J : EnvAll (genQ Try.prog exts eqs [] S9) := (genQ_full extsOK eqsOK S9_ok).toEnvAll
theorem t10 (nn : Nat) (p : Nat → Bx) (b : Bx) (c0 : nn ≤ room) : CM Try.prog 10 [.ro 4 nn (fun j => bM (p j)), .agg (bM b)] (.tup [.os 0 1 0 (cutL nn (fL (wR p b) nn)).length, .i .i64 (eN nn)]) [.rows 1 (cutL nn (fL (wR p b) nn)).length (lR (cutL nn (fL (wR p b) nn)))] true := by
  refine CM.of_code zES9_J (fnGen_ok fi10_ok) rfl fun w0 okA => ?_
  refine evC_sound (genQ_full extsOK eqsOK S9_ok).toEnvAll (hndU_sound U30_k zHS9_J) ?_
  have c1 : nn ≤ 4398046511103 := c0
  by_cases hm : 16384 < nn
  · obtain ⟨e1, e2⟩ := many_t hm (l := fL (wR p b) nn)
    repeat' ((fail_if_success (with_reducible refine Side.mk ?_)); first | (refine Rest.mk (drawR_sound zES9_J mixOK (hndU_sound U30_k zHS9_J) ?_)) | ((fail_if_success (with_reducible refine Rest.mk ?_)); first | (with_reducible exact True.intro) | (with_reducible refine Need.mk ?_ ?_) | (with_reducible refine And.intro ?_ ?_) | (with_reducible intro hcl; try (exfalso; (simp at hcl; omega); done)) | ((fail_if_success (with_reducible refine FinS.mk ?_)); (fail_if_success (with_reducible refine Le.mk ?_)); (conv => whnf)) | (refine FinS.b ?_) | (refine FinS.lb ?_) | (refine FinS.i ?_) | (refine FinS.f ?_) | (refine FinS.agg ?_) | (refine FinS.tup ?_)))
    all_goals (try (refine Le.of ?_; (conv => whnf)))
    repeat' ((fail_if_success (with_reducible refine Side.mk ?_)); first | (refine Rest.mk (drawR_sound zES9_J mixOK (hndU_sound U30_k zHS9_J) ?_)) | ((fail_if_success (with_reducible refine Rest.mk ?_)); first | (with_reducible exact True.intro) | (with_reducible refine Need.mk ?_ ?_) | (with_reducible refine And.intro ?_ ?_) | (with_reducible intro _) | ((fail_if_success (with_reducible refine FinS.mk ?_)); (fail_if_success (with_reducible refine Le.mk ?_)); (conv => whnf)) | (refine FinS.b ?_) | (refine FinS.lb ?_) | (refine FinS.i ?_) | (refine FinS.f ?_) | (refine FinS.agg ?_) | (refine FinS.tup ?_)))
    all_goals (try refine Side.mk ?_)
    all_goals (try simp only [eq_self, decide_eq_true_eq, decide_eq_false_iff_not, Int.ofNat_lt, Int.ofNat_le, gt_iff_lt, ge_iff_le, true_and, Bool.not_eq_true', Bool.not_eq_false'] at *)
    all_goals first | (with_reducible rfl) | trivial | omega | rfl | exact fun _ _ => trivial | exact ⟨rfl, rfl⟩ | exact ⟨rfl, fun _ _ => rfl⟩ | exact ⟨rfl, rfl, fun _ _ => rfl⟩ | (exact FinS.rows0 ⟨by rw [e1]; rfl⟩ ⟨⟨by rw [e1]; rfl⟩, ⟨rfl, e2.symm⟩, True.intro⟩)
  · obtain ⟨e1, e2⟩ := many_f hm (l := fL (wR p b) nn)
    repeat' ((fail_if_success (with_reducible refine Side.mk ?_)); first | (refine Rest.mk (drawR_sound zES9_J mixOK (hndU_sound U30_k zHS9_J) ?_)) | ((fail_if_success (with_reducible refine Rest.mk ?_)); first | (with_reducible exact True.intro) | (with_reducible refine Need.mk ?_ ?_) | (with_reducible refine And.intro ?_ ?_) | (with_reducible intro hcl; try (exfalso; (simp at hcl; omega); done)) | ((fail_if_success (with_reducible refine FinS.mk ?_)); (fail_if_success (with_reducible refine Le.mk ?_)); (conv => whnf)) | (refine FinS.b ?_) | (refine FinS.lb ?_) | (refine FinS.i ?_) | (refine FinS.f ?_) | (refine FinS.agg ?_) | (refine FinS.tup ?_)))
    refine loop_ruleD zES9_J (hndU_sound U30_k zHS9_J) (γ := Nat) (fun i => ⟨[(0, .ro 4 nn (fun j => bM (p j))), (7, .i .i64 (i : Int)), (3, .p 0 0), (6, .os 1 1 0 (fL (wR p b) i).length)], [], [(0, .cells (bM b)), (1, .rows 1 (fL (wR p b) i).length (lR (fL (wR p b) i)))], 2⟩) (fun i => i ≤ nn) Nat.succ (fun i => nn - i) (0) (Le.phan 1 (Le.of ?_)) ?_ ?_
    · conv => whnf
      repeat' ((fail_if_success (with_reducible refine Side.mk ?_)); first | (refine Rest.mk (drawR_sound zES9_J mixOK (hndU_sound U30_k zHS9_J) ?_)) | ((fail_if_success (with_reducible refine Rest.mk ?_)); first | (with_reducible exact True.intro) | (with_reducible refine Need.mk ?_ ?_) | (with_reducible refine And.intro ?_ ?_) | (with_reducible intro _) | ((fail_if_success (with_reducible refine FinS.mk ?_)); (fail_if_success (with_reducible refine Le.mk ?_)); (conv => whnf)) | (refine FinS.b ?_) | (refine FinS.lb ?_) | (refine FinS.i ?_) | (refine FinS.f ?_) | (refine FinS.agg ?_) | (refine FinS.tup ?_)))
      all_goals (try (refine Le.of ?_; (conv => whnf)))
      repeat' ((fail_if_success (with_reducible refine Side.mk ?_)); first | (refine Rest.mk (drawR_sound zES9_J mixOK (hndU_sound U30_k zHS9_J) ?_)) | ((fail_if_success (with_reducible refine Rest.mk ?_)); first | (with_reducible exact True.intro) | (with_reducible refine Need.mk ?_ ?_) | (with_reducible refine And.intro ?_ ?_) | (with_reducible intro _) | ((fail_if_success (with_reducible refine FinS.mk ?_)); (fail_if_success (with_reducible refine Le.mk ?_)); (conv => whnf)) | (refine FinS.b ?_) | (refine FinS.lb ?_) | (refine FinS.i ?_) | (refine FinS.f ?_) | (refine FinS.agg ?_) | (refine FinS.tup ?_)))
      all_goals (try refine Side.mk ?_)
      all_goals (try simp only [eq_self, decide_eq_true_eq, decide_eq_false_iff_not, Int.ofNat_lt, Int.ofNat_le, gt_iff_lt, ge_iff_le, true_and, Bool.not_eq_true', Bool.not_eq_false'] at *)
      all_goals first | (with_reducible rfl) | trivial | omega | rfl | exact fun _ _ => trivial | exact ⟨rfl, rfl⟩ | exact ⟨rfl, fun _ _ => rfl⟩ | exact ⟨rfl, rfl, fun _ _ => rfl⟩ | (exact fun _ _ _ _ => .inr trivial) | (exact ⟨trivial, fun _ _ _ _ => .inr trivial⟩) | (exact ⟨rfl, rfl, fun _ _ _ _ => .inr trivial⟩) | (exact fun i hi j hj => absurd hi (Nat.not_lt_zero _)) | (exact ⟨rfl, rfl, fun i hi j hj => absurd hi (Nat.not_lt_zero _)⟩) | (exact ⟨trivial, fun i hi j hj => absurd hi (Nat.not_lt_zero _)⟩) | (exact fun _ hi _ _ => absurd hi (Nat.not_lt_zero _)) | (exact ⟨rfl, fun _ hi _ _ => absurd hi (Nat.not_lt_zero _)⟩)
    · omega
    · intro i hi
      have hl := fL_len (wR p b) i
      have w1 : IntKind.i64.wrap ((i : Int) + 1) = ((i + 1 : Nat) : Int) := wadd1 (by omega)
      rcases Nat.lt_or_ge i nn with hlt | hge
      · repeat' ((fail_if_success (with_reducible refine Side.mk ?_)); first | (refine Rest.mk (drawR_sound zES9_J mixOK (hndU_sound U30_k zHS9_J) ?_)) | ((fail_if_success (with_reducible refine Rest.mk ?_)); first | (with_reducible exact True.intro) | (with_reducible refine Need.mk ?_ ?_) | (with_reducible refine And.intro ?_ ?_) | (with_reducible intro hcl; try (exfalso; (simp at hcl; omega); done)) | ((fail_if_success (with_reducible refine FinS.mk ?_)); (fail_if_success (with_reducible refine Le.mk ?_)); (conv => whnf)) | (refine FinS.b ?_) | (refine FinS.lb ?_) | (refine FinS.i ?_) | (refine FinS.f ?_) | (refine FinS.agg ?_) | (refine FinS.tup ?_)))
        all_goals (try (refine Le.of ?_; (conv => whnf)))
        repeat' ((fail_if_success (with_reducible refine Side.mk ?_)); first | (refine Rest.mk (drawR_sound zES9_J mixOK (hndU_sound U30_k zHS9_J) ?_)) | ((fail_if_success (with_reducible refine Rest.mk ?_)); first | (with_reducible exact True.intro) | (with_reducible refine Need.mk ?_ ?_) | (with_reducible refine And.intro ?_ ?_) | (with_reducible intro _) | ((fail_if_success (with_reducible refine FinS.mk ?_)); (fail_if_success (with_reducible refine Le.mk ?_)); (conv => whnf)) | (refine FinS.b ?_) | (refine FinS.lb ?_) | (refine FinS.i ?_) | (refine FinS.f ?_) | (refine FinS.agg ?_) | (refine FinS.tup ?_)))
        all_goals (try refine Side.mk ?_)
        all_goals (try simp only [Int.toNat_natCast, Nat.zero_add, dOf_row, lsV_c, bOf_b, w1, Nat.succ_eq_add_one] at *)
        all_goals (try simp only [eq_self, decide_eq_true_eq, decide_eq_false_iff_not, Int.ofNat_lt, Int.ofNat_le, gt_iff_lt, ge_iff_le, true_and, Bool.not_eq_true', Bool.not_eq_false'] at *)
        all_goals first | (with_reducible rfl) | trivial | omega | rfl | exact fun _ _ => trivial | exact ⟨rfl, rfl⟩ | exact ⟨rfl, fun _ _ => rfl⟩ | exact ⟨rfl, rfl, fun _ _ => rfl⟩ | (exact fL_tl (q := wR p b) (by assumption)) | (exact fL_fl (q := wR p b) (by assumption)) | (exact congrArg Nat.cast (fL_tl (q := wR p b) (by assumption))) | (exact ⟨⟨by omega, by omega⟩⟩) | (exact ⟨by omega, by omega, by show ((fL (wR p b) i).length + 1) * 8 ≤ _; omega, by omega⟩) | (exact ⟨by omega, by omega⟩) | (exact fun _ => ⟨by omega, by omega⟩) | (exact fun _ _ _ _ => .inr trivial) | (exact ⟨trivial, fun _ _ _ _ => .inr trivial⟩) | (exact ⟨rfl, rfl, fun _ _ _ _ => .inr trivial⟩) | (exact fun k hk j hj => .inr (fL_ta ‹_› rfl hk hj)) | (exact ⟨rfl, rfl, fun k hk j hj => .inr (fL_ta ‹_› rfl hk hj)⟩) | (exact ⟨trivial, fun k hk j hj => .inr (fL_ta ‹_› rfl hk hj)⟩) | (exact fun _ _ _ _ => .inr trivial) | (exact ⟨trivial, fun _ _ _ _ => .inr trivial⟩) | (exact ⟨rfl, rfl, fun _ _ _ _ => .inr trivial⟩) | (exact fun k hk j hj => .inr (fL_tb ‹_› rfl hk hj)) | (exact ⟨rfl, rfl, fun k hk j hj => .inr (fL_tb ‹_› rfl hk hj)⟩) | (exact ⟨trivial, fun k hk j hj => .inr (fL_tb ‹_› rfl hk hj)⟩) | (exact fun _ _ _ _ => .inr trivial) | (exact ⟨trivial, fun _ _ _ _ => .inr trivial⟩) | (exact ⟨rfl, rfl, fun _ _ _ _ => .inr trivial⟩) | (exact fun k hk j hj => .inr (by rw [fL_f ‹_›])) | (exact ⟨rfl, rfl, fun k hk j hj => .inr (by rw [fL_f ‹_›])⟩) | (exact ⟨trivial, fun k hk j hj => .inr (by rw [fL_f ‹_›])⟩) | (exact ⟨fL_tl ‹_›, fun k hk j hj => .inr (fL_tb ‹_› rfl hk hj)⟩) | (exact ⟨fL_fl ‹_›, fun k hk j hj => .inr (by rw [fL_f ‹_›])⟩) | (exact ⟨rfl, fL_tl ‹_›, fun k hk j hj => .inr (fL_tb ‹_› rfl hk hj)⟩) | (exact ⟨rfl, fL_fl ‹_›, fun k hk j hj => .inr (by rw [fL_f ‹_›])⟩)
      · obtain rfl : i = nn := by omega
        repeat' ((fail_if_success (with_reducible refine Side.mk ?_)); first | (refine Rest.mk (drawR_sound zES9_J mixOK (hndU_sound U30_k zHS9_J) ?_)) | ((fail_if_success (with_reducible refine Rest.mk ?_)); first | (with_reducible exact True.intro) | (with_reducible refine Need.mk ?_ ?_) | (with_reducible refine And.intro ?_ ?_) | (with_reducible intro hcl; try (exfalso; (simp at hcl); done)) | ((fail_if_success (with_reducible refine FinS.mk ?_)); (fail_if_success (with_reducible refine Le.mk ?_)); (conv => whnf)) | (refine FinS.b ?_) | (refine FinS.lb ?_) | (refine FinS.i ?_) | (refine FinS.f ?_) | (refine FinS.agg ?_) | (refine FinS.tup ?_)))
        all_goals (try (refine Le.of ?_; (conv => whnf)))
        repeat' ((fail_if_success (with_reducible refine Side.mk ?_)); first | (refine Rest.mk (drawR_sound zES9_J mixOK (hndU_sound U30_k zHS9_J) ?_)) | ((fail_if_success (with_reducible refine Rest.mk ?_)); first | (with_reducible exact True.intro) | (with_reducible refine Need.mk ?_ ?_) | (with_reducible refine And.intro ?_ ?_) | (with_reducible intro _) | ((fail_if_success (with_reducible refine FinS.mk ?_)); (fail_if_success (with_reducible refine Le.mk ?_)); (conv => whnf)) | (refine FinS.b ?_) | (refine FinS.lb ?_) | (refine FinS.i ?_) | (refine FinS.f ?_) | (refine FinS.agg ?_) | (refine FinS.tup ?_)))
        all_goals (try refine Side.mk ?_)
        all_goals (try simp only [Int.toNat_natCast, Nat.zero_add, dOf_row, lsV_c, bOf_b] at *)
        all_goals (try simp only [eq_self, decide_eq_true_eq, decide_eq_false_iff_not, Int.ofNat_lt, Int.ofNat_le, gt_iff_lt, ge_iff_le, true_and, Bool.not_eq_true', Bool.not_eq_false'] at *)
        all_goals first | (with_reducible rfl) | trivial | omega | rfl | exact fun _ _ => trivial | exact ⟨rfl, rfl⟩ | exact ⟨rfl, fun _ _ => rfl⟩ | exact ⟨rfl, rfl, fun _ _ => rfl⟩ | (exact FinS.rows 1 ⟨rfl, by rw [e1], fun k hk j hj => by rw [e1]⟩ ⟨⟨rfl, rfl, by rw [e1]⟩, ⟨rfl, e2.symm⟩, True.intro⟩)
noncomputable def g10 : List MV → Option (List Prop × MV × List Blk × Bool)
  | [.ro 4 nn get, .agg [.f .f64 b1, .f .f64 b2, .f .f64 b3, .f .f64 b4]] => some ([isBx nn get, nn ≤ room], (.tup [.os 0 1 0 (cutL nn (fL (wR (bOf get) (b1, b2, b3, b4)) nn)).length, .i .i64 (eN nn)]), [.rows 1 (cutL nn (fL (wR (bOf get) (b1, b2, b3, b4)) nn)).length (lR (cutL nn (fL (wR (bOf get) (b1, b2, b3, b4)) nn)))], false)
  | _ => none
theorem s10 : SumsOK Try.prog (sumOf 10 g10 S9) := by
  refine SumsOK.add S9_ok fun ms ps m blks al e hp => ?_
  unfold g10 at e
  split at e
  · cases e
    rename_i nn get b1 b2 b3 b4
    exact (le_arg1 (t10 nn (bOf get) (b1, b2, b3, b4) (hp _ (.tail _ (.head _)))) (leR_bx (hp _ (.head _)))).aloneR rfl (fun i hi j hj => flat_I hj)
  · cases e
noncomputable def S10 := sumOf 10 g10 S9
theorem S10_ok : SumsOK Try.prog S10 := s10
noncomputable def fi11 : FnI := ⟨38, Try.f11.body.getD .skip, [.tmp 4, .tmp 5], true⟩
theorem fi11_ok : fnGen Try.prog 11 = some fi11 := by kernel_rfl
theorem zHS10_J {cx : Cx} : CallH (genQ Try.prog exts eqs [] S10).P cx (hnd (genQ Try.prog exts eqs [] S10) cx 6) := hnd_sound (genQ_full extsOK eqsOK S10_ok) 6
theorem zES10_J : EnvAll (genQ Try.prog exts eqs [] S10) := (genQ_full extsOK eqsOK S10_ok).toEnvAll
theorem t11 (nn : Nat) (p : Nat → Bx) (b : Bx) (c0 : nn ≤ room) : CM Try.prog 11 [.ro 4 nn (fun j => bM (p j)), .agg (bM b)] (.tup [.os 0 1 0 (cutL nn (fL (wP p b) nn)).length, .i .i64 (eN nn)]) [.rows 1 (cutL nn (fL (wP p b) nn)).length (lR (cutL nn (fL (wP p b) nn)))] true := by
  refine CM.of_code zES10_J (fnGen_ok fi11_ok) rfl fun w0 okA => ?_
  refine evC_sound (genQ_full extsOK eqsOK S10_ok).toEnvAll (hndU_sound U30_k zHS10_J) ?_
  have c1 : nn ≤ 4398046511103 := c0
  by_cases hm : 16384 < nn
  · obtain ⟨e1, e2⟩ := many_t hm (l := fL (wP p b) nn)
    repeat' ((fail_if_success (with_reducible refine Side.mk ?_)); first | ((fail_if_success (with_reducible refine Rest.mk ?_)); first | (with_reducible exact True.intro) | (with_reducible refine Need.mk ?_ ?_) | (with_reducible refine And.intro ?_ ?_) | (with_reducible intro hcl; try (exfalso; (simp at hcl; omega); done)) | ((fail_if_success (with_reducible refine FinS.mk ?_)); (fail_if_success (with_reducible refine Le.mk ?_)); (conv => whnf)) | (refine FinS.b ?_) | (refine FinS.lb ?_) | (refine FinS.i ?_) | (refine FinS.f ?_) | (refine FinS.agg ?_) | (refine FinS.tup ?_)))
    all_goals (try (refine Le.of ?_; (conv => whnf)))
    repeat' ((fail_if_success (with_reducible refine Side.mk ?_)); first | ((fail_if_success (with_reducible refine Rest.mk ?_)); first | (with_reducible exact True.intro) | (with_reducible refine Need.mk ?_ ?_) | (with_reducible refine And.intro ?_ ?_) | (with_reducible intro _) | ((fail_if_success (with_reducible refine FinS.mk ?_)); (fail_if_success (with_reducible refine Le.mk ?_)); (conv => whnf)) | (refine FinS.b ?_) | (refine FinS.lb ?_) | (refine FinS.i ?_) | (refine FinS.f ?_) | (refine FinS.agg ?_) | (refine FinS.tup ?_)))
    all_goals (try refine Side.mk ?_)
    all_goals (try simp only [eq_self, decide_eq_true_eq, decide_eq_false_iff_not, Int.ofNat_lt, Int.ofNat_le, gt_iff_lt, ge_iff_le, true_and, Bool.not_eq_true', Bool.not_eq_false'] at *)
    all_goals first | (with_reducible rfl) | trivial | omega | rfl | exact fun _ _ => trivial | exact ⟨rfl, rfl⟩ | exact ⟨rfl, fun _ _ => rfl⟩ | exact ⟨rfl, rfl, fun _ _ => rfl⟩ | (exact FinS.rows0 ⟨by rw [e1]; rfl⟩ ⟨⟨by rw [e1]; rfl⟩, ⟨rfl, e2.symm⟩, True.intro⟩)
  · obtain ⟨e1, e2⟩ := many_f hm (l := fL (wP p b) nn)
    repeat' ((fail_if_success (with_reducible refine Side.mk ?_)); first | ((fail_if_success (with_reducible refine Rest.mk ?_)); first | (with_reducible exact True.intro) | (with_reducible refine Need.mk ?_ ?_) | (with_reducible refine And.intro ?_ ?_) | (with_reducible intro hcl; try (exfalso; (simp at hcl; omega); done)) | ((fail_if_success (with_reducible refine FinS.mk ?_)); (fail_if_success (with_reducible refine Le.mk ?_)); (conv => whnf)) | (refine FinS.b ?_) | (refine FinS.lb ?_) | (refine FinS.i ?_) | (refine FinS.f ?_) | (refine FinS.agg ?_) | (refine FinS.tup ?_)))
    refine loop_ruleD zES10_J (hndU_sound U30_k zHS10_J) (γ := Nat) (fun i => ⟨[(12, .ro 4 nn (fun j => bM (p j))), (13, .i .i64 (nn : Int)), (14, .i .i64 (i : Int)), (3, .p 0 0), (6, .os 1 1 0 (fL (wP p b) i).length)], [], [(0, .cells (bM b)), (1, .rows 1 (fL (wP p b) i).length (lR (fL (wP p b) i)))], 2⟩) (fun i => i ≤ nn) Nat.succ (fun i => nn - i) (0) (Le.phan 1 (Le.of ?_)) ?_ ?_
    · conv => whnf
      repeat' ((fail_if_success (with_reducible refine Side.mk ?_)); first | ((fail_if_success (with_reducible refine Rest.mk ?_)); first | (with_reducible exact True.intro) | (with_reducible refine Need.mk ?_ ?_) | (with_reducible refine And.intro ?_ ?_) | (with_reducible intro _) | ((fail_if_success (with_reducible refine FinS.mk ?_)); (fail_if_success (with_reducible refine Le.mk ?_)); (conv => whnf)) | (refine FinS.b ?_) | (refine FinS.lb ?_) | (refine FinS.i ?_) | (refine FinS.f ?_) | (refine FinS.agg ?_) | (refine FinS.tup ?_)))
      all_goals (try (refine Le.of ?_; (conv => whnf)))
      repeat' ((fail_if_success (with_reducible refine Side.mk ?_)); first | ((fail_if_success (with_reducible refine Rest.mk ?_)); first | (with_reducible exact True.intro) | (with_reducible refine Need.mk ?_ ?_) | (with_reducible refine And.intro ?_ ?_) | (with_reducible intro _) | ((fail_if_success (with_reducible refine FinS.mk ?_)); (fail_if_success (with_reducible refine Le.mk ?_)); (conv => whnf)) | (refine FinS.b ?_) | (refine FinS.lb ?_) | (refine FinS.i ?_) | (refine FinS.f ?_) | (refine FinS.agg ?_) | (refine FinS.tup ?_)))
      all_goals (try refine Side.mk ?_)
      all_goals (try simp only [eq_self, decide_eq_true_eq, decide_eq_false_iff_not, Int.ofNat_lt, Int.ofNat_le, gt_iff_lt, ge_iff_le, true_and, Bool.not_eq_true', Bool.not_eq_false'] at *)
      all_goals first | (with_reducible rfl) | trivial | omega | rfl | exact fun _ _ => trivial | exact ⟨rfl, rfl⟩ | exact ⟨rfl, fun _ _ => rfl⟩ | exact ⟨rfl, rfl, fun _ _ => rfl⟩ | (exact fun _ _ _ _ => .inr trivial) | (exact ⟨trivial, fun _ _ _ _ => .inr trivial⟩) | (exact ⟨rfl, rfl, fun _ _ _ _ => .inr trivial⟩) | (exact fun i hi j hj => absurd hi (Nat.not_lt_zero _)) | (exact ⟨rfl, rfl, fun i hi j hj => absurd hi (Nat.not_lt_zero _)⟩) | (exact ⟨trivial, fun i hi j hj => absurd hi (Nat.not_lt_zero _)⟩) | (exact fun _ hi _ _ => absurd hi (Nat.not_lt_zero _)) | (exact ⟨rfl, fun _ hi _ _ => absurd hi (Nat.not_lt_zero _)⟩)
    · omega
    · intro i hi
      have hl := fL_len (wP p b) i
      have w1 : IntKind.i64.wrap ((i : Int) + 1) = ((i + 1 : Nat) : Int) := wadd1 (by omega)
      rcases Nat.lt_or_ge i nn with hlt | hge
      · repeat' ((fail_if_success (with_reducible refine Side.mk ?_)); first | ((fail_if_success (with_reducible refine Rest.mk ?_)); first | (with_reducible exact True.intro) | (with_reducible refine Need.mk ?_ ?_) | (with_reducible refine And.intro ?_ ?_) | (with_reducible intro hcl; try (exfalso; (simp at hcl; omega); done)) | ((fail_if_success (with_reducible refine FinS.mk ?_)); (fail_if_success (with_reducible refine Le.mk ?_)); (conv => whnf)) | (refine FinS.b ?_) | (refine FinS.lb ?_) | (refine FinS.i ?_) | (refine FinS.f ?_) | (refine FinS.agg ?_) | (refine FinS.tup ?_)))
        all_goals (try (refine Le.of ?_; (conv => whnf)))
        repeat' ((fail_if_success (with_reducible refine Side.mk ?_)); first | ((fail_if_success (with_reducible refine Rest.mk ?_)); first | (with_reducible exact True.intro) | (with_reducible refine Need.mk ?_ ?_) | (with_reducible refine And.intro ?_ ?_) | (with_reducible intro _) | ((fail_if_success (with_reducible refine FinS.mk ?_)); (fail_if_success (with_reducible refine Le.mk ?_)); (conv => whnf)) | (refine FinS.b ?_) | (refine FinS.lb ?_) | (refine FinS.i ?_) | (refine FinS.f ?_) | (refine FinS.agg ?_) | (refine FinS.tup ?_)))
        all_goals (try refine Side.mk ?_)
        all_goals (try simp only [Int.toNat_natCast, Nat.zero_add, dOf_row, lsV_c, bOf_b, w1, Nat.succ_eq_add_one] at *)
        all_goals (try simp only [eq_self, decide_eq_true_eq, decide_eq_false_iff_not, Int.ofNat_lt, Int.ofNat_le, gt_iff_lt, ge_iff_le, true_and, Bool.not_eq_true', Bool.not_eq_false'] at *)
        all_goals first | (with_reducible rfl) | trivial | omega | rfl | exact fun _ _ => trivial | exact ⟨rfl, rfl⟩ | exact ⟨rfl, fun _ _ => rfl⟩ | exact ⟨rfl, rfl, fun _ _ => rfl⟩ | (exact fL_tl (q := wP p b) (by assumption)) | (exact fL_fl (q := wP p b) (by assumption)) | (exact congrArg Nat.cast (fL_tl (q := wP p b) (by assumption))) | (exact ⟨⟨by omega, by omega⟩⟩) | (exact ⟨by omega, by omega, by show ((fL (wP p b) i).length + 1) * 8 ≤ _; omega, by omega⟩) | (exact ⟨by omega, by omega⟩) | (exact fun _ => ⟨by omega, by omega⟩) | (exact fun _ _ _ _ => .inr trivial) | (exact ⟨trivial, fun _ _ _ _ => .inr trivial⟩) | (exact ⟨rfl, rfl, fun _ _ _ _ => .inr trivial⟩) | (exact fun k hk j hj => .inr (fL_ta ‹_› rfl hk hj)) | (exact ⟨rfl, rfl, fun k hk j hj => .inr (fL_ta ‹_› rfl hk hj)⟩) | (exact ⟨trivial, fun k hk j hj => .inr (fL_ta ‹_› rfl hk hj)⟩) | (exact fun _ _ _ _ => .inr trivial) | (exact ⟨trivial, fun _ _ _ _ => .inr trivial⟩) | (exact ⟨rfl, rfl, fun _ _ _ _ => .inr trivial⟩) | (exact fun k hk j hj => .inr (fL_tb ‹_› rfl hk hj)) | (exact ⟨rfl, rfl, fun k hk j hj => .inr (fL_tb ‹_› rfl hk hj)⟩) | (exact ⟨trivial, fun k hk j hj => .inr (fL_tb ‹_› rfl hk hj)⟩) | (exact fun _ _ _ _ => .inr trivial) | (exact ⟨trivial, fun _ _ _ _ => .inr trivial⟩) | (exact ⟨rfl, rfl, fun _ _ _ _ => .inr trivial⟩) | (exact fun k hk j hj => .inr (by rw [fL_f ‹_›])) | (exact ⟨rfl, rfl, fun k hk j hj => .inr (by rw [fL_f ‹_›])⟩) | (exact ⟨trivial, fun k hk j hj => .inr (by rw [fL_f ‹_›])⟩) | (exact ⟨fL_tl ‹_›, fun k hk j hj => .inr (fL_tb ‹_› rfl hk hj)⟩) | (exact ⟨fL_fl ‹_›, fun k hk j hj => .inr (by rw [fL_f ‹_›])⟩) | (exact ⟨rfl, fL_tl ‹_›, fun k hk j hj => .inr (fL_tb ‹_› rfl hk hj)⟩) | (exact ⟨rfl, fL_fl ‹_›, fun k hk j hj => .inr (by rw [fL_f ‹_›])⟩)
      · obtain rfl : i = nn := by omega
        repeat' ((fail_if_success (with_reducible refine Side.mk ?_)); first | ((fail_if_success (with_reducible refine Rest.mk ?_)); first | (with_reducible exact True.intro) | (with_reducible refine Need.mk ?_ ?_) | (with_reducible refine And.intro ?_ ?_) | (with_reducible intro hcl; try (exfalso; (simp at hcl); done)) | ((fail_if_success (with_reducible refine FinS.mk ?_)); (fail_if_success (with_reducible refine Le.mk ?_)); (conv => whnf)) | (refine FinS.b ?_) | (refine FinS.lb ?_) | (refine FinS.i ?_) | (refine FinS.f ?_) | (refine FinS.agg ?_) | (refine FinS.tup ?_)))
        all_goals (try (refine Le.of ?_; (conv => whnf)))
        repeat' ((fail_if_success (with_reducible refine Side.mk ?_)); first | ((fail_if_success (with_reducible refine Rest.mk ?_)); first | (with_reducible exact True.intro) | (with_reducible refine Need.mk ?_ ?_) | (with_reducible refine And.intro ?_ ?_) | (with_reducible intro _) | ((fail_if_success (with_reducible refine FinS.mk ?_)); (fail_if_success (with_reducible refine Le.mk ?_)); (conv => whnf)) | (refine FinS.b ?_) | (refine FinS.lb ?_) | (refine FinS.i ?_) | (refine FinS.f ?_) | (refine FinS.agg ?_) | (refine FinS.tup ?_)))
        all_goals (try refine Side.mk ?_)
        all_goals (try simp only [Int.toNat_natCast, Nat.zero_add, dOf_row, lsV_c, bOf_b] at *)
        all_goals (try simp only [eq_self, decide_eq_true_eq, decide_eq_false_iff_not, Int.ofNat_lt, Int.ofNat_le, gt_iff_lt, ge_iff_le, true_and, Bool.not_eq_true', Bool.not_eq_false'] at *)
        all_goals first | (with_reducible rfl) | trivial | omega | rfl | exact fun _ _ => trivial | exact ⟨rfl, rfl⟩ | exact ⟨rfl, fun _ _ => rfl⟩ | exact ⟨rfl, rfl, fun _ _ => rfl⟩ | (exact FinS.rows 1 ⟨rfl, by rw [e1], fun k hk j hj => by rw [e1]⟩ ⟨⟨rfl, rfl, by rw [e1]⟩, ⟨rfl, e2.symm⟩, True.intro⟩)
noncomputable def g11 : List MV → Option (List Prop × MV × List Blk × Bool)
  | [.ro 4 nn get, .agg [.f .f64 b1, .f .f64 b2, .f .f64 b3, .f .f64 b4]] => some ([isBx nn get, nn ≤ room], (.tup [.os 0 1 0 (cutL nn (fL (wP (bOf get) (b1, b2, b3, b4)) nn)).length, .i .i64 (eN nn)]), [.rows 1 (cutL nn (fL (wP (bOf get) (b1, b2, b3, b4)) nn)).length (lR (cutL nn (fL (wP (bOf get) (b1, b2, b3, b4)) nn)))], false)
  | _ => none
theorem s11 : SumsOK Try.prog (sumOf 11 g11 S10) := by
  refine SumsOK.add S10_ok fun ms ps m blks al e hp => ?_
  unfold g11 at e
  split at e
  · cases e
    rename_i nn get b1 b2 b3 b4
    exact (le_arg1 (t11 nn (bOf get) (b1, b2, b3, b4) (hp _ (.tail _ (.head _)))) (leR_bx (hp _ (.head _)))).aloneR rfl (fun i hi j hj => flat_I hj)
  · cases e
noncomputable def S11 := sumOf 11 g11 S10
theorem S11_ok : SumsOK Try.prog S11 := s11
end Go.Ev.Sweep
