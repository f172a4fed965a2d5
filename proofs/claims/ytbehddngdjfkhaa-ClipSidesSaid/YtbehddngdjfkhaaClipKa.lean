/-
  The contract of left, the layer's; for lists of at most 8700000000000 points.
-/
import Derived.Test.YtbehddngdjfkhaaClipSi
import Derived.Test.YtbehddngdjfkhaaClipM
import Derived.Test.YtbehddngdjfkhaaEvL
set_option linter.unusedSimpArgs false
set_option linter.unusedVariables false
open Go Go.Proofs
namespace Go.Ev.Clip
set_option maxRecDepth 100000
set_option maxHeartbeats 1000000
theorem pOf_pt {p : Nat → Nat × Nat} : pOf (fun j => ptM (p j)) = p := rfl
def z2 : Nat × Nat := (0, 0)
def uF (pl : Pl) (v : Nat × Nat) : Nat := fsub .f64 (dot pl.1 pl.2.1 v.1 v.2) pl.2.2
def cutF (a b : Nat × Nat) (u w : Nat) : Nat × Nat := (mor a.1 (cutt u w) b.1 a.1, mor a.2 (cutt u w) b.2 a.2)
def eqP (x y : Nat × Nat) : Bool := feq .f64 x.1 y.1 && (feq .f64 x.2 y.2 && true)
def putB (L : List (Nat × Nat)) (v : Nat × Nat) : Bool := ((L.length : Int) == 0) || !eqP (L.getD (L.length - 1) z2) v
def putV (L : List (Nat × Nat)) (v : Nat × Nat) : List (Nat × Nat) := bif putB L v then L ++ [v] else L
def lf1 (pl : Pl) (L : List (Nat × Nat)) (a : Nat × Nat) : List (Nat × Nat) := bif fle .f64 (uF pl a) 0 then putV L a else L
def lf2 (pl : Pl) (L : List (Nat × Nat)) (a b : Nat × Nat) : List (Nat × Nat) := bif fle .f64 (uF pl a) 0 != fle .f64 (uF pl b) 0 then putV L (cutF a b (uF pl a) (uF pl b)) else L
def lfL (pl : Pl) (n : Nat) (p : Nat → Nat × Nat) : Nat → List (Nat × Nat)
  | 0 => []
  | i + 1 => lf2 pl (lf1 pl (lfL pl n p i) (p i)) (p i) (p (nxt n i))
theorem put_len (L : List (Nat × Nat)) (v : Nat × Nat) : (putV L v).length ≤ L.length + 1 := by
  unfold putV; cases putB L v <;> simp
theorem lf_len (pl : Pl) (n : Nat) (p : Nat → Nat × Nat) : ∀ i, i ≤ n → 2 * (lfL pl n p i).length ≤ 3 * i + (bif fle .f64 (uF pl (p (i % n))) 0 then 0 else 1)
  | 0, _ => by simp [lfL]
  | i + 1, h => by
    have ih := lf_len pl n p i (by omega)
    rw [Nat.mod_eq_of_lt (show i < n by omega)] at ih
    show 2 * (lf2 pl (lf1 pl (lfL pl n p i) (p i)) (p i) (p (nxt n i))).length ≤ 3 * (i + 1) + (bif fle .f64 (uF pl (p (nxt n i))) 0 then 0 else 1)
    have h1 := put_len (lfL pl n p i) (p i)
    unfold lf2
    have h2 := put_len (lf1 pl (lfL pl n p i) (p i)) (cutF (p i) (p (nxt n i)) (uF pl (p i)) (uF pl (p (nxt n i))))
    unfold lf1 at h2 ⊢
    cases hu : fle .f64 (uF pl (p i)) 0 <;> cases hw : fle .f64 (uF pl (p (nxt n i))) 0 <;> rw [hu] at ih h2 <;> simp only [cond_true, cond_false, bne_self_eq_false, Bool.false_bne, Bool.true_bne, Bool.not_false, Bool.not_true] at ih h2 ⊢ <;> omega
theorem app1 {L : List (Nat × Nat)} {v : Nat × Nat} {X : Nat → List MV} {tl : List MV} (hX : X 0 = .f .f64 v.1 :: .f .f64 v.2 :: tl) {k j : Nat} (hk : k < L.length + 1) (hj : j < 2) : getM (appGet L.length (fun k => ptM (L.getD k z2)) X k) j = getM (ptM ((L ++ [v]).getD k z2)) j := by
  unfold appGet
  rw [show k - L.length = 0 by omega, hX]
  have hj : j = 0 ∨ j = 1 := by omega
  rcases Nat.lt_or_eq_of_le (Nat.le_of_lt_succ hk) with e | e
  · rw [blt_t e]
    have : (L ++ [v]).getD k z2 = L.getD k z2 := by simp [List.getD_eq_getElem?_getD, List.getElem?_append_left e]
    rw [this]
    rcases hj with rfl | rfl <;> rfl
  · subst e; rw [blt_f (Nat.le_refl _)]
    have : (L ++ [v]).getD L.length z2 = v := by simp [List.getD_eq_getElem?_getD]
    rw [this]
    rcases hj with rfl | rfl <;> rfl
theorem lf_le (pl : Pl) (n : Nat) (p : Nat → Nat × Nat) {i : Nat} (hi : i ≤ n) : 2 * (lfL pl n p i).length ≤ 3 * i + 1 := by
  have := lf_len pl n p i hi
  cases h : fle .f64 (uF pl (p (i % n))) 0 <;> rw [h] at this <;> simp only [cond_true, cond_false] at this <;> omega
theorem lf1_len (pl : Pl) (L : List (Nat × Nat)) (a : Nat × Nat) : (lf1 pl L a).length ≤ L.length + 1 := by
  unfold lf1
  have := put_len L a
  cases fle .f64 (uF pl a) 0 <;> simp only [cond_true, cond_false] <;> omega
theorem put_t {L : List (Nat × Nat)} {v : Nat × Nat} (h : putB L v = true) : putV L v = L ++ [v] := by unfold putV; rw [h]; rfl
theorem put_f {L : List (Nat × Nat)} {v : Nat × Nat} (h : putB L v = false) : putV L v = L := by unfold putV; rw [h]; rfl
theorem lf1_t {pl : Pl} {L : List (Nat × Nat)} {a : Nat × Nat} (hu : fle .f64 (uF pl a) 0 = true) (h : putB L a = true) : lf1 pl L a = L ++ [a] := by unfold lf1; rw [hu]; exact put_t h
theorem lf1_n {pl : Pl} {L : List (Nat × Nat)} {a : Nat × Nat} (hu : fle .f64 (uF pl a) 0 = true) (h : putB L a = false) : lf1 pl L a = L := by unfold lf1; rw [hu]; exact put_f h
theorem lf1_f {pl : Pl} {L : List (Nat × Nat)} {a : Nat × Nat} (hu : fle .f64 (uF pl a) 0 = false) : lf1 pl L a = L := by unfold lf1; rw [hu]; rfl
theorem lf2_t {pl : Pl} {L : List (Nat × Nat)} {a b : Nat × Nat} (hu : (fle .f64 (uF pl a) 0 != fle .f64 (uF pl b) 0) = true) (h : putB L (cutF a b (uF pl a) (uF pl b)) = true) : lf2 pl L a b = L ++ [cutF a b (uF pl a) (uF pl b)] := by unfold lf2; rw [hu]; exact put_t h
theorem lf2_n {pl : Pl} {L : List (Nat × Nat)} {a b : Nat × Nat} (hu : (fle .f64 (uF pl a) 0 != fle .f64 (uF pl b) 0) = true) (h : putB L (cutF a b (uF pl a) (uF pl b)) = false) : lf2 pl L a b = L := by unfold lf2; rw [hu]; exact put_f h
theorem lf2_f {pl : Pl} {L : List (Nat × Nat)} {a b : Nat × Nat} (hu : (fle .f64 (uF pl a) 0 != fle .f64 (uF pl b) 0) = false) : lf2 pl L a b = L := by unfold lf2; rw [hu]; rfl
theorem put_w {l : Nat} (h : l < 4611686018427387904) : (IntKind.i64.wrap ((l : Int) - 1)).toNat = l - 1 := by rw [i64_wrap (by omega) (by omega)]; omega
theorem put_i1 {l : Nat} (h : l < 4611686018427387904) : ((l : Int) == 0) = false → 0 ≤ IntKind.i64.wrap ((l : Int) - 1) ∧ IntKind.i64.wrap ((l : Int) - 1) < (l : Int) := fun e => by
  have : l ≠ 0 := by intro e'; subst e'; simp at e
  rw [i64_wrap (by omega) (by omega)]; omega
theorem put_i2 {l : Nat} : ((l : Int) == 0) = false → l - 1 < l := fun e => by
  have : l ≠ 0 := by intro e'; subst e'; simp at e
  omega
def trB (L : List (Nat × Nat)) : Bool := decide (1 < (L.length : Int)) && eqP (L.getD (L.length - 1) z2) (L.getD 0 z2)
def trL (L : List (Nat × Nat)) : List (Nat × Nat) := bif trB L then L.dropLast else L
def endL (L : List (Nat × Nat)) : List (Nat × Nat) := bif decide (((trL L).length : Int) < 3) then [] else trL L
def leV (pl : Pl) (n : Nat) (p : Nat → Nat × Nat) : List (Nat × Nat) := endL (lfL pl n p n)
theorem drop_get {L : List (Nat × Nat)} {k : Nat} (h : k < L.length - 1) : L.dropLast.getD k z2 = L.getD k z2 := by
  rw [List.getD_eq_getElem?_getD, List.getD_eq_getElem?_getD, List.getElem?_dropLast, if_pos h]
theorem end_t1 {L : List (Nat × Nat)} (hb : trB L = true) (hc : decide (((L.length - 1 : Nat) : Int) < 3) = true) : endL L = [] := by
  unfold endL trL; rw [hb]; simp only [cond_true, List.length_dropLast, hc]
theorem end_t0 {L : List (Nat × Nat)} (hb : trB L = true) (hc : decide (((L.length - 1 : Nat) : Int) < 3) = false) : endL L = L.dropLast := by
  unfold endL trL; rw [hb]; simp only [cond_true, List.length_dropLast, hc, cond_false]
theorem end_f1 {L : List (Nat × Nat)} (hb : trB L = false) (hc : decide ((L.length : Int) < 3) = true) : endL L = [] := by
  unfold endL trL; rw [hb]; simp only [cond_false, hc, cond_true]
theorem end_f0 {L : List (Nat × Nat)} (hb : trB L = false) (hc : decide ((L.length : Int) < 3) = false) : endL L = L := by
  unfold endL trL; rw [hb]; simp only [cond_false, hc]
theorem tr_1 {l : Nat} {q : Bool} (hb : (decide (1 < (l : Int)) && q) = true) : 1 < l := by
  simp only [Bool.and_eq_true, decide_eq_true_eq] at hb; omega
def lim43 : Nat := 8700000000000
noncomputable def fi43 : FnI := ⟨76, Try.f43.body.getD .skip, [.tmp 4], true⟩
theorem fi43_ok : fnGen Try.prog 43 = some fi43 := by kernel_rfl
theorem zHS45_Kx60 {cx : Cx} : CallH (genQ Try.prog exts eqs [60] S45).P cx (hnd (genQ Try.prog exts eqs [60] S45) cx 6) := hnd_sound (genQ_full extsOK eqsOK S45_ok) 6
theorem zES45_Kx60 : EnvAll (genQ Try.prog exts eqs [60] S45) := (genQ_full extsOK eqsOK S45_ok).toEnvAll
theorem t43 (pl : Pl) (n : Nat) (p : Nat → Nat × Nat) (c0 : n ≤ lim43) : CM Try.prog 43 [.agg (plM pl), .ro 2 n (fun j => ptM (p j))] (.os 0 2 0 (leV pl n p).length) [.rows 2 (leV pl n p).length fun k => ptM ((leV pl n p).getD k z2)] true := by
  refine CM.of_genQ (exts := exts) (eqs := eqs) (inl := [60]) (sum := S45) extsOK eqsOK S45_ok fi43_ok 6 rfl fun cx => ?_
  have k0 : n ≤ 8700000000000 := c0
  repeat' ((fail_if_success (with_reducible refine Side.mk ?_)); first | (refine Rest.mk (drawR_sound zES45_Kx60 mixOK zHS45_Kx60 ?_)) | ((fail_if_success (with_reducible refine Rest.mk ?_)); first | (with_reducible exact True.intro) | (with_reducible refine Need.mk ?_ ?_) | (with_reducible refine And.intro ?_ ?_) | (with_reducible intro _) | ((fail_if_success (with_reducible refine FinS.mk ?_)); (fail_if_success (with_reducible refine Le.mk ?_)); (conv => whnf)) | (refine FinS.b ?_) | (refine FinS.lb ?_) | (refine FinS.i ?_) | (refine FinS.f ?_) | (refine FinS.agg ?_) | (refine FinS.tup ?_)))
  refine loop_ruleK (P := Try.prog) (fun i => ⟨[(1, .ro 2 n (fun j => ptM (p j))), (2, .p 0 0), (4, .nils), (5, .p 1 0), (6, .fn 60 [] [.p 1 0]), (13, .ro 2 n (fun j => ptM (p j))), (14, .i .i64 (n : Int)), (15, .i .i64 (i : Int))], [], [(0, .cells (plM pl)), (1, .cells [.os 2 2 0 (lfL pl n p i).length]), (2, .rows 2 (lfL pl n p i).length fun k => ptM ((lfL pl n p i).getD k z2))], 3⟩) (fun _ => True) n (Le.phan 2 (Le.of ?_)) trivial ?_
  · conv => whnf
    repeat' ((fail_if_success (with_reducible refine Side.mk ?_)); first | (refine Rest.mk (drawR_sound zES45_Kx60 mixOK zHS45_Kx60 ?_)) | ((fail_if_success (with_reducible refine Rest.mk ?_)); first | (with_reducible exact True.intro) | (with_reducible refine Need.mk ?_ ?_) | (with_reducible refine And.intro ?_ ?_) | (with_reducible intro _) | ((fail_if_success (with_reducible refine FinS.mk ?_)); (fail_if_success (with_reducible refine Le.mk ?_)); (conv => whnf)) | (refine FinS.b ?_) | (refine FinS.lb ?_) | (refine FinS.i ?_) | (refine FinS.f ?_) | (refine FinS.agg ?_) | (refine FinS.tup ?_)))
    all_goals (try refine Side.mk ?_)
    all_goals (try simp only [pOf_pt, eq_self, decide_eq_true_eq, decide_eq_false_iff_not, Int.ofNat_lt, Int.ofNat_le, gt_iff_lt, ge_iff_le, true_and, Bool.not_eq_true', Bool.not_eq_false'] at *)
    all_goals first | (with_reducible rfl) | trivial | omega | rfl | exact fun _ _ => trivial | exact ⟨rfl, rfl⟩ | exact ⟨rfl, fun _ _ => rfl⟩ | exact ⟨rfl, rfl, fun _ _ => rfl⟩ | exact ⟨by omega, trivial⟩ | exact i64_id (by omega) (by omega) | (exact ⟨rfl, fun k hk j hj => absurd hk (Nat.not_lt_zero _)⟩) | (exact ⟨rfl, rfl, fun k hk j hj => absurd hk (Nat.not_lt_zero _)⟩)
  · intro i hi _
    have hl : 2 * (lfL pl n p i).length ≤ 3 * i + 1 := lf_le pl n p hi
    have hlb : (lfL pl n p i).length < 4611686018427387904 := by omega
    refine CodeOK.seq (evC_sound zES45_Kx60 zHS45_Kx60 ?_)
    repeat' ((fail_if_success (with_reducible refine Side.mk ?_)); first | (refine Rest.mk (drawR_sound zES45_Kx60 mixOK zHS45_Kx60 ?_)) | ((fail_if_success (with_reducible refine Rest.mk ?_)); first | (with_reducible exact True.intro) | (with_reducible refine Need.mk ?_ ?_) | (with_reducible refine And.intro ?_ ?_) | (with_reducible intro _) | ((fail_if_success (with_reducible refine FinS.mk ?_)); (fail_if_success (with_reducible refine Le.mk ?_)); (conv => whnf)) | (refine FinS.b ?_) | (refine FinS.lb ?_) | (refine FinS.i ?_) | (refine FinS.f ?_) | (refine FinS.agg ?_) | (refine FinS.tup ?_)))
    refine ⟨CodeOK.seq (evC_sound zES45_Kx60 zHS45_Kx60 ?_)⟩
    repeat' ((fail_if_success (with_reducible refine Side.mk ?_)); first | (refine Rest.mk (drawR_sound zES45_Kx60 mixOK zHS45_Kx60 ?_)) | ((fail_if_success (with_reducible refine Rest.mk ?_)); first | (with_reducible exact True.intro) | (with_reducible refine Need.mk ?_ ?_) | (with_reducible refine And.intro ?_ ?_) | (with_reducible intro _) | ((fail_if_success (with_reducible refine FinS.mk ?_)); (fail_if_success (with_reducible refine Le.mk ?_)); (conv => whnf)) | (refine FinS.b ?_) | (refine FinS.lb ?_) | (refine FinS.i ?_) | (refine FinS.f ?_) | (refine FinS.agg ?_) | (refine FinS.tup ?_)))
    · rename_i hin
      have hin : i < n := by simp at hin; omega
      have hbig : n < big := by unfold big; omega
      have hx := nxt1 hin hbig
      have hxl := nxt_lt hin
      refine ⟨CodeOK.seq (CodeOK.block ?_)⟩
      refine CodeOK.cut zES45_Kx60 zHS45_Kx60 3 (T := ⟨[(1, .ro 2 n (fun j => ptM (p j))), (2, .p 0 0), (4, .nils), (5, .p 1 0), (6, .fn 60 [] [.p 1 0]), (13, .ro 2 n (fun j => ptM (p j))), (14, .i .i64 (n : Int)), (15, .i .i64 (i : Int)), (7, .i .i64 (i : Int)), (8, .p 3 0), (9, .p 4 0), (10, .f .f64 (uF pl (p i))), (11, .f .f64 (uF pl (p (nxt n i))))], [], [(0, .cells (plM pl)), (1, .cells [.os 2 2 0 (lfL pl n p i).length]), (2, .rows 2 (lfL pl n p i).length fun k => ptM ((lfL pl n p i).getD k z2)), (3, .cells (ptM (p i))), (4, .cells (ptM (p (nxt n i))))], 5⟩) rfl ?_ ?_
      · conv => whnf
        repeat' ((fail_if_success (with_reducible refine Side.mk ?_)); first | (refine Rest.mk (drawR_sound zES45_Kx60 mixOK zHS45_Kx60 ?_)) | ((fail_if_success (with_reducible refine Rest.mk ?_)); first | (with_reducible exact True.intro) | (with_reducible refine Need.mk ?_ ?_) | (with_reducible refine And.intro ?_ ?_) | (with_reducible intro _) | ((fail_if_success (with_reducible refine FinS.mk ?_)); (fail_if_success (with_reducible refine Le.mk ?_)); (conv => whnf)) | (refine FinS.b ?_) | (refine FinS.lb ?_) | (refine FinS.i ?_) | (refine FinS.f ?_) | (refine FinS.agg ?_) | (refine FinS.tup ?_)))
        all_goals (try (refine Le.of ?_; (conv => whnf)))
        repeat' ((fail_if_success (with_reducible refine Side.mk ?_)); first | (refine Rest.mk (drawR_sound zES45_Kx60 mixOK zHS45_Kx60 ?_)) | ((fail_if_success (with_reducible refine Rest.mk ?_)); first | (with_reducible exact True.intro) | (with_reducible refine Need.mk ?_ ?_) | (with_reducible refine And.intro ?_ ?_) | (with_reducible intro _) | ((fail_if_success (with_reducible refine FinS.mk ?_)); (fail_if_success (with_reducible refine Le.mk ?_)); (conv => whnf)) | (refine FinS.b ?_) | (refine FinS.lb ?_) | (refine FinS.i ?_) | (refine FinS.f ?_) | (refine FinS.agg ?_) | (refine FinS.tup ?_)))
        all_goals (try refine Side.mk ?_)
        all_goals (try simp only [hx, Int.toNat_natCast] at *)
        all_goals (try simp only [pOf_pt, eq_self, decide_eq_true_eq, decide_eq_false_iff_not, Int.ofNat_lt, Int.ofNat_le, gt_iff_lt, ge_iff_le, true_and, Bool.not_eq_true', Bool.not_eq_false'] at *)
        all_goals first | (with_reducible rfl) | trivial | omega | rfl | exact fun _ _ => trivial | exact ⟨rfl, rfl⟩ | exact ⟨rfl, fun _ _ => rfl⟩ | exact ⟨rfl, rfl, fun _ _ => rfl⟩ | exact ⟨by omega, trivial⟩ | exact i64_id (by omega) (by omega) | (exact fun k hk j hj => .inr trivial) | (exact fun k hk j hj => .inr rfl) | (exact ⟨rfl, rfl, fun k hk j hj => .inr rfl⟩) | (exact ⟨rfl, fun k hk j hj => .inr rfl⟩) | (exact ⟨trivial, fun k hk j hj => .inr rfl⟩)
      have hl1 := lf1_len pl (lfL pl n p i) (p i)
      have hl1b : (lf1 pl (lfL pl n p i) (p i)).length < 4611686018427387904 := by omega
      refine CodeOK.cut zES45_Kx60 zHS45_Kx60 1 (T := ⟨[(1, .ro 2 n (fun j => ptM (p j))), (2, .p 0 0), (4, .nils), (5, .p 1 0), (6, .fn 60 [] [.p 1 0]), (13, .ro 2 n (fun j => ptM (p j))), (14, .i .i64 (n : Int)), (15, .i .i64 (i : Int)), (7, .i .i64 (i : Int)), (8, .p 3 0), (9, .p 4 0), (10, .f .f64 (uF pl (p i))), (11, .f .f64 (uF pl (p (nxt n i))))], [], [(0, .cells (plM pl)), (1, .cells [.os 2 2 0 (lf1 pl (lfL pl n p i) (p i)).length]), (2, .rows 2 (lf1 pl (lfL pl n p i) (p i)).length fun k => ptM ((lf1 pl (lfL pl n p i) (p i)).getD k z2)), (3, .cells (ptM (p i))), (4, .cells (ptM (p (nxt n i))))], 5⟩) rfl ?_ ?_
      · conv => whnf
        repeat' ((fail_if_success (with_reducible refine Side.mk ?_)); first | (refine Rest.mk (drawR_sound zES45_Kx60 mixOK zHS45_Kx60 ?_)) | ((fail_if_success (with_reducible refine Rest.mk ?_)); first | (with_reducible exact True.intro) | (with_reducible refine Need.mk ?_ ?_) | (with_reducible refine And.intro ?_ ?_) | (with_reducible intro _) | ((fail_if_success (with_reducible refine FinS.mk ?_)); (fail_if_success (with_reducible refine Le.mk ?_)); (conv => whnf)) | (refine FinS.b ?_) | (refine FinS.lb ?_) | (refine FinS.i ?_) | (refine FinS.f ?_) | (refine FinS.agg ?_) | (refine FinS.tup ?_)))
        all_goals (try (refine Le.of ?_; (conv => whnf)))
        repeat' ((fail_if_success (with_reducible refine Side.mk ?_)); first | (refine Rest.mk (drawR_sound zES45_Kx60 mixOK zHS45_Kx60 ?_)) | ((fail_if_success (with_reducible refine Rest.mk ?_)); first | (with_reducible exact True.intro) | (with_reducible refine Need.mk ?_ ?_) | (with_reducible refine And.intro ?_ ?_) | (with_reducible intro _) | ((fail_if_success (with_reducible refine FinS.mk ?_)); (fail_if_success (with_reducible refine Le.mk ?_)); (conv => whnf)) | (refine FinS.b ?_) | (refine FinS.lb ?_) | (refine FinS.i ?_) | (refine FinS.f ?_) | (refine FinS.agg ?_) | (refine FinS.tup ?_)))
        all_goals (try refine Side.mk ?_)
        all_goals (try simp only [Int.toNat_natCast, put_w hlb, Nat.zero_add] at *)
        all_goals (try simp only [pOf_pt, eq_self, decide_eq_true_eq, decide_eq_false_iff_not, Int.ofNat_lt, Int.ofNat_le, gt_iff_lt, ge_iff_le, true_and, Bool.not_eq_true', Bool.not_eq_false'] at *)
        all_goals first | (with_reducible rfl) | trivial | omega | rfl | exact fun _ _ => trivial | exact ⟨rfl, rfl⟩ | exact ⟨rfl, fun _ _ => rfl⟩ | exact ⟨rfl, rfl, fun _ _ => rfl⟩ | exact ⟨by omega, trivial⟩ | exact i64_id (by omega) (by omega) | (exact put_i1 hlb) | (exact put_i2) | (exact ⟨by omega, by omega, by show ((lfL pl n p i).length + 1) * 16 ≤ _; omega, by omega⟩) | (rename_i hu hb; exact ⟨by rw [lf1_t hu hb]; simp, fun k hk j hj => .inr (by rw [lf1_t hu hb]; exact app1 rfl hk hj)⟩) | (rename_i hu hb; rw [lf1_t hu hb]; simp; done) | (rename_i hu hb; exact ⟨by rw [lf1_n hu hb], fun k hk j hj => .inr (by rw [lf1_n hu hb])⟩) | (rename_i hu hb; rw [lf1_n hu hb]; done) | (rename_i hu; exact ⟨by rw [lf1_f hu], fun k hk j hj => .inr (by rw [lf1_f hu])⟩) | (rename_i hu; rw [lf1_f hu]; done)
      refine evC_sound zES45_Kx60 zHS45_Kx60 ?_
      repeat' ((fail_if_success (with_reducible refine Side.mk ?_)); first | (refine Rest.mk (drawR_sound zES45_Kx60 mixOK zHS45_Kx60 ?_)) | ((fail_if_success (with_reducible refine Rest.mk ?_)); first | (with_reducible exact True.intro) | (with_reducible refine Need.mk ?_ ?_) | (with_reducible refine And.intro ?_ ?_) | (with_reducible intro _) | ((fail_if_success (with_reducible refine FinS.mk ?_)); (fail_if_success (with_reducible refine Le.mk ?_)); (conv => whnf)) | (refine FinS.b ?_) | (refine FinS.lb ?_) | (refine FinS.i ?_) | (refine FinS.f ?_) | (refine FinS.agg ?_) | (refine FinS.tup ?_)))
      all_goals (try (refine ⟨evC_sound zES45_Kx60 zHS45_Kx60 ?_⟩))
      repeat' ((fail_if_success (with_reducible refine Side.mk ?_)); first | (refine Rest.mk (drawR_sound zES45_Kx60 mixOK zHS45_Kx60 ?_)) | ((fail_if_success (with_reducible refine Rest.mk ?_)); first | (with_reducible exact True.intro) | (with_reducible refine Need.mk ?_ ?_) | (with_reducible refine And.intro ?_ ?_) | (with_reducible intro _) | ((fail_if_success (with_reducible refine FinS.mk ?_)); (fail_if_success (with_reducible refine Le.mk ?_)); (conv => whnf)) | (refine FinS.b ?_) | (refine FinS.lb ?_) | (refine FinS.i ?_) | (refine FinS.f ?_) | (refine FinS.agg ?_) | (refine FinS.tup ?_)))
      all_goals (try (refine Le.of ?_; (conv => whnf)))
      repeat' ((fail_if_success (with_reducible refine Side.mk ?_)); first | (refine Rest.mk (drawR_sound zES45_Kx60 mixOK zHS45_Kx60 ?_)) | ((fail_if_success (with_reducible refine Rest.mk ?_)); first | (with_reducible exact True.intro) | (with_reducible refine Need.mk ?_ ?_) | (with_reducible refine And.intro ?_ ?_) | (with_reducible intro _) | ((fail_if_success (with_reducible refine FinS.mk ?_)); (fail_if_success (with_reducible refine Le.mk ?_)); (conv => whnf)) | (refine FinS.b ?_) | (refine FinS.lb ?_) | (refine FinS.i ?_) | (refine FinS.f ?_) | (refine FinS.agg ?_) | (refine FinS.tup ?_)))
      all_goals (try refine Side.mk ?_)
      all_goals (try simp only [Int.toNat_natCast, put_w hl1b, Nat.zero_add] at *)
      all_goals (try simp only [pOf_pt, eq_self, decide_eq_true_eq, decide_eq_false_iff_not, Int.ofNat_lt, Int.ofNat_le, gt_iff_lt, ge_iff_le, true_and, Bool.not_eq_true', Bool.not_eq_false'] at *)
      all_goals first | (with_reducible rfl) | trivial | omega | rfl | exact fun _ _ => trivial | exact ⟨rfl, rfl⟩ | exact ⟨rfl, fun _ _ => rfl⟩ | exact ⟨rfl, rfl, fun _ _ => rfl⟩ | exact ⟨by omega, trivial⟩ | exact i64_id (by omega) (by omega) | (exact put_i1 hl1b) | (exact put_i2) | (exact ⟨by omega, by omega, by show ((lf1 pl (lfL pl n p i) (p i)).length + 1) * 16 ≤ _; omega, by omega⟩) | (rename_i hu hb; exact ⟨by show _ = (lf2 pl _ _ _).length; rw [lf2_t hu hb]; simp, fun k hk j hj => .inr (by show _ = getM (ptM ((lf2 pl _ _ _).getD _ z2)) _; rw [lf2_t hu hb]; exact app1 rfl hk hj)⟩) | (rename_i hu hb; show _ = (lf2 pl _ _ _).length; rw [lf2_t hu hb]; simp; done) | (rename_i hu hb; exact ⟨by show _ = (lf2 pl _ _ _).length; rw [lf2_n hu hb], fun k hk j hj => .inr (by show _ = getM (ptM ((lf2 pl _ _ _).getD _ z2)) _; rw [lf2_n hu hb])⟩) | (rename_i hu hb; show _ = (lf2 pl _ _ _).length; rw [lf2_n hu hb]; done) | (rename_i hu; exact ⟨by show _ = (lf2 pl _ _ _).length; rw [lf2_f hu], fun k hk j hj => .inr (by show _ = getM (ptM ((lf2 pl _ _ _).getD _ z2)) _; rw [lf2_f hu])⟩) | (rename_i hu; show _ = (lf2 pl _ _ _).length; rw [lf2_f hu]; done)
    all_goals (try (refine Side.mk ?_; first | (intro h; (have h2 : (1 : Int) < ((lfL pl n p i).length : Int) := by simpa using h); first | omega | (rw [i64_wrap (by omega) (by omega)]; omega) | (rw [put_w hlb]; omega)) | (rename_i hb; have h2 := tr_1 hb; (show 0 ≤ (0 : Int) ∧ (0 : Int) ≤ IntKind.i64.wrap (((lfL pl n p i).length : Int) - 1) ∧ IntKind.i64.wrap (((lfL pl n p i).length : Int) - 1) ≤ ((lfL pl n p i).length : Int) ∧ ((lfL pl n p i).length : Int) ≤ ((lfL pl n p i).length : Int)); rw [i64_wrap (by omega) (by omega)]; omega)))
    · rename_i ho hb hc
      have hn : n = i := by simp at ho; omega
      subst hn
      rw [put_w hlb] at hb hc
      rw [Nat.zero_add] at hb
      have e := congrArg List.length (end_t1 (L := lfL pl n p n) hb hc)
      exact FinS.rows0 ⟨e⟩ ⟨e⟩
    · rename_i ho hb hc
      have hn : n = i := by simp at ho; omega
      subst hn
      have hw := put_w hlb
      rw [hw] at hb hc
      rw [Nat.zero_add] at hb
      have e := end_t0 (L := lfL pl n p n) hb hc
      have e2 : (leV pl n p).length = (lfL pl n p n).length - 1 := by unfold leV; rw [e, List.length_dropLast]
      refine FinS.rowsLe 2 ⟨rfl, by omega, fun k hk j hj => ?_⟩ ⟨rfl, rfl, hw.trans e2.symm⟩
      have : (leV pl n p).getD k z2 = (lfL pl n p n).getD k z2 := by unfold leV; rw [e]; exact drop_get (by omega)
      rw [this]
    · rename_i ho hb hc
      have hn : n = i := by simp at ho; omega
      subst hn
      rw [put_w hlb] at hb
      rw [Nat.zero_add] at hb
      have e := congrArg List.length (end_f1 (L := lfL pl n p n) hb hc)
      exact FinS.rows0 ⟨e⟩ ⟨e⟩
    · rename_i ho hb hc
      have hn : n = i := by simp at ho; omega
      subst hn
      rw [put_w hlb] at hb
      rw [Nat.zero_add] at hb
      have e : leV pl n p = lfL pl n p n := end_f0 hb hc
      exact FinS.rowsLe 2 ⟨rfl, by rw [e]; exact Nat.le_refl _, fun k hk j hj => by rw [e]⟩ ⟨rfl, rfl, by rw [e]⟩
end Go.Ev.Clip
