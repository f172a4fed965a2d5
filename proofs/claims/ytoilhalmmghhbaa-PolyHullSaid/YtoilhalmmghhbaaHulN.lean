/-
  The contract of the layer's Hull; for lists of at most 8796093022206 points.
-/
import Derived.Test.YtoilhalmmghhbaaHulM
set_option linter.unusedSimpArgs false
set_option linter.unusedVariables false
open Go Go.Proofs
namespace Go.Ev.Poly
set_option maxRecDepth 100000
set_option maxHeartbeats 1000000
open Go.Ev.So
theorem big_of {n : Nat} (h : n ≤ 1000) : n < big := Nat.lt_of_le_of_lt h (by decide)
theorem isPts_lst (n : Nat) (l : List (Nat × Nat)) : isPts n (lstR l) := isPts_pt _ _
/-- A row of points, as the hull's functions make it of points in order. -/
def chL (n : Nat) (f : Nat → Nat × Nat) : List (Nat × Nat) := rwL (cm n f) n
def bothL (n : Nat) (f b : Nat → Nat × Nat) : List (Nat × Nat) := (chL n f).dropLast ++ (chL n b).dropLast
def hRow (n : Nat) (q : Nat → Nat × Nat) : List (Nat × Nat) := cpL (stab lsV n q) n
def gD (l : List (Nat × Nat)) : Nat → Nat × Nat := fun z => l.getD z z2
def hB (n : Nat) (q : Nat → Nat × Nat) : List (Nat × Nat) := bothL (hRow n q).length (gD (hRow n q)) (fun z => gD (hRow n q) ((hRow n q).length - 1 - z))
def hE (n : Nat) (q : Nat → Nat × Nat) : Int := bif realsV n q != 0 then realsV n q else bif Nat.blt (hRow n q).length 3 then 61 else bif checkV (hB n q).length (cm (hB n q).length (gD (hB n q))) != 0 then 61 else 0
def hN (n : Nat) (q : Nat → Nat × Nat) : Nat := bif hE n q == 0 then (hB n q).length else 0
def rB (n : Nat) (q : Nat → Nat × Nat) : List (Nat × Nat) := bothL (sdC q n).1 (sdC q n).2 (fun z => (sdC q n).2 ((sdC q n).1 - 1 - z))
def rE (n : Nat) (q : Nat → Nat × Nat) : Int := bif rrealsV n q != 0 then rrealsV n q else bif Nat.blt (sdC q n).1 3 then 61 else bif rcheckV (rB n q).length (cm (rB n q).length (gD (rB n q))) != 0 then 61 else 0
def rN (n : Nat) (q : Nat → Nat × Nat) : Nat := bif rE n q == 0 then (rB n q).length else 0
theorem hE_r {n : Nat} {q : Nat → Nat × Nat} (h : (realsV n q != 0) = true) : hE n q = realsV n q ∧ hN n q = 0 := by
  have h1 : hE n q = realsV n q := by unfold hE; rw [h]; rfl
  refine ⟨h1, ?_⟩
  unfold hN
  rw [h1, show (realsV n q == 0) = false by simpa using h]; rfl
theorem hE_3 {n : Nat} {q : Nat → Nat × Nat} (h : (realsV n q != 0) = false) (h3 : (hRow n q).length < 3) : hE n q = 61 ∧ hN n q = 0 := by
  have h1 : hE n q = 61 := by unfold hE; rw [h, blt_t h3]; rfl
  exact ⟨h1, by unfold hN; rw [h1]; rfl⟩
theorem hE_c {n : Nat} {q : Nat → Nat × Nat} (h : (realsV n q != 0) = false) (h3 : 3 ≤ (hRow n q).length) (hc : (checkV (hB n q).length (cm (hB n q).length (gD (hB n q))) != 0) = true) : hE n q = 61 ∧ hN n q = 0 := by
  have h1 : hE n q = 61 := by unfold hE; rw [h, blt_f h3, hc]; rfl
  exact ⟨h1, by unfold hN; rw [h1]; rfl⟩
theorem hE_0 {n : Nat} {q : Nat → Nat × Nat} (h : (realsV n q != 0) = false) (h3 : 3 ≤ (hRow n q).length) (hc : (checkV (hB n q).length (cm (hB n q).length (gD (hB n q))) != 0) = false) : hE n q = 0 ∧ hN n q = (hB n q).length := by
  have h1 : hE n q = 0 := by unfold hE; rw [h, blt_f h3, hc]; rfl
  exact ⟨h1, by unfold hN; rw [h1]; rfl⟩
theorem rE_r {n : Nat} {q : Nat → Nat × Nat} (h : (rrealsV n q != 0) = true) : rE n q = rrealsV n q ∧ rN n q = 0 := by
  have h1 : rE n q = rrealsV n q := by unfold rE; rw [h]; rfl
  refine ⟨h1, ?_⟩
  unfold rN
  rw [h1, show (rrealsV n q == 0) = false by simpa using h]; rfl
theorem rE_3 {n : Nat} {q : Nat → Nat × Nat} (h : (rrealsV n q != 0) = false) (h3 : (sdC q n).1 < 3) : rE n q = 61 ∧ rN n q = 0 := by
  have h1 : rE n q = 61 := by unfold rE; rw [h, blt_t h3]; rfl
  exact ⟨h1, by unfold rN; rw [h1]; rfl⟩
theorem rE_c {n : Nat} {q : Nat → Nat × Nat} (h : (rrealsV n q != 0) = false) (h3 : 3 ≤ (sdC q n).1) (hc : (rcheckV (rB n q).length (cm (rB n q).length (gD (rB n q))) != 0) = true) : rE n q = 61 ∧ rN n q = 0 := by
  have h1 : rE n q = 61 := by unfold rE; rw [h, blt_f h3, hc]; rfl
  exact ⟨h1, by unfold rN; rw [h1]; rfl⟩
theorem rE_0 {n : Nat} {q : Nat → Nat × Nat} (h : (rrealsV n q != 0) = false) (h3 : 3 ≤ (sdC q n).1) (hc : (rcheckV (rB n q).length (cm (rB n q).length (gD (rB n q))) != 0) = false) : rE n q = 0 ∧ rN n q = (rB n q).length := by
  have h1 : rE n q = 0 := by unfold rE; rw [h, blt_f h3, hc]; rfl
  exact ⟨h1, by unfold rN; rw [h1]; rfl⟩
theorem reals_n {n : Nat} {q : Nat → Nat × Nat} (h : (realsV n q != 0) = false) : n ≤ 64 := by
  rcases Nat.lt_or_ge 64 n with e | e
  · rw [reals_4 e] at h; cases h
  · exact e
theorem rreals_n {n : Nat} {q : Nat → Nat × Nat} (h : (rrealsV n q != 0) = false) : n ≤ 64 := by
  rcases Nat.lt_or_ge 64 n with e | e
  · rw [rreals_4 e] at h; cases h
  · exact e
theorem chop_2 (q : Nat × Nat) : ∀ (k : Nat) (l : List (Nat × Nat)), 1 ≤ l.length → 1 ≤ (chop k l q).length
  | 0, l, h => h
  | k + 1, l, h => by
    show 1 ≤ (bif stopB l q then l else chop k l.dropLast q).length
    cases hs : stopB l q
    · refine chop_2 q k _ ?_
      unfold stopB at hs
      rw [Bool.or_eq_false_iff] at hs
      have := hs.1
      simp at this
      rw [List.length_dropLast]; omega
    · exact h
theorem rw_1 (p : Nat → Nat × Nat) (i : Nat) : 1 ≤ (rwL p (i + 1)).length := by
  show 1 ≤ (chop _ _ _ ++ [p i]).length
  simp
theorem rw_2 (p : Nat → Nat × Nat) (i : Nat) : 2 ≤ (rwL p (i + 2)).length := by
  show 2 ≤ (chop (rwL p (i + 1)).length (rwL p (i + 1)) (p (i + 1)) ++ [p (i + 1)]).length
  have := chop_2 (p (i + 1)) (rwL p (i + 1)).length (rwL p (i + 1)) (rw_1 p i)
  simp; omega
theorem ch_2 {n : Nat} (h : 3 ≤ n) (f : Nat → Nat × Nat) : 2 ≤ (chL n f).length ∧ (chL n f).length ≤ n := by
  obtain ⟨i, rfl⟩ : ∃ i, n = i + 2 := ⟨n - 2, by omega⟩
  exact ⟨rw_2 _ i, rw_len _ _⟩
/-- Two rows, each without its last, one behind the other. -/
theorem both_len {n : Nat} {f b : Nat → Nat × Nat} : (chL n f).length - 1 + ((chL n b).length - 1) = (bothL n f b).length := by unfold bothL; simp
theorem both_get {n : Nat} {f b : Nat → Nat × Nat} {k j : Nat} {G : Nat → List MV} (hG : ∀ i, G i = lstR (chL n b) i) (hk : k < (bothL n f b).length) (hj : j < 2) : getM (appGet ((chL n f).length - 1) (lstR (chL n f)) G k) j = getM (lstR (bothL n f b) k) j := by
  have hj2 : j = 0 ∨ j = 1 := by omega
  have hk2 := hk
  rw [← both_len] at hk2
  unfold appGet
  have e : lstR (bothL n f b) k = if k < (chL n f).length - 1 then lstR (chL n f) k else lstR (chL n b) (k - ((chL n f).length - 1)) := by
    unfold lstR bothL
    rw [List.getD_eq_getElem?_getD]
    split
    · rename_i h
      rw [List.getElem?_append_left (by rw [List.length_dropLast]; omega), ← List.getD_eq_getElem?_getD, drop_get h]
    · rename_i h
      rw [List.getElem?_append_right (by rw [List.length_dropLast]; omega), List.length_dropLast, ← List.getD_eq_getElem?_getD, drop_get (by omega)]
  rw [e]
  split
  · rename_i h
    rw [blt_t h, hG]
    rcases hj2 with rfl | rfl <;> rfl
  · rename_i h
    rw [blt_f (by omega), hG]
    rcases hj2 with rfl | rfl <;> rfl
noncomputable def g19M : List MV → Option (List Prop × MV × List Blk × Bool)
  | [.ro 2 n get] => some ([isPts n get, n < big], .i .i64 (checkV n (cm n (pOf get))), [], false)
  | _ => none
theorem s19M : SumsOK Try.prog (sumOf 19 g19M S55) := by
  refine SumsOK.add S55_ok fun ms ps m blks al e hp => ?_
  unfold g19M at e
  split at e
  · cases e
    exact (le_arg1 (t19 _ (cm _ (pOf _)) (hp _ (.tail _ (.head _)))) (leR_cm (hp _ (.head _)))).aloneT rfl
  · cases e
noncomputable def S19M := sumOf 19 g19M S55
theorem S19M_ok : SumsOK Try.prog S19M := s19M
noncomputable def g37M : List MV → Option (List Prop × MV × List Blk × Bool)
  | [.ro 2 n get] => some ([isPts n get, n < big], .i .i64 (rcheckV n (cm n (pOf get))), [], false)
  | _ => none
theorem s37M : SumsOK Try.prog (sumOf 37 g37M S19M) := by
  refine SumsOK.add S19M_ok fun ms ps m blks al e hp => ?_
  unfold g37M at e
  split at e
  · cases e
    exact (le_arg1 (t37 _ (cm _ (pOf _)) (hp _ (.tail _ (.head _)))) (leR_cm (hp _ (.head _)))).aloneT rfl
  · cases e
noncomputable def S37M := sumOf 37 g37M S19M
theorem S37M_ok : SumsOK Try.prog S37M := s37M
theorem hRow_c (n : Nat) (p : Nat → Nat × Nat) : cpL (stab lsV n p) n = hRow n p := rfl
theorem ch_c (n : Nat) (f : Nat → Nat × Nat) : rwL (cm n f) n = chL n f := rfl
theorem pOf_lst (l : List (Nat × Nat)) : pOf (lstR l) = gD l := rfl
theorem both_pt {n : Nat} {f b : Nat → Nat × Nat} {G : Nat → List MV} (hG : ∀ i, G i = lstR (chL n b) i) {i : Nat} (hi : i < (bothL n f b).length) : appGet ((chL n f).length - 1) (lstR (chL n f)) G i = ptM (gD (bothL n f b) i) := by
  have h0 := both_get (f := f) (b := b) (j := 0) hG hi (by omega)
  have h1 := both_get (f := f) (b := b) (j := 1) hG hi (by omega)
  unfold appGet at *
  rcases Nat.lt_or_ge i ((chL n f).length - 1) with hh | hh
  · rw [blt_t hh, hG] at *
    have h0 : MV.f .f64 ((chL n f).getD i z2).1 = .f .f64 (gD (bothL n f b) i).1 := h0
    have h1 : MV.f .f64 ((chL n f).getD i z2).2 = .f .f64 (gD (bothL n f b) i).2 := h1
    show [MV.f .f64 ((chL n f).getD i z2).1, MV.f .f64 ((chL n f).getD i z2).2] = _
    rw [h0, h1]; rfl
  · rw [blt_f hh, hG] at *
    have h0 : MV.f .f64 ((chL n b).getD (i - ((chL n f).length - 1)) z2).1 = .f .f64 (gD (bothL n f b) i).1 := h0
    have h1 : MV.f .f64 ((chL n b).getD (i - ((chL n f).length - 1)) z2).2 = .f .f64 (gD (bothL n f b) i).2 := h1
    show [MV.f .f64 ((chL n b).getD (i - ((chL n f).length - 1)) z2).1, MV.f .f64 ((chL n b).getD (i - ((chL n f).length - 1)) z2).2] = _
    rw [h0, h1]; rfl
theorem isPts_both {n : Nat} {f b : Nat → Nat × Nat} {G : Nat → List MV} (hG : ∀ i, G i = lstR (chL n b) i) : isPts (bothL n f b).length (appGet ((chL n f).length - 1) (lstR (chL n f)) G) := fun i hi => by
  unfold pOf
  rw [both_pt hG hi]; exact ⟨rfl, rfl⟩
theorem both_cm {n : Nat} {f b : Nat → Nat × Nat} {G : Nat → List MV} {A : Nat → List MV} (hA : A = lstR (chL n f)) (hG : ∀ i, G i = lstR (chL n b) i) : cm (bothL n f b).length (pOf (appGet ((chL n f).length - 1) A G)) = cm (bothL n f b).length (gD (bothL n f b)) := by
  subst hA
  refine cm_ext fun i hi => ?_
  unfold pOf
  rw [both_pt hG hi]; rfl
noncomputable def fi11 : FnI := ⟨52, Try.f11.body.getD .skip, [.tmp 2, .tmp 3], true⟩
theorem fi11_ok : fnGen Try.prog 11 = some fi11 := by kernel_rfl
theorem zHS37M_Nx51 {cx : Cx} : CallH (genQ Try.prog exts eqs [51] S37M).P cx (hnd (genQ Try.prog exts eqs [51] S37M) cx 6) := hnd_sound (genQ_full extsOK eqsOK S37M_ok) 6
theorem zES37M_Nx51 : EnvAll (genQ Try.prog exts eqs [51] S37M) := (genQ_full extsOK eqsOK S37M_ok).toEnvAll
theorem t11z (p : Nat → Nat × Nat) (l : List (Nat × Nat)) : CM Try.prog 11 [.ro 2 0 (fun j => ptM (p j))] (.tup [.os 0 2 0 0, .i .i64 61]) [.rows 2 0 (lstR l)] true := by
  refine CM.of_code zES37M_Nx51 (fnGen_ok fi11_ok) rfl fun w0 okA => ?_
  refine evC_sound (genQ_full extsOK eqsOK S37M_ok).toEnvAll (hndU_sound U53_k zHS37M_Nx51) ?_
  have hr : (realsV 0 p != 0) = false := rfl
  repeat' ((fail_if_success (with_reducible refine Side.mk ?_)); first | (refine Rest.mk (drawR_sound zES37M_Nx51 mixOK (hndU_sound U53_k zHS37M_Nx51) ?_)) | ((fail_if_success (with_reducible refine Rest.mk ?_)); first | (with_reducible exact True.intro) | (with_reducible refine Need.mk ?_ ?_) | (with_reducible refine And.intro ?_ ?_) | (with_reducible intro hcl; try (exfalso; (first | (rw [hr] at hcl; first | (cases hcl; done) | exact absurd hcl (by decide)) | (simp only [decide_eq_true_eq, decide_eq_false_iff_not] at hcl; omega)); done)) | ((fail_if_success (with_reducible refine FinS.mk ?_)); (fail_if_success (with_reducible refine Le.mk ?_)); (conv => whnf)) | (refine FinS.b ?_) | (refine FinS.lb ?_) | (refine FinS.i ?_) | (refine FinS.f ?_) | (refine FinS.agg ?_) | (refine FinS.tup ?_)))
  all_goals (try (refine Side.mk ?_; (try simp only [Int.toNat_natCast, Nat.zero_add, Option.getD_none, Option.getD_some] at *); (try simp only [eq_self, decide_eq_true_eq, decide_eq_false_iff_not, Int.ofNat_lt, Int.ofNat_le, gt_iff_lt, ge_iff_le, true_and, Bool.not_eq_true', Bool.not_eq_false'] at *); all_goals first | (with_reducible rfl) | trivial | omega | rfl | exact fun _ _ => trivial | exact ⟨rfl, rfl⟩ | exact ⟨rfl, fun _ _ => rfl⟩ | exact ⟨rfl, rfl, fun _ _ => rfl⟩ | (exact isPts_pt _ _) | (exact isPts_lst _ _) | (exact ⟨isPts_pt _ _, (by first | assumption | omega | exact room_big (by omega) | exact big_of (by omega) | decide)⟩) | (exact ⟨isPts_pt _ _, (by first | assumption | omega | exact room_big (by omega) | exact big_of (by omega) | decide), (by first | assumption | omega | exact room_big (by omega) | exact big_of (by omega) | decide)⟩) | (exact ⟨isPts_pt _ _, (by first | assumption | omega | exact room_big (by omega) | exact big_of (by omega) | decide), (by first | assumption | omega | exact room_big (by omega) | exact big_of (by omega) | decide), (by first | assumption | omega | exact room_big (by omega) | exact big_of (by omega) | decide)⟩) | (exact ⟨by omega, isPts_pt _ _, by omega⟩) | (exact ⟨by omega, isPts_pt _ _, by omega, trivial⟩) | (exact ⟨by omega, isPts_pt _ _, by omega, by omega⟩) | (exact ⟨by omega, isPts_pt _ _, by omega, trivial, trivial⟩) | (exact ⟨Nat.le_refl _, isPts_pt _ _, by omega, trivial, trivial⟩)))
  repeat' ((fail_if_success (with_reducible refine Side.mk ?_)); first | (refine Rest.mk (drawR_sound zES37M_Nx51 mixOK (hndU_sound U53_k zHS37M_Nx51) ?_)) | ((fail_if_success (with_reducible refine Rest.mk ?_)); first | (with_reducible exact True.intro) | (with_reducible refine Need.mk ?_ ?_) | (with_reducible refine And.intro ?_ ?_) | (with_reducible intro _) | ((fail_if_success (with_reducible refine FinS.mk ?_)); (fail_if_success (with_reducible refine Le.mk ?_)); (conv => whnf)) | (refine FinS.b ?_) | (refine FinS.lb ?_) | (refine FinS.i ?_) | (refine FinS.f ?_) | (refine FinS.agg ?_) | (refine FinS.tup ?_)))
  all_goals (try (refine Le.of ?_; (conv => whnf)))
  repeat' ((fail_if_success (with_reducible refine Side.mk ?_)); first | (refine Rest.mk (drawR_sound zES37M_Nx51 mixOK (hndU_sound U53_k zHS37M_Nx51) ?_)) | ((fail_if_success (with_reducible refine Rest.mk ?_)); first | (with_reducible exact True.intro) | (with_reducible refine Need.mk ?_ ?_) | (with_reducible refine And.intro ?_ ?_) | (with_reducible intro _) | ((fail_if_success (with_reducible refine FinS.mk ?_)); (fail_if_success (with_reducible refine Le.mk ?_)); (conv => whnf)) | (refine FinS.b ?_) | (refine FinS.lb ?_) | (refine FinS.i ?_) | (refine FinS.f ?_) | (refine FinS.agg ?_) | (refine FinS.tup ?_)))
  all_goals (try refine Side.mk ?_)
  all_goals (try simp only [Int.toNat_natCast, Nat.zero_add, Option.getD_none, Option.getD_some] at *)
  all_goals (try simp only [eq_self, decide_eq_true_eq, decide_eq_false_iff_not, Int.ofNat_lt, Int.ofNat_le, gt_iff_lt, ge_iff_le, true_and, Bool.not_eq_true', Bool.not_eq_false'] at *)
  all_goals first | (with_reducible rfl) | trivial | omega | rfl | exact fun _ _ => trivial | exact ⟨rfl, rfl⟩ | exact ⟨rfl, fun _ _ => rfl⟩ | exact ⟨rfl, rfl, fun _ _ => rfl⟩ | (exact isPts_pt _ _) | (exact isPts_lst _ _) | (exact ⟨isPts_pt _ _, (by first | assumption | omega | exact room_big (by omega) | exact big_of (by omega) | decide)⟩) | (exact ⟨isPts_pt _ _, (by first | assumption | omega | exact room_big (by omega) | exact big_of (by omega) | decide), (by first | assumption | omega | exact room_big (by omega) | exact big_of (by omega) | decide)⟩) | (exact ⟨isPts_pt _ _, (by first | assumption | omega | exact room_big (by omega) | exact big_of (by omega) | decide), (by first | assumption | omega | exact room_big (by omega) | exact big_of (by omega) | decide), (by first | assumption | omega | exact room_big (by omega) | exact big_of (by omega) | decide)⟩) | (exact ⟨by omega, isPts_pt _ _, by omega⟩) | (exact ⟨by omega, isPts_pt _ _, by omega, trivial⟩) | (exact ⟨by omega, isPts_pt _ _, by omega, by omega⟩) | (exact ⟨by omega, isPts_pt _ _, by omega, trivial, trivial⟩) | (exact ⟨Nat.le_refl _, isPts_pt _ _, by omega, trivial, trivial⟩) | (exact FinS.rows0 ⟨rfl⟩ ⟨⟨rfl⟩, ⟨rfl, rfl⟩, True.intro⟩)
theorem zHS37M_N {cx : Cx} : CallH (genQ Try.prog exts eqs [] S37M).P cx (hnd (genQ Try.prog exts eqs [] S37M) cx 6) := hnd_sound (genQ_full extsOK eqsOK S37M_ok) 6
theorem zES37M_N : EnvAll (genQ Try.prog exts eqs [] S37M) := (genQ_full extsOK eqsOK S37M_ok).toEnvAll
theorem t11 (n : Nat) (p : Nat → Nat × Nat) (c0 : n ≤ room) : CM Try.prog 11 [.ro 2 n (fun j => ptM (p j))] (.tup [.os 0 2 0 (hN n p), .i .i64 (hE n p)]) [.rows 2 (hN n p) (lstR (hB n p))] true := by
  rcases Nat.eq_zero_or_pos n with h0 | hpos
  · subst h0
    have hx := hE_3 (n := 0) (q := p) rfl (by show 0 < 3; omega)
    rw [hx.1, hx.2]
    exact t11z p _
  refine CM.of_code zES37M_N (fnGen_ok fi11_ok) rfl fun w0 okA => ?_
  refine evC_sound (genQ_full extsOK eqsOK S37M_ok).toEnvAll (hndV_sound V51_k (hndU_sound U53_k zHS37M_N)) ?_
  have c1 : n ≤ 8796093022206 := c0
  have cb : n < big := room_big c0
  cases hr : (realsV n p != 0)
  · have hn := reals_n hr
    have hl1 : (hRow n p).length ≤ n := cp_len (stab lsV n p) n
    have cl1 : n ≤ lim := Nat.le_trans hn (by decide)
    have cl2 : (hRow n p).length ≤ lim := Nat.le_trans hl1 cl1
    have cl3 : (hRow n p).length ≤ room := Nat.le_trans hl1 c0
    rcases Nat.lt_or_ge (hRow n p).length 3 with h3 | h3
    · have hx := hE_3 hr h3
      repeat' ((fail_if_success (with_reducible refine Side.mk ?_)); first | (refine Rest.mk (drawR_sound zES37M_N mixOK (hndV_sound V51_k (hndU_sound U53_k zHS37M_N)) ?_)) | ((fail_if_success (with_reducible refine Rest.mk ?_)); first | (with_reducible exact True.intro) | (with_reducible refine Need.mk ?_ ?_) | (with_reducible refine And.intro ?_ ?_) | (with_reducible intro hcl; try (exfalso; (first | (rw [hr] at hcl; first | (cases hcl; done) | exact absurd hcl (by decide)) | ((try simp only [decide_eq_true_eq, decide_eq_false_iff_not] at hcl); (try simp only [Int.toNat_natCast, Nat.zero_add, Option.getD_none, Option.getD_some, Int.toNat_zero, Nat.sub_zero, pOf_pt, pOf_row, pOf_lst, hRow_c, ch_c] at hcl); first | omega | (rw [hr] at hcl; first | (cases hcl; done) | exact absurd hcl (by decide)))); done)) | ((fail_if_success (with_reducible refine FinS.mk ?_)); (fail_if_success (with_reducible refine Le.mk ?_)); (conv => whnf)) | (refine FinS.b ?_) | (refine FinS.lb ?_) | (refine FinS.i ?_) | (refine FinS.f ?_) | (refine FinS.agg ?_) | (refine FinS.tup ?_)))
      all_goals (try (refine Le.of ?_; (conv => whnf)))
      repeat' ((fail_if_success (with_reducible refine Side.mk ?_)); first | (refine Rest.mk (drawR_sound zES37M_N mixOK (hndV_sound V51_k (hndU_sound U53_k zHS37M_N)) ?_)) | ((fail_if_success (with_reducible refine Rest.mk ?_)); first | (with_reducible exact True.intro) | (with_reducible refine Need.mk ?_ ?_) | (with_reducible refine And.intro ?_ ?_) | (with_reducible intro _) | ((fail_if_success (with_reducible refine FinS.mk ?_)); (fail_if_success (with_reducible refine Le.mk ?_)); (conv => whnf)) | (refine FinS.b ?_) | (refine FinS.lb ?_) | (refine FinS.i ?_) | (refine FinS.f ?_) | (refine FinS.agg ?_) | (refine FinS.tup ?_)))
      all_goals (try refine Side.mk ?_)
      all_goals (try simp only [Int.toNat_natCast, Nat.zero_add, Option.getD_none, Option.getD_some, Int.toNat_zero, Nat.sub_zero, pOf_pt, pOf_row, pOf_lst, hRow_c, ch_c] at *)
      all_goals (try simp only [eq_self, decide_eq_true_eq, decide_eq_false_iff_not, Int.ofNat_lt, Int.ofNat_le, gt_iff_lt, ge_iff_le, true_and, Bool.not_eq_true', Bool.not_eq_false'] at *)
      all_goals first | (with_reducible rfl) | trivial | omega | rfl | exact fun _ _ => trivial | exact ⟨rfl, rfl⟩ | exact ⟨rfl, fun _ _ => rfl⟩ | exact ⟨rfl, rfl, fun _ _ => rfl⟩ | (exact isPts_pt _ _) | (exact isPts_lst _ _) | (exact ⟨isPts_pt _ _, (by first | assumption | omega | exact room_big (by omega) | exact big_of (by omega) | decide)⟩) | (exact ⟨isPts_pt _ _, (by first | assumption | omega | exact room_big (by omega) | exact big_of (by omega) | decide), (by first | assumption | omega | exact room_big (by omega) | exact big_of (by omega) | decide)⟩) | (exact ⟨isPts_pt _ _, (by first | assumption | omega | exact room_big (by omega) | exact big_of (by omega) | decide), (by first | assumption | omega | exact room_big (by omega) | exact big_of (by omega) | decide), (by first | assumption | omega | exact room_big (by omega) | exact big_of (by omega) | decide)⟩) | (exact ⟨by omega, isPts_pt _ _, by omega⟩) | (exact ⟨by omega, isPts_pt _ _, by omega, trivial⟩) | (exact ⟨by omega, isPts_pt _ _, by omega, by omega⟩) | (exact ⟨by omega, isPts_pt _ _, by omega, trivial, trivial⟩) | (exact ⟨Nat.le_refl _, isPts_pt _ _, by omega, trivial, trivial⟩) | (exact FinS.rows0 ⟨hx.2⟩ ⟨⟨hx.2⟩, ⟨rfl, hx.1.symm⟩, True.intro⟩) | (exact FinS.rows0 ⟨hx.2⟩ ⟨⟨hx.2⟩, ⟨rfl, hx.1⟩, True.intro⟩)
    · obtain ⟨a1, a2⟩ := ch_2 h3 (gD (hRow n p))
      obtain ⟨b1, b2⟩ := ch_2 h3 (fun z => gD (hRow n p) ((hRow n p).length - 1 - z))
      have w1 : IntKind.i64.wrap (((chL (hRow n p).length (gD (hRow n p))).length : Int) - 1) = (((chL (hRow n p).length (gD (hRow n p))).length - 1 : Nat) : Int) := wlen1 (by omega) (by omega)
      have w2 : IntKind.i64.wrap (((chL (hRow n p).length (fun z => gD (hRow n p) ((hRow n p).length - 1 - z))).length : Int) - 1) = (((chL (hRow n p).length (fun z => gD (hRow n p) ((hRow n p).length - 1 - z))).length - 1 : Nat) : Int) := wlen1 (by omega) (by omega)
      have hlen : (chL (hRow n p).length (gD (hRow n p))).length - 1 + ((chL (hRow n p).length (fun z => gD (hRow n p) ((hRow n p).length - 1 - z))).length - 1) = (hB n p).length := both_len
      have hcm : cm (hB n p).length (pOf (appGet ((chL (hRow n p).length (gD (hRow n p))).length - 1) (lstR (chL (hRow n p).length (gD (hRow n p)))) (fun i => lstR (chL (hRow n p).length (fun z => gD (hRow n p) ((hRow n p).length - 1 - z))) i))) = cm (hB n p).length (gD (hB n p)) := both_cm rfl (fun _ => rfl)
      have hcm2 : cm (hB n p).length (pOf (appGet ((chL (hRow n p).length (gD (hRow n p))).length - 1) (lstR (chL (hRow n p).length (gD (hRow n p)))) (lstR (chL (hRow n p).length (fun z => gD (hRow n p) ((hRow n p).length - 1 - z)))))) = cm (hB n p).length (gD (hB n p)) := both_cm rfl (fun _ => rfl)
      have hb64 : (hB n p).length ≤ 128 := by omega
      cases hc : (checkV (hB n p).length (cm (hB n p).length (gD (hB n p))) != 0)
      · have hx := hE_0 hr h3 hc
        repeat' ((fail_if_success (with_reducible refine Side.mk ?_)); first | (refine Rest.mk (drawR_sound zES37M_N mixOK (hndV_sound V51_k (hndU_sound U53_k zHS37M_N)) ?_)) | ((fail_if_success (with_reducible refine Rest.mk ?_)); first | (with_reducible exact True.intro) | (with_reducible refine Need.mk ?_ ?_) | (with_reducible refine And.intro ?_ ?_) | (with_reducible intro hcl; try (exfalso; (first | (rw [hr] at hcl; first | (cases hcl; done) | exact absurd hcl (by decide)) | (rw [hc] at hcl; first | (cases hcl; done) | exact absurd hcl (by decide)) | ((try simp only [decide_eq_true_eq, decide_eq_false_iff_not] at hcl); (try simp only [Int.toNat_natCast, Nat.zero_add, Option.getD_none, Option.getD_some, Int.toNat_zero, Nat.sub_zero, pOf_pt, pOf_row, pOf_lst, hRow_c, ch_c, w1, w2, hlen, hcm, hcm2] at hcl); first | omega | (rw [hr] at hcl; first | (cases hcl; done) | exact absurd hcl (by decide)) | (rw [hc] at hcl; first | (cases hcl; done) | exact absurd hcl (by decide)))); done)) | ((fail_if_success (with_reducible refine FinS.mk ?_)); (fail_if_success (with_reducible refine Le.mk ?_)); (conv => whnf)) | (refine FinS.b ?_) | (refine FinS.lb ?_) | (refine FinS.i ?_) | (refine FinS.f ?_) | (refine FinS.agg ?_) | (refine FinS.tup ?_)))
        all_goals (try (refine Le.of ?_; (conv => whnf)))
        repeat' ((fail_if_success (with_reducible refine Side.mk ?_)); first | (refine Rest.mk (drawR_sound zES37M_N mixOK (hndV_sound V51_k (hndU_sound U53_k zHS37M_N)) ?_)) | ((fail_if_success (with_reducible refine Rest.mk ?_)); first | (with_reducible exact True.intro) | (with_reducible refine Need.mk ?_ ?_) | (with_reducible refine And.intro ?_ ?_) | (with_reducible intro _) | ((fail_if_success (with_reducible refine FinS.mk ?_)); (fail_if_success (with_reducible refine Le.mk ?_)); (conv => whnf)) | (refine FinS.b ?_) | (refine FinS.lb ?_) | (refine FinS.i ?_) | (refine FinS.f ?_) | (refine FinS.agg ?_) | (refine FinS.tup ?_)))
        all_goals (try refine Side.mk ?_)
        all_goals (try simp only [Int.toNat_natCast, Nat.zero_add, Option.getD_none, Option.getD_some, Int.toNat_zero, Nat.sub_zero, pOf_pt, pOf_row, pOf_lst, hRow_c, ch_c, w1, w2, hlen, hcm, hcm2] at *)
        all_goals (try simp only [eq_self, decide_eq_true_eq, decide_eq_false_iff_not, Int.ofNat_lt, Int.ofNat_le, gt_iff_lt, ge_iff_le, true_and, Bool.not_eq_true', Bool.not_eq_false'] at *)
        all_goals first | (with_reducible rfl) | trivial | omega | rfl | exact fun _ _ => trivial | exact ⟨rfl, rfl⟩ | exact ⟨rfl, fun _ _ => rfl⟩ | exact ⟨rfl, rfl, fun _ _ => rfl⟩ | (exact isPts_pt _ _) | (exact isPts_lst _ _) | (exact ⟨isPts_pt _ _, (by first | assumption | omega | exact room_big (by omega) | exact big_of (by omega) | decide)⟩) | (exact ⟨isPts_pt _ _, (by first | assumption | omega | exact room_big (by omega) | exact big_of (by omega) | decide), (by first | assumption | omega | exact room_big (by omega) | exact big_of (by omega) | decide)⟩) | (exact ⟨isPts_pt _ _, (by first | assumption | omega | exact room_big (by omega) | exact big_of (by omega) | decide), (by first | assumption | omega | exact room_big (by omega) | exact big_of (by omega) | decide), (by first | assumption | omega | exact room_big (by omega) | exact big_of (by omega) | decide)⟩) | (exact ⟨by omega, isPts_pt _ _, by omega⟩) | (exact ⟨by omega, isPts_pt _ _, by omega, trivial⟩) | (exact ⟨by omega, isPts_pt _ _, by omega, by omega⟩) | (exact ⟨by omega, isPts_pt _ _, by omega, trivial, trivial⟩) | (exact ⟨Nat.le_refl _, isPts_pt _ _, by omega, trivial, trivial⟩) | (exact ⟨by omega, by omega, (by show (hB n p).length * 16 ≤ _; omega), by omega⟩) | (exact ⟨isPts_both (fun _ => rfl), big_of (by omega), Nat.le_refl _⟩) | (exact ⟨isPts_both (fun _ => rfl), big_of (by omega)⟩) | (exact FinS.rows 1 ⟨rfl, hx.2.symm, fun k hk j hj => both_get (fun _ => rfl) (by rw [← show (hN n p) = (bothL _ _ _).length from hx.2]; exact hk) hj⟩ ⟨⟨rfl, rfl, hx.2.symm⟩, ⟨rfl, hx.1.symm⟩, True.intro⟩) | (exact FinS.rows 1 ⟨rfl, hx.2.symm, fun k hk j hj => both_get (fun _ => rfl) (by rw [← show (hN n p) = (bothL _ _ _).length from hx.2]; exact hk) hj⟩ ⟨⟨rfl, rfl, rfl, hx.2.symm⟩, ⟨rfl, hx.1.symm⟩, True.intro⟩) | (exact FinS.rows0 ⟨hx.2⟩ ⟨⟨hx.2⟩, ⟨rfl, hx.1.symm⟩, True.intro⟩) | (exact FinS.rows0 ⟨hx.2⟩ ⟨⟨hx.2⟩, ⟨rfl, hx.1⟩, True.intro⟩)
      · have hx := hE_c hr h3 hc
        repeat' ((fail_if_success (with_reducible refine Side.mk ?_)); first | (refine Rest.mk (drawR_sound zES37M_N mixOK (hndV_sound V51_k (hndU_sound U53_k zHS37M_N)) ?_)) | ((fail_if_success (with_reducible refine Rest.mk ?_)); first | (with_reducible exact True.intro) | (with_reducible refine Need.mk ?_ ?_) | (with_reducible refine And.intro ?_ ?_) | (with_reducible intro hcl; try (exfalso; (first | (rw [hr] at hcl; first | (cases hcl; done) | exact absurd hcl (by decide)) | (rw [hc] at hcl; first | (cases hcl; done) | exact absurd hcl (by decide)) | ((try simp only [decide_eq_true_eq, decide_eq_false_iff_not] at hcl); (try simp only [Int.toNat_natCast, Nat.zero_add, Option.getD_none, Option.getD_some, Int.toNat_zero, Nat.sub_zero, pOf_pt, pOf_row, pOf_lst, hRow_c, ch_c, w1, w2, hlen, hcm, hcm2] at hcl); first | omega | (rw [hr] at hcl; first | (cases hcl; done) | exact absurd hcl (by decide)) | (rw [hc] at hcl; first | (cases hcl; done) | exact absurd hcl (by decide)))); done)) | ((fail_if_success (with_reducible refine FinS.mk ?_)); (fail_if_success (with_reducible refine Le.mk ?_)); (conv => whnf)) | (refine FinS.b ?_) | (refine FinS.lb ?_) | (refine FinS.i ?_) | (refine FinS.f ?_) | (refine FinS.agg ?_) | (refine FinS.tup ?_)))
        all_goals (try (refine Le.of ?_; (conv => whnf)))
        repeat' ((fail_if_success (with_reducible refine Side.mk ?_)); first | (refine Rest.mk (drawR_sound zES37M_N mixOK (hndV_sound V51_k (hndU_sound U53_k zHS37M_N)) ?_)) | ((fail_if_success (with_reducible refine Rest.mk ?_)); first | (with_reducible exact True.intro) | (with_reducible refine Need.mk ?_ ?_) | (with_reducible refine And.intro ?_ ?_) | (with_reducible intro _) | ((fail_if_success (with_reducible refine FinS.mk ?_)); (fail_if_success (with_reducible refine Le.mk ?_)); (conv => whnf)) | (refine FinS.b ?_) | (refine FinS.lb ?_) | (refine FinS.i ?_) | (refine FinS.f ?_) | (refine FinS.agg ?_) | (refine FinS.tup ?_)))
        all_goals (try refine Side.mk ?_)
        all_goals (try simp only [Int.toNat_natCast, Nat.zero_add, Option.getD_none, Option.getD_some, Int.toNat_zero, Nat.sub_zero, pOf_pt, pOf_row, pOf_lst, hRow_c, ch_c, w1, w2, hlen, hcm, hcm2] at *)
        all_goals (try simp only [eq_self, decide_eq_true_eq, decide_eq_false_iff_not, Int.ofNat_lt, Int.ofNat_le, gt_iff_lt, ge_iff_le, true_and, Bool.not_eq_true', Bool.not_eq_false'] at *)
        all_goals first | (with_reducible rfl) | trivial | omega | rfl | exact fun _ _ => trivial | exact ⟨rfl, rfl⟩ | exact ⟨rfl, fun _ _ => rfl⟩ | exact ⟨rfl, rfl, fun _ _ => rfl⟩ | (exact isPts_pt _ _) | (exact isPts_lst _ _) | (exact ⟨isPts_pt _ _, (by first | assumption | omega | exact room_big (by omega) | exact big_of (by omega) | decide)⟩) | (exact ⟨isPts_pt _ _, (by first | assumption | omega | exact room_big (by omega) | exact big_of (by omega) | decide), (by first | assumption | omega | exact room_big (by omega) | exact big_of (by omega) | decide)⟩) | (exact ⟨isPts_pt _ _, (by first | assumption | omega | exact room_big (by omega) | exact big_of (by omega) | decide), (by first | assumption | omega | exact room_big (by omega) | exact big_of (by omega) | decide), (by first | assumption | omega | exact room_big (by omega) | exact big_of (by omega) | decide)⟩) | (exact ⟨by omega, isPts_pt _ _, by omega⟩) | (exact ⟨by omega, isPts_pt _ _, by omega, trivial⟩) | (exact ⟨by omega, isPts_pt _ _, by omega, by omega⟩) | (exact ⟨by omega, isPts_pt _ _, by omega, trivial, trivial⟩) | (exact ⟨Nat.le_refl _, isPts_pt _ _, by omega, trivial, trivial⟩) | (exact ⟨by omega, by omega, (by show (hB n p).length * 16 ≤ _; omega), by omega⟩) | (exact ⟨isPts_both (fun _ => rfl), big_of (by omega), Nat.le_refl _⟩) | (exact ⟨isPts_both (fun _ => rfl), big_of (by omega)⟩) | (exact FinS.rows 1 ⟨rfl, hx.2.symm, fun k hk j hj => both_get (fun _ => rfl) (by rw [← show (hN n p) = (bothL _ _ _).length from hx.2]; exact hk) hj⟩ ⟨⟨rfl, rfl, hx.2.symm⟩, ⟨rfl, hx.1.symm⟩, True.intro⟩) | (exact FinS.rows 1 ⟨rfl, hx.2.symm, fun k hk j hj => both_get (fun _ => rfl) (by rw [← show (hN n p) = (bothL _ _ _).length from hx.2]; exact hk) hj⟩ ⟨⟨rfl, rfl, rfl, hx.2.symm⟩, ⟨rfl, hx.1.symm⟩, True.intro⟩) | (exact FinS.rows0 ⟨hx.2⟩ ⟨⟨hx.2⟩, ⟨rfl, hx.1.symm⟩, True.intro⟩) | (exact FinS.rows0 ⟨hx.2⟩ ⟨⟨hx.2⟩, ⟨rfl, hx.1⟩, True.intro⟩)
  · have hx := hE_r hr
    repeat' ((fail_if_success (with_reducible refine Side.mk ?_)); first | (refine Rest.mk (drawR_sound zES37M_N mixOK (hndV_sound V51_k (hndU_sound U53_k zHS37M_N)) ?_)) | ((fail_if_success (with_reducible refine Rest.mk ?_)); first | (with_reducible exact True.intro) | (with_reducible refine Need.mk ?_ ?_) | (with_reducible refine And.intro ?_ ?_) | (with_reducible intro hcl; try (exfalso; (first | (rw [hr] at hcl; first | (cases hcl; done) | exact absurd hcl (by decide)) | ((try simp only [decide_eq_true_eq, decide_eq_false_iff_not] at hcl); (try simp only [Int.toNat_natCast, Nat.zero_add, Option.getD_none, Option.getD_some, Int.toNat_zero, Nat.sub_zero, pOf_pt, pOf_row, pOf_lst, hRow_c, ch_c] at hcl); first | omega | (rw [hr] at hcl; first | (cases hcl; done) | exact absurd hcl (by decide)))); done)) | ((fail_if_success (with_reducible refine FinS.mk ?_)); (fail_if_success (with_reducible refine Le.mk ?_)); (conv => whnf)) | (refine FinS.b ?_) | (refine FinS.lb ?_) | (refine FinS.i ?_) | (refine FinS.f ?_) | (refine FinS.agg ?_) | (refine FinS.tup ?_)))
    all_goals (try (refine Le.of ?_; (conv => whnf)))
    repeat' ((fail_if_success (with_reducible refine Side.mk ?_)); first | (refine Rest.mk (drawR_sound zES37M_N mixOK (hndV_sound V51_k (hndU_sound U53_k zHS37M_N)) ?_)) | ((fail_if_success (with_reducible refine Rest.mk ?_)); first | (with_reducible exact True.intro) | (with_reducible refine Need.mk ?_ ?_) | (with_reducible refine And.intro ?_ ?_) | (with_reducible intro _) | ((fail_if_success (with_reducible refine FinS.mk ?_)); (fail_if_success (with_reducible refine Le.mk ?_)); (conv => whnf)) | (refine FinS.b ?_) | (refine FinS.lb ?_) | (refine FinS.i ?_) | (refine FinS.f ?_) | (refine FinS.agg ?_) | (refine FinS.tup ?_)))
    all_goals (try refine Side.mk ?_)
    all_goals (try simp only [Int.toNat_natCast, Nat.zero_add, Option.getD_none, Option.getD_some, Int.toNat_zero, Nat.sub_zero, pOf_pt, pOf_row, pOf_lst, hRow_c, ch_c] at *)
    all_goals (try simp only [eq_self, decide_eq_true_eq, decide_eq_false_iff_not, Int.ofNat_lt, Int.ofNat_le, gt_iff_lt, ge_iff_le, true_and, Bool.not_eq_true', Bool.not_eq_false'] at *)
    all_goals first | (with_reducible rfl) | trivial | omega | rfl | exact fun _ _ => trivial | exact ⟨rfl, rfl⟩ | exact ⟨rfl, fun _ _ => rfl⟩ | exact ⟨rfl, rfl, fun _ _ => rfl⟩ | (exact isPts_pt _ _) | (exact isPts_lst _ _) | (exact ⟨isPts_pt _ _, (by first | assumption | omega | exact room_big (by omega) | exact big_of (by omega) | decide)⟩) | (exact ⟨isPts_pt _ _, (by first | assumption | omega | exact room_big (by omega) | exact big_of (by omega) | decide), (by first | assumption | omega | exact room_big (by omega) | exact big_of (by omega) | decide)⟩) | (exact ⟨isPts_pt _ _, (by first | assumption | omega | exact room_big (by omega) | exact big_of (by omega) | decide), (by first | assumption | omega | exact room_big (by omega) | exact big_of (by omega) | decide), (by first | assumption | omega | exact room_big (by omega) | exact big_of (by omega) | decide)⟩) | (exact ⟨by omega, isPts_pt _ _, by omega⟩) | (exact ⟨by omega, isPts_pt _ _, by omega, trivial⟩) | (exact ⟨by omega, isPts_pt _ _, by omega, by omega⟩) | (exact ⟨by omega, isPts_pt _ _, by omega, trivial, trivial⟩) | (exact ⟨Nat.le_refl _, isPts_pt _ _, by omega, trivial, trivial⟩) | (exact FinS.rows0 ⟨hx.2⟩ ⟨⟨hx.2⟩, ⟨rfl, hx.1.symm⟩, True.intro⟩) | (exact FinS.rows0 ⟨hx.2⟩ ⟨⟨hx.2⟩, ⟨rfl, hx.1⟩, True.intro⟩)
noncomputable def g11 : List MV → Option (List Prop × MV × List Blk × Bool)
  | [.ro 2 n get] => some ([isPts n get, n ≤ room], .tup [.os 0 2 0 (hN n (cm n (pOf get))), .i .i64 (hE n (cm n (pOf get)))], [.rows 2 (hN n (cm n (pOf get))) (lstR (hB n (cm n (pOf get))))], false)
  | _ => none
theorem s11 : SumsOK Try.prog (sumOf 11 g11 S37M) := by
  refine SumsOK.add S37M_ok fun ms ps m blks al e hp => ?_
  unfold g11 at e
  split at e
  · cases e
    exact (le_arg1 (t11 _ (cm _ (pOf _)) (hp _ (.tail _ (.head _)))) (leR_cm (hp _ (.head _)))).aloneR rfl (fun i hi j hj => flat2 hj)
  · cases e
noncomputable def S11 := sumOf 11 g11 S37M
theorem S11_ok : SumsOK Try.prog S11 := s11
end Go.Ev.Poly
