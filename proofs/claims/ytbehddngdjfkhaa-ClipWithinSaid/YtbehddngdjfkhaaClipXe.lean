/-
  What a plane leaves of a polygon lies within, and each point within is left; for all points that Check lets pass.
-/
import Derived.Test.YtbehddngdjfkhaaClipXd
set_option linter.unusedSimpArgs false
set_option linter.unusedVariables false
open Go Go.Proofs
namespace Go.Ev.Clip
open Ieee
set_option maxRecDepth 100000
theorem check_facts {n : Nat} {p : Nat → Nat × Nat} (h : checkV n p = 0) : 3 ≤ n ∧ n ≤ 64 ∧ (∀ i, i < n → wth (p i).1 (p i).2 = true) ∧ ∀ i, i < n → okI n p i = true := by
  have hb : (checkV n p != 0) = false := by rw [h]; rfl
  have h3 := check_ge hb
  have h64 := check_le hb
  have hr : realsV n p = 0 := by
    cases hr : (realsV n p != 0)
    · simpa using hr
    · have h2 : checkV n p = realsV n p := by unfold checkV; rw [hr]; rfl
      rw [← h2, h] at hr; exact absurd hr (by decide)
  refine ⟨h3, h64, fun i hi => ?_, fun i hi => ?_⟩
  · cases hw : wth (p i).1 (p i).2
    · rw [reals_5 h64 hi hw] at hr; cases hr
    · rfl
  · cases hw : okI n p i
    · have : checkV n p = 60 := by
        unfold checkV
        rw [hr, blt_f h3, all_f hi hw]; rfl
      rw [this] at h; cases h
    · rfl
theorem ne_next {n i : Nat} {p : Nat → Nat × Nat} (h : checkV n p = 0) (hi : i < n) : eqP (p i) (p (nxt n i)) = false := by
  obtain ⟨h3, _, hw, hk⟩ := check_facts h
  cases he : eqP (p i) (p (nxt n i))
  · rfl
  · rw [eqP_symm] at he
    have hl : nxt n i < n := Nat.mod_lt _ (by omega)
    obtain ⟨a1, a2⟩ := wth_fl (hw i hi)
    obtain ⟨b1, b2⟩ := wth_fl (hw _ hl)
    have := okI_len (n := n) (i := i) (p := p) (len0 a1.f a2.f b1.f b2.f he)
    rw [hk i hi] at this; cases this
abbrev Wp (nx ny pf : Nat) (v : Nat × Nat) : Bool := fle .f64 (uF (nx, ny, pf) v) 0
abbrev Cp (nx ny pf : Nat) (a b : Nat × Nat) : Nat × Nat := cutF a b (uF (nx, ny, pf) a) (uF (nx, ny, pf) b)
theorem lfL_eq (nx ny pf n : Nat) (p : Nat → Nat × Nat) : ∀ i, lfL (nx, ny, pf) n p i = Le.lf (Wp nx ny pf) (Cp nx ny pf) eqP z2 p (nxt n) i
  | 0 => rfl
  | i + 1 => by
    show lf2 (nx, ny, pf) (lf1 (nx, ny, pf) (lfL (nx, ny, pf) n p i) (p i)) (p i) (p (nxt n i)) = _
    rw [lfL_eq nx ny pf n p i]
    rfl
theorem trL_eq (L : List (Nat × Nat)) : trL L = Le.tr eqP z2 L := rfl
theorem end_cases (L : List (Nat × Nat)) : (endL L = [] ∨ (endL L = trL L ∧ 3 ≤ (trL L).length)) := by
  unfold endL
  cases h : decide (((trL L).length : Int) < 3)
  · right
    have := of_decide_eq_false h
    exact ⟨rfl, by omega⟩
  · exact .inl rfl
theorem tr_sub {L : List (Nat × Nat)} {x : Nat × Nat} (h : x ∈ trL L) : x ∈ L := by
  unfold trL at h
  cases hb : trB L
  · rw [hb] at h; exact h
  · rw [hb] at h; exact (List.dropLast_sublist L).mem h
theorem end_sub {L : List (Nat × Nat)} {x : Nat × Nat} (h : x ∈ endL L) : x ∈ L := by
  rcases end_cases L with e | ⟨e, _⟩
  · rw [e] at h; cases h
  · rw [e] at h; exact tr_sub h
theorem getD_mem {L : List (Nat × Nat)} {i : Nat} (h : i < L.length) : L.getD i z2 ∈ L := by
  rw [List.getD_eq_getElem?_getD, List.getElem?_eq_getElem h]
  exact List.getElem_mem h
theorem tr_len (L : List (Nat × Nat)) : (trL L).length ≤ L.length := by
  unfold trL
  cases trB L
  · exact Nat.le_refl _
  · show L.dropLast.length ≤ _
    rw [List.length_dropLast]; omega
theorem ask1_0 {nx ny pf a1 a2 : Nat} (h : chk nx ny pf = true) (hw : wth a1 a2 = true) : ask1 nx ny pf a1 a2 = 0 := by unfold ask1; rw [h, hw]; rfl
theorem far_bey {nx ny pf a1 a2 : Nat} (h : ask1 nx ny pf a1 a2 = 0) : farV nx ny pf a1 a2 = bey nx ny pf a1 a2 := by unfold farV; rw [h]; rfl
theorem leV_ok {nx ny pf n : Nat} {p : Nat → Nat × Nat} (h : chk nx ny pf = true) (hc : checkV n p = 0) : WOk nx ny pf n p (leV (nx, ny, pf) n p) := by
  obtain ⟨h3, h64, hw, hk⟩ := check_facts hc
  obtain ⟨f1, f2, f3⟩ := chk_fl h
  obtain ⟨mm, fM, fF, fP⟩ := ml_ok (n := n) (p := p) f3 fun i hi => wth_fl (hw i hi)
  have hask : ∀ i, i < n → ask1 nx ny pf (p i).1 (p i).2 = 0 := fun i hi => ask1_0 h (hw i hi)
  have hWf : ∀ i, i < n → fle .f64 (farV nx ny pf (p i).1 (p i).2) 0 = Wp nx ny pf (p i) := fun i hi => by rw [far_bey (hask i hi)]; rfl
  have hnx : ∀ i, nxt n i < n := fun i => Nat.mod_lt _ (by omega)
  have hqq : ∀ i, i < n → eqP (p i) (p i) = true := fun i hi => by
    obtain ⟨a1, a2⟩ := wth_fl (hw i hi)
    unfold eqP
    rw [feq_eq, feq_eq, fin_not_nan a1.f, fin_not_nan a2.f]
    simp
  have eL : leV (nx, ny, pf) n p = endL (Le.lf (Wp nx ny pf) (Cp nx ny pf) eqP z2 p (nxt n) n) := by unfold leV; rw [lfL_eq]
  have hlen := Le.lf_len (Wp nx ny pf) (Cp nx ny pf) eqP z2 p (nxt n) n
  have hmem := fun x => Le.lf_mem (Wp nx ny pf) (Cp nx ny pf) eqP z2 p (nxt n) (x := x) (n := n)
  -- the scan
  have hscan : ∀ i, i ≤ n → kV nx ny pf p (leV (nx, ny, pf) n p) i ≤ (leV (nx, ny, pf) n p).length ∧ (∀ j, i ≤ j → j < n → Wp nx ny pf (p j) = true → 0 < (leV (nx, ny, pf) n p).length → kV nx ny pf p (leV (nx, ny, pf) n p) i ≤ Le.pos (Wp nx ny pf) (Cp nx ny pf) eqP z2 p (nxt n) j) ∧
      (∀ j, j < i → (fle .f64 (farV nx ny pf (p j).1 (p j).2) 0 && decide (0 < ((leV (nx, ny, pf) n p).length : Int))) = true → Le.scan eqP z2 (leV (nx, ny, pf) n p) (p j) ((leV (nx, ny, pf) n p).length + 1) (kV nx ny pf p (leV (nx, ny, pf) n p) j) = (leV (nx, ny, pf) n p).length → eqP ((leV (nx, ny, pf) n p).getD 0 z2) (p j) = true) := by
    rw [eL]
    rcases end_cases (Le.lf (Wp nx ny pf) (Cp nx ny pf) eqP z2 p (nxt n) n) with e | ⟨e, e3⟩
    · rw [e]
      intro i
      induction i with
      | zero => exact fun _ => ⟨Nat.le_refl _, fun j _ _ _ hl => absurd hl (by decide), fun j hj => absurd hj (Nat.not_lt_zero _)⟩
      | succ i ih =>
        intro hi
        obtain ⟨i1, i2, i3⟩ := ih (by omega)
        have ek : kV nx ny pf p [] (i + 1) = kV nx ny pf p [] i := k_f (by simp)
        rw [ek]
        exact ⟨i1, fun j _ _ _ hl => absurd hl (by decide), fun j hj hb => by simp at hb⟩
    · rw [e, trL_eq] 
      rw [trL_eq] at e3
      intro i
      induction i with
      | zero => exact fun _ => ⟨Nat.zero_le _, fun j _ _ _ hl => Nat.zero_le _, fun j hj => absurd hj (Nat.not_lt_zero _)⟩
      | succ i ih =>
        intro hi
        obtain ⟨i1, i2, i3⟩ := ih (by omega)
        cases hb : (fle .f64 (farV nx ny pf (p i).1 (p i).2) 0 && decide (0 < ((Le.tr eqP z2 (Le.lf (Wp nx ny pf) (Cp nx ny pf) eqP z2 p (nxt n) n)).length : Int)))
        · rw [k_f hb]
          refine ⟨i1, fun j hj => i2 j (by omega), fun j hj hb2 => ?_⟩
          rcases Nat.lt_or_eq_of_le (Nat.le_of_lt_succ hj) with c | c
          · exact i3 j c hb2
          · subst c; rw [hb] at hb2; cases hb2
        · rw [k_t hb]
          have hb' := hb
          rw [hWf i hi, Bool.and_eq_true] at hb'
          have hs := Le.scan_ok (Wp nx ny pf) (Cp nx ny pf) eqP z2 p (nxt n) (n := n) (i := i) (k := kV nx ny pf p (Le.tr eqP z2 (Le.lf (Wp nx ny pf) (Cp nx ny pf) eqP z2 p (nxt n) n)) i) (f := (Le.tr eqP z2 (Le.lf (Wp nx ny pf) (Cp nx ny pf) eqP z2 p (nxt n) n)).length + 1) (fun x y hxy w => eqP_tr hxy w) hi hb'.1 (hqq i hi) (i2 i (Nat.le_refl _) hi hb'.1 (by omega)) i1
          refine ⟨hs.2.1, fun j hj hjn hwj _ => Nat.le_trans hs.1 (Le.pos_mono (Wp nx ny pf) (Cp nx ny pf) eqP z2 p (nxt n) (by omega)), fun j hj hb2 => ?_⟩
          rcases Nat.lt_or_eq_of_le (Nat.le_of_lt_succ hj) with c | c
          · exact i3 j c hb2
          · subst c; exact hs.2.2
  refine ⟨?_, ?_, h64, ?_, hask, fun i hi => (hscan i hi).1, fun i hi hb he => (hscan n (Nat.le_refl _)).2.2 i hi hb he, ?_⟩
  · rw [eL]
    rcases end_cases (Le.lf (Wp nx ny pf) (Cp nx ny pf) eqP z2 p (nxt n) n) with e | ⟨e, e3⟩
    · rw [e]; exact Nat.zero_le _
    · rw [e]; exact Nat.le_trans (tr_len _) hlen
  · rw [eL]
    rcases end_cases (Le.lf (Wp nx ny pf) (Cp nx ny pf) eqP z2 p (nxt n) n) with e | ⟨e, e3⟩
    · rw [e]; exact .inl rfl
    · rw [e]; exact .inr e3
  · intro i hi
    have hx := getD_mem hi
    generalize (leV (nx, ny, pf) n p).getD i z2 = x at *
    rw [eL] at hx
    obtain ⟨j, hj, hcas⟩ := hmem x (end_sub hx)
    obtain ⟨q1, q2⟩ := fP j hj
    obtain ⟨r1, r2⟩ := fP _ (hnx j)
    rcases hcas with ⟨rfl, hwj⟩ | ⟨rfl, hwj⟩
    · exact in_pt mm fM f1 f2 fF q1 q2 hwj
    · exact in_cut mm fM f1 f2 fF q1 q2 r1 r2 hwj
  · intro hall
    have hW : ∀ m i, i < m → allV nx ny pf p m = true → fle .f64 (farV nx ny pf (p i).1 (p i).2) 0 = true := by
      intro m
      induction m with
      | zero => intro i hi; omega
      | succ m ih =>
        intro i hi hm
        rw [← all_up, Bool.and_eq_true] at hm
        rcases Nat.lt_or_eq_of_le (Nat.le_of_lt_succ hi) with c | c
        · exact ih i c hm.1
        · subst c; exact hm.2
    have hW2 : ∀ i, i < n → Wp nx ny pf (p i) = true := fun i hi => by rw [← hWf i hi]; exact hW n i hi hall
    have hone : ∀ i, i + 1 < n → nxt n i = i + 1 := fun i hi => Nat.mod_eq_of_lt hi
    have e1 := Le.lf_all (Wp nx ny pf) (Cp nx ny pf) eqP z2 p (nxt n) (n := n) (fun i hi => ⟨hW2 i hi, hW2 _ (hnx i)⟩) (fun i hi => by have := ne_next hc (i := i) (by omega); rw [hone i hi] at this; exact this) (Nat.le_refl n)
    have hg : ∀ k, k < n → ((List.range n).map p).getD k z2 = p k := fun k hk => by simp [List.getD_eq_getElem?_getD, hk]
    have e2 : leV (nx, ny, pf) n p = (List.range n).map p := by
      rw [eL, e1]
      have htr : trL ((List.range n).map p) = (List.range n).map p := by
        have hlast : nxt n (n - 1) = 0 := by unfold nxt; rw [show n - 1 + 1 = n by omega, Nat.mod_self]
        have := ne_next hc (i := n - 1) (by omega)
        rw [hlast] at this
        unfold trL trB
        rw [List.length_map, List.length_range, hg _ (by omega), hg _ (by omega), this, Bool.and_false]
        rfl
      rcases end_cases ((List.range n).map p) with e | ⟨e, e3⟩
      · have : ((List.range n).map p).length = n := by simp
        have h2 : decide (((trL ((List.range n).map p)).length : Int) < 3) = false := by rw [htr, this]; exact decide_eq_false (by omega)
        have h4 : endL ((List.range n).map p) = trL ((List.range n).map p) := by unfold endL; rw [h2]; rfl
        rw [h4, htr]
      · rw [e, htr]
    rw [e2, List.length_map, List.length_range]
    refine same_t rfl fun i hi => ?_
    rw [hg i hi]
    exact sameI_self _ _
end Go.Ev.Clip
