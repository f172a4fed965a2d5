/-
  Both hulls are one; for all floats.
-/
import Derived.Test.YtoilhalmmghhbaaHulO
import Derived.Test.YtoilhalmmghhbaaPolyLb
import Derived.Test.YtoilhalmmghhbaaEvS
set_option linter.unusedSimpArgs false
set_option linter.unusedVariables false
open Go Go.Proofs
namespace Go.Ev.Poly
open Go.Ev.So Ieee
/-! ## The library's sort with what is told twice left out, and the plain one: the same row -/
def num (v : Nat × Nat) : Prop := isNan .f64 v.1 = false ∧ isNan .f64 v.2 = false
def wx (v : Nat × Nat) : Int := wrt .f64 v.1
def wy (v : Nat × Nat) : Int := wrt .f64 v.2
def L2 (x y : Nat × Nat) : Prop := wx x < wx y ∨ (wx x = wx y ∧ wy x < wy y)
def Q2 (x y : Nat × Nat) : Prop := wx x = wx y ∧ wy x = wy y
theorem cmp_num {x y : Nat} (hx : isNan .f64 x = false) (hy : isNan .f64 y = false) : cmpV x y = if wrt .f64 x < wrt .f64 y then -1 else if wrt .f64 y < wrt .f64 x then 1 else 0 := by
  unfold cmpV
  rw [feq_eq, feq_eq, flt_eq, fgt_eq, hx, hy]
  by_cases h1 : wrt .f64 x < wrt .f64 y
  · rw [decide_eq_true h1, if_pos h1]; simp
  · rw [decide_eq_false h1, if_neg h1]
    by_cases h2 : wrt .f64 y < wrt .f64 x
    · rw [decide_eq_true h2, if_pos h2]; simp
    · rw [decide_eq_false h2, if_neg h2]; simp
theorem ls_num {x y : Nat × Nat} (hx : num x) (hy : num y) : lsV x y = true ↔ L2 x y := by
  unfold lsV ordV L2 wx wy
  rw [cmp_num hx.1 hy.1, cmp_num hx.2 hy.2, decide_eq_true_eq]
  unfold orV
  by_cases h1 : wrt .f64 x.1 < wrt .f64 y.1
  · rw [if_pos h1]; simp [h1]
  · rw [if_neg h1]
    by_cases h2 : wrt .f64 y.1 < wrt .f64 x.1
    · rw [if_pos h2]; simp [h1]; omega
    · rw [if_neg h2]
      by_cases h3 : wrt .f64 x.2 < wrt .f64 y.2
      · rw [if_pos h3]; simp [h1, h3]; omega
      · rw [if_neg h3]
        by_cases h4 : wrt .f64 y.2 < wrt .f64 x.2
        · rw [if_pos h4]; simp [h1, h3]
        · rw [if_neg h4]; simp [h1, h3]
theorem ah_num {x y : Nat × Nat} (hx : num x) (hy : num y) : ahA x y = true ↔ L2 x y := by
  unfold ahA L2 wx wy
  rw [flt_eq, flt_eq, feq_eq, hx.1, hx.2, hy.1, hy.2]
  simp
theorem eq_num {x y : Nat × Nat} (hx : num x) (hy : num y) : eqQ x y = true ↔ Q2 x y := by
  unfold eqQ Q2 wx wy
  rw [feq_eq, feq_eq, hx.1, hx.2, hy.1, hy.2]
  simp
theorem eq_no {x y : Nat × Nat} (hx : num x) (hy : num y) : eqQ x y = false ↔ ¬ Q2 x y := by
  rw [← eq_num hx hy]; simp
theorem L2.irr (x : Nat × Nat) : ¬ L2 x x := by unfold L2; omega
theorem L2.tr (x y z : Nat × Nat) (h : L2 x y) (g : L2 y z) : L2 x z := by unfold L2 at *; omega
/-! ### tagged -/
def tg (p : Nat → Nat × Nat) : Nat → (Nat × Nat) × Nat := fun i => (p i, i)
def L3 (x y : (Nat × Nat) × Nat) : Prop := wx x.1 < wx y.1 ∨ (wx x.1 = wx y.1 ∧ (wy x.1 < wy y.1 ∨ (wy x.1 = wy y.1 ∧ x.2 < y.2)))
def E3 (x y : (Nat × Nat) × Nat) : Prop := num x.1 ∧ num y.1 ∧ x.2 < y.2
theorem ord3 : Ord (pull Prod.fst lsV) L3 E3 where
  irr x h := by unfold L3 at h; omega
  tr x y z h g := by unfold L3 at *; omega
  ag x y h := by
    obtain ⟨h1, h2, h3⟩ := h
    show lsV y.1 x.1 = true ↔ _
    rw [ls_num h2 h1]
    unfold L2 L3; omega
  tot x y h := by
    obtain ⟨_, _, h3⟩ := h
    unfold L3; omega
def srt (n : Nat) (p : Nat → Nat × Nat) : Nat → (Nat × Nat) × Nat := stab (pull Prod.fst lsV) n (tg p)
theorem srt_fst (n : Nat) (p : Nat → Nat × Nat) : stab lsV n p = fun k => (srt n p k).1 := stab_nat Prod.fst lsV n (tg p)
theorem srt_sd {n : Nat} {p : Nat → Nat × Nat} (hp : ∀ i, i < n → num (p i)) : Sd L3 0 n (srt n p) := stab_sd ord3 fun x y h1 h2 => ⟨hp x (by omega), hp y h2, h1⟩
theorem srt_to {n : Nat} {p : Nat → Nat × Nat} {k : Nat} (h : k < n) : ∃ i, i < n ∧ srt n p k = (p i, i) := by
  obtain ⟨i, _, h2, h3⟩ := (same_stab (pull Prod.fst lsV) n (tg p)).to k (Nat.zero_le _) h
  exact ⟨i, h2, h3⟩
theorem srt_of {n : Nat} {p : Nat → Nat × Nat} {i : Nat} (h : i < n) : ∃ k, k < n ∧ srt n p k = (p i, i) := by
  obtain ⟨k, _, h2, h3⟩ := (same_stab (pull Prod.fst lsV) n (tg p)).of i (Nat.zero_le _) h
  exact ⟨k, h2, h3.symm⟩
theorem srt_num {n : Nat} {p : Nat → Nat × Nat} (hp : ∀ i, i < n → num (p i)) {k : Nat} (h : k < n) : num (srt n p k).1 := by
  obtain ⟨i, h1, h2⟩ := srt_to (p := p) h
  rw [h2]; exact hp i h1
/-! ### what is left out -/
def fst_ (d : Nat → Nat × Nat) (z : Nat) : Prop := 0 < z → eqQ (d z) (d (z - 1)) = false
theorem cp_to (d : Nat → Nat × Nat) : ∀ i k, k < (cpL d i).length → ∃ z, z < i ∧ fst_ d z ∧ (cpL d i).getD k z2 = d z
  | 0, k, h => by simp [cpL] at h
  | i + 1, k, h => by
    by_cases hq : 0 < i ∧ eqQ (d i) (d (i - 1)) = true
    · rw [cp_t hq.1 hq.2] at h ⊢
      obtain ⟨z, h1, h2, h3⟩ := cp_to d i k h
      exact ⟨z, by omega, h2, h3⟩
    · have hf : fst_ d i := fun hi => by simpa [hi] using hq
      rw [cp_f hf] at h ⊢
      rw [getD_ap]
      by_cases hk : k < (cpL d i).length
      · rw [if_pos hk]
        obtain ⟨z, h1, h2, h3⟩ := cp_to d i k hk
        exact ⟨z, by omega, h2, h3⟩
      · have hk : k = (cpL d i).length := by simp at h; omega
        rw [if_neg (by omega), if_pos hk]
        exact ⟨i, by omega, hf, rfl⟩
theorem cp_of (d : Nat → Nat × Nat) : ∀ i z, z < i → fst_ d z → ∃ k, k < (cpL d i).length ∧ (cpL d i).getD k z2 = d z
  | 0, z, h, _ => by omega
  | i + 1, z, h, hf => by
    by_cases hq : 0 < i ∧ eqQ (d i) (d (i - 1)) = true
    · rw [cp_t hq.1 hq.2]
      refine cp_of d i z ?_ hf
      rcases Nat.lt_or_eq_of_le (Nat.le_of_lt_succ h) with h1 | h1
      · exact h1
      · subst h1
        have := hf hq.1
        rw [hq.2] at this; cases this
    · have hf2 : fst_ d i := fun hi => by simpa [hi] using hq
      rw [cp_f hf2]
      rcases Nat.lt_or_eq_of_le (Nat.le_of_lt_succ h) with h1 | h1
      · obtain ⟨k, q1, q2⟩ := cp_of d i z h1 hf
        exact ⟨k, by simp; omega, by rw [getD_ap, if_pos q1]; exact q2⟩
      · subst h1
        exact ⟨(cpL d z).length, by simp, by rw [getD_ap, if_neg (Nat.lt_irrefl _), if_pos rfl]⟩
theorem cp_sd {d : Nat → Nat × Nat} : ∀ i, (∀ z, z < i → num (d z)) → (∀ x y, x < y → y < i → ¬ L2 (d y) (d x)) → Sd L2 0 (cpL d i).length (fun k => (cpL d i).getD k z2)
  | 0, _, _ => fun x y _ _ h => by simp [cpL] at h
  | i + 1, hn, hs => by
    have ih := cp_sd i (fun z hz => hn z (by omega)) (fun x y h1 h2 => hs x y h1 (by omega))
    by_cases hq : 0 < i ∧ eqQ (d i) (d (i - 1)) = true
    · rw [cp_t hq.1 hq.2]; exact ih
    · have hf : fst_ d i := fun hi => by simpa [hi] using hq
      rw [cp_f hf]
      intro x y _ hxy hy
      have hy : y < (cpL d i).length + 1 := by simpa using hy
      dsimp only
      rw [getD_ap, getD_ap, if_pos (show x < (cpL d i).length by omega)]
      by_cases hyl : y < (cpL d i).length
      · rw [if_pos hyl]; exact ih x y (Nat.zero_le _) hxy hyl
      · rw [if_neg hyl, if_pos (by omega)]
        obtain ⟨z, h1, h2, h3⟩ := cp_to d i x (by omega)
        rw [h3]
        have hi : 0 < i := by omega
        have e1 : ¬ Q2 (d i) (d (i - 1)) := (eq_no (hn i (by omega)) (hn (i - 1) (by omega))).1 (hf hi)
        have e2 : ¬ L2 (d i) (d (i - 1)) := hs (i - 1) i (by omega) (by omega)
        rcases Nat.lt_or_eq_of_le (show z ≤ i - 1 by omega) with e3 | e3
        · have e4 : ¬ L2 (d (i - 1)) (d z) := hs z (i - 1) e3 (by omega)
          unfold L2 Q2 at *; omega
        · subst e3
          unfold L2 Q2 at *; omega
/-! ### the first of its kind -/
def fk (p : Nat → Nat × Nat) (i : Nat) : Prop := ∀ j, j < i → ¬ Q2 (p j) (p i)
theorem fst_fk {n : Nat} {p : Nat → Nat × Nat} (hp : ∀ i, i < n → num (p i)) {z i : Nat} (hz : z < n) (hi : i < n) (e : srt n p z = (p i, i)) : fst_ (stab lsV n p) z ↔ fk p i := by
  rw [srt_fst]
  have sd := srt_sd hp
  unfold fst_ fk
  dsimp only
  constructor
  · intro h j hj hq
    obtain ⟨y, hy, ey⟩ := srt_of (n := n) (p := p) (i := j) (by omega)
    have hyz : y < z := by
      rcases Nat.lt_trichotomy y z with c | c | c
      · exact c
      · subst c
        have e2 : i = j := congrArg Prod.snd (e.symm.trans ey)
        omega
      · have t := sd z y (Nat.zero_le _) c hy
        rw [e, ey] at t
        unfold L3 at t; unfold Q2 at hq; dsimp only at t; omega
    have h0 := h (by omega)
    rw [eq_no (srt_num hp hz) (srt_num hp (by omega))] at h0
    apply h0
    rcases Nat.lt_or_eq_of_le (show y ≤ z - 1 by omega) with c | c
    · have t1 := sd y (z - 1) (Nat.zero_le _) c (by omega)
      have t2 := sd (z - 1) z (Nat.zero_le _) (by omega) hz
      rw [ey] at t1
      rw [e] at t2 ⊢
      unfold L3 at t1 t2; unfold Q2 at *; dsimp only at *; omega
    · rw [← c, e, ey]
      unfold Q2 at *; dsimp only; omega
  · intro h hz0
    rw [eq_no (srt_num hp hz) (srt_num hp (by omega))]
    intro hq
    obtain ⟨j, hj, ej⟩ := srt_to (n := n) (p := p) (k := z - 1) (by omega)
    have t := sd (z - 1) z (Nat.zero_le _) (by omega) hz
    rw [e, ej] at t hq
    refine h j ?_ ?_
    · unfold L3 at t; unfold Q2 at hq; dsimp only at *; omega
    · unfold Q2 at *; dsimp only at *; omega
/-! ### the plain one -/
theorem any_to {f : Nat → Nat × Nat} {q : Nat × Nat} : ∀ {c : Nat}, anyK f q c = true ↔ ∃ k, k < c ∧ eqQ (f k) q = true
  | 0 => by simp [anyK]
  | c + 1 => by
    unfold anyK
    rw [Bool.or_eq_true, any_to]
    constructor
    · rintro (⟨k, h1, h2⟩ | h)
      · exact ⟨k, by omega, h2⟩
      · exact ⟨c, by omega, h⟩
    · rintro ⟨k, h1, h2⟩
      rcases Nat.lt_or_eq_of_le (Nat.le_of_lt_succ h1) with c1 | c1
      · exact .inl ⟨k, c1, h2⟩
      · subst c1; exact .inr h2
structure SdOK (p : Nat → Nat × Nat) (i : Nat) (x : Nat × (Nat → Nat × Nat)) : Prop where
  sd : Sd L2 0 x.1 x.2
  to : ∀ k, k < x.1 → ∃ j, j < i ∧ fk p j ∧ x.2 k = p j
  of : ∀ j, j < i → fk p j → ∃ k, k < x.1 ∧ x.2 k = p j
  all : ∀ j, j < i → ∃ k, k < x.1 ∧ Q2 (x.2 k) (p j)
def E2 (x y : Nat × Nat) : Prop := num x ∧ num y ∧ ¬ Q2 x y
theorem ord2 : Ord ahA L2 E2 where
  irr := L2.irr
  tr := L2.tr
  ag x y h := ah_num h.2.1 h.1
  tot x y h := by
    obtain ⟨_, _, h3⟩ := h
    unfold L2; unfold Q2 at h3; omega
theorem sdC_ok {p : Nat → Nat × Nat} : ∀ i, (∀ j, j < i → num (p j)) → SdOK p i (sdC p i)
  | 0, _ => ⟨fun x y _ _ h => by exact absurd h (Nat.not_lt_zero _), fun k h => absurd h (Nat.not_lt_zero _), fun j h => absurd h (Nat.not_lt_zero _), fun j h => absurd h (Nat.not_lt_zero _)⟩
  | i + 1, hn => by
    obtain ⟨g1, g2, g3, g4⟩ := sdC_ok i fun j hj => hn j (by omega)
    have hnum : ∀ k, k < (sdC p i).1 → num ((sdC p i).2 k) := fun k hk => by
      obtain ⟨j, h1, _, h3⟩ := g2 k hk
      rw [h3]; exact hn j (by omega)
    cases ha : anyK (sdC p i).2 (p i) (sdC p i).1
    · rw [sd_f ha]
      have hno : ∀ k, k < (sdC p i).1 → ¬ Q2 ((sdC p i).2 k) (p i) := fun k hk hq => by
        have := any_to.2 ⟨k, hk, (eq_num (hnum k hk) (hn i (by omega))).2 hq⟩
        rw [ha] at this; cases this
      have hfk : fk p i := fun j hj hq => by
        obtain ⟨k, h1, h2⟩ := g4 j hj
        exact hno k h1 (by unfold Q2 at *; omega)
      have hs := same_insD (b := (sdC p i).1 + 1) (a := 0) ahA (sdC p i).1 (apP (sdC p i).1 (p i) (sdC p i).2) (Nat.lt_succ_self _)
      refine ⟨?_, fun k hk => ?_, fun j hj hf => ?_, fun j hj => ?_⟩
      · refine insD_sd ord2 (sdC p i).1 _ (Nat.lt_succ_self _) (fun x y _ h2 h3 h4 => ?_) (fun x _ hx => ?_)
        · rw [apP_lo (by omega), apP_lo (by omega)]; exact g1 x y (Nat.zero_le _) h2 (by omega)
        · rw [apP_lo hx, apP_at]; exact ⟨hnum x hx, hn i (by omega), hno x hx⟩
      · obtain ⟨k', _, h2, h3⟩ := hs.to k (Nat.zero_le _) hk
        dsimp only
        rw [h3]
        by_cases hc : k' < (sdC p i).1
        · rw [apP_lo hc]
          obtain ⟨j, q1, q2, q3⟩ := g2 k' hc
          exact ⟨j, by omega, q2, q3⟩
        · obtain rfl : k' = (sdC p i).1 := by omega
          rw [apP_at]; exact ⟨i, by omega, hfk, rfl⟩
      · have key : ∀ k', k' < (sdC p i).1 + 1 → apP (sdC p i).1 (p i) (sdC p i).2 k' = p j → ∃ k, k < (sdC p i).1 + 1 ∧ insD ahA 0 (sdC p i).1 (apP (sdC p i).1 (p i) (sdC p i).2) k = p j := fun k' hk' e => by
          obtain ⟨k, _, h2, h3⟩ := hs.of k' (Nat.zero_le _) hk'
          exact ⟨k, h2, by rw [← h3]; exact e⟩
        rcases Nat.lt_or_eq_of_le (Nat.le_of_lt_succ hj) with c | c
        · obtain ⟨k', q1, q2⟩ := g3 j c hf
          exact key k' (by omega) (by rw [apP_lo q1]; exact q2)
        · subst c; exact key (sdC p j).1 (by omega) apP_at
      · have key : ∀ k', k' < (sdC p i).1 + 1 → Q2 (apP (sdC p i).1 (p i) (sdC p i).2 k') (p j) → ∃ k, k < (sdC p i).1 + 1 ∧ Q2 (insD ahA 0 (sdC p i).1 (apP (sdC p i).1 (p i) (sdC p i).2) k) (p j) := fun k' hk' e => by
          obtain ⟨k, _, h2, h3⟩ := hs.of k' (Nat.zero_le _) hk'
          exact ⟨k, h2, by rw [← h3]; exact e⟩
        rcases Nat.lt_or_eq_of_le (Nat.le_of_lt_succ hj) with c | c
        · obtain ⟨k', q1, q2⟩ := g4 j c
          exact key k' (by omega) (by rw [apP_lo q1]; exact q2)
        · subst c; exact key (sdC p j).1 (by omega) (by rw [apP_at]; exact ⟨rfl, rfl⟩)
    · rw [sd_t ha]
      obtain ⟨k, hk, hq⟩ := any_to.1 ha
      have hq := (eq_num (hnum k hk) (hn i (by omega))).1 hq
      refine ⟨g1, fun k hk => ?_, fun j hj hf => ?_, fun j hj => ?_⟩
      · obtain ⟨j, q1, q2, q3⟩ := g2 k hk
        exact ⟨j, by omega, q2, q3⟩
      · rcases Nat.lt_or_eq_of_le (Nat.le_of_lt_succ hj) with c | c
        · exact g3 j c hf
        · subst c
          obtain ⟨j', q1, q2, q3⟩ := g2 k hk
          rw [q3] at hq
          exact absurd hq (hf j' q1)
      · rcases Nat.lt_or_eq_of_le (Nat.le_of_lt_succ hj) with c | c
        · exact g4 j c
        · subst c; exact ⟨k, hk, hq⟩
theorem rows_eq {n : Nat} {p : Nat → Nat × Nat} (hp : ∀ i, i < n → num (p i)) : (hRow n p).length = (sdC p n).1 ∧ ∀ k, k < (hRow n p).length → gD (hRow n p) k = (sdC p n).2 k := by
  have g := sdC_ok n hp
  have sd := srt_sd hp
  have hs : ∀ x y, x < y → y < n → ¬ L2 (stab lsV n p y) (stab lsV n p x) := fun x y h1 h2 => by
    rw [srt_fst]
    have t := sd x y (Nat.zero_le _) h1 h2
    unfold L3 at t; unfold L2; dsimp only; omega
  have hnm : ∀ z, z < n → num (stab lsV n p z) := fun z hz => by rw [srt_fst]; exact srt_num hp hz
  have hz : ∀ z, z < n → ∃ i, i < n ∧ srt n p z = (p i, i) ∧ stab lsV n p z = p i := fun z hz => by
    obtain ⟨i, h1, h2⟩ := srt_to (p := p) hz
    exact ⟨i, h1, h2, by rw [srt_fst]; dsimp only; rw [h2]⟩
  refine uniq2 L2.irr L2.tr (cp_sd n hnm hs) g.sd (fun k hk => ?_) (fun k hk => ?_)
  · obtain ⟨z, h1, h2, h3⟩ := cp_to (stab lsV n p) n k hk
    obtain ⟨i, q1, q2, q3⟩ := hz z h1
    obtain ⟨k', r1, r2⟩ := g.of i q1 ((fst_fk hp h1 q1 q2).1 h2)
    exact ⟨k', r1, h3.trans (q3.trans r2.symm)⟩
  · obtain ⟨i, q1, q2, q3⟩ := g.to k hk
    obtain ⟨z, h1, h2⟩ := srt_of (p := p) q1
    obtain ⟨k', r1, r2⟩ := cp_of (stab lsV n p) n z h1 ((fst_fk hp h1 q1 h2).2 q2)
    refine ⟨k', r1, q3.trans (Eq.trans ?_ r2.symm)⟩
    rw [srt_fst]; dsimp only; rw [h2]
/-! ### the hulls -/
theorem ch_ext {n : Nat} {f g : Nat → Nat × Nat} (h : ∀ i, i < n → f i = g i) : chL n f = chL n g := by unfold chL; rw [cm_ext h]
theorem reals_num {n : Nat} {p : Nat → Nat × Nat} (hr : (realsV n p != 0) = false) : ∀ j, j < n → num (p j) := by
  intro j hj
  have hb : bdd (p j) := by
    cases e : wth (p j).1 (p j).2
    · rcases Nat.lt_or_ge 64 n with h | h
      · rw [reals_4 h] at hr; cases hr
      · rw [reals_5 h hj e] at hr; cases hr
    · exact e
  have h := bdd_fin hb
  exact ⟨fin_not_nan h.1.1, fin_not_nan h.2.1⟩
theorem hull_B {n : Nat} {p : Nat → Nat × Nat} (hr : (realsV n p != 0) = false) : rB n p = hB n p := by
  obtain ⟨h1, h2⟩ := rows_eq (reals_num hr)
  unfold rB hB bothL
  rw [← h1, ch_ext (f := (sdC p n).2) (g := gD (hRow n p)) fun i hi => (h2 i hi).symm, ch_ext (f := fun z => (sdC p n).2 ((hRow n p).length - 1 - z)) (g := fun z => gD (hRow n p) ((hRow n p).length - 1 - z)) fun i hi => (h2 _ (by omega)).symm]
theorem hull_E (n : Nat) (p : Nat → Nat × Nat) : rE n p = hE n p := by
  unfold rE hE
  rw [reals_eq]
  cases hr : (realsV n p != 0)
  · rw [hull_B hr, ← (rows_eq (reals_num hr)).1, check_eq]
  · rfl
theorem hull_N (n : Nat) (p : Nat → Nat × Nat) : rN n p = hN n p := by
  unfold rN hN
  rw [hull_E]
  cases hr : (realsV n p != 0)
  · rw [hull_B hr]
  · have h := hE_r hr
    rw [h.1, show (realsV n p == 0) = false by simpa using hr]; rfl
theorem hull_rows {n : Nat} {p : Nat → Nat × Nat} {k : Nat} (hk : k < hN n p) : gD (rB n p) k = gD (hB n p) k := by
  cases hr : (realsV n p != 0)
  · rw [hull_B hr]
  · rw [(hE_r hr).2] at hk; omega
theorem hN_64 (n : Nat) (p : Nat → Nat × Nat) : hN n p ≤ 64 := by
  cases hr : (realsV n p != 0)
  · rcases Nat.lt_or_ge (hRow n p).length 3 with h3 | h3
    · rw [(hE_3 hr h3).2]; omega
    · cases hc : (checkV (hB n p).length (cm (hB n p).length (gD (hB n p))) != 0)
      · rw [(hE_0 hr h3 hc).2]
        exact check_le hc
      · rw [(hE_c hr h3 hc).2]; omega
  · rw [(hE_r hr).2]; omega
end Go.Ev.Poly
