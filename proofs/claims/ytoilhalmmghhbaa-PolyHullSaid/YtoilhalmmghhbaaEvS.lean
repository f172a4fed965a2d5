/-
  The stable sort of the library slices (blocks of 20, merged by turning) in plain words, and that it sorts; for every order and every length.
-/
set_option linter.unusedSimpArgs false
set_option linter.unusedVariables false
namespace Go.Ev.So
variable {α : Type}
def swpI (i j : Nat) : Nat → Nat := fun k => if k = j then i else if k = i then j else k
def swp (d : Nat → α) (i j : Nat) : Nat → α := fun k => d (swpI i j k)
def insD (ls : α → α → Bool) (a : Nat) : Nat → (Nat → α) → Nat → α
  | 0, d => d
  | j + 1, d => bif decide (a < j + 1) && ls (d (j + 1)) (d j) then insD ls a j (swp d (j + 1) j) else d
def insR (ls : α → α → Bool) (a : Nat) : Nat → (Nat → α) → Nat → α
  | 0, d => d
  | k + 1, d => insD ls a (a + 1 + k) (insR ls a k d)
def insS (ls : α → α → Bool) (a b : Nat) (d : Nat → α) : Nat → α := insR ls a (b - (a + 1)) d
def bsF (p : Nat → Bool) (i j : Nat) : Nat :=
  if i < j then bif p ((i + j) / 2) then bsF p ((i + j) / 2 + 1) j else bsF p i ((i + j) / 2) else i
termination_by j - i
def upI (a t : Nat) : Nat → Nat := fun x => if a ≤ x ∧ x < t then x + 1 else if x = t then a else x
def dnI (i m : Nat) : Nat → Nat := fun x => if x = i then m else if i < x ∧ x ≤ m then x - 1 else x
def rotI (a m b : Nat) : Nat → Nat := fun k => if a ≤ k ∧ k < b then (if k < a + (b - m) then k + (m - a) else k - (b - m)) else k
def swI (x y n : Nat) : Nat → Nat := fun k => if x ≤ k ∧ k < x + n then k - x + y else if y ≤ k ∧ k < y + n then k - y + x else k
def mdl (a b : Nat) : Nat := (a + b) / 2
def sS (a m b : Nat) : Nat := if mdl a b < m then mdl a b + m - b else a
def sR (a m b : Nat) : Nat := if mdl a b < m then mdl a b else m
def stt (ls : α → α → Bool) (d : Nat → α) (a m b : Nat) : Nat := bsF (fun c => !ls (d (mdl a b + m - 1 - c)) (d c)) (sS a m b) (sR a m b)
def enn (ls : α → α → Bool) (d : Nat → α) (a m b : Nat) : Nat := mdl a b + m - stt ls d a m b
def rotd (ls : α → α → Bool) (d : Nat → α) (a m b : Nat) : Nat → α :=
  if stt ls d a m b < m ∧ m < enn ls d a m b then fun x => d (rotI (stt ls d a m b) m (enn ls d a m b) x) else d
def sym (ls : α → α → Bool) (d : Nat → α) (a m b : Nat) : Nat → α :=
  if m - a = 1 then fun x => d (upI a (bsF (fun h => ls (d h) (d a)) m b - 1) x)
  else if b - m = 1 then fun x => d (dnI (bsF (fun h => !ls (d m) (d h)) a m) m x)
  else
    let d2 := if _h : a < stt ls d a m b ∧ stt ls d a m b < (a + b) / 2 then sym ls (rotd ls d a m b) a (stt ls d a m b) ((a + b) / 2) else rotd ls d a m b
    if _h : (a + b) / 2 < enn ls d a m b ∧ enn ls d a m b < b then sym ls d2 ((a + b) / 2) (enn ls d a m b) b else d2
termination_by b - a
def stP (ls : α → α → Bool) (n a : Nat) (d : Nat → α) : Nat → α :=
  if a + 20 ≤ n then stP ls n (a + 20) (insS ls a (a + 20) d) else insS ls a n d
termination_by n - a
def stM (ls : α → α → Bool) (n s a : Nat) (d : Nat → α) : Nat → α :=
  if _h : 0 < s ∧ a + 2 * s ≤ n then stM ls n s (a + 2 * s) (sym ls d a (a + s) (a + 2 * s)) else if a + s < n then sym ls d a (a + s) n else d
termination_by n - a
def stL (ls : α → α → Bool) (n s : Nat) (d : Nat → α) : Nat → α :=
  if _h : 0 < s ∧ s < n then stL ls n (2 * s) (stM ls n s 0 d) else d
termination_by n - s
def stab (ls : α → α → Bool) (n : Nat) (d : Nat → α) : Nat → α := stL ls n 20 (stP ls n 0 d)
/-! ### The same things, in another order -/
structure Same (a b : Nat) (d e : Nat → α) : Prop where
  to : ∀ k, a ≤ k → k < b → ∃ k', a ≤ k' ∧ k' < b ∧ e k = d k'
  of : ∀ k, a ≤ k → k < b → ∃ k', a ≤ k' ∧ k' < b ∧ d k = e k'
  out : ∀ k, ¬ (a ≤ k ∧ k < b) → e k = d k
theorem Same.refl (a b : Nat) (d : Nat → α) : Same a b d d := ⟨fun k h1 h2 => ⟨k, h1, h2, rfl⟩, fun k h1 h2 => ⟨k, h1, h2, rfl⟩, fun _ _ => rfl⟩
theorem Same.trans {a b : Nat} {d e f : Nat → α} (h : Same a b d e) (g : Same a b e f) : Same a b d f := by
  refine ⟨fun k h1 h2 => ?_, fun k h1 h2 => ?_, fun k hk => (g.out k hk).trans (h.out k hk)⟩
  · obtain ⟨k1, q1, q2, q3⟩ := g.to k h1 h2
    obtain ⟨k2, p1, p2, p3⟩ := h.to k1 q1 q2
    exact ⟨k2, p1, p2, q3.trans p3⟩
  · obtain ⟨k1, q1, q2, q3⟩ := h.of k h1 h2
    obtain ⟨k2, p1, p2, p3⟩ := g.of k1 q1 q2
    exact ⟨k2, p1, p2, q3.trans p3⟩
theorem Same.wide {a b a' b' : Nat} {d e : Nat → α} (h : Same a b d e) (h1 : a' ≤ a) (h2 : b ≤ b') : Same a' b' d e := by
  refine ⟨fun k q1 q2 => ?_, fun k q1 q2 => ?_, fun k hk => h.out k (by omega)⟩
  · by_cases c : a ≤ k ∧ k < b
    · obtain ⟨k', p1, p2, p3⟩ := h.to k c.1 c.2
      exact ⟨k', by omega, by omega, p3⟩
    · exact ⟨k, q1, q2, h.out k c⟩
  · by_cases c : a ≤ k ∧ k < b
    · obtain ⟨k', p1, p2, p3⟩ := h.of k c.1 c.2
      exact ⟨k', by omega, by omega, p3⟩
    · exact ⟨k, q1, q2, (h.out k c).symm⟩
theorem Same.all {a b : Nat} {d e : Nat → α} (h : Same a b d e) {P : α → Prop} (hd : ∀ k, a ≤ k → k < b → P (d k)) : ∀ k, a ≤ k → k < b → P (e k) := fun k h1 h2 => by
  obtain ⟨k', q1, q2, q3⟩ := h.to k h1 h2
  rw [q3]; exact hd k' q1 q2
theorem Same.idx {a b : Nat} {d : Nat → α} (σ τ : Nat → Nat) (h1 : ∀ k, a ≤ k → k < b → a ≤ σ k ∧ σ k < b) (h2 : ∀ k, a ≤ k → k < b → a ≤ τ k ∧ τ k < b ∧ σ (τ k) = k) (h3 : ∀ k, ¬ (a ≤ k ∧ k < b) → σ k = k) : Same a b d (fun x => d (σ x)) :=
  ⟨fun k q1 q2 => ⟨σ k, (h1 k q1 q2).1, (h1 k q1 q2).2, rfl⟩, fun k q1 q2 => ⟨τ k, (h2 k q1 q2).1, (h2 k q1 q2).2.1, by rw [(h2 k q1 q2).2.2]⟩, fun k hk => by rw [h3 k hk]⟩
theorem same_swp {a b i j : Nat} (d : Nat → α) (h1 : a ≤ i ∧ i < b) (h2 : a ≤ j ∧ j < b) : Same a b d (swp d i j) :=
  Same.idx (swpI i j) (swpI i j) (fun k _ _ => by unfold swpI; (repeat' split) <;> omega) (fun k _ _ => by unfold swpI; refine ⟨?_, ?_, ?_⟩ <;> (repeat' split) <;> omega) (fun k hk => by unfold swpI; (repeat' split) <;> omega)
theorem same_insD (ls : α → α → Bool) {a b : Nat} : ∀ (j : Nat) (d : Nat → α), j < b → Same a b d (insD ls a j d)
  | 0, d, _ => .refl _ _ _
  | j + 1, d, h => by
    unfold insD
    cases hc : decide (a < j + 1) && ls (d (j + 1)) (d j)
    · exact .refl _ _ _
    · simp only [Bool.and_eq_true, decide_eq_true_eq] at hc
      exact (same_swp d ⟨by omega, by omega⟩ ⟨by omega, by omega⟩).trans (same_insD ls j _ (by omega))
theorem same_insR (ls : α → α → Bool) {a b : Nat} : ∀ (k : Nat) (d : Nat → α), a + k < b → Same a b d (insR ls a k d)
  | 0, d, _ => .refl _ _ _
  | k + 1, d, h => (same_insR ls k d (by omega)).trans (same_insD ls _ _ (by omega))
theorem same_insS (ls : α → α → Bool) {a b : Nat} (d : Nat → α) : Same a b d (insS ls a b d) := by
  unfold insS
  by_cases h : a < b
  · exact same_insR ls _ d (by omega)
  · rw [show b - (a + 1) = 0 by omega]; exact .refl _ _ _
theorem bsF_eq (p : Nat → Bool) (i j : Nat) : bsF p i j = if i < j then bif p ((i + j) / 2) then bsF p ((i + j) / 2 + 1) j else bsF p i ((i + j) / 2) else i := by rw [bsF]
theorem bs_rng (p : Nat → Bool) : ∀ (k i j : Nat), j - i ≤ k → i ≤ j → i ≤ bsF p i j ∧ bsF p i j ≤ j
  | k, i, j, h, hij => by
    rw [bsF_eq]
    by_cases c : i < j
    · rw [if_pos c]
      cases k with
      | zero => omega
      | succ k =>
        cases p ((i + j) / 2)
        · have := bs_rng p k i ((i + j) / 2) (by omega) (by omega)
          simp only [cond_false]; omega
        · have := bs_rng p k ((i + j) / 2 + 1) j (by omega) (by omega)
          simp only [cond_true]; omega
    · rw [if_neg c]; omega
/-- Where what is asked turns from yes to no, once. -/
theorem bs_cut (p : Nat → Bool) : ∀ (k i j : Nat), j - i ≤ k → i ≤ j → (∀ x y, i ≤ x → x < y → y < j → p y = true → p x = true) → (∀ x, i ≤ x → x < bsF p i j → p x = true) ∧ ∀ x, bsF p i j ≤ x → x < j → p x = false
  | k, i, j, h, hij, hm => by
    rw [bsF_eq]
    by_cases c : i < j
    · rw [if_pos c]
      cases k with
      | zero => omega
      | succ k =>
        cases hp : p ((i + j) / 2)
        · simp only [cond_false]
          obtain ⟨q1, q2⟩ := bs_cut p k i ((i + j) / 2) (by omega) (by omega) (fun x y h1 h2 h3 => hm x y h1 h2 (by omega))
          refine ⟨q1, fun x h1 h2 => ?_⟩
          by_cases hx : x < (i + j) / 2
          · exact q2 x h1 hx
          · by_cases he : x = (i + j) / 2
            · rw [he]; exact hp
            · cases hpx : p x
              · rfl
              · have := hm ((i + j) / 2) x (by omega) (by omega) h2 hpx
                rw [hp] at this; cases this
        · simp only [cond_true]
          obtain ⟨q1, q2⟩ := bs_cut p k ((i + j) / 2 + 1) j (by omega) (by omega) (fun x y h1 h2 h3 => hm x y (by omega) h2 h3)
          refine ⟨fun x h1 h2 => ?_, q2⟩
          by_cases hx : (i + j) / 2 + 1 ≤ x
          · exact q1 x hx h2
          · by_cases he : x = (i + j) / 2
            · rw [he]; exact hp
            · exact hm x ((i + j) / 2) h1 (by omega) (by omega) hp
    · rw [if_neg c]
      exact ⟨fun x h1 h2 => by omega, fun x h1 h2 => by omega⟩
theorem same_up {a b t : Nat} (d : Nat → α) (h : a ≤ t) (ht : t < b) : Same a b d (fun x => d (upI a t x)) :=
  Same.idx (upI a t) (dnI a t) (fun k _ _ => by unfold upI; (repeat' split) <;> omega) (fun k _ _ => by unfold upI dnI; refine ⟨?_, ?_, ?_⟩ <;> (repeat' split) <;> omega) (fun k hk => by unfold upI; (repeat' split) <;> omega)
theorem same_dn {a b i m : Nat} (d : Nat → α) (h : a ≤ i) (him : i ≤ m) (hm : m < b) : Same a b d (fun x => d (dnI i m x)) :=
  Same.idx (dnI i m) (upI i m) (fun k _ _ => by unfold dnI; (repeat' split) <;> omega) (fun k _ _ => by unfold upI dnI; refine ⟨?_, ?_, ?_⟩ <;> (repeat' split) <;> omega) (fun k hk => by unfold dnI; (repeat' split) <;> omega)
theorem same_rot {a b m : Nat} (d : Nat → α) (h : a ≤ m) (hm : m ≤ b) : Same a b d (fun x => d (rotI a m b x)) :=
  Same.idx (rotI a m b) (rotI a (a + b - m) b) (fun k _ _ => by unfold rotI; (repeat' split) <;> omega) (fun k _ _ => by unfold rotI; refine ⟨?_, ?_, ?_⟩ <;> (repeat' split) <;> omega) (fun k hk => by unfold rotI; (repeat' split) <;> omega)
theorem sSR {a m b : Nat} (h1 : a < m) (h2 : m < b) : a ≤ sS a m b ∧ sS a m b ≤ sR a m b ∧ sR a m b ≤ m ∧ sR a m b ≤ mdl a b ∧ mdl a b + m - b ≤ sS a m b := by
  unfold sS sR mdl; split <;> omega
theorem stt_rng (ls : α → α → Bool) (d : Nat → α) {a m b : Nat} (h1 : a < m) (h2 : m < b) : sS a m b ≤ stt ls d a m b ∧ stt ls d a m b ≤ sR a m b := by
  obtain ⟨q1, q2, _⟩ := sSR h1 h2
  exact bs_rng _ _ _ _ (Nat.le_refl _) q2
theorem enn_rng (ls : α → α → Bool) (d : Nat → α) {a m b : Nat} (h1 : a < m) (h2 : m < b) : m ≤ enn ls d a m b ∧ enn ls d a m b ≤ b ∧ mdl a b ≤ enn ls d a m b ∧ a ≤ stt ls d a m b ∧ stt ls d a m b ≤ m ∧ stt ls d a m b ≤ mdl a b := by
  obtain ⟨q1, q2, q3, q4, q5⟩ := sSR h1 h2
  obtain ⟨p1, p2⟩ := stt_rng ls d h1 h2
  unfold enn
  omega
theorem same_rotd (ls : α → α → Bool) (d : Nat → α) {a m b : Nat} (h1 : a < m) (h2 : m < b) : Same a b d (rotd ls d a m b) := by
  obtain ⟨q1, q2, q3, q4, q5, q6⟩ := enn_rng ls d h1 h2
  unfold rotd
  split
  · exact (same_rot d q5 q1).wide q4 q2
  · exact .refl _ _ _
theorem sym_eq (ls : α → α → Bool) (d : Nat → α) (a m b : Nat) : sym ls d a m b = if m - a = 1 then fun x => d (upI a (bsF (fun h => ls (d h) (d a)) m b - 1) x)
  else if b - m = 1 then fun x => d (dnI (bsF (fun h => !ls (d m) (d h)) a m) m x)
  else
    let d2 := if a < stt ls d a m b ∧ stt ls d a m b < (a + b) / 2 then sym ls (rotd ls d a m b) a (stt ls d a m b) ((a + b) / 2) else rotd ls d a m b
    if (a + b) / 2 < enn ls d a m b ∧ enn ls d a m b < b then sym ls d2 ((a + b) / 2) (enn ls d a m b) b else d2 := by
  rw [sym]; rfl
theorem same_sym (ls : α → α → Bool) : ∀ (k : Nat) (d : Nat → α) (a m b : Nat), b - a ≤ k → a < m → m < b → Same a b d (sym ls d a m b)
  | k, d, a, m, b, hk, h1, h2 => by
    rw [sym_eq]
    by_cases c1 : m - a = 1
    · rw [if_pos c1]
      have := bs_rng (fun h => ls (d h) (d a)) _ m b (Nat.le_refl _) (by omega)
      exact same_up d (by omega) (by omega)
    · rw [if_neg c1]
      by_cases c2 : b - m = 1
      · rw [if_pos c2]
        have := bs_rng (fun h => !ls (d m) (d h)) _ a m (Nat.le_refl _) (by omega)
        exact same_dn d (by omega) (by omega) (by omega)
      · rw [if_neg c2]
        cases k with
        | zero => omega
        | succ k =>
          obtain ⟨q1, q2, q3, q4, q5, q6⟩ := enn_rng ls d h1 h2
          unfold mdl at q3 q6
          have r0 := same_rotd ls d h1 h2
          have r1 : Same a b d (if a < stt ls d a m b ∧ stt ls d a m b < (a + b) / 2 then sym ls (rotd ls d a m b) a (stt ls d a m b) ((a + b) / 2) else rotd ls d a m b) := by
            split
            · rename_i c
              exact r0.trans ((same_sym ls k _ _ _ _ (by omega) c.1 c.2).wide (Nat.le_refl _) (by omega))
            · exact r0
          dsimp only
          split
          · rename_i c
            exact r1.trans ((same_sym ls k _ _ _ _ (by omega) c.1 c.2).wide (by omega) (Nat.le_refl _))
          · exact r1
end Go.Ev.So

namespace Go.Ev.So
variable {α : Type}
/-! ## The stable sort sorts -/
/-- 'T' is the order that comes out; 'E': this one stood ahead of that one; there what the function says of the later against the earlier one is T. -/
structure Ord (ls : α → α → Bool) (T E : α → α → Prop) : Prop where
  irr : ∀ x, ¬ T x x
  tr : ∀ x y z, T x y → T y z → T x z
  ag : ∀ x y, E x y → (ls y x = true ↔ T y x)
  tot : ∀ x y, E x y → T x y ∨ T y x
def Sd (T : α → α → Prop) (a b : Nat) (d : Nat → α) : Prop := ∀ i j, a ≤ i → i < j → j < b → T (d i) (d j)
variable {ls : α → α → Bool} {T E : α → α → Prop}
theorem Ord.no (o : Ord ls T E) {x y : α} (e : E x y) (h : ls y x = false) : T x y := by
  rcases o.tot x y e with h1 | h1
  · exact h1
  · rw [(o.ag x y e).2 h1] at h; cases h
theorem Ord.no' (o : Ord ls T E) {x y : α} (e : E x y) (h : (!ls y x) = true) : T x y := o.no e (by simpa using h)
theorem Ord.yes (o : Ord ls T E) {x y : α} (e : E x y) (h : ls y x = true) : T y x := (o.ag x y e).1 h
theorem Ord.yes' (o : Ord ls T E) {x y : α} (e : E x y) (h : (!ls y x) = false) : T y x := o.yes e (by simpa using h)
theorem insD_sd (o : Ord ls T E) {a b : Nat} : ∀ (j : Nat) (d : Nat → α), j < b → (∀ x y, a ≤ x → x < y → y < b → y ≠ j → T (d x) (d y)) → (∀ x, a ≤ x → x < j → E (d x) (d j)) → Sd T a b (insD ls a j d)
  | 0, d, hj, h, _ => fun x y h1 h2 h3 => h x y h1 h2 h3 (by omega)
  | j + 1, d, hj, h, he => by
    unfold insD
    cases hc : decide (a < j + 1) && ls (d (j + 1)) (d j)
    · simp only [cond_false]
      intro x y h1 h2 h3
      by_cases hy : y = j + 1
      · subst hy
        have haj : a < j + 1 := by omega
        have hl : ls (d (j + 1)) (d j) = false := by simpa [haj] using hc
        have h4 := o.no (he j (by omega) (by omega)) hl
        by_cases hx : x = j
        · subst hx; exact h4
        · exact o.tr _ _ _ (h x j h1 (by omega) (by omega) (by omega)) h4
      · exact h x y h1 h2 h3 hy
    · simp only [cond_true]
      simp only [Bool.and_eq_true, decide_eq_true_eq] at hc
      have h4 := o.yes (he j (by omega) (by omega)) hc.2
      have e1 : swp d (j + 1) j j = d (j + 1) := by simp [swp, swpI]
      have e2 : swp d (j + 1) j (j + 1) = d j := by simp [swp, swpI]
      have e3 : ∀ x, x ≠ j → x ≠ j + 1 → swp d (j + 1) j x = d x := fun x h1 h2 => by simp [swp, swpI, h1, h2]
      refine insD_sd o j _ (by omega) (fun x y h1 h2 h3 hy => ?_) (fun x h1 h2 => ?_)
      · by_cases hy1 : y = j + 1
        · subst hy1
          rw [e2]
          by_cases hx : x = j
          · subst hx; rw [e1]; exact h4
          · rw [e3 x hx (by omega)]; exact h x j h1 (by omega) (by omega) (by omega)
        · rw [e3 y hy hy1]
          by_cases hx : x = j
          · subst hx; rw [e1]; exact h (x + 1) y (by omega) (by omega) h3 hy1
          · by_cases hx1 : x = j + 1
            · subst hx1; rw [e2]; exact h j y (by omega) (by omega) h3 hy1
            · rw [e3 x hx hx1]; exact h x y h1 h2 h3 hy1
      · rw [e1, e3 x (by omega) (by omega)]
        exact he x h1 (by omega)
theorem insR_sd (o : Ord ls T E) {a b : Nat} (d : Nat → α) (he : ∀ x y, a ≤ x → x < y → y < b → E (d x) (d y)) : ∀ k, a + k < b → Sd T a (a + k + 1) (insR ls a k d)
  | 0, _ => fun x y h1 h2 h3 => by omega
  | k + 1, h => by
    have ih := insR_sd o d he k (by omega)
    have sm := same_insR ls (a := a) (b := a + k + 1) k d (by omega)
    refine insD_sd o (b := a + (k + 1) + 1) (a + 1 + k) _ (by omega) (fun x y h1 h2 h3 hy => ih x y h1 h2 (by omega)) (fun x h1 h2 => ?_)
    obtain ⟨x', q1, q2, q3⟩ := sm.to x h1 (by omega)
    rw [q3, sm.out (a + 1 + k) (by omega)]
    exact he x' _ q1 (by omega) (by omega)
theorem insS_sd (o : Ord ls T E) {a b : Nat} (d : Nat → α) (he : ∀ x y, a ≤ x → x < y → y < b → E (d x) (d y)) : Sd T a b (insS ls a b d) := by
  unfold insS
  by_cases h : a < b
  · have := insR_sd o d he (b - (a + 1)) (by omega)
    rwa [show a + (b - (a + 1)) + 1 = b by omega] at this
  · intro x y h1 h2 h3; omega
theorem rotd_val (ls : α → α → Bool) (d : Nat → α) {a m b : Nat} (h1 : a < m) (h2 : m < b) : (∀ x, a ≤ x → x < stt ls d a m b → rotd ls d a m b x = d x) ∧ (∀ x, stt ls d a m b ≤ x → x < mdl a b → rotd ls d a m b x = d (x + (m - stt ls d a m b))) ∧
    (∀ x, mdl a b ≤ x → x < enn ls d a m b → rotd ls d a m b x = d (x - (enn ls d a m b - m))) ∧ ∀ x, enn ls d a m b ≤ x → x < b → rotd ls d a m b x = d x := by
  obtain ⟨q1, q2, q3, q4, q5, q6⟩ := enn_rng ls d h1 h2
  have q7 : enn ls d a m b = mdl a b + m - stt ls d a m b := rfl
  unfold rotd
  generalize stt ls d a m b = s at *
  generalize enn ls d a m b = e at *
  generalize mdl a b = c at *
  split
  · refine ⟨fun x p1 p2 => ?_, fun x p1 p2 => ?_, fun x p1 p2 => ?_, fun x p1 p2 => ?_⟩ <;> dsimp only <;> congr 1 <;> unfold rotI <;> (repeat' split) <;> omega
  · refine ⟨fun x p1 p2 => rfl, fun x p1 p2 => ?_, fun x p1 p2 => ?_, fun x p1 p2 => rfl⟩ <;> congr 1 <;> omega
theorem cross (o : Ord ls T E) (d : Nat → α) {a m b : Nat} (h1 : a < m) (h2 : m < b) (s1 : Sd T a m d) (s2 : Sd T m b d) (he : ∀ x y, a ≤ x → x < m → m ≤ y → y < b → E (d x) (d y)) :
    ∀ x y, a ≤ x → x < mdl a b → mdl a b ≤ y → y < b → T (rotd ls d a m b x) (rotd ls d a m b y) := by
  obtain ⟨q1, q2, q3, q4, q5, q6⟩ := enn_rng ls d h1 h2
  have q7 : enn ls d a m b = mdl a b + m - stt ls d a m b := rfl
  obtain ⟨v1, v2, v3, v4⟩ := rotd_val ls d h1 h2
  obtain ⟨u1, u2, u3, u4, u5⟩ := sSR h1 h2
  have hcut := bs_cut (fun c => !ls (d (mdl a b + m - 1 - c)) (d c)) _ (sS a m b) (sR a m b) (Nat.le_refl _) u2 (by
    intro x y p1 p2 p3 hy
    try dsimp only at hy ⊢
    have ex := he x (mdl a b + m - 1 - x) (by omega) (by omega) (by omega) (by omega)
    have ey := he y (mdl a b + m - 1 - y) (by omega) (by omega) (by omega) (by omega)
    cases hx : ls (d (mdl a b + m - 1 - x)) (d x)
    · rfl
    · have t1 := o.yes ex hx
      have t2 := o.no' ey hy
      have t3 := o.tr _ _ _ (s2 (mdl a b + m - 1 - y) (mdl a b + m - 1 - x) (by omega) (by omega) (by omega)) (o.tr _ _ _ t1 (s1 x y (by omega) p2 (by omega)))
      exact absurd (o.tr _ _ _ t2 t3) (o.irr _))
  have hst : bsF (fun c => !ls (d (mdl a b + m - 1 - c)) (d c)) (sS a m b) (sR a m b) = stt ls d a m b := rfl
  rw [hst] at hcut
  obtain ⟨c1, c2⟩ := hcut
  obtain ⟨w1, w2⟩ := stt_rng ls d h1 h2
  have hsS : sS a m b = (if mdl a b < m then mdl a b + m - b else a) := rfl
  have hsR : sR a m b = (if mdl a b < m then mdl a b else m) := rfl
  clear hst
  generalize stt ls d a m b = s at *
  generalize enn ls d a m b = e at *
  generalize sS a m b = s0 at *
  generalize sR a m b = r0 at *
  generalize mdl a b = c at *
  intro x y p1 p2 p3 p4
  by_cases hx : x < s
  · rw [v1 x p1 hx]
    by_cases hy : y < e
    · rw [v3 y p3 hy]
      exact s1 _ _ p1 (by omega) (by omega)
    · rw [v4 y (by omega) p4]
      have hs : s0 ≤ s - 1 := by
        by_cases hne : s = s0
        · exfalso; split at hsS <;> omega
        · omega
      have t := c1 (s - 1) hs (by omega)
      try dsimp only at t
      have t := o.no' (he (s - 1) (c + m - 1 - (s - 1)) (by omega) (by omega) (by omega) (by omega)) t
      rw [show c + m - 1 - (s - 1) = e by omega] at t
      have ta : T (d x) (d e) := by
        by_cases hx1 : x = s - 1
        · rw [hx1]; exact t
        · exact o.tr _ _ _ (s1 x (s - 1) p1 (by omega) (by omega)) t
      by_cases hy1 : y = e
      · rw [hy1]; exact ta
      · exact o.tr _ _ _ ta (s2 e y q1 (by omega) p4)
  · rw [v2 x (by omega) p2]
    by_cases hy : y < e
    · rw [v3 y p3 hy]
      have hs : s < r0 := by
        by_cases hne : s = r0
        · exfalso; split at hsR <;> omega
        · omega
      have t := c2 s (Nat.le_refl _) hs
      try dsimp only at t
      have t := o.yes' (he s (c + m - 1 - s) (by omega) (by omega) (by omega) (by omega)) t
      have ta : T (d (x + (m - s))) (d s) := by
        by_cases hx1 : x + (m - s) = c + m - 1 - s
        · rw [hx1]; exact t
        · exact o.tr _ _ _ (s2 (x + (m - s)) (c + m - 1 - s) (by omega) (by omega) (by omega)) t
      by_cases hy1 : y - (e - m) = s
      · rw [hy1]; exact ta
      · exact o.tr _ _ _ ta (s1 s (y - (e - m)) (by omega) (by omega) (by omega))
    · rw [v4 y (by omega) p4]
      exact s2 _ _ (by omega) (by omega) p4
theorem sym_sd (o : Ord ls T E) : ∀ (k : Nat) (d : Nat → α) (a m b : Nat), b - a ≤ k → a < m → m < b → Sd T a m d → Sd T m b d → (∀ x y, a ≤ x → x < m → m ≤ y → y < b → E (d x) (d y)) → Sd T a b (sym ls d a m b)
  | k, d, a, m, b, hk, h1, h2, s1, s2, he => by
    rw [sym_eq]
    by_cases k1 : m - a = 1
    · rw [if_pos k1]
      obtain rfl : m = a + 1 := by omega
      have hr := bs_rng (fun h => ls (d h) (d a)) _ (a + 1) b (Nat.le_refl _) (by omega)
      obtain ⟨c1, c2⟩ := bs_cut (fun h => ls (d h) (d a)) _ (a + 1) b (Nat.le_refl _) (by omega) (by
        intro x y p1 p2 p3 hy
        have ty := o.yes (he a y (by omega) (by omega) (by omega) p3) hy
        exact (o.ag _ _ (he a x (by omega) (by omega) (by omega) (by omega))).2 (o.tr _ _ _ (s2 x y p1 p2 p3) ty))
      generalize bsF (fun h => ls (d h) (d a)) (a + 1) b = i at *
      have A : ∀ z, a + 1 ≤ z → z < i → T (d z) (d a) := fun z p1 p2 => o.yes (he a z (by omega) (by omega) p1 (by omega)) (c1 z p1 p2)
      have B : ∀ z, i ≤ z → z < b → T (d a) (d z) := fun z p1 p2 => o.no (he a z (by omega) (by omega) (by omega) p2) (c2 z p1 p2)
      have C := s2
      unfold Sd at C
      intro x y p1 p2 p3
      dsimp only
      unfold upI
      split <;> split <;> (try split) <;> (try split) <;> first | exact C _ _ (by omega) (by omega) (by omega) | exact A _ (by omega) (by omega) | exact B _ (by omega) (by omega) | (exfalso; omega)
    · rw [if_neg k1]
      by_cases k2 : b - m = 1
      · rw [if_pos k2]
        obtain rfl : b = m + 1 := by omega
        have hr := bs_rng (fun h => !ls (d m) (d h)) _ a m (Nat.le_refl _) (by omega)
        obtain ⟨c1, c2⟩ := bs_cut (fun h => !ls (d m) (d h)) _ a m (Nat.le_refl _) (by omega) (by
          intro x y p1 p2 p3 hy
          try dsimp only at hy ⊢
          have ty := o.no' (he y m (by omega) p3 (by omega) (by omega)) hy
          cases hx : ls (d m) (d x)
          · rfl
          · have tx := o.yes (he x m p1 (by omega) (by omega) (by omega)) hx
            exact absurd (o.tr _ _ _ tx (o.tr _ _ _ (s1 x y p1 p2 p3) ty)) (o.irr _))
        generalize bsF (fun h => !ls (d m) (d h)) a m = i at *
        have A : ∀ z, a ≤ z → z < i → T (d z) (d m) := fun z p1 p2 => o.no' (he z m p1 (by omega) (by omega) (by omega)) (c1 z p1 p2)
        have B : ∀ z, i ≤ z → z < m → T (d m) (d z) := fun z p1 p2 => o.yes' (he z m (by omega) p2 (by omega) (by omega)) (c2 z p1 p2)
        have C := s1
        unfold Sd at C
        intro x y p1 p2 p3
        dsimp only
        unfold dnI
        split <;> split <;> (try split) <;> (try split) <;> first | exact C _ _ (by omega) (by omega) (by omega) | exact A _ (by omega) (by omega) | exact B _ (by omega) (by omega) | (exfalso; omega)
      · rw [if_neg k2]
        cases k with
        | zero => omega
        | succ k =>
          obtain ⟨q1, q2, q3, q4, q5, q6⟩ := enn_rng ls d h1 h2
          obtain ⟨v1, v2, v3, v4⟩ := rotd_val ls d h1 h2
          have hc := cross o d h1 h2 s1 s2 he
          have q7 : enn ls d a m b = mdl a b + m - stt ls d a m b := rfl
          have hm : (a + b) / 2 = mdl a b := rfl
          have hml : mdl a b < b := by unfold mdl; omega
          have hml2 : a < mdl a b := by unfold mdl; omega
          rw [hm]
          generalize rotd ls d a m b = r at *
          generalize stt ls d a m b = s at *
          generalize enn ls d a m b = e at *
          generalize mdl a b = c at *
          have r1 : Sd T a s r := fun x y p1 p2 p3 => by rw [v1 x p1 (by omega), v1 y (by omega) p3]; exact s1 x y p1 p2 (by omega)
          have r2 : Sd T s c r := fun x y p1 p2 p3 => by rw [v2 x p1 (by omega), v2 y (by omega) p3]; exact s2 _ _ (by omega) (by omega) (by omega)
          have r3 : Sd T c e r := fun x y p1 p2 p3 => by rw [v3 x p1 (by omega), v3 y (by omega) p3]; exact s1 _ _ (by omega) (by omega) (by omega)
          have r4 : Sd T e b r := fun x y p1 p2 p3 => by rw [v4 x p1 (by omega), v4 y (by omega) p3]; exact s2 _ _ (by omega) (by omega) (by omega)
          have d2 : ∃ f, (if a < s ∧ s < c then sym ls r a s c else r) = f ∧ Sd T a c f ∧ Same a c r f := by
            refine ⟨_, rfl, ?_⟩
            split
            · rename_i cc
              refine ⟨sym_sd o k r a s c (by omega) cc.1 cc.2 r1 r2 (fun x y p1 p2 p3 p4 => ?_), same_sym ls _ r a s c (Nat.le_refl _) cc.1 cc.2⟩
              rw [v1 x p1 p2, v2 y p3 p4]
              exact he _ _ p1 (by omega) (by omega) (by omega)
            · rename_i cc
              refine ⟨?_, .refl _ _ _⟩
              by_cases ca : a < s
              · have : s = c := by omega
                rw [← this]; exact r1
              · have : s = a := by omega
                rw [← this]; exact r2
          dsimp only
          obtain ⟨f, ef, f1, f2⟩ := d2
          rw [ef]
          have fo : ∀ x, c ≤ x → f x = r x := fun x p1 => f2.out x (by omega)
          have r3' : Sd T c e f := fun x y p1 p2 p3 => by rw [fo x p1, fo y (by omega)]; exact r3 x y p1 p2 p3
          have r4' : Sd T e b f := fun x y p1 p2 p3 => by rw [fo x (by omega), fo y (by omega)]; exact r4 x y p1 p2 p3
          have d3 : ∃ g, (if c < e ∧ e < b then sym ls f c e b else f) = g ∧ Sd T c b g ∧ Same c b f g := by
            refine ⟨_, rfl, ?_⟩
            split
            · rename_i cc
              refine ⟨sym_sd o k f c e b (by omega) cc.1 cc.2 r3' r4' (fun x y p1 p2 p3 p4 => ?_), same_sym ls _ f c e b (Nat.le_refl _) cc.1 cc.2⟩
              rw [fo x p1, fo y (by omega), v3 x p1 p2, v4 y p3 p4]
              exact he _ _ (by omega) (by omega) (by omega) p4
            · rename_i cc
              refine ⟨?_, .refl _ _ _⟩
              by_cases ca : c < e
              · have : e = b := by omega
                rw [← this]; exact r3'
              · have : e = c := by omega
                rw [← this]; exact r4'
          obtain ⟨g, eg, g1, g2⟩ := d3
          rw [eg]
          intro x y p1 p2 p3
          by_cases hy : y < c
          · rw [g2.out x (by omega), g2.out y (by omega)]; exact f1 x y p1 p2 hy
          · by_cases hx : c ≤ x
            · exact g1 x y hx p2 p3
            · rw [g2.out x (by omega)]
              obtain ⟨x', t1, t2, t3⟩ := f2.to x p1 (by omega)
              obtain ⟨y', u1, u2, u3⟩ := g2.to y (by omega) p3
              rw [t3, u3, fo y' u1]
              exact hc x' y' t1 t2 u1 u2
/-! ### Blocks -/
structure Bk (T : α → α → Prop) (s n q : Nat) (d e : Nat → α) : Prop where
  sd : ∀ i j, s * q ≤ i → i < j → j < s * q + s → j < n → T (e i) (e j)
  fr : ∀ k, s * q ≤ k → k < s * q + s → k < n → ∃ k', s * q ≤ k' ∧ k' < s * q + s ∧ k' < n ∧ e k = d k'
theorem Bk.cong {s n q : Nat} {d e f : Nat → α} (h : Bk T s n q d e) (hf : ∀ k, s * q ≤ k → k < s * q + s → k < n → f k = e k) : Bk T s n q d f :=
  ⟨fun i j h1 h2 h3 h4 => by rw [hf i h1 (by omega) (by omega), hf j (by omega) h3 h4]; exact h.sd i j h1 h2 h3 h4, fun k h1 h2 h3 => by rw [hf k h1 h2 h3]; exact h.fr k h1 h2 h3⟩
theorem Bk.out {s n q : Nat} {d e : Nat → α} (h : n ≤ s * q) : Bk T s n q d e := ⟨fun i j h1 h2 h3 h4 => by omega, fun k h1 h2 h3 => by omega⟩
theorem Bk.of {s n q a b : Nat} {d e f : Nat → α} (ha : a = s * q) (hb : b = s * q + s ∨ (b = n ∧ n ≤ s * q + s)) (hbn : b ≤ n) (h1 : Sd T a b f) (h2 : Same a b e f) (h3 : ∀ k, s * q ≤ k → k < s * q + s → k < n → ∃ k', s * q ≤ k' ∧ k' < s * q + s ∧ k' < n ∧ e k = d k') : Bk T s n q d f := by
  refine ⟨fun i j p1 p2 p3 p4 => h1 i j (by omega) p2 (by omega), fun k p1 p2 p3 => ?_⟩
  obtain ⟨k', q1, q2, q3⟩ := h2.to k (by omega) (by omega)
  rw [q3]
  exact h3 k' (by omega) (by omega) (by omega)
theorem stP_bk (o : Ord ls T E) {n : Nat} {d : Nat → α} (he : ∀ x y, x < y → y < n → E (d x) (d y)) : ∀ (k a q0 : Nat) (e : Nat → α), n - a ≤ k → a = 20 * q0 → (∀ q, q < q0 → Bk T 20 n q d e) → (∀ x, a ≤ x → e x = d x) → ∀ q, Bk T 20 n q d (stP ls n a e)
  | k, a, q0, e, hk, ha, hb, hd => by
    rw [stP]
    by_cases c : a + 20 ≤ n
    · rw [if_pos c]
      cases k with
      | zero => omega
      | succ k =>
        have sm := same_insS ls (a := a) (b := a + 20) e
        have sd := insS_sd o (a := a) (b := a + 20) e (fun x y h1 h2 h3 => by rw [hd x h1, hd y (by omega)]; exact he x y h2 (by omega))
        refine stP_bk o he k (a + 20) (q0 + 1) _ (by omega) (by omega) (fun q hq => ?_) (fun x hx => (sm.out x (by omega)).trans (hd x (by omega)))
        by_cases hq0 : q = q0
        · subst hq0
          exact Bk.of ha (.inl (by omega)) c sd sm (fun k h1 h2 h3 => ⟨k, h1, h2, h3, hd k (by omega)⟩)
        · exact (hb q (by omega)).cong fun k h1 h2 h3 => sm.out k (by omega)
    · rw [if_neg c]
      intro q
      have sm := same_insS ls (a := a) (b := n) e
      have sd := insS_sd o (a := a) (b := n) e (fun x y h1 h2 h3 => by rw [hd x h1, hd y (by omega)]; exact he x y h2 h3)
      by_cases hq0 : q = q0
      · subst hq0
        exact Bk.of ha (.inr ⟨rfl, by omega⟩) (Nat.le_refl _) sd sm (fun k h1 h2 h3 => ⟨k, h1, h2, h3, hd k (by omega)⟩)
      · by_cases hlt : q < q0
        · exact (hb q hlt).cong fun k h1 h2 h3 => sm.out k (by omega)
        · exact .out (by omega)
theorem mul2 (s q : Nat) : 2 * s * q = s * (2 * q) := by rw [Nat.mul_comm 2 s, Nat.mul_assoc]
theorem mulS (s q : Nat) : s * (2 * q + 1) = s * (2 * q) + s := by rw [Nat.mul_add, Nat.mul_one]
theorem mul2S (s q : Nat) : 2 * s * (q + 1) = 2 * s * q + 2 * s := by rw [Nat.mul_add, Nat.mul_one]
theorem stM_bk (o : Ord ls T E) {n s : Nat} (hs : 0 < s) {d : Nat → α} (he : ∀ x y, x < y → y < n → E (d x) (d y)) : ∀ (k a q0 : Nat) (e : Nat → α), n - a ≤ k → a = 2 * s * q0 → (∀ q, q < q0 → Bk T (2 * s) n q d e) → (∀ q, 2 * q0 ≤ q → Bk T s n q d e) → ∀ q, Bk T (2 * s) n q d (stM ls n s a e)
  | k, a, q0, e, hk, ha, hb, hd => by
    have x0 := hd (2 * q0) (Nat.le_refl _)
    have x1 := hd (2 * q0 + 1) (by omega)
    have m1 := mul2 s q0
    have m2 := mulS s q0
    have fr2 : ∀ k, 2 * s * q0 ≤ k → k < 2 * s * q0 + 2 * s → k < n → ∃ k', 2 * s * q0 ≤ k' ∧ k' < 2 * s * q0 + 2 * s ∧ k' < n ∧ e k = d k' := by
      intro k h1 h2 h3
      by_cases c : k < s * (2 * q0) + s
      · obtain ⟨k', p1, p2, p3, p4⟩ := x0.fr k (by omega) c h3
        exact ⟨k', by omega, by omega, p3, p4⟩
      · obtain ⟨k', p1, p2, p3, p4⟩ := x1.fr k (by omega) (by omega) h3
        exact ⟨k', by omega, by omega, p3, p4⟩
    have lo : ∀ q, q < q0 → 2 * s * q + 2 * s ≤ a := by
      intro q hq
      have := Nat.mul_le_mul_left (2 * s) (show q + 1 ≤ q0 by omega)
      rw [mul2S] at this; omega
    have hi : ∀ q, q0 < q → a + 2 * s ≤ 2 * s * q := by
      intro q hq
      have := Nat.mul_le_mul_left (2 * s) (show q0 + 1 ≤ q by omega)
      rw [mul2S] at this; omega
    have mrg : ∀ b, a + s < b → b ≤ a + 2 * s → b ≤ n → Sd T a b (sym ls e a (a + s) b) ∧ Same a b e (sym ls e a (a + s) b) := by
      intro b h1 h2 h3
      refine ⟨sym_sd o _ e a (a + s) b (Nat.le_refl _) (by omega) h1 (fun i j p1 p2 p3 => x0.sd i j (by omega) p2 (by omega) (by omega)) (fun i j p1 p2 p3 => x1.sd i j (by omega) p2 (by omega) (by omega)) (fun x y p1 p2 p3 p4 => ?_), same_sym ls _ e a (a + s) b (Nat.le_refl _) (by omega) h1⟩
      obtain ⟨x', t1, t2, t3, t4⟩ := x0.fr x (by omega) (by omega) (by omega)
      obtain ⟨y', u1, u2, u3, u4⟩ := x1.fr y (by omega) (by omega) (by omega)
      rw [t4, u4]
      exact he x' y' (by omega) u3
    rw [stM]
    by_cases c : 0 < s ∧ a + 2 * s ≤ n
    · rw [dif_pos c]
      cases k with
      | zero => omega
      | succ k =>
        obtain ⟨sd, sm⟩ := mrg (a + 2 * s) (by omega) (Nat.le_refl _) c.2
        refine stM_bk o hs he k (a + 2 * s) (q0 + 1) _ (by omega) (by rw [mul2S]; omega) (fun q hq => ?_) (fun q hq => ?_)
        · by_cases hq0 : q = q0
          · subst hq0
            exact Bk.of ha (.inl (by omega)) c.2 sd sm fr2
          · have := lo q (by omega)
            exact (hb q (by omega)).cong fun k h1 h2 h3 => sm.out k (by omega)
        · have := Nat.mul_le_mul_left s hq
          rw [show 2 * (q0 + 1) = 2 * q0 + 1 + 1 by omega, Nat.mul_add, Nat.mul_one] at this
          exact (hd q (by omega)).cong fun k h1 h2 h3 => sm.out k (by omega)
    · rw [dif_neg c]
      intro q
      have hlt : n < a + 2 * s := by omega
      by_cases c2 : a + s < n
      · rw [if_pos c2]
        obtain ⟨sd, sm⟩ := mrg n c2 (by omega) (Nat.le_refl _)
        by_cases hq0 : q = q0
        · subst hq0
          exact Bk.of ha (.inr ⟨rfl, by omega⟩) (Nat.le_refl _) sd sm fr2
        · by_cases hl : q < q0
          · have := lo q hl
            exact (hb q hl).cong fun k h1 h2 h3 => sm.out k (by omega)
          · have := hi q (by omega)
            exact .out (by omega)
      · rw [if_neg c2]
        by_cases hq0 : q = q0
        · subst hq0
          exact ⟨fun i j p1 p2 p3 p4 => x0.sd i j (by omega) p2 (by omega) p4, fr2⟩
        · by_cases hl : q < q0
          · exact hb q hl
          · have := hi q (by omega)
            exact .out (by omega)
theorem stL_sd (o : Ord ls T E) {n : Nat} {d : Nat → α} (he : ∀ x y, x < y → y < n → E (d x) (d y)) : ∀ (k s : Nat) (e : Nat → α), n - s ≤ k → 0 < s → (∀ q, Bk T s n q d e) → Sd T 0 n (stL ls n s e)
  | k, s, e, hk, hs, hb => by
    rw [stL]
    by_cases c : 0 < s ∧ s < n
    · rw [dif_pos c]
      cases k with
      | zero => omega
      | succ k => exact stL_sd o he k (2 * s) _ (by omega) (by omega) (stM_bk o hs he _ 0 0 e (Nat.le_refl _) (by simp) (fun q hq => by omega) (fun q _ => hb q))
    · rw [dif_neg c]
      intro i j h1 h2 h3
      exact (hb 0).sd i j (by simp) h2 (by simp; omega) h3
theorem stab_sd (o : Ord ls T E) {n : Nat} {d : Nat → α} (he : ∀ x y, x < y → y < n → E (d x) (d y)) : Sd T 0 n (stab ls n d) :=
  stL_sd o he _ 20 _ (Nat.le_refl _) (by omega) (stP_bk o he _ 0 0 d (Nat.le_refl _) rfl (fun q hq => by omega) (fun _ _ => rfl))
theorem same_stP (ls : α → α → Bool) {n : Nat} : ∀ (k a : Nat) (e : Nat → α), n - a ≤ k → Same 0 n e (stP ls n a e)
  | k, a, e, hk => by
    rw [stP]
    by_cases c : a + 20 ≤ n
    · rw [if_pos c]
      cases k with
      | zero => omega
      | succ k => exact ((same_insS ls e).wide (Nat.zero_le _) c).trans (same_stP ls k _ _ (by omega))
    · rw [if_neg c]; exact (same_insS ls e).wide (Nat.zero_le _) (Nat.le_refl _)
theorem same_stM (ls : α → α → Bool) {n s : Nat} (hs : 0 < s) : ∀ (k a : Nat) (e : Nat → α), n - a ≤ k → Same 0 n e (stM ls n s a e)
  | k, a, e, hk => by
    rw [stM]
    by_cases c : 0 < s ∧ a + 2 * s ≤ n
    · rw [dif_pos c]
      cases k with
      | zero => omega
      | succ k => exact ((same_sym ls _ e _ _ _ (Nat.le_refl _) (by omega) (by omega)).wide (Nat.zero_le _) c.2).trans (same_stM ls hs k _ _ (by omega))
    · rw [dif_neg c]
      split
      · exact (same_sym ls _ e _ _ _ (Nat.le_refl _) (by omega) (by omega)).wide (Nat.zero_le _) (Nat.le_refl _)
      · exact .refl _ _ _
theorem same_stL (ls : α → α → Bool) {n : Nat} : ∀ (k s : Nat) (e : Nat → α), n - s ≤ k → 0 < s → Same 0 n e (stL ls n s e)
  | k, s, e, hk, hs => by
    rw [stL]
    by_cases c : 0 < s ∧ s < n
    · rw [dif_pos c]
      cases k with
      | zero => omega
      | succ k => exact (same_stM ls hs _ 0 e (Nat.le_refl _)).trans (same_stL ls k _ _ (by omega) (by omega))
    · rw [dif_neg c]; exact .refl _ _ _
theorem same_stab (ls : α → α → Bool) (n : Nat) (d : Nat → α) : Same 0 n d (stab ls n d) := (same_stP ls _ 0 d (Nat.le_refl _)).trans (same_stL ls _ 20 _ (Nat.le_refl _) (by omega))
end Go.Ev.So

namespace Go.Ev.So
variable {α : Type}
/-! ## The loops of the sort, round by round -/
theorem sw_up {x y i : Nat} (h : x + (i + 1) ≤ y ∨ y + (i + 1) ≤ x) (z : Nat) : swI x y i (swpI (x + i) (y + i) z) = swI x y (i + 1) z := by
  unfold swI swpI; (repeat' split) <;> omega
theorem sw_0 (x y z : Nat) : swI x y 0 z = z := by unfold swI; (repeat' split) <;> omega
theorem up_0 (a z : Nat) : upI a a z = z := by unfold upI; (repeat' split) <;> omega
theorem up_up {a k : Nat} (h : a ≤ k) (z : Nat) : upI a k (swpI k (k + 1) z) = upI a (k + 1) z := by unfold upI swpI; (repeat' split) <;> omega
theorem dn_0 (m z : Nat) : dnI m m z = z := by unfold dnI; (repeat' split) <;> omega
theorem dn_dn {k m : Nat} (h : k + 1 ≤ m) (z : Nat) : dnI (k + 1) m (swpI (k + 1) k z) = dnI k m z := by unfold dnI swpI; (repeat' split) <;> omega
theorem rot_1 {m i j : Nat} (h1 : j < i) (h2 : i ≤ m) (h3 : 0 < j) (z : Nat) : swI (m - i) m j (rotI (m - (i - j)) m (m + j) z) = rotI (m - i) m (m + j) z := by
  unfold swI rotI; (repeat' split) <;> omega
theorem rot_2 {m i j : Nat} (h1 : i < j) (h2 : i ≤ m) (h3 : 0 < i) (z : Nat) : swI (m - i) (m + j - i) i (rotI (m - i) m (m + (j - i)) z) = rotI (m - i) m (m + j) z := by
  unfold swI rotI; (repeat' split) <;> omega
theorem rot_3 {m i : Nat} (h2 : i ≤ m) (z : Nat) : swI (m - i) m i z = rotI (m - i) m (m + i) z := by
  unfold swI rotI; (repeat' split) <;> omega
end Go.Ev.So

namespace Go.Ev.So
section
variable {α β : Type} (φ : α → β) (ls : β → β → Bool)
def pull : α → α → Bool := fun x y => ls (φ x) (φ y)
def img (d : Nat → α) : Nat → β := fun k => φ (d k)
theorem insD_nat (a : Nat) : ∀ (j : Nat) (d : Nat → α), insD ls a j (img φ d) = img φ (insD (pull φ ls) a j d)
  | 0, d => rfl
  | j + 1, d => by
    show (bif decide (a < j + 1) && ls (φ (d (j + 1))) (φ (d j)) then insD ls a j (img φ (swp d (j + 1) j)) else img φ d) = img φ (bif decide (a < j + 1) && ls (φ (d (j + 1))) (φ (d j)) then insD (pull φ ls) a j (swp d (j + 1) j) else d)
    cases decide (a < j + 1) && ls (φ (d (j + 1))) (φ (d j))
    · rfl
    · exact insD_nat a j (swp d (j + 1) j)
theorem insR_nat (a : Nat) : ∀ (k : Nat) (d : Nat → α), insR ls a k (img φ d) = img φ (insR (pull φ ls) a k d)
  | 0, d => rfl
  | k + 1, d => by
    show insD ls a (a + 1 + k) (insR ls a k (img φ d)) = img φ (insD (pull φ ls) a (a + 1 + k) (insR (pull φ ls) a k d))
    rw [insR_nat a k d, insD_nat]
theorem insS_nat (a b : Nat) (d : Nat → α) : insS ls a b (img φ d) = img φ (insS (pull φ ls) a b d) := insR_nat φ ls a _ d
theorem rotd_nat (d : Nat → α) (a m b : Nat) : rotd ls (img φ d) a m b = img φ (rotd (pull φ ls) d a m b) := by
  unfold rotd
  show (if stt (pull φ ls) d a m b < m ∧ m < enn (pull φ ls) d a m b then _ else _) = _
  split <;> rfl
theorem sym_nat : ∀ (k : Nat) (d : Nat → α) (a m b : Nat), b - a ≤ k → sym ls (img φ d) a m b = img φ (sym (pull φ ls) d a m b)
  | k, d, a, m, b, hk => by
    rw [sym_eq ls (img φ d) a m b, sym_eq (pull φ ls) d a m b]
    by_cases c1 : m - a = 1
    · rw [if_pos c1, if_pos c1]; rfl
    · rw [if_neg c1, if_neg c1]
      by_cases c2 : b - m = 1
      · rw [if_pos c2, if_pos c2]; rfl
      · rw [if_neg c2, if_neg c2]
        show (if (a + b) / 2 < enn (pull φ ls) d a m b ∧ enn (pull φ ls) d a m b < b then sym ls (if a < stt (pull φ ls) d a m b ∧ stt (pull φ ls) d a m b < (a + b) / 2 then sym ls (rotd ls (img φ d) a m b) a (stt (pull φ ls) d a m b) ((a + b) / 2) else rotd ls (img φ d) a m b) ((a + b) / 2) (enn (pull φ ls) d a m b) b else (if a < stt (pull φ ls) d a m b ∧ stt (pull φ ls) d a m b < (a + b) / 2 then sym ls (rotd ls (img φ d) a m b) a (stt (pull φ ls) d a m b) ((a + b) / 2) else rotd ls (img φ d) a m b)) = img φ (if (a + b) / 2 < enn (pull φ ls) d a m b ∧ enn (pull φ ls) d a m b < b then sym (pull φ ls) (if a < stt (pull φ ls) d a m b ∧ stt (pull φ ls) d a m b < (a + b) / 2 then sym (pull φ ls) (rotd (pull φ ls) d a m b) a (stt (pull φ ls) d a m b) ((a + b) / 2) else rotd (pull φ ls) d a m b) ((a + b) / 2) (enn (pull φ ls) d a m b) b else (if a < stt (pull φ ls) d a m b ∧ stt (pull φ ls) d a m b < (a + b) / 2 then sym (pull φ ls) (rotd (pull φ ls) d a m b) a (stt (pull φ ls) d a m b) ((a + b) / 2) else rotd (pull φ ls) d a m b))
        generalize enn (pull φ ls) d a m b = en
        generalize stt (pull φ ls) d a m b = st
        rw [rotd_nat]
        have h1 : (if a < st ∧ st < (a + b) / 2 then sym ls (img φ (rotd (pull φ ls) d a m b)) a st ((a + b) / 2) else img φ (rotd (pull φ ls) d a m b)) = img φ (if a < st ∧ st < (a + b) / 2 then sym (pull φ ls) (rotd (pull φ ls) d a m b) a st ((a + b) / 2) else rotd (pull φ ls) d a m b) := by
          split
          · rename_i c
            cases k with
            | zero => omega
            | succ k => exact sym_nat k _ _ _ _ (by omega)
          · rfl
        rw [h1]
        split
        · rename_i c
          cases k with
          | zero => omega
          | succ k => exact sym_nat k _ _ _ _ (by omega)
        · rfl
theorem stP_nat (n : Nat) : ∀ (k a : Nat) (d : Nat → α), n - a ≤ k → stP ls n a (img φ d) = img φ (stP (pull φ ls) n a d)
  | k, a, d, hk => by
    rw [stP.eq_def ls n a (img φ d), stP.eq_def (pull φ ls) n a d]
    by_cases c : a + 20 ≤ n
    · rw [if_pos c, if_pos c, insS_nat]
      cases k with
      | zero => omega
      | succ k => exact stP_nat n k _ _ (by omega)
    · rw [if_neg c, if_neg c, insS_nat]
theorem stM_nat (n s : Nat) : ∀ (k a : Nat) (d : Nat → α), n - a ≤ k → stM ls n s a (img φ d) = img φ (stM (pull φ ls) n s a d)
  | k, a, d, hk => by
    rw [stM.eq_def ls n s a (img φ d), stM.eq_def (pull φ ls) n s a d]
    by_cases c : 0 < s ∧ a + 2 * s ≤ n
    · rw [dif_pos c, dif_pos c, sym_nat φ ls _ _ _ _ _ (Nat.le_refl _)]
      cases k with
      | zero => omega
      | succ k => exact stM_nat n s k _ _ (by omega)
    · rw [dif_neg c, dif_neg c]
      split
      · exact sym_nat φ ls _ _ _ _ _ (Nat.le_refl _)
      · rfl
theorem stL_nat (n : Nat) : ∀ (k s : Nat) (d : Nat → α), n - s ≤ k → stL ls n s (img φ d) = img φ (stL (pull φ ls) n s d)
  | k, s, d, hk => by
    rw [stL.eq_def ls n s (img φ d), stL.eq_def (pull φ ls) n s d]
    by_cases c : 0 < s ∧ s < n
    · rw [dif_pos c, dif_pos c, stM_nat φ ls _ _ _ _ _ (Nat.le_refl _)]
      cases k with
      | zero => omega
      | succ k => exact stL_nat n k _ _ (by omega)
    · rw [dif_neg c, dif_neg c]
theorem stab_nat (n : Nat) (d : Nat → α) : stab ls n (img φ d) = img φ (stab (pull φ ls) n d) := by
  unfold stab
  rw [stP_nat φ ls n _ _ _ (Nat.le_refl _), stL_nat φ ls n _ _ _ (Nat.le_refl _)]
end
section
variable {α : Type} {T : α → α → Prop}
/-- One order, one row, and so many. -/
theorem uniq2 (irr : ∀ x, ¬ T x x) (tr : ∀ x y z, T x y → T y z → T x z) {n m : Nat} {e f : Nat → α} (he : Sd T 0 n e) (hf : Sd T 0 m f) (h1 : ∀ k, k < n → ∃ k', k' < m ∧ e k = f k') (h2 : ∀ k, k < m → ∃ k', k' < n ∧ f k = e k') : n = m ∧ ∀ k, k < n → e k = f k := by
  have key : ∀ k, k < n → k < m ∧ e k = f k := by
    intro k
    induction k using Nat.strongRecOn with
    | ind k ih =>
      intro hk
      obtain ⟨a, ha, ea⟩ := h1 k hk
      have ka : k ≤ a := by
        rcases Nat.lt_or_ge a k with c | c
        · have := (ih a c (by omega)).2
          have t := he a k (Nat.zero_le _) c hk
          rw [ea, this] at t
          exact absurd t (irr _)
        · exact c
      have hkm : k < m := by omega
      obtain ⟨b, hb, eb⟩ := h2 k hkm
      have kb : k ≤ b := by
        rcases Nat.lt_or_ge b k with c | c
        · have := (ih b c (by omega)).2
          have t := hf b k (Nat.zero_le _) c hkm
          rw [eb, ← this] at t
          exact absurd t (irr _)
        · exact c
      refine ⟨hkm, ?_⟩
      by_cases ca : a = k
      · rw [ea, ca]
      · by_cases cb : b = k
        · rw [eb, cb]
        · have t1 := hf k a (Nat.zero_le _) (by omega) ha
          have t2 := he k b (Nat.zero_le _) (by omega) hb
          rw [← ea, eb] at t1
          exact absurd (tr _ _ _ t1 t2) (irr _)
  have hnm : n = m := by
    rcases Nat.lt_trichotomy n m with h | h | h
    · obtain ⟨b, hb, eb⟩ := h2 n h
      have t := hf b n (Nat.zero_le _) hb h
      rw [eb, (key b hb).2] at t
      exact absurd t (irr _)
    · exact h
    · obtain ⟨q, _⟩ := key m h
      omega
  exact ⟨hnm, fun k hk => (key k hk).2⟩
end
end Go.Ev.So
