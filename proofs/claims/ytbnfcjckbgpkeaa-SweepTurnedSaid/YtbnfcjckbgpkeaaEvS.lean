/-
  The stable sort of the library slices (blocks of 20, merged by turning) in plain words, and that it sorts; for every order and every length.
-/
import Derived.Test.YtbnfcjckbgpkeaaEvL
import Derived.Shelf.SlSortCmp.NoneTotal
set_option linter.unusedSimpArgs false
set_option linter.unusedVariables false
namespace Go.Ev.So
variable {α : Type}
def swpI (i j : Nat) : Nat → Nat := fun k => if k = j then i else if k = i then j else k
def swp (d : Nat → α) (i j : Nat) : Nat → α := fun k => d (swpI i j k)
def insD (ls : α → α → Bool) (a : Nat) : Nat → (Nat → α) → Nat → α
  | 0, d => d
  | j + 1, d => bif decide (a < j + 1) && ls (d (j + 1)) (d j) then insD ls a j (swp d (j + 1) j) else d
def insR (ls : α → α → Bool) (a : Nat) : Nat → (Nat → α) → Nat → α
  | 0, d => d
  | k + 1, d => insD ls a (a + 1 + k) (insR ls a k d)
def insS (ls : α → α → Bool) (a b : Nat) (d : Nat → α) : Nat → α := insR ls a (b - (a + 1)) d
def bsF (p : Nat → Bool) (i j : Nat) : Nat :=
  if i < j then bif p ((i + j) / 2) then bsF p ((i + j) / 2 + 1) j else bsF p i ((i + j) / 2) else i
termination_by j - i
def upI (a t : Nat) : Nat → Nat := fun x => if a ≤ x ∧ x < t then x + 1 else if x = t then a else x
def dnI (i m : Nat) : Nat → Nat := fun x => if x = i then m else if i < x ∧ x ≤ m then x - 1 else x
def rotI (a m b : Nat) : Nat → Nat := fun k => if a ≤ k ∧ k < b then (if k < a + (b - m) then k + (m - a) else k - (b - m)) else k
def swI (x y n : Nat) : Nat → Nat := fun k => if x ≤ k ∧ k < x + n then k - x + y else if y ≤ k ∧ k < y + n then k - y + x else k
def mdl (a b : Nat) : Nat := (a + b) / 2
def sS (a m b : Nat) : Nat := if mdl a b < m then mdl a b + m - b else a
def sR (a m b : Nat) : Nat := if mdl a b < m then mdl a b else m
def stt (ls : α → α → Bool) (d : Nat → α) (a m b : Nat) : Nat := bsF (fun c => !ls (d (mdl a b + m - 1 - c)) (d c)) (sS a m b) (sR a m b)
def enn (ls : α → α → Bool) (d : Nat → α) (a m b : Nat) : Nat := mdl a b + m - stt ls d a m b
def rotd (ls : α → α → Bool) (d : Nat → α) (a m b : Nat) : Nat → α :=
  if stt ls d a m b < m ∧ m < enn ls d a m b then fun x => d (rotI (stt ls d a m b) m (enn ls d a m b) x) else d
def sym (ls : α → α → Bool) (d : Nat → α) (a m b : Nat) : Nat → α :=
  if m - a = 1 then fun x => d (upI a (bsF (fun h => ls (d h) (d a)) m b - 1) x)
  else if b - m = 1 then fun x => d (dnI (bsF (fun h => !ls (d m) (d h)) a m) m x)
  else
    let d2 := if _h : a < stt ls d a m b ∧ stt ls d a m b < (a + b) / 2 then sym ls (rotd ls d a m b) a (stt ls d a m b) ((a + b) / 2) else rotd ls d a m b
    if _h : (a + b) / 2 < enn ls d a m b ∧ enn ls d a m b < b then sym ls d2 ((a + b) / 2) (enn ls d a m b) b else d2
termination_by b - a
def stP (ls : α → α → Bool) (n a : Nat) (d : Nat → α) : Nat → α :=
  if a + 20 ≤ n then stP ls n (a + 20) (insS ls a (a + 20) d) else insS ls a n d
termination_by n - a
def stM (ls : α → α → Bool) (n s a : Nat) (d : Nat → α) : Nat → α :=
  if _h : 0 < s ∧ a + 2 * s ≤ n then stM ls n s (a + 2 * s) (sym ls d a (a + s) (a + 2 * s)) else if a + s < n then sym ls d a (a + s) n else d
termination_by n - a
def stL (ls : α → α → Bool) (n s : Nat) (d : Nat → α) : Nat → α :=
  if _h : 0 < s ∧ s < n then stL ls n (2 * s) (stM ls n s 0 d) else d
termination_by n - s
def stab (ls : α → α → Bool) (n : Nat) (d : Nat → α) : Nat → α := stL ls n 20 (stP ls n 0 d)
/-! ### The same things, in another order -/
structure Same (a b : Nat) (d e : Nat → α) : Prop where
  to : ∀ k, a ≤ k → k < b → ∃ k', a ≤ k' ∧ k' < b ∧ e k = d k'
  of : ∀ k, a ≤ k → k < b → ∃ k', a ≤ k' ∧ k' < b ∧ d k = e k'
  out : ∀ k, ¬ (a ≤ k ∧ k < b) → e k = d k
theorem Same.refl (a b : Nat) (d : Nat → α) : Same a b d d := ⟨fun k h1 h2 => ⟨k, h1, h2, rfl⟩, fun k h1 h2 => ⟨k, h1, h2, rfl⟩, fun _ _ => rfl⟩
theorem Same.trans {a b : Nat} {d e f : Nat → α} (h : Same a b d e) (g : Same a b e f) : Same a b d f := by
  refine ⟨fun k h1 h2 => ?_, fun k h1 h2 => ?_, fun k hk => (g.out k hk).trans (h.out k hk)⟩
  · obtain ⟨k1, q1, q2, q3⟩ := g.to k h1 h2
    obtain ⟨k2, p1, p2, p3⟩ := h.to k1 q1 q2
    exact ⟨k2, p1, p2, q3.trans p3⟩
  · obtain ⟨k1, q1, q2, q3⟩ := h.of k h1 h2
    obtain ⟨k2, p1, p2, p3⟩ := g.of k1 q1 q2
    exact ⟨k2, p1, p2, q3.trans p3⟩
theorem Same.wide {a b a' b' : Nat} {d e : Nat → α} (h : Same a b d e) (h1 : a' ≤ a) (h2 : b ≤ b') : Same a' b' d e := by
  refine ⟨fun k q1 q2 => ?_, fun k q1 q2 => ?_, fun k hk => h.out k (by omega)⟩
  · by_cases c : a ≤ k ∧ k < b
    · obtain ⟨k', p1, p2, p3⟩ := h.to k c.1 c.2
      exact ⟨k', by omega, by omega, p3⟩
    · exact ⟨k, q1, q2, h.out k c⟩
  · by_cases c : a ≤ k ∧ k < b
    · obtain ⟨k', p1, p2, p3⟩ := h.of k c.1 c.2
      exact ⟨k', by omega, by omega, p3⟩
    · exact ⟨k, q1, q2, (h.out k c).symm⟩
theorem Same.all {a b : Nat} {d e : Nat → α} (h : Same a b d e) {P : α → Prop} (hd : ∀ k, a ≤ k → k < b → P (d k)) : ∀ k, a ≤ k → k < b → P (e k) := fun k h1 h2 => by
  obtain ⟨k', q1, q2, q3⟩ := h.to k h1 h2
  rw [q3]; exact hd k' q1 q2
theorem Same.idx {a b : Nat} {d : Nat → α} (σ τ : Nat → Nat) (h1 : ∀ k, a ≤ k → k < b → a ≤ σ k ∧ σ k < b) (h2 : ∀ k, a ≤ k → k < b → a ≤ τ k ∧ τ k < b ∧ σ (τ k) = k) (h3 : ∀ k, ¬ (a ≤ k ∧ k < b) → σ k = k) : Same a b d (fun x => d (σ x)) :=
  ⟨fun k q1 q2 => ⟨σ k, (h1 k q1 q2).1, (h1 k q1 q2).2, rfl⟩, fun k q1 q2 => ⟨τ k, (h2 k q1 q2).1, (h2 k q1 q2).2.1, by rw [(h2 k q1 q2).2.2]⟩, fun k hk => by rw [h3 k hk]⟩
theorem same_swp {a b i j : Nat} (d : Nat → α) (h1 : a ≤ i ∧ i < b) (h2 : a ≤ j ∧ j < b) : Same a b d (swp d i j) :=
  Same.idx (swpI i j) (swpI i j) (fun k _ _ => by unfold swpI; (repeat' split) <;> omega) (fun k _ _ => by unfold swpI; refine ⟨?_, ?_, ?_⟩ <;> (repeat' split) <;> omega) (fun k hk => by unfold swpI; (repeat' split) <;> omega)
theorem same_insD (ls : α → α → Bool) {a b : Nat} : ∀ (j : Nat) (d : Nat → α), j < b → Same a b d (insD ls a j d)
  | 0, d, _ => .refl _ _ _
  | j + 1, d, h => by
    unfold insD
    cases hc : decide (a < j + 1) && ls (d (j + 1)) (d j)
    · exact .refl _ _ _
    · simp only [Bool.and_eq_true, decide_eq_true_eq] at hc
      exact (same_swp d ⟨by omega, by omega⟩ ⟨by omega, by omega⟩).trans (same_insD ls j _ (by omega))
theorem same_insR (ls : α → α → Bool) {a b : Nat} : ∀ (k : Nat) (d : Nat → α), a + k < b → Same a b d (insR ls a k d)
  | 0, d, _ => .refl _ _ _
  | k + 1, d, h => (same_insR ls k d (by omega)).trans (same_insD ls _ _ (by omega))
theorem same_insS (ls : α → α → Bool) {a b : Nat} (d : Nat → α) : Same a b d (insS ls a b d) := by
  unfold insS
  by_cases h : a < b
  · exact same_insR ls _ d (by omega)
  · rw [show b - (a + 1) = 0 by omega]; exact .refl _ _ _
theorem bsF_eq (p : Nat → Bool) (i j : Nat) : bsF p i j = if i < j then bif p ((i + j) / 2) then bsF p ((i + j) / 2 + 1) j else bsF p i ((i + j) / 2) else i := by rw [bsF]
theorem bs_rng (p : Nat → Bool) : ∀ (k i j : Nat), j - i ≤ k → i ≤ j → i ≤ bsF p i j ∧ bsF p i j ≤ j
  | k, i, j, h, hij => by
    rw [bsF_eq]
    by_cases c : i < j
    · rw [if_pos c]
      cases k with
      | zero => omega
      | succ k =>
        cases p ((i + j) / 2)
        · have := bs_rng p k i ((i + j) / 2) (by omega) (by omega)
          simp only [cond_false]; omega
        · have := bs_rng p k ((i + j) / 2 + 1) j (by omega) (by omega)
          simp only [cond_true]; omega
    · rw [if_neg c]; omega
theorem bs_cut (p : Nat → Bool) : ∀ (k i j : Nat), j - i ≤ k → i ≤ j → (∀ x y, i ≤ x → x < y → y < j → p y = true → p x = true) → (∀ x, i ≤ x → x < bsF p i j → p x = true) ∧ ∀ x, bsF p i j ≤ x → x < j → p x = false
  | k, i, j, h, hij, hm => by
    rw [bsF_eq]
    by_cases c : i < j
    · rw [if_pos c]
      cases k with
      | zero => omega
      | succ k =>
        cases hp : p ((i + j) / 2)
        · simp only [cond_false]
          obtain ⟨q1, q2⟩ := bs_cut p k i ((i + j) / 2) (by omega) (by omega) (fun x y h1 h2 h3 => hm x y h1 h2 (by omega))
          refine ⟨q1, fun x h1 h2 => ?_⟩
          by_cases hx : x < (i + j) / 2
          · exact q2 x h1 hx
          · by_cases he : x = (i + j) / 2
            · rw [he]; exact hp
            · cases hpx : p x
              · rfl
              · have := hm ((i + j) / 2) x (by omega) (by omega) h2 hpx
                rw [hp] at this; cases this
        · simp only [cond_true]
          obtain ⟨q1, q2⟩ := bs_cut p k ((i + j) / 2 + 1) j (by omega) (by omega) (fun x y h1 h2 h3 => hm x y (by omega) h2 h3)
          refine ⟨fun x h1 h2 => ?_, q2⟩
          by_cases hx : (i + j) / 2 + 1 ≤ x
          · exact q1 x hx h2
          · by_cases he : x = (i + j) / 2
            · rw [he]; exact hp
            · exact hm x ((i + j) / 2) h1 (by omega) (by omega) hp
    · rw [if_neg c]
      exact ⟨fun x h1 h2 => by omega, fun x h1 h2 => by omega⟩
theorem same_up {a b t : Nat} (d : Nat → α) (h : a ≤ t) (ht : t < b) : Same a b d (fun x => d (upI a t x)) :=
  Same.idx (upI a t) (dnI a t) (fun k _ _ => by unfold upI; (repeat' split) <;> omega) (fun k _ _ => by unfold upI dnI; refine ⟨?_, ?_, ?_⟩ <;> (repeat' split) <;> omega) (fun k hk => by unfold upI; (repeat' split) <;> omega)
theorem same_dn {a b i m : Nat} (d : Nat → α) (h : a ≤ i) (him : i ≤ m) (hm : m < b) : Same a b d (fun x => d (dnI i m x)) :=
  Same.idx (dnI i m) (upI i m) (fun k _ _ => by unfold dnI; (repeat' split) <;> omega) (fun k _ _ => by unfold upI dnI; refine ⟨?_, ?_, ?_⟩ <;> (repeat' split) <;> omega) (fun k hk => by unfold dnI; (repeat' split) <;> omega)
theorem same_rot {a b m : Nat} (d : Nat → α) (h : a ≤ m) (hm : m ≤ b) : Same a b d (fun x => d (rotI a m b x)) :=
  Same.idx (rotI a m b) (rotI a (a + b - m) b) (fun k _ _ => by unfold rotI; (repeat' split) <;> omega) (fun k _ _ => by unfold rotI; refine ⟨?_, ?_, ?_⟩ <;> (repeat' split) <;> omega) (fun k hk => by unfold rotI; (repeat' split) <;> omega)
theorem sSR {a m b : Nat} (h1 : a < m) (h2 : m < b) : a ≤ sS a m b ∧ sS a m b ≤ sR a m b ∧ sR a m b ≤ m ∧ sR a m b ≤ mdl a b ∧ mdl a b + m - b ≤ sS a m b := by
  unfold sS sR mdl; split <;> omega
theorem stt_rng (ls : α → α → Bool) (d : Nat → α) {a m b : Nat} (h1 : a < m) (h2 : m < b) : sS a m b ≤ stt ls d a m b ∧ stt ls d a m b ≤ sR a m b := by
  obtain ⟨q1, q2, _⟩ := sSR h1 h2
  exact bs_rng _ _ _ _ (Nat.le_refl _) q2
theorem enn_rng (ls : α → α → Bool) (d : Nat → α) {a m b : Nat} (h1 : a < m) (h2 : m < b) : m ≤ enn ls d a m b ∧ enn ls d a m b ≤ b ∧ mdl a b ≤ enn ls d a m b ∧ a ≤ stt ls d a m b ∧ stt ls d a m b ≤ m ∧ stt ls d a m b ≤ mdl a b := by
  obtain ⟨q1, q2, q3, q4, q5⟩ := sSR h1 h2
  obtain ⟨p1, p2⟩ := stt_rng ls d h1 h2
  unfold enn
  omega
theorem same_rotd (ls : α → α → Bool) (d : Nat → α) {a m b : Nat} (h1 : a < m) (h2 : m < b) : Same a b d (rotd ls d a m b) := by
  obtain ⟨q1, q2, q3, q4, q5, q6⟩ := enn_rng ls d h1 h2
  unfold rotd
  split
  · exact (same_rot d q5 q1).wide q4 q2
  · exact .refl _ _ _
theorem sym_eq (ls : α → α → Bool) (d : Nat → α) (a m b : Nat) : sym ls d a m b = if m - a = 1 then fun x => d (upI a (bsF (fun h => ls (d h) (d a)) m b - 1) x)
  else if b - m = 1 then fun x => d (dnI (bsF (fun h => !ls (d m) (d h)) a m) m x)
  else
    let d2 := if a < stt ls d a m b ∧ stt ls d a m b < (a + b) / 2 then sym ls (rotd ls d a m b) a (stt ls d a m b) ((a + b) / 2) else rotd ls d a m b
    if (a + b) / 2 < enn ls d a m b ∧ enn ls d a m b < b then sym ls d2 ((a + b) / 2) (enn ls d a m b) b else d2 := by
  rw [sym]; rfl
theorem same_sym (ls : α → α → Bool) : ∀ (k : Nat) (d : Nat → α) (a m b : Nat), b - a ≤ k → a < m → m < b → Same a b d (sym ls d a m b)
  | k, d, a, m, b, hk, h1, h2 => by
    rw [sym_eq]
    by_cases c1 : m - a = 1
    · rw [if_pos c1]
      have := bs_rng (fun h => ls (d h) (d a)) _ m b (Nat.le_refl _) (by omega)
      exact same_up d (by omega) (by omega)
    · rw [if_neg c1]
      by_cases c2 : b - m = 1
      · rw [if_pos c2]
        have := bs_rng (fun h => !ls (d m) (d h)) _ a m (Nat.le_refl _) (by omega)
        exact same_dn d (by omega) (by omega) (by omega)
      · rw [if_neg c2]
        cases k with
        | zero => omega
        | succ k =>
          obtain ⟨q1, q2, q3, q4, q5, q6⟩ := enn_rng ls d h1 h2
          unfold mdl at q3 q6
          have r0 := same_rotd ls d h1 h2
          have r1 : Same a b d (if a < stt ls d a m b ∧ stt ls d a m b < (a + b) / 2 then sym ls (rotd ls d a m b) a (stt ls d a m b) ((a + b) / 2) else rotd ls d a m b) := by
            split
            · rename_i c
              exact r0.trans ((same_sym ls k _ _ _ _ (by omega) c.1 c.2).wide (Nat.le_refl _) (by omega))
            · exact r0
          dsimp only
          split
          · rename_i c
            exact r1.trans ((same_sym ls k _ _ _ _ (by omega) c.1 c.2).wide (by omega) (Nat.le_refl _))
          · exact r1
end Go.Ev.So

namespace Go.Ev.So
variable {α : Type}
/-! ## The stable sort sorts -/
structure Ord (ls : α → α → Bool) (T E : α → α → Prop) : Prop where
  irr : ∀ x, ¬ T x x
  tr : ∀ x y z, T x y → T y z → T x z
  ag : ∀ x y, E x y → (ls y x = true ↔ T y x)
  tot : ∀ x y, E x y → T x y ∨ T y x
def Sd (T : α → α → Prop) (a b : Nat) (d : Nat → α) : Prop := ∀ i j, a ≤ i → i < j → j < b → T (d i) (d j)
variable {ls : α → α → Bool} {T E : α → α → Prop}
theorem Ord.no (o : Ord ls T E) {x y : α} (e : E x y) (h : ls y x = false) : T x y := by
  rcases o.tot x y e with h1 | h1
  · exact h1
  · rw [(o.ag x y e).2 h1] at h; cases h
theorem Ord.no' (o : Ord ls T E) {x y : α} (e : E x y) (h : (!ls y x) = true) : T x y := o.no e (by simpa using h)
theorem Ord.yes (o : Ord ls T E) {x y : α} (e : E x y) (h : ls y x = true) : T y x := (o.ag x y e).1 h
theorem Ord.yes' (o : Ord ls T E) {x y : α} (e : E x y) (h : (!ls y x) = false) : T y x := o.yes e (by simpa using h)
theorem insD_sd (o : Ord ls T E) {a b : Nat} : ∀ (j : Nat) (d : Nat → α), j < b → (∀ x y, a ≤ x → x < y → y < b → y ≠ j → T (d x) (d y)) → (∀ x, a ≤ x → x < j → E (d x) (d j)) → Sd T a b (insD ls a j d)
  | 0, d, hj, h, _ => fun x y h1 h2 h3 => h x y h1 h2 h3 (by omega)
  | j + 1, d, hj, h, he => by
    unfold insD
    cases hc : decide (a < j + 1) && ls (d (j + 1)) (d j)
    · simp only [cond_false]
      intro x y h1 h2 h3
      by_cases hy : y = j + 1
      · subst hy
        have haj : a < j + 1 := by omega
        have hl : ls (d (j + 1)) (d j) = false := by simpa [haj] using hc
        have h4 := o.no (he j (by omega) (by omega)) hl
        by_cases hx : x = j
        · subst hx; exact h4
        · exact o.tr _ _ _ (h x j h1 (by omega) (by omega) (by omega)) h4
      · exact h x y h1 h2 h3 hy
    · simp only [cond_true]
      simp only [Bool.and_eq_true, decide_eq_true_eq] at hc
      have h4 := o.yes (he j (by omega) (by omega)) hc.2
      have e1 : swp d (j + 1) j j = d (j + 1) := by simp [swp, swpI]
      have e2 : swp d (j + 1) j (j + 1) = d j := by simp [swp, swpI]
      have e3 : ∀ x, x ≠ j → x ≠ j + 1 → swp d (j + 1) j x = d x := fun x h1 h2 => by simp [swp, swpI, h1, h2]
      refine insD_sd o j _ (by omega) (fun x y h1 h2 h3 hy => ?_) (fun x h1 h2 => ?_)
      · by_cases hy1 : y = j + 1
        · subst hy1
          rw [e2]
          by_cases hx : x = j
          · subst hx; rw [e1]; exact h4
          · rw [e3 x hx (by omega)]; exact h x j h1 (by omega) (by omega) (by omega)
        · rw [e3 y hy hy1]
          by_cases hx : x = j
          · subst hx; rw [e1]; exact h (x + 1) y (by omega) (by omega) h3 hy1
          · by_cases hx1 : x = j + 1
            · subst hx1; rw [e2]; exact h j y (by omega) (by omega) h3 hy1
            · rw [e3 x hx hx1]; exact h x y h1 h2 h3 hy1
      · rw [e1, e3 x (by omega) (by omega)]
        exact he x h1 (by omega)
theorem insR_sd (o : Ord ls T E) {a b : Nat} (d : Nat → α) (he : ∀ x y, a ≤ x → x < y → y < b → E (d x) (d y)) : ∀ k, a + k < b → Sd T a (a + k + 1) (insR ls a k d)
  | 0, _ => fun x y h1 h2 h3 => by omega
  | k + 1, h => by
    have ih := insR_sd o d he k (by omega)
    have sm := same_insR ls (a := a) (b := a + k + 1) k d (by omega)
    refine insD_sd o (b := a + (k + 1) + 1) (a + 1 + k) _ (by omega) (fun x y h1 h2 h3 hy => ih x y h1 h2 (by omega)) (fun x h1 h2 => ?_)
    obtain ⟨x', q1, q2, q3⟩ := sm.to x h1 (by omega)
    rw [q3, sm.out (a + 1 + k) (by omega)]
    exact he x' _ q1 (by omega) (by omega)
theorem insS_sd (o : Ord ls T E) {a b : Nat} (d : Nat → α) (he : ∀ x y, a ≤ x → x < y → y < b → E (d x) (d y)) : Sd T a b (insS ls a b d) := by
  unfold insS
  by_cases h : a < b
  · have := insR_sd o d he (b - (a + 1)) (by omega)
    rwa [show a + (b - (a + 1)) + 1 = b by omega] at this
  · intro x y h1 h2 h3; omega
theorem rotd_val (ls : α → α → Bool) (d : Nat → α) {a m b : Nat} (h1 : a < m) (h2 : m < b) : (∀ x, a ≤ x → x < stt ls d a m b → rotd ls d a m b x = d x) ∧ (∀ x, stt ls d a m b ≤ x → x < mdl a b → rotd ls d a m b x = d (x + (m - stt ls d a m b))) ∧
    (∀ x, mdl a b ≤ x → x < enn ls d a m b → rotd ls d a m b x = d (x - (enn ls d a m b - m))) ∧ ∀ x, enn ls d a m b ≤ x → x < b → rotd ls d a m b x = d x := by
  obtain ⟨q1, q2, q3, q4, q5, q6⟩ := enn_rng ls d h1 h2
  have q7 : enn ls d a m b = mdl a b + m - stt ls d a m b := rfl
  unfold rotd
  generalize stt ls d a m b = s at *
  generalize enn ls d a m b = e at *
  generalize mdl a b = c at *
  split
  · refine ⟨fun x p1 p2 => ?_, fun x p1 p2 => ?_, fun x p1 p2 => ?_, fun x p1 p2 => ?_⟩ <;> dsimp only <;> congr 1 <;> unfold rotI <;> (repeat' split) <;> omega
  · refine ⟨fun x p1 p2 => rfl, fun x p1 p2 => ?_, fun x p1 p2 => ?_, fun x p1 p2 => rfl⟩ <;> congr 1 <;> omega
theorem cross (o : Ord ls T E) (d : Nat → α) {a m b : Nat} (h1 : a < m) (h2 : m < b) (s1 : Sd T a m d) (s2 : Sd T m b d) (he : ∀ x y, a ≤ x → x < m → m ≤ y → y < b → E (d x) (d y)) :
    ∀ x y, a ≤ x → x < mdl a b → mdl a b ≤ y → y < b → T (rotd ls d a m b x) (rotd ls d a m b y) := by
  obtain ⟨q1, q2, q3, q4, q5, q6⟩ := enn_rng ls d h1 h2
  have q7 : enn ls d a m b = mdl a b + m - stt ls d a m b := rfl
  obtain ⟨v1, v2, v3, v4⟩ := rotd_val ls d h1 h2
  obtain ⟨u1, u2, u3, u4, u5⟩ := sSR h1 h2
  have hcut := bs_cut (fun c => !ls (d (mdl a b + m - 1 - c)) (d c)) _ (sS a m b) (sR a m b) (Nat.le_refl _) u2 (by
    intro x y p1 p2 p3 hy
    try dsimp only at hy ⊢
    have ex := he x (mdl a b + m - 1 - x) (by omega) (by omega) (by omega) (by omega)
    have ey := he y (mdl a b + m - 1 - y) (by omega) (by omega) (by omega) (by omega)
    cases hx : ls (d (mdl a b + m - 1 - x)) (d x)
    · rfl
    · have t1 := o.yes ex hx
      have t2 := o.no' ey hy
      have t3 := o.tr _ _ _ (s2 (mdl a b + m - 1 - y) (mdl a b + m - 1 - x) (by omega) (by omega) (by omega)) (o.tr _ _ _ t1 (s1 x y (by omega) p2 (by omega)))
      exact absurd (o.tr _ _ _ t2 t3) (o.irr _))
  have hst : bsF (fun c => !ls (d (mdl a b + m - 1 - c)) (d c)) (sS a m b) (sR a m b) = stt ls d a m b := rfl
  rw [hst] at hcut
  obtain ⟨c1, c2⟩ := hcut
  obtain ⟨w1, w2⟩ := stt_rng ls d h1 h2
  have hsS : sS a m b = (if mdl a b < m then mdl a b + m - b else a) := rfl
  have hsR : sR a m b = (if mdl a b < m then mdl a b else m) := rfl
  clear hst
  generalize stt ls d a m b = s at *
  generalize enn ls d a m b = e at *
  generalize sS a m b = s0 at *
  generalize sR a m b = r0 at *
  generalize mdl a b = c at *
  intro x y p1 p2 p3 p4
  by_cases hx : x < s
  · rw [v1 x p1 hx]
    by_cases hy : y < e
    · rw [v3 y p3 hy]
      exact s1 _ _ p1 (by omega) (by omega)
    · rw [v4 y (by omega) p4]
      have hs : s0 ≤ s - 1 := by
        by_cases hne : s = s0
        · exfalso; split at hsS <;> omega
        · omega
      have t := c1 (s - 1) hs (by omega)
      try dsimp only at t
      have t := o.no' (he (s - 1) (c + m - 1 - (s - 1)) (by omega) (by omega) (by omega) (by omega)) t
      rw [show c + m - 1 - (s - 1) = e by omega] at t
      have ta : T (d x) (d e) := by
        by_cases hx1 : x = s - 1
        · rw [hx1]; exact t
        · exact o.tr _ _ _ (s1 x (s - 1) p1 (by omega) (by omega)) t
      by_cases hy1 : y = e
      · rw [hy1]; exact ta
      · exact o.tr _ _ _ ta (s2 e y q1 (by omega) p4)
  · rw [v2 x (by omega) p2]
    by_cases hy : y < e
    · rw [v3 y p3 hy]
      have hs : s < r0 := by
        by_cases hne : s = r0
        · exfalso; split at hsR <;> omega
        · omega
      have t := c2 s (Nat.le_refl _) hs
      try dsimp only at t
      have t := o.yes' (he s (c + m - 1 - s) (by omega) (by omega) (by omega) (by omega)) t
      have ta : T (d (x + (m - s))) (d s) := by
        by_cases hx1 : x + (m - s) = c + m - 1 - s
        · rw [hx1]; exact t
        · exact o.tr _ _ _ (s2 (x + (m - s)) (c + m - 1 - s) (by omega) (by omega) (by omega)) t
      by_cases hy1 : y - (e - m) = s
      · rw [hy1]; exact ta
      · exact o.tr _ _ _ ta (s1 s (y - (e - m)) (by omega) (by omega) (by omega))
    · rw [v4 y (by omega) p4]
      exact s2 _ _ (by omega) (by omega) p4
theorem sym_sd (o : Ord ls T E) : ∀ (k : Nat) (d : Nat → α) (a m b : Nat), b - a ≤ k → a < m → m < b → Sd T a m d → Sd T m b d → (∀ x y, a ≤ x → x < m → m ≤ y → y < b → E (d x) (d y)) → Sd T a b (sym ls d a m b)
  | k, d, a, m, b, hk, h1, h2, s1, s2, he => by
    rw [sym_eq]
    by_cases k1 : m - a = 1
    · rw [if_pos k1]
      obtain rfl : m = a + 1 := by omega
      have hr := bs_rng (fun h => ls (d h) (d a)) _ (a + 1) b (Nat.le_refl _) (by omega)
      obtain ⟨c1, c2⟩ := bs_cut (fun h => ls (d h) (d a)) _ (a + 1) b (Nat.le_refl _) (by omega) (by
        intro x y p1 p2 p3 hy
        have ty := o.yes (he a y (by omega) (by omega) (by omega) p3) hy
        exact (o.ag _ _ (he a x (by omega) (by omega) (by omega) (by omega))).2 (o.tr _ _ _ (s2 x y p1 p2 p3) ty))
      generalize bsF (fun h => ls (d h) (d a)) (a + 1) b = i at *
      have A : ∀ z, a + 1 ≤ z → z < i → T (d z) (d a) := fun z p1 p2 => o.yes (he a z (by omega) (by omega) p1 (by omega)) (c1 z p1 p2)
      have B : ∀ z, i ≤ z → z < b → T (d a) (d z) := fun z p1 p2 => o.no (he a z (by omega) (by omega) (by omega) p2) (c2 z p1 p2)
      have C := s2
      unfold Sd at C
      intro x y p1 p2 p3
      dsimp only
      unfold upI
      split <;> split <;> (try split) <;> (try split) <;> first | exact C _ _ (by omega) (by omega) (by omega) | exact A _ (by omega) (by omega) | exact B _ (by omega) (by omega) | (exfalso; omega)
    · rw [if_neg k1]
      by_cases k2 : b - m = 1
      · rw [if_pos k2]
        obtain rfl : b = m + 1 := by omega
        have hr := bs_rng (fun h => !ls (d m) (d h)) _ a m (Nat.le_refl _) (by omega)
        obtain ⟨c1, c2⟩ := bs_cut (fun h => !ls (d m) (d h)) _ a m (Nat.le_refl _) (by omega) (by
          intro x y p1 p2 p3 hy
          try dsimp only at hy ⊢
          have ty := o.no' (he y m (by omega) p3 (by omega) (by omega)) hy
          cases hx : ls (d m) (d x)
          · rfl
          · have tx := o.yes (he x m p1 (by omega) (by omega) (by omega)) hx
            exact absurd (o.tr _ _ _ tx (o.tr _ _ _ (s1 x y p1 p2 p3) ty)) (o.irr _))
        generalize bsF (fun h => !ls (d m) (d h)) a m = i at *
        have A : ∀ z, a ≤ z → z < i → T (d z) (d m) := fun z p1 p2 => o.no' (he z m p1 (by omega) (by omega) (by omega)) (c1 z p1 p2)
        have B : ∀ z, i ≤ z → z < m → T (d m) (d z) := fun z p1 p2 => o.yes' (he z m (by omega) p2 (by omega) (by omega)) (c2 z p1 p2)
        have C := s1
        unfold Sd at C
        intro x y p1 p2 p3
        dsimp only
        unfold dnI
        split <;> split <;> (try split) <;> (try split) <;> first | exact C _ _ (by omega) (by omega) (by omega) | exact A _ (by omega) (by omega) | exact B _ (by omega) (by omega) | (exfalso; omega)
      · rw [if_neg k2]
        cases k with
        | zero => omega
        | succ k =>
          obtain ⟨q1, q2, q3, q4, q5, q6⟩ := enn_rng ls d h1 h2
          obtain ⟨v1, v2, v3, v4⟩ := rotd_val ls d h1 h2
          have hc := cross o d h1 h2 s1 s2 he
          have q7 : enn ls d a m b = mdl a b + m - stt ls d a m b := rfl
          have hm : (a + b) / 2 = mdl a b := rfl
          have hml : mdl a b < b := by unfold mdl; omega
          have hml2 : a < mdl a b := by unfold mdl; omega
          rw [hm]
          generalize rotd ls d a m b = r at *
          generalize stt ls d a m b = s at *
          generalize enn ls d a m b = e at *
          generalize mdl a b = c at *
          have r1 : Sd T a s r := fun x y p1 p2 p3 => by rw [v1 x p1 (by omega), v1 y (by omega) p3]; exact s1 x y p1 p2 (by omega)
          have r2 : Sd T s c r := fun x y p1 p2 p3 => by rw [v2 x p1 (by omega), v2 y (by omega) p3]; exact s2 _ _ (by omega) (by omega) (by omega)
          have r3 : Sd T c e r := fun x y p1 p2 p3 => by rw [v3 x p1 (by omega), v3 y (by omega) p3]; exact s1 _ _ (by omega) (by omega) (by omega)
          have r4 : Sd T e b r := fun x y p1 p2 p3 => by rw [v4 x p1 (by omega), v4 y (by omega) p3]; exact s2 _ _ (by omega) (by omega) (by omega)
          have d2 : ∃ f, (if a < s ∧ s < c then sym ls r a s c else r) = f ∧ Sd T a c f ∧ Same a c r f := by
            refine ⟨_, rfl, ?_⟩
            split
            · rename_i cc
              refine ⟨sym_sd o k r a s c (by omega) cc.1 cc.2 r1 r2 (fun x y p1 p2 p3 p4 => ?_), same_sym ls _ r a s c (Nat.le_refl _) cc.1 cc.2⟩
              rw [v1 x p1 p2, v2 y p3 p4]
              exact he _ _ p1 (by omega) (by omega) (by omega)
            · rename_i cc
              refine ⟨?_, .refl _ _ _⟩
              by_cases ca : a < s
              · have : s = c := by omega
                rw [← this]; exact r1
              · have : s = a := by omega
                rw [← this]; exact r2
          dsimp only
          obtain ⟨f, ef, f1, f2⟩ := d2
          rw [ef]
          have fo : ∀ x, c ≤ x → f x = r x := fun x p1 => f2.out x (by omega)
          have r3' : Sd T c e f := fun x y p1 p2 p3 => by rw [fo x p1, fo y (by omega)]; exact r3 x y p1 p2 p3
          have r4' : Sd T e b f := fun x y p1 p2 p3 => by rw [fo x (by omega), fo y (by omega)]; exact r4 x y p1 p2 p3
          have d3 : ∃ g, (if c < e ∧ e < b then sym ls f c e b else f) = g ∧ Sd T c b g ∧ Same c b f g := by
            refine ⟨_, rfl, ?_⟩
            split
            · rename_i cc
              refine ⟨sym_sd o k f c e b (by omega) cc.1 cc.2 r3' r4' (fun x y p1 p2 p3 p4 => ?_), same_sym ls _ f c e b (Nat.le_refl _) cc.1 cc.2⟩
              rw [fo x p1, fo y (by omega), v3 x p1 p2, v4 y p3 p4]
              exact he _ _ (by omega) (by omega) (by omega) p4
            · rename_i cc
              refine ⟨?_, .refl _ _ _⟩
              by_cases ca : c < e
              · have : e = b := by omega
                rw [← this]; exact r3'
              · have : e = c := by omega
                rw [← this]; exact r4'
          obtain ⟨g, eg, g1, g2⟩ := d3
          rw [eg]
          intro x y p1 p2 p3
          by_cases hy : y < c
          · rw [g2.out x (by omega), g2.out y (by omega)]; exact f1 x y p1 p2 hy
          · by_cases hx : c ≤ x
            · exact g1 x y hx p2 p3
            · rw [g2.out x (by omega)]
              obtain ⟨x', t1, t2, t3⟩ := f2.to x p1 (by omega)
              obtain ⟨y', u1, u2, u3⟩ := g2.to y (by omega) p3
              rw [t3, u3, fo y' u1]
              exact hc x' y' t1 t2 u1 u2
/-! ### Blocks -/
structure Bk (T : α → α → Prop) (s n q : Nat) (d e : Nat → α) : Prop where
  sd : ∀ i j, s * q ≤ i → i < j → j < s * q + s → j < n → T (e i) (e j)
  fr : ∀ k, s * q ≤ k → k < s * q + s → k < n → ∃ k', s * q ≤ k' ∧ k' < s * q + s ∧ k' < n ∧ e k = d k'
theorem Bk.cong {s n q : Nat} {d e f : Nat → α} (h : Bk T s n q d e) (hf : ∀ k, s * q ≤ k → k < s * q + s → k < n → f k = e k) : Bk T s n q d f :=
  ⟨fun i j h1 h2 h3 h4 => by rw [hf i h1 (by omega) (by omega), hf j (by omega) h3 h4]; exact h.sd i j h1 h2 h3 h4, fun k h1 h2 h3 => by rw [hf k h1 h2 h3]; exact h.fr k h1 h2 h3⟩
theorem Bk.out {s n q : Nat} {d e : Nat → α} (h : n ≤ s * q) : Bk T s n q d e := ⟨fun i j h1 h2 h3 h4 => by omega, fun k h1 h2 h3 => by omega⟩
theorem Bk.of {s n q a b : Nat} {d e f : Nat → α} (ha : a = s * q) (hb : b = s * q + s ∨ (b = n ∧ n ≤ s * q + s)) (hbn : b ≤ n) (h1 : Sd T a b f) (h2 : Same a b e f) (h3 : ∀ k, s * q ≤ k → k < s * q + s → k < n → ∃ k', s * q ≤ k' ∧ k' < s * q + s ∧ k' < n ∧ e k = d k') : Bk T s n q d f := by
  refine ⟨fun i j p1 p2 p3 p4 => h1 i j (by omega) p2 (by omega), fun k p1 p2 p3 => ?_⟩
  obtain ⟨k', q1, q2, q3⟩ := h2.to k (by omega) (by omega)
  rw [q3]
  exact h3 k' (by omega) (by omega) (by omega)
theorem stP_bk (o : Ord ls T E) {n : Nat} {d : Nat → α} (he : ∀ x y, x < y → y < n → E (d x) (d y)) : ∀ (k a q0 : Nat) (e : Nat → α), n - a ≤ k → a = 20 * q0 → (∀ q, q < q0 → Bk T 20 n q d e) → (∀ x, a ≤ x → e x = d x) → ∀ q, Bk T 20 n q d (stP ls n a e)
  | k, a, q0, e, hk, ha, hb, hd => by
    rw [stP]
    by_cases c : a + 20 ≤ n
    · rw [if_pos c]
      cases k with
      | zero => omega
      | succ k =>
        have sm := same_insS ls (a := a) (b := a + 20) e
        have sd := insS_sd o (a := a) (b := a + 20) e (fun x y h1 h2 h3 => by rw [hd x h1, hd y (by omega)]; exact he x y h2 (by omega))
        refine stP_bk o he k (a + 20) (q0 + 1) _ (by omega) (by omega) (fun q hq => ?_) (fun x hx => (sm.out x (by omega)).trans (hd x (by omega)))
        by_cases hq0 : q = q0
        · subst hq0
          exact Bk.of ha (.inl (by omega)) c sd sm (fun k h1 h2 h3 => ⟨k, h1, h2, h3, hd k (by omega)⟩)
        · exact (hb q (by omega)).cong fun k h1 h2 h3 => sm.out k (by omega)
    · rw [if_neg c]
      intro q
      have sm := same_insS ls (a := a) (b := n) e
      have sd := insS_sd o (a := a) (b := n) e (fun x y h1 h2 h3 => by rw [hd x h1, hd y (by omega)]; exact he x y h2 h3)
      by_cases hq0 : q = q0
      · subst hq0
        exact Bk.of ha (.inr ⟨rfl, by omega⟩) (Nat.le_refl _) sd sm (fun k h1 h2 h3 => ⟨k, h1, h2, h3, hd k (by omega)⟩)
      · by_cases hlt : q < q0
        · exact (hb q hlt).cong fun k h1 h2 h3 => sm.out k (by omega)
        · exact .out (by omega)
theorem mul2 (s q : Nat) : 2 * s * q = s * (2 * q) := by rw [Nat.mul_comm 2 s, Nat.mul_assoc]
theorem mulS (s q : Nat) : s * (2 * q + 1) = s * (2 * q) + s := by rw [Nat.mul_add, Nat.mul_one]
theorem mul2S (s q : Nat) : 2 * s * (q + 1) = 2 * s * q + 2 * s := by rw [Nat.mul_add, Nat.mul_one]
theorem stM_bk (o : Ord ls T E) {n s : Nat} (hs : 0 < s) {d : Nat → α} (he : ∀ x y, x < y → y < n → E (d x) (d y)) : ∀ (k a q0 : Nat) (e : Nat → α), n - a ≤ k → a = 2 * s * q0 → (∀ q, q < q0 → Bk T (2 * s) n q d e) → (∀ q, 2 * q0 ≤ q → Bk T s n q d e) → ∀ q, Bk T (2 * s) n q d (stM ls n s a e)
  | k, a, q0, e, hk, ha, hb, hd => by
    have x0 := hd (2 * q0) (Nat.le_refl _)
    have x1 := hd (2 * q0 + 1) (by omega)
    have m1 := mul2 s q0
    have m2 := mulS s q0
    have fr2 : ∀ k, 2 * s * q0 ≤ k → k < 2 * s * q0 + 2 * s → k < n → ∃ k', 2 * s * q0 ≤ k' ∧ k' < 2 * s * q0 + 2 * s ∧ k' < n ∧ e k = d k' := by
      intro k h1 h2 h3
      by_cases c : k < s * (2 * q0) + s
      · obtain ⟨k', p1, p2, p3, p4⟩ := x0.fr k (by omega) c h3
        exact ⟨k', by omega, by omega, p3, p4⟩
      · obtain ⟨k', p1, p2, p3, p4⟩ := x1.fr k (by omega) (by omega) h3
        exact ⟨k', by omega, by omega, p3, p4⟩
    have lo : ∀ q, q < q0 → 2 * s * q + 2 * s ≤ a := by
      intro q hq
      have := Nat.mul_le_mul_left (2 * s) (show q + 1 ≤ q0 by omega)
      rw [mul2S] at this; omega
    have hi : ∀ q, q0 < q → a + 2 * s ≤ 2 * s * q := by
      intro q hq
      have := Nat.mul_le_mul_left (2 * s) (show q0 + 1 ≤ q by omega)
      rw [mul2S] at this; omega
    have mrg : ∀ b, a + s < b → b ≤ a + 2 * s → b ≤ n → Sd T a b (sym ls e a (a + s) b) ∧ Same a b e (sym ls e a (a + s) b) := by
      intro b h1 h2 h3
      refine ⟨sym_sd o _ e a (a + s) b (Nat.le_refl _) (by omega) h1 (fun i j p1 p2 p3 => x0.sd i j (by omega) p2 (by omega) (by omega)) (fun i j p1 p2 p3 => x1.sd i j (by omega) p2 (by omega) (by omega)) (fun x y p1 p2 p3 p4 => ?_), same_sym ls _ e a (a + s) b (Nat.le_refl _) (by omega) h1⟩
      obtain ⟨x', t1, t2, t3, t4⟩ := x0.fr x (by omega) (by omega) (by omega)
      obtain ⟨y', u1, u2, u3, u4⟩ := x1.fr y (by omega) (by omega) (by omega)
      rw [t4, u4]
      exact he x' y' (by omega) u3
    rw [stM]
    by_cases c : 0 < s ∧ a + 2 * s ≤ n
    · rw [dif_pos c]
      cases k with
      | zero => omega
      | succ k =>
        obtain ⟨sd, sm⟩ := mrg (a + 2 * s) (by omega) (Nat.le_refl _) c.2
        refine stM_bk o hs he k (a + 2 * s) (q0 + 1) _ (by omega) (by rw [mul2S]; omega) (fun q hq => ?_) (fun q hq => ?_)
        · by_cases hq0 : q = q0
          · subst hq0
            exact Bk.of ha (.inl (by omega)) c.2 sd sm fr2
          · have := lo q (by omega)
            exact (hb q (by omega)).cong fun k h1 h2 h3 => sm.out k (by omega)
        · have := Nat.mul_le_mul_left s hq
          rw [show 2 * (q0 + 1) = 2 * q0 + 1 + 1 by omega, Nat.mul_add, Nat.mul_one] at this
          exact (hd q (by omega)).cong fun k h1 h2 h3 => sm.out k (by omega)
    · rw [dif_neg c]
      intro q
      have hlt : n < a + 2 * s := by omega
      by_cases c2 : a + s < n
      · rw [if_pos c2]
        obtain ⟨sd, sm⟩ := mrg n c2 (by omega) (Nat.le_refl _)
        by_cases hq0 : q = q0
        · subst hq0
          exact Bk.of ha (.inr ⟨rfl, by omega⟩) (Nat.le_refl _) sd sm fr2
        · by_cases hl : q < q0
          · have := lo q hl
            exact (hb q hl).cong fun k h1 h2 h3 => sm.out k (by omega)
          · have := hi q (by omega)
            exact .out (by omega)
      · rw [if_neg c2]
        by_cases hq0 : q = q0
        · subst hq0
          exact ⟨fun i j p1 p2 p3 p4 => x0.sd i j (by omega) p2 (by omega) p4, fr2⟩
        · by_cases hl : q < q0
          · exact hb q hl
          · have := hi q (by omega)
            exact .out (by omega)
theorem stL_sd (o : Ord ls T E) {n : Nat} {d : Nat → α} (he : ∀ x y, x < y → y < n → E (d x) (d y)) : ∀ (k s : Nat) (e : Nat → α), n - s ≤ k → 0 < s → (∀ q, Bk T s n q d e) → Sd T 0 n (stL ls n s e)
  | k, s, e, hk, hs, hb => by
    rw [stL]
    by_cases c : 0 < s ∧ s < n
    · rw [dif_pos c]
      cases k with
      | zero => omega
      | succ k => exact stL_sd o he k (2 * s) _ (by omega) (by omega) (stM_bk o hs he _ 0 0 e (Nat.le_refl _) (by simp) (fun q hq => by omega) (fun q _ => hb q))
    · rw [dif_neg c]
      intro i j h1 h2 h3
      exact (hb 0).sd i j (by simp) h2 (by simp; omega) h3
theorem stab_sd (o : Ord ls T E) {n : Nat} {d : Nat → α} (he : ∀ x y, x < y → y < n → E (d x) (d y)) : Sd T 0 n (stab ls n d) :=
  stL_sd o he _ 20 _ (Nat.le_refl _) (by omega) (stP_bk o he _ 0 0 d (Nat.le_refl _) rfl (fun q hq => by omega) (fun _ _ => rfl))
theorem same_stP (ls : α → α → Bool) {n : Nat} : ∀ (k a : Nat) (e : Nat → α), n - a ≤ k → Same 0 n e (stP ls n a e)
  | k, a, e, hk => by
    rw [stP]
    by_cases c : a + 20 ≤ n
    · rw [if_pos c]
      cases k with
      | zero => omega
      | succ k => exact ((same_insS ls e).wide (Nat.zero_le _) c).trans (same_stP ls k _ _ (by omega))
    · rw [if_neg c]; exact (same_insS ls e).wide (Nat.zero_le _) (Nat.le_refl _)
theorem same_stM (ls : α → α → Bool) {n s : Nat} (hs : 0 < s) : ∀ (k a : Nat) (e : Nat → α), n - a ≤ k → Same 0 n e (stM ls n s a e)
  | k, a, e, hk => by
    rw [stM]
    by_cases c : 0 < s ∧ a + 2 * s ≤ n
    · rw [dif_pos c]
      cases k with
      | zero => omega
      | succ k => exact ((same_sym ls _ e _ _ _ (Nat.le_refl _) (by omega) (by omega)).wide (Nat.zero_le _) c.2).trans (same_stM ls hs k _ _ (by omega))
    · rw [dif_neg c]
      split
      · exact (same_sym ls _ e _ _ _ (Nat.le_refl _) (by omega) (by omega)).wide (Nat.zero_le _) (Nat.le_refl _)
      · exact .refl _ _ _
theorem same_stL (ls : α → α → Bool) {n : Nat} : ∀ (k s : Nat) (e : Nat → α), n - s ≤ k → 0 < s → Same 0 n e (stL ls n s e)
  | k, s, e, hk, hs => by
    rw [stL]
    by_cases c : 0 < s ∧ s < n
    · rw [dif_pos c]
      cases k with
      | zero => omega
      | succ k => exact (same_stM ls hs _ 0 e (Nat.le_refl _)).trans (same_stL ls k _ _ (by omega) (by omega))
    · rw [dif_neg c]; exact .refl _ _ _
theorem same_stab (ls : α → α → Bool) (n : Nat) (d : Nat → α) : Same 0 n d (stab ls n d) := (same_stP ls _ 0 d (Nat.le_refl _)).trans (same_stL ls _ 20 _ (Nat.le_refl _) (by omega))
theorem uniq (irr : ∀ x, ¬ T x x) (tr : ∀ x y z, T x y → T y z → T x z) {n : Nat} {e f : Nat → α} (he : Sd T 0 n e) (hf : Sd T 0 n f) (h1 : ∀ k, k < n → ∃ k', k' < n ∧ e k = f k') (h2 : ∀ k, k < n → ∃ k', k' < n ∧ f k = e k') : ∀ k, k < n → e k = f k := by
  intro k
  induction k using Nat.strongRecOn with
  | ind k ih =>
    intro hk
    obtain ⟨a, ha, ea⟩ := h1 k hk
    obtain ⟨b, hb, eb⟩ := h2 k hk
    have ka : k ≤ a := by
      rcases Nat.lt_or_ge a k with c | c
      · have := ih a c ha
        have t := he a k (Nat.zero_le _) c hk
        rw [ea, this] at t
        exact absurd t (irr _)
      · exact c
    have kb : k ≤ b := by
      rcases Nat.lt_or_ge b k with c | c
      · have := ih b c hb
        have t := hf b k (Nat.zero_le _) c hk
        rw [eb, ← this] at t
        exact absurd t (irr _)
      · exact c
    by_cases ca : a = k
    · rw [ea, ca]
    · by_cases cb : b = k
      · rw [eb, cb]
      · have t1 := hf k a (Nat.zero_le _) (by omega) ha
        have t2 := he k b (Nat.zero_le _) (by omega) hb
        rw [← ea, eb] at t1
        exact absurd (tr _ _ _ t1 t2) (irr _)
end Go.Ev.So

namespace Go.Ev.So
variable {α : Type}
/-! ## The loops of the sort, round by round -/
theorem sw_up {x y i : Nat} (h : x + (i + 1) ≤ y ∨ y + (i + 1) ≤ x) (z : Nat) : swI x y i (swpI (x + i) (y + i) z) = swI x y (i + 1) z := by
  unfold swI swpI; (repeat' split) <;> omega
theorem sw_0 (x y z : Nat) : swI x y 0 z = z := by unfold swI; (repeat' split) <;> omega
theorem up_0 (a z : Nat) : upI a a z = z := by unfold upI; (repeat' split) <;> omega
theorem up_up {a k : Nat} (h : a ≤ k) (z : Nat) : upI a k (swpI k (k + 1) z) = upI a (k + 1) z := by unfold upI swpI; (repeat' split) <;> omega
theorem dn_0 (m z : Nat) : dnI m m z = z := by unfold dnI; (repeat' split) <;> omega
theorem dn_dn {k m : Nat} (h : k + 1 ≤ m) (z : Nat) : dnI (k + 1) m (swpI (k + 1) k z) = dnI k m z := by unfold dnI swpI; (repeat' split) <;> omega
theorem rot_1 {m i j : Nat} (h1 : j < i) (h2 : i ≤ m) (h3 : 0 < j) (z : Nat) : swI (m - i) m j (rotI (m - (i - j)) m (m + j) z) = rotI (m - i) m (m + j) z := by
  unfold swI rotI; (repeat' split) <;> omega
theorem rot_2 {m i j : Nat} (h1 : i < j) (h2 : i ≤ m) (h3 : 0 < i) (z : Nat) : swI (m - i) (m + j - i) i (rotI (m - i) m (m + (j - i)) z) = rotI (m - i) m (m + j) z := by
  unfold swI rotI; (repeat' split) <;> omega
theorem rot_3 {m i : Nat} (h2 : i ≤ m) (z : Nat) : swI (m - i) m i z = rotI (m - i) m (m + i) z := by
  unfold swI rotI; (repeat' split) <;> omega
end Go.Ev.So

namespace Go.Ev.So
section
variable {α β : Type} (φ : α → β) (ls : β → β → Bool)
end
section
variable {α : Type} {T : α → α → Prop}
end
end Go.Ev.So

namespace Go.Ev.So
/-! ## Pairs of two rows: by an order of the second one, up to a stop, and one by one: the same when sorted -/
abbrev Pr := Int × Int
def inL (i : Nat) (J : Nat → Nat) (ov : Nat → Bool) : Nat → List Pr
  | 0 => []
  | z + 1 => bif ov z then inL i J ov z ++ [((i : Int), (J z : Int))] else inL i J ov z
def stp (brk : Nat → Bool) : Nat → Nat → Nat
  | 0, z => z
  | k + 1, z => bif brk z then z else stp brk k (z + 1)
theorem stp_le (brk : Nat → Bool) : ∀ k z, stp brk k z ≤ z + k
  | 0, z => Nat.le_refl _
  | k + 1, z => by
    show (bif brk z then z else stp brk k (z + 1)) ≤ _
    cases brk z
    · have := stp_le brk k (z + 1)
      simp only [cond_false]; omega
    · simp only [cond_true]; omega
theorem stp_ge (brk : Nat → Bool) : ∀ k z, z ≤ stp brk k z
  | 0, z => Nat.le_refl _
  | k + 1, z => by
    show z ≤ (bif brk z then z else stp brk k (z + 1))
    cases brk z
    · have := stp_ge brk k (z + 1)
      simp only [cond_false]; omega
    · exact Nat.le_refl _
theorem stp_t {brk : Nat → Bool} {k z : Nat} (h : brk z = true) : stp brk k z = z := by
  cases k with
  | zero => rfl
  | succ k => show (bif brk z then _ else _) = _; rw [h]; rfl
theorem stp_f {brk : Nat → Bool} {k z : Nat} (h : brk z = false) : stp brk (k + 1) z = stp brk k (z + 1) := by
  show (bif brk z then _ else _) = _; rw [h]; rfl
theorem stp_gt (brk : Nat → Bool) : ∀ k z y, z ≤ y → y < z + k → (∀ x, z ≤ x → x ≤ y → brk x = false) → y < stp brk k z
  | 0, z, y, h1, h2, _ => by omega
  | k + 1, z, y, h1, h2, h => by
    rw [stp_f (h z (Nat.le_refl _) h1)]
    rcases Nat.lt_or_eq_of_le h1 with c | c
    · exact stp_gt brk k (z + 1) y c (by omega) fun x q1 q2 => h x (by omega) q2
    · subst c
      exact stp_ge brk k (z + 1)
def btL (okP : Nat → Bool) (J : Nat → Nat) (brk ov : Nat → Nat → Bool) (c : Nat) : Nat → List Pr
  | 0 => []
  | i + 1 => bif okP i then btL okP J brk ov c i ++ inL i J (ov i) (stp (brk i) c 0) else btL okP J brk ov c i
def rbL (okP : Nat → Bool) (meet : Nat → Nat → Bool) (m : Nat) : Nat → List Pr
  | 0 => []
  | i + 1 => bif okP i then rbL okP meet m i ++ inL i (fun j => j) (meet i) m else rbL okP meet m i
theorem in_t {i z : Nat} {J : Nat → Nat} {ov : Nat → Bool} (h : ov z = true) : inL i J ov (z + 1) = inL i J ov z ++ [((i : Int), (J z : Int))] := by show (bif ov z then _ else _) = _; rw [h]; rfl
theorem in_f {i z : Nat} {J : Nat → Nat} {ov : Nat → Bool} (h : ov z = false) : inL i J ov (z + 1) = inL i J ov z := by show (bif ov z then _ else _) = _; rw [h]; rfl
theorem in_len (i : Nat) (J : Nat → Nat) (ov : Nat → Bool) : ∀ z, (inL i J ov z).length ≤ z
  | 0 => Nat.le_refl _
  | z + 1 => by
    have := in_len i J ov z
    cases h : ov z
    · rw [in_f h]; omega
    · rw [in_t h]; simp; omega
theorem in_mem {i : Nat} {J : Nat → Nat} {ov : Nat → Bool} {x : Pr} : ∀ {z : Nat}, x ∈ inL i J ov z ↔ ∃ y, y < z ∧ ov y = true ∧ x = ((i : Int), (J y : Int))
  | 0 => by simp [inL]
  | z + 1 => by
    cases h : ov z
    · rw [in_f h, in_mem]
      constructor
      · rintro ⟨y, h1, h2⟩; exact ⟨y, by omega, h2⟩
      · rintro ⟨y, h1, h2, h3⟩
        refine ⟨y, ?_, h2, h3⟩
        rcases Nat.lt_or_eq_of_le (Nat.le_of_lt_succ h1) with c | c
        · exact c
        · subst c; rw [h] at h2; cases h2
    · rw [in_t h, List.mem_append, in_mem, List.mem_singleton]
      constructor
      · rintro (⟨y, h1, h2⟩ | h1)
        · exact ⟨y, by omega, h2⟩
        · exact ⟨z, by omega, h, h1⟩
      · rintro ⟨y, h1, h2, h3⟩
        rcases Nat.lt_or_eq_of_le (Nat.le_of_lt_succ h1) with c | c
        · exact .inl ⟨y, c, h2, h3⟩
        · subst c; exact .inr h3
theorem bt_t {okP : Nat → Bool} {J : Nat → Nat} {brk ov : Nat → Nat → Bool} {c i : Nat} (h : okP i = true) : btL okP J brk ov c (i + 1) = btL okP J brk ov c i ++ inL i J (ov i) (stp (brk i) c 0) := by show (bif okP i then _ else _) = _; rw [h]; rfl
theorem bt_f {okP : Nat → Bool} {J : Nat → Nat} {brk ov : Nat → Nat → Bool} {c i : Nat} (h : okP i = false) : btL okP J brk ov c (i + 1) = btL okP J brk ov c i := by show (bif okP i then _ else _) = _; rw [h]; rfl
theorem rb_t {okP : Nat → Bool} {meet : Nat → Nat → Bool} {m i : Nat} (h : okP i = true) : rbL okP meet m (i + 1) = rbL okP meet m i ++ inL i (fun j => j) (meet i) m := by show (bif okP i then _ else _) = _; rw [h]; rfl
theorem rb_f {okP : Nat → Bool} {meet : Nat → Nat → Bool} {m i : Nat} (h : okP i = false) : rbL okP meet m (i + 1) = rbL okP meet m i := by show (bif okP i then _ else _) = _; rw [h]; rfl
theorem bt_mono {okP : Nat → Bool} {J : Nat → Nat} {brk ov : Nat → Nat → Bool} {c : Nat} : ∀ {n i : Nat}, i ≤ n → (btL okP J brk ov c i).length ≤ (btL okP J brk ov c n).length
  | 0, i, h => by obtain rfl : i = 0 := by omega
                  exact Nat.le_refl _
  | n + 1, i, h => by
    rcases Nat.lt_or_eq_of_le h with e | e
    · refine Nat.le_trans (bt_mono (Nat.le_of_lt_succ e)) ?_
      cases hk : okP n
      · rw [bt_f hk]; exact Nat.le_refl _
      · rw [bt_t hk]; simp
    · subst e; exact Nat.le_refl _
theorem rb_mono {okP : Nat → Bool} {meet : Nat → Nat → Bool} {m : Nat} : ∀ {n i : Nat}, i ≤ n → (rbL okP meet m i).length ≤ (rbL okP meet m n).length
  | 0, i, h => by obtain rfl : i = 0 := by omega
                  exact Nat.le_refl _
  | n + 1, i, h => by
    rcases Nat.lt_or_eq_of_le h with e | e
    · refine Nat.le_trans (rb_mono (Nat.le_of_lt_succ e)) ?_
      cases hk : okP n
      · rw [rb_f hk]; exact Nat.le_refl _
      · rw [rb_t hk]; simp
    · subst e; exact Nat.le_refl _
theorem in_mono {i : Nat} {J : Nat → Nat} {ov : Nat → Bool} : ∀ {m j : Nat}, j ≤ m → (inL i J ov j).length ≤ (inL i J ov m).length
  | 0, j, h => by obtain rfl : j = 0 := by omega
                  exact Nat.le_refl _
  | m + 1, j, h => by
    rcases Nat.lt_or_eq_of_le h with e | e
    · refine Nat.le_trans (in_mono (Nat.le_of_lt_succ e)) ?_
      cases hk : ov m
      · rw [in_f hk]; exact Nat.le_refl _
      · rw [in_t hk]; simp
    · subst e; exact Nat.le_refl _
theorem bt_mem {okP : Nat → Bool} {J : Nat → Nat} {brk ov : Nat → Nat → Bool} {c : Nat} {x : Pr} : ∀ {n : Nat}, x ∈ btL okP J brk ov c n ↔ ∃ i, i < n ∧ okP i = true ∧ ∃ y, y < stp (brk i) c 0 ∧ ov i y = true ∧ x = ((i : Int), (J y : Int))
  | 0 => by simp [btL]
  | n + 1 => by
    cases h : okP n
    · rw [bt_f h, bt_mem]
      constructor
      · rintro ⟨i, h1, h2⟩; exact ⟨i, by omega, h2⟩
      · rintro ⟨i, h1, h2, h3⟩
        refine ⟨i, ?_, h2, h3⟩
        rcases Nat.lt_or_eq_of_le (Nat.le_of_lt_succ h1) with e | e
        · exact e
        · subst e; rw [h] at h2; cases h2
    · rw [bt_t h, List.mem_append, bt_mem, in_mem]
      constructor
      · rintro (⟨i, h1, h2⟩ | h1)
        · exact ⟨i, by omega, h2⟩
        · exact ⟨n, by omega, h, h1⟩
      · rintro ⟨i, h1, h2, h3⟩
        rcases Nat.lt_or_eq_of_le (Nat.le_of_lt_succ h1) with e | e
        · exact .inl ⟨i, e, h2, h3⟩
        · subst e; exact .inr h3
theorem rb_mem {okP : Nat → Bool} {meet : Nat → Nat → Bool} {m : Nat} {x : Pr} : ∀ {n : Nat}, x ∈ rbL okP meet m n ↔ ∃ i, i < n ∧ okP i = true ∧ ∃ y, y < m ∧ meet i y = true ∧ x = ((i : Int), (y : Int))
  | 0 => by simp [rbL]
  | n + 1 => by
    cases h : okP n
    · rw [rb_f h, rb_mem]
      constructor
      · rintro ⟨i, h1, h2⟩; exact ⟨i, by omega, h2⟩
      · rintro ⟨i, h1, h2, h3⟩
        refine ⟨i, ?_, h2, h3⟩
        rcases Nat.lt_or_eq_of_le (Nat.le_of_lt_succ h1) with e | e
        · exact e
        · subst e; rw [h] at h2; cases h2
    · rw [rb_t h, List.mem_append, rb_mem, in_mem]
      constructor
      · rintro (⟨i, h1, h2⟩ | h1)
        · exact ⟨i, by omega, h2⟩
        · exact ⟨n, by omega, h, h1⟩
      · rintro ⟨i, h1, h2, h3⟩
        rcases Nat.lt_or_eq_of_le (Nat.le_of_lt_succ h1) with e | e
        · exact .inl ⟨i, e, h2, h3⟩
        · subst e; exact .inr h3
def LX (x y : Pr) : Prop := x.1 < y.1 ∨ (x.1 = y.1 ∧ x.2 < y.2)
theorem in_nodup {i : Nat} {J : Nat → Nat} {ov : Nat → Bool} : ∀ {z : Nat}, (∀ x y, x < z → y < z → J x = J y → x = y) → (inL i J ov z).Nodup
  | 0, _ => List.nodup_nil
  | z + 1, hJ => by
    have ih := in_nodup (i := i) (ov := ov) (z := z) fun x y h1 h2 => hJ x y (by omega) (by omega)
    cases h : ov z
    · rw [in_f h]; exact ih
    · rw [in_t h, List.nodup_append]
      refine ⟨ih, by simp, fun a ha b hb e => ?_⟩
      obtain ⟨y, h1, _, h3⟩ := in_mem.1 ha
      have hb := List.mem_singleton.1 hb
      rw [e, hb] at h3
      have h4 : (J z : Int) = (J y : Int) := congrArg Prod.snd h3
      have := hJ z y (by omega) (by omega) (by omega)
      omega
theorem bt_nodup {okP : Nat → Bool} {J : Nat → Nat} {brk ov : Nat → Nat → Bool} {c : Nat} (hJ : ∀ x y, x < c → y < c → J x = J y → x = y) : ∀ {n : Nat}, (btL okP J brk ov c n).Nodup
  | 0 => List.nodup_nil
  | n + 1 => by
    have ih := bt_nodup (okP := okP) (brk := brk) (ov := ov) hJ (n := n)
    cases h : okP n
    · rw [bt_f h]; exact ih
    · rw [bt_t h, List.nodup_append]
      have hs := stp_le (brk n) c 0
      refine ⟨ih, in_nodup fun x y h1 h2 => hJ x y (by omega) (by omega), fun a ha b hb e => ?_⟩
      obtain ⟨i, h1, _, y, _, _, h3⟩ := bt_mem.1 ha
      obtain ⟨z, _, _, h4⟩ := in_mem.1 hb
      rw [e, h4] at h3
      have h5 : (n : Int) = (i : Int) := congrArg Prod.fst h3
      omega
theorem in_pair {i : Nat} {ov : Nat → Bool} : ∀ {z : Nat}, (inL i (fun j => j) ov z).Pairwise LX
  | 0 => List.Pairwise.nil
  | z + 1 => by
    cases h : ov z
    · rw [in_f h]; exact in_pair
    · rw [in_t h, List.pairwise_append]
      refine ⟨in_pair, List.pairwise_singleton _ _, fun a ha b hb => ?_⟩
      obtain ⟨y, h1, _, h3⟩ := in_mem.1 ha
      rw [List.mem_singleton.1 hb, h3]
      exact .inr ⟨rfl, by dsimp only; omega⟩
theorem rb_pair {okP : Nat → Bool} {meet : Nat → Nat → Bool} {m : Nat} : ∀ {n : Nat}, (rbL okP meet m n).Pairwise LX
  | 0 => List.Pairwise.nil
  | n + 1 => by
    cases h : okP n
    · rw [rb_f h]; exact rb_pair
    · rw [rb_t h, List.pairwise_append]
      refine ⟨rb_pair, in_pair, fun a ha b hb => ?_⟩
      obtain ⟨i, h1, _, y, _, _, h3⟩ := rb_mem.1 ha
      obtain ⟨z, _, _, h4⟩ := in_mem.1 hb
      rw [h3, h4]
      exact .inl (by dsimp only; omega)
structure BtIn (n m c : Nat) (okP : Nat → Bool) (J : Nat → Nat) (brk ov meet : Nat → Nat → Bool) : Prop where
  inj : ∀ x y, x < c → y < c → J x = J y → x = y
  fwd : ∀ i z, i < n → okP i = true → z < c → ov i z = true → J z < m ∧ meet i (J z) = true
  bwd : ∀ i j, i < n → okP i = true → j < m → meet i j = true → ∃ z, z < c ∧ J z = j ∧ ov i z = true ∧ ∀ x, x ≤ z → brk i x = false
theorem bt_perm {n m c : Nat} {okP : Nat → Bool} {J : Nat → Nat} {brk ov meet : Nat → Nat → Bool} (h : BtIn n m c okP J brk ov meet) : (btL okP J brk ov c n).Perm (rbL okP meet m n) := by
  refine (List.perm_ext_iff_of_nodup (bt_nodup h.inj) (rb_pair.imp fun {a b} (e : LX a b) => fun q => ?_)).2 fun x => ?_
  · subst q; unfold LX at e; omega
  rw [bt_mem, rb_mem]
  constructor
  · rintro ⟨i, h1, h2, y, h3, h4, rfl⟩
    have hs := stp_le (brk i) c 0
    obtain ⟨q1, q2⟩ := h.fwd i y h1 h2 (by omega) h4
    exact ⟨i, h1, h2, J y, q1, q2, rfl⟩
  · rintro ⟨i, h1, h2, j, h3, h4, rfl⟩
    obtain ⟨z, q1, q2, q3, q4⟩ := h.bwd i j h1 h2 h3 h4
    exact ⟨i, h1, h2, z, stp_gt _ _ _ _ (Nat.zero_le _) (by omega) fun x _ hx => q4 x hx, q3, by rw [q2]⟩
theorem sort_eq {L R : List Pr} (hp : L.Perm R) (hR : R.Pairwise LX) (le : Pr → Pr → Bool) (hle : ∀ x y, le x y = true ↔ ¬ LX y x) : L.mergeSort le = R := by
  have hs : (L.mergeSort le).Pairwise (fun a b => le a b = true) := List.pairwise_mergeSort (fun a b c h1 h2 => by rw [hle] at *; unfold LX at *; omega) (fun a b => by
    rw [Bool.or_eq_true, hle, hle]; unfold LX; omega) L
  refine List.Perm.eq_of_pairwise (le := fun a b => le a b = true) (fun a b _ _ h1 h2 => ?_) hs (hR.imp fun {a b} (e : LX a b) => by rw [hle]; unfold LX at *; omega) ((List.mergeSort_perm L le).trans hp)
  rw [hle] at h1 h2
  unfold LX at h1 h2
  exact Prod.ext (by omega) (by omega)
end Go.Ev.So

namespace Go.Ev.So
/-! ## Pairs gathered in rounds, whatever they are -/
def gI (e : Nat → Pr) (ov : Nat → Bool) : Nat → List Pr
  | 0 => []
  | y + 1 => bif ov y then gI e ov y ++ [e y] else gI e ov y
def gL (ok : Nat → Bool) (e : Nat → Nat → Pr) (ov : Nat → Nat → Bool) (st : Nat → Nat) : Nat → List Pr
  | 0 => []
  | n + 1 => bif ok n then gL ok e ov st n ++ gI (e n) (ov n) (st n) else gL ok e ov st n
theorem gI_t {e : Nat → Pr} {ov : Nat → Bool} {y : Nat} (h : ov y = true) : gI e ov (y + 1) = gI e ov y ++ [e y] := by show (bif ov y then _ else _) = _; rw [h]; rfl
theorem gI_f {e : Nat → Pr} {ov : Nat → Bool} {y : Nat} (h : ov y = false) : gI e ov (y + 1) = gI e ov y := by show (bif ov y then _ else _) = _; rw [h]; rfl
theorem gL_t {ok : Nat → Bool} {e : Nat → Nat → Pr} {ov : Nat → Nat → Bool} {st : Nat → Nat} {n : Nat} (h : ok n = true) : gL ok e ov st (n + 1) = gL ok e ov st n ++ gI (e n) (ov n) (st n) := by show (bif ok n then _ else _) = _; rw [h]; rfl
theorem gL_f {ok : Nat → Bool} {e : Nat → Nat → Pr} {ov : Nat → Nat → Bool} {st : Nat → Nat} {n : Nat} (h : ok n = false) : gL ok e ov st (n + 1) = gL ok e ov st n := by show (bif ok n then _ else _) = _; rw [h]; rfl
theorem gI_mono {e : Nat → Pr} {ov : Nat → Bool} : ∀ {m j : Nat}, j ≤ m → (gI e ov j).length ≤ (gI e ov m).length
  | 0, j, h => by obtain rfl : j = 0 := by omega
                  exact Nat.le_refl _
  | m + 1, j, h => by
    rcases Nat.lt_or_eq_of_le h with c | c
    · refine Nat.le_trans (gI_mono (Nat.le_of_lt_succ c)) ?_
      cases hk : ov m
      · rw [gI_f hk]; exact Nat.le_refl _
      · rw [gI_t hk]; simp
    · subst c; exact Nat.le_refl _
theorem gL_mono {ok : Nat → Bool} {e : Nat → Nat → Pr} {ov : Nat → Nat → Bool} {st : Nat → Nat} : ∀ {n i : Nat}, i ≤ n → (gL ok e ov st i).length ≤ (gL ok e ov st n).length
  | 0, i, h => by obtain rfl : i = 0 := by omega
                  exact Nat.le_refl _
  | n + 1, i, h => by
    rcases Nat.lt_or_eq_of_le h with c | c
    · refine Nat.le_trans (gL_mono (Nat.le_of_lt_succ c)) ?_
      cases hk : ok n
      · rw [gL_f hk]; exact Nat.le_refl _
      · rw [gL_t hk]; simp
    · subst c; exact Nat.le_refl _
theorem gI_mem {e : Nat → Pr} {ov : Nat → Bool} {x : Pr} : ∀ {z : Nat}, x ∈ gI e ov z ↔ ∃ y, y < z ∧ ov y = true ∧ x = e y
  | 0 => by simp [gI]
  | z + 1 => by
    cases h : ov z
    · rw [gI_f h, gI_mem]
      constructor
      · rintro ⟨y, h1, h2⟩; exact ⟨y, by omega, h2⟩
      · rintro ⟨y, h1, h2, h3⟩
        refine ⟨y, ?_, h2, h3⟩
        rcases Nat.lt_or_eq_of_le (Nat.le_of_lt_succ h1) with c | c
        · exact c
        · subst c; rw [h] at h2; cases h2
    · rw [gI_t h, List.mem_append, gI_mem, List.mem_singleton]
      constructor
      · rintro (⟨y, h1, h2⟩ | h1)
        · exact ⟨y, by omega, h2⟩
        · exact ⟨z, by omega, h, h1⟩
      · rintro ⟨y, h1, h2, h3⟩
        rcases Nat.lt_or_eq_of_le (Nat.le_of_lt_succ h1) with c | c
        · exact .inl ⟨y, c, h2, h3⟩
        · subst c; exact .inr h3
theorem gL_mem {ok : Nat → Bool} {e : Nat → Nat → Pr} {ov : Nat → Nat → Bool} {st : Nat → Nat} {x : Pr} : ∀ {n : Nat}, x ∈ gL ok e ov st n ↔ ∃ i, i < n ∧ ok i = true ∧ ∃ y, y < st i ∧ ov i y = true ∧ x = e i y
  | 0 => by simp [gL]
  | n + 1 => by
    cases h : ok n
    · rw [gL_f h, gL_mem]
      constructor
      · rintro ⟨i, h1, h2⟩; exact ⟨i, by omega, h2⟩
      · rintro ⟨i, h1, h2, h3⟩
        refine ⟨i, ?_, h2, h3⟩
        rcases Nat.lt_or_eq_of_le (Nat.le_of_lt_succ h1) with c | c
        · exact c
        · subst c; rw [h] at h2; cases h2
    · rw [gL_t h, List.mem_append, gL_mem, gI_mem]
      constructor
      · rintro (⟨i, h1, h2⟩ | h1)
        · exact ⟨i, by omega, h2⟩
        · exact ⟨n, by omega, h, h1⟩
      · rintro ⟨i, h1, h2, h3⟩
        rcases Nat.lt_or_eq_of_le (Nat.le_of_lt_succ h1) with c | c
        · exact .inl ⟨i, c, h2, h3⟩
        · subst c; exact .inr h3
theorem gI_nodup {e : Nat → Pr} {ov : Nat → Bool} : ∀ {z : Nat}, (∀ x y, x < z → y < z → ov x = true → ov y = true → e x = e y → x = y) → (gI e ov z).Nodup
  | 0, _ => List.nodup_nil
  | z + 1, hJ => by
    have ih := gI_nodup (e := e) (ov := ov) (z := z) fun x y h1 h2 => hJ x y (by omega) (by omega)
    cases h : ov z
    · rw [gI_f h]; exact ih
    · rw [gI_t h, List.nodup_append]
      refine ⟨ih, by simp, fun a ha b hb q => ?_⟩
      obtain ⟨y, h1, h2, h3⟩ := gI_mem.1 ha
      have hb := List.mem_singleton.1 hb
      rw [q, hb] at h3
      have := hJ z y (by omega) (by omega) h h2 h3
      omega
theorem gL_nodup {ok : Nat → Bool} {e : Nat → Nat → Pr} {ov : Nat → Nat → Bool} {st : Nat → Nat} : ∀ {n : Nat}, (∀ i y i' y', i < n → i' < n → y < st i → y' < st i' → ov i y = true → ov i' y' = true → e i y = e i' y' → i = i' ∧ y = y') → (gL ok e ov st n).Nodup
  | 0, _ => List.nodup_nil
  | n + 1, hJ => by
    have ih := gL_nodup (ok := ok) (e := e) (ov := ov) (st := st) (n := n) fun i y i' y' h1 h2 => hJ i y i' y' (by omega) (by omega)
    cases h : ok n
    · rw [gL_f h]; exact ih
    · rw [gL_t h, List.nodup_append]
      refine ⟨ih, gI_nodup fun x y h1 h2 h3 h4 h5 => (hJ n x n y (by omega) (by omega) h1 h2 h3 h4 h5).2, fun a ha b hb q => ?_⟩
      obtain ⟨i, h1, _, y, h2, h3, h4⟩ := gL_mem.1 ha
      obtain ⟨z, h5, h6, h7⟩ := gI_mem.1 hb
      rw [q, h7] at h4
      have := (hJ n z i y (by omega) (by omega) h5 h2 h6 h3 h4).1
      omega
theorem gI_pair {i : Nat} {ov : Nat → Bool} : ∀ {z : Nat}, (gI (fun y => ((i : Int), ((i + 1 + y : Nat) : Int))) ov z).Pairwise LX
  | 0 => List.Pairwise.nil
  | z + 1 => by
    cases h : ov z
    · rw [gI_f h]; exact gI_pair
    · rw [gI_t h, List.pairwise_append]
      refine ⟨gI_pair, List.pairwise_singleton _ _, fun a ha b hb => ?_⟩
      obtain ⟨y, h1, _, h3⟩ := gI_mem.1 ha
      rw [List.mem_singleton.1 hb, h3]
      exact .inr ⟨rfl, by dsimp only; omega⟩
theorem gL_pair {ok : Nat → Bool} {ov : Nat → Nat → Bool} {st : Nat → Nat} : ∀ {n : Nat}, (gL ok (fun i y => ((i : Int), ((i + 1 + y : Nat) : Int))) ov st n).Pairwise LX
  | 0 => List.Pairwise.nil
  | n + 1 => by
    cases h : ok n
    · rw [gL_f h]; exact gL_pair
    · rw [gL_t h, List.pairwise_append]
      refine ⟨gL_pair, gI_pair, fun a ha b hb => ?_⟩
      obtain ⟨i, h1, _, y, _, _, h3⟩ := gL_mem.1 ha
      obtain ⟨z, _, _, h4⟩ := gI_mem.1 hb
      rw [h3, h4]
      exact .inl (by dsimp only; omega)
structure PrIn (n c : Nat) (okP : Nat → Bool) (J : Nat → Nat) (brk ov meet : Nat → Nat → Bool) : Prop where
  inj : ∀ x y, x < c → y < c → J x = J y → x = y
  sym : ∀ x y, ov x y = ov y x
  lt : ∀ z, z < c → J z < n ∧ okP (J z) = true
  has : ∀ j, j < n → okP j = true → ∃ z, z < c ∧ J z = j
  meet : ∀ i j, meet i j = (okP i && okP j && ov i j)
  brk : ∀ x z, x < z → z < c → ov (J x) (J z) = true → ∀ y, x < y → y ≤ z → brk x y = false
def pE (J : Nat → Nat) (x y : Nat) : Pr := ((min (J x) (J (x + 1 + y)) : Nat), (max (J x) (J (x + 1 + y)) : Nat))
def pOv (J : Nat → Nat) (ov : Nat → Nat → Bool) (x y : Nat) : Bool := ov (J x) (J (x + 1 + y))
def pSt (brk : Nat → Nat → Bool) (c x : Nat) : Nat := stp (fun y => brk x (x + 1 + y)) (c - (x + 1)) 0
def pL (J : Nat → Nat) (brk ov : Nat → Nat → Bool) (c : Nat) : Nat → List Pr := gL (fun _ => true) (pE J) (pOv J ov) (pSt brk c)
def rL (okP : Nat → Bool) (meet : Nat → Nat → Bool) (n : Nat) : Nat → List Pr := gL okP (fun i y => ((i : Int), ((i + 1 + y : Nat) : Int))) (fun i y => meet i (i + 1 + y)) (fun i => n - (i + 1))
theorem pr_perm {n c : Nat} {okP : Nat → Bool} {J : Nat → Nat} {brk ov meet : Nat → Nat → Bool} (h : PrIn n c okP J brk ov meet) : (pL J brk ov c c).Perm (rL okP meet n n) := by
  have hst : ∀ x y, x < c → y < pSt brk c x → x + 1 + y < c := fun x y hx hy => by
    have := stp_le (fun y => brk x (x + 1 + y)) (c - (x + 1)) 0
    unfold pSt at hy; omega
  refine (List.perm_ext_iff_of_nodup (gL_nodup fun i y i' y' h1 h2 h3 h4 _ _ h5 => ?_) (gL_pair.imp fun {a b} (q : LX a b) => fun w => ?_)).2 fun x => ?_
  · have q1 := hst i y h1 h3
    have q2 := hst i' y' h2 h4
    have e1 : (min (J i) (J (i + 1 + y)) : Nat) = min (J i') (J (i' + 1 + y')) := by have := congrArg Prod.fst h5; exact Int.ofNat.inj this
    have e2 : (max (J i) (J (i + 1 + y)) : Nat) = max (J i') (J (i' + 1 + y')) := by have := congrArg Prod.snd h5; exact Int.ofNat.inj this
    have hc : (J i = J i' ∧ J (i + 1 + y) = J (i' + 1 + y')) ∨ (J i = J (i' + 1 + y') ∧ J (i + 1 + y) = J i') := by omega
    rcases hc with ⟨a, b⟩ | ⟨a, b⟩
    · have a1 := h.inj _ _ (by omega) (by omega) a
      have b1 := h.inj _ _ q1 q2 b
      exact ⟨a1, by omega⟩
    · have a1 := h.inj _ _ (by omega) q2 a
      have b1 := h.inj _ _ q1 (by omega) b
      omega
  · subst w; unfold LX at q; omega
  rw [gL_mem, gL_mem]
  constructor
  · rintro ⟨z, h1, _, y, h2, h3, rfl⟩
    have q := hst z y h1 h2
    obtain ⟨l1, o1⟩ := h.lt z h1
    obtain ⟨l2, o2⟩ := h.lt _ q
    have hne : J z ≠ J (z + 1 + y) := fun e => by have := h.inj _ _ h1 q e; omega
    have h3 : ov (J z) (J (z + 1 + y)) = true := h3
    rcases Nat.lt_or_gt_of_ne hne with c1 | c1
    · refine ⟨J z, l1, o1, J (z + 1 + y) - (J z + 1), by omega, ?_, ?_⟩
      · show meet (J z) (J z + 1 + (J (z + 1 + y) - (J z + 1))) = true
        rw [show J z + 1 + (J (z + 1 + y) - (J z + 1)) = J (z + 1 + y) by omega, h.meet, o1, o2, h3]; rfl
      · unfold pE
        rw [show min (J z) (J (z + 1 + y)) = J z by omega, show max (J z) (J (z + 1 + y)) = J z + 1 + (J (z + 1 + y) - (J z + 1)) by omega]
    · refine ⟨J (z + 1 + y), l2, o2, J z - (J (z + 1 + y) + 1), by omega, ?_, ?_⟩
      · show meet (J (z + 1 + y)) (J (z + 1 + y) + 1 + (J z - (J (z + 1 + y) + 1))) = true
        rw [show J (z + 1 + y) + 1 + (J z - (J (z + 1 + y) + 1)) = J z by omega, h.meet, o1, o2, h.sym, h3]; rfl
      · unfold pE
        rw [show min (J z) (J (z + 1 + y)) = J (z + 1 + y) by omega, show max (J z) (J (z + 1 + y)) = J (z + 1 + y) + 1 + (J z - (J (z + 1 + y) + 1)) by omega]
  · rintro ⟨i, h1, h2, y, h3, h4, rfl⟩
    have h4 : meet i (i + 1 + y) = true := h4
    rw [h.meet, Bool.and_eq_true, Bool.and_eq_true] at h4
    obtain ⟨⟨_, o2⟩, o3⟩ := h4
    obtain ⟨a, ha, ea⟩ := h.has i h1 h2
    obtain ⟨b, hb, eb⟩ := h.has (i + 1 + y) (by omega) o2
    have hne : a ≠ b := fun e => by subst e; omega
    have key : ∀ u v, u < v → v < c → ov (J u) (J v) = true → v - (u + 1) < pSt brk c u := fun u v huv hv ho => by
      refine stp_gt _ _ _ _ (Nat.zero_le _) (by omega) fun w _ hw => h.brk u v huv hv ho _ (by omega) (by omega)
    rcases Nat.lt_or_gt_of_ne hne with c1 | c1
    · have ho : ov (J a) (J b) = true := by rw [ea, eb]; exact o3
      refine ⟨a, ha, rfl, b - (a + 1), key a b c1 hb ho, ?_, ?_⟩
      · show ov (J a) (J (a + 1 + (b - (a + 1)))) = true
        rw [show a + 1 + (b - (a + 1)) = b by omega]; exact ho
      · unfold pE
        rw [show a + 1 + (b - (a + 1)) = b by omega, ea, eb, show min i (i + 1 + y) = i by omega, show max i (i + 1 + y) = i + 1 + y by omega]
    · have ho : ov (J b) (J a) = true := by rw [ea, eb, h.sym]; exact o3
      refine ⟨b, hb, rfl, a - (b + 1), key b a c1 ha ho, ?_, ?_⟩
      · show ov (J b) (J (b + 1 + (a - (b + 1)))) = true
        rw [show b + 1 + (a - (b + 1)) = a by omega]; exact ho
      · unfold pE
        rw [show b + 1 + (a - (b + 1)) = a by omega, ea, eb, show min (i + 1 + y) i = i by omega, show max (i + 1 + y) i = i + 1 + y by omega]
end Go.Ev.So

namespace Go.Ev.So
end Go.Ev.So

open Go.Proofs Go.Shelf
namespace Go.Ev
/-! ## slices.SortFunc on a list of pairs of numbers, by the kit's contract -/
def i2E (x : Int × Int) : List Value := [.int .i64 x.1, .int .i64 x.2]
def rowI2 (d : Nat → Int × Int) : Nat → List MV := fun k => [.i .i64 (d k).1, .i .i64 (d k).2]
def arrI2 (n : Nat) (d : Nat → Int × Int) : Array (Int × Int) := (Array.range n).map d
theorem arrI2_size (n : Nat) (d : Nat → Int × Int) : (arrI2 n d).size = n := by simp [arrI2]
theorem arrI2_get {n : Nat} {d : Nat → Int × Int} {k : Nat} (h : k < n) : (arrI2 n d)[k]! = d k := by
  rw [getElem!_pos _ k (by rw [arrI2_size]; exact h)]
  simp [arrI2]
def srtI2 (cf : Int × Int → Int × Int → Int) (n : Nat) (d : Nat → Int × Int) : Array (Int × Int) := ((arrI2 n d).toList.mergeSort fun x y => !(ltOf cf) y x).toArray
theorem srtI2_size (cf : Int × Int → Int × Int → Int) (n : Nat) (d : Nat → Int × Int) : (srtI2 cf n d).size = n := by
  unfold srtI2
  simp [arrI2_size]
theorem i2E_get (x : Int × Int) {j : Nat} (hj : j < 2) : (i2E x)[j]! = .int .i64 (if j = 0 then x.1 else x.2) := by
  have : j = 0 ∨ j = 1 := by omega
  rcases this with rfl | rfl <;> rfl
theorem putCells_get {F c : Array Value} {k : Nat} (hk : k < F.size) (hc : k < c.size) : (Sort.putCells id 0 F c).getD k undef = F[k]! := by
  have hs : (Sort.putCells id 0 F c).size = c.size := by simp [Sort.putCells]
  rw [Array.getD_eq_getD_getElem?, Array.getElem?_eq_getElem (by rw [hs]; exact hc)]
  simp only [Sort.putCells, Array.getElem_mapIdx, Option.getD_some]
  rw [if_pos ⟨Nat.zero_le _, by omega⟩, Nat.sub_zero]; rfl
theorem putCells_size {F c : Array Value} : (Sort.putCells id 0 F c).size = c.size := by simp [Sort.putCells]
theorem heap_sort {w : World} {blk m : Nat} {dk : Array (Int × Int)} {os : Array Obj} {c : Array Value} {T : TypeId} {fr : Nat × Nat} (hb : w.heap[blk]? = some (.cells c T fr)) :
    (sortWorldK i2E 2 w blk 0 m dk os).heap[blk]? = some (.cells (Sort.putCells id 0 (Sort.flatK i2E 2 dk) c) T fr) := by
  have hlt : blk < w.heap.size := by
    rcases Nat.lt_or_ge blk w.heap.size with h | h
    · exact h
    · rw [Array.getElem?_eq_none h] at hb; cases hb
  show ((w.heap.modify blk (Sort.onCells (Sort.putCells id 0 (Sort.flatK i2E 2 dk)))) ++ os)[blk]? = _
  rw [Array.getElem?_append_left (by simpa using hlt), Array.getElem?_modify, if_pos rfl, hb]
  rfl
theorem heap_sort_ne {w : World} {blk m k : Nat} {dk : Array (Int × Int)} {os : Array Obj} (hk : k < w.heap.size) (hne : k ≠ blk) :
    (sortWorldK i2E 2 w blk 0 m dk os).heap[k]? = w.heap[k]? := by
  show ((w.heap.modify blk (Sort.onCells (Sort.putCells id 0 (Sort.flatK i2E 2 dk)))) ++ os)[k]? = _
  rw [Array.getElem?_append_left (by simpa using hk), Array.getElem?_modify, if_neg (fun h => hne h.symm)]
theorem CU.sortFunc {P : Program} {r : Ren} (L : SlLaysF0.n6 P r) (aE : ∀ w, (isAgg (r.t 24)).run P w = .ok true w) (zE : ∀ w, (Go.sizeOf (r.t 24)).run P w = .ok 2 w) (cf : Int × Int → Int × Int → Int) (hO : Sort.SWO (ltOf cf))
    (hT : ∀ x y, (ltOf cf) x y = false → (ltOf cf) y x = false → x = y) (g : Nat) (eg : ∀ args w, (callFunc g args).run P w = .ok (.enter g args) w)
    (hcl : ∀ (x y : Int × Int) (W : World), Calls P g #[.agg #[.int .i64 x.1, .int .i64 x.2], .agg #[.int .i64 y.1, .int .i64 y.2]] W fun e w' => e = .returned (.int .i64 (cf x y)) ∧ ∃ q os', w' = Sort.grow (W.drewN q) os')
    {f : FuncId} (hf : r.f 6 = f) (he : Enters P f) (n : Nat) (hn : n < 4611686018427387904) (d : Nat → Int × Int) : CU P f 2 n (rowI2 d) (rowI2 fun k => (srtI2 cf n d)[k]!) [.fn g [] []] := by
  subst hf
  refine ⟨he, fun i _ j hj => ?_, fun cx w ρ vs hw hW hr => ?_⟩
  · have : j = 0 ∨ j = 1 := by omega
    rcases this with rfl | rfl <;> rfl
  subst hw
  have hlen : 2 = vs.length := hr.len
  obtain ⟨v, fv, rfl⟩ : ∃ v fv, vs = [v, fv] := by
    match vs, hlen with
    | [v, fv], _ => exact ⟨v, fv, rfl⟩
  have r0 : Rep cx.w0 G0 ρ (okS cx ρ cx.w0) (.os 0 2 0 n) v := hr.rep 0 (by simp)
  have r1 : Rep cx.w0 G0 ρ (okS cx ρ cx.w0) (.fn g [] []) fv := hr.rep 1 (by simp)
  obtain rfl : fv = .func (.func g) #[] #[] := by
    cases r1 with
    | fn _ _ _ vs us hl hm h h' =>
      have e1 : vs = #[] := Array.eq_empty_of_size_eq_zero hl.symm
      have e2 : us = #[] := Array.eq_empty_of_size_eq_zero hm.symm
      rw [e1, e2]
  have none0 : ∀ p cap, n = 0 → Calls P (r.f 6) #[.slice p n cap, .func (.func g) #[] #[]] cx.w0 fun e w' => ∃ v, e = .returned v ∧ BelowX cx.X cx.w0 w' ∧ BlkOK w' ρ (fun _ => False) 0 (.rows 2 n (rowI2 fun k => (srtI2 cf n d)[k]!)) ∧ Rep w' G0 rho0 (fun _ => False) (.tup []) v := by
    rintro p cap rfl
    refine (AnyF.slices_SortFunc_none L p cap _ cx.w0).mono ?_
    rintro e w' ⟨rfl, rfl⟩
    refine ⟨_, rfl, BelowX.refl _ _, ?_, .tup _ _ rfl fun j hj => absurd hj (Nat.not_lt_zero _)⟩
    rcases hW.blocks 0 _ rfl with ⟨h1, h2⟩ | ⟨b, c, T, h1, h2, h3, h5, h4⟩
    · exact .inl ⟨rfl, h2⟩
    · exact .inr ⟨b, c, T, h1, h2, by omega, fun j hj => by omega, fun i hi => by omega⟩
  cases r0 with
  | osnil => exact none0 none 0 rfl
  | os _ _ _ _ blk cap off c T hρ hn' hoff hb hcap =>
    rcases Nat.eq_zero_or_pos n with h0 | hpos
    · exact none0 _ _ h0
    obtain rfl : off = 0 := by omega
    rcases hW.blocks 0 _ rfl with ⟨h1, h2⟩ | ⟨b, c', T', h1, h2, h3, h5, h4⟩
    · omega
    obtain rfl : blk = b := by rw [hρ] at h1; cases h1; rfl
    obtain ⟨rfl, rfl⟩ : c = c' ∧ T = T' := by rw [hb] at h2; cases h2; exact ⟨rfl, rfl⟩
    have hblk := (hW.rng 0 blk hρ).1
    have hX : cx.X blk := by
      rcases (hW.rng 0 blk hρ).2 with q | q
      · omega
      · exact q
    have hH : Sort.HoldsK i2E 2 cx.w0 blk 0 (arrI2 n d) := by
      intro t ht
      rw [Sort.size_flatK, arrI2_size] at ht
      have ht2 : t / 2 < n := by omega
      have htm : t % 2 < 2 := Nat.mod_lt _ (by omega)
      have e0 : t / 2 * 2 + t % 2 = t := by omega
      have hr4 := h4 (t / 2) ht2 (t % 2) htm
      rw [e0] at hr4
      rw [Sort.get_flatK _ _ _ _ (by rw [arrI2_size]; exact ht), arrI2_get ht2, i2E_get _ htm]
      refine ⟨?_, ?_⟩
      · show (match cx.w0.heap[blk]? with | some (.cells c _ _) => if (none : Option _).isSome = true then none else c[0 + t]? | _ => none) = _
        rw [hb]
        dsimp only
        rw [Nat.zero_add, Array.getElem?_eq_getElem (by omega)]
        rw [Array.getD_eq_getD_getElem?, Array.getElem?_eq_getElem (show t < c.size by omega), Option.getD_some] at hr4
        rw [if_neg (by simp)]
        have hm : t % 2 = 0 ∨ t % 2 = 1 := by omega
        rcases hm with hm | hm <;> rw [hm] at hr4 ⊢
        · generalize c[t] = x at hr4 ⊢
          have hr4 : Rep cx.w0 G0 rho0 (okS cx ρ cx.w0) (.i .i64 (d (t / 2)).1) x := hr4
          cases hr4; rfl
        · generalize c[t] = x at hr4 ⊢
          have hr4 : Rep cx.w0 G0 rho0 (okS cx ρ cx.w0) (.i .i64 (d (t / 2)).2) x := hr4
          cases hr4; rfl
      · show (match cx.w0.heap[blk]? with | some (.cells _ _ (lo, hi)) => decide (lo ≤ 0 + t) && decide (0 + t < hi) | _ => false) = false
        rw [hb]; simp
    have hcon := AnyQ.slices_SortFunc_total L 2 aE zE i2E (fun _ => rfl) (fun x v hv => by simp [i2E] at hv; rcases hv with rfl | rfl <;> rfl) cf hO g #[] blk 0 cap (arrI2 n d) cx.w0 eg (fun _ _ _ _ x y => hcl x y _) hH hblk (by rw [arrI2_size]; exact hn) hT
    rw [arrI2_size] at hcon
    refine hcon.mono ?_
    rintro e w' ⟨rfl, m, os, rfl⟩
    refine ⟨_, rfl, ⟨rfl, rfl, rfl, size_sortWorldK_c i2E 2 cx.w0 blk 0 m _ os, fun k hk hx => heap_sort_ne hk fun h => hx (h ▸ hX), ?_⟩, .inr ⟨blk, _, T, hρ, heap_sort hb, by rw [putCells_size]; exact h3, fun j hj => ?_, fun i hi j hj => ?_⟩, .tup _ _ rfl fun j hj => absurd hj (Nat.not_lt_zero _)⟩
    · intro b c2 T2 fr hb2
      by_cases hbb : b = blk
      · subst hbb
        rw [hb] at hb2; cases hb2
        exact ⟨_, heap_sort hb, putCells_size⟩
      · refine ⟨c2, (heap_sort_ne ?_ hbb).trans hb2, rfl⟩
        rcases Nat.lt_or_ge b cx.w0.heap.size with h | h
        · exact h
        · rw [Array.getElem?_eq_none h] at hb2; cases hb2
    · have hs : j < (srtI2 cf n d).size * 2 := by rw [srtI2_size]; exact hj
      show ((Sort.putCells id 0 (Sort.flatK i2E 2 (srtI2 cf n d)) c).getD j undef).oneCell' = true
      rw [putCells_get (by rw [Sort.size_flatK]; exact hs) (by omega), Sort.get_flatK _ _ _ _ hs, i2E_get _ (Nat.mod_lt _ (by omega))]
      rfl
    · have hj2 : i * 2 + j < n * 2 := by omega
      have hs : i * 2 + j < (srtI2 cf n d).size * 2 := by rw [srtI2_size]; exact hj2
      show Rep _ G0 rho0 _ _ ((Sort.putCells id 0 (Sort.flatK i2E 2 (srtI2 cf n d)) c).getD (i * 2 + j) undef)
      rw [putCells_get (by rw [Sort.size_flatK]; exact hs) (by omega), Sort.get_flatK _ _ _ _ hs, i2E_get _ (Nat.mod_lt _ (by omega)), show (i * 2 + j) / 2 = i by omega, show (i * 2 + j) % 2 = j by omega]
      have : j = 0 ∨ j = 1 := by omega
      rcases this with rfl | rfl
      · exact .i _ _
      · exact .i _ _
end Go.Ev

open Go.Proofs Go.Shelf
namespace Go.Ev
open Go.Ev.So
/-! ## Pairs of numbers in their order -/
def orI (a b : Int) : Int := bif a != 0 then a else bif b != 0 then b else 0
def cfP (x y : Int × Int) : Int := orI (Lib.compareInt x.1 y.1) (Lib.compareInt x.2 y.2)
theorem ltP (x y : Int × Int) : ltOf cfP x y = true ↔ LX x y := by
  unfold ltOf cfP orI Lib.compareInt LX
  rw [decide_eq_true_eq]
  by_cases h1 : x.1 < y.1
  · simp [h1]
  · by_cases h2 : y.1 < x.1
    · simp [h1, h2]; omega
    · by_cases h3 : x.2 < y.2
      · simp [h1, h2, h3]; omega
      · by_cases h4 : y.2 < x.2
        · simp [h1, h2, h3, h4]
        · simp [h1, h2, h3, h4]
theorem ltPf (x y : Int × Int) : ltOf cfP x y = false ↔ ¬ LX x y := by rw [← ltP]; simp
theorem swoP : Sort.SWO (ltOf cfP) where
  irrefl x := by rw [ltPf]; unfold LX; omega
  trans x y z h1 h2 := by rw [ltP] at *; unfold LX at *; omega
  ntrans x y z h1 h2 := by rw [ltPf] at *; unfold LX at *; omega
theorem totP (x y : Int × Int) (h1 : ltOf cfP x y = false) (h2 : ltOf cfP y x = false) : x = y := by
  rw [ltPf] at h1 h2
  unfold LX at h1 h2
  exact Prod.ext (by omega) (by omega)
def gP (l : List (Int × Int)) : Nat → Int × Int := fun k => l.getD k (0, 0)
theorem arr_list (l : List (Int × Int)) : (arrI2 l.length (gP l)).toList = l := by
  unfold arrI2 gP
  apply List.ext_getElem?
  intro i
  rcases Nat.lt_or_ge i l.length with h | h
  · simp [h, List.getD_eq_getElem?_getD]
  · simp [h]
theorem srt_eq {L R : List (Int × Int)} (hp : L.Perm R) (hR : R.Pairwise LX) : (srtI2 cfP L.length (gP L)).toList = R := by
  unfold srtI2
  rw [arr_list]
  exact sort_eq hp hR _ fun x y => by rw [← ltPf]; simp
theorem srt_get {L R : List (Int × Int)} (hp : L.Perm R) (hR : R.Pairwise LX) {k : Nat} (hk : k < L.length) : (srtI2 cfP L.length (gP L))[k]! = gP R k := by
  have h := srt_eq hp hR
  have hs := srtI2_size cfP L.length (gP L)
  generalize srtI2 cfP L.length (gP L) = A at h hs ⊢
  subst h
  unfold gP
  rw [getElem!_pos A k (by omega), List.getD_eq_getElem?_getD, Array.getElem?_toList, Array.getElem?_eq_getElem (by omega)]; rfl
end Go.Ev
