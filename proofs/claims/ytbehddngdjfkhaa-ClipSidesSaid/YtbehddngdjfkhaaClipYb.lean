/-
  What planes leave, one after the other, lies within each of them but for a little; for planes and points that are let pass.
-/
import Derived.Test.YtbehddngdjfkhaaClipYa
set_option linter.unusedSimpArgs false
set_option linter.unusedVariables false
open Go Go.Proofs
namespace Go.Ev.Clip
open Ieee
set_option maxRecDepth 100000
theorem leV_mem {nx ny pf n : Nat} {p : Nat → Nat × Nat} {x : Nat × Nat} (h : x ∈ leV (nx, ny, pf) n p) : ∃ i, i < n ∧ ((x = p i ∧ fle .f64 (bey nx ny pf (p i).1 (p i).2) 0 = true) ∨
    (x = (cutc (p i).1 (p (nxt n i)).1 (bey nx ny pf (p i).1 (p i).2) (bey nx ny pf (p (nxt n i)).1 (p (nxt n i)).2), cutc (p i).2 (p (nxt n i)).2 (bey nx ny pf (p i).1 (p i).2) (bey nx ny pf (p (nxt n i)).1 (p (nxt n i)).2)) ∧
      (fle .f64 (bey nx ny pf (p i).1 (p i).2) 0 != fle .f64 (bey nx ny pf (p (nxt n i)).1 (p (nxt n i)).2) 0) = true)) := by
  unfold leV at h
  rw [lfL_eq] at h
  exact Le.lf_mem (Wp nx ny pf) (Cp nx ny pf) eqP z2 p (nxt n) (end_sub h)
theorem fle_sign {a b : Nat} (fa : fin .f64 a = true) (fb : fin .f64 b = true) (h : (fle .f64 a 0 != fle .f64 b 0) = true) : (val a ≤ 0 ∧ 0 < val b) ∨ (0 < val a ∧ val b ≤ 0) := by
  have qa := fle_val fa val_0.1
  have qb := fle_val fb val_0.1
  rw [val_0.2] at qa qb
  cases ha : fle .f64 a 0 <;> cases hb : fle .f64 b 0
  · rw [ha, hb] at h; cases h
  · right
    have : ¬ val a ≤ 0 := fun c => by rw [qa.2 c] at ha; cases ha
    exact ⟨by grind, qb.1 hb⟩
  · left
    have : ¬ val b ≤ 0 := fun c => by rw [qb.2 c] at hb; cases hb
    exact ⟨qa.1 ha, by grind⟩
  · rw [ha, hb] at h; cases h
theorem left_step {nx ny pf n : Nat} {p : Nat → Nat × Nat} {M m R : Rat} (h : MM M m) (h1 : Fl nx (33 / 32)) (h2 : Fl ny (33 / 32)) (hf : Fl pf M) (hR : R ≤ 33 / 32 * M) (hR0 : 0 ≤ R) (hp : ∀ k, k < n → Fl (p k).1 R ∧ Fl (p k).2 R) {x : Nat × Nat} (hx : x ∈ leV (nx, ny, pf) n p) :
    Fl x.1 (R + 23 * m) ∧ Fl x.2 (R + 23 * m) ∧ exc nx ny pf x.1 x.2 ≤ 60 * m ∧ ∀ (n1 n2 fr : Nat) (Z : Rat), Fl n1 (33 / 32) → Fl n2 (33 / 32) → (∀ k, k < n → exc n1 n2 fr (p k).1 (p k).2 ≤ Z) → exc n1 n2 fr x.1 x.2 ≤ Z + 48 * m := by
  obtain ⟨hm0, _⟩ := h.facts
  obtain ⟨i, hi, hcas⟩ := leV_mem hx
  have hl : nxt n i < n := Nat.mod_lt _ (by omega)
  obtain ⟨a1, a2⟩ := hp i hi
  obtain ⟨b1, b2⟩ := hp _ hl
  obtain ⟨fa, ea, ba⟩ := bey_err h.hm h.h1 h.h2 h1 h2 hf (a1.mono hR) (a2.mono hR)
  obtain ⟨fb, eb, bb⟩ := bey_err h.hm h.h1 h.h2 h1 h2 hf (b1.mono hR) (b2.mono hR)
  have fa' : fin .f64 (bey nx ny pf (p i).1 (p i).2) = true := fa
  have fb' : fin .f64 (bey nx ny pf (p (nxt n i)).1 (p (nxt n i)).2) = true := fb
  rcases hcas with ⟨rfl, hw⟩ | ⟨rfl, hw⟩
  · refine ⟨a1.mono (by grind), a2.mono (by grind), ?_, fun n1 n2 fr Z _ _ hz => ?_⟩
    · have hle := (fle_val fa' val_0.1).1 hw
      rw [val_0.2] at hle
      have hle : val (Go.Ev.bey nx ny pf (p i).1 (p i).2) ≤ 0 := hle
      obtain ⟨x1, x2⟩ := ea
      unfold exc
      grind
    · have := hz i hi
      grind
  · have sg := fle_sign fa' fb' hw
    have key := fun Z => cut_exc (Z := Z) h (a1.mono hR) (a2.mono hR) (b1.mono hR) (b2.mono hR) ⟨fa', ba⟩ ⟨fb', bb⟩ sg
    obtain ⟨fx, fy, rx, ry, hxx⟩ := key 0
    refine ⟨⟨fx, rx R a1.b b1.b⟩, ⟨fy, ry R a2.b b2.b⟩, ?_, fun n1 n2 fr Z q1 q2 hz => ?_⟩
    · obtain ⟨x1, x2⟩ := ea
      obtain ⟨y1, y2⟩ := eb
      exact (hxx nx ny pf (val (bey nx ny pf (p i).1 (p i).2) + 12 * m) (val (bey nx ny pf (p (nxt n i)).1 (p (nxt n i)).2) + 12 * m) h1 h2 (by
        have e : val (bey nx ny pf (p i).1 (p i).2) = val (Go.Ev.bey nx ny pf (p i).1 (p i).2) := rfl
        rw [e]; unfold exc; grind) (by
        have e : val (bey nx ny pf (p (nxt n i)).1 (p (nxt n i)).2) = val (Go.Ev.bey nx ny pf (p (nxt n i)).1 (p (nxt n i)).2) := rfl
        rw [e]; unfold exc; grind)).2 Rat.le_refl Rat.le_refl
    · obtain ⟨_, _, _, _, hxz⟩ := key Z
      exact (hxz n1 n2 fr Z Z q1 q2 (hz i hi) (hz _ hl)).1 Rat.le_refl Rat.le_refl
def tm (m : Rat) : Nat → Rat
  | 0 => 0
  | j + 1 => tm m j + m
theorem tm_0 {m : Rat} (h : 0 ≤ m) : ∀ j, 0 ≤ tm m j
  | 0 => Rat.le_refl
  | j + 1 => by have := tm_0 h j; show 0 ≤ tm m j + m; grind
theorem tm_up {m : Rat} (h : 0 ≤ m) : ∀ {i j : Nat}, i ≤ j → tm m i ≤ tm m j
  | i, 0, hij => by obtain rfl : i = 0 := by omega
                    exact Rat.le_refl
  | i, j + 1, hij => by
    rcases Nat.lt_or_eq_of_le hij with c | c
    · have := tm_up h (i := i) (j := j) (by omega)
      show tm m i ≤ tm m j + m
      grind
    · subst c; exact Rat.le_refl
theorem tm_64 (m : Rat) : tm m 64 = 64 * m := by
  simp only [tm]
  grind
theorem both_inv {n k : Nat} {p : Nat → Nat × Nat} {S : Nat → Pl} {M m R : Rat} (h : MM M m) (hS : ∀ i, i < k → Fl (S i).1 (33 / 32) ∧ Fl (S i).2.1 (33 / 32) ∧ Fl (S i).2.2 M) (hk : k ≤ 64) (hR : R ≤ M) (hR0 : 0 ≤ R) (hp : ∀ i, i < n → Fl (p i).1 R ∧ Fl (p i).2 R) :
    ∀ j, j ≤ k → ∀ x, x ∈ bothL S n p j → Fl x.1 (R + tm (23 * m) j) ∧ Fl x.2 (R + tm (23 * m) j) ∧ (∀ i, i < j → exc (S i).1 (S i).2.1 (S i).2.2 x.1 x.2 ≤ 60 * m + tm (48 * m) j) ∧
      ∀ (n1 n2 fr : Nat) (Z : Rat), Fl n1 (33 / 32) → Fl n2 (33 / 32) → (∀ i, i < n → exc n1 n2 fr (p i).1 (p i).2 ≤ Z) → exc n1 n2 fr x.1 x.2 ≤ Z + tm (48 * m) j
  | 0, _, x, hx => by
    have hx : x ∈ (List.range n).map p := hx
    obtain ⟨i, hi, rfl⟩ := List.mem_map.1 hx
    have hi := List.mem_range.1 hi
    refine ⟨(hp i hi).1.mono (by show R ≤ R + 0; grind), (hp i hi).2.mono (by show R ≤ R + 0; grind), fun i hi => absurd hi (Nat.not_lt_zero _), fun n1 n2 fr Z _ _ hz => ?_⟩
    have := hz i hi
    show _ ≤ Z + 0
    grind
  | j + 1, hj, x, hx => by
    obtain ⟨hm0, hm1, _⟩ := h.facts
    have hM1 := h.h1
    have ih := both_inv h hS hk hR hR0 hp j (by omega)
    have hx : x ∈ leV (S j) (bothL S n p j).length (fun k => (bothL S n p j).getD k z2) := hx
    have hmem : ∀ i, i < (bothL S n p j).length → (bothL S n p j).getD i z2 ∈ bothL S n p j := fun i hi => getD_mem hi
    have t0 := tm_0 (show 0 ≤ 23 * m by grind) j
    have tu := tm_up (show 0 ≤ 23 * m by grind) (show j ≤ 64 by omega)
    rw [tm_64] at tu
    obtain ⟨s1, s2, s3⟩ := hS j (by omega)
    obtain ⟨c1, c2, c3, c4⟩ := left_step (nx := (S j).1) (ny := (S j).2.1) (pf := (S j).2.2) (R := R + tm (23 * m) j) h s1 s2 s3 (by grind) (by grind) (fun i hi => ⟨(ih _ (hmem i hi)).1, (ih _ (hmem i hi)).2.1⟩) hx
    have e23 : tm (23 * m) (j + 1) = tm (23 * m) j + 23 * m := rfl
    have e48 : tm (48 * m) (j + 1) = tm (48 * m) j + 48 * m := rfl
    have t48 := tm_0 (show 0 ≤ 48 * m by grind) j
    refine ⟨c1.mono (by grind), c2.mono (by grind), fun i hi => ?_, fun n1 n2 fr Z q1 q2 hz => ?_⟩
    · rcases Nat.lt_or_eq_of_le (Nat.le_of_lt_succ hi) with c | c
      · obtain ⟨s1, s2, s3⟩ := hS i (by omega)
        have := c4 _ _ (S i).2.2 (60 * m + tm (48 * m) j) s1 s2 fun a ha => (ih _ (hmem a ha)).2.2.1 i c
        grind
      · subst c
        grind
    · have := c4 n1 n2 fr (Z + tm (48 * m) j) q1 q2 fun a ha => (ih _ (hmem a ha)).2.2.2 n1 n2 fr Z q1 q2 hz
      grind
end Go.Ev.Clip
