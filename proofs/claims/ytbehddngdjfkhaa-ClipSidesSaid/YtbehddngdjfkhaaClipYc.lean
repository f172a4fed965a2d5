/-
  What ClipSides asks, of all polygons that Check lets pass.
-/
import Derived.Test.YtbehddngdjfkhaaClipYb
import Derived.Test.YtbehddngdjfkhaaClipXf
set_option linter.unusedSimpArgs false
set_option linter.unusedVariables false
open Go Go.Proofs
namespace Go.Ev.Clip
open Ieee
set_option maxRecDepth 100000
def MB (n : Nat) (p : Nat → Nat × Nat) (m : Nat) (q : Nat → Nat × Nat) : Nat := grt q (grt p 4607182418800017408 n) m
structure SOk (n : Nat) (p : Nat → Nat × Nat) (m : Nat) (q : Nat → Nat × Nat) (l : List (Nat × Nat)) (M : Nat) : Prop where
  chks : ∀ i, i < n → chk (SD n p i).1 (SD n p i).2.1 (SD n p i).2.2 = true
  own : ∀ i, i < n → ∀ k, k < n → inP (SD n p i).1 (SD n p i).2.1 (SD n p i).2.2 M (p k)
  one : ∀ i, i < n → ∀ k, k < l.length → inP (SD n p i).1 (SD n p i).2.1 (SD n p i).2.2 M (l.getD k z2)
  two : ∀ i, i < m → ∀ k, k < l.length → inP (SD m q i).1 (SD m q i).2.1 (SD m q i).2.2 M (l.getD k z2)
theorem mb_ok {n m : Nat} {p q : Nat → Nat × Nat} (hp : ∀ i, i < n → Fl (p i).1 (2 ^ 40) ∧ Fl (p i).2 (2 ^ 40)) (hq : ∀ i, i < m → Fl (q i).1 (2 ^ 40) ∧ Fl (q i).2 (2 ^ 40)) :
    fin .f64 (MB n p m q) = true ∧ 1 ≤ val (MB n p m q) ∧ val (MB n p m q) ≤ 2 ^ 40 ∧ (∀ i, i < n → Fl (p i).1 (val (MB n p m q)) ∧ Fl (p i).2 (val (MB n p m q))) ∧ ∀ i, i < m → Fl (q i).1 (val (MB n p m q)) ∧ Fl (q i).2 (val (MB n p m q)) := by
  obtain ⟨o1, o2⟩ := val_1
  have h40 : (2 : Rat) ^ 40 = 1099511627776 := by grind
  obtain ⟨g1, g2, g3, g4⟩ := grt_ok (p := p) (n := n) (R := 2 ^ 40) o1 (by rw [o2, h40]; grind) hp
  obtain ⟨k1, k2, k3, k4⟩ := grt_ok (p := q) (n := m) (R := 2 ^ 40) g1 g3 hq
  refine ⟨k1, ?_, k3, fun i hi => ⟨(g4 i hi).1.mono k2, (g4 i hi).2.mono k2⟩, k4⟩
  show 1 ≤ val (grt q (grt p 4607182418800017408 n) m)
  rw [o2] at g2
  grind
theorem in_of {n1 n2 f M : Nat} {v : Nat × Nat} {Z : Rat} (hM : fin .f64 M = true) (hM1 : 1 ≤ val M) (hM2 : val M ≤ 2 ^ 40) (h1 : Fl n1 (33 / 32)) (h2 : Fl n2 (33 / 32)) (hf : Fl f (4 * val M)) (hx : Fl v.1 (33 / 32 * (4 * val M))) (hy : Fl v.2 (33 / 32 * (4 * val M)))
    (he : exc n1 n2 f v.1 v.2 ≤ Z) (hZ : Z ≤ 20000 * (val M * EE53)) : inP n1 n2 f M v := by
  have h40 : (2 : Rat) ^ 40 = 1099511627776 := by grind
  have h50 : (2 : Rat) ^ 50 = 1125899906842624 := by grind
  rw [h40] at hM2
  obtain ⟨fb, eb, _⟩ := bey_err (M := 4 * val M) rfl (by grind) (by rw [h50]; grind) h1 h2 hf hx hy
  have mm : MM (val M) (val M * EE53) := ⟨rfl, hM1, by rw [h50]; grind⟩
  obtain ⟨hm0, _⟩ := mm.facts
  refine in_ok2 (e := Go.Ev.bey n1 n2 f v.1 v.2) mm hM fb ?_
  obtain ⟨x1, x2⟩ := eb
  have e : 4 * val M * EE53 = 4 * (val M * EE53) := by grind
  rw [e] at x1
  unfold exc at he
  grind
theorem sides_ok {n m : Nat} {p q : Nat → Nat × Nat} (hp : checkV n p = 0) (hq : checkV m q = 0) : SOk n p m q (boV n p m q) (MB n p m q) := by
  obtain ⟨p3, p64, pw, _⟩ := check_facts hp
  obtain ⟨q3, q64, qw, _⟩ := check_facts hq
  obtain ⟨fM, M1, M40, fp, fq⟩ := mb_ok (n := n) (m := m) (p := p) (q := q) (fun i hi => wth_fl (pw i hi)) fun i hi => wth_fl (qw i hi)
  have h40 : (2 : Rat) ^ 40 = 1099511627776 := by grind
  have h50 : (2 : Rat) ^ 50 = 1125899906842624 := by grind
  have eB : boV n p m q = bothL (SD m q) n p m := by
    refine bo_0 ?_
    unfold twoV
    rw [hp, hq]; rfl
  rw [eB]
  generalize MB n p m q = M at *
  have hE := EE_pos
  have hm : 0 ≤ val M * EE53 := Rat.mul_nonneg (by grind) hE
  have plane : ∀ (n : Nat) (p : Nat → Nat × Nat), checkV n p = 0 → (∀ i, i < n → Fl (p i).1 (val M) ∧ Fl (p i).2 (val M)) → ∀ i, i < n → chk (SD n p i).1 (SD n p i).2.1 (SD n p i).2.2 = true ∧ Fl (SD n p i).1 (33 / 32) ∧ Fl (SD n p i).2.1 (33 / 32) ∧ Fl (SD n p i).2.2 (9 / 4 * val M) ∧ ∀ k, k < n → exc (SD n p i).1 (SD n p i).2.1 (SD n p i).2.2 (p k).1 (p k).2 ≤ 40 * (val M * EE53) := by
    intro n p hc hb i hi
    obtain ⟨n1, n2, f, e1, e2, r⟩ := side_ok hc hi M1 M40 hb
    have eS : SD n p i = (n1, n2, f) := by
      have : SD n p i = ((normV n p i).1, (normV n p i).2, dotV (normV n p i) (p i)) := rfl
      rw [this, e2, e1]
    rw [eS]
    exact r
  have pa := plane n p hp fp
  have pb := plane m q hq fq
  have mm : MM (4 * val M) (4 * (val M * EE53)) := ⟨by grind, by grind, by rw [h40] at M40; rw [h50]; grind⟩
  have inv := both_inv (n := n) (k := m) (p := p) (S := SD m q) (R := val M) mm (fun i hi => ⟨(pb i hi).2.1, (pb i hi).2.2.1, (pb i hi).2.2.2.1.mono (by grind)⟩) q64 (by grind) (by grind) fp m (Nat.le_refl m)
  have t1 := tm_up (show 0 ≤ 23 * (4 * (val M * EE53)) by grind) q64
  have t2 := tm_up (show 0 ≤ 48 * (4 * (val M * EE53)) by grind) q64
  rw [tm_64] at t1 t2
  have hE2 := EE_E2
  have hm2 : val M * EE53 ≤ val M * (1 / 1048576) := Rat.mul_le_mul_of_nonneg_left hE2 (by grind)
  refine ⟨fun i hi => (pa i hi).1, fun i hi k hk => ?_, fun i hi k hk => ?_, fun i hi k hk => ?_⟩
  · obtain ⟨_, a1, a2, a3, a4⟩ := pa i hi
    exact in_of fM M1 M40 a1 a2 (a3.mono (by grind)) ((fp k hk).1.mono (by grind)) ((fp k hk).2.mono (by grind)) (a4 k hk) (by grind)
  · obtain ⟨_, a1, a2, a3, a4⟩ := pa i hi
    obtain ⟨x1, x2, x3, x4⟩ := inv _ (getD_mem hk)
    exact in_of fM M1 M40 a1 a2 (a3.mono (by grind)) (x1.mono (by grind)) (x2.mono (by grind)) (x4 _ _ _ _ a1 a2 a4) (by grind)
  · obtain ⟨_, a1, a2, a3, a4⟩ := pb i hi
    obtain ⟨x1, x2, x3, x4⟩ := inv _ (getD_mem hk)
    exact in_of fM M1 M40 a1 a2 (a3.mono (by grind)) (x1.mono (by grind)) (x2.mono (by grind)) (x3 i hi) (by grind)
end Go.Ev.Clip
