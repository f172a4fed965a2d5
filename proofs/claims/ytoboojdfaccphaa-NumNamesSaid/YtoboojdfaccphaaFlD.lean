/-
  That floats stand in the order of their rungs, and that widening and exact results keep them, for all floats; no condition.
-/
import Derived.Test.YtoboojdfaccphaaEvI
namespace Go.Ev
open Ieee

/-! ## The order of floats is the order of their rungs -/

def sgn (f : Format) (x : Nat) : Bool := x / f.signWeight % 2 == 1
def rg (f : Format) (x : Nat) : Nat := x % f.signWeight
def magOf (f : Format) (r : Nat) : Nat := if r < f.binade then r else (f.binade + r % f.binade) * 2 ^ (r / f.binade - 1)
def sg (s : Bool) (n : Nat) : Int := if s then -(n : Int) else n
def worth (f : Format) (x : Nat) : Int := sg (sgn f x) (rg f x)

theorem binade_pos (f : Format) : 0 < f.binade := Nat.two_pow_pos _

theorem magOf_step (f : Format) (r : Nat) : magOf f r < magOf f (r + 1) := by
  have hb := binade_pos f
  unfold magOf
  generalize f.binade = b at *
  by_cases h1 : r + 1 < b
  · rw [if_pos (by omega), if_pos h1]; omega
  · rw [if_neg h1]
    by_cases h2 : r < b
    · have e : r + 1 = b := by omega
      rw [if_pos h2, e, Nat.mod_self, Nat.div_self hb]
      simp; omega
    · rw [if_neg h2]
      obtain ⟨q, t, ht, rfl⟩ : ∃ q t, t < b ∧ r = b * q + t := ⟨r / b, r % b, Nat.mod_lt _ hb, (Nat.div_add_mod r b).symm⟩
      have hq : 1 ≤ q := by
        rcases Nat.eq_zero_or_pos q with rfl | h
        · omega
        · exact h
      have hm : ∀ t, t < b → (b * q + t) % b = t ∧ (b * q + t) / b = q := fun t ht => by
        refine ⟨by rw [Nat.mul_add_mod]; exact Nat.mod_eq_of_lt ht, ?_⟩
        rw [Nat.mul_add_div hb, Nat.div_eq_of_lt ht, Nat.add_zero]
      rw [(hm t ht).1, (hm t ht).2]
      have hp := Nat.two_pow_pos (q - 1)
      by_cases h3 : t + 1 < b
      · rw [show b * q + t + 1 = b * q + (t + 1) by omega, (hm _ h3).1, (hm _ h3).2]
        exact Nat.mul_lt_mul_of_pos_right (by omega) hp
      · have e : b * q + t + 1 = b * (q + 1) + 0 := by rw [Nat.mul_succ]; omega
        rw [e]
        have e1 : (b * (q + 1) + 0) % b = 0 := by simp
        have e2 : (b * (q + 1) + 0) / b = q + 1 := by simp [Nat.mul_div_cancel_left _ hb]
        rw [e1, e2, show q + 1 - 1 = (q - 1) + 1 by omega, Nat.pow_succ]
        calc (b + t) * 2 ^ (q - 1) < (b + b) * 2 ^ (q - 1) := Nat.mul_lt_mul_of_pos_right (by omega) hp
          _ = (b + 0) * (2 ^ (q - 1) * 2) := by rw [Nat.add_zero, Nat.mul_comm (2 ^ (q-1)) 2, ← Nat.mul_assoc]; congr 1; omega

theorem magOf_mono (f : Format) {r s : Nat} (h : r < s) : magOf f r < magOf f s := by
  induction s with
  | zero => omega
  | succ s ih =>
    rcases Nat.lt_or_ge r s with h1 | h1
    · exact Nat.lt_trans (ih h1) (magOf_step f s)
    · have : r = s := by omega
      subst this; exact magOf_step f r

theorem magOf_zero (f : Format) : magOf f 0 = 0 := by
  unfold magOf
  rw [if_pos (binade_pos f)]

theorem cmp_eq {a b c d : Int} (h1 : a < b ↔ c < d) (h2 : a = b ↔ c = d) : compare a b = compare c d := by
  have e1 := Int.lt_trichotomy a b
  have e2 := Int.lt_trichotomy c d
  simp only [compare, compareOfLessAndEq]
  by_cases x : a < b
  · rw [if_pos x, if_pos (h1.1 x)]
  · rw [if_neg x, if_neg (fun y => x (h1.2 y))]
    by_cases y : a = b
    · rw [if_pos y, if_pos (h2.1 y)]
    · rw [if_neg y, if_neg (fun z => y (h2.2 z))]

theorem cmp_sg (f : Format) (s t : Bool) (r q : Nat) : compare (sg s (magOf f r)) (sg t (magOf f q)) = compare (sg s r) (sg t q) := by
  have m1 : magOf f r < magOf f q ↔ r < q := ⟨fun h => by
    rcases Nat.lt_trichotomy r q with h1 | h1 | h1
    · exact h1
    · subst h1; omega
    · have := magOf_mono f h1; omega, magOf_mono f⟩
  have m2 : magOf f q < magOf f r ↔ q < r := ⟨fun h => by
    rcases Nat.lt_trichotomy r q with h1 | h1 | h1
    · have := magOf_mono f h1; omega
    · subst h1; omega
    · exact h1, magOf_mono f⟩
  have z1 : magOf f r = 0 ↔ r = 0 := ⟨fun h => by
    rcases Nat.eq_zero_or_pos r with h1 | h1
    · exact h1
    · have := magOf_mono f h1; omega, fun h => by rw [h, magOf_zero]⟩
  have z2 : magOf f q = 0 ↔ q = 0 := ⟨fun h => by
    rcases Nat.eq_zero_or_pos q with h1 | h1
    · exact h1
    · have := magOf_mono f h1; omega, fun h => by rw [h, magOf_zero]⟩
  generalize magOf f r = a at *
  generalize magOf f q = b at *
  apply cmp_eq <;> cases s <;> cases t <;> simp only [sg, Bool.false_eq_true, if_true, if_false] <;> omega

/-- What a word that is finite reads as. -/
theorem read_fin (f : Format) (x : Nat) (h : rg f x < f.infRung) : ∃ m k, f.read x = .number (sgn f x) m (f.leastPlace + (k : Nat)) ∧ m * 2 ^ k = magOf f (rg f x) := by
  unfold Format.read
  dsimp only
  unfold rg at h
  unfold rg magOf sgn
  by_cases h1 : x % f.signWeight < f.binade
  · rw [if_pos h1, if_pos h1]
    exact ⟨x % f.signWeight, 0, by simp, by simp⟩
  · rw [if_neg h1, if_pos h, if_neg h1]
    exact ⟨_, _, rfl, rfl⟩
theorem read_inf (f : Format) (x : Nat) (hb : f.binade ≤ f.infRung) (h : rg f x = f.infRung) : f.read x = .infinity (sgn f x) := by
  unfold Format.read
  dsimp only
  unfold rg at h
  rw [if_neg (by omega), if_neg (by omega), if_pos h]
  rfl
theorem read_nan_iff (f : Format) (x : Nat) (hb : f.binade ≤ f.infRung) : (f.read x).isNaN = decide (f.infRung < rg f x) := by
  unfold Format.read rg
  dsimp only
  split
  · rw [decide_eq_false (by omega)]; rfl
  · split
    · rw [decide_eq_false (by omega)]; rfl
    · split
      · rw [decide_eq_false (by omega)]; rfl
      · rw [decide_eq_true (by omega)]; rfl

theorem signed_eq (s : Bool) (m a b k : Nat) (h : a = b + k) : signed s m a = sg s (m * 2 ^ k) * 2 ^ b := by
  subst h
  unfold signed sg
  rw [Nat.shiftLeft_eq, Nat.pow_add]
  have e : ((m * (2 ^ b * 2 ^ k) : Nat) : Int) = ((m * 2 ^ k : Nat) : Int) * 2 ^ b := by
    rw [Nat.mul_comm (2 ^ b) (2 ^ k), ← Nat.mul_assoc]; simp
  cases s
  · simpa using e
  · simp only [if_true]
    rw [Int.neg_mul]; congr 1

theorem sg_mul (s : Bool) (m k : Nat) : sg s (m * 2 ^ k) = sg s m * 2 ^ k := by
  cases s <;> simp [sg, Int.neg_mul]

theorem cmp_scale (a b : Int) (k : Nat) : compare (a * 2 ^ k) (b * 2 ^ k) = compare a b := by
  have hp : (0 : Int) < 2 ^ k := Int.pow_pos (by decide)
  apply cmp_eq
  · exact ⟨fun h => Int.lt_of_mul_lt_mul_right h (Int.le_of_lt hp), fun h => Int.mul_lt_mul_of_pos_right h hp⟩
  · exact ⟨fun h => Int.eq_of_mul_eq_mul_right (by omega) h, fun h => by rw [h]⟩

theorem cmp_lt {a b : Int} (h : a < b) : compare a b = .lt := by
  simp only [compare, compareOfLessAndEq]; rw [if_pos h]
theorem cmp_gt {a b : Int} (h : b < a) : compare a b = .gt := by
  simp only [compare, compareOfLessAndEq]; rw [if_neg (by omega), if_neg (by omega)]
theorem cmp_eqv (a : Int) : compare a a = .eq := by
  simp [compare, compareOfLessAndEq]

theorem order_worth (f : Format) (hb : f.binade ≤ f.infRung) {x y : Nat} (hx : (f.read x).isNaN = false) (hy : (f.read y).isNaN = false) : f.order x y = some (compare (worth f x) (worth f y)) := by
  rw [read_nan_iff f x hb] at hx
  rw [read_nan_iff f y hb] at hy
  have hx := of_decide_eq_false hx
  have hy := of_decide_eq_false hy
  have hip : 0 < f.infRung := Nat.lt_of_lt_of_le (binade_pos f) hb
  unfold Format.order worth
  by_cases ix : rg f x = f.infRung
  · rw [read_inf f x hb ix]
    by_cases iy : rg f y = f.infRung
    · rw [read_inf f y hb iy, ix, iy]
      unfold Datum.order
      dsimp only
      congr 1
      cases sgn f x <;> cases sgn f y <;> simp only [sg, Bool.false_eq_true, if_true, if_false]
      · rw [cmp_eqv]; rfl
      · rw [cmp_gt (by omega)]; rfl
      · rw [cmp_lt (by omega)]; rfl
      · rw [cmp_eqv]; rfl
    · obtain ⟨m, k, e, _⟩ := read_fin f y (by omega)
      rw [e, ix]
      unfold Datum.order
      dsimp only
      congr 1
      cases sgn f x <;> cases sgn f y <;> simp only [sg, Bool.false_eq_true, if_true, if_false]
      · rw [cmp_gt (by omega)]
      · rw [cmp_gt (by omega)]
      · rw [cmp_lt (by omega)]
      · rw [cmp_lt (by omega)]
  · obtain ⟨m, k, e, hm⟩ := read_fin f x (by omega)
    by_cases iy : rg f y = f.infRung
    · rw [e, read_inf f y hb iy, iy]
      unfold Datum.order
      dsimp only
      congr 1
      cases sgn f x <;> cases sgn f y <;> simp only [sg, Bool.false_eq_true, if_true, if_false]
      · rw [cmp_lt (by omega)]
      · rw [cmp_gt (by omega)]
      · rw [cmp_lt (by omega)]
      · rw [cmp_gt (by omega)]
    · obtain ⟨n, j, e', hn⟩ := read_fin f y (by omega)
      rw [e, e']
      unfold Datum.order
      dsimp only
      congr 1
      rw [← cmp_sg f, ← hm, ← hn]
      rcases Nat.le_total k j with h | h
      · have b1 : min (f.leastPlace + (k : Int)) (f.leastPlace + (j : Int)) = f.leastPlace + k := by omega
        rw [b1]
        have e1 : (f.leastPlace + (k : Int) - (f.leastPlace + k)).toNat = 0 := by omega
        have e2 : (f.leastPlace + (j : Int) - (f.leastPlace + k)).toNat = j - k := by omega
        rw [e1, e2, signed_eq _ m 0 0 0 rfl, signed_eq _ n (j - k) 0 (j - k) (by omega)]
        rw [← cmp_scale _ _ k]
        congr 1
        · simp [sg_mul]
        · have : n * 2 ^ j = n * 2 ^ (j - k) * 2 ^ k := by rw [Nat.mul_assoc, ← Nat.pow_add]; congr 2; omega
          rw [this, sg_mul _ _ k]; simp
      · have b1 : min (f.leastPlace + (k : Int)) (f.leastPlace + (j : Int)) = f.leastPlace + j := by omega
        rw [b1]
        have e1 : (f.leastPlace + (k : Int) - (f.leastPlace + j)).toNat = k - j := by omega
        have e2 : (f.leastPlace + (j : Int) - (f.leastPlace + j)).toNat = 0 := by omega
        rw [e1, e2, signed_eq _ m (k - j) 0 (k - j) (by omega), signed_eq _ n 0 0 0 rfl]
        rw [← cmp_scale _ _ j]
        congr 1
        · have : m * 2 ^ k = m * 2 ^ (k - j) * 2 ^ j := by rw [Nat.mul_assoc, ← Nat.pow_add]; congr 2; omega
          rw [this, sg_mul _ _ j]; simp
        · simp [sg_mul]
end Go.Ev

namespace Go.Ev
open Ieee

abbrev Can (k : FloatKind) (x : Nat) : Prop := FR k x x
theorem FR.can {k : FloatKind} {r x : Nat} (h : FR k r x) : Can k x := by
  refine ⟨by rw [← h.eq, canon_canon], ?_⟩
  rw [← h.eq]
  cases hn : isNan k r
  · rw [canon_of_not hn]; exact h.lt
  · rw [canon_of_nan hn]; cases k <;> decide
theorem can_canon {k : FloatKind} {n : Nat} (h : n < 2 ^ k.format.width) : Can k (canon k n) := FR.can (r := n) ⟨rfl, h⟩
theorem FR.raw {k : FloatKind} {r x : Nat} (h : FR k r x) (hn : isNan k x = false) : r = x := by
  have := h.eq
  cases hr : isNan k r
  · rw [canon_of_not hr] at this; exact this
  · rw [canon_of_nan hr] at this; subst this; rw [isNan_qnan] at hn; cases hn
theorem FR.nan {k : FloatKind} {r x : Nat} (h : FR k r x) : isNan k r = isNan k x := by rw [← h.eq, isNan_canon]
theorem Can.qnan {k : FloatKind} {x : Nat} (h : Can k x) (hn : isNan k x = true) : x = Ev.qnan k := by rw [← h.eq, canon_of_nan hn]

theorem s_le : single.binade ≤ single.infRung := by decide
theorem d_le : double.binade ≤ double.infRung := by decide
theorem k_le (k : FloatKind) : k.format.binade ≤ k.format.infRung := by cases k <;> decide

def wrt (k : FloatKind) (x : Nat) : Int := worth k.format x
def neg (k : FloatKind) (x : Nat) : Bool := sgn k.format x
def fin (k : FloatKind) (x : Nat) : Bool := decide (rg k.format x < k.format.infRung)

theorem isNan_eq (k : FloatKind) (x : Nat) : isNan k x = decide (k.format.infRung < rg k.format x) := read_nan_iff _ x (k_le k)

theorem ord_some (k : FloatKind) {x y : Nat} (hx : isNan k x = false) (hy : isNan k y = false) : k.format.order x y = some (compare (wrt k x) (wrt k y)) := order_worth _ (k_le k) hx hy
theorem ord_none (k : FloatKind) {x y : Nat} (h : isNan k x = true ∨ isNan k y = true) : k.format.order x y = none := by
  rcases h with h | h
  · obtain ⟨s, t, e⟩ := read_nan h; exact order_nan_left e
  · obtain ⟨s, t, e⟩ := read_nan h; exact order_nan_right e

theorem cmp_cases (a b : Int) : compare a b = if a < b then .lt else if a = b then .eq else .gt := rfl

theorem feq_eq (k : FloatKind) (x y : Nat) : feq k x y = (!isNan k x && !isNan k y && decide (wrt k x = wrt k y)) := by
  unfold feq
  cases hx : isNan k x
  · cases hy : isNan k y
    · rw [ord_some k hx hy, cmp_cases]
      by_cases h1 : wrt k x < wrt k y
      · rw [if_pos h1]; simp; omega
      · rw [if_neg h1]
        by_cases h2 : wrt k x = wrt k y
        · rw [if_pos h2]; simp [h2]
        · rw [if_neg h2]; simp [h2]
    · rw [ord_none k (.inr hy)]; rfl
  · rw [ord_none k (.inl hx)]; rfl
theorem flt_eq (k : FloatKind) (x y : Nat) : flt k x y = (!isNan k x && !isNan k y && decide (wrt k x < wrt k y)) := by
  unfold flt
  cases hx : isNan k x
  · cases hy : isNan k y
    · rw [ord_some k hx hy, cmp_cases]
      by_cases h1 : wrt k x < wrt k y
      · rw [if_pos h1]; simp [h1]
      · rw [if_neg h1]
        by_cases h2 : wrt k x = wrt k y
        · rw [if_pos h2]; simp [h2]
        · rw [if_neg h2]; simp [h1]
    · rw [ord_none k (.inr hy)]; rfl
  · rw [ord_none k (.inl hx)]; rfl
theorem fgt_eq (k : FloatKind) (x y : Nat) : fgt k x y = (!isNan k x && !isNan k y && decide (wrt k y < wrt k x)) := by
  unfold fgt
  cases hx : isNan k x
  · cases hy : isNan k y
    · rw [ord_some k hx hy, cmp_cases]
      by_cases h1 : wrt k x < wrt k y
      · rw [if_pos h1]; simp; omega
      · rw [if_neg h1]
        by_cases h2 : wrt k x = wrt k y
        · rw [if_pos h2]; simp [h2]
        · rw [if_neg h2]; simp; omega
    · rw [ord_none k (.inr hy)]; rfl
  · rw [ord_none k (.inl hx)]; rfl
theorem fle_eq (k : FloatKind) (x y : Nat) : fle k x y = (!isNan k x && !isNan k y && decide (wrt k x ≤ wrt k y)) := by
  have h : fle k x y = (flt k x y || feq k x y) := rfl
  rw [h, flt_eq, feq_eq]
  cases isNan k x <;> cases isNan k y <;> simp
  by_cases h1 : wrt k x < wrt k y
  · simp [h1]; omega
  · by_cases h2 : wrt k x = wrt k y
    · simp [h2]
    · simp [h1, h2]; omega
theorem fge_eq (k : FloatKind) (x y : Nat) : fge k x y = (!isNan k x && !isNan k y && decide (wrt k y ≤ wrt k x)) := by
  have h : fge k x y = (fgt k x y || feq k x y) := rfl
  rw [h, fgt_eq, feq_eq]
  cases isNan k x <;> cases isNan k y <;> simp
  by_cases h1 : wrt k y < wrt k x
  · simp [h1]; omega
  · by_cases h2 : wrt k x = wrt k y
    · simp [h2]
    · simp [h1, h2]; omega

theorem sw_single : single.signWeight = 2147483648 := by decide
theorem sw_double : double.signWeight = 9223372036854775808 := by decide
theorem ir_single : single.infRung = 2139095040 := by decide
theorem ir_double : double.infRung = 9218868437227405312 := by decide

theorem parts (k : FloatKind) {x : Nat} (h : x < 2 ^ k.format.width) : x = (if neg k x then k.format.signWeight else 0) + rg k.format x ∧ rg k.format x < k.format.signWeight := by
  cases k
  · have h : x < 4294967296 := h
    unfold neg sgn rg FloatKind.format
    rw [sw_single]
    by_cases h1 : x < 2147483648
    · have : (x / 2147483648 % 2 == 1) = false := by simp; omega
      rw [this]; simp; omega
    · have : (x / 2147483648 % 2 == 1) = true := by simp; omega
      rw [this]; simp; omega
  · have h : x < 18446744073709551616 := h
    unfold neg sgn rg FloatKind.format
    rw [sw_double]
    by_cases h1 : x < 9223372036854775808
    · have : (x / 9223372036854775808 % 2 == 1) = false := by simp; omega
      rw [this]; simp; omega
    · have : (x / 9223372036854775808 % 2 == 1) = true := by simp; omega
      rw [this]; simp; omega

theorem wrt_eq (k : FloatKind) (x : Nat) : wrt k x = if neg k x then -(rg k.format x : Int) else rg k.format x := rfl

theorem can_ext {k : FloatKind} {x y : Nat} (hx : Can k x) (hy : Can k y) (hw : wrt k x = wrt k y) (hn : neg k x = neg k y) : x = y := by
  have h1 := (parts k hx.lt).1
  have h2 := (parts k hy.lt).1
  rw [wrt_eq, wrt_eq, hn] at hw
  rw [hn] at h1
  have : rg k.format x = rg k.format y := by
    cases h : neg k y <;> simp [h] at hw <;> omega
  omega

/-- What is not nought bears its sign in its worth. -/
theorem neg_of_wrt {k : FloatKind} {x : Nat} (h : wrt k x ≠ 0) : neg k x = decide (wrt k x < 0) := by
  rw [wrt_eq] at *
  cases hn : neg k x <;> simp [hn] at *
  omega

theorem zero_cases {k : FloatKind} {x : Nat} (hx : x < 2 ^ k.format.width) (h : wrt k x = 0) : x = if neg k x then k.format.signWeight else 0 := by
  have h1 := (parts k hx).1
  rw [wrt_eq] at h
  have : rg k.format x = 0 := by
    cases h2 : neg k x <;> simp [h2] at h <;> omega
  rw [this] at h1; simpa using h1

theorem negFloat_eq (k : FloatKind) {x : Nat} (h : x < 2 ^ k.format.width) : rg k.format (Op.negFloat k x) = rg k.format x ∧ neg k (Op.negFloat k x) = !neg k x ∧ Op.negFloat k x < 2 ^ k.format.width := by
  have key : ∀ n, x < 2 ^ (n + 1) → (x ^^^ 2 ^ n) % 2 ^ n = x % 2 ^ n ∧ ((x ^^^ 2 ^ n) / 2 ^ n % 2 == 1) = !(x / 2 ^ n % 2 == 1) ∧ x ^^^ 2 ^ n < 2 ^ (n + 1) := by
    intro n hx
    refine ⟨?_, ?_, Nat.xor_lt_two_pow hx (Nat.pow_lt_pow_right (by decide) (by omega))⟩
    · rw [Nat.xor_mod_two_pow]; simp
    · rw [Nat.xor_div_two_pow, Nat.div_self (Nat.two_pow_pos n)]
      have : ((x / 2 ^ n) ^^^ 1) % 2 = (x / 2 ^ n + 1) % 2 := by
        rw [← Nat.pow_one 2, Nat.xor_mod_two_pow]
        simp only [Nat.pow_one]
        rcases Nat.mod_two_eq_zero_or_one (x / 2 ^ n) with e | e <;> rw [e] <;> simp <;> omega
      rw [this]
      rcases Nat.mod_two_eq_zero_or_one (x / 2 ^ n) with e | e
      · rw [e]; have : (x / 2 ^ n + 1) % 2 = 1 := by omega
        rw [this]; rfl
      · rw [e]; have : (x / 2 ^ n + 1) % 2 = 0 := by omega
        rw [this]; rfl
  cases k
  · exact key 31 h
  · exact key 63 h

theorem isNan_neg {k : FloatKind} {x : Nat} (h : x < 2 ^ k.format.width) : isNan k (Op.negFloat k x) = isNan k x := by
  rw [isNan_eq, isNan_eq, (negFloat_eq k h).1]
theorem isNan_fneg {k : FloatKind} {x : Nat} (h : Can k x) : isNan k (fneg k x) = isNan k x := by
  unfold fneg
  rw [isNan_canon, isNan_neg h.lt]
theorem fneg_of {k : FloatKind} {x : Nat} (h : Can k x) (hn : isNan k x = false) : wrt k (fneg k x) = - wrt k x ∧ neg k (fneg k x) = !neg k x := by
  unfold fneg
  have h1 := negFloat_eq k h.lt
  rw [canon_of_not ((isNan_neg h.lt).trans hn)]
  refine ⟨?_, h1.2.1⟩
  rw [wrt_eq, wrt_eq, h1.1, h1.2.1]
  cases neg k x <;> simp
theorem can_fneg {k : FloatKind} {x : Nat} (h : Can k x) : Can k (fneg k x) := can_canon (negFloat_eq k h.lt).2.2
end Go.Ev

namespace Go.Ev
open Ieee

theorem magOf_norm (f : Format) {c q : Nat} (h1 : f.binade ≤ c) (h2 : c < 2 * f.binade) : magOf f (q * f.binade + c) = c * 2 ^ q := by
  have hb := binade_pos f
  unfold magOf
  generalize f.binade = b at *
  obtain ⟨t, rfl⟩ : ∃ t, c = b + t := ⟨c - b, by omega⟩
  have e : q * b + (b + t) = b * (q + 1) + t := by rw [Nat.mul_succ, Nat.mul_comm q b]; omega
  rw [e, if_neg (by rw [Nat.mul_succ]; have := Nat.zero_le (b * q); omega)]
  have e1 : (b * (q + 1) + t) % b = t := by rw [Nat.mul_add_mod]; exact Nat.mod_eq_of_lt (by omega)
  have e2 : (b * (q + 1) + t) / b = q + 1 := by rw [Nat.mul_add_div hb, Nat.div_eq_of_lt (by omega), Nat.add_zero]
  rw [e1, e2]; rfl

/-- Each rung as its significand and its place. -/
theorem rung_split (f : Format) (r : Nat) : ∃ c q, r = q * f.binade + c ∧ magOf f r = c * 2 ^ q ∧ ((q = 0 ∧ c < f.binade) ∨ (f.binade ≤ c ∧ c < 2 * f.binade)) := by
  have hb := binade_pos f
  by_cases h : r < f.binade
  · exact ⟨r, 0, by simp, by unfold magOf; rw [if_pos h]; simp, .inl ⟨rfl, h⟩⟩
  · refine ⟨f.binade + r % f.binade, r / f.binade - 1, ?_, ?_, .inr ⟨by omega, by have := Nat.mod_lt r hb; omega⟩⟩
    · have h1 := Nat.div_add_mod r f.binade
      have h2 : 1 ≤ r / f.binade := (Nat.le_div_iff_mul_le hb).2 (by omega)
      obtain ⟨q, hq⟩ : ∃ q, r / f.binade = q + 1 := ⟨r / f.binade - 1, by omega⟩
      rw [hq] at h1 ⊢
      rw [Nat.mul_succ] at h1
      rw [Nat.add_sub_cancel, Nat.mul_comm q]; omega
    · unfold magOf; rw [if_neg h]

theorem cut_exact (s : Bool) (c d : Nat) (hc : c ≠ 0) : Toward.even.cut s (c * 2 ^ d) d = c := by
  have hl : d ≤ (c * 2 ^ d).log2 := by
    rw [Nat.le_log2 (by have := Nat.two_pow_pos d; exact Nat.mul_ne_zero hc (by omega))]
    exact Nat.le_mul_of_pos_left _ (by omega)
  unfold Toward.cut
  have hm : min d ((c * 2 ^ d).log2 + 2) = d := by omega
  rw [hm]
  have hg : (1 <<< d) = 2 ^ d := by rw [Nat.shiftLeft_eq, Nat.one_mul]
  rw [hg]
  have h1 : c * 2 ^ d / 2 ^ d = c := Nat.mul_div_cancel _ (Nat.two_pow_pos d)
  have h2 : c * 2 ^ d % 2 ^ d = 0 := Nat.mul_mod_left _ _
  simp only [h1, h2]
  have := Nat.two_pow_pos d
  have h3 : (decide (2 ^ d < 2 * 0)) = false := by simp
  have h4 : (2 ^ d == 2 * 0) = false := by simp
  rw [h3, h4]; rfl

theorem log2_mul_pow {c : Nat} (hc : c ≠ 0) (q : Nat) : (c * 2 ^ q).log2 = c.log2 + q := by
  have h0 : c * 2 ^ q ≠ 0 := Nat.mul_ne_zero hc (by have := Nat.two_pow_pos q; omega)
  rw [Nat.log2_eq_iff h0]
  have h1 := Nat.log2_self_le hc
  have h2 := Nat.lt_log2_self (n := c)
  refine ⟨by rw [Nat.pow_add]; exact Nat.mul_le_mul_right _ h1, ?_⟩
  rw [show c.log2 + q + 1 = (c.log2 + 1) + q by omega, Nat.pow_add]
  exact Nat.mul_lt_mul_of_pos_right h2 (Nat.two_pow_pos q)

/-- A number that the format has is written as itself. -/
theorem nearest_exact (f : Format) (s : Bool) (mag : Nat) (place : Int) (r u v : Nat) (hr : r < f.infRung) (h : mag * 2 ^ u = magOf f r * 2 ^ v) (huv : place = f.leastPlace + u - v ∨ place + v = f.leastPlace + u) : f.nearest s mag place = f.word s r := by
  have hp : place + v = f.leastPlace + u := by omega
  unfold Format.nearest
  dsimp only
  by_cases h0 : mag = 0
  · rw [if_pos h0]
    subst h0
    have : magOf f r = 0 := by
      rw [Nat.zero_mul] at h
      rcases Nat.mul_eq_zero.1 h.symm with h | h
      · exact h
      · have := Nat.two_pow_pos v; omega
    have hr0 : r = 0 := by
      rcases Nat.eq_zero_or_pos r with h1 | h1
      · exact h1
      · have := magOf_mono f h1; omega
    rw [hr0]
  · rw [if_neg h0]
    obtain ⟨c, q, e1, e2, e3⟩ := rung_split f r
    have hm0 : magOf f r ≠ 0 := by
      intro hz
      rw [hz, Nat.zero_mul] at h
      rcases Nat.mul_eq_zero.1 h with h | h
      · exact h0 h
      · have := Nat.two_pow_pos u; omega
    have hc0 : c ≠ 0 := by intro hz; subst hz; simp at e2; exact hm0 e2
    have hlog : mag.log2 + u = c.log2 + q + v := by
      rw [← log2_mul_pow h0, h, e2, log2_mul_pow (by rw [← e2]; exact hm0), log2_mul_pow hc0]
    have hcl : (q = 0 ∧ c.log2 < f.fractionBits) ∨ c.log2 = f.fractionBits := by
      rcases e3 with ⟨a, b⟩ | ⟨a, b⟩
      · left; exact ⟨a, (Nat.log2_lt hc0).2 b⟩
      · right
        rw [Nat.log2_eq_iff hc0]
        exact ⟨a, by rw [Nat.pow_succ]; unfold Format.binade at b; omega⟩
    have hlast : max (place + mag.log2 - f.fractionBits) f.leastPlace = f.leastPlace + q := by
      rcases hcl with ⟨a, b⟩ | a <;> omega
    rw [hlast]
    have hq : (f.leastPlace + (q : Int) - f.leastPlace).toNat = q := by omega
    rw [hq]
    have hkept : Toward.even.cut s (mag <<< (place - (f.leastPlace + q)).toNat) (f.leastPlace + q - place).toNat = c := by
      rw [Nat.shiftLeft_eq]
      rcases Nat.le_total (q + v) u with hle | hle
      · -- to the left of it
        have d1 : (place - (f.leastPlace + q)).toNat = u - (q + v) := by omega
        have d2 : (f.leastPlace + q - place).toNat = 0 := by omega
        rw [d1, d2]
        have hmag : mag * 2 ^ (u - (q + v)) = c := by
          have : mag * 2 ^ (u - (q + v)) * 2 ^ (q + v) = c * 2 ^ (q + v) := by
            rw [Nat.mul_assoc, ← Nat.pow_add, show u - (q + v) + (q + v) = u by omega, h, e2, Nat.mul_assoc, ← Nat.pow_add]
          exact Nat.eq_of_mul_eq_mul_right (Nat.two_pow_pos _) this
        rw [hmag]
        have := cut_exact s c 0 hc0
        simpa using this
      · have d1 : (place - (f.leastPlace + q)).toNat = 0 := by omega
        have d2 : (f.leastPlace + q - place).toNat = q + v - u := by omega
        rw [d1, d2]
        have hmag : mag = c * 2 ^ (q + v - u) := by
          have : mag * 2 ^ u = c * 2 ^ (q + v - u) * 2 ^ u := by
            rw [Nat.mul_assoc, ← Nat.pow_add, show q + v - u + u = q + v by omega, h, e2, Nat.mul_assoc, ← Nat.pow_add]
          exact Nat.eq_of_mul_eq_mul_right (Nat.two_pow_pos _) this
        rw [Nat.pow_zero, Nat.mul_one, hmag]
        exact cut_exact s c _ hc0
    rw [hkept, ← e1]
    congr 1
    omega

theorem nearest_zero (f : Format) (s : Bool) (place : Int) : f.nearest s 0 place = f.word s 0 := by unfold Format.nearest; simp

theorem rg_word (f : Format) (s : Bool) {r : Nat} (h : r < f.signWeight) : rg f (f.word s r) = r ∧ sgn f (f.word s r) = s := by
  refine ⟨word_rung f s h, ?_⟩
  unfold sgn Format.word
  have hp : 0 < f.signWeight := Nat.two_pow_pos _
  cases s
  · simp [Nat.div_eq_of_lt h]
  · have : (f.signWeight + r) / f.signWeight = 1 := by
      rw [Nat.add_div_left _ hp, Nat.div_eq_of_lt h]
    simp [this]

theorem read_kind (k : FloatKind) {x : Nat} (h : fin k x = true) : ∃ m e, k.format.read x = .number (neg k x) m (k.format.leastPlace + (e : Nat)) ∧ m * 2 ^ e = magOf k.format (rg k.format x) := read_fin _ x (of_decide_eq_true h)

theorem fin_not_nan {k : FloatKind} {x : Nat} (h : fin k x = true) : isNan k x = false := by
  rw [isNan_eq]; have := of_decide_eq_true h; simp; omega

/-- A number less itself is nought. -/
theorem fsub_self {k : FloatKind} {x : Nat} (h : fin k x = true) : fsub k x x = 0 := by
  obtain ⟨m, e, h1, _⟩ := read_kind k h
  unfold fsub Format.sub
  rw [h1]
  simp only [Datum.opposite, Datum.sum]
  have ht : signed (neg k x) m (k.format.leastPlace + (e : Int) - min (k.format.leastPlace + (e : Int)) (k.format.leastPlace + e)).toNat + signed (!neg k x) m (k.format.leastPlace + (e : Int) - min (k.format.leastPlace + (e : Int)) (k.format.leastPlace + e)).toNat = 0 := by
    unfold signed
    cases neg k x <;> simp <;> omega
  rw [ht]
  simp only [if_true, Int.natAbs_zero, Option.map_some, Option.getD_some, Format.write]
  rw [nearest_zero]
  cases neg k x <;> rfl

theorem fsub_self_not {k : FloatKind} {x : Nat} (h : fin k x = false) : fsub k x x = qnan k := by
  have h' := of_decide_eq_false h
  unfold fsub Format.sub
  by_cases hi : rg k.format x = k.format.infRung
  · rw [read_inf _ x (k_le k) hi]
    simp only [Datum.opposite, Datum.sum]
    cases sgn k.format x <;> simp
  · have hn : isNan k x = true := by rw [isNan_eq]; simp; omega
    obtain ⟨s, t, e⟩ := read_nan hn
    rw [e]
    simp [Datum.sum]

theorem finite_eq (k : FloatKind) (x : Nat) : feq k (fsub k x x) 0 = fin k x := by
  cases h : fin k x
  · rw [fsub_self_not h]; cases k <;> decide
  · rw [fsub_self h]; cases k <;> decide

/-- Nought times a number is nought, plus nought is the number. -/
theorem fadd_zero {k : FloatKind} {x y : Nat} (hx : Can k x) (h : fin k x = true) (hy : y < 2 ^ k.format.width) (h0 : wrt k y = 0) : wrt k (fadd k x y) = wrt k x ∧ isNan k (fadd k x y) = false := by
  have hyf : fin k y = true := by
    unfold fin
    rw [wrt_eq] at h0
    have : rg k.format y = 0 := by cases h2 : neg k y <;> simp [h2] at h0 <;> omega
    rw [this]
    cases k <;> decide
  obtain ⟨m, i, h1, h2⟩ := read_kind k h
  obtain ⟨n, j, h3, h4⟩ := read_kind k hyf
  have hn0 : n = 0 := by
    rw [wrt_eq] at h0
    have hr : rg k.format y = 0 := by cases h2 : neg k y <;> simp [h2] at h0 <;> omega
    rw [hr, magOf_zero] at h4
    rcases Nat.mul_eq_zero.1 h4 with h | h
    · exact h
    · have := Nat.two_pow_pos j; omega
  subst hn0
  have hfin := of_decide_eq_true h
  unfold fadd Format.add
  rw [h1, h3]
  simp only [Datum.sum, Option.map_some, Option.getD_some, Format.write]
  generalize hb : min (k.format.leastPlace + (i : Int)) (k.format.leastPlace + (j : Int)) = base
  have hs0 : signed (neg k y) 0 (k.format.leastPlace + (j : Int) - base).toNat = 0 := by unfold signed; cases neg k y <;> simp
  rw [hs0, Int.add_zero]
  have hu : ∃ u v : Nat, base = k.format.leastPlace + v ∧ (k.format.leastPlace + (i : Int) - base).toNat = u ∧ u + v = i := by
    refine ⟨i - min i j, min i j, by omega, by omega, by omega⟩
  obtain ⟨u, v, e1, e2, e3⟩ := hu
  rw [e2]
  have habs : (signed (neg k x) m u).natAbs = m * 2 ^ u := by
    unfold signed
    rw [Nat.shiftLeft_eq]
    cases neg k x
    · simp only [Bool.false_eq_true, if_false]; exact Int.natAbs_natCast _
    · simp only [if_true]; rw [Int.natAbs_neg]; exact Int.natAbs_natCast _
  rw [habs]
  have hw := nearest_exact k.format (if signed (neg k x) m u = 0 then neg k x && neg k y else decide (signed (neg k x) m u < 0)) (m * 2 ^ u) base (rg k.format x) v 0 hfin
    (by rw [Nat.mul_assoc, ← Nat.pow_add, e3, h2, Nat.pow_zero, Nat.mul_one]) (.inr (by rw [e1]; simp))
  rw [hw]
  have hlt := Nat.lt_trans hfin k.format.infRung_lt
  obtain ⟨r1, r2⟩ := rg_word k.format (if signed (neg k x) m u = 0 then neg k x && neg k y else decide (signed (neg k x) m u < 0)) hlt
  refine ⟨?_, ?_⟩
  · have hz : m * 2 ^ u = 0 ↔ rg k.format x = 0 := by
      constructor
      · intro hz
        have hm0 : m = 0 := by
          rcases Nat.mul_eq_zero.1 hz with h | h
          · exact h
          · have := Nat.two_pow_pos u; omega
        rw [hm0, Nat.zero_mul] at h2
        rcases Nat.eq_zero_or_pos (rg k.format x) with h5 | h5
        · exact h5
        · have := magOf_mono k.format h5; omega
      · intro hz
        rw [hz, magOf_zero] at h2
        rcases Nat.mul_eq_zero.1 h2 with h | h
        · rw [h, Nat.zero_mul]
        · have := Nat.two_pow_pos i; omega
    show sg (sgn k.format _) (rg k.format _) = sg (neg k x) (rg k.format x)
    rw [r1, r2]
    have hsig : signed (neg k x) m u = sg (neg k x) (m * 2 ^ u) := by
      unfold signed sg; rw [Nat.shiftLeft_eq]
    rw [hsig]
    by_cases hr : rg k.format x = 0
    · rw [hr]; simp [sg]
    · have hm : m * 2 ^ u ≠ 0 := fun h => hr (hz.1 h)
      have hmp : (0 : Int) < ((m * 2 ^ u : Nat) : Int) := by omega
      have hsb : (if sg (neg k x) (m * 2 ^ u) = 0 then neg k x && neg k y else decide (sg (neg k x) (m * 2 ^ u) < 0)) = neg k x := by
        generalize hM : m * 2 ^ u = M at *
        unfold sg
        cases neg k x
        · simp only [Bool.false_eq_true, if_false]
          rw [if_neg (by omega)]; simp
        · simp only [if_true]
          rw [if_neg (by omega)]; simp; omega
      rw [hsb]
  · rw [isNan_eq, r1]; simp; omega

theorem fmul_zero {k : FloatKind} {x : Nat} (h : fin k x = true) : wrt k (fmul k 0 x) = 0 ∧ fmul k 0 x < 2 ^ k.format.width := by
  obtain ⟨m, i, h1, h2⟩ := read_kind k h
  have h0 : k.format.read 0 = .number false 0 k.format.leastPlace := by cases k <;> decide
  unfold fmul Format.mul
  rw [h1, h0]
  simp only [Datum.product, Option.map_some, Option.getD_some, Format.write, Nat.zero_mul]
  rw [nearest_zero]
  cases k <;> cases neg _ x <;> decide
end Go.Ev

namespace Go.Ev
open Ieee

theorem widen_read {x : Nat} (h : isNan .f32 x = false) : widen x = double.write (single.read x) := by
  unfold widen
  show (match single.read x with | .nan _ _ => qnan .f64 | d => double.write d) = _
  have h' : (single.read x).isNaN = false := h
  cases hd : single.read x with
  | nan s t => rw [hd] at h'; simp [Datum.isNaN] at h'
  | number s m e => rfl
  | infinity s => rfl

theorem widen_nan {x : Nat} (h : isNan .f32 x = true) : widen x = qnan .f64 := by
  obtain ⟨s, t, e⟩ := read_nan h
  unfold widen
  rw [e]

def widePow (k : Nat) : Nat := 2 ^ k
theorem widePow_pos (k : Nat) : 0 < widePow k := Nat.two_pow_pos k

theorem widen_fin {x : Nat} (h : fin .f32 x = true) : fin .f64 (widen x) = true ∧ neg .f64 (widen x) = neg .f32 x ∧ magOf double (rg double (widen x)) = magOf single (rg single x) * widePow 925 := by
  rw [widen_read (fin_not_nan h)]
  obtain ⟨m, e, h1, h2⟩ := read_kind .f32 h
  have h1 : single.read x = .number (neg .f32 x) m (single.leastPlace + (e : Nat)) := h1
  have h2 : m * 2 ^ e = magOf single (rg single x) := h2
  obtain ⟨hm, he1, he2⟩ := single_number h1
  have l1 : single.leastPlace = -149 := by decide
  have l2 : double.leastPlace = -1074 := by decide
  rw [l1] at he1 he2
  rw [h1]
  show fin .f64 (double.nearest (neg .f32 x) m (single.leastPlace + (e : Nat))) = true ∧ neg .f64 (double.nearest (neg .f32 x) m (single.leastPlace + (e : Nat))) = neg .f32 x ∧ magOf double (rg double (double.nearest (neg .f32 x) m (single.leastPlace + (e : Nat)))) = _
  have key : ∃ R, R < double.infRung ∧ magOf double R = m * 2 ^ (925 + e) := by
    by_cases h0 : m = 0
    · exact ⟨0, by decide, by rw [h0, magOf_zero, Nat.zero_mul]⟩
    · have hl : m.log2 < 24 := by rw [Nat.log2_lt h0]; exact hm
      have b1 : double.binade = 2 ^ 52 := rfl
      have a1 := Nat.log2_self_le h0
      have a2 := Nat.lt_log2_self (n := m)
      have c1 : double.binade ≤ m * 2 ^ (52 - m.log2) := by
        rw [b1]
        calc 2 ^ 52 = 2 ^ m.log2 * 2 ^ (52 - m.log2) := by rw [← Nat.pow_add]; congr 1; omega
          _ ≤ _ := Nat.mul_le_mul_right _ a1
      have c2 : m * 2 ^ (52 - m.log2) < 2 * double.binade := by
        rw [b1]
        calc m * 2 ^ (52 - m.log2) < 2 ^ (m.log2 + 1) * 2 ^ (52 - m.log2) := Nat.mul_lt_mul_of_pos_right a2 (Nat.two_pow_pos _)
          _ = 2 ^ 53 := by rw [← Nat.pow_add]; congr 1; omega
          _ = 2 * 2 ^ 52 := by decide
      refine ⟨(873 + e + m.log2) * double.binade + m * 2 ^ (52 - m.log2), ?_, ?_⟩
      · have hq : 873 + e + m.log2 ≤ 1149 := by omega
        have : (873 + e + m.log2) * double.binade ≤ 1149 * double.binade := Nat.mul_le_mul_right _ hq
        have b2 : double.infRung = 2047 * double.binade := by decide
        omega
      · rw [magOf_norm double c1 c2, Nat.mul_assoc, ← Nat.pow_add]
        congr 2; omega
  obtain ⟨R, r1, r2⟩ := key
  rw [nearest_exact double (neg .f32 x) m (single.leastPlace + (e : Nat)) R (925 + e) 0 r1 (by rw [r2, Nat.pow_zero, Nat.mul_one]) (.inr (by rw [l1, l2]; omega))]
  obtain ⟨w1, w2⟩ := rg_word double (neg .f32 x) (Nat.lt_trans r1 double.infRung_lt)
  refine ⟨?_, w2, ?_⟩
  · exact decide_eq_true (by show rg double _ < double.infRung; rw [w1]; exact r1)
  · rw [w1, r2, ← h2]
    unfold widePow
    generalize 925 = z
    rw [Nat.mul_assoc, ← Nat.pow_add]
    congr 2; omega

theorem widen_inf {x : Nat} (h : rg single x = single.infRung) : rg double (widen x) = double.infRung ∧ neg .f64 (widen x) = neg .f32 x := by
  have hn : isNan .f32 x = false := by rw [isNan_eq]; show decide (single.infRung < rg single x) = false; rw [h]; simp
  rw [widen_read hn, read_inf single x s_le h]
  exact rg_word double _ double.infRung_lt

theorem isNan_widen (x : Nat) : isNan .f64 (widen x) = isNan .f32 x := by
  cases hn : isNan .f32 x
  · have hn' := hn
    rw [isNan_eq] at hn'
    have h0 := of_decide_eq_false hn'
    by_cases hi : rg single x = single.infRung
    · rw [isNan_eq]; show decide (double.infRung < rg double _) = false
      rw [(widen_inf hi).1]; simp
    · have hf : fin .f32 x = true := decide_eq_true (by show rg single x < single.infRung; have : ¬ single.infRung < rg single x := h0; omega)
      exact fin_not_nan (widen_fin hf).1
  · rw [widen_nan hn, isNan_qnan]

theorem neg_widen {x : Nat} (hn : isNan .f32 x = false) : neg .f64 (widen x) = neg .f32 x := by
  have hn' := hn
  rw [isNan_eq] at hn'
  have h0 : ¬ single.infRung < rg single x := of_decide_eq_false hn'
  by_cases hi : rg single x = single.infRung
  · exact (widen_inf hi).2
  · exact (widen_fin (decide_eq_true (by show rg single x < single.infRung; omega))).2.1

theorem magOf_lt_iff (f : Format) {r s : Nat} : magOf f r < magOf f s ↔ r < s := ⟨fun h => by
  rcases Nat.lt_trichotomy r s with h1 | h1 | h1
  · exact h1
  · subst h1; omega
  · have := magOf_mono f h1; omega, magOf_mono f⟩

theorem mul_lt_iff {a b c : Nat} (h : 0 < c) : a * c < b * c ↔ a < b := Nat.mul_lt_mul_right h

theorem rg_widen {x y : Nat} (hx : isNan .f32 x = false) (hy : isNan .f32 y = false) : rg double (widen x) < rg double (widen y) ↔ rg single x < rg single y := by
  rw [isNan_eq] at hx hy
  have hx : ¬ single.infRung < rg single x := of_decide_eq_false hx
  have hy : ¬ single.infRung < rg single y := of_decide_eq_false hy
  by_cases ix : rg single x = single.infRung
  · rw [(widen_inf ix).1]
    by_cases iy : rg single y = single.infRung
    · rw [(widen_inf iy).1]; omega
    · have := (widen_fin (x := y) (decide_eq_true (by show rg single y < single.infRung; omega))).1
      have : rg double (widen y) < double.infRung := of_decide_eq_true this
      omega
  · have fx := widen_fin (x := x) (decide_eq_true (by show rg single x < single.infRung; omega))
    have f1 : rg double (widen x) < double.infRung := of_decide_eq_true fx.1
    by_cases iy : rg single y = single.infRung
    · rw [(widen_inf iy).1]; omega
    · have fy := widen_fin (x := y) (decide_eq_true (by show rg single y < single.infRung; omega))
      rw [← magOf_lt_iff double, fx.2.2, fy.2.2]
      have hp := widePow_pos 925
      generalize widePow 925 = W at hp ⊢
      exact (mul_lt_iff hp).trans (magOf_lt_iff single)

theorem rg_widen_zero {x : Nat} (hx : isNan .f32 x = false) : rg double (widen x) = 0 ↔ rg single x = 0 := by
  have h0 : isNan .f32 0 = false := by decide
  have := rg_widen h0 hx
  have e1 : rg double (widen 0) = 0 := by decide
  have e2 : rg single 0 = 0 := by decide
  rw [e1, e2] at this
  omega

theorem wrt_widen_lt {x y : Nat} (hx : isNan .f32 x = false) (hy : isNan .f32 y = false) : wrt .f64 (widen x) < wrt .f64 (widen y) ↔ wrt .f32 x < wrt .f32 y := by
  have a := rg_widen hx hy
  have b := rg_widen hy hx
  have c := rg_widen_zero hx
  have d := rg_widen_zero hy
  rw [wrt_eq, wrt_eq, wrt_eq, wrt_eq, neg_widen hx, neg_widen hy]
  show (if neg .f32 x = true then -(rg double (widen x) : Int) else rg double (widen x)) < (if neg .f32 y = true then -(rg double (widen y) : Int) else rg double (widen y)) ↔ (if neg .f32 x = true then -(rg single x : Int) else rg single x) < (if neg .f32 y = true then -(rg single y : Int) else rg single y)
  cases neg .f32 x <;> cases neg .f32 y <;> simp only [Bool.false_eq_true, if_true, if_false] <;> omega
theorem wrt_widen_eq {x y : Nat} (hx : isNan .f32 x = false) (hy : isNan .f32 y = false) : wrt .f64 (widen x) = wrt .f64 (widen y) ↔ wrt .f32 x = wrt .f32 y := by
  have a := wrt_widen_lt hx hy
  have b := wrt_widen_lt hy hx
  omega
theorem wrt_widen_zero {x : Nat} (hx : isNan .f32 x = false) : wrt .f64 (widen x) = 0 ↔ wrt .f32 x = 0 := by
  have c := rg_widen_zero hx
  rw [wrt_eq, wrt_eq, neg_widen hx]
  show (if neg .f32 x = true then -(rg double (widen x) : Int) else rg double (widen x)) = 0 ↔ (if neg .f32 x = true then -(rg single x : Int) else rg single x) = 0
  cases neg .f32 x <;> simp only [Bool.false_eq_true, if_true, if_false] <;> omega

theorem can_widen (x : Nat) : Can .f64 (widen x) := by
  cases hn : isNan .f32 x
  · rw [widen_read hn]
    exact ⟨canon_of_not (write_not_nan double _ hn), double.write_lt _⟩
  · rw [widen_nan hn]; exact ⟨by rw [canon_of_nan (isNan_qnan _)], by decide⟩

theorem widen_inj {x y : Nat} (hx : Can .f32 x) (hy : Can .f32 y) : widen x = widen y ↔ x = y := by
  refine ⟨fun h => ?_, fun h => by rw [h]⟩
  have h1 : isNan .f32 x = isNan .f32 y := by rw [← isNan_widen, ← isNan_widen, h]
  cases hn : isNan .f32 x
  · have hn2 := h1 ▸ hn
    exact can_ext hx hy ((wrt_widen_eq hn hn2).1 (by rw [h])) (by rw [← neg_widen hn, ← neg_widen hn2, h])
  · rw [hx.qnan hn, hy.qnan (h1 ▸ hn)]

theorem fin_widen {x : Nat} : fin .f64 (widen x) = fin .f32 x := by
  cases hf : fin .f32 x
  · have hx := of_decide_eq_false hf
    cases hn : isNan .f32 x
    · have hi : rg single x = single.infRung := by
        rw [isNan_eq] at hn
        have : ¬ single.infRung < rg single x := of_decide_eq_false hn
        have : ¬ rg single x < single.infRung := hx
        omega
      unfold fin
      show decide (rg double _ < double.infRung) = false
      rw [(widen_inf hi).1]; simp
    · rw [widen_nan hn]; decide
  · exact (widen_fin hf).1

/-! ## Bits -/

theorem shr_nat (r s : Nat) (hs : s ≤ 64) : ishr .u64 (r : Int) (s : Int) = ((r / 2 ^ s : Nat) : Int) := by
  unfold ishr
  have : min (Int.toNat (s : Int)) IntKind.u64.bits = s := by
    show min (Int.toNat (s : Int)) 64 = s
    rw [Int.toNat_natCast]; omega
  rw [this]
  rw [Int.fdiv_eq_ediv_of_nonneg _ (Int.le_of_lt (Int.pow_pos (by decide)))]
  simp
theorem wrap_u64 (n : Nat) : IntKind.u64.wrap (n : Int) = ((n % 2 ^ 64 : Nat) : Int) := by
  show (if (false && decide ((n : Int) % (2 ^ 64 : Int) ≥ (2 ^ 63 : Int))) = true then (n : Int) % (2 ^ 64 : Int) - (2 ^ 64 : Int) else (n : Int) % (2 ^ 64 : Int)) = _
  simp
theorem shl_nat (r s : Nat) (hs : s ≤ 64) : ishl .u64 (r : Int) (s : Int) = ((r * 2 ^ s % 2 ^ 64 : Nat) : Int) := by
  unfold ishl
  have : min (Int.toNat (s : Int)) IntKind.u64.bits = s := by
    show min (Int.toNat (s : Int)) 64 = s
    rw [Int.toNat_natCast]; omega
  rw [this]
  have e : (r : Int) * 2 ^ s = ((r * 2 ^ s : Nat) : Int) := by simp
  rw [e, wrap_u64]
theorem and_nat (r t : Nat) (hr : r < 2 ^ 64) (ht : t < 2 ^ 64) : ibits .and .u64 (r : Int) (t : Int) = ((r &&& t : Nat) : Int) := by
  show IntKind.u64.wrap (((BitVec.ofInt 64 (r : Int) &&& BitVec.ofInt 64 (t : Int)).toNat : Nat) : Int) = _
  rw [wrap_u64]
  have e1 : (BitVec.ofInt 64 (r : Int)).toNat = r := by
    rw [BitVec.ofInt_natCast, BitVec.toNat_ofNat]; exact Nat.mod_eq_of_lt hr
  have e2 : (BitVec.ofInt 64 (t : Int)).toNat = t := by
    rw [BitVec.ofInt_natCast, BitVec.toNat_ofNat]; exact Nat.mod_eq_of_lt ht
  rw [BitVec.toNat_and, e1, e2, Nat.mod_eq_of_lt]
  exact Nat.lt_of_le_of_lt Nat.and_le_left hr
theorem and_2047 (r : Nat) : r &&& 2047 = r % 2048 := Nat.and_two_pow_sub_one_eq_mod r 11
end Go.Ev
