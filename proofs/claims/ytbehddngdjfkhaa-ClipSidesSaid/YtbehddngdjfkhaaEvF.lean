/-
  How far rounded sums, products, quotients and roots lie from the exact ones, for all floats; what a plane leaves of points, in plain words; no condition.
-/
import Derived.Test.YtbehddngdjfkhaaEvL
set_option linter.unusedSimpArgs false
set_option linter.unusedVariables false
set_option exponentiation.threshold 4000
namespace Go.Ev
open Ieee
/-! How far a rounded number lies from what it stands for. -/
theorem cut_err (s : Bool) (n drop : Nat) : 2 * (Toward.even.cut s n drop * 2 ^ drop) ≤ 2 * n + 2 ^ drop ∧ 2 * n ≤ 2 * (Toward.even.cut s n drop * 2 ^ drop) + 2 ^ drop := by
  unfold Toward.cut
  have hg : (1 <<< min drop (n.log2 + 2)) = 2 ^ min drop (n.log2 + 2) := by rw [Nat.shiftLeft_eq, Nat.one_mul]
  rw [hg]
  dsimp only
  by_cases hd : drop ≤ n.log2 + 2
  · rw [Nat.min_eq_left hd]
    have h1 := Nat.div_add_mod n (2 ^ drop)
    have h2 := Nat.mod_lt n (Nat.two_pow_pos drop)
    generalize n / 2 ^ drop = low at *
    generalize n % 2 ^ drop = rest at *
    generalize 2 ^ drop = g at *
    cases hm : (decide (g < 2 * rest) || (g == 2 * rest && low % 2 == 1))
    · rw [Bool.or_eq_false_iff, decide_eq_false_iff_not] at hm
      have := hm.1
      show 2 * ((low + 0) * g) ≤ _ ∧ _ ≤ 2 * ((low + 0) * g) + g
      rw [Nat.add_zero, Nat.mul_comm low g]; omega
    · rw [Bool.or_eq_true, decide_eq_true_eq, Bool.and_eq_true, beq_iff_eq] at hm
      have : g ≤ 2 * rest := by rcases hm with h | h <;> omega
      show 2 * ((low + 1) * g) ≤ _ ∧ _ ≤ 2 * ((low + 1) * g) + g
      rw [Nat.add_mul low 1 g, Nat.one_mul, Nat.mul_comm low g]; omega
  · rw [Nat.min_eq_right (by omega)]
    have h1 := Nat.lt_log2_self (n := n)
    have h2 : 2 ^ (n.log2 + 2) = 2 * 2 ^ (n.log2 + 1) := by rw [show n.log2 + 2 = n.log2 + 1 + 1 by omega, Nat.pow_succ, Nat.mul_comm]
    have h3 : 2 ^ (n.log2 + 2) ≤ 2 ^ drop := Nat.pow_le_pow_right (by omega) (by omega)
    rw [Nat.div_eq_of_lt (by omega), Nat.mod_eq_of_lt (by omega), decide_eq_false (by omega), show (2 ^ (n.log2 + 2) == 2 * n) = false by rw [beq_eq_false_iff_ne]; omega]
    show 2 * ((0 + 0) * _) ≤ _ ∧ _ ≤ 2 * ((0 + 0) * _) + _
    rw [Nat.add_zero, Nat.zero_mul]; omega
theorem cut_ge {s : Bool} {n drop b : Nat} (h : 2 ^ (drop + b) ≤ n) : 2 ^ b ≤ Toward.even.cut s n drop := by
  have h1 := (cut_err s n drop).2
  have h2 : 2 * (2 ^ drop * 2 ^ b) ≤ 2 * (Toward.even.cut s n drop * 2 ^ drop) + 2 ^ drop := by rw [← Nat.pow_add]; omega
  have h3 := Nat.two_pow_pos drop
  generalize Toward.even.cut s n drop = c at *
  rcases Nat.lt_or_ge c (2 ^ b) with h4 | h4
  · have h5 := Nat.mul_le_mul_left (2 ^ drop) (show c + 1 ≤ 2 ^ b from h4)
    rw [Nat.mul_succ, Nat.mul_comm _ c] at h5
    omega
  · exact h4
theorem cut_0 (s : Bool) (n : Nat) : Toward.even.cut s n 0 = n := by
  have := cut_err s n 0
  rw [Nat.pow_zero, Nat.mul_one] at this
  omega
theorem nearest_err (f : Format) (s : Bool) {mag : Nat} {place : Int} (hw : f.infRung < f.signWeight) (h0 : mag ≠ 0) (hfin : rg f (f.nearest s mag place) < f.infRung) {u v : Nat} (huv : place + v = f.leastPlace + u) :
    sgn f (f.nearest s mag place) = s ∧ ∃ D : Nat, 2 * (magOf f (rg f (f.nearest s mag place)) * 2 ^ v) ≤ 2 * (mag * 2 ^ u) + D ∧ 2 * (mag * 2 ^ u) ≤ 2 * (magOf f (rg f (f.nearest s mag place)) * 2 ^ v) + D ∧ (D = 2 ^ v ∨ D * f.binade ≤ mag * 2 ^ u) := by
  have hb := binade_pos f
  revert hfin
  unfold Format.nearest
  rw [if_neg h0]
  dsimp only
  generalize hl : max (place + (mag.log2 : Nat) - f.fractionBits) f.leastPlace = last
  have hlt := Nat.lt_log2_self (n := mag)
  have hle := Nat.log2_self_le h0
  generalize hA : (place - last).toNat = A
  generalize hB : (last - place).toNat = B
  generalize hq : (last - f.leastPlace).toNat = q
  have e2 : 2 ^ (f.fractionBits + 1) = 2 * f.binade := by unfold Format.binade; rw [Nat.pow_succ, Nat.mul_comm]
  have hk : Toward.even.cut s (mag <<< A) B ≤ 2 * f.binade := by
    rw [← e2]
    apply cut_le
    rw [Nat.shiftLeft_eq]
    refine Nat.lt_of_lt_of_le (Nat.mul_lt_mul_of_pos_right hlt (Nat.two_pow_pos _)) ?_
    rw [← Nat.pow_add]
    exact Nat.pow_le_pow_right (by omega) (by omega)
  have hk2 : 0 < q → f.binade ≤ Toward.even.cut s (mag <<< A) B := fun h => by
    unfold Format.binade
    apply cut_ge
    rw [Nat.shiftLeft_eq]
    refine Nat.le_trans ?_ (Nat.mul_le_mul_right _ hle)
    rw [← Nat.pow_add]
    exact Nat.pow_le_pow_right (by omega) (by omega)
  have herr := cut_err s (mag <<< A) B
  have hx : B = 0 → Toward.even.cut s (mag <<< A) B = mag * 2 ^ A := fun h => by rw [h, cut_0, Nat.shiftLeft_eq]
  have hD : 0 < q → A = 0 → 2 ^ (B + u) * f.binade ≤ mag * 2 ^ u := fun h h' => by
    unfold Format.binade
    rw [← Nat.pow_add]
    refine Nat.le_trans ?_ (Nat.mul_le_mul_right _ hle)
    rw [← Nat.pow_add]
    exact Nat.pow_le_pow_right (by omega) (by omega)
  have huq : u + B = v + A + q := by omega
  have hAB : A = 0 ∨ B = 0 := by omega
  generalize Toward.even.cut s (mag <<< A) B = kept at *
  rw [Nat.shiftLeft_eq] at herr
  intro hfin
  have hr : q * f.binade + kept < f.infRung := by
    rcases Nat.lt_or_ge (q * f.binade + kept) f.infRung with h | h
    · exact h
    · rw [Nat.min_eq_right h, (rg_word f s hw).1] at hfin
      exact absurd hfin (Nat.lt_irrefl _)
  rw [Nat.min_eq_left (Nat.le_of_lt hr)]
  obtain ⟨g1, g2⟩ := rg_word f s (r := q * f.binade + kept) (by omega)
  rw [g1]
  have hM : magOf f (q * f.binade + kept) = kept * 2 ^ q := by
    rcases Nat.lt_or_ge kept f.binade with c | c
    · have : q = 0 := by
        rcases Nat.eq_zero_or_pos q with e | e
        · exact e
        · have := hk2 e; omega
      subst this
      rw [Nat.zero_mul, Nat.zero_add, Nat.pow_zero, Nat.mul_one]
      unfold magOf
      rw [if_pos c]
    · rcases Nat.lt_or_eq_of_le hk with d | d
      · exact magOf_norm f c d
      · have : q * f.binade + kept = (q + 1) * f.binade + f.binade := by rw [Nat.succ_mul, d]; omega
        rw [this, magOf_norm f (Nat.le_refl _) (by omega), d, Nat.pow_succ, Nat.mul_comm 2, Nat.mul_assoc, Nat.mul_comm 2]
  rw [hM]
  refine ⟨g2, ?_⟩
  rcases hAB with h | h
  · subst h
    rw [Nat.pow_zero, Nat.mul_one] at herr
    refine ⟨2 ^ (B + u), ?_, ?_, ?_⟩
    · have := Nat.mul_le_mul_right (2 ^ u) herr.1
      rw [Nat.add_mul, Nat.mul_assoc, Nat.mul_assoc, Nat.mul_assoc, ← Nat.pow_add] at this
      rw [Nat.mul_assoc, ← Nat.pow_add, show q + v = B + u by omega]
      exact this
    · have := Nat.mul_le_mul_right (2 ^ u) herr.2
      rw [Nat.add_mul, Nat.mul_assoc, Nat.mul_assoc, Nat.mul_assoc, ← Nat.pow_add] at this
      rw [Nat.mul_assoc kept, ← Nat.pow_add, show q + v = B + u by omega]
      exact this
    · rcases Nat.eq_zero_or_pos q with e | e
      · left; rw [show B + u = v by omega]
      · right; exact hD e rfl
  · have hk0 := hx h
    clear hx
    subst h
    have hv := Nat.two_pow_pos v
    have e : kept * 2 ^ q * 2 ^ v = mag * 2 ^ u := by
      rw [hk0, Nat.mul_assoc (mag * 2 ^ A), ← Nat.pow_add, Nat.mul_assoc mag, ← Nat.pow_add, show A + (q + v) = u by omega]
    rw [e]
    exact ⟨2 ^ v, by omega, by omega, .inl rfl⟩
end Go.Ev

set_option exponentiation.threshold 4000
namespace Go.Ev
open Ieee
/-! Floats as rational numbers, and how far a result lies from the exact one. -/
def UU : Rat := 2 ^ 1074
def EE53 : Rat := 1 / 9007199254740992
def HH : Rat := 1 / (2 * UU)
theorem UU_pos : 0 < UU := Rat.pow_pos (by decide)
theorem EE_eq : EE53 * 9007199254740992 = 1 := by unfold EE53; grind
theorem HH_eq : HH * (2 * UU) = 1 := by
  unfold HH
  have := UU_pos
  refine Rat.div_mul_cancel fun h => ?_
  grind
def vI (x : Nat) : Int := sg (neg .f64 x) (magOf double (rg double x))
def val (x : Nat) : Rat := (vI x : Rat) / UU
theorem val_U (x : Nat) : val x * UU = (vI x : Rat) := by
  have := UU_pos
  exact Rat.div_mul_cancel fun h => by grind
theorem le_of_mul {a c : Rat} (hc : 0 < c) (h : a * c ≤ 0) : a ≤ 0 := by
  rcases (Rat.le_total : a ≤ 0 ∨ 0 ≤ a) with h1 | h1
  · exact h1
  · have h2 := Rat.mul_nonneg h1 (Rat.le_of_lt hc)
    have h3 : a * c = 0 := by grind
    have h4 : c ≠ 0 := by grind
    have : a = 0 := by grind
    grind
theorem zero_of_mul {a c : Rat} (hc : 0 < c) (h : a * c = 0) : a = 0 := by
  have h1 := le_of_mul hc (a := a) (by grind)
  have h2 := le_of_mul hc (a := -a) (by grind)
  grind
def Near (r x : Rat) : Prop := ∀ B : Rat, x ≤ B → -x ≤ B → r - x ≤ B * EE53 + HH ∧ x - r ≤ B * EE53 + HH
theorem lin1 {a b N D P : Rat} (h1 : 2 * a ≤ 2 * N + D) (hD : D ≤ P + 2 * b) : a - N - b - P * (1 / 2) ≤ 0 := by grind
theorem lin2 {a b N D P : Rat} (h1 : 2 * N ≤ 2 * a + D) (hD : D ≤ P + 2 * b) : N - a - b - P * (1 / 2) ≤ 0 := by grind
theorem HH_pos : 0 ≤ HH := by
  have h := HH_eq
  have := UU_pos
  rcases (Rat.le_total : HH ≤ 0 ∨ 0 ≤ HH) with h1 | h1
  · have h2 := Rat.mul_nonneg (show 0 ≤ -HH by grind) (show 0 ≤ 2 * UU by grind)
    grind
  · exact h1
theorem EE_pos : 0 ≤ EE53 := by unfold EE53; grind
theorem near_abs {M N D P V X : Rat} (hP : 0 < P) (h1 : 2 * (M * P) ≤ 2 * N + D) (h2 : 2 * N ≤ 2 * (M * P) + D) (hD : D ≤ P + 2 * (N * EE53)) (hV : V * UU = M) (hX : X * (P * UU) = N) : V - X ≤ X * EE53 + HH ∧ X - V ≤ X * EE53 + HH := by
  have hU := UU_pos
  have hH := HH_eq
  have hPU := Rat.mul_pos hP hU
  constructor
  · have e : (V - X - X * EE53 - HH) * (P * UU) = M * P - N - N * EE53 - P * (1 / 2) := by grind
    have := le_of_mul hPU (by rw [e]; exact lin1 h1 hD)
    grind
  · have e : (X - V - X * EE53 - HH) * (P * UU) = N - M * P - N * EE53 - P * (1 / 2) := by grind
    have := le_of_mul hPU (by rw [e]; exact lin2 h2 hD)
    grind
theorem mul_E {a b : Rat} (h : a ≤ b) : a * EE53 ≤ b * EE53 := Rat.mul_le_mul_of_nonneg_right h EE_pos
theorem sg_cast (s : Bool) (n : Nat) : ((sg s n : Int) : Rat) = if s then -(n : Rat) else (n : Rat) := by
  cases s
  · exact Rat.intCast_natCast n
  · show ((-(n : Int) : Int) : Rat) = -(n : Rat)
    rw [Rat.intCast_neg, Rat.intCast_natCast]
theorem near_val (s : Bool) {m : Nat} {place : Int} {u v : Nat} (huv : place + v = -1074 + u) (hf : fin .f64 (double.nearest s m place) = true) {X : Rat} (hX : X * ((2 : Rat) ^ v * UU) = ((sg s (m * 2 ^ u) : Int) : Rat)) : Near (val (double.nearest s m place)) X := by
  have hP : (0 : Rat) < 2 ^ v := Rat.pow_pos (by decide)
  have hU := UU_pos
  have hHp := HH_pos
  by_cases h0 : m = 0
  · subst h0
    have e1 : double.nearest s 0 place = double.word s 0 := nearest_zero _ _ _
    have e2 : val (double.word s 0) = 0 := by
      have h := val_U (double.word s 0)
      have e3 : vI (double.word s 0) = 0 := by
        have := rg_word double s (r := 0) (by decide +kernel)
        unfold vI
        show sg (sgn double (double.word s 0)) _ = _
        rw [this.1, this.2]
        cases s <;> decide
      rw [e3] at h
      have h : val (double.word s 0) * UU = 0 := h
      grind
    have e4 : X = 0 := by
      have e5 : ((sg s (0 * 2 ^ u) : Int) : Rat) = 0 := by
        rw [Nat.zero_mul]; cases s <;> rfl
      rw [e5] at hX
      exact zero_of_mul (Rat.mul_pos hP hU) hX
    rw [e1, e2, e4]
    intro B h1 h2
    have := mul_E h1
    grind
  · have hf' : rg double (double.nearest s m place) < double.infRung := of_decide_eq_true hf
    obtain ⟨hs, D, d1, d2, d3⟩ := nearest_err double s (by decide +kernel) h0 hf' (u := u) (v := v) (by rw [show double.leastPlace = -1074 by decide]; exact huv)
    have hv := val_U (double.nearest s m place)
    unfold vI at hv
    have hs2 : neg .f64 (double.nearest s m place) = s := hs
    rw [hs2, sg_cast] at hv
    rw [sg_cast] at hX
    generalize magOf double (rg double (double.nearest s m place)) = M at *
    generalize val (double.nearest s m place) = V at *
    have q1 : 2 * ((M : Rat) * 2 ^ v) ≤ 2 * ((m * 2 ^ u : Nat) : Rat) + (D : Rat) := by
      have : ((2 * (M * 2 ^ v) : Nat) : Rat) ≤ ((2 * (m * 2 ^ u) + D : Nat) : Rat) := Rat.natCast_le_natCast.2 d1
      simpa [Rat.natCast_mul, Rat.natCast_add, Rat.natCast_pow] using this
    have q2 : 2 * ((m * 2 ^ u : Nat) : Rat) ≤ 2 * ((M : Rat) * 2 ^ v) + (D : Rat) := by
      have : ((2 * (m * 2 ^ u) : Nat) : Rat) ≤ ((2 * (M * 2 ^ v) + D : Nat) : Rat) := Rat.natCast_le_natCast.2 d2
      simpa [Rat.natCast_mul, Rat.natCast_add, Rat.natCast_pow] using this
    have hN : (0 : Rat) ≤ ((m * 2 ^ u : Nat) : Rat) := Rat.natCast_nonneg
    have q3 : (D : Rat) ≤ 2 ^ v + 2 * (((m * 2 ^ u : Nat) : Rat) * EE53) := by
      have hE := EE_eq
      have hNE := Rat.mul_nonneg hN EE_pos
      rcases d3 with d | d
      · have : (D : Rat) = 2 ^ v := by rw [d]; simp [Rat.natCast_pow]
        grind
      · have : ((D * 4503599627370496 : Nat) : Rat) ≤ ((m * 2 ^ u : Nat) : Rat) := Rat.natCast_le_natCast.2 d
        have h2 : (D : Rat) * 4503599627370496 ≤ ((m * 2 ^ u : Nat) : Rat) := by simpa [Rat.natCast_mul] using this
        have h3 := mul_E h2
        have h4 : (D : Rat) * 4503599627370496 * EE53 * 2 = D := by grind
        grind
    generalize ((m * 2 ^ u : Nat) : Rat) = N at *
    intro B b1 b2
    cases s
    · have hX' : X * (2 ^ v * UU) = N := hX
      have hv' : V * UU = (M : Rat) := hv
      have := near_abs hP q1 q2 q3 hv' hX'
      have := mul_E b1
      grind
    · have hX' : (-X) * (2 ^ v * UU) = N := by have : X * (2 ^ v * UU) = -N := hX; grind
      have hv' : (-V) * UU = (M : Rat) := by have : V * UU = -(M : Rat) := hv; grind
      have := near_abs hP q1 q2 q3 hv' hX'
      have := mul_E b2
      grind
end Go.Ev

set_option exponentiation.threshold 4000
namespace Go.Ev
open Ieee
/-! Sums, differences, products: finite, and near to the exact ones. -/
def CC : Rat := 2 ^ 900
theorem powR (a : Rat) (m : Nat) : ∀ n : Nat, a ^ (m + n) = a ^ m * a ^ n
  | 0 => by rw [Nat.add_zero, Rat.pow_zero, Rat.mul_one]
  | n + 1 => by rw [← Nat.add_assoc, Rat.pow_succ, powR a m n, Rat.pow_succ, Rat.mul_assoc]
theorem near_fin (s : Bool) {m : Nat} {place : Int} {u v : Nat} (huv : place + v = -1074 + u) {X : Rat} (hX : X * ((2 : Rat) ^ v * UU) = ((sg s (m * 2 ^ u) : Int) : Rat)) (h1 : X ≤ CC) (h2 : -X ≤ CC) : fin .f64 (double.nearest s m place) = true := by
  refine decide_eq_true ?_
  refine nearest_fin FloatKind.f64.format s m place 1000 ?_ (by decide) (by decide +kernel) (by decide +kernel)
  by_cases h0 : m = 0
  · exact .inl h0
  · right
    have hPU : (0 : Rat) < 2 ^ v * UU := Rat.mul_pos (Rat.pow_pos (by decide)) UU_pos
    have hN : ((m * 2 ^ u : Nat) : Rat) ≤ CC * (2 ^ v * UU) := by
      rw [sg_cast] at hX
      cases s
      · have hX' : X * (2 ^ v * UU) = ((m * 2 ^ u : Nat) : Rat) := hX
        rw [← hX']
        exact Rat.mul_le_mul_of_nonneg_right h1 (Rat.le_of_lt hPU)
      · have hX' : (-X) * (2 ^ v * UU) = ((m * 2 ^ u : Nat) : Rat) := by have : X * (2 ^ v * UU) = -((m * 2 ^ u : Nat) : Rat) := hX; grind
        rw [← hX']
        exact Rat.mul_le_mul_of_nonneg_right h2 (Rat.le_of_lt hPU)
    have e : CC * (2 ^ v * UU) = ((2 ^ (900 + (v + 1074)) : Nat) : Rat) := by
      unfold CC UU
      rw [Rat.natCast_pow, powR, powR]
      rfl
    rw [e] at hN
    have hN := Rat.natCast_le_natCast.1 hN
    have h3 := Nat.log2_self_le h0
    have h4 : 2 ^ (m.log2 + u) ≤ 2 ^ (900 + (v + 1074)) := by
      rw [Nat.pow_add]
      exact Nat.le_trans (Nat.mul_le_mul_right _ h3) hN
    have h5 := (Nat.pow_le_pow_iff_right (a := 2) (by omega)).1 h4
    omega
theorem sg_mulR (s : Bool) (a b : Nat) : sg s (a * b) = sg s a * (b : Int) := by
  cases s
  · exact Int.natCast_mul a b
  · show -((a * b : Nat) : Int) = -(a : Int) * b
    rw [Int.natCast_mul, Int.neg_mul]
theorem sg_sg (s t : Bool) (a b : Nat) : sg (s ^^ t) (a * b) = sg s a * sg t b := by
  cases s <;> cases t
  · exact Int.natCast_mul a b
  · show -((a * b : Nat) : Int) = (a : Int) * -(b : Int)
    rw [Int.natCast_mul, Int.mul_neg]
  · show -((a * b : Nat) : Int) = -(a : Int) * (b : Int)
    rw [Int.natCast_mul, Int.neg_mul]
  · show ((a * b : Nat) : Int) = -(a : Int) * -(b : Int)
    rw [Int.natCast_mul, Int.neg_mul_neg]
theorem sg_abs (t : Int) (s : Bool) (b : Nat) : sg (if t = 0 then s else decide (t < 0)) (t.natAbs * b) = t * (b : Int) := by
  rw [sg_mulR]
  by_cases h : t = 0
  · subst h; rw [if_pos rfl]
    cases s <;> simp [sg]
  · rw [if_neg h]
    by_cases h2 : t < 0
    · rw [decide_eq_true h2]
      show -(t.natAbs : Int) * _ = _
      rw [show -(t.natAbs : Int) = t by omega]
    · rw [decide_eq_false h2]
      show (t.natAbs : Int) * _ = _
      rw [show (t.natAbs : Int) = t by omega]
theorem signed_sg (s : Bool) (m k : Nat) : signed s m k = sg s (m * 2 ^ k) := by
  unfold signed sg
  rw [Nat.shiftLeft_eq]
theorem lp_d : double.leastPlace = -1074 := by decide
theorem sg_not (s : Bool) (n : Nat) : sg (!s) n = -sg s n := by cases s <;> simp [sg]
theorem fmul_near {x y : Nat} (hx : fin .f64 x = true) (hy : fin .f64 y = true) (h1 : val x * val y ≤ CC) (h2 : -(val x * val y) ≤ CC) : fin .f64 (fmul .f64 x y) = true ∧ Near (val (fmul .f64 x y)) (val x * val y) := by
  obtain ⟨m, i, a1, a2⟩ := read_kind .f64 hx
  obtain ⟨n, j, b1, b2⟩ := read_kind .f64 hy
  have ex : val x * UU = ((sg (neg .f64 x) (m * 2 ^ i) : Int) : Rat) := by rw [val_U, a2]; rfl
  have ey : val y * UU = ((sg (neg .f64 y) (n * 2 ^ j) : Int) : Rat) := by rw [val_U, b2]; rfl
  have hX : (val x * val y) * ((2 : Rat) ^ 1074 * UU) = ((sg (neg .f64 x ^^ neg .f64 y) (m * n * 2 ^ (i + j)) : Int) : Rat) := by
    rw [show m * n * 2 ^ (i + j) = m * 2 ^ i * (n * 2 ^ j) by rw [Nat.pow_add]; ac_rfl, sg_sg, Rat.intCast_mul, ← ex, ← ey]
    show val x * val y * (UU * UU) = _
    grind
  have huv : double.leastPlace + (i : Int) + (double.leastPlace + (j : Int)) + ((1074 : Nat) : Int) = -1074 + ((i + j : Nat) : Int) := by rw [lp_d]; omega
  have hf := near_fin _ huv hX h1 h2
  have e : fmul .f64 x y = double.nearest (neg .f64 x ^^ neg .f64 y) (m * n) (double.leastPlace + (i : Int) + (double.leastPlace + (j : Int))) := by
    unfold fmul Format.mul
    rw [a1, b1]
    rfl
  rw [e]
  exact ⟨hf, near_val _ huv hf hX⟩
end Go.Ev

set_option exponentiation.threshold 4000
namespace Go.Ev
open Ieee
/-! Comparisons and quotients, told of rational numbers. -/
theorem magOf_0 : magOf double 0 = 0 := by decide
theorem mag_lt {r s : Nat} : magOf double r < magOf double s ↔ r < s := by
  constructor
  · intro h
    rcases Nat.lt_or_ge r s with c | c
    · exact c
    · have := mag_le c; omega
  · exact magOf_mono double
theorem vI_le {x y : Nat} : vI x ≤ vI y ↔ wrt .f64 x ≤ wrt .f64 y := by
  have h1 := mag_lt (r := rg double x) (s := rg double y)
  have h2 := mag_lt (r := rg double y) (s := rg double x)
  have h3 := mag_lt (r := 0) (s := rg double x)
  have h4 := mag_lt (r := 0) (s := rg double y)
  rw [magOf_0] at h3 h4
  have e : ∀ z, wrt .f64 z = sg (neg .f64 z) (rg double z) := fun z => rfl
  rw [e, e]
  unfold vI
  cases neg .f64 x <;> cases neg .f64 y
  · show ((magOf double (rg double x) : Nat) : Int) ≤ ((magOf double (rg double y) : Nat) : Int) ↔ ((rg double x : Nat) : Int) ≤ ((rg double y : Nat) : Int)
    omega
  · show ((magOf double (rg double x) : Nat) : Int) ≤ -((magOf double (rg double y) : Nat) : Int) ↔ ((rg double x : Nat) : Int) ≤ -((rg double y : Nat) : Int)
    omega
  · show -((magOf double (rg double x) : Nat) : Int) ≤ ((magOf double (rg double y) : Nat) : Int) ↔ -((rg double x : Nat) : Int) ≤ ((rg double y : Nat) : Int)
    omega
  · show -((magOf double (rg double x) : Nat) : Int) ≤ -((magOf double (rg double y) : Nat) : Int) ↔ -((rg double x : Nat) : Int) ≤ -((rg double y : Nat) : Int)
    omega
theorem val_le {x y : Nat} : val x ≤ val y ↔ wrt .f64 x ≤ wrt .f64 y := by
  rw [← vI_le]
  have hx := val_U x
  have hy := val_U y
  have hU := UU_pos
  constructor
  · intro h
    have := Rat.mul_le_mul_of_nonneg_right h (Rat.le_of_lt hU)
    rw [hx, hy] at this
    exact Rat.intCast_le_intCast.1 this
  · intro h
    have := Rat.intCast_le_intCast.2 h
    rw [← hx, ← hy] at this
    have := le_of_mul hU (a := val x - val y) (by grind)
    grind
theorem fle_val {x y : Nat} (hx : fin .f64 x = true) (hy : fin .f64 y = true) : fle .f64 x y = true ↔ val x ≤ val y := by
  rw [fle_eq, fin_not_nan hx, fin_not_nan hy, val_le]
  simp
theorem fge_val {x y : Nat} (hx : fin .f64 x = true) (hy : fin .f64 y = true) : fge .f64 x y = true ↔ val y ≤ val x := by
  rw [fge_eq, fin_not_nan hx, fin_not_nan hy, val_le]
  simp
theorem flt_val {x y : Nat} (hx : fin .f64 x = true) (hy : fin .f64 y = true) : flt .f64 x y = true ↔ val x < val y := by
  rw [flt_eq, fin_not_nan hx, fin_not_nan hy]
  have := val_le (x := y) (y := x)
  simp only [Bool.not_false, Bool.true_and, decide_eq_true_eq]
  constructor
  · intro h
    rcases (Rat.le_total : val y ≤ val x ∨ val x ≤ val y) with c | c
    · have := this.1 c; omega
    · rcases Rat.le_iff_lt_or_eq.1 c with d | d
      · exact d
      · have := this.1 (by rw [d]; exact Rat.le_refl); omega
  · intro h
    rcases Int.lt_or_le (wrt .f64 x) (wrt .f64 y) with c | c
    · exact c
    · have := this.2 c; grind
def Near2 (r x : Rat) : Prop := ∀ B : Rat, x ≤ B → -x ≤ B → r - x ≤ B * (2 * EE53) + HH ∧ x - r ≤ B * (2 * EE53) + HH
theorem quot_nat {m n : Nat} (hn : n ≠ 0) (hm : m ≠ 0) {T : Nat} (hT : T = 2 * ((m <<< (54 + n.log2 - m.log2)) / n) + ((m <<< (54 + n.log2 - m.log2)) % n != 0).toNat) :
    T * n ≤ 2 * (m * 2 ^ (54 + n.log2 - m.log2)) + n ∧ 2 * (m * 2 ^ (54 + n.log2 - m.log2)) ≤ T * n + n ∧ n * 2 ^ 53 ≤ m * 2 ^ (54 + n.log2 - m.log2) := by
  rw [Nat.shiftLeft_eq] at hT
  have hlm := Nat.log2_self_le hm
  have hln := Nat.lt_log2_self (n := n)
  have hbig : n * 2 ^ 53 ≤ m * 2 ^ (54 + n.log2 - m.log2) := by
    refine Nat.le_trans (Nat.mul_le_mul_right _ (Nat.le_of_lt hln)) (Nat.le_trans ?_ (Nat.mul_le_mul_right _ hlm))
    rw [← Nat.pow_add, ← Nat.pow_add]
    exact Nat.pow_le_pow_right (by omega) (by omega)
  generalize m * 2 ^ (54 + n.log2 - m.log2) = dd at *
  have h1 := Nat.div_add_mod dd n
  have h2 := Nat.mod_lt dd (Nat.pos_of_ne_zero hn)
  generalize dd / n = D at *
  generalize dd % n = R at *
  refine ⟨?_, ?_, hbig⟩
  · subst hT
    rw [Nat.add_mul, Nat.mul_assoc, Nat.mul_comm D n]
    cases hr : (R != 0)
    · show 2 * (n * D) + 0 * n ≤ _; omega
    · show 2 * (n * D) + 1 * n ≤ _; omega
  · subst hT
    rw [Nat.add_mul, Nat.mul_assoc, Nat.mul_comm D n]
    cases hr : (R != 0)
    · have : R = 0 := by simpa using hr
      show _ ≤ 2 * (n * D) + 0 * n + n; omega
    · show _ ≤ 2 * (n * D) + 1 * n + n; omega
theorem div_core {a b q X : Rat} (hb : 0 < b) (hq : q * b = a) (h1 : X * b - a ≤ a * EE53 * (1 / 2)) (h2 : a - X * b ≤ a * EE53 * (1 / 2)) : X - q ≤ q * EE53 * (1 / 2) ∧ q - X ≤ q * EE53 * (1 / 2) := by
  constructor
  · have e : (X - q - q * EE53 * (1 / 2)) * b = X * b - a - a * EE53 * (1 / 2) := by grind
    have := le_of_mul hb (a := X - q - q * EE53 * (1 / 2)) (by rw [e]; grind)
    grind
  · have e : (q - X - q * EE53 * (1 / 2)) * b = a - X * b - a * EE53 * (1 / 2) := by grind
    have := le_of_mul hb (a := q - X - q * EE53 * (1 / 2)) (by rw [e]; grind)
    grind
theorem quot_abs {m n i j : Nat} (hn : n ≠ 0) {T : Nat} (hT : T = 2 * ((m <<< (54 + n.log2 - m.log2)) / n) + ((m <<< (54 + n.log2 - m.log2)) % n != 0).toNat) {a b q X : Rat} (ha : a * UU = ((m * 2 ^ i : Nat) : Rat)) (hb : b * UU = ((n * 2 ^ j : Nat) : Rat)) (hq : q * b = a)
    (hX : X * ((2 : Rat) ^ (j + (54 + n.log2 - m.log2) + 1) * UU) = ((T * 2 ^ (1074 + i) : Nat) : Rat)) : 0 < b ∧ 0 ≤ q ∧ X - q ≤ q * EE53 * (1 / 2) ∧ q - X ≤ q * EE53 * (1 / 2) := by
  have hU := UU_pos
  have hb0 : 0 < b := by
    rcases (Rat.le_total : b ≤ 0 ∨ 0 ≤ b) with c | c
    · exfalso
      have h1 := Rat.mul_le_mul_of_nonneg_right c (Rat.le_of_lt hU)
      rw [hb, Rat.zero_mul] at h1
      have h2 : ((n * 2 ^ j : Nat) : Rat) ≤ ((0 : Nat) : Rat) := h1
      have h3 := Rat.natCast_le_natCast.1 h2
      have := Nat.mul_pos (Nat.pos_of_ne_zero hn) (Nat.two_pow_pos j)
      omega
    · rcases Rat.le_iff_lt_or_eq.1 c with d | d
      · exact d
      · exfalso
        rw [← d, Rat.zero_mul] at hb
        have h2 : ((n * 2 ^ j : Nat) : Rat) ≤ ((0 : Nat) : Rat) := by rw [← hb]; exact Rat.le_refl
        have h3 := Rat.natCast_le_natCast.1 h2
        have := Nat.mul_pos (Nat.pos_of_ne_zero hn) (Nat.two_pow_pos j)
        omega
  have ha0 : 0 ≤ a := by
    have h1 : (0 : Rat) ≤ ((m * 2 ^ i : Nat) : Rat) := Rat.natCast_nonneg
    rw [← ha] at h1
    have := le_of_mul hU (a := -a) (by grind)
    grind
  have hq0 : 0 ≤ q := by
    have := le_of_mul hb0 (a := -q) (by grind)
    grind
  refine ⟨hb0, hq0, ?_⟩
  by_cases hm : m = 0
  · subst hm
    have hT0 : T = 0 := by rw [hT]; simp
    subst hT0
    have ea : a = 0 := zero_of_mul hU (by rw [ha, Nat.zero_mul]; rfl)
    have eX : X = 0 := by
      have hp2 : (0 : Rat) < 2 ^ (j + (54 + n.log2 - (0 : Nat).log2) + 1) := Rat.pow_pos (by decide)
      exact zero_of_mul (Rat.mul_pos hp2 hU) (by rw [hX, Nat.zero_mul]; rfl)
    have eq0 : q = 0 := zero_of_mul hb0 (by rw [hq, ea])
    rw [eX, eq0]
    constructor <;> grind
  obtain ⟨q1, q2, q3⟩ := quot_nat hn hm hT
  generalize hM : 54 + n.log2 - m.log2 = M at *
  have c1 : ((T * n : Nat) : Rat) ≤ ((2 * (m * 2 ^ M) + n : Nat) : Rat) := Rat.natCast_le_natCast.2 q1
  have c2 : ((2 * (m * 2 ^ M) : Nat) : Rat) ≤ ((T * n + n : Nat) : Rat) := Rat.natCast_le_natCast.2 q2
  have c3 : ((n * 2 ^ 53 : Nat) : Rat) ≤ ((m * 2 ^ M : Nat) : Rat) := Rat.natCast_le_natCast.2 q3
  simp only [Rat.natCast_mul, Rat.natCast_add, Rat.natCast_pow] at c1 c2 c3 ha hb hX
  rw [powR, powR] at hX
  rw [show ((2 : Nat) : Rat) = 2 from rfl] at *
  have eU : (2 : Rat) ^ 1074 = UU := rfl
  rw [powR, eU] at hX
  have hPi : (0 : Rat) < 2 ^ i := Rat.pow_pos (by decide)
  have hPj : (0 : Rat) < 2 ^ j := Rat.pow_pos (by decide)
  have hPM : (0 : Rat) < 2 ^ M := Rat.pow_pos (by decide)
  have e53 : (n : Rat) * 9007199254740992 ≤ (m : Rat) * 2 ^ M := c3
  have c4 := mul_E e53
  have hE := EE_eq
  have c5 : (n : Rat) * 9007199254740992 * EE53 = n := by grind
  rw [c5] at c4
  rw [show (2 : Rat) ^ 1 = 2 from by grind] at hX
  generalize (2 : Rat) ^ i = Pi at *
  generalize (2 : Rat) ^ j = Pj at *
  generalize (2 : Rat) ^ M = PM at *
  generalize (m : Rat) = mr at *
  generalize (n : Rat) = nr at *
  generalize (T : Rat) = Tr at *
  -- X * Pj * PM * 2 = Tr * Pi
  have hX2 : X * (Pj * PM * 2) = Tr * Pi := by
    have h : (X * (Pj * PM * 2) - Tr * Pi) * UU = 0 := by grind
    have := zero_of_mul hU h
    grind
  have hK : 0 < PM * 2 * UU := Rat.mul_pos (Rat.mul_pos hPM (by decide)) hU
  have f1 : (X * b) * (PM * 2 * UU) = Tr * nr * Pi := by
    have : (X * b) * (PM * 2 * UU) = X * (Pj * PM * 2) * nr := by grind
    rw [this, hX2]; grind
  have f2 : a * (PM * 2 * UU) = 2 * (mr * PM) * Pi := by
    have : a * (PM * 2 * UU) = (a * UU) * (PM * 2) := by grind
    rw [this, ha]; grind
  have g1 := Rat.mul_le_mul_of_nonneg_right c1 (Rat.le_of_lt hPi)
  have g2 := Rat.mul_le_mul_of_nonneg_right c2 (Rat.le_of_lt hPi)
  have g3 := Rat.mul_le_mul_of_nonneg_right c4 (Rat.le_of_lt hPi)
  refine div_core hb0 hq ?_ ?_
  · have e : (X * b - a - a * EE53 * (1 / 2)) * (PM * 2 * UU) = Tr * nr * Pi - 2 * (mr * PM) * Pi - (mr * PM * EE53) * Pi := by
      have : (X * b - a - a * EE53 * (1 / 2)) * (PM * 2 * UU) = (X * b) * (PM * 2 * UU) - a * (PM * 2 * UU) - a * (PM * 2 * UU) * (EE53 * (1 / 2)) := by grind
      rw [this, f1, f2]; grind
    have := le_of_mul hK (a := X * b - a - a * EE53 * (1 / 2)) (by rw [e]; grind)
    grind
  · have e : (a - X * b - a * EE53 * (1 / 2)) * (PM * 2 * UU) = 2 * (mr * PM) * Pi - Tr * nr * Pi - (mr * PM * EE53) * Pi := by
      have : (a - X * b - a * EE53 * (1 / 2)) * (PM * 2 * UU) = a * (PM * 2 * UU) - (X * b) * (PM * 2 * UU) - a * (PM * 2 * UU) * (EE53 * (1 / 2)) := by grind
      rw [this, f1, f2]; grind
    have := le_of_mul hK (a := a - X * b - a * EE53 * (1 / 2)) (by rw [e]; grind)
    grind
theorem fdiv_near {x y : Nat} (hx : fin .f64 x = true) (hy : fin .f64 y = true) (h0 : val y ≠ 0) {q : Rat} (hq : q * val y = val x) (h1 : 2 * q ≤ CC) (h2 : -(2 * q) ≤ CC) : fin .f64 (fdiv .f64 x y) = true ∧ Near2 (val (fdiv .f64 x y)) q := by
  obtain ⟨m, i, a1, a2⟩ := read_kind .f64 hx
  obtain ⟨n, j, b1, b2⟩ := read_kind .f64 hy
  have ex : val x * UU = ((sg (neg .f64 x) (m * 2 ^ i) : Int) : Rat) := by rw [val_U, a2]; rfl
  have ey : val y * UU = ((sg (neg .f64 y) (n * 2 ^ j) : Int) : Rat) := by rw [val_U, b2]; rfl
  have hU := UU_pos
  have hn : n ≠ 0 := by
    intro hn
    refine h0 (zero_of_mul hU ?_)
    rw [ey, hn, Nat.zero_mul]
    cases neg .f64 y <;> rfl
  generalize hT : 2 * ((m <<< (54 + n.log2 - m.log2)) / n) + ((m <<< (54 + n.log2 - m.log2)) % n != 0).toNat = T
  generalize hp : double.leastPlace + (i : Int) - (double.leastPlace + (j : Int)) - ((54 + n.log2 - m.log2 : Nat) : Int) - 1 = place
  have e : fdiv .f64 x y = double.nearest (neg .f64 x ^^ neg .f64 y) T place := by
    unfold fdiv Format.div
    rw [a1, b1]
    unfold Datum.quotient
    dsimp only
    rw [if_neg hn, ← hT, ← hp]
    rfl
  have huv : place + ((j + (54 + n.log2 - m.log2) + 1 : Nat) : Int) = -1074 + ((1074 + i : Nat) : Int) := by rw [← hp, lp_d]; omega
  have hP : (0 : Rat) < 2 ^ (j + (54 + n.log2 - m.log2) + 1) := Rat.pow_pos (by decide)
  -- the exact number that is written
  obtain ⟨X, hX⟩ : ∃ X : Rat, X * ((2 : Rat) ^ (j + (54 + n.log2 - m.log2) + 1) * UU) = ((T * 2 ^ (1074 + i) : Nat) : Rat) := by
    have h := Rat.mul_pos hP hU
    exact ⟨_, Rat.div_mul_cancel (a := ((T * 2 ^ (1074 + i) : Nat) : Rat)) (b := (2 : Rat) ^ (j + (54 + n.log2 - m.log2) + 1) * UU) fun h' => by rw [h'] at h; exact absurd h (by decide)⟩
  rw [sg_cast] at ex ey
  rw [e]
  have key : ∀ (a b q' : Rat), a * UU = ((m * 2 ^ i : Nat) : Rat) → b * UU = ((n * 2 ^ j : Nat) : Rat) → q' * b = a → 0 ≤ q' ∧ X - q' ≤ q' * EE53 * (1 / 2) ∧ q' - X ≤ q' * EE53 * (1 / 2) := fun a b q' ha hb hq' => (quot_abs hn hT.symm ha hb hq' hX).2
  have hE0 := EE_pos
  have hE1 : EE53 ≤ 1 / 1024 := by unfold EE53; grind
  have hH := HH_pos
  -- what follows from both parts
  have fin2 : ∀ (s : Bool) (Y : Rat), Y * ((2 : Rat) ^ (j + (54 + n.log2 - m.log2) + 1) * UU) = ((sg s (T * 2 ^ (1074 + i)) : Int) : Rat) → Y ≤ CC → -Y ≤ CC → fin .f64 (double.nearest s T place) = true ∧ Near (val (double.nearest s T place)) Y := fun s Y hY c1 c2 =>
    ⟨near_fin s huv hY c1 c2, near_val s huv (near_fin s huv hY c1 c2) hY⟩
  have qE : ∀ q' : Rat, 0 ≤ q' → q' * EE53 * (1 / 2) ≤ q' * (1 / 2048) := fun q' h => by
    have := Rat.mul_le_mul_of_nonneg_left hE1 h
    grind
  have EE2 : EE53 * EE53 ≤ EE53 * (1 / 1024) := Rat.mul_le_mul_of_nonneg_left hE1 hE0
  have join : ∀ (r q' Y B : Rat), 0 ≤ B → (r - Y ≤ (B + B * EE53 * (1 / 2)) * EE53 + HH ∧ Y - r ≤ (B + B * EE53 * (1 / 2)) * EE53 + HH) → Y - q' ≤ B * EE53 * (1 / 2) → q' - Y ≤ B * EE53 * (1 / 2) → r - q' ≤ B * (2 * EE53) + HH ∧ q' - r ≤ B * (2 * EE53) + HH := fun r q' Y B hB hr d1 d2 => by
    have h3 := Rat.mul_le_mul_of_nonneg_left EE2 hB
    have h4 := Rat.mul_nonneg hB hE0
    have e1 : (B + B * EE53 * (1 / 2)) * EE53 = B * EE53 + B * (EE53 * EE53) * (1 / 2) := by grind
    rw [e1] at hr
    have e2 : B * (EE53 * (1 / 1024)) = B * EE53 * (1 / 1024) := by grind
    rw [e2] at h3
    have e3 : B * (2 * EE53) = 2 * (B * EE53) := by grind
    rw [e3]
    generalize B * (EE53 * EE53) = z at *
    generalize B * EE53 = w at *
    constructor <;> grind
  cases hs : neg .f64 x <;> cases ht : neg .f64 y
  · rw [hs] at ex; rw [ht] at ey
    obtain ⟨k0, k1, k2⟩ := key (val x) (val y) q ex ey hq
    have hc := qE q k0
    obtain ⟨g1, g2⟩ := fin2 false X hX (by grind) (by grind)
    refine ⟨g1, fun B b1 b2 => ?_⟩
    have hB : 0 ≤ B := by grind
    have hm := mul_E b1
    exact join _ _ X B hB (g2 _ (by grind) (by grind)) (by grind) (by grind)
  · rw [hs] at ex; rw [ht] at ey
    obtain ⟨k0, k1, k2⟩ := key (val x) (-val y) (-q) ex (by have : val y * UU = -((n * 2 ^ j : Nat) : Rat) := ey; grind) (by grind)
    have hc := qE (-q) k0
    obtain ⟨g1, g2⟩ := fin2 true (-X) (by have : X * ((2 : Rat) ^ (j + (54 + n.log2 - m.log2) + 1) * UU) = ((T * 2 ^ (1074 + i) : Nat) : Rat) := hX; rw [sg_cast]; show _ = -((T * 2 ^ (1074 + i) : Nat) : Rat); rw [← this]; grind) (by grind) (by grind)
    refine ⟨g1, fun B b1 b2 => ?_⟩
    have hB : 0 ≤ B := by grind
    have hm := mul_E b2
    exact join _ _ (-X) B hB (g2 _ (by grind) (by grind)) (by grind) (by grind)
  · rw [hs] at ex; rw [ht] at ey
    obtain ⟨k0, k1, k2⟩ := key (-val x) (val y) (-q) (by have : val x * UU = -((m * 2 ^ i : Nat) : Rat) := ex; grind) ey (by grind)
    have hc := qE (-q) k0
    obtain ⟨g1, g2⟩ := fin2 true (-X) (by have : X * ((2 : Rat) ^ (j + (54 + n.log2 - m.log2) + 1) * UU) = ((T * 2 ^ (1074 + i) : Nat) : Rat) := hX; rw [sg_cast]; show _ = -((T * 2 ^ (1074 + i) : Nat) : Rat); rw [← this]; grind) (by grind) (by grind)
    refine ⟨g1, fun B b1 b2 => ?_⟩
    have hB : 0 ≤ B := by grind
    have hm := mul_E b2
    exact join _ _ (-X) B hB (g2 _ (by grind) (by grind)) (by grind) (by grind)
  · rw [hs] at ex; rw [ht] at ey
    obtain ⟨k0, k1, k2⟩ := key (-val x) (-val y) q (by have : val x * UU = -((m * 2 ^ i : Nat) : Rat) := ex; grind) (by have : val y * UU = -((n * 2 ^ j : Nat) : Rat) := ey; grind) (by grind)
    have hc := qE q k0
    obtain ⟨g1, g2⟩ := fin2 false X hX (by grind) (by grind)
    refine ⟨g1, fun B b1 b2 => ?_⟩
    have hB : 0 ≤ B := by grind
    have hm := mul_E b1
    exact join _ _ X B hB (g2 _ (by grind) (by grind)) (by grind) (by grind)
end Go.Ev

set_option exponentiation.threshold 4000
namespace Go.Ev
open Ieee
/-! Sums: where the result is small they are exact. -/
def NearX (r x : Rat) : Prop := ∀ B : Rat, x ≤ B → -x ≤ B → r - x ≤ B * EE53 ∧ x - r ≤ B * EE53
theorem NearX.near {r x : Rat} (h : NearX r x) : Near r x := fun B b1 b2 => by
  have := h B b1 b2
  have := HH_pos
  grind
theorem near_absX {M N D V X : Rat} (h1 : 2 * M ≤ 2 * N + D) (h2 : 2 * N ≤ 2 * M + D) (hD : D ≤ 2 * (N * EE53)) (hV : V * UU = M) (hX : X * UU = N) : V - X ≤ X * EE53 ∧ X - V ≤ X * EE53 := by
  have hU := UU_pos
  constructor
  · have e : (V - X - X * EE53) * UU = M - N - N * EE53 := by grind
    have := le_of_mul hU (a := V - X - X * EE53) (by rw [e]; grind)
    grind
  · have e : (X - V - X * EE53) * UU = N - M - N * EE53 := by grind
    have := le_of_mul hU (a := X - V - X * EE53) (by rw [e]; grind)
    grind
theorem near_valX (s : Bool) {m : Nat} {place : Int} {u : Nat} (huv : place + ((0 : Nat) : Int) = -1074 + u) (hf : fin .f64 (double.nearest s m place) = true) {X : Rat} (hX : X * UU = ((sg s (m * 2 ^ u) : Int) : Rat)) : NearX (val (double.nearest s m place)) X := by
  have hU := UU_pos
  by_cases h0 : m = 0
  · subst h0
    have e1 : double.nearest s 0 place = double.word s 0 := nearest_zero _ _ _
    have e2 : val (double.word s 0) = 0 := by
      have e3 : vI (double.word s 0) = 0 := by
        have := rg_word double s (r := 0) (by decide +kernel)
        unfold vI
        show sg (sgn double (double.word s 0)) _ = _
        rw [this.1, this.2]
        cases s <;> decide
      have h := val_U (double.word s 0)
      rw [e3] at h
      exact zero_of_mul hU h
    have e4 : X = 0 := by
      refine zero_of_mul hU ?_
      rw [hX, Nat.zero_mul]; cases s <;> rfl
    rw [e1, e2, e4]
    intro B h1 h2
    have := mul_E h1
    grind
  · have hf' : rg double (double.nearest s m place) < double.infRung := of_decide_eq_true hf
    obtain ⟨hs, D, d1, d2, d3⟩ := nearest_err double s (by decide +kernel) h0 hf' (u := u) (v := 0) (by rw [show double.leastPlace = -1074 by decide]; exact huv)
    have hv := val_U (double.nearest s m place)
    unfold vI at hv
    have hs2 : neg .f64 (double.nearest s m place) = s := hs
    rw [hs2, sg_cast] at hv
    rw [sg_cast] at hX
    rw [Nat.pow_zero, Nat.mul_one] at d1 d2
    rw [Nat.pow_zero] at d3
    generalize magOf double (rg double (double.nearest s m place)) = M at *
    generalize val (double.nearest s m place) = V at *
    generalize hNn : m * 2 ^ u = N at *
    obtain ⟨D', c1, c2, c3⟩ : ∃ D' : Nat, 2 * M ≤ 2 * N + D' ∧ 2 * N ≤ 2 * M + D' ∧ D' * 4503599627370496 ≤ N := by
      rcases d3 with d | d
      · exact ⟨0, by omega, by omega, by rw [Nat.zero_mul]; exact Nat.zero_le _⟩
      · exact ⟨D, d1, d2, d⟩
    have q1 : 2 * (M : Rat) ≤ 2 * (N : Rat) + (D' : Rat) := by
      have : ((2 * M : Nat) : Rat) ≤ ((2 * N + D' : Nat) : Rat) := Rat.natCast_le_natCast.2 c1
      simpa [Rat.natCast_mul, Rat.natCast_add] using this
    have q2 : 2 * (N : Rat) ≤ 2 * (M : Rat) + (D' : Rat) := by
      have : ((2 * N : Nat) : Rat) ≤ ((2 * M + D' : Nat) : Rat) := Rat.natCast_le_natCast.2 c2
      simpa [Rat.natCast_mul, Rat.natCast_add] using this
    have hN : (0 : Rat) ≤ (N : Rat) := Rat.natCast_nonneg
    have q3 : (D' : Rat) ≤ 2 * ((N : Rat) * EE53) := by
      have hE := EE_eq
      have : ((D' * 4503599627370496 : Nat) : Rat) ≤ (N : Rat) := Rat.natCast_le_natCast.2 c3
      have h2 : (D' : Rat) * 4503599627370496 ≤ (N : Rat) := by simpa [Rat.natCast_mul] using this
      have h3 := mul_E h2
      have h4 : (D' : Rat) * 4503599627370496 * EE53 * 2 = D' := by grind
      grind
    generalize (N : Rat) = Nr at *
    intro B b1 b2
    cases s
    · have hX' : X * UU = Nr := hX
      have hv' : V * UU = (M : Rat) := hv
      have := near_absX q1 q2 q3 hv' hX'
      have := mul_E b1
      grind
    · have hX' : (-X) * UU = Nr := by have : X * UU = -Nr := hX; grind
      have hv' : (-V) * UU = (M : Rat) := by have : V * UU = -(M : Rat) := hv; grind
      have := near_absX q1 q2 q3 hv' hX'
      have := mul_E b2
      grind
theorem sum_nearX {s t : Bool} {m n i j : Nat} {x y : Rat} (hx : x * UU = ((sg s (m * 2 ^ i) : Int) : Rat)) (hy : y * UU = ((sg t (n * 2 ^ j) : Int) : Rat)) (h1 : x + y ≤ CC) (h2 : -(x + y) ≤ CC) :
    ∃ r, ((Datum.number s m (double.leastPlace + (i : Nat))).sum (Datum.number t n (double.leastPlace + (j : Nat)))).map double.write = some r ∧ fin .f64 r = true ∧ NearX (val r) (x + y) := by
  obtain ⟨k, hk1, hk2, hk3⟩ : ∃ k, min (double.leastPlace + (i : Int)) (double.leastPlace + (j : Int)) = double.leastPlace + (k : Nat) ∧ k ≤ i ∧ k ≤ j := ⟨min i j, by omega, by omega, by omega⟩
  simp only [Datum.sum, Option.map_some, Format.write]
  rw [hk1, signed_sg, signed_sg, show (double.leastPlace + (i : Int) - (double.leastPlace + (k : Int))).toNat = i - k by omega, show (double.leastPlace + (j : Int) - (double.leastPlace + (k : Int))).toNat = j - k by omega]
  generalize hT : sg s (m * 2 ^ (i - k)) + sg t (n * 2 ^ (j - k)) = T
  have hX : (x + y) * UU = ((sg (if T = 0 then s && t else decide (T < 0)) (T.natAbs * 2 ^ k) : Int) : Rat) := by
    rw [sg_abs, ← hT, Int.add_mul, ← sg_mulR, ← sg_mulR, Nat.mul_assoc, Nat.mul_assoc, ← Nat.pow_add, ← Nat.pow_add, show i - k + k = i by omega, show j - k + k = j by omega, Rat.intCast_add, ← hx, ← hy]
    grind
  have hX0 : (x + y) * ((2 : Rat) ^ 0 * UU) = ((sg (if T = 0 then s && t else decide (T < 0)) (T.natAbs * 2 ^ k) : Int) : Rat) := by
    rw [← hX]; grind
  have huv : double.leastPlace + (k : Int) + ((0 : Nat) : Int) = -1074 + (k : Nat) := by rw [lp_d]; omega
  have hf := near_fin _ huv hX0 h1 h2
  refine ⟨_, rfl, ?_, ?_⟩
  · simpa using hf
  · have := near_valX _ huv hf hX
    simpa using this
theorem fadd_nearX {x y : Nat} (hx : fin .f64 x = true) (hy : fin .f64 y = true) (h1 : val x + val y ≤ CC) (h2 : -(val x + val y) ≤ CC) : fin .f64 (fadd .f64 x y) = true ∧ NearX (val (fadd .f64 x y)) (val x + val y) := by
  obtain ⟨m, i, a1, a2⟩ := read_kind .f64 hx
  obtain ⟨n, j, b1, b2⟩ := read_kind .f64 hy
  have ex : val x * UU = ((sg (neg .f64 x) (m * 2 ^ i) : Int) : Rat) := by rw [val_U, a2]; rfl
  have ey : val y * UU = ((sg (neg .f64 y) (n * 2 ^ j) : Int) : Rat) := by rw [val_U, b2]; rfl
  obtain ⟨r, hr, hf, hn⟩ := sum_nearX ex ey h1 h2
  have e : fadd .f64 x y = r := by
    unfold fadd Format.add
    rw [a1, b1]
    exact congrArg (fun o => Option.getD o (qnan .f64)) hr
  rw [e]
  exact ⟨hf, hn⟩
theorem fsub_nearX {x y : Nat} (hx : fin .f64 x = true) (hy : fin .f64 y = true) (h1 : val x - val y ≤ CC) (h2 : -(val x - val y) ≤ CC) : fin .f64 (fsub .f64 x y) = true ∧ NearX (val (fsub .f64 x y)) (val x - val y) := by
  obtain ⟨m, i, a1, a2⟩ := read_kind .f64 hx
  obtain ⟨n, j, b1, b2⟩ := read_kind .f64 hy
  have ex : val x * UU = ((sg (neg .f64 x) (m * 2 ^ i) : Int) : Rat) := by rw [val_U, a2]; rfl
  have ey : (-val y) * UU = ((sg (!neg .f64 y) (n * 2 ^ j) : Int) : Rat) := by
    have : val y * UU = ((sg (neg .f64 y) (n * 2 ^ j) : Int) : Rat) := by rw [val_U, b2]; rfl
    rw [sg_not, Rat.intCast_neg, ← this]; grind
  obtain ⟨r, hr, hf, hn⟩ := sum_nearX ex ey (by grind) (by grind)
  have e : fsub .f64 x y = r := by
    unfold fsub Format.sub
    rw [a1, b1]
    exact congrArg (fun o => Option.getD o (qnan .f64)) hr
  rw [e]
  exact ⟨hf, by rw [show val x - val y = val x + -val y by grind]; exact hn⟩
end Go.Ev

set_option exponentiation.threshold 4000
namespace Go.Ev
open Ieee
/-! How far a place lies beyond a plane, and where a way goes through it, told of rational numbers. -/
def Bd (x B : Rat) : Prop := x ≤ B ∧ -x ≤ B
theorem mul_bd {x y A B : Rat} (hx : Bd x A) (hy : Bd y B) : Bd (x * y) (A * B) := by
  obtain ⟨x1, x2⟩ := hx
  obtain ⟨y1, y2⟩ := hy
  have a := Rat.mul_nonneg (show 0 ≤ A - x by grind) (show 0 ≤ B + y by grind)
  have b := Rat.mul_nonneg (show 0 ≤ A + x by grind) (show 0 ≤ B - y by grind)
  have c := Rat.mul_nonneg (show 0 ≤ A - x by grind) (show 0 ≤ B - y by grind)
  have d := Rat.mul_nonneg (show 0 ≤ A + x by grind) (show 0 ≤ B + y by grind)
  have e1 : (A - x) * (B + y) + (A + x) * (B - y) = 2 * (A * B) - 2 * (x * y) := by grind
  have e2 : (A - x) * (B - y) + (A + x) * (B + y) = 2 * (A * B) + 2 * (x * y) := by grind
  constructor <;> grind
theorem HH_le : HH ≤ EE53 := by
  have h1 := HH_eq
  have h2 := EE_eq
  have hU := UU_pos
  have h3 : UU = 2 ^ 1020 * 2 ^ 54 := powR 2 1020 54
  have h4 : (1 : Rat) ≤ 2 ^ 1020 := by
    have : ((1 : Nat) : Rat) ≤ ((2 ^ 1020 : Nat) : Rat) := Rat.natCast_le_natCast.2 (Nat.one_le_two_pow)
    rw [Rat.natCast_pow] at this
    exact this
  have h5 : (2 : Rat) ^ 54 = 18014398509481984 := by grind
  have h6 : 18014398509481984 ≤ UU := by
    have := Rat.mul_le_mul_of_nonneg_right h4 (show (0 : Rat) ≤ 2 ^ 54 by rw [h5]; grind)
    rw [h3]; grind
  have h7 := EE_pos
  have h8 := Rat.mul_le_mul_of_nonneg_right h6 h7
  have e : (HH - EE53) * (2 * UU) = 1 - 2 * (UU * EE53) := by grind
  have := le_of_mul (show 0 < 2 * UU by grind) (a := HH - EE53) (by rw [e]; grind)
  grind
theorem EE_le : EE53 ≤ 1 / 1024 := by unfold EE53; grind
theorem near_at {r x c M m : Rat} (hm : m = M * EE53) (h : Near r x) (b : Bd x (c * M)) : Bd (r - x) (c * m + HH) := by
  have := h (c * M) b.1 b.2
  have e : c * M * EE53 = c * m := by rw [hm]; grind
  rw [e] at this
  constructor <;> grind
theorem nearX_at {r x c M m : Rat} (hm : m = M * EE53) (h : NearX r x) (b : Bd x (c * M)) : Bd (r - x) (c * m) := by
  have := h (c * M) b.1 b.2
  have e : c * M * EE53 = c * m := by rw [hm]; grind
  rw [e] at this
  constructor <;> grind
theorem CC_big : (2 : Rat) ^ 60 ≤ CC := by
  unfold CC
  have : ((2 ^ 60 : Nat) : Rat) ≤ ((2 ^ 900 : Nat) : Rat) := Rat.natCast_le_natCast.2 (Nat.pow_le_pow_right (by omega) (by omega))
  rw [Rat.natCast_pow, Rat.natCast_pow] at this
  exact this
structure Fl (x : Nat) (B : Rat) : Prop where
  f : fin .f64 x = true
  b : Bd (val x) B
def bey (n1 n2 fr x y : Nat) : Nat := fsub .f64 (fadd .f64 (fmul .f64 n1 x) (fmul .f64 n2 y)) fr
theorem bey_err {n1 n2 fr x y : Nat} {M m : Rat} (hm : m = M * EE53) (hM : 1 ≤ M) (hM2 : M ≤ 2 ^ 50) (h1 : Fl n1 (33 / 32)) (h2 : Fl n2 (33 / 32)) (hf : Fl fr M) (hx : Fl x (33 / 32 * M)) (hy : Fl y (33 / 32 * M)) :
    fin .f64 (bey n1 n2 fr x y) = true ∧ Bd (val (bey n1 n2 fr x y) - (val n1 * val x + val n2 * val y - val fr)) (12 * m) ∧ Bd (val (bey n1 n2 fr x y)) (4 * M) := by
  have hC := CC_big
  have h50 : (2 : Rat) ^ 50 = 1125899906842624 := by grind
  have h60 : (2 : Rat) ^ 60 = 1152921504606846976 := by grind
  rw [h50] at hM2
  rw [h60] at hC
  have hE := EE_pos
  have hm0 : 0 ≤ m := by rw [hm]; exact Rat.mul_nonneg (by grind) hE
  have hm1 : m ≤ M * (1 / 1024) := by rw [hm]; exact Rat.mul_le_mul_of_nonneg_left EE_le (by grind)
  have hH : HH ≤ m := by
    have a := HH_le
    have b := Rat.mul_le_mul_of_nonneg_right hM hE
    rw [hm]; grind
  have hH0 := HH_pos
  have m1 := mul_bd h1.b hx.b
  have m2 := mul_bd h2.b hy.b
  have e1 : (33 : Rat) / 32 * (33 / 32 * M) = 1089 / 1024 * M := by grind
  rw [e1] at m1 m2
  obtain ⟨f1, g1⟩ := fmul_near h1.f hx.f (by have := m1.1; grind) (by have := m1.2; grind)
  obtain ⟨f2, g2⟩ := fmul_near h2.f hy.f (by have := m2.1; grind) (by have := m2.2; grind)
  have k1 := near_at hm g1 m1
  have k2 := near_at hm g2 m2
  unfold bey
  generalize fmul .f64 n1 x = p1 at *
  generalize fmul .f64 n2 y = p2 at *
  generalize val n1 * val x = q1 at *
  generalize val n2 * val y = q2 at *
  obtain ⟨a1, a2⟩ := m1
  obtain ⟨a3, a4⟩ := m2
  obtain ⟨a5, a6⟩ := k1
  obtain ⟨a7, a8⟩ := k2
  have s1 : Bd (val p1 + val p2) (9 / 4 * M) := by constructor <;> grind
  obtain ⟨f3, g3⟩ := fadd_nearX f1 f2 (by have := s1.1; grind) (by have := s1.2; grind)
  have k3 := nearX_at hm g3 s1
  generalize fadd .f64 p1 p2 = s at *
  obtain ⟨b1, b2⟩ := k3
  obtain ⟨b3, b4⟩ := s1
  obtain ⟨b5, b6⟩ := hf.b
  have s2 : Bd (val s - val fr) (7 / 2 * M) := by constructor <;> grind
  obtain ⟨f4, g4⟩ := fsub_nearX f3 hf.f (by have := s2.1; grind) (by have := s2.2; grind)
  have k4 := nearX_at hm g4 s2
  generalize fsub .f64 s fr = r at *
  obtain ⟨c1, c2⟩ := k4
  obtain ⟨c3, c4⟩ := s2
  refine ⟨f4, ⟨?_, ?_⟩, ?_, ?_⟩ <;> grind
end Go.Ev

namespace Go.Ev
open Ieee
/-! Where a way goes through a plane. -/
def cutc (a b u w : Nat) : Nat := fadd .f64 a (fmul .f64 (fdiv .f64 u (fsub .f64 u w)) (fsub .f64 b a))
structure MM (M m : Rat) : Prop where
  hm : m = M * EE53
  h1 : 1 ≤ M
  h2 : M ≤ 2 ^ 50
theorem MM.facts {M m : Rat} (h : MM M m) : 0 ≤ m ∧ m ≤ M * (1 / 1048576) ∧ HH ≤ m ∧ 0 ≤ HH ∧ M * 1024 ≤ CC ∧ EE53 ≤ m ∧ 1048576 ≤ CC := by
  have hC := CC_big
  have h50 : (2 : Rat) ^ 50 = 1125899906842624 := by grind
  have h60 : (2 : Rat) ^ 60 = 1152921504606846976 := by grind
  have hM2 := h.h2
  have hM := h.h1
  rw [h50] at hM2
  rw [h60] at hC
  have hE := EE_pos
  have hm := h.hm
  have hm0 : 0 ≤ m := by rw [hm]; exact Rat.mul_nonneg (by grind) hE
  have hE2 : EE53 ≤ 1 / 1048576 := by unfold EE53; grind
  have hm1 : m ≤ M * (1 / 1048576) := by rw [hm]; exact Rat.mul_le_mul_of_nonneg_left hE2 (by grind)
  have hEm : EE53 ≤ m := by
    have b := Rat.mul_le_mul_of_nonneg_right hM hE
    rw [hm]; grind
  have hH : HH ≤ m := by have := HH_le; grind
  exact ⟨hm0, hm1, hH, HH_pos, by grind, hEm, by grind⟩
theorem quot_t {d D t q : Rat} (hD : 0 < D) (h1 : d - D ≤ D * EE53) (h2 : D - d ≤ D * EE53) (ht0 : 0 ≤ t) (ht1 : t ≤ 1) (hq : q * d = t * D) : 0 < d ∧ Bd (q - t) (2 * EE53) := by
  have hE0 := EE_pos
  have hE1 := EE_le
  have hDE := Rat.mul_le_mul_of_nonneg_left hE1 (Rat.le_of_lt hD)
  have hDE0 := Rat.mul_nonneg (Rat.le_of_lt hD) hE0
  have hd : 0 < d := by grind
  refine ⟨hd, ?_⟩
  have htD : t * (D * EE53) ≤ D * EE53 := by
    have := Rat.mul_le_mul_of_nonneg_right ht1 hDE0
    grind
  have ht3 := Rat.mul_le_mul_of_nonneg_left h1 ht0
  have ht4 := Rat.mul_le_mul_of_nonneg_left h2 ht0
  have hdE : D * EE53 ≤ 2 * (d * EE53) := by
    have h3 := Rat.mul_le_mul_of_nonneg_right h2 hE0
    have h4 := Rat.mul_le_mul_of_nonneg_left hE1 hDE0
    have e1 : (D - d) * EE53 = D * EE53 - d * EE53 := by grind
    have e2 : D * EE53 * EE53 = D * EE53 * EE53 := rfl
    rw [e1] at h3
    generalize D * EE53 * EE53 = z at *
    generalize D * EE53 = y at *
    grind
  constructor
  · have e : (q - t - 2 * EE53) * d = t * (D - d) - 2 * (d * EE53) := by
      have : (q - t - 2 * EE53) * d = q * d - t * d - 2 * (d * EE53) := by grind
      rw [this, hq]; grind
    have := le_of_mul hd (a := q - t - 2 * EE53) (by rw [e]; grind)
    grind
  · have e : (-(q - t) - 2 * EE53) * d = t * (d - D) - 2 * (d * EE53) := by
      have : (-(q - t) - 2 * EE53) * d = -(q * d) + t * d - 2 * (d * EE53) := by grind
      rw [this, hq]; grind
    have := le_of_mul hd (a := -(q - t) - 2 * EE53) (by rw [e]; grind)
    grind
theorem cut_pt {a b u w : Nat} {M m t : Rat} (h : MM M m) (ha : Fl a (33 / 32 * M)) (hb : Fl b (33 / 32 * M)) (hu : Fl u (4 * M)) (hw : Fl w (4 * M)) (hD : val u - val w ≠ 0) (ht : t * (val u - val w) = val u) (ht0 : 0 ≤ t) (ht1 : t ≤ 1) :
    fin .f64 (cutc a b u w) = true ∧ Bd (val (cutc a b u w) - (val a + t * (val b - val a))) (23 * m) := by
  obtain ⟨hm0, hm1, hH, hH0, hC, hEm, hC2⟩ := h.facts
  have hE0 := EE_pos
  have hE1 := EE_le
  have hM := h.h1
  obtain ⟨u1, u2⟩ := hu.b
  obtain ⟨w1, w2⟩ := hw.b
  obtain ⟨fd, gd⟩ := fsub_nearX hu.f hw.f (by grind) (by grind)
  unfold cutc
  generalize fsub .f64 u w = d at *
  -- the quotient
  obtain ⟨q, hq, hqt, hd0⟩ : ∃ q, q * val d = val u ∧ Bd (q - t) (2 * EE53) ∧ val d ≠ 0 := by
    generalize val u - val w = D at *
    rcases (Rat.le_total : D ≤ 0 ∨ 0 ≤ D) with c | c
    · have hDn : 0 < -D := by
        rcases Rat.le_iff_lt_or_eq.1 c with c' | c'
        · grind
        · exact absurd c' hD
      have k := gd (-D) (by grind) (by grind)
      have k1 : -val d - -D ≤ -D * EE53 := by grind
      have k2 : -D - -val d ≤ -D * EE53 := by grind
      have hdn : val d ≠ 0 := by
        intro e
        have := (quot_t (d := -val d) (D := -D) (t := 0) (q := 0) hDn k1 k2 (by grind) (by grind) (by grind)).1
        grind
      have hq : val u / val d * val d = val u := Rat.div_mul_cancel hdn
      refine ⟨val u / val d, hq, (quot_t (d := -val d) (D := -D) (q := val u / val d) hDn k1 k2 ht0 ht1 (by grind)).2, hdn⟩
    · have hDn : 0 < D := by
        rcases Rat.le_iff_lt_or_eq.1 c with c' | c'
        · exact c'
        · exact absurd c'.symm hD
      have k := gd D (by grind) (by grind)
      have hdn : val d ≠ 0 := by
        intro e
        have := (quot_t (d := val d) (D := D) (t := 0) (q := 0) hDn k.1 k.2 (by grind) (by grind) (by grind)).1
        grind
      have hq : val u / val d * val d = val u := Rat.div_mul_cancel hdn
      exact ⟨val u / val d, hq, (quot_t (d := val d) (D := D) (q := val u / val d) hDn k.1 k.2 ht0 ht1 (by grind)).2, hdn⟩
  obtain ⟨q1, q2⟩ := hqt
  obtain ⟨ft, gt⟩ := fdiv_near hu.f fd hd0 hq (by grind) (by grind)
  have kt := gt (9 / 8) (by grind) (by grind)
  generalize fdiv .f64 u d = s at *
  have hst : Bd (val s - t) (21 / 4 * EE53 + HH) := by constructor <;> grind
  have hHE := HH_le
  have hst2 : Bd (val s - t) (25 / 4 * EE53) := by obtain ⟨x1, x2⟩ := hst; constructor <;> grind
  have hs : Bd (val s) (65 / 64) := by obtain ⟨x1, x2⟩ := hst2; constructor <;> grind
  -- the way
  obtain ⟨a1, a2⟩ := ha.b
  obtain ⟨b1, b2⟩ := hb.b
  have hv : Bd (val b - val a) (33 / 16 * M) := by constructor <;> grind
  obtain ⟨fv, gv⟩ := fsub_nearX hb.f ha.f (by have := hv.1; grind) (by have := hv.2; grind)
  have kv := nearX_at h.hm gv hv
  generalize fsub .f64 b a = v at *
  have hv2 : Bd (val v) (17 / 8 * M) := by obtain ⟨x1, x2⟩ := kv; obtain ⟨x3, x4⟩ := hv; constructor <;> grind
  have hp := mul_bd hs hv2
  have e1 : (65 : Rat) / 64 * (17 / 8 * M) = 1105 / 512 * M := by grind
  rw [e1] at hp
  obtain ⟨fp, gp⟩ := fmul_near ft fv (by have := hp.1; grind) (by have := hp.2; grind)
  have kp := near_at h.hm gp hp
  generalize fmul .f64 s v = p at *
  -- exact product
  have r1 := mul_bd hst2 hv2
  have e2 : 25 / 4 * EE53 * (17 / 8 * M) = 425 / 32 * m := by rw [h.hm]; grind
  rw [e2] at r1
  have r2 := mul_bd (show Bd t 1 from ⟨ht1, by grind⟩) kv
  have e3 : val s * val v - t * (val b - val a) = (val s - t) * val v + t * (val v - (val b - val a)) := by grind
  have hw2 := mul_bd (show Bd t 1 from ⟨ht1, by grind⟩) hv
  generalize t * (val b - val a) = ex at *
  generalize val s * val v = sv at *
  generalize (val s - t) * val v = z1 at *
  generalize t * (val v - (val b - val a)) = z2 at *
  obtain ⟨x1, x2⟩ := r1
  obtain ⟨x3, x4⟩ := r2
  obtain ⟨x5, x6⟩ := kp
  obtain ⟨x7, x8⟩ := hp
  have hsum : Bd (val a + val p) (7 / 2 * M) := by constructor <;> grind
  obtain ⟨fc, gc⟩ := fadd_nearX ha.f fp (by have := hsum.1; grind) (by have := hsum.2; grind)
  have kc := nearX_at h.hm gc hsum
  obtain ⟨x9, x10⟩ := kc
  refine ⟨fc, ?_, ?_⟩ <;> grind
def exc (n1 n2 fr x y : Nat) : Rat := val n1 * val x + val n2 * val y - val fr
theorem t_ex {u w : Rat} (h : (u ≤ 0 ∧ 0 < w) ∨ (0 < u ∧ w ≤ 0)) : ∃ t : Rat, t * (u - w) = u ∧ 0 ≤ t ∧ t ≤ 1 ∧ u - w ≠ 0 := by
  have hD : u - w ≠ 0 := by rcases h with h | h <;> grind
  have ht : u / (u - w) * (u - w) = u := Rat.div_mul_cancel hD
  generalize u / (u - w) = t at *
  refine ⟨t, ht, ?_, ?_, hD⟩
  · rcases h with h | h
    · have := le_of_mul (show 0 < w - u by grind) (a := -t) (by grind)
      grind
    · have := le_of_mul (show 0 < u - w by grind) (a := -t) (by grind)
      grind
  · rcases h with h | h
    · have := le_of_mul (show 0 < w - u by grind) (a := t - 1) (by grind)
      grind
    · have := le_of_mul (show 0 < u - w by grind) (a := t - 1) (by grind)
      grind
theorem cut_exc {ax ay bx by' u w : Nat} {M m Z : Rat} (h : MM M m) (hax : Fl ax (33 / 32 * M)) (hay : Fl ay (33 / 32 * M)) (hbx : Fl bx (33 / 32 * M)) (hby : Fl by' (33 / 32 * M)) (hu : Fl u (4 * M)) (hw : Fl w (4 * M)) (hs : (val u ≤ 0 ∧ 0 < val w) ∨ (0 < val u ∧ val w ≤ 0)) :
    fin .f64 (cutc ax bx u w) = true ∧ fin .f64 (cutc ay by' u w) = true ∧
    (∀ R, Bd (val ax) R → Bd (val bx) R → Bd (val (cutc ax bx u w)) (R + 23 * m)) ∧ (∀ R, Bd (val ay) R → Bd (val by') R → Bd (val (cutc ay by' u w)) (R + 23 * m)) ∧
    (∀ (n1 n2 fr : Nat) (X Y : Rat), Fl n1 (33 / 32) → Fl n2 (33 / 32) → exc n1 n2 fr ax ay ≤ X → exc n1 n2 fr bx by' ≤ Y → (X ≤ Z → Y ≤ Z → exc n1 n2 fr (cutc ax bx u w) (cutc ay by' u w) ≤ Z + 48 * m) ∧ (X ≤ val u + 12 * m → Y ≤ val w + 12 * m → exc n1 n2 fr (cutc ax bx u w) (cutc ay by' u w) ≤ 60 * m)) := by
  obtain ⟨t, ht, ht0, ht1, hD⟩ := t_ex hs
  obtain ⟨f1, g1⟩ := cut_pt h hax hbx hu hw hD ht ht0 ht1
  obtain ⟨f2, g2⟩ := cut_pt h hay hby hu hw hD ht ht0 ht1
  obtain ⟨hm0, _⟩ := h.facts
  have box : ∀ (a b c R : Rat), Bd a R → Bd b R → Bd (c - (a + t * (b - a))) (23 * m) → Bd c (R + 23 * m) := fun a b c R ha hb hc => by
    obtain ⟨a1, a2⟩ := ha
    obtain ⟨b1, b2⟩ := hb
    obtain ⟨c1, c2⟩ := hc
    have e : a + t * (b - a) = (1 - t) * a + t * b := by grind
    have k1 := Rat.mul_le_mul_of_nonneg_left a1 (show 0 ≤ 1 - t by grind)
    have k2 := Rat.mul_le_mul_of_nonneg_left b1 ht0
    have k3 := Rat.mul_le_mul_of_nonneg_left a2 (show 0 ≤ 1 - t by grind)
    have k4 := Rat.mul_le_mul_of_nonneg_left b2 ht0
    have e2 : (1 - t) * R + t * R = R := by grind
    have e3 : (1 - t) * -a + t * -b = -((1 - t) * a + t * b) := by grind
    rw [e] at c1 c2
    constructor <;> grind
  refine ⟨f1, f2, fun R ha hb => box _ _ _ R ha hb g1, fun R ha hb => box _ _ _ R ha hb g2, fun n1 n2 fr X Y hn1 hn2 hX hY => ?_⟩
  have p1 := mul_bd hn1.b g1
  have p2 := mul_bd hn2.b g2
  unfold exc at *
  have e : val n1 * val (cutc ax bx u w) + val n2 * val (cutc ay by' u w) - val fr = val n1 * (val (cutc ax bx u w) - (val ax + t * (val bx - val ax))) + val n2 * (val (cutc ay by' u w) - (val ay + t * (val by' - val ay))) + ((1 - t) * (val n1 * val ax + val n2 * val ay - val fr) + t * (val n1 * val bx + val n2 * val by' - val fr)) := by grind
  rw [e]
  generalize val n1 * (val (cutc ax bx u w) - (val ax + t * (val bx - val ax))) = z1 at *
  generalize val n2 * (val (cutc ay by' u w) - (val ay + t * (val by' - val ay))) = z2 at *
  generalize val n1 * val ax + val n2 * val ay - val fr = ba at *
  generalize val n1 * val bx + val n2 * val by' - val fr = bb at *
  have k1 := Rat.mul_le_mul_of_nonneg_left hX (show 0 ≤ 1 - t by grind)
  have k2 := Rat.mul_le_mul_of_nonneg_left hY ht0
  obtain ⟨x1, x2⟩ := p1
  obtain ⟨x3, x4⟩ := p2
  constructor
  · intro c1 c2
    have k3 := Rat.mul_le_mul_of_nonneg_left c1 (show 0 ≤ 1 - t by grind)
    have k4 := Rat.mul_le_mul_of_nonneg_left c2 ht0
    have e2 : (1 - t) * Z + t * Z = Z := by grind
    grind
  · intro c1 c2
    have k3 := Rat.mul_le_mul_of_nonneg_left c1 (show 0 ≤ 1 - t by grind)
    have k4 := Rat.mul_le_mul_of_nonneg_left c2 ht0
    have e2 : (1 - t) * (val u + 12 * m) + t * (val w + 12 * m) = val u - t * (val u - val w) + 12 * m := by grind
    rw [ht] at e2
    grind
end Go.Ev

set_option exponentiation.threshold 4000
namespace Go.Ev
open Ieee
/-! Normals of about the length one; within a plane but for rounding. -/
theorem sq_le {x A : Rat} (hA : 0 ≤ A) (h : x * x ≤ A * A) : Bd x A := by
  constructor
  · rcases (Rat.le_total : x ≤ A ∨ A ≤ x) with c | c
    · exact c
    · rcases Rat.le_iff_lt_or_eq.1 c with d | d
      · exfalso
        have := Rat.mul_pos (show 0 < x - A by grind) (show 0 < x + A by grind)
        grind
      · grind
  · rcases (Rat.le_total : -x ≤ A ∨ A ≤ -x) with c | c
    · exact c
    · rcases Rat.le_iff_lt_or_eq.1 c with d | d
      · exfalso
        have := Rat.mul_pos (show 0 < -x - A by grind) (show 0 < -x + A by grind)
        grind
      · grind
theorem sq_nonneg (x : Rat) : 0 ≤ x * x := by
  rcases (Rat.le_total : x ≤ 0 ∨ 0 ≤ x) with c | c
  · have := Rat.mul_nonneg (show 0 ≤ -x by grind) (show 0 ≤ -x by grind)
    grind
  · exact Rat.mul_nonneg c c
theorem sqr_err {n1 n2 : Nat} (h1 : Fl n1 2) (h2 : Fl n2 2) : fin .f64 (fadd .f64 (fmul .f64 n1 n1) (fmul .f64 n2 n2)) = true ∧ Bd (val (fadd .f64 (fmul .f64 n1 n1) (fmul .f64 n2 n2)) - (val n1 * val n1 + val n2 * val n2)) (20 * EE53) := by
  have hC := CC_big
  have h60 : (2 : Rat) ^ 60 = 1152921504606846976 := by grind
  rw [h60] at hC
  have hE := EE_pos
  have hE1 := EE_le
  have hH := HH_le
  have hH0 := HH_pos
  have m1 := mul_bd h1.b h1.b
  have m2 := mul_bd h2.b h2.b
  obtain ⟨f1, g1⟩ := fmul_near h1.f h1.f (by have := m1.1; grind) (by have := m1.2; grind)
  obtain ⟨f2, g2⟩ := fmul_near h2.f h2.f (by have := m2.1; grind) (by have := m2.2; grind)
  have k1 := g1 4 (by have := m1.1; grind) (by have := m1.2; grind)
  have k2 := g2 4 (by have := m2.1; grind) (by have := m2.2; grind)
  generalize fmul .f64 n1 n1 = p1 at *
  generalize fmul .f64 n2 n2 = p2 at *
  generalize val n1 * val n1 = q1 at *
  generalize val n2 * val n2 = q2 at *
  obtain ⟨a1, a2⟩ := m1
  obtain ⟨a3, a4⟩ := m2
  obtain ⟨f3, g3⟩ := fadd_nearX f1 f2 (by grind) (by grind)
  have k3 := g3 9 (by grind) (by grind)
  refine ⟨f3, ?_, ?_⟩ <;> grind
theorem nrm_bd {n1 n2 : Nat} (h1 : Fl n1 2) (h2 : Fl n2 2) (hs : val (fadd .f64 (fmul .f64 n1 n1) (fmul .f64 n2 n2)) ≤ 1025 / 1024) : Fl n1 (33 / 32) ∧ Fl n2 (33 / 32) := by
  obtain ⟨_, e1, e2⟩ := sqr_err h1 h2
  have hE1 : EE53 ≤ 1 / 1048576 := by unfold EE53; grind
  have q1 := sq_nonneg (val n1)
  have q2 := sq_nonneg (val n2)
  exact ⟨⟨h1.f, sq_le (by grind) (by grind)⟩, ⟨h2.f, sq_le (by grind) (by grind)⟩⟩
theorem val_c38 : fin .f64 4436045632959938560 = true ∧ val 4436045632959938560 * 274877906944 = 1 := by
  refine ⟨by decide +kernel, ?_⟩
  have hU := UU_pos
  have h := val_U 4436045632959938560
  have e : vI 4436045632959938560 = ((2 ^ 1036 : Nat) : Int) := by decide +kernel
  rw [e, Rat.intCast_natCast, Rat.natCast_pow] at h
  have h2 : UU = 2 ^ 1036 * 2 ^ 38 := powR 2 1036 38
  have h3 : (2 : Rat) ^ 38 = 274877906944 := by grind
  rw [h3] at h2
  have h4 : val 4436045632959938560 * UU = 2 ^ 1036 := h
  generalize (2 : Rat) ^ 1036 = z at *
  have : (val 4436045632959938560 * 274877906944 - 1) * UU = 0 := by grind
  have := zero_of_mul hU this
  grind
end Go.Ev

set_option exponentiation.threshold 4000
namespace Go.Ev
open Ieee
/-! Square roots. -/
theorem rootFrom_spec (n : Nat) : ∀ (todo root : Nat), root * root ≤ n → n < (root + 2 ^ todo) * (root + 2 ^ todo) → Datum.rootFrom n todo root * Datum.rootFrom n todo root ≤ n ∧ n < (Datum.rootFrom n todo root + 1) * (Datum.rootFrom n todo root + 1)
  | 0, root, h1, h2 => by
    rw [Nat.pow_zero] at h2
    exact ⟨h1, h2⟩
  | todo + 1, root, h1, h2 => by
    unfold Datum.rootFrom
    dsimp only
    rw [Nat.shiftLeft_eq, Nat.one_mul]
    have e : root + 2 ^ (todo + 1) = root + 2 ^ todo + 2 ^ todo := by rw [Nat.pow_succ]; omega
    rw [e] at h2
    by_cases h : (root + 2 ^ todo) * (root + 2 ^ todo) ≤ n
    · rw [if_pos h]; exact rootFrom_spec n todo _ h h2
    · rw [if_neg h]; exact rootFrom_spec n todo _ h1 (by omega)
theorem root_spec (n : Nat) : Datum.rootFrom n (n.log2 / 2 + 1) 0 * Datum.rootFrom n (n.log2 / 2 + 1) 0 ≤ n ∧ n < (Datum.rootFrom n (n.log2 / 2 + 1) 0 + 1) * (Datum.rootFrom n (n.log2 / 2 + 1) 0 + 1) := by
  refine rootFrom_spec n _ 0 (Nat.zero_le _) ?_
  rw [Nat.zero_add, ← Nat.pow_add]
  exact Nat.lt_of_lt_of_le (Nat.lt_log2_self (n := n)) (Nat.pow_le_pow_right (by omega) (by omega))
theorem root_err {n w T : Nat} (h1 : w * w ≤ n) (h2 : n < (w + 1) * (w + 1)) (hT : T = 2 * w + (w * w != n).toNat) (hn : 2 ^ 108 ≤ n) : T * T ≤ 4 * n + 4 * w ∧ 4 * n ≤ T * T + 4 * w ∧ w * 2 ^ 54 ≤ n ∧ 0 < T := by
  have hw : 2 ^ 54 ≤ w := by
    rcases Nat.lt_or_ge w (2 ^ 54) with c | c
    · have h3 : (w + 1) * (w + 1) ≤ 2 ^ 54 * 2 ^ 54 := Nat.mul_le_mul c c
      rw [← Nat.pow_add] at h3
      omega
    · exact c
  have h3 : w * 2 ^ 54 ≤ w * w := Nat.mul_le_mul_left w hw
  have e2 : (w + 1) * (w + 1) = w * w + 2 * w + 1 := by rw [Nat.add_mul, Nat.mul_add]; omega
  rw [e2] at h2
  have hp := Nat.two_pow_pos 54
  cases hb : (w * w != n)
  · have : w * w = n := by simpa using hb
    have hT' : T = 2 * w := by rw [hT, hb]; rfl
    have e3 : T * T = 4 * (w * w) := by rw [hT', Nat.mul_mul_mul_comm]
    generalize w * w = ww at *
    refine ⟨?_, ?_, ?_, ?_⟩ <;> omega
  · have hne : w * w ≠ n := by simpa using hb
    have hT' : T = 2 * w + 1 := by rw [hT, hb]; rfl
    have e3 : T * T = 4 * (w * w) + 4 * w + 1 := by
      rw [hT', Nat.add_mul, Nat.mul_add, Nat.mul_mul_mul_comm]
      omega
    generalize w * w = ww at *
    refine ⟨?_, ?_, ?_, ?_⟩ <;> omega
theorem lt_of_mul {a c : Rat} (hc : 0 < c) (h : 0 < a * c) : 0 < a := by
  rcases (Rat.le_total : a ≤ 0 ∨ 0 ≤ a) with h1 | h1
  · exfalso
    have := Rat.mul_le_mul_of_nonneg_right h1 (Rat.le_of_lt hc)
    rw [Rat.zero_mul] at this
    grind
  · rcases Rat.le_iff_lt_or_eq.1 h1 with d | d
    · exact d
    · exfalso
      rw [← d, Rat.zero_mul] at h
      exact absurd h (by decide)
theorem root_val {m i n M T u v : Nat} {x X : Rat} (hm : m ≠ 0) (hx : x * UU = ((m * 2 ^ i : Nat) : Rat)) (hn : n = m * 2 ^ M) (huv : 2 * u + M + 2 = i + 1074 + 2 * v) {w : Nat} (h1 : T * T ≤ 4 * n + 4 * w) (h2 : 4 * n ≤ T * T + 4 * w) (h3 : w * 2 ^ 54 ≤ n) (hT : 0 < T)
    (hX : X * ((2 : Rat) ^ v * UU) = ((T * 2 ^ u : Nat) : Rat)) : 0 < x ∧ 0 < X ∧ HH ≤ X * EE53 ∧ Bd (X * X - x) (x * EE53) := by
  have hU := UU_pos
  have hPv : (0 : Rat) < 2 ^ v := Rat.pow_pos (by decide)
  have hPu : (0 : Rat) < 2 ^ u := Rat.pow_pos (by decide)
  have hE := EE_eq
  have hE0 := EE_pos
  have c1 : ((T * T : Nat) : Rat) ≤ ((4 * n + 4 * w : Nat) : Rat) := Rat.natCast_le_natCast.2 h1
  have c2 : ((4 * n : Nat) : Rat) ≤ ((T * T + 4 * w : Nat) : Rat) := Rat.natCast_le_natCast.2 h2
  have c3 : ((w * 2 ^ 54 : Nat) : Rat) ≤ ((n : Nat) : Rat) := Rat.natCast_le_natCast.2 h3
  have c4 : ((1 : Nat) : Rat) ≤ ((m * 2 ^ i : Nat) : Rat) := Rat.natCast_le_natCast.2 (Nat.mul_pos (Nat.pos_of_ne_zero hm) (Nat.two_pow_pos i))
  have c5 : ((1 : Nat) : Rat) ≤ ((T : Nat) : Rat) := Rat.natCast_le_natCast.2 hT
  have hN : ((4 * n * 2 ^ (2 * u) : Nat) : Rat) = x * UU * UU * (2 ^ v * 2 ^ v) := by
    rw [hx, hn]
    have e : 4 * (m * 2 ^ M) * 2 ^ (2 * u) = m * 2 ^ i * 2 ^ 1074 * (2 ^ v * 2 ^ v) := by
      rw [show 4 * (m * 2 ^ M) * 2 ^ (2 * u) = m * (2 ^ 2 * 2 ^ M * 2 ^ (2 * u)) by rw [show (2 : Nat) ^ 2 = 4 from rfl]; ac_rfl, ← Nat.pow_add, ← Nat.pow_add, Nat.mul_assoc, Nat.mul_assoc, ← Nat.pow_add, ← Nat.pow_add, ← Nat.pow_add]
      rw [show 2 + M + 2 * u = i + (1074 + (v + v)) by omega]
    rw [e, Rat.natCast_mul, Rat.natCast_mul (m * 2 ^ i), Rat.natCast_mul (2 ^ v), Rat.natCast_pow, Rat.natCast_pow]
    rfl
  rw [Rat.natCast_mul, Rat.natCast_mul 4, Rat.natCast_pow, Nat.mul_comm 2 u, show u * 2 = u + u by omega, show ((2 : Nat) : Rat) = 2 from rfl, powR] at hN
  simp only [Rat.natCast_mul, Rat.natCast_add, Rat.natCast_pow] at c1 c2 c3 hX
  rw [show ((2 : Nat) : Rat) = 2 from rfl, show ((4 : Nat) : Rat) = 4 from rfl] at *
  have c3' : (w : Rat) * 18014398509481984 ≤ n := c3
  have c6 := mul_E c3'
  have e6 : (w : Rat) * 18014398509481984 * EE53 = 2 * w := by grind
  rw [e6] at c6
  rw [← hx] at c4
  have c4 : 1 ≤ x * UU := c4
  have c5 : 1 ≤ (T : Rat) := c5
  generalize (2 : Rat) ^ u = Pu at *
  generalize (2 : Rat) ^ v = Pv at *
  generalize (T : Rat) = Tr at *
  generalize (n : Rat) = nr at *
  generalize (w : Rat) = wr at *
  have hx0 : 0 < x := lt_of_mul hU (by grind)
  have hX0 : 0 < X := by
    refine lt_of_mul (Rat.mul_pos hPv hU) ?_
    rw [hX]
    exact Rat.mul_pos (by grind) hPu
  have hK : 0 < UU * UU * (Pv * Pv) := Rat.mul_pos (Rat.mul_pos hU hU) (Rat.mul_pos hPv hPv)
  have hPuu : 0 ≤ Pu * Pu := Rat.le_of_lt (Rat.mul_pos hPu hPu)
  have f1 : (X * X) * (UU * UU * (Pv * Pv)) = Tr * Tr * (Pu * Pu) := by
    have : (X * X) * (UU * UU * (Pv * Pv)) = (X * (Pv * UU)) * (X * (Pv * UU)) := by grind
    rw [this, hX]; grind
  have f2 : x * (UU * UU * (Pv * Pv)) = 4 * nr * (Pu * Pu) := by rw [hN]; grind
  have g1 := Rat.mul_le_mul_of_nonneg_right c1 hPuu
  have g2 := Rat.mul_le_mul_of_nonneg_right c2 hPuu
  have g3 := Rat.mul_le_mul_of_nonneg_right c6 hPuu
  have hb : Bd (X * X - x) (x * EE53) := by
    constructor
    · have e : (X * X - x - x * EE53) * (UU * UU * (Pv * Pv)) = Tr * Tr * (Pu * Pu) - 4 * nr * (Pu * Pu) - 4 * (nr * EE53 * (Pu * Pu)) := by
        have : (X * X - x - x * EE53) * (UU * UU * (Pv * Pv)) = (X * X) * (UU * UU * (Pv * Pv)) - x * (UU * UU * (Pv * Pv)) - x * (UU * UU * (Pv * Pv)) * EE53 := by grind
        rw [this, f1, f2]; grind
      have := le_of_mul hK (a := X * X - x - x * EE53) (by rw [e]; grind)
      grind
    · have e : (-(X * X - x) - x * EE53) * (UU * UU * (Pv * Pv)) = 4 * nr * (Pu * Pu) - Tr * Tr * (Pu * Pu) - 4 * (nr * EE53 * (Pu * Pu)) := by
        have : (-(X * X - x) - x * EE53) * (UU * UU * (Pv * Pv)) = x * (UU * UU * (Pv * Pv)) - (X * X) * (UU * UU * (Pv * Pv)) - x * (UU * UU * (Pv * Pv)) * EE53 := by grind
        rw [this, f1, f2]; grind
      have := le_of_mul hK (a := -(X * X - x) - x * EE53) (by rw [e]; grind)
      grind
  refine ⟨hx0, hX0, ?_, hb⟩
  -- H is far less
  have hH := HH_eq
  have hH0 := HH_pos
  have hxE := Rat.mul_le_mul_of_nonneg_left EE_le (Rat.le_of_lt hx0)
  have hXX : HH ≤ X * X := by
    have h4 : HH ≤ x * (1 / 2) := by
      have e : (HH - x * (1 / 2)) * (2 * UU) = 1 - x * UU := by grind
      have := le_of_mul (show 0 < 2 * UU by grind) (a := HH - x * (1 / 2)) (by rw [e]; grind)
      grind
    obtain ⟨b1, b2⟩ := hb
    grind
  have hHE : HH ≤ EE53 * EE53 := by
    have h3 : UU = 2 ^ 960 * 2 ^ 114 := powR 2 960 114
    have h4 : (1 : Rat) ≤ 2 ^ 960 := by
      have : ((1 : Nat) : Rat) ≤ ((2 ^ 960 : Nat) : Rat) := Rat.natCast_le_natCast.2 (Nat.one_le_two_pow)
      rw [Rat.natCast_pow] at this
      exact this
    have h5 : (2 : Rat) ^ 114 = 20769187434139310514121985316880384 := by grind
    have h6 : 20769187434139310514121985316880384 ≤ UU := by
      have := Rat.mul_le_mul_of_nonneg_right h4 (show (0 : Rat) ≤ 2 ^ 114 by rw [h5]; grind)
      rw [h3]; grind
    have h7 := Rat.mul_nonneg hE0 hE0
    have h8 := Rat.mul_le_mul_of_nonneg_right h6 h7
    have e : (HH - EE53 * EE53) * (2 * UU) = 1 - 2 * (UU * (EE53 * EE53)) := by grind
    have e2 : 20769187434139310514121985316880384 * (EE53 * EE53) = 256 := by
      have : (20769187434139310514121985316880384 : Rat) * (EE53 * EE53) = 256 * ((EE53 * 9007199254740992) * (EE53 * 9007199254740992)) := by grind
      rw [this, hE]; grind
    have := le_of_mul (show 0 < 2 * UU by grind) (a := HH - EE53 * EE53) (by rw [e]; grind)
    grind
  -- X < E would give X X < E X <= ..
  rcases (Rat.le_total : EE53 ≤ X ∨ X ≤ EE53) with c | c
  · have := Rat.mul_le_mul_of_nonneg_right c hE0
    grind
  · have := Rat.mul_le_mul_of_nonneg_left c (Rat.le_of_lt hX0)
    grind
theorem sq_near {r X x : Rat} (hx : 0 < x) (hX : 0 < X) (h1 : Bd (X * X - x) (x * EE53)) (h2 : Bd (r - X) (2 * (X * EE53))) : 0 < r ∧ Bd (r * r - x) (6 * (x * EE53)) := by
  have hE0 := EE_pos
  have hE1 := EE_le
  obtain ⟨a1, a2⟩ := h1
  obtain ⟨b1, b2⟩ := h2
  have hXE := Rat.mul_le_mul_of_nonneg_left hE1 (Rat.le_of_lt hX)
  have hxE := Rat.mul_le_mul_of_nonneg_left hE1 (Rat.le_of_lt hx)
  have hxE0 := Rat.mul_nonneg (Rat.le_of_lt hx) hE0
  have hr : 0 < r := by grind
  refine ⟨hr, ?_⟩
  have hs : 0 ≤ r + X := by grind
  have k1 := Rat.mul_le_mul_of_nonneg_right b1 hs
  have k2 := Rat.mul_le_mul_of_nonneg_right b2 hs
  have hXE0 := Rat.mul_nonneg (Rat.le_of_lt hX) hE0
  have k3 := Rat.mul_le_mul_of_nonneg_left (show r + X ≤ 513 / 256 * X by grind) (show 0 ≤ 2 * (X * EE53) by grind)
  have e3 : 2 * (X * EE53) * (513 / 256 * X) = 513 / 128 * (X * X * EE53) := by grind
  rw [e3] at k3
  have k4 := mul_E (show X * X ≤ 1025 / 1024 * x by grind)
  have e4 : 1025 / 1024 * x * EE53 = 1025 / 1024 * (x * EE53) := by grind
  rw [e4] at k4
  have e1 : (r - X) * (r + X) = r * r - X * X := by grind
  have e2 : -(r - X) * (r + X) = X * X - r * r := by grind
  rw [e1] at k1
  rw [e2] at k2
  generalize x * EE53 = xe at *
  generalize X * X * EE53 = xxe at *
  constructor <;> grind
theorem fsqrt_near {x : Nat} (hx : fin .f64 x = true) (hn : neg .f64 x = false) (hpos : 0 < val x) (hC : 4 * val x ≤ CC) : fin .f64 (fsqrt x) = true ∧ 0 < val (fsqrt x) ∧ Bd (val (fsqrt x) * val (fsqrt x) - val x) (6 * (val x * EE53)) := by
  obtain ⟨m, i, a1, a2⟩ := read_kind .f64 hx
  have ex : val x * UU = ((m * 2 ^ i : Nat) : Rat) := by
    rw [val_U, a2]
    unfold vI
    rw [hn]
    exact Rat.intCast_natCast _
  have hU := UU_pos
  have hm : m ≠ 0 := by
    intro h
    rw [h, Nat.zero_mul] at ex
    have := zero_of_mul hU (a := val x) ex
    grind
  generalize hM : (108 - m.log2 : Nat) + ((double.leastPlace + (i : Int) - ((108 - m.log2 : Nat) : Int)) % 2).toNat = M
  generalize hw : Datum.rootFrom (m <<< M) ((m <<< M).log2 / 2 + 1) 0 = w
  generalize hT : 2 * w + (w * w != m <<< M).toNat = T
  generalize hp : (double.leastPlace + (i : Int) - (M : Int)) / 2 - 1 = place
  have e : fsqrt x = double.nearest false T place := by
    unfold fsqrt Format.sqrt
    rw [a1, hn]
    unfold Datum.root
    dsimp only
    rw [if_neg hm, if_neg (by decide)]
    rw [← hT, ← hp, ← hw, ← hM]
    rfl
  rw [lp_d] at hM hp
  obtain ⟨r1, r2⟩ := root_spec (m <<< M)
  rw [hw] at r1 r2
  have hbig : 2 ^ 108 ≤ m <<< M := by
    rw [Nat.shiftLeft_eq]
    refine Nat.le_trans ?_ (Nat.mul_le_mul_right _ (Nat.log2_self_le hm))
    rw [← Nat.pow_add]
    exact Nat.pow_le_pow_right (by omega) (by omega)
  obtain ⟨t1, t2, t3, t4⟩ := root_err r1 r2 hT.symm hbig
  obtain ⟨u, v, huv, huv2⟩ : ∃ u v : Nat, place + (v : Int) = -1074 + (u : Int) ∧ 2 * u + M + 2 = i + 1074 + 2 * v := ⟨(place + 1074).toNat, (-(place + 1074)).toNat, by omega, by omega⟩
  have hP : (0 : Rat) < 2 ^ v := Rat.pow_pos (by decide)
  obtain ⟨X, hX⟩ : ∃ X : Rat, X * ((2 : Rat) ^ v * UU) = ((T * 2 ^ u : Nat) : Rat) := by
    have h := Rat.mul_pos hP hU
    exact ⟨_, Rat.div_mul_cancel (a := ((T * 2 ^ u : Nat) : Rat)) (b := (2 : Rat) ^ v * UU) fun h' => by rw [h'] at h; exact absurd h (by decide)⟩
  obtain ⟨x0, X0, hH, hb⟩ := root_val hm ex (Nat.shiftLeft_eq m M) huv2 t1 t2 t3 t4 hX
  have hE0 := EE_pos
  have hE1 := EE_le
  have hXC : X ≤ CC := by
    have hCb := CC_big
    have h60 : (2 : Rat) ^ 60 = 1152921504606846976 := by grind
    rw [h60] at hCb
    have hxE := Rat.mul_le_mul_of_nonneg_left hE1 (Rat.le_of_lt x0)
    obtain ⟨b1, b2⟩ := hb
    rcases (Rat.le_total : X ≤ 1 ∨ 1 ≤ X) with c | c
    · grind
    · have := Rat.mul_le_mul_of_nonneg_left c (Rat.le_of_lt X0)
      grind
  have hX' : X * ((2 : Rat) ^ v * UU) = ((sg false (T * 2 ^ u) : Int) : Rat) := by rw [sg_cast]; exact hX
  have hf := near_fin false huv hX' hXC (by grind)
  have hnr := near_val false huv hf hX'
  rw [e]
  have k := hnr X Rat.le_refl (by grind)
  have := sq_near (r := val (double.nearest false T place)) x0 X0 hb (by constructor <;> grind)
  exact ⟨hf, this.1, this.2⟩
end Go.Ev

namespace Go.Ev
open Ieee
/-! The greater of floats, and floats without their signs, told of rational numbers. -/
theorem fmx_val {x y : Nat} (hx : fin .f64 x = true) (hy : fin .f64 y = true) : fin .f64 (fmx .f64 x y) = true ∧ val x ≤ val (fmx .f64 x y) ∧ val y ≤ val (fmx .f64 x y) ∧ (fmx .f64 x y = x ∨ fmx .f64 x y = y) := by
  have e := ord_some .f64 (fin_not_nan hx) (fin_not_nan hy)
  unfold fmx
  rw [e, cmp_cases]
  have h1 := val_le (x := x) (y := y)
  have h2 := val_le (x := y) (y := x)
  by_cases a : wrt .f64 x < wrt .f64 y
  · rw [if_pos a]
    exact ⟨hy, h1.2 (by omega), Rat.le_refl, .inr rfl⟩
  · rw [if_neg a]
    by_cases b : wrt .f64 x = wrt .f64 y
    · rw [if_pos b]
      dsimp only
      cases (FloatKind.f64.format.read x).neg
      · exact ⟨hx, Rat.le_refl, h2.2 (by omega), .inl rfl⟩
      · exact ⟨hy, h1.2 (by omega), Rat.le_refl, .inr rfl⟩
    · rw [if_neg b]
      exact ⟨hx, Rat.le_refl, h2.2 (by omega), .inl rfl⟩
theorem fabs_val {x : Nat} (hx : fin .f64 x = true) : fin .f64 (canon .f64 (rg double x)) = true ∧ Bd (val x) (val (canon .f64 (rg double x))) ∧ ∀ B, Bd (val x) B → val (canon .f64 (rg double x)) ≤ B := by
  have hlt : rg double x < double.infRung := of_decide_eq_true hx
  have hi : double.infRung = 9218868437227405312 := by decide
  have hs : double.signWeight = 9223372036854775808 := by decide
  rw [hi] at hlt
  have hr : rg double (rg double x) = rg double x := by
    unfold rg
    exact Nat.mod_mod _ _
  have hn : neg .f64 (rg double x) = false := by
    show sgn double (rg double x) = false
    unfold sgn
    rw [hs, Nat.div_eq_of_lt (by omega)]
    decide
  have hf : fin .f64 (rg double x) = true := by
    refine decide_eq_true ?_
    show rg double (rg double x) < double.infRung
    rw [hr, hi]; exact hlt
  have hc : canon .f64 (rg double x) = rg double x := canon_of_not (fin_not_nan hf)
  rw [hc]
  refine ⟨hf, ?_⟩
  have hU := UU_pos
  have v1 := val_U x
  have v2 := val_U (rg double x)
  unfold vI at v1 v2
  rw [hn, hr] at v2
  rw [sg_cast] at v1 v2
  have hM : (0 : Rat) ≤ ((magOf double (rg double x) : Nat) : Rat) := Rat.natCast_nonneg
  have v2 : val (rg double x) * UU = ((magOf double (rg double x) : Nat) : Rat) := v2
  generalize ((magOf double (rg double x) : Nat) : Rat) = M at *
  generalize val (rg double x) = a at *
  generalize val x = b at *
  cases hb : neg .f64 x
  · rw [hb] at v1
    have v1 : b * UU = M := v1
    have e : (a - b) * UU = 0 := by grind
    have e := zero_of_mul hU e
    have p := le_of_mul hU (a := -a) (by grind)
    refine ⟨⟨by grind, by grind⟩, fun B h => ?_⟩
    obtain ⟨h1, h2⟩ := h
    grind
  · rw [hb] at v1
    have v1 : b * UU = -M := v1
    have e : (a + b) * UU = 0 := by grind
    have e := zero_of_mul hU e
    have p := le_of_mul hU (a := -a) (by grind)
    refine ⟨⟨by grind, by grind⟩, fun B h => ?_⟩
    obtain ⟨h1, h2⟩ := h
    grind
end Go.Ev

namespace Go.Ev
open Ieee
/-! What is left of points by a plane lies within it, as nearly as it can. -/
theorem val_0 : fin .f64 0 = true ∧ val 0 = 0 := by
  refine ⟨by decide +kernel, ?_⟩
  have h := val_U 0
  have e : vI 0 = 0 := by decide +kernel
  rw [e] at h
  exact zero_of_mul UU_pos h
end Go.Ev

set_option exponentiation.threshold 4000
namespace Go.Ev
open Ieee
/-! Bounds that the code asks, told of rational numbers. -/
theorem UU_nat : UU = ((2 ^ 1074 : Nat) : Rat) := by
  rw [Rat.natCast_pow]; rfl
theorem val_bd {c a b : Nat} (h : vI c * (b : Int) ≤ (a : Int) * ((2 ^ 1074 : Nat) : Int)) : val c * (b : Rat) ≤ (a : Rat) := by
  have hU := UU_pos
  have hv := val_U c
  have h2 := Rat.intCast_le_intCast.2 h
  rw [Rat.intCast_mul, Rat.intCast_mul, Rat.intCast_natCast, Rat.intCast_natCast, Rat.intCast_natCast, ← UU_nat, ← hv] at h2
  have := le_of_mul hU (a := val c * (b : Rat) - (a : Rat)) (by grind)
  grind
theorem val_ge {c a b : Nat} (h : (a : Int) * ((2 ^ 1074 : Nat) : Int) ≤ vI c * (b : Int)) : (a : Rat) ≤ val c * (b : Rat) := by
  have hU := UU_pos
  have hv := val_U c
  have h2 := Rat.intCast_le_intCast.2 h
  rw [Rat.intCast_mul, Rat.intCast_mul, Rat.intCast_natCast, Rat.intCast_natCast, Rat.intCast_natCast, ← UU_nat, ← hv] at h2
  have := le_of_mul hU (a := (a : Rat) - val c * (b : Rat)) (by grind)
  grind
theorem val_1 : fin .f64 4607182418800017408 = true ∧ val 4607182418800017408 = 1 := by
  have h1 := val_bd (c := 4607182418800017408) (a := 1) (b := 1) (by decide +kernel)
  have h2 := val_ge (c := 4607182418800017408) (a := 1) (b := 1) (by decide +kernel)
  have e : ((1 : Nat) : Rat) = 1 := rfl
  rw [e] at h1 h2
  exact ⟨by decide +kernel, by grind⟩
theorem val_40 : val 4787326403894837248 ≤ 2 ^ 40 := by
  have := val_bd (c := 4787326403894837248) (a := 2 ^ 40) (b := 1) (by decide +kernel)
  have e : ((1 : Nat) : Rat) = 1 := rfl
  rw [e, Rat.natCast_pow, show ((2 : Nat) : Rat) = 2 from rfl] at this
  grind
theorem nw_fl {a c : Nat} (hc : fin .f64 c = true) (hn : neg .f64 c = false) (hw : wrt .f64 (fneg .f64 c) = - wrt .f64 c) (h : (fle .f64 (fneg .f64 c) a && fle .f64 a c) = true) : Fl a (val c) := by
  rw [Bool.and_eq_true, fle_eq, fle_eq] at h
  simp only [Bool.and_eq_true, Bool.not_eq_true', decide_eq_true_eq] at h
  obtain ⟨⟨_, h1⟩, ⟨_, h2⟩⟩ := h
  rw [hw] at h1
  have ec : wrt .f64 c = (rg double c : Nat) := by rw [wrt_eq, hn]; rfl
  have hcl : rg double c < double.infRung := of_decide_eq_true hc
  have ha : fin .f64 a = true := by
    refine decide_eq_true ?_
    show rg double a < double.infRung
    have ea : wrt .f64 a = if neg .f64 a then -((rg double a : Nat) : Int) else ((rg double a : Nat) : Int) := wrt_eq .f64 a
    rw [ec] at h1 h2
    cases hna : neg .f64 a
    · rw [hna] at ea
      have ea : wrt .f64 a = ((rg double a : Nat) : Int) := ea
      omega
    · rw [hna] at ea
      have ea : wrt .f64 a = -((rg double a : Nat) : Int) := ea
      omega
  refine ⟨ha, val_le.2 h2, ?_⟩
  -- the lower bound, by the float without its sign
  obtain ⟨f1, b1, k1⟩ := fabs_val ha
  have ea : wrt .f64 a = if neg .f64 a then -((rg double a : Nat) : Int) else ((rg double a : Nat) : Int) := wrt_eq .f64 a
  cases hna : neg .f64 a
  · have v := val_U a
    unfold vI at v
    rw [hna, sg_cast] at v
    have v : val a * UU = ((magOf double (rg double a) : Nat) : Rat) := v
    have hM : (0 : Rat) ≤ ((magOf double (rg double a) : Nat) : Rat) := Rat.natCast_nonneg
    have va := le_of_mul UU_pos (a := -val a) (by grind)
    have := val_le.2 h2
    grind
  · rw [hna] at ea
    have ea : wrt .f64 a = -((rg double a : Nat) : Int) := ea
    have hr : rg double a ≤ rg double c := by rw [ec] at h1; omega
    have hmg := mag_le hr
    have v := val_U a
    have vc := val_U c
    unfold vI at v vc
    rw [hna, sg_cast] at v
    rw [hn, sg_cast] at vc
    have v : val a * UU = -((magOf double (rg double a) : Nat) : Rat) := v
    have vc : val c * UU = ((magOf double (rg double c) : Nat) : Rat) := vc
    have hq : ((magOf double (rg double a) : Nat) : Rat) ≤ ((magOf double (rg double c) : Nat) : Rat) := Rat.natCast_le_natCast.2 hmg
    have := le_of_mul UU_pos (a := -val a - val c) (by grind)
    grind
end Go.Ev

namespace Go.Ev
open Ieee
/-! The greatest part of points. -/
def ab (x : Nat) : Nat := canon .f64 (rg double x)
def grt (p : Nat → Nat × Nat) (M : Nat) : Nat → Nat
  | 0 => M
  | i + 1 => fmx .f64 (fmx .f64 (grt p M i) (ab (p i).1)) (ab (p i).2)
theorem Bd.mono {x A B : Rat} (h : Bd x A) (hAB : A ≤ B) : Bd x B := by obtain ⟨a, b⟩ := h; constructor <;> grind
theorem Fl.mono {x : Nat} {A B : Rat} (h : Fl x A) (hAB : A ≤ B) : Fl x B := ⟨h.f, h.b.mono hAB⟩
theorem grt_ok {p : Nat → Nat × Nat} {M : Nat} {R : Rat} (hM : fin .f64 M = true) (hR : val M ≤ R) : ∀ {n : Nat}, (∀ i, i < n → Fl (p i).1 R ∧ Fl (p i).2 R) → fin .f64 (grt p M n) = true ∧ val M ≤ val (grt p M n) ∧ val (grt p M n) ≤ R ∧ ∀ i, i < n → Fl (p i).1 (val (grt p M n)) ∧ Fl (p i).2 (val (grt p M n))
  | 0, _ => ⟨hM, Rat.le_refl, hR, fun i h => absurd h (Nat.not_lt_zero _)⟩
  | n + 1, hp => by
    obtain ⟨g1, g2, g3, g4⟩ := grt_ok hM hR (n := n) fun i h => hp i (by omega)
    obtain ⟨p1, p2⟩ := hp n (Nat.lt_succ_self _)
    obtain ⟨a1, a2, a3⟩ := fabs_val p1.f
    obtain ⟨b1, b2, b3⟩ := fabs_val p2.f
    have a3 := a3 R p1.b
    have b3 := b3 R p2.b
    show fin .f64 (fmx .f64 (fmx .f64 (grt p M n) (ab (p n).1)) (ab (p n).2)) = true ∧ _ ≤ val (fmx .f64 (fmx .f64 (grt p M n) (ab (p n).1)) (ab (p n).2)) ∧ val (fmx .f64 (fmx .f64 (grt p M n) (ab (p n).1)) (ab (p n).2)) ≤ R ∧ ∀ i, i < n + 1 → Fl (p i).1 (val (fmx .f64 (fmx .f64 (grt p M n) (ab (p n).1)) (ab (p n).2))) ∧ Fl (p i).2 (val (fmx .f64 (fmx .f64 (grt p M n) (ab (p n).1)) (ab (p n).2)))
    have ea : canon .f64 (rg double (p n).1) = ab (p n).1 := rfl
    have eb : canon .f64 (rg double (p n).2) = ab (p n).2 := rfl
    rw [ea] at a1 a2 a3
    rw [eb] at b1 b2 b3
    generalize ab (p n).1 = a at *
    generalize ab (p n).2 = b at *
    generalize grt p M n = G at *
    obtain ⟨f1, u1, u2, u3⟩ := fmx_val g1 a1
    generalize hF : fmx .f64 G a = F at *
    obtain ⟨f2, w1, w2, w3⟩ := fmx_val f1 b1
    generalize hK : fmx .f64 F b = K at *
    have hFR : val F ≤ R := by rcases u3 with e | e <;> rw [e] <;> grind
    have hKR : val K ≤ R := by rcases w3 with e | e <;> rw [e] <;> grind
    refine ⟨f2, by grind, hKR, fun i hi => ?_⟩
    rcases Nat.lt_or_eq_of_le (Nat.le_of_lt_succ hi) with c | c
    · obtain ⟨q1, q2⟩ := g4 i c
      exact ⟨q1.mono (by grind), q2.mono (by grind)⟩
    · subst c
      exact ⟨⟨p1.f, a2.mono (by grind)⟩, ⟨p2.f, b2.mono (by grind)⟩⟩
end Go.Ev

set_option exponentiation.threshold 4000
namespace Go.Ev
open Ieee
/-! The outward way of a side: how near to the exact one. -/
theorem HH_E3 : HH * 730750818665451459101842416358141509827966271488 ≤ 1 := by
  have hH := HH_pos
  have he := HH_eq
  have h2 : UU = 2 ^ 159 * 2 ^ 915 := powR 2 159 915
  have h3 : (2 : Rat) ^ 159 = 730750818665451459101842416358141509827966271488 := by grind
  rw [h3] at h2
  have h4 : (1 : Rat) ≤ 2 ^ 915 := by
    have : ((1 : Nat) : Rat) ≤ ((2 ^ 915 : Nat) : Rat) := Rat.natCast_le_natCast.2 (Nat.one_le_two_pow)
    rw [Rat.natCast_pow] at this
    exact this
  rw [h2] at he
  generalize (2 : Rat) ^ 915 = z at *
  have h5 := Rat.mul_le_mul_of_nonneg_left h4 (show 0 ≤ HH * 730750818665451459101842416358141509827966271488 from Rat.mul_nonneg hH (by grind))
  have e1 : HH * (2 * (730750818665451459101842416358141509827966271488 * z)) = 2 * (HH * 730750818665451459101842416358141509827966271488 * z) := by grind
  rw [e1] at he
  grind
theorem EE_E2 : EE53 ≤ 1 / 1048576 := by unfold EE53; grind
theorem CC_100 : (2 : Rat) ^ 100 ≤ CC := by
  have h : CC = 2 ^ 100 * 2 ^ 800 := powR 2 100 800
  have h4 : (1 : Rat) ≤ 2 ^ 800 := by
    have : ((1 : Nat) : Rat) ≤ ((2 ^ 800 : Nat) : Rat) := Rat.natCast_le_natCast.2 (Nat.one_le_two_pow)
    rw [Rat.natCast_pow] at this
    exact this
  have h5 := Rat.mul_le_mul_of_nonneg_left h4 (show (0 : Rat) ≤ 2 ^ 100 by grind)
  rw [h]; grind
theorem len_near {x y : Nat} {S : Rat} (hx : Fl x (2 ^ 44)) (hy : Fl y (2 ^ 44)) (hS : val x * val x + val y * val y = S) (h1 : 1 ≤ S * 4611686018427387904) :
    fin .f64 (fsqrt (fadd .f64 (fmul .f64 x x) (fmul .f64 y y))) = true ∧ 0 < val (fsqrt (fadd .f64 (fmul .f64 x x) (fmul .f64 y y))) ∧
    Bd (val (fsqrt (fadd .f64 (fmul .f64 x x) (fmul .f64 y y))) * val (fsqrt (fadd .f64 (fmul .f64 x x) (fmul .f64 y y))) - S) (9 * (S * EE53)) ∧ fin .f64 (fadd .f64 (fmul .f64 x x) (fmul .f64 y y)) = true ∧ Bd (val (fadd .f64 (fmul .f64 x x) (fmul .f64 y y)) - S) (9 / 4 * (S * EE53)) := by
  have hC := CC_100
  have h100 : (2 : Rat) ^ 100 = 1267650600228229401496703205376 := by grind
  have h44 : (2 : Rat) ^ 44 = 17592186044416 := by grind
  rw [h100] at hC
  rw [h44] at hx hy
  have hE := EE_pos
  have hE1 := EE_E2
  have hEe := EE_eq
  have hH0 := HH_pos
  have hH3 := HH_E3
  have q1 := sq_nonneg (val x)
  have q2 := sq_nonneg (val y)
  have m1 := mul_bd hx.b hx.b
  have m2 := mul_bd hy.b hy.b
  obtain ⟨f1, g1⟩ := fmul_near hx.f hx.f (by have := m1.1; grind) (by have := m1.2; grind)
  obtain ⟨f2, g2⟩ := fmul_near hy.f hy.f (by have := m2.1; grind) (by have := m2.2; grind)
  have k1 := g1 (val x * val x) Rat.le_refl (by grind)
  have k2 := g2 (val y * val y) Rat.le_refl (by grind)
  generalize fmul .f64 x x = p1 at *
  generalize fmul .f64 y y = p2 at *
  generalize val x * val x = a at *
  generalize val y * val y = b at *
  have ez : a * EE53 + b * EE53 = S * EE53 := by rw [← hS]; grind
  have hz1 : S * EE53 ≤ S * (1 / 1048576) := Rat.mul_le_mul_of_nonneg_left hE1 (by grind)
  have hz0 : 0 ≤ S * EE53 := Rat.mul_nonneg (by grind) hE
  have hHz : 1024 * HH ≤ S * EE53 := by
    have := Rat.mul_le_mul_of_nonneg_right h1 hE
    have e : S * 4611686018427387904 * EE53 = S * EE53 * 4611686018427387904 := by grind
    rw [e] at this
    have e2 : (1 : Rat) * EE53 * 9007199254740992 = 1 := by grind
    grind
  have hSC : S ≤ 1237940039285380274899124224 := by have := m1.1; have := m2.1; grind
  have hS0 : 0 ≤ S := by grind
  obtain ⟨f3, g3⟩ := fadd_nearX f1 f2 (by grind) (by grind)
  have k3 := g3 (9 / 8 * S) (by grind) (by grind)
  have e3 : 9 / 8 * S * EE53 = 9 / 8 * (S * EE53) := by grind
  rw [e3] at k3
  have hs : Bd (val (fadd .f64 p1 p2) - S) (9 / 4 * (S * EE53)) := by constructor <;> grind
  have ng : neg .f64 (fadd .f64 p1 p2) = false := by
    cases hn : neg .f64 (fadd .f64 p1 p2)
    · rfl
    · exfalso
      have v := val_U (fadd .f64 p1 p2)
      unfold vI at v
      rw [hn, sg_cast] at v
      have v : val (fadd .f64 p1 p2) * UU = -((magOf double (rg double (fadd .f64 p1 p2)) : Nat) : Rat) := v
      have hM : (0 : Rat) ≤ ((magOf double (rg double (fadd .f64 p1 p2)) : Nat) : Rat) := Rat.natCast_nonneg
      have va := le_of_mul UU_pos (a := val (fadd .f64 p1 p2)) (by grind)
      obtain ⟨s1, s2⟩ := hs
      grind
  generalize fadd .f64 p1 p2 = s at *
  obtain ⟨s1, s2⟩ := hs
  obtain ⟨f4, r0, r1, r2⟩ := fsqrt_near f3 ng (by grind) (by grind)
  have e4 : val s * EE53 ≤ 9 / 8 * S * EE53 := mul_E (by grind)
  rw [e3] at e4
  refine ⟨f4, r0, ⟨?_, ?_⟩, f3, s1, s2⟩ <;> grind
theorem unit_near {x y r : Nat} {S : Rat} (hx : Fl x (2 ^ 44)) (hy : Fl y (2 ^ 44)) (hS : val x * val x + val y * val y = S) (h1 : 1 ≤ S * 4611686018427387904) (hr : r = fsqrt (fadd .f64 (fmul .f64 x x) (fmul .f64 y y))) :
    ∃ q1 q2 : Rat, q1 * val r = val x ∧ q2 * val r = val y ∧ Bd q1 (33 / 32) ∧ Bd q2 (33 / 32) ∧ fin .f64 (fdiv .f64 x r) = true ∧ fin .f64 (fdiv .f64 y r) = true ∧ Near2 (val (fdiv .f64 x r)) q1 ∧ Near2 (val (fdiv .f64 y r)) q2 ∧
      Bd (q1 * q1 + q2 * q2 - 1) (10 * EE53) ∧ fin .f64 r = true ∧ 1 ≤ val r * 4294967296 := by
  obtain ⟨f, r0, ⟨b1, b2⟩, _⟩ := len_near hx hy hS h1
  rw [← hr] at f r0 b1 b2
  have hC := CC_big
  have h60 : (2 : Rat) ^ 60 = 1152921504606846976 := by grind
  rw [h60] at hC
  have hE1 := EE_E2
  have hE0 := EE_pos
  have hne : val r ≠ 0 := by grind
  have hS0 : 0 ≤ S := by grind
  have hz1 : S * EE53 ≤ S * (1 / 1048576) := Rat.mul_le_mul_of_nonneg_left hE1 hS0
  have d1 : val x / val r * val r = val x := Rat.div_mul_cancel hne
  have d2 : val y / val r * val r = val y := Rat.div_mul_cancel hne
  generalize val x / val r = q1 at *
  generalize val y / val r = q2 at *
  have rr : 0 < val r * val r := Rat.mul_pos r0 r0
  have sq1 := sq_nonneg (val x)
  have sq2 := sq_nonneg (val y)
  have e1 : q1 * q1 * (val r * val r) = val x * val x := by rw [← d1]; grind
  have e2 : q2 * q2 * (val r * val r) = val y * val y := by rw [← d2]; grind
  have c1 : Bd q1 (33 / 32) := sq_le (by grind) (by
    have := le_of_mul rr (a := q1 * q1 - 33 / 32 * (33 / 32)) (by grind)
    grind)
  have c2 : Bd q2 (33 / 32) := sq_le (by grind) (by
    have := le_of_mul rr (a := q2 * q2 - 33 / 32 * (33 / 32)) (by grind)
    grind)
  obtain ⟨g1, n1⟩ := fdiv_near hx.f f hne d1 (by have := c1.1; grind) (by have := c1.2; grind)
  obtain ⟨g2, n2⟩ := fdiv_near hy.f f hne d2 (by have := c2.1; grind) (by have := c2.2; grind)
  refine ⟨q1, q2, d1, d2, c1, c2, g1, g2, n1, n2, ⟨?_, ?_⟩, f, ?_⟩
  · have := le_of_mul rr (a := q1 * q1 + q2 * q2 - 1 - 10 * EE53) (by
      have e : (q1 * q1 + q2 * q2 - 1 - 10 * EE53) * (val r * val r) = S - val r * val r - 10 * (EE53 * (val r * val r)) := by rw [← hS, ← e1, ← e2]; grind
      rw [e]
      have k := Rat.mul_le_mul_of_nonneg_left (show S - 9 * (S * EE53) ≤ val r * val r by grind) hE0
      have k2 : EE53 * (S - 9 * (S * EE53)) = S * EE53 - 9 * (S * EE53 * EE53) := by grind
      have k3 : S * EE53 * EE53 ≤ S * EE53 * (1 / 1048576) := Rat.mul_le_mul_of_nonneg_left hE1 (Rat.mul_nonneg hS0 hE0)
      grind)
    grind
  · have := le_of_mul rr (a := 1 - (q1 * q1 + q2 * q2) - 10 * EE53) (by
      have e : (1 - (q1 * q1 + q2 * q2) - 10 * EE53) * (val r * val r) = val r * val r - S - 10 * (EE53 * (val r * val r)) := by rw [← hS, ← e1, ← e2]; grind
      rw [e]
      have k := Rat.mul_le_mul_of_nonneg_left (show S - 9 * (S * EE53) ≤ val r * val r by grind) hE0
      have k2 : EE53 * (S - 9 * (S * EE53)) = S * EE53 - 9 * (S * EE53 * EE53) := by grind
      have k3 : S * EE53 * EE53 ≤ S * EE53 * (1 / 1048576) := Rat.mul_le_mul_of_nonneg_left hE1 (Rat.mul_nonneg hS0 hE0)
      grind)
    grind
  · rcases (Rat.le_total : val r * 4294967296 ≤ 1 ∨ 1 ≤ val r * 4294967296) with c | c
    · exfalso
      have k := Rat.mul_le_mul_of_nonneg_left c (show 0 ≤ val r by grind)
      have e : val r * (val r * 4294967296) = val r * val r * 4294967296 := by grind
      rw [e] at k
      grind
    · exact c
theorem side_along {wx wy r q1 q2 n1 n2 dx dy D c : Rat} (hr : 0 < r) (d1 : q1 * r = wy) (d2 : q2 * r = -wx) (hn1 : Bd (n1 - q1) (9 / 4 * EE53)) (hn2 : Bd (n2 - q2) (9 / 4 * EE53)) (hx : Bd dx D) (hy : Bd dy D)
    (hc : -(c * r) ≤ wx * dy - wy * dx) : n1 * dx + n2 * dy ≤ c + 9 / 2 * (D * EE53) := by
  have m1 := mul_bd hn1 hx
  have m2 := mul_bd hn2 hy
  have e : n1 * dx + n2 * dy = (n1 - q1) * dx + (n2 - q2) * dy + (q1 * dx + q2 * dy) := by grind
  have k := le_of_mul hr (a := q1 * dx + q2 * dy - c) (by
    have : (q1 * dx + q2 * dy - c) * r = (q1 * r) * dx + (q2 * r) * dy - c * r := by grind
    rw [this, d1, d2]
    grind)
  obtain ⟨m11, m12⟩ := m1
  obtain ⟨m21, m22⟩ := m2
  rw [e]
  have e2 : 9 / 4 * EE53 * D = 9 / 4 * (D * EE53) := by grind
  rw [e2] at m11 m21
  grind
theorem cross_ge {wx wy dx dy : Nat} {D W : Rat} (fwx : fin .f64 wx = true) (fwy : fin .f64 wy = true) (fdx : fin .f64 dx = true) (fdy : fin .f64 dy = true) (bwx : Bd (val wx) W) (bwy : Bd (val wy) W) (bdx : Bd (val dx) D) (bdy : Bd (val dy) D) (hWD : W * D * 4 ≤ CC)
    (h : fle .f64 (fsub .f64 (fmul .f64 wx dy) (fmul .f64 wy dx)) 0 = false) : val wy * val dx - val wx * val dy ≤ 2 * (W * D * EE53) + 2 * HH := by
  have m1 := mul_bd bwx bdy
  have m2 := mul_bd bwy bdx
  have hH0 := HH_pos
  have hHs : HH ≤ 1 := by have := HH_le; have := EE_E2; grind
  have hC := CC_big
  have h60 : (2 : Rat) ^ 60 = 1152921504606846976 := by grind
  rw [h60] at hC
  obtain ⟨f1, g1⟩ := fmul_near fwx fdy (by have := m1.1; have := m1.2; grind) (by have := m1.1; have := m1.2; grind)
  obtain ⟨f2, g2⟩ := fmul_near fwy fdx (by have := m2.1; have := m2.2; grind) (by have := m2.1; have := m2.2; grind)
  have k1 := g1 (W * D) m1.1 m1.2
  have k2 := g2 (W * D) m2.1 m2.2
  have hE1 := EE_E2
  have hp : 0 ≤ W * D := by have := m1.1; have := m1.2; grind
  have hpe : W * D * EE53 ≤ W * D * (1 / 1048576) := Rat.mul_le_mul_of_nonneg_left hE1 hp
  generalize fmul .f64 wx dy = p1 at *
  generalize fmul .f64 wy dx = p2 at *
  obtain ⟨m11, m12⟩ := m1
  obtain ⟨m21, m22⟩ := m2
  obtain ⟨f3, g3⟩ := fsub_nearX f1 f2 (by grind) (by grind)
  have hpos : ¬ val p1 ≤ val p2 := by
    intro hle
    have k3 := g3 (val p2 - val p1) (by grind) (by grind)
    have e : (val p2 - val p1) * EE53 ≤ (val p2 - val p1) * (1 / 1048576) := Rat.mul_le_mul_of_nonneg_left hE1 (by grind)
    have : val (fsub .f64 p1 p2) ≤ 0 := by grind
    have := (fle_val f3 val_0.1).2 (by rw [val_0.2]; exact this)
    rw [this] at h; cases h
  grind
theorem in_ok2 {e M' : Nat} {m : Rat} (h : MM (val M') m) (hM : fin .f64 M' = true) (he : fin .f64 e = true) (hle : val e ≤ 30000 * m) : fle .f64 e (fmul .f64 4436045632959938560 M') = true := by
  obtain ⟨hm0, hm1, hH, hH0, hC, hEm, hC2⟩ := h.facts
  have h1 := h.h1
  obtain ⟨fc, ec⟩ := val_c38
  generalize 4436045632959938560 = c at *
  have hc0 : 0 ≤ val c := by grind
  have hc1 : val c ≤ 1 := by grind
  have hx : Bd (val c * val M') (1 * val M') := by
    have := mul_bd (show Bd (val c) 1 from ⟨hc1, by grind⟩) (show Bd (val M') (val M') from ⟨Rat.le_refl, by grind⟩)
    exact this
  obtain ⟨ff, gg⟩ := fmul_near fc hM (by have := hx.1; grind) (by have := hx.2; grind)
  have k := near_at h.hm gg hx
  rw [fle_val he ff]
  have hbig : 32768 * m = val c * val M' := by
    have hm := h.hm
    have hE := EE_eq
    have e1 : (val c * val M' - 32768 * m) * 274877906944 = val M' - 32768 * 274877906944 * m := by grind
    have e2 : 32768 * 274877906944 * m = val M' := by rw [hm]; grind
    have : (val c * val M' - 32768 * m) * 274877906944 = 0 := by rw [e1, e2]; grind
    have := zero_of_mul (show (0 : Rat) < 274877906944 by grind) this
    grind
  obtain ⟨k1, k2⟩ := k
  generalize val c * val M' = z at *
  grind
end Go.Ev

set_option exponentiation.threshold 4000
namespace Go.Ev
open Ieee
/-! Differences as words; numbers turned round; constants. -/
theorem nearest_lt (f : Format) (s : Bool) (mag : Nat) (place : Int) (hw : f.infRung < f.signWeight) : f.nearest s mag place < 2 ^ f.width := by
  unfold Format.nearest
  split
  · exact f.word_lt s (by omega)
  · exact f.word_lt s (by omega)
theorem fsub_can {x y : Nat} (hx : fin .f64 x = true) (hy : fin .f64 y = true) (hf : fin .f64 (fsub .f64 x y) = true) : Can .f64 (fsub .f64 x y) := by
  refine ⟨canon_of_not (fin_not_nan hf), ?_⟩
  obtain ⟨m, i, h1, h2⟩ := read_kind .f64 hx
  obtain ⟨n, j, g1, g2⟩ := read_kind .f64 hy
  unfold fsub Format.sub
  rw [h1, g1]
  simp only [Datum.opposite, Datum.sum, Option.map_some, Option.getD_some, Format.write]
  exact nearest_lt _ _ _ _ iw
theorem val_wneg {x y : Nat} (h : wrt .f64 y = -wrt .f64 x) : val y = -val x := by
  have hx := wrt_eq .f64 x
  have hy := wrt_eq .f64 y
  have key : vI y = -vI x := by
    unfold vI
    have e : rg FloatKind.f64.format x = rg double x := rfl
    have e2 : rg FloatKind.f64.format y = rg double y := rfl
    rw [e] at hx
    rw [e2] at hy
    have h0 : magOf double 0 = 0 := magOf_0
    cases nx : neg .f64 x <;> cases ny : neg .f64 y <;> rw [nx] at hx <;> rw [ny] at hy
    · have hx : wrt .f64 x = ((rg double x : Nat) : Int) := hx
      have hy : wrt .f64 y = ((rg double y : Nat) : Int) := hy
      rw [show rg double x = 0 by omega, show rg double y = 0 by omega, h0]; rfl
    · have hx : wrt .f64 x = ((rg double x : Nat) : Int) := hx
      have hy : wrt .f64 y = -((rg double y : Nat) : Int) := hy
      rw [show rg double y = rg double x by omega]; rfl
    · have hx : wrt .f64 x = -((rg double x : Nat) : Int) := hx
      have hy : wrt .f64 y = ((rg double y : Nat) : Int) := hy
      rw [show rg double y = rg double x by omega]
      show ((magOf double (rg double x) : Nat) : Int) = - -((magOf double (rg double x) : Nat) : Int)
      omega
    · have hx : wrt .f64 x = -((rg double x : Nat) : Int) := hx
      have hy : wrt .f64 y = -((rg double y : Nat) : Int) := hy
      rw [show rg double x = 0 by omega, show rg double y = 0 by omega, h0]; rfl
  have v1 := val_U x
  have v2 := val_U y
  rw [key, Rat.intCast_neg, ← v1] at v2
  have := zero_of_mul UU_pos (a := val y + val x) (by grind)
  grind
theorem fneg_val {x : Nat} (h : Can .f64 x) (hf : fin .f64 x = true) : fin .f64 (fneg .f64 x) = true ∧ val (fneg .f64 x) = -val x ∧ Can .f64 (fneg .f64 x) := by
  have hn := fin_not_nan hf
  have h1 := fneg_of h hn
  refine ⟨?_, val_wneg h1.1, can_fneg h⟩
  have h2 := negFloat_eq .f64 h.lt
  have e : fneg .f64 x = Op.negFloat .f64 x := by unfold fneg; exact canon_of_not ((isNan_neg h.lt).trans hn)
  rw [e]
  unfold fin at hf ⊢
  rw [h2.1]
  exact hf
theorem nw_of {a c : Nat} (hc : fin .f64 c = true) (hcn : isNan .f64 (fneg .f64 c) = false) (hw : wrt .f64 (fneg .f64 c) = - wrt .f64 c) (ha : fin .f64 a = true) (h : Bd (val a) (val c)) : (fle .f64 (fneg .f64 c) a && fle .f64 a c) = true := by
  obtain ⟨h1, h2⟩ := h
  have v := val_wneg hw
  have w1 := val_le.1 h1
  have w2 := val_le.1 (show val (fneg .f64 c) ≤ val a by rw [v]; grind)
  rw [fle_eq, fle_eq, hcn, fin_not_nan ha, fin_not_nan hc]
  simp only [Bool.not_false, Bool.true_and, Bool.and_eq_true, decide_eq_true_eq]
  exact ⟨w2, w1⟩
end Go.Ev

namespace Go.Ev.Le
section
variable {α : Type} (W : α → Bool) (C : α → α → α) (q : α → α → Bool) (z : α)
def put (L : List α) (v : α) : List α := bif ((L.length : Int) == 0) || !q (L.getD (L.length - 1) z) v then L ++ [v] else L
def lf1 (L : List α) (a : α) : List α := bif W a then put q z L a else L
def lf2 (L : List α) (a b : α) : List α := bif W a != W b then put q z L (C a b) else L
def lf (p : Nat → α) (nx : Nat → Nat) : Nat → List α
  | 0 => []
  | i + 1 => lf2 W C q z (lf1 W q z (lf p nx i) (p i)) (p i) (p (nx i))
theorem put_len (L : List α) (v : α) : (put q z L v).length ≤ L.length + 1 := by
  unfold put
  cases ((L.length : Int) == 0) || !q (L.getD (L.length - 1) z) v <;> simp
theorem put_mem {L : List α} {v x : α} (h : x ∈ put q z L v) : x ∈ L ∨ x = v := by
  unfold put at h
  cases hc : ((L.length : Int) == 0) || !q (L.getD (L.length - 1) z) v
  · rw [hc] at h; exact .inl h
  · rw [hc] at h
    have h : x ∈ L ++ [v] := h
    rw [List.mem_append, List.mem_singleton] at h
    exact h
variable (p : Nat → α) (nx : Nat → Nat)
theorem lf_len : ∀ n, (lf W C q z p nx n).length ≤ 2 * n
  | 0 => Nat.le_refl _
  | n + 1 => by
    have ih := lf_len n
    show (lf2 W C q z (lf1 W q z (lf W C q z p nx n) (p n)) (p n) (p (nx n))).length ≤ _
    have h1 : (lf1 W q z (lf W C q z p nx n) (p n)).length ≤ (lf W C q z p nx n).length + 1 := by
      unfold lf1
      cases W (p n)
      · exact Nat.le_succ _
      · exact put_len q z _ _
    have h2 : (lf2 W C q z (lf1 W q z (lf W C q z p nx n) (p n)) (p n) (p (nx n))).length ≤ (lf1 W q z (lf W C q z p nx n) (p n)).length + 1 := by
      unfold lf2
      cases W (p n) != W (p (nx n))
      · exact Nat.le_succ _
      · exact put_len q z _ _
    omega
theorem lf_mem {x : α} : ∀ {n : Nat}, x ∈ lf W C q z p nx n → ∃ i, i < n ∧ ((x = p i ∧ W (p i) = true) ∨ (x = C (p i) (p (nx i)) ∧ (W (p i) != W (p (nx i))) = true))
  | 0, h => by cases h
  | n + 1, h => by
    have h : x ∈ lf2 W C q z (lf1 W q z (lf W C q z p nx n) (p n)) (p n) (p (nx n)) := h
    have low : x ∈ lf1 W q z (lf W C q z p nx n) (p n) → ∃ i, i < n + 1 ∧ ((x = p i ∧ W (p i) = true) ∨ (x = C (p i) (p (nx i)) ∧ (W (p i) != W (p (nx i))) = true)) := fun h => by
      unfold lf1 at h
      cases hw : W (p n)
      · rw [hw] at h
        obtain ⟨i, h1, h2⟩ := lf_mem (n := n) h
        exact ⟨i, by omega, h2⟩
      · rw [hw] at h
        rcases put_mem q z h with h | h
        · obtain ⟨i, h1, h2⟩ := lf_mem (n := n) h
          exact ⟨i, by omega, h2⟩
        · exact ⟨n, by omega, .inl ⟨h, hw⟩⟩
    unfold lf2 at h
    cases hc : W (p n) != W (p (nx n))
    · rw [hc] at h; exact low h
    · rw [hc] at h
      rcases put_mem q z h with h | h
      · exact low h
      · exact ⟨n, by omega, .inr ⟨h, hc⟩⟩
def pos (i : Nat) : Nat := (lf1 W q z (lf W C q z p nx i) (p i)).length - 1
end
end Go.Ev.Le
