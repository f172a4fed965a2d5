/-
  What holds of the layer's functions without the reference, for all floats.
-/
import Derived.Test.YtoboojdfaccphaaNumL
open Go Go.Proofs
namespace Go.Ev.Num

/-- Where a float stands in the row: what is no number comes first. -/
def ord (x : Nat) : Int := bif isNan .f64 x then -18446744073709551616 else plc x

theorem plc_ge {x : Nat} (hx : Can .f64 x) : -9223372036854775808 ≤ plc x ∧ plc x < 9223372036854775808 := by
  have h := (parts .f64 hx.lt).2
  have h' : rg Ieee.double x < 9223372036854775808 := by rw [← sw_double]; exact h
  unfold plc
  cases neg .f64 x <;> simp <;> omega
theorem plc_inj {x y : Nat} (hx : Can .f64 x) (hy : Can .f64 y) (h : plc x = plc y) : x = y := by
  have a := @plc_lt x y
  have b := @plc_lt y x
  have hw : wrt .f64 x = wrt .f64 y := by
    rcases Int.lt_trichotomy (wrt .f64 x) (wrt .f64 y) with c | c | c
    · have := a.2 (.inl c); omega
    · exact c
    · have := b.2 (.inl c); omega
  refine can_ext hx hy hw ?_
  cases n1 : neg .f64 x <;> cases n2 : neg .f64 y
  · rfl
  · have := b.2 (.inr ⟨hw.symm, n2, n1⟩); omega
  · have := a.2 (.inr ⟨hw, n1, n2⟩); omega
  · rfl
theorem ord_inj {x y : Nat} (hx : Can .f64 x) (hy : Can .f64 y) (h : ord x = ord y) : x = y := by
  unfold ord at h
  have p1 := plc_ge hx
  have p2 := plc_ge hy
  cases n1 : isNan .f64 x <;> cases n2 : isNan .f64 y <;> simp [n1, n2] at h
  · exact plc_inj hx hy h
  · omega
  · omega
  · rw [hx.qnan n1, hy.qnan n2]

theorem nOrder_ord {a b : Nat} (ha : Can .f64 a) (hb : Can .f64 b) : (ord a < ord b ∧ nOrder a b = -1) ∨ (ord a = ord b ∧ nOrder a b = 0) ∨ (ord b < ord a ∧ nOrder a b = 1) := by
  rw [nOrder_eq ha hb]
  unfold rOrder ord
  have p1 := plc_ge ha
  have p2 := plc_ge hb
  cases n1 : isNan .f64 a <;> cases n2 : isNan .f64 b <;> simp
  · by_cases h1 : plc a < plc b
    · simp [h1]
    · by_cases h2 : plc b < plc a
      · simp [h1, h2]
      · simp [h1, h2]; omega
  · omega
  · omega
theorem flt_ord {a b : Nat} (_ : Can .f64 a) (_ : Can .f64 b) (h : flt .f64 a b = true) : ord a < ord b := by
  rw [flt_eq] at h
  simp at h
  unfold ord
  rw [h.1.1, h.1.2]
  exact plc_lt.2 (.inl h.2)
theorem fgt_ord {a b : Nat} (ha : Can .f64 a) (hb : Can .f64 b) (h : fgt .f64 a b = true) : ord b < ord a := by
  rw [fgt_swap] at h; exact flt_ord hb ha h

theorem row_law {a b c : Nat} (ha : Can .f64 a) (hb : Can .f64 b) (hc : Can .f64 c) :
    (true && (nOrder b a == IntKind.i64.wrap (0 - nOrder a b) && nOrder a a == 0) &&
      (decide (0 < nOrder a b) || decide (0 < nOrder b c) || decide (nOrder a c ≤ 0)) &&
      (decide (0 ≤ nOrder a b) || decide (0 < nOrder b c) || decide (nOrder a c < 0)) &&
      (nOrder a b == 0) == nSame .f64 a b &&
      (flt .f64 a b && decide (nOrder a b < 0) || fgt .f64 a b && decide (0 < nOrder a b) || !flt .f64 a b && !fgt .f64 a b) &&
      decide (-1 ≤ nOrder a b) && decide (nOrder a b ≤ 1)) = true := by
  have h1 := nOrder_ord ha hb
  have h2 := nOrder_ord hb ha
  have h3 := nOrder_ord ha ha
  have h4 := nOrder_ord hb hc
  have h5 := nOrder_ord ha hc
  have hs := nSame_eq ha hb
  have hl := @flt_ord a b ha hb
  have hg := @fgt_ord a b ha hb
  have hi := @ord_inj a b ha hb
  have he : a = b → ord a = ord b := fun e => by rw [e]
  rw [hs]
  have hw : IntKind.i64.wrap (0 - nOrder a b) = - nOrder a b := by rw [i64_wrap] <;> omega
  rw [hw]
  generalize nOrder a b = p at *
  generalize nOrder b a = p' at *
  generalize nOrder a a = o at *
  generalize nOrder b c = q at *
  generalize nOrder a c = r at *
  have hsame : (p == 0) = decide (a = b) := by
    rw [Bool.eq_iff_iff]; simp only [beq_iff_eq, decide_eq_true_eq]
    constructor
    · intro h; exact hi (by omega)
    · intro h; have := he h; omega
  rw [hsame]
  have e1 : (p' == -p) = true := by rw [beq_iff_eq]; omega
  have e2 : (o == 0) = true := by rw [beq_iff_eq]; omega
  rw [e1, e2]
  have e3 : (decide (0 < p) || decide (0 < q) || decide (r ≤ 0)) = true := by simp; omega
  have e4 : (decide (0 ≤ p) || decide (0 < q) || decide (r < 0)) = true := by simp; omega
  have e5 : (flt .f64 a b && decide (p < 0) || fgt .f64 a b && decide (0 < p) || !flt .f64 a b && !fgt .f64 a b) = true := by
    cases f1 : flt .f64 a b
    · cases f2 : fgt .f64 a b
      · rfl
      · have := hg f2; simp; omega
    · have := hl f1; simp; omega
  have e6 : decide (-1 ≤ p) = true := by simp; omega
  have e7 : decide (p ≤ 1) = true := by simp; omega
  rw [e3, e4, e5, e6, e7]
  simp

theorem feq_self (k : FloatKind) (x : Nat) : feq k x x = !isNan k x := by rw [← none_feq]; simp

theorem can_least {a b : Nat} (ha : Can .f64 a) (hb : Can .f64 b) : Can .f64 (nLeast .f64 a b) := by
  unfold nLeast; cases (isNan .f64 a || flt .f64 b a || (feq .f64 a 0 && feq .f64 b 0 && fminus .f64 b)) <;> assumption
theorem can_most {a b : Nat} (ha : Can .f64 a) (hb : Can .f64 b) : Can .f64 (nMost .f64 a b) := by
  unfold nMost; cases (isNan .f64 a || fgt .f64 b a || (feq .f64 a 0 && feq .f64 b 0 && fminus .f64 a)) <;> assumption

theorem least_comm {a b : Nat} (ha : Can .f64 a) (hb : Can .f64 b) : nLeast .f64 a b = nLeast .f64 b a := by
  rw [nLeast_eq ha hb, nLeast_eq hb ha]
  unfold rLeast
  have hi := @plc_inj a b ha hb
  cases n1 : isNan .f64 a <;> cases n2 : isNan .f64 b <;> simp
  · by_cases h1 : plc a ≤ plc b
    · by_cases h2 : plc b ≤ plc a
      · simp [h1, h2]; exact hi (by omega)
      · simp [h1, h2]
    · have h2 : plc b ≤ plc a := by omega
      simp [h1, h2]
  · rw [ha.qnan n1, hb.qnan n2]
theorem most_comm {a b : Nat} (ha : Can .f64 a) (hb : Can .f64 b) : nMost .f64 a b = nMost .f64 b a := by
  rw [nMost_eq ha hb, nMost_eq hb ha]
  unfold rMost
  have hi := @plc_inj a b ha hb
  cases n1 : isNan .f64 a <;> cases n2 : isNan .f64 b <;> simp
  · by_cases h1 : plc b ≤ plc a
    · by_cases h2 : plc a ≤ plc b
      · simp [h1, h2]; exact hi (by omega)
      · simp [h1, h2]
    · have h2 : plc a ≤ plc b := by omega
      simp [h1, h2]
  · rw [ha.qnan n1, hb.qnan n2]

theorem two_law1 {a b : Nat} (ha : Can .f64 a) (hb : Can .f64 b) (h : (!feq .f64 a a || !feq .f64 b b) = true) :
    (true && (nSame .f64 (nLeast .f64 a b) (nLeast .f64 b a) && nSame .f64 (nMost .f64 a b) (nMost .f64 b a)) &&
      (nSame .f64 (nLeast .f64 a b) (nMost .f64 a b) && (feq .f64 (nLeast .f64 a b) (nLeast .f64 a b) || !feq .f64 a a && !feq .f64 b b))) = true := by
  have c1 := can_least ha hb
  have c2 := can_least hb ha
  have c3 := can_most ha hb
  have c4 := can_most hb ha
  rw [nSame_eq c1 c2, nSame_eq c3 c4, nSame_eq c1 c3, feq_self, feq_self, feq_self]
  rw [feq_self, feq_self] at h
  rw [← least_comm ha hb, ← most_comm ha hb]
  simp only [decide_true, Bool.and_self, Bool.true_and]
  rw [nLeast_eq ha hb, nMost_eq ha hb]
  unfold rLeast rMost
  cases n1 : isNan .f64 a <;> cases n2 : isNan .f64 b <;> simp [n1, n2] at h ⊢

theorem two_law2 {a b : Nat} (ha : Can .f64 a) (hb : Can .f64 b) (h : (!feq .f64 a a || !feq .f64 b b) = false) :
    (true && (nSame .f64 (nLeast .f64 a b) (nLeast .f64 b a) && nSame .f64 (nMost .f64 a b) (nMost .f64 b a)) &&
      (nSame .f64 (nLeast .f64 a b) a && nSame .f64 (nMost .f64 a b) b || nSame .f64 (nLeast .f64 a b) b && nSame .f64 (nMost .f64 a b) a)) = true := by
  have c1 := can_least ha hb
  have c2 := can_least hb ha
  have c3 := can_most ha hb
  have c4 := can_most hb ha
  rw [nSame_eq c1 c2, nSame_eq c3 c4, nSame_eq c1 ha, nSame_eq c1 hb, nSame_eq c3 ha, nSame_eq c3 hb]
  rw [feq_self, feq_self] at h
  rw [← least_comm ha hb, ← most_comm ha hb]
  simp only [decide_true, Bool.and_self, Bool.true_and]
  rw [nLeast_eq ha hb, nMost_eq ha hb]
  unfold rLeast rMost
  have hi := @plc_inj a b ha hb
  cases n1 : isNan .f64 a <;> cases n2 : isNan .f64 b <;> simp [n1, n2] at h ⊢
  by_cases h1 : plc a ≤ plc b
  · by_cases h2 : plc b ≤ plc a
    · have : a = b := hi (by omega)
      simp [this]
    · simp [h1, h2]
  · have h2 : plc b ≤ plc a := by omega
    simp [h1, h2]

theorem clamp_law {a l h : Nat} (hlh : fle .f64 l h = true) :
    (!(fle .f64 l (nClamp .f64 a l h) && fle .f64 (nClamp .f64 a l h) h) || fle .f64 l a && fle .f64 a h && !feq .f64 (nClamp .f64 a l h) a) = false := by
  rw [fle_eq] at hlh
  simp at hlh
  obtain ⟨⟨nl, nh⟩, hw⟩ := hlh
  unfold nClamp
  cases na : isNan .f64 a
  · by_cases h1 : wrt .f64 l < wrt .f64 a
    · have g1 : fgt .f64 a l = true := by rw [fgt_eq]; simp [na, nl, h1]
      by_cases h2 : wrt .f64 h < wrt .f64 a
      · have g2 : fgt .f64 a h = true := by rw [fgt_eq]; simp [na, nh, h2]
        rw [g1, g2]
        simp [fle_eq, feq_eq, na, nl, nh]
        omega
      · have g2 : fgt .f64 a h = false := by rw [fgt_eq]; simp [na, nh]; omega
        rw [g1, g2]
        simp [fle_eq, feq_eq, na, nl, nh]
        omega
    · have g1 : fgt .f64 a l = false := by rw [fgt_eq]; simp [na, nl]; omega
      rw [g1]
      simp [fle_eq, feq_eq, na, nl, nh]
      omega
  · have g1 : fgt .f64 a l = false := by rw [fgt_eq]; simp [na]
    rw [g1]
    simp [fle_eq, feq_eq, na, nl, nh]
    omega

theorem between_law {a h : Nat} (ha : Can .f64 a) :
    (fin .f64 a && fin .f64 h && fin .f64 (fsub .f64 h a) && !feq .f64 (nBetween a h 0) a) = false := by
  cases f1 : fin .f64 a
  · rfl
  · cases f3 : fin .f64 (fsub .f64 h a)
    · simp
    · unfold nBetween
      obtain ⟨z1, z2⟩ := fmul_zero f3
      obtain ⟨a1, a2⟩ := fadd_zero ha f1 z2 z1
      rw [feq_eq, a1, a2, fin_not_nan f1]
      simp

theorem within_inf (a : Nat) (_ : Can .f64 a) : nWithin .f64 a 9218868437227405312 = feq .f64 a a := by
  rw [feq_self]
  unfold nWithin
  have e1 : fneg .f64 9218868437227405312 = 18442240474082181120 := by decide
  rw [e1, fle_eq, fle_eq]
  have n1 : isNan .f64 18442240474082181120 = false := by decide
  have n2 : isNan .f64 9218868437227405312 = false := by decide
  have w1 : wrt .f64 18442240474082181120 = -9218868437227405312 := by decide
  have w2 : wrt .f64 9218868437227405312 = 9218868437227405312 := by decide
  rw [n1, n2, w1, w2]
  cases na : isNan .f64 a
  · have hr : ¬ Ieee.double.infRung < rg Ieee.double a := by
      rw [isNan_eq] at na; exact of_decide_eq_false na
    rw [ir_double] at hr
    rw [wrt_eq]
    show (_ && decide (-9218868437227405312 ≤ (if neg .f64 a = true then -(rg Ieee.double a : Int) else rg Ieee.double a)) && (_ && decide ((if neg .f64 a = true then -(rg Ieee.double a : Int) else rg Ieee.double a) ≤ 9218868437227405312))) = _
    cases neg .f64 a <;> simp <;> omega
  · rfl

theorem sign_neg (a : Nat) (ha : Can .f64 a) : nSign .f64 (fneg .f64 a) = IntKind.i64.wrap (0 - nSign .f64 a) := by
  unfold nSign
  rw [fgt_eq, flt_eq, fgt_eq, flt_eq, isNan_fneg ha, nan_zero, wrt_zero]
  cases na : isNan .f64 a
  · rw [(fneg_of ha na).1]
    simp only [Bool.not_false, Bool.true_and]
    rcases Int.lt_trichotomy (wrt .f64 a) 0 with h | h | h
    · have e1 : decide (0 < -wrt .f64 a) = true := by simp; omega
      have e2 : decide (0 < wrt .f64 a) = false := by simp; omega
      have e3 : decide (wrt .f64 a < 0) = true := by simp; omega
      rw [e1, e2, e3]; rfl
    · rw [h]; decide
    · have e1 : decide (0 < -wrt .f64 a) = false := by simp; omega
      have e2 : decide (0 < wrt .f64 a) = true := by simp; omega
      have e3 : decide (-wrt .f64 a < 0) = true := by simp; omega
      rw [e1, e2, e3]; rfl
  · simp only [Bool.not_true, Bool.false_and, cond_false]; rfl

theorem held_law {a : Nat} (ha : Can .f64 a) :
    (true && nSame .f64 (canon .f64 ((a : Int)).toNat) a && nWithin .f64 a 9218868437227405312 == feq .f64 a a && nSign .f64 (fneg .f64 a) == IntKind.i64.wrap (0 - nSign .f64 a)) = true := by
  rw [Int.toNat_natCast, ha.eq, nSame_eq ha ha, within_inf a ha, sign_neg a ha]
  simp
end Go.Ev.Num
