/-
  Planes that are let pass, the greatest part, neighbours that are not equal; for all floats.
-/
import Derived.Test.YtbehddngdjfkhaaClipXc
import Derived.Test.YtbehddngdjfkhaaClipD
import Derived.Test.YtbehddngdjfkhaaClipKd
set_option linter.unusedSimpArgs false
set_option linter.unusedVariables false
open Go Go.Proofs
namespace Go.Ev.Clip
open Ieee
set_option maxRecDepth 100000
theorem chk_fl {nx ny pf : Nat} (h : chk nx ny pf = true) : Fl nx (33 / 32) ∧ Fl ny (33 / 32) ∧ Fl pf (2 ^ 42) := by
  unfold chk at h
  simp only [Bool.and_eq_true] at h
  obtain ⟨⟨⟨⟨h1, h2⟩, h3⟩, h4⟩, h5⟩ := h
  unfold nw at h1 h2 h5
  unfold dot at h4
  exact plane_fl h1 h2 h4 h5
theorem wth_fl {a b : Nat} (h : wth a b = true) : Fl a (2 ^ 40) ∧ Fl b (2 ^ 40) := by
  unfold wth nw at h
  rw [Bool.and_eq_true] at h
  have v := val_40
  exact ⟨(nw_fl (by decide +kernel) (by decide +kernel) (by decide +kernel) h.1).mono v, (nw_fl (by decide +kernel) (by decide +kernel) (by decide +kernel) h.2).mono v⟩
theorem ml_ok {pf n : Nat} {p : Nat → Nat × Nat} (hf : Fl pf (2 ^ 42)) (hp : ∀ i, i < n → Fl (p i).1 (2 ^ 40) ∧ Fl (p i).2 (2 ^ 40)) :
    MM (val (ML pf n p)) (val (ML pf n p) * EE53) ∧ fin .f64 (ML pf n p) = true ∧ Fl pf (val (ML pf n p)) ∧ ∀ i, i < n → Fl (p i).1 (val (ML pf n p)) ∧ Fl (p i).2 (val (ML pf n p)) := by
  obtain ⟨a1, a2, a3⟩ := fabs_val hf.f
  have a3 := a3 _ hf.b
  have ea : canon .f64 (rg double pf) = fabs pf := rfl
  rw [ea] at a1 a2 a3
  obtain ⟨o1, o2⟩ := val_1
  obtain ⟨f1, u1, u2, u3⟩ := fmx_val o1 a1
  have h42 : (2 : Rat) ^ 42 = 4398046511104 := by grind
  have h40 : (2 : Rat) ^ 40 = 1099511627776 := by grind
  have h50 : (2 : Rat) ^ 50 = 1125899906842624 := by grind
  have hR : val (fmx .f64 4607182418800017408 (fabs pf)) ≤ 2 ^ 42 := by
    rcases u3 with e | e <;> rw [e]
    · rw [o2, h42]; grind
    · exact a3
  obtain ⟨g1, g2, g3, g4⟩ := grt_ok (p := p) (n := n) f1 hR fun i hi => ⟨(hp i hi).1.mono (by rw [h40, h42]; grind), (hp i hi).2.mono (by rw [h40, h42]; grind)⟩
  have e : grt p (fmx .f64 4607182418800017408 (fabs pf)) n = ML pf n p := rfl
  rw [e] at g1 g2 g3 g4
  generalize ML pf n p = M at *
  refine ⟨⟨rfl, by grind, by rw [h50]; rw [h42] at g3; grind⟩, g1, ⟨hf.f, ?_⟩, g4⟩
  obtain ⟨b1, b2⟩ := a2
  constructor <;> grind
theorem ms_ml (pf a1 a2 b1 b2 : Nat) : MS pf a1 a2 b1 b2 = ML pf 2 (pr a1 a2 b1 b2) := rfl
/-! Neighbours are not equal. -/
theorem val_word0 (s : Bool) : val (double.word s 0) = 0 := by
  have h := val_U (double.word s 0)
  have e : vI (double.word s 0) = 0 := by
    unfold vI
    rw [(rg_word double s (by decide +kernel)).1]
    cases neg .f64 (double.word s 0) <;> decide +kernel
  rw [e] at h
  exact zero_of_mul UU_pos h
theorem read0 {x : Nat} (hx : fin .f64 x = true) (h0 : val x = 0) : ∃ e : Nat, double.read x = .number (neg .f64 x) 0 (double.leastPlace + (e : Nat)) := by
  obtain ⟨m, e, a1, a2⟩ := read_kind .f64 hx
  have hv := val_U x
  rw [h0, Rat.zero_mul] at hv
  have hI : vI x = 0 := by
    have : ((0 : Int) : Rat) = (vI x : Rat) := hv
    exact (Rat.intCast_inj.1 this).symm
  have hm : magOf double (rg double x) = 0 := by
    unfold vI sg at hI
    split at hI <;> omega
  have a2 : m * 2 ^ e = magOf double (rg double x) := a2
  rw [hm] at a2
  have : m = 0 := by
    rcases Nat.mul_eq_zero.1 a2 with h | h
    · exact h
    · exact absurd h (by have := Nat.two_pow_pos e; omega)
  subst this
  exact ⟨e, a1⟩
theorem fmul_val0 {x : Nat} (hx : fin .f64 x = true) (h0 : val x = 0) : fin .f64 (fmul .f64 x x) = true ∧ val (fmul .f64 x x) = 0 := by
  obtain ⟨e, h⟩ := read0 hx h0
  have hw : ∃ s, fmul .f64 x x = double.word s 0 := by
    unfold fmul Format.mul
    have h : FloatKind.f64.format.read x = _ := h
    rw [h]
    simp only [Datum.product, Option.map_some, Option.getD_some, Format.write, Nat.zero_mul]
    rw [nearest_zero]
    exact ⟨_, rfl⟩
  obtain ⟨s, hw⟩ := hw
  rw [hw]
  exact ⟨by cases s <;> decide +kernel, val_word0 s⟩
theorem fsqrt_val0 {x : Nat} (hx : fin .f64 x = true) (h0 : val x = 0) : fin .f64 (fsqrt x) = true ∧ val (fsqrt x) = 0 := by
  obtain ⟨e, h⟩ := read0 hx h0
  have hw : ∃ s, fsqrt x = double.word s 0 := by
    unfold fsqrt Format.sqrt
    have h : FloatKind.f64.format.read x = _ := h
    rw [h]
    simp only [Datum.root, Option.map_some, Option.getD_some, Format.write, if_true]
    rw [nearest_zero]
    exact ⟨_, rfl⟩
  obtain ⟨s, hw⟩ := hw
  rw [hw]
  exact ⟨by cases s <;> decide +kernel, val_word0 s⟩
theorem feq_sub0 {x y : Nat} (hx : fin .f64 x = true) (hy : fin .f64 y = true) (h : feq .f64 x y = true) : fin .f64 (fsub .f64 x y) = true ∧ val (fsub .f64 x y) = 0 := by
  rw [feq_eq] at h
  simp only [Bool.and_eq_true, decide_eq_true_eq] at h
  have h1 := val_le.2 (Int.le_of_eq h.2)
  have h2 := val_le.2 (Int.le_of_eq h.2.symm)
  have hC := CC_big
  have h60 : (2 : Rat) ^ 60 = 1152921504606846976 := by grind
  rw [h60] at hC
  obtain ⟨f, n⟩ := fsub_nearX hx hy (by grind) (by grind)
  obtain ⟨n1, n2⟩ := n 0 (by grind) (by grind)
  rw [Rat.zero_mul] at n1 n2
  exact ⟨f, by grind⟩
theorem len0 {p q : Nat × Nat} (h1 : fin .f64 p.1 = true) (h2 : fin .f64 p.2 = true) (h3 : fin .f64 q.1 = true) (h4 : fin .f64 q.2 = true) (h : eqP q p = true) : flt .f64 (lnV (subV q p)) 4472074429978902528 = true := by
  unfold eqP at h
  rw [Bool.and_true, Bool.and_eq_true] at h
  obtain ⟨x1, x2⟩ := feq_sub0 h3 h1 h.1
  obtain ⟨y1, y2⟩ := feq_sub0 h4 h2 h.2
  have e : lnV (subV q p) = fsqrt (fadd .f64 (fmul .f64 (fsub .f64 q.1 p.1) (fsub .f64 q.1 p.1)) (fmul .f64 (fsub .f64 q.2 p.2) (fsub .f64 q.2 p.2))) := rfl
  rw [e]
  obtain ⟨x3, x4⟩ := fmul_val0 x1 x2
  obtain ⟨y3, y4⟩ := fmul_val0 y1 y2
  have hC := CC_big
  have h60 : (2 : Rat) ^ 60 = 1152921504606846976 := by grind
  rw [h60] at hC
  obtain ⟨f, n⟩ := fadd_nearX x3 y3 (by grind) (by grind)
  obtain ⟨n1, n2⟩ := n 0 (by grind) (by grind)
  rw [Rat.zero_mul] at n1 n2
  obtain ⟨s1, s2⟩ := fsqrt_val0 f (by grind)
  refine (flt_val s1 (by decide +kernel)).2 ?_
  have v := val_ge (c := 4472074429978902528) (a := 1) (b := 1073741824) (by decide +kernel)
  have e1 : ((1 : Nat) : Rat) = 1 := rfl
  have e2 : ((1073741824 : Nat) : Rat) = 1073741824 := rfl
  rw [e1, e2] at v
  rw [s2]
  grind
end Go.Ev.Clip
