/-
  The layer's answers and the document's are the same, and the law on segments answers true; for all floats.
-/
import Derived.Test.YtbehddngdjfkhaaClipV
open Go Go.Proofs
namespace Go.Ev.Clip
open Ieee
/-! What the two agree on. -/
theorem rg_rg (x : Nat) : rg double (rg double x) = rg double x := Nat.mod_mod _ _
theorem rg_lt (x : Nat) : rg double x < double.signWeight := Nat.mod_lt _ (by decide)
theorem neg_rg (x : Nat) : neg .f64 (rg double x) = false := by
  unfold neg sgn
  have h := rg_lt x
  rw [show FloatKind.f64.format.signWeight = double.signWeight from rfl]
  unfold rg at *
  simp [Nat.div_eq_of_lt h]
theorem isNan_rg (x : Nat) : isNan .f64 (rg double x) = isNan .f64 x := by
  rw [isNan_eq, isNan_eq]
  show decide (_ < rg double (rg double x)) = _
  rw [rg_rg]; rfl
theorem fabs_nan (x : Nat) : isNan .f64 (fabs x) = isNan .f64 x := by unfold fabs; rw [isNan_canon, isNan_rg]
theorem fabs_wrt {x : Nat} (h : isNan .f64 x = false) : wrt .f64 (fabs x) = rg double x := by
  unfold fabs
  rw [canon_of_not (by rw [isNan_rg]; exact h), wrt_eq, neg_rg]
  show ((rg double (rg double x) : Nat) : Int) = _
  rw [rg_rg]
theorem nw_eq {a m m' : Nat} (hm : isNan .f64 m = false) (hm' : isNan .f64 m' = false) (hw : wrt .f64 m' = -wrt .f64 m) (e : fneg .f64 m = m') : nw a m = aw a m := by
  unfold nw aw
  rw [e, fle_eq, fle_eq, fle_eq, fabs_nan, hm, hm', hw]
  cases hn : isNan .f64 a
  · rw [fabs_wrt hn]
    have h1 : wrt .f64 a = if neg .f64 a then -(rg double a : Int) else rg double a := wrt_eq .f64 a
    rw [h1, Bool.eq_iff_iff]
    simp
    split <;> omega
  · simp
theorem nw_two (a : Nat) : nw a 4611686018427387904 = aw a 4611686018427387904 := nw_eq (m' := 13835058055282163712) (by decide +kernel) (by decide +kernel) (by decide +kernel) (by decide +kernel)
theorem nw_mr (a : Nat) : nw a 4787326403894837248 = aw a 4787326403894837248 := nw_eq (m' := 14010698440749613056) (by decide +kernel) (by decide +kernel) (by decide +kernel) (by decide +kernel)
theorem fge_fle (a b : Nat) : fge .f64 a b = fle .f64 b a := by rw [fge_eq, fle_eq, Bool.and_comm (!isNan .f64 a)]
theorem chk_eq (nx ny pf : Nat) : rchk nx ny pf = chk nx ny pf := by
  unfold chk rchk
  rw [nw_two, nw_two]
  have h : nw pf 4796333603149578240 = (fge .f64 pf 14019705640004354048 && fle .f64 pf 4796333603149578240) := by
    unfold nw
    rw [fge_fle, show fneg .f64 4796333603149578240 = 14019705640004354048 by decide +kernel]
  rw [h]
theorem wth_eq (a b : Nat) : rth a b = wth a b := by unfold rth wth; rw [nw_mr, nw_mr]
theorem ask1_eq (nx ny pf a1 a2 : Nat) : rask1 nx ny pf a1 a2 = ask1 nx ny pf a1 a2 := by
  unfold rask1 ask1 rchkE fst2
  rw [chk_eq, wth_eq]
  cases chk nx ny pf <;> cases wth a1 a2 <;> rfl
theorem ask2_eq (nx ny pf a1 a2 b1 b2 : Nat) : rask2 nx ny pf a1 a2 b1 b2 = ask2 nx ny pf a1 a2 b1 b2 := by
  unfold rask2 ask2 rchkE fst3
  rw [chk_eq, wth_eq, wth_eq]
  cases chk nx ny pf <;> cases wth a1 a2 <;> cases wth b1 b2 <;> rfl
theorem farV_eq (nx ny pf a1 a2 : Nat) : rfarV nx ny pf a1 a2 = farV nx ny pf a1 a2 := by unfold rfarV farV; rw [ask1_eq]
theorem aw_fin {a m : Nat} (h : aw a m = true) (hm : wrt .f64 m < double.infRung) : fin .f64 a = true ∧ (rg double a : Int) ≤ wrt .f64 m := by
  unfold aw at h
  rw [fle_eq, fabs_nan] at h
  simp at h
  obtain ⟨⟨h1, _⟩, h2⟩ := h
  rw [fabs_wrt h1] at h2
  refine ⟨?_, h2⟩
  unfold fin
  show decide (rg double a < double.infRung) = true
  rw [decide_eq_true_eq]; omega
theorem bey_num {nx ny pf a1 a2 : Nat} (hc : chk nx ny pf = true) (hw : wth a1 a2 = true) : isNan .f64 (bey nx ny pf a1 a2) = false := by
  rw [← chk_eq] at hc
  rw [← wth_eq] at hw
  unfold rchk at hc
  unfold rth at hw
  simp only [Bool.and_eq_true] at hc hw
  obtain ⟨⟨⟨⟨c1, c2⟩, _⟩, _⟩, c3, c4⟩ := hc
  have hm2 : wrt .f64 4611686018427387904 = 4611686018427387904 := by decide +kernel
  have hmr : wrt .f64 4787326403894837248 = 4787326403894837248 := by decide +kernel
  obtain ⟨x1, x2⟩ := aw_fin c1 (by decide +kernel)
  obtain ⟨y1, y2⟩ := aw_fin c2 (by decide +kernel)
  obtain ⟨u1, u2⟩ := aw_fin hw.1 (by decide +kernel)
  obtain ⟨v1, v2⟩ := aw_fin hw.2 (by decide +kernel)
  rw [hm2] at x2 y2
  rw [hmr] at u2 v2
  have p1 : fin .f64 (fmul .f64 nx a1) = true := fmul_fin (rx := 4611686018427387904) (ry := 4787326403894837248) x1 u1 (by omega) (by omega) (by decide +kernel)
  have p2 : fin .f64 (fmul .f64 ny a2) = true := fmul_fin (rx := 4611686018427387904) (ry := 4787326403894837248) y1 v1 (by omega) (by omega) (by decide +kernel)
  have hd : isNan .f64 (dot nx ny a1 a2) = false := fadd_num (fin_not_nan p1) p2
  have hp : fin .f64 pf = true := by
    rw [fge_fle, fle_eq] at c3
    rw [fle_eq] at c4
    simp at c3 c4
    have q1 : wrt .f64 4796333603149578240 = 4796333603149578240 := by decide +kernel
    have q2 : wrt .f64 14019705640004354048 = -4796333603149578240 := by decide +kernel
    rw [q2] at c3
    rw [q1] at c4
    unfold fin
    show decide (rg double pf < double.infRung) = true
    rw [decide_eq_true_eq, ir_double]
    have h1 : wrt .f64 pf = if neg .f64 pf then -(rg double pf : Int) else rg double pf := wrt_eq .f64 pf
    rw [h1] at c3 c4
    cases hg : neg .f64 pf <;> simp [hg] at c3 c4 <;> omega
  exact fsub_num hd hp
theorem gt_le {x : Nat} (h : isNan .f64 x = false) : fgt .f64 x 0 = !fle .f64 x 0 := by
  rw [fgt_eq, fle_eq, h, show isNan .f64 0 = false by decide +kernel, Bool.eq_iff_iff]
  simp

theorem t3 (nx ny pf a1 a2 b1 b2 : Nat) : CM Try.prog 3 [.agg [.f .f64 nx, .f .f64 ny, .f .f64 pf], .agg [.f .f64 a1, .f .f64 a2], .agg [.f .f64 b1, .f .f64 b2]] (.b true) [] true := by
  have e1 := ask2_eq nx ny pf a1 a2 b1 b2
  have e2 := farV_eq nx ny pf a1 a2
  have e3 := ask1_eq nx ny pf a1 a2
  have e4 := chk_eq nx ny pf
  cases hk : (ask2 nx ny pf a1 a2 b1 b2 != 0)
  · have hk' : (rask2 nx ny pf a1 a2 b1 b2 != 0) = false := by rw [e1]; exact hk
    have hc : chk nx ny pf = true := by
      cases h : chk nx ny pf
      · unfold ask2 at hk; rw [h] at hk; simp at hk
      · rfl
    have ha : wth a1 a2 = true := by
      cases h : wth a1 a2
      · unfold ask2 at hk; rw [h, hc] at hk; simp at hk
      · rfl
    have hb : wth b1 b2 = true := by
      cases h : wth b1 b2
      · unfold ask2 at hk; rw [h, hc, ha] at hk; simp at hk
      · rfl
    have ga := gt_le (bey_num hc ha)
    have gb := gt_le (bey_num hc hb)
    cases hu : fgt .f64 (bey nx ny pf a1 a2) 0 <;> cases hv : fgt .f64 (bey nx ny pf b1 b2) 0
    · exact t3_11 _ _ _ _ _ _ _ hk hu hv hk' (by rw [hu] at ga; simpa using ga) (by rw [hv] at gb; simpa using gb) e1 e2 e3 e4
    · exact t3_10 _ _ _ _ _ _ _ hk hu hv hk' (by rw [hu] at ga; simpa using ga) (by rw [hv] at gb; simpa using gb) e1 e2 e3 e4
    · exact t3_01 _ _ _ _ _ _ _ hk hu hv hk' (by rw [hu] at ga; simpa using ga) (by rw [hv] at gb; simpa using gb) e1 e2 e3 e4
    · exact t3n _ _ _ _ _ _ _ hk hu hv hk' (by rw [hu] at ga; simpa using ga) (by rw [hv] at gb; simpa using gb) e1 e2 e3 e4
  · have hk' : (rask2 nx ny pf a1 a2 b1 b2 != 0) = true := by rw [e1]; exact hk
    exact t3e _ _ _ _ _ _ _ hk hk' e1 e2 e3 e4
end Go.Ev.Clip
