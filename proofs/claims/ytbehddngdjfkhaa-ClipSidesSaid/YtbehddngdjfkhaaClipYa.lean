/-
  The plane of a side: its normal is near to one of length 1, and no point of the polygon lies far beyond it; for all points that Check lets pass.
-/
import Derived.Test.YtbehddngdjfkhaaClipXe
import Derived.Test.YtbehddngdjfkhaaClipKe
import Derived.Test.YtbehddngdjfkhaaEvF
set_option linter.unusedSimpArgs false
set_option linter.unusedVariables false
open Go Go.Proofs
namespace Go.Ev.Clip
open Ieee
set_option maxRecDepth 100000
set_option exponentiation.threshold 4000
theorem len_lower {x y : Nat} (hx : Fl x (2 ^ 44)) (hy : Fl y (2 ^ 44)) (h : flt .f64 (fsqrt (fadd .f64 (fmul .f64 x x) (fmul .f64 y y))) 4472074429978902528 = false) : 1 ≤ (val x * val x + val y * val y) * 4611686018427387904 := by
  have v := val_ge (c := 4472074429978902528) (a := 1) (b := 1073741824) (by decide +kernel)
  have e1 : ((1 : Nat) : Rat) = 1 := rfl
  have e2 : ((1073741824 : Nat) : Rat) = 1073741824 := rfl
  rw [e1, e2] at v
  rcases (Rat.le_total : 1 ≤ (val x * val x + val y * val y) * 4611686018427387904 ∨ (val x * val x + val y * val y) * 4611686018427387904 ≤ 1) with c | c
  · exact c
  exfalso
  have hC := CC_big
  have h60 : (2 : Rat) ^ 60 = 1152921504606846976 := by grind
  rw [h60] at hC
  have hE := EE_pos
  have hE1 := EE_E2
  have hH0 := HH_pos
  have hH3 := HH_E3
  have q1 := sq_nonneg (val x)
  have q2 := sq_nonneg (val y)
  have ns : neg .f64 (fadd .f64 (fmul .f64 x x) (fmul .f64 y y)) = false → 0 ≤ val (fadd .f64 (fmul .f64 x x) (fmul .f64 y y)) := fun hn => by
    have v := val_U (fadd .f64 (fmul .f64 x x) (fmul .f64 y y))
    unfold vI at v
    rw [hn, sg_cast] at v
    have v : val (fadd .f64 (fmul .f64 x x) (fmul .f64 y y)) * UU = ((magOf double (rg double (fadd .f64 (fmul .f64 x x) (fmul .f64 y y))) : Nat) : Rat) := v
    have hM : (0 : Rat) ≤ ((magOf double (rg double (fadd .f64 (fmul .f64 x x) (fmul .f64 y y))) : Nat) : Rat) := Rat.natCast_nonneg
    have := le_of_mul UU_pos (a := -val (fadd .f64 (fmul .f64 x x) (fmul .f64 y y))) (by grind)
    grind
  have n1 := fsq_pos hx.f
  have n2 := fsq_pos hy.f
  obtain ⟨f1, g1⟩ := fmul_near hx.f hx.f (by grind) (by grind)
  obtain ⟨f2, g2⟩ := fmul_near hy.f hy.f (by grind) (by grind)
  have k1 := g1 (val x * val x) Rat.le_refl (by grind)
  have k2 := g2 (val y * val y) Rat.le_refl (by grind)
  have z1 : val x * val x * EE53 ≤ val x * val x * (1 / 1048576) := Rat.mul_le_mul_of_nonneg_left hE1 q1
  have z2 : val y * val y * EE53 ≤ val y * val y * (1 / 1048576) := Rat.mul_le_mul_of_nonneg_left hE1 q2
  generalize fmul .f64 x x = p1 at *
  generalize fmul .f64 y y = p2 at *
  generalize val x * val x = a at *
  generalize val y * val y = b at *
  obtain ⟨f3, g3⟩ := fadd_nearX f1 f2 (by grind) (by grind)
  have k3 := g3 ((a + b) * 2 + 4 * HH) (by grind) (by grind)
  have z3 : ((a + b) * 2 + 4 * HH) * EE53 ≤ ((a + b) * 2 + 4 * HH) * (1 / 1048576) := Rat.mul_le_mul_of_nonneg_left hE1 (by grind)
  have hs : val (fadd .f64 p1 p2) ≤ (a + b) * (17 / 16) + 8 * HH := by grind
  have hn := fadd_pos f1 f2 n1 n2
  have hge := ns hn
  generalize hsd : fadd .f64 p1 p2 = s at *
  have hs2 : val s * 3458764513820540928 ≤ 1 := by grind
  rcases (Rat.le_total : val s ≤ 0 ∨ 0 ≤ val s) with h0 | h0
  · obtain ⟨r1, r2⟩ := fsqrt_val0 f3 (by grind)
    have : flt .f64 (fsqrt s) 4472074429978902528 = true := (flt_val r1 (by decide +kernel)).2 (by rw [r2]; grind)
    rw [this] at h; cases h
  · by_cases h00 : val s = 0
    · obtain ⟨r1, r2⟩ := fsqrt_val0 f3 h00
      have : flt .f64 (fsqrt s) 4472074429978902528 = true := (flt_val r1 (by decide +kernel)).2 (by rw [r2]; grind)
      rw [this] at h; cases h
    · obtain ⟨r1, r2, r3, r4⟩ := fsqrt_near f3 hn (by grind) (by grind)
      have z5 : val s * EE53 ≤ val s * (1 / 1048576) := Rat.mul_le_mul_of_nonneg_left hE1 h0
      have hge2 : ¬ val (fsqrt s) < val 4472074429978902528 := fun c2 => by
        rw [(flt_val r1 (by decide +kernel)).2 c2] at h; cases h
      generalize val (fsqrt s) = r at *
      have h5 : 1 ≤ r * 1073741824 := by grind
      have h6 := Rat.mul_le_mul_of_nonneg_left h5 (show 0 ≤ r * 1073741824 by grind)
      have e5 : r * 1073741824 * (r * 1073741824) = r * r * 1152921504606846976 := by grind
      rw [e5] at h6
      grind
theorem badU_f {x y : Nat} (hf : fin .f64 (lenV x y) = true) (h0 : 0 < val (lenV x y)) : badU x y = false := by
  unfold badU finV
  rw [finite_eq, hf, feq_eq]
  have : decide (wrt .f64 (lenV x y) = wrt .f64 0) = false := by
    refine decide_eq_false fun e => ?_
    have h1 := val_le.2 (Int.le_of_eq e)
    rw [val_0.2] at h1
    grind
  rw [this, Bool.and_false]; rfl
set_option maxHeartbeats 4000000 in
theorem side_ok {n i : Nat} {p : Nat → Nat × Nat} {M : Rat} (hc : checkV n p = 0) (hi : i < n) (hM1 : 1 ≤ M) (hM2 : M ≤ 2 ^ 40) (hp : ∀ k, k < n → Fl (p k).1 M ∧ Fl (p k).2 M) :
    ∃ n1 n2 f : Nat, normV n p i = (n1, n2) ∧ dotV (normV n p i) (p i) = f ∧ chk n1 n2 f = true ∧ Fl n1 (33 / 32) ∧ Fl n2 (33 / 32) ∧ Fl f (9 / 4 * M) ∧ ∀ k, k < n → exc n1 n2 f (p k).1 (p k).2 ≤ 40 * (M * EE53) := by
  obtain ⟨h3, h64, hw, hok⟩ := check_facts hc
  have hE := EE_pos
  have hE1 := EE_E2
  have hH0 := HH_pos
  have hH1 := HH_le
  have hH3 := HH_E3
  have hEe := EE_eq
  have hC := CC_big
  have h60 : (2 : Rat) ^ 60 = 1152921504606846976 := by grind
  have h40 : (2 : Rat) ^ 40 = 1099511627776 := by grind
  have h44 : (2 : Rat) ^ 44 = 17592186044416 := by grind
  rw [h60] at hC
  rw [h40] at hM2
  have hm0 : EE53 ≤ M * EE53 := by have := Rat.mul_le_mul_of_nonneg_right hM1 hE; grind
  have hm1 : M * EE53 ≤ M * (1 / 1048576) := Rat.mul_le_mul_of_nonneg_left hE1 (by grind)
  have hnx : nxt n i < n := Nat.mod_lt _ (by omega)
  -- ways
  have way : ∀ a b, a < n → b < n → fin .f64 (subV (p a) (p b)).1 = true ∧ fin .f64 (subV (p a) (p b)).2 = true ∧ Bd (val (subV (p a) (p b)).1 - (val (p a).1 - val (p b).1)) (2 * (M * EE53)) ∧ Bd (val (subV (p a) (p b)).2 - (val (p a).2 - val (p b).2)) (2 * (M * EE53)) ∧ Bd (val (subV (p a) (p b)).1) (17 / 8 * M) ∧ Bd (val (subV (p a) (p b)).2) (17 / 8 * M) ∧ Can .f64 (subV (p a) (p b)).1 ∧ Can .f64 (subV (p a) (p b)).2 := by
    intro a b ha hb
    obtain ⟨⟨fa1, a1, a2⟩, ⟨fa2, a3, a4⟩⟩ := hp a ha
    obtain ⟨⟨fb1, b1, b2⟩, ⟨fb2, b3, b4⟩⟩ := hp b hb
    obtain ⟨f1, g1⟩ := fsub_nearX fa1 fb1 (by grind) (by grind)
    obtain ⟨f2, g2⟩ := fsub_nearX fa2 fb2 (by grind) (by grind)
    have k1 := g1 (2 * M) (by grind) (by grind)
    have k2 := g2 (2 * M) (by grind) (by grind)
    have e : 2 * M * EE53 = 2 * (M * EE53) := by grind
    rw [e] at k1 k2
    have k1' : Bd (val (fsub .f64 (p a).1 (p b).1) - (val (p a).1 - val (p b).1)) (2 * (M * EE53)) := ⟨k1.1, by have := k1.2; grind⟩
    have k2' : Bd (val (fsub .f64 (p a).2 (p b).2) - (val (p a).2 - val (p b).2)) (2 * (M * EE53)) := ⟨k2.1, by have := k2.2; grind⟩
    refine ⟨f1, f2, k1', k2', ?_, ?_, fsub_can fa1 fb1 f1, fsub_can fa2 fb2 f2⟩
    · show Bd (val (fsub .f64 (p a).1 (p b).1)) _
      constructor <;> grind
    · show Bd (val (fsub .f64 (p a).2 (p b).2)) _
      constructor <;> grind
  obtain ⟨fw1, fw2, dw1, dw2, bw1, bw2, cw1, cw2⟩ := way (nxt n i) i hnx hi
  have hoki := hok i hi
  unfold okI at hoki
  rw [Bool.and_eq_true, Bool.not_eq_true'] at hoki
  obtain ⟨hlen, hcr⟩ := hoki
  have ew : wayV n p i = subV (p (nxt n i)) (p i) := rfl
  rw [ew] at hlen
  generalize hwd : subV (p (nxt n i)) (p i) = w at *
  have lw1 : Fl w.1 (2 ^ 44) := ⟨fw1, by rw [h44]; obtain ⟨x, y⟩ := bw1; constructor <;> grind⟩
  have lw2 : Fl w.2 (2 ^ 44) := ⟨fw2, by rw [h44]; obtain ⟨x, y⟩ := bw2; constructor <;> grind⟩
  have hS := len_lower lw1 lw2 hlen
  obtain ⟨fn1, vn1, cn1⟩ := fneg_val cw1 fw1
  obtain ⟨fn2, vn2, cn2⟩ := fneg_val cw2 fw2
  obtain ⟨fn3, vn3, cn3⟩ := fneg_val cn2 fn2
  have eN : normV n p i = uV (fneg .f64 (fneg .f64 w.2), fneg .f64 w.1) := by unfold normV rV; rw [ew]
  have vR1 : val (fneg .f64 (fneg .f64 w.2)) = val w.2 := by rw [vn3, vn2]; grind
  generalize hR1 : fneg .f64 (fneg .f64 w.2) = R1 at *
  generalize hR2 : fneg .f64 w.1 = R2 at *
  have lR1 : Fl R1 (2 ^ 44) := ⟨fn3, by rw [vR1]; exact lw2.b⟩
  have lR2 : Fl R2 (2 ^ 44) := ⟨fn1, by rw [vn1]; obtain ⟨x, y⟩ := lw1.b; constructor <;> grind⟩
  have eS : val R1 * val R1 + val R2 * val R2 = val w.1 * val w.1 + val w.2 * val w.2 := by rw [vR1, vn1]; grind
  obtain ⟨fr, r0, ⟨rr1, rr2⟩, _⟩ := len_near lR1 lR2 eS hS
  obtain ⟨q1, q2, e1, e2, bq1, bq2, g1, g2, m1, m2, qq, _, hr32⟩ := unit_near lR1 lR2 eS hS rfl
  have er : fsqrt (fadd .f64 (fmul .f64 R1 R1) (fmul .f64 R2 R2)) = lenV R1 R2 := rfl
  rw [er] at fr r0 rr1 rr2 e1 e2 g1 g2 m1 m2 hr32
  have hbad := badU_f fr r0
  have eN2 : normV n p i = (fdiv .f64 R1 (lenV R1 R2), fdiv .f64 R2 (lenV R1 R2)) := by
    rw [eN]; unfold uV; rw [hbad]; rfl
  rw [eN2]
  have k1 := m1 (33 / 32) bq1.1 bq1.2
  have k2 := m2 (33 / 32) bq2.1 bq2.2
  generalize lenV R1 R2 = r at *
  generalize fdiv .f64 R1 r = n1 at *
  generalize fdiv .f64 R2 r = n2 at *
  have dn1 : Bd (val n1 - q1) (9 / 4 * EE53) := by constructor <;> grind
  have dn2 : Bd (val n2 - q2) (9 / 4 * EE53) := by constructor <;> grind
  have bn1 : Bd (val n1) (67 / 64) := by obtain ⟨x, y⟩ := bq1; obtain ⟨x2, y2⟩ := dn1; constructor <;> grind
  have bn2 : Bd (val n2) (67 / 64) := by obtain ⟨x, y⟩ := bq2; obtain ⟨x2, y2⟩ := dn2; constructor <;> grind
  -- the square
  have sq := sqr_err (n1 := n1) (n2 := n2) ⟨g1, bn1.mono (by grind)⟩ ⟨g2, bn2.mono (by grind)⟩
  obtain ⟨sf, s1, s2⟩ := sq
  have d1 := mul_bd dn1 (show Bd (val n1 + q1) (9 / 4) by obtain ⟨x, y⟩ := bq1; obtain ⟨x2, y2⟩ := bn1; constructor <;> grind)
  have d2 := mul_bd dn2 (show Bd (val n2 + q2) (9 / 4) by obtain ⟨x, y⟩ := bq2; obtain ⟨x2, y2⟩ := bn2; constructor <;> grind)
  have ed1 : (val n1 - q1) * (val n1 + q1) = val n1 * val n1 - q1 * q1 := by grind
  have ed2 : (val n2 - q2) * (val n2 + q2) = val n2 * val n2 - q2 * q2 := by grind
  rw [ed1] at d1
  rw [ed2] at d2
  obtain ⟨d11, d12⟩ := d1
  obtain ⟨d21, d22⟩ := d2
  obtain ⟨qq1, qq2⟩ := qq
  have hsq : Bd (val (dot n1 n2 n1 n2) - 1) (50 * EE53) := by
    show Bd (val (fadd .f64 (fmul .f64 n1 n1) (fmul .f64 n2 n2)) - 1) _
    constructor <;> grind
  have hnb : Fl n1 (33 / 32) ∧ Fl n2 (33 / 32) := nrm_bd ⟨g1, bn1.mono (by grind)⟩ ⟨g2, bn2.mono (by grind)⟩ (by
    have := hsq.1
    have e : fadd .f64 (fmul .f64 n1 n1) (fmul .f64 n2 n2) = dot n1 n2 n1 n2 := rfl
    rw [e]; grind)
  -- the far
  obtain ⟨ai1, ai2⟩ := hp i hi
  have mf1 := mul_bd hnb.1.b ai1.b
  have mf2 := mul_bd hnb.2.b ai2.b
  obtain ⟨ff1, gf1⟩ := fmul_near hnb.1.f ai1.f (by have := mf1.1; grind) (by have := mf1.2; grind)
  obtain ⟨ff2, gf2⟩ := fmul_near hnb.2.f ai2.f (by have := mf2.1; grind) (by have := mf2.2; grind)
  have kf1 := gf1 (33 / 32 * M) mf1.1 mf1.2
  have kf2 := gf2 (33 / 32 * M) mf2.1 mf2.2
  have efm : 33 / 32 * M * EE53 = 33 / 32 * (M * EE53) := by grind
  rw [efm] at kf1 kf2
  have efd : dotV (n1, n2) (p i) = fadd .f64 (fmul .f64 n1 (p i).1) (fmul .f64 n2 (p i).2) := rfl
  obtain ⟨mf11, mf12⟩ := mf1
  obtain ⟨mf21, mf22⟩ := mf2
  have key : fin .f64 (dotV (n1, n2) (p i)) = true ∧ Bd (val (dotV (n1, n2) (p i)) - (val n1 * val (p i).1 + val n2 * val (p i).2)) (7 * (M * EE53)) ∧ Bd (val (dotV (n1, n2) (p i))) (9 / 4 * M) := by
    rw [efd]
    generalize fmul .f64 n1 (p i).1 = z1 at *
    generalize fmul .f64 n2 (p i).2 = z2 at *
    generalize val n1 * val (p i).1 = y1 at *
    generalize val n2 * val (p i).2 = y2 at *
    obtain ⟨ff3, gf3⟩ := fadd_nearX ff1 ff2 (by grind) (by grind)
    have kf3 := gf3 (9 / 4 * M) (by grind) (by grind)
    have efm2 : 9 / 4 * M * EE53 = 9 / 4 * (M * EE53) := by grind
    rw [efm2] at kf3
    refine ⟨ff3, ?_, ?_⟩ <;> constructor <;> grind
  obtain ⟨kff, kfd, kfb⟩ := key
  generalize hfd : dotV (n1, n2) (p i) = f at *
  refine ⟨n1, n2, f, rfl, rfl, ?_, hnb.1, hnb.2, ⟨kff, kfb⟩, ?_⟩
  · have v2 := val_ge (c := 4611686018427387904) (a := 2) (b := 1) (by decide +kernel)
    have v42 := val_ge (c := 4796333603149578240) (a := 4398046511104) (b := 1) (by decide +kernel)
    have va := val_bd (c := 4607182418800009216) (a := 1099511627775) (b := 1099511627776) (by decide +kernel)
    have vb := val_ge (c := 4607182418800021504) (a := 1099511627777) (b := 1099511627776) (by decide +kernel)
    have u1 : ((1 : Nat) : Rat) = 1 := rfl
    have u2 : ((2 : Nat) : Rat) = 2 := rfl
    have u3 : ((4398046511104 : Nat) : Rat) = 4398046511104 := rfl
    have u4 : ((1099511627775 : Nat) : Rat) = 1099511627775 := rfl
    have u5 : ((1099511627776 : Nat) : Rat) = 1099511627776 := rfl
    have u6 : ((1099511627777 : Nat) : Rat) = 1099511627777 := rfl
    rw [u1, u2] at v2
    rw [u1, u3] at v42
    rw [u4, u5] at va
    rw [u5, u6] at vb
    unfold chk nw
    rw [nw_of (by decide +kernel) (by decide +kernel) (by decide +kernel) g1 (bn1.mono (by grind)), nw_of (by decide +kernel) (by decide +kernel) (by decide +kernel) g2 (bn2.mono (by grind)), nw_of (by decide +kernel) (by decide +kernel) (by decide +kernel) kff (kfb.mono (by grind))]
    have sf' : fin .f64 (dot n1 n2 n1 n2) = true := sf
    obtain ⟨hs1, hs2⟩ := hsq
    rw [(fge_val sf' (by decide +kernel)).2 (by grind), (fle_val sf' (by decide +kernel)).2 (by grind)]
    rfl
  · intro k hk
    obtain ⟨fd1, fd2, dd1, dd2, bd1, bd2, _⟩ := way k i hk hi
    -- to the left of the side
    have hcross : -((5 * (M * EE53) + EE53) * val r) ≤ val w.1 * val (subV (p k) (p i)).2 - val w.2 * val (subV (p k) (p i)).1 := by
      have hpos : 0 ≤ (5 * (M * EE53) + EE53) * val r := Rat.mul_nonneg (by grind) (by grind)
      by_cases hk1 : k = i
      · subst hk1
        have e0 : feq .f64 (p k).1 (p k).1 = true ∧ feq .f64 (p k).2 (p k).2 = true := by
          rw [feq_eq, feq_eq, fin_not_nan ai1.f, fin_not_nan ai2.f]; simp
        have z1 := (feq_sub0 ai1.f ai1.f e0.1).2
        have z2 := (feq_sub0 ai2.f ai2.f e0.2).2
        have z1 : val (subV (p k) (p k)).1 = 0 := z1
        have z2 : val (subV (p k) (p k)).2 = 0 := z2
        rw [z1, z2]; grind
      by_cases hk2 : k = nxt n i
      · subst hk2
        rw [hwd]; grind
      have hkk : ∃ j, 2 ≤ j ∧ j < n ∧ (i + j) % n = k := by
        rcases Nat.lt_or_ge k i with c | c
        · refine ⟨k + n - i, ?_, by omega, ?_⟩
          · rcases Nat.lt_or_ge (k + n - i) 2 with c2 | c2
            · exfalso
              apply hk2
              unfold nxt
              have : i + 1 = n := by omega
              rw [this, Nat.mod_self]; omega
            · exact c2
          · rw [show i + (k + n - i) = k + n by omega, Nat.add_mod_right, Nat.mod_eq_of_lt hk]
        · refine ⟨k - i, ?_, by omega, ?_⟩
          · rcases Nat.lt_or_ge (k - i) 2 with c2 | c2
            · exfalso
              apply hk2
              unfold nxt
              have : i + 1 = k := by omega
              rw [this, Nat.mod_eq_of_lt hk]
            · exact c2
          · rw [show i + (k - i) = k by omega, Nat.mod_eq_of_lt hk]
      obtain ⟨j, j2, jn, hj⟩ := hkk
      have hc1 := List.all_eq_true.1 hcr j (List.mem_range.2 jn)
      rw [blt_f j2, Bool.false_or, Bool.not_eq_true'] at hc1
      unfold crossK at hc1
      rw [ew, hj] at hc1
      have hW1 : Bd (val w.1) (33 / 32 * val r) := by
        have := mul_bd bq2 (show Bd (val r) (val r) from ⟨Rat.le_refl, by grind⟩)
        rw [e2, vn1] at this
        obtain ⟨x, y⟩ := this
        constructor <;> grind
      have hW2 : Bd (val w.2) (33 / 32 * val r) := by
        have := mul_bd bq1 (show Bd (val r) (val r) from ⟨Rat.le_refl, by grind⟩)
        rw [e1, vR1] at this
        exact this
      have hrC : 33 / 32 * val r * (17 / 8 * M) * 4 ≤ CC := by
        have hCC := CC_100
        have h100 : (2 : Rat) ^ 100 = 1267650600228229401496703205376 := by grind
        rw [h100] at hCC
        have b1 := (mul_bd bw1 bw1).1
        have b2 := (mul_bd bw2 bw2).1
        have hSE : (val w.1 * val w.1 + val w.2 * val w.2) * EE53 ≤ (val w.1 * val w.1 + val w.2 * val w.2) * (1 / 1048576) := Rat.mul_le_mul_of_nonneg_left hE1 (by grind)
        have hr4 : Bd (val r) (4 * M) := sq_le (by grind) (by
          have e : 4 * M * (4 * M) = 16 * (M * M) := by grind
          have e2 : 17 / 8 * M * (17 / 8 * M) = 289 / 64 * (M * M) := by grind
          have mm : 0 ≤ M * M := Rat.mul_nonneg (by grind) (by grind)
          rw [e]
          rw [e2] at b1 b2
          grind)
        have h5 := Rat.mul_le_mul_of_nonneg_right hr4.1 (show 0 ≤ M by grind)
        have h6 := Rat.mul_le_mul_of_nonneg_right hM2 (show 0 ≤ M by grind)
        have e7 : 33 / 32 * val r * (17 / 8 * M) * 4 = 33 / 32 * (17 / 8) * 4 * (val r * M) := by grind
        have e8 : 4 * M * M = 4 * (M * M) := by grind
        rw [e7]
        rw [e8] at h5
        grind
      have hx := cross_ge fw1 fw2 fd1 fd2 hW1 hW2 bd1 bd2 hrC hc1
      have hHr : 2 * HH ≤ EE53 * val r := by
        have h1 := Rat.mul_le_mul_of_nonneg_left hr32 hE
        have e3 : EE53 * (val r * 4294967296) = EE53 * val r * 4294967296 := by grind
        rw [e3] at h1
        grind
      have e4 : 33 / 32 * val r * (17 / 8 * M) * EE53 = 33 / 32 * (17 / 8) * (M * EE53 * val r) := by grind
      rw [e4] at hx
      have e5 : (5 * (M * EE53) + EE53) * val r = 5 * (M * EE53 * val r) + EE53 * val r := by grind
      rw [e5]
      have hz : 0 ≤ M * EE53 * val r := Rat.mul_nonneg (by grind) (by grind)
      grind
    have ha := side_along r0 (show q1 * val r = val w.2 by rw [e1, vR1]) (show q2 * val r = -val w.1 by rw [e2, vn1]) dn1 dn2 bd1 bd2 hcross
    have mm1 := mul_bd hnb.1.b dd1
    have mm2 := mul_bd hnb.2.b dd2
    unfold exc
    have ex1 : val n1 * (val (subV (p k) (p i)).1 - (val (p k).1 - val (p i).1)) = val n1 * val (subV (p k) (p i)).1 - val n1 * val (p k).1 + val n1 * val (p i).1 := by grind
    have ex2 : val n2 * (val (subV (p k) (p i)).2 - (val (p k).2 - val (p i).2)) = val n2 * val (subV (p k) (p i)).2 - val n2 * val (p k).2 + val n2 * val (p i).2 := by grind
    rw [ex1] at mm1
    rw [ex2] at mm2
    have e6 : 17 / 8 * M * EE53 = 17 / 8 * (M * EE53) := by grind
    rw [e6] at ha
    obtain ⟨mm11, mm12⟩ := mm1
    obtain ⟨mm21, mm22⟩ := mm2
    obtain ⟨kfd1, kfd2⟩ := kfd
    grind
end Go.Ev.Clip
