/-
  The pairs between two lists by the order and one by one are the same; for all boxes.
-/
import Derived.Test.YtbnfcjckbgpkeaaSweQ
set_option linter.unusedSimpArgs false
set_option linter.unusedVariables false
open Go Go.Proofs
namespace Go.Ev.Sweep
open Go.Ev.So
/-! ## Pairs between two lists: by the order, and one by one -/
def oC (q : Nat → Bx) (m : Nat) : Nat := (fL (okB (cl m q)) m).length
def oJ (q : Nat → Bx) (m z : Nat) : Nat := (orV (cl m q) m z).toNat
def bK (p q : Nat → Bx) (m i z : Nat) : Bool := fgt .f64 (q (oJ q m z)).1 (p i).2.2.1
def oV2 (a b : Bx) : Bool := ovV a.1 a.2.1 a.2.2.1 a.2.2.2 b.1 b.2.1 b.2.2.1 b.2.2.2
def mV2 (a b : Bx) : Bool := meetV a.1 a.2.1 a.2.2.1 a.2.2.2 b.1 b.2.1 b.2.2.1 b.2.2.2
def bO (p q : Nat → Bx) (m i z : Nat) : Bool := oV2 (p i) (q (oJ q m z))
def bM2 (p q : Nat → Bx) (i j : Nat) : Bool := mV2 (p i) (q j)
def bB (p q : Nat → Bx) (m n : Nat) : List Pr := btL (okB p) (oJ q m) (bK p q m) (bO p q m) (oC q m) n
def rB (p q : Nat → Bx) (m n : Nat) : List Pr := rbL (okB p) (bM2 p q) m n
theorem or_sd (p : Nat → Bx) (n : Nat) : Sd (TT p) 0 (fL (okB p) n).length (orV p n) := by
  refine stab_sd (ord_box p) fun x y h1 h2 => ?_
  have b1 := fL_bd (q := okB p) (nn := n) n (Nat.le_refl _) x (by omega)
  have b2 := fL_bd (q := okB p) (nn := n) n (Nat.le_refl _) y h2
  exact ⟨b1.2.2, b2.2.2, fL_lt _ _ x y h1 h2⟩
theorem or_ok {p : Nat → Bx} {n z : Nat} (h : z < (fL (okB p) n).length) : 0 ≤ orV p n z ∧ orV p n z < (n : Int) ∧ okB p (orV p n z).toNat = true := by
  obtain ⟨k, _, q2, q3⟩ := (same_stab (lsV p) (fL (okB p) n).length (orD p n)).to z (Nat.zero_le _) h
  have b := fL_bd (q := okB p) (nn := n) n (Nat.le_refl _) k q2
  show 0 ≤ stab (lsV p) _ (orD p n) z ∧ stab (lsV p) _ (orD p n) z < (n : Int) ∧ okB p (stab (lsV p) _ (orD p n) z).toNat = true
  rw [q3]; exact b
theorem or_has {p : Nat → Bx} {n j : Nat} (h : j < n) (hj : okB p j = true) : ∃ z, z < (fL (okB p) n).length ∧ orV p n z = (j : Int) := by
  obtain ⟨k, r1, r2⟩ := fL_has (okB p) n j h hj
  obtain ⟨z, _, s2, s3⟩ := (same_stab (lsV p) (fL (okB p) n).length (orD p n)).of k (Nat.zero_le _) r1
  refine ⟨z, s2, ?_⟩
  show stab (lsV p) _ (orD p n) z = _
  rw [← s3]; exact r2
theorem ok_cl {q : Nat → Bx} {m j : Nat} (h : j < m) : okB (cl m q) j = okB q j := by unfold okB; rw [cl_lo h]
theorem oJ_eq {q : Nat → Bx} {m z : Nat} (h : z < oC q m) : orV (cl m q) m z = ((oJ q m z : Nat) : Int) := by
  have := or_ok h
  unfold oJ; omega
theorem oJ_lt {q : Nat → Bx} {m z : Nat} (h : z < oC q m) : oJ q m z < m := by
  have := or_ok h
  unfold oJ; omega
theorem oJ_ok {q : Nat → Bx} {m z : Nat} (h : z < oC q m) : okB q (oJ q m z) = true := by
  rw [← ok_cl (oJ_lt h)]; exact (or_ok h).2.2
theorem m_ok {a b : Bx} : mV2 a b = ((ck a == 0) && (ck b == 0) && oV2 a b) := by
  unfold mV2 meetV oV2
  rw [rov_eq]; rfl
theorem bt_in (p q : Nat → Bx) (m n : Nat) : BtIn n m (oC q m) (okB p) (oJ q m) (bK p q m) (bO p q m) (bM2 p q) where
  inj x y hx hy h := by
    have ex := oJ_eq hx
    have ey := oJ_eq hy
    rcases Nat.lt_trichotomy x y with c | c | c
    · have t := or_sd (cl m q) m x y (Nat.zero_le _) c hy
      rw [ex, ey, h] at t
      unfold TT at t; omega
    · exact c
    · have t := or_sd (cl m q) m y x (Nat.zero_le _) c hx
      rw [ex, ey, h] at t
      unfold TT at t; omega
  fwd i z hi hok hz ho := by
    refine ⟨oJ_lt hz, ?_⟩
    unfold bM2
    rw [m_ok]
    have h1 : (ck (p i) == 0) = true := hok
    have h2 : (ck (q (oJ q m z)) == 0) = true := oJ_ok hz
    rw [h1, h2]; exact ho
  bwd i j hi hok hj hm := by
    unfold bM2 at hm
    rw [m_ok, Bool.and_eq_true, Bool.and_eq_true] at hm
    obtain ⟨⟨h1, h2⟩, h3⟩ := hm
    obtain ⟨z, hz, ez⟩ := or_has (p := cl m q) hj (by rw [ok_cl hj]; exact h2)
    have eJ : oJ q m z = j := by unfold oJ; omega
    refine ⟨z, hz, eJ, by unfold bO; rw [eJ]; exact h3, fun x hx => ?_⟩
    have hxc : x < oC q m := Nat.lt_of_le_of_lt hx hz
    have kx : kk (cl m q) (orV (cl m q) m x) = wrt .f64 (q (oJ q m x)).1 := by
      unfold kk
      rw [oJ_eq hxc, Int.toNat_natCast, cl_lo (oJ_lt hxc)]
    have kz : kk (cl m q) (orV (cl m q) m z) = wrt .f64 (q j).1 := by
      unfold kk
      rw [oJ_eq hz, Int.toNat_natCast, cl_lo (oJ_lt hz), eJ]
    have hle : wrt .f64 (q (oJ q m x)).1 ≤ wrt .f64 (q j).1 := by
      rcases Nat.lt_or_eq_of_le hx with c | c
      · have t := or_sd (cl m q) m x z (Nat.zero_le _) c hz
        unfold TT at t
        rw [kx, kz] at t; omega
      · subst c; rw [eJ]; exact Int.le_refl _
    unfold oV2 ovV at h3
    rw [Bool.and_eq_true] at h3
    have h4 := h3.2
    unfold belV at h4
    rw [Bool.and_eq_true] at h4
    have h5 := h4.1
    rw [fle_eq] at h5
    simp only [Bool.and_eq_true, decide_eq_true_eq] at h5
    unfold bK
    rw [fgt_eq]
    cases hc : decide (wrt .f64 (p i).2.2.1 < wrt .f64 (q (oJ q m x)).1)
    · simp
    · rw [decide_eq_true_eq] at hc; omega
def big2 (n m : Nat) : Bool := decide (16384 < n) || decide (16384 < m)
def bE (p q : Nat → Bx) (n m : Nat) : Int := bif big2 n m then 4 else bif decide (65536 < (bB p q m n).length) then 4 else 0
def bN (p q : Nat → Bx) (n m : Nat) : Nat := bif bE p q n m == 0 then (bB p q m n).length else 0
def rE (p q : Nat → Bx) (n m : Nat) : Int := bif big2 n m then 4 else bif decide (65536 < (rB p q m n).length) then 4 else 0
def rN (p q : Nat → Bx) (n m : Nat) : Nat := bif rE p q n m == 0 then (rB p q m n).length else 0
def bG (p q : Nat → Bx) (n m : Nat) : Nat → Pr := srtV (bB p q m n).length (gP (bB p q m n))
theorem bB_len (p q : Nat → Bx) (m n : Nat) : (bB p q m n).length = (rB p q m n).length := (bt_perm (bt_in p q m n)).length_eq
theorem bE_eq (p q : Nat → Bx) (n m : Nat) : bE p q n m = rE p q n m := by unfold bE rE; rw [bB_len]
theorem bN_eq (p q : Nat → Bx) (n m : Nat) : bN p q n m = rN p q n m := by unfold bN rN; rw [bE_eq, bB_len]
theorem bG_get {p q : Nat → Bx} {n m k : Nat} (hk : k < bN p q n m) : bG p q n m k = gP (rB p q m n) k := by
  have hl : bN p q n m ≤ (bB p q m n).length := by
    unfold bN
    cases (bE p q n m == 0)
    · exact Nat.zero_le _
    · exact Nat.le_refl _
  exact srt_get (bt_perm (bt_in p q m n)) rb_pair (Nat.lt_of_lt_of_le hk hl)
theorem bE_big {p q : Nat → Bx} {n m : Nat} (h : 16384 < n ∨ 16384 < m) : bE p q n m = 4 ∧ bN p q n m = 0 := by
  have hb : big2 n m = true := by unfold big2; simpa using h
  have h1 : bE p q n m = 4 := by unfold bE; rw [hb]; rfl
  exact ⟨h1, by unfold bN; rw [h1]; rfl⟩
theorem rE_big {p q : Nat → Bx} {n m : Nat} (h : 16384 < n ∨ 16384 < m) : rE p q n m = 4 ∧ rN p q n m = 0 := by
  have hb : big2 n m = true := by unfold big2; simpa using h
  have h1 : rE p q n m = 4 := by unfold rE; rw [hb]; rfl
  exact ⟨h1, by unfold rN; rw [h1]; rfl⟩
theorem small2 {n m : Nat} (h : ¬ (16384 < n ∨ 16384 < m)) : big2 n m = false := by unfold big2; simpa using h
theorem bE_long {p q : Nat → Bx} {n m i : Nat} (hi : i ≤ n) (h : 65536 < (bB p q m i).length) : bE p q n m = 4 ∧ bN p q n m = 0 := by
  have h1 : bE p q n m = 4 := by
    unfold bE
    have h2 : 65536 < (bB p q m n).length := Nat.lt_of_lt_of_le h (bt_mono hi)
    rw [decide_eq_true h2]
    cases big2 n m <;> rfl
  exact ⟨h1, by unfold bN; rw [h1]; rfl⟩
theorem rE_long {p q : Nat → Bx} {n m : Nat} (h : 65536 < (rB p q m n).length) : rE p q n m = 4 ∧ rN p q n m = 0 := by
  have h1 : rE p q n m = 4 := by
    unfold rE
    rw [decide_eq_true h]
    cases big2 n m <;> rfl
  exact ⟨h1, by unfold rN; rw [h1]; rfl⟩
theorem bE_ok {p q : Nat → Bx} {n m : Nat} (hb : ¬ (16384 < n ∨ 16384 < m)) (h : (bB p q m n).length ≤ 65536) : bE p q n m = 0 ∧ bN p q n m = (bB p q m n).length := by
  have h1 : bE p q n m = 0 := by unfold bE; rw [small2 hb, decide_eq_false (by omega)]; rfl
  exact ⟨h1, by unfold bN; rw [h1]; rfl⟩
theorem rE_ok {p q : Nat → Bx} {n m : Nat} (hb : ¬ (16384 < n ∨ 16384 < m)) (h : (rB p q m n).length ≤ 65536) : rE p q n m = 0 ∧ rN p q n m = (rB p q m n).length := by
  have h1 : rE p q n m = 0 := by unfold rE; rw [small2 hb, decide_eq_false (by omega)]; rfl
  exact ⟨h1, by unfold rN; rw [h1]; rfl⟩
theorem app_pr {l : List Pr} {v : Pr} {X : Nat → List MV} {tl : List MV} (hX : X 0 = .i .i64 v.1 :: .i .i64 v.2 :: tl) {k j : Nat} (hk : k < l.length + 1) (hj : j < 2) : getM (appGet l.length (rowI2 (gP l)) X k) j = getM (rowI2 (gP (l ++ [v])) k) j := by
  unfold appGet rowI2 gP
  rw [show k - l.length = 0 by omega, hX]
  have hj : j = 0 ∨ j = 1 := by omega
  rcases Nat.lt_or_eq_of_le (Nat.le_of_lt_succ hk) with e | e
  · rw [show Nat.blt k l.length = true by simpa using e]
    have : (l ++ [v]).getD k (0, 0) = l.getD k (0, 0) := by simp [List.getD_eq_getElem?_getD, List.getElem?_append_left e]
    rw [this]
    rcases hj with rfl | rfl <;> rfl
  · subst e
    have hb : Nat.blt l.length l.length = false := by
      cases h : Nat.blt l.length l.length
      · rfl
      · simp at h
    rw [hb]
    have : (l ++ [v]).getD l.length (0, 0) = v := by simp [List.getD_eq_getElem?_getD]
    rw [this]
    rcases hj with rfl | rfl <;> rfl
end Go.Ev.Sweep
