/-
  The pairs of one list by the order and one by one are the same; for all boxes.
-/
import Derived.Test.YtbnfcjckbgpkeaaSweX
import Derived.Test.YtbnfcjckbgpkeaaEvS
set_option linter.unusedSimpArgs false
set_option linter.unusedVariables false
open Go Go.Proofs
namespace Go.Ev.Sweep
open Go.Ev.So
/-! ## The pairs of one list: by the order, and one by one -/
def oM (q : Nat → Bx) (i j : Nat) : Bool := oV2 (q i) (q j)
def mM (q : Nat → Bx) (i j : Nat) : Bool := mV2 (q i) (q j)
def kM (q : Nat → Bx) (m x y : Nat) : Bool := fgt .f64 (q (oJ q m y)).1 (q (oJ q m x)).2.2.1
theorem ov_sym (a b : Bx) : oV2 a b = oV2 b a := by
  unfold oV2 ovV
  exact Bool.and_comm _ _
theorem oJ_inj {q : Nat → Bx} {m x y : Nat} (hx : x < oC q m) (hy : y < oC q m) (h : oJ q m x = oJ q m y) : x = y := (bt_in q q m m).inj x y hx hy h
theorem pr_in (q : Nat → Bx) (m : Nat) : PrIn m (oC q m) (okB q) (oJ q m) (kM q m) (oM q) (mM q) where
  inj _ _ hx hy h := oJ_inj hx hy h
  sym x y := ov_sym _ _
  lt z hz := ⟨oJ_lt hz, oJ_ok hz⟩
  has j hj hok := by
    obtain ⟨z, hz, ez⟩ := or_has (p := cl m q) hj (by rw [ok_cl hj]; exact hok)
    exact ⟨z, hz, by unfold oJ; omega⟩
  meet i j := m_ok
  brk x z hxz hz ho y h1 h2 := by
    have hx : x < oC q m := by omega
    have hy : y < oC q m := by omega
    obtain ⟨w, e0, e1, e2, e3⟩ := (bt_in q q m m).bwd (oJ q m x) (oJ q m z) (oJ_lt hx) (oJ_ok hx) (oJ_lt hz) (by
      unfold bM2
      rw [m_ok]
      have o1 : (ck (q (oJ q m x)) == 0) = true := oJ_ok hx
      have o2 : (ck (q (oJ q m z)) == 0) = true := oJ_ok hz
      rw [o1, o2]; exact ho)
    obtain rfl : w = z := oJ_inj e0 hz e1
    exact e3 y h2
def pB (q : Nat → Bx) (m x : Nat) : List Pr := pL (oJ q m) (kM q m) (oM q) (oC q m) x
def rP (q : Nat → Bx) (m i : Nat) : List Pr := rL (okB q) (mM q) m i
def pI (q : Nat → Bx) (m x y : Nat) : List Pr := pB q m x ++ gI (pE (oJ q m) x) (pOv (oJ q m) (oM q) x) y
def sI (q : Nat → Bx) (m i y : Nat) : List Pr := rP q m i ++ gI (fun y => ((i : Int), ((i + 1 + y : Nat) : Int))) (fun y => mM q i (i + 1 + y)) y
theorem pI_0 (q : Nat → Bx) (m x : Nat) : pI q m x 0 = pB q m x := List.append_nil _
theorem sI_0 (q : Nat → Bx) (m x : Nat) : sI q m x 0 = rP q m x := List.append_nil _
theorem pI_t {q : Nat → Bx} {m x y : Nat} (h : pOv (oJ q m) (oM q) x y = true) : pI q m x (y + 1) = pI q m x y ++ [pE (oJ q m) x y] := by unfold pI; rw [gI_t h, List.append_assoc]
theorem pI_f {q : Nat → Bx} {m x y : Nat} (h : pOv (oJ q m) (oM q) x y = false) : pI q m x (y + 1) = pI q m x y := by unfold pI; rw [gI_f h]
theorem pI_tl {q : Nat → Bx} {m x y : Nat} (h : pOv (oJ q m) (oM q) x y = true) : (pI q m x y).length + 1 = (pI q m x (y + 1)).length := by rw [pI_t h]; simp
theorem sI_t {q : Nat → Bx} {m x y : Nat} (h : mM q x (x + 1 + y) = true) : sI q m x (y + 1) = sI q m x y ++ [((x : Int), ((x + 1 + y : Nat) : Int))] := by
  unfold sI
  rw [gI_t (ov := fun y => mM q x (x + 1 + y)) h, List.append_assoc]
theorem sI_f {q : Nat → Bx} {m x y : Nat} (h : mM q x (x + 1 + y) = false) : sI q m x (y + 1) = sI q m x y := by
  unfold sI
  rw [gI_f (ov := fun y => mM q x (x + 1 + y)) h]
theorem sI_tl {q : Nat → Bx} {m x y : Nat} (h : mM q x (x + 1 + y) = true) : (sI q m x y).length + 1 = (sI q m x (y + 1)).length := by rw [sI_t h]; simp
theorem sI_end {q : Nat → Bx} {m i : Nat} (h : okB q i = true) : sI q m i (m - (i + 1)) = rP q m (i + 1) := (gL_t h).symm
theorem rP_skip {q : Nat → Bx} {m i : Nat} (h : okB q i = false) : rP q m (i + 1) = rP q m i := gL_f h
theorem pI_end {q : Nat → Bx} {m x y : Nat} (hz : stp (fun y => kM q m x (x + 1 + y)) (oC q m - (x + 1) - y) y = stp (fun y => kM q m x (x + 1 + y)) (oC q m - (x + 1)) 0) (he : y = oC q m - (x + 1) ∨ kM q m x (x + 1 + y) = true) : pI q m x y = pB q m (x + 1) := by
  have e : stp (fun y => kM q m x (x + 1 + y)) (oC q m - (x + 1) - y) y = y := by
    rcases he with e | e
    · rw [e, Nat.sub_self]; rfl
    · exact stp_t (brk := fun y => kM q m x (x + 1 + y)) e
  show _ = gL (fun _ => true) (pE (oJ q m)) (pOv (oJ q m) (oM q)) (pSt (kM q m) (oC q m)) (x + 1)
  rw [gL_t rfl]
  show _ = pB q m x ++ gI (pE (oJ q m) x) (pOv (oJ q m) (oM q) x) (stp (fun y => kM q m x (x + 1 + y)) (oC q m - (x + 1)) 0)
  rw [← hz, e]; rfl
theorem sI_long {q : Nat → Bx} {m i y : Nat} (h : okB q i = true) (hi : i < m) (hy : y ≤ m - (i + 1)) (hl : 65536 < (sI q m i y).length) : 65536 < (rP q m m).length := by
  have h1 : (sI q m i y).length ≤ (sI q m i (m - (i + 1))).length := by
    unfold sI
    rw [List.length_append, List.length_append]
    have := gI_mono (e := fun y => ((i : Int), ((i + 1 + y : Nat) : Int))) (ov := fun y => mM q i (i + 1 + y)) hy
    omega
  rw [sI_end h] at h1
  have h2 : (rP q m (i + 1)).length ≤ (rP q m m).length := gL_mono hi
  omega
theorem pI_long {q : Nat → Bx} {m x y : Nat} (hx : x < oC q m) (hz : stp (fun y => kM q m x (x + 1 + y)) (oC q m - (x + 1) - y) y = stp (fun y => kM q m x (x + 1 + y)) (oC q m - (x + 1)) 0) (hl : 65536 < (pI q m x y).length) : 65536 < (pB q m (oC q m)).length := by
  have hy : y ≤ stp (fun y => kM q m x (x + 1 + y)) (oC q m - (x + 1)) 0 := by rw [← hz]; exact stp_ge _ _ _
  have h1 : (pI q m x y).length ≤ (pB q m (x + 1)).length := by
    show _ ≤ (gL (fun _ => true) (pE (oJ q m)) (pOv (oJ q m) (oM q)) (pSt (kM q m) (oC q m)) (x + 1)).length
    rw [gL_t rfl]
    unfold pI
    rw [List.length_append, List.length_append]
    have := gI_mono (e := pE (oJ q m) x) (ov := pOv (oJ q m) (oM q) x) hy
    exact Nat.add_le_add_left this _
  have h2 : (pB q m (x + 1)).length ≤ (pB q m (oC q m)).length := gL_mono hx
  omega
def pEr (q : Nat → Bx) (n : Nat) : Int := bif decide (16384 < n) then 4 else bif decide (65536 < (pB q n (oC q n)).length) then 4 else 0
def pNr (q : Nat → Bx) (n : Nat) : Nat := bif pEr q n == 0 then (pB q n (oC q n)).length else 0
def sEr (q : Nat → Bx) (n : Nat) : Int := bif decide (16384 < n) then 4 else bif decide (65536 < (rP q n n).length) then 4 else 0
def sNr (q : Nat → Bx) (n : Nat) : Nat := bif sEr q n == 0 then (rP q n n).length else 0
def pG (q : Nat → Bx) (n : Nat) : Nat → Pr := srtV (pB q n (oC q n)).length (gP (pB q n (oC q n)))
theorem pB_perm (q : Nat → Bx) (n : Nat) : (pB q n (oC q n)).Perm (rP q n n) := pr_perm (pr_in q n)
theorem pE_eq (q : Nat → Bx) (n : Nat) : pEr q n = sEr q n := by unfold pEr sEr; rw [(pB_perm q n).length_eq]
theorem pN_eq (q : Nat → Bx) (n : Nat) : pNr q n = sNr q n := by unfold pNr sNr; rw [pE_eq, (pB_perm q n).length_eq]
theorem pN_le (q : Nat → Bx) (n : Nat) : pNr q n ≤ 65536 := by
  unfold pNr pEr
  cases decide (16384 < n)
  · cases h : decide (65536 < (pB q n (oC q n)).length)
    · rw [decide_eq_false_iff_not] at h
      show (pB q n (oC q n)).length ≤ _; omega
    · exact Nat.zero_le _
  · exact Nat.zero_le _
theorem pG_get {q : Nat → Bx} {n k : Nat} (hk : k < pNr q n) : pG q n k = gP (rP q n n) k := by
  have hl : pNr q n ≤ (pB q n (oC q n)).length := by
    unfold pNr
    cases (pEr q n == 0)
    · exact Nat.zero_le _
    · exact Nat.le_refl _
  exact srt_get (pB_perm q n) gL_pair (Nat.lt_of_lt_of_le hk hl)
theorem pE_big {q : Nat → Bx} {n : Nat} (h : 16384 < n) : pEr q n = 4 ∧ pNr q n = 0 := by
  have h1 : pEr q n = 4 := by unfold pEr; rw [decide_eq_true h]; rfl
  exact ⟨h1, by unfold pNr; rw [h1]; rfl⟩
theorem sE_big {q : Nat → Bx} {n : Nat} (h : 16384 < n) : sEr q n = 4 ∧ sNr q n = 0 := by
  have h1 : sEr q n = 4 := by unfold sEr; rw [decide_eq_true h]; rfl
  exact ⟨h1, by unfold sNr; rw [h1]; rfl⟩
theorem pE_long {q : Nat → Bx} {n : Nat} (h : 65536 < (pB q n (oC q n)).length) : pEr q n = 4 ∧ pNr q n = 0 := by
  have h1 : pEr q n = 4 := by unfold pEr; rw [decide_eq_true h]; cases decide (16384 < n) <;> rfl
  exact ⟨h1, by unfold pNr; rw [h1]; rfl⟩
theorem sE_long {q : Nat → Bx} {n : Nat} (h : 65536 < (rP q n n).length) : sEr q n = 4 ∧ sNr q n = 0 := by
  have h1 : sEr q n = 4 := by unfold sEr; rw [decide_eq_true h]; cases decide (16384 < n) <;> rfl
  exact ⟨h1, by unfold sNr; rw [h1]; rfl⟩
theorem pE_ok {q : Nat → Bx} {n : Nat} (hb : ¬ 16384 < n) (h : (pB q n (oC q n)).length ≤ 65536) : pEr q n = 0 ∧ pNr q n = (pB q n (oC q n)).length := by
  have h1 : pEr q n = 0 := by unfold pEr; rw [decide_eq_false hb, decide_eq_false (by omega)]; rfl
  exact ⟨h1, by unfold pNr; rw [h1]; rfl⟩
theorem sE_ok {q : Nat → Bx} {n : Nat} (hb : ¬ 16384 < n) (h : (rP q n n).length ≤ 65536) : sEr q n = 0 ∧ sNr q n = (rP q n n).length := by
  have h1 : sEr q n = 0 := by unfold sEr; rw [decide_eq_false hb, decide_eq_false (by omega)]; rfl
  exact ⟨h1, by unfold sNr; rw [h1]; rfl⟩
end Go.Ev.Sweep
