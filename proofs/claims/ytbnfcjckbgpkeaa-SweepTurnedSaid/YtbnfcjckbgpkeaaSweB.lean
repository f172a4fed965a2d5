/-
  The contract of the order by left ends; for all boxes.
-/
import Derived.Test.YtbnfcjckbgpkeaaSweA
import Derived.Test.YtbnfcjckbgpkeaaEvL
import Derived.Test.YtbnfcjckbgpkeaaEvS
set_option linter.unusedSimpArgs false
set_option linter.unusedVariables false
open Go Go.Proofs
namespace Go.Ev.Sweep
set_option maxRecDepth 100000
set_option maxHeartbeats 1000000
open Go.Ev.So
abbrev Bx := Nat × Nat × Nat × Nat
def bM (v : Bx) : List MV := [.f .f64 v.1, .f .f64 v.2.1, .f .f64 v.2.2.1, .f .f64 v.2.2.2]
def flM : MV → Nat
  | .f _ x => x
  | _ => 0
def bOf (get : Nat → List MV) (i : Nat) : Bx := (flM (getM (get i) 0), flM (getM (get i) 1), flM (getM (get i) 2), flM (getM (get i) 3))
theorem bOf_b {p : Nat → Bx} : bOf (fun j => bM (p j)) = p := rfl
def isBx (n : Nat) (get : Nat → List MV) : Prop := ∀ i, i < n → ∀ j, j < 4 → getM (get i) j = getM (bM (bOf get i)) j
theorem isBx_b (n : Nat) (p : Nat → Bx) : isBx n (fun i => bM (p i)) := fun _ _ _ _ => rfl
theorem leR_bx {n : Nat} {get : Nat → List MV} (h : isBx n get) : leR (.ro 4 n get) (.ro 4 n fun i => bM (bOf get i)) := ⟨rfl, rfl, h⟩
theorem le_arg1 {P : Program} {f : FuncId} {a a' : MV} {r : List MV} {m : MV} {blks : List Blk} {al : Bool} (h : CM P f (a' :: r) m blks al) (ha : leR a a') : CM P f (a :: r) m blks al :=
  h.le fun w ok vs r => ⟨r.len, fun j hj => by
    cases j with
    | zero => exact leR_rep ha (r.rep 0 (by simp))
    | succ j => exact r.rep (j + 1) hj⟩
theorem rp_ro {a a' : MV} (ha : leR a a') {w : World} {ρ : RhoT} {ok : OkT} {v : Value} (r : Rep w G0 ρ ok (.rp [a]) v) : Rep w G0 ρ ok (.rp [a']) v := by
  cases r with
  | rp _ blk off u h1 h2 h3 h4 =>
    refine .rp _ blk off u h1 h2 h3 fun j hj => ?_
    have hj' : j = 0 := by simpa using hj
    subst hj'
    exact leR_rep ha (h4 0 (by simp))
def cmpF (a b : Nat) : Int := bif flt .f64 a b then -1 else bif fgt .f64 a b then 1 else 0
theorem cmpF_lt (a b : Nat) : decide (cmpF a b < 0) = flt .f64 a b := by
  unfold cmpF
  cases flt .f64 a b <;> cases fgt .f64 a b <;> rfl
def lsV (p : Nat → Bx) (x y : Int) : Bool := flt .f64 (p x.toNat).1 (p y.toNat).1
noncomputable def fi29 : FnI := ⟨28, Try.f29.body.getD .skip, [.tmp 5], true⟩
theorem fi29_ok : fnGen Try.prog 29 = some fi29 := by kernel_rfl
theorem t29 (nn : Nat) (p : Nat → Bx) (x y : Nat) (c0 : x < nn) (c1 : y < nn): CM Try.prog 29 [.i .i64 (x : Int), .i .i64 (y : Int), .rp [.ro 4 nn (fun j => bM (p j))]] (.i .i64 (cmpF (p x).1 (p y).1)) [] true := by
  refine CM.of_genQ (exts := exts) (eqs := eqs) (inl := []) (sum := S31) extsOK eqsOK S31_ok fi29_ok 6 rfl fun cx => ?_
  repeat' ((fail_if_success (with_reducible refine Side.mk ?_)); first | (refine Rest.mk (drawR_sound (E := genQ Try.prog exts eqs [] S31) (genQ_full extsOK eqsOK S31_ok).toEnvAll mixOK (hnd_sound (genQ_full extsOK eqsOK S31_ok) 6) ?_)) | ((fail_if_success (with_reducible refine Rest.mk ?_)); first | (with_reducible exact True.intro) | (with_reducible refine Need.mk ?_ ?_) | (with_reducible refine And.intro ?_ ?_) | (with_reducible intro _) | ((fail_if_success (with_reducible refine FinS.mk ?_)); (fail_if_success (with_reducible refine Le.mk ?_)); (conv => whnf)) | (refine FinS.b ?_) | (refine FinS.lb ?_) | (refine FinS.i ?_) | (refine FinS.f ?_) | (refine FinS.agg ?_) | (refine FinS.tup ?_)))
  all_goals (refine Side.mk ?_)
  all_goals first | omega | exact c0 | exact c1 | exact ⟨by omega, by omega⟩ | (rename_i h1; simp only [Int.toNat_natCast] at h1; unfold cmpF; rw [h1]; rfl) | (rename_i h1 h2; simp only [Int.toNat_natCast] at h1 h2; unfold cmpF; rw [h1, h2]; rfl)
noncomputable def g29 : List MV → Option (List Prop × MV × List Blk × Bool)
  | [.i .i64 k, .i .i64 l, .rp [.ro 4 nn get]] => some ([isBx nn get, 0 ≤ k ∧ k < nn ∧ 0 ≤ l ∧ l < nn], .i .i64 (cmpF (bOf get k.toNat).1 (bOf get l.toNat).1), [], false)
  | _ => none
theorem s29 : SumsOK Try.prog (sumOf 29 g29 S31) := by
  refine SumsOK.add S31_ok fun ms ps m blks al e hp => ?_
  unfold g29 at e
  split at e
  · cases e
    obtain ⟨k1, k2, k3, k4⟩ := hp _ (.tail _ (.head _))
    rename_i k l nn get
    obtain ⟨x, rfl⟩ := Int.eq_ofNat_of_zero_le k1
    obtain ⟨y, rfl⟩ := Int.eq_ofNat_of_zero_le k3
    have t := (t29 nn (bOf get) x y (by omega) (by omega)).aloneT rfl
    refine t.le fun w ok vs r => ⟨r.len, fun j hj => ?_⟩
    have hj' : j = 0 ∨ j = 1 ∨ j = 2 := by simp at hj; omega
    rcases hj' with rfl | rfl | rfl
    · exact r.rep 0 (by simp)
    · exact r.rep 1 (by simp)
    · exact rp_ro (leR_bx (hp _ (.head _))) (r.rep 2 (by simp))
  · cases e
noncomputable def S29 := sumOf 29 g29 S31
theorem S29_ok : SumsOK Try.prog S29 := s29
end Go.Ev.Sweep
