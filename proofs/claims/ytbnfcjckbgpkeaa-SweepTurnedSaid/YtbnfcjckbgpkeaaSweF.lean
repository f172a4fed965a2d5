/-
  The contract of the library's merge where the left part is one; for lists of at most 2^40.
-/
import Derived.Test.YtbnfcjckbgpkeaaSweE
set_option linter.unusedSimpArgs false
set_option linter.unusedVariables false
open Go Go.Proofs
namespace Go.Ev.Sweep
set_option maxRecDepth 100000
set_option maxHeartbeats 1000000
open Go.Ev.So
def bsN (p : Nat → Bool) (x : Nat × Nat) : Nat × Nat := bif p ((x.1 + x.2) / 2) then ((x.1 + x.2) / 2 + 1, x.2) else (x.1, (x.1 + x.2) / 2)
theorem bsN_t {p : Nat → Bool} {i j : Nat} (h : p ((i + j) / 2) = true) : bsN p (i, j) = ((i + j) / 2 + 1, j) := by unfold bsN; dsimp only; rw [h]; rfl
theorem bsN_f {p : Nat → Bool} {i j : Nat} (h : p ((i + j) / 2) = false) : bsN p (i, j) = (i, (i + j) / 2) := by unfold bsN; dsimp only; rw [h]; rfl
structure BsOK (p : Nat → Bool) (i0 j0 : Nat) (x : Nat × Nat) : Prop where
  r : i0 ≤ x.1 ∧ x.1 ≤ x.2 ∧ x.2 ≤ j0
  e : bsF p x.1 x.2 = bsF p i0 j0
theorem BsOK.next {p : Nat → Bool} {i0 j0 i j : Nat} (h : BsOK p i0 j0 (i, j)) (hij : i < j) : BsOK p i0 j0 (bsN p (i, j)) ∧ (bsN p (i, j)).2 - (bsN p (i, j)).1 < j - i := by
  have hr := h.r
  have he := h.e
  dsimp only at hr he
  rw [bsF_eq, if_pos hij] at he
  cases hp : p ((i + j) / 2)
  · rw [bsN_f hp]; rw [hp] at he
    exact ⟨⟨by dsimp only; omega, he⟩, by dsimp only; omega⟩
  · rw [bsN_t hp]; rw [hp] at he
    exact ⟨⟨by dsimp only; omega, he⟩, by dsimp only; omega⟩
theorem BsOK.stop {p : Nat → Bool} {i0 j0 i j : Nat} (h : BsOK p i0 j0 (i, j)) (hij : ¬ i < j) : i = bsF p i0 j0 := by
  have he := h.e
  dsimp only at he
  rw [bsF_eq, if_neg hij] at he
  exact he
noncomputable def fi50 : FnI := ⟨220, Try.f50.body.getD .skip, [], true⟩
theorem fi50_ok : fnGen Try.prog 50 = some fi50 := by kernel_rfl
theorem whalf {a b : Nat} (h : a + b < 4611686018427387904) : IntKind.i64.wrap (ishr IntKind.u64 (IntKind.u64.wrap (IntKind.i64.wrap ((a : Int) + (b : Int)))) (Int.ofNat 1)) = (((a + b) / 2 : Nat) : Int) := by
  rw [wadd h, wrap_u64, Nat.mod_eq_of_lt (by omega)]
  have e1 : ishr IntKind.u64 ((a + b : Nat) : Int) (Int.ofNat 1) = (((a + b) / 2 ^ 1 : Nat) : Int) := shr_nat (a + b) 1 (by omega)
  rw [e1, i64_wrap (by omega) (by omega)]
theorem zHS29_F {cx : Cx} : CallH (genQ Try.prog exts eqs [] S29).P cx (hnd (genQ Try.prog exts eqs [] S29) cx 6) := hnd_sound (genQ_full extsOK eqsOK S29_ok) 6
theorem zES29_F : EnvAll (genQ Try.prog exts eqs [] S29) := (genQ_full extsOK eqsOK S29_ok).toEnvAll
theorem t50A (nn : Nat) (p : Nat → Bx) (n : Nat) (d : Nat → Int) (a m b : Nat) (c0 : n ≤ lim) (c1 : a < m ∧ m < b ∧ b ≤ n) (c2 : Bd nn n d) (c3 : m - a = 1) : CU Try.prog 50 1 n (rowI d) (rowI (fun x => d (upI a (bsF (fun h => lsV p (d h) (d a)) m b - 1) x))) [.i .i64 (a : Int), .i .i64 (m : Int), .i .i64 (b : Int), .fn 29 [] [.rp [.ro 4 nn (fun j => bM (p j))]]] := by
  refine CU.of_genU (exts := exts) (eqs := eqs) (inl := []) (sum := S29) extsOK eqsOK S29_ok fi50_ok rfl (fun _ _ _ hj => flat_I hj) rfl fun cx => ?_
  have c0' : n ≤ 1099511627776 := c0
  have wma : IntKind.i64.wrap ((m : Int) - (a : Int)) = ((m - a : Nat) : Int) := wsub (by omega) (by omega)
  have wbm : IntKind.i64.wrap ((b : Int) - (m : Int)) = ((b - m : Nat) : Int) := wsub (by omega) (by omega)
  refine CodeOK.seq (evC_sound zES29_F (hndU_sound U49_k zHS29_F) ?_)
  repeat' ((fail_if_success (with_reducible refine Side.mk ?_)); first | (refine Rest.mk (drawJ_sound zES29_F mixOK (hndU_sound U49_k zHS29_F) [4,3,2] (by decide +kernel) ?_)) | (refine Rest.mk (drawR_sound zES29_F mixOK (hndU_sound U49_k zHS29_F) ?_)) | ((fail_if_success (with_reducible refine Rest.mk ?_)); first | (with_reducible exact True.intro) | (with_reducible refine Need.mk ?_ ?_) | (with_reducible refine And.intro ?_ ?_) | (with_reducible intro hcl; try (exfalso; (rw [wma, c3] at hcl; exact absurd hcl (by decide)); done)) | ((fail_if_success (with_reducible refine FinS.mk ?_)); (fail_if_success (with_reducible refine Le.mk ?_)); (conv => whnf)) | (refine FinS.b ?_) | (refine FinS.lb ?_) | (refine FinS.i ?_) | (refine FinS.f ?_) | (refine FinS.agg ?_) | (refine FinS.tup ?_)))
  refine loop_ruleD zES29_F (hndU_sound U49_k zHS29_F) (γ := Nat × Nat) (fun x => ⟨[(0, .os 0 1 0 n), (1, .i .i64 (a : Int)), (2, .i .i64 (m : Int)), (3, .i .i64 (b : Int)), (4, .fn 29 [] [.rp [.ro 4 nn (fun j => bM (p j))]]), (10, .i .i64 (x.1 : Int)), (11, .i .i64 (x.2 : Int))], [[(0, .os 0 1 0 n)]], [(0, .rows 1 n (rowI (d)))], 1⟩) (fun x => BsOK (fun h => lsV p (d h) (d a)) m b x) (bsN (fun h => lsV p (d h) (d a))) (fun x => x.2 - x.1) ((m, b)) (Le.of ?_) ?_ ?_
  · conv => whnf
    repeat' ((fail_if_success (with_reducible refine Side.mk ?_)); first | (refine Rest.mk (drawJ_sound zES29_F mixOK (hndU_sound U49_k zHS29_F) [4,3,2] (by decide +kernel) ?_)) | (refine Rest.mk (drawR_sound zES29_F mixOK (hndU_sound U49_k zHS29_F) ?_)) | ((fail_if_success (with_reducible refine Rest.mk ?_)); first | (with_reducible exact True.intro) | (with_reducible refine Need.mk ?_ ?_) | (with_reducible refine And.intro ?_ ?_) | (with_reducible intro _) | ((fail_if_success (with_reducible refine FinS.mk ?_)); (fail_if_success (with_reducible refine Le.mk ?_)); (conv => whnf)) | (refine FinS.b ?_) | (refine FinS.lb ?_) | (refine FinS.i ?_) | (refine FinS.f ?_) | (refine FinS.agg ?_) | (refine FinS.tup ?_)))
    all_goals (try (refine Le.of ?_; (conv => whnf)))
    repeat' ((fail_if_success (with_reducible refine Side.mk ?_)); first | (refine Rest.mk (drawJ_sound zES29_F mixOK (hndU_sound U49_k zHS29_F) [4,3,2] (by decide +kernel) ?_)) | (refine Rest.mk (drawR_sound zES29_F mixOK (hndU_sound U49_k zHS29_F) ?_)) | ((fail_if_success (with_reducible refine Rest.mk ?_)); first | (with_reducible exact True.intro) | (with_reducible refine Need.mk ?_ ?_) | (with_reducible refine And.intro ?_ ?_) | (with_reducible intro _) | ((fail_if_success (with_reducible refine FinS.mk ?_)); (fail_if_success (with_reducible refine Le.mk ?_)); (conv => whnf)) | (refine FinS.b ?_) | (refine FinS.lb ?_) | (refine FinS.i ?_) | (refine FinS.f ?_) | (refine FinS.agg ?_) | (refine FinS.tup ?_)))
    all_goals (try refine Side.mk ?_)
    all_goals (try simp only [eq_self, decide_eq_true_eq, decide_eq_false_iff_not, Int.ofNat_lt, Int.ofNat_le, gt_iff_lt, ge_iff_le, true_and, Bool.not_eq_true', Bool.not_eq_false'] at *)
    all_goals first | (with_reducible rfl) | trivial | omega | rfl | exact fun _ _ => trivial | exact ⟨rfl, rfl⟩ | exact ⟨rfl, fun _ _ => rfl⟩ | exact ⟨rfl, rfl, fun _ _ => rfl⟩ | (exact fun _ _ _ _ => .inr trivial) | (exact ⟨trivial, fun _ _ _ _ => .inr trivial⟩) | (exact ⟨rfl, rfl, fun _ _ _ _ => .inr trivial⟩) | (exact fun i hi j hj => .inr rfl) | (exact ⟨rfl, rfl, fun i hi j hj => .inr rfl⟩) | (exact ⟨trivial, fun i hi j hj => .inr rfl⟩)
  · exact ⟨by dsimp only; omega, rfl⟩
  · intro x hx
    obtain ⟨i, j⟩ := x
    have hr := hx.r
    dsimp only at hr
    have hw : IntKind.i64.wrap (ishr IntKind.u64 (IntKind.u64.wrap (IntKind.i64.wrap ((i : Int) + (j : Int)))) (Int.ofNat 1)) = (((i + j) / 2 : Nat) : Int) := whalf (by omega)
    have hw1 : IntKind.i64.wrap ((((i + j) / 2 : Nat) : Int) + 1) = (((i + j) / 2 + 1 : Nat) : Int) := wadd1 (by omega)
    rcases Nat.lt_or_ge i j with hij | hij
    · have b1 := c2 ((i + j) / 2) (by omega)
      have b2 := c2 a (by omega)
      repeat' ((fail_if_success (with_reducible refine Side.mk ?_)); first | (refine Rest.mk (drawJ_sound zES29_F mixOK (hndU_sound U49_k zHS29_F) [4,3,2] (by decide +kernel) ?_)) | (refine Rest.mk (drawR_sound zES29_F mixOK (hndU_sound U49_k zHS29_F) ?_)) | ((fail_if_success (with_reducible refine Rest.mk ?_)); first | (with_reducible exact True.intro) | (with_reducible refine Need.mk ?_ ?_) | (with_reducible refine And.intro ?_ ?_) | (with_reducible intro hcl; try (exfalso; (simp at hcl; omega); done)) | ((fail_if_success (with_reducible refine FinS.mk ?_)); (fail_if_success (with_reducible refine Le.mk ?_)); (conv => whnf)) | (refine FinS.b ?_) | (refine FinS.lb ?_) | (refine FinS.i ?_) | (refine FinS.f ?_) | (refine FinS.agg ?_) | (refine FinS.tup ?_)))
      all_goals (try (refine Le.of ?_; (conv => whnf)))
      repeat' ((fail_if_success (with_reducible refine Side.mk ?_)); first | (refine Rest.mk (drawJ_sound zES29_F mixOK (hndU_sound U49_k zHS29_F) [4,3,2] (by decide +kernel) ?_)) | (refine Rest.mk (drawR_sound zES29_F mixOK (hndU_sound U49_k zHS29_F) ?_)) | ((fail_if_success (with_reducible refine Rest.mk ?_)); first | (with_reducible exact True.intro) | (with_reducible refine Need.mk ?_ ?_) | (with_reducible refine And.intro ?_ ?_) | (with_reducible intro _) | ((fail_if_success (with_reducible refine FinS.mk ?_)); (fail_if_success (with_reducible refine Le.mk ?_)); (conv => whnf)) | (refine FinS.b ?_) | (refine FinS.lb ?_) | (refine FinS.i ?_) | (refine FinS.f ?_) | (refine FinS.agg ?_) | (refine FinS.tup ?_)))
      all_goals (try refine Side.mk ?_)
      all_goals (try simp only [Int.toNat_natCast, Nat.zero_add, dOf_row, lsV_c, bOf_b, hw, hw1] at *)
      all_goals (try simp only [eq_self, decide_eq_true_eq, decide_eq_false_iff_not, Int.ofNat_lt, Int.ofNat_le, gt_iff_lt, ge_iff_le, true_and, Bool.not_eq_true', Bool.not_eq_false'] at *)
      all_goals first | (with_reducible rfl) | trivial | omega | rfl | exact fun _ _ => trivial | exact ⟨rfl, rfl⟩ | exact ⟨rfl, fun _ _ => rfl⟩ | exact ⟨rfl, rfl, fun _ _ => rfl⟩ | (exact ⟨isBx_b _ _, b1.1, b1.2, b2.1, b2.2⟩) | (exact hx.next hij) | ((rename_i hc; rw [bsN_t (p := fun h => lsV p (d h) (d a)) (i := i) (j := j) hc])) | ((rename_i hc; rw [bsN_f (p := fun h => lsV p (d h) (d a)) (i := i) (j := j) hc])) | (exact fun _ _ _ _ => .inr trivial) | (exact ⟨trivial, fun _ _ _ _ => .inr trivial⟩) | (exact ⟨rfl, rfl, fun _ _ _ _ => .inr trivial⟩) | (exact fun i hi j hj => .inr rfl) | (exact ⟨rfl, rfl, fun i hi j hj => .inr rfl⟩) | (exact ⟨trivial, fun i hi j hj => .inr rfl⟩)
    · have hi := hx.stop (by omega : ¬ i < j)
      have hi1 : IntKind.i64.wrap ((i : Int) - 1) = ((i - 1 : Nat) : Int) := wsub1 (by omega) (by omega)
      repeat' ((fail_if_success (with_reducible refine Side.mk ?_)); first | (refine Rest.mk (drawJ_sound zES29_F mixOK (hndU_sound U49_k zHS29_F) [4,3,2] (by decide +kernel) ?_)) | (refine Rest.mk (drawR_sound zES29_F mixOK (hndU_sound U49_k zHS29_F) ?_)) | ((fail_if_success (with_reducible refine Rest.mk ?_)); first | (with_reducible exact True.intro) | (with_reducible refine Need.mk ?_ ?_) | (with_reducible refine And.intro ?_ ?_) | (with_reducible intro hcl; try (exfalso; (simp at hcl; omega); done)) | ((fail_if_success (with_reducible refine FinS.mk ?_)); (fail_if_success (with_reducible refine Le.mk ?_)); (conv => whnf)) | (refine FinS.b ?_) | (refine FinS.lb ?_) | (refine FinS.i ?_) | (refine FinS.f ?_) | (refine FinS.agg ?_) | (refine FinS.tup ?_)))
      refine loop_ruleD zES29_F (hndU_sound U49_k zHS29_F) (γ := Nat) (fun k => ⟨[(0, .os 0 1 0 n), (1, .i .i64 (a : Int)), (2, .i .i64 (m : Int)), (3, .i .i64 (b : Int)), (4, .fn 29 [] [.rp [.ro 4 nn (fun j => bM (p j))]]), (10, .i .i64 (i : Int)), (13, .i .i64 (k : Int))], [[(0, .os 0 1 0 n)]], [(0, .rows 1 n (rowI (fun z => d (upI a k z))))], 1⟩) (fun k => a ≤ k ∧ k ≤ i - 1) Nat.succ (fun k => i - k) (a) (Le.of ?_) ?_ ?_
      · conv => whnf
        repeat' ((fail_if_success (with_reducible refine Side.mk ?_)); first | (refine Rest.mk (drawJ_sound zES29_F mixOK (hndU_sound U49_k zHS29_F) [4,3,2] (by decide +kernel) ?_)) | (refine Rest.mk (drawR_sound zES29_F mixOK (hndU_sound U49_k zHS29_F) ?_)) | ((fail_if_success (with_reducible refine Rest.mk ?_)); first | (with_reducible exact True.intro) | (with_reducible refine Need.mk ?_ ?_) | (with_reducible refine And.intro ?_ ?_) | (with_reducible intro _) | ((fail_if_success (with_reducible refine FinS.mk ?_)); (fail_if_success (with_reducible refine Le.mk ?_)); (conv => whnf)) | (refine FinS.b ?_) | (refine FinS.lb ?_) | (refine FinS.i ?_) | (refine FinS.f ?_) | (refine FinS.agg ?_) | (refine FinS.tup ?_)))
        all_goals (try (refine Le.of ?_; (conv => whnf)))
        repeat' ((fail_if_success (with_reducible refine Side.mk ?_)); first | (refine Rest.mk (drawJ_sound zES29_F mixOK (hndU_sound U49_k zHS29_F) [4,3,2] (by decide +kernel) ?_)) | (refine Rest.mk (drawR_sound zES29_F mixOK (hndU_sound U49_k zHS29_F) ?_)) | ((fail_if_success (with_reducible refine Rest.mk ?_)); first | (with_reducible exact True.intro) | (with_reducible refine Need.mk ?_ ?_) | (with_reducible refine And.intro ?_ ?_) | (with_reducible intro _) | ((fail_if_success (with_reducible refine FinS.mk ?_)); (fail_if_success (with_reducible refine Le.mk ?_)); (conv => whnf)) | (refine FinS.b ?_) | (refine FinS.lb ?_) | (refine FinS.i ?_) | (refine FinS.f ?_) | (refine FinS.agg ?_) | (refine FinS.tup ?_)))
        all_goals (try refine Side.mk ?_)
        all_goals (try simp only [eq_self, decide_eq_true_eq, decide_eq_false_iff_not, Int.ofNat_lt, Int.ofNat_le, gt_iff_lt, ge_iff_le, true_and, Bool.not_eq_true', Bool.not_eq_false'] at *)
        all_goals first | (with_reducible rfl) | trivial | omega | rfl | exact fun _ _ => trivial | exact ⟨rfl, rfl⟩ | exact ⟨rfl, fun _ _ => rfl⟩ | exact ⟨rfl, rfl, fun _ _ => rfl⟩ | (exact fun _ _ _ _ => .inr trivial) | (exact ⟨trivial, fun _ _ _ _ => .inr trivial⟩) | (exact ⟨rfl, rfl, fun _ _ _ _ => .inr trivial⟩) | (exact fun i hi j hj => .inr (row_eq fun z => by rw [up_0])) | (exact ⟨rfl, rfl, fun i hi j hj => .inr (row_eq fun z => by rw [up_0])⟩) | (exact ⟨trivial, fun i hi j hj => .inr (row_eq fun z => by rw [up_0])⟩)
      · omega
      · intro k hk
        have hk1 : IntKind.i64.wrap ((k : Int) + 1) = ((k + 1 : Nat) : Int) := wadd1 (by omega)
        repeat' ((fail_if_success (with_reducible refine Side.mk ?_)); first | (refine Rest.mk (drawJ_sound zES29_F mixOK (hndU_sound U49_k zHS29_F) [4,3,2] (by decide +kernel) ?_)) | (refine Rest.mk (drawR_sound zES29_F mixOK (hndU_sound U49_k zHS29_F) ?_)) | ((fail_if_success (with_reducible refine Rest.mk ?_)); first | (with_reducible exact True.intro) | (with_reducible refine Need.mk ?_ ?_) | (with_reducible refine And.intro ?_ ?_) | (with_reducible intro _) | ((fail_if_success (with_reducible refine FinS.mk ?_)); (fail_if_success (with_reducible refine Le.mk ?_)); (conv => whnf)) | (refine FinS.b ?_) | (refine FinS.lb ?_) | (refine FinS.i ?_) | (refine FinS.f ?_) | (refine FinS.agg ?_) | (refine FinS.tup ?_)))
        all_goals (try (refine Le.of ?_; (conv => whnf)))
        repeat' ((fail_if_success (with_reducible refine Side.mk ?_)); first | (refine Rest.mk (drawJ_sound zES29_F mixOK (hndU_sound U49_k zHS29_F) [4,3,2] (by decide +kernel) ?_)) | (refine Rest.mk (drawR_sound zES29_F mixOK (hndU_sound U49_k zHS29_F) ?_)) | ((fail_if_success (with_reducible refine Rest.mk ?_)); first | (with_reducible exact True.intro) | (with_reducible refine Need.mk ?_ ?_) | (with_reducible refine And.intro ?_ ?_) | (with_reducible intro _) | ((fail_if_success (with_reducible refine FinS.mk ?_)); (fail_if_success (with_reducible refine Le.mk ?_)); (conv => whnf)) | (refine FinS.b ?_) | (refine FinS.lb ?_) | (refine FinS.i ?_) | (refine FinS.f ?_) | (refine FinS.agg ?_) | (refine FinS.tup ?_)))
        all_goals (try refine Side.mk ?_)
        all_goals (try simp only [Int.toNat_natCast, Nat.zero_add, dOf_row, lsV_c, bOf_b, hi1, hk1, Nat.succ_eq_add_one] at *)
        all_goals (try simp only [eq_self, decide_eq_true_eq, decide_eq_false_iff_not, Int.ofNat_lt, Int.ofNat_le, gt_iff_lt, ge_iff_le, true_and, Bool.not_eq_true', Bool.not_eq_false'] at *)
        all_goals first | (with_reducible rfl) | trivial | omega | rfl | exact fun _ _ => trivial | exact ⟨rfl, rfl⟩ | exact ⟨rfl, fun _ _ => rfl⟩ | exact ⟨rfl, rfl, fun _ _ => rfl⟩ | (exact fun _ _ _ _ => .inr trivial) | (exact ⟨trivial, fun _ _ _ _ => .inr trivial⟩) | (exact ⟨rfl, rfl, fun _ _ _ _ => .inr trivial⟩) | (exact fun q hq z hz => .inr (congrArg (fun l => getM l z) (upd_swp _ (fun z => congrArg d (up_up hk.1 z))))) | (exact ⟨rfl, rfl, fun q hq z hz => .inr (congrArg (fun l => getM l z) (upd_swp _ (fun z => congrArg d (up_up hk.1 z))))⟩) | (exact ⟨trivial, fun q hq z hz => .inr (congrArg (fun l => getM l z) (upd_swp _ (fun z => congrArg d (up_up hk.1 z))))⟩) | (exact ⟨⟨by omega, by omega⟩, by omega⟩) | (exact ⟨rfl, rfl, rfl, fun q hq z hz => row_eq fun z => by rw [← hi, show k = i - 1 by omega]⟩) | (exact ⟨rfl, rfl, fun q hq z hz => row_eq fun z => by rw [← hi, show k = i - 1 by omega]⟩) | (exact fun q hq z hz => row_eq fun z => by rw [← hi, show k = i - 1 by omega])
end Go.Ev.Sweep
