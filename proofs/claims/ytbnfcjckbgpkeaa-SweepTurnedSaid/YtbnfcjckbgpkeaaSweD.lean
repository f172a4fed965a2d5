/-
  The contract of the library's rotate; for lists of at most 2^40.
-/
import Derived.Test.YtbnfcjckbgpkeaaSweC
set_option linter.unusedSimpArgs false
set_option linter.unusedVariables false
open Go Go.Proofs
namespace Go.Ev.Sweep
set_option maxRecDepth 100000
set_option maxHeartbeats 1000000
open Go.Ev.So
def rotN (m : Nat) (x : Nat × Nat × (Nat → Int)) : Nat × Nat × (Nat → Int) := if x.2.1 < x.1 then (x.1 - x.2.1, x.2.1, fun z => x.2.2 (swI (m - x.1) m x.2.1 z)) else (x.1, x.2.1 - x.1, fun z => x.2.2 (swI (m - x.1) (m + x.2.1 - x.1) x.1 z))
theorem rotN_gt {m i j : Nat} {e : Nat → Int} (h : j < i) : rotN m (i, j, e) = (i - j, j, fun z => e (swI (m - i) m j z)) := if_pos h
theorem rotN_lt {m i j : Nat} {e : Nat → Int} (h : i < j) : rotN m (i, j, e) = (i, j - i, fun z => e (swI (m - i) (m + j - i) i z)) := if_neg (by show ¬ j < i; omega)
theorem row_eq {e f : Nat → Int} (h : ∀ z, e z = f z) {k j : Nat} : getM (rowI e k) j = getM (rowI f k) j := by rw [show e = f from funext h]
structure RotOK (d : Nat → Int) (a m b n : Nat) (x : Nat × Nat × (Nat → Int)) : Prop where
  p : 0 < x.1 ∧ 0 < x.2.1 ∧ x.1 ≤ m ∧ m + x.2.1 ≤ n
  e : ∀ z, x.2.2 (rotI (m - x.1) m (m + x.2.1) z) = d (rotI a m b z)
theorem RotOK.gt {d e : Nat → Int} {a m b n i j : Nat} (h : RotOK d a m b n (i, j, e)) (hj : j < i) : RotOK d a m b n (i - j, j, fun z => e (swI (m - i) m j z)) := by
  have hp := h.p
  dsimp only at hp
  exact ⟨by dsimp only; omega, fun z => by dsimp only; rw [rot_1 hj hp.2.2.1 hp.2.1]; exact h.e z⟩
theorem RotOK.lt {d e : Nat → Int} {a m b n i j : Nat} (h : RotOK d a m b n (i, j, e)) (hj : i < j) : RotOK d a m b n (i, j - i, fun z => e (swI (m - i) (m + j - i) i z)) := by
  have hp := h.p
  dsimp only at hp
  exact ⟨by dsimp only; omega, fun z => by dsimp only; rw [rot_2 hj hp.2.2.1 hp.1]; exact h.e z⟩
theorem RotOK.fin {d e : Nat → Int} {a m b n i : Nat} (h : RotOK d a m b n (i, i, e)) (z : Nat) : e (swI (m - i) m i z) = d (rotI a m b z) := by
  rw [rot_3 h.p.2.2.1]; exact h.e z
noncomputable def fi55 : FnI := ⟨58, Try.f55.body.getD .skip, [], true⟩
theorem fi55_ok : fnGen Try.prog 55 = some fi55 := by kernel_rfl
theorem zHS29_D {cx : Cx} : CallH (genQ Try.prog exts eqs [] S29).P cx (hnd (genQ Try.prog exts eqs [] S29) cx 6) := hnd_sound (genQ_full extsOK eqsOK S29_ok) 6
theorem zES29_D : EnvAll (genQ Try.prog exts eqs [] S29) := (genQ_full extsOK eqsOK S29_ok).toEnvAll
theorem t55 (nn : Nat) (p : Nat → Bx) (n : Nat) (d : Nat → Int) (a m b : Nat) (c0 : n ≤ lim) (c1 : a < m ∧ m < b ∧ b ≤ n) : CU Try.prog 55 1 n (rowI d) (rowI (fun z => d (rotI a m b z))) [.i .i64 (a : Int), .i .i64 (m : Int), .i .i64 (b : Int), .fn 29 [] [.rp [.ro 4 nn (fun j => bM (p j))]]] := by
  refine CU.of_genU (exts := exts) (eqs := eqs) (inl := []) (sum := S29) extsOK eqsOK S29_ok fi55_ok rfl (fun _ _ _ hj => flat_I hj) rfl fun cx => ?_
  refine evC_sound zES29_D (hndU_sound U68_k zHS29_D) ?_
  have c0' : n ≤ 1099511627776 := c0
  have wma : IntKind.i64.wrap ((m : Int) - (a : Int)) = ((m - a : Nat) : Int) := wsub (by omega) (by omega)
  have wbm : IntKind.i64.wrap ((b : Int) - (m : Int)) = ((b - m : Nat) : Int) := wsub (by omega) (by omega)
  repeat' ((fail_if_success (with_reducible refine Side.mk ?_)); first | ((fail_if_success (with_reducible refine Rest.mk ?_)); first | (with_reducible exact True.intro) | (with_reducible refine Need.mk ?_ ?_) | (with_reducible refine And.intro ?_ ?_) | (with_reducible intro _) | ((fail_if_success (with_reducible refine FinS.mk ?_)); (fail_if_success (with_reducible refine Le.mk ?_)); (conv => whnf)) | (refine FinS.b ?_) | (refine FinS.lb ?_) | (refine FinS.i ?_) | (refine FinS.f ?_) | (refine FinS.agg ?_) | (refine FinS.tup ?_)))
  refine loop_ruleD zES29_D (hndU_sound U68_k zHS29_D) (γ := Nat × Nat × (Nat → Int)) (fun x => ⟨[(0, .os 0 1 0 n), (1, .i .i64 (a : Int)), (2, .i .i64 (m : Int)), (3, .i .i64 (b : Int)), (4, .fn 29 [] [.rp [.ro 4 nn (fun j => bM (p j))]]), (10, .i .i64 (x.1 : Int)), (11, .i .i64 (x.2.1 : Int))], [[(0, .os 0 1 0 n)]], [(0, .rows 1 n (rowI (x.2.2)))], 1⟩) (fun x => RotOK d a m b n x) (rotN m) (fun x => x.1 + x.2.1) ((m - a, b - m, d)) (Le.of ?_) ?_ ?_
  · conv => whnf
    repeat' ((fail_if_success (with_reducible refine Side.mk ?_)); first | ((fail_if_success (with_reducible refine Rest.mk ?_)); first | (with_reducible exact True.intro) | (with_reducible refine Need.mk ?_ ?_) | (with_reducible refine And.intro ?_ ?_) | (with_reducible intro _) | ((fail_if_success (with_reducible refine FinS.mk ?_)); (fail_if_success (with_reducible refine Le.mk ?_)); (conv => whnf)) | (refine FinS.b ?_) | (refine FinS.lb ?_) | (refine FinS.i ?_) | (refine FinS.f ?_) | (refine FinS.agg ?_) | (refine FinS.tup ?_)))
    all_goals (try (refine Le.of ?_; (conv => whnf)))
    repeat' ((fail_if_success (with_reducible refine Side.mk ?_)); first | ((fail_if_success (with_reducible refine Rest.mk ?_)); first | (with_reducible exact True.intro) | (with_reducible refine Need.mk ?_ ?_) | (with_reducible refine And.intro ?_ ?_) | (with_reducible intro _) | ((fail_if_success (with_reducible refine FinS.mk ?_)); (fail_if_success (with_reducible refine Le.mk ?_)); (conv => whnf)) | (refine FinS.b ?_) | (refine FinS.lb ?_) | (refine FinS.i ?_) | (refine FinS.f ?_) | (refine FinS.agg ?_) | (refine FinS.tup ?_)))
    all_goals (try refine Side.mk ?_)
    all_goals (try simp only [eq_self, decide_eq_true_eq, decide_eq_false_iff_not, Int.ofNat_lt, Int.ofNat_le, gt_iff_lt, ge_iff_le, true_and, Bool.not_eq_true', Bool.not_eq_false'] at *)
    all_goals first | (with_reducible exact wma) | (with_reducible exact wbm) | (with_reducible rfl) | trivial | omega | rfl | exact fun _ _ => trivial | exact ⟨rfl, rfl⟩ | exact ⟨rfl, fun _ _ => rfl⟩ | exact ⟨rfl, rfl, fun _ _ => rfl⟩ | (exact fun _ _ _ _ => .inr trivial) | (exact ⟨trivial, fun _ _ _ _ => .inr trivial⟩) | (exact ⟨rfl, rfl, fun _ _ _ _ => .inr trivial⟩) | (exact fun i hi j hj => .inr rfl) | (exact ⟨rfl, rfl, fun i hi j hj => .inr rfl⟩) | (exact ⟨trivial, fun i hi j hj => .inr rfl⟩) | (exact ⟨trivial, wma⟩) | (exact ⟨trivial, wbm⟩)
  · exact ⟨by dsimp only; omega, fun z => by dsimp only; rw [show m - (m - a) = a by omega, show m + (b - m) = b by omega]⟩
  · intro x hx
    obtain ⟨i, j, e⟩ := x
    have hp := hx.p
    dsimp only at hp
    have hmi : IntKind.i64.wrap ((m : Int) - (i : Int)) = ((m - i : Nat) : Int) := wsub (by omega) (by omega)
    have hmj : IntKind.i64.wrap ((m : Int) + (j : Int)) = ((m + j : Nat) : Int) := wadd (by omega)
    have hmji : IntKind.i64.wrap (((m + j : Nat) : Int) - (i : Int)) = ((m + j - i : Nat) : Int) := wsub (by omega) (by omega)
    rcases Nat.lt_trichotomy i j with hij | hij | hij
    · have hji : IntKind.i64.wrap ((j : Int) - (i : Int)) = ((j - i : Nat) : Int) := wsub (by omega) (by omega)
      rw [rotN_lt hij]
      repeat' ((fail_if_success (with_reducible refine Side.mk ?_)); first | ((fail_if_success (with_reducible refine Rest.mk ?_)); first | (with_reducible exact True.intro) | (with_reducible refine Need.mk ?_ ?_) | (with_reducible refine And.intro ?_ ?_) | (with_reducible intro _) | ((fail_if_success (with_reducible refine FinS.mk ?_)); (fail_if_success (with_reducible refine Le.mk ?_)); (conv => whnf)) | (refine FinS.b ?_) | (refine FinS.lb ?_) | (refine FinS.i ?_) | (refine FinS.f ?_) | (refine FinS.agg ?_) | (refine FinS.tup ?_)))
      all_goals (try (refine Le.of ?_; (conv => whnf)))
      repeat' ((fail_if_success (with_reducible refine Side.mk ?_)); first | ((fail_if_success (with_reducible refine Rest.mk ?_)); first | (with_reducible exact True.intro) | (with_reducible refine Need.mk ?_ ?_) | (with_reducible refine And.intro ?_ ?_) | (with_reducible intro _) | ((fail_if_success (with_reducible refine FinS.mk ?_)); (fail_if_success (with_reducible refine Le.mk ?_)); (conv => whnf)) | (refine FinS.b ?_) | (refine FinS.lb ?_) | (refine FinS.i ?_) | (refine FinS.f ?_) | (refine FinS.agg ?_) | (refine FinS.tup ?_)))
      all_goals (try refine Side.mk ?_)
      all_goals (try simp only [hmi, hmj, hmji, Int.toNat_natCast, Nat.zero_add, dOf_row, hji] at *)
      all_goals (try simp only [eq_self, decide_eq_true_eq, decide_eq_false_iff_not, Int.ofNat_lt, Int.ofNat_le, gt_iff_lt, ge_iff_le, true_and, Bool.not_eq_true', Bool.not_eq_false'] at *)
      all_goals first | (with_reducible rfl) | trivial | omega | rfl | exact fun _ _ => trivial | exact ⟨rfl, rfl⟩ | exact ⟨rfl, fun _ _ => rfl⟩ | exact ⟨rfl, rfl, fun _ _ => rfl⟩ | (exact ⟨hx.lt hij, by omega⟩) | (exact ⟨Nat.le_refl _, isI_row _ _, isBx_b _ _, c0, by omega⟩) | (exact fun _ _ _ _ => .inr trivial) | (exact ⟨trivial, fun _ _ _ _ => .inr trivial⟩) | (exact ⟨rfl, rfl, fun _ _ _ _ => .inr trivial⟩) | (exact fun k hk j hj => .inr (row_eq fun z => by simp only [dOf_row])) | (exact ⟨rfl, rfl, fun k hk j hj => .inr (row_eq fun z => by simp only [dOf_row])⟩) | (exact ⟨trivial, fun k hk j hj => .inr (row_eq fun z => by simp only [dOf_row])⟩) | ((exfalso; omega)) | ((exfalso; simp at *; omega))
    · subst hij
      repeat' ((fail_if_success (with_reducible refine Side.mk ?_)); first | ((fail_if_success (with_reducible refine Rest.mk ?_)); first | (with_reducible exact True.intro) | (with_reducible refine Need.mk ?_ ?_) | (with_reducible refine And.intro ?_ ?_) | (with_reducible intro _) | ((fail_if_success (with_reducible refine FinS.mk ?_)); (fail_if_success (with_reducible refine Le.mk ?_)); (conv => whnf)) | (refine FinS.b ?_) | (refine FinS.lb ?_) | (refine FinS.i ?_) | (refine FinS.f ?_) | (refine FinS.agg ?_) | (refine FinS.tup ?_)))
      all_goals (try (refine Le.of ?_; (conv => whnf)))
      repeat' ((fail_if_success (with_reducible refine Side.mk ?_)); first | ((fail_if_success (with_reducible refine Rest.mk ?_)); first | (with_reducible exact True.intro) | (with_reducible refine Need.mk ?_ ?_) | (with_reducible refine And.intro ?_ ?_) | (with_reducible intro _) | ((fail_if_success (with_reducible refine FinS.mk ?_)); (fail_if_success (with_reducible refine Le.mk ?_)); (conv => whnf)) | (refine FinS.b ?_) | (refine FinS.lb ?_) | (refine FinS.i ?_) | (refine FinS.f ?_) | (refine FinS.agg ?_) | (refine FinS.tup ?_)))
      all_goals (try refine Side.mk ?_)
      all_goals (try simp only [hmi, hmj, hmji, Int.toNat_natCast, Nat.zero_add, dOf_row] at *)
      all_goals (try simp only [eq_self, decide_eq_true_eq, decide_eq_false_iff_not, Int.ofNat_lt, Int.ofNat_le, gt_iff_lt, ge_iff_le, true_and, Bool.not_eq_true', Bool.not_eq_false'] at *)
      all_goals first | (with_reducible rfl) | trivial | omega | rfl | exact fun _ _ => trivial | exact ⟨rfl, rfl⟩ | exact ⟨rfl, fun _ _ => rfl⟩ | exact ⟨rfl, rfl, fun _ _ => rfl⟩ | (exact ⟨Nat.le_refl _, isI_row _ _, isBx_b _ _, c0, by omega⟩) | (exact fun k hk j hj => row_eq fun z => hx.fin z) | (exact ⟨rfl, rfl, rfl, fun k hk j hj => row_eq fun z => hx.fin z⟩) | (exact ⟨rfl, rfl, fun k hk j hj => row_eq fun z => hx.fin z⟩) | ((exfalso; omega)) | ((exfalso; simp at *; done))
    · have hij2 : IntKind.i64.wrap ((i : Int) - (j : Int)) = ((i - j : Nat) : Int) := wsub (by omega) (by omega)
      rw [rotN_gt hij]
      repeat' ((fail_if_success (with_reducible refine Side.mk ?_)); first | ((fail_if_success (with_reducible refine Rest.mk ?_)); first | (with_reducible exact True.intro) | (with_reducible refine Need.mk ?_ ?_) | (with_reducible refine And.intro ?_ ?_) | (with_reducible intro _) | ((fail_if_success (with_reducible refine FinS.mk ?_)); (fail_if_success (with_reducible refine Le.mk ?_)); (conv => whnf)) | (refine FinS.b ?_) | (refine FinS.lb ?_) | (refine FinS.i ?_) | (refine FinS.f ?_) | (refine FinS.agg ?_) | (refine FinS.tup ?_)))
      all_goals (try (refine Le.of ?_; (conv => whnf)))
      repeat' ((fail_if_success (with_reducible refine Side.mk ?_)); first | ((fail_if_success (with_reducible refine Rest.mk ?_)); first | (with_reducible exact True.intro) | (with_reducible refine Need.mk ?_ ?_) | (with_reducible refine And.intro ?_ ?_) | (with_reducible intro _) | ((fail_if_success (with_reducible refine FinS.mk ?_)); (fail_if_success (with_reducible refine Le.mk ?_)); (conv => whnf)) | (refine FinS.b ?_) | (refine FinS.lb ?_) | (refine FinS.i ?_) | (refine FinS.f ?_) | (refine FinS.agg ?_) | (refine FinS.tup ?_)))
      all_goals (try refine Side.mk ?_)
      all_goals (try simp only [hmi, hmj, hmji, Int.toNat_natCast, Nat.zero_add, dOf_row, hij2] at *)
      all_goals (try simp only [eq_self, decide_eq_true_eq, decide_eq_false_iff_not, Int.ofNat_lt, Int.ofNat_le, gt_iff_lt, ge_iff_le, true_and, Bool.not_eq_true', Bool.not_eq_false'] at *)
      all_goals first | (with_reducible rfl) | trivial | omega | rfl | exact fun _ _ => trivial | exact ⟨rfl, rfl⟩ | exact ⟨rfl, fun _ _ => rfl⟩ | exact ⟨rfl, rfl, fun _ _ => rfl⟩ | (exact ⟨hx.gt hij, by omega⟩) | (exact ⟨Nat.le_refl _, isI_row _ _, isBx_b _ _, c0, by omega⟩) | (exact fun _ _ _ _ => .inr trivial) | (exact ⟨trivial, fun _ _ _ _ => .inr trivial⟩) | (exact ⟨rfl, rfl, fun _ _ _ _ => .inr trivial⟩) | (exact fun k hk j hj => .inr (row_eq fun z => by simp only [dOf_row])) | (exact ⟨rfl, rfl, fun k hk j hj => .inr (row_eq fun z => by simp only [dOf_row])⟩) | (exact ⟨trivial, fun k hk j hj => .inr (row_eq fun z => by simp only [dOf_row])⟩) | ((exfalso; omega)) | ((exfalso; simp at *; omega))
def u55 : UT := fun sz n g rest => match sz, rest with
  | 1, [.i .i64 a, .i .i64 b, .i .i64 c, .fn 29 [] [.rp [.ro 4 nn get]]] => some ([isI n g, isBx nn get, n ≤ lim, 0 ≤ a ∧ a < b ∧ b < c ∧ c ≤ n], rowI (fun z => dOf g (rotI a.toNat b.toNat c.toNat z)))
  | _, _ => none
theorem U55_ok : UOK Try.prog (uAdd 55 u55 U68) := by
  refine UOK.add U68_k fun sz n g rest ps g' e hp => ?_
  unfold u55 at e
  split at e
  · cases e
    have h0 := hp _ (.head _)
    have h1 := hp _ (.tail _ (.head _))
    have h2 := hp _ (.tail _ (.tail _ (.head _)))
    have h3 := hp _ (.tail _ (.tail _ (.tail _ (.head _))))
    rename_i a b c nn get
    obtain ⟨a1, a2, a3, a4⟩ := h3
    obtain ⟨x, rfl⟩ := Int.eq_ofNat_of_zero_le a1
    obtain ⟨y, rfl⟩ := Int.eq_ofNat_of_zero_le (show 0 ≤ b by omega)
    obtain ⟨k, rfl⟩ := Int.eq_ofNat_of_zero_le (show 0 ≤ c by omega)
    exact CU.leG (CU.clo (l := [.i .i64 x, .i .i64 y, .i .i64 k]) h1 (t55 nn (bOf get) n (dOf g) x y k h2 (by omega))) (le_I h0)
  · cases e
noncomputable def U55 := uAdd 55 u55 U68
theorem U55_k : UOK Try.prog U55 := U55_ok
end Go.Ev.Sweep
