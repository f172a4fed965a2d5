/-
  The library's swapRange on points; for lists of at most 2^40 points.
-/
import Derived.Test.YtoilhalmmghhbaaPolyO
import Derived.Test.YtoilhalmmghhbaaEvL
import Derived.Test.YtoilhalmmghhbaaEvS
set_option linter.unusedSimpArgs false
set_option linter.unusedVariables false
open Go Go.Proofs
namespace Go.Ev.Poly
set_option maxRecDepth 100000
set_option maxHeartbeats 1000000
open Go.Ev.So
def rowP (d : Nat → Nat × Nat) : Nat → List MV := fun k => ptM (d k)
theorem pOf_row {d : Nat → Nat × Nat} : pOf (rowP d) = d := rfl
theorem flat_I {d : Nat → Nat × Nat} {i j : Nat} (hj : j < 2) : flatM (getM (rowP d i) j) = true := flat2 hj
theorem le_I {n : Nat} {g : Nat → List MV} (h : isPts n g) : ∀ i, i < n → ∀ j, j < 2 → getM (g i) j = getM (rowP (pOf g) i) j := fun i hi j hj => by
  have hj : j = 0 ∨ j = 1 := by omega
  rcases hj with rfl | rfl
  · exact (h i hi).1
  · exact (h i hi).2
abbrev Bx := Unit
/-- Ahead, as the hull's function says. -/
def lsV (a b : Nat × Nat) : Bool := decide (ordV a.1 a.2 b.1 b.2 < 0)
theorem lsV_c {a b : Nat × Nat} : decide (ordV a.1 a.2 b.1 b.2 < 0) = lsV a b := rfl
def lim : Nat := 1099511627776
theorem wadd {a b : Nat} (h : a + b < 4611686018427387904) : IntKind.i64.wrap ((a : Int) + (b : Int)) = ((a + b : Nat) : Int) := by rw [i64_wrap (by omega) (by omega)]; omega
theorem wsub {a b : Nat} (h : b ≤ a) (ha : a < 4611686018427387904) : IntKind.i64.wrap ((a : Int) - (b : Int)) = ((a - b : Nat) : Int) := by rw [i64_wrap (by omega) (by omega)]; omega
theorem wadd1 {a : Nat} (h : a < 4611686018427387904) : IntKind.i64.wrap ((a : Int) + 1) = ((a + 1 : Nat) : Int) := by rw [i64_wrap (by omega) (by omega)]; omega
theorem wsub1 {a : Nat} (h : 0 < a) (ha : a < 4611686018427387904) : IntKind.i64.wrap ((a : Int) - 1) = ((a - 1 : Nat) : Int) := by rw [i64_wrap (by omega) (by omega)]; omega
theorem beq_ff {a b : Nat} (h : a ≠ b) : Nat.beq a b = false := by
  cases e : Nat.beq a b
  · rfl
  · exact absurd (Nat.eq_of_beq_eq_true e) h
/-- Two stores that change two elements with each other. -/
theorem upd_swp {d : Nat → Nat × Nat} {i j k : Nat} (e : Nat → Nat × Nat) (he : ∀ z, d (swpI i j z) = e z) : updL (Nat.beq k j) (updL (Nat.beq k i) (rowP d k) 0 [.f .f64 (d j).1, .f .f64 (d j).2]) 0 [.f .f64 (d i).1, .f .f64 (d i).2] = rowP e k := by
  unfold rowP
  rw [← he k]
  unfold swpI
  by_cases h1 : k = j
  · subst h1
    by_cases h2 : k = i
    · subst h2; rw [if_pos rfl, show Nat.beq k k = true by simp]; rfl
    · rw [if_pos rfl, show Nat.beq k k = true by simp, beq_ff h2]; rfl
  · by_cases h2 : k = i
    · subst h2; rw [if_neg h1, if_pos rfl, show Nat.beq k k = true by simp, beq_ff h1]; rfl
    · rw [if_neg h1, if_neg h2, beq_ff h1, beq_ff h2]; rfl
noncomputable def fi105 : FnI := ⟨38, Try.f105.body.getD .skip, [], true⟩
theorem fi105_ok : fnGen Try.prog 105 = some fi105 := by kernel_rfl
theorem zHS17_C {cx : Cx} : CallH (genQ Try.prog exts eqs [] S17).P cx (hnd (genQ Try.prog exts eqs [] S17) cx 6) := hnd_sound (genQ_full extsOK eqsOK S17_ok) 6
theorem zES17_C : EnvAll (genQ Try.prog exts eqs [] S17) := (genQ_full extsOK eqsOK S17_ok).toEnvAll
theorem t105 (nn : Nat) (p : Nat → Bx) (n : Nat) (d : Nat → Nat × Nat) (x y k : Nat) (c0 : n ≤ lim) (c1 : x + k ≤ y ∨ y + k ≤ x) (c2 : x + k ≤ n) (c3 : y + k ≤ n) : CU Try.prog 105 2 n (rowP d) (rowP (fun z => d (swI x y k z))) [.i .i64 (x : Int), .i .i64 (y : Int), .i .i64 (k : Int), .fn 48 [] []] := by
  refine CU.of_genU (exts := exts) (eqs := eqs) (inl := []) (sum := S17) extsOK eqsOK S17_ok fi105_ok rfl (fun _ _ _ hj => flat_I hj) rfl fun cx => ?_
  refine evC_sound zES17_C (hndU_sound U0_ok zHS17_C) ?_
  have c0' : n ≤ 1099511627776 := c0
  repeat' ((fail_if_success (with_reducible refine Side.mk ?_)); first | (refine Rest.mk (drawJ_sound zES17_C mixOK (hndU_sound U0_ok zHS17_C) [7,6,5,4] (by decide +kernel) ?_)) | (refine Rest.mk (drawR_sound zES17_C mixOK (hndU_sound U0_ok zHS17_C) ?_)) | ((fail_if_success (with_reducible refine Rest.mk ?_)); first | (with_reducible exact True.intro) | (with_reducible refine Need.mk ?_ ?_) | (with_reducible refine And.intro ?_ ?_) | (with_reducible intro _) | ((fail_if_success (with_reducible refine FinS.mk ?_)); (fail_if_success (with_reducible refine Le.mk ?_)); (conv => whnf)) | (refine FinS.b ?_) | (refine FinS.lb ?_) | (refine FinS.i ?_) | (refine FinS.f ?_) | (refine FinS.agg ?_) | (refine FinS.tup ?_)))
  refine loop_ruleD zES17_C (hndU_sound U0_ok zHS17_C) (γ := Nat) (fun i => ⟨[(0, .os 0 2 0 n), (1, .i .i64 (x : Int)), (2, .i .i64 (y : Int)), (3, .i .i64 (k : Int)), (4, .fn 48 [] []), (10, .i .i64 (i : Int))], [[(0, .os 0 2 0 n)]], [(0, .rows 2 n (rowP (fun z => d (swI x y i z))))], 1⟩) (fun i => i ≤ k) (fun i => i + 1) (fun i => k - i) (0) (Le.of ?_) ?_ ?_
  · conv => whnf
    repeat' ((fail_if_success (with_reducible refine Side.mk ?_)); first | (refine Rest.mk (drawJ_sound zES17_C mixOK (hndU_sound U0_ok zHS17_C) [7,6,5,4] (by decide +kernel) ?_)) | (refine Rest.mk (drawR_sound zES17_C mixOK (hndU_sound U0_ok zHS17_C) ?_)) | ((fail_if_success (with_reducible refine Rest.mk ?_)); first | (with_reducible exact True.intro) | (with_reducible refine Need.mk ?_ ?_) | (with_reducible refine And.intro ?_ ?_) | (with_reducible intro _) | ((fail_if_success (with_reducible refine FinS.mk ?_)); (fail_if_success (with_reducible refine Le.mk ?_)); (conv => whnf)) | (refine FinS.b ?_) | (refine FinS.lb ?_) | (refine FinS.i ?_) | (refine FinS.f ?_) | (refine FinS.agg ?_) | (refine FinS.tup ?_)))
    all_goals (try (refine Le.of ?_; (conv => whnf)))
    repeat' ((fail_if_success (with_reducible refine Side.mk ?_)); first | (refine Rest.mk (drawJ_sound zES17_C mixOK (hndU_sound U0_ok zHS17_C) [7,6,5,4] (by decide +kernel) ?_)) | (refine Rest.mk (drawR_sound zES17_C mixOK (hndU_sound U0_ok zHS17_C) ?_)) | ((fail_if_success (with_reducible refine Rest.mk ?_)); first | (with_reducible exact True.intro) | (with_reducible refine Need.mk ?_ ?_) | (with_reducible refine And.intro ?_ ?_) | (with_reducible intro _) | ((fail_if_success (with_reducible refine FinS.mk ?_)); (fail_if_success (with_reducible refine Le.mk ?_)); (conv => whnf)) | (refine FinS.b ?_) | (refine FinS.lb ?_) | (refine FinS.i ?_) | (refine FinS.f ?_) | (refine FinS.agg ?_) | (refine FinS.tup ?_)))
    all_goals (try refine Side.mk ?_)
    all_goals (try simp only [eq_self, decide_eq_true_eq, decide_eq_false_iff_not, Int.ofNat_lt, Int.ofNat_le, gt_iff_lt, ge_iff_le, true_and, Bool.not_eq_true', Bool.not_eq_false'] at *)
    all_goals first | (with_reducible rfl) | trivial | omega | rfl | exact fun _ _ => trivial | exact ⟨rfl, rfl⟩ | exact ⟨rfl, fun _ _ => rfl⟩ | exact ⟨rfl, rfl, fun _ _ => rfl⟩ | (exact fun _ _ _ _ => .inr trivial) | (exact ⟨trivial, fun _ _ _ _ => .inr trivial⟩) | (exact ⟨rfl, rfl, fun _ _ _ _ => .inr trivial⟩) | (exact fun i hi j hj => .inr (by simp only [rowP, sw_0])) | (exact ⟨rfl, rfl, fun i hi j hj => .inr (by simp only [rowP, sw_0])⟩) | (exact ⟨trivial, fun i hi j hj => .inr (by simp only [rowP, sw_0])⟩)
  · omega
  · intro i hi
    have hx : IntKind.i64.wrap ((x : Int) + (i : Int)) = ((x + i : Nat) : Int) := wadd (by omega)
    have hy : IntKind.i64.wrap ((y : Int) + (i : Int)) = ((y + i : Nat) : Int) := wadd (by omega)
    have h1 : IntKind.i64.wrap ((i : Int) + 1) = ((i + 1 : Nat) : Int) := wadd1 (by omega)
    repeat' ((fail_if_success (with_reducible refine Side.mk ?_)); first | (refine Rest.mk (drawJ_sound zES17_C mixOK (hndU_sound U0_ok zHS17_C) [7,6,5,4] (by decide +kernel) ?_)) | (refine Rest.mk (drawR_sound zES17_C mixOK (hndU_sound U0_ok zHS17_C) ?_)) | ((fail_if_success (with_reducible refine Rest.mk ?_)); first | (with_reducible exact True.intro) | (with_reducible refine Need.mk ?_ ?_) | (with_reducible refine And.intro ?_ ?_) | (with_reducible intro _) | ((fail_if_success (with_reducible refine FinS.mk ?_)); (fail_if_success (with_reducible refine Le.mk ?_)); (conv => whnf)) | (refine FinS.b ?_) | (refine FinS.lb ?_) | (refine FinS.i ?_) | (refine FinS.f ?_) | (refine FinS.agg ?_) | (refine FinS.tup ?_)))
    all_goals (try (refine Le.of ?_; (conv => whnf)))
    repeat' ((fail_if_success (with_reducible refine Side.mk ?_)); first | (refine Rest.mk (drawJ_sound zES17_C mixOK (hndU_sound U0_ok zHS17_C) [7,6,5,4] (by decide +kernel) ?_)) | (refine Rest.mk (drawR_sound zES17_C mixOK (hndU_sound U0_ok zHS17_C) ?_)) | ((fail_if_success (with_reducible refine Rest.mk ?_)); first | (with_reducible exact True.intro) | (with_reducible refine Need.mk ?_ ?_) | (with_reducible refine And.intro ?_ ?_) | (with_reducible intro _) | ((fail_if_success (with_reducible refine FinS.mk ?_)); (fail_if_success (with_reducible refine Le.mk ?_)); (conv => whnf)) | (refine FinS.b ?_) | (refine FinS.lb ?_) | (refine FinS.i ?_) | (refine FinS.f ?_) | (refine FinS.agg ?_) | (refine FinS.tup ?_)))
    all_goals (try refine Side.mk ?_)
    all_goals (try simp only [hx, hy, h1, Int.toNat_natCast, Nat.zero_add] at *)
    all_goals (try simp only [eq_self, decide_eq_true_eq, decide_eq_false_iff_not, Int.ofNat_lt, Int.ofNat_le, gt_iff_lt, ge_iff_le, true_and, Bool.not_eq_true', Bool.not_eq_false'] at *)
    all_goals first | (with_reducible rfl) | trivial | omega | rfl | exact fun _ _ => trivial | exact ⟨rfl, rfl⟩ | exact ⟨rfl, fun _ _ => rfl⟩ | exact ⟨rfl, rfl, fun _ _ => rfl⟩ | (exact fun _ _ _ _ => .inr trivial) | (exact ⟨trivial, fun _ _ _ _ => .inr trivial⟩) | (exact ⟨rfl, rfl, fun _ _ _ _ => .inr trivial⟩) | (exact fun k hk j hj => .inr (congrArg (fun l => getM l j) (upd_swp _ (fun z => congrArg d (sw_up (by omega) z))))) | (exact ⟨rfl, rfl, fun k hk j hj => .inr (congrArg (fun l => getM l j) (upd_swp _ (fun z => congrArg d (sw_up (by omega) z))))⟩) | (exact ⟨trivial, fun k hk j hj => .inr (congrArg (fun l => getM l j) (upd_swp _ (fun z => congrArg d (sw_up (by omega) z))))⟩) | ((rename_i hik; obtain rfl : i = k := (by omega); exact ⟨rfl, rfl, rfl, fun _ _ _ _ => rfl⟩)) | ((rename_i hik; obtain rfl : i = k := (by omega); exact ⟨rfl, rfl, fun _ _ _ _ => rfl⟩)) | ((rename_i hik; obtain rfl : i = k := (by omega); exact fun _ _ _ _ => rfl))
def u105 : UT := fun sz n g rest => match sz, rest with
  | 2, [.i .i64 a, .i .i64 b, .i .i64 c, .fn 48 [] []] => some ([isPts n g, n ≤ lim, 0 ≤ a ∧ 0 ≤ b ∧ 0 ≤ c ∧ (a + c ≤ b ∨ b + c ≤ a) ∧ a + c ≤ n ∧ b + c ≤ n], rowP (fun z => pOf g (swI a.toNat b.toNat c.toNat z)))
  | _, _ => none
theorem U105_ok : UOK Try.prog (uAdd 105 u105 U0) := by
  refine UOK.add U0_ok fun sz n g rest ps g' e hp => ?_
  unfold u105 at e
  split at e
  · cases e
    have h0 := hp _ (.head _)
    have h2 := hp _ (.tail _ (.head _))
    have h3 := hp _ (.tail _ (.tail _ (.head _)))
    rename_i a b c
    obtain ⟨a1, a2, a3, a4, a5, a6⟩ := h3
    obtain ⟨x, rfl⟩ := Int.eq_ofNat_of_zero_le a1
    obtain ⟨y, rfl⟩ := Int.eq_ofNat_of_zero_le a2
    obtain ⟨k, rfl⟩ := Int.eq_ofNat_of_zero_le a3
    exact CU.leG (t105 0 (fun _ => ()) n (pOf g) x y k h2 (by omega) (by omega) (by omega)) (le_I h0)
  · cases e
noncomputable def U105 := uAdd 105 u105 U0
theorem U105_k : UOK Try.prog U105 := U105_ok
end Go.Ev.Poly
