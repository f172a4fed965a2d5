/-
  The contract of the library's swapRange on numbers, in place; for lists of at most 2^40.
-/
import Derived.Test.YtbnfcjckbgpkeaaSweB
import Derived.Test.YtbnfcjckbgpkeaaEvL
set_option linter.unusedSimpArgs false
set_option linter.unusedVariables false
open Go Go.Proofs
namespace Go.Ev.Sweep
set_option maxRecDepth 100000
set_option maxHeartbeats 1000000
open Go.Ev.So
def rowI (d : Nat → Int) : Nat → List MV := fun k => [.i .i64 (d k)]
def intM : MV → Int
  | .i _ x => x
  | _ => 0
def dOf (g : Nat → List MV) (k : Nat) : Int := intM (getM (g k) 0)
theorem dOf_row {d : Nat → Int} : dOf (rowI d) = d := rfl
def isI (n : Nat) (g : Nat → List MV) : Prop := ∀ k, k < n → getM (g k) 0 = .i .i64 (dOf g k)
theorem isI_row (n : Nat) (d : Nat → Int) : isI n (rowI d) := fun _ _ => rfl
theorem flat_I {d : Nat → Int} {i j : Nat} (hj : j < 1) : flatM (getM (rowI d i) j) = true := by
  obtain rfl : j = 0 := by omega
  rfl
theorem le_I {n : Nat} {g : Nat → List MV} (h : isI n g) : ∀ i, i < n → ∀ j, j < 1 → getM (g i) j = getM (rowI (dOf g) i) j := fun i hi j hj => by
  obtain rfl : j = 0 := by omega
  exact h i hi
def lim : Nat := 1099511627776
theorem wadd {a b : Nat} (h : a + b < 4611686018427387904) : IntKind.i64.wrap ((a : Int) + (b : Int)) = ((a + b : Nat) : Int) := by rw [i64_wrap (by omega) (by omega)]; omega
theorem wsub {a b : Nat} (h : b ≤ a) (ha : a < 4611686018427387904) : IntKind.i64.wrap ((a : Int) - (b : Int)) = ((a - b : Nat) : Int) := by rw [i64_wrap (by omega) (by omega)]; omega
theorem wadd1 {a : Nat} (h : a < 4611686018427387904) : IntKind.i64.wrap ((a : Int) + 1) = ((a + 1 : Nat) : Int) := by rw [i64_wrap (by omega) (by omega)]; omega
theorem wsub1 {a : Nat} (h : 0 < a) (ha : a < 4611686018427387904) : IntKind.i64.wrap ((a : Int) - 1) = ((a - 1 : Nat) : Int) := by rw [i64_wrap (by omega) (by omega)]; omega
theorem beq_ff {a b : Nat} (h : a ≠ b) : Nat.beq a b = false := by
  cases e : Nat.beq a b
  · rfl
  · exact absurd (Nat.eq_of_beq_eq_true e) h
theorem upd_swp {d : Nat → Int} {i j k : Nat} (e : Nat → Int) (he : ∀ z, d (swpI i j z) = e z) : updL (Nat.beq k j) (updL (Nat.beq k i) (rowI d k) 0 [.i .i64 (d j)]) 0 [.i .i64 (d i)] = rowI e k := by
  unfold rowI
  rw [← he k]
  unfold swpI
  by_cases h1 : k = j
  · subst h1
    by_cases h2 : k = i
    · subst h2; rw [if_pos rfl, show Nat.beq k k = true by simp]; rfl
    · rw [if_pos rfl, show Nat.beq k k = true by simp, beq_ff h2]; rfl
  · by_cases h2 : k = i
    · subst h2; rw [if_neg h1, if_pos rfl, show Nat.beq k k = true by simp, beq_ff h1]; rfl
    · rw [if_neg h1, if_neg h2, beq_ff h1, beq_ff h2]; rfl
theorem clo_le {nn : Nat} {get : Nat → List MV} (h : isBx nn get) {w : World} {ρ : RhoT} {ok : OkT} {v : Value} (r : Rep w G0 ρ ok (.fn 29 [] [.rp [.ro 4 nn get]]) v) : Rep w G0 ρ ok (.fn 29 [] [.rp [.ro 4 nn fun i => bM (bOf get i)]]) v := by
  cases r with
  | fn _ _ _ vs us hl hm h1 h2 =>
    refine .fn _ _ _ vs us hl hm h1 fun j hj => ?_
    have hj' : j = 0 := by simpa using hj
    subst hj'
    exact rp_ro (leR_bx h) (h2 0 (by simp))
theorem getM_last {l : List MV} {m : MV} : getM (l ++ [m]) l.length = m := by simp [getM]
theorem CU.clo {f : FuncId} {sz n : Nat} {g g' : Nat → List MV} {l : List MV} {nn : Nat} {get : Nat → List MV} (h : isBx nn get) (hc : CU Try.prog f sz n g g' (l ++ [.fn 29 [] [.rp [.ro 4 nn fun i => bM (bOf get i)]]])) : CU Try.prog f sz n g g' (l ++ [.fn 29 [] [.rp [.ro 4 nn get]]]) := by
  refine hc.leA fun w ρ ok v vs r => ⟨by have := r.len; simpa using this, fun j hj => ?_⟩
  have rj := r.rep j (by simpa using hj)
  cases j with
  | zero => exact rj
  | succ j =>
    by_cases e : j < l.length
    · have e1 : ∀ x, getM (.os 0 sz 0 n :: (l ++ [x])) (j + 1) = getM l j := fun x => by simp [getM, List.getD_eq_getElem?_getD, List.getElem?_append_left e]
      rw [e1] at rj ⊢; exact rj
    · have : j = l.length := by simp at hj; omega
      subst this
      have e1 : ∀ x, getM (.os 0 sz 0 n :: (l ++ [x])) (l.length + 1) = x := fun x => getM_last
      rw [e1] at rj ⊢; exact clo_le h rj
noncomputable def fi68 : FnI := ⟨38, Try.f68.body.getD .skip, [], true⟩
theorem fi68_ok : fnGen Try.prog 68 = some fi68 := by kernel_rfl
theorem zHS29_C {cx : Cx} : CallH (genQ Try.prog exts eqs [] S29).P cx (hnd (genQ Try.prog exts eqs [] S29) cx 6) := hnd_sound (genQ_full extsOK eqsOK S29_ok) 6
theorem zES29_C : EnvAll (genQ Try.prog exts eqs [] S29) := (genQ_full extsOK eqsOK S29_ok).toEnvAll
theorem t68 (nn : Nat) (p : Nat → Bx) (n : Nat) (d : Nat → Int) (x y k : Nat) (c0 : n ≤ lim) (c1 : x + k ≤ y ∨ y + k ≤ x) (c2 : x + k ≤ n) (c3 : y + k ≤ n) : CU Try.prog 68 1 n (rowI d) (rowI (fun z => d (swI x y k z))) [.i .i64 (x : Int), .i .i64 (y : Int), .i .i64 (k : Int), .fn 29 [] [.rp [.ro 4 nn (fun j => bM (p j))]]] := by
  refine CU.of_genU (exts := exts) (eqs := eqs) (inl := []) (sum := S29) extsOK eqsOK S29_ok fi68_ok rfl (fun _ _ _ hj => flat_I hj) rfl fun cx => ?_
  refine evC_sound zES29_C (hndU_sound U0_ok zHS29_C) ?_
  have c0' : n ≤ 1099511627776 := c0
  repeat' ((fail_if_success (with_reducible refine Side.mk ?_)); first | (refine Rest.mk (drawJ_sound zES29_C mixOK (hndU_sound U0_ok zHS29_C) [7,6,5,4] (by decide +kernel) ?_)) | (refine Rest.mk (drawR_sound zES29_C mixOK (hndU_sound U0_ok zHS29_C) ?_)) | ((fail_if_success (with_reducible refine Rest.mk ?_)); first | (with_reducible exact True.intro) | (with_reducible refine Need.mk ?_ ?_) | (with_reducible refine And.intro ?_ ?_) | (with_reducible intro _) | ((fail_if_success (with_reducible refine FinS.mk ?_)); (fail_if_success (with_reducible refine Le.mk ?_)); (conv => whnf)) | (refine FinS.b ?_) | (refine FinS.lb ?_) | (refine FinS.i ?_) | (refine FinS.f ?_) | (refine FinS.agg ?_) | (refine FinS.tup ?_)))
  refine loop_ruleD zES29_C (hndU_sound U0_ok zHS29_C) (γ := Nat) (fun i => ⟨[(0, .os 0 1 0 n), (1, .i .i64 (x : Int)), (2, .i .i64 (y : Int)), (3, .i .i64 (k : Int)), (4, .fn 29 [] [.rp [.ro 4 nn (fun j => bM (p j))]]), (10, .i .i64 (i : Int))], [[(0, .os 0 1 0 n)]], [(0, .rows 1 n (rowI (fun z => d (swI x y i z))))], 1⟩) (fun i => i ≤ k) (fun i => i + 1) (fun i => k - i) (0) (Le.of ?_) ?_ ?_
  · conv => whnf
    repeat' ((fail_if_success (with_reducible refine Side.mk ?_)); first | (refine Rest.mk (drawJ_sound zES29_C mixOK (hndU_sound U0_ok zHS29_C) [7,6,5,4] (by decide +kernel) ?_)) | (refine Rest.mk (drawR_sound zES29_C mixOK (hndU_sound U0_ok zHS29_C) ?_)) | ((fail_if_success (with_reducible refine Rest.mk ?_)); first | (with_reducible exact True.intro) | (with_reducible refine Need.mk ?_ ?_) | (with_reducible refine And.intro ?_ ?_) | (with_reducible intro _) | ((fail_if_success (with_reducible refine FinS.mk ?_)); (fail_if_success (with_reducible refine Le.mk ?_)); (conv => whnf)) | (refine FinS.b ?_) | (refine FinS.lb ?_) | (refine FinS.i ?_) | (refine FinS.f ?_) | (refine FinS.agg ?_) | (refine FinS.tup ?_)))
    all_goals (try (refine Le.of ?_; (conv => whnf)))
    repeat' ((fail_if_success (with_reducible refine Side.mk ?_)); first | (refine Rest.mk (drawJ_sound zES29_C mixOK (hndU_sound U0_ok zHS29_C) [7,6,5,4] (by decide +kernel) ?_)) | (refine Rest.mk (drawR_sound zES29_C mixOK (hndU_sound U0_ok zHS29_C) ?_)) | ((fail_if_success (with_reducible refine Rest.mk ?_)); first | (with_reducible exact True.intro) | (with_reducible refine Need.mk ?_ ?_) | (with_reducible refine And.intro ?_ ?_) | (with_reducible intro _) | ((fail_if_success (with_reducible refine FinS.mk ?_)); (fail_if_success (with_reducible refine Le.mk ?_)); (conv => whnf)) | (refine FinS.b ?_) | (refine FinS.lb ?_) | (refine FinS.i ?_) | (refine FinS.f ?_) | (refine FinS.agg ?_) | (refine FinS.tup ?_)))
    all_goals (try refine Side.mk ?_)
    all_goals (try simp only [eq_self, decide_eq_true_eq, decide_eq_false_iff_not, Int.ofNat_lt, Int.ofNat_le, gt_iff_lt, ge_iff_le, true_and, Bool.not_eq_true', Bool.not_eq_false'] at *)
    all_goals first | (with_reducible rfl) | trivial | omega | rfl | exact fun _ _ => trivial | exact ⟨rfl, rfl⟩ | exact ⟨rfl, fun _ _ => rfl⟩ | exact ⟨rfl, rfl, fun _ _ => rfl⟩ | (exact fun _ _ _ _ => .inr trivial) | (exact ⟨trivial, fun _ _ _ _ => .inr trivial⟩) | (exact ⟨rfl, rfl, fun _ _ _ _ => .inr trivial⟩) | (exact fun i hi j hj => .inr (by simp only [rowI, sw_0])) | (exact ⟨rfl, rfl, fun i hi j hj => .inr (by simp only [rowI, sw_0])⟩) | (exact ⟨trivial, fun i hi j hj => .inr (by simp only [rowI, sw_0])⟩)
  · omega
  · intro i hi
    have hx : IntKind.i64.wrap ((x : Int) + (i : Int)) = ((x + i : Nat) : Int) := wadd (by omega)
    have hy : IntKind.i64.wrap ((y : Int) + (i : Int)) = ((y + i : Nat) : Int) := wadd (by omega)
    have h1 : IntKind.i64.wrap ((i : Int) + 1) = ((i + 1 : Nat) : Int) := wadd1 (by omega)
    repeat' ((fail_if_success (with_reducible refine Side.mk ?_)); first | (refine Rest.mk (drawJ_sound zES29_C mixOK (hndU_sound U0_ok zHS29_C) [7,6,5,4] (by decide +kernel) ?_)) | (refine Rest.mk (drawR_sound zES29_C mixOK (hndU_sound U0_ok zHS29_C) ?_)) | ((fail_if_success (with_reducible refine Rest.mk ?_)); first | (with_reducible exact True.intro) | (with_reducible refine Need.mk ?_ ?_) | (with_reducible refine And.intro ?_ ?_) | (with_reducible intro _) | ((fail_if_success (with_reducible refine FinS.mk ?_)); (fail_if_success (with_reducible refine Le.mk ?_)); (conv => whnf)) | (refine FinS.b ?_) | (refine FinS.lb ?_) | (refine FinS.i ?_) | (refine FinS.f ?_) | (refine FinS.agg ?_) | (refine FinS.tup ?_)))
    all_goals (try (refine Le.of ?_; (conv => whnf)))
    repeat' ((fail_if_success (with_reducible refine Side.mk ?_)); first | (refine Rest.mk (drawJ_sound zES29_C mixOK (hndU_sound U0_ok zHS29_C) [7,6,5,4] (by decide +kernel) ?_)) | (refine Rest.mk (drawR_sound zES29_C mixOK (hndU_sound U0_ok zHS29_C) ?_)) | ((fail_if_success (with_reducible refine Rest.mk ?_)); first | (with_reducible exact True.intro) | (with_reducible refine Need.mk ?_ ?_) | (with_reducible refine And.intro ?_ ?_) | (with_reducible intro _) | ((fail_if_success (with_reducible refine FinS.mk ?_)); (fail_if_success (with_reducible refine Le.mk ?_)); (conv => whnf)) | (refine FinS.b ?_) | (refine FinS.lb ?_) | (refine FinS.i ?_) | (refine FinS.f ?_) | (refine FinS.agg ?_) | (refine FinS.tup ?_)))
    all_goals (try refine Side.mk ?_)
    all_goals (try simp only [hx, hy, h1, Int.toNat_natCast, Nat.zero_add] at *)
    all_goals (try simp only [eq_self, decide_eq_true_eq, decide_eq_false_iff_not, Int.ofNat_lt, Int.ofNat_le, gt_iff_lt, ge_iff_le, true_and, Bool.not_eq_true', Bool.not_eq_false'] at *)
    all_goals first | (with_reducible rfl) | trivial | omega | rfl | exact fun _ _ => trivial | exact ⟨rfl, rfl⟩ | exact ⟨rfl, fun _ _ => rfl⟩ | exact ⟨rfl, rfl, fun _ _ => rfl⟩ | (exact fun _ _ _ _ => .inr trivial) | (exact ⟨trivial, fun _ _ _ _ => .inr trivial⟩) | (exact ⟨rfl, rfl, fun _ _ _ _ => .inr trivial⟩) | (exact fun k hk j hj => .inr (congrArg (fun l => getM l j) (upd_swp _ (fun z => congrArg d (sw_up (by omega) z))))) | (exact ⟨rfl, rfl, fun k hk j hj => .inr (congrArg (fun l => getM l j) (upd_swp _ (fun z => congrArg d (sw_up (by omega) z))))⟩) | (exact ⟨trivial, fun k hk j hj => .inr (congrArg (fun l => getM l j) (upd_swp _ (fun z => congrArg d (sw_up (by omega) z))))⟩) | ((rename_i hik; obtain rfl : i = k := (by omega); exact ⟨rfl, rfl, rfl, fun _ _ _ _ => rfl⟩)) | ((rename_i hik; obtain rfl : i = k := (by omega); exact ⟨rfl, rfl, fun _ _ _ _ => rfl⟩)) | ((rename_i hik; obtain rfl : i = k := (by omega); exact fun _ _ _ _ => rfl))
def u68 : UT := fun sz n g rest => match sz, rest with
  | 1, [.i .i64 a, .i .i64 b, .i .i64 c, .fn 29 [] [.rp [.ro 4 nn get]]] => some ([isI n g, isBx nn get, n ≤ lim, 0 ≤ a ∧ 0 ≤ b ∧ 0 ≤ c ∧ (a + c ≤ b ∨ b + c ≤ a) ∧ a + c ≤ n ∧ b + c ≤ n], rowI (fun z => dOf g (swI a.toNat b.toNat c.toNat z)))
  | _, _ => none
theorem U68_ok : UOK Try.prog (uAdd 68 u68 U0) := by
  refine UOK.add U0_ok fun sz n g rest ps g' e hp => ?_
  unfold u68 at e
  split at e
  · cases e
    have h0 := hp _ (.head _)
    have h1 := hp _ (.tail _ (.head _))
    have h2 := hp _ (.tail _ (.tail _ (.head _)))
    have h3 := hp _ (.tail _ (.tail _ (.tail _ (.head _))))
    rename_i a b c nn get
    obtain ⟨a1, a2, a3, a4, a5, a6⟩ := h3
    obtain ⟨x, rfl⟩ := Int.eq_ofNat_of_zero_le a1
    obtain ⟨y, rfl⟩ := Int.eq_ofNat_of_zero_le a2
    obtain ⟨k, rfl⟩ := Int.eq_ofNat_of_zero_le a3
    exact CU.leG (CU.clo (l := [.i .i64 x, .i .i64 y, .i .i64 k]) h1 (t68 nn (bOf get) n (dOf g) x y k h2 (by omega) (by omega) (by omega))) (le_I h0)
  · cases e
noncomputable def U68 := uAdd 68 u68 U0
theorem U68_k : UOK Try.prog U68 := U68_ok
end Go.Ev.Sweep
