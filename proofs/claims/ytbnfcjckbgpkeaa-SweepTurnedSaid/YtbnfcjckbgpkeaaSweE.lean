/-
  The contract of the library's insertion sort; for lists of at most 2^40.
-/
import Derived.Test.YtbnfcjckbgpkeaaSweD
set_option linter.unusedSimpArgs false
set_option linter.unusedVariables false
open Go Go.Proofs
namespace Go.Ev.Sweep
set_option maxRecDepth 100000
set_option maxHeartbeats 1000000
open Go.Ev.So
theorem Same.bd {a b n : Nat} {d e : Nat → Int} (h : Same a b d e) (hb : b ≤ n) {P : Int → Prop} (hd : ∀ k, k < n → P (d k)) : ∀ k, k < n → P (e k) := fun k hk => by
  by_cases c : a ≤ k ∧ k < b
  · obtain ⟨k', q1, q2, q3⟩ := h.to k c.1 c.2
    rw [q3]; exact hd k' (by omega)
  · rw [h.out k c]; exact hd k hk
def Bd (nn n : Nat) (d : Nat → Int) : Prop := ∀ k, k < n → 0 ≤ d k ∧ d k < (nn : Int)
theorem Bd.swp {nn n i j : Nat} {d : Nat → Int} (h : Bd nn n d) (hi : i < n) (hj : j < n) : Bd nn n (swp d i j) := Same.bd (P := fun x => 0 ≤ x ∧ x < (nn : Int)) (same_swp (a := 0) (b := n) d ⟨by omega, hi⟩ ⟨by omega, hj⟩) (Nat.le_refl _) h
theorem Bd.insR {ls : Int → Int → Bool} {nn n a k : Nat} {d : Nat → Int} (h : Bd nn n d) (hk : a + k < n) : Bd nn n (insR ls a k d) := Same.bd (P := fun x => 0 ≤ x ∧ x < (nn : Int)) (same_insR ls (a := a) (b := a + k + 1) k d (by omega)) (by omega) h
theorem Bd.insS {ls : Int → Int → Bool} {nn n a b : Nat} {d : Nat → Int} (h : Bd nn n d) (hb : b ≤ n) : Bd nn n (insS ls a b d) := Same.bd (P := fun x => 0 ≤ x ∧ x < (nn : Int)) (same_insS ls (a := a) (b := b) d) hb h
structure InsOK (p : Nat → Bx) (nn n a i0 : Nat) (f : Nat → Int) (x : Nat × (Nat → Int)) : Prop where
  le : a ≤ x.1 ∧ x.1 ≤ i0
  e : insD (lsV p) a x.1 x.2 = insD (lsV p) a i0 f
  bd : Bd nn n x.2
def insN (x : Nat × (Nat → Int)) : Nat × (Nat → Int) := (x.1 - 1, swp x.2 x.1 (x.1 - 1))
theorem lsV_c {p : Nat → Bx} {x y : Int} : decide (cmpF (p x.toNat).1 (p y.toNat).1 < 0) = lsV p x y := cmpF_lt _ _
theorem InsOK.next {p : Nat → Bx} {nn n a i0 j : Nat} {f e : Nat → Int} (h : InsOK p nn n a i0 f (j, e)) (hi : i0 < n) (hj : a < j) (hl : lsV p (e j) (e (j - 1)) = true) : InsOK p nn n a i0 f (j - 1, swp e j (j - 1)) := by
  have hle := h.le
  dsimp only at hle
  refine ⟨by dsimp only; omega, ?_, h.bd.swp (by omega) (by omega)⟩
  have he := h.e
  dsimp only at he ⊢
  rw [← he]
  obtain ⟨j, rfl⟩ : ∃ k, j = k + 1 := ⟨j - 1, by omega⟩
  rw [Nat.add_sub_cancel] at hl ⊢
  conv => rhs; unfold insD
  rw [hl, decide_eq_true hj]; rfl
theorem InsOK.stop {p : Nat → Bx} {nn n a i0 j : Nat} {f e : Nat → Int} (h : InsOK p nn n a i0 f (j, e)) (hl : (decide (a < j) && lsV p (e j) (e (j - 1))) = false) : e = insD (lsV p) a i0 f := by
  have he := h.e
  dsimp only at he
  rw [← he]
  cases j with
  | zero => rfl
  | succ j =>
    rw [Nat.add_sub_cancel] at hl
    unfold insD
    rw [hl]; rfl
theorem InsOK.stop0 {p : Nat → Bx} {nn n a i0 j : Nat} {f e : Nat → Int} (h : InsOK p nn n a i0 f (j, e)) (hj : ¬ a < j) : e = insD (lsV p) a i0 f := h.stop (by rw [decide_eq_false hj]; rfl)
theorem insS_e {p : Nat → Bx} {a b t : Nat} {d : Nat → Int} (h1 : t ≤ b - (a + 1)) (h2 : ¬ a + 1 + t < b) : insR (lsV p) a t d = insS (lsV p) a b d := by
  unfold insS; rw [show t = b - (a + 1) by omega]
theorem swp_row {e : Nat → Int} {i j k : Nat} (z : Nat → Int) (hz : z = swp e i j) : updL (Nat.beq k j) (updL (Nat.beq k i) (rowI e k) 0 [.i .i64 (e j)]) 0 [.i .i64 (e i)] = rowI z k := by
  subst hz; exact upd_swp _ (fun _ => rfl)
noncomputable def fi49 : FnI := ⟨53, Try.f49.body.getD .skip, [], true⟩
theorem fi49_ok : fnGen Try.prog 49 = some fi49 := by kernel_rfl
theorem zHS29_E {cx : Cx} : CallH (genQ Try.prog exts eqs [] S29).P cx (hnd (genQ Try.prog exts eqs [] S29) cx 6) := hnd_sound (genQ_full extsOK eqsOK S29_ok) 6
theorem zES29_E : EnvAll (genQ Try.prog exts eqs [] S29) := (genQ_full extsOK eqsOK S29_ok).toEnvAll
theorem t49 (nn : Nat) (p : Nat → Bx) (n : Nat) (d : Nat → Int) (a b : Nat) (c0 : n ≤ lim) (c1 : b ≤ n) (c2 : a ≤ lim) (c3 : Bd nn n d) : CU Try.prog 49 1 n (rowI d) (rowI (insS (lsV p) a b d)) [.i .i64 (a : Int), .i .i64 (b : Int), .fn 29 [] [.rp [.ro 4 nn (fun j => bM (p j))]]] := by
  refine CU.of_genU (exts := exts) (eqs := eqs) (inl := []) (sum := S29) extsOK eqsOK S29_ok fi49_ok rfl (fun _ _ _ hj => flat_I hj) rfl fun cx => ?_
  refine evC_sound zES29_E (hndU_sound U55_k zHS29_E) ?_
  have c0' : n ≤ 1099511627776 := c0
  have c2' : a ≤ 1099511627776 := c2
  have ha1 : IntKind.i64.wrap ((a : Int) + 1) = ((a + 1 : Nat) : Int) := wadd1 (by omega)
  repeat' ((fail_if_success (with_reducible refine Side.mk ?_)); first | (refine Rest.mk (drawJ_sound zES29_E mixOK (hndU_sound U55_k zHS29_E) [4,3,2] (by decide +kernel) ?_)) | (refine Rest.mk (drawR_sound zES29_E mixOK (hndU_sound U55_k zHS29_E) ?_)) | ((fail_if_success (with_reducible refine Rest.mk ?_)); first | (with_reducible exact True.intro) | (with_reducible refine Need.mk ?_ ?_) | (with_reducible refine And.intro ?_ ?_) | (with_reducible intro _) | ((fail_if_success (with_reducible refine FinS.mk ?_)); (fail_if_success (with_reducible refine Le.mk ?_)); (conv => whnf)) | (refine FinS.b ?_) | (refine FinS.lb ?_) | (refine FinS.i ?_) | (refine FinS.f ?_) | (refine FinS.agg ?_) | (refine FinS.tup ?_)))
  refine loop_ruleD zES29_E (hndU_sound U55_k zHS29_E) (γ := Nat) (fun t => ⟨[(0, .os 0 1 0 n), (1, .i .i64 (a : Int)), (2, .i .i64 (b : Int)), (3, .fn 29 [] [.rp [.ro 4 nn (fun j => bM (p j))]]), (8, .i .i64 ((a + 1 + t : Nat) : Int))], [[(0, .os 0 1 0 n)]], [(0, .rows 1 n (rowI (insR (lsV p) a t d)))], 1⟩) (fun t => t ≤ b - (a + 1)) (fun t => t + 1) (fun t => b - t) (0) (Le.of ?_) ?_ ?_
  · conv => whnf
    repeat' ((fail_if_success (with_reducible refine Side.mk ?_)); first | (refine Rest.mk (drawJ_sound zES29_E mixOK (hndU_sound U55_k zHS29_E) [4,3,2] (by decide +kernel) ?_)) | (refine Rest.mk (drawR_sound zES29_E mixOK (hndU_sound U55_k zHS29_E) ?_)) | ((fail_if_success (with_reducible refine Rest.mk ?_)); first | (with_reducible exact True.intro) | (with_reducible refine Need.mk ?_ ?_) | (with_reducible refine And.intro ?_ ?_) | (with_reducible intro _) | ((fail_if_success (with_reducible refine FinS.mk ?_)); (fail_if_success (with_reducible refine Le.mk ?_)); (conv => whnf)) | (refine FinS.b ?_) | (refine FinS.lb ?_) | (refine FinS.i ?_) | (refine FinS.f ?_) | (refine FinS.agg ?_) | (refine FinS.tup ?_)))
    all_goals (try (refine Le.of ?_; (conv => whnf)))
    repeat' ((fail_if_success (with_reducible refine Side.mk ?_)); first | (refine Rest.mk (drawJ_sound zES29_E mixOK (hndU_sound U55_k zHS29_E) [4,3,2] (by decide +kernel) ?_)) | (refine Rest.mk (drawR_sound zES29_E mixOK (hndU_sound U55_k zHS29_E) ?_)) | ((fail_if_success (with_reducible refine Rest.mk ?_)); first | (with_reducible exact True.intro) | (with_reducible refine Need.mk ?_ ?_) | (with_reducible refine And.intro ?_ ?_) | (with_reducible intro _) | ((fail_if_success (with_reducible refine FinS.mk ?_)); (fail_if_success (with_reducible refine Le.mk ?_)); (conv => whnf)) | (refine FinS.b ?_) | (refine FinS.lb ?_) | (refine FinS.i ?_) | (refine FinS.f ?_) | (refine FinS.agg ?_) | (refine FinS.tup ?_)))
    all_goals (try refine Side.mk ?_)
    all_goals (try simp only [eq_self, decide_eq_true_eq, decide_eq_false_iff_not, Int.ofNat_lt, Int.ofNat_le, gt_iff_lt, ge_iff_le, true_and, Bool.not_eq_true', Bool.not_eq_false'] at *)
    all_goals first | (with_reducible exact ha1) | (with_reducible rfl) | trivial | omega | rfl | exact fun _ _ => trivial | exact ⟨rfl, rfl⟩ | exact ⟨rfl, fun _ _ => rfl⟩ | exact ⟨rfl, rfl, fun _ _ => rfl⟩ | (exact fun _ _ _ _ => .inr trivial) | (exact ⟨trivial, fun _ _ _ _ => .inr trivial⟩) | (exact ⟨rfl, rfl, fun _ _ _ _ => .inr trivial⟩) | (exact fun i hi j hj => .inr rfl) | (exact ⟨rfl, rfl, fun i hi j hj => .inr rfl⟩) | (exact ⟨trivial, fun i hi j hj => .inr rfl⟩) | (exact ⟨trivial, ha1⟩)
  · omega
  · intro t ht
    have ht1 : IntKind.i64.wrap (((a + 1 + t : Nat) : Int) + 1) = ((a + 1 + (t + 1) : Nat) : Int) := (wadd1 (by omega)).trans (by omega)
    repeat' ((fail_if_success (with_reducible refine Side.mk ?_)); first | (refine Rest.mk (drawJ_sound zES29_E mixOK (hndU_sound U55_k zHS29_E) [4,3,2] (by decide +kernel) ?_)) | (refine Rest.mk (drawR_sound zES29_E mixOK (hndU_sound U55_k zHS29_E) ?_)) | ((fail_if_success (with_reducible refine Rest.mk ?_)); first | (with_reducible exact True.intro) | (with_reducible refine Need.mk ?_ ?_) | (with_reducible refine And.intro ?_ ?_) | (with_reducible intro _) | ((fail_if_success (with_reducible refine FinS.mk ?_)); (fail_if_success (with_reducible refine Le.mk ?_)); (conv => whnf)) | (refine FinS.b ?_) | (refine FinS.lb ?_) | (refine FinS.i ?_) | (refine FinS.f ?_) | (refine FinS.agg ?_) | (refine FinS.tup ?_)))
    · rename_i htb
      have htb : a + 1 + t < b := by simp at htb; omega
      refine loop_ruleD zES29_E (hndU_sound U55_k zHS29_E) (γ := Nat × (Nat → Int)) (fun x => ⟨[(0, .os 0 1 0 n), (1, .i .i64 (a : Int)), (2, .i .i64 (b : Int)), (3, .fn 29 [] [.rp [.ro 4 nn (fun j => bM (p j))]]), (8, .i .i64 ((a + 1 + t : Nat) : Int)), (9, .i .i64 (x.1 : Int))], [[(0, .os 0 1 0 n)]], [(0, .rows 1 n (rowI (x.2)))], 1⟩) (fun x => InsOK p nn n a (a + 1 + t) (insR (lsV p) a t d) x) insN (fun x => x.1) ((a + 1 + t, insR (lsV p) a t d)) (Le.of ?_) ?_ ?_
      · conv => whnf
        repeat' ((fail_if_success (with_reducible refine Side.mk ?_)); first | (refine Rest.mk (drawJ_sound zES29_E mixOK (hndU_sound U55_k zHS29_E) [4,3,2] (by decide +kernel) ?_)) | (refine Rest.mk (drawR_sound zES29_E mixOK (hndU_sound U55_k zHS29_E) ?_)) | ((fail_if_success (with_reducible refine Rest.mk ?_)); first | (with_reducible exact True.intro) | (with_reducible refine Need.mk ?_ ?_) | (with_reducible refine And.intro ?_ ?_) | (with_reducible intro _) | ((fail_if_success (with_reducible refine FinS.mk ?_)); (fail_if_success (with_reducible refine Le.mk ?_)); (conv => whnf)) | (refine FinS.b ?_) | (refine FinS.lb ?_) | (refine FinS.i ?_) | (refine FinS.f ?_) | (refine FinS.agg ?_) | (refine FinS.tup ?_)))
        all_goals (try (refine Le.of ?_; (conv => whnf)))
        repeat' ((fail_if_success (with_reducible refine Side.mk ?_)); first | (refine Rest.mk (drawJ_sound zES29_E mixOK (hndU_sound U55_k zHS29_E) [4,3,2] (by decide +kernel) ?_)) | (refine Rest.mk (drawR_sound zES29_E mixOK (hndU_sound U55_k zHS29_E) ?_)) | ((fail_if_success (with_reducible refine Rest.mk ?_)); first | (with_reducible exact True.intro) | (with_reducible refine Need.mk ?_ ?_) | (with_reducible refine And.intro ?_ ?_) | (with_reducible intro _) | ((fail_if_success (with_reducible refine FinS.mk ?_)); (fail_if_success (with_reducible refine Le.mk ?_)); (conv => whnf)) | (refine FinS.b ?_) | (refine FinS.lb ?_) | (refine FinS.i ?_) | (refine FinS.f ?_) | (refine FinS.agg ?_) | (refine FinS.tup ?_)))
        all_goals (try refine Side.mk ?_)
        all_goals (try simp only [eq_self, decide_eq_true_eq, decide_eq_false_iff_not, Int.ofNat_lt, Int.ofNat_le, gt_iff_lt, ge_iff_le, true_and, Bool.not_eq_true', Bool.not_eq_false'] at *)
        all_goals first | (with_reducible rfl) | trivial | omega | rfl | exact fun _ _ => trivial | exact ⟨rfl, rfl⟩ | exact ⟨rfl, fun _ _ => rfl⟩ | exact ⟨rfl, rfl, fun _ _ => rfl⟩ | (exact fun _ _ _ _ => .inr trivial) | (exact ⟨trivial, fun _ _ _ _ => .inr trivial⟩) | (exact ⟨rfl, rfl, fun _ _ _ _ => .inr trivial⟩) | (exact fun i hi j hj => .inr rfl) | (exact ⟨rfl, rfl, fun i hi j hj => .inr rfl⟩) | (exact ⟨trivial, fun i hi j hj => .inr rfl⟩)
      · exact ⟨by dsimp only; omega, rfl, c3.insR (by omega)⟩
      · intro x hx
        obtain ⟨j, e⟩ := x
        have hp := hx.le
        dsimp only at hp
        have hbd : Bd nn n e := hx.bd
        have bj := hbd j (by omega)
        have bj1 := hbd (j - 1) (by omega)
        rcases Nat.lt_or_ge a j with haj | haj
        · have hj1 : IntKind.i64.wrap ((j : Int) - 1) = ((j - 1 : Nat) : Int) := wsub1 (by omega) (by omega)
          repeat' ((fail_if_success (with_reducible refine Side.mk ?_)); first | (refine Rest.mk (drawJ_sound zES29_E mixOK (hndU_sound U55_k zHS29_E) [4,3,2] (by decide +kernel) ?_)) | (refine Rest.mk (drawR_sound zES29_E mixOK (hndU_sound U55_k zHS29_E) ?_)) | ((fail_if_success (with_reducible refine Rest.mk ?_)); first | (with_reducible exact True.intro) | (with_reducible refine Need.mk ?_ ?_) | (with_reducible refine And.intro ?_ ?_) | (with_reducible intro _) | ((fail_if_success (with_reducible refine FinS.mk ?_)); (fail_if_success (with_reducible refine Le.mk ?_)); (conv => whnf)) | (refine FinS.b ?_) | (refine FinS.lb ?_) | (refine FinS.i ?_) | (refine FinS.f ?_) | (refine FinS.agg ?_) | (refine FinS.tup ?_)))
          all_goals (try (refine Le.of ?_; (conv => whnf)))
          repeat' ((fail_if_success (with_reducible refine Side.mk ?_)); first | (refine Rest.mk (drawJ_sound zES29_E mixOK (hndU_sound U55_k zHS29_E) [4,3,2] (by decide +kernel) ?_)) | (refine Rest.mk (drawR_sound zES29_E mixOK (hndU_sound U55_k zHS29_E) ?_)) | ((fail_if_success (with_reducible refine Rest.mk ?_)); first | (with_reducible exact True.intro) | (with_reducible refine Need.mk ?_ ?_) | (with_reducible refine And.intro ?_ ?_) | (with_reducible intro _) | ((fail_if_success (with_reducible refine FinS.mk ?_)); (fail_if_success (with_reducible refine Le.mk ?_)); (conv => whnf)) | (refine FinS.b ?_) | (refine FinS.lb ?_) | (refine FinS.i ?_) | (refine FinS.f ?_) | (refine FinS.agg ?_) | (refine FinS.tup ?_)))
          all_goals (try refine Side.mk ?_)
          all_goals (try simp only [Int.toNat_natCast, Nat.zero_add, dOf_row, ht1, lsV_c, bOf_b, hj1] at *)
          all_goals (try simp only [eq_self, decide_eq_true_eq, decide_eq_false_iff_not, Int.ofNat_lt, Int.ofNat_le, gt_iff_lt, ge_iff_le, true_and, Bool.not_eq_true', Bool.not_eq_false'] at *)
          all_goals first | (with_reducible rfl) | trivial | omega | rfl | exact fun _ _ => trivial | exact ⟨rfl, rfl⟩ | exact ⟨rfl, fun _ _ => rfl⟩ | exact ⟨rfl, rfl, fun _ _ => rfl⟩ | (exact fun _ => ⟨isBx_b _ _, bj.1, bj.2, bj1.1, bj1.2⟩) | (exact ⟨isBx_b _ _, bj.1, bj.2, bj1.1, bj1.2⟩) | ((rename_i hc; exact ⟨hx.next (by omega) haj (by rw [Bool.and_eq_true] at hc; exact hc.2), by show j - 1 < j; omega⟩)) | (exact fun _ => ⟨by omega, by omega⟩) | (exact fun _ _ _ _ => .inr trivial) | (exact ⟨trivial, fun _ _ _ _ => .inr trivial⟩) | (exact ⟨rfl, rfl, fun _ _ _ _ => .inr trivial⟩) | (exact fun k hk z hz => .inr (congrArg (fun l => getM l z) (swp_row (insN (j, e)).2 rfl))) | (exact ⟨rfl, rfl, fun k hk z hz => .inr (congrArg (fun l => getM l z) (swp_row (insN (j, e)).2 rfl))⟩) | (exact ⟨trivial, fun k hk z hz => .inr (congrArg (fun l => getM l z) (swp_row (insN (j, e)).2 rfl))⟩) | ((rename_i hc; exact fun k hk z hz => .inr (by rw [hx.stop hc]; rfl)))
        · have hna : ¬ a < j := (by omega)
          repeat' ((fail_if_success (with_reducible refine Side.mk ?_)); first | (refine Rest.mk (drawJ_sound zES29_E mixOK (hndU_sound U55_k zHS29_E) [4,3,2] (by decide +kernel) ?_)) | (refine Rest.mk (drawR_sound zES29_E mixOK (hndU_sound U55_k zHS29_E) ?_)) | ((fail_if_success (with_reducible refine Rest.mk ?_)); first | (with_reducible exact True.intro) | (with_reducible refine Need.mk ?_ ?_) | (with_reducible refine And.intro ?_ ?_) | (with_reducible intro _) | ((fail_if_success (with_reducible refine FinS.mk ?_)); (fail_if_success (with_reducible refine Le.mk ?_)); (conv => whnf)) | (refine FinS.b ?_) | (refine FinS.lb ?_) | (refine FinS.i ?_) | (refine FinS.f ?_) | (refine FinS.agg ?_) | (refine FinS.tup ?_)))
          all_goals (try (refine Le.of ?_; (conv => whnf)))
          repeat' ((fail_if_success (with_reducible refine Side.mk ?_)); first | (refine Rest.mk (drawJ_sound zES29_E mixOK (hndU_sound U55_k zHS29_E) [4,3,2] (by decide +kernel) ?_)) | (refine Rest.mk (drawR_sound zES29_E mixOK (hndU_sound U55_k zHS29_E) ?_)) | ((fail_if_success (with_reducible refine Rest.mk ?_)); first | (with_reducible exact True.intro) | (with_reducible refine Need.mk ?_ ?_) | (with_reducible refine And.intro ?_ ?_) | (with_reducible intro _) | ((fail_if_success (with_reducible refine FinS.mk ?_)); (fail_if_success (with_reducible refine Le.mk ?_)); (conv => whnf)) | (refine FinS.b ?_) | (refine FinS.lb ?_) | (refine FinS.i ?_) | (refine FinS.f ?_) | (refine FinS.agg ?_) | (refine FinS.tup ?_)))
          all_goals (try refine Side.mk ?_)
          all_goals (try simp only [Int.toNat_natCast, Nat.zero_add, dOf_row, ht1, lsV_c, bOf_b] at *)
          all_goals (try simp only [eq_self, decide_eq_true_eq, decide_eq_false_iff_not, Int.ofNat_lt, Int.ofNat_le, gt_iff_lt, ge_iff_le, true_and, Bool.not_eq_true', Bool.not_eq_false'] at *)
          all_goals first | (with_reducible rfl) | trivial | omega | rfl | exact fun _ _ => trivial | exact ⟨rfl, rfl⟩ | exact ⟨rfl, fun _ _ => rfl⟩ | exact ⟨rfl, rfl, fun _ _ => rfl⟩ | (exact fun h => absurd h hna) | (exact fun h => absurd h.1 hna) | ((exfalso; rename_i hc; rw [Bool.and_eq_true] at hc; exact hna (by simpa using hc.1))) | ((exfalso; rename_i hc _; rw [Bool.and_eq_true] at hc; exact hna (by simpa using hc.1))) | (exact fun k hk z hz => .inr (by rw [hx.stop0 hna]; rfl))
    all_goals (try (refine Le.of ?_; (conv => whnf)))
    repeat' ((fail_if_success (with_reducible refine Side.mk ?_)); first | (refine Rest.mk (drawJ_sound zES29_E mixOK (hndU_sound U55_k zHS29_E) [4,3,2] (by decide +kernel) ?_)) | (refine Rest.mk (drawR_sound zES29_E mixOK (hndU_sound U55_k zHS29_E) ?_)) | ((fail_if_success (with_reducible refine Rest.mk ?_)); first | (with_reducible exact True.intro) | (with_reducible refine Need.mk ?_ ?_) | (with_reducible refine And.intro ?_ ?_) | (with_reducible intro _) | ((fail_if_success (with_reducible refine FinS.mk ?_)); (fail_if_success (with_reducible refine Le.mk ?_)); (conv => whnf)) | (refine FinS.b ?_) | (refine FinS.lb ?_) | (refine FinS.i ?_) | (refine FinS.f ?_) | (refine FinS.agg ?_) | (refine FinS.tup ?_)))
    all_goals (try refine Side.mk ?_)
    all_goals (try simp only [Int.toNat_natCast, Nat.zero_add, dOf_row, ht1, lsV_c, bOf_b] at *)
    all_goals (try simp only [eq_self, decide_eq_true_eq, decide_eq_false_iff_not, Int.ofNat_lt, Int.ofNat_le, gt_iff_lt, ge_iff_le, true_and, Bool.not_eq_true', Bool.not_eq_false'] at *)
    all_goals first | (with_reducible rfl) | trivial | omega | rfl | exact fun _ _ => trivial | exact ⟨rfl, rfl⟩ | exact ⟨rfl, fun _ _ => rfl⟩ | exact ⟨rfl, rfl, fun _ _ => rfl⟩ | (exact fun k hk z hz => by rw [insS_e ht ‹_›])
def u49 : UT := fun sz n g rest => match sz, rest with
  | 1, [.i .i64 a, .i .i64 b, .fn 29 [] [.rp [.ro 4 nn get]]] => some ([isI n g, isBx nn get, n ≤ lim, 0 ≤ a ∧ 0 ≤ b ∧ b ≤ n ∧ a ≤ lim, Bd nn n (dOf g)], rowI (insS (lsV (bOf get)) a.toNat b.toNat (dOf g)))
  | _, _ => none
theorem U49_ok : UOK Try.prog (uAdd 49 u49 U55) := by
  refine UOK.add U55_k fun sz n g rest ps g' e hp => ?_
  unfold u49 at e
  split at e
  · cases e
    have h0 := hp _ (.head _)
    have h1 := hp _ (.tail _ (.head _))
    have h2 := hp _ (.tail _ (.tail _ (.head _)))
    have h3 := hp _ (.tail _ (.tail _ (.tail _ (.head _))))
    have h4 := hp _ (.tail _ (.tail _ (.tail _ (.tail _ (.head _)))))
    rename_i a b nn get
    obtain ⟨a1, a2, a3, a4⟩ := h3
    obtain ⟨x, rfl⟩ := Int.eq_ofNat_of_zero_le a1
    obtain ⟨y, rfl⟩ := Int.eq_ofNat_of_zero_le a2
    exact CU.leG (CU.clo (l := [.i .i64 x, .i .i64 y]) h1 (t49 nn (bOf get) n (dOf g) x y h2 (by omega) (by omega) h4)) (le_I h0)
  · cases e
noncomputable def U49 := uAdd 49 u49 U55
theorem U49_k : UOK Try.prog U49 := U49_ok
end Go.Ev.Sweep
