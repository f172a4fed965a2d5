/-
  The contract of SortStableFunc; for lists of at most 2^40.
-/
import Derived.Test.YtbnfcjckbgpkeaaSweH
set_option linter.unusedSimpArgs false
set_option linter.unusedVariables false
open Go Go.Proofs
namespace Go.Ev.Sweep
set_option maxRecDepth 100000
set_option maxHeartbeats 1000000
open Go.Ev.So
theorem t50 : ∀ (f nn : Nat) (p : Nat → Bx) (n : Nat) (d : Nat → Int) (a m b : Nat), n ≤ lim → (a < m ∧ m < b ∧ b ≤ n) → Bd nn n d → b - a ≤ f → CU Try.prog 50 1 n (rowI d) (rowI (sym (lsV p) d a m b)) [.i .i64 (a : Int), .i .i64 (m : Int), .i .i64 (b : Int), .fn 29 [] [.rp [.ro 4 nn (fun j => bM (p j))]]]
  | 0, nn, p, n, d, a, m, b, c0, c1, c2, c3 => by omega
  | f + 1, nn, p, n, d, a, m, b, c0, c1, c2, c3 => by
    by_cases h1 : m - a = 1
    · have e : sym (lsV p) d a m b = fun x => d (upI a (bsF (fun h => lsV p (d h) (d a)) m b - 1) x) := by rw [sym_eq, if_pos h1]
      rw [e]; exact t50A nn p n d a m b c0 c1 c2 h1
    · by_cases h2 : b - m = 1
      · have e : sym (lsV p) d a m b = fun x => d (dnI (bsF (fun h => !lsV p (d m) (d h)) a m) m x) := by rw [sym_eq, if_neg h1, if_pos h2]
        rw [e]; exact t50B nn p n d a m b c0 c1 c2 h1 h2
      · refine t50C f (UOK.add U49_k fun sz n g rest ps g' e hp => ?_) nn p n d a m b c0 c1 c2 h1 h2 c3
        unfold u50 at e
        split at e
        · cases e
          have h0 := hp _ (.head _)
          have h1 := hp _ (.tail _ (.head _))
          have h2 := hp _ (.tail _ (.tail _ (.head _)))
          have h3 := hp _ (.tail _ (.tail _ (.tail _ (.head _))))
          have h4 := hp _ (.tail _ (.tail _ (.tail _ (.tail _ (.head _)))))
          rename_i a b c nn get
          obtain ⟨a1, a2, a3, a4, a5⟩ := h3
          obtain ⟨x, rfl⟩ := Int.eq_ofNat_of_zero_le a1
          obtain ⟨y, rfl⟩ := Int.eq_ofNat_of_zero_le (show 0 ≤ b by omega)
          obtain ⟨k, rfl⟩ := Int.eq_ofNat_of_zero_le (show 0 ≤ c by omega)
          exact CU.leG (CU.clo (l := [.i .i64 x, .i .i64 y, .i .i64 k]) h1 (t50 f nn (bOf get) n (dOf g) x y k h2 (by omega) h4 (by omega))) (le_I h0)
        · cases e
def u50a : UT := fun sz n g rest => match sz, rest with
  | 1, [.i .i64 a, .i .i64 b, .i .i64 c, .fn 29 [] [.rp [.ro 4 nn get]]] => some ([isI n g, isBx nn get, n ≤ lim, 0 ≤ a ∧ a < b ∧ b < c ∧ c ≤ n ∧ True, Bd nn n (dOf g)], rowI (sym (lsV (bOf get)) (dOf g) a.toNat b.toNat c.toNat))
  | _, _ => none
theorem U50_ok : UOK Try.prog (uAdd 50 u50a U49) := by
  refine UOK.add U49_k fun sz n g rest ps g' e hp => ?_
  unfold u50a at e
  split at e
  · cases e
    have h0 := hp _ (.head _)
    have h1 := hp _ (.tail _ (.head _))
    have h2 := hp _ (.tail _ (.tail _ (.head _)))
    have h3 := hp _ (.tail _ (.tail _ (.tail _ (.head _))))
    have h4 := hp _ (.tail _ (.tail _ (.tail _ (.tail _ (.head _)))))
    rename_i a b c nn get
    obtain ⟨a1, a2, a3, a4, a5⟩ := h3
    obtain ⟨x, rfl⟩ := Int.eq_ofNat_of_zero_le a1
    obtain ⟨y, rfl⟩ := Int.eq_ofNat_of_zero_le (show 0 ≤ b by omega)
    obtain ⟨k, rfl⟩ := Int.eq_ofNat_of_zero_le (show 0 ≤ c by omega)
    exact CU.leG (CU.clo (l := [.i .i64 x, .i .i64 y, .i .i64 k]) h1 (t50 _ nn (bOf get) n (dOf g) x y k h2 (by omega) h4 (Nat.le_refl _))) (le_I h0)
  · cases e
noncomputable def U50 := uAdd 50 u50a U49
theorem U50_k : UOK Try.prog U50 := U50_ok
structure PhOK (p : Nat → Bx) (nn n : Nat) (d : Nat → Int) (x : Nat × (Nat → Int)) : Prop where
  le : x.1 ≤ n
  e : stP (lsV p) n x.1 x.2 = stP (lsV p) n 0 d
  bd : Bd nn n x.2
def phN (p : Nat → Bx) (x : Nat × (Nat → Int)) : Nat × (Nat → Int) := (x.1 + 20, insS (lsV p) x.1 (x.1 + 20) x.2)
theorem PhOK.next {p : Nat → Bx} {nn n a : Nat} {d e : Nat → Int} (h : PhOK p nn n d (a, e)) (ha : a + 20 ≤ n) : PhOK p nn n d (phN p (a, e)) := by
  have he := h.e
  dsimp only at he
  rw [stP, if_pos ha] at he
  exact ⟨ha, he, h.bd.insS ha⟩
theorem PhOK.stop {p : Nat → Bx} {nn n a : Nat} {d e : Nat → Int} (h : PhOK p nn n d (a, e)) (ha : ¬ a + 20 ≤ n) : insS (lsV p) a n e = stP (lsV p) n 0 d := by
  have he := h.e
  dsimp only at he
  rw [stP, if_neg ha] at he
  exact he
structure BlOK (p : Nat → Bx) (nn n : Nat) (d : Nat → Int) (x : Nat × (Nat → Int)) : Prop where
  le : 0 < x.1 ∧ x.1 < 2 * n + 21
  e : stL (lsV p) n x.1 x.2 = stab (lsV p) n d
  bd : Bd nn n x.2
def blN (p : Nat → Bx) (n : Nat) (x : Nat × (Nat → Int)) : Nat × (Nat → Int) := (2 * x.1, stM (lsV p) n x.1 0 x.2)
theorem Bd.stM {ls : Int → Int → Bool} {nn n s a : Nat} {d : Nat → Int} (h : Bd nn n d) (hs : 0 < s) : Bd nn n (stM ls n s a d) := Same.bd (P := fun x => 0 ≤ x ∧ x < (nn : Int)) (same_stM ls hs _ a d (Nat.le_refl _)) (Nat.le_refl _) h
theorem Bd.stP {ls : Int → Int → Bool} {nn n a : Nat} {d : Nat → Int} (h : Bd nn n d) : Bd nn n (stP ls n a d) := Same.bd (P := fun x => 0 ≤ x ∧ x < (nn : Int)) (same_stP ls _ a d (Nat.le_refl _)) (Nat.le_refl _) h
theorem Bd.stab {ls : Int → Int → Bool} {nn n : Nat} {d : Nat → Int} (h : Bd nn n d) : Bd nn n (stab ls n d) := Same.bd (P := fun x => 0 ≤ x ∧ x < (nn : Int)) (same_stab ls n d) (Nat.le_refl _) h
theorem BlOK.next {p : Nat → Bx} {nn n s : Nat} {d e : Nat → Int} (h : BlOK p nn n d (s, e)) (hs : s < n) : BlOK p nn n d (blN p n (s, e)) := by
  have he := h.e
  have hl := h.le
  dsimp only at he hl
  rw [stL, dif_pos ⟨hl.1, hs⟩] at he
  exact ⟨by show 0 < 2 * s ∧ 2 * s < 2 * n + 21; omega, he, h.bd.stM hl.1⟩
theorem BlOK.stop {p : Nat → Bx} {nn n s : Nat} {d e : Nat → Int} (h : BlOK p nn n d (s, e)) (hs : ¬ s < n) : e = stab (lsV p) n d := by
  have he := h.e
  dsimp only at he
  rw [stL, dif_neg (fun c => hs c.2)] at he
  exact he
structure MgOK (p : Nat → Bx) (nn n s : Nat) (d : Nat → Int) (x : Nat × (Nat → Int)) : Prop where
  le : x.1 ≤ n
  e : stM (lsV p) n s x.1 x.2 = stM (lsV p) n s 0 d
  bd : Bd nn n x.2
def mgN (p : Nat → Bx) (s : Nat) (x : Nat × (Nat → Int)) : Nat × (Nat → Int) := (x.1 + 2 * s, sym (lsV p) x.2 x.1 (x.1 + s) (x.1 + 2 * s))
theorem MgOK.next {p : Nat → Bx} {nn n s a : Nat} {d e : Nat → Int} (h : MgOK p nn n s d (a, e)) (hs : 0 < s) (ha : a + 2 * s ≤ n) : MgOK p nn n s d (mgN p s (a, e)) := by
  have he := h.e
  dsimp only at he
  rw [So.stM, dif_pos ⟨hs, ha⟩] at he
  exact ⟨ha, he, h.bd.sym (by dsimp only; omega) (by dsimp only; omega) ha⟩
theorem MgOK.stop {p : Nat → Bx} {nn n s a : Nat} {d e : Nat → Int} (h : MgOK p nn n s d (a, e)) (ha : ¬ a + 2 * s ≤ n) : (if a + s < n then sym (lsV p) e a (a + s) n else e) = stM (lsV p) n s 0 d := by
  have he := h.e
  dsimp only at he
  rw [So.stM, dif_neg (fun c => ha c.2)] at he
  exact he
noncomputable def fi40 : FnI := ⟨63, Try.f40.body.getD .skip, [], true⟩
theorem fi40_ok : fnGen Try.prog 40 = some fi40 := by kernel_rfl
theorem zHS29_I {cx : Cx} : CallH (genQ Try.prog exts eqs [] S29).P cx (hnd (genQ Try.prog exts eqs [] S29) cx 6) := hnd_sound (genQ_full extsOK eqsOK S29_ok) 6
theorem zES29_I : EnvAll (genQ Try.prog exts eqs [] S29) := (genQ_full extsOK eqsOK S29_ok).toEnvAll
theorem t40 (nn : Nat) (p : Nat → Bx) (n : Nat) (d : Nat → Int) (c0 : n ≤ lim) (c1 : Bd nn n d) : CU Try.prog 40 1 n (rowI d) (rowI (stab (lsV p) n d)) [.i .i64 (n : Int), .fn 29 [] [.rp [.ro 4 nn (fun j => bM (p j))]]] := by
  refine CU.of_genU (exts := exts) (eqs := eqs) (inl := []) (sum := S29) extsOK eqsOK S29_ok fi40_ok rfl (fun _ _ _ hj => flat_I hj) rfl fun cx => ?_
  refine evC_sound zES29_I (hndU_sound U50_k zHS29_I) ?_
  have c0' : n ≤ 1099511627776 := c0
  repeat' ((fail_if_success (with_reducible refine Side.mk ?_)); first | ((fail_if_success (with_reducible refine Rest.mk ?_)); first | (with_reducible exact True.intro) | (with_reducible refine Need.mk ?_ ?_) | (with_reducible refine And.intro ?_ ?_) | (with_reducible intro _) | ((fail_if_success (with_reducible refine FinS.mk ?_)); (fail_if_success (with_reducible refine Le.mk ?_)); (conv => whnf)) | (refine FinS.b ?_) | (refine FinS.lb ?_) | (refine FinS.i ?_) | (refine FinS.f ?_) | (refine FinS.agg ?_) | (refine FinS.tup ?_)))
  refine loop_ruleD zES29_I (hndU_sound U50_k zHS29_I) (γ := Nat × (Nat → Int)) (fun x => ⟨[(0, .os 0 1 0 n), (1, .i .i64 (n : Int)), (2, .fn 29 [] [.rp [.ro 4 nn (fun j => bM (p j))]]), (6, .i .i64 20), (7, .i .i64 (x.1 : Int)), (8, .i .i64 ((x.1 + 20 : Nat) : Int))], [[(0, .os 0 1 0 n)]], [(0, .rows 1 n (rowI (x.2)))], 1⟩) (fun x => PhOK p nn n d x) (phN p) (fun x => n - x.1) ((0, d)) (Le.of ?_) ?_ ?_
  · conv => whnf
    repeat' ((fail_if_success (with_reducible refine Side.mk ?_)); first | ((fail_if_success (with_reducible refine Rest.mk ?_)); first | (with_reducible exact True.intro) | (with_reducible refine Need.mk ?_ ?_) | (with_reducible refine And.intro ?_ ?_) | (with_reducible intro _) | ((fail_if_success (with_reducible refine FinS.mk ?_)); (fail_if_success (with_reducible refine Le.mk ?_)); (conv => whnf)) | (refine FinS.b ?_) | (refine FinS.lb ?_) | (refine FinS.i ?_) | (refine FinS.f ?_) | (refine FinS.agg ?_) | (refine FinS.tup ?_)))
    all_goals (try (refine Le.of ?_; (conv => whnf)))
    repeat' ((fail_if_success (with_reducible refine Side.mk ?_)); first | ((fail_if_success (with_reducible refine Rest.mk ?_)); first | (with_reducible exact True.intro) | (with_reducible refine Need.mk ?_ ?_) | (with_reducible refine And.intro ?_ ?_) | (with_reducible intro _) | ((fail_if_success (with_reducible refine FinS.mk ?_)); (fail_if_success (with_reducible refine Le.mk ?_)); (conv => whnf)) | (refine FinS.b ?_) | (refine FinS.lb ?_) | (refine FinS.i ?_) | (refine FinS.f ?_) | (refine FinS.agg ?_) | (refine FinS.tup ?_)))
    all_goals (try refine Side.mk ?_)
    all_goals (try simp only [eq_self, decide_eq_true_eq, decide_eq_false_iff_not, Int.ofNat_lt, Int.ofNat_le, gt_iff_lt, ge_iff_le, true_and, Bool.not_eq_true', Bool.not_eq_false'] at *)
    all_goals first | (with_reducible rfl) | trivial | omega | rfl | exact fun _ _ => trivial | exact ⟨rfl, rfl⟩ | exact ⟨rfl, fun _ _ => rfl⟩ | exact ⟨rfl, rfl, fun _ _ => rfl⟩ | (exact fun _ _ _ _ => .inr trivial) | (exact ⟨trivial, fun _ _ _ _ => .inr trivial⟩) | (exact ⟨rfl, rfl, fun _ _ _ _ => .inr trivial⟩) | (exact fun i hi j hj => .inr rfl) | (exact ⟨rfl, rfl, fun i hi j hj => .inr rfl⟩) | (exact ⟨trivial, fun i hi j hj => .inr rfl⟩)
  · exact ⟨Nat.zero_le _, rfl, c1⟩
  · intro x hx
    obtain ⟨a, e⟩ := x
    have hle := hx.le
    dsimp only at hle
    have w1 : IntKind.i64.wrap (((a + 20 : Nat) : Int) + 20) = ((a + 20 + 20 : Nat) : Int) := (i64_wrap (by omega) (by omega)).trans (by omega)
    rcases Nat.lt_or_ge n (a + 20) with hc | hc
    · have hst := hx.stop (by omega : ¬ a + 20 ≤ n)
      repeat' ((fail_if_success (with_reducible refine Side.mk ?_)); first | ((fail_if_success (with_reducible refine Rest.mk ?_)); first | (with_reducible exact True.intro) | (with_reducible refine Need.mk ?_ ?_) | (with_reducible refine And.intro ?_ ?_) | (with_reducible intro hcl; try (exfalso; (simp at hcl; omega); done)) | ((fail_if_success (with_reducible refine FinS.mk ?_)); (fail_if_success (with_reducible refine Le.mk ?_)); (conv => whnf)) | (refine FinS.b ?_) | (refine FinS.lb ?_) | (refine FinS.i ?_) | (refine FinS.f ?_) | (refine FinS.agg ?_) | (refine FinS.tup ?_)))
      all_goals (try (refine Side.mk ?_; (try simp only [Int.toNat_natCast, Nat.zero_add, dOf_row, lsV_c, bOf_b] at *); (try simp only [eq_self, decide_eq_true_eq, decide_eq_false_iff_not, Int.ofNat_lt, Int.ofNat_le, gt_iff_lt, ge_iff_le, true_and, Bool.not_eq_true', Bool.not_eq_false'] at *); all_goals first | (with_reducible rfl) | trivial | omega | rfl | exact fun _ _ => trivial | exact ⟨rfl, rfl⟩ | exact ⟨rfl, fun _ _ => rfl⟩ | exact ⟨rfl, rfl, fun _ _ => rfl⟩ | (exact ⟨Nat.le_refl _, isI_row _ _, isBx_b _ _, c0, by omega, hx.bd⟩)))
      refine loop_ruleD zES29_I (hndU_sound U50_k zHS29_I) (γ := Nat × (Nat → Int)) (fun x => ⟨[(0, .os 0 1 0 n), (1, .i .i64 (n : Int)), (2, .fn 29 [] [.rp [.ro 4 nn (fun j => bM (p j))]]), (6, .i .i64 (x.1 : Int))], [[(0, .os 0 1 0 n)]], [(0, .rows 1 n (rowI (x.2)))], 1⟩) (fun x => BlOK p nn n d x) (blN p n) (fun x => n - x.1) ((20, stP (lsV p) n 0 d)) (Le.of ?_) ?_ ?_
      · conv => whnf
        repeat' ((fail_if_success (with_reducible refine Side.mk ?_)); first | ((fail_if_success (with_reducible refine Rest.mk ?_)); first | (with_reducible exact True.intro) | (with_reducible refine Need.mk ?_ ?_) | (with_reducible refine And.intro ?_ ?_) | (with_reducible intro _) | ((fail_if_success (with_reducible refine FinS.mk ?_)); (fail_if_success (with_reducible refine Le.mk ?_)); (conv => whnf)) | (refine FinS.b ?_) | (refine FinS.lb ?_) | (refine FinS.i ?_) | (refine FinS.f ?_) | (refine FinS.agg ?_) | (refine FinS.tup ?_)))
        all_goals (try (refine Le.of ?_; (conv => whnf)))
        repeat' ((fail_if_success (with_reducible refine Side.mk ?_)); first | ((fail_if_success (with_reducible refine Rest.mk ?_)); first | (with_reducible exact True.intro) | (with_reducible refine Need.mk ?_ ?_) | (with_reducible refine And.intro ?_ ?_) | (with_reducible intro _) | ((fail_if_success (with_reducible refine FinS.mk ?_)); (fail_if_success (with_reducible refine Le.mk ?_)); (conv => whnf)) | (refine FinS.b ?_) | (refine FinS.lb ?_) | (refine FinS.i ?_) | (refine FinS.f ?_) | (refine FinS.agg ?_) | (refine FinS.tup ?_)))
        all_goals (try refine Side.mk ?_)
        all_goals (try simp only [Int.toNat_natCast, Nat.zero_add, dOf_row, lsV_c, bOf_b] at *)
        all_goals (try simp only [eq_self, decide_eq_true_eq, decide_eq_false_iff_not, Int.ofNat_lt, Int.ofNat_le, gt_iff_lt, ge_iff_le, true_and, Bool.not_eq_true', Bool.not_eq_false'] at *)
        all_goals first | (with_reducible rfl) | trivial | omega | rfl | exact fun _ _ => trivial | exact ⟨rfl, rfl⟩ | exact ⟨rfl, fun _ _ => rfl⟩ | exact ⟨rfl, rfl, fun _ _ => rfl⟩ | (exact fun _ _ _ _ => .inr trivial) | (exact ⟨trivial, fun _ _ _ _ => .inr trivial⟩) | (exact ⟨rfl, rfl, fun _ _ _ _ => .inr trivial⟩) | (exact fun i hi j hj => .inr (by rw [← hst])) | (exact ⟨rfl, rfl, fun i hi j hj => .inr (by rw [← hst])⟩) | (exact ⟨trivial, fun i hi j hj => .inr (by rw [← hst])⟩)
      · exact ⟨by dsimp only; omega, rfl, c1.stP⟩
      · clear hst hx hle hc w1
        intro x hx
        obtain ⟨s, e⟩ := x
        have hle := hx.le
        dsimp only at hle
        have w2 : IntKind.i64.wrap (2 * (s : Int)) = ((2 * s : Nat) : Int) := (i64_wrap (by omega) (by omega)).trans (by omega)
        have w3 : IntKind.i64.wrap ((s : Int) * 2) = ((2 * s : Nat) : Int) := (i64_wrap (by omega) (by omega)).trans (by omega)
        rcases Nat.lt_or_ge s n with hsn | hsn
        · have hnx := hx.next hsn
          repeat' ((fail_if_success (with_reducible refine Side.mk ?_)); first | ((fail_if_success (with_reducible refine Rest.mk ?_)); first | (with_reducible exact True.intro) | (with_reducible refine Need.mk ?_ ?_) | (with_reducible refine And.intro ?_ ?_) | (with_reducible intro hcl; try (exfalso; (simp at hcl; omega); done)) | ((fail_if_success (with_reducible refine FinS.mk ?_)); (fail_if_success (with_reducible refine Le.mk ?_)); (conv => whnf)) | (refine FinS.b ?_) | (refine FinS.lb ?_) | (refine FinS.i ?_) | (refine FinS.f ?_) | (refine FinS.agg ?_) | (refine FinS.tup ?_)))
          refine loop_ruleD zES29_I (hndU_sound U50_k zHS29_I) (γ := Nat × (Nat → Int)) (fun x => ⟨[(0, .os 0 1 0 n), (1, .i .i64 (n : Int)), (2, .fn 29 [] [.rp [.ro 4 nn (fun j => bM (p j))]]), (6, .i .i64 (s : Int)), (7, .i .i64 (x.1 : Int)), (8, .i .i64 ((x.1 + 2 * s : Nat) : Int))], [[(0, .os 0 1 0 n)]], [(0, .rows 1 n (rowI (x.2)))], 1⟩) (fun x => MgOK p nn n s e x) (mgN p s) (fun x => n - x.1) ((0, e)) (Le.of ?_) ?_ ?_
          · conv => whnf
            repeat' ((fail_if_success (with_reducible refine Side.mk ?_)); first | ((fail_if_success (with_reducible refine Rest.mk ?_)); first | (with_reducible exact True.intro) | (with_reducible refine Need.mk ?_ ?_) | (with_reducible refine And.intro ?_ ?_) | (with_reducible intro _) | ((fail_if_success (with_reducible refine FinS.mk ?_)); (fail_if_success (with_reducible refine Le.mk ?_)); (conv => whnf)) | (refine FinS.b ?_) | (refine FinS.lb ?_) | (refine FinS.i ?_) | (refine FinS.f ?_) | (refine FinS.agg ?_) | (refine FinS.tup ?_)))
            all_goals (try (refine Le.of ?_; (conv => whnf)))
            repeat' ((fail_if_success (with_reducible refine Side.mk ?_)); first | ((fail_if_success (with_reducible refine Rest.mk ?_)); first | (with_reducible exact True.intro) | (with_reducible refine Need.mk ?_ ?_) | (with_reducible refine And.intro ?_ ?_) | (with_reducible intro _) | ((fail_if_success (with_reducible refine FinS.mk ?_)); (fail_if_success (with_reducible refine Le.mk ?_)); (conv => whnf)) | (refine FinS.b ?_) | (refine FinS.lb ?_) | (refine FinS.i ?_) | (refine FinS.f ?_) | (refine FinS.agg ?_) | (refine FinS.tup ?_)))
            all_goals (try refine Side.mk ?_)
            all_goals (try simp only [eq_self, decide_eq_true_eq, decide_eq_false_iff_not, Int.ofNat_lt, Int.ofNat_le, gt_iff_lt, ge_iff_le, true_and, Bool.not_eq_true', Bool.not_eq_false'] at *)
            all_goals first | (with_reducible exact w2) | (with_reducible rfl) | trivial | omega | rfl | exact fun _ _ => trivial | exact ⟨rfl, rfl⟩ | exact ⟨rfl, fun _ _ => rfl⟩ | exact ⟨rfl, rfl, fun _ _ => rfl⟩ | (exact fun _ _ _ _ => .inr trivial) | (exact ⟨trivial, fun _ _ _ _ => .inr trivial⟩) | (exact ⟨rfl, rfl, fun _ _ _ _ => .inr trivial⟩) | (exact fun i hi j hj => .inr rfl) | (exact ⟨rfl, rfl, fun i hi j hj => .inr rfl⟩) | (exact ⟨trivial, fun i hi j hj => .inr rfl⟩) | ((rw [w2]; omega))
          · exact ⟨Nat.zero_le _, rfl, hx.bd⟩
          · intro y hy
            obtain ⟨a, e2⟩ := y
            have hle2 := hy.le
            dsimp only at hle2
            have w4 : IntKind.i64.wrap ((a : Int) + (s : Int)) = ((a + s : Nat) : Int) := wadd (by omega)
            rcases Nat.lt_or_ge n (a + 2 * s) with hc | hc
            · have hst := hy.stop (by omega : ¬ a + 2 * s ≤ n)
              by_cases hm : a + s < n
              · rw [if_pos hm] at hst
                repeat' ((fail_if_success (with_reducible refine Side.mk ?_)); first | ((fail_if_success (with_reducible refine Rest.mk ?_)); first | (with_reducible exact True.intro) | (with_reducible refine Need.mk ?_ ?_) | (with_reducible refine And.intro ?_ ?_) | (with_reducible intro hcl; try (exfalso; (first | (rw [w4] at hcl; simp at hcl; omega) | (simp at hcl; omega)); done)) | ((fail_if_success (with_reducible refine FinS.mk ?_)); (fail_if_success (with_reducible refine Le.mk ?_)); (conv => whnf)) | (refine FinS.b ?_) | (refine FinS.lb ?_) | (refine FinS.i ?_) | (refine FinS.f ?_) | (refine FinS.agg ?_) | (refine FinS.tup ?_)))
                all_goals (try (refine Le.of ?_; (conv => whnf)))
                repeat' ((fail_if_success (with_reducible refine Side.mk ?_)); first | ((fail_if_success (with_reducible refine Rest.mk ?_)); first | (with_reducible exact True.intro) | (with_reducible refine Need.mk ?_ ?_) | (with_reducible refine And.intro ?_ ?_) | (with_reducible intro _) | ((fail_if_success (with_reducible refine FinS.mk ?_)); (fail_if_success (with_reducible refine Le.mk ?_)); (conv => whnf)) | (refine FinS.b ?_) | (refine FinS.lb ?_) | (refine FinS.i ?_) | (refine FinS.f ?_) | (refine FinS.agg ?_) | (refine FinS.tup ?_)))
                all_goals (try refine Side.mk ?_)
                all_goals (try simp only [Int.toNat_natCast, Nat.zero_add, dOf_row, lsV_c, bOf_b, w2, w3, w4] at *)
                all_goals (try simp only [eq_self, decide_eq_true_eq, decide_eq_false_iff_not, Int.ofNat_lt, Int.ofNat_le, gt_iff_lt, ge_iff_le, true_and, Bool.not_eq_true', Bool.not_eq_false'] at *)
                all_goals first | (with_reducible rfl) | trivial | omega | rfl | exact fun _ _ => trivial | exact ⟨rfl, rfl⟩ | exact ⟨rfl, fun _ _ => rfl⟩ | exact ⟨rfl, rfl, fun _ _ => rfl⟩ | (exact ⟨Nat.le_refl _, isI_row _ _, isBx_b _ _, c0, ⟨by omega, by omega, by omega, by omega, trivial⟩, hy.bd⟩) | (exact ⟨hnx, by show n - 2 * s < n - s; omega⟩) | (exact fun _ _ _ _ => .inr trivial) | (exact ⟨trivial, fun _ _ _ _ => .inr trivial⟩) | (exact ⟨rfl, rfl, fun _ _ _ _ => .inr trivial⟩) | (exact fun i hi j hj => .inr (by rw [hst]; rfl)) | (exact ⟨rfl, rfl, fun i hi j hj => .inr (by rw [hst]; rfl)⟩) | (exact ⟨trivial, fun i hi j hj => .inr (by rw [hst]; rfl)⟩)
              · rw [if_neg hm] at hst
                repeat' ((fail_if_success (with_reducible refine Side.mk ?_)); first | ((fail_if_success (with_reducible refine Rest.mk ?_)); first | (with_reducible exact True.intro) | (with_reducible refine Need.mk ?_ ?_) | (with_reducible refine And.intro ?_ ?_) | (with_reducible intro hcl; try (exfalso; (first | (rw [w4] at hcl; simp at hcl; omega) | (simp at hcl; omega)); done)) | ((fail_if_success (with_reducible refine FinS.mk ?_)); (fail_if_success (with_reducible refine Le.mk ?_)); (conv => whnf)) | (refine FinS.b ?_) | (refine FinS.lb ?_) | (refine FinS.i ?_) | (refine FinS.f ?_) | (refine FinS.agg ?_) | (refine FinS.tup ?_)))
                all_goals (try (refine Le.of ?_; (conv => whnf)))
                repeat' ((fail_if_success (with_reducible refine Side.mk ?_)); first | ((fail_if_success (with_reducible refine Rest.mk ?_)); first | (with_reducible exact True.intro) | (with_reducible refine Need.mk ?_ ?_) | (with_reducible refine And.intro ?_ ?_) | (with_reducible intro _) | ((fail_if_success (with_reducible refine FinS.mk ?_)); (fail_if_success (with_reducible refine Le.mk ?_)); (conv => whnf)) | (refine FinS.b ?_) | (refine FinS.lb ?_) | (refine FinS.i ?_) | (refine FinS.f ?_) | (refine FinS.agg ?_) | (refine FinS.tup ?_)))
                all_goals (try refine Side.mk ?_)
                all_goals (try simp only [Int.toNat_natCast, Nat.zero_add, dOf_row, lsV_c, bOf_b, w2, w3, w4] at *)
                all_goals (try simp only [eq_self, decide_eq_true_eq, decide_eq_false_iff_not, Int.ofNat_lt, Int.ofNat_le, gt_iff_lt, ge_iff_le, true_and, Bool.not_eq_true', Bool.not_eq_false'] at *)
                all_goals first | (with_reducible rfl) | trivial | omega | rfl | exact fun _ _ => trivial | exact ⟨rfl, rfl⟩ | exact ⟨rfl, fun _ _ => rfl⟩ | exact ⟨rfl, rfl, fun _ _ => rfl⟩ | (exact ⟨hnx, by show n - 2 * s < n - s; omega⟩) | (exact fun _ _ _ _ => .inr trivial) | (exact ⟨trivial, fun _ _ _ _ => .inr trivial⟩) | (exact ⟨rfl, rfl, fun _ _ _ _ => .inr trivial⟩) | (exact fun i hi j hj => .inr (by rw [hst]; rfl)) | (exact ⟨rfl, rfl, fun i hi j hj => .inr (by rw [hst]; rfl)⟩) | (exact ⟨trivial, fun i hi j hj => .inr (by rw [hst]; rfl)⟩)
            · have hny := hy.next hle.1 hc
              have w5 : IntKind.i64.wrap (((a + 2 * s : Nat) : Int) + ((2 * s : Nat) : Int)) = ((a + 2 * s + 2 * s : Nat) : Int) := wadd (by omega)
              repeat' ((fail_if_success (with_reducible refine Side.mk ?_)); first | ((fail_if_success (with_reducible refine Rest.mk ?_)); first | (with_reducible exact True.intro) | (with_reducible refine Need.mk ?_ ?_) | (with_reducible refine And.intro ?_ ?_) | (with_reducible intro hcl; try (exfalso; (simp at hcl; omega); done)) | ((fail_if_success (with_reducible refine FinS.mk ?_)); (fail_if_success (with_reducible refine Le.mk ?_)); (conv => whnf)) | (refine FinS.b ?_) | (refine FinS.lb ?_) | (refine FinS.i ?_) | (refine FinS.f ?_) | (refine FinS.agg ?_) | (refine FinS.tup ?_)))
              all_goals (try (refine Le.of ?_; (conv => whnf)))
              repeat' ((fail_if_success (with_reducible refine Side.mk ?_)); first | ((fail_if_success (with_reducible refine Rest.mk ?_)); first | (with_reducible exact True.intro) | (with_reducible refine Need.mk ?_ ?_) | (with_reducible refine And.intro ?_ ?_) | (with_reducible intro _) | ((fail_if_success (with_reducible refine FinS.mk ?_)); (fail_if_success (with_reducible refine Le.mk ?_)); (conv => whnf)) | (refine FinS.b ?_) | (refine FinS.lb ?_) | (refine FinS.i ?_) | (refine FinS.f ?_) | (refine FinS.agg ?_) | (refine FinS.tup ?_)))
              all_goals (try refine Side.mk ?_)
              all_goals (try simp only [Int.toNat_natCast, Nat.zero_add, dOf_row, lsV_c, bOf_b, w2, w3, w4, w5] at *)
              all_goals (try simp only [eq_self, decide_eq_true_eq, decide_eq_false_iff_not, Int.ofNat_lt, Int.ofNat_le, gt_iff_lt, ge_iff_le, true_and, Bool.not_eq_true', Bool.not_eq_false'] at *)
              all_goals first | (with_reducible rfl) | trivial | omega | rfl | exact fun _ _ => trivial | exact ⟨rfl, rfl⟩ | exact ⟨rfl, fun _ _ => rfl⟩ | exact ⟨rfl, rfl, fun _ _ => rfl⟩ | (exact ⟨Nat.le_refl _, isI_row _ _, isBx_b _ _, c0, ⟨by omega, by omega, by omega, by omega, trivial⟩, hy.bd⟩) | (exact ⟨hny, by show n - (a + 2 * s) < n - a; omega⟩) | (exact fun _ _ _ _ => .inr trivial) | (exact ⟨trivial, fun _ _ _ _ => .inr trivial⟩) | (exact ⟨rfl, rfl, fun _ _ _ _ => .inr trivial⟩) | (exact fun i hi j hj => .inr rfl) | (exact ⟨rfl, rfl, fun i hi j hj => .inr rfl⟩) | (exact ⟨trivial, fun i hi j hj => .inr rfl⟩)
        · have hst := hx.stop (by omega : ¬ s < n)
          repeat' ((fail_if_success (with_reducible refine Side.mk ?_)); first | ((fail_if_success (with_reducible refine Rest.mk ?_)); first | (with_reducible exact True.intro) | (with_reducible refine Need.mk ?_ ?_) | (with_reducible refine And.intro ?_ ?_) | (with_reducible intro hcl; try (exfalso; (simp at hcl; omega); done)) | ((fail_if_success (with_reducible refine FinS.mk ?_)); (fail_if_success (with_reducible refine Le.mk ?_)); (conv => whnf)) | (refine FinS.b ?_) | (refine FinS.lb ?_) | (refine FinS.i ?_) | (refine FinS.f ?_) | (refine FinS.agg ?_) | (refine FinS.tup ?_)))
          all_goals (try (refine Le.of ?_; (conv => whnf)))
          repeat' ((fail_if_success (with_reducible refine Side.mk ?_)); first | ((fail_if_success (with_reducible refine Rest.mk ?_)); first | (with_reducible exact True.intro) | (with_reducible refine Need.mk ?_ ?_) | (with_reducible refine And.intro ?_ ?_) | (with_reducible intro _) | ((fail_if_success (with_reducible refine FinS.mk ?_)); (fail_if_success (with_reducible refine Le.mk ?_)); (conv => whnf)) | (refine FinS.b ?_) | (refine FinS.lb ?_) | (refine FinS.i ?_) | (refine FinS.f ?_) | (refine FinS.agg ?_) | (refine FinS.tup ?_)))
          all_goals (try refine Side.mk ?_)
          all_goals (try simp only [Int.toNat_natCast, Nat.zero_add, dOf_row, lsV_c, bOf_b] at *)
          all_goals (try simp only [eq_self, decide_eq_true_eq, decide_eq_false_iff_not, Int.ofNat_lt, Int.ofNat_le, gt_iff_lt, ge_iff_le, true_and, Bool.not_eq_true', Bool.not_eq_false'] at *)
          all_goals first | (with_reducible rfl) | trivial | omega | rfl | exact fun _ _ => trivial | exact ⟨rfl, rfl⟩ | exact ⟨rfl, fun _ _ => rfl⟩ | exact ⟨rfl, rfl, fun _ _ => rfl⟩ | (exact fun i hi j hj => by rw [hst]) | (exact ⟨rfl, rfl, rfl, fun i hi j hj => by rw [hst]⟩) | (exact ⟨rfl, rfl, fun i hi j hj => by rw [hst]⟩)
    · have hnx := hx.next hc
      repeat' ((fail_if_success (with_reducible refine Side.mk ?_)); first | ((fail_if_success (with_reducible refine Rest.mk ?_)); first | (with_reducible exact True.intro) | (with_reducible refine Need.mk ?_ ?_) | (with_reducible refine And.intro ?_ ?_) | (with_reducible intro hcl; try (exfalso; (simp at hcl; omega); done)) | ((fail_if_success (with_reducible refine FinS.mk ?_)); (fail_if_success (with_reducible refine Le.mk ?_)); (conv => whnf)) | (refine FinS.b ?_) | (refine FinS.lb ?_) | (refine FinS.i ?_) | (refine FinS.f ?_) | (refine FinS.agg ?_) | (refine FinS.tup ?_)))
      all_goals (try (refine Le.of ?_; (conv => whnf)))
      repeat' ((fail_if_success (with_reducible refine Side.mk ?_)); first | ((fail_if_success (with_reducible refine Rest.mk ?_)); first | (with_reducible exact True.intro) | (with_reducible refine Need.mk ?_ ?_) | (with_reducible refine And.intro ?_ ?_) | (with_reducible intro _) | ((fail_if_success (with_reducible refine FinS.mk ?_)); (fail_if_success (with_reducible refine Le.mk ?_)); (conv => whnf)) | (refine FinS.b ?_) | (refine FinS.lb ?_) | (refine FinS.i ?_) | (refine FinS.f ?_) | (refine FinS.agg ?_) | (refine FinS.tup ?_)))
      all_goals (try refine Side.mk ?_)
      all_goals (try simp only [Int.toNat_natCast, Nat.zero_add, dOf_row, lsV_c, bOf_b, w1] at *)
      all_goals (try simp only [eq_self, decide_eq_true_eq, decide_eq_false_iff_not, Int.ofNat_lt, Int.ofNat_le, gt_iff_lt, ge_iff_le, true_and, Bool.not_eq_true', Bool.not_eq_false'] at *)
      all_goals first | (with_reducible rfl) | trivial | omega | rfl | exact fun _ _ => trivial | exact ⟨rfl, rfl⟩ | exact ⟨rfl, fun _ _ => rfl⟩ | exact ⟨rfl, rfl, fun _ _ => rfl⟩ | (exact ⟨Nat.le_refl _, isI_row _ _, isBx_b _ _, c0, by omega, hx.bd⟩) | (exact ⟨hnx, by show n - (a + 20) < n - a; omega⟩) | (exact fun _ _ _ _ => .inr trivial) | (exact ⟨trivial, fun _ _ _ _ => .inr trivial⟩) | (exact ⟨rfl, rfl, fun _ _ _ _ => .inr trivial⟩) | (exact fun i hi j hj => .inr rfl) | (exact ⟨rfl, rfl, fun i hi j hj => .inr rfl⟩) | (exact ⟨trivial, fun i hi j hj => .inr rfl⟩)
def u40 : UT := fun sz n g rest => match sz, rest with
  | 1, [.i .i64 a, .fn 29 [] [.rp [.ro 4 nn get]]] => some ([isI n g, isBx nn get, n ≤ lim, a = n, Bd nn n (dOf g)], rowI (stab (lsV (bOf get)) n (dOf g)))
  | _, _ => none
theorem U40_ok : UOK Try.prog (uAdd 40 u40 U50) := by
  refine UOK.add U50_k fun sz n g rest ps g' e hp => ?_
  unfold u40 at e
  split at e
  · cases e
    have h0 := hp _ (.head _)
    have h1 := hp _ (.tail _ (.head _))
    have h2 := hp _ (.tail _ (.tail _ (.head _)))
    have h3 := hp _ (.tail _ (.tail _ (.tail _ (.head _))))
    have h4 := hp _ (.tail _ (.tail _ (.tail _ (.tail _ (.head _)))))
    rename_i a nn get
    have h3 : a = (n : Int) := h3
    subst h3
    exact CU.leG (CU.clo (l := [.i .i64 (n : Int)]) h1 (t40 nn (bOf get) n (dOf g) h2 h4)) (le_I h0)
  · cases e
noncomputable def U40 := uAdd 40 u40 U50
theorem U40_k : UOK Try.prog U40 := U40_ok
noncomputable def fi30 : FnI := ⟨9, Try.f30.body.getD .skip, [], true⟩
theorem fi30_ok : fnGen Try.prog 30 = some fi30 := by kernel_rfl
theorem t30 (nn : Nat) (p : Nat → Bx) (n : Nat) (d : Nat → Int) (c0 : n ≤ lim) (c1 : Bd nn n d) : CU Try.prog 30 1 n (rowI d) (rowI (stab (lsV p) n d)) [.fn 29 [] [.rp [.ro 4 nn (fun j => bM (p j))]]] := by
  refine CU.of_genU (exts := exts) (eqs := eqs) (inl := []) (sum := S29) extsOK eqsOK S29_ok fi30_ok rfl (fun _ _ _ hj => flat_I hj) rfl fun cx => ?_
  refine evC_sound (E := genQ Try.prog exts eqs [] S29) (genQ_full extsOK eqsOK S29_ok).toEnvAll (hndU_sound U40_k (hnd_sound (E := genQ Try.prog exts eqs [] S29) (genQ_full extsOK eqsOK S29_ok) 6)) ?_
  repeat' ((fail_if_success (with_reducible refine Side.mk ?_)); first | ((fail_if_success (with_reducible refine Rest.mk ?_)); first | (with_reducible exact True.intro) | (with_reducible refine Need.mk ?_ ?_) | (with_reducible refine And.intro ?_ ?_) | (with_reducible intro _) | ((fail_if_success (with_reducible refine FinS.mk ?_)); (fail_if_success (with_reducible refine Le.mk ?_)); (conv => whnf)) | (refine FinS.b ?_) | (refine FinS.lb ?_) | (refine FinS.i ?_) | (refine FinS.f ?_) | (refine FinS.agg ?_) | (refine FinS.tup ?_)))
  all_goals (try (refine Le.of ?_; (conv => whnf)))
  repeat' ((fail_if_success (with_reducible refine Side.mk ?_)); first | ((fail_if_success (with_reducible refine Rest.mk ?_)); first | (with_reducible exact True.intro) | (with_reducible refine Need.mk ?_ ?_) | (with_reducible refine And.intro ?_ ?_) | (with_reducible intro _) | ((fail_if_success (with_reducible refine FinS.mk ?_)); (fail_if_success (with_reducible refine Le.mk ?_)); (conv => whnf)) | (refine FinS.b ?_) | (refine FinS.lb ?_) | (refine FinS.i ?_) | (refine FinS.f ?_) | (refine FinS.agg ?_) | (refine FinS.tup ?_)))
  all_goals (try refine Side.mk ?_)
  all_goals (try simp only [Int.toNat_natCast, Nat.zero_add, dOf_row, lsV_c, bOf_b] at *)
  all_goals (try simp only [eq_self, decide_eq_true_eq, decide_eq_false_iff_not, Int.ofNat_lt, Int.ofNat_le, gt_iff_lt, ge_iff_le, true_and, Bool.not_eq_true', Bool.not_eq_false'] at *)
  all_goals first | (with_reducible rfl) | trivial | omega | rfl | exact fun _ _ => trivial | exact ⟨rfl, rfl⟩ | exact ⟨rfl, fun _ _ => rfl⟩ | exact ⟨rfl, rfl, fun _ _ => rfl⟩ | (exact ⟨Nat.le_refl _, isI_row _ _, isBx_b _ _, c0, rfl, c1⟩) | (exact ⟨Nat.le_refl _, isI_row _ _, isBx_b _ _, c0, c1⟩) | (exact fun _ _ _ _ => trivial) | (exact fun _ _ _ _ => .inr trivial) | (exact ⟨trivial, fun _ _ _ _ => .inr trivial⟩) | (exact ⟨rfl, rfl, fun _ _ _ _ => .inr trivial⟩) | (exact fun i hi j hj => rfl) | (exact ⟨rfl, rfl, fun i hi j hj => rfl⟩) | (exact ⟨trivial, fun i hi j hj => rfl⟩) | (exact ⟨rfl, rfl, rfl, fun i hi j hj => rfl⟩)
def u30 : UT := fun sz n g rest => match sz, rest with
  | 1, [.fn 29 [] [.rp [.ro 4 nn get]]] => some ([isI n g, isBx nn get, n ≤ lim, True, Bd nn n (dOf g)], rowI (stab (lsV (bOf get)) n (dOf g)))
  | _, _ => none
theorem U30_ok : UOK Try.prog (uAdd 30 u30 U40) := by
  refine UOK.add U40_k fun sz n g rest ps g' e hp => ?_
  unfold u30 at e
  split at e
  · cases e
    have h0 := hp _ (.head _)
    have h1 := hp _ (.tail _ (.head _))
    have h2 := hp _ (.tail _ (.tail _ (.head _)))
    have h3 := hp _ (.tail _ (.tail _ (.tail _ (.head _))))
    have h4 := hp _ (.tail _ (.tail _ (.tail _ (.tail _ (.head _)))))
    rename_i nn get
    exact CU.leG (CU.clo (l := []) h1 (t30 nn (bOf get) n (dOf g) h2 h4)) (le_I h0)
  · cases e
noncomputable def U30 := uAdd 30 u30 U40
theorem U30_k : UOK Try.prog U30 := U30_ok
end Go.Ev.Sweep
