/-
  The library's SortStableFunc on points with Hull's order; for lists of at most 2^40 points.
-/
import Derived.Test.YtoilhalmmghhbaaHulH
set_option linter.unusedSimpArgs false
set_option linter.unusedVariables false
open Go Go.Proofs
namespace Go.Ev.Poly
set_option maxRecDepth 100000
set_option maxHeartbeats 1000000
open Go.Ev.So
theorem t97 : ∀ (f nn : Nat) (p : Nat → Bx) (n : Nat) (d : Nat → Nat × Nat) (a m b : Nat), n ≤ lim → (a < m ∧ m < b ∧ b ≤ n) → Bd nn n d → b - a ≤ f → CU Try.prog 97 2 n (rowP d) (rowP (sym lsV d a m b)) [.i .i64 (a : Int), .i .i64 (m : Int), .i .i64 (b : Int), .fn 48 [] []]
  | 0, nn, p, n, d, a, m, b, c0, c1, c2, c3 => by omega
  | f + 1, nn, p, n, d, a, m, b, c0, c1, c2, c3 => by
    by_cases h1 : m - a = 1
    · have e : sym lsV d a m b = fun x => d (upI a (bsF (fun h => lsV (d h) (d a)) m b - 1) x) := by rw [sym_eq, if_pos h1]
      rw [e]; exact t97A nn p n d a m b c0 c1 c2 h1
    · by_cases h2 : b - m = 1
      · have e : sym lsV d a m b = fun x => d (dnI (bsF (fun h => !lsV (d m) (d h)) a m) m x) := by rw [sym_eq, if_neg h1, if_pos h2]
        rw [e]; exact t97B nn p n d a m b c0 c1 c2 h1 h2
      · refine t97C f (UOK.add U96_k fun sz n g rest ps g' e hp => ?_) nn p n d a m b c0 c1 c2 h1 h2 c3
        unfold u50 at e
        split at e
        · cases e
          have h0 := hp _ (.head _)
          have h2 := hp _ (.tail _ (.head _))
          have h3 := hp _ (.tail _ (.tail _ (.head _)))
          have h4 := hp _ (.tail _ (.tail _ (.tail _ (.head _))))
          rename_i a b c
          obtain ⟨a1, a2, a3, a4, a5⟩ := h3
          obtain ⟨x, rfl⟩ := Int.eq_ofNat_of_zero_le a1
          obtain ⟨y, rfl⟩ := Int.eq_ofNat_of_zero_le (show 0 ≤ b by omega)
          obtain ⟨k, rfl⟩ := Int.eq_ofNat_of_zero_le (show 0 ≤ c by omega)
          exact CU.leG ((t97 f 0 (fun _ => ()) n (pOf g) x y k h2 (by omega) h4 (by omega))) (le_I h0)
        · cases e
def u97a : UT := fun sz n g rest => match sz, rest with
  | 2, [.i .i64 a, .i .i64 b, .i .i64 c, .fn 48 [] []] => some ([isPts n g, n ≤ lim, 0 ≤ a ∧ a < b ∧ b < c ∧ c ≤ n ∧ True, Bd 0 n (pOf g)], rowP (sym lsV (pOf g) a.toNat b.toNat c.toNat))
  | _, _ => none
theorem U97_ok : UOK Try.prog (uAdd 97 u97a U96) := by
  refine UOK.add U96_k fun sz n g rest ps g' e hp => ?_
  unfold u97a at e
  split at e
  · cases e
    have h0 := hp _ (.head _)
    have h2 := hp _ (.tail _ (.head _))
    have h3 := hp _ (.tail _ (.tail _ (.head _)))
    have h4 := hp _ (.tail _ (.tail _ (.tail _ (.head _))))
    rename_i a b c
    obtain ⟨a1, a2, a3, a4, a5⟩ := h3
    obtain ⟨x, rfl⟩ := Int.eq_ofNat_of_zero_le a1
    obtain ⟨y, rfl⟩ := Int.eq_ofNat_of_zero_le (show 0 ≤ b by omega)
    obtain ⟨k, rfl⟩ := Int.eq_ofNat_of_zero_le (show 0 ≤ c by omega)
    exact CU.leG ((t97 _ 0 (fun _ => ()) n (pOf g) x y k h2 (by omega) h4 (Nat.le_refl _))) (le_I h0)
  · cases e
noncomputable def U97 := uAdd 97 u97a U96
theorem U97_k : UOK Try.prog U97 := U97_ok
structure PhOK (p : Nat → Bx) (nn n : Nat) (d : Nat → Nat × Nat) (x : Nat × (Nat → Nat × Nat)) : Prop where
  le : x.1 ≤ n
  e : stP lsV n x.1 x.2 = stP lsV n 0 d
  bd : Bd nn n x.2
def phN (p : Nat → Bx) (x : Nat × (Nat → Nat × Nat)) : Nat × (Nat → Nat × Nat) := (x.1 + 20, insS lsV x.1 (x.1 + 20) x.2)
theorem PhOK.next {p : Nat → Bx} {nn n a : Nat} {d e : Nat → Nat × Nat} (h : PhOK p nn n d (a, e)) (ha : a + 20 ≤ n) : PhOK p nn n d (phN p (a, e)) := by
  have he := h.e
  dsimp only at he
  rw [stP, if_pos ha] at he
  exact ⟨ha, he, h.bd.insS ha⟩
theorem PhOK.stop {p : Nat → Bx} {nn n a : Nat} {d e : Nat → Nat × Nat} (h : PhOK p nn n d (a, e)) (ha : ¬ a + 20 ≤ n) : insS lsV a n e = stP lsV n 0 d := by
  have he := h.e
  dsimp only at he
  rw [stP, if_neg ha] at he
  exact he
structure BlOK (p : Nat → Bx) (nn n : Nat) (d : Nat → Nat × Nat) (x : Nat × (Nat → Nat × Nat)) : Prop where
  le : 0 < x.1 ∧ x.1 < 2 * n + 21
  e : stL lsV n x.1 x.2 = stab lsV n d
  bd : Bd nn n x.2
def blN (p : Nat → Bx) (n : Nat) (x : Nat × (Nat → Nat × Nat)) : Nat × (Nat → Nat × Nat) := (2 * x.1, stM lsV n x.1 0 x.2)
theorem Bd.stM {ls : Nat × Nat → Nat × Nat → Bool} {nn n s a : Nat} {d : Nat → Nat × Nat} (h : Bd nn n d) (hs : 0 < s) : Bd nn n (stM ls n s a d) := trivial
theorem Bd.stP {ls : Nat × Nat → Nat × Nat → Bool} {nn n a : Nat} {d : Nat → Nat × Nat} (h : Bd nn n d) : Bd nn n (stP ls n a d) := trivial
theorem Bd.stab {ls : Nat × Nat → Nat × Nat → Bool} {nn n : Nat} {d : Nat → Nat × Nat} (h : Bd nn n d) : Bd nn n (stab ls n d) := trivial
theorem BlOK.next {p : Nat → Bx} {nn n s : Nat} {d e : Nat → Nat × Nat} (h : BlOK p nn n d (s, e)) (hs : s < n) : BlOK p nn n d (blN p n (s, e)) := by
  have he := h.e
  have hl := h.le
  dsimp only at he hl
  rw [stL, dif_pos ⟨hl.1, hs⟩] at he
  exact ⟨by show 0 < 2 * s ∧ 2 * s < 2 * n + 21; omega, he, h.bd.stM hl.1⟩
theorem BlOK.stop {p : Nat → Bx} {nn n s : Nat} {d e : Nat → Nat × Nat} (h : BlOK p nn n d (s, e)) (hs : ¬ s < n) : e = stab lsV n d := by
  have he := h.e
  dsimp only at he
  rw [stL, dif_neg (fun c => hs c.2)] at he
  exact he
structure MgOK (p : Nat → Bx) (nn n s : Nat) (d : Nat → Nat × Nat) (x : Nat × (Nat → Nat × Nat)) : Prop where
  le : x.1 ≤ n
  e : stM lsV n s x.1 x.2 = stM lsV n s 0 d
  bd : Bd nn n x.2
def mgN (p : Nat → Bx) (s : Nat) (x : Nat × (Nat → Nat × Nat)) : Nat × (Nat → Nat × Nat) := (x.1 + 2 * s, sym lsV x.2 x.1 (x.1 + s) (x.1 + 2 * s))
theorem MgOK.next {p : Nat → Bx} {nn n s a : Nat} {d e : Nat → Nat × Nat} (h : MgOK p nn n s d (a, e)) (hs : 0 < s) (ha : a + 2 * s ≤ n) : MgOK p nn n s d (mgN p s (a, e)) := by
  have he := h.e
  dsimp only at he
  rw [So.stM, dif_pos ⟨hs, ha⟩] at he
  exact ⟨ha, he, h.bd.sym (by dsimp only; omega) (by dsimp only; omega) ha⟩
theorem MgOK.stop {p : Nat → Bx} {nn n s a : Nat} {d e : Nat → Nat × Nat} (h : MgOK p nn n s d (a, e)) (ha : ¬ a + 2 * s ≤ n) : (if a + s < n then sym lsV e a (a + s) n else e) = stM lsV n s 0 d := by
  have he := h.e
  dsimp only at he
  rw [So.stM, dif_neg (fun c => ha c.2)] at he
  exact he
noncomputable def fi80 : FnI := ⟨63, Try.f80.body.getD .skip, [], true⟩
theorem fi80_ok : fnGen Try.prog 80 = some fi80 := by kernel_rfl
theorem zHS17_I {cx : Cx} : CallH (genQ Try.prog exts eqs [] S17).P cx (hnd (genQ Try.prog exts eqs [] S17) cx 6) := hnd_sound (genQ_full extsOK eqsOK S17_ok) 6
theorem zES17_I : EnvAll (genQ Try.prog exts eqs [] S17) := (genQ_full extsOK eqsOK S17_ok).toEnvAll
theorem t80 (nn : Nat) (p : Nat → Bx) (n : Nat) (d : Nat → Nat × Nat) (c0 : n ≤ lim) (c1 : Bd nn n d) : CU Try.prog 80 2 n (rowP d) (rowP (stab lsV n d)) [.i .i64 (n : Int), .fn 48 [] []] := by
  refine CU.of_genU (exts := exts) (eqs := eqs) (inl := []) (sum := S17) extsOK eqsOK S17_ok fi80_ok rfl (fun _ _ _ hj => flat_I hj) rfl fun cx => ?_
  refine evC_sound zES17_I (hndU_sound U97_k zHS17_I) ?_
  have c0' : n ≤ 1099511627776 := c0
  repeat' ((fail_if_success (with_reducible refine Side.mk ?_)); first | ((fail_if_success (with_reducible refine Rest.mk ?_)); first | (with_reducible exact True.intro) | (with_reducible refine Need.mk ?_ ?_) | (with_reducible refine And.intro ?_ ?_) | (with_reducible intro _) | ((fail_if_success (with_reducible refine FinS.mk ?_)); (fail_if_success (with_reducible refine Le.mk ?_)); (conv => whnf)) | (refine FinS.b ?_) | (refine FinS.lb ?_) | (refine FinS.i ?_) | (refine FinS.f ?_) | (refine FinS.agg ?_) | (refine FinS.tup ?_)))
  refine loop_ruleD zES17_I (hndU_sound U97_k zHS17_I) (γ := Nat × (Nat → Nat × Nat)) (fun x => ⟨[(0, .os 0 2 0 n), (1, .i .i64 (n : Int)), (2, .fn 48 [] []), (6, .i .i64 20), (7, .i .i64 (x.1 : Int)), (8, .i .i64 ((x.1 + 20 : Nat) : Int))], [[(0, .os 0 2 0 n)]], [(0, .rows 2 n (rowP (x.2)))], 1⟩) (fun x => PhOK p nn n d x) (phN p) (fun x => n - x.1) ((0, d)) (Le.of ?_) ?_ ?_
  · conv => whnf
    repeat' ((fail_if_success (with_reducible refine Side.mk ?_)); first | ((fail_if_success (with_reducible refine Rest.mk ?_)); first | (with_reducible exact True.intro) | (with_reducible refine Need.mk ?_ ?_) | (with_reducible refine And.intro ?_ ?_) | (with_reducible intro _) | ((fail_if_success (with_reducible refine FinS.mk ?_)); (fail_if_success (with_reducible refine Le.mk ?_)); (conv => whnf)) | (refine FinS.b ?_) | (refine FinS.lb ?_) | (refine FinS.i ?_) | (refine FinS.f ?_) | (refine FinS.agg ?_) | (refine FinS.tup ?_)))
    all_goals (try (refine Le.of ?_; (conv => whnf)))
    repeat' ((fail_if_success (with_reducible refine Side.mk ?_)); first | ((fail_if_success (with_reducible refine Rest.mk ?_)); first | (with_reducible exact True.intro) | (with_reducible refine Need.mk ?_ ?_) | (with_reducible refine And.intro ?_ ?_) | (with_reducible intro _) | ((fail_if_success (with_reducible refine FinS.mk ?_)); (fail_if_success (with_reducible refine Le.mk ?_)); (conv => whnf)) | (refine FinS.b ?_) | (refine FinS.lb ?_) | (refine FinS.i ?_) | (refine FinS.f ?_) | (refine FinS.agg ?_) | (refine FinS.tup ?_)))
    all_goals (try refine Side.mk ?_)
    all_goals (try simp only [eq_self, decide_eq_true_eq, decide_eq_false_iff_not, Int.ofNat_lt, Int.ofNat_le, gt_iff_lt, ge_iff_le, true_and, Bool.not_eq_true', Bool.not_eq_false'] at *)
    all_goals first | (with_reducible rfl) | trivial | omega | rfl | exact fun _ _ => trivial | exact ⟨rfl, rfl⟩ | exact ⟨rfl, fun _ _ => rfl⟩ | exact ⟨rfl, rfl, fun _ _ => rfl⟩ | (exact fun _ _ _ _ => .inr trivial) | (exact ⟨trivial, fun _ _ _ _ => .inr trivial⟩) | (exact ⟨rfl, rfl, fun _ _ _ _ => .inr trivial⟩) | (exact fun i hi j hj => .inr rfl) | (exact ⟨rfl, rfl, fun i hi j hj => .inr rfl⟩) | (exact ⟨trivial, fun i hi j hj => .inr rfl⟩)
  · exact ⟨Nat.zero_le _, rfl, c1⟩
  · intro x hx
    obtain ⟨a, e⟩ := x
    have hle := hx.le
    dsimp only at hle
    have w1 : IntKind.i64.wrap (((a + 20 : Nat) : Int) + 20) = ((a + 20 + 20 : Nat) : Int) := (i64_wrap (by omega) (by omega)).trans (by omega)
    rcases Nat.lt_or_ge n (a + 20) with hc | hc
    · have hst := hx.stop (by omega : ¬ a + 20 ≤ n)
      repeat' ((fail_if_success (with_reducible refine Side.mk ?_)); first | ((fail_if_success (with_reducible refine Rest.mk ?_)); first | (with_reducible exact True.intro) | (with_reducible refine Need.mk ?_ ?_) | (with_reducible refine And.intro ?_ ?_) | (with_reducible intro hcl; try (exfalso; (simp at hcl; omega); done)) | ((fail_if_success (with_reducible refine FinS.mk ?_)); (fail_if_success (with_reducible refine Le.mk ?_)); (conv => whnf)) | (refine FinS.b ?_) | (refine FinS.lb ?_) | (refine FinS.i ?_) | (refine FinS.f ?_) | (refine FinS.agg ?_) | (refine FinS.tup ?_)))
      all_goals (try (refine Side.mk ?_; (try simp only [Int.toNat_natCast, Nat.zero_add, pOf_row, lsV_c] at *); (try simp only [eq_self, decide_eq_true_eq, decide_eq_false_iff_not, Int.ofNat_lt, Int.ofNat_le, gt_iff_lt, ge_iff_le, true_and, Bool.not_eq_true', Bool.not_eq_false'] at *); all_goals first | (with_reducible rfl) | trivial | omega | rfl | exact fun _ _ => trivial | exact ⟨rfl, rfl⟩ | exact ⟨rfl, fun _ _ => rfl⟩ | exact ⟨rfl, rfl, fun _ _ => rfl⟩ | (exact ⟨Nat.le_refl _, isPts_pt _ _, c0, by omega, hx.bd⟩)))
      refine loop_ruleD zES17_I (hndU_sound U97_k zHS17_I) (γ := Nat × (Nat → Nat × Nat)) (fun x => ⟨[(0, .os 0 2 0 n), (1, .i .i64 (n : Int)), (2, .fn 48 [] []), (6, .i .i64 (x.1 : Int))], [[(0, .os 0 2 0 n)]], [(0, .rows 2 n (rowP (x.2)))], 1⟩) (fun x => BlOK p nn n d x) (blN p n) (fun x => n - x.1) ((20, stP lsV n 0 d)) (Le.of ?_) ?_ ?_
      · conv => whnf
        repeat' ((fail_if_success (with_reducible refine Side.mk ?_)); first | ((fail_if_success (with_reducible refine Rest.mk ?_)); first | (with_reducible exact True.intro) | (with_reducible refine Need.mk ?_ ?_) | (with_reducible refine And.intro ?_ ?_) | (with_reducible intro _) | ((fail_if_success (with_reducible refine FinS.mk ?_)); (fail_if_success (with_reducible refine Le.mk ?_)); (conv => whnf)) | (refine FinS.b ?_) | (refine FinS.lb ?_) | (refine FinS.i ?_) | (refine FinS.f ?_) | (refine FinS.agg ?_) | (refine FinS.tup ?_)))
        all_goals (try (refine Le.of ?_; (conv => whnf)))
        repeat' ((fail_if_success (with_reducible refine Side.mk ?_)); first | ((fail_if_success (with_reducible refine Rest.mk ?_)); first | (with_reducible exact True.intro) | (with_reducible refine Need.mk ?_ ?_) | (with_reducible refine And.intro ?_ ?_) | (with_reducible intro _) | ((fail_if_success (with_reducible refine FinS.mk ?_)); (fail_if_success (with_reducible refine Le.mk ?_)); (conv => whnf)) | (refine FinS.b ?_) | (refine FinS.lb ?_) | (refine FinS.i ?_) | (refine FinS.f ?_) | (refine FinS.agg ?_) | (refine FinS.tup ?_)))
        all_goals (try refine Side.mk ?_)
        all_goals (try simp only [Int.toNat_natCast, Nat.zero_add, pOf_row, lsV_c] at *)
        all_goals (try simp only [eq_self, decide_eq_true_eq, decide_eq_false_iff_not, Int.ofNat_lt, Int.ofNat_le, gt_iff_lt, ge_iff_le, true_and, Bool.not_eq_true', Bool.not_eq_false'] at *)
        all_goals first | (with_reducible rfl) | trivial | omega | rfl | exact fun _ _ => trivial | exact ⟨rfl, rfl⟩ | exact ⟨rfl, fun _ _ => rfl⟩ | exact ⟨rfl, rfl, fun _ _ => rfl⟩ | (exact fun _ _ _ _ => .inr trivial) | (exact ⟨trivial, fun _ _ _ _ => .inr trivial⟩) | (exact ⟨rfl, rfl, fun _ _ _ _ => .inr trivial⟩) | (exact fun i hi j hj => .inr (by rw [← hst])) | (exact ⟨rfl, rfl, fun i hi j hj => .inr (by rw [← hst])⟩) | (exact ⟨trivial, fun i hi j hj => .inr (by rw [← hst])⟩)
      · exact ⟨by dsimp only; omega, rfl, c1.stP⟩
      · clear hst hx hle hc w1
        intro x hx
        obtain ⟨s, e⟩ := x
        have hle := hx.le
        dsimp only at hle
        have w2 : IntKind.i64.wrap (2 * (s : Int)) = ((2 * s : Nat) : Int) := (i64_wrap (by omega) (by omega)).trans (by omega)
        have w3 : IntKind.i64.wrap ((s : Int) * 2) = ((2 * s : Nat) : Int) := (i64_wrap (by omega) (by omega)).trans (by omega)
        rcases Nat.lt_or_ge s n with hsn | hsn
        · have hnx := hx.next hsn
          repeat' ((fail_if_success (with_reducible refine Side.mk ?_)); first | ((fail_if_success (with_reducible refine Rest.mk ?_)); first | (with_reducible exact True.intro) | (with_reducible refine Need.mk ?_ ?_) | (with_reducible refine And.intro ?_ ?_) | (with_reducible intro hcl; try (exfalso; (simp at hcl; omega); done)) | ((fail_if_success (with_reducible refine FinS.mk ?_)); (fail_if_success (with_reducible refine Le.mk ?_)); (conv => whnf)) | (refine FinS.b ?_) | (refine FinS.lb ?_) | (refine FinS.i ?_) | (refine FinS.f ?_) | (refine FinS.agg ?_) | (refine FinS.tup ?_)))
          refine loop_ruleD zES17_I (hndU_sound U97_k zHS17_I) (γ := Nat × (Nat → Nat × Nat)) (fun x => ⟨[(0, .os 0 2 0 n), (1, .i .i64 (n : Int)), (2, .fn 48 [] []), (6, .i .i64 (s : Int)), (7, .i .i64 (x.1 : Int)), (8, .i .i64 ((x.1 + 2 * s : Nat) : Int))], [[(0, .os 0 2 0 n)]], [(0, .rows 2 n (rowP (x.2)))], 1⟩) (fun x => MgOK p nn n s e x) (mgN p s) (fun x => n - x.1) ((0, e)) (Le.of ?_) ?_ ?_
          · conv => whnf
            repeat' ((fail_if_success (with_reducible refine Side.mk ?_)); first | ((fail_if_success (with_reducible refine Rest.mk ?_)); first | (with_reducible exact True.intro) | (with_reducible refine Need.mk ?_ ?_) | (with_reducible refine And.intro ?_ ?_) | (with_reducible intro _) | ((fail_if_success (with_reducible refine FinS.mk ?_)); (fail_if_success (with_reducible refine Le.mk ?_)); (conv => whnf)) | (refine FinS.b ?_) | (refine FinS.lb ?_) | (refine FinS.i ?_) | (refine FinS.f ?_) | (refine FinS.agg ?_) | (refine FinS.tup ?_)))
            all_goals (try (refine Le.of ?_; (conv => whnf)))
            repeat' ((fail_if_success (with_reducible refine Side.mk ?_)); first | ((fail_if_success (with_reducible refine Rest.mk ?_)); first | (with_reducible exact True.intro) | (with_reducible refine Need.mk ?_ ?_) | (with_reducible refine And.intro ?_ ?_) | (with_reducible intro _) | ((fail_if_success (with_reducible refine FinS.mk ?_)); (fail_if_success (with_reducible refine Le.mk ?_)); (conv => whnf)) | (refine FinS.b ?_) | (refine FinS.lb ?_) | (refine FinS.i ?_) | (refine FinS.f ?_) | (refine FinS.agg ?_) | (refine FinS.tup ?_)))
            all_goals (try refine Side.mk ?_)
            all_goals (try simp only [eq_self, decide_eq_true_eq, decide_eq_false_iff_not, Int.ofNat_lt, Int.ofNat_le, gt_iff_lt, ge_iff_le, true_and, Bool.not_eq_true', Bool.not_eq_false'] at *)
            all_goals first | (with_reducible exact w2) | (with_reducible rfl) | trivial | omega | rfl | exact fun _ _ => trivial | exact ⟨rfl, rfl⟩ | exact ⟨rfl, fun _ _ => rfl⟩ | exact ⟨rfl, rfl, fun _ _ => rfl⟩ | (exact fun _ _ _ _ => .inr trivial) | (exact ⟨trivial, fun _ _ _ _ => .inr trivial⟩) | (exact ⟨rfl, rfl, fun _ _ _ _ => .inr trivial⟩) | (exact fun i hi j hj => .inr rfl) | (exact ⟨rfl, rfl, fun i hi j hj => .inr rfl⟩) | (exact ⟨trivial, fun i hi j hj => .inr rfl⟩) | ((rw [w2]; omega))
          · exact ⟨Nat.zero_le _, rfl, hx.bd⟩
          · intro y hy
            obtain ⟨a, e2⟩ := y
            have hle2 := hy.le
            dsimp only at hle2
            have w4 : IntKind.i64.wrap ((a : Int) + (s : Int)) = ((a + s : Nat) : Int) := wadd (by omega)
            rcases Nat.lt_or_ge n (a + 2 * s) with hc | hc
            · have hst := hy.stop (by omega : ¬ a + 2 * s ≤ n)
              by_cases hm : a + s < n
              · rw [if_pos hm] at hst
                repeat' ((fail_if_success (with_reducible refine Side.mk ?_)); first | ((fail_if_success (with_reducible refine Rest.mk ?_)); first | (with_reducible exact True.intro) | (with_reducible refine Need.mk ?_ ?_) | (with_reducible refine And.intro ?_ ?_) | (with_reducible intro hcl; try (exfalso; (first | (rw [w4] at hcl; simp at hcl; omega) | (simp at hcl; omega)); done)) | ((fail_if_success (with_reducible refine FinS.mk ?_)); (fail_if_success (with_reducible refine Le.mk ?_)); (conv => whnf)) | (refine FinS.b ?_) | (refine FinS.lb ?_) | (refine FinS.i ?_) | (refine FinS.f ?_) | (refine FinS.agg ?_) | (refine FinS.tup ?_)))
                all_goals (try (refine Le.of ?_; (conv => whnf)))
                repeat' ((fail_if_success (with_reducible refine Side.mk ?_)); first | ((fail_if_success (with_reducible refine Rest.mk ?_)); first | (with_reducible exact True.intro) | (with_reducible refine Need.mk ?_ ?_) | (with_reducible refine And.intro ?_ ?_) | (with_reducible intro _) | ((fail_if_success (with_reducible refine FinS.mk ?_)); (fail_if_success (with_reducible refine Le.mk ?_)); (conv => whnf)) | (refine FinS.b ?_) | (refine FinS.lb ?_) | (refine FinS.i ?_) | (refine FinS.f ?_) | (refine FinS.agg ?_) | (refine FinS.tup ?_)))
                all_goals (try refine Side.mk ?_)
                all_goals (try simp only [Int.toNat_natCast, Nat.zero_add, pOf_row, lsV_c, w2, w3, w4] at *)
                all_goals (try simp only [eq_self, decide_eq_true_eq, decide_eq_false_iff_not, Int.ofNat_lt, Int.ofNat_le, gt_iff_lt, ge_iff_le, true_and, Bool.not_eq_true', Bool.not_eq_false'] at *)
                all_goals first | (with_reducible rfl) | trivial | omega | rfl | exact fun _ _ => trivial | exact ⟨rfl, rfl⟩ | exact ⟨rfl, fun _ _ => rfl⟩ | exact ⟨rfl, rfl, fun _ _ => rfl⟩ | (exact ⟨Nat.le_refl _, isPts_pt _ _, c0, ⟨by omega, by omega, by omega, by omega, trivial⟩, hy.bd⟩) | (exact ⟨hnx, by show n - 2 * s < n - s; omega⟩) | (exact fun _ _ _ _ => .inr trivial) | (exact ⟨trivial, fun _ _ _ _ => .inr trivial⟩) | (exact ⟨rfl, rfl, fun _ _ _ _ => .inr trivial⟩) | (exact fun i hi j hj => .inr (by rw [hst]; rfl)) | (exact ⟨rfl, rfl, fun i hi j hj => .inr (by rw [hst]; rfl)⟩) | (exact ⟨trivial, fun i hi j hj => .inr (by rw [hst]; rfl)⟩)
              · rw [if_neg hm] at hst
                repeat' ((fail_if_success (with_reducible refine Side.mk ?_)); first | ((fail_if_success (with_reducible refine Rest.mk ?_)); first | (with_reducible exact True.intro) | (with_reducible refine Need.mk ?_ ?_) | (with_reducible refine And.intro ?_ ?_) | (with_reducible intro hcl; try (exfalso; (first | (rw [w4] at hcl; simp at hcl; omega) | (simp at hcl; omega)); done)) | ((fail_if_success (with_reducible refine FinS.mk ?_)); (fail_if_success (with_reducible refine Le.mk ?_)); (conv => whnf)) | (refine FinS.b ?_) | (refine FinS.lb ?_) | (refine FinS.i ?_) | (refine FinS.f ?_) | (refine FinS.agg ?_) | (refine FinS.tup ?_)))
                all_goals (try (refine Le.of ?_; (conv => whnf)))
                repeat' ((fail_if_success (with_reducible refine Side.mk ?_)); first | ((fail_if_success (with_reducible refine Rest.mk ?_)); first | (with_reducible exact True.intro) | (with_reducible refine Need.mk ?_ ?_) | (with_reducible refine And.intro ?_ ?_) | (with_reducible intro _) | ((fail_if_success (with_reducible refine FinS.mk ?_)); (fail_if_success (with_reducible refine Le.mk ?_)); (conv => whnf)) | (refine FinS.b ?_) | (refine FinS.lb ?_) | (refine FinS.i ?_) | (refine FinS.f ?_) | (refine FinS.agg ?_) | (refine FinS.tup ?_)))
                all_goals (try refine Side.mk ?_)
                all_goals (try simp only [Int.toNat_natCast, Nat.zero_add, pOf_row, lsV_c, w2, w3, w4] at *)
                all_goals (try simp only [eq_self, decide_eq_true_eq, decide_eq_false_iff_not, Int.ofNat_lt, Int.ofNat_le, gt_iff_lt, ge_iff_le, true_and, Bool.not_eq_true', Bool.not_eq_false'] at *)
                all_goals first | (with_reducible rfl) | trivial | omega | rfl | exact fun _ _ => trivial | exact ⟨rfl, rfl⟩ | exact ⟨rfl, fun _ _ => rfl⟩ | exact ⟨rfl, rfl, fun _ _ => rfl⟩ | (exact ⟨hnx, by show n - 2 * s < n - s; omega⟩) | (exact fun _ _ _ _ => .inr trivial) | (exact ⟨trivial, fun _ _ _ _ => .inr trivial⟩) | (exact ⟨rfl, rfl, fun _ _ _ _ => .inr trivial⟩) | (exact fun i hi j hj => .inr (by rw [hst]; rfl)) | (exact ⟨rfl, rfl, fun i hi j hj => .inr (by rw [hst]; rfl)⟩) | (exact ⟨trivial, fun i hi j hj => .inr (by rw [hst]; rfl)⟩)
            · have hny := hy.next hle.1 hc
              have w5 : IntKind.i64.wrap (((a + 2 * s : Nat) : Int) + ((2 * s : Nat) : Int)) = ((a + 2 * s + 2 * s : Nat) : Int) := wadd (by omega)
              repeat' ((fail_if_success (with_reducible refine Side.mk ?_)); first | ((fail_if_success (with_reducible refine Rest.mk ?_)); first | (with_reducible exact True.intro) | (with_reducible refine Need.mk ?_ ?_) | (with_reducible refine And.intro ?_ ?_) | (with_reducible intro hcl; try (exfalso; (simp at hcl; omega); done)) | ((fail_if_success (with_reducible refine FinS.mk ?_)); (fail_if_success (with_reducible refine Le.mk ?_)); (conv => whnf)) | (refine FinS.b ?_) | (refine FinS.lb ?_) | (refine FinS.i ?_) | (refine FinS.f ?_) | (refine FinS.agg ?_) | (refine FinS.tup ?_)))
              all_goals (try (refine Le.of ?_; (conv => whnf)))
              repeat' ((fail_if_success (with_reducible refine Side.mk ?_)); first | ((fail_if_success (with_reducible refine Rest.mk ?_)); first | (with_reducible exact True.intro) | (with_reducible refine Need.mk ?_ ?_) | (with_reducible refine And.intro ?_ ?_) | (with_reducible intro _) | ((fail_if_success (with_reducible refine FinS.mk ?_)); (fail_if_success (with_reducible refine Le.mk ?_)); (conv => whnf)) | (refine FinS.b ?_) | (refine FinS.lb ?_) | (refine FinS.i ?_) | (refine FinS.f ?_) | (refine FinS.agg ?_) | (refine FinS.tup ?_)))
              all_goals (try refine Side.mk ?_)
              all_goals (try simp only [Int.toNat_natCast, Nat.zero_add, pOf_row, lsV_c, w2, w3, w4, w5] at *)
              all_goals (try simp only [eq_self, decide_eq_true_eq, decide_eq_false_iff_not, Int.ofNat_lt, Int.ofNat_le, gt_iff_lt, ge_iff_le, true_and, Bool.not_eq_true', Bool.not_eq_false'] at *)
              all_goals first | (with_reducible rfl) | trivial | omega | rfl | exact fun _ _ => trivial | exact ⟨rfl, rfl⟩ | exact ⟨rfl, fun _ _ => rfl⟩ | exact ⟨rfl, rfl, fun _ _ => rfl⟩ | (exact ⟨Nat.le_refl _, isPts_pt _ _, c0, ⟨by omega, by omega, by omega, by omega, trivial⟩, hy.bd⟩) | (exact ⟨hny, by show n - (a + 2 * s) < n - a; omega⟩) | (exact fun _ _ _ _ => .inr trivial) | (exact ⟨trivial, fun _ _ _ _ => .inr trivial⟩) | (exact ⟨rfl, rfl, fun _ _ _ _ => .inr trivial⟩) | (exact fun i hi j hj => .inr rfl) | (exact ⟨rfl, rfl, fun i hi j hj => .inr rfl⟩) | (exact ⟨trivial, fun i hi j hj => .inr rfl⟩)
        · have hst := hx.stop (by omega : ¬ s < n)
          repeat' ((fail_if_success (with_reducible refine Side.mk ?_)); first | ((fail_if_success (with_reducible refine Rest.mk ?_)); first | (with_reducible exact True.intro) | (with_reducible refine Need.mk ?_ ?_) | (with_reducible refine And.intro ?_ ?_) | (with_reducible intro hcl; try (exfalso; (simp at hcl; omega); done)) | ((fail_if_success (with_reducible refine FinS.mk ?_)); (fail_if_success (with_reducible refine Le.mk ?_)); (conv => whnf)) | (refine FinS.b ?_) | (refine FinS.lb ?_) | (refine FinS.i ?_) | (refine FinS.f ?_) | (refine FinS.agg ?_) | (refine FinS.tup ?_)))
          all_goals (try (refine Le.of ?_; (conv => whnf)))
          repeat' ((fail_if_success (with_reducible refine Side.mk ?_)); first | ((fail_if_success (with_reducible refine Rest.mk ?_)); first | (with_reducible exact True.intro) | (with_reducible refine Need.mk ?_ ?_) | (with_reducible refine And.intro ?_ ?_) | (with_reducible intro _) | ((fail_if_success (with_reducible refine FinS.mk ?_)); (fail_if_success (with_reducible refine Le.mk ?_)); (conv => whnf)) | (refine FinS.b ?_) | (refine FinS.lb ?_) | (refine FinS.i ?_) | (refine FinS.f ?_) | (refine FinS.agg ?_) | (refine FinS.tup ?_)))
          all_goals (try refine Side.mk ?_)
          all_goals (try simp only [Int.toNat_natCast, Nat.zero_add, pOf_row, lsV_c] at *)
          all_goals (try simp only [eq_self, decide_eq_true_eq, decide_eq_false_iff_not, Int.ofNat_lt, Int.ofNat_le, gt_iff_lt, ge_iff_le, true_and, Bool.not_eq_true', Bool.not_eq_false'] at *)
          all_goals first | (with_reducible rfl) | trivial | omega | rfl | exact fun _ _ => trivial | exact ⟨rfl, rfl⟩ | exact ⟨rfl, fun _ _ => rfl⟩ | exact ⟨rfl, rfl, fun _ _ => rfl⟩ | (exact fun i hi j hj => by rw [hst]) | (exact ⟨rfl, rfl, rfl, fun i hi j hj => by rw [hst]⟩) | (exact ⟨rfl, rfl, fun i hi j hj => by rw [hst]⟩)
    · have hnx := hx.next hc
      repeat' ((fail_if_success (with_reducible refine Side.mk ?_)); first | ((fail_if_success (with_reducible refine Rest.mk ?_)); first | (with_reducible exact True.intro) | (with_reducible refine Need.mk ?_ ?_) | (with_reducible refine And.intro ?_ ?_) | (with_reducible intro hcl; try (exfalso; (simp at hcl; omega); done)) | ((fail_if_success (with_reducible refine FinS.mk ?_)); (fail_if_success (with_reducible refine Le.mk ?_)); (conv => whnf)) | (refine FinS.b ?_) | (refine FinS.lb ?_) | (refine FinS.i ?_) | (refine FinS.f ?_) | (refine FinS.agg ?_) | (refine FinS.tup ?_)))
      all_goals (try (refine Le.of ?_; (conv => whnf)))
      repeat' ((fail_if_success (with_reducible refine Side.mk ?_)); first | ((fail_if_success (with_reducible refine Rest.mk ?_)); first | (with_reducible exact True.intro) | (with_reducible refine Need.mk ?_ ?_) | (with_reducible refine And.intro ?_ ?_) | (with_reducible intro _) | ((fail_if_success (with_reducible refine FinS.mk ?_)); (fail_if_success (with_reducible refine Le.mk ?_)); (conv => whnf)) | (refine FinS.b ?_) | (refine FinS.lb ?_) | (refine FinS.i ?_) | (refine FinS.f ?_) | (refine FinS.agg ?_) | (refine FinS.tup ?_)))
      all_goals (try refine Side.mk ?_)
      all_goals (try simp only [Int.toNat_natCast, Nat.zero_add, pOf_row, lsV_c, w1] at *)
      all_goals (try simp only [eq_self, decide_eq_true_eq, decide_eq_false_iff_not, Int.ofNat_lt, Int.ofNat_le, gt_iff_lt, ge_iff_le, true_and, Bool.not_eq_true', Bool.not_eq_false'] at *)
      all_goals first | (with_reducible rfl) | trivial | omega | rfl | exact fun _ _ => trivial | exact ⟨rfl, rfl⟩ | exact ⟨rfl, fun _ _ => rfl⟩ | exact ⟨rfl, rfl, fun _ _ => rfl⟩ | (exact ⟨Nat.le_refl _, isPts_pt _ _, c0, by omega, hx.bd⟩) | (exact ⟨hnx, by show n - (a + 20) < n - a; omega⟩) | (exact fun _ _ _ _ => .inr trivial) | (exact ⟨trivial, fun _ _ _ _ => .inr trivial⟩) | (exact ⟨rfl, rfl, fun _ _ _ _ => .inr trivial⟩) | (exact fun i hi j hj => .inr rfl) | (exact ⟨rfl, rfl, fun i hi j hj => .inr rfl⟩) | (exact ⟨trivial, fun i hi j hj => .inr rfl⟩)
def u80 : UT := fun sz n g rest => match sz, rest with
  | 2, [.i .i64 a, .fn 48 [] []] => some ([isPts n g, n ≤ lim, a = n, Bd 0 n (pOf g)], rowP (stab lsV n (pOf g)))
  | _, _ => none
theorem U80_ok : UOK Try.prog (uAdd 80 u80 U97) := by
  refine UOK.add U97_k fun sz n g rest ps g' e hp => ?_
  unfold u80 at e
  split at e
  · cases e
    have h0 := hp _ (.head _)
    have h2 := hp _ (.tail _ (.head _))
    have h3 := hp _ (.tail _ (.tail _ (.head _)))
    have h4 := hp _ (.tail _ (.tail _ (.tail _ (.head _))))
    rename_i a
    have h3 : a = (n : Int) := h3
    subst h3
    exact CU.leG ((t80 0 (fun _ => ()) n (pOf g) h2 h4)) (le_I h0)
  · cases e
noncomputable def U80 := uAdd 80 u80 U97
theorem U80_k : UOK Try.prog U80 := U80_ok
noncomputable def fi47 : FnI := ⟨9, Try.f47.body.getD .skip, [], true⟩
theorem fi47_ok : fnGen Try.prog 47 = some fi47 := by kernel_rfl
theorem t47 (nn : Nat) (p : Nat → Bx) (n : Nat) (d : Nat → Nat × Nat) (c0 : n ≤ lim) (c1 : Bd nn n d) : CU Try.prog 47 2 n (rowP d) (rowP (stab lsV n d)) [.fn 48 [] []] := by
  refine CU.of_genU (exts := exts) (eqs := eqs) (inl := []) (sum := S17) extsOK eqsOK S17_ok fi47_ok rfl (fun _ _ _ hj => flat_I hj) rfl fun cx => ?_
  refine evC_sound (E := genQ Try.prog exts eqs [] S17) (genQ_full extsOK eqsOK S17_ok).toEnvAll (hndU_sound U80_k (hnd_sound (E := genQ Try.prog exts eqs [] S17) (genQ_full extsOK eqsOK S17_ok) 6)) ?_
  repeat' ((fail_if_success (with_reducible refine Side.mk ?_)); first | ((fail_if_success (with_reducible refine Rest.mk ?_)); first | (with_reducible exact True.intro) | (with_reducible refine Need.mk ?_ ?_) | (with_reducible refine And.intro ?_ ?_) | (with_reducible intro _) | ((fail_if_success (with_reducible refine FinS.mk ?_)); (fail_if_success (with_reducible refine Le.mk ?_)); (conv => whnf)) | (refine FinS.b ?_) | (refine FinS.lb ?_) | (refine FinS.i ?_) | (refine FinS.f ?_) | (refine FinS.agg ?_) | (refine FinS.tup ?_)))
  all_goals (try (refine Le.of ?_; (conv => whnf)))
  repeat' ((fail_if_success (with_reducible refine Side.mk ?_)); first | ((fail_if_success (with_reducible refine Rest.mk ?_)); first | (with_reducible exact True.intro) | (with_reducible refine Need.mk ?_ ?_) | (with_reducible refine And.intro ?_ ?_) | (with_reducible intro _) | ((fail_if_success (with_reducible refine FinS.mk ?_)); (fail_if_success (with_reducible refine Le.mk ?_)); (conv => whnf)) | (refine FinS.b ?_) | (refine FinS.lb ?_) | (refine FinS.i ?_) | (refine FinS.f ?_) | (refine FinS.agg ?_) | (refine FinS.tup ?_)))
  all_goals (try refine Side.mk ?_)
  all_goals (try simp only [Int.toNat_natCast, Nat.zero_add, pOf_row, lsV_c] at *)
  all_goals (try simp only [eq_self, decide_eq_true_eq, decide_eq_false_iff_not, Int.ofNat_lt, Int.ofNat_le, gt_iff_lt, ge_iff_le, true_and, Bool.not_eq_true', Bool.not_eq_false'] at *)
  all_goals first | (with_reducible rfl) | trivial | omega | rfl | exact fun _ _ => trivial | exact ⟨rfl, rfl⟩ | exact ⟨rfl, fun _ _ => rfl⟩ | exact ⟨rfl, rfl, fun _ _ => rfl⟩ | (exact ⟨Nat.le_refl _, isPts_pt _ _, c0, rfl, c1⟩) | (exact ⟨Nat.le_refl _, isPts_pt _ _, c0, c1⟩) | (exact fun _ _ _ _ => trivial) | (exact fun _ _ _ _ => .inr trivial) | (exact ⟨trivial, fun _ _ _ _ => .inr trivial⟩) | (exact ⟨rfl, rfl, fun _ _ _ _ => .inr trivial⟩) | (exact fun i hi j hj => rfl) | (exact ⟨rfl, rfl, fun i hi j hj => rfl⟩) | (exact ⟨trivial, fun i hi j hj => rfl⟩) | (exact ⟨rfl, rfl, rfl, fun i hi j hj => rfl⟩)
def u47 : UT := fun sz n g rest => match sz, rest with
  | 2, [.fn 48 [] []] => some ([isPts n g, n ≤ lim, True, Bd 0 n (pOf g)], rowP (stab lsV n (pOf g)))
  | _, _ => none
theorem U47_ok : UOK Try.prog (uAdd 47 u47 U80) := by
  refine UOK.add U80_k fun sz n g rest ps g' e hp => ?_
  unfold u47 at e
  split at e
  · cases e
    have h0 := hp _ (.head _)
    have h2 := hp _ (.tail _ (.head _))
    have h3 := hp _ (.tail _ (.tail _ (.head _)))
    have h4 := hp _ (.tail _ (.tail _ (.tail _ (.head _))))
    exact CU.leG ((t47 0 (fun _ => ()) n (pOf g) h2 h4)) (le_I h0)
  · cases e
noncomputable def U47 := uAdd 47 u47 U80
theorem U47_k : UOK Try.prog U47 := U47_ok
end Go.Ev.Poly
