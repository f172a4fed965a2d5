/-
  The contract of the library's Compact on points; for lists of at most 2^40 points.
-/
import Derived.Test.YtoilhalmmghhbaaHulL
set_option linter.unusedSimpArgs false
set_option linter.unusedVariables false
open Go Go.Proofs
namespace Go.Ev.Poly
set_option maxRecDepth 100000
set_option maxHeartbeats 1000000
open Go.Ev.So
/-- Each point but those that are the one before them. -/
def cpL (d : Nat → Nat × Nat) : Nat → List (Nat × Nat)
  | 0 => []
  | i + 1 => bif Nat.blt 0 i && eqQ (d i) (d (i - 1)) then cpL d i else cpL d i ++ [d i]
theorem cp_t {d : Nat → Nat × Nat} {i : Nat} (h : 0 < i) (hq : eqQ (d i) (d (i - 1)) = true) : cpL d (i + 1) = cpL d i := by
  show (bif _ && _ then _ else _) = _
  rw [hq, blt_t h]; rfl
theorem cp_f {d : Nat → Nat × Nat} {i : Nat} (hq : 0 < i → eqQ (d i) (d (i - 1)) = false) : cpL d (i + 1) = cpL d i ++ [d i] := by
  show (bif _ && _ then _ else _) = _
  rcases Nat.eq_zero_or_pos i with h | h
  · subst h; rfl
  · rw [hq h, blt_t h]; rfl
theorem cp_len (d : Nat → Nat × Nat) : ∀ i, (cpL d i).length ≤ i
  | 0 => Nat.le_refl _
  | i + 1 => by
    have := cp_len d i
    show (bif _ && _ then cpL d i else cpL d i ++ [d i]).length ≤ _
    cases (Nat.blt 0 i && eqQ (d i) (d (i - 1))) <;> simp <;> omega
/-- So far, none is the one before it. -/
structure Al (d : Nat → Nat × Nat) (n k : Nat) : Prop where
  le : 1 ≤ k ∧ k ≤ n
  e : (cpL d k).length = k
  g : ∀ z, z < k → d z = (cpL d k).getD z z2
theorem getD_ap {l : List (Nat × Nat)} {v : Nat × Nat} {z : Nat} : (l ++ [v]).getD z z2 = if z < l.length then l.getD z z2 else if z = l.length then v else z2 := by
  split
  · rename_i h; simp [List.getD_eq_getElem?_getD, List.getElem?_append_left h]
  · split
    · rename_i h; subst h; simp [List.getD_eq_getElem?_getD]
    · rename_i h1 h2
      rw [List.getD_eq_getElem?_getD, List.getElem?_append_right (by omega), List.getElem?_eq_none (by simp; omega)]; rfl
theorem Al.one {d : Nat → Nat × Nat} {n : Nat} (h : 0 < n) : Al d n 1 := by
  refine ⟨⟨Nat.le_refl _, h⟩, rfl, fun z hz => ?_⟩
  cases z with
  | zero => rfl
  | succ z => omega
theorem Al.next {d : Nat → Nat × Nat} {n k : Nat} (h : Al d n k) (hk : k < n) (hq : eqQ (d k) (d (k - 1)) = false) : Al d n (k + 1) := by
  refine ⟨⟨by omega, hk⟩, ?_, fun z hz => ?_⟩
  · rw [cp_f fun _ => hq]; simp [h.e]
  · rw [cp_f fun _ => hq, getD_ap, h.e]
    split
    · rename_i h1; exact h.g z h1
    · rw [if_pos (by omega)]; congr 1; omega
def updP (e : Nat → Nat × Nat) (k : Nat) (v : Nat × Nat) : Nat → Nat × Nat := fun z => bif Nat.beq z k then v else e z
theorem updP_at {e : Nat → Nat × Nat} {k : Nat} {v : Nat × Nat} : updP e k v k = v := by unfold updP; rw [show Nat.beq k k = true by simp]; rfl
theorem updP_ne {e : Nat → Nat × Nat} {k z : Nat} {v : Nat × Nat} (h : z ≠ k) : updP e k v z = e z := by unfold updP; rw [beq_ff h]; rfl
theorem upd_1 {e : Nat → Nat × Nat} {k z : Nat} {v : Nat × Nat} : updL (Nat.beq z k) (rowP e z) 0 [.f .f64 v.1, .f .f64 v.2] = rowP (updP e k v) z := by
  unfold rowP updP
  cases Nat.beq z k <;> rfl
structure CpA (d : Nat → Nat × Nat) (k0 n : Nat) (x : Nat × (Nat × (Nat → Nat × Nat))) : Prop where
  le : 1 ≤ x.1 ∧ k0 + x.1 ≤ n
  k : x.2.1 = (cpL d (k0 + x.1)).length
  lt : x.2.1 < k0 + x.1
  lo : ∀ z, z < x.2.1 → x.2.2 z = (cpL d (k0 + x.1)).getD z z2
  hi : ∀ z, k0 + x.1 ≤ z + 1 → x.2.2 z = d z
def cpN (k0 : Nat) (x : Nat × (Nat × (Nat → Nat × Nat))) : Nat × (Nat × (Nat → Nat × Nat)) := bif eqQ (x.2.2 (k0 + x.1)) (x.2.2 (k0 + (x.1 - 1))) then (x.1 + 1, (x.2.1, x.2.2)) else (x.1 + 1, (x.2.1 + 1, updP x.2.2 x.2.1 (x.2.2 (k0 + x.1))))
theorem CpA.start {d : Nat → Nat × Nat} {k n : Nat} (h : Al d n k) (hk : k < n) (hq : eqQ (d k) (d (k - 1)) = true) : CpA d k n (1, (k, d)) := by
  have hl := h.le
  refine ⟨⟨Nat.le_refl _, hk⟩, ?_, Nat.lt_succ_self k, fun z hz => ?_, fun z _ => rfl⟩
  · dsimp only; rw [cp_t (by omega) hq, h.e]
  · dsimp only at hz ⊢; rw [cp_t (by omega) hq]; exact h.g z hz
theorem CpA.dup {d : Nat → Nat × Nat} {k0 n j k : Nat} {e : Nat → Nat × Nat} (h : CpA d k0 n (j, (k, e))) (hj : k0 + j < n) (hq : eqQ (e (k0 + j)) (e (k0 + (j - 1))) = true) : CpA d k0 n (j + 1, (k, e)) := by
  obtain ⟨h1, h2, h3, h4, h5⟩ := h
  dsimp only at h1 h2 h3 h4 h5
  have e1 : e (k0 + j) = d (k0 + j) := h5 _ (by omega)
  have e2 : e (k0 + (j - 1)) = d (k0 + j - 1) := (h5 _ (by omega)).trans (congrArg d (by omega))
  rw [e1, e2] at hq
  have hc : cpL d (k0 + (j + 1)) = cpL d (k0 + j) := cp_t (i := k0 + j) (by omega) hq
  refine ⟨⟨by dsimp only; omega, by dsimp only; omega⟩, ?_, ?_, fun z hz => ?_, fun z hz => ?_⟩
  · dsimp only; rw [hc]; exact h2
  · dsimp only; omega
  · dsimp only at hz ⊢; rw [hc]; exact h4 z hz
  · dsimp only at hz ⊢; exact h5 z (by omega)
theorem CpA.new {d : Nat → Nat × Nat} {k0 n j k : Nat} {e : Nat → Nat × Nat} (h : CpA d k0 n (j, (k, e))) (hj : k0 + j < n) (hq : eqQ (e (k0 + j)) (e (k0 + (j - 1))) = false) : CpA d k0 n (j + 1, (k + 1, updP e k (e (k0 + j)))) := by
  obtain ⟨h1, h2, h3, h4, h5⟩ := h
  dsimp only at h1 h2 h3 h4 h5
  have e1 : e (k0 + j) = d (k0 + j) := h5 _ (by omega)
  have e2 : e (k0 + (j - 1)) = d (k0 + j - 1) := (h5 _ (by omega)).trans (congrArg d (by omega))
  rw [e1, e2] at hq
  have hc : cpL d (k0 + (j + 1)) = cpL d (k0 + j) ++ [d (k0 + j)] := cp_f (i := k0 + j) fun _ => hq
  refine ⟨⟨by dsimp only; omega, by dsimp only; omega⟩, ?_, ?_, fun z hz => ?_, fun z hz => ?_⟩
  · dsimp only; rw [hc, h2]; simp
  · dsimp only; omega
  · dsimp only at hz ⊢
    rw [hc, getD_ap, ← h2]
    by_cases hz2 : z = k
    · subst hz2; rw [updP_at, if_neg (by omega), if_pos rfl, e1]
    · rw [updP_ne hz2, if_pos (by omega)]; exact h4 z (by omega)
  · dsimp only at hz ⊢; rw [updP_ne (by omega)]; exact h5 z (by omega)
theorem cpN_t {k0 j k : Nat} {e : Nat → Nat × Nat} (hq : eqQ (e (k0 + j)) (e (k0 + (j - 1))) = true) : cpN k0 (j, (k, e)) = (j + 1, (k, e)) := by
  show (bif eqQ (e (k0 + j)) (e (k0 + (j - 1))) then _ else _) = _
  rw [hq]; rfl
theorem cpN_f {k0 j k : Nat} {e : Nat → Nat × Nat} (hq : eqQ (e (k0 + j)) (e (k0 + (j - 1))) = false) : cpN k0 (j, (k, e)) = (j + 1, (k + 1, updP e k (e (k0 + j)))) := by
  show (bif eqQ (e (k0 + j)) (e (k0 + (j - 1))) then _ else _) = _
  rw [hq]; rfl
theorem clr_lo {e : Nat → Nat × Nat} {k z j : Nat} {l : List (Nat × Nat)} (hz : z < k) (h : e z = l.getD z z2) : getM ((match Nat.blt z k with | true => rowP e z | false => [] : List MV)) j = getM (lstR l z) j := by
  rw [blt_t hz]
  show getM (ptM (e z)) j = getM (ptM (l.getD z z2)) j
  rw [h]
noncomputable def fi51 : FnI := ⟨61, Try.f51.body.getD .skip, [.tmp 2], true⟩
theorem fi51_ok : fnGen Try.prog 51 = some fi51 := by kernel_rfl
theorem zHS55_M {cx : Cx} : CallH (genQ Try.prog exts eqs [] S55).P cx (hnd (genQ Try.prog exts eqs [] S55) cx 6) := hnd_sound (genQ_full extsOK eqsOK S55_ok) 6
theorem zES55_M : EnvAll (genQ Try.prog exts eqs [] S55) := (genQ_full extsOK eqsOK S55_ok).toEnvAll
theorem t51 (n : Nat) (d : Nat → Nat × Nat) (c0 : n ≤ lim) (c1 : 0 < n) : CV Try.prog 51 2 n (rowP d) [] (cpL d n).length (lstR (cpL d n)) (some (cpL d n).length) := by
  refine CV.of_code zES55_M (fnGen_ok fi51_ok) c1 (fun i hi j hj => flat2 hj) rfl fun cx => ?_
  refine evC_sound (genQ_full extsOK eqsOK S55_ok).toEnvAll (hndU_sound U53_k zHS55_M) ?_
  have c0' : n ≤ 1099511627776 := c0
  by_cases hn1 : n = 1
  · subst hn1
    have hx : Al d 1 1 := Al.one (by omega)
    repeat' ((fail_if_success (with_reducible refine Side.mk ?_)); first | (refine Rest.mk (drawR_sound zES55_M mixOK (hndU_sound U53_k zHS55_M) ?_)) | ((fail_if_success (with_reducible refine Rest.mk ?_)); first | (with_reducible exact True.intro) | (with_reducible refine Need.mk ?_ ?_) | (with_reducible refine And.intro ?_ ?_) | (with_reducible intro hcl; try (exfalso; (simp only [decide_eq_true_eq, decide_eq_false_iff_not] at hcl; omega); done)) | ((fail_if_success (with_reducible refine FinS.mk ?_)); (fail_if_success (with_reducible refine Le.mk ?_)); (conv => whnf)) | (refine FinS.b ?_) | (refine FinS.lb ?_) | (refine FinS.i ?_) | (refine FinS.f ?_) | (refine FinS.agg ?_) | (refine FinS.tup ?_)))
    all_goals (try (refine Le.of ?_; (conv => whnf)))
    repeat' ((fail_if_success (with_reducible refine Side.mk ?_)); first | (refine Rest.mk (drawR_sound zES55_M mixOK (hndU_sound U53_k zHS55_M) ?_)) | ((fail_if_success (with_reducible refine Rest.mk ?_)); first | (with_reducible exact True.intro) | (with_reducible refine Need.mk ?_ ?_) | (with_reducible refine And.intro ?_ ?_) | (with_reducible intro _) | ((fail_if_success (with_reducible refine FinS.mk ?_)); (fail_if_success (with_reducible refine Le.mk ?_)); (conv => whnf)) | (refine FinS.b ?_) | (refine FinS.lb ?_) | (refine FinS.i ?_) | (refine FinS.f ?_) | (refine FinS.agg ?_) | (refine FinS.tup ?_)))
    all_goals (try refine Side.mk ?_)
    all_goals (try simp only [Int.toNat_natCast, Nat.zero_add, Option.getD_none, Option.getD_some, eqQ_c, Nat.succ_eq_add_one] at *)
    all_goals (try simp only [eq_self, decide_eq_true_eq, decide_eq_false_iff_not, Int.ofNat_lt, Int.ofNat_le, gt_iff_lt, ge_iff_le, true_and, Bool.not_eq_true', Bool.not_eq_false'] at *)
    all_goals first | (with_reducible rfl) | trivial | omega | rfl | exact fun _ _ => trivial | exact ⟨rfl, rfl⟩ | exact ⟨rfl, fun _ _ => rfl⟩ | exact ⟨rfl, rfl, fun _ _ => rfl⟩ | (exact ⟨rfl, rfl, cp_len d 1, cp_len d 1, fun z hz j hj => congrArg (fun v => getM (ptM v) j) (hx.g z (Nat.lt_of_lt_of_le hz (cp_len d 1)))⟩) | (exact ⟨cp_len d 1, cp_len d 1, fun z hz j hj => congrArg (fun v => getM (ptM v) j) (hx.g z (Nat.lt_of_lt_of_le hz (cp_len d 1)))⟩) | (exact hx.e.symm) | (exact ⟨rfl, rfl, rfl, hx.e.symm⟩)
  repeat' ((fail_if_success (with_reducible refine Side.mk ?_)); first | (refine Rest.mk (drawR_sound zES55_M mixOK (hndU_sound U53_k zHS55_M) ?_)) | ((fail_if_success (with_reducible refine Rest.mk ?_)); first | (with_reducible exact True.intro) | (with_reducible refine Need.mk ?_ ?_) | (with_reducible refine And.intro ?_ ?_) | (with_reducible intro hcl; try (exfalso; (simp only [decide_eq_true_eq, decide_eq_false_iff_not] at hcl; omega); done)) | ((fail_if_success (with_reducible refine FinS.mk ?_)); (fail_if_success (with_reducible refine Le.mk ?_)); (conv => whnf)) | (refine FinS.b ?_) | (refine FinS.lb ?_) | (refine FinS.i ?_) | (refine FinS.f ?_) | (refine FinS.agg ?_) | (refine FinS.tup ?_)))
  refine loop_ruleD zES55_M (hndU_sound U53_k zHS55_M) (γ := Nat) (fun k => ⟨[(0, .os 0 2 0 n), (3, .i .i64 (k : Int))], [[(0, .os 0 2 0 n)]], [(0, .rows 2 n (rowP d))], 1⟩) (fun k => Al d n k) Nat.succ (fun k => n - k) (1) (Le.of ?_) ?_ ?_
  · conv => whnf
    repeat' ((fail_if_success (with_reducible refine Side.mk ?_)); first | (refine Rest.mk (drawR_sound zES55_M mixOK (hndU_sound U53_k zHS55_M) ?_)) | ((fail_if_success (with_reducible refine Rest.mk ?_)); first | (with_reducible exact True.intro) | (with_reducible refine Need.mk ?_ ?_) | (with_reducible refine And.intro ?_ ?_) | (with_reducible intro _) | ((fail_if_success (with_reducible refine FinS.mk ?_)); (fail_if_success (with_reducible refine Le.mk ?_)); (conv => whnf)) | (refine FinS.b ?_) | (refine FinS.lb ?_) | (refine FinS.i ?_) | (refine FinS.f ?_) | (refine FinS.agg ?_) | (refine FinS.tup ?_)))
    all_goals (try (refine Le.of ?_; (conv => whnf)))
    repeat' ((fail_if_success (with_reducible refine Side.mk ?_)); first | (refine Rest.mk (drawR_sound zES55_M mixOK (hndU_sound U53_k zHS55_M) ?_)) | ((fail_if_success (with_reducible refine Rest.mk ?_)); first | (with_reducible exact True.intro) | (with_reducible refine Need.mk ?_ ?_) | (with_reducible refine And.intro ?_ ?_) | (with_reducible intro _) | ((fail_if_success (with_reducible refine FinS.mk ?_)); (fail_if_success (with_reducible refine Le.mk ?_)); (conv => whnf)) | (refine FinS.b ?_) | (refine FinS.lb ?_) | (refine FinS.i ?_) | (refine FinS.f ?_) | (refine FinS.agg ?_) | (refine FinS.tup ?_)))
    all_goals (try refine Side.mk ?_)
    all_goals (try simp only [eq_self, decide_eq_true_eq, decide_eq_false_iff_not, Int.ofNat_lt, Int.ofNat_le, gt_iff_lt, ge_iff_le, true_and, Bool.not_eq_true', Bool.not_eq_false'] at *)
    all_goals first | (with_reducible rfl) | trivial | omega | rfl | exact fun _ _ => trivial | exact ⟨rfl, rfl⟩ | exact ⟨rfl, fun _ _ => rfl⟩ | exact ⟨rfl, rfl, fun _ _ => rfl⟩ | (exact fun _ _ _ _ => .inr trivial) | (exact ⟨trivial, fun _ _ _ _ => .inr trivial⟩) | (exact ⟨rfl, rfl, fun _ _ _ _ => .inr trivial⟩) | (exact fun k hk j hj => .inr rfl) | (exact ⟨rfl, rfl, fun k hk j hj => .inr rfl⟩) | (exact ⟨trivial, fun k hk j hj => .inr rfl⟩)
  · exact Al.one c1
  · intro k hx
    have hle := hx.le
    have w1 : IntKind.i64.wrap ((k : Int) - 1) = ((k - 1 : Nat) : Int) := wsub1 (by omega) (by omega)
    have w2 : IntKind.i64.wrap ((k : Int) + 1) = ((k + 1 : Nat) : Int) := wadd1 (by omega)
    rcases Nat.lt_or_ge k n with hlt | hge
    · cases hq : eqQ (d k) (d (k - 1))
      · have hnx := hx.next hlt hq
        repeat' ((fail_if_success (with_reducible refine Side.mk ?_)); first | (refine Rest.mk (drawR_sound zES55_M mixOK (hndU_sound U53_k zHS55_M) ?_)) | ((fail_if_success (with_reducible refine Rest.mk ?_)); first | (with_reducible exact True.intro) | (with_reducible refine Need.mk ?_ ?_) | (with_reducible refine And.intro ?_ ?_) | (with_reducible intro hcl; try (exfalso; (first | (simp only [decide_eq_true_eq, decide_eq_false_iff_not] at hcl; omega) | (simp only [Int.toNat_natCast, Nat.zero_add, Option.getD_none, Option.getD_some, eqQ_c, Nat.succ_eq_add_one, w1] at hcl; rw [hq] at hcl; first | (cases hcl; done) | exact absurd hcl (by decide))); done)) | ((fail_if_success (with_reducible refine FinS.mk ?_)); (fail_if_success (with_reducible refine Le.mk ?_)); (conv => whnf)) | (refine FinS.b ?_) | (refine FinS.lb ?_) | (refine FinS.i ?_) | (refine FinS.f ?_) | (refine FinS.agg ?_) | (refine FinS.tup ?_)))
        all_goals (try (refine Le.of ?_; (conv => whnf)))
        repeat' ((fail_if_success (with_reducible refine Side.mk ?_)); first | (refine Rest.mk (drawR_sound zES55_M mixOK (hndU_sound U53_k zHS55_M) ?_)) | ((fail_if_success (with_reducible refine Rest.mk ?_)); first | (with_reducible exact True.intro) | (with_reducible refine Need.mk ?_ ?_) | (with_reducible refine And.intro ?_ ?_) | (with_reducible intro _) | ((fail_if_success (with_reducible refine FinS.mk ?_)); (fail_if_success (with_reducible refine Le.mk ?_)); (conv => whnf)) | (refine FinS.b ?_) | (refine FinS.lb ?_) | (refine FinS.i ?_) | (refine FinS.f ?_) | (refine FinS.agg ?_) | (refine FinS.tup ?_)))
        all_goals (try refine Side.mk ?_)
        all_goals (try simp only [Int.toNat_natCast, Nat.zero_add, Option.getD_none, Option.getD_some, eqQ_c, Nat.succ_eq_add_one, w1, w2] at *)
        all_goals (try simp only [eq_self, decide_eq_true_eq, decide_eq_false_iff_not, Int.ofNat_lt, Int.ofNat_le, gt_iff_lt, ge_iff_le, true_and, Bool.not_eq_true', Bool.not_eq_false'] at *)
        all_goals first | (with_reducible rfl) | trivial | omega | rfl | exact fun _ _ => trivial | exact ⟨rfl, rfl⟩ | exact ⟨rfl, fun _ _ => rfl⟩ | exact ⟨rfl, rfl, fun _ _ => rfl⟩ | (exact ⟨hnx, by show n - (k + 1) < n - k; omega⟩) | (exact fun _ _ _ _ => .inr trivial) | (exact ⟨trivial, fun _ _ _ _ => .inr trivial⟩) | (exact ⟨rfl, rfl, fun _ _ _ _ => .inr trivial⟩) | (exact fun i hi j hj => .inr rfl) | (exact ⟨rfl, rfl, fun i hi j hj => .inr rfl⟩) | (exact ⟨trivial, fun i hi j hj => .inr rfl⟩)
      · have hst := CpA.start hx hlt hq
        repeat' ((fail_if_success (with_reducible refine Side.mk ?_)); first | (refine Rest.mk (drawR_sound zES55_M mixOK (hndU_sound U53_k zHS55_M) ?_)) | ((fail_if_success (with_reducible refine Rest.mk ?_)); first | (with_reducible exact True.intro) | (with_reducible refine Need.mk ?_ ?_) | (with_reducible refine And.intro ?_ ?_) | (with_reducible intro hcl; try (exfalso; (first | (simp only [decide_eq_true_eq, decide_eq_false_iff_not] at hcl; omega) | (simp only [Int.toNat_natCast, Nat.zero_add, Option.getD_none, Option.getD_some, eqQ_c, Nat.succ_eq_add_one, w1] at hcl; rw [hq] at hcl; first | (cases hcl; done) | exact absurd hcl (by decide))); done)) | ((fail_if_success (with_reducible refine FinS.mk ?_)); (fail_if_success (with_reducible refine Le.mk ?_)); (conv => whnf)) | (refine FinS.b ?_) | (refine FinS.lb ?_) | (refine FinS.i ?_) | (refine FinS.f ?_) | (refine FinS.agg ?_) | (refine FinS.tup ?_)))
        all_goals (try (refine Side.mk ?_; (try simp only [Int.toNat_natCast, Nat.zero_add, Option.getD_none, Option.getD_some, eqQ_c, Nat.succ_eq_add_one, w1, w2] at *); (try simp only [eq_self, decide_eq_true_eq, decide_eq_false_iff_not, Int.ofNat_lt, Int.ofNat_le, gt_iff_lt, ge_iff_le, true_and, Bool.not_eq_true', Bool.not_eq_false'] at *); all_goals first | (with_reducible rfl) | trivial | omega | rfl | exact fun _ _ => trivial | exact ⟨rfl, rfl⟩ | exact ⟨rfl, fun _ _ => rfl⟩ | exact ⟨rfl, rfl, fun _ _ => rfl⟩ | (exact ⟨by omega, by omega⟩) | (exact ⟨by omega, by omega, by omega, by omega⟩) | (exact fun _ => ⟨by omega, by omega⟩)))
        refine loop_ruleD zES55_M (hndU_sound U53_k zHS55_M) (γ := Nat × (Nat × (Nat → Nat × Nat))) (fun x => ⟨[(0, .os 0 2 0 n), (3, .i .i64 (x.2.1 : Int)), (4, .os 0 2 k (n - k)), (5, .i .i64 (x.1 : Int))], [[(0, .os 0 2 0 n)]], [(0, .rows 2 n (rowP x.2.2))], 1⟩) (fun x => CpA d k n x) (cpN k) (fun x => n - x.1) ((1, (k, d))) (Le.of ?_) ?_ ?_
        · conv => whnf
          repeat' ((fail_if_success (with_reducible refine Side.mk ?_)); first | (refine Rest.mk (drawR_sound zES55_M mixOK (hndU_sound U53_k zHS55_M) ?_)) | ((fail_if_success (with_reducible refine Rest.mk ?_)); first | (with_reducible exact True.intro) | (with_reducible refine Need.mk ?_ ?_) | (with_reducible refine And.intro ?_ ?_) | (with_reducible intro _) | ((fail_if_success (with_reducible refine FinS.mk ?_)); (fail_if_success (with_reducible refine Le.mk ?_)); (conv => whnf)) | (refine FinS.b ?_) | (refine FinS.lb ?_) | (refine FinS.i ?_) | (refine FinS.f ?_) | (refine FinS.agg ?_) | (refine FinS.tup ?_)))
          all_goals (try (refine Le.of ?_; (conv => whnf)))
          repeat' ((fail_if_success (with_reducible refine Side.mk ?_)); first | (refine Rest.mk (drawR_sound zES55_M mixOK (hndU_sound U53_k zHS55_M) ?_)) | ((fail_if_success (with_reducible refine Rest.mk ?_)); first | (with_reducible exact True.intro) | (with_reducible refine Need.mk ?_ ?_) | (with_reducible refine And.intro ?_ ?_) | (with_reducible intro _) | ((fail_if_success (with_reducible refine FinS.mk ?_)); (fail_if_success (with_reducible refine Le.mk ?_)); (conv => whnf)) | (refine FinS.b ?_) | (refine FinS.lb ?_) | (refine FinS.i ?_) | (refine FinS.f ?_) | (refine FinS.agg ?_) | (refine FinS.tup ?_)))
          all_goals (try refine Side.mk ?_)
          all_goals (try simp only [Int.toNat_natCast, Nat.zero_add, Option.getD_none, Option.getD_some, eqQ_c, Nat.succ_eq_add_one] at *)
          all_goals (try simp only [eq_self, decide_eq_true_eq, decide_eq_false_iff_not, Int.ofNat_lt, Int.ofNat_le, gt_iff_lt, ge_iff_le, true_and, Bool.not_eq_true', Bool.not_eq_false'] at *)
          all_goals first | (with_reducible rfl) | trivial | omega | rfl | exact fun _ _ => trivial | exact ⟨rfl, rfl⟩ | exact ⟨rfl, fun _ _ => rfl⟩ | exact ⟨rfl, rfl, fun _ _ => rfl⟩ | (exact fun _ _ _ _ => .inr trivial) | (exact ⟨trivial, fun _ _ _ _ => .inr trivial⟩) | (exact ⟨rfl, rfl, fun _ _ _ _ => .inr trivial⟩) | (exact fun k hk j hj => .inr rfl) | (exact ⟨rfl, rfl, fun k hk j hj => .inr rfl⟩) | (exact ⟨trivial, fun k hk j hj => .inr rfl⟩)
        · exact hst
        · clear hst hq hx w1 w2
          intro x hx
          obtain ⟨j, q, e⟩ := x
          have hle2 := hx.le
          have hlt2 := hx.lt
          dsimp only at hle2 hlt2
          have w1 : IntKind.i64.wrap ((j : Int) - 1) = ((j - 1 : Nat) : Int) := wsub1 (by omega) (by omega)
          have w2 : IntKind.i64.wrap ((j : Int) + 1) = ((j + 1 : Nat) : Int) := wadd1 (by omega)
          have w3 : IntKind.i64.wrap ((q : Int) + 1) = ((q + 1 : Nat) : Int) := wadd1 (by omega)
          rcases Nat.lt_or_ge (k + j) n with hj | hj
          · cases hq : eqQ (e (k + j)) (e (k + (j - 1)))
            · have hnx := hx.new hj hq
              rw [cpN_f hq]
              repeat' ((fail_if_success (with_reducible refine Side.mk ?_)); first | (refine Rest.mk (drawR_sound zES55_M mixOK (hndU_sound U53_k zHS55_M) ?_)) | ((fail_if_success (with_reducible refine Rest.mk ?_)); first | (with_reducible exact True.intro) | (with_reducible refine Need.mk ?_ ?_) | (with_reducible refine And.intro ?_ ?_) | (with_reducible intro hcl; try (exfalso; (first | (simp only [decide_eq_true_eq, decide_eq_false_iff_not] at hcl; omega) | (simp only [Int.toNat_natCast, Nat.zero_add, Option.getD_none, Option.getD_some, eqQ_c, Nat.succ_eq_add_one, w1] at hcl; rw [hq] at hcl; first | (cases hcl; done) | exact absurd hcl (by decide))); done)) | ((fail_if_success (with_reducible refine FinS.mk ?_)); (fail_if_success (with_reducible refine Le.mk ?_)); (conv => whnf)) | (refine FinS.b ?_) | (refine FinS.lb ?_) | (refine FinS.i ?_) | (refine FinS.f ?_) | (refine FinS.agg ?_) | (refine FinS.tup ?_)))
              all_goals (try (refine Le.of ?_; (conv => whnf)))
              repeat' ((fail_if_success (with_reducible refine Side.mk ?_)); first | (refine Rest.mk (drawR_sound zES55_M mixOK (hndU_sound U53_k zHS55_M) ?_)) | ((fail_if_success (with_reducible refine Rest.mk ?_)); first | (with_reducible exact True.intro) | (with_reducible refine Need.mk ?_ ?_) | (with_reducible refine And.intro ?_ ?_) | (with_reducible intro _) | ((fail_if_success (with_reducible refine FinS.mk ?_)); (fail_if_success (with_reducible refine Le.mk ?_)); (conv => whnf)) | (refine FinS.b ?_) | (refine FinS.lb ?_) | (refine FinS.i ?_) | (refine FinS.f ?_) | (refine FinS.agg ?_) | (refine FinS.tup ?_)))
              all_goals (try refine Side.mk ?_)
              all_goals (try simp only [Int.toNat_natCast, Nat.zero_add, Option.getD_none, Option.getD_some, eqQ_c, Nat.succ_eq_add_one, w1, w2, w3] at *)
              all_goals (try simp only [eq_self, decide_eq_true_eq, decide_eq_false_iff_not, Int.ofNat_lt, Int.ofNat_le, gt_iff_lt, ge_iff_le, true_and, Bool.not_eq_true', Bool.not_eq_false'] at *)
              all_goals first | (with_reducible rfl) | trivial | omega | rfl | exact fun _ _ => trivial | exact ⟨rfl, rfl⟩ | exact ⟨rfl, fun _ _ => rfl⟩ | exact ⟨rfl, rfl, fun _ _ => rfl⟩ | (exact ⟨hnx, by show n - (j + 1) < n - j; omega⟩) | (exact ⟨by omega, by omega⟩) | (exact fun _ _ _ _ => .inr trivial) | (exact ⟨trivial, fun _ _ _ _ => .inr trivial⟩) | (exact ⟨rfl, rfl, fun _ _ _ _ => .inr trivial⟩) | (exact fun i hi j hj => .inr (congrArg (fun l => getM l j) upd_1)) | (exact ⟨rfl, rfl, fun i hi j hj => .inr (congrArg (fun l => getM l j) upd_1)⟩) | (exact ⟨trivial, fun i hi j hj => .inr (congrArg (fun l => getM l j) upd_1)⟩)
            · have hnx := hx.dup hj hq
              rw [cpN_t hq]
              repeat' ((fail_if_success (with_reducible refine Side.mk ?_)); first | (refine Rest.mk (drawR_sound zES55_M mixOK (hndU_sound U53_k zHS55_M) ?_)) | ((fail_if_success (with_reducible refine Rest.mk ?_)); first | (with_reducible exact True.intro) | (with_reducible refine Need.mk ?_ ?_) | (with_reducible refine And.intro ?_ ?_) | (with_reducible intro hcl; try (exfalso; (first | (simp only [decide_eq_true_eq, decide_eq_false_iff_not] at hcl; omega) | (simp only [Int.toNat_natCast, Nat.zero_add, Option.getD_none, Option.getD_some, eqQ_c, Nat.succ_eq_add_one, w1] at hcl; rw [hq] at hcl; first | (cases hcl; done) | exact absurd hcl (by decide))); done)) | ((fail_if_success (with_reducible refine FinS.mk ?_)); (fail_if_success (with_reducible refine Le.mk ?_)); (conv => whnf)) | (refine FinS.b ?_) | (refine FinS.lb ?_) | (refine FinS.i ?_) | (refine FinS.f ?_) | (refine FinS.agg ?_) | (refine FinS.tup ?_)))
              all_goals (try (refine Le.of ?_; (conv => whnf)))
              repeat' ((fail_if_success (with_reducible refine Side.mk ?_)); first | (refine Rest.mk (drawR_sound zES55_M mixOK (hndU_sound U53_k zHS55_M) ?_)) | ((fail_if_success (with_reducible refine Rest.mk ?_)); first | (with_reducible exact True.intro) | (with_reducible refine Need.mk ?_ ?_) | (with_reducible refine And.intro ?_ ?_) | (with_reducible intro _) | ((fail_if_success (with_reducible refine FinS.mk ?_)); (fail_if_success (with_reducible refine Le.mk ?_)); (conv => whnf)) | (refine FinS.b ?_) | (refine FinS.lb ?_) | (refine FinS.i ?_) | (refine FinS.f ?_) | (refine FinS.agg ?_) | (refine FinS.tup ?_)))
              all_goals (try refine Side.mk ?_)
              all_goals (try simp only [Int.toNat_natCast, Nat.zero_add, Option.getD_none, Option.getD_some, eqQ_c, Nat.succ_eq_add_one, w1, w2, w3] at *)
              all_goals (try simp only [eq_self, decide_eq_true_eq, decide_eq_false_iff_not, Int.ofNat_lt, Int.ofNat_le, gt_iff_lt, ge_iff_le, true_and, Bool.not_eq_true', Bool.not_eq_false'] at *)
              all_goals first | (with_reducible rfl) | trivial | omega | rfl | exact fun _ _ => trivial | exact ⟨rfl, rfl⟩ | exact ⟨rfl, fun _ _ => rfl⟩ | exact ⟨rfl, rfl, fun _ _ => rfl⟩ | (exact ⟨hnx, by show n - (j + 1) < n - j; omega⟩) | (exact ⟨by omega, by omega⟩) | (exact fun _ _ _ _ => .inr trivial) | (exact ⟨trivial, fun _ _ _ _ => .inr trivial⟩) | (exact ⟨rfl, rfl, fun _ _ _ _ => .inr trivial⟩) | (exact fun i hi j hj => .inr rfl) | (exact ⟨rfl, rfl, fun i hi j hj => .inr rfl⟩) | (exact ⟨trivial, fun i hi j hj => .inr rfl⟩)
          · have hkn : k + j = n := by omega
            have hlen : q = (cpL d n).length := hx.k.trans (by rw [hkn])
            have hlo : ∀ z, z < q → e z = (cpL d n).getD z z2 := fun z hz => (hx.lo z hz).trans (by rw [hkn])
            have hfin : ∀ z, z < (cpL d n).length → ∀ j, getM ((match Nat.blt z q with | true => rowP e z | false => [] : List MV)) j = getM (lstR (cpL d n) z) j := fun z hz j => clr_lo (by omega) (hlo z (by omega))
            repeat' ((fail_if_success (with_reducible refine Side.mk ?_)); first | (refine Rest.mk (drawR_sound zES55_M mixOK (hndU_sound U53_k zHS55_M) ?_)) | ((fail_if_success (with_reducible refine Rest.mk ?_)); first | (with_reducible exact True.intro) | (with_reducible refine Need.mk ?_ ?_) | (with_reducible refine And.intro ?_ ?_) | (with_reducible intro hcl; try (exfalso; (simp only [decide_eq_true_eq, decide_eq_false_iff_not] at hcl; omega); done)) | ((fail_if_success (with_reducible refine FinS.mk ?_)); (fail_if_success (with_reducible refine Le.mk ?_)); (conv => whnf)) | (refine FinS.b ?_) | (refine FinS.lb ?_) | (refine FinS.i ?_) | (refine FinS.f ?_) | (refine FinS.agg ?_) | (refine FinS.tup ?_)))
            all_goals (try (refine Le.of ?_; (conv => whnf)))
            repeat' ((fail_if_success (with_reducible refine Side.mk ?_)); first | (refine Rest.mk (drawR_sound zES55_M mixOK (hndU_sound U53_k zHS55_M) ?_)) | ((fail_if_success (with_reducible refine Rest.mk ?_)); first | (with_reducible exact True.intro) | (with_reducible refine Need.mk ?_ ?_) | (with_reducible refine And.intro ?_ ?_) | (with_reducible intro _) | ((fail_if_success (with_reducible refine FinS.mk ?_)); (fail_if_success (with_reducible refine Le.mk ?_)); (conv => whnf)) | (refine FinS.b ?_) | (refine FinS.lb ?_) | (refine FinS.i ?_) | (refine FinS.f ?_) | (refine FinS.agg ?_) | (refine FinS.tup ?_)))
            all_goals (try refine Side.mk ?_)
            all_goals (try simp only [Int.toNat_natCast, Nat.zero_add, Option.getD_none, Option.getD_some, eqQ_c, Nat.succ_eq_add_one, w1, w2, w3] at *)
            all_goals (try simp only [eq_self, decide_eq_true_eq, decide_eq_false_iff_not, Int.ofNat_lt, Int.ofNat_le, gt_iff_lt, ge_iff_le, true_and, Bool.not_eq_true', Bool.not_eq_false'] at *)
            all_goals first | (with_reducible rfl) | trivial | omega | rfl | exact fun _ _ => trivial | exact ⟨rfl, rfl⟩ | exact ⟨rfl, fun _ _ => rfl⟩ | exact ⟨rfl, rfl, fun _ _ => rfl⟩ | (exact ⟨by omega, by omega, by omega, by omega⟩) | (exact ⟨by omega, by omega⟩) | (exact ⟨rfl, rfl, cp_len d n, cp_len d n, fun z hz j hj => hfin z hz j⟩) | (exact ⟨rfl, cp_len d n, cp_len d n, fun z hz j hj => hfin z hz j⟩) | (exact ⟨cp_len d n, cp_len d n, fun z hz j hj => hfin z hz j⟩) | (exact hlen) | (exact ⟨rfl, rfl, rfl, hlen⟩) | (exact ⟨rfl, rfl, hlen⟩)
    · obtain rfl : k = n := by omega
      repeat' ((fail_if_success (with_reducible refine Side.mk ?_)); first | (refine Rest.mk (drawR_sound zES55_M mixOK (hndU_sound U53_k zHS55_M) ?_)) | ((fail_if_success (with_reducible refine Rest.mk ?_)); first | (with_reducible exact True.intro) | (with_reducible refine Need.mk ?_ ?_) | (with_reducible refine And.intro ?_ ?_) | (with_reducible intro hcl; try (exfalso; (simp only [decide_eq_true_eq, decide_eq_false_iff_not] at hcl; omega); done)) | ((fail_if_success (with_reducible refine FinS.mk ?_)); (fail_if_success (with_reducible refine Le.mk ?_)); (conv => whnf)) | (refine FinS.b ?_) | (refine FinS.lb ?_) | (refine FinS.i ?_) | (refine FinS.f ?_) | (refine FinS.agg ?_) | (refine FinS.tup ?_)))
      all_goals (try (refine Le.of ?_; (conv => whnf)))
      repeat' ((fail_if_success (with_reducible refine Side.mk ?_)); first | (refine Rest.mk (drawR_sound zES55_M mixOK (hndU_sound U53_k zHS55_M) ?_)) | ((fail_if_success (with_reducible refine Rest.mk ?_)); first | (with_reducible exact True.intro) | (with_reducible refine Need.mk ?_ ?_) | (with_reducible refine And.intro ?_ ?_) | (with_reducible intro _) | ((fail_if_success (with_reducible refine FinS.mk ?_)); (fail_if_success (with_reducible refine Le.mk ?_)); (conv => whnf)) | (refine FinS.b ?_) | (refine FinS.lb ?_) | (refine FinS.i ?_) | (refine FinS.f ?_) | (refine FinS.agg ?_) | (refine FinS.tup ?_)))
      all_goals (try refine Side.mk ?_)
      all_goals (try simp only [Int.toNat_natCast, Nat.zero_add, Option.getD_none, Option.getD_some, eqQ_c, Nat.succ_eq_add_one, w1, w2] at *)
      all_goals (try simp only [eq_self, decide_eq_true_eq, decide_eq_false_iff_not, Int.ofNat_lt, Int.ofNat_le, gt_iff_lt, ge_iff_le, true_and, Bool.not_eq_true', Bool.not_eq_false'] at *)
      all_goals first | (with_reducible rfl) | trivial | omega | rfl | exact fun _ _ => trivial | exact ⟨rfl, rfl⟩ | exact ⟨rfl, fun _ _ => rfl⟩ | exact ⟨rfl, rfl, fun _ _ => rfl⟩ | (exact ⟨rfl, rfl, cp_len d k, cp_len d k, fun z hz j hj => congrArg (fun v => getM (ptM v) j) (hx.g z (Nat.lt_of_lt_of_le hz (cp_len d k)))⟩) | (exact ⟨cp_len d k, cp_len d k, fun z hz j hj => congrArg (fun v => getM (ptM v) j) (hx.g z (Nat.lt_of_lt_of_le hz (cp_len d k)))⟩) | (exact hx.e.symm) | (exact ⟨rfl, rfl, rfl, hx.e.symm⟩)
def v51 : VT := fun sz n g rest => match sz, rest with
  | 2, [] => some ([isPts n g, n ≤ lim, 0 < n], (cpL (pOf g) n).length, lstR (cpL (pOf g) n), some (cpL (pOf g) n).length)
  | _, _ => none
theorem V51_ok : VOK Try.prog (vAdd 51 v51 V0) := by
  refine VOK.add V0_ok fun sz n g rest ps n' g' k e hp => ?_
  unfold v51 at e
  split at e
  · cases e
    have h0 := hp _ (.head _)
    have h2 := hp _ (.tail _ (.head _))
    have h3 := hp _ (.tail _ (.tail _ (.head _)))
    exact CV.leG (t51 n (pOf g) h2 h3) (le_I h0)
  · cases e
noncomputable def V51 := vAdd 51 v51 V0
theorem V51_k : VOK Try.prog V51 := V51_ok
end Go.Ev.Poly
