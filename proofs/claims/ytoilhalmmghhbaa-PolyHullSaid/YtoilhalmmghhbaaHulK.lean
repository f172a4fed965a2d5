/-
  The contracts of chain and row; for lists of at most 8796093022206 points.
-/
import Derived.Test.YtoilhalmmghhbaaHulI
import Derived.Test.YtoilhalmmghhbaaEvL
set_option linter.unusedSimpArgs false
set_option linter.unusedVariables false
open Go Go.Proofs
namespace Go.Ev.Poly
set_option maxRecDepth 100000
set_option maxHeartbeats 1000000
open Go.Ev.So
/-- A row of points, told below its length alone. -/
def cm (n : Nat) (p : Nat → Nat × Nat) : Nat → Nat × Nat := fun i => bif Nat.blt i n then p i else (0, 0)
theorem cm_at {n i : Nat} {p : Nat → Nat × Nat} (h : i < n) : cm n p i = p i := by unfold cm; rw [blt_t h]; rfl
theorem cm_ext {n : Nat} {p q : Nat → Nat × Nat} (h : ∀ i, i < n → p i = q i) : cm n p = cm n q := by
  funext i
  unfold cm
  rcases Nat.lt_or_ge i n with e | e
  · rw [blt_t e, h i e]
  · rw [blt_f e]; rfl
theorem leR_cm {n : Nat} {get : Nat → List MV} (h : isPts n get) : leR (.ro 2 n get) (.ro 2 n fun i => ptM (cm n (pOf get) i)) := by
  refine ⟨rfl, rfl, fun i hi j hj => ?_⟩
  show getM (get i) j = getM (ptM (cm n (pOf get) i)) j
  rw [cm_at hi]
  have hj : j = 0 ∨ j = 1 := by omega
  rcases hj with rfl | rfl
  · exact (h i hi).1
  · exact (h i hi).2
def z2 : Nat × Nat := (0, 0)
def lstR (l : List (Nat × Nat)) : Nat → List MV := fun k => ptM (l.getD k z2)
/-- Does a point turn to the left of the last two (or are there none)? -/
def stopB (l : List (Nat × Nat)) (q : Nat × Nat) : Bool := decide ((l.length : Int) < 2) || fgt .f64 (crs (fsub .f64 (l.getD (l.length - 1) z2).1 (l.getD (l.length - 2) z2).1) (fsub .f64 (l.getD (l.length - 1) z2).2 (l.getD (l.length - 2) z2).2) (fsub .f64 q.1 (l.getD (l.length - 2) z2).1) (fsub .f64 q.2 (l.getD (l.length - 2) z2).2)) 0
def chop : Nat → List (Nat × Nat) → Nat × Nat → List (Nat × Nat)
  | 0, l, _ => l
  | k + 1, l, q => bif stopB l q then l else chop k l.dropLast q
def rwL (p : Nat → Nat × Nat) : Nat → List (Nat × Nat)
  | 0 => []
  | i + 1 => chop (rwL p i).length (rwL p i) (p i) ++ [p i]
theorem chop_len (q : Nat × Nat) : ∀ (k : Nat) (l : List (Nat × Nat)), (chop k l q).length ≤ l.length
  | 0, l => Nat.le_refl _
  | k + 1, l => by
    show (bif stopB l q then l else chop k l.dropLast q).length ≤ _
    cases stopB l q
    · have := chop_len q k l.dropLast
      simp only [cond_false]
      rw [List.length_dropLast] at this
      omega
    · exact Nat.le_refl _
theorem rw_len (p : Nat → Nat × Nat) : ∀ i, (rwL p i).length ≤ i
  | 0 => Nat.le_refl _
  | i + 1 => by
    have h1 := rw_len p i
    have h2 := chop_len (p i) (rwL p i).length (rwL p i)
    show (chop (rwL p i).length (rwL p i) (p i) ++ [p i]).length ≤ i + 1
    simp; omega
structure ChOK (p : Nat → Nat × Nat) (i : Nat) (l : List (Nat × Nat)) : Prop where
  e : chop l.length l (p i) = chop (rwL p i).length (rwL p i) (p i)
  le : l.length ≤ i
theorem ChOK.start (p : Nat → Nat × Nat) (i : Nat) : ChOK p i (rwL p i) := ⟨rfl, rw_len p i⟩
theorem ChOK.stop {p : Nat → Nat × Nat} {i : Nat} {l : List (Nat × Nat)} (h : ChOK p i l) (hs : stopB l (p i) = true) : rwL p (i + 1) = l ++ [p i] := by
  show chop (rwL p i).length (rwL p i) (p i) ++ [p i] = _
  rw [← h.e]
  cases e : l.length with
  | zero => rfl
  | succ k =>
    show (bif stopB l (p i) then l else chop k l.dropLast (p i)) ++ [p i] = _
    rw [hs]; rfl
theorem ChOK.stopl {p : Nat → Nat × Nat} {i : Nat} {l : List (Nat × Nat)} (h : ChOK p i l) (hs : stopB l (p i) = true) : l.length + 1 = (rwL p (i + 1)).length := by rw [h.stop hs]; simp
theorem ChOK.next {p : Nat → Nat × Nat} {i : Nat} {l : List (Nat × Nat)} (h : ChOK p i l) (hs : stopB l (p i) = false) (h2 : 2 ≤ l.length) : ChOK p i l.dropLast := by
  refine ⟨?_, by have := h.le; rw [List.length_dropLast]; omega⟩
  rw [← h.e, List.length_dropLast]
  obtain ⟨k, e⟩ : ∃ k, l.length = k + 1 := ⟨l.length - 1, by omega⟩
  rw [e]
  show chop k l.dropLast (p i) = bif stopB l (p i) then l else chop k l.dropLast (p i)
  rw [hs]; rfl
theorem app_l {l : List (Nat × Nat)} {v : Nat × Nat} {X : Nat → List MV} {tl : List MV} (hX : X 0 = .f .f64 v.1 :: .f .f64 v.2 :: tl) {k j : Nat} (hk : k < l.length + 1) (hj : j < 2) : getM (appGet l.length (lstR l) X k) j = getM (lstR (l ++ [v]) k) j := by
  unfold appGet lstR
  rw [show k - l.length = 0 by omega, hX]
  have hj : j = 0 ∨ j = 1 := by omega
  rcases Nat.lt_or_eq_of_le (Nat.le_of_lt_succ hk) with e | e
  · rw [blt_t e]
    have : (l ++ [v]).getD k z2 = l.getD k z2 := by simp [List.getD_eq_getElem?_getD, List.getElem?_append_left e]
    rw [this]
    rcases hj with rfl | rfl <;> rfl
  · subst e; rw [blt_f (Nat.le_refl _)]
    have : (l ++ [v]).getD l.length z2 = v := by simp [List.getD_eq_getElem?_getD]
    rw [this]
    rcases hj with rfl | rfl <;> rfl
theorem drop_get {l : List (Nat × Nat)} {k : Nat} (h : k < l.length - 1) : l.dropLast.getD k z2 = l.getD k z2 := by
  rw [List.getD_eq_getElem?_getD, List.getD_eq_getElem?_getD, List.getElem?_dropLast, if_pos h]
theorem wlen1 {m : Nat} (h : 1 ≤ m) (h2 : m < 4611686018427387904) : IntKind.i64.wrap ((m : Int) - 1) = ((m - 1 : Nat) : Int) := by rw [i64_wrap (by omega) (by omega)]; omega
theorem wlen2 {m : Nat} (h : 2 ≤ m) (h2 : m < 4611686018427387904) : IntKind.i64.wrap ((m : Int) - 2) = ((m - 2 : Nat) : Int) := by rw [i64_wrap (by omega) (by omega)]; omega
noncomputable def fi52 : FnI := ⟨49, Try.f52.body.getD .skip, [.tmp 2], true⟩
theorem fi52_ok : fnGen Try.prog 52 = some fi52 := by kernel_rfl
theorem zHS17_K {cx : Cx} : CallH (genQ Try.prog exts eqs [] S17).P cx (hnd (genQ Try.prog exts eqs [] S17) cx 6) := hnd_sound (genQ_full extsOK eqsOK S17_ok) 6
theorem zES17_K : EnvAll (genQ Try.prog exts eqs [] S17) := (genQ_full extsOK eqsOK S17_ok).toEnvAll
theorem t52 (n : Nat) (p : Nat → Nat × Nat) (c0 : n ≤ room) : CM Try.prog 52 [.ro 2 n (fun j => ptM (p j))] (.os 0 2 0 (rwL p n).length) [.rows 2 (rwL p n).length (lstR (rwL p n))] true := by
  refine CM.of_code zES17_K (fnGen_ok fi52_ok) rfl fun w0 okA => ?_
  refine evC_sound (genQ_full extsOK eqsOK S17_ok).toEnvAll (hndU_sound U47_k zHS17_K) ?_
  have c1 : n ≤ 8796093022206 := c0
  repeat' ((fail_if_success (with_reducible refine Side.mk ?_)); first | (refine Rest.mk (drawR_sound zES17_K mixOK (hndU_sound U47_k zHS17_K) ?_)) | ((fail_if_success (with_reducible refine Rest.mk ?_)); first | (with_reducible exact True.intro) | (with_reducible refine Need.mk ?_ ?_) | (with_reducible refine And.intro ?_ ?_) | (with_reducible intro _) | ((fail_if_success (with_reducible refine FinS.mk ?_)); (fail_if_success (with_reducible refine Le.mk ?_)); (conv => whnf)) | (refine FinS.b ?_) | (refine FinS.lb ?_) | (refine FinS.i ?_) | (refine FinS.f ?_) | (refine FinS.agg ?_) | (refine FinS.tup ?_)))
  refine loop_ruleD zES17_K (hndU_sound U47_k zHS17_K) (γ := Nat) (fun i => ⟨[(7, .ro 2 n (fun j => ptM (p j))), (8, .i .i64 (n : Int)), (9, .i .i64 (i : Int)), (3, .os 0 2 0 (rwL p i).length)], [], [(0, .rows 2 (rwL p i).length (lstR (rwL p i)))], 1⟩) (fun i => i ≤ n) Nat.succ (fun i => n - i) (0) (Le.phan 2 (Le.of ?_)) ?_ ?_
  · conv => whnf
    repeat' ((fail_if_success (with_reducible refine Side.mk ?_)); first | (refine Rest.mk (drawR_sound zES17_K mixOK (hndU_sound U47_k zHS17_K) ?_)) | ((fail_if_success (with_reducible refine Rest.mk ?_)); first | (with_reducible exact True.intro) | (with_reducible refine Need.mk ?_ ?_) | (with_reducible refine And.intro ?_ ?_) | (with_reducible intro _) | ((fail_if_success (with_reducible refine FinS.mk ?_)); (fail_if_success (with_reducible refine Le.mk ?_)); (conv => whnf)) | (refine FinS.b ?_) | (refine FinS.lb ?_) | (refine FinS.i ?_) | (refine FinS.f ?_) | (refine FinS.agg ?_) | (refine FinS.tup ?_)))
    all_goals (try (refine Le.of ?_; (conv => whnf)))
    repeat' ((fail_if_success (with_reducible refine Side.mk ?_)); first | (refine Rest.mk (drawR_sound zES17_K mixOK (hndU_sound U47_k zHS17_K) ?_)) | ((fail_if_success (with_reducible refine Rest.mk ?_)); first | (with_reducible exact True.intro) | (with_reducible refine Need.mk ?_ ?_) | (with_reducible refine And.intro ?_ ?_) | (with_reducible intro _) | ((fail_if_success (with_reducible refine FinS.mk ?_)); (fail_if_success (with_reducible refine Le.mk ?_)); (conv => whnf)) | (refine FinS.b ?_) | (refine FinS.lb ?_) | (refine FinS.i ?_) | (refine FinS.f ?_) | (refine FinS.agg ?_) | (refine FinS.tup ?_)))
    all_goals (try refine Side.mk ?_)
    all_goals (try simp only [eq_self, decide_eq_true_eq, decide_eq_false_iff_not, Int.ofNat_lt, Int.ofNat_le, gt_iff_lt, ge_iff_le, true_and, Bool.not_eq_true', Bool.not_eq_false'] at *)
    all_goals first | (with_reducible rfl) | trivial | omega | rfl | exact fun _ _ => trivial | exact ⟨rfl, rfl⟩ | exact ⟨rfl, fun _ _ => rfl⟩ | exact ⟨rfl, rfl, fun _ _ => rfl⟩ | (exact fun _ _ _ _ => .inr trivial) | (exact ⟨trivial, fun _ _ _ _ => .inr trivial⟩) | (exact ⟨rfl, rfl, fun _ _ _ _ => .inr trivial⟩) | (exact fun k hk j hj => absurd hk (Nat.not_lt_zero _)) | (exact ⟨rfl, rfl, fun k hk j hj => absurd hk (Nat.not_lt_zero _)⟩) | (exact ⟨trivial, fun k hk j hj => absurd hk (Nat.not_lt_zero _)⟩) | (exact fun _ hi _ _ => absurd hi (Nat.not_lt_zero _)) | (exact ⟨rfl, fun _ hi _ _ => absurd hi (Nat.not_lt_zero _)⟩)
  · omega
  · intro i hi
    have hl := rw_len p i
    have wi : IntKind.i64.wrap ((i : Int) + 1) = ((i + 1 : Nat) : Int) := wadd1 (by omega)
    rcases Nat.lt_or_ge i n with hlt | hge
    · repeat' ((fail_if_success (with_reducible refine Side.mk ?_)); first | (refine Rest.mk (drawR_sound zES17_K mixOK (hndU_sound U47_k zHS17_K) ?_)) | ((fail_if_success (with_reducible refine Rest.mk ?_)); first | (with_reducible exact True.intro) | (with_reducible refine Need.mk ?_ ?_) | (with_reducible refine And.intro ?_ ?_) | (with_reducible intro hcl; try (exfalso; (simp only [decide_eq_true_eq, decide_eq_false_iff_not] at hcl; omega); done)) | ((fail_if_success (with_reducible refine FinS.mk ?_)); (fail_if_success (with_reducible refine Le.mk ?_)); (conv => whnf)) | (refine FinS.b ?_) | (refine FinS.lb ?_) | (refine FinS.i ?_) | (refine FinS.f ?_) | (refine FinS.agg ?_) | (refine FinS.tup ?_)))
      all_goals (try (refine Side.mk ?_; (try simp only [Int.toNat_natCast, Nat.zero_add, Option.getD_none, Option.getD_some] at *); (try simp only [eq_self, decide_eq_true_eq, decide_eq_false_iff_not, Int.ofNat_lt, Int.ofNat_le, gt_iff_lt, ge_iff_le, true_and, Bool.not_eq_true', Bool.not_eq_false'] at *); all_goals first | (with_reducible rfl) | trivial | omega | rfl | exact fun _ _ => trivial | exact ⟨rfl, rfl⟩ | exact ⟨rfl, fun _ _ => rfl⟩ | exact ⟨rfl, rfl, fun _ _ => rfl⟩ | (exact ⟨by omega, by omega⟩)))
      refine loop_ruleD zES17_K (hndU_sound U47_k zHS17_K) (γ := List (Nat × Nat)) (fun l => ⟨[(7, .ro 2 n (fun j => ptM (p j))), (8, .i .i64 (n : Int)), (9, .i .i64 (i : Int)), (5, .p 1 0), (3, .os 0 2 0 l.length)], [], [(0, .rows 2 l.length (lstR l)), (1, .cells (ptM (p i)))], 2⟩) (fun l => ChOK p i l) List.dropLast (fun l => l.length) (rwL p i) (Le.of ?_) ?_ ?_
      · conv => whnf
        repeat' ((fail_if_success (with_reducible refine Side.mk ?_)); first | (refine Rest.mk (drawR_sound zES17_K mixOK (hndU_sound U47_k zHS17_K) ?_)) | ((fail_if_success (with_reducible refine Rest.mk ?_)); first | (with_reducible exact True.intro) | (with_reducible refine Need.mk ?_ ?_) | (with_reducible refine And.intro ?_ ?_) | (with_reducible intro _) | ((fail_if_success (with_reducible refine FinS.mk ?_)); (fail_if_success (with_reducible refine Le.mk ?_)); (conv => whnf)) | (refine FinS.b ?_) | (refine FinS.lb ?_) | (refine FinS.i ?_) | (refine FinS.f ?_) | (refine FinS.agg ?_) | (refine FinS.tup ?_)))
        all_goals (try (refine Le.of ?_; (conv => whnf)))
        repeat' ((fail_if_success (with_reducible refine Side.mk ?_)); first | (refine Rest.mk (drawR_sound zES17_K mixOK (hndU_sound U47_k zHS17_K) ?_)) | ((fail_if_success (with_reducible refine Rest.mk ?_)); first | (with_reducible exact True.intro) | (with_reducible refine Need.mk ?_ ?_) | (with_reducible refine And.intro ?_ ?_) | (with_reducible intro _) | ((fail_if_success (with_reducible refine FinS.mk ?_)); (fail_if_success (with_reducible refine Le.mk ?_)); (conv => whnf)) | (refine FinS.b ?_) | (refine FinS.lb ?_) | (refine FinS.i ?_) | (refine FinS.f ?_) | (refine FinS.agg ?_) | (refine FinS.tup ?_)))
        all_goals (try refine Side.mk ?_)
        all_goals (try simp only [eq_self, decide_eq_true_eq, decide_eq_false_iff_not, Int.ofNat_lt, Int.ofNat_le, gt_iff_lt, ge_iff_le, true_and, Bool.not_eq_true', Bool.not_eq_false'] at *)
        all_goals first | (with_reducible rfl) | trivial | omega | rfl | exact fun _ _ => trivial | exact ⟨rfl, rfl⟩ | exact ⟨rfl, fun _ _ => rfl⟩ | exact ⟨rfl, rfl, fun _ _ => rfl⟩ | (exact fun _ _ _ _ => .inr trivial) | (exact ⟨trivial, fun _ _ _ _ => .inr trivial⟩) | (exact ⟨rfl, rfl, fun _ _ _ _ => .inr trivial⟩) | (exact fun k hk j hj => .inr rfl) | (exact ⟨rfl, rfl, fun k hk j hj => .inr rfl⟩) | (exact ⟨trivial, fun k hk j hj => .inr rfl⟩) | (exact ⟨trivial, rfl, rfl⟩)
      · exact ChOK.start p i
      · intro l hx
        have hle := hx.le
        cases hst : stopB l (p i)
        · have h2 : 2 ≤ l.length := by
            unfold stopB at hst
            rw [Bool.or_eq_false_iff] at hst
            have := hst.1
            simp at this; omega
          have w1 := wlen1 (m := l.length) (by omega) (by omega)
          have w2 := wlen2 (m := l.length) h2 (by omega)
          have hs2 := hst
          unfold stopB at hs2
          have hs3 : (decide ((l.length : Int) < 2) || fgt .f64 (crs (fsub .f64 (l.getD (l.length - 1) z2).1 (l.getD (l.length - 2) z2).1) (fsub .f64 (l.getD (l.length - 1) z2).2 (l.getD (l.length - 2) z2).2) (fsub .f64 (p i).1 (l.getD (l.length - 2) z2).1) (fsub .f64 (p i).2 (l.getD (l.length - 2) z2).2)) 0) = false := hs2
          repeat' ((fail_if_success (with_reducible refine Side.mk ?_)); first | (refine Rest.mk (drawR_sound zES17_K mixOK (hndU_sound U47_k zHS17_K) ?_)) | ((fail_if_success (with_reducible refine Rest.mk ?_)); first | (with_reducible exact True.intro) | (with_reducible refine Need.mk ?_ ?_) | (with_reducible refine And.intro ?_ ?_) | (with_reducible intro hcl; try (exfalso; (first | (simp only [decide_eq_true_eq, decide_eq_false_iff_not] at hcl; omega) | (simp only [Int.toNat_natCast, Nat.zero_add, w1, w2] at hcl; rw [hs3] at hcl; cases hcl; done)); done)) | ((fail_if_success (with_reducible refine FinS.mk ?_)); (fail_if_success (with_reducible refine Le.mk ?_)); (conv => whnf)) | (refine FinS.b ?_) | (refine FinS.lb ?_) | (refine FinS.i ?_) | (refine FinS.f ?_) | (refine FinS.agg ?_) | (refine FinS.tup ?_)))
          all_goals (try (refine Le.shrink 0 (l.length - 1) ?_; (conv => whnf)))
          repeat' ((fail_if_success (with_reducible refine Side.mk ?_)); first | (refine Rest.mk (drawR_sound zES17_K mixOK (hndU_sound U47_k zHS17_K) ?_)) | ((fail_if_success (with_reducible refine Rest.mk ?_)); first | (with_reducible exact True.intro) | (with_reducible refine Need.mk ?_ ?_) | (with_reducible refine And.intro ?_ ?_) | (with_reducible intro _) | ((fail_if_success (with_reducible refine FinS.mk ?_)); (fail_if_success (with_reducible refine Le.mk ?_)); (conv => whnf)) | (refine FinS.b ?_) | (refine FinS.lb ?_) | (refine FinS.i ?_) | (refine FinS.f ?_) | (refine FinS.agg ?_) | (refine FinS.tup ?_)))
          all_goals (try (refine Le.of ?_; (conv => whnf)))
          repeat' ((fail_if_success (with_reducible refine Side.mk ?_)); first | (refine Rest.mk (drawR_sound zES17_K mixOK (hndU_sound U47_k zHS17_K) ?_)) | ((fail_if_success (with_reducible refine Rest.mk ?_)); first | (with_reducible exact True.intro) | (with_reducible refine Need.mk ?_ ?_) | (with_reducible refine And.intro ?_ ?_) | (with_reducible intro _) | ((fail_if_success (with_reducible refine FinS.mk ?_)); (fail_if_success (with_reducible refine Le.mk ?_)); (conv => whnf)) | (refine FinS.b ?_) | (refine FinS.lb ?_) | (refine FinS.i ?_) | (refine FinS.f ?_) | (refine FinS.agg ?_) | (refine FinS.tup ?_)))
          all_goals (try refine Side.mk ?_)
          all_goals (try simp only [Int.toNat_natCast, Nat.zero_add, Option.getD_none, Option.getD_some, w1, w2] at *)
          all_goals (try simp only [eq_self, decide_eq_true_eq, decide_eq_false_iff_not, Int.ofNat_lt, Int.ofNat_le, gt_iff_lt, ge_iff_le, true_and, Bool.not_eq_true', Bool.not_eq_false'] at *)
          all_goals first | (with_reducible rfl) | trivial | omega | rfl | exact fun _ _ => trivial | exact ⟨rfl, rfl⟩ | exact ⟨rfl, fun _ _ => rfl⟩ | exact ⟨rfl, rfl, fun _ _ => rfl⟩ | (exact ⟨hx.next hst h2, by show l.dropLast.length < l.length; rw [List.length_dropLast]; omega⟩) | (exact fun _ => ⟨by omega, by omega⟩) | (exact ⟨by omega, by omega⟩) | (exact fun _ => (by omega)) | ((rw [List.length_dropLast]; done)) | (exact ⟨by omega, by omega, by omega, by omega⟩) | (exact (List.length_dropLast).symm) | ((simp only [List.length_dropLast]; exact fun k hk j hj => .inr (by rw [show lstR l.dropLast k = lstR l k from congrArg ptM (drop_get hk)]))) | (exact ⟨(List.length_dropLast).symm, fun k hk j hj => .inr (by rw [show lstR l.dropLast k = lstR l k from congrArg ptM (drop_get hk)])⟩) | (exact ⟨rfl, (List.length_dropLast).symm, fun k hk j hj => .inr (by rw [show lstR l.dropLast k = lstR l k from congrArg ptM (drop_get hk)])⟩)
        · have hsl := hx.stopl hst
          by_cases h2 : 2 ≤ l.length
          · have w1 := wlen1 (m := l.length) (by omega) (by omega)
            have w2 := wlen2 (m := l.length) h2 (by omega)
            have hs2 := hst
            unfold stopB at hs2
            have hs3 : (decide ((l.length : Int) < 2) || fgt .f64 (crs (fsub .f64 (l.getD (l.length - 1) z2).1 (l.getD (l.length - 2) z2).1) (fsub .f64 (l.getD (l.length - 1) z2).2 (l.getD (l.length - 2) z2).2) (fsub .f64 (p i).1 (l.getD (l.length - 2) z2).1) (fsub .f64 (p i).2 (l.getD (l.length - 2) z2).2)) 0) = true := hs2
            repeat' ((fail_if_success (with_reducible refine Side.mk ?_)); first | (refine Rest.mk (drawR_sound zES17_K mixOK (hndU_sound U47_k zHS17_K) ?_)) | ((fail_if_success (with_reducible refine Rest.mk ?_)); first | (with_reducible exact True.intro) | (with_reducible refine Need.mk ?_ ?_) | (with_reducible refine And.intro ?_ ?_) | (with_reducible intro hcl; try (exfalso; (first | (simp only [decide_eq_true_eq, decide_eq_false_iff_not] at hcl; omega) | (simp only [Int.toNat_natCast, Nat.zero_add, w1, w2] at hcl; rw [hs3] at hcl; cases hcl; done)); done)) | ((fail_if_success (with_reducible refine FinS.mk ?_)); (fail_if_success (with_reducible refine Le.mk ?_)); (conv => whnf)) | (refine FinS.b ?_) | (refine FinS.lb ?_) | (refine FinS.i ?_) | (refine FinS.f ?_) | (refine FinS.agg ?_) | (refine FinS.tup ?_)))
            all_goals (try (refine Le.of ?_; (conv => whnf)))
            repeat' ((fail_if_success (with_reducible refine Side.mk ?_)); first | (refine Rest.mk (drawR_sound zES17_K mixOK (hndU_sound U47_k zHS17_K) ?_)) | ((fail_if_success (with_reducible refine Rest.mk ?_)); first | (with_reducible exact True.intro) | (with_reducible refine Need.mk ?_ ?_) | (with_reducible refine And.intro ?_ ?_) | (with_reducible intro _) | ((fail_if_success (with_reducible refine FinS.mk ?_)); (fail_if_success (with_reducible refine Le.mk ?_)); (conv => whnf)) | (refine FinS.b ?_) | (refine FinS.lb ?_) | (refine FinS.i ?_) | (refine FinS.f ?_) | (refine FinS.agg ?_) | (refine FinS.tup ?_)))
            all_goals (try refine Side.mk ?_)
            all_goals (try simp only [Int.toNat_natCast, Nat.zero_add, Option.getD_none, Option.getD_some, w1, w2, wi, Nat.succ_eq_add_one] at *)
            all_goals (try simp only [eq_self, decide_eq_true_eq, decide_eq_false_iff_not, Int.ofNat_lt, Int.ofNat_le, gt_iff_lt, ge_iff_le, true_and, Bool.not_eq_true', Bool.not_eq_false'] at *)
            all_goals first | (with_reducible rfl) | trivial | omega | rfl | exact fun _ _ => trivial | exact ⟨rfl, rfl⟩ | exact ⟨rfl, fun _ _ => rfl⟩ | exact ⟨rfl, rfl, fun _ _ => rfl⟩ | (exact hsl) | (exact fun _ => ⟨by omega, by omega⟩) | (exact fun _ => (by omega)) | (exact fun h => absurd h (by simp; omega)) | ((intro h; exfalso; simp at h; omega)) | ((intro h; exfalso; omega)) | (exact ⟨by omega, by omega⟩) | (exact ⟨⟨by omega, by omega⟩⟩) | (exact ⟨by omega, by omega, by show (l.length + 1) * 16 ≤ _; omega, by omega⟩) | (exact fun _ _ _ _ => .inr trivial) | (exact ⟨trivial, fun _ _ _ _ => .inr trivial⟩) | (exact ⟨rfl, rfl, fun _ _ _ _ => .inr trivial⟩) | (exact fun k hk j hj => .inr (by rw [hx.stop hst]; exact app_l rfl (by omega) hj)) | (exact ⟨rfl, rfl, fun k hk j hj => .inr (by rw [hx.stop hst]; exact app_l rfl (by omega) hj)⟩) | (exact ⟨trivial, fun k hk j hj => .inr (by rw [hx.stop hst]; exact app_l rfl (by omega) hj)⟩) | (exact ⟨hsl, fun k hk j hj => .inr (by rw [hx.stop hst]; exact app_l rfl (by omega) hj)⟩) | (exact ⟨rfl, hsl, fun k hk j hj => .inr (by rw [hx.stop hst]; exact app_l rfl (by omega) hj)⟩) | (exact congrArg Nat.cast hsl)
          · have w1 := trivial
            have w2 := trivial
            repeat' ((fail_if_success (with_reducible refine Side.mk ?_)); first | (refine Rest.mk (drawR_sound zES17_K mixOK (hndU_sound U47_k zHS17_K) ?_)) | ((fail_if_success (with_reducible refine Rest.mk ?_)); first | (with_reducible exact True.intro) | (with_reducible refine Need.mk ?_ ?_) | (with_reducible refine And.intro ?_ ?_) | (with_reducible intro hcl; try (exfalso; (first | (simp only [decide_eq_true_eq, decide_eq_false_iff_not] at hcl; omega) | (rw [Bool.or_eq_false_iff] at hcl; have hk := hcl.1; simp at hk; omega) | (rw [Bool.and_eq_true] at hcl; have hk := hcl.1; simp at hk; omega)); done)) | ((fail_if_success (with_reducible refine FinS.mk ?_)); (fail_if_success (with_reducible refine Le.mk ?_)); (conv => whnf)) | (refine FinS.b ?_) | (refine FinS.lb ?_) | (refine FinS.i ?_) | (refine FinS.f ?_) | (refine FinS.agg ?_) | (refine FinS.tup ?_)))
            all_goals (try (refine Le.of ?_; (conv => whnf)))
            repeat' ((fail_if_success (with_reducible refine Side.mk ?_)); first | (refine Rest.mk (drawR_sound zES17_K mixOK (hndU_sound U47_k zHS17_K) ?_)) | ((fail_if_success (with_reducible refine Rest.mk ?_)); first | (with_reducible exact True.intro) | (with_reducible refine Need.mk ?_ ?_) | (with_reducible refine And.intro ?_ ?_) | (with_reducible intro _) | ((fail_if_success (with_reducible refine FinS.mk ?_)); (fail_if_success (with_reducible refine Le.mk ?_)); (conv => whnf)) | (refine FinS.b ?_) | (refine FinS.lb ?_) | (refine FinS.i ?_) | (refine FinS.f ?_) | (refine FinS.agg ?_) | (refine FinS.tup ?_)))
            all_goals (try refine Side.mk ?_)
            all_goals (try simp only [Int.toNat_natCast, Nat.zero_add, Option.getD_none, Option.getD_some, wi, Nat.succ_eq_add_one] at *)
            all_goals (try simp only [eq_self, decide_eq_true_eq, decide_eq_false_iff_not, Int.ofNat_lt, Int.ofNat_le, gt_iff_lt, ge_iff_le, true_and, Bool.not_eq_true', Bool.not_eq_false'] at *)
            all_goals first | (with_reducible rfl) | trivial | omega | rfl | exact fun _ _ => trivial | exact ⟨rfl, rfl⟩ | exact ⟨rfl, fun _ _ => rfl⟩ | exact ⟨rfl, rfl, fun _ _ => rfl⟩ | (exact hsl) | (exact fun _ => ⟨by omega, by omega⟩) | (exact fun _ => (by omega)) | (exact fun h => absurd h (by simp; omega)) | ((intro h; exfalso; simp at h; omega)) | ((intro h; exfalso; omega)) | (exact ⟨by omega, by omega⟩) | (exact ⟨⟨by omega, by omega⟩⟩) | (exact ⟨by omega, by omega, by show (l.length + 1) * 16 ≤ _; omega, by omega⟩) | (exact fun _ _ _ _ => .inr trivial) | (exact ⟨trivial, fun _ _ _ _ => .inr trivial⟩) | (exact ⟨rfl, rfl, fun _ _ _ _ => .inr trivial⟩) | (exact fun k hk j hj => .inr (by rw [hx.stop hst]; exact app_l rfl (by omega) hj)) | (exact ⟨rfl, rfl, fun k hk j hj => .inr (by rw [hx.stop hst]; exact app_l rfl (by omega) hj)⟩) | (exact ⟨trivial, fun k hk j hj => .inr (by rw [hx.stop hst]; exact app_l rfl (by omega) hj)⟩) | (exact ⟨hsl, fun k hk j hj => .inr (by rw [hx.stop hst]; exact app_l rfl (by omega) hj)⟩) | (exact ⟨rfl, hsl, fun k hk j hj => .inr (by rw [hx.stop hst]; exact app_l rfl (by omega) hj)⟩) | (exact congrArg Nat.cast hsl)
    · obtain rfl : i = n := by omega
      repeat' ((fail_if_success (with_reducible refine Side.mk ?_)); first | (refine Rest.mk (drawR_sound zES17_K mixOK (hndU_sound U47_k zHS17_K) ?_)) | ((fail_if_success (with_reducible refine Rest.mk ?_)); first | (with_reducible exact True.intro) | (with_reducible refine Need.mk ?_ ?_) | (with_reducible refine And.intro ?_ ?_) | (with_reducible intro hcl; try (exfalso; (simp only [decide_eq_true_eq, decide_eq_false_iff_not] at hcl; omega); done)) | ((fail_if_success (with_reducible refine FinS.mk ?_)); (fail_if_success (with_reducible refine Le.mk ?_)); (conv => whnf)) | (refine FinS.b ?_) | (refine FinS.lb ?_) | (refine FinS.i ?_) | (refine FinS.f ?_) | (refine FinS.agg ?_) | (refine FinS.tup ?_)))
      all_goals (try (refine Le.of ?_; (conv => whnf)))
      repeat' ((fail_if_success (with_reducible refine Side.mk ?_)); first | (refine Rest.mk (drawR_sound zES17_K mixOK (hndU_sound U47_k zHS17_K) ?_)) | ((fail_if_success (with_reducible refine Rest.mk ?_)); first | (with_reducible exact True.intro) | (with_reducible refine Need.mk ?_ ?_) | (with_reducible refine And.intro ?_ ?_) | (with_reducible intro _) | ((fail_if_success (with_reducible refine FinS.mk ?_)); (fail_if_success (with_reducible refine Le.mk ?_)); (conv => whnf)) | (refine FinS.b ?_) | (refine FinS.lb ?_) | (refine FinS.i ?_) | (refine FinS.f ?_) | (refine FinS.agg ?_) | (refine FinS.tup ?_)))
      all_goals (try refine Side.mk ?_)
      all_goals (try simp only [Int.toNat_natCast, Nat.zero_add, Option.getD_none, Option.getD_some] at *)
      all_goals (try simp only [eq_self, decide_eq_true_eq, decide_eq_false_iff_not, Int.ofNat_lt, Int.ofNat_le, gt_iff_lt, ge_iff_le, true_and, Bool.not_eq_true', Bool.not_eq_false'] at *)
      all_goals first | (with_reducible rfl) | trivial | omega | rfl | exact fun _ _ => trivial | exact ⟨rfl, rfl⟩ | exact ⟨rfl, fun _ _ => rfl⟩ | exact ⟨rfl, rfl, fun _ _ => rfl⟩ | (exact FinS.rows 0 ⟨rfl, rfl, fun k hk j hj => rfl⟩ ⟨rfl, rfl, rfl, rfl⟩) | (exact FinS.rows 0 ⟨rfl, rfl, fun k hk j hj => rfl⟩ ⟨⟨rfl, rfl, rfl⟩⟩) | (exact FinS.rows 0 ⟨rfl, rfl, fun k hk j hj => rfl⟩ ⟨rfl, rfl, rfl⟩)
noncomputable def g52 : List MV → Option (List Prop × MV × List Blk × Bool)
  | [.ro 2 n get] => some ([isPts n get, n ≤ room], .os 0 2 0 (rwL (cm n (pOf get)) n).length, [.rows 2 (rwL (cm n (pOf get)) n).length (lstR (rwL (cm n (pOf get)) n))], false)
  | _ => none
theorem s52 : SumsOK Try.prog (sumOf 52 g52 S17) := by
  refine SumsOK.add S17_ok fun ms ps m blks al e hp => ?_
  unfold g52 at e
  split at e
  · cases e
    exact (le_arg1 (t52 _ (cm _ (pOf _)) (hp _ (.tail _ (.head _)))) (leR_cm (hp _ (.head _)))).aloneR rfl (fun i hi j hj => flat2 hj)
  · cases e
noncomputable def S52 := sumOf 52 g52 S17
theorem S52_ok : SumsOK Try.prog S52 := s52
noncomputable def fi56 : FnI := ⟨56, Try.f56.body.getD .skip, [.tmp 2], true⟩
theorem fi56_ok : fnGen Try.prog 56 = some fi56 := by kernel_rfl
theorem zHS52_K {cx : Cx} : CallH (genQ Try.prog exts eqs [] S52).P cx (hnd (genQ Try.prog exts eqs [] S52) cx 6) := hnd_sound (genQ_full extsOK eqsOK S52_ok) 6
theorem zES52_K : EnvAll (genQ Try.prog exts eqs [] S52) := (genQ_full extsOK eqsOK S52_ok).toEnvAll
theorem t56 (n : Nat) (p : Nat → Nat × Nat) (c0 : n ≤ room) : CM Try.prog 56 [.ro 2 n (fun j => ptM (p j))] (.os 0 2 0 (rwL p n).length) [.rows 2 (rwL p n).length (lstR (rwL p n))] true := by
  refine CM.of_code zES52_K (fnGen_ok fi56_ok) rfl fun w0 okA => ?_
  refine evC_sound (genQ_full extsOK eqsOK S52_ok).toEnvAll (hndU_sound U47_k zHS52_K) ?_
  have c1 : n ≤ 8796093022206 := c0
  repeat' ((fail_if_success (with_reducible refine Side.mk ?_)); first | (refine Rest.mk (drawR_sound zES52_K mixOK (hndU_sound U47_k zHS52_K) ?_)) | ((fail_if_success (with_reducible refine Rest.mk ?_)); first | (with_reducible exact True.intro) | (with_reducible refine Need.mk ?_ ?_) | (with_reducible refine And.intro ?_ ?_) | (with_reducible intro _) | ((fail_if_success (with_reducible refine FinS.mk ?_)); (fail_if_success (with_reducible refine Le.mk ?_)); (conv => whnf)) | (refine FinS.b ?_) | (refine FinS.lb ?_) | (refine FinS.i ?_) | (refine FinS.f ?_) | (refine FinS.agg ?_) | (refine FinS.tup ?_)))
  refine loop_ruleD zES52_K (hndU_sound U47_k zHS52_K) (γ := Nat) (fun i => ⟨[(0, .ro 2 n (fun j => ptM (p j))), (4, .i .i64 (i : Int)), (3, .os 0 2 0 (rwL p i).length)], [], [(0, .rows 2 (rwL p i).length (lstR (rwL p i)))], 1⟩) (fun i => i ≤ n) Nat.succ (fun i => n - i) (0) (Le.phan 2 (Le.of ?_)) ?_ ?_
  · conv => whnf
    repeat' ((fail_if_success (with_reducible refine Side.mk ?_)); first | (refine Rest.mk (drawR_sound zES52_K mixOK (hndU_sound U47_k zHS52_K) ?_)) | ((fail_if_success (with_reducible refine Rest.mk ?_)); first | (with_reducible exact True.intro) | (with_reducible refine Need.mk ?_ ?_) | (with_reducible refine And.intro ?_ ?_) | (with_reducible intro _) | ((fail_if_success (with_reducible refine FinS.mk ?_)); (fail_if_success (with_reducible refine Le.mk ?_)); (conv => whnf)) | (refine FinS.b ?_) | (refine FinS.lb ?_) | (refine FinS.i ?_) | (refine FinS.f ?_) | (refine FinS.agg ?_) | (refine FinS.tup ?_)))
    all_goals (try (refine Le.of ?_; (conv => whnf)))
    repeat' ((fail_if_success (with_reducible refine Side.mk ?_)); first | (refine Rest.mk (drawR_sound zES52_K mixOK (hndU_sound U47_k zHS52_K) ?_)) | ((fail_if_success (with_reducible refine Rest.mk ?_)); first | (with_reducible exact True.intro) | (with_reducible refine Need.mk ?_ ?_) | (with_reducible refine And.intro ?_ ?_) | (with_reducible intro _) | ((fail_if_success (with_reducible refine FinS.mk ?_)); (fail_if_success (with_reducible refine Le.mk ?_)); (conv => whnf)) | (refine FinS.b ?_) | (refine FinS.lb ?_) | (refine FinS.i ?_) | (refine FinS.f ?_) | (refine FinS.agg ?_) | (refine FinS.tup ?_)))
    all_goals (try refine Side.mk ?_)
    all_goals (try simp only [eq_self, decide_eq_true_eq, decide_eq_false_iff_not, Int.ofNat_lt, Int.ofNat_le, gt_iff_lt, ge_iff_le, true_and, Bool.not_eq_true', Bool.not_eq_false'] at *)
    all_goals first | (with_reducible rfl) | trivial | omega | rfl | exact fun _ _ => trivial | exact ⟨rfl, rfl⟩ | exact ⟨rfl, fun _ _ => rfl⟩ | exact ⟨rfl, rfl, fun _ _ => rfl⟩ | (exact fun _ _ _ _ => .inr trivial) | (exact ⟨trivial, fun _ _ _ _ => .inr trivial⟩) | (exact ⟨rfl, rfl, fun _ _ _ _ => .inr trivial⟩) | (exact fun k hk j hj => absurd hk (Nat.not_lt_zero _)) | (exact ⟨rfl, rfl, fun k hk j hj => absurd hk (Nat.not_lt_zero _)⟩) | (exact ⟨trivial, fun k hk j hj => absurd hk (Nat.not_lt_zero _)⟩) | (exact fun _ hi _ _ => absurd hi (Nat.not_lt_zero _)) | (exact ⟨rfl, fun _ hi _ _ => absurd hi (Nat.not_lt_zero _)⟩)
  · omega
  · intro i hi
    have hl := rw_len p i
    have wi : IntKind.i64.wrap ((i : Int) + 1) = ((i + 1 : Nat) : Int) := wadd1 (by omega)
    rcases Nat.lt_or_ge i n with hlt | hge
    · repeat' ((fail_if_success (with_reducible refine Side.mk ?_)); first | (refine Rest.mk (drawR_sound zES52_K mixOK (hndU_sound U47_k zHS52_K) ?_)) | ((fail_if_success (with_reducible refine Rest.mk ?_)); first | (with_reducible exact True.intro) | (with_reducible refine Need.mk ?_ ?_) | (with_reducible refine And.intro ?_ ?_) | (with_reducible intro hcl; try (exfalso; (simp only [decide_eq_true_eq, decide_eq_false_iff_not] at hcl; omega); done)) | ((fail_if_success (with_reducible refine FinS.mk ?_)); (fail_if_success (with_reducible refine Le.mk ?_)); (conv => whnf)) | (refine FinS.b ?_) | (refine FinS.lb ?_) | (refine FinS.i ?_) | (refine FinS.f ?_) | (refine FinS.agg ?_) | (refine FinS.tup ?_)))
      all_goals (try (refine Side.mk ?_; (try simp only [Int.toNat_natCast, Nat.zero_add, Option.getD_none, Option.getD_some] at *); (try simp only [eq_self, decide_eq_true_eq, decide_eq_false_iff_not, Int.ofNat_lt, Int.ofNat_le, gt_iff_lt, ge_iff_le, true_and, Bool.not_eq_true', Bool.not_eq_false'] at *); all_goals first | (with_reducible rfl) | trivial | omega | rfl | exact fun _ _ => trivial | exact ⟨rfl, rfl⟩ | exact ⟨rfl, fun _ _ => rfl⟩ | exact ⟨rfl, rfl, fun _ _ => rfl⟩ | (exact ⟨by omega, by omega⟩)))
      refine loop_ruleD zES52_K (hndU_sound U47_k zHS52_K) (γ := List (Nat × Nat)) (fun l => ⟨[(0, .ro 2 n (fun j => ptM (p j))), (4, .i .i64 (i : Int)), (3, .os 0 2 0 l.length)], [], [(0, .rows 2 l.length (lstR l))], 1⟩) (fun l => ChOK p i l) List.dropLast (fun l => l.length) (rwL p i) (Le.of ?_) ?_ ?_
      · conv => whnf
        repeat' ((fail_if_success (with_reducible refine Side.mk ?_)); first | (refine Rest.mk (drawR_sound zES52_K mixOK (hndU_sound U47_k zHS52_K) ?_)) | ((fail_if_success (with_reducible refine Rest.mk ?_)); first | (with_reducible exact True.intro) | (with_reducible refine Need.mk ?_ ?_) | (with_reducible refine And.intro ?_ ?_) | (with_reducible intro _) | ((fail_if_success (with_reducible refine FinS.mk ?_)); (fail_if_success (with_reducible refine Le.mk ?_)); (conv => whnf)) | (refine FinS.b ?_) | (refine FinS.lb ?_) | (refine FinS.i ?_) | (refine FinS.f ?_) | (refine FinS.agg ?_) | (refine FinS.tup ?_)))
        all_goals (try (refine Le.of ?_; (conv => whnf)))
        repeat' ((fail_if_success (with_reducible refine Side.mk ?_)); first | (refine Rest.mk (drawR_sound zES52_K mixOK (hndU_sound U47_k zHS52_K) ?_)) | ((fail_if_success (with_reducible refine Rest.mk ?_)); first | (with_reducible exact True.intro) | (with_reducible refine Need.mk ?_ ?_) | (with_reducible refine And.intro ?_ ?_) | (with_reducible intro _) | ((fail_if_success (with_reducible refine FinS.mk ?_)); (fail_if_success (with_reducible refine Le.mk ?_)); (conv => whnf)) | (refine FinS.b ?_) | (refine FinS.lb ?_) | (refine FinS.i ?_) | (refine FinS.f ?_) | (refine FinS.agg ?_) | (refine FinS.tup ?_)))
        all_goals (try refine Side.mk ?_)
        all_goals (try simp only [eq_self, decide_eq_true_eq, decide_eq_false_iff_not, Int.ofNat_lt, Int.ofNat_le, gt_iff_lt, ge_iff_le, true_and, Bool.not_eq_true', Bool.not_eq_false'] at *)
        all_goals first | (with_reducible rfl) | trivial | omega | rfl | exact fun _ _ => trivial | exact ⟨rfl, rfl⟩ | exact ⟨rfl, fun _ _ => rfl⟩ | exact ⟨rfl, rfl, fun _ _ => rfl⟩ | (exact fun _ _ _ _ => .inr trivial) | (exact ⟨trivial, fun _ _ _ _ => .inr trivial⟩) | (exact ⟨rfl, rfl, fun _ _ _ _ => .inr trivial⟩) | (exact fun k hk j hj => .inr rfl) | (exact ⟨rfl, rfl, fun k hk j hj => .inr rfl⟩) | (exact ⟨trivial, fun k hk j hj => .inr rfl⟩) | (exact ⟨trivial, rfl, rfl⟩)
      · exact ChOK.start p i
      · intro l hx
        have hle := hx.le
        cases hst : stopB l (p i)
        · have h2 : 2 ≤ l.length := by
            unfold stopB at hst
            rw [Bool.or_eq_false_iff] at hst
            have := hst.1
            simp at this; omega
          have w1 := wlen1 (m := l.length) (by omega) (by omega)
          have w2 := wlen2 (m := l.length) h2 (by omega)
          have hs2 := hst
          unfold stopB at hs2
          have hs3 : (decide ((2 : Int) ≤ (l.length : Int)) && !fgt .f64 (crs (fsub .f64 (l.getD (l.length - 1) z2).1 (l.getD (l.length - 2) z2).1) (fsub .f64 (l.getD (l.length - 1) z2).2 (l.getD (l.length - 2) z2).2) (fsub .f64 (p i).1 (l.getD (l.length - 2) z2).1) (fsub .f64 (p i).2 (l.getD (l.length - 2) z2).2)) 0) = true := (by rw [Bool.or_eq_false_iff] at hs2; rw [hs2.2]; simp; omega)
          repeat' ((fail_if_success (with_reducible refine Side.mk ?_)); first | (refine Rest.mk (drawR_sound zES52_K mixOK (hndU_sound U47_k zHS52_K) ?_)) | ((fail_if_success (with_reducible refine Rest.mk ?_)); first | (with_reducible exact True.intro) | (with_reducible refine Need.mk ?_ ?_) | (with_reducible refine And.intro ?_ ?_) | (with_reducible intro hcl; try (exfalso; (first | (simp only [decide_eq_true_eq, decide_eq_false_iff_not] at hcl; omega) | (simp only [Int.toNat_natCast, Nat.zero_add, w1, w2] at hcl; rw [hs3] at hcl; cases hcl; done)); done)) | ((fail_if_success (with_reducible refine FinS.mk ?_)); (fail_if_success (with_reducible refine Le.mk ?_)); (conv => whnf)) | (refine FinS.b ?_) | (refine FinS.lb ?_) | (refine FinS.i ?_) | (refine FinS.f ?_) | (refine FinS.agg ?_) | (refine FinS.tup ?_)))
          all_goals (try (refine Le.shrink 0 (l.length - 1) ?_; (conv => whnf)))
          repeat' ((fail_if_success (with_reducible refine Side.mk ?_)); first | (refine Rest.mk (drawR_sound zES52_K mixOK (hndU_sound U47_k zHS52_K) ?_)) | ((fail_if_success (with_reducible refine Rest.mk ?_)); first | (with_reducible exact True.intro) | (with_reducible refine Need.mk ?_ ?_) | (with_reducible refine And.intro ?_ ?_) | (with_reducible intro _) | ((fail_if_success (with_reducible refine FinS.mk ?_)); (fail_if_success (with_reducible refine Le.mk ?_)); (conv => whnf)) | (refine FinS.b ?_) | (refine FinS.lb ?_) | (refine FinS.i ?_) | (refine FinS.f ?_) | (refine FinS.agg ?_) | (refine FinS.tup ?_)))
          all_goals (try (refine Le.of ?_; (conv => whnf)))
          repeat' ((fail_if_success (with_reducible refine Side.mk ?_)); first | (refine Rest.mk (drawR_sound zES52_K mixOK (hndU_sound U47_k zHS52_K) ?_)) | ((fail_if_success (with_reducible refine Rest.mk ?_)); first | (with_reducible exact True.intro) | (with_reducible refine Need.mk ?_ ?_) | (with_reducible refine And.intro ?_ ?_) | (with_reducible intro _) | ((fail_if_success (with_reducible refine FinS.mk ?_)); (fail_if_success (with_reducible refine Le.mk ?_)); (conv => whnf)) | (refine FinS.b ?_) | (refine FinS.lb ?_) | (refine FinS.i ?_) | (refine FinS.f ?_) | (refine FinS.agg ?_) | (refine FinS.tup ?_)))
          all_goals (try refine Side.mk ?_)
          all_goals (try simp only [Int.toNat_natCast, Nat.zero_add, Option.getD_none, Option.getD_some, w1, w2] at *)
          all_goals (try simp only [eq_self, decide_eq_true_eq, decide_eq_false_iff_not, Int.ofNat_lt, Int.ofNat_le, gt_iff_lt, ge_iff_le, true_and, Bool.not_eq_true', Bool.not_eq_false'] at *)
          all_goals first | (with_reducible rfl) | trivial | omega | rfl | exact fun _ _ => trivial | exact ⟨rfl, rfl⟩ | exact ⟨rfl, fun _ _ => rfl⟩ | exact ⟨rfl, rfl, fun _ _ => rfl⟩ | (exact ⟨hx.next hst h2, by show l.dropLast.length < l.length; rw [List.length_dropLast]; omega⟩) | (exact fun _ => ⟨by omega, by omega⟩) | (exact ⟨by omega, by omega⟩) | (exact fun _ => (by omega)) | ((rw [List.length_dropLast]; done)) | (exact ⟨by omega, by omega, by omega, by omega⟩) | (exact (List.length_dropLast).symm) | ((simp only [List.length_dropLast]; exact fun k hk j hj => .inr (by rw [show lstR l.dropLast k = lstR l k from congrArg ptM (drop_get hk)]))) | (exact ⟨(List.length_dropLast).symm, fun k hk j hj => .inr (by rw [show lstR l.dropLast k = lstR l k from congrArg ptM (drop_get hk)])⟩) | (exact ⟨rfl, (List.length_dropLast).symm, fun k hk j hj => .inr (by rw [show lstR l.dropLast k = lstR l k from congrArg ptM (drop_get hk)])⟩)
        · have hsl := hx.stopl hst
          by_cases h2 : 2 ≤ l.length
          · have w1 := wlen1 (m := l.length) (by omega) (by omega)
            have w2 := wlen2 (m := l.length) h2 (by omega)
            have hs2 := hst
            unfold stopB at hs2
            have hs3 : (decide ((2 : Int) ≤ (l.length : Int)) && !fgt .f64 (crs (fsub .f64 (l.getD (l.length - 1) z2).1 (l.getD (l.length - 2) z2).1) (fsub .f64 (l.getD (l.length - 1) z2).2 (l.getD (l.length - 2) z2).2) (fsub .f64 (p i).1 (l.getD (l.length - 2) z2).1) (fsub .f64 (p i).2 (l.getD (l.length - 2) z2).2)) 0) = false := (by rw [Bool.or_eq_true] at hs2; rcases hs2 with h | h; exact absurd h (by simp; omega); rw [h]; simp)
            repeat' ((fail_if_success (with_reducible refine Side.mk ?_)); first | (refine Rest.mk (drawR_sound zES52_K mixOK (hndU_sound U47_k zHS52_K) ?_)) | ((fail_if_success (with_reducible refine Rest.mk ?_)); first | (with_reducible exact True.intro) | (with_reducible refine Need.mk ?_ ?_) | (with_reducible refine And.intro ?_ ?_) | (with_reducible intro hcl; try (exfalso; (first | (simp only [decide_eq_true_eq, decide_eq_false_iff_not] at hcl; omega) | (simp only [Int.toNat_natCast, Nat.zero_add, w1, w2] at hcl; rw [hs3] at hcl; cases hcl; done)); done)) | ((fail_if_success (with_reducible refine FinS.mk ?_)); (fail_if_success (with_reducible refine Le.mk ?_)); (conv => whnf)) | (refine FinS.b ?_) | (refine FinS.lb ?_) | (refine FinS.i ?_) | (refine FinS.f ?_) | (refine FinS.agg ?_) | (refine FinS.tup ?_)))
            all_goals (try (refine Le.of ?_; (conv => whnf)))
            repeat' ((fail_if_success (with_reducible refine Side.mk ?_)); first | (refine Rest.mk (drawR_sound zES52_K mixOK (hndU_sound U47_k zHS52_K) ?_)) | ((fail_if_success (with_reducible refine Rest.mk ?_)); first | (with_reducible exact True.intro) | (with_reducible refine Need.mk ?_ ?_) | (with_reducible refine And.intro ?_ ?_) | (with_reducible intro _) | ((fail_if_success (with_reducible refine FinS.mk ?_)); (fail_if_success (with_reducible refine Le.mk ?_)); (conv => whnf)) | (refine FinS.b ?_) | (refine FinS.lb ?_) | (refine FinS.i ?_) | (refine FinS.f ?_) | (refine FinS.agg ?_) | (refine FinS.tup ?_)))
            all_goals (try refine Side.mk ?_)
            all_goals (try simp only [Int.toNat_natCast, Nat.zero_add, Option.getD_none, Option.getD_some, w1, w2, wi, Nat.succ_eq_add_one] at *)
            all_goals (try simp only [eq_self, decide_eq_true_eq, decide_eq_false_iff_not, Int.ofNat_lt, Int.ofNat_le, gt_iff_lt, ge_iff_le, true_and, Bool.not_eq_true', Bool.not_eq_false'] at *)
            all_goals first | (with_reducible rfl) | trivial | omega | rfl | exact fun _ _ => trivial | exact ⟨rfl, rfl⟩ | exact ⟨rfl, fun _ _ => rfl⟩ | exact ⟨rfl, rfl, fun _ _ => rfl⟩ | (exact hsl) | (exact fun _ => ⟨by omega, by omega⟩) | (exact fun _ => (by omega)) | (exact fun h => absurd h (by simp; omega)) | ((intro h; exfalso; simp at h; omega)) | ((intro h; exfalso; omega)) | (exact ⟨by omega, by omega⟩) | (exact ⟨⟨by omega, by omega⟩⟩) | (exact ⟨by omega, by omega, by show (l.length + 1) * 16 ≤ _; omega, by omega⟩) | (exact fun _ _ _ _ => .inr trivial) | (exact ⟨trivial, fun _ _ _ _ => .inr trivial⟩) | (exact ⟨rfl, rfl, fun _ _ _ _ => .inr trivial⟩) | (exact fun k hk j hj => .inr (by rw [hx.stop hst]; exact app_l rfl (by omega) hj)) | (exact ⟨rfl, rfl, fun k hk j hj => .inr (by rw [hx.stop hst]; exact app_l rfl (by omega) hj)⟩) | (exact ⟨trivial, fun k hk j hj => .inr (by rw [hx.stop hst]; exact app_l rfl (by omega) hj)⟩) | (exact ⟨hsl, fun k hk j hj => .inr (by rw [hx.stop hst]; exact app_l rfl (by omega) hj)⟩) | (exact ⟨rfl, hsl, fun k hk j hj => .inr (by rw [hx.stop hst]; exact app_l rfl (by omega) hj)⟩) | (exact congrArg Nat.cast hsl)
          · have w1 := trivial
            have w2 := trivial
            repeat' ((fail_if_success (with_reducible refine Side.mk ?_)); first | (refine Rest.mk (drawR_sound zES52_K mixOK (hndU_sound U47_k zHS52_K) ?_)) | ((fail_if_success (with_reducible refine Rest.mk ?_)); first | (with_reducible exact True.intro) | (with_reducible refine Need.mk ?_ ?_) | (with_reducible refine And.intro ?_ ?_) | (with_reducible intro hcl; try (exfalso; (first | (simp only [decide_eq_true_eq, decide_eq_false_iff_not] at hcl; omega) | (rw [Bool.or_eq_false_iff] at hcl; have hk := hcl.1; simp at hk; omega) | (rw [Bool.and_eq_true] at hcl; have hk := hcl.1; simp at hk; omega)); done)) | ((fail_if_success (with_reducible refine FinS.mk ?_)); (fail_if_success (with_reducible refine Le.mk ?_)); (conv => whnf)) | (refine FinS.b ?_) | (refine FinS.lb ?_) | (refine FinS.i ?_) | (refine FinS.f ?_) | (refine FinS.agg ?_) | (refine FinS.tup ?_)))
            all_goals (try (refine Le.of ?_; (conv => whnf)))
            repeat' ((fail_if_success (with_reducible refine Side.mk ?_)); first | (refine Rest.mk (drawR_sound zES52_K mixOK (hndU_sound U47_k zHS52_K) ?_)) | ((fail_if_success (with_reducible refine Rest.mk ?_)); first | (with_reducible exact True.intro) | (with_reducible refine Need.mk ?_ ?_) | (with_reducible refine And.intro ?_ ?_) | (with_reducible intro _) | ((fail_if_success (with_reducible refine FinS.mk ?_)); (fail_if_success (with_reducible refine Le.mk ?_)); (conv => whnf)) | (refine FinS.b ?_) | (refine FinS.lb ?_) | (refine FinS.i ?_) | (refine FinS.f ?_) | (refine FinS.agg ?_) | (refine FinS.tup ?_)))
            all_goals (try refine Side.mk ?_)
            all_goals (try simp only [Int.toNat_natCast, Nat.zero_add, Option.getD_none, Option.getD_some, wi, Nat.succ_eq_add_one] at *)
            all_goals (try simp only [eq_self, decide_eq_true_eq, decide_eq_false_iff_not, Int.ofNat_lt, Int.ofNat_le, gt_iff_lt, ge_iff_le, true_and, Bool.not_eq_true', Bool.not_eq_false'] at *)
            all_goals first | (with_reducible rfl) | trivial | omega | rfl | exact fun _ _ => trivial | exact ⟨rfl, rfl⟩ | exact ⟨rfl, fun _ _ => rfl⟩ | exact ⟨rfl, rfl, fun _ _ => rfl⟩ | (exact hsl) | (exact fun _ => ⟨by omega, by omega⟩) | (exact fun _ => (by omega)) | (exact fun h => absurd h (by simp; omega)) | ((intro h; exfalso; simp at h; omega)) | ((intro h; exfalso; omega)) | (exact ⟨by omega, by omega⟩) | (exact ⟨⟨by omega, by omega⟩⟩) | (exact ⟨by omega, by omega, by show (l.length + 1) * 16 ≤ _; omega, by omega⟩) | (exact fun _ _ _ _ => .inr trivial) | (exact ⟨trivial, fun _ _ _ _ => .inr trivial⟩) | (exact ⟨rfl, rfl, fun _ _ _ _ => .inr trivial⟩) | (exact fun k hk j hj => .inr (by rw [hx.stop hst]; exact app_l rfl (by omega) hj)) | (exact ⟨rfl, rfl, fun k hk j hj => .inr (by rw [hx.stop hst]; exact app_l rfl (by omega) hj)⟩) | (exact ⟨trivial, fun k hk j hj => .inr (by rw [hx.stop hst]; exact app_l rfl (by omega) hj)⟩) | (exact ⟨hsl, fun k hk j hj => .inr (by rw [hx.stop hst]; exact app_l rfl (by omega) hj)⟩) | (exact ⟨rfl, hsl, fun k hk j hj => .inr (by rw [hx.stop hst]; exact app_l rfl (by omega) hj)⟩) | (exact congrArg Nat.cast hsl)
    · obtain rfl : i = n := by omega
      repeat' ((fail_if_success (with_reducible refine Side.mk ?_)); first | (refine Rest.mk (drawR_sound zES52_K mixOK (hndU_sound U47_k zHS52_K) ?_)) | ((fail_if_success (with_reducible refine Rest.mk ?_)); first | (with_reducible exact True.intro) | (with_reducible refine Need.mk ?_ ?_) | (with_reducible refine And.intro ?_ ?_) | (with_reducible intro hcl; try (exfalso; (simp only [decide_eq_true_eq, decide_eq_false_iff_not] at hcl; omega); done)) | ((fail_if_success (with_reducible refine FinS.mk ?_)); (fail_if_success (with_reducible refine Le.mk ?_)); (conv => whnf)) | (refine FinS.b ?_) | (refine FinS.lb ?_) | (refine FinS.i ?_) | (refine FinS.f ?_) | (refine FinS.agg ?_) | (refine FinS.tup ?_)))
      all_goals (try (refine Le.of ?_; (conv => whnf)))
      repeat' ((fail_if_success (with_reducible refine Side.mk ?_)); first | (refine Rest.mk (drawR_sound zES52_K mixOK (hndU_sound U47_k zHS52_K) ?_)) | ((fail_if_success (with_reducible refine Rest.mk ?_)); first | (with_reducible exact True.intro) | (with_reducible refine Need.mk ?_ ?_) | (with_reducible refine And.intro ?_ ?_) | (with_reducible intro _) | ((fail_if_success (with_reducible refine FinS.mk ?_)); (fail_if_success (with_reducible refine Le.mk ?_)); (conv => whnf)) | (refine FinS.b ?_) | (refine FinS.lb ?_) | (refine FinS.i ?_) | (refine FinS.f ?_) | (refine FinS.agg ?_) | (refine FinS.tup ?_)))
      all_goals (try refine Side.mk ?_)
      all_goals (try simp only [Int.toNat_natCast, Nat.zero_add, Option.getD_none, Option.getD_some] at *)
      all_goals (try simp only [eq_self, decide_eq_true_eq, decide_eq_false_iff_not, Int.ofNat_lt, Int.ofNat_le, gt_iff_lt, ge_iff_le, true_and, Bool.not_eq_true', Bool.not_eq_false'] at *)
      all_goals first | (with_reducible rfl) | trivial | omega | rfl | exact fun _ _ => trivial | exact ⟨rfl, rfl⟩ | exact ⟨rfl, fun _ _ => rfl⟩ | exact ⟨rfl, rfl, fun _ _ => rfl⟩ | (exact FinS.rows 0 ⟨rfl, rfl, fun k hk j hj => rfl⟩ ⟨rfl, rfl, rfl, rfl⟩) | (exact FinS.rows 0 ⟨rfl, rfl, fun k hk j hj => rfl⟩ ⟨⟨rfl, rfl, rfl⟩⟩) | (exact FinS.rows 0 ⟨rfl, rfl, fun k hk j hj => rfl⟩ ⟨rfl, rfl, rfl⟩)
noncomputable def g56 : List MV → Option (List Prop × MV × List Blk × Bool)
  | [.ro 2 n get] => some ([isPts n get, n ≤ room], .os 0 2 0 (rwL (cm n (pOf get)) n).length, [.rows 2 (rwL (cm n (pOf get)) n).length (lstR (rwL (cm n (pOf get)) n))], false)
  | _ => none
theorem s56 : SumsOK Try.prog (sumOf 56 g56 S52) := by
  refine SumsOK.add S52_ok fun ms ps m blks al e hp => ?_
  unfold g56 at e
  split at e
  · cases e
    exact (le_arg1 (t56 _ (cm _ (pOf _)) (hp _ (.tail _ (.head _)))) (leR_cm (hp _ (.head _)))).aloneR rfl (fun i hi j hj => flat2 hj)
  · cases e
noncomputable def S56 := sumOf 56 g56 S52
theorem S56_ok : SumsOK Try.prog S56 := s56
end Go.Ev.Poly
