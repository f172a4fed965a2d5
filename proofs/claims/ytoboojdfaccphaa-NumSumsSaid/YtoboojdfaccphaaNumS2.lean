/-
  The contracts of Floats, SameAll and of the law on sums; for lists whose memory can be.
-/
import Derived.Test.YtoboojdfaccphaaNumS
import Derived.Test.YtoboojdfaccphaaEvZ
open Go Go.Proofs
namespace Go.Ev.Num
set_option maxRecDepth 100000
theorem mixOK : Try.prog.follows .mixedOrders = true := by kernel_rfl
theorem mixE {l : List (Nat × XK)} {i : List Nat} {s : FuncId → List MV → Option (List Prop × MV × List Blk × Bool)} : (genE Try.prog l i s).P.follows .mixedOrders = true := mixOK
theorem appGet_lt {n k : Nat} {g x : Nat → List MV} (h : k < n) : appGet n g x k = selL true (g k) (x (k - n)) := by
  have : Nat.blt k n = true := by simpa using h
  unfold appGet; rw [this]
theorem appGet_ge {n k : Nat} {g x : Nat → List MV} (h : n ≤ k) : appGet n g x k = selL false (g k) (x (k - n)) := by
  have : Nat.blt k n = false := by
    cases e : Nat.blt k n
    · rfl
    · simp at e; omega
  unfold appGet; rw [this]
noncomputable def fi30 : FnI := ⟨20, Try.f30.body.getD .skip, [.tmp 2], true⟩
theorem fi30_ok : fnGen Try.prog 30 = some fi30 := by kernel_rfl
noncomputable def fi33 : FnI := ⟨27, Try.f33.body.getD .skip, [.tmp 4], true⟩
theorem fi33_ok : fnGen Try.prog 33 = some fi33 := by kernel_rfl
theorem t30 (n : Nat) (g : Nat → Int) (hn : n < 17592186044416) (hg : ∀ i, i < n → (g i).toNat < 18446744073709551616) : CM Try.prog 30 [.ro 1 n (fun i => [.i .u64 (g i)])] (.os 0 1 0 n) [.rows 1 n fun i => [.f .f64 (canon .f64 (g i).toNat)]] true := by
  refine CM.of_gen (exts := exts) (inl := []) (sum := S32) extsOK S32_ok fi30_ok 6 rfl fun cx => ?_
  repeat' ((fail_if_success (with_reducible refine Side.mk ?_)); first | (refine Rest.mk (drawR_sound (E := genE Try.prog exts [] S32) (genE_full extsOK S32_ok).toEnvAll mixOK ?_)) | ((fail_if_success (with_reducible refine Rest.mk ?_)); first | (with_reducible exact True.intro) | (with_reducible refine Need.mk ?_ ?_) | (with_reducible refine And.intro ?_ ?_) | (with_reducible intro _) | ((fail_if_success (with_reducible refine FinS.mk ?_)); (conv => whnf)) | (refine FinS.b ?_) | (refine FinS.lb ?_) | (refine FinS.i ?_) | (refine FinS.f ?_)))
  refine rest_phan 1 (loop_rule (genE_full extsOK S32_ok) 6 (fun i => ⟨[(4, .i .i64 (i : Int)), (3, .os 0 1 0 i), (0, .ro 1 n (fun i => [.i .u64 (g i)]))], [], [(0, .rows 1 i fun i => [.f .f64 (canon .f64 (g i).toNat)])], 1⟩) n ?_ ?_)
  · conv => whnf
    repeat' ((fail_if_success (with_reducible refine Side.mk ?_)); first | (refine Rest.mk (drawR_sound (E := genE Try.prog exts [] S32) (genE_full extsOK S32_ok).toEnvAll mixOK ?_)) | ((fail_if_success (with_reducible refine Rest.mk ?_)); first | (with_reducible exact True.intro) | (with_reducible refine Need.mk ?_ ?_) | (with_reducible refine And.intro ?_ ?_) | (with_reducible intro _) | ((fail_if_success (with_reducible refine FinS.mk ?_)); (conv => whnf)) | (refine FinS.b ?_) | (refine FinS.lb ?_) | (refine FinS.i ?_) | (refine FinS.f ?_)))
    all_goals first | exact ⟨rfl⟩ | exact ⟨⟨rfl, rfl⟩⟩ | exact ⟨⟨rfl, rfl, fun _ _ => rfl⟩⟩ | exact ⟨⟨rfl, rfl, fun _ h => absurd h (Nat.not_lt_zero _)⟩⟩
  · intro i hi
    repeat' ((fail_if_success (with_reducible refine Side.mk ?_)); first | (refine Rest.mk (drawR_sound (E := genE Try.prog exts [] S32) (genE_full extsOK S32_ok).toEnvAll mixOK ?_)) | ((fail_if_success (with_reducible refine Rest.mk ?_)); first | (with_reducible exact True.intro) | (with_reducible refine Need.mk ?_ ?_) | (with_reducible refine And.intro ?_ ?_) | (with_reducible intro _) | ((fail_if_success (with_reducible refine FinS.mk ?_)); (conv => whnf)) | (refine FinS.b ?_) | (refine FinS.lb ?_) | (refine FinS.i ?_) | (refine FinS.f ?_)))
    all_goals (try refine Side.mk ?_)
    all_goals (try simp only [decide_eq_true_eq, decide_eq_false_iff_not, Int.ofNat_lt, true_and] at *)
    all_goals first | omega | (exact hg _ (by omega)) | (exact ⟨by decide, Nat.le_refl _, (by show (i + 1) * 8 ≤ _; omega), by omega⟩) | (intro k hk; rcases Nat.lt_or_ge k i with h | h; (rw [appGet_lt h]; rfl); (have : k = i := by omega); subst this; (rw [appGet_ge (Nat.le_refl _)]; rfl)) | ((have : i = n := by omega); subst this; exact FinS.rows 0 ⟨rfl, rfl, fun _ _ _ _ => rfl⟩ ⟨rfl, rfl, rfl⟩) | rfl | trivial | (intros; rfl) | (intros; trivial) | (exact i64_id (by omega) (by omega)) | decide | trace_state
theorem t33 (n : Nat) (g g' : Nat → Nat) (hn : n < 4611686018427387904) (hg : ∀ i, i < n → g i = g' i) : CM Try.prog 33 [.ro 1 n (fun i => [.f .f64 (g i)]), .ro 1 n (fun i => [.f .f64 (g' i)])] (.b true) [] true := by
  refine CM.of_gen (exts := exts) (inl := []) (sum := S32) extsOK S32_ok fi33_ok 6 rfl fun cx => ?_
  repeat' ((fail_if_success (with_reducible refine Side.mk ?_)); first | (refine Rest.mk (drawR_sound (E := genE Try.prog exts [] S32) (genE_full extsOK S32_ok).toEnvAll mixOK ?_)) | ((fail_if_success (with_reducible refine Rest.mk ?_)); first | (with_reducible exact True.intro) | (with_reducible refine Need.mk ?_ ?_) | (with_reducible refine And.intro ?_ ?_) | (with_reducible intro _) | ((fail_if_success (with_reducible refine FinS.mk ?_)); (conv => whnf)) | (refine FinS.b ?_) | (refine FinS.lb ?_) | (refine FinS.i ?_) | (refine FinS.f ?_)))
  · rename_i h
    refine Side.mk ?_
    simp at h
  · refine loop_rule (genE_full extsOK S32_ok) 6 (fun i => ⟨[(5, .i .i64 (i : Int)), (0, .ro 1 n (fun i => [.f .f64 (g i)])), (1, .ro 1 n (fun i => [.f .f64 (g' i)]))], [], [], 0⟩) n ?_ ?_
    · conv => whnf
      repeat' ((fail_if_success (with_reducible refine Side.mk ?_)); first | (refine Rest.mk (drawR_sound (E := genE Try.prog exts [] S32) (genE_full extsOK S32_ok).toEnvAll mixOK ?_)) | ((fail_if_success (with_reducible refine Rest.mk ?_)); first | (with_reducible exact True.intro) | (with_reducible refine Need.mk ?_ ?_) | (with_reducible refine And.intro ?_ ?_) | (with_reducible intro _) | ((fail_if_success (with_reducible refine FinS.mk ?_)); (conv => whnf)) | (refine FinS.b ?_) | (refine FinS.lb ?_) | (refine FinS.i ?_) | (refine FinS.f ?_)))
      all_goals first | exact ⟨rfl⟩ | exact ⟨⟨rfl, rfl⟩⟩ | exact ⟨⟨rfl, rfl, fun _ _ => rfl⟩⟩ | exact ⟨⟨rfl, rfl, fun _ h => absurd h (Nat.not_lt_zero _)⟩⟩
    · intro i hi
      repeat' ((fail_if_success (with_reducible refine Side.mk ?_)); first | (refine Rest.mk (drawR_sound (E := genE Try.prog exts [] S32) (genE_full extsOK S32_ok).toEnvAll mixOK ?_)) | ((fail_if_success (with_reducible refine Rest.mk ?_)); first | (with_reducible exact True.intro) | (with_reducible refine Need.mk ?_ ?_) | (with_reducible refine And.intro ?_ ?_) | (with_reducible intro _) | ((fail_if_success (with_reducible refine FinS.mk ?_)); (conv => whnf)) | (refine FinS.b ?_) | (refine FinS.lb ?_) | (refine FinS.i ?_) | (refine FinS.f ?_)))
      all_goals (try refine Side.mk ?_)
      all_goals (try simp only [decide_eq_true_eq, decide_eq_false_iff_not, Int.ofNat_lt, true_and] at *)
      all_goals first | omega | (simp at *; done) | (have hgi := hg i (by omega); simp_all; done) | rfl | trivial | (intros; rfl) | (intros; trivial) | (exact i64_id (by omega) (by omega)) | decide | trace_state
def in0 (l : List MV) : Int := match getM l 0 with
  | .i .u64 x => x
  | _ => 0
theorem leR_in {n : Nat} {get : Nat → List MV} (h : ∀ i, i < n → getM (get i) 0 = .i .u64 (in0 (get i))) : leR (.ro 1 n get) (.ro 1 n fun i => [.i .u64 (in0 (get i))]) := by
  refine ⟨rfl, rfl, fun i hi j hj => ?_⟩
  have : j = 0 := by omega
  subst this
  rw [h i hi]; rfl
def g30 : List MV → Option (List Prop × MV × List Blk × Bool)
  | [.ro 1 n get] => some ([n < 17592186044416, ∀ i, i < n → getM (get i) 0 = .i .u64 (in0 (get i)), ∀ i, i < n → (in0 (get i)).toNat < 18446744073709551616], .os 0 1 0 n, [.rows 1 n fun i => [.f .f64 (canon .f64 (in0 (get i)).toNat)]], true)
  | _ => none
def g33 : List MV → Option (List Prop × MV × List Blk × Bool)
  | [.ro 1 n get, .ro 1 n' get'] => some ([n' = n ∧ n < 4611686018427387904, ∀ i, i < n → getM (get i) 0 = .f .f64 (fl0 (get i)), ∀ i, i < n → getM (get' i) 0 = .f .f64 (fl0 (get' i)), ∀ i, i < n → fl0 (get i) = fl0 (get' i)], .b true, [], false)
  | _ => none
def S33 := sumOf 30 g30 (sumOf 33 g33 S32)
theorem S33_ok : SumsOK Try.prog S33 := by
  refine SumsOK.add (SumsOK.add S32_ok fun ms ps m blks al e hp => ?_) fun ms ps m blks al e hp => ?_
  · unfold g33 at e
    split at e
    · cases e
      have h0 := hp _ (List.mem_cons_self)
      obtain ⟨h1, h2⟩ := h0
      subst h1
      exact ((t33 _ _ _ h2 (hp _ (by simp))).le2 (leR_fl (hp _ (by simp))) (leR_fl (hp _ (by simp)))).alone rfl
    · cases e
  · unfold g30 at e
    split at e
    · cases e; exact (t30 _ _ (hp _ (by simp)) (hp _ (by simp))).le1 (leR_in (hp _ (by simp)))
    · cases e
noncomputable def fi5 : FnI := ⟨Try.f5.ntmps, Try.f5.body.getD .skip, [.tmp 2], true⟩
theorem fi5_ok : fnGen Try.prog 5 = some fi5 := by kernel_rfl
theorem sumTo_congr {g g' : Nat → Nat} : ∀ {n : Nat}, (∀ i, i ≤ n → g i = g' i) → sumTo g n = sumTo g' n
  | 0, h => h 0 (Nat.le_refl _)
  | n + 1, h => by unfold sumTo; rw [sumTo_congr (n := n) fun i hi => h i (by omega), h (n + 1) (Nat.le_refl _)]
theorem sumF_congr {g g' : Nat → Nat} {n : Nat} (h : ∀ i, i < n → g i = g' i) : sumF g n = sumF g' n := by
  cases n with
  | zero => rfl
  | succ n => rw [sumF_succ, sumF_succ]; exact sumTo_congr fun i hi => h i (by omega)
theorem t5 (n : Nat) (g : Nat → Int) (hn : n < 17592186044415) (hg : ∀ i, i < n → (g i).toNat < 18446744073709551616) : CM Try.prog 5 [.ro 1 n (fun i => [.i .u64 (g i)])] (.b true) [] true := by
  have hA : ∀ (y i : Nat), i < n → appGet n (fun i => [.f .f64 (canon .f64 (in0 [.i .u64 (g i)]).toNat)]) (fun _ => .f .f64 y :: List.append [] (evKm.repM 0 [.f .f64 0])) i = [.f .f64 (canon .f64 (g i).toNat)] := by
    intro x i h; rw [appGet_lt h]; rfl
  have hS : ∀ y : Nat, sumF (fun i => fl0 (appGet n (fun i => [.f .f64 (canon .f64 (in0 [.i .u64 (g i)]).toNat)]) (fun _ => .f .f64 y :: List.append [] (evKm.repM 0 [.f .f64 0])) i)) n = sumF (fun i => fl0 [MV.f .f64 (canon .f64 (in0 [.i .u64 (g i)]).toNat)]) n :=
    fun y => sumF_congr fun i hi => by rw [hA _ _ hi]; rfl
  have hB : Nat.blt n n = false := by
    cases e : Nat.blt n n
    · rfl
    · simp at e
  refine CM.of_gen (exts := exts) (inl := []) (sum := S33) extsOK S33_ok fi5_ok 6 rfl fun cx => ?_
  repeat' ((fail_if_success (with_reducible refine Side.mk ?_)); first | (refine Rest.mk (drawR_sound (E := genE Try.prog exts [] S33) (genE_full extsOK S33_ok).toEnvAll mixOK ?_)) | ((fail_if_success (with_reducible refine Rest.mk ?_)); first | (with_reducible exact True.intro) | (with_reducible refine Need.mk ?_ ?_) | (with_reducible refine And.intro ?_ ?_) | (with_reducible intro _) | ((fail_if_success (with_reducible refine FinS.mk ?_)); (conv => whnf)) | (refine FinS.b ?_) | (refine FinS.lb ?_) | (refine FinS.i ?_) | (refine FinS.f ?_)))
  all_goals (refine Side.mk ?_)
  all_goals (try simp only [Option.getD_some, Option.getD_none, Int.toNat_natCast, Int.toNat_zero, Nat.zero_add, Nat.sub_zero] at *)
  · exact ⟨by omega, fun _ _ => rfl, hg⟩
  · exact ⟨by omega, fun _ _ => rfl, hg⟩
  · exact ⟨by decide, Nat.le_refl _, (by show (n + 1) * 8 ≤ _; omega), by omega⟩
  · omega
  · exact ⟨by omega, fun i hi => (by rw [hA _ _ hi]; rfl), by omega⟩
  · exact ⟨by omega, fun i hi => rfl, by omega⟩
  · intro _; exact ⟨by omega, by omega, by omega, by omega⟩
  · intro _; exact ⟨⟨trivial, by omega⟩, fun i hi => (by rw [hA _ _ hi]; rfl), fun i hi => rfl, fun i hi => (by rw [hA _ _ hi]; rfl), by omega, by omega⟩
  · intro _; omega
  · intro _; omega
  · rw [hS, hB]; simp only [decide_true, Bool.true_and, cond_false]; decide +kernel
