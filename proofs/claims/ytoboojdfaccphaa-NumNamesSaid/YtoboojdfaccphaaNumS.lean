/-
  The contracts of the sums; for lists of fewer than 2^62 floats.
-/
import Derived.Test.YtoboojdfaccphaaNumB
import Derived.Test.YtoboojdfaccphaaEvY
open Go Go.Proofs
namespace Go.Ev.Num
def sumTo (g : Nat → Nat) : Nat → Nat
  | 0 => g 0
  | k + 1 => fadd .f64 (sumTo g k) (g (k + 1))
def sumF (g : Nat → Nat) (n : Nat) : Nat := bif Nat.beq n 0 then 0 else sumTo g (n - 1)
theorem sumF_zero (g : Nat → Nat) : sumF g 0 = 0 := rfl
theorem sumF_succ (g : Nat → Nat) (n : Nat) : sumF g (n + 1) = sumTo g n := rfl
theorem i64_id {n : Int} (h1 : -9223372036854775808 ≤ n) (h2 : n < 9223372036854775808) : IntKind.i64.wrap n = n := i64_wrap h1 h2
noncomputable def fi31 : FnI := ⟨24, Try.f31.body.getD .skip, [.tmp 2], true⟩
theorem fi31_ok : fnGen Try.prog 31 = some fi31 := by kernel_rfl
noncomputable def fi32 : FnI := ⟨24, Try.f32.body.getD .skip, [.tmp 2], true⟩
theorem fi32_ok : fnGen Try.prog 32 = some fi32 := by kernel_rfl
set_option maxRecDepth 100000
def fl0 (l : List MV) : Nat := match getM l 0 with
  | .f .f64 x => x
  | _ => 0
theorem leR_fl {n : Nat} {get : Nat → List MV} (h : ∀ i, i < n → getM (get i) 0 = .f .f64 (fl0 (get i))) : leR (.ro 1 n get) (.ro 1 n fun i => [.f .f64 (fl0 (get i))]) := by
  refine ⟨rfl, rfl, fun i hi j hj => ?_⟩
  have : j = 0 := by omega
  subst this
  rw [h i hi]; rfl
theorem t32 (n : Nat) (g : Nat → Nat) (hn : n < 4611686018427387904) : CM Try.prog 32 [.ro 1 n (fun i => [.f .f64 (g i)])] (.f .f64 (sumF g n)) [] true := by
  refine CM.of_gen (exts := exts) (inl := []) (sum := S59) extsOK S59_ok fi32_ok 6 rfl fun cx => ?_
  repeat' ((fail_if_success (with_reducible refine Side.mk ?_)); (fail_if_success (with_reducible refine Rest.mk ?_)); first | (with_reducible exact True.intro) | (with_reducible refine Need.mk ?_ ?_) | (with_reducible refine And.intro ?_ ?_) | (with_reducible intro _) | ((fail_if_success (with_reducible refine FinS.mk ?_)); (conv => whnf)) | (refine FinS.b ?_) | (refine FinS.lb ?_) | (refine FinS.i ?_) | (refine FinS.f ?_))
  · rename_i h
    refine Side.mk ?_
    have : n = 0 := by simpa using h
    subst this; rfl
  · rename_i h
    refine Side.mk ?_
    have : n ≠ 0 := by simpa using h
    omega
  · rename_i h
    have h0 : n ≠ 0 := by simpa using h
    refine loop_rule (genE_full extsOK S59_ok) 6 (fun i => ⟨[(4, .i .i64 ((i : Int) + 1)), (3, .f .f64 (sumTo g i)), (0, .ro 1 n (fun i => [.f .f64 (g i)]))], [], [], 0⟩) (n - 1) ?_ ?_
    · conv => whnf
      repeat' ((fail_if_success (with_reducible refine Side.mk ?_)); (fail_if_success (with_reducible refine Rest.mk ?_)); first | (with_reducible exact True.intro) | (with_reducible refine Need.mk ?_ ?_) | (with_reducible refine And.intro ?_ ?_) | (with_reducible intro _) | ((fail_if_success (with_reducible refine FinS.mk ?_)); (conv => whnf)) | (refine FinS.b ?_) | (refine FinS.lb ?_) | (refine FinS.i ?_) | (refine FinS.f ?_))
      all_goals first | exact ⟨rfl⟩ | exact ⟨⟨rfl, rfl⟩⟩ | exact ⟨⟨rfl, rfl, fun _ _ => rfl⟩⟩
    · intro i hi
      repeat' ((fail_if_success (with_reducible refine Side.mk ?_)); (fail_if_success (with_reducible refine Rest.mk ?_)); first | (with_reducible exact True.intro) | (with_reducible refine Need.mk ?_ ?_) | (with_reducible refine And.intro ?_ ?_) | (with_reducible intro _) | ((fail_if_success (with_reducible refine FinS.mk ?_)); (conv => whnf)) | (refine FinS.b ?_) | (refine FinS.lb ?_) | (refine FinS.i ?_) | (refine FinS.f ?_))
      all_goals (refine Side.mk ?_)
      all_goals try simp only [decide_eq_true_eq, decide_eq_false_iff_not, true_and] at *
      all_goals first | rfl | omega | (rw [i64_id] <;> omega) | (intros; rfl) | (intros; trivial) | ((have e : n = i + 1 := (by omega)); subst e; rfl)
theorem t31 (n : Nat) (g : Nat → Nat) (hn : n < 4611686018427387904) : CM Try.prog 31 [.ro 1 n (fun i => [.f .f64 (g i)])] (.f .f64 (sumF g n)) [] true := by
  refine CM.of_gen (exts := exts) (inl := []) (sum := S59) extsOK S59_ok fi31_ok 6 rfl fun cx => ?_
  repeat' ((fail_if_success (with_reducible refine Side.mk ?_)); (fail_if_success (with_reducible refine Rest.mk ?_)); first | (with_reducible exact True.intro) | (with_reducible refine Need.mk ?_ ?_) | (with_reducible refine And.intro ?_ ?_) | (with_reducible intro _) | ((fail_if_success (with_reducible refine FinS.mk ?_)); (conv => whnf)) | (refine FinS.b ?_) | (refine FinS.lb ?_) | (refine FinS.i ?_) | (refine FinS.f ?_))
  · rename_i h
    refine Side.mk ?_
    have : n = 0 := by simpa using h
    subst this; rfl
  · rename_i h
    refine Side.mk ?_
    have : n ≠ 0 := by simpa using h
    omega
  · rename_i h
    refine Side.mk ?_
    have : n ≠ 0 := by simpa using h
    simp only [Option.getD_some, Option.getD_none]
    omega
  · rename_i h
    have h0 : n ≠ 0 := by simpa using h
    refine loop_rule (genE_full extsOK S59_ok) 6 (fun i => ⟨[(15, .i .i64 (i : Int)), (14, .i .i64 ((n - 1 : Nat) : Int)), (13, .ro 1 (n - 1) fun j => [.f .f64 (g (1 + j))]), (3, .f .f64 (sumTo g i))], [], [], 0⟩) (n - 1) ?_ ?_
    · conv => whnf
      repeat' ((fail_if_success (with_reducible refine Side.mk ?_)); (fail_if_success (with_reducible refine Rest.mk ?_)); first | (with_reducible exact True.intro) | (with_reducible refine Need.mk ?_ ?_) | (with_reducible refine And.intro ?_ ?_) | (with_reducible intro _) | ((fail_if_success (with_reducible refine FinS.mk ?_)); (conv => whnf)) | (refine FinS.b ?_) | (refine FinS.lb ?_) | (refine FinS.i ?_) | (refine FinS.f ?_))
      all_goals first | exact ⟨rfl⟩ | exact ⟨⟨rfl, rfl⟩⟩ | exact ⟨⟨rfl, rfl, fun _ _ => rfl⟩⟩
    · intro i hi
      repeat' ((fail_if_success (with_reducible refine Side.mk ?_)); (fail_if_success (with_reducible refine Rest.mk ?_)); first | (with_reducible exact True.intro) | (with_reducible refine Need.mk ?_ ?_) | (with_reducible refine And.intro ?_ ?_) | (with_reducible intro _) | ((fail_if_success (with_reducible refine FinS.mk ?_)); (conv => whnf)) | (refine FinS.b ?_) | (refine FinS.lb ?_) | (refine FinS.i ?_) | (refine FinS.f ?_))
      all_goals (refine Side.mk ?_)
      all_goals try simp only [decide_eq_true_eq, decide_eq_false_iff_not, true_and] at *
      all_goals first | rfl | omega | (rw [i64_id] <;> omega) | (intros; rfl) | (intros; trivial) | ((have e : n = i + 1 := (by omega)); subst e; rfl) | (show fadd .f64 _ (g (1 + (i : Int).toNat)) = fadd .f64 _ (g (i + 1)); rw [Int.toNat_natCast, Nat.add_comm])
def g32 : List MV → Option (List Prop × MV × List Blk × Bool)
  | [.ro 1 n get] => some ([n < 4611686018427387904, ∀ i, i < n → getM (get i) 0 = .f .f64 (fl0 (get i))], .f .f64 (sumF (fun i => fl0 (get i)) n), [], false)
  | [.nils] => some ([], .f .f64 0, [], false)
  | _ => none
theorem nils_ro {P : Program} {f : FuncId} {m : MV} {blks : List Blk} {al : Bool} (g : Nat → List MV) (h : CM P f [.ro 1 0 g] m blks al) : CM P f [.nils] m blks al :=
  h.le fun w ok vs r => ⟨r.len, fun j hj => by
    have hj' : j = 0 := by simpa using hj
    subst hj'
    have r0 := r.rep 0 (by simp)
    generalize vs.getD 0 undef = v at r0 ⊢
    cases r0
    exact .ronil _ _⟩
def S32 := sumOf 31 g32 (sumOf 32 g32 S59)
theorem S32_ok : SumsOK Try.prog S32 := by
  refine SumsOK.add (SumsOK.add S59_ok fun ms ps m blks al e hp => ?_) fun ms ps m blks al e hp => ?_
  · unfold g32 at e
    split at e
    · cases e; exact ((t32 _ _ (hp _ (by simp))).le1 (leR_fl (hp _ (by simp)))).alone rfl
    · cases e; exact (nils_ro _ (t32 0 (fun _ => 0) (by decide))).alone rfl
    · cases e
  · unfold g32 at e
    split at e
    · cases e; exact ((t31 _ _ (hp _ (by simp))).le1 (leR_fl (hp _ (by simp)))).alone rfl
    · cases e; exact (nils_ro _ (t31 0 (fun _ => 0) (by decide))).alone rfl
    · cases e
end Go.Ev.Num
