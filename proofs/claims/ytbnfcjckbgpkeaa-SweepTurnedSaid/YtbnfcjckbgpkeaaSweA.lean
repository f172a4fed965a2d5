/-
  The contracts of Check, Over, Meet and what compares boxes; for all floats.
-/
import Derived.Test.YtbnfcjckbgpkeaaProg
import Derived.KernelRfl
import Derived.Test.YtbnfcjckbgpkeaaEvC
import Derived.Test.YtbnfcjckbgpkeaaEvL
set_option linter.unusedSimpArgs false
set_option linter.unusedVariables false
open Go Go.Proofs
namespace Go.Ev.Sweep
set_option maxRecDepth 100000
set_option maxHeartbeats 1000000
def exts : List (Nat × XK) := [(46, .f64from), (57, .f64bits)]
theorem ext46 : ExtOK Try.prog 46 .f64from := .of Try.func46 (by kernel_rfl) (by kernel_rfl) (by kernel_rfl) (by kernel_rfl)
theorem ext57 : ExtOK Try.prog 57 .f64bits := .of Try.func57 (by kernel_rfl) (by kernel_rfl) (by kernel_rfl) (by kernel_rfl)
theorem extsOK : ∀ f k, look exts f = some k → ExtOK Try.prog f k := by
  intro f k h
  unfold exts at h
  simp only [look] at h
  split at h
  · rename_i e; have := Nat.eq_of_beq_eq_true e; subst this; cases h; exact ext46
  · skip
    split at h
    · rename_i e; have := Nat.eq_of_beq_eq_true e; subst this; cases h; exact ext57
    · skip
      cases h
def eqs : List Nat := [25, 27, 46]
theorem eqsOK : eqsB Try.prog eqs = true := by kernel_rfl
theorem mixOK : Try.prog.follows .mixedOrders = true := by kernel_rfl
theorem f64_lt {r x : Nat} (h : FR .f64 r x) : r < 18446744073709551616 := h.lt
theorem rg_double (r : Nat) : rg Ieee.double r = r % 9223372036854775808 := by unfold rg; rw [sw_double]
theorem isNan_f64 (r : Nat) : isNan .f64 r = decide (9218868437227405312 < r % 9223372036854775808) := by
  rw [isNan_eq]; show decide (Ieee.double.infRung < rg Ieee.double r) = _
  rw [ir_double, rg_double]
theorem none_bits {r : Nat} (h : r < 18446744073709551616) :
    (ibits BinOp.and IntKind.u64 (ishr IntKind.u64 (r : Int) (Int.ofNat 52)) 2047 == 2047 && ishl IntKind.u64 (r : Int) (Int.ofNat 12) != 0) = isNan .f64 r := by
  have e1 : ishr IntKind.u64 (r : Int) (Int.ofNat 52) = ((r / 2 ^ 52 : Nat) : Int) := shr_nat r 52 (by omega)
  have e2 : ishl IntKind.u64 (r : Int) (Int.ofNat 12) = ((r * 2 ^ 12 % 2 ^ 64 : Nat) : Int) := shl_nat r 12 (by omega)
  have e3 : ibits BinOp.and IntKind.u64 ((r / 2 ^ 52 : Nat) : Int) 2047 = ((r / 2 ^ 52 % 2048 : Nat) : Int) := by
    rw [← and_2047]; exact and_nat _ 2047 (by omega) (by omega)
  rw [e1, e2, e3, isNan_f64]
  rw [Bool.eq_iff_iff]
  simp only [Bool.and_eq_true, beq_iff_eq, bne_iff_ne, decide_eq_true_eq]
  omega
theorem same_raw {x y r q : Nat} (hr : FR .f64 r x) (hq : FR .f64 q y) (h : (isNan .f64 x || isNan .f64 y) = false) : ((r : Int) == (q : Int)) = decide (x = y) := by
  rw [Bool.or_eq_false_iff] at h
  rw [hr.raw h.1, hq.raw h.2, Bool.eq_iff_iff]
  simp only [beq_iff_eq, decide_eq_true_eq]
  omega
def smV (x y : Nat) : Bool := bif isNan .f64 x || isNan .f64 y then isNan .f64 x && isNan .f64 y else decide (x = y)
theorem smV_self (x : Nat) : smV x x = true := by unfold smV; cases isNan .f64 x <;> simp
def finV (x : Nat) : Bool := feq .f64 (fsub .f64 x x) 0
def bad4 (a1 a2 a3 a4 : Nat) : Bool := !(finV a1 && finV a2) || !(finV a3 && finV a4) || fgt .f64 a1 a3 || fgt .f64 a2 a4
def chk (a1 a2 a3 a4 : Nat) : Int := bif bad4 a1 a2 a3 a4 then 50 else 0
def belV (a1 a2 b1 b2 : Nat) : Bool := fle .f64 a1 b1 && fle .f64 a2 b2
def ovV (a1 a2 a3 a4 b1 b2 b3 b4 : Nat) : Bool := belV a1 a2 b3 b4 && belV b1 b2 a3 a4
def rovV (a1 a2 a3 a4 b1 b2 b3 b4 : Nat) : Bool := fle .f64 a1 b3 && fle .f64 b1 a3 && fle .f64 a2 b4 && fle .f64 b2 a4
theorem rov_eq (a1 a2 a3 a4 b1 b2 b3 b4 : Nat) : rovV a1 a2 a3 a4 b1 b2 b3 b4 = ovV a1 a2 a3 a4 b1 b2 b3 b4 := by
  unfold rovV ovV belV
  cases fle .f64 a1 b3 <;> cases fle .f64 b1 a3 <;> cases fle .f64 a2 b4 <;> cases fle .f64 b2 a4 <;> rfl
def meetV (a1 a2 a3 a4 b1 b2 b3 b4 : Nat) : Bool := chk a1 a2 a3 a4 == 0 && chk b1 b2 b3 b4 == 0 && rovV a1 a2 a3 a4 b1 b2 b3 b4
theorem bifT {c : Bool} {α : Type} {x y : α} (h : c = true) : (bif c then x else y) = x := by rw [h]; rfl
theorem bifF {c : Bool} {α : Type} {x y : α} (h : c = false) : (bif c then x else y) = y := by rw [h]; rfl
noncomputable def fi56 : FnI := ⟨15, Try.f56.body.getD .skip, [.tmp 2], true⟩
theorem fi56_ok : fnGen Try.prog 56 = some fi56 := by kernel_rfl
theorem t56 (x : Nat) : CM Try.prog 56 [.f .f64 x] (.b (isNan .f64 x)) [] true := by
  refine CM.of_genQ (exts := exts) (eqs := eqs) (inl := []) (sum := sum0) extsOK eqsOK sums0 fi56_ok 6 rfl fun cx => ?_
  repeat' ((fail_if_success (with_reducible refine Side.mk ?_)); first | ((fail_if_success (with_reducible refine Rest.mk ?_)); first | (with_reducible exact True.intro) | (with_reducible refine Need.mk ?_ ?_) | (with_reducible refine And.intro ?_ ?_) | (with_reducible intro _) | ((fail_if_success (with_reducible refine FinS.mk ?_)); (conv => whnf)) | (refine FinS.b ?_) | (refine FinS.lb ?_) | (refine FinS.i ?_) | (refine FinS.f ?_) | (refine FinS.agg ?_) | (refine FinS.tup ?_)))
  rename_i r hr
  refine Side.mk ?_
  rw [← hr.nan]; exact none_bits (f64_lt hr)
noncomputable def g56 : List MV → Option (List Prop × MV × List Blk × Bool)
  | [.f .f64 x] => some ([], (.b (isNan .f64 x)), [], false)
  | _ => none
theorem s56 : SumsOK Try.prog (sumOf 56 g56 sum0) := by
  refine SumsOK.add sums0 fun ms ps m blks al e hp => ?_
  unfold g56 at e
  split at e
  · cases e; exact (t56 _ ).aloneT rfl
  · cases e
noncomputable def S56 := sumOf 56 g56 sum0
theorem S56_ok : SumsOK Try.prog S56 := s56
noncomputable def fi51 : FnI := ⟨22, Try.f51.body.getD .skip, [.tmp 4], true⟩
theorem fi51_ok : fnGen Try.prog 51 = some fi51 := by kernel_rfl
theorem t51 (x : Nat) (y : Nat) : CM Try.prog 51 [.f .f64 x, .f .f64 y] (.b (smV x y)) [] true := by
  refine CM.of_genQ (exts := exts) (eqs := eqs) (inl := []) (sum := S56) extsOK eqsOK S56_ok fi51_ok 6 rfl fun cx => ?_
  repeat' ((fail_if_success (with_reducible refine Side.mk ?_)); first | ((fail_if_success (with_reducible refine Rest.mk ?_)); first | (with_reducible exact True.intro) | (with_reducible refine Need.mk ?_ ?_) | (with_reducible refine And.intro ?_ ?_) | (with_reducible intro _) | ((fail_if_success (with_reducible refine FinS.mk ?_)); (conv => whnf)) | (refine FinS.b ?_) | (refine FinS.lb ?_) | (refine FinS.i ?_) | (refine FinS.f ?_) | (refine FinS.agg ?_) | (refine FinS.tup ?_)))
  · rename_i h; exact ⟨(bifT h).symm⟩
  · rename_i h r hr q hq; exact ⟨(same_raw hr hq h).trans (bifF h).symm⟩
noncomputable def g51 : List MV → Option (List Prop × MV × List Blk × Bool)
  | [.f .f64 x, .f .f64 y] => some ([], (.b (smV x y)), [], false)
  | _ => none
theorem s51 : SumsOK Try.prog (sumOf 51 g51 S56) := by
  refine SumsOK.add S56_ok fun ms ps m blks al e hp => ?_
  unfold g51 at e
  split at e
  · cases e; exact (t51 _ _ ).aloneT rfl
  · cases e
noncomputable def S51 := sumOf 51 g51 S56
theorem S51_ok : SumsOK Try.prog S51 := s51
noncomputable def fi47 : FnI := ⟨7, Try.f47.body.getD .skip, [.tmp 2], true⟩
theorem fi47_ok : fnGen Try.prog 47 = some fi47 := by kernel_rfl
theorem t47 (x : Nat) : CM Try.prog 47 [.f .f64 x] (.b (finV x)) [] true := by
  refine CM.of_genQ (exts := exts) (eqs := eqs) (inl := []) (sum := S51) extsOK eqsOK S51_ok fi47_ok 6 rfl fun cx => ?_
  repeat' ((fail_if_success (with_reducible refine Side.mk ?_)); first | ((fail_if_success (with_reducible refine Rest.mk ?_)); first | (with_reducible exact True.intro) | (with_reducible refine Need.mk ?_ ?_) | (with_reducible refine And.intro ?_ ?_) | (with_reducible intro _) | ((fail_if_success (with_reducible refine FinS.mk ?_)); (conv => whnf)) | (refine FinS.b ?_) | (refine FinS.lb ?_) | (refine FinS.i ?_) | (refine FinS.f ?_) | (refine FinS.agg ?_) | (refine FinS.tup ?_)))
  all_goals first | exact ⟨rfl⟩ | exact ⟨⟨rfl, rfl⟩⟩ | (refine Side.mk ⟨rfl, ?_⟩; first | exact ⟨rfl⟩ | rfl)
noncomputable def g47 : List MV → Option (List Prop × MV × List Blk × Bool)
  | [.f .f64 x] => some ([], (.b (finV x)), [], false)
  | _ => none
theorem s47 : SumsOK Try.prog (sumOf 47 g47 S51) := by
  refine SumsOK.add S51_ok fun ms ps m blks al e hp => ?_
  unfold g47 at e
  split at e
  · cases e; exact (t47 _ ).aloneT rfl
  · cases e
noncomputable def S47 := sumOf 47 g47 S51
theorem S47_ok : SumsOK Try.prog S47 := s47
noncomputable def fi48 : FnI := ⟨7, Try.f48.body.getD .skip, [.tmp 2], true⟩
theorem fi48_ok : fnGen Try.prog 48 = some fi48 := by kernel_rfl
theorem t48 (x : Nat) : CM Try.prog 48 [.f .f64 x] (.b (finV x)) [] true := by
  refine CM.of_genQ (exts := exts) (eqs := eqs) (inl := []) (sum := S47) extsOK eqsOK S47_ok fi48_ok 6 rfl fun cx => ?_
  repeat' ((fail_if_success (with_reducible refine Side.mk ?_)); first | ((fail_if_success (with_reducible refine Rest.mk ?_)); first | (with_reducible exact True.intro) | (with_reducible refine Need.mk ?_ ?_) | (with_reducible refine And.intro ?_ ?_) | (with_reducible intro _) | ((fail_if_success (with_reducible refine FinS.mk ?_)); (conv => whnf)) | (refine FinS.b ?_) | (refine FinS.lb ?_) | (refine FinS.i ?_) | (refine FinS.f ?_) | (refine FinS.agg ?_) | (refine FinS.tup ?_)))
  all_goals first | exact ⟨rfl⟩ | exact ⟨⟨rfl, rfl⟩⟩ | (refine Side.mk ⟨rfl, ?_⟩; first | exact ⟨rfl⟩ | rfl)
noncomputable def g48 : List MV → Option (List Prop × MV × List Blk × Bool)
  | [.f .f64 x] => some ([], (.b (finV x)), [], false)
  | _ => none
theorem s48 : SumsOK Try.prog (sumOf 48 g48 S47) := by
  refine SumsOK.add S47_ok fun ms ps m blks al e hp => ?_
  unfold g48 at e
  split at e
  · cases e; exact (t48 _ ).aloneT rfl
  · cases e
noncomputable def S48 := sumOf 48 g48 S47
theorem S48_ok : SumsOK Try.prog S48 := s48
noncomputable def fi36 : FnI := ⟨11, Try.f36.body.getD .skip, [.tmp 2], true⟩
theorem fi36_ok : fnGen Try.prog 36 = some fi36 := by kernel_rfl
theorem t36 (a1 : Nat) (a2 : Nat) : CM Try.prog 36 [.agg [.f .f64 a1, .f .f64 a2]] (.b (finV a1 && finV a2)) [] true := by
  refine CM.of_genQ (exts := exts) (eqs := eqs) (inl := []) (sum := S48) extsOK eqsOK S48_ok fi36_ok 6 rfl fun cx => ?_
  repeat' ((fail_if_success (with_reducible refine Side.mk ?_)); first | ((fail_if_success (with_reducible refine Rest.mk ?_)); first | (with_reducible exact True.intro) | (with_reducible refine Need.mk ?_ ?_) | (with_reducible refine And.intro ?_ ?_) | (with_reducible intro _) | ((fail_if_success (with_reducible refine FinS.mk ?_)); (conv => whnf)) | (refine FinS.b ?_) | (refine FinS.lb ?_) | (refine FinS.i ?_) | (refine FinS.f ?_) | (refine FinS.agg ?_) | (refine FinS.tup ?_)))
  all_goals first | exact ⟨rfl⟩ | exact ⟨⟨rfl, rfl⟩⟩ | (refine Side.mk ⟨rfl, ?_⟩; first | exact ⟨rfl⟩ | rfl)
noncomputable def g36 : List MV → Option (List Prop × MV × List Blk × Bool)
  | [.agg [.f .f64 a1, .f .f64 a2]] => some ([], (.b (finV a1 && finV a2)), [], false)
  | _ => none
theorem s36 : SumsOK Try.prog (sumOf 36 g36 S48) := by
  refine SumsOK.add S48_ok fun ms ps m blks al e hp => ?_
  unfold g36 at e
  split at e
  · cases e; exact (t36 _ _ ).aloneT rfl
  · cases e
noncomputable def S36 := sumOf 36 g36 S48
theorem S36_ok : SumsOK Try.prog S36 := s36
noncomputable def fi39 : FnI := ⟨11, Try.f39.body.getD .skip, [.tmp 2], true⟩
theorem fi39_ok : fnGen Try.prog 39 = some fi39 := by kernel_rfl
theorem t39 (a1 : Nat) (a2 : Nat) : CM Try.prog 39 [.agg [.f .f64 a1, .f .f64 a2]] (.b (finV a1 && finV a2)) [] true := by
  refine CM.of_genQ (exts := exts) (eqs := eqs) (inl := []) (sum := S36) extsOK eqsOK S36_ok fi39_ok 6 rfl fun cx => ?_
  repeat' ((fail_if_success (with_reducible refine Side.mk ?_)); first | ((fail_if_success (with_reducible refine Rest.mk ?_)); first | (with_reducible exact True.intro) | (with_reducible refine Need.mk ?_ ?_) | (with_reducible refine And.intro ?_ ?_) | (with_reducible intro _) | ((fail_if_success (with_reducible refine FinS.mk ?_)); (conv => whnf)) | (refine FinS.b ?_) | (refine FinS.lb ?_) | (refine FinS.i ?_) | (refine FinS.f ?_) | (refine FinS.agg ?_) | (refine FinS.tup ?_)))
  all_goals first | exact ⟨rfl⟩ | exact ⟨⟨rfl, rfl⟩⟩ | (refine Side.mk ⟨rfl, ?_⟩; first | exact ⟨rfl⟩ | rfl)
noncomputable def g39 : List MV → Option (List Prop × MV × List Blk × Bool)
  | [.agg [.f .f64 a1, .f .f64 a2]] => some ([], (.b (finV a1 && finV a2)), [], false)
  | _ => none
theorem s39 : SumsOK Try.prog (sumOf 39 g39 S36) := by
  refine SumsOK.add S36_ok fun ms ps m blks al e hp => ?_
  unfold g39 at e
  split at e
  · cases e; exact (t39 _ _ ).aloneT rfl
  · cases e
noncomputable def S39 := sumOf 39 g39 S36
theorem S39_ok : SumsOK Try.prog S39 := s39
noncomputable def fi25 : FnI := ⟨31, Try.f25.body.getD .skip, [.tmp 2], true⟩
theorem fi25_ok : fnGen Try.prog 25 = some fi25 := by kernel_rfl
theorem t25 (a1 : Nat) (a2 : Nat) (a3 : Nat) (a4 : Nat) : CM Try.prog 25 [.agg [.f .f64 a1, .f .f64 a2, .f .f64 a3, .f .f64 a4]] (.i .i64 (chk a1 a2 a3 a4)) [] true := by
  refine CM.of_genQ (exts := exts) (eqs := eqs) (inl := []) (sum := S39) extsOK eqsOK S39_ok fi25_ok 6 rfl fun cx => ?_
  repeat' ((fail_if_success (with_reducible refine Side.mk ?_)); first | ((fail_if_success (with_reducible refine Rest.mk ?_)); first | (with_reducible exact True.intro) | (with_reducible refine Need.mk ?_ ?_) | (with_reducible refine And.intro ?_ ?_) | (with_reducible intro _) | ((fail_if_success (with_reducible refine FinS.mk ?_)); (conv => whnf)) | (refine FinS.b ?_) | (refine FinS.lb ?_) | (refine FinS.i ?_) | (refine FinS.f ?_) | (refine FinS.agg ?_) | (refine FinS.tup ?_)))
  all_goals (rename_i h; refine Side.mk ?_; first | exact (bifT (c := bad4 a1 a2 a3 a4) h).symm | exact (bifF (c := bad4 a1 a2 a3 a4) h).symm)
noncomputable def g25 : List MV → Option (List Prop × MV × List Blk × Bool)
  | [.agg [.f .f64 a1, .f .f64 a2, .f .f64 a3, .f .f64 a4]] => some ([], (.i .i64 (chk a1 a2 a3 a4)), [], false)
  | _ => none
theorem s25 : SumsOK Try.prog (sumOf 25 g25 S39) := by
  refine SumsOK.add S39_ok fun ms ps m blks al e hp => ?_
  unfold g25 at e
  split at e
  · cases e; exact (t25 _ _ _ _ ).aloneT rfl
  · cases e
noncomputable def S25 := sumOf 25 g25 S39
theorem S25_ok : SumsOK Try.prog S25 := s25
noncomputable def fi28 : FnI := ⟨35, Try.f28.body.getD .skip, [.tmp 2], true⟩
theorem fi28_ok : fnGen Try.prog 28 = some fi28 := by kernel_rfl
theorem t28 (a1 : Nat) (a2 : Nat) (a3 : Nat) (a4 : Nat) : CM Try.prog 28 [.agg [.f .f64 a1, .f .f64 a2, .f .f64 a3, .f .f64 a4]] (.i .i64 (chk a1 a2 a3 a4)) [] true := by
  refine CM.of_genQ (exts := exts) (eqs := eqs) (inl := []) (sum := S25) extsOK eqsOK S25_ok fi28_ok 6 rfl fun cx => ?_
  repeat' ((fail_if_success (with_reducible refine Side.mk ?_)); first | ((fail_if_success (with_reducible refine Rest.mk ?_)); first | (with_reducible exact True.intro) | (with_reducible refine Need.mk ?_ ?_) | (with_reducible refine And.intro ?_ ?_) | (with_reducible intro _) | ((fail_if_success (with_reducible refine FinS.mk ?_)); (conv => whnf)) | (refine FinS.b ?_) | (refine FinS.lb ?_) | (refine FinS.i ?_) | (refine FinS.f ?_) | (refine FinS.agg ?_) | (refine FinS.tup ?_)))
  all_goals (rename_i h; refine Side.mk ?_; first | exact (bifT (c := bad4 a1 a2 a3 a4) h).symm | exact (bifF (c := bad4 a1 a2 a3 a4) h).symm)
noncomputable def g28 : List MV → Option (List Prop × MV × List Blk × Bool)
  | [.agg [.f .f64 a1, .f .f64 a2, .f .f64 a3, .f .f64 a4]] => some ([], (.i .i64 (chk a1 a2 a3 a4)), [], false)
  | _ => none
theorem s28 : SumsOK Try.prog (sumOf 28 g28 S25) := by
  refine SumsOK.add S25_ok fun ms ps m blks al e hp => ?_
  unfold g28 at e
  split at e
  · cases e; exact (t28 _ _ _ _ ).aloneT rfl
  · cases e
noncomputable def S28 := sumOf 28 g28 S25
theorem S28_ok : SumsOK Try.prog S28 := s28
noncomputable def fi38 : FnI := ⟨17, Try.f38.body.getD .skip, [.tmp 4], true⟩
theorem fi38_ok : fnGen Try.prog 38 = some fi38 := by kernel_rfl
theorem t38 (a1 : Nat) (a2 : Nat) (b1 : Nat) (b2 : Nat) : CM Try.prog 38 [.agg [.f .f64 a1, .f .f64 a2], .agg [.f .f64 b1, .f .f64 b2]] (.b (belV a1 a2 b1 b2)) [] true := by
  refine CM.of_genQ (exts := exts) (eqs := eqs) (inl := []) (sum := S28) extsOK eqsOK S28_ok fi38_ok 6 rfl fun cx => ?_
  repeat' ((fail_if_success (with_reducible refine Side.mk ?_)); first | ((fail_if_success (with_reducible refine Rest.mk ?_)); first | (with_reducible exact True.intro) | (with_reducible refine Need.mk ?_ ?_) | (with_reducible refine And.intro ?_ ?_) | (with_reducible intro _) | ((fail_if_success (with_reducible refine FinS.mk ?_)); (conv => whnf)) | (refine FinS.b ?_) | (refine FinS.lb ?_) | (refine FinS.i ?_) | (refine FinS.f ?_) | (refine FinS.agg ?_) | (refine FinS.tup ?_)))
  all_goals first | exact ⟨rfl⟩ | exact ⟨⟨rfl, rfl⟩⟩ | (refine Side.mk ⟨rfl, ?_⟩; first | exact ⟨rfl⟩ | rfl)
noncomputable def g38 : List MV → Option (List Prop × MV × List Blk × Bool)
  | [.agg [.f .f64 a1, .f .f64 a2], .agg [.f .f64 b1, .f .f64 b2]] => some ([], (.b (belV a1 a2 b1 b2)), [], false)
  | _ => none
theorem s38 : SumsOK Try.prog (sumOf 38 g38 S28) := by
  refine SumsOK.add S28_ok fun ms ps m blks al e hp => ?_
  unfold g38 at e
  split at e
  · cases e; exact (t38 _ _ _ _ ).aloneT rfl
  · cases e
noncomputable def S38 := sumOf 38 g38 S28
theorem S38_ok : SumsOK Try.prog S38 := s38
noncomputable def fi27 : FnI := ⟨17, Try.f27.body.getD .skip, [.tmp 4], true⟩
theorem fi27_ok : fnGen Try.prog 27 = some fi27 := by kernel_rfl
theorem t27 (a1 : Nat) (a2 : Nat) (a3 : Nat) (a4 : Nat) (b1 : Nat) (b2 : Nat) (b3 : Nat) (b4 : Nat) : CM Try.prog 27 [.agg [.f .f64 a1, .f .f64 a2, .f .f64 a3, .f .f64 a4], .agg [.f .f64 b1, .f .f64 b2, .f .f64 b3, .f .f64 b4]] (.b (ovV a1 a2 a3 a4 b1 b2 b3 b4)) [] true := by
  refine CM.of_genQ (exts := exts) (eqs := eqs) (inl := []) (sum := S38) extsOK eqsOK S38_ok fi27_ok 6 rfl fun cx => ?_
  repeat' ((fail_if_success (with_reducible refine Side.mk ?_)); first | ((fail_if_success (with_reducible refine Rest.mk ?_)); first | (with_reducible exact True.intro) | (with_reducible refine Need.mk ?_ ?_) | (with_reducible refine And.intro ?_ ?_) | (with_reducible intro _) | ((fail_if_success (with_reducible refine FinS.mk ?_)); (conv => whnf)) | (refine FinS.b ?_) | (refine FinS.lb ?_) | (refine FinS.i ?_) | (refine FinS.f ?_) | (refine FinS.agg ?_) | (refine FinS.tup ?_)))
  all_goals first | exact ⟨rfl⟩ | exact ⟨⟨rfl, rfl⟩⟩ | (refine Side.mk ⟨rfl, ?_⟩; first | exact ⟨rfl⟩ | rfl)
noncomputable def g27 : List MV → Option (List Prop × MV × List Blk × Bool)
  | [.agg [.f .f64 a1, .f .f64 a2, .f .f64 a3, .f .f64 a4], .agg [.f .f64 b1, .f .f64 b2, .f .f64 b3, .f .f64 b4]] => some ([], (.b (ovV a1 a2 a3 a4 b1 b2 b3 b4)), [], false)
  | _ => none
theorem s27 : SumsOK Try.prog (sumOf 27 g27 S38) := by
  refine SumsOK.add S38_ok fun ms ps m blks al e hp => ?_
  unfold g27 at e
  split at e
  · cases e; exact (t27 _ _ _ _ _ _ _ _ ).aloneT rfl
  · cases e
noncomputable def S27 := sumOf 27 g27 S38
theorem S27_ok : SumsOK Try.prog S27 := s27
noncomputable def fi37 : FnI := ⟨39, Try.f37.body.getD .skip, [.tmp 4], true⟩
theorem fi37_ok : fnGen Try.prog 37 = some fi37 := by kernel_rfl
theorem t37 (a1 : Nat) (a2 : Nat) (a3 : Nat) (a4 : Nat) (b1 : Nat) (b2 : Nat) (b3 : Nat) (b4 : Nat) : CM Try.prog 37 [.agg [.f .f64 a1, .f .f64 a2, .f .f64 a3, .f .f64 a4], .agg [.f .f64 b1, .f .f64 b2, .f .f64 b3, .f .f64 b4]] (.b (rovV a1 a2 a3 a4 b1 b2 b3 b4)) [] true := by
  refine CM.of_genQ (exts := exts) (eqs := eqs) (inl := []) (sum := S27) extsOK eqsOK S27_ok fi37_ok 6 rfl fun cx => ?_
  repeat' ((fail_if_success (with_reducible refine Side.mk ?_)); first | ((fail_if_success (with_reducible refine Rest.mk ?_)); first | (with_reducible exact True.intro) | (with_reducible refine Need.mk ?_ ?_) | (with_reducible refine And.intro ?_ ?_) | (with_reducible intro _) | ((fail_if_success (with_reducible refine FinS.mk ?_)); (conv => whnf)) | (refine FinS.b ?_) | (refine FinS.lb ?_) | (refine FinS.i ?_) | (refine FinS.f ?_) | (refine FinS.agg ?_) | (refine FinS.tup ?_)))
  all_goals first | exact ⟨rfl⟩ | exact ⟨⟨rfl, rfl⟩⟩ | (refine Side.mk ⟨rfl, ?_⟩; first | exact ⟨rfl⟩ | rfl)
noncomputable def g37 : List MV → Option (List Prop × MV × List Blk × Bool)
  | [.agg [.f .f64 a1, .f .f64 a2, .f .f64 a3, .f .f64 a4], .agg [.f .f64 b1, .f .f64 b2, .f .f64 b3, .f .f64 b4]] => some ([], (.b (rovV a1 a2 a3 a4 b1 b2 b3 b4)), [], false)
  | _ => none
theorem s37 : SumsOK Try.prog (sumOf 37 g37 S27) := by
  refine SumsOK.add S27_ok fun ms ps m blks al e hp => ?_
  unfold g37 at e
  split at e
  · cases e; exact (t37 _ _ _ _ _ _ _ _ ).aloneT rfl
  · cases e
noncomputable def S37 := sumOf 37 g37 S27
theorem S37_ok : SumsOK Try.prog S37 := s37
noncomputable def fi26 : FnI := ⟨18, Try.f26.body.getD .skip, [.tmp 4], true⟩
theorem fi26_ok : fnGen Try.prog 26 = some fi26 := by kernel_rfl
theorem t26 (a1 : Nat) (a2 : Nat) (a3 : Nat) (a4 : Nat) (b1 : Nat) (b2 : Nat) (b3 : Nat) (b4 : Nat) : CM Try.prog 26 [.agg [.f .f64 a1, .f .f64 a2, .f .f64 a3, .f .f64 a4], .agg [.f .f64 b1, .f .f64 b2, .f .f64 b3, .f .f64 b4]] (.b (meetV a1 a2 a3 a4 b1 b2 b3 b4)) [] true := by
  refine CM.of_genQ (exts := exts) (eqs := eqs) (inl := []) (sum := S37) extsOK eqsOK S37_ok fi26_ok 6 rfl fun cx => ?_
  repeat' ((fail_if_success (with_reducible refine Side.mk ?_)); first | ((fail_if_success (with_reducible refine Rest.mk ?_)); first | (with_reducible exact True.intro) | (with_reducible refine Need.mk ?_ ?_) | (with_reducible refine And.intro ?_ ?_) | (with_reducible intro _) | ((fail_if_success (with_reducible refine FinS.mk ?_)); (conv => whnf)) | (refine FinS.b ?_) | (refine FinS.lb ?_) | (refine FinS.i ?_) | (refine FinS.f ?_) | (refine FinS.agg ?_) | (refine FinS.tup ?_)))
  all_goals first | exact ⟨rfl⟩ | exact ⟨⟨rfl, rfl⟩⟩ | (refine Side.mk ⟨rfl, ?_⟩; first | exact ⟨rfl⟩ | rfl)
noncomputable def g26 : List MV → Option (List Prop × MV × List Blk × Bool)
  | [.agg [.f .f64 a1, .f .f64 a2, .f .f64 a3, .f .f64 a4], .agg [.f .f64 b1, .f .f64 b2, .f .f64 b3, .f .f64 b4]] => some ([], (.b (meetV a1 a2 a3 a4 b1 b2 b3 b4)), [], false)
  | _ => none
theorem s26 : SumsOK Try.prog (sumOf 26 g26 S37) := by
  refine SumsOK.add S37_ok fun ms ps m blks al e hp => ?_
  unfold g26 at e
  split at e
  · cases e; exact (t26 _ _ _ _ _ _ _ _ ).aloneT rfl
  · cases e
noncomputable def S26 := sumOf 26 g26 S37
theorem S26_ok : SumsOK Try.prog S26 := s26
noncomputable def fi41 : FnI := ⟨17, Try.f41.body.getD .skip, [.tmp 4], true⟩
theorem fi41_ok : fnGen Try.prog 41 = some fi41 := by kernel_rfl
theorem t41 (a1 : Nat) (a2 : Nat) (b1 : Nat) (b2 : Nat) : CM Try.prog 41 [.agg [.f .f64 a1, .f .f64 a2], .agg [.f .f64 b1, .f .f64 b2]] (.b (smV a1 b1 && smV a2 b2)) [] true := by
  refine CM.of_genQ (exts := exts) (eqs := eqs) (inl := []) (sum := S26) extsOK eqsOK S26_ok fi41_ok 6 rfl fun cx => ?_
  repeat' ((fail_if_success (with_reducible refine Side.mk ?_)); first | ((fail_if_success (with_reducible refine Rest.mk ?_)); first | (with_reducible exact True.intro) | (with_reducible refine Need.mk ?_ ?_) | (with_reducible refine And.intro ?_ ?_) | (with_reducible intro _) | ((fail_if_success (with_reducible refine FinS.mk ?_)); (conv => whnf)) | (refine FinS.b ?_) | (refine FinS.lb ?_) | (refine FinS.i ?_) | (refine FinS.f ?_) | (refine FinS.agg ?_) | (refine FinS.tup ?_)))
  all_goals first | exact ⟨rfl⟩ | exact ⟨⟨rfl, rfl⟩⟩ | (refine Side.mk ⟨rfl, ?_⟩; first | exact ⟨rfl⟩ | rfl)
noncomputable def g41 : List MV → Option (List Prop × MV × List Blk × Bool)
  | [.agg [.f .f64 a1, .f .f64 a2], .agg [.f .f64 b1, .f .f64 b2]] => some ([], (.b (smV a1 b1 && smV a2 b2)), [], false)
  | _ => none
theorem s41 : SumsOK Try.prog (sumOf 41 g41 S26) := by
  refine SumsOK.add S26_ok fun ms ps m blks al e hp => ?_
  unfold g41 at e
  split at e
  · cases e; exact (t41 _ _ _ _ ).aloneT rfl
  · cases e
noncomputable def S41 := sumOf 41 g41 S26
theorem S41_ok : SumsOK Try.prog S41 := s41
noncomputable def fi31 : FnI := ⟨17, Try.f31.body.getD .skip, [.tmp 4], true⟩
theorem fi31_ok : fnGen Try.prog 31 = some fi31 := by kernel_rfl
theorem t31 (a1 : Nat) (a2 : Nat) (a3 : Nat) (a4 : Nat) (b1 : Nat) (b2 : Nat) (b3 : Nat) (b4 : Nat) : CM Try.prog 31 [.agg [.f .f64 a1, .f .f64 a2, .f .f64 a3, .f .f64 a4], .agg [.f .f64 b1, .f .f64 b2, .f .f64 b3, .f .f64 b4]] (.b (smV a1 b1 && smV a2 b2 && (smV a3 b3 && smV a4 b4))) [] true := by
  refine CM.of_genQ (exts := exts) (eqs := eqs) (inl := []) (sum := S41) extsOK eqsOK S41_ok fi31_ok 6 rfl fun cx => ?_
  repeat' ((fail_if_success (with_reducible refine Side.mk ?_)); first | ((fail_if_success (with_reducible refine Rest.mk ?_)); first | (with_reducible exact True.intro) | (with_reducible refine Need.mk ?_ ?_) | (with_reducible refine And.intro ?_ ?_) | (with_reducible intro _) | ((fail_if_success (with_reducible refine FinS.mk ?_)); (conv => whnf)) | (refine FinS.b ?_) | (refine FinS.lb ?_) | (refine FinS.i ?_) | (refine FinS.f ?_) | (refine FinS.agg ?_) | (refine FinS.tup ?_)))
  all_goals first | exact ⟨rfl⟩ | exact ⟨⟨rfl, rfl⟩⟩ | (refine Side.mk ⟨rfl, ?_⟩; first | exact ⟨rfl⟩ | rfl)
noncomputable def g31 : List MV → Option (List Prop × MV × List Blk × Bool)
  | [.agg [.f .f64 a1, .f .f64 a2, .f .f64 a3, .f .f64 a4], .agg [.f .f64 b1, .f .f64 b2, .f .f64 b3, .f .f64 b4]] => some ([], (.b (smV a1 b1 && smV a2 b2 && (smV a3 b3 && smV a4 b4))), [], false)
  | _ => none
theorem s31 : SumsOK Try.prog (sumOf 31 g31 S41) := by
  refine SumsOK.add S41_ok fun ms ps m blks al e hp => ?_
  unfold g31 at e
  split at e
  · cases e; exact (t31 _ _ _ _ _ _ _ _ ).aloneT rfl
  · cases e
noncomputable def S31 := sumOf 31 g31 S41
theorem S31_ok : SumsOK Try.prog S31 := s31
end Go.Ev.Sweep
