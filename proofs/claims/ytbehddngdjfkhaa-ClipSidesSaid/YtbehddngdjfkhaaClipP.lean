/-
  The contracts of Length, Unit and what turns; for all floats.
-/
import Derived.Test.YtbehddngdjfkhaaClipT
import Derived.Test.YtbehddngdjfkhaaEvL
set_option linter.unusedSimpArgs false
set_option linter.unusedVariables false
open Go Go.Proofs
namespace Go.Ev.Clip
set_option maxRecDepth 100000
set_option maxHeartbeats 1000000
def ptM (v : Nat × Nat) : List MV := [.f .f64 v.1, .f .f64 v.2]
def lenV (a1 a2 : Nat) : Nat := fsqrt (dot a1 a2 a1 a2)
def finV (x : Nat) : Bool := feq .f64 (fsub .f64 x x) 0
def subV (a b : Nat × Nat) : Nat × Nat := (fsub .f64 a.1 b.1, fsub .f64 a.2 b.2)
def crsV (a b : Nat × Nat) : Nat := crs a.1 a.2 b.1 b.2
def dotV (a b : Nat × Nat) : Nat := dot a.1 a.2 b.1 b.2
def lnV (a : Nat × Nat) : Nat := lenV a.1 a.2
def badU (a1 a2 : Nat) : Bool := !finV (lenV a1 a2) || feq .f64 (lenV a1 a2) 0
def badR (a1 a2 : Nat) : Bool := !finV (lenV a1 a2) || fle .f64 (lenV a1 a2) 0
theorem xor_bits {r : Nat} (hr : r < 2 ^ 64) : ibits .xor .u64 (r : Int) 9223372036854775808 = ((r ^^^ 2 ^ 63 : Nat) : Int) := by
  have e4 : (BitVec.ofInt 64 (r : Int)).toNat = r := by
    rw [BitVec.toNat_ofInt]; simp; omega
  have e5 : (BitVec.ofInt 64 9223372036854775808).toNat = 2 ^ 63 := by decide
  have e2 : (BitVec.ofInt 64 (r : Int) ^^^ BitVec.ofInt 64 9223372036854775808).toNat = r ^^^ 2 ^ 63 := by rw [BitVec.toNat_xor, e4, e5]
  show IntKind.u64.wrap (((BitVec.ofInt 64 (r : Int) ^^^ BitVec.ofInt 64 9223372036854775808).toNat : Nat) : Int) = _
  rw [e2, wrap_u64, Nat.mod_eq_of_lt (Nat.xor_lt_two_pow hr (by decide))]
theorem neg_bits {r x : Nat} (h : FR .f64 r x) : canon .f64 (ibits .xor .u64 (r : Int) 9223372036854775808).toNat = fneg .f64 x := by
  rw [xor_bits h.lt]
  show canon .f64 (Op.negFloat .f64 r) = canon .f64 (Op.negFloat .f64 x)
  cases hn : isNan .f64 x
  · rw [h.raw hn]
  · have hc := h.can
    rw [canon_of_nan (by rw [isNan_neg h.lt, h.nan]; exact hn), canon_of_nan (by rw [isNan_neg hc.lt]; exact hn)]
theorem neg_lt {r x : Nat} (h : FR .f64 r x) : (ibits .xor .u64 (r : Int) 9223372036854775808).toNat < 18446744073709551616 := by
  rw [xor_bits h.lt]
  exact Nat.xor_lt_two_pow h.lt (by decide)
noncomputable def fi67 : FnI := ⟨5, Try.f67.body.getD .skip, [.tmp 2], true⟩
theorem fi67_ok : fnGen Try.prog 67 = some fi67 := by kernel_rfl
theorem t67 (x : Nat) : CM Try.prog 67 [.f .f64 x] (.f .f64 (fsqrt x)) [] true := by
  refine CM.of_genQ (exts := exts) (eqs := eqs) (inl := []) (sum := S12) extsOK eqsOK S12_ok fi67_ok 6 rfl fun cx => ?_
  repeat' ((fail_if_success (with_reducible refine Side.mk ?_)); first | ((fail_if_success (with_reducible refine Rest.mk ?_)); first | (with_reducible exact True.intro) | (with_reducible refine Need.mk ?_ ?_) | (with_reducible refine And.intro ?_ ?_) | (with_reducible intro _) | ((fail_if_success (with_reducible refine FinS.mk ?_)); (conv => whnf)) | (refine FinS.b ?_) | (refine FinS.lb ?_) | (refine FinS.i ?_) | (refine FinS.f ?_) | (refine FinS.agg ?_) | (refine FinS.tup ?_)))
  all_goals first | exact ⟨rfl⟩ | exact ⟨⟨rfl, rfl⟩⟩
noncomputable def g67 : List MV → Option (List Prop × MV × List Blk × Bool)
  | [.f .f64 x] => some ([], (.f .f64 (fsqrt x)), [], false)
  | _ => none
theorem s67 : SumsOK Try.prog (sumOf 67 g67 S12) := by
  refine SumsOK.add S12_ok fun ms ps m blks al e hp => ?_
  unfold g67 at e
  split at e
  · cases e; exact (t67 _ ).aloneT rfl
  · cases e
noncomputable def S67 := sumOf 67 g67 S12
theorem S67_ok : SumsOK Try.prog S67 := s67
noncomputable def fi51 : FnI := ⟨6, Try.f51.body.getD .skip, [.tmp 2], true⟩
theorem fi51_ok : fnGen Try.prog 51 = some fi51 := by kernel_rfl
theorem t51 (a1 : Nat) (a2 : Nat) : CM Try.prog 51 [.agg [.f .f64 a1, .f .f64 a2]] (.f .f64 (lenV a1 a2)) [] true := by
  refine CM.of_genQ (exts := exts) (eqs := eqs) (inl := []) (sum := S67) extsOK eqsOK S67_ok fi51_ok 6 rfl fun cx => ?_
  repeat' ((fail_if_success (with_reducible refine Side.mk ?_)); first | ((fail_if_success (with_reducible refine Rest.mk ?_)); first | (with_reducible exact True.intro) | (with_reducible refine Need.mk ?_ ?_) | (with_reducible refine And.intro ?_ ?_) | (with_reducible intro _) | ((fail_if_success (with_reducible refine FinS.mk ?_)); (conv => whnf)) | (refine FinS.b ?_) | (refine FinS.lb ?_) | (refine FinS.i ?_) | (refine FinS.f ?_) | (refine FinS.agg ?_) | (refine FinS.tup ?_)))
  all_goals first | exact ⟨rfl⟩ | exact ⟨⟨rfl, rfl⟩⟩
noncomputable def g51 : List MV → Option (List Prop × MV × List Blk × Bool)
  | [.agg [.f .f64 a1, .f .f64 a2]] => some ([], (.f .f64 (lenV a1 a2)), [], false)
  | _ => none
theorem s51 : SumsOK Try.prog (sumOf 51 g51 S67) := by
  refine SumsOK.add S67_ok fun ms ps m blks al e hp => ?_
  unfold g51 at e
  split at e
  · cases e; exact (t51 _ _ ).aloneT rfl
  · cases e
noncomputable def S51 := sumOf 51 g51 S67
theorem S51_ok : SumsOK Try.prog S51 := s51
noncomputable def fi62 : FnI := ⟨6, Try.f62.body.getD .skip, [.tmp 2], true⟩
theorem fi62_ok : fnGen Try.prog 62 = some fi62 := by kernel_rfl
theorem t62 (a1 : Nat) (a2 : Nat) : CM Try.prog 62 [.agg [.f .f64 a1, .f .f64 a2]] (.f .f64 (lenV a1 a2)) [] true := by
  refine CM.of_genQ (exts := exts) (eqs := eqs) (inl := []) (sum := S51) extsOK eqsOK S51_ok fi62_ok 6 rfl fun cx => ?_
  repeat' ((fail_if_success (with_reducible refine Side.mk ?_)); first | ((fail_if_success (with_reducible refine Rest.mk ?_)); first | (with_reducible exact True.intro) | (with_reducible refine Need.mk ?_ ?_) | (with_reducible refine And.intro ?_ ?_) | (with_reducible intro _) | ((fail_if_success (with_reducible refine FinS.mk ?_)); (conv => whnf)) | (refine FinS.b ?_) | (refine FinS.lb ?_) | (refine FinS.i ?_) | (refine FinS.f ?_) | (refine FinS.agg ?_) | (refine FinS.tup ?_)))
  all_goals first | exact ⟨rfl⟩ | exact ⟨⟨rfl, rfl⟩⟩
noncomputable def g62 : List MV → Option (List Prop × MV × List Blk × Bool)
  | [.agg [.f .f64 a1, .f .f64 a2]] => some ([], (.f .f64 (lenV a1 a2)), [], false)
  | _ => none
theorem s62 : SumsOK Try.prog (sumOf 62 g62 S51) := by
  refine SumsOK.add S51_ok fun ms ps m blks al e hp => ?_
  unfold g62 at e
  split at e
  · cases e; exact (t62 _ _ ).aloneT rfl
  · cases e
noncomputable def S62 := sumOf 62 g62 S51
theorem S62_ok : SumsOK Try.prog S62 := s62
noncomputable def fi78 : FnI := ⟨7, Try.f78.body.getD .skip, [.tmp 2], true⟩
theorem fi78_ok : fnGen Try.prog 78 = some fi78 := by kernel_rfl
theorem t78 (x : Nat) : CM Try.prog 78 [.f .f64 x] (.b (finV x)) [] true := by
  refine CM.of_genQ (exts := exts) (eqs := eqs) (inl := []) (sum := S62) extsOK eqsOK S62_ok fi78_ok 6 rfl fun cx => ?_
  repeat' ((fail_if_success (with_reducible refine Side.mk ?_)); first | ((fail_if_success (with_reducible refine Rest.mk ?_)); first | (with_reducible exact True.intro) | (with_reducible refine Need.mk ?_ ?_) | (with_reducible refine And.intro ?_ ?_) | (with_reducible intro _) | ((fail_if_success (with_reducible refine FinS.mk ?_)); (conv => whnf)) | (refine FinS.b ?_) | (refine FinS.lb ?_) | (refine FinS.i ?_) | (refine FinS.f ?_) | (refine FinS.agg ?_) | (refine FinS.tup ?_)))
  all_goals first | exact ⟨rfl⟩ | exact ⟨⟨rfl, rfl⟩⟩
noncomputable def g78 : List MV → Option (List Prop × MV × List Blk × Bool)
  | [.f .f64 x] => some ([], (.b (finV x)), [], false)
  | _ => none
theorem s78 : SumsOK Try.prog (sumOf 78 g78 S62) := by
  refine SumsOK.add S62_ok fun ms ps m blks al e hp => ?_
  unfold g78 at e
  split at e
  · cases e; exact (t78 _ ).aloneT rfl
  · cases e
noncomputable def S78 := sumOf 78 g78 S62
theorem S78_ok : SumsOK Try.prog S78 := s78
noncomputable def fi80 : FnI := ⟨7, Try.f80.body.getD .skip, [.tmp 2], true⟩
theorem fi80_ok : fnGen Try.prog 80 = some fi80 := by kernel_rfl
theorem t80 (x : Nat) : CM Try.prog 80 [.f .f64 x] (.b (finV x)) [] true := by
  refine CM.of_genQ (exts := exts) (eqs := eqs) (inl := []) (sum := S78) extsOK eqsOK S78_ok fi80_ok 6 rfl fun cx => ?_
  repeat' ((fail_if_success (with_reducible refine Side.mk ?_)); first | ((fail_if_success (with_reducible refine Rest.mk ?_)); first | (with_reducible exact True.intro) | (with_reducible refine Need.mk ?_ ?_) | (with_reducible refine And.intro ?_ ?_) | (with_reducible intro _) | ((fail_if_success (with_reducible refine FinS.mk ?_)); (conv => whnf)) | (refine FinS.b ?_) | (refine FinS.lb ?_) | (refine FinS.i ?_) | (refine FinS.f ?_) | (refine FinS.agg ?_) | (refine FinS.tup ?_)))
  all_goals first | exact ⟨rfl⟩ | exact ⟨⟨rfl, rfl⟩⟩
noncomputable def g80 : List MV → Option (List Prop × MV × List Blk × Bool)
  | [.f .f64 x] => some ([], (.b (finV x)), [], false)
  | _ => none
theorem s80 : SumsOK Try.prog (sumOf 80 g80 S78) := by
  refine SumsOK.add S78_ok fun ms ps m blks al e hp => ?_
  unfold g80 at e
  split at e
  · cases e; exact (t80 _ ).aloneT rfl
  · cases e
noncomputable def S80 := sumOf 80 g80 S78
theorem S80_ok : SumsOK Try.prog S80 := s80
noncomputable def fi79 : FnI := ⟨9, Try.f79.body.getD .skip, [.cell 2 24], true⟩
theorem fi79_ok : fnGen Try.prog 79 = some fi79 := by kernel_rfl
theorem t79 (a1 : Nat) (a2 : Nat) : CM Try.prog 79 [.agg [.f .f64 a1, .f .f64 a2]] (.agg [.f .f64 (fneg .f64 a2), .f .f64 a1]) [] true := by
  refine CM.of_genQ (exts := exts) (eqs := eqs) (inl := []) (sum := S80) extsOK eqsOK S80_ok fi79_ok 6 rfl fun cx => ?_
  repeat' ((fail_if_success (with_reducible refine Side.mk ?_)); first | ((fail_if_success (with_reducible refine Rest.mk ?_)); first | (with_reducible exact True.intro) | (with_reducible refine Need.mk ?_ ?_) | (with_reducible refine And.intro ?_ ?_) | (with_reducible intro _) | ((fail_if_success (with_reducible refine FinS.mk ?_)); (conv => whnf)) | (refine FinS.b ?_) | (refine FinS.lb ?_) | (refine FinS.i ?_) | (refine FinS.f ?_) | (refine FinS.agg ?_) | (refine FinS.tup ?_)))
  all_goals first | exact ⟨rfl⟩ | exact ⟨⟨rfl, rfl⟩⟩
noncomputable def g79 : List MV → Option (List Prop × MV × List Blk × Bool)
  | [.agg [.f .f64 a1, .f .f64 a2]] => some ([], (.agg [.f .f64 (fneg .f64 a2), .f .f64 a1]), [], false)
  | _ => none
theorem s79 : SumsOK Try.prog (sumOf 79 g79 S80) := by
  refine SumsOK.add S80_ok fun ms ps m blks al e hp => ?_
  unfold g79 at e
  split at e
  · cases e; exact (t79 _ _ ).aloneT rfl
  · cases e
noncomputable def S79 := sumOf 79 g79 S80
theorem S79_ok : SumsOK Try.prog S79 := s79
noncomputable def fi75 : FnI := ⟨9, Try.f75.body.getD .skip, [.cell 2 24], true⟩
theorem fi75_ok : fnGen Try.prog 75 = some fi75 := by kernel_rfl
theorem t75 (a1 : Nat) (a2 : Nat) : CM Try.prog 75 [.agg [.f .f64 a1, .f .f64 a2]] (.agg [.f .f64 (fneg .f64 (fneg .f64 a2)), .f .f64 (fneg .f64 a1)]) [] true := by
  refine CM.of_genQ (exts := exts) (eqs := eqs) (inl := []) (sum := S79) extsOK eqsOK S79_ok fi75_ok 6 rfl fun cx => ?_
  repeat' ((fail_if_success (with_reducible refine Side.mk ?_)); first | (refine RestL.loop (E := genQ Try.prog exts eqs [] S79) ?_) | (refine RestL.step (E := genQ Try.prog exts eqs [] S79) (genQ_full extsOK eqsOK S79_ok) 6 ?_) | ((fail_if_success (with_reducible refine RestL.mk ?_)); (fail_if_success (with_reducible refine Rest.mk ?_)); first | (with_reducible exact True.intro) | (with_reducible refine Need.mk ?_ ?_) | (with_reducible refine And.intro ?_ ?_) | (with_reducible intro hcl; try (exfalso; exact absurd hcl (by decide); done)) | ((fail_if_success (with_reducible refine FinS.mk ?_)); (conv => whnf)) | (refine FinS.b ?_) | (refine FinS.lb ?_) | (refine FinS.i ?_) | (refine FinS.f ?_) | (refine FinS.agg ?_) | (refine FinS.tup ?_)))
  all_goals first | exact ⟨rfl⟩ | exact ⟨⟨rfl, rfl⟩⟩
noncomputable def g75 : List MV → Option (List Prop × MV × List Blk × Bool)
  | [.agg [.f .f64 a1, .f .f64 a2]] => some ([], (.agg [.f .f64 (fneg .f64 (fneg .f64 a2)), .f .f64 (fneg .f64 a1)]), [], false)
  | _ => none
theorem s75 : SumsOK Try.prog (sumOf 75 g75 S79) := by
  refine SumsOK.add S79_ok fun ms ps m blks al e hp => ?_
  unfold g75 at e
  split at e
  · cases e; exact (t75 _ _ ).aloneT rfl
  · cases e
noncomputable def S75 := sumOf 75 g75 S79
theorem S75_ok : SumsOK Try.prog S75 := s75
noncomputable def fi81 : FnI := ⟨7, Try.f81.body.getD .skip, [.tmp 2], true⟩
theorem fi81_ok : fnGen Try.prog 81 = some fi81 := by kernel_rfl
theorem t81 (x : Nat) : CM Try.prog 81 [.f .f64 x] (.f .f64 (fneg .f64 x)) [] true := by
  refine CM.of_genQ (exts := exts) (eqs := eqs) (inl := []) (sum := S75) extsOK eqsOK S75_ok fi81_ok 6 rfl fun cx => ?_
  repeat' ((fail_if_success (with_reducible refine Side.mk ?_)); first | ((fail_if_success (with_reducible refine Rest.mk ?_)); first | (with_reducible exact True.intro) | (with_reducible refine Need.mk ?_ ?_) | (with_reducible refine And.intro ?_ ?_) | (with_reducible intro _) | ((fail_if_success (with_reducible refine FinS.mk ?_)); (conv => whnf)) | (refine FinS.b ?_) | (refine FinS.lb ?_) | (refine FinS.i ?_) | (refine FinS.f ?_) | (refine FinS.agg ?_) | (refine FinS.tup ?_)))
  · rename_i h; exact ⟨neg_lt h⟩
  · rename_i h; exact ⟨neg_bits h⟩
noncomputable def g81 : List MV → Option (List Prop × MV × List Blk × Bool)
  | [.f .f64 x] => some ([], (.f .f64 (fneg .f64 x)), [], false)
  | _ => none
theorem s81 : SumsOK Try.prog (sumOf 81 g81 S75) := by
  refine SumsOK.add S75_ok fun ms ps m blks al e hp => ?_
  unfold g81 at e
  split at e
  · cases e; exact (t81 _ ).aloneT rfl
  · cases e
noncomputable def S81 := sumOf 81 g81 S75
theorem S81_ok : SumsOK Try.prog S81 := s81
noncomputable def fi77 : FnI := ⟨9, Try.f77.body.getD .skip, [.cell 2 24], true⟩
theorem fi77_ok : fnGen Try.prog 77 = some fi77 := by kernel_rfl
theorem t77 (a1 : Nat) (a2 : Nat) : CM Try.prog 77 [.agg [.f .f64 a1, .f .f64 a2]] (.agg [.f .f64 a2, .f .f64 (fneg .f64 a1)]) [] true := by
  refine CM.of_genQ (exts := exts) (eqs := eqs) (inl := []) (sum := S81) extsOK eqsOK S81_ok fi77_ok 6 rfl fun cx => ?_
  repeat' ((fail_if_success (with_reducible refine Side.mk ?_)); first | (refine Rest.mk (drawR_sound (E := genQ Try.prog exts eqs [] S81) (genQ_full extsOK eqsOK S81_ok).toEnvAll mixOK (hnd_sound (genQ_full extsOK eqsOK S81_ok) 6) ?_)) | ((fail_if_success (with_reducible refine Rest.mk ?_)); first | (with_reducible exact True.intro) | (with_reducible refine Need.mk ?_ ?_) | (with_reducible refine And.intro ?_ ?_) | (with_reducible intro _) | ((fail_if_success (with_reducible refine FinS.mk ?_)); (conv => whnf)) | (refine FinS.b ?_) | (refine FinS.lb ?_) | (refine FinS.i ?_) | (refine FinS.f ?_) | (refine FinS.agg ?_) | (refine FinS.tup ?_)))
  all_goals first | exact ⟨rfl⟩ | exact ⟨⟨rfl, rfl⟩⟩
noncomputable def g77 : List MV → Option (List Prop × MV × List Blk × Bool)
  | [.agg [.f .f64 a1, .f .f64 a2]] => some ([], (.agg [.f .f64 a2, .f .f64 (fneg .f64 a1)]), [], false)
  | _ => none
theorem s77 : SumsOK Try.prog (sumOf 77 g77 S81) := by
  refine SumsOK.add S81_ok fun ms ps m blks al e hp => ?_
  unfold g77 at e
  split at e
  · cases e; exact (t77 _ _ ).aloneT rfl
  · cases e
noncomputable def S77 := sumOf 77 g77 S81
theorem S77_ok : SumsOK Try.prog S77 := s77
theorem bifT {c : Bool} {α : Type} {x y : α} (h : c = true) : (bif c then x else y) = x := by rw [h]; rfl
theorem bifF {c : Bool} {α : Type} {x y : α} (h : c = false) : (bif c then x else y) = y := by rw [h]; rfl
noncomputable def fi74 : FnI := ⟨24, Try.f74.body.getD .skip, [.cell 2 24, .tmp 3], true⟩
theorem fi74_ok : fnGen Try.prog 74 = some fi74 := by kernel_rfl
theorem t74 (a1 : Nat) (a2 : Nat) : CM Try.prog 74 [.agg [.f .f64 a1, .f .f64 a2]] (.tup [.agg [.f .f64 (bif badU a1 a2 then 0 else fdiv .f64 a1 (lenV a1 a2)), .f .f64 (bif badU a1 a2 then 0 else fdiv .f64 a2 (lenV a1 a2))], .b (!badU a1 a2)]) [] true := by
  refine CM.of_genQ (exts := exts) (eqs := eqs) (inl := []) (sum := S77) extsOK eqsOK S77_ok fi74_ok 6 rfl fun cx => ?_
  repeat' ((fail_if_success (with_reducible refine Side.mk ?_)); first | ((fail_if_success (with_reducible refine Rest.mk ?_)); first | (with_reducible exact True.intro) | (with_reducible refine Need.mk ?_ ?_) | (with_reducible refine And.intro ?_ ?_) | (with_reducible intro _) | ((fail_if_success (with_reducible refine FinS.mk ?_)); (conv => whnf)) | (refine FinS.b ?_) | (refine FinS.lb ?_) | (refine FinS.i ?_) | (refine FinS.f ?_) | (refine FinS.agg ?_) | (refine FinS.tup ?_)))
  all_goals (rename_i h; refine Side.mk ?_; first | exact ⟨rfl, (bifT (c := badU a1 a2) h).symm⟩ | exact ⟨rfl, (bifF (c := badU a1 a2) h).symm⟩ | exact (congrArg (fun c => !c) (show badU a1 a2 = _ from h)).symm)
noncomputable def g74 : List MV → Option (List Prop × MV × List Blk × Bool)
  | [.agg [.f .f64 a1, .f .f64 a2]] => some ([], (.tup [.agg [.f .f64 (bif badU a1 a2 then 0 else fdiv .f64 a1 (lenV a1 a2)), .f .f64 (bif badU a1 a2 then 0 else fdiv .f64 a2 (lenV a1 a2))], .b (!badU a1 a2)]), [], false)
  | _ => none
theorem s74 : SumsOK Try.prog (sumOf 74 g74 S77) := by
  refine SumsOK.add S77_ok fun ms ps m blks al e hp => ?_
  unfold g74 at e
  split at e
  · cases e; exact (t74 _ _ ).aloneT rfl
  · cases e
noncomputable def S74 := sumOf 74 g74 S77
theorem S74_ok : SumsOK Try.prog S74 := s74
noncomputable def fi76 : FnI := ⟨26, Try.f76.body.getD .skip, [.cell 2 24, .tmp 3], true⟩
theorem fi76_ok : fnGen Try.prog 76 = some fi76 := by kernel_rfl
theorem t76 (a1 : Nat) (a2 : Nat) : CM Try.prog 76 [.agg [.f .f64 a1, .f .f64 a2]] (.tup [.agg [.f .f64 (bif badR a1 a2 then 0 else fdiv .f64 a1 (lenV a1 a2)), .f .f64 (bif badR a1 a2 then 0 else fdiv .f64 a2 (lenV a1 a2))], .b (!badR a1 a2)]) [] true := by
  refine CM.of_genQ (exts := exts) (eqs := eqs) (inl := []) (sum := S74) extsOK eqsOK S74_ok fi76_ok 6 rfl fun cx => ?_
  repeat' ((fail_if_success (with_reducible refine Side.mk ?_)); first | ((fail_if_success (with_reducible refine Rest.mk ?_)); first | (with_reducible exact True.intro) | (with_reducible refine Need.mk ?_ ?_) | (with_reducible refine And.intro ?_ ?_) | (with_reducible intro _) | ((fail_if_success (with_reducible refine FinS.mk ?_)); (conv => whnf)) | (refine FinS.b ?_) | (refine FinS.lb ?_) | (refine FinS.i ?_) | (refine FinS.f ?_) | (refine FinS.agg ?_) | (refine FinS.tup ?_)))
  all_goals (rename_i h; refine Side.mk ?_; first | exact ⟨rfl, (bifT (c := badR a1 a2) h).symm⟩ | exact ⟨rfl, (bifF (c := badR a1 a2) h).symm⟩ | exact (congrArg (fun c => !c) (show badR a1 a2 = _ from h)).symm)
noncomputable def g76 : List MV → Option (List Prop × MV × List Blk × Bool)
  | [.agg [.f .f64 a1, .f .f64 a2]] => some ([], (.tup [.agg [.f .f64 (bif badR a1 a2 then 0 else fdiv .f64 a1 (lenV a1 a2)), .f .f64 (bif badR a1 a2 then 0 else fdiv .f64 a2 (lenV a1 a2))], .b (!badR a1 a2)]), [], false)
  | _ => none
theorem s76 : SumsOK Try.prog (sumOf 76 g76 S74) := by
  refine SumsOK.add S74_ok fun ms ps m blks al e hp => ?_
  unfold g76 at e
  split at e
  · cases e; exact (t76 _ _ ).aloneT rfl
  · cases e
noncomputable def S76 := sumOf 76 g76 S74
theorem S76_ok : SumsOK Try.prog S76 := s76
noncomputable def fi70 : FnI := ⟨8, Try.f70.body.getD .skip, [.cell 4 24], true⟩
theorem fi70_ok : fnGen Try.prog 70 = some fi70 := by kernel_rfl
theorem t70 (a1 : Nat) (a2 : Nat) (b1 : Nat) (b2 : Nat) : CM Try.prog 70 [.agg [.f .f64 a1, .f .f64 a2], .agg [.f .f64 b1, .f .f64 b2]] (.agg [.f .f64 (fsub .f64 b1 a1), .f .f64 (fsub .f64 b2 a2)]) [] true := by
  refine CM.of_genQ (exts := exts) (eqs := eqs) (inl := []) (sum := S76) extsOK eqsOK S76_ok fi70_ok 6 rfl fun cx => ?_
  repeat' ((fail_if_success (with_reducible refine Side.mk ?_)); first | ((fail_if_success (with_reducible refine Rest.mk ?_)); first | (with_reducible exact True.intro) | (with_reducible refine Need.mk ?_ ?_) | (with_reducible refine And.intro ?_ ?_) | (with_reducible intro _) | ((fail_if_success (with_reducible refine FinS.mk ?_)); (conv => whnf)) | (refine FinS.b ?_) | (refine FinS.lb ?_) | (refine FinS.i ?_) | (refine FinS.f ?_) | (refine FinS.agg ?_) | (refine FinS.tup ?_)))
  all_goals first | exact ⟨rfl⟩ | exact ⟨⟨rfl, rfl⟩⟩
noncomputable def g70 : List MV → Option (List Prop × MV × List Blk × Bool)
  | [.agg [.f .f64 a1, .f .f64 a2], .agg [.f .f64 b1, .f .f64 b2]] => some ([], (.agg [.f .f64 (fsub .f64 b1 a1), .f .f64 (fsub .f64 b2 a2)]), [], false)
  | _ => none
theorem s70 : SumsOK Try.prog (sumOf 70 g70 S76) := by
  refine SumsOK.add S76_ok fun ms ps m blks al e hp => ?_
  unfold g70 at e
  split at e
  · cases e; exact (t70 _ _ _ _ ).aloneT rfl
  · cases e
noncomputable def S70 := sumOf 70 g70 S76
theorem S70_ok : SumsOK Try.prog S70 := s70
end Go.Ev.Clip
