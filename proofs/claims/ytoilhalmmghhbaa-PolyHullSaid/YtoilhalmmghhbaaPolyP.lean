/-
  The contracts of Length, Unit and what turns; for all floats.
-/
import Derived.Test.YtoilhalmmghhbaaPolyB
import Derived.Test.YtoilhalmmghhbaaEvL
set_option linter.unusedSimpArgs false
set_option linter.unusedVariables false
open Go Go.Proofs
namespace Go.Ev.Poly
set_option maxRecDepth 100000
set_option maxHeartbeats 1000000
def ptM (v : Nat × Nat) : List MV := [.f .f64 v.1, .f .f64 v.2]
def lenV (a1 a2 : Nat) : Nat := fsqrt (dot a1 a2 a1 a2)
def finV (x : Nat) : Bool := feq .f64 (fsub .f64 x x) 0
def subV (a b : Nat × Nat) : Nat × Nat := (fsub .f64 a.1 b.1, fsub .f64 a.2 b.2)
def crsV (a b : Nat × Nat) : Nat := crs a.1 a.2 b.1 b.2
def dotV (a b : Nat × Nat) : Nat := dot a.1 a.2 b.1 b.2
def lnV (a : Nat × Nat) : Nat := lenV a.1 a.2
def badU (a1 a2 : Nat) : Bool := !finV (lenV a1 a2) || feq .f64 (lenV a1 a2) 0
def badR (a1 a2 : Nat) : Bool := !finV (lenV a1 a2) || fle .f64 (lenV a1 a2) 0
theorem xor_bits {r : Nat} (hr : r < 2 ^ 64) : ibits .xor .u64 (r : Int) 9223372036854775808 = ((r ^^^ 2 ^ 63 : Nat) : Int) := by
  have e4 : (BitVec.ofInt 64 (r : Int)).toNat = r := by
    rw [BitVec.toNat_ofInt]; simp; omega
  have e5 : (BitVec.ofInt 64 9223372036854775808).toNat = 2 ^ 63 := by decide
  have e2 : (BitVec.ofInt 64 (r : Int) ^^^ BitVec.ofInt 64 9223372036854775808).toNat = r ^^^ 2 ^ 63 := by rw [BitVec.toNat_xor, e4, e5]
  show IntKind.u64.wrap (((BitVec.ofInt 64 (r : Int) ^^^ BitVec.ofInt 64 9223372036854775808).toNat : Nat) : Int) = _
  rw [e2, wrap_u64, Nat.mod_eq_of_lt (Nat.xor_lt_two_pow hr (by decide))]
theorem neg_bits {r x : Nat} (h : FR .f64 r x) : canon .f64 (ibits .xor .u64 (r : Int) 9223372036854775808).toNat = fneg .f64 x := by
  rw [xor_bits h.lt]
  show canon .f64 (Op.negFloat .f64 r) = canon .f64 (Op.negFloat .f64 x)
  cases hn : isNan .f64 x
  · rw [h.raw hn]
  · have hc := h.can
    rw [canon_of_nan (by rw [isNan_neg h.lt, h.nan]; exact hn), canon_of_nan (by rw [isNan_neg hc.lt]; exact hn)]
theorem neg_lt {r x : Nat} (h : FR .f64 r x) : (ibits .xor .u64 (r : Int) 9223372036854775808).toNat < 18446744073709551616 := by
  rw [xor_bits h.lt]
  exact Nat.xor_lt_two_pow h.lt (by decide)
noncomputable def fi88 : FnI := ⟨5, Try.f88.body.getD .skip, [.tmp 2], true⟩
theorem fi88_ok : fnGen Try.prog 88 = some fi88 := by kernel_rfl
theorem t88 (x : Nat) : CM Try.prog 88 [.f .f64 x] (.f .f64 (fsqrt x)) [] true := by
  refine CM.of_genQ (exts := exts) (eqs := eqs) (inl := []) (sum := S38) extsOK eqsOK S38_ok fi88_ok 6 rfl fun cx => ?_
  repeat' ((fail_if_success (with_reducible refine Side.mk ?_)); first | ((fail_if_success (with_reducible refine Rest.mk ?_)); first | (with_reducible exact True.intro) | (with_reducible refine Need.mk ?_ ?_) | (with_reducible refine And.intro ?_ ?_) | (with_reducible intro _) | ((fail_if_success (with_reducible refine FinS.mk ?_)); (conv => whnf)) | (refine FinS.b ?_) | (refine FinS.lb ?_) | (refine FinS.i ?_) | (refine FinS.f ?_) | (refine FinS.agg ?_) | (refine FinS.tup ?_)))
  all_goals first | exact ⟨rfl⟩ | exact ⟨⟨rfl, rfl⟩⟩
noncomputable def g88 : List MV → Option (List Prop × MV × List Blk × Bool)
  | [.f .f64 x] => some ([], (.f .f64 (fsqrt x)), [], false)
  | _ => none
theorem s88 : SumsOK Try.prog (sumOf 88 g88 S38) := by
  refine SumsOK.add S38_ok fun ms ps m blks al e hp => ?_
  unfold g88 at e
  split at e
  · cases e; exact (t88 _ ).aloneT rfl
  · cases e
noncomputable def S88 := sumOf 88 g88 S38
theorem S88_ok : SumsOK Try.prog S88 := s88
noncomputable def fi64 : FnI := ⟨6, Try.f64.body.getD .skip, [.tmp 2], true⟩
theorem fi64_ok : fnGen Try.prog 64 = some fi64 := by kernel_rfl
theorem t64 (a1 : Nat) (a2 : Nat) : CM Try.prog 64 [.agg [.f .f64 a1, .f .f64 a2]] (.f .f64 (lenV a1 a2)) [] true := by
  refine CM.of_genQ (exts := exts) (eqs := eqs) (inl := []) (sum := S88) extsOK eqsOK S88_ok fi64_ok 6 rfl fun cx => ?_
  repeat' ((fail_if_success (with_reducible refine Side.mk ?_)); first | ((fail_if_success (with_reducible refine Rest.mk ?_)); first | (with_reducible exact True.intro) | (with_reducible refine Need.mk ?_ ?_) | (with_reducible refine And.intro ?_ ?_) | (with_reducible intro _) | ((fail_if_success (with_reducible refine FinS.mk ?_)); (conv => whnf)) | (refine FinS.b ?_) | (refine FinS.lb ?_) | (refine FinS.i ?_) | (refine FinS.f ?_) | (refine FinS.agg ?_) | (refine FinS.tup ?_)))
  all_goals first | exact ⟨rfl⟩ | exact ⟨⟨rfl, rfl⟩⟩
noncomputable def g64 : List MV → Option (List Prop × MV × List Blk × Bool)
  | [.agg [.f .f64 a1, .f .f64 a2]] => some ([], (.f .f64 (lenV a1 a2)), [], false)
  | _ => none
theorem s64 : SumsOK Try.prog (sumOf 64 g64 S88) := by
  refine SumsOK.add S88_ok fun ms ps m blks al e hp => ?_
  unfold g64 at e
  split at e
  · cases e; exact (t64 _ _ ).aloneT rfl
  · cases e
noncomputable def S64 := sumOf 64 g64 S88
theorem S64_ok : SumsOK Try.prog S64 := s64
noncomputable def fi75 : FnI := ⟨6, Try.f75.body.getD .skip, [.tmp 2], true⟩
theorem fi75_ok : fnGen Try.prog 75 = some fi75 := by kernel_rfl
theorem t75 (a1 : Nat) (a2 : Nat) : CM Try.prog 75 [.agg [.f .f64 a1, .f .f64 a2]] (.f .f64 (lenV a1 a2)) [] true := by
  refine CM.of_genQ (exts := exts) (eqs := eqs) (inl := []) (sum := S64) extsOK eqsOK S64_ok fi75_ok 6 rfl fun cx => ?_
  repeat' ((fail_if_success (with_reducible refine Side.mk ?_)); first | ((fail_if_success (with_reducible refine Rest.mk ?_)); first | (with_reducible exact True.intro) | (with_reducible refine Need.mk ?_ ?_) | (with_reducible refine And.intro ?_ ?_) | (with_reducible intro _) | ((fail_if_success (with_reducible refine FinS.mk ?_)); (conv => whnf)) | (refine FinS.b ?_) | (refine FinS.lb ?_) | (refine FinS.i ?_) | (refine FinS.f ?_) | (refine FinS.agg ?_) | (refine FinS.tup ?_)))
  all_goals first | exact ⟨rfl⟩ | exact ⟨⟨rfl, rfl⟩⟩
noncomputable def g75 : List MV → Option (List Prop × MV × List Blk × Bool)
  | [.agg [.f .f64 a1, .f .f64 a2]] => some ([], (.f .f64 (lenV a1 a2)), [], false)
  | _ => none
theorem s75 : SumsOK Try.prog (sumOf 75 g75 S64) := by
  refine SumsOK.add S64_ok fun ms ps m blks al e hp => ?_
  unfold g75 at e
  split at e
  · cases e; exact (t75 _ _ ).aloneT rfl
  · cases e
noncomputable def S75 := sumOf 75 g75 S64
theorem S75_ok : SumsOK Try.prog S75 := s75
noncomputable def fi98 : FnI := ⟨7, Try.f98.body.getD .skip, [.tmp 2], true⟩
theorem fi98_ok : fnGen Try.prog 98 = some fi98 := by kernel_rfl
theorem t98 (x : Nat) : CM Try.prog 98 [.f .f64 x] (.b (finV x)) [] true := by
  refine CM.of_genQ (exts := exts) (eqs := eqs) (inl := []) (sum := S75) extsOK eqsOK S75_ok fi98_ok 6 rfl fun cx => ?_
  repeat' ((fail_if_success (with_reducible refine Side.mk ?_)); first | ((fail_if_success (with_reducible refine Rest.mk ?_)); first | (with_reducible exact True.intro) | (with_reducible refine Need.mk ?_ ?_) | (with_reducible refine And.intro ?_ ?_) | (with_reducible intro _) | ((fail_if_success (with_reducible refine FinS.mk ?_)); (conv => whnf)) | (refine FinS.b ?_) | (refine FinS.lb ?_) | (refine FinS.i ?_) | (refine FinS.f ?_) | (refine FinS.agg ?_) | (refine FinS.tup ?_)))
  all_goals first | exact ⟨rfl⟩ | exact ⟨⟨rfl, rfl⟩⟩
noncomputable def g98 : List MV → Option (List Prop × MV × List Blk × Bool)
  | [.f .f64 x] => some ([], (.b (finV x)), [], false)
  | _ => none
theorem s98 : SumsOK Try.prog (sumOf 98 g98 S75) := by
  refine SumsOK.add S75_ok fun ms ps m blks al e hp => ?_
  unfold g98 at e
  split at e
  · cases e; exact (t98 _ ).aloneT rfl
  · cases e
noncomputable def S98 := sumOf 98 g98 S75
theorem S98_ok : SumsOK Try.prog S98 := s98
noncomputable def fi100 : FnI := ⟨7, Try.f100.body.getD .skip, [.tmp 2], true⟩
theorem fi100_ok : fnGen Try.prog 100 = some fi100 := by kernel_rfl
theorem t100 (x : Nat) : CM Try.prog 100 [.f .f64 x] (.b (finV x)) [] true := by
  refine CM.of_genQ (exts := exts) (eqs := eqs) (inl := []) (sum := S98) extsOK eqsOK S98_ok fi100_ok 6 rfl fun cx => ?_
  repeat' ((fail_if_success (with_reducible refine Side.mk ?_)); first | ((fail_if_success (with_reducible refine Rest.mk ?_)); first | (with_reducible exact True.intro) | (with_reducible refine Need.mk ?_ ?_) | (with_reducible refine And.intro ?_ ?_) | (with_reducible intro _) | ((fail_if_success (with_reducible refine FinS.mk ?_)); (conv => whnf)) | (refine FinS.b ?_) | (refine FinS.lb ?_) | (refine FinS.i ?_) | (refine FinS.f ?_) | (refine FinS.agg ?_) | (refine FinS.tup ?_)))
  all_goals first | exact ⟨rfl⟩ | exact ⟨⟨rfl, rfl⟩⟩
noncomputable def g100 : List MV → Option (List Prop × MV × List Blk × Bool)
  | [.f .f64 x] => some ([], (.b (finV x)), [], false)
  | _ => none
theorem s100 : SumsOK Try.prog (sumOf 100 g100 S98) := by
  refine SumsOK.add S98_ok fun ms ps m blks al e hp => ?_
  unfold g100 at e
  split at e
  · cases e; exact (t100 _ ).aloneT rfl
  · cases e
noncomputable def S100 := sumOf 100 g100 S98
theorem S100_ok : SumsOK Try.prog S100 := s100
noncomputable def fi99 : FnI := ⟨9, Try.f99.body.getD .skip, [.cell 2 40], true⟩
theorem fi99_ok : fnGen Try.prog 99 = some fi99 := by kernel_rfl
theorem t99 (a1 : Nat) (a2 : Nat) : CM Try.prog 99 [.agg [.f .f64 a1, .f .f64 a2]] (.agg [.f .f64 (fneg .f64 a2), .f .f64 a1]) [] true := by
  refine CM.of_genQ (exts := exts) (eqs := eqs) (inl := []) (sum := S100) extsOK eqsOK S100_ok fi99_ok 6 rfl fun cx => ?_
  repeat' ((fail_if_success (with_reducible refine Side.mk ?_)); first | ((fail_if_success (with_reducible refine Rest.mk ?_)); first | (with_reducible exact True.intro) | (with_reducible refine Need.mk ?_ ?_) | (with_reducible refine And.intro ?_ ?_) | (with_reducible intro _) | ((fail_if_success (with_reducible refine FinS.mk ?_)); (conv => whnf)) | (refine FinS.b ?_) | (refine FinS.lb ?_) | (refine FinS.i ?_) | (refine FinS.f ?_) | (refine FinS.agg ?_) | (refine FinS.tup ?_)))
  all_goals first | exact ⟨rfl⟩ | exact ⟨⟨rfl, rfl⟩⟩
noncomputable def g99 : List MV → Option (List Prop × MV × List Blk × Bool)
  | [.agg [.f .f64 a1, .f .f64 a2]] => some ([], (.agg [.f .f64 (fneg .f64 a2), .f .f64 a1]), [], false)
  | _ => none
theorem s99 : SumsOK Try.prog (sumOf 99 g99 S100) := by
  refine SumsOK.add S100_ok fun ms ps m blks al e hp => ?_
  unfold g99 at e
  split at e
  · cases e; exact (t99 _ _ ).aloneT rfl
  · cases e
noncomputable def S99 := sumOf 99 g99 S100
theorem S99_ok : SumsOK Try.prog S99 := s99
noncomputable def fi84 : FnI := ⟨9, Try.f84.body.getD .skip, [.cell 2 40], true⟩
theorem fi84_ok : fnGen Try.prog 84 = some fi84 := by kernel_rfl
theorem t84 (a1 : Nat) (a2 : Nat) : CM Try.prog 84 [.agg [.f .f64 a1, .f .f64 a2]] (.agg [.f .f64 (fneg .f64 (fneg .f64 a2)), .f .f64 (fneg .f64 a1)]) [] true := by
  refine CM.of_genQ (exts := exts) (eqs := eqs) (inl := []) (sum := S99) extsOK eqsOK S99_ok fi84_ok 6 rfl fun cx => ?_
  repeat' ((fail_if_success (with_reducible refine Side.mk ?_)); first | (refine RestL.loop (E := genQ Try.prog exts eqs [] S99) ?_) | (refine RestL.step (E := genQ Try.prog exts eqs [] S99) (genQ_full extsOK eqsOK S99_ok) 6 ?_) | ((fail_if_success (with_reducible refine RestL.mk ?_)); (fail_if_success (with_reducible refine Rest.mk ?_)); first | (with_reducible exact True.intro) | (with_reducible refine Need.mk ?_ ?_) | (with_reducible refine And.intro ?_ ?_) | (with_reducible intro hcl; try (exfalso; exact absurd hcl (by decide); done)) | ((fail_if_success (with_reducible refine FinS.mk ?_)); (conv => whnf)) | (refine FinS.b ?_) | (refine FinS.lb ?_) | (refine FinS.i ?_) | (refine FinS.f ?_) | (refine FinS.agg ?_) | (refine FinS.tup ?_)))
  all_goals first | exact ⟨rfl⟩ | exact ⟨⟨rfl, rfl⟩⟩
noncomputable def g84 : List MV → Option (List Prop × MV × List Blk × Bool)
  | [.agg [.f .f64 a1, .f .f64 a2]] => some ([], (.agg [.f .f64 (fneg .f64 (fneg .f64 a2)), .f .f64 (fneg .f64 a1)]), [], false)
  | _ => none
theorem s84 : SumsOK Try.prog (sumOf 84 g84 S99) := by
  refine SumsOK.add S99_ok fun ms ps m blks al e hp => ?_
  unfold g84 at e
  split at e
  · cases e; exact (t84 _ _ ).aloneT rfl
  · cases e
noncomputable def S84 := sumOf 84 g84 S99
theorem S84_ok : SumsOK Try.prog S84 := s84
noncomputable def fi102 : FnI := ⟨7, Try.f102.body.getD .skip, [.tmp 2], true⟩
theorem fi102_ok : fnGen Try.prog 102 = some fi102 := by kernel_rfl
theorem t102 (x : Nat) : CM Try.prog 102 [.f .f64 x] (.f .f64 (fneg .f64 x)) [] true := by
  refine CM.of_genQ (exts := exts) (eqs := eqs) (inl := []) (sum := S84) extsOK eqsOK S84_ok fi102_ok 6 rfl fun cx => ?_
  repeat' ((fail_if_success (with_reducible refine Side.mk ?_)); first | ((fail_if_success (with_reducible refine Rest.mk ?_)); first | (with_reducible exact True.intro) | (with_reducible refine Need.mk ?_ ?_) | (with_reducible refine And.intro ?_ ?_) | (with_reducible intro _) | ((fail_if_success (with_reducible refine FinS.mk ?_)); (conv => whnf)) | (refine FinS.b ?_) | (refine FinS.lb ?_) | (refine FinS.i ?_) | (refine FinS.f ?_) | (refine FinS.agg ?_) | (refine FinS.tup ?_)))
  · rename_i h; exact ⟨neg_lt h⟩
  · rename_i h; exact ⟨neg_bits h⟩
noncomputable def g102 : List MV → Option (List Prop × MV × List Blk × Bool)
  | [.f .f64 x] => some ([], (.f .f64 (fneg .f64 x)), [], false)
  | _ => none
theorem s102 : SumsOK Try.prog (sumOf 102 g102 S84) := by
  refine SumsOK.add S84_ok fun ms ps m blks al e hp => ?_
  unfold g102 at e
  split at e
  · cases e; exact (t102 _ ).aloneT rfl
  · cases e
noncomputable def S102 := sumOf 102 g102 S84
theorem S102_ok : SumsOK Try.prog S102 := s102
noncomputable def fi86 : FnI := ⟨9, Try.f86.body.getD .skip, [.cell 2 40], true⟩
theorem fi86_ok : fnGen Try.prog 86 = some fi86 := by kernel_rfl
theorem t86 (a1 : Nat) (a2 : Nat) : CM Try.prog 86 [.agg [.f .f64 a1, .f .f64 a2]] (.agg [.f .f64 a2, .f .f64 (fneg .f64 a1)]) [] true := by
  refine CM.of_genQ (exts := exts) (eqs := eqs) (inl := []) (sum := S102) extsOK eqsOK S102_ok fi86_ok 6 rfl fun cx => ?_
  repeat' ((fail_if_success (with_reducible refine Side.mk ?_)); first | (refine Rest.mk (drawR_sound (E := genQ Try.prog exts eqs [] S102) (genQ_full extsOK eqsOK S102_ok).toEnvAll mixOK (hnd_sound (genQ_full extsOK eqsOK S102_ok) 6) ?_)) | ((fail_if_success (with_reducible refine Rest.mk ?_)); first | (with_reducible exact True.intro) | (with_reducible refine Need.mk ?_ ?_) | (with_reducible refine And.intro ?_ ?_) | (with_reducible intro _) | ((fail_if_success (with_reducible refine FinS.mk ?_)); (conv => whnf)) | (refine FinS.b ?_) | (refine FinS.lb ?_) | (refine FinS.i ?_) | (refine FinS.f ?_) | (refine FinS.agg ?_) | (refine FinS.tup ?_)))
  all_goals first | exact ⟨rfl⟩ | exact ⟨⟨rfl, rfl⟩⟩
noncomputable def g86 : List MV → Option (List Prop × MV × List Blk × Bool)
  | [.agg [.f .f64 a1, .f .f64 a2]] => some ([], (.agg [.f .f64 a2, .f .f64 (fneg .f64 a1)]), [], false)
  | _ => none
theorem s86 : SumsOK Try.prog (sumOf 86 g86 S102) := by
  refine SumsOK.add S102_ok fun ms ps m blks al e hp => ?_
  unfold g86 at e
  split at e
  · cases e; exact (t86 _ _ ).aloneT rfl
  · cases e
noncomputable def S86 := sumOf 86 g86 S102
theorem S86_ok : SumsOK Try.prog S86 := s86
theorem bifT {c : Bool} {α : Type} {x y : α} (h : c = true) : (bif c then x else y) = x := by rw [h]; rfl
theorem bifF {c : Bool} {α : Type} {x y : α} (h : c = false) : (bif c then x else y) = y := by rw [h]; rfl
noncomputable def fi83 : FnI := ⟨24, Try.f83.body.getD .skip, [.cell 2 40, .tmp 3], true⟩
theorem fi83_ok : fnGen Try.prog 83 = some fi83 := by kernel_rfl
theorem t83 (a1 : Nat) (a2 : Nat) : CM Try.prog 83 [.agg [.f .f64 a1, .f .f64 a2]] (.tup [.agg [.f .f64 (bif badU a1 a2 then 0 else fdiv .f64 a1 (lenV a1 a2)), .f .f64 (bif badU a1 a2 then 0 else fdiv .f64 a2 (lenV a1 a2))], .b (!badU a1 a2)]) [] true := by
  refine CM.of_genQ (exts := exts) (eqs := eqs) (inl := []) (sum := S86) extsOK eqsOK S86_ok fi83_ok 6 rfl fun cx => ?_
  repeat' ((fail_if_success (with_reducible refine Side.mk ?_)); first | ((fail_if_success (with_reducible refine Rest.mk ?_)); first | (with_reducible exact True.intro) | (with_reducible refine Need.mk ?_ ?_) | (with_reducible refine And.intro ?_ ?_) | (with_reducible intro _) | ((fail_if_success (with_reducible refine FinS.mk ?_)); (conv => whnf)) | (refine FinS.b ?_) | (refine FinS.lb ?_) | (refine FinS.i ?_) | (refine FinS.f ?_) | (refine FinS.agg ?_) | (refine FinS.tup ?_)))
  all_goals (rename_i h; refine Side.mk ?_; first | exact ⟨rfl, (bifT (c := badU a1 a2) h).symm⟩ | exact ⟨rfl, (bifF (c := badU a1 a2) h).symm⟩ | exact (congrArg (fun c => !c) (show badU a1 a2 = _ from h)).symm)
noncomputable def g83 : List MV → Option (List Prop × MV × List Blk × Bool)
  | [.agg [.f .f64 a1, .f .f64 a2]] => some ([], (.tup [.agg [.f .f64 (bif badU a1 a2 then 0 else fdiv .f64 a1 (lenV a1 a2)), .f .f64 (bif badU a1 a2 then 0 else fdiv .f64 a2 (lenV a1 a2))], .b (!badU a1 a2)]), [], false)
  | _ => none
theorem s83 : SumsOK Try.prog (sumOf 83 g83 S86) := by
  refine SumsOK.add S86_ok fun ms ps m blks al e hp => ?_
  unfold g83 at e
  split at e
  · cases e; exact (t83 _ _ ).aloneT rfl
  · cases e
noncomputable def S83 := sumOf 83 g83 S86
theorem S83_ok : SumsOK Try.prog S83 := s83
noncomputable def fi85 : FnI := ⟨26, Try.f85.body.getD .skip, [.cell 2 40, .tmp 3], true⟩
theorem fi85_ok : fnGen Try.prog 85 = some fi85 := by kernel_rfl
theorem t85 (a1 : Nat) (a2 : Nat) : CM Try.prog 85 [.agg [.f .f64 a1, .f .f64 a2]] (.tup [.agg [.f .f64 (bif badR a1 a2 then 0 else fdiv .f64 a1 (lenV a1 a2)), .f .f64 (bif badR a1 a2 then 0 else fdiv .f64 a2 (lenV a1 a2))], .b (!badR a1 a2)]) [] true := by
  refine CM.of_genQ (exts := exts) (eqs := eqs) (inl := []) (sum := S83) extsOK eqsOK S83_ok fi85_ok 6 rfl fun cx => ?_
  repeat' ((fail_if_success (with_reducible refine Side.mk ?_)); first | ((fail_if_success (with_reducible refine Rest.mk ?_)); first | (with_reducible exact True.intro) | (with_reducible refine Need.mk ?_ ?_) | (with_reducible refine And.intro ?_ ?_) | (with_reducible intro _) | ((fail_if_success (with_reducible refine FinS.mk ?_)); (conv => whnf)) | (refine FinS.b ?_) | (refine FinS.lb ?_) | (refine FinS.i ?_) | (refine FinS.f ?_) | (refine FinS.agg ?_) | (refine FinS.tup ?_)))
  all_goals (rename_i h; refine Side.mk ?_; first | exact ⟨rfl, (bifT (c := badR a1 a2) h).symm⟩ | exact ⟨rfl, (bifF (c := badR a1 a2) h).symm⟩ | exact (congrArg (fun c => !c) (show badR a1 a2 = _ from h)).symm)
noncomputable def g85 : List MV → Option (List Prop × MV × List Blk × Bool)
  | [.agg [.f .f64 a1, .f .f64 a2]] => some ([], (.tup [.agg [.f .f64 (bif badR a1 a2 then 0 else fdiv .f64 a1 (lenV a1 a2)), .f .f64 (bif badR a1 a2 then 0 else fdiv .f64 a2 (lenV a1 a2))], .b (!badR a1 a2)]), [], false)
  | _ => none
theorem s85 : SumsOK Try.prog (sumOf 85 g85 S83) := by
  refine SumsOK.add S83_ok fun ms ps m blks al e hp => ?_
  unfold g85 at e
  split at e
  · cases e; exact (t85 _ _ ).aloneT rfl
  · cases e
noncomputable def S85 := sumOf 85 g85 S83
theorem S85_ok : SumsOK Try.prog S85 := s85
noncomputable def fi61 : FnI := ⟨8, Try.f61.body.getD .skip, [.cell 4 40], true⟩
theorem fi61_ok : fnGen Try.prog 61 = some fi61 := by kernel_rfl
theorem t61 (a1 : Nat) (a2 : Nat) (b1 : Nat) (b2 : Nat) : CM Try.prog 61 [.agg [.f .f64 a1, .f .f64 a2], .agg [.f .f64 b1, .f .f64 b2]] (.agg [.f .f64 (fsub .f64 b1 a1), .f .f64 (fsub .f64 b2 a2)]) [] true := by
  refine CM.of_genQ (exts := exts) (eqs := eqs) (inl := []) (sum := S85) extsOK eqsOK S85_ok fi61_ok 6 rfl fun cx => ?_
  repeat' ((fail_if_success (with_reducible refine Side.mk ?_)); first | ((fail_if_success (with_reducible refine Rest.mk ?_)); first | (with_reducible exact True.intro) | (with_reducible refine Need.mk ?_ ?_) | (with_reducible refine And.intro ?_ ?_) | (with_reducible intro _) | ((fail_if_success (with_reducible refine FinS.mk ?_)); (conv => whnf)) | (refine FinS.b ?_) | (refine FinS.lb ?_) | (refine FinS.i ?_) | (refine FinS.f ?_) | (refine FinS.agg ?_) | (refine FinS.tup ?_)))
  all_goals first | exact ⟨rfl⟩ | exact ⟨⟨rfl, rfl⟩⟩
noncomputable def g61 : List MV → Option (List Prop × MV × List Blk × Bool)
  | [.agg [.f .f64 a1, .f .f64 a2], .agg [.f .f64 b1, .f .f64 b2]] => some ([], (.agg [.f .f64 (fsub .f64 b1 a1), .f .f64 (fsub .f64 b2 a2)]), [], false)
  | _ => none
theorem s61 : SumsOK Try.prog (sumOf 61 g61 S85) := by
  refine SumsOK.add S85_ok fun ms ps m blks al e hp => ?_
  unfold g61 at e
  split at e
  · cases e; exact (t61 _ _ _ _ ).aloneT rfl
  · cases e
noncomputable def S61 := sumOf 61 g61 S85
theorem S61_ok : SumsOK Try.prog S61 := s61
end Go.Ev.Poly
