/-
  The contracts of Within, Abs, Bits and of what compares; for all floats.
-/
import Derived.Test.YtoilhalmmghhbaaPolyA
import Derived.Test.YtoilhalmmghhbaaEvL
set_option linter.unusedSimpArgs false
set_option linter.unusedVariables false
open Go Go.Proofs
namespace Go.Ev.Poly
set_option maxRecDepth 100000
set_option maxHeartbeats 1000000
def nw (a m : Nat) : Bool := fle .f64 (fneg .f64 m) a && fle .f64 a m
def fabs (x : Nat) : Nat := canon .f64 (rg Ieee.double x)
def aw (a m : Nat) : Bool := fle .f64 (fabs a) m
theorem abs_bits {r x : Nat} (h : FR .f64 r x) : canon .f64 (ibits .andNot .u64 (r : Int) 9223372036854775808).toNat = fabs x := by
  have hr : r < 2 ^ 64 := h.lt
  have e1 : ibits .andNot .u64 (r : Int) 9223372036854775808 = (rg Ieee.double r : Int) := by
    have e2 : (BitVec.ofInt 64 (r : Int) &&& ~~~(BitVec.ofInt 64 9223372036854775808)).toNat = r % 9223372036854775808 := by
      have e3 : ~~~(BitVec.ofInt 64 9223372036854775808) = BitVec.ofNat 64 (2 ^ 63 - 1) := by decide
      rw [e3, BitVec.toNat_and, BitVec.toNat_ofNat, Nat.mod_eq_of_lt (a := 2 ^ 63 - 1) (by decide), Nat.and_two_pow_sub_one_eq_mod]
      have e4 : (BitVec.ofInt 64 (r : Int)).toNat = r := by
        rw [BitVec.toNat_ofInt]; simp; omega
      rw [e4]
    show IntKind.u64.wrap (((BitVec.ofInt 64 (r : Int) &&& ~~~(BitVec.ofInt 64 9223372036854775808)).toNat : Nat) : Int) = _
    rw [e2, wrap_u64]
    show _ = ((r % Ieee.double.signWeight : Nat) : Int)
    rw [sw_double]; omega
  rw [e1]; show canon .f64 (rg Ieee.double r) = canon .f64 (rg Ieee.double x)
  cases hn : isNan .f64 x
  · rw [h.raw hn]
  · have hh : ∀ y, isNan .f64 y = true → canon .f64 (rg Ieee.double y) = qnan .f64 := by
      intro y hy
      refine canon_of_nan ?_
      rw [isNan_eq] at hy ⊢
      have : rg FloatKind.f64.format (rg Ieee.double y) = rg Ieee.double y := Nat.mod_mod _ _
      rw [this]; exact hy
    rw [hh x hn, hh r (by rw [h.nan]; exact hn)]
theorem abs_lt {r x : Nat} (h : FR .f64 r x) : (ibits .andNot .u64 (r : Int) 9223372036854775808).toNat < 18446744073709551616 := by
  show (IntKind.u64.wrap ((BitVec.ofInt IntKind.u64.bits (r : Int) &&& ~~~(BitVec.ofInt IntKind.u64.bits 9223372036854775808)).toNat : Int)).toNat < _
  rw [wrap_u64]; omega
def wth (a1 a2 : Nat) : Bool := nw a1 4787326403894837248 && nw a2 4787326403894837248
def rth (a1 a2 : Nat) : Bool := aw a1 4787326403894837248 && aw a2 4787326403894837248
def bitI (x : Nat) : Int := bif feq .f64 x x then (x : Int) else 9221120237041090561
def isI (x y : Nat) : Bool := bitI x == bitI y
theorem isI_self (x : Nat) : isI x x = true := by unfold isI; simp
theorem none_feq (k : FloatKind) (x : Nat) : (!feq k x x) = isNan k x := by
  rw [feq_eq]; cases isNan k x <;> simp
def sameI (a1 a2 b1 b2 : Nat) : Bool := isI a1 b1 && isI a2 b2
theorem sameI_self (a b : Nat) : sameI a b a b = true := by unfold sameI; rw [isI_self, isI_self]; rfl
noncomputable def fi89 : FnI := ⟨14, Try.f89.body.getD .skip, [.tmp 4], true⟩
theorem fi89_ok : fnGen Try.prog 89 = some fi89 := by kernel_rfl
theorem t89 (a : Nat) (m : Nat) : CM Try.prog 89 [.f .f64 a, .f .f64 m] (.b (nw a m)) [] true := by
  refine CM.of_genQ (exts := exts) (eqs := eqs) (inl := []) (sum := S48) extsOK eqsOK S48_ok fi89_ok 6 rfl fun cx => ?_
  repeat' ((fail_if_success (with_reducible refine Side.mk ?_)); first | ((fail_if_success (with_reducible refine Rest.mk ?_)); first | (with_reducible exact True.intro) | (with_reducible refine Need.mk ?_ ?_) | (with_reducible refine And.intro ?_ ?_) | (with_reducible intro _) | ((fail_if_success (with_reducible refine FinS.mk ?_)); (conv => whnf)) | (refine FinS.b ?_) | (refine FinS.lb ?_) | (refine FinS.i ?_) | (refine FinS.f ?_) | (refine FinS.agg ?_) | (refine FinS.tup ?_)))
  all_goals first | exact ⟨rfl⟩ | (refine Side.mk ⟨rfl, ?_⟩; first | exact ⟨rfl⟩ | rfl)
noncomputable def g89 : List MV → Option (List Prop × MV × List Blk × Bool)
  | [.f .f64 a, .f .f64 m] => some ([], (.b (nw a m)), [], false)
  | _ => none
theorem s89 : SumsOK Try.prog (sumOf 89 g89 S48) := by
  refine SumsOK.add S48_ok fun ms ps m blks al e hp => ?_
  unfold g89 at e
  split at e
  · cases e; exact (t89 _ _ ).aloneT rfl
  · cases e
noncomputable def S89 := sumOf 89 g89 S48
theorem S89_ok : SumsOK Try.prog S89 := s89
noncomputable def fi66 : FnI := ⟨15, Try.f66.body.getD .skip, [.tmp 4], true⟩
theorem fi66_ok : fnGen Try.prog 66 = some fi66 := by kernel_rfl
theorem t66 (a1 : Nat) (a2 : Nat) (m : Nat) : CM Try.prog 66 [.agg [.f .f64 a1, .f .f64 a2], .f .f64 m] (.b (nw a1 m && nw a2 m)) [] true := by
  refine CM.of_genQ (exts := exts) (eqs := eqs) (inl := []) (sum := S89) extsOK eqsOK S89_ok fi66_ok 6 rfl fun cx => ?_
  repeat' ((fail_if_success (with_reducible refine Side.mk ?_)); first | ((fail_if_success (with_reducible refine Rest.mk ?_)); first | (with_reducible exact True.intro) | (with_reducible refine Need.mk ?_ ?_) | (with_reducible refine And.intro ?_ ?_) | (with_reducible intro _) | ((fail_if_success (with_reducible refine FinS.mk ?_)); (conv => whnf)) | (refine FinS.b ?_) | (refine FinS.lb ?_) | (refine FinS.i ?_) | (refine FinS.f ?_) | (refine FinS.agg ?_) | (refine FinS.tup ?_)))
  all_goals first | exact ⟨rfl⟩ | (refine Side.mk ⟨rfl, ?_⟩; first | exact ⟨rfl⟩ | rfl)
noncomputable def g66 : List MV → Option (List Prop × MV × List Blk × Bool)
  | [.agg [.f .f64 a1, .f .f64 a2], .f .f64 m] => some ([], (.b (nw a1 m && nw a2 m)), [], false)
  | _ => none
theorem s66 : SumsOK Try.prog (sumOf 66 g66 S89) := by
  refine SumsOK.add S89_ok fun ms ps m blks al e hp => ?_
  unfold g66 at e
  split at e
  · cases e; exact (t66 _ _ _ ).aloneT rfl
  · cases e
noncomputable def S66 := sumOf 66 g66 S89
theorem S66_ok : SumsOK Try.prog S66 := s66
noncomputable def fi26 : FnI := ⟨7, Try.f26.body.getD .skip, [.tmp 2], true⟩
theorem fi26_ok : fnGen Try.prog 26 = some fi26 := by kernel_rfl
theorem t26 (x : Nat) : CM Try.prog 26 [.f .f64 x] (.f .f64 (fabs x)) [] true := by
  refine CM.of_genQ (exts := exts) (eqs := eqs) (inl := []) (sum := S66) extsOK eqsOK S66_ok fi26_ok 6 rfl fun cx => ?_
  repeat' ((fail_if_success (with_reducible refine Side.mk ?_)); first | ((fail_if_success (with_reducible refine Rest.mk ?_)); first | (with_reducible exact True.intro) | (with_reducible refine Need.mk ?_ ?_) | (with_reducible refine And.intro ?_ ?_) | (with_reducible intro _) | ((fail_if_success (with_reducible refine FinS.mk ?_)); (conv => whnf)) | (refine FinS.b ?_) | (refine FinS.lb ?_) | (refine FinS.i ?_) | (refine FinS.f ?_) | (refine FinS.agg ?_) | (refine FinS.tup ?_)))
  · rename_i h; exact ⟨abs_lt h⟩
  · rename_i h; exact ⟨abs_bits h⟩
noncomputable def g26 : List MV → Option (List Prop × MV × List Blk × Bool)
  | [.f .f64 x] => some ([], (.f .f64 (fabs x)), [], false)
  | _ => none
theorem s26 : SumsOK Try.prog (sumOf 26 g26 S66) := by
  refine SumsOK.add S66_ok fun ms ps m blks al e hp => ?_
  unfold g26 at e
  split at e
  · cases e; exact (t26 _ ).aloneT rfl
  · cases e
noncomputable def S26 := sumOf 26 g26 S66
theorem S26_ok : SumsOK Try.prog S26 := s26
noncomputable def fi69 : FnI := ⟨17, Try.f69.body.getD .skip, [.tmp 4], true⟩
theorem fi69_ok : fnGen Try.prog 69 = some fi69 := by kernel_rfl
theorem t69 (a1 : Nat) (a2 : Nat) (m : Nat) : CM Try.prog 69 [.agg [.f .f64 a1, .f .f64 a2], .f .f64 m] (.b (aw a1 m && aw a2 m)) [] true := by
  refine CM.of_genQ (exts := exts) (eqs := eqs) (inl := []) (sum := S26) extsOK eqsOK S26_ok fi69_ok 6 rfl fun cx => ?_
  repeat' ((fail_if_success (with_reducible refine Side.mk ?_)); first | ((fail_if_success (with_reducible refine Rest.mk ?_)); first | (with_reducible exact True.intro) | (with_reducible refine Need.mk ?_ ?_) | (with_reducible refine And.intro ?_ ?_) | (with_reducible intro _) | ((fail_if_success (with_reducible refine FinS.mk ?_)); (conv => whnf)) | (refine FinS.b ?_) | (refine FinS.lb ?_) | (refine FinS.i ?_) | (refine FinS.f ?_) | (refine FinS.agg ?_) | (refine FinS.tup ?_)))
  all_goals first | exact ⟨rfl⟩ | (refine Side.mk ⟨rfl, ?_⟩; first | exact ⟨rfl⟩ | rfl)
noncomputable def g69 : List MV → Option (List Prop × MV × List Blk × Bool)
  | [.agg [.f .f64 a1, .f .f64 a2], .f .f64 m] => some ([], (.b (aw a1 m && aw a2 m)), [], false)
  | _ => none
theorem s69 : SumsOK Try.prog (sumOf 69 g69 S26) := by
  refine SumsOK.add S26_ok fun ms ps m blks al e hp => ?_
  unfold g69 at e
  split at e
  · cases e; exact (t69 _ _ _ ).aloneT rfl
  · cases e
noncomputable def S69 := sumOf 69 g69 S26
theorem S69_ok : SumsOK Try.prog S69 := s69
noncomputable def fi62 : FnI := ⟨8, Try.f62.body.getD .skip, [.tmp 2], true⟩
theorem fi62_ok : fnGen Try.prog 62 = some fi62 := by kernel_rfl
theorem t62 (x : Nat) : CM Try.prog 62 [.f .f64 x] (.i .u64 (bitI x)) [] true := by
  refine CM.of_genQ (exts := exts) (eqs := eqs) (inl := []) (sum := S69) extsOK eqsOK S69_ok fi62_ok 6 rfl fun cx => ?_
  repeat' ((fail_if_success (with_reducible refine Side.mk ?_)); first | ((fail_if_success (with_reducible refine Rest.mk ?_)); first | (with_reducible exact True.intro) | (with_reducible refine Need.mk ?_ ?_) | (with_reducible refine And.intro ?_ ?_) | (with_reducible intro _) | ((fail_if_success (with_reducible refine FinS.mk ?_)); (conv => whnf)) | (refine FinS.b ?_) | (refine FinS.lb ?_) | (refine FinS.i ?_) | (refine FinS.f ?_) | (refine FinS.agg ?_) | (refine FinS.tup ?_)))
  · rename_i h; refine Side.mk ?_; unfold bitI; revert h; generalize feq .f64 x x = c; cases c <;> simp
  · rename_i h r hr; refine Side.mk ?_
    have hn : isNan .f64 x = false := by rw [← none_feq]; exact h
    rw [hr.raw hn]; unfold bitI; revert h; generalize feq .f64 x x = c; cases c <;> simp
noncomputable def g62 : List MV → Option (List Prop × MV × List Blk × Bool)
  | [.f .f64 x] => some ([], (.i .u64 (bitI x)), [], false)
  | _ => none
theorem s62 : SumsOK Try.prog (sumOf 62 g62 S69) := by
  refine SumsOK.add S69_ok fun ms ps m blks al e hp => ?_
  unfold g62 at e
  split at e
  · cases e; exact (t62 _ ).aloneT rfl
  · cases e
noncomputable def S62 := sumOf 62 g62 S69
theorem S62_ok : SumsOK Try.prog S62 := s62
noncomputable def fi18 : FnI := ⟨10, Try.f18.body.getD .skip, [.tmp 4], true⟩
theorem fi18_ok : fnGen Try.prog 18 = some fi18 := by kernel_rfl
theorem t18 (x : Nat) (y : Nat) : CM Try.prog 18 [.f .f64 x, .f .f64 y] (.b (isI x y)) [] true := by
  refine CM.of_genQ (exts := exts) (eqs := eqs) (inl := []) (sum := S62) extsOK eqsOK S62_ok fi18_ok 6 rfl fun cx => ?_
  repeat' ((fail_if_success (with_reducible refine Side.mk ?_)); first | ((fail_if_success (with_reducible refine Rest.mk ?_)); first | (with_reducible exact True.intro) | (with_reducible refine Need.mk ?_ ?_) | (with_reducible refine And.intro ?_ ?_) | (with_reducible intro _) | ((fail_if_success (with_reducible refine FinS.mk ?_)); (conv => whnf)) | (refine FinS.b ?_) | (refine FinS.lb ?_) | (refine FinS.i ?_) | (refine FinS.f ?_) | (refine FinS.agg ?_) | (refine FinS.tup ?_)))
  all_goals first | exact ⟨rfl⟩ | (refine Side.mk ⟨rfl, ?_⟩; first | exact ⟨rfl⟩ | rfl)
noncomputable def g18 : List MV → Option (List Prop × MV × List Blk × Bool)
  | [.f .f64 x, .f .f64 y] => some ([], (.b (isI x y)), [], false)
  | _ => none
theorem s18 : SumsOK Try.prog (sumOf 18 g18 S62) := by
  refine SumsOK.add S62_ok fun ms ps m blks al e hp => ?_
  unfold g18 at e
  split at e
  · cases e; exact (t18 _ _ ).aloneT rfl
  · cases e
noncomputable def S18 := sumOf 18 g18 S62
theorem S18_ok : SumsOK Try.prog S18 := s18
noncomputable def fi38 : FnI := ⟨17, Try.f38.body.getD .skip, [.tmp 4], true⟩
theorem fi38_ok : fnGen Try.prog 38 = some fi38 := by kernel_rfl
theorem t38 (a1 : Nat) (a2 : Nat) (b1 : Nat) (b2 : Nat) : CM Try.prog 38 [.agg [.f .f64 a1, .f .f64 a2], .agg [.f .f64 b1, .f .f64 b2]] (.b (sameI a1 a2 b1 b2)) [] true := by
  refine CM.of_genQ (exts := exts) (eqs := eqs) (inl := []) (sum := S18) extsOK eqsOK S18_ok fi38_ok 6 rfl fun cx => ?_
  repeat' ((fail_if_success (with_reducible refine Side.mk ?_)); first | ((fail_if_success (with_reducible refine Rest.mk ?_)); first | (with_reducible exact True.intro) | (with_reducible refine Need.mk ?_ ?_) | (with_reducible refine And.intro ?_ ?_) | (with_reducible intro _) | ((fail_if_success (with_reducible refine FinS.mk ?_)); (conv => whnf)) | (refine FinS.b ?_) | (refine FinS.lb ?_) | (refine FinS.i ?_) | (refine FinS.f ?_) | (refine FinS.agg ?_) | (refine FinS.tup ?_)))
  all_goals first | exact ⟨rfl⟩ | (refine Side.mk ⟨rfl, ?_⟩; first | exact ⟨rfl⟩ | rfl)
noncomputable def g38 : List MV → Option (List Prop × MV × List Blk × Bool)
  | [.agg [.f .f64 a1, .f .f64 a2], .agg [.f .f64 b1, .f .f64 b2]] => some ([], (.b (sameI a1 a2 b1 b2)), [], false)
  | _ => none
theorem s38 : SumsOK Try.prog (sumOf 38 g38 S18) := by
  refine SumsOK.add S18_ok fun ms ps m blks al e hp => ?_
  unfold g38 at e
  split at e
  · cases e; exact (t38 _ _ _ _ ).aloneT rfl
  · cases e
noncomputable def S38 := sumOf 38 g38 S18
theorem S38_ok : SumsOK Try.prog S38 := s38
end Go.Ev.Poly
