/-
  The contracts of Within, Check, cut and what compares; for all floats.
-/
import Derived.Test.YtbehddngdjfkhaaClipA
import Derived.Test.YtbehddngdjfkhaaEvL
set_option linter.unusedSimpArgs false
set_option linter.unusedVariables false
open Go Go.Proofs
namespace Go.Ev.Clip
set_option maxRecDepth 100000
def nw (a m : Nat) : Bool := fle .f64 (fneg .f64 m) a && fle .f64 a m
def fabs (x : Nat) : Nat := canon .f64 (rg Ieee.double x)
def aw (a m : Nat) : Bool := fle .f64 (fabs a) m
theorem abs_bits {r x : Nat} (h : FR .f64 r x) : canon .f64 (ibits .andNot .u64 (r : Int) 9223372036854775808).toNat = fabs x := by
  have hr : r < 2 ^ 64 := h.lt
  have e1 : ibits .andNot .u64 (r : Int) 9223372036854775808 = (rg Ieee.double r : Int) := by
    have e2 : (BitVec.ofInt 64 (r : Int) &&& ~~~(BitVec.ofInt 64 9223372036854775808)).toNat = r % 9223372036854775808 := by
      have e3 : ~~~(BitVec.ofInt 64 9223372036854775808) = BitVec.ofNat 64 (2 ^ 63 - 1) := by decide
      rw [e3, BitVec.toNat_and, BitVec.toNat_ofNat, Nat.mod_eq_of_lt (a := 2 ^ 63 - 1) (by decide), Nat.and_two_pow_sub_one_eq_mod]
      have e4 : (BitVec.ofInt 64 (r : Int)).toNat = r := by
        rw [BitVec.toNat_ofInt]; simp; omega
      rw [e4]
    show IntKind.u64.wrap (((BitVec.ofInt 64 (r : Int) &&& ~~~(BitVec.ofInt 64 9223372036854775808)).toNat : Nat) : Int) = _
    rw [e2, wrap_u64]
    show _ = ((r % Ieee.double.signWeight : Nat) : Int)
    rw [sw_double]; omega
  rw [e1]; show canon .f64 (rg Ieee.double r) = canon .f64 (rg Ieee.double x)
  cases hn : isNan .f64 x
  · rw [h.raw hn]
  · have hh : ∀ y, isNan .f64 y = true → canon .f64 (rg Ieee.double y) = qnan .f64 := by
      intro y hy
      refine canon_of_nan ?_
      rw [isNan_eq] at hy ⊢
      have : rg FloatKind.f64.format (rg Ieee.double y) = rg Ieee.double y := Nat.mod_mod _ _
      rw [this]; exact hy
    rw [hh x hn, hh r (by rw [h.nan]; exact hn)]
theorem abs_lt {r x : Nat} (h : FR .f64 r x) : (ibits .andNot .u64 (r : Int) 9223372036854775808).toNat < 18446744073709551616 := by
  show (IntKind.u64.wrap ((BitVec.ofInt IntKind.u64.bits (r : Int) &&& ~~~(BitVec.ofInt IntKind.u64.bits 9223372036854775808)).toNat : Int)).toNat < _
  rw [wrap_u64]; omega
noncomputable def fi39 : FnI := ⟨14, Try.f39.body.getD .skip, [.tmp 4], true⟩
theorem fi39_ok : fnGen Try.prog 39 = some fi39 := by kernel_rfl
theorem t39 (a : Nat) (m : Nat) : CM Try.prog 39 [.f .f64 a, .f .f64 m] (.b (nw a m)) [] true := by
  refine CM.of_genQ (exts := exts) (eqs := eqs) (inl := []) (sum := S27) extsOK eqsOK S27_ok fi39_ok 6 rfl fun cx => ?_
  repeat' ((fail_if_success (with_reducible refine Side.mk ?_)); first | ((fail_if_success (with_reducible refine Rest.mk ?_)); first | (with_reducible exact True.intro) | (with_reducible refine Need.mk ?_ ?_) | (with_reducible refine And.intro ?_ ?_) | (with_reducible intro _) | ((fail_if_success (with_reducible refine FinS.mk ?_)); (conv => whnf)) | (refine FinS.b ?_) | (refine FinS.lb ?_) | (refine FinS.i ?_) | (refine FinS.f ?_) | (refine FinS.agg ?_) | (refine FinS.tup ?_)))
  all_goals first | exact ⟨rfl⟩ | (refine Side.mk ⟨rfl, ?_⟩; first | exact ⟨rfl⟩ | rfl) | skip
def g39 : List MV → Option (List Prop × MV × List Blk × Bool)
  | [.f .f64 a, .f .f64 m] => some ([], (.b (nw a m)), [], false)
  | _ => none
theorem s39 : SumsOK Try.prog (sumOf 39 g39 S27) := by
  refine SumsOK.add S27_ok fun ms ps m blks al e hp => ?_
  unfold g39 at e
  split at e
  · cases e; exact (t39 _ _ ).aloneT rfl
  · cases e
def S39 := sumOf 39 g39 S27
theorem S39_ok : SumsOK Try.prog S39 := s39
noncomputable def fi38 : FnI := ⟨15, Try.f38.body.getD .skip, [.tmp 4], true⟩
theorem fi38_ok : fnGen Try.prog 38 = some fi38 := by kernel_rfl
theorem t38 (a1 : Nat) (a2 : Nat) (m : Nat) : CM Try.prog 38 [.agg [.f .f64 a1, .f .f64 a2], .f .f64 m] (.b (nw a1 m && nw a2 m)) [] true := by
  refine CM.of_genQ (exts := exts) (eqs := eqs) (inl := []) (sum := S39) extsOK eqsOK S39_ok fi38_ok 6 rfl fun cx => ?_
  repeat' ((fail_if_success (with_reducible refine Side.mk ?_)); first | ((fail_if_success (with_reducible refine Rest.mk ?_)); first | (with_reducible exact True.intro) | (with_reducible refine Need.mk ?_ ?_) | (with_reducible refine And.intro ?_ ?_) | (with_reducible intro _) | ((fail_if_success (with_reducible refine FinS.mk ?_)); (conv => whnf)) | (refine FinS.b ?_) | (refine FinS.lb ?_) | (refine FinS.i ?_) | (refine FinS.f ?_) | (refine FinS.agg ?_) | (refine FinS.tup ?_)))
  all_goals first | exact ⟨rfl⟩ | (refine Side.mk ⟨rfl, ?_⟩; first | exact ⟨rfl⟩ | rfl) | skip
def g38 : List MV → Option (List Prop × MV × List Blk × Bool)
  | [.agg [.f .f64 a1, .f .f64 a2], .f .f64 m] => some ([], (.b (nw a1 m && nw a2 m)), [], false)
  | _ => none
theorem s38 : SumsOK Try.prog (sumOf 38 g38 S39) := by
  refine SumsOK.add S39_ok fun ms ps m blks al e hp => ?_
  unfold g38 at e
  split at e
  · cases e; exact (t38 _ _ _ ).aloneT rfl
  · cases e
def S38 := sumOf 38 g38 S39
theorem S38_ok : SumsOK Try.prog S38 := s38
noncomputable def fi22 : FnI := ⟨7, Try.f22.body.getD .skip, [.tmp 2], true⟩
theorem fi22_ok : fnGen Try.prog 22 = some fi22 := by kernel_rfl
theorem t22 (x : Nat) : CM Try.prog 22 [.f .f64 x] (.f .f64 (fabs x)) [] true := by
  refine CM.of_genQ (exts := exts) (eqs := eqs) (inl := []) (sum := S38) extsOK eqsOK S38_ok fi22_ok 6 rfl fun cx => ?_
  repeat' ((fail_if_success (with_reducible refine Side.mk ?_)); first | ((fail_if_success (with_reducible refine Rest.mk ?_)); first | (with_reducible exact True.intro) | (with_reducible refine Need.mk ?_ ?_) | (with_reducible refine And.intro ?_ ?_) | (with_reducible intro _) | ((fail_if_success (with_reducible refine FinS.mk ?_)); (conv => whnf)) | (refine FinS.b ?_) | (refine FinS.lb ?_) | (refine FinS.i ?_) | (refine FinS.f ?_) | (refine FinS.agg ?_) | (refine FinS.tup ?_)))
  · rename_i h; exact ⟨abs_lt h⟩
  · rename_i h; exact ⟨abs_bits h⟩
def g22 : List MV → Option (List Prop × MV × List Blk × Bool)
  | [.f .f64 x] => some ([], (.f .f64 (fabs x)), [], false)
  | _ => none
theorem s22 : SumsOK Try.prog (sumOf 22 g22 S38) := by
  refine SumsOK.add S38_ok fun ms ps m blks al e hp => ?_
  unfold g22 at e
  split at e
  · cases e; exact (t22 _ ).aloneT rfl
  · cases e
def S22 := sumOf 22 g22 S38
theorem S22_ok : SumsOK Try.prog S22 := s22
noncomputable def fi41 : FnI := ⟨17, Try.f41.body.getD .skip, [.tmp 4], true⟩
theorem fi41_ok : fnGen Try.prog 41 = some fi41 := by kernel_rfl
theorem t41 (a1 : Nat) (a2 : Nat) (m : Nat) : CM Try.prog 41 [.agg [.f .f64 a1, .f .f64 a2], .f .f64 m] (.b (aw a1 m && aw a2 m)) [] true := by
  refine CM.of_genQ (exts := exts) (eqs := eqs) (inl := []) (sum := S22) extsOK eqsOK S22_ok fi41_ok 6 rfl fun cx => ?_
  repeat' ((fail_if_success (with_reducible refine Side.mk ?_)); first | ((fail_if_success (with_reducible refine Rest.mk ?_)); first | (with_reducible exact True.intro) | (with_reducible refine Need.mk ?_ ?_) | (with_reducible refine And.intro ?_ ?_) | (with_reducible intro _) | ((fail_if_success (with_reducible refine FinS.mk ?_)); (conv => whnf)) | (refine FinS.b ?_) | (refine FinS.lb ?_) | (refine FinS.i ?_) | (refine FinS.f ?_) | (refine FinS.agg ?_) | (refine FinS.tup ?_)))
  all_goals first | exact ⟨rfl⟩ | (refine Side.mk ⟨rfl, ?_⟩; first | exact ⟨rfl⟩ | rfl) | skip
def g41 : List MV → Option (List Prop × MV × List Blk × Bool)
  | [.agg [.f .f64 a1, .f .f64 a2], .f .f64 m] => some ([], (.b (aw a1 m && aw a2 m)), [], false)
  | _ => none
theorem s41 : SumsOK Try.prog (sumOf 41 g41 S22) := by
  refine SumsOK.add S22_ok fun ms ps m blks al e hp => ?_
  unfold g41 at e
  split at e
  · cases e; exact (t41 _ _ _ ).aloneT rfl
  · cases e
def S41 := sumOf 41 g41 S22
theorem S41_ok : SumsOK Try.prog S41 := s41
def chk (nx ny pf : Nat) : Bool := nw nx 4611686018427387904 && nw ny 4611686018427387904 && fge .f64 (dot nx ny nx ny) 4607182418800009216 && fle .f64 (dot nx ny nx ny) 4607182418800021504 && nw pf 4796333603149578240
def rchk (nx ny pf : Nat) : Bool := aw nx 4611686018427387904 && aw ny 4611686018427387904 && fge .f64 (dot nx ny nx ny) 4607182418800009216 && fle .f64 (dot nx ny nx ny) 4607182418800021504 && (fge .f64 pf 14019705640004354048 && fle .f64 pf 4796333603149578240)
noncomputable def fi14 : FnI := ⟨23, Try.f14.body.getD .skip, [.tmp 2], true⟩
theorem fi14_ok : fnGen Try.prog 14 = some fi14 := by kernel_rfl
theorem t14 (nx : Nat) (ny : Nat) (pf : Nat) : CM Try.prog 14 [.agg [.f .f64 nx, .f .f64 ny, .f .f64 pf]] (.i .i64 (bif chk nx ny pf then 0 else 90)) [] true := by
  refine CM.of_genQ (exts := exts) (eqs := eqs) (inl := []) (sum := S41) extsOK eqsOK S41_ok fi14_ok 6 rfl fun cx => ?_
  repeat' ((fail_if_success (with_reducible refine Side.mk ?_)); first | ((fail_if_success (with_reducible refine Rest.mk ?_)); first | (with_reducible exact True.intro) | (with_reducible refine Need.mk ?_ ?_) | (with_reducible refine And.intro ?_ ?_) | (with_reducible intro _) | ((fail_if_success (with_reducible refine FinS.mk ?_)); (conv => whnf)) | (refine FinS.b ?_) | (refine FinS.lb ?_) | (refine FinS.i ?_) | (refine FinS.f ?_) | (refine FinS.agg ?_) | (refine FinS.tup ?_)))
  all_goals (rename_i h; refine Side.mk ?_; unfold chk; first | (rw [h]; rfl) | (rw [rchk_aux] at h; revert h; generalize rchk nx ny pf = c; cases c <;> simp))
def g14 : List MV → Option (List Prop × MV × List Blk × Bool)
  | [.agg [.f .f64 nx, .f .f64 ny, .f .f64 pf]] => some ([], (.i .i64 (bif chk nx ny pf then 0 else 90)), [], false)
  | _ => none
theorem s14 : SumsOK Try.prog (sumOf 14 g14 S41) := by
  refine SumsOK.add S41_ok fun ms ps m blks al e hp => ?_
  unfold g14 at e
  split at e
  · cases e; exact (t14 _ _ _ ).aloneT rfl
  · cases e
def S14 := sumOf 14 g14 S41
theorem S14_ok : SumsOK Try.prog S14 := s14
theorem rchk_aux (a b c : Bool) : (!a || !b || !c) = !(a && b && c) := by cases a <;> cases b <;> cases c <;> rfl
noncomputable def fi15 : FnI := ⟨31, Try.f15.body.getD .skip, [.tmp 2], true⟩
theorem fi15_ok : fnGen Try.prog 15 = some fi15 := by kernel_rfl
theorem t15 (nx : Nat) (ny : Nat) (pf : Nat) : CM Try.prog 15 [.agg [.f .f64 nx, .f .f64 ny, .f .f64 pf]] (.i .i64 (bif rchk nx ny pf then 0 else 90)) [] true := by
  refine CM.of_genQ (exts := exts) (eqs := eqs) (inl := []) (sum := S14) extsOK eqsOK S14_ok fi15_ok 6 rfl fun cx => ?_
  repeat' ((fail_if_success (with_reducible refine Side.mk ?_)); first | ((fail_if_success (with_reducible refine Rest.mk ?_)); first | (with_reducible exact True.intro) | (with_reducible refine Need.mk ?_ ?_) | (with_reducible refine And.intro ?_ ?_) | (with_reducible intro _) | ((fail_if_success (with_reducible refine FinS.mk ?_)); (conv => whnf)) | (refine FinS.b ?_) | (refine FinS.lb ?_) | (refine FinS.i ?_) | (refine FinS.f ?_) | (refine FinS.agg ?_) | (refine FinS.tup ?_)))
  all_goals (rename_i h; refine Side.mk ?_; rw [rchk_aux] at h; unfold rchk; revert h; simp only [Bool.and_assoc]; generalize (aw nx _ && _) = c; cases c <;> simp)
def g15 : List MV → Option (List Prop × MV × List Blk × Bool)
  | [.agg [.f .f64 nx, .f .f64 ny, .f .f64 pf]] => some ([], (.i .i64 (bif rchk nx ny pf then 0 else 90)), [], false)
  | _ => none
theorem s15 : SumsOK Try.prog (sumOf 15 g15 S14) := by
  refine SumsOK.add S14_ok fun ms ps m blks al e hp => ?_
  unfold g15 at e
  split at e
  · cases e; exact (t15 _ _ _ ).aloneT rfl
  · cases e
def S15 := sumOf 15 g15 S14
theorem S15_ok : SumsOK Try.prog S15 := s15
noncomputable def fi31 : FnI := ⟨6, Try.f31.body.getD .skip, [.tmp 2], true⟩
theorem fi31_ok : fnGen Try.prog 31 = some fi31 := by kernel_rfl
theorem t31 (a1 : Nat) (a2 : Nat) : CM Try.prog 31 [.agg [.f .f64 a1, .f .f64 a2]] (.i .i64 (bif aw a1 4787326403894837248 && aw a2 4787326403894837248 then 0 else 5)) [] true := by
  refine CM.of_genQ (exts := exts) (eqs := eqs) (inl := []) (sum := S15) extsOK eqsOK S15_ok fi31_ok 6 rfl fun cx => ?_
  repeat' ((fail_if_success (with_reducible refine Side.mk ?_)); first | ((fail_if_success (with_reducible refine Rest.mk ?_)); first | (with_reducible exact True.intro) | (with_reducible refine Need.mk ?_ ?_) | (with_reducible refine And.intro ?_ ?_) | (with_reducible intro _) | ((fail_if_success (with_reducible refine FinS.mk ?_)); (conv => whnf)) | (refine FinS.b ?_) | (refine FinS.lb ?_) | (refine FinS.i ?_) | (refine FinS.f ?_) | (refine FinS.agg ?_) | (refine FinS.tup ?_)))
  all_goals (rename_i h; refine Side.mk ?_; revert h; generalize (aw a1 _ && _) = c; cases c <;> simp)
def g31 : List MV → Option (List Prop × MV × List Blk × Bool)
  | [.agg [.f .f64 a1, .f .f64 a2]] => some ([], (.i .i64 (bif aw a1 4787326403894837248 && aw a2 4787326403894837248 then 0 else 5)), [], false)
  | _ => none
theorem s31 : SumsOK Try.prog (sumOf 31 g31 S15) := by
  refine SumsOK.add S15_ok fun ms ps m blks al e hp => ?_
  unfold g31 at e
  split at e
  · cases e; exact (t31 _ _ ).aloneT rfl
  · cases e
def S31 := sumOf 31 g31 S15
theorem S31_ok : SumsOK Try.prog S31 := s31
def cutt (u w : Nat) : Nat := fdiv .f64 u (fsub .f64 u w)
def mor (a s b c : Nat) : Nat := fadd .f64 a (fmul .f64 s (fsub .f64 b c))
def bey (nx ny pf a1 a2 : Nat) : Nat := fsub .f64 (dot nx ny a1 a2) pf
noncomputable def fi33 : FnI := ⟨19, Try.f33.body.getD .skip, [.cell 8 24], true⟩
theorem fi33_ok : fnGen Try.prog 33 = some fi33 := by kernel_rfl
theorem t33 (a1 : Nat) (a2 : Nat) (b1 : Nat) (b2 : Nat) (u : Nat) (w : Nat) : CM Try.prog 33 [.agg [.f .f64 a1, .f .f64 a2], .agg [.f .f64 b1, .f .f64 b2], .f .f64 u, .f .f64 w] (.agg [.f .f64 (mor a1 (cutt u w) b1 a1), .f .f64 (mor a2 (cutt u w) b2 a2)]) [] true := by
  refine CM.of_genQ (exts := exts) (eqs := eqs) (inl := []) (sum := S31) extsOK eqsOK S31_ok fi33_ok 6 rfl fun cx => ?_
  repeat' ((fail_if_success (with_reducible refine Side.mk ?_)); first | (refine Rest.mk (drawR_sound (E := genQ Try.prog exts eqs [] S31) (genQ_full extsOK eqsOK S31_ok).toEnvAll mixOK (hnd_sound (genQ_full extsOK eqsOK S31_ok) 6) ?_)) | ((fail_if_success (with_reducible refine Rest.mk ?_)); first | (with_reducible exact True.intro) | (with_reducible refine Need.mk ?_ ?_) | (with_reducible refine And.intro ?_ ?_) | (with_reducible intro _) | ((fail_if_success (with_reducible refine FinS.mk ?_)); (conv => whnf)) | (refine FinS.b ?_) | (refine FinS.lb ?_) | (refine FinS.i ?_) | (refine FinS.f ?_) | (refine FinS.agg ?_) | (refine FinS.tup ?_)))
  all_goals first | exact ⟨rfl⟩ | (refine Side.mk ⟨rfl, ?_⟩; first | exact ⟨rfl⟩ | rfl) | skip
def g33 : List MV → Option (List Prop × MV × List Blk × Bool)
  | [.agg [.f .f64 a1, .f .f64 a2], .agg [.f .f64 b1, .f .f64 b2], .f .f64 u, .f .f64 w] => some ([], (.agg [.f .f64 (mor a1 (cutt u w) b1 a1), .f .f64 (mor a2 (cutt u w) b2 a2)]), [], false)
  | _ => none
theorem s33 : SumsOK Try.prog (sumOf 33 g33 S31) := by
  refine SumsOK.add S31_ok fun ms ps m blks al e hp => ?_
  unfold g33 at e
  split at e
  · cases e; exact (t33 _ _ _ _ _ _ ).aloneT rfl
  · cases e
def S33 := sumOf 33 g33 S31
theorem S33_ok : SumsOK Try.prog S33 := s33
noncomputable def fi35 : FnI := ⟨27, Try.f35.body.getD .skip, [.cell 6 24], true⟩
theorem fi35_ok : fnGen Try.prog 35 = some fi35 := by kernel_rfl
theorem t35 (nx : Nat) (ny : Nat) (pf : Nat) (a1 : Nat) (a2 : Nat) (b1 : Nat) (b2 : Nat) : CM Try.prog 35 [.agg [.f .f64 nx, .f .f64 ny, .f .f64 pf], .agg [.f .f64 a1, .f .f64 a2], .agg [.f .f64 b1, .f .f64 b2]] (.agg [.f .f64 (mor a1 (cutt (bey nx ny pf a1 a2) (bey nx ny pf b1 b2)) b1 a1), .f .f64 (mor a2 (cutt (bey nx ny pf a1 a2) (bey nx ny pf b1 b2)) b2 a2)]) [] true := by
  refine CM.of_genQ (exts := exts) (eqs := eqs) (inl := []) (sum := S33) extsOK eqsOK S33_ok fi35_ok 6 rfl fun cx => ?_
  repeat' ((fail_if_success (with_reducible refine Side.mk ?_)); first | (refine Rest.mk (drawR_sound (E := genQ Try.prog exts eqs [] S33) (genQ_full extsOK eqsOK S33_ok).toEnvAll mixOK (hnd_sound (genQ_full extsOK eqsOK S33_ok) 6) ?_)) | ((fail_if_success (with_reducible refine Rest.mk ?_)); first | (with_reducible exact True.intro) | (with_reducible refine Need.mk ?_ ?_) | (with_reducible refine And.intro ?_ ?_) | (with_reducible intro _) | ((fail_if_success (with_reducible refine FinS.mk ?_)); (conv => whnf)) | (refine FinS.b ?_) | (refine FinS.lb ?_) | (refine FinS.i ?_) | (refine FinS.f ?_) | (refine FinS.agg ?_) | (refine FinS.tup ?_)))
  all_goals first | exact ⟨rfl⟩ | (refine Side.mk ⟨rfl, ?_⟩; first | exact ⟨rfl⟩ | rfl) | skip
def g35 : List MV → Option (List Prop × MV × List Blk × Bool)
  | [.agg [.f .f64 nx, .f .f64 ny, .f .f64 pf], .agg [.f .f64 a1, .f .f64 a2], .agg [.f .f64 b1, .f .f64 b2]] => some ([], (.agg [.f .f64 (mor a1 (cutt (bey nx ny pf a1 a2) (bey nx ny pf b1 b2)) b1 a1), .f .f64 (mor a2 (cutt (bey nx ny pf a1 a2) (bey nx ny pf b1 b2)) b2 a2)]), [], false)
  | _ => none
theorem s35 : SumsOK Try.prog (sumOf 35 g35 S33) := by
  refine SumsOK.add S33_ok fun ms ps m blks al e hp => ?_
  unfold g35 at e
  split at e
  · cases e; exact (t35 _ _ _ _ _ _ _ ).aloneT rfl
  · cases e
def S35 := sumOf 35 g35 S33
theorem S35_ok : SumsOK Try.prog S35 := s35
noncomputable def fi34 : FnI := ⟨9, Try.f34.body.getD .skip, [.tmp 4], true⟩
theorem fi34_ok : fnGen Try.prog 34 = some fi34 := by kernel_rfl
theorem t34 (nx : Nat) (ny : Nat) (pf : Nat) (a1 : Nat) (a2 : Nat) : CM Try.prog 34 [.agg [.f .f64 nx, .f .f64 ny, .f .f64 pf], .agg [.f .f64 a1, .f .f64 a2]] (.b (fle .f64 (bey nx ny pf a1 a2) 0)) [] true := by
  refine CM.of_genQ (exts := exts) (eqs := eqs) (inl := []) (sum := S35) extsOK eqsOK S35_ok fi34_ok 6 rfl fun cx => ?_
  repeat' ((fail_if_success (with_reducible refine Side.mk ?_)); first | ((fail_if_success (with_reducible refine Rest.mk ?_)); first | (with_reducible exact True.intro) | (with_reducible refine Need.mk ?_ ?_) | (with_reducible refine And.intro ?_ ?_) | (with_reducible intro _) | ((fail_if_success (with_reducible refine FinS.mk ?_)); (conv => whnf)) | (refine FinS.b ?_) | (refine FinS.lb ?_) | (refine FinS.i ?_) | (refine FinS.f ?_) | (refine FinS.agg ?_) | (refine FinS.tup ?_)))
  all_goals first | exact ⟨rfl⟩ | (refine Side.mk ⟨rfl, ?_⟩; first | exact ⟨rfl⟩ | rfl) | skip
def g34 : List MV → Option (List Prop × MV × List Blk × Bool)
  | [.agg [.f .f64 nx, .f .f64 ny, .f .f64 pf], .agg [.f .f64 a1, .f .f64 a2]] => some ([], (.b (fle .f64 (bey nx ny pf a1 a2) 0)), [], false)
  | _ => none
theorem s34 : SumsOK Try.prog (sumOf 34 g34 S35) := by
  refine SumsOK.add S35_ok fun ms ps m blks al e hp => ?_
  unfold g34 at e
  split at e
  · cases e; exact (t34 _ _ _ _ _ ).aloneT rfl
  · cases e
def S34 := sumOf 34 g34 S35
theorem S34_ok : SumsOK Try.prog S34 := s34
end Go.Ev.Clip
