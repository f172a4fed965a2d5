/-
  The contracts of asked, first, Far and Same; for all floats.
-/
import Derived.Test.YtbehddngdjfkhaaClipS
set_option linter.unusedSimpArgs false
set_option linter.unusedVariables false
open Go Go.Proofs
namespace Go.Ev.Clip
set_option maxRecDepth 100000
def wth (a1 a2 : Nat) : Bool := nw a1 4787326403894837248 && nw a2 4787326403894837248
def rth (a1 a2 : Nat) : Bool := aw a1 4787326403894837248 && aw a2 4787326403894837248
def ask1 (nx ny pf a1 a2 : Nat) : Int := bif chk nx ny pf then (bif wth a1 a2 then 0 else 5) else 90
def ask2 (nx ny pf a1 a2 b1 b2 : Nat) : Int := bif chk nx ny pf then (bif wth a1 a2 then (bif wth b1 b2 then 0 else 5) else 5) else 90
def r1 (x y : MV) : Nat → List MV := fun _ => [x, y]
def r2 (x y z t : MV) : Nat → List MV := fun i => match i with | 0 => [x, y] | _ => [z, t]
theorem leR_two {get : Nat → List MV} {a b : MV} {l : List MV} (h0 : get 0 = a :: b :: l) : leR (.ro 2 1 get) (.ro 2 1 (r1 a b)) := by
  refine ⟨rfl, rfl, fun i hi j hj => ?_⟩
  have : i = 0 := by omega
  subst this
  rw [h0]
  have : j = 0 ∨ j = 1 := by omega
  rcases this with rfl | rfl <;> rfl
theorem leR_four {get : Nat → List MV} {a b c d : MV} {l m : List MV} (h0 : get 0 = a :: b :: l) (g0 : get 1 = c :: d :: m) : leR (.ro 2 2 get) (.ro 2 2 (r2 a b c d)) := by
  refine ⟨rfl, rfl, fun i hi j hj => ?_⟩
  have : i = 0 ∨ i = 1 := by omega
  have hj : j = 0 ∨ j = 1 := by omega
  rcases this with rfl | rfl
  · rw [h0]; rcases hj with rfl | rfl <;> rfl
  · rw [g0]; rcases hj with rfl | rfl <;> rfl
def i2 (x y : Int) : Nat → List MV := fun i => match i with | 0 => [.i .i64 x] | _ => [.i .i64 y]
def i3 (x y z : Int) : Nat → List MV := fun i => match i with | 0 => [.i .i64 x] | 1 => [.i .i64 y] | _ => [.i .i64 z]
theorem leR_i2 {get : Nat → List MV} {x y : Int} {l m : List MV} (h0 : get 0 = .i .i64 x :: l) (h1 : get 1 = .i .i64 y :: m) : leR (.ro 1 2 get) (.ro 1 2 (i2 x y)) := by
  refine ⟨rfl, rfl, fun i hi j hj => ?_⟩
  have : i = 0 ∨ i = 1 := by omega
  have hj : j = 0 := by omega
  subst hj
  rcases this with rfl | rfl
  · rw [h0]; rfl
  · rw [h1]; rfl
theorem leR_i3 {get : Nat → List MV} {x y z : Int} {l m n : List MV} (h0 : get 0 = .i .i64 x :: l) (h1 : get 1 = .i .i64 y :: m) (h2 : get 2 = .i .i64 z :: n) : leR (.ro 1 3 get) (.ro 1 3 (i3 x y z)) := by
  refine ⟨rfl, rfl, fun i hi j hj => ?_⟩
  have : i = 0 ∨ i = 1 ∨ i = 2 := by omega
  have hj : j = 0 := by omega
  subst hj
  rcases this with rfl | rfl | rfl
  · rw [h0]; rfl
  · rw [h1]; rfl
  · rw [h2]; rfl
noncomputable def fi28 : FnI := ⟨23, Try.f28.body.getD .skip, [.tmp 4], true⟩
theorem fi28_ok : fnGen Try.prog 28 = some fi28 := by kernel_rfl
theorem t28a (nx ny pf : Nat) (a1 a2 : Nat) : CM Try.prog 28 [.agg [.f .f64 nx, .f .f64 ny, .f .f64 pf], .ro 2 1 (r1 (.f .f64 a1) (.f .f64 a2))] (.i .i64 (ask1 nx ny pf a1 a2)) [] true := by
  refine CM.of_genQ (exts := exts) (eqs := eqs) (inl := []) (sum := S34) extsOK eqsOK S34_ok fi28_ok 6 rfl fun cx => ?_
  repeat' ((fail_if_success (with_reducible refine Side.mk ?_)); first | (refine RestL.loop (E := genQ Try.prog exts eqs [] S34) ?_) | (refine RestL.step (E := genQ Try.prog exts eqs [] S34) (genQ_full extsOK eqsOK S34_ok) 6 ?_) | ((fail_if_success (with_reducible refine RestL.mk ?_)); (fail_if_success (with_reducible refine Rest.mk ?_)); first | (with_reducible exact True.intro) | (with_reducible refine Need.mk ?_ ?_) | (with_reducible refine And.intro ?_ ?_) | (with_reducible intro hcl; try (exfalso; exact absurd hcl (by decide); done)) | ((fail_if_success (with_reducible refine FinS.mk ?_)); (conv => whnf)) | (refine FinS.b ?_) | (refine FinS.lb ?_) | (refine FinS.i ?_) | (refine FinS.f ?_) | (refine FinS.agg ?_) | (refine FinS.tup ?_)))
  all_goals (refine Side.mk ?_; first | decide | (exact ⟨by decide, by decide⟩) | (unfold ask1 wth; generalize chk nx ny pf = hc at *; generalize (nw a1 4787326403894837248 && nw a2 4787326403894837248) = hA at *; cases hc <;> cases hA <;> first | rfl | contradiction | simp_all))
theorem t28b (nx ny pf : Nat) (a1 a2 : Nat) (b1 b2 : Nat) : CM Try.prog 28 [.agg [.f .f64 nx, .f .f64 ny, .f .f64 pf], .ro 2 2 (r2 (.f .f64 a1) (.f .f64 a2) (.f .f64 b1) (.f .f64 b2))] (.i .i64 (ask2 nx ny pf a1 a2 b1 b2)) [] true := by
  refine CM.of_genQ (exts := exts) (eqs := eqs) (inl := []) (sum := S34) extsOK eqsOK S34_ok fi28_ok 6 rfl fun cx => ?_
  repeat' ((fail_if_success (with_reducible refine Side.mk ?_)); first | (refine RestL.loop (E := genQ Try.prog exts eqs [] S34) ?_) | (refine RestL.step (E := genQ Try.prog exts eqs [] S34) (genQ_full extsOK eqsOK S34_ok) 6 ?_) | ((fail_if_success (with_reducible refine RestL.mk ?_)); (fail_if_success (with_reducible refine Rest.mk ?_)); first | (with_reducible exact True.intro) | (with_reducible refine Need.mk ?_ ?_) | (with_reducible refine And.intro ?_ ?_) | (with_reducible intro hcl; try (exfalso; exact absurd hcl (by decide); done)) | ((fail_if_success (with_reducible refine FinS.mk ?_)); (conv => whnf)) | (refine FinS.b ?_) | (refine FinS.lb ?_) | (refine FinS.i ?_) | (refine FinS.f ?_) | (refine FinS.agg ?_) | (refine FinS.tup ?_)))
  all_goals (refine Side.mk ?_; first | decide | (exact ⟨by decide, by decide⟩) | (unfold ask2 wth; generalize chk nx ny pf = hc at *; generalize (nw a1 4787326403894837248 && nw a2 4787326403894837248) = hA at *; generalize (nw b1 4787326403894837248 && nw b2 4787326403894837248) = hB at *; cases hc <;> cases hA <;> cases hB <;> first | rfl | contradiction | simp_all))
def g28 : List MV → Option (List Prop × MV × List Blk × Bool)
  | [.agg [.f .f64 nx, .f .f64 ny, .f .f64 pf], .ro 2 1 get] => match get 0 with
    | .f .f64 a1 :: .f .f64 a2 :: l => some ([], .i .i64 (ask1 nx ny pf a1 a2), [], false)
    | _ => none
  | [.agg [.f .f64 nx, .f .f64 ny, .f .f64 pf], .ro 2 2 get] => match get 0 with
    | .f .f64 a1 :: .f .f64 a2 :: l => match get 1 with
      | .f .f64 b1 :: .f .f64 b2 :: m => some ([], .i .i64 (ask2 nx ny pf a1 a2 b1 b2), [], false)
      | _ => none
    | _ => none
  | _ => none
theorem s28 : SumsOK Try.prog (sumOf 28 g28 S34) := by
  refine SumsOK.add S34_ok fun ms ps m blks al e hp => ?_
  unfold g28 at e
  split at e
  · split at e
    · rename_i h0
      cases e; exact ((t28a _ _ _ _ _).aloneT rfl).le2 rfl (leR_two h0)
    · cases e
  · split at e
    · rename_i h0
      split at e
      · rename_i h1
        cases e; exact ((t28b _ _ _ _ _ _ _).aloneT rfl).le2 rfl (leR_four h0 h1)
      · cases e
    · cases e
  · cases e
def S28 := sumOf 28 g28 S34
theorem S28_ok : SumsOK Try.prog S28 := s28
def fst2 (x y : Int) : Int := bif x != 0 then x else bif y != 0 then y else 0
def fst3 (x y z : Int) : Int := bif x != 0 then x else bif y != 0 then y else bif z != 0 then z else 0
noncomputable def fi30 : FnI := ⟨19, Try.f30.body.getD .skip, [.tmp 2], true⟩
theorem fi30_ok : fnGen Try.prog 30 = some fi30 := by kernel_rfl
theorem t30a (x y : Int) : CM Try.prog 30 [.ro 1 2 (i2 x y)] (.i .i64 (fst2 x y)) [] true := by
  refine CM.of_genQ (exts := exts) (eqs := eqs) (inl := []) (sum := S28) extsOK eqsOK S28_ok fi30_ok 6 rfl fun cx => ?_
  repeat' ((fail_if_success (with_reducible refine Side.mk ?_)); first | (refine RestL.loop (E := genQ Try.prog exts eqs [] S28) ?_) | (refine RestL.step (E := genQ Try.prog exts eqs [] S28) (genQ_full extsOK eqsOK S28_ok) 6 ?_) | ((fail_if_success (with_reducible refine RestL.mk ?_)); (fail_if_success (with_reducible refine Rest.mk ?_)); first | (with_reducible exact True.intro) | (with_reducible refine Need.mk ?_ ?_) | (with_reducible refine And.intro ?_ ?_) | (with_reducible intro hcl; try (exfalso; exact absurd hcl (by decide); done)) | ((fail_if_success (with_reducible refine FinS.mk ?_)); (conv => whnf)) | (refine FinS.b ?_) | (refine FinS.lb ?_) | (refine FinS.i ?_) | (refine FinS.f ?_) | (refine FinS.agg ?_) | (refine FinS.tup ?_)))
  all_goals (refine Side.mk ?_; first | decide | (exact ⟨by decide, by decide⟩) | (unfold fst2; generalize (x != 0) = X at *; generalize (y != 0) = Y at *; cases X <;> cases Y <;> first | rfl | contradiction | simp_all))
theorem t30b (x y z : Int) : CM Try.prog 30 [.ro 1 3 (i3 x y z)] (.i .i64 (fst3 x y z)) [] true := by
  refine CM.of_genQ (exts := exts) (eqs := eqs) (inl := []) (sum := S28) extsOK eqsOK S28_ok fi30_ok 6 rfl fun cx => ?_
  repeat' ((fail_if_success (with_reducible refine Side.mk ?_)); first | (refine RestL.loop (E := genQ Try.prog exts eqs [] S28) ?_) | (refine RestL.step (E := genQ Try.prog exts eqs [] S28) (genQ_full extsOK eqsOK S28_ok) 6 ?_) | ((fail_if_success (with_reducible refine RestL.mk ?_)); (fail_if_success (with_reducible refine Rest.mk ?_)); first | (with_reducible exact True.intro) | (with_reducible refine Need.mk ?_ ?_) | (with_reducible refine And.intro ?_ ?_) | (with_reducible intro hcl; try (exfalso; exact absurd hcl (by decide); done)) | ((fail_if_success (with_reducible refine FinS.mk ?_)); (conv => whnf)) | (refine FinS.b ?_) | (refine FinS.lb ?_) | (refine FinS.i ?_) | (refine FinS.f ?_) | (refine FinS.agg ?_) | (refine FinS.tup ?_)))
  all_goals (refine Side.mk ?_; first | decide | (exact ⟨by decide, by decide⟩) | (unfold fst3; generalize (x != 0) = X at *; generalize (y != 0) = Y at *; generalize (z != 0) = Z at *; cases X <;> cases Y <;> cases Z <;> first | rfl | contradiction | simp_all))
def g30 : List MV → Option (List Prop × MV × List Blk × Bool)
  | [.ro 1 2 get] => match get 0 with
    | .i .i64 x :: l => match get 1 with
      | .i .i64 y :: m => some ([], .i .i64 (fst2 x y), [], false)
      | _ => none
    | _ => none
  | [.ro 1 3 get] => match get 0 with
    | .i .i64 x :: l => match get 1 with
      | .i .i64 y :: m => match get 2 with
        | .i .i64 z :: n => some ([], .i .i64 (fst3 x y z), [], false)
        | _ => none
      | _ => none
    | _ => none
  | _ => none
theorem s30 : SumsOK Try.prog (sumOf 30 g30 S28) := by
  refine SumsOK.add S28_ok fun ms ps m blks al e hp => ?_
  unfold g30 at e
  split at e
  · split at e
    · rename_i h0
      split at e
      · rename_i h1
        cases e; exact ((t30a _ _).aloneT rfl).le1 (leR_i2 h0 h1)
      · cases e
    · cases e
  · split at e
    · rename_i h0
      split at e
      · rename_i h1
        split at e
        · rename_i h2
          cases e; exact ((t30b _ _ _).aloneT rfl).le1 (leR_i3 h0 h1 h2)
        · cases e
      · cases e
    · cases e
  · cases e
def S30 := sumOf 30 g30 S28
theorem S30_ok : SumsOK Try.prog S30 := s30
def bitI (x : Nat) : Int := bif feq .f64 x x then (x : Int) else 9221120237041090561
def isI (x y : Nat) : Bool := bitI x == bitI y
theorem none_feq (k : FloatKind) (x : Nat) : (!feq k x x) = isNan k x := by
  rw [feq_eq]; cases isNan k x <;> simp
def sameI (a1 a2 b1 b2 : Nat) : Bool := isI a1 b1 && isI a2 b2
noncomputable def fi42 : FnI := ⟨8, Try.f42.body.getD .skip, [.tmp 2], true⟩
theorem fi42_ok : fnGen Try.prog 42 = some fi42 := by kernel_rfl
theorem t42 (x : Nat) : CM Try.prog 42 [.f .f64 x] (.i .u64 (bitI x)) [] true := by
  refine CM.of_genQ (exts := exts) (eqs := eqs) (inl := []) (sum := S30) extsOK eqsOK S30_ok fi42_ok 6 rfl fun cx => ?_
  repeat' ((fail_if_success (with_reducible refine Side.mk ?_)); first | ((fail_if_success (with_reducible refine Rest.mk ?_)); first | (with_reducible exact True.intro) | (with_reducible refine Need.mk ?_ ?_) | (with_reducible refine And.intro ?_ ?_) | (with_reducible intro _) | ((fail_if_success (with_reducible refine FinS.mk ?_)); (conv => whnf)) | (refine FinS.b ?_) | (refine FinS.lb ?_) | (refine FinS.i ?_) | (refine FinS.f ?_) | (refine FinS.agg ?_) | (refine FinS.tup ?_)))
  · rename_i h; refine Side.mk ?_; unfold bitI; revert h; generalize feq .f64 x x = c; cases c <;> simp
  · rename_i h r hr; refine Side.mk ?_
    have hn : isNan .f64 x = false := by rw [← none_feq]; exact h
    rw [hr.raw hn]; unfold bitI; revert h; generalize feq .f64 x x = c; cases c <;> simp
def g42 : List MV → Option (List Prop × MV × List Blk × Bool)
  | [.f .f64 x] => some ([], .i .u64 (bitI x), [], false)
  | _ => none
theorem s42 : SumsOK Try.prog (sumOf 42 g42 S30) := by
  refine SumsOK.add S30_ok fun ms ps m blks al e hp => ?_
  unfold g42 at e
  split at e
  · cases e; exact (t42 _).aloneT rfl
  · cases e
def S42 := sumOf 42 g42 S30
theorem S42_ok : SumsOK Try.prog S42 := s42
noncomputable def fi16 : FnI := ⟨10, Try.f16.body.getD .skip, [.tmp 4], true⟩
theorem fi16_ok : fnGen Try.prog 16 = some fi16 := by kernel_rfl
theorem t16 (x y : Nat) : CM Try.prog 16 [.f .f64 x, .f .f64 y] (.b (isI x y)) [] true := by
  refine CM.of_genQ (exts := exts) (eqs := eqs) (inl := []) (sum := S42) extsOK eqsOK S42_ok fi16_ok 6 rfl fun cx => ?_
  repeat' ((fail_if_success (with_reducible refine Side.mk ?_)); first | ((fail_if_success (with_reducible refine Rest.mk ?_)); first | (with_reducible exact True.intro) | (with_reducible refine Need.mk ?_ ?_) | (with_reducible refine And.intro ?_ ?_) | (with_reducible intro _) | ((fail_if_success (with_reducible refine FinS.mk ?_)); (conv => whnf)) | (refine FinS.b ?_) | (refine FinS.lb ?_) | (refine FinS.i ?_) | (refine FinS.f ?_) | (refine FinS.agg ?_) | (refine FinS.tup ?_)))
  all_goals first | exact ⟨rfl⟩ | (refine Side.mk ⟨rfl, ?_⟩; first | exact ⟨rfl⟩ | rfl) | skip
def g16 : List MV → Option (List Prop × MV × List Blk × Bool)
  | [.f .f64 x, .f .f64 y] => some ([], .b (isI x y), [], false)
  | _ => none
theorem s16 : SumsOK Try.prog (sumOf 16 g16 S42) := by
  refine SumsOK.add S42_ok fun ms ps m blks al e hp => ?_
  unfold g16 at e
  split at e
  · cases e; exact (t16 _ _).aloneT rfl
  · cases e
def S16 := sumOf 16 g16 S42
theorem S16_ok : SumsOK Try.prog S16 := s16
noncomputable def fi36 : FnI := ⟨17, Try.f36.body.getD .skip, [.tmp 4], true⟩
theorem fi36_ok : fnGen Try.prog 36 = some fi36 := by kernel_rfl
theorem t36 (a1 a2 : Nat) (b1 b2 : Nat) : CM Try.prog 36 [.agg [.f .f64 a1, .f .f64 a2], .agg [.f .f64 b1, .f .f64 b2]] (.b (sameI a1 a2 b1 b2)) [] true := by
  refine CM.of_genQ (exts := exts) (eqs := eqs) (inl := []) (sum := S16) extsOK eqsOK S16_ok fi36_ok 6 rfl fun cx => ?_
  repeat' ((fail_if_success (with_reducible refine Side.mk ?_)); first | ((fail_if_success (with_reducible refine Rest.mk ?_)); first | (with_reducible exact True.intro) | (with_reducible refine Need.mk ?_ ?_) | (with_reducible refine And.intro ?_ ?_) | (with_reducible intro _) | ((fail_if_success (with_reducible refine FinS.mk ?_)); (conv => whnf)) | (refine FinS.b ?_) | (refine FinS.lb ?_) | (refine FinS.i ?_) | (refine FinS.f ?_) | (refine FinS.agg ?_) | (refine FinS.tup ?_)))
  all_goals first | exact ⟨rfl⟩ | (refine Side.mk ⟨rfl, ?_⟩; first | exact ⟨rfl⟩ | rfl) | skip
def g36 : List MV → Option (List Prop × MV × List Blk × Bool)
  | [.agg [.f .f64 a1, .f .f64 a2], .agg [.f .f64 b1, .f .f64 b2]] => some ([], .b (sameI a1 a2 b1 b2), [], false)
  | _ => none
theorem s36 : SumsOK Try.prog (sumOf 36 g36 S16) := by
  refine SumsOK.add S16_ok fun ms ps m blks al e hp => ?_
  unfold g36 at e
  split at e
  · cases e; exact (t36 _ _ _ _).aloneT rfl
  · cases e
def S36 := sumOf 36 g36 S16
theorem S36_ok : SumsOK Try.prog S36 := s36
noncomputable def fi12 : FnI := ⟨27, Try.f12.body.getD .skip, [.tmp 4], true⟩
theorem fi12_ok : fnGen Try.prog 12 = some fi12 := by kernel_rfl
theorem zHS36_T {cx : Cx} : CallH (genQ Try.prog exts eqs [] S36).P cx (hnd (genQ Try.prog exts eqs [] S36) cx 6) := hnd_sound (genQ_full extsOK eqsOK S36_ok) 6
theorem zES36_T : EnvAll (genQ Try.prog exts eqs [] S36) := (genQ_full extsOK eqsOK S36_ok).toEnvAll
theorem t12a  : CM Try.prog 12 [.nils, .nils] (.b true) [] true := by
  refine CM.of_genQ (exts := exts) (eqs := eqs) (inl := []) (sum := S36) extsOK eqsOK S36_ok fi12_ok 6 rfl fun cx => ?_
  repeat' ((fail_if_success (with_reducible refine Side.mk ?_)); first | (refine Rest.mk (drawR_sound zES36_T mixOK zHS36_T ?_)) | (refine RestL.loop (E := genQ Try.prog exts eqs [] S36) ?_) | (refine RestL.step (E := genQ Try.prog exts eqs [] S36) (genQ_full extsOK eqsOK S36_ok) 6 ?_) | ((fail_if_success (with_reducible refine RestL.mk ?_)); (fail_if_success (with_reducible refine Rest.mk ?_)); first | (with_reducible exact True.intro) | (with_reducible refine Need.mk ?_ ?_) | (with_reducible refine And.intro ?_ ?_) | (with_reducible intro hcl; try (exfalso; exact absurd hcl (by decide); done)) | ((fail_if_success (with_reducible refine FinS.mk ?_)); (conv => whnf)) | (refine FinS.b ?_) | (refine FinS.lb ?_) | (refine FinS.i ?_) | (refine FinS.f ?_) | (refine FinS.agg ?_) | (refine FinS.tup ?_)))
  all_goals first | exact ⟨rfl⟩ | (refine Side.mk ⟨rfl, ?_⟩; first | exact ⟨rfl⟩ | rfl) | skip
theorem t12b (a1 a2 : Nat) (b1 b2 : Nat) (c1 c2 d1 d2 : Nat) : CM Try.prog 12 [.ro 2 2 (r2 (.f .f64 a1) (.f .f64 a2) (.f .f64 b1) (.f .f64 b2)), .ro 2 2 (r2 (.f .f64 c1) (.f .f64 c2) (.f .f64 d1) (.f .f64 d2))] (.b (sameI a1 a2 c1 c2 && sameI b1 b2 d1 d2)) [] true := by
  refine CM.of_genQ (exts := exts) (eqs := eqs) (inl := []) (sum := S36) extsOK eqsOK S36_ok fi12_ok 6 rfl fun cx => ?_
  repeat' ((fail_if_success (with_reducible refine Side.mk ?_)); first | (refine Rest.mk (drawR_sound zES36_T mixOK zHS36_T ?_)) | (refine RestL.loop (E := genQ Try.prog exts eqs [] S36) ?_) | (refine RestL.step (E := genQ Try.prog exts eqs [] S36) (genQ_full extsOK eqsOK S36_ok) 6 ?_) | ((fail_if_success (with_reducible refine RestL.mk ?_)); (fail_if_success (with_reducible refine Rest.mk ?_)); first | (with_reducible exact True.intro) | (with_reducible refine Need.mk ?_ ?_) | (with_reducible refine And.intro ?_ ?_) | (with_reducible intro hcl; try (exfalso; exact absurd hcl (by decide); done)) | ((fail_if_success (with_reducible refine FinS.mk ?_)); (conv => whnf)) | (refine FinS.b ?_) | (refine FinS.lb ?_) | (refine FinS.i ?_) | (refine FinS.f ?_) | (refine FinS.agg ?_) | (refine FinS.tup ?_)))
  all_goals (refine Side.mk ?_; first | decide | (exact ⟨by decide, by decide⟩) | (generalize sameI a1 a2 c1 c2 = X at *; generalize sameI b1 b2 d1 d2 = Y at *; cases X <;> cases Y <;> first | rfl | contradiction | simp_all))
def g12 : List MV → Option (List Prop × MV × List Blk × Bool)
  | [.nils, .nils] => some ([], .b true, [], false)
  | [.ro 2 2 get, .ro 2 2 get'] => match get 0 with
    | .f .f64 a1 :: .f .f64 a2 :: l => match get 1 with
      | .f .f64 b1 :: .f .f64 b2 :: m => match get' 0 with
        | .f .f64 c1 :: .f .f64 c2 :: l' => match get' 1 with
          | .f .f64 d1 :: .f .f64 d2 :: m' => some ([], .b (sameI a1 a2 c1 c2 && sameI b1 b2 d1 d2), [], false)
          | _ => none
        | _ => none
      | _ => none
    | _ => none
  | _ => none
theorem s12 : SumsOK Try.prog (sumOf 12 g12 S36) := by
  refine SumsOK.add S36_ok fun ms ps m blks al e hp => ?_
  unfold g12 at e
  split at e
  · cases e; exact t12a.aloneT rfl
  · split at e
    · rename_i h0
      split at e
      · rename_i h1
        split at e
        · rename_i h2
          split at e
          · rename_i h3
            cases e; exact ((t12b _ _ _ _ _ _ _ _).aloneT rfl).le2 (leR_four h0 h1) (leR_four h2 h3)
          · cases e
        · cases e
      · cases e
    · cases e
  · cases e
def S12 := sumOf 12 g12 S36
theorem S12_ok : SumsOK Try.prog S12 := s12
end Go.Ev.Clip
