/-
  The contract of left, the document's; for lists of at most 8700000000000 points.
-/
import Derived.Test.YtbehddngdjfkhaaClipKa
set_option linter.unusedSimpArgs false
set_option linter.unusedVariables false
open Go Go.Proofs
namespace Go.Ev.Clip
set_option maxRecDepth 100000
set_option maxHeartbeats 1000000
theorem le_arg2 {P : Program} {f : FuncId} {a b b' : MV} {r : List MV} {m : MV} {blks : List Blk} {al : Bool} (h : CM P f (a :: b' :: r) m blks al) (hb : leR b b') : CM P f (a :: b :: r) m blks al :=
  h.le fun w ok vs r => ⟨r.len, fun j hj => by
    cases j with
    | zero => exact r.rep 0 (by simp)
    | succ j => cases j with
      | zero => exact leR_rep hb (r.rep 1 (by simp))
      | succ j => exact r.rep (j + 2) hj⟩
noncomputable def g43 : List MV → Option (List Prop × MV × List Blk × Bool)
  | [.agg [.f .f64 a, .f .f64 b, .f .f64 c], .ro 2 n get] => some ([isPts n get, n ≤ lim43], .os 0 2 0 (leV (a, b, c) n (pOf get)).length, [.rows 2 (leV (a, b, c) n (pOf get)).length fun k => ptM ((leV (a, b, c) n (pOf get)).getD k z2)], false)
  | _ => none
theorem s43 : SumsOK Try.prog (sumOf 43 g43 S45) := by
  refine SumsOK.add S45_ok fun ms ps m blks al e hp => ?_
  unfold g43 at e
  split at e
  · rename_i a b c n get
    cases e
    exact (le_arg2 (t43 (a, b, c) n (pOf get) (hp _ (.tail _ (.head _)))) (leR_pts (hp _ (.head _)))).aloneR rfl fun _ _ _ hj => flat2 hj
  · cases e
noncomputable def S43 := sumOf 43 g43 S45
theorem S43_ok : SumsOK Try.prog S43 := s43
def rwA (pl : Pl) (L : List (Nat × Nat)) (a : Nat × Nat) : List (Nat × Nat) := bif fle .f64 (uF pl a) 0 then L ++ [a] else L
theorem rwA_t {pl : Pl} {L : List (Nat × Nat)} {a : Nat × Nat} (hu : fle .f64 (uF pl a) 0 = true) : rwA pl L a = L ++ [a] := by unfold rwA; rw [hu]; rfl
theorem rwA_f {pl : Pl} {L : List (Nat × Nat)} {a : Nat × Nat} (hu : fle .f64 (uF pl a) 0 = false) : rwA pl L a = L := by unfold rwA; rw [hu]; rfl
theorem rwA_len (pl : Pl) (L : List (Nat × Nat)) (a : Nat × Nat) : (rwA pl L a).length ≤ L.length + 1 := by
  unfold rwA; cases fle .f64 (uF pl a) 0 <;> simp
def rw1 (pl : Pl) (L : List (Nat × Nat)) (a b : Nat × Nat) : List (Nat × Nat) :=
  rwA pl L a ++ (bif fle .f64 (uF pl a) 0 != fle .f64 (uF pl b) 0 then [cutF a b (uF pl a) (uF pl b)] else [])
theorem rw1_t {pl : Pl} {L : List (Nat × Nat)} {a b : Nat × Nat} (hu : (fle .f64 (uF pl a) 0 != fle .f64 (uF pl b) 0) = true) : rw1 pl L a b = rwA pl L a ++ [cutF a b (uF pl a) (uF pl b)] := by unfold rw1; rw [hu]; rfl
theorem rw1_f {pl : Pl} {L : List (Nat × Nat)} {a b : Nat × Nat} (hu : (fle .f64 (uF pl a) 0 != fle .f64 (uF pl b) 0) = false) : rw1 pl L a b = rwA pl L a := by unfold rw1; rw [hu]; simp
def rwL (pl : Pl) (n : Nat) (p : Nat → Nat × Nat) : Nat → List (Nat × Nat)
  | 0 => []
  | i + 1 => rw1 pl (rwL pl n p i) (p i) (p (nxt n i))
theorem rw_len (pl : Pl) (n : Nat) (p : Nat → Nat × Nat) : ∀ i, i ≤ n → 2 * (rwL pl n p i).length ≤ 3 * i + (bif fle .f64 (uF pl (p (i % n))) 0 then 0 else 1)
  | 0, _ => by simp [rwL]
  | i + 1, h => by
    have ih := rw_len pl n p i (by omega)
    rw [Nat.mod_eq_of_lt (show i < n by omega)] at ih
    show 2 * (rw1 pl (rwL pl n p i) (p i) (p (nxt n i))).length ≤ 3 * (i + 1) + (bif fle .f64 (uF pl (p (nxt n i))) 0 then 0 else 1)
    unfold rw1 rwA
    cases hu : fle .f64 (uF pl (p i)) 0 <;> cases hw : fle .f64 (uF pl (p (nxt n i))) 0 <;> rw [hu] at ih <;> simp at ih ⊢ <;> omega
theorem rw_le (pl : Pl) (n : Nat) (p : Nat → Nat × Nat) {i : Nat} (hi : i ≤ n) : 2 * (rwL pl n p i).length ≤ 3 * i + 1 := by
  have := rw_len pl n p i hi
  cases h : fle .f64 (uF pl (p (i % n))) 0 <;> rw [h] at this <;> simp only [cond_true, cond_false] at this <;> omega
def nb (R : List (Nat × Nat)) (k : Nat) : Bool := decide ((0 : Int) < (k : Int)) && eqP (R.getD k z2) (R.getD (k - 1) z2)
def ddL (R : List (Nat × Nat)) : Nat → List (Nat × Nat)
  | 0 => []
  | k + 1 => bif nb R k then ddL R k else ddL R k ++ [R.getD k z2]
theorem dd_len (R : List (Nat × Nat)) : ∀ k, (ddL R k).length ≤ k
  | 0 => by simp [ddL]
  | k + 1 => by
    have := dd_len R k
    show (bif nb R k then ddL R k else ddL R k ++ [R.getD k z2]).length ≤ k + 1
    cases nb R k <;> simp <;> omega
def rleV (pl : Pl) (n : Nat) (p : Nat → Nat × Nat) : List (Nat × Nat) := endL (ddL (rwL pl n p n) (rwL pl n p n).length)
theorem dd_t {R : List (Nat × Nat)} {k : Nat} (h : nb R k = true) : ddL R (k + 1) = ddL R k := by show (bif nb R k then _ else _) = _; rw [h]; rfl
theorem dd_f {R : List (Nat × Nat)} {k : Nat} (h : nb R k = false) : ddL R (k + 1) = ddL R k ++ [R.getD k z2] := by show (bif nb R k then _ else _) = _; rw [h]; rfl
noncomputable def fi46 : FnI := ⟨101, Try.f46.body.getD .skip, [.tmp 4], true⟩
theorem fi46_ok : fnGen Try.prog 46 = some fi46 := by kernel_rfl
theorem zHS43_K2 {cx : Cx} : CallH (genQ Try.prog exts eqs [] S43).P cx (hnd (genQ Try.prog exts eqs [] S43) cx 6) := hnd_sound (genQ_full extsOK eqsOK S43_ok) 6
theorem zES43_K2 : EnvAll (genQ Try.prog exts eqs [] S43) := (genQ_full extsOK eqsOK S43_ok).toEnvAll
theorem t46 (pl : Pl) (n : Nat) (p : Nat → Nat × Nat) (c0 : n ≤ lim43) : CM Try.prog 46 [.agg (plM pl), .ro 2 n (fun j => ptM (p j))] (.os 0 2 0 (rleV pl n p).length) [.rows 2 (rleV pl n p).length fun k => ptM ((rleV pl n p).getD k z2)] true := by
  refine CM.of_genQ (exts := exts) (eqs := eqs) (inl := []) (sum := S43) extsOK eqsOK S43_ok fi46_ok 6 rfl fun cx => ?_
  have k0 : n ≤ 8700000000000 := c0
  repeat' ((fail_if_success (with_reducible refine Side.mk ?_)); first | (refine Rest.mk (drawR_sound zES43_K2 mixOK zHS43_K2 ?_)) | ((fail_if_success (with_reducible refine Rest.mk ?_)); first | (with_reducible exact True.intro) | (with_reducible refine Need.mk ?_ ?_) | (with_reducible refine And.intro ?_ ?_) | (with_reducible intro _) | ((fail_if_success (with_reducible refine FinS.mk ?_)); (fail_if_success (with_reducible refine Le.mk ?_)); (conv => whnf)) | (refine FinS.b ?_) | (refine FinS.lb ?_) | (refine FinS.i ?_) | (refine FinS.f ?_) | (refine FinS.agg ?_) | (refine FinS.tup ?_)))
  refine loop_ruleK (P := Try.prog) (fun i => ⟨[(1, .ro 2 n (fun j => ptM (p j))), (2, .p 0 0), (4, .nils), (5, .os 1 2 0 (rwL pl n p i).length), (6, .i .i64 (i : Int))], [], [(0, .cells (plM pl)), (1, .rows 2 (rwL pl n p i).length fun q => ptM ((rwL pl n p i).getD q z2))], 2⟩) (fun _ => True) n (Le.phan 2 (Le.of ?_)) trivial ?_
  · conv => whnf
    repeat' ((fail_if_success (with_reducible refine Side.mk ?_)); first | (refine Rest.mk (drawR_sound zES43_K2 mixOK zHS43_K2 ?_)) | ((fail_if_success (with_reducible refine Rest.mk ?_)); first | (with_reducible exact True.intro) | (with_reducible refine Need.mk ?_ ?_) | (with_reducible refine And.intro ?_ ?_) | (with_reducible intro _) | ((fail_if_success (with_reducible refine FinS.mk ?_)); (fail_if_success (with_reducible refine Le.mk ?_)); (conv => whnf)) | (refine FinS.b ?_) | (refine FinS.lb ?_) | (refine FinS.i ?_) | (refine FinS.f ?_) | (refine FinS.agg ?_) | (refine FinS.tup ?_)))
    all_goals (try refine Side.mk ?_)
    all_goals (try simp only [pOf_pt, eq_self, decide_eq_true_eq, decide_eq_false_iff_not, Int.ofNat_lt, Int.ofNat_le, gt_iff_lt, ge_iff_le, true_and, Bool.not_eq_true', Bool.not_eq_false'] at *)
    all_goals first | (with_reducible rfl) | trivial | omega | rfl | exact fun _ _ => trivial | exact ⟨rfl, rfl⟩ | exact ⟨rfl, fun _ _ => rfl⟩ | exact ⟨rfl, rfl, fun _ _ => rfl⟩ | exact ⟨by omega, trivial⟩ | exact i64_id (by omega) (by omega) | (exact ⟨rfl, fun k hk j hj => absurd hk (Nat.not_lt_zero _)⟩) | (exact ⟨rfl, rfl, fun k hk j hj => absurd hk (Nat.not_lt_zero _)⟩)
  · intro i hi _
    have hl : 2 * (rwL pl n p i).length ≤ 3 * i + 1 := rw_le pl n p hi
    refine CodeOK.seq (evC_sound zES43_K2 zHS43_K2 ?_)
    repeat' ((fail_if_success (with_reducible refine Side.mk ?_)); first | (refine Rest.mk (drawR_sound zES43_K2 mixOK zHS43_K2 ?_)) | ((fail_if_success (with_reducible refine Rest.mk ?_)); first | (with_reducible exact True.intro) | (with_reducible refine Need.mk ?_ ?_) | (with_reducible refine And.intro ?_ ?_) | (with_reducible intro _) | ((fail_if_success (with_reducible refine FinS.mk ?_)); (fail_if_success (with_reducible refine Le.mk ?_)); (conv => whnf)) | (refine FinS.b ?_) | (refine FinS.lb ?_) | (refine FinS.i ?_) | (refine FinS.f ?_) | (refine FinS.agg ?_) | (refine FinS.tup ?_)))
    · rename_i hin
      have hin : i < n := by simp at hin; omega
      have hbig : n < big := by unfold big; omega
      have hx := nxt1 hin hbig
      have hxl := nxt_lt hin
      have hl1 := rwA_len pl (rwL pl n p i) (p i)
      refine ⟨CodeOK.seq (CodeOK.block ?_)⟩
      refine CodeOK.cut zES43_K2 zHS43_K2 2 (T := ⟨[(1, .ro 2 n (fun j => ptM (p j))), (2, .p 0 0), (4, .nils), (5, .os 1 2 0 (rwL pl n p i).length), (6, .i .i64 (i : Int)), (7, .p 2 0), (8, .p 3 0)], [], [(0, .cells (plM pl)), (1, .rows 2 (rwL pl n p i).length fun q => ptM ((rwL pl n p i).getD q z2)), (2, .cells (ptM (p i))), (3, .cells (ptM (p (nxt n i))))], 4⟩) rfl ?_ ?_
      · conv => whnf
        repeat' ((fail_if_success (with_reducible refine Side.mk ?_)); first | (refine Rest.mk (drawR_sound zES43_K2 mixOK zHS43_K2 ?_)) | ((fail_if_success (with_reducible refine Rest.mk ?_)); first | (with_reducible exact True.intro) | (with_reducible refine Need.mk ?_ ?_) | (with_reducible refine And.intro ?_ ?_) | (with_reducible intro _) | ((fail_if_success (with_reducible refine FinS.mk ?_)); (fail_if_success (with_reducible refine Le.mk ?_)); (conv => whnf)) | (refine FinS.b ?_) | (refine FinS.lb ?_) | (refine FinS.i ?_) | (refine FinS.f ?_) | (refine FinS.agg ?_) | (refine FinS.tup ?_)))
        all_goals (try (refine Le.of ?_; (conv => whnf)))
        repeat' ((fail_if_success (with_reducible refine Side.mk ?_)); first | (refine Rest.mk (drawR_sound zES43_K2 mixOK zHS43_K2 ?_)) | ((fail_if_success (with_reducible refine Rest.mk ?_)); first | (with_reducible exact True.intro) | (with_reducible refine Need.mk ?_ ?_) | (with_reducible refine And.intro ?_ ?_) | (with_reducible intro _) | ((fail_if_success (with_reducible refine FinS.mk ?_)); (fail_if_success (with_reducible refine Le.mk ?_)); (conv => whnf)) | (refine FinS.b ?_) | (refine FinS.lb ?_) | (refine FinS.i ?_) | (refine FinS.f ?_) | (refine FinS.agg ?_) | (refine FinS.tup ?_)))
        all_goals (try refine Side.mk ?_)
        all_goals (try simp only [hx, Int.toNat_natCast] at *)
        all_goals (try simp only [pOf_pt, eq_self, decide_eq_true_eq, decide_eq_false_iff_not, Int.ofNat_lt, Int.ofNat_le, gt_iff_lt, ge_iff_le, true_and, Bool.not_eq_true', Bool.not_eq_false'] at *)
        all_goals first | (with_reducible rfl) | trivial | omega | rfl | exact fun _ _ => trivial | exact ⟨rfl, rfl⟩ | exact ⟨rfl, fun _ _ => rfl⟩ | exact ⟨rfl, rfl, fun _ _ => rfl⟩ | exact ⟨by omega, trivial⟩ | exact i64_id (by omega) (by omega) | (exact fun k hk j hj => .inr trivial) | (exact fun k hk j hj => .inr rfl) | (exact ⟨rfl, fun k hk j hj => .inr rfl⟩)
      refine CodeOK.cut zES43_K2 zHS43_K2 1 (T := ⟨[(1, .ro 2 n (fun j => ptM (p j))), (2, .p 0 0), (4, .nils), (5, .os 1 2 0 (rwA pl (rwL pl n p i) (p i)).length), (6, .i .i64 (i : Int)), (7, .p 2 0), (8, .p 3 0)], [], [(0, .cells (plM pl)), (1, .rows 2 (rwA pl (rwL pl n p i) (p i)).length fun q => ptM ((rwA pl (rwL pl n p i) (p i)).getD q z2)), (2, .cells (ptM (p i))), (3, .cells (ptM (p (nxt n i))))], 4⟩) rfl ?_ ?_
      · conv => whnf
        repeat' ((fail_if_success (with_reducible refine Side.mk ?_)); first | (refine Rest.mk (drawR_sound zES43_K2 mixOK zHS43_K2 ?_)) | ((fail_if_success (with_reducible refine Rest.mk ?_)); first | (with_reducible exact True.intro) | (with_reducible refine Need.mk ?_ ?_) | (with_reducible refine And.intro ?_ ?_) | (with_reducible intro _) | ((fail_if_success (with_reducible refine FinS.mk ?_)); (fail_if_success (with_reducible refine Le.mk ?_)); (conv => whnf)) | (refine FinS.b ?_) | (refine FinS.lb ?_) | (refine FinS.i ?_) | (refine FinS.f ?_) | (refine FinS.agg ?_) | (refine FinS.tup ?_)))
        all_goals (try (refine Le.of ?_; (conv => whnf)))
        repeat' ((fail_if_success (with_reducible refine Side.mk ?_)); first | (refine Rest.mk (drawR_sound zES43_K2 mixOK zHS43_K2 ?_)) | ((fail_if_success (with_reducible refine Rest.mk ?_)); first | (with_reducible exact True.intro) | (with_reducible refine Need.mk ?_ ?_) | (with_reducible refine And.intro ?_ ?_) | (with_reducible intro _) | ((fail_if_success (with_reducible refine FinS.mk ?_)); (fail_if_success (with_reducible refine Le.mk ?_)); (conv => whnf)) | (refine FinS.b ?_) | (refine FinS.lb ?_) | (refine FinS.i ?_) | (refine FinS.f ?_) | (refine FinS.agg ?_) | (refine FinS.tup ?_)))
        all_goals (try refine Side.mk ?_)
        all_goals (try simp only [pOf_pt, eq_self, decide_eq_true_eq, decide_eq_false_iff_not, Int.ofNat_lt, Int.ofNat_le, gt_iff_lt, ge_iff_le, true_and, Bool.not_eq_true', Bool.not_eq_false'] at *)
        all_goals first | (with_reducible rfl) | trivial | omega | rfl | exact fun _ _ => trivial | exact ⟨rfl, rfl⟩ | exact ⟨rfl, fun _ _ => rfl⟩ | exact ⟨rfl, rfl, fun _ _ => rfl⟩ | exact ⟨by omega, trivial⟩ | exact i64_id (by omega) (by omega) | (exact ⟨by omega, by omega, by show ((rwL pl n p i).length + 1) * 16 ≤ _; omega, by omega⟩) | (rename_i hu; exact ⟨by rw [rwA_t hu]; simp, fun k hk j hj => .inr (by rw [rwA_t hu]; exact app1 rfl hk hj)⟩) | (rename_i hu; rw [rwA_t hu]; simp; done) | (rename_i hu; exact ⟨by rw [rwA_f hu], fun k hk j hj => .inr (by rw [rwA_f hu])⟩) | (rename_i hu; rw [rwA_f hu]; done)
      refine evC_sound zES43_K2 zHS43_K2 ?_
      repeat' ((fail_if_success (with_reducible refine Side.mk ?_)); first | (refine Rest.mk (drawR_sound zES43_K2 mixOK zHS43_K2 ?_)) | ((fail_if_success (with_reducible refine Rest.mk ?_)); first | (with_reducible exact True.intro) | (with_reducible refine Need.mk ?_ ?_) | (with_reducible refine And.intro ?_ ?_) | (with_reducible intro _) | ((fail_if_success (with_reducible refine FinS.mk ?_)); (fail_if_success (with_reducible refine Le.mk ?_)); (conv => whnf)) | (refine FinS.b ?_) | (refine FinS.lb ?_) | (refine FinS.i ?_) | (refine FinS.f ?_) | (refine FinS.agg ?_) | (refine FinS.tup ?_)))
      all_goals (try (refine ⟨evC_sound zES43_K2 zHS43_K2 ?_⟩))
      repeat' ((fail_if_success (with_reducible refine Side.mk ?_)); first | (refine Rest.mk (drawR_sound zES43_K2 mixOK zHS43_K2 ?_)) | ((fail_if_success (with_reducible refine Rest.mk ?_)); first | (with_reducible exact True.intro) | (with_reducible refine Need.mk ?_ ?_) | (with_reducible refine And.intro ?_ ?_) | (with_reducible intro _) | ((fail_if_success (with_reducible refine FinS.mk ?_)); (fail_if_success (with_reducible refine Le.mk ?_)); (conv => whnf)) | (refine FinS.b ?_) | (refine FinS.lb ?_) | (refine FinS.i ?_) | (refine FinS.f ?_) | (refine FinS.agg ?_) | (refine FinS.tup ?_)))
      all_goals (try (refine Le.of ?_; (conv => whnf)))
      repeat' ((fail_if_success (with_reducible refine Side.mk ?_)); first | (refine Rest.mk (drawR_sound zES43_K2 mixOK zHS43_K2 ?_)) | ((fail_if_success (with_reducible refine Rest.mk ?_)); first | (with_reducible exact True.intro) | (with_reducible refine Need.mk ?_ ?_) | (with_reducible refine And.intro ?_ ?_) | (with_reducible intro _) | ((fail_if_success (with_reducible refine FinS.mk ?_)); (fail_if_success (with_reducible refine Le.mk ?_)); (conv => whnf)) | (refine FinS.b ?_) | (refine FinS.lb ?_) | (refine FinS.i ?_) | (refine FinS.f ?_) | (refine FinS.agg ?_) | (refine FinS.tup ?_)))
      all_goals (try refine Side.mk ?_)
      all_goals (try simp only [pOf_pt, eq_self, decide_eq_true_eq, decide_eq_false_iff_not, Int.ofNat_lt, Int.ofNat_le, gt_iff_lt, ge_iff_le, true_and, Bool.not_eq_true', Bool.not_eq_false'] at *)
      all_goals first | (with_reducible rfl) | trivial | omega | rfl | exact fun _ _ => trivial | exact ⟨rfl, rfl⟩ | exact ⟨rfl, fun _ _ => rfl⟩ | exact ⟨rfl, rfl, fun _ _ => rfl⟩ | exact ⟨by omega, trivial⟩ | exact i64_id (by omega) (by omega) | (exact ⟨by omega, by omega, by show ((rwA pl (rwL pl n p i) (p i)).length + 1) * 16 ≤ _; omega, by omega⟩) | (rename_i hu; exact ⟨by show _ = (rw1 pl _ _ _).length; rw [rw1_t hu]; simp, fun k hk j hj => .inr (by show _ = getM (ptM ((rw1 pl _ _ _).getD _ z2)) _; rw [rw1_t hu]; exact app1 rfl hk hj)⟩) | (rename_i hu; show _ = (rw1 pl _ _ _).length; rw [rw1_t hu]; simp; done) | (rename_i hu; exact ⟨by show _ = (rw1 pl _ _ _).length; rw [rw1_f hu], fun k hk j hj => .inr (by show _ = getM (ptM ((rw1 pl _ _ _).getD _ z2)) _; rw [rw1_f hu])⟩) | (rename_i hu; show _ = (rw1 pl _ _ _).length; rw [rw1_f hu]; done)
    · rename_i hout
      have hn : n = i := by simp at hout; omega
      subst hn
      clear hout
      have hR : (rwL pl n p n).length < 4611686018427387904 := by omega
      refine loop_ruleC zES43_K2 zHS43_K2 (fun k => ⟨[(4, .nils), (5, .os 1 2 0 (rwL pl n p n).length), (9, .os 2 2 0 (ddL (rwL pl n p n) k).length), (10, .i .i64 (k : Int))], [], [(1, .rows 2 (rwL pl n p n).length fun q => ptM ((rwL pl n p n).getD q z2)), (2, .rows 2 (ddL (rwL pl n p n) k).length fun q => ptM ((ddL (rwL pl n p n) k).getD q z2))], 3⟩) (fun _ => True) ((rwL pl n p n).length) (Le.phan 2 (Le.of ?_)) ?_ ?_
      · conv => whnf
        repeat' ((fail_if_success (with_reducible refine Side.mk ?_)); first | (refine Rest.mk (drawR_sound zES43_K2 mixOK zHS43_K2 ?_)) | ((fail_if_success (with_reducible refine Rest.mk ?_)); first | (with_reducible exact True.intro) | (with_reducible refine Need.mk ?_ ?_) | (with_reducible refine And.intro ?_ ?_) | (with_reducible intro _) | ((fail_if_success (with_reducible refine FinS.mk ?_)); (fail_if_success (with_reducible refine Le.mk ?_)); (conv => whnf)) | (refine FinS.b ?_) | (refine FinS.lb ?_) | (refine FinS.i ?_) | (refine FinS.f ?_) | (refine FinS.agg ?_) | (refine FinS.tup ?_)))
        all_goals (try refine Side.mk ?_)
        all_goals (try simp only [pOf_pt, eq_self, decide_eq_true_eq, decide_eq_false_iff_not, Int.ofNat_lt, Int.ofNat_le, gt_iff_lt, ge_iff_le, true_and, Bool.not_eq_true', Bool.not_eq_false'] at *)
        all_goals first | (with_reducible rfl) | trivial | omega | rfl | exact fun _ _ => trivial | exact ⟨rfl, rfl⟩ | exact ⟨rfl, fun _ _ => rfl⟩ | exact ⟨rfl, rfl, fun _ _ => rfl⟩ | exact ⟨by omega, trivial⟩ | exact i64_id (by omega) (by omega) | (exact ⟨rfl, fun k hk j hj => absurd hk (Nat.not_lt_zero _)⟩) | (exact ⟨rfl, fun k hk j hj => .inr rfl⟩) | (exact ⟨trivial, fun k hk j hj => .inr rfl⟩) | (exact ⟨rfl, rfl, fun k hk j hj => absurd hk (Nat.not_lt_zero _)⟩) | (exact fun k hk j hj => .inr rfl) | (exact fun k hk j hj => .inr trivial)
      · trivial
      · intro k hk _
        have hkb : k < 4611686018427387904 := by omega
        have hd := dd_len (rwL pl n p n) k
        have hlb : (ddL (rwL pl n p n) k).length < 4611686018427387904 := by omega
        repeat' ((fail_if_success (with_reducible refine Side.mk ?_)); first | (refine Rest.mk (drawR_sound zES43_K2 mixOK zHS43_K2 ?_)) | ((fail_if_success (with_reducible refine Rest.mk ?_)); first | (with_reducible exact True.intro) | (with_reducible refine Need.mk ?_ ?_) | (with_reducible refine And.intro ?_ ?_) | (with_reducible intro _) | ((fail_if_success (with_reducible refine FinS.mk ?_)); (fail_if_success (with_reducible refine Le.mk ?_)); (conv => whnf)) | (refine FinS.b ?_) | (refine FinS.lb ?_) | (refine FinS.i ?_) | (refine FinS.f ?_) | (refine FinS.agg ?_) | (refine FinS.tup ?_)))
        all_goals (try (refine Le.of ?_; (conv => whnf)))
        repeat' ((fail_if_success (with_reducible refine Side.mk ?_)); first | (refine Rest.mk (drawR_sound zES43_K2 mixOK zHS43_K2 ?_)) | ((fail_if_success (with_reducible refine Rest.mk ?_)); first | (with_reducible exact True.intro) | (with_reducible refine Need.mk ?_ ?_) | (with_reducible refine And.intro ?_ ?_) | (with_reducible intro _) | ((fail_if_success (with_reducible refine FinS.mk ?_)); (fail_if_success (with_reducible refine Le.mk ?_)); (conv => whnf)) | (refine FinS.b ?_) | (refine FinS.lb ?_) | (refine FinS.i ?_) | (refine FinS.f ?_) | (refine FinS.agg ?_) | (refine FinS.tup ?_)))
        all_goals (try (refine Side.mk ?_; (try simp only [put_w hkb, Nat.zero_add, Int.toNat_natCast] at *); (try simp only [pOf_pt, eq_self, decide_eq_true_eq, decide_eq_false_iff_not, Int.ofNat_lt, Int.ofNat_le, gt_iff_lt, ge_iff_le, true_and, Bool.not_eq_true', Bool.not_eq_false'] at *); all_goals first | (with_reducible rfl) | trivial | omega | rfl | exact fun _ _ => trivial | exact ⟨rfl, rfl⟩ | exact ⟨rfl, fun _ _ => rfl⟩ | exact ⟨rfl, rfl, fun _ _ => rfl⟩ | exact ⟨by omega, trivial⟩ | exact i64_id (by omega) (by omega) | (intro h; have h2 : (0 : Int) < (k : Int) := by simpa using h; first | omega | (rw [i64_wrap (by omega) (by omega)]; omega)) | (exact ⟨by omega, by omega, by show ((ddL (rwL pl n p n) k).length + 1) * 16 ≤ _; omega, by omega⟩) | (rename_i hb; exact ⟨by rw [dd_f hb]; simp, fun k hk j hj => .inr (by rw [dd_f hb]; exact app1 rfl hk hj)⟩) | (rename_i hb; rw [dd_f hb]; simp; done) | (rename_i hb; exact ⟨by rw [dd_t hb], fun k hk j hj => .inr (by rw [dd_t hb])⟩) | (rename_i hb; rw [dd_t hb]; done) | (rename_i hb _; exact ⟨by rw [dd_f hb]; simp, fun k hk j hj => .inr (by rw [dd_f hb]; exact app1 rfl hk hj)⟩) | (rename_i hb _; rw [dd_f hb]; simp; done) | (rename_i hb _; exact ⟨by rw [dd_t hb], fun k hk j hj => .inr (by rw [dd_t hb])⟩) | (rename_i hb _; rw [dd_t hb]; done) | (exact ⟨rfl, fun k hk j hj => .inr rfl⟩) | (exact fun k hk j hj => .inr rfl) | (exact fun k hk j hj => .inr trivial)))
        all_goals (try (refine Side.mk ?_; first | (intro h; (have h2 : (1 : Int) < ((ddL (rwL pl n p n) k).length : Int) := by simpa using h); first | omega | (rw [i64_wrap (by omega) (by omega)]; omega) | (rw [put_w hlb]; omega)) | (rename_i hkr; have hkr : k < (rwL pl n p n).length := (by simp at hkr; omega); intro h; have h2 : (0 : Int) < (k : Int) := (by simpa using h); rw [i64_wrap (by omega) (by omega)]; omega) | (rename_i hb; have h2 := tr_1 hb; (show 0 ≤ (0 : Int) ∧ (0 : Int) ≤ IntKind.i64.wrap (((ddL (rwL pl n p n) k).length : Int) - 1) ∧ IntKind.i64.wrap (((ddL (rwL pl n p n) k).length : Int) - 1) ≤ ((ddL (rwL pl n p n) k).length : Int) ∧ ((ddL (rwL pl n p n) k).length : Int) ≤ ((ddL (rwL pl n p n) k).length : Int)); rw [i64_wrap (by omega) (by omega)]; omega)))
        · rename_i ho hb hc
          have hn : k = (rwL pl n p n).length := by simp at ho; omega
          subst hn
          rw [put_w hlb] at hb hc
          rw [Nat.zero_add] at hb
          have e := congrArg List.length (end_t1 hb hc)
          exact FinS.rows0 ⟨e⟩ ⟨e⟩
        · rename_i ho hb hc
          have hn : k = (rwL pl n p n).length := by simp at ho; omega
          subst hn
          have hw := put_w hlb
          rw [hw] at hb hc
          rw [Nat.zero_add] at hb
          have e := end_t0 hb hc
          have e2 : (rleV pl n p).length = (ddL (rwL pl n p n) (rwL pl n p n).length).length - 1 := by unfold rleV; rw [e, List.length_dropLast]
          refine FinS.rowsLe 2 ⟨rfl, by omega, fun k hk j hj => ?_⟩ ⟨rfl, rfl, hw.trans e2.symm⟩
          have : (rleV pl n p).getD k z2 = (ddL (rwL pl n p n) (rwL pl n p n).length).getD k z2 := by unfold rleV; rw [e]; exact drop_get (by omega)
          rw [this]
        · rename_i ho hb hc
          have hn : k = (rwL pl n p n).length := by simp at ho; omega
          subst hn
          rw [put_w hlb] at hb
          rw [Nat.zero_add] at hb
          have e := congrArg List.length (end_f1 hb hc)
          exact FinS.rows0 ⟨e⟩ ⟨e⟩
        · rename_i ho hb hc
          have hn : k = (rwL pl n p n).length := by simp at ho; omega
          subst hn
          rw [put_w hlb] at hb
          rw [Nat.zero_add] at hb
          have e : rleV pl n p = ddL (rwL pl n p n) (rwL pl n p n).length := end_f0 hb hc
          exact FinS.rowsLe 2 ⟨rfl, by rw [e]; exact Nat.le_refl _, fun k hk j hj => by rw [e]⟩ ⟨rfl, rfl, by rw [e]⟩
noncomputable def g46 : List MV → Option (List Prop × MV × List Blk × Bool)
  | [.agg [.f .f64 a, .f .f64 b, .f .f64 c], .ro 2 n get] => some ([isPts n get, n ≤ lim43], .os 0 2 0 (rleV (a, b, c) n (pOf get)).length, [.rows 2 (rleV (a, b, c) n (pOf get)).length fun k => ptM ((rleV (a, b, c) n (pOf get)).getD k z2)], false)
  | _ => none
theorem s46 : SumsOK Try.prog (sumOf 46 g46 S43) := by
  refine SumsOK.add S43_ok fun ms ps m blks al e hp => ?_
  unfold g46 at e
  split at e
  · rename_i a b c n get
    cases e
    exact (le_arg2 (t46 (a, b, c) n (pOf get) (hp _ (.tail _ (.head _)))) (leR_pts (hp _ (.head _)))).aloneR rfl fun _ _ _ hj => flat2 hj
  · cases e
noncomputable def S46 := sumOf 46 g46 S43
theorem S46_ok : SumsOK Try.prog S46 := s46
end Go.Ev.Clip
