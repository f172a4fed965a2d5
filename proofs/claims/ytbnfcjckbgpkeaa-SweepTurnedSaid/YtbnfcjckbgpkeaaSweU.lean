/-
  The contract of the document's Between; for lists of at most 4398046511103 boxes.
-/
import Derived.Test.YtbnfcjckbgpkeaaSweT
set_option linter.unusedSimpArgs false
set_option linter.unusedVariables false
open Go Go.Proofs
namespace Go.Ev.Sweep
set_option maxRecDepth 100000
set_option maxHeartbeats 1000000
open Go.Ev.So
def rI (p q : Nat → Bx) (m i j : Nat) : List Pr := rB p q m i ++ inL i (fun j => j) (bM2 p q i) j
theorem rI_0 (p q : Nat → Bx) (m i : Nat) : rI p q m i 0 = rB p q m i := List.append_nil _
theorem rI_t {p q : Nat → Bx} {m i j : Nat} (h : bM2 p q i j = true) : rI p q m i (j + 1) = rI p q m i j ++ [((i : Int), (j : Int))] := by unfold rI; rw [in_t h, List.append_assoc]
theorem rI_f {p q : Nat → Bx} {m i j : Nat} (h : bM2 p q i j = false) : rI p q m i (j + 1) = rI p q m i j := by unfold rI; rw [in_f h]
theorem rI_tl {p q : Nat → Bx} {m i j : Nat} (h : bM2 p q i j = true) : (rI p q m i j).length + 1 = (rI p q m i (j + 1)).length := by rw [rI_t h]; simp
theorem rI_end {p q : Nat → Bx} {m i : Nat} (h : okB p i = true) : rI p q m i m = rB p q m (i + 1) := (rb_t h).symm
theorem rB_skip {p q : Nat → Bx} {m i : Nat} (h : okB p i = false) : rB p q m (i + 1) = rB p q m i := rb_f h
theorem rI_long {p q : Nat → Bx} {n m i j : Nat} (h : okB p i = true) (hi : i < n) (hj : j ≤ m) (hl : 65536 < (rI p q m i j).length) : 65536 < (rB p q m n).length := by
  have h1 : (rI p q m i j).length ≤ (rI p q m i m).length := by
    unfold rI
    rw [List.length_append, List.length_append]
    have := in_mono (i := i) (J := fun j => j) (ov := bM2 p q i) hj
    omega
  rw [rI_end h] at h1
  have h2 : (rB p q m (i + 1)).length ≤ (rB p q m n).length := rb_mono hi
  omega
def bI (p q : Nat → Bx) (m i z : Nat) : List Pr := bB p q m i ++ inL i (oJ q m) (bO p q m i) z
theorem bI_0 (p q : Nat → Bx) (m i : Nat) : bI p q m i 0 = bB p q m i := List.append_nil _
theorem bI_t {p q : Nat → Bx} {m i j : Nat} (h : bO p q m i j = true) : bI p q m i (j + 1) = bI p q m i j ++ [((i : Int), (oJ q m j : Int))] := by unfold bI; rw [in_t h, List.append_assoc]
theorem bI_f {p q : Nat → Bx} {m i j : Nat} (h : bO p q m i j = false) : bI p q m i (j + 1) = bI p q m i j := by unfold bI; rw [in_f h]
theorem bI_tl {p q : Nat → Bx} {m i j : Nat} (h : bO p q m i j = true) : (bI p q m i j).length + 1 = (bI p q m i (j + 1)).length := by rw [bI_t h]; simp
theorem bI_end {p q : Nat → Bx} {m i z : Nat} (h : okB p i = true) (hz : stp (bK p q m i) (oC q m - z) z = stp (bK p q m i) (oC q m) 0) (he : z = oC q m ∨ bK p q m i z = true) : bI p q m i z = bB p q m (i + 1) := by
  have e : stp (bK p q m i) (oC q m - z) z = z := by
    rcases he with e | e
    · rw [e, Nat.sub_self]; rfl
    · exact stp_t e
  show _ = btL (okB p) (oJ q m) (bK p q m) (bO p q m) (oC q m) (i + 1)
  rw [bt_t h, ← hz, e]; rfl
theorem bB_skip {p q : Nat → Bx} {m i : Nat} (h : okB p i = false) : bB p q m (i + 1) = bB p q m i := bt_f h
theorem bI_len (p q : Nat → Bx) (m i z : Nat) : (bI p q m i z).length ≤ (bB p q m i).length + z := by
  unfold bI
  rw [List.length_append]
  have := in_len i (oJ q m) (bO p q m i) z
  omega
theorem oC_le (q : Nat → Bx) (m : Nat) : oC q m ≤ m := fL_len _ _
theorem chk_c (a : Bx) : chk a.1 a.2.1 a.2.2.1 a.2.2.2 = ck a := rfl
theorem ok_c1 {p : Nat → Bx} {i : Nat} (h : okB p i = true) : (ck (p i) != 0) = false := by
  have h : (ck (p i) == 0) = true := h
  simpa using h
theorem ok_c0 {p : Nat → Bx} {i : Nat} (h : okB p i = false) : (ck (p i) != 0) = true := by
  have h : (ck (p i) == 0) = false := h
  simpa using h
theorem m_c (p q : Nat → Bx) (i j : Nat) : meetV (p i).1 (p i).2.1 (p i).2.2.1 (p i).2.2.2 (q j).1 (q j).2.1 (q j).2.2.1 (q j).2.2.2 = bM2 p q i j := rfl
theorem rows_pr {l l' : List Pr} (h : l' = l) {k j : Nat} : getM (rowI2 (gP l') k) j = getM (rowI2 (gP l) k) j := by rw [h]
noncomputable def fi16 : FnI := ⟨54, Try.f16.body.getD .skip, [.tmp 4, .tmp 5], true⟩
theorem fi16_ok : fnGen Try.prog 16 = some fi16 := by kernel_rfl
theorem zHS18_U {cx : Cx} : CallH (genQ Try.prog exts eqs [] S18).P cx (hnd (genQ Try.prog exts eqs [] S18) cx 6) := hnd_sound (genQ_full extsOK eqsOK S18_ok) 6
theorem zES18_U : EnvAll (genQ Try.prog exts eqs [] S18) := (genQ_full extsOK eqsOK S18_ok).toEnvAll
theorem t16 (n : Nat) (p : Nat → Bx) (m : Nat) (q : Nat → Bx) (c0 : n ≤ room) (c1 : m ≤ room) : CM Try.prog 16 [.ro 4 n (fun j => bM (p j)), .ro 4 m (fun j => bM (q j))] (.tup [.os 0 2 0 (rN p q n m), .i .i64 (rE p q n m)]) [.rows 2 (rN p q n m) (rowI2 (gP (rB p q m n)))] true := by
  refine CM.of_code zES18_U (fnGen_ok fi16_ok) rfl fun w0 okA => ?_
  refine evC_sound (genQ_full extsOK eqsOK S18_ok).toEnvAll (hndU_sound U32_k zHS18_U) ?_
  have k0 : n ≤ 4398046511103 := c0
  have k1 : m ≤ 4398046511103 := c1
  by_cases hbig : 16384 < n ∨ 16384 < m
  · have hx := rE_big (p := p) (q := q) hbig
    repeat' ((fail_if_success (with_reducible refine Side.mk ?_)); first | (refine Rest.mk (drawR_sound zES18_U mixOK (hndU_sound U32_k zHS18_U) ?_)) | ((fail_if_success (with_reducible refine Rest.mk ?_)); first | (with_reducible exact True.intro) | (with_reducible refine Need.mk ?_ ?_) | (with_reducible refine And.intro ?_ ?_) | (with_reducible intro hcl; try (exfalso; ((try simp only [decide_eq_true_eq, decide_eq_false_iff_not] at hcl); first | omega | (simp at hcl; omega) | ((try simp only [Int.toNat_natCast, Nat.zero_add, bOf_b, chk_c, m_c] at hcl); first | omega)); done)) | ((fail_if_success (with_reducible refine FinS.mk ?_)); (fail_if_success (with_reducible refine Le.mk ?_)); (conv => whnf)) | (refine FinS.b ?_) | (refine FinS.lb ?_) | (refine FinS.i ?_) | (refine FinS.f ?_) | (refine FinS.agg ?_) | (refine FinS.tup ?_)))
    all_goals (try (refine Le.of ?_; (conv => whnf)))
    repeat' ((fail_if_success (with_reducible refine Side.mk ?_)); first | (refine Rest.mk (drawR_sound zES18_U mixOK (hndU_sound U32_k zHS18_U) ?_)) | ((fail_if_success (with_reducible refine Rest.mk ?_)); first | (with_reducible exact True.intro) | (with_reducible refine Need.mk ?_ ?_) | (with_reducible refine And.intro ?_ ?_) | (with_reducible intro _) | ((fail_if_success (with_reducible refine FinS.mk ?_)); (fail_if_success (with_reducible refine Le.mk ?_)); (conv => whnf)) | (refine FinS.b ?_) | (refine FinS.lb ?_) | (refine FinS.i ?_) | (refine FinS.f ?_) | (refine FinS.agg ?_) | (refine FinS.tup ?_)))
    all_goals (try refine Side.mk ?_)
    all_goals (try simp only [eq_self, decide_eq_true_eq, decide_eq_false_iff_not, Int.ofNat_lt, Int.ofNat_le, gt_iff_lt, ge_iff_le, true_and, Bool.not_eq_true', Bool.not_eq_false'] at *)
    all_goals first | (with_reducible rfl) | trivial | omega | rfl | exact fun _ _ => trivial | exact ⟨rfl, rfl⟩ | exact ⟨rfl, fun _ _ => rfl⟩ | exact ⟨rfl, rfl, fun _ _ => rfl⟩ | (exact FinS.rows0 ⟨hx.2⟩ ⟨⟨hx.2⟩, ⟨rfl, hx.1.symm⟩, True.intro⟩)
  · have hn : n ≤ 16384 := by omega
    have hm : m ≤ 16384 := by omega
    repeat' ((fail_if_success (with_reducible refine Side.mk ?_)); first | (refine Rest.mk (drawR_sound zES18_U mixOK (hndU_sound U32_k zHS18_U) ?_)) | ((fail_if_success (with_reducible refine Rest.mk ?_)); first | (with_reducible exact True.intro) | (with_reducible refine Need.mk ?_ ?_) | (with_reducible refine And.intro ?_ ?_) | (with_reducible intro hcl; try (exfalso; ((try simp only [decide_eq_true_eq, decide_eq_false_iff_not] at hcl); first | omega | (simp at hcl; omega) | ((try simp only [Int.toNat_natCast, Nat.zero_add, bOf_b, chk_c, m_c] at hcl); first | omega)); done)) | ((fail_if_success (with_reducible refine FinS.mk ?_)); (fail_if_success (with_reducible refine Le.mk ?_)); (conv => whnf)) | (refine FinS.b ?_) | (refine FinS.lb ?_) | (refine FinS.i ?_) | (refine FinS.f ?_) | (refine FinS.agg ?_) | (refine FinS.tup ?_)))
    refine loop_ruleD zES18_U (hndU_sound U32_k zHS18_U) (γ := Nat) (fun i => ⟨[(0, .ro 4 n (fun j => bM (p j))), (1, .ro 4 m (fun j => bM (q j))), (6, .os 0 2 0 (rB p q m i).length), (7, .i .i64 (i : Int))], [], [(0, .rows 2 (rB p q m i).length (rowI2 (gP (rB p q m i))))], 1⟩) (fun i => i ≤ n ∧ (rB p q m i).length ≤ 65536) Nat.succ (fun i => n - i) (0) (Le.phan 2 (Le.of ?_)) ?_ ?_
    · conv => whnf
      repeat' ((fail_if_success (with_reducible refine Side.mk ?_)); first | (refine Rest.mk (drawR_sound zES18_U mixOK (hndU_sound U32_k zHS18_U) ?_)) | ((fail_if_success (with_reducible refine Rest.mk ?_)); first | (with_reducible exact True.intro) | (with_reducible refine Need.mk ?_ ?_) | (with_reducible refine And.intro ?_ ?_) | (with_reducible intro _) | ((fail_if_success (with_reducible refine FinS.mk ?_)); (fail_if_success (with_reducible refine Le.mk ?_)); (conv => whnf)) | (refine FinS.b ?_) | (refine FinS.lb ?_) | (refine FinS.i ?_) | (refine FinS.f ?_) | (refine FinS.agg ?_) | (refine FinS.tup ?_)))
      all_goals (try (refine Le.of ?_; (conv => whnf)))
      repeat' ((fail_if_success (with_reducible refine Side.mk ?_)); first | (refine Rest.mk (drawR_sound zES18_U mixOK (hndU_sound U32_k zHS18_U) ?_)) | ((fail_if_success (with_reducible refine Rest.mk ?_)); first | (with_reducible exact True.intro) | (with_reducible refine Need.mk ?_ ?_) | (with_reducible refine And.intro ?_ ?_) | (with_reducible intro _) | ((fail_if_success (with_reducible refine FinS.mk ?_)); (fail_if_success (with_reducible refine Le.mk ?_)); (conv => whnf)) | (refine FinS.b ?_) | (refine FinS.lb ?_) | (refine FinS.i ?_) | (refine FinS.f ?_) | (refine FinS.agg ?_) | (refine FinS.tup ?_)))
      all_goals (try refine Side.mk ?_)
      all_goals (try simp only [eq_self, decide_eq_true_eq, decide_eq_false_iff_not, Int.ofNat_lt, Int.ofNat_le, gt_iff_lt, ge_iff_le, true_and, Bool.not_eq_true', Bool.not_eq_false'] at *)
      all_goals first | (with_reducible rfl) | trivial | omega | rfl | exact fun _ _ => trivial | exact ⟨rfl, rfl⟩ | exact ⟨rfl, fun _ _ => rfl⟩ | exact ⟨rfl, rfl, fun _ _ => rfl⟩ | (exact fun _ hi _ _ => absurd hi (Nat.not_lt_zero _)) | (exact ⟨rfl, fun _ hi _ _ => absurd hi (Nat.not_lt_zero _)⟩) | (exact ⟨trivial, fun _ hi _ _ => absurd hi (Nat.not_lt_zero _)⟩) | (exact fun _ _ _ _ => .inr trivial) | (exact ⟨trivial, fun _ _ _ _ => .inr trivial⟩) | (exact ⟨rfl, rfl, fun _ _ _ _ => .inr trivial⟩) | (exact fun k hk j hj => absurd hk (Nat.not_lt_zero _)) | (exact ⟨rfl, rfl, fun k hk j hj => absurd hk (Nat.not_lt_zero _)⟩) | (exact ⟨trivial, fun k hk j hj => absurd hk (Nat.not_lt_zero _)⟩)
    · exact ⟨Nat.zero_le _, Nat.zero_le _⟩
    · intro i hi
      obtain ⟨hi, hl⟩ := hi
      have wi : IntKind.i64.wrap ((i : Int) + 1) = ((i + 1 : Nat) : Int) := wadd1 (by omega)
      rcases Nat.lt_or_ge i n with hlt | hge
      · cases hk : okB p i
        · have hk2 := ok_c0 hk
          repeat' ((fail_if_success (with_reducible refine Side.mk ?_)); first | (refine Rest.mk (drawR_sound zES18_U mixOK (hndU_sound U32_k zHS18_U) ?_)) | ((fail_if_success (with_reducible refine Rest.mk ?_)); first | (with_reducible exact True.intro) | (with_reducible refine Need.mk ?_ ?_) | (with_reducible refine And.intro ?_ ?_) | (with_reducible intro hcl; try (exfalso; ((try simp only [decide_eq_true_eq, decide_eq_false_iff_not] at hcl); first | omega | (simp at hcl; omega) | (rw [hk2] at hcl; first | (cases hcl; done) | exact absurd hcl (by decide)) | ((try simp only [Int.toNat_natCast, Nat.zero_add, bOf_b, chk_c, m_c] at hcl); first | omega | (rw [hk2] at hcl; first | (cases hcl; done) | exact absurd hcl (by decide)))); done)) | ((fail_if_success (with_reducible refine FinS.mk ?_)); (fail_if_success (with_reducible refine Le.mk ?_)); (conv => whnf)) | (refine FinS.b ?_) | (refine FinS.lb ?_) | (refine FinS.i ?_) | (refine FinS.f ?_) | (refine FinS.agg ?_) | (refine FinS.tup ?_)))
          all_goals (try (refine Le.of ?_; (conv => whnf)))
          repeat' ((fail_if_success (with_reducible refine Side.mk ?_)); first | (refine Rest.mk (drawR_sound zES18_U mixOK (hndU_sound U32_k zHS18_U) ?_)) | ((fail_if_success (with_reducible refine Rest.mk ?_)); first | (with_reducible exact True.intro) | (with_reducible refine Need.mk ?_ ?_) | (with_reducible refine And.intro ?_ ?_) | (with_reducible intro _) | ((fail_if_success (with_reducible refine FinS.mk ?_)); (fail_if_success (with_reducible refine Le.mk ?_)); (conv => whnf)) | (refine FinS.b ?_) | (refine FinS.lb ?_) | (refine FinS.i ?_) | (refine FinS.f ?_) | (refine FinS.agg ?_) | (refine FinS.tup ?_)))
          all_goals (try refine Side.mk ?_)
          all_goals (try simp only [Int.toNat_natCast, Nat.zero_add, bOf_b, chk_c, m_c, wi, Nat.succ_eq_add_one] at *)
          all_goals (try simp only [eq_self, decide_eq_true_eq, decide_eq_false_iff_not, Int.ofNat_lt, Int.ofNat_le, gt_iff_lt, ge_iff_le, true_and, Bool.not_eq_true', Bool.not_eq_false'] at *)
          all_goals first | (with_reducible rfl) | trivial | omega | rfl | exact fun _ _ => trivial | exact ⟨rfl, rfl⟩ | exact ⟨rfl, fun _ _ => rfl⟩ | exact ⟨rfl, rfl, fun _ _ => rfl⟩ | (exact ⟨by omega, by omega⟩) | (exact ⟨⟨by omega, by rw [rB_skip hk]; exact hl⟩, by omega⟩) | (exact congrArg List.length (rB_skip hk).symm) | (exact fun k hk2 j hj => .inr (rows_pr (rB_skip hk).symm)) | (exact ⟨congrArg List.length (rB_skip hk).symm, fun k hk2 j hj => .inr (rows_pr (rB_skip hk).symm)⟩) | (exact ⟨rfl, congrArg List.length (rB_skip hk).symm, fun k hk2 j hj => .inr (rows_pr (rB_skip hk).symm)⟩)
        · have hk2 := ok_c1 hk
          repeat' ((fail_if_success (with_reducible refine Side.mk ?_)); first | (refine Rest.mk (drawR_sound zES18_U mixOK (hndU_sound U32_k zHS18_U) ?_)) | ((fail_if_success (with_reducible refine Rest.mk ?_)); first | (with_reducible exact True.intro) | (with_reducible refine Need.mk ?_ ?_) | (with_reducible refine And.intro ?_ ?_) | (with_reducible intro hcl; try (exfalso; ((try simp only [decide_eq_true_eq, decide_eq_false_iff_not] at hcl); first | omega | (simp at hcl; omega) | (rw [hk2] at hcl; first | (cases hcl; done) | exact absurd hcl (by decide)) | ((try simp only [Int.toNat_natCast, Nat.zero_add, bOf_b, chk_c, m_c] at hcl); first | omega | (rw [hk2] at hcl; first | (cases hcl; done) | exact absurd hcl (by decide)))); done)) | ((fail_if_success (with_reducible refine FinS.mk ?_)); (fail_if_success (with_reducible refine Le.mk ?_)); (conv => whnf)) | (refine FinS.b ?_) | (refine FinS.lb ?_) | (refine FinS.i ?_) | (refine FinS.f ?_) | (refine FinS.agg ?_) | (refine FinS.tup ?_)))
          all_goals (try (refine Side.mk ?_; (try simp only [Int.toNat_natCast, Nat.zero_add, bOf_b, chk_c, m_c] at *); (try simp only [eq_self, decide_eq_true_eq, decide_eq_false_iff_not, Int.ofNat_lt, Int.ofNat_le, gt_iff_lt, ge_iff_le, true_and, Bool.not_eq_true', Bool.not_eq_false'] at *); all_goals first | (with_reducible rfl) | trivial | omega | rfl | exact fun _ _ => trivial | exact ⟨rfl, rfl⟩ | exact ⟨rfl, fun _ _ => rfl⟩ | exact ⟨rfl, rfl, fun _ _ => rfl⟩ | (exact ⟨by omega, by omega⟩)))
          refine loop_ruleD zES18_U (hndU_sound U32_k zHS18_U) (γ := Nat) (fun j => ⟨[(0, .ro 4 n (fun j => bM (p j))), (1, .ro 4 m (fun j => bM (q j))), (6, .os 0 2 0 (rI p q m i j).length), (7, .i .i64 (i : Int)), (8, .i .i64 (j : Int))], [], [(0, .rows 2 (rI p q m i j).length (rowI2 (gP (rI p q m i j))))], 1⟩) (fun j => j ≤ m ∧ (rI p q m i j).length ≤ 65536) Nat.succ (fun j => m - j) (0) (Le.of ?_) ?_ ?_
          · conv => whnf
            repeat' ((fail_if_success (with_reducible refine Side.mk ?_)); first | (refine Rest.mk (drawR_sound zES18_U mixOK (hndU_sound U32_k zHS18_U) ?_)) | ((fail_if_success (with_reducible refine Rest.mk ?_)); first | (with_reducible exact True.intro) | (with_reducible refine Need.mk ?_ ?_) | (with_reducible refine And.intro ?_ ?_) | (with_reducible intro _) | ((fail_if_success (with_reducible refine FinS.mk ?_)); (fail_if_success (with_reducible refine Le.mk ?_)); (conv => whnf)) | (refine FinS.b ?_) | (refine FinS.lb ?_) | (refine FinS.i ?_) | (refine FinS.f ?_) | (refine FinS.agg ?_) | (refine FinS.tup ?_)))
            all_goals (try (refine Le.of ?_; (conv => whnf)))
            repeat' ((fail_if_success (with_reducible refine Side.mk ?_)); first | (refine Rest.mk (drawR_sound zES18_U mixOK (hndU_sound U32_k zHS18_U) ?_)) | ((fail_if_success (with_reducible refine Rest.mk ?_)); first | (with_reducible exact True.intro) | (with_reducible refine Need.mk ?_ ?_) | (with_reducible refine And.intro ?_ ?_) | (with_reducible intro _) | ((fail_if_success (with_reducible refine FinS.mk ?_)); (fail_if_success (with_reducible refine Le.mk ?_)); (conv => whnf)) | (refine FinS.b ?_) | (refine FinS.lb ?_) | (refine FinS.i ?_) | (refine FinS.f ?_) | (refine FinS.agg ?_) | (refine FinS.tup ?_)))
            all_goals (try refine Side.mk ?_)
            all_goals (try simp only [eq_self, decide_eq_true_eq, decide_eq_false_iff_not, Int.ofNat_lt, Int.ofNat_le, gt_iff_lt, ge_iff_le, true_and, Bool.not_eq_true', Bool.not_eq_false'] at *)
            all_goals first | (with_reducible rfl) | trivial | omega | rfl | exact fun _ _ => trivial | exact ⟨rfl, rfl⟩ | exact ⟨rfl, fun _ _ => rfl⟩ | exact ⟨rfl, rfl, fun _ _ => rfl⟩ | (exact congrArg List.length (rI_0 p q m i).symm) | (exact ⟨congrArg List.length (rI_0 p q m i).symm, fun k hk2 j hj => .inr (rows_pr (rI_0 p q m i).symm)⟩) | (exact ⟨rfl, congrArg List.length (rI_0 p q m i).symm, fun k hk2 j hj => .inr (rows_pr (rI_0 p q m i).symm)⟩) | (exact fun k hk2 j hj => .inr (rows_pr (rI_0 p q m i).symm))
          · exact ⟨Nat.zero_le _, by rw [rI_0]; exact hl⟩
          · intro j hj
            obtain ⟨hj, hl2⟩ := hj
            have wj : IntKind.i64.wrap ((j : Int) + 1) = ((j + 1 : Nat) : Int) := wadd1 (by omega)
            rcases Nat.lt_or_ge j m with hjl | hjg
            · cases hb : bM2 p q i j
              · have e1 := rI_f (m := m) hb
                repeat' ((fail_if_success (with_reducible refine Side.mk ?_)); first | (refine Rest.mk (drawR_sound zES18_U mixOK (hndU_sound U32_k zHS18_U) ?_)) | ((fail_if_success (with_reducible refine Rest.mk ?_)); first | (with_reducible exact True.intro) | (with_reducible refine Need.mk ?_ ?_) | (with_reducible refine And.intro ?_ ?_) | (with_reducible intro hcl; try (exfalso; ((try simp only [decide_eq_true_eq, decide_eq_false_iff_not] at hcl); first | omega | (simp at hcl; omega) | (rw [hb] at hcl; first | (cases hcl; done) | exact absurd hcl (by decide)) | ((try simp only [Int.toNat_natCast, Nat.zero_add, bOf_b, chk_c, m_c] at hcl); first | omega | (rw [hb] at hcl; first | (cases hcl; done) | exact absurd hcl (by decide)))); done)) | ((fail_if_success (with_reducible refine FinS.mk ?_)); (fail_if_success (with_reducible refine Le.mk ?_)); (conv => whnf)) | (refine FinS.b ?_) | (refine FinS.lb ?_) | (refine FinS.i ?_) | (refine FinS.f ?_) | (refine FinS.agg ?_) | (refine FinS.tup ?_)))
                all_goals (try (refine Le.of ?_; (conv => whnf)))
                repeat' ((fail_if_success (with_reducible refine Side.mk ?_)); first | (refine Rest.mk (drawR_sound zES18_U mixOK (hndU_sound U32_k zHS18_U) ?_)) | ((fail_if_success (with_reducible refine Rest.mk ?_)); first | (with_reducible exact True.intro) | (with_reducible refine Need.mk ?_ ?_) | (with_reducible refine And.intro ?_ ?_) | (with_reducible intro _) | ((fail_if_success (with_reducible refine FinS.mk ?_)); (fail_if_success (with_reducible refine Le.mk ?_)); (conv => whnf)) | (refine FinS.b ?_) | (refine FinS.lb ?_) | (refine FinS.i ?_) | (refine FinS.f ?_) | (refine FinS.agg ?_) | (refine FinS.tup ?_)))
                all_goals (try refine Side.mk ?_)
                all_goals (try simp only [Int.toNat_natCast, Nat.zero_add, bOf_b, chk_c, m_c, wj, Nat.succ_eq_add_one] at *)
                all_goals (try simp only [eq_self, decide_eq_true_eq, decide_eq_false_iff_not, Int.ofNat_lt, Int.ofNat_le, gt_iff_lt, ge_iff_le, true_and, Bool.not_eq_true', Bool.not_eq_false'] at *)
                all_goals first | (with_reducible rfl) | trivial | omega | rfl | exact fun _ _ => trivial | exact ⟨rfl, rfl⟩ | exact ⟨rfl, fun _ _ => rfl⟩ | exact ⟨rfl, rfl, fun _ _ => rfl⟩ | (exact ⟨by omega, by omega⟩) | (exact ⟨⟨by omega, by rw [e1]; exact hl2⟩, by omega⟩) | (exact congrArg List.length e1.symm) | (exact ⟨congrArg List.length e1.symm, fun k hk2 j hj => .inr (rows_pr e1.symm)⟩) | (exact ⟨rfl, congrArg List.length e1.symm, fun k hk2 j hj => .inr (rows_pr e1.symm)⟩) | (exact fun k hk2 j hj => .inr (rows_pr e1.symm))
              · have e1 := rI_tl (m := m) hb
                by_cases hlong : 65536 < (rI p q m i (j + 1)).length
                · have hx := rE_long (rI_long hk hlt (by omega) hlong)
                  repeat' ((fail_if_success (with_reducible refine Side.mk ?_)); first | (refine Rest.mk (drawR_sound zES18_U mixOK (hndU_sound U32_k zHS18_U) ?_)) | ((fail_if_success (with_reducible refine Rest.mk ?_)); first | (with_reducible exact True.intro) | (with_reducible refine Need.mk ?_ ?_) | (with_reducible refine And.intro ?_ ?_) | (with_reducible intro hcl; try (exfalso; ((try simp only [decide_eq_true_eq, decide_eq_false_iff_not] at hcl); first | omega | (simp at hcl; omega) | (rw [hb] at hcl; first | (cases hcl; done) | exact absurd hcl (by decide)) | ((try simp only [Int.toNat_natCast, Nat.zero_add, bOf_b, chk_c, m_c] at hcl); first | omega | (rw [hb] at hcl; first | (cases hcl; done) | exact absurd hcl (by decide)))); done)) | ((fail_if_success (with_reducible refine FinS.mk ?_)); (fail_if_success (with_reducible refine Le.mk ?_)); (conv => whnf)) | (refine FinS.b ?_) | (refine FinS.lb ?_) | (refine FinS.i ?_) | (refine FinS.f ?_) | (refine FinS.agg ?_) | (refine FinS.tup ?_)))
                  all_goals (try (refine Le.of ?_; (conv => whnf)))
                  repeat' ((fail_if_success (with_reducible refine Side.mk ?_)); first | (refine Rest.mk (drawR_sound zES18_U mixOK (hndU_sound U32_k zHS18_U) ?_)) | ((fail_if_success (with_reducible refine Rest.mk ?_)); first | (with_reducible exact True.intro) | (with_reducible refine Need.mk ?_ ?_) | (with_reducible refine And.intro ?_ ?_) | (with_reducible intro _) | ((fail_if_success (with_reducible refine FinS.mk ?_)); (fail_if_success (with_reducible refine Le.mk ?_)); (conv => whnf)) | (refine FinS.b ?_) | (refine FinS.lb ?_) | (refine FinS.i ?_) | (refine FinS.f ?_) | (refine FinS.agg ?_) | (refine FinS.tup ?_)))
                  all_goals (try refine Side.mk ?_)
                  all_goals (try simp only [Int.toNat_natCast, Nat.zero_add, bOf_b, chk_c, m_c, wj, Nat.succ_eq_add_one] at *)
                  all_goals (try simp only [eq_self, decide_eq_true_eq, decide_eq_false_iff_not, Int.ofNat_lt, Int.ofNat_le, gt_iff_lt, ge_iff_le, true_and, Bool.not_eq_true', Bool.not_eq_false'] at *)
                  all_goals first | (with_reducible rfl) | trivial | omega | rfl | exact fun _ _ => trivial | exact ⟨rfl, rfl⟩ | exact ⟨rfl, fun _ _ => rfl⟩ | exact ⟨rfl, rfl, fun _ _ => rfl⟩ | (exact ⟨by omega, by omega⟩) | (exact ⟨by omega, by omega, (by show ((rI p q m i j).length + 1) * 16 ≤ _; omega), by omega⟩) | (exact FinS.rows0 ⟨hx.2⟩ ⟨⟨hx.2⟩, ⟨rfl, hx.1.symm⟩, True.intro⟩)
                · have hA : ∀ (X : Nat → List MV) (tl : List MV), X 0 = .i .i64 (i : Int) :: .i .i64 (j : Int) :: tl → ∀ k, k < (rI p q m i j).length + 1 → ∀ y, y < 2 → getM (appGet (rI p q m i j).length (rowI2 (gP (rI p q m i j))) X k) y = getM (rowI2 (gP (rI p q m i (j + 1))) k) y := fun X tl hX k hk y hy => by rw [rI_t hb]; exact app_pr hX hk hy
                  repeat' ((fail_if_success (with_reducible refine Side.mk ?_)); first | (refine Rest.mk (drawR_sound zES18_U mixOK (hndU_sound U32_k zHS18_U) ?_)) | ((fail_if_success (with_reducible refine Rest.mk ?_)); first | (with_reducible exact True.intro) | (with_reducible refine Need.mk ?_ ?_) | (with_reducible refine And.intro ?_ ?_) | (with_reducible intro hcl; try (exfalso; ((try simp only [decide_eq_true_eq, decide_eq_false_iff_not] at hcl); first | omega | (simp at hcl; omega) | (rw [hb] at hcl; first | (cases hcl; done) | exact absurd hcl (by decide)) | ((try simp only [Int.toNat_natCast, Nat.zero_add, bOf_b, chk_c, m_c] at hcl); first | omega | (rw [hb] at hcl; first | (cases hcl; done) | exact absurd hcl (by decide)))); done)) | ((fail_if_success (with_reducible refine FinS.mk ?_)); (fail_if_success (with_reducible refine Le.mk ?_)); (conv => whnf)) | (refine FinS.b ?_) | (refine FinS.lb ?_) | (refine FinS.i ?_) | (refine FinS.f ?_) | (refine FinS.agg ?_) | (refine FinS.tup ?_)))
                  all_goals (try (refine Le.of ?_; (conv => whnf)))
                  repeat' ((fail_if_success (with_reducible refine Side.mk ?_)); first | (refine Rest.mk (drawR_sound zES18_U mixOK (hndU_sound U32_k zHS18_U) ?_)) | ((fail_if_success (with_reducible refine Rest.mk ?_)); first | (with_reducible exact True.intro) | (with_reducible refine Need.mk ?_ ?_) | (with_reducible refine And.intro ?_ ?_) | (with_reducible intro _) | ((fail_if_success (with_reducible refine FinS.mk ?_)); (fail_if_success (with_reducible refine Le.mk ?_)); (conv => whnf)) | (refine FinS.b ?_) | (refine FinS.lb ?_) | (refine FinS.i ?_) | (refine FinS.f ?_) | (refine FinS.agg ?_) | (refine FinS.tup ?_)))
                  all_goals (try refine Side.mk ?_)
                  all_goals (try simp only [Int.toNat_natCast, Nat.zero_add, bOf_b, chk_c, m_c, wj, Nat.succ_eq_add_one] at *)
                  all_goals (try simp only [eq_self, decide_eq_true_eq, decide_eq_false_iff_not, Int.ofNat_lt, Int.ofNat_le, gt_iff_lt, ge_iff_le, true_and, Bool.not_eq_true', Bool.not_eq_false'] at *)
                  all_goals first | (with_reducible rfl) | trivial | omega | rfl | exact fun _ _ => trivial | exact ⟨rfl, rfl⟩ | exact ⟨rfl, fun _ _ => rfl⟩ | exact ⟨rfl, rfl, fun _ _ => rfl⟩ | (exact ⟨by omega, by omega⟩) | (exact ⟨by omega, by omega, (by show ((rI p q m i j).length + 1) * 16 ≤ _; omega), by omega⟩) | (exact ⟨⟨by omega, by omega⟩, by omega⟩) | (exact e1) | (exact congrArg Nat.cast e1) | (exact fun k hk2 y hy => .inr (hA _ [] rfl k (by omega) y hy)) | (exact ⟨e1, fun k hk2 y hy => .inr (hA _ [] rfl k (by omega) y hy)⟩) | (exact ⟨rfl, e1, fun k hk2 y hy => .inr (hA _ [] rfl k (by omega) y hy)⟩)
            · obtain rfl : j = m := by omega
              have e1 := rI_end (p := p) (q := q) (m := j) hk
              repeat' ((fail_if_success (with_reducible refine Side.mk ?_)); first | (refine Rest.mk (drawR_sound zES18_U mixOK (hndU_sound U32_k zHS18_U) ?_)) | ((fail_if_success (with_reducible refine Rest.mk ?_)); first | (with_reducible exact True.intro) | (with_reducible refine Need.mk ?_ ?_) | (with_reducible refine And.intro ?_ ?_) | (with_reducible intro hcl; try (exfalso; ((try simp only [decide_eq_true_eq, decide_eq_false_iff_not] at hcl); first | omega | (simp at hcl; omega) | ((try simp only [Int.toNat_natCast, Nat.zero_add, bOf_b, chk_c, m_c] at hcl); first | omega)); done)) | ((fail_if_success (with_reducible refine FinS.mk ?_)); (fail_if_success (with_reducible refine Le.mk ?_)); (conv => whnf)) | (refine FinS.b ?_) | (refine FinS.lb ?_) | (refine FinS.i ?_) | (refine FinS.f ?_) | (refine FinS.agg ?_) | (refine FinS.tup ?_)))
              all_goals (try (refine Le.of ?_; (conv => whnf)))
              repeat' ((fail_if_success (with_reducible refine Side.mk ?_)); first | (refine Rest.mk (drawR_sound zES18_U mixOK (hndU_sound U32_k zHS18_U) ?_)) | ((fail_if_success (with_reducible refine Rest.mk ?_)); first | (with_reducible exact True.intro) | (with_reducible refine Need.mk ?_ ?_) | (with_reducible refine And.intro ?_ ?_) | (with_reducible intro _) | ((fail_if_success (with_reducible refine FinS.mk ?_)); (fail_if_success (with_reducible refine Le.mk ?_)); (conv => whnf)) | (refine FinS.b ?_) | (refine FinS.lb ?_) | (refine FinS.i ?_) | (refine FinS.f ?_) | (refine FinS.agg ?_) | (refine FinS.tup ?_)))
              all_goals (try refine Side.mk ?_)
              all_goals (try simp only [Int.toNat_natCast, Nat.zero_add, bOf_b, chk_c, m_c, wi, Nat.succ_eq_add_one] at *)
              all_goals (try simp only [eq_self, decide_eq_true_eq, decide_eq_false_iff_not, Int.ofNat_lt, Int.ofNat_le, gt_iff_lt, ge_iff_le, true_and, Bool.not_eq_true', Bool.not_eq_false'] at *)
              all_goals first | (with_reducible rfl) | trivial | omega | rfl | exact fun _ _ => trivial | exact ⟨rfl, rfl⟩ | exact ⟨rfl, fun _ _ => rfl⟩ | exact ⟨rfl, rfl, fun _ _ => rfl⟩ | (exact ⟨by omega, by omega⟩) | (exact ⟨⟨by omega, by rw [← e1]; exact hl2⟩, by omega⟩) | (exact congrArg List.length e1) | (exact ⟨congrArg List.length e1, fun k hk2 j hj => .inr (rows_pr e1)⟩) | (exact ⟨rfl, congrArg List.length e1, fun k hk2 j hj => .inr (rows_pr e1)⟩) | (exact fun k hk2 j hj => .inr (rows_pr e1))
      · obtain rfl : i = n := by omega
        have hx := rE_ok (p := p) (q := q) hbig hl
        repeat' ((fail_if_success (with_reducible refine Side.mk ?_)); first | (refine Rest.mk (drawR_sound zES18_U mixOK (hndU_sound U32_k zHS18_U) ?_)) | ((fail_if_success (with_reducible refine Rest.mk ?_)); first | (with_reducible exact True.intro) | (with_reducible refine Need.mk ?_ ?_) | (with_reducible refine And.intro ?_ ?_) | (with_reducible intro hcl; try (exfalso; ((try simp only [decide_eq_true_eq, decide_eq_false_iff_not] at hcl); first | omega | (simp at hcl; omega) | ((try simp only [Int.toNat_natCast, Nat.zero_add, bOf_b, chk_c, m_c] at hcl); first | omega)); done)) | ((fail_if_success (with_reducible refine FinS.mk ?_)); (fail_if_success (with_reducible refine Le.mk ?_)); (conv => whnf)) | (refine FinS.b ?_) | (refine FinS.lb ?_) | (refine FinS.i ?_) | (refine FinS.f ?_) | (refine FinS.agg ?_) | (refine FinS.tup ?_)))
        all_goals (try (refine Le.of ?_; (conv => whnf)))
        repeat' ((fail_if_success (with_reducible refine Side.mk ?_)); first | (refine Rest.mk (drawR_sound zES18_U mixOK (hndU_sound U32_k zHS18_U) ?_)) | ((fail_if_success (with_reducible refine Rest.mk ?_)); first | (with_reducible exact True.intro) | (with_reducible refine Need.mk ?_ ?_) | (with_reducible refine And.intro ?_ ?_) | (with_reducible intro _) | ((fail_if_success (with_reducible refine FinS.mk ?_)); (fail_if_success (with_reducible refine Le.mk ?_)); (conv => whnf)) | (refine FinS.b ?_) | (refine FinS.lb ?_) | (refine FinS.i ?_) | (refine FinS.f ?_) | (refine FinS.agg ?_) | (refine FinS.tup ?_)))
        all_goals (try refine Side.mk ?_)
        all_goals (try simp only [eq_self, decide_eq_true_eq, decide_eq_false_iff_not, Int.ofNat_lt, Int.ofNat_le, gt_iff_lt, ge_iff_le, true_and, Bool.not_eq_true', Bool.not_eq_false'] at *)
        all_goals first | (with_reducible rfl) | trivial | omega | rfl | exact fun _ _ => trivial | exact ⟨rfl, rfl⟩ | exact ⟨rfl, fun _ _ => rfl⟩ | exact ⟨rfl, rfl, fun _ _ => rfl⟩ | (exact FinS.rows 0 ⟨rfl, hx.2.symm, fun k hk j hj => rfl⟩ ⟨⟨rfl, rfl, hx.2.symm⟩, ⟨rfl, hx.1.symm⟩, True.intro⟩) | (exact FinS.rows 0 ⟨rfl, hx.2.symm, fun k hk j hj => rfl⟩ ⟨⟨rfl, rfl, rfl, hx.2.symm⟩, ⟨rfl, hx.1.symm⟩, True.intro⟩)
end Go.Ev.Sweep
