/-
  The contract of awake, by closed runs; no condition.
-/
import Derived.Test.YtoilhalmmghhbaaPolyQ
import Derived.Test.YtoilhalmmghhbaaEvL
set_option linter.unusedSimpArgs false
set_option linter.unusedVariables false
open Go Go.Proofs
namespace Go.Ev.Poly.C
set_option maxRecDepth 100000
set_option maxHeartbeats 1000000
def ptA : List (List MV) := [[.f .f64 4611686018427387904, .f .f64 4611686018427387904], [.f .f64 0, .f .f64 0], [.f .f64 4607182418800017408, .f .f64 4607182418800017408], [.f .f64 4611686018427387904, .f .f64 0], [.f .f64 0, .f .f64 4611686018427387904], [.f .f64 4611686018427387904, .f .f64 0]]
def sqA : List (List MV) := [[.f .f64 0, .f .f64 0], [.f .f64 4611686018427387904, .f .f64 0], [.f .f64 4611686018427387904, .f .f64 4611686018427387904], [.f .f64 0, .f .f64 4611686018427387904]]
def sqB : List (List MV) := [[.f .f64 4613937818241073152, .f .f64 0], [.f .f64 4617315517961601024, .f .f64 0], [.f .f64 4617315517961601024, .f .f64 4611686018427387904], [.f .f64 4613937818241073152, .f .f64 4611686018427387904]]
def sqH : List (List MV) := [[.f .f64 0, .f .f64 0], [.f .f64 4611686018427387904, .f .f64 0]]
noncomputable def EC : Env := genQ Try.prog exts eqs (List.range 110) S48
theorem EC_full : EnvFull EC := genQ_full extsOK eqsOK S48_ok
def inR (k : Int) (n : Nat) : Bool := match k with
  | .ofNat i => Nat.blt i n
  | .negSucc _ => false
theorem inR_spec {k : Int} {n : Nat} (h : inR k n = true) : ∃ i : Nat, k = (i : Int) ∧ i < n := by
  cases k with
  | ofNat i => exact ⟨i, rfl, by simpa [inR] using h⟩
  | negSucc _ => cases h
def ptsB : Nat → (Nat → List MV) → Nat → Bool
  | 0, _, _ => true
  | c + 1, get, i => match get i with
    | .f .f64 _ :: .f .f64 _ :: _ => ptsB c get (i + 1)
    | _ => false
theorem ptsB_spec {get : Nat → List MV} : ∀ {c i : Nat}, ptsB c get i = true → ∀ j, j < c → getM (get (i + j)) 0 = .f .f64 (pOf get (i + j)).1 ∧ getM (get (i + j)) 1 = .f .f64 (pOf get (i + j)).2
  | 0, i, _, j, hj => by omega
  | c + 1, i, h, j, hj => by
    unfold ptsB at h
    split at h
    · rename_i x y tl e
      cases j with
      | zero => rw [Nat.add_zero]; unfold pOf; rw [e]; exact ⟨rfl, rfl⟩
      | succ j =>
        rw [show i + (j + 1) = i + 1 + j by omega]
        exact ptsB_spec h j (by omega)
    · cases h
theorem ptsB_pts {n : Nat} {get : Nat → List MV} (h : ptsB n get 0 = true) : isPts n get := fun i hi => by
  have := ptsB_spec h i hi
  rwa [Nat.zero_add] at this
noncomputable def g63 : List MV → Option (List Prop × MV × List Blk × Bool)
  | [.ro 2 4 get, .i .i64 k] => match ptsB 4 get 0 with | true => (match inR k 4 with | true => some ([], .agg (ptM (wayV 4 (pOf get) k.toNat)), [], false) | false => none) | false => none
  | _ => none
theorem s63 : SumsOK Try.prog (sumOf 63 g63 S48) := by
  refine SumsOK.add S48_ok fun ms ps m blks al e hp => ?_
  unfold g63 at e
  split at e
  · split at e
    · rename_i h0
      split at e
      · rename_i h1
        cases e
        obtain ⟨i, rfl, hi⟩ := inR_spec h1
        exact (le_arg1 (Go.Ev.Poly.t63 _ (pOf _) i hi (by decide)) (leR_pts (ptsB_pts h0))).aloneT rfl
      · cases e
    · cases e
  · cases e
noncomputable def S63 := sumOf 63 g63 S48
theorem S63_ok : SumsOK Try.prog S63 := s63
noncomputable def ED : Env := genQ Try.prog exts eqs (List.range 110) S63
theorem ED_full : EnvFull ED := genQ_full extsOK eqsOK S63_ok
noncomputable def fi11 : FnI := ⟨52, Try.f11.body.getD .skip, [.tmp 2, .tmp 3], true⟩
theorem fi11_ok : fnGen Try.prog 11 = some fi11 := by kernel_rfl
theorem t11 : CM Try.prog 11 [.ro 2 6 (tblGet ptA)] (packM [.os 0 2 0 4, .i .i64 0]) [.rows 2 4 (tblGet sqA)] true :=
  oRows_sound (E := EC) EC_full mixOK (fnGen_ok fi11_ok) rfl (L := 40) (k := 12) (sz := 2) (tb := sqA) (rs := [.os 0 2 0 4, .i .i64 0]) (by kernel_rfl)
noncomputable def g11 : List MV → Option (List Prop × MV × List Blk × Bool)
  | [.ro 2 6 get0] => match rowsAre 2 get0 0 ptA with | true => (some ([], .tup [.os 0 2 0 4, .i .i64 0], [.rows 2 4 (tblGet sqA)], true)) | false => none
  | _ => none
theorem s11 : SumsOK Try.prog (sumOf 11 g11 S63) := by
  refine SumsOK.add S63_ok fun ms ps m blks al e hp => ?_
  unfold g11 at e
  split at e
  · split at e
    · rename_i h0
      cases e
      refine CM.le t11 fun w ok vs r => ⟨r.len, fun j hj => ?_⟩
      have hj' : j = 0 := by simp at hj; omega
      rcases hj' with rfl
      · exact ro_are (r := ptA) h0 (r.rep 0 (by simp))
    · cases e
  · cases e
noncomputable def S11 := sumOf 11 g11 S63
theorem S11_ok : SumsOK Try.prog S11 := s11
noncomputable def fi29 : FnI := ⟨22, Try.f29.body.getD .skip, [.tmp 2, .tmp 3], true⟩
theorem fi29_ok : fnGen Try.prog 29 = some fi29 := by kernel_rfl
theorem t29 : CM Try.prog 29 [.ro 2 4 (tblGet sqA)] (packM [.f .f64 4616189618054758400, .i .i64 0]) [] true :=
  oTell_sound (E := EC) EC_full mixOK (fnGen_ok fi29_ok) rfl (L := 40) (k := 12) (rs := [.f .f64 4616189618054758400, .i .i64 0]) (by kernel_rfl)
noncomputable def g29 : List MV → Option (List Prop × MV × List Blk × Bool)
  | [.ro 2 4 get0] => match rowsAre 2 get0 0 sqA with | true => (some ([], .tup [.f .f64 4616189618054758400, .i .i64 0], [], false)) | false => none
  | _ => none
theorem s29 : SumsOK Try.prog (sumOf 29 g29 S11) := by
  refine SumsOK.add S11_ok fun ms ps m blks al e hp => ?_
  unfold g29 at e
  split at e
  · split at e
    · rename_i h0
      cases e
      refine CM.le (t29.aloneT rfl) fun w ok vs r => ⟨r.len, fun j hj => ?_⟩
      have hj' : j = 0 := by simp at hj; omega
      rcases hj' with rfl
      · exact ro_are (r := sqA) h0 (r.rep 0 (by simp))
    · cases e
  · cases e
noncomputable def S29 := sumOf 29 g29 S11
theorem S29_ok : SumsOK Try.prog S29 := s29
noncomputable def fi31 : FnI := ⟨37, Try.f31.body.getD .skip, [.cell 2 40, .tmp 3], true⟩
theorem fi31_ok : fnGen Try.prog 31 = some fi31 := by kernel_rfl
theorem t31 : CM Try.prog 31 [.ro 2 4 (tblGet sqA)] (packM [.agg [.f .f64 4607182418800017408, .f .f64 4607182418800017408], .i .i64 0]) [] true :=
  oTup_sound (E := EC) EC_full mixOK (fnGen_ok fi31_ok) rfl (L := 40) (k := 12) (r1 := .agg [.f .f64 4607182418800017408, .f .f64 4607182418800017408]) (r2 := .i .i64 0) (rs := []) (by kernel_rfl)
noncomputable def g31 : List MV → Option (List Prop × MV × List Blk × Bool)
  | [.ro 2 4 get0] => match rowsAre 2 get0 0 sqA with | true => (some ([], .tup [.agg [.f .f64 4607182418800017408, .f .f64 4607182418800017408], .i .i64 0], [], false)) | false => none
  | _ => none
theorem s31 : SumsOK Try.prog (sumOf 31 g31 S29) := by
  refine SumsOK.add S29_ok fun ms ps m blks al e hp => ?_
  unfold g31 at e
  split at e
  · split at e
    · rename_i h0
      cases e
      refine CM.le (t31.aloneT rfl) fun w ok vs r => ⟨r.len, fun j hj => ?_⟩
      have hj' : j = 0 := by simp at hj; omega
      rcases hj' with rfl
      · exact ro_are (r := sqA) h0 (r.rep 0 (by simp))
    · cases e
  · cases e
noncomputable def S31 := sumOf 31 g31 S29
theorem S31_ok : SumsOK Try.prog S31 := s31
noncomputable def fi16 : FnI := ⟨72, Try.f16.body.getD .skip, [.tmp 4, .tmp 5, .tmp 6], true⟩
theorem fi16_ok : fnGen Try.prog 16 = some fi16 := by kernel_rfl
theorem t16 : CM Try.prog 16 [.ro 2 4 (tblGet sqA), .ro 2 4 (tblGet sqB)] (packM [.i .i64 1, .f .f64 4607182418800017408, .i .i64 0]) [] true :=
  oTell_sound (E := EC) EC_full mixOK (fnGen_ok fi16_ok) rfl (L := 40) (k := 12) (rs := [.i .i64 1, .f .f64 4607182418800017408, .i .i64 0]) (by kernel_rfl)
noncomputable def g16 : List MV → Option (List Prop × MV × List Blk × Bool)
  | [.ro 2 4 get0, .ro 2 4 get1] => match rowsAre 2 get0 0 sqA with | true => (match rowsAre 2 get1 0 sqB with | true => (some ([], .tup [.i .i64 1, .f .f64 4607182418800017408, .i .i64 0], [], false)) | false => none) | false => none
  | _ => none
theorem s16 : SumsOK Try.prog (sumOf 16 g16 S31) := by
  refine SumsOK.add S31_ok fun ms ps m blks al e hp => ?_
  unfold g16 at e
  split at e
  · split at e
    · rename_i h0
      split at e
      · rename_i h1
        cases e
        refine CM.le (t16.aloneT rfl) fun w ok vs r => ⟨r.len, fun j hj => ?_⟩
        have hj' : j = 0 ∨ j = 1 := by simp at hj; omega
        rcases hj' with rfl | rfl
        · exact ro_are (r := sqA) h0 (r.rep 0 (by simp))
        · exact ro_are (r := sqB) h1 (r.rep 1 (by simp))
      · cases e
    · cases e
  · cases e
noncomputable def S16 := sumOf 16 g16 S31
theorem S16_ok : SumsOK Try.prog S16 := s16
noncomputable def fi22 : FnI := ⟨33, Try.f22.body.getD .skip, [.tmp 4, .tmp 5], true⟩
theorem fi22_ok : fnGen Try.prog 22 = some fi22 := by kernel_rfl
theorem t22 : CM Try.prog 22 [.ro 2 4 (tblGet sqA), .agg [.f .f64 4612811918334230528, .f .f64 4607182418800017408]] (packM [.b false, .i .i64 0]) [] true :=
  oTell_sound (E := ED) ED_full mixOK (fnGen_ok fi22_ok) rfl (L := 40) (k := 12) (rs := [.b false, .i .i64 0]) (by kernel_rfl)
noncomputable def g22 : List MV → Option (List Prop × MV × List Blk × Bool)
  | [.ro 2 4 get0, .agg [.f .f64 4612811918334230528, .f .f64 4607182418800017408]] => match rowsAre 2 get0 0 sqA with | true => (some ([], .tup [.b false, .i .i64 0], [], false)) | false => none
  | _ => none
theorem s22 : SumsOK Try.prog (sumOf 22 g22 S16) := by
  refine SumsOK.add S16_ok fun ms ps m blks al e hp => ?_
  unfold g22 at e
  split at e
  · split at e
    · rename_i h0
      cases e
      refine CM.le (t22.aloneT rfl) fun w ok vs r => ⟨r.len, fun j hj => ?_⟩
      have hj' : j = 0 ∨ j = 1 := by simp at hj; omega
      rcases hj' with rfl | rfl
      · exact ro_are (r := sqA) h0 (r.rep 0 (by simp))
      · exact r.rep 1 (by simp)
    · cases e
  · cases e
noncomputable def S22 := sumOf 22 g22 S16
theorem S22_ok : SumsOK Try.prog S22 := s22
noncomputable def fi13 : FnI := ⟨27, Try.f13.body.getD .skip, [.tmp 4], true⟩
theorem fi13_ok : fnGen Try.prog 13 = some fi13 := by kernel_rfl
theorem t13 : CM Try.prog 13 [.ro 2 4 (tblGet sqA), .ro 2 4 (tblGet sqA)] (packM [.b true]) [] true :=
  oTell_sound (E := EC) EC_full mixOK (fnGen_ok fi13_ok) rfl (L := 40) (k := 12) (rs := [.b true]) (by kernel_rfl)
noncomputable def g13 : List MV → Option (List Prop × MV × List Blk × Bool)
  | [.ro 2 4 get0, .ro 2 4 get1] => match rowsAre 2 get0 0 sqA with | true => (match rowsAre 2 get1 0 sqA with | true => (some ([], .b true, [], false)) | false => none) | false => none
  | _ => none
theorem s13 : SumsOK Try.prog (sumOf 13 g13 S22) := by
  refine SumsOK.add S22_ok fun ms ps m blks al e hp => ?_
  unfold g13 at e
  split at e
  · split at e
    · rename_i h0
      split at e
      · rename_i h1
        cases e
        refine CM.le (t13.aloneT rfl) fun w ok vs r => ⟨r.len, fun j hj => ?_⟩
        have hj' : j = 0 ∨ j = 1 := by simp at hj; omega
        rcases hj' with rfl | rfl
        · exact ro_are (r := sqA) h0 (r.rep 0 (by simp))
        · exact ro_are (r := sqA) h1 (r.rep 1 (by simp))
      · cases e
    · cases e
  · cases e
noncomputable def S13 := sumOf 13 g13 S22
theorem S13_ok : SumsOK Try.prog S13 := s13
noncomputable def fi19 : FnI := ⟨50, Try.f19.body.getD .skip, [.tmp 2], true⟩
theorem fi19_ok : fnGen Try.prog 19 = some fi19 := by kernel_rfl
theorem t19 : CM Try.prog 19 [.ro 2 2 (tblGet sqH)] (packM [.i .i64 60]) [] true :=
  oTell_sound (E := EC) EC_full mixOK (fnGen_ok fi19_ok) rfl (L := 40) (k := 12) (rs := [.i .i64 60]) (by kernel_rfl)
noncomputable def g19 : List MV → Option (List Prop × MV × List Blk × Bool)
  | [.ro 2 2 get0] => match rowsAre 2 get0 0 sqH with | true => (some ([], .i .i64 60, [], false)) | false => none
  | _ => none
theorem s19 : SumsOK Try.prog (sumOf 19 g19 S13) := by
  refine SumsOK.add S13_ok fun ms ps m blks al e hp => ?_
  unfold g19 at e
  split at e
  · split at e
    · rename_i h0
      cases e
      refine CM.le (t19.aloneT rfl) fun w ok vs r => ⟨r.len, fun j hj => ?_⟩
      have hj' : j = 0 := by simp at hj; omega
      rcases hj' with rfl
      · exact ro_are (r := sqH) h0 (r.rep 0 (by simp))
    · cases e
  · cases e
noncomputable def S19 := sumOf 19 g19 S13
theorem S19_ok : SumsOK Try.prog S19 := s19
noncomputable def fi9 : FnI := ⟨100, Try.f9.body.getD .skip, [.tmp 0], true⟩
theorem fi9_ok : fnGen Try.prog 9 = some fi9 := by kernel_rfl
noncomputable def EW : Env := genQ Try.prog exts eqs (List.range 110) S19
theorem t9 : CM Try.prog 9 [] (.b true) [] true :=
  oBool_sound (E := EW) (genQ_full extsOK eqsOK S19_ok) mixOK (fnGen_ok fi9_ok) rfl (L := 40) (k := 12) (by kernel_rfl)
end Go.Ev.Poly.C
