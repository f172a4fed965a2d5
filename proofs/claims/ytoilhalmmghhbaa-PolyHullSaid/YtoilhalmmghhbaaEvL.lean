/-
  The way from a contract of a law to the law, exact results, and calls that write what they are handed, for every program; no condition.
-/
import Derived.Test.YtoilhalmmghhbaaEvD
import Derived.ProofKit
import Derived.OpenShut
import Derived.Carry
import Derived.ChangeSlices
import Derived.Test.YtoilhalmmghhbaaEvC
set_option linter.unusedSimpArgs false
set_option linter.unusedVariables false
namespace Go.Ev
open Go.ChangeShapes Go.WideShapes Go.ChangeAt Go.RowKit
/-! ## From a contract of a law to what is asked of it -/
theorem trodAll_below {H : Type} {enc : TypeId × Value → H} {P : Program} (hl : laidOutB P = true) {W W' : World} (hb : Below W.heap.size W W') : ∀ {ts : List TypeId} {vs : List Value} {ds : List (DataW H)} {ps : List MemPlace},
    ts.all (fun t => P.readableRec t && decide (t < P.types.size)) = true → DataW.TrodAll enc P W 0 (fun _ => true) true ts vs ds ps → (∀ x ∈ ps, x.block < W.heap.size) →
    DataW.TrodAll enc P W' 0 (fun b => decide (b < W.heap.size)) true ts vs ds ps
  | [], vs, ds, ps, _, h, _ => by
    obtain ⟨rfl, rfl, rfl⟩ := trodAll_nil h
    exact trodAll_mk0
  | t :: ts, vs, ds, ps, hr, h, hlt => by
    obtain ⟨v, vs', d, ds', p, q, rfl, rfl, rfl, h1, h2⟩ := trodAll_cons h
    simp only [List.all_cons, Bool.and_eq_true, decide_eq_true_eq] at hr
    refine trodAll_cons_mk (Below.trod hl hr.1.1 hr.1.2 h1 hb fun x hx => hlt x (List.mem_append_left _ hx)) (trodAll_below hl hb ?_ h2 fun x hx => hlt x (List.mem_append_right _ hx))
    exact hr.2
theorem law_handed {C : Checked} {os : Os} {f : FuncId} {fn : Func} {s : ChangeSpec} {conds : List PathCond} {apart : Bool} {a : Assume} {H : Type} {enc : TypeId × Value → H} {tb : TypeId} (hl : laidOutB C.prog = true)
    (own : ownKnob C.prog.godebug = none) (started : os.Started) (noInit : C.prog.inits.idxOf? f = none) (hfn : C.prog.funcs[f]? = some fn)
    (hread : fn.params.toList.all (fun t => C.prog.readableRec t && decide (t < C.prog.types.size)) = true)
    (witness : ∃ (w : World) (tape : Tape) (i : Input), w.os = os ∧ (w.forCall tape i).Shaped C.prog ∧ i.vars = [] ∧ Input.okWide C.prog (w.forCall tape i) .any w.heap.size f i ∧
      s.pre6 enc C.prog fn conds apart (w.forCall tape i).memory i.args ∧ a.holds C.prog (lone (Frame.enter C.prog f i.args .normal) [] (w.forCall tape i)))
    (hvars : s.vars = []) (hres : fn.resultTypes = #[tb]) (htb : C.prog.underlying tb = some .bool)
    (hs : ∀ ds : List (DataW H), ds.length = fn.params.toList.length → (s.fn H ds).results = [.lit (.bool true)] ∧ (s.fn H ds).args = ds ∧ (s.fn H ds).vars = [])
    (h : ∀ (W : World) (args : Array Value) (ds : List (DataW H)) (ps : List MemPlace), (∀ (j : Nat) t v, fn.params[j]? = some t → args[j]? = some v → Value.okWide C.prog W .any W.heap.size t v) →
      DataW.TrodAll enc C.prog W 0 (fun _ => true) true fn.params.toList args.toList ds ps → (∀ x ∈ ps, x.block < W.heap.size) →
      (DataW.weightsEach C.prog fn.params.toList ds).all (· ≤ reachBytes) = true →
      Calls C.prog f args W fun e W' => e = .returned (.bool true) ∧ Below W.heap.size W W') :
    ReturnsInHanded a C os f .any (s.pre6 enc C.prog fn conds apart) (s.post enc C.prog fn apart true false false) := by
  refine returnsInHanded_of_calls own started noInit witness ?_
  intro w tape i _ _ _ hok hpre hholds
  obtain ⟨_, _, _, fn', hfn', _, _, _, _, hval⟩ := hok
  have e : fn' = fn := Option.some.inj (hfn'.symm.trans hfn)
  subst e
  obtain ⟨⟨ds, gs, before, hw, hc⟩, hz⟩ := hpre
  have hwt := hz.weights hw
  have hw' := DataW.Whole.of_heap (w' := w.forCall tape i) (by rfl) hw
  have hlt := hw'.lt
  have hW := hw'
  obtain ⟨p, q, hA, hV, rfl, hfz, hnd⟩ := hW
  rw [hvars] at hV
  obtain ⟨rfl, rfl⟩ := trodVars_none hV
  have len : ∀ {ts : List TypeId} {vs : List Value} {ds : List (DataW H)} {ps : List MemPlace}, DataW.TrodAll enc C.prog (w.forCall tape i) 0 (fun _ => true) true ts vs ds ps → ds.length = ts.length := by
    intro ts
    induction ts with
    | nil => intro vs ds ps h; obtain ⟨_, rfl, _⟩ := trodAll_nil h; rfl
    | cons t ts ih =>
      intro vs ds ps h
      obtain ⟨v, vs', d, ds', p, q, rfl, rfl, rfl, h1, h2⟩ := trodAll_cons h
      simp [ih h2]
  have hlen := len hA
  obtain ⟨s1, s2, s3⟩ := hs ds hlen
  have hwt' : (DataW.weightsEach C.prog fn'.params.toList ds).all (· ≤ reachBytes) = true := by
    have : s.plain.varTypes C.prog = [] := by
      unfold DataSpec.varTypes ChangeSpec.plain
      simp [hvars]
    have e2 : (OpenSpec.ofChange s).bare.plain.varTypes C.prog = s.plain.varTypes C.prog := rfl
    rw [e2, this, List.append_nil, List.append_nil] at hwt
    exact hwt
  refine (h (w.forCall tape i) i.args ds p (fun j t v h1 h2 => Value.okWide_any_base (hval j t v h1 h2)) hA (fun x hx => hlt x (by simp [hx])) hwt').mono fun e W' ⟨he, hb⟩ => ?_
  subst he
  refine ChangeSpec.post_blind ⟨ds, [], _, [], p, [], hw', ?_, ?_, ?_, hb.frame _, fun h => by cases h⟩
  · rw [List.append_nil, s1, hres]
    exact trodAll_mk1 (shut_bool htb true)
  · rw [List.append_nil, s2]
    exact trodAll_below hl hb hread hA fun x hx => hlt x (by simp [hx])
  · rw [List.append_nil, s3, hvars]
    rfl
end Go.Ev

namespace Go.Ev
open Go.ChangeShapes Go.WideShapes Go.ChangeAt Go.RowKit
/-! ## Plain cells: whole numbers, floats, bools -/
inductive CK where
  | i (k : IntKind)
  | f (k : FloatKind)
  | b
def intOf : Value → Int
  | .int _ n => n
  | _ => 0
def fltOf : Value → Nat
  | .float _ n => n
  | _ => 0
def boolOf : Value → Bool
  | .bool b => b
  | _ => false
def mkM : CK → Value → MV
  | .i k, v => .i k (intOf v)
  | .f k, v => .f k (canon k (fltOf v))
  | .b, v => .b (boolOf v)
def CKok : CK → Value → Prop
  | .i k, v => v = .int k (intOf v) ∧ (Lit.int k (intOf v)).wf = true
  | .f k, v => v = .float k (fltOf v) ∧ fltOf v < 2 ^ k.format.width
  | .b, v => v = .bool (boolOf v)
theorem mkM_rep {k : CK} {v : Value} (h : CKok k v) {w : World} {G : GT} {ρ : RhoT} {ok : OkT} : Rep w G ρ ok (mkM k v) v := by
  cases k with
  | i k => obtain ⟨h, _⟩ := h; show Rep w G ρ ok (.i k (intOf v)) v; rw [h]; exact .i _ _
  | f k =>
    obtain ⟨h, hb⟩ := h
    show Rep w G ρ ok (.f k (canon k (fltOf v))) v
    generalize hx : fltOf v = x at h hb ⊢
    subst h
    exact .f _ _ _ (canon_FR k x hb)
  | b => show Rep w G ρ ok (.b (boolOf v)) v; rw [show v = .bool (boolOf v) from h]; exact .b _
theorem CKok.one {k : CK} {v : Value} (h : CKok k v) : v.oneCell' = true := by
  cases k with
  | i k => rw [h.1]; rfl
  | f k => rw [h.1]; rfl
  | b => rw [show v = .bool (boolOf v) from h]; rfl
def mkRow : List CK → Nat → (Nat → Value) → List MV
  | [], _, _ => []
  | k :: r, j, u => mkM k (u j) :: mkRow r (j + 1) u
theorem mkRow_get : ∀ {l : List CK} {j i : Nat} {u : Nat → Value} {k : CK}, l[i]? = some k → getM (mkRow l j u) i = mkM k (u (j + i))
  | [], j, i, u, k, h => by simp at h
  | x :: r, j, 0, u, k, h => by simp at h; subst h; simp [mkRow, getM]
  | x :: r, j, i + 1, u, k, h => by
    have := mkRow_get (l := r) (j := j + 1) (i := i) (u := u) (by simpa using h)
    rw [show j + (i + 1) = j + 1 + i by omega, ← this]
    simp [mkRow, getM]
def kindsF (P : Program) (kT : TypeId → Option (List CK)) (sz : Nat) : List Field → List CK → Option (List CK)
  | [], acc => match Nat.beq acc.length sz with
    | true => some acc
    | false => none
  | f :: r, acc => match Nat.beq f.offset acc.length with
    | false => none
    | true => match kT f.type with
      | none => none
      | some l => match Nat.beq l.length (P.cellsOf f.type) with
        | false => none
        | true => kindsF P kT sz r (acc ++ l)
/-- The cells of a plain type, if it is one. -/
def kindsT (P : Program) : Nat → TypeId → Option (List CK)
  | 0, _ => none
  | m + 1, t => match P.underlying t with
    | some (.int k) => some [.i k]
    | some (.float k) => some [.f k]
    | some .bool => some [.b]
    | some (.struct fs) => kindsF P (kindsT P m) (P.cellsOf t) fs.toList []
    | some (.array n e) => match kindsT P m e with
      | none => none
      | some l => match Nat.beq l.length (P.cellsOf e) && Nat.beq (n * P.cellsOf e) (P.cellsOf t) with
        | true => some (List.replicate n l).flatten
        | false => none
    | _ => none
def AllCK (l : List CK) (cs : List Value) : Prop := cs.length = l.length ∧ ∀ (j : Nat) (k : CK) (v : Value), l[j]? = some k → cs[j]? = some v → CKok k v
theorem AllCK.app {l l' : List CK} {cs : List Value} (hlen : cs.length = l.length + l'.length) (h1 : AllCK l (cs.take l.length)) (h2 : AllCK l' (cs.drop l.length)) : AllCK (l ++ l') cs := by
  refine ⟨by simp [hlen], fun j k v hk hv => ?_⟩
  rcases Nat.lt_or_ge j l.length with h | h
  · rw [List.getElem?_append_left h] at hk
    exact h1.2 j k v hk (by rw [List.getElem?_take, if_pos h]; exact hv)
  · rw [List.getElem?_append_right h] at hk
    exact h2.2 (j - l.length) k v hk (by rw [List.getElem?_drop, show l.length + (j - l.length) = j by omega]; exact hv)
section
variable {H : Type} {enc : TypeId × Value → H} {P : Program} {w : World} {base : Nat} {spare : Nat → Bool} {held : Bool}
theorem trod_float {t : TypeId} {k : FloatKind} {fuel : Nat} {cs : List Value} {x : DataW H × List MemPlace} (ht : P.underlying t = some (.float k)) (h : DataW.trod enc P w base spare held fuel t cs = some x) :
    ∃ b, cs = [.float k b] ∧ (Lit.float k b).wf = true := by
  cases fuel with
  | zero => simp [DataW.trod] at h
  | succ n =>
    unfold DataW.trod at h
    rw [ht] at h
    split at h <;> simp_all
theorem trod_plain : ∀ {m : Nat} {t : TypeId} {ks : List CK}, kindsT P m t = some ks → ∀ {fuel : Nat} {cs : List Value} {x : DataW H × List MemPlace}, DataW.trod enc P w base spare held fuel t cs = some x → AllCK ks cs
  | 0, t, ks, hk, _, _, _, _ => by simp [kindsT] at hk
  | m + 1, t, ks, hk, fuel, cs, x, h => by
    unfold kindsT at hk
    split at hk
    · rename_i k ht
      cases hk
      obtain ⟨n, rfl, _, hw⟩ := DataW.trod_int ht h
      refine ⟨rfl, fun j k' v h1 h2 => ?_⟩
      cases j with
      | zero => simp at h1 h2; subst h1; subst h2; exact ⟨rfl, hw⟩
      | succ j => simp at h1
    · rename_i k ht
      cases hk
      obtain ⟨n, rfl, hw⟩ := trod_float ht h
      refine ⟨rfl, fun j k' v h1 h2 => ?_⟩
      cases j with
      | zero =>
        simp at h1 h2; subst h1; subst h2
        refine ⟨rfl, ?_⟩
        show n < _
        cases k <;> exact of_decide_eq_true hw
      | succ j => simp at h1
    · rename_i ht
      cases hk
      obtain ⟨n, rfl, _⟩ := DataW.trod_bool ht h
      refine ⟨rfl, fun j k' v h1 h2 => ?_⟩
      cases j with
      | zero => simp at h1 h2; subst h1; subst h2; rfl
      | succ j => simp at h1
    · rename_i fs ht
      obtain ⟨xs, n, _, _, hl, _, hf⟩ := DataW.trod_struct ht h
      have key : ∀ (l : List Field) (acc : List CK), (∀ f ∈ l, ∃ y, DataW.trod enc P w base spare held n f.type ((cs.drop f.offset).take (P.cellsOf f.type)) = some y) → AllCK acc (cs.take acc.length) → acc.length ≤ cs.length → kindsF P (kindsT P m) (P.cellsOf t) l acc = some ks → AllCK ks cs := by
        intro l
        induction l with
        | nil =>
          intro acc _ ha hle hk
          unfold kindsF at hk
          split at hk
          · rename_i e
            cases hk
            have e := Nat.eq_of_beq_eq_true e
            rw [e, ← hl, List.take_length] at ha
            exact ha
          · cases hk
        | cons f r ih =>
          intro acc hall ha hle hk
          unfold kindsF at hk
          split at hk
          · cases hk
          · rename_i e
            have e := Nat.eq_of_beq_eq_true e
            split at hk
            · cases hk
            · rename_i l' hl'
              split at hk
              · cases hk
              · rename_i e2
                have e2 := Nat.eq_of_beq_eq_true e2
                obtain ⟨y, hy⟩ := hall f (by simp)
                have := trod_plain hl' hy
                have hlen := this.1
                rw [List.length_take, List.length_drop] at hlen
                have hle2 : acc.length + l'.length ≤ cs.length := by omega
                refine ih (acc ++ l') (fun g hg => hall g (by simp [hg])) ?_ (by simpa using hle2) hk
                rw [List.length_append]
                refine AllCK.app (by simp; omega) ?_ ?_
                · rw [List.take_take, show min acc.length (acc.length + l'.length) = acc.length by omega]; exact ha
                · rw [e, ← e2] at this
                  rw [List.drop_take, show acc.length + l'.length - acc.length = l'.length by omega]
                  exact this
      refine key fs.toList [] ?_ ⟨rfl, fun j k v h1 => by simp at h1⟩ (by simp) hk
      intro f hf'
      obtain ⟨i, hi⟩ := List.getElem?_of_mem hf'
      have hi' : fs[i]? = some f := by simpa using hi
      have := hf i f hi'
      have hlt : i < xs.length := by
        have h1 := (Array.getElem?_eq_some_iff.1 hi').1
        omega
      exact ⟨xs[i], by rw [this]; exact List.getElem?_eq_getElem hlt⟩
    · rename_i n e ht
      split at hk
      · cases hk
      · rename_i l hl
        split at hk
        · rename_i hb
          rw [Bool.and_eq_true] at hb
          have e1 := Nat.eq_of_beq_eq_true hb.1
          have e2 := Nat.eq_of_beq_eq_true hb.2
          cases hk
          obtain ⟨xs, fu, _, _, hlen, hxs, hf⟩ := DataW.trod_array ht h
          rw [← e2] at hlen
          have key : ∀ m, m ≤ n → AllCK (List.replicate m l).flatten (cs.take (m * l.length)) := by
            intro m
            induction m with
            | zero => intro _; exact ⟨by simp, fun j k v h1 => by simp at h1⟩
            | succ m ih =>
              intro hm
              have ih := ih (by omega)
              have hi := hf m (by omega)
              have hlt : m < xs.length := by omega
              rw [List.getElem?_eq_getElem hlt] at hi
              have := trod_plain hl hi
              have hfl : (List.replicate m l).flatten.length = m * l.length := by simp
              rw [List.replicate_succ', List.flatten_append, List.flatten_cons, List.flatten_nil, List.append_nil]
              have hmul : (m + 1) * l.length = m * l.length + l.length := Nat.succ_mul _ _
              have hle : (m + 1) * l.length ≤ cs.length := by rw [hlen, ← e1]; exact Nat.mul_le_mul_right _ hm
              refine AllCK.app (by rw [hfl, List.length_take]; omega) ?_ ?_
              · rw [hfl, List.take_take, show min (m * l.length) ((m + 1) * l.length) = m * l.length by omega]; exact ih
              · rw [hfl, List.drop_take, show (m + 1) * l.length - m * l.length = l.length by omega]
                rw [← e1] at this
                exact this
          have := key n (Nat.le_refl _)
          rw [show n * l.length = cs.length by rw [hlen, e1], List.take_length] at this
          exact this
        · cases hk
    · cases hk
end
section
variable {H : Type} {enc : TypeId × Value → H} {P : Program} {W : World}
theorem okWide_slice {t e : TypeId} {b0 : Nat} {v : Value} (ht : P.underlying t = some (.slice e)) (hval : Value.okWide P W .any b0 t v) : (v = .slice none 0 0) ∨ ∃ b off len cap, v = .slice (some ⟨b, off, none⟩) len cap := by
  have h1 : Cell.ok P W .any b0 t v := by
    unfold Value.okWide at hval
    rw [ht] at hval
    dsimp only at hval
    unfold Cell.okWide at hval
    rw [ht] at hval
    cases v <;> exact hval
  unfold Cell.ok at h1
  rw [ht] at h1
  split at h1
  all_goals first
    | exact h1.elim
    | (rename_i h2; cases h2; done)
    | exact .inl rfl
    | (rename_i a len cap h2; obtain ⟨_, _, _, hs, _⟩ := h1; obtain ⟨b, off, sp⟩ := a; dsimp only at hs; subst hs; exact .inr ⟨b, off, len, cap, rfl⟩)
   
/-- A slice of plain things that is handed over. -/
theorem open_slice {t e : TypeId} {b0 : Nat} {v : Value} {d : DataW H} {ps : List MemPlace} {m : Nat} {ks : List CK} (ht : P.underlying t = some (.slice e)) (hk : kindsT P m e = some ks) (hks : ks.length = P.cellsOf e) (hpos : 0 < ks.length)
    (hval : Value.okWide P W .any b0 t v) (hd : DataW.Trod enc P W 0 (fun _ => true) true t v d ps) (hw : (DataW.weights P t d).all (· ≤ reachBytes) = true) :
    ∃ (n : Nat) (u : Nat → Nat → Value), (∀ i, i < n → ∀ j k, ks[j]? = some k → CKok k (u i j)) ∧ Rep W G0 rho0 (fun b => b < W.heap.size) (.ro ks.length n fun i => mkRow ks 0 (u i)) v ∧ n * P.bytesOf e ≤ reachBytes := by
  have hcell : v.cells.toList = [v] := by
    rcases okWide_slice ht hval with rfl | ⟨b, off, len, cap, rfl⟩ <;> rfl
  obtain ⟨fuel, hf⟩ := hd
  rw [hcell] at hf
  rcases DataW.trod_slice ht hf with ⟨h0, _⟩ | ⟨a, len, cap, elems, rest, n, _, h0, hx, hb, hl, hm, hlen, hel, hsp, hns⟩
  · simp at h0
    subst h0
    exact ⟨0, fun _ _ => undef, fun i hi => absurd hi (Nat.not_lt_zero _), .ronil _ _, by simp⟩
  · simp at h0
    subst h0
    rcases okWide_slice ht hval with e0 | ⟨b, off, len', cap', e0⟩
    · cases e0
    cases e0
    have each : ∀ i, i < len → ∃ cs, AllCK ks cs ∧ cs.length = ks.length ∧ ∀ j, j < ks.length → W.cell? ⟨b, off + (i * ks.length + j), none⟩ = cs[j]? := by
      intro i hi
      have h1 := hel i hi
      rw [List.getElem?_eq_getElem (by omega), Option.bind_eq_some_iff] at h1
      obtain ⟨cs, h1, h2⟩ := h1
      have h3 := trod_plain hk h2
      obtain ⟨_, h4, h5⟩ := World.cells?_some h1
      refine ⟨cs, h3, h3.1, fun j hj => ?_⟩
      have := h5 j (by omega)
      rw [add_plain, add_plain] at this
      rw [← this, hks, Nat.add_assoc]
    have hchoice : ∃ u : Nat → Nat → Value, ∀ i, i < len → ∀ j k, ks[j]? = some k → W.cell? ⟨b, off + (i * ks.length + j), none⟩ = some (u i j) ∧ CKok k (u i j) := by
      refine ⟨fun i j => (W.cell? ⟨b, off + (i * ks.length + j), none⟩).getD undef, fun i hi j k hk' => ?_⟩
      obtain ⟨cs, h1, h2, h3⟩ := each i hi
      have hj : j < ks.length := (List.getElem?_eq_some_iff.1 hk').1
      have h4 := h3 j hj
      have h5 : cs[j]? = some cs[j] := List.getElem?_eq_getElem (by omega)
      rw [h5] at h4
      dsimp only
      rw [h4]
      exact ⟨rfl, h1.2 j k _ hk' h5⟩
    obtain ⟨u, hu⟩ := hchoice
    refine ⟨len, u, fun i hi j k hk' => (hu i hi j k hk').2, ?_, ?_⟩
    · have at' : ∀ j, j < ks.length → ∃ k, ks[j]? = some k := fun j hj => ⟨ks[j], List.getElem?_eq_getElem hj⟩
      refine .ro _ _ _ b off cap u hl ?_ ?_ ?_ ?_
      · intro hp
        obtain ⟨k, hk'⟩ := at' 0 hpos
        have := (hu 0 hp 0 k hk').1
        unfold World.cell? at this
        by_cases hlt : b < W.heap.size
        · exact hlt
        · have : W.heap[b]? = none := by simp; omega
          simp_all
      · intro i hi j hj
        obtain ⟨k, hk'⟩ := at' j hj
        exact (hu i hi j k hk').1
      · intro i hi j hj
        obtain ⟨k, hk'⟩ := at' j hj
        exact (hu i hi j k hk').2.one
      · intro i hi j hj
        obtain ⟨k, hk'⟩ := at' j hj
        rw [mkRow_get hk', Nat.zero_add]
        exact mkM_rep (hu i hi j k hk').2
    · simp only [Prod.mk.injEq] at hx
      rw [hx.1] at hw
      unfold DataW.weights at hw
      rw [ht] at hw
      simp only [List.all_cons, Bool.and_eq_true, decide_eq_true_eq, List.length_map] at hw
      refine Nat.le_trans (Nat.mul_le_mul_right _ ?_) hw.1
      omega
end
end Go.Ev

namespace Go.Ev
open Ieee
theorem nearest_zero (f : Format) (s : Bool) (place : Int) : f.nearest s 0 place = f.word s 0 := by unfold Format.nearest; simp
theorem rg_word (f : Format) (s : Bool) {r : Nat} (h : r < f.signWeight) : rg f (f.word s r) = r ∧ sgn f (f.word s r) = s := by
  refine ⟨word_rung f s h, ?_⟩
  unfold sgn Format.word
  have hp : 0 < f.signWeight := Nat.two_pow_pos _
  cases s
  · simp [Nat.div_eq_of_lt h]
  · have : (f.signWeight + r) / f.signWeight = 1 := by
      rw [Nat.add_div_left _ hp, Nat.div_eq_of_lt h]
    simp [this]
theorem read_kind (k : FloatKind) {x : Nat} (h : fin k x = true) : ∃ m e, k.format.read x = .number (neg k x) m (k.format.leastPlace + (e : Nat)) ∧ m * 2 ^ e = magOf k.format (rg k.format x) := read_fin _ x (of_decide_eq_true h)
theorem fin_not_nan {k : FloatKind} {x : Nat} (h : fin k x = true) : isNan k x = false := by
  rw [isNan_eq]; have := of_decide_eq_true h; simp; omega
theorem fsub_self_not {k : FloatKind} {x : Nat} (h : fin k x = false) : fsub k x x = qnan k := by
  have h' := of_decide_eq_false h
  unfold fsub Format.sub
  by_cases hi : rg k.format x = k.format.infRung
  · rw [read_inf _ x (k_le k) hi]
    simp only [Datum.opposite, Datum.sum]
    cases sgn k.format x <;> simp
  · have hn : isNan k x = true := by rw [isNan_eq]; simp; omega
    obtain ⟨s, t, e⟩ := read_nan hn
    rw [e]
    simp [Datum.sum]
end Go.Ev

namespace Go.Ev
open Ieee
/-! ## Bits -/
theorem shr_nat (r s : Nat) (hs : s ≤ 64) : ishr .u64 (r : Int) (s : Int) = ((r / 2 ^ s : Nat) : Int) := by
  unfold ishr
  have : min (Int.toNat (s : Int)) IntKind.u64.bits = s := by
    show min (Int.toNat (s : Int)) 64 = s
    rw [Int.toNat_natCast]; omega
  rw [this]
  rw [Int.fdiv_eq_ediv_of_nonneg _ (Int.le_of_lt (Int.pow_pos (by decide)))]
  simp
theorem wrap_u64 (n : Nat) : IntKind.u64.wrap (n : Int) = ((n % 2 ^ 64 : Nat) : Int) := by
  show (if (false && decide ((n : Int) % (2 ^ 64 : Int) ≥ (2 ^ 63 : Int))) = true then (n : Int) % (2 ^ 64 : Int) - (2 ^ 64 : Int) else (n : Int) % (2 ^ 64 : Int)) = _
  simp
end Go.Ev

namespace Go.Ev
open Ieee
/-! Products within bounds are finite, sums of finite numbers are numbers. -/
theorem cut_le (s : Bool) (n drop b : Nat) (h : n < 2 ^ (drop + b)) : Toward.even.cut s n drop ≤ 2 ^ b := by
  unfold Toward.cut
  have hg : (1 <<< min drop (n.log2 + 2)) = 2 ^ min drop (n.log2 + 2) := by rw [Nat.shiftLeft_eq, Nat.one_mul]
  rw [hg]
  have hl : n / 2 ^ min drop (n.log2 + 2) < 2 ^ b := by
    by_cases hd : drop ≤ n.log2 + 2
    · rw [Nat.min_eq_left hd]
      rw [Nat.div_lt_iff_lt_mul (Nat.two_pow_pos _), ← Nat.pow_add, Nat.add_comm b]; exact h
    · rw [Nat.min_eq_right (by omega)]
      have h1 : n < 2 ^ (n.log2 + 2) := by
        have := Nat.lt_log2_self (n := n)
        exact Nat.lt_of_lt_of_le this (Nat.pow_le_pow_right (by omega) (by omega))
      rw [Nat.div_eq_of_lt h1]
      exact Nat.two_pow_pos _
  have hm : ∀ c : Bool, c.toNat ≤ 1 := by intro c; cases c <;> decide
  dsimp only
  have := hm (decide (2 ^ min drop (n.log2 + 2) < 2 * (n % 2 ^ min drop (n.log2 + 2))) || (2 ^ min drop (n.log2 + 2) == 2 * (n % 2 ^ min drop (n.log2 + 2)) && n / 2 ^ min drop (n.log2 + 2) % 2 == 1))
  omega
/-- A number below 2 ^ top, told with its place, is written as a finite one. -/
theorem nearest_fin (f : Format) (s : Bool) (mag : Nat) (place top : Int) (h : mag = 0 ∨ place + (mag.log2 : Nat) < top) (h1 : f.leastPlace + f.fractionBits + 1 ≤ top)
    (h2 : ((top - f.fractionBits - f.leastPlace).toNat + 1) * f.binade < f.infRung) (hw : f.infRung < f.signWeight) : rg f (f.nearest s mag place) < f.infRung := by
  have hb := binade_pos f
  by_cases h0 : mag = 0
  · subst h0
    rw [nearest_zero]
    have : 0 < f.infRung := by have := Nat.zero_le (((top - f.fractionBits - f.leastPlace).toNat + 1) * f.binade); omega
    rw [(rg_word f s (r := 0) (by omega)).1]; exact this
  · replace h := h.resolve_left h0
    unfold Format.nearest
    rw [if_neg h0]
    dsimp only
    generalize hl : max (place + (mag.log2 : Nat) - f.fractionBits) f.leastPlace = last
    have hlt := Nat.lt_log2_self (n := mag)
    have hk : Toward.even.cut s (mag <<< (place - last).toNat) (last - place).toNat ≤ 2 ^ (f.fractionBits + 1) := by
      apply cut_le
      rw [Nat.shiftLeft_eq]
      refine Nat.lt_of_lt_of_le (Nat.mul_lt_mul_of_pos_right hlt (Nat.two_pow_pos _)) ?_
      rw [← Nat.pow_add]
      exact Nat.pow_le_pow_right (by omega) (by omega)
    have hq : (last - f.leastPlace).toNat + 1 ≤ (top - f.fractionBits - f.leastPlace).toNat := by omega
    have e2 : 2 ^ (f.fractionBits + 1) = 2 * f.binade := by unfold Format.binade; rw [Nat.pow_succ, Nat.mul_comm]
    have hm : ((last - f.leastPlace).toNat + 1 + 1) * f.binade ≤ ((top - f.fractionBits - f.leastPlace).toNat + 1) * f.binade := Nat.mul_le_mul_right _ (by omega)
    have hm2 : ((last - f.leastPlace).toNat + 1 + 1) * f.binade = (last - f.leastPlace).toNat * f.binade + 2 * f.binade := by
      rw [Nat.add_assoc, Nat.add_mul]
    generalize Toward.even.cut s (mag <<< (place - last).toNat) (last - place).toNat = kept at *
    have hr : (last - f.leastPlace).toNat * f.binade + kept < f.infRung := by omega
    rw [Nat.min_eq_left (by omega), (rg_word f s (by omega)).1]
    exact hr
theorem log2_prod {m n i j A : Nat} (h : m * 2 ^ i * (n * 2 ^ j) < 2 ^ A) (h0 : m * n ≠ 0) : (m * n).log2 + i + j < A := by
  have e : m * 2 ^ i * (n * 2 ^ j) = m * n * 2 ^ (i + j) := by rw [Nat.pow_add]; ac_rfl
  rw [e] at h
  have h1 := Nat.log2_self_le h0
  have h2 : 2 ^ ((m * n).log2 + (i + j)) < 2 ^ A := by
    rw [Nat.pow_add]
    exact Nat.lt_of_le_of_lt (Nat.mul_le_mul_right _ h1) h
  have := (Nat.pow_lt_pow_iff_right (a := 2) (by omega)).1 h2
  omega
/-- The product of two finite numbers of known size is finite. -/
theorem fmul_fin {x y rx ry : Nat} (hx : fin .f64 x = true) (hy : fin .f64 y = true) (bx : rg Ieee.double x ≤ rx) (by' : rg Ieee.double y ≤ ry)
    (hb : magOf Ieee.double rx * magOf Ieee.double ry < 2 ^ 3100) : fin .f64 (fmul .f64 x y) = true := by
  obtain ⟨m, i, h1, h2⟩ := read_kind .f64 hx
  obtain ⟨n, j, g1, g2⟩ := read_kind .f64 hy
  unfold fmul Format.mul
  rw [h1, g1]
  simp only [Datum.product, Option.map_some, Option.getD_some, Format.write]
  unfold fin
  refine decide_eq_true ?_
  have mle : ∀ {r s : Nat}, r ≤ s → magOf Ieee.double r ≤ magOf Ieee.double s := fun {r s} h => by
    rcases Nat.lt_or_eq_of_le h with h | h
    · exact Nat.le_of_lt (magOf_mono _ h)
    · rw [h]; exact Nat.le_refl _
  refine nearest_fin FloatKind.f64.format _ (m * n) _ 1000 ?_ (by decide) (by decide +kernel) (by decide +kernel)
  by_cases h0 : m * n = 0
  · exact .inl h0
  · right
    have h3 : m * 2 ^ i * (n * 2 ^ j) < 2 ^ 3100 := by
      rw [h2, g2]
      exact Nat.lt_of_le_of_lt (Nat.mul_le_mul (mle bx) (mle by')) hb
    have h4 := log2_prod h3 h0
    have hl : FloatKind.f64.format.leastPlace = -1074 := by decide
    rw [hl]
    omega
/-- The sum of two finite numbers is a number; so is one of a number and a finite one. -/
theorem fadd_num {x y : Nat} (hx : isNan .f64 x = false) (hy : fin .f64 y = true) : isNan .f64 (fadd .f64 x y) = false := by
  obtain ⟨n, j, g1, g2⟩ := read_kind .f64 hy
  unfold fadd Format.add
  rw [g1]
  unfold isNan at hx ⊢
  cases e : FloatKind.f64.format.read x with
  | nan => rw [e] at hx; cases hx
  | infinity s => simp only [Datum.sum, Option.map_some, Option.getD_some]; exact write_not_nan _ _ rfl
  | number s m i => simp only [Datum.sum, Option.map_some, Option.getD_some]; exact write_not_nan _ _ rfl
theorem fsub_num {x y : Nat} (hx : isNan .f64 x = false) (hy : fin .f64 y = true) : isNan .f64 (fsub .f64 x y) = false := by
  obtain ⟨n, j, g1, g2⟩ := read_kind .f64 hy
  unfold fsub Format.sub
  rw [g1]
  unfold isNan at hx ⊢
  cases e : FloatKind.f64.format.read x with
  | nan => rw [e] at hx; cases hx
  | infinity s => simp only [Datum.opposite, Datum.sum, Option.map_some, Option.getD_some]; exact write_not_nan _ _ rfl
  | number s m i => simp only [Datum.opposite, Datum.sum, Option.map_some, Option.getD_some]; exact write_not_nan _ _ rfl
end Go.Ev

namespace Go.Ev
open Ieee
/-! Differences of bounded numbers are bounded; roots of what is not negative are numbers. -/
theorem nearest_le (f : Format) (s : Bool) (mag : Nat) (place top : Int) (h : mag = 0 ∨ place + (mag.log2 : Nat) < top) (h1 : f.leastPlace + f.fractionBits + 1 ≤ top)
    (h2 : ((top - f.fractionBits - f.leastPlace).toNat + 1) * f.binade < f.infRung) (hw : f.infRung < f.signWeight) :
    rg f (f.nearest s mag place) ≤ ((top - f.fractionBits - f.leastPlace).toNat + 1) * f.binade ∧ sgn f (f.nearest s mag place) = s := by
  have hb := binade_pos f
  by_cases h0 : mag = 0
  · subst h0
    rw [nearest_zero]
    have : 0 < f.infRung := by have := Nat.zero_le (((top - f.fractionBits - f.leastPlace).toNat + 1) * f.binade); omega
    have := rg_word f s (r := 0) (by omega)
    exact ⟨by rw [this.1]; exact Nat.zero_le _, this.2⟩
  · replace h := h.resolve_left h0
    unfold Format.nearest
    rw [if_neg h0]
    dsimp only
    generalize hl : max (place + (mag.log2 : Nat) - f.fractionBits) f.leastPlace = last
    have hlt := Nat.lt_log2_self (n := mag)
    have hk : Toward.even.cut s (mag <<< (place - last).toNat) (last - place).toNat ≤ 2 ^ (f.fractionBits + 1) := by
      apply cut_le
      rw [Nat.shiftLeft_eq]
      refine Nat.lt_of_lt_of_le (Nat.mul_lt_mul_of_pos_right hlt (Nat.two_pow_pos _)) ?_
      rw [← Nat.pow_add]
      exact Nat.pow_le_pow_right (by omega) (by omega)
    have hq : (last - f.leastPlace).toNat + 1 ≤ (top - f.fractionBits - f.leastPlace).toNat := by omega
    have e2 : 2 ^ (f.fractionBits + 1) = 2 * f.binade := by unfold Format.binade; rw [Nat.pow_succ, Nat.mul_comm]
    have hm : ((last - f.leastPlace).toNat + 1 + 1) * f.binade ≤ ((top - f.fractionBits - f.leastPlace).toNat + 1) * f.binade := Nat.mul_le_mul_right _ (by omega)
    have hm2 : ((last - f.leastPlace).toNat + 1 + 1) * f.binade = (last - f.leastPlace).toNat * f.binade + 2 * f.binade := by
      rw [Nat.add_assoc, Nat.add_mul]
    generalize Toward.even.cut s (mag <<< (place - last).toNat) (last - place).toNat = kept at *
    have hr : (last - f.leastPlace).toNat * f.binade + kept < f.infRung := by omega
    rw [Nat.min_eq_left (by omega)]
    have := rg_word f s (r := (last - f.leastPlace).toNat * f.binade + kept) (by omega)
    exact ⟨by rw [this.1]; omega, this.2⟩
theorem mag_le {r s : Nat} (h : r ≤ s) : magOf Ieee.double r ≤ magOf Ieee.double s := by
  rcases Nat.lt_or_eq_of_le h with h | h
  · exact Nat.le_of_lt (magOf_mono _ h)
  · rw [h]; exact Nat.le_refl _
theorem pow_quad (n : Nat) : (2 : Nat) ^ n + 2 ^ n < 2 ^ (n + 2) := by
  have := Nat.two_pow_pos n
  rw [Nat.pow_succ, Nat.pow_succ]; omega
/-- |x| ≤ 2 ^ 40, |y| ≤ 2 ^ 40: |x - y| ≤ 2 ^ 42. -/
theorem fsub_bd {x y : Nat} (hx : fin .f64 x = true) (hy : fin .f64 y = true) (bx : rg Ieee.double x ≤ 4787326403894837248) (by' : rg Ieee.double y ≤ 4787326403894837248) :
    fin .f64 (fsub .f64 x y) = true ∧ rg Ieee.double (fsub .f64 x y) ≤ 4796333603149578240 := by
  obtain ⟨m, i, h1, h2⟩ := read_kind .f64 hx
  obtain ⟨n, j, g1, g2⟩ := read_kind .f64 hy
  have bm : m * 2 ^ i ≤ 2 ^ 1114 := by
    rw [h2]; exact Nat.le_trans (mag_le bx) (by decide +kernel)
  have bn : n * 2 ^ j ≤ 2 ^ 1114 := by
    rw [g2]; exact Nat.le_trans (mag_le by') (by decide +kernel)
  obtain ⟨A, hA, bm, bn⟩ : ∃ A, A = 1114 ∧ m * 2 ^ i ≤ 2 ^ A ∧ n * 2 ^ j ≤ 2 ^ A := ⟨1114, rfl, bm, bn⟩
  unfold fsub Format.sub
  rw [h1, g1]
  simp only [Datum.opposite, Datum.sum, Option.map_some, Option.getD_some, Format.write]
  have hl : FloatKind.f64.format.leastPlace = -1074 := by decide
  have hf : FloatKind.f64.format.fractionBits = 52 := by decide
  have key : ∀ s : Bool, ∀ t : Int, ∀ b : Int, (t.natAbs = 0 ∨ b + (t.natAbs.log2 : Nat) < 42) →
      rg FloatKind.f64.format (FloatKind.f64.format.nearest s t.natAbs b) ≤ 4796333603149578240 := by
    intro s t b h
    have := (nearest_le FloatKind.f64.format s t.natAbs b 42 h (by decide) (by decide +kernel) (by decide +kernel)).1
    exact Nat.le_trans this (by decide +kernel)
  have hbase : ∃ k : Nat, min (FloatKind.f64.format.leastPlace + (i : Nat)) (FloatKind.f64.format.leastPlace + (j : Nat)) = -1074 + (k : Nat) ∧ k ≤ i ∧ k ≤ j := by
    rw [hl]
    refine ⟨min i j, by omega, by omega, by omega⟩
  obtain ⟨k, e, hki, hkj⟩ := hbase
  generalize min (FloatKind.f64.format.leastPlace + (i : Nat)) (FloatKind.f64.format.leastPlace + (j : Nat)) = base at *
  subst e
  have ei : ((FloatKind.f64.format.leastPlace + (i : Nat)) - (-1074 + (k : Nat) : Int)).toNat = i - k := by rw [hl]; omega
  have ej : ((FloatKind.f64.format.leastPlace + (j : Nat)) - (-1074 + (k : Nat) : Int)).toNat = j - k := by rw [hl]; omega
  rw [ei, ej]
  have habs : ∀ (s : Bool) (a u : Nat), (signed s a u).natAbs = a * 2 ^ u := by
    intro s a u
    unfold signed
    rw [Nat.shiftLeft_eq]
    cases s
    · exact Int.natAbs_natCast _
    · exact (Int.natAbs_neg _).trans (Int.natAbs_natCast _)
  generalize ht : signed (neg .f64 x) m (i - k) + signed (!neg .f64 y) n (j - k) = tot
  have hta : tot.natAbs ≤ m * 2 ^ (i - k) + n * 2 ^ (j - k) := by
    rw [← ht, ← habs (neg .f64 x) m (i - k), ← habs (!neg .f64 y) n (j - k)]
    exact Int.natAbs_add_le _ _
  have hk2 : tot.natAbs * 2 ^ k ≤ 2 ^ A + 2 ^ A := by
    have e1 : m * 2 ^ (i - k) * 2 ^ k = m * 2 ^ i := by rw [Nat.mul_assoc, ← Nat.pow_add, Nat.sub_add_cancel hki]
    have e2 : n * 2 ^ (j - k) * 2 ^ k = n * 2 ^ j := by rw [Nat.mul_assoc, ← Nat.pow_add, Nat.sub_add_cancel hkj]
    have := Nat.mul_le_mul_right (2 ^ k) hta
    rw [Nat.add_mul, e1, e2] at this
    exact Nat.le_trans this (Nat.add_le_add bm bn)
  have hlog : tot.natAbs = 0 ∨ (-1074 + (k : Nat) : Int) + (tot.natAbs.log2 : Nat) < 42 := by
    by_cases h0 : tot.natAbs = 0
    · exact .inl h0
    · right
      have h3 := Nat.log2_self_le h0
      have h4 : 2 ^ (tot.natAbs.log2 + k) < 2 ^ (A + 2) := by
        rw [Nat.pow_add]
        exact Nat.lt_of_le_of_lt (Nat.le_trans (Nat.mul_le_mul_right _ h3) hk2) (pow_quad A)
      have := (Nat.pow_lt_pow_iff_right (a := 2) (by omega)).1 h4
      omega
  refine ⟨?_, key _ tot _ hlog⟩
  unfold fin
  exact decide_eq_true (Nat.lt_of_le_of_lt (key _ tot _ hlog) (by decide +kernel))
theorem nearest_sgn (f : Format) (s : Bool) (mag : Nat) (place : Int) (hw : f.infRung < f.signWeight) : sgn f (f.nearest s mag place) = s := by
  unfold Format.nearest
  split
  · exact (rg_word f s (r := 0) (by omega)).2
  · exact (rg_word f s (by omega)).2
theorem iw : FloatKind.f64.format.infRung < FloatKind.f64.format.signWeight := by decide +kernel
/-- A finite number's square is not negative. -/
theorem fsq_pos {x : Nat} (hx : fin .f64 x = true) : neg .f64 (fmul .f64 x x) = false := by
  obtain ⟨m, i, h1, h2⟩ := read_kind .f64 hx
  unfold fmul Format.mul
  rw [h1]
  simp only [Datum.product, Option.map_some, Option.getD_some, Format.write]
  unfold neg
  rw [nearest_sgn _ _ _ _ iw]
  cases sgn FloatKind.f64.format x <;> rfl
theorem fadd_pos {x y : Nat} (hx : fin .f64 x = true) (hy : fin .f64 y = true) (nx : neg .f64 x = false) (ny : neg .f64 y = false) : neg .f64 (fadd .f64 x y) = false := by
  obtain ⟨m, i, h1, h2⟩ := read_kind .f64 hx
  obtain ⟨n, j, g1, g2⟩ := read_kind .f64 hy
  unfold fadd Format.add
  rw [h1, g1, nx, ny]
  simp only [Datum.sum, Option.map_some, Option.getD_some, Format.write]
  unfold neg
  rw [nearest_sgn _ _ _ _ iw]
  split
  · rfl
  · have p : ∀ a u, 0 ≤ signed false a u := fun a u => Int.natCast_nonneg _
    refine decide_eq_false ?_
    have := p m (FloatKind.f64.format.leastPlace + (i : Nat) - min (FloatKind.f64.format.leastPlace + (i : Nat)) (FloatKind.f64.format.leastPlace + (j : Nat))).toNat
    have := p n (FloatKind.f64.format.leastPlace + (j : Nat) - min (FloatKind.f64.format.leastPlace + (i : Nat)) (FloatKind.f64.format.leastPlace + (j : Nat))).toNat
    omega
theorem fsqrt_num {x : Nat} (hx : isNan .f64 x = false) (nx : neg .f64 x = false) : isNan .f64 (fsqrt x) = false := by
  unfold fsqrt Format.sqrt
  have key : ∃ d, (FloatKind.f64.format.read x).root (FloatKind.f64.format.fractionBits + 2) = some d ∧ d.isNaN = false := by
    by_cases hf : fin .f64 x = true
    · obtain ⟨m, i, h1, h2⟩ := read_kind .f64 hf
      rw [h1, nx]
      unfold Datum.root
      dsimp only
      split
      · exact ⟨_, rfl, rfl⟩
      · rw [if_neg (by simp)]
        exact ⟨_, rfl, rfl⟩
    · have h1 : rg FloatKind.f64.format x = FloatKind.f64.format.infRung := by
        rw [isNan_eq] at hx
        unfold fin at hf
        simp at hx hf
        omega
      rw [read_inf _ x (k_le .f64) h1]
      have : sgn FloatKind.f64.format x = false := nx
      rw [this]
      exact ⟨_, rfl, rfl⟩
  obtain ⟨d, e, hd⟩ := key
  rw [e]
  exact write_not_nan _ _ hd
end Go.Ev

namespace Go.Ev
/-! ## What is yielded: two lists of memory of their own -/
def fin1t (a b : Nat) : MV → MV → Prop
  | .os i s lo n, .os k s' lo' n' => Side (s = s' ∧ lo = lo' ∧ n = n' ∧ (k = 0 ∧ i = a ∨ k = 1 ∧ i = b))
  | .nils, .os k _ _ n => Side (n = 0 ∧ k ≤ 1)
  | .nils, .nils => True
  | .nilp, .nilp => True
  | .lb x, .b y => Side (x = y)
  | .b x, .b y => Side (x = y)
  | .i k n, .i k' n' => Side (k = k' ∧ n = n')
  | .f k x, .f k' y => Side (k = k' ∧ x = y)
  | _, .und => True
  | _, _ => False
def finLt (a b : Nat) : List MV → List MV → Prop
  | [], [] => True
  | x :: r, y :: s => fin1t a b x y ∧ finLt a b r s
  | _, _ => False
def rho2 (ρ : RhoT) (a b : Nat) : RhoT := fun i => match i with | 0 => ρ a | 1 => ρ b | _ + 2 => none
theorem fin1t_rep {a b : Nat} {m m' : MV} (h : fin1t a b m m') {w : World} {ρ : RhoT} {ok ok' : OkT} {v : Value} (r : Rep w G0 ρ ok m v) : Rep w G0 (rho2 ρ a b) ok' m' v := by
  unfold fin1t at h
  split at h
  · rename_i k _ _ _
    obtain ⟨rfl, rfl, rfl, hk⟩ := h.h
    cases r with
    | os id sz lo n blk cap off c T h1 h2 h3 h4 h5 =>
      have e : rho2 ρ a b k = some blk := by
        rcases hk with ⟨rfl, rfl⟩ | ⟨rfl, rfl⟩
        · exact h1
        · exact h1
      exact .os _ _ _ _ _ _ _ _ _ e h2 h3 h4 h5
    | osnil => exact .osnil _ _ _
  · obtain ⟨rfl, _⟩ := h.h; cases r; exact .osnil _ _ _
  · cases r; exact .nils
  · cases r; exact .nilp
  · have := h.h; subst this; cases r; exact .b _
  · have := h.h; subst this; cases r; exact .b _
  · obtain ⟨rfl, rfl⟩ := h.h; cases r; exact .i _ _
  · obtain ⟨rfl, rfl⟩ := h.h; cases r with | f _ _ _ h => exact .f _ _ _ h
  · exact .und _
  · exact h.elim
theorem finLt_spec {a b : Nat} : ∀ {l l' : List MV}, finLt a b l l' → l.length = l'.length ∧ ∀ j, j < l.length → fin1t a b (getM l j) (getM l' j)
  | [], [], _ => ⟨rfl, fun j hj => by simp at hj⟩
  | x :: r, y :: s, h => by
    obtain ⟨h1, h2⟩ := finLt_spec h.2
    refine ⟨by simp [h1], fun j hj => ?_⟩
    cases j with
    | zero => simpa [getM] using h.1
    | succ j => simpa [getM] using h2 j (by simpa using hj)
  | [], _ :: _, h => h.elim
  | _ :: _, [], h => h.elim
def isRows (H : List (Nat × Blk)) (id sz n : Nat) (g : Nat → List MV) : Prop := match look H id with
  | some (.rows s' n' g') => Side (s' = sz ∧ n' = n ∧ ∀ i, i < n → ∀ j, j < sz → getM (g' i) j = getM (g i) j)
  | _ => False
theorem isRows_ok {H : List (Nat × Blk)} {id sz n : Nat} {g : Nat → List MV} (h : isRows H id sz n g) {cx : Cx} {ρ ρ' : RhoT} {nx : Nat} {w : World} (hW : SatW cx ρ H nx w) {k : Nat} (hk : ρ' k = ρ id) (hok : ∀ b, okS cx ρ w b → okS cx ρ' w b) :
    BlkOK w ρ' (okS cx ρ' w) k (.rows sz n g) := by
  unfold isRows at h
  split at h
  · rename_i s' n' g' hl
    obtain ⟨rfl, rfl, hg⟩ := h.h
    rcases hW.blocks id _ hl with ⟨h1, h2⟩ | ⟨b, c, T, h1, h2, h3, h5, h4⟩
    · exact .inl ⟨h1, hk.trans h2⟩
    · refine .inr ⟨b, c, T, hk.trans h1, h2, h3, h5, fun i hi j hj => ?_⟩
      rw [← hg i hi j hj]
      exact (h4 i hi j hj).mono (Keeps.refl w) (fun _ _ _ e => e) (fun _ _ e => e) fun b hb => ⟨hok b hb, rfl⟩
  · exact h.elim
theorem FinS.two {S : St} {l l' : List MV} {sz n : Nat} {g : Nat → List MV} {sz' n' : Nat} {g' : Nat → List MV} (a b : Nat) (hab : Side (a ≠ b)) (hA : isRows S.H a sz n g) (hB : isRows S.H b sz' n' g') (hm : finLt a b l l') :
    FinS S (.tup l) (.tup l') [.rows sz n g, .rows sz' n' g'] := by
  have hab := hab.h
  refine ⟨fun cx ρ w v hW r => ?_⟩
  have hok : ∀ k, okS cx ρ w k → okS cx (rho2 ρ a b) w k := by
    intro k hk
    rcases hk with hk | hk
    · exact .inl hk
    · refine .inr ⟨hk.1, hk.2.1, fun i hi => ?_⟩
      match i, hi with
      | 0, hi => exact hk.2.2 a hi
      | 1, hi => exact hk.2.2 b hi
      | _ + 2, hi => cases hi
  refine ⟨rho2 ρ a b, ⟨hW.below, ?_, ?_, ?_, ?_, ?_, hW.okA⟩, ?_⟩
  · intro i j k h1 h2
    match i, j, h1, h2 with
    | 0, 0, _, _ => rfl
    | 1, 1, _, _ => rfl
    | 0, 1, h1, h2 => exact absurd (hW.inj a b k h1 h2) hab
    | 1, 0, h1, h2 => exact absurd (hW.inj a b k h2 h1) hab
    | _ + 2, _, h1, _ => cases h1
    | 0, _ + 2, _, h2 => cases h2
    | 1, _ + 2, _, h2 => cases h2
  · intro i k h
    match i, h with
    | 0, h => exact hW.rng a k h
    | 1, h => exact hW.rng b k h
    | _ + 2, h => cases h
  · intro i blk h
    simp only [idxH, look] at h
    split at h
    · rename_i e; have := Nat.eq_of_beq_eq_true e; subst this; simp
    · split at h
      · rename_i e; have := Nat.eq_of_beq_eq_true e; subst this; simp
      · cases h
  · intro i hi
    match i, hi with
    | 0, hi => simp at hi
    | 1, hi => simp at hi
    | _ + 2, hi => rfl
  · intro i blk h
    simp only [idxH, look] at h
    split at h
    · rename_i e
      have := Nat.eq_of_beq_eq_true e
      subst this
      cases h
      exact isRows_ok hA hW rfl hok
    · split at h
      · rename_i e
        have := Nat.eq_of_beq_eq_true e
        subst this
        cases h
        exact isRows_ok hB hW rfl hok
      · cases h
  · obtain ⟨h1, h2⟩ := finLt_spec hm
    cases r with
    | tup _ vs hl hr => exact .tup _ _ (h1.symm.trans hl) fun j hj => fin1t_rep (h2 j (by omega)) (hr j (by omega))
end Go.Ev

namespace Go.Ev
/-! ## Calls that write what they are handed: lists of the caller's own -/
/-- Handed such numbers, with own blocks of such contents, a call writes those blocks alone and yields this. -/
structure CW (P : Program) (f : FuncId) (args : List MV) (blks : List Blk) (m : MV) : Prop where
  enters : Enters P f
  calls : ∀ (cx : Cx) (w : World) (ρ : RhoT) (vs : List Value), cx.w0 = w → SatW cx ρ (idxH 0 blks) blks.length w → RepL w G0 ρ (okS cx ρ w) args vs →
    Calls P f vs.toArray w fun e w' => ∃ v, e = .returned v ∧ BelowX cx.X w w' ∧ Rep w' G0 rho0 (fun _ => False) m v
theorem CW.of_ev {E : Env} (hE : EnvFull E) {f : FuncId} {fi : FnI} (hfn : FnOK E.P f fi) {args : List MV} {blks : List Blk} {m : MV} (hm : flatT m = true) (fuel : Nat) (hn : Nat.ble args.length fi.n = true)
    (h : ∀ cx, evC E (hnd E cx fuel) cx fi.n fi.body ⟨initF 0 args, [], idxH 0 blks, blks.length⟩ (finK E fi.res m [])) : CW E.P f args blks m := by
  refine ⟨hfn.enters, fun cx w ρ vs hw hW hr => ?_⟩
  subst hw
  have hn' : args.length ≤ fi.n := Nat.le_of_ble_eq_true hn
  have hlen := hr.len
  have h0 : SatR cx ⟨[], []⟩ fi.n G0 ⟨initF 0 args, [], idxH 0 blks, blks.length⟩ { tmps := vs.toArray ++ Array.replicate (fi.n - vs.toArray.size) undef, defers := [] } cx.w0 ρ := by
    refine ⟨hW, ⟨rfl, initA (by simp; omega), ?_⟩, trivial⟩
    intro s m hs
    obtain ⟨_, h2, h3⟩ := look_initF hs
    simp only [Nat.zero_add, Nat.sub_zero] at h2 h3
    have := hr.rep s h2
    rw [h3] at this
    refine ⟨vs.getD s undef, ?_, this⟩
    rw [Array.getElem?_append_left (by simp; omega)]
    simp only [List.getElem?_toArray, List.getD_eq_getElem?_getD]
    rw [List.getElem?_eq_getElem (by omega)]
    rfl
  refine (Calls.of_code hfn (R := fun v w' => BelowX cx.X cx.w0 w' ∧ Rep w' G0 rho0 (fun _ => False) m v) ?_).mono ?_
  · refine wp_mono (evC_sound hE.toEnvAll (hnd_sound hE fuel) (h cx) _ _ _ ⟨_, h0⟩) ?_
    rintro e a' w' ⟨ex, S', h1, h2, ρ, h3⟩
    unfold finK at h2
    split at h2
    · exact h2.elim
    · rename_i hx
      split at h2
      · exact h2.elim
      · rename_i l hl
        refine ⟨?_, h3.F.defers, fun fn hfn' => ?_⟩
        · cases e <;> cases ex <;> simp only [exitIs] at h1
          · exact .inl rfl
          · exact absurd rfl (hx _)
          · exact .inr rfl
        · obtain ⟨v, q1, q2⟩ := results_sound hE.toEnvOK h3 hfn' hl
          obtain ⟨ρ', s1, s2⟩ := (forceM_eq h2).ok _ ρ w' v h3.W q2
          exact ⟨v, q1, s1.below, flatT_any hm s2⟩
  · rintro e w' ⟨v, rfl, s1, s2⟩
    exact ⟨v, rfl, s1, s2⟩
/-- The arguments and the blocks of such a call: lists of so many elements. -/
def wA : Nat → List Nat → List (Nat × (Nat → List MV)) → List MV
  | k, s :: ss, (n, _) :: l => .os k s 0 n :: wA (k + 1) ss l
  | _, _, _ => []
def wB : List Nat → List (Nat × (Nat → List MV)) → List Blk
  | s :: ss, (n, g) :: l => .rows s n g :: wB ss l
  | _, _ => []
def wLe : Nat := 13000000000000
structure CWf (P : Program) (f : FuncId) (szs : List Nat) (m : MV) : Prop where
  flat : flatT m = true
  ok : ∀ l : List (Nat × (Nat → List MV)), l.length = szs.length → (∀ x ∈ l, x.1 ≤ wLe) → CW P f (wA 0 szs l) (wB szs l) m
/-- What the caller hands over. -/
def wIds (H : List (Nat × Blk)) : List Nat → List MV → Option (List Prop × List (Option Nat) × List (Nat × (Nat → List MV)))
  | [], [] => some ([], [], [])
  | s :: ss, .os id s' 0 n :: ms => match Nat.beq s s', look H id with
    | true, some (.rows s2 n0 g) => match Nat.beq s s2 with
      | true => match wIds H ss ms with
        | some (ps, ids, l) => some ((n ≤ n0 ∧ n ≤ wLe) :: ps, some id :: ids, (n, g) :: l)
        | none => none
      | false => none
    | _, _ => none
  | s :: ss, .nils :: ms => match wIds H ss ms with
    | some (ps, ids, l) => some (ps, none :: ids, (0, fun _ => []) :: l)
    | none => none
  | _, _ => none
def memO : List (Option Nat) → Nat → Bool
  | [], _ => false
  | none :: r, n => memO r n
  | some k :: r, n => match Nat.beq k n with
    | true => true
    | false => memO r n
def nodupO : List (Option Nat) → Bool
  | [] => true
  | none :: r => nodupO r
  | some k :: r => match memO r k with
    | true => false
    | false => nodupO r
def delO {α : Type} : List (Option Nat) → List (Nat × α) → List (Nat × α)
  | [], H => H
  | none :: r, H => delO r H
  | some k :: r, H => delO r (del H k)
def wRho (ρ : RhoT) (ids : List (Option Nat)) : RhoT := fun j => match ids[j]? with
  | some (some id) => ρ id
  | _ => none
theorem memO_of : ∀ {ids : List (Option Nat)} {n : Nat}, some n ∈ ids → memO ids n = true
  | some k :: r, n, h => by
    unfold memO
    split
    · rfl
    · rename_i e
      rcases List.mem_cons.1 h with h | h
      · cases h; simp at e
      · exact memO_of h
  | none :: r, n, h => by
    unfold memO
    rcases List.mem_cons.1 h with h | h
    · cases h
    · exact memO_of h
theorem nodupO_spec : ∀ {ids : List (Option Nat)}, nodupO ids = true → ∀ {i j k : Nat}, ids[i]? = some (some k) → ids[j]? = some (some k) → i = j
  | [], _, i, j, k, h1, _ => by simp at h1
  | none :: r, h, i, j, k, h1, h2 => by
    unfold nodupO at h
    cases i with
    | zero => simp at h1
    | succ i =>
      cases j with
      | zero => simp at h2
      | succ j => exact congrArg (· + 1) (nodupO_spec h (by simpa using h1) (by simpa using h2))
  | some x :: r, h, i, j, k, h1, h2 => by
    unfold nodupO at h
    split at h
    · cases h
    · rename_i hm
      have no : ∀ {j : Nat}, r[j]? = some (some x) → False := by
        intro j hj
        rw [memO_of (List.mem_of_getElem? hj)] at hm
        cases hm
      cases i with
      | zero =>
        simp at h1; subst h1
        cases j with
        | zero => rfl
        | succ j => exact (no (by simpa using h2)).elim
      | succ i =>
        cases j with
        | zero => simp at h2; subst h2; exact (no (by simpa using h1)).elim
        | succ j => exact congrArg (· + 1) (nodupO_spec h (by simpa using h1) (by simpa using h2))
theorem look_delO {α : Type} : ∀ {ids : List (Option Nat)} {H : List (Nat × α)} {k : Nat} {b : α}, look (delO ids H) k = some b → look H k = some b ∧ some k ∉ ids
  | [], H, k, b, h => ⟨h, by simp⟩
  | none :: r, H, k, b, h => by
    obtain ⟨h1, h2⟩ := look_delO (ids := r) h
    exact ⟨h1, by simp [h2]⟩
  | some x :: r, H, k, b, h => by
    obtain ⟨h1, h2⟩ := look_delO (ids := r) h
    rw [look_del] at h1
    split at h1
    · cases h1
    · rename_i e
      exact ⟨h1, by simp [h2, e]⟩
structure WArgs (cx : Cx) (ρ : RhoT) (w : World) (szs : List Nat) (ids : List (Option Nat)) (l : List (Nat × (Nat → List MV))) (ms : List MV) : Prop where
  len : l.length = szs.length ∧ ids.length = szs.length ∧ ms.length = szs.length
  le : ∀ x ∈ l, x.1 ≤ wLe
  blk : ∀ (j s n : Nat) (g : Nat → List MV), szs[j]? = some s → l[j]? = some (n, g) → (ids[j]? = some none ∧ n = 0 ∧ ms[j]? = some .nils) ∨ ∃ id n0, ids[j]? = some (some id) ∧ n ≤ n0 ∧ BlkOK w ρ (okS cx ρ w) id (.rows s n0 g) ∧ ms[j]? = some (.os id s 0 n)
theorem wIds_spec {cx : Cx} {ρ : RhoT} {H : List (Nat × Blk)} {nx : Nat} {w : World} (hW : SatW cx ρ H nx w) : ∀ {szs : List Nat} {ms : List MV} {ps : List Prop} {ids : List (Option Nat)} {l : List (Nat × (Nat → List MV))},
    wIds H szs ms = some (ps, ids, l) → AllP ps → WArgs cx ρ w szs ids l ms
  | [], [], ps, ids, l, h, hp => by
    cases h; exact ⟨by simp, by simp, by intro j s n g h; simp at h⟩
  | [], _ :: _, ps, ids, l, h, hp => by simp [wIds] at h
  | _ :: _, [], ps, ids, l, h, hp => by simp [wIds] at h
  | s :: ss, m0 :: ms0, ps, ids, l, h, hp => by
    unfold wIds at h
    split at h
    · rename_i e _; cases e
    · rename_i s1 ss1 id s' n ms1 e e'
      cases e
      cases e'
      split at h
      · rename_i s2 n0 g e1 hl
        have := Nat.eq_of_beq_eq_true e1
        subst this
        split at h
        · rename_i e2
          have := Nat.eq_of_beq_eq_true e2
          subst this
          split at h
          · rename_i ps' ids' l' hr
            cases h
            have ih := wIds_spec hW hr (fun p h => hp p (by simp [h]))
            have hc := hp (n ≤ n0 ∧ n ≤ wLe) (by simp)
            refine ⟨by simp [ih.len.1, ih.len.2.1, ih.len.2.2], ?_, ?_⟩
            · intro x hx
              rcases List.mem_cons.1 hx with rfl | hx
              · exact hc.2
              · exact ih.le x hx
            · intro j s n' g' hs hj
              cases j with
              | zero =>
                simp at hs hj
                obtain ⟨rfl, rfl⟩ := hj
                subst hs
                exact .inr ⟨id, n0, by simp, hc.1, hW.blocks _ _ hl, by simp⟩
              | succ j =>
                have := ih.blk j s n' g' (by simpa using hs) (by simpa using hj)
                simpa using this
          · cases h
        · cases h
      · cases h
    · rename_i s1 ss1 ms1 e e'
      cases e
      cases e'
      split at h
      · rename_i ps' ids' l' hr
        cases h
        have ih := wIds_spec hW hr hp
        refine ⟨by simp [ih.len.1, ih.len.2.1, ih.len.2.2], ?_, ?_⟩
        · intro x hx
          rcases List.mem_cons.1 hx with rfl | hx
          · exact Nat.zero_le _
          · exact ih.le x hx
        · intro j s n' g' hs hj
          cases j with
          | zero =>
            simp at hs hj
            exact .inl ⟨by simp, hj.1.symm, by simp⟩
          | succ j =>
            have := ih.blk j s n' g' (by simpa using hs) (by simpa using hj)
            simpa using this
      · cases h
    · cases h
theorem wA_spec : ∀ {szs : List Nat} {l : List (Nat × (Nat → List MV))} {k : Nat}, l.length = szs.length → (wA k szs l).length = szs.length ∧ ∀ (j s n : Nat) (g : Nat → List MV), szs[j]? = some s → l[j]? = some (n, g) → getM (wA k szs l) j = .os (k + j) s 0 n
  | [], [], k, _ => ⟨rfl, by intro j s n g h; simp at h⟩
  | s :: ss, (n, g) :: l, k, h => by
    obtain ⟨h1, h2⟩ := wA_spec (szs := ss) (l := l) (k := k + 1) (by simpa using h)
    refine ⟨by simp [wA, h1], fun j s' n' g' hs hj => ?_⟩
    cases j with
    | zero => simp at hs hj; obtain ⟨rfl, rfl⟩ := hj; subst hs; simp [wA, getM]
    | succ j =>
      have := h2 j s' n' g' (by simpa using hs) (by simpa using hj)
      rw [show k + (j + 1) = k + 1 + j by omega]
      simpa [wA, getM] using this
  | [], _ :: _, k, h => by simp at h
  | _ :: _, [], k, h => by simp at h
theorem wB_spec : ∀ {szs : List Nat} {l : List (Nat × (Nat → List MV))}, l.length = szs.length → (wB szs l).length = szs.length ∧ ∀ (j s n : Nat) (g : Nat → List MV), szs[j]? = some s → l[j]? = some (n, g) → (wB szs l)[j]? = some (.rows s n g)
  | [], [], _ => ⟨rfl, by intro j s n g h; simp at h⟩
  | s :: ss, (n, g) :: l, h => by
    obtain ⟨h1, h2⟩ := wB_spec (szs := ss) (l := l) (by simpa using h)
    refine ⟨by simp [wB, h1], fun j s' n' g' hs hj => ?_⟩
    cases j with
    | zero => simp at hs hj; obtain ⟨rfl, rfl⟩ := hj; subst hs; simp [wB]
    | succ j => simpa [wB] using h2 j s' n' g' (by simpa using hs) (by simpa using hj)
  | [], _ :: _, h => by simp at h
  | _ :: _, [], h => by simp at h
theorem look_idxH' : ∀ {blks : List Blk} {i k : Nat} {b : Blk}, look (idxH i blks) k = some b → i ≤ k ∧ k < i + blks.length ∧ blks[k - i]? = some b
  | [], i, k, b, h => by simp [idxH, look] at h
  | x :: r, i, k, b, h => by
    simp only [idxH, look] at h
    split at h
    · rename_i e
      have := Nat.eq_of_beq_eq_true e
      subst this
      cases h
      simp
    · obtain ⟨h1, h2, h3⟩ := look_idxH' h
      refine ⟨by omega, by simp; omega, ?_⟩
      rw [show k - i = (k - (i + 1)) + 1 by omega]
      simpa using h3
theorem BlkOK.rows_ok {w : World} {ρ ρ' : RhoT} {ok ok' : OkT} {id k s n n0 : Nat} {g : Nat → List MV} (h : BlkOK w ρ ok id (.rows s n0 g)) (hn : n ≤ n0) (he : ρ' k = ρ id) (hok : ∀ b, ok b → ok' b) : BlkOK w ρ' ok' k (.rows s n g) := by
  rcases h with ⟨h1, h2⟩ | ⟨b, c, T, h1, h2, h3, h5, h4⟩
  · exact .inl ⟨by omega, he.trans h2⟩
  · have hle : n * s ≤ n0 * s := Nat.mul_le_mul_right _ hn
    exact .inr ⟨b, c, T, he.trans h1, h2, by omega, fun j hj => h5 j (by omega), fun i hi j hj => (h4 i (by omega) j hj).mono (Keeps.refl w) (fun _ _ _ e => e) (fun _ _ e => e) fun b hb => ⟨hok b hb, rfl⟩⟩
/-- What such a call comes to. -/
theorem callW_sound {P : Program} {f : FuncId} {szs : List Nat} {m : MV} (hf : CWf P f szs m) {cx : Cx} {su : Sus} {n : Nat} {G : GT} {S : St} {a : Act} {w : World} {ρ : RhoT} (h : SatR cx su n G S a w ρ) {ms : List MV} {ps : List Prop} {ids : List (Option Nat)} {l : List (Nat × (Nat → List MV))}
    (hc : wIds S.H szs ms = some (ps, ids, l)) (hp : AllP ps) (hnd : nodupO ids = true) {vs : List Value} (hr : RepL w G ρ (okS cx ρ w) ms vs) :
    CallGood P f vs w fun v w' => SatR cx su n G { S with H := delO ids S.H } a w' ρ ∧ Rep w' G ρ (okS cx ρ w') m v := by
  have wa := wIds_spec h.W hc hp
  obtain ⟨l1, l2, l3⟩ := wa.len
  have cw := hf.ok l l1 wa.le
  obtain ⟨a1, a2⟩ := wA_spec (k := 0) l1
  obtain ⟨b1, b2⟩ := wB_spec l1
  right
  refine ⟨cw.enters _ _, ?_⟩
  let X : Nat → Prop := fun b => ∃ j, wRho ρ ids j = some b
  have hX : ∀ {b}, X b → ∃ id, some id ∈ ids ∧ ρ id = some b := by
    rintro b ⟨j, hj⟩
    unfold wRho at hj
    split at hj
    · rename_i id he; exact ⟨id, List.mem_of_getElem? he, hj⟩
    · cases hj
  have hget : ∀ j, j < szs.length → ∃ s n g, szs[j]? = some s ∧ l[j]? = some (n, g) := fun j hj =>
    ⟨szs[j], (l[j]'(by omega)).1, (l[j]'(by omega)).2, by simp [hj], by simp [List.getElem?_eq_getElem (show j < l.length by omega)]⟩
  have hok : ∀ b, okS cx ρ w b → okS ⟨w, X, okS cx ρ w⟩ (wRho ρ ids) w b := fun b hb => .inl hb
  have hsat : SatW ⟨w, X, okS cx ρ w⟩ (wRho ρ ids) (idxH 0 (wB szs l)) (wB szs l).length w := by
    refine ⟨BelowX.refl _ _, ?_, ?_, ?_, ?_, ?_, ?_⟩
    · intro i j b hi hj
      unfold wRho at hi hj
      split at hi
      · rename_i x hx
        split at hj
        · rename_i y hy
          have := h.W.inj x y b hi hj
          subst this
          exact nodupO_spec hnd hx hy
        · cases hj
      · cases hi
    · intro i b hi
      have hi' := hi
      unfold wRho at hi
      split at hi
      · exact ⟨(h.W.rng _ _ hi).1, .inr ⟨i, hi'⟩⟩
      · cases hi
    · intro id blk hl
      have := look_idxH' hl
      omega
    · intro i hi
      unfold wRho
      rw [List.getElem?_eq_none (by omega)]
    · intro k blk hl
      obtain ⟨_, q2, q3⟩ := look_idxH' hl
      simp only [Nat.sub_zero] at q3
      obtain ⟨s, n, g, e1, e2⟩ := hget k (by omega)
      rw [b2 k s n g e1 e2] at q3
      cases q3
      rcases wa.blk k s n g e1 e2 with ⟨e3, rfl, _⟩ | ⟨id, n0, e3, hn, hb, _⟩
      · exact .inl ⟨rfl, by unfold wRho; rw [e3]⟩
      · exact hb.rows_ok hn (by unfold wRho; rw [e3]) hok
    · intro b hb
      refine ⟨okS_lt h.W hb, fun hx => ?_⟩
      obtain ⟨id, _, hid⟩ := hX hx
      rcases hb with hb | hb
      · have q1 := h.W.okA b hb
        rcases (h.W.rng id b hid).2 with q | q
        · have := q1.1; omega
        · exact q1.2 q
      · exact hb.2.2 id hid
  have hargs : RepL w G0 (wRho ρ ids) (okS ⟨w, X, okS cx ρ w⟩ (wRho ρ ids) w) (wA 0 szs l) vs := by
    have hlen := hr.len
    refine ⟨by omega, fun j hj => ?_⟩
    obtain ⟨s, n, g, e1, e2⟩ := hget j (by omega)
    rw [a2 j s n g e1 e2, Nat.zero_add]
    have hrj := hr.rep j (by omega)
    rcases wa.blk j s n g e1 e2 with ⟨e3, rfl, e4⟩ | ⟨id, n0, e3, hn, hb, e4⟩
    · have : getM ms j = .nils := by unfold getM; rw [List.getD_eq_getElem?_getD, e4]; rfl
      rw [this] at hrj
      generalize vs.getD j undef = v at hrj
      cases hrj
      exact .osnil _ _ _
    · have : getM ms j = .os id s 0 n := by unfold getM; rw [List.getD_eq_getElem?_getD, e4]; rfl
      rw [this] at hrj
      generalize vs.getD j undef = v at hrj
      cases hrj with
      | os _ _ _ _ blk cap off c T h1 h2 h3 h4 h5 => exact .os _ _ _ _ _ _ _ _ _ (by unfold wRho; rw [e3]; exact h1) h2 h3 h4 h5
      | osnil => exact .osnil _ _ _
  refine (cw.calls ⟨w, X, okS cx ρ w⟩ w (wRho ρ ids) vs rfl hsat hargs).mono ?_
  rintro e w' ⟨v, rfl, hb, hm⟩
  have hb : BelowX X w w' := hb
  have hnX : ∀ b, okS cx ρ w b → ¬ X b := fun b hb => (hsat.okA b hb).2
  have hkeep : ∀ b, b < w.heap.size → ¬ X b → w'.heap[b]? = w.heap[b]? := fun b h1 h2 => hb.block b h1 h2
  have hok1 : ∀ b, okS cx ρ w b → okS cx ρ w' b ∧ w'.heap[b]? = w.heap[b]? := by
    intro b hb'
    refine ⟨?_, hkeep b (okS_lt h.W hb') (hnX b hb')⟩
    rcases hb' with q | q
    · exact .inl q
    · exact .inr ⟨q.1, Nat.lt_of_lt_of_le q.2.1 hb.size, q.2.2⟩
  refine ⟨v, rfl, ⟨⟨?_, h.W.inj, ?_, ?_, h.W.nx, ?_, h.W.okA⟩, ⟨h.F.defers, h.F.size, h.F.frame.mono hb.keeps (fun _ _ _ e => e) (fun _ _ e => e) hok1⟩, h.K.mono hb.keeps (fun _ _ e => e) hok1⟩, ?_⟩
  · have ho := h.W.below
    refine ⟨hb.os.trans ho.os, hb.tape.trans ho.tape, hb.output.trans ho.output, Nat.le_trans ho.size hb.size, fun k hk hx => ?_, ho.keeps.trans hb.keeps⟩
    refine (hkeep k (Nat.lt_of_lt_of_le hk ho.size) fun hX' => ?_).trans (ho.block k hk hx)
    obtain ⟨id, _, hid⟩ := hX hX'
    rcases (h.W.rng id k hid).2 with q | q
    · omega
    · exact hx q
  · intro i b hi
    have := h.W.rng i b hi
    exact ⟨Nat.lt_of_lt_of_le this.1 hb.size, this.2⟩
  · intro id blk hl
    exact h.W.hlt id blk (look_delO hl).1
  · intro id blk hl
    obtain ⟨q1, q2⟩ := look_delO hl
    refine (h.W.blocks id blk q1).mono hb.keeps (fun _ _ e => e) (fun e => e) hok1 fun b hid => hkeep b (h.W.rng id b hid).1 fun hx => ?_
    obtain ⟨id', q3, q4⟩ := hX hx
    have := h.W.inj id id' b hid q4
    subst this
    exact q2 q3
  · exact flatT_any hf.flat hm
/-- Calls, some of which write what they are handed. -/
def hndW (W : FuncId → Option (List Nat × MV)) (call : CallT) : CallT := fun f ms S K => match W f with
  | none => call f ms S K
  | some (szs, m) => match S with
    | ⟨F, stk, H, nx⟩ => match wIds H szs ms with
      | none => False
      | some (ps, ids, _) => match nodupO ids with
        | false => False
        | true => match conjO ps with
          | none => forceF (delO ids H) fun H' => K m ⟨F, stk, H', nx⟩
          | some p => Need p (forceF (delO ids H) fun H' => K m ⟨F, stk, H', nx⟩)
def WOK (P : Program) (W : FuncId → Option (List Nat × MV)) : Prop := ∀ f szs m, W f = some (szs, m) → CWf P f szs m
theorem hndW_sound {P : Program} {cx : Cx} {W : FuncId → Option (List Nat × MV)} (hW : WOK P W) {call : CallT} (hc : CallH P cx call) : CallH P cx (hndW W call) := by
  intro f ms S K h su n G a w ρ vs hs hr
  unfold hndW at h
  split at h
  · exact hc f ms S K h su n G a w ρ vs hs hr
  · rename_i szs m hw
    have hf := hW f szs m hw
    split at h
    rename_i F stk H nx
    split at h
    · exact h.elim
    · rename_i ps ids l hi
      split at h
      · exact h.elim
      · rename_i hnd
        have key : AllP ps ∧ K m ⟨F, stk, delO ids H, nx⟩ := by
          split at h
          · rename_i hp
            exact ⟨conjO_all (fun p e => by rw [hp] at e; cases e), forceF_eq h⟩
          · rename_i p hp
            exact ⟨conjO_all (fun q e => by rw [hp] at e; cases e; exact h.left.h), forceF_eq h.right⟩
        rcases callW_sound hf hs hi key.1 hnd hr with ⟨v, w', e, s2, r2⟩ | ⟨e, hcc⟩
        · exact .inl ⟨v, w', e, ⟨_, _, ρ, key.2, s2, r2⟩⟩
        · refine .inr ⟨e, hcc.mono ?_⟩
          rintro _ w' ⟨v, rfl, s2, r2⟩
          exact ⟨v, rfl, ⟨_, _, ρ, key.2, s2, r2⟩⟩
theorem CM.of_evW {E : Env} (hE : EnvFull E) {W : FuncId → Option (List Nat × MV)} (hW : WOK E.P W) {f : FuncId} {fi : FnI} (hfn : FnOK E.P f fi) {args : List MV} {m : MV} {blks : List Blk} (fuel : Nat) (hn : Nat.ble args.length fi.n = true)
    (h : ∀ cx, evC E (hndW W (hnd E cx fuel)) cx fi.n fi.body ⟨initF 0 args, [], [], 0⟩ (finK E fi.res m blks)) : CM E.P f args m blks true :=
  CM.of_code hE.toEnvAll hfn hn fun _ _ => evC_sound hE.toEnvAll (hndW_sound hW (hnd_sound hE fuel)) (h _)
theorem CM.of_genW {P : Program} {exts : List (Nat × XK)} {eqs inl : List Nat} {sum : FuncId → List MV → Option (List Prop × MV × List Blk × Bool)} (hx : ∀ f k, look exts f = some k → ExtOK P f k) (hq : eqsB P eqs = true) (hs : SumsOK P sum)
    {W : FuncId → Option (List Nat × MV)} (hW : WOK P W) {f : FuncId} {fi : FnI} (hf : fnGen P f = some fi) {args : List MV} {m : MV} {blks : List Blk} (fuel : Nat) (hn : Nat.ble args.length fi.n = true)
    (h : ∀ cx, evC (genQ P exts eqs inl sum) (hndW W (hnd (genQ P exts eqs inl sum) cx fuel)) cx fi.n fi.body ⟨initF 0 args, [], [], 0⟩ (finK (genQ P exts eqs inl sum) fi.res m blks)) : CM P f args m blks true :=
  CM.of_evW (E := genQ P exts eqs inl sum) (genQ_full hx hq hs) hW (fnGen_ok hf) fuel hn h
theorem CW.of_genQ {P : Program} {exts : List (Nat × XK)} {eqs inl : List Nat} {sum : FuncId → List MV → Option (List Prop × MV × List Blk × Bool)} (hx : ∀ f k, look exts f = some k → ExtOK P f k) (hq : eqsB P eqs = true) (hs : SumsOK P sum)
    {f : FuncId} {fi : FnI} (hf : fnGen P f = some fi) {args : List MV} {blks : List Blk} {m : MV} (hm : flatT m = true) (fuel : Nat) (hn : Nat.ble args.length fi.n = true)
    (h : ∀ cx, evC (genQ P exts eqs inl sum) (hnd (genQ P exts eqs inl sum) cx fuel) cx fi.n fi.body ⟨initF 0 args, [], idxH 0 blks, blks.length⟩ (finK (genQ P exts eqs inl sum) fi.res m [])) : CW P f args blks m :=
  CW.of_ev (E := genQ P exts eqs inl sum) (genQ_full hx hq hs) (fnGen_ok hf) hm fuel hn h
theorem i64_wrap {n : Int} (h1 : -9223372036854775808 ≤ n) (h2 : n < 9223372036854775808) : IntKind.i64.wrap n = n := by
  show (if (true && decide (n % (18446744073709551616 : Int) ≥ (9223372036854775808 : Int))) = true then n % (18446744073709551616 : Int) - (18446744073709551616 : Int) else n % (18446744073709551616 : Int)) = n
  split <;> simp at * <;> omega
theorem i64_id {n m : Int} (h : -9223372036854775808 ≤ n ∧ n < 9223372036854775808) (e : n = m) : IntKind.i64.wrap n = m := by
  subst e
  exact i64_wrap h.1 h.2
end Go.Ev

namespace Go.Ev
/-! ## Less is known, in steps; loops with facts beside their states; lists that are not written any more -/
structure Le (cx : Cx) (n : Nat) (S T : St) : Prop where
  ok : ∀ su a w, Sat cx su n G0 S a w → Sat cx su n G0 T a w
theorem Le.of {cx : Cx} {n : Nat} {S T : St} (h : leS S T) : Le cx n S T := ⟨fun _ _ _ hs => leS_sat h hs⟩
/-- A counted loop, with facts beside the states. -/
theorem loop_ruleC {E : Env} (hE : EnvAll E) {cx : Cx} {call : CallT} (hc : CallH E.P cx call) {n : Nat} {c : Code} {S : St} {K : Ex → St → Prop} (inv : Nat → St) (pre : Nat → Prop) (N : Nat) (h0 : Le cx n S (inv 0)) (hp : pre 0)
    (step : ∀ i, i ≤ N → pre i → evC E call cx n c (inv i) (fun ex S' => match ex with
      | .normal => Need (i < N ∧ pre (i + 1)) (Le cx n S' (inv (i + 1)))
      | .ret => K .ret S'
      | .exit j => K (.exit j) S')) : Rest (CodeOK E.P cx n (.loop c) S K) := by
  refine ⟨fun su a w hs => ?_⟩
  refine wp_loop_ghost (fun m a w => ∃ i, i ≤ N ∧ pre i ∧ m = N - i ∧ Sat cx su n G0 (inv i) a w) N ⟨0, Nat.zero_le _, hp, rfl, h0.ok _ _ _ hs⟩ ?_
  rintro m a w ⟨i, hi, hpi, rfl, hs⟩
  refine wp_mono (evC_sound hE hc (step i hi hpi) su a w hs) ?_
  rintro e a' w' ⟨ex, S', h1, h2, h3⟩
  cases e <;> cases ex <;> simp only [exitIs] at h1
  · have hlt := h2.left.h
    exact ⟨N - (i + 1), by omega, i + 1, by omega, hlt.2, rfl, h2.right.ok _ _ _ h3⟩
  · subst h1
    exact ⟨.exit _, S', rfl, h2, h3⟩
  · exact ⟨.ret, S', trivial, h2, h3⟩
theorem Le.phan {cx : Cx} {n : Nat} {S T : St} (sz : Nat) (h : Le cx n (phanS sz S) T) : Le cx n S T :=
  ⟨fun su a w hs => by
    obtain ⟨F, stk, H, nx⟩ := S
    exact h.ok su a w (hs.phan sz _)⟩
end Go.Ev

namespace Go.Ev
/-! ## Closed runs that yield one list of memory of its own -/
def tellO (id : Nat) : MV → MV → Bool
  | .os i s lo n, .os i' s' lo' n' => match Nat.beq i id, Nat.beq i' 0, Nat.beq s s', Nat.beq lo lo', Nat.beq n n' with
    | true, true, true, true, true => true
    | _, _, _, _, _ => false
  | .nils, .nils => true
  | .b x, .b y => eqB x y
  | .lb x, .b y => eqB x y
  | .i k a, .i k' b => match sameInt k k' with
    | true => eqI a b
    | false => false
  | .f k a, .f k' b => match sameFlt k k' with
    | true => Nat.beq a b
    | false => false
  | _, _ => false
def tellA (id : Nat) : MV → MV → Bool
  | .agg l, .agg l' => tellF l l'
  | x, y => tellO id x y
where
  tellF : List MV → List MV → Bool
    | [], [] => true
    | x :: r, y :: s => match tellO id x y with
      | true => tellF r s
      | false => false
    | _, _ => false
def tellOL (id : Nat) : List MV → List MV → Bool
  | [], [] => true
  | x :: r, y :: s => match tellA id x y with
    | true => tellOL id r s
    | false => false
  | _, _ => false
theorem tellO_fin {id : Nat} {m m' : MV} (h : tellO id m m' = true) : fin1 id m m' ∧ fin2 id m m' ∧ finM id m m' := by
  unfold tellO at h
  split at h
  · rename_i i s lo n i' s' lo' n'
    split at h
    · rename_i e1 e2 e3 e4 e5
      have e2 := Nat.eq_of_beq_eq_true e2
      have e3 := Nat.eq_of_beq_eq_true e3
      have e4 := Nat.eq_of_beq_eq_true e4
      have e5 := Nat.eq_of_beq_eq_true e5
      subst e2 e3 e4 e5
      have : fin1 id (.os i s lo n) (.os 0 s lo n) := by
        unfold fin1
        simp only [e1]
        exact ⟨trivial, trivial, trivial⟩
      exact ⟨this, this, this⟩
    · cases h
  · exact ⟨trivial, trivial, trivial⟩
  · have := eqB_eq h; subst this; exact ⟨⟨rfl⟩, ⟨rfl⟩, ⟨rfl⟩⟩
  · have := eqB_eq h; subst this; exact ⟨⟨rfl⟩, ⟨rfl⟩, ⟨rfl⟩⟩
  · split at h
    · rename_i e
      have := sameInt_eq e; subst this
      have := eqI_eq h; subst this
      exact ⟨⟨rfl, rfl⟩, ⟨rfl, rfl⟩, ⟨rfl, rfl⟩⟩
    · cases h
  · split at h
    · rename_i e
      have := sameFlt_eq e; subst this
      have := Nat.eq_of_beq_eq_true h; subst this
      exact ⟨⟨rfl, rfl⟩, ⟨rfl, rfl⟩, ⟨rfl, rfl⟩⟩
    · cases h
  · cases h
theorem tellF_fin {id : Nat} : ∀ {l l' : List MV}, tellA.tellF id l l' = true → finL id l l'
  | [], [], _ => trivial
  | x :: r, y :: s, h => by
    unfold tellA.tellF at h
    split at h
    · rename_i e; exact ⟨(tellO_fin e).1, tellF_fin h⟩
    · cases h
  | [], _ :: _, h => by simp [tellA.tellF] at h
  | _ :: _, [], h => by simp [tellA.tellF] at h
theorem tellA_fin {id : Nat} {m m' : MV} (h : tellA id m m' = true) : fin2 id m m' ∧ finM id m m' := by
  unfold tellA at h
  split at h
  · exact ⟨tellF_fin h, tellF_fin h⟩
  · exact (tellO_fin h).2
theorem tellOL_fin {id : Nat} : ∀ {l l' : List MV}, tellOL id l l' = true → finL2 id l l' ∧ l.length = l'.length
  | [], [], _ => ⟨trivial, rfl⟩
  | x :: r, y :: s, h => by
    unfold tellOL at h
    split at h
    · rename_i e
      have := tellOL_fin h
      exact ⟨⟨(tellA_fin e).1, this.1⟩, by simp [this.2]⟩
    · cases h
  | [], _ :: _, h => by simp [tellOL] at h
  | _ :: _, [], h => by simp [tellOL] at h
theorem tellOL_pack {id : Nat} {l l' : List MV} (h : tellOL id l l' = true) : finM id (packM l) (packM l') := by
  match l, l', h with
  | [], [], _ => exact trivial
  | [x], [y], h =>
    unfold tellOL at h
    split at h
    · rename_i e; exact (tellA_fin e).2
    · cases h
  | x :: x2 :: r, y :: y2 :: s, h => exact (tellOL_fin h).1
  | [], _ :: _, h => simp [tellOL] at h
  | _ :: _, [], h => simp [tellOL] at h
  | [x], y :: y2 :: s, h => have := (tellOL_fin h).2; simp at this
  | x :: x2 :: r, [y], h => have := (tellOL_fin h).2; simp at this
/-- The same number. -/
def sameV : MV → MV → Bool
  | .b x, .b y => eqB x y
  | .i k a, .i k' b => match sameInt k k' with
    | true => eqI a b
    | false => false
  | .f k a, .f k' b => match sameFlt k k' with
    | true => Nat.beq a b
    | false => false
  | _, _ => false
theorem sameV_eq {m m' : MV} (h : sameV m m' = true) : m = m' := by
  unfold sameV at h
  split at h
  · rw [eqB_eq h]
  · split at h
    · rename_i e
      rw [sameInt_eq e, eqI_eq h]
    · cases h
  · split at h
    · rename_i e
      rw [sameFlt_eq e, Nat.eq_of_beq_eq_true h]
    · cases h
  · cases h
def rowIs : Nat → List MV → List MV → Bool
  | 0, _, _ => true
  | k + 1, x :: r, y :: s => match sameV x y with
    | true => rowIs k r s
    | false => false
  | _ + 1, _, _ => false
theorem rowIs_get : ∀ {k : Nat} {l row : List MV}, rowIs k l row = true → ∀ j, j < k → getM l j = getM row j
  | 0, _, _, _, j, hj => by omega
  | k + 1, [], _, h, _, _ => by simp [rowIs] at h
  | k + 1, _ :: _, [], h, _, _ => by simp [rowIs] at h
  | k + 1, x :: r, y :: s, h, j, hj => by
    unfold rowIs at h
    split at h
    · rename_i e
      cases j with
      | zero => simpa [getM] using sameV_eq e
      | succ j => simpa [getM] using rowIs_get h j (by omega)
    · cases h
def rowsEq (sz : Nat) (g : Nat → List MV) : Nat → List (List MV) → Bool
  | _, [] => true
  | i, row :: r => match rowIs sz (g i) row with
    | true => rowsEq sz g (i + 1) r
    | false => false
theorem rowsEq_get {sz : Nat} {g : Nat → List MV} : ∀ {r : List (List MV)} {i : Nat}, rowsEq sz g i r = true → ∀ k, k < r.length → ∀ j, j < sz → getM (g (i + k)) j = getM (tblGet r k) j
  | [], i, _, k, hk => by simp at hk
  | row :: r, i, h, k, hk => by
    unfold rowsEq at h
    split at h
    · rename_i e
      cases k with
      | zero =>
        have : tblGet (row :: r) 0 = row := by cases r <;> rfl
        rw [this]; exact rowIs_get e
      | succ k =>
        have := rowsEq_get h k (by simpa using hk)
        have e2 : tblGet (row :: r) (k + 1) = tblGet r k := by
          cases r with
          | nil => simp at hk
          | cons y s => rfl
        rw [e2, show i + (k + 1) = i + 1 + k by omega]; exact this
    · cases h
def osId : List MV → Option Nat
  | [] => none
  | .os i _ _ _ :: _ => some i
  | _ :: r => osId r
def rowsOut (S : St) (l : List MV) (sz : Nat) (tb : List (List MV)) (rs : List MV) : Bool := match osId l with
  | none => false
  | some id => match look S.H id with
    | some (.rows s' n' g') => match Nat.beq s' sz, Nat.beq n' tb.length, rowsEq sz g' 0 tb with
      | true, true, true => tellOL id l rs
      | _, _, _ => false
    | _ => false
theorem rowsOut_fin {S : St} {l : List MV} {sz : Nat} {tb : List (List MV)} {rs : List MV} (h : rowsOut S l sz tb rs = true) : FinS S (packM l) (packM rs) [.rows sz tb.length (tblGet tb)] := by
  unfold rowsOut at h
  split at h
  · cases h
  · rename_i id _
    split at h
    · rename_i s' n' g' hl
      split at h
      · rename_i e1 e2 e3
        refine FinS.rows id ?_ (tellOL_pack h)
        rw [hl]
        exact ⟨Nat.eq_of_beq_eq_true e1, Nat.eq_of_beq_eq_true e2, fun i hi j hj => by
          have := rowsEq_get e3 i hi j hj
          rwa [Nat.zero_add] at this⟩
      · cases h
    · cases h
def oRows (E : Env) (L k : Nat) (fi : FnI) (ms : List MV) (sz : Nat) (tb : List (List MV)) (rs : List MV) : Bool := match oC E (oF E L k) L fi.n fi.body ⟨initF 0 ms, [], [], 0⟩ with
  | some (.normal, S') => match resM E S' fi.res with
    | some l => rowsOut S' l sz tb rs
    | none => false
  | some (.ret, S') => match resM E S' fi.res with
    | some l => rowsOut S' l sz tb rs
    | none => false
  | _ => false
theorem oRows_sound {E : Env} (hE : EnvFull E) (hm : E.P.follows .mixedOrders = true) {f : FuncId} {fi : FnI} (hfn : FnOK E.P f fi) {ms : List MV} (hn : Nat.ble ms.length fi.n = true) {L k : Nat} {sz : Nat} {tb : List (List MV)} {rs : List MV} (h : oRows E L k fi ms sz tb rs = true) :
    CM E.P f ms (packM rs) [.rows sz tb.length (tblGet tb)] true := by
  have fin : ∀ {ex : Ex} {S' : St} {l : List MV}, (∀ i, ex ≠ .exit i) → resM E S' fi.res = some l → rowsOut S' l sz tb rs = true → ∀ e T, (e = ex ∧ T = S') → finK E fi.res (packM rs) [.rows sz tb.length (tblGet tb)] e T := by
    rintro ex S' l hne hr hl e T ⟨rfl, rfl⟩
    unfold finK
    split
    · exact absurd rfl (hne _)
    · rw [hr]
      have := rowsOut_fin hl
      dsimp only
      cases hp : packM l <;> rw [hp] at this <;> exact this
  refine CM.of_code hE.toEnvAll hfn hn fun w0 okA => ?_
  unfold oRows at h
  split at h
  · rename_i S' hc
    split at h
    · rename_i l hl
      exact (oC_sound hE.toEnvAll hm (oF_sound hE hm k) hc).mono (fin (by intro i; simp) hl h)
    · cases h
  · rename_i S' hc
    split at h
    · rename_i l hl
      exact (oC_sound hE.toEnvAll hm (oF_sound hE hm k) hc).mono (fin (by intro i; simp) hl h)
    · cases h
  · cases h
/-- A closed function that yields several, numbers and what consists of them. -/
def oTup (E : Env) (L k : Nat) (fi : FnI) (ms : List MV) (r1 r2 : MV) (rs : List MV) : Bool := match oC E (oF E L k) L fi.n fi.body ⟨initF 0 ms, [], [], 0⟩ with
  | some (.normal, S') => match resM E S' fi.res with
    | some l => tellOL S'.nx l (r1 :: r2 :: rs)
    | none => false
  | some (.ret, S') => match resM E S' fi.res with
    | some l => tellOL S'.nx l (r1 :: r2 :: rs)
    | none => false
  | _ => false
theorem oTup_sound {E : Env} (hE : EnvFull E) (hm : E.P.follows .mixedOrders = true) {f : FuncId} {fi : FnI} (hfn : FnOK E.P f fi) {ms : List MV} (hn : Nat.ble ms.length fi.n = true) {L k : Nat} {r1 r2 : MV} {rs : List MV} (h : oTup E L k fi ms r1 r2 rs = true) :
    CM E.P f ms (.tup (r1 :: r2 :: rs)) [] true := by
  have fin : ∀ {ex : Ex} {S' : St} {l : List MV}, (∀ i, ex ≠ .exit i) → resM E S' fi.res = some l → tellOL S'.nx l (r1 :: r2 :: rs) = true → ∀ e T, (e = ex ∧ T = S') → finK E fi.res (.tup (r1 :: r2 :: rs)) [] e T := by
    rintro ex S' l hne hr hl e T ⟨rfl, rfl⟩
    unfold finK
    split
    · exact absurd rfl (hne _)
    · rw [hr]
      obtain ⟨h1, h2⟩ := tellOL_fin hl
      match l, h2, h1 with
      | x :: y :: l, _, h1 => exact FinS.tup h1
  refine CM.of_code hE.toEnvAll hfn hn fun w0 okA => ?_
  unfold oTup at h
  split at h
  · rename_i S' hc
    split at h
    · rename_i l hl
      exact (oC_sound hE.toEnvAll hm (oF_sound hE hm k) hc).mono (fin (by intro i; simp) hl h)
    · cases h
  · rename_i S' hc
    split at h
    · rename_i l hl
      exact (oC_sound hE.toEnvAll hm (oF_sound hE hm k) hc).mono (fin (by intro i; simp) hl h)
    · cases h
  · cases h
end Go.Ev

namespace Go.Ev
/-! ## Contracts whose answer lies in a list of its own, of numbers alone: nothing of what was handed over lies in it -/
def ownA : MV → Bool
  | .os _ _ _ _ => true
  | .oc _ _ _ _ => true
  | m => flatM m
def ownAs : List MV → Bool
  | [] => true
  | m :: r => match ownA m with
    | true => ownAs r
    | false => false
def ownT : MV → Bool
  | .tup l => ownAs l
  | m => ownA m
theorem ownA_any {m : MV} (h : ownA m = true) {w : World} {G G' : GT} {ρ : RhoT} {ok ok' : OkT} {v : Value} (r : Rep w G ρ ok m v) : Rep w G' ρ ok' m v := by
  unfold ownA at h
  split at h
  · cases r with
    | os _ _ _ _ blk cap off c T h1 h2 h3 h4 h5 => exact .os _ _ _ _ _ _ _ _ _ h1 h2 h3 h4 h5
    | osnil => exact .osnil _ _ _
  · cases r with
    | oc _ _ _ _ blk cap off c T h1 h2 h3 h4 h5 h6 => exact .oc _ _ _ _ _ _ _ _ _ h1 h2 h3 h4 h5 h6
    | ocnil => exact .ocnil _ _
  · exact flatM_any h r
theorem ownAs_spec : ∀ {l : List MV}, ownAs l = true → ∀ j, j < l.length → ownA (getM l j) = true
  | [], _, j, hj => by simp at hj
  | m :: r, h, j, hj => by
    unfold ownAs at h
    split at h
    · rename_i h1
      cases j with
      | zero => simpa [getM] using h1
      | succ j => simpa [getM] using ownAs_spec h j (by simpa using hj)
    · cases h
theorem ownT_any {m : MV} (h : ownT m = true) {w : World} {G G' : GT} {ρ : RhoT} {ok ok' : OkT} {v : Value} (r : Rep w G ρ ok m v) : Rep w G' ρ ok' m v := by
  unfold ownT at h
  split at h
  · cases r with
    | tup _ vs hl hr => exact .tup _ _ hl fun j hj => ownA_any (ownAs_spec h j hj) (hr j hj)
  · exact ownA_any h r
theorem CM.aloneR {P : Program} {f : FuncId} {args : List MV} {m : MV} {sz n : Nat} {g : Nat → List MV} {al : Bool} (h : CM P f args m [.rows sz n g] al) (hm : ownT m = true)
    (hg : ∀ i, i < n → ∀ j, j < sz → flatM (getM (g i) j) = true) : CM P f args m [.rows sz n g] false := by
  refine ⟨h.enters, fun w okA vs hA hr => (h.calls w okA vs hA hr).mono ?_⟩
  rintro e w' ⟨v, ρ', rfl, hW, hR⟩
  refine ⟨v, ρ', rfl, ⟨hW.below, hW.inj, hW.rng, hW.hlt, hW.nx, fun id blk hl => ?_, fun b hb => absurd hb.1 (by simp)⟩, ownT_any hm hR⟩
  have hb := hW.blocks id blk hl
  simp only [idxH, look] at hl
  split at hl
  · cases hl
    rcases hb with ⟨h1, h2⟩ | ⟨b, c, T, h1, h2, h3, h5, h4⟩
    · exact .inl ⟨h1, h2⟩
    · exact .inr ⟨b, c, T, h1, h2, h3, h5, fun i hi j hj => flatM_any (hg i hi j hj) (h4 i hi j hj)⟩
  · cases hl
theorem flat2 {x y : Nat} {j : Nat} (hj : j < 2) : flatM (getM [.f .f64 x, .f .f64 y] j) = true := by
  have : j = 0 ∨ j = 1 := by omega
  rcases this with rfl | rfl <;> rfl
end Go.Ev

namespace Go.Ev
/-! ## A long row of regions, cut in two: between them the state is told anew -/
def takeS : Nat → Code → Code
  | 0, _ => .skip
  | k + 1, .seq a b => .seq a (takeS k b)
  | _ + 1, c => c
def dropS : Nat → Code → Code
  | 0, c => c
  | k + 1, .seq _ b => dropS k b
  | _ + 1, _ => .skip
def rowS : Nat → Code → Bool
  | 0, _ => true
  | k + 1, .seq _ b => rowS k b
  | _ + 1, _ => false
/-- What follows the first part: the second one begins in a state that says no more. -/
def cutK (cx : Cx) (n : Nat) (T : St) (K : Ex → St → Prop) : Ex → St → Prop := fun e S' => match e with
  | .normal => Le cx n S' T
  | .ret => K .ret S'
  | .exit j => K (.exit j) S'
theorem CodeOK.cut {E : Env} (hE : EnvAll E) {cx : Cx} {call : CallT} (hcall : CallH E.P cx call) {n : Nat} {T : St} {K : Ex → St → Prop} : ∀ (k : Nat) {c : Code} {S : St}, rowS k c = true → evC E call cx n (takeS k c) S (cutK cx n T K) →
    CodeOK E.P cx n (dropS k c) T K → CodeOK E.P cx n c S K
  | 0, c, S, _, h1, h2 => fun su a w hs => h2 su a w (Le.ok (S := S) (T := T) h1 su a w hs)
  | k + 1, c, S, hr, h1, h2 => by
    cases c with
    | seq x y =>
      have h1 : evC E call cx n x S (fun e S' => match e with
        | .normal => evC E call cx n (takeS k y) S' (cutK cx n T K)
        | .ret => cutK cx n T K .ret S'
        | .exit j => cutK cx n T K (.exit j) S') := h1
      intro su a w hs
      refine wp_seq (wp_mono (evC_sound hE hcall h1 su a w hs) ?_)
      rintro e a' w' ⟨ex, S', q1, q2, q3⟩
      cases e <;> cases ex <;> simp only [exitIs] at q1 <;> simp only [Exit.then]
      · exact CodeOK.cut hE hcall k (c := y) hr q2 h2 su a' w' q3
      · subst q1; exact ⟨.exit _, S', rfl, q2, q3⟩
      · exact ⟨.ret, S', trivial, q2, q3⟩
    | _ => cases hr
end Go.Ev

namespace Go.Ev
/-! ## Parts of functions, apart: rows, blocks and loops whose body is shown in parts -/
theorem CodeOK.seq {P : Program} {cx : Cx} {n : Nat} {x y : Code} {S : St} {K : Ex → St → Prop} (h : CodeOK P cx n x S (fun e S' => match e with
      | .normal => Rest (CodeOK P cx n y S' K)
      | .ret => K .ret S'
      | .exit j => K (.exit j) S')) : CodeOK P cx n (.seq x y) S K := fun su a w hs => by
  refine wp_seq (wp_mono (h su a w hs) ?_)
  rintro e a' w' ⟨ex, S', q1, q2, q3⟩
  cases e <;> cases ex <;> simp only [exitIs] at q1 <;> simp only [Exit.then]
  · exact q2.ok su a' w' q3
  · subst q1; exact ⟨.exit _, S', rfl, q2, q3⟩
  · exact ⟨.ret, S', trivial, q2, q3⟩
theorem CodeOK.block {P : Program} {cx : Cx} {n id : Nat} {c : Code} {S : St} {K : Ex → St → Prop} (h : CodeOK P cx n c S (fun e S' => match e with
      | .exit j => match Nat.beq j id with
        | true => K .normal S'
        | false => K (.exit j) S'
      | .ret => K .ret S'
      | .normal => K .normal S')) : CodeOK P cx n (.block id c) S K := fun su a w hs => by
  refine wp_block (wp_mono (h su a w hs) ?_)
  rintro e a' w' ⟨ex, S', q1, q2, q3⟩
  cases e <;> cases ex <;> simp only [exitIs] at q1
  · exact ⟨.normal, S', trivial, q2, q3⟩
  · rename_i j j'
    subst q1
    unfold Exit.inBlock
    dsimp only at q2 ⊢
    cases e : Nat.beq j id
    · rw [e] at q2
      rw [if_neg (fun h => by subst h; simp at e)]
      exact ⟨.exit _, S', rfl, q2, q3⟩
    · rw [e] at q2
      have e := Nat.eq_of_beq_eq_true e
      rw [if_pos e]
      exact ⟨.normal, S', trivial, q2, q3⟩
  · exact ⟨.ret, S', trivial, q2, q3⟩
end Go.Ev

namespace Go.Ev
/-! ## Calls that turn one list of the caller's own, and tell how -/
/-- Handed a list of its caller's own (block 0) and things that are only read, a call turns that list alone: from these rows to those. -/
structure CU (P : Program) (f : FuncId) (sz n : Nat) (g g' : Nat → List MV) (rest : List MV) : Prop where
  enters : Enters P f
  flat : ∀ i, i < n → ∀ j, j < sz → flatM (getM (g' i) j) = true
  calls : ∀ (cx : Cx) (w : World) (ρ : RhoT) (vs : List Value), cx.w0 = w → SatW cx ρ [(0, .rows sz n g)] 1 w → RepL w G0 ρ (okS cx ρ w) (.os 0 sz 0 n :: rest) vs →
    Calls P f vs.toArray w fun e w' => ∃ v, e = .returned v ∧ BelowX cx.X w w' ∧ BlkOK w' ρ (fun _ => False) 0 (.rows sz n g') ∧ Rep w' G0 rho0 (fun _ => False) (.tup []) v
def finU (sz n : Nat) (g' : Nat → List MV) : Ex → St → Prop := fun ex S => match ex with
  | .exit _ => False
  | _ => match S with
    | ⟨_, stk, H, _⟩ => match look H 0 with
      | some (.rows s' n' gg) => Side (stk = [[(0, .os 0 sz 0 n)]] ∧ s' = sz ∧ n' = n ∧ ∀ i, i < n → ∀ j, j < sz → getM (gg i) j = getM (g' i) j)
      | _ => False
theorem ghost_blk {w w' : World} (hk : Keeps w w') {ρ ρ' : RhoT} {ok ok' : OkT} {sz n : Nat} {g g' gg : Nat → List MV} {v : Value}
    (hb0 : BlkOK w ρ ok 0 (.rows sz n g)) (r0 : Rep w G0 ρ ok (.os 0 sz 0 n) v) (hb : BlkOK w' ρ' ok' 0 (.rows sz n gg)) (r1 : Rep w' G0 ρ' ok' (.os 0 sz 0 n) v)
    (hfl : ∀ i, i < n → ∀ j, j < sz → flatM (getM (g' i) j) = true) (hgg : ∀ i, i < n → ∀ j, j < sz → getM (gg i) j = getM (g' i) j) : BlkOK w' ρ (fun _ => False) 0 (.rows sz n g') := by
  by_cases h0 : n = 0
  · subst h0
    rcases hb0 with ⟨_, h⟩ | ⟨b, c, T, h1, h2, _⟩
    · exact .inl ⟨rfl, h⟩
    · obtain ⟨c', hc', _⟩ := hk _ _ _ _ h2
      exact .inr ⟨b, c', T, h1, hc', by simp, fun j hj => by simp at hj, fun i hi => absurd hi (Nat.not_lt_zero _)⟩
  · rcases hb with ⟨h, _⟩ | ⟨b, c, T, h1, h2, h3, h5, h4⟩
    · exact absurd h h0
    · cases r0 with
      | osnil => exact absurd rfl h0
      | os _ _ _ _ blk cap off c0 T0 e1 =>
        cases r1 with
        | os _ _ _ _ _ _ _ c1 T1 e2 =>
          rw [e2] at h1
          have h1 := Option.some.inj h1
          subst h1
          exact .inr ⟨blk, c, T, e1, h2, h3, h5, fun i hi j hj => by rw [← hgg i hi j hj]; exact flatM_any (by rw [hgg i hi j hj]; exact hfl i hi j hj) (h4 i hi j hj)⟩
theorem CU.of_code {E : Env} (hE : EnvAll E) {f : FuncId} {fi : FnI} (hfn : FnOK E.P f fi) (hres : fi.res = []) {sz n : Nat} {g g' : Nat → List MV} {rest : List MV} (hfl : ∀ i, i < n → ∀ j, j < sz → flatM (getM (g' i) j) = true)
    (hn : Nat.ble (rest.length + 1) fi.n = true)
    (h : ∀ cx, CodeOK E.P cx fi.n fi.body ⟨initF 0 (.os 0 sz 0 n :: rest), [[(0, .os 0 sz 0 n)]], [(0, .rows sz n g)], 1⟩ (finU sz n g')) : CU E.P f sz n g g' rest := by
  refine ⟨hfn.enters, hfl, fun cx w ρ vs hw hW hr => ?_⟩
  subst hw
  have hn' : rest.length + 1 ≤ fi.n := Nat.le_of_ble_eq_true hn
  have hlen := hr.len
  have hlen' : rest.length + 1 = vs.length := by simpa using hlen
  have r0 : Rep cx.w0 G0 ρ (okS cx ρ cx.w0) (.os 0 sz 0 n) (vs.getD 0 undef) := by simpa [getM] using hr.rep 0 (by simp)
  have hg : FrOK cx.w0 G0 ρ (okS cx ρ cx.w0) [(0, .os 0 sz 0 n)] { tmps := vs.toArray, defers := [] } := by
    intro s m hs
    simp only [look] at hs
    split at hs
    · rename_i e
      have := Nat.eq_of_beq_eq_true e
      subst this
      cases hs
      refine ⟨vs.getD 0 undef, ?_, r0⟩
      simp only [List.getElem?_toArray, List.getD_eq_getElem?_getD]
      rw [List.getElem?_eq_getElem (by omega)]
      rfl
    · cases hs
  have h0 : SatR cx ⟨[{ tmps := vs.toArray, defers := [] }], [G0]⟩ fi.n G0 ⟨initF 0 (.os 0 sz 0 n :: rest), [[(0, .os 0 sz 0 n)]], [(0, .rows sz n g)], 1⟩ { tmps := vs.toArray ++ Array.replicate (fi.n - vs.toArray.size) undef, defers := [] } cx.w0 ρ := by
    refine ⟨hW, ⟨rfl, initA (by simp; omega), ?_⟩, ⟨hg, trivial⟩⟩
    intro s m hs
    obtain ⟨_, h2, h3⟩ := look_initF hs
    simp only [Nat.zero_add, Nat.sub_zero] at h2 h3
    have := hr.rep s h2
    rw [h3] at this
    refine ⟨vs.getD s undef, ?_, this⟩
    have h2' : s < rest.length + 1 := by simpa using h2
    rw [Array.getElem?_append_left (by simp; omega)]
    simp only [List.getElem?_toArray, List.getD_eq_getElem?_getD]
    rw [List.getElem?_eq_getElem (by omega)]
    rfl
  refine (Calls.of_code hfn (R := fun v w' => BelowX cx.X cx.w0 w' ∧ BlkOK w' ρ (fun _ => False) 0 (.rows sz n g') ∧ Rep w' G0 rho0 (fun _ => False) (.tup []) v) ?_).mono ?_
  · refine wp_mono (h cx _ _ _ ⟨_, h0⟩) ?_
    rintro e a' w' ⟨ex, S', h1, h2, ρ', h3⟩
    unfold finU at h2
    split at h2
    · exact h2.elim
    · rename_i hx
      obtain ⟨F', stk', H', nx'⟩ := S'
      dsimp only at h2
      split at h2
      · rename_i s' n' gg hl
        obtain ⟨rfl, rfl, rfl, hgg⟩ := h2.h
        refine ⟨?_, h3.F.defers, fun fn hfn' => ?_⟩
        · cases e <;> cases ex <;> simp only [exitIs] at h1
          · exact .inl rfl
          · exact absurd rfl (hx _)
          · exact .inr rfl
        · obtain ⟨v, q1, q2⟩ := results_sound hE.toEnvOK h3 (rs := []) (by rw [hfn', hres]) rfl
          refine ⟨v, q1, h3.W.below, ?_, flatT_any rfl q2⟩
          obtain ⟨v1, e1, r1⟩ := h3.K.1 0 _ rfl
          have e2 : v1 = vs.getD 0 undef := by
            have e1 : vs.toArray[0]? = some v1 := e1
            rw [List.getElem?_toArray] at e1
            rw [List.getD_eq_getElem?_getD, e1]; rfl
          subst e2
          exact ghost_blk h3.W.below.keeps (hW.blocks 0 _ rfl) r0 (h3.W.blocks 0 _ hl) r1 hfl hgg
      · exact h2.elim
  · rintro e w' ⟨v, rfl, s1, s2, s3⟩
    exact ⟨v, rfl, s1, s2, s3⟩
/-! ### What goes with the list: numbers, and functions whose captures are only read -/
def viewC (H : List (Nat × Blk)) : MV → Option MV
  | .p id off => match look H id with
    | some (.cells l) => match allF l with
      | true => some (.rp (dropM l off))
      | false => none
    | _ => none
  | .rp c => some (.rp c)
  | .ro s n g => some (.ro s n g)
  | .lb x => some (.b x)
  | .b x => some (.b x)
  | .i k n => some (.i k n)
  | .f k x => some (.f k x)
  | .nils => some .nils
  | .nilp => some .nilp
  | _ => none
def viewCL (H : List (Nat × Blk)) : List MV → Option (List MV)
  | [] => some []
  | m :: r => match viewC H m with
    | none => none
    | some m' => match viewCL H r with
      | none => none
      | some r' => some (m' :: r')
def viewU (H : List (Nat × Blk)) : MV → Option MV
  | .fn f a c => match viewCL H a with
    | none => none
    | some a' => match viewCL H c with
      | none => none
      | some c' => some (.fn f a' c')
  | m => viewC H m
def viewUL (H : List (Nat × Blk)) : List MV → Option (List MV)
  | [] => some []
  | m :: r => match viewU H m with
    | none => none
    | some m' => match viewUL H r with
      | none => none
      | some r' => some (m' :: r')
structure VwOK (cx : Cx) (ρ : RhoT) (H H' : List (Nat × Blk)) (w : World) (ok' : OkT) : Prop where
  ok : ∀ b, okS cx ρ w b → ok' b
  own : ∀ k blk b, look H' k = some blk → ρ k = some b → ok' b
  sub : ∀ k blk, look H' k = some blk → look H k = some blk
theorem viewC_sound {cx : Cx} {ρ : RhoT} {H H' : List (Nat × Blk)} {nx : Nat} {w : World} {ok' : OkT} (hW : SatW cx ρ H nx w) (hv : VwOK cx ρ H H' w ok') {m m' : MV} (h : viewC H' m = some m') {G : GT} {v : Value} (r : Rep w G ρ (okS cx ρ w) m v) : Rep w G0 rho0 ok' m' v := by
  have up : ∀ {m : MV} {v : Value}, Rep w G0 rho0 (okS cx ρ w) m v → Rep w G0 rho0 ok' m v := fun r => r.mono (Keeps.refl w) (fun _ _ _ e => e) (fun _ _ e => e) (fun b hb => ⟨hv.ok b hb, rfl⟩)
  unfold viewC at h
  split at h
  · rename_i id off
    split at h
    · rename_i l hl
      split at h
      · rename_i ha
        cases h
        obtain ⟨b, c, T, h1, h2, h3, h5, h4⟩ := hW.blocks _ _ (hv.sub _ _ hl)
        cases r with
        | p _ _ blk hρ =>
          obtain rfl : b = blk := by rw [hρ] at h1; exact (Option.some.inj h1).symm
          have hd := dropM_spec l off
          refine .rp _ b off (fun j => c.getD (off + j) undef) (fun _ => hv.own _ _ _ hl hρ) (fun j hj => cell?_cells h2 (by omega)) (fun j hj => h5 _ (by omega)) (fun j hj => ?_)
          rw [hd.2]
          exact up (flat1_spec (allF_spec ha (off + j) (by omega)) (h4 (off + j) (by omega))).1
      · cases h
    · cases h
  · cases h; cases r with
    | rp _ blk off u h1 h2 h3 h4 => exact .rp _ _ _ _ (fun hp => hv.ok _ (h1 hp)) h2 h3 (fun j hj => up (h4 j hj))
  · cases h; cases r with
    | ro _ _ _ blk off cap u h1 h2 h3 h4 h5 => exact .ro _ _ _ _ _ _ _ h1 (fun hp => hv.ok _ (h2 hp)) h3 h4 (fun i hi j hj => up (h5 i hi j hj))
    | ronil => exact .ronil _ _
  · cases h; cases r; exact .b _
  · cases h; cases r; exact .b _
  · cases h; cases r; exact .i _ _
  · cases h; cases r with
    | f _ _ _ hh => exact .f _ _ _ hh
  · cases h; cases r; exact .nils
  · cases h; cases r; exact .nilp
  · cases h
theorem viewCL_sound {cx : Cx} {ρ : RhoT} {H H' : List (Nat × Blk)} {nx : Nat} {w : World} {ok' : OkT} (hW : SatW cx ρ H nx w) (hv : VwOK cx ρ H H' w ok') {G : GT} : ∀ {l l' : List MV}, viewCL H' l = some l' →
    l'.length = l.length ∧ ∀ {vs : Nat → Value}, (∀ j, j < l.length → Rep w G ρ (okS cx ρ w) (getM l j) (vs j)) → ∀ j, j < l.length → Rep w G0 rho0 ok' (getM l' j) (vs j)
  | [], l', h => by cases h; simp
  | m :: r, l', h => by
    unfold viewCL at h
    split at h
    · cases h
    · rename_i m' hm
      split at h
      · cases h
      · rename_i r' hr
        cases h
        obtain ⟨q1, q2⟩ := viewCL_sound hW hv (G := G) hr
        refine ⟨by simp [q1], fun {vs} hvs j hj => ?_⟩
        cases j with
        | zero => simpa [getM] using viewC_sound hW hv hm (by simpa [getM] using hvs 0 (by simp))
        | succ j =>
          have := q2 (vs := fun j => vs (j + 1)) (fun j hj => by simpa [getM] using hvs (j + 1) (by simpa using hj)) j (by simpa using hj)
          simpa [getM] using this
theorem viewU_sound {cx : Cx} {ρ : RhoT} {H H' : List (Nat × Blk)} {nx : Nat} {w : World} {ok' : OkT} (hW : SatW cx ρ H nx w) (hv : VwOK cx ρ H H' w ok') {m m' : MV} (h : viewU H' m = some m') {G : GT} {v : Value} (r : Rep w G ρ (okS cx ρ w) m v) : Rep w G0 rho0 ok' m' v := by
  unfold viewU at h
  split at h
  · split at h
    · cases h
    · rename_i a' ha
      split at h
      · cases h
      · rename_i c' hc
        cases h
        cases r with
        | fn _ _ _ vs us hl hm h1 h2 =>
          obtain ⟨q1, q2⟩ := viewCL_sound hW hv (G := G) ha
          obtain ⟨q3, q4⟩ := viewCL_sound hW hv (G := G) hc
          exact .fn _ _ _ _ _ (q1.trans hl) (q3.trans hm) (fun j hj => q2 h1 j (by omega)) (fun j hj => q4 h2 j (by omega))
  · exact viewC_sound hW hv h r
theorem viewUL_sound {cx : Cx} {ρ : RhoT} {H H' : List (Nat × Blk)} {nx : Nat} {w : World} {ok' : OkT} (hW : SatW cx ρ H nx w) (hv : VwOK cx ρ H H' w ok') {G : GT} : ∀ {l l' : List MV}, viewUL H' l = some l' →
    l'.length = l.length ∧ ∀ {vs : Nat → Value}, (∀ j, j < l.length → Rep w G ρ (okS cx ρ w) (getM l j) (vs j)) → ∀ j, j < l.length → Rep w G0 rho0 ok' (getM l' j) (vs j)
  | [], l', h => by cases h; simp
  | m :: r, l', h => by
    unfold viewUL at h
    split at h
    · cases h
    · rename_i m' hm
      split at h
      · cases h
      · rename_i r' hr
        cases h
        obtain ⟨q1, q2⟩ := viewUL_sound hW hv (G := G) hr
        refine ⟨by simp [q1], fun {vs} hvs j hj => ?_⟩
        cases j with
        | zero => simpa [getM] using viewU_sound hW hv hm (by simpa [getM] using hvs 0 (by simp))
        | succ j =>
          have := q2 (vs := fun j => vs (j + 1)) (fun j hj => by simpa [getM] using hvs (j + 1) (by simpa using hj)) j (by simpa using hj)
          simpa [getM] using this
/-- What such a call comes to. -/
theorem callU_sound {P : Program} {f : FuncId} {sz n : Nat} {g g' : Nat → List MV} {rest : List MV} (hf : CU P f sz n g g' rest) {cx : Cx} {su : Sus} {nn : Nat} {G : GT} {S : St} {a : Act} {w : World} {ρ : RhoT} (h : SatR cx su nn G S a w ρ) {id n0 : Nat}
    (hl : look S.H id = some (.rows sz n0 g)) (hn : n ≤ n0) {ms : List MV} (hv : viewUL (del S.H id) ms = some rest) {vs : List Value} (hr : RepL w G ρ (okS cx ρ w) (.os id sz 0 n :: ms) vs) :
    CallGood P f vs w fun v w' => SatR cx su nn G { S with H := putL S.H id (.rows sz n g') } a w' ρ ∧ Rep w' G ρ (okS cx ρ w') (.tup []) v := by
  right
  refine ⟨hf.enters _ _, ?_⟩
  let X : Nat → Prop := fun b => ρ id = some b
  let ok' : OkT := fun b => b < w.heap.size ∧ ¬ X b
  let ρ1 : RhoT := fun j => match j with
    | 0 => ρ id
    | _ + 1 => none
  have hnX : ∀ b, okS cx ρ w b → ¬ X b := by
    intro b hb hx
    rcases hb with hb | hb
    · have q1 := h.W.okA b hb
      rcases (h.W.rng id b hx).2 with q | q
      · have := q1.1; omega
      · exact q1.2 q
    · exact hb.2.2 id hx
  have hvw : VwOK cx ρ S.H (del S.H id) w ok' := by
    refine ⟨fun b hb => ⟨okS_lt h.W hb, hnX b hb⟩, fun k blk b hk hb => ⟨(h.W.rng k b hb).1, fun hx => ?_⟩, fun k blk hk => ?_⟩
    · rw [look_del] at hk
      split at hk
      · cases hk
      · rename_i hne; exact hne (h.W.inj k id b hb hx)
    · rw [look_del] at hk
      split at hk
      · cases hk
      · exact hk
  have hok : ∀ b, ok' b → okS ⟨w, X, ok'⟩ ρ1 w b := fun b hb => .inl hb
  have hsat : SatW ⟨w, X, ok'⟩ ρ1 [(0, .rows sz n g)] 1 w := by
    refine ⟨BelowX.refl _ _, ?_, ?_, ?_, ?_, ?_, ?_⟩
    · intro i j b hi hj
      cases i <;> cases j <;> simp_all [ρ1]
    · intro i b hi
      cases i with
      | zero => exact ⟨(h.W.rng id b hi).1, .inr hi⟩
      | succ i => cases hi
    · intro k blk hk
      simp only [look] at hk
      split at hk
      · rename_i e; have := Nat.eq_of_beq_eq_true e; subst this; simp
      · cases hk
    · intro i hi
      cases i with
      | zero => simp at hi
      | succ i => rfl
    · intro k blk hk
      simp only [look] at hk
      split at hk
      · rename_i e
        have := Nat.eq_of_beq_eq_true e
        subst this
        cases hk
        exact (h.W.blocks id _ hl).rows_ok hn rfl (fun b hb => .inl ⟨okS_lt h.W hb, hnX b hb⟩)
      · cases hk
    · intro b hb; exact hb
  have hargs : RepL w G0 ρ1 (okS ⟨w, X, ok'⟩ ρ1 w) (.os 0 sz 0 n :: rest) vs := by
    obtain ⟨q1, q2⟩ := viewUL_sound h.W hvw (G := G) hv
    have hlen := hr.len
    refine ⟨by simpa [q1] using hlen, fun j hj => ?_⟩
    cases j with
    | zero =>
      have r0 := hr.rep 0 (by simp)
      have e0 : getM (.os id sz 0 n :: ms) 0 = .os id sz 0 n := rfl
      have e1 : getM (.os 0 sz 0 n :: rest) 0 = .os 0 sz 0 n := rfl
      rw [e0] at r0
      rw [e1]
      generalize vs.getD 0 undef = v at r0
      cases r0 with
      | os _ _ _ _ blk cap off c T h1 h2 h3 h4 h5 => exact .os _ _ _ _ _ _ _ _ _ h1 h2 h3 h4 h5
      | osnil => exact .osnil _ _ _
    | succ j =>
      have hj' : j < ms.length := by simp [q1] at hj; exact hj
      have := q2 (vs := fun j => vs.getD (j + 1) undef) (fun j hj => by simpa [getM] using hr.rep (j + 1) (by simpa using hj)) j hj'
      have := this.mono (Keeps.refl w) (G' := G0) (ρ' := ρ1) (ok' := okS ⟨w, X, ok'⟩ ρ1 w) (fun _ _ _ e => e) (fun _ _ e => by cases e) (fun b hb => ⟨hok b hb, rfl⟩)
      simpa [getM] using this
  refine (hf.calls ⟨w, X, ok'⟩ w ρ1 vs rfl hsat hargs).mono ?_
  rintro e w' ⟨v, rfl, hb, hbk, hm⟩
  have hb : BelowX X w w' := hb
  have hkeep : ∀ b, b < w.heap.size → ¬ X b → w'.heap[b]? = w.heap[b]? := fun b h1 h2 => hb.block b h1 h2
  have hok1 : ∀ b, okS cx ρ w b → okS cx ρ w' b ∧ w'.heap[b]? = w.heap[b]? := by
    intro b hb'
    refine ⟨?_, hkeep b (okS_lt h.W hb') (hnX b hb')⟩
    rcases hb' with q | q
    · exact .inl q
    · exact .inr ⟨q.1, Nat.lt_of_lt_of_le q.2.1 hb.size, q.2.2⟩
  refine ⟨v, rfl, ⟨⟨?_, h.W.inj, ?_, ?_, h.W.nx, ?_, h.W.okA⟩, ⟨h.F.defers, h.F.size, h.F.frame.mono hb.keeps (fun _ _ _ e => e) (fun _ _ e => e) hok1⟩, h.K.mono hb.keeps (fun _ _ e => e) hok1⟩, ?_⟩
  · have ho := h.W.below
    refine ⟨hb.os.trans ho.os, hb.tape.trans ho.tape, hb.output.trans ho.output, Nat.le_trans ho.size hb.size, fun k hk hx => ?_, ho.keeps.trans hb.keeps⟩
    refine (hkeep k (Nat.lt_of_lt_of_le hk ho.size) fun hX' => ?_).trans (ho.block k hk hx)
    rcases (h.W.rng id k hX').2 with q | q
    · omega
    · exact hx q
  · intro i b hi
    have := h.W.rng i b hi
    exact ⟨Nat.lt_of_lt_of_le this.1 hb.size, this.2⟩
  · intro k blk hk
    replace hk : look (putL S.H id (.rows sz n g')) k = some blk := hk
    rw [look_put] at hk
    split at hk
    · rename_i e; subst e; exact h.W.hlt _ _ hl
    · exact h.W.hlt _ _ hk
  · intro k blk hk
    replace hk : look (putL S.H id (.rows sz n g')) k = some blk := hk
    rw [look_put] at hk
    split at hk
    · rename_i e
      subst e
      cases hk
      exact hbk.rows_ok (Nat.le_refl _) rfl (fun b hb => hb.elim)
    · rename_i hne
      refine (h.W.blocks k blk hk).mono hb.keeps (fun _ _ e => e) (fun e => e) hok1 fun b hid => hkeep b (h.W.rng k b hid).1 fun hx => ?_
      exact hne (h.W.inj k id b hid hx)
  · exact flatT_any rfl hm
abbrev UT := Nat → Nat → (Nat → List MV) → List MV → Option (List Prop × (Nat → List MV))
/-- Calls, some of which turn the list that they are handed first. -/
def hndU (U : FuncId → Option UT) (call : CallT) : CallT := fun f ms S K => match U f with
  | none => call f ms S K
  | some u => match S with
    | ⟨F, stk, H, nx⟩ => match ms with
      | .os id sz 0 n :: ms => match look H id with
        | some (.rows sz' n0 g) => match Nat.beq sz sz' with
          | true => match viewUL (del H id) ms with
            | some rest => match u sz n g rest with
              | some (ps, g') => match conjO ((n ≤ n0) :: ps) with
                | some p => Need p (forceF (putL H id (.rows sz n g')) fun H' => K (.tup []) ⟨F, stk, H', nx⟩)
                | none => False
              | none => False
            | none => False
          | false => False
        | _ => False
      | _ => False
def UOK (P : Program) (U : FuncId → Option UT) : Prop := ∀ f u, U f = some u → ∀ sz n g rest ps g', u sz n g rest = some (ps, g') → AllP ps → CU P f sz n g g' rest
theorem hndU_sound {P : Program} {cx : Cx} {U : FuncId → Option UT} (hU : UOK P U) {call : CallT} (hc : CallH P cx call) : CallH P cx (hndU U call) := by
  intro f ms S K h su n G a w ρ vs hs hr
  unfold hndU at h
  split at h
  · exact hc f ms S K h su n G a w ρ vs hs hr
  · rename_i u hu
    split at h
    rename_i F stk H nx
    split at h
    · rename_i id sz nn ms
      split at h
      · rename_i sz' n0 g hl
        split at h
        · rename_i hsz
          have hsz := Nat.eq_of_beq_eq_true hsz
          subst hsz
          split at h
          · rename_i rest hv
            split at h
            · rename_i ps g' hps
              split at h
              · rename_i p hp
                have hall : AllP ((nn ≤ n0) :: ps) := conjO_all (fun q e => by rw [hp] at e; cases e; exact h.left.h)
                have hK := forceF_eq h.right
                have hcu := hU f u hu _ _ _ _ _ _ hps (fun q hq => hall q (by simp [hq]))
                rcases callU_sound hcu hs hl (hall _ (by simp)) hv hr with ⟨v, w', e, s2, r2⟩ | ⟨e, hcc⟩
                · exact .inl ⟨v, w', e, ⟨_, _, ρ, hK, s2, r2⟩⟩
                · refine .inr ⟨e, hcc.mono ?_⟩
                  rintro _ w' ⟨v, rfl, s2, r2⟩
                  exact ⟨v, rfl, ⟨_, _, ρ, hK, s2, r2⟩⟩
              · exact h.elim
            · exact h.elim
          · exact h.elim
        · exact h.elim
      · exact h.elim
    · exact h.elim
def U0 : FuncId → Option UT := fun _ => none
theorem U0_ok {P : Program} : UOK P U0 := fun _ _ h => by cases h
def uAdd (f : FuncId) (u : UT) (U : FuncId → Option UT) : FuncId → Option UT := fun h => match Nat.beq f h with
  | true => some u
  | false => U h
theorem UOK.add {P : Program} {U : FuncId → Option UT} (hU : UOK P U) {f : FuncId} {u : UT} (h : ∀ sz n g rest ps g', u sz n g rest = some (ps, g') → AllP ps → CU P f sz n g g' rest) : UOK P (uAdd f u U) := by
  intro f' u' e
  unfold uAdd at e
  split at e
  · rename_i hb
    have := Nat.eq_of_beq_eq_true hb
    subst this
    cases e
    exact h
  · exact hU _ _ e
theorem CU.of_genU {P : Program} {exts : List (Nat × XK)} {eqs inl : List Nat} {sum : FuncId → List MV → Option (List Prop × MV × List Blk × Bool)} (hx : ∀ f k, look exts f = some k → ExtOK P f k) (hq : eqsB P eqs = true) (hs : SumsOK P sum)
    {f : FuncId} {fi : FnI} (hf : fnGen P f = some fi) (hres : fi.res = []) {sz n : Nat} {g g' : Nat → List MV} {rest : List MV} (hfl : ∀ i, i < n → ∀ j, j < sz → flatM (getM (g' i) j) = true) (hn : Nat.ble (rest.length + 1) fi.n = true)
    (h : ∀ cx, CodeOK P cx fi.n fi.body ⟨initF 0 (.os 0 sz 0 n :: rest), [[(0, .os 0 sz 0 n)]], [(0, .rows sz n g)], 1⟩ (finU sz n g')) : CU P f sz n g g' rest :=
  CU.of_code (E := genQ P exts eqs inl sum) (genQ_full hx hq hs).toEnvAll (fnGen_ok hf) hres hfl hn h
/-- A loop, its rounds told by anything that falls. -/
theorem loop_ruleG {γ : Type} {P : Program} {cx : Cx} {n : Nat} {c : Code} {S : St} {K : Ex → St → Prop} (inv : γ → St) (pre : γ → Prop) (nx : γ → γ) (μ : γ → Nat) (x0 : γ) (h0 : Le cx n S (inv x0)) (hp : pre x0)
    (step : ∀ x, pre x → CodeOK P cx n c (inv x) (fun ex S' => match ex with
      | .normal => Need (pre (nx x) ∧ μ (nx x) < μ x) (Le cx n S' (inv (nx x)))
      | .ret => K .ret S'
      | .exit j => K (.exit j) S')) : Rest (CodeOK P cx n (.loop c) S K) := by
  refine ⟨fun su a w hs => ?_⟩
  refine wp_loop_ghost (fun m a w => ∃ x, pre x ∧ m = μ x ∧ Sat cx su n G0 (inv x) a w) (μ x0) ⟨x0, hp, rfl, h0.ok _ _ _ hs⟩ ?_
  rintro m a w ⟨x, hpx, rfl, hs⟩
  refine wp_mono (step x hpx su a w hs) ?_
  rintro e a' w' ⟨ex, S', h1, h2, h3⟩
  cases e <;> cases ex <;> simp only [exitIs] at h1
  · have hlt := h2.left.h
    exact ⟨μ (nx x), hlt.2, nx x, hlt.1, rfl, h2.right.ok _ _ _ h3⟩
  · subst h1
    exact ⟨.exit _, S', rfl, h2, h3⟩
  · exact ⟨.ret, S', trivial, h2, h3⟩
end Go.Ev
namespace Go.Ev
theorem CU.leG {P : Program} {f : FuncId} {sz n : Nat} {g h g' : Nat → List MV} {rest : List MV} (hc : CU P f sz n h g' rest) (hg : ∀ i, i < n → ∀ j, j < sz → getM (g i) j = getM (h i) j) : CU P f sz n g g' rest := by
  refine ⟨hc.enters, hc.flat, fun cx w ρ vs hw hW hr => hc.calls cx w ρ vs hw ?_ hr⟩
  refine ⟨hW.below, hW.inj, hW.rng, fun id blk hl => ?_, hW.nx, fun id blk hl => ?_, hW.okA⟩
  · simp only [look] at hl
    split at hl
    · rename_i e; have := Nat.eq_of_beq_eq_true e; subst this; simp
    · cases hl
  · simp only [look] at hl
    split at hl
    · rename_i e
      have := Nat.eq_of_beq_eq_true e
      subst this
      cases hl
      rcases hW.blocks 0 _ rfl with ⟨h1, h2⟩ | ⟨b, c, T, h1, h2, h3, h5, h4⟩
      · exact .inl ⟨h1, h2⟩
      · exact .inr ⟨b, c, T, h1, h2, h3, h5, fun i hi j hj => by rw [← hg i hi j hj]; exact h4 i hi j hj⟩
    · cases hl
end Go.Ev
namespace Go.Ev
theorem loop_ruleD {E : Env} (hE : EnvAll E) {γ : Type} {cx : Cx} {call : CallT} (hc : CallH E.P cx call) {n : Nat} {c : Code} {S : St} {K : Ex → St → Prop} (inv : γ → St) (pre : γ → Prop) (nx : γ → γ) (μ : γ → Nat) (x0 : γ) (h0 : Le cx n S (inv x0)) (hp : pre x0)
    (step : ∀ x, pre x → evC E call cx n c (inv x) (fun ex S' => match ex with
      | .normal => Need (pre (nx x) ∧ μ (nx x) < μ x) (Le cx n S' (inv (nx x)))
      | .ret => K .ret S'
      | .exit j => K (.exit j) S')) : Rest (CodeOK E.P cx n (.loop c) S K) :=
  loop_ruleG inv pre nx μ x0 h0 hp fun x hx => evC_sound hE hc (step x hx)
end Go.Ev

namespace Go.Ev
/-! ## Regions whose order is drawn: these operations are taken first (the list is given; that it may be is a closed question) -/
def okI (ops : Array Oper) (gs : List Nat) : List Nat → Array Bool → Bool
  | [], _ => true
  | i :: r, L => !memN gs i && (Region.ready .any ops L).contains i && Region.free .any ops L i && okI ops gs r (L.setIfInBounds i true)
def seqI (n : Nat) (ops : List Oper) : List Nat → List (Nat × MV) → Option (List (Nat × MV))
  | [], F => some F
  | i :: r, F => match nthO ops i with
    | none => none
    | some o => match inertV F n o with
      | none => none
      | some (d, m) => seqI n ops r (putL F d m)
theorem takeG_given {n : Nat} {ops : List Oper} {gs : List Nat} : ∀ {is I : List Nat} {L : Array Bool} {F F' : List (Nat × MV)}, okI ops.toArray gs is L = true → seqI n ops is F = some F' → takeG n ops.toArray gs is I L F = (is.reverse ++ I, F')
  | [], I, L, F, F', _, h => by cases h; rfl
  | i :: r, I, L, F, F', ho, h => by
    unfold okI at ho
    simp only [Bool.and_eq_true, Bool.not_eq_true'] at ho
    obtain ⟨⟨⟨h1, h2⟩, h3⟩, h4⟩ := ho
    unfold seqI at h
    rw [nthO_eq] at h
    split at h
    · cases h
    · rename_i o hoo
      split at h
      · cases h
      · rename_i d m hv
        unfold takeG
        rw [List.getElem?_toArray, hoo]
        dsimp only
        rw [hv]
        dsimp only
        rw [h1, h2, h3]
        simp only [Bool.not_true, Bool.or_false]
        rw [takeG_given h4 h]
        simp
def drawJ (E : Env) (call : CallT) (n : Nat) (ops : List Oper) (is : List Nat) (S : St) (K : St → Prop) : Prop := match S with
  | ⟨F, stk, H, nx⟩ => match seqI n ops is F with
    | none => False
    | some F' => forceF F' fun F' => drawR E call n (blankO is 0 ops) ⟨F', stk, H, nx⟩ K
def ckI (ops : List Oper) (is : List Nat) : Bool := Region.noSelect ops.toArray && Nat.ble is.length ops.length && okI ops.toArray (guardsL ops) is (Array.replicate ops.length false)
theorem drawJ_sound {E : Env} (hE : EnvAll E) (hm : E.P.follows .mixedOrders = true) {cx : Cx} {n : Nat} {call : CallT} (hcall : CallH E.P cx call) {id : Nat} {ops : Array Oper} (is : List Nat) (hck : ckI ops.toList is.reverse = true) {S : St} {K : Ex → St → Prop} (h : match S with
  | ⟨F, stk, H, nx⟩ => match seqI n ops.toList is.reverse F with
    | none => False
    | some F' => forceF F' fun F' => drawR E call n (blankO is 0 ops.toList) ⟨F', stk, H, nx⟩ (K .normal)) :
    CodeOK E.P cx n (.region id ops true) S K := by
  intro su a w hsat
  refine wp_region_any hm ?_
  obtain ⟨F, stk, H, nx⟩ := S
  dsimp only at h
  unfold ckI at hck
  simp only [Bool.and_eq_true] at hck
  obtain ⟨⟨hns, hble⟩, hok⟩ := hck
  split at h
  · exact h.elim
  rename_i F' hsq
  have hble : is.length ≤ ops.toList.length := by simpa using hble
  have h := forceF_eq h
  have hops : ops = ops.toList.toArray := by simp
  obtain ⟨ρ, hs⟩ := hsat
  have hs1 := hs.drawn (w.drawn + 1)
  generalize hl : ops.toList = l at *
  subst hops
  simp only [List.size_toArray] at *
  have htk := takeG_given (I := []) hok hsq
  rw [List.reverse_reverse, List.append_nil] at htk
  generalize hI : is = I at *
  have hT0 : Taken (guardsL l) l.toArray.size [] (Array.replicate l.length false) := by
    refine ⟨by simp, fun i => ?_, List.nodup_nil, fun i hi => by simp at hi⟩
    simp only [Array.getD_eq_getD_getElem?, Array.getElem?_replicate]
    split <;> simp
  have := takeG_sound (E := E) (fuel := l.length) hns (Q := fun e a' w' => ∃ x S', exitIs e x ∧ K x S' ∧ Sat cx su n G0 S' a' w') (fun c a w ⟨x, S', h1, _⟩ => by cases x <;> exact h1) hble ?_ htk hs1 hT0
  · simpa using this
  · intro a' L' hs' hT
    have hlt : ∀ i ∈ I, i < l.length := by
      intro i hi
      have h1 := (hT.mem i).2 hi
      have h2 := hT.size
      simp only [List.size_toArray] at h2
      rcases Nat.lt_or_ge i l.length with h3 | h3
      · exact h3
      · simp [Array.getD_eq_getD_getElem?, Array.getElem?_eq_none (show L'.size ≤ i by omega)] at h1
    have r1 := drawR_any hE hcall h (su := su) ⟨ρ, hs'⟩
    rw [blankO_len] at r1
    have r2 := wpAny_skip (fuel := l.length - I.length) (is := I) (I := I) (L := Array.replicate l.length false) (fun i hi => hi) hlt hT.nodup (fun i hi => by
      have := hlt i hi
      simp [Array.getD_eq_getD_getElem?, Array.getElem?_replicate, this]) (by simp) (by rw [show l.length - I.length + I.length = l.length by omega]; exact r1)
    have hL : List.foldl (fun L i => L.setIfInBounds i true) (Array.replicate l.length false) I = L' := by
      have hsz := hT.size
      simp only [List.size_toArray] at hsz
      apply Array.ext
      · rw [foldl_set_size, hsz]; simp
      · intro i h1 h2
        have e1 := foldl_set_get (is := I) (L := Array.replicate l.length false) (i := i)
        have e2 := hT.mem i
        simp only [Array.getD_eq_getD_getElem?, Array.getElem?_eq_getElem h1, Array.getElem?_eq_getElem h2, Option.getD_some, Array.getElem?_replicate] at e1 e2
        have h3 : i < l.length := by omega
        simp only [h3, if_true, Option.getD_some, Bool.false_or, Array.size_replicate, decide_true, Bool.and_true] at e1
        rw [e1]
        by_cases hi : i ∈ I
        · simp [hi, e2.2 hi]
        · cases hq : L'[i]
          · simp [hi]
          · exact absurd (e2.1 hq) hi
    rw [hL] at r2
    exact wpAny_blank (fun i hi => hT.gs i hi) _ _ _ _ (fun i hi => by
      have h2 := hlt i hi
      have h3 := hT.size
      simp only [List.size_toArray] at h3
      omega) (fun i hi => by
      have h1 := (hT.mem i).2 hi
      have h2 := hlt i hi
      have h3 := hT.size
      simp only [List.size_toArray] at h3
      simp only [Array.getD_eq_getD_getElem?] at h1 ⊢
      rw [Array.getElem?_eq_getElem (by omega)] at h1 ⊢
      exact h1) r2
end Go.Ev

namespace Go.Ev
/-! ## Calls that turn the list that they are handed, and may yield a part of it from its beginning -/
/-- What is yielded: nothing, or so many of the list's first elements. -/
def vRes (id sz : Nat) : Option Nat → MV
  | none => .tup []
  | some k => .os id sz 0 k
structure CV (P : Program) (f : FuncId) (sz n : Nat) (g : Nat → List MV) (rest : List MV) (n' : Nat) (g' : Nat → List MV) (k : Option Nat) : Prop where
  enters : Enters P f
  flat : ∀ i, i < n' → ∀ j, j < sz → flatM (getM (g' i) j) = true
  calls : ∀ (cx : Cx) (w : World) (ρ : RhoT) (vs : List Value), cx.w0 = w → SatW cx ρ [(0, .rows sz n g)] 1 w → RepL w G0 ρ (okS cx ρ w) (.os 0 sz 0 n :: rest) vs →
    Calls P f vs.toArray w fun e w' => ∃ v, e = .returned v ∧ BelowX cx.X w w' ∧ BlkOK w' ρ (fun _ => False) 0 (.rows sz n' g') ∧ Rep w' G0 ρ (fun _ => False) (vRes 0 sz k) v
def finV (E : Env) (rs : List ResultVar) (sz n n' : Nat) (g' : Nat → List MV) (k : Option Nat) : Ex → St → Prop := fun ex S => match ex with
  | .exit _ => False
  | _ => match S with
    | ⟨F, stk, H, nx⟩ => match look H 0 with
      | some (.rows s0 n0 gg) => match resM E ⟨F, stk, H, nx⟩ rs with
        | none => False
        | some l => Side (stk = [[(0, .os 0 sz 0 n)]] ∧ s0 = sz ∧ n' ≤ n0 ∧ n' ≤ n ∧ ∀ i, i < n' → ∀ j, j < sz → getM (gg i) j = getM (g' i) j) ∧ match k with
          | none => l = []
          | some k => match l with
            | [m] => forceM (fun m => match m with
              | .os i s lo q => Side (i = 0 ∧ s = sz ∧ lo = 0 ∧ q = k)
              | .oc i s q _ => Side (i = 0 ∧ s = sz ∧ q = k)
              | _ => False) m
            | _ => False
      | _ => False
theorem ghost_rho {w w' : World} {ρ ρ' : RhoT} {ok ok' : OkT} {sz n : Nat} {v : Value} (r0 : Rep w G0 ρ ok (.os 0 sz 0 n) v) (r1 : Rep w' G0 ρ' ok' (.os 0 sz 0 n) v) (h0 : n ≠ 0) : ρ 0 = ρ' 0 := by
  cases r0 with
  | osnil => exact absurd rfl h0
  | os _ _ _ _ blk cap off c0 T0 e1 =>
    cases r1 with
    | os _ _ _ _ _ _ _ c1 T1 e2 => rw [e1, e2]
theorem CV.of_code {E : Env} (hE : EnvAll E) {f : FuncId} {fi : FnI} (hfn : FnOK E.P f fi) {sz n n' : Nat} {g g' : Nat → List MV} {rest : List MV} {k : Option Nat} (hn0 : 0 < n) (hfl : ∀ i, i < n' → ∀ j, j < sz → flatM (getM (g' i) j) = true)
    (hn : Nat.ble (rest.length + 1) fi.n = true)
    (h : ∀ cx, CodeOK E.P cx fi.n fi.body ⟨initF 0 (.os 0 sz 0 n :: rest), [[(0, .os 0 sz 0 n)]], [(0, .rows sz n g)], 1⟩ (finV E fi.res sz n n' g' k)) : CV E.P f sz n g rest n' g' k := by
  refine ⟨hfn.enters, hfl, fun cx w ρ vs hw hW hr => ?_⟩
  subst hw
  have hn' : rest.length + 1 ≤ fi.n := Nat.le_of_ble_eq_true hn
  have hlen := hr.len
  have hlen' : rest.length + 1 = vs.length := by simpa using hlen
  have r0 : Rep cx.w0 G0 ρ (okS cx ρ cx.w0) (.os 0 sz 0 n) (vs.getD 0 undef) := by simpa [getM] using hr.rep 0 (by simp)
  have hg : FrOK cx.w0 G0 ρ (okS cx ρ cx.w0) [(0, .os 0 sz 0 n)] { tmps := vs.toArray, defers := [] } := by
    intro s m hs
    simp only [look] at hs
    split at hs
    · rename_i e
      have := Nat.eq_of_beq_eq_true e
      subst this
      cases hs
      refine ⟨vs.getD 0 undef, ?_, r0⟩
      simp only [List.getElem?_toArray, List.getD_eq_getElem?_getD]
      rw [List.getElem?_eq_getElem (by omega)]
      rfl
    · cases hs
  have h0 : SatR cx ⟨[{ tmps := vs.toArray, defers := [] }], [G0]⟩ fi.n G0 ⟨initF 0 (.os 0 sz 0 n :: rest), [[(0, .os 0 sz 0 n)]], [(0, .rows sz n g)], 1⟩ { tmps := vs.toArray ++ Array.replicate (fi.n - vs.toArray.size) undef, defers := [] } cx.w0 ρ := by
    refine ⟨hW, ⟨rfl, initA (by simp; omega), ?_⟩, ⟨hg, trivial⟩⟩
    intro s m hs
    obtain ⟨_, h2, h3⟩ := look_initF hs
    simp only [Nat.zero_add, Nat.sub_zero] at h2 h3
    have := hr.rep s h2
    rw [h3] at this
    refine ⟨vs.getD s undef, ?_, this⟩
    have h2' : s < rest.length + 1 := by simpa using h2
    rw [Array.getElem?_append_left (by simp; omega)]
    simp only [List.getElem?_toArray, List.getD_eq_getElem?_getD]
    rw [List.getElem?_eq_getElem (by omega)]
    rfl
  refine (Calls.of_code hfn (R := fun v w' => BelowX cx.X cx.w0 w' ∧ BlkOK w' ρ (fun _ => False) 0 (.rows sz n' g') ∧ Rep w' G0 ρ (fun _ => False) (vRes 0 sz k) v) ?_).mono ?_
  · refine wp_mono (h cx _ _ _ ⟨_, h0⟩) ?_
    rintro e a' w' ⟨ex, S', h1, h2, ρ', h3⟩
    unfold finV at h2
    split at h2
    · exact h2.elim
    · rename_i hx
      obtain ⟨F', stk', H', nx'⟩ := S'
      dsimp only at h2
      split at h2
      · rename_i s0 n0 gg hl
        split at h2
        · exact h2.elim
        · rename_i l hres
          obtain ⟨⟨rfl, rfl, hle, hle2, hgg⟩, hk⟩ := (⟨h2.1.h, h2.2⟩ : _ ∧ _)
          refine ⟨?_, h3.F.defers, fun fn hfn' => ?_⟩
          · cases e <;> cases ex <;> simp only [exitIs] at h1
            · exact .inl rfl
            · exact absurd rfl (hx _)
            · exact .inr rfl
          · obtain ⟨v, q1, q2⟩ := results_sound hE.toEnvOK h3 hfn' hres
            obtain ⟨v1, e1, r1⟩ := h3.K.1 0 _ rfl
            have e2 : v1 = vs.getD 0 undef := by
              have e1 : vs.toArray[0]? = some v1 := e1
              rw [List.getElem?_toArray] at e1
              rw [List.getD_eq_getElem?_getD, e1]; rfl
            subst e2
            have hρ := ghost_rho r0 r1 (by omega)
            refine ⟨v, q1, h3.W.below, ?_, ?_⟩
            · rcases h3.W.blocks 0 _ hl with ⟨hz, hz2⟩ | ⟨b, c, T, p1, p2, p3, p5, p4⟩
              · exact .inl ⟨by omega, hρ.trans hz2⟩
              · have hm := Nat.mul_le_mul_right s0 hle
                exact .inr ⟨b, c, T, hρ.trans p1, p2, by omega, fun j hj => p5 j (by omega), fun i hi j hj => by rw [← hgg i hi j hj]; exact flatM_any (by rw [hgg i hi j hj]; exact hfl i hi j hj) (p4 i (by omega) j hj)⟩
            · split at hk
              · subst hk; exact flatT_any rfl q2
              · split at hk
                · rename_i k m
                  have hk := forceM_eq hk
                  have q2 : Rep w' G0 ρ' (okS cx ρ' w') m v := q2
                  split at hk
                  · obtain ⟨rfl, rfl, rfl, rfl⟩ := hk.h
                    cases q2 with
                    | os _ _ _ _ blk cap off c T u1 u2 u3 u4 u5 => exact .os _ _ _ _ _ _ _ _ _ (hρ.trans u1) u2 u3 u4 u5
                    | osnil => exact .osnil _ _ _
                  · obtain ⟨rfl, rfl, rfl⟩ := hk.h
                    cases q2.norm with
                    | os _ _ _ _ blk cap off c T u1 u2 u3 u4 u5 => exact .os _ _ _ _ _ _ _ _ _ (hρ.trans u1) u2 u3 u4 u5
                    | osnil => exact .osnil _ _ _
                  · exact hk.elim
                · exact hk.elim
      · exact h2.elim
  · rintro e w' ⟨v, rfl, s1, s2, s3⟩
    exact ⟨v, rfl, s1, s2, s3⟩
/-- What such a call comes to. -/
theorem callV_sound {P : Program} {f : FuncId} {sz n n' : Nat} {g g' : Nat → List MV} {rest : List MV} {k : Option Nat} (hf : CV P f sz n g rest n' g' k) {cx : Cx} {su : Sus} {nn : Nat} {G : GT} {S : St} {a : Act} {w : World} {ρ : RhoT} (h : SatR cx su nn G S a w ρ) {id n0 : Nat}
    (hl : look S.H id = some (.rows sz n0 g)) (hn : n ≤ n0) {ms : List MV} (hv : viewUL (del S.H id) ms = some rest) {vs : List Value} (hr : RepL w G ρ (okS cx ρ w) (.os id sz 0 n :: ms) vs) :
    CallGood P f vs w fun v w' => SatR cx su nn G { S with H := putL S.H id (.rows sz n' g') } a w' ρ ∧ Rep w' G ρ (okS cx ρ w') (vRes id sz k) v := by
  right
  refine ⟨hf.enters _ _, ?_⟩
  let X : Nat → Prop := fun b => ρ id = some b
  let ok' : OkT := fun b => b < w.heap.size ∧ ¬ X b
  let ρ1 : RhoT := fun j => match j with
    | 0 => ρ id
    | _ + 1 => none
  have hnX : ∀ b, okS cx ρ w b → ¬ X b := by
    intro b hb hx
    rcases hb with hb | hb
    · have q1 := h.W.okA b hb
      rcases (h.W.rng id b hx).2 with q | q
      · have := q1.1; omega
      · exact q1.2 q
    · exact hb.2.2 id hx
  have hvw : VwOK cx ρ S.H (del S.H id) w ok' := by
    refine ⟨fun b hb => ⟨okS_lt h.W hb, hnX b hb⟩, fun k blk b hk hb => ⟨(h.W.rng k b hb).1, fun hx => ?_⟩, fun k blk hk => ?_⟩
    · rw [look_del] at hk
      split at hk
      · cases hk
      · rename_i hne; exact hne (h.W.inj k id b hb hx)
    · rw [look_del] at hk
      split at hk
      · cases hk
      · exact hk
  have hsat : SatW ⟨w, X, ok'⟩ ρ1 [(0, .rows sz n g)] 1 w := by
    refine ⟨BelowX.refl _ _, ?_, ?_, ?_, ?_, ?_, ?_⟩
    · intro i j b hi hj
      cases i <;> cases j <;> simp_all [ρ1]
    · intro i b hi
      cases i with
      | zero => exact ⟨(h.W.rng id b hi).1, .inr hi⟩
      | succ i => cases hi
    · intro k blk hk
      simp only [look] at hk
      split at hk
      · rename_i e; have := Nat.eq_of_beq_eq_true e; subst this; simp
      · cases hk
    · intro i hi
      cases i with
      | zero => simp at hi
      | succ i => rfl
    · intro k blk hk
      simp only [look] at hk
      split at hk
      · rename_i e
        have := Nat.eq_of_beq_eq_true e
        subst this
        cases hk
        exact (h.W.blocks id _ hl).rows_ok hn rfl (fun b hb => .inl ⟨okS_lt h.W hb, hnX b hb⟩)
      · cases hk
    · intro b hb; exact hb
  have hargs : RepL w G0 ρ1 (okS ⟨w, X, ok'⟩ ρ1 w) (.os 0 sz 0 n :: rest) vs := by
    obtain ⟨q1, q2⟩ := viewUL_sound h.W hvw (G := G) hv
    have hlen := hr.len
    refine ⟨by simpa [q1] using hlen, fun j hj => ?_⟩
    cases j with
    | zero =>
      have r0 := hr.rep 0 (by simp)
      have e0 : getM (.os id sz 0 n :: ms) 0 = .os id sz 0 n := rfl
      have e1 : getM (.os 0 sz 0 n :: rest) 0 = .os 0 sz 0 n := rfl
      rw [e0] at r0
      rw [e1]
      generalize vs.getD 0 undef = v at r0
      cases r0 with
      | os _ _ _ _ blk cap off c T h1 h2 h3 h4 h5 => exact .os _ _ _ _ _ _ _ _ _ h1 h2 h3 h4 h5
      | osnil => exact .osnil _ _ _
    | succ j =>
      have hj' : j < ms.length := by simp [q1] at hj; exact hj
      have := q2 (vs := fun j => vs.getD (j + 1) undef) (fun j hj => by simpa [getM] using hr.rep (j + 1) (by simpa using hj)) j hj'
      have := this.mono (Keeps.refl w) (G' := G0) (ρ' := ρ1) (ok' := okS ⟨w, X, ok'⟩ ρ1 w) (fun _ _ _ e => e) (fun _ _ e => by cases e) (fun b hb => ⟨.inl hb, rfl⟩)
      simpa [getM] using this
  refine (hf.calls ⟨w, X, ok'⟩ w ρ1 vs rfl hsat hargs).mono ?_
  rintro e w' ⟨v, rfl, hb, hbk, hm⟩
  have hb : BelowX X w w' := hb
  have hkeep : ∀ b, b < w.heap.size → ¬ X b → w'.heap[b]? = w.heap[b]? := fun b h1 h2 => hb.block b h1 h2
  have hok1 : ∀ b, okS cx ρ w b → okS cx ρ w' b ∧ w'.heap[b]? = w.heap[b]? := by
    intro b hb'
    refine ⟨?_, hkeep b (okS_lt h.W hb') (hnX b hb')⟩
    rcases hb' with q | q
    · exact .inl q
    · exact .inr ⟨q.1, Nat.lt_of_lt_of_le q.2.1 hb.size, q.2.2⟩
  refine ⟨v, rfl, ⟨⟨?_, h.W.inj, ?_, ?_, h.W.nx, ?_, h.W.okA⟩, ⟨h.F.defers, h.F.size, h.F.frame.mono hb.keeps (fun _ _ _ e => e) (fun _ _ e => e) hok1⟩, h.K.mono hb.keeps (fun _ _ e => e) hok1⟩, ?_⟩
  · have ho := h.W.below
    refine ⟨hb.os.trans ho.os, hb.tape.trans ho.tape, hb.output.trans ho.output, Nat.le_trans ho.size hb.size, fun k hk hx => ?_, ho.keeps.trans hb.keeps⟩
    refine (hkeep k (Nat.lt_of_lt_of_le hk ho.size) fun hX' => ?_).trans (ho.block k hk hx)
    rcases (h.W.rng id k hX').2 with q | q
    · omega
    · exact hx q
  · intro i b hi
    have := h.W.rng i b hi
    exact ⟨Nat.lt_of_lt_of_le this.1 hb.size, this.2⟩
  · intro k blk hk
    replace hk : look (putL S.H id (.rows sz n' g')) k = some blk := hk
    rw [look_put] at hk
    split at hk
    · rename_i e; subst e; exact h.W.hlt _ _ hl
    · exact h.W.hlt _ _ hk
  · intro k blk hk
    replace hk : look (putL S.H id (.rows sz n' g')) k = some blk := hk
    rw [look_put] at hk
    split at hk
    · rename_i e
      subst e
      cases hk
      exact hbk.rows_ok (Nat.le_refl _) rfl (fun b hb => hb.elim)
    · rename_i hne
      refine (h.W.blocks k blk hk).mono hb.keeps (fun _ _ e => e) (fun e => e) hok1 fun b hid => hkeep b (h.W.rng k b hid).1 fun hx => ?_
      exact hne (h.W.inj k id b hid hx)
  · cases k with
    | none => exact flatT_any rfl hm
    | some k =>
      have hm : Rep w' G0 ρ1 (fun _ => False) (.os 0 sz 0 k) v := hm
      show Rep w' G ρ (okS cx ρ w') (.os id sz 0 k) v
      cases hm with
      | os _ _ _ _ blk cap off c T u1 u2 u3 u4 u5 => exact .os _ _ _ _ _ _ _ _ _ u1 u2 u3 u4 u5
      | osnil => exact .osnil _ _ _
abbrev VT := Nat → Nat → (Nat → List MV) → List MV → Option (List Prop × Nat × (Nat → List MV) × Option Nat)
def hndV (V : FuncId → Option VT) (call : CallT) : CallT := fun f ms S K => match V f with
  | none => call f ms S K
  | some u => match S with
    | ⟨F, stk, H, nx⟩ => match nrmL ms with
      | .os id sz 0 n :: ms => match look H id with
        | some (.rows sz' n0 g) => match Nat.beq sz sz' with
          | true => match viewUL (del H id) ms with
            | some rest => match u sz n g rest with
              | some (ps, n', g', k) => match conjO ((n ≤ n0) :: ps) with
                | some p => Need p (forceF (putL H id (.rows sz n' g')) fun H' => K (vRes id sz k) ⟨F, stk, H', nx⟩)
                | none => False
              | none => False
            | none => False
          | false => False
        | _ => False
      | _ => False
def VOK (P : Program) (V : FuncId → Option VT) : Prop := ∀ f u, V f = some u → ∀ sz n g rest ps n' g' k, u sz n g rest = some (ps, n', g', k) → AllP ps → CV P f sz n g rest n' g' k
theorem hndV_sound {P : Program} {cx : Cx} {V : FuncId → Option VT} (hU : VOK P V) {call : CallT} (hc : CallH P cx call) : CallH P cx (hndV V call) := by
  intro f ms S K h su n G a w ρ vs hs hr
  unfold hndV at h
  split at h
  · exact hc f ms S K h su n G a w ρ vs hs hr
  · rename_i u hu
    have hr' := hr.norm
    split at h
    rename_i F stk H nx
    split at h
    · rename_i id sz nn ms' hms
      rw [hms] at hr'
      split at h
      · rename_i sz' n0 g hl
        split at h
        · rename_i hsz
          have hsz := Nat.eq_of_beq_eq_true hsz
          subst hsz
          split at h
          · rename_i rest hv
            split at h
            · rename_i ps n' g' k hps
              split at h
              · rename_i p hp
                have hall : AllP ((nn ≤ n0) :: ps) := conjO_all (fun q e => by rw [hp] at e; cases e; exact h.left.h)
                have hK := forceF_eq h.right
                have hcu := hU f u hu _ _ _ _ _ _ _ _ hps (fun q hq => hall q (by simp [hq]))
                rcases callV_sound hcu hs hl (hall _ (by simp)) hv hr' with ⟨v, w', e, s2, r2⟩ | ⟨e, hcc⟩
                · exact .inl ⟨v, w', e, ⟨_, _, ρ, hK, s2, r2⟩⟩
                · refine .inr ⟨e, hcc.mono ?_⟩
                  rintro _ w' ⟨v, rfl, s2, r2⟩
                  exact ⟨v, rfl, ⟨_, _, ρ, hK, s2, r2⟩⟩
              · exact h.elim
            · exact h.elim
          · exact h.elim
        · exact h.elim
      · exact h.elim
    · exact h.elim
def V0 : FuncId → Option VT := fun _ => none
theorem V0_ok {P : Program} : VOK P V0 := fun _ _ h => by cases h
def vAdd (f : FuncId) (u : VT) (V : FuncId → Option VT) : FuncId → Option VT := fun h => match Nat.beq f h with
  | true => some u
  | false => V h
theorem VOK.add {P : Program} {V : FuncId → Option VT} (hV : VOK P V) {f : FuncId} {u : VT} (h : ∀ sz n g rest ps n' g' k, u sz n g rest = some (ps, n', g', k) → AllP ps → CV P f sz n g rest n' g' k) : VOK P (vAdd f u V) := by
  intro f' u' e
  unfold vAdd at e
  split at e
  · rename_i hb
    have := Nat.eq_of_beq_eq_true hb
    subst this
    cases e
    exact h
  · exact hV _ _ e
theorem CV.leG {P : Program} {f : FuncId} {sz n n' : Nat} {g h g' : Nat → List MV} {rest : List MV} {k : Option Nat} (hc : CV P f sz n h rest n' g' k) (hg : ∀ i, i < n → ∀ j, j < sz → getM (g i) j = getM (h i) j) : CV P f sz n g rest n' g' k := by
  refine ⟨hc.enters, hc.flat, fun cx w ρ vs hw hW hr => hc.calls cx w ρ vs hw ?_ hr⟩
  refine ⟨hW.below, hW.inj, hW.rng, fun id blk hl => ?_, hW.nx, fun id blk hl => ?_, hW.okA⟩
  · simp only [look] at hl
    split at hl
    · rename_i e; have := Nat.eq_of_beq_eq_true e; subst this; simp
    · cases hl
  · simp only [look] at hl
    split at hl
    · rename_i e
      have := Nat.eq_of_beq_eq_true e
      subst this
      cases hl
      rcases hW.blocks 0 _ rfl with ⟨h1, h2⟩ | ⟨b, c, T, h1, h2, h3, h5, h4⟩
      · exact .inl ⟨h1, h2⟩
      · exact .inr ⟨b, c, T, h1, h2, h3, h5, fun i hi j hj => by rw [← hg i hi j hj]; exact h4 i hi j hj⟩
    · cases hl
/-- Of a block only the first rows are told any more. -/
theorem Le.shrink {cx : Cx} {n : Nat} {F : List (Nat × MV)} {stk : List (List (Nat × MV))} {H : List (Nat × Blk)} {nx : Nat} {T : St} (id m : Nat) (h : match look H id with
      | some (.rows sz n0 g) => Side (m ≤ n0) ∧ Le cx n ⟨F, stk, putL H id (.rows sz m g), nx⟩ T
      | _ => False) : Le cx n ⟨F, stk, H, nx⟩ T := by
  split at h
  · rename_i sz n0 g hl
    refine ⟨fun su a w hs => h.2.ok su a w ?_⟩
    obtain ⟨ρ, hs⟩ := hs
    refine ⟨ρ, ⟨hs.W.below, hs.W.inj, hs.W.rng, fun k blk hk => ?_, hs.W.nx, fun k blk hk => ?_, hs.W.okA⟩, hs.F, hs.K⟩
    · replace hk : look (putL H id (.rows sz m g)) k = some blk := hk
      rw [look_put] at hk
      split at hk
      · rename_i e; subst e; exact hs.W.hlt _ _ hl
      · exact hs.W.hlt _ _ hk
    · replace hk : look (putL H id (.rows sz m g)) k = some blk := hk
      rw [look_put] at hk
      split at hk
      · rename_i e
        subst e
        cases hk
        exact (hs.W.blocks _ _ hl).rows_ok h.1.h rfl (fun b hb => hb)
      · exact hs.W.blocks k blk hk
  · exact h.elim
end Go.Ev
