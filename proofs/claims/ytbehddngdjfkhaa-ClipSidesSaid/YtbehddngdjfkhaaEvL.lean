/-
  The way from a contract of a law to the law, exact results, and calls that write what they are handed, for every program; no condition.
-/
import Derived.Test.YtbehddngdjfkhaaEvD
import Derived.ProofKit
import Derived.OpenShut
import Derived.Carry
import Derived.ChangeSlices
import Derived.Test.YtbehddngdjfkhaaEvC
set_option linter.unusedSimpArgs false
set_option linter.unusedVariables false
namespace Go.Ev
open Go.ChangeShapes Go.WideShapes Go.ChangeAt Go.RowKit
/-! ## From a contract of a law to what is asked of it -/
theorem trodAll_below {H : Type} {enc : TypeId × Value → H} {P : Program} (hl : laidOutB P = true) {W W' : World} (hb : Below W.heap.size W W') : ∀ {ts : List TypeId} {vs : List Value} {ds : List (DataW H)} {ps : List MemPlace},
    ts.all (fun t => P.readableRec t && decide (t < P.types.size)) = true → DataW.TrodAll enc P W 0 (fun _ => true) true ts vs ds ps → (∀ x ∈ ps, x.block < W.heap.size) →
    DataW.TrodAll enc P W' 0 (fun b => decide (b < W.heap.size)) true ts vs ds ps
  | [], vs, ds, ps, _, h, _ => by
    obtain ⟨rfl, rfl, rfl⟩ := trodAll_nil h
    exact trodAll_mk0
  | t :: ts, vs, ds, ps, hr, h, hlt => by
    obtain ⟨v, vs', d, ds', p, q, rfl, rfl, rfl, h1, h2⟩ := trodAll_cons h
    simp only [List.all_cons, Bool.and_eq_true, decide_eq_true_eq] at hr
    refine trodAll_cons_mk (Below.trod hl hr.1.1 hr.1.2 h1 hb fun x hx => hlt x (List.mem_append_left _ hx)) (trodAll_below hl hb ?_ h2 fun x hx => hlt x (List.mem_append_right _ hx))
    exact hr.2
theorem law_handed {C : Checked} {os : Os} {f : FuncId} {fn : Func} {s : ChangeSpec} {conds : List PathCond} {apart : Bool} {a : Assume} {H : Type} {enc : TypeId × Value → H} {tb : TypeId} (hl : laidOutB C.prog = true)
    (own : ownKnob C.prog.godebug = none) (started : os.Started) (noInit : C.prog.inits.idxOf? f = none) (hfn : C.prog.funcs[f]? = some fn)
    (hread : fn.params.toList.all (fun t => C.prog.readableRec t && decide (t < C.prog.types.size)) = true)
    (witness : ∃ (w : World) (tape : Tape) (i : Input), w.os = os ∧ (w.forCall tape i).Shaped C.prog ∧ i.vars = [] ∧ Input.okWide C.prog (w.forCall tape i) .any w.heap.size f i ∧
      s.pre6 enc C.prog fn conds apart (w.forCall tape i).memory i.args ∧ a.holds C.prog (lone (Frame.enter C.prog f i.args .normal) [] (w.forCall tape i)))
    (hvars : s.vars = []) (hres : fn.resultTypes = #[tb]) (htb : C.prog.underlying tb = some .bool)
    (hs : ∀ ds : List (DataW H), ds.length = fn.params.toList.length → (s.fn H ds).results = [.lit (.bool true)] ∧ (s.fn H ds).args = ds ∧ (s.fn H ds).vars = [])
    (h : ∀ (W : World) (args : Array Value) (ds : List (DataW H)) (ps : List MemPlace), (∀ (j : Nat) t v, fn.params[j]? = some t → args[j]? = some v → Value.okWide C.prog W .any W.heap.size t v) →
      DataW.TrodAll enc C.prog W 0 (fun _ => true) true fn.params.toList args.toList ds ps → (∀ x ∈ ps, x.block < W.heap.size) →
      (DataW.weightsEach C.prog fn.params.toList ds).all (· ≤ reachBytes) = true →
      Calls C.prog f args W fun e W' => e = .returned (.bool true) ∧ Below W.heap.size W W') :
    ReturnsInHanded a C os f .any (s.pre6 enc C.prog fn conds apart) (s.post enc C.prog fn apart true false false) := by
  refine returnsInHanded_of_calls own started noInit witness ?_
  intro w tape i _ _ _ hok hpre hholds
  obtain ⟨_, _, _, fn', hfn', _, _, _, _, hval⟩ := hok
  have e : fn' = fn := Option.some.inj (hfn'.symm.trans hfn)
  subst e
  obtain ⟨⟨ds, gs, before, hw, hc⟩, hz⟩ := hpre
  have hwt := hz.weights hw
  have hw' := DataW.Whole.of_heap (w' := w.forCall tape i) (by rfl) hw
  have hlt := hw'.lt
  have hW := hw'
  obtain ⟨p, q, hA, hV, rfl, hfz, hnd⟩ := hW
  rw [hvars] at hV
  obtain ⟨rfl, rfl⟩ := trodVars_none hV
  have len : ∀ {ts : List TypeId} {vs : List Value} {ds : List (DataW H)} {ps : List MemPlace}, DataW.TrodAll enc C.prog (w.forCall tape i) 0 (fun _ => true) true ts vs ds ps → ds.length = ts.length := by
    intro ts
    induction ts with
    | nil => intro vs ds ps h; obtain ⟨_, rfl, _⟩ := trodAll_nil h; rfl
    | cons t ts ih =>
      intro vs ds ps h
      obtain ⟨v, vs', d, ds', p, q, rfl, rfl, rfl, h1, h2⟩ := trodAll_cons h
      simp [ih h2]
  have hlen := len hA
  obtain ⟨s1, s2, s3⟩ := hs ds hlen
  have hwt' : (DataW.weightsEach C.prog fn'.params.toList ds).all (· ≤ reachBytes) = true := by
    have : s.plain.varTypes C.prog = [] := by
      unfold DataSpec.varTypes ChangeSpec.plain
      simp [hvars]
    have e2 : (OpenSpec.ofChange s).bare.plain.varTypes C.prog = s.plain.varTypes C.prog := rfl
    rw [e2, this, List.append_nil, List.append_nil] at hwt
    exact hwt
  refine (h (w.forCall tape i) i.args ds p (fun j t v h1 h2 => Value.okWide_any_base (hval j t v h1 h2)) hA (fun x hx => hlt x (by simp [hx])) hwt').mono fun e W' ⟨he, hb⟩ => ?_
  subst he
  refine ChangeSpec.post_blind ⟨ds, [], _, [], p, [], hw', ?_, ?_, ?_, hb.frame _, fun h => by cases h⟩
  · rw [List.append_nil, s1, hres]
    exact trodAll_mk1 (shut_bool htb true)
  · rw [List.append_nil, s2]
    exact trodAll_below hl hb hread hA fun x hx => hlt x (by simp [hx])
  · rw [List.append_nil, s3, hvars]
    rfl
end Go.Ev

namespace Go.Ev
open Go.ChangeShapes Go.WideShapes Go.ChangeAt Go.RowKit
/-! ## Plain cells: whole numbers, floats, bools -/
inductive CK where
  | i (k : IntKind)
  | f (k : FloatKind)
  | b
def intOf : Value → Int
  | .int _ n => n
  | _ => 0
def fltOf : Value → Nat
  | .float _ n => n
  | _ => 0
def boolOf : Value → Bool
  | .bool b => b
  | _ => false
def mkM : CK → Value → MV
  | .i k, v => .i k (intOf v)
  | .f k, v => .f k (canon k (fltOf v))
  | .b, v => .b (boolOf v)
def CKok : CK → Value → Prop
  | .i k, v => v = .int k (intOf v) ∧ (Lit.int k (intOf v)).wf = true
  | .f k, v => v = .float k (fltOf v) ∧ fltOf v < 2 ^ k.format.width
  | .b, v => v = .bool (boolOf v)
theorem mkM_rep {k : CK} {v : Value} (h : CKok k v) {w : World} {G : GT} {ρ : RhoT} {ok : OkT} : Rep w G ρ ok (mkM k v) v := by
  cases k with
  | i k => obtain ⟨h, _⟩ := h; show Rep w G ρ ok (.i k (intOf v)) v; rw [h]; exact .i _ _
  | f k =>
    obtain ⟨h, hb⟩ := h
    show Rep w G ρ ok (.f k (canon k (fltOf v))) v
    generalize hx : fltOf v = x at h hb ⊢
    subst h
    exact .f _ _ _ (canon_FR k x hb)
  | b => show Rep w G ρ ok (.b (boolOf v)) v; rw [show v = .bool (boolOf v) from h]; exact .b _
theorem CKok.one {k : CK} {v : Value} (h : CKok k v) : v.oneCell' = true := by
  cases k with
  | i k => rw [h.1]; rfl
  | f k => rw [h.1]; rfl
  | b => rw [show v = .bool (boolOf v) from h]; rfl
def mkRow : List CK → Nat → (Nat → Value) → List MV
  | [], _, _ => []
  | k :: r, j, u => mkM k (u j) :: mkRow r (j + 1) u
theorem mkRow_get : ∀ {l : List CK} {j i : Nat} {u : Nat → Value} {k : CK}, l[i]? = some k → getM (mkRow l j u) i = mkM k (u (j + i))
  | [], j, i, u, k, h => by simp at h
  | x :: r, j, 0, u, k, h => by simp at h; subst h; simp [mkRow, getM]
  | x :: r, j, i + 1, u, k, h => by
    have := mkRow_get (l := r) (j := j + 1) (i := i) (u := u) (by simpa using h)
    rw [show j + (i + 1) = j + 1 + i by omega, ← this]
    simp [mkRow, getM]
def kindsF (P : Program) (kT : TypeId → Option (List CK)) (sz : Nat) : List Field → List CK → Option (List CK)
  | [], acc => match Nat.beq acc.length sz with
    | true => some acc
    | false => none
  | f :: r, acc => match Nat.beq f.offset acc.length with
    | false => none
    | true => match kT f.type with
      | none => none
      | some l => match Nat.beq l.length (P.cellsOf f.type) with
        | false => none
        | true => kindsF P kT sz r (acc ++ l)
def kindsT (P : Program) : Nat → TypeId → Option (List CK)
  | 0, _ => none
  | m + 1, t => match P.underlying t with
    | some (.int k) => some [.i k]
    | some (.float k) => some [.f k]
    | some .bool => some [.b]
    | some (.struct fs) => kindsF P (kindsT P m) (P.cellsOf t) fs.toList []
    | some (.array n e) => match kindsT P m e with
      | none => none
      | some l => match Nat.beq l.length (P.cellsOf e) && Nat.beq (n * P.cellsOf e) (P.cellsOf t) with
        | true => some (List.replicate n l).flatten
        | false => none
    | _ => none
def AllCK (l : List CK) (cs : List Value) : Prop := cs.length = l.length ∧ ∀ (j : Nat) (k : CK) (v : Value), l[j]? = some k → cs[j]? = some v → CKok k v
theorem AllCK.app {l l' : List CK} {cs : List Value} (hlen : cs.length = l.length + l'.length) (h1 : AllCK l (cs.take l.length)) (h2 : AllCK l' (cs.drop l.length)) : AllCK (l ++ l') cs := by
  refine ⟨by simp [hlen], fun j k v hk hv => ?_⟩
  rcases Nat.lt_or_ge j l.length with h | h
  · rw [List.getElem?_append_left h] at hk
    exact h1.2 j k v hk (by rw [List.getElem?_take, if_pos h]; exact hv)
  · rw [List.getElem?_append_right h] at hk
    exact h2.2 (j - l.length) k v hk (by rw [List.getElem?_drop, show l.length + (j - l.length) = j by omega]; exact hv)
section
variable {H : Type} {enc : TypeId × Value → H} {P : Program} {w : World} {base : Nat} {spare : Nat → Bool} {held : Bool}
theorem trod_float {t : TypeId} {k : FloatKind} {fuel : Nat} {cs : List Value} {x : DataW H × List MemPlace} (ht : P.underlying t = some (.float k)) (h : DataW.trod enc P w base spare held fuel t cs = some x) :
    ∃ b, cs = [.float k b] ∧ (Lit.float k b).wf = true := by
  cases fuel with
  | zero => simp [DataW.trod] at h
  | succ n =>
    unfold DataW.trod at h
    rw [ht] at h
    split at h <;> simp_all
theorem trod_plain : ∀ {m : Nat} {t : TypeId} {ks : List CK}, kindsT P m t = some ks → ∀ {fuel : Nat} {cs : List Value} {x : DataW H × List MemPlace}, DataW.trod enc P w base spare held fuel t cs = some x → AllCK ks cs
  | 0, t, ks, hk, _, _, _, _ => by simp [kindsT] at hk
  | m + 1, t, ks, hk, fuel, cs, x, h => by
    unfold kindsT at hk
    split at hk
    · rename_i k ht
      cases hk
      obtain ⟨n, rfl, _, hw⟩ := DataW.trod_int ht h
      refine ⟨rfl, fun j k' v h1 h2 => ?_⟩
      cases j with
      | zero => simp at h1 h2; subst h1; subst h2; exact ⟨rfl, hw⟩
      | succ j => simp at h1
    · rename_i k ht
      cases hk
      obtain ⟨n, rfl, hw⟩ := trod_float ht h
      refine ⟨rfl, fun j k' v h1 h2 => ?_⟩
      cases j with
      | zero =>
        simp at h1 h2; subst h1; subst h2
        refine ⟨rfl, ?_⟩
        show n < _
        cases k <;> exact of_decide_eq_true hw
      | succ j => simp at h1
    · rename_i ht
      cases hk
      obtain ⟨n, rfl, _⟩ := DataW.trod_bool ht h
      refine ⟨rfl, fun j k' v h1 h2 => ?_⟩
      cases j with
      | zero => simp at h1 h2; subst h1; subst h2; rfl
      | succ j => simp at h1
    · rename_i fs ht
      obtain ⟨xs, n, _, _, hl, _, hf⟩ := DataW.trod_struct ht h
      have key : ∀ (l : List Field) (acc : List CK), (∀ f ∈ l, ∃ y, DataW.trod enc P w base spare held n f.type ((cs.drop f.offset).take (P.cellsOf f.type)) = some y) → AllCK acc (cs.take acc.length) → acc.length ≤ cs.length → kindsF P (kindsT P m) (P.cellsOf t) l acc = some ks → AllCK ks cs := by
        intro l
        induction l with
        | nil =>
          intro acc _ ha hle hk
          unfold kindsF at hk
          split at hk
          · rename_i e
            cases hk
            have e := Nat.eq_of_beq_eq_true e
            rw [e, ← hl, List.take_length] at ha
            exact ha
          · cases hk
        | cons f r ih =>
          intro acc hall ha hle hk
          unfold kindsF at hk
          split at hk
          · cases hk
          · rename_i e
            have e := Nat.eq_of_beq_eq_true e
            split at hk
            · cases hk
            · rename_i l' hl'
              split at hk
              · cases hk
              · rename_i e2
                have e2 := Nat.eq_of_beq_eq_true e2
                obtain ⟨y, hy⟩ := hall f (by simp)
                have := trod_plain hl' hy
                have hlen := this.1
                rw [List.length_take, List.length_drop] at hlen
                have hle2 : acc.length + l'.length ≤ cs.length := by omega
                refine ih (acc ++ l') (fun g hg => hall g (by simp [hg])) ?_ (by simpa using hle2) hk
                rw [List.length_append]
                refine AllCK.app (by simp; omega) ?_ ?_
                · rw [List.take_take, show min acc.length (acc.length + l'.length) = acc.length by omega]; exact ha
                · rw [e, ← e2] at this
                  rw [List.drop_take, show acc.length + l'.length - acc.length = l'.length by omega]
                  exact this
      refine key fs.toList [] ?_ ⟨rfl, fun j k v h1 => by simp at h1⟩ (by simp) hk
      intro f hf'
      obtain ⟨i, hi⟩ := List.getElem?_of_mem hf'
      have hi' : fs[i]? = some f := by simpa using hi
      have := hf i f hi'
      have hlt : i < xs.length := by
        have h1 := (Array.getElem?_eq_some_iff.1 hi').1
        omega
      exact ⟨xs[i], by rw [this]; exact List.getElem?_eq_getElem hlt⟩
    · rename_i n e ht
      split at hk
      · cases hk
      · rename_i l hl
        split at hk
        · rename_i hb
          rw [Bool.and_eq_true] at hb
          have e1 := Nat.eq_of_beq_eq_true hb.1
          have e2 := Nat.eq_of_beq_eq_true hb.2
          cases hk
          obtain ⟨xs, fu, _, _, hlen, hxs, hf⟩ := DataW.trod_array ht h
          rw [← e2] at hlen
          have key : ∀ m, m ≤ n → AllCK (List.replicate m l).flatten (cs.take (m * l.length)) := by
            intro m
            induction m with
            | zero => intro _; exact ⟨by simp, fun j k v h1 => by simp at h1⟩
            | succ m ih =>
              intro hm
              have ih := ih (by omega)
              have hi := hf m (by omega)
              have hlt : m < xs.length := by omega
              rw [List.getElem?_eq_getElem hlt] at hi
              have := trod_plain hl hi
              have hfl : (List.replicate m l).flatten.length = m * l.length := by simp
              rw [List.replicate_succ', List.flatten_append, List.flatten_cons, List.flatten_nil, List.append_nil]
              have hmul : (m + 1) * l.length = m * l.length + l.length := Nat.succ_mul _ _
              have hle : (m + 1) * l.length ≤ cs.length := by rw [hlen, ← e1]; exact Nat.mul_le_mul_right _ hm
              refine AllCK.app (by rw [hfl, List.length_take]; omega) ?_ ?_
              · rw [hfl, List.take_take, show min (m * l.length) ((m + 1) * l.length) = m * l.length by omega]; exact ih
              · rw [hfl, List.drop_take, show (m + 1) * l.length - m * l.length = l.length by omega]
                rw [← e1] at this
                exact this
          have := key n (Nat.le_refl _)
          rw [show n * l.length = cs.length by rw [hlen, e1], List.take_length] at this
          exact this
        · cases hk
    · cases hk
end
section
variable {H : Type} {enc : TypeId × Value → H} {P : Program} {W : World}
theorem okWide_slice {t e : TypeId} {b0 : Nat} {v : Value} (ht : P.underlying t = some (.slice e)) (hval : Value.okWide P W .any b0 t v) : (v = .slice none 0 0) ∨ ∃ b off len cap, v = .slice (some ⟨b, off, none⟩) len cap := by
  have h1 : Cell.ok P W .any b0 t v := by
    unfold Value.okWide at hval
    rw [ht] at hval
    dsimp only at hval
    unfold Cell.okWide at hval
    rw [ht] at hval
    cases v <;> exact hval
  unfold Cell.ok at h1
  rw [ht] at h1
  split at h1
  all_goals first
    | exact h1.elim
    | (rename_i h2; cases h2; done)
    | exact .inl rfl
    | (rename_i a len cap h2; obtain ⟨_, _, _, hs, _⟩ := h1; obtain ⟨b, off, sp⟩ := a; dsimp only at hs; subst hs; exact .inr ⟨b, off, len, cap, rfl⟩)
   
theorem open_slice {t e : TypeId} {b0 : Nat} {v : Value} {d : DataW H} {ps : List MemPlace} {m : Nat} {ks : List CK} (ht : P.underlying t = some (.slice e)) (hk : kindsT P m e = some ks) (hks : ks.length = P.cellsOf e) (hpos : 0 < ks.length)
    (hval : Value.okWide P W .any b0 t v) (hd : DataW.Trod enc P W 0 (fun _ => true) true t v d ps) (hw : (DataW.weights P t d).all (· ≤ reachBytes) = true) :
    ∃ (n : Nat) (u : Nat → Nat → Value), (∀ i, i < n → ∀ j k, ks[j]? = some k → CKok k (u i j)) ∧ Rep W G0 rho0 (fun b => b < W.heap.size) (.ro ks.length n fun i => mkRow ks 0 (u i)) v ∧ n * P.bytesOf e ≤ reachBytes := by
  have hcell : v.cells.toList = [v] := by
    rcases okWide_slice ht hval with rfl | ⟨b, off, len, cap, rfl⟩ <;> rfl
  obtain ⟨fuel, hf⟩ := hd
  rw [hcell] at hf
  rcases DataW.trod_slice ht hf with ⟨h0, _⟩ | ⟨a, len, cap, elems, rest, n, _, h0, hx, hb, hl, hm, hlen, hel, hsp, hns⟩
  · simp at h0
    subst h0
    exact ⟨0, fun _ _ => undef, fun i hi => absurd hi (Nat.not_lt_zero _), .ronil _ _, by simp⟩
  · simp at h0
    subst h0
    rcases okWide_slice ht hval with e0 | ⟨b, off, len', cap', e0⟩
    · cases e0
    cases e0
    have each : ∀ i, i < len → ∃ cs, AllCK ks cs ∧ cs.length = ks.length ∧ ∀ j, j < ks.length → W.cell? ⟨b, off + (i * ks.length + j), none⟩ = cs[j]? := by
      intro i hi
      have h1 := hel i hi
      rw [List.getElem?_eq_getElem (by omega), Option.bind_eq_some_iff] at h1
      obtain ⟨cs, h1, h2⟩ := h1
      have h3 := trod_plain hk h2
      obtain ⟨_, h4, h5⟩ := World.cells?_some h1
      refine ⟨cs, h3, h3.1, fun j hj => ?_⟩
      have := h5 j (by omega)
      rw [add_plain, add_plain] at this
      rw [← this, hks, Nat.add_assoc]
    have hchoice : ∃ u : Nat → Nat → Value, ∀ i, i < len → ∀ j k, ks[j]? = some k → W.cell? ⟨b, off + (i * ks.length + j), none⟩ = some (u i j) ∧ CKok k (u i j) := by
      refine ⟨fun i j => (W.cell? ⟨b, off + (i * ks.length + j), none⟩).getD undef, fun i hi j k hk' => ?_⟩
      obtain ⟨cs, h1, h2, h3⟩ := each i hi
      have hj : j < ks.length := (List.getElem?_eq_some_iff.1 hk').1
      have h4 := h3 j hj
      have h5 : cs[j]? = some cs[j] := List.getElem?_eq_getElem (by omega)
      rw [h5] at h4
      dsimp only
      rw [h4]
      exact ⟨rfl, h1.2 j k _ hk' h5⟩
    obtain ⟨u, hu⟩ := hchoice
    refine ⟨len, u, fun i hi j k hk' => (hu i hi j k hk').2, ?_, ?_⟩
    · have at' : ∀ j, j < ks.length → ∃ k, ks[j]? = some k := fun j hj => ⟨ks[j], List.getElem?_eq_getElem hj⟩
      refine .ro _ _ _ b off cap u hl ?_ ?_ ?_ ?_
      · intro hp
        obtain ⟨k, hk'⟩ := at' 0 hpos
        have := (hu 0 hp 0 k hk').1
        unfold World.cell? at this
        by_cases hlt : b < W.heap.size
        · exact hlt
        · have : W.heap[b]? = none := by simp; omega
          simp_all
      · intro i hi j hj
        obtain ⟨k, hk'⟩ := at' j hj
        exact (hu i hi j k hk').1
      · intro i hi j hj
        obtain ⟨k, hk'⟩ := at' j hj
        exact (hu i hi j k hk').2.one
      · intro i hi j hj
        obtain ⟨k, hk'⟩ := at' j hj
        rw [mkRow_get hk', Nat.zero_add]
        exact mkM_rep (hu i hi j k hk').2
    · simp only [Prod.mk.injEq] at hx
      rw [hx.1] at hw
      unfold DataW.weights at hw
      rw [ht] at hw
      simp only [List.all_cons, Bool.and_eq_true, decide_eq_true_eq, List.length_map] at hw
      refine Nat.le_trans (Nat.mul_le_mul_right _ ?_) hw.1
      omega
end
end Go.Ev

namespace Go.Ev
open Ieee
theorem magOf_norm (f : Format) {c q : Nat} (h1 : f.binade ≤ c) (h2 : c < 2 * f.binade) : magOf f (q * f.binade + c) = c * 2 ^ q := by
  have hb := binade_pos f
  unfold magOf
  generalize f.binade = b at *
  obtain ⟨t, rfl⟩ : ∃ t, c = b + t := ⟨c - b, by omega⟩
  have e : q * b + (b + t) = b * (q + 1) + t := by rw [Nat.mul_succ, Nat.mul_comm q b]; omega
  rw [e, if_neg (by rw [Nat.mul_succ]; have := Nat.zero_le (b * q); omega)]
  have e1 : (b * (q + 1) + t) % b = t := by rw [Nat.mul_add_mod]; exact Nat.mod_eq_of_lt (by omega)
  have e2 : (b * (q + 1) + t) / b = q + 1 := by rw [Nat.mul_add_div hb, Nat.div_eq_of_lt (by omega), Nat.add_zero]
  rw [e1, e2]; rfl
theorem nearest_zero (f : Format) (s : Bool) (place : Int) : f.nearest s 0 place = f.word s 0 := by unfold Format.nearest; simp
theorem rg_word (f : Format) (s : Bool) {r : Nat} (h : r < f.signWeight) : rg f (f.word s r) = r ∧ sgn f (f.word s r) = s := by
  refine ⟨word_rung f s h, ?_⟩
  unfold sgn Format.word
  have hp : 0 < f.signWeight := Nat.two_pow_pos _
  cases s
  · simp [Nat.div_eq_of_lt h]
  · have : (f.signWeight + r) / f.signWeight = 1 := by
      rw [Nat.add_div_left _ hp, Nat.div_eq_of_lt h]
    simp [this]
theorem read_kind (k : FloatKind) {x : Nat} (h : fin k x = true) : ∃ m e, k.format.read x = .number (neg k x) m (k.format.leastPlace + (e : Nat)) ∧ m * 2 ^ e = magOf k.format (rg k.format x) := read_fin _ x (of_decide_eq_true h)
theorem fin_not_nan {k : FloatKind} {x : Nat} (h : fin k x = true) : isNan k x = false := by
  rw [isNan_eq]; have := of_decide_eq_true h; simp; omega
theorem fsub_self {k : FloatKind} {x : Nat} (h : fin k x = true) : fsub k x x = 0 := by
  obtain ⟨m, e, h1, _⟩ := read_kind k h
  unfold fsub Format.sub
  rw [h1]
  simp only [Datum.opposite, Datum.sum]
  have ht : signed (neg k x) m (k.format.leastPlace + (e : Int) - min (k.format.leastPlace + (e : Int)) (k.format.leastPlace + e)).toNat + signed (!neg k x) m (k.format.leastPlace + (e : Int) - min (k.format.leastPlace + (e : Int)) (k.format.leastPlace + e)).toNat = 0 := by
    unfold signed
    cases neg k x <;> simp <;> omega
  rw [ht]
  simp only [if_true, Int.natAbs_zero, Option.map_some, Option.getD_some, Format.write]
  rw [nearest_zero]
  cases neg k x <;> rfl
theorem fsub_self_not {k : FloatKind} {x : Nat} (h : fin k x = false) : fsub k x x = qnan k := by
  have h' := of_decide_eq_false h
  unfold fsub Format.sub
  by_cases hi : rg k.format x = k.format.infRung
  · rw [read_inf _ x (k_le k) hi]
    simp only [Datum.opposite, Datum.sum]
    cases sgn k.format x <;> simp
  · have hn : isNan k x = true := by rw [isNan_eq]; simp; omega
    obtain ⟨s, t, e⟩ := read_nan hn
    rw [e]
    simp [Datum.sum]
theorem finite_eq (k : FloatKind) (x : Nat) : feq k (fsub k x x) 0 = fin k x := by
  cases h : fin k x
  · rw [fsub_self_not h]; cases k <;> decide
  · rw [fsub_self h]; cases k <;> decide
end Go.Ev

namespace Go.Ev
open Ieee
theorem wrap_u64 (n : Nat) : IntKind.u64.wrap (n : Int) = ((n % 2 ^ 64 : Nat) : Int) := by
  show (if (false && decide ((n : Int) % (2 ^ 64 : Int) ≥ (2 ^ 63 : Int))) = true then (n : Int) % (2 ^ 64 : Int) - (2 ^ 64 : Int) else (n : Int) % (2 ^ 64 : Int)) = _
  simp
end Go.Ev

namespace Go.Ev
open Ieee
/-! Products within bounds are finite, sums of finite numbers are numbers. -/
theorem cut_le (s : Bool) (n drop b : Nat) (h : n < 2 ^ (drop + b)) : Toward.even.cut s n drop ≤ 2 ^ b := by
  unfold Toward.cut
  have hg : (1 <<< min drop (n.log2 + 2)) = 2 ^ min drop (n.log2 + 2) := by rw [Nat.shiftLeft_eq, Nat.one_mul]
  rw [hg]
  have hl : n / 2 ^ min drop (n.log2 + 2) < 2 ^ b := by
    by_cases hd : drop ≤ n.log2 + 2
    · rw [Nat.min_eq_left hd]
      rw [Nat.div_lt_iff_lt_mul (Nat.two_pow_pos _), ← Nat.pow_add, Nat.add_comm b]; exact h
    · rw [Nat.min_eq_right (by omega)]
      have h1 : n < 2 ^ (n.log2 + 2) := by
        have := Nat.lt_log2_self (n := n)
        exact Nat.lt_of_lt_of_le this (Nat.pow_le_pow_right (by omega) (by omega))
      rw [Nat.div_eq_of_lt h1]
      exact Nat.two_pow_pos _
  have hm : ∀ c : Bool, c.toNat ≤ 1 := by intro c; cases c <;> decide
  dsimp only
  have := hm (decide (2 ^ min drop (n.log2 + 2) < 2 * (n % 2 ^ min drop (n.log2 + 2))) || (2 ^ min drop (n.log2 + 2) == 2 * (n % 2 ^ min drop (n.log2 + 2)) && n / 2 ^ min drop (n.log2 + 2) % 2 == 1))
  omega
theorem nearest_fin (f : Format) (s : Bool) (mag : Nat) (place top : Int) (h : mag = 0 ∨ place + (mag.log2 : Nat) < top) (h1 : f.leastPlace + f.fractionBits + 1 ≤ top)
    (h2 : ((top - f.fractionBits - f.leastPlace).toNat + 1) * f.binade < f.infRung) (hw : f.infRung < f.signWeight) : rg f (f.nearest s mag place) < f.infRung := by
  have hb := binade_pos f
  by_cases h0 : mag = 0
  · subst h0
    rw [nearest_zero]
    have : 0 < f.infRung := by have := Nat.zero_le (((top - f.fractionBits - f.leastPlace).toNat + 1) * f.binade); omega
    rw [(rg_word f s (r := 0) (by omega)).1]; exact this
  · replace h := h.resolve_left h0
    unfold Format.nearest
    rw [if_neg h0]
    dsimp only
    generalize hl : max (place + (mag.log2 : Nat) - f.fractionBits) f.leastPlace = last
    have hlt := Nat.lt_log2_self (n := mag)
    have hk : Toward.even.cut s (mag <<< (place - last).toNat) (last - place).toNat ≤ 2 ^ (f.fractionBits + 1) := by
      apply cut_le
      rw [Nat.shiftLeft_eq]
      refine Nat.lt_of_lt_of_le (Nat.mul_lt_mul_of_pos_right hlt (Nat.two_pow_pos _)) ?_
      rw [← Nat.pow_add]
      exact Nat.pow_le_pow_right (by omega) (by omega)
    have hq : (last - f.leastPlace).toNat + 1 ≤ (top - f.fractionBits - f.leastPlace).toNat := by omega
    have e2 : 2 ^ (f.fractionBits + 1) = 2 * f.binade := by unfold Format.binade; rw [Nat.pow_succ, Nat.mul_comm]
    have hm : ((last - f.leastPlace).toNat + 1 + 1) * f.binade ≤ ((top - f.fractionBits - f.leastPlace).toNat + 1) * f.binade := Nat.mul_le_mul_right _ (by omega)
    have hm2 : ((last - f.leastPlace).toNat + 1 + 1) * f.binade = (last - f.leastPlace).toNat * f.binade + 2 * f.binade := by
      rw [Nat.add_assoc, Nat.add_mul]
    generalize Toward.even.cut s (mag <<< (place - last).toNat) (last - place).toNat = kept at *
    have hr : (last - f.leastPlace).toNat * f.binade + kept < f.infRung := by omega
    rw [Nat.min_eq_left (by omega), (rg_word f s (by omega)).1]
    exact hr
end Go.Ev

namespace Go.Ev
open Ieee
theorem mag_le {r s : Nat} (h : r ≤ s) : magOf Ieee.double r ≤ magOf Ieee.double s := by
  rcases Nat.lt_or_eq_of_le h with h | h
  · exact Nat.le_of_lt (magOf_mono _ h)
  · rw [h]; exact Nat.le_refl _
theorem nearest_sgn (f : Format) (s : Bool) (mag : Nat) (place : Int) (hw : f.infRung < f.signWeight) : sgn f (f.nearest s mag place) = s := by
  unfold Format.nearest
  split
  · exact (rg_word f s (r := 0) (by omega)).2
  · exact (rg_word f s (by omega)).2
theorem iw : FloatKind.f64.format.infRung < FloatKind.f64.format.signWeight := by decide +kernel
theorem fsq_pos {x : Nat} (hx : fin .f64 x = true) : neg .f64 (fmul .f64 x x) = false := by
  obtain ⟨m, i, h1, h2⟩ := read_kind .f64 hx
  unfold fmul Format.mul
  rw [h1]
  simp only [Datum.product, Option.map_some, Option.getD_some, Format.write]
  unfold neg
  rw [nearest_sgn _ _ _ _ iw]
  cases sgn FloatKind.f64.format x <;> rfl
theorem fadd_pos {x y : Nat} (hx : fin .f64 x = true) (hy : fin .f64 y = true) (nx : neg .f64 x = false) (ny : neg .f64 y = false) : neg .f64 (fadd .f64 x y) = false := by
  obtain ⟨m, i, h1, h2⟩ := read_kind .f64 hx
  obtain ⟨n, j, g1, g2⟩ := read_kind .f64 hy
  unfold fadd Format.add
  rw [h1, g1, nx, ny]
  simp only [Datum.sum, Option.map_some, Option.getD_some, Format.write]
  unfold neg
  rw [nearest_sgn _ _ _ _ iw]
  split
  · rfl
  · have p : ∀ a u, 0 ≤ signed false a u := fun a u => Int.natCast_nonneg _
    refine decide_eq_false ?_
    have := p m (FloatKind.f64.format.leastPlace + (i : Nat) - min (FloatKind.f64.format.leastPlace + (i : Nat)) (FloatKind.f64.format.leastPlace + (j : Nat))).toNat
    have := p n (FloatKind.f64.format.leastPlace + (j : Nat) - min (FloatKind.f64.format.leastPlace + (i : Nat)) (FloatKind.f64.format.leastPlace + (j : Nat))).toNat
    omega
end Go.Ev

namespace Go.Ev
/-! ## What is yielded: two lists of memory of their own -/
def fin1t (a b : Nat) : MV → MV → Prop
  | .os i s lo n, .os k s' lo' n' => Side (s = s' ∧ lo = lo' ∧ n = n' ∧ (k = 0 ∧ i = a ∨ k = 1 ∧ i = b))
  | .nils, .os k _ _ n => Side (n = 0 ∧ k ≤ 1)
  | .nils, .nils => True
  | .nilp, .nilp => True
  | .lb x, .b y => Side (x = y)
  | .b x, .b y => Side (x = y)
  | .i k n, .i k' n' => Side (k = k' ∧ n = n')
  | .f k x, .f k' y => Side (k = k' ∧ x = y)
  | _, .und => True
  | _, _ => False
def finLt (a b : Nat) : List MV → List MV → Prop
  | [], [] => True
  | x :: r, y :: s => fin1t a b x y ∧ finLt a b r s
  | _, _ => False
def rho2 (ρ : RhoT) (a b : Nat) : RhoT := fun i => match i with | 0 => ρ a | 1 => ρ b | _ + 2 => none
theorem fin1t_rep {a b : Nat} {m m' : MV} (h : fin1t a b m m') {w : World} {ρ : RhoT} {ok ok' : OkT} {v : Value} (r : Rep w G0 ρ ok m v) : Rep w G0 (rho2 ρ a b) ok' m' v := by
  unfold fin1t at h
  split at h
  · rename_i k _ _ _
    obtain ⟨rfl, rfl, rfl, hk⟩ := h.h
    cases r with
    | os id sz lo n blk cap off c T h1 h2 h3 h4 h5 =>
      have e : rho2 ρ a b k = some blk := by
        rcases hk with ⟨rfl, rfl⟩ | ⟨rfl, rfl⟩
        · exact h1
        · exact h1
      exact .os _ _ _ _ _ _ _ _ _ e h2 h3 h4 h5
    | osnil => exact .osnil _ _ _
  · obtain ⟨rfl, _⟩ := h.h; cases r; exact .osnil _ _ _
  · cases r; exact .nils
  · cases r; exact .nilp
  · have := h.h; subst this; cases r; exact .b _
  · have := h.h; subst this; cases r; exact .b _
  · obtain ⟨rfl, rfl⟩ := h.h; cases r; exact .i _ _
  · obtain ⟨rfl, rfl⟩ := h.h; cases r with | f _ _ _ h => exact .f _ _ _ h
  · exact .und _
  · exact h.elim
theorem finLt_spec {a b : Nat} : ∀ {l l' : List MV}, finLt a b l l' → l.length = l'.length ∧ ∀ j, j < l.length → fin1t a b (getM l j) (getM l' j)
  | [], [], _ => ⟨rfl, fun j hj => by simp at hj⟩
  | x :: r, y :: s, h => by
    obtain ⟨h1, h2⟩ := finLt_spec h.2
    refine ⟨by simp [h1], fun j hj => ?_⟩
    cases j with
    | zero => simpa [getM] using h.1
    | succ j => simpa [getM] using h2 j (by simpa using hj)
  | [], _ :: _, h => h.elim
  | _ :: _, [], h => h.elim
def isRows (H : List (Nat × Blk)) (id sz n : Nat) (g : Nat → List MV) : Prop := match look H id with
  | some (.rows s' n' g') => Side (s' = sz ∧ n' = n ∧ ∀ i, i < n → ∀ j, j < sz → getM (g' i) j = getM (g i) j)
  | _ => False
theorem isRows_ok {H : List (Nat × Blk)} {id sz n : Nat} {g : Nat → List MV} (h : isRows H id sz n g) {cx : Cx} {ρ ρ' : RhoT} {nx : Nat} {w : World} (hW : SatW cx ρ H nx w) {k : Nat} (hk : ρ' k = ρ id) (hok : ∀ b, okS cx ρ w b → okS cx ρ' w b) :
    BlkOK w ρ' (okS cx ρ' w) k (.rows sz n g) := by
  unfold isRows at h
  split at h
  · rename_i s' n' g' hl
    obtain ⟨rfl, rfl, hg⟩ := h.h
    rcases hW.blocks id _ hl with ⟨h1, h2⟩ | ⟨b, c, T, h1, h2, h3, h5, h4⟩
    · exact .inl ⟨h1, hk.trans h2⟩
    · refine .inr ⟨b, c, T, hk.trans h1, h2, h3, h5, fun i hi j hj => ?_⟩
      rw [← hg i hi j hj]
      exact (h4 i hi j hj).mono (Keeps.refl w) (fun _ _ _ e => e) (fun _ _ e => e) fun b hb => ⟨hok b hb, rfl⟩
  · exact h.elim
theorem FinS.two {S : St} {l l' : List MV} {sz n : Nat} {g : Nat → List MV} {sz' n' : Nat} {g' : Nat → List MV} (a b : Nat) (hab : Side (a ≠ b)) (hA : isRows S.H a sz n g) (hB : isRows S.H b sz' n' g') (hm : finLt a b l l') :
    FinS S (.tup l) (.tup l') [.rows sz n g, .rows sz' n' g'] := by
  have hab := hab.h
  refine ⟨fun cx ρ w v hW r => ?_⟩
  have hok : ∀ k, okS cx ρ w k → okS cx (rho2 ρ a b) w k := by
    intro k hk
    rcases hk with hk | hk
    · exact .inl hk
    · refine .inr ⟨hk.1, hk.2.1, fun i hi => ?_⟩
      match i, hi with
      | 0, hi => exact hk.2.2 a hi
      | 1, hi => exact hk.2.2 b hi
      | _ + 2, hi => cases hi
  refine ⟨rho2 ρ a b, ⟨hW.below, ?_, ?_, ?_, ?_, ?_, hW.okA⟩, ?_⟩
  · intro i j k h1 h2
    match i, j, h1, h2 with
    | 0, 0, _, _ => rfl
    | 1, 1, _, _ => rfl
    | 0, 1, h1, h2 => exact absurd (hW.inj a b k h1 h2) hab
    | 1, 0, h1, h2 => exact absurd (hW.inj a b k h2 h1) hab
    | _ + 2, _, h1, _ => cases h1
    | 0, _ + 2, _, h2 => cases h2
    | 1, _ + 2, _, h2 => cases h2
  · intro i k h
    match i, h with
    | 0, h => exact hW.rng a k h
    | 1, h => exact hW.rng b k h
    | _ + 2, h => cases h
  · intro i blk h
    simp only [idxH, look] at h
    split at h
    · rename_i e; have := Nat.eq_of_beq_eq_true e; subst this; simp
    · split at h
      · rename_i e; have := Nat.eq_of_beq_eq_true e; subst this; simp
      · cases h
  · intro i hi
    match i, hi with
    | 0, hi => simp at hi
    | 1, hi => simp at hi
    | _ + 2, hi => rfl
  · intro i blk h
    simp only [idxH, look] at h
    split at h
    · rename_i e
      have := Nat.eq_of_beq_eq_true e
      subst this
      cases h
      exact isRows_ok hA hW rfl hok
    · split at h
      · rename_i e
        have := Nat.eq_of_beq_eq_true e
        subst this
        cases h
        exact isRows_ok hB hW rfl hok
      · cases h
  · obtain ⟨h1, h2⟩ := finLt_spec hm
    cases r with
    | tup _ vs hl hr => exact .tup _ _ (h1.symm.trans hl) fun j hj => fin1t_rep (h2 j (by omega)) (hr j (by omega))
end Go.Ev

namespace Go.Ev
/-! ## Calls that write what they are handed: lists of the caller's own -/
structure CW (P : Program) (f : FuncId) (args : List MV) (blks : List Blk) (m : MV) : Prop where
  enters : Enters P f
  calls : ∀ (cx : Cx) (w : World) (ρ : RhoT) (vs : List Value), cx.w0 = w → SatW cx ρ (idxH 0 blks) blks.length w → RepL w G0 ρ (okS cx ρ w) args vs →
    Calls P f vs.toArray w fun e w' => ∃ v, e = .returned v ∧ BelowX cx.X w w' ∧ Rep w' G0 rho0 (fun _ => False) m v
theorem CW.of_ev {E : Env} (hE : EnvFull E) {f : FuncId} {fi : FnI} (hfn : FnOK E.P f fi) {args : List MV} {blks : List Blk} {m : MV} (hm : flatT m = true) (fuel : Nat) (hn : Nat.ble args.length fi.n = true)
    (h : ∀ cx, evC E (hnd E cx fuel) cx fi.n fi.body ⟨initF 0 args, [], idxH 0 blks, blks.length⟩ (finK E fi.res m [])) : CW E.P f args blks m := by
  refine ⟨hfn.enters, fun cx w ρ vs hw hW hr => ?_⟩
  subst hw
  have hn' : args.length ≤ fi.n := Nat.le_of_ble_eq_true hn
  have hlen := hr.len
  have h0 : SatR cx ⟨[], []⟩ fi.n G0 ⟨initF 0 args, [], idxH 0 blks, blks.length⟩ { tmps := vs.toArray ++ Array.replicate (fi.n - vs.toArray.size) undef, defers := [] } cx.w0 ρ := by
    refine ⟨hW, ⟨rfl, initA (by simp; omega), ?_⟩, trivial⟩
    intro s m hs
    obtain ⟨_, h2, h3⟩ := look_initF hs
    simp only [Nat.zero_add, Nat.sub_zero] at h2 h3
    have := hr.rep s h2
    rw [h3] at this
    refine ⟨vs.getD s undef, ?_, this⟩
    rw [Array.getElem?_append_left (by simp; omega)]
    simp only [List.getElem?_toArray, List.getD_eq_getElem?_getD]
    rw [List.getElem?_eq_getElem (by omega)]
    rfl
  refine (Calls.of_code hfn (R := fun v w' => BelowX cx.X cx.w0 w' ∧ Rep w' G0 rho0 (fun _ => False) m v) ?_).mono ?_
  · refine wp_mono (evC_sound hE.toEnvAll (hnd_sound hE fuel) (h cx) _ _ _ ⟨_, h0⟩) ?_
    rintro e a' w' ⟨ex, S', h1, h2, ρ, h3⟩
    unfold finK at h2
    split at h2
    · exact h2.elim
    · rename_i hx
      split at h2
      · exact h2.elim
      · rename_i l hl
        refine ⟨?_, h3.F.defers, fun fn hfn' => ?_⟩
        · cases e <;> cases ex <;> simp only [exitIs] at h1
          · exact .inl rfl
          · exact absurd rfl (hx _)
          · exact .inr rfl
        · obtain ⟨v, q1, q2⟩ := results_sound hE.toEnvOK h3 hfn' hl
          obtain ⟨ρ', s1, s2⟩ := (forceM_eq h2).ok _ ρ w' v h3.W q2
          exact ⟨v, q1, s1.below, flatT_any hm s2⟩
  · rintro e w' ⟨v, rfl, s1, s2⟩
    exact ⟨v, rfl, s1, s2⟩
def wA : Nat → List Nat → List (Nat × (Nat → List MV)) → List MV
  | k, s :: ss, (n, _) :: l => .os k s 0 n :: wA (k + 1) ss l
  | _, _, _ => []
def wB : List Nat → List (Nat × (Nat → List MV)) → List Blk
  | s :: ss, (n, g) :: l => .rows s n g :: wB ss l
  | _, _ => []
def wLe : Nat := 13000000000000
structure CWf (P : Program) (f : FuncId) (szs : List Nat) (m : MV) : Prop where
  flat : flatT m = true
  ok : ∀ l : List (Nat × (Nat → List MV)), l.length = szs.length → (∀ x ∈ l, x.1 ≤ wLe) → CW P f (wA 0 szs l) (wB szs l) m
def wIds (H : List (Nat × Blk)) : List Nat → List MV → Option (List Prop × List (Option Nat) × List (Nat × (Nat → List MV)))
  | [], [] => some ([], [], [])
  | s :: ss, .os id s' 0 n :: ms => match Nat.beq s s', look H id with
    | true, some (.rows s2 n0 g) => match Nat.beq s s2 with
      | true => match wIds H ss ms with
        | some (ps, ids, l) => some ((n ≤ n0 ∧ n ≤ wLe) :: ps, some id :: ids, (n, g) :: l)
        | none => none
      | false => none
    | _, _ => none
  | s :: ss, .nils :: ms => match wIds H ss ms with
    | some (ps, ids, l) => some (ps, none :: ids, (0, fun _ => []) :: l)
    | none => none
  | _, _ => none
def memO : List (Option Nat) → Nat → Bool
  | [], _ => false
  | none :: r, n => memO r n
  | some k :: r, n => match Nat.beq k n with
    | true => true
    | false => memO r n
def nodupO : List (Option Nat) → Bool
  | [] => true
  | none :: r => nodupO r
  | some k :: r => match memO r k with
    | true => false
    | false => nodupO r
def delO {α : Type} : List (Option Nat) → List (Nat × α) → List (Nat × α)
  | [], H => H
  | none :: r, H => delO r H
  | some k :: r, H => delO r (del H k)
def wRho (ρ : RhoT) (ids : List (Option Nat)) : RhoT := fun j => match ids[j]? with
  | some (some id) => ρ id
  | _ => none
theorem memO_of : ∀ {ids : List (Option Nat)} {n : Nat}, some n ∈ ids → memO ids n = true
  | some k :: r, n, h => by
    unfold memO
    split
    · rfl
    · rename_i e
      rcases List.mem_cons.1 h with h | h
      · cases h; simp at e
      · exact memO_of h
  | none :: r, n, h => by
    unfold memO
    rcases List.mem_cons.1 h with h | h
    · cases h
    · exact memO_of h
theorem nodupO_spec : ∀ {ids : List (Option Nat)}, nodupO ids = true → ∀ {i j k : Nat}, ids[i]? = some (some k) → ids[j]? = some (some k) → i = j
  | [], _, i, j, k, h1, _ => by simp at h1
  | none :: r, h, i, j, k, h1, h2 => by
    unfold nodupO at h
    cases i with
    | zero => simp at h1
    | succ i =>
      cases j with
      | zero => simp at h2
      | succ j => exact congrArg (· + 1) (nodupO_spec h (by simpa using h1) (by simpa using h2))
  | some x :: r, h, i, j, k, h1, h2 => by
    unfold nodupO at h
    split at h
    · cases h
    · rename_i hm
      have no : ∀ {j : Nat}, r[j]? = some (some x) → False := by
        intro j hj
        rw [memO_of (List.mem_of_getElem? hj)] at hm
        cases hm
      cases i with
      | zero =>
        simp at h1; subst h1
        cases j with
        | zero => rfl
        | succ j => exact (no (by simpa using h2)).elim
      | succ i =>
        cases j with
        | zero => simp at h2; subst h2; exact (no (by simpa using h1)).elim
        | succ j => exact congrArg (· + 1) (nodupO_spec h (by simpa using h1) (by simpa using h2))
theorem look_delO {α : Type} : ∀ {ids : List (Option Nat)} {H : List (Nat × α)} {k : Nat} {b : α}, look (delO ids H) k = some b → look H k = some b ∧ some k ∉ ids
  | [], H, k, b, h => ⟨h, by simp⟩
  | none :: r, H, k, b, h => by
    obtain ⟨h1, h2⟩ := look_delO (ids := r) h
    exact ⟨h1, by simp [h2]⟩
  | some x :: r, H, k, b, h => by
    obtain ⟨h1, h2⟩ := look_delO (ids := r) h
    rw [look_del] at h1
    split at h1
    · cases h1
    · rename_i e
      exact ⟨h1, by simp [h2, e]⟩
structure WArgs (cx : Cx) (ρ : RhoT) (w : World) (szs : List Nat) (ids : List (Option Nat)) (l : List (Nat × (Nat → List MV))) (ms : List MV) : Prop where
  len : l.length = szs.length ∧ ids.length = szs.length ∧ ms.length = szs.length
  le : ∀ x ∈ l, x.1 ≤ wLe
  blk : ∀ (j s n : Nat) (g : Nat → List MV), szs[j]? = some s → l[j]? = some (n, g) → (ids[j]? = some none ∧ n = 0 ∧ ms[j]? = some .nils) ∨ ∃ id n0, ids[j]? = some (some id) ∧ n ≤ n0 ∧ BlkOK w ρ (okS cx ρ w) id (.rows s n0 g) ∧ ms[j]? = some (.os id s 0 n)
theorem wIds_spec {cx : Cx} {ρ : RhoT} {H : List (Nat × Blk)} {nx : Nat} {w : World} (hW : SatW cx ρ H nx w) : ∀ {szs : List Nat} {ms : List MV} {ps : List Prop} {ids : List (Option Nat)} {l : List (Nat × (Nat → List MV))},
    wIds H szs ms = some (ps, ids, l) → AllP ps → WArgs cx ρ w szs ids l ms
  | [], [], ps, ids, l, h, hp => by
    cases h; exact ⟨by simp, by simp, by intro j s n g h; simp at h⟩
  | [], _ :: _, ps, ids, l, h, hp => by simp [wIds] at h
  | _ :: _, [], ps, ids, l, h, hp => by simp [wIds] at h
  | s :: ss, m0 :: ms0, ps, ids, l, h, hp => by
    unfold wIds at h
    split at h
    · rename_i e _; cases e
    · rename_i s1 ss1 id s' n ms1 e e'
      cases e
      cases e'
      split at h
      · rename_i s2 n0 g e1 hl
        have := Nat.eq_of_beq_eq_true e1
        subst this
        split at h
        · rename_i e2
          have := Nat.eq_of_beq_eq_true e2
          subst this
          split at h
          · rename_i ps' ids' l' hr
            cases h
            have ih := wIds_spec hW hr (fun p h => hp p (by simp [h]))
            have hc := hp (n ≤ n0 ∧ n ≤ wLe) (by simp)
            refine ⟨by simp [ih.len.1, ih.len.2.1, ih.len.2.2], ?_, ?_⟩
            · intro x hx
              rcases List.mem_cons.1 hx with rfl | hx
              · exact hc.2
              · exact ih.le x hx
            · intro j s n' g' hs hj
              cases j with
              | zero =>
                simp at hs hj
                obtain ⟨rfl, rfl⟩ := hj
                subst hs
                exact .inr ⟨id, n0, by simp, hc.1, hW.blocks _ _ hl, by simp⟩
              | succ j =>
                have := ih.blk j s n' g' (by simpa using hs) (by simpa using hj)
                simpa using this
          · cases h
        · cases h
      · cases h
    · rename_i s1 ss1 ms1 e e'
      cases e
      cases e'
      split at h
      · rename_i ps' ids' l' hr
        cases h
        have ih := wIds_spec hW hr hp
        refine ⟨by simp [ih.len.1, ih.len.2.1, ih.len.2.2], ?_, ?_⟩
        · intro x hx
          rcases List.mem_cons.1 hx with rfl | hx
          · exact Nat.zero_le _
          · exact ih.le x hx
        · intro j s n' g' hs hj
          cases j with
          | zero =>
            simp at hs hj
            exact .inl ⟨by simp, hj.1.symm, by simp⟩
          | succ j =>
            have := ih.blk j s n' g' (by simpa using hs) (by simpa using hj)
            simpa using this
      · cases h
    · cases h
theorem wA_spec : ∀ {szs : List Nat} {l : List (Nat × (Nat → List MV))} {k : Nat}, l.length = szs.length → (wA k szs l).length = szs.length ∧ ∀ (j s n : Nat) (g : Nat → List MV), szs[j]? = some s → l[j]? = some (n, g) → getM (wA k szs l) j = .os (k + j) s 0 n
  | [], [], k, _ => ⟨rfl, by intro j s n g h; simp at h⟩
  | s :: ss, (n, g) :: l, k, h => by
    obtain ⟨h1, h2⟩ := wA_spec (szs := ss) (l := l) (k := k + 1) (by simpa using h)
    refine ⟨by simp [wA, h1], fun j s' n' g' hs hj => ?_⟩
    cases j with
    | zero => simp at hs hj; obtain ⟨rfl, rfl⟩ := hj; subst hs; simp [wA, getM]
    | succ j =>
      have := h2 j s' n' g' (by simpa using hs) (by simpa using hj)
      rw [show k + (j + 1) = k + 1 + j by omega]
      simpa [wA, getM] using this
  | [], _ :: _, k, h => by simp at h
  | _ :: _, [], k, h => by simp at h
theorem wB_spec : ∀ {szs : List Nat} {l : List (Nat × (Nat → List MV))}, l.length = szs.length → (wB szs l).length = szs.length ∧ ∀ (j s n : Nat) (g : Nat → List MV), szs[j]? = some s → l[j]? = some (n, g) → (wB szs l)[j]? = some (.rows s n g)
  | [], [], _ => ⟨rfl, by intro j s n g h; simp at h⟩
  | s :: ss, (n, g) :: l, h => by
    obtain ⟨h1, h2⟩ := wB_spec (szs := ss) (l := l) (by simpa using h)
    refine ⟨by simp [wB, h1], fun j s' n' g' hs hj => ?_⟩
    cases j with
    | zero => simp at hs hj; obtain ⟨rfl, rfl⟩ := hj; subst hs; simp [wB]
    | succ j => simpa [wB] using h2 j s' n' g' (by simpa using hs) (by simpa using hj)
  | [], _ :: _, h => by simp at h
  | _ :: _, [], h => by simp at h
theorem look_idxH' : ∀ {blks : List Blk} {i k : Nat} {b : Blk}, look (idxH i blks) k = some b → i ≤ k ∧ k < i + blks.length ∧ blks[k - i]? = some b
  | [], i, k, b, h => by simp [idxH, look] at h
  | x :: r, i, k, b, h => by
    simp only [idxH, look] at h
    split at h
    · rename_i e
      have := Nat.eq_of_beq_eq_true e
      subst this
      cases h
      simp
    · obtain ⟨h1, h2, h3⟩ := look_idxH' h
      refine ⟨by omega, by simp; omega, ?_⟩
      rw [show k - i = (k - (i + 1)) + 1 by omega]
      simpa using h3
theorem BlkOK.rows_ok {w : World} {ρ ρ' : RhoT} {ok ok' : OkT} {id k s n n0 : Nat} {g : Nat → List MV} (h : BlkOK w ρ ok id (.rows s n0 g)) (hn : n ≤ n0) (he : ρ' k = ρ id) (hok : ∀ b, ok b → ok' b) : BlkOK w ρ' ok' k (.rows s n g) := by
  rcases h with ⟨h1, h2⟩ | ⟨b, c, T, h1, h2, h3, h5, h4⟩
  · exact .inl ⟨by omega, he.trans h2⟩
  · have hle : n * s ≤ n0 * s := Nat.mul_le_mul_right _ hn
    exact .inr ⟨b, c, T, he.trans h1, h2, by omega, fun j hj => h5 j (by omega), fun i hi j hj => (h4 i (by omega) j hj).mono (Keeps.refl w) (fun _ _ _ e => e) (fun _ _ e => e) fun b hb => ⟨hok b hb, rfl⟩⟩
theorem callW_sound {P : Program} {f : FuncId} {szs : List Nat} {m : MV} (hf : CWf P f szs m) {cx : Cx} {su : Sus} {n : Nat} {G : GT} {S : St} {a : Act} {w : World} {ρ : RhoT} (h : SatR cx su n G S a w ρ) {ms : List MV} {ps : List Prop} {ids : List (Option Nat)} {l : List (Nat × (Nat → List MV))}
    (hc : wIds S.H szs ms = some (ps, ids, l)) (hp : AllP ps) (hnd : nodupO ids = true) {vs : List Value} (hr : RepL w G ρ (okS cx ρ w) ms vs) :
    CallGood P f vs w fun v w' => SatR cx su n G { S with H := delO ids S.H } a w' ρ ∧ Rep w' G ρ (okS cx ρ w') m v := by
  have wa := wIds_spec h.W hc hp
  obtain ⟨l1, l2, l3⟩ := wa.len
  have cw := hf.ok l l1 wa.le
  obtain ⟨a1, a2⟩ := wA_spec (k := 0) l1
  obtain ⟨b1, b2⟩ := wB_spec l1
  right
  refine ⟨cw.enters _ _, ?_⟩
  let X : Nat → Prop := fun b => ∃ j, wRho ρ ids j = some b
  have hX : ∀ {b}, X b → ∃ id, some id ∈ ids ∧ ρ id = some b := by
    rintro b ⟨j, hj⟩
    unfold wRho at hj
    split at hj
    · rename_i id he; exact ⟨id, List.mem_of_getElem? he, hj⟩
    · cases hj
  have hget : ∀ j, j < szs.length → ∃ s n g, szs[j]? = some s ∧ l[j]? = some (n, g) := fun j hj =>
    ⟨szs[j], (l[j]'(by omega)).1, (l[j]'(by omega)).2, by simp [hj], by simp [List.getElem?_eq_getElem (show j < l.length by omega)]⟩
  have hok : ∀ b, okS cx ρ w b → okS ⟨w, X, okS cx ρ w⟩ (wRho ρ ids) w b := fun b hb => .inl hb
  have hsat : SatW ⟨w, X, okS cx ρ w⟩ (wRho ρ ids) (idxH 0 (wB szs l)) (wB szs l).length w := by
    refine ⟨BelowX.refl _ _, ?_, ?_, ?_, ?_, ?_, ?_⟩
    · intro i j b hi hj
      unfold wRho at hi hj
      split at hi
      · rename_i x hx
        split at hj
        · rename_i y hy
          have := h.W.inj x y b hi hj
          subst this
          exact nodupO_spec hnd hx hy
        · cases hj
      · cases hi
    · intro i b hi
      have hi' := hi
      unfold wRho at hi
      split at hi
      · exact ⟨(h.W.rng _ _ hi).1, .inr ⟨i, hi'⟩⟩
      · cases hi
    · intro id blk hl
      have := look_idxH' hl
      omega
    · intro i hi
      unfold wRho
      rw [List.getElem?_eq_none (by omega)]
    · intro k blk hl
      obtain ⟨_, q2, q3⟩ := look_idxH' hl
      simp only [Nat.sub_zero] at q3
      obtain ⟨s, n, g, e1, e2⟩ := hget k (by omega)
      rw [b2 k s n g e1 e2] at q3
      cases q3
      rcases wa.blk k s n g e1 e2 with ⟨e3, rfl, _⟩ | ⟨id, n0, e3, hn, hb, _⟩
      · exact .inl ⟨rfl, by unfold wRho; rw [e3]⟩
      · exact hb.rows_ok hn (by unfold wRho; rw [e3]) hok
    · intro b hb
      refine ⟨okS_lt h.W hb, fun hx => ?_⟩
      obtain ⟨id, _, hid⟩ := hX hx
      rcases hb with hb | hb
      · have q1 := h.W.okA b hb
        rcases (h.W.rng id b hid).2 with q | q
        · have := q1.1; omega
        · exact q1.2 q
      · exact hb.2.2 id hid
  have hargs : RepL w G0 (wRho ρ ids) (okS ⟨w, X, okS cx ρ w⟩ (wRho ρ ids) w) (wA 0 szs l) vs := by
    have hlen := hr.len
    refine ⟨by omega, fun j hj => ?_⟩
    obtain ⟨s, n, g, e1, e2⟩ := hget j (by omega)
    rw [a2 j s n g e1 e2, Nat.zero_add]
    have hrj := hr.rep j (by omega)
    rcases wa.blk j s n g e1 e2 with ⟨e3, rfl, e4⟩ | ⟨id, n0, e3, hn, hb, e4⟩
    · have : getM ms j = .nils := by unfold getM; rw [List.getD_eq_getElem?_getD, e4]; rfl
      rw [this] at hrj
      generalize vs.getD j undef = v at hrj
      cases hrj
      exact .osnil _ _ _
    · have : getM ms j = .os id s 0 n := by unfold getM; rw [List.getD_eq_getElem?_getD, e4]; rfl
      rw [this] at hrj
      generalize vs.getD j undef = v at hrj
      cases hrj with
      | os _ _ _ _ blk cap off c T h1 h2 h3 h4 h5 => exact .os _ _ _ _ _ _ _ _ _ (by unfold wRho; rw [e3]; exact h1) h2 h3 h4 h5
      | osnil => exact .osnil _ _ _
  refine (cw.calls ⟨w, X, okS cx ρ w⟩ w (wRho ρ ids) vs rfl hsat hargs).mono ?_
  rintro e w' ⟨v, rfl, hb, hm⟩
  have hb : BelowX X w w' := hb
  have hnX : ∀ b, okS cx ρ w b → ¬ X b := fun b hb => (hsat.okA b hb).2
  have hkeep : ∀ b, b < w.heap.size → ¬ X b → w'.heap[b]? = w.heap[b]? := fun b h1 h2 => hb.block b h1 h2
  have hok1 : ∀ b, okS cx ρ w b → okS cx ρ w' b ∧ w'.heap[b]? = w.heap[b]? := by
    intro b hb'
    refine ⟨?_, hkeep b (okS_lt h.W hb') (hnX b hb')⟩
    rcases hb' with q | q
    · exact .inl q
    · exact .inr ⟨q.1, Nat.lt_of_lt_of_le q.2.1 hb.size, q.2.2⟩
  refine ⟨v, rfl, ⟨⟨?_, h.W.inj, ?_, ?_, h.W.nx, ?_, h.W.okA⟩, ⟨h.F.defers, h.F.size, h.F.frame.mono hb.keeps (fun _ _ _ e => e) (fun _ _ e => e) hok1⟩, h.K.mono hb.keeps (fun _ _ e => e) hok1⟩, ?_⟩
  · have ho := h.W.below
    refine ⟨hb.os.trans ho.os, hb.tape.trans ho.tape, hb.output.trans ho.output, Nat.le_trans ho.size hb.size, fun k hk hx => ?_, ho.keeps.trans hb.keeps⟩
    refine (hkeep k (Nat.lt_of_lt_of_le hk ho.size) fun hX' => ?_).trans (ho.block k hk hx)
    obtain ⟨id, _, hid⟩ := hX hX'
    rcases (h.W.rng id k hid).2 with q | q
    · omega
    · exact hx q
  · intro i b hi
    have := h.W.rng i b hi
    exact ⟨Nat.lt_of_lt_of_le this.1 hb.size, this.2⟩
  · intro id blk hl
    exact h.W.hlt id blk (look_delO hl).1
  · intro id blk hl
    obtain ⟨q1, q2⟩ := look_delO hl
    refine (h.W.blocks id blk q1).mono hb.keeps (fun _ _ e => e) (fun e => e) hok1 fun b hid => hkeep b (h.W.rng id b hid).1 fun hx => ?_
    obtain ⟨id', q3, q4⟩ := hX hx
    have := h.W.inj id id' b hid q4
    subst this
    exact q2 q3
  · exact flatT_any hf.flat hm
def hndW (W : FuncId → Option (List Nat × MV)) (call : CallT) : CallT := fun f ms S K => match W f with
  | none => call f ms S K
  | some (szs, m) => match S with
    | ⟨F, stk, H, nx⟩ => match wIds H szs ms with
      | none => False
      | some (ps, ids, _) => match nodupO ids with
        | false => False
        | true => match conjO ps with
          | none => forceF (delO ids H) fun H' => K m ⟨F, stk, H', nx⟩
          | some p => Need p (forceF (delO ids H) fun H' => K m ⟨F, stk, H', nx⟩)
def WOK (P : Program) (W : FuncId → Option (List Nat × MV)) : Prop := ∀ f szs m, W f = some (szs, m) → CWf P f szs m
theorem hndW_sound {P : Program} {cx : Cx} {W : FuncId → Option (List Nat × MV)} (hW : WOK P W) {call : CallT} (hc : CallH P cx call) : CallH P cx (hndW W call) := by
  intro f ms S K h su n G a w ρ vs hs hr
  unfold hndW at h
  split at h
  · exact hc f ms S K h su n G a w ρ vs hs hr
  · rename_i szs m hw
    have hf := hW f szs m hw
    split at h
    rename_i F stk H nx
    split at h
    · exact h.elim
    · rename_i ps ids l hi
      split at h
      · exact h.elim
      · rename_i hnd
        have key : AllP ps ∧ K m ⟨F, stk, delO ids H, nx⟩ := by
          split at h
          · rename_i hp
            exact ⟨conjO_all (fun p e => by rw [hp] at e; cases e), forceF_eq h⟩
          · rename_i p hp
            exact ⟨conjO_all (fun q e => by rw [hp] at e; cases e; exact h.left.h), forceF_eq h.right⟩
        rcases callW_sound hf hs hi key.1 hnd hr with ⟨v, w', e, s2, r2⟩ | ⟨e, hcc⟩
        · exact .inl ⟨v, w', e, ⟨_, _, ρ, key.2, s2, r2⟩⟩
        · refine .inr ⟨e, hcc.mono ?_⟩
          rintro _ w' ⟨v, rfl, s2, r2⟩
          exact ⟨v, rfl, ⟨_, _, ρ, key.2, s2, r2⟩⟩
theorem CW.of_genQ {P : Program} {exts : List (Nat × XK)} {eqs inl : List Nat} {sum : FuncId → List MV → Option (List Prop × MV × List Blk × Bool)} (hx : ∀ f k, look exts f = some k → ExtOK P f k) (hq : eqsB P eqs = true) (hs : SumsOK P sum)
    {f : FuncId} {fi : FnI} (hf : fnGen P f = some fi) {args : List MV} {blks : List Blk} {m : MV} (hm : flatT m = true) (fuel : Nat) (hn : Nat.ble args.length fi.n = true)
    (h : ∀ cx, evC (genQ P exts eqs inl sum) (hnd (genQ P exts eqs inl sum) cx fuel) cx fi.n fi.body ⟨initF 0 args, [], idxH 0 blks, blks.length⟩ (finK (genQ P exts eqs inl sum) fi.res m [])) : CW P f args blks m :=
  CW.of_ev (E := genQ P exts eqs inl sum) (genQ_full hx hq hs) (fnGen_ok hf) hm fuel hn h
theorem i64_wrap {n : Int} (h1 : -9223372036854775808 ≤ n) (h2 : n < 9223372036854775808) : IntKind.i64.wrap n = n := by
  show (if (true && decide (n % (18446744073709551616 : Int) ≥ (9223372036854775808 : Int))) = true then n % (18446744073709551616 : Int) - (18446744073709551616 : Int) else n % (18446744073709551616 : Int)) = n
  split <;> simp at * <;> omega
theorem i64_id {n m : Int} (h : -9223372036854775808 ≤ n ∧ n < 9223372036854775808) (e : n = m) : IntKind.i64.wrap n = m := by
  subst e
  exact i64_wrap h.1 h.2
end Go.Ev

namespace Go.Ev
/-! ## Less is known, in steps; loops with facts beside their states; lists that are not written any more -/
structure Le (cx : Cx) (n : Nat) (S T : St) : Prop where
  ok : ∀ su a w, Sat cx su n G0 S a w → Sat cx su n G0 T a w
theorem Le.of {cx : Cx} {n : Nat} {S T : St} (h : leS S T) : Le cx n S T := ⟨fun _ _ _ hs => leS_sat h hs⟩
theorem loop_ruleC {E : Env} (hE : EnvAll E) {cx : Cx} {call : CallT} (hc : CallH E.P cx call) {n : Nat} {c : Code} {S : St} {K : Ex → St → Prop} (inv : Nat → St) (pre : Nat → Prop) (N : Nat) (h0 : Le cx n S (inv 0)) (hp : pre 0)
    (step : ∀ i, i ≤ N → pre i → evC E call cx n c (inv i) (fun ex S' => match ex with
      | .normal => Need (i < N ∧ pre (i + 1)) (Le cx n S' (inv (i + 1)))
      | .ret => K .ret S'
      | .exit j => K (.exit j) S')) : Rest (CodeOK E.P cx n (.loop c) S K) := by
  refine ⟨fun su a w hs => ?_⟩
  refine wp_loop_ghost (fun m a w => ∃ i, i ≤ N ∧ pre i ∧ m = N - i ∧ Sat cx su n G0 (inv i) a w) N ⟨0, Nat.zero_le _, hp, rfl, h0.ok _ _ _ hs⟩ ?_
  rintro m a w ⟨i, hi, hpi, rfl, hs⟩
  refine wp_mono (evC_sound hE hc (step i hi hpi) su a w hs) ?_
  rintro e a' w' ⟨ex, S', h1, h2, h3⟩
  cases e <;> cases ex <;> simp only [exitIs] at h1
  · have hlt := h2.left.h
    exact ⟨N - (i + 1), by omega, i + 1, by omega, hlt.2, rfl, h2.right.ok _ _ _ h3⟩
  · subst h1
    exact ⟨.exit _, S', rfl, h2, h3⟩
  · exact ⟨.ret, S', trivial, h2, h3⟩
theorem os_ro {cx : Cx} {ρ : RhoT} {H : List (Nat × Blk)} {nx : Nat} {w : World} (hW : SatW cx ρ H nx w) {id sz n0 : Nat} {get : Nat → List MV} (hl : look H id = some (.rows sz n0 get)) {lo n : Nat} (hc : lo + n ≤ n0) {ok' : OkT}
    (hok : ∀ b, okS cx ρ w b → ok' b) (hid : ∀ b, ρ id = some b → ok' b) {G G' : GT} {ρ' : RhoT} {v : Value} (r : Rep w G ρ (okS cx ρ w) (.os id sz lo n) v) : Rep w G' ρ' ok' (.ro sz n fun i => get (lo + i)) v := by
  have hb := hW.blocks _ _ hl
  cases r with
  | osnil => exact .ronil _ _
  | os _ _ _ _ blk cap off c T hρ hn hoff hbk hcap =>
    rcases hb with ⟨h0, h1⟩ | ⟨b, c', T', h1, h2, h3, h5, h4⟩
    · rw [h1] at hρ; cases hρ
    · obtain rfl : b = blk := by rw [hρ] at h1; exact (Option.some.inj h1).symm
      rw [hbk] at h2
      cases h2
      by_cases hn0 : n = 0
      · subst hn0
        exact .ro _ _ _ b off cap (fun _ _ => undef) hn (fun h => absurd h (by omega)) (fun i hi => absurd hi (by omega)) (fun i hi => absurd hi (by omega)) (fun i hi => absurd hi (by omega))
      · have hoff' : off = lo * sz := by rcases hoff with e | e; exact e; omega
        subst hoff'
        have hle : (lo + n) * sz ≤ n0 * sz := Nat.mul_le_mul_right _ hc
        have hidx : ∀ i, i < n → ∀ j, j < sz → lo * sz + (i * sz + j) = (lo + i) * sz + j ∧ (lo + i) * sz + j < n0 * sz := by
          intro i hi j hj
          have : (lo + i) * sz + sz ≤ n0 * sz := by rw [← Nat.succ_mul]; exact Nat.mul_le_mul_right _ (by omega)
          refine ⟨by rw [Nat.add_mul]; omega, by omega⟩
        refine .ro _ _ _ b _ cap (fun i j => c.getD ((lo + i) * sz + j) undef) hn (fun _ => hid _ hρ) (fun i hi j hj => ?_) (fun i hi j hj => h5 _ (hidx i hi j hj).2) (fun i hi j hj => ?_)
        · rw [(hidx i hi j hj).1]
          exact cell?_cells hbk (by have := (hidx i hi j hj).2; omega)
        · exact (h4 (lo + i) (by omega) j hj).mono (Keeps.refl w) (fun _ _ _ e => e) (fun _ _ e => e) (fun b hb => ⟨hok b hb, rfl⟩)
def frM (id sz : Nat) (get : Nat → List MV) : MV → MV
  | .os i s lo n => match Nat.beq i id with
    | true => match Nat.beq s sz with
      | true => .ro sz n fun k => get (lo + k)
      | false => .und
    | false => .os i s lo n
  | m => match ment id m with
    | true => .und
    | false => m
def frP (id sz n0 : Nat) : MV → List Prop → List Prop
  | .os i s lo n, ps => match Nat.beq i id with
    | true => match Nat.beq s sz with
      | true => (lo + n ≤ n0) :: ps
      | false => ps
    | false => ps
  | _, ps => ps
def frF (id sz : Nat) (get : Nat → List MV) : List (Nat × MV) → List (Nat × MV)
  | [] => []
  | (s, m) :: r => (s, frM id sz get m) :: frF id sz get r
def frPs (id sz n0 : Nat) : List (Nat × MV) → List Prop
  | [] => []
  | (_, m) :: r => frP id sz n0 m (frPs id sz n0 r)
def frS (id : Nat) : St → Option (List Prop × St)
  | ⟨F, stk, H, nx⟩ => match look H id with
    | some (.rows sz n0 get) => some (frPs id sz n0 F, ⟨frF id sz get F, purgeS id stk, purgeH id (del H id), nx⟩)
    | _ => none
theorem frM_rep {cx : Cx} {ρ : RhoT} {H : List (Nat × Blk)} {nx : Nat} {w : World} (hW : SatW cx ρ H nx w) {id sz n0 : Nat} {get : Nat → List MV} (hl : look H id = some (.rows sz n0 get)) {ok' : OkT} {ρ' : RhoT} (hρ : ∀ i b, i ≠ id → ρ i = some b → ρ' i = some b)
    (hok : ∀ b, okS cx ρ w b → ok' b) (hid : ∀ b, ρ id = some b → ok' b) {G : GT} {m : MV} {v : Value} {ps : List Prop} (hp : AllP (frP id sz n0 m ps)) (r : Rep w G ρ (okS cx ρ w) m v) : Rep w G ρ' ok' (frM id sz get m) v ∧ AllP ps := by
  have plain : ∀ {m : MV}, ment id m = false → Rep w G ρ (okS cx ρ w) m v → Rep w G ρ' ok' m v := fun {m} hm r =>
    r.mono' (Keeps.refl w) (fun _ _ _ e => e) (fun i b hi hb => hρ i b (fun e => by rw [e, hm] at hi; cases hi) hb) (fun b hb => ⟨hok b hb, rfl⟩)
  unfold frM
  split
  · rename_i i s lo n
    unfold frP at hp
    split
    · rename_i e1
      have e1' := Nat.eq_of_beq_eq_true e1
      subst e1'
      simp only [e1] at hp
      split
      · rename_i e2
        have e2' := Nat.eq_of_beq_eq_true e2
        subst e2'
        simp only [e2] at hp
        exact ⟨os_ro hW hl (hp _ (by simp)) hok hid r, fun p h => hp p (by simp [h])⟩
      · rename_i e2
        simp only [e2] at hp
        exact ⟨.und _, hp⟩
    · rename_i e1
      simp only [e1] at hp
      exact ⟨plain (by simpa [ment, ment1] using e1) r, hp⟩
  · rename_i hno
    have hp' : AllP ps := by
      unfold frP at hp
      split at hp
      · rename_i i s lo n
        exact absurd rfl (hno i s lo n)
      · exact hp
    split
    · exact ⟨.und _, hp'⟩
    · rename_i e; exact ⟨plain e r, hp'⟩
theorem look_frF {id sz s : Nat} {get : Nat → List MV} : ∀ {l : List (Nat × MV)} {m : MV}, look (frF id sz get l) s = some m → ∃ y, look l s = some y ∧ m = frM id sz get y
  | [], m, h => by simp [frF, look] at h
  | (k, y) :: l, m, h => by
    simp only [look, frF] at h ⊢
    cases e : Nat.beq k s
    · simp only [e] at h ⊢; exact look_frF h
    · simp only [e] at h ⊢; cases h; exact ⟨y, rfl, rfl⟩
theorem frP_two {id sz n0 : Nat} {m : MV} {ps : List Prop} (h : AllP (frP id sz n0 m ps)) : AllP ps ∧ AllP (frP id sz n0 m []) := by
  unfold frP at h ⊢
  split at h
  · split at h
    · split at h
      · exact ⟨fun p hp => h p (by simp [hp]), fun p hp => h p (by simp at hp; simp [hp])⟩
      · exact ⟨h, fun p hp => by simp at hp⟩
    · exact ⟨h, fun p hp => by simp at hp⟩
  · exact ⟨h, fun p hp => by simp at hp⟩
theorem frPs_look {id sz n0 s : Nat} : ∀ {l : List (Nat × MV)} {y : MV}, AllP (frPs id sz n0 l) → look l s = some y → AllP (frP id sz n0 y [])
  | [], y, _, h => by simp [look] at h
  | (k, y2) :: l, y, hq, h => by
    simp only [frPs] at hq
    simp only [look] at h
    obtain ⟨q1, q2⟩ := frP_two hq
    split at h
    · cases h; exact q2
    · exact frPs_look q1 h
theorem frF_ok {cx : Cx} {ρ : RhoT} {H : List (Nat × Blk)} {nx : Nat} {w : World} (hW : SatW cx ρ H nx w) {id sz n0 : Nat} {get : Nat → List MV} (hl : look H id = some (.rows sz n0 get)) {ok' : OkT} {ρ' : RhoT} (hρ : ∀ i b, i ≠ id → ρ i = some b → ρ' i = some b)
    (hok : ∀ b, okS cx ρ w b → ok' b) (hid : ∀ b, ρ id = some b → ok' b) {G : GT} {a : Act} {F : List (Nat × MV)} (hp : AllP (frPs id sz n0 F)) (hF : FrOK w G ρ (okS cx ρ w) F a) : FrOK w G ρ' ok' (frF id sz get F) a := by
  intro s m hs
  obtain ⟨y, h1, rfl⟩ := look_frF hs
  obtain ⟨v, hv, r⟩ := hF s y h1
  exact ⟨v, hv, (frM_rep hW hl hρ hok hid (frPs_look hp h1) r).1⟩
theorem frK_ok {cx : Cx} {ρ ρ' : RhoT} {w : World} {id : Nat} {ok' : OkT} (hρ : ∀ i b, i ≠ id → ρ i = some b → ρ' i = some b) (hok : ∀ b, okS cx ρ w b → ok' b) : ∀ {Fs : List (List (Nat × MV))} {as : List Act} {Gs : List GT}, StkOK w ρ (okS cx ρ w) Fs as Gs → StkOK w ρ' ok' (purgeS id Fs) as Gs
  | [], [], [], _ => trivial
  | F :: Fs, a :: as, G :: Gs, h => by
    refine ⟨fun s m hs => ?_, frK_ok hρ hok h.2⟩
    obtain ⟨m', h1, h2⟩ := look_purgeF hs
    obtain ⟨v, hv, r⟩ := h.1 s m' h1
    refine ⟨v, hv, ?_⟩
    rcases h2 with rfl | ⟨rfl, hm⟩
    · exact .und _
    · exact r.mono' (Keeps.refl w) (fun _ _ _ e => e) (fun i b hi hb => hρ i b (fun e => by rw [e, hm] at hi; cases hi) hb) (fun b hb => ⟨hok b hb, rfl⟩)
  | [], _ :: _, _, h => h.elim
  | [], [], _ :: _, h => h.elim
  | _ :: _, [], _, h => h.elim
  | _ :: _, _ :: _, [], h => h.elim
theorem Sat.freeze {w0 : World} {okA : Nat → Prop} {su : Sus} {n : Nat} {S S' : St} {id : Nat} {ps : List Prop} {a : Act} {w : World} (h : Sat (cx1 w0 okA) su n G0 S a w) (hf : frS id S = some (ps, S')) (hp : AllP ps) : Sat (cx1 w0 okA) su n G0 S' a w := by
  obtain ⟨F, stk, H, nx⟩ := S
  obtain ⟨ρ, hs⟩ := h
  simp only [frS] at hf
  split at hf
  · rename_i sz n0 get hl
    cases hf
    have hl : Ev.look H id = some (.rows sz n0 get) := hl
    have hρ : ∀ i b, i ≠ id → ρ i = some b → (fun i => if i = id then none else ρ i) i = some b := by
      intro i b h1 h2
      dsimp only
      rw [if_neg h1]; exact h2
    have hinv : ∀ i b, (if i = id then none else ρ i) = some b → i ≠ id ∧ ρ i = some b := by
      intro i b hi
      split at hi
      · cases hi
      · rename_i e; exact ⟨e, hi⟩
    have hok : ∀ b, okS (cx1 w0 okA) ρ w b → okS (cx1 w0 okA) (fun i => if i = id then none else ρ i) w b := by
      intro b hb
      rcases hb with hb | hb
      · exact .inl hb
      · exact .inr ⟨hb.1, hb.2.1, fun i hi => hb.2.2 i (hinv i b hi).2⟩
    have hid : ∀ b, ρ id = some b → okS (cx1 w0 okA) (fun i => if i = id then none else ρ i) w b := by
      intro b hb
      have h1 := hs.W.rng id b hb
      refine .inr ⟨?_, h1.1, fun i hi => ?_⟩
      · rcases h1.2 with h | h
        · exact h
        · exact h.elim
      · obtain ⟨h2, h3⟩ := hinv i b hi
        exact h2 (hs.W.inj i id b h3 hb)
    refine ⟨fun i => if i = id then none else ρ i, ⟨hs.W.below, ?_, ?_, ?_, ?_, ?_, hs.W.okA⟩, ⟨hs.F.defers, hs.F.size, frF_ok hs.W hl hρ hok hid hp hs.F.frame⟩, frK_ok hρ hok hs.K⟩
    · intro i j b h1 h2; exact hs.W.inj i j b (hinv i b h1).2 (hinv j b h2).2
    · intro i b h1; exact hs.W.rng i b (hinv i b h1).2
    · intro k blk hk
      obtain ⟨b', h1, _⟩ := look_purgeH hk
      rw [look_del] at h1
      split at h1
      · cases h1
      · exact hs.W.hlt k b' h1
    · intro i hi
      show (if i = id then none else ρ i) = none
      split
      · rfl
      · exact hs.W.nx i hi
    · intro k blk hk
      obtain ⟨b', h1, rfl⟩ := look_purgeH hk
      rw [look_del] at h1
      split at h1
      · cases h1
      · rename_i hne
        have hb := hs.W.blocks k b' h1
        cases b' with
        | cells l =>
          obtain ⟨b, c, T, q1, q2, q3, q5, q4⟩ := hb
          obtain ⟨p1, p2⟩ := purgeM_spec id l
          refine ⟨b, c, T, hρ _ _ hne q1, q2, q3.trans p1.symm, q5, fun j hj => ?_⟩
          rcases p2 j with e | ⟨e, hm⟩
          · rw [e]; exact .und _
          · rw [e]
            exact (q4 j (by omega)).mono' (Keeps.refl w) (fun _ _ _ e => e) (fun i b hi hb => hρ i b (fun e => by rw [e, hm] at hi; cases hi) hb) (fun b hb => ⟨hok b hb, rfl⟩)
        | rows sz m get =>
          rcases hb with ⟨q1, q2⟩ | ⟨b, c, T, q1, q2, q3, q5, q4⟩
          · refine .inl ⟨q1, ?_⟩
            dsimp only
            rw [if_neg hne]; exact q2
          · exact .inr ⟨b, c, T, hρ _ _ hne q1, q2, q3, q5, fun i hi j hj => (q4 i hi j hj).mono (Keeps.refl w) (fun _ _ _ e => e) (fun _ _ e => e) (fun b hb => ⟨hok b hb, rfl⟩)⟩
  · cases hf
theorem Le.freeze {w0 : World} {okA : Nat → Prop} {n : Nat} {S T : St} (id : Nat) (h : match frS id S with
      | some (ps, S') => match conjO ps with
        | none => Le (cx1 w0 okA) n S' T
        | some p => Side p ∧ Le (cx1 w0 okA) n S' T
      | none => False) : Le (cx1 w0 okA) n S T := by
  split at h
  · rename_i ps S' hf
    have key : AllP ps ∧ Le (cx1 w0 okA) n S' T := by
      split at h
      · rename_i hp; exact ⟨conjO_all (fun p e => by rw [hp] at e; cases e), h⟩
      · rename_i p hp; exact ⟨conjO_all (fun q e => by rw [hp] at e; cases e; exact h.1.h), h.2⟩
    exact ⟨fun su a w hs => key.2.ok su a w (hs.freeze hf key.1)⟩
  · exact h.elim
theorem Le.phan {cx : Cx} {n : Nat} {S T : St} (sz : Nat) (h : Le cx n (phanS sz S) T) : Le cx n S T :=
  ⟨fun su a w hs => by
    obtain ⟨F, stk, H, nx⟩ := S
    exact h.ok su a w (hs.phan sz _)⟩
theorem CM.of_genF {P : Program} {exts : List (Nat × XK)} {eqs inl : List Nat} {sum : FuncId → List MV → Option (List Prop × MV × List Blk × Bool)} (hx : ∀ f k, look exts f = some k → ExtOK P f k) (hq : eqsB P eqs = true) (hs : SumsOK P sum)
    {W : FuncId → Option (List Nat × MV)} (hW : WOK P W) {f : FuncId} {fi : FnI} (hf : fnGen P f = some fi) {args : List MV} {m : MV} {blks : List Blk} (fuel : Nat) (hn : Nat.ble args.length fi.n = true)
    (h : ∀ w0 okA, evC (genQ P exts eqs inl sum) (hndW W (hnd (genQ P exts eqs inl sum) (cx1 w0 okA) fuel)) (cx1 w0 okA) fi.n fi.body ⟨initF 0 args, [], [], 0⟩ (finK (genQ P exts eqs inl sum) fi.res m blks)) : CM P f args m blks true :=
  CM.of_code (E := genQ P exts eqs inl sum) (genQ_full hx hq hs).toEnvAll (fnGen_ok hf) hn fun w0 okA => evC_sound (genQ_full hx hq hs).toEnvAll (hndW_sound hW (hnd_sound (genQ_full hx hq hs) fuel)) (h w0 okA)
def W0 : FuncId → Option (List Nat × MV) := fun _ => none
theorem W0_ok {P : Program} : WOK P W0 := fun _ _ _ h => by cases h
end Go.Ev

namespace Go.Ev
def sameV : MV → MV → Bool
  | .b x, .b y => eqB x y
  | .i k a, .i k' b => match sameInt k k' with
    | true => eqI a b
    | false => false
  | .f k a, .f k' b => match sameFlt k k' with
    | true => Nat.beq a b
    | false => false
  | _, _ => false
def rowIs : Nat → List MV → List MV → Bool
  | 0, _, _ => true
  | k + 1, x :: r, y :: s => match sameV x y with
    | true => rowIs k r s
    | false => false
  | _ + 1, _, _ => false
end Go.Ev

namespace Go.Ev
/-! ## Contracts whose answer lies in a list of its own, of numbers alone: nothing of what was handed over lies in it -/
def ownA : MV → Bool
  | .os _ _ _ _ => true
  | .oc _ _ _ _ => true
  | m => flatM m
def ownAs : List MV → Bool
  | [] => true
  | m :: r => match ownA m with
    | true => ownAs r
    | false => false
def ownT : MV → Bool
  | .tup l => ownAs l
  | m => ownA m
theorem ownA_any {m : MV} (h : ownA m = true) {w : World} {G G' : GT} {ρ : RhoT} {ok ok' : OkT} {v : Value} (r : Rep w G ρ ok m v) : Rep w G' ρ ok' m v := by
  unfold ownA at h
  split at h
  · cases r with
    | os _ _ _ _ blk cap off c T h1 h2 h3 h4 h5 => exact .os _ _ _ _ _ _ _ _ _ h1 h2 h3 h4 h5
    | osnil => exact .osnil _ _ _
  · cases r with
    | oc _ _ _ _ blk cap off c T h1 h2 h3 h4 h5 h6 => exact .oc _ _ _ _ _ _ _ _ _ h1 h2 h3 h4 h5 h6
    | ocnil => exact .ocnil _ _
  · exact flatM_any h r
theorem ownAs_spec : ∀ {l : List MV}, ownAs l = true → ∀ j, j < l.length → ownA (getM l j) = true
  | [], _, j, hj => by simp at hj
  | m :: r, h, j, hj => by
    unfold ownAs at h
    split at h
    · rename_i h1
      cases j with
      | zero => simpa [getM] using h1
      | succ j => simpa [getM] using ownAs_spec h j (by simpa using hj)
    · cases h
theorem ownT_any {m : MV} (h : ownT m = true) {w : World} {G G' : GT} {ρ : RhoT} {ok ok' : OkT} {v : Value} (r : Rep w G ρ ok m v) : Rep w G' ρ ok' m v := by
  unfold ownT at h
  split at h
  · cases r with
    | tup _ vs hl hr => exact .tup _ _ hl fun j hj => ownA_any (ownAs_spec h j hj) (hr j hj)
  · exact ownA_any h r
theorem CM.aloneR {P : Program} {f : FuncId} {args : List MV} {m : MV} {sz n : Nat} {g : Nat → List MV} {al : Bool} (h : CM P f args m [.rows sz n g] al) (hm : ownT m = true)
    (hg : ∀ i, i < n → ∀ j, j < sz → flatM (getM (g i) j) = true) : CM P f args m [.rows sz n g] false := by
  refine ⟨h.enters, fun w okA vs hA hr => (h.calls w okA vs hA hr).mono ?_⟩
  rintro e w' ⟨v, ρ', rfl, hW, hR⟩
  refine ⟨v, ρ', rfl, ⟨hW.below, hW.inj, hW.rng, hW.hlt, hW.nx, fun id blk hl => ?_, fun b hb => absurd hb.1 (by simp)⟩, ownT_any hm hR⟩
  have hb := hW.blocks id blk hl
  simp only [idxH, look] at hl
  split at hl
  · cases hl
    rcases hb with ⟨h1, h2⟩ | ⟨b, c, T, h1, h2, h3, h5, h4⟩
    · exact .inl ⟨h1, h2⟩
    · exact .inr ⟨b, c, T, h1, h2, h3, h5, fun i hi j hj => flatM_any (hg i hi j hj) (h4 i hi j hj)⟩
  · cases hl
theorem flat2 {x y : Nat} {j : Nat} (hj : j < 2) : flatM (getM [.f .f64 x, .f .f64 y] j) = true := by
  have : j = 0 ∨ j = 1 := by omega
  rcases this with rfl | rfl <;> rfl
end Go.Ev

namespace Go.Ev
/-! ## A long row of regions, cut in two: between them the state is told anew -/
def takeS : Nat → Code → Code
  | 0, _ => .skip
  | k + 1, .seq a b => .seq a (takeS k b)
  | _ + 1, c => c
def dropS : Nat → Code → Code
  | 0, c => c
  | k + 1, .seq _ b => dropS k b
  | _ + 1, _ => .skip
def rowS : Nat → Code → Bool
  | 0, _ => true
  | k + 1, .seq _ b => rowS k b
  | _ + 1, _ => false
def cutK (cx : Cx) (n : Nat) (T : St) (K : Ex → St → Prop) : Ex → St → Prop := fun e S' => match e with
  | .normal => Le cx n S' T
  | .ret => K .ret S'
  | .exit j => K (.exit j) S'
theorem CodeOK.cut {E : Env} (hE : EnvAll E) {cx : Cx} {call : CallT} (hcall : CallH E.P cx call) {n : Nat} {T : St} {K : Ex → St → Prop} : ∀ (k : Nat) {c : Code} {S : St}, rowS k c = true → evC E call cx n (takeS k c) S (cutK cx n T K) →
    CodeOK E.P cx n (dropS k c) T K → CodeOK E.P cx n c S K
  | 0, c, S, _, h1, h2 => fun su a w hs => h2 su a w (Le.ok (S := S) (T := T) h1 su a w hs)
  | k + 1, c, S, hr, h1, h2 => by
    cases c with
    | seq x y =>
      have h1 : evC E call cx n x S (fun e S' => match e with
        | .normal => evC E call cx n (takeS k y) S' (cutK cx n T K)
        | .ret => cutK cx n T K .ret S'
        | .exit j => cutK cx n T K (.exit j) S') := h1
      intro su a w hs
      refine wp_seq (wp_mono (evC_sound hE hcall h1 su a w hs) ?_)
      rintro e a' w' ⟨ex, S', q1, q2, q3⟩
      cases e <;> cases ex <;> simp only [exitIs] at q1 <;> simp only [Exit.then]
      · exact CodeOK.cut hE hcall k (c := y) hr q2 h2 su a' w' q3
      · subst q1; exact ⟨.exit _, S', rfl, q2, q3⟩
      · exact ⟨.ret, S', trivial, q2, q3⟩
    | _ => cases hr
theorem CM.of_cut {P : Program} {exts : List (Nat × XK)} {eqs inl : List Nat} {sum : FuncId → List MV → Option (List Prop × MV × List Blk × Bool)} (hx : ∀ f k, look exts f = some k → ExtOK P f k) (hq : eqsB P eqs = true) (hs : SumsOK P sum)
    {f : FuncId} {fi : FnI} (hf : fnGen P f = some fi) {args : List MV} {m : MV} {blks : List Blk} (hn : Nat.ble args.length fi.n = true)
    (h : ∀ cx, CodeOK P cx fi.n fi.body ⟨initF 0 args, [], [], 0⟩ (finK (genQ P exts eqs inl sum) fi.res m blks)) : CM P f args m blks true :=
  CM.of_code (E := genQ P exts eqs inl sum) (genQ_full hx hq hs).toEnvAll (fnGen_ok hf) hn fun _ _ => h _
end Go.Ev

namespace Go.Ev
/-! ## Parts of functions, apart: rows, blocks and loops whose body is shown in parts -/
theorem CodeOK.seq {P : Program} {cx : Cx} {n : Nat} {x y : Code} {S : St} {K : Ex → St → Prop} (h : CodeOK P cx n x S (fun e S' => match e with
      | .normal => Rest (CodeOK P cx n y S' K)
      | .ret => K .ret S'
      | .exit j => K (.exit j) S')) : CodeOK P cx n (.seq x y) S K := fun su a w hs => by
  refine wp_seq (wp_mono (h su a w hs) ?_)
  rintro e a' w' ⟨ex, S', q1, q2, q3⟩
  cases e <;> cases ex <;> simp only [exitIs] at q1 <;> simp only [Exit.then]
  · exact q2.ok su a' w' q3
  · subst q1; exact ⟨.exit _, S', rfl, q2, q3⟩
  · exact ⟨.ret, S', trivial, q2, q3⟩
theorem CodeOK.block {P : Program} {cx : Cx} {n id : Nat} {c : Code} {S : St} {K : Ex → St → Prop} (h : CodeOK P cx n c S (fun e S' => match e with
      | .exit j => match Nat.beq j id with
        | true => K .normal S'
        | false => K (.exit j) S'
      | .ret => K .ret S'
      | .normal => K .normal S')) : CodeOK P cx n (.block id c) S K := fun su a w hs => by
  refine wp_block (wp_mono (h su a w hs) ?_)
  rintro e a' w' ⟨ex, S', q1, q2, q3⟩
  cases e <;> cases ex <;> simp only [exitIs] at q1
  · exact ⟨.normal, S', trivial, q2, q3⟩
  · rename_i j j'
    subst q1
    unfold Exit.inBlock
    dsimp only at q2 ⊢
    cases e : Nat.beq j id
    · rw [e] at q2
      rw [if_neg (fun h => by subst h; simp at e)]
      exact ⟨.exit _, S', rfl, q2, q3⟩
    · rw [e] at q2
      have e := Nat.eq_of_beq_eq_true e
      rw [if_pos e]
      exact ⟨.normal, S', trivial, q2, q3⟩
  · exact ⟨.ret, S', trivial, q2, q3⟩
theorem loop_ruleK {P : Program} {cx : Cx} {n : Nat} {c : Code} {S : St} {K : Ex → St → Prop} (inv : Nat → St) (pre : Nat → Prop) (N : Nat) (h0 : Le cx n S (inv 0)) (hp : pre 0)
    (step : ∀ i, i ≤ N → pre i → CodeOK P cx n c (inv i) (fun ex S' => match ex with
      | .normal => Need (i < N ∧ pre (i + 1)) (Le cx n S' (inv (i + 1)))
      | .ret => K .ret S'
      | .exit j => K (.exit j) S')) : Rest (CodeOK P cx n (.loop c) S K) := by
  refine ⟨fun su a w hs => ?_⟩
  refine wp_loop_ghost (fun m a w => ∃ i, i ≤ N ∧ pre i ∧ m = N - i ∧ Sat cx su n G0 (inv i) a w) N ⟨0, Nat.zero_le _, hp, rfl, h0.ok _ _ _ hs⟩ ?_
  rintro m a w ⟨i, hi, hpi, rfl, hs⟩
  refine wp_mono (step i hi hpi su a w hs) ?_
  rintro e a' w' ⟨ex, S', h1, h2, h3⟩
  cases e <;> cases ex <;> simp only [exitIs] at h1
  · have hlt := h2.left.h
    exact ⟨N - (i + 1), by omega, i + 1, by omega, hlt.2, rfl, h2.right.ok _ _ _ h3⟩
  · subst h1
    exact ⟨.exit _, S', rfl, h2, h3⟩
  · exact ⟨.ret, S', trivial, h2, h3⟩
theorem FinS.rowsLe {S : St} {m0 m : MV} {sz n : Nat} {g : Nat → List MV} (id : Nat) (hb : match look S.H id with
      | some (.rows s' n' g') => Side (s' = sz ∧ n ≤ n' ∧ ∀ i, i < n → ∀ j, j < sz → getM (g' i) j = getM (g i) j)
      | _ => False) (hm : finM id m0 m) : FinS S m0 m [.rows sz n g] := by
  split at hb
  · rename_i s' n' g' hl
    obtain ⟨rfl, hle, hg⟩ := hb.h
    refine ⟨fun cx ρ w v hW r => ⟨fun i => match i with | 0 => ρ id | _ + 1 => none, ⟨hW.below, ?_, ?_, ?_, ?_, ?_, hW.okA⟩, finM_rep hm rfl r⟩⟩
    · intro i j b h1 h2
      cases i <;> cases j <;> simp_all
    · intro i b h
      cases i with
      | zero => exact hW.rng id b h
      | succ i => cases h
    · intro i blk h
      simp only [idxH, look] at h
      split at h
      · rename_i e; have := Nat.eq_of_beq_eq_true e; subst this; simp
      · cases h
    · intro i hi
      cases i with
      | zero => simp at hi
      | succ i => rfl
    · intro i blk h
      simp only [idxH, look] at h
      split at h
      · rename_i e
        have := Nat.eq_of_beq_eq_true e
        subst this
        cases h
        rcases hW.blocks id _ hl with ⟨h1, h2⟩ | ⟨b, c, T, h1, h2, h3, h5, h4⟩
        · exact .inl ⟨by omega, h2⟩
        · have hsz : n * s' ≤ n' * s' := Nat.mul_le_mul_right _ hle
          refine .inr ⟨b, c, T, h1, h2, by omega, fun j hj => h5 j (by omega), fun i hi j hj => ?_⟩
          rw [← hg i hi j hj]
          refine (h4 i (by omega) j hj).mono (Keeps.refl w) (fun _ _ _ e => e) (fun _ _ e => e) fun b hb => ⟨?_, rfl⟩
          rcases hb with hb | hb
          · exact .inl hb
          · refine .inr ⟨hb.1, hb.2.1, fun i hi => ?_⟩
            cases i with
            | zero => exact hb.2.2 id hi
            | succ i => cases hi
      · cases h
  · exact hb.elim
end Go.Ev












