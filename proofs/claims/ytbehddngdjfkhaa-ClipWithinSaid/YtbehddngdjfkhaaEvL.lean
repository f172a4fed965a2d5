/-
  The way from a contract of a law to the law, exact results, and calls that write what they are handed, for every program; no condition.
-/
import Derived.Test.YtbehddngdjfkhaaEvD
import Derived.ProofKit
import Derived.OpenShut
import Derived.Carry
import Derived.ChangeSlices
import Derived.Test.YtbehddngdjfkhaaEvC
set_option linter.unusedSimpArgs false
set_option linter.unusedVariables false
namespace Go.Ev
open Go.ChangeShapes Go.WideShapes Go.ChangeAt Go.RowKit
/-! ## From a contract of a law to what is asked of it -/
theorem trodAll_below {H : Type} {enc : TypeId × Value → H} {P : Program} (hl : laidOutB P = true) {W W' : World} (hb : Below W.heap.size W W') : ∀ {ts : List TypeId} {vs : List Value} {ds : List (DataW H)} {ps : List MemPlace},
    ts.all (fun t => P.readableRec t && decide (t < P.types.size)) = true → DataW.TrodAll enc P W 0 (fun _ => true) true ts vs ds ps → (∀ x ∈ ps, x.block < W.heap.size) →
    DataW.TrodAll enc P W' 0 (fun b => decide (b < W.heap.size)) true ts vs ds ps
  | [], vs, ds, ps, _, h, _ => by
    obtain ⟨rfl, rfl, rfl⟩ := trodAll_nil h
    exact trodAll_mk0
  | t :: ts, vs, ds, ps, hr, h, hlt => by
    obtain ⟨v, vs', d, ds', p, q, rfl, rfl, rfl, h1, h2⟩ := trodAll_cons h
    simp only [List.all_cons, Bool.and_eq_true, decide_eq_true_eq] at hr
    refine trodAll_cons_mk (Below.trod hl hr.1.1 hr.1.2 h1 hb fun x hx => hlt x (List.mem_append_left _ hx)) (trodAll_below hl hb ?_ h2 fun x hx => hlt x (List.mem_append_right _ hx))
    exact hr.2
theorem law_handed {C : Checked} {os : Os} {f : FuncId} {fn : Func} {s : ChangeSpec} {conds : List PathCond} {apart : Bool} {a : Assume} {H : Type} {enc : TypeId × Value → H} {tb : TypeId} (hl : laidOutB C.prog = true)
    (own : ownKnob C.prog.godebug = none) (started : os.Started) (noInit : C.prog.inits.idxOf? f = none) (hfn : C.prog.funcs[f]? = some fn)
    (hread : fn.params.toList.all (fun t => C.prog.readableRec t && decide (t < C.prog.types.size)) = true)
    (witness : ∃ (w : World) (tape : Tape) (i : Input), w.os = os ∧ (w.forCall tape i).Shaped C.prog ∧ i.vars = [] ∧ Input.okWide C.prog (w.forCall tape i) .any w.heap.size f i ∧
      s.pre6 enc C.prog fn conds apart (w.forCall tape i).memory i.args ∧ a.holds C.prog (lone (Frame.enter C.prog f i.args .normal) [] (w.forCall tape i)))
    (hvars : s.vars = []) (hres : fn.resultTypes = #[tb]) (htb : C.prog.underlying tb = some .bool)
    (hs : ∀ ds : List (DataW H), ds.length = fn.params.toList.length → (s.fn H ds).results = [.lit (.bool true)] ∧ (s.fn H ds).args = ds ∧ (s.fn H ds).vars = [])
    (h : ∀ (W : World) (args : Array Value) (ds : List (DataW H)) (ps : List MemPlace), (∀ (j : Nat) t v, fn.params[j]? = some t → args[j]? = some v → Value.okWide C.prog W .any W.heap.size t v) →
      DataW.TrodAll enc C.prog W 0 (fun _ => true) true fn.params.toList args.toList ds ps → (∀ x ∈ ps, x.block < W.heap.size) →
      (DataW.weightsEach C.prog fn.params.toList ds).all (· ≤ reachBytes) = true →
      Calls C.prog f args W fun e W' => e = .returned (.bool true) ∧ Below W.heap.size W W') :
    ReturnsInHanded a C os f .any (s.pre6 enc C.prog fn conds apart) (s.post enc C.prog fn apart true false false) := by
  refine returnsInHanded_of_calls own started noInit witness ?_
  intro w tape i _ _ _ hok hpre hholds
  obtain ⟨_, _, _, fn', hfn', _, _, _, _, hval⟩ := hok
  have e : fn' = fn := Option.some.inj (hfn'.symm.trans hfn)
  subst e
  obtain ⟨⟨ds, gs, before, hw, hc⟩, hz⟩ := hpre
  have hwt := hz.weights hw
  have hw' := DataW.Whole.of_heap (w' := w.forCall tape i) (by rfl) hw
  have hlt := hw'.lt
  have hW := hw'
  obtain ⟨p, q, hA, hV, rfl, hfz, hnd⟩ := hW
  rw [hvars] at hV
  obtain ⟨rfl, rfl⟩ := trodVars_none hV
  have len : ∀ {ts : List TypeId} {vs : List Value} {ds : List (DataW H)} {ps : List MemPlace}, DataW.TrodAll enc C.prog (w.forCall tape i) 0 (fun _ => true) true ts vs ds ps → ds.length = ts.length := by
    intro ts
    induction ts with
    | nil => intro vs ds ps h; obtain ⟨_, rfl, _⟩ := trodAll_nil h; rfl
    | cons t ts ih =>
      intro vs ds ps h
      obtain ⟨v, vs', d, ds', p, q, rfl, rfl, rfl, h1, h2⟩ := trodAll_cons h
      simp [ih h2]
  have hlen := len hA
  obtain ⟨s1, s2, s3⟩ := hs ds hlen
  have hwt' : (DataW.weightsEach C.prog fn'.params.toList ds).all (· ≤ reachBytes) = true := by
    have : s.plain.varTypes C.prog = [] := by
      unfold DataSpec.varTypes ChangeSpec.plain
      simp [hvars]
    have e2 : (OpenSpec.ofChange s).bare.plain.varTypes C.prog = s.plain.varTypes C.prog := rfl
    rw [e2, this, List.append_nil, List.append_nil] at hwt
    exact hwt
  refine (h (w.forCall tape i) i.args ds p (fun j t v h1 h2 => Value.okWide_any_base (hval j t v h1 h2)) hA (fun x hx => hlt x (by simp [hx])) hwt').mono fun e W' ⟨he, hb⟩ => ?_
  subst he
  refine ChangeSpec.post_blind ⟨ds, [], _, [], p, [], hw', ?_, ?_, ?_, hb.frame _, fun h => by cases h⟩
  · rw [List.append_nil, s1, hres]
    exact trodAll_mk1 (shut_bool htb true)
  · rw [List.append_nil, s2]
    exact trodAll_below hl hb hread hA fun x hx => hlt x (by simp [hx])
  · rw [List.append_nil, s3, hvars]
    rfl
end Go.Ev

namespace Go.Ev
open Go.ChangeShapes Go.WideShapes Go.ChangeAt Go.RowKit
/-! ## Plain cells: whole numbers, floats, bools -/
inductive CK where
  | i (k : IntKind)
  | f (k : FloatKind)
  | b
def intOf : Value → Int
  | .int _ n => n
  | _ => 0
def fltOf : Value → Nat
  | .float _ n => n
  | _ => 0
def boolOf : Value → Bool
  | .bool b => b
  | _ => false
def mkM : CK → Value → MV
  | .i k, v => .i k (intOf v)
  | .f k, v => .f k (canon k (fltOf v))
  | .b, v => .b (boolOf v)
def CKok : CK → Value → Prop
  | .i k, v => v = .int k (intOf v) ∧ (Lit.int k (intOf v)).wf = true
  | .f k, v => v = .float k (fltOf v) ∧ fltOf v < 2 ^ k.format.width
  | .b, v => v = .bool (boolOf v)
theorem mkM_rep {k : CK} {v : Value} (h : CKok k v) {w : World} {G : GT} {ρ : RhoT} {ok : OkT} : Rep w G ρ ok (mkM k v) v := by
  cases k with
  | i k => obtain ⟨h, _⟩ := h; show Rep w G ρ ok (.i k (intOf v)) v; rw [h]; exact .i _ _
  | f k =>
    obtain ⟨h, hb⟩ := h
    show Rep w G ρ ok (.f k (canon k (fltOf v))) v
    generalize hx : fltOf v = x at h hb ⊢
    subst h
    exact .f _ _ _ (canon_FR k x hb)
  | b => show Rep w G ρ ok (.b (boolOf v)) v; rw [show v = .bool (boolOf v) from h]; exact .b _
theorem CKok.one {k : CK} {v : Value} (h : CKok k v) : v.oneCell' = true := by
  cases k with
  | i k => rw [h.1]; rfl
  | f k => rw [h.1]; rfl
  | b => rw [show v = .bool (boolOf v) from h]; rfl
def mkRow : List CK → Nat → (Nat → Value) → List MV
  | [], _, _ => []
  | k :: r, j, u => mkM k (u j) :: mkRow r (j + 1) u
theorem mkRow_get : ∀ {l : List CK} {j i : Nat} {u : Nat → Value} {k : CK}, l[i]? = some k → getM (mkRow l j u) i = mkM k (u (j + i))
  | [], j, i, u, k, h => by simp at h
  | x :: r, j, 0, u, k, h => by simp at h; subst h; simp [mkRow, getM]
  | x :: r, j, i + 1, u, k, h => by
    have := mkRow_get (l := r) (j := j + 1) (i := i) (u := u) (by simpa using h)
    rw [show j + (i + 1) = j + 1 + i by omega, ← this]
    simp [mkRow, getM]
theorem mkRow_len : ∀ {l : List CK} {j : Nat} {u : Nat → Value}, (mkRow l j u).length = l.length
  | [], j, u => rfl
  | x :: r, j, u => by simp [mkRow, @mkRow_len r]
def kindsF (P : Program) (kT : TypeId → Option (List CK)) (sz : Nat) : List Field → List CK → Option (List CK)
  | [], acc => match Nat.beq acc.length sz with
    | true => some acc
    | false => none
  | f :: r, acc => match Nat.beq f.offset acc.length with
    | false => none
    | true => match kT f.type with
      | none => none
      | some l => match Nat.beq l.length (P.cellsOf f.type) with
        | false => none
        | true => kindsF P kT sz r (acc ++ l)
def kindsT (P : Program) : Nat → TypeId → Option (List CK)
  | 0, _ => none
  | m + 1, t => match P.underlying t with
    | some (.int k) => some [.i k]
    | some (.float k) => some [.f k]
    | some .bool => some [.b]
    | some (.struct fs) => kindsF P (kindsT P m) (P.cellsOf t) fs.toList []
    | some (.array n e) => match kindsT P m e with
      | none => none
      | some l => match Nat.beq l.length (P.cellsOf e) && Nat.beq (n * P.cellsOf e) (P.cellsOf t) with
        | true => some (List.replicate n l).flatten
        | false => none
    | _ => none
def AllCK (l : List CK) (cs : List Value) : Prop := cs.length = l.length ∧ ∀ (j : Nat) (k : CK) (v : Value), l[j]? = some k → cs[j]? = some v → CKok k v
theorem AllCK.app {l l' : List CK} {cs : List Value} (hlen : cs.length = l.length + l'.length) (h1 : AllCK l (cs.take l.length)) (h2 : AllCK l' (cs.drop l.length)) : AllCK (l ++ l') cs := by
  refine ⟨by simp [hlen], fun j k v hk hv => ?_⟩
  rcases Nat.lt_or_ge j l.length with h | h
  · rw [List.getElem?_append_left h] at hk
    exact h1.2 j k v hk (by rw [List.getElem?_take, if_pos h]; exact hv)
  · rw [List.getElem?_append_right h] at hk
    exact h2.2 (j - l.length) k v hk (by rw [List.getElem?_drop, show l.length + (j - l.length) = j by omega]; exact hv)
section
variable {H : Type} {enc : TypeId × Value → H} {P : Program} {w : World} {base : Nat} {spare : Nat → Bool} {held : Bool}
theorem trod_float {t : TypeId} {k : FloatKind} {fuel : Nat} {cs : List Value} {x : DataW H × List MemPlace} (ht : P.underlying t = some (.float k)) (h : DataW.trod enc P w base spare held fuel t cs = some x) :
    ∃ b, cs = [.float k b] ∧ (Lit.float k b).wf = true := by
  cases fuel with
  | zero => simp [DataW.trod] at h
  | succ n =>
    unfold DataW.trod at h
    rw [ht] at h
    split at h <;> simp_all
theorem trod_plain : ∀ {m : Nat} {t : TypeId} {ks : List CK}, kindsT P m t = some ks → ∀ {fuel : Nat} {cs : List Value} {x : DataW H × List MemPlace}, DataW.trod enc P w base spare held fuel t cs = some x → AllCK ks cs
  | 0, t, ks, hk, _, _, _, _ => by simp [kindsT] at hk
  | m + 1, t, ks, hk, fuel, cs, x, h => by
    unfold kindsT at hk
    split at hk
    · rename_i k ht
      cases hk
      obtain ⟨n, rfl, _, hw⟩ := DataW.trod_int ht h
      refine ⟨rfl, fun j k' v h1 h2 => ?_⟩
      cases j with
      | zero => simp at h1 h2; subst h1; subst h2; exact ⟨rfl, hw⟩
      | succ j => simp at h1
    · rename_i k ht
      cases hk
      obtain ⟨n, rfl, hw⟩ := trod_float ht h
      refine ⟨rfl, fun j k' v h1 h2 => ?_⟩
      cases j with
      | zero =>
        simp at h1 h2; subst h1; subst h2
        refine ⟨rfl, ?_⟩
        show n < _
        cases k <;> exact of_decide_eq_true hw
      | succ j => simp at h1
    · rename_i ht
      cases hk
      obtain ⟨n, rfl, _⟩ := DataW.trod_bool ht h
      refine ⟨rfl, fun j k' v h1 h2 => ?_⟩
      cases j with
      | zero => simp at h1 h2; subst h1; subst h2; rfl
      | succ j => simp at h1
    · rename_i fs ht
      obtain ⟨xs, n, _, _, hl, _, hf⟩ := DataW.trod_struct ht h
      have key : ∀ (l : List Field) (acc : List CK), (∀ f ∈ l, ∃ y, DataW.trod enc P w base spare held n f.type ((cs.drop f.offset).take (P.cellsOf f.type)) = some y) → AllCK acc (cs.take acc.length) → acc.length ≤ cs.length → kindsF P (kindsT P m) (P.cellsOf t) l acc = some ks → AllCK ks cs := by
        intro l
        induction l with
        | nil =>
          intro acc _ ha hle hk
          unfold kindsF at hk
          split at hk
          · rename_i e
            cases hk
            have e := Nat.eq_of_beq_eq_true e
            rw [e, ← hl, List.take_length] at ha
            exact ha
          · cases hk
        | cons f r ih =>
          intro acc hall ha hle hk
          unfold kindsF at hk
          split at hk
          · cases hk
          · rename_i e
            have e := Nat.eq_of_beq_eq_true e
            split at hk
            · cases hk
            · rename_i l' hl'
              split at hk
              · cases hk
              · rename_i e2
                have e2 := Nat.eq_of_beq_eq_true e2
                obtain ⟨y, hy⟩ := hall f (by simp)
                have := trod_plain hl' hy
                have hlen := this.1
                rw [List.length_take, List.length_drop] at hlen
                have hle2 : acc.length + l'.length ≤ cs.length := by omega
                refine ih (acc ++ l') (fun g hg => hall g (by simp [hg])) ?_ (by simpa using hle2) hk
                rw [List.length_append]
                refine AllCK.app (by simp; omega) ?_ ?_
                · rw [List.take_take, show min acc.length (acc.length + l'.length) = acc.length by omega]; exact ha
                · rw [e, ← e2] at this
                  rw [List.drop_take, show acc.length + l'.length - acc.length = l'.length by omega]
                  exact this
      refine key fs.toList [] ?_ ⟨rfl, fun j k v h1 => by simp at h1⟩ (by simp) hk
      intro f hf'
      obtain ⟨i, hi⟩ := List.getElem?_of_mem hf'
      have hi' : fs[i]? = some f := by simpa using hi
      have := hf i f hi'
      have hlt : i < xs.length := by
        have h1 := (Array.getElem?_eq_some_iff.1 hi').1
        omega
      exact ⟨xs[i], by rw [this]; exact List.getElem?_eq_getElem hlt⟩
    · rename_i n e ht
      split at hk
      · cases hk
      · rename_i l hl
        split at hk
        · rename_i hb
          rw [Bool.and_eq_true] at hb
          have e1 := Nat.eq_of_beq_eq_true hb.1
          have e2 := Nat.eq_of_beq_eq_true hb.2
          cases hk
          obtain ⟨xs, fu, _, _, hlen, hxs, hf⟩ := DataW.trod_array ht h
          rw [← e2] at hlen
          have key : ∀ m, m ≤ n → AllCK (List.replicate m l).flatten (cs.take (m * l.length)) := by
            intro m
            induction m with
            | zero => intro _; exact ⟨by simp, fun j k v h1 => by simp at h1⟩
            | succ m ih =>
              intro hm
              have ih := ih (by omega)
              have hi := hf m (by omega)
              have hlt : m < xs.length := by omega
              rw [List.getElem?_eq_getElem hlt] at hi
              have := trod_plain hl hi
              have hfl : (List.replicate m l).flatten.length = m * l.length := by simp
              rw [List.replicate_succ', List.flatten_append, List.flatten_cons, List.flatten_nil, List.append_nil]
              have hmul : (m + 1) * l.length = m * l.length + l.length := Nat.succ_mul _ _
              have hle : (m + 1) * l.length ≤ cs.length := by rw [hlen, ← e1]; exact Nat.mul_le_mul_right _ hm
              refine AllCK.app (by rw [hfl, List.length_take]; omega) ?_ ?_
              · rw [hfl, List.take_take, show min (m * l.length) ((m + 1) * l.length) = m * l.length by omega]; exact ih
              · rw [hfl, List.drop_take, show (m + 1) * l.length - m * l.length = l.length by omega]
                rw [← e1] at this
                exact this
          have := key n (Nat.le_refl _)
          rw [show n * l.length = cs.length by rw [hlen, e1], List.take_length] at this
          exact this
        · cases hk
    · cases hk
end
section
variable {H : Type} {enc : TypeId × Value → H} {P : Program} {W : World}
theorem okWide_slice {t e : TypeId} {b0 : Nat} {v : Value} (ht : P.underlying t = some (.slice e)) (hval : Value.okWide P W .any b0 t v) : (v = .slice none 0 0) ∨ ∃ b off len cap, v = .slice (some ⟨b, off, none⟩) len cap := by
  have h1 : Cell.ok P W .any b0 t v := by
    unfold Value.okWide at hval
    rw [ht] at hval
    dsimp only at hval
    unfold Cell.okWide at hval
    rw [ht] at hval
    cases v <;> exact hval
  unfold Cell.ok at h1
  rw [ht] at h1
  split at h1
  all_goals first
    | exact h1.elim
    | (rename_i h2; cases h2; done)
    | exact .inl rfl
    | (rename_i a len cap h2; obtain ⟨_, _, _, hs, _⟩ := h1; obtain ⟨b, off, sp⟩ := a; dsimp only at hs; subst hs; exact .inr ⟨b, off, len, cap, rfl⟩)
   
theorem open_slice {t e : TypeId} {b0 : Nat} {v : Value} {d : DataW H} {ps : List MemPlace} {m : Nat} {ks : List CK} (ht : P.underlying t = some (.slice e)) (hk : kindsT P m e = some ks) (hks : ks.length = P.cellsOf e) (hpos : 0 < ks.length)
    (hval : Value.okWide P W .any b0 t v) (hd : DataW.Trod enc P W 0 (fun _ => true) true t v d ps) (hw : (DataW.weights P t d).all (· ≤ reachBytes) = true) :
    ∃ (n : Nat) (u : Nat → Nat → Value), (∀ i, i < n → ∀ j k, ks[j]? = some k → CKok k (u i j)) ∧ Rep W G0 rho0 (fun b => b < W.heap.size) (.ro ks.length n fun i => mkRow ks 0 (u i)) v ∧ n * P.bytesOf e ≤ reachBytes := by
  have hcell : v.cells.toList = [v] := by
    rcases okWide_slice ht hval with rfl | ⟨b, off, len, cap, rfl⟩ <;> rfl
  obtain ⟨fuel, hf⟩ := hd
  rw [hcell] at hf
  rcases DataW.trod_slice ht hf with ⟨h0, _⟩ | ⟨a, len, cap, elems, rest, n, _, h0, hx, hb, hl, hm, hlen, hel, hsp, hns⟩
  · simp at h0
    subst h0
    exact ⟨0, fun _ _ => undef, fun i hi => absurd hi (Nat.not_lt_zero _), .ronil _ _, by simp⟩
  · simp at h0
    subst h0
    rcases okWide_slice ht hval with e0 | ⟨b, off, len', cap', e0⟩
    · cases e0
    cases e0
    have each : ∀ i, i < len → ∃ cs, AllCK ks cs ∧ cs.length = ks.length ∧ ∀ j, j < ks.length → W.cell? ⟨b, off + (i * ks.length + j), none⟩ = cs[j]? := by
      intro i hi
      have h1 := hel i hi
      rw [List.getElem?_eq_getElem (by omega), Option.bind_eq_some_iff] at h1
      obtain ⟨cs, h1, h2⟩ := h1
      have h3 := trod_plain hk h2
      obtain ⟨_, h4, h5⟩ := World.cells?_some h1
      refine ⟨cs, h3, h3.1, fun j hj => ?_⟩
      have := h5 j (by omega)
      rw [add_plain, add_plain] at this
      rw [← this, hks, Nat.add_assoc]
    have hchoice : ∃ u : Nat → Nat → Value, ∀ i, i < len → ∀ j k, ks[j]? = some k → W.cell? ⟨b, off + (i * ks.length + j), none⟩ = some (u i j) ∧ CKok k (u i j) := by
      refine ⟨fun i j => (W.cell? ⟨b, off + (i * ks.length + j), none⟩).getD undef, fun i hi j k hk' => ?_⟩
      obtain ⟨cs, h1, h2, h3⟩ := each i hi
      have hj : j < ks.length := (List.getElem?_eq_some_iff.1 hk').1
      have h4 := h3 j hj
      have h5 : cs[j]? = some cs[j] := List.getElem?_eq_getElem (by omega)
      rw [h5] at h4
      dsimp only
      rw [h4]
      exact ⟨rfl, h1.2 j k _ hk' h5⟩
    obtain ⟨u, hu⟩ := hchoice
    refine ⟨len, u, fun i hi j k hk' => (hu i hi j k hk').2, ?_, ?_⟩
    · have at' : ∀ j, j < ks.length → ∃ k, ks[j]? = some k := fun j hj => ⟨ks[j], List.getElem?_eq_getElem hj⟩
      refine .ro _ _ _ b off cap u hl ?_ ?_ ?_ ?_
      · intro hp
        obtain ⟨k, hk'⟩ := at' 0 hpos
        have := (hu 0 hp 0 k hk').1
        unfold World.cell? at this
        by_cases hlt : b < W.heap.size
        · exact hlt
        · have : W.heap[b]? = none := by simp; omega
          simp_all
      · intro i hi j hj
        obtain ⟨k, hk'⟩ := at' j hj
        exact (hu i hi j k hk').1
      · intro i hi j hj
        obtain ⟨k, hk'⟩ := at' j hj
        exact (hu i hi j k hk').2.one
      · intro i hi j hj
        obtain ⟨k, hk'⟩ := at' j hj
        rw [mkRow_get hk', Nat.zero_add]
        exact mkM_rep (hu i hi j k hk').2
    · simp only [Prod.mk.injEq] at hx
      rw [hx.1] at hw
      unfold DataW.weights at hw
      rw [ht] at hw
      simp only [List.all_cons, Bool.and_eq_true, decide_eq_true_eq, List.length_map] at hw
      refine Nat.le_trans (Nat.mul_le_mul_right _ ?_) hw.1
      omega
theorem open_agg {t : TypeId} {v : Value} {d : DataW H} {ps : List MemPlace} {m : Nat} {ks : List CK} {cs : Array Value} (hk : kindsT P m t = some ks) (hv : v = .agg cs)
    (hd : DataW.Trod enc P W 0 (fun _ => true) true t v d ps) : (∀ j k, ks[j]? = some k → CKok k (cs.getD j undef)) ∧ Rep W G0 rho0 (fun b => b < W.heap.size) (.agg (mkRow ks 0 fun j => cs.getD j undef)) v := by
  subst hv
  obtain ⟨fuel, hf⟩ := hd
  have hcs : (Value.agg cs).cells.toList = cs.toList := rfl
  rw [hcs] at hf
  have h := trod_plain hk hf
  have hl : cs.size = ks.length := by simpa using h.1
  have h1 : ∀ j k, ks[j]? = some k → CKok k (cs.getD j undef) := by
    intro j k hk'
    have hj : j < ks.length := (List.getElem?_eq_some_iff.1 hk').1
    refine h.2 j k _ hk' ?_
    simp [Array.getD_eq_getD_getElem?, Array.getElem?_eq_getElem (show j < cs.size by omega)]
  refine ⟨h1, .agg _ _ (by rw [mkRow_len, hl]) fun j hj => ?_⟩
  rw [mkRow_len] at hj
  rw [mkRow_get (List.getElem?_eq_getElem hj), Nat.zero_add]
  exact mkM_rep (h1 j _ (List.getElem?_eq_getElem hj))
end
end Go.Ev

namespace Go.Ev
open Ieee
theorem magOf_norm (f : Format) {c q : Nat} (h1 : f.binade ≤ c) (h2 : c < 2 * f.binade) : magOf f (q * f.binade + c) = c * 2 ^ q := by
  have hb := binade_pos f
  unfold magOf
  generalize f.binade = b at *
  obtain ⟨t, rfl⟩ : ∃ t, c = b + t := ⟨c - b, by omega⟩
  have e : q * b + (b + t) = b * (q + 1) + t := by rw [Nat.mul_succ, Nat.mul_comm q b]; omega
  rw [e, if_neg (by rw [Nat.mul_succ]; have := Nat.zero_le (b * q); omega)]
  have e1 : (b * (q + 1) + t) % b = t := by rw [Nat.mul_add_mod]; exact Nat.mod_eq_of_lt (by omega)
  have e2 : (b * (q + 1) + t) / b = q + 1 := by rw [Nat.mul_add_div hb, Nat.div_eq_of_lt (by omega), Nat.add_zero]
  rw [e1, e2]; rfl
theorem nearest_zero (f : Format) (s : Bool) (place : Int) : f.nearest s 0 place = f.word s 0 := by unfold Format.nearest; simp
theorem rg_word (f : Format) (s : Bool) {r : Nat} (h : r < f.signWeight) : rg f (f.word s r) = r ∧ sgn f (f.word s r) = s := by
  refine ⟨word_rung f s h, ?_⟩
  unfold sgn Format.word
  have hp : 0 < f.signWeight := Nat.two_pow_pos _
  cases s
  · simp [Nat.div_eq_of_lt h]
  · have : (f.signWeight + r) / f.signWeight = 1 := by
      rw [Nat.add_div_left _ hp, Nat.div_eq_of_lt h]
    simp [this]
theorem read_kind (k : FloatKind) {x : Nat} (h : fin k x = true) : ∃ m e, k.format.read x = .number (neg k x) m (k.format.leastPlace + (e : Nat)) ∧ m * 2 ^ e = magOf k.format (rg k.format x) := read_fin _ x (of_decide_eq_true h)
theorem fin_not_nan {k : FloatKind} {x : Nat} (h : fin k x = true) : isNan k x = false := by
  rw [isNan_eq]; have := of_decide_eq_true h; simp; omega
end Go.Ev

namespace Go.Ev
open Ieee
theorem wrap_u64 (n : Nat) : IntKind.u64.wrap (n : Int) = ((n % 2 ^ 64 : Nat) : Int) := by
  show (if (false && decide ((n : Int) % (2 ^ 64 : Int) ≥ (2 ^ 63 : Int))) = true then (n : Int) % (2 ^ 64 : Int) - (2 ^ 64 : Int) else (n : Int) % (2 ^ 64 : Int)) = _
  simp
end Go.Ev

namespace Go.Ev
open Ieee
/-! Products within bounds are finite, sums of finite numbers are numbers. -/
theorem cut_le (s : Bool) (n drop b : Nat) (h : n < 2 ^ (drop + b)) : Toward.even.cut s n drop ≤ 2 ^ b := by
  unfold Toward.cut
  have hg : (1 <<< min drop (n.log2 + 2)) = 2 ^ min drop (n.log2 + 2) := by rw [Nat.shiftLeft_eq, Nat.one_mul]
  rw [hg]
  have hl : n / 2 ^ min drop (n.log2 + 2) < 2 ^ b := by
    by_cases hd : drop ≤ n.log2 + 2
    · rw [Nat.min_eq_left hd]
      rw [Nat.div_lt_iff_lt_mul (Nat.two_pow_pos _), ← Nat.pow_add, Nat.add_comm b]; exact h
    · rw [Nat.min_eq_right (by omega)]
      have h1 : n < 2 ^ (n.log2 + 2) := by
        have := Nat.lt_log2_self (n := n)
        exact Nat.lt_of_lt_of_le this (Nat.pow_le_pow_right (by omega) (by omega))
      rw [Nat.div_eq_of_lt h1]
      exact Nat.two_pow_pos _
  have hm : ∀ c : Bool, c.toNat ≤ 1 := by intro c; cases c <;> decide
  dsimp only
  have := hm (decide (2 ^ min drop (n.log2 + 2) < 2 * (n % 2 ^ min drop (n.log2 + 2))) || (2 ^ min drop (n.log2 + 2) == 2 * (n % 2 ^ min drop (n.log2 + 2)) && n / 2 ^ min drop (n.log2 + 2) % 2 == 1))
  omega
theorem nearest_fin (f : Format) (s : Bool) (mag : Nat) (place top : Int) (h : mag = 0 ∨ place + (mag.log2 : Nat) < top) (h1 : f.leastPlace + f.fractionBits + 1 ≤ top)
    (h2 : ((top - f.fractionBits - f.leastPlace).toNat + 1) * f.binade < f.infRung) (hw : f.infRung < f.signWeight) : rg f (f.nearest s mag place) < f.infRung := by
  have hb := binade_pos f
  by_cases h0 : mag = 0
  · subst h0
    rw [nearest_zero]
    have : 0 < f.infRung := by have := Nat.zero_le (((top - f.fractionBits - f.leastPlace).toNat + 1) * f.binade); omega
    rw [(rg_word f s (r := 0) (by omega)).1]; exact this
  · replace h := h.resolve_left h0
    unfold Format.nearest
    rw [if_neg h0]
    dsimp only
    generalize hl : max (place + (mag.log2 : Nat) - f.fractionBits) f.leastPlace = last
    have hlt := Nat.lt_log2_self (n := mag)
    have hk : Toward.even.cut s (mag <<< (place - last).toNat) (last - place).toNat ≤ 2 ^ (f.fractionBits + 1) := by
      apply cut_le
      rw [Nat.shiftLeft_eq]
      refine Nat.lt_of_lt_of_le (Nat.mul_lt_mul_of_pos_right hlt (Nat.two_pow_pos _)) ?_
      rw [← Nat.pow_add]
      exact Nat.pow_le_pow_right (by omega) (by omega)
    have hq : (last - f.leastPlace).toNat + 1 ≤ (top - f.fractionBits - f.leastPlace).toNat := by omega
    have e2 : 2 ^ (f.fractionBits + 1) = 2 * f.binade := by unfold Format.binade; rw [Nat.pow_succ, Nat.mul_comm]
    have hm : ((last - f.leastPlace).toNat + 1 + 1) * f.binade ≤ ((top - f.fractionBits - f.leastPlace).toNat + 1) * f.binade := Nat.mul_le_mul_right _ (by omega)
    have hm2 : ((last - f.leastPlace).toNat + 1 + 1) * f.binade = (last - f.leastPlace).toNat * f.binade + 2 * f.binade := by
      rw [Nat.add_assoc, Nat.add_mul]
    generalize Toward.even.cut s (mag <<< (place - last).toNat) (last - place).toNat = kept at *
    have hr : (last - f.leastPlace).toNat * f.binade + kept < f.infRung := by omega
    rw [Nat.min_eq_left (by omega), (rg_word f s (by omega)).1]
    exact hr
end Go.Ev

namespace Go.Ev
open Ieee
theorem mag_le {r s : Nat} (h : r ≤ s) : magOf Ieee.double r ≤ magOf Ieee.double s := by
  rcases Nat.lt_or_eq_of_le h with h | h
  · exact Nat.le_of_lt (magOf_mono _ h)
  · rw [h]; exact Nat.le_refl _
end Go.Ev

namespace Go.Ev
/-! ## What is yielded: two lists of memory of their own -/
def fin1t (a b : Nat) : MV → MV → Prop
  | .os i s lo n, .os k s' lo' n' => Side (s = s' ∧ lo = lo' ∧ n = n' ∧ (k = 0 ∧ i = a ∨ k = 1 ∧ i = b))
  | .nils, .os k _ _ n => Side (n = 0 ∧ k ≤ 1)
  | .nils, .nils => True
  | .nilp, .nilp => True
  | .lb x, .b y => Side (x = y)
  | .b x, .b y => Side (x = y)
  | .i k n, .i k' n' => Side (k = k' ∧ n = n')
  | .f k x, .f k' y => Side (k = k' ∧ x = y)
  | _, .und => True
  | _, _ => False
def finLt (a b : Nat) : List MV → List MV → Prop
  | [], [] => True
  | x :: r, y :: s => fin1t a b x y ∧ finLt a b r s
  | _, _ => False
def rho2 (ρ : RhoT) (a b : Nat) : RhoT := fun i => match i with | 0 => ρ a | 1 => ρ b | _ + 2 => none
theorem fin1t_rep {a b : Nat} {m m' : MV} (h : fin1t a b m m') {w : World} {ρ : RhoT} {ok ok' : OkT} {v : Value} (r : Rep w G0 ρ ok m v) : Rep w G0 (rho2 ρ a b) ok' m' v := by
  unfold fin1t at h
  split at h
  · rename_i k _ _ _
    obtain ⟨rfl, rfl, rfl, hk⟩ := h.h
    cases r with
    | os id sz lo n blk cap off c T h1 h2 h3 h4 h5 =>
      have e : rho2 ρ a b k = some blk := by
        rcases hk with ⟨rfl, rfl⟩ | ⟨rfl, rfl⟩
        · exact h1
        · exact h1
      exact .os _ _ _ _ _ _ _ _ _ e h2 h3 h4 h5
    | osnil => exact .osnil _ _ _
  · obtain ⟨rfl, _⟩ := h.h; cases r; exact .osnil _ _ _
  · cases r; exact .nils
  · cases r; exact .nilp
  · have := h.h; subst this; cases r; exact .b _
  · have := h.h; subst this; cases r; exact .b _
  · obtain ⟨rfl, rfl⟩ := h.h; cases r; exact .i _ _
  · obtain ⟨rfl, rfl⟩ := h.h; cases r with | f _ _ _ h => exact .f _ _ _ h
  · exact .und _
  · exact h.elim
theorem finLt_spec {a b : Nat} : ∀ {l l' : List MV}, finLt a b l l' → l.length = l'.length ∧ ∀ j, j < l.length → fin1t a b (getM l j) (getM l' j)
  | [], [], _ => ⟨rfl, fun j hj => by simp at hj⟩
  | x :: r, y :: s, h => by
    obtain ⟨h1, h2⟩ := finLt_spec h.2
    refine ⟨by simp [h1], fun j hj => ?_⟩
    cases j with
    | zero => simpa [getM] using h.1
    | succ j => simpa [getM] using h2 j (by simpa using hj)
  | [], _ :: _, h => h.elim
  | _ :: _, [], h => h.elim
def isRows (H : List (Nat × Blk)) (id sz n : Nat) (g : Nat → List MV) : Prop := match look H id with
  | some (.rows s' n' g') => Side (s' = sz ∧ n' = n ∧ ∀ i, i < n → ∀ j, j < sz → getM (g' i) j = getM (g i) j)
  | _ => False
theorem isRows_ok {H : List (Nat × Blk)} {id sz n : Nat} {g : Nat → List MV} (h : isRows H id sz n g) {cx : Cx} {ρ ρ' : RhoT} {nx : Nat} {w : World} (hW : SatW cx ρ H nx w) {k : Nat} (hk : ρ' k = ρ id) (hok : ∀ b, okS cx ρ w b → okS cx ρ' w b) :
    BlkOK w ρ' (okS cx ρ' w) k (.rows sz n g) := by
  unfold isRows at h
  split at h
  · rename_i s' n' g' hl
    obtain ⟨rfl, rfl, hg⟩ := h.h
    rcases hW.blocks id _ hl with ⟨h1, h2⟩ | ⟨b, c, T, h1, h2, h3, h5, h4⟩
    · exact .inl ⟨h1, hk.trans h2⟩
    · refine .inr ⟨b, c, T, hk.trans h1, h2, h3, h5, fun i hi j hj => ?_⟩
      rw [← hg i hi j hj]
      exact (h4 i hi j hj).mono (Keeps.refl w) (fun _ _ _ e => e) (fun _ _ e => e) fun b hb => ⟨hok b hb, rfl⟩
  · exact h.elim
theorem FinS.two {S : St} {l l' : List MV} {sz n : Nat} {g : Nat → List MV} {sz' n' : Nat} {g' : Nat → List MV} (a b : Nat) (hab : Side (a ≠ b)) (hA : isRows S.H a sz n g) (hB : isRows S.H b sz' n' g') (hm : finLt a b l l') :
    FinS S (.tup l) (.tup l') [.rows sz n g, .rows sz' n' g'] := by
  have hab := hab.h
  refine ⟨fun cx ρ w v hW r => ?_⟩
  have hok : ∀ k, okS cx ρ w k → okS cx (rho2 ρ a b) w k := by
    intro k hk
    rcases hk with hk | hk
    · exact .inl hk
    · refine .inr ⟨hk.1, hk.2.1, fun i hi => ?_⟩
      match i, hi with
      | 0, hi => exact hk.2.2 a hi
      | 1, hi => exact hk.2.2 b hi
      | _ + 2, hi => cases hi
  refine ⟨rho2 ρ a b, ⟨hW.below, ?_, ?_, ?_, ?_, ?_, hW.okA⟩, ?_⟩
  · intro i j k h1 h2
    match i, j, h1, h2 with
    | 0, 0, _, _ => rfl
    | 1, 1, _, _ => rfl
    | 0, 1, h1, h2 => exact absurd (hW.inj a b k h1 h2) hab
    | 1, 0, h1, h2 => exact absurd (hW.inj a b k h2 h1) hab
    | _ + 2, _, h1, _ => cases h1
    | 0, _ + 2, _, h2 => cases h2
    | 1, _ + 2, _, h2 => cases h2
  · intro i k h
    match i, h with
    | 0, h => exact hW.rng a k h
    | 1, h => exact hW.rng b k h
    | _ + 2, h => cases h
  · intro i blk h
    simp only [idxH, look] at h
    split at h
    · rename_i e; have := Nat.eq_of_beq_eq_true e; subst this; simp
    · split at h
      · rename_i e; have := Nat.eq_of_beq_eq_true e; subst this; simp
      · cases h
  · intro i hi
    match i, hi with
    | 0, hi => simp at hi
    | 1, hi => simp at hi
    | _ + 2, hi => rfl
  · intro i blk h
    simp only [idxH, look] at h
    split at h
    · rename_i e
      have := Nat.eq_of_beq_eq_true e
      subst this
      cases h
      exact isRows_ok hA hW rfl hok
    · split at h
      · rename_i e
        have := Nat.eq_of_beq_eq_true e
        subst this
        cases h
        exact isRows_ok hB hW rfl hok
      · cases h
  · obtain ⟨h1, h2⟩ := finLt_spec hm
    cases r with
    | tup _ vs hl hr => exact .tup _ _ (h1.symm.trans hl) fun j hj => fin1t_rep (h2 j (by omega)) (hr j (by omega))
end Go.Ev

namespace Go.Ev
/-! ## Calls that write what they are handed: lists of the caller's own -/
structure CW (P : Program) (f : FuncId) (args : List MV) (blks : List Blk) (m : MV) : Prop where
  enters : Enters P f
  calls : ∀ (cx : Cx) (w : World) (ρ : RhoT) (vs : List Value), cx.w0 = w → SatW cx ρ (idxH 0 blks) blks.length w → RepL w G0 ρ (okS cx ρ w) args vs →
    Calls P f vs.toArray w fun e w' => ∃ v, e = .returned v ∧ BelowX cx.X w w' ∧ Rep w' G0 rho0 (fun _ => False) m v
theorem CW.of_ev {E : Env} (hE : EnvFull E) {f : FuncId} {fi : FnI} (hfn : FnOK E.P f fi) {args : List MV} {blks : List Blk} {m : MV} (hm : flatT m = true) (fuel : Nat) (hn : Nat.ble args.length fi.n = true)
    (h : ∀ cx, evC E (hnd E cx fuel) cx fi.n fi.body ⟨initF 0 args, [], idxH 0 blks, blks.length⟩ (finK E fi.res m [])) : CW E.P f args blks m := by
  refine ⟨hfn.enters, fun cx w ρ vs hw hW hr => ?_⟩
  subst hw
  have hn' : args.length ≤ fi.n := Nat.le_of_ble_eq_true hn
  have hlen := hr.len
  have h0 : SatR cx ⟨[], []⟩ fi.n G0 ⟨initF 0 args, [], idxH 0 blks, blks.length⟩ { tmps := vs.toArray ++ Array.replicate (fi.n - vs.toArray.size) undef, defers := [] } cx.w0 ρ := by
    refine ⟨hW, ⟨rfl, initA (by simp; omega), ?_⟩, trivial⟩
    intro s m hs
    obtain ⟨_, h2, h3⟩ := look_initF hs
    simp only [Nat.zero_add, Nat.sub_zero] at h2 h3
    have := hr.rep s h2
    rw [h3] at this
    refine ⟨vs.getD s undef, ?_, this⟩
    rw [Array.getElem?_append_left (by simp; omega)]
    simp only [List.getElem?_toArray, List.getD_eq_getElem?_getD]
    rw [List.getElem?_eq_getElem (by omega)]
    rfl
  refine (Calls.of_code hfn (R := fun v w' => BelowX cx.X cx.w0 w' ∧ Rep w' G0 rho0 (fun _ => False) m v) ?_).mono ?_
  · refine wp_mono (evC_sound hE.toEnvAll (hnd_sound hE fuel) (h cx) _ _ _ ⟨_, h0⟩) ?_
    rintro e a' w' ⟨ex, S', h1, h2, ρ, h3⟩
    unfold finK at h2
    split at h2
    · exact h2.elim
    · rename_i hx
      split at h2
      · exact h2.elim
      · rename_i l hl
        refine ⟨?_, h3.F.defers, fun fn hfn' => ?_⟩
        · cases e <;> cases ex <;> simp only [exitIs] at h1
          · exact .inl rfl
          · exact absurd rfl (hx _)
          · exact .inr rfl
        · obtain ⟨v, q1, q2⟩ := results_sound hE.toEnvOK h3 hfn' hl
          obtain ⟨ρ', s1, s2⟩ := (forceM_eq h2).ok _ ρ w' v h3.W q2
          exact ⟨v, q1, s1.below, flatT_any hm s2⟩
  · rintro e w' ⟨v, rfl, s1, s2⟩
    exact ⟨v, rfl, s1, s2⟩
theorem CW.of_genQ {P : Program} {exts : List (Nat × XK)} {eqs inl : List Nat} {sum : FuncId → List MV → Option (List Prop × MV × List Blk × Bool)} (hx : ∀ f k, look exts f = some k → ExtOK P f k) (hq : eqsB P eqs = true) (hs : SumsOK P sum)
    {f : FuncId} {fi : FnI} (hf : fnGen P f = some fi) {args : List MV} {blks : List Blk} {m : MV} (hm : flatT m = true) (fuel : Nat) (hn : Nat.ble args.length fi.n = true)
    (h : ∀ cx, evC (genQ P exts eqs inl sum) (hnd (genQ P exts eqs inl sum) cx fuel) cx fi.n fi.body ⟨initF 0 args, [], idxH 0 blks, blks.length⟩ (finK (genQ P exts eqs inl sum) fi.res m [])) : CW P f args blks m :=
  CW.of_ev (E := genQ P exts eqs inl sum) (genQ_full hx hq hs) (fnGen_ok hf) hm fuel hn h
theorem i64_wrap {n : Int} (h1 : -9223372036854775808 ≤ n) (h2 : n < 9223372036854775808) : IntKind.i64.wrap n = n := by
  show (if (true && decide (n % (18446744073709551616 : Int) ≥ (9223372036854775808 : Int))) = true then n % (18446744073709551616 : Int) - (18446744073709551616 : Int) else n % (18446744073709551616 : Int)) = n
  split <;> simp at * <;> omega
theorem i64_id {n m : Int} (h : -9223372036854775808 ≤ n ∧ n < 9223372036854775808) (e : n = m) : IntKind.i64.wrap n = m := by
  subst e
  exact i64_wrap h.1 h.2
end Go.Ev

namespace Go.Ev
/-! ## Less is known, in steps; loops with facts beside their states; lists that are not written any more -/
structure Le (cx : Cx) (n : Nat) (S T : St) : Prop where
  ok : ∀ su a w, Sat cx su n G0 S a w → Sat cx su n G0 T a w
theorem Le.of {cx : Cx} {n : Nat} {S T : St} (h : leS S T) : Le cx n S T := ⟨fun _ _ _ hs => leS_sat h hs⟩
theorem loop_ruleC {E : Env} (hE : EnvAll E) {cx : Cx} {call : CallT} (hc : CallH E.P cx call) {n : Nat} {c : Code} {S : St} {K : Ex → St → Prop} (inv : Nat → St) (pre : Nat → Prop) (N : Nat) (h0 : Le cx n S (inv 0)) (hp : pre 0)
    (step : ∀ i, i ≤ N → pre i → evC E call cx n c (inv i) (fun ex S' => match ex with
      | .normal => Need (i < N ∧ pre (i + 1)) (Le cx n S' (inv (i + 1)))
      | .ret => K .ret S'
      | .exit j => K (.exit j) S')) : Rest (CodeOK E.P cx n (.loop c) S K) := by
  refine ⟨fun su a w hs => ?_⟩
  refine wp_loop_ghost (fun m a w => ∃ i, i ≤ N ∧ pre i ∧ m = N - i ∧ Sat cx su n G0 (inv i) a w) N ⟨0, Nat.zero_le _, hp, rfl, h0.ok _ _ _ hs⟩ ?_
  rintro m a w ⟨i, hi, hpi, rfl, hs⟩
  refine wp_mono (evC_sound hE hc (step i hi hpi) su a w hs) ?_
  rintro e a' w' ⟨ex, S', h1, h2, h3⟩
  cases e <;> cases ex <;> simp only [exitIs] at h1
  · have hlt := h2.left.h
    exact ⟨N - (i + 1), by omega, i + 1, by omega, hlt.2, rfl, h2.right.ok _ _ _ h3⟩
  · subst h1
    exact ⟨.exit _, S', rfl, h2, h3⟩
  · exact ⟨.ret, S', trivial, h2, h3⟩
theorem Le.phan {cx : Cx} {n : Nat} {S T : St} (sz : Nat) (h : Le cx n (phanS sz S) T) : Le cx n S T :=
  ⟨fun su a w hs => by
    obtain ⟨F, stk, H, nx⟩ := S
    exact h.ok su a w (hs.phan sz _)⟩
end Go.Ev

namespace Go.Ev
def sameV : MV → MV → Bool
  | .b x, .b y => eqB x y
  | .i k a, .i k' b => match sameInt k k' with
    | true => eqI a b
    | false => false
  | .f k a, .f k' b => match sameFlt k k' with
    | true => Nat.beq a b
    | false => false
  | _, _ => false
def rowIs : Nat → List MV → List MV → Bool
  | 0, _, _ => true
  | k + 1, x :: r, y :: s => match sameV x y with
    | true => rowIs k r s
    | false => false
  | _ + 1, _, _ => false
end Go.Ev

namespace Go.Ev
/-! ## Contracts whose answer lies in a list of its own, of numbers alone: nothing of what was handed over lies in it -/
def ownA : MV → Bool
  | .os _ _ _ _ => true
  | .oc _ _ _ _ => true
  | m => flatM m
def ownAs : List MV → Bool
  | [] => true
  | m :: r => match ownA m with
    | true => ownAs r
    | false => false
def ownT : MV → Bool
  | .tup l => ownAs l
  | m => ownA m
theorem ownA_any {m : MV} (h : ownA m = true) {w : World} {G G' : GT} {ρ : RhoT} {ok ok' : OkT} {v : Value} (r : Rep w G ρ ok m v) : Rep w G' ρ ok' m v := by
  unfold ownA at h
  split at h
  · cases r with
    | os _ _ _ _ blk cap off c T h1 h2 h3 h4 h5 => exact .os _ _ _ _ _ _ _ _ _ h1 h2 h3 h4 h5
    | osnil => exact .osnil _ _ _
  · cases r with
    | oc _ _ _ _ blk cap off c T h1 h2 h3 h4 h5 h6 => exact .oc _ _ _ _ _ _ _ _ _ h1 h2 h3 h4 h5 h6
    | ocnil => exact .ocnil _ _
  · exact flatM_any h r
theorem ownAs_spec : ∀ {l : List MV}, ownAs l = true → ∀ j, j < l.length → ownA (getM l j) = true
  | [], _, j, hj => by simp at hj
  | m :: r, h, j, hj => by
    unfold ownAs at h
    split at h
    · rename_i h1
      cases j with
      | zero => simpa [getM] using h1
      | succ j => simpa [getM] using ownAs_spec h j (by simpa using hj)
    · cases h
theorem ownT_any {m : MV} (h : ownT m = true) {w : World} {G G' : GT} {ρ : RhoT} {ok ok' : OkT} {v : Value} (r : Rep w G ρ ok m v) : Rep w G' ρ ok' m v := by
  unfold ownT at h
  split at h
  · cases r with
    | tup _ vs hl hr => exact .tup _ _ hl fun j hj => ownA_any (ownAs_spec h j hj) (hr j hj)
  · exact ownA_any h r
theorem CM.aloneR {P : Program} {f : FuncId} {args : List MV} {m : MV} {sz n : Nat} {g : Nat → List MV} {al : Bool} (h : CM P f args m [.rows sz n g] al) (hm : ownT m = true)
    (hg : ∀ i, i < n → ∀ j, j < sz → flatM (getM (g i) j) = true) : CM P f args m [.rows sz n g] false := by
  refine ⟨h.enters, fun w okA vs hA hr => (h.calls w okA vs hA hr).mono ?_⟩
  rintro e w' ⟨v, ρ', rfl, hW, hR⟩
  refine ⟨v, ρ', rfl, ⟨hW.below, hW.inj, hW.rng, hW.hlt, hW.nx, fun id blk hl => ?_, fun b hb => absurd hb.1 (by simp)⟩, ownT_any hm hR⟩
  have hb := hW.blocks id blk hl
  simp only [idxH, look] at hl
  split at hl
  · cases hl
    rcases hb with ⟨h1, h2⟩ | ⟨b, c, T, h1, h2, h3, h5, h4⟩
    · exact .inl ⟨h1, h2⟩
    · exact .inr ⟨b, c, T, h1, h2, h3, h5, fun i hi j hj => flatM_any (hg i hi j hj) (h4 i hi j hj)⟩
  · cases hl
theorem flat2 {x y : Nat} {j : Nat} (hj : j < 2) : flatM (getM [.f .f64 x, .f .f64 y] j) = true := by
  have : j = 0 ∨ j = 1 := by omega
  rcases this with rfl | rfl <;> rfl
end Go.Ev

namespace Go.Ev
/-! ## A long row of regions, cut in two: between them the state is told anew -/
def takeS : Nat → Code → Code
  | 0, _ => .skip
  | k + 1, .seq a b => .seq a (takeS k b)
  | _ + 1, c => c
def dropS : Nat → Code → Code
  | 0, c => c
  | k + 1, .seq _ b => dropS k b
  | _ + 1, _ => .skip
def rowS : Nat → Code → Bool
  | 0, _ => true
  | k + 1, .seq _ b => rowS k b
  | _ + 1, _ => false
def cutK (cx : Cx) (n : Nat) (T : St) (K : Ex → St → Prop) : Ex → St → Prop := fun e S' => match e with
  | .normal => Le cx n S' T
  | .ret => K .ret S'
  | .exit j => K (.exit j) S'
theorem CodeOK.cut {E : Env} (hE : EnvAll E) {cx : Cx} {call : CallT} (hcall : CallH E.P cx call) {n : Nat} {T : St} {K : Ex → St → Prop} : ∀ (k : Nat) {c : Code} {S : St}, rowS k c = true → evC E call cx n (takeS k c) S (cutK cx n T K) →
    CodeOK E.P cx n (dropS k c) T K → CodeOK E.P cx n c S K
  | 0, c, S, _, h1, h2 => fun su a w hs => h2 su a w (Le.ok (S := S) (T := T) h1 su a w hs)
  | k + 1, c, S, hr, h1, h2 => by
    cases c with
    | seq x y =>
      have h1 : evC E call cx n x S (fun e S' => match e with
        | .normal => evC E call cx n (takeS k y) S' (cutK cx n T K)
        | .ret => cutK cx n T K .ret S'
        | .exit j => cutK cx n T K (.exit j) S') := h1
      intro su a w hs
      refine wp_seq (wp_mono (evC_sound hE hcall h1 su a w hs) ?_)
      rintro e a' w' ⟨ex, S', q1, q2, q3⟩
      cases e <;> cases ex <;> simp only [exitIs] at q1 <;> simp only [Exit.then]
      · exact CodeOK.cut hE hcall k (c := y) hr q2 h2 su a' w' q3
      · subst q1; exact ⟨.exit _, S', rfl, q2, q3⟩
      · exact ⟨.ret, S', trivial, q2, q3⟩
    | _ => cases hr
theorem CM.of_cut {P : Program} {exts : List (Nat × XK)} {eqs inl : List Nat} {sum : FuncId → List MV → Option (List Prop × MV × List Blk × Bool)} (hx : ∀ f k, look exts f = some k → ExtOK P f k) (hq : eqsB P eqs = true) (hs : SumsOK P sum)
    {f : FuncId} {fi : FnI} (hf : fnGen P f = some fi) {args : List MV} {m : MV} {blks : List Blk} (hn : Nat.ble args.length fi.n = true)
    (h : ∀ cx, CodeOK P cx fi.n fi.body ⟨initF 0 args, [], [], 0⟩ (finK (genQ P exts eqs inl sum) fi.res m blks)) : CM P f args m blks true :=
  CM.of_code (E := genQ P exts eqs inl sum) (genQ_full hx hq hs).toEnvAll (fnGen_ok hf) hn fun _ _ => h _
end Go.Ev

namespace Go.Ev
/-! ## Parts of functions, apart: rows, blocks and loops whose body is shown in parts -/
theorem CodeOK.seq {P : Program} {cx : Cx} {n : Nat} {x y : Code} {S : St} {K : Ex → St → Prop} (h : CodeOK P cx n x S (fun e S' => match e with
      | .normal => Rest (CodeOK P cx n y S' K)
      | .ret => K .ret S'
      | .exit j => K (.exit j) S')) : CodeOK P cx n (.seq x y) S K := fun su a w hs => by
  refine wp_seq (wp_mono (h su a w hs) ?_)
  rintro e a' w' ⟨ex, S', q1, q2, q3⟩
  cases e <;> cases ex <;> simp only [exitIs] at q1 <;> simp only [Exit.then]
  · exact q2.ok su a' w' q3
  · subst q1; exact ⟨.exit _, S', rfl, q2, q3⟩
  · exact ⟨.ret, S', trivial, q2, q3⟩
theorem CodeOK.block {P : Program} {cx : Cx} {n id : Nat} {c : Code} {S : St} {K : Ex → St → Prop} (h : CodeOK P cx n c S (fun e S' => match e with
      | .exit j => match Nat.beq j id with
        | true => K .normal S'
        | false => K (.exit j) S'
      | .ret => K .ret S'
      | .normal => K .normal S')) : CodeOK P cx n (.block id c) S K := fun su a w hs => by
  refine wp_block (wp_mono (h su a w hs) ?_)
  rintro e a' w' ⟨ex, S', q1, q2, q3⟩
  cases e <;> cases ex <;> simp only [exitIs] at q1
  · exact ⟨.normal, S', trivial, q2, q3⟩
  · rename_i j j'
    subst q1
    unfold Exit.inBlock
    dsimp only at q2 ⊢
    cases e : Nat.beq j id
    · rw [e] at q2
      rw [if_neg (fun h => by subst h; simp at e)]
      exact ⟨.exit _, S', rfl, q2, q3⟩
    · rw [e] at q2
      have e := Nat.eq_of_beq_eq_true e
      rw [if_pos e]
      exact ⟨.normal, S', trivial, q2, q3⟩
  · exact ⟨.ret, S', trivial, q2, q3⟩
theorem loop_ruleK {P : Program} {cx : Cx} {n : Nat} {c : Code} {S : St} {K : Ex → St → Prop} (inv : Nat → St) (pre : Nat → Prop) (N : Nat) (h0 : Le cx n S (inv 0)) (hp : pre 0)
    (step : ∀ i, i ≤ N → pre i → CodeOK P cx n c (inv i) (fun ex S' => match ex with
      | .normal => Need (i < N ∧ pre (i + 1)) (Le cx n S' (inv (i + 1)))
      | .ret => K .ret S'
      | .exit j => K (.exit j) S')) : Rest (CodeOK P cx n (.loop c) S K) := by
  refine ⟨fun su a w hs => ?_⟩
  refine wp_loop_ghost (fun m a w => ∃ i, i ≤ N ∧ pre i ∧ m = N - i ∧ Sat cx su n G0 (inv i) a w) N ⟨0, Nat.zero_le _, hp, rfl, h0.ok _ _ _ hs⟩ ?_
  rintro m a w ⟨i, hi, hpi, rfl, hs⟩
  refine wp_mono (step i hi hpi su a w hs) ?_
  rintro e a' w' ⟨ex, S', h1, h2, h3⟩
  cases e <;> cases ex <;> simp only [exitIs] at h1
  · have hlt := h2.left.h
    exact ⟨N - (i + 1), by omega, i + 1, by omega, hlt.2, rfl, h2.right.ok _ _ _ h3⟩
  · subst h1
    exact ⟨.exit _, S', rfl, h2, h3⟩
  · exact ⟨.ret, S', trivial, h2, h3⟩
theorem FinS.rowsLe {S : St} {m0 m : MV} {sz n : Nat} {g : Nat → List MV} (id : Nat) (hb : match look S.H id with
      | some (.rows s' n' g') => Side (s' = sz ∧ n ≤ n' ∧ ∀ i, i < n → ∀ j, j < sz → getM (g' i) j = getM (g i) j)
      | _ => False) (hm : finM id m0 m) : FinS S m0 m [.rows sz n g] := by
  split at hb
  · rename_i s' n' g' hl
    obtain ⟨rfl, hle, hg⟩ := hb.h
    refine ⟨fun cx ρ w v hW r => ⟨fun i => match i with | 0 => ρ id | _ + 1 => none, ⟨hW.below, ?_, ?_, ?_, ?_, ?_, hW.okA⟩, finM_rep hm rfl r⟩⟩
    · intro i j b h1 h2
      cases i <;> cases j <;> simp_all
    · intro i b h
      cases i with
      | zero => exact hW.rng id b h
      | succ i => cases h
    · intro i blk h
      simp only [idxH, look] at h
      split at h
      · rename_i e; have := Nat.eq_of_beq_eq_true e; subst this; simp
      · cases h
    · intro i hi
      cases i with
      | zero => simp at hi
      | succ i => rfl
    · intro i blk h
      simp only [idxH, look] at h
      split at h
      · rename_i e
        have := Nat.eq_of_beq_eq_true e
        subst this
        cases h
        rcases hW.blocks id _ hl with ⟨h1, h2⟩ | ⟨b, c, T, h1, h2, h3, h5, h4⟩
        · exact .inl ⟨by omega, h2⟩
        · have hsz : n * s' ≤ n' * s' := Nat.mul_le_mul_right _ hle
          refine .inr ⟨b, c, T, h1, h2, by omega, fun j hj => h5 j (by omega), fun i hi j hj => ?_⟩
          rw [← hg i hi j hj]
          refine (h4 i (by omega) j hj).mono (Keeps.refl w) (fun _ _ _ e => e) (fun _ _ e => e) fun b hb => ⟨?_, rfl⟩
          rcases hb with hb | hb
          · exact .inl hb
          · refine .inr ⟨hb.1, hb.2.1, fun i hi => ?_⟩
            cases i with
            | zero => exact hb.2.2 id hi
            | succ i => cases hi
      · cases h
  · exact hb.elim
end Go.Ev












