/-
  The way from a contract of a law to the law, exact results, and calls that write what they are handed, for every program; no condition.
-/
import Derived.Test.YtbnfcjckbgpkeaaEvD
import Derived.ProofKit
import Derived.OpenShut
import Derived.Carry
import Derived.ChangeSlices
import Derived.Test.YtbnfcjckbgpkeaaEvC
import Derived.Test.YtbnfcjckbgpkeaaEvP
import Derived.Test.YtbnfcjckbgpkeaaEvW
set_option linter.unusedSimpArgs false
set_option linter.unusedVariables false
namespace Go.Ev
open Go.ChangeShapes Go.WideShapes Go.ChangeAt Go.RowKit
/-! ## From a contract of a law to what is asked of it -/
theorem trodAll_below {H : Type} {enc : TypeId × Value → H} {P : Program} (hl : laidOutB P = true) {W W' : World} (hb : Below W.heap.size W W') : ∀ {ts : List TypeId} {vs : List Value} {ds : List (DataW H)} {ps : List MemPlace},
    ts.all (fun t => P.readableRec t && decide (t < P.types.size)) = true → DataW.TrodAll enc P W 0 (fun _ => true) true ts vs ds ps → (∀ x ∈ ps, x.block < W.heap.size) →
    DataW.TrodAll enc P W' 0 (fun b => decide (b < W.heap.size)) true ts vs ds ps
  | [], vs, ds, ps, _, h, _ => by
    obtain ⟨rfl, rfl, rfl⟩ := trodAll_nil h
    exact trodAll_mk0
  | t :: ts, vs, ds, ps, hr, h, hlt => by
    obtain ⟨v, vs', d, ds', p, q, rfl, rfl, rfl, h1, h2⟩ := trodAll_cons h
    simp only [List.all_cons, Bool.and_eq_true, decide_eq_true_eq] at hr
    refine trodAll_cons_mk (Below.trod hl hr.1.1 hr.1.2 h1 hb fun x hx => hlt x (List.mem_append_left _ hx)) (trodAll_below hl hb ?_ h2 fun x hx => hlt x (List.mem_append_right _ hx))
    exact hr.2
theorem law_handed {C : Checked} {os : Os} {f : FuncId} {fn : Func} {s : ChangeSpec} {conds : List PathCond} {apart : Bool} {a : Assume} {H : Type} {enc : TypeId × Value → H} {tb : TypeId} (hl : laidOutB C.prog = true)
    (own : ownKnob C.prog.godebug = none) (started : os.Started) (noInit : C.prog.inits.idxOf? f = none) (hfn : C.prog.funcs[f]? = some fn)
    (hread : fn.params.toList.all (fun t => C.prog.readableRec t && decide (t < C.prog.types.size)) = true)
    (witness : ∃ (w : World) (tape : Tape) (i : Input), w.os = os ∧ (w.forCall tape i).Shaped C.prog ∧ i.vars = [] ∧ Input.okWide C.prog (w.forCall tape i) .any w.heap.size f i ∧
      s.pre6 enc C.prog fn conds apart (w.forCall tape i).memory i.args ∧ a.holds C.prog (lone (Frame.enter C.prog f i.args .normal) [] (w.forCall tape i)))
    (hvars : s.vars = []) (hres : fn.resultTypes = #[tb]) (htb : C.prog.underlying tb = some .bool)
    (hs : ∀ ds : List (DataW H), ds.length = fn.params.toList.length → (s.fn H ds).results = [.lit (.bool true)] ∧ (s.fn H ds).args = ds ∧ (s.fn H ds).vars = [])
    (h : ∀ (W : World) (args : Array Value) (ds : List (DataW H)) (ps : List MemPlace), (∀ (j : Nat) t v, fn.params[j]? = some t → args[j]? = some v → Value.okWide C.prog W .any W.heap.size t v) →
      DataW.TrodAll enc C.prog W 0 (fun _ => true) true fn.params.toList args.toList ds ps → (∀ x ∈ ps, x.block < W.heap.size) →
      (DataW.weightsEach C.prog fn.params.toList ds).all (· ≤ reachBytes) = true →
      Calls C.prog f args W fun e W' => e = .returned (.bool true) ∧ Below W.heap.size W W') :
    ReturnsInHanded a C os f .any (s.pre6 enc C.prog fn conds apart) (s.post enc C.prog fn apart true false false) := by
  refine returnsInHanded_of_calls own started noInit witness ?_
  intro w tape i _ _ _ hok hpre hholds
  obtain ⟨_, _, _, fn', hfn', _, _, _, _, hval⟩ := hok
  have e : fn' = fn := Option.some.inj (hfn'.symm.trans hfn)
  subst e
  obtain ⟨⟨ds, gs, before, hw, hc⟩, hz⟩ := hpre
  have hwt := hz.weights hw
  have hw' := DataW.Whole.of_heap (w' := w.forCall tape i) (by rfl) hw
  have hlt := hw'.lt
  have hW := hw'
  obtain ⟨p, q, hA, hV, rfl, hfz, hnd⟩ := hW
  rw [hvars] at hV
  obtain ⟨rfl, rfl⟩ := trodVars_none hV
  have len : ∀ {ts : List TypeId} {vs : List Value} {ds : List (DataW H)} {ps : List MemPlace}, DataW.TrodAll enc C.prog (w.forCall tape i) 0 (fun _ => true) true ts vs ds ps → ds.length = ts.length := by
    intro ts
    induction ts with
    | nil => intro vs ds ps h; obtain ⟨_, rfl, _⟩ := trodAll_nil h; rfl
    | cons t ts ih =>
      intro vs ds ps h
      obtain ⟨v, vs', d, ds', p, q, rfl, rfl, rfl, h1, h2⟩ := trodAll_cons h
      simp [ih h2]
  have hlen := len hA
  obtain ⟨s1, s2, s3⟩ := hs ds hlen
  have hwt' : (DataW.weightsEach C.prog fn'.params.toList ds).all (· ≤ reachBytes) = true := by
    have : s.plain.varTypes C.prog = [] := by
      unfold DataSpec.varTypes ChangeSpec.plain
      simp [hvars]
    have e2 : (OpenSpec.ofChange s).bare.plain.varTypes C.prog = s.plain.varTypes C.prog := rfl
    rw [e2, this, List.append_nil, List.append_nil] at hwt
    exact hwt
  refine (h (w.forCall tape i) i.args ds p (fun j t v h1 h2 => Value.okWide_any_base (hval j t v h1 h2)) hA (fun x hx => hlt x (by simp [hx])) hwt').mono fun e W' ⟨he, hb⟩ => ?_
  subst he
  refine ChangeSpec.post_blind ⟨ds, [], _, [], p, [], hw', ?_, ?_, ?_, hb.frame _, fun h => by cases h⟩
  · rw [List.append_nil, s1, hres]
    exact trodAll_mk1 (shut_bool htb true)
  · rw [List.append_nil, s2]
    exact trodAll_below hl hb hread hA fun x hx => hlt x (by simp [hx])
  · rw [List.append_nil, s3, hvars]
    rfl
end Go.Ev

namespace Go.Ev
open Go.ChangeShapes Go.WideShapes Go.ChangeAt Go.RowKit
/-! ## Plain cells: whole numbers, floats, bools -/
inductive CK where
  | i (k : IntKind)
  | f (k : FloatKind)
  | b
def intOf : Value → Int
  | .int _ n => n
  | _ => 0
def fltOf : Value → Nat
  | .float _ n => n
  | _ => 0
def boolOf : Value → Bool
  | .bool b => b
  | _ => false
def mkM : CK → Value → MV
  | .i k, v => .i k (intOf v)
  | .f k, v => .f k (canon k (fltOf v))
  | .b, v => .b (boolOf v)
def CKok : CK → Value → Prop
  | .i k, v => v = .int k (intOf v) ∧ (Lit.int k (intOf v)).wf = true
  | .f k, v => v = .float k (fltOf v) ∧ fltOf v < 2 ^ k.format.width
  | .b, v => v = .bool (boolOf v)
theorem mkM_rep {k : CK} {v : Value} (h : CKok k v) {w : World} {G : GT} {ρ : RhoT} {ok : OkT} : Rep w G ρ ok (mkM k v) v := by
  cases k with
  | i k => obtain ⟨h, _⟩ := h; show Rep w G ρ ok (.i k (intOf v)) v; rw [h]; exact .i _ _
  | f k =>
    obtain ⟨h, hb⟩ := h
    show Rep w G ρ ok (.f k (canon k (fltOf v))) v
    generalize hx : fltOf v = x at h hb ⊢
    subst h
    exact .f _ _ _ (canon_FR k x hb)
  | b => show Rep w G ρ ok (.b (boolOf v)) v; rw [show v = .bool (boolOf v) from h]; exact .b _
theorem CKok.one {k : CK} {v : Value} (h : CKok k v) : v.oneCell' = true := by
  cases k with
  | i k => rw [h.1]; rfl
  | f k => rw [h.1]; rfl
  | b => rw [show v = .bool (boolOf v) from h]; rfl
def mkRow : List CK → Nat → (Nat → Value) → List MV
  | [], _, _ => []
  | k :: r, j, u => mkM k (u j) :: mkRow r (j + 1) u
theorem mkRow_get : ∀ {l : List CK} {j i : Nat} {u : Nat → Value} {k : CK}, l[i]? = some k → getM (mkRow l j u) i = mkM k (u (j + i))
  | [], j, i, u, k, h => by simp at h
  | x :: r, j, 0, u, k, h => by simp at h; subst h; simp [mkRow, getM]
  | x :: r, j, i + 1, u, k, h => by
    have := mkRow_get (l := r) (j := j + 1) (i := i) (u := u) (by simpa using h)
    rw [show j + (i + 1) = j + 1 + i by omega, ← this]
    simp [mkRow, getM]
def kindsF (P : Program) (kT : TypeId → Option (List CK)) (sz : Nat) : List Field → List CK → Option (List CK)
  | [], acc => match Nat.beq acc.length sz with
    | true => some acc
    | false => none
  | f :: r, acc => match Nat.beq f.offset acc.length with
    | false => none
    | true => match kT f.type with
      | none => none
      | some l => match Nat.beq l.length (P.cellsOf f.type) with
        | false => none
        | true => kindsF P kT sz r (acc ++ l)
def kindsT (P : Program) : Nat → TypeId → Option (List CK)
  | 0, _ => none
  | m + 1, t => match P.underlying t with
    | some (.int k) => some [.i k]
    | some (.float k) => some [.f k]
    | some .bool => some [.b]
    | some (.struct fs) => kindsF P (kindsT P m) (P.cellsOf t) fs.toList []
    | some (.array n e) => match kindsT P m e with
      | none => none
      | some l => match Nat.beq l.length (P.cellsOf e) && Nat.beq (n * P.cellsOf e) (P.cellsOf t) with
        | true => some (List.replicate n l).flatten
        | false => none
    | _ => none
def AllCK (l : List CK) (cs : List Value) : Prop := cs.length = l.length ∧ ∀ (j : Nat) (k : CK) (v : Value), l[j]? = some k → cs[j]? = some v → CKok k v
theorem AllCK.app {l l' : List CK} {cs : List Value} (hlen : cs.length = l.length + l'.length) (h1 : AllCK l (cs.take l.length)) (h2 : AllCK l' (cs.drop l.length)) : AllCK (l ++ l') cs := by
  refine ⟨by simp [hlen], fun j k v hk hv => ?_⟩
  rcases Nat.lt_or_ge j l.length with h | h
  · rw [List.getElem?_append_left h] at hk
    exact h1.2 j k v hk (by rw [List.getElem?_take, if_pos h]; exact hv)
  · rw [List.getElem?_append_right h] at hk
    exact h2.2 (j - l.length) k v hk (by rw [List.getElem?_drop, show l.length + (j - l.length) = j by omega]; exact hv)
section
variable {H : Type} {enc : TypeId × Value → H} {P : Program} {w : World} {base : Nat} {spare : Nat → Bool} {held : Bool}
theorem trod_float {t : TypeId} {k : FloatKind} {fuel : Nat} {cs : List Value} {x : DataW H × List MemPlace} (ht : P.underlying t = some (.float k)) (h : DataW.trod enc P w base spare held fuel t cs = some x) :
    ∃ b, cs = [.float k b] ∧ (Lit.float k b).wf = true := by
  cases fuel with
  | zero => simp [DataW.trod] at h
  | succ n =>
    unfold DataW.trod at h
    rw [ht] at h
    split at h <;> simp_all
theorem trod_plain : ∀ {m : Nat} {t : TypeId} {ks : List CK}, kindsT P m t = some ks → ∀ {fuel : Nat} {cs : List Value} {x : DataW H × List MemPlace}, DataW.trod enc P w base spare held fuel t cs = some x → AllCK ks cs
  | 0, t, ks, hk, _, _, _, _ => by simp [kindsT] at hk
  | m + 1, t, ks, hk, fuel, cs, x, h => by
    unfold kindsT at hk
    split at hk
    · rename_i k ht
      cases hk
      obtain ⟨n, rfl, _, hw⟩ := DataW.trod_int ht h
      refine ⟨rfl, fun j k' v h1 h2 => ?_⟩
      cases j with
      | zero => simp at h1 h2; subst h1; subst h2; exact ⟨rfl, hw⟩
      | succ j => simp at h1
    · rename_i k ht
      cases hk
      obtain ⟨n, rfl, hw⟩ := trod_float ht h
      refine ⟨rfl, fun j k' v h1 h2 => ?_⟩
      cases j with
      | zero =>
        simp at h1 h2; subst h1; subst h2
        refine ⟨rfl, ?_⟩
        show n < _
        cases k <;> exact of_decide_eq_true hw
      | succ j => simp at h1
    · rename_i ht
      cases hk
      obtain ⟨n, rfl, _⟩ := DataW.trod_bool ht h
      refine ⟨rfl, fun j k' v h1 h2 => ?_⟩
      cases j with
      | zero => simp at h1 h2; subst h1; subst h2; rfl
      | succ j => simp at h1
    · rename_i fs ht
      obtain ⟨xs, n, _, _, hl, _, hf⟩ := DataW.trod_struct ht h
      have key : ∀ (l : List Field) (acc : List CK), (∀ f ∈ l, ∃ y, DataW.trod enc P w base spare held n f.type ((cs.drop f.offset).take (P.cellsOf f.type)) = some y) → AllCK acc (cs.take acc.length) → acc.length ≤ cs.length → kindsF P (kindsT P m) (P.cellsOf t) l acc = some ks → AllCK ks cs := by
        intro l
        induction l with
        | nil =>
          intro acc _ ha hle hk
          unfold kindsF at hk
          split at hk
          · rename_i e
            cases hk
            have e := Nat.eq_of_beq_eq_true e
            rw [e, ← hl, List.take_length] at ha
            exact ha
          · cases hk
        | cons f r ih =>
          intro acc hall ha hle hk
          unfold kindsF at hk
          split at hk
          · cases hk
          · rename_i e
            have e := Nat.eq_of_beq_eq_true e
            split at hk
            · cases hk
            · rename_i l' hl'
              split at hk
              · cases hk
              · rename_i e2
                have e2 := Nat.eq_of_beq_eq_true e2
                obtain ⟨y, hy⟩ := hall f (by simp)
                have := trod_plain hl' hy
                have hlen := this.1
                rw [List.length_take, List.length_drop] at hlen
                have hle2 : acc.length + l'.length ≤ cs.length := by omega
                refine ih (acc ++ l') (fun g hg => hall g (by simp [hg])) ?_ (by simpa using hle2) hk
                rw [List.length_append]
                refine AllCK.app (by simp; omega) ?_ ?_
                · rw [List.take_take, show min acc.length (acc.length + l'.length) = acc.length by omega]; exact ha
                · rw [e, ← e2] at this
                  rw [List.drop_take, show acc.length + l'.length - acc.length = l'.length by omega]
                  exact this
      refine key fs.toList [] ?_ ⟨rfl, fun j k v h1 => by simp at h1⟩ (by simp) hk
      intro f hf'
      obtain ⟨i, hi⟩ := List.getElem?_of_mem hf'
      have hi' : fs[i]? = some f := by simpa using hi
      have := hf i f hi'
      have hlt : i < xs.length := by
        have h1 := (Array.getElem?_eq_some_iff.1 hi').1
        omega
      exact ⟨xs[i], by rw [this]; exact List.getElem?_eq_getElem hlt⟩
    · rename_i n e ht
      split at hk
      · cases hk
      · rename_i l hl
        split at hk
        · rename_i hb
          rw [Bool.and_eq_true] at hb
          have e1 := Nat.eq_of_beq_eq_true hb.1
          have e2 := Nat.eq_of_beq_eq_true hb.2
          cases hk
          obtain ⟨xs, fu, _, _, hlen, hxs, hf⟩ := DataW.trod_array ht h
          rw [← e2] at hlen
          have key : ∀ m, m ≤ n → AllCK (List.replicate m l).flatten (cs.take (m * l.length)) := by
            intro m
            induction m with
            | zero => intro _; exact ⟨by simp, fun j k v h1 => by simp at h1⟩
            | succ m ih =>
              intro hm
              have ih := ih (by omega)
              have hi := hf m (by omega)
              have hlt : m < xs.length := by omega
              rw [List.getElem?_eq_getElem hlt] at hi
              have := trod_plain hl hi
              have hfl : (List.replicate m l).flatten.length = m * l.length := by simp
              rw [List.replicate_succ', List.flatten_append, List.flatten_cons, List.flatten_nil, List.append_nil]
              have hmul : (m + 1) * l.length = m * l.length + l.length := Nat.succ_mul _ _
              have hle : (m + 1) * l.length ≤ cs.length := by rw [hlen, ← e1]; exact Nat.mul_le_mul_right _ hm
              refine AllCK.app (by rw [hfl, List.length_take]; omega) ?_ ?_
              · rw [hfl, List.take_take, show min (m * l.length) ((m + 1) * l.length) = m * l.length by omega]; exact ih
              · rw [hfl, List.drop_take, show (m + 1) * l.length - m * l.length = l.length by omega]
                rw [← e1] at this
                exact this
          have := key n (Nat.le_refl _)
          rw [show n * l.length = cs.length by rw [hlen, e1], List.take_length] at this
          exact this
        · cases hk
    · cases hk
end
section
variable {H : Type} {enc : TypeId × Value → H} {P : Program} {W : World}
theorem okWide_slice {t e : TypeId} {b0 : Nat} {v : Value} (ht : P.underlying t = some (.slice e)) (hval : Value.okWide P W .any b0 t v) : (v = .slice none 0 0) ∨ ∃ b off len cap, v = .slice (some ⟨b, off, none⟩) len cap := by
  have h1 : Cell.ok P W .any b0 t v := by
    unfold Value.okWide at hval
    rw [ht] at hval
    dsimp only at hval
    unfold Cell.okWide at hval
    rw [ht] at hval
    cases v <;> exact hval
  unfold Cell.ok at h1
  rw [ht] at h1
  split at h1
  all_goals first
    | exact h1.elim
    | (rename_i h2; cases h2; done)
    | exact .inl rfl
    | (rename_i a len cap h2; obtain ⟨_, _, _, hs, _⟩ := h1; obtain ⟨b, off, sp⟩ := a; dsimp only at hs; subst hs; exact .inr ⟨b, off, len, cap, rfl⟩)
   
theorem open_slice {t e : TypeId} {b0 : Nat} {v : Value} {d : DataW H} {ps : List MemPlace} {m : Nat} {ks : List CK} (ht : P.underlying t = some (.slice e)) (hk : kindsT P m e = some ks) (hks : ks.length = P.cellsOf e) (hpos : 0 < ks.length)
    (hval : Value.okWide P W .any b0 t v) (hd : DataW.Trod enc P W 0 (fun _ => true) true t v d ps) (hw : (DataW.weights P t d).all (· ≤ reachBytes) = true) :
    ∃ (n : Nat) (u : Nat → Nat → Value), (∀ i, i < n → ∀ j k, ks[j]? = some k → CKok k (u i j)) ∧ Rep W G0 rho0 (fun b => b < W.heap.size) (.ro ks.length n fun i => mkRow ks 0 (u i)) v ∧ n * P.bytesOf e ≤ reachBytes := by
  have hcell : v.cells.toList = [v] := by
    rcases okWide_slice ht hval with rfl | ⟨b, off, len, cap, rfl⟩ <;> rfl
  obtain ⟨fuel, hf⟩ := hd
  rw [hcell] at hf
  rcases DataW.trod_slice ht hf with ⟨h0, _⟩ | ⟨a, len, cap, elems, rest, n, _, h0, hx, hb, hl, hm, hlen, hel, hsp, hns⟩
  · simp at h0
    subst h0
    exact ⟨0, fun _ _ => undef, fun i hi => absurd hi (Nat.not_lt_zero _), .ronil _ _, by simp⟩
  · simp at h0
    subst h0
    rcases okWide_slice ht hval with e0 | ⟨b, off, len', cap', e0⟩
    · cases e0
    cases e0
    have each : ∀ i, i < len → ∃ cs, AllCK ks cs ∧ cs.length = ks.length ∧ ∀ j, j < ks.length → W.cell? ⟨b, off + (i * ks.length + j), none⟩ = cs[j]? := by
      intro i hi
      have h1 := hel i hi
      rw [List.getElem?_eq_getElem (by omega), Option.bind_eq_some_iff] at h1
      obtain ⟨cs, h1, h2⟩ := h1
      have h3 := trod_plain hk h2
      obtain ⟨_, h4, h5⟩ := World.cells?_some h1
      refine ⟨cs, h3, h3.1, fun j hj => ?_⟩
      have := h5 j (by omega)
      rw [add_plain, add_plain] at this
      rw [← this, hks, Nat.add_assoc]
    have hchoice : ∃ u : Nat → Nat → Value, ∀ i, i < len → ∀ j k, ks[j]? = some k → W.cell? ⟨b, off + (i * ks.length + j), none⟩ = some (u i j) ∧ CKok k (u i j) := by
      refine ⟨fun i j => (W.cell? ⟨b, off + (i * ks.length + j), none⟩).getD undef, fun i hi j k hk' => ?_⟩
      obtain ⟨cs, h1, h2, h3⟩ := each i hi
      have hj : j < ks.length := (List.getElem?_eq_some_iff.1 hk').1
      have h4 := h3 j hj
      have h5 : cs[j]? = some cs[j] := List.getElem?_eq_getElem (by omega)
      rw [h5] at h4
      dsimp only
      rw [h4]
      exact ⟨rfl, h1.2 j k _ hk' h5⟩
    obtain ⟨u, hu⟩ := hchoice
    refine ⟨len, u, fun i hi j k hk' => (hu i hi j k hk').2, ?_, ?_⟩
    · have at' : ∀ j, j < ks.length → ∃ k, ks[j]? = some k := fun j hj => ⟨ks[j], List.getElem?_eq_getElem hj⟩
      refine .ro _ _ _ b off cap u hl ?_ ?_ ?_ ?_
      · intro hp
        obtain ⟨k, hk'⟩ := at' 0 hpos
        have := (hu 0 hp 0 k hk').1
        unfold World.cell? at this
        by_cases hlt : b < W.heap.size
        · exact hlt
        · have : W.heap[b]? = none := by simp; omega
          simp_all
      · intro i hi j hj
        obtain ⟨k, hk'⟩ := at' j hj
        exact (hu i hi j k hk').1
      · intro i hi j hj
        obtain ⟨k, hk'⟩ := at' j hj
        exact (hu i hi j k hk').2.one
      · intro i hi j hj
        obtain ⟨k, hk'⟩ := at' j hj
        rw [mkRow_get hk', Nat.zero_add]
        exact mkM_rep (hu i hi j k hk').2
    · simp only [Prod.mk.injEq] at hx
      rw [hx.1] at hw
      unfold DataW.weights at hw
      rw [ht] at hw
      simp only [List.all_cons, Bool.and_eq_true, decide_eq_true_eq, List.length_map] at hw
      refine Nat.le_trans (Nat.mul_le_mul_right _ ?_) hw.1
      omega
end
end Go.Ev

namespace Go.Ev
open Ieee
theorem nearest_zero (f : Format) (s : Bool) (place : Int) : f.nearest s 0 place = f.word s 0 := by unfold Format.nearest; simp
theorem read_kind (k : FloatKind) {x : Nat} (h : fin k x = true) : ∃ m e, k.format.read x = .number (neg k x) m (k.format.leastPlace + (e : Nat)) ∧ m * 2 ^ e = magOf k.format (rg k.format x) := read_fin _ x (of_decide_eq_true h)
theorem fin_not_nan {k : FloatKind} {x : Nat} (h : fin k x = true) : isNan k x = false := by
  rw [isNan_eq]; have := of_decide_eq_true h; simp; omega
theorem fsub_self {k : FloatKind} {x : Nat} (h : fin k x = true) : fsub k x x = 0 := by
  obtain ⟨m, e, h1, _⟩ := read_kind k h
  unfold fsub Format.sub
  rw [h1]
  simp only [Datum.opposite, Datum.sum]
  have ht : signed (neg k x) m (k.format.leastPlace + (e : Int) - min (k.format.leastPlace + (e : Int)) (k.format.leastPlace + e)).toNat + signed (!neg k x) m (k.format.leastPlace + (e : Int) - min (k.format.leastPlace + (e : Int)) (k.format.leastPlace + e)).toNat = 0 := by
    unfold signed
    cases neg k x <;> simp <;> omega
  rw [ht]
  simp only [if_true, Int.natAbs_zero, Option.map_some, Option.getD_some, Format.write]
  rw [nearest_zero]
  cases neg k x <;> rfl
theorem fsub_self_not {k : FloatKind} {x : Nat} (h : fin k x = false) : fsub k x x = qnan k := by
  have h' := of_decide_eq_false h
  unfold fsub Format.sub
  by_cases hi : rg k.format x = k.format.infRung
  · rw [read_inf _ x (k_le k) hi]
    simp only [Datum.opposite, Datum.sum]
    cases sgn k.format x <;> simp
  · have hn : isNan k x = true := by rw [isNan_eq]; simp; omega
    obtain ⟨s, t, e⟩ := read_nan hn
    rw [e]
    simp [Datum.sum]
theorem finite_eq (k : FloatKind) (x : Nat) : feq k (fsub k x x) 0 = fin k x := by
  cases h : fin k x
  · rw [fsub_self_not h]; cases k <;> decide
  · rw [fsub_self h]; cases k <;> decide
end Go.Ev

namespace Go.Ev
open Ieee
/-! ## Bits -/
theorem shr_nat (r s : Nat) (hs : s ≤ 64) : ishr .u64 (r : Int) (s : Int) = ((r / 2 ^ s : Nat) : Int) := by
  unfold ishr
  have : min (Int.toNat (s : Int)) IntKind.u64.bits = s := by
    show min (Int.toNat (s : Int)) 64 = s
    rw [Int.toNat_natCast]; omega
  rw [this]
  rw [Int.fdiv_eq_ediv_of_nonneg _ (Int.le_of_lt (Int.pow_pos (by decide)))]
  simp
theorem wrap_u64 (n : Nat) : IntKind.u64.wrap (n : Int) = ((n % 2 ^ 64 : Nat) : Int) := by
  show (if (false && decide ((n : Int) % (2 ^ 64 : Int) ≥ (2 ^ 63 : Int))) = true then (n : Int) % (2 ^ 64 : Int) - (2 ^ 64 : Int) else (n : Int) % (2 ^ 64 : Int)) = _
  simp
theorem shl_nat (r s : Nat) (hs : s ≤ 64) : ishl .u64 (r : Int) (s : Int) = ((r * 2 ^ s % 2 ^ 64 : Nat) : Int) := by
  unfold ishl
  have : min (Int.toNat (s : Int)) IntKind.u64.bits = s := by
    show min (Int.toNat (s : Int)) 64 = s
    rw [Int.toNat_natCast]; omega
  rw [this]
  have e : (r : Int) * 2 ^ s = ((r * 2 ^ s : Nat) : Int) := by simp
  rw [e, wrap_u64]
theorem and_nat (r t : Nat) (hr : r < 2 ^ 64) (ht : t < 2 ^ 64) : ibits .and .u64 (r : Int) (t : Int) = ((r &&& t : Nat) : Int) := by
  show IntKind.u64.wrap (((BitVec.ofInt 64 (r : Int) &&& BitVec.ofInt 64 (t : Int)).toNat : Nat) : Int) = _
  rw [wrap_u64]
  have e1 : (BitVec.ofInt 64 (r : Int)).toNat = r := by
    rw [BitVec.ofInt_natCast, BitVec.toNat_ofNat]; exact Nat.mod_eq_of_lt hr
  have e2 : (BitVec.ofInt 64 (t : Int)).toNat = t := by
    rw [BitVec.ofInt_natCast, BitVec.toNat_ofNat]; exact Nat.mod_eq_of_lt ht
  rw [BitVec.toNat_and, e1, e2, Nat.mod_eq_of_lt]
  exact Nat.lt_of_le_of_lt Nat.and_le_left hr
theorem and_2047 (r : Nat) : r &&& 2047 = r % 2048 := Nat.and_two_pow_sub_one_eq_mod r 11
end Go.Ev





namespace Go.Ev
/-! ## What is yielded: two lists of memory of their own -/
def fin1t (a b : Nat) : MV → MV → Prop
  | .os i s lo n, .os k s' lo' n' => Side (s = s' ∧ lo = lo' ∧ n = n' ∧ (k = 0 ∧ i = a ∨ k = 1 ∧ i = b))
  | .nils, .os k _ _ n => Side (n = 0 ∧ k ≤ 1)
  | .nils, .nils => True
  | .nilp, .nilp => True
  | .lb x, .b y => Side (x = y)
  | .b x, .b y => Side (x = y)
  | .i k n, .i k' n' => Side (k = k' ∧ n = n')
  | .f k x, .f k' y => Side (k = k' ∧ x = y)
  | _, .und => True
  | _, _ => False
def finLt (a b : Nat) : List MV → List MV → Prop
  | [], [] => True
  | x :: r, y :: s => fin1t a b x y ∧ finLt a b r s
  | _, _ => False
def rho2 (ρ : RhoT) (a b : Nat) : RhoT := fun i => match i with | 0 => ρ a | 1 => ρ b | _ + 2 => none
theorem fin1t_rep {a b : Nat} {m m' : MV} (h : fin1t a b m m') {w : World} {ρ : RhoT} {ok ok' : OkT} {v : Value} (r : Rep w G0 ρ ok m v) : Rep w G0 (rho2 ρ a b) ok' m' v := by
  unfold fin1t at h
  split at h
  · rename_i k _ _ _
    obtain ⟨rfl, rfl, rfl, hk⟩ := h.h
    cases r with
    | os id sz lo n blk cap off c T h1 h2 h3 h4 h5 =>
      have e : rho2 ρ a b k = some blk := by
        rcases hk with ⟨rfl, rfl⟩ | ⟨rfl, rfl⟩
        · exact h1
        · exact h1
      exact .os _ _ _ _ _ _ _ _ _ e h2 h3 h4 h5
    | osnil => exact .osnil _ _ _
  · obtain ⟨rfl, _⟩ := h.h; cases r; exact .osnil _ _ _
  · cases r; exact .nils
  · cases r; exact .nilp
  · have := h.h; subst this; cases r; exact .b _
  · have := h.h; subst this; cases r; exact .b _
  · obtain ⟨rfl, rfl⟩ := h.h; cases r; exact .i _ _
  · obtain ⟨rfl, rfl⟩ := h.h; cases r with | f _ _ _ h => exact .f _ _ _ h
  · exact .und _
  · exact h.elim
theorem finLt_spec {a b : Nat} : ∀ {l l' : List MV}, finLt a b l l' → l.length = l'.length ∧ ∀ j, j < l.length → fin1t a b (getM l j) (getM l' j)
  | [], [], _ => ⟨rfl, fun j hj => by simp at hj⟩
  | x :: r, y :: s, h => by
    obtain ⟨h1, h2⟩ := finLt_spec h.2
    refine ⟨by simp [h1], fun j hj => ?_⟩
    cases j with
    | zero => simpa [getM] using h.1
    | succ j => simpa [getM] using h2 j (by simpa using hj)
  | [], _ :: _, h => h.elim
  | _ :: _, [], h => h.elim
def isRows (H : List (Nat × Blk)) (id sz n : Nat) (g : Nat → List MV) : Prop := match look H id with
  | some (.rows s' n' g') => Side (s' = sz ∧ n' = n ∧ ∀ i, i < n → ∀ j, j < sz → getM (g' i) j = getM (g i) j)
  | _ => False
theorem isRows_ok {H : List (Nat × Blk)} {id sz n : Nat} {g : Nat → List MV} (h : isRows H id sz n g) {cx : Cx} {ρ ρ' : RhoT} {nx : Nat} {w : World} (hW : SatW cx ρ H nx w) {k : Nat} (hk : ρ' k = ρ id) (hok : ∀ b, okS cx ρ w b → okS cx ρ' w b) :
    BlkOK w ρ' (okS cx ρ' w) k (.rows sz n g) := by
  unfold isRows at h
  split at h
  · rename_i s' n' g' hl
    obtain ⟨rfl, rfl, hg⟩ := h.h
    rcases hW.blocks id _ hl with ⟨h1, h2⟩ | ⟨b, c, T, h1, h2, h3, h5, h4⟩
    · exact .inl ⟨h1, hk.trans h2⟩
    · refine .inr ⟨b, c, T, hk.trans h1, h2, h3, h5, fun i hi j hj => ?_⟩
      rw [← hg i hi j hj]
      exact (h4 i hi j hj).mono (Keeps.refl w) (fun _ _ _ e => e) (fun _ _ e => e) fun b hb => ⟨hok b hb, rfl⟩
  · exact h.elim
theorem FinS.two {S : St} {l l' : List MV} {sz n : Nat} {g : Nat → List MV} {sz' n' : Nat} {g' : Nat → List MV} (a b : Nat) (hab : Side (a ≠ b)) (hA : isRows S.H a sz n g) (hB : isRows S.H b sz' n' g') (hm : finLt a b l l') :
    FinS S (.tup l) (.tup l') [.rows sz n g, .rows sz' n' g'] := by
  have hab := hab.h
  refine ⟨fun cx ρ w v hW r => ?_⟩
  have hok : ∀ k, okS cx ρ w k → okS cx (rho2 ρ a b) w k := by
    intro k hk
    rcases hk with hk | hk
    · exact .inl hk
    · refine .inr ⟨hk.1, hk.2.1, fun i hi => ?_⟩
      match i, hi with
      | 0, hi => exact hk.2.2 a hi
      | 1, hi => exact hk.2.2 b hi
      | _ + 2, hi => cases hi
  refine ⟨rho2 ρ a b, ⟨hW.below, ?_, ?_, ?_, ?_, ?_, hW.okA⟩, ?_⟩
  · intro i j k h1 h2
    match i, j, h1, h2 with
    | 0, 0, _, _ => rfl
    | 1, 1, _, _ => rfl
    | 0, 1, h1, h2 => exact absurd (hW.inj a b k h1 h2) hab
    | 1, 0, h1, h2 => exact absurd (hW.inj a b k h2 h1) hab
    | _ + 2, _, h1, _ => cases h1
    | 0, _ + 2, _, h2 => cases h2
    | 1, _ + 2, _, h2 => cases h2
  · intro i k h
    match i, h with
    | 0, h => exact hW.rng a k h
    | 1, h => exact hW.rng b k h
    | _ + 2, h => cases h
  · intro i blk h
    simp only [idxH, look] at h
    split at h
    · rename_i e; have := Nat.eq_of_beq_eq_true e; subst this; simp
    · split at h
      · rename_i e; have := Nat.eq_of_beq_eq_true e; subst this; simp
      · cases h
  · intro i hi
    match i, hi with
    | 0, hi => simp at hi
    | 1, hi => simp at hi
    | _ + 2, hi => rfl
  · intro i blk h
    simp only [idxH, look] at h
    split at h
    · rename_i e
      have := Nat.eq_of_beq_eq_true e
      subst this
      cases h
      exact isRows_ok hA hW rfl hok
    · split at h
      · rename_i e
        have := Nat.eq_of_beq_eq_true e
        subst this
        cases h
        exact isRows_ok hB hW rfl hok
      · cases h
  · obtain ⟨h1, h2⟩ := finLt_spec hm
    cases r with
    | tup _ vs hl hr => exact .tup _ _ (h1.symm.trans hl) fun j hj => fin1t_rep (h2 j (by omega)) (hr j (by omega))
end Go.Ev

namespace Go.Ev
/-! ## Calls that write what they are handed: lists of the caller's own -/
structure CW (P : Program) (f : FuncId) (args : List MV) (blks : List Blk) (m : MV) : Prop where
  enters : Enters P f
  calls : ∀ (cx : Cx) (w : World) (ρ : RhoT) (vs : List Value), cx.w0 = w → SatW cx ρ (idxH 0 blks) blks.length w → RepL w G0 ρ (okS cx ρ w) args vs →
    Calls P f vs.toArray w fun e w' => ∃ v, e = .returned v ∧ BelowX cx.X w w' ∧ Rep w' G0 rho0 (fun _ => False) m v
theorem CW.of_ev {E : Env} (hE : EnvFull E) {f : FuncId} {fi : FnI} (hfn : FnOK E.P f fi) {args : List MV} {blks : List Blk} {m : MV} (hm : flatT m = true) (fuel : Nat) (hn : Nat.ble args.length fi.n = true)
    (h : ∀ cx, evC E (hnd E cx fuel) cx fi.n fi.body ⟨initF 0 args, [], idxH 0 blks, blks.length⟩ (finK E fi.res m [])) : CW E.P f args blks m := by
  refine ⟨hfn.enters, fun cx w ρ vs hw hW hr => ?_⟩
  subst hw
  have hn' : args.length ≤ fi.n := Nat.le_of_ble_eq_true hn
  have hlen := hr.len
  have h0 : SatR cx ⟨[], []⟩ fi.n G0 ⟨initF 0 args, [], idxH 0 blks, blks.length⟩ { tmps := vs.toArray ++ Array.replicate (fi.n - vs.toArray.size) undef, defers := [] } cx.w0 ρ := by
    refine ⟨hW, ⟨rfl, initA (by simp; omega), ?_⟩, trivial⟩
    intro s m hs
    obtain ⟨_, h2, h3⟩ := look_initF hs
    simp only [Nat.zero_add, Nat.sub_zero] at h2 h3
    have := hr.rep s h2
    rw [h3] at this
    refine ⟨vs.getD s undef, ?_, this⟩
    rw [Array.getElem?_append_left (by simp; omega)]
    simp only [List.getElem?_toArray, List.getD_eq_getElem?_getD]
    rw [List.getElem?_eq_getElem (by omega)]
    rfl
  refine (Calls.of_code hfn (R := fun v w' => BelowX cx.X cx.w0 w' ∧ Rep w' G0 rho0 (fun _ => False) m v) ?_).mono ?_
  · refine wp_mono (evC_sound hE.toEnvAll (hnd_sound hE fuel) (h cx) _ _ _ ⟨_, h0⟩) ?_
    rintro e a' w' ⟨ex, S', h1, h2, ρ, h3⟩
    unfold finK at h2
    split at h2
    · exact h2.elim
    · rename_i hx
      split at h2
      · exact h2.elim
      · rename_i l hl
        refine ⟨?_, h3.F.defers, fun fn hfn' => ?_⟩
        · cases e <;> cases ex <;> simp only [exitIs] at h1
          · exact .inl rfl
          · exact absurd rfl (hx _)
          · exact .inr rfl
        · obtain ⟨v, q1, q2⟩ := results_sound hE.toEnvOK h3 hfn' hl
          obtain ⟨ρ', s1, s2⟩ := (forceM_eq h2).ok _ ρ w' v h3.W q2
          exact ⟨v, q1, s1.below, flatT_any hm s2⟩
  · rintro e w' ⟨v, rfl, s1, s2⟩
    exact ⟨v, rfl, s1, s2⟩
theorem BlkOK.rows_ok {w : World} {ρ ρ' : RhoT} {ok ok' : OkT} {id k s n n0 : Nat} {g : Nat → List MV} (h : BlkOK w ρ ok id (.rows s n0 g)) (hn : n ≤ n0) (he : ρ' k = ρ id) (hok : ∀ b, ok b → ok' b) : BlkOK w ρ' ok' k (.rows s n g) := by
  rcases h with ⟨h1, h2⟩ | ⟨b, c, T, h1, h2, h3, h5, h4⟩
  · exact .inl ⟨by omega, he.trans h2⟩
  · have hle : n * s ≤ n0 * s := Nat.mul_le_mul_right _ hn
    exact .inr ⟨b, c, T, he.trans h1, h2, by omega, fun j hj => h5 j (by omega), fun i hi j hj => (h4 i (by omega) j hj).mono (Keeps.refl w) (fun _ _ _ e => e) (fun _ _ e => e) fun b hb => ⟨hok b hb, rfl⟩⟩
theorem CW.of_genQ {P : Program} {exts : List (Nat × XK)} {eqs inl : List Nat} {sum : FuncId → List MV → Option (List Prop × MV × List Blk × Bool)} (hx : ∀ f k, look exts f = some k → ExtOK P f k) (hq : eqsB P eqs = true) (hs : SumsOK P sum)
    {f : FuncId} {fi : FnI} (hf : fnGen P f = some fi) {args : List MV} {blks : List Blk} {m : MV} (hm : flatT m = true) (fuel : Nat) (hn : Nat.ble args.length fi.n = true)
    (h : ∀ cx, evC (genQ P exts eqs inl sum) (hnd (genQ P exts eqs inl sum) cx fuel) cx fi.n fi.body ⟨initF 0 args, [], idxH 0 blks, blks.length⟩ (finK (genQ P exts eqs inl sum) fi.res m [])) : CW P f args blks m :=
  CW.of_ev (E := genQ P exts eqs inl sum) (genQ_full hx hq hs) (fnGen_ok hf) hm fuel hn h
theorem i64_wrap {n : Int} (h1 : -9223372036854775808 ≤ n) (h2 : n < 9223372036854775808) : IntKind.i64.wrap n = n := by
  show (if (true && decide (n % (18446744073709551616 : Int) ≥ (9223372036854775808 : Int))) = true then n % (18446744073709551616 : Int) - (18446744073709551616 : Int) else n % (18446744073709551616 : Int)) = n
  split <;> simp at * <;> omega
end Go.Ev

namespace Go.Ev
/-! ## Less is known, in steps; loops with facts beside their states; lists that are not written any more -/
structure Le (cx : Cx) (n : Nat) (S T : St) : Prop where
  ok : ∀ su a w, Sat cx su n G0 S a w → Sat cx su n G0 T a w
theorem Le.of {cx : Cx} {n : Nat} {S T : St} (h : leS S T) : Le cx n S T := ⟨fun _ _ _ hs => leS_sat h hs⟩
theorem Le.phan {cx : Cx} {n : Nat} {S T : St} (sz : Nat) (h : Le cx n (phanS sz S) T) : Le cx n S T :=
  ⟨fun su a w hs => by
    obtain ⟨F, stk, H, nx⟩ := S
    exact h.ok su a w (hs.phan sz _)⟩
end Go.Ev

namespace Go.Ev
end Go.Ev

namespace Go.Ev
/-! ## Contracts whose answer lies in a list of its own, of numbers alone: nothing of what was handed over lies in it -/
def ownA : MV → Bool
  | .os _ _ _ _ => true
  | .oc _ _ _ _ => true
  | m => flatM m
def ownAs : List MV → Bool
  | [] => true
  | m :: r => match ownA m with
    | true => ownAs r
    | false => false
def ownT : MV → Bool
  | .tup l => ownAs l
  | m => ownA m
theorem ownA_any {m : MV} (h : ownA m = true) {w : World} {G G' : GT} {ρ : RhoT} {ok ok' : OkT} {v : Value} (r : Rep w G ρ ok m v) : Rep w G' ρ ok' m v := by
  unfold ownA at h
  split at h
  · cases r with
    | os _ _ _ _ blk cap off c T h1 h2 h3 h4 h5 => exact .os _ _ _ _ _ _ _ _ _ h1 h2 h3 h4 h5
    | osnil => exact .osnil _ _ _
  · cases r with
    | oc _ _ _ _ blk cap off c T h1 h2 h3 h4 h5 h6 => exact .oc _ _ _ _ _ _ _ _ _ h1 h2 h3 h4 h5 h6
    | ocnil => exact .ocnil _ _
  · exact flatM_any h r
theorem ownAs_spec : ∀ {l : List MV}, ownAs l = true → ∀ j, j < l.length → ownA (getM l j) = true
  | [], _, j, hj => by simp at hj
  | m :: r, h, j, hj => by
    unfold ownAs at h
    split at h
    · rename_i h1
      cases j with
      | zero => simpa [getM] using h1
      | succ j => simpa [getM] using ownAs_spec h j (by simpa using hj)
    · cases h
theorem ownT_any {m : MV} (h : ownT m = true) {w : World} {G G' : GT} {ρ : RhoT} {ok ok' : OkT} {v : Value} (r : Rep w G ρ ok m v) : Rep w G' ρ ok' m v := by
  unfold ownT at h
  split at h
  · cases r with
    | tup _ vs hl hr => exact .tup _ _ hl fun j hj => ownA_any (ownAs_spec h j hj) (hr j hj)
  · exact ownA_any h r
theorem CM.aloneR {P : Program} {f : FuncId} {args : List MV} {m : MV} {sz n : Nat} {g : Nat → List MV} {al : Bool} (h : CM P f args m [.rows sz n g] al) (hm : ownT m = true)
    (hg : ∀ i, i < n → ∀ j, j < sz → flatM (getM (g i) j) = true) : CM P f args m [.rows sz n g] false := by
  refine ⟨h.enters, fun w okA vs hA hr => (h.calls w okA vs hA hr).mono ?_⟩
  rintro e w' ⟨v, ρ', rfl, hW, hR⟩
  refine ⟨v, ρ', rfl, ⟨hW.below, hW.inj, hW.rng, hW.hlt, hW.nx, fun id blk hl => ?_, fun b hb => absurd hb.1 (by simp)⟩, ownT_any hm hR⟩
  have hb := hW.blocks id blk hl
  simp only [idxH, look] at hl
  split at hl
  · cases hl
    rcases hb with ⟨h1, h2⟩ | ⟨b, c, T, h1, h2, h3, h5, h4⟩
    · exact .inl ⟨h1, h2⟩
    · exact .inr ⟨b, c, T, h1, h2, h3, h5, fun i hi j hj => flatM_any (hg i hi j hj) (h4 i hi j hj)⟩
  · cases hl
end Go.Ev

namespace Go.Ev
/-! ## A long row of regions, cut in two: between them the state is told anew -/
def takeS : Nat → Code → Code
  | 0, _ => .skip
  | k + 1, .seq a b => .seq a (takeS k b)
  | _ + 1, c => c
def dropS : Nat → Code → Code
  | 0, c => c
  | k + 1, .seq _ b => dropS k b
  | _ + 1, _ => .skip
def rowS : Nat → Code → Bool
  | 0, _ => true
  | k + 1, .seq _ b => rowS k b
  | _ + 1, _ => false
def cutK (cx : Cx) (n : Nat) (T : St) (K : Ex → St → Prop) : Ex → St → Prop := fun e S' => match e with
  | .normal => Le cx n S' T
  | .ret => K .ret S'
  | .exit j => K (.exit j) S'
theorem CodeOK.cut {E : Env} (hE : EnvAll E) {cx : Cx} {call : CallT} (hcall : CallH E.P cx call) {n : Nat} {T : St} {K : Ex → St → Prop} : ∀ (k : Nat) {c : Code} {S : St}, rowS k c = true → evC E call cx n (takeS k c) S (cutK cx n T K) →
    CodeOK E.P cx n (dropS k c) T K → CodeOK E.P cx n c S K
  | 0, c, S, _, h1, h2 => fun su a w hs => h2 su a w (Le.ok (S := S) (T := T) h1 su a w hs)
  | k + 1, c, S, hr, h1, h2 => by
    cases c with
    | seq x y =>
      have h1 : evC E call cx n x S (fun e S' => match e with
        | .normal => evC E call cx n (takeS k y) S' (cutK cx n T K)
        | .ret => cutK cx n T K .ret S'
        | .exit j => cutK cx n T K (.exit j) S') := h1
      intro su a w hs
      refine wp_seq (wp_mono (evC_sound hE hcall h1 su a w hs) ?_)
      rintro e a' w' ⟨ex, S', q1, q2, q3⟩
      cases e <;> cases ex <;> simp only [exitIs] at q1 <;> simp only [Exit.then]
      · exact CodeOK.cut hE hcall k (c := y) hr q2 h2 su a' w' q3
      · subst q1; exact ⟨.exit _, S', rfl, q2, q3⟩
      · exact ⟨.ret, S', trivial, q2, q3⟩
    | _ => cases hr
end Go.Ev

namespace Go.Ev
/-! ## Parts of functions, apart: rows, blocks and loops whose body is shown in parts -/
theorem CodeOK.seq {P : Program} {cx : Cx} {n : Nat} {x y : Code} {S : St} {K : Ex → St → Prop} (h : CodeOK P cx n x S (fun e S' => match e with
      | .normal => Rest (CodeOK P cx n y S' K)
      | .ret => K .ret S'
      | .exit j => K (.exit j) S')) : CodeOK P cx n (.seq x y) S K := fun su a w hs => by
  refine wp_seq (wp_mono (h su a w hs) ?_)
  rintro e a' w' ⟨ex, S', q1, q2, q3⟩
  cases e <;> cases ex <;> simp only [exitIs] at q1 <;> simp only [Exit.then]
  · exact q2.ok su a' w' q3
  · subst q1; exact ⟨.exit _, S', rfl, q2, q3⟩
  · exact ⟨.ret, S', trivial, q2, q3⟩
theorem CodeOK.block {P : Program} {cx : Cx} {n id : Nat} {c : Code} {S : St} {K : Ex → St → Prop} (h : CodeOK P cx n c S (fun e S' => match e with
      | .exit j => match Nat.beq j id with
        | true => K .normal S'
        | false => K (.exit j) S'
      | .ret => K .ret S'
      | .normal => K .normal S')) : CodeOK P cx n (.block id c) S K := fun su a w hs => by
  refine wp_block (wp_mono (h su a w hs) ?_)
  rintro e a' w' ⟨ex, S', q1, q2, q3⟩
  cases e <;> cases ex <;> simp only [exitIs] at q1
  · exact ⟨.normal, S', trivial, q2, q3⟩
  · rename_i j j'
    subst q1
    unfold Exit.inBlock
    dsimp only at q2 ⊢
    cases e : Nat.beq j id
    · rw [e] at q2
      rw [if_neg (fun h => by subst h; simp at e)]
      exact ⟨.exit _, S', rfl, q2, q3⟩
    · rw [e] at q2
      have e := Nat.eq_of_beq_eq_true e
      rw [if_pos e]
      exact ⟨.normal, S', trivial, q2, q3⟩
  · exact ⟨.ret, S', trivial, q2, q3⟩
end Go.Ev

namespace Go.Ev
/-! ## Calls that turn one list of the caller's own, and tell how -/
structure CU (P : Program) (f : FuncId) (sz n : Nat) (g g' : Nat → List MV) (rest : List MV) : Prop where
  enters : Enters P f
  flat : ∀ i, i < n → ∀ j, j < sz → flatM (getM (g' i) j) = true
  calls : ∀ (cx : Cx) (w : World) (ρ : RhoT) (vs : List Value), cx.w0 = w → SatW cx ρ [(0, .rows sz n g)] 1 w → RepL w G0 ρ (okS cx ρ w) (.os 0 sz 0 n :: rest) vs →
    Calls P f vs.toArray w fun e w' => ∃ v, e = .returned v ∧ BelowX cx.X w w' ∧ BlkOK w' ρ (fun _ => False) 0 (.rows sz n g') ∧ Rep w' G0 rho0 (fun _ => False) (.tup []) v
def finU (sz n : Nat) (g' : Nat → List MV) : Ex → St → Prop := fun ex S => match ex with
  | .exit _ => False
  | _ => match S with
    | ⟨_, stk, H, _⟩ => match look H 0 with
      | some (.rows s' n' gg) => Side (stk = [[(0, .os 0 sz 0 n)]] ∧ s' = sz ∧ n' = n ∧ ∀ i, i < n → ∀ j, j < sz → getM (gg i) j = getM (g' i) j)
      | _ => False
theorem ghost_blk {w w' : World} (hk : Keeps w w') {ρ ρ' : RhoT} {ok ok' : OkT} {sz n : Nat} {g g' gg : Nat → List MV} {v : Value}
    (hb0 : BlkOK w ρ ok 0 (.rows sz n g)) (r0 : Rep w G0 ρ ok (.os 0 sz 0 n) v) (hb : BlkOK w' ρ' ok' 0 (.rows sz n gg)) (r1 : Rep w' G0 ρ' ok' (.os 0 sz 0 n) v)
    (hfl : ∀ i, i < n → ∀ j, j < sz → flatM (getM (g' i) j) = true) (hgg : ∀ i, i < n → ∀ j, j < sz → getM (gg i) j = getM (g' i) j) : BlkOK w' ρ (fun _ => False) 0 (.rows sz n g') := by
  by_cases h0 : n = 0
  · subst h0
    rcases hb0 with ⟨_, h⟩ | ⟨b, c, T, h1, h2, _⟩
    · exact .inl ⟨rfl, h⟩
    · obtain ⟨c', hc', _⟩ := hk _ _ _ _ h2
      exact .inr ⟨b, c', T, h1, hc', by simp, fun j hj => by simp at hj, fun i hi => absurd hi (Nat.not_lt_zero _)⟩
  · rcases hb with ⟨h, _⟩ | ⟨b, c, T, h1, h2, h3, h5, h4⟩
    · exact absurd h h0
    · cases r0 with
      | osnil => exact absurd rfl h0
      | os _ _ _ _ blk cap off c0 T0 e1 =>
        cases r1 with
        | os _ _ _ _ _ _ _ c1 T1 e2 =>
          rw [e2] at h1
          have h1 := Option.some.inj h1
          subst h1
          exact .inr ⟨blk, c, T, e1, h2, h3, h5, fun i hi j hj => by rw [← hgg i hi j hj]; exact flatM_any (by rw [hgg i hi j hj]; exact hfl i hi j hj) (h4 i hi j hj)⟩
theorem CU.of_code {E : Env} (hE : EnvAll E) {f : FuncId} {fi : FnI} (hfn : FnOK E.P f fi) (hres : fi.res = []) {sz n : Nat} {g g' : Nat → List MV} {rest : List MV} (hfl : ∀ i, i < n → ∀ j, j < sz → flatM (getM (g' i) j) = true)
    (hn : Nat.ble (rest.length + 1) fi.n = true)
    (h : ∀ cx, CodeOK E.P cx fi.n fi.body ⟨initF 0 (.os 0 sz 0 n :: rest), [[(0, .os 0 sz 0 n)]], [(0, .rows sz n g)], 1⟩ (finU sz n g')) : CU E.P f sz n g g' rest := by
  refine ⟨hfn.enters, hfl, fun cx w ρ vs hw hW hr => ?_⟩
  subst hw
  have hn' : rest.length + 1 ≤ fi.n := Nat.le_of_ble_eq_true hn
  have hlen := hr.len
  have hlen' : rest.length + 1 = vs.length := by simpa using hlen
  have r0 : Rep cx.w0 G0 ρ (okS cx ρ cx.w0) (.os 0 sz 0 n) (vs.getD 0 undef) := by simpa [getM] using hr.rep 0 (by simp)
  have hg : FrOK cx.w0 G0 ρ (okS cx ρ cx.w0) [(0, .os 0 sz 0 n)] { tmps := vs.toArray, defers := [] } := by
    intro s m hs
    simp only [look] at hs
    split at hs
    · rename_i e
      have := Nat.eq_of_beq_eq_true e
      subst this
      cases hs
      refine ⟨vs.getD 0 undef, ?_, r0⟩
      simp only [List.getElem?_toArray, List.getD_eq_getElem?_getD]
      rw [List.getElem?_eq_getElem (by omega)]
      rfl
    · cases hs
  have h0 : SatR cx ⟨[{ tmps := vs.toArray, defers := [] }], [G0]⟩ fi.n G0 ⟨initF 0 (.os 0 sz 0 n :: rest), [[(0, .os 0 sz 0 n)]], [(0, .rows sz n g)], 1⟩ { tmps := vs.toArray ++ Array.replicate (fi.n - vs.toArray.size) undef, defers := [] } cx.w0 ρ := by
    refine ⟨hW, ⟨rfl, initA (by simp; omega), ?_⟩, ⟨hg, trivial⟩⟩
    intro s m hs
    obtain ⟨_, h2, h3⟩ := look_initF hs
    simp only [Nat.zero_add, Nat.sub_zero] at h2 h3
    have := hr.rep s h2
    rw [h3] at this
    refine ⟨vs.getD s undef, ?_, this⟩
    have h2' : s < rest.length + 1 := by simpa using h2
    rw [Array.getElem?_append_left (by simp; omega)]
    simp only [List.getElem?_toArray, List.getD_eq_getElem?_getD]
    rw [List.getElem?_eq_getElem (by omega)]
    rfl
  refine (Calls.of_code hfn (R := fun v w' => BelowX cx.X cx.w0 w' ∧ BlkOK w' ρ (fun _ => False) 0 (.rows sz n g') ∧ Rep w' G0 rho0 (fun _ => False) (.tup []) v) ?_).mono ?_
  · refine wp_mono (h cx _ _ _ ⟨_, h0⟩) ?_
    rintro e a' w' ⟨ex, S', h1, h2, ρ', h3⟩
    unfold finU at h2
    split at h2
    · exact h2.elim
    · rename_i hx
      obtain ⟨F', stk', H', nx'⟩ := S'
      dsimp only at h2
      split at h2
      · rename_i s' n' gg hl
        obtain ⟨rfl, rfl, rfl, hgg⟩ := h2.h
        refine ⟨?_, h3.F.defers, fun fn hfn' => ?_⟩
        · cases e <;> cases ex <;> simp only [exitIs] at h1
          · exact .inl rfl
          · exact absurd rfl (hx _)
          · exact .inr rfl
        · obtain ⟨v, q1, q2⟩ := results_sound hE.toEnvOK h3 (rs := []) (by rw [hfn', hres]) rfl
          refine ⟨v, q1, h3.W.below, ?_, flatT_any rfl q2⟩
          obtain ⟨v1, e1, r1⟩ := h3.K.1 0 _ rfl
          have e2 : v1 = vs.getD 0 undef := by
            have e1 : vs.toArray[0]? = some v1 := e1
            rw [List.getElem?_toArray] at e1
            rw [List.getD_eq_getElem?_getD, e1]; rfl
          subst e2
          exact ghost_blk h3.W.below.keeps (hW.blocks 0 _ rfl) r0 (h3.W.blocks 0 _ hl) r1 hfl hgg
      · exact h2.elim
  · rintro e w' ⟨v, rfl, s1, s2, s3⟩
    exact ⟨v, rfl, s1, s2, s3⟩
/-! ### What goes with the list: numbers, and functions whose captures are only read -/
def viewC (H : List (Nat × Blk)) : MV → Option MV
  | .p id off => match look H id with
    | some (.cells l) => match allF l with
      | true => some (.rp (dropM l off))
      | false => none
    | _ => none
  | .rp c => some (.rp c)
  | .ro s n g => some (.ro s n g)
  | .lb x => some (.b x)
  | .b x => some (.b x)
  | .i k n => some (.i k n)
  | .f k x => some (.f k x)
  | .nils => some .nils
  | .nilp => some .nilp
  | _ => none
def viewCL (H : List (Nat × Blk)) : List MV → Option (List MV)
  | [] => some []
  | m :: r => match viewC H m with
    | none => none
    | some m' => match viewCL H r with
      | none => none
      | some r' => some (m' :: r')
def viewU (H : List (Nat × Blk)) : MV → Option MV
  | .fn f a c => match viewCL H a with
    | none => none
    | some a' => match viewCL H c with
      | none => none
      | some c' => some (.fn f a' c')
  | m => viewC H m
def viewUL (H : List (Nat × Blk)) : List MV → Option (List MV)
  | [] => some []
  | m :: r => match viewU H m with
    | none => none
    | some m' => match viewUL H r with
      | none => none
      | some r' => some (m' :: r')
structure VwOK (cx : Cx) (ρ : RhoT) (H H' : List (Nat × Blk)) (w : World) (ok' : OkT) : Prop where
  ok : ∀ b, okS cx ρ w b → ok' b
  own : ∀ k blk b, look H' k = some blk → ρ k = some b → ok' b
  sub : ∀ k blk, look H' k = some blk → look H k = some blk
theorem viewC_sound {cx : Cx} {ρ : RhoT} {H H' : List (Nat × Blk)} {nx : Nat} {w : World} {ok' : OkT} (hW : SatW cx ρ H nx w) (hv : VwOK cx ρ H H' w ok') {m m' : MV} (h : viewC H' m = some m') {G : GT} {v : Value} (r : Rep w G ρ (okS cx ρ w) m v) : Rep w G0 rho0 ok' m' v := by
  have up : ∀ {m : MV} {v : Value}, Rep w G0 rho0 (okS cx ρ w) m v → Rep w G0 rho0 ok' m v := fun r => r.mono (Keeps.refl w) (fun _ _ _ e => e) (fun _ _ e => e) (fun b hb => ⟨hv.ok b hb, rfl⟩)
  unfold viewC at h
  split at h
  · rename_i id off
    split at h
    · rename_i l hl
      split at h
      · rename_i ha
        cases h
        obtain ⟨b, c, T, h1, h2, h3, h5, h4⟩ := hW.blocks _ _ (hv.sub _ _ hl)
        cases r with
        | p _ _ blk hρ =>
          obtain rfl : b = blk := by rw [hρ] at h1; exact (Option.some.inj h1).symm
          have hd := dropM_spec l off
          refine .rp _ b off (fun j => c.getD (off + j) undef) (fun _ => hv.own _ _ _ hl hρ) (fun j hj => cell?_cells h2 (by omega)) (fun j hj => h5 _ (by omega)) (fun j hj => ?_)
          rw [hd.2]
          exact up (flat1_spec (allF_spec ha (off + j) (by omega)) (h4 (off + j) (by omega))).1
      · cases h
    · cases h
  · cases h; cases r with
    | rp _ blk off u h1 h2 h3 h4 => exact .rp _ _ _ _ (fun hp => hv.ok _ (h1 hp)) h2 h3 (fun j hj => up (h4 j hj))
  · cases h; cases r with
    | ro _ _ _ blk off cap u h1 h2 h3 h4 h5 => exact .ro _ _ _ _ _ _ _ h1 (fun hp => hv.ok _ (h2 hp)) h3 h4 (fun i hi j hj => up (h5 i hi j hj))
    | ronil => exact .ronil _ _
  · cases h; cases r; exact .b _
  · cases h; cases r; exact .b _
  · cases h; cases r; exact .i _ _
  · cases h; cases r with
    | f _ _ _ hh => exact .f _ _ _ hh
  · cases h; cases r; exact .nils
  · cases h; cases r; exact .nilp
  · cases h
theorem viewCL_sound {cx : Cx} {ρ : RhoT} {H H' : List (Nat × Blk)} {nx : Nat} {w : World} {ok' : OkT} (hW : SatW cx ρ H nx w) (hv : VwOK cx ρ H H' w ok') {G : GT} : ∀ {l l' : List MV}, viewCL H' l = some l' →
    l'.length = l.length ∧ ∀ {vs : Nat → Value}, (∀ j, j < l.length → Rep w G ρ (okS cx ρ w) (getM l j) (vs j)) → ∀ j, j < l.length → Rep w G0 rho0 ok' (getM l' j) (vs j)
  | [], l', h => by cases h; simp
  | m :: r, l', h => by
    unfold viewCL at h
    split at h
    · cases h
    · rename_i m' hm
      split at h
      · cases h
      · rename_i r' hr
        cases h
        obtain ⟨q1, q2⟩ := viewCL_sound hW hv (G := G) hr
        refine ⟨by simp [q1], fun {vs} hvs j hj => ?_⟩
        cases j with
        | zero => simpa [getM] using viewC_sound hW hv hm (by simpa [getM] using hvs 0 (by simp))
        | succ j =>
          have := q2 (vs := fun j => vs (j + 1)) (fun j hj => by simpa [getM] using hvs (j + 1) (by simpa using hj)) j (by simpa using hj)
          simpa [getM] using this
theorem viewU_sound {cx : Cx} {ρ : RhoT} {H H' : List (Nat × Blk)} {nx : Nat} {w : World} {ok' : OkT} (hW : SatW cx ρ H nx w) (hv : VwOK cx ρ H H' w ok') {m m' : MV} (h : viewU H' m = some m') {G : GT} {v : Value} (r : Rep w G ρ (okS cx ρ w) m v) : Rep w G0 rho0 ok' m' v := by
  unfold viewU at h
  split at h
  · split at h
    · cases h
    · rename_i a' ha
      split at h
      · cases h
      · rename_i c' hc
        cases h
        cases r with
        | fn _ _ _ vs us hl hm h1 h2 =>
          obtain ⟨q1, q2⟩ := viewCL_sound hW hv (G := G) ha
          obtain ⟨q3, q4⟩ := viewCL_sound hW hv (G := G) hc
          exact .fn _ _ _ _ _ (q1.trans hl) (q3.trans hm) (fun j hj => q2 h1 j (by omega)) (fun j hj => q4 h2 j (by omega))
  · exact viewC_sound hW hv h r
theorem viewUL_sound {cx : Cx} {ρ : RhoT} {H H' : List (Nat × Blk)} {nx : Nat} {w : World} {ok' : OkT} (hW : SatW cx ρ H nx w) (hv : VwOK cx ρ H H' w ok') {G : GT} : ∀ {l l' : List MV}, viewUL H' l = some l' →
    l'.length = l.length ∧ ∀ {vs : Nat → Value}, (∀ j, j < l.length → Rep w G ρ (okS cx ρ w) (getM l j) (vs j)) → ∀ j, j < l.length → Rep w G0 rho0 ok' (getM l' j) (vs j)
  | [], l', h => by cases h; simp
  | m :: r, l', h => by
    unfold viewUL at h
    split at h
    · cases h
    · rename_i m' hm
      split at h
      · cases h
      · rename_i r' hr
        cases h
        obtain ⟨q1, q2⟩ := viewUL_sound hW hv (G := G) hr
        refine ⟨by simp [q1], fun {vs} hvs j hj => ?_⟩
        cases j with
        | zero => simpa [getM] using viewU_sound hW hv hm (by simpa [getM] using hvs 0 (by simp))
        | succ j =>
          have := q2 (vs := fun j => vs (j + 1)) (fun j hj => by simpa [getM] using hvs (j + 1) (by simpa using hj)) j (by simpa using hj)
          simpa [getM] using this
theorem callU_sound {P : Program} {f : FuncId} {sz n : Nat} {g g' : Nat → List MV} {rest : List MV} (hf : CU P f sz n g g' rest) {cx : Cx} {su : Sus} {nn : Nat} {G : GT} {S : St} {a : Act} {w : World} {ρ : RhoT} (h : SatR cx su nn G S a w ρ) {id n0 : Nat}
    (hl : look S.H id = some (.rows sz n0 g)) (hn : n ≤ n0) {ms : List MV} (hv : viewUL (del S.H id) ms = some rest) {vs : List Value} (hr : RepL w G ρ (okS cx ρ w) (.os id sz 0 n :: ms) vs) :
    CallGood P f vs w fun v w' => SatR cx su nn G { S with H := putL S.H id (.rows sz n g') } a w' ρ ∧ Rep w' G ρ (okS cx ρ w') (.tup []) v := by
  right
  refine ⟨hf.enters _ _, ?_⟩
  let X : Nat → Prop := fun b => ρ id = some b
  let ok' : OkT := fun b => b < w.heap.size ∧ ¬ X b
  let ρ1 : RhoT := fun j => match j with
    | 0 => ρ id
    | _ + 1 => none
  have hnX : ∀ b, okS cx ρ w b → ¬ X b := by
    intro b hb hx
    rcases hb with hb | hb
    · have q1 := h.W.okA b hb
      rcases (h.W.rng id b hx).2 with q | q
      · have := q1.1; omega
      · exact q1.2 q
    · exact hb.2.2 id hx
  have hvw : VwOK cx ρ S.H (del S.H id) w ok' := by
    refine ⟨fun b hb => ⟨okS_lt h.W hb, hnX b hb⟩, fun k blk b hk hb => ⟨(h.W.rng k b hb).1, fun hx => ?_⟩, fun k blk hk => ?_⟩
    · rw [look_del] at hk
      split at hk
      · cases hk
      · rename_i hne; exact hne (h.W.inj k id b hb hx)
    · rw [look_del] at hk
      split at hk
      · cases hk
      · exact hk
  have hok : ∀ b, ok' b → okS ⟨w, X, ok'⟩ ρ1 w b := fun b hb => .inl hb
  have hsat : SatW ⟨w, X, ok'⟩ ρ1 [(0, .rows sz n g)] 1 w := by
    refine ⟨BelowX.refl _ _, ?_, ?_, ?_, ?_, ?_, ?_⟩
    · intro i j b hi hj
      cases i <;> cases j <;> simp_all [ρ1]
    · intro i b hi
      cases i with
      | zero => exact ⟨(h.W.rng id b hi).1, .inr hi⟩
      | succ i => cases hi
    · intro k blk hk
      simp only [look] at hk
      split at hk
      · rename_i e; have := Nat.eq_of_beq_eq_true e; subst this; simp
      · cases hk
    · intro i hi
      cases i with
      | zero => simp at hi
      | succ i => rfl
    · intro k blk hk
      simp only [look] at hk
      split at hk
      · rename_i e
        have := Nat.eq_of_beq_eq_true e
        subst this
        cases hk
        exact (h.W.blocks id _ hl).rows_ok hn rfl (fun b hb => .inl ⟨okS_lt h.W hb, hnX b hb⟩)
      · cases hk
    · intro b hb; exact hb
  have hargs : RepL w G0 ρ1 (okS ⟨w, X, ok'⟩ ρ1 w) (.os 0 sz 0 n :: rest) vs := by
    obtain ⟨q1, q2⟩ := viewUL_sound h.W hvw (G := G) hv
    have hlen := hr.len
    refine ⟨by simpa [q1] using hlen, fun j hj => ?_⟩
    cases j with
    | zero =>
      have r0 := hr.rep 0 (by simp)
      have e0 : getM (.os id sz 0 n :: ms) 0 = .os id sz 0 n := rfl
      have e1 : getM (.os 0 sz 0 n :: rest) 0 = .os 0 sz 0 n := rfl
      rw [e0] at r0
      rw [e1]
      generalize vs.getD 0 undef = v at r0
      cases r0 with
      | os _ _ _ _ blk cap off c T h1 h2 h3 h4 h5 => exact .os _ _ _ _ _ _ _ _ _ h1 h2 h3 h4 h5
      | osnil => exact .osnil _ _ _
    | succ j =>
      have hj' : j < ms.length := by simp [q1] at hj; exact hj
      have := q2 (vs := fun j => vs.getD (j + 1) undef) (fun j hj => by simpa [getM] using hr.rep (j + 1) (by simpa using hj)) j hj'
      have := this.mono (Keeps.refl w) (G' := G0) (ρ' := ρ1) (ok' := okS ⟨w, X, ok'⟩ ρ1 w) (fun _ _ _ e => e) (fun _ _ e => by cases e) (fun b hb => ⟨hok b hb, rfl⟩)
      simpa [getM] using this
  refine (hf.calls ⟨w, X, ok'⟩ w ρ1 vs rfl hsat hargs).mono ?_
  rintro e w' ⟨v, rfl, hb, hbk, hm⟩
  have hb : BelowX X w w' := hb
  have hkeep : ∀ b, b < w.heap.size → ¬ X b → w'.heap[b]? = w.heap[b]? := fun b h1 h2 => hb.block b h1 h2
  have hok1 : ∀ b, okS cx ρ w b → okS cx ρ w' b ∧ w'.heap[b]? = w.heap[b]? := by
    intro b hb'
    refine ⟨?_, hkeep b (okS_lt h.W hb') (hnX b hb')⟩
    rcases hb' with q | q
    · exact .inl q
    · exact .inr ⟨q.1, Nat.lt_of_lt_of_le q.2.1 hb.size, q.2.2⟩
  refine ⟨v, rfl, ⟨⟨?_, h.W.inj, ?_, ?_, h.W.nx, ?_, h.W.okA⟩, ⟨h.F.defers, h.F.size, h.F.frame.mono hb.keeps (fun _ _ _ e => e) (fun _ _ e => e) hok1⟩, h.K.mono hb.keeps (fun _ _ e => e) hok1⟩, ?_⟩
  · have ho := h.W.below
    refine ⟨hb.os.trans ho.os, hb.tape.trans ho.tape, hb.output.trans ho.output, Nat.le_trans ho.size hb.size, fun k hk hx => ?_, ho.keeps.trans hb.keeps⟩
    refine (hkeep k (Nat.lt_of_lt_of_le hk ho.size) fun hX' => ?_).trans (ho.block k hk hx)
    rcases (h.W.rng id k hX').2 with q | q
    · omega
    · exact hx q
  · intro i b hi
    have := h.W.rng i b hi
    exact ⟨Nat.lt_of_lt_of_le this.1 hb.size, this.2⟩
  · intro k blk hk
    replace hk : look (putL S.H id (.rows sz n g')) k = some blk := hk
    rw [look_put] at hk
    split at hk
    · rename_i e; subst e; exact h.W.hlt _ _ hl
    · exact h.W.hlt _ _ hk
  · intro k blk hk
    replace hk : look (putL S.H id (.rows sz n g')) k = some blk := hk
    rw [look_put] at hk
    split at hk
    · rename_i e
      subst e
      cases hk
      exact hbk.rows_ok (Nat.le_refl _) rfl (fun b hb => hb.elim)
    · rename_i hne
      refine (h.W.blocks k blk hk).mono hb.keeps (fun _ _ e => e) (fun e => e) hok1 fun b hid => hkeep b (h.W.rng k b hid).1 fun hx => ?_
      exact hne (h.W.inj k id b hid hx)
  · exact flatT_any rfl hm
abbrev UT := Nat → Nat → (Nat → List MV) → List MV → Option (List Prop × (Nat → List MV))
def hndU (U : FuncId → Option UT) (call : CallT) : CallT := fun f ms S K => match U f with
  | none => call f ms S K
  | some u => match S with
    | ⟨F, stk, H, nx⟩ => match ms with
      | .os id sz 0 n :: ms => match look H id with
        | some (.rows sz' n0 g) => match Nat.beq sz sz' with
          | true => match viewUL (del H id) ms with
            | some rest => match u sz n g rest with
              | some (ps, g') => match conjO ((n ≤ n0) :: ps) with
                | some p => Need p (forceF (putL H id (.rows sz n g')) fun H' => K (.tup []) ⟨F, stk, H', nx⟩)
                | none => False
              | none => False
            | none => False
          | false => False
        | _ => False
      | _ => False
def UOK (P : Program) (U : FuncId → Option UT) : Prop := ∀ f u, U f = some u → ∀ sz n g rest ps g', u sz n g rest = some (ps, g') → AllP ps → CU P f sz n g g' rest
theorem hndU_sound {P : Program} {cx : Cx} {U : FuncId → Option UT} (hU : UOK P U) {call : CallT} (hc : CallH P cx call) : CallH P cx (hndU U call) := by
  intro f ms S K h su n G a w ρ vs hs hr
  unfold hndU at h
  split at h
  · exact hc f ms S K h su n G a w ρ vs hs hr
  · rename_i u hu
    split at h
    rename_i F stk H nx
    split at h
    · rename_i id sz nn ms
      split at h
      · rename_i sz' n0 g hl
        split at h
        · rename_i hsz
          have hsz := Nat.eq_of_beq_eq_true hsz
          subst hsz
          split at h
          · rename_i rest hv
            split at h
            · rename_i ps g' hps
              split at h
              · rename_i p hp
                have hall : AllP ((nn ≤ n0) :: ps) := conjO_all (fun q e => by rw [hp] at e; cases e; exact h.left.h)
                have hK := forceF_eq h.right
                have hcu := hU f u hu _ _ _ _ _ _ hps (fun q hq => hall q (by simp [hq]))
                rcases callU_sound hcu hs hl (hall _ (by simp)) hv hr with ⟨v, w', e, s2, r2⟩ | ⟨e, hcc⟩
                · exact .inl ⟨v, w', e, ⟨_, _, ρ, hK, s2, r2⟩⟩
                · refine .inr ⟨e, hcc.mono ?_⟩
                  rintro _ w' ⟨v, rfl, s2, r2⟩
                  exact ⟨v, rfl, ⟨_, _, ρ, hK, s2, r2⟩⟩
              · exact h.elim
            · exact h.elim
          · exact h.elim
        · exact h.elim
      · exact h.elim
    · exact h.elim
def U0 : FuncId → Option UT := fun _ => none
theorem U0_ok {P : Program} : UOK P U0 := fun _ _ h => by cases h
def uAdd (f : FuncId) (u : UT) (U : FuncId → Option UT) : FuncId → Option UT := fun h => match Nat.beq f h with
  | true => some u
  | false => U h
theorem UOK.add {P : Program} {U : FuncId → Option UT} (hU : UOK P U) {f : FuncId} {u : UT} (h : ∀ sz n g rest ps g', u sz n g rest = some (ps, g') → AllP ps → CU P f sz n g g' rest) : UOK P (uAdd f u U) := by
  intro f' u' e
  unfold uAdd at e
  split at e
  · rename_i hb
    have := Nat.eq_of_beq_eq_true hb
    subst this
    cases e
    exact h
  · exact hU _ _ e
theorem CU.of_genU {P : Program} {exts : List (Nat × XK)} {eqs inl : List Nat} {sum : FuncId → List MV → Option (List Prop × MV × List Blk × Bool)} (hx : ∀ f k, look exts f = some k → ExtOK P f k) (hq : eqsB P eqs = true) (hs : SumsOK P sum)
    {f : FuncId} {fi : FnI} (hf : fnGen P f = some fi) (hres : fi.res = []) {sz n : Nat} {g g' : Nat → List MV} {rest : List MV} (hfl : ∀ i, i < n → ∀ j, j < sz → flatM (getM (g' i) j) = true) (hn : Nat.ble (rest.length + 1) fi.n = true)
    (h : ∀ cx, CodeOK P cx fi.n fi.body ⟨initF 0 (.os 0 sz 0 n :: rest), [[(0, .os 0 sz 0 n)]], [(0, .rows sz n g)], 1⟩ (finU sz n g')) : CU P f sz n g g' rest :=
  CU.of_code (E := genQ P exts eqs inl sum) (genQ_full hx hq hs).toEnvAll (fnGen_ok hf) hres hfl hn h
theorem loop_ruleG {γ : Type} {P : Program} {cx : Cx} {n : Nat} {c : Code} {S : St} {K : Ex → St → Prop} (inv : γ → St) (pre : γ → Prop) (nx : γ → γ) (μ : γ → Nat) (x0 : γ) (h0 : Le cx n S (inv x0)) (hp : pre x0)
    (step : ∀ x, pre x → CodeOK P cx n c (inv x) (fun ex S' => match ex with
      | .normal => Need (pre (nx x) ∧ μ (nx x) < μ x) (Le cx n S' (inv (nx x)))
      | .ret => K .ret S'
      | .exit j => K (.exit j) S')) : Rest (CodeOK P cx n (.loop c) S K) := by
  refine ⟨fun su a w hs => ?_⟩
  refine wp_loop_ghost (fun m a w => ∃ x, pre x ∧ m = μ x ∧ Sat cx su n G0 (inv x) a w) (μ x0) ⟨x0, hp, rfl, h0.ok _ _ _ hs⟩ ?_
  rintro m a w ⟨x, hpx, rfl, hs⟩
  refine wp_mono (step x hpx su a w hs) ?_
  rintro e a' w' ⟨ex, S', h1, h2, h3⟩
  cases e <;> cases ex <;> simp only [exitIs] at h1
  · have hlt := h2.left.h
    exact ⟨μ (nx x), hlt.2, nx x, hlt.1, rfl, h2.right.ok _ _ _ h3⟩
  · subst h1
    exact ⟨.exit _, S', rfl, h2, h3⟩
  · exact ⟨.ret, S', trivial, h2, h3⟩
end Go.Ev
namespace Go.Ev
theorem CU.leG {P : Program} {f : FuncId} {sz n : Nat} {g h g' : Nat → List MV} {rest : List MV} (hc : CU P f sz n h g' rest) (hg : ∀ i, i < n → ∀ j, j < sz → getM (g i) j = getM (h i) j) : CU P f sz n g g' rest := by
  refine ⟨hc.enters, hc.flat, fun cx w ρ vs hw hW hr => hc.calls cx w ρ vs hw ?_ hr⟩
  refine ⟨hW.below, hW.inj, hW.rng, fun id blk hl => ?_, hW.nx, fun id blk hl => ?_, hW.okA⟩
  · simp only [look] at hl
    split at hl
    · rename_i e; have := Nat.eq_of_beq_eq_true e; subst this; simp
    · cases hl
  · simp only [look] at hl
    split at hl
    · rename_i e
      have := Nat.eq_of_beq_eq_true e
      subst this
      cases hl
      rcases hW.blocks 0 _ rfl with ⟨h1, h2⟩ | ⟨b, c, T, h1, h2, h3, h5, h4⟩
      · exact .inl ⟨h1, h2⟩
      · exact .inr ⟨b, c, T, h1, h2, h3, h5, fun i hi j hj => by rw [← hg i hi j hj]; exact h4 i hi j hj⟩
    · cases hl
theorem CU.leA {P : Program} {f : FuncId} {sz n : Nat} {g g' : Nat → List MV} {rest rest' : List MV} (hc : CU P f sz n g g' rest') (hr : ∀ (w : World) (ρ : RhoT) (ok : OkT) (v : Value) (vs : List Value), RepL w G0 ρ ok (.os 0 sz 0 n :: rest) (v :: vs) → RepL w G0 ρ ok (.os 0 sz 0 n :: rest') (v :: vs)) : CU P f sz n g g' rest :=
  ⟨hc.enters, hc.flat, fun cx w ρ vs hw hW h => by
    cases vs with
    | nil => have := h.len; simp at this
    | cons v vs => exact hc.calls cx w ρ (v :: vs) hw hW (hr _ _ _ _ _ h)⟩
end Go.Ev
namespace Go.Ev
theorem loop_ruleD {E : Env} (hE : EnvAll E) {γ : Type} {cx : Cx} {call : CallT} (hc : CallH E.P cx call) {n : Nat} {c : Code} {S : St} {K : Ex → St → Prop} (inv : γ → St) (pre : γ → Prop) (nx : γ → γ) (μ : γ → Nat) (x0 : γ) (h0 : Le cx n S (inv x0)) (hp : pre x0)
    (step : ∀ x, pre x → evC E call cx n c (inv x) (fun ex S' => match ex with
      | .normal => Need (pre (nx x) ∧ μ (nx x) < μ x) (Le cx n S' (inv (nx x)))
      | .ret => K .ret S'
      | .exit j => K (.exit j) S')) : Rest (CodeOK E.P cx n (.loop c) S K) :=
  loop_ruleG inv pre nx μ x0 h0 hp fun x hx => evC_sound hE hc (step x hx)
end Go.Ev

namespace Go.Ev
/-! ## Regions whose order is drawn: these operations are taken first (the list is given; that it may be is a closed question) -/
def okI (ops : Array Oper) (gs : List Nat) : List Nat → Array Bool → Bool
  | [], _ => true
  | i :: r, L => !memN gs i && (Region.ready .any ops L).contains i && Region.free .any ops L i && okI ops gs r (L.setIfInBounds i true)
def seqI (n : Nat) (ops : List Oper) : List Nat → List (Nat × MV) → Option (List (Nat × MV))
  | [], F => some F
  | i :: r, F => match nthO ops i with
    | none => none
    | some o => match inertV F n o with
      | none => none
      | some (d, m) => seqI n ops r (putL F d m)
theorem takeG_given {n : Nat} {ops : List Oper} {gs : List Nat} : ∀ {is I : List Nat} {L : Array Bool} {F F' : List (Nat × MV)}, okI ops.toArray gs is L = true → seqI n ops is F = some F' → takeG n ops.toArray gs is I L F = (is.reverse ++ I, F')
  | [], I, L, F, F', _, h => by cases h; rfl
  | i :: r, I, L, F, F', ho, h => by
    unfold okI at ho
    simp only [Bool.and_eq_true, Bool.not_eq_true'] at ho
    obtain ⟨⟨⟨h1, h2⟩, h3⟩, h4⟩ := ho
    unfold seqI at h
    rw [nthO_eq] at h
    split at h
    · cases h
    · rename_i o hoo
      split at h
      · cases h
      · rename_i d m hv
        unfold takeG
        rw [List.getElem?_toArray, hoo]
        dsimp only
        rw [hv]
        dsimp only
        rw [h1, h2, h3]
        simp only [Bool.not_true, Bool.or_false]
        rw [takeG_given h4 h]
        simp
def ckI (ops : List Oper) (is : List Nat) : Bool := Region.noSelect ops.toArray && Nat.ble is.length ops.length && okI ops.toArray (guardsL ops) is (Array.replicate ops.length false)
theorem drawJ_sound {E : Env} (hE : EnvAll E) (hm : E.P.follows .mixedOrders = true) {cx : Cx} {n : Nat} {call : CallT} (hcall : CallH E.P cx call) {id : Nat} {ops : Array Oper} (is : List Nat) (hck : ckI ops.toList is.reverse = true) {S : St} {K : Ex → St → Prop} (h : match S with
  | ⟨F, stk, H, nx⟩ => match seqI n ops.toList is.reverse F with
    | none => False
    | some F' => forceF F' fun F' => drawR E call n (blankO is 0 ops.toList) ⟨F', stk, H, nx⟩ (K .normal)) :
    CodeOK E.P cx n (.region id ops true) S K := by
  intro su a w hsat
  refine wp_region_any hm ?_
  obtain ⟨F, stk, H, nx⟩ := S
  dsimp only at h
  unfold ckI at hck
  simp only [Bool.and_eq_true] at hck
  obtain ⟨⟨hns, hble⟩, hok⟩ := hck
  split at h
  · exact h.elim
  rename_i F' hsq
  have hble : is.length ≤ ops.toList.length := by simpa using hble
  have h := forceF_eq h
  have hops : ops = ops.toList.toArray := by simp
  obtain ⟨ρ, hs⟩ := hsat
  have hs1 := hs.drawn (w.drawn + 1)
  generalize hl : ops.toList = l at *
  subst hops
  simp only [List.size_toArray] at *
  have htk := takeG_given (I := []) hok hsq
  rw [List.reverse_reverse, List.append_nil] at htk
  generalize hI : is = I at *
  have hT0 : Taken (guardsL l) l.toArray.size [] (Array.replicate l.length false) := by
    refine ⟨by simp, fun i => ?_, List.nodup_nil, fun i hi => by simp at hi⟩
    simp only [Array.getD_eq_getD_getElem?, Array.getElem?_replicate]
    split <;> simp
  have := takeG_sound (E := E) (fuel := l.length) hns (Q := fun e a' w' => ∃ x S', exitIs e x ∧ K x S' ∧ Sat cx su n G0 S' a' w') (fun c a w ⟨x, S', h1, _⟩ => by cases x <;> exact h1) hble ?_ htk hs1 hT0
  · simpa using this
  · intro a' L' hs' hT
    have hlt : ∀ i ∈ I, i < l.length := by
      intro i hi
      have h1 := (hT.mem i).2 hi
      have h2 := hT.size
      simp only [List.size_toArray] at h2
      rcases Nat.lt_or_ge i l.length with h3 | h3
      · exact h3
      · simp [Array.getD_eq_getD_getElem?, Array.getElem?_eq_none (show L'.size ≤ i by omega)] at h1
    have r1 := drawR_any hE hcall h (su := su) ⟨ρ, hs'⟩
    rw [blankO_len] at r1
    have r2 := wpAny_skip (fuel := l.length - I.length) (is := I) (I := I) (L := Array.replicate l.length false) (fun i hi => hi) hlt hT.nodup (fun i hi => by
      have := hlt i hi
      simp [Array.getD_eq_getD_getElem?, Array.getElem?_replicate, this]) (by simp) (by rw [show l.length - I.length + I.length = l.length by omega]; exact r1)
    have hL : List.foldl (fun L i => L.setIfInBounds i true) (Array.replicate l.length false) I = L' := by
      have hsz := hT.size
      simp only [List.size_toArray] at hsz
      apply Array.ext
      · rw [foldl_set_size, hsz]; simp
      · intro i h1 h2
        have e1 := foldl_set_get (is := I) (L := Array.replicate l.length false) (i := i)
        have e2 := hT.mem i
        simp only [Array.getD_eq_getD_getElem?, Array.getElem?_eq_getElem h1, Array.getElem?_eq_getElem h2, Option.getD_some, Array.getElem?_replicate] at e1 e2
        have h3 : i < l.length := by omega
        simp only [h3, if_true, Option.getD_some, Bool.false_or, Array.size_replicate, decide_true, Bool.and_true] at e1
        rw [e1]
        by_cases hi : i ∈ I
        · simp [hi, e2.2 hi]
        · cases hq : L'[i]
          · simp [hi]
          · exact absurd (e2.1 hq) hi
    rw [hL] at r2
    exact wpAny_blank (fun i hi => hT.gs i hi) _ _ _ _ (fun i hi => by
      have h2 := hlt i hi
      have h3 := hT.size
      simp only [List.size_toArray] at h3
      omega) (fun i hi => by
      have h1 := (hT.mem i).2 hi
      have h2 := hlt i hi
      have h3 := hT.size
      simp only [List.size_toArray] at h3
      simp only [Array.getD_eq_getD_getElem?] at h1 ⊢
      rw [Array.getElem?_eq_getElem (by omega)] at h1 ⊢
      exact h1) r2
end Go.Ev

namespace Go.Ev
/-! ## Calls that turn the list that they are handed, and may yield a part of it from its beginning -/
def vRes (id sz : Nat) : Option Nat → MV
  | none => .tup []
  | some k => .os id sz 0 k
structure CV (P : Program) (f : FuncId) (sz n : Nat) (g : Nat → List MV) (rest : List MV) (n' : Nat) (g' : Nat → List MV) (k : Option Nat) : Prop where
  enters : Enters P f
  flat : ∀ i, i < n' → ∀ j, j < sz → flatM (getM (g' i) j) = true
  calls : ∀ (cx : Cx) (w : World) (ρ : RhoT) (vs : List Value), cx.w0 = w → SatW cx ρ [(0, .rows sz n g)] 1 w → RepL w G0 ρ (okS cx ρ w) (.os 0 sz 0 n :: rest) vs →
    Calls P f vs.toArray w fun e w' => ∃ v, e = .returned v ∧ BelowX cx.X w w' ∧ BlkOK w' ρ (fun _ => False) 0 (.rows sz n' g') ∧ Rep w' G0 ρ (fun _ => False) (vRes 0 sz k) v
def finV (E : Env) (rs : List ResultVar) (sz n n' : Nat) (g' : Nat → List MV) (k : Option Nat) : Ex → St → Prop := fun ex S => match ex with
  | .exit _ => False
  | _ => match S with
    | ⟨F, stk, H, nx⟩ => match look H 0 with
      | some (.rows s0 n0 gg) => match resM E ⟨F, stk, H, nx⟩ rs with
        | none => False
        | some l => Side (stk = [[(0, .os 0 sz 0 n)]] ∧ s0 = sz ∧ n' ≤ n0 ∧ n' ≤ n ∧ ∀ i, i < n' → ∀ j, j < sz → getM (gg i) j = getM (g' i) j) ∧ match k with
          | none => l = []
          | some k => match l with
            | [m] => forceM (fun m => match m with
              | .os i s lo q => Side (i = 0 ∧ s = sz ∧ lo = 0 ∧ q = k)
              | .oc i s q _ => Side (i = 0 ∧ s = sz ∧ q = k)
              | _ => False) m
            | _ => False
      | _ => False
theorem ghost_rho {w w' : World} {ρ ρ' : RhoT} {ok ok' : OkT} {sz n : Nat} {v : Value} (r0 : Rep w G0 ρ ok (.os 0 sz 0 n) v) (r1 : Rep w' G0 ρ' ok' (.os 0 sz 0 n) v) (h0 : n ≠ 0) : ρ 0 = ρ' 0 := by
  cases r0 with
  | osnil => exact absurd rfl h0
  | os _ _ _ _ blk cap off c0 T0 e1 =>
    cases r1 with
    | os _ _ _ _ _ _ _ c1 T1 e2 => rw [e1, e2]
theorem CV.of_code {E : Env} (hE : EnvAll E) {f : FuncId} {fi : FnI} (hfn : FnOK E.P f fi) {sz n n' : Nat} {g g' : Nat → List MV} {rest : List MV} {k : Option Nat} (hn0 : 0 < n) (hfl : ∀ i, i < n' → ∀ j, j < sz → flatM (getM (g' i) j) = true)
    (hn : Nat.ble (rest.length + 1) fi.n = true)
    (h : ∀ cx, CodeOK E.P cx fi.n fi.body ⟨initF 0 (.os 0 sz 0 n :: rest), [[(0, .os 0 sz 0 n)]], [(0, .rows sz n g)], 1⟩ (finV E fi.res sz n n' g' k)) : CV E.P f sz n g rest n' g' k := by
  refine ⟨hfn.enters, hfl, fun cx w ρ vs hw hW hr => ?_⟩
  subst hw
  have hn' : rest.length + 1 ≤ fi.n := Nat.le_of_ble_eq_true hn
  have hlen := hr.len
  have hlen' : rest.length + 1 = vs.length := by simpa using hlen
  have r0 : Rep cx.w0 G0 ρ (okS cx ρ cx.w0) (.os 0 sz 0 n) (vs.getD 0 undef) := by simpa [getM] using hr.rep 0 (by simp)
  have hg : FrOK cx.w0 G0 ρ (okS cx ρ cx.w0) [(0, .os 0 sz 0 n)] { tmps := vs.toArray, defers := [] } := by
    intro s m hs
    simp only [look] at hs
    split at hs
    · rename_i e
      have := Nat.eq_of_beq_eq_true e
      subst this
      cases hs
      refine ⟨vs.getD 0 undef, ?_, r0⟩
      simp only [List.getElem?_toArray, List.getD_eq_getElem?_getD]
      rw [List.getElem?_eq_getElem (by omega)]
      rfl
    · cases hs
  have h0 : SatR cx ⟨[{ tmps := vs.toArray, defers := [] }], [G0]⟩ fi.n G0 ⟨initF 0 (.os 0 sz 0 n :: rest), [[(0, .os 0 sz 0 n)]], [(0, .rows sz n g)], 1⟩ { tmps := vs.toArray ++ Array.replicate (fi.n - vs.toArray.size) undef, defers := [] } cx.w0 ρ := by
    refine ⟨hW, ⟨rfl, initA (by simp; omega), ?_⟩, ⟨hg, trivial⟩⟩
    intro s m hs
    obtain ⟨_, h2, h3⟩ := look_initF hs
    simp only [Nat.zero_add, Nat.sub_zero] at h2 h3
    have := hr.rep s h2
    rw [h3] at this
    refine ⟨vs.getD s undef, ?_, this⟩
    have h2' : s < rest.length + 1 := by simpa using h2
    rw [Array.getElem?_append_left (by simp; omega)]
    simp only [List.getElem?_toArray, List.getD_eq_getElem?_getD]
    rw [List.getElem?_eq_getElem (by omega)]
    rfl
  refine (Calls.of_code hfn (R := fun v w' => BelowX cx.X cx.w0 w' ∧ BlkOK w' ρ (fun _ => False) 0 (.rows sz n' g') ∧ Rep w' G0 ρ (fun _ => False) (vRes 0 sz k) v) ?_).mono ?_
  · refine wp_mono (h cx _ _ _ ⟨_, h0⟩) ?_
    rintro e a' w' ⟨ex, S', h1, h2, ρ', h3⟩
    unfold finV at h2
    split at h2
    · exact h2.elim
    · rename_i hx
      obtain ⟨F', stk', H', nx'⟩ := S'
      dsimp only at h2
      split at h2
      · rename_i s0 n0 gg hl
        split at h2
        · exact h2.elim
        · rename_i l hres
          obtain ⟨⟨rfl, rfl, hle, hle2, hgg⟩, hk⟩ := (⟨h2.1.h, h2.2⟩ : _ ∧ _)
          refine ⟨?_, h3.F.defers, fun fn hfn' => ?_⟩
          · cases e <;> cases ex <;> simp only [exitIs] at h1
            · exact .inl rfl
            · exact absurd rfl (hx _)
            · exact .inr rfl
          · obtain ⟨v, q1, q2⟩ := results_sound hE.toEnvOK h3 hfn' hres
            obtain ⟨v1, e1, r1⟩ := h3.K.1 0 _ rfl
            have e2 : v1 = vs.getD 0 undef := by
              have e1 : vs.toArray[0]? = some v1 := e1
              rw [List.getElem?_toArray] at e1
              rw [List.getD_eq_getElem?_getD, e1]; rfl
            subst e2
            have hρ := ghost_rho r0 r1 (by omega)
            refine ⟨v, q1, h3.W.below, ?_, ?_⟩
            · rcases h3.W.blocks 0 _ hl with ⟨hz, hz2⟩ | ⟨b, c, T, p1, p2, p3, p5, p4⟩
              · exact .inl ⟨by omega, hρ.trans hz2⟩
              · have hm := Nat.mul_le_mul_right s0 hle
                exact .inr ⟨b, c, T, hρ.trans p1, p2, by omega, fun j hj => p5 j (by omega), fun i hi j hj => by rw [← hgg i hi j hj]; exact flatM_any (by rw [hgg i hi j hj]; exact hfl i hi j hj) (p4 i (by omega) j hj)⟩
            · split at hk
              · subst hk; exact flatT_any rfl q2
              · split at hk
                · rename_i k m
                  have hk := forceM_eq hk
                  have q2 : Rep w' G0 ρ' (okS cx ρ' w') m v := q2
                  split at hk
                  · obtain ⟨rfl, rfl, rfl, rfl⟩ := hk.h
                    cases q2 with
                    | os _ _ _ _ blk cap off c T u1 u2 u3 u4 u5 => exact .os _ _ _ _ _ _ _ _ _ (hρ.trans u1) u2 u3 u4 u5
                    | osnil => exact .osnil _ _ _
                  · obtain ⟨rfl, rfl, rfl⟩ := hk.h
                    cases q2.norm with
                    | os _ _ _ _ blk cap off c T u1 u2 u3 u4 u5 => exact .os _ _ _ _ _ _ _ _ _ (hρ.trans u1) u2 u3 u4 u5
                    | osnil => exact .osnil _ _ _
                  · exact hk.elim
                · exact hk.elim
      · exact h2.elim
  · rintro e w' ⟨v, rfl, s1, s2, s3⟩
    exact ⟨v, rfl, s1, s2, s3⟩
abbrev VT := Nat → Nat → (Nat → List MV) → List MV → Option (List Prop × Nat × (Nat → List MV) × Option Nat)
def VOK (P : Program) (V : FuncId → Option VT) : Prop := ∀ f u, V f = some u → ∀ sz n g rest ps n' g' k, u sz n g rest = some (ps, n', g', k) → AllP ps → CV P f sz n g rest n' g' k
def vAdd (f : FuncId) (u : VT) (V : FuncId → Option VT) : FuncId → Option VT := fun h => match Nat.beq f h with
  | true => some u
  | false => V h
theorem VOK.add {P : Program} {V : FuncId → Option VT} (hV : VOK P V) {f : FuncId} {u : VT} (h : ∀ sz n g rest ps n' g' k, u sz n g rest = some (ps, n', g', k) → AllP ps → CV P f sz n g rest n' g' k) : VOK P (vAdd f u V) := by
  intro f' u' e
  unfold vAdd at e
  split at e
  · rename_i hb
    have := Nat.eq_of_beq_eq_true hb
    subst this
    cases e
    exact h
  · exact hV _ _ e
theorem CV.leG {P : Program} {f : FuncId} {sz n n' : Nat} {g h g' : Nat → List MV} {rest : List MV} {k : Option Nat} (hc : CV P f sz n h rest n' g' k) (hg : ∀ i, i < n → ∀ j, j < sz → getM (g i) j = getM (h i) j) : CV P f sz n g rest n' g' k := by
  refine ⟨hc.enters, hc.flat, fun cx w ρ vs hw hW hr => hc.calls cx w ρ vs hw ?_ hr⟩
  refine ⟨hW.below, hW.inj, hW.rng, fun id blk hl => ?_, hW.nx, fun id blk hl => ?_, hW.okA⟩
  · simp only [look] at hl
    split at hl
    · rename_i e; have := Nat.eq_of_beq_eq_true e; subst this; simp
    · cases hl
  · simp only [look] at hl
    split at hl
    · rename_i e
      have := Nat.eq_of_beq_eq_true e
      subst this
      cases hl
      rcases hW.blocks 0 _ rfl with ⟨h1, h2⟩ | ⟨b, c, T, h1, h2, h3, h5, h4⟩
      · exact .inl ⟨h1, h2⟩
      · exact .inr ⟨b, c, T, h1, h2, h3, h5, fun i hi j hj => by rw [← hg i hi j hj]; exact h4 i hi j hj⟩
    · cases hl
end Go.Ev

namespace Go.Ev
end Go.Ev

namespace Go.Ev
end Go.Ev

namespace Go.Ev
/-! ## Calls that are handed the address of a cell in which an own list lies, and turn that list -/
structure CL (P : Program) (f : FuncId) (sz n : Nat) (g : Nat → List MV) (args : List MV) (n' : Nat) (g' : Nat → List MV) (m : MV) : Prop where
  enters : Enters P f
  flat : ∀ i, i < n' → ∀ j, j < sz → flatM (getM (g' i) j) = true
  flatr : flatT m = true
  calls : ∀ (cx : Cx) (w : World) (ρ : RhoT) (vs : List Value), cx.w0 = w → SatW cx ρ [(0, .cells [.os 1 sz 0 n]), (1, .rows sz n g)] 2 w → RepL w G0 ρ (okS cx ρ w) (args ++ [.p 0 0]) vs →
    Calls P f vs.toArray w fun e w' => ∃ v ρ', e = .returned v ∧ BelowX cx.X w w' ∧ ρ' 0 = ρ 0 ∧ (∀ b, ρ' 1 = some b → b < w'.heap.size ∧ (w.heap.size ≤ b ∨ cx.X b) ∧ ρ 0 ≠ some b) ∧
      (∃ ok, BlkOK w' ρ' ok 0 (.cells [.os 1 sz 0 n'])) ∧ (∃ ok, BlkOK w' ρ' ok 1 (.rows sz n' g')) ∧ Rep w' G0 rho0 (fun _ => False) m v
def finCL (E : Env) (rs : List ResultVar) (k sz n' : Nat) (g' : Nat → List MV) (m : MV) : Ex → St → Prop := fun ex S => match ex with
  | .exit _ => False
  | _ => match S with
    | ⟨F, stk, H, nx⟩ => match look H 0 with
      | some (.cells [.os i s lo q]) => match look H 1 with
        | some (.rows s0 n0 gg) => match resM E ⟨F, stk, H, nx⟩ rs with
          | some [m0] => Side (stk = [[(k, .p 0 0)]] ∧ (i = 1 ∧ s = sz ∧ lo = 0 ∧ q = n') ∧ s0 = sz ∧ n0 = n' ∧ (∀ i, i < n' → ∀ j, j < sz → getM (gg i) j = getM (g' i) j) ∧ m0 = m)
          | _ => False
        | _ => False
      | _ => False
theorem CL.of_code {E : Env} (hE : EnvAll E) {f : FuncId} {fi : FnI} (hfn : FnOK E.P f fi) {sz n n' : Nat} {g g' : Nat → List MV} {args : List MV} {m : MV} (hfl : ∀ i, i < n' → ∀ j, j < sz → flatM (getM (g' i) j) = true) (hfm : flatT m = true)
    (hn : Nat.ble (args.length + 1) fi.n = true)
    (h : ∀ cx, CodeOK E.P cx fi.n fi.body ⟨initF 0 (args ++ [.p 0 0]), [[(args.length, .p 0 0)]], [(0, .cells [.os 1 sz 0 n]), (1, .rows sz n g)], 2⟩ (finCL E fi.res args.length sz n' g' m)) : CL E.P f sz n g args n' g' m := by
  refine ⟨hfn.enters, hfl, hfm, fun cx w ρ vs hw hW hr => ?_⟩
  subst hw
  have hn' : args.length + 1 ≤ fi.n := Nat.le_of_ble_eq_true hn
  have hlen := hr.len
  have hlen' : args.length + 1 = vs.length := by simpa using hlen
  have r0 : Rep cx.w0 G0 ρ (okS cx ρ cx.w0) (.p 0 0) (vs.getD args.length undef) := by
    have := hr.rep args.length (by simp)
    rwa [show getM (args ++ [MV.p 0 0]) args.length = .p 0 0 by unfold getM; simp [List.getD_eq_getElem?_getD]] at this
  have hg : FrOK cx.w0 G0 ρ (okS cx ρ cx.w0) [(args.length, .p 0 0)] { tmps := vs.toArray, defers := [] } := by
    intro s m hs
    simp only [look] at hs
    split at hs
    · rename_i e
      have := Nat.eq_of_beq_eq_true e
      subst this
      cases hs
      refine ⟨vs.getD args.length undef, ?_, r0⟩
      simp only [List.getElem?_toArray, List.getD_eq_getElem?_getD]
      rw [List.getElem?_eq_getElem (by omega)]
      rfl
    · cases hs
  have h0 : SatR cx ⟨[{ tmps := vs.toArray, defers := [] }], [G0]⟩ fi.n G0 ⟨initF 0 (args ++ [.p 0 0]), [[(args.length, .p 0 0)]], [(0, .cells [.os 1 sz 0 n]), (1, .rows sz n g)], 2⟩ { tmps := vs.toArray ++ Array.replicate (fi.n - vs.toArray.size) undef, defers := [] } cx.w0 ρ := by
    refine ⟨hW, ⟨rfl, initA (by simp; omega), ?_⟩, ⟨hg, trivial⟩⟩
    intro s m hs
    obtain ⟨_, h2, h3⟩ := look_initF hs
    simp only [Nat.zero_add, Nat.sub_zero] at h2 h3
    have := hr.rep s h2
    rw [h3] at this
    refine ⟨vs.getD s undef, ?_, this⟩
    have h2' : s < args.length + 1 := by simpa using h2
    rw [Array.getElem?_append_left (by simp; omega)]
    simp only [List.getElem?_toArray, List.getD_eq_getElem?_getD]
    rw [List.getElem?_eq_getElem (by omega)]
    rfl
  refine (Calls.of_code hfn (R := fun v w' => ∃ ρ', BelowX cx.X cx.w0 w' ∧ ρ' 0 = ρ 0 ∧ (∀ b, ρ' 1 = some b → b < w'.heap.size ∧ (cx.w0.heap.size ≤ b ∨ cx.X b) ∧ ρ 0 ≠ some b) ∧
      (∃ ok, BlkOK w' ρ' ok 0 (.cells [.os 1 sz 0 n'])) ∧ (∃ ok, BlkOK w' ρ' ok 1 (.rows sz n' g')) ∧ Rep w' G0 rho0 (fun _ => False) m v) ?_).mono ?_
  · refine wp_mono (h cx _ _ _ ⟨_, h0⟩) ?_
    rintro e a' w' ⟨ex, S', h1, h2, ρ', h3⟩
    unfold finCL at h2
    split at h2
    · exact h2.elim
    · rename_i hx
      obtain ⟨F', stk', H', nx'⟩ := S'
      dsimp only at h2
      split at h2
      · rename_i i s lo q hl0
        split at h2
        · rename_i s0 n0 gg hl1
          split at h2
          · rename_i m0 hres
            obtain ⟨rfl, ⟨rfl, rfl, rfl, rfl⟩, rfl, rfl, hgg, rfl⟩ := h2.h
            refine ⟨?_, h3.F.defers, fun fn hfn' => ?_⟩
            · cases e <;> cases ex <;> simp only [exitIs] at h1
              · exact .inl rfl
              · exact absurd rfl (hx _)
              · exact .inr rfl
            · obtain ⟨v, q1, q2⟩ := results_sound hE.toEnvOK h3 hfn' hres
              obtain ⟨v1, e1, r1⟩ := h3.K.1 args.length (.p 0 0) (by simp [look])
              have e2 : v1 = vs.getD args.length undef := by
                have e1 : vs.toArray[args.length]? = some v1 := e1
                rw [List.getElem?_toArray] at e1
                rw [List.getD_eq_getElem?_getD, e1]; rfl
              subst e2
              have hρ : ρ' 0 = ρ 0 := by
                generalize vs.getD args.length undef = v2 at r0 r1
                cases r0 with
                | p _ _ blk q1 =>
                  cases r1 with
                  | p _ _ blk' q2 => rw [q1, q2]
              refine ⟨v, q1, ρ', h3.W.below, hρ, fun b hb => ?_, ⟨_, h3.W.blocks 0 _ hl0⟩, ⟨okS cx ρ' w', ?_⟩, flatT_any hfm q2⟩
              · have := h3.W.rng 1 b hb
                refine ⟨this.1, this.2, fun h0b => ?_⟩
                have := h3.W.inj 0 1 b (hρ.trans h0b) hb
                omega
              · rcases h3.W.blocks 1 _ hl1 with ⟨z1, z2⟩ | ⟨b, c, T, p1, p2, p3, p5, p4⟩
                · exact .inl ⟨z1, z2⟩
                · exact .inr ⟨b, c, T, p1, p2, p3, p5, fun i hi j hj => by rw [← hgg i hi j hj]; exact p4 i hi j hj⟩
          · exact h2.elim
        · exact h2.elim
      · exact h2.elim
  · rintro e w' ⟨v, rfl, ρ', s1⟩
    exact ⟨v, ρ', rfl, s1⟩
theorem callL_sound {P : Program} {f : FuncId} {sz n n' : Nat} {g g' : Nat → List MV} {args : List MV} {m : MV} (hf : CL P f sz n g args n' g' m) {cx : Cx} {su : Sus} {nn : Nat} {G : GT} {S : St} {a : Act} {w : World} {ρ : RhoT} (h : SatR cx su nn G S a w ρ) {cid lid : Nat}
    (hc : look S.H cid = some (.cells [.os lid sz 0 n])) (hl : look S.H lid = some (.rows sz n g)) (hfl : ∀ j, j < args.length → flatM (getM args j) = true) {vs : List Value} (hr : RepL w G ρ (okS cx ρ w) (args ++ [.p cid 0]) vs) :
    CallGood P f vs w fun v w' => ∃ ρ', SatR cx su nn G ⟨purgeF lid S.F, purgeS lid S.stk, putL (putL (purgeH lid S.H) cid (.cells [.os lid sz 0 n'])) lid (.rows sz n' g'), S.nx⟩ a w' ρ' ∧ Rep w' G ρ' (okS cx ρ' w') m v := by
  right
  refine ⟨hf.enters _ _, ?_⟩
  have hne : cid ≠ lid := fun e => by subst e; rw [hc] at hl; cases hl
  obtain ⟨cb, cc, cT, k1, k2, k3, k5, k4⟩ := h.W.blocks cid _ hc
  let X : Nat → Prop := fun b => ρ cid = some b ∨ ρ lid = some b
  let ok' : OkT := fun b => b < w.heap.size ∧ ¬ X b
  let ρ1 : RhoT := fun j => match j with
    | 0 => ρ cid
    | 1 => ρ lid
    | _ + 2 => none
  have hXr : ∀ b, X b → b < w.heap.size ∧ (cx.w0.heap.size ≤ b ∨ cx.X b) := fun b hb => hb.elim (h.W.rng cid b) (h.W.rng lid b)
  have hnX : ∀ b, okS cx ρ w b → ¬ X b := by
    intro b hb hx
    rcases hb with hb | hb
    · have q1 := h.W.okA b hb
      rcases (hXr b hx).2 with q | q
      · have := q1.1; omega
      · exact q1.2 q
    · rcases hx with hx | hx
      · exact hb.2.2 cid hx
      · exact hb.2.2 lid hx
  have hsat : SatW ⟨w, X, ok'⟩ ρ1 [(0, .cells [.os 1 sz 0 n]), (1, .rows sz n g)] 2 w := by
    refine ⟨BelowX.refl _ _, ?_, ?_, ?_, ?_, ?_, ?_⟩
    · intro i j b hi hj
      match i, j with
      | 0, 0 => rfl
      | 1, 1 => rfl
      | 0, 1 => exact absurd (h.W.inj cid lid b hi hj) hne
      | 1, 0 => exact absurd (h.W.inj lid cid b hi hj) hne.symm
      | _ + 2, _ => cases hi
      | 0, _ + 2 => cases hj
      | 1, _ + 2 => cases hj
    · intro i b hi
      match i with
      | 0 => exact ⟨(h.W.rng cid b hi).1, .inr (.inl hi)⟩
      | 1 => exact ⟨(h.W.rng lid b hi).1, .inr (.inr hi)⟩
      | _ + 2 => cases hi
    · intro k blk hk
      simp only [look] at hk
      split at hk
      · rename_i e; have := Nat.eq_of_beq_eq_true e; omega
      · split at hk
        · rename_i e; have := Nat.eq_of_beq_eq_true e; omega
        · cases hk
    · intro i hi
      match i with
      | 0 => simp at hi
      | 1 => simp at hi
      | _ + 2 => rfl
    · intro k blk hk
      simp only [look] at hk
      split at hk
      · rename_i e
        have := Nat.eq_of_beq_eq_true e
        subst this
        cases hk
        refine ⟨cb, cc, cT, k1, k2, k3, k5, fun j hj => ?_⟩
        obtain rfl : j = 0 := by simpa using hj
        have q := k4 0 (by simp)
        have q : Rep w G0 ρ (okS cx ρ w) (.os lid sz 0 n) (cc.getD 0 undef) := q
        show Rep w G0 ρ1 _ (.os 1 sz 0 n) (cc.getD 0 undef)
        generalize cc.getD 0 undef = v at q ⊢
        cases q with
        | os _ _ _ _ blk cap off c T h1 h2 h3 h4 h5 => exact .os _ _ _ _ _ _ _ _ _ h1 h2 h3 h4 h5
        | osnil => exact .osnil _ _ _
      · split at hk
        · rename_i e
          have := Nat.eq_of_beq_eq_true e
          subst this
          cases hk
          exact (h.W.blocks lid _ hl).rows_ok (Nat.le_refl _) rfl (fun b hb => .inl ⟨okS_lt h.W hb, hnX b hb⟩)
        · cases hk
    · intro b hb; exact hb
  have hargs : RepL w G0 ρ1 (okS ⟨w, X, ok'⟩ ρ1 w) (args ++ [.p 0 0]) vs := by
    have hlen := hr.len
    refine ⟨by simpa using hlen, fun j hj => ?_⟩
    have hj' : j < args.length + 1 := by simpa using hj
    have r := hr.rep j (by simpa using hj')
    rcases Nat.lt_or_eq_of_le (Nat.le_of_lt_succ hj') with q | q
    · have e1 : getM (args ++ [MV.p cid 0]) j = getM args j := by unfold getM; rw [List.getD_eq_getElem?_getD, List.getElem?_append_left q, ← List.getD_eq_getElem?_getD]
      have e2 : getM (args ++ [MV.p 0 0]) j = getM args j := by unfold getM; rw [List.getD_eq_getElem?_getD, List.getElem?_append_left q, ← List.getD_eq_getElem?_getD]
      rw [e1] at r
      rw [e2]
      exact flatM_any (hfl j q) r
    · subst q
      have e1 : getM (args ++ [MV.p cid 0]) args.length = .p cid 0 := by unfold getM; simp [List.getD_eq_getElem?_getD]
      have e2 : getM (args ++ [MV.p 0 0]) args.length = .p 0 0 := by unfold getM; simp [List.getD_eq_getElem?_getD]
      rw [e1] at r
      rw [e2]
      generalize vs.getD args.length undef = v at r
      cases r with
      | p _ _ blk q => exact .p _ _ _ q
  refine (hf.calls ⟨w, X, ok'⟩ w ρ1 vs rfl hsat hargs).mono ?_
  rintro e w' ⟨v, ρ2, rfl, hb, e0, hf1, ⟨o0, b0⟩, ⟨o1, b1⟩, hm⟩
  have hb : BelowX X w w' := hb
  have e0 : ρ2 0 = ρ cid := e0
  have hf1 : ∀ b, ρ2 1 = some b → b < w'.heap.size ∧ (w.heap.size ≤ b ∨ X b) ∧ ρ cid ≠ some b := hf1
  have hkeep : ∀ b, b < w.heap.size → ¬ X b → w'.heap[b]? = w.heap[b]? := fun b h1 h2 => hb.block b h1 h2
  -- where the list lies now: where it lay, or in a new block
  have hnew : ∀ b, ρ2 1 = some b → ρ lid = some b ∨ w.heap.size ≤ b := fun b hb1 => by
    obtain ⟨_, q2, q3⟩ := hf1 b hb1
    rcases q2 with q | q | q
    · exact .inr q
    · exact absurd q q3
    · exact .inl q
  let ρ3 : RhoT := rhoSet ρ lid (ρ2 1)
  have r3l : ρ3 lid = ρ2 1 := by show rhoSet ρ lid (ρ2 1) lid = _; unfold rhoSet; rw [if_pos rfl]
  have r3n : ∀ i, i ≠ lid → ρ3 i = ρ i := fun i hi => by show rhoSet ρ lid (ρ2 1) i = _; unfold rhoSet; rw [if_neg hi]
  have hρ : ∀ i b, i ≠ lid → ρ i = some b → ρ3 i = some b := fun i b hi e => (r3n i hi).trans e
  have hok1 : ∀ b, okS cx ρ w b → okS cx ρ3 w' b ∧ w'.heap[b]? = w.heap[b]? := by
    intro b hb'
    refine ⟨?_, hkeep b (okS_lt h.W hb') (hnX b hb')⟩
    rcases hb' with q | q
    · exact .inl q
    · refine .inr ⟨q.1, Nat.lt_of_lt_of_le q.2.1 hb.size, fun i hi => ?_⟩
      by_cases hil : i = lid
      · subst hil
        rw [r3l] at hi
        rcases hnew b hi with z | z
        · exact q.2.2 _ z
        · have := q.2.1; omega
      · rw [r3n i hil] at hi
        exact q.2.2 i hi
  refine ⟨v, rfl, ρ3, ⟨⟨?_, ?_, ?_, ?_, ?_, ?_, h.W.okA⟩, ⟨h.F.defers, h.F.size, h.F.frame.purge hb.keeps hρ hok1⟩, h.K.purge hb.keeps hρ hok1⟩, flatT_any hf.flatr hm⟩
  · have ho := h.W.below
    refine ⟨hb.os.trans ho.os, hb.tape.trans ho.tape, hb.output.trans ho.output, Nat.le_trans ho.size hb.size, fun k hk hx => ?_, ho.keeps.trans hb.keeps⟩
    refine (hkeep k (Nat.lt_of_lt_of_le hk ho.size) fun hX' => ?_).trans (ho.block k hk hx)
    rcases (hXr k hX').2 with q | q
    · omega
    · exact hx q
  · intro i j b hi hj
    by_cases hil : i = lid
    · by_cases hjl : j = lid
      · rw [hil, hjl]
      · rw [hil, r3l] at hi
        rw [r3n j hjl] at hj
        rcases hnew b hi with z | z
        · rw [hil]; exact h.W.inj lid j b z hj
        · have := (h.W.rng j b hj).1; omega
    · rw [r3n i hil] at hi
      by_cases hjl : j = lid
      · rw [hjl, r3l] at hj
        rcases hnew b hj with z | z
        · rw [hjl]; exact h.W.inj i lid b hi z
        · have := (h.W.rng i b hi).1; omega
      · rw [r3n j hjl] at hj
        exact h.W.inj i j b hi hj
  · intro i b hi
    by_cases hil : i = lid
    · rw [hil, r3l] at hi
      obtain ⟨q1, q2, _⟩ := hf1 b hi
      refine ⟨q1, ?_⟩
      rcases q2 with q | q
      · have := h.W.below.size
        exact .inl (by omega)
      · exact (hXr b q).2
    · rw [r3n i hil] at hi
      have := h.W.rng i b hi
      exact ⟨Nat.lt_of_lt_of_le this.1 hb.size, this.2⟩
  · intro k blk hk
    dsimp only at hk ⊢
    rw [look_put] at hk
    split at hk
    · rename_i e; subst e; exact h.W.hlt _ _ hl
    · rw [look_put] at hk
      split at hk
      · rename_i e; subst e; exact h.W.hlt _ _ hc
      · obtain ⟨m', q1, _⟩ := look_purgeH hk
        exact h.W.hlt _ _ q1
  · intro i hi
    have hil : i ≠ lid := fun e => by subst e; have := h.W.hlt _ _ hl; dsimp only at hi; omega
    rw [r3n i hil]
    exact h.W.nx i hi
  · intro k blk hk
    dsimp only at hk
    rw [look_put] at hk
    split at hk
    · rename_i e
      subst e
      cases hk
      rcases b1 with ⟨z1, z2⟩ | ⟨b, c, T, p1, p2, p3, p5, p4⟩
      · exact .inl ⟨z1, r3l.trans z2⟩
      · exact .inr ⟨b, c, T, r3l.trans p1, p2, p3, p5, fun i hi j hj => flatM_any (hf.flat i hi j hj) (p4 i hi j hj)⟩
    · rename_i hkl
      rw [look_put] at hk
      split at hk
      · rename_i e
        subst e
        cases hk
        obtain ⟨b, c, T, p1, p2, p3, p5, p4⟩ := b0
        refine ⟨b, c, T, (r3n _ hne).trans (e0.symm.trans p1), p2, p3, p5, fun j hj => ?_⟩
        obtain rfl : j = 0 := by simpa using hj
        have q : Rep w' G0 ρ2 o0 (.os 1 sz 0 n') (c.getD 0 undef) := p4 0 (by simp)
        show Rep w' G0 ρ3 _ (.os lid sz 0 n') (c.getD 0 undef)
        generalize c.getD 0 undef = v at q ⊢
        cases q with
        | os _ _ _ _ blk cap off c T h1 h2 h3 h4 h5 => exact .os _ _ _ _ _ _ _ _ _ (r3l.trans h1) h2 h3 h4 h5
        | osnil => exact .osnil _ _ _
      · rename_i hkc
        obtain ⟨m', q1, rfl⟩ := look_purgeH hk
        refine (h.W.blocks k m' q1).purge hb.keeps hkl hρ (fun e => by rw [r3n k hkl]; exact e) hok1 (fun b hkb => hkeep b (h.W.rng k b hkb).1 fun hx => ?_)
        rcases hx with hx | hx
        · exact hkc (h.W.inj k cid b hkb hx)
        · exact hkl (h.W.inj k lid b hkb hx)
def splitP : List MV → Option (List MV × Nat)
  | [] => none
  | [.p cid 0] => some ([], cid)
  | m :: r => match flatM m with
    | true => match splitP r with
      | some (l, cid) => some (m :: l, cid)
      | none => none
    | false => none
theorem splitP_spec : ∀ {ms l : List MV} {cid : Nat}, splitP ms = some (l, cid) → ms = l ++ [.p cid 0] ∧ ∀ j, j < l.length → flatM (getM l j) = true
  | [], l, cid, h => by cases h
  | m :: r, l, cid, h => by
    unfold splitP at h
    split at h
    · cases h
    · rename_i cid' e
      cases e
      cases h
      exact ⟨rfl, fun j hj => absurd hj (Nat.not_lt_zero _)⟩
    · rename_i m' r' _ e
      cases e
      split at h
      · rename_i hm
        split at h
        · rename_i l' cid' hr
          cases h
          obtain ⟨q1, q2⟩ := splitP_spec hr
          refine ⟨by rw [q1]; rfl, fun j hj => ?_⟩
          cases j with
          | zero => exact hm
          | succ j => exact q2 j (by simpa using hj)
        · cases h
      · cases h
abbrev LT := Nat → Nat → (Nat → List MV) → List MV → Option (List Prop × Nat × (Nat → List MV) × MV)
def hndL (L : FuncId → Option LT) (call : CallT) : CallT := fun f ms S K => match L f with
  | none => call f ms S K
  | some u => match S with
    | ⟨F, stk, H, nx⟩ => match splitP ms with
      | some (args, cid) => match look H cid with
        | some (.cells [.os lid sz 0 n]) => match look H lid with
          | some (.rows sz' n0 g) => match Nat.beq sz sz' with
            | true => match u sz n g args with
              | some (ps, n', g', m) => match conjO ((n0 = n) :: ps) with
                | some p => Need p (forceF (purgeF lid F) fun F' => forceF (putL (putL (purgeH lid H) cid (.cells [.os lid sz 0 n'])) lid (.rows sz n' g')) fun H' => K m ⟨F', purgeS lid stk, H', nx⟩)
                | none => False
              | none => False
            | false => False
          | _ => False
        | _ => False
      | none => False
def LOK (P : Program) (L : FuncId → Option LT) : Prop := ∀ f u, L f = some u → ∀ sz n g args ps n' g' m, u sz n g args = some (ps, n', g', m) → AllP ps → CL P f sz n g args n' g' m
theorem hndL_sound {P : Program} {cx : Cx} {L : FuncId → Option LT} (hU : LOK P L) {call : CallT} (hc : CallH P cx call) : CallH P cx (hndL L call) := by
  intro f ms S K h su n G a w ρ vs hs hr
  unfold hndL at h
  split at h
  · exact hc f ms S K h su n G a w ρ vs hs hr
  · rename_i u hu
    split at h
    rename_i F stk H nx
    split at h
    · rename_i args cid hsp
      obtain ⟨rfl, hfl⟩ := splitP_spec hsp
      split at h
      · rename_i lid sz nn hl0
        split at h
        · rename_i sz' n0 g hl1
          split at h
          · rename_i hsz
            have hsz := Nat.eq_of_beq_eq_true hsz
            subst hsz
            split at h
            · rename_i ps n' g' m hps
              split at h
              · rename_i p hp
                have hall : AllP ((n0 = nn) :: ps) := conjO_all (fun q e => by rw [hp] at e; cases e; exact h.left.h)
                have hK := forceF_eq (forceF_eq h.right)
                have e : n0 = nn := hall _ (by simp)
                subst e
                have hcl := hU f u hu _ _ _ _ _ _ _ _ hps (fun q hq => hall q (by simp [hq]))
                rcases callL_sound hcl hs hl0 hl1 hfl hr with ⟨v, w', e, ρ', s2, r2⟩ | ⟨e, hcc⟩
                · exact .inl ⟨v, w', e, ⟨_, _, ρ', hK, s2, r2⟩⟩
                · refine .inr ⟨e, hcc.mono ?_⟩
                  rintro _ w' ⟨v, rfl, ρ', s2, r2⟩
                  exact ⟨v, rfl, ⟨_, _, ρ', hK, s2, r2⟩⟩
              · exact h.elim
            · exact h.elim
          · exact h.elim
        · exact h.elim
      · exact h.elim
    · exact h.elim
def lAdd (f : FuncId) (u : LT) (L : FuncId → Option LT) : FuncId → Option LT := fun h => match Nat.beq f h with
  | true => some u
  | false => L h
def L0 : FuncId → Option LT := fun _ => none
theorem L0_ok {P : Program} : LOK P L0 := fun _ _ h => by cases h
theorem LOK.add {P : Program} {L : FuncId → Option LT} (hL : LOK P L) {f : FuncId} {u : LT} (h : ∀ sz n g args ps n' g' m, u sz n g args = some (ps, n', g', m) → AllP ps → CL P f sz n g args n' g' m) : LOK P (lAdd f u L) := by
  intro f' u' e
  unfold lAdd at e
  split at e
  · rename_i hb
    have := Nat.eq_of_beq_eq_true hb
    subst this
    cases e
    exact h
  · exact hL _ _ e
theorem CL.leG {P : Program} {f : FuncId} {sz n n' : Nat} {g h g' : Nat → List MV} {args : List MV} {m : MV} (hc : CL P f sz n h args n' g' m) (hg : ∀ i, i < n → ∀ j, j < sz → getM (g i) j = getM (h i) j) : CL P f sz n g args n' g' m := by
  refine ⟨hc.enters, hc.flat, hc.flatr, fun cx w ρ vs hw hW hr => hc.calls cx w ρ vs hw ?_ hr⟩
  refine ⟨hW.below, hW.inj, hW.rng, fun id blk hl => ?_, hW.nx, fun id blk hl => ?_, hW.okA⟩
  · simp only [look] at hl
    split at hl
    · rename_i e; have := Nat.eq_of_beq_eq_true e; omega
    · split at hl
      · rename_i e; have := Nat.eq_of_beq_eq_true e; omega
      · cases hl
  · have h0 := hW.blocks 0 _ rfl
    have h1 := hW.blocks 1 (.rows sz n g) rfl
    simp only [look] at hl
    split at hl
    · rename_i e
      have := Nat.eq_of_beq_eq_true e
      subst this
      cases hl
      exact h0
    · split at hl
      · rename_i e
        have := Nat.eq_of_beq_eq_true e
        subst this
        cases hl
        rcases h1 with ⟨z1, z2⟩ | ⟨b, c, T, q1, q2, q3, q5, q4⟩
        · exact .inl ⟨z1, z2⟩
        · exact .inr ⟨b, c, T, q1, q2, q3, q5, fun i hi j hj => by rw [← hg i hi j hj]; exact q4 i hi j hj⟩
      · cases hl
end Go.Ev
