/-
  That each operation which the evaluator runs on model values is what the machine does, for every program; no condition.
-/
import Derived.Test.YtbehddngdjfkhaaEvI
import Derived.ChangeKeysEq
import Derived.Deep.DeepAppendWide
set_option linter.unusedSimpArgs false
set_option linter.unusedVariables false
namespace Go.Ev
theorem run_sliceBound {P : Program} (w : World) (k : IntKind) (z : Int) (y : Nat) (code : BoundsCode) (h0 : 0 ≤ z) (h1 : z ≤ y) :
    (Instr.sliceBound (.int k z) y code).run P w = .ok z.toNat w := by
  unfold Instr.sliceBound
  simp [asIntOf, h0, h1]
theorem run_sliceBounds {P : Program} (w : World) (n cap : Nat) (lo hi mx : Option Int) (kl kh km : IntKind) (hm : mx.isSome = true → hi.isSome = true)
    (h0 : 0 ≤ lo.getD 0) (h1 : lo.getD 0 ≤ hi.getD n) (h2 : hi.getD n ≤ mx.getD cap) (h3 : mx.getD cap ≤ cap) (h4 : hi = none → mx = none) :
    (Instr.sliceBounds true n cap (lo.map (Value.int kl)) (hi.map (Value.int kh)) (mx.map (Value.int km))).run P w =
      .ok ((lo.getD 0).toNat, (hi.getD n).toNat, (mx.getD cap).toNat) w := by
  unfold Instr.sliceBounds
  cases mx with
  | none =>
    simp only [Option.getD_none] at h2 h3
    cases hi with
    | none =>
      simp only [Option.getD_none] at h1 h2
      cases lo with
      | none => simp
      | some l =>
        simp only [Option.getD_some] at h0 h1
        simp [run_sliceBound w kl l n .sliceB h0 h1]
    | some h =>
      simp only [Option.getD_some] at h1 h2
      cases lo with
      | none =>
        simp only [Option.getD_none] at h1
        simp [run_sliceBound w kh h cap .sliceAcap h1 h2]
      | some l =>
        simp only [Option.getD_some] at h0 h1
        simp [run_sliceBound w kh h cap .sliceAcap (by omega) h2, run_sliceBound w kl l h.toNat .sliceB h0 (by omega)]
  | some x =>
    simp only [Option.getD_some] at h2 h3
    cases hi with
    | none => simp at hm
    | some h =>
      simp only [Option.getD_some] at h1 h2
      cases lo with
      | none =>
        simp only [Option.getD_none] at h1
        simp [run_sliceBound w km x cap .slice3Acap (by omega) h3, run_sliceBound w kh h x.toNat .slice3B h1 (by omega)]
      | some l =>
        simp only [Option.getD_some] at h0 h1
        simp [run_sliceBound w km x cap .slice3Acap (by omega) h3, run_sliceBound w kh h x.toNat .slice3B (by omega) (by omega), run_sliceBound w kl l h.toNat .slice3C h0 (by omega)]
theorem evSlice_sound {E : Env} (hE : ∀ t i, E.ty t = some i → TyOK E.P t i) {t : TypeId} {x m : MV} {lo hi mx : Option Int} {c : Prop} (h : evSlice E t x lo hi mx = some (c, m)) (hc : c)
    (hm : mx.isSome = true → hi.isSome = true) {w : World} {G : GT} {ρ : RhoT} {ok : OkT} {v : Value} (r : Rep w G ρ ok x v) (kl kh km : IntKind) :
    ∃ u, (Instr.sliceAt t v (lo.map (Value.int kl)) (hi.map (Value.int kh)) (mx.map (Value.int km))).run E.P w = .ok u w ∧ Rep w G ρ ok m u := by
  have h4 : hi = none → mx = none := by
    intro e; subst e
    cases mx
    · rfl
    · simp at hm
  unfold evSlice at h
  split at h
  · rename_i e _ _ _ ht
    have hu := und_slice hE ht
    split at h
    · cases h
    · rename_i j hj
      have run : ∀ (a : Option Addr) (n cap : Nat), (0 ≤ lo.getD 0 ∧ lo.getD 0 ≤ hi.getD n ∧ hi.getD n ≤ mx.getD cap ∧ mx.getD cap ≤ cap) →
          (Instr.sliceAt t (.slice a n cap) (lo.map (Value.int kl)) (hi.map (Value.int kh)) (mx.map (Value.int km))).run E.P w =
            .ok (.slice (if (mx.getD cap).toNat = (lo.getD 0).toNat then a else a.map (·.add ((lo.getD 0).toNat * j.size))) ((hi.getD n).toNat - (lo.getD 0).toNat) ((mx.getD cap).toNat - (lo.getD 0).toNat)) w := by
        intro a n cap ⟨g0, g1, g2, g3⟩
        have hb := run_sliceBounds (P := E.P) w n cap lo hi mx kl kh km hm g0 g1 g2 g3 h4
        unfold Instr.sliceAt
        simp only [Sem.run_bind, run_underlying hu, Result.andThen_ok]
        unfold Instr.slice
        simp only [Sem.run_bind, run_underlying hu, Result.andThen_ok, hb, (hE _ _ hj).run_sizeOf, Sem.run_pure]
      have wid : ∀ {n c cap : Nat}, n ≤ cap → c ≤ cap → (0 ≤ lo.getD 0 ∧ lo.getD 0 ≤ hi.getD n ∧ hi.getD n ≤ mx.getD c ∧ mx.getD c ≤ c) → (0 ≤ lo.getD 0 ∧ lo.getD 0 ≤ hi.getD n ∧ hi.getD n ≤ mx.getD cap ∧ mx.getD cap ≤ cap) := by
        intro n c cap hn hcc ⟨g0, g1, g2, g3⟩
        refine ⟨g0, g1, ?_, ?_⟩
        · cases mx <;> simp at g2 g3 ⊢ <;> omega
        · cases mx <;> simp at g3 ⊢ <;> omega
      -- a list of its own, room or not
      have own : ∀ {id l n c blk cap off : Nat} {C : Array Value} {T : TypeId}, ρ id = some blk → n ≤ cap → c ≤ cap → (off = l * j.size ∨ cap = 0) → w.heap[blk]? = some (.cells C T (0, 0)) → (l + cap) * j.size ≤ C.size →
          (0 ≤ lo.getD 0 ∧ lo.getD 0 ≤ hi.getD n ∧ hi.getD n ≤ mx.getD c ∧ mx.getD c ≤ c) →
          ∃ u, (Instr.sliceAt t (.slice (some ⟨blk, off, none⟩) n cap) (lo.map (Value.int kl)) (hi.map (Value.int kh)) (mx.map (Value.int km))).run E.P w = .ok u w ∧ Rep w G ρ ok (slM id j.size l n c lo hi mx) u := by
        intro id l n c blk cap off C T hρ hn hcc hoff hb hcap hc
        have hc' := wid hn hcc hc
        refine ⟨_, run _ _ _ hc', ?_⟩
        have hmc : (mx.getD cap).toNat ≤ cap ∧ (hi.getD n).toNat ≤ (mx.getD cap).toNat ∧ (lo.getD 0).toNat ≤ (hi.getD n).toNat := by
          obtain ⟨g0, g1, g2, g3⟩ := hc'
          cases mx <;> simp at g2 g3 ⊢ <;> omega
        have hcap' : (l + (lo.getD 0).toNat + ((mx.getD cap).toNat - (lo.getD 0).toNat)) * j.size ≤ C.size :=
          Nat.le_trans (Nat.mul_le_mul_right _ (by omega)) hcap
        have plain : Rep w G ρ ok (.os id j.size (l + (lo.getD 0).toNat) ((hi.getD n).toNat - (lo.getD 0).toNat)) (.slice (if (mx.getD cap).toNat = (lo.getD 0).toNat then some ⟨blk, off, none⟩ else (some (⟨blk, off, none⟩ : Addr)).map (·.add ((lo.getD 0).toNat * j.size))) ((hi.getD n).toNat - (lo.getD 0).toNat) ((mx.getD cap).toNat - (lo.getD 0).toNat)) := by
          split
          · rename_i he
            refine .os id _ _ _ blk _ off C T hρ (by omega) (.inr (by omega)) hb hcap'
          · rename_i he
            simp only [Option.map_some, addr_add]
            refine .os id _ _ _ blk _ _ C T hρ (by omega) (.inl ?_) hb hcap'
            rcases hoff with e | e
            · rw [e, Nat.add_mul]
            · omega
        clear h
        unfold slM
        split
        · rename_i z
          split
          · simp only [Option.getD_none, Int.toNat_zero, Nat.zero_add, Nat.sub_zero, Option.getD_some, Int.toNat_natCast, Nat.zero_mul] at hmc hcap' hoff ⊢
            split
            · exact .oc id _ _ _ blk _ off C T hρ (by omega) (by omega) (by omega) hb hcap'
            · simp only [Option.map_some, addr_add, Nat.add_zero]
              exact .oc id _ _ _ blk _ off C T hρ (by omega) (by omega) (by omega) hb hcap'
          · simpa using plain
        · exact plain
      have own0 : ∀ {id l : Nat}, (0 ≤ lo.getD 0 ∧ lo.getD 0 ≤ hi.getD ((0 : Nat) : Int) ∧ hi.getD ((0 : Nat) : Int) ≤ mx.getD ((0 : Nat) : Int) ∧ mx.getD ((0 : Nat) : Int) ≤ ((0 : Nat) : Int)) →
          ∃ u, (Instr.sliceAt t (.slice none 0 0) (lo.map (Value.int kl)) (hi.map (Value.int kh)) (mx.map (Value.int km))).run E.P w = .ok u w ∧ Rep w G ρ ok (slM id j.size l 0 0 lo hi mx) u := by
        intro id l hc'
        have g := hc'
        obtain ⟨g0, g1, g2, g3⟩ := g
        refine ⟨_, run _ _ _ hc', ?_⟩
        have e1 : (lo.getD 0).toNat = 0 := by cases mx <;> simp at g2 g3 <;> omega
        have e2 : (hi.getD ((0 : Nat) : Int)).toNat = 0 := by cases mx <;> simp at g2 g3 ⊢ <;> omega
        have e3 : (mx.getD ((0 : Nat) : Int)).toNat = 0 := by cases mx <;> simp at g3 ⊢ <;> omega
        rw [e1, e2, e3]
        clear h
        unfold slM
        split
        · rename_i z
          have e4 : z.toNat = 0 := e2
          rw [e4]
          split
          · exact .ocnil id _
          · exact .osnil id _ _
        · rw [e1, e2]; exact .osnil id _ _
      split at h
      · rename_i id sz l n
        split at h
        · rename_i hsz
          have hsz := Nat.eq_of_beq_eq_true hsz
          subst hsz
          cases h
          cases r with
          | os _ _ _ _ blk cap off C T hρ hn hoff hb hcap => exact own hρ hn hn hoff hb hcap hc
          | osnil => exact own0 hc
        · cases h
      · rename_i id sz n room
        split at h
        · rename_i hsz
          have hsz := Nat.eq_of_beq_eq_true hsz
          subst hsz
          cases h
          cases r with
          | oc _ _ _ _ blk cap off C T hρ hn hr hoff hb hcap => exact own hρ hn hr (by rw [Nat.zero_mul]; exact hoff) hb (by rw [Nat.zero_add]; exact hcap) hc
          | ocnil => exact own0 hc
        · cases h
      · rename_i sz n get
        split at h
        · rename_i hsz
          have hsz := Nat.eq_of_beq_eq_true hsz
          subst hsz
          cases h
          have hc' := hc
          obtain ⟨g0, g1, g2, g3⟩ := hc
          cases r with
          | ro _ _ _ blk off cap u hn hok hcell h1c hr =>
            refine ⟨_, run _ _ _ (wid hn hn hc'), ?_⟩
            have hmc : (mx.getD cap).toNat ≤ cap ∧ (hi.getD n).toNat ≤ (mx.getD cap).toNat ∧ (lo.getD 0).toNat ≤ (hi.getD n).toNat ∧ (hi.getD n).toNat ≤ n := by
              cases mx <;> simp at g2 g3 ⊢ <;> omega
            split
            · rename_i he
              have e0 : (hi.getD n).toNat - (lo.getD 0).toNat = 0 := by omega
              rw [e0]
              exact .ro _ 0 _ blk off _ u (Nat.zero_le _) (fun h => absurd h (by omega)) (fun i hi => absurd hi (by omega)) (fun i hi => absurd hi (by omega)) (fun i hi => absurd hi (by omega))
            · simp only [Option.map_some, addr_add]
              refine .ro _ _ _ blk _ _ (fun i k => u ((lo.getD 0).toNat + i) k) (by omega) (fun hp => hok (by omega)) (fun i hi k hk => ?_) (fun i hi k hk => h1c _ (by omega) k hk) (fun i hi k hk => hr _ (by omega) k hk)
              have := hcell ((lo.getD 0).toNat + i) (by omega) k hk
              rw [Nat.add_mul, Nat.add_assoc] at this
              rw [Nat.add_assoc]; exact this
          | ronil =>
            refine ⟨_, run _ _ _ hc', ?_⟩
            have e1 : (lo.getD 0).toNat = 0 := by cases mx <;> simp at g2 g3 <;> omega
            have e2 : (hi.getD ((0 : Nat) : Int)).toNat = 0 := by cases mx <;> simp at g2 g3 ⊢ <;> omega
            have e3 : (mx.getD ((0 : Nat) : Int)).toNat = 0 := by cases mx <;> simp at g3 ⊢ <;> omega
            rw [e1, e2, e3]
            exact .ronil _ _
        · cases h
      · cases h
  · cases h
end Go.Ev

namespace Go.Ev
structure EqOK (P : Program) (t : TypeId) : Prop where
  held : P.stoodInHeld t = false
  guard : P.eqGuardType P.depth t = false
  blank : ∀ f ∈ (P.fieldsOf t).toList, f.name ≠ "_"
def eqOKB (P : Program) (t : TypeId) : Bool := !P.stoodInHeld t && !P.eqGuardType P.depth t && (P.fieldsOf t).toList.all (fun f => f.name != "_")
theorem EqOK.of {P : Program} {t : TypeId} (h : eqOKB P t = true) : EqOK P t := by
  unfold eqOKB at h
  simp only [Bool.and_eq_true, Bool.not_eq_true', List.all_eq_true, bne_iff_ne, ne_eq] at h
  exact ⟨h.1.1, h.1.2, h.2⟩
theorem run_equalIn_float {P : Program} (d : Nat) {t : TypeId} {k k' : FloatKind} {a b : Nat} (h : P.underlying t = some (.float k')) (w : World) :
    (Op.equalIn (d + 1) t (.float k a) (.float k b)).run P w = .ok (Op.floatEq k a b) w := by
  simp [Op.equalIn, run_underlying h]
theorem evEq_sound {E : Env} (hT : ∀ t i, E.ty t = some i → TyOK E.P t i) (hQ : ∀ t, E.eqs t = true → EqOK E.P t) {w : World} {G : GT} {ρ : RhoT} {ok : OkT} : ∀ {m : Nat} {t : TypeId} {x y : MV} {b : Bool}, evEq E m t x y = some b →
    ∀ {v u : Value}, Rep w G ρ ok x v → Rep w G ρ ok y u → ∀ {d : Nat}, m ≤ d → (Op.equalIn d t v u).run E.P w = .ok b w
  | 0, t, x, y, b, h => by simp [evEq] at h
  | m + 1, t, x, y, b, h => by
    rename_i v u
    intro r s d hd
    obtain ⟨d, rfl⟩ : ∃ d', d = d' + 1 := ⟨d - 1, by omega⟩
    have hd : m ≤ d := by omega
    unfold evEq at h
    split at h
    · rename_i ht
      obtain ⟨dd, h1, h2⟩ := (hT _ _ ht).und
      cases dd <;> simp [descIs] at h2
      split at h
      · split at h
        · rename_i hk
          have := sameInt_eq hk; subst this
          cases h
          cases r; cases s
          exact run_equalIn_int w d t _ _ _ _ h1
        · cases h
      · cases h
    · rename_i ht
      obtain ⟨dd, h1, h2⟩ := (hT _ _ ht).und
      cases dd <;> simp [descIs] at h2
      split at h
      · split at h
        · rename_i hk
          have := sameFlt_eq hk; subst this
          cases h
          cases r with
          | f k r' x hr =>
            cases s with
            | f k s' y hs =>
              rw [run_equalIn_float d h1 w]
              unfold Op.floatEq feq
              rw [hr.order hs]
        · cases h
      · cases h
    · rename_i ht
      obtain ⟨dd, h1, h2⟩ := (hT _ _ ht).und
      cases dd <;> simp [descIs] at h2
      split at h
      · rename_i a b' ha hb
        cases h
        have one : ∀ {z : MV} {c : Bool} {q : Value}, boolM z = some c → Rep w G ρ ok z q → q = .bool c := by
          intro z c q hz hr
          unfold boolM at hz
          split at hz
          · cases hz; cases hr; rfl
          · cases hz; cases hr; rfl
          · cases hz
        rw [one ha r, one hb s]
        exact run_equalIn_bool w d t _ _ h1
      · cases h
    · rename_i fs _ _ _ ht
      split at h
      · cases h
      · rename_i hq
        have hq := hQ _ hq
        obtain ⟨dd, h1, h2⟩ := (hT _ _ ht).und
        split at h
        · rename_i l l'
          cases r with
          | agg _ vs hl hr =>
            cases s with
            | agg _ us hl' hs =>
              cases dd <;> simp only [descIs] at h2
              rename_i gs
              have hf : E.P.fieldsOf t = gs := by unfold Program.fieldsOf; rw [h1]
              rw [run_equalIn_struct w d t vs us (by rw [hf]; exact h1) hq.held, hf]
              have hbl := hq.blank
              rw [hf] at hbl
              have key : ∀ (gl : List Field) (b : Bool), (∀ f ∈ gl, f.name ≠ "_") → evEqF E (evEq E m) l l' (gl.map fun f => (f.offset, f.type)) = some b → (Op.eqFields d vs us gl).run E.P w = .ok b w := by
                intro gl
                induction gl with
                | nil => intro b _ h; simp [evEqF] at h; subst h; rfl
                | cons f r ih =>
                  intro b hb h
                  simp only [List.map_cons] at h
                  unfold evEqF at h
                  split at h
                  · cases h
                  · rename_i i hi
                    split at h
                    · cases h
                    · rename_i a ha
                      split at h
                      · cases h
                      · rename_i c hc
                        split at h
                        · cases h
                        · rename_i p hp
                          split at h
                          · cases h
                          · rename_i q hq'
                            cases h
                            obtain ⟨v1, e1, r1⟩ := part_sound (hT _ _ hi) hl hr ha
                            obtain ⟨v2, e2, r2⟩ := part_sound (hT _ _ hi) hl' hs hc
                            have e3 := evEq_sound hT hQ hp r1 r2 hd
                            have hn := hb f (by simp)
                            unfold Op.eqFields
                            rw [if_pos hn]
                            simp only [Sem.run_bind, e1, e2, e3, Result.andThen_ok]
                            cases p
                            · simp
                            · simp only [Bool.not_true, Bool.false_eq_true, if_false, Bool.true_and]
                              exact ih q (fun g hg => hb g (by simp [hg])) hq'
              refine key gs.toList b hbl ?_
              rw [← h2]; exact h
        · cases h
    · rename_i n e _ _ _ ht
      obtain ⟨dd, h1, h2⟩ := (hT _ _ ht).und
      split at h
      · cases h
      · rename_i i hi
        split at h
        · rename_i l l'
          cases r with
          | agg _ vs hl hr =>
            cases s with
            | agg _ us hl' hs =>
              cases dd <;> simp only [descIs] at h2
              obtain ⟨q1, q2⟩ := h2
              rw [q1, q2] at h1
              obtain ⟨info, i1, i2, _⟩ := (hT _ _ hi).info
              rw [run_equalIn_array w d vs us h1 i1]
              have hsz : E.P.cellsOf e = i.size := by unfold Program.cellsOf; rw [i1]; exact i2
              rw [hsz]
              have key : ∀ (c k : Nat) (b : Bool), evEqA (evEq E m e) i l l' k c = some b → (Op.eqItems d e i.size vs us (List.range' k c)).run E.P w = .ok b w := by
                intro c
                induction c with
                | zero => intro k b h; simp [evEqA] at h; subst h; rfl
                | succ c ih =>
                  intro k b h
                  unfold evEqA at h
                  split at h
                  · cases h
                  · rename_i a ha
                    split at h
                    · cases h
                    · rename_i c' hc
                      split at h
                      · cases h
                      · rename_i p hp
                        split at h
                        · cases h
                        · rename_i q hq'
                          cases h
                          obtain ⟨v1, e1, r1⟩ := part_sound (hT _ _ hi) hl hr ha
                          obtain ⟨v2, e2, r2⟩ := part_sound (hT _ _ hi) hl' hs hc
                          have e3 := evEq_sound hT hQ hp r1 r2 hd
                          rw [List.range'_succ]
                          unfold Op.eqItems
                          simp only [Sem.run_bind, e1, e2, e3, Result.andThen_ok]
                          cases p
                          · simp
                          · simp only [Bool.not_true, Bool.false_eq_true, if_false, Bool.true_and]
                            exact ih (k + 1) q hq'
              rw [List.range_eq_range']
              exact key n 0 b h
        · cases h
    · cases h
theorem evAgg_sound {E : Env} (hT : ∀ t i, E.ty t = some i → TyOK E.P t i) (hQ : ∀ t, E.eqs t = true → EqOK E.P t) {w : World} {G : GT} {ρ : RhoT} {ok : OkT} {o : BinOp} {t : TypeId} {x y m : MV} (h : evAgg E o t x y = some m)
    {v u : Value} (r : Rep w G ρ ok x v) (s : Rep w G ρ ok y u) (a c : Operand) : (eqGuard o t a c v u).run E.P w = .ok () w ∧ ∃ q, (binOp o t v u).run E.P w = .ok q w ∧ Rep w G ρ ok m q := by
  unfold evAgg at h
  split at h
  · rename_i l l'
    split at h
    · cases h
    · rename_i hq
      split at h
      · cases h
      · rename_i b hb
        have he := fun d hd => evEq_sound hT hQ hb r s (d := d) hd
        cases r with
        | agg _ vs hl hr =>
          cases s with
          | agg _ us hl' hs =>
            refine ⟨run_eqGuard_agg w o t a c vs us (hQ _ hq).guard, ?_⟩
            split at h
            · cases h
              exact ⟨.bool b, by rw [run_eql_struct, he 10000 (by decide)]; rfl, .b _⟩
            · cases h
              exact ⟨.bool (!b), by rw [run_neq_struct, he 10000 (by decide)]; rfl, .b _⟩
            · cases h
  · cases h
end Go.Ev

namespace Go.Ev
structure RepL (w : World) (G : GT) (ρ : RhoT) (ok : OkT) (ms : List MV) (vs : List Value) : Prop where
  len : ms.length = vs.length
  rep : ∀ j, j < ms.length → Rep w G ρ ok (getM ms j) (vs.getD j undef)
def keepO : Op → Bool
  | .move _ => true
  | .assign _ => true
  | .slice _ _ _ _ _ => true
  | _ => false
def nrmL : List MV → List MV
  | [] => []
  | m :: r => match m with
    | .oc id sz n _ => .os id sz 0 n :: nrmL r
    | m => m :: nrmL r
def opN (op : Op) (ms : List MV) : List MV := match keepO op with
  | true => ms
  | false => nrmL ms
theorem nrmL_len : ∀ l : List MV, (nrmL l).length = l.length
  | [] => rfl
  | m :: r => by unfold nrmL; split <;> simp [nrmL_len r]
theorem nrmL_get : ∀ (l : List MV) (j : Nat), getM (nrmL l) j = normO (getM l j)
  | [], j => by simp [nrmL, getM, normO]
  | m :: r, 0 => by
    unfold nrmL
    split
    · rfl
    · rename_i h
      show m = normO m
      unfold normO
      split
      · exact absurd rfl (h _ _ _ _)
      · rfl
  | m :: r, j + 1 => by
    have := nrmL_get r j
    unfold nrmL
    split <;> simpa [getM] using this
theorem RepL.norm {w : World} {G : GT} {ρ : RhoT} {ok : OkT} {ms : List MV} {vs : List Value} (h : RepL w G ρ ok ms vs) : RepL w G ρ ok (nrmL ms) vs :=
  ⟨(nrmL_len ms).trans h.len, fun j hj => by rw [nrmL_get]; exact (h.rep j (by rw [nrmL_len] at hj; exact hj)).norm⟩
theorem RepL.opN {w : World} {G : GT} {ρ : RhoT} {ok : OkT} {ms : List MV} {vs : List Value} (op : Op) (h : RepL w G ρ ok ms vs) : RepL w G ρ ok (opN op ms) vs := by
  unfold Go.Ev.opN
  split
  · exact h
  · exact h.norm
theorem RepL.one {w : World} {G : GT} {ρ : RhoT} {ok : OkT} {m : MV} {v : Value} (h : RepL w G ρ ok [m] [v]) : Rep w G ρ ok m v := by simpa [getM] using h.rep 0 (by simp)
theorem RepL.two {w : World} {G : GT} {ρ : RhoT} {ok : OkT} {m n : MV} {v u : Value} (h : RepL w G ρ ok [m, n] [v, u]) : Rep w G ρ ok m v ∧ Rep w G ρ ok n u :=
  ⟨by simpa [getM] using h.rep 0 (by simp), by simpa [getM] using h.rep 1 (by simp)⟩
theorem RepL.three {w : World} {G : GT} {ρ : RhoT} {ok : OkT} {m n l : MV} {v u x : Value} (h : RepL w G ρ ok [m, n, l] [v, u, x]) : Rep w G ρ ok m v ∧ Rep w G ρ ok n u ∧ Rep w G ρ ok l x :=
  ⟨by simpa [getM] using h.rep 0 (by simp), by simpa [getM] using h.rep 1 (by simp), by simpa [getM] using h.rep 2 (by simp)⟩
theorem RepL.four {w : World} {G : GT} {ρ : RhoT} {ok : OkT} {m n l q : MV} {v u x y : Value} (h : RepL w G ρ ok [m, n, l, q] [v, u, x, y]) : Rep w G ρ ok m v ∧ Rep w G ρ ok n u ∧ Rep w G ρ ok l x ∧ Rep w G ρ ok q y :=
  ⟨by simpa [getM] using h.rep 0 (by simp), by simpa [getM] using h.rep 1 (by simp), by simpa [getM] using h.rep 2 (by simp), by simpa [getM] using h.rep 3 (by simp)⟩
theorem load_pe_sound {E : Env} (hE : ∀ t i, E.ty t = some i → TyOK E.P t i) {cx : Cx} {ρ : RhoT} {H : List (Nat × Blk)} {nx : Nat} {w : World} (hW : SatW cx ρ H nx w) {t id sz i j n : Nat} {ti : TI}
    {get : Nat → List MV} {l : List MV} {m : MV} (ht : E.ty t = some ti) (hl : look H id = some (.rows sz n get)) (hk : takeM sz (get i) = some l) (hp : partM ti l j = some m) (hi : i < n)
    {G : GT} {v : Value} (r : Rep w G ρ (okS cx ρ w) (.pe id sz i j) v) : ∃ u, (Instr.loadAt t v).run E.P w = .ok u w ∧ Rep w G ρ (okS cx ρ w) m u := by
  obtain ⟨t1, t2, t3⟩ := takeM_spec hk
  have hb := hW.blocks _ _ hl
  cases r with
  | pe _ _ _ _ blk hρ =>
    rcases hb with ⟨h0, _⟩ | ⟨b, c, T, h1, h2, h3, _, h4⟩
    · omega
    · obtain rfl : b = blk := by rw [hρ] at h1; exact (Option.some.inj h1).symm
      have hin : i * sz + sz ≤ n * sz := by rw [← Nat.succ_mul]; exact Nat.mul_le_mul_right _ hi
      have := load_sound (hE _ _ ht) (w := w) (G := G) (ρ := ρ) (ok := okS cx ρ w) (l := l) (b := b) (off0 := i * sz) (off := j) (u := fun k => c.getD (i * sz + k) undef)
        (fun k hk => cell?_cells h2 (by omega)) (fun k hk => by
          rw [t3 k (by omega)]
          exact (h4 i hi k (by omega)).mono (Keeps.refl w) (fun _ _ _ e => by simp [G0] at e) (fun _ _ e => by simp [rho0] at e) (fun _ e => ⟨e, rfl⟩)) hp
      obtain ⟨u, e, hu⟩ := this
      refine ⟨u, ?_, hu⟩
      simp only [Instr.loadAt, Instr.sureAddr, Sem.run_bind, Sem.run_pure, Result.andThen_ok]
      exact e
theorem run_shl {P : Program} {w : World} {t : TypeId} {k k' : IntKind} {a b : Int} (h : 0 ≤ b) : (binOp .shl t (.int k a) (.int k' b)).run P w = .ok (.int k (ishl k a b)) w := by
  simp only [binOp, Op.shift, ishl]
  rw [if_neg (by omega)]
  rfl
theorem run_shr {P : Program} {w : World} {t : TypeId} {k k' : IntKind} {a b : Int} (h : 0 ≤ b) : (binOp .shr t (.int k a) (.int k' b)).run P w = .ok (.int k (ishr k a b)) w := by
  simp only [binOp, Op.shift, ishr]
  rw [if_neg (by omega)]
  rfl
theorem run_quo {P : Program} {w : World} {t : TypeId} {k : IntKind} {a b : Int} (h : b ≠ 0) : (binOp .quo t (.int k a) (.int k b)).run P w = .ok (.int k (k.wrap (a.tdiv b))) w := by
  simp [binOp, Op.intDiv, h]
theorem run_rem {P : Program} {w : World} {t : TypeId} {k : IntKind} {a b : Int} (h : b ≠ 0) : (binOp .rem t (.int k a) (.int k b)).run P w = .ok (.int k (a.tmod b)) w := by
  simp [binOp, Op.intDiv, h]
theorem Rep.flt_inv {w : World} {G : GT} {ρ : RhoT} {ok : OkT} {k : FloatKind} {x : Nat} {v : Value} (h : Rep w G ρ ok (.f k x) v) : ∃ r, v = .float k r ∧ FR k r x := by cases h with | f _ r _ h => exact ⟨r, rfl, h⟩
theorem Rep.int_inv {w : World} {G : GT} {ρ : RhoT} {ok : OkT} {k : IntKind} {n : Int} {v : Value} (h : Rep w G ρ ok (.i k n) v) : v = .int k n := by cases h; rfl
theorem run_eqGuard {P : Program} {w : World} {op : BinOp} {t : TypeId} {x y : Operand} {a b : Value} (ha : ∀ cs, a ≠ .agg cs) (hn : a ≠ .nilIface) : (eqGuard op t x y a b).run P w = .ok () w := by
  unfold eqGuard
  cases a <;> first | exact absurd rfl hn | exact absurd rfl (ha _) | (cases op <;> first | rfl | (cases b <;> rfl))
theorem isPtr_spec {m : MV} (h : isPtr m = true) {w : World} {G : GT} {ρ : RhoT} {ok : OkT} {v : Value} (r : Rep w G ρ ok m v) : ∃ a, v = .pointer (some a) := by
  cases m <;> simp [isPtr] at h
  · cases r; exact ⟨_, rfl⟩
  · cases r; exact ⟨_, rfl⟩
  · cases r; exact ⟨_, rfl⟩
theorem litInt_spec {x : Operand} {n : Int} (h : litInt x = some n) (f : Operand → Value) (hf : ∀ v, f (.const v) = v) : ∃ k, f x = .int k n := by
  unfold litInt at h
  split at h
  · cases h; exact ⟨_, hf _⟩
  · cases h
structure EnvOK (E : Env) : Prop where
  ty : ∀ t i, E.ty t = some i → TyOK E.P t i
  eqs : ∀ t, E.eqs t = true → EqOK E.P t
def Gives (P : Program) (f : Operand → Value) (o : Oper) (w : World) (v : Value) (w' : World) : Prop := (execOp f o).run P w = .ok (.value v) w'
theorem evBin_ne {E : Env} {o : BinOp} {t : TypeId} {x y m : MV} (h : evBin E o t x y = some m) {w : World} {G : GT} {ρ : RhoT} {ok : OkT} {v : Value} (r : Rep w G ρ ok x v) :
    (∀ cs, v ≠ .agg cs) ∧ v ≠ .nilIface := by
  unfold evBin at h
  split at h <;> first | (cases h; done) | (cases r; exact ⟨by simp, by simp⟩)
set_option maxHeartbeats 1600000 in
theorem evPm_sound {E : Env} (hE : EnvOK E) {cx : Cx} {ρ : RhoT} {H : List (Nat × Blk)} {nx : Nat} {w : World} (hW : SatW cx ρ H nx w) {op : Op} {ms : List MV} {c : Option Prop} {m : MV}
    (h : evPm E H op ms = some (c, m)) (hc : ∀ p, c = some p → p) {G : GT} {f : Operand → Value} (hf : ∀ v, f (.const v) = v) (hr : RepL w G ρ (okS cx ρ w) ms ((operL op).map f))
    (o : Oper) (ho : o.op = op) : ∃ v k, Gives E.P f o w v { w with drawn := k } ∧ Rep w G ρ (okS cx ρ w) m v := by
  obtain ⟨dst, op', ty, pos, after, guard⟩ := o
  dsimp only at ho
  subst ho
  unfold Gives
  have hT := hE.ty
  unfold evPm at h
  split at h
  · -- move
    cases h
    exact ⟨_, w.drawn, rfl, hr.one⟩
  · cases h
    exact ⟨_, w.drawn, rfl, hr.one⟩
  · -- load pe
    split at h
    · cases h
    · rename_i ti ht
      split at h
      · rename_i sz' n get hl
        split at h
        · cases h
        · rename_i hsz
          have hsz := Nat.eq_of_beq_eq_true hsz
          subst hsz
          split at h
          · cases h
          · rename_i l hk
            split at h
            · cases h
            · rename_i m' hp
              cases h
              obtain ⟨u, e, hu⟩ := load_pe_sound hT hW ht hl hk hp (hc _ rfl) hr.one
              exact ⟨u, w.drawn, by simp only [execOp, Sem.run_bind, e, Result.andThen_ok, Sem.run_pure], hu⟩
      · cases h
  · split at h
    · rename_i m' hm
      cases h
      obtain ⟨u, e, hu⟩ := evLoad_sound hT hW hm hr.one
      exact ⟨u, w.drawn, by simp only [execOp, Sem.run_bind, e, Result.andThen_ok, Sem.run_pure], hu⟩
    · cases h
  · -- nilCheck
    rename_i x y
    split at h
    · rename_i hp
      cases h
      have r := hr.one
      refine ⟨_, w.drawn, ?_, r⟩
      obtain ⟨a, ha⟩ := isPtr_spec hp r
      simp only [execOp, ha]
      rfl
    · cases h
  · -- shl
    rename_i t1 x y t2 k a k' b
    obtain ⟨r1, r2⟩ := hr.two
    have g := run_eqGuard (P := E.P) (w := w) (op := .shl) (t := t1) (x := x) (y := y) (a := f x) (b := f y) (by rw [r1.int_inv]; simp) (by rw [r1.int_inv]; simp)
    split at h
    · rename_i n hl
      cases h
      obtain ⟨q, e⟩ := litInt_spec hl f hf
      refine ⟨_, w.drawn, ?_, .i _ _⟩
      simp only [execOp, Sem.run_bind, g, Result.andThen_ok]
      rw [r1.int_inv, e, run_shl (show (0 : Int) ≤ Int.ofNat n from Int.natCast_nonneg n)]
      rfl
    · cases h
      refine ⟨_, w.drawn, ?_, .i _ _⟩
      simp only [execOp, Sem.run_bind, g, Result.andThen_ok]
      rw [r1.int_inv, r2.int_inv, run_shl (hc _ rfl)]
      rfl
  · -- shr
    rename_i t1 x y t2 k a k' b
    obtain ⟨r1, r2⟩ := hr.two
    have g := run_eqGuard (P := E.P) (w := w) (op := .shr) (t := t1) (x := x) (y := y) (a := f x) (b := f y) (by rw [r1.int_inv]; simp) (by rw [r1.int_inv]; simp)
    split at h
    · rename_i n hl
      cases h
      obtain ⟨q, e⟩ := litInt_spec hl f hf
      refine ⟨_, w.drawn, ?_, .i _ _⟩
      simp only [execOp, Sem.run_bind, g, Result.andThen_ok]
      rw [r1.int_inv, e, run_shr (show (0 : Int) ≤ Int.ofNat n from Int.natCast_nonneg n)]
      rfl
    · cases h
      refine ⟨_, w.drawn, ?_, .i _ _⟩
      simp only [execOp, Sem.run_bind, g, Result.andThen_ok]
      rw [r1.int_inv, r2.int_inv, run_shr (hc _ rfl)]
      rfl
  · -- quo
    rename_i t1 x y t2 k a k' b
    obtain ⟨r1, r2⟩ := hr.two
    have g := run_eqGuard (P := E.P) (w := w) (op := .quo) (t := t1) (x := x) (y := y) (a := f x) (b := f y) (by rw [r1.int_inv]; simp) (by rw [r1.int_inv]; simp)
    split at h
    · cases h
    · rename_i hk
      have hk := sameInt_eq hk
      subst hk
      split at h
      · rename_i n hl
        cases h
        obtain ⟨q, e⟩ := litInt_spec hl f hf
        have e2 := r2.int_inv
        rw [e] at e2
        cases e2
        refine ⟨_, w.drawn, ?_, .i _ _⟩
        simp only [execOp, Sem.run_bind, g, Result.andThen_ok]
        rw [r1.int_inv, e, run_quo (by simp only [Int.ofNat_eq_natCast]; omega)]
        rfl
      · cases h
        refine ⟨_, w.drawn, ?_, .i _ _⟩
        simp only [execOp, Sem.run_bind, g, Result.andThen_ok]
        rw [r1.int_inv, r2.int_inv, run_quo (hc _ rfl)]
        rfl
  · -- rem
    rename_i t1 x y t2 k a k' b
    obtain ⟨r1, r2⟩ := hr.two
    have g := run_eqGuard (P := E.P) (w := w) (op := .rem) (t := t1) (x := x) (y := y) (a := f x) (b := f y) (by rw [r1.int_inv]; simp) (by rw [r1.int_inv]; simp)
    split at h
    · cases h
    · rename_i hk
      have hk := sameInt_eq hk
      subst hk
      split at h
      · rename_i n hl
        cases h
        obtain ⟨q, e⟩ := litInt_spec hl f hf
        have e2 := r2.int_inv
        rw [e] at e2
        cases e2
        refine ⟨_, w.drawn, ?_, .i _ _⟩
        simp only [execOp, Sem.run_bind, g, Result.andThen_ok]
        rw [r1.int_inv, e, run_rem (by simp only [Int.ofNat_eq_natCast]; omega)]
        rfl
      · cases h
        refine ⟨_, w.drawn, ?_, .i _ _⟩
        simp only [execOp, Sem.run_bind, g, Result.andThen_ok]
        rw [r1.int_inv, r2.int_inv, run_rem (hc _ rfl)]
        rfl
  · -- binOp
    rename_i o' t1 x y t2 mx my _ _ _ _
    split at h
    · rename_i m' hm
      cases h
      obtain ⟨r1, r2⟩ := hr.two
      obtain ⟨n1, n2⟩ := evBin_ne hm r1
      have g := run_eqGuard (P := E.P) (w := w) (op := o') (t := t1) (x := x) (y := y) (a := f x) (b := f y) n1 n2
      obtain ⟨q, k, e, hq⟩ := evBin_sound hT hm r1 r2
      refine ⟨q, k, ?_, hq⟩
      simp only [execOp, Sem.run_bind, g, Result.andThen_ok, e, Sem.run_pure]
    · split at h
      · rename_i m' hm
        cases h
        obtain ⟨r1, r2⟩ := hr.two
        obtain ⟨g, q, e, hq⟩ := evAgg_sound hT hE.eqs hm r1 r2 x y
        refine ⟨q, w.drawn, ?_, hq⟩
        simp only [execOp, Sem.run_bind, g, Result.andThen_ok, e, Sem.run_pure]
      · cases h
  · -- unOp
    split at h
    · rename_i m' hm
      cases h
      obtain ⟨u, e, hu⟩ := evUn_sound (P := E.P) hm hr.one
      exact ⟨u, w.drawn, by simp only [execOp, Sem.run_bind, e, Result.andThen_ok, Sem.run_pure], hu⟩
    · cases h
  · -- convert of a float
    rename_i s d x sk b
    split at h
    · rename_i k _ _ _ hd
      have hd' := und_int hT hd
      split at h
      · cases h
      · rename_i si hs
        obtain ⟨sd, hs1, _⟩ := (hT _ _ hs).und
        cases h
        have hin := hc _ rfl
        cases hv : f x with
        | float k' r =>
          have r1 := hr.one
          simp only [hv] at r1
          cases r1 with
          | f _ _ _ hfr =>
            have hdec : floatToIntVal sk r k = floatToIntVal sk b k := by
              have hx := hfr.eq
              cases hn : isNan sk r
              · rw [canon_of_not hn] at hx; rw [hx]
              · rw [canon_of_nan hn] at hx
                subst hx
                obtain ⟨s1, t1, e1⟩ := read_nan hn
                obtain ⟨s2, t2, e2⟩ := read_nan (isNan_qnan sk)
                unfold floatToIntVal FloatKind.decode
                rw [e1, e2]
                rfl
            obtain ⟨n, hn⟩ := Option.isSome_iff_exists.1 hin
            refine ⟨.int k n, w.drawn, ?_, ?_⟩
            · have := run_convert_float_int (P := E.P) w s d sk k r n (by simp [hs1]) hd' (hdec.trans hn)
              simp only [execOp, Sem.run_bind, hv, this, Result.andThen_ok, Sem.run_pure]
            · rw [hn]; exact .i _ _
        | _ =>
          have r1 := hr.one
          simp only [hv] at r1
          cases r1
    · split at h
      · rename_i m' hm
        cases h
        obtain ⟨u, k, e, hu⟩ := evConv_sound hT hm hr.one
        exact ⟨u, k, by simp only [execOp, Sem.run_bind, e, Result.andThen_ok, Sem.run_pure], hu⟩
      · cases h
  · split at h
    · rename_i m' hm
      cases h
      obtain ⟨u, k, e, hu⟩ := evConv_sound hT hm hr.one
      exact ⟨u, k, by simp only [execOp, Sem.run_bind, e, Result.andThen_ok, Sem.run_pure], hu⟩
    · cases h
  · -- fieldAddr
    split at h
    · rename_i m' hm
      cases h
      obtain ⟨u, e, hu⟩ := evFieldAddr_sound hT hm hr.one
      exact ⟨u, w.drawn, by simp only [execOp, Sem.run_bind, e, Result.andThen_ok, Sem.run_pure], hu⟩
    · cases h
  · split at h
    · rename_i m' hm
      cases h
      obtain ⟨u, e, hu⟩ := evField_sound hT hm hr.one
      exact ⟨u, w.drawn, by simp only [execOp, Sem.run_bind, e, Result.andThen_ok, Sem.run_pure], hu⟩
    · cases h
  · -- extract
    rename_i x i l
    split at h
    · rename_i m' hm
      cases h
      obtain ⟨h1, h2⟩ := nthM_spec hm
      have r1 := hr.one
      revert r1
      generalize hv : f x = v
      intro r1
      cases r1 with
      | tup _ vs hl hrr =>
        have hlt : i < vs.size := by omega
        refine ⟨vs[i], w.drawn, ?_, ?_⟩
        · simp [execOp, hv, Instr.extract, hlt]
        · have := hrr i h1
          rw [h2] at this
          simpa [Array.getD, hlt] using this
    · cases h
  · -- indexAddr
    rename_i t1 x1 i1 mx1 k1 z1
    split at h
    · rename_i c' m' hm
      cases h
      obtain ⟨r1, r2⟩ := hr.two
      obtain ⟨u, e, hu⟩ := evIndexAddr_sound hT hm (hc _ rfl) r1 k1
      exact ⟨u, w.drawn, by simp only [execOp, Sem.run_bind, r2.int_inv, e, Result.andThen_ok, Sem.run_pure], hu⟩
    · cases h
  · -- slices
    split at h
    · rename_i c' m' hm
      cases h
      obtain ⟨u, e, hu⟩ := evSlice_sound hT hm (hc _ rfl) (by simp) hr.one .i64 .i64 .i64
      exact ⟨u, w.drawn, by simp only [execOp, Sem.run_bind, Option.map_none] at e ⊢; simp only [e, Result.andThen_ok, Sem.run_pure], hu⟩
    · cases h
  · split at h
    · rename_i c' m' hm
      cases h
      obtain ⟨r1, r2⟩ := hr.two
      obtain ⟨u, e, hu⟩ := evSlice_sound hT hm (hc _ rfl) (by simp) r1 (by assumption) .i64 .i64
      refine ⟨u, w.drawn, ?_, hu⟩
      simp only [execOp, Sem.run_bind, Option.map_none, Option.map_some] at e ⊢
      rw [r2.int_inv]
      simp only [e, Result.andThen_ok, Sem.run_pure]
    · cases h
  · split at h
    · rename_i c' m' hm
      cases h
      obtain ⟨r1, r2⟩ := hr.two
      obtain ⟨u, e, hu⟩ := evSlice_sound hT hm (hc _ rfl) (by simp) r1 .i64 (by assumption) .i64
      refine ⟨u, w.drawn, ?_, hu⟩
      simp only [execOp, Sem.run_bind, Option.map_none, Option.map_some] at e ⊢
      rw [r2.int_inv]
      simp only [e, Result.andThen_ok, Sem.run_pure]
    · cases h
  · rename_i t x lo hi mx kl l kh hh
    split at h
    · rename_i c' m' hm
      cases h
      obtain ⟨r1, r2, r3⟩ := hr.three
      obtain ⟨u, e, hu⟩ := evSlice_sound hT hm (hc _ rfl) (by simp) r1 kl kh .i64
      refine ⟨u, w.drawn, ?_, hu⟩
      simp only [execOp, Sem.run_bind, Option.map_none, Option.map_some] at e ⊢
      rw [r2.int_inv, r3.int_inv]
      simp only [e, Result.andThen_ok, Sem.run_pure]
    · cases h
  · -- build
    rename_i t ps
    split at h
    · rename_i m' hm
      cases h
      obtain ⟨u, e, hu⟩ := evBuild_sound hT hm (by simpa using hr.len) hr.rep
      refine ⟨u, w.drawn, ?_, hu⟩
      have hz : (ps.map fun (x : Nat × Operand) => (x.1, f x.2)) = (List.zip (ps.toList.map (·.1)) ((operL (Op.build t ps)).map f)).toArray := by
        apply Array.toList_inj.1
        simp only [operL, Array.toList_map, List.map_map]
        generalize ps.toList = q
        induction q with
        | nil => rfl
        | cons a q ih => simp [ih]
      simp only [execOp, Sem.run_bind]
      rw [hz, e]
      rfl
    · cases h
  · -- len
    rename_i args ts x
    split at h
    · rename_i t r hts
      split at h
      · rename_i m' hm
        cases h
        have h0 : ts[0]? = some t := by
          have : ts.toList[0]? = some t := by rw [hts]; rfl
          simpa using this
        have hlen := hr.len
        simp only [operL, List.length_map, List.length_singleton, Array.length_toList] at hlen
        have hargs : ∃ y, args = #[y] := by
          have : args.toList.length = 1 := by simpa using hlen.symm
          obtain ⟨y, hy⟩ := List.length_eq_one_iff.1 this
          exact ⟨y, by apply Array.toList_inj.1; simpa using hy⟩
        obtain ⟨y, rfl⟩ := hargs
        have r1 : Rep w G ρ (okS cx ρ w) x (f y) := hr.one
        obtain ⟨u, e, hu⟩ := sliceLen_sound hT hm r1 ts h0 ty
        refine ⟨u, w.drawn, ?_, hu⟩
        simp [execOp, resolve, invoke, builtin, e]
      · cases h
    · cases h
  · -- min
    rename_i args ts k a k' b
    cases h
    have hlen := hr.len
    simp only [operL, List.length_map, List.length_cons, List.length_nil, Array.length_toList] at hlen
    have hargs : ∃ y z, args = #[y, z] := by
      have : args.toList.length = 2 := by simpa using hlen.symm
      match hl : args.toList, this with
      | [y, z], _ => exact ⟨y, z, by apply Array.toList_inj.1; simpa using hl⟩
    obtain ⟨y, z, rfl⟩ := hargs
    have r1 : Rep w G ρ (okS cx ρ w) (.i k a) (f y) := by simpa [getM, operL] using hr.rep 0 (by simp)
    have r2 : Rep w G ρ (okS cx ρ w) (.i k' b) (f z) := by simpa [getM, operL] using hr.rep 1 (by simp)
    refine ⟨_, w.drawn, ?_, .i _ _⟩
    simp [execOp, resolve, invoke, builtin, Builtin.min_, r1.int_inv, r2.int_inv, Builtin.min2]
  · rename_i args ts k a k' b
    cases h
    have hlen := hr.len
    simp only [operL, List.length_map, List.length_cons, List.length_nil, Array.length_toList] at hlen
    have hargs : ∃ y z, args = #[y, z] := by
      have : args.toList.length = 2 := by simpa using hlen.symm
      match hl : args.toList, this with
      | [y, z], _ => exact ⟨y, z, by apply Array.toList_inj.1; simpa using hl⟩
    obtain ⟨y, z, rfl⟩ := hargs
    have r1 : Rep w G ρ (okS cx ρ w) (.i k a) (f y) := by simpa [getM, operL] using hr.rep 0 (by simp)
    have r2 : Rep w G ρ (okS cx ρ w) (.i k' b) (f z) := by simpa [getM, operL] using hr.rep 1 (by simp)
    refine ⟨_, w.drawn, ?_, .i _ _⟩
    simp [execOp, resolve, invoke, builtin, Builtin.max_, r1.int_inv, r2.int_inv, Builtin.max2]
  · -- a function value
    rename_i ms0 g first caps
    split at h
    · cases h
    · rename_i l hl
      cases h
      obtain ⟨h1, h2, h3⟩ := takeM_spec hl
      have hd := fun l : List MV => dropM_spec l first.size
      have hlen := hr.len
      simp only [operL, List.length_map, List.length_append, Array.length_toList] at hlen
      refine ⟨_, w.drawn, rfl, .fn _ _ _ _ _ (by simp [h2]) (by rw [(hd _).1, Array.size_map]; omega) (fun j hj => ?_) (fun j hj => ?_)⟩
      · rw [h3 j (by omega)]
        have := hr.rep j (by omega)
        have e : ((operL (.makeFunc (.func g) first caps)).map f).getD j undef = (first.map f).getD j undef := by
          simp only [operL, List.getD_eq_getElem?_getD, Array.getD_eq_getD_getElem?, List.map_append, Array.getElem?_map]
          rw [List.getElem?_append_left (by simp; omega)]
          simp
        rw [e] at this; exact this
      · rw [(hd _).2]
        rw [(hd _).1] at hj
        have := hr.rep (first.size + j) (by omega)
        have e : ((operL (.makeFunc (.func g) first caps)).map f).getD (first.size + j) undef = (caps.map f).getD j undef := by
          simp only [operL, List.getD_eq_getElem?_getD, Array.getD_eq_getD_getElem?, List.map_append, Array.getElem?_map]
          rw [List.getElem?_append_right (by simp)]
          simp
        rw [e] at this; exact this
  · rename_i t x hi mx kh hh km q
    split at h
    · rename_i c' m' hm
      cases h
      obtain ⟨r1, r2, r3⟩ := hr.three
      obtain ⟨u, e, hu⟩ := evSlice_sound hT hm (hc _ rfl) (by simp) r1 .i64 kh km
      refine ⟨u, w.drawn, ?_, hu⟩
      simp only [execOp, Sem.run_bind, Option.map_none, Option.map_some] at e ⊢
      rw [r2.int_inv, r3.int_inv]
      simp only [e, Result.andThen_ok, Sem.run_pure]
    · cases h
  · rename_i t x lo hi mx kl l kh hh km q
    split at h
    · rename_i c' m' hm
      cases h
      obtain ⟨r1, r2, r3, r4⟩ := hr.four
      obtain ⟨u, e, hu⟩ := evSlice_sound hT hm (hc _ rfl) (by simp) r1 kl kh km
      refine ⟨u, w.drawn, ?_, hu⟩
      simp only [execOp, Sem.run_bind, Option.map_none, Option.map_some] at e ⊢
      rw [r2.int_inv, r3.int_inv, r4.int_inv]
      simp only [e, Result.andThen_ok, Sem.run_pure]
    · cases h
  · -- the greater of two floats
    rename_i args ts k a k' b
    split at h
    · rename_i hk
      have hk := sameFlt_eq hk
      subst hk
      cases h
      have hlen := hr.len
      simp only [operL, List.length_map, List.length_cons, List.length_nil, Array.length_toList] at hlen
      have hargs : ∃ y z, args = #[y, z] := by
        have : args.toList.length = 2 := by simpa using hlen.symm
        match hl : args.toList, this with
        | [y, z], _ => exact ⟨y, z, by apply Array.toList_inj.1; simpa using hl⟩
      obtain ⟨y, z, rfl⟩ := hargs
      have r1 : Rep w G ρ (okS cx ρ w) (.f k a) (f y) := by simpa [getM, operL] using hr.rep 0 (by simp)
      have r2 : Rep w G ρ (okS cx ρ w) (.f k b) (f z) := by simpa [getM, operL] using hr.rep 1 (by simp)
      obtain ⟨r, e1, g1⟩ := r1.flt_inv
      obtain ⟨s, e2, g2⟩ := r2.flt_inv
      obtain ⟨q, n, e3, g3⟩ := run_max2 (P := E.P) w k r s a b g1 g2
      refine ⟨.float k q, n, ?_, .f k q _ g3⟩
      simp [execOp, resolve, invoke, builtin, Builtin.max_, e1, e2, e3]
    · cases h
  · -- and of three
    rename_i args ts k a k' b k'' c3
    split at h
    · rename_i hk
      rw [Bool.and_eq_true] at hk
      have hk1 := sameFlt_eq hk.1
      have hk2 := sameFlt_eq hk.2
      subst hk1
      subst hk2
      cases h
      have hlen := hr.len
      simp only [operL, List.length_map, List.length_cons, List.length_nil, Array.length_toList] at hlen
      have hargs : ∃ y z u, args = #[y, z, u] := by
        have : args.toList.length = 3 := by simpa using hlen.symm
        match hl : args.toList, this with
        | [y, z, u], _ => exact ⟨y, z, u, by apply Array.toList_inj.1; simpa using hl⟩
      obtain ⟨y, z, u, rfl⟩ := hargs
      have r1 : Rep w G ρ (okS cx ρ w) (.f k a) (f y) := by simpa [getM, operL] using hr.rep 0 (by simp)
      have r2 : Rep w G ρ (okS cx ρ w) (.f k b) (f z) := by simpa [getM, operL] using hr.rep 1 (by simp)
      have r3 : Rep w G ρ (okS cx ρ w) (.f k c3) (f u) := by simpa [getM, operL] using hr.rep 2 (by simp)
      obtain ⟨r, e1, g1⟩ := r1.flt_inv
      obtain ⟨s, e2, g2⟩ := r2.flt_inv
      obtain ⟨s3, e3, g3⟩ := r3.flt_inv
      obtain ⟨q, n, e4, g4⟩ := run_max2 (P := E.P) w k r s a b g1 g2
      obtain ⟨q', n', e5, g5⟩ := run_max2 (P := E.P) { w with drawn := n } k q s3 _ c3 g4 g3
      refine ⟨.float k q', n', ?_, .f k q' _ g5⟩
      simp [execOp, resolve, invoke, builtin, Builtin.max_, e1, e2, e3, e4, e5]
    · cases h
  · cases h
end Go.Ev

namespace Go.Ev
structure Side (p : Prop) : Prop where
  h : p
structure Need (p q : Prop) : Prop where
  left : Side p
  right : q
/-! ## Operations that turn the state -/
def simple1 : MV → Bool
  | .lb _ => true
  | .b _ => true
  | .i _ _ => true
  | .f _ _ => true
  | .p _ _ => true
  | .pe _ _ _ _ => true
  | .rp _ => true
  | .os _ _ _ _ => true
  | .ro _ _ _ => true
  | .nilp => true
  | .nils => true
  | _ => false
def allS : List MV → Bool
  | [] => true
  | m :: r => match simple1 m with
    | true => allS r
    | false => false
def oneM : MV → Bool
  | .fn _ l m => match allS l with
    | true => allS m
    | false => false
  | m => simple1 m
def allO : List MV → Bool
  | [] => true
  | m :: r => match oneM m with
    | true => allO r
    | false => false
def flat1 : MV → Bool
  | .lb _ => true
  | .b _ => true
  | .i _ _ => true
  | .f _ _ => true
  | .rp _ => true
  | .ro _ _ _ => true
  | .nilp => true
  | .nils => true
  | _ => false
def allF : List MV → Bool
  | [] => true
  | m :: r => match flat1 m with
    | true => allF r
    | false => false
theorem simple1_spec {m : MV} (h : simple1 m = true) {w : World} {G : GT} {ρ : RhoT} {ok : OkT} {v : Value} (r : Rep w G ρ ok m v) : Rep w G0 ρ ok m v ∧ v.oneCell' = true := by
  cases r with
  | lb x => exact ⟨.lb _, rfl⟩
  | b x => exact ⟨.b _, rfl⟩
  | i k n => exact ⟨.i _ _, rfl⟩
  | f k r x hh => exact ⟨.f _ _ _ hh, rfl⟩
  | p id off blk hh => exact ⟨.p _ _ _ hh, rfl⟩
  | pe id sz i j blk hh => exact ⟨.pe _ _ _ _ _ hh, rfl⟩
  | rp cells blk off u h1 h2 h3 h4 => exact ⟨.rp _ _ _ _ h1 h2 h3 h4, rfl⟩
  | os id sz lo n blk cap off c T h1 h2 h3 h4 h5 => exact ⟨.os _ _ _ _ _ _ _ _ _ h1 h2 h3 h4 h5, rfl⟩
  | osnil => exact ⟨.osnil _ _ _, rfl⟩
  | ro sz n get blk off cap u h1 h2 h3 h4 h5 => exact ⟨.ro _ _ _ _ _ _ _ h1 h2 h3 h4 h5, rfl⟩
  | ronil => exact ⟨.ronil _ _, rfl⟩
  | nilp => exact ⟨.nilp, rfl⟩
  | nils => exact ⟨.nils, rfl⟩
  | _ => simp [simple1] at h
theorem allS_spec : ∀ {l : List MV}, allS l = true → ∀ j, j < l.length → simple1 (getM l j) = true
  | [], _, j, hj => by simp at hj
  | m :: r, h, j, hj => by
    unfold allS at h
    split at h
    · rename_i hm
      cases j with
      | zero => simpa [getM] using hm
      | succ j => simpa [getM] using allS_spec h j (by simpa using hj)
    · cases h
theorem oneM_spec {m : MV} (h : oneM m = true) {w : World} {G : GT} {ρ : RhoT} {ok : OkT} {v : Value} (r : Rep w G ρ ok m v) : Rep w G0 ρ ok m v ∧ v.oneCell' = true := by
  cases m with
  | fn f l m =>
    have h' : allS l = true ∧ allS m = true := by
      have h0 : (match allS l with | true => allS m | false => false) = true := h
      split at h0
      · rename_i e; exact ⟨e, h0⟩
      · cases h0
    cases r with
    | fn _ _ _ vs us hl hm h1 h2 =>
      exact ⟨.fn _ _ _ _ _ hl hm (fun j hj => (simple1_spec (allS_spec h'.1 j hj) (h1 j hj)).1) (fun j hj => (simple1_spec (allS_spec h'.2 j hj) (h2 j hj)).1), rfl⟩
  | _ => exact simple1_spec (by simpa [oneM] using h) r
theorem allO_spec : ∀ {l : List MV}, allO l = true → ∀ j, j < l.length → oneM (getM l j) = true
  | [], _, j, hj => by simp at hj
  | m :: r, h, j, hj => by
    unfold allO at h
    split at h
    · rename_i hm
      cases j with
      | zero => simpa [getM] using hm
      | succ j => simpa [getM] using allO_spec h j (by simpa using hj)
    · cases h
theorem flat1_spec {m : MV} (h : flat1 m = true) {w : World} {G : GT} {ρ : RhoT} {ok : OkT} {v : Value} (r : Rep w G ρ ok m v) : Rep w G0 rho0 ok m v ∧ v.oneCell' = true := by
  cases r with
  | lb x => exact ⟨.lb _, rfl⟩
  | b x => exact ⟨.b _, rfl⟩
  | i k n => exact ⟨.i _ _, rfl⟩
  | f k r x hh => exact ⟨.f _ _ _ hh, rfl⟩
  | rp cells blk off u h1 h2 h3 h4 => exact ⟨.rp _ _ _ _ h1 h2 h3 h4, rfl⟩
  | ro sz n get blk off cap u h1 h2 h3 h4 h5 => exact ⟨.ro _ _ _ _ _ _ _ h1 h2 h3 h4 h5, rfl⟩
  | ronil => exact ⟨.ronil _ _, rfl⟩
  | nilp => exact ⟨.nilp, rfl⟩
  | nils => exact ⟨.nils, rfl⟩
  | _ => simp [flat1] at h
theorem allF_spec : ∀ {l : List MV}, allF l = true → ∀ j, j < l.length → flat1 (getM l j) = true
  | [], _, j, hj => by simp at hj
  | m :: r, h, j, hj => by
    unfold allF at h
    split at h
    · rename_i hm
      cases j with
      | zero => simpa [getM] using hm
      | succ j => simpa [getM] using allF_spec h j (by simpa using hj)
    · cases h
def selM (c : Bool) : MV → MV → MV
  | .i k a, .i k' b => match sameInt k k' with
    | true => .i k (bif c then a else b)
    | false => .und
  | .f k a, .f k' b => match sameFlt k k' with
    | true => .f k (bif c then a else b)
    | false => .und
  | .b a, .b b => .b (bif c then a else b)
  | .b a, .lb b => .b (bif c then a else b)
  | .lb a, .b b => .b (bif c then a else b)
  | .lb a, .lb b => .b (bif c then a else b)
  | .nils, .nils => .nils
  | .nilp, .nilp => .nilp
  | _, _ => .und
theorem selM_spec {c : Bool} {x y : MV} {w : World} {G : GT} {ρ : RhoT} {ok : OkT} {v : Value} (h1 : c = true → Rep w G ρ ok x v) (h2 : c = false → Rep w G ρ ok y v) : Rep w G ρ ok (selM c x y) v := by
  unfold selM
  split
  · split
    · rename_i hk
      have := sameInt_eq hk; subst this
      cases c
      · exact h2 rfl
      · exact h1 rfl
    · exact .und _
  · split
    · rename_i hk
      have := sameFlt_eq hk; subst this
      cases c
      · exact h2 rfl
      · exact h1 rfl
    · exact .und _
  · cases c
    · exact h2 rfl
    · exact h1 rfl
  · cases c
    · cases h2 rfl; exact .b _
    · exact h1 rfl
  · cases c
    · exact h2 rfl
    · cases h1 rfl; exact .b _
  · cases c
    · cases h2 rfl; exact .b _
    · cases h1 rfl; exact .b _
  · cases c
    · exact h2 rfl
    · exact h1 rfl
  · cases c
    · exact h2 rfl
    · exact h1 rfl
  · exact .und _
def selE (c : Bool) (s : List MV) : List MV := match c with
  | true => []
  | false => s
def selL (c : Bool) : List MV → List MV → List MV
  | x :: r, y :: s => selM c x y :: selL c r s
  | _ :: _, [] => []
  | [], s => selE c s
theorem selL_get (c : Bool) : ∀ (l m : List MV) (j : Nat), getM (selL c l m) j = .und ∨ (j < l.length ∧ j < m.length ∧ getM (selL c l m) j = selM c (getM l j) (getM m j)) ∨ (c = false ∧ getM (selL c l m) j = getM m j)
  | x :: r, y :: s, 0 => .inr (.inl ⟨by simp, by simp, by simp [getM, selL]⟩)
  | x :: r, y :: s, j + 1 => by
    rcases selL_get c r s j with h | ⟨h1, h2, h3⟩ | ⟨h1, h2⟩
    · exact .inl (by simpa [getM, selL] using h)
    · exact .inr (.inl ⟨by simpa using h1, by simpa using h2, by simpa [getM, selL] using h3⟩)
    · exact .inr (.inr ⟨h1, by simpa [getM, selL] using h2⟩)
  | [], m, j => by
    cases c
    · exact .inr (.inr ⟨rfl, rfl⟩)
    · exact .inl (by simp [getM, selL, selE])
  | x :: r, [], j => .inl (by simp [getM, selL])
theorem selL_spec {c : Bool} {l m : List MV} {j : Nat} {w : World} {G : GT} {ρ : RhoT} {ok : OkT} {v : Value} (h1 : c = true → Rep w G ρ ok (getM l j) v) (h2 : c = false → Rep w G ρ ok (getM m j) v) :
    Rep w G ρ ok (getM (selL c l m) j) v := by
  rcases selL_get c l m j with h | ⟨_, _, h⟩ | ⟨hc, h⟩
  · rw [h]; exact .und _
  · rw [h]; exact selM_spec h1 h2
  · rw [h]; exact h2 hc
def updL (c : Bool) : List MV → Nat → List MV → List MV
  | [], _, _ => []
  | x :: r, 0, y :: ys => selM c y x :: updL c r 0 ys
  | x :: r, n + 1, ys => x :: updL c r n ys
  | l, 0, [] => l
theorem updL_spec {c : Bool} {w : World} {G : GT} {ρ : RhoT} {ok : OkT} : ∀ {l : List MV} {j : Nat} {ys : List MV} {p : Nat} {v : Value},
    (c = true → j ≤ p → p < j + ys.length → Rep w G ρ ok (getM ys (p - j)) v) → ((c = false ∨ p < j ∨ j + ys.length ≤ p) → Rep w G ρ ok (getM l p) v) → Rep w G ρ ok (getM (updL c l j ys) p) v
  | [], j, ys, p, v, h1, h2 => by
    have : getM (updL c [] j ys) p = .und := by cases ys <;> cases j <;> simp [updL, getM]
    rw [this]; exact .und _
  | x :: r, 0, y :: ys, 0, v, h1, h2 => by
    have : getM (updL c (x :: r) 0 (y :: ys)) 0 = selM c y x := by simp [updL, getM]
    rw [this]
    exact selM_spec (fun e => by simpa [getM] using h1 e (Nat.le_refl _) (by simp)) (fun e => by simpa [getM] using h2 (.inl e))
  | x :: r, 0, y :: ys, p + 1, v, h1, h2 => by
    have : getM (updL c (x :: r) 0 (y :: ys)) (p + 1) = getM (updL c r 0 ys) p := by simp [updL, getM]
    rw [this]
    refine updL_spec (fun e a b => ?_) (fun e => ?_)
    · have := h1 e (Nat.zero_le _) (by simp at b ⊢; omega)
      simpa [getM] using this
    · have := h2 (by rcases e with e | e | e; exact .inl e; omega; exact .inr (.inr (by simp at e ⊢; omega)))
      simpa [getM] using this
  | x :: r, 0, [], p, v, h1, h2 => by
    have : updL c (x :: r) 0 [] = x :: r := by simp [updL]
    rw [this]
    exact h2 (.inr (.inr (by simp)))
  | x :: r, n + 1, ys, 0, v, h1, h2 => by
    have : getM (updL c (x :: r) (n + 1) ys) 0 = x := by cases ys <;> simp [updL, getM]
    rw [this]
    simpa [getM] using h2 (.inr (.inl (by omega)))
  | x :: r, n + 1, ys, p + 1, v, h1, h2 => by
    have : getM (updL c (x :: r) (n + 1) ys) (p + 1) = getM (updL c r n ys) p := by cases ys <;> simp [updL, getM]
    rw [this]
    refine updL_spec (fun e a b => ?_) (fun e => ?_)
    · have := h1 e (by omega) (by omega)
      rwa [Nat.add_sub_add_right] at this
    · have := h2 (by rcases e with e | e | e; exact .inl e; exact .inr (.inl (by omega)); exact .inr (.inr (by omega)))
      simpa [getM] using this
def xRow (H : List (Nat × Blk)) (sz : Nat) : MV → Option (Nat × (Nat → List MV) × Prop)
  | .os id sz' lo n => match Nat.beq sz sz' with
    | false => none
    | true => match look H id with
      | some (.rows sz2 n0 get) => match Nat.beq sz sz2 with
        | true => some (n, fun i => get (lo + i), lo + n ≤ n0)
        | false => none
      | _ => none
  | .ro sz' n get => match Nat.beq sz sz' with
    | true => some (n, get, True)
    | false => none
  | .nils => some (0, fun _ => [], True)
  | _ => none
def appGet (n : Nat) (get xget : Nat → List MV) : Nat → List MV := fun k => selL (Nat.blt k n) (get k) (xget (k - n))
def appN (b : Nat) (k : Nat → Prop) : Prop := match Nat.ble b 1048576 with
  | true => k 224000000000000
  | false => k 140737488355328
def AppOK (c b : Nat) : Prop := c * b ≤ 140737488355328 ∨ (c + c / 4 + 192) * b ≤ 281474976710656
theorem AppOK.le {c b : Nat} (h : AppOK c b) : c * b ≤ 281474976710656 := by
  rcases h with h | h
  · omega
  · exact Nat.le_trans (Nat.mul_le_mul_right _ (by omega)) h
theorem appN_of {b : Nat} {k : Nat → Prop} (h : appN b k) : ∃ lim, k lim ∧ ∀ c, c * b ≤ lim → AppOK c b := by
  unfold appN at h
  split at h
  · rename_i hb
    have hb := Nat.le_of_ble_eq_true hb
    refine ⟨_, h, fun c hc => .inr ?_⟩
    have h1 : c / 4 * b * 4 ≤ c * b := by
      rw [Nat.mul_right_comm]; exact Nat.mul_le_mul_right _ (Nat.div_mul_le_self c 4)
    rw [Nat.add_mul, Nat.add_mul]
    omega
  · exact ⟨_, h, fun c hc => .inl hc⟩
theorem appN_mk {b : Nat} {k : Nat → Prop} (h : ∀ lim, 140737488355328 ≤ lim → k lim) : appN b k := by
  unfold appN
  split
  · exact h _ (by omega)
  · exact h _ (Nat.le_refl _)
def isOsOf (id : Nat) : MV → Bool
  | .os i _ _ _ => Nat.beq i id
  | _ => false
def evKm (E : Env) (F : List (Nat × MV)) (stk : List (List (Nat × MV))) (H : List (Nat × Blk)) (nx : Nat) (op : Op) (ms : List MV) (K : MV → St → Prop) : Prop :=
  match op, ms with
  | .box _ _, [m] => match cellsM m with
    | none => False
    | some l => match allO l with
      | true => K (.p nx 0) ⟨F, stk, putL H nx (.cells l), nx + 1⟩
      | false => False
  | .alloc t, [] => match E.ty t with
    | none => False
    | some i => match zeroM i.zero with
      | none => False
      | some l => match allO l with
        | true => K (.p nx 0) ⟨F, stk, putL H nx (.cells l), nx + 1⟩
        | false => False
  | .store t _ _, [.p id off, m] => match E.ty t with
    | none => False
    | some i => match cellsM m with
      | none => False
      | some ys => match Nat.beq ys.length i.size with
        | false => False
        | true => match allO ys with
          | false => False
          | true => match look H id with
            | some (.cells l) => match spliceM l off ys with
              | some l' => K (.x undef) ⟨F, stk, putL H id (.cells l'), nx⟩
              | none => False
            | _ => False
  | .store t _ _, [.pe id sz i j, m] => match E.ty t with
    | none => False
    | some ti => match cellsM m with
      | none => False
      | some ys => match Nat.beq ys.length ti.size with
        | false => False
        | true => match allF ys with
          | false => False
          | true => match Nat.ble (j + ys.length) sz with
            | false => False
            | true => match look H id with
              | some (.rows sz' n get) => match Nat.beq sz sz' with
                | false => False
                | true => Need (i < n) (K (.x undef) ⟨F, stk, putL H id (.rows sz n fun k => updL (Nat.beq k i) (get k) j ys), nx⟩)
              | _ => False
  | .makeSlice t _ _, [.i _ l, .i _ c] => match E.ty t with
    | some ⟨.slice e, _, _, _⟩ => match E.ty e with
      | none => False
      | some ti => match zeroM ti.zero with
        | none => False
        | some zl => match Nat.beq zl.length ti.size with
          | false => False
          | true => match allF zl with
            | false => False
            | true => Need (0 ≤ l ∧ l ≤ c ∧ ti.bytes * c ≤ 140737488355328 ∧ c ≤ 140737488355328)
              (K (.os nx ti.size 0 l.toNat) ⟨F, stk, putL H nx (.rows ti.size l.toNat fun _ => zl), nx + 1⟩)
    | _ => False
  | .buildSlice t n ps, ms => match E.ty t with
    | some ⟨.slice e, _, _, _⟩ => match E.ty e with
      | none => False
      | some ti => match zeroM ti.zero with
        | none => False
        | some zl => match Nat.beq zl.length ti.size with
          | false => False
          | true => match Nat.ble (n * ti.size) 16777216 with
            | false => False
            | true => match noX ms with
              | false => False
              | true => match fillM (fun i => some (i * ti.size, ti.size)) (repM n zl) (ps.toList.map (·.1)) ms with
                | none => False
                | some l' => match allF l' with
                  | false => False
                  | true => K (.os nx ti.size 0 n) ⟨F, stk, putL H nx (.rows ti.size n (match n with | 1 => fun _ => l' | _ => fun i => dropM l' (i * ti.size))), nx + 1⟩
    | _ => False
  | .call ⟨.builtin .append, _, ts⟩, [s, x] => match ts.toList with
    | [t, t'] => match Nat.beq t t' with
      | false => False
      | true => match E.ty t with
        | some ⟨.slice e, _, _, _⟩ => match E.ty e with
          | none => False
          | some ti => match ti.size with
            | 0 => False
            | sz + 1 => match zeroM ti.zero with
              | none => False
              | some zl => match Nat.beq zl.length (sz + 1) with
                | false => False
                | true => match xRow H (sz + 1) x with
                  | none => False
                  | some (n2, xget, vc) => match s with
                    | .nils => Need (vc ∧ n2 * ti.bytes ≤ 140737488355328 ∧ n2 ≤ 140737488355328)
                      (K (.os nx (sz + 1) 0 n2) ⟨F, stk, putL H nx (.rows (sz + 1) n2 xget), nx + 1⟩)
                    | .os id sz' 0 n => match Nat.beq (sz + 1) sz' with
                      | false => False
                      | true => match isOsOf id x with
                        | true => False
                        | false => match look H id with
                          | some (.rows sz2 n0 get) => match Nat.beq (sz + 1) sz2 with
                            | false => False
                            | true => appN ti.bytes fun lim => Need (vc ∧ n ≤ n0 ∧ (n + n2) * ti.bytes ≤ lim ∧ n + n2 ≤ 140737488355328)
                              (K (.os id (sz + 1) 0 (n + n2)) { F := purgeF id F, stk := purgeS id stk, H := putL (purgeH id H) id (.rows (sz + 1) (n + n2) (appGet n get xget)), nx := nx })
                          | _ => False
                    | _ => False
        | _ => False
    | _ => False
  | .slice t _ none none none, [.p id 0] => match E.ty t with
    | some ⟨.array n e, _, _, _⟩ => match E.ty e with
      | none => False
      | some ti => match look H id with
        | some (.cells l) => match Nat.beq l.length (n * ti.size) with
          | false => False
          | true => match allF l with
            | false => False
            | true => K (.os id ti.size 0 n) ⟨F, stk, putL H id (.rows ti.size n fun i => dropM l (i * ti.size)), nx⟩
        | _ => False
    | _ => False
  | .call ⟨.builtin .copy, _, ts⟩, [s, x] => match ts.toList with
    | [t, _] => match E.ty t with
      | some ⟨.slice e, _, _, _⟩ => match E.ty e with
        | none => False
        | some ti => match ti.size with
          | 0 => False
          | sz + 1 => match xRow H (sz + 1) x with
            | none => False
            | some (n2, xget, vc) => match s with
              | .os id sz' 0 n => match Nat.beq (sz + 1) sz' with
                | false => False
                | true => match isOsOf id x with
                  | true => False
                  | false => match look H id with
                    | some (.rows sz2 n0 _) => match Nat.beq (sz + 1) sz2 with
                      | false => False
                      | true => Need (vc ∧ n = n0 ∧ n2 = n ∧ 0 < n) (K (.i .i64 n) ⟨F, stk, putL H id (.rows (sz + 1) n xget), nx⟩)
                    | _ => False
              | _ => False
      | _ => False
    | _ => False
  | .binOp .eql t _ _ _, [.ro _ n _, .nils] => match E.ty t with
    | some ⟨.slice _, _, _, _⟩ => ∀ b : Bool, (0 < n → b = false) → K (.b b) ⟨F, stk, H, nx⟩
    | _ => False
  | .binOp .eql t _ _ _, [.os _ _ _ n, .nils] => match E.ty t with
    | some ⟨.slice _, _, _, _⟩ => ∀ b : Bool, (0 < n → b = false) → K (.b b) ⟨F, stk, H, nx⟩
    | _ => False
  | .call ⟨.builtin .clear, _, ts⟩, [x] => match ts.toList with
    | [t] => match E.ty t with
      | some ⟨.slice e, _, _, _⟩ => match E.ty e with
        | none => False
        | some ti => match ti.size with
          | 0 => False
          | sz + 1 => match zeroM ti.zero with
            | none => False
            | some zl => match Nat.beq zl.length (sz + 1) with
              | false => False
              | true => match allF zl with
                | false => False
                | true => match x with
                  | .os id sz' lo n => match Nat.beq (sz + 1) sz' with
                    | false => False
                    | true => match look H id with
                      | some (.rows sz2 n0 get) => match Nat.beq (sz + 1) sz2 with
                        | false => False
                        | true => Need (lo + n ≤ n0 ∧ 0 < n) (K (.tup []) ⟨F, stk, putL H id (.rows (sz + 1) n0 fun k => match Nat.blt k lo with
                          | true => get k
                          | false => []), nx⟩)
                      | _ => False
                  | _ => False
      | _ => False
    | _ => False
  | _, _ => False
where
  repM : Nat → List MV → List MV
    | 0, _ => []
    | n + 1, l => l ++ repM n l
end Go.Ev

namespace Go.Ev
def GivesK (P : Program) (f : Operand → Value) (o : Oper) (w : World) (v : Value) (w' : World) : Prop :=
  (execOp f o).run P w = .ok (.value v) w' ∨ ((execOp f o).run P w = .ok .skip w' ∧ v = undef)
structure Ends (cx : Cx) (su : Sus) (n : Nat) (G : GT) (K : MV → St → Prop) (a : Act) (v : Value) (w : World) : Prop where
  ex : ∃ m S ρ, K m S ∧ SatR cx su n G S a w ρ ∧ Rep w G ρ (okS cx ρ w) m v
theorem setRow_eq {w : World} {g : Nat} {c : Array Value} {T : TypeId} (h : w.heap[g]? = some (.cells c T (0, 0))) (cs : Array Value) : w.setRow g cs = World.putRow w g cs T := by
  unfold World.setRow World.putRow
  congr 1
  apply Array.ext_getElem?
  intro i
  rw [Array.getElem?_modify]
  by_cases e : i = g
  · subst e
    obtain ⟨hl, hw⟩ := Array.getElem?_eq_some_iff.1 h
    simp [hl, hw]
  · rw [if_neg (Ne.symm e), Array.getElem?_setIfInBounds_ne (Ne.symm e)]
theorem rep_alloc {cx : Cx} {ρ : RhoT} {H : List (Nat × Blk)} {nx : Nat} {w : World} (hW : SatW cx ρ H nx w) {o : Obj} {ρ' : RhoT} (hρ : ∀ i b, ρ i = some b → ρ' i = some b) {ok : OkT}
    (hok : ∀ b, okS cx ρ w b → ok b) {m : MV} {v : Value} {G : GT} (h : Rep w G ρ (okS cx ρ w) m v) : Rep (w.alloc o) G ρ' ok m v :=
  h.mono (Keeps.alloc w o) (fun _ _ _ e => e) hρ (fun b hb => ⟨hok b hb, heap_alloc_lt w o (okS_lt hW hb)⟩)
theorem rep_alloc0 {cx : Cx} {ρ : RhoT} {H : List (Nat × Blk)} {nx : Nat} {w : World} (hW : SatW cx ρ H nx w) {o : Obj} {ok : OkT}
    (hok : ∀ b, okS cx ρ w b → ok b) {m : MV} {v : Value} {G : GT} (h : Rep w G rho0 (okS cx ρ w) m v) : Rep (w.alloc o) G rho0 ok m v :=
  h.mono (Keeps.alloc w o) (fun _ _ _ e => e) (fun _ _ e => e) (fun b hb => ⟨hok b hb, heap_alloc_lt w o (okS_lt hW hb)⟩)
theorem cellsM_x {m : MV} {l : List MV} (h : cellsM m = some l) (ha : allO l = true) : ∀ u, m ≠ .x u := by
  intro u e
  subst e
  simp [cellsM] at h
  subst h
  simp [allO, oneM, simple1] at ha
theorem end_box {cx : Cx} {su : Sus} {n : Nat} {G : GT} {S : St} {a : Act} {w : World} {ρ : RhoT} (h : SatR cx su n G S a w ρ) {K : MV → St → Prop} {l : List MV} (ha : allO l = true) {c : Array Value} (hl : l.length = c.size)
    {G' : GT} (hr : ∀ j, j < l.length → Rep w G' ρ (okS cx ρ w) (getM l j) (c.getD j undef)) {T : TypeId} (hK : K (.p S.nx 0) { S with H := putL S.H S.nx (.cells l), nx := S.nx + 1 }) :
    Ends cx su n G K a (.pointer (some ⟨w.heap.size, 0, none⟩)) (w.alloc (.cells c T)) := by
  have hid := h.W.nx S.nx (Nat.le_refl _)
  refine ⟨_, _, rhoNew ρ S.nx w.heap.size, hK, h.alloc hid (Nat.le_succ _) (Nat.lt_succ_self _) (fun ok hok => ?_), .p _ _ _ (by simp [rhoNew])⟩
  exact ⟨w.heap.size, c, T, by simp [rhoNew], heap_alloc_new _ _, hl.symm, fun j hj => (oneM_spec (allO_spec ha j (by omega)) (hr j (by omega))).2, fun j hj =>
    rep_alloc h.W (rhoNew_old hid _) hok (oneM_spec (allO_spec ha j hj) (hr j hj)).1⟩
theorem end_store {P : Program} {cx : Cx} {su : Sus} {n : Nat} {G : GT} {S : St} {a : Act} {w : World} {ρ : RhoT} (h : SatR cx su n G S a w ρ) {K : MV → St → Prop} {t id b off : Nat} {ti : TI} (ht : TyOK P t ti)
    (hid : ρ id = some b) {c : Array Value} {T : TypeId} (hb : w.heap[b]? = some (.cells c T (0, 0))) {v : Value} (hvs : v.cells.size = ti.size) (hoff : off + v.cells.size ≤ c.size) (h1 : ∀ u ∈ v.cells.toList, u.oneCell' = true) {blk : Blk}
    (hB : ∀ c' : Array Value, c'.size = c.size → (∀ j, c'.getD j undef = if off ≤ j ∧ j < off + v.cells.size then v.cells.getD (j - off) undef else c.getD j undef) →
      ∀ ok : OkT, (∀ k, okS cx ρ w k → ok k ∧ (World.putRow w b c' T).heap[k]? = w.heap[k]?) → BlkOK (World.putRow w b c' T) ρ ok id blk)
    (hK : K (.x undef) { S with H := putL S.H id blk }) :
    ∃ w', (Instr.storeAt t (.pointer (some ⟨b, off, none⟩)) v).run P w = .ok () w' ∧ Ends cx su n G K a undef w' := by
  have hst := run_storeCells_at P b off T v.cells.toList 0 c w hb (by simpa using hoff) h1
  simp only [Nat.add_zero, Array.length_toList] at hst
  rw [setRow_eq hb] at hst
  have hsz : (c.toList.take off ++ v.cells.toList ++ c.toList.drop (off + v.cells.size)).toArray.size = c.size := by
    simp only [List.size_toArray, List.length_append, List.length_take, List.length_drop, Array.length_toList]
    omega
  refine ⟨_, ?_, ⟨_, _, ρ, hK, h.putRow hid hb hsz (hB _ hsz ?_), .x _⟩⟩
  · simp only [Instr.storeAt, Instr.sureAddr, Sem.run_bind, Sem.run_pure, Result.andThen_ok, storeVar, ht.run_sizeOf]
    rw [if_neg (by simp [hvs])]
    exact hst
  · intro j
    simp only [Array.getD_eq_getD_getElem?, List.getElem?_toArray, List.append_assoc]
    by_cases hj : off ≤ j ∧ j < off + v.cells.size
    · rw [if_pos hj, List.getElem?_append_right (by simp; omega), List.getElem?_append_left (by simp; omega)]
      simp only [List.length_take, Array.length_toList, Array.getElem?_toList]
      rw [show min off c.size = off by omega]
    · rw [if_neg hj]
      by_cases hjl : j < off
      · rw [List.getElem?_append_left (by simp; omega)]
        simp [hjl]
      · rw [List.getElem?_append_right (by simp; omega), List.getElem?_append_right (by simp; omega)]
        simp only [List.length_take, Array.length_toList, List.getElem?_drop, Array.getElem?_toList]
        rw [show off + v.cells.size + (j - min off c.size - v.cells.size) = j by omega]
theorem repCells_one {m : MV} {ys : List MV} (hc : cellsM m = some ys) (hx : ∀ u, m ≠ .x u) {w : World} {G : GT} {ρ : RhoT} {ok : OkT} {v : Value} (r : Rep w G ρ ok m v) :
    ys.length = v.cells.size ∧ ∀ j, j < ys.length → Rep w G ρ ok (getM ys j) (v.cells.getD j undef) :=
  cellsM_spec hc r (fun u e => absurd e (hx u))
theorem mem_cells_getD {c : Array Value} {u : Value} (h : u ∈ c.toList) : ∃ j, j < c.size ∧ c.getD j undef = u := by
  obtain ⟨j, hj, rfl⟩ := List.getElem_of_mem h
  have hj' : j < c.size := by simpa using hj
  exact ⟨j, hj', by simp [Array.getD, hj']⟩
theorem allF_x {m : MV} {l : List MV} (h : cellsM m = some l) (ha : allF l = true) : ∀ u, m ≠ .x u := by
  intro u e
  subst e
  simp [cellsM] at h
  subst h
  simp [allF, flat1] at ha
theorem rowIdx {sz i k j j' : Nat} (hj : j < sz) (hj' : j' < sz) (h : i * sz + j = k * sz + j') : i = k ∧ j = j' := by
  have h1 : (i * sz + j) / sz = i := by rw [Nat.mul_comm, Nat.mul_add_div (by omega), Nat.div_eq_of_lt hj]; rfl
  have h2 : (k * sz + j') / sz = k := by rw [Nat.mul_comm, Nat.mul_add_div (by omega), Nat.div_eq_of_lt hj']; rfl
  have e : i = k := by rw [← h1, h, h2]
  subst e
  exact ⟨rfl, by omega⟩
theorem end_rows {cx : Cx} {su : Sus} {n : Nat} {G : GT} {S : St} {a : Act} {w : World} {ρ : RhoT} (h : SatR cx su n G S a w ρ) {K : MV → St → Prop} {sz m cap : Nat} {get : Nat → List MV} {c : Array Value} (hm : m ≤ cap) (hl : cap * sz ≤ c.size)
    {T : TypeId} (h1 : ∀ j, j < m * sz → (c.getD j undef).oneCell' = true) (hr : ∀ i, i < m → ∀ j, j < sz → Rep w G0 rho0 (okS cx ρ w) (getM (get i) j) (c.getD (i * sz + j) undef)) (hK : K (.os S.nx sz 0 m) { S with H := putL S.H S.nx (.rows sz m get), nx := S.nx + 1 }) :
    Ends cx su n G K a (.slice (some ⟨w.heap.size, 0, none⟩) m cap) (w.alloc (.cells c T)) := by
  have hid := h.W.nx S.nx (Nat.le_refl _)
  refine ⟨_, _, rhoNew ρ S.nx w.heap.size, hK, h.alloc hid (Nat.le_succ _) (Nat.lt_succ_self _) (fun ok hok => ?_), ?_⟩
  · exact .inr ⟨w.heap.size, c, T, by simp [rhoNew], heap_alloc_new _ _, Nat.le_trans (Nat.mul_le_mul_right _ hm) hl, h1, fun i hi j hj => rep_alloc0 h.W hok (hr i hi j hj)⟩
  · exact .os _ _ _ _ w.heap.size cap 0 c T (by simp [rhoNew]) hm (.inl (by simp)) (heap_alloc_new _ _) (by simpa using hl)
end Go.Ev

namespace Go.Ev
theorem execOp_run_v {P : Program} {w w' : World} {s : Sem Value} {v : Value} (h : s.run P w = .ok v w') : ((do pure (Next.value (← s)) : Sem Next)).run P w = .ok (.value v) w' := by
  rw [Sem.run_bind, h]; rfl
theorem repM_spec {w : World} {G : GT} {ρ : RhoT} {ok : OkT} {zl : List MV} {z : Array Value} (hl : zl.length = z.size) (hr : ∀ j, j < zl.length → Rep w G ρ ok (getM zl j) (z.getD j undef)) :
    ∀ n, (evKm.repM n zl).length = n * z.size ∧ ∀ j, j < n * z.size → Rep w G ρ ok (getM (evKm.repM n zl) j) (z.getD (j % z.size) undef)
  | 0 => by simp [evKm.repM]
  | n + 1 => by
    obtain ⟨h1, h2⟩ := repM_spec hl hr n
    refine ⟨by simp [evKm.repM, h1, hl, Nat.add_mul, Nat.add_comm], fun j hj => ?_⟩
    simp only [evKm.repM]
    by_cases hjz : j < zl.length
    · have e : getM (zl ++ evKm.repM n zl) j = getM zl j := by
        simp only [getM, List.getD_eq_getElem?_getD]; rw [List.getElem?_append_left hjz]
      rw [e, Nat.mod_eq_of_lt (by omega)]
      exact hr j hjz
    · have e : getM (zl ++ evKm.repM n zl) j = getM (evKm.repM n zl) (j - zl.length) := by
        simp only [getM, List.getD_eq_getElem?_getD]; rw [List.getElem?_append_right (by omega)]
      rw [e]
      have e2 : j % z.size = (j - zl.length) % z.size := by
        rw [hl]
        conv => lhs; rw [show j = (j - z.size) + z.size by omega]
        rw [Nat.add_mod_right]
      rw [e2]
      refine h2 _ ?_
      rw [Nat.add_mul, Nat.one_mul] at hj
      omega
structure XRow (w : World) (ok : OkT) (sz n : Nat) (get : Nat → List MV) (v : Value) (news : List Value) : Prop where
  len : news.length = n * sz
  one : ∀ u ∈ news, u.oneCell' = true
  val : (n = 0 ∧ news = [] ∧ v = .slice none 0 0) ∨ ∃ ad c, v = .slice (some ad) n c ∧ ∀ j u, news[j]? = some u → w.cell? (ad.add j) = some u
  rep : ∀ i, i < n → ∀ j, j < sz → Rep w G0 rho0 ok (getM (get i) j) (news.getD (i * sz + j) undef)
theorem news_of (sz n : Nat) (u : Nat → Nat → Value) : ((List.range (n * sz)).map fun k => u (k / sz) (k % sz)).length = n * sz ∧
    ∀ i, i < n → ∀ j, j < sz → ((List.range (n * sz)).map fun k => u (k / sz) (k % sz)).getD (i * sz + j) undef = u i j := by
  refine ⟨by simp, fun i hi j hj => ?_⟩
  have hlt : i * sz + j < n * sz := by
    have : i * sz + sz ≤ n * sz := by rw [← Nat.succ_mul]; exact Nat.mul_le_mul_right _ hi
    omega
  simp only [List.getD_eq_getElem?_getD, List.getElem?_map, List.getElem?_range hlt, Option.map_some, Option.getD_some]
  congr 1
  · rw [Nat.mul_comm, Nat.mul_add_div (by omega), Nat.div_eq_of_lt hj]; rfl
  · rw [Nat.mul_comm, Nat.mul_add_mod, Nat.mod_eq_of_lt hj]
theorem divmod_lt {n sz k : Nat} (h : k < n * sz) : k / sz < n ∧ k % sz < sz ∧ k / sz * sz + k % sz = k := by
  have hs : 0 < sz := by rcases Nat.eq_zero_or_pos sz with e | e; subst e; simp at h; exact e
  exact ⟨(Nat.div_lt_iff_lt_mul hs).2 h, Nat.mod_lt _ hs, by rw [Nat.mul_comm]; exact Nat.div_add_mod _ _⟩
theorem xRow_sound {cx : Cx} {ρ : RhoT} {H : List (Nat × Blk)} {nx : Nat} {w : World} (hW : SatW cx ρ H nx w) {sz n : Nat} (hsz : 0 < sz) {x : MV} {get : Nat → List MV} {vc : Prop} (h : xRow H sz x = some (n, get, vc)) (hvc : vc)
    {G : GT} {v : Value} (r : Rep w G ρ (okS cx ρ w) x v) : ∃ news, XRow w (okS cx ρ w) sz n get v news := by
  unfold xRow at h
  split at h
  · rename_i id sz' lo n'
    split at h
    · cases h
    · rename_i hs
      have hs := Nat.eq_of_beq_eq_true hs
      subst hs
      split at h
      · rename_i sz2 n0 g hl
        split at h
        · rename_i hs2
          have hs2 := Nat.eq_of_beq_eq_true hs2
          subst hs2
          cases h
          have hb := hW.blocks _ _ hl
          cases r with
          | osnil =>
            exact ⟨[], by simp, by simp, .inl ⟨rfl, rfl, rfl⟩, fun i hi => absurd hi (by omega)⟩
          | os _ _ _ _ blk cap off c T hρ hn hoff hbk hcap =>
            by_cases hn0 : n = 0
            · subst hn0
              exact ⟨[], by simp, by simp, .inr ⟨_, _, rfl, by simp⟩, fun i hi => absurd hi (by omega)⟩
            · have hoff' : off = lo * sz := by rcases hoff with e | e; exact e; omega
              subst hoff'
              rcases hb with ⟨h0, _⟩ | ⟨b, c', T', h1, h2, h3, h5, h4⟩
              · omega
              · obtain rfl : b = blk := by rw [hρ] at h1; exact (Option.some.inj h1).symm
                rw [hbk] at h2
                cases h2
                obtain ⟨q1, q2⟩ := news_of sz n (fun i j => c.getD ((lo + i) * sz + j) undef)
                refine ⟨_, q1, fun u hu => ?_, .inr ⟨_, _, rfl, fun j u hu => ?_⟩, fun i hi j hj => ?_⟩
                · obtain ⟨k, hk, rfl⟩ := List.mem_map.1 hu
                  obtain ⟨d1, d2, d3⟩ := divmod_lt (List.mem_range.1 hk)
                  refine h5 _ ?_
                  have : (lo + k / sz) * sz + sz ≤ n0 * sz := by rw [← Nat.succ_mul]; exact Nat.mul_le_mul_right _ (by omega)
                  omega
                · have hj : j < n * sz := by
                    have := (List.getElem?_eq_some_iff.1 hu).1
                    simpa using this
                  obtain ⟨d1, d2, d3⟩ := divmod_lt hj
                  rw [List.getElem?_map, List.getElem?_range hj] at hu
                  simp only [Option.map_some, Option.some.injEq] at hu
                  subst hu
                  rw [addr_add]
                  have e : lo * sz + j = (lo + j / sz) * sz + j % sz := by rw [Nat.add_mul]; omega
                  rw [e]
                  refine cell?_cells hbk ?_
                  have : (lo + n) * sz ≤ n0 * sz := Nat.mul_le_mul_right _ hvc
                  rw [Nat.add_mul] at this
                  rw [← e]
                  omega
                · rw [q2 i hi j hj]
                  exact h4 (lo + i) (by omega) j hj
        · cases h
      · cases h
  · rename_i sz' n' g
    split at h
    · rename_i hs
      have hs := Nat.eq_of_beq_eq_true hs
      subst hs
      cases h
      cases r with
      | ronil => exact ⟨[], by simp, by simp, .inl ⟨rfl, rfl, rfl⟩, fun i hi => absurd hi (by omega)⟩
      | ro _ _ _ blk off cap u hn hok hc h1c hr =>
        obtain ⟨q1, q2⟩ := news_of sz n u
        refine ⟨_, q1, fun v hv => ?_, .inr ⟨_, _, rfl, fun j v hv => ?_⟩, fun i hi j hj => ?_⟩
        · obtain ⟨k, hk, rfl⟩ := List.mem_map.1 hv
          obtain ⟨d1, d2, d3⟩ := divmod_lt (List.mem_range.1 hk)
          exact h1c _ d1 _ d2
        · have hj : j < n * sz := by
            have := (List.getElem?_eq_some_iff.1 hv).1
            simpa using this
          obtain ⟨d1, d2, d3⟩ := divmod_lt hj
          rw [List.getElem?_map, List.getElem?_range hj] at hv
          simp only [Option.map_some, Option.some.injEq] at hv
          subst hv
          rw [addr_add]
          have := hc _ d1 _ d2
          rw [d3] at this
          exact this
        · rw [q2 i hi j hj]
          exact rep0_mono (hr i hi j hj)
    · cases h
  · cases h
    cases r
    exact ⟨[], by simp, by simp, .inl ⟨rfl, rfl, rfl⟩, fun i hi => absurd hi (by omega)⟩
  · cases h
theorem run_append_empty {P : Program} (w : World) (t ty e : TypeId) (i : TypeInfo) (ht : P.underlying t = some (.slice e)) (hi : P.info? e = some i) (b : Option Addr) (n cap : Nat) (hn : n ≤ cap) :
    (Builtin.append_ #[t, t] ty #[.slice b n cap, .slice none 0 0]).run P w = .ok (.slice b n cap) w := by
  cases b <;> simp [Builtin.append_, run_underlying ht, sizeOf, typeInfo, hi, Builtin.lenOf, Builtin.firstCells, hn, storeCells]
theorem run_append_empty' {P : Program} (w : World) (t ty e : TypeId) (i : TypeInfo) (ht : P.underlying t = some (.slice e)) (hi : P.info? e = some i) (b : Option Addr) (n cap : Nat) (hn : n ≤ cap) (ad : Addr) (c : Nat) :
    (Builtin.append_ #[t, t] ty #[.slice b n cap, .slice (some ad) 0 c]).run P w = .ok (.slice b n cap) w := by
  cases b <;> simp [Builtin.append_, run_underlying ht, sizeOf, typeInfo, hi, Builtin.lenOf, Builtin.firstCells, hn, storeCells, loadCells, loadCellsFrom]
end Go.Ev

namespace Go.Ev
theorem append_sound {P : Program} {cx : Cx} {su : Sus} {n : Nat} {G : GT} {S : St} {a : Act} {w : World} {ρ : RhoT} (h : SatR cx su n G S a w ρ) {K : MV → St → Prop} {t e ty : TypeId} {ti : TI}
    (ht : P.underlying t = some (.slice e)) (he : TyOK P e ti) {sz : Nat} (hsz : ti.size = sz) (hpos : 0 < sz) {zl : List MV} (hz : zeroM ti.zero = some zl) (hzl : zl.length = sz)
    {id m n0 n2 : Nat} {get xget : Nat → List MV} (hid : id < S.nx) (hl : look S.H id = some (.rows sz n0 get)) {v x : Value} (hv : Rep w G ρ (okS cx ρ w) (.os id sz 0 m) v)
    {news : List Value} (hx : XRow w (okS cx ρ w) sz n2 xget x news) (hm : m ≤ n0) (hby : AppOK (m + n2) ti.bytes) (hmx : m + n2 ≤ 140737488355328)
    (hK : K (.os id sz 0 (m + n2)) { F := purgeF id S.F, stk := purgeS id S.stk, H := putL (purgeH id S.H) id (.rows sz (m + n2) (appGet m get xget)), nx := S.nx }) :
    ∃ v' w', (Builtin.append_ #[t, t] ty #[v, x]).run P w = .ok v' w' ∧ Ends cx su n G K a v' w' := by
  obtain ⟨info, hi, hi1, hi2, hi3⟩ := he.info
  have hisz : info.size = sz := hi1.trans hsz
  have hzc : ti.zero.cells.size = sz := by rw [← (zeroM_spec hz).1]; exact hzl
  have hxlen := hx.len
  have hb := h.W.blocks _ _ hl
  have hlt : ∀ (j : Nat) (blk : Blk), look (putL (purgeH id S.H) id (.rows sz (m + n2) (appGet m get xget))) j = some blk → j < S.nx := by
    intro j blk hlj
    rw [look_put] at hlj
    split at hlj
    · rename_i e; subst e; exact hid
    · obtain ⟨m', h1, _⟩ := look_purgeH hlj
      exact h.W.hlt j m' h1
  -- the content: what was there, and behind it what is new
  have content : ∀ {w' : World} {ok' : OkT} (c : Array Value), (∀ b, okS cx ρ w b → ok' b ∧ w'.heap[b]? = w.heap[b]?) → Keeps w w' →
      (∀ i, i < m → ∀ j, j < sz → Rep w G0 rho0 (okS cx ρ w) (getM (get i) j) (c.getD (i * sz + j) undef)) → (∀ k, k < news.length → c.getD (m * sz + k) undef = news.getD k undef) →
      ∀ i, i < m + n2 → ∀ j, j < sz → Rep w' G0 rho0 ok' (getM (appGet m get xget i) j) (c.getD (i * sz + j) undef) := by
    intro w' ok' c hok hs hold hnew i hi j hj
    have up : ∀ {mv : MV} {u : Value}, Rep w G0 rho0 (okS cx ρ w) mv u → Rep w' G0 rho0 ok' mv u := fun r => r.mono hs (fun _ _ _ e => e) (fun _ _ e => e) hok
    refine selL_spec (fun hc => ?_) (fun hc => ?_)
    · exact up (hold i (by simpa using hc) j hj)
    · have hge : m ≤ i := by
        rcases Nat.lt_or_ge i m with hlt | hge
        · have : Nat.blt i m = true := by simpa using hlt
          rw [this] at hc; cases hc
        · exact hge
      have := hx.rep (i - m) (by omega) j hj
      have e : i * sz + j = m * sz + ((i - m) * sz + j) := by rw [← Nat.add_assoc, ← Nat.add_mul, Nat.add_sub_cancel' hge]
      have hk : (i - m) * sz + j < news.length := by
        rw [hxlen]
        have : (i - m) * sz + sz ≤ n2 * sz := by rw [← Nat.succ_mul]; exact Nat.mul_le_mul_right _ (by omega)
        omega
      rw [e, hnew _ hk]
      exact up this
  -- a new block
  have fresh : ∀ (old : List Value) (cap : Nat), old.length = m * sz → m + n2 ≤ cap → (∀ j, j < m * sz → (old.getD j undef).oneCell' = true) →
      (∀ i, i < m → ∀ j, j < sz → Rep w G0 rho0 (okS cx ρ w) (getM (get i) j) (old.getD (i * sz + j) undef)) →
      Ends cx su n G K a (.slice (some ⟨w.heap.size, 0, none⟩) (m + n2) cap) (w.drew.alloc (.cells (old.toArray ++ news.toArray ++ Builtin.zeroCells ti.zero.cells (cap - (m + n2))) e)) := by
    intro old cap hol hcap hone hold
    have hd := h.drawn (w.drawn + 1)
    have hwd : ({ w with drawn := w.drawn + 1 } : World) = w.drew := rfl
    rw [hwd] at hd
    have csz : (old.toArray ++ news.toArray ++ Builtin.zeroCells ti.zero.cells (cap - (m + n2))).size = cap * sz := by
      simp only [Array.size_append, List.size_toArray, size_zeroCells, hzc, hol, hxlen, ← Nat.add_mul]
      congr 1; omega
    have cget : ∀ j, j < (m + n2) * sz → (old.toArray ++ news.toArray ++ Builtin.zeroCells ti.zero.cells (cap - (m + n2))).getD j undef = (old ++ news).getD j undef := by
      intro j hj
      rw [Array.append_assoc]
      simp only [Array.getD_eq_getD_getElem?, List.getD_eq_getElem?_getD]
      rw [← Array.append_assoc, Array.getElem?_append_left (by simp [hol, hxlen, ← Nat.add_mul]; exact hj)]
      simp
    have cold : ∀ j, j < m * sz → (old ++ news).getD j undef = old.getD j undef := by
      intro j hj
      simp only [List.getD_eq_getElem?_getD]
      rw [List.getElem?_append_left (by omega)]
    have cnew : ∀ k, k < news.length → (old ++ news).getD (m * sz + k) undef = news.getD k undef := by
      intro k hk
      simp only [List.getD_eq_getElem?_getD]
      rw [List.getElem?_append_right (by omega), hol]
      congr 2; omega
    have hadd : ∀ i, i < m → ∀ j, j < sz → i * sz + j < m * sz := by
      intro i hi j hj
      have : i * sz + sz ≤ m * sz := by rw [← Nat.succ_mul]; exact Nat.mul_le_mul_right _ hi
      omega
    have hsum : (m + n2) * sz = m * sz + n2 * sz := Nat.add_mul _ _ _
    refine ⟨_, _, rhoSet ρ id (some w.heap.size), hK, hd.regrow (c := old.toArray ++ news.toArray ++ Builtin.zeroCells ti.zero.cells (cap - (m + n2))) (T := e) hid (fun ok hok => ?_), ?_⟩
    · refine .inr ⟨w.heap.size, _, e, by simp [rhoSet], heap_alloc_new w.drew _, by rw [csz]; exact Nat.mul_le_mul_right _ hcap, fun j hj => ?_, ?_⟩
      · rw [cget j hj]
        by_cases hjm : j < m * sz
        · rw [cold j hjm]; exact hone j hjm
        · have hjn : j - m * sz < news.length := by omega
          have := cnew (j - m * sz) hjn
          rw [show m * sz + (j - m * sz) = j by omega] at this
          rw [this]
          refine hx.one _ ?_
          rw [List.getD_eq_getElem?_getD, List.getElem?_eq_getElem hjn]
          exact List.getElem_mem hjn
      · have hs : Keeps w (w.drew.alloc (.cells (old.toArray ++ news.toArray ++ Builtin.zeroCells ti.zero.cells (cap - (m + n2))) e)) := Keeps.alloc w.drew _
        refine content _ (fun b hb => ⟨hok b hb, heap_alloc_lt w.drew _ (okS_lt h.W hb)⟩) hs ?_ ?_
        · intro i hi j hj
          rw [cget _ (by have := hadd i hi j hj; omega), cold _ (hadd i hi j hj)]
          exact hold i hi j hj
        · intro k hk
          rw [cget _ (by omega)]
          exact cnew k hk
    · exact .os _ _ _ _ w.heap.size cap 0 _ e (by simp [rhoSet]) hcap (.inl (by simp)) (heap_alloc_new w.drew _) (by rw [csz]; simp)
  -- nothing is appended
  have stay : n2 = 0 → (Builtin.append_ #[t, t] ty #[v, x]).run P w = .ok v w := by
    intro h0
    subst h0
    cases hv with
    | osnil =>
      rcases hx.val with ⟨_, _, rfl⟩ | ⟨ad, c, rfl, _⟩
      · exact run_append_empty w t ty e info ht hi none 0 0 (Nat.le_refl _)
      · exact run_append_empty' w t ty e info ht hi none 0 0 (Nat.le_refl _) ad c
    | os _ _ _ _ blk cap off c T hρ hn hoff hbk hcap =>
      rcases hx.val with ⟨_, _, rfl⟩ | ⟨ad, c, rfl, _⟩
      · exact run_append_empty w t ty e info ht hi _ m cap hn
      · exact run_append_empty' w t ty e info ht hi _ m cap hn ad c
  by_cases h0 : n2 = 0
  · subst h0
    refine ⟨v, w, stay rfl, ?_⟩
    have hs : Keeps w w := Keeps.refl w
    have hok : ∀ b, okS cx ρ w b → okS cx ρ w b ∧ w.heap[b]? = w.heap[b]? := fun _ h => ⟨h, rfl⟩
    refine ⟨_, _, ρ, hK, ⟨⟨h.W.below, h.W.inj, h.W.rng, fun j blk hlj => hlt j blk hlj, h.W.nx, fun j blk hlj => ?_, h.W.okA⟩, ⟨h.F.defers, h.F.size, h.F.frame.purge hs (fun _ _ _ e => e) hok⟩, h.K.purge hs (fun _ _ _ e => e) hok⟩, hv⟩
    dsimp at hlj
    rw [look_put] at hlj
    split at hlj
    · cases hlj
      rename_i e; subst e
      have hl0 : news.length = 0 := by rw [hxlen]; simp
      rcases hb with ⟨q1, q2⟩ | ⟨b, c, T, q1, q2, q3, q5, q4⟩
      · exact .inl ⟨by omega, q2⟩
      · have hmn : m * sz ≤ n0 * sz := Nat.mul_le_mul_right _ hm
        refine .inr ⟨b, c, T, q1, q2, by omega, fun j hj => q5 j (by omega), ?_⟩
        exact content c hok hs (fun i hi j hj => q4 i (by omega) j hj) (fun k hk => absurd hk (by omega))
    · rename_i hne
      obtain ⟨m', h1, rfl⟩ := look_purgeH hlj
      exact (h.W.blocks j m' h1).purge hs hne (fun _ _ _ e => e) (fun e => e) hok (fun _ _ => rfl)
  · rcases hx.val with ⟨q, _, _⟩ | ⟨ad, xc, rfl, hcells⟩
    · exact absurd q h0
    · cases hv with
      | osnil =>
        have hr := run_append_nil (P := P) w t ty e info ti.zero ht hi hi3 ad n2 xc news (by rw [hxlen, hisz]) hcells (by omega) (by omega) (by rw [hi2]; have := hby.le; rw [Nat.zero_add] at this; exact this)
        refine ⟨_, _, hr, ?_⟩
        have := fresh [] (grownCap w n2 0 e) (by simp) (by have := grownCap_ge w n2 0 e; omega) (by simp) (fun i hi => absurd hi (by omega))
        simpa using this
      | os _ _ _ _ blk cap off c T hρ hn hoff hbk hcap =>
        simp only [Nat.zero_add] at hcap
        have hoff0 : off = 0 ∨ cap = 0 := by simpa using hoff
        by_cases hroom : m + n2 ≤ cap
        · obtain rfl : off = 0 := by rcases hoff0 with e | e; exact e; omega
          rcases hb with ⟨q1, q2⟩ | ⟨b, c', T', q1, q2, q3, q5, q4⟩
          · rw [q2] at hρ; cases hρ
          · obtain rfl : b = blk := by rw [hρ] at q1; exact (Option.some.inj q1).symm
            rw [hbk] at q2
            cases q2
            have hmn : m * sz ≤ n0 * sz := Nat.mul_le_mul_right _ hm
            have hfit : m * sz + news.length ≤ c.size := by
              rw [hxlen, ← Nat.add_mul]; exact Nat.le_trans (Nat.mul_le_mul_right _ hroom) hcap
            have htt : T = e ∨ True := .inr trivial
            have hst := run_storeCells_at P b (m * sz) T news 0 c w hbk (by simpa using hfit) hx.one
            simp only [Nat.add_zero] at hst
            have hf := run_firstCells_some (P := P) w info.size n2 ad n2 xc news (by rw [hxlen, hisz]) hcells
            rw [setRow_eq hbk] at hst
            have hr : (Builtin.append_ #[t, t] ty #[.slice (some ⟨b, 0, none⟩) m cap, .slice (some ad) n2 xc]).run P w =
                .ok (.slice (some ⟨b, 0, none⟩) (m + n2) cap) (World.putRow w b (c.toList.take (m * sz) ++ news ++ c.toList.drop (m * sz + news.length)).toArray T) := by
              have hst' : (storeCells (Addr.add ⟨b, 0, none⟩ (m * sz)) news).run P w = .ok () (World.putRow w b (c.toList.take (m * sz) ++ news ++ c.toList.drop (m * sz + news.length)).toArray T) := by
                rw [addr_add, Nat.zero_add]; exact hst
              rw [hisz] at hf
              simp [Builtin.append_, run_underlying ht, sizeOf, typeInfo, hi, hisz, Builtin.lenOf, hroom, hf]
              rw [List.append_assoc] at hst'
              simp [hst']
            refine ⟨_, _, hr, ?_⟩
            have csz : (c.toList.take (m * sz) ++ news ++ c.toList.drop (m * sz + news.length)).toArray.size = c.size := by
              simp only [List.size_toArray, List.length_append, List.length_take, List.length_drop, Array.length_toList]
              omega
            have cold : ∀ j, j < m * sz → (c.toList.take (m * sz) ++ news ++ c.toList.drop (m * sz + news.length)).toArray.getD j undef = c.getD j undef := by
              intro j hj
              simp only [Array.getD_eq_getD_getElem?, List.getElem?_toArray, List.append_assoc]
              rw [List.getElem?_append_left (by simp; omega)]
              simp [hj]
            have cnew : ∀ k, k < news.length → (c.toList.take (m * sz) ++ news ++ c.toList.drop (m * sz + news.length)).toArray.getD (m * sz + k) undef = news.getD k undef := by
              intro k hk
              simp only [Array.getD_eq_getD_getElem?, List.getElem?_toArray, List.getD_eq_getElem?_getD, List.append_assoc]
              rw [List.getElem?_append_right (by simp; omega), List.getElem?_append_left (by simp; omega)]
              congr 2
              simp; omega
            have hadd : ∀ i, i < m → ∀ j, j < sz → i * sz + j < m * sz := by
              intro i hi j hj
              have : i * sz + sz ≤ m * sz := by rw [← Nat.succ_mul]; exact Nat.mul_le_mul_right _ hi
              omega
            have hsum : (m + n2) * sz = m * sz + n2 * sz := Nat.add_mul _ _ _
            have hsat := h.putRow (blk := .rows sz (m + n2) (appGet m get xget)) hρ hbk csz (fun ok hok => by
              refine .inr ⟨b, _, T, hρ, putRow_same (lt_of_heap hbk) _ _, by rw [csz]; omega, fun j hj => ?_, ?_⟩
              · by_cases hjm : j < m * sz
                · rw [cold j hjm]; exact q5 j (by omega)
                · have hjn : j - m * sz < news.length := by omega
                  have := cnew (j - m * sz) hjn
                  rw [show m * sz + (j - m * sz) = j by omega] at this
                  rw [this]
                  refine hx.one _ ?_
                  rw [List.getD_eq_getElem?_getD, List.getElem?_eq_getElem hjn]
                  exact List.getElem_mem hjn
              · refine content _ hok (Keeps.putRow hbk csz) ?_ cnew
                intro i hi j hj
                rw [cold _ (hadd i hi j hj)]
                exact q4 i (by omega) j hj)
            have hb2 := putRow_same (lt_of_heap hbk) (c.toList.take (m * sz) ++ news ++ c.toList.drop (m * sz + news.length)).toArray T
            have hc2 : cap * sz ≤ (c.toList.take (m * sz) ++ news ++ c.toList.drop (m * sz + news.length)).toArray.size := by rw [csz]; exact hcap
            generalize (c.toList.take (m * sz) ++ news ++ c.toList.drop (m * sz + news.length)).toArray = c2 at *
            generalize World.putRow w b c2 T = w' at *
            have hs : Keeps w' w' := Keeps.refl _
            have hok : ∀ b, okS cx ρ w' b → okS cx ρ w' b ∧ w'.heap[b]? = w'.heap[b]? := fun _ h => ⟨h, rfl⟩
            refine ⟨_, _, ρ, hK, ⟨⟨hsat.W.below, hsat.W.inj, hsat.W.rng, fun j blk hlj => hlt j blk hlj, hsat.W.nx, fun j blk hlj => ?_, hsat.W.okA⟩, ⟨hsat.F.defers, hsat.F.size, hsat.F.frame.purge hs (fun _ _ _ e => e) hok⟩, hsat.K.purge hs (fun _ _ _ e => e) hok⟩, ?_⟩
            · dsimp at hlj
              rw [look_put] at hlj
              split at hlj
              · cases hlj
                rename_i e; subst e
                exact hsat.W.blocks _ _ (by dsimp; rw [look_put, if_pos rfl])
              · rename_i hne
                obtain ⟨m', h1, rfl⟩ := look_purgeH hlj
                exact (hsat.W.blocks j m' (by dsimp; rw [look_put, if_neg hne]; exact h1)).purge hs hne (fun _ _ _ e => e) (fun e => e) hok (fun _ _ => rfl)
            · exact .os _ _ _ _ b cap 0 c2 T hρ hroom (.inl (by simp)) hb2 (by rw [Nat.zero_add]; exact hc2)
        · have holds : ∃ old : List Value, old.length = m * sz ∧ (∀ j, j < m * sz → (old.getD j undef).oneCell' = true) ∧ (∀ j u, old[j]? = some u → w.cell? (Addr.add ⟨blk, off, none⟩ j) = some u) ∧
              (∀ i, i < m → ∀ j, j < sz → Rep w G0 rho0 (okS cx ρ w) (getM (get i) j) (old.getD (i * sz + j) undef)) := by
            by_cases hm0 : m = 0
            · subst hm0
              exact ⟨[], by simp, by simp, by simp, fun i hi => absurd hi (by omega)⟩
            · obtain rfl : off = 0 := by rcases hoff0 with e | e; exact e; omega
              rcases hb with ⟨q1, q2⟩ | ⟨b, c', T', q1, q2, q3, q5, q4⟩
              · rw [q2] at hρ; cases hρ
              · obtain rfl : b = blk := by rw [hρ] at q1; exact (Option.some.inj q1).symm
                rw [hbk] at q2
                cases q2
                have hmn : m * sz ≤ n0 * sz := Nat.mul_le_mul_right _ hm
                have hg : ∀ j, j < m * sz → (c.toList.take (m * sz)).getD j undef = c.getD j undef := by
                  intro j hj
                  simp only [List.getD_eq_getElem?_getD, Array.getD_eq_getD_getElem?, List.getElem?_take, if_pos hj, Array.getElem?_toList]
                refine ⟨c.toList.take (m * sz), by simp; omega, fun j hj => by rw [hg j hj]; exact q5 j (by omega), fun j u hu => ?_, fun i hi j hj => ?_⟩
                · have hj : j < m * sz := by
                    have := (List.getElem?_eq_some_iff.1 hu).1
                    simp at this; omega
                  rw [addr_add, Nat.zero_add, cell?_cells hbk (by omega)]
                  rw [List.getElem?_take, if_pos hj, Array.getElem?_toList] at hu
                  simp [Array.getD_eq_getD_getElem?, hu]
                · have : i * sz + j < m * sz := by
                    have : i * sz + sz ≤ m * sz := by rw [← Nat.succ_mul]; exact Nat.mul_le_mul_right _ hi
                    omega
                  rw [hg _ this]
                  exact q4 i (by omega) j hj
          obtain ⟨old, o1, o2, o3, o4⟩ := holds
          have hr := run_append_grow (P := P) w t ty e info ti.zero ht hi hi3 ⟨blk, off, none⟩ m cap old (by rw [o1, hisz]) o3 ad n2 xc news (by rw [hxlen, hisz]) hcells (by omega) (by omega)
            (by rw [hi2]; rcases hby with hby | hby; exact growslice_fits (by omega) hby; exact growslice_fits_wide (by omega) hby)
          exact ⟨_, _, hr, fresh old _ o1 (by have := grownCap_ge w (m + n2) cap e; omega) o2 o4⟩
end Go.Ev

namespace Go.Ev
theorem args2 {f : Operand → Value} {args : Array Operand} {w : World} {G : GT} {ρ : RhoT} {ok : OkT} {s x : MV} (h : RepL w G ρ ok [s, x] (args.toList.map f)) : ∃ y z, args = #[y, z] ∧ Rep w G ρ ok s (f y) ∧ Rep w G ρ ok x (f z) := by
  have hl := h.len
  simp only [List.length_map, List.length_cons, List.length_nil, Array.length_toList] at hl
  have hargs : ∃ y z, args = #[y, z] := by
    have : args.toList.length = 2 := by simpa using hl.symm
    match hl : args.toList, this with
    | [y, z], _ => exact ⟨y, z, by apply Array.toList_inj.1; simpa using hl⟩
  obtain ⟨y, z, rfl⟩ := hargs
  exact ⟨y, z, rfl, by simpa [getM] using h.rep 0 (by simp), by simpa [getM] using h.rep 1 (by simp)⟩
theorem dropM_chunk {w : World} {ok : OkT} {l' : List MV} {c : Array Value} {n sz : Nat} (hl : l'.length = n * sz) (hr : ∀ j, j < l'.length → Rep w G0 rho0 ok (getM l' j) (c.getD j undef)) :
    ∀ i, i < n → ∀ j, j < sz → Rep w G0 rho0 ok (getM (dropM l' (i * sz)) j) (c.getD (i * sz + j) undef) := by
  intro i hi j hj
  rw [(dropM_spec l' (i * sz)).2]
  refine hr _ ?_
  have : i * sz + sz ≤ n * sz := by rw [← Nat.succ_mul]; exact Nat.mul_le_mul_right _ hi
  omega
set_option maxHeartbeats 1600000 in
theorem evKm_sound {E : Env} (hE : EnvOK E) {cx : Cx} {su : Sus} {n : Nat} {G : GT} {S : St} {a : Act} {w : World} {ρ : RhoT} (h : SatR cx su n G S a w ρ) {K : MV → St → Prop} {op : Op} {ms : List MV}
    (hk : evKm E S.F S.stk S.H S.nx op ms K) {f : Operand → Value} (hr : RepL w G ρ (okS cx ρ w) ms ((operL op).map f)) (o : Oper) (ho : o.op = op) :
    ∃ v w', GivesK E.P f o w v w' ∧ Ends cx su n G K a v w' := by
  obtain ⟨dst, op', ty, pos, after, guard⟩ := o
  dsimp only at ho
  subst ho
  unfold GivesK
  have hT := hE.ty
  unfold evKm at hk
  split at hk
  · -- box
    rename_i T x m
    split at hk
    · exact hk.elim
    · rename_i l hl
      split at hk
      · rename_i ha
        have r := hr.one
        obtain ⟨c1, c2⟩ := repCells_one hl (cellsM_x hl ha) r
        refine ⟨_, _, .inl (execOp_run_v rfl), end_box h ha c1 c2 hk⟩
      · exact hk.elim
  · -- alloc
    rename_i t
    split at hk
    · exact hk.elim
    · rename_i i hi
      split at hk
      · exact hk.elim
      · rename_i l hl
        split at hk
        · rename_i ha
          obtain ⟨z1, z2⟩ := zeroM_spec hl
          refine ⟨_, _, .inl (execOp_run_v ?_), end_box (G' := G0) (T := t) (c := i.zero.cells) h ha z1 (fun j hj => z2 j hj) hk⟩
          simp only [Instr.alloc, Sem.run_bind, (hT _ _ hi).run_zero, Result.andThen_ok]
          rfl
        · exact hk.elim
  · -- store p
    rename_i t ad x id off m
    obtain ⟨r1, r2⟩ := hr.two
    split at hk
    · exact hk.elim
    · rename_i i hi
      split at hk
      · exact hk.elim
      · rename_i ys hys
        split at hk
        · exact hk.elim
        · rename_i hlen
          have hlen := Nat.eq_of_beq_eq_true hlen
          split at hk
          · exact hk.elim
          · rename_i ha
            split at hk
            · rename_i l hl
              split at hk
              · rename_i l' hsp
                obtain ⟨c1, c2⟩ := repCells_one hys (cellsM_x hys ha) r2
                obtain ⟨s1, s2, s3⟩ := spliceM_spec hsp
                obtain ⟨b, c, T, b1, b2, b3, b5, b4⟩ := h.W.blocks _ _ hl
                have he : f ad = .pointer (some ⟨b, off, none⟩) := by
                  revert r1
                  generalize f ad = v
                  intro r1
                  cases r1 with
                  | p _ _ blk hρ => rw [hρ] at b1; cases b1; rfl
                have h1c : ∀ j, j < (f x).cells.size → ((f x).cells.getD j undef).oneCell' = true := fun j hj => (oneM_spec (allO_spec ha j (by omega)) (c2 j (by omega))).2
                obtain ⟨w', e, hend⟩ := end_store (P := E.P) h (hT _ _ hi) b1 b2 (v := f x) (off := off) (by omega) (by omega) (fun u hu => by
                  obtain ⟨j, hj, rfl⟩ := mem_cells_getD hu
                  exact h1c j hj) (blk := .cells l') (fun c' hc' hg ok hok => by
                    have hs := Keeps.putRow (T := T) b2 hc'
                    refine ⟨b, c', T, b1, putRow_same (lt_of_heap b2) _ _, by omega, fun j hj => ?_, fun j hj => ?_⟩
                    · rw [hg j]
                      split
                      · exact h1c _ (by omega)
                      · exact b5 j (by omega)
                    · rw [s3 j, hg j, ← c1]
                      split
                      · exact (oneM_spec (allO_spec ha _ (by omega)) (c2 _ (by omega))).1.mono hs (fun _ _ _ e => e) (fun _ _ e => e) hok
                      · exact (b4 j (by omega)).mono hs (fun _ _ _ e => e) (fun _ _ e => e) hok) hk
                refine ⟨undef, w', .inr ⟨?_, rfl⟩, hend⟩
                simp only [execOp, Sem.run_bind, he, e, Result.andThen_ok, Sem.run_pure]
              · exact hk.elim
            · exact hk.elim
  · -- store pe
    rename_i t ad x id sz i j m
    obtain ⟨r1, r2⟩ := hr.two
    split at hk
    · exact hk.elim
    · rename_i ti hi
      split at hk
      · exact hk.elim
      · rename_i ys hys
        split at hk
        · exact hk.elim
        · rename_i hlen
          have hlen := Nat.eq_of_beq_eq_true hlen
          split at hk
          · exact hk.elim
          · rename_i ha
            split at hk
            · exact hk.elim
            · rename_i hfit
              have hfit := Nat.le_of_ble_eq_true hfit
              split at hk
              · rename_i sz' n0 get hl
                split at hk
                · exact hk.elim
                · rename_i hsz
                  have hsz := Nat.eq_of_beq_eq_true hsz
                  subst hsz
                  obtain ⟨⟨hin⟩, hk⟩ := hk
                  obtain ⟨c1, c2⟩ := repCells_one hys (allF_x hys ha) r2
                  rcases h.W.blocks _ _ hl with ⟨b0, _⟩ | ⟨b, c, T, b1, b2, b3, b5, b4⟩
                  · omega
                  · have he : f ad = .pointer (some ⟨b, i * sz + j, none⟩) := by
                      revert r1
                      generalize f ad = v
                      intro r1
                      cases r1 with
                      | pe _ _ _ _ blk hρ => rw [hρ] at b1; cases b1; rfl
                    have h1c : ∀ j, j < (f x).cells.size → ((f x).cells.getD j undef).oneCell' = true := fun j hj => (flat1_spec (allF_spec ha j (by omega)) (c2 j (by omega))).2
                    have hbd : i * sz + sz ≤ n0 * sz := by rw [← Nat.succ_mul]; exact Nat.mul_le_mul_right _ hin
                    obtain ⟨w', e, hend⟩ := end_store (P := E.P) h (hT _ _ hi) b1 b2 (v := f x) (off := i * sz + j) (by omega) (by omega) (fun u hu => by
                      obtain ⟨j, hj, rfl⟩ := mem_cells_getD hu
                      exact h1c j hj) (blk := .rows sz n0 fun k => updL (Nat.beq k i) (get k) j ys) (fun c' hc' hg ok hok => by
                        have hs := Keeps.putRow (T := T) b2 hc'
                        refine .inr ⟨b, c', T, b1, putRow_same (lt_of_heap b2) _ _, by omega, fun p hp => ?_, fun k hk p hp => ?_⟩
                        · rw [hg p]
                          split
                          · exact h1c _ (by omega)
                          · exact b5 p hp
                        · refine updL_spec (fun hc h1 h2 => ?_) (fun hc => ?_)
                          · have hki : k = i := Nat.eq_of_beq_eq_true hc
                            subst hki
                            rw [hg, if_pos (by omega)]
                            have e : k * sz + p - (k * sz + j) = p - j := by omega
                            rw [e]
                            exact (flat1_spec (allF_spec ha _ (by omega)) (c2 _ (by omega))).1.mono hs (fun _ _ _ e => e) (fun _ _ e => e) hok
                          · rw [hg, if_neg (by
                              intro hcc
                              have hne : k = i ∧ j ≤ p ∧ p < j + ys.length := by
                                obtain ⟨q1, q2⟩ := hcc
                                have hw : k * sz + p = i * sz + (k * sz + p - i * sz) := by omega
                                have hlt2 : k * sz + p - i * sz < sz := by omega
                                obtain ⟨q3, q4⟩ := rowIdx hp hlt2 hw
                                omega
                              rcases hc with hc | hc | hc
                              · rw [hne.1] at hc; simp at hc
                              · omega
                              · omega)]
                            exact (b4 k hk p hp).mono hs (fun _ _ _ e => e) (fun _ _ e => e) hok) hk
                    refine ⟨undef, w', .inr ⟨?_, rfl⟩, hend⟩
                    simp only [execOp, Sem.run_bind, he, e, Result.andThen_ok, Sem.run_pure]
              · exact hk.elim
  · -- makeSlice
    rename_i t lo co kl l kc c
    obtain ⟨r1, r2⟩ := hr.two
    split at hk
    · rename_i e _ _ _ ht
      have hu := und_slice hT ht
      split at hk
      · exact hk.elim
      · rename_i ti hti
        split at hk
        · exact hk.elim
        · rename_i zl hz
          split at hk
          · exact hk.elim
          · rename_i hlen
            have hlen := Nat.eq_of_beq_eq_true hlen
            split at hk
            · exact hk.elim
            · rename_i ha
              obtain ⟨⟨⟨q0, q1, q2, q3⟩⟩, hk⟩ := hk
              obtain ⟨z1, z2⟩ := zeroM_spec hz
              obtain ⟨info, i1, i2, i3, i4⟩ := (hT _ _ hti).info
              have run := run_make (P := E.P) w t e info ti.zero hu i1 i4 kl kc l c q0 q1 (by rw [i3]; omega) (by omega)
              have hcz : ∀ p, p < c.toNat * info.size → ∃ k, k < zl.length ∧ (madeCells ti.zero.cells (c.toNat * info.size)).getD p undef = ti.zero.cells.getD k undef ∧ k = p % ti.zero.cells.size := by
                intro p hp
                have hpos : 0 < ti.zero.cells.size := by
                  rw [← z1, hlen, ← i2]
                  rcases Nat.eq_zero_or_pos info.size with e | e
                  · rw [e] at hp; simp at hp
                  · exact e
                refine ⟨p % ti.zero.cells.size, by rw [z1]; exact Nat.mod_lt _ hpos, ?_, rfl⟩
                have hlt := Nat.mod_lt p hpos
                simp [madeCells, Array.getD, hp, hlt]
              refine ⟨_, _, .inl (execOp_run_v (v := .slice (some ⟨w.heap.size, 0, none⟩) l.toNat c.toNat) ?_), end_rows (T := e) (cap := c.toNat) (c := madeCells ti.zero.cells (c.toNat * info.size)) h (by omega) (by rw [size_madeCells, i2]; exact Nat.le_refl _) (fun p hp => ?_) (fun i hi p hp => ?_) hk⟩
              · rw [r1.int_inv, r2.int_inv]; exact run
              · have hp2 : l.toNat * ti.size ≤ c.toNat * ti.size := Nat.mul_le_mul_right _ (by omega)
                obtain ⟨k, k1, k2, _⟩ := hcz p (by rw [i2]; omega)
                rw [k2]
                exact (flat1_spec (allF_spec ha k k1) (z2 (w := w) (G := G0) (ρ := rho0) (ok := okS cx ρ w) k k1)).2
              · have hlt : i * ti.size + p < c.toNat * info.size := by
                  have : i * ti.size + ti.size ≤ c.toNat * ti.size := by rw [← Nat.succ_mul]; exact Nat.mul_le_mul_right _ (by omega)
                  rw [i2]; omega
                obtain ⟨k, k1, k2, k3⟩ := hcz _ hlt
                rw [k2]
                have hkp : k = p := by
                  rw [k3, ← z1, hlen, Nat.mul_comm, Nat.mul_add_mod, Nat.mod_eq_of_lt hp]
                rw [hkp] at k1 ⊢
                exact z2 p k1
    · exact hk.elim
  · -- buildSlice
    rename_i t m ps
    split at hk
    · rename_i e _ _ _ ht
      have hu := und_slice hT ht
      split at hk
      · exact hk.elim
      · rename_i ti hti
        split at hk
        · exact hk.elim
        · rename_i zl hz
          split at hk
          · exact hk.elim
          · rename_i hlen
            have hlen := Nat.eq_of_beq_eq_true hlen
            split at hk
            · exact hk.elim
            · rename_i hbig
              have hbig := Nat.le_of_ble_eq_true hbig
              split at hk
              · exact hk.elim
              · rename_i hnx
                split at hk
                · exact hk.elim
                · rename_i l' hf
                  split at hk
                  · exact hk.elim
                  · rename_i ha
                    obtain ⟨z1, z2⟩ := zeroM_spec hz
                    obtain ⟨info, i1, i2, i3, i4⟩ := (hT _ _ hti).info
                    have hzs : ti.zero.cells.size = ti.size := by rw [← z1]; exact hlen
                    obtain ⟨p1, p2⟩ := repM_spec (w := w) (G := G) (ρ := ρ) (ok := okS cx ρ w) z1 (fun j hj => z2 j hj) m
                    -- the cells that are filled
                    have base : ∀ (z : Array Value), (m * ti.size ≠ 0 → z = ti.zero.cells) → ((Array.range (m * ti.size)).map (fun k => z[k % z.size]!)).size = m * ti.size ∧
                        ∀ j, j < m * ti.size → ((Array.range (m * ti.size)).map (fun k => z[k % z.size]!)).getD j undef = ti.zero.cells.getD (j % ti.zero.cells.size) undef := by
                      intro z hz
                      refine ⟨by simp, fun j hj => ?_⟩
                      have hz := hz (by omega)
                      subst hz
                      have hpos : 0 < ti.zero.cells.size := by
                        rw [hzs]
                        rcases Nat.eq_zero_or_pos ti.size with e | e
                        · rw [e] at hj; simp at hj
                        · exact e
                      have := Nat.mod_lt j hpos
                      simp [Array.getD, hj, this]
                    have run : ∀ (vs : List Value) (hvl : ms.length = vs.length) (hvr : ∀ j, j < ms.length → Rep w G ρ (okS cx ρ w) (getM ms j) (vs.getD j undef)),
                        ∃ c', (Instr.buildSlice t m ((ps.toList.map (·.1)).zip vs).toArray).run E.P w = .ok (.slice (some ⟨w.heap.size, 0, none⟩) m m) (w.alloc (.cells c' e)) ∧ l'.length = c'.size ∧
                          ∀ j, j < l'.length → Rep w G ρ (okS cx ρ w) (getM l' j) (c'.getD j undef) := by
                      intro vs hvl hvr
                      have fin : ∀ z, (m * ti.size ≠ 0 → z = ti.zero.cells) → ∃ c', Instr.fill (fun i => some (i * ti.size, ti.size)) ((Array.range (m * ti.size)).map (fun k => z[k % z.size]!)) ((ps.toList.map (·.1)).zip vs) = some c' ∧
                          l'.length = c'.size ∧ ∀ j, j < l'.length → Rep w G ρ (okS cx ρ w) (getM l' j) (c'.getD j undef) := by
                        intro z hz2
                        obtain ⟨b1, b2⟩ := base z hz2
                        exact fill_sound (w := w) (G := G) (ρ := ρ) (ok := okS cx ρ w) (placeM := fun i => some (i * ti.size, ti.size)) (place := fun i => some (i * ti.size, ti.size)) (fun i x hx => hx) hf hvl hvr (noX_spec hnx)
                          (c := (Array.range (m * ti.size)).map (fun k => z[k % z.size]!)) (by rw [p1, hzs]; exact b1.symm) (fun j hj => by
                            rw [p1, hzs] at hj
                            rw [b2 j hj]
                            exact p2 j (by rw [hzs]; exact hj))
                      by_cases h0 : m * ti.size = 0
                      · obtain ⟨c', f1, f2, f3⟩ := fin #[] (fun hn => absurd h0 hn)
                        refine ⟨c', ?_, f2, f3⟩
                        unfold Instr.buildSlice
                        simp only [Sem.run_bind, run_underlying hu, Result.andThen_ok, (hT _ _ hti).run_sizeOf]
                        rw [if_neg (by omega), if_pos h0]
                        simp only [Sem.run_bind, Sem.run_pure, Result.andThen_ok, f1]
                        rfl
                      · obtain ⟨c', f1, f2, f3⟩ := fin ti.zero.cells (fun _ => rfl)
                        refine ⟨c', ?_, f2, f3⟩
                        unfold Instr.buildSlice
                        simp only [Sem.run_bind, run_underlying hu, Result.andThen_ok, (hT _ _ hti).run_sizeOf]
                        rw [if_neg (by omega), if_neg h0]
                        simp only [Sem.run_bind, (hT _ _ hti).run_zero, Sem.run_pure, Result.andThen_ok, f1]
                        rfl
                    obtain ⟨c', e1, e2, e3⟩ := run ((operL (Op.buildSlice t m ps)).map f) hr.len hr.rep
                    have hl' : l'.length = m * ti.size := by
                      have key : ∀ {place : Nat → Option (Nat × Nat)} {is : List Nat} {l r : List MV} {qs : List MV}, fillM place l is qs = some r → r.length = l.length := by
                        intro place is
                        induction is with
                        | nil =>
                          intro l r qs hq
                          cases qs with
                          | nil => simp [fillM] at hq; subst hq; rfl
                          | cons _ _ => simp [fillM] at hq
                        | cons i is ih =>
                          intro l r qs hq
                          cases qs with
                          | nil => simp [fillM] at hq
                          | cons q qs =>
                            unfold fillM at hq
                            split at hq
                            · cases hq
                            · split at hq
                              · cases hq
                              · split at hq
                                · cases hq
                                · split at hq
                                  · cases hq
                                  · rename_i l2 hl2
                                    rw [ih hq, (spliceM_spec hl2).1]
                      rw [key hf, p1, hzs]
                    have hcell : ∀ j, j < l'.length → Rep w G0 rho0 (okS cx ρ w) (getM l' j) (c'.getD j undef) ∧ (c'.getD j undef).oneCell' = true := fun j hj => flat1_spec (allF_spec ha j hj) (e3 j hj)
                    refine ⟨_, _, .inl (execOp_run_v (v := .slice (some ⟨w.heap.size, 0, none⟩) m m) (w' := w.alloc (.cells c' e)) ?_), end_rows (cap := m) h (Nat.le_refl _) (by omega) (fun j hj => (hcell j (by omega)).2) (fun i hi j hj => ?_) hk⟩
                    · have hzz : (ps.map fun (x : Nat × Operand) => (x.1, f x.2)) = (List.zip (ps.toList.map (·.1)) ((operL (Op.buildSlice t m ps)).map f)).toArray := by
                        apply Array.toList_inj.1
                        simp only [operL, Array.toList_map, List.map_map]
                        generalize ps.toList = q
                        induction q with
                        | nil => rfl
                        | cons a q ih => simp [ih]
                      show (Instr.buildSlice t m (ps.map fun (x : Nat × Operand) => (x.1, f x.2))).run E.P w = _
                      rw [hzz]; exact e1
                    · have hch := dropM_chunk hl' (fun j hj => (hcell j hj).1) i hi j hj
                      split
                      · have : i = 0 := by omega
                        subst this
                        simpa [dropM] using hch
                      · exact hch
    · exact hk.elim
  · -- append
    rename_i args ts s x
    obtain ⟨y, z, rfl, r1, r2⟩ := args2 hr
    split at hk
    · rename_i t t' hts
      split at hk
      · exact hk.elim
      · rename_i htt
        have htt := Nat.eq_of_beq_eq_true htt
        subst htt
        have hts' : ts = #[t, t] := by apply Array.toList_inj.1; simpa using hts
        subst hts'
        split at hk
        · rename_i e_ty _ _ _ ht
          have hu := und_slice hT ht
          split at hk
          · exact hk.elim
          · rename_i ti hti
            split at hk
            · exact hk.elim
            · rename_i sz hsz
              split at hk
              · exact hk.elim
              · rename_i zl hz
                split at hk
                · exact hk.elim
                · rename_i hzl
                  have hzl := Nat.eq_of_beq_eq_true hzl
                  split at hk
                  · exact hk.elim
                  · rename_i n2 xget vc hxr
                    have exec : ∀ v' w', (Builtin.append_ #[t, t] ty #[f y, f z]).run E.P w = .ok v' w' →
                        (execOp f ⟨dst, .call ⟨.builtin .append, #[y, z], #[t, t]⟩, ty, pos, after, guard⟩).run E.P w = .ok (.value v') w' := by
                      intro v' w' e
                      simp [execOp, resolve, invoke, builtin, e]
                    split at hk
                    · -- onto nothing
                      obtain ⟨⟨⟨hvc, q1, q2⟩⟩, hk⟩ := hk
                      obtain ⟨news, hx⟩ := xRow_sound h.W (Nat.succ_pos _) hxr hvc r2
                      have hid := h.W.nx S.nx (Nat.le_refl _)
                      have hnil : f y = .slice none 0 0 := by
                        revert r1
                        generalize f y = v
                        intro r1
                        cases r1; rfl
                      obtain ⟨info, i1, i2, i3, i4⟩ := (hT _ _ hti).info
                      by_cases h0 : n2 = 0
                      · subst h0
                        have hrun : (Builtin.append_ #[t, t] ty #[f y, f z]).run E.P w = .ok (.slice none 0 0) w := by
                          rw [hnil]
                          rcases hx.val with ⟨_, _, e⟩ | ⟨ad, c, e, _⟩
                          · rw [e]; exact run_append_empty w t ty e_ty info hu i1 none 0 0 (Nat.le_refl _)
                          · rw [e]; exact run_append_empty' w t ty e_ty info hu i1 none 0 0 (Nat.le_refl _) ad c
                        refine ⟨_, _, .inl (exec _ _ hrun), ⟨_, _, ρ, hk, ⟨⟨h.W.below, h.W.inj, h.W.rng, fun j blk hl => ?_, fun i hi => h.W.nx i (by dsimp at hi; omega), fun j blk hl => ?_, h.W.okA⟩, h.F, h.K⟩, .osnil _ _ _⟩⟩
                        · dsimp at hl ⊢
                          rw [look_put] at hl
                          split at hl
                          · omega
                          · have := h.W.hlt j blk hl; omega
                        · dsimp at hl
                          rw [look_put] at hl
                          split at hl
                          · cases hl; rename_i e; subst e; exact .inl ⟨rfl, hid⟩
                          · exact h.W.blocks j blk hl
                      · rcases hx.val with ⟨q, _, _⟩ | ⟨ad, xc, hxv, hcells⟩
                        · exact absurd q h0
                        · have hrun := run_append_nil (P := E.P) w t ty e_ty info ti.zero hu i1 i4 ad n2 xc news (by rw [hx.len, i2, hsz]) hcells (by omega) (by omega) (by rw [i3]; omega)
                          have hd := h.drawn (w.drawn + 1)
                          have hwd : ({ w with drawn := w.drawn + 1 } : World) = w.drew := rfl
                          rw [hwd] at hd
                          have hge := grownCap_ge w n2 0 e_ty
                          have hzc : ti.zero.cells.size = sz + 1 := by rw [← (zeroM_spec hz).1]; exact hzl
                          have csz : (news.toArray ++ Builtin.zeroCells ti.zero.cells (grownCap w n2 0 e_ty - n2)).size = grownCap w n2 0 e_ty * (sz + 1) := by
                            simp only [Array.size_append, List.size_toArray, size_zeroCells, hzc, hx.len, ← Nat.add_mul]
                            congr 1; omega
                          have cget : ∀ j, j < n2 * (sz + 1) → (news.toArray ++ Builtin.zeroCells ti.zero.cells (grownCap w n2 0 e_ty - n2)).getD j undef = news.getD j undef := by
                            intro j hj
                            simp only [Array.getD_eq_getD_getElem?, List.getD_eq_getElem?_getD]
                            rw [Array.getElem?_append_left (by simp [hx.len]; exact hj)]
                            simp
                          refine ⟨_, _, .inl (exec _ _ (by rw [hnil, hxv]; exact hrun)), end_rows hd hge (by rw [csz]; exact Nat.le_refl _) (fun j hj => ?_) (fun i hi j hj => ?_) hk⟩
                          · rw [cget j hj]
                            have hjn : j < news.length := by rw [hx.len]; exact hj
                            refine hx.one _ ?_
                            rw [List.getD_eq_getElem?_getD, List.getElem?_eq_getElem hjn]
                            exact List.getElem_mem hjn
                          · rw [cget _ (by
                              have : i * (sz + 1) + (sz + 1) ≤ n2 * (sz + 1) := by rw [← Nat.succ_mul]; exact Nat.mul_le_mul_right _ hi
                              omega)]
                            have hkd : Keeps w w.drew := fun b c T fr h => ⟨c, h, rfl⟩
                            exact (hx.rep i hi j hj).mono hkd (fun _ _ _ e => e) (fun _ _ e => e) (fun b hb => ⟨hb, rfl⟩)
                    · rename_i id sz' m
                      split at hk
                      · exact hk.elim
                      · rename_i hsz'
                        have hsz' := Nat.eq_of_beq_eq_true hsz'
                        subst hsz'
                        split at hk
                        · exact hk.elim
                        · split at hk
                          · rename_i sz2 n0 get hl
                            split at hk
                            · exact hk.elim
                            · rename_i hs2
                              have hs2 := Nat.eq_of_beq_eq_true hs2
                              subst hs2
                              obtain ⟨lim, ⟨⟨hvc, q1, q2, q3⟩, hk⟩, hlim⟩ := appN_of hk
                              have q2 := hlim _ q2
                              obtain ⟨news, hx⟩ := xRow_sound h.W (Nat.succ_pos _) hxr hvc r2
                              have hid : id < S.nx := h.W.hlt _ _ hl
                              obtain ⟨v', w', e1, e2⟩ := append_sound h hu (hT _ _ hti) hsz (Nat.succ_pos _) hz hzl hid hl r1 hx q1 q2 q3 hk (ty := ty)
                              exact ⟨v', w', .inl (exec _ _ e1), e2⟩
                          · exact hk.elim
                    · exact hk.elim
        · exact hk.elim
    · exact hk.elim
  · -- an array as a slice
    rename_i t x id
    have r := hr.one
    split at hk
    · rename_i m e _ _ _ ht
      have hu := und_array hT ht
      split at hk
      · exact hk.elim
      · rename_i ti hti
        split at hk
        · rename_i l hl
          split at hk
          · exact hk.elim
          · rename_i hlen
            have hlen := Nat.eq_of_beq_eq_true hlen
            split at hk
            · exact hk.elim
            · rename_i ha
              obtain ⟨b, c, T, b1, b2, b3, b5, b4⟩ := h.W.blocks _ _ hl
              have he : f x = .pointer (some ⟨b, 0, none⟩) := by
                revert r
                generalize f x = v
                intro r
                cases r with
                | p _ _ blk hρ => rw [hρ] at b1; cases b1; rfl
              refine ⟨.slice (some ⟨b, 0, none⟩) m m, w, .inl ?_, ⟨_, _, ρ, hk, ⟨⟨h.W.below, h.W.inj, h.W.rng, fun j blk hlj => ?_, h.W.nx, fun j blk hlj => ?_, h.W.okA⟩, h.F, h.K⟩, ?_⟩⟩
              · have hb := run_sliceBounds (P := E.P) w m m none none none .i64 .i64 .i64
                have : (Instr.sliceBounds false m m none none none).run E.P w = .ok (0, m, m) w := by simp [Instr.sliceBounds]
                have ho : (if m = 0 then (⟨b, 0, none⟩ : Addr) else (⟨b, 0, none⟩ : Addr).add (0 * ti.size)) = ⟨b, 0, none⟩ := by
                  rw [addr_add]; simp
                simp only [execOp, Option.map_none]
                unfold Instr.sliceAt
                simp only [Sem.run_bind, run_underlying hu, Result.andThen_ok, he, Instr.sureAddr, Sem.run_pure, this, (hT _ _ hti).run_sizeOf, ho, Nat.sub_zero]
              · dsimp at hlj ⊢
                rw [look_put] at hlj
                split at hlj
                · rename_i e; subst e; exact h.W.hlt _ _ hl
                · exact h.W.hlt j blk hlj
              · dsimp at hlj
                rw [look_put] at hlj
                split at hlj
                · cases hlj; rename_i e; subst e
                  refine .inr ⟨b, c, T, b1, b2, by omega, fun j hj => b5 j (by omega), ?_⟩
                  exact dropM_chunk hlen (fun j hj => (flat1_spec (allF_spec ha j hj) (b4 j hj)).1)
                · exact h.W.blocks j blk hlj
              · exact .os _ _ _ _ b m 0 c T b1 (Nat.le_refl _) (.inl (by simp)) b2 (by simp; omega)
        · exact hk.elim
    · exact hk.elim
  · -- copy
    rename_i args ts s x
    obtain ⟨y, z, rfl, r1, r2⟩ := args2 hr
    split at hk
    · rename_i t t' hts
      have hts' : ts = #[t, t'] := by apply Array.toList_inj.1; rw [hts]
      subst hts'
      split at hk
      · rename_i e_ty _ _ _ ht
        have hu := und_slice hT ht
        split at hk
        · exact hk.elim
        · rename_i ti hti
          obtain ⟨info, i1, i2, i3, i4⟩ := (hT _ _ hti).info
          split at hk
          · exact hk.elim
          · rename_i sz hsz
            split at hk
            · exact hk.elim
            · rename_i n2 xget vc hxr
              split at hk
              · rename_i id sz' m
                split at hk
                · exact hk.elim
                · rename_i hsz'
                  have hsz' := Nat.eq_of_beq_eq_true hsz'
                  subst hsz'
                  split at hk
                  · exact hk.elim
                  · split at hk
                    · rename_i sz2 n0 get hl
                      split at hk
                      · exact hk.elim
                      · rename_i hs2
                        have hs2 := Nat.eq_of_beq_eq_true hs2
                        subst hs2
                        obtain ⟨⟨hvc, rfl, rfl, hpos⟩, hk⟩ := hk
                        obtain ⟨news, hx⟩ := xRow_sound h.W (Nat.succ_pos _) hxr hvc r2
                        have hlen : news.length = _ * (sz + 1) := hx.len
                        rcases hx.val with ⟨q, _, _⟩ | ⟨ad, xc, hfz, hcells⟩
                        · omega
                        · revert r1
                          generalize hfy : f y = vy
                          intro r1
                          cases r1 with
                          | osnil => omega
                          | os _ _ _ _ blk cap off c T hρ hn hoff hbk hcap =>
                            obtain rfl : off = 0 := by
                              rcases hoff with e | e
                              · simpa using e
                              · omega
                            rcases h.W.blocks _ _ hl with ⟨q1, _⟩ | ⟨b, c', T', b1, b2, b3, b5, b4⟩
                            · omega
                            · obtain rfl : b = blk := by rw [hρ] at b1; exact (Option.some.inj b1).symm
                              rw [hbk] at b2
                              cases b2
                              have hfit : news.length ≤ c.size := by rw [hlen]; exact b3
                              have hst := run_storeCells_at E.P b 0 T news 0 c w hbk (by simpa using hfit) hx.one
                              simp only [Nat.add_zero] at hst
                              rw [setRow_eq hbk] at hst
                              have hf := run_firstCells_some (P := E.P) w info.size n2 ad n2 xc news (by rw [hlen, i2, hsz]) hcells
                              have hmin : Nat.min n2 n2 = n2 := Nat.min_self n2
                              have hrun0 : ∀ c2 : Array Value, (storeCells ⟨b, 0, none⟩ news).run E.P w = .ok () (World.putRow w b c2 T) → (Builtin.copy_ #[t, t'] ty #[.slice (some ⟨b, 0, none⟩) n2 cap, .slice (some ad) n2 xc]).run E.P w = .ok (goInt n2) (World.putRow w b c2 T) := by
                                intro c2 hst
                                simp [Builtin.copy_, run_underlying hu, Builtin.lenOf, sizeOf, typeInfo, i1, hmin, hf, hst]
                              have hrun := hrun0 _ hst
                              have csz : (c.toList.take 0 ++ news ++ c.toList.drop (0 + news.length)).toArray.size = c.size := by
                                simp only [List.size_toArray, List.length_append, List.length_take, List.length_drop, Array.length_toList]
                                omega
                              have cnew : ∀ k, k < news.length → (c.toList.take 0 ++ news ++ c.toList.drop (0 + news.length)).toArray.getD k undef = news.getD k undef := by
                                intro k hk
                                simp only [Array.getD_eq_getD_getElem?, List.getElem?_toArray, List.getD_eq_getElem?_getD, List.take_zero, List.nil_append]
                                rw [List.getElem?_append_left hk]
                              have hadd : ∀ i, i < n2 → ∀ j, j < sz + 1 → i * (sz + 1) + j < n2 * (sz + 1) := by
                                intro i hi j hj
                                have : i * (sz + 1) + (sz + 1) ≤ n2 * (sz + 1) := by rw [← Nat.succ_mul]; exact Nat.mul_le_mul_right _ hi
                                omega
                              have hsat := h.putRow (blk := .rows (sz + 1) n2 xget) hρ hbk csz (fun ok hok => by
                                refine .inr ⟨b, _, T, hρ, putRow_same (lt_of_heap hbk) _ _, by rw [csz]; exact b3, fun j hj => ?_, fun i hi j hj => ?_⟩
                                · rw [cnew j (by omega)]
                                  refine hx.one _ ?_
                                  rw [List.getD_eq_getElem?_getD, List.getElem?_eq_getElem (by omega)]
                                  exact List.getElem_mem _
                                · rw [cnew _ (by rw [hlen]; exact hadd i hi j hj)]
                                  exact (hx.rep i hi j hj).mono (Keeps.putRow hbk csz) (fun _ _ _ e => e) (fun _ _ e => e) hok)
                              refine ⟨goInt n2, _, .inl ?_, ⟨_, _, ρ, hk, hsat, .i _ _⟩⟩
                              simp only [execOp, resolve, Sem.run_bind, Sem.run_pure, Result.andThen_ok, invoke, builtin, List.map_toArray, List.map_cons, List.map_nil, hfy, hfz]
                              rw [hrun]
                              rfl
                    · exact hk.elim
              · exact hk.elim
      · exact hk.elim
    · exact hk.elim
  · -- a list against nothing
    rename_i t x y u sz q get
    have hr' : RepL w G ρ (okS cx ρ w) [_, .nils] [f x, f y] := hr
    obtain ⟨r1, r2⟩ := hr'.two
    generalize hvx : f x = vx at r1
    generalize hvy : f y = vy at r2
    cases r2
    split at hk
    · rename_i e_ty _ _ _ ht
      have hu := und_slice hT ht
      have g : ∀ c : Value, (∀ cs, c ≠ .agg cs) → c ≠ .nilIface → (eqGuard .eql t x y c (.slice none 0 0)).run E.P w = .ok () w := fun c h1 h2 => run_eqGuard h1 h2
      have run : ∀ (b : Option Addr) (l c : Nat), (binOp .eql t (.slice b l c) (.slice none 0 0)).run E.P w = .ok (.bool b.isNone) w := by
        intro b l c
        have key : ∀ d, (Op.equalIn (d + 1) t (.slice b l c) (.slice none 0 0)).run E.P w = .ok b.isNone w := by
          intro d
          cases b <;> simp [Op.equalIn, run_underlying hu]
        have key2 : (Op.equal t (.slice b l c) (.slice none 0 0)).run E.P w = .ok b.isNone w := key 9999
        simp only [binOp, Sem.run_bind, key2, Result.andThen_ok, Sem.run_pure]
      have fin : ∀ (b : Option Addr) (l c : Nat), vx = .slice b l c → (0 < q → b.isNone = false) → ∃ v w', GivesK E.P f ⟨dst, .binOp .eql t x y u, ty, pos, after, guard⟩ w v w' ∧ Ends cx su n G K a v w' := by
        intro b l c hv hb
        subst hv
        refine ⟨.bool b.isNone, w, .inl ?_, ⟨_, _, ρ, hk b.isNone hb, h, .b _⟩⟩
        simp only [execOp, Sem.run_bind, hvx, hvy, g (.slice b l c) (by simp) (by simp), run, Result.andThen_ok, Sem.run_pure]
      cases r1 with
      | ro => exact fin _ _ _ rfl (fun _ => rfl)
      | ronil => exact fin _ _ _ rfl (fun h => absurd h (Nat.lt_irrefl _))
    · exact hk.elim
  · -- a list against nothing
    rename_i t x y u id sz lo q
    have hr' : RepL w G ρ (okS cx ρ w) [_, .nils] [f x, f y] := hr
    obtain ⟨r1, r2⟩ := hr'.two
    generalize hvx : f x = vx at r1
    generalize hvy : f y = vy at r2
    cases r2
    split at hk
    · rename_i e_ty _ _ _ ht
      have hu := und_slice hT ht
      have g : ∀ c : Value, (∀ cs, c ≠ .agg cs) → c ≠ .nilIface → (eqGuard .eql t x y c (.slice none 0 0)).run E.P w = .ok () w := fun c h1 h2 => run_eqGuard h1 h2
      have run : ∀ (b : Option Addr) (l c : Nat), (binOp .eql t (.slice b l c) (.slice none 0 0)).run E.P w = .ok (.bool b.isNone) w := by
        intro b l c
        have key : ∀ d, (Op.equalIn (d + 1) t (.slice b l c) (.slice none 0 0)).run E.P w = .ok b.isNone w := by
          intro d
          cases b <;> simp [Op.equalIn, run_underlying hu]
        have key2 : (Op.equal t (.slice b l c) (.slice none 0 0)).run E.P w = .ok b.isNone w := key 9999
        simp only [binOp, Sem.run_bind, key2, Result.andThen_ok, Sem.run_pure]
      have fin : ∀ (b : Option Addr) (l c : Nat), vx = .slice b l c → (0 < q → b.isNone = false) → ∃ v w', GivesK E.P f ⟨dst, .binOp .eql t x y u, ty, pos, after, guard⟩ w v w' ∧ Ends cx su n G K a v w' := by
        intro b l c hv hb
        subst hv
        refine ⟨.bool b.isNone, w, .inl ?_, ⟨_, _, ρ, hk b.isNone hb, h, .b _⟩⟩
        simp only [execOp, Sem.run_bind, hvx, hvy, g (.slice b l c) (by simp) (by simp), run, Result.andThen_ok, Sem.run_pure]
      cases r1 with
      | os => exact fin _ _ _ rfl (fun _ => rfl)
      | osnil => exact fin _ _ _ rfl (fun h => absurd h (Nat.lt_irrefl _))
    · exact hk.elim
  · -- clear
    rename_i args ts x
    have hl0 := hr.len
    have hargs : ∃ y, args = #[y] := by
      simp only [operL, List.length_map, List.length_singleton, Array.length_toList] at hl0
      have : args.toList.length = 1 := by simpa using hl0.symm
      obtain ⟨y, hy⟩ := List.length_eq_one_iff.1 this
      exact ⟨y, by apply Array.toList_inj.1; simpa using hy⟩
    obtain ⟨y, rfl⟩ := hargs
    have r1 : Rep w G ρ (okS cx ρ w) x (f y) := hr.one
    split at hk
    · rename_i t hts
      have hts' : ts = #[t] := by apply Array.toList_inj.1; rw [hts]
      subst hts'
      split at hk
      · rename_i e_ty _ _ _ ht
        have hu := und_slice hT ht
        split at hk
        · exact hk.elim
        · rename_i ti hti
          obtain ⟨info, i1, i2, i3, i4⟩ := (hT _ _ hti).info
          split at hk
          · exact hk.elim
          · rename_i sz hsz
            split at hk
            · exact hk.elim
            · rename_i zl hz
              split at hk
              · exact hk.elim
              · rename_i hzl
                have hzl := Nat.eq_of_beq_eq_true hzl
                split at hk
                · exact hk.elim
                · rename_i hza
                  split at hk
                  · rename_i id sz' lo m
                    split at hk
                    · exact hk.elim
                    · rename_i hsz'
                      have hsz' := Nat.eq_of_beq_eq_true hsz'
                      subst hsz'
                      split at hk
                      · rename_i sz2 n0 get hl
                        split at hk
                        · exact hk.elim
                        · rename_i hs2
                          have hs2 := Nat.eq_of_beq_eq_true hs2
                          subst hs2
                          obtain ⟨⟨hle, hpos⟩, hk⟩ := hk
                          obtain ⟨z1, z2⟩ := zeroM_spec hz
                          have hzc : ti.zero.cells.size = sz + 1 := by rw [← z1]; exact hzl
                          have zone : ∀ v ∈ (Builtin.zeroCells ti.zero.cells m).toList, v.oneCell' = true := by
                            intro v hv
                            simp only [Builtin.zeroCells, Array.toList_map, List.mem_map] at hv
                            obtain ⟨i, _, rfl⟩ := hv
                            have hi : i % ti.zero.cells.size < ti.zero.cells.size := Nat.mod_lt _ (by omega)
                            have hr1 := z2 (w := w) (G := G) (ρ := ρ) (ok := okS cx ρ w) (i % ti.zero.cells.size) (by omega)
                            have hv1 := (flat1_spec (allF_spec hza _ (by omega)) hr1).2
                            rw [Array.getD_eq_getD_getElem?, Array.getElem?_eq_getElem hi] at hv1
                            rw [getElem!_pos ti.zero.cells (i % ti.zero.cells.size) hi]
                            exact hv1
                          revert r1
                          generalize hfy : f y = vy
                          intro r1
                          cases r1 with
                          | osnil => omega
                          | os _ _ _ _ blk cap off c T hρ hn hoff hbk hcap =>
                            obtain rfl : off = lo * (sz + 1) := by
                              rcases hoff with e | e
                              · exact e
                              · omega
                            rcases h.W.blocks _ _ hl with ⟨q1, _⟩ | ⟨b, c', T', b1, b2, b3, b5, b4⟩
                            · omega
                            · obtain rfl : b = blk := by rw [hρ] at b1; exact (Option.some.inj b1).symm
                              rw [hbk] at b2
                              cases b2
                              have zlen : (Builtin.zeroCells ti.zero.cells m).toList.length = m * (sz + 1) := by
                                rw [Array.length_toList, size_zeroCells, hzc]
                              have hle2 : lo * (sz + 1) + m * (sz + 1) ≤ n0 * (sz + 1) := by rw [← Nat.add_mul]; exact Nat.mul_le_mul_right _ hle
                              generalize hzs : (Builtin.zeroCells ti.zero.cells m).toList = zs at zone zlen
                              have hst := run_storeCells_at E.P b (lo * (sz + 1)) T zs 0 c w hbk (by omega) zone
                              simp only [Nat.add_zero] at hst
                              rw [setRow_eq hbk] at hst
                              have hrun0 : ∀ c2 : Array Value, (storeCells ⟨b, lo * (sz + 1), none⟩ zs).run E.P w = .ok () (World.putRow w b c2 T) → (Builtin.clear_ #[t] ty #[.slice (some ⟨b, lo * (sz + 1), none⟩) m cap]).run E.P w = .ok (.tuple #[]) (World.putRow w b c2 T) := by
                                intro c2 hst
                                obtain ⟨m', rfl⟩ : ∃ m', m = m' + 1 := ⟨m - 1, by omega⟩
                                subst hzs
                                simp [Builtin.clear_, run_underlying hu, zeroValue, typeInfo, i1, i4, hst]
                              have hrun := hrun0 _ hst
                              have csz : (c.toList.take (lo * (sz + 1)) ++ zs ++ c.toList.drop (lo * (sz + 1) + zs.length)).toArray.size = c.size := by
                                simp only [List.size_toArray, List.length_append, List.length_take, List.length_drop, Array.length_toList]
                                omega
                              have clow : ∀ k, k < lo * (sz + 1) → (c.toList.take (lo * (sz + 1)) ++ zs ++ c.toList.drop (lo * (sz + 1) + zs.length)).toArray.getD k undef = c.getD k undef := by
                                intro k hk
                                simp only [Array.getD_eq_getD_getElem?, List.getElem?_toArray, List.append_assoc]
                                rw [List.getElem?_append_left (by simp; omega), List.getElem?_take, if_pos hk]
                                simp
                              have cone : ∀ k, k < n0 * (sz + 1) → ((c.toList.take (lo * (sz + 1)) ++ zs ++ c.toList.drop (lo * (sz + 1) + zs.length)).toArray.getD k undef).oneCell' = true := by
                                intro k hk
                                by_cases h1 : k < lo * (sz + 1)
                                · rw [clow k h1]; exact b5 k hk
                                · have e : (c.toList.take (lo * (sz + 1)) ++ zs ++ c.toList.drop (lo * (sz + 1) + zs.length)).toArray.getD k undef = (zs ++ c.toList.drop (lo * (sz + 1) + zs.length)).getD (k - lo * (sz + 1)) undef := by
                                    simp only [Array.getD_eq_getD_getElem?, List.getElem?_toArray, List.append_assoc, List.getD_eq_getElem?_getD]
                                    rw [List.getElem?_append_right (by simp; omega)]
                                    congr 2
                                    simp; omega
                                  rw [e, List.getD_eq_getElem?_getD]
                                  by_cases h2 : k - lo * (sz + 1) < zs.length
                                  · rw [List.getElem?_append_left h2, List.getElem?_eq_getElem h2]
                                    exact zone _ (List.getElem_mem _)
                                  · rw [List.getElem?_append_right (by omega), List.getElem?_drop]
                                    have e2 : lo * (sz + 1) + zs.length + (k - lo * (sz + 1) - zs.length) = k := by omega
                                    rw [e2]
                                    have := b5 k hk
                                    simpa [Array.getD_eq_getD_getElem?] using this
                              have hsat := h.putRow (blk := .rows (sz + 1) n0 fun k => match Nat.blt k lo with
                                | true => get k
                                | false => []) hρ hbk csz (fun ok hok => by
                                refine .inr ⟨b, _, T, hρ, putRow_same (lt_of_heap hbk) _ _, by rw [csz]; exact b3, fun j hj => cone j hj, fun i hi j hj => ?_⟩
                                dsimp only
                                split
                                · rename_i hb
                                  simp only [Nat.blt_eq] at hb
                                  have h1 : i * (sz + 1) + (sz + 1) ≤ lo * (sz + 1) := by rw [← Nat.succ_mul]; exact Nat.mul_le_mul_right _ hb
                                  rw [clow _ (by omega)]
                                  exact (b4 i hi j hj).mono (Keeps.putRow hbk csz) (fun _ _ _ e => e) (fun _ _ e => e) hok
                                · exact .und _)
                              refine ⟨.tuple #[], _, .inl ?_, ⟨_, _, ρ, hk, hsat, .tup _ _ rfl (fun j hj => by simp at hj)⟩⟩
                              simp only [execOp, resolve, Sem.run_bind, Sem.run_pure, Result.andThen_ok, invoke, builtin, List.map_toArray, List.map_cons, List.map_nil, hfy]
                              rw [hrun]
                              rfl
                      · exact hk.elim
                  · exact hk.elim
      · exact hk.elim
    · exact hk.elim
  · exact hk.elim
end Go.Ev
