/-
  Loops, and regions whose order is drawn: fresh blocks, for every program; no condition.
-/
import Derived.Test.YtbehddngdjfkhaaEvW
import Derived.Laws.Externs
import Derived.Below
import Derived.Deep.LoopGhost
import Derived.Orders
set_option linter.unusedSimpArgs false
set_option linter.unusedVariables false
namespace Go.Ev
/-! ## What a call has built, laid under numbers that were kept for it -/
theorem look_newH_out {k : Nat} {H : List (Nat × Blk)} : ∀ {blks : List Blk} {i j : Nat}, ¬ (k + i ≤ j ∧ j < k + i + blks.length) → look (newH k i blks H) j = look H j
  | [], i, j, h => rfl
  | x :: r, i, j, h => by
    simp only [newH, look]
    have hne : Nat.beq (k + i) j = false := by
      cases e : Nat.beq (k + i) j
      · rfl
      · have := Nat.eq_of_beq_eq_true e
        exact absurd ⟨by omega, by simp; omega⟩ h
    rw [hne]
    exact look_newH_out (by simp at h ⊢; omega)
theorem look_newH_in {k : Nat} {H : List (Nat × Blk)} : ∀ {blks : List Blk} {i j : Nat}, k + i ≤ j → j < k + i + blks.length → look (newH k i blks H) j = (blks[j - (k + i)]?).map (shiftB k)
  | [], i, j, h1, h2 => by simp at h2; omega
  | x :: r, i, j, h1, h2 => by
    simp only [newH, look]
    split
    · rename_i e
      have := Nat.eq_of_beq_eq_true e
      subst this
      simp
    · rename_i e
      have hne : k + i ≠ j := by intro e2; subst e2; simp at e
      rw [look_newH_in (by omega) (by simp at h2; omega)]
      rw [show j - (k + i) = (j - (k + (i + 1))) + 1 by omega]
      simp
theorem graft {cx : Cx} {su : Sus} {n : Nat} {G : GT} {S : St} {a : Act} {w : World} {ρ : RhoT} (h : SatR cx su n G S a w ρ) {base : Nat} {blks : List Blk} (hres : ∀ i, base ≤ i → i < base + blks.length → ρ i = none) (hfit : base + blks.length ≤ S.nx)
    {Y : Nat → Prop} (hY : ∀ b, Y b → okS cx ρ w b) {ρ' : RhoT} {w' : World} (hW' : SatW (cx1 w Y) ρ' (idxH 0 blks) blks.length w') {m : MV} {v : Value} (hR : Rep w' G0 ρ' (okS (cx1 w Y) ρ' w') m v) :
    ∃ ρ2, SatR cx su n G { S with H := newH base 0 blks S.H } a w' ρ2 ∧ Rep w' G ρ2 (okS cx ρ2 w') (shift base m) v ∧ ∀ i, ¬ (base ≤ i ∧ i < base + blks.length) → ρ2 i = ρ i := by
  have hbel := hW'.below
  have hkeep : ∀ b, b < w.heap.size → w'.heap[b]? = w.heap[b]? := fun b hb => hbel.block b hb (fun hx => hx)
  have hρ' : ∀ i b, ρ' i = some b → w.heap.size ≤ b ∧ b < w'.heap.size := fun i b hi => by
    have := hW'.rng i b hi
    refine ⟨?_, this.1⟩
    rcases this.2 with h | h
    · exact h
    · exact h.elim
  have hρlt : ∀ i b, ρ' i = some b → i < blks.length := by
    intro i b hi
    rcases Nat.lt_or_ge i blks.length with h1 | h1
    · exact h1
    · rw [hW'.nx i h1] at hi; cases hi
  let ρ2 : RhoT := fun i => if base ≤ i ∧ i < base + blks.length then ρ' (i - base) else ρ i
  have hout : ∀ i, ¬ (base ≤ i ∧ i < base + blks.length) → ρ2 i = ρ i := fun i hi => by
    show (if base ≤ i ∧ i < base + blks.length then ρ' (i - base) else ρ i) = _
    rw [if_neg hi]
  have h2old : ∀ i b, ρ i = some b → ρ2 i = some b := by
    intro i b hi
    rw [hout i ?_]
    · exact hi
    · rintro ⟨q1, q2⟩
      rw [hres i q1 q2] at hi; cases hi
  have h2new : ∀ i b, ρ' i = some b → ρ2 (base + i) = some b := by
    intro i b hi
    have := hρlt i b hi
    show (if base ≤ base + i ∧ base + i < base + blks.length then ρ' (base + i - base) else ρ (base + i)) = _
    rw [if_pos ⟨by omega, by omega⟩, Nat.add_sub_cancel_left]; exact hi
  have h2inv : ∀ i b, ρ2 i = some b → (¬ (base ≤ i ∧ i < base + blks.length) ∧ ρ i = some b) ∨ ((base ≤ i ∧ i < base + blks.length) ∧ ρ' (i - base) = some b) := by
    intro i b hi
    have hi' : (if base ≤ i ∧ i < base + blks.length then ρ' (i - base) else ρ i) = some b := hi
    split at hi'
    · exact .inr ⟨by assumption, hi'⟩
    · exact .inl ⟨by assumption, hi'⟩
  have hsz : w.heap.size ≤ w'.heap.size := hbel.size
  have hok1 : ∀ b, okS cx ρ w b → okS cx ρ2 w' b ∧ w'.heap[b]? = w.heap[b]? := by
    intro b hb
    have hl := okS_lt h.W hb
    refine ⟨?_, hkeep b hl⟩
    rcases hb with hb | hb
    · exact .inl hb
    · refine .inr ⟨hb.1, by omega, fun i hi => ?_⟩
      rcases h2inv i b hi with ⟨_, e⟩ | ⟨_, e⟩
      · exact hb.2.2 i e
      · have := (hρ' _ _ e).1; omega
  have hok2 : ∀ b, okS (cx1 w Y) ρ' w' b → okS cx ρ2 w' b := by
    intro b hb
    rcases hb with hb | ⟨h1, h2, h3⟩
    · exact (hok1 b (hY b hb)).1
    · refine .inr ⟨Nat.le_trans h.W.below.size h1, h2, fun i hi => ?_⟩
      rcases h2inv i b hi with ⟨_, e⟩ | ⟨_, e⟩
      · have := (h.W.rng i b e).1
        have h1' : w.heap.size ≤ b := h1
        omega
      · exact h3 _ e
  refine ⟨ρ2, ⟨⟨?_, ?_, ?_, ?_, ?_, ?_, h.W.okA⟩, ⟨h.F.defers, h.F.size, h.F.frame.mono hbel.keeps (fun _ _ _ e => e) h2old hok1⟩, h.K.mono hbel.keeps h2old hok1⟩, shift_rep h2new hok2 hR, hout⟩
  · exact ⟨hbel.os.trans h.W.below.os, hbel.tape.trans h.W.below.tape, hbel.output.trans h.W.below.output, Nat.le_trans h.W.below.size hsz,
      fun k hk hx => (hkeep k (Nat.lt_of_lt_of_le hk h.W.below.size)).trans (h.W.below.block k hk hx), h.W.below.keeps.trans hbel.keeps⟩
  · intro i j b hi hj
    rcases h2inv i b hi with ⟨i1, i2⟩ | ⟨i1, i2⟩ <;> rcases h2inv j b hj with ⟨j1, j2⟩ | ⟨j1, j2⟩
    · exact h.W.inj i j b i2 j2
    · have := (h.W.rng _ _ i2).1; have := (hρ' _ _ j2).1; omega
    · have := (h.W.rng _ _ j2).1; have := (hρ' _ _ i2).1; omega
    · have := hW'.inj _ _ b i2 j2; omega
  · intro i b hi
    rcases h2inv i b hi with ⟨i1, i2⟩ | ⟨i1, i2⟩
    · have := h.W.rng i b i2
      exact ⟨by omega, this.2⟩
    · have := hρ' _ _ i2
      exact ⟨this.2, .inl (Nat.le_trans h.W.below.size this.1)⟩
  · intro id blk hl
    dsimp at hl ⊢
    rcases look_newH hl with ⟨x, h1, h2, _⟩ | hl
    · omega
    · exact h.W.hlt id blk hl
  · intro i hi
    dsimp at hi
    rw [hout i (by omega)]
    exact h.W.nx i hi
  · intro id blk hl0
    dsimp at hl0
    have new : ∀ x, blks[id - (base + 0)]? = some x → (base ≤ id ∧ id < base + blks.length) → BlkOK w' ρ2 (okS cx ρ2 w') id (shiftB base x) := by
      intro x h3 hin
      have hli := look_idxH (i := 0) h3
      have hb := hW'.blocks _ _ hli
      have eid : base + (0 + (id - (base + 0))) = id := by omega
      have hρid : ∀ b, ρ' (0 + (id - (base + 0))) = some b → ρ2 id = some b := by
        intro b hb
        have := h2new _ _ hb
        rw [eid] at this; exact this
      cases x with
      | cells l =>
        obtain ⟨b, c, T, b1, b2, b3, b5, b4⟩ := hb
        obtain ⟨s1, s2⟩ := shiftL_spec base l
        refine ⟨b, c, T, hρid b b1, b2, b3.trans s1.symm, b5, fun j hj => ?_⟩
        rcases s2 j with e | e
        · rw [e]; exact shift1_rep h2new hok2 (b4 j (by omega))
        · omega
      | rows sz k get =>
        rcases hb with ⟨b1, b2⟩ | ⟨b, c, T, b1, b2, b3, b5, b4⟩
        · refine .inl ⟨b1, ?_⟩
          show (if base ≤ id ∧ id < base + blks.length then ρ' (id - base) else ρ id) = none
          rw [if_pos hin]
          rw [show (0 + (id - (base + 0))) = id - base by omega] at b2
          exact b2
        · refine .inr ⟨b, c, T, hρid b b1, b2, b3, b5, fun i hi j hj => ?_⟩
          exact (b4 i hi j hj).mono (Keeps.refl w') (fun _ _ _ e => e) (fun _ _ e => e) (fun b hb => ⟨hok2 b hb, rfl⟩)
    by_cases hin : base ≤ id ∧ id < base + blks.length
    · rw [look_newH_in (i := 0) (by omega) (by omega)] at hl0
      obtain ⟨x, h3, rfl⟩ := Option.map_eq_some_iff.1 hl0
      exact new x h3 hin
    · rw [look_newH_out (i := 0) (by omega)] at hl0
      exact (h.W.blocks id blk hl0).mono hbel.keeps h2old (fun e => by rw [hout id hin]; exact e) hok1 (fun b hb => hkeep b (h.W.rng id b hb).1)
end Go.Ev

namespace Go.Ev
section
variable {H H' : List (Nat × Blk)} (hH : ∀ id b, look H id = some b → look H' id = some b)
include hH
theorem view0_H {m : MV} {r : Option Prop × Bool × MV} (h : view0 H m = some r) : view0 H' m = some r := by
  unfold view0 at h ⊢
  split at h
  · split at h
    · rename_i e
      simp only [hH _ _ e]
      exact h
    · cases h
  · split at h
    · rename_i e
      simp only [hH _ _ e]
      exact h
    · cases h
  all_goals first | exact h | cases h
theorem view1_H {m : MV} {r : Option Prop × Bool × MV} (h : view1 H m = some r) : view1 H' m = some r := view0_H hH h
theorem viewL1_H : ∀ {l : List MV} {r : List Prop × Bool × List MV}, viewL1 H l = some r → viewL1 H' l = some r
  | [], r, h => h
  | m :: l, r, h => by
    unfold viewL1 at h ⊢
    split at h
    · cases h
    · rename_i e
      rw [view1_H hH e]
      dsimp only
      split at h
      · cases h
      · rename_i e2
        rw [viewL1_H e2]
        exact h
theorem view_H {m : MV} {r : List Prop × Bool × MV} (h : view H m = some r) : view H' m = some r := by
  unfold view at h ⊢
  split at h
  · split at h
    · rename_i e
      rw [viewL1_H hH e]; exact h
    · cases h
  · split at h
    · rename_i e; rw [view1_H hH e]; exact h
    · rename_i e; rw [view1_H hH e]; exact h
    · cases h
theorem viewL_H : ∀ {l : List MV} {r : List Prop × Bool × List MV}, viewL H l = some r → viewL H' l = some r
  | [], r, h => h
  | m :: l, r, h => by
    unfold viewL at h ⊢
    split at h
    · cases h
    · rename_i e
      rw [view_H hH e]
      dsimp only
      split at h
      · cases h
      · rename_i e2
        rw [viewL_H e2]
        exact h
theorem callSum_H {E : Env} {F F' : List (Nat × MV)} {stk stk' : List (List (Nat × MV))} {nx : Nat} {f : FuncId} {ms : List MV} {r : List Prop × MV × List Blk} (h : callSum E ⟨F, stk, H, nx⟩ f ms = some r) : callSum E ⟨F', stk', H', nx⟩ f ms = some r := by
  rw [callSum_eq] at h ⊢
  dsimp only at h ⊢
  split at h
  · cases h
  · rename_i e
    rw [viewL_H hH e]
    exact h
theorem evLoad_H {E : Env} {t : TypeId} {x m : MV} (h : evLoad E H t x = some m) : evLoad E H' t x = some m := by
  unfold evLoad at h ⊢
  split at h
  · split at h
    · split at h
      · rename_i e
        simp only [hH _ _ e]; exact h
      · cases h
    · exact h
    · cases h
  · cases h
theorem evPm_H {E : Env} {op : Op} {ms : List MV} {r : Option Prop × MV} (h : evPm E H op ms = some r) : evPm E H' op ms = some r := by
  unfold evPm at h ⊢
  split at h
  case h_3 =>
    split at h
    · cases h
    · split at h
      · rename_i e
        simp only [hH _ _ e]; exact h
      · cases h
  case h_4 =>
    split at h
    · rename_i e
      simp only [evLoad_H hH e]; exact h
    · cases h
  all_goals exact h
theorem evPure_H {E : Env} {ops : List Oper} {F : List (Nat × MV)} {stk stk' : List (List (Nat × MV))} {nx : Nat} {g : List (Nat × Bool)} {op : Op} {r : Option Prop × MV} (h : evPure E ops ⟨F, stk, H, nx⟩ g op = some r) : evPure E ops ⟨F, stk', H', nx⟩ g op = some r := by
  unfold evPure at h ⊢
  split at h
  · exact h
  · split at h
    · cases h
    · rename_i e
      simp only [e]
      unfold pureCall at h ⊢
      split at h
      · exact h
      · split at h
        · rename_i e2
          rw [callSum_H hH e2]; exact h
        · cases h
  · split at h
    · cases h
    · rename_i e
      simp only [e]
      unfold pureCall at h ⊢
      split at h
      · exact h
      · split at h
        · rename_i e2
          rw [callSum_H hH e2]; exact h
        · cases h
  · split at h
    · cases h
    · rename_i e
      simp only [e]
      exact evPm_H hH h
end
/-! ## Operations and calls that build something new, and nothing else -/
def flatO : MV → Bool
  | .agg l => allF l
  | m => flat1 m
def flatOs : List MV → Bool
  | [] => true
  | m :: r => match flatO m with
    | true => flatOs r
    | false => false
def evKf (E : Env) (op : Op) (ms : List MV) : Option (Option Prop × MV × List Blk) :=
  match op, ms with
  | .alloc t, [] => match E.ty t with
    | none => none
    | some i => match zeroM i.zero with
      | none => none
      | some l => match allO l with
        | true => some (none, .p 0 0, [.cells l])
        | false => none
  | .box _ _, [m] => match cellsM m with
    | none => none
    | some l => match allO l with
      | true => some (none, .p 0 0, [.cells l])
      | false => none
  | .makeSlice t _ _, [.i _ l, .i _ c] => match E.ty t with
    | some ⟨.slice e, _, _, _⟩ => match E.ty e with
      | none => none
      | some ti => match zeroM ti.zero with
        | none => none
        | some zl => match Nat.beq zl.length ti.size with
          | false => none
          | true => match allF zl with
            | false => none
            | true => some (some (0 ≤ l ∧ l ≤ c ∧ ti.bytes * c ≤ 140737488355328 ∧ c ≤ 140737488355328), .os 0 ti.size 0 l.toNat, [.rows ti.size l.toNat fun _ => zl])
    | _ => none
  | .buildSlice t n ps, ms => match E.ty t with
    | some ⟨.slice e, _, _, _⟩ => match E.ty e with
      | none => none
      | some ti => match zeroM ti.zero with
        | none => none
        | some zl => match Nat.beq zl.length ti.size with
          | false => none
          | true => match Nat.ble (n * ti.size) 16777216 with
            | false => none
            | true => match noX ms with
              | false => none
              | true => match fillM (fun i => some (i * ti.size, ti.size)) (evKm.repM n zl) (ps.toList.map (·.1)) ms with
                | none => none
                | some l' => match allF l' with
                  | false => none
                  | true => some (none, .os 0 ti.size 0 n, [.rows ti.size n (match n with | 1 => fun _ => l' | _ => fun i => dropM l' (i * ti.size))])
    | _ => none
  | _, _ => none
theorem evKf_sound {E : Env} {op : Op} {ms : List MV} {c : Option Prop} {m : MV} {blks : List Blk} (h : evKf E op ms = some (c, m, blks)) (hc : ∀ p, c = some p → p) :
    evKm E [] [] [] 0 op ms (fun m' S' => m' = m ∧ S' = ⟨[], [], idxH 0 blks, blks.length⟩) := by
  unfold evKf at h
  split at h
  · unfold evKm
    split at h
    · cases h
    · rename_i e; simp only [e]
      split at h
      · cases h
      · rename_i e; simp only [e]
        split at h
        · rename_i e; simp only [e]; cases h; exact ⟨rfl, rfl⟩
        · cases h
  · unfold evKm
    split at h
    · cases h
    · rename_i e; simp only [e]
      split at h
      · rename_i e; simp only [e]; cases h; exact ⟨rfl, rfl⟩
      · cases h
  · unfold evKm
    split at h
    · rename_i e; simp only [e]
      split at h
      · cases h
      · rename_i e; simp only [e]
        split at h
        · cases h
        · rename_i e; simp only [e]
          split at h
          · cases h
          · rename_i e; simp only [e]
            split at h
            · cases h
            · rename_i e; simp only [e]
              cases h
              exact ⟨⟨hc _ rfl⟩, rfl, rfl⟩
    · cases h
  · unfold evKm
    split at h
    · rename_i e; simp only [e]
      split at h
      · cases h
      · rename_i e; simp only [e]
        split at h
        · cases h
        · rename_i e; simp only [e]
          split at h
          · cases h
          · rename_i e; simp only [e]
            split at h
            · cases h
            · rename_i e; simp only [e]
              split at h
              · cases h
              · rename_i e; simp only [e]
                split at h
                · cases h
                · rename_i e; simp only [e]
                  split at h
                  · cases h
                  · rename_i e; simp only [e]; cases h; exact ⟨rfl, rfl⟩
    · cases h
  · cases h
def callSumU (E : Env) (H : List (Nat × Blk)) (f : FuncId) (ms : List MV) : Option (List Prop × MV × List Blk) :=
  match viewL H ms with
  | none => none
  | some (ps, own, ms') => match E.sum f ms' with
    | none => none
    | some (qs, m, blks, al) => match own, al with
      | true, true => none
      | _, _ => some (appP qs ps, m, blks)
def evFresh (E : Env) (S : St) (g : List (Nat × Bool)) (op : Op) : Option (Option Prop × MV × List Blk) :=
  match op with
  | .call ⟨.value (.func f), args, _⟩ => match opds S.F g args.toList with
    | none => none
    | some ms => match E.ext f with
      | some _ => none
      | none => match callSumU E S.H f ms with
        | none => none
        | some (ps, m, blks) => some (conjO ps, m, blks)
  | op => match opds S.F g (operL op) with
    | none => none
    | some ms => match flatOs ms with
      | false => none
      | true => evKf E op ms
theorem flatOs_spec {ms : List MV} (h : flatOs ms = true) {w : World} {G : GT} {ρ : RhoT} {ok : OkT} {vs : List Value} (r : RepL w G ρ ok ms vs) : RepL w G0 rho0 ok ms vs := by
  refine ⟨r.len, fun j hj => ?_⟩
  have hr := r.rep j hj
  have hf : flatO (getM ms j) = true := by
    clear hr r
    induction ms generalizing j with
    | nil => simp at hj
    | cons m l ih =>
      unfold flatOs at h
      split at h
      · rename_i h1
        cases j with
        | zero => simpa [getM] using h1
        | succ j => simpa [getM] using ih h j (by simpa using hj)
      · cases h
  generalize getM ms j = m at hr hf
  generalize vs.getD j undef = v at hr
  unfold flatO at hf
  split at hf
  · cases hr with
    | agg _ us hl hh => exact .agg _ _ hl fun i hi => (flat1_spec (allF_spec hf i hi) (hh i hi)).1
  · exact (flat1_spec hf hr).1
theorem freshCall {E : Env} (hE : EnvAll E) {tb : List TE} {cx : Cx} {su : Sus} {n : Nat} {S : St} {a : Act} {w : World} {ρ : RhoT} (h : SatR cx su n (gOf tb) S a w ρ)
    {f : FuncId} {ms : List MV} {ps : List Prop} {m : MV} {blks : List Blk} (hcs : callSumU E S.H f ms = some (ps, m, blks)) (hc : ∀ p, conjO ps = some p → p) {vs : List Value} (hr : RepL w (gOf tb) ρ (okS cx ρ w) ms vs) {o : Oper}
    (he : (execOp a.eval o).run E.P w = (callFunc f vs.toArray).run E.P w)
    {base : Nat} (hres : ∀ i, base ≤ i → i < base + blks.length → ρ i = none) (hfit : base + blks.length ≤ S.nx) {next : Act → World → Prop} {Q : Exit → Act → World → Prop}
    (hn : ∀ v w' ρ2, SatR cx su n (gOf tb) { S with H := newH base 0 blks S.H } a w' ρ2 → Rep w' (gOf tb) ρ2 (okS cx ρ2 w') (shift base m) v → (∀ i, ¬ (base ≤ i ∧ i < base + blks.length) → ρ2 i = ρ i) → next (a.put o.dst v) w') : o.wp E.P a w next Q := by
  unfold callSumU at hcs
  split at hcs
  · cases hcs
  · rename_i ps' own ms' hv
    split at hcs
    · cases hcs
    · rename_i qs m0 bl al hsum
      have key : ¬ (own = true ∧ al = true) ∧ some (appP qs ps', m0, bl) = some (ps, m, blks) := by
        split at hcs
        · cases hcs
        · rename_i hne
          exact ⟨fun ⟨e1, e2⟩ => hne e1 e2, hcs⟩
      obtain ⟨hna, he2⟩ := key
      cases he2
      obtain ⟨hqs, hp'⟩ := (conjO_all hc).app
      have cm := hE.sum _ _ _ _ _ _ hsum hqs
      have hargs := viewL_sound h.W hv hp' hr
      refine wp_call (g := f) (vs := vs) he (R := fun v w' => ∃ ρ2, SatR cx su n (gOf tb) { S with H := newH base 0 blks S.H } a w' ρ2 ∧ Rep w' (gOf tb) ρ2 (okS cx ρ2 w') (shift base m) v ∧ ∀ i, ¬ (base ≤ i ∧ i < base + blks.length) → ρ2 i = ρ i) (.inr ⟨cm.enters _ _, ?_⟩) ?_
      · refine (cm.calls w (okV cx ρ w own) vs (fun b hb => okV_lt h.W b hb) hargs).mono ?_
        rintro e w' ⟨v, ρ', rfl, hW', hR⟩
        refine ⟨v, rfl, graft h hres hfit (fun b hb => ?_) hW' hR⟩
        obtain ⟨hal, hb⟩ := hb
        have ho : own = false := by
          cases own
          · rfl
          · exact absurd ⟨rfl, hal⟩ hna
        subst ho
        exact hb
      · rintro v w' ⟨ρ2, q1, q2, q3⟩
        exact hn v w' ρ2 q1 q2 q3
theorem evFresh_sound {E : Env} (hE : EnvAll E) {tb : List TE} {cx : Cx} {su : Sus} {n : Nat} {S : St} {a : Act} {w : World} {ρ : RhoT} (h : SatR cx su n (gOf tb) S a w ρ) {g : List (Nat × Bool)}
    (hg : Holds (gOf tb) g) {op : Op} {c : Option Prop} {m : MV} {blks : List Blk} (hp : evFresh E S g op = some (c, m, blks)) (hc : ∀ p, c = some p → p) (o : Oper) (ho : o.op = op)
    {base : Nat} (hres : ∀ i, base ≤ i → i < base + blks.length → ρ i = none) (hfit : base + blks.length ≤ S.nx) {next : Act → World → Prop} {Q : Exit → Act → World → Prop}
    (hn : ∀ v w' ρ2, SatR cx su n (gOf tb) { S with H := newH base 0 blks S.H } a w' ρ2 → Rep w' (gOf tb) ρ2 (okS cx ρ2 w') (shift base m) v → (∀ i, ¬ (base ≤ i ∧ i < base + blks.length) → ρ2 i = ρ i) → next (a.put o.dst v) w') : o.wp E.P a w next Q := by
  unfold evFresh at hp
  split at hp
  · rename_i f args ts
    split at hp
    · cases hp
    · rename_i ms hms
      have hr := opds_repL h.F.frame hg hms
      have he : (execOp a.eval o).run E.P w = (callFunc f (args.toList.map a.eval).toArray).run E.P w := by
        obtain ⟨dst, op', ty, pos, after, guard⟩ := o
        dsimp only at ho
        subst ho
        rw [exec_call (g := f) (first := #[]) (caps := #[]) rfl]
        congr 2
        apply Array.toList_inj.1
        simp
      split at hp
      · cases hp
      · split at hp
        · cases hp
        · rename_i ps m' blks' hcs
          cases hp
          unfold callSumU at hcs
          split at hcs
          · cases hcs
          · rename_i ps' own ms' hv
            split at hcs
            · cases hcs
            · rename_i qs m0 bl al hsum
              have key : ¬ (own = true ∧ al = true) ∧ some (appP qs ps', m0, bl) = some (ps, m, blks) := by
                split at hcs
                · cases hcs
                · rename_i hne
                  exact ⟨fun ⟨e1, e2⟩ => hne e1 e2, hcs⟩
              obtain ⟨hna, he2⟩ := key
              cases he2
              obtain ⟨hqs, hp'⟩ := (conjO_all hc).app
              have cm := hE.sum _ _ _ _ _ _ hsum hqs
              have hargs := viewL_sound h.W hv hp' hr
              refine wp_call (g := f) (vs := args.toList.map a.eval) he (R := fun v w' => ∃ ρ2, SatR cx su n (gOf tb) { S with H := newH base 0 blks S.H } a w' ρ2 ∧ Rep w' (gOf tb) ρ2 (okS cx ρ2 w') (shift base m) v ∧ ∀ i, ¬ (base ≤ i ∧ i < base + blks.length) → ρ2 i = ρ i) (.inr ⟨cm.enters _ _, ?_⟩) ?_
              · refine (cm.calls w (okV cx ρ w own) (args.toList.map a.eval) (fun b hb => okV_lt h.W b hb) hargs).mono ?_
                rintro e w' ⟨v, ρ', rfl, hW', hR⟩
                refine ⟨v, rfl, graft h hres hfit (fun b hb => ?_) hW' hR⟩
                obtain ⟨hal, hb⟩ := hb
                have ho : own = false := by
                  cases own
                  · rfl
                  · exact absurd ⟨rfl, hal⟩ hna
                subst ho
                exact hb
              · rintro v w' ⟨ρ2, q1, q2, q3⟩
                exact hn v w' ρ2 q1 q2 q3
  · split at hp
    · cases hp
    · rename_i ms hms
      split at hp
      · cases hp
      · rename_i hfl
        have hr := flatOs_spec hfl (opds_repL h.F.frame hg hms)
        have hr' : RepL w G0 rho0 (okS (cx1 w (okS cx ρ w)) rho0 w) ms ((operL op).map a.eval) :=
          ⟨hr.len, fun j hj => (hr.rep j hj).mono (Keeps.refl w) (fun _ _ _ e => e) (fun _ _ e => e) fun b hb => ⟨.inl hb, rfl⟩⟩
        have h0 : SatR (cx1 w (okS cx ρ w)) ⟨[], []⟩ n G0 ⟨[], [], [], 0⟩ a w rho0 :=
          ⟨⟨BelowX.refl _ _, fun i j b h => (by simp [rho0] at h), fun i b h => (by simp [rho0] at h), fun id blk h => (by simp [look] at h), fun i _ => rfl, fun id blk h => (by simp [look] at h), fun b hb => ⟨okS_lt h.W hb, fun h => h⟩⟩,
            ⟨h.F.defers, h.F.size, fun s m h => (by simp [look] at h)⟩, trivial⟩
        obtain ⟨v, w', hgv, hend⟩ := evKm_sound hE.toEnvOK h0 (evKf_sound hp hc) hr' o ho
        obtain ⟨m', S', ρ', ⟨rfl, rfl⟩, hs', hR⟩ := hend.ex
        obtain ⟨ρ2, q1, q2, q3⟩ := graft h hres hfit (fun b hb => hb) hs'.W hR
        rcases hgv with hgv | ⟨hgv, rfl⟩
        · exact upon_value hgv (hn v w' ρ2 q1 q2 q3)
        · exact upon_skip hgv (hn undef w' ρ2 q1 q2 q3)
theorem evFresh_H {H H' : List (Nat × Blk)} (hH : ∀ id b, look H id = some b → look H' id = some b) {E : Env} {F : List (Nat × MV)} {stk stk' : List (List (Nat × MV))} {nx : Nat} {g : List (Nat × Bool)} {op : Op} {r : Option Prop × MV × List Blk}
    (h : evFresh E ⟨F, stk, H, nx⟩ g op = some r) : evFresh E ⟨F, stk', H', nx⟩ g op = some r := by
  unfold evFresh at h ⊢
  split at h
  · split at h
    · cases h
    · rename_i e
      simp only [e]
      split at h
      · cases h
      · split at h
        · cases h
        · rename_i e3
          have : ∀ {f ms x}, callSumU E H f ms = some x → callSumU E H' f ms = some x := by
            intro f ms x hx
            unfold callSumU at hx ⊢
            split at hx
            · cases hx
            · rename_i e4
              rw [viewL_H hH e4]; exact hx
          rw [this e3]; exact h
  · split at h
    · cases h
    · rename_i e
      simp only [e]; exact h
theorem callSum_U {E : Env} {S : St} {f : FuncId} {ms : List MV} {ps : List Prop} {m : MV} {blks : List Blk} (h : callSum E S f ms = some (ps, m, blks)) : ∃ m0, callSumU E S.H f ms = some (ps, m0, blks) ∧ m = shift S.nx m0 := by
  rw [callSum_eq] at h
  unfold callSumU
  cases hv : viewL S.H ms with
  | none => rw [hv] at h; cases h
  | some x =>
    obtain ⟨ps', own, ms'⟩ := x
    rw [hv] at h
    dsimp only at h ⊢
    cases hs : E.sum f ms' with
    | none => rw [hs] at h; cases h
    | some y =>
      obtain ⟨qs, m0, bl, al⟩ := y
      rw [hs] at h
      dsimp only at h ⊢
      cases own <;> cases al <;> dsimp only at h ⊢ <;> first | (cases h; done) | (cases h; exact ⟨m0, rfl, rfl⟩)
theorem evPure_sound2 {E : Env} (hE : EnvAll E) {ops : List Oper} {tb : List TE} {cx : Cx} {su : Sus} {n : Nat} {S : St} {a : Act} {w : World} {ρ : RhoT} (h : SatR cx su n (gOf tb) S a w ρ) (hT : TOK ops tb a) {g : List (Nat × Bool)}
    (hg : Holds (gOf tb) g) {op : Op} {c : Option Prop} {m : MV} (hp : evPure E ops S g op = some (c, m)) (hc : ∀ p, c = some p → p) (o : Oper) (ho : o.op = op) {next : Act → World → Prop} {Q : Exit → Act → World → Prop}
    (hn : ∀ v w' ρ', SatR cx su n (gOf tb) S a w' ρ' → Rep w' (gOf tb) ρ' (okS cx ρ' w') m v → (∀ i, ρ' i = ρ i) → next (a.put o.dst v) w') : o.wp E.P a w next Q := by
  have hp0 := hp
  unfold evPure at hp
  split at hp
  · rename_i c' x y
    split at hp
    · rename_i m' hm
      cases hp
      obtain ⟨b, hb, r⟩ := evPick_sound hm h.F.frame hT hg
      refine upon_value (v := if b then a.eval x else a.eval y) (w' := w) ?_ (hn _ _ ρ h r (fun _ => rfl))
      obtain ⟨dst, op', ty, pos, after, guard⟩ := o
      dsimp only at ho
      subst ho
      simp only [execOp, hb, asBool, Sem.run_bind, Sem.run_pure, Result.andThen_ok]
    · cases hp
  · rename_i f args ts
    split at hp
    · cases hp
    · rename_i ms hms
      have hr := opds_repL h.F.frame hg hms
      have he : (execOp a.eval o).run E.P w = (callFunc f (args.toList.map a.eval).toArray).run E.P w := by
        obtain ⟨dst, op', ty, pos, after, guard⟩ := o
        dsimp only at ho
        subst ho
        rw [exec_call (g := f) (first := #[]) (caps := #[]) rfl]
        congr 2
        apply Array.toList_inj.1
        simp
      unfold pureCall at hp
      split at hp
      · rename_i k hk
        obtain ⟨v, q, e, r⟩ := evExt_sound (P := E.P) hp hc hr
        refine wp_call (g := f) (vs := args.toList.map a.eval) he (R := fun v' w' => v' = v ∧ w' = { w with drawn := q }) (.inl ⟨v, _, ?_, rfl, rfl⟩) ?_
        · rw [hE.ext f k hk, e]; rfl
        · rintro v' w' ⟨rfl, rfl⟩
          exact hn _ _ ρ (h.drawn q) (r.drawn q) (fun _ => rfl)
      · rename_i hext
        split at hp
        · rename_i ps m' hcs
          cases hp
          -- the same call, as one that builds nothing
          have hf : ∃ m0, evFresh E S g (.call ⟨.value (.func f), args, ts⟩) = some (conjO ps, m0, []) ∧ m = shift S.nx m0 := by
            obtain ⟨m0, k1, k2⟩ := callSum_U hcs
            refine ⟨m0, ?_, k2⟩
            unfold evFresh
            simp only [hms, hext, k1]
          obtain ⟨m0, hf, rfl⟩ := hf
          refine evFresh_sound hE h hg hf hc o ho (base := S.nx) (fun i h1 h2 => by simp at h2; omega) (by simp) ?_
          intro v w' ρ2 h2 r2 hq
          exact hn v w' ρ2 h2 r2 (fun i => hq i (by simp))
        · cases hp
  · split at hp
    · cases hp
    · rename_i f ms hcal
      obtain ⟨vs, hr, he⟩ := calleeOf_sound (P := E.P) h.F.frame hg hcal ho rfl
      unfold pureCall at hp
      split at hp
      · rename_i k hk
        obtain ⟨v, q, e, r⟩ := evExt_sound (P := E.P) hp hc hr
        refine wp_call (g := f) (vs := vs) he (R := fun v' w' => v' = v ∧ w' = { w with drawn := q }) (.inl ⟨v, _, ?_, rfl, rfl⟩) ?_
        · rw [hE.ext f k hk, e]; rfl
        · rintro v' w' ⟨rfl, rfl⟩
          exact hn _ _ ρ (h.drawn q) (r.drawn q) (fun _ => rfl)
      · split at hp
        · rename_i ps m' hcs
          cases hp
          obtain ⟨m0, k1, rfl⟩ := callSum_U hcs
          refine freshCall hE h k1 hc hr he (base := S.nx) (fun i h1 h2 => by simp at h2; omega) (by simp) ?_
          intro v w' ρ2 h2 r2 hq
          exact hn v w' ρ2 h2 r2 (fun i => hq i (by simp))
        · cases hp
  · split at hp
    · cases hp
    · rename_i ms hms
      have hr := (opds_repL h.F.frame hg hms).opN op
      obtain ⟨v, k, e, r⟩ := evPm_sound hE.toEnvOK h.W hp hc (fun _ => rfl) hr o ho
      exact upon_value e (hn _ _ ρ (h.drawn k) (r.drawn k) (fun _ => rfl))
end Go.Ev

namespace Go.Ev
/-! ## A program's table, read off the program itself -/
def kOf : TypeDesc → TK
  | .bool => .bool
  | .int k => .int k
  | .float k => .flt k
  | .pointer e => .ptr e
  | .slice e => .slice e
  | .array n e => .array n e
  | .struct fs => .struct (fs.toList.map fun f => (f.offset, f.type))
  | .func .. => .func
  | _ => .other
theorem kOf_is (d : TypeDesc) : descIs d (kOf d) := by cases d <;> simp [descIs, kOf]
def tyGen (P : Program) (t : TypeId) : Option TI := match P.underlying t with
  | none => none
  | some d => match P.info? t with
    | none => none
    | some info => match info.zero with
      | none => none
      | some z => some ⟨kOf d, info.size, info.bytes, z⟩
theorem tyGen_ok {P : Program} {t : TypeId} {i : TI} (h : tyGen P t = some i) : TyOK P t i := by
  unfold tyGen at h
  split at h
  · cases h
  · rename_i d hd
    split at h
    · cases h
    · rename_i info hi
      split at h
      · cases h
      · rename_i z hz
        cases h
        exact ⟨⟨d, hd, kOf_is d⟩, ⟨info, hi, rfl, rfl, hz⟩⟩
def fnGen (P : Program) (f : FuncId) : Option FnI := match P.funcs[f]? with
  | none => none
  | some fn => match fn.body with
    | none => none
    | some c => match fn.name == "runtime.NumGoroutine" with
      | true => none
      | false => some ⟨fn.ntmps, c, fn.results.toList, true⟩
theorem fnGen_ok {P : Program} {f : FuncId} {fi : FnI} (h : fnGen P f = some fi) : FnOK P f fi := by
  unfold fnGen at h
  split at h
  · cases h
  · rename_i fn hf
    split at h
    · cases h
    · rename_i c hc
      split at h
      · cases h
      · rename_i hn
        cases h
        exact ⟨fn, hf, hc, rfl, by simp, hn⟩
def memN : List Nat → Nat → Bool
  | [], _ => false
  | k :: r, n => match Nat.beq k n with
    | true => true
    | false => memN r n
def genQ (P : Program) (exts : List (Nat × XK)) (eqs inl : List Nat) (sum : FuncId → List MV → Option (List Prop × MV × List Blk × Bool)) : Env :=
  ⟨P, tyGen P, fun f => match memN inl f with
    | true => fnGen P f
    | false => none, look exts, sum, memN eqs⟩
def ExtOK (P : Program) (f : FuncId) (k : XK) : Prop := ∀ (vs : Array Value) (w : World), (callFunc f vs).run P w = ((extRun k vs).run P w).andThen fun v w' => .ok (.value v) w'
theorem ExtOK.of {P : Program} {f : FuncId} {fn : Func} {k : XK} (hf : P.funcs[f]? = some fn) (hname : (fn.name == "runtime.NumGoroutine") = false)
    (hb : fn.body.isNone = true) (hn : Extern.findNext fn = none) (he : Extern.find fn = some (extRun k)) : ExtOK P f k := fun vs w => run_callFunc_extern hf hname hb hn he vs w
theorem memN_mem : ∀ {l : List Nat} {t : Nat}, memN l t = true → t ∈ l
  | [], t, h => by cases h
  | k :: r, t, h => by
    unfold memN at h
    split at h
    · rename_i e; simp [Nat.eq_of_beq_eq_true e]
    · simp [memN_mem h]
def eqsB (P : Program) (l : List Nat) : Bool := l.all (eqOKB P)
theorem genQ_full {P : Program} {exts : List (Nat × XK)} {eqs inl : List Nat} {sum : FuncId → List MV → Option (List Prop × MV × List Blk × Bool)} (hx : ∀ f k, look exts f = some k → ExtOK P f k) (hq : eqsB P eqs = true)
    (hs : ∀ f ms ps m blks al, sum f ms = some (ps, m, blks, al) → AllP ps → CM P f ms m blks al) : EnvFull (genQ P exts eqs inl sum) where
  ty t i h := tyGen_ok h
  eqs t h := EqOK.of ((List.all_eq_true.1 hq) t (memN_mem h))
  sum := hs
  ext f k h := hx f k h
  fns f fi h := by
    have h' : (match memN inl f with | true => fnGen P f | false => none) = some fi := h
    split at h'
    · exact fnGen_ok h'
    · cases h'
def sumOf (f : FuncId) (g : List MV → Option (List Prop × MV × List Blk × Bool)) (rest : FuncId → List MV → Option (List Prop × MV × List Blk × Bool)) : FuncId → List MV → Option (List Prop × MV × List Blk × Bool) := fun h ms =>
  match Nat.beq f h with
  | true => g ms
  | false => rest h ms
def sum0 : FuncId → List MV → Option (List Prop × MV × List Blk × Bool) := fun _ _ => none
def SumsOK (P : Program) (s : FuncId → List MV → Option (List Prop × MV × List Blk × Bool)) : Prop := ∀ f ms ps m blks al, s f ms = some (ps, m, blks, al) → AllP ps → CM P f ms m blks al
theorem sums0 {P : Program} : SumsOK P sum0 := fun f ms ps m blks al h => by cases h
theorem SumsOK.add {P : Program} {s : FuncId → List MV → Option (List Prop × MV × List Blk × Bool)} (h : SumsOK P s) {f : FuncId} {g : List MV → Option (List Prop × MV × List Blk × Bool)} (hg : ∀ ms ps m blks al, g ms = some (ps, m, blks, al) → AllP ps → CM P f ms m blks al) : SumsOK P (sumOf f g s) := by
  intro f' ms ps m blks al e
  unfold sumOf at e
  split at e
  · rename_i hb
    have := Nat.eq_of_beq_eq_true hb
    subst this
    exact hg ms ps m blks al e
  · exact h _ _ _ _ _ _ e
theorem CM.of_genQ {P : Program} {exts : List (Nat × XK)} {eqs inl : List Nat} {sum : FuncId → List MV → Option (List Prop × MV × List Blk × Bool)} (hx : ∀ f k, look exts f = some k → ExtOK P f k) (hq : eqsB P eqs = true) (hs : SumsOK P sum)
    {f : FuncId} {fi : FnI} (hf : fnGen P f = some fi) {args : List MV} {m : MV} {blks : List Blk} (fuel : Nat) (hn : Nat.ble args.length fi.n = true)
    (h : ∀ cx, evC (genQ P exts eqs inl sum) (hnd (genQ P exts eqs inl sum) cx fuel) cx fi.n fi.body ⟨initF 0 args, [], [], 0⟩ (finK (genQ P exts eqs inl sum) fi.res m blks)) : CM P f args m blks true :=
  CM.of_ev (E := genQ P exts eqs inl sum) (genQ_full hx hq hs) (fnGen_ok hf) fuel hn h
end Go.Ev

namespace Go.Ev
theorem CM.said {P : Program} {f : FuncId} {args : List MV} {al : Bool} (h : CM P f args (.b true) [] al) {W : World} {okA : Nat → Prop} {vs : List Value} (hA : ∀ b, okA b → b < W.heap.size) (hr : RepL W G0 rho0 okA args vs) :
    Calls P f vs.toArray W fun e W' => e = .returned (.bool true) ∧ Go.RowKit.Below W.heap.size W W' := by
  refine (h.calls W okA vs hA hr).mono ?_
  rintro e W' ⟨v, ρ', rfl, hW, hR⟩
  cases hR
  exact ⟨rfl, ⟨hW.below.os, hW.below.tape, hW.below.output, hW.below.size, fun k hk => hW.below.block k hk (fun hx => hx)⟩⟩
end Go.Ev

namespace Go.Ev
/-! ## Less is known: the same state, told more weakly -/
def leM : MV → MV → Prop
  | _, .und => True
  | .lb x, .b y => Side (x = y)
  | .lb x, .lb y => Side (x = y)
  | .b x, .b y => Side (x = y)
  | .i k n, .i k' n' => Side (k = k' ∧ n = n')
  | .f k x, .f k' y => Side (k = k' ∧ x = y)
  | .os i s l n, .os i' s' l' n' => Side (i = i' ∧ s = s' ∧ l = l' ∧ n = n')
  | .ro s n g, .ro s' n' g' => Side (s = s' ∧ n = n' ∧ ∀ i, i < n → g i = g' i)
  | .oc i s n c, .oc i' s' n' c' => Side (i = i' ∧ s = s' ∧ n = n' ∧ c = c')
  | .oc i s n _, .os i' s' l' n' => Side (i = i' ∧ s = s' ∧ 0 = l' ∧ n = n')
  | .nils, .nils => True
  | .nils, .os _ _ _ n' => Side (n' = 0)
  | .nilp, .nilp => True
  | a, b => Side (a = b)
theorem leM_rep {m m' : MV} (h : leM m m') {w : World} {G : GT} {ρ : RhoT} {ok : OkT} {v : Value} (r : Rep w G ρ ok m v) : Rep w G ρ ok m' v := by
  unfold leM at h
  split at h
  · exact .und _
  · have := h.h; subst this; cases r; exact .b _
  · have := h.h; subst this; exact r
  · have := h.h; subst this; exact r
  · obtain ⟨rfl, rfl⟩ := h.h; exact r
  · obtain ⟨rfl, rfl⟩ := h.h; exact r
  · obtain ⟨rfl, rfl, rfl, rfl⟩ := h.h; exact r
  · obtain ⟨rfl, rfl, hg⟩ := h.h
    cases r with
    | ro _ _ _ blk off cap u h1 h2 h3 h4 h5 => exact .ro _ _ _ _ _ _ _ h1 h2 h3 h4 (fun i hi j hj => by rw [← hg i hi]; exact h5 i hi j hj)
    | ronil => exact .ronil _ _
  · obtain ⟨rfl, rfl, rfl, rfl⟩ := h.h; exact r
  · obtain ⟨rfl, rfl, rfl, rfl⟩ := h.h; exact r.norm
  · exact r
  · have := h.h; subst this; cases r; exact .osnil _ _ _
  · exact r
  · have := h.h; subst this; exact r
def leF (F : List (Nat × MV)) : List (Nat × MV) → Prop
  | [] => True
  | (s, m) :: r => match look F s with
    | some m' => leM m' m ∧ leF F r
    | none => False
theorem leF_spec {F : List (Nat × MV)} : ∀ {F' : List (Nat × MV)}, leF F F' → ∀ s m, look F' s = some m → ∃ m', look F s = some m' ∧ leM m' m
  | [], _, s, m, h => by simp [look] at h
  | (k, x) :: r, hl, s, m, h => by
    unfold leF at hl
    split at hl
    · rename_i m' hm
      simp only [look] at h
      split at h
      · rename_i e
        have := Nat.eq_of_beq_eq_true e
        subst this
        cases h
        exact ⟨m', hm, hl.1⟩
      · exact leF_spec hl.2 s m h
    · exact hl.elim
theorem leF_ok {w : World} {G : GT} {ρ : RhoT} {ok : OkT} {F F' : List (Nat × MV)} (hl : leF F F') {a : Act} (h : FrOK w G ρ ok F a) : FrOK w G ρ ok F' a := by
  intro s m hs
  obtain ⟨m', h1, h2⟩ := leF_spec hl s m hs
  obtain ⟨v, hv, r⟩ := h s m' h1
  exact ⟨v, hv, leM_rep h2 r⟩
def leC : List MV → List MV → Prop
  | [], [] => True
  | x :: r, y :: s => leM x y ∧ leC r s
  | _, _ => False
theorem leC_spec : ∀ {l l' : List MV}, leC l l' → l.length = l'.length ∧ ∀ j, j < l.length → leM (getM l j) (getM l' j)
  | [], [], _ => ⟨rfl, fun j hj => by simp at hj⟩
  | x :: r, y :: s, h => by
    obtain ⟨h1, h2⟩ := leC_spec h.2
    refine ⟨by simp [h1], fun j hj => ?_⟩
    cases j with
    | zero => simpa [getM] using h.1
    | succ j => simpa [getM] using h2 j (by simpa using hj)
  | [], _ :: _, h => h.elim
  | _ :: _, [], h => h.elim
def leB : Blk → Blk → Prop
  | .rows s n g, .rows s' n' g' => Side (s = s' ∧ n = n' ∧ ∀ i, i < n → ∀ j, j < s → getM (g' i) j = .und ∨ getM (g i) j = getM (g' i) j)
  | .cells l, .cells l' => leC l l'
  | a, b => Side (a = b)
def leH (H : List (Nat × Blk)) : List (Nat × Blk) → Prop
  | [] => True
  | (s, m) :: r => match look H s with
    | some m' => leB m' m ∧ leH H r
    | none => False
theorem leB_ok {w : World} {ρ : RhoT} {ok : OkT} {id : Nat} {b b' : Blk} (h : leB b b') (hb : BlkOK w ρ ok id b) : BlkOK w ρ ok id b' := by
  unfold leB at h
  split at h
  · obtain ⟨rfl, rfl, hg⟩ := h.h
    rcases hb with ⟨h1, h2⟩ | ⟨b, c, T, h1, h2, h3, h5, h4⟩
    · exact .inl ⟨h1, h2⟩
    · refine .inr ⟨b, c, T, h1, h2, h3, h5, fun i hi j hj => ?_⟩
      rcases hg i hi j hj with e | e
      · rw [e]; exact .und _
      · rw [← e]; exact h4 i hi j hj
  · obtain ⟨e1, e2⟩ := leC_spec h
    obtain ⟨b, c, T, h1, h2, h3, h5, h4⟩ := hb
    exact ⟨b, c, T, h1, h2, h3.trans e1, h5, fun j hj => leM_rep (e2 j (by omega)) (h4 j (by omega))⟩
  · have := h.h; subst this; exact hb
theorem leH_spec {H : List (Nat × Blk)} : ∀ {H' : List (Nat × Blk)}, leH H H' → ∀ s m, look H' s = some m → ∃ m', look H s = some m' ∧ leB m' m
  | [], _, s, m, h => by simp [look] at h
  | (k, x) :: r, hl, s, m, h => by
    unfold leH at hl
    split at hl
    · rename_i m' hm
      simp only [look] at h
      split at h
      · rename_i e
        have := Nat.eq_of_beq_eq_true e
        subst this
        cases h
        exact ⟨m', hm, hl.1⟩
      · exact leH_spec hl.2 s m h
    · exact hl.elim
def lt1 (k : Nat) : MV → Bool
  | .p i _ => Nat.blt i k
  | .pe i _ _ _ => Nat.blt i k
  | .os i _ _ _ => Nat.blt i k
  | .oc i _ _ _ => Nat.blt i k
  | .agg _ => false
  | .tup _ => false
  | .fn _ _ _ => false
  | .gd _ _ _ => false
  | _ => true
def ltL (k : Nat) : List MV → Bool
  | [] => true
  | m :: r => match lt1 k m with
    | true => ltL k r
    | false => false
def ltM (k : Nat) : MV → Bool
  | .agg l => ltL k l
  | .tup l => ltL k l
  | .fn _ l m => match ltL k l with
    | true => ltL k m
    | false => false
  | m => lt1 k m
def ltF (k : Nat) : List (Nat × MV) → Bool
  | [] => true
  | (_, m) :: r => match ltM k m with
    | true => ltF k r
    | false => false
def ltB (k : Nat) : Blk → Bool
  | .cells l => ltAllM k l
  | .rows _ _ _ => true
where
  ltAllM (k : Nat) : List MV → Bool
    | [] => true
    | m :: r => match ltM k m with
      | true => ltAllM k r
      | false => false
def ltH (k : Nat) : List (Nat × Blk) → Bool
  | [] => true
  | (i, b) :: r => match Nat.blt i k with
    | true => match ltB k b with
      | true => ltH k r
      | false => false
    | false => false
def ltS (k : Nat) : List (List (Nat × MV)) → Bool
  | [] => true
  | F :: r => match ltF k F with
    | true => ltS k r
    | false => false
theorem lt1_spec {k : Nat} {m : MV} (h : lt1 k m = true) {id : Nat} (hm : ment1 id m = true) : id < k := by
  cases m <;> simp [lt1, ment1] at h hm <;> omega
theorem ltL_spec {k : Nat} {l : List MV} (h : ltL k l = true) {id : Nat} (hm : anyM id l = true) : id < k := by
  induction l with
  | nil => cases hm
  | cons m r ih =>
    unfold ltL at h
    split at h
    · rename_i h1
      unfold anyM at hm
      split at hm
      · rename_i h2; exact lt1_spec h1 h2
      · exact ih h hm
    · cases h
theorem ltM_spec {k : Nat} {m : MV} (h : ltM k m = true) {id : Nat} (hm : ment id m = true) : id < k := by
  cases m with
  | agg l => exact ltL_spec h hm
  | tup l => exact ltL_spec h hm
  | fn f l m =>
    have h0 : (match ltL k l with | true => ltL k m | false => false) = true := h
    have h1 : (match anyM id l with | true => true | false => anyM id m) = true := hm
    split at h0
    · rename_i e
      split at h1
      · rename_i e2; exact ltL_spec e e2
      · exact ltL_spec h0 h1
    · cases h0
  | gd j w m => cases h
  | p i o => exact lt1_spec (m := .p i o) h hm
  | pe i s a j => exact lt1_spec (m := .pe i s a j) h hm
  | os i s a n => exact lt1_spec (m := .os i s a n) h hm
  | oc i s n c => exact lt1_spec (m := .oc i s n c) h hm
  | _ => cases hm
theorem ltF_spec {k : Nat} {F : List (Nat × MV)} (h : ltF k F = true) {s : Nat} {m : MV} (hl : look F s = some m) : ltM k m = true := by
  induction F with
  | nil => simp [look] at hl
  | cons x r ih =>
    obtain ⟨a, b⟩ := x
    unfold ltF at h
    split at h
    · rename_i h1
      simp only [look] at hl
      split at hl
      · cases hl; exact h1
      · exact ih h hl
    · cases h
theorem ltAllM_spec {k : Nat} {l : List MV} (h : ltB.ltAllM k l = true) {j : Nat} (hj : j < l.length) : ltM k (getM l j) = true := by
  induction l generalizing j with
  | nil => simp at hj
  | cons m r ih =>
    unfold ltB.ltAllM at h
    split at h
    · rename_i h1
      cases j with
      | zero => simpa [getM] using h1
      | succ j => simpa [getM] using ih h (j := j) (by simpa using hj)
    · cases h
theorem ltH_spec {k : Nat} {H : List (Nat × Blk)} (h : ltH k H = true) {id : Nat} {b : Blk} (hl : look H id = some b) : id < k ∧ ltB k b = true := by
  induction H with
  | nil => simp [look] at hl
  | cons x r ih =>
    obtain ⟨a, c⟩ := x
    unfold ltH at h
    split at h
    · rename_i h1
      split at h
      · rename_i h2
        simp only [look] at hl
        split at hl
        · rename_i e
          have := Nat.eq_of_beq_eq_true e
          subst this
          cases hl
          exact ⟨by simpa using h1, h2⟩
        · exact ih h hl
      · cases h
    · cases h
theorem ltStk {k : Nat} {w : World} {ρ ρ' : RhoT} {ok ok' : OkT} (hρ : ∀ i b, i < k → ρ i = some b → ρ' i = some b) (hok : ∀ b, ok b → ok' b) : ∀ {Fs : List (List (Nat × MV))} {as : List Act} {Gs : List GT}, ltS k Fs = true → StkOK w ρ ok Fs as Gs → StkOK w ρ' ok' Fs as Gs
  | [], [], [], _, _ => trivial
  | F :: Fs, a :: as, G :: Gs, h, hs => by
    unfold ltS at h
    split at h
    · rename_i h1
      refine ⟨fun s m hl => ?_, ltStk hρ hok h hs.2⟩
      obtain ⟨v, hv, r⟩ := hs.1 s m hl
      exact ⟨v, hv, r.mono' (Keeps.refl w) (fun _ _ _ e => e) (fun i b hm => hρ i b (ltM_spec (ltF_spec h1 hl) hm)) fun b hb => ⟨hok b hb, rfl⟩⟩
    · cases h
  | [], _ :: _, _, _, h => h.elim
  | [], [], _ :: _, _, h => h.elim
  | _ :: _, [], _, _, h => h.elim
  | _ :: _, _ :: _, [], _, h => h.elim
theorem Sat.gc {cx : Cx} {su : Sus} {n : Nat} {F : List (Nat × MV)} {stk : List (List (Nat × MV))} {H : List (Nat × Blk)} {nx k : Nat} {a : Act} {w : World} (h : Sat cx su n G0 ⟨F, stk, H, nx⟩ a w) (hk : k ≤ nx) (hF : ltF k F = true) (hS : ltS k stk = true) (hH : ltH k H = true) :
    Sat cx su n G0 ⟨F, stk, H, k⟩ a w := by
  obtain ⟨ρ, hs⟩ := h
  have hsub : ∀ i b, (if i < k then ρ i else none) = some b → i < k ∧ ρ i = some b := by
    intro i b h
    split at h
    · exact ⟨by assumption, h⟩
    · cases h
  have hup : ∀ i b, i < k → ρ i = some b → (fun i => if i < k then ρ i else none) i = some b := by
    intro i b h1 h2
    simp only [h1, if_true, h2]
  have hok : ∀ b, okS cx ρ w b → okS cx (fun i => if i < k then ρ i else none) w b := by
    intro b hb
    rcases hb with hb | hb
    · exact .inl hb
    · exact .inr ⟨hb.1, hb.2.1, fun i hi => hb.2.2 i (hsub i b hi).2⟩
  have hok2 : ∀ b, okS cx ρ w b → okS cx (fun i => if i < k then ρ i else none) w b ∧ w.heap[b]? = w.heap[b]? := fun b hb => ⟨hok b hb, rfl⟩
  refine ⟨fun i => if i < k then ρ i else none, ⟨hs.W.below, ?_, ?_, ?_, ?_, ?_, hs.W.okA⟩, ⟨hs.F.defers, hs.F.size, ?_⟩, ltStk hup hok hS hs.K⟩
  · intro i j b h1 h2; exact hs.W.inj i j b (hsub i b h1).2 (hsub j b h2).2
  · intro i b h1; exact hs.W.rng i b (hsub i b h1).2
  · intro id blk hl; exact (ltH_spec hH hl).1
  · intro i hi
    dsimp only at hi ⊢
    rw [if_neg (by omega)]
  · intro id blk hl
    obtain ⟨h1, h2⟩ := ltH_spec hH hl
    have hb := hs.W.blocks id blk hl
    cases blk with
    | cells l =>
      obtain ⟨b, c, T, q1, q2, q3, q5, q4⟩ := hb
      exact ⟨b, c, T, hup _ _ h1 q1, q2, q3, q5, fun j hj => (q4 j hj).mono' (Keeps.refl w) (fun _ _ _ e => e) (fun i b hm => hup i b (ltM_spec (ltAllM_spec h2 hj) hm)) hok2⟩
    | rows sz m get =>
      rcases hb with ⟨q1, q2⟩ | ⟨b, c, T, q1, q2, q3, q5, q4⟩
      · refine .inl ⟨q1, ?_⟩
        dsimp only
        rw [if_pos h1]; exact q2
      · exact .inr ⟨b, c, T, hup _ _ h1 q1, q2, q3, q5, fun i hi j hj => (q4 i hi j hj).mono (Keeps.refl w) (fun _ _ _ e => e) (fun _ _ e => e) hok2⟩
  · intro s m hl
    obtain ⟨v, hv, r⟩ := hs.F.frame s m hl
    exact ⟨v, hv, r.mono' (Keeps.refl w) (fun _ _ _ e => e) (fun i b hm => hup i b (ltM_spec (ltF_spec hF hl) hm)) hok2⟩
def leS (S T : St) : Prop := match S, T with
  | ⟨F, stk, H, nx⟩, ⟨F', stk', H', nx'⟩ => leF F F' ∧ leH H H' ∧ Side (stk = stk') ∧ match Nat.beq nx nx' with
    | true => True
    | false => match ltF nx' F', ltS nx' stk', ltH nx' H' with
      | true, true, true => Side (nx' ≤ nx)
      | _, _, _ => Side (nx = nx')
theorem leS_sat {S T : St} (h : leS S T) {cx : Cx} {su : Sus} {n : Nat} {a : Act} {w : World} (hs : Sat cx su n G0 S a w) : Sat cx su n G0 T a w := by
  obtain ⟨F, stk, H, nx⟩ := S
  obtain ⟨F', stk', H', nx'⟩ := T
  obtain ⟨h1, h2, ⟨rfl⟩, h4⟩ := h
  have key : Sat cx su n G0 ⟨F', stk, H', nx⟩ a w := by
    obtain ⟨ρ, hs⟩ := hs
    refine ⟨ρ, ⟨hs.W.below, hs.W.inj, hs.W.rng, fun id blk hl => ?_, hs.W.nx, fun id blk hl => ?_, hs.W.okA⟩, ⟨hs.F.defers, hs.F.size, leF_ok h1 hs.F.frame⟩, hs.K⟩
    · obtain ⟨m', e, _⟩ := leH_spec h2 id blk hl
      exact hs.W.hlt id m' e
    · obtain ⟨m', e, hb⟩ := leH_spec h2 id blk hl
      exact leB_ok hb (hs.W.blocks id m' e)
  split at h4
  · rename_i e
    have := Nat.eq_of_beq_eq_true e
    subst this
    exact key
  · split at h4
    · rename_i e1 e2 e3
      exact key.gc h4.h e1 e2 e3
    · have := h4.h
      subst this
      exact key
theorem CM.le {P : Program} {f : FuncId} {args args' : List MV} {m : MV} {blks : List Blk} {al : Bool} (h : CM P f args' m blks al)
    (hr : ∀ (w : World) (ok : OkT) (vs : List Value), RepL w G0 rho0 ok args vs → RepL w G0 rho0 ok args' vs) : CM P f args m blks al :=
  ⟨h.enters, fun w okA vs hA r => h.calls w okA vs hA (hr w okA vs r)⟩
def leR : MV → MV → Prop
  | .ro s n g, .ro s' n' g' => s = s' ∧ n = n' ∧ ∀ i, i < n → ∀ j, j < s → getM (g i) j = getM (g' i) j
  | a, b => a = b
theorem leR_rep {m m' : MV} (h : leR m m') {w : World} {ok : OkT} {v : Value} (r : Rep w G0 rho0 ok m v) : Rep w G0 rho0 ok m' v := by
  unfold leR at h
  split at h
  · obtain ⟨rfl, rfl, hg⟩ := h
    cases r with
    | ro _ _ _ blk off cap u h1 h2 h3 h4 h5 => exact .ro _ _ _ _ _ _ _ h1 h2 h3 h4 (fun i hi j hj => by rw [← hg i hi j hj]; exact h5 i hi j hj)
    | ronil => exact .ronil _ _
  · rw [← h]; exact r
theorem CM.le1 {P : Program} {f : FuncId} {a a' : MV} {m : MV} {blks : List Blk} {al : Bool} (h : CM P f [a'] m blks al) (ha : leR a a') : CM P f [a] m blks al :=
  h.le fun w ok vs r => ⟨r.len, fun j hj => by
    have hj' : j = 0 := by simpa using hj
    subst hj'
    exact leR_rep ha (r.rep 0 (by simp))⟩
theorem CM.le2 {P : Program} {f : FuncId} {a a' b b' : MV} {m : MV} {blks : List Blk} {al : Bool} (h : CM P f [a', b'] m blks al) (ha : leR a a') (hb : leR b b') : CM P f [a, b] m blks al :=
  h.le fun w ok vs r => ⟨r.len, fun j hj => by
    have hj' : j = 0 ∨ j = 1 := by simp at hj; omega
    rcases hj' with rfl | rfl
    · exact leR_rep ha (r.rep 0 (by simp))
    · exact leR_rep hb (r.rep 1 (by simp))⟩
end Go.Ev

namespace Go.Ev
/-! ## Regions whose order is drawn -/
def edgesL : List Edge → List Nat
  | [] => []
  | e :: r => match Region.binds .any e with
    | true => e.on :: edgesL r
    | false => edgesL r
theorem mem_edgesL : ∀ {l : List Edge} {i : Nat}, (∃ e ∈ l, Region.binds .any e = true ∧ e.on = i) → i ∈ edgesL l
  | [], i, h => by obtain ⟨e, h, _⟩ := h; cases h
  | e :: r, i, h => by
    obtain ⟨x, h1, h2, h3⟩ := h
    unfold edgesL
    rcases List.mem_cons.1 h1 with rfl | h1
    · rw [h2]; subst h3; exact List.mem_cons_self
    · have := mem_edgesL (l := r) (i := i) ⟨x, h1, h2, h3⟩
      split
      · exact List.mem_cons_of_mem _ this
      · exact this
theorem of_mem_edgesL : ∀ {l : List Edge} {i : Nat}, i ∈ edgesL l → ∃ e ∈ l, Region.binds .any e = true ∧ e.on = i
  | [], i, h => by cases h
  | e :: r, i, h => by
    unfold edgesL at h
    split at h
    · rename_i hb
      rcases List.mem_cons.1 h with rfl | h
      · exact ⟨e, List.mem_cons_self, hb, rfl⟩
      · obtain ⟨x, h1, h2⟩ := of_mem_edgesL h
        exact ⟨x, List.mem_cons_of_mem _ h1, h2⟩
    · obtain ⟨x, h1, h2⟩ := of_mem_edgesL h
      exact ⟨x, List.mem_cons_of_mem _ h1, h2⟩
def inN : List Nat → Nat → Bool
  | [], _ => false
  | k :: r, n => match Nat.beq k n with
    | true => true
    | false => inN r n
theorem inN_iff {l : List Nat} {n : Nat} : inN l n = true ↔ n ∈ l := by
  induction l with
  | nil => simp [inN]
  | cons k r ih =>
    unfold inN
    split
    · rename_i h
      have := Nat.eq_of_beq_eq_true h
      simp [this]
    · rename_i h
      have hne : n ≠ k := by intro e; subst e; simp at h
      simp [ih, hne]
def getB : List (List Nat) → Nat → List Nat
  | [], _ => []
  | x :: _, 0 => x
  | _ :: r, n + 1 => getB r n
def uniN : List Nat → List Nat → List Nat
  | [], l => l
  | x :: r, l => match inN l x with
    | true => uniN r l
    | false => x :: uniN r l
theorem mem_uniN {a b : List Nat} {i : Nat} (h : i ∈ uniN a b) : i ∈ a ∨ i ∈ b := by
  induction a with
  | nil => exact .inr h
  | cons x r ih =>
    unfold uniN at h
    split at h
    · rcases ih h with h | h
      · exact .inl (by simp [h])
      · exact .inr h
    · rcases List.mem_cons.1 h with rfl | h
      · exact .inl (by simp)
      · rcases ih h with h | h
        · exact .inl (by simp [h])
        · exact .inr h
def clos (Bs : List (List Nat)) : List Nat → List Nat
  | [] => []
  | e :: r => uniN (e :: getB Bs e) (clos Bs r)
theorem mem_clos {Bs : List (List Nat)} {es : List Nat} {i : Nat} (h : i ∈ clos Bs es) : ∃ e ∈ es, i = e ∨ i ∈ getB Bs e := by
  induction es with
  | nil => simp [clos] at h
  | cons e r ih =>
    unfold clos at h
    rcases mem_uniN h with h | h
    · rcases List.mem_cons.1 h with rfl | h
      · exact ⟨_, by simp, .inl rfl⟩
      · exact ⟨e, by simp, .inr h⟩
    · obtain ⟨e', h1, h2⟩ := ih h
      exact ⟨e', by simp [h1], h2⟩
def ltAll (j : Nat) : List Nat → Bool
  | [] => true
  | e :: r => match Nat.blt e j with
    | true => ltAll j r
    | false => false
theorem ltAll_iff {j : Nat} {l : List Nat} (h : ltAll j l = true) : ∀ e ∈ l, e < j := by
  induction l with
  | nil => simp
  | cons x r ih =>
    unfold ltAll at h
    split at h
    · rename_i hx
      intro e he
      rcases List.mem_cons.1 he with rfl | he
      · simpa using hx
      · exact ih h e he
    · cases h
def allB : List Oper → List (List Nat) → Option (List (List Nat))
  | [], Bs => some Bs
  | o :: r, Bs => match ltAll Bs.length (edgesL o.after.toList) with
    | true => allB r (Bs ++ [clos Bs (edgesL o.after.toList)])
    | false => none
theorem getB_app : ∀ {a b : List (List Nat)} {k : Nat}, k < a.length → getB (a ++ b) k = getB a k
  | [], _, _, h => by simp at h
  | x :: r, b, 0, h => rfl
  | x :: r, b, k + 1, h => by
    simp only [List.cons_append, getB]
    exact getB_app (by simpa using h)
theorem getB_last : ∀ {a : List (List Nat)} {x : List Nat}, getB (a ++ [x]) a.length = x
  | [], x => rfl
  | y :: r, x => by
    simp only [List.cons_append, List.length_cons, getB]
    exact getB_last
theorem allB_spec : ∀ {rest : List Oper} {Bs R : List (List Nat)}, allB rest Bs = some R →
    (∀ k, k < Bs.length → getB R k = getB Bs k) ∧
    ∀ k o, rest[k]? = some o → (∀ e ∈ edgesL o.after.toList, e < Bs.length + k) ∧ ∀ i ∈ getB R (Bs.length + k), ∃ e ∈ edgesL o.after.toList, i = e ∨ i ∈ getB R e
  | [], Bs, R, h => by
    simp [allB] at h; subst h
    exact ⟨fun _ _ => rfl, fun k o ho => by simp at ho⟩
  | o :: r, Bs, R, h => by
    unfold allB at h
    split at h
    · rename_i hlt
      have hlt := ltAll_iff hlt
      obtain ⟨h1, h2⟩ := allB_spec h
      have hlen : (Bs ++ [clos Bs (edgesL o.after.toList)]).length = Bs.length + 1 := by simp
      rw [hlen] at h1 h2
      refine ⟨fun k hk => (h1 k (by omega)).trans (getB_app hk), fun k o' ho => ?_⟩
      cases k with
      | zero =>
        simp at ho; subst ho
        refine ⟨by simpa using hlt, fun i hi => ?_⟩
        rw [Nat.add_zero, h1 _ (by omega), getB_last] at hi
        obtain ⟨e, he, h3⟩ := mem_clos hi
        refine ⟨e, he, h3.imp id fun h3 => ?_⟩
        rw [h1 e (by have := hlt e he; omega), getB_app (hlt e he)]; exact h3
      | succ k =>
        have := h2 k o' (by simpa using ho)
        rw [show Bs.length + (k + 1) = Bs.length + 1 + k by omega]
        exact this
    · cases h
theorem B_sub {ops : List Oper} {R : List (List Nat)} (h : allB ops [] = some R) {D : Nat → Prop} (hD : ∀ k o, ops[k]? = some o → D k → ∀ e ∈ edgesL o.after.toList, D e) :
    ∀ k o, ops[k]? = some o → (∀ e ∈ edgesL o.after.toList, D e) → ∀ i ∈ getB R k, D i := by
  obtain ⟨_, h2⟩ := allB_spec h
  intro k
  induction k using Nat.strongRecOn with
  | ind k ih =>
    intro o ho he i hi
    obtain ⟨h3, h4⟩ := h2 k o ho
    rw [List.length_nil, Nat.zero_add] at h4
    obtain ⟨e, e1, e2⟩ := h4 i hi
    rcases e2 with rfl | e2
    · exact he _ e1
    · have hlt := h3 e e1
      rw [List.length_nil, Nat.zero_add] at hlt
      have hk : k < ops.length := (List.getElem?_eq_some_iff.1 ho).1
      have hoe : ops[e]? = some ops[e] := List.getElem?_eq_getElem (by omega)
      exact ih e hlt _ hoe (hD e _ hoe (he e e1)) i e2
end Go.Ev

namespace Go.Ev
/-! ### Each operation once, in a frame that holds whenever it is ready -/
structure RC where
  i : Nat
  d : Option Nat
  m : MV
  e : Option TE
  b : List Blk
  k : Nat
def keepF (Bs : List (List Nat)) (ws : List (Nat × Nat)) (j : Nat) : List (Nat × MV) → List (Nat × MV)
  | [] => []
  | (s, m) :: r => match look ws s with
    | none => (s, m) :: keepF Bs ws j r
    | some i => match Nat.beq i j with
      | true => (s, m) :: keepF Bs ws j r
      | false => match inN (getB Bs i) j with
        | true => (s, m) :: keepF Bs ws j r
        | false => keepF Bs ws j r
def addF (B : List Nat) : List RC → List (Nat × MV) → List (Nat × MV)
  | [], F => F
  | c :: r, F => match c.d with
    | none => addF B r F
    | some d => match inN B c.i with
      | true => (d, c.m) :: addF B r F
      | false => addF B r F
def tabT (B : List Nat) : List RC → List TE
  | [] => []
  | c :: r => match c.e with
    | none => tabT B r
    | some e => match inN B c.i with
      | true => e :: tabT B r
      | false => tabT B r
def writers : List Oper → Nat → List (Nat × Nat)
  | [], _ => []
  | o :: r, k => match o.dst with
    | some d => (d, k) :: writers r (k + 1)
    | none => writers r (k + 1)
def nodupW : List (Nat × Nat) → Bool
  | [] => true
  | (d, _) :: r => match look r d with
    | none => nodupW r
    | some _ => false
def dstB (n : Nat) (o : Oper) : Bool := match o.dst with
  | none => true
  | some d => Nat.blt d n
def needO : Option Prop → Prop → Prop
  | none, q => q
  | some p, q => Need p q
theorem needO_iff {c : Option Prop} {q : Prop} (h : needO c q) : (∀ p, c = some p → p) ∧ q := by
  cases c with
  | none => exact ⟨fun p e => (by cases e), h⟩
  | some p => exact ⟨fun p' e => (by cases e; exact h.left.h), h.right⟩
def forceP (n : Nat) (k : Nat → Prop) : Prop := match n with
  | 0 => k 0
  | m + 1 => k (Nat.succ m)
theorem forceP_eq (n : Nat) (k : Nat → Prop) : forceP n k = k n := by cases n <;> rfl
def forceV : List (Nat × Nat) → (List (Nat × Nat) → Prop) → Prop
  | [], k => k []
  | (s, m) :: r, k => forceP m fun m' => forceV r fun r' => k ((s, m') :: r')
theorem forceV_eq : ∀ {l : List (Nat × Nat)} {k : List (Nat × Nat) → Prop}, forceV l k → k l
  | [], _, h => h
  | (s, m) :: r, k, h => by
    unfold forceV at h
    rw [forceP_eq] at h
    exact forceV_eq (l := r) h
theorem forceV_intro : ∀ {l : List (Nat × Nat)} {k : List (Nat × Nat) → Prop}, k l → forceV l k
  | [], _, h => h
  | (s, m) :: r, k, h => by
    unfold forceV
    rw [forceP_eq]
    exact forceV_intro (l := r) h
def drawOps (E : Env) (n : Nat) (ops : List Oper) (Bs : List (List Nat)) (ws : List (Nat × Nat)) (F0 : List (Nat × MV)) (stk : List (List (Nat × MV))) (H : List (Nat × Blk)) (nx : Nat) : Nat → List Oper → Nat → List RC → (List RC → Prop) → Prop
  | _, [], _, done, K => K done
  | j, o :: r, cur, done, K => forceP j fun j => match dstB n o with
    | false => False
    | true => forceF (addF (getB Bs j) done (keepF Bs ws j F0)) fun F => match o.guard with
      | none => match evPure E ops ⟨F, stk, H, nx⟩ [] o.op with
        | some (none, m) => match noGd m with
          | true => drawOps E n ops Bs ws F0 stk H nx (j + 1) r cur (⟨j, o.dst, m, none, [], cur⟩ :: done) K
          | false => False
        | some (some p, m) => match noGd m with
          | true => Need p (drawOps E n ops Bs ws F0 stk H nx (j + 1) r cur (⟨j, o.dst, m, none, [], cur⟩ :: done) K)
          | false => False
        | none => match evFresh E ⟨F, stk, H, nx⟩ [] o.op with
          | none => False
          | some (c, m, blks) => match noGd (shift cur m) with
            | false => False
            | true => match Nat.ble (cur + blks.length) nx with
              | false => False
              | true => needO c (forceP (cur + blks.length) fun cur' => drawOps E n ops Bs ws F0 stk H nx (j + 1) r cur' (⟨j, o.dst, shift cur m, none, blks, cur⟩ :: done) K)
      | some (k, want) => match inN (getB Bs j) k with
        | false => False
        | true => match condOf ops F (tabT (getB Bs j) done) k want with
          | none => False
          | some .t => match evPure E ops ⟨F, stk, H, nx⟩ (ancG ops F ops.length k want) o.op with
            | some (none, m) => match noGd m with
              | true => drawOps E n ops Bs ws F0 stk H nx (j + 1) r cur (⟨j, o.dst, m, none, [], cur⟩ :: done) K
              | false => False
            | some (some p, m) => match noGd m with
              | true => Need p (drawOps E n ops Bs ws F0 stk H nx (j + 1) r cur (⟨j, o.dst, m, none, [], cur⟩ :: done) K)
              | false => False
            | none => False
          | some .f => drawOps E n ops Bs ws F0 stk H nx (j + 1) r cur (⟨j, o.dst, .x undef, none, [], cur⟩ :: done) K
          | some (.s C) => match evPure E ops ⟨F, stk, H, nx⟩ (ancG ops F ops.length k want) o.op with
            | some (none, m) => match noGd m with
              | true => drawOps E n ops Bs ws F0 stk H nx (j + 1) r cur (⟨j, o.dst, .gd k want m, some ⟨k, want, dOf ops k, .s C⟩, [], cur⟩ :: done) K
              | false => False
            | some (some p, m) => match noGd m with
              | true => Need (C = true → p) (drawOps E n ops Bs ws F0 stk H nx (j + 1) r cur (⟨j, o.dst, .gd k want m, some ⟨k, want, dOf ops k, .s C⟩, [], cur⟩ :: done) K)
              | false => False
            | none => (C = true → False) ∧ (C = false → drawOps E n ops Bs ws F0 stk H nx (j + 1) r cur (⟨j, o.dst, .x undef, none, [], cur⟩ :: done) K)
def ROK (E : Env) (n : Nat) (ops : List Oper) (Bs : List (List Nat)) (ws : List (Nat × Nat)) (F0 : List (Nat × MV)) (stk : List (List (Nat × MV))) (H : List (Nat × Blk)) (nx : Nat) (recs : List RC) (c : RC) : Prop :=
  ∃ o, ops[c.i]? = some o ∧ c.d = o.dst ∧ (∀ d, o.dst = some d → d < n) ∧ ∃ done F, (∀ x ∈ done, x ∈ recs) ∧ F = addF (getB Bs c.i) done (keepF Bs ws c.i F0) ∧
    ((o.guard = none ∧ c.e = none ∧ noGd c.m = true ∧ c.b = [] ∧ ∃ cnd, evPure E ops ⟨F, stk, H, nx⟩ [] o.op = some (cnd, c.m) ∧ ∀ p, cnd = some p → p) ∨
     (o.guard = none ∧ c.e = none ∧ noGd c.m = true ∧ c.k + c.b.length ≤ nx ∧ ∃ cnd m, evFresh E ⟨F, stk, H, nx⟩ [] o.op = some (cnd, m, c.b) ∧ c.m = shift c.k m ∧ ∀ p, cnd = some p → p) ∨
     ∃ k want, o.guard = some (k, want) ∧ k ∈ getB Bs c.i ∧ c.b = [] ∧
       ((condOf ops F (tabT (getB Bs c.i) done) k want = some .t ∧ c.e = none ∧ noGd c.m = true ∧ ∃ cnd, evPure E ops ⟨F, stk, H, nx⟩ (ancG ops F ops.length k want) o.op = some (cnd, c.m) ∧ ∀ p, cnd = some p → p) ∨
        (∃ cb, condOf ops F (tabT (getB Bs c.i) done) k want = some cb ∧ cb.val = false ∧ c.e = none ∧ c.m = .x undef) ∨
        ∃ C m, condOf ops F (tabT (getB Bs c.i) done) k want = some (.s C) ∧ c.e = some ⟨k, want, dOf ops k, .s C⟩ ∧ c.m = .gd k want m ∧ noGd m = true ∧
          ∃ cnd, evPure E ops ⟨F, stk, H, nx⟩ (ancG ops F ops.length k want) o.op = some (cnd, m) ∧ (C = true → ∀ p, cnd = some p → p)))
theorem ROK.mono {E : Env} {n : Nat} {ops : List Oper} {Bs : List (List Nat)} {ws : List (Nat × Nat)} {F0 : List (Nat × MV)} {stk : List (List (Nat × MV))} {H : List (Nat × Blk)} {nx : Nat} {recs recs' : List RC} {c : RC}
    (h : ROK E n ops Bs ws F0 stk H nx recs c) (hs : ∀ x ∈ recs, x ∈ recs') : ROK E n ops Bs ws F0 stk H nx recs' c := by
  obtain ⟨o, h1, h2, h3, done, F, h4, h5⟩ := h
  exact ⟨o, h1, h2, h3, done, F, fun x hx => hs x (h4 x hx), h5⟩
def Apart (c c' : RC) : Prop := c.k + c.b.length ≤ c'.k ∨ c'.k + c'.b.length ≤ c.k
theorem drawOps_spec {E : Env} {n : Nat} {ops : List Oper} {Bs : List (List Nat)} {ws : List (Nat × Nat)} {F0 : List (Nat × MV)} {stk : List (List (Nat × MV))} {H : List (Nat × Blk)} {nx nx0 s : Nat} {K : List RC → Prop} :
    ∀ {rest : List Oper} {j cur : Nat} {done : List RC}, drawOps E n ops Bs ws F0 stk H nx j rest cur done K → (∀ k o, rest[k]? = some o → ops[j + k]? = some o) → (∀ c ∈ done, ROK E n ops Bs ws F0 stk H nx done c) →
    (∀ i, s ≤ i → i < j → ∃ c ∈ done, c.i = i) → (∀ c ∈ done, s ≤ c.i ∧ c.i < j) → s ≤ j → (∀ c ∈ done, ∀ c' ∈ done, c.i = c'.i → c = c') → nx0 ≤ cur → (∀ c ∈ done, nx0 ≤ c.k ∧ c.k + c.b.length ≤ cur) → (∀ c ∈ done, ∀ c' ∈ done, c.i ≠ c'.i → Apart c c') →
    ∃ recs, K recs ∧ (∀ c ∈ recs, ROK E n ops Bs ws F0 stk H nx recs c) ∧ (∀ i, s ≤ i → i < j + rest.length → ∃ c ∈ recs, c.i = i) ∧ (∀ c ∈ recs, s ≤ c.i ∧ c.i < j + rest.length) ∧ (∀ c ∈ recs, ∀ c' ∈ recs, c.i = c'.i → c = c') ∧ (∀ c ∈ recs, nx0 ≤ c.k) ∧ ∀ c ∈ recs, ∀ c' ∈ recs, c.i ≠ c'.i → Apart c c'
  | [], j, cur, done, h, hr, hd, hi, hl, hsj, hu, hcur, hk, ha => ⟨done, h, hd, hi, hl, hu, fun c hc => (hk c hc).1, ha⟩
  | o :: r, j, cur, done, h, hr, hd, hi, hl, hsj, hu, hcur, hk, ha => by
    have ho : ops[j]? = some o := by simpa using hr 0 o (by simp)
    unfold drawOps at h
    rw [forceP_eq] at h
    have next : ∀ (c : RC) (cur' : Nat), drawOps E n ops Bs ws F0 stk H nx (j + 1) r cur' (c :: done) K → c.i = j → c.k = cur → cur' = cur + c.b.length → ROK E n ops Bs ws F0 stk H nx (c :: done) c →
        ∃ recs, K recs ∧ (∀ c ∈ recs, ROK E n ops Bs ws F0 stk H nx recs c) ∧ (∀ i, s ≤ i → i < j + (o :: r).length → ∃ c ∈ recs, c.i = i) ∧ (∀ c ∈ recs, s ≤ c.i ∧ c.i < j + (o :: r).length) ∧ (∀ c ∈ recs, ∀ c' ∈ recs, c.i = c'.i → c = c') ∧ (∀ c ∈ recs, nx0 ≤ c.k) ∧ ∀ c ∈ recs, ∀ c' ∈ recs, c.i ≠ c'.i → Apart c c' := by
      intro c cur' hdr hc hck hcur' hok
      subst hcur'
      have := drawOps_spec (nx0 := nx0) (s := s) hdr (fun k o' hk' => by have := hr (k + 1) o' (by simpa using hk'); rw [show j + 1 + k = j + (k + 1) by omega]; exact this)
        (fun x hx => by
          rcases List.mem_cons.1 hx with rfl | hx
          · exact hok
          · exact (hd x hx).mono fun y hy => List.mem_cons_of_mem _ hy)
        (fun i hs hlt => by
          rcases Nat.lt_or_ge i j with h1 | h1
          · obtain ⟨x, hx, e⟩ := hi i hs h1
            exact ⟨x, List.mem_cons_of_mem _ hx, e⟩
          · exact ⟨c, List.mem_cons_self, by omega⟩)
        (fun x hx => by
          rcases List.mem_cons.1 hx with rfl | hx
          · omega
          · have := hl x hx; omega)
        (by omega)
        (fun x hx y hy e => by
          rcases List.mem_cons.1 hx with hx' | hx' <;> rcases List.mem_cons.1 hy with hy' | hy'
          · rw [hx', hy']
          · have := hl y hy'; rw [hx'] at e; omega
          · have := hl x hx'; rw [hy'] at e; omega
          · exact hu x hx' y hy' e)
        (by omega)
        (fun x hx => by
          rcases List.mem_cons.1 hx with rfl | hx
          · omega
          · have := hk x hx; omega)
        (fun x hx y hy e => by
          rcases List.mem_cons.1 hx with hx' | hx' <;> rcases List.mem_cons.1 hy with hy' | hy'
          · rw [hx', hy'] at e; exact absurd rfl e
          · have := hk y hy'; rw [hx']; exact .inr (by omega)
          · have := hk x hx'; rw [hy']; exact .inl (by omega)
          · exact ha x hx' y hy' e)
      obtain ⟨recs, q1, q2, q3, q4, q5, q6, q7⟩ := this
      exact ⟨recs, q1, q2, fun i hs hlt => q3 i hs (by simp at hlt; omega), fun c hc => by have := q4 c hc; simp; omega, q5, q6, q7⟩
    split at h
    · exact h.elim
    · rename_i hdn
      have hdn' : ∀ d, o.dst = some d → d < n := by
        intro d hd'
        unfold dstB at hdn
        rw [hd'] at hdn
        simpa using hdn
      have h := forceF_eq h
      have sub : ∀ (c : RC), ∀ x ∈ done, x ∈ c :: done := fun c x hx => List.mem_cons_of_mem _ hx
      split at h
      · rename_i hg
        split at h
        · rename_i m hp
          split at h
          · rename_i hn
            exact next _ _ h rfl rfl rfl ⟨o, ho, rfl, hdn', done, _, sub _, rfl, .inl ⟨hg, rfl, hn, rfl, _, hp, by simp⟩⟩
          · exact h.elim
        · rename_i p m hp
          split at h
          · rename_i hn
            exact next _ _ h.right rfl rfl rfl ⟨o, ho, rfl, hdn', done, _, sub _, rfl, .inl ⟨hg, rfl, hn, rfl, _, hp, fun q e => by cases e; exact h.left.h⟩⟩
          · exact h.elim
        · split at h
          · exact h.elim
          · rename_i c m blks hp
            split at h
            · exact h.elim
            · rename_i hn
              split at h
              · exact h.elim
              · rename_i hle
                obtain ⟨hc, h⟩ := needO_iff h
                rw [forceP_eq] at h
                exact next _ _ h rfl rfl rfl ⟨o, ho, rfl, hdn', done, _, sub _, rfl, .inr (.inl ⟨hg, rfl, hn, Nat.le_of_ble_eq_true hle, _, m, hp, rfl, hc⟩)⟩
      · rename_i k want hg
        split at h
        · exact h.elim
        · rename_i hin
          have hin := inN_iff.1 hin
          split at h
          · exact h.elim
          · rename_i hc
            split at h
            · rename_i m hp
              split at h
              · rename_i hn
                exact next _ _ h rfl rfl rfl ⟨o, ho, rfl, hdn', done, _, sub _, rfl, .inr (.inr ⟨k, want, hg, hin, rfl, .inl ⟨hc, rfl, hn, _, hp, by simp⟩⟩)⟩
              · exact h.elim
            · rename_i p m hp
              split at h
              · rename_i hn
                exact next _ _ h.right rfl rfl rfl ⟨o, ho, rfl, hdn', done, _, sub _, rfl, .inr (.inr ⟨k, want, hg, hin, rfl, .inl ⟨hc, rfl, hn, _, hp, fun q e => by cases e; exact h.left.h⟩⟩)⟩
              · exact h.elim
            · exact h.elim
          · rename_i hc
            exact next _ _ h rfl rfl rfl ⟨o, ho, rfl, hdn', done, _, sub _, rfl, .inr (.inr ⟨k, want, hg, hin, rfl, .inr (.inl ⟨_, hc, rfl, rfl, rfl⟩)⟩)⟩
          · rename_i C hc
            split at h
            · rename_i m hp
              split at h
              · rename_i hn
                exact next _ _ h rfl rfl rfl ⟨o, ho, rfl, hdn', done, _, sub _, rfl, .inr (.inr ⟨k, want, hg, hin, rfl, .inr (.inr ⟨C, m, hc, rfl, rfl, hn, _, hp, by simp⟩)⟩)⟩
              · exact h.elim
            · rename_i p m hp
              split at h
              · rename_i hn
                exact next _ _ h.right rfl rfl rfl ⟨o, ho, rfl, hdn', done, _, sub _, rfl, .inr (.inr ⟨k, want, hg, hin, rfl, .inr (.inr ⟨C, m, hc, rfl, rfl, hn, _, hp, fun hC q e => by cases e; exact h.left.h hC⟩)⟩)⟩
              · exact h.elim
            · cases C with
              | true => exact (h.1 rfl).elim
              | false => exact next _ _ (h.2 rfl) rfl rfl rfl ⟨o, ho, rfl, hdn', done, _, sub _, rfl, .inr (.inr ⟨k, want, hg, hin, rfl, .inr (.inl ⟨_, hc, rfl, rfl, rfl⟩)⟩)⟩
end Go.Ev
