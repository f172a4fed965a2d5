/-
  Regions whose order is drawn, lists that grow, for every program; no condition.
-/
import Derived.Test.YtbehddngdjfkhaaEvZ
import Derived.LoopN
set_option linter.unusedSimpArgs false
set_option linter.unusedVariables false
namespace Go.Ev
def eT (c : RC) : List TE := match c.e with
  | none => []
  | some e => [e]
def f0F (D : Nat → Bool) (ws : List (Nat × Nat)) : List (Nat × MV) → List (Nat × MV)
  | [] => []
  | (s, m) :: r => match look ws s with
    | none => (s, m) :: f0F D ws r
    | some i => match D i with
      | true => f0F D ws r
      | false => (s, m) :: f0F D ws r
theorem look_f0F {D : Nat → Bool} {ws : List (Nat × Nat)} : ∀ {F : List (Nat × MV)} {s : Nat}, look (f0F D ws F) s = if (∃ i, look ws s = some i ∧ D i = true) then none else look F s
  | [], s => by simp [f0F, look]
  | (k, m) :: r, s => by
    have ih := @look_f0F D ws r s
    by_cases hk : Nat.beq k s = true
    · have hk' := Nat.eq_of_beq_eq_true hk
      subst hk'
      unfold f0F
      split
      · rename_i hl
        have hn : ¬ ∃ i, look ws k = some i ∧ D i = true := by rintro ⟨i, h1, _⟩; rw [hl] at h1; cases h1
        rw [if_neg hn]
        simp [look]
      · rename_i i hl
        split
        · rename_i hD
          rw [ih, if_pos ⟨i, hl, hD⟩, if_pos ⟨i, hl, hD⟩]
        · rename_i hD
          have hn : ¬ ∃ i, look ws k = some i ∧ D i = true := by rintro ⟨i', h1, h2⟩; rw [hl] at h1; cases h1; rw [hD] at h2; cases h2
          rw [if_neg hn]
          simp [look]
    · have hk2 : Nat.beq k s = false := Bool.eq_false_iff.2 hk
      have e1 : ∀ l : List (Nat × MV), look ((k, m) :: l) s = look l s := fun l => by simp only [look, hk2]
      unfold f0F
      rw [e1]
      split
      · rw [e1, ih]
      · split
        · rw [ih]
        · rw [e1, ih]
theorem look_keepF {Bs : List (List Nat)} {ws : List (Nat × Nat)} {j : Nat} : ∀ {F : List (Nat × MV)} {s : Nat} {m : MV}, look (keepF Bs ws j F) s = some m →
    look F s = some m ∧ ∀ i, look ws s = some i → i = j ∨ j ∈ getB Bs i
  | [], s, m, h => by simp [keepF, look] at h
  | (k, x) :: r, s, m, h => by
    by_cases hk : Nat.beq k s = true
    · have hk' := Nat.eq_of_beq_eq_true hk
      subst hk'
      have e2 : ∀ l : List (Nat × MV), look ((k, x) :: l) k = some x := fun l => by simp [look]
      rw [e2]
      have deep : ∀ i, look ws k = some i → i ≠ j → j ∉ getB Bs i → False ∨ look (keepF Bs ws j r) k = some m → False := by
        intro i hi h1 h2 h3
        rcases h3 with h3 | h3
        · exact h3
        · have := (look_keepF h3).2 i hi
          rcases this with e | e
          · exact h1 e
          · exact h2 e
      unfold keepF at h
      split at h
      · rename_i hl
        rw [e2] at h
        exact ⟨h, fun i hi => by rw [hl] at hi; cases hi⟩
      · rename_i i hl
        split at h
        · rename_i hb
          rw [e2] at h
          exact ⟨h, fun i' hi => by rw [hl] at hi; cases hi; exact .inl (Nat.eq_of_beq_eq_true hb)⟩
        · rename_i hb
          split at h
          · rename_i hin
            rw [e2] at h
            exact ⟨h, fun i' hi => by rw [hl] at hi; cases hi; exact .inr (inN_iff.1 hin)⟩
          · rename_i hin
            exfalso
            refine deep i hl (by intro e; subst e; simp at hb) (fun e => by rw [inN_iff.2 e] at hin; cases hin) (.inr h)
    · have hk2 : Nat.beq k s = false := Bool.eq_false_iff.2 hk
      have e1 : ∀ l : List (Nat × MV), look ((k, x) :: l) s = look l s := fun l => by simp only [look, hk2]
      rw [e1]
      unfold keepF at h
      split at h
      · rw [e1] at h; exact look_keepF h
      · split at h
        · rw [e1] at h; exact look_keepF h
        · split at h
          · rw [e1] at h; exact look_keepF h
          · exact look_keepF h
theorem look_addF {B : List Nat} : ∀ {done : List RC} {F : List (Nat × MV)} {s : Nat} {m : MV}, look (addF B done F) s = some m → (∃ c ∈ done, c.d = some s ∧ c.i ∈ B ∧ c.m = m) ∨ look F s = some m
  | [], F, s, m, h => .inr h
  | c :: r, F, s, m, h => by
    unfold addF at h
    have up : (∃ c ∈ r, c.d = some s ∧ c.i ∈ B ∧ c.m = m) ∨ look F s = some m → (∃ x ∈ c :: r, x.d = some s ∧ x.i ∈ B ∧ x.m = m) ∨ look F s = some m := by
      rintro (⟨x, hx, e⟩ | e)
      · exact .inl ⟨x, List.mem_cons_of_mem _ hx, e⟩
      · exact .inr e
    split at h
    · exact up (look_addF h)
    · rename_i d hd
      split at h
      · rename_i hin
        simp only [look] at h
        split at h
        · rename_i hb
          have := Nat.eq_of_beq_eq_true hb
          subst this
          cases h
          exact .inl ⟨c, List.mem_cons_self, hd, inN_iff.1 hin, rfl⟩
        · exact up (look_addF h)
      · exact up (look_addF h)
theorem mem_tabT {B : List Nat} : ∀ {done : List RC} {e : TE}, e ∈ tabT B done ↔ ∃ c ∈ done, c.e = some e ∧ c.i ∈ B
  | [], e => by simp [tabT]
  | c :: r, e => by
    have ih := @mem_tabT B r e
    unfold tabT
    split
    · rename_i hn
      rw [ih]
      constructor
      · rintro ⟨x, hx, q⟩; exact ⟨x, List.mem_cons_of_mem _ hx, q⟩
      · rintro ⟨x, hx, q1, q2⟩
        rcases List.mem_cons.1 hx with rfl | hx
        · rw [hn] at q1; cases q1
        · exact ⟨x, hx, q1, q2⟩
    · rename_i e' he
      split
      · rename_i hin
        constructor
        · intro h
          rcases List.mem_cons.1 h with rfl | h
          · exact ⟨c, List.mem_cons_self, he, inN_iff.1 hin⟩
          · obtain ⟨x, hx, q⟩ := ih.1 h
            exact ⟨x, List.mem_cons_of_mem _ hx, q⟩
        · rintro ⟨x, hx, q1, q2⟩
          rcases List.mem_cons.1 hx with rfl | hx
          · rw [he] at q1; cases q1; exact List.mem_cons_self
          · exact List.mem_cons_of_mem _ (ih.2 ⟨x, hx, q1, q2⟩)
      · rename_i hin
        rw [ih]
        constructor
        · rintro ⟨x, hx, q⟩; exact ⟨x, List.mem_cons_of_mem _ hx, q⟩
        · rintro ⟨x, hx, q1, q2⟩
          rcases List.mem_cons.1 hx with rfl | hx
          · rw [inN_iff.2 q2] at hin; cases hin
          · exact ⟨x, hx, q1, q2⟩
theorem lookT_of_mem : ∀ {tb : List TE} {e : TE}, e ∈ tb → ∃ c, lookT tb e.j e.want = some c
  | [], e, h => by cases h
  | x :: r, e, h => by
    unfold lookT
    split
    · split
      · exact ⟨_, rfl⟩
      · rename_i hj hw
        rcases List.mem_cons.1 h with rfl | h
        · have : eqB e.want e.want = true := by cases e.want <;> rfl
          rw [this] at hw; cases hw
        · exact lookT_of_mem h
    · rename_i hj
      rcases List.mem_cons.1 h with rfl | h
      · have : Nat.beq e.j e.j = true := by simp
        rw [this] at hj; cases hj
      · exact lookT_of_mem h
theorem gOf_incl {ops : List Oper} {l tb : List TE} {a : Act} (h1 : TOK ops l a) (h2 : TOK ops tb a) (hs : ∀ e ∈ l, e ∈ tb) : ∀ j want C, gOf l j want = some C → gOf tb j want = some C := by
  intro j want C hC
  unfold gOf at hC ⊢
  cases hl : lookT l j want with
  | none => rw [hl] at hC; cases hC
  | some c =>
    rw [hl] at hC
    obtain ⟨e, he, rfl, rfl, rfl⟩ := lookT_mem hl
    obtain ⟨c', hc'⟩ := lookT_of_mem (hs e he)
    obtain ⟨e', he', q1, q2, q3⟩ := lookT_mem hc'
    have a1 := (h1 e he).2
    have a2 := (h2 e' he').2
    rw [q1, q2, a1, q3] at a2
    rw [hc']
    simp only [Option.map_some, Option.some.injEq] at hC ⊢
    rw [← hC, a2]
/-! ### Frames set aside -/
theorem stk_append {w : World} {ρ : RhoT} {ok : OkT} : ∀ {Fs Fs' : List (List (Nat × MV))} {as as' : List Act} {Gs Gs' : List GT}, Fs.length = as.length → Fs.length = Gs.length →
    (StkOK w ρ ok (Fs ++ Fs') (as ++ as') (Gs ++ Gs') ↔ StkOK w ρ ok Fs as Gs ∧ StkOK w ρ ok Fs' as' Gs')
  | [], Fs', [], as', [], Gs', _, _ => by simp [StkOK]
  | F :: Fs, Fs', a :: as, as', G :: Gs, Gs', h1, h2 => by
    have ih := @stk_append w ρ ok Fs Fs' as as' Gs Gs' (by simpa using h1) (by simpa using h2)
    simp only [List.cons_append, StkOK, ih, and_assoc]
  | [], Fs', a :: as, as', Gs, Gs', h1, h2 => by simp at h1
  | [], Fs', [], as', G :: Gs, Gs', h1, h2 => by simp at h2
  | F :: Fs, Fs', [], as', Gs, Gs', h1, h2 => by simp at h1
  | F :: Fs, Fs', a :: as, as', [], Gs', h1, h2 => by simp at h2
def vF (D : Nat → Bool) : List RC → List (List (Nat × MV))
  | [] => []
  | c :: r => (match D c.i, c.d with
    | true, some d => [(d, c.m)]
    | _, _ => []) :: vF D r
def vA (a : Act) : List RC → List Act
  | [] => []
  | _ :: r => a :: vA a r
def vG : List RC → List GT
  | [] => []
  | c :: r => gOf (eT c) :: vG r
theorem v_len (D : Nat → Bool) (a : Act) : ∀ l : List RC, (vF D l).length = (vA a l).length ∧ (vF D l).length = (vG l).length
  | [] => by simp [vF, vA, vG]
  | c :: r => by have := v_len D a r; simp [vF, vA, vG, this.1, ← this.2]
def Held (w : World) (ρ : RhoT) (ok : OkT) (a : Act) (D : Nat → Bool) (l : List RC) : Prop :=
  ∀ c ∈ l, D c.i = true → ∀ d, c.d = some d → ∃ v, a.tmps[d]? = some v ∧ Rep w (gOf (eT c)) ρ ok c.m v
theorem held_stk {w : World} {ρ : RhoT} {ok : OkT} {a : Act} {D : Nat → Bool} : ∀ {l : List RC}, Held w ρ ok a D l ↔ StkOK w ρ ok (vF D l) (vA a l) (vG l)
  | [] => by simp [Held, vF, vA, vG, StkOK]
  | c :: r => by
    have ih := @held_stk w ρ ok a D r
    simp only [vF, vA, vG, StkOK, ← ih]
    constructor
    · intro h
      refine ⟨?_, fun x hx => h x (List.mem_cons_of_mem _ hx)⟩
      intro s m hs
      split at hs
      · rename_i d hD hd
        simp only [look] at hs
        split at hs
        · rename_i hb
          have := Nat.eq_of_beq_eq_true hb
          subst this
          cases hs
          exact h c List.mem_cons_self hD _ hd
        · cases hs
      · simp [look] at hs
    · rintro ⟨h1, h2⟩ x hx hD d hd
      rcases List.mem_cons.1 hx with rfl | hx
      · refine h1 d x.m ?_
        rw [hD, hd]
        simp [look]
      · exact h2 x hx hD d hd
end Go.Ev

namespace Go.Ev
theorem writers_spec : ∀ {l : List Oper} {k : Nat}, nodupW (writers l k) = true → ∀ i o d, l[i]? = some o → o.dst = some d → look (writers l k) d = some (k + i)
  | [], k, h, i, o, d, hi, hd => by simp at hi
  | x :: r, k, h, i, o, d, hi, hd => by
    unfold writers at h ⊢
    cases hx : x.dst with
    | none =>
      simp only [hx] at h ⊢
      cases i with
      | zero => simp at hi; subst hi; rw [hx] at hd; cases hd
      | succ i =>
        have := writers_spec h i o d (by simpa using hi) hd
        rw [this]; congr 1; omega
    | some d0 =>
      simp only [hx] at h ⊢
      unfold nodupW at h
      split at h
      · rename_i hn
        cases i with
        | zero =>
          simp at hi; subst hi
          rw [hx] at hd; cases hd
          simp [look]
        | succ i =>
          have := writers_spec h i o d (by simpa using hi) hd
          have hne : Nat.beq d0 d = false := by
            cases hb : Nat.beq d0 d
            · rfl
            · have := Nat.eq_of_beq_eq_true hb
              subst this
              rw [hn] at this
              cases this
          simp only [look, hne]
          rw [this]; congr 1; omega
      · cases h
end Go.Ev

namespace Go.Ev
section
variable {E : Env} {n : Nat} {ops : List Oper} {Bs : List (List Nat)} {F0 : List (Nat × MV)} {stk : List (List (Nat × MV))} {H : List (Nat × Blk)} {nx : Nat} {recs : List RC} {cx : Cx} {su : Sus}
def bD (D : Nat → Bool) : List RC → List (Nat × Blk) → List (Nat × Blk)
  | [], H => H
  | c :: r, H => match D c.i with
    | true => newH c.k 0 c.b (bD D r H)
    | false => bD D r H
def inC (c : RC) (j : Nat) : Prop := c.k ≤ j ∧ j < c.k + c.b.length
theorem look_bD_out {D : Nat → Bool} {H : List (Nat × Blk)} {j : Nat} : ∀ {l : List RC}, (∀ c ∈ l, D c.i = true → ¬ inC c j) → look (bD D l H) j = look H j
  | [], _ => rfl
  | c :: r, h => by
    have ih := look_bD_out (H := H) (l := r) fun x hx => h x (List.mem_cons_of_mem _ hx)
    unfold bD
    split
    · rename_i hD
      rw [look_newH_out (by have := h c List.mem_cons_self hD; unfold inC at this; simpa using this)]
      exact ih
    · exact ih
theorem look_bD_in {D : Nat → Bool} {H : List (Nat × Blk)} {j : Nat} {c : RC} : ∀ {l : List RC}, c ∈ l → D c.i = true → inC c j → (∀ c' ∈ l, D c'.i = true → inC c' j → c' = c) → look (bD D l H) j = (c.b[j - c.k]?).map (shiftB c.k)
  | [], h, _, _, _ => by cases h
  | x :: r, h, hc, hj, hu => by
    unfold bD
    by_cases e : x = c
    · subst e
      rw [hc]
      dsimp only
      rw [look_newH_in (by simpa using hj.1) (by simpa using hj.2)]
      rfl
    · have hr : c ∈ r := (List.mem_cons.1 h).resolve_left (Ne.symm e)
      have ih := look_bD_in (H := H) hr hc hj fun c' hc' => hu c' (List.mem_cons_of_mem _ hc')
      split
      · rename_i hx
        rw [look_newH_out]
        · exact ih
        · intro hin
          exact e (hu x List.mem_cons_self hx (by unfold inC; simpa using hin))
      · exact ih
def InvD (ops : List Oper) (ws : List (Nat × Nat)) (F0 : List (Nat × MV)) (stk : List (List (Nat × MV))) (H : List (Nat × Blk)) (nx : Nat) (recs : List RC) (cx : Cx) (su : Sus) (n : Nat) (D : Nat → Bool) (a : Act) (w : World) : Prop :=
  ∃ ρ, SatR cx su n G0 ⟨f0F D ws F0, stk, bD D recs H, nx⟩ a w ρ ∧ Held w ρ (okS cx ρ w) a D recs ∧ (∀ c ∈ recs, D c.i = true → TOK ops (eT c) a) ∧ ∀ c ∈ recs, D c.i = false → ∀ j, inC c j → ρ j = none
theorem SatR.lookH {cx : Cx} {su : Sus} {n : Nat} {G : GT} {F : List (Nat × MV)} {stk : List (List (Nat × MV))} {H H' : List (Nat × Blk)} {nx : Nat} {a : Act} {w : World} {ρ : RhoT} (h : SatR cx su n G ⟨F, stk, H, nx⟩ a w ρ) (hH : ∀ j, look H' j = look H j) : SatR cx su n G ⟨F, stk, H', nx⟩ a w ρ :=
  ⟨⟨h.W.below, h.W.inj, h.W.rng, fun id b hl => h.W.hlt id b (by rw [← hH]; exact hl), h.W.nx, fun id b hl => h.W.blocks id b (by rw [← hH]; exact hl), h.W.okA⟩, h.F, h.K⟩
def addD (D : Nat → Bool) (i : Nat) : Nat → Bool := fun k => match Nat.beq k i with
  | true => true
  | false => D k
theorem addD_iff {D : Nat → Bool} {i k : Nat} : addD D i k = true ↔ k = i ∨ D k = true := by
  unfold addD
  split
  · rename_i h; have := Nat.eq_of_beq_eq_true h; simp [this]
  · rename_i h
    have : k ≠ i := by intro e; subst e; simp at h
    simp [this]
theorem put_ne {a : Act} {o : Option Nat} {v : Value} {s : Nat} (h : ∀ d, o = some d → d ≠ s) : (a.put o v).tmps[s]? = a.tmps[s]? := by
  cases o with
  | none => rfl
  | some d => simp [Act.put, Array.getElem?_setIfInBounds_ne (h d rfl)]
theorem draw_step (hE : EnvAll E) (hBs : allB ops [] = some Bs) {ws : List (Nat × Nat)} (hnd : nodupW (writers ops 0) = true) (hws : ∀ d i, look ws d = some i → i < ops.length) {F1 : List (Nat × MV)} (hF1 : ∀ s m, look F1 s = some m → look F0 s = some m) (hrec : ∀ c ∈ recs, ROK E n ops Bs ws F1 stk H nx recs c) (huni : ∀ c ∈ recs, ∀ c' ∈ recs, c.i = c'.i → c = c') {nx0 : Nat} (hHlt : ∀ j b, look H j = some b → j < nx0) (hk0 : ∀ c ∈ recs, nx0 ≤ c.k) (hap : ∀ c ∈ recs, ∀ c' ∈ recs, c.i ≠ c'.i → Apart c c')
    {D : Nat → Bool} {a : Act} {w : World} (hI : InvD ops ws F0 stk H nx recs cx su n D a w) (hD : ∀ k o, ops[k]? = some o → D k = true → ∀ e ∈ edgesL o.after.toList, D e = true)
    {c : RC} (hc : c ∈ recs) (hwc : ∀ o d, ops[c.i]? = some o → o.dst = some d → look ws d = some c.i) (hcD : D c.i = false) (hce : ∀ o, ops[c.i]? = some o → ∀ e ∈ edgesL o.after.toList, D e = true) {K : Act → World → Prop} {Q : Exit → Act → World → Prop}
    (hK : ∀ a' w', InvD ops ws F0 stk H nx recs cx su n (addD D c.i) a' w' → K a' w') : wpOp E.P ops.toArray Q c.i K a w := by
  obtain ⟨ρ, hS, hH, hT, hR⟩ := hI
  have hone : ∀ c ∈ recs, ∀ c' ∈ recs, ∀ j, inC c j → inC c' j → c' = c := by
    intro c hc c' hc' j h1 h2
    by_cases e : c'.i = c.i
    · exact huni c' hc' c hc e
    · have := hap c' hc' c hc e
      unfold inC at h1 h2
      unfold Apart at this
      omega
  have hHD : ∀ j b, look H j = some b → look (bD D recs H) j = some b := by
    intro j b hj
    rw [look_bD_out]
    · exact hj
    · intro c hc _ hin
      have := hHlt j b hj
      have := hk0 c hc
      unfold inC at hin
      omega
  have hadd : ∀ j, look (bD (addD D c.i) recs H) j = look (newH c.k 0 c.b (bD D recs H)) j := by
    intro j
    by_cases hin : inC c j
    · rw [look_bD_in hc (addD_iff.2 (.inl rfl)) hin fun c' hc' _ h2 => hone c hc c' hc' j hin h2, look_newH_in (by simpa using hin.1) (by simpa using hin.2)]
      rfl
    · rw [look_newH_out (by unfold inC at hin; simpa using hin)]
      by_cases hx : ∃ c' ∈ recs, D c'.i = true ∧ inC c' j
      · obtain ⟨c', hc', hD', hj'⟩ := hx
        rw [look_bD_in hc' (addD_iff.2 (.inr hD')) hj' fun c2 hc2 _ h2 => hone c' hc' c2 hc2 j hj' h2, look_bD_in hc' hD' hj' fun c2 hc2 _ h2 => hone c' hc' c2 hc2 j hj' h2]
      · rw [look_bD_out, look_bD_out]
        · intro c' hc' h1 h2; exact hx ⟨c', hc', h1, h2⟩
        · intro c' hc' h1 h2
          rcases addD_iff.1 h1 with e | h1
          · have := huni c' hc' c hc e
            subst this
            exact hin h2
          · exact hx ⟨c', hc', h1, h2⟩
  obtain ⟨o, ho, hd, hdn, done, F, hsub, hF, hcase⟩ := hrec c hc
  have hB : ∀ i ∈ getB Bs c.i, D i = true := B_sub (D := fun k => D k = true) hBs hD c.i o ho (hce o ho)
  have hW := fun i (o : Oper) d (h1 : ops[i]? = some o) (h2 : o.dst = some d) => by simpa using writers_spec hnd i o d h1 h2
  -- the table
  have hTt : TOK ops (tabT (getB Bs c.i) done) a := by
    intro e he
    obtain ⟨c', h1, h2, h3⟩ := mem_tabT.1 he
    exact hT c' (hsub _ h1) (hB _ h3) e (by simp [eT, h2])
  -- the frame
  have hFr : FrOK w (gOf (tabT (getB Bs c.i) done)) ρ (okS cx ρ w) F a := by
    intro s m hs
    rw [hF] at hs
    rcases look_addF hs with ⟨c', h1, h2, h3, rfl⟩ | hs
    · obtain ⟨v, hv, r⟩ := hH c' (hsub _ h1) (hB _ h3) s h2
      refine ⟨v, hv, r.mono (Keeps.refl w) (gOf_incl (hT c' (hsub _ h1) (hB _ h3)) hTt ?_) (fun _ _ e => e) (fun b hb => ⟨hb, rfl⟩)⟩
      intro e he
      refine mem_tabT.2 ⟨c', h1, ?_, h3⟩
      unfold eT at he
      split at he
      · cases he
      · rename_i e' he'
        simp at he
        rw [he', he]
    · obtain ⟨h1, h2⟩ := look_keepF hs
      have h1 := hF1 s m h1
      have hl : look (f0F D ws F0) s = some m := by
        rw [look_f0F, if_neg]
        · exact h1
        · rintro ⟨i, q1, q2⟩
          rcases h2 i q1 with rfl | h2
          · rw [hcD] at q2; cases q2
          · have hio : ∃ oi, ops[i]? = some oi := by
              have hlt : i < ops.length := hws _ _ q1
              exact ⟨ops[i], List.getElem?_eq_getElem hlt⟩
            obtain ⟨oi, hoi⟩ := hio
            have := B_sub (D := fun k => D k = true) hBs hD i oi hoi (hD i oi hoi q2) c.i h2
            rw [hcD] at this; cases this
      obtain ⟨v, hv, r⟩ := hS.F.frame s m hl
      exact ⟨v, hv, r.mono (Keeps.refl w) (fun _ _ _ e => by simp [G0] at e) (fun _ _ e => e) (fun b hb => ⟨hb, rfl⟩)⟩
  have hlen := v_len D a recs
  have hSat : SatR cx ⟨(a :: vA a recs) ++ su.as, (G0 :: vG recs) ++ su.Gs⟩ n (gOf (tabT (getB Bs c.i) done)) ⟨F, (f0F D ws F0 :: vF D recs) ++ stk, bD D recs H, nx⟩ a w ρ :=
    ⟨hS.W, ⟨hS.F.defers, hS.F.size, hFr⟩, (stk_append (by simp [hlen.1]) (by simp [← hlen.2])).2 ⟨⟨hS.F.frame, held_stk.1 hH⟩, hS.K⟩⟩
  have tokKeep : ∀ v, ∀ c' ∈ recs, D c'.i = true → TOK ops (eT c') (a.put o.dst v) := by
    intro v c' hc' hD' e he
    obtain ⟨t1, t2⟩ := hT c' hc' hD' e he
    refine ⟨t1, ?_⟩
    rw [yielded_dst t1] at t2 ⊢
    rw [put_ne]
    · exact t2
    · intro d hod hde
      subst hde
      -- the guard's operation has been done, this one has not
      obtain ⟨o', ho', _, _, done', F', _, _, hcase'⟩ := hrec c' hc'
      have hj : D e.j = true := by
        have hB' : ∀ i ∈ getB Bs c'.i, D i = true := B_sub (D := fun k => D k = true) hBs hD c'.i o' ho' (hD c'.i o' ho' hD')
        unfold eT at he
        rcases hcase' with ⟨_, h2, _⟩ | ⟨_, h2, _⟩ | ⟨k, want, _, hk, _, hh⟩
        · rw [h2] at he; cases he
        · rw [h2] at he; cases he
        · rcases hh with ⟨_, h2, _⟩ | ⟨_, _, _, h2, _⟩ | ⟨C, m, _, h2, _⟩
          · rw [h2] at he; cases he
          · rw [h2] at he; cases he
          · rw [h2] at he
            simp at he
            subst he
            exact hB' k hk
      have hoj : ∃ oj, ops[e.j]? = some oj ∧ oj.dst = some e.d := by
        unfold dstOf at t1
        rw [nthO_eq] at t1
        cases hq : ops[e.j]? with
        | none => rw [hq] at t1; cases t1
        | some oj => rw [hq] at t1; exact ⟨oj, rfl, t1⟩
      obtain ⟨oj, h1, h2⟩ := hoj
      have a1 := hW _ _ _ h1 h2
      have a2 := hW _ _ _ ho hod
      rw [a1] at a2
      have : e.j = c.i := by simpa using a2
      rw [this, hcD] at hj; cases hj
  have fin : ∀ v w' ρ', SatR cx ⟨(a :: vA a recs) ++ su.as, (G0 :: vG recs) ++ su.Gs⟩ n (gOf (tabT (getB Bs c.i) done)) ⟨F, (f0F D ws F0 :: vF D recs) ++ stk, newH c.k 0 c.b (bD D recs H), nx⟩ a w' ρ' → (∀ j, ¬ inC c j → ρ' j = ρ j) →
      (∀ d, c.d = some d → Rep w' (gOf (eT c)) ρ' (okS cx ρ' w') c.m v) → TOK ops (eT c) (a.put o.dst v) → InvD ops ws F0 stk H nx recs cx su n (addD D c.i) (a.put o.dst v) w' := by
    intro v w' ρ' h' hρ hr ht
    obtain ⟨⟨k1, k2⟩, k3⟩ := (stk_append (by simp [hlen.1]) (by simp [← hlen.2])).1 h'.K
    have k2 := held_stk.2 k2
    refine ⟨ρ', SatR.lookH (H := newH c.k 0 c.b (bD D recs H)) ⟨h'.W, ⟨by cases o.dst <;> exact h'.F.defers, by cases o.dst <;> simpa [Act.put] using h'.F.size, ?_⟩, k3⟩ hadd, ?_, ?_, ?_⟩
    · intro s m hs
      dsimp only at hs
      rw [look_f0F] at hs
      split at hs
      · cases hs
      · rename_i hno
        have hl : look (f0F D ws F0) s = some m := by
          rw [look_f0F, if_neg]
          · exact hs
          · rintro ⟨i, q1, q2⟩
            exact hno ⟨i, q1, addD_iff.2 (.inr q2)⟩
        obtain ⟨v0, hv0, r0⟩ := k1 s m hl
        refine ⟨v0, ?_, r0⟩
        rw [put_ne]
        · exact hv0
        · intro d hod hds
          subst hds
          exact hno ⟨c.i, hwc _ _ ho hod, addD_iff.2 (.inl rfl)⟩
    · intro c' hc' hD' d hd'
      by_cases he : c'.i = c.i
      · obtain rfl := huni c' hc' c hc he
        refine ⟨v, ?_, hr d hd'⟩
        rw [hd] at hd'
        rw [hd']
        have hlt : d < a.tmps.size := by rw [h'.F.size]; exact hdn d hd'
        simp [Act.put, hlt]
      · have hD2 : D c'.i = true := (addD_iff.1 hD').resolve_left he
        obtain ⟨v0, hv0, r0⟩ := k2 c' hc' hD2 d hd'
        refine ⟨v0, ?_, r0⟩
        rw [put_ne]
        · exact hv0
        · intro d2 hod hds
          subst hds
          obtain ⟨o', ho', hd2, _⟩ := hrec c' hc'
          have a1 := hW _ _ _ ho' (by rw [← hd2]; exact hd')
          have a2 := hW _ _ _ ho hod
          rw [a1] at a2
          exact he (by simpa using a2)
    · intro c' hc' hD'
      by_cases he : c'.i = c.i
      · obtain rfl := huni c' hc' c hc he
        exact ht
      · exact tokKeep v c' hc' ((addD_iff.1 hD').resolve_left he)
    · intro c' hc' hD' j hj
      have hne : c'.i ≠ c.i := by
        intro e
        have : addD D c.i c'.i = true := addD_iff.2 (.inl e)
        rw [hD'] at this; cases this
      have hDf : D c'.i = false := by
        cases hq : D c'.i
        · rfl
        · have : addD D c.i c'.i = true := addD_iff.2 (.inr hq)
          rw [hD'] at this; cases this
      rw [hρ j ?_]
      · exact hR c' hc' hDf j hj
      · intro h2
        have := hone c hc c' hc' j h2 hj
        subst this
        exact hne rfl
  have hop : ops.toArray[c.i]? = some o := by simpa using ho
  unfold wpOp
  rw [hop]
  dsimp only
  have pureStep : ∀ {g : List (Nat × Bool)} {cnd : Option Prop} {m : MV}, c.b = [] → Holds (gOf (tabT (getB Bs c.i) done)) g → evPure E ops ⟨F, stk, H, nx⟩ g o.op = some (cnd, m) → (∀ p, cnd = some p → p) →
      (∀ v w' ρ', Rep w' (gOf (tabT (getB Bs c.i) done)) ρ' (okS cx ρ' w') m v → (∀ d, c.d = some d → Rep w' (gOf (eT c)) ρ' (okS cx ρ' w') c.m v) ∧ TOK ops (eT c) (a.put o.dst v)) → o.wp E.P a w K Q := by
    intro g cnd m hb hg hp hcnd hfin
    refine evPure_sound2 hE hSat hTt hg (evPure_H hHD hp) hcnd o rfl fun v w' ρ' h' r hρ => hK _ _ (fin v w' ρ' ?_ (fun j _ => hρ j) (hfin v w' ρ' r).1 (hfin v w' ρ' r).2)
    rw [hb]; exact h'
  rcases hcase with ⟨hg, hce', hno, hb0, cnd, hp, hcnd⟩ | ⟨hg, hce', hno, hfit, cnd, m0, hp, hm0, hcnd⟩ | ⟨k, want, hg, hk, hb0, hh⟩
  · rw [if_pos (by simp [Region.wanted, hg])]
    left
    refine pureStep hb0 (by intro x hx; cases hx) hp hcnd fun v w' ρ' r => ⟨fun d _ => noGd_spec hno r, ?_⟩
    intro e he
    unfold eT at he; rw [hce'] at he; cases he
  · rw [if_pos (by simp [Region.wanted, hg])]
    left
    refine evFresh_sound hE hSat (by intro x hx; cases hx) (evFresh_H hHD hp) hcnd o rfl (base := c.k) (fun j h1 h2 => hR c hc hcD j ⟨h1, h2⟩) hfit fun v w' ρ' h' r hρ => hK _ _ (fin v w' ρ' h' (fun j hj => hρ j hj) (fun d _ => ?_) ?_)
    · rw [hm0] at hno ⊢
      exact noGd_spec hno r
    · intro e he
      unfold eT at he; rw [hce'] at he; cases he
  · rcases hh with ⟨hco, hce', hno, cnd, hp, hcnd⟩ | ⟨cb, hco, hcb, hce', hm⟩ | ⟨C, m, hco, hce', hm, hno, cnd, hp, hcnd⟩
    · have hcv := condOf_sound hco hFr hTt
      rw [if_pos (by simp only [Region.wanted, hg]; exact hcv)]
      left
      refine pureStep hb0 (ancG_holds hFr hTt (by simpa [CB.val] using hcv)) hp hcnd fun v w' ρ' r => ⟨fun d _ => noGd_spec hno r, ?_⟩
      intro e he
      unfold eT at he; rw [hce'] at he; cases he
    · have hcv := condOf_sound hco hFr hTt
      rw [if_neg (by simp only [Region.wanted, hg]; rw [hcv, hcb]; simp)]
      refine hK _ _ (fin undef w ρ (by rw [hb0]; exact hSat) (fun _ _ => rfl) (fun d _ => by rw [hm]; exact .x _) ?_)
      intro e he
      unfold eT at he; rw [hce'] at he; cases he
    · have hcv := condOf_sound hco hFr hTt
      obtain ⟨dk, hdk⟩ := condOf_dst hco hTt
      have hgo : gOf (eT c) k want = some C := by
        unfold eT; rw [hce']; exact gOf_head
      -- the guard's slot is not this operation's
      have tokc : ∀ v, TOK ops (eT c) (a.put o.dst v) := by
        intro v e he
        unfold eT at he; rw [hce'] at he
        simp at he
        subst he
        refine ⟨by simp [dOf, hdk], ?_⟩
        dsimp only
        rw [yielded_dst hdk] at hcv ⊢
        rw [put_ne]
        · exact hcv
        · intro d hod hds
          subst hds
          have hoj : ∃ oj, ops[k]? = some oj ∧ oj.dst = some d := by
            unfold dstOf at hdk
            rw [nthO_eq] at hdk
            cases hq : ops[k]? with
            | none => rw [hq] at hdk; cases hdk
            | some oj => rw [hq] at hdk; exact ⟨oj, rfl, hdk⟩
          obtain ⟨oj, h1, h2⟩ := hoj
          have a1 := hW _ _ _ h1 h2
          have a2 := hW _ _ _ ho hod
          rw [a1] at a2
          have e : k = c.i := by simpa using a2
          have := hB k hk
          rw [e, hcD] at this; cases this
      cases C with
      | true =>
        rw [if_pos (by simp only [Region.wanted, hg]; exact hcv)]
        left
        refine pureStep hb0 (ancG_holds hFr hTt (by simpa [CB.val] using hcv)) hp (hcnd rfl) fun v w' ρ' r => ⟨fun d _ => ?_, tokc v⟩
        rw [hm]
        exact .gd k want m v true hgo (fun _ => noGd_spec hno r) (by simp)
      | false =>
        rw [if_neg (by simp only [Region.wanted, hg]; rw [hcv]; simp [CB.val])]
        refine hK _ _ (fin undef w ρ (by rw [hb0]; exact hSat) (fun _ _ => rfl) (fun d _ => ?_) (tokc undef))
        rw [hm]
        exact .gd k want m undef false hgo (by simp) (fun _ => rfl)
end
end Go.Ev

namespace Go.Ev
section
variable {E : Env} {n : Nat} {ops : List Oper} {Bs : List (List Nat)} {F0 : List (Nat × MV)} {stk : List (List (Nat × MV))} {H : List (Nat × Blk)} {nx : Nat} {recs : List RC} {cx : Cx} {su : Sus}
theorem getD_eq {l : Array Bool} {i : Nat} (h : i < l.size) : l.getD i true = l.getD i false := by
  simp [Array.getD_eq_getD_getElem?, Array.getElem?_eq_getElem h]
theorem addD_set {l : Array Bool} {i : Nat} (h : i < l.size) : (fun k => (l.setIfInBounds i true).getD k false) = addD (fun k => l.getD k false) i := by
  funext k
  unfold addD
  split
  · rename_i e
    have := Nat.eq_of_beq_eq_true e
    subst this
    simp [Array.getD_eq_getD_getElem?, h]
  · rename_i e
    have : i ≠ k := by intro e'; subst e'; simp at e
    rw [getD_set_ne false this]
def covUp (l : List Nat) : Nat → Nat → Nat
  | 0, i => i
  | f + 1, i => match inN l i with
    | true => covUp l f (i + 1)
    | false => i
theorem covUp_spec {l : List Nat} : ∀ {f i : Nat}, i ≤ covUp l f i ∧ ∀ j, i ≤ j → j < covUp l f i → j ∈ l
  | 0, i => ⟨Nat.le_refl _, fun j h1 h2 => by simp [covUp] at h2; omega⟩
  | f + 1, i => by
    unfold covUp
    split
    · rename_i h
      obtain ⟨h1, h2⟩ := @covUp_spec l f (i + 1)
      refine ⟨by omega, fun j hj hlt => ?_⟩
      rcases Nat.lt_or_ge i j with h3 | h3
      · exact h2 j h3 hlt
      · have : j = i := by omega
        subst this
        exact inN_iff.1 h
    · exact ⟨Nat.le_refl _, fun j h1 h2 => by omega⟩
def covs : List (List Nat) → List Nat
  | [] => []
  | l :: r => covUp l 4096 0 :: covs r
theorem covs_get : ∀ {Bs : List (List Nat)} {k : Nat}, k < Bs.length → (covs Bs)[k]? = some (covUp (getB Bs k) 4096 0)
  | [], k, h => by simp at h
  | l :: r, 0, h => rfl
  | l :: r, k + 1, h => by
    have := covs_get (Bs := r) (k := k) (by simpa using h)
    simpa [covs, getB] using this
def allGe (q : Nat) : List Nat → Bool
  | [] => true
  | c :: r => match Nat.ble q c with
    | true => allGe q r
    | false => false
theorem allGe_spec {q : Nat} : ∀ {l : List Nat}, allGe q l = true → ∀ (k c : Nat), l[k]? = some c → q ≤ c
  | [], _, k, c, h => by simp at h
  | x :: r, h, k, c, hc => by
    unfold allGe at h
    split at h
    · rename_i h1
      cases k with
      | zero => simp at hc; subst hc; exact Nat.le_of_ble_eq_true h1
      | succ k => exact allGe_spec h k c (by simpa using hc)
    · cases h
def isCut (cs : List Nat) (q : Nat) : Bool := allGe q (cs.drop q)
def Cut (Bs : List (List Nat)) (len q : Nat) : Prop := ∀ k, q ≤ k → k < len → ∀ i, i < q → i ∈ getB Bs k
theorem isCut_spec {Bs : List (List Nat)} {q : Nat} (h : isCut (covs Bs) q = true) : Cut Bs Bs.length q := by
  intro k hk hlt i hi
  have h1 := covs_get hlt
  have h2 : ((covs Bs).drop q)[k - q]? = some (covUp (getB Bs k) 4096 0) := by
    rw [List.getElem?_drop, show q + (k - q) = k by omega]; exact h1
  have h3 := allGe_spec h _ _ h2
  exact (covUp_spec (l := getB Bs k) (f := 4096) (i := 0)).2 i (Nat.zero_le _) (by omega)
def nextCut (cs : List Nat) : Nat → Nat → Nat
  | 0, q => q
  | f + 1, q => match isCut cs q with
    | true => q
    | false => nextCut cs f (q + 1)
def gEnd (cs : List Nat) (len s : Nat) : Nat := match isCut cs (s + 1) with
  | true => s
  | false => nextCut cs len (s + 2)
def rowEnd (cs : List Nat) (len : Nat) : Nat → Nat → Nat
  | 0, r => r
  | f + 1, r => match Nat.blt r len with
    | false => r
    | true => match isCut cs (r + 1) with
      | true => rowEnd cs len f (r + 1)
      | false => r
def gdd (ops : List Oper) (k : Nat) : Bool := match ops[k]? with
  | some o => match o.guard with
    | some _ => true
    | none => false
  | none => false
def firstG (k : Nat) : List Oper → Nat → Nat
  | [], i => i
  | o :: r, i => match o.guard with
    | some (k', _) => match Nat.beq k' k with
      | true => i
      | false => firstG k r (i + 1)
    | none => firstG k r (i + 1)
def isG (i : Nat) : List Oper → Bool
  | [] => false
  | o :: r => match o.guard with
    | some (k, _) => match Nat.beq k i with
      | true => true
      | false => isG i r
    | none => isG i r
def nestG (ops : List Oper) (k : Nat) : List Oper → Nat → Bool
  | [], _ => false
  | o :: r, i => match o.guard with
    | some (k', _) => match Nat.beq k' k with
      | true => match isG i ops with
        | true => true
        | false => nestG ops k r (i + 1)
      | false => nestG ops k r (i + 1)
    | none => nestG ops k r (i + 1)
def minN (a b : Nat) : Nat := match Nat.ble a b with
  | true => a
  | false => b
theorem minN_le (a b : Nat) : minN a b ≤ a := by
  unfold minN
  split
  · exact Nat.le_refl _
  · rename_i h
    have : ¬ a ≤ b := fun h' => by rw [Nat.ble_eq_true_of_le h'] at h; cases h
    omega
def lowG (ops : List Oper) (o : Oper) (c : Nat) : Nat := match o.guard with
  | some (k, _) => match gdd ops k with
    | true => minN c k
    | false => match nestG ops k ops 0 with
      | true => minN c (firstG k ops 0)
      | false => c
  | none => c
theorem lowG_le (ops : List Oper) (o : Oper) (c : Nat) : lowG ops o c ≤ c := by
  unfold lowG
  split
  · split
    · exact minN_le _ _
    · split
      · exact minN_le _ _
      · exact Nat.le_refl _
  · exact Nat.le_refl _
def lowC (ops : List Oper) : List Oper → List Nat → List Nat
  | o :: r, c :: cs => lowG ops o c :: lowC ops r cs
  | [], cs => cs
  | _ :: _, [] => []
theorem low_ge {ops : List Oper} {q : Nat} : ∀ {l : List Oper} {cs : List Nat} {d : Nat}, allGe q ((lowC ops l cs).drop d) = true → allGe q (cs.drop d) = true
  | [], cs, d, h => by cases cs <;> exact h
  | o :: r, [], d, h => h
  | o :: r, c :: cs, 0, h => by
    have h : allGe q (lowG ops o c :: lowC ops r cs) = true := h
    show allGe q (c :: cs) = true
    unfold allGe at h ⊢
    split at h
    · rename_i h1
      have h2 := Nat.le_of_ble_eq_true h1
      have h3 := lowG_le ops o c
      rw [Nat.ble_eq_true_of_le (show q ≤ c by omega)]
      exact low_ge (l := r) (cs := cs) (d := 0) h
    · cases h
  | o :: r, c :: cs, d + 1, h => low_ge (l := r) (cs := cs) (d := d) h
theorem isCut_low {ops l : List Oper} {cs : List Nat} {q : Nat} (h : isCut (lowC ops l cs) q = true) : isCut cs q = true := low_ge h
def rowCuts (cs : List Nat) : Nat → Nat → Bool
  | q, 0 => isCut cs q
  | q, c + 1 => match isCut cs q with
    | true => rowCuts cs (q + 1) c
    | false => false
theorem rowCuts_low {ops l : List Oper} {cs : List Nat} : ∀ {c q : Nat}, rowCuts (lowC ops l cs) q c = true → rowCuts cs q c = true
  | 0, q, h => isCut_low h
  | c + 1, q, h => by
    unfold rowCuts at h ⊢
    split at h
    · rename_i h1
      rw [isCut_low h1]
      exact rowCuts_low h
    · cases h
theorem rowCuts_spec {Bs : List (List Nat)} : ∀ {c q : Nat}, rowCuts (covs Bs) q c = true → ∀ k, q ≤ k → k ≤ q + c → Cut Bs Bs.length k
  | 0, q, h, k, h1, h2 => by
    have : k = q := by omega
    subst this
    exact isCut_spec h
  | c + 1, q, h, k, h1, h2 => by
    unfold rowCuts at h
    split at h
    · rename_i h3
      rcases Nat.lt_or_ge q k with h4 | h4
      · exact rowCuts_spec h k h4 (by omega)
      · have : k = q := by omega
        subst this
        exact isCut_spec h3
    · cases h
theorem edges_lt (hBs : allB ops [] = some Bs) : ∀ k o, ops[k]? = some o → ∀ e ∈ edgesL o.after.toList, e < k := by
  intro k o ho e he
  have := ((allB_spec hBs).2 k o ho).1 e he
  simpa using this
theorem allB_len : ∀ {rest : List Oper} {Bs R : List (List Nat)}, allB rest Bs = some R → R.length = Bs.length + rest.length
  | [], Bs, R, h => by simp [allB] at h; subst h; rfl
  | o :: r, Bs, R, h => by
    unfold allB at h
    split at h
    · have := allB_len h
      rw [this]
      simp; omega
    · cases h
def below (k : Nat) (listed : Array Bool) (len : Nat) : Prop := ∀ i, i < len → listed.getD i false = decide (i < k)
theorem draw_all (hE : EnvAll E) (hBs : allB ops [] = some Bs) {ws : List (Nat × Nat)} (hnd : nodupW (writers ops 0) = true) (hws : ∀ d i, look ws d = some i → i < ops.length) {F1 : List (Nat × MV)} (hF1 : ∀ s m, look F1 s = some m → look F0 s = some m) (hrec : ∀ c ∈ recs, ROK E n ops Bs ws F1 stk H nx recs c) {s p : Nat} (hsp : s ≤ p) (hp : p ≤ ops.length) (hcov : Cut Bs ops.length p)
    (hwc : ∀ c ∈ recs, ∀ o d, ops[c.i]? = some o → o.dst = some d → look ws d = some c.i)
    (hall : ∀ i, s ≤ i → i < p → ∃ c ∈ recs, c.i = i) (huni : ∀ c ∈ recs, ∀ c' ∈ recs, c.i = c'.i → c = c') {nx0 : Nat} (hHlt : ∀ j b, look H j = some b → j < nx0) (hk0 : ∀ c ∈ recs, nx0 ≤ c.k) (hap : ∀ c ∈ recs, ∀ c' ∈ recs, c.i ≠ c'.i → Apart c c')
    {Q : Exit → Act → World → Prop} (hQ : ∀ fuel (listed : Array Bool) a w, listed.size = ops.length → below p listed ops.length → ops.length - p ≤ fuel → InvD ops ws F0 stk H nx recs cx su n (fun i => listed.getD i false) a w → wpAny E.P .any ops.toArray Q fuel listed a w) :
    ∀ (fuel : Nat) (L : List Nat) (listed : Array Bool) (a : Act) (w : World), L.length + (ops.length - p) ≤ fuel → listed.size = ops.length → (∀ i, i < s → listed.getD i false = true) → (∀ i, s ≤ i → i < p → listed.getD i false = false → i ∈ L) → (∀ i, p ≤ i → listed.getD i false = false) →
      (∀ k o, ops[k]? = some o → listed.getD k false = true → ∀ e ∈ edgesL o.after.toList, listed.getD e false = true) →
      InvD ops ws F0 stk H nx recs cx su n (fun i => listed.getD i false) a w → wpAny E.P .any ops.toArray Q fuel listed a w := by
  have edge := edges_lt hBs
  have isbelow : ∀ (listed : Array Bool), (∀ i, i < s → listed.getD i false = true) → (∀ i, s ≤ i → i < p → listed.getD i false = true) → (∀ i, p ≤ i → listed.getD i false = false) → below p listed ops.length := by
    intro listed h1 h2 h3 i hi
    rcases Nat.lt_or_ge i p with h | h
    · rcases Nat.lt_or_ge i s with h' | h'
      · rw [h1 i h']; simp [h]
      · rw [h2 i h' h]; simp [h]
    · rw [h3 i h]; simp; omega
  intro fuel
  induction fuel with
  | zero =>
    intro L listed a w hL hsz hpre hun hsuf hcl hI
    refine hQ 0 listed a w hsz (isbelow listed hpre (fun i h1 h2 => ?_) hsuf) (by omega) hI
    cases hl : listed.getD i false with
    | true => rfl
    | false =>
      have := hun i h1 h2 hl
      have : L = [] := List.length_eq_zero_iff.1 (by omega)
      subst this
      simp at *
  | succ fuel ih =>
    intro L listed a w hL hsz hpre hun hsuf hcl hI
    by_cases hdone : ∀ i, s ≤ i → i < p → listed.getD i false = true
    · exact hQ (fuel + 1) listed a w hsz (isbelow listed hpre hdone hsuf) (by omega) hI
    · have : ∃ i, s ≤ i ∧ i < p ∧ listed.getD i false = false := by
        refine Classical.byContradiction fun hn => hdone fun i h1 hi => ?_
        cases hl : listed.getD i false
        · exact absurd ⟨i, h1, hi, hl⟩ hn
        · rfl
      obtain ⟨i0, hs0, hi0, hl0⟩ := this
      refine ⟨fun hr => ?_, fun i hi => ?_⟩
      · exfalso
        -- none ready: all have been done
        have done : ∀ i, i < ops.length → listed.getD i false = true := by
          intro i
          induction i using Nat.strongRecOn with
          | ind i ih2 =>
            intro hi
            cases hl : listed.getD i false with
            | true => rfl
            | false =>
              have hm : i ∈ Region.ready .any ops.toArray listed := by
                rw [mem_ready]
                refine ⟨by rw [getD_eq (by omega)]; exact hl, ops[i], by simp [hi], fun e he hb => ?_⟩
                have hmem := mem_edgesL (l := ops[i].after.toList) (i := e.on) ⟨e, by simpa using he, hb, rfl⟩
                have hlt := edge i _ (List.getElem?_eq_getElem hi) _ hmem
                exact ih2 _ hlt (by omega)
              rw [hr] at hm; cases hm
        rw [done i0 (by omega)] at hl0; cases hl0
      · rw [mem_ready] at hi
        obtain ⟨h1, o, ho, he⟩ := hi
        have ho : ops[i]? = some o := by simpa using ho
        have hlt : i < ops.length := (List.getElem?_eq_some_iff.1 ho).1
        rw [getD_eq (by omega)] at h1
        have hedge : ∀ e ∈ edgesL o.after.toList, listed.getD e false = true := by
          intro e hx
          obtain ⟨x, x1, x2, rfl⟩ := of_mem_edgesL hx
          exact he x (by simpa using x1) x2
        have hip : i < p := by
          rcases Nat.lt_or_ge i p with h2 | h2
          · exact h2
          · have := B_sub (D := fun k => listed.getD k false = true) hBs hcl i o ho hedge i0 (hcov i h2 hlt i0 (by omega))
            rw [hl0] at this; cases this
        have his : s ≤ i := by
          rcases Nat.lt_or_ge i s with h2 | h2
          · rw [hpre i h2] at h1; cases h1
          · exact h2
        obtain ⟨c, hc, rfl⟩ := hall i his hip
        refine draw_step hE hBs hnd hws hF1 hrec huni hHlt hk0 hap hI hcl hc (hwc c hc) h1 (fun o' ho' => by rw [ho] at ho'; cases ho'; exact hedge) fun a' w' hI' => ?_
        have hset := addD_set (l := listed) (i := c.i) (by omega)
        refine ih (L.erase c.i) _ a' w' ?_ (by simpa using hsz) ?_ ?_ ?_ ?_ (by rw [hset]; exact hI')
        · have hm := hun c.i his hip h1
          have : 0 < L.length := List.length_pos_of_mem hm
          rw [List.length_erase_of_mem hm]; omega
        · intro j hj
          exact getD_set_true (hpre j hj)
        · intro j hs hj hjl
          have hne : j ≠ c.i := by
            intro e; subst e
            have h2 := (congrFun hset c.i).symm.trans hjl
            have h3 := (addD_iff (D := fun k => listed.getD k false) (i := c.i) (k := c.i)).2 (.inl rfl)
            rw [h2] at h3
            cases h3
          have : listed.getD j false = false := by
            rw [← getD_set_ne (i := c.i) false (Ne.symm hne)]; exact hjl
          exact (List.mem_erase_of_ne hne).2 (hun j hs hj this)
        · intro j hj
          rw [getD_set_ne (i := c.i) false (by omega)]
          exact hsuf j hj
        · intro k o' ho' hk e hx
          have hk := (congrFun hset k).symm.trans hk
          refine (congrFun hset e).trans ?_
          rw [addD_iff] at hk ⊢
          rcases hk with rfl | hk
          · rw [ho] at ho'; cases ho'
            exact .inr (hedge e hx)
          · exact .inr (hcl k o' ho' hk e hx)
theorem draw_one (hBs : allB ops [] = some Bs) {k : Nat} (hk : k < ops.length) (hcut : Cut Bs ops.length (k + 1)) {Q : Exit → Act → World → Prop} {fuel : Nat} {listed : Array Bool} (hsz : listed.size = ops.length) (hl : below k listed ops.length) {a : Act} {w : World}
    {K : Act → World → Prop} (h : wpOp E.P ops.toArray Q k K a w) (hK : ∀ (listed' : Array Bool) a w, listed'.size = ops.length → below (k + 1) listed' ops.length → K a w → wpAny E.P .any ops.toArray Q fuel listed' a w) : wpAny E.P .any ops.toArray Q (fuel + 1) listed a w := by
  have edge := edges_lt hBs
  have hko : ops[k]? = some ops[k] := List.getElem?_eq_getElem hk
  have hcl : ∀ j o, ops[j]? = some o → listed.getD j false = true → ∀ e ∈ edgesL o.after.toList, listed.getD e false = true := by
    intro j o ho hj e he
    have h1 := edge j o ho e he
    have hjl : j < ops.length := (List.getElem?_eq_some_iff.1 ho).1
    rw [hl j hjl] at hj
    rw [hl e (by omega)]
    simp at hj ⊢; omega
  refine ⟨fun hr => ?_, fun i hi => ?_⟩
  · exfalso
    have hm : k ∈ Region.ready .any ops.toArray listed := by
      rw [mem_ready]
      refine ⟨by rw [getD_eq (by omega), hl k hk]; simp, ops[k], by simp [hk], fun e he hb => ?_⟩
      have hmem := mem_edgesL (l := ops[k].after.toList) (i := e.on) ⟨e, by simpa using he, hb, rfl⟩
      have hlt := edge k _ hko _ hmem
      rw [hl _ (by omega)]; simp [hlt]
    rw [hr] at hm; cases hm
  · rw [mem_ready] at hi
    obtain ⟨h1, o, ho, he⟩ := hi
    have ho : ops[i]? = some o := by simpa using ho
    have hlt : i < ops.length := (List.getElem?_eq_some_iff.1 ho).1
    rw [getD_eq (by omega), hl i hlt] at h1
    have hik : k ≤ i := by simpa using h1
    have hedge : ∀ e ∈ edgesL o.after.toList, listed.getD e false = true := by
      intro e hx
      obtain ⟨x, x1, x2, rfl⟩ := of_mem_edgesL hx
      exact he x (by simpa using x1) x2
    have : i = k := by
      rcases Nat.lt_or_ge k i with h2 | h2
      · have := B_sub (D := fun j => listed.getD j false = true) hBs hcl i o ho hedge k (hcut i (by omega) hlt k (by omega))
        rw [hl k hk] at this
        simp at this
      · omega
    subst this
    refine wpOp_mono (fun a w h => hK _ a w (by simpa using hsz) ?_ h) h
    intro j hj
    have hset := congrFun (addD_set (l := listed) (i := i) (by omega)) j
    refine hset.trans ?_
    cases hb : decide (j < i + 1) with
    | true =>
      rw [addD_iff]
      simp at hb
      rcases Nat.lt_or_ge j i with h3 | h3
      · right; rw [hl j hj]; simp [h3]
      · left; omega
    | false =>
      simp at hb
      cases hq : addD (fun k => listed.getD k false) i j with
      | false => rfl
      | true =>
        rw [addD_iff] at hq
        rcases hq with hq | hq
        · omega
        · rw [hl j hj] at hq; simp at hq; omega
def addA : List RC → List (Nat × MV) → List (Nat × MV)
  | [], F => F
  | c :: r, F => match c.d with
    | none => addA r F
    | some d => (d, c.m) :: addA r F
theorem look_addA : ∀ {l : List RC} {F : List (Nat × MV)} {s : Nat} {m : MV}, look (addA l F) s = some m → (∃ c ∈ l, c.d = some s ∧ c.m = m) ∨ look F s = some m
  | [], F, s, m, h => .inr h
  | c :: r, F, s, m, h => by
    have up : (∃ c ∈ r, c.d = some s ∧ c.m = m) ∨ look F s = some m → (∃ x ∈ c :: r, x.d = some s ∧ x.m = m) ∨ look F s = some m := by
      rintro (⟨x, hx, e⟩ | e)
      · exact .inl ⟨x, List.mem_cons_of_mem _ hx, e⟩
      · exact .inr e
    unfold addA at h
    split at h
    · exact up (look_addA h)
    · rename_i d hd
      simp only [look] at h
      split at h
      · rename_i hb
        have := Nat.eq_of_beq_eq_true hb
        subst this
        cases h
        exact .inl ⟨c, List.mem_cons_self, hd, rfl⟩
      · exact up (look_addA h)
def tabA : List RC → List TE
  | [] => []
  | c :: r => match c.e with
    | none => tabA r
    | some e => e :: tabA r
theorem mem_tabA : ∀ {l : List RC} {e : TE}, e ∈ tabA l ↔ ∃ c ∈ l, c.e = some e
  | [], e => by simp [tabA]
  | c :: r, e => by
    have ih := @mem_tabA r e
    unfold tabA
    split
    · rename_i hn
      rw [ih]
      constructor
      · rintro ⟨x, hx, q⟩; exact ⟨x, List.mem_cons_of_mem _ hx, q⟩
      · rintro ⟨x, hx, q⟩
        rcases List.mem_cons.1 hx with rfl | hx
        · rw [hn] at q; cases q
        · exact ⟨x, hx, q⟩
    · rename_i e' he
      constructor
      · intro h
        rcases List.mem_cons.1 h with rfl | h
        · exact ⟨c, List.mem_cons_self, he⟩
        · obtain ⟨x, hx, q⟩ := ih.1 h
          exact ⟨x, List.mem_cons_of_mem _ hx, q⟩
      · rintro ⟨x, hx, q⟩
        rcases List.mem_cons.1 hx with rfl | hx
        · rw [he] at q; cases q; exact List.mem_cons_self
        · exact List.mem_cons_of_mem _ (ih.2 ⟨x, hx, q⟩)
def forceB {α : Type} : List (List α) → (List (List α) → Prop) → Prop
  | [], k => k []
  | x :: r, k => one x fun x' => forceB r fun r' => k (x' :: r')
where
  one : List α → (List α → Prop) → Prop
  | [], k => k []
  | x :: r, k => one r fun r' => k (x :: r')
theorem forceB_one {α : Type} : ∀ {l : List α} {k : List α → Prop}, forceB.one l k → k l
  | [], k, h => h
  | x :: r, k, h => forceB_one (l := r) h
theorem forceB_eq {α : Type} : ∀ {l : List (List α)} {k : List (List α) → Prop}, forceB l k → k l
  | [], k, h => h
  | x :: r, k, h => forceB_eq (l := r) (forceB_one (l := x) h)
def frN : List Oper → Nat
  | [] => 0
  | o :: r => match o.op with
    | .alloc _ => frN r + 1
    | .box _ _ => frN r + 1
    | .makeSlice _ _ _ => frN r + 1
    | .buildSlice _ _ _ => frN r + 1
    | .call ⟨.value _, _, _⟩ => frN r + 3
    | _ => frN r
theorem SatR.raise {cx : Cx} {su : Sus} {n : Nat} {G : GT} {F : List (Nat × MV)} {stk : List (List (Nat × MV))} {H : List (Nat × Blk)} {nx nx' : Nat} {a : Act} {w : World} {ρ : RhoT} (h : SatR cx su n G ⟨F, stk, H, nx⟩ a w ρ) (hle : nx ≤ nx') : SatR cx su n G ⟨F, stk, H, nx'⟩ a w ρ :=
  ⟨⟨h.W.below, h.W.inj, h.W.rng, fun id b hl => Nat.lt_of_lt_of_le (h.W.hlt id b hl) hle, fun i hi => h.W.nx i (Nat.le_trans hle hi), h.W.blocks, h.W.okA⟩, h.F, h.K⟩
def tmpsL : List Operand → List Nat
  | [] => []
  | .tmp t :: r => t :: tmpsL r
  | _ :: r => tmpsL r
def opndsOf : Op → List Operand
  | .pick c a b => [c, a, b]
  | op => operL op
def usedL (ops : List Oper) : List Oper → List Nat
  | [] => []
  | o :: r => match o.guard with
    | none => tmpsL (opndsOf o.op) ++ usedL ops r
    | some (k, _) => dOf ops k :: (tmpsL (opndsOf o.op) ++ usedL ops r)
def restr (F : List (Nat × MV)) : List Nat → List (Nat × MV) → List (Nat × MV)
  | [], acc => acc
  | t :: r, acc => match look acc t with
    | some _ => restr F r acc
    | none => match look F t with
      | some m => restr F r ((t, m) :: acc)
      | none => restr F r acc
theorem restr_sub {F : List (Nat × MV)} : ∀ {ts : List Nat} {acc : List (Nat × MV)}, (∀ s m, look acc s = some m → look F s = some m) → ∀ s m, look (restr F ts acc) s = some m → look F s = some m
  | [], acc, h => h
  | t :: r, acc, h => by
    unfold restr
    split
    · exact restr_sub h
    · split
      · rename_i m hm
        refine restr_sub fun s m' hs => ?_
        simp only [look] at hs
        split at hs
        · rename_i e
          have := Nat.eq_of_beq_eq_true e
          subst this
          cases hs; exact hm
        · exact h s m' hs
      · exact restr_sub h
def drawQ (E : Env) (call : CallT) (n : Nat) (ops : List Oper) (Bs : List (List Nat)) (cs : List Nat) (len : Nat) : Nat → Nat → St → (St → Prop) → Prop
  | 0, _, _, _ => False
  | f + 1, s, S, K => match Nat.blt s len with
    | false => K S
    | true => forceP (gEnd cs len s) fun q => forceP (rowEnd cs len len q) fun r =>
      match Nat.ble s q && Nat.ble q r && Nat.ble r len && Nat.blt s r && rowCuts cs q (r - q) with
      | false => False
      | true => match S with
        | ⟨F0, stk, H, nx⟩ => forceP (nx + frN ((ops.drop s).take (q - s))) fun nx' => forceV (writers (ops.drop s) s) fun ws =>
          forceF (restr F0 (usedL ops ((ops.drop s).take (q - s))) []) fun F1 => drawOps E n ops Bs ws F1 stk H nx' s ((ops.drop s).take (q - s)) nx [] fun recs =>
            forceF (addA recs (f0F (fun i => Nat.blt i q) ws F0)) fun F' => forceF (bD (fun _ => true) recs H) fun H' =>
              evOps E call n ops ((ops.drop q).take (r - q)) (tabA recs) ⟨F', stk, H', nx'⟩ fun S' => drawQ E call n ops Bs cs len f r S' K
def dStep (E : Env) (call : CallT) (n : Nat) (ops : List Oper) (Bs : List (List Nat)) (cs : List Nat) (len : Nat) (K2 : Nat → St → Prop) (s : Nat) (S : St) (K : St → Prop) : Prop :=
  match Nat.blt s len with
    | false => K S
    | true => forceP (gEnd cs len s) fun q => forceP (rowEnd cs len len q) fun r =>
      match Nat.ble s q && Nat.ble q r && Nat.ble r len && Nat.blt s r && rowCuts cs q (r - q) with
      | false => False
      | true => match S with
        | ⟨F0, stk, H, nx⟩ => forceP (nx + frN ((ops.drop s).take (q - s))) fun nx' => forceV (writers (ops.drop s) s) fun ws =>
          forceF (restr F0 (usedL ops ((ops.drop s).take (q - s))) []) fun F1 => drawOps E n ops Bs ws F1 stk H nx' s ((ops.drop s).take (q - s)) nx [] fun recs =>
            forceF (addA recs (f0F (fun i => Nat.blt i q) ws F0)) fun F' => forceF (bD (fun _ => true) recs H) fun H' =>
              evOps E call n ops ((ops.drop q).take (r - q)) (tabA recs) ⟨F', stk, H', nx'⟩ fun S' => K2 r S'
theorem drawQ_succ {E : Env} {call : CallT} {n : Nat} {ops : List Oper} {Bs : List (List Nat)} {cs : List Nat} {len : Nat} {f s : Nat} {S : St} {K : St → Prop} : drawQ E call n ops Bs cs len (f + 1) s S K = dStep E call n ops Bs cs len (fun r S' => drawQ E call n ops Bs cs len f r S' K) s S K := rfl
def dQ0 (_ : Nat) (_ : St) (_ : St → Prop) : Prop := False
def dQ1 (E : Env) (call : CallT) (n : Nat) (ops : List Oper) (Bs : List (List Nat)) (cs : List Nat) (len : Nat) (s : Nat) (S : St) (K : St → Prop) : Prop := dStep E call n ops Bs cs len (fun r S' => dQ0 r S' K) s S K
theorem dQ1_eq {E : Env} {call : CallT} {n : Nat} {ops : List Oper} {Bs : List (List Nat)} {cs : List Nat} {len : Nat} {s : Nat} {S : St} {K : St → Prop} : dQ1 E call n ops Bs cs len s S K = drawQ E call n ops Bs cs len 1 s S K := by
  rw [drawQ_succ]
  unfold dQ1
  rfl
def dQ2 (E : Env) (call : CallT) (n : Nat) (ops : List Oper) (Bs : List (List Nat)) (cs : List Nat) (len : Nat) (s : Nat) (S : St) (K : St → Prop) : Prop := dStep E call n ops Bs cs len (fun r S' => dQ1 E call n ops Bs cs len r S' K) s S K
theorem dQ2_eq {E : Env} {call : CallT} {n : Nat} {ops : List Oper} {Bs : List (List Nat)} {cs : List Nat} {len : Nat} {s : Nat} {S : St} {K : St → Prop} : dQ2 E call n ops Bs cs len s S K = drawQ E call n ops Bs cs len 2 s S K := by
  rw [drawQ_succ]
  unfold dQ2
  simp only [dQ1_eq]
def dQ3 (E : Env) (call : CallT) (n : Nat) (ops : List Oper) (Bs : List (List Nat)) (cs : List Nat) (len : Nat) (s : Nat) (S : St) (K : St → Prop) : Prop := dStep E call n ops Bs cs len (fun r S' => dQ2 E call n ops Bs cs len r S' K) s S K
theorem dQ3_eq {E : Env} {call : CallT} {n : Nat} {ops : List Oper} {Bs : List (List Nat)} {cs : List Nat} {len : Nat} {s : Nat} {S : St} {K : St → Prop} : dQ3 E call n ops Bs cs len s S K = drawQ E call n ops Bs cs len 3 s S K := by
  rw [drawQ_succ]
  unfold dQ3
  simp only [dQ2_eq]
def dQ4 (E : Env) (call : CallT) (n : Nat) (ops : List Oper) (Bs : List (List Nat)) (cs : List Nat) (len : Nat) (s : Nat) (S : St) (K : St → Prop) : Prop := dStep E call n ops Bs cs len (fun r S' => dQ3 E call n ops Bs cs len r S' K) s S K
theorem dQ4_eq {E : Env} {call : CallT} {n : Nat} {ops : List Oper} {Bs : List (List Nat)} {cs : List Nat} {len : Nat} {s : Nat} {S : St} {K : St → Prop} : dQ4 E call n ops Bs cs len s S K = drawQ E call n ops Bs cs len 4 s S K := by
  rw [drawQ_succ]
  unfold dQ4
  simp only [dQ3_eq]
def dQ5 (E : Env) (call : CallT) (n : Nat) (ops : List Oper) (Bs : List (List Nat)) (cs : List Nat) (len : Nat) (s : Nat) (S : St) (K : St → Prop) : Prop := dStep E call n ops Bs cs len (fun r S' => dQ4 E call n ops Bs cs len r S' K) s S K
theorem dQ5_eq {E : Env} {call : CallT} {n : Nat} {ops : List Oper} {Bs : List (List Nat)} {cs : List Nat} {len : Nat} {s : Nat} {S : St} {K : St → Prop} : dQ5 E call n ops Bs cs len s S K = drawQ E call n ops Bs cs len 5 s S K := by
  rw [drawQ_succ]
  unfold dQ5
  simp only [dQ4_eq]
def dQ6 (E : Env) (call : CallT) (n : Nat) (ops : List Oper) (Bs : List (List Nat)) (cs : List Nat) (len : Nat) (s : Nat) (S : St) (K : St → Prop) : Prop := dStep E call n ops Bs cs len (fun r S' => dQ5 E call n ops Bs cs len r S' K) s S K
theorem dQ6_eq {E : Env} {call : CallT} {n : Nat} {ops : List Oper} {Bs : List (List Nat)} {cs : List Nat} {len : Nat} {s : Nat} {S : St} {K : St → Prop} : dQ6 E call n ops Bs cs len s S K = drawQ E call n ops Bs cs len 6 s S K := by
  rw [drawQ_succ]
  unfold dQ6
  simp only [dQ5_eq]
def forceN1 : List Nat → (List Nat → Prop) → Prop
  | [], k => k []
  | x :: r, k => forceP x fun x => forceN1 r fun r => k (x :: r)
theorem forceN1_eq : ∀ {l : List Nat} {k : List Nat → Prop}, forceN1 l k → k l
  | [], k, h => h
  | x :: r, k, h => by
    unfold forceN1 at h
    rw [forceP_eq] at h
    exact forceN1_eq (l := r) h
theorem forceN1_intro : ∀ {l : List Nat} {k : List Nat → Prop}, k l → forceN1 l k
  | [], k, h => h
  | x :: r, k, h => by
    unfold forceN1
    rw [forceP_eq]
    exact forceN1_intro (l := r) h
def drawR (E : Env) (call : CallT) (n : Nat) (ops : List Oper) (S : St) (K : St → Prop) : Prop := match allB ops [] with
  | none => False
  | some Bs => forceB Bs fun Bs => match nodupW (writers ops 0) with
    | false => False
    | true => forceN1 (lowC ops ops (covs Bs)) fun cs => dQ6 E call n ops Bs cs ops.length 0 S K
theorem writers_drop : ∀ {l : List Oper} {k s d i : Nat}, look (writers (l.drop s) (k + s)) d = some i → ∃ o, l[i - k]? = some o ∧ o.dst = some d ∧ k + s ≤ i ∧ i < k + l.length := by
  intro l k s d i h
  have key : ∀ (l : List Oper) (k d i : Nat), look (writers l k) d = some i → ∃ o, l[i - k]? = some o ∧ o.dst = some d ∧ k ≤ i ∧ i < k + l.length := by
    intro l
    induction l with
    | nil => intro k d i h; simp [writers, look] at h
    | cons o r ih =>
      intro k d i h
      unfold writers at h
      have hrc : look (writers r (k + 1)) d = some i → ∃ o', (o :: r)[i - k]? = some o' ∧ o'.dst = some d ∧ k ≤ i ∧ i < k + (o :: r).length := by
        intro h
        obtain ⟨o', h1, h2, h3, h4⟩ := ih (k + 1) d i h
        refine ⟨o', ?_, h2, by omega, by simp; omega⟩
        rw [show i - k = (i - (k + 1)) + 1 by omega]
        simpa using h1
      split at h
      · rename_i d0 hd0
        simp only [look] at h
        split at h
        · rename_i e
          have := Nat.eq_of_beq_eq_true e
          subst this
          cases h
          exact ⟨o, by simp, hd0, Nat.le_refl _, by simp⟩
        · exact hrc h
      · exact hrc h
  obtain ⟨o, h1, h2, h3, h4⟩ := key _ _ _ _ h
  rw [List.getElem?_drop, show s + (i - (k + s)) = i - k by omega] at h1
  refine ⟨o, h1, h2, h3, ?_⟩
  rw [List.length_drop] at h4
  have := (List.getElem?_eq_some_iff.1 h1).1
  omega
theorem nodupW_drop {l : List Oper} {k : Nat} (h : nodupW (writers l k) = true) : ∀ s, nodupW (writers (l.drop s) (k + s)) = true := by
  intro s
  induction s generalizing l k with
  | zero => simpa using h
  | succ s ih =>
    cases l with
    | nil => rfl
    | cons o r =>
      have h1 : nodupW (writers r (k + 1)) = true := by
        unfold writers at h
        split at h
        · unfold nodupW at h
          split at h
          · exact h
          · cases h
        · exact h
      have := ih h1
      rw [List.drop_succ_cons, show k + (s + 1) = k + 1 + s by omega]
      exact this
theorem drawQ_sound (hE : EnvAll E) {call : CallT} (hcall : CallH E.P cx call) (hBs : allB ops [] = some Bs) (hnd : nodupW (writers ops 0) = true) {Q : Exit → Act → World → Prop} {K : St → Prop} (hQ : ∀ S' a' w', K S' → Sat cx su n G0 S' a' w' → Q .normal a' w') :
    ∀ (f s : Nat) (S : St) (fuel : Nat) (listed : Array Bool) (a : Act) (w : World), drawQ E call n ops Bs (lowC ops ops (covs Bs)) ops.length f s S K → s ≤ ops.length → ops.length - s ≤ fuel → listed.size = ops.length → below s listed ops.length → Sat cx su n G0 S a w →
      wpAny E.P .any ops.toArray Q fuel listed a w := by
  have hlen : Bs.length = ops.length := by have := allB_len hBs; simpa using this
  intro f
  induction f with
  | zero => intro s S fuel listed a w h; exact h.elim
  | succ f ih =>
    intro s S fuel listed a w h hs hf hsz hl hsat
    unfold drawQ at h
    split at h
    · rename_i hb
      have hse : s = ops.length := by
        rcases Nat.lt_or_ge s ops.length with h1 | h1
        · have : Nat.blt s ops.length = true := by simpa using h1
          rw [hb] at this; cases this
        · omega
      refine wpAny_done ?_ (hQ _ _ _ h hsat) fuel
      refine List.eq_nil_iff_forall_not_mem.2 fun i hi => ?_
      rw [mem_ready] at hi
      obtain ⟨h1, o, ho, _⟩ := hi
      have hlt : i < ops.length := by simpa using (Array.getElem?_eq_some_iff.1 ho).1
      rw [getD_eq (by omega), hl i hlt] at h1
      simp at h1; omega
    · rw [forceP_eq, forceP_eq] at h
      generalize gEnd (lowC ops ops (covs Bs)) ops.length s = q at h
      generalize rowEnd (lowC ops ops (covs Bs)) ops.length ops.length q = r at h
      split at h
      · exact h.elim
      · rename_i hb
        simp only [Bool.and_eq_true, Nat.ble_eq, Nat.blt_eq] at hb
        obtain ⟨⟨⟨⟨hsq, hqr⟩, hrl⟩, hsr⟩, hrow⟩ := hb
        have hcuts := rowCuts_spec (rowCuts_low hrow)
        rw [hlen] at hcuts
        obtain ⟨F0, stk, H, nx⟩ := S
        dsimp only at h
        rw [forceP_eq] at h
        have h := forceF_eq (forceV_eq h)
        generalize hnx' : nx + frN ((ops.drop s).take (q - s)) = nx' at h
        have hnxle : nx ≤ nx' := by omega
        have hq : q ≤ ops.length := by omega
        obtain ⟨recs, hK, hrec, hall, hlt, huni, hk0, hap⟩ := drawOps_spec (nx0 := nx) (s := s) h (fun k o hk => by
          rw [List.getElem?_take] at hk
          split at hk
          · rw [List.getElem?_drop] at hk; exact hk
          · cases hk) (by simp) (fun i h1 h2 => by omega) (by simp) (Nat.le_refl _) (by simp) (Nat.le_refl _) (by simp) (by simp)
        have hgl : s + ((ops.drop s).take (q - s)).length = q := by rw [List.length_take, List.length_drop]; omega
        rw [hgl] at hall hlt
        have hK := forceF_eq (forceF_eq hK)
        obtain ⟨ρ, hsat⟩ := hsat
        have hHlt : ∀ j b, look H j = some b → j < nx := fun j b hj => hsat.W.hlt j b hj
        have hnd2 := nodupW_drop hnd s
        rw [Nat.zero_add] at hnd2
        have hws : ∀ d i, look (writers (ops.drop s) s) d = some i → s ≤ i ∧ i < ops.length := by
          intro d i hi
          obtain ⟨_, _, _, h3, h4⟩ := writers_drop (l := ops) (k := 0) (s := s) (by simpa using hi)
          exact ⟨by omega, by omega⟩
        have hwc : ∀ c ∈ recs, ∀ o d, ops[c.i]? = some o → o.dst = some d → look (writers (ops.drop s) s) d = some c.i := by
          intro c hc o d ho hd
          have hcs := (hlt c hc).1
          have := writers_spec hnd2 (c.i - s) o d (by rw [List.getElem?_drop, show s + (c.i - s) = c.i by omega]; exact ho) hd
          rw [this]; congr 1; omega
        have hcl : ∀ k o, ops[k]? = some o → listed.getD k false = true → ∀ e ∈ edgesL o.after.toList, listed.getD e false = true := by
          intro j o ho hj e he
          have h1 := edges_lt hBs j o ho e he
          have hjl : j < ops.length := (List.getElem?_eq_some_iff.1 ho).1
          rw [hl j hjl] at hj
          rw [hl e (by omega)]
          simp at hj ⊢; omega
        have hout : ∀ i, ops.length ≤ i → listed.getD i false = false := by
          intro i hi
          simp only [Array.getD_eq_getD_getElem?]
          rw [Array.getElem?_eq_none (by omega)]
          rfl
        have hlo : ∀ i, s ≤ i → listed.getD i false = false := by
          intro i hi
          rcases Nat.lt_or_ge i ops.length with h1 | h1
          · rw [hl i h1]; simp; omega
          · exact hout i h1
        have hb0 : ∀ l : List RC, (∀ c ∈ l, s ≤ c.i) → bD (fun i => listed.getD i false) l H = H := by
          intro l
          induction l with
          | nil => intro _; rfl
          | cons c r ih2 =>
            intro hl2
            unfold bD
            rw [hlo c.i (hl2 c (by simp))]
            exact ih2 fun x hx => hl2 x (by simp [hx])
        refine draw_all (cx := cx) (su := su) (s := s) (p := q) hE hBs hnd (fun d i hi => (hws d i hi).2) (restr_sub (F := F0) (ts := usedL ops ((ops.drop s).take (q - s))) (acc := []) (fun s m h => by simp [look] at h)) hrec hsq hq (hcuts q (Nat.le_refl _) (by omega)) hwc hall huni hHlt hk0 hap ?_ fuel (List.range' s (q - s)) listed a w (by simp; omega) hsz ?_ ?_ (fun i hi => hlo i (by omega)) hcl ?_
        · -- behind the group: the row
          rintro fuel2 listed2 a' w' hsz2 hl2 hf2 ⟨ρ', hS, hH, hT, _⟩
          have hD : ∀ c ∈ recs, listed2.getD c.i false = true := by
            intro c hc
            have := hlt c hc
            rw [hl2 c.i (by omega)]; simp [this.2]
          have hTt : TOK ops (tabA recs) a' := by
            intro e he
            obtain ⟨c, h1, h2⟩ := mem_tabA.1 he
            exact hT c h1 (hD c h1) e (by simp [eT, h2])
          have hbd : ∀ j, look (bD (fun _ => true) recs H) j = look (bD (fun i => listed2.getD i false) recs H) j := by
            have : ∀ l : List RC, (∀ c ∈ l, listed2.getD c.i false = true) → bD (fun _ => true) l H = bD (fun i => listed2.getD i false) l H := by
              intro l
              induction l with
              | nil => intro _; rfl
              | cons c r ih =>
                intro hl
                unfold bD
                rw [hl c (by simp), ih fun x hx => hl x (by simp [hx])]
            intro j
            rw [this recs hD]
          -- the row, one after the other
          have row := evOps_soundW (su := su) (n := n) (ops := ops) (Q := Q) hE hcall (K := fun S' => drawQ E call n ops Bs (lowC ops ops (covs Bs)) ops.length f r S' K)
            (W := fun rest a w => ∀ k fuel (listed : Array Bool), q ≤ k → k ≤ r → rest = (ops.drop k).take (r - k) → listed.size = ops.length → below k listed ops.length → ops.length - k ≤ fuel → wpAny E.P .any ops.toArray Q fuel listed a w)
            (fun S' a' w' hk hs' k fuel listed h1 h2 h3 h4 h5 h6 => by
              have hkr : k = r := by
                have := congrArg List.length h3
                simp at this
                omega
              subst hkr
              exact ih k S' fuel listed a' w' hk (by omega) h6 h4 h5 hs')
            (fun o rest a w hw k fuel listed h1 h2 h3 h4 h5 h6 => by
              have hkr : k < r := by
                rcases Nat.lt_or_ge k r with h7 | h7
                · exact h7
                · have : r - k = 0 := by omega
                  rw [this] at h3; simp at h3
              have hkl : k < ops.length := by omega
              have hd : (ops.drop k).take (r - k) = ops[k] :: (ops.drop (k + 1)).take (r - (k + 1)) := by
                rw [List.drop_eq_getElem_cons hkl, show r - k = (r - (k + 1)) + 1 by omega, List.take_succ_cons]
              rw [hd] at h3
              cases h3
              obtain ⟨fuel, rfl⟩ : ∃ g, fuel = g + 1 := ⟨fuel - 1, by omega⟩
              refine draw_one hBs hkl (hcuts (k + 1) (by omega) (by omega)) h4 h5 (K := fun a w => ∀ k' fuel (listed : Array Bool), q ≤ k' → k' ≤ r → (ops.drop (k + 1)).take (r - (k + 1)) = (ops.drop k').take (r - k') → listed.size = ops.length → below k' listed ops.length → ops.length - k' ≤ fuel → wpAny E.P .any ops.toArray Q fuel listed a w) ?_ (fun listed' a w q1 q2 q3 => q3 (k + 1) fuel listed' (by omega) (by omega) rfl q1 q2 (by omega))
              unfold wpOp
              have hop : ops.toArray[k]? = some ops[k] := by simp [hkl]
              rw [hop]
              exact hw)
            hK (ρ := ρ') (SatR.lookH (H := bD (fun i => listed2.getD i false) recs H) ⟨hS.W, ⟨hS.F.defers, hS.F.size, ?_⟩, hS.K⟩ hbd) hTt
          · exact row q fuel2 listed2 (Nat.le_refl _) hqr rfl hsz2 hl2 hf2
          · intro s' m hs'
            dsimp only at hs'
            rcases look_addA hs' with ⟨c, hc, hd, rfl⟩ | hs'
            · obtain ⟨v, hv, r⟩ := hH c hc (hD c hc) s' hd
              refine ⟨v, hv, r.mono (Keeps.refl w') (gOf_incl (hT c hc (hD c hc)) hTt ?_) (fun _ _ e => e) (fun b hb => ⟨hb, rfl⟩)⟩
              intro e he
              unfold eT at he
              split at he
              · cases he
              · rename_i e' he'
                simp at he
                subst he
                exact mem_tabA.2 ⟨c, hc, he'⟩
            · have hlk : look (f0F (fun i => listed2.getD i false) (writers (ops.drop s) s) F0) s' = some m := by
                rw [look_f0F] at hs' ⊢
                split at hs'
                · cases hs'
                · rename_i hno
                  rw [if_neg]
                  · exact hs'
                  · rintro ⟨i, q1, q2⟩
                    rw [hl2 i (hws _ _ q1).2] at q2
                    exact hno ⟨i, q1, by simpa using q2⟩
              obtain ⟨v, hv, r⟩ := hS.F.frame s' m hlk
              exact ⟨v, hv, r.mono (Keeps.refl w') (fun _ _ _ e => by simp [G0] at e) (fun _ _ e => e) (fun b hb => ⟨hb, rfl⟩)⟩
        · intro i hi
          rw [hl i (by omega)]; simp [hi]
        · intro i h1 h2 _
          exact List.mem_range'_1.2 ⟨h1, by omega⟩
        · have h2 := hsat.raise hnxle
          refine ⟨ρ, ?_, ?_, ?_, ?_⟩
          · rw [hb0 recs fun c hc => (hlt c hc).1]
            refine h2.setF ?_
            intro s' m hs'
            rw [look_f0F] at hs'
            split at hs'
            · cases hs'
            · exact h2.F.frame s' m hs'
          · intro c hc hc2
            dsimp only at hc2
            rw [hlo c.i (hlt c hc).1] at hc2; cases hc2
          · intro c hc hc2
            dsimp only at hc2
            rw [hlo c.i (hlt c hc).1] at hc2; cases hc2
          · intro c hc _ j hj
            have := hk0 c hc
            exact hsat.W.nx j (Nat.le_trans this hj.1)
theorem drawR_sound (hE : EnvAll E) (hm : E.P.follows .mixedOrders = true) {call : CallT} (hcall : CallH E.P cx call) {id : Nat} {ops : Array Oper} {S : St} {K : Ex → St → Prop} (h : drawR E call n ops.toList S (K .normal)) : CodeOK E.P cx n (.region id ops true) S K := by
  intro su a w hsat
  refine wp_region_any hm ?_
  unfold drawR at h
  split at h
  · exact h.elim
  rename_i Bs hBs
  have h := forceB_eq h
  split at h
  · exact h.elim
  rename_i hnd
  have h := forceN1_eq h
  have hops : ops = ops.toList.toArray := by simp
  rw [hops]
  have hz : ∀ i, (Array.replicate ops.toList.toArray.size false).getD i false = false := by
    intro i
    simp only [Array.getD_eq_getD_getElem?, Array.getElem?_replicate]
    split <;> rfl
  obtain ⟨ρ, hs⟩ := hsat
  exact drawQ_sound (su := su) hE hcall hBs hnd (fun S' a' w' hk hs' => ⟨.normal, S', trivial, hk, hs'⟩) _ 0 S _ _ a _ (dQ6_eq ▸ h) (Nat.zero_le _) (by simp) (by simp) (fun i _ => by rw [hz]; simp) ⟨ρ, hs.drawn (w.drawn + 1)⟩
end
end Go.Ev

namespace Go.Ev
/-! ## Regions whose order is drawn: what hangs on nothing that turns is taken first -/
def inertV (F : List (Nat × MV)) (n : Nat) (o : Oper) : Option (Nat × MV) :=
  match o.guard, o.dst, o.op with
  | none, some d, .move x => match Nat.blt d n with
    | true => match opd F [] x with
      | some m => match noGd m with
        | true => some (d, m)
        | false => none
      | none => none
    | false => none
  | none, some d, .binOp b _ x y _ => match Nat.blt d n with
    | true => match opd F [] x, opd F [] y with
      | some (.i k p), some (.i k' q) => match sameInt k k' with
        | true => match evInt b k p q with
          | some (.i l r) => some (d, .i l r)
          | some (.b r) => some (d, .b r)
          | _ => none
        | false => none
      | _, _ => none
    | false => none
  | _, _, _ => none
def guardsL : List Oper → List Nat
  | [] => []
  | o :: r => match o.guard with
    | some (g, _) => g :: guardsL r
    | none => guardsL r
def takeG (n : Nat) (ops : Array Oper) (gs : List Nat) : List Nat → List Nat → Array Bool → List (Nat × MV) → List Nat × List (Nat × MV)
  | [], I, _, F => (I, F)
  | i :: r, I, L, F => match ops[i]? with
    | none => takeG n ops gs r I L F
    | some o => match inertV F n o with
      | none => takeG n ops gs r I L F
      | some (d, m) => match memN gs i || !(Region.ready .any ops L).contains i || !Region.free .any ops L i with
        | true => takeG n ops gs r I L F
        | false => takeG n ops gs r (i :: I) (L.setIfInBounds i true) (putL F d m)
def edgesT : List Nat → Nat → List Edge
  | [], _ => []
  | c :: r, i => match Nat.blt c i with
    | true => ⟨c, .data⟩ :: edgesT r i
    | false => edgesT r i
theorem mem_edgesT : ∀ {I : List Nat} {i : Nat} {e : Edge}, e ∈ edgesT I i → e.on ∈ I
  | [], _, _, h => by cases h
  | c :: r, i, e, h => by
    unfold edgesT at h
    split at h
    · rcases List.mem_cons.1 h with rfl | h
      · simp
      · exact List.mem_cons_of_mem _ (mem_edgesT h)
    · exact List.mem_cons_of_mem _ (mem_edgesT h)
def addE (I : List Nat) (i : Nat) (o : Oper) : Oper := ⟨o.dst, o.op, o.type, o.pos, ⟨o.after.toList ++ edgesT I i⟩, o.guard⟩
def blankO (I : List Nat) : Nat → List Oper → List Oper
  | _, [] => []
  | i, o :: r => match memN I i with
    | true => ⟨none, .move (.const (.bool false)), o.type, o.pos, #[], none⟩ :: blankO I (i + 1) r
    | false => addE I i o :: blankO I (i + 1) r
theorem blankO_get {I : List Nat} : ∀ {l : List Oper} {k i : Nat}, (blankO I k l)[i]? = (l[i]?).map fun o => if memN I (k + i) = true then ⟨none, .move (.const (.bool false)), o.type, o.pos, #[], none⟩ else addE I (k + i) o
  | [], k, i => by simp [blankO]
  | o :: r, k, i => by
    unfold blankO
    cases i with
    | zero =>
      split
      · rename_i h; simp [h]
      · rename_i h; simp [h]
    | succ i =>
      have := blankO_get (I := I) (l := r) (k := k + 1) (i := i)
      rw [show k + 1 + i = k + (i + 1) by omega] at this
      split <;> simpa using this
theorem blankO_len {I : List Nat} : ∀ {l : List Oper} {k : Nat}, (blankO I k l).length = l.length
  | [], k => rfl
  | o :: r, k => by
    unfold blankO
    split <;> simp [blankO_len (I := I) (l := r)]
theorem inertV_yields {E : Env} {F : List (Nat × MV)} {n : Nat} {o : Oper} {d : Nat} {m : MV} (h : inertV F n o = some (d, m)) {ops : Array Oper} {w : World} {ρ : RhoT} {ok : OkT} {a : Act} (hF : FrOK w G0 ρ ok F a) :
    ∃ v, Yields E.P ops o v a ∧ o.dst = some d ∧ d < n ∧ Rep w G0 ρ ok m v := by
  have hg0 : Holds G0 [] := fun x hx => by simp at hx
  obtain ⟨dst, op, ty, pos, after, guard⟩ := o
  unfold inertV at h
  dsimp only at h
  split at h
  · rename_i d' x
    split at h
    · rename_i hd
      split at h
      · rename_i m' hm
        split at h
        · cases h
          exact ⟨a.eval x, .inl ⟨rfl, fun w => rfl⟩, rfl, by simpa using hd, opd_rep hF hg0 hm⟩
        · cases h
      · cases h
    · cases h
  · rename_i d' b t x y u
    split at h
    · rename_i hd
      split at h
      · rename_i k p k' q hx hy
        split at h
        · rename_i hk
          have hk := sameInt_eq hk
          subst hk
          have rx := opd_rep hF hg0 hx
          have ry := opd_rep hF hg0 hy
          generalize hvx : a.eval x = vx at rx
          generalize hvy : a.eval y = vy at ry
          cases rx
          cases ry
          have key : ∀ m', evInt b k p q = some m' → (∀ v, Rep w G0 ρ ok m' v → ∀ w' v', Rep w' G0 ρ ok m' v' → v' = v) →
              ∃ v, Yields E.P ops ⟨some d', .binOp b t x y u, ty, pos, after, none⟩ v a ∧ Rep w G0 ρ ok m' v := by
            intro m' hm' hone
            obtain ⟨v, e, r⟩ := evInt_sound (P := E.P) (t := t) hm' w (G := G0) (ρ := ρ) (ok := ok)
            refine ⟨v, .inl ⟨rfl, fun w' => ?_⟩, r⟩
            obtain ⟨v', e', r'⟩ := evInt_sound (P := E.P) (t := t) hm' w' (G := G0) (ρ := ρ) (ok := ok)
            have := hone v r w' v' r'
            subst this
            have g := run_eqGuard (P := E.P) (w := w') (op := b) (t := t) (x := x) (y := y) (a := .int k p) (b := .int k q) (by simp) (by simp)
            simp only [execOp, Sem.run_bind, hvx, hvy, g, e', Result.andThen_ok, Sem.run_pure]
          split at h
          · rename_i l r hm
            cases h
            obtain ⟨v, hy, hr⟩ := key _ hm (fun v r w' v' r' => by cases r; cases r'; rfl)
            exact ⟨v, hy, rfl, by simpa using hd, hr⟩
          · rename_i r hm
            cases h
            obtain ⟨v, hy, hr⟩ := key _ hm (fun v r w' v' r' => by cases r; cases r'; rfl)
            exact ⟨v, hy, rfl, by simpa using hd, hr⟩
          · cases h
        · cases h
      · cases h
    · cases h
  · cases h
theorem takeG_len {n : Nat} {ops : Array Oper} {gs : List Nat} : ∀ {is I : List Nat} {L : Array Bool} {F : List (Nat × MV)} {I' : List Nat} {F' : List (Nat × MV)}, takeG n ops gs is I L F = (I', F') → I.length ≤ I'.length
  | [], I, L, F, I', F', h => by cases h; exact Nat.le_refl _
  | i :: r, I, L, F, I', F', h => by
    unfold takeG at h
    split at h
    · exact takeG_len h
    · split at h
      · exact takeG_len h
      · split at h
        · exact takeG_len h
        · have := takeG_len h
          simp at this; omega
theorem memN_of : ∀ {l : List Nat} {i : Nat}, i ∈ l → memN l i = true
  | x :: l, i, h => by
    unfold memN
    split
    · rfl
    · rename_i e
      rcases List.mem_cons.1 h with rfl | h
      · simp at e
      · exact memN_of h
structure Taken (gs : List Nat) (size : Nat) (I : List Nat) (L : Array Bool) : Prop where
  size : L.size = size
  mem : ∀ i, L.getD i false = true ↔ i ∈ I
  nodup : I.Nodup
  gs : ∀ i ∈ I, memN gs i = false
theorem takeG_sound {E : Env} {cx : Cx} {su : Sus} {n : Nat} {ops : Array Oper} {gs : List Nat} {stk : List (List (Nat × MV))} {H : List (Nat × Blk)} {nx : Nat} {w : World} {ρ : RhoT} {Q : Exit → Act → World → Prop} (hs : Region.noSelect ops = true)
    (hQ : ∀ c a w, ¬ Q (.panic c) a w) {I' : List Nat} {F' : List (Nat × MV)} {fuel : Nat} (hfu : I'.length ≤ fuel)
    (hk : ∀ a' L', SatR cx su n G0 ⟨F', stk, H, nx⟩ a' w ρ → Taken gs ops.size I' L' → wpAny E.P .any ops Q (fuel - I'.length) L' a' w) :
    ∀ {is I : List Nat} {L : Array Bool} {F : List (Nat × MV)} {a : Act}, takeG n ops gs is I L F = (I', F') → SatR cx su n G0 ⟨F, stk, H, nx⟩ a w ρ → Taken gs ops.size I L → wpAny E.P .any ops Q (fuel - I.length) L a w
  | [], I, L, F, a, h, hsat, hT => by
    cases h
    exact hk a L hsat hT
  | i :: r, I, L, F, a, h, hsat, hT => by
    unfold takeG at h
    split at h
    · exact takeG_sound hs hQ hfu hk h hsat hT
    · rename_i o ho
      split at h
      · exact takeG_sound hs hQ hfu hk h hsat hT
      · rename_i d m hv
        split at h
        · exact takeG_sound hs hQ hfu hk h hsat hT
        · rename_i hc
          simp only [Bool.or_eq_false_iff, Bool.not_eq_false'] at hc
          obtain ⟨v, hy, hd, hdn, hr⟩ := inertV_yields (E := E) hv (ops := ops) hsat.F.frame
          have hlt : i < ops.size := (Array.getElem?_eq_some_iff.1 ho).1
          have hready := hc.1.2
          have hun : L.getD i true = false := by
            have : i ∈ Region.ready .any ops L := by simpa using hready
            exact (mem_ready.1 this).1
          have hni : i ∉ I := by
            intro hi
            have h1 := (hT.mem i).2 hi
            have hsz := hT.size
            simp only [Array.getD_eq_getD_getElem?] at h1 hun
            rw [Array.getElem?_eq_getElem (by omega)] at h1 hun
            simp at h1 hun
            rw [h1] at hun; cases hun
          have hlen := takeG_len h
          rw [show fuel - I.length = (fuel - (i :: I).length) + 1 by simp at hlen ⊢; omega]
          refine wpAny_take ho hs hc.2 hready (fun c a w h => absurd h (hQ c _ w)) hy ?_
          have hsat' : SatR cx su n G0 ⟨putL F d m, stk, H, nx⟩ (a.put o.dst v) w ρ := by
            rw [hd]
            exact ⟨hsat.W, ⟨by simpa [Act.put] using hsat.F.defers, by simpa [Act.put] using hsat.F.size, hsat.F.frame.put (by rw [hsat.F.size]; exact hdn) hr⟩, hsat.K⟩
          refine takeG_sound hs hQ hfu hk h hsat' ⟨by simpa using hT.size, fun j => ?_, List.nodup_cons.2 ⟨hni, hT.nodup⟩, fun j hj => ?_⟩
          · by_cases hij : i = j
            · subst hij
              have := hT.size
              simp [Array.getD_eq_getD_getElem?, this, hlt]
            · rw [getD_set_ne false hij, hT.mem j]
              simp [Ne.symm hij]
          · rcases List.mem_cons.1 hj with rfl | hj
            · exact hc.1.1
            · exact hT.gs j hj
/-! ### What was taken is struck out of the region -/
theorem guardsL_mem {o : Oper} {g : Nat} {b : Bool} (hg : o.guard = some (g, b)) {l : List Oper} (h : o ∈ l) : memN (guardsL l) g = true := by
  induction l with
  | nil => cases h
  | cons x l ih =>
    show memN (match x.guard with | some (g', _) => g' :: guardsL l | none => guardsL l) g = true
    rcases List.mem_cons.1 h with e | h
    · rw [← e, hg]
      exact memN_of (by simp)
    · have := ih h
      cases hx : x.guard with
      | none => exact this
      | some gw => exact memN_of (List.mem_cons_of_mem _ (memN_mem this))
theorem blank_get {I : List Nat} {ops : List Oper} {i : Nat} (h : i ∉ I) : (blankO I 0 ops).toArray[i]? = (ops.toArray[i]?).map (addE I i) := by
  simp only [List.getElem?_toArray]
  rw [blankO_get, Nat.zero_add]
  cases e : ops[i]? with
  | none => rfl
  | some o =>
    have : memN I i = false := by
      cases hm : memN I i
      · rfl
      · exact absurd (memN_mem hm) h
    simp [this]
theorem ready_blank {md : Region.Mode} {I : List Nat} {ops : List Oper} {L : Array Bool} (hsz2 : ∀ i ∈ I, i < L.size) (hL : ∀ i ∈ I, L.getD i true = true) : Region.ready md (blankO I 0 ops).toArray L = Region.ready md ops.toArray L := by
  unfold Region.ready
  have hsz : (blankO I 0 ops).toArray.size = ops.toArray.size := by simp [blankO_len]
  rw [hsz]
  refine List.filter_congr fun i _ => ?_
  by_cases hi : i ∈ I
  · rw [hL i hi]; rfl
  · rw [blank_get hi]
    cases e : ops.toArray[i]? with
    | none => rfl
    | some o =>
      have : ((addE I i o).after.all fun e => !Region.binds md e || L.getD e.on false) = (o.after.all fun e => !Region.binds md e || L.getD e.on false) := by
        rw [Bool.eq_iff_iff]
        simp only [Array.all_eq_true_iff_forall_mem]
        constructor
        · intro h e he
          exact h e (by simp [addE, he])
        · intro h e he
          have he : e ∈ o.after.toList ++ edgesT I i := by simpa [addE] using he
          rcases List.mem_append.1 he with he | he
          · exact h e (by simpa using he)
          · have h1 := hL _ (mem_edgesT he)
            have h2 : L.getD e.on false = true := by
              rcases Nat.lt_or_ge e.on L.size with h3 | h3
              · simpa [Array.getD_eq_getD_getElem?, h3] using h1
              · exact absurd h3 (by have := hsz2 _ (mem_edgesT he); omega)
            simp [h2]
      simp only [Option.map_some, Option.getD_some, this]
theorem wpAny_blank {P : Program} {md : Region.Mode} {Q : Exit → Act → World → Prop} {I : List Nat} {ops : List Oper} (hg : ∀ i ∈ I, memN (guardsL ops) i = false) :
    ∀ (fuel : Nat) (L : Array Bool) (a : Act) (w : World), (∀ i ∈ I, i < L.size) → (∀ i ∈ I, L.getD i true = true) → wpAny P md (blankO I 0 ops).toArray Q fuel L a w → wpAny P md ops.toArray Q fuel L a w := by
  intro fuel
  induction fuel with
  | zero =>
    intro L a w hz hL h
    refine ⟨by rw [← ready_blank hz hL]; exact h.1, h.2⟩
  | succ fuel ih =>
    intro L a w hz hL h
    refine ⟨fun hr => h.1 (by rw [ready_blank hz hL]; exact hr), fun i hi => ?_⟩
    have hni : i ∉ I := fun hI => by
      have h0 := (mem_ready.1 hi).1
      rw [hL i hI] at h0; cases h0
    have h1 := h.2 i (by rw [ready_blank hz hL]; exact hi)
    have hz' : ∀ j ∈ I, j < (L.setIfInBounds i true).size := fun j hj => by simpa using hz j hj
    have hL' : ∀ j ∈ I, (L.setIfInBounds i true).getD j true = true := fun j hj => by
      by_cases hij : i = j
      · subst hij; exact absurd hj hni
      · rw [getD_set_ne true hij]; exact hL j hj
    unfold wpOp at h1 ⊢
    rw [blank_get hni] at h1
    split
    · rename_i e; simp only [e, Option.map_none] at h1; exact ih _ _ _ hz' hL' h1
    · rename_i o ho
      simp only [ho, Option.map_some] at h1
      have ew : (addE I i o).wp P a w = o.wp P a w := rfl
      have ea : (addE I i o).asks P a w = o.asks P a w := rfl
      have eg : ∀ y, Region.wanted (addE I i o) y = Region.wanted o y := fun _ => rfl
      have ed : (addE I i o).dst = o.dst := rfl
      rw [eg, ew, ea, ed] at h1
      have hy : Region.wanted o (yielded (blankO I 0 ops).toArray a.tmps) = Region.wanted o (yielded ops.toArray a.tmps) := by
        unfold Region.wanted
        cases hgd : o.guard with
        | none => rfl
        | some gw =>
          obtain ⟨g, want⟩ := gw
          have hgm : memN (guardsL ops) g = true := guardsL_mem (o := o) (b := want) hgd (by
            have : ops[i]? = some o := by simpa using ho
            exact List.mem_of_getElem? this)
          have hgi : g ∉ I := fun hI => by rw [hg g hI] at hgm; cases hgm
          dsimp only
          unfold yielded
          rw [blank_get hgi]
          cases ops.toArray[g]? <;> rfl
      rw [hy] at h1
      split
      · rename_i hw
        simp only [hw, if_true] at h1
        exact h1.imp (Oper.wp_mono fun a w h => ih _ _ _ hz' hL' h) id
      · rename_i hw
        simp only [hw] at h1
        exact ih _ _ _ hz' hL' h1
theorem asks_move {P : Program} {o : Oper} {x : Operand} (h : o.op = .move x) (a : Act) (w : World) : ¬ o.asks P a w := by
  obtain ⟨dst, op, ty, pos, after, guard⟩ := o
  dsimp only at h
  subst h
  rintro ⟨h, _⟩
  have h' : noRoomEvent ∈ (#[] : Array Event) := h
  simp at h'
theorem wpAny_skip {P : Program} {md : Region.Mode} {Q : Exit → Act → World → Prop} {I : List Nat} {ops : List Oper} {fuel : Nat} {a : Act} {w : World} : ∀ {is : List Nat} {L : Array Bool}, (∀ i ∈ is, i ∈ I) → (∀ i ∈ is, i < ops.length) → is.Nodup → (∀ i ∈ is, L.getD i true = false) → L.size = ops.length →
    wpAny P md (blankO I 0 ops).toArray Q (fuel + is.length) L a w → wpAny P md (blankO I 0 ops).toArray Q fuel (is.foldl (fun L i => L.setIfInBounds i true) L) a w
  | [], L, _, _, _, _, _, h => by simpa using h
  | i :: is, L, hI, hlt, hnd, hun, hsz, h => by
    have h0 := hlt i (by simp)
    have hget : (blankO I 0 ops).toArray[i]? = some ⟨none, .move (.const (.bool false)), (ops[i]'h0).type, (ops[i]'h0).pos, #[], none⟩ := by
      simp only [List.getElem?_toArray]
      rw [blankO_get, Nat.zero_add, List.getElem?_eq_getElem h0]
      simp [memN_of (hI i (by simp))]
    have hr : i ∈ Region.ready md (blankO I 0 ops).toArray L := mem_ready.2 ⟨hun i (by simp), _, hget, fun e he => by simp at he⟩
    rw [show fuel + (i :: is).length = (fuel + is.length) + 1 by simp; omega] at h
    have h1 := h.2 i hr
    unfold wpOp at h1
    simp only [hget] at h1
    rw [if_pos (by rfl)] at h1
    have h2 : wpAny P md (blankO I 0 ops).toArray Q (fuel + is.length) (L.setIfInBounds i true) a w := by
      rcases h1 with h1 | h1
      · simpa [Oper.wp, Oper.upon, execOp, Act.put] using h1
      · exact absurd h1.1 (asks_move rfl a w)
    have hnd' := List.nodup_cons.1 hnd
    refine wpAny_skip (is := is) (fun j hj => hI j (by simp [hj])) (fun j hj => hlt j (by simp [hj])) hnd'.2 (fun j hj => ?_) (by simpa using hsz) h2
    rw [getD_set_ne true (fun e => hnd'.1 (by rw [e]; exact hj))]
    exact hun j (by simp [hj])
theorem drawR_any {E : Env} (hE : EnvAll E) {cx : Cx} {n : Nat} {call : CallT} (hcall : CallH E.P cx call) {ops : List Oper} {S : St} {K : Ex → St → Prop} (h : drawR E call n ops S (K .normal)) {su : Sus} {a : Act} {w : World} (hsat : Sat cx su n G0 S a w) :
    wpAny E.P .any ops.toArray (fun e a' w' => ∃ x S', exitIs e x ∧ K x S' ∧ Sat cx su n G0 S' a' w') ops.length (Array.replicate ops.length false) a w := by
  unfold drawR at h
  split at h
  · exact h.elim
  rename_i Bs hBs
  have h := forceB_eq h
  split at h
  · exact h.elim
  rename_i hnd
  have h := forceN1_eq h
  have hz : ∀ i, (Array.replicate ops.length false).getD i false = false := by
    intro i
    simp only [Array.getD_eq_getD_getElem?, Array.getElem?_replicate]
    split <;> rfl
  exact drawQ_sound (su := su) hE hcall hBs hnd (fun S' a' w' hk hs' => ⟨.normal, S', trivial, hk, hs'⟩) _ 0 S _ _ a _ (dQ6_eq ▸ h) (Nat.zero_le _) (by simp) (by simp) (fun i _ => by rw [hz]; simp) hsat
def drawI (E : Env) (call : CallT) (n : Nat) (ops : List Oper) (S : St) (K : St → Prop) : Prop := match S with
  | ⟨F, stk, H, nx⟩ => match Region.noSelect ops.toArray with
    | false => False
    | true => match takeG n ops.toArray (guardsL ops) (List.range ops.length) [] (Array.replicate ops.length false) F with
      | (I, F') => match Nat.ble I.length ops.length with
        | false => False
        | true => forceF F' fun F' => drawR E call n (blankO I 0 ops) ⟨F', stk, H, nx⟩ K
theorem foldl_set_get {is : List Nat} : ∀ {L : Array Bool} {i : Nat}, (is.foldl (fun L i => L.setIfInBounds i true) L).getD i false = (L.getD i false || (decide (i ∈ is) && decide (i < L.size))) := by
  induction is with
  | nil => intro L i; simp
  | cons x is ih =>
    intro L i
    rw [List.foldl_cons, ih]
    by_cases hx : x = i
    · subst hx
      by_cases hl : x < L.size
      · simp [Array.getD_eq_getD_getElem?, hl]
      · simp [Array.getD_eq_getD_getElem?, hl]
    · rw [getD_set_ne false hx]
      simp [Ne.symm hx]
theorem foldl_set_size {is : List Nat} : ∀ {L : Array Bool}, (is.foldl (fun L i => L.setIfInBounds i true) L).size = L.size := by
  induction is with
  | nil => intro L; rfl
  | cons x is ih => intro L; rw [List.foldl_cons, ih]; simp
theorem drawI_sound {E : Env} (hE : EnvAll E) (hm : E.P.follows .mixedOrders = true) {cx : Cx} {n : Nat} {call : CallT} (hcall : CallH E.P cx call) {id : Nat} {ops : Array Oper} {S : St} {K : Ex → St → Prop} (h : drawI E call n ops.toList S (K .normal)) :
    CodeOK E.P cx n (.region id ops true) S K := by
  intro su a w hsat
  refine wp_region_any hm ?_
  obtain ⟨F, stk, H, nx⟩ := S
  unfold drawI at h
  dsimp only at h
  split at h
  · exact h.elim
  rename_i hns
  generalize htk : takeG n ops.toList.toArray (guardsL ops.toList) (List.range ops.toList.length) [] (Array.replicate ops.toList.length false) F = p at h
  obtain ⟨I, F'⟩ := p
  dsimp only at h
  split at h
  · exact h.elim
  rename_i hble
  have hble : I.length ≤ ops.toList.length := by simpa using hble
  have h := forceF_eq h
  have hops : ops = ops.toList.toArray := by simp
  obtain ⟨ρ, hs⟩ := hsat
  have hs1 := hs.drawn (w.drawn + 1)
  generalize hl : ops.toList = l at *
  subst hops
  simp only [List.size_toArray] at *
  have hT0 : Taken (guardsL l) l.toArray.size [] (Array.replicate l.length false) := by
    refine ⟨by simp, fun i => ?_, List.nodup_nil, fun i hi => by simp at hi⟩
    simp only [Array.getD_eq_getD_getElem?, Array.getElem?_replicate]
    split <;> simp
  have := takeG_sound (E := E) (fuel := l.length) hns (Q := fun e a' w' => ∃ x S', exitIs e x ∧ K x S' ∧ Sat cx su n G0 S' a' w') (fun c a w ⟨x, S', h1, _⟩ => by cases x <;> exact h1) hble ?_ htk hs1 hT0
  · simpa using this
  · intro a' L' hs' hT
    have hlt : ∀ i ∈ I, i < l.length := by
      intro i hi
      have h1 := (hT.mem i).2 hi
      have h2 := hT.size
      simp only [List.size_toArray] at h2
      rcases Nat.lt_or_ge i l.length with h3 | h3
      · exact h3
      · simp [Array.getD_eq_getD_getElem?, Array.getElem?_eq_none (show L'.size ≤ i by omega)] at h1
    have r1 := drawR_any hE hcall h (su := su) ⟨ρ, hs'⟩
    rw [blankO_len] at r1
    have r2 := wpAny_skip (fuel := l.length - I.length) (is := I) (I := I) (L := Array.replicate l.length false) (fun i hi => hi) hlt hT.nodup (fun i hi => by
      have := hlt i hi
      simp [Array.getD_eq_getD_getElem?, Array.getElem?_replicate, this]) (by simp) (by rw [show l.length - I.length + I.length = l.length by omega]; exact r1)
    have hL : List.foldl (fun L i => L.setIfInBounds i true) (Array.replicate l.length false) I = L' := by
      have hsz := hT.size
      simp only [List.size_toArray] at hsz
      apply Array.ext
      · rw [foldl_set_size, hsz]; simp
      · intro i h1 h2
        have e1 := foldl_set_get (is := I) (L := Array.replicate l.length false) (i := i)
        have e2 := hT.mem i
        simp only [Array.getD_eq_getD_getElem?, Array.getElem?_eq_getElem h1, Array.getElem?_eq_getElem h2, Option.getD_some, Array.getElem?_replicate] at e1 e2
        have h3 : i < l.length := by omega
        simp only [h3, if_true, Option.getD_some, Bool.false_or, Array.size_replicate, decide_true, Bool.and_true] at e1
        rw [e1]
        by_cases hi : i ∈ I
        · simp [hi, e2.2 hi]
        · cases hq : L'[i]
          · simp [hi]
          · exact absurd (e2.1 hq) hi
    rw [hL] at r2
    exact wpAny_blank (fun i hi => hT.gs i hi) _ _ _ _ (fun i hi => by
      have h2 := hlt i hi
      have h3 := hT.size
      simp only [List.size_toArray] at h3
      omega) (fun i hi => by
      have h1 := (hT.mem i).2 hi
      have h2 := hlt i hi
      have h3 := hT.size
      simp only [List.size_toArray] at h3
      simp only [Array.getD_eq_getD_getElem?] at h1 ⊢
      rw [Array.getElem?_eq_getElem (by omega)] at h1 ⊢
      exact h1) r2
end Go.Ev

namespace Go.Ev
/-! ## A list of nothing as the first state of one that grows -/
theorem Sat.phan {cx : Cx} {su : Sus} {n : Nat} {F : List (Nat × MV)} {stk : List (List (Nat × MV))} {H : List (Nat × Blk)} {nx : Nat} {a : Act} {w : World} (h : Sat cx su n G0 ⟨F, stk, H, nx⟩ a w) (sz : Nat) (g : Nat → List MV) :
    Sat cx su n G0 ⟨F, stk, (nx, .rows sz 0 g) :: H, nx + 1⟩ a w := by
  obtain ⟨ρ, hs⟩ := h
  refine ⟨ρ, ⟨hs.W.below, hs.W.inj, hs.W.rng, fun id blk hl => ?_, fun i hi => hs.W.nx i (by dsimp only at hi ⊢; omega), fun id blk hl => ?_, hs.W.okA⟩, hs.F, hs.K⟩
  · dsimp only at hl ⊢
    simp only [look] at hl
    split at hl
    · rename_i e
      have := Nat.eq_of_beq_eq_true e
      omega
    · have := hs.W.hlt id blk hl
      dsimp only at this
      omega
  · dsimp only at hl
    simp only [look] at hl
    split at hl
    · rename_i e
      have := Nat.eq_of_beq_eq_true e
      subst this
      cases hl
      exact .inl ⟨rfl, hs.W.nx _ (Nat.le_refl _)⟩
    · exact hs.W.blocks id blk hl
def phanS (sz : Nat) : St → St
  | ⟨F, stk, H, nx⟩ => ⟨F, stk, (nx, .rows sz 0 fun _ => []) :: H, nx + 1⟩
/-! ## What is yielded: one list of memory of its own -/
def fin1 (id : Nat) : MV → MV → Prop
  | .os i s lo n, m => match Nat.beq i id with
    | true => match m with
      | .os 0 s' lo' n' => Side (s = s' ∧ lo = lo' ∧ n = n')
      | .und => True
      | _ => False
    | false => match m with
      | .und => True
      | _ => False
  | .oc i s n c, m => match Nat.beq i id with
    | true => match m with
      | .os 0 s' lo' n' => Side (s = s' ∧ 0 = lo' ∧ n = n')
      | .oc 0 s' n' c' => Side (s = s' ∧ n = n' ∧ c = c')
      | .und => True
      | _ => False
    | false => match m with
      | .und => True
      | _ => False
  | .nils, .os 0 _ _ n => Side (n = 0)
  | .nils, .nils => True
  | .nilp, .nilp => True
  | .lb x, .b y => Side (x = y)
  | .b x, .b y => Side (x = y)
  | .i k n, .i k' n' => Side (k = k' ∧ n = n')
  | .f k x, .f k' y => Side (k = k' ∧ x = y)
  | _, .und => True
  | _, _ => False
def finL (id : Nat) : List MV → List MV → Prop
  | [], [] => True
  | x :: r, y :: s => fin1 id x y ∧ finL id r s
  | _, _ => False
def fin2 (id : Nat) : MV → MV → Prop
  | .agg l, .agg l' => finL id l l'
  | a, b => fin1 id a b
def finL2 (id : Nat) : List MV → List MV → Prop
  | [], [] => True
  | x :: r, y :: s => fin2 id x y ∧ finL2 id r s
  | _, _ => False
def finM (id : Nat) : MV → MV → Prop
  | .tup l, .tup l' => finL2 id l l'
  | a, b => fin2 id a b
theorem fin1_rep {id : Nat} {m m' : MV} (h : fin1 id m m') {w : World} {ρ ρ' : RhoT} {ok ok' : OkT} (hρ : ρ' 0 = ρ id) {v : Value} (r : Rep w G0 ρ ok m v) : Rep w G0 ρ' ok' m' v := by
  unfold fin1 at h
  split at h
  · split at h
    · rename_i e
      have := Nat.eq_of_beq_eq_true e
      subst this
      split at h
      · obtain ⟨rfl, rfl, rfl⟩ := h.h
        cases r with
        | os id sz lo n blk cap off c T h1 h2 h3 h4 h5 => exact .os _ _ _ _ _ _ _ _ _ (hρ.trans h1) h2 h3 h4 h5
        | osnil => exact .osnil _ _ _
      · exact .und _
      · exact h.elim
    · split at h
      · exact .und _
      · exact h.elim
  · split at h
    · rename_i e
      have := Nat.eq_of_beq_eq_true e
      subst this
      split at h
      · obtain ⟨rfl, rfl, rfl⟩ := h.h
        have r := r.norm
        unfold normO at r
        cases r with
        | os id sz lo n blk cap off c T h1 h2 h3 h4 h5 => exact .os _ _ _ _ _ _ _ _ _ (hρ.trans h1) h2 h3 h4 h5
        | osnil => exact .osnil _ _ _
      · obtain ⟨rfl, rfl, rfl⟩ := h.h
        cases r with
        | oc id sz n room blk cap off c T h1 h2 h3 h4 h5 h6 => exact .oc _ _ _ _ _ _ _ _ _ (hρ.trans h1) h2 h3 h4 h5 h6
        | ocnil => exact .ocnil _ _
      · exact .und _
      · exact h.elim
    · split at h
      · exact .und _
      · exact h.elim
  · have := h.h; subst this; cases r; exact .osnil _ _ _
  · cases r; exact .nils
  · cases r; exact .nilp
  · have := h.h; subst this; cases r; exact .b _
  · have := h.h; subst this; cases r; exact .b _
  · obtain ⟨rfl, rfl⟩ := h.h; cases r; exact .i _ _
  · obtain ⟨rfl, rfl⟩ := h.h; cases r with | f _ _ _ h => exact .f _ _ _ h
  · exact .und _
  · exact h.elim
theorem finL_spec {id : Nat} : ∀ {l l' : List MV}, finL id l l' → l.length = l'.length ∧ ∀ j, j < l.length → fin1 id (getM l j) (getM l' j)
  | [], [], _ => ⟨rfl, fun j hj => by simp at hj⟩
  | x :: r, y :: s, h => by
    obtain ⟨h1, h2⟩ := finL_spec h.2
    refine ⟨by simp [h1], fun j hj => ?_⟩
    cases j with
    | zero => simpa [getM] using h.1
    | succ j => simpa [getM] using h2 j (by simpa using hj)
  | [], _ :: _, h => h.elim
  | _ :: _, [], h => h.elim
theorem fin2_rep {id : Nat} {m m' : MV} (h : fin2 id m m') {w : World} {ρ ρ' : RhoT} {ok ok' : OkT} (hρ : ρ' 0 = ρ id) {v : Value} (r : Rep w G0 ρ ok m v) : Rep w G0 ρ' ok' m' v := by
  unfold fin2 at h
  split at h
  · obtain ⟨h1, h2⟩ := finL_spec h
    cases r with
    | agg _ vs hl hr => exact .agg _ _ (h1.symm.trans hl) fun j hj => fin1_rep (h2 j (by omega)) hρ (hr j (by omega))
  · exact fin1_rep h hρ r
theorem finL2_spec {id : Nat} : ∀ {l l' : List MV}, finL2 id l l' → l.length = l'.length ∧ ∀ j, j < l.length → fin2 id (getM l j) (getM l' j)
  | [], [], _ => ⟨rfl, fun j hj => by simp at hj⟩
  | x :: r, y :: s, h => by
    obtain ⟨h1, h2⟩ := finL2_spec h.2
    refine ⟨by simp [h1], fun j hj => ?_⟩
    cases j with
    | zero => simpa [getM] using h.1
    | succ j => simpa [getM] using h2 j (by simpa using hj)
  | [], _ :: _, h => h.elim
  | _ :: _, [], h => h.elim
theorem finM_rep {id : Nat} {m m' : MV} (h : finM id m m') {w : World} {ρ ρ' : RhoT} {ok ok' : OkT} (hρ : ρ' 0 = ρ id) {v : Value} (r : Rep w G0 ρ ok m v) : Rep w G0 ρ' ok' m' v := by
  unfold finM at h
  split at h
  · obtain ⟨h1, h2⟩ := finL2_spec h
    cases r with
    | tup _ vs hl hr => exact .tup _ _ (h1.symm.trans hl) fun j hj => fin2_rep (h2 j (by omega)) hρ (hr j (by omega))
  · exact fin2_rep h hρ r
theorem FinS.rows {S : St} {m0 m : MV} {sz n : Nat} {g : Nat → List MV} (id : Nat) (hb : match look S.H id with
      | some (.rows s' n' g') => Side (s' = sz ∧ n' = n ∧ ∀ i, i < n → ∀ j, j < sz → getM (g' i) j = getM (g i) j)
      | _ => False) (hm : finM id m0 m) : FinS S m0 m [.rows sz n g] := by
  split at hb
  · rename_i s' n' g' hl
    obtain ⟨rfl, rfl, hg⟩ := hb.h
    refine ⟨fun cx ρ w v hW r => ⟨fun i => match i with | 0 => ρ id | _ + 1 => none, ⟨hW.below, ?_, ?_, ?_, ?_, ?_, hW.okA⟩, finM_rep hm rfl r⟩⟩
    · intro i j b h1 h2
      cases i <;> cases j <;> simp_all
    · intro i b h
      cases i with
      | zero => exact hW.rng id b h
      | succ i => cases h
    · intro i blk h
      simp only [idxH, look] at h
      split at h
      · rename_i e; have := Nat.eq_of_beq_eq_true e; subst this; simp
      · cases h
    · intro i hi
      cases i with
      | zero => simp at hi
      | succ i => rfl
    · intro i blk h
      simp only [idxH, look] at h
      split at h
      · rename_i e
        have := Nat.eq_of_beq_eq_true e
        subst this
        cases h
        rcases hW.blocks id _ hl with ⟨h1, h2⟩ | ⟨b, c, T, h1, h2, h3, h5, h4⟩
        · exact .inl ⟨h1, h2⟩
        · refine .inr ⟨b, c, T, h1, h2, h3, h5, fun i hi j hj => ?_⟩
          rw [← hg i hi j hj]
          refine (h4 i hi j hj).mono (Keeps.refl w) (fun _ _ _ e => e) (fun _ _ e => e) fun b hb => ⟨?_, rfl⟩
          rcases hb with hb | hb
          · exact .inl hb
          · refine .inr ⟨hb.1, hb.2.1, fun i hi => ?_⟩
            cases i with
            | zero => exact hb.2.2 id hi
            | succ i => cases hi
      · cases h
  · exact hb.elim
theorem FinS.rows0 {S : St} {m0 m : MV} {sz n : Nat} {g : Nat → List MV} (hn : Side (n = 0)) (hm : finM S.nx m0 m) : FinS S m0 m [.rows sz n g] := by
  have := hn.h
  subst this
  refine ⟨fun cx ρ w v hW r => ⟨rho0, ⟨hW.below, fun i j b h => (by cases h), fun i b h => (by cases h), fun i blk h => ?_, fun i _ => rfl, fun i blk h => ?_, hW.okA⟩, finM_rep hm (hW.nx _ (Nat.le_refl _)).symm r⟩⟩
  · simp only [idxH, look] at h
    split at h
    · rename_i e; have := Nat.eq_of_beq_eq_true e; subst this; simp
    · cases h
  · simp only [idxH, look] at h
    split at h
    · rename_i e; have := Nat.eq_of_beq_eq_true e; subst this
      cases h
      exact .inl ⟨rfl, rfl⟩
    · cases h
theorem FinS.tup {S : St} {l l' : List MV} (h : finL2 S.nx l l') : FinS S (.tup l) (.tup l') [] where
  ok cx ρ w v hW r := ⟨rho0, ⟨hW.below, fun i j b h => (by cases h), fun i b h => (by cases h), fun i blk h => (by simp [idxH, look] at h), fun i _ => rfl, fun i blk h => by simp [idxH, look] at h, hW.okA⟩,
    finM_rep (id := S.nx) (m := .tup l) (m' := .tup l') h (hW.nx _ (Nat.le_refl _)).symm r⟩
theorem FinS.agg {S : St} {l l' : List MV} (h : finL S.nx l l') : FinS S (.agg l) (.agg l') [] where
  ok cx ρ w v hW r := ⟨rho0, ⟨hW.below, fun i j b h => (by cases h), fun i b h => (by cases h), fun i blk h => (by simp [idxH, look] at h), fun i _ => rfl, fun i blk h => (by simp [idxH, look] at h), hW.okA⟩,
    finM_rep (id := S.nx) (m := .agg l) (m' := .agg l') h (hW.nx _ (Nat.le_refl _)).symm r⟩
def flatMs : List MV → Bool
  | [] => true
  | m :: r => match flatM m with
    | true => flatMs r
    | false => false
def flatA : MV → Bool
  | .agg l => flatMs l
  | m => flatM m
def flatAs : List MV → Bool
  | [] => true
  | m :: r => match flatA m with
    | true => flatAs r
    | false => false
def flatT : MV → Bool
  | .tup l => flatAs l
  | m => flatA m
theorem flatM_any {m : MV} (h : flatM m = true) {w w' : World} {G G' : GT} {ρ ρ' : RhoT} {ok ok' : OkT} {v : Value} (r : Rep w G ρ ok m v) : Rep w' G' ρ' ok' m v := by
  cases m <;> simp [flatM] at h
  · cases r; exact .b _
  · cases r; exact .i _ _
  · cases r with | f _ _ _ h => exact .f _ _ _ h
  · cases r; exact .nilp
  · cases r; exact .nils
theorem flatMs_spec : ∀ {l : List MV}, flatMs l = true → ∀ j, j < l.length → flatM (getM l j) = true
  | [], _, j, hj => by simp at hj
  | m :: r, h, j, hj => by
    unfold flatMs at h
    split at h
    · rename_i hm
      cases j with
      | zero => simpa [getM] using hm
      | succ j => simpa [getM] using flatMs_spec h j (by simpa using hj)
    · cases h
theorem flatA_any {m : MV} (h : flatA m = true) {w w' : World} {G G' : GT} {ρ ρ' : RhoT} {ok ok' : OkT} {v : Value} (r : Rep w G ρ ok m v) : Rep w' G' ρ' ok' m v := by
  unfold flatA at h
  split at h
  · cases r with
    | agg _ vs hl hr => exact .agg _ _ hl fun j hj => flatM_any (flatMs_spec h j hj) (hr j hj)
  · exact flatM_any h r
theorem flatAs_spec : ∀ {l : List MV}, flatAs l = true → ∀ j, j < l.length → flatA (getM l j) = true
  | [], _, j, hj => by simp at hj
  | m :: r, h, j, hj => by
    unfold flatAs at h
    split at h
    · rename_i hm
      cases j with
      | zero => simpa [getM] using hm
      | succ j => simpa [getM] using flatAs_spec h j (by simpa using hj)
    · cases h
theorem flatT_any {m : MV} (h : flatT m = true) {w w' : World} {G G' : GT} {ρ ρ' : RhoT} {ok ok' : OkT} {v : Value} (r : Rep w G ρ ok m v) : Rep w' G' ρ' ok' m v := by
  unfold flatT at h
  split at h
  · cases r with
    | tup _ vs hl hr => exact .tup _ _ hl fun j hj => flatA_any (flatAs_spec h j hj) (hr j hj)
  · exact flatA_any h r
theorem CM.aloneT {P : Program} {f : FuncId} {args : List MV} {m : MV} {al : Bool} (h : CM P f args m [] al) (hm : flatT m = true) : CM P f args m [] false := by
  refine ⟨h.enters, fun w okA vs hA hr => (h.calls w okA vs hA hr).mono ?_⟩
  rintro e w' ⟨v, ρ', rfl, hW, hR⟩
  exact ⟨v, rho0, rfl, ⟨⟨hW.below.os, hW.below.tape, hW.below.output, hW.below.size, hW.below.block, hW.below.keeps⟩, fun i j b h => (by simp [rho0] at h), fun i b h => (by simp [rho0] at h), fun id blk h => (by simp [idxH, look] at h), fun i _ => rfl, fun id blk h => (by simp [idxH, look] at h),
    fun b hb => absurd hb.1 (by simp)⟩, flatT_any hm hR⟩
/-! Loops round by round. -/
def LoopAt (P : Program) (c : Code) (Q : Exit → Act → World → Prop) (a : Act) (w : World) : Prop :=
  ∀ b k cs, ∃ e a' w', Q e a' w' ∧ Arrives P (lone (b.at a (.code c :: .inLoop c :: k)) cs w) b k cs e a' w'
theorem LoopAt.wp {P : Program} {c : Code} {Q : Exit → Act → World → Prop} {a : Act} {w : World} (h : LoopAt P c Q a w) : (Code.loop c).wp P Q a w := by
  intro b k cs
  obtain ⟨e, a', w', hq, harr⟩ := h b k cs
  exact ⟨e, a', w', hq, .of_steps (.one step_loop) harr⟩
theorem LoopAt.step {P : Program} {c : Code} {Q : Exit → Act → World → Prop} {a : Act} {w : World} (h : c.wp P (Exit.then (LoopAt P c Q) Q) a w) : LoopAt P c Q a w := by
  intro b k cs
  obtain ⟨e, a₁, w₁, hq, harr⟩ := h b (.inLoop c :: k) cs
  cases e with
  | normal =>
    obtain ⟨e₂, a₂, w₂, hq₂, harr₂⟩ := hq b k cs
    exact ⟨e₂, a₂, w₂, hq₂, .of_steps (Steps.trans harr (.one step_inLoop)) harr₂⟩
  | exit id => exact ⟨_, a₁, w₁, hq, .pass (x := .inLoop c) rfl (fun _ _ => .inl (by simp)) harr⟩
  | goto l => exact ⟨_, a₁, w₁, hq, .pass (x := .inLoop c) rfl (fun _ _ => .inl (by simp)) harr⟩
  | ret => exact ⟨_, a₁, w₁, hq, .pass (x := .inLoop c) rfl (fun _ _ => .inl (by simp)) harr⟩
  | panic ch => exact ⟨_, a₁, w₁, hq, .pass (x := .inLoop c) rfl (fun _ _ => .inl (by simp)) harr⟩
  | outgrown => exact ⟨_, a₁, w₁, hq, .pass (x := .inLoop c) rfl (fun _ _ => .inl (by simp)) harr⟩
structure RestL (P : Program) (cx : Cx) (n : Nat) (c : Code) (S : St) (K : Ex → St → Prop) : Prop where
  ok : ∀ su a w, Sat cx su n G0 S a w → LoopAt P c (fun e a' w' => ∃ x S', exitIs e x ∧ K x S' ∧ Sat cx su n G0 S' a' w') a w
theorem RestL.loop {E : Env} {cx : Cx} {n : Nat} {c : Code} {S : St} {K : Ex → St → Prop} (h : RestL E.P cx n c S K) : Rest (CodeOK E.P cx n (.loop c) S K) :=
  ⟨fun su a w hs => (h.ok su a w hs).wp⟩
theorem RestL.step {E : Env} (hE : EnvFull E) {cx : Cx} {n : Nat} {c : Code} {S : St} {K : Ex → St → Prop} (fuel : Nat) (h : evC E (hnd E cx fuel) cx n c S (fun ex S' => match ex with
      | .normal => RestL E.P cx n c S' K
      | .ret => K .ret S'
      | .exit j => K (.exit j) S')) : RestL E.P cx n c S K := by
  refine ⟨fun su a w hs => LoopAt.step ?_⟩
  refine wp_mono (evC_sound hE.toEnvAll (hnd_sound hE fuel) h su a w hs) ?_
  rintro e a' w' ⟨ex, S', h1, h2, h3⟩
  cases e <;> cases ex <;> simp only [exitIs] at h1
  · exact h2.ok su a' w' h3
  · subst h1
    exact ⟨.exit _, S', rfl, h2, h3⟩
  · exact ⟨.ret, S', trivial, h2, h3⟩
end Go.Ev
