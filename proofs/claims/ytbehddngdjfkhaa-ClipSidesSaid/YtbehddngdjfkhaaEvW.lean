/-
  That a walk of the evaluator over a function is a contract of that function, for every program; no condition.
-/
import Derived.Test.YtbehddngdjfkhaaEvP
import Derived.Scope
set_option linter.unusedSimpArgs false
set_option linter.unusedVariables false
namespace Go.Ev
/-! ## Regions: one operation after the other; guards -/
inductive CB where
  | t
  | f
  | s (c : Bool)
def CB.val : CB → Bool
  | .t => true
  | .f => false
  | .s c => c
structure TE where
  j : Nat
  want : Bool
  d : Nat
  cb : CB
def eqB : Bool → Bool → Bool
  | true, true => true
  | false, false => true
  | _, _ => false
theorem eqB_eq {a b : Bool} (h : eqB a b = true) : a = b := by cases a <;> cases b <;> first | rfl | cases h
def lookT : List TE → Nat → Bool → Option CB
  | [], _, _ => none
  | e :: r, j, want => match Nat.beq e.j j with
    | true => match eqB e.want want with
      | true => some e.cb
      | false => lookT r j want
    | false => lookT r j want
def gOf (tb : List TE) : GT := fun j want => (lookT tb j want).map CB.val
def freeT : List TE → Nat → Bool
  | [], _ => true
  | e :: r, d => match Nat.beq e.d d with
    | true => false
    | false => freeT r d
def nthO : List Oper → Nat → Option Oper
  | [], _ => none
  | x :: _, 0 => some x
  | _ :: r, n + 1 => nthO r n
theorem nthO_eq : ∀ (l : List Oper) (n : Nat), nthO l n = l[n]?
  | [], n => by simp [nthO]
  | x :: r, 0 => by simp [nthO]
  | x :: r, n + 1 => by simpa [nthO] using nthO_eq r n
def dstOf (ops : List Oper) (j : Nat) : Option Nat :=
  match nthO ops j with
  | some o => o.dst
  | none => none
def idxOf : List Oper → Nat → Nat → Option Nat
  | [], _, _ => none
  | o :: r, t, k => match o.dst with
    | some d => match Nat.beq d t with
      | true => some k
      | false => idxOf r t (k + 1)
    | none => idxOf r t (k + 1)
def condOf (ops : List Oper) (F : List (Nat × MV)) (tb : List TE) (j : Nat) (want : Bool) : Option CB :=
  match lookT tb j want with
  | some c => some c
  | none => match dstOf ops j with
    | none => none
    | some d => match look F d with
      | some (.lb c) => match eqB c want with
        | true => some .t
        | false => some .f
      | some (.b c) => some (.s (match want with | true => c | false => !c))
      | some (.gd j' w' (.b c)) => match lookT tb j' w' with
        | some .t => some (.s (match want with | true => c | false => !c))
        | some .f => some .f
        | some (.s c') => some (.s (c' && (match want with | true => c | false => !c)))
        | none => none
      | some (.gd j' w' (.lb c)) => match eqB c want with
        | true => lookT tb j' w'
        | false => some .f
      | some (.x (.tuple _)) => some .f
      | _ => none
def ancG (ops : List Oper) (F : List (Nat × MV)) : Nat → Nat → Bool → List (Nat × Bool)
  | 0, j, want => [(j, want)]
  | n + 1, j, want => (j, want) :: match dstOf ops j with
    | none => []
    | some d => match look F d with
      | some (.gd j' w' _) => ancG ops F n j' w'
      | _ => []
def TOK (ops : List Oper) (tb : List TE) (a : Act) : Prop :=
  ∀ e ∈ tb, dstOf ops e.j = some e.d ∧ (yielded ops.toArray a.tmps e.j == some e.want) = e.cb.val
theorem lookT_mem : ∀ {tb : List TE} {j : Nat} {want : Bool} {c : CB}, lookT tb j want = some c → ∃ e ∈ tb, e.j = j ∧ e.want = want ∧ e.cb = c
  | [], _, _, _, h => by simp [lookT] at h
  | e :: r, j, want, c, h => by
    unfold lookT at h
    split at h
    · rename_i hj
      split at h
      · rename_i hw
        cases h
        exact ⟨e, by simp, Nat.eq_of_beq_eq_true hj, eqB_eq hw, rfl⟩
      · obtain ⟨x, hx, r⟩ := lookT_mem h
        exact ⟨x, by simp [hx], r⟩
    · obtain ⟨x, hx, r⟩ := lookT_mem h
      exact ⟨x, by simp [hx], r⟩
theorem yielded_dst {ops : List Oper} {j d : Nat} (h : dstOf ops j = some d) (tmps : Array Value) :
    yielded ops.toArray tmps j = match tmps[d]? with | some (.bool b) => some b | _ => none := by
  unfold dstOf at h
  rw [nthO_eq] at h
  unfold yielded
  have : ((ops.toArray[j]?).bind (·.dst)) = some d := by
    cases ho : ops[j]? with
    | none => simp [ho] at h
    | some o => simp [ho] at h; simp [ho, h]
  rw [this]
  rfl
theorem condOf_sound {ops : List Oper} {F : List (Nat × MV)} {tb : List TE} {j : Nat} {want : Bool} {c : CB} (h : condOf ops F tb j want = some c) {w : World} {ρ : RhoT} {ok : OkT} {a : Act}
    (hF : FrOK w (gOf tb) ρ ok F a) (hT : TOK ops tb a) : (yielded ops.toArray a.tmps j == some want) = c.val := by
  unfold condOf at h
  split at h
  · rename_i c' hl
    cases h
    obtain ⟨e, he, rfl, rfl, rfl⟩ := lookT_mem hl
    exact (hT e he).2
  · split at h
    · cases h
    · rename_i d hd
      rw [yielded_dst hd]
      split at h
      · rename_i x hl
        obtain ⟨v, hv, r⟩ := hF d _ hl
        cases r
        rw [hv]
        split at h
        · rename_i e; cases h; have := eqB_eq e; subst this; simp [CB.val]
        · rename_i e; cases h; cases x <;> cases want <;> simp [eqB] at e <;> rfl
      · rename_i x hl
        obtain ⟨v, hv, r⟩ := hF d _ hl
        cases r
        cases h
        rw [hv]
        cases want <;> cases x <;> rfl
      · rename_i j' w' x hl
        obtain ⟨v, hv, r⟩ := hF d _ hl
        cases r with
        | gd _ _ _ _ C hG ht hf =>
          rw [hv]
          have hC : (lookT tb j' w').map CB.val = some C := hG
          split at h
          · rename_i e; rw [e] at hC; cases hC
            have := ht rfl
            cases this
            cases h
            cases want <;> cases x <;> rfl
          · rename_i e; rw [e] at hC; cases hC
            have := hf rfl
            subst this
            cases h; rfl
          · rename_i c' e; rw [e] at hC; cases hC
            cases h
            cases c' with
            | true =>
              have := ht rfl
              cases this
              cases want <;> cases x <;> rfl
            | false =>
              have := hf rfl
              subst this
              rfl
          · cases h
      · rename_i j' w' x hl
        obtain ⟨v, hv, r⟩ := hF d _ hl
        cases r with
        | gd _ _ _ _ C hG ht hf =>
          rw [hv]
          have hC : (lookT tb j' w').map CB.val = some C := hG
          split at h
          · rename_i e
            have := eqB_eq e; subst this
            rw [h] at hC
            cases hC
            cases hcv : c.val with
            | true =>
              have := ht hcv
              cases this
              simp
            | false =>
              have := hf hcv
              subst this
              rfl
          · rename_i e
            cases h
            cases C with
            | true =>
              have := ht rfl
              cases this
              cases x <;> cases want <;> simp [eqB] at e <;> rfl
            | false =>
              have := hf rfl
              subst this
              rfl
      · rename_i q hl
        obtain ⟨v, hv, r⟩ := hF d _ hl
        cases r
        cases h
        rw [hv]; rfl
      · cases h
theorem ancG_holds {ops : List Oper} {F : List (Nat × MV)} {tb : List TE} {w : World} {ρ : RhoT} {ok : OkT} {a : Act} (hF : FrOK w (gOf tb) ρ ok F a) (hT : TOK ops tb a) :
    ∀ {n j : Nat} {want : Bool}, yielded ops.toArray a.tmps j = some want → Holds (gOf tb) (ancG ops F n j want) := by
  have one : ∀ {j : Nat} {want : Bool}, yielded ops.toArray a.tmps j = some want → ∀ C, gOf tb j want = some C → C = true := by
    intro j want hy C hC
    unfold gOf at hC
    cases hl : lookT tb j want with
    | none => simp [hl] at hC
    | some c =>
      simp [hl] at hC
      obtain ⟨e, he, rfl, rfl, rfl⟩ := lookT_mem hl
      have := (hT e he).2
      rw [hy] at this
      simp at this
      rw [← hC]; exact this
  intro n
  induction n with
  | zero =>
    intro j want hy x hx
    simp [ancG] at hx
    subst hx
    exact one hy
  | succ n ih =>
    intro j want hy x hx
    unfold ancG at hx
    rcases List.mem_cons.1 hx with rfl | hx
    · exact one hy
    · split at hx
      · simp at hx
      · rename_i d hd
        split at hx
        · rename_i j' w' m hl
          refine ih ?_ x hx
          obtain ⟨v, hv, r⟩ := hF d _ hl
          cases r with
          | gd _ _ _ _ C hG ht hf =>
            cases C with
            | false =>
              have := hf rfl
              subst this
              rw [yielded_dst hd, hv] at hy
              simp [undef] at hy
            | true =>
              unfold gOf at hG
              cases hl2 : lookT tb j' w' with
              | none => simp [hl2] at hG
              | some c =>
                simp [hl2] at hG
                obtain ⟨e, he, rfl, rfl, rfl⟩ := lookT_mem hl2
                have := (hT e he).2
                rw [hG] at this
                simpa using this
        · simp at hx
theorem TOK.put {ops : List Oper} {tb : List TE} {a : Act} (h : TOK ops tb a) {d : Nat} (hd : freeT tb d = true) (v : Value) : TOK ops tb (a.put (some d) v) := by
  have key : ∀ {l : List TE}, freeT l d = true → ∀ e ∈ l, e.d ≠ d := by
    intro l
    induction l with
    | nil => simp
    | cons x r ih =>
      intro hl e he
      unfold freeT at hl
      split at hl
      · cases hl
      · rename_i hx
        rcases List.mem_cons.1 he with rfl | he
        · intro e2; rw [e2] at hx; simp at hx
        · exact ih hl e he
  intro e he
  obtain ⟨h1, h2⟩ := h e he
  refine ⟨h1, ?_⟩
  rw [yielded_dst h1] at h2 ⊢
  have : (a.put (some d) v).tmps[e.d]? = a.tmps[e.d]? := by
    simp [Act.put, Array.getElem?_setIfInBounds_ne (Ne.symm (key hd e he))]
  rw [this]; exact h2
def noGd : MV → Bool
  | .gd _ _ _ => false
  | .agg l => allN l
  | .tup l => allN l
  | .fn _ l m => match allN l with
    | true => allN m
    | false => false
  | _ => true
where
  n1 : MV → Bool
    | .gd _ _ _ => false
    | .agg _ => false
    | .tup _ => false
    | .fn _ _ _ => false
    | _ => true
  allN : List MV → Bool
    | [] => true
    | m :: r => match n1 m with
      | true => allN r
      | false => false
theorem n1_spec {m : MV} (h : noGd.n1 m = true) {w : World} {G G' : GT} {ρ : RhoT} {ok : OkT} {v : Value} (r : Rep w G ρ ok m v) : Rep w G' ρ ok m v := by
  cases r with
  | und => exact .und _
  | lb x => exact .lb _
  | b x => exact .b _
  | i k n => exact .i _ _
  | f k r x hh => exact .f _ _ _ hh
  | p id off blk hh => exact .p _ _ _ hh
  | pe id sz i j blk hh => exact .pe _ _ _ _ _ hh
  | rp cells blk off u h1 h2 h3 h4 => exact .rp _ _ _ _ h1 h2 h3 h4
  | os id sz lo n blk cap off c T h1 h2 h3 h4 h5 => exact .os _ _ _ _ _ _ _ _ _ h1 h2 h3 h4 h5
  | oc id sz n room blk cap off c T h1 h2 h3 h4 h5 h6 => exact .oc _ _ _ _ _ _ _ _ _ h1 h2 h3 h4 h5 h6
  | ocnil => exact .ocnil _ _
  | osnil => exact .osnil _ _ _
  | ro sz n get blk off cap u h1 h2 h3 h4 h5 => exact .ro _ _ _ _ _ _ _ h1 h2 h3 h4 h5
  | ronil => exact .ronil _ _
  | nilp => exact .nilp
  | nils => exact .nils
  | x v => exact .x _
  | _ => simp [noGd.n1] at h
theorem allN_spec : ∀ {l : List MV}, noGd.allN l = true → ∀ j, j < l.length → noGd.n1 (getM l j) = true
  | [], _, j, hj => by simp at hj
  | m :: r, h, j, hj => by
    unfold noGd.allN at h
    split at h
    · rename_i hm
      cases j with
      | zero => simpa [getM] using hm
      | succ j => simpa [getM] using allN_spec h j (by simpa using hj)
    · cases h
theorem noGd_spec {m : MV} (h : noGd m = true) {w : World} {G G' : GT} {ρ : RhoT} {ok : OkT} {v : Value} (r : Rep w G ρ ok m v) : Rep w G' ρ ok m v := by
  cases m with
  | agg l => cases r with | agg _ vs hl hr => exact .agg _ _ hl fun j hj => n1_spec (allN_spec h j hj) (hr j hj)
  | tup l => cases r with | tup _ vs hl hr => exact .tup _ _ hl fun j hj => n1_spec (allN_spec h j hj) (hr j hj)
  | fn f l m =>
    have h' : noGd.allN l = true ∧ noGd.allN m = true := by
      have h0 : (match noGd.allN l with | true => noGd.allN m | false => false) = true := h
      split at h0
      · rename_i e; exact ⟨e, h0⟩
      · cases h0
    cases r with
    | fn _ _ _ vs us hl hm h1 h2 =>
      exact .fn _ _ _ _ _ hl hm (fun j hj => n1_spec (allN_spec h'.1 j hj) (h1 j hj)) (fun j hj => n1_spec (allN_spec h'.2 j hj) (h2 j hj))
  | gd => simp [noGd] at h
  | _ => exact n1_spec rfl r
def cleanF : List (Nat × MV) → List (Nat × MV)
  | [] => []
  | (s, m) :: r => match noGd m with
    | true => (s, m) :: cleanF r
    | false => (s, .und) :: cleanF r
theorem look_cleanF : ∀ {F : List (Nat × MV)} {s : Nat} {m : MV}, look (cleanF F) s = some m → ∃ m', look F s = some m' ∧ (m = .und ∨ (m = m' ∧ noGd m = true))
  | [], s, m, h => by simp [cleanF, look] at h
  | (k, y) :: r, s, m, h => by
    unfold cleanF at h
    split at h
    · rename_i hy
      simp only [look] at h ⊢
      split at h
      · cases h; exact ⟨_, rfl, .inr ⟨rfl, hy⟩⟩
      · exact look_cleanF h
    · simp only [look] at h ⊢
      split at h
      · exact ⟨_, rfl, .inl (by simpa using h.symm)⟩
      · exact look_cleanF h
theorem FrOK.clean {w : World} {G : GT} {ρ : RhoT} {ok : OkT} {F : List (Nat × MV)} {a : Act} (h : FrOK w G ρ ok F a) : FrOK w G0 ρ ok (cleanF F) a := by
  intro s m hl
  obtain ⟨m', h1, h2⟩ := look_cleanF hl
  obtain ⟨v, hv, r⟩ := h s m' h1
  refine ⟨v, hv, ?_⟩
  rcases h2 with rfl | ⟨rfl, h2⟩
  · exact .und _
  · exact noGd_spec h2 r
end Go.Ev

namespace Go.Ev
/-! ## Contracts of calls -/
def Enters (P : Program) (f : FuncId) : Prop := ∀ (args : Array Value) (w : World), (callFunc f args).run P w = .ok (.enter f args) w
theorem Enters.of {P : Program} {f : FuncId} {fn : Func} (hf : P.funcs[f]? = some fn) (hn : (fn.name == "runtime.NumGoroutine") = false) (hb : fn.body.isNone = false) : Enters P f := by
  intro args w
  have h1 : fn.name ≠ "runtime.NumGoroutine" := by simpa using hn
  have h2 : fn.body ≠ none := by intro e; rw [e] at hb; cases hb
  simp [callFunc, hf, h1, h2]
def idxH : Nat → List Blk → List (Nat × Blk)
  | _, [] => []
  | k, b :: r => (k, b) :: idxH (k + 1) r
def cx1 (w : World) (okA : Nat → Prop) : Cx := ⟨w, fun _ => False, okA⟩
def okR (al : Bool) (okA : Nat → Prop) : Nat → Prop := fun b => al = true ∧ okA b
structure CM (P : Program) (f : FuncId) (args : List MV) (m : MV) (blks : List Blk) (al : Bool) : Prop where
  enters : Enters P f
  calls : ∀ (w : World) (okA : Nat → Prop) (vs : List Value), (∀ b, okA b → b < w.heap.size) → RepL w G0 rho0 okA args vs →
    Calls P f vs.toArray w fun e w' => ∃ v ρ', e = .returned v ∧ SatW (cx1 w (okR al okA)) ρ' (idxH 0 blks) blks.length w' ∧ Rep w' G0 ρ' (okS (cx1 w (okR al okA)) ρ' w') m v
/-! ### What is handed over, as something that is only read -/
def orB : Bool → Bool → Bool
  | true, _ => true
  | false, b => b
def view0 (H : List (Nat × Blk)) : MV → Option (Option Prop × Bool × MV)
  | .os id sz lo n => match look H id with
    | some (.rows sz' n0 get) => match Nat.beq sz sz' with
      | true => some (some (lo + n ≤ n0), true, .ro sz n fun i => get (lo + i))
      | false => none
    | _ => none
  | .p id off => match look H id with
    | some (.cells l) => match allF l with
      | true => some (none, true, .rp (dropM l off))
      | false => none
    | _ => none
  | .ro sz n get => some (none, false, .ro sz n get)
  | .rp cells => some (none, false, .rp cells)
  | .lb x => some (none, false, .b x)
  | .b x => some (none, false, .b x)
  | .i k n => some (none, false, .i k n)
  | .f k x => some (none, false, .f k x)
  | .nils => some (none, false, .nils)
  | .nilp => some (none, false, .nilp)
  | _ => none
def view1 (H : List (Nat × Blk)) (m : MV) : Option (Option Prop × Bool × MV) := view0 H (normO m)
def viewL1 (H : List (Nat × Blk)) : List MV → Option (List Prop × Bool × List MV)
  | [] => some ([], false, [])
  | m :: r => match view1 H m with
    | none => none
    | some (p, o, m') => match viewL1 H r with
      | none => none
      | some (ps, os, r') => match p with
        | none => some (ps, orB o os, m' :: r')
        | some q => some (q :: ps, orB o os, m' :: r')
def view (H : List (Nat × Blk)) : MV → Option (List Prop × Bool × MV)
  | .agg l => match viewL1 H l with
    | some (ps, o, l') => some (ps, o, .agg l')
    | none => none
  | m => match view1 H m with
    | some (none, o, m') => some ([], o, m')
    | some (some p, o, m') => some ([p], o, m')
    | none => none
def appP : List Prop → List Prop → List Prop
  | [], l => l
  | x :: r, l => x :: appP r l
def viewL (H : List (Nat × Blk)) : List MV → Option (List Prop × Bool × List MV)
  | [] => some ([], false, [])
  | m :: r => match view H m with
    | none => none
    | some (p, o, m') => match viewL H r with
      | none => none
      | some (ps, os, r') => some (appP p ps, orB o os, m' :: r')
def AllP (l : List Prop) : Prop := ∀ p ∈ l, p
theorem AllP.app {l m : List Prop} (h : AllP (appP l m)) : AllP l ∧ AllP m := by
  induction l with
  | nil => exact ⟨fun p hp => by simp at hp, h⟩
  | cons x r ih =>
    have hx : x := h x (by simp [appP])
    obtain ⟨h1, h2⟩ := ih (fun p hp => h p (by simp [appP, hp]))
    exact ⟨fun p hp => by rcases List.mem_cons.1 hp with rfl | hp; exact hx; exact h1 p hp, h2⟩
def okV (cx : Cx) (ρ : RhoT) (w : World) : Bool → OkT
  | true => fun b => b < w.heap.size
  | false => okS cx ρ w
theorem okV_lt {cx : Cx} {ρ : RhoT} {H : List (Nat × Blk)} {nx : Nat} {w : World} (hW : SatW cx ρ H nx w) {o : Bool} (b : Nat) (h : okV cx ρ w o b) : b < w.heap.size := by
  cases o
  · exact okS_lt hW h
  · exact h
theorem okV_up {cx : Cx} {ρ : RhoT} {H : List (Nat × Blk)} {nx : Nat} {w : World} (hW : SatW cx ρ H nx w) {o o' : Bool} (hoo : o = true → o' = true) (b : Nat) (h : okV cx ρ w o b) : okV cx ρ w o' b := by
  cases o
  · cases o'
    · exact h
    · exact okS_lt hW h
  · rw [hoo rfl]; exact h
theorem rep_okV {cx : Cx} {ρ : RhoT} {H : List (Nat × Blk)} {nx : Nat} {w : World} (hW : SatW cx ρ H nx w) {o o' : Bool} (hoo : o = true → o' = true) {G : GT} {ρ' : RhoT} {m : MV} {v : Value}
    (r : Rep w G ρ' (okV cx ρ w o) m v) : Rep w G ρ' (okV cx ρ w o') m v :=
  r.mono (Keeps.refl w) (fun _ _ _ e => e) (fun _ _ e => e) (fun b hb => ⟨okV_up hW hoo b hb, rfl⟩)
theorem view0_sound {cx : Cx} {ρ : RhoT} {H : List (Nat × Blk)} {nx : Nat} {w : World} (hW : SatW cx ρ H nx w) {m m' : MV} {p : Option Prop} {o : Bool} (h : view0 H m = some (p, o, m')) (hp : ∀ q, p = some q → q)
    {G : GT} {v : Value} (r : Rep w G ρ (okS cx ρ w) m v) : Rep w G0 rho0 (okV cx ρ w o) m' v := by
  unfold view0 at h
  split at h
  · rename_i id sz lo n
    split at h
    · rename_i sz' n0 get hl
      split at h
      · rename_i hs
        have hs := Nat.eq_of_beq_eq_true hs
        subst hs
        cases h
        have hc := hp _ rfl
        have hb := hW.blocks _ _ hl
        cases r with
        | osnil => exact .ronil _ _
        | os _ _ _ _ blk cap off c T hρ hn hoff hbk hcap =>
          rcases hb with ⟨h0, h1⟩ | ⟨b, c', T', h1, h2, h3, h5, h4⟩
          · rw [h1] at hρ; cases hρ
          · obtain rfl : b = blk := by rw [hρ] at h1; exact (Option.some.inj h1).symm
            rw [hbk] at h2
            cases h2
            by_cases hn0 : n = 0
            · subst hn0
              exact .ro _ _ _ b off cap (fun _ _ => undef) hn (fun h => absurd h (by omega)) (fun i hi => absurd hi (by omega)) (fun i hi => absurd hi (by omega)) (fun i hi => absurd hi (by omega))
            · have hoff' : off = lo * sz := by rcases hoff with e | e; exact e; omega
              subst hoff'
              have hle : (lo + n) * sz ≤ n0 * sz := Nat.mul_le_mul_right _ hc
              have hidx : ∀ i, i < n → ∀ j, j < sz → lo * sz + (i * sz + j) = (lo + i) * sz + j ∧ (lo + i) * sz + j < n0 * sz := by
                intro i hi j hj
                have : (lo + i) * sz + sz ≤ n0 * sz := by rw [← Nat.succ_mul]; exact Nat.mul_le_mul_right _ (by omega)
                refine ⟨by rw [Nat.add_mul]; omega, by omega⟩
              refine .ro _ _ _ b _ cap (fun i j => c.getD ((lo + i) * sz + j) undef) hn (fun _ => (hW.rng _ _ hρ).1) (fun i hi j hj => ?_) (fun i hi j hj => h5 _ (hidx i hi j hj).2) (fun i hi j hj => ?_)
              · rw [(hidx i hi j hj).1]
                exact cell?_cells hbk (by have := (hidx i hi j hj).2; omega)
              · exact (h4 (lo + i) (by omega) j hj).mono (Keeps.refl w) (fun _ _ _ e => e) (fun _ _ e => e) (fun b hb => ⟨okS_lt hW hb, rfl⟩)
      · cases h
    · cases h
  · rename_i id off
    split at h
    · rename_i l hl
      split at h
      · rename_i ha
        cases h
        obtain ⟨b, c, T, h1, h2, h3, h5, h4⟩ := hW.blocks _ _ hl
        cases r with
        | p _ _ blk hρ =>
          obtain rfl : b = blk := by rw [hρ] at h1; exact (Option.some.inj h1).symm
          have hd := dropM_spec l off
          refine .rp _ b off (fun j => c.getD (off + j) undef) (fun _ => (hW.rng _ _ hρ).1) (fun j hj => cell?_cells h2 (by omega)) (fun j hj => h5 _ (by omega)) (fun j hj => ?_)
          rw [hd.2]
          exact ((flat1_spec (allF_spec ha (off + j) (by omega)) (h4 (off + j) (by omega))).1).mono (Keeps.refl w) (fun _ _ _ e => e) (fun _ _ e => e) (fun b hb => ⟨okS_lt hW hb, rfl⟩)
      · cases h
    · cases h
  · cases h; cases r with
    | ro _ _ _ blk off cap u h1 h2 h3 h4 h5 => exact .ro _ _ _ _ _ _ _ h1 h2 h3 h4 h5
    | ronil => exact .ronil _ _
  · cases h; cases r with
    | rp _ blk off u h1 h2 h3 h4 => exact .rp _ _ _ _ h1 h2 h3 h4
  · cases h; cases r; exact .b _
  · cases h; cases r; exact .b _
  · cases h; cases r; exact .i _ _
  · cases h; cases r with
    | f _ _ _ hh => exact .f _ _ _ hh
  · cases h; cases r; exact .nils
  · cases h; cases r; exact .nilp
  · cases h
theorem view1_sound {cx : Cx} {ρ : RhoT} {H : List (Nat × Blk)} {nx : Nat} {w : World} (hW : SatW cx ρ H nx w) {m m' : MV} {p : Option Prop} {o : Bool} (h : view1 H m = some (p, o, m')) (hp : ∀ q, p = some q → q)
    {G : GT} {v : Value} (r : Rep w G ρ (okS cx ρ w) m v) : Rep w G0 rho0 (okV cx ρ w o) m' v := view0_sound hW h hp r.norm
theorem orB_left {a b : Bool} (h : a = true) : orB a b = true := by subst h; rfl
theorem orB_right {a b : Bool} (h : b = true) : orB a b = true := by subst h; cases a <;> rfl
theorem viewL1_sound {cx : Cx} {ρ : RhoT} {H : List (Nat × Blk)} {nx : Nat} {w : World} (hW : SatW cx ρ H nx w) {G : GT} : ∀ {l l' : List MV} {ps : List Prop} {o : Bool}, viewL1 H l = some (ps, o, l') → AllP ps →
    l'.length = l.length ∧ ∀ {vs : Nat → Value}, (∀ j, j < l.length → Rep w G ρ (okS cx ρ w) (getM l j) (vs j)) → ∀ j, j < l.length → Rep w G0 rho0 (okV cx ρ w o) (getM l' j) (vs j)
  | [], l', ps, o, h, hp => by simp [viewL1] at h; obtain ⟨_, _, rfl⟩ := h; simp
  | m :: r, l', ps, o, h, hp => by
    unfold viewL1 at h
    split at h
    · cases h
    · rename_i p o1 m' hm
      split at h
      · cases h
      · rename_i ps' os r' hr
        have key : ∀ (hps : AllP ps') (hpp : ∀ q, p = some q → q) (ho : o = orB o1 os) (hl : l' = m' :: r'), l'.length = (m :: r).length ∧ ∀ {vs : Nat → Value}, (∀ j, j < (m :: r).length → Rep w G ρ (okS cx ρ w) (getM (m :: r) j) (vs j)) →
            ∀ j, j < (m :: r).length → Rep w G0 rho0 (okV cx ρ w o) (getM l' j) (vs j) := by
          intro hps hpp ho hl
          subst ho
          subst hl
          obtain ⟨q1, q2⟩ := viewL1_sound hW (G := G) hr hps
          refine ⟨by simp [q1], fun {vs} hvs j hj => ?_⟩
          cases j with
          | zero =>
            have := view1_sound hW hm hpp (by simpa [getM] using hvs 0 (by simp))
            simpa [getM] using rep_okV hW orB_left this
          | succ j =>
            have := q2 (vs := fun j => vs (j + 1)) (fun j hj => by simpa [getM] using hvs (j + 1) (by simpa using hj)) j (by simpa using hj)
            simpa [getM] using rep_okV hW orB_right this
        split at h
        · cases h
          exact key hp (by simp) rfl rfl
        · cases h
          exact key (fun p hq => hp p (by simp [hq])) (fun q hq => by cases hq; exact hp _ (by simp)) rfl rfl
theorem view_sound {cx : Cx} {ρ : RhoT} {H : List (Nat × Blk)} {nx : Nat} {w : World} (hW : SatW cx ρ H nx w) {m m' : MV} {ps : List Prop} {o : Bool} (h : view H m = some (ps, o, m')) (hp : AllP ps)
    {G : GT} {v : Value} (r : Rep w G ρ (okS cx ρ w) m v) : Rep w G0 rho0 (okV cx ρ w o) m' v := by
  unfold view at h
  split at h
  · split at h
    · rename_i hl
      cases h
      cases r with
      | agg _ vs hlen hr =>
        obtain ⟨q1, q2⟩ := viewL1_sound hW (G := G) hl hp
        exact .agg _ _ (q1.trans hlen) fun j hj => q2 hr j (by omega)
    · cases h
  · split at h
    · rename_i hv
      cases h
      exact view1_sound hW hv (by simp) r
    · rename_i hv
      cases h
      exact view1_sound hW hv (fun q e => by cases e; exact hp _ (by simp)) r
    · cases h
theorem viewL_sound {cx : Cx} {ρ : RhoT} {H : List (Nat × Blk)} {nx : Nat} {w : World} (hW : SatW cx ρ H nx w) {G : GT} : ∀ {ms ms' : List MV} {ps : List Prop} {o : Bool} {vs : List Value}, viewL H ms = some (ps, o, ms') → AllP ps →
    RepL w G ρ (okS cx ρ w) ms vs → RepL w G0 rho0 (okV cx ρ w o) ms' vs
  | [], ms', ps, o, vs, h, hp, hr => by
    simp [viewL] at h
    obtain ⟨_, _, rfl⟩ := h
    exact ⟨hr.len, by simp⟩
  | m :: r, ms', ps, o, [], h, hp, hr => by have := hr.len; simp at this
  | m :: r, ms', ps, o, v :: vs, h, hp, hr => by
    unfold viewL at h
    split at h
    · cases h
    · rename_i p o1 m' hm
      split at h
      · cases h
      · rename_i ps' os r' hr'
        cases h
        obtain ⟨p1, p2⟩ := hp.app
        have h1 := view_sound hW hm p1 (by simpa [getM] using hr.rep 0 (by simp))
        have h2 := viewL_sound hW (G := G) (vs := vs) hr' p2 ⟨by have := hr.len; simpa using this, fun j hj => by simpa [getM] using hr.rep (j + 1) (by simpa using hj)⟩
        refine ⟨by simp [h2.len], fun j hj => ?_⟩
        cases j with
        | zero => simpa [getM] using rep_okV hW orB_left h1
        | succ j => simpa [getM] using rep_okV hW orB_right (h2.rep j (by simpa using hj))
end Go.Ev

namespace Go.Ev
/-! ## What a call yields, in the caller's numbers -/
def shift1 (k : Nat) : MV → MV
  | .p i o => .p (k + i) o
  | .pe i sz a j => .pe (k + i) sz a j
  | .os i sz lo n => .os (k + i) sz lo n
  | .oc i sz n c => .oc (k + i) sz n c
  | .agg _ => .und
  | .tup _ => .und
  | .fn _ _ _ => .und
  | .gd _ _ _ => .und
  | m => m
def shiftL (k : Nat) : List MV → List MV
  | [] => []
  | m :: r => shift1 k m :: shiftL k r
def shift2 (k : Nat) : MV → MV
  | .agg l => .agg (shiftL k l)
  | m => shift1 k m
def shiftT (k : Nat) : List MV → List MV
  | [] => []
  | m :: r => shift2 k m :: shiftT k r
def shift (k : Nat) : MV → MV
  | .tup l => .tup (shiftT k l)
  | m => shift2 k m
def shiftB (k : Nat) : Blk → Blk
  | .cells l => .cells (shiftL k l)
  | b => b
def newH (k : Nat) : Nat → List Blk → List (Nat × Blk) → List (Nat × Blk)
  | _, [], H => H
  | i, b :: r, H => (k + i, shiftB k b) :: newH k (i + 1) r H
theorem shiftL_spec (k : Nat) : ∀ (l : List MV), (shiftL k l).length = l.length ∧ ∀ j, getM (shiftL k l) j = shift1 k (getM l j) ∨ (l.length ≤ j)
  | [] => by simp [shiftL]
  | m :: r => by
    obtain ⟨h1, h2⟩ := shiftL_spec k r
    refine ⟨by simp [shiftL, h1], fun j => ?_⟩
    cases j with
    | zero => exact .inl (by simp [shiftL, getM])
    | succ j =>
      rcases h2 j with h | h
      · exact .inl (by simpa [shiftL, getM] using h)
      · exact .inr (by simpa using h)
theorem shift1_rep {k : Nat} {w : World} {ρ ρ' : RhoT} {ok ok' : OkT} (hρ : ∀ i b, ρ i = some b → ρ' (k + i) = some b) (hok : ∀ b, ok b → ok' b) {m : MV} {v : Value} {G : GT} (r : Rep w G0 ρ ok m v) : Rep w G ρ' ok' (shift1 k m) v := by
  have up : ∀ {m : MV} {v : Value}, Rep w G0 rho0 ok m v → Rep w G0 rho0 ok' m v := fun r => r.mono (Keeps.refl w) (fun _ _ _ e => e) (fun _ _ e => e) (fun b hb => ⟨hok b hb, rfl⟩)
  cases r with
  | und => exact .und _
  | lb x => exact .lb _
  | b x => exact .b _
  | i k n => exact .i _ _
  | f k r x hh => exact .f _ _ _ hh
  | agg => exact .und _
  | tup => exact .und _
  | p id off blk hh => exact .p _ _ _ (hρ _ _ hh)
  | pe id sz i j blk hh => exact .pe _ _ _ _ _ (hρ _ _ hh)
  | rp cells blk off u h1 h2 h3 h4 => exact .rp _ _ _ _ (fun hp => hok _ (h1 hp)) h2 h3 (fun j hj => up (h4 j hj))
  | os id sz lo n blk cap off c T h1 h2 h3 h4 h5 => exact .os _ _ _ _ _ _ _ _ _ (hρ _ _ h1) h2 h3 h4 h5
  | oc id sz n room blk cap off c T h1 h2 h3 h4 h5 h6 => exact .oc _ _ _ _ _ _ _ _ _ (hρ _ _ h1) h2 h3 h4 h5 h6
  | ocnil => exact .ocnil _ _
  | osnil => exact .osnil _ _ _
  | ro sz n get blk off cap u h1 h2 h3 h4 h5 => exact .ro _ _ _ _ _ _ _ h1 (fun hp => hok _ (h2 hp)) h3 h4 (fun i hi j hj => up (h5 i hi j hj))
  | ronil => exact .ronil _ _
  | nilp => exact .nilp
  | nils => exact .nils
  | fn => exact .und _
  | x v => exact .x _
  | gd => exact .und _
theorem shiftT_spec (k : Nat) : ∀ (l : List MV), (shiftT k l).length = l.length ∧ ∀ j, getM (shiftT k l) j = shift2 k (getM l j) ∨ (l.length ≤ j)
  | [] => by simp [shiftT]
  | m :: r => by
    obtain ⟨h1, h2⟩ := shiftT_spec k r
    refine ⟨by simp [shiftT, h1], fun j => ?_⟩
    cases j with
    | zero => exact .inl (by simp [shiftT, getM])
    | succ j =>
      rcases h2 j with h | h
      · exact .inl (by simpa [shiftT, getM] using h)
      · exact .inr (by simpa using h)
theorem shift2_rep {k : Nat} {w : World} {ρ ρ' : RhoT} {ok ok' : OkT} (hρ : ∀ i b, ρ i = some b → ρ' (k + i) = some b) (hok : ∀ b, ok b → ok' b) {m : MV} {v : Value} {G : GT} (r : Rep w G0 ρ ok m v) : Rep w G ρ' ok' (shift2 k m) v := by
  cases m with
  | agg l =>
    cases r with
    | agg _ vs hl hr =>
      obtain ⟨h1, h2⟩ := shiftL_spec k l
      refine .agg _ _ (h1.trans hl) fun j hj => ?_
      rcases h2 j with h | h
      · rw [h]; exact shift1_rep hρ hok (hr j (by omega))
      · omega
  | _ => exact shift1_rep hρ hok r
theorem shift_rep {k : Nat} {w : World} {ρ ρ' : RhoT} {ok ok' : OkT} (hρ : ∀ i b, ρ i = some b → ρ' (k + i) = some b) (hok : ∀ b, ok b → ok' b) {m : MV} {v : Value} {G : GT} (r : Rep w G0 ρ ok m v) : Rep w G ρ' ok' (shift k m) v := by
  cases m with
  | tup l =>
    cases r with
    | tup _ vs hl hr =>
      obtain ⟨h1, h2⟩ := shiftT_spec k l
      refine .tup _ _ (h1.trans hl) fun j hj => ?_
      rcases h2 j with h | h
      · rw [h]; exact shift2_rep hρ hok (hr j (by omega))
      · omega
  | _ => exact shift2_rep hρ hok r
theorem look_newH {k : Nat} {H : List (Nat × Blk)} : ∀ {blks : List Blk} {i j : Nat} {b : Blk}, look (newH k i blks H) j = some b →
    (∃ x, k + i ≤ j ∧ j < k + i + blks.length ∧ blks[j - (k + i)]? = some x ∧ b = shiftB k x) ∨ look H j = some b
  | [], i, j, b, h => .inr h
  | x :: r, i, j, b, h => by
    simp only [newH, look] at h
    split at h
    · rename_i e
      have := Nat.eq_of_beq_eq_true e
      subst this
      cases h
      exact .inl ⟨x, Nat.le_refl _, by simp, by simp, rfl⟩
    · rcases look_newH h with ⟨y, h1, h2, h3, h4⟩ | h
      · refine .inl ⟨y, by omega, by simp; omega, ?_, h4⟩
        rw [show j - (k + i) = (j - (k + (i + 1))) + 1 by omega]
        simpa using h3
      · exact .inr h
theorem look_idxH : ∀ {blks : List Blk} {i j : Nat} {b : Blk}, blks[j]? = some b → look (idxH i blks) (i + j) = some b
  | [], i, j, b, h => by simp at h
  | x :: r, i, 0, b, h => by
    simp at h
    subst h
    simp [idxH, look]
  | x :: r, i, j + 1, b, h => by
    have := look_idxH (blks := r) (i := i + 1) (j := j) (b := b) (by simpa using h)
    simp only [idxH, look]
    have hne : Nat.beq i (i + (j + 1)) = false := by
      cases e : Nat.beq i (i + (j + 1))
      · rfl
      · have := Nat.eq_of_beq_eq_true e; omega
    rw [hne]
    rw [show i + (j + 1) = i + 1 + j by omega]
    exact this
def callSum (E : Env) (S : St) (f : FuncId) (ms : List MV) : Option (List Prop × MV × List Blk) :=
  match S with
  | ⟨_, _, H, nx⟩ => match viewL H ms with
    | none => none
    | some (ps, own, ms') => match E.sum f ms' with
      | none => none
      | some (qs, m, blks, al) => match own, al with
        | true, true => none
        | _, _ => some (appP qs ps, shift nx m, blks)
theorem callSum_eq (E : Env) (S : St) (f : FuncId) (ms : List MV) : callSum E S f ms = match viewL S.H ms with
    | none => none
    | some (ps, own, ms') => match E.sum f ms' with
      | none => none
      | some (qs, m, blks, al) => match own, al with
        | true, true => none
        | _, _ => some (appP qs ps, shift S.nx m, blks) := rfl
def SumOK (E : Env) : Prop := ∀ f ms ps m blks al, E.sum f ms = some (ps, m, blks, al) → AllP ps → CM E.P f ms m blks al
def CallGood (P : Program) (f : FuncId) (vs : List Value) (w : World) (R : Value → World → Prop) : Prop :=
  (∃ v w', (callFunc f vs.toArray).run P w = .ok (.value v) w' ∧ R v w') ∨
  ((callFunc f vs.toArray).run P w = .ok (.enter f vs.toArray) w ∧ Calls P f vs.toArray w fun e w' => ∃ v, e = .returned v ∧ R v w')
theorem callSum_sound {E : Env} (hs : SumOK E) {cx : Cx} {su : Sus} {n : Nat} {G : GT} {S : St} {a : Act} {w : World} {ρ : RhoT} (h : SatR cx su n G S a w ρ) {f : FuncId} {ms : List MV} {ps : List Prop} {m : MV} {blks : List Blk}
    (hc : callSum E S f ms = some (ps, m, blks)) (hp : AllP ps) {vs : List Value} (hr : RepL w G ρ (okS cx ρ w) ms vs) :
    CallGood E.P f vs w fun v w' => ∃ ρ2, SatR cx su n G { S with H := newH S.nx 0 blks S.H, nx := S.nx + blks.length } a w' ρ2 ∧ Rep w' G ρ2 (okS cx ρ2 w') m v := by
  rw [callSum_eq] at hc
  split at hc
  · cases hc
  · rename_i ps' own ms' hv
    split at hc
    · cases hc
    · rename_i qs m0 blks' al hsum
      have key : ¬ (own = true ∧ al = true) ∧ some (appP qs ps', shift S.nx m0, blks') = some (ps, m, blks) := by
        split at hc
        · cases hc
        · rename_i hne
          refine ⟨fun ⟨e1, e2⟩ => ?_, hc⟩
          exact hne e1 e2
      obtain ⟨hna, he⟩ := key
      cases he
      obtain ⟨hqs, hp'⟩ := hp.app
      have cm := hs _ _ _ _ _ _ hsum hqs
      have hargs := viewL_sound h.W hv hp' hr
      right
      refine ⟨cm.enters _ _, ?_⟩
      refine (cm.calls w (okV cx ρ w own) vs (fun b hb => okV_lt h.W b hb) hargs).mono ?_
      rintro e w' ⟨v, ρ', rfl, hW', hR⟩
      refine ⟨v, rfl, ?_⟩
      have hbel := hW'.below
      have hkeep : ∀ b, b < w.heap.size → w'.heap[b]? = w.heap[b]? := fun b hb => hbel.block b hb (fun hx => hx)
      have hρ' : ∀ i b, ρ' i = some b → w.heap.size ≤ b ∧ b < w'.heap.size := fun i b hi => by
        have := hW'.rng i b hi
        refine ⟨?_, this.1⟩
        rcases this.2 with h | h
        · exact h
        · exact h.elim
      let ρ2 : RhoT := fun i => if i < S.nx then ρ i else ρ' (i - S.nx)
      have h2old : ∀ i b, ρ i = some b → ρ2 i = some b := by
        intro i b hi
        have : i < S.nx := by
          rcases Nat.lt_or_ge i S.nx with h1 | h1
          · exact h1
          · rw [h.W.nx i h1] at hi; cases hi
        show (if i < S.nx then ρ i else ρ' (i - S.nx)) = _
        rw [if_pos this]; exact hi
      have h2new : ∀ i b, ρ' i = some b → ρ2 (S.nx + i) = some b := by
        intro i b hi
        show (if S.nx + i < S.nx then ρ (S.nx + i) else ρ' (S.nx + i - S.nx)) = _
        rw [if_neg (by omega), Nat.add_sub_cancel_left]; exact hi
      have h2inv : ∀ i b, ρ2 i = some b → (i < S.nx ∧ ρ i = some b) ∨ (S.nx ≤ i ∧ ρ' (i - S.nx) = some b) := by
        intro i b hi
        have hi' : (if i < S.nx then ρ i else ρ' (i - S.nx)) = some b := hi
        split at hi'
        · exact .inl ⟨by assumption, hi'⟩
        · exact .inr ⟨by omega, hi'⟩
      have hsz : w.heap.size ≤ w'.heap.size := hbel.size
      have hok1 : ∀ b, okS cx ρ w b → okS cx ρ2 w' b ∧ w'.heap[b]? = w.heap[b]? := by
        intro b hb
        have hl := okS_lt h.W hb
        refine ⟨?_, hkeep b hl⟩
        rcases hb with hb | hb
        · exact .inl hb
        · refine .inr ⟨hb.1, by omega, fun i hi => ?_⟩
          rcases h2inv i b hi with ⟨_, e⟩ | ⟨_, e⟩
          · exact hb.2.2 i e
          · have := (hρ' _ _ e).1; omega
      have hok2 : ∀ b, okS (cx1 w (okR al (okV cx ρ w own))) ρ' w' b → okS cx ρ2 w' b := by
        intro b hb
        rcases hb with ⟨hal, hb⟩ | ⟨h1, h2, h3⟩
        · have ho : own = false := by
            cases own
            · rfl
            · exact absurd ⟨rfl, hal⟩ hna
          subst ho
          exact (hok1 b hb).1
        · refine .inr ⟨Nat.le_trans h.W.below.size h1, h2, fun i hi => ?_⟩
          rcases h2inv i b hi with ⟨_, e⟩ | ⟨_, e⟩
          · have := (h.W.rng i b e).1
            have h1' : w.heap.size ≤ b := h1
            omega
          · exact h3 _ e
      refine ⟨ρ2, ⟨⟨?_, ?_, ?_, ?_, ?_, ?_, h.W.okA⟩, ⟨h.F.defers, h.F.size, h.F.frame.mono hbel.keeps (fun _ _ _ e => e) h2old hok1⟩, h.K.mono hbel.keeps h2old hok1⟩, shift_rep h2new hok2 hR⟩
      · have hx : ∀ b, cx.X b → True := fun _ _ => trivial
        exact ⟨hbel.os.trans h.W.below.os, hbel.tape.trans h.W.below.tape, hbel.output.trans h.W.below.output, Nat.le_trans h.W.below.size hsz,
          fun k hk hx => (hkeep k (Nat.lt_of_lt_of_le hk h.W.below.size)).trans (h.W.below.block k hk hx), h.W.below.keeps.trans hbel.keeps⟩
      · intro i j b hi hj
        rcases h2inv i b hi with ⟨i1, i2⟩ | ⟨i1, i2⟩ <;> rcases h2inv j b hj with ⟨j1, j2⟩ | ⟨j1, j2⟩
        · exact h.W.inj i j b i2 j2
        · have := (h.W.rng _ _ i2).1; have := (hρ' _ _ j2).1; omega
        · have := (h.W.rng _ _ j2).1; have := (hρ' _ _ i2).1; omega
        · have := hW'.inj _ _ b i2 j2; omega
      · intro i b hi
        rcases h2inv i b hi with ⟨i1, i2⟩ | ⟨i1, i2⟩
        · have := h.W.rng i b i2
          exact ⟨by omega, this.2⟩
        · have := hρ' _ _ i2
          exact ⟨this.2, .inl (Nat.le_trans h.W.below.size this.1)⟩
      · intro id blk hl
        dsimp at hl ⊢
        rcases look_newH hl with ⟨x, h1, h2, _⟩ | hl
        · omega
        · have := h.W.hlt id blk hl; omega
      · intro i hi
        dsimp at hi
        show (if i < S.nx then ρ i else ρ' (i - S.nx)) = none
        rw [if_neg (by omega)]
        exact hW'.nx _ (by omega)
      · intro id blk hl
        dsimp at hl
        rcases look_newH hl with ⟨x, h1, h2, h3, rfl⟩ | hl
        · have hli := look_idxH (i := 0) h3
          have hb := hW'.blocks _ _ hli
          have eid : S.nx + (0 + (id - (S.nx + 0))) = id := by omega
          have hρid : ∀ b, ρ' (0 + (id - (S.nx + 0))) = some b → ρ2 id = some b := by
            intro b hb
            have := h2new _ _ hb
            rw [eid] at this; exact this
          cases x with
          | cells l =>
            obtain ⟨b, c, T, b1, b2, b3, b5, b4⟩ := hb
            obtain ⟨s1, s2⟩ := shiftL_spec S.nx l
            refine ⟨b, c, T, hρid b b1, b2, b3.trans s1.symm, b5, fun j hj => ?_⟩
            rcases s2 j with e | e
            · rw [e]; exact shift1_rep h2new hok2 (b4 j (by omega))
            · omega
          | rows sz k get =>
            rcases hb with ⟨b1, b2⟩ | ⟨b, c, T, b1, b2, b3, b5, b4⟩
            · refine .inl ⟨b1, ?_⟩
              show (if id < S.nx then ρ id else ρ' (id - S.nx)) = none
              rw [if_neg (by omega)]
              rw [show (0 + (id - (S.nx + 0))) = id - S.nx by omega] at b2
              exact b2
            · refine .inr ⟨b, c, T, hρid b b1, b2, b3, b5, fun i hi j hj => ?_⟩
              exact (b4 i hi j hj).mono (Keeps.refl w') (fun _ _ _ e => e) (fun _ _ e => e) (fun b hb => ⟨hok2 b hb, rfl⟩)
        · have hlt := h.W.hlt id blk hl
          refine (h.W.blocks id blk hl).mono hbel.keeps h2old (fun e => ?_) hok1 (fun b hb => hkeep b (h.W.rng id b hb).1)
          show (if id < S.nx then ρ id else ρ' (id - S.nx)) = none
          rw [if_pos hlt]; exact e
end Go.Ev

namespace Go.Ev
/-! ### The walk over a region's operations -/
abbrev CallT := FuncId → List MV → St → (MV → St → Prop) → Prop
def conjO : List Prop → Option Prop
  | [] => none
  | p :: r => match conjO r with
    | none => some p
    | some q => some (p ∧ q)
theorem conjO_all : ∀ {l : List Prop}, (∀ p, conjO l = some p → p) → AllP l
  | [], _ => fun p hp => by simp at hp
  | x :: r, h => by
    unfold conjO at h
    split at h
    · rename_i hr
      have hx := h x rfl
      have : AllP r := conjO_all (fun p hp => by rw [hr] at hp; cases hp)
      intro p hp
      rcases List.mem_cons.1 hp with rfl | hp
      · exact hx
      · exact this p hp
    · rename_i q hr
      obtain ⟨hx, hq⟩ := h _ rfl
      have : AllP r := conjO_all (fun p hp => by rw [hr] at hp; cases hp; exact hq)
      intro p hp
      rcases List.mem_cons.1 hp with rfl | hp
      · exact hx
      · exact this p hp
def evExt (k : XK) (ms : List MV) : Option (Option Prop × MV) :=
  match k, ms with
  | .f64from, [.i .u64 n] => some (some (n.toNat < 18446744073709551616), .f .f64 (canon .f64 n.toNat))
  | .f32from, [.i .u32 n] => some (some (n.toNat < 4294967296), .f .f32 (canon .f32 n.toNat))
  | .sqrt, [.f .f64 x] => some (none, .f .f64 (fsqrt x))
  | _, _ => none
def extRun : XK → Array Value → Sem Value
  | .f64bits => Extern.MathFloatBits.float64bits
  | .f64from => Extern.MathFloatBits.float64frombits
  | .f32bits => Extern.MathFloatBits.float32bits
  | .f32from => Extern.MathFloatBits.float32frombits
  | .sqrt => Extern.MathSqrt.sqrt
  | .floor => Extern.MathFloatBits.float64bits
def pureCall (E : Env) (S : St) (f : FuncId) (ms : List MV) : Option (Option Prop × MV) :=
  match E.ext f with
  | some k => evExt k ms
  | none => match callSum E S f ms with
    | some (ps, m, []) => some (conjO ps, m)
    | _ => none
def evPick (ops : List Oper) (F : List (Nat × MV)) (g : List (Nat × Bool)) (c a b : Operand) : Option MV :=
  match opd F g c with
  | some (.lb true) => opd F g a
  | some (.lb false) => opd F g b
  | some (.b x) => match c with
    | .tmp t => match idxOf ops t 0 with
      | none => none
      | some jc => match dstOf ops jc with
        | none => none
        | some d => match Nat.beq d t with
          | false => none
          | true => match b with
            | .const (.bool false) => match opd F (ancG ops F ops.length jc true ++ g) a with
              | some (.b y) => some (.b (x && y))
              | some (.lb y) => some (.b (x && y))
              | _ => none
            | _ => match a with
              | .const (.bool true) => match opd F (ancG ops F ops.length jc false ++ g) b with
                | some (.b y) => some (.b (x || y))
                | some (.lb y) => some (.b (x || y))
                | _ => none
              | _ => match opd F (ancG ops F ops.length jc true ++ g) a with
                | none => none
                | some ma => match opd F (ancG ops F ops.length jc false ++ g) b with
                  | none => none
                  | some mb => some (selM x ma mb)
    | _ => none
  | _ => none
def calleeOf (F : List (Nat × MV)) (g : List (Nat × Bool)) (fo : Operand) (args : List Operand) : Option (FuncId × List MV) :=
  match opd F g fo with
  | some (.fn f first caps) => match opds F g args with
    | some ms => some (f, first ++ ms ++ caps)
    | none => none
  | _ => none
def evPure (E : Env) (ops : List Oper) (S : St) (g : List (Nat × Bool)) (op : Op) : Option (Option Prop × MV) :=
  match op with
  | .pick c a b => match evPick ops S.F g c a b with
    | some m => some (none, m)
    | none => none
  | .call ⟨.value (.func f), args, _⟩ => match opds S.F g args.toList with
    | none => none
    | some ms => pureCall E S f ms
  | .call ⟨.value (.tmp t), args, _⟩ => match calleeOf S.F g (.tmp t) args.toList with
    | none => none
    | some (f, ms) => pureCall E S f ms
  | op => match opds S.F g (operL op) with
    | none => none
    | some ms => evPm E S.H op (opN op ms)
def forceF {α : Type} : List (Nat × α) → (List (Nat × α) → Prop) → Prop
  | [], k => k []
  | (s, m) :: r, k => forceF r fun r' => k ((s, m) :: r')
theorem forceF_eq {α : Type} : ∀ {l : List (Nat × α)} {k : List (Nat × α) → Prop}, forceF l k → k l
  | [], k, h => h
  | (s, m) :: r, k, h => forceF_eq (l := r) h
def forceS (k : MV → St → Prop) (m : MV) (S : St) : Prop := match S with
  | ⟨F, stk, H, nx⟩ => forceF F fun F' => forceF H fun H' => k m ⟨F', stk, H', nx⟩
theorem forceS_eq {k : MV → St → Prop} {m : MV} {S : St} (h : forceS k m S) : k m S := forceF_eq (forceF_eq h)
def evAny (E : Env) (call : CallT) (ops : List Oper) (S : St) (g : List (Nat × Bool)) (op : Op) (K : MV → St → Prop) : Prop :=
  match evPure E ops S g op with
  | some (none, m) => K m S
  | some (some p, m) => Need p (K m S)
  | none => match op with
    | .call ⟨.value fo, args, _⟩ => match opd S.F g fo with
      | some (.fn f first caps) => match opds S.F g args.toList with
        | some ms => call f (first ++ ms ++ caps) S K
        | none => False
      | _ => False
    | op => match opds S.F g (operL op) with
      | none => False
      | some ms => match S with
        | ⟨F, stk, H, nx⟩ => evKm E F stk H nx op (opN op ms) (forceS K)
def putD (n : Nat) (tb : List TE) (dst : Option Nat) (m : MV) (S : St) (K : St → Prop) : Prop :=
  match dst with
  | none => K S
  | some d => match freeT tb d with
    | true => match Nat.blt d n with
      | true => match S with
        | ⟨F, stk, H, nx⟩ => forceF (putL F d m) fun F' => K ⟨F', stk, H, nx⟩
      | false => False
    | false => False
def dOf (ops : List Oper) (j : Nat) : Nat := (dstOf ops j).getD 0
def decideF (ops : List Oper) (F : List (Nat × MV)) (j : Nat) (want yes : Bool) : List (Nat × MV) :=
  match dstOf ops j with
  | none => F
  | some d => match yes with
    | true => putL F d (.lb want)
    | false => match look F d with
      | some (.b _) => putL F d (.lb (!want))
      | _ => F
def evOps (E : Env) (call : CallT) (n : Nat) (ops : List Oper) : List Oper → List TE → St → (St → Prop) → Prop
  | [], _, S, K => match S with
    | ⟨F, stk, H, nx⟩ => forceF (cleanF F) fun F' => K ⟨F', stk, H, nx⟩
  | o :: rest, tb, S, K => match o.guard with
    | none => evAny E call ops S [] o.op fun m S' => putD n tb o.dst m S' fun S'' => evOps E call n ops rest tb S'' K
    | some (j, want) => match condOf ops S.F tb j want with
      | none => False
      | some .t => evAny E call ops S (ancG ops S.F ops.length j want) o.op fun m S' => putD n tb o.dst m S' fun S'' => evOps E call n ops rest tb S'' K
      | some .f => putD n tb o.dst (.x undef) S fun S'' => evOps E call n ops rest tb S'' K
      | some (.s C) => match evPure E ops S (ancG ops S.F ops.length j want) o.op with
        | some (none, m) => match noGd m with
          | true => putD n (⟨j, want, dOf ops j, .s C⟩ :: tb) o.dst (.gd j want m) S fun S'' => evOps E call n ops rest (⟨j, want, dOf ops j, .s C⟩ :: tb) S'' K
          | false => False
        | some (some p, m) => match noGd m with
          | true => Need (C = true → p) (putD n (⟨j, want, dOf ops j, .s C⟩ :: tb) o.dst (.gd j want m) S fun S'' => evOps E call n ops rest (⟨j, want, dOf ops j, .s C⟩ :: tb) S'' K)
          | false => False
        | none =>
          (C = true → match S with | ⟨F, stk, H, nx⟩ => forceF (decideF ops F j want true) fun F' => evAny E call ops ⟨F', stk, H, nx⟩ (ancG ops F ops.length j want) o.op fun m S' => putD n (⟨j, want, dOf ops j, .t⟩ :: tb) o.dst m S' fun S'' => evOps E call n ops rest (⟨j, want, dOf ops j, .t⟩ :: tb) S'' K) ∧
          (C = false → match S with | ⟨F, stk, H, nx⟩ => forceF (decideF ops F j want false) fun F' => putD n (⟨j, want, dOf ops j, .f⟩ :: tb) o.dst (.x undef) ⟨F', stk, H, nx⟩ fun S'' => evOps E call n ops rest (⟨j, want, dOf ops j, .f⟩ :: tb) S'' K)
def opStep (E : Env) (call : CallT) (n : Nat) (ops : List Oper) (o : Oper) (tb : List TE) (S : St) (K2 : List TE → St → Prop) : Prop :=
  match o.guard with
    | none => evAny E call ops S [] o.op fun m S' => putD n tb o.dst m S' fun S'' => K2 tb S''
    | some (j, want) => match condOf ops S.F tb j want with
      | none => False
      | some .t => evAny E call ops S (ancG ops S.F ops.length j want) o.op fun m S' => putD n tb o.dst m S' fun S'' => K2 tb S''
      | some .f => putD n tb o.dst (.x undef) S fun S'' => K2 tb S''
      | some (.s C) => match evPure E ops S (ancG ops S.F ops.length j want) o.op with
        | some (none, m) => match noGd m with
          | true => putD n (⟨j, want, dOf ops j, .s C⟩ :: tb) o.dst (.gd j want m) S fun S'' => K2 (⟨j, want, dOf ops j, .s C⟩ :: tb) S''
          | false => False
        | some (some p, m) => match noGd m with
          | true => Need (C = true → p) (putD n (⟨j, want, dOf ops j, .s C⟩ :: tb) o.dst (.gd j want m) S fun S'' => K2 (⟨j, want, dOf ops j, .s C⟩ :: tb) S'')
          | false => False
        | none =>
          (C = true → match S with | ⟨F, stk, H, nx⟩ => forceF (decideF ops F j want true) fun F' => evAny E call ops ⟨F', stk, H, nx⟩ (ancG ops F ops.length j want) o.op fun m S' => putD n (⟨j, want, dOf ops j, .t⟩ :: tb) o.dst m S' fun S'' => K2 (⟨j, want, dOf ops j, .t⟩ :: tb) S'') ∧
          (C = false → match S with | ⟨F, stk, H, nx⟩ => forceF (decideF ops F j want false) fun F' => putD n (⟨j, want, dOf ops j, .f⟩ :: tb) o.dst (.x undef) ⟨F', stk, H, nx⟩ fun S'' => K2 (⟨j, want, dOf ops j, .f⟩ :: tb) S'')
theorem evOps_cons {E : Env} {call : CallT} {n : Nat} {ops : List Oper} {o : Oper} {r : List Oper} {tb : List TE} {S : St} {K : St → Prop} : evOps E call n ops (o :: r) tb S K = opStep E call n ops o tb S (fun tb S => evOps E call n ops r tb S K) := rfl
def evO0 (E : Env) (call : CallT) (n : Nat) (ops : List Oper) (l : List Oper) (tb : List TE) (S : St) (K : St → Prop) : Prop := evOps E call n ops l tb S K
theorem evO0_eq {E : Env} {call : CallT} {n : Nat} {ops : List Oper} {l : List Oper} {tb : List TE} {S : St} {K : St → Prop} : evO0 E call n ops l tb S K = evOps E call n ops l tb S K := rfl
def evO1 (E : Env) (call : CallT) (n : Nat) (ops : List Oper) (l : List Oper) (tb : List TE) (S : St) (K : St → Prop) : Prop := match l with
  | [] => match S with
    | ⟨F, stk, H, nx⟩ => forceF (cleanF F) fun F' => K ⟨F', stk, H, nx⟩
  | o :: r => opStep E call n ops o tb S (fun tb S => evO0 E call n ops r tb S K)
theorem evO1_eq {E : Env} {call : CallT} {n : Nat} {ops : List Oper} {l : List Oper} {tb : List TE} {S : St} {K : St → Prop} : evO1 E call n ops l tb S K = evOps E call n ops l tb S K := by
  cases l with
  | nil => rfl
  | cons o r => rw [evOps_cons]; simp only [evO1, evO0_eq]
def evO2 (E : Env) (call : CallT) (n : Nat) (ops : List Oper) (l : List Oper) (tb : List TE) (S : St) (K : St → Prop) : Prop := match l with
  | [] => match S with
    | ⟨F, stk, H, nx⟩ => forceF (cleanF F) fun F' => K ⟨F', stk, H, nx⟩
  | o :: r => opStep E call n ops o tb S (fun tb S => evO1 E call n ops r tb S K)
theorem evO2_eq {E : Env} {call : CallT} {n : Nat} {ops : List Oper} {l : List Oper} {tb : List TE} {S : St} {K : St → Prop} : evO2 E call n ops l tb S K = evOps E call n ops l tb S K := by
  cases l with
  | nil => rfl
  | cons o r => rw [evOps_cons]; simp only [evO2, evO1_eq]
def evO3 (E : Env) (call : CallT) (n : Nat) (ops : List Oper) (l : List Oper) (tb : List TE) (S : St) (K : St → Prop) : Prop := match l with
  | [] => match S with
    | ⟨F, stk, H, nx⟩ => forceF (cleanF F) fun F' => K ⟨F', stk, H, nx⟩
  | o :: r => opStep E call n ops o tb S (fun tb S => evO2 E call n ops r tb S K)
theorem evO3_eq {E : Env} {call : CallT} {n : Nat} {ops : List Oper} {l : List Oper} {tb : List TE} {S : St} {K : St → Prop} : evO3 E call n ops l tb S K = evOps E call n ops l tb S K := by
  cases l with
  | nil => rfl
  | cons o r => rw [evOps_cons]; simp only [evO3, evO2_eq]
def evO4 (E : Env) (call : CallT) (n : Nat) (ops : List Oper) (l : List Oper) (tb : List TE) (S : St) (K : St → Prop) : Prop := match l with
  | [] => match S with
    | ⟨F, stk, H, nx⟩ => forceF (cleanF F) fun F' => K ⟨F', stk, H, nx⟩
  | o :: r => opStep E call n ops o tb S (fun tb S => evO3 E call n ops r tb S K)
theorem evO4_eq {E : Env} {call : CallT} {n : Nat} {ops : List Oper} {l : List Oper} {tb : List TE} {S : St} {K : St → Prop} : evO4 E call n ops l tb S K = evOps E call n ops l tb S K := by
  cases l with
  | nil => rfl
  | cons o r => rw [evOps_cons]; simp only [evO4, evO3_eq]
def evO5 (E : Env) (call : CallT) (n : Nat) (ops : List Oper) (l : List Oper) (tb : List TE) (S : St) (K : St → Prop) : Prop := match l with
  | [] => match S with
    | ⟨F, stk, H, nx⟩ => forceF (cleanF F) fun F' => K ⟨F', stk, H, nx⟩
  | o :: r => opStep E call n ops o tb S (fun tb S => evO4 E call n ops r tb S K)
theorem evO5_eq {E : Env} {call : CallT} {n : Nat} {ops : List Oper} {l : List Oper} {tb : List TE} {S : St} {K : St → Prop} : evO5 E call n ops l tb S K = evOps E call n ops l tb S K := by
  cases l with
  | nil => rfl
  | cons o r => rw [evOps_cons]; simp only [evO5, evO4_eq]
def evO6 (E : Env) (call : CallT) (n : Nat) (ops : List Oper) (l : List Oper) (tb : List TE) (S : St) (K : St → Prop) : Prop := match l with
  | [] => match S with
    | ⟨F, stk, H, nx⟩ => forceF (cleanF F) fun F' => K ⟨F', stk, H, nx⟩
  | o :: r => opStep E call n ops o tb S (fun tb S => evO5 E call n ops r tb S K)
theorem evO6_eq {E : Env} {call : CallT} {n : Nat} {ops : List Oper} {l : List Oper} {tb : List TE} {S : St} {K : St → Prop} : evO6 E call n ops l tb S K = evOps E call n ops l tb S K := by
  cases l with
  | nil => rfl
  | cons o r => rw [evOps_cons]; simp only [evO6, evO5_eq]
def evO7 (E : Env) (call : CallT) (n : Nat) (ops : List Oper) (l : List Oper) (tb : List TE) (S : St) (K : St → Prop) : Prop := match l with
  | [] => match S with
    | ⟨F, stk, H, nx⟩ => forceF (cleanF F) fun F' => K ⟨F', stk, H, nx⟩
  | o :: r => opStep E call n ops o tb S (fun tb S => evO6 E call n ops r tb S K)
theorem evO7_eq {E : Env} {call : CallT} {n : Nat} {ops : List Oper} {l : List Oper} {tb : List TE} {S : St} {K : St → Prop} : evO7 E call n ops l tb S K = evOps E call n ops l tb S K := by
  cases l with
  | nil => rfl
  | cons o r => rw [evOps_cons]; simp only [evO7, evO6_eq]
def evO8 (E : Env) (call : CallT) (n : Nat) (ops : List Oper) (l : List Oper) (tb : List TE) (S : St) (K : St → Prop) : Prop := match l with
  | [] => match S with
    | ⟨F, stk, H, nx⟩ => forceF (cleanF F) fun F' => K ⟨F', stk, H, nx⟩
  | o :: r => opStep E call n ops o tb S (fun tb S => evO7 E call n ops r tb S K)
theorem evO8_eq {E : Env} {call : CallT} {n : Nat} {ops : List Oper} {l : List Oper} {tb : List TE} {S : St} {K : St → Prop} : evO8 E call n ops l tb S K = evOps E call n ops l tb S K := by
  cases l with
  | nil => rfl
  | cons o r => rw [evOps_cons]; simp only [evO8, evO7_eq]
def evO9 (E : Env) (call : CallT) (n : Nat) (ops : List Oper) (l : List Oper) (tb : List TE) (S : St) (K : St → Prop) : Prop := match l with
  | [] => match S with
    | ⟨F, stk, H, nx⟩ => forceF (cleanF F) fun F' => K ⟨F', stk, H, nx⟩
  | o :: r => opStep E call n ops o tb S (fun tb S => evO8 E call n ops r tb S K)
theorem evO9_eq {E : Env} {call : CallT} {n : Nat} {ops : List Oper} {l : List Oper} {tb : List TE} {S : St} {K : St → Prop} : evO9 E call n ops l tb S K = evOps E call n ops l tb S K := by
  cases l with
  | nil => rfl
  | cons o r => rw [evOps_cons]; simp only [evO9, evO8_eq]
def evO10 (E : Env) (call : CallT) (n : Nat) (ops : List Oper) (l : List Oper) (tb : List TE) (S : St) (K : St → Prop) : Prop := match l with
  | [] => match S with
    | ⟨F, stk, H, nx⟩ => forceF (cleanF F) fun F' => K ⟨F', stk, H, nx⟩
  | o :: r => opStep E call n ops o tb S (fun tb S => evO9 E call n ops r tb S K)
theorem evO10_eq {E : Env} {call : CallT} {n : Nat} {ops : List Oper} {l : List Oper} {tb : List TE} {S : St} {K : St → Prop} : evO10 E call n ops l tb S K = evOps E call n ops l tb S K := by
  cases l with
  | nil => rfl
  | cons o r => rw [evOps_cons]; simp only [evO10, evO9_eq]
def evO11 (E : Env) (call : CallT) (n : Nat) (ops : List Oper) (l : List Oper) (tb : List TE) (S : St) (K : St → Prop) : Prop := match l with
  | [] => match S with
    | ⟨F, stk, H, nx⟩ => forceF (cleanF F) fun F' => K ⟨F', stk, H, nx⟩
  | o :: r => opStep E call n ops o tb S (fun tb S => evO10 E call n ops r tb S K)
theorem evO11_eq {E : Env} {call : CallT} {n : Nat} {ops : List Oper} {l : List Oper} {tb : List TE} {S : St} {K : St → Prop} : evO11 E call n ops l tb S K = evOps E call n ops l tb S K := by
  cases l with
  | nil => rfl
  | cons o r => rw [evOps_cons]; simp only [evO11, evO10_eq]
def evO12 (E : Env) (call : CallT) (n : Nat) (ops : List Oper) (l : List Oper) (tb : List TE) (S : St) (K : St → Prop) : Prop := match l with
  | [] => match S with
    | ⟨F, stk, H, nx⟩ => forceF (cleanF F) fun F' => K ⟨F', stk, H, nx⟩
  | o :: r => opStep E call n ops o tb S (fun tb S => evO11 E call n ops r tb S K)
theorem evO12_eq {E : Env} {call : CallT} {n : Nat} {ops : List Oper} {l : List Oper} {tb : List TE} {S : St} {K : St → Prop} : evO12 E call n ops l tb S K = evOps E call n ops l tb S K := by
  cases l with
  | nil => rfl
  | cons o r => rw [evOps_cons]; simp only [evO12, evO11_eq]
def evO13 (E : Env) (call : CallT) (n : Nat) (ops : List Oper) (l : List Oper) (tb : List TE) (S : St) (K : St → Prop) : Prop := match l with
  | [] => match S with
    | ⟨F, stk, H, nx⟩ => forceF (cleanF F) fun F' => K ⟨F', stk, H, nx⟩
  | o :: r => opStep E call n ops o tb S (fun tb S => evO12 E call n ops r tb S K)
theorem evO13_eq {E : Env} {call : CallT} {n : Nat} {ops : List Oper} {l : List Oper} {tb : List TE} {S : St} {K : St → Prop} : evO13 E call n ops l tb S K = evOps E call n ops l tb S K := by
  cases l with
  | nil => rfl
  | cons o r => rw [evOps_cons]; simp only [evO13, evO12_eq]
def evO14 (E : Env) (call : CallT) (n : Nat) (ops : List Oper) (l : List Oper) (tb : List TE) (S : St) (K : St → Prop) : Prop := match l with
  | [] => match S with
    | ⟨F, stk, H, nx⟩ => forceF (cleanF F) fun F' => K ⟨F', stk, H, nx⟩
  | o :: r => opStep E call n ops o tb S (fun tb S => evO13 E call n ops r tb S K)
theorem evO14_eq {E : Env} {call : CallT} {n : Nat} {ops : List Oper} {l : List Oper} {tb : List TE} {S : St} {K : St → Prop} : evO14 E call n ops l tb S K = evOps E call n ops l tb S K := by
  cases l with
  | nil => rfl
  | cons o r => rw [evOps_cons]; simp only [evO14, evO13_eq]
def evO15 (E : Env) (call : CallT) (n : Nat) (ops : List Oper) (l : List Oper) (tb : List TE) (S : St) (K : St → Prop) : Prop := match l with
  | [] => match S with
    | ⟨F, stk, H, nx⟩ => forceF (cleanF F) fun F' => K ⟨F', stk, H, nx⟩
  | o :: r => opStep E call n ops o tb S (fun tb S => evO14 E call n ops r tb S K)
theorem evO15_eq {E : Env} {call : CallT} {n : Nat} {ops : List Oper} {l : List Oper} {tb : List TE} {S : St} {K : St → Prop} : evO15 E call n ops l tb S K = evOps E call n ops l tb S K := by
  cases l with
  | nil => rfl
  | cons o r => rw [evOps_cons]; simp only [evO15, evO14_eq]
def evO16 (E : Env) (call : CallT) (n : Nat) (ops : List Oper) (l : List Oper) (tb : List TE) (S : St) (K : St → Prop) : Prop := match l with
  | [] => match S with
    | ⟨F, stk, H, nx⟩ => forceF (cleanF F) fun F' => K ⟨F', stk, H, nx⟩
  | o :: r => opStep E call n ops o tb S (fun tb S => evO15 E call n ops r tb S K)
theorem evO16_eq {E : Env} {call : CallT} {n : Nat} {ops : List Oper} {l : List Oper} {tb : List TE} {S : St} {K : St → Prop} : evO16 E call n ops l tb S K = evOps E call n ops l tb S K := by
  cases l with
  | nil => rfl
  | cons o r => rw [evOps_cons]; simp only [evO16, evO15_eq]
def evO17 (E : Env) (call : CallT) (n : Nat) (ops : List Oper) (l : List Oper) (tb : List TE) (S : St) (K : St → Prop) : Prop := match l with
  | [] => match S with
    | ⟨F, stk, H, nx⟩ => forceF (cleanF F) fun F' => K ⟨F', stk, H, nx⟩
  | o :: r => opStep E call n ops o tb S (fun tb S => evO16 E call n ops r tb S K)
theorem evO17_eq {E : Env} {call : CallT} {n : Nat} {ops : List Oper} {l : List Oper} {tb : List TE} {S : St} {K : St → Prop} : evO17 E call n ops l tb S K = evOps E call n ops l tb S K := by
  cases l with
  | nil => rfl
  | cons o r => rw [evOps_cons]; simp only [evO17, evO16_eq]
def evO18 (E : Env) (call : CallT) (n : Nat) (ops : List Oper) (l : List Oper) (tb : List TE) (S : St) (K : St → Prop) : Prop := match l with
  | [] => match S with
    | ⟨F, stk, H, nx⟩ => forceF (cleanF F) fun F' => K ⟨F', stk, H, nx⟩
  | o :: r => opStep E call n ops o tb S (fun tb S => evO17 E call n ops r tb S K)
theorem evO18_eq {E : Env} {call : CallT} {n : Nat} {ops : List Oper} {l : List Oper} {tb : List TE} {S : St} {K : St → Prop} : evO18 E call n ops l tb S K = evOps E call n ops l tb S K := by
  cases l with
  | nil => rfl
  | cons o r => rw [evOps_cons]; simp only [evO18, evO17_eq]
def evO19 (E : Env) (call : CallT) (n : Nat) (ops : List Oper) (l : List Oper) (tb : List TE) (S : St) (K : St → Prop) : Prop := match l with
  | [] => match S with
    | ⟨F, stk, H, nx⟩ => forceF (cleanF F) fun F' => K ⟨F', stk, H, nx⟩
  | o :: r => opStep E call n ops o tb S (fun tb S => evO18 E call n ops r tb S K)
theorem evO19_eq {E : Env} {call : CallT} {n : Nat} {ops : List Oper} {l : List Oper} {tb : List TE} {S : St} {K : St → Prop} : evO19 E call n ops l tb S K = evOps E call n ops l tb S K := by
  cases l with
  | nil => rfl
  | cons o r => rw [evOps_cons]; simp only [evO19, evO18_eq]
def evO20 (E : Env) (call : CallT) (n : Nat) (ops : List Oper) (l : List Oper) (tb : List TE) (S : St) (K : St → Prop) : Prop := match l with
  | [] => match S with
    | ⟨F, stk, H, nx⟩ => forceF (cleanF F) fun F' => K ⟨F', stk, H, nx⟩
  | o :: r => opStep E call n ops o tb S (fun tb S => evO19 E call n ops r tb S K)
theorem evO20_eq {E : Env} {call : CallT} {n : Nat} {ops : List Oper} {l : List Oper} {tb : List TE} {S : St} {K : St → Prop} : evO20 E call n ops l tb S K = evOps E call n ops l tb S K := by
  cases l with
  | nil => rfl
  | cons o r => rw [evOps_cons]; simp only [evO20, evO19_eq]
def evO21 (E : Env) (call : CallT) (n : Nat) (ops : List Oper) (l : List Oper) (tb : List TE) (S : St) (K : St → Prop) : Prop := match l with
  | [] => match S with
    | ⟨F, stk, H, nx⟩ => forceF (cleanF F) fun F' => K ⟨F', stk, H, nx⟩
  | o :: r => opStep E call n ops o tb S (fun tb S => evO20 E call n ops r tb S K)
theorem evO21_eq {E : Env} {call : CallT} {n : Nat} {ops : List Oper} {l : List Oper} {tb : List TE} {S : St} {K : St → Prop} : evO21 E call n ops l tb S K = evOps E call n ops l tb S K := by
  cases l with
  | nil => rfl
  | cons o r => rw [evOps_cons]; simp only [evO21, evO20_eq]
def evO22 (E : Env) (call : CallT) (n : Nat) (ops : List Oper) (l : List Oper) (tb : List TE) (S : St) (K : St → Prop) : Prop := match l with
  | [] => match S with
    | ⟨F, stk, H, nx⟩ => forceF (cleanF F) fun F' => K ⟨F', stk, H, nx⟩
  | o :: r => opStep E call n ops o tb S (fun tb S => evO21 E call n ops r tb S K)
theorem evO22_eq {E : Env} {call : CallT} {n : Nat} {ops : List Oper} {l : List Oper} {tb : List TE} {S : St} {K : St → Prop} : evO22 E call n ops l tb S K = evOps E call n ops l tb S K := by
  cases l with
  | nil => rfl
  | cons o r => rw [evOps_cons]; simp only [evO22, evO21_eq]
def evO23 (E : Env) (call : CallT) (n : Nat) (ops : List Oper) (l : List Oper) (tb : List TE) (S : St) (K : St → Prop) : Prop := match l with
  | [] => match S with
    | ⟨F, stk, H, nx⟩ => forceF (cleanF F) fun F' => K ⟨F', stk, H, nx⟩
  | o :: r => opStep E call n ops o tb S (fun tb S => evO22 E call n ops r tb S K)
theorem evO23_eq {E : Env} {call : CallT} {n : Nat} {ops : List Oper} {l : List Oper} {tb : List TE} {S : St} {K : St → Prop} : evO23 E call n ops l tb S K = evOps E call n ops l tb S K := by
  cases l with
  | nil => rfl
  | cons o r => rw [evOps_cons]; simp only [evO23, evO22_eq]
def evO24 (E : Env) (call : CallT) (n : Nat) (ops : List Oper) (l : List Oper) (tb : List TE) (S : St) (K : St → Prop) : Prop := match l with
  | [] => match S with
    | ⟨F, stk, H, nx⟩ => forceF (cleanF F) fun F' => K ⟨F', stk, H, nx⟩
  | o :: r => opStep E call n ops o tb S (fun tb S => evO23 E call n ops r tb S K)
theorem evO24_eq {E : Env} {call : CallT} {n : Nat} {ops : List Oper} {l : List Oper} {tb : List TE} {S : St} {K : St → Prop} : evO24 E call n ops l tb S K = evOps E call n ops l tb S K := by
  cases l with
  | nil => rfl
  | cons o r => rw [evOps_cons]; simp only [evO24, evO23_eq]
def evO25 (E : Env) (call : CallT) (n : Nat) (ops : List Oper) (l : List Oper) (tb : List TE) (S : St) (K : St → Prop) : Prop := match l with
  | [] => match S with
    | ⟨F, stk, H, nx⟩ => forceF (cleanF F) fun F' => K ⟨F', stk, H, nx⟩
  | o :: r => opStep E call n ops o tb S (fun tb S => evO24 E call n ops r tb S K)
theorem evO25_eq {E : Env} {call : CallT} {n : Nat} {ops : List Oper} {l : List Oper} {tb : List TE} {S : St} {K : St → Prop} : evO25 E call n ops l tb S K = evOps E call n ops l tb S K := by
  cases l with
  | nil => rfl
  | cons o r => rw [evOps_cons]; simp only [evO25, evO24_eq]
def evO26 (E : Env) (call : CallT) (n : Nat) (ops : List Oper) (l : List Oper) (tb : List TE) (S : St) (K : St → Prop) : Prop := match l with
  | [] => match S with
    | ⟨F, stk, H, nx⟩ => forceF (cleanF F) fun F' => K ⟨F', stk, H, nx⟩
  | o :: r => opStep E call n ops o tb S (fun tb S => evO25 E call n ops r tb S K)
theorem evO26_eq {E : Env} {call : CallT} {n : Nat} {ops : List Oper} {l : List Oper} {tb : List TE} {S : St} {K : St → Prop} : evO26 E call n ops l tb S K = evOps E call n ops l tb S K := by
  cases l with
  | nil => rfl
  | cons o r => rw [evOps_cons]; simp only [evO26, evO25_eq]
def evO27 (E : Env) (call : CallT) (n : Nat) (ops : List Oper) (l : List Oper) (tb : List TE) (S : St) (K : St → Prop) : Prop := match l with
  | [] => match S with
    | ⟨F, stk, H, nx⟩ => forceF (cleanF F) fun F' => K ⟨F', stk, H, nx⟩
  | o :: r => opStep E call n ops o tb S (fun tb S => evO26 E call n ops r tb S K)
theorem evO27_eq {E : Env} {call : CallT} {n : Nat} {ops : List Oper} {l : List Oper} {tb : List TE} {S : St} {K : St → Prop} : evO27 E call n ops l tb S K = evOps E call n ops l tb S K := by
  cases l with
  | nil => rfl
  | cons o r => rw [evOps_cons]; simp only [evO27, evO26_eq]
def evO28 (E : Env) (call : CallT) (n : Nat) (ops : List Oper) (l : List Oper) (tb : List TE) (S : St) (K : St → Prop) : Prop := match l with
  | [] => match S with
    | ⟨F, stk, H, nx⟩ => forceF (cleanF F) fun F' => K ⟨F', stk, H, nx⟩
  | o :: r => opStep E call n ops o tb S (fun tb S => evO27 E call n ops r tb S K)
theorem evO28_eq {E : Env} {call : CallT} {n : Nat} {ops : List Oper} {l : List Oper} {tb : List TE} {S : St} {K : St → Prop} : evO28 E call n ops l tb S K = evOps E call n ops l tb S K := by
  cases l with
  | nil => rfl
  | cons o r => rw [evOps_cons]; simp only [evO28, evO27_eq]
def evO29 (E : Env) (call : CallT) (n : Nat) (ops : List Oper) (l : List Oper) (tb : List TE) (S : St) (K : St → Prop) : Prop := match l with
  | [] => match S with
    | ⟨F, stk, H, nx⟩ => forceF (cleanF F) fun F' => K ⟨F', stk, H, nx⟩
  | o :: r => opStep E call n ops o tb S (fun tb S => evO28 E call n ops r tb S K)
theorem evO29_eq {E : Env} {call : CallT} {n : Nat} {ops : List Oper} {l : List Oper} {tb : List TE} {S : St} {K : St → Prop} : evO29 E call n ops l tb S K = evOps E call n ops l tb S K := by
  cases l with
  | nil => rfl
  | cons o r => rw [evOps_cons]; simp only [evO29, evO28_eq]
def evO30 (E : Env) (call : CallT) (n : Nat) (ops : List Oper) (l : List Oper) (tb : List TE) (S : St) (K : St → Prop) : Prop := match l with
  | [] => match S with
    | ⟨F, stk, H, nx⟩ => forceF (cleanF F) fun F' => K ⟨F', stk, H, nx⟩
  | o :: r => opStep E call n ops o tb S (fun tb S => evO29 E call n ops r tb S K)
theorem evO30_eq {E : Env} {call : CallT} {n : Nat} {ops : List Oper} {l : List Oper} {tb : List TE} {S : St} {K : St → Prop} : evO30 E call n ops l tb S K = evOps E call n ops l tb S K := by
  cases l with
  | nil => rfl
  | cons o r => rw [evOps_cons]; simp only [evO30, evO29_eq]
def evO31 (E : Env) (call : CallT) (n : Nat) (ops : List Oper) (l : List Oper) (tb : List TE) (S : St) (K : St → Prop) : Prop := match l with
  | [] => match S with
    | ⟨F, stk, H, nx⟩ => forceF (cleanF F) fun F' => K ⟨F', stk, H, nx⟩
  | o :: r => opStep E call n ops o tb S (fun tb S => evO30 E call n ops r tb S K)
theorem evO31_eq {E : Env} {call : CallT} {n : Nat} {ops : List Oper} {l : List Oper} {tb : List TE} {S : St} {K : St → Prop} : evO31 E call n ops l tb S K = evOps E call n ops l tb S K := by
  cases l with
  | nil => rfl
  | cons o r => rw [evOps_cons]; simp only [evO31, evO30_eq]
def evO32 (E : Env) (call : CallT) (n : Nat) (ops : List Oper) (l : List Oper) (tb : List TE) (S : St) (K : St → Prop) : Prop := match l with
  | [] => match S with
    | ⟨F, stk, H, nx⟩ => forceF (cleanF F) fun F' => K ⟨F', stk, H, nx⟩
  | o :: r => opStep E call n ops o tb S (fun tb S => evO31 E call n ops r tb S K)
theorem evO32_eq {E : Env} {call : CallT} {n : Nat} {ops : List Oper} {l : List Oper} {tb : List TE} {S : St} {K : St → Prop} : evO32 E call n ops l tb S K = evOps E call n ops l tb S K := by
  cases l with
  | nil => rfl
  | cons o r => rw [evOps_cons]; simp only [evO32, evO31_eq]
def evO33 (E : Env) (call : CallT) (n : Nat) (ops : List Oper) (l : List Oper) (tb : List TE) (S : St) (K : St → Prop) : Prop := match l with
  | [] => match S with
    | ⟨F, stk, H, nx⟩ => forceF (cleanF F) fun F' => K ⟨F', stk, H, nx⟩
  | o :: r => opStep E call n ops o tb S (fun tb S => evO32 E call n ops r tb S K)
theorem evO33_eq {E : Env} {call : CallT} {n : Nat} {ops : List Oper} {l : List Oper} {tb : List TE} {S : St} {K : St → Prop} : evO33 E call n ops l tb S K = evOps E call n ops l tb S K := by
  cases l with
  | nil => rfl
  | cons o r => rw [evOps_cons]; simp only [evO33, evO32_eq]
def evO34 (E : Env) (call : CallT) (n : Nat) (ops : List Oper) (l : List Oper) (tb : List TE) (S : St) (K : St → Prop) : Prop := match l with
  | [] => match S with
    | ⟨F, stk, H, nx⟩ => forceF (cleanF F) fun F' => K ⟨F', stk, H, nx⟩
  | o :: r => opStep E call n ops o tb S (fun tb S => evO33 E call n ops r tb S K)
theorem evO34_eq {E : Env} {call : CallT} {n : Nat} {ops : List Oper} {l : List Oper} {tb : List TE} {S : St} {K : St → Prop} : evO34 E call n ops l tb S K = evOps E call n ops l tb S K := by
  cases l with
  | nil => rfl
  | cons o r => rw [evOps_cons]; simp only [evO34, evO33_eq]
def evO35 (E : Env) (call : CallT) (n : Nat) (ops : List Oper) (l : List Oper) (tb : List TE) (S : St) (K : St → Prop) : Prop := match l with
  | [] => match S with
    | ⟨F, stk, H, nx⟩ => forceF (cleanF F) fun F' => K ⟨F', stk, H, nx⟩
  | o :: r => opStep E call n ops o tb S (fun tb S => evO34 E call n ops r tb S K)
theorem evO35_eq {E : Env} {call : CallT} {n : Nat} {ops : List Oper} {l : List Oper} {tb : List TE} {S : St} {K : St → Prop} : evO35 E call n ops l tb S K = evOps E call n ops l tb S K := by
  cases l with
  | nil => rfl
  | cons o r => rw [evOps_cons]; simp only [evO35, evO34_eq]
def evO36 (E : Env) (call : CallT) (n : Nat) (ops : List Oper) (l : List Oper) (tb : List TE) (S : St) (K : St → Prop) : Prop := match l with
  | [] => match S with
    | ⟨F, stk, H, nx⟩ => forceF (cleanF F) fun F' => K ⟨F', stk, H, nx⟩
  | o :: r => opStep E call n ops o tb S (fun tb S => evO35 E call n ops r tb S K)
theorem evO36_eq {E : Env} {call : CallT} {n : Nat} {ops : List Oper} {l : List Oper} {tb : List TE} {S : St} {K : St → Prop} : evO36 E call n ops l tb S K = evOps E call n ops l tb S K := by
  cases l with
  | nil => rfl
  | cons o r => rw [evOps_cons]; simp only [evO36, evO35_eq]
def evO37 (E : Env) (call : CallT) (n : Nat) (ops : List Oper) (l : List Oper) (tb : List TE) (S : St) (K : St → Prop) : Prop := match l with
  | [] => match S with
    | ⟨F, stk, H, nx⟩ => forceF (cleanF F) fun F' => K ⟨F', stk, H, nx⟩
  | o :: r => opStep E call n ops o tb S (fun tb S => evO36 E call n ops r tb S K)
theorem evO37_eq {E : Env} {call : CallT} {n : Nat} {ops : List Oper} {l : List Oper} {tb : List TE} {S : St} {K : St → Prop} : evO37 E call n ops l tb S K = evOps E call n ops l tb S K := by
  cases l with
  | nil => rfl
  | cons o r => rw [evOps_cons]; simp only [evO37, evO36_eq]
def evO38 (E : Env) (call : CallT) (n : Nat) (ops : List Oper) (l : List Oper) (tb : List TE) (S : St) (K : St → Prop) : Prop := match l with
  | [] => match S with
    | ⟨F, stk, H, nx⟩ => forceF (cleanF F) fun F' => K ⟨F', stk, H, nx⟩
  | o :: r => opStep E call n ops o tb S (fun tb S => evO37 E call n ops r tb S K)
theorem evO38_eq {E : Env} {call : CallT} {n : Nat} {ops : List Oper} {l : List Oper} {tb : List TE} {S : St} {K : St → Prop} : evO38 E call n ops l tb S K = evOps E call n ops l tb S K := by
  cases l with
  | nil => rfl
  | cons o r => rw [evOps_cons]; simp only [evO38, evO37_eq]
def evO39 (E : Env) (call : CallT) (n : Nat) (ops : List Oper) (l : List Oper) (tb : List TE) (S : St) (K : St → Prop) : Prop := match l with
  | [] => match S with
    | ⟨F, stk, H, nx⟩ => forceF (cleanF F) fun F' => K ⟨F', stk, H, nx⟩
  | o :: r => opStep E call n ops o tb S (fun tb S => evO38 E call n ops r tb S K)
theorem evO39_eq {E : Env} {call : CallT} {n : Nat} {ops : List Oper} {l : List Oper} {tb : List TE} {S : St} {K : St → Prop} : evO39 E call n ops l tb S K = evOps E call n ops l tb S K := by
  cases l with
  | nil => rfl
  | cons o r => rw [evOps_cons]; simp only [evO39, evO38_eq]
def evO40 (E : Env) (call : CallT) (n : Nat) (ops : List Oper) (l : List Oper) (tb : List TE) (S : St) (K : St → Prop) : Prop := match l with
  | [] => match S with
    | ⟨F, stk, H, nx⟩ => forceF (cleanF F) fun F' => K ⟨F', stk, H, nx⟩
  | o :: r => opStep E call n ops o tb S (fun tb S => evO39 E call n ops r tb S K)
theorem evO40_eq {E : Env} {call : CallT} {n : Nat} {ops : List Oper} {l : List Oper} {tb : List TE} {S : St} {K : St → Prop} : evO40 E call n ops l tb S K = evOps E call n ops l tb S K := by
  cases l with
  | nil => rfl
  | cons o r => rw [evOps_cons]; simp only [evO40, evO39_eq]
def evOpsF (E : Env) (call : CallT) (n : Nat) (ops : List Oper) (l : List Oper) (tb : List TE) (S : St) (K : St → Prop) : Prop := evO40 E call n ops l tb S K
theorem evOpsF_eq {E : Env} {call : CallT} {n : Nat} {ops : List Oper} {l : List Oper} {tb : List TE} {S : St} {K : St → Prop} : evOpsF E call n ops l tb S K = evOps E call n ops l tb S K := evO40_eq
/-! ### It is so -/
structure EnvAll (E : Env) : Prop extends EnvOK E where
  sum : SumOK E
  ext : ∀ f k, E.ext f = some k → ∀ (vs : Array Value) (w : World), (callFunc f vs).run E.P w = ((extRun k vs).run E.P w).andThen fun v w' => .ok (.value v) w'
theorem canon_FR (k : FloatKind) (b : Nat) (h : b < 2 ^ k.format.width) : FR k b (canon k b) := ⟨rfl, h⟩
theorem sqrt_FR {P : Program} {w : World} {r x : Nat} (h : FR .f64 r x) : ∃ q k, (Extern.MathSqrt.sqrt #[.float .f64 r]).run P w = .ok (.float .f64 q) { w with drawn := k } ∧ FR .f64 q (fsqrt x) := by
  have hnan : ∀ t, isNan .f64 ((Question.nanBits .f64 r r).cut t) = true ∧ (Question.nanBits .f64 r r).cut t < 2 ^ 64 := by
    intro t
    have a1 : t % 2 < 2 := Nat.mod_lt _ (by decide)
    have a2 : (t / 2) % (2 ^ 52 - 1) < 2 ^ 52 - 1 := Nat.mod_lt _ (by decide)
    simp only [Question.cut]
    generalize t % 2 = u at *
    generalize (t / 2) % (2 ^ 52 - 1) = v at *
    refine ⟨?_, by omega⟩
    have hm : (u * 2 ^ 63 + 9218868437227405312 + 1 + v) % 9223372036854775808 = 9218868437227405313 + v := by omega
    show (Ieee.Format.read Ieee.double _).isNaN = true
    unfold Ieee.Format.read
    dsimp only
    have e1 : Ieee.double.signWeight = 9223372036854775808 := by decide
    have e2 : Ieee.double.binade = 4503599627370496 := by decide
    have e3 : Ieee.double.infRung = 9218868437227405312 := by decide
    rw [e1, e2, e3, hm, if_neg (by omega), if_neg (by omega), if_neg (by omega)]
    rfl
  have he : FloatKind.f64.format.sqrt r = FloatKind.f64.format.sqrt x := by
    have hx := h.eq
    cases hn : isNan .f64 r
    · rw [canon_of_not hn] at hx; rw [hx]
    · rw [canon_of_nan hn] at hx
      subst hx
      obtain ⟨s1, t1, e1⟩ := read_nan hn
      obtain ⟨s2, t2, e2⟩ := read_nan (isNan_qnan .f64)
      unfold Ieee.Format.sqrt
      rw [e1, e2]
      rfl
  unfold fsqrt
  rw [← he]
  have hdef : Extern.MathSqrt.sqrt #[.float .f64 r] = (match FloatKind.f64.format.sqrt r with | some q => pure (.float .f64 q) | none => do pure (.float .f64 (← choose (.nanBits .f64 r r)))) := rfl
  rw [hdef]
  cases hs : FloatKind.f64.format.sqrt r with
  | some q =>
    refine ⟨q, w.drawn, rfl, canon_of_not (map_write_not_nan _ (fun _ h => root_not_nan h) hs), FloatKind.f64.format.sqrt_lt hs⟩
  | none => exact ⟨_, w.drawn + 1, rfl, canon_of_nan (hnan _).1, (hnan _).2⟩
theorem evExt_sound {P : Program} {k : XK} {ms : List MV} {c : Option Prop} {m : MV} (h : evExt k ms = some (c, m)) (hc : ∀ p, c = some p → p) {w : World} {G : GT} {ρ : RhoT} {ok : OkT} {vs : List Value} (hr : RepL w G ρ ok ms vs) :
    ∃ v n, (extRun k vs.toArray).run P w = .ok v { w with drawn := n } ∧ Rep w G ρ ok m v := by
  have one : ∀ {x : MV}, RepL w G ρ ok [x] vs → ∃ v, vs = [v] ∧ Rep w G ρ ok x v := by
    intro x hr
    have hl : vs.length = 1 := by simpa using hr.len.symm
    obtain ⟨v, rfl⟩ := List.length_eq_one_iff.1 hl
    exact ⟨v, rfl, hr.one⟩
  unfold evExt at h
  split at h
  · cases h
    obtain ⟨v, rfl, r⟩ := one hr
    cases r
    exact ⟨_, w.drawn, rfl, .f _ _ _ (canon_FR .f64 _ (by show _ < 2 ^ 64; have := hc _ rfl; omega))⟩
  · cases h
    obtain ⟨v, rfl, r⟩ := one hr
    cases r
    exact ⟨_, w.drawn, rfl, .f _ _ _ (canon_FR .f32 _ (by show _ < 2 ^ 32; have := hc _ rfl; omega))⟩
  · cases h
    obtain ⟨v, rfl, r⟩ := one hr
    cases r with
    | f _ r x hx =>
      obtain ⟨q, k, e, hq⟩ := sqrt_FR (P := P) (w := w) hx
      exact ⟨_, k, e, .f _ _ _ hq⟩
  · cases h
theorem upon_value {P : Program} {o : Oper} {a : Act} {w w' : World} {next : Act → World → Prop} {Q : Exit → Act → World → Prop} {v : Value} (h : (execOp a.eval o).run P w = .ok (.value v) w')
    (hn : next (a.put o.dst v) w') : o.wp P a w next Q := by
  unfold Oper.wp
  rw [h]; exact hn
theorem upon_skip {P : Program} {o : Oper} {a : Act} {w w' : World} {next : Act → World → Prop} {Q : Exit → Act → World → Prop} (h : (execOp a.eval o).run P w = .ok .skip w')
    (hn : next (a.put o.dst undef) w') : o.wp P a w next Q := by
  unfold Oper.wp
  rw [h]; exact hn
theorem exec_call {P : Program} {f : Operand → Value} {dst : Option Tmp} {fo : Operand} {args : Array Operand} {ts : Array TypeId} {ty : TypeId} {pos : String} {after : Array Edge} {guard : Option (Nat × Bool)} {g : FuncId} {first caps : Array Value}
    (hf : f fo = .func (.func g) first caps) {w : World} : (execOp f ⟨dst, .call ⟨.value fo, args, ts⟩, ty, pos, after, guard⟩).run P w = (callFunc g (first ++ args.map f ++ caps)).run P w := by
  simp only [execOp, resolve, hf, Deferred.ofValue, Sem.run_bind, Sem.run_pure, Result.andThen_ok, invoke]
theorem wp_call {P : Program} {o : Oper} {a : Act} {w : World} {next : Act → World → Prop} {Q : Exit → Act → World → Prop} {g : FuncId} {vs : List Value} (he : (execOp a.eval o).run P w = (callFunc g vs.toArray).run P w)
    {R : Value → World → Prop} (hc : CallGood P g vs w R) (hn : ∀ v w', R v w' → next (a.put o.dst v) w') : o.wp P a w next Q := by
  unfold Oper.wp
  rw [he]
  rcases hc with ⟨v, w', h1, h2⟩ | ⟨h1, h2⟩
  · rw [h1]; exact hn v w' h2
  · rw [h1]
    refine h2.mono ?_
    rintro e w' ⟨v, rfl, hR⟩
    exact hn v w' hR
theorem opds_repL {G : GT} {ρ : RhoT} {ok : OkT} {w : World} {F : List (Nat × MV)} {a : Act} (hF : FrOK w G ρ ok F a) {g : List (Nat × Bool)} (hg : Holds G g) {l : List Operand} {ms : List MV} (h : opds F g l = some ms) :
    RepL w G ρ ok ms (l.map a.eval) := by
  obtain ⟨h1, h2⟩ := opds_rep hF hg h
  exact ⟨by simp [h1], h2⟩
theorem evPick_sound {ops : List Oper} {tb : List TE} {F : List (Nat × MV)} {g : List (Nat × Bool)} {c a b : Operand} {m : MV} (h : evPick ops F g c a b = some m) {w : World} {ρ : RhoT} {ok : OkT} {act : Act}
    (hF : FrOK w (gOf tb) ρ ok F act) (hT : TOK ops tb act) (hg : Holds (gOf tb) g) : ∃ x : Bool, act.eval c = .bool x ∧ Rep w (gOf tb) ρ ok m (if x then act.eval a else act.eval b) := by
  unfold evPick at h
  split at h
  · rename_i hc
    have rc := opd_rep hF hg hc
    generalize hv : act.eval c = v at rc
    cases rc
    exact ⟨true, rfl, opd_rep hF hg h⟩
  · rename_i hc
    have rc := opd_rep hF hg hc
    generalize hv : act.eval c = v at rc
    cases rc
    exact ⟨false, rfl, opd_rep hF hg h⟩
  · rename_i x hc
    have rc := opd_rep hF hg hc
    generalize hv : act.eval c = v at rc
    cases rc
    split at h
    · rename_i t
      split at h
      · cases h
      · rename_i jc hj
        split at h
        · cases h
        · rename_i d hd
          split at h
          · cases h
          · rename_i hdt
            have hdt := Nat.eq_of_beq_eq_true hdt
            subst hdt
            have hy : yielded ops.toArray act.tmps jc = some x := by
              rw [yielded_dst hd]
              have : act.tmps[d]? = some (.bool x) := by
                have hv' : act.tmps.getD d undef = .bool x := hv
                rw [Array.getD_eq_getD_getElem?] at hv'
                cases ht : act.tmps[d]? with
                | none => rw [ht] at hv'; simp [undef] at hv'
                | some u => rw [ht] at hv'; simpa using hv'
              rw [this]
            have hx : ∀ want, x = want → Holds (gOf tb) (ancG ops F ops.length jc want ++ g) := by
              intro want hw y hy'
              rcases List.mem_append.1 hy' with hy' | hy'
              · exact ancG_holds hF hT (by rw [hy, hw]) y hy'
              · exact hg y hy'
            split at h
            · refine ⟨x, rfl, ?_⟩
              split at h
              · rename_i y ha
                cases h
                cases x with
                | true =>
                  have := opd_rep hF (hx true rfl) ha
                  simpa using this
                | false => exact .b _
              · rename_i y ha
                cases h
                cases x with
                | true =>
                  have := opd_rep hF (hx true rfl) ha
                  generalize hv2 : act.eval a = u at this
                  cases this
                  simp only [if_true]
                  exact .b _
                | false => exact .b _
              · cases h
            · split at h
              · refine ⟨x, rfl, ?_⟩
                split at h
                · rename_i y ha
                  cases h
                  cases x with
                  | false =>
                    have := opd_rep hF (hx false rfl) ha
                    simpa using this
                  | true => exact .b _
                · rename_i y ha
                  cases h
                  cases x with
                  | false =>
                    have := opd_rep hF (hx false rfl) ha
                    generalize hv2 : act.eval b = u at this
                    cases this
                    simp only [Bool.false_eq_true, if_false]
                    exact .b _
                  | true => exact .b _
                · cases h
              · refine ⟨x, rfl, ?_⟩
                split at h
                · cases h
                · rename_i ma ha
                  split at h
                  · cases h
                  · rename_i mb hb
                    cases h
                    refine selM_spec (fun e => ?_) (fun e => ?_)
                    · subst e
                      exact opd_rep hF (hx true rfl) ha
                    · subst e
                      exact opd_rep hF (hx false rfl) hb
    · cases h
  · cases h
theorem RepL.append {w : World} {G : GT} {ρ : RhoT} {ok : OkT} {l m : List MV} {vs us : List Value} (h : RepL w G ρ ok l vs) (g : RepL w G ρ ok m us) : RepL w G ρ ok (l ++ m) (vs ++ us) := by
  refine ⟨by simp [h.len, g.len], fun j hj => ?_⟩
  have hl := h.len
  by_cases hjl : j < l.length
  · have := h.rep j hjl
    simp only [getM, List.getD_eq_getElem?_getD] at this ⊢
    rw [List.getElem?_append_left hjl, List.getElem?_append_left (by omega)]
    exact this
  · have := g.rep (j - l.length) (by simp at hj; omega)
    simp only [getM, List.getD_eq_getElem?_getD] at this ⊢
    rw [List.getElem?_append_right (by omega), List.getElem?_append_right (by omega), ← hl]
    exact this
theorem calleeOf_sound {P : Program} {w : World} {G : GT} {ρ : RhoT} {ok : OkT} {F : List (Nat × MV)} {a : Act} (hF : FrOK w G ρ ok F a) {g : List (Nat × Bool)} (hg : Holds G g) {fo : Operand} {args : List Operand} {f : FuncId} {ms : List MV}
    (h : calleeOf F g fo args = some (f, ms)) {o : Oper} {as : Array Operand} {ts : Array TypeId} (ho : o.op = .call ⟨.value fo, as, ts⟩) (has : as.toList = args) :
    ∃ vs : List Value, RepL w G ρ ok ms vs ∧ (execOp a.eval o).run P w = (callFunc f vs.toArray).run P w := by
  unfold calleeOf at h
  split at h
  · rename_i f' first caps hfo
    split at h
    · rename_i ms' hms
      cases h
      have rf := opd_rep hF hg hfo
      have hr := opds_repL hF hg hms
      generalize hv : a.eval fo = v at rf
      cases rf with
      | fn _ _ _ vs us hl hm h1 h2 =>
        refine ⟨vs.toList ++ args.map a.eval ++ us.toList, ?_, ?_⟩
        · exact (RepL.append (RepL.append ⟨by simpa using hl, fun j hj => by have := h1 j hj; simpa [Array.getD_eq_getD_getElem?, List.getD_eq_getElem?_getD] using this⟩ hr)
            ⟨by simpa using hm, fun j hj => by have := h2 j hj; simpa [Array.getD_eq_getD_getElem?, List.getD_eq_getElem?_getD] using this⟩)
        · obtain ⟨dst, op', ty, pos, after, guard⟩ := o
          dsimp only at ho
          subst ho
          rw [exec_call (g := f) (first := vs) (caps := us) hv]
          congr 2
          apply Array.toList_inj.1
          simp [has]
    · cases h
  · cases h
theorem evPure_sound {E : Env} (hE : EnvAll E) {ops : List Oper} {tb : List TE} {cx : Cx} {su : Sus} {n : Nat} {S : St} {a : Act} {w : World} {ρ : RhoT} (h : SatR cx su n (gOf tb) S a w ρ) (hT : TOK ops tb a) {g : List (Nat × Bool)}
    (hg : Holds (gOf tb) g) {op : Op} {c : Option Prop} {m : MV} (hp : evPure E ops S g op = some (c, m)) (hc : ∀ p, c = some p → p) (o : Oper) (ho : o.op = op) {next : Act → World → Prop} {Q : Exit → Act → World → Prop}
    (hn : ∀ v w' ρ', SatR cx su n (gOf tb) S a w' ρ' → Rep w' (gOf tb) ρ' (okS cx ρ' w') m v → next (a.put o.dst v) w') : o.wp E.P a w next Q := by
  unfold evPure at hp
  split at hp
  · rename_i c' x y
    split at hp
    · rename_i m' hm
      cases hp
      obtain ⟨b, hb, r⟩ := evPick_sound hm h.F.frame hT hg
      refine upon_value (v := if b then a.eval x else a.eval y) (w' := w) ?_ (hn _ _ ρ h r)
      obtain ⟨dst, op', ty, pos, after, guard⟩ := o
      dsimp only at ho
      subst ho
      simp only [execOp, hb, asBool, Sem.run_bind, Sem.run_pure, Result.andThen_ok]
    · cases hp
  · rename_i f args ts
    split at hp
    · cases hp
    · rename_i ms hms
      have hr := opds_repL h.F.frame hg hms
      have he : (execOp a.eval o).run E.P w = (callFunc f (args.toList.map a.eval).toArray).run E.P w := by
        obtain ⟨dst, op', ty, pos, after, guard⟩ := o
        dsimp only at ho
        subst ho
        rw [exec_call (g := f) (first := #[]) (caps := #[]) rfl]
        congr 2
        apply Array.toList_inj.1
        simp
      unfold pureCall at hp
      split at hp
      · rename_i k hk
        obtain ⟨v, q, e, r⟩ := evExt_sound (P := E.P) hp hc hr
        refine wp_call (g := f) (vs := args.toList.map a.eval) he (R := fun v' w' => v' = v ∧ w' = { w with drawn := q }) (.inl ⟨v, _, ?_, rfl, rfl⟩) ?_
        · rw [hE.ext f k hk, e]; rfl
        · rintro v' w' ⟨rfl, rfl⟩
          exact hn _ _ ρ (h.drawn q) (r.drawn q)
      · split at hp
        · rename_i ps m' hcs
          cases hp
          have hgood := callSum_sound hE.sum h hcs (conjO_all hc) hr
          refine wp_call (g := f) (vs := args.toList.map a.eval) he hgood ?_
          rintro v w' ⟨ρ2, h2, r2⟩
          exact hn v w' ρ2 h2 r2
        · cases hp
  · rename_i t args ts
    split at hp
    · cases hp
    · rename_i f ms hcal
      obtain ⟨vs, hr, he⟩ := calleeOf_sound (P := E.P) h.F.frame hg hcal ho rfl
      unfold pureCall at hp
      split at hp
      · rename_i k hk
        obtain ⟨v, q, e, r⟩ := evExt_sound (P := E.P) hp hc hr
        refine wp_call (g := f) (vs := vs) he (R := fun v' w' => v' = v ∧ w' = { w with drawn := q }) (.inl ⟨v, _, ?_, rfl, rfl⟩) ?_
        · rw [hE.ext f k hk, e]; rfl
        · rintro v' w' ⟨rfl, rfl⟩
          exact hn _ _ ρ (h.drawn q) (r.drawn q)
      · split at hp
        · rename_i ps m' hcs
          cases hp
          have hgood := callSum_sound hE.sum h hcs (conjO_all hc) hr
          refine wp_call (g := f) (vs := vs) he hgood ?_
          rintro v w' ⟨ρ2, h2, r2⟩
          exact hn v w' ρ2 h2 r2
        · cases hp
  · split at hp
    · cases hp
    · rename_i ms hms
      have hr := (opds_repL h.F.frame hg hms).opN op
      obtain ⟨v, k, e, r⟩ := evPm_sound hE.toEnvOK h.W hp hc (fun _ => rfl) hr o ho
      exact upon_value e (hn _ _ ρ (h.drawn k) (r.drawn k))
def CallH (P : Program) (cx : Cx) (call : CallT) : Prop := ∀ f ms S K, call f ms S K → ∀ su n G a w ρ vs, SatR cx su n G S a w ρ → RepL w G ρ (okS cx ρ w) ms vs → CallGood P f vs w (fun v w' => Ends cx su n G K a v w')
theorem evAny_sound {E : Env} (hE : EnvAll E) {cx : Cx} {call : CallT} (hcall : CallH E.P cx call) {ops : List Oper} {tb : List TE} {su : Sus} {n : Nat} {S : St} {a : Act} {w : World} {ρ : RhoT} (h : SatR cx su n (gOf tb) S a w ρ) (hT : TOK ops tb a)
    {g : List (Nat × Bool)} (hg : Holds (gOf tb) g) {op : Op} {K : MV → St → Prop} (hk : evAny E call ops S g op K) (o : Oper) (ho : o.op = op) {next : Act → World → Prop} {Q : Exit → Act → World → Prop}
    (hn : ∀ v w', Ends cx su n (gOf tb) K a v w' → next (a.put o.dst v) w') : o.wp E.P a w next Q := by
  unfold evAny at hk
  split at hk
  · rename_i m hp
    exact evPure_sound hE h hT hg hp (by simp) o ho fun v w' ρ' h' r => hn v w' ⟨_, _, ρ', hk, h', r⟩
  · rename_i p m hp
    exact evPure_sound hE h hT hg hp (fun q e => by cases e; exact hk.left.h) o ho fun v w' ρ' h' r => hn v w' ⟨_, _, ρ', hk.right, h', r⟩
  · split at hk
    · rename_i fo args ts _
      split at hk
      · rename_i f first caps hfo
        split at hk
        · rename_i ms hms
          have rf := opd_rep h.F.frame hg hfo
          have hr := opds_repL h.F.frame hg hms
          generalize hv : a.eval fo = v at rf
          cases rf with
          | fn _ _ _ vs us hl hm h1 h2 =>
            have hall : RepL w (gOf tb) ρ (okS cx ρ w) (first ++ ms ++ caps) (vs.toList ++ args.toList.map a.eval ++ us.toList) :=
              (RepL.append (RepL.append ⟨by simpa using hl, fun j hj => by have := h1 j hj; simpa [Array.getD_eq_getD_getElem?, List.getD_eq_getElem?_getD] using this⟩ hr)
                ⟨by simpa using hm, fun j hj => by have := h2 j hj; simpa [Array.getD_eq_getD_getElem?, List.getD_eq_getElem?_getD] using this⟩)
            have he : (execOp a.eval o).run E.P w = (callFunc f (vs.toList ++ args.toList.map a.eval ++ us.toList).toArray).run E.P w := by
              obtain ⟨dst, op', ty, pos, after, guard⟩ := o
              dsimp only at ho
              subst ho
              rw [exec_call (g := f) (first := vs) (caps := us) hv]
              congr 2
              apply Array.toList_inj.1
              simp
            exact wp_call he (hcall _ _ _ _ hk su n (gOf tb) a w ρ _ h hall) hn
        · exact hk.elim
      · exact hk.elim
    · split at hk
      · exact hk.elim
      · rename_i ms hms
        have hr := (opds_repL h.F.frame hg hms).opN op
        obtain ⟨v, w', e, hend0⟩ := evKm_sound hE.toEnvOK h hk hr o ho
        have hend : Ends cx su n (gOf tb) K a v w' := ⟨by obtain ⟨m, S, ρ, q, r⟩ := hend0.ex; exact ⟨m, S, ρ, forceS_eq q, r⟩⟩
        rcases e with e | ⟨e, rfl⟩
        · exact upon_value e (hn _ _ hend)
        · exact upon_skip e (hn _ _ hend)
end Go.Ev

namespace Go.Ev
theorem condOf_dst {ops : List Oper} {F : List (Nat × MV)} {tb : List TE} {j : Nat} {want : Bool} {c : CB} (h : condOf ops F tb j want = some c) {a : Act} (hT : TOK ops tb a) : ∃ d, dstOf ops j = some d := by
  unfold condOf at h
  split at h
  · rename_i c' hl
    obtain ⟨e, he, rfl, rfl, rfl⟩ := lookT_mem hl
    exact ⟨_, (hT e he).1⟩
  · split at h
    · cases h
    · rename_i d hd
      exact ⟨d, hd⟩
theorem TOK.add {ops : List Oper} {tb : List TE} {a : Act} (h : TOK ops tb a) {j d : Nat} {want : Bool} {cb : CB} (hd : dstOf ops j = some d) (hy : (yielded ops.toArray a.tmps j == some want) = cb.val) :
    TOK ops (⟨j, want, dOf ops j, cb⟩ :: tb) a := by
  intro e he
  rcases List.mem_cons.1 he with rfl | he
  · exact ⟨by simp [dOf, hd], hy⟩
  · exact h e he
theorem gOf_add {ops : List Oper} {tb : List TE} {a : Act} (h : TOK ops tb a) {j : Nat} {want : Bool} {cb : CB} (hy : (yielded ops.toArray a.tmps j == some want) = cb.val) (d : Nat) :
    ∀ k v C, gOf tb k v = some C → gOf (⟨j, want, d, cb⟩ :: tb) k v = some C := by
  intro k v C hC
  unfold gOf at hC ⊢
  unfold lookT
  split
  · rename_i hj
    have hj := Nat.eq_of_beq_eq_true hj
    split
    · rename_i hw
      have hw := eqB_eq hw
      dsimp at hj hw
      subst hj; subst hw
      cases hl : lookT tb j want with
      | none => simp [hl] at hC
      | some c =>
        simp [hl] at hC
        obtain ⟨e, he, e1, e2, e3⟩ := lookT_mem hl
        have := (h e he).2
        rw [e1, e2, hy, e3] at this
        simp [this, hC]
    · exact hC
  · exact hC
theorem gOf_head {j d : Nat} {want : Bool} {cb : CB} {tb : List TE} : gOf (⟨j, want, d, cb⟩ :: tb) j want = some cb.val := by
  have h1 : Nat.beq j j = true := by simp
  have h2 : eqB want want = true := by cases want <;> rfl
  show (match Nat.beq j j with | true => (match eqB want want with | true => some cb | false => lookT tb j want) | false => lookT tb j want).map CB.val = some cb.val
  rw [h1, h2]
  rfl
theorem SatR.tab {cx : Cx} {su : Sus} {n : Nat} {G G' : GT} {S : St} {a : Act} {w : World} {ρ : RhoT} (h : SatR cx su n G S a w ρ) (hG : ∀ j want C, G j want = some C → G' j want = some C) : SatR cx su n G' S a w ρ :=
  ⟨h.W, ⟨h.F.defers, h.F.size, h.F.frame.mono (Keeps.refl w) hG (fun _ _ e => e) (fun b hb => ⟨hb, rfl⟩)⟩, h.K⟩
theorem FrOK.weak {w : World} {G : GT} {ρ : RhoT} {ok : OkT} {F : List (Nat × MV)} {a : Act} (h : FrOK w G ρ ok F a) {d : Nat} {m : MV} {v : Value} (hv : a.tmps[d]? = some v) (r : Rep w G ρ ok m v) : FrOK w G ρ ok (putL F d m) a := by
  intro s m' hl
  rw [look_put] at hl
  split at hl
  · cases hl; rename_i e; subst e; exact ⟨v, hv, r⟩
  · exact h s m' hl
theorem decideF_ok {ops : List Oper} {F : List (Nat × MV)} {w : World} {G : GT} {ρ : RhoT} {ok : OkT} {a : Act} (h : FrOK w G ρ ok F a) {j : Nat} {want yes : Bool} (hy : (yielded ops.toArray a.tmps j == some want) = yes) :
    FrOK w G ρ ok (decideF ops F j want yes) a := by
  unfold decideF
  split
  · exact h
  · rename_i d hd
    rw [yielded_dst hd] at hy
    split
    · -- yes
      cases ht : a.tmps[d]? with
      | none => rw [ht] at hy; simp at hy
      | some v =>
        rw [ht] at hy
        cases v with
        | bool b =>
          simp at hy
          subst hy
          exact h.weak ht (.lb b)
        | _ => simp at hy
    · split
      · rename_i c hl
        obtain ⟨v, hv, r⟩ := h d _ hl
        cases r
        rw [hv] at hy
        have : c = !want := by cases c <;> cases want <;> simp at hy <;> rfl
        subst this
        exact h.weak hv (.lb _)
      · exact h
theorem SatR.setF {cx : Cx} {su : Sus} {n : Nat} {G : GT} {S : St} {a : Act} {w : World} {ρ : RhoT} (h : SatR cx su n G S a w ρ) {F : List (Nat × MV)} (hF : FrOK w G ρ (okS cx ρ w) F a) : SatR cx su n G { S with F := F } a w ρ :=
  ⟨h.W, ⟨h.F.defers, h.F.size, hF⟩, h.K⟩
theorem putD_sound {cx : Cx} {su : Sus} {n : Nat} {ops : List Oper} {tb : List TE} {S : St} {a : Act} {w : World} {ρ : RhoT} (h : SatR cx su n (gOf tb) S a w ρ) (hT : TOK ops tb a) {dst : Option Nat} {m : MV} {v : Value} (r : Rep w (gOf tb) ρ (okS cx ρ w) m v)
    {K : St → Prop} (hk : putD n tb dst m S K) : ∃ S', K S' ∧ SatR cx su n (gOf tb) S' (a.put dst v) w ρ ∧ TOK ops tb (a.put dst v) := by
  unfold putD at hk
  split at hk
  · exact ⟨S, hk, h, hT⟩
  · rename_i d
    split at hk
    · rename_i hf
      split at hk
      · rename_i hd
        have hd' : d < n := by simpa using hd
        refine ⟨_, forceF_eq hk, ⟨h.W, ⟨h.F.defers, by simpa [Act.put] using h.F.size, h.F.frame.put (by rw [h.F.size]; exact hd') r⟩, h.K⟩, hT.put hf v⟩
      · exact hk.elim
    · exact hk.elim
theorem evOps_sound {E : Env} (hE : EnvAll E) {cx : Cx} {call : CallT} (hcall : CallH E.P cx call) {su : Sus} {n : Nat} {ops : List Oper} {Q : Exit → Act → World → Prop} {K : St → Prop}
    (hQ : ∀ S' a' w', K S' → Sat cx su n G0 S' a' w' → Q .normal a' w') :
    ∀ {rest : List Oper} {tb : List TE} {S : St} {a : Act} {w : World} {ρ : RhoT}, evOps E call n ops rest tb S K → SatR cx su n (gOf tb) S a w ρ → TOK ops tb a → wpList E.P ops.toArray Q rest a w
  | [], tb, S, a, w, ρ, hk, h, hT => hQ _ _ _ (forceF_eq hk) ⟨ρ, h.W, ⟨h.F.defers, h.F.size, h.F.frame.clean⟩, h.K⟩
  | o :: rest, tb, S, a, w, ρ, hk, h, hT => by
    unfold evOps at hk
    unfold wpList
    -- what follows an operation
    have next : ∀ {tb' : List TE} {S' : St} {a' : Act} {w' : World} {K' : MV → St → Prop} {v : Value}, TOK ops tb' a → (∀ m S'', K' m S'' → putD n tb' o.dst m S'' fun S3 => evOps E call n ops rest tb' S3 K) →
        Ends cx su n (gOf tb') K' a v w' → wpList E.P ops.toArray Q rest (a.put o.dst v) w' := by
      intro tb' S' a' w' K' v hT' hK' hend
      obtain ⟨m, S'', ρ', hkk, hsat, hr⟩ := hend.ex
      obtain ⟨S3, k3, s3, t3⟩ := putD_sound hsat hT' hr (hK' m S'' hkk)
      exact evOps_sound hE hcall hQ k3 s3 t3
    split at hk
    · -- no guard
      rename_i hgd
      rw [if_pos (by simp [Region.wanted, hgd])]
      left
      exact evAny_sound hE hcall h hT (by intro x hx; simp at hx) hk o rfl fun v w' hend => next (S' := S) (a' := a) hT (fun _ _ h => h) hend
    · rename_i j want hgd
      split at hk
      · exact hk.elim
      · rename_i hc
        have hcv := condOf_sound hc h.F.frame hT
        rw [if_pos (by simp only [Region.wanted, hgd]; exact hcv)]
        left
        exact evAny_sound hE hcall h hT (ancG_holds h.F.frame hT (by simpa [CB.val] using hcv)) hk o rfl fun v w' hend => next (S' := S) (a' := a) hT (fun _ _ h => h) hend
      · rename_i hc
        have hcv := condOf_sound hc h.F.frame hT
        rw [if_neg (by simp only [Region.wanted, hgd]; rw [hcv]; simp [CB.val])]
        obtain ⟨S3, k3, s3, t3⟩ := putD_sound h hT (.x undef) hk
        exact evOps_sound hE hcall hQ k3 s3 t3
      · rename_i C hc
        have hcv := condOf_sound hc h.F.frame hT
        obtain ⟨d, hd⟩ := condOf_dst hc hT
        -- the table with the new row
        have hG := gOf_add hT hcv (dOf ops j)
        have hT2 := hT.add hd hcv
        have h2 := h.tab hG
        have g1 : gOf (⟨j, want, dOf ops j, .s C⟩ :: tb) j want = some C := by
          exact gOf_head
        -- the operation is pure
        have pure : ∀ {c : Option Prop} {m : MV}, evPure E ops S (ancG ops S.F ops.length j want) o.op = some (c, m) → (C = true → ∀ p, c = some p → p) → noGd m = true →
            putD n (⟨j, want, dOf ops j, .s C⟩ :: tb) o.dst (.gd j want m) S (fun S'' => evOps E call n ops rest (⟨j, want, dOf ops j, .s C⟩ :: tb) S'' K) →
            if Region.wanted o (yielded ops.toArray a.tmps) = true then o.wp E.P a w (wpList E.P ops.toArray Q rest) Q ∨ (o.asks E.P a w ∧ LetsOut Q) else wpList E.P ops.toArray Q rest (a.put o.dst undef) w := by
          intro c m hp hcc hng hk'
          cases C with
          | true =>
            rw [if_pos (by simp only [Region.wanted, hgd]; exact hcv)]
            left
            refine evPure_sound hE h hT (ancG_holds h.F.frame hT (by simpa [CB.val] using hcv)) hp (hcc rfl) o rfl fun v w' ρ' h' r => ?_
            have h3 := h'.tab hG
            have r3 : Rep w' (gOf (⟨j, want, dOf ops j, .s true⟩ :: tb)) ρ' (okS cx ρ' w') (.gd j want m) v := .gd j want m v true g1 (fun _ => noGd_spec hng r) (by simp)
            obtain ⟨S3, k3, s3, t3⟩ := putD_sound h3 hT2 r3 hk'
            exact evOps_sound hE hcall hQ k3 s3 t3
          | false =>
            rw [if_neg (by simp only [Region.wanted, hgd]; rw [hcv]; simp [CB.val])]
            have r3 : Rep w (gOf (⟨j, want, dOf ops j, .s false⟩ :: tb)) ρ (okS cx ρ w) (.gd j want m) undef := .gd j want m undef false g1 (by simp) (fun _ => rfl)
            obtain ⟨S3, k3, s3, t3⟩ := putD_sound h2 hT2 r3 hk'
            exact evOps_sound hE hcall hQ k3 s3 t3
        split at hk
        · rename_i m hp
          split at hk
          · rename_i hng
            exact pure hp (by simp) hng hk
          · exact hk.elim
        · rename_i p m hp
          split at hk
          · rename_i hng
            exact pure hp (fun hC q e => by cases e; exact hk.left.h hC) hng hk.right
          · exact hk.elim
        · obtain ⟨k1, k2⟩ := hk
          cases C with
          | true =>
            rw [if_pos (by simp only [Region.wanted, hgd]; exact hcv)]
            left
            have hy : (yielded ops.toArray a.tmps j == some want) = true := hcv
            have hT3 : TOK ops (⟨j, want, dOf ops j, .t⟩ :: tb) a := hT.add hd hy
            have h3 := (h.setF (decideF_ok h.F.frame hy)).tab (gOf_add hT (cb := .t) hy (dOf ops j))
            have hanc : Holds (gOf (⟨j, want, dOf ops j, .t⟩ :: tb)) (ancG ops S.F ops.length j want) :=
              ancG_holds (h.F.frame.mono (Keeps.refl w) (gOf_add hT (cb := .t) hy (dOf ops j)) (fun _ _ e => e) (fun b hb => ⟨hb, rfl⟩)) hT3 (by simpa using hy)
            exact evAny_sound hE hcall h3 hT3 hanc (forceF_eq (k1 rfl)) o rfl fun v w' hend => next (S' := S) (a' := a) hT3 (fun _ _ h => h) hend
          | false =>
            rw [if_neg (by simp only [Region.wanted, hgd]; rw [hcv]; simp [CB.val])]
            have hy : (yielded ops.toArray a.tmps j == some want) = false := hcv
            have hT3 : TOK ops (⟨j, want, dOf ops j, .f⟩ :: tb) a := hT.add hd hy
            have h3 := (h.setF (decideF_ok h.F.frame hy)).tab (gOf_add hT (cb := .f) hy (dOf ops j))
            obtain ⟨S3, k3, s3, t3⟩ := putD_sound h3 hT3 (.x undef) (forceF_eq (k2 rfl))
            exact evOps_sound hE hcall hQ k3 s3 t3
theorem evOps_soundW {E : Env} (hE : EnvAll E) {cx : Cx} {call : CallT} (hcall : CallH E.P cx call) {su : Sus} {n : Nat} {ops : List Oper} {Q : Exit → Act → World → Prop} {K : St → Prop}
    {W : List Oper → Act → World → Prop} (hW0 : ∀ S' a' w', K S' → Sat cx su n G0 S' a' w' → W [] a' w')
    (hW1 : ∀ o rest a w, (if Region.wanted o (yielded ops.toArray a.tmps) = true then o.wp E.P a w (W rest) Q ∨ (o.asks E.P a w ∧ LetsOut Q) else W rest (a.put o.dst undef) w) → W (o :: rest) a w) :
    ∀ {rest : List Oper} {tb : List TE} {S : St} {a : Act} {w : World} {ρ : RhoT}, evOps E call n ops rest tb S K → SatR cx su n (gOf tb) S a w ρ → TOK ops tb a → W rest a w
  | [], tb, S, a, w, ρ, hk, h, hT => hW0 _ _ _ (forceF_eq hk) ⟨ρ, h.W, ⟨h.F.defers, h.F.size, h.F.frame.clean⟩, h.K⟩
  | o :: rest, tb, S, a, w, ρ, hk, h, hT => by
    unfold evOps at hk
    refine hW1 o rest a w ?_
    -- what follows an operation
    have next : ∀ {tb' : List TE} {S' : St} {a' : Act} {w' : World} {K' : MV → St → Prop} {v : Value}, TOK ops tb' a → (∀ m S'', K' m S'' → putD n tb' o.dst m S'' fun S3 => evOps E call n ops rest tb' S3 K) →
        Ends cx su n (gOf tb') K' a v w' → W rest (a.put o.dst v) w' := by
      intro tb' S' a' w' K' v hT' hK' hend
      obtain ⟨m, S'', ρ', hkk, hsat, hr⟩ := hend.ex
      obtain ⟨S3, k3, s3, t3⟩ := putD_sound hsat hT' hr (hK' m S'' hkk)
      exact evOps_soundW hE hcall hW0 hW1 k3 s3 t3
    split at hk
    · -- no guard
      rename_i hgd
      rw [if_pos (by simp [Region.wanted, hgd])]
      left
      exact evAny_sound hE hcall h hT (by intro x hx; simp at hx) hk o rfl fun v w' hend => next (S' := S) (a' := a) hT (fun _ _ h => h) hend
    · rename_i j want hgd
      split at hk
      · exact hk.elim
      · rename_i hc
        have hcv := condOf_sound hc h.F.frame hT
        rw [if_pos (by simp only [Region.wanted, hgd]; exact hcv)]
        left
        exact evAny_sound hE hcall h hT (ancG_holds h.F.frame hT (by simpa [CB.val] using hcv)) hk o rfl fun v w' hend => next (S' := S) (a' := a) hT (fun _ _ h => h) hend
      · rename_i hc
        have hcv := condOf_sound hc h.F.frame hT
        rw [if_neg (by simp only [Region.wanted, hgd]; rw [hcv]; simp [CB.val])]
        obtain ⟨S3, k3, s3, t3⟩ := putD_sound h hT (.x undef) hk
        exact evOps_soundW hE hcall hW0 hW1 k3 s3 t3
      · rename_i C hc
        have hcv := condOf_sound hc h.F.frame hT
        obtain ⟨d, hd⟩ := condOf_dst hc hT
        -- the table with the new row
        have hG := gOf_add hT hcv (dOf ops j)
        have hT2 := hT.add hd hcv
        have h2 := h.tab hG
        have g1 : gOf (⟨j, want, dOf ops j, .s C⟩ :: tb) j want = some C := by
          exact gOf_head
        -- the operation is pure
        have pure : ∀ {c : Option Prop} {m : MV}, evPure E ops S (ancG ops S.F ops.length j want) o.op = some (c, m) → (C = true → ∀ p, c = some p → p) → noGd m = true →
            putD n (⟨j, want, dOf ops j, .s C⟩ :: tb) o.dst (.gd j want m) S (fun S'' => evOps E call n ops rest (⟨j, want, dOf ops j, .s C⟩ :: tb) S'' K) →
            if Region.wanted o (yielded ops.toArray a.tmps) = true then o.wp E.P a w (W rest) Q ∨ (o.asks E.P a w ∧ LetsOut Q) else W rest (a.put o.dst undef) w := by
          intro c m hp hcc hng hk'
          cases C with
          | true =>
            rw [if_pos (by simp only [Region.wanted, hgd]; exact hcv)]
            left
            refine evPure_sound hE h hT (ancG_holds h.F.frame hT (by simpa [CB.val] using hcv)) hp (hcc rfl) o rfl fun v w' ρ' h' r => ?_
            have h3 := h'.tab hG
            have r3 : Rep w' (gOf (⟨j, want, dOf ops j, .s true⟩ :: tb)) ρ' (okS cx ρ' w') (.gd j want m) v := .gd j want m v true g1 (fun _ => noGd_spec hng r) (by simp)
            obtain ⟨S3, k3, s3, t3⟩ := putD_sound h3 hT2 r3 hk'
            exact evOps_soundW hE hcall hW0 hW1 k3 s3 t3
          | false =>
            rw [if_neg (by simp only [Region.wanted, hgd]; rw [hcv]; simp [CB.val])]
            have r3 : Rep w (gOf (⟨j, want, dOf ops j, .s false⟩ :: tb)) ρ (okS cx ρ w) (.gd j want m) undef := .gd j want m undef false g1 (by simp) (fun _ => rfl)
            obtain ⟨S3, k3, s3, t3⟩ := putD_sound h2 hT2 r3 hk'
            exact evOps_soundW hE hcall hW0 hW1 k3 s3 t3
        split at hk
        · rename_i m hp
          split at hk
          · rename_i hng
            exact pure hp (by simp) hng hk
          · exact hk.elim
        · rename_i p m hp
          split at hk
          · rename_i hng
            exact pure hp (fun hC q e => by cases e; exact hk.left.h hC) hng hk.right
          · exact hk.elim
        · obtain ⟨k1, k2⟩ := hk
          cases C with
          | true =>
            rw [if_pos (by simp only [Region.wanted, hgd]; exact hcv)]
            left
            have hy : (yielded ops.toArray a.tmps j == some want) = true := hcv
            have hT3 : TOK ops (⟨j, want, dOf ops j, .t⟩ :: tb) a := hT.add hd hy
            have h3 := (h.setF (decideF_ok h.F.frame hy)).tab (gOf_add hT (cb := .t) hy (dOf ops j))
            have hanc : Holds (gOf (⟨j, want, dOf ops j, .t⟩ :: tb)) (ancG ops S.F ops.length j want) :=
              ancG_holds (h.F.frame.mono (Keeps.refl w) (gOf_add hT (cb := .t) hy (dOf ops j)) (fun _ _ e => e) (fun b hb => ⟨hb, rfl⟩)) hT3 (by simpa using hy)
            exact evAny_sound hE hcall h3 hT3 hanc (forceF_eq (k1 rfl)) o rfl fun v w' hend => next (S' := S) (a' := a) hT3 (fun _ _ h => h) hend
          | false =>
            rw [if_neg (by simp only [Region.wanted, hgd]; rw [hcv]; simp [CB.val])]
            have hy : (yielded ops.toArray a.tmps j == some want) = false := hcv
            have hT3 : TOK ops (⟨j, want, dOf ops j, .f⟩ :: tb) a := hT.add hd hy
            have h3 := (h.setF (decideF_ok h.F.frame hy)).tab (gOf_add hT (cb := .f) hy (dOf ops j))
            obtain ⟨S3, k3, s3, t3⟩ := putD_sound h3 hT3 (.x undef) (forceF_eq (k2 rfl))
            exact evOps_soundW hE hcall hW0 hW1 k3 s3 t3
end Go.Ev

namespace Go.Ev
/-! ## Code -/
inductive Ex where
  | normal
  | ret
  | exit (id : Nat)
def exitIs : Exit → Ex → Prop
  | .normal, .normal => True
  | .ret, .ret => True
  | .exit i, .exit j => i = j
  | _, _ => False
def CodeOK (P : Program) (cx : Cx) (n : Nat) (c : Code) (S : St) (K : Ex → St → Prop) : Prop :=
  ∀ su a w, Sat cx su n G0 S a w → c.wp P (fun e a' w' => ∃ x S', exitIs e x ∧ K x S' ∧ Sat cx su n G0 S' a' w') a w
theorem CodeOK.mono {P : Program} {cx : Cx} {n : Nat} {c : Code} {S : St} {K K' : Ex → St → Prop} (h : CodeOK P cx n c S K) (hk : ∀ e S', K e S' → K' e S') : CodeOK P cx n c S K' :=
  fun su a w hs => wp_mono (h su a w hs) fun e a' w' ⟨x, S', h1, h2, h3⟩ => ⟨x, S', h1, hk _ _ h2, h3⟩
structure Rest (p : Prop) : Prop where
  ok : p
def evC (E : Env) (call : CallT) (cx : Cx) (n : Nat) : Code → St → (Ex → St → Prop) → Prop
  | .skip, S, K => K .normal S
  | .ret, S, K => K .ret S
  | .exit id, S, K => K (.exit id) S
  | .seq a b, S, K => evC E call cx n a S fun e S' => match e with
    | .normal => evC E call cx n b S' K
    | .ret => K .ret S'
    | .exit j => K (.exit j) S'
  | .cond c x y, S, K => match opd S.F [] c with
    | some (.lb true) => evC E call cx n x S K
    | some (.lb false) => evC E call cx n y S K
    | some (.b p) => (p = true → evC E call cx n x S K) ∧ (p = false → evC E call cx n y S K)
    | _ => False
  | .block id c, S, K => evC E call cx n c S fun e S' => match e with
    | .exit j => match Nat.beq j id with
      | true => K .normal S'
      | false => K (.exit j) S'
    | .ret => K .ret S'
    | .normal => K .normal S'
  | .region _ ops false, S, K => evOpsF E call n ops.toList ops.toList [] S fun S' => K .normal S'
  | .region id ops true, S, K => Rest (CodeOK E.P cx n (.region id ops true) S K)
  | .loop c, S, K => Rest (CodeOK E.P cx n (.loop c) S K)
  | .rangeFunc f ps as c, S, K => Rest (CodeOK E.P cx n (.rangeFunc f ps as c) S K)
  | .scope c, S, K => evC E call cx n c S K
  | .label _, S, K => K .normal S
  | .goto l, S, K => Rest (CodeOK E.P cx n (.goto l) S K)
  | .refuse s, S, K => Rest (CodeOK E.P cx n (.refuse s) S K)
theorem evC_sound {E : Env} (hE : EnvAll E) {cx : Cx} {call : CallT} (hcall : CallH E.P cx call) {n : Nat} : ∀ {c : Code} {S : St} {K : Ex → St → Prop}, evC E call cx n c S K → CodeOK E.P cx n c S K
  | .skip, S, K, h => fun su a w hs => wp_skip ⟨.normal, S, trivial, h, hs⟩
  | .ret, S, K, h => fun su a w hs => wp_ret ⟨.ret, S, trivial, h, hs⟩
  | .exit id, S, K, h => fun su a w hs => wp_exit ⟨.exit id, S, rfl, h, hs⟩
  | .seq x y, S, K, h => fun su a w hs => by
    refine wp_seq (wp_mono (evC_sound hE hcall (c := x) h su a w hs) ?_)
    rintro e a' w' ⟨ex, S', h1, h2, h3⟩
    cases e <;> cases ex <;> simp only [exitIs] at h1 <;> simp only [Exit.then]
    · exact evC_sound hE hcall (c := y) h2 su a' w' h3
    · subst h1; exact ⟨.exit _, S', rfl, h2, h3⟩
    · exact ⟨.ret, S', trivial, h2, h3⟩
  | .cond c x y, S, K, h => fun su a w hs => by
    obtain ⟨ρ, hsat⟩ := hs
    have hg : Holds G0 [] := fun x hx => by simp at hx
    unfold evC at h
    split at h
    · rename_i hc
      have r := opd_rep hsat.F.frame hg hc
      generalize hv : a.eval c = v at r
      cases r
      exact wp_cond_true hv (evC_sound hE hcall (c := x) h su a w ⟨ρ, hsat⟩)
    · rename_i hc
      have r := opd_rep hsat.F.frame hg hc
      generalize hv : a.eval c = v at r
      cases r
      exact wp_cond_false hv (evC_sound hE hcall (c := y) h su a w ⟨ρ, hsat⟩)
    · rename_i p hc
      have r := opd_rep hsat.F.frame hg hc
      generalize hv : a.eval c = v at r
      cases r
      exact wp_cond_split hv (fun e => evC_sound hE hcall (c := x) (h.1 e) su a w ⟨ρ, hsat⟩) (fun e => evC_sound hE hcall (c := y) (h.2 e) su a w ⟨ρ, hsat⟩)
    · exact h.elim
  | .block id c, S, K, h => fun su a w hs => by
    refine wp_block (wp_mono (evC_sound hE hcall (c := c) h su a w hs) ?_)
    rintro e a' w' ⟨ex, S', h1, h2, h3⟩
    cases e <;> cases ex <;> simp only [exitIs] at h1 <;> simp only [Exit.inBlock]
    · exact ⟨.normal, S', trivial, h2, h3⟩
    · subst h1
      rename_i j
      split
      · rename_i e; subst e
        have hb : Nat.beq j j = true := by simp
        simp only [hb] at h2
        exact ⟨.normal, S', trivial, h2, h3⟩
      · rename_i e
        have hb : Nat.beq j id = false := by
          cases hq : Nat.beq j id
          · rfl
          · exact absurd (Nat.eq_of_beq_eq_true hq) e
        simp only [hb] at h2
        exact ⟨.exit j, S', rfl, h2, h3⟩
    · exact ⟨.ret, S', trivial, h2, h3⟩
  | .region id ops false, S, K, h => fun su a w hs => by
    obtain ⟨ρ, hsat⟩ := hs
    refine wp_region_list ?_
    have h0 : gOf [] = G0 := rfl
    exact evOps_sound (n := n) hE hcall (fun S' a' w' hk hs' => ⟨.normal, S', trivial, hk, hs'⟩) (evOpsF_eq (K := fun S' => K .normal S') ▸ (show evOpsF E call n ops.toList ops.toList [] S (fun S' => K .normal S') from h)) (by rw [h0]; exact hsat) (fun e he => by simp at he)
  | .region id ops true, S, K, h => h.ok
  | .loop c, S, K, h => h.ok
  | .rangeFunc f ps as c, S, K, h => h.ok
  | .scope c, S, K, h => fun su a w hs => by
    refine wp_scope_straight (wp_mono (evC_sound hE hcall (c := c) h su a w hs) ?_)
    rintro e a' w' ⟨ex, S', h1, h2, h3⟩
    cases e <;> cases ex <;> simp only [exitIs] at h1
    · exact ⟨.normal, S', trivial, h2, h3⟩
    · subst h1; exact ⟨.exit _, S', rfl, h2, h3⟩
    · exact ⟨.ret, S', trivial, h2, h3⟩
  | .label l, S, K, h => fun su a w hs => wp_label ⟨.normal, S, trivial, h, hs⟩
  | .goto l, S, K, h => h.ok
  | .refuse s, S, K, h => h.ok
/-! ## A function's contract -/
def initF : Nat → List MV → List (Nat × MV)
  | _, [] => []
  | k, m :: r => (k, m) :: initF (k + 1) r
theorem look_initF : ∀ {l : List MV} {k s : Nat} {m : MV}, look (initF k l) s = some m → k ≤ s ∧ s < k + l.length ∧ getM l (s - k) = m
  | [], k, s, m, h => by simp [initF, look] at h
  | x :: r, k, s, m, h => by
    simp only [initF, look] at h
    split at h
    · rename_i e
      have := Nat.eq_of_beq_eq_true e
      subst this
      cases h
      exact ⟨Nat.le_refl _, by simp, by simp [getM]⟩
    · obtain ⟨h1, h2, h3⟩ := look_initF h
      refine ⟨by omega, by simp; omega, ?_⟩
      rw [show s - k = (s - (k + 1)) + 1 by omega]
      simpa [getM] using h3
def resM (E : Env) (S : St) : List ResultVar → Option (List MV)
  | [] => some []
  | .tmp t :: r => match look S.F t with
    | none => none
    | some m => match resM E S r with
      | none => none
      | some l => some (m :: l)
  | .cell t ty :: r => match look S.F t with
    | none => none
    | some x => match evLoad E S.H ty x with
      | none => none
      | some m => match resM E S r with
        | none => none
        | some l => some (m :: l)
def packM : List MV → MV
  | [m] => m
  | l => .tup l
theorem resM_sound {E : Env} (hE : EnvOK E) {cx : Cx} {su : Sus} {n : Nat} {S : St} {a : Act} {w : World} {ρ : RhoT} (h : SatR cx su n G0 S a w ρ) : ∀ {rs : List ResultVar} {l : List MV}, resM E S rs = some l →
    ∃ vs : List Value, (rs.mapM fun (r : ResultVar) => (match r with | .tmp t => pure (a.tmps.getD t undef) | .cell c t => do loadVar t (← asAddr (a.tmps.getD c undef)) : Sem Value)).run E.P w = .ok vs w ∧
      RepL w G0 ρ (okS cx ρ w) l vs
  | [], l, hr => by simp [resM] at hr; subst hr; exact ⟨[], rfl, rfl, by simp⟩
  | .tmp t :: r, l, hr => by
    unfold resM at hr
    split at hr
    · cases hr
    · rename_i m hm
      split at hr
      · cases hr
      · rename_i l' hl'
        cases hr
        obtain ⟨vs, e, hv⟩ := resM_sound hE h hl'
        obtain ⟨v, hv1, r1⟩ := h.F.frame t m hm
        have hg : a.tmps.getD t undef = v := by simp [Array.getD_eq_getD_getElem?, hv1]
        refine ⟨v :: vs, ?_, by simp [hv.len], fun j hj => ?_⟩
        · rw [List.mapM_cons]
          simp only [Sem.run_bind, Sem.run_pure, Result.andThen_ok, hg, e]
        · cases j with
          | zero => simpa [getM] using r1
          | succ j => simpa [getM] using hv.rep j (by simpa using hj)
  | .cell t ty :: r, l, hr => by
    unfold resM at hr
    split at hr
    · cases hr
    · rename_i x hx
      split at hr
      · cases hr
      · rename_i m hm
        split at hr
        · cases hr
        · rename_i l' hl'
          cases hr
          obtain ⟨vs, e, hv⟩ := resM_sound hE h hl'
          obtain ⟨v, hv1, r1⟩ := h.F.frame t x hx
          have hg : a.tmps.getD t undef = v := by simp [Array.getD_eq_getD_getElem?, hv1]
          obtain ⟨u, e1, r2⟩ := evLoad_sound hE.ty h.W hm r1
          have hload : (do loadVar ty (← asAddr v) : Sem Value).run E.P w = .ok u w := by
            have hp : ∃ ad, v = .pointer (some ad) := by
              unfold evLoad at hm
              split at hm
              · split at hm
                · cases r1; exact ⟨_, rfl⟩
                · cases r1; exact ⟨_, rfl⟩
                · cases hm
              · cases hm
            obtain ⟨ad, rfl⟩ := hp
            simp only [Instr.loadAt, Instr.sureAddr, asAddr, Sem.run_bind, Sem.run_pure, Result.andThen_ok] at e1 ⊢
            exact e1
          refine ⟨u :: vs, ?_, by simp [hv.len], fun j hj => ?_⟩
          · rw [List.mapM_cons]
            simp only [Sem.run_bind] at hload ⊢
            rw [hg]
            rw [hload]
            simp only [Result.andThen_ok, e, Sem.run_pure]
          · cases j with
            | zero => simpa [getM] using r2
            | succ j => simpa [getM] using hv.rep j (by simpa using hj)
theorem results_sound {E : Env} (hE : EnvOK E) {cx : Cx} {su : Sus} {n : Nat} {S : St} {a : Act} {w : World} {ρ : RhoT} (h : SatR cx su n G0 S a w ρ) {fn : Func} {rs : List ResultVar} (hrs : fn.results = rs.toArray) {l : List MV} (hl : resM E S rs = some l) :
    ∃ v, (results fn a.tmps).run E.P w = .ok v w ∧ Rep w G0 ρ (okS cx ρ w) (packM l) v := by
  obtain ⟨vs, e, hv⟩ := resM_sound hE h hl
  unfold results
  rw [hrs, Sem.run_bind, Array.mapM_eq_mapM_toList, Sem.run_map]
  refine ⟨if h : vs.toArray.size = 1 then vs.toArray[0] else .tuple vs.toArray, ?_, ?_⟩
  · simp only
    exact congrArg (fun r => Result.andThen (Result.andThen r fun x s => Result.ok x.toArray s) fun (vs : Array Value) w' => (pure (if h : vs.size = 1 then vs[0] else .tuple vs) : Sem Value).run E.P w') e
  · have hlen := hv.len
    match l, vs, hv, hlen with
    | [], [], hv, _ => exact .tup _ _ (by simp) (by simp)
    | [m], [v], hv, _ => simpa [packM] using hv.one
    | m :: m2 :: r, v :: v2 :: vs, hv, hlen =>
      rw [dif_neg (by simp)]
      exact .tup _ _ (by simpa using hlen) fun j hj => by
        have := hv.rep j hj
        simpa [Array.getD_eq_getD_getElem?, List.getD_eq_getElem?_getD] using this
end Go.Ev

namespace Go.Ev
/-! ## A function's contract, out of its walk -/
structure FnOK (P : Program) (f : FuncId) (fi : FnI) : Prop where
  ok : ∃ fn, P.funcs[f]? = some fn ∧ fn.body = some fi.body ∧ fn.ntmps = fi.n ∧ fn.results = fi.res.toArray ∧ (fn.name == "runtime.NumGoroutine") = false
theorem FnOK.enters {P : Program} {f : FuncId} {fi : FnI} (h : FnOK P f fi) : Enters P f := by
  obtain ⟨fn, h1, h2, _, _, h5⟩ := h.ok
  exact Enters.of h1 h5 (by rw [h2]; rfl)
structure FinS (S : St) (m0 m : MV) (blks : List Blk) : Prop where
  ok : ∀ cx ρ w v, SatW cx ρ S.H S.nx w → Rep w G0 ρ (okS cx ρ w) m0 v → ∃ ρ', SatW cx ρ' (idxH 0 blks) blks.length w ∧ Rep w G0 ρ' (okS cx ρ' w) m v
def forceM (k : MV → Prop) : MV → Prop
  | .und => k .und
  | .lb x => k (.lb x)
  | .b x => k (.b x)
  | .i t n => k (.i t n)
  | .f t x => k (.f t x)
  | .agg l => k (.agg l)
  | .tup l => k (.tup l)
  | .p i o => k (.p i o)
  | .pe i s a j => k (.pe i s a j)
  | .rp c => k (.rp c)
  | .os i s a n => k (.os i s a n)
  | .oc i s n c => k (.oc i s n c)
  | .ro s n g => k (.ro s n g)
  | .nilp => k .nilp
  | .nils => k .nils
  | .fn f a c => k (.fn f a c)
  | .x v => k (.x v)
  | .gd j w m => k (.gd j w m)
theorem forceM_eq {k : MV → Prop} {m : MV} (h : forceM k m) : k m := by cases m <;> exact h
def finK (E : Env) (rs : List ResultVar) (m : MV) (blks : List Blk) : Ex → St → Prop := fun ex S => match ex with
  | .exit _ => False
  | _ => match resM E S rs with
    | none => False
    | some l => forceM (fun m0 => FinS S m0 m blks) (packM l)
theorem SatW.okUp {w0 : World} {X : Nat → Prop} {okA okB : Nat → Prop} {ρ : RhoT} {H : List (Nat × Blk)} {nx : Nat} {w : World} (h : SatW ⟨w0, X, okA⟩ ρ H nx w) (hab : ∀ b, okA b ↔ okB b) : SatW ⟨w0, X, okB⟩ ρ H nx w :=
  have e : okA = okB := funext fun b => propext (hab b)
  e ▸ h
theorem initA {args : Array Value} {n : Nat} (h : args.size ≤ n) : (args ++ Array.replicate (n - args.size) undef).size = n := by simp; omega
theorem init_sat {w : World} {okA : Nat → Prop} (hA : ∀ b, okA b → b < w.heap.size) {args : List MV} {vs : List Value} (hr : RepL w G0 rho0 okA args vs) {n : Nat} (hn : args.length ≤ n) :
    SatR (cx1 w okA) ⟨[], []⟩ n G0 ⟨initF 0 args, [], [], 0⟩ { tmps := vs.toArray ++ Array.replicate (n - vs.toArray.size) undef, defers := [] } w rho0 := by
  have hlen := hr.len
  refine ⟨⟨BelowX.refl _ _, fun i j b h => by simp [rho0] at h, fun i b h => by simp [rho0] at h, fun id blk h => by simp [look] at h, fun i _ => rfl, fun id blk h => by simp [look] at h, fun b hb => ⟨hA b hb, fun h => h⟩⟩, ⟨rfl, ?_, ?_⟩, trivial⟩
  · exact initA (by simp; omega)
  · intro s m hs
    obtain ⟨_, h2, h3⟩ := look_initF hs
    simp only [Nat.zero_add, Nat.sub_zero] at h2 h3
    have := hr.rep s h2
    rw [h3] at this
    refine ⟨vs.getD s undef, ?_, this.mono (Keeps.refl w) (fun _ _ _ e => e) (fun _ _ e => e) (fun b hb => ⟨.inl hb, rfl⟩)⟩
    rw [Array.getElem?_append_left (by simp; omega)]
    simp only [List.getElem?_toArray, List.getD_eq_getElem?_getD]
    rw [List.getElem?_eq_getElem (by omega)]
    rfl
theorem Calls.of_code {P : Program} {f : FuncId} {fi : FnI} (hfn : FnOK P f fi) {vs : List Value} {w : World} {R : Value → World → Prop}
    (h : fi.body.wp P (fun e a' w' => (e = .normal ∨ e = .ret) ∧ a'.defers = [] ∧ ∀ fn, fn.results = fi.res.toArray → ∃ v, (results fn a'.tmps).run P w' = .ok v w' ∧ R v w')
      { tmps := vs.toArray ++ Array.replicate (fi.n - vs.toArray.size) undef, defers := [] } w) :
    Calls P f vs.toArray w fun e w' => ∃ v, e = .returned v ∧ R v w' := by
  obtain ⟨fn, h1, h2, h3, h4, h5⟩ := hfn.ok
  refine calls_of_wp h1 h2 ?_
  rw [h3]
  refine wp_mono h fun e a' w' ⟨he, hd, hr⟩ => ?_
  obtain ⟨v, q1, q2⟩ := hr fn h4
  rcases he with rfl | rfl
  · exact ⟨hd, v, q1, v, rfl, q2⟩
  · exact ⟨hd, v, q1, v, rfl, q2⟩
theorem CM.of_code {E : Env} (hE : EnvAll E) {f : FuncId} {fi : FnI} (hfn : FnOK E.P f fi) {args : List MV} {m : MV} {blks : List Blk} (hn : Nat.ble args.length fi.n = true)
    (h : ∀ w0 okA, CodeOK E.P (cx1 w0 okA) fi.n fi.body ⟨initF 0 args, [], [], 0⟩ (finK E fi.res m blks)) : CM E.P f args m blks true := by
  refine ⟨hfn.enters, fun w okA vs hA hr => ?_⟩
  have hn' : args.length ≤ fi.n := Nat.le_of_ble_eq_true hn
  have h0 := init_sat hA hr hn'
  refine (Calls.of_code hfn (R := fun v w' => ∃ ρ', SatW (cx1 w (okR true okA)) ρ' (idxH 0 blks) blks.length w' ∧ Rep w' G0 ρ' (okS (cx1 w (okR true okA)) ρ' w') m v) ?_).mono ?_
  · refine wp_mono (h w okA _ _ _ ⟨_, h0⟩) ?_
    rintro e a' w' ⟨ex, S', h1, h2, ρ, h3⟩
    unfold finK at h2
    split at h2
    · exact h2.elim
    · rename_i hx
      split at h2
      · exact h2.elim
      · rename_i l hl
        refine ⟨?_, h3.F.defers, fun fn hfn' => ?_⟩
        · cases e <;> cases ex <;> simp only [exitIs] at h1
          · exact .inl rfl
          · exact absurd rfl (hx _)
          · exact .inr rfl
        · obtain ⟨v, q1, q2⟩ := results_sound hE.toEnvOK h3 hfn' hl
          obtain ⟨ρ', s1, s2⟩ := (forceM_eq h2).ok _ ρ w' v h3.W q2
          have hab : ∀ b, okA b ↔ okR true okA b := fun b => ⟨fun h => ⟨rfl, h⟩, fun h => h.2⟩
          refine ⟨v, q1, ρ', s1.okUp hab, ?_⟩
          have e : okA = okR true okA := funext fun b => propext (hab b)
          show Rep w' G0 ρ' (okS (cx1 w (okR true okA)) ρ' w') m v
          rw [← e]; exact s2
  · rintro e w' ⟨v, rfl, ρ', s1, s2⟩
    exact ⟨v, ρ', rfl, s1, s2⟩
/-! ### Calls that turn the state, and calls that are walked in place -/
def noGdL : List MV → Bool
  | [] => true
  | m :: r => match noGd m with
    | true => noGdL r
    | false => false
theorem noGdL_spec : ∀ {l : List MV}, noGdL l = true → ∀ j, j < l.length → noGd (getM l j) = true
  | [], _, j, hj => by simp at hj
  | m :: r, h, j, hj => by
    unfold noGdL at h
    split at h
    · rename_i hm
      cases j with
      | zero => simpa [getM] using hm
      | succ j => simpa [getM] using noGdL_spec h j (by simpa using hj)
    · cases h
def addB (nx : Nat) : List Blk → Nat
  | [] => nx
  | _ :: r => addB (nx + 1) r
theorem addB_eq : ∀ (l : List Blk) (nx : Nat), addB nx l = nx + l.length
  | [], nx => rfl
  | _ :: r, nx => by rw [addB, addB_eq r]; simp; omega
def hnd (E : Env) (cx : Cx) : Nat → CallT
  | 0 => fun _ _ _ _ => False
  | k + 1 => fun f ms S K => match E.ext f with
    | some .f64bits => match ms with
      | [.f .f64 x] => ∀ r, FR .f64 r x → K (.i .u64 r) S
      | _ => False
    | some .f32bits => match ms with
      | [.f .f32 x] => ∀ r, FR .f32 r x → K (.i .u32 r) S
      | _ => False
    | some _ => False
    | none => match callSum E S f ms with
      | some (ps, m, blks) => match conjO ps with
        | none => match S with
          | ⟨F, stk, H, nx⟩ => forceF (newH nx 0 blks H) fun H' => K m ⟨F, stk, H', addB nx blks⟩
        | some p => Need p (match S with
          | ⟨F, stk, H, nx⟩ => forceF (newH nx 0 blks H) fun H' => K m ⟨F, stk, H', addB nx blks⟩)
      | none => match E.fns f with
        | none => False
        | some fi => match Nat.ble ms.length fi.n, noGdL ms with
          | true, true => match S with
            | ⟨F, stk, H, nx⟩ => forceF (initF 0 ms) fun F' => evC E (hnd E cx k) cx fi.n fi.body ⟨F', F :: stk, H, nx⟩ fun ex S' => match ex with
              | .exit _ => False
              | _ => match resM E S' fi.res with
                | none => False
                | some l => match S' with
                  | ⟨_, stk', H', nx'⟩ => match stk' with
                    | [] => False
                    | F :: stk => forceM (fun m => K m ⟨F, stk, H', nx'⟩) (packM l)
          | _, _ => False
structure EnvFull (E : Env) : Prop extends EnvAll E where
  fns : ∀ f fi, E.fns f = some fi → FnOK E.P f fi
theorem f64bits_run {P : Program} {w : World} {r : Nat} : (Extern.MathFloatBits.float64bits #[.float .f64 r]).run P w = .ok (.int .u64 r) w := rfl
theorem f32bits_run {P : Program} {w : World} {r : Nat} : (Extern.MathFloatBits.float32bits #[.float .f32 r]).run P w = .ok (.int .u32 r) w := rfl
theorem hnd_sound {E : Env} (hE : EnvFull E) {cx : Cx} : ∀ k, CallH E.P cx (hnd E cx k)
  | 0 => fun _ _ _ _ h => h.elim
  | k + 1 => by
    intro f ms S K h su n G a w ρ vs hs hr
    unfold hnd at h
    split at h
    · rename_i he
      split at h
      · rename_i x
        have hl : vs.length = 1 := by simpa using hr.len.symm
        obtain ⟨v, rfl⟩ := List.length_eq_one_iff.1 hl
        have r1 := hr.one
        cases r1 with
        | f _ r x hx =>
          refine .inl ⟨.int .u64 r, w, ?_, ⟨_, _, ρ, h r hx, hs, .i _ _⟩⟩
          rw [hE.ext f _ he]
          show ((Extern.MathFloatBits.float64bits #[.float .f64 r]).run E.P w).andThen _ = _
          rw [f64bits_run]; rfl
      · exact h.elim
    · rename_i he
      split at h
      · rename_i x
        have hl : vs.length = 1 := by simpa using hr.len.symm
        obtain ⟨v, rfl⟩ := List.length_eq_one_iff.1 hl
        have r1 := hr.one
        cases r1 with
        | f _ r x hx =>
          refine .inl ⟨.int .u32 r, w, ?_, ⟨_, _, ρ, h r hx, hs, .i _ _⟩⟩
          rw [hE.ext f _ he]
          show ((Extern.MathFloatBits.float32bits #[.float .f32 r]).run E.P w).andThen _ = _
          rw [f32bits_run]; rfl
      · exact h.elim
    · exact h.elim
    · split at h
      · rename_i ps m blks hcs
        have key : AllP ps ∧ K m { S with H := newH S.nx 0 blks S.H, nx := S.nx + blks.length } := by
          split at h
          · rename_i hp
            exact ⟨conjO_all (fun p e => by rw [hp] at e; cases e), by have h' := forceF_eq h; rw [addB_eq] at h'; exact h'⟩
          · rename_i p hp
            exact ⟨conjO_all (fun q e => by rw [hp] at e; cases e; exact h.left.h), by have h' := forceF_eq h.right; rw [addB_eq] at h'; exact h'⟩
        have := callSum_sound hE.sum hs hcs key.1 hr
        rcases this with ⟨v, w', e, ρ2, s2, r2⟩ | ⟨e, hc⟩
        · exact .inl ⟨v, w', e, ⟨_, _, ρ2, key.2, s2, r2⟩⟩
        · refine .inr ⟨e, hc.mono ?_⟩
          rintro _ w' ⟨v, rfl, ρ2, s2, r2⟩
          exact ⟨v, rfl, ⟨_, _, ρ2, key.2, s2, r2⟩⟩
      · split at h
        · exact h.elim
        · rename_i fi hfi
          split at h
          · rename_i hn hng
            have hn := Nat.le_of_ble_eq_true hn
            have hlen := hr.len
            have hfn := hE.fns f fi hfi
            have hs0 : SatR cx ⟨a :: su.as, G :: su.Gs⟩ fi.n G0 { S with F := initF 0 ms, stk := S.F :: S.stk } { tmps := vs.toArray ++ Array.replicate (fi.n - vs.toArray.size) undef, defers := [] } w ρ := by
              refine ⟨hs.W, ⟨rfl, initA (by simp; omega), ?_⟩, ⟨hs.F.frame, hs.K⟩⟩
              intro s m hsl
              obtain ⟨_, h2, h3⟩ := look_initF hsl
              simp only [Nat.zero_add, Nat.sub_zero] at h2 h3
              have hrep := hr.rep s h2
              have hno := noGdL_spec hng s h2
              rw [h3] at hrep hno
              refine ⟨vs.getD s undef, ?_, noGd_spec hno hrep⟩
              rw [Array.getElem?_append_left (by simp; omega)]
              simp only [List.getElem?_toArray, List.getD_eq_getElem?_getD]
              rw [List.getElem?_eq_getElem (by omega)]
              rfl
            refine .inr ⟨hfn.enters _ _, ?_⟩
            refine Calls.of_code hfn ?_
            refine wp_mono (evC_sound hE.toEnvAll (hnd_sound hE k) (forceF_eq h) _ _ _ ⟨ρ, hs0⟩) ?_
            rintro e a' w' ⟨ex, S', h1, h2, ρ2, h3⟩
            split at h2
            · exact h2.elim
            · rename_i hx
              split at h2
              · exact h2.elim
              · rename_i l hl
                refine ⟨?_, h3.F.defers, fun fn hfn' => ?_⟩
                · cases e <;> cases ex <;> simp only [exitIs] at h1
                  · exact .inl rfl
                  · exact absurd rfl (hx _)
                  · exact .inr rfl
                · obtain ⟨v, q1, q2⟩ := results_sound hE.toEnvOK h3 hfn' hl
                  refine ⟨v, q1, ?_⟩
                  have hK := h3.K
                  have h2' : (match S'.stk with | [] => False | F :: stk => forceM (fun m => K m ⟨F, stk, S'.H, S'.nx⟩) (packM l)) := h2
                  split at h2'
                  · exact h2'.elim
                  · rename_i F stk hstk
                    rw [hstk] at hK
                    refine ⟨_, _, ρ2, forceM_eq h2', ⟨h3.W, ⟨hs.F.defers, hs.F.size, hK.1⟩, hK.2⟩, ?_⟩
                    exact q2.mono (Keeps.refl w') (fun _ _ _ e => by simp [G0] at e) (fun _ _ e => e) (fun b hb => ⟨hb, rfl⟩)
          · exact h.elim
theorem CM.of_ev {E : Env} (hE : EnvFull E) {f : FuncId} {fi : FnI} (hfn : FnOK E.P f fi) {args : List MV} {m : MV} {blks : List Blk} (fuel : Nat) (hn : Nat.ble args.length fi.n = true)
    (h : ∀ cx, evC E (hnd E cx fuel) cx fi.n fi.body ⟨initF 0 args, [], [], 0⟩ (finK E fi.res m blks)) : CM E.P f args m blks true :=
  CM.of_code hE.toEnvAll hfn hn fun _ _ => evC_sound hE.toEnvAll (hnd_sound hE fuel) (h _)
/-! ### What is yielded -/
theorem FinS.of_le {S : St} {m0 m : MV} (h : ∀ w ρ ok v, Rep w G0 ρ ok m0 v → Rep w G0 rho0 (fun _ => False) m v) : FinS S m0 m [] where
  ok cx ρ w v hW r := by
    refine ⟨rho0, ⟨hW.below, fun i j b h => by simp [rho0] at h, fun i b h => by simp [rho0] at h, fun id blk h => by simp [idxH, look] at h, fun i _ => rfl, fun id blk h => by simp [idxH, look] at h, hW.okA⟩, ?_⟩
    exact (h _ _ _ _ r).mono (Keeps.refl w) (fun _ _ _ e => e) (fun _ _ e => e) (fun b hb => hb.elim)
theorem FinS.b {S : St} {x y : Bool} (h : Side (x = y)) : FinS S (.b x) (.b y) [] := .of_le fun w ρ ok v r => by cases h with | mk h => subst h; cases r; exact .b _
theorem FinS.lb {S : St} {x y : Bool} (h : Side (x = y)) : FinS S (.lb x) (.b y) [] := .of_le fun w ρ ok v r => by cases h with | mk h => subst h; cases r; exact .b _
theorem FinS.i {S : St} {k : IntKind} {x y : Int} (h : Side (x = y)) : FinS S (.i k x) (.i k y) [] := .of_le fun w ρ ok v r => by cases h with | mk h => subst h; cases r; exact .i _ _
theorem FinS.f {S : St} {k : FloatKind} {x y : Nat} (h : Side (x = y)) : FinS S (.f k x) (.f k y) [] := .of_le fun w ρ ok v r => by cases h with | mk h => subst h; cases r with | f _ _ _ h => exact .f _ _ _ h
def flatM : MV → Bool
  | .b _ => true
  | .i _ _ => true
  | .f _ _ => true
  | .nilp => true
  | .nils => true
  | _ => false
theorem CM.alone {P : Program} {f : FuncId} {args : List MV} {m : MV} {al : Bool} (h : CM P f args m [] al) (hm : flatM m = true) : CM P f args m [] false := by
  refine ⟨h.enters, fun w okA vs hA hr => (h.calls w okA vs hA hr).mono ?_⟩
  rintro e w' ⟨v, ρ', rfl, hW, hR⟩
  refine ⟨v, rho0, rfl, ⟨⟨hW.below.os, hW.below.tape, hW.below.output, hW.below.size, hW.below.block, hW.below.keeps⟩, fun i j b h => by simp [rho0] at h, fun i b h => by simp [rho0] at h, fun id blk h => by simp [idxH, look] at h, fun i _ => rfl, fun id blk h => by simp [idxH, look] at h,
    fun b hb => absurd hb.1 (by simp)⟩, ?_⟩
  cases m <;> simp [flatM] at hm
  · cases hR; exact .b _
  · cases hR; exact .i _ _
  · cases hR with | f _ _ _ h => exact .f _ _ _ h
  · cases hR; exact .nilp
  · cases hR; exact .nils
end Go.Ev
