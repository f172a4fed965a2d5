/-
  Regions whose order is drawn, lists that grow, and the way from a contract of a law to the law, for every program; no condition.
-/
import Derived.Test.YtoboojdfaccphaaEvY
import Derived.Orders
import Derived.ProofKit
import Derived.OpenShut
import Derived.Carry
import Derived.ChangeSlices
namespace Go.Ev

/-! ## Regions whose order is drawn -/

def edgesL : List Edge → List Nat
  | [] => []
  | e :: r => match Region.binds .any e with
    | true => e.on :: edgesL r
    | false => edgesL r
theorem mem_edgesL : ∀ {l : List Edge} {i : Nat}, (∃ e ∈ l, Region.binds .any e = true ∧ e.on = i) → i ∈ edgesL l
  | [], i, h => by obtain ⟨e, h, _⟩ := h; cases h
  | e :: r, i, h => by
    obtain ⟨x, h1, h2, h3⟩ := h
    unfold edgesL
    rcases List.mem_cons.1 h1 with rfl | h1
    · rw [h2]; subst h3; exact List.mem_cons_self
    · have := mem_edgesL (l := r) (i := i) ⟨x, h1, h2, h3⟩
      split
      · exact List.mem_cons_of_mem _ this
      · exact this
theorem of_mem_edgesL : ∀ {l : List Edge} {i : Nat}, i ∈ edgesL l → ∃ e ∈ l, Region.binds .any e = true ∧ e.on = i
  | [], i, h => by cases h
  | e :: r, i, h => by
    unfold edgesL at h
    split at h
    · rename_i hb
      rcases List.mem_cons.1 h with rfl | h
      · exact ⟨e, List.mem_cons_self, hb, rfl⟩
      · obtain ⟨x, h1, h2⟩ := of_mem_edgesL h
        exact ⟨x, List.mem_cons_of_mem _ h1, h2⟩
    · obtain ⟨x, h1, h2⟩ := of_mem_edgesL h
      exact ⟨x, List.mem_cons_of_mem _ h1, h2⟩

def inN : List Nat → Nat → Bool
  | [], _ => false
  | k :: r, n => match Nat.beq k n with
    | true => true
    | false => inN r n
theorem inN_iff {l : List Nat} {n : Nat} : inN l n = true ↔ n ∈ l := by
  induction l with
  | nil => simp [inN]
  | cons k r ih =>
    unfold inN
    split
    · rename_i h
      have := Nat.eq_of_beq_eq_true h
      simp [this]
    · rename_i h
      have hne : n ≠ k := by intro e; subst e; simp at h
      simp [ih, hne]

def getB : List (List Nat) → Nat → List Nat
  | [], _ => []
  | x :: _, 0 => x
  | _ :: r, n + 1 => getB r n
def uniN : List Nat → List Nat → List Nat
  | [], l => l
  | x :: r, l => match inN l x with
    | true => uniN r l
    | false => x :: uniN r l
theorem mem_uniN {a b : List Nat} {i : Nat} (h : i ∈ uniN a b) : i ∈ a ∨ i ∈ b := by
  induction a with
  | nil => exact .inr h
  | cons x r ih =>
    unfold uniN at h
    split at h
    · rcases ih h with h | h
      · exact .inl (by simp [h])
      · exact .inr h
    · rcases List.mem_cons.1 h with rfl | h
      · exact .inl (by simp)
      · rcases ih h with h | h
        · exact .inl (by simp [h])
        · exact .inr h
def clos (Bs : List (List Nat)) : List Nat → List Nat
  | [] => []
  | e :: r => uniN (e :: getB Bs e) (clos Bs r)
theorem mem_clos {Bs : List (List Nat)} {es : List Nat} {i : Nat} (h : i ∈ clos Bs es) : ∃ e ∈ es, i = e ∨ i ∈ getB Bs e := by
  induction es with
  | nil => simp [clos] at h
  | cons e r ih =>
    unfold clos at h
    rcases mem_uniN h with h | h
    · rcases List.mem_cons.1 h with rfl | h
      · exact ⟨_, by simp, .inl rfl⟩
      · exact ⟨e, by simp, .inr h⟩
    · obtain ⟨e', h1, h2⟩ := ih h
      exact ⟨e', by simp [h1], h2⟩

def ltAll (j : Nat) : List Nat → Bool
  | [] => true
  | e :: r => match Nat.blt e j with
    | true => ltAll j r
    | false => false
theorem ltAll_iff {j : Nat} {l : List Nat} (h : ltAll j l = true) : ∀ e ∈ l, e < j := by
  induction l with
  | nil => simp
  | cons x r ih =>
    unfold ltAll at h
    split at h
    · rename_i hx
      intro e he
      rcases List.mem_cons.1 he with rfl | he
      · simpa using hx
      · exact ih h e he
    · cases h

/-- For each operation those that must have been done ahead of it; none if an edge does not point backwards. -/
def allB : List Oper → List (List Nat) → Option (List (List Nat))
  | [], Bs => some Bs
  | o :: r, Bs => match ltAll Bs.length (edgesL o.after.toList) with
    | true => allB r (Bs ++ [clos Bs (edgesL o.after.toList)])
    | false => none

theorem getB_app : ∀ {a b : List (List Nat)} {k : Nat}, k < a.length → getB (a ++ b) k = getB a k
  | [], _, _, h => by simp at h
  | x :: r, b, 0, h => rfl
  | x :: r, b, k + 1, h => by
    simp only [List.cons_append, getB]
    exact getB_app (by simpa using h)
theorem getB_last : ∀ {a : List (List Nat)} {x : List Nat}, getB (a ++ [x]) a.length = x
  | [], x => rfl
  | y :: r, x => by
    simp only [List.cons_append, List.length_cons, getB]
    exact getB_last

theorem allB_spec : ∀ {rest : List Oper} {Bs R : List (List Nat)}, allB rest Bs = some R →
    (∀ k, k < Bs.length → getB R k = getB Bs k) ∧
    ∀ k o, rest[k]? = some o → (∀ e ∈ edgesL o.after.toList, e < Bs.length + k) ∧ ∀ i ∈ getB R (Bs.length + k), ∃ e ∈ edgesL o.after.toList, i = e ∨ i ∈ getB R e
  | [], Bs, R, h => by
    simp [allB] at h; subst h
    exact ⟨fun _ _ => rfl, fun k o ho => by simp at ho⟩
  | o :: r, Bs, R, h => by
    unfold allB at h
    split at h
    · rename_i hlt
      have hlt := ltAll_iff hlt
      obtain ⟨h1, h2⟩ := allB_spec h
      have hlen : (Bs ++ [clos Bs (edgesL o.after.toList)]).length = Bs.length + 1 := by simp
      rw [hlen] at h1 h2
      refine ⟨fun k hk => (h1 k (by omega)).trans (getB_app hk), fun k o' ho => ?_⟩
      cases k with
      | zero =>
        simp at ho; subst ho
        refine ⟨by simpa using hlt, fun i hi => ?_⟩
        rw [Nat.add_zero, h1 _ (by omega), getB_last] at hi
        obtain ⟨e, he, h3⟩ := mem_clos hi
        refine ⟨e, he, h3.imp id fun h3 => ?_⟩
        rw [h1 e (by have := hlt e he; omega), getB_app (hlt e he)]; exact h3
      | succ k =>
        have := h2 k o' (by simpa using ho)
        rw [show Bs.length + (k + 1) = Bs.length + 1 + k by omega]
        exact this
    · cases h

/-- What has been done has been done with all that it needs. -/
theorem B_sub {ops : List Oper} {R : List (List Nat)} (h : allB ops [] = some R) {D : Nat → Prop} (hD : ∀ k o, ops[k]? = some o → D k → ∀ e ∈ edgesL o.after.toList, D e) :
    ∀ k o, ops[k]? = some o → (∀ e ∈ edgesL o.after.toList, D e) → ∀ i ∈ getB R k, D i := by
  obtain ⟨_, h2⟩ := allB_spec h
  intro k
  induction k using Nat.strongRecOn with
  | ind k ih =>
    intro o ho he i hi
    obtain ⟨h3, h4⟩ := h2 k o ho
    rw [List.length_nil, Nat.zero_add] at h4
    obtain ⟨e, e1, e2⟩ := h4 i hi
    rcases e2 with rfl | e2
    · exact he _ e1
    · have hlt := h3 e e1
      rw [List.length_nil, Nat.zero_add] at hlt
      have hk : k < ops.length := (List.getElem?_eq_some_iff.1 ho).1
      have hoe : ops[e]? = some ops[e] := List.getElem?_eq_getElem (by omega)
      exact ih e hlt _ hoe (hD e _ hoe (he e e1)) i e2
end Go.Ev

namespace Go.Ev

/-! ### Each operation once, in a frame that holds whenever it is ready -/

structure RC where
  i : Nat
  d : Option Nat
  m : MV
  e : Option TE

def keepF (Bs : List (List Nat)) (ws : List (Nat × Nat)) (j : Nat) : List (Nat × MV) → List (Nat × MV)
  | [] => []
  | (s, m) :: r => match look ws s with
    | none => (s, m) :: keepF Bs ws j r
    | some i => match Nat.beq i j with
      | true => (s, m) :: keepF Bs ws j r
      | false => match inN (getB Bs i) j with
        | true => (s, m) :: keepF Bs ws j r
        | false => keepF Bs ws j r

def addF (B : List Nat) : List RC → List (Nat × MV) → List (Nat × MV)
  | [], F => F
  | c :: r, F => match c.d with
    | none => addF B r F
    | some d => match inN B c.i with
      | true => (d, c.m) :: addF B r F
      | false => addF B r F

def tabT (B : List Nat) : List RC → List TE
  | [] => []
  | c :: r => match c.e with
    | none => tabT B r
    | some e => match inN B c.i with
      | true => e :: tabT B r
      | false => tabT B r

def writers : List Oper → Nat → List (Nat × Nat)
  | [], _ => []
  | o :: r, k => match o.dst with
    | some d => (d, k) :: writers r (k + 1)
    | none => writers r (k + 1)

def nodupW : List (Nat × Nat) → Bool
  | [] => true
  | (d, _) :: r => match look r d with
    | none => nodupW r
    | some _ => false

def drawOps (E : Env) (n : Nat) (ops : List Oper) (Bs : List (List Nat)) (ws : List (Nat × Nat)) (F0 : List (Nat × MV)) (stk : List (List (Nat × MV))) (H : List (Nat × Blk)) (nx : Nat) : Nat → List Oper → List RC → (List RC → Prop) → Prop
  | _, [], done, K => K done
  | j, o :: r, done, K => match (match o.dst with | none => true | some d => Nat.blt d n) with
    | false => False
    | true => forceF (addF (getB Bs j) done (keepF Bs ws j F0)) fun F => match o.guard with
      | none => match evPure E ops ⟨F, stk, H, nx⟩ [] o.op with
        | some (none, m) => match noGd m with
          | true => drawOps E n ops Bs ws F0 stk H nx (j + 1) r (⟨j, o.dst, m, none⟩ :: done) K
          | false => False
        | some (some p, m) => match noGd m with
          | true => Need p (drawOps E n ops Bs ws F0 stk H nx (j + 1) r (⟨j, o.dst, m, none⟩ :: done) K)
          | false => False
        | none => False
      | some (k, want) => match inN (getB Bs j) k with
        | false => False
        | true => match condOf ops F (tabT (getB Bs j) done) k want with
          | none => False
          | some .t => match evPure E ops ⟨F, stk, H, nx⟩ (ancG ops F ops.length k want) o.op with
            | some (none, m) => match noGd m with
              | true => drawOps E n ops Bs ws F0 stk H nx (j + 1) r (⟨j, o.dst, m, none⟩ :: done) K
              | false => False
            | some (some p, m) => match noGd m with
              | true => Need p (drawOps E n ops Bs ws F0 stk H nx (j + 1) r (⟨j, o.dst, m, none⟩ :: done) K)
              | false => False
            | none => False
          | some .f => drawOps E n ops Bs ws F0 stk H nx (j + 1) r (⟨j, o.dst, .x undef, none⟩ :: done) K
          | some (.s C) => match evPure E ops ⟨F, stk, H, nx⟩ (ancG ops F ops.length k want) o.op with
            | some (none, m) => match noGd m with
              | true => drawOps E n ops Bs ws F0 stk H nx (j + 1) r (⟨j, o.dst, .gd k want m, some ⟨k, want, dOf ops k, .s C⟩⟩ :: done) K
              | false => False
            | some (some p, m) => match noGd m with
              | true => Need (C = true → p) (drawOps E n ops Bs ws F0 stk H nx (j + 1) r (⟨j, o.dst, .gd k want m, some ⟨k, want, dOf ops k, .s C⟩⟩ :: done) K)
              | false => False
            | none => False

/-- What is known of one operation. -/
def ROK (E : Env) (n : Nat) (ops : List Oper) (Bs : List (List Nat)) (ws : List (Nat × Nat)) (F0 : List (Nat × MV)) (stk : List (List (Nat × MV))) (H : List (Nat × Blk)) (nx : Nat) (recs : List RC) (c : RC) : Prop :=
  ∃ o, ops[c.i]? = some o ∧ c.d = o.dst ∧ (∀ d, o.dst = some d → d < n) ∧ ∃ done F, (∀ x ∈ done, x ∈ recs) ∧ F = addF (getB Bs c.i) done (keepF Bs ws c.i F0) ∧
    ((o.guard = none ∧ c.e = none ∧ noGd c.m = true ∧ ∃ cnd, evPure E ops ⟨F, stk, H, nx⟩ [] o.op = some (cnd, c.m) ∧ ∀ p, cnd = some p → p) ∨
     ∃ k want, o.guard = some (k, want) ∧ k ∈ getB Bs c.i ∧
       ((condOf ops F (tabT (getB Bs c.i) done) k want = some .t ∧ c.e = none ∧ noGd c.m = true ∧ ∃ cnd, evPure E ops ⟨F, stk, H, nx⟩ (ancG ops F ops.length k want) o.op = some (cnd, c.m) ∧ ∀ p, cnd = some p → p) ∨
        (condOf ops F (tabT (getB Bs c.i) done) k want = some .f ∧ c.e = none ∧ c.m = .x undef) ∨
        ∃ C m, condOf ops F (tabT (getB Bs c.i) done) k want = some (.s C) ∧ c.e = some ⟨k, want, dOf ops k, .s C⟩ ∧ c.m = .gd k want m ∧ noGd m = true ∧
          ∃ cnd, evPure E ops ⟨F, stk, H, nx⟩ (ancG ops F ops.length k want) o.op = some (cnd, m) ∧ (C = true → ∀ p, cnd = some p → p)))

theorem ROK.mono {E : Env} {n : Nat} {ops : List Oper} {Bs : List (List Nat)} {ws : List (Nat × Nat)} {F0 : List (Nat × MV)} {stk : List (List (Nat × MV))} {H : List (Nat × Blk)} {nx : Nat} {recs recs' : List RC} {c : RC}
    (h : ROK E n ops Bs ws F0 stk H nx recs c) (hs : ∀ x ∈ recs, x ∈ recs') : ROK E n ops Bs ws F0 stk H nx recs' c := by
  obtain ⟨o, h1, h2, h3, done, F, h4, h5⟩ := h
  exact ⟨o, h1, h2, h3, done, F, fun x hx => hs x (h4 x hx), h5⟩

theorem drawOps_spec {E : Env} {n : Nat} {ops : List Oper} {Bs : List (List Nat)} {ws : List (Nat × Nat)} {F0 : List (Nat × MV)} {stk : List (List (Nat × MV))} {H : List (Nat × Blk)} {nx : Nat} {K : List RC → Prop} :
    ∀ {rest : List Oper} {j : Nat} {done : List RC}, drawOps E n ops Bs ws F0 stk H nx j rest done K → (∀ k o, rest[k]? = some o → ops[j + k]? = some o) → (∀ c ∈ done, ROK E n ops Bs ws F0 stk H nx done c) →
    (∀ i, i < j → ∃ c ∈ done, c.i = i) → (∀ c ∈ done, c.i < j) → (∀ c ∈ done, ∀ c' ∈ done, c.i = c'.i → c = c') →
    ∃ recs, K recs ∧ (∀ c ∈ recs, ROK E n ops Bs ws F0 stk H nx recs c) ∧ (∀ i, i < j + rest.length → ∃ c ∈ recs, c.i = i) ∧ ∀ c ∈ recs, ∀ c' ∈ recs, c.i = c'.i → c = c'
  | [], j, done, h, hr, hd, hi, hl, hu => ⟨done, h, hd, hi, hu⟩
  | o :: r, j, done, h, hr, hd, hi, hl, hu => by
    have ho : ops[j]? = some o := by simpa using hr 0 o (by simp)
    unfold drawOps at h
    have next : ∀ c : RC, c.i = j → ROK E n ops Bs ws F0 stk H nx (c :: done) c → drawOps E n ops Bs ws F0 stk H nx (j + 1) r (c :: done) K →
        ∃ recs, K recs ∧ (∀ c ∈ recs, ROK E n ops Bs ws F0 stk H nx recs c) ∧ (∀ i, i < j + (o :: r).length → ∃ c ∈ recs, c.i = i) ∧ ∀ c ∈ recs, ∀ c' ∈ recs, c.i = c'.i → c = c' := by
      intro c hc hok hk
      have := drawOps_spec hk (fun k o' hk' => by have := hr (k + 1) o' (by simpa using hk'); rw [show j + 1 + k = j + (k + 1) by omega]; exact this)
        (fun x hx => by
          rcases List.mem_cons.1 hx with rfl | hx
          · exact hok
          · exact (hd x hx).mono fun y hy => List.mem_cons_of_mem _ hy)
        (fun i hlt => by
          rcases Nat.lt_or_ge i j with h1 | h1
          · obtain ⟨x, hx, e⟩ := hi i h1
            exact ⟨x, List.mem_cons_of_mem _ hx, e⟩
          · exact ⟨c, List.mem_cons_self, by omega⟩)
        (fun x hx => by
          rcases List.mem_cons.1 hx with rfl | hx
          · omega
          · have := hl x hx; omega)
        (fun x hx y hy e => by
          rcases List.mem_cons.1 hx with hx' | hx' <;> rcases List.mem_cons.1 hy with hy' | hy'
          · rw [hx', hy']
          · have := hl y hy'; rw [hx'] at e; omega
          · have := hl x hx'; rw [hy'] at e; omega
          · exact hu x hx' y hy' e)
      obtain ⟨recs, q1, q2, q3, q4⟩ := this
      exact ⟨recs, q1, q2, fun i hlt => q3 i (by simp at hlt; omega), q4⟩
    split at h
    · exact h.elim
    · rename_i hdn
      have hdn' : ∀ d, o.dst = some d → d < n := by
        intro d hd'
        rw [hd'] at hdn
        simpa using hdn
      have h := forceF_eq h
      have sub : ∀ (c : RC), ∀ x ∈ done, x ∈ c :: done := fun c x hx => List.mem_cons_of_mem _ hx
      split at h
      · rename_i hg
        split at h
        · rename_i m hp
          split at h
          · rename_i hn
            exact next _ rfl ⟨o, ho, rfl, hdn', done, _, sub _, rfl, .inl ⟨hg, rfl, hn, _, hp, by simp⟩⟩ h
          · exact h.elim
        · rename_i p m hp
          split at h
          · rename_i hn
            exact next _ rfl ⟨o, ho, rfl, hdn', done, _, sub _, rfl, .inl ⟨hg, rfl, hn, _, hp, fun q e => by cases e; exact h.left.h⟩⟩ h.right
          · exact h.elim
        · exact h.elim
      · rename_i k want hg
        split at h
        · exact h.elim
        · rename_i hin
          have hin := inN_iff.1 hin
          split at h
          · exact h.elim
          · rename_i hc
            split at h
            · rename_i m hp
              split at h
              · rename_i hn
                exact next _ rfl ⟨o, ho, rfl, hdn', done, _, sub _, rfl, .inr ⟨k, want, hg, hin, .inl ⟨hc, rfl, hn, _, hp, by simp⟩⟩⟩ h
              · exact h.elim
            · rename_i p m hp
              split at h
              · rename_i hn
                exact next _ rfl ⟨o, ho, rfl, hdn', done, _, sub _, rfl, .inr ⟨k, want, hg, hin, .inl ⟨hc, rfl, hn, _, hp, fun q e => by cases e; exact h.left.h⟩⟩⟩ h.right
              · exact h.elim
            · exact h.elim
          · rename_i hc
            exact next _ rfl ⟨o, ho, rfl, hdn', done, _, sub _, rfl, .inr ⟨k, want, hg, hin, .inr (.inl ⟨hc, rfl, rfl⟩)⟩⟩ h
          · rename_i C hc
            split at h
            · rename_i m hp
              split at h
              · rename_i hn
                exact next _ rfl ⟨o, ho, rfl, hdn', done, _, sub _, rfl, .inr ⟨k, want, hg, hin, .inr (.inr ⟨C, m, hc, rfl, rfl, hn, _, hp, by simp⟩)⟩⟩ h
              · exact h.elim
            · rename_i p m hp
              split at h
              · rename_i hn
                exact next _ rfl ⟨o, ho, rfl, hdn', done, _, sub _, rfl, .inr ⟨k, want, hg, hin, .inr (.inr ⟨C, m, hc, rfl, rfl, hn, _, hp, fun hC q e => by cases e; exact h.left.h hC⟩)⟩⟩ h.right
              · exact h.elim
            · exact h.elim
end Go.Ev

namespace Go.Ev

def eT (c : RC) : List TE := match c.e with
  | none => []
  | some e => [e]

/-- The old values of the slots that nothing has written yet. -/
def f0F (D : Nat → Bool) (ws : List (Nat × Nat)) : List (Nat × MV) → List (Nat × MV)
  | [] => []
  | (s, m) :: r => match look ws s with
    | none => (s, m) :: f0F D ws r
    | some i => match D i with
      | true => f0F D ws r
      | false => (s, m) :: f0F D ws r

theorem look_f0F {D : Nat → Bool} {ws : List (Nat × Nat)} : ∀ {F : List (Nat × MV)} {s : Nat}, look (f0F D ws F) s = if (∃ i, look ws s = some i ∧ D i = true) then none else look F s
  | [], s => by simp [f0F, look]
  | (k, m) :: r, s => by
    have ih := @look_f0F D ws r s
    by_cases hk : Nat.beq k s = true
    · have hk' := Nat.eq_of_beq_eq_true hk
      subst hk'
      unfold f0F
      split
      · rename_i hl
        have hn : ¬ ∃ i, look ws k = some i ∧ D i = true := by rintro ⟨i, h1, _⟩; rw [hl] at h1; cases h1
        rw [if_neg hn]
        simp [look]
      · rename_i i hl
        split
        · rename_i hD
          rw [ih, if_pos ⟨i, hl, hD⟩, if_pos ⟨i, hl, hD⟩]
        · rename_i hD
          have hn : ¬ ∃ i, look ws k = some i ∧ D i = true := by rintro ⟨i', h1, h2⟩; rw [hl] at h1; cases h1; rw [hD] at h2; cases h2
          rw [if_neg hn]
          simp [look]
    · have hk2 : Nat.beq k s = false := Bool.eq_false_iff.2 hk
      have e1 : ∀ l : List (Nat × MV), look ((k, m) :: l) s = look l s := fun l => by simp only [look, hk2]
      unfold f0F
      rw [e1]
      split
      · rw [e1, ih]
      · split
        · rw [ih]
        · rw [e1, ih]

theorem look_keepF {Bs : List (List Nat)} {ws : List (Nat × Nat)} {j : Nat} : ∀ {F : List (Nat × MV)} {s : Nat} {m : MV}, look (keepF Bs ws j F) s = some m →
    look F s = some m ∧ ∀ i, look ws s = some i → i = j ∨ j ∈ getB Bs i
  | [], s, m, h => by simp [keepF, look] at h
  | (k, x) :: r, s, m, h => by
    by_cases hk : Nat.beq k s = true
    · have hk' := Nat.eq_of_beq_eq_true hk
      subst hk'
      have e2 : ∀ l : List (Nat × MV), look ((k, x) :: l) k = some x := fun l => by simp [look]
      rw [e2]
      have deep : ∀ i, look ws k = some i → i ≠ j → j ∉ getB Bs i → False ∨ look (keepF Bs ws j r) k = some m → False := by
        intro i hi h1 h2 h3
        rcases h3 with h3 | h3
        · exact h3
        · have := (look_keepF h3).2 i hi
          rcases this with e | e
          · exact h1 e
          · exact h2 e
      unfold keepF at h
      split at h
      · rename_i hl
        rw [e2] at h
        exact ⟨h, fun i hi => by rw [hl] at hi; cases hi⟩
      · rename_i i hl
        split at h
        · rename_i hb
          rw [e2] at h
          exact ⟨h, fun i' hi => by rw [hl] at hi; cases hi; exact .inl (Nat.eq_of_beq_eq_true hb)⟩
        · rename_i hb
          split at h
          · rename_i hin
            rw [e2] at h
            exact ⟨h, fun i' hi => by rw [hl] at hi; cases hi; exact .inr (inN_iff.1 hin)⟩
          · rename_i hin
            exfalso
            refine deep i hl (by intro e; subst e; simp at hb) (fun e => by rw [inN_iff.2 e] at hin; cases hin) (.inr h)
    · have hk2 : Nat.beq k s = false := Bool.eq_false_iff.2 hk
      have e1 : ∀ l : List (Nat × MV), look ((k, x) :: l) s = look l s := fun l => by simp only [look, hk2]
      rw [e1]
      unfold keepF at h
      split at h
      · rw [e1] at h; exact look_keepF h
      · split at h
        · rw [e1] at h; exact look_keepF h
        · split at h
          · rw [e1] at h; exact look_keepF h
          · exact look_keepF h

theorem look_addF {B : List Nat} : ∀ {done : List RC} {F : List (Nat × MV)} {s : Nat} {m : MV}, look (addF B done F) s = some m → (∃ c ∈ done, c.d = some s ∧ c.i ∈ B ∧ c.m = m) ∨ look F s = some m
  | [], F, s, m, h => .inr h
  | c :: r, F, s, m, h => by
    unfold addF at h
    have up : (∃ c ∈ r, c.d = some s ∧ c.i ∈ B ∧ c.m = m) ∨ look F s = some m → (∃ x ∈ c :: r, x.d = some s ∧ x.i ∈ B ∧ x.m = m) ∨ look F s = some m := by
      rintro (⟨x, hx, e⟩ | e)
      · exact .inl ⟨x, List.mem_cons_of_mem _ hx, e⟩
      · exact .inr e
    split at h
    · exact up (look_addF h)
    · rename_i d hd
      split at h
      · rename_i hin
        simp only [look] at h
        split at h
        · rename_i hb
          have := Nat.eq_of_beq_eq_true hb
          subst this
          cases h
          exact .inl ⟨c, List.mem_cons_self, hd, inN_iff.1 hin, rfl⟩
        · exact up (look_addF h)
      · exact up (look_addF h)

theorem mem_tabT {B : List Nat} : ∀ {done : List RC} {e : TE}, e ∈ tabT B done ↔ ∃ c ∈ done, c.e = some e ∧ c.i ∈ B
  | [], e => by simp [tabT]
  | c :: r, e => by
    have ih := @mem_tabT B r e
    unfold tabT
    split
    · rename_i hn
      rw [ih]
      constructor
      · rintro ⟨x, hx, q⟩; exact ⟨x, List.mem_cons_of_mem _ hx, q⟩
      · rintro ⟨x, hx, q1, q2⟩
        rcases List.mem_cons.1 hx with rfl | hx
        · rw [hn] at q1; cases q1
        · exact ⟨x, hx, q1, q2⟩
    · rename_i e' he
      split
      · rename_i hin
        constructor
        · intro h
          rcases List.mem_cons.1 h with rfl | h
          · exact ⟨c, List.mem_cons_self, he, inN_iff.1 hin⟩
          · obtain ⟨x, hx, q⟩ := ih.1 h
            exact ⟨x, List.mem_cons_of_mem _ hx, q⟩
        · rintro ⟨x, hx, q1, q2⟩
          rcases List.mem_cons.1 hx with rfl | hx
          · rw [he] at q1; cases q1; exact List.mem_cons_self
          · exact List.mem_cons_of_mem _ (ih.2 ⟨x, hx, q1, q2⟩)
      · rename_i hin
        rw [ih]
        constructor
        · rintro ⟨x, hx, q⟩; exact ⟨x, List.mem_cons_of_mem _ hx, q⟩
        · rintro ⟨x, hx, q1, q2⟩
          rcases List.mem_cons.1 hx with rfl | hx
          · rw [inN_iff.2 q2] at hin; cases hin
          · exact ⟨x, hx, q1, q2⟩

theorem lookT_of_mem : ∀ {tb : List TE} {e : TE}, e ∈ tb → ∃ c, lookT tb e.j e.want = some c
  | [], e, h => by cases h
  | x :: r, e, h => by
    unfold lookT
    split
    · split
      · exact ⟨_, rfl⟩
      · rename_i hj hw
        rcases List.mem_cons.1 h with rfl | h
        · have : eqB e.want e.want = true := by cases e.want <;> rfl
          rw [this] at hw; cases hw
        · exact lookT_of_mem h
    · rename_i hj
      rcases List.mem_cons.1 h with rfl | h
      · have : Nat.beq e.j e.j = true := by simp
        rw [this] at hj; cases hj
      · exact lookT_of_mem h

theorem gOf_incl {ops : List Oper} {l tb : List TE} {a : Act} (h1 : TOK ops l a) (h2 : TOK ops tb a) (hs : ∀ e ∈ l, e ∈ tb) : ∀ j want C, gOf l j want = some C → gOf tb j want = some C := by
  intro j want C hC
  unfold gOf at hC ⊢
  cases hl : lookT l j want with
  | none => rw [hl] at hC; cases hC
  | some c =>
    rw [hl] at hC
    obtain ⟨e, he, rfl, rfl, rfl⟩ := lookT_mem hl
    obtain ⟨c', hc'⟩ := lookT_of_mem (hs e he)
    obtain ⟨e', he', q1, q2, q3⟩ := lookT_mem hc'
    have a1 := (h1 e he).2
    have a2 := (h2 e' he').2
    rw [q1, q2, a1, q3] at a2
    rw [hc']
    simp only [Option.map_some, Option.some.injEq] at hC ⊢
    rw [← hC, a2]

/-! ### Frames set aside -/

theorem stk_append {w : World} {ρ : RhoT} {ok : OkT} : ∀ {Fs Fs' : List (List (Nat × MV))} {as as' : List Act} {Gs Gs' : List GT}, Fs.length = as.length → Fs.length = Gs.length →
    (StkOK w ρ ok (Fs ++ Fs') (as ++ as') (Gs ++ Gs') ↔ StkOK w ρ ok Fs as Gs ∧ StkOK w ρ ok Fs' as' Gs')
  | [], Fs', [], as', [], Gs', _, _ => by simp [StkOK]
  | F :: Fs, Fs', a :: as, as', G :: Gs, Gs', h1, h2 => by
    have ih := @stk_append w ρ ok Fs Fs' as as' Gs Gs' (by simpa using h1) (by simpa using h2)
    simp only [List.cons_append, StkOK, ih, and_assoc]
  | [], Fs', a :: as, as', Gs, Gs', h1, h2 => by simp at h1
  | [], Fs', [], as', G :: Gs, Gs', h1, h2 => by simp at h2
  | F :: Fs, Fs', [], as', Gs, Gs', h1, h2 => by simp at h1
  | F :: Fs, Fs', a :: as, as', [], Gs', h1, h2 => by simp at h2

def vF (D : Nat → Bool) : List RC → List (List (Nat × MV))
  | [] => []
  | c :: r => (match D c.i, c.d with
    | true, some d => [(d, c.m)]
    | _, _ => []) :: vF D r
def vA (a : Act) : List RC → List Act
  | [] => []
  | _ :: r => a :: vA a r
def vG : List RC → List GT
  | [] => []
  | c :: r => gOf (eT c) :: vG r
theorem v_len (D : Nat → Bool) (a : Act) : ∀ l : List RC, (vF D l).length = (vA a l).length ∧ (vF D l).length = (vG l).length
  | [] => by simp [vF, vA, vG]
  | c :: r => by have := v_len D a r; simp [vF, vA, vG, this.1, ← this.2]

/-- Each executed operation's slot holds what was found for it. -/
def Held (w : World) (ρ : RhoT) (ok : OkT) (a : Act) (D : Nat → Bool) (l : List RC) : Prop :=
  ∀ c ∈ l, D c.i = true → ∀ d, c.d = some d → ∃ v, a.tmps[d]? = some v ∧ Rep w (gOf (eT c)) ρ ok c.m v

theorem held_stk {w : World} {ρ : RhoT} {ok : OkT} {a : Act} {D : Nat → Bool} : ∀ {l : List RC}, Held w ρ ok a D l ↔ StkOK w ρ ok (vF D l) (vA a l) (vG l)
  | [] => by simp [Held, vF, vA, vG, StkOK]
  | c :: r => by
    have ih := @held_stk w ρ ok a D r
    simp only [vF, vA, vG, StkOK, ← ih]
    constructor
    · intro h
      refine ⟨?_, fun x hx => h x (List.mem_cons_of_mem _ hx)⟩
      intro s m hs
      split at hs
      · rename_i d hD hd
        simp only [look] at hs
        split at hs
        · rename_i hb
          have := Nat.eq_of_beq_eq_true hb
          subst this
          cases hs
          exact h c List.mem_cons_self hD _ hd
        · cases hs
      · simp [look] at hs
    · rintro ⟨h1, h2⟩ x hx hD d hd
      rcases List.mem_cons.1 hx with rfl | hx
      · refine h1 d x.m ?_
        rw [hD, hd]
        simp [look]
      · exact h2 x hx hD d hd
end Go.Ev

namespace Go.Ev

theorem writers_ge : ∀ {l : List Oper} {k d i : Nat}, look (writers l k) d = some i → k ≤ i
  | [], k, d, i, h => by simp [writers, look] at h
  | o :: r, k, d, i, h => by
    unfold writers at h
    split at h
    · simp only [look] at h
      split at h
      · cases h; exact Nat.le_refl _
      · have := writers_ge h; omega
    · have := writers_ge h; omega

theorem writers_lt : ∀ {l : List Oper} {k d i : Nat}, look (writers l k) d = some i → i < k + l.length
  | [], k, d, i, h => by simp [writers, look] at h
  | o :: r, k, d, i, h => by
    unfold writers at h
    split at h
    · simp only [look] at h
      split at h
      · cases h; simp
      · have := writers_lt h; simp; omega
    · have := writers_lt h; simp; omega

theorem writers_spec : ∀ {l : List Oper} {k : Nat}, nodupW (writers l k) = true → ∀ i o d, l[i]? = some o → o.dst = some d → look (writers l k) d = some (k + i)
  | [], k, h, i, o, d, hi, hd => by simp at hi
  | x :: r, k, h, i, o, d, hi, hd => by
    unfold writers at h ⊢
    cases hx : x.dst with
    | none =>
      simp only [hx] at h ⊢
      cases i with
      | zero => simp at hi; subst hi; rw [hx] at hd; cases hd
      | succ i =>
        have := writers_spec h i o d (by simpa using hi) hd
        rw [this]; congr 1; omega
    | some d0 =>
      simp only [hx] at h ⊢
      unfold nodupW at h
      split at h
      · rename_i hn
        cases i with
        | zero =>
          simp at hi; subst hi
          rw [hx] at hd; cases hd
          simp [look]
        | succ i =>
          have := writers_spec h i o d (by simpa using hi) hd
          have hne : Nat.beq d0 d = false := by
            cases hb : Nat.beq d0 d
            · rfl
            · have := Nat.eq_of_beq_eq_true hb
              subst this
              rw [hn] at this
              cases this
          simp only [look, hne]
          rw [this]; congr 1; omega
      · cases h
end Go.Ev

namespace Go.Ev

section
variable {E : Env} {n : Nat} {ops : List Oper} {Bs : List (List Nat)} {F0 : List (Nat × MV)} {stk : List (List (Nat × MV))} {H : List (Nat × Blk)} {nx : Nat} {recs : List RC} {cx : Cx} {su : Sus}

/-- What holds between two operations, whatever has been done so far. -/
def InvD (ops : List Oper) (F0 : List (Nat × MV)) (stk : List (List (Nat × MV))) (H : List (Nat × Blk)) (nx : Nat) (recs : List RC) (cx : Cx) (su : Sus) (n : Nat) (D : Nat → Bool) (a : Act) (w : World) : Prop :=
  ∃ ρ, SatR cx su n G0 ⟨f0F D (writers ops 0) F0, stk, H, nx⟩ a w ρ ∧ Held w ρ (okS cx ρ w) a D recs ∧ ∀ c ∈ recs, D c.i = true → TOK ops (eT c) a

def addD (D : Nat → Bool) (i : Nat) : Nat → Bool := fun k => match Nat.beq k i with
  | true => true
  | false => D k

theorem addD_iff {D : Nat → Bool} {i k : Nat} : addD D i k = true ↔ k = i ∨ D k = true := by
  unfold addD
  split
  · rename_i h; have := Nat.eq_of_beq_eq_true h; simp [this]
  · rename_i h
    have : k ≠ i := by intro e; subst e; simp at h
    simp [this]

theorem put_ne {a : Act} {o : Option Nat} {v : Value} {s : Nat} (h : ∀ d, o = some d → d ≠ s) : (a.put o v).tmps[s]? = a.tmps[s]? := by
  cases o with
  | none => rfl
  | some d => simp [Act.put, Array.getElem?_setIfInBounds_ne (h d rfl)]

theorem dst_nth {i : Nat} {o : Oper} (h : ops[i]? = some o) : dstOf ops i = o.dst := by
  unfold dstOf; rw [nthO_eq, h]

theorem eval_stk {g : List (Nat × Bool)} {F : List (Nat × MV)} {stk' : List (List (Nat × MV))} {op : Op} : evPure E ops ⟨F, stk, H, nx⟩ g op = evPure E ops ⟨F, stk', H, nx⟩ g op := by
  unfold evPure pureCall callSum
  rfl

/-- One operation more, when it is ready. -/
theorem draw_step (hE : EnvAll E) (hBs : allB ops [] = some Bs) (hnd : nodupW (writers ops 0) = true) (hrec : ∀ c ∈ recs, ROK E n ops Bs (writers ops 0) F0 stk H nx recs c) (huni : ∀ c ∈ recs, ∀ c' ∈ recs, c.i = c'.i → c = c')
    {D : Nat → Bool} {a : Act} {w : World} (hI : InvD ops F0 stk H nx recs cx su n D a w) (hD : ∀ k o, ops[k]? = some o → D k = true → ∀ e ∈ edgesL o.after.toList, D e = true)
    {c : RC} (hc : c ∈ recs) (hcD : D c.i = false) (hce : ∀ o, ops[c.i]? = some o → ∀ e ∈ edgesL o.after.toList, D e = true) {K : Act → World → Prop} {Q : Exit → Act → World → Prop}
    (hK : ∀ a' w', InvD ops F0 stk H nx recs cx su n (addD D c.i) a' w' → K a' w') : wpOp E.P ops.toArray Q c.i K a w := by
  obtain ⟨ρ, hS, hH, hT⟩ := hI
  obtain ⟨o, ho, hd, hdn, done, F, hsub, hF, hcase⟩ := hrec c hc
  have hB : ∀ i ∈ getB Bs c.i, D i = true := B_sub (D := fun k => D k = true) hBs hD c.i o ho (hce o ho)
  have hW := fun i (o : Oper) d (h1 : ops[i]? = some o) (h2 : o.dst = some d) => by simpa using writers_spec hnd i o d h1 h2
  -- the table
  have hTt : TOK ops (tabT (getB Bs c.i) done) a := by
    intro e he
    obtain ⟨c', h1, h2, h3⟩ := mem_tabT.1 he
    exact hT c' (hsub _ h1) (hB _ h3) e (by simp [eT, h2])
  -- the frame
  have hFr : FrOK w (gOf (tabT (getB Bs c.i) done)) ρ (okS cx ρ w) F a := by
    intro s m hs
    rw [hF] at hs
    rcases look_addF hs with ⟨c', h1, h2, h3, rfl⟩ | hs
    · obtain ⟨v, hv, r⟩ := hH c' (hsub _ h1) (hB _ h3) s h2
      refine ⟨v, hv, r.mono (Keeps.refl w) (gOf_incl (hT c' (hsub _ h1) (hB _ h3)) hTt ?_) (fun _ _ e => e) (fun _ hb => ⟨hb, rfl⟩)⟩
      intro e he
      refine mem_tabT.2 ⟨c', h1, ?_, h3⟩
      unfold eT at he
      split at he
      · cases he
      · rename_i e' he'
        simp at he
        rw [he', he]
    · obtain ⟨h1, h2⟩ := look_keepF hs
      have hl : look (f0F D (writers ops 0) F0) s = some m := by
        rw [look_f0F, if_neg]
        · exact h1
        · rintro ⟨i, q1, q2⟩
          rcases h2 i q1 with rfl | h2
          · rw [hcD] at q2; cases q2
          · have hio : ∃ oi, ops[i]? = some oi := by
              have hlt : i < ops.length := by have := writers_lt q1; omega
              exact ⟨ops[i], List.getElem?_eq_getElem hlt⟩
            obtain ⟨oi, hoi⟩ := hio
            have := B_sub (D := fun k => D k = true) hBs hD i oi hoi (hD i oi hoi q2) c.i h2
            rw [hcD] at this; cases this
      obtain ⟨v, hv, r⟩ := hS.F.frame s m hl
      exact ⟨v, hv, r.mono (Keeps.refl w) (fun _ _ _ e => by simp [G0] at e) (fun _ _ e => e) (fun _ hb => ⟨hb, rfl⟩)⟩
  have hlen := v_len D a recs
  have hSat : SatR cx ⟨(a :: vA a recs) ++ su.as, (G0 :: vG recs) ++ su.Gs⟩ n (gOf (tabT (getB Bs c.i) done)) ⟨F, (f0F D (writers ops 0) F0 :: vF D recs) ++ stk, H, nx⟩ a w ρ :=
    ⟨hS.W, ⟨hS.F.defers, hS.F.size, hFr⟩, (stk_append (by simp [hlen.1]) (by simp [← hlen.2])).2 ⟨⟨hS.F.frame, held_stk.1 hH⟩, hS.K⟩⟩
  have tokKeep : ∀ v, ∀ c' ∈ recs, D c'.i = true → TOK ops (eT c') (a.put o.dst v) := by
    intro v c' hc' hD' e he
    obtain ⟨t1, t2⟩ := hT c' hc' hD' e he
    refine ⟨t1, ?_⟩
    rw [yielded_dst t1] at t2 ⊢
    rw [put_ne]
    · exact t2
    · intro d hod hde
      subst hde
      -- the guard's operation has been done, this one has not
      obtain ⟨o', ho', _, _, done', F', _, _, hcase'⟩ := hrec c' hc'
      have hj : D e.j = true := by
        have hB' : ∀ i ∈ getB Bs c'.i, D i = true := B_sub (D := fun k => D k = true) hBs hD c'.i o' ho' (hD c'.i o' ho' hD')
        unfold eT at he
        rcases hcase' with ⟨_, h2, _⟩ | ⟨k, want, _, hk, hh⟩
        · rw [h2] at he; cases he
        · rcases hh with ⟨_, h2, _⟩ | ⟨_, h2, _⟩ | ⟨C, m, _, h2, _⟩
          · rw [h2] at he; cases he
          · rw [h2] at he; cases he
          · rw [h2] at he
            simp at he
            subst he
            exact hB' k hk
      have hoj : ∃ oj, ops[e.j]? = some oj ∧ oj.dst = some e.d := by
        unfold dstOf at t1
        rw [nthO_eq] at t1
        cases hq : ops[e.j]? with
        | none => rw [hq] at t1; cases t1
        | some oj => rw [hq] at t1; exact ⟨oj, rfl, t1⟩
      obtain ⟨oj, h1, h2⟩ := hoj
      have a1 := hW _ _ _ h1 h2
      have a2 := hW _ _ _ ho hod
      rw [a1] at a2
      have : e.j = c.i := by simpa using a2
      rw [this, hcD] at hj; cases hj
  have fin : ∀ v w' ρ', SatR cx ⟨(a :: vA a recs) ++ su.as, (G0 :: vG recs) ++ su.Gs⟩ n (gOf (tabT (getB Bs c.i) done)) ⟨F, (f0F D (writers ops 0) F0 :: vF D recs) ++ stk, H, nx⟩ a w' ρ' →
      (∀ d, c.d = some d → Rep w' (gOf (eT c)) ρ' (okS cx ρ' w') c.m v) → TOK ops (eT c) (a.put o.dst v) → InvD ops F0 stk H nx recs cx su n (addD D c.i) (a.put o.dst v) w' := by
    intro v w' ρ' h' hr ht
    obtain ⟨⟨k1, k2⟩, k3⟩ := (stk_append (by simp [hlen.1]) (by simp [← hlen.2])).1 h'.K
    have k2 := held_stk.2 k2
    refine ⟨ρ', ⟨h'.W, ⟨by cases o.dst <;> exact h'.F.defers, by cases o.dst <;> simpa [Act.put] using h'.F.size, ?_⟩, k3⟩, ?_, ?_⟩
    · intro s m hs
      dsimp only at hs
      rw [look_f0F] at hs
      split at hs
      · cases hs
      · rename_i hno
        have hl : look (f0F D (writers ops 0) F0) s = some m := by
          rw [look_f0F, if_neg]
          · exact hs
          · rintro ⟨i, q1, q2⟩
            exact hno ⟨i, q1, addD_iff.2 (.inr q2)⟩
        obtain ⟨v0, hv0, r0⟩ := k1 s m hl
        refine ⟨v0, ?_, r0⟩
        rw [put_ne]
        · exact hv0
        · intro d hod hds
          subst hds
          exact hno ⟨c.i, hW _ _ _ ho hod, addD_iff.2 (.inl rfl)⟩
    · intro c' hc' hD' d hd'
      by_cases he : c'.i = c.i
      · obtain rfl := huni c' hc' c hc he
        refine ⟨v, ?_, hr d hd'⟩
        rw [hd] at hd'
        rw [hd']
        have hlt : d < a.tmps.size := by rw [h'.F.size]; exact hdn d hd'
        simp [Act.put, hlt]
      · have hD2 : D c'.i = true := (addD_iff.1 hD').resolve_left he
        obtain ⟨v0, hv0, r0⟩ := k2 c' hc' hD2 d hd'
        refine ⟨v0, ?_, r0⟩
        rw [put_ne]
        · exact hv0
        · intro d2 hod hds
          subst hds
          obtain ⟨o', ho', hd2, _⟩ := hrec c' hc'
          have a1 := hW _ _ _ ho' (by rw [← hd2]; exact hd')
          have a2 := hW _ _ _ ho hod
          rw [a1] at a2
          exact he (by simpa using a2)
    · intro c' hc' hD'
      by_cases he : c'.i = c.i
      · obtain rfl := huni c' hc' c hc he
        exact ht
      · exact tokKeep v c' hc' ((addD_iff.1 hD').resolve_left he)
  have hop : ops.toArray[c.i]? = some o := by simpa using ho
  unfold wpOp
  rw [hop]
  dsimp only
  have pureStep : ∀ {g : List (Nat × Bool)} {cnd : Option Prop} {m : MV}, Holds (gOf (tabT (getB Bs c.i) done)) g → evPure E ops ⟨F, stk, H, nx⟩ g o.op = some (cnd, m) → (∀ p, cnd = some p → p) →
      (∀ v w' ρ', Rep w' (gOf (tabT (getB Bs c.i) done)) ρ' (okS cx ρ' w') m v → (∀ d, c.d = some d → Rep w' (gOf (eT c)) ρ' (okS cx ρ' w') c.m v) ∧ TOK ops (eT c) (a.put o.dst v)) → o.wp E.P a w K Q := by
    intro g cnd m hg hp hcnd hfin
    rw [eval_stk (stk' := (f0F D (writers ops 0) F0 :: vF D recs) ++ stk)] at hp
    exact evPure_sound hE hSat hTt hg hp hcnd o rfl fun v w' ρ' h' r => hK _ _ (fin v w' ρ' h' (hfin v w' ρ' r).1 (hfin v w' ρ' r).2)
  rcases hcase with ⟨hg, hce', hno, cnd, hp, hcnd⟩ | ⟨k, want, hg, hk, hh⟩
  · rw [if_pos (by simp [Region.wanted, hg])]
    left
    refine pureStep (by intro x hx; cases hx) hp hcnd fun v w' ρ' r => ⟨fun d _ => noGd_spec hno r, ?_⟩
    intro e he
    unfold eT at he; rw [hce'] at he; cases he
  · rcases hh with ⟨hco, hce', hno, cnd, hp, hcnd⟩ | ⟨hco, hce', hm⟩ | ⟨C, m, hco, hce', hm, hno, cnd, hp, hcnd⟩
    · have hcv := condOf_sound hco hFr hTt
      rw [if_pos (by simp only [Region.wanted, hg]; exact hcv)]
      left
      refine pureStep (ancG_holds hFr hTt (by simpa [CB.val] using hcv)) hp hcnd fun v w' ρ' r => ⟨fun d _ => noGd_spec hno r, ?_⟩
      intro e he
      unfold eT at he; rw [hce'] at he; cases he
    · have hcv := condOf_sound hco hFr hTt
      rw [if_neg (by simp only [Region.wanted, hg]; rw [hcv]; simp [CB.val])]
      refine hK _ _ (fin undef w ρ hSat (fun d _ => by rw [hm]; exact .x _) ?_)
      intro e he
      unfold eT at he; rw [hce'] at he; cases he
    · have hcv := condOf_sound hco hFr hTt
      obtain ⟨dk, hdk⟩ := condOf_dst hco hTt
      have hgo : gOf (eT c) k want = some C := by
        unfold eT; rw [hce']; exact gOf_head
      -- the guard's slot is not this operation's
      have tokc : ∀ v, TOK ops (eT c) (a.put o.dst v) := by
        intro v e he
        unfold eT at he; rw [hce'] at he
        simp at he
        subst he
        refine ⟨by simp [dOf, hdk], ?_⟩
        dsimp only
        rw [yielded_dst hdk] at hcv ⊢
        rw [put_ne]
        · exact hcv
        · intro d hod hds
          subst hds
          have hoj : ∃ oj, ops[k]? = some oj ∧ oj.dst = some d := by
            unfold dstOf at hdk
            rw [nthO_eq] at hdk
            cases hq : ops[k]? with
            | none => rw [hq] at hdk; cases hdk
            | some oj => rw [hq] at hdk; exact ⟨oj, rfl, hdk⟩
          obtain ⟨oj, h1, h2⟩ := hoj
          have a1 := hW _ _ _ h1 h2
          have a2 := hW _ _ _ ho hod
          rw [a1] at a2
          have e : k = c.i := by simpa using a2
          have := hB k hk
          rw [e, hcD] at this; cases this
      cases C with
      | true =>
        rw [if_pos (by simp only [Region.wanted, hg]; exact hcv)]
        left
        refine pureStep (ancG_holds hFr hTt (by simpa [CB.val] using hcv)) hp (hcnd rfl) fun v w' ρ' r => ⟨fun d _ => ?_, tokc v⟩
        rw [hm]
        exact .gd k want m v true hgo (fun _ => noGd_spec hno r) (by simp)
      | false =>
        rw [if_neg (by simp only [Region.wanted, hg]; rw [hcv]; simp [CB.val])]
        refine hK _ _ (fin undef w ρ hSat (fun d _ => ?_) (tokc undef))
        rw [hm]
        exact .gd k want m undef false hgo (by simp) (fun _ => rfl)
end
end Go.Ev

namespace Go.Ev

section
variable {E : Env} {n : Nat} {ops : List Oper} {Bs : List (List Nat)} {F0 : List (Nat × MV)} {stk : List (List (Nat × MV))} {H : List (Nat × Blk)} {nx : Nat} {recs : List RC} {cx : Cx} {su : Sus}

theorem getD_eq {l : Array Bool} {i : Nat} (h : i < l.size) : l.getD i true = l.getD i false := by
  simp [Array.getD_eq_getD_getElem?, Array.getElem?_eq_getElem h]

theorem addD_set {l : Array Bool} {i : Nat} (h : i < l.size) : (fun k => (l.setIfInBounds i true).getD k false) = addD (fun k => l.getD k false) i := by
  funext k
  unfold addD
  split
  · rename_i e
    have := Nat.eq_of_beq_eq_true e
    subst this
    simp [Array.getD_eq_getD_getElem?, h]
  · rename_i e
    have : i ≠ k := by intro e'; subst e'; simp at e
    rw [getD_set_ne false this]

theorem draw_all (hE : EnvAll E) (hBs : allB ops [] = some Bs) (hnd : nodupW (writers ops 0) = true) (hrec : ∀ c ∈ recs, ROK E n ops Bs (writers ops 0) F0 stk H nx recs c) (hall : ∀ i, i < ops.length → ∃ c ∈ recs, c.i = i) (huni : ∀ c ∈ recs, ∀ c' ∈ recs, c.i = c'.i → c = c')
    {Q : Exit → Act → World → Prop} (hQ : ∀ D a w, InvD ops F0 stk H nx recs cx su n D a w → (∀ i, i < ops.length → D i = true) → Q .normal a w) :
    ∀ (fuel : Nat) (L : List Nat) (listed : Array Bool) (a : Act) (w : World), L.length ≤ fuel → listed.size = ops.length → (∀ i, i < ops.length → listed.getD i false = false → i ∈ L) →
      (∀ k o, ops[k]? = some o → listed.getD k false = true → ∀ e ∈ edgesL o.after.toList, listed.getD e false = true) →
      InvD ops F0 stk H nx recs cx su n (fun i => listed.getD i false) a w → wpAny E.P .any ops.toArray Q fuel listed a w := by
  have back := (allB_spec hBs).2
  have edge : ∀ k o, ops[k]? = some o → ∀ e ∈ edgesL o.after.toList, e < k := by
    intro k o ho e he
    have := (back k o ho).1 e he
    simpa using this
  -- none ready: all have been done
  have done : ∀ (listed : Array Bool), listed.size = ops.length → Region.ready .any ops.toArray listed = [] → ∀ i, i < ops.length → listed.getD i false = true := by
    intro listed hsz hr i
    induction i using Nat.strongRecOn with
    | ind i ih =>
      intro hi
      cases hl : listed.getD i false with
      | true => rfl
      | false =>
        have hm : i ∈ Region.ready .any ops.toArray listed := by
          rw [mem_ready]
          refine ⟨by rw [getD_eq (by omega)]; exact hl, ops[i], by simp [hi], fun e he hb => ?_⟩
          have hmem := mem_edgesL (l := ops[i].after.toList) (i := e.on) ⟨e, by simpa using he, hb, rfl⟩
          have hlt := edge i _ (List.getElem?_eq_getElem hi) _ hmem
          exact ih _ hlt (by omega)
        rw [hr] at hm; cases hm
  intro fuel
  induction fuel with
  | zero =>
    intro L listed a w hL hsz hun hcl hI
    have h0 : ∀ i, i < ops.length → listed.getD i false = true := by
      intro i hi
      cases hl : listed.getD i false with
      | true => rfl
      | false =>
        have := hun i hi hl
        have : L = [] := List.length_eq_zero_iff.1 (by omega)
        subst this
        simp at *
    refine ⟨?_, hQ _ _ _ hI h0⟩
    refine List.eq_nil_iff_forall_not_mem.2 fun i hi => ?_
    rw [mem_ready] at hi
    obtain ⟨h1, o, ho, _⟩ := hi
    have hlt : i < ops.length := by simpa using (Array.getElem?_eq_some_iff.1 ho).1
    rw [getD_eq (by omega), h0 i hlt] at h1
    cases h1
  | succ fuel ih =>
    intro L listed a w hL hsz hun hcl hI
    refine ⟨fun hr => hQ _ _ _ hI (done listed hsz hr), fun i hi => ?_⟩
    rw [mem_ready] at hi
    obtain ⟨h1, o, ho, he⟩ := hi
    have ho : ops[i]? = some o := by simpa using ho
    have hlt : i < ops.length := (List.getElem?_eq_some_iff.1 ho).1
    rw [getD_eq (by omega)] at h1
    obtain ⟨c, hc, rfl⟩ := hall i hlt
    have hedge : ∀ e ∈ edgesL o.after.toList, listed.getD e false = true := by
      intro e hx
      obtain ⟨x, x1, x2, rfl⟩ := of_mem_edgesL hx
      exact he x (by simpa using x1) x2
    refine draw_step hE hBs hnd hrec huni hI hcl hc h1 (fun o' ho' => by rw [ho] at ho'; cases ho'; exact hedge) fun a' w' hI' => ?_
    have hset := addD_set (l := listed) (i := c.i) (by omega)
    refine ih (L.erase c.i) _ a' w' ?_ (by simpa using hsz) ?_ ?_ (by rw [hset]; exact hI')
    · rw [List.length_erase_of_mem (hun c.i hlt h1)]; omega
    · intro j hj hjl
      have hne : j ≠ c.i := by
        intro e; subst e
        have h2 := (congrFun hset c.i).symm.trans hjl
        have h3 := (addD_iff (D := fun k => listed.getD k false) (i := c.i) (k := c.i)).2 (.inl rfl)
        rw [h2] at h3
        cases h3
      have : listed.getD j false = false := by
        rw [← getD_set_ne (i := c.i) false (Ne.symm hne)]; exact hjl
      exact (List.mem_erase_of_ne hne).2 (hun j hj this)
    · intro k o' ho' hk e hx
      have hk := (congrFun hset k).symm.trans hk
      refine (congrFun hset e).trans ?_
      rw [addD_iff] at hk ⊢
      rcases hk with rfl | hk
      · rw [ho] at ho'; cases ho'
        exact .inr (hedge e hx)
      · exact .inr (hcl k o' ho' hk e hx)

def finF : List RC → List (Nat × MV) → List (Nat × MV)
  | [], F => F
  | c :: r, F => match c.d with
    | none => finF r F
    | some d => match noGd c.m with
      | true => (d, c.m) :: finF r F
      | false => finF r F

theorem look_finF : ∀ {l : List RC} {F : List (Nat × MV)} {s : Nat} {m : MV}, look (finF l F) s = some m → (∃ c ∈ l, c.d = some s ∧ c.m = m ∧ noGd m = true) ∨ look F s = some m
  | [], F, s, m, h => .inr h
  | c :: r, F, s, m, h => by
    have up : (∃ c ∈ r, c.d = some s ∧ c.m = m ∧ noGd m = true) ∨ look F s = some m → (∃ x ∈ c :: r, x.d = some s ∧ x.m = m ∧ noGd m = true) ∨ look F s = some m := by
      rintro (⟨x, hx, e⟩ | e)
      · exact .inl ⟨x, List.mem_cons_of_mem _ hx, e⟩
      · exact .inr e
    unfold finF at h
    split at h
    · exact up (look_finF h)
    · rename_i d hd
      split at h
      · rename_i hn
        simp only [look] at h
        split at h
        · rename_i hb
          have := Nat.eq_of_beq_eq_true hb
          subst this
          cases h
          exact .inl ⟨c, List.mem_cons_self, hd, rfl, hn⟩
        · exact up (look_finF h)
      · exact up (look_finF h)

def forceB {α : Type} : List (List α) → (List (List α) → Prop) → Prop
  | [], k => k []
  | x :: r, k => one x fun x' => forceB r fun r' => k (x' :: r')
where
  one : List α → (List α → Prop) → Prop
  | [], k => k []
  | x :: r, k => one r fun r' => k (x :: r')
theorem forceB_one {α : Type} : ∀ {l : List α} {k : List α → Prop}, forceB.one l k → k l
  | [], k, h => h
  | x :: r, k, h => forceB_one (l := r) h
theorem forceB_eq {α : Type} : ∀ {l : List (List α)} {k : List (List α) → Prop}, forceB l k → k l
  | [], k, h => h
  | x :: r, k, h => forceB_eq (l := r) (forceB_one (l := x) h)

/-- A region whose order is drawn, with operations that leave the state alone. -/
def drawR (E : Env) (n : Nat) (ops : List Oper) (S : St) (K : St → Prop) : Prop := match allB ops [] with
  | none => False
  | some Bs => forceB Bs fun Bs => forceF (writers ops 0) fun ws => match nodupW ws with
    | false => False
    | true => match S with
      | ⟨F0, stk, H, nx⟩ => drawOps E n ops Bs ws F0 stk H nx 0 ops [] fun recs => forceF (finF recs (f0F (fun _ => true) ws F0)) fun F' => K ⟨F', stk, H, nx⟩

theorem drawR_sound (hE : EnvAll E) (hm : E.P.follows .mixedOrders = true) {id : Nat} {ops : Array Oper} {S : St} {K : Ex → St → Prop} (h : drawR E n ops.toList S (K .normal)) : CodeOK E.P cx n (.region id ops true) S K := by
  intro su a w ⟨ρ, hsat⟩
  refine wp_region_any hm ?_
  unfold drawR at h
  split at h
  · exact h.elim
  rename_i Bs hBs
  have h := forceF_eq (forceB_eq h)
  split at h
  · exact h.elim
  rename_i hnd
  obtain ⟨F0, stk, H, nx⟩ := S
  dsimp only at h
  obtain ⟨recs, hK, hrec, hall, huni⟩ := drawOps_spec h (fun k o hk => by simpa using hk) (by simp) (by simp) (by simp) (by simp)
  have hall : ∀ i, i < ops.toList.length → ∃ c ∈ recs, c.i = i := fun i hi => hall i (by omega)
  have hK := forceF_eq hK
  have hops : ops = ops.toList.toArray := by simp
  rw [hops]
  refine draw_all (cx := cx) (su := su) hE hBs hnd hrec hall huni ?_ _ (List.range ops.toList.length) _ a _ (by simp) (by simp) (fun i hi _ => List.mem_range.2 hi) ?_ ?_
  · rintro D a' w' ⟨ρ', hS, hH, hT⟩ hD
    refine ⟨.normal, _, trivial, hK, ρ', hS.W, ⟨hS.F.defers, hS.F.size, ?_⟩, hS.K⟩
    intro s m hs
    rcases look_finF hs with ⟨c, hc, hd, rfl, hn⟩ | hs
    · have hlt : c.i < ops.toList.length := by
        obtain ⟨o, ho, _⟩ := hrec c hc
        exact (List.getElem?_eq_some_iff.1 ho).1
      obtain ⟨v, hv, r⟩ := hH c hc (hD _ hlt) s hd
      exact ⟨v, hv, noGd_spec hn r⟩
    · rw [look_f0F] at hs
      split at hs
      · cases hs
      · rename_i hno
        refine hS.F.frame s m ?_
        dsimp only
        rw [look_f0F, if_neg]
        · exact hs
        · rintro ⟨i, q1, _⟩
          exact hno ⟨i, q1, rfl⟩
  · intro k o ho hk
    simp [Array.getD_eq_getD_getElem?, Array.getElem?_replicate] at hk
    split at hk <;> simp at hk
  · have hz : ∀ i, (Array.replicate ops.toList.toArray.size false).getD i false = false := by
      intro i
      simp only [Array.getD_eq_getD_getElem?, Array.getElem?_replicate]
      split <;> rfl
    have h2 := hsat.drawn (w.drawn + 1)
    refine ⟨ρ, h2.setF ?_, ?_, ?_⟩
    · intro s m hs
      rw [look_f0F] at hs
      split at hs
      · cases hs
      · exact h2.F.frame s m hs
    · intro c _ hc
      dsimp only at hc
      rw [hz] at hc; cases hc
    · intro c _ hc
      dsimp only at hc
      rw [hz] at hc; cases hc
end
end Go.Ev

namespace Go.Ev

/-! ## A list of nothing as the first state of one that grows -/

theorem Sat.phan {cx : Cx} {su : Sus} {n : Nat} {F : List (Nat × MV)} {stk : List (List (Nat × MV))} {H : List (Nat × Blk)} {nx : Nat} {a : Act} {w : World} (h : Sat cx su n G0 ⟨F, stk, H, nx⟩ a w) (sz : Nat) (g : Nat → List MV) :
    Sat cx su n G0 ⟨F, stk, (nx, .rows sz 0 g) :: H, nx + 1⟩ a w := by
  obtain ⟨ρ, hs⟩ := h
  refine ⟨ρ, ⟨hs.W.below, hs.W.inj, hs.W.rng, fun id blk hl => ?_, fun i hi => hs.W.nx i (by dsimp only at hi ⊢; omega), fun id blk hl => ?_, hs.W.okA⟩, hs.F, hs.K⟩
  · dsimp only at hl ⊢
    simp only [look] at hl
    split at hl
    · rename_i e
      have := Nat.eq_of_beq_eq_true e
      omega
    · have := hs.W.hlt id blk hl
      dsimp only at this
      omega
  · dsimp only at hl
    simp only [look] at hl
    split at hl
    · rename_i e
      have := Nat.eq_of_beq_eq_true e
      subst this
      cases hl
      exact .inl ⟨rfl, hs.W.nx _ (Nat.le_refl _)⟩
    · exact hs.W.blocks id blk hl

def phanS (sz : Nat) : St → St
  | ⟨F, stk, H, nx⟩ => ⟨F, stk, (nx, .rows sz 0 fun _ => []) :: H, nx + 1⟩

theorem rest_phan {E : Env} {cx : Cx} {n : Nat} {c : Code} {S : St} {K : Ex → St → Prop} (sz : Nat) (h : Rest (CodeOK E.P cx n c (phanS sz S) K)) : Rest (CodeOK E.P cx n c S K) :=
  ⟨fun su a w hs => by
    obtain ⟨F, stk, H, nx⟩ := S
    exact h.ok su a w (hs.phan sz _)⟩

/-! ## What is yielded: one list of memory of its own -/

def fin1 (id : Nat) : MV → MV → Prop
  | .os i s lo n, m => match Nat.beq i id with
    | true => match m with
      | .os 0 s' lo' n' => Side (s = s' ∧ lo = lo' ∧ n = n')
      | .und => True
      | _ => False
    | false => match m with
      | .und => True
      | _ => False
  | .nils, .os 0 _ _ n => Side (n = 0)
  | .nils, .nils => True
  | .nilp, .nilp => True
  | .lb x, .b y => Side (x = y)
  | .b x, .b y => Side (x = y)
  | .i k n, .i k' n' => Side (k = k' ∧ n = n')
  | .f k x, .f k' y => Side (k = k' ∧ x = y)
  | _, .und => True
  | _, _ => False
def finL (id : Nat) : List MV → List MV → Prop
  | [], [] => True
  | x :: r, y :: s => fin1 id x y ∧ finL id r s
  | _, _ => False
def finM (id : Nat) : MV → MV → Prop
  | .tup l, .tup l' => finL id l l'
  | a, b => fin1 id a b

theorem fin1_rep {id : Nat} {m m' : MV} (h : fin1 id m m') {w : World} {ρ ρ' : RhoT} {ok ok' : OkT} (hρ : ρ' 0 = ρ id) {v : Value} (r : Rep w G0 ρ ok m v) : Rep w G0 ρ' ok' m' v := by
  unfold fin1 at h
  split at h
  · split at h
    · rename_i e
      have := Nat.eq_of_beq_eq_true e
      subst this
      split at h
      · obtain ⟨rfl, rfl, rfl⟩ := h.h
        cases r with
        | os id sz lo n blk cap off c T h1 h2 h3 h4 h5 => exact .os _ _ _ _ _ _ _ _ _ (hρ.trans h1) h2 h3 h4 h5
        | osnil => exact .osnil _ _ _
      · exact .und _
      · exact h.elim
    · split at h
      · exact .und _
      · exact h.elim
  · have := h.h; subst this; cases r; exact .osnil _ _ _
  · cases r; exact .nils
  · cases r; exact .nilp
  · have := h.h; subst this; cases r; exact .b _
  · have := h.h; subst this; cases r; exact .b _
  · obtain ⟨rfl, rfl⟩ := h.h; cases r; exact .i _ _
  · obtain ⟨rfl, rfl⟩ := h.h; cases r with | f _ _ _ h => exact .f _ _ _ h
  · exact .und _
  · exact h.elim

theorem finL_spec {id : Nat} : ∀ {l l' : List MV}, finL id l l' → l.length = l'.length ∧ ∀ j, j < l.length → fin1 id (getM l j) (getM l' j)
  | [], [], _ => ⟨rfl, fun j hj => by simp at hj⟩
  | x :: r, y :: s, h => by
    obtain ⟨h1, h2⟩ := finL_spec h.2
    refine ⟨by simp [h1], fun j hj => ?_⟩
    cases j with
    | zero => simpa [getM] using h.1
    | succ j => simpa [getM] using h2 j (by simpa using hj)
  | [], _ :: _, h => h.elim
  | _ :: _, [], h => h.elim

theorem finM_rep {id : Nat} {m m' : MV} (h : finM id m m') {w : World} {ρ ρ' : RhoT} {ok ok' : OkT} (hρ : ρ' 0 = ρ id) {v : Value} (r : Rep w G0 ρ ok m v) : Rep w G0 ρ' ok' m' v := by
  unfold finM at h
  split at h
  · obtain ⟨h1, h2⟩ := finL_spec h
    cases r with
    | tup _ vs hl hr => exact .tup _ _ (h1.symm.trans hl) fun j hj => fin1_rep (h2 j (by omega)) hρ (hr j (by omega))
  · exact fin1_rep h hρ r

/-- The block that is yielded stands at 'id'. -/
theorem FinS.rows {S : St} {m0 m : MV} {sz n : Nat} {g : Nat → List MV} (id : Nat) (hb : match look S.H id with
      | some (.rows s' n' g') => Side (s' = sz ∧ n' = n ∧ ∀ i, i < n → ∀ j, j < sz → getM (g' i) j = getM (g i) j)
      | _ => False) (hm : finM id m0 m) : FinS S m0 m [.rows sz n g] := by
  split at hb
  · rename_i s' n' g' hl
    obtain ⟨rfl, rfl, hg⟩ := hb.h
    refine ⟨fun cx ρ w v hW r => ⟨fun i => match i with | 0 => ρ id | _ + 1 => none, ⟨hW.below, ?_, ?_, ?_, ?_, ?_, hW.okA⟩, finM_rep hm rfl r⟩⟩
    · intro i j b h1 h2
      cases i <;> cases j <;> simp_all
    · intro i b h
      cases i with
      | zero => exact hW.rng id b h
      | succ i => cases h
    · intro i blk h
      simp only [idxH, look] at h
      split at h
      · rename_i e; have := Nat.eq_of_beq_eq_true e; subst this; simp
      · cases h
    · intro i hi
      cases i with
      | zero => simp at hi
      | succ i => rfl
    · intro i blk h
      simp only [idxH, look] at h
      split at h
      · rename_i e
        have := Nat.eq_of_beq_eq_true e
        subst this
        cases h
        rcases hW.blocks id _ hl with ⟨h1, h2⟩ | ⟨b, c, T, h1, h2, h3, h5, h4⟩
        · exact .inl ⟨h1, h2⟩
        · refine .inr ⟨b, c, T, h1, h2, h3, h5, fun i hi j hj => ?_⟩
          rw [← hg i hi j hj]
          refine (h4 i hi j hj).mono (Keeps.refl w) (fun _ _ _ e => e) (fun _ _ e => e) fun b hb => ⟨?_, rfl⟩
          rcases hb with hb | hb
          · exact .inl hb
          · refine .inr ⟨hb.1, hb.2.1, fun i hi => ?_⟩
            cases i with
            | zero => exact hb.2.2 id hi
            | succ i => cases hi
      · cases h
  · exact hb.elim

/-- Nothing is yielded where a list might be. -/
theorem FinS.rows0 {S : St} {m0 m : MV} {sz n : Nat} {g : Nat → List MV} (hn : Side (n = 0)) (hm : finM S.nx m0 m) : FinS S m0 m [.rows sz n g] := by
  have := hn.h
  subst this
  refine ⟨fun cx ρ w v hW r => ⟨rho0, ⟨hW.below, fun i j b h => (by cases h), fun i b h => (by cases h), fun i blk h => ?_, fun i _ => rfl, fun i blk h => ?_, hW.okA⟩, finM_rep hm (hW.nx _ (Nat.le_refl _)).symm r⟩⟩
  · simp only [idxH, look] at h
    split at h
    · rename_i e; have := Nat.eq_of_beq_eq_true e; subst this; simp
    · cases h
  · simp only [idxH, look] at h
    split at h
    · rename_i e; have := Nat.eq_of_beq_eq_true e; subst this
      cases h
      exact .inl ⟨rfl, rfl⟩
    · cases h

theorem FinS.tup {S : St} {l l' : List MV} (h : finL S.nx l l') : FinS S (.tup l) (.tup l') [] where
  ok cx ρ w v hW r := ⟨rho0, ⟨hW.below, fun i j b h => (by cases h), fun i b h => (by cases h), fun i blk h => (by simp [idxH, look] at h), fun i _ => rfl, fun i blk h => by simp [idxH, look] at h, hW.okA⟩,
    finM_rep (id := S.nx) (m := .tup l) (m' := .tup l') h (hW.nx _ (Nat.le_refl _)).symm r⟩
end Go.Ev

namespace Go.Ev
open Go.ChangeShapes Go.WideShapes Go.ChangeAt Go.RowKit

/-! ## From a contract of a law to what is asked of it -/

theorem trodAll_below {H : Type} {enc : TypeId × Value → H} {P : Program} (hl : laidOutB P = true) {W W' : World} (hb : Below W.heap.size W W') : ∀ {ts : List TypeId} {vs : List Value} {ds : List (DataW H)} {ps : List MemPlace},
    ts.all (fun t => P.readableRec t && decide (t < P.types.size)) = true → DataW.TrodAll enc P W 0 (fun _ => true) true ts vs ds ps → (∀ x ∈ ps, x.block < W.heap.size) →
    DataW.TrodAll enc P W' 0 (fun b => decide (b < W.heap.size)) true ts vs ds ps
  | [], vs, ds, ps, _, h, _ => by
    obtain ⟨rfl, rfl, rfl⟩ := trodAll_nil h
    exact trodAll_mk0
  | t :: ts, vs, ds, ps, hr, h, hlt => by
    obtain ⟨v, vs', d, ds', p, q, rfl, rfl, rfl, h1, h2⟩ := trodAll_cons h
    simp only [List.all_cons, Bool.and_eq_true, decide_eq_true_eq] at hr
    refine trodAll_cons_mk (Below.trod hl hr.1.1 hr.1.2 h1 hb fun x hx => hlt x (List.mem_append_left _ hx)) (trodAll_below hl hb ?_ h2 fun x hx => hlt x (List.mem_append_right _ hx))
    exact hr.2

theorem law_handed {C : Checked} {os : Os} {f : FuncId} {fn : Func} {s : ChangeSpec} {conds : List PathCond} {apart : Bool} {a : Assume} {H : Type} {enc : TypeId × Value → H} {tb : TypeId} (hl : laidOutB C.prog = true)
    (own : ownKnob C.prog.godebug = none) (started : os.Started) (noInit : C.prog.inits.idxOf? f = none) (hfn : C.prog.funcs[f]? = some fn)
    (hread : fn.params.toList.all (fun t => C.prog.readableRec t && decide (t < C.prog.types.size)) = true)
    (witness : ∃ (w : World) (tape : Tape) (i : Input), w.os = os ∧ (w.forCall tape i).Shaped C.prog ∧ i.vars = [] ∧ Input.okWide C.prog (w.forCall tape i) .any w.heap.size f i ∧
      s.pre6 enc C.prog fn conds apart (w.forCall tape i).memory i.args ∧ a.holds C.prog (lone (Frame.enter C.prog f i.args .normal) [] (w.forCall tape i)))
    (hvars : s.vars = []) (hres : fn.resultTypes = #[tb]) (htb : C.prog.underlying tb = some .bool)
    (hs : ∀ ds : List (DataW H), ds.length = fn.params.toList.length → (s.fn H ds).results = [.lit (.bool true)] ∧ (s.fn H ds).args = ds ∧ (s.fn H ds).vars = [])
    (h : ∀ (W : World) (args : Array Value) (ds : List (DataW H)) (ps : List MemPlace), (∀ (j : Nat) t v, fn.params[j]? = some t → args[j]? = some v → Value.okWide C.prog W .any W.heap.size t v) →
      DataW.TrodAll enc C.prog W 0 (fun _ => true) true fn.params.toList args.toList ds ps → (∀ x ∈ ps, x.block < W.heap.size) →
      (DataW.weightsEach C.prog fn.params.toList ds).all (· ≤ reachBytes) = true →
      Calls C.prog f args W fun e W' => e = .returned (.bool true) ∧ Below W.heap.size W W') :
    ReturnsInHanded a C os f .any (s.pre6 enc C.prog fn conds apart) (s.post enc C.prog fn apart true false false) := by
  refine returnsInHanded_of_calls own started noInit witness ?_
  intro w tape i _ _ _ hok hpre hholds
  obtain ⟨_, _, _, fn', hfn', _, _, _, _, hval⟩ := hok
  have e : fn' = fn := Option.some.inj (hfn'.symm.trans hfn)
  subst e
  obtain ⟨⟨ds, gs, before, hw, hc⟩, hz⟩ := hpre
  have hwt := hz.weights hw
  have hw' := DataW.Whole.of_heap (w' := w.forCall tape i) (by rfl) hw
  have hlt := hw'.lt
  have hW := hw'
  obtain ⟨p, q, hA, hV, rfl, hfz, hnd⟩ := hW
  rw [hvars] at hV
  obtain ⟨rfl, rfl⟩ := trodVars_none hV
  have len : ∀ {ts : List TypeId} {vs : List Value} {ds : List (DataW H)} {ps : List MemPlace}, DataW.TrodAll enc C.prog (w.forCall tape i) 0 (fun _ => true) true ts vs ds ps → ds.length = ts.length := by
    intro ts
    induction ts with
    | nil => intro vs ds ps h; obtain ⟨_, rfl, _⟩ := trodAll_nil h; rfl
    | cons t ts ih =>
      intro vs ds ps h
      obtain ⟨v, vs', d, ds', p, q, rfl, rfl, rfl, h1, h2⟩ := trodAll_cons h
      simp [ih h2]
  have hlen := len hA
  obtain ⟨s1, s2, s3⟩ := hs ds hlen
  have hwt' : (DataW.weightsEach C.prog fn'.params.toList ds).all (· ≤ reachBytes) = true := by
    have : s.plain.varTypes C.prog = [] := by
      unfold DataSpec.varTypes ChangeSpec.plain
      simp [hvars]
    have e2 : (OpenSpec.ofChange s).bare.plain.varTypes C.prog = s.plain.varTypes C.prog := rfl
    rw [e2, this, List.append_nil, List.append_nil] at hwt
    exact hwt
  refine (h (w.forCall tape i) i.args ds p (fun j t v h1 h2 => Value.okWide_any_base (hval j t v h1 h2)) hA (fun x hx => hlt x (by simp [hx])) hwt').mono fun e W' ⟨he, hb⟩ => ?_
  subst he
  refine ChangeSpec.post_blind ⟨ds, [], _, [], p, [], hw', ?_, ?_, ?_, hb.frame _, fun h => by cases h⟩
  · rw [List.append_nil, s1, hres]
    exact trodAll_mk1 (shut_bool htb true)
  · rw [List.append_nil, s2]
    exact trodAll_below hl hb hread hA fun x hx => hlt x (by simp [hx])
  · rw [List.append_nil, s3, hvars]
    rfl
end Go.Ev

namespace Go.Ev
open Go.ChangeShapes Go.WideShapes Go.ChangeAt Go.RowKit

/-! ## Plain cells: whole numbers, floats, bools -/

inductive CK where
  | i (k : IntKind)
  | f (k : FloatKind)
  | b

def intOf : Value → Int
  | .int _ n => n
  | _ => 0
def fltOf : Value → Nat
  | .float _ n => n
  | _ => 0
def boolOf : Value → Bool
  | .bool b => b
  | _ => false

def mkM : CK → Value → MV
  | .i k, v => .i k (intOf v)
  | .f k, v => .f k (canon k (fltOf v))
  | .b, v => .b (boolOf v)

def CKok : CK → Value → Prop
  | .i k, v => v = .int k (intOf v) ∧ (Lit.int k (intOf v)).wf = true
  | .f k, v => v = .float k (fltOf v) ∧ fltOf v < 2 ^ k.format.width
  | .b, v => v = .bool (boolOf v)

theorem mkM_rep {k : CK} {v : Value} (h : CKok k v) {w : World} {G : GT} {ρ : RhoT} {ok : OkT} : Rep w G ρ ok (mkM k v) v := by
  cases k with
  | i k => obtain ⟨h, _⟩ := h; show Rep w G ρ ok (.i k (intOf v)) v; rw [h]; exact .i _ _
  | f k =>
    obtain ⟨h, hb⟩ := h
    show Rep w G ρ ok (.f k (canon k (fltOf v))) v
    generalize hx : fltOf v = x at h hb ⊢
    subst h
    exact .f _ _ _ (canon_FR k x hb)
  | b => show Rep w G ρ ok (.b (boolOf v)) v; rw [show v = .bool (boolOf v) from h]; exact .b _

theorem CKok.one {k : CK} {v : Value} (h : CKok k v) : v.oneCell' = true := by
  cases k with
  | i k => rw [h.1]; rfl
  | f k => rw [h.1]; rfl
  | b => rw [show v = .bool (boolOf v) from h]; rfl

def mkRow : List CK → Nat → (Nat → Value) → List MV
  | [], _, _ => []
  | k :: r, j, u => mkM k (u j) :: mkRow r (j + 1) u

theorem mkRow_get : ∀ {l : List CK} {j i : Nat} {u : Nat → Value} {k : CK}, l[i]? = some k → getM (mkRow l j u) i = mkM k (u (j + i))
  | [], j, i, u, k, h => by simp at h
  | x :: r, j, 0, u, k, h => by simp at h; subst h; simp [mkRow, getM]
  | x :: r, j, i + 1, u, k, h => by
    have := mkRow_get (l := r) (j := j + 1) (i := i) (u := u) (by simpa using h)
    rw [show j + (i + 1) = j + 1 + i by omega, ← this]
    simp [mkRow, getM]
theorem mkRow_len : ∀ {l : List CK} {j : Nat} {u : Nat → Value}, (mkRow l j u).length = l.length
  | [], j, u => rfl
  | x :: r, j, u => by simp [mkRow, @mkRow_len r]

def kindsF (P : Program) (kT : TypeId → Option (List CK)) (sz : Nat) : List Field → List CK → Option (List CK)
  | [], acc => match Nat.beq acc.length sz with
    | true => some acc
    | false => none
  | f :: r, acc => match Nat.beq f.offset acc.length with
    | false => none
    | true => match kT f.type with
      | none => none
      | some l => match Nat.beq l.length (P.cellsOf f.type) with
        | false => none
        | true => kindsF P kT sz r (acc ++ l)

/-- The cells of a plain type, if it is one. -/
def kindsT (P : Program) : Nat → TypeId → Option (List CK)
  | 0, _ => none
  | m + 1, t => match P.underlying t with
    | some (.int k) => some [.i k]
    | some (.float k) => some [.f k]
    | some .bool => some [.b]
    | some (.struct fs) => kindsF P (kindsT P m) (P.cellsOf t) fs.toList []
    | some (.array n e) => match kindsT P m e with
      | none => none
      | some l => match Nat.beq l.length (P.cellsOf e) && Nat.beq (n * P.cellsOf e) (P.cellsOf t) with
        | true => some (List.replicate n l).flatten
        | false => none
    | _ => none

def AllCK (l : List CK) (cs : List Value) : Prop := cs.length = l.length ∧ ∀ (j : Nat) (k : CK) (v : Value), l[j]? = some k → cs[j]? = some v → CKok k v

theorem AllCK.app {l l' : List CK} {cs : List Value} (hlen : cs.length = l.length + l'.length) (h1 : AllCK l (cs.take l.length)) (h2 : AllCK l' (cs.drop l.length)) : AllCK (l ++ l') cs := by
  refine ⟨by simp [hlen], fun j k v hk hv => ?_⟩
  rcases Nat.lt_or_ge j l.length with h | h
  · rw [List.getElem?_append_left h] at hk
    exact h1.2 j k v hk (by rw [List.getElem?_take, if_pos h]; exact hv)
  · rw [List.getElem?_append_right h] at hk
    exact h2.2 (j - l.length) k v hk (by rw [List.getElem?_drop, show l.length + (j - l.length) = j by omega]; exact hv)

section
variable {H : Type} {enc : TypeId × Value → H} {P : Program} {w : World} {base : Nat} {spare : Nat → Bool} {held : Bool}

theorem trod_float {t : TypeId} {k : FloatKind} {fuel : Nat} {cs : List Value} {x : DataW H × List MemPlace} (ht : P.underlying t = some (.float k)) (h : DataW.trod enc P w base spare held fuel t cs = some x) :
    ∃ b, cs = [.float k b] ∧ (Lit.float k b).wf = true := by
  cases fuel with
  | zero => simp [DataW.trod] at h
  | succ n =>
    unfold DataW.trod at h
    rw [ht] at h
    split at h <;> simp_all

theorem trod_plain : ∀ {m : Nat} {t : TypeId} {ks : List CK}, kindsT P m t = some ks → ∀ {fuel : Nat} {cs : List Value} {x : DataW H × List MemPlace}, DataW.trod enc P w base spare held fuel t cs = some x → AllCK ks cs
  | 0, t, ks, hk, _, _, _, _ => by simp [kindsT] at hk
  | m + 1, t, ks, hk, fuel, cs, x, h => by
    unfold kindsT at hk
    split at hk
    · rename_i k ht
      cases hk
      obtain ⟨n, rfl, _, hw⟩ := DataW.trod_int ht h
      refine ⟨rfl, fun j k' v h1 h2 => ?_⟩
      cases j with
      | zero => simp at h1 h2; subst h1; subst h2; exact ⟨rfl, hw⟩
      | succ j => simp at h1
    · rename_i k ht
      cases hk
      obtain ⟨n, rfl, hw⟩ := trod_float ht h
      refine ⟨rfl, fun j k' v h1 h2 => ?_⟩
      cases j with
      | zero =>
        simp at h1 h2; subst h1; subst h2
        refine ⟨rfl, ?_⟩
        show n < _
        cases k <;> exact of_decide_eq_true hw
      | succ j => simp at h1
    · rename_i ht
      cases hk
      obtain ⟨n, rfl, _⟩ := DataW.trod_bool ht h
      refine ⟨rfl, fun j k' v h1 h2 => ?_⟩
      cases j with
      | zero => simp at h1 h2; subst h1; subst h2; rfl
      | succ j => simp at h1
    · rename_i fs ht
      obtain ⟨xs, n, _, _, hl, _, hf⟩ := DataW.trod_struct ht h
      have key : ∀ (l : List Field) (acc : List CK), (∀ f ∈ l, ∃ y, DataW.trod enc P w base spare held n f.type ((cs.drop f.offset).take (P.cellsOf f.type)) = some y) → AllCK acc (cs.take acc.length) → acc.length ≤ cs.length → kindsF P (kindsT P m) (P.cellsOf t) l acc = some ks → AllCK ks cs := by
        intro l
        induction l with
        | nil =>
          intro acc _ ha hle hk
          unfold kindsF at hk
          split at hk
          · rename_i e
            cases hk
            have e := Nat.eq_of_beq_eq_true e
            rw [e, ← hl, List.take_length] at ha
            exact ha
          · cases hk
        | cons f r ih =>
          intro acc hall ha hle hk
          unfold kindsF at hk
          split at hk
          · cases hk
          · rename_i e
            have e := Nat.eq_of_beq_eq_true e
            split at hk
            · cases hk
            · rename_i l' hl'
              split at hk
              · cases hk
              · rename_i e2
                have e2 := Nat.eq_of_beq_eq_true e2
                obtain ⟨y, hy⟩ := hall f (by simp)
                have := trod_plain hl' hy
                have hlen := this.1
                rw [List.length_take, List.length_drop] at hlen
                have hle2 : acc.length + l'.length ≤ cs.length := by omega
                refine ih (acc ++ l') (fun g hg => hall g (by simp [hg])) ?_ (by simpa using hle2) hk
                rw [List.length_append]
                refine AllCK.app (by simp; omega) ?_ ?_
                · rw [List.take_take, show min acc.length (acc.length + l'.length) = acc.length by omega]; exact ha
                · rw [e, ← e2] at this
                  rw [List.drop_take, show acc.length + l'.length - acc.length = l'.length by omega]
                  exact this
      refine key fs.toList [] ?_ ⟨rfl, fun j k v h1 => by simp at h1⟩ (by simp) hk
      intro f hf'
      obtain ⟨i, hi⟩ := List.getElem?_of_mem hf'
      have hi' : fs[i]? = some f := by simpa using hi
      have := hf i f hi'
      have hlt : i < xs.length := by
        have h1 := (Array.getElem?_eq_some_iff.1 hi').1
        omega
      exact ⟨xs[i], by rw [this]; exact List.getElem?_eq_getElem hlt⟩
    · rename_i n e ht
      split at hk
      · cases hk
      · rename_i l hl
        split at hk
        · rename_i hb
          rw [Bool.and_eq_true] at hb
          have e1 := Nat.eq_of_beq_eq_true hb.1
          have e2 := Nat.eq_of_beq_eq_true hb.2
          cases hk
          obtain ⟨xs, fu, _, _, hlen, hxs, hf⟩ := DataW.trod_array ht h
          rw [← e2] at hlen
          have key : ∀ m, m ≤ n → AllCK (List.replicate m l).flatten (cs.take (m * l.length)) := by
            intro m
            induction m with
            | zero => intro _; exact ⟨by simp, fun j k v h1 => by simp at h1⟩
            | succ m ih =>
              intro hm
              have ih := ih (by omega)
              have hi := hf m (by omega)
              have hlt : m < xs.length := by omega
              rw [List.getElem?_eq_getElem hlt] at hi
              have := trod_plain hl hi
              have hfl : (List.replicate m l).flatten.length = m * l.length := by simp
              rw [List.replicate_succ', List.flatten_append, List.flatten_cons, List.flatten_nil, List.append_nil]
              have hmul : (m + 1) * l.length = m * l.length + l.length := Nat.succ_mul _ _
              have hle : (m + 1) * l.length ≤ cs.length := by rw [hlen, ← e1]; exact Nat.mul_le_mul_right _ hm
              refine AllCK.app (by rw [hfl, List.length_take]; omega) ?_ ?_
              · rw [hfl, List.take_take, show min (m * l.length) ((m + 1) * l.length) = m * l.length by omega]; exact ih
              · rw [hfl, List.drop_take, show (m + 1) * l.length - m * l.length = l.length by omega]
                rw [← e1] at this
                exact this
          have := key n (Nat.le_refl _)
          rw [show n * l.length = cs.length by rw [hlen, e1], List.take_length] at this
          exact this
        · cases hk
    · cases hk
end

section
variable {H : Type} {enc : TypeId × Value → H} {P : Program} {W : World}

theorem okWide_slice {t e : TypeId} {b0 : Nat} {v : Value} (ht : P.underlying t = some (.slice e)) (hval : Value.okWide P W .any b0 t v) : (v = .slice none 0 0) ∨ ∃ b off len cap, v = .slice (some ⟨b, off, none⟩) len cap := by
  have h1 : Cell.ok P W .any b0 t v := by
    unfold Value.okWide at hval
    rw [ht] at hval
    dsimp only at hval
    unfold Cell.okWide at hval
    rw [ht] at hval
    cases v <;> exact hval
  unfold Cell.ok at h1
  rw [ht] at h1
  split at h1
  all_goals first
    | exact h1.elim
    | (rename_i h2; cases h2; done)
    | exact .inl rfl
    | (rename_i a len cap h2; obtain ⟨_, _, _, hs, _⟩ := h1; obtain ⟨b, off, sp⟩ := a; dsimp only at hs; subst hs; exact .inr ⟨b, off, len, cap, rfl⟩)
    | trace_state

/-- A slice of plain things that is handed over. -/
theorem open_slice {t e : TypeId} {b0 : Nat} {v : Value} {d : DataW H} {ps : List MemPlace} {m : Nat} {ks : List CK} (ht : P.underlying t = some (.slice e)) (hk : kindsT P m e = some ks) (hks : ks.length = P.cellsOf e) (hpos : 0 < ks.length)
    (hval : Value.okWide P W .any b0 t v) (hd : DataW.Trod enc P W 0 (fun _ => true) true t v d ps) (hw : (DataW.weights P t d).all (· ≤ reachBytes) = true) :
    ∃ (n : Nat) (u : Nat → Nat → Value), (∀ i, i < n → ∀ j k, ks[j]? = some k → CKok k (u i j)) ∧ Rep W G0 rho0 (fun b => b < W.heap.size) (.ro ks.length n fun i => mkRow ks 0 (u i)) v ∧ n * P.bytesOf e ≤ reachBytes := by
  have hcell : v.cells.toList = [v] := by
    rcases okWide_slice ht hval with rfl | ⟨b, off, len, cap, rfl⟩ <;> rfl
  obtain ⟨fuel, hf⟩ := hd
  rw [hcell] at hf
  rcases DataW.trod_slice ht hf with ⟨h0, _⟩ | ⟨a, len, cap, elems, rest, n, _, h0, hx, hb, hl, hm, hlen, hel, hsp, hns⟩
  · simp at h0
    subst h0
    exact ⟨0, fun _ _ => undef, fun i hi => absurd hi (Nat.not_lt_zero _), .ronil _ _, by simp⟩
  · simp at h0
    subst h0
    rcases okWide_slice ht hval with e0 | ⟨b, off, len', cap', e0⟩
    · cases e0
    cases e0
    have each : ∀ i, i < len → ∃ cs, AllCK ks cs ∧ cs.length = ks.length ∧ ∀ j, j < ks.length → W.cell? ⟨b, off + (i * ks.length + j), none⟩ = cs[j]? := by
      intro i hi
      have h1 := hel i hi
      rw [List.getElem?_eq_getElem (by omega), Option.bind_eq_some_iff] at h1
      obtain ⟨cs, h1, h2⟩ := h1
      have h3 := trod_plain hk h2
      obtain ⟨_, h4, h5⟩ := World.cells?_some h1
      refine ⟨cs, h3, h3.1, fun j hj => ?_⟩
      have := h5 j (by omega)
      rw [add_plain, add_plain] at this
      rw [← this, hks, Nat.add_assoc]
    have hchoice : ∃ u : Nat → Nat → Value, ∀ i, i < len → ∀ j k, ks[j]? = some k → W.cell? ⟨b, off + (i * ks.length + j), none⟩ = some (u i j) ∧ CKok k (u i j) := by
      refine ⟨fun i j => (W.cell? ⟨b, off + (i * ks.length + j), none⟩).getD undef, fun i hi j k hk' => ?_⟩
      obtain ⟨cs, h1, h2, h3⟩ := each i hi
      have hj : j < ks.length := (List.getElem?_eq_some_iff.1 hk').1
      have h4 := h3 j hj
      have h5 : cs[j]? = some cs[j] := List.getElem?_eq_getElem (by omega)
      rw [h5] at h4
      dsimp only
      rw [h4]
      exact ⟨rfl, h1.2 j k _ hk' h5⟩
    obtain ⟨u, hu⟩ := hchoice
    refine ⟨len, u, fun i hi j k hk' => (hu i hi j k hk').2, ?_, ?_⟩
    · have at' : ∀ j, j < ks.length → ∃ k, ks[j]? = some k := fun j hj => ⟨ks[j], List.getElem?_eq_getElem hj⟩
      refine .ro _ _ _ b off cap u hl ?_ ?_ ?_ ?_
      · intro hp
        obtain ⟨k, hk'⟩ := at' 0 hpos
        have := (hu 0 hp 0 k hk').1
        unfold World.cell? at this
        by_cases hlt : b < W.heap.size
        · exact hlt
        · have : W.heap[b]? = none := by simp; omega
          simp_all
      · intro i hi j hj
        obtain ⟨k, hk'⟩ := at' j hj
        exact (hu i hi j k hk').1
      · intro i hi j hj
        obtain ⟨k, hk'⟩ := at' j hj
        exact (hu i hi j k hk').2.one
      · intro i hi j hj
        obtain ⟨k, hk'⟩ := at' j hj
        rw [mkRow_get hk', Nat.zero_add]
        exact mkM_rep (hu i hi j k hk').2
    · simp only [Prod.mk.injEq] at hx
      rw [hx.1] at hw
      unfold DataW.weights at hw
      rw [ht] at hw
      simp only [List.all_cons, Bool.and_eq_true, decide_eq_true_eq, List.length_map] at hw
      refine Nat.le_trans (Nat.mul_le_mul_right _ ?_) hw.1
      omega

/-- A plain thing that is handed over by itself: one cell. -/
theorem open_one {t : TypeId} {v : Value} {d : DataW H} {ps : List MemPlace} {m : Nat} {k : CK} (hk : kindsT P m t = some [k]) (hc : v.cells.toList = [v])
    (hd : DataW.Trod enc P W 0 (fun _ => true) true t v d ps) : CKok k v := by
  obtain ⟨fuel, hf⟩ := hd
  rw [hc] at hf
  exact (trod_plain hk hf).2 0 k v rfl rfl

/-- One of several cells. -/
theorem open_agg {t : TypeId} {v : Value} {d : DataW H} {ps : List MemPlace} {m : Nat} {ks : List CK} {cs : Array Value} (hk : kindsT P m t = some ks) (hv : v = .agg cs)
    (hd : DataW.Trod enc P W 0 (fun _ => true) true t v d ps) : (∀ j k, ks[j]? = some k → CKok k (cs.getD j undef)) ∧ Rep W G0 rho0 (fun b => b < W.heap.size) (.agg (mkRow ks 0 fun j => cs.getD j undef)) v := by
  subst hv
  obtain ⟨fuel, hf⟩ := hd
  have hcs : (Value.agg cs).cells.toList = cs.toList := rfl
  rw [hcs] at hf
  have h := trod_plain hk hf
  have hl : cs.size = ks.length := by simpa using h.1
  have h1 : ∀ j k, ks[j]? = some k → CKok k (cs.getD j undef) := by
    intro j k hk'
    have hj : j < ks.length := (List.getElem?_eq_some_iff.1 hk').1
    refine h.2 j k _ hk' ?_
    simp [Array.getD_eq_getD_getElem?, Array.getElem?_eq_getElem (show j < cs.size by omega)]
  refine ⟨h1, .agg _ _ (by rw [mkRow_len, hl]) fun j hj => ?_⟩
  rw [mkRow_len] at hj
  rw [mkRow_get (List.getElem?_eq_getElem hj), Nat.zero_add]
  exact mkM_rep (h1 j _ (List.getElem?_eq_getElem hj))
end
end Go.Ev
