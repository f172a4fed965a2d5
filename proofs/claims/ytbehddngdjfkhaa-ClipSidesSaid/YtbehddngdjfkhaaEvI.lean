/-
  Floats up to the bits of what is no number, model values, states, and the operations that leave the state alone, for every program; no condition.
-/
import Derived.OwnWalk
import Derived.WalkLawsBesides
import Derived.Laws.FloatBits
import Derived.Laws.FloatArith
import Derived.Below
set_option linter.unusedSimpArgs false
set_option linter.unusedVariables false
namespace Go.Ev
/-! ## Floats up to the bits of what is no number -/
def isNan (k : FloatKind) (b : Nat) : Bool := (k.format.read b).isNaN
def qnan : FloatKind → Nat
  | .f32 => 2143289344
  | .f64 => 9221120237041090560
def canon (k : FloatKind) (b : Nat) : Nat := bif isNan k b then qnan k else b
structure FR (k : FloatKind) (r x : Nat) : Prop where
  eq : canon k r = x
  lt : r < 2 ^ k.format.width
theorem isNan_qnan (k : FloatKind) : isNan k (qnan k) = true := by cases k <;> decide
theorem canon_of_nan {k : FloatKind} {b : Nat} (h : isNan k b = true) : canon k b = qnan k := by simp [canon, h]
theorem canon_of_not {k : FloatKind} {b : Nat} (h : isNan k b = false) : canon k b = b := by simp [canon, h]
theorem isNan_canon (k : FloatKind) (b : Nat) : isNan k (canon k b) = isNan k b := by
  cases h : isNan k b
  · rw [canon_of_not h, h]
  · rw [canon_of_nan h, isNan_qnan]
theorem canon_canon (k : FloatKind) (b : Nat) : canon k (canon k b) = canon k b := by
  cases h : isNan k b
  · rw [canon_of_not h, canon_of_not h]
  · rw [canon_of_nan h, canon_of_nan (isNan_qnan k)]
theorem read_nan {k : FloatKind} {b : Nat} (h : isNan k b = true) : ∃ s t, k.format.read b = .nan s t := by
  unfold isNan Ieee.Datum.isNaN at h
  cases hd : k.format.read b <;> simp [hd] at h
  exact ⟨_, _, rfl⟩
def fadd (k : FloatKind) (x y : Nat) : Nat := (k.format.add x y).getD (qnan k)
def fsub (k : FloatKind) (x y : Nat) : Nat := (k.format.sub x y).getD (qnan k)
def fmul (k : FloatKind) (x y : Nat) : Nat := (k.format.mul x y).getD (qnan k)
def fdiv (k : FloatKind) (x y : Nat) : Nat := (k.format.div x y).getD (qnan k)
def fsqrt (x : Nat) : Nat := (FloatKind.f64.format.sqrt x).getD (qnan .f64)
def feq (k : FloatKind) (x y : Nat) : Bool := k.format.order x y == some .eq
def flt (k : FloatKind) (x y : Nat) : Bool := k.format.order x y == some .lt
def fle (k : FloatKind) (x y : Nat) : Bool := k.format.order x y == some .lt || k.format.order x y == some .eq
def fgt (k : FloatKind) (x y : Nat) : Bool := k.format.order x y == some .gt
def fge (k : FloatKind) (x y : Nat) : Bool := k.format.order x y == some .gt || k.format.order x y == some .eq
def fneg (k : FloatKind) (x : Nat) : Nat := canon k (Op.negFloat k x)
theorem add_nan_left {f : Ieee.Format} {x y : Nat} {s t} (h : f.read x = .nan s t) : f.add x y = none := by
  simp [Ieee.Format.add, h, Ieee.Datum.sum]
theorem add_nan_right {f : Ieee.Format} {x y : Nat} {s t} (h : f.read y = .nan s t) : f.add x y = none := by
  cases hx : f.read x <;> simp [Ieee.Format.add, h, hx, Ieee.Datum.sum]
theorem sub_nan_left {f : Ieee.Format} {x y : Nat} {s t} (h : f.read x = .nan s t) : f.sub x y = none := by
  simp [Ieee.Format.sub, h, Ieee.Datum.sum]
theorem sub_nan_right {f : Ieee.Format} {x y : Nat} {s t} (h : f.read y = .nan s t) : f.sub x y = none := by
  cases hx : f.read x <;> simp [Ieee.Format.sub, h, hx, Ieee.Datum.sum, Ieee.Datum.opposite]
theorem mul_nan_left {f : Ieee.Format} {x y : Nat} {s t} (h : f.read x = .nan s t) : f.mul x y = none := by
  simp [Ieee.Format.mul, h, Ieee.Datum.product]
theorem mul_nan_right {f : Ieee.Format} {x y : Nat} {s t} (h : f.read y = .nan s t) : f.mul x y = none := by
  cases hx : f.read x <;> simp [Ieee.Format.mul, h, hx, Ieee.Datum.product]
theorem div_nan_left {f : Ieee.Format} {x y : Nat} {s t} (h : f.read x = .nan s t) : f.div x y = none := by
  simp [Ieee.Format.div, h, Ieee.Datum.quotient]
theorem div_nan_right {f : Ieee.Format} {x y : Nat} {s t} (h : f.read y = .nan s t) : f.div x y = none := by
  cases hx : f.read x <;> simp [Ieee.Format.div, h, hx, Ieee.Datum.quotient]
theorem order_nan_left {f : Ieee.Format} {x y : Nat} {s t} (h : f.read x = .nan s t) : f.order x y = none := by
  simp [Ieee.Format.order, h, Ieee.Datum.order]
theorem order_nan_right {f : Ieee.Format} {x y : Nat} {s t} (h : f.read y = .nan s t) : f.order x y = none := by
  cases hx : f.read x <;> simp [Ieee.Format.order, h, hx, Ieee.Datum.order]
theorem two_canon {α : Type} (k : FloatKind) (g : Nat → Nat → Option α)
    (hl : ∀ x y s t, k.format.read x = .nan s t → g x y = none) (hr : ∀ x y s t, k.format.read y = .nan s t → g x y = none)
    (a b : Nat) : g a b = g (canon k a) (canon k b) := by
  cases ha : isNan k a
  · cases hb : isNan k b
    · rw [canon_of_not ha, canon_of_not hb]
    · obtain ⟨s, t, h⟩ := read_nan hb
      obtain ⟨s', t', h'⟩ := read_nan ((isNan_canon k b).trans hb)
      rw [hr _ _ _ _ h, hr _ _ _ _ h']
  · obtain ⟨s, t, h⟩ := read_nan ha
    obtain ⟨s', t', h'⟩ := read_nan ((isNan_canon k a).trans ha)
    rw [hl _ _ _ _ h, hl _ _ _ _ h']
theorem order_canon (k : FloatKind) (a b : Nat) : k.format.order a b = k.format.order (canon k a) (canon k b) :=
  two_canon k k.format.order (fun _ _ _ _ h => order_nan_left h) (fun _ _ _ _ h => order_nan_right h) a b
theorem FR.order {k : FloatKind} {r s x y : Nat} (h : FR k r x) (g : FR k s y) : k.format.order r s = k.format.order x y := by
  rw [order_canon, h.eq, g.eq]
/-! A word that is written for a number or an infinity is no NaN. -/
theorem word_rung (f : Ieee.Format) (neg : Bool) {rung : Nat} (h : rung < f.signWeight) : f.word neg rung % f.signWeight = rung := by
  unfold Ieee.Format.word
  cases neg
  · simp [Nat.mod_eq_of_lt h]
  · simp [Nat.mod_eq_of_lt h]
theorem read_not_nan (f : Ieee.Format) (w : Nat) (h : w % f.signWeight ≤ f.infRung) : (f.read w).isNaN = false := by
  unfold Ieee.Format.read
  dsimp only
  split
  · rfl
  · split
    · rfl
    · rw [if_pos (by omega)]; rfl
theorem nearest_rung (f : Ieee.Format) (neg : Bool) (mag : Nat) (place : Int) : f.nearest neg mag place % f.signWeight ≤ f.infRung := by
  unfold Ieee.Format.nearest
  dsimp only
  split
  · rw [word_rung f _ (Nat.two_pow_pos _)]; exact Nat.zero_le _
  · rw [word_rung f _ (Nat.lt_of_le_of_lt (Nat.min_le_right ..) f.infRung_lt)]; exact Nat.min_le_right ..
theorem write_not_nan (f : Ieee.Format) (d : Ieee.Datum) (h : d.isNaN = false) : (f.read (f.write d)).isNaN = false := by
  cases d with
  | number neg mag place => exact read_not_nan f _ (nearest_rung f neg mag place)
  | infinity neg => exact read_not_nan f _ (by show f.word neg f.infRung % _ ≤ _; rw [word_rung f _ f.infRung_lt]; exact Nat.le_refl _)
  | nan neg fraction => simp [Ieee.Datum.isNaN] at h
theorem sum_not_nan {a b d : Ieee.Datum} (h : a.sum b = some d) : d.isNaN = false := by
  cases a <;> cases b <;> simp only [Ieee.Datum.sum] at h
  all_goals first | (cases h; done) | (split at h <;> cases h <;> rfl) | (cases h; rfl)
theorem product_not_nan {a b d : Ieee.Datum} (h : a.product b = some d) : d.isNaN = false := by
  cases a <;> cases b <;> simp only [Ieee.Datum.product] at h
  all_goals first | (cases h; done) | (split at h <;> cases h <;> rfl) | (cases h; rfl)
theorem quotient_not_nan {n : Nat} {a b d : Ieee.Datum} (h : a.quotient n b = some d) : d.isNaN = false := by
  cases a <;> cases b <;> simp only [Ieee.Datum.quotient] at h
  all_goals first | (cases h; done) | (cases h; rfl) | skip
  split at h
  · split at h
    · cases h
    · cases h; rfl
  · cases h; rfl
theorem root_not_nan {n : Nat} {a d : Ieee.Datum} (h : a.root n = some d) : d.isNaN = false := by
  cases a <;> simp only [Ieee.Datum.root] at h
  · split at h
    · cases h; rfl
    · split at h
      · cases h
      · cases h; rfl
  · split at h
    · cases h
    · cases h; rfl
  · cases h
theorem map_write_not_nan (f : Ieee.Format) {d : Option Ieee.Datum} {r : Nat} (hd : ∀ x, d = some x → x.isNaN = false) (h : d.map f.write = some r) :
    (f.read r).isNaN = false := by
  cases d with
  | none => cases h
  | some d => cases h; exact write_not_nan f d (hd _ rfl)
theorem fop_not_nan {op : BinOp} {k : FloatKind} {x y r : Nat} (h : floatBits op k x y = some r) : isNan k r = false := by
  unfold floatBits at h
  split at h
  · exact map_write_not_nan _ (fun _ h => sum_not_nan h) h
  · exact map_write_not_nan _ (fun _ h => sum_not_nan h) h
  · exact map_write_not_nan _ (fun _ h => product_not_nan h) h
  · exact map_write_not_nan _ (fun _ h => quotient_not_nan h) h
  · cases h
theorem floatBits_canon (op : BinOp) (k : FloatKind) (a b : Nat) : floatBits op k a b = floatBits op k (canon k a) (canon k b) := by
  apply two_canon k (floatBits op k)
  · intro x y s t h
    unfold floatBits
    split
    · exact add_nan_left h
    · exact sub_nan_left h
    · exact mul_nan_left h
    · exact div_nan_left h
    · rfl
  · intro x y s t h
    unfold floatBits
    split
    · exact add_nan_right h
    · exact sub_nan_right h
    · exact mul_nan_right h
    · exact div_nan_right h
    · rfl
theorem nanBits_cut (k : FloatKind) (r s t : Nat) : isNan k ((Question.nanBits k r s).cut t) = true ∧ (Question.nanBits k r s).cut t < 2 ^ k.format.width := by
  cases k
  · have a1 : t % 2 < 2 := Nat.mod_lt _ (by decide)
    have a2 : (t / 2) % (2 ^ 23 - 1) < 2 ^ 23 - 1 := Nat.mod_lt _ (by decide)
    simp only [Question.cut]
    generalize t % 2 = u at *
    generalize (t / 2) % (2 ^ 23 - 1) = v at *
    refine ⟨?_, ?_⟩
    · have hm : (u * 2 ^ 31 + 2139095040 + 1 + v) % 2147483648 = 2139095041 + v := by omega
      show (Ieee.Format.read Ieee.single _).isNaN = true
      unfold Ieee.Format.read
      dsimp only
      have e1 : Ieee.single.signWeight = 2147483648 := by decide
      have e2 : Ieee.single.binade = 8388608 := by decide
      have e3 : Ieee.single.infRung = 2139095040 := by decide
      rw [e1, e2, e3, hm, if_neg (by omega), if_neg (by omega), if_neg (by omega)]
      rfl
    · show _ < 2 ^ 32
      omega
  · have a1 : t % 2 < 2 := Nat.mod_lt _ (by decide)
    have a2 : (t / 2) % (2 ^ 52 - 1) < 2 ^ 52 - 1 := Nat.mod_lt _ (by decide)
    simp only [Question.cut]
    generalize t % 2 = u at *
    generalize (t / 2) % (2 ^ 52 - 1) = v at *
    refine ⟨?_, ?_⟩
    · have hm : (u * 2 ^ 63 + 9218868437227405312 + 1 + v) % 9223372036854775808 = 9218868437227405313 + v := by omega
      show (Ieee.Format.read Ieee.double _).isNaN = true
      unfold Ieee.Format.read
      dsimp only
      have e1 : Ieee.double.signWeight = 9223372036854775808 := by decide
      have e2 : Ieee.double.binade = 4503599627370496 := by decide
      have e3 : Ieee.double.infRung = 9218868437227405312 := by decide
      rw [e1, e2, e3, hm, if_neg (by omega), if_neg (by omega), if_neg (by omega)]
      rfl
    · show _ < 2 ^ 64
      omega
theorem run_floatArith {P : Program} (w : World) (op : BinOp) (hop : op = .add ∨ op = .sub ∨ op = .mul ∨ op = .quo) (k : FloatKind) (r s x y : Nat) (h : FR k r x) (g : FR k s y) :
    ∃ q n, (Op.floatArith op k r s).run P w = .ok (.float k q) { w with drawn := n } ∧ FR k q ((floatBits op k x y).getD (qnan k)) := by
  have e : floatBits op k r s = floatBits op k x y := by rw [floatBits_canon, h.eq, g.eq]
  have run : (Op.floatArith op k r s).run P w = match floatBits op k r s with
      | some q => .ok (.float k q) w
      | none => ((choose (.nanBits k r s)).run P w).andThen fun n w' => .ok (.float k n) w' := by
    rcases hop with rfl | rfl | rfl | rfl <;> simp only [Op.floatArith, floatBits, Sem.run_bind, Sem.run_pure, Result.andThen_ok] <;> split <;> simp_all
  rw [run, ← e]
  cases he : floatBits op k r s with
  | some q =>
    refine ⟨q, w.drawn, rfl, ?_, ?_⟩
    · show canon k q = q
      exact canon_of_not (fop_not_nan he)
    · have := floatBits_wf he
      cases k
      · show q < 2 ^ 32
        simpa [Lit.wf] using this
      · show q < 2 ^ 64
        simpa [Lit.wf] using this
  | none =>
    have hn := nanBits_cut k r s
    refine ⟨_, w.drawn + 1, rfl, ?_, (hn _).2⟩
    exact canon_of_nan (hn _).1
def fmx (k : FloatKind) (x y : Nat) : Nat := match k.format.order x y with
  | none => qnan k
  | some .lt => y
  | some .gt => x
  | some .eq => bif (k.format.read x).neg then y else x
theorem run_max2 {P : Program} (w : World) (k : FloatKind) (r s x y : Nat) (h : FR k r x) (g : FR k s y) :
    ∃ q n, (Builtin.max2 (.float k r) (.float k s)).run P w = .ok (.float k q) { w with drawn := n } ∧ FR k q (fmx k x y) := by
  have e := h.order g
  unfold fmx
  rw [← e]
  cases ho : k.format.order r s with
  | none =>
    have hn : ∀ t, isNan k ((Question.nanMinMax k true r s).cut t) = true ∧ (Question.nanMinMax k true r s).cut t < 2 ^ k.format.width := fun t => by
      have := nanBits_cut k r s t
      cases k <;> exact this
    have run : (Builtin.max2 (.float k r) (.float k s)).run P w = ((choose (.nanMinMax k true r s)).run P w).andThen fun n w' => .ok (.float k n) w' := by
      simp only [Builtin.max2, ho, Sem.run_bind, Sem.run_pure]
    rw [run]
    refine ⟨_, w.drawn + 1, rfl, ?_, (hn _).2⟩
    exact canon_of_nan (hn _).1
  | some o =>
    cases o with
    | lt => exact ⟨s, w.drawn, by simp only [Builtin.max2, ho]; rfl, g⟩
    | gt => exact ⟨r, w.drawn, by simp only [Builtin.max2, ho]; rfl, h⟩
    | eq =>
      have hr : isNan k r = false := by
        unfold isNan
        cases hd : k.format.read r with
        | nan s t => rw [order_nan_left hd] at ho; cases ho
        | infinity s => rfl
        | number s m i => rfl
      have hx : x = r := by rw [← h.eq]; exact canon_of_not hr
      subst hx
      cases hn : (k.format.read x).neg
      · exact ⟨x, w.drawn, by simp only [Builtin.max2, ho, FloatKind.decode, hn]; rfl, h⟩
      · exact ⟨s, w.drawn, by simp only [Builtin.max2, ho, FloatKind.decode, hn]; rfl, g⟩
end Go.Ev

namespace Go.Ev
/-! ## Model values -/
inductive MV where
  | und
  | lb (x : Bool)
  | b (x : Bool)
  | i (k : IntKind) (n : Int)
  | f (k : FloatKind) (x : Nat)
  | agg (l : List MV)
  | tup (l : List MV)
  | p (id off : Nat)
  | pe (id sz i j : Nat)
  | rp (cells : List MV)
  | os (id sz lo n : Nat)
  | oc (id sz n room : Nat)
  | ro (sz n : Nat) (get : Nat → List MV)
  | nilp
  | nils
  | fn (f : FuncId) (first caps : List MV)
  | x (v : Value)
  | gd (j : Nat) (want : Bool) (m : MV)
inductive Blk where
  | cells (l : List MV)
  | rows (sz n : Nat) (get : Nat → List MV)
def getM (l : List MV) (j : Nat) : MV := l.getD j .und
def look {α : Type} : List (Nat × α) → Nat → Option α
  | [], _ => none
  | (k, v) :: r, n => match Nat.beq k n with
    | true => some v
    | false => look r n
def del {α : Type} : List (Nat × α) → Nat → List (Nat × α)
  | [], _ => []
  | (k, v) :: r, n => match Nat.beq k n with
    | true => del r n
    | false => (k, v) :: del r n
def putL {α : Type} (l : List (Nat × α)) (n : Nat) (v : α) : List (Nat × α) := (n, v) :: l
theorem look_del {α : Type} (l : List (Nat × α)) (n k : Nat) : look (del l n) k = if k = n then none else look l k := by
  induction l with
  | nil => simp [del, look]
  | cons x r ih =>
    obtain ⟨j, v⟩ := x
    simp only [del]
    cases h : Nat.beq j n
    · simp only [look, ih]
      have hj : j ≠ n := by intro e; subst e; simp at h
      cases h2 : Nat.beq j k
      · simp
      · have : j = k := Nat.eq_of_beq_eq_true h2
        subst this; simp [hj]
    · have hj : j = n := Nat.eq_of_beq_eq_true h
      subst hj
      simp only [ih, look]
      by_cases e : k = j
      · simp [e]
      · have : Nat.beq j k = false := by
          cases h3 : Nat.beq j k
          · rfl
          · exact absurd (Nat.eq_of_beq_eq_true h3).symm e
        simp [e, this]
theorem look_put {α : Type} (l : List (Nat × α)) (n k : Nat) (v : α) : look (putL l n v) k = if k = n then some v else look l k := by
  unfold putL
  simp only [look]
  cases h : Nat.beq n k
  · have : k ≠ n := by intro e; subst e; simp at h
    simp [this]
  · have : n = k := Nat.eq_of_beq_eq_true h
    simp [this]
abbrev RhoT := Nat → Option Nat
abbrev OkT := Nat → Prop
abbrev GT := Nat → Bool → Option Bool
def rho0 : RhoT := fun _ => none
def G0 : GT := fun _ _ => none
inductive Rep (w : World) : GT → RhoT → OkT → MV → Value → Prop
  | und {G ρ ok} (v : Value) : Rep w G ρ ok .und v
  | lb {G ρ ok} (x : Bool) : Rep w G ρ ok (.lb x) (.bool x)
  | b {G ρ ok} (x : Bool) : Rep w G ρ ok (.b x) (.bool x)
  | i {G ρ ok} (k : IntKind) (n : Int) : Rep w G ρ ok (.i k n) (.int k n)
  | f {G ρ ok} (k : FloatKind) (r x : Nat) (h : FR k r x) : Rep w G ρ ok (.f k x) (.float k r)
  | agg {G ρ ok} (l : List MV) (vs : Array Value) (hl : l.length = vs.size) (h : ∀ j, j < l.length → Rep w G ρ ok (getM l j) (vs.getD j undef)) : Rep w G ρ ok (.agg l) (.agg vs)
  | tup {G ρ ok} (l : List MV) (vs : Array Value) (hl : l.length = vs.size) (h : ∀ j, j < l.length → Rep w G ρ ok (getM l j) (vs.getD j undef)) : Rep w G ρ ok (.tup l) (.tuple vs)
  | p {G ρ ok} (id off blk : Nat) (hρ : ρ id = some blk) : Rep w G ρ ok (.p id off) (.pointer (some ⟨blk, off, none⟩))
  | pe {G ρ ok} (id sz i j blk : Nat) (hρ : ρ id = some blk) : Rep w G ρ ok (.pe id sz i j) (.pointer (some ⟨blk, i * sz + j, none⟩))
  | rp {G ρ ok} (cells : List MV) (blk off : Nat) (u : Nat → Value) (hok : 0 < cells.length → ok blk)
      (hc : ∀ j, j < cells.length → w.cell? ⟨blk, off + j, none⟩ = some (u j)) (h1 : ∀ j, j < cells.length → (u j).oneCell' = true)
      (h : ∀ j, j < cells.length → Rep w G0 rho0 ok (getM cells j) (u j)) : Rep w G ρ ok (.rp cells) (.pointer (some ⟨blk, off, none⟩))
  | os {G ρ ok} (id sz lo n blk cap off : Nat) (c : Array Value) (T : TypeId) (hρ : ρ id = some blk) (hn : n ≤ cap) (hoff : off = lo * sz ∨ cap = 0)
      (hb : w.heap[blk]? = some (.cells c T (0, 0))) (hcap : (lo + cap) * sz ≤ c.size) : Rep w G ρ ok (.os id sz lo n) (.slice (some ⟨blk, off, none⟩) n cap)
  | oc {G ρ ok} (id sz n room blk cap off : Nat) (c : Array Value) (T : TypeId) (hρ : ρ id = some blk) (hn : n ≤ cap) (hr : room ≤ cap) (hoff : off = 0 ∨ cap = 0)
      (hb : w.heap[blk]? = some (.cells c T (0, 0))) (hcap : cap * sz ≤ c.size) : Rep w G ρ ok (.oc id sz n room) (.slice (some ⟨blk, off, none⟩) n cap)
  | ocnil {G ρ ok} (id sz : Nat) : Rep w G ρ ok (.oc id sz 0 0) (.slice none 0 0)
  | osnil {G ρ ok} (id sz lo : Nat) : Rep w G ρ ok (.os id sz lo 0) (.slice none 0 0)
  | ro {G ρ ok} (sz n : Nat) (get : Nat → List MV) (blk off cap : Nat) (u : Nat → Nat → Value) (hn : n ≤ cap) (hok : 0 < n → ok blk)
      (hc : ∀ i, i < n → ∀ j, j < sz → w.cell? ⟨blk, off + (i * sz + j), none⟩ = some (u i j)) (h1 : ∀ i, i < n → ∀ j, j < sz → (u i j).oneCell' = true)
      (h : ∀ i, i < n → ∀ j, j < sz → Rep w G0 rho0 ok (getM (get i) j) (u i j)) : Rep w G ρ ok (.ro sz n get) (.slice (some ⟨blk, off, none⟩) n cap)
  | ronil {G ρ ok} (sz : Nat) (get : Nat → List MV) : Rep w G ρ ok (.ro sz 0 get) (.slice none 0 0)
  | nilp {G ρ ok} : Rep w G ρ ok .nilp (.pointer none)
  | nils {G ρ ok} : Rep w G ρ ok .nils (.slice none 0 0)
  | fn {G ρ ok} (f : FuncId) (l m : List MV) (vs us : Array Value) (hl : l.length = vs.size) (hm : m.length = us.size)
      (h : ∀ j, j < l.length → Rep w G ρ ok (getM l j) (vs.getD j undef)) (h' : ∀ j, j < m.length → Rep w G ρ ok (getM m j) (us.getD j undef)) :
      Rep w G ρ ok (.fn f l m) (.func (.func f) vs us)
  | x {G ρ ok} (v : Value) : Rep w G ρ ok (.x v) v
  | gd {G ρ ok} (j : Nat) (want : Bool) (m : MV) (v : Value) (C : Bool) (hG : G j want = some C) (ht : C = true → Rep w G ρ ok m v) (hf : C = false → v = undef) :
      Rep w G ρ ok (.gd j want m) v
def Keeps (w w' : World) : Prop := ∀ (b : Nat) (c : Array Value) (T : TypeId) (fr : Nat × Nat), w.heap[b]? = some (.cells c T fr) → ∃ c', w'.heap[b]? = some (.cells c' T fr) ∧ c'.size = c.size
theorem Keeps.refl (w : World) : Keeps w w := fun _ c _ _ h => ⟨c, h, rfl⟩
theorem Keeps.trans {a b c : World} (h : Keeps a b) (g : Keeps b c) : Keeps a c := fun k x T fr hk => by
  obtain ⟨y, hy, e⟩ := h k x T fr hk
  obtain ⟨z, hz, e'⟩ := g k y T fr hy
  exact ⟨z, hz, e'.trans e⟩
theorem cell?_of_block {w w' : World} {a : Addr} (h : w'.heap[a.block]? = w.heap[a.block]?) : w'.cell? a = w.cell? a := by
  unfold World.cell?; rw [h]
def ment1 (id : Nat) : MV → Bool
  | .p i _ => Nat.beq i id
  | .pe i _ _ _ => Nat.beq i id
  | .os i _ _ _ => Nat.beq i id
  | .oc i _ _ _ => Nat.beq i id
  | .agg _ => true
  | .tup _ => true
  | .fn _ _ _ => true
  | .gd _ _ _ => true
  | _ => false
def anyM (id : Nat) : List MV → Bool
  | [] => false
  | m :: r => match ment1 id m with
    | true => true
    | false => anyM id r
def ment (id : Nat) : MV → Bool
  | .agg l => anyM id l
  | .tup l => anyM id l
  | .fn _ l m => match anyM id l with
    | true => true
    | false => anyM id m
  | .gd _ _ m => ment1 id m
  | m => ment1 id m
theorem ment_le {id : Nat} {m : MV} (h : ment id m = true) : ment1 id m = true := by
  cases m <;> first | rfl | exact h
theorem anyM_of {id : Nat} {l : List MV} {j : Nat} (hj : j < l.length) (h : ment id (getM l j) = true) : anyM id l = true := by
  induction l generalizing j with
  | nil => simp at hj
  | cons m r ih =>
    unfold anyM
    cases j with
    | zero => rw [ment_le (by simpa [getM] using h)]
    | succ j =>
      split
      · rfl
      · exact ih (j := j) (by simpa using hj) (by simpa [getM] using h)
theorem ment_fn {id : Nat} {f : FuncId} {l m : List MV} (h : anyM id l = true ∨ anyM id m = true) : ment id (.fn f l m) = true := by
  show (match anyM id l with | true => true | false => anyM id m) = true
  rcases h with h | h
  · rw [h]
  · cases anyM id l <;> simp [h]
theorem Rep.mono' {w w' : World} (hsz : Keeps w w') {G : GT} {ρ : RhoT} {ok : OkT} {m : MV} {v : Value} (h : Rep w G ρ ok m v) :
    ∀ {G' : GT} {ρ' : RhoT} {ok' : OkT}, (∀ j want C, G j want = some C → G' j want = some C) → (∀ i b, ment i m = true → ρ i = some b → ρ' i = some b) →
    (∀ b, ok b → ok' b ∧ w'.heap[b]? = w.heap[b]?) → Rep w' G' ρ' ok' m v := by
  induction h with
  | und v => intros; exact .und v
  | lb x => intros; exact .lb x
  | b x => intros; exact .b x
  | i k n => intros; exact .i k n
  | f k r x h => intros; exact .f k r x h
  | agg l vs hl h ih => intro G' ρ' ok' hG hρ hok; exact .agg l vs hl fun j hj => ih j hj hG (fun i b hm => hρ i b (anyM_of hj hm)) hok
  | tup l vs hl h ih => intro G' ρ' ok' hG hρ hok; exact .tup l vs hl fun j hj => ih j hj hG (fun i b hm => hρ i b (anyM_of hj hm)) hok
  | p id off blk h => intro G' ρ' ok' hG hρ hok; exact .p id off blk (hρ _ _ (by simp [ment, ment1]) h)
  | pe id sz i j blk h => intro G' ρ' ok' hG hρ hok; exact .pe id sz i j blk (hρ _ _ (by simp [ment, ment1]) h)
  | rp cells blk off u hk hc h1 h ih =>
    intro G' ρ' ok' hG hρ hok
    refine .rp cells blk off u (fun hp => (hok _ (hk hp)).1) (fun j hj => ?_) h1 (fun j hj => ih j hj (fun _ _ _ e => e) (fun _ _ _ e => e) ?_)
    · rw [cell?_of_block (hok _ (hk (by omega))).2]; exact hc j hj
    · exact hok
  | os id sz lo n blk cap off c T hr hn hoff hb hcap =>
    intro G' ρ' ok' hG hρ hok
    obtain ⟨c', hb', e⟩ := hsz _ _ _ _ hb
    exact .os id sz lo n blk cap off c' T (hρ _ _ (by simp [ment, ment1]) hr) hn hoff hb' (e ▸ hcap)
  | oc id sz n room blk cap off c T hr hn hro hoff hb hcap =>
    intro G' ρ' ok' hG hρ hok
    obtain ⟨c', hb', e⟩ := hsz _ _ _ _ hb
    exact .oc id sz n room blk cap off c' T (hρ _ _ (by simp [ment, ment1]) hr) hn hro hoff hb' (e ▸ hcap)
  | ocnil id sz => intros; exact .ocnil id sz
  | osnil id sz lo => intros; exact .osnil id sz lo
  | ro sz n get blk off cap u hn hk hc h1 h ih =>
    intro G' ρ' ok' hG hρ hok
    refine .ro sz n get blk off cap u hn (fun hp => (hok _ (hk hp)).1) (fun i hi j hj => ?_) h1 (fun i hi j hj => ih i hi j hj (fun _ _ _ e => e) (fun _ _ _ e => e) ?_)
    · rw [cell?_of_block (hok _ (hk (by omega))).2]; exact hc i hi j hj
    · exact hok
  | ronil sz get => intros; exact .ronil sz get
  | nilp => intros; exact .nilp
  | nils => intros; exact .nils
  | fn f l m vs us hl hm h h' ih ih' =>
    intro G' ρ' ok' hG hρ hok
    refine .fn f l m vs us hl hm (fun j hj => ih j hj hG (fun i b hm => hρ i b ?_) hok) (fun j hj => ih' j hj hG (fun i b hm => hρ i b ?_) hok)
    · exact ment_fn (.inl (anyM_of hj hm))
    · exact ment_fn (.inr (anyM_of hj hm))
  | x v => intros; exact .x v
  | gd j want m v C hC ht hf ih => intro G' ρ' ok' hG hρ hok; exact .gd j want m v C (hG _ _ _ hC) (fun e => ih e hG (fun i b hm => hρ i b (ment_le hm)) hok) hf
theorem Rep.mono {w w' : World} (hsz : Keeps w w') {G : GT} {ρ : RhoT} {ok : OkT} {m : MV} {v : Value} (h : Rep w G ρ ok m v)
    {G' : GT} {ρ' : RhoT} {ok' : OkT} (hG : ∀ j want C, G j want = some C → G' j want = some C) (hρ : ∀ i b, ρ i = some b → ρ' i = some b)
    (hok : ∀ b, ok b → ok' b ∧ w'.heap[b]? = w.heap[b]?) : Rep w' G' ρ' ok' m v := h.mono' hsz hG (fun i b _ => hρ i b) hok
def normO : MV → MV
  | .oc id sz n _ => .os id sz 0 n
  | m => m
theorem Rep.norm {w : World} {G : GT} {ρ : RhoT} {ok : OkT} {m : MV} {v : Value} (h : Rep w G ρ ok m v) : Rep w G ρ ok (normO m) v := by
  cases h with
  | oc id sz n room blk cap off c T hr hn hro hoff hb hcap => exact .os id sz 0 n blk cap off c T hr hn (by rw [Nat.zero_mul]; exact hoff) hb (by rw [Nat.zero_add]; exact hcap)
  | ocnil id sz => exact .osnil _ _ _
  | und v => exact .und v
  | lb x => exact .lb x
  | b x => exact .b x
  | i k n => exact .i k n
  | f k r x h => exact .f k r x h
  | agg l vs hl h => exact .agg l vs hl h
  | tup l vs hl h => exact .tup l vs hl h
  | p id off blk h => exact .p id off blk h
  | pe id sz i j blk h => exact .pe id sz i j blk h
  | rp cells blk off u hk hc h1 h => exact .rp cells blk off u hk hc h1 h
  | os id sz lo n blk cap off c T hr hn hoff hb hcap => exact .os id sz lo n blk cap off c T hr hn hoff hb hcap
  | osnil id sz lo => exact .osnil _ _ _
  | ro sz n get blk off cap u hn hk hc h1 h => exact .ro sz n get blk off cap u hn hk hc h1 h
  | ronil sz get => exact .ronil _ _
  | nilp => exact .nilp
  | nils => exact .nils
  | fn f l m vs us hl hm h h' => exact .fn f l m vs us hl hm h h'
  | x v => exact .x v
  | gd j want m v C hC ht hf => exact .gd j want m v C hC ht hf
/-! ## States -/
structure St where
  F : List (Nat × MV)
  stk : List (List (Nat × MV))
  H : List (Nat × Blk)
  nx : Nat
structure Cx where
  w0 : World
  X : Nat → Prop
  okA : Nat → Prop
structure BelowX (X : Nat → Prop) (w w' : World) : Prop where
  os : w'.os = w.os
  tape : w'.tape = w.tape
  output : w'.output = w.output
  size : w.heap.size ≤ w'.heap.size
  block : ∀ k, k < w.heap.size → ¬ X k → w'.heap[k]? = w.heap[k]?
  keeps : Keeps w w'
theorem BelowX.refl (X : Nat → Prop) (w : World) : BelowX X w w := ⟨rfl, rfl, rfl, Nat.le_refl _, fun _ _ _ => rfl, Keeps.refl w⟩
def Fresh (cx : Cx) (ρ : RhoT) (w : World) (b : Nat) : Prop := cx.w0.heap.size ≤ b ∧ b < w.heap.size ∧ ∀ i, ρ i ≠ some b
def okS (cx : Cx) (ρ : RhoT) (w : World) : OkT := fun b => cx.okA b ∨ Fresh cx ρ w b
def BlkOK (w : World) (ρ : RhoT) (ok : OkT) (id : Nat) : Blk → Prop
  | .cells l => ∃ b c T, ρ id = some b ∧ w.heap[b]? = some (.cells c T (0, 0)) ∧ c.size = l.length ∧ (∀ j, j < c.size → (c.getD j undef).oneCell' = true) ∧ ∀ j, j < l.length → Rep w G0 ρ ok (getM l j) (c.getD j undef)
  | .rows sz n get => (n = 0 ∧ ρ id = none) ∨ ∃ b c T, ρ id = some b ∧ w.heap[b]? = some (.cells c T (0, 0)) ∧ n * sz ≤ c.size ∧ (∀ j, j < n * sz → (c.getD j undef).oneCell' = true) ∧
      ∀ i, i < n → ∀ j, j < sz → Rep w G0 rho0 ok (getM (get i) j) (c.getD (i * sz + j) undef)
theorem BlkOK.mono {w w' : World} (hs : Keeps w w') {ρ ρ' : RhoT} {ok ok' : OkT} {id : Nat} {blk : Blk} (h : BlkOK w ρ ok id blk) (hρ : ∀ i b, ρ i = some b → ρ' i = some b)
    (hid : ρ id = none → ρ' id = none) (hok : ∀ b, ok b → ok' b ∧ w'.heap[b]? = w.heap[b]?) (hb : ∀ b, ρ id = some b → w'.heap[b]? = w.heap[b]?) : BlkOK w' ρ' ok' id blk := by
  cases blk with
  | cells l =>
    obtain ⟨b, c, T, h1, h2, h3, h5, h4⟩ := h
    exact ⟨b, c, T, hρ _ _ h1, (hb b h1).trans h2, h3, h5, fun j hj => (h4 j hj).mono hs (fun _ _ _ e => e) hρ hok⟩
  | rows sz m get =>
    rcases h with ⟨h1, h2⟩ | ⟨b, c, T, h1, h2, h3, h5, h4⟩
    · exact .inl ⟨h1, hid h2⟩
    · exact .inr ⟨b, c, T, hρ _ _ h1, (hb b h1).trans h2, h3, h5, fun i hi j hj => (h4 i hi j hj).mono hs (fun _ _ _ e => e) (fun _ _ e => e) hok⟩
structure SatW (cx : Cx) (ρ : RhoT) (H : List (Nat × Blk)) (nx : Nat) (w : World) : Prop where
  below : BelowX cx.X cx.w0 w
  inj : ∀ i j b, ρ i = some b → ρ j = some b → i = j
  rng : ∀ i b, ρ i = some b → b < w.heap.size ∧ (cx.w0.heap.size ≤ b ∨ cx.X b)
  hlt : ∀ id blk, look H id = some blk → id < nx
  nx : ∀ i, nx ≤ i → ρ i = none
  blocks : ∀ id blk, look H id = some blk → BlkOK w ρ (okS cx ρ w) id blk
  okA : ∀ b, cx.okA b → b < cx.w0.heap.size ∧ ¬ cx.X b
def FrOK (w : World) (G : GT) (ρ : RhoT) (ok : OkT) (F : List (Nat × MV)) (a : Act) : Prop :=
  ∀ s m, look F s = some m → ∃ v, a.tmps[s]? = some v ∧ Rep w G ρ ok m v
theorem FrOK.mono {w w' : World} (hs : Keeps w w') {G G' : GT} {ρ ρ' : RhoT} {ok ok' : OkT} {F : List (Nat × MV)} {a : Act} (h : FrOK w G ρ ok F a)
    (hG : ∀ j want C, G j want = some C → G' j want = some C) (hρ : ∀ i b, ρ i = some b → ρ' i = some b)
    (hok : ∀ b, ok b → ok' b ∧ w'.heap[b]? = w.heap[b]?) : FrOK w' G' ρ' ok' F a := fun s m hl => by
  obtain ⟨v, hv, r⟩ := h s m hl
  exact ⟨v, hv, r.mono hs hG hρ hok⟩
structure SatF (G : GT) (ρ : RhoT) (ok : OkT) (w : World) (n : Nat) (F : List (Nat × MV)) (a : Act) : Prop where
  defers : a.defers = []
  size : a.tmps.size = n
  frame : FrOK w G ρ ok F a
def StkOK (w : World) (ρ : RhoT) (ok : OkT) : List (List (Nat × MV)) → List Act → List GT → Prop
  | [], [], [] => True
  | F :: Fs, a :: as, G :: Gs => FrOK w G ρ ok F a ∧ StkOK w ρ ok Fs as Gs
  | _, _, _ => False
theorem StkOK.mono {w w' : World} (hs : Keeps w w') {ρ ρ' : RhoT} {ok ok' : OkT} (hρ : ∀ i b, ρ i = some b → ρ' i = some b)
    (hok : ∀ b, ok b → ok' b ∧ w'.heap[b]? = w.heap[b]?) : ∀ {Fs : List (List (Nat × MV))} {as : List Act} {Gs : List GT}, StkOK w ρ ok Fs as Gs → StkOK w' ρ' ok' Fs as Gs
  | [], [], [], _ => trivial
  | _ :: _, _ :: _, _ :: _, h => ⟨h.1.mono hs (fun _ _ _ e => e) hρ hok, StkOK.mono hs hρ hok h.2⟩
  | [], _ :: _, _, h => h.elim
  | [], [], _ :: _, h => h.elim
  | _ :: _, [], _, h => h.elim
  | _ :: _, _ :: _, [], h => h.elim
structure Sus where
  as : List Act
  Gs : List GT
structure SatR (cx : Cx) (su : Sus) (n : Nat) (G : GT) (S : St) (a : Act) (w : World) (ρ : RhoT) : Prop where
  W : SatW cx ρ S.H S.nx w
  F : SatF G ρ (okS cx ρ w) w n S.F a
  K : StkOK w ρ (okS cx ρ w) S.stk su.as su.Gs
def Sat (cx : Cx) (su : Sus) (n : Nat) (G : GT) (S : St) (a : Act) (w : World) : Prop := ∃ ρ, SatR cx su n G S a w ρ
def SatV (cx : Cx) (su : Sus) (n : Nat) (G : GT) (S : St) (m : MV) (a : Act) (v : Value) (w : World) : Prop :=
  ∃ ρ, SatR cx su n G S a w ρ ∧ Rep w G ρ (okS cx ρ w) m v
theorem FrOK.put {w : World} {G : GT} {ρ : RhoT} {ok : OkT} {F : List (Nat × MV)} {a : Act} (h : FrOK w G ρ ok F a) {d : Nat} (hd : d < a.tmps.size) {m : MV} {v : Value}
    (r : Rep w G ρ ok m v) : FrOK w G ρ ok (putL F d m) (a.put (some d) v) := by
  intro s m' hs
  rw [look_put] at hs
  by_cases e : s = d
  · subst e
    simp at hs
    subst hs
    exact ⟨v, by simp [Act.put, hd], r⟩
  · rw [if_neg e] at hs
    obtain ⟨u, hu, r⟩ := h s m' hs
    exact ⟨u, by simpa [Act.put, Array.getElem?_setIfInBounds_ne (Ne.symm e)] using hu, r⟩
theorem SatV.put {cx : Cx} {su : Sus} {n : Nat} {G : GT} {S : St} {m : MV} {a : Act} {v : Value} {w : World} (h : SatV cx su n G S m a v w) {d : Nat} (hd : d < n) :
    Sat cx su n G { S with F := putL S.F d m } (a.put (some d) v) w := by
  obtain ⟨ρ, hS, hR⟩ := h
  exact ⟨ρ, hS.W, ⟨hS.F.defers, by simpa [Act.put] using hS.F.size, hS.F.frame.put (hS.F.size ▸ hd) hR⟩, hS.K⟩
theorem SatR.drawn {cx : Cx} {su : Sus} {n : Nat} {G : GT} {S : St} {a : Act} {w : World} {ρ : RhoT} (h : SatR cx su n G S a w ρ) (k : Nat) :
    SatR cx su n G S a { w with drawn := k } ρ := by
  have hs : Keeps w { w with drawn := k } := fun b c T fr h => ⟨c, h, rfl⟩
  have hok : ∀ b, okS cx ρ w b → okS cx ρ { w with drawn := k } b ∧ (({ w with drawn := k } : World).heap[b]?) = w.heap[b]? := fun b h => ⟨h, rfl⟩
  exact ⟨⟨⟨h.W.below.os, h.W.below.tape, h.W.below.output, h.W.below.size, h.W.below.block, h.W.below.keeps⟩, h.W.inj, h.W.rng, h.W.hlt, h.W.nx,
    fun id blk hl => (h.W.blocks id blk hl).mono hs (fun _ _ e => e) (fun e => e) hok (fun _ _ => rfl), h.W.okA⟩,
    ⟨h.F.defers, h.F.size, h.F.frame.mono hs (fun _ _ _ e => e) (fun _ _ e => e) hok⟩, h.K.mono hs (fun _ _ e => e) hok⟩
theorem Rep.drawn {w : World} {G : GT} {ρ : RhoT} {cx : Cx} {m : MV} {v : Value} (h : Rep w G ρ (okS cx ρ w) m v) (k : Nat) :
    Rep { w with drawn := k } G ρ (okS cx ρ { w with drawn := k }) m v :=
  have hs : Keeps w { w with drawn := k } := fun b c T fr h => ⟨c, h, rfl⟩
  h.mono hs (ok' := okS cx ρ { w with drawn := k }) (fun _ _ _ e => e) (fun _ _ e => e) (fun b h => ⟨h, rfl⟩)
end Go.Ev

namespace Go.Ev
/-! ## Types, operands, operations that only compute -/
inductive TK where
  | bool
  | int (k : IntKind)
  | flt (k : FloatKind)
  | ptr (e : TypeId)
  | slice (e : TypeId)
  | array (n : Nat) (e : TypeId)
  | struct (fs : List (Nat × TypeId))
  | func
  | other
structure TI where
  k : TK
  size : Nat
  bytes : Nat
  zero : Value
def descIs : TypeDesc → TK → Prop
  | .bool, .bool => True
  | .int k, .int k' => k = k'
  | .float k, .flt k' => k = k'
  | .pointer e, .ptr e' => e = e'
  | .slice e, .slice e' => e = e'
  | .array n e, .array n' e' => n = n' ∧ e = e'
  | .struct fs, .struct l => l = fs.toList.map fun f => (f.offset, f.type)
  | .func .., .func => True
  | .struct _, .other => False
  | .array .., .other => False
  | _, .other => True
  | _, _ => False
structure FnI where
  n : Nat
  body : Code
  res : List ResultVar
  inl : Bool
inductive XK where
  | f64bits | f64from | f32bits | f32from | sqrt | floor
structure Env where
  P : Program
  ty : TypeId → Option TI
  fns : FuncId → Option FnI
  ext : FuncId → Option XK
  sum : FuncId → List MV → Option (List Prop × MV × List Blk × Bool)
  eqs : TypeId → Bool
structure TyOK (P : Program) (t : TypeId) (i : TI) : Prop where
  und : ∃ d, P.underlying t = some d ∧ descIs d i.k
  info : ∃ info, P.info? t = some info ∧ info.size = i.size ∧ info.bytes = i.bytes ∧ info.zero = some i.zero
def ofVal : Value → Option MV
  | .bool x => some (.lb x)
  | .int k n => some (.i k n)
  | .float k x => match isNan k x with
    | true => none
    | false => match Nat.blt x (2 ^ k.format.width) with
      | true => some (.f k x)
      | false => none
  | .pointer none => some .nilp
  | .slice none 0 0 => some .nils
  | _ => none
theorem ofVal_rep {v : Value} {m : MV} (h : ofVal v = some m) {w : World} {G : GT} {ρ : RhoT} {ok : OkT} : Rep w G ρ ok m v := by
  unfold ofVal at h
  split at h
  · cases h; exact .lb _
  · cases h; exact .i _ _
  · rename_i k x
    split at h
    · cases h
    · rename_i hn
      split at h
      · rename_i hl
        cases h
        exact .f _ _ _ ⟨canon_of_not hn, by simpa [Nat.blt_eq] using hl⟩
      · cases h
  · cases h; exact .nilp
  · cases h; exact .nils
  · cases h
def hasG : List (Nat × Bool) → Nat → Bool → Bool
  | [], _, _ => false
  | (j, b) :: r, k, c => match Nat.beq j k with
    | true => match b, c with
      | true, true => true
      | false, false => true
      | _, _ => hasG r k c
    | false => hasG r k c
theorem hasG_mem {g : List (Nat × Bool)} {j : Nat} {b : Bool} (h : hasG g j b = true) : (j, b) ∈ g := by
  induction g with
  | nil => simp [hasG] at h
  | cons x r ih =>
    obtain ⟨k, c⟩ := x
    unfold hasG at h
    split at h
    · rename_i e
      have e' : k = j := Nat.eq_of_beq_eq_true e
      subst e'
      split at h
      · simp
      · simp
      · exact List.mem_cons_of_mem _ (ih h)
    · exact List.mem_cons_of_mem _ (ih h)
def opd (F : List (Nat × MV)) (g : List (Nat × Bool)) : Operand → Option MV
  | .tmp t => match look F t with
    | some (.gd j want m) => match hasG g j want with
      | true => some m
      | false => none
    | r => r
  | .const v => ofVal v
  | .func f => some (.fn f [] [])
  | .global _ => none
def Holds (G : GT) (g : List (Nat × Bool)) : Prop := ∀ x ∈ g, ∀ C, G x.1 x.2 = some C → C = true
theorem opd_rep {G : GT} {ρ : RhoT} {ok : OkT} {w : World} {F : List (Nat × MV)} {a : Act} (hF : FrOK w G ρ ok F a) {g : List (Nat × Bool)} (hg : Holds G g)
    {x : Operand} {m : MV} (h : opd F g x = some m) : Rep w G ρ ok m (a.eval x) := by
  cases x with
  | tmp t =>
    unfold opd at h
    have key : ∀ m', look F t = some m' → ∃ v, a.eval (.tmp t) = v ∧ Rep w G ρ ok m' v := by
      intro m' hm
      obtain ⟨v, hv, r⟩ := hF t m' hm
      exact ⟨v, by simp [Act.eval, hv], r⟩
    dsimp only at h
    split at h
    · rename_i j want m' hl
      split at h
      · rename_i hh
        cases h
        obtain ⟨v, e, r⟩ := key _ hl
        rw [e]
        cases r with
        | gd _ _ _ _ C hC ht hf =>
          exact ht (hg _ (hasG_mem hh) _ hC)
      · cases h
    · obtain ⟨v, e, r⟩ := key _ h
      rw [e]; exact r
  | const v => exact ofVal_rep h
  | global g => simp [opd] at h
  | func f =>
    simp only [opd, Option.some.injEq] at h
    subst h
    exact .fn f [] [] #[] #[] rfl rfl (by simp) (by simp)
def opds (F : List (Nat × MV)) (g : List (Nat × Bool)) : List Operand → Option (List MV)
  | [] => some []
  | x :: r => match opd F g x with
    | none => none
    | some m => match opds F g r with
      | none => none
      | some ms => some (m :: ms)
theorem opds_rep {G : GT} {ρ : RhoT} {ok : OkT} {w : World} {F : List (Nat × MV)} {a : Act} (hF : FrOK w G ρ ok F a) {g : List (Nat × Bool)} (hg : Holds G g) :
    ∀ {l : List Operand} {ms : List MV}, opds F g l = some ms → ms.length = l.length ∧ ∀ j, j < ms.length → Rep w G ρ ok (getM ms j) ((l.map a.eval).getD j undef) := by
  intro l
  induction l with
  | nil => intro ms h; simp [opds] at h; subst h; simp
  | cons x r ih =>
    intro ms h
    unfold opds at h
    split at h
    · cases h
    · rename_i m hm
      split at h
      · cases h
      · rename_i ms' hms
        cases h
        obtain ⟨e, h'⟩ := ih hms
        refine ⟨by simp [e], fun j hj => ?_⟩
        cases j with
        | zero => simpa [getM] using opd_rep hF hg hm
        | succ j => simpa [getM] using h' j (by simpa using hj)
/-! ### Whole numbers -/
def ibits (op : BinOp) (k : IntKind) (x y : Int) : Int :=
  match op with
  | .and => k.wrap ((BitVec.ofInt k.bits x &&& BitVec.ofInt k.bits y).toNat)
  | .or => k.wrap ((BitVec.ofInt k.bits x ||| BitVec.ofInt k.bits y).toNat)
  | .xor => k.wrap ((BitVec.ofInt k.bits x ^^^ BitVec.ofInt k.bits y).toNat)
  | _ => k.wrap ((BitVec.ofInt k.bits x &&& ~~~(BitVec.ofInt k.bits y)).toNat)
def ishl (k : IntKind) (x y : Int) : Int := k.wrap (x * 2 ^ (min y.toNat k.bits))
def ishr (k : IntKind) (x y : Int) : Int := x.fdiv (2 ^ (min y.toNat k.bits))
def litInt : Operand → Option Int
  | .const (.int _ n) => some n
  | _ => none
def evInt (op : BinOp) (k : IntKind) (a b : Int) : Option MV :=
  match op with
  | .add => some (.i k (k.wrap (a + b)))
  | .sub => some (.i k (k.wrap (a - b)))
  | .mul => some (.i k (k.wrap (a * b)))
  | .and => some (.i k (ibits .and k a b))
  | .or => some (.i k (ibits .or k a b))
  | .xor => some (.i k (ibits .xor k a b))
  | .andNot => some (.i k (ibits .andNot k a b))
  | .eql => some (.b (a == b))
  | .neq => some (.b (a != b))
  | .lss => some (.b (decide (a < b)))
  | .leq => some (.b (decide (a ≤ b)))
  | .gtr => some (.b (decide (b < a)))
  | .geq => some (.b (decide (b ≤ a)))
  | _ => none
def evFlt (op : BinOp) (k : FloatKind) (x y : Nat) : Option MV :=
  match op with
  | .add => some (.f k (fadd k x y))
  | .sub => some (.f k (fsub k x y))
  | .mul => some (.f k (fmul k x y))
  | .quo => some (.f k (fdiv k x y))
  | .eql => some (.b (feq k x y))
  | .neq => some (.b (!feq k x y))
  | .lss => some (.b (flt k x y))
  | .leq => some (.b (fle k x y))
  | .gtr => some (.b (fgt k x y))
  | .geq => some (.b (fge k x y))
  | _ => none
def sameInt : IntKind → IntKind → Bool
  | .i8, .i8 => true | .i16, .i16 => true | .i32, .i32 => true | .i64, .i64 => true
  | .u8, .u8 => true | .u16, .u16 => true | .u32, .u32 => true | .u64, .u64 => true
  | _, _ => false
theorem sameInt_eq {a b : IntKind} (h : sameInt a b = true) : a = b := by cases a <;> cases b <;> first | rfl | (simp [sameInt] at h)
def sameFlt : FloatKind → FloatKind → Bool
  | .f32, .f32 => true | .f64, .f64 => true
  | _, _ => false
theorem sameFlt_eq {a b : FloatKind} (h : sameFlt a b = true) : a = b := by cases a <;> cases b <;> first | rfl | (simp [sameFlt] at h)
def isBoolT (E : Env) (t : TypeId) : Bool := match E.ty t with
  | some ⟨.bool, _, _, _⟩ => true
  | _ => false
def evBool (op : BinOp) (a b : Bool) : Option MV :=
  match op with
  | .eql => some (.b (a == b))
  | .neq => some (.b (a != b))
  | _ => none
def evBin (E : Env) (op : BinOp) (t : TypeId) (x y : MV) : Option MV :=
  match x, y with
  | .i k a, .i k' b => match sameInt k k' with
    | true => evInt op k a b
    | false => none
  | .f k a, .f k' b => match sameFlt k k' with
    | true => evFlt op k a b
    | false => none
  | .b a, .b b => match isBoolT E t with
    | true => evBool op a b
    | false => none
  | .lb a, .b b => match isBoolT E t with
    | true => evBool op a b
    | false => none
  | .b a, .lb b => match isBoolT E t with
    | true => evBool op a b
    | false => none
  | .lb a, .lb b => match isBoolT E t with
    | true => evBool op a b
    | false => none
  | _, _ => none
def evUn (op : UnOp) (x : MV) : Option MV :=
  match op, x with
  | .neg, .i k n => some (.i k (k.wrap (0 - n)))
  | .neg, .f k a => some (.f k (fneg k a))
  | .not, .b a => some (.b (!a))
  | .not, .lb a => some (.lb (!a))
  | _, _ => none
theorem run_intBits {P : Program} (w : World) (op : BinOp) (hop : op = .and ∨ op = .or ∨ op = .xor ∨ op = .andNot) (k : IntKind) (a b : Int) :
    (Op.intBits op k a b).run P w = .ok (.int k (ibits op k a b)) w := by
  rcases hop with rfl | rfl | rfl | rfl <;> rfl
theorem evInt_sound {P : Program} {op : BinOp} {t : TypeId} {k : IntKind} {a b : Int} {m : MV} (h : evInt op k a b = some m) (w : World) {G : GT} {ρ : RhoT} {ok : OkT} :
    ∃ v, (binOp op t (.int k a) (.int k b)).run P w = .ok v w ∧ Rep w G ρ ok m v := by
  cases op <;> simp only [evInt, Option.some.injEq, reduceCtorEq] at h <;> subst h
  case add => exact ⟨.int k (k.wrap (a + b)), by simp [binOp, Op.intArith], .i _ _⟩
  case sub => exact ⟨.int k (k.wrap (a - b)), by simp [binOp, Op.intArith], .i _ _⟩
  case mul => exact ⟨.int k (k.wrap (a * b)), by simp [binOp, Op.intArith], .i _ _⟩
  case and => exact ⟨.int k (ibits .and k a b), by simp [binOp, run_intBits], .i _ _⟩
  case or => exact ⟨.int k (ibits .or k a b), by simp [binOp, run_intBits], .i _ _⟩
  case xor => exact ⟨.int k (ibits .xor k a b), by simp [binOp, run_intBits], .i _ _⟩
  case andNot => exact ⟨.int k (ibits .andNot k a b), by simp [binOp, run_intBits], .i _ _⟩
  case eql => exact ⟨.bool (a == b), by simp [binOp, Op.intCmp], .b _⟩
  case neq => exact ⟨.bool (a != b), by simp [binOp, Op.intCmp], .b _⟩
  case lss => exact ⟨.bool (decide (a < b)), by simp [binOp, Op.intCmp], .b _⟩
  case leq => exact ⟨.bool (decide (a ≤ b)), by simp [binOp, Op.intCmp], .b _⟩
  case gtr => exact ⟨.bool (decide (b < a)), by simp [binOp, Op.intCmp], .b _⟩
  case geq => exact ⟨.bool (decide (b ≤ a)), by simp [binOp, Op.intCmp], .b _⟩
theorem evFlt_sound {P : Program} {op : BinOp} {t : TypeId} {k : FloatKind} {r s x y : Nat} (hx : FR k r x) (hy : FR k s y) {m : MV} (h : evFlt op k x y = some m) (w : World)
    {G : GT} {ρ : RhoT} {ok : OkT} : ∃ v n, (binOp op t (.float k r) (.float k s)).run P w = .ok v { w with drawn := n } ∧ Rep w G ρ ok m v := by
  have arith : ∀ op', (op' = .add ∨ op' = .sub ∨ op' = .mul ∨ op' = .quo) → binOp op' t (.float k r) (.float k s) = Op.floatArith op' k r s := by
    intro op' ho
    rcases ho with rfl | rfl | rfl | rfl <;> simp [binOp]
  cases op <;> simp only [evFlt, Option.some.injEq] at h <;> first | (cases h; done) | skip
  all_goals subst h
  case add =>
    obtain ⟨q, n, e, hq⟩ := run_floatArith (P := P) w .add (by simp) k r s x y hx hy
    exact ⟨_, n, by rw [arith _ (by simp)]; exact e, .f _ _ _ hq⟩
  case sub =>
    obtain ⟨q, n, e, hq⟩ := run_floatArith (P := P) w .sub (by simp) k r s x y hx hy
    exact ⟨_, n, by rw [arith _ (by simp)]; exact e, .f _ _ _ hq⟩
  case mul =>
    obtain ⟨q, n, e, hq⟩ := run_floatArith (P := P) w .mul (by simp) k r s x y hx hy
    exact ⟨_, n, by rw [arith _ (by simp)]; exact e, .f _ _ _ hq⟩
  case quo =>
    obtain ⟨q, n, e, hq⟩ := run_floatArith (P := P) w .quo (by simp) k r s x y hx hy
    exact ⟨_, n, by rw [arith _ (by simp)]; exact e, .f _ _ _ hq⟩
  all_goals
    refine ⟨_, w.drawn, by simp only [binOp, ne_eq, not_true_eq_false, if_false, Op.floatCmp, hx.order hy]; rfl, ?_⟩
    first | exact .b _ | skip
theorem negFloat_nan (k : FloatKind) (b : Nat) : isNan k (Op.negFloat k b) = isNan k b := by
  unfold isNan Op.negFloat Ieee.Format.read
  have : b ^^^ 2 ^ (k.format.exponentBits + k.format.fractionBits) = b ^^^ k.format.signWeight := rfl
  rw [this]
  have e : (b ^^^ k.format.signWeight) % k.format.signWeight = b % k.format.signWeight := by
    unfold Ieee.Format.signWeight
    rw [Nat.xor_mod_two_pow]
    simp
  dsimp only
  rw [e]
  split
  · rfl
  · split
    · rfl
    · split <;> rfl
theorem negFloat_lt (k : FloatKind) (b : Nat) (h : b < 2 ^ k.format.width) : Op.negFloat k b < 2 ^ k.format.width := by
  unfold Op.negFloat
  apply Nat.xor_lt_two_pow h
  apply Nat.pow_lt_pow_right (by decide)
  unfold Ieee.Format.width
  omega
theorem FR.neg {k : FloatKind} {r x : Nat} (h : FR k r x) : FR k (Op.negFloat k r) (fneg k x) := by
  refine ⟨?_, negFloat_lt k r h.lt⟩
  unfold fneg
  rw [← h.eq]
  cases hn : isNan k r
  · rw [canon_of_not hn]
  · rw [canon_of_nan hn, canon_of_nan ((negFloat_nan k r).trans hn), canon_of_nan ((negFloat_nan k _).trans (isNan_qnan k))]
theorem evUn_sound {P : Program} {op : UnOp} {x m : MV} (h : evUn op x = some m) {w : World} {G : GT} {ρ : RhoT} {ok : OkT} {v : Value} (r : Rep w G ρ ok x v) :
    ∃ u, (Op.unary op v).run P w = .ok u w ∧ Rep w G ρ ok m u := by
  unfold evUn at h
  split at h
  · cases h; cases r; exact ⟨_, rfl, .i _ _⟩
  · cases h; cases r with
    | f k r' x hr => exact ⟨_, rfl, .f _ _ _ hr.neg⟩
  · cases h; cases r; exact ⟨_, rfl, .b _⟩
  · cases h; cases r; exact ⟨_, rfl, .lb _⟩
  · cases h
theorem isBoolT_spec {E : Env} (hE : ∀ t i, E.ty t = some i → TyOK E.P t i) {t : TypeId} (h : isBoolT E t = true) : E.P.underlying t = some .bool := by
  unfold isBoolT at h
  split at h
  · rename_i ht
    obtain ⟨d, h1, h2⟩ := (hE _ _ ht).und
    cases d <;> simp [descIs] at h2
    exact h1
  · cases h
theorem run_equal_bool {P : Program} {t : TypeId} (h : P.underlying t = some .bool) (a b : Bool) {w : World} : (Op.equal t (.bool a) (.bool b)).run P w = .ok (a == b) w := by
  have key : ∀ d, (Op.equalIn (d + 1) t (.bool a) (.bool b)).run P w = .ok (a == b) w := by
    intro d
    simp [Op.equalIn, run_underlying h]
  exact key 9999
theorem run_eql_bool {P : Program} {t : TypeId} (h : P.underlying t = some .bool) (a b : Bool) {w : World} : (binOp .eql t (.bool a) (.bool b)).run P w = .ok (.bool (a == b)) w := by
  simp only [binOp, Sem.run_bind, run_equal_bool h, Result.andThen_ok, Sem.run_pure]
theorem run_neq_bool {P : Program} {t : TypeId} (h : P.underlying t = some .bool) (a b : Bool) {w : World} : (binOp .neq t (.bool a) (.bool b)).run P w = .ok (.bool (a != b)) w := by
  simp only [binOp, Sem.run_bind, run_equal_bool h, Result.andThen_ok, Sem.run_pure, bne]
theorem evBool_sound {P : Program} {op : BinOp} {t : TypeId} (ht : P.underlying t = some .bool) {a b : Bool} {m : MV} (h : evBool op a b = some m) (w : World) {G : GT} {ρ : RhoT} {ok : OkT} :
    ∃ q n, (binOp op t (.bool a) (.bool b)).run P w = .ok q { w with drawn := n } ∧ Rep w G ρ ok m q := by
  unfold evBool at h
  split at h
  · cases h; exact ⟨.bool (a == b), w.drawn, run_eql_bool ht a b, .b _⟩
  · cases h; exact ⟨.bool (a != b), w.drawn, run_neq_bool ht a b, .b _⟩
  · cases h
theorem evBin_sound {E : Env} (hE : ∀ t i, E.ty t = some i → TyOK E.P t i) {op : BinOp} {t : TypeId} {x y m : MV} (h : evBin E op t x y = some m) {w : World} {G : GT} {ρ : RhoT} {ok : OkT} {v u : Value}
    (r : Rep w G ρ ok x v) (s : Rep w G ρ ok y u) : ∃ q n, (binOp op t v u).run E.P w = .ok q { w with drawn := n } ∧ Rep w G ρ ok m q := by
  unfold evBin at h
  split at h
  · split at h
    · rename_i hk
      have := sameInt_eq hk; subst this
      cases r; cases s
      obtain ⟨v, e, hr⟩ := evInt_sound (P := E.P) (t := t) h w (G := G) (ρ := ρ) (ok := ok)
      exact ⟨v, w.drawn, e, hr⟩
    · cases h
  · split at h
    · rename_i hk
      have := sameFlt_eq hk; subst this
      cases r with
      | f k r' x hr =>
        cases s with
        | f k s' y hs => exact evFlt_sound hr hs h w
    · cases h
  all_goals first
    | (cases h; done)
    | (split at h
       · rename_i a b _ hb
         cases r; cases s
         exact evBool_sound (isBoolT_spec hE hb) h w
       · cases h)
end Go.Ev

namespace Go.Ev
/-! ## Parts of aggregates, loads -/
def nthM : List MV → Nat → Option MV
  | [], _ => none
  | x :: _, 0 => some x
  | _ :: r, n + 1 => nthM r n
def dropM : List MV → Nat → List MV
  | l, 0 => l
  | [], _ => []
  | _ :: r, n + 1 => dropM r n
def takeM : Nat → List MV → Option (List MV)
  | 0, _ => some []
  | _ + 1, [] => none
  | n + 1, x :: r => match takeM n r with
    | none => none
    | some t => some (x :: t)
theorem nthM_spec : ∀ {l : List MV} {n : Nat} {m : MV}, nthM l n = some m → n < l.length ∧ getM l n = m
  | x :: r, 0, m, h => by simp [nthM] at h; subst h; simp [getM]
  | x :: r, n + 1, m, h => by
    have := nthM_spec (l := r) (n := n) h
    simpa [getM] using this
theorem dropM_spec : ∀ (l : List MV) (n : Nat), (dropM l n).length = l.length - n ∧ ∀ j, getM (dropM l n) j = getM l (n + j)
  | l, 0 => by simp [dropM]
  | [], n + 1 => by simp [dropM, getM]
  | x :: r, n + 1 => by
    have := dropM_spec r n
    refine ⟨by simp [dropM, this.1], fun j => ?_⟩
    rw [dropM, this.2, Nat.add_right_comm]
    simp [getM]
theorem takeM_spec : ∀ {n : Nat} {l t : List MV}, takeM n l = some t → n ≤ l.length ∧ t.length = n ∧ ∀ j, j < n → getM t j = getM l j
  | 0, l, t, h => by simp [takeM] at h; subst h; simp
  | n + 1, [], t, h => by simp [takeM] at h
  | n + 1, x :: r, t, h => by
    unfold takeM at h
    split at h
    · cases h
    · rename_i t' ht
      cases h
      obtain ⟨h1, h2, h3⟩ := takeM_spec ht
      refine ⟨by simpa using h1, by simp [h2], fun j hj => ?_⟩
      cases j with
      | zero => simp [getM]
      | succ j => simpa [getM] using h3 j (by omega)
def aggK : TK → Bool
  | .struct _ => true
  | .array _ _ => true
  | _ => false
section
variable {P : Program} {t : TypeId} {i : TI} (w : World)
theorem TyOK.run_isAgg (h : TyOK P t i) : (isAgg t).run P w = .ok (aggK i.k) w := by
  obtain ⟨d, h1, h2⟩ := h.und
  unfold isAgg
  rw [Sem.run_bind, run_underlying h1, Result.andThen_ok]
  cases d <;> cases hk : i.k <;> simp_all [descIs, aggK]
theorem TyOK.run_sizeOf (h : TyOK P t i) : (sizeOf t).run P w = .ok i.size w := by
  obtain ⟨info, h1, h2, _⟩ := h.info
  simp [sizeOf, typeInfo, h1, h2]
theorem TyOK.run_zero (h : TyOK P t i) : (zeroValue t).run P w = .ok i.zero w := by
  obtain ⟨info, h1, _, _, h2⟩ := h.info
  simp [zeroValue, typeInfo, h1, h2]
end
theorem addr_add (b off j : Nat) : (⟨b, off, none⟩ : Addr).add j = ⟨b, off + j, none⟩ := by
  unfold Addr.add
  split <;> simp_all
def partM (i : TI) (l : List MV) (off : Nat) : Option MV :=
  match aggK i.k with
  | true => match takeM i.size (dropM l off) with
    | some t => some (.agg t)
    | none => none
  | false => nthM l off
theorem part_sound {P : Program} {t : TypeId} {i : TI} (h : TyOK P t i) {w : World} {G : GT} {ρ : RhoT} {ok : OkT} {l : List MV} {vs : Array Value} (hl : l.length = vs.size)
    (hr : ∀ j, j < l.length → Rep w G ρ ok (getM l j) (vs.getD j undef)) {off : Nat} {m : MV} (hp : partM i l off = some m) :
    ∃ v, (part t vs off).run P w = .ok v w ∧ Rep w G ρ ok m v := by
  unfold partM at hp
  unfold part
  rw [Sem.run_bind, h.run_isAgg, Result.andThen_ok]
  split at hp
  · rename_i hk
    split at hp
    · rename_i t' ht
      cases hp
      obtain ⟨h1, h2, h3⟩ := takeM_spec ht
      have hd := dropM_spec l off
      rw [hd.1] at h1
      refine ⟨.agg (vs.extract off (off + i.size)), by simp [hk, h.run_sizeOf], .agg _ _ (by simp; omega) fun j hj => ?_⟩
      rw [h2] at hj
      rw [h3 j hj, hd.2]
      have := hr (off + j) (by omega)
      have e : (vs.extract off (off + i.size)).getD j undef = vs.getD (off + j) undef := by
        simp only [Array.getD_eq_getD_getElem?, Array.getElem?_extract]
        rw [if_pos (by omega)]
      rw [e]; exact this
    · cases hp
  · rename_i hk
    obtain ⟨h1, h2⟩ := nthM_spec hp
    have hlt : off < vs.size := by omega
    refine ⟨vs[off], by simp [hk, hlt], ?_⟩
    have := hr off h1
    rw [h2] at this
    simpa [Array.getD, hlt] using this
theorem load_sound {P : Program} {t : TypeId} {i : TI} (h : TyOK P t i) {w : World} {G : GT} {ρ : RhoT} {ok : OkT} {l : List MV} {b off0 off : Nat} {u : Nat → Value}
    (hc : ∀ j, j < l.length → w.cell? ⟨b, off0 + j, none⟩ = some (u j)) (hr : ∀ j, j < l.length → Rep w G ρ ok (getM l j) (u j)) {m : MV} (hp : partM i l off = some m) :
    ∃ v, (loadVar t ⟨b, off0 + off, none⟩).run P w = .ok v w ∧ Rep w G ρ ok m v := by
  unfold partM at hp
  unfold loadVar
  rw [Sem.run_bind, h.run_isAgg, Result.andThen_ok]
  split at hp
  · rename_i hk
    split at hp
    · rename_i t' ht
      cases hp
      obtain ⟨h1, h2, h3⟩ := takeM_spec ht
      have hd := dropM_spec l off
      rw [hd.1] at h1
      have hld := run_loadCells (P := P) w ⟨b, off0 + off, none⟩ i.size (fun j => u (off + j)) (fun j hj => by
        rw [addr_add, Nat.add_assoc]; exact hc _ (by omega))
      refine ⟨.agg ((List.range i.size).map fun j => u (off + j)).toArray, by simp [hk, h.run_sizeOf, hld], .agg _ _ (by simp [h2]) fun j hj => ?_⟩
      rw [h2] at hj
      rw [h3 j hj, hd.2]
      have := hr (off + j) (by omega)
      have e : (((List.range i.size).map fun j => u (off + j)).toArray).getD j undef = u (off + j) := by
        simp [Array.getD, hj]
      rw [e]; exact this
    · cases hp
  · rename_i hk
    obtain ⟨h1, h2⟩ := nthM_spec hp
    refine ⟨u off, by simp [hk, hc off h1], ?_⟩
    have := hr off h1
    rw [h2] at this
    exact this
def fldOf (E : Env) (s : TypeId) (f : Nat) : Option (Nat × TypeId) :=
  match E.ty s with
  | some ⟨.struct fs, _, _, _⟩ => nthF fs f
  | _ => none
where
  nthF : List (Nat × TypeId) → Nat → Option (Nat × TypeId)
    | [], _ => none
    | x :: _, 0 => some x
    | _ :: r, n + 1 => nthF r n
theorem nthF_spec : ∀ {l : List (Nat × TypeId)} {n : Nat} {x : Nat × TypeId}, fldOf.nthF l n = some x → l[n]? = some x
  | y :: r, 0, x, h => by simpa [fldOf.nthF] using h
  | y :: r, n + 1, x, h => by simpa using nthF_spec (l := r) h
  | [], _, _, h => by simp [fldOf.nthF] at h
theorem fldOf_spec {E : Env} (hE : ∀ t i, E.ty t = some i → TyOK E.P t i) {s f off ft : Nat} (h : fldOf E s f = some (off, ft)) :
    ∃ fs fd, E.P.underlying s = some (.struct fs) ∧ fs[f]? = some fd ∧ fd.offset = off ∧ fd.type = ft := by
  unfold fldOf at h
  split at h
  · rename_i fs _ _ _ ht
    obtain ⟨d, h1, h2⟩ := (hE _ _ ht).und
    cases d with
    | struct gs =>
      simp only [descIs] at h2
      subst h2
      have := nthF_spec h
      rw [List.getElem?_map] at this
      cases hg : gs[f]? with
      | none => simp [hg] at this
      | some fd =>
        simp [hg] at this
        exact ⟨gs, fd, h1, hg, this.1, this.2⟩
    | _ => simp [descIs] at h2
  · cases h
def evField (E : Env) (s : TypeId) (x : MV) (f : Nat) : Option MV :=
  match x with
  | .agg l => match fldOf E s f with
    | some (off, ft) => match E.ty ft with
      | some i => partM i l off
      | none => none
    | none => none
  | _ => none
theorem evField_sound {E : Env} (hE : ∀ t i, E.ty t = some i → TyOK E.P t i) {s : TypeId} {x m : MV} {f : Nat} (h : evField E s x f = some m) {w : World} {G : GT} {ρ : RhoT} {ok : OkT} {v : Value}
    (r : Rep w G ρ ok x v) : ∃ u, (Instr.field s v f).run E.P w = .ok u w ∧ Rep w G ρ ok m u := by
  unfold evField at h
  split at h
  · rename_i l
    split at h
    · rename_i off ft hf
      split at h
      · rename_i i hi
        obtain ⟨fs, fd, h1, h2, h3, h4⟩ := fldOf_spec hE hf
        cases r with
        | agg _ vs hl hr =>
          obtain ⟨u, e, hu⟩ := part_sound (hE _ _ hi) hl hr h
          refine ⟨u, ?_, hu⟩
          unfold Instr.field
          rw [Sem.run_bind, run_underlying h1, Result.andThen_ok]
          simp only [h2, asAgg, Sem.run_bind, Sem.run_pure, Result.andThen_ok, h3, h4]
          exact e
      · cases h
    · cases h
  · cases h
def evFieldAddr (E : Env) (s : TypeId) (x : MV) (f : Nat) : Option MV :=
  match fldOf E s f with
  | some (off, ft) => match E.ty ft with
    | some i => match i.size with
      | 0 => none
      | _ + 1 => match x with
        | .p id o => some (.p id (o + off))
        | .pe id sz k j => some (.pe id sz k (j + off))
        | .rp cells => some (.rp (dropM cells off))
        | _ => none
    | none => none
  | none => none
theorem run_fieldAt {P : Program} {s : TypeId} {f : Nat} {fs : Array Field} {fd : Field} {i : TI} (h1 : P.underlying s = some (.struct fs)) (h2 : fs[f]? = some fd) (hi : TyOK P fd.type i)
    (hs : i.size ≠ 0) (w : World) (a : Addr) : (Instr.fieldAt s (.pointer (some a)) f).run P w = .ok (.pointer (some (a.add fd.offset))) w := by
  unfold Instr.fieldAt
  rw [Sem.run_bind, run_underlying h1, Result.andThen_ok]
  simp only [h2, Instr.sureAddr, Sem.run_bind, Sem.run_pure, Result.andThen_ok, fieldPlace, hi.run_sizeOf, if_neg hs]
theorem evFieldAddr_sound {E : Env} (hE : ∀ t i, E.ty t = some i → TyOK E.P t i) {s : TypeId} {x m : MV} {f : Nat} (h : evFieldAddr E s x f = some m) {w : World} {G : GT} {ρ : RhoT} {ok : OkT} {v : Value}
    (r : Rep w G ρ ok x v) : ∃ u, (Instr.fieldAt s v f).run E.P w = .ok u w ∧ Rep w G ρ ok m u := by
  unfold evFieldAddr at h
  split at h
  · rename_i off ft hf
    split at h
    · rename_i i hi
      obtain ⟨fs, fd, h1, h2, h3, h4⟩ := fldOf_spec hE hf
      subst h4
      split at h
      · cases h
      · rename_i k hk
        have hs : i.size ≠ 0 := by rw [hk]; exact Nat.succ_ne_zero _
        have run := fun a => run_fieldAt h1 h2 (hE _ _ hi) hs w a
        split at h
        · cases h; cases r with
          | p id o blk hρ =>
            exact ⟨_, run _, by rw [addr_add, h3]; exact .p _ _ _ hρ⟩
        · cases h; cases r with
          | pe id sz k j blk hρ =>
            exact ⟨_, run _, by rw [addr_add, h3, Nat.add_assoc]; exact .pe _ _ _ _ _ hρ⟩
        · rename_i cells
          cases h; cases r with
          | rp _ blk o u hok hc h1c hr =>
            refine ⟨_, run _, ?_⟩
            rw [addr_add, h3]
            have hd := dropM_spec cells off
            refine .rp _ blk (o + off) (fun j => u (off + j)) (fun hp => hok (by omega)) (fun j hj => ?_) (fun j hj => h1c _ (by omega)) (fun j hj => ?_)
            · rw [Nat.add_assoc]; exact hc _ (by omega)
            · rw [hd.2]; exact hr _ (by omega)
        · cases h
    · cases h
  · cases h
def evLoad (E : Env) (H : List (Nat × Blk)) (t : TypeId) (x : MV) : Option MV :=
  match E.ty t with
  | some i => match x with
    | .p id off => match look H id with
      | some (.cells l) => partM i l off
      | _ => none
    | .rp cells => partM i cells 0
    | _ => none
  | none => none
theorem cell?_cells {w : World} {b : Nat} {c : Array Value} {T : TypeId} {fr : Nat × Nat} (h : w.heap[b]? = some (.cells c T fr)) {j : Nat} (hj : j < c.size) :
    w.cell? ⟨b, j, none⟩ = some (c.getD j undef) := by
  simp [World.cell?, h, Array.getD, hj]
theorem rep0_mono {w : World} {G : GT} {ρ : RhoT} {ok : OkT} {m : MV} {v : Value} (h : Rep w G0 rho0 ok m v) : Rep w G ρ ok m v :=
  h.mono (Keeps.refl w) (fun _ _ _ e => by simp [G0] at e) (fun _ _ e => by simp [rho0] at e) (fun b hb => ⟨hb, rfl⟩)
theorem evLoad_sound {E : Env} (hE : ∀ t i, E.ty t = some i → TyOK E.P t i) {cx : Cx} {ρ : RhoT} {H : List (Nat × Blk)} {nx : Nat} {w : World} (hW : SatW cx ρ H nx w) {t : TypeId} {x m : MV}
    (h : evLoad E H t x = some m) {G : GT} {v : Value} (r : Rep w G ρ (okS cx ρ w) x v) : ∃ u, (Instr.loadAt t v).run E.P w = .ok u w ∧ Rep w G ρ (okS cx ρ w) m u := by
  unfold evLoad at h
  split at h
  · rename_i i hi
    split at h
    · rename_i id off
      split at h
      · rename_i l hl
        obtain ⟨b, c, T, h1, h2, h3, _, h4⟩ := hW.blocks _ _ hl
        cases r with
        | p _ _ blk hρ =>
          obtain rfl : b = blk := by rw [hρ] at h1; exact (Option.some.inj h1).symm
          have := load_sound (hE _ _ hi) (w := w) (G := G) (ρ := ρ) (ok := okS cx ρ w) (l := l) (b := b) (off0 := 0) (off := off) (u := fun j => c.getD j undef)
            (fun j hj => by rw [Nat.zero_add]; exact cell?_cells h2 (by omega)) (fun j hj => (h4 j hj).mono (Keeps.refl w) (fun _ _ _ e => by simp [G0] at e) (fun _ _ e => e) (fun _ e => ⟨e, rfl⟩)) h
          obtain ⟨u, e, hu⟩ := this
          refine ⟨u, ?_, hu⟩
          simp only [Instr.loadAt, Instr.sureAddr, Sem.run_bind, Sem.run_pure, Result.andThen_ok]
          rw [Nat.zero_add] at e
          exact e
      · cases h
    · rename_i cells
      cases r with
      | rp _ blk o u hok hc _ hr =>
        have := load_sound (hE _ _ hi) (w := w) (G := G) (ρ := ρ) (ok := okS cx ρ w) (l := cells) (b := blk) (off0 := o) (off := 0) (u := u) hc (fun j hj => rep0_mono (hr j hj)) h
        obtain ⟨u, e, hu⟩ := this
        refine ⟨u, ?_, hu⟩
        simp only [Instr.loadAt, Instr.sureAddr, Sem.run_bind, Sem.run_pure, Result.andThen_ok]
        exact e
    · cases h
  · cases h
end Go.Ev

namespace Go.Ev
/-! ## How states turn: a new block; a block written; a row that moves to a new block -/
theorem heap_alloc_lt (w : World) (o : Obj) {k : Nat} (h : k < w.heap.size) : (w.alloc o).heap[k]? = w.heap[k]? := by
  show (w.heap.push o)[k]? = _
  rw [Array.getElem?_push, if_neg (by omega)]
theorem heap_alloc_new (w : World) (o : Obj) : (w.alloc o).heap[w.heap.size]? = some o := by
  show (w.heap.push o)[w.heap.size]? = _
  simp
theorem lt_of_heap {w : World} {b : Nat} {o : Obj} (h : w.heap[b]? = some o) : b < w.heap.size := (Array.getElem?_eq_some_iff.1 h).1
theorem Keeps.alloc (w : World) (o : Obj) : Keeps w (w.alloc o) := fun b c T fr h => ⟨c, by rw [heap_alloc_lt w o (lt_of_heap h)]; exact h, rfl⟩
theorem BelowX.alloc {X : Nat → Prop} {a w : World} (h : BelowX X a w) (o : Obj) : BelowX X a (w.alloc o) :=
  ⟨h.os, h.tape, h.output, by have := h.size; simp; omega, fun k hk hx => by rw [heap_alloc_lt w o (Nat.lt_of_lt_of_le hk h.size)]; exact h.block k hk hx, h.keeps.trans (Keeps.alloc w o)⟩
def rhoNew (ρ : RhoT) (id b : Nat) : RhoT := fun i => if i = id then some b else ρ i
theorem rhoNew_old {ρ : RhoT} {id : Nat} (hid : ρ id = none) (b : Nat) : ∀ i c, ρ i = some c → rhoNew ρ id b i = some c := by
  intro i c h
  unfold rhoNew
  rw [if_neg (by intro e; subst e; rw [hid] at h; cases h)]
  exact h
theorem okS_lt {cx : Cx} {ρ : RhoT} {w : World} {H : List (Nat × Blk)} {nx : Nat} (hW : SatW cx ρ H nx w) {b : Nat} (h : okS cx ρ w b) : b < w.heap.size := by
  rcases h with h | h
  · exact Nat.lt_of_lt_of_le (hW.okA b h).1 hW.below.size
  · exact h.2.1
theorem okS_ne {cx : Cx} {ρ : RhoT} {w : World} {H : List (Nat × Blk)} {nx : Nat} (hW : SatW cx ρ H nx w) {b : Nat} (h : okS cx ρ w b) : ∀ i, ρ i ≠ some b := by
  rcases h with h | h
  · intro i hi
    obtain ⟨h1, h2⟩ := hW.okA b h
    rcases (hW.rng i b hi).2 with h3 | h3
    · omega
    · exact h2 h3
  · exact h.2.2
theorem SatR.alloc {cx : Cx} {su : Sus} {n : Nat} {G : GT} {S : St} {a : Act} {w : World} {ρ : RhoT} (h : SatR cx su n G S a w ρ) {c : Array Value} {T : TypeId} {id : Nat} (hid : ρ id = none)
    {nx' : Nat} (hnx : S.nx ≤ nx') (hlt : id < nx') {blk : Blk}
    (hb : ∀ ok : OkT, (∀ b, okS cx ρ w b → ok b) → BlkOK (w.alloc (.cells c T)) (rhoNew ρ id w.heap.size) ok id blk) :
    SatR cx su n G { S with H := putL S.H id blk, nx := nx' } a (w.alloc (.cells c T)) (rhoNew ρ id w.heap.size) := by
  have hs := Keeps.alloc w (.cells c T)
  have hρ := rhoNew_old hid w.heap.size
  have hok : ∀ b, okS cx ρ w b → okS cx (rhoNew ρ id w.heap.size) (w.alloc (.cells c T)) b ∧ (w.alloc (.cells c T)).heap[b]? = w.heap[b]? := by
    intro b hb
    have hl := okS_lt h.W hb
    refine ⟨?_, heap_alloc_lt w _ hl⟩
    rcases hb with hb | hb
    · exact .inl hb
    · refine .inr ⟨hb.1, by simp; omega, fun i => ?_⟩
      unfold rhoNew
      split
      · intro e; simp at e; omega
      · exact hb.2.2 i
  refine ⟨⟨h.W.below.alloc _, ?_, ?_, ?_, ?_, ?_, h.W.okA⟩, ⟨h.F.defers, h.F.size, h.F.frame.mono hs (fun _ _ _ e => e) hρ hok⟩, h.K.mono hs hρ hok⟩
  · intro i j b hi hj
    unfold rhoNew at hi hj
    split at hi <;> split at hj
    · omega
    · have := (h.W.rng j b hj).1; simp at hi; omega
    · have := (h.W.rng i b hi).1; simp at hj; omega
    · exact h.W.inj i j b hi hj
  · intro i b hi
    unfold rhoNew at hi
    split at hi
    · simp at hi; subst hi
      exact ⟨by simp, .inl h.W.below.size⟩
    · have := h.W.rng i b hi
      exact ⟨by simp; omega, this.2⟩
  · intro j blk' hl
    dsimp at hl ⊢
    rw [look_put] at hl
    split at hl
    · omega
    · have := h.W.hlt j blk' hl; omega
  · intro i hi
    unfold rhoNew
    rw [if_neg (by dsimp at hi; omega)]
    exact h.W.nx i (by dsimp at hi; omega)
  · intro j blk' hl
    dsimp at hl
    rw [look_put] at hl
    split at hl
    · cases hl
      rename_i e; subst e
      exact hb _ fun b hq => (hok b hq).1
    · rename_i hne
      refine (h.W.blocks j blk' hl).mono hs hρ (fun e => ?_) hok (fun b hjb => heap_alloc_lt w _ (h.W.rng j b hjb).1)
      unfold rhoNew; rw [if_neg hne]; exact e
def World.putRow (w : World) (b : Nat) (c : Array Value) (T : TypeId) : World := { w with heap := w.heap.setIfInBounds b (.cells c T) }
theorem putRow_same {w : World} {b : Nat} (h : b < w.heap.size) (c : Array Value) (T : TypeId) : (World.putRow w b c T).heap[b]? = some (.cells c T) := by
  simp [World.putRow, h]
theorem putRow_ne {w : World} {b k : Nat} (h : k ≠ b) (c : Array Value) (T : TypeId) : (World.putRow w b c T).heap[k]? = w.heap[k]? := by
  simp [World.putRow, Array.getElem?_setIfInBounds_ne (Ne.symm h)]
theorem Keeps.putRow {w : World} {b : Nat} {c c' : Array Value} {T : TypeId} (h : w.heap[b]? = some (.cells c T (0, 0))) (hc : c'.size = c.size) : Keeps w (World.putRow w b c' T) := by
  intro k d U fr hk
  by_cases e : k = b
  · subst e
    rw [h] at hk
    cases hk
    exact ⟨c', putRow_same (lt_of_heap h) _ _, hc⟩
  · exact ⟨d, by rw [putRow_ne e]; exact hk, rfl⟩
theorem SatR.putRow {cx : Cx} {su : Sus} {n : Nat} {G : GT} {S : St} {a : Act} {w : World} {ρ : RhoT} (h : SatR cx su n G S a w ρ) {id b : Nat} (hid : ρ id = some b) {c c' : Array Value} {T : TypeId}
    (hb : w.heap[b]? = some (.cells c T (0, 0))) (hc : c'.size = c.size) {blk : Blk}
    (hB : ∀ ok : OkT, (∀ k, okS cx ρ w k → ok k ∧ (World.putRow w b c' T).heap[k]? = w.heap[k]?) → BlkOK (World.putRow w b c' T) ρ ok id blk) :
    SatR cx su n G { S with H := putL S.H id blk } a (World.putRow w b c' T) ρ := by
  have hs := Keeps.putRow hb hc
  have hsz : (World.putRow w b c' T).heap.size = w.heap.size := by simp [World.putRow]
  have hok : ∀ k, okS cx ρ w k → okS cx ρ (World.putRow w b c' T) k ∧ (World.putRow w b c' T).heap[k]? = w.heap[k]? := by
    intro k hk
    refine ⟨?_, putRow_ne (fun e => by subst e; exact okS_ne h.W hk id hid) _ _⟩
    rcases hk with hk | hk
    · exact .inl hk
    · exact .inr ⟨hk.1, by rw [hsz]; exact hk.2.1, hk.2.2⟩
  refine ⟨⟨⟨h.W.below.os, h.W.below.tape, h.W.below.output, by rw [hsz]; exact h.W.below.size, ?_, h.W.below.keeps.trans hs⟩, h.W.inj, ?_, ?_, h.W.nx, ?_, h.W.okA⟩,
    ⟨h.F.defers, h.F.size, h.F.frame.mono hs (fun _ _ _ e => e) (fun _ _ e => e) hok⟩, h.K.mono hs (fun _ _ e => e) hok⟩
  · intro k hk' hx
    rw [putRow_ne]
    · exact h.W.below.block k hk' hx
    · intro e
      subst e
      rcases (h.W.rng id k hid).2 with h3 | h3
      · omega
      · exact hx h3
  · intro i k hi
    rw [hsz]; exact h.W.rng i k hi
  · intro j blk' hl
    dsimp at hl ⊢
    rw [look_put] at hl
    split at hl
    · rename_i e; subst e
      rcases Nat.lt_or_ge j S.nx with h1 | h1
      · exact h1
      · rw [h.W.nx j h1] at hid; cases hid
    · exact h.W.hlt j blk' hl
  · intro j blk' hl
    dsimp at hl
    rw [look_put] at hl
    split at hl
    · cases hl
      rename_i e; subst e
      exact hB _ hok
    · rename_i hne
      refine (h.W.blocks j blk' hl).mono hs (fun _ _ e => e) (fun e => e) hok (fun k hjk => putRow_ne (fun e => hne ?_) _ _)
      subst e
      exact h.W.inj j id k hjk hid
/-! ### What names a block is forgotten -/
def purgeF (id : Nat) : List (Nat × MV) → List (Nat × MV)
  | [] => []
  | (s, m) :: r => match ment id m with
    | true => (s, .und) :: purgeF id r
    | false => (s, m) :: purgeF id r
def purgeM (id : Nat) : List MV → List MV
  | [] => []
  | m :: r => match ment id m with
    | true => .und :: purgeM id r
    | false => m :: purgeM id r
def purgeB (id : Nat) : Blk → Blk
  | .cells l => .cells (purgeM id l)
  | b => b
def purgeH (id : Nat) : List (Nat × Blk) → List (Nat × Blk)
  | [] => []
  | (s, m) :: r => (s, purgeB id m) :: purgeH id r
def purgeS (id : Nat) : List (List (Nat × MV)) → List (List (Nat × MV))
  | [] => []
  | F :: r => purgeF id F :: purgeS id r
theorem look_purgeF {id : Nat} {F : List (Nat × MV)} {s : Nat} {m : MV} (h : look (purgeF id F) s = some m) : ∃ m', look F s = some m' ∧ (m = .und ∨ (m = m' ∧ ment id m = false)) := by
  induction F with
  | nil => simp [purgeF, look] at h
  | cons x r ih =>
    obtain ⟨k, y⟩ := x
    unfold purgeF at h
    split at h
    · simp only [look] at h ⊢
      split at h
      · exact ⟨y, rfl, .inl (by simpa using h.symm)⟩
      · exact ih h
    · rename_i hm
      simp only [look] at h ⊢
      split at h
      · simp at h; subst h; exact ⟨y, rfl, .inr ⟨rfl, hm⟩⟩
      · exact ih h
theorem purgeM_spec (id : Nat) : ∀ (l : List MV), (purgeM id l).length = l.length ∧ ∀ j, getM (purgeM id l) j = .und ∨ (getM (purgeM id l) j = getM l j ∧ ment id (getM l j) = false)
  | [] => by simp [purgeM, getM]
  | m :: r => by
    have ih := purgeM_spec id r
    unfold purgeM
    split
    · refine ⟨by simp [ih.1], fun j => ?_⟩
      cases j with
      | zero => exact .inl (by simp [getM])
      | succ j => simpa [getM] using ih.2 j
    · rename_i hm
      refine ⟨by simp [ih.1], fun j => ?_⟩
      cases j with
      | zero => exact .inr (by simpa [getM] using hm)
      | succ j => simpa [getM] using ih.2 j
theorem look_purgeH {id : Nat} {H : List (Nat × Blk)} {s : Nat} {m : Blk} (h : look (purgeH id H) s = some m) : ∃ m', look H s = some m' ∧ m = purgeB id m' := by
  induction H with
  | nil => simp [purgeH, look] at h
  | cons x r ih =>
    obtain ⟨k, y⟩ := x
    unfold purgeH at h
    simp only [look] at h ⊢
    split at h
    · exact ⟨y, rfl, by simpa using h.symm⟩
    · exact ih h
def rhoSet (ρ : RhoT) (id : Nat) (o : Option Nat) : RhoT := fun i => if i = id then o else ρ i
theorem FrOK.purge {w w' : World} (hs : Keeps w w') {G : GT} {ρ ρ' : RhoT} {ok ok' : OkT} {F : List (Nat × MV)} {a : Act} {id : Nat} (h : FrOK w G ρ ok F a)
    (hρ : ∀ i b, i ≠ id → ρ i = some b → ρ' i = some b) (hok : ∀ b, ok b → ok' b ∧ w'.heap[b]? = w.heap[b]?) : FrOK w' G ρ' ok' (purgeF id F) a := by
  intro s m hl
  obtain ⟨m', h1, h2⟩ := look_purgeF hl
  obtain ⟨v, hv, r⟩ := h s m' h1
  refine ⟨v, hv, ?_⟩
  rcases h2 with rfl | ⟨rfl, h2⟩
  · exact .und _
  · refine r.mono' hs (fun _ _ _ e => e) (fun i b hm e => hρ i b ?_ e) hok
    intro e; subst e; rw [h2] at hm; cases hm
theorem StkOK.purge {w w' : World} (hs : Keeps w w') {ρ ρ' : RhoT} {ok ok' : OkT} {id : Nat} (hρ : ∀ i b, i ≠ id → ρ i = some b → ρ' i = some b)
    (hok : ∀ b, ok b → ok' b ∧ w'.heap[b]? = w.heap[b]?) : ∀ {Fs : List (List (Nat × MV))} {as : List Act} {Gs : List GT}, StkOK w ρ ok Fs as Gs → StkOK w' ρ' ok' (purgeS id Fs) as Gs
  | [], [], [], _ => trivial
  | _ :: _, _ :: _, _ :: _, h => ⟨h.1.purge hs hρ hok, StkOK.purge hs hρ hok h.2⟩
  | [], _ :: _, _, h => h.elim
  | [], [], _ :: _, h => h.elim
  | _ :: _, [], _, h => h.elim
  | _ :: _, _ :: _, [], h => h.elim
theorem BlkOK.purge {w w' : World} (hs : Keeps w w') {ρ ρ' : RhoT} {ok ok' : OkT} {id j : Nat} {blk : Blk} (h : BlkOK w ρ ok j blk) (hj : j ≠ id)
    (hρ : ∀ i b, i ≠ id → ρ i = some b → ρ' i = some b) (hn : ρ j = none → ρ' j = none) (hok : ∀ b, ok b → ok' b ∧ w'.heap[b]? = w.heap[b]?)
    (hb : ∀ b, ρ j = some b → w'.heap[b]? = w.heap[b]?) : BlkOK w' ρ' ok' j (purgeB id blk) := by
  cases blk with
  | cells l =>
    obtain ⟨b, c, T, h1, h2, h3, h5, h4⟩ := h
    have hp := purgeM_spec id l
    refine ⟨b, c, T, hρ _ _ hj h1, (hb b h1).trans h2, h3.trans hp.1.symm, h5, fun k hk => ?_⟩
    rw [hp.1] at hk
    rcases hp.2 k with e | ⟨e, hm⟩
    · rw [e]; exact .und _
    · rw [e]
      refine (h4 k hk).mono' hs (fun _ _ _ e => e) (fun i b hm' e => hρ i b ?_ e) hok
      intro e'; subst e'; rw [hm] at hm'; cases hm'
  | rows sz m get =>
    rcases h with ⟨h1, h2⟩ | ⟨b, c, T, h1, h2, h3, h5, h4⟩
    · exact .inl ⟨h1, hn h2⟩
    · exact .inr ⟨b, c, T, hρ _ _ hj h1, (hb b h1).trans h2, h3, h5, fun i hi k hk => (h4 i hi k hk).mono hs (fun _ _ _ e => e) (fun _ _ e => e) hok⟩
theorem SatR.regrow {cx : Cx} {su : Sus} {n : Nat} {G : GT} {S : St} {a : Act} {w : World} {ρ : RhoT} (h : SatR cx su n G S a w ρ) {c : Array Value} {T : TypeId} {id : Nat} (hid : id < S.nx) {blk : Blk}
    (hb : ∀ ok : OkT, (∀ b, okS cx ρ w b → ok b) → BlkOK (w.alloc (.cells c T)) (rhoSet ρ id (some w.heap.size)) ok id blk) :
    SatR cx su n G { F := purgeF id S.F, stk := purgeS id S.stk, H := putL (purgeH id S.H) id blk, nx := S.nx } a (w.alloc (.cells c T)) (rhoSet ρ id (some w.heap.size)) := by
  have hs := Keeps.alloc w (.cells c T)
  have hρ : ∀ i b, i ≠ id → ρ i = some b → rhoSet ρ id (some w.heap.size) i = some b := by
    intro i b hi e; unfold rhoSet; rw [if_neg hi]; exact e
  have hok : ∀ b, okS cx ρ w b → okS cx (rhoSet ρ id (some w.heap.size)) (w.alloc (.cells c T)) b ∧ (w.alloc (.cells c T)).heap[b]? = w.heap[b]? := by
    intro b hb
    have hl := okS_lt h.W hb
    refine ⟨?_, heap_alloc_lt w _ hl⟩
    rcases hb with hb | hb
    · exact .inl hb
    · refine .inr ⟨hb.1, by simp; omega, fun i => ?_⟩
      unfold rhoSet
      split
      · intro e; simp at e; omega
      · exact hb.2.2 i
  refine ⟨⟨h.W.below.alloc _, ?_, ?_, ?_, ?_, ?_, h.W.okA⟩, ⟨h.F.defers, h.F.size, h.F.frame.purge hs hρ hok⟩, h.K.purge hs hρ hok⟩
  · intro i j b hi hj
    unfold rhoSet at hi hj
    split at hi <;> split at hj
    · omega
    · have := (h.W.rng j b hj).1; simp at hi; omega
    · have := (h.W.rng i b hi).1; simp at hj; omega
    · exact h.W.inj i j b hi hj
  · intro i b hi
    unfold rhoSet at hi
    split at hi
    · simp at hi; subst hi
      exact ⟨by simp, .inl h.W.below.size⟩
    · have := h.W.rng i b hi
      exact ⟨by simp; omega, this.2⟩
  · intro j blk' hl
    dsimp at hl ⊢
    rw [look_put] at hl
    split at hl
    · omega
    · obtain ⟨m', h1, _⟩ := look_purgeH hl
      exact h.W.hlt j m' h1
  · intro i hi
    unfold rhoSet
    rw [if_neg (by dsimp at hi; omega)]
    exact h.W.nx i hi
  · intro j blk' hl
    dsimp at hl
    rw [look_put] at hl
    split at hl
    · cases hl
      rename_i e; subst e
      exact hb _ fun b hq => (hok b hq).1
    · rename_i hne
      obtain ⟨m', h1, rfl⟩ := look_purgeH hl
      refine (h.W.blocks j m' h1).purge hs hne hρ (fun e => ?_) hok (fun b hjb => heap_alloc_lt w _ (h.W.rng j b hjb).1)
      unfold rhoSet; rw [if_neg hne]; exact e
end Go.Ev

namespace Go.Ev
/-! ## Operations that leave the state alone -/
def operL : Op → List Operand
  | .move x => [x]
  | .assign x => [x]
  | .load _ x => [x]
  | .nilCheck x => [x]
  | .binOp _ _ x y _ => [x, y]
  | .unOp _ _ x => [x]
  | .convert _ _ x => [x]
  | .fieldAddr _ x _ => [x]
  | .field _ x _ => [x]
  | .indexAddr _ x i => [x, i]
  | .index _ x i => [x, i]
  | .extract x _ => [x]
  | .slice _ x none none none => [x]
  | .slice _ x (some l) none none => [x, l]
  | .slice _ x none (some h) none => [x, h]
  | .slice _ x (some l) (some h) none => [x, l, h]
  | .slice _ x none (some h) (some m) => [x, h, m]
  | .slice _ x (some l) (some h) (some m) => [x, l, h, m]
  | .build _ ps => ps.toList.map (·.2)
  | .buildSlice _ _ ps => ps.toList.map (·.2)
  | .makeFunc _ first caps => first.toList ++ caps.toList
  | .makeSlice _ l c => [l, c]
  | .box _ x => [x]
  | .store _ a x => [a, x]
  | .call ⟨.value f, args, _⟩ => f :: args.toList
  | .call ⟨.builtin _, args, _⟩ => args.toList
  | _ => []
def widen (b : Nat) : Nat := match FloatKind.f32.format.read b with
  | .nan _ _ => qnan .f64
  | d => FloatKind.f64.format.write d
def evConv (E : Env) (src dst : TypeId) (x : MV) : Option MV :=
  match E.ty src with
  | none => none
  | some _ => match E.ty dst with
    | some ⟨.int k, _, _, _⟩ => match x with
      | .i _ n => some (.i k (k.wrap n))
      | _ => none
    | some ⟨.flt k, _, _, _⟩ => match x with
      | .i _ n => some (.f k (floatOfInt k n))
      | .f s b => match sameFlt s k with
        | true => some (.f k b)
        | false => match s, k with
          | .f32, .f64 => some (.f .f64 (widen b))
          | _, _ => none
      | _ => none
    | _ => none
def spliceM : List MV → Nat → List MV → Option (List MV)
  | l, 0, [] => some l
  | [], _, _ => none
  | _ :: r, 0, y :: ys => match spliceM r 0 ys with
    | some t => some (y :: t)
    | none => none
  | x :: r, n + 1, ys => match spliceM r n ys with
    | some t => some (x :: t)
    | none => none
theorem spliceM_spec : ∀ {l : List MV} {off : Nat} {ys t : List MV}, spliceM l off ys = some t → t.length = l.length ∧ off + ys.length ≤ l.length ∧
    ∀ j, getM t j = if off ≤ j ∧ j < off + ys.length then getM ys (j - off) else getM l j
  | l, 0, [], t, h => by
    simp [spliceM] at h; subst h
    refine ⟨rfl, by simp, fun j => ?_⟩
    rw [if_neg (by simp)]
  | [], 0, y :: ys, t, h => by simp [spliceM] at h
  | [], n + 1, ys, t, h => by simp [spliceM] at h
  | x :: r, 0, y :: ys, t, h => by
    unfold spliceM at h
    split at h
    · rename_i t' ht
      cases h
      obtain ⟨h1, h2, h3⟩ := spliceM_spec ht
      refine ⟨by simp [h1], by simp at h2 ⊢; omega, fun j => ?_⟩
      cases j with
      | zero => simp [getM]
      | succ j =>
        have := h3 j
        simp only [Nat.zero_le, true_and, Nat.zero_add, List.length_cons, Nat.sub_zero] at this ⊢
        by_cases hj : j < ys.length
        · rw [if_pos (by omega)]
          rw [if_pos hj] at this
          simpa [getM] using this
        · rw [if_neg (by omega)]
          rw [if_neg hj] at this
          simpa [getM] using this
    · cases h
  | x :: r, n + 1, ys, t, h => by
    have h' : (match spliceM r n ys with | some t => some (x :: t) | none => none) = some t := by
      cases ys <;> simpa [spliceM] using h
    split at h'
    · rename_i t' ht
      cases h'
      obtain ⟨h1, h2, h3⟩ := spliceM_spec ht
      refine ⟨by simp [h1], by simp; omega, fun j => ?_⟩
      cases j with
      | zero => rw [if_neg (by omega)]; simp [getM]
      | succ j =>
        have := h3 j
        by_cases hj : n ≤ j ∧ j < n + ys.length
        · rw [if_pos (by omega)]
          rw [if_pos hj] at this
          rw [Nat.add_sub_add_right]
          simpa [getM] using this
        · rw [if_neg (by omega)]
          rw [if_neg hj] at this
          simpa [getM] using this
    · cases h'
def cellsM : MV → Option (List MV)
  | .agg l => some l
  | .und => none
  | .gd _ _ _ => none
  | .tup _ => none
  | m => some [m]
def ofVals : List Value → Option (List MV)
  | [] => some []
  | v :: r => match ofVal v with
    | none => none
    | some m => match ofVals r with
      | none => none
      | some t => some (m :: t)
def zeroM : Value → Option (List MV)
  | .agg cs => ofVals cs.toList
  | v => match ofVal v with
    | some m => some [m]
    | none => none
def fillM (place : Nat → Option (Nat × Nat)) : List MV → List Nat → List MV → Option (List MV)
  | l, [], [] => some l
  | l, i :: is, m :: ms => match place i with
    | none => none
    | some (off, size) => match cellsM m with
      | none => none
      | some c => match Nat.beq c.length size with
        | false => none
        | true => match spliceM l off c with
          | none => none
          | some l' => fillM place l' is ms
  | _, _, _ => none
def fldPlace (E : Env) (t : TypeId) (i : Nat) : Option (Nat × Nat) :=
  match fldOf E t i with
  | none => none
  | some (off, ft) => match E.ty ft with
    | none => none
    | some j => some (off, j.size)
def allTy (E : Env) : List (Nat × TypeId) → Bool
  | [] => true
  | (_, t) :: r => match E.ty t with
    | some _ => allTy E r
    | none => false
def noX : List MV → Bool
  | [] => true
  | .x _ :: _ => false
  | _ :: r => noX r
def evBuild (E : Env) (t : TypeId) (is : List Nat) (ms : List MV) : Option MV :=
  match noX ms with
  | false => none
  | true => match E.ty t with
    | some ⟨.struct fs, _, _, z⟩ => match allTy E fs with
      | false => none
      | true => match zeroM z with
        | none => none
        | some l => match fillM (fldPlace E t) l is ms with
          | some l' => some (.agg l')
          | none => none
    | some ⟨.array _ e, _, _, z⟩ => match E.ty e with
      | none => none
      | some j => match zeroM z with
        | none => none
        | some l => match fillM (fun i => some (i * j.size, j.size)) l is ms with
          | some l' => some (.agg l')
          | none => none
    | _ => none
def isPtr : MV → Bool
  | .p _ _ => true
  | .pe _ _ _ _ => true
  | .rp _ => true
  | _ => false
def sliceLen (E : Env) (t : TypeId) (x : MV) : Option MV :=
  match E.ty t with
  | some ⟨.slice _, _, _, _⟩ => match x with
    | .os _ _ _ n => some (.i .i64 n)
    | .ro _ n _ => some (.i .i64 n)
    | .nils => some (.i .i64 0)
    | _ => none
  | some ⟨.array n _, _, _, _⟩ => some (.i .i64 n)
  | _ => none
def evIndexAddr (E : Env) (t : TypeId) (x : MV) (z : Int) : Option (Prop × MV) :=
  match E.ty t with
  | some ⟨.slice e, _, _, _⟩ => match E.ty e with
    | none => none
    | some j => match x with
      | .os id sz lo n => match Nat.beq sz j.size with
        | true => some (0 ≤ z ∧ z < n, .pe id sz (lo + z.toNat) 0)
        | false => none
      | .ro sz n get => match Nat.beq sz j.size with
        | true => match takeM sz (get z.toNat) with
          | some l => some (0 ≤ z ∧ z < n, .rp l)
          | none => none
        | false => none
      | _ => none
  | some ⟨.array m e, _, _, _⟩ => match E.ty e with
    | none => none
    | some j => match x with
      | .pe id sz i off => match Nat.beq sz j.size with
        | true => match off with
          | 0 => some (0 ≤ z ∧ z < m, .pe id sz (i + z.toNat) 0)
          | _ + 1 => none
        | false => some (0 ≤ z ∧ z < m, .pe id sz i (off + z.toNat * j.size))
      | .p id off => some (0 ≤ z ∧ z < m, .p id (off + z.toNat * j.size))
      | .rp cells => some (0 ≤ z ∧ z < m, .rp (dropM cells (z.toNat * j.size)))
      | _ => none
  | _ => none
def slM (id sz l n c : Nat) (lo hi mx : Option Int) : MV :=
  match lo, hi, mx with
  | none, some h, none => match l with
    | 0 => .oc id sz h.toNat c
    | k + 1 => .os id sz (k + 1) h.toNat
  | lo, hi, _ => .os id sz (l + (lo.getD 0).toNat) ((hi.getD n).toNat - (lo.getD 0).toNat)
def evSlice (E : Env) (t : TypeId) (x : MV) (lo hi : Option Int) (mx : Option Int) : Option (Prop × MV) :=
  match E.ty t with
  | some ⟨.slice e, _, _, _⟩ => match E.ty e with
    | none => none
    | some j => match x with
      | .os id sz l n => match Nat.beq sz j.size with
        | true => some (0 ≤ lo.getD 0 ∧ lo.getD 0 ≤ hi.getD n ∧ hi.getD n ≤ mx.getD n ∧ mx.getD n ≤ n, slM id sz l n n lo hi mx)
        | false => none
      | .oc id sz n c => match Nat.beq sz j.size with
        | true => some (0 ≤ lo.getD 0 ∧ lo.getD 0 ≤ hi.getD n ∧ hi.getD n ≤ mx.getD c ∧ mx.getD c ≤ c, slM id sz 0 n c lo hi mx)
        | false => none
      | .ro sz n get => match Nat.beq sz j.size with
        | true => some (0 ≤ lo.getD 0 ∧ lo.getD 0 ≤ hi.getD n ∧ hi.getD n ≤ mx.getD n ∧ mx.getD n ≤ n, .ro sz ((hi.getD n).toNat - (lo.getD 0).toNat) (fun i => get ((lo.getD 0).toNat + i)))
        | false => none
      | _ => none
  | _ => none
/-! ### '==' of structs and arrays -/
def boolM : MV → Option Bool
  | .lb a => some a
  | .b a => some a
  | _ => none
def evEqF (E : Env) (rec : TypeId → MV → MV → Option Bool) (l l' : List MV) : List (Nat × TypeId) → Option Bool
  | [] => some true
  | (off, ft) :: r => match E.ty ft with
    | none => none
    | some i => match partM i l off with
      | none => none
      | some a => match partM i l' off with
        | none => none
        | some b => match rec ft a b with
          | none => none
          | some p => match evEqF E rec l l' r with
            | none => none
            | some q => some (p && q)
def evEqA (rec : MV → MV → Option Bool) (i : TI) (l l' : List MV) : Nat → Nat → Option Bool
  | _, 0 => some true
  | k, c + 1 => match partM i l (k * i.size) with
    | none => none
    | some a => match partM i l' (k * i.size) with
      | none => none
      | some b => match rec a b with
        | none => none
        | some p => match evEqA rec i l l' (k + 1) c with
          | none => none
          | some q => some (p && q)
def evEq (E : Env) : Nat → TypeId → MV → MV → Option Bool
  | 0, _, _, _ => none
  | m + 1, t, x, y => match E.ty t with
    | some ⟨.int _, _, _, _⟩ => match x, y with
      | .i k a, .i k' b => match sameInt k k' with
        | true => some (a == b)
        | false => none
      | _, _ => none
    | some ⟨.flt _, _, _, _⟩ => match x, y with
      | .f k a, .f k' b => match sameFlt k k' with
        | true => some (feq k a b)
        | false => none
      | _, _ => none
    | some ⟨.bool, _, _, _⟩ => match boolM x, boolM y with
      | some a, some b => some (a == b)
      | _, _ => none
    | some ⟨.struct fs, _, _, _⟩ => match E.eqs t with
      | false => none
      | true => match x, y with
        | .agg l, .agg l' => evEqF E (evEq E m) l l' fs
        | _, _ => none
    | some ⟨.array n e, _, _, _⟩ => match E.ty e with
      | none => none
      | some i => match x, y with
        | .agg l, .agg l' => evEqA (evEq E m e) i l l' 0 n
        | _, _ => none
    | _ => none
def evAgg (E : Env) (o : BinOp) (t : TypeId) (x y : MV) : Option MV :=
  match x, y with
  | .agg l, .agg l' => match E.eqs t with
    | false => none
    | true => match evEq E 8 t (.agg l) (.agg l') with
      | none => none
      | some b => match o with
        | .eql => some (.b b)
        | .neq => some (.b (!b))
        | _ => none
  | _, _ => none
def evPm (E : Env) (H : List (Nat × Blk)) (op : Op) (ms : List MV) : Option (Option Prop × MV) :=
  match op, ms with
  | .move _, [m] => some (none, m)
  | .assign _, [m] => some (none, m)
  | .load t _, [.pe id sz i j] => match E.ty t with
    | none => none
    | some ti => match look H id with
      | some (.rows sz' n get) => match Nat.beq sz sz' with
        | false => none
        | true => match takeM sz (get i) with
          | none => none
          | some l => match partM ti l j with
            | none => none
            | some m => some (some (i < n), m)
      | _ => none
  | .load t _, [x] => match evLoad E H t x with
    | some m => some (none, m)
    | none => none
  | .nilCheck _, [x] => match isPtr x with
    | true => some (none, x)
    | false => none
  | .binOp .shl _ _ y _, [.i k a, .i _ b] => match litInt y with
    | some (.ofNat n) => some (none, .i k (ishl k a (.ofNat n)))
    | _ => some (some (0 ≤ b), .i k (ishl k a b))
  | .binOp .shr _ _ y _, [.i k a, .i _ b] => match litInt y with
    | some (.ofNat n) => some (none, .i k (ishr k a (.ofNat n)))
    | _ => some (some (0 ≤ b), .i k (ishr k a b))
  | .binOp .quo _ _ y _, [.i k a, .i k' b] => match sameInt k k' with
    | false => none
    | true => match litInt y with
      | some (.ofNat (n + 1)) => some (none, .i k (k.wrap (a.tdiv (.ofNat (n + 1)))))
      | _ => some (some (b ≠ 0), .i k (k.wrap (a.tdiv b)))
  | .binOp .rem _ _ y _, [.i k a, .i k' b] => match sameInt k k' with
    | false => none
    | true => match litInt y with
      | some (.ofNat (n + 1)) => some (none, .i k (a.tmod (.ofNat (n + 1))))
      | _ => some (some (b ≠ 0), .i k (a.tmod b))
  | .binOp o t _ _ _, [x, y] => match evBin E o t x y with
    | some m => some (none, m)
    | none => match evAgg E o t x y with
      | some m => some (none, m)
      | none => none
  | .unOp o _ _, [x] => match evUn o x with
    | some m => some (none, m)
    | none => none
  | .convert s d _, [.f sk b] => match E.ty d with
    | some ⟨.int k, _, _, _⟩ => match E.ty s with
      | none => none
      | some _ => some (some ((floatToIntVal sk b k).isSome = true), .i k ((floatToIntVal sk b k).getD 0))
    | _ => match evConv E s d (.f sk b) with
      | some m => some (none, m)
      | none => none
  | .convert s d _, [x] => match evConv E s d x with
    | some m => some (none, m)
    | none => none
  | .fieldAddr s _ f, [x] => match evFieldAddr E s x f with
    | some m => some (none, m)
    | none => none
  | .field s _ f, [x] => match evField E s x f with
    | some m => some (none, m)
    | none => none
  | .extract _ i, [.tup l] => match nthM l i with
    | some m => some (none, m)
    | none => none
  | .indexAddr t _ _, [x, .i _ z] => match evIndexAddr E t x z with
    | some (c, m) => some (some c, m)
    | none => none
  | .slice t _ none none none, [x] => match evSlice E t x none none none with
    | some (c, m) => some (some c, m)
    | none => none
  | .slice t _ (some _) none none, [x, .i _ l] => match evSlice E t x (some l) none none with
    | some (c, m) => some (some c, m)
    | none => none
  | .slice t _ none (some _) none, [x, .i _ h] => match evSlice E t x none (some h) none with
    | some (c, m) => some (some c, m)
    | none => none
  | .slice t _ (some _) (some _) none, [x, .i _ l, .i _ h] => match evSlice E t x (some l) (some h) none with
    | some (c, m) => some (some c, m)
    | none => none
  | .build t ps, ms => match evBuild E t (ps.toList.map (·.1)) ms with
    | some m => some (none, m)
    | none => none
  | .call ⟨.builtin .len, _, ts⟩, [x] => match ts.toList with
    | t :: _ => match sliceLen E t x with
      | some m => some (none, m)
      | none => none
    | [] => none
  | .call ⟨.builtin .min, _, _⟩, [.i k a, .i _ b] => some (none, .i k (if b < a then b else a))
  | .call ⟨.builtin .max, _, _⟩, [.i k a, .i _ b] => some (none, .i k (if b > a then b else a))
  | .makeFunc (.func f) first _, ms => match takeM first.size ms with
    | none => none
    | some l => some (none, .fn f l (dropM ms first.size))
  | .slice t _ none (some _) (some _), [x, .i _ h, .i _ q] => match evSlice E t x none (some h) (some q) with
    | some (c, m) => some (some c, m)
    | none => none
  | .slice t _ (some _) (some _) (some _), [x, .i _ l, .i _ h, .i _ q] => match evSlice E t x (some l) (some h) (some q) with
    | some (c, m) => some (some c, m)
    | none => none
  | .call ⟨.builtin .max, _, _⟩, [.f k a, .f k' b] => match sameFlt k k' with
    | true => some (none, .f k (fmx k a b))
    | false => none
  | .call ⟨.builtin .max, _, _⟩, [.f k a, .f k' b, .f k'' c] => match sameFlt k k' && sameFlt k k'' with
    | true => some (none, .f k (fmx k (fmx k a b) c))
    | false => none
  | _, _ => none
end Go.Ev

namespace Go.Ev
theorem floatOfInt_FR (k : FloatKind) (n : Int) : FR k (floatOfInt k n) (floatOfInt k n) := by
  have h : floatOfInt k n = k.format.write (.number (n < 0) n.natAbs 0) := rfl
  rw [h]
  exact ⟨canon_of_not (write_not_nan k.format (.number (n < 0) n.natAbs 0) rfl), k.format.write_lt _⟩
theorem single_number {b : Nat} {s : Bool} {m : Nat} {e : Int} (h : Ieee.single.read b = .number s m e) : m < 16777216 ∧ -149 ≤ e ∧ e ≤ 104 := by
  have e1 : Ieee.single.signWeight = 2147483648 := by decide
  have e2 : Ieee.single.binade = 8388608 := by decide
  have e3 : Ieee.single.infRung = 2139095040 := by decide
  have e4 : Ieee.single.leastPlace = -149 := by decide
  unfold Ieee.Format.read at h
  dsimp only at h
  rw [e1, e2, e3, e4] at h
  generalize b % 2147483648 = r at h
  split at h
  · cases h; omega
  · split at h
    · cases h
      omega
    · split at h <;> cases h
theorem double_fits {s : Bool} {m : Nat} {e : Int} (hm : m < 16777216) (h1 : -149 ≤ e) (h2 : e ≤ 104) :
    (Ieee.double.read (Ieee.double.write (.number s m e))).isInfinity = false := by
  have e1 : Ieee.double.signWeight = 9223372036854775808 := by decide
  have e2 : Ieee.double.binade = 4503599627370496 := by decide
  have e3 : Ieee.double.infRung = 9218868437227405312 := by decide
  have e4 : Ieee.double.leastPlace = -1074 := by decide
  have e5 : Ieee.double.fractionBits = 52 := rfl
  have key : ∀ r, r < Ieee.double.infRung → (Ieee.double.read (Ieee.double.word s r)).isInfinity = false := by
    intro r hr
    unfold Ieee.Format.read
    dsimp only
    rw [word_rung _ _ (Nat.lt_trans hr Ieee.double.infRung_lt)]
    split
    · rfl
    · first | rfl | (rw [if_pos hr]; rfl)
  show (Ieee.double.read (Ieee.double.nearest s m e)).isInfinity = false
  unfold Ieee.Format.nearest
  dsimp only
  split
  · exact key 0 (by rw [e3]; omega)
  · rename_i hm0
    refine key _ ?_
    have hl : m.log2 < 24 := by
      rw [Nat.log2_lt hm0]; exact hm
    rw [e2, e3, e4, e5]
    have hlast : max (e + m.log2 - 52) (-1074) = e + m.log2 - 52 := by omega
    have hl' : (e + (m.log2 : Int) - ((52 : Nat) : Int)) = e + m.log2 - 52 := by omega
    rw [hl', hlast]
    have hd : (e + (m.log2 : Int) - 52 - e).toNat = 0 := by omega
    have hu : (e - (e + (m.log2 : Int) - 52)).toNat = 52 - m.log2 := by omega
    rw [hd, hu]
    have hcut : Ieee.Toward.even.cut s (m <<< (52 - m.log2)) 0 = m <<< (52 - m.log2) := by
      unfold Ieee.Toward.cut
      simp [Nat.mod_one]
    rw [hcut]
    have hk : m <<< (52 - m.log2) < 9007199254740992 := by
      rw [Nat.shiftLeft_eq]
      have := Nat.lt_log2_self (n := m)
      calc m * 2 ^ (52 - m.log2) < 2 ^ (m.log2 + 1) * 2 ^ (52 - m.log2) := Nat.mul_lt_mul_of_pos_right this (Nat.two_pow_pos _)
        _ = 2 ^ 53 := by rw [← Nat.pow_add]; congr 1; omega
        _ = 9007199254740992 := by decide
    have hq : (e + (m.log2 : Int) - 52 - -1074).toNat ≤ 1149 := by omega
    generalize m <<< (52 - m.log2) = kept at *
    generalize (e + (m.log2 : Int) - 52 - -1074).toNat = q at *
    have h9 : q * 4503599627370496 + kept < 1149 * 4503599627370496 + 9007199254740992 := Nat.add_lt_add_of_le_of_lt (Nat.mul_le_mul_right _ hq) hk
    exact Nat.lt_of_le_of_lt (Nat.min_le_left _ _) (Nat.lt_of_lt_of_le h9 (by decide))
theorem nanConv_ok {P : Program} {w : World} (b : Nat) : ∃ n k, (choose (.nanConv .f64 b)).run P w = .ok n { w with drawn := k } ∧ FR .f64 n (qnan .f64) := by
  have hn : ∀ t, isNan .f64 ((Question.nanConv .f64 b).cut t) = true ∧ (Question.nanConv .f64 b).cut t < 2 ^ 64 := by
    intro t
    have a1 : t % 2 < 2 := Nat.mod_lt _ (by decide)
    have a2 : (t / 2) % (2 ^ 52 - 1) < 2 ^ 52 - 1 := Nat.mod_lt _ (by decide)
    simp only [Question.cut]
    generalize t % 2 = u at *
    generalize (t / 2) % (2 ^ 52 - 1) = v at *
    refine ⟨?_, by omega⟩
    have hm : (u * 2 ^ 63 + 9218868437227405312 + 1 + v) % 9223372036854775808 = 9218868437227405313 + v := by omega
    show (Ieee.Format.read Ieee.double _).isNaN = true
    unfold Ieee.Format.read
    dsimp only
    have e1 : Ieee.double.signWeight = 9223372036854775808 := by decide
    have e2 : Ieee.double.binade = 4503599627370496 := by decide
    have e3 : Ieee.double.infRung = 9218868437227405312 := by decide
    rw [e1, e2, e3, hm, if_neg (by omega), if_neg (by omega), if_neg (by omega)]
    rfl
  exact ⟨_, w.drawn + 1, rfl, canon_of_nan (hn _).1, (hn _).2⟩
theorem run_wide {P : Program} (w : World) {r x : Nat} (h : FR .f32 r x) : ∃ q k, (Conv.floatToFloat .f32 r .f64).run P w = .ok (.float .f64 q) { w with drawn := k } ∧ FR .f64 q (widen x) := by
  unfold Conv.floatToFloat
  rw [if_neg (by decide)]
  cases hn : isNan .f32 r
  · have hx : x = r := by rw [← h.eq, canon_of_not hn]
    subst hx
    unfold widen
    have hn' : (FloatKind.f32.format.read x).isNaN = false := hn
    unfold FloatKind.decode
    cases hd : FloatKind.f32.format.read x with
    | nan s t => simp [hd, Ieee.Datum.isNaN] at hn'
    | infinity s =>
      refine ⟨_, w.drawn, rfl, canon_of_not (write_not_nan FloatKind.f64.format (.infinity s) rfl), FloatKind.f64.format.write_lt _⟩
    | number s m e =>
      obtain ⟨h1, h2, h3⟩ := single_number hd
      have hf := double_fits (s := s) h1 h2 h3
      refine ⟨FloatKind.f64.format.write (.number s m e), w.drawn, ?_, canon_of_not (write_not_nan FloatKind.f64.format (.number s m e) rfl), FloatKind.f64.format.write_lt _⟩
      show Sem.run P (if (Ieee.double.read (Ieee.double.write (.number s m e))).isInfinity = true then _ else _) w = _
      rw [hf]
      rfl
  · have hx : x = qnan .f32 := by rw [← h.eq, canon_of_nan hn]
    subst hx
    obtain ⟨s, t, hd⟩ := read_nan hn
    obtain ⟨n, k, e, hfr⟩ := nanConv_ok (P := P) (w := w) r
    refine ⟨n, k, ?_, ?_⟩
    · unfold FloatKind.decode
      rw [hd]
      simp only [Sem.run_bind, e, Result.andThen_ok, Sem.run_pure]
    · have : widen (qnan .f32) = qnan .f64 := by decide
      rw [this]; exact hfr
theorem und_flt {E : Env} (hE : ∀ t i, E.ty t = some i → TyOK E.P t i) {t : TypeId} {k : FloatKind} {a b : Nat} {z : Value} (h : E.ty t = some ⟨.flt k, a, b, z⟩) : E.P.underlying t = some (.float k) := by
  obtain ⟨d, h1, h2⟩ := (hE _ _ h).und
  cases d <;> simp [descIs] at h2
  subst h2; exact h1
theorem und_int {E : Env} (hE : ∀ t i, E.ty t = some i → TyOK E.P t i) {t : TypeId} {k : IntKind} {a b : Nat} {z : Value} (h : E.ty t = some ⟨.int k, a, b, z⟩) : E.P.underlying t = some (.int k) := by
  obtain ⟨d, h1, h2⟩ := (hE _ _ h).und
  cases d <;> simp [descIs] at h2
  subst h2; exact h1
theorem und_slice {E : Env} (hE : ∀ t i, E.ty t = some i → TyOK E.P t i) {t : TypeId} {e : TypeId} {a b : Nat} {z : Value} (h : E.ty t = some ⟨.slice e, a, b, z⟩) : E.P.underlying t = some (.slice e) := by
  obtain ⟨d, h1, h2⟩ := (hE _ _ h).und
  cases d <;> simp [descIs] at h2
  subst h2; exact h1
theorem und_array {E : Env} (hE : ∀ t i, E.ty t = some i → TyOK E.P t i) {t : TypeId} {n : Nat} {e : TypeId} {a b : Nat} {z : Value} (h : E.ty t = some ⟨.array n e, a, b, z⟩) : E.P.underlying t = some (.array n e) := by
  obtain ⟨d, h1, h2⟩ := (hE _ _ h).und
  cases d <;> simp [descIs] at h2
  obtain ⟨rfl, rfl⟩ := h2; exact h1
theorem und_struct {E : Env} (hE : ∀ t i, E.ty t = some i → TyOK E.P t i) {t : TypeId} {l : List (Nat × TypeId)} {a b : Nat} {z : Value} (h : E.ty t = some ⟨.struct l, a, b, z⟩) : ∃ fs, E.P.underlying t = some (.struct fs) ∧ l = fs.toList.map fun f => (f.offset, f.type) := by
  obtain ⟨d, h1, h2⟩ := (hE _ _ h).und
  cases d <;> simp [descIs] at h2
  exact ⟨_, h1, h2⟩
theorem evConv_sound {E : Env} (hE : ∀ t i, E.ty t = some i → TyOK E.P t i) {src dst : TypeId} {x m : MV} (h : evConv E src dst x = some m) {w : World} {G : GT} {ρ : RhoT} {ok : OkT} {v : Value}
    (r : Rep w G ρ ok x v) : ∃ u k, (convert src dst v).run E.P w = .ok u { w with drawn := k } ∧ Rep w G ρ ok m u := by
  unfold evConv at h
  split at h
  · cases h
  · rename_i si hs
    obtain ⟨sd, hs1, _⟩ := (hE _ _ hs).und
    split at h
    · rename_i k _ _ _ hd
      have hd' := und_int hE hd
      split at h
      · cases h; cases r
        rename_i q n
        exact ⟨.int k (k.wrap n), w.drawn, by cases sd <;> simp [convert, run_underlying hs1, run_underlying hd', Conv.intToInt], .i _ _⟩
      · cases h
    · rename_i k _ _ _ hd
      have hd' := und_flt hE hd
      split at h
      · rename_i q n
        cases h; cases r
        refine ⟨_, w.drawn, run_convert_int_float w src dst _ k n (by simp [hs1]) hd', .f _ _ _ (floatOfInt_FR k n)⟩
      · rename_i s b
        split at h
        · rename_i hk
          have := sameFlt_eq hk; subst this
          cases h; cases r with
          | f _ r' _ hr =>
            exact ⟨.float s r', w.drawn, by cases sd <;> simp [convert, run_underlying hs1, run_underlying hd', Conv.floatToFloat], .f _ _ _ hr⟩
        · split at h
          · cases h; cases r with
            | f _ r' _ hr =>
              obtain ⟨q, k, e, hq⟩ := run_wide (P := E.P) w hr
              exact ⟨_, k, by cases sd <;> (simp only [convert, Sem.run_bind, run_underlying hs1, run_underlying hd', Result.andThen_ok]; exact e), .f _ _ _ hq⟩
          · cases h
      · cases h
    · cases h
end Go.Ev

namespace Go.Ev
theorem ofVals_spec : ∀ {l : List Value} {ms : List MV}, ofVals l = some ms → ms.length = l.length ∧ ∀ {w : World} {G : GT} {ρ : RhoT} {ok : OkT}, ∀ j, j < ms.length → Rep w G ρ ok (getM ms j) (l.getD j undef)
  | [], ms, h => by simp [ofVals] at h; subst h; simp
  | v :: r, ms, h => by
    unfold ofVals at h
    split at h
    · cases h
    · rename_i m hm
      split at h
      · cases h
      · rename_i t ht
        cases h
        obtain ⟨h1, h2⟩ := ofVals_spec ht
        refine ⟨by simp [h1], fun {w G ρ ok} j hj => ?_⟩
        cases j with
        | zero => simpa [getM] using ofVal_rep hm
        | succ j => simpa [getM] using h2 j (by simpa using hj)
theorem zeroM_spec {v : Value} {l : List MV} (h : zeroM v = some l) : l.length = v.cells.size ∧ ∀ {w : World} {G : GT} {ρ : RhoT} {ok : OkT}, ∀ j, j < l.length → Rep w G ρ ok (getM l j) (v.cells.getD j undef) := by
  unfold zeroM at h
  split at h
  · obtain ⟨h1, h2⟩ := ofVals_spec h
    refine ⟨by simpa [Value.cells] using h1, fun {w G ρ ok} j hj => ?_⟩
    have := h2 (w := w) (G := G) (ρ := ρ) (ok := ok) j hj
    simpa [Value.cells, Array.getD_eq_getD_getElem?, List.getD_eq_getElem?_getD] using this
  · rename_i hne
    split at h
    · rename_i m hm
      cases h
      have hc : v.cells = #[v] := by
        cases v <;> first | rfl | exact absurd rfl (hne _)
      rw [hc]
      refine ⟨rfl, fun {w G ρ ok} j hj => ?_⟩
      have : j = 0 := by simpa using hj
      subst this
      simpa [getM] using ofVal_rep hm
    · cases h
theorem cellsM_spec {m : MV} {l : List MV} (h : cellsM m = some l) {w : World} {G : GT} {ρ : RhoT} {ok : OkT} {v : Value} (r : Rep w G ρ ok m v)
    (hx : ∀ u, m = .x u → ∃ q, u = q ∧ (∀ cs, u ≠ .agg cs)) : l.length = v.cells.size ∧ ∀ j, j < l.length → Rep w G ρ ok (getM l j) (v.cells.getD j undef) := by
  have one : (∀ cs, v ≠ .agg cs) → cellsM m = some [m] → l.length = v.cells.size ∧ ∀ j, j < l.length → Rep w G ρ ok (getM l j) (v.cells.getD j undef) := by
    intro hne h'
    rw [h] at h'
    cases h'
    have hc : v.cells = #[v] := by
      cases v <;> first | rfl | exact absurd rfl (hne _)
    rw [hc]
    refine ⟨rfl, fun j hj => ?_⟩
    have : j = 0 := by simpa using hj
    subst this
    simpa [getM] using r
  cases r with
  | agg l' vs hl hr =>
    simp only [cellsM, Option.some.injEq] at h
    subst h
    exact ⟨hl, hr⟩
  | und => simp [cellsM] at h
  | gd => simp [cellsM] at h
  | tup => simp [cellsM] at h
  | x u =>
    obtain ⟨q, rfl, hq⟩ := hx v rfl
    exact one hq rfl
  | _ => exact one (by intro cs e; cases e) rfl
theorem foldl_splice (off : Nat) : ∀ (ys : List Value) (k : Nat) (c : Array Value), off + k + ys.length ≤ c.size →
    (((ys.zipIdx k).foldl (fun cs (x : Value × Nat) => cs.setIfInBounds (off + x.2) x.1) c).size = c.size ∧
     ∀ j, (((ys.zipIdx k).foldl (fun cs (x : Value × Nat) => cs.setIfInBounds (off + x.2) x.1) c).getD j undef) = if off + k ≤ j ∧ j < off + k + ys.length then ys.getD (j - (off + k)) undef else c.getD j undef)
  | [], k, c, h => by
    refine ⟨rfl, fun j => ?_⟩
    rw [if_neg (by simp)]
    rfl
  | y :: ys, k, c, h => by
    simp only [List.length_cons] at h
    simp only [List.zipIdx_cons, List.foldl_cons]
    obtain ⟨h1, h2⟩ := foldl_splice off ys (k + 1) (c.setIfInBounds (off + k) y) (by simp; omega)
    refine ⟨by rw [h1]; simp, fun j => ?_⟩
    rw [h2 j]
    simp only [List.length_cons]
    by_cases hj : off + (k + 1) ≤ j ∧ j < off + (k + 1) + ys.length
    · rw [if_pos hj, if_pos (by omega)]
      have : j - (off + k) = (j - (off + (k + 1))) + 1 := by omega
      rw [this]; rfl
    · rw [if_neg hj]
      by_cases hj0 : j = off + k
      · subst hj0
        rw [if_pos (by omega)]
        have : off + k < c.size := by omega
        simp [Array.getD, this]
      · rw [if_neg (by omega)]
        simp only [Array.getD_eq_getD_getElem?]
        rw [Array.getElem?_setIfInBounds_ne (Ne.symm hj0)]
theorem fill_sound {w : World} {G : GT} {ρ : RhoT} {ok : OkT} {placeM place : Nat → Option (Nat × Nat)} (hp : ∀ i x, placeM i = some x → place i = some x) :
    ∀ {is : List Nat} {ms : List MV} {vs : List Value} {l l' : List MV} {c : Array Value}, fillM placeM l is ms = some l' → ms.length = vs.length →
      (∀ j, j < ms.length → Rep w G ρ ok (getM ms j) (vs.getD j undef)) → (∀ j u, getM ms j ≠ .x u) → l.length = c.size → (∀ j, j < l.length → Rep w G ρ ok (getM l j) (c.getD j undef)) →
      ∃ c', Instr.fill place c (is.zip vs) = some c' ∧ l'.length = c'.size ∧ ∀ j, j < l'.length → Rep w G ρ ok (getM l' j) (c'.getD j undef)
  | [], [], vs, l, l', c, h, hl, hr, hx, hc, hcr => by
    simp only [fillM, Option.some.injEq] at h
    subst h
    exact ⟨c, by simp [Instr.fill], hc, hcr⟩
  | [], _ :: _, vs, l, l', c, h, hl, hr, hx, hc, hcr => by simp [fillM] at h
  | _ :: _, [], vs, l, l', c, h, hl, hr, hx, hc, hcr => by simp [fillM] at h
  | i :: is, m :: ms, [], l, l', c, h, hl, hr, hx, hc, hcr => by simp at hl
  | i :: is, m :: ms, v :: vs, l, l', c, h, hl, hr, hx, hc, hcr => by
    unfold fillM at h
    split at h
    · cases h
    · rename_i off size hpl
      split at h
      · cases h
      · rename_i cl hcl
        split at h
        · cases h
        · rename_i hsz
          have hsz' : cl.length = size := Nat.eq_of_beq_eq_true hsz
          split at h
          · cases h
          · rename_i l2 hl2
            have hv : Rep w G ρ ok m v := by simpa [getM] using hr 0 (by simp)
            obtain ⟨e1, e2⟩ := cellsM_spec hcl hv (fun u hu => absurd hu (by simpa [getM] using hx 0 u))
            obtain ⟨s1, s2, s3⟩ := spliceM_spec hl2
            have hb : off + v.cells.size ≤ c.size := by omega
            have hf := foldl_splice off v.cells.toList 0 c (by simpa using hb)
            simp only [Array.length_toList, Nat.add_zero] at hf
            obtain ⟨c', r1, r2, r3⟩ := fill_sound hp (vs := vs) (l := l2) (c := v.cells.toList.zipIdx.foldl (fun cs (x : Value × Nat) => cs.setIfInBounds (off + x.2) x.1) c) h (by simpa using hl)
              (fun j hj => by simpa [getM] using hr (j + 1) (by simpa using hj)) (fun j u => by simpa [getM] using hx (j + 1) u) (by rw [s1, hc]; exact hf.1.symm) (fun j hj => by
                rw [s3 j, hf.2 j]
                rw [← e1]
                split
                · rename_i hjj
                  have := e2 (j - off) (by omega)
                  simpa [Array.getD_eq_getD_getElem?, List.getD_eq_getElem?_getD] using this
                · exact hcr j (by omega))
            refine ⟨c', ?_, r2, r3⟩
            simp only [List.zip_cons_cons, Instr.fill, hp _ _ hpl]
            rw [if_neg (by simp; omega)]
            rw [← r1, ← Array.foldl_toList, Array.toList_zipIdx]
theorem mapM_places {P : Program} (w : World) (fs : List Field) (sz : Nat → Nat) (h : ∀ f ∈ fs, (sizeOf f.type).run P w = .ok (sz f.type) w) :
    (fs.mapM (fun f => (do pure (f.offset, ← sizeOf f.type) : Sem (Nat × Nat)))).run P w = .ok (fs.map fun f => (f.offset, sz f.type)) w := by
  induction fs with
  | nil => rfl
  | cons f fs ih =>
    rw [List.mapM_cons, Sem.run_bind, Sem.run_bind, h f (by simp), Result.andThen_ok, Sem.run_pure, Result.andThen_ok, Sem.run_bind, ih (fun g hg => h g (by simp [hg])), Result.andThen_ok, Sem.run_pure]
    rfl
end Go.Ev

namespace Go.Ev
theorem noX_spec : ∀ {ms : List MV}, noX ms = true → ∀ j u, getM ms j ≠ .x u
  | [], _, j, u => by simp [getM]
  | m :: r, h, j, u => by
    have h1 : (∀ q, m ≠ .x q) ∧ noX r = true := by
      cases m <;> first | (simp [noX] at h; done) | exact ⟨by simp, h⟩
    cases j with
    | zero => simpa [getM] using h1.1 u
    | succ j => simpa [getM] using noX_spec h1.2 j u
theorem allTy_spec {E : Env} : ∀ {l : List (Nat × TypeId)}, allTy E l = true → ∀ x ∈ l, ∃ i, E.ty x.2 = some i
  | [], _, x, hx => by simp at hx
  | (o, t) :: r, h, x, hx => by
    unfold allTy at h
    split at h
    · rename_i i hi
      rcases List.mem_cons.1 hx with rfl | hx
      · exact ⟨i, hi⟩
      · exact allTy_spec h x hx
    · cases h
theorem evBuild_sound {E : Env} (hE : ∀ t i, E.ty t = some i → TyOK E.P t i) {t : TypeId} {is : List Nat} {ms : List MV} {m : MV} (h : evBuild E t is ms = some m) {w : World} {G : GT} {ρ : RhoT} {ok : OkT}
    {vs : List Value} (hl : ms.length = vs.length) (hr : ∀ j, j < ms.length → Rep w G ρ ok (getM ms j) (vs.getD j undef)) :
    ∃ v, (Instr.build t (is.zip vs).toArray).run E.P w = .ok v w ∧ Rep w G ρ ok m v := by
  unfold evBuild at h
  split at h
  · cases h
  · rename_i hnx
    have hx := noX_spec hnx
    split at h
    · rename_i fs _ _ z ht
      split at h
      · cases h
      · rename_i hall
        have hall := allTy_spec hall
        split at h
        · cases h
        · rename_i l hz
          split at h
          · rename_i l' hf
            cases h
            obtain ⟨z1, z2⟩ := zeroM_spec hz
            obtain ⟨gs, hu, hgs⟩ := und_struct hE ht
            have hsz : ∀ f ∈ gs.toList, (sizeOf f.type).run E.P w = .ok (E.P.cellsOf f.type) w := by
              intro f hf
              obtain ⟨i, hi⟩ := hall (f.offset, f.type) (by rw [hgs]; exact List.mem_map.2 ⟨f, hf, rfl⟩)
              have h1 := (hE _ _ hi).run_sizeOf w
              obtain ⟨info, h2, h3, _⟩ := (hE _ _ hi).info
              rw [h1]; simp [Program.cellsOf, h2, h3]
            have hpl := mapM_places (P := E.P) w gs.toList (fun t => E.P.cellsOf t) hsz
            obtain ⟨c', f1, f2, f3⟩ := fill_sound (w := w) (G := G) (ρ := ρ) (ok := ok) (placeM := fldPlace E t)
              (place := fun i => (gs.toList.map fun f => (f.offset, E.P.cellsOf f.type)).toArray[i]?) (fun i x hx => by
                unfold fldPlace at hx
                split at hx
                · cases hx
                · rename_i off ft hfo
                  split at hx
                  · cases hx
                  · rename_i j hj
                    cases hx
                    obtain ⟨fs', fd, q1, q2, q3, q4⟩ := fldOf_spec hE hfo
                    rw [hu] at q1
                    cases q1
                    obtain ⟨info, h2, h3, _⟩ := (hE _ _ hj).info
                    simp [q2, q3, q4, Program.cellsOf, h2, h3]) hf hl hr hx z1 z2
            refine ⟨.agg c', ?_, .agg _ _ f2 f3⟩
            unfold Instr.build
            rw [Sem.run_bind, (hE _ _ ht).run_zero, Result.andThen_ok, Sem.run_bind, run_underlying hu, Result.andThen_ok]
            simp only []
            rw [Sem.run_bind, Array.mapM_eq_mapM_toList, Sem.run_map, hpl]
            simp only [Result.andThen_ok]
            simp only [f1]
            rfl
          · cases h
    · rename_i n e _ _ z ht
      split at h
      · cases h
      · rename_i j hj
        split at h
        · cases h
        · rename_i l hz
          split at h
          · rename_i l' hf
            cases h
            obtain ⟨z1, z2⟩ := zeroM_spec hz
            have hu := und_array hE ht
            obtain ⟨c', f1, f2, f3⟩ := fill_sound (w := w) (G := G) (ρ := ρ) (ok := ok) (placeM := fun i => some (i * j.size, j.size))
              (place := fun i => some (i * j.size, j.size)) (fun i x hx => hx) hf hl hr hx z1 z2
            refine ⟨.agg c', ?_, .agg _ _ f2 f3⟩
            unfold Instr.build
            rw [Sem.run_bind, (hE _ _ ht).run_zero, Result.andThen_ok, Sem.run_bind, run_underlying hu, Result.andThen_ok]
            simp only []
            rw [Sem.run_bind, (hE _ _ hj).run_sizeOf, Result.andThen_ok]
            simp only [f1]
            rfl
          · cases h
    · cases h
theorem sliceLen_sound {E : Env} (hE : ∀ t i, E.ty t = some i → TyOK E.P t i) {t : TypeId} {x m : MV} (h : sliceLen E t x = some m) {w : World} {G : GT} {ρ : RhoT} {ok : OkT} {v : Value}
    (r : Rep w G ρ ok x v) (ts : Array TypeId) (hts : ts[0]? = some t) (ty : TypeId) : ∃ u, (Builtin.len_ ts ty #[v]).run E.P w = .ok u w ∧ Rep w G ρ ok m u := by
  unfold sliceLen at h
  split at h
  · rename_i e _ _ _ ht
    have hu := und_slice hE ht
    split at h
    · cases h; cases r
      · exact ⟨_, by simp [Builtin.len_, hts, run_underlying hu, goInt], .i _ _⟩
      · exact ⟨_, by simp [Builtin.len_, hts, run_underlying hu, goInt], .i _ _⟩
    · cases h; cases r
      · exact ⟨_, by simp [Builtin.len_, hts, run_underlying hu, goInt], .i _ _⟩
      · exact ⟨_, by simp [Builtin.len_, hts, run_underlying hu, goInt], .i _ _⟩
    · cases h; cases r
      exact ⟨_, by simp [Builtin.len_, hts, run_underlying hu, goInt], .i _ _⟩
    · cases h
  · rename_i n _ _ _ _ ht
    have hu := und_array hE ht
    cases h
    exact ⟨_, by simp [Builtin.len_, hts, run_underlying hu, goInt], .i _ _⟩
  · cases h
theorem run_indexAt_slice {P : Program} {t e : TypeId} {i : TI} (hu : P.underlying t = some (.slice e)) (hi : TyOK P e i) (w : World) (a : Addr) (n cap : Nat) (k : IntKind) (z : Int) (h0 : 0 ≤ z) (h1 : z < n) :
    (Instr.indexAt t (.slice (some a) n cap) (.int k z)).run P w = .ok (.pointer (some (a.add (z.toNat * i.size)))) w := by
  unfold Instr.indexAt
  simp only [asIntOf, Sem.run_bind, Sem.run_pure, Result.andThen_ok, run_underlying hu]
  rw [if_pos ⟨h0, h1⟩]
  simp [hi.run_sizeOf]
theorem run_indexAt_array {P : Program} {t e : TypeId} {m : Nat} {i : TI} (hu : P.underlying t = some (.array m e)) (hi : TyOK P e i) (w : World) (a : Addr) (k : IntKind) (z : Int) (h0 : 0 ≤ z) (h1 : z < m) :
    (Instr.indexAt t (.pointer (some a)) (.int k z)).run P w = .ok (.pointer (some (a.add (z.toNat * i.size)))) w := by
  unfold Instr.indexAt
  simp only [asIntOf, Sem.run_bind, Sem.run_pure, Result.andThen_ok, run_underlying hu, Instr.sureAddr]
  rw [if_pos ⟨h0, h1⟩]
  simp [hi.run_sizeOf]
theorem evIndexAddr_sound {E : Env} (hE : ∀ t i, E.ty t = some i → TyOK E.P t i) {t : TypeId} {x m : MV} {z : Int} {c : Prop} (h : evIndexAddr E t x z = some (c, m)) (hc : c) {w : World} {G : GT} {ρ : RhoT} {ok : OkT} {v : Value}
    (r : Rep w G ρ ok x v) (k : IntKind) : ∃ u, (Instr.indexAt t v (.int k z)).run E.P w = .ok u w ∧ Rep w G ρ ok m u := by
  unfold evIndexAddr at h
  split at h
  · rename_i e _ _ _ ht
    have hu := und_slice hE ht
    split at h
    · cases h
    · rename_i j hj
      split at h
      · rename_i id sz lo n
        split at h
        · rename_i hsz
          have hsz := Nat.eq_of_beq_eq_true hsz
          subst hsz
          cases h
          cases r with
          | os _ _ _ _ blk cap off C T hρ hn hoff hb hcap =>
            refine ⟨_, run_indexAt_slice hu (hE _ _ hj) w _ _ _ k z hc.1 hc.2, ?_⟩
            rw [addr_add]
            have : off = lo * j.size := by
              rcases hoff with e | e
              · exact e
              · have := hc.2; have := hc.1; omega
            rw [this, ← Nat.add_mul]
            exact .pe id _ _ 0 blk hρ
          | osnil => have := hc.1; have := hc.2; omega
        · cases h
      · rename_i sz n get
        split at h
        · rename_i hsz
          have hsz := Nat.eq_of_beq_eq_true hsz
          split at h
          · rename_i l hl
            cases h
            obtain ⟨l1, l2, l3⟩ := takeM_spec hl
            have hz : z.toNat < n := by have := hc.1; have := hc.2; omega
            cases r with
            | ro _ _ _ blk off cap u hn hok hcell h1c hr =>
              refine ⟨_, run_indexAt_slice hu (hE _ _ hj) w _ _ _ k z hc.1 hc.2, ?_⟩
              rw [addr_add, ← hsz]
              refine .rp l blk _ (fun q => u z.toNat q) (fun _ => hok (by omega)) (fun p hp => ?_) (fun p hp => h1c _ hz p (by omega)) (fun p hp => ?_)
              · rw [Nat.add_assoc]; exact hcell _ hz p (by omega)
              · rw [l3 p (by omega)]; exact hr _ hz p (by omega)
            | ronil => omega
          · cases h
        · cases h
      · cases h
  · rename_i mm e _ _ _ ht
    have hu := und_array hE ht
    split at h
    · cases h
    · rename_i j hj
      split at h
      · rename_i id sz i off
        split at h
        · rename_i hsz
          have hsz := Nat.eq_of_beq_eq_true hsz
          subst hsz
          split at h
          · cases h
            cases r with
            | pe _ _ _ _ blk hρ =>
              refine ⟨_, run_indexAt_array hu (hE _ _ hj) w _ k z hc.1 hc.2, ?_⟩
              rw [addr_add, Nat.add_zero, ← Nat.add_mul]
              exact .pe id _ _ 0 blk hρ
          · cases h
        · cases h
          cases r with
          | pe _ _ _ _ blk hρ =>
            refine ⟨_, run_indexAt_array hu (hE _ _ hj) w _ k z hc.1 hc.2, ?_⟩
            rw [addr_add, Nat.add_assoc]
            exact .pe id _ _ _ blk hρ
      · cases h
        cases r with
        | p _ _ blk hρ =>
          refine ⟨_, run_indexAt_array hu (hE _ _ hj) w _ k z hc.1 hc.2, ?_⟩
          rw [addr_add]
          exact .p _ _ blk hρ
      · rename_i cells
        cases h
        cases r with
        | rp _ blk o u hok hcell h1c hr =>
          refine ⟨_, run_indexAt_array hu (hE _ _ hj) w _ k z hc.1 hc.2, ?_⟩
          rw [addr_add]
          have hd := dropM_spec cells (z.toNat * j.size)
          refine .rp _ blk (o + z.toNat * j.size) (fun q => u (z.toNat * j.size + q)) (fun hp => hok (by omega)) (fun q hq => ?_) (fun q hq => h1c _ (by omega)) (fun q hq => ?_)
          · rw [Nat.add_assoc]; exact hcell _ (by omega)
          · rw [hd.2]; exact hr _ (by omega)
      · cases h
  · cases h
end Go.Ev
