/-
  Closed runs by reckoning, and the order of floats, for every program; no condition.
-/
import Derived.Test.YtbnfcjckbgpkeaaEvD
import Derived.Test.YtbnfcjckbgpkeaaEvI
import Derived.LoopN
set_option linter.unusedSimpArgs false
set_option linter.unusedVariables false
namespace Go.Ev
/-! ## Closed runs: the same walk, with every question decided by reckoning -/
def decSl (x : Nat × Nat) (lo hi mx : Option Int) : Bool := decide (0 ≤ lo.getD 0) && decide (lo.getD 0 ≤ hi.getD x.1) && decide (hi.getD x.1 ≤ mx.getD x.2) && decide (mx.getD x.2 ≤ x.2)
def lenOf : MV → Nat
  | .os _ _ _ n => n
  | .ro _ n _ => n
  | _ => 0
def roomOf : MV → Nat × Nat
  | .os _ _ _ n => (n, n)
  | .oc _ _ n c => (n, c)
  | .ro _ n _ => (n, n)
  | _ => (0, 0)
def decPm (E : Env) (H : List (Nat × Blk)) (op : Op) (ms : List MV) : Bool :=
  match op, ms with
  | .load _ _, [.pe id _ i _] => match look H id with
    | some (.rows _ n _) => Nat.blt i n
    | _ => false
  | .binOp .shl _ _ _ _, [_, .i _ b] => decide (0 ≤ b)
  | .binOp .shr _ _ _ _, [_, .i _ b] => decide (0 ≤ b)
  | .binOp .quo _ _ _ _, [_, .i _ b] => !decide (b = 0)
  | .binOp .rem _ _ _ _, [_, .i _ b] => !decide (b = 0)
  | .convert _ d _, [.f sk b] => match E.ty d with
    | some ⟨.int k, _, _, _⟩ => (floatToIntVal sk b k).isSome
    | _ => false
  | .indexAddr t _ _, [x, .i _ z] => match E.ty t with
    | some ⟨.slice _, _, _, _⟩ => decide (0 ≤ z) && decide (z < lenOf x)
    | some ⟨.array m _, _, _, _⟩ => decide (0 ≤ z) && decide (z < m)
    | _ => false
  | .slice _ _ none none none, [x] => decSl (roomOf x) none none none
  | .slice _ _ (some _) none none, [x, .i _ l] => decSl (roomOf x) (some l) none none
  | .slice _ _ none (some _) none, [x, .i _ h] => decSl (roomOf x) none (some h) none
  | .slice _ _ (some _) (some _) none, [x, .i _ l, .i _ h] => decSl (roomOf x) (some l) (some h) none
  | .slice _ _ none (some _) (some _), [x, .i _ h, .i _ q] => decSl (roomOf x) none (some h) (some q)
  | .slice _ _ (some _) (some _) (some _), [x, .i _ l, .i _ h, .i _ q] => decSl (roomOf x) (some l) (some h) (some q)
  | _, _ => false
end Go.Ev

namespace Go.Ev
def decSt (F : List (Nat × MV)) (stk : List (List (Nat × MV))) (m : MV) (H : List (Nat × Blk)) (nx : Nat) : Option (MV × St) := some (m, ⟨F, stk, H, nx⟩)
def evKo (E : Env) (F : List (Nat × MV)) (stk : List (List (Nat × MV))) (H : List (Nat × Blk)) (nx : Nat) (op : Op) (ms : List MV) : Option (MV × St) :=
  match op, ms with
  | .box _ _, [m] => match cellsM m with
    | none => none
    | some l => match allO l with
      | true => decSt F stk (.p nx 0) (putL H nx (.cells l)) (nx + 1)
      | false => none
  | .alloc t, [] => match E.ty t with
    | none => none
    | some i => match zeroM i.zero with
      | none => none
      | some l => match allO l with
        | true => decSt F stk (.p nx 0) (putL H nx (.cells l)) (nx + 1)
        | false => none
  | .store t _ _, [.p id off, m] => match E.ty t with
    | none => none
    | some i => match cellsM m with
      | none => none
      | some ys => match Nat.beq ys.length i.size with
        | false => none
        | true => match allO ys with
          | false => none
          | true => match look H id with
            | some (.cells l) => match spliceM l off ys with
              | some l' => decSt F stk (.x undef) (putL H id (.cells l')) nx
              | none => none
            | _ => none
  | .store t _ _, [.pe id sz i j, m] => match E.ty t with
    | none => none
    | some ti => match cellsM m with
      | none => none
      | some ys => match Nat.beq ys.length ti.size with
        | false => none
        | true => match allF ys with
          | false => none
          | true => match Nat.ble (j + ys.length) sz with
            | false => none
            | true => match look H id with
              | some (.rows sz' n get) => match Nat.beq sz sz' with
                | false => none
                | true => match Nat.blt i n with
                  | true => decSt F stk (.x undef) (putL H id (.rows sz n fun k => updL (Nat.beq k i) (get k) j ys)) nx
                  | false => none
              | _ => none
  | .makeSlice t _ _, [.i _ l, .i _ c] => match E.ty t with
    | some ⟨.slice e, _, _, _⟩ => match E.ty e with
      | none => none
      | some ti => match zeroM ti.zero with
        | none => none
        | some zl => match Nat.beq zl.length ti.size with
          | false => none
          | true => match allF zl with
            | false => none
            | true => match decide (0 ≤ l) && decide (l ≤ c) && decide (ti.bytes * c ≤ 140737488355328) && decide (c ≤ 140737488355328) with
              | true => decSt F stk (.os nx ti.size 0 l.toNat) (putL H nx (.rows ti.size l.toNat fun _ => zl)) (nx + 1)
              | false => none
    | _ => none
  | .buildSlice t n ps, ms => match E.ty t with
    | some ⟨.slice e, _, _, _⟩ => match E.ty e with
      | none => none
      | some ti => match zeroM ti.zero with
        | none => none
        | some zl => match Nat.beq zl.length ti.size with
          | false => none
          | true => match Nat.ble (n * ti.size) 16777216 with
            | false => none
            | true => match noX ms with
              | false => none
              | true => match fillM (fun i => some (i * ti.size, ti.size)) (evKm.repM n zl) (ps.toList.map (·.1)) ms with
                | none => none
                | some l' => match allF l' with
                  | false => none
                  | true => decSt F stk (.os nx ti.size 0 n) (putL H nx (.rows ti.size n (match n with | 1 => fun _ => l' | _ => fun i => dropM l' (i * ti.size)))) (nx + 1)
    | _ => none
  | .call ⟨.builtin .append, _, ts⟩, [s, x] => match ts.toList with
    | [t, t'] => match Nat.beq t t' with
      | false => none
      | true => match E.ty t with
        | some ⟨.slice e, _, _, _⟩ => match E.ty e with
          | none => none
          | some ti => match ti.size with
            | 0 => none
            | sz + 1 => match zeroM ti.zero with
              | none => none
              | some zl => match Nat.beq zl.length (sz + 1) with
                | false => none
                | true => match x with
                  | .os xid xs lo n2 => match Nat.beq (sz + 1) xs with
                    | false => none
                    | true => match look H xid with
                      | some (.rows sz2 n0 xg) => match Nat.beq (sz + 1) sz2 with
                        | false => none
                        | true => match Nat.ble (lo + n2) n0 with
                          | false => none
                          | true => appO F stk H nx s sz ti n2 (fun i => xg (lo + i)) (isOsOf · x)
                      | _ => none
                  | .ro xs n2 xg => match Nat.beq (sz + 1) xs with
                    | false => none
                    | true => appO F stk H nx s sz ti n2 xg (isOsOf · x)
                  | .nils => appO F stk H nx s sz ti 0 (fun _ => []) (isOsOf · x)
                  | _ => none
        | _ => none
    | _ => none
  | .slice t _ none none none, [.p id 0] => match E.ty t with
    | some ⟨.array n e, _, _, _⟩ => match E.ty e with
      | none => none
      | some ti => match look H id with
        | some (.cells l) => match Nat.beq l.length (n * ti.size) with
          | false => none
          | true => match allF l with
            | false => none
            | true => decSt F stk (.os id ti.size 0 n) (putL H id (.rows ti.size n fun i => dropM l (i * ti.size))) nx
        | _ => none
    | _ => none
  | .call ⟨.builtin .copy, _, ts⟩, [s, x] => match ts.toList with
    | [t, _] => match E.ty t with
      | some ⟨.slice e, _, _, _⟩ => match E.ty e with
        | none => none
        | some ti => match ti.size with
          | 0 => none
          | sz + 1 => match s with
            | .os id sz' 0 n => match Nat.beq (sz + 1) sz' with
              | false => none
              | true => match isOsOf id x with
                | true => none
                | false => match look H id with
                  | some (.rows sz2 n0 _) => match Nat.beq (sz + 1) sz2 with
                    | false => none
                    | true => match x with
                      | .os xid xs lo n2 => match Nat.beq (sz + 1) xs with
                        | false => none
                        | true => match look H xid with
                          | some (.rows sz3 n3 xg) => match Nat.beq (sz + 1) sz3 with
                            | false => none
                            | true => match Nat.ble (lo + n2) n3 && Nat.beq n n0 && Nat.beq n2 n && Nat.blt 0 n with
                              | true => decSt F stk (.i .i64 n) (putL H id (.rows (sz + 1) n fun i => xg (lo + i))) nx
                              | false => none
                          | _ => none
                      | .ro xs n2 xg => match Nat.beq (sz + 1) xs with
                        | false => none
                        | true => match Nat.beq n n0 && Nat.beq n2 n && Nat.blt 0 n with
                          | true => decSt F stk (.i .i64 n) (putL H id (.rows (sz + 1) n xg)) nx
                          | false => none
                      | _ => none
                  | _ => none
            | _ => none
      | _ => none
    | _ => none
  | .binOp .eql t _ _ _, [.ro _ n _, .nils] => match E.ty t with
    | some ⟨.slice _, _, _, _⟩ => match Nat.blt 0 n with
      | true => some (.b false, ⟨F, stk, H, nx⟩)
      | false => none
    | _ => none
  | .binOp .eql t _ _ _, [.os _ _ _ n, .nils] => match E.ty t with
    | some ⟨.slice _, _, _, _⟩ => match Nat.blt 0 n with
      | true => some (.b false, ⟨F, stk, H, nx⟩)
      | false => none
    | _ => none
  | .call ⟨.builtin .clear, _, ts⟩, [x] => match ts.toList with
    | [t] => match E.ty t with
      | some ⟨.slice e, _, _, _⟩ => match E.ty e with
        | none => none
        | some ti => match ti.size with
          | 0 => none
          | sz + 1 => match zeroM ti.zero with
            | none => none
            | some zl => match Nat.beq zl.length (sz + 1) with
              | false => none
              | true => match allF zl with
                | false => none
                | true => match x with
                  | .os id sz' lo n => match Nat.beq (sz + 1) sz' with
                    | false => none
                    | true => match look H id with
                      | some (.rows sz2 n0 get) => match Nat.beq (sz + 1) sz2 with
                        | false => none
                        | true => match Nat.ble (lo + n) n0 && Nat.blt 0 n with
                          | true => decSt F stk (.tup []) (putL H id (.rows (sz + 1) n0 fun k => match Nat.blt k lo with
                            | true => get k
                            | false => [])) nx
                          | false => none
                      | _ => none
                  | _ => none
      | _ => none
    | _ => none
  | _, _ => none
where
  appO (F : List (Nat × MV)) (stk : List (List (Nat × MV))) (H : List (Nat × Blk)) (nx : Nat) (s : MV) (sz : Nat) (ti : TI) (n2 : Nat) (xget : Nat → List MV) (isx : Nat → Bool) : Option (MV × St) := match s with
    | .nils => match Nat.ble (n2 * ti.bytes) 140737488355328 && Nat.ble n2 140737488355328 with
      | true => decSt F stk (.os nx (sz + 1) 0 n2) (putL H nx (.rows (sz + 1) n2 xget)) (nx + 1)
      | false => none
    | .os id sz' 0 n => match Nat.beq (sz + 1) sz' with
      | false => none
      | true => match isx id with
        | true => none
        | false => match look H id with
          | some (.rows sz2 n0 get) => match Nat.beq (sz + 1) sz2 with
            | false => none
            | true => match Nat.ble n n0 && Nat.ble ((n + n2) * ti.bytes) 140737488355328 && Nat.ble (n + n2) 140737488355328 with
              | true => some (.os id (sz + 1) 0 (n + n2), { F := purgeF id F, stk := purgeS id stk, H := putL (purgeH id H) id (.rows (sz + 1) (n + n2) (appGet n get xget)), nx := nx })
              | false => none
          | _ => none
    | _ => none
end Go.Ev

namespace Go.Ev
/-! ### What is looked at to its end -/
def forceN {β : Type} (n : Nat) (k : Nat → β) : β := match n with
  | 0 => k 0
  | m + 1 => k (Nat.succ m)
def forceI {β : Type} (n : Int) (k : Int → β) : β := match n with
  | .ofNat a => forceN a fun a => k (.ofNat a)
  | .negSucc a => forceN a fun a => k (.negSucc a)
def forceO {β : Type} (b : Bool) (k : Bool → β) : β := match b with
  | true => k true
  | false => k false
def force1 {β : Type} (m : MV) (k : MV → β) : β := match m with
  | .lb x => forceO x fun x => k (.lb x)
  | .b x => forceO x fun x => k (.b x)
  | .i t n => forceI n fun n => k (.i t n)
  | .f t n => forceN n fun n => k (.f t n)
  | .p a b => forceN a fun a => forceN b fun b => k (.p a b)
  | .pe a b c d => forceN a fun a => forceN b fun b => forceN c fun c => forceN d fun d => k (.pe a b c d)
  | .os a b c d => forceN a fun a => forceN b fun b => forceN c fun c => forceN d fun d => k (.os a b c d)
  | .oc a b c d => forceN a fun a => forceN b fun b => forceN c fun c => forceN d fun d => k (.oc a b c d)
  | m => k m
def force1L {β : Type} : List MV → (List MV → β) → β
  | [], k => k []
  | m :: r, k => force1 m fun m => force1L r fun r => k (m :: r)
def force2 {β : Type} (m : MV) (k : MV → β) : β := match m with
  | .agg l => force1L l fun l => k (.agg l)
  | .tup l => force1L l fun l => k (.tup l)
  | .fn f l m => force1L l fun l => force1L m fun m => k (.fn f l m)
  | .rp l => force1L l fun l => k (.rp l)
  | .gd j w m => force1 m fun m => k (.gd j w m)
  | m => force1 m k
def force2L {β : Type} : List MV → (List MV → β) → β
  | [], k => k []
  | m :: r, k => force2 m fun m => force2L r fun r => k (m :: r)
def force3 {β : Type} (m : MV) (k : MV → β) : β := match m with
  | .tup l => force2L l fun l => k (.tup l)
  | m => force2 m k
def forceG {α β : Type} : List (Nat × α) → (List (Nat × α) → β) → β
  | [], k => k []
  | (s, m) :: r, k => forceG r fun r' => k ((s, m) :: r')
/-! ### One operation, one region -/
abbrev CallO := FuncId → List MV → St → Option (MV × St)
def decExt (k : XK) (ms : List MV) : Bool := match k, ms with
  | .f64from, [.i .u64 n] => Nat.blt n.toNat 18446744073709551616
  | .f32from, [.i .u32 n] => Nat.blt n.toNat 4294967296
  | _, _ => false
def viewB0 (H : List (Nat × Blk)) : MV → Bool
  | .os id _ lo n => match look H id with
    | some (.rows _ n0 _) => Nat.ble (lo + n) n0
    | _ => false
  | _ => true
def viewB1 (H : List (Nat × Blk)) (m : MV) : Bool := viewB0 H (normO m)
def viewBL (H : List (Nat × Blk)) : List MV → Bool
  | [] => true
  | m :: r => match viewB1 H m with
    | true => viewBL H r
    | false => false
def viewBs (H : List (Nat × Blk)) : List MV → Bool
  | [] => true
  | m :: r => match (match m with | .agg l => viewBL H l | m => viewB1 H m) with
    | true => viewBs H r
    | false => false
def decPure (E : Env) (S : St) (g : List (Nat × Bool)) (op : Op) : Bool :=
  match op with
  | .pick _ _ _ => false
  | .call ⟨.value (.func f), args, _⟩ => match opds S.F g args.toList with
    | none => false
    | some ms => match E.ext f with
      | some k => decExt k ms
      | none => match viewBs S.H ms with
        | false => false
        | true => match viewL S.H ms with
          | none => false
          | some (_, _, ms') => match E.sum f ms' with
            | some ([], _, _, _) => true
            | _ => false
  | .call ⟨.value (.tmp t), args, _⟩ => match calleeOf S.F g (.tmp t) args.toList with
    | none => false
    | some (f, ms) => match E.ext f with
      | some k => decExt k ms
      | none => match viewBs S.H ms with
        | false => false
        | true => match viewL S.H ms with
          | none => false
          | some (_, _, ms') => match E.sum f ms' with
            | some ([], _, _, _) => true
            | _ => false
  | op => match opds S.F g (operL op) with
    | none => false
    | some ms => decPm E S.H op (opN op ms)
def oAny (E : Env) (call : CallO) (ops : List Oper) (S : St) (g : List (Nat × Bool)) (op : Op) : Option (MV × St) :=
  match evPure E ops S g op with
  | some (none, m) => some (m, S)
  | some (some _, m) => match decPure E S g op with
    | true => some (m, S)
    | false => none
  | none => match op with
    | .call ⟨.value fo, args, _⟩ => match opd S.F g fo with
      | some (.fn f first caps) => match opds S.F g args.toList with
        | some ms => call f (first ++ ms ++ caps) S
        | none => none
      | _ => none
    | op => match opds S.F g (operL op) with
      | none => none
      | some ms => match S with
        | ⟨F, stk, H, nx⟩ => evKo E F stk H nx op (opN op ms)
def oPut (n : Nat) (tb : List TE) (dst : Option Nat) (m : MV) (S : St) : Option St :=
  match dst with
  | none => some S
  | some d => match freeT tb d with
    | true => match Nat.blt d n with
      | true => match S with
        | ⟨F, stk, H, nx⟩ => force3 m fun m => some ⟨putL F d m, stk, H, nx⟩
      | false => none
    | false => none
def oOps (E : Env) (call : CallO) (n : Nat) (ops : List Oper) : List Oper → List TE → St → Option St
  | [], _, S => match S with
    | ⟨F, stk, H, nx⟩ => forceG (cleanF F) fun F' => some ⟨F', stk, H, nx⟩
  | o :: rest, tb, S => match o.guard with
    | none => match oAny E call ops S [] o.op with
      | none => none
      | some (m, S') => match oPut n tb o.dst m S' with
        | none => none
        | some S'' => oOps E call n ops rest tb S''
    | some (j, want) => match condOf ops S.F tb j want with
      | none => none
      | some .t => match oAny E call ops S (ancG ops S.F ops.length j want) o.op with
        | none => none
        | some (m, S') => match oPut n tb o.dst m S' with
          | none => none
          | some S'' => oOps E call n ops rest tb S''
      | some .f => match oPut n tb o.dst (.x undef) S with
        | none => none
        | some S'' => oOps E call n ops rest tb S''
      | some (.s C) => forceO C fun C => match evPure E ops S (ancG ops S.F ops.length j want) o.op with
        | some (none, m) => match noGd m with
          | true => match oPut n (⟨j, want, dOf ops j, .s C⟩ :: tb) o.dst (.gd j want m) S with
            | none => none
            | some S'' => oOps E call n ops rest (⟨j, want, dOf ops j, .s C⟩ :: tb) S''
          | false => none
        | some (some _, m) => match noGd m with
          | true => match !C || decPure E S (ancG ops S.F ops.length j want) o.op with
            | true => match oPut n (⟨j, want, dOf ops j, .s C⟩ :: tb) o.dst (.gd j want m) S with
              | none => none
              | some S'' => oOps E call n ops rest (⟨j, want, dOf ops j, .s C⟩ :: tb) S''
            | false => none
          | false => none
        | none => match C with
          | true => match S with
            | ⟨F, stk, H, nx⟩ => forceG (decideF ops F j want true) fun F' => match oAny E call ops ⟨F', stk, H, nx⟩ (ancG ops F ops.length j want) o.op with
              | none => none
              | some (m, S') => match oPut n (⟨j, want, dOf ops j, .t⟩ :: tb) o.dst m S' with
                | none => none
                | some S'' => oOps E call n ops rest (⟨j, want, dOf ops j, .t⟩ :: tb) S''
          | false => match S with
            | ⟨F, stk, H, nx⟩ => forceG (decideF ops F j want false) fun F' => match oPut n (⟨j, want, dOf ops j, .f⟩ :: tb) o.dst (.x undef) ⟨F', stk, H, nx⟩ with
              | none => none
              | some S'' => oOps E call n ops rest (⟨j, want, dOf ops j, .f⟩ :: tb) S''
end Go.Ev

namespace Go.Ev
open Ieee
/-! ## The order of floats is the order of their rungs -/
def sgn (f : Format) (x : Nat) : Bool := x / f.signWeight % 2 == 1
def rg (f : Format) (x : Nat) : Nat := x % f.signWeight
def magOf (f : Format) (r : Nat) : Nat := if r < f.binade then r else (f.binade + r % f.binade) * 2 ^ (r / f.binade - 1)
def sg (s : Bool) (n : Nat) : Int := if s then -(n : Int) else n
def worth (f : Format) (x : Nat) : Int := sg (sgn f x) (rg f x)
theorem binade_pos (f : Format) : 0 < f.binade := Nat.two_pow_pos _
theorem magOf_step (f : Format) (r : Nat) : magOf f r < magOf f (r + 1) := by
  have hb := binade_pos f
  unfold magOf
  generalize f.binade = b at *
  by_cases h1 : r + 1 < b
  · rw [if_pos (by omega), if_pos h1]; omega
  · rw [if_neg h1]
    by_cases h2 : r < b
    · have e : r + 1 = b := by omega
      rw [if_pos h2, e, Nat.mod_self, Nat.div_self hb]
      simp; omega
    · rw [if_neg h2]
      obtain ⟨q, t, ht, rfl⟩ : ∃ q t, t < b ∧ r = b * q + t := ⟨r / b, r % b, Nat.mod_lt _ hb, (Nat.div_add_mod r b).symm⟩
      have hq : 1 ≤ q := by
        rcases Nat.eq_zero_or_pos q with rfl | h
        · omega
        · exact h
      have hm : ∀ t, t < b → (b * q + t) % b = t ∧ (b * q + t) / b = q := fun t ht => by
        refine ⟨by rw [Nat.mul_add_mod]; exact Nat.mod_eq_of_lt ht, ?_⟩
        rw [Nat.mul_add_div hb, Nat.div_eq_of_lt ht, Nat.add_zero]
      rw [(hm t ht).1, (hm t ht).2]
      have hp := Nat.two_pow_pos (q - 1)
      by_cases h3 : t + 1 < b
      · rw [show b * q + t + 1 = b * q + (t + 1) by omega, (hm _ h3).1, (hm _ h3).2]
        exact Nat.mul_lt_mul_of_pos_right (by omega) hp
      · have e : b * q + t + 1 = b * (q + 1) + 0 := by rw [Nat.mul_succ]; omega
        rw [e]
        have e1 : (b * (q + 1) + 0) % b = 0 := by simp
        have e2 : (b * (q + 1) + 0) / b = q + 1 := by simp [Nat.mul_div_cancel_left _ hb]
        rw [e1, e2, show q + 1 - 1 = (q - 1) + 1 by omega, Nat.pow_succ]
        calc (b + t) * 2 ^ (q - 1) < (b + b) * 2 ^ (q - 1) := Nat.mul_lt_mul_of_pos_right (by omega) hp
          _ = (b + 0) * (2 ^ (q - 1) * 2) := by rw [Nat.add_zero, Nat.mul_comm (2 ^ (q-1)) 2, ← Nat.mul_assoc]; congr 1; omega
theorem magOf_mono (f : Format) {r s : Nat} (h : r < s) : magOf f r < magOf f s := by
  induction s with
  | zero => omega
  | succ s ih =>
    rcases Nat.lt_or_ge r s with h1 | h1
    · exact Nat.lt_trans (ih h1) (magOf_step f s)
    · have : r = s := by omega
      subst this; exact magOf_step f r
theorem magOf_zero (f : Format) : magOf f 0 = 0 := by
  unfold magOf
  rw [if_pos (binade_pos f)]
theorem cmp_eq {a b c d : Int} (h1 : a < b ↔ c < d) (h2 : a = b ↔ c = d) : compare a b = compare c d := by
  have e1 := Int.lt_trichotomy a b
  have e2 := Int.lt_trichotomy c d
  simp only [compare, compareOfLessAndEq]
  by_cases x : a < b
  · rw [if_pos x, if_pos (h1.1 x)]
  · rw [if_neg x, if_neg (fun y => x (h1.2 y))]
    by_cases y : a = b
    · rw [if_pos y, if_pos (h2.1 y)]
    · rw [if_neg y, if_neg (fun z => y (h2.2 z))]
theorem cmp_sg (f : Format) (s t : Bool) (r q : Nat) : compare (sg s (magOf f r)) (sg t (magOf f q)) = compare (sg s r) (sg t q) := by
  have m1 : magOf f r < magOf f q ↔ r < q := ⟨fun h => by
    rcases Nat.lt_trichotomy r q with h1 | h1 | h1
    · exact h1
    · subst h1; omega
    · have := magOf_mono f h1; omega, magOf_mono f⟩
  have m2 : magOf f q < magOf f r ↔ q < r := ⟨fun h => by
    rcases Nat.lt_trichotomy r q with h1 | h1 | h1
    · have := magOf_mono f h1; omega
    · subst h1; omega
    · exact h1, magOf_mono f⟩
  have z1 : magOf f r = 0 ↔ r = 0 := ⟨fun h => by
    rcases Nat.eq_zero_or_pos r with h1 | h1
    · exact h1
    · have := magOf_mono f h1; omega, fun h => by rw [h, magOf_zero]⟩
  have z2 : magOf f q = 0 ↔ q = 0 := ⟨fun h => by
    rcases Nat.eq_zero_or_pos q with h1 | h1
    · exact h1
    · have := magOf_mono f h1; omega, fun h => by rw [h, magOf_zero]⟩
  generalize magOf f r = a at *
  generalize magOf f q = b at *
  apply cmp_eq <;> cases s <;> cases t <;> simp only [sg, Bool.false_eq_true, if_true, if_false] <;> omega
theorem read_fin (f : Format) (x : Nat) (h : rg f x < f.infRung) : ∃ m k, f.read x = .number (sgn f x) m (f.leastPlace + (k : Nat)) ∧ m * 2 ^ k = magOf f (rg f x) := by
  unfold Format.read
  dsimp only
  unfold rg at h
  unfold rg magOf sgn
  by_cases h1 : x % f.signWeight < f.binade
  · rw [if_pos h1, if_pos h1]
    exact ⟨x % f.signWeight, 0, by simp, by simp⟩
  · rw [if_neg h1, if_pos h, if_neg h1]
    exact ⟨_, _, rfl, rfl⟩
theorem read_inf (f : Format) (x : Nat) (hb : f.binade ≤ f.infRung) (h : rg f x = f.infRung) : f.read x = .infinity (sgn f x) := by
  unfold Format.read
  dsimp only
  unfold rg at h
  rw [if_neg (by omega), if_neg (by omega), if_pos h]
  rfl
theorem read_nan_iff (f : Format) (x : Nat) (hb : f.binade ≤ f.infRung) : (f.read x).isNaN = decide (f.infRung < rg f x) := by
  unfold Format.read rg
  dsimp only
  split
  · rw [decide_eq_false (by omega)]; rfl
  · split
    · rw [decide_eq_false (by omega)]; rfl
    · split
      · rw [decide_eq_false (by omega)]; rfl
      · rw [decide_eq_true (by omega)]; rfl
theorem signed_eq (s : Bool) (m a b k : Nat) (h : a = b + k) : signed s m a = sg s (m * 2 ^ k) * 2 ^ b := by
  subst h
  unfold signed sg
  rw [Nat.shiftLeft_eq, Nat.pow_add]
  have e : ((m * (2 ^ b * 2 ^ k) : Nat) : Int) = ((m * 2 ^ k : Nat) : Int) * 2 ^ b := by
    rw [Nat.mul_comm (2 ^ b) (2 ^ k), ← Nat.mul_assoc]; simp
  cases s
  · simpa using e
  · simp only [if_true]
    rw [Int.neg_mul]; congr 1
theorem sg_mul (s : Bool) (m k : Nat) : sg s (m * 2 ^ k) = sg s m * 2 ^ k := by
  cases s <;> simp [sg, Int.neg_mul]
theorem cmp_scale (a b : Int) (k : Nat) : compare (a * 2 ^ k) (b * 2 ^ k) = compare a b := by
  have hp : (0 : Int) < 2 ^ k := Int.pow_pos (by decide)
  apply cmp_eq
  · exact ⟨fun h => Int.lt_of_mul_lt_mul_right h (Int.le_of_lt hp), fun h => Int.mul_lt_mul_of_pos_right h hp⟩
  · exact ⟨fun h => Int.eq_of_mul_eq_mul_right (by omega) h, fun h => by rw [h]⟩
theorem cmp_lt {a b : Int} (h : a < b) : compare a b = .lt := by
  simp only [compare, compareOfLessAndEq]; rw [if_pos h]
theorem cmp_gt {a b : Int} (h : b < a) : compare a b = .gt := by
  simp only [compare, compareOfLessAndEq]; rw [if_neg (by omega), if_neg (by omega)]
theorem cmp_eqv (a : Int) : compare a a = .eq := by
  simp [compare, compareOfLessAndEq]
theorem order_worth (f : Format) (hb : f.binade ≤ f.infRung) {x y : Nat} (hx : (f.read x).isNaN = false) (hy : (f.read y).isNaN = false) : f.order x y = some (compare (worth f x) (worth f y)) := by
  rw [read_nan_iff f x hb] at hx
  rw [read_nan_iff f y hb] at hy
  have hx := of_decide_eq_false hx
  have hy := of_decide_eq_false hy
  have hip : 0 < f.infRung := Nat.lt_of_lt_of_le (binade_pos f) hb
  unfold Format.order worth
  by_cases ix : rg f x = f.infRung
  · rw [read_inf f x hb ix]
    by_cases iy : rg f y = f.infRung
    · rw [read_inf f y hb iy, ix, iy]
      unfold Datum.order
      dsimp only
      congr 1
      cases sgn f x <;> cases sgn f y <;> simp only [sg, Bool.false_eq_true, if_true, if_false]
      · rw [cmp_eqv]; rfl
      · rw [cmp_gt (by omega)]; rfl
      · rw [cmp_lt (by omega)]; rfl
      · rw [cmp_eqv]; rfl
    · obtain ⟨m, k, e, _⟩ := read_fin f y (by omega)
      rw [e, ix]
      unfold Datum.order
      dsimp only
      congr 1
      cases sgn f x <;> cases sgn f y <;> simp only [sg, Bool.false_eq_true, if_true, if_false]
      · rw [cmp_gt (by omega)]
      · rw [cmp_gt (by omega)]
      · rw [cmp_lt (by omega)]
      · rw [cmp_lt (by omega)]
  · obtain ⟨m, k, e, hm⟩ := read_fin f x (by omega)
    by_cases iy : rg f y = f.infRung
    · rw [e, read_inf f y hb iy, iy]
      unfold Datum.order
      dsimp only
      congr 1
      cases sgn f x <;> cases sgn f y <;> simp only [sg, Bool.false_eq_true, if_true, if_false]
      · rw [cmp_lt (by omega)]
      · rw [cmp_gt (by omega)]
      · rw [cmp_lt (by omega)]
      · rw [cmp_gt (by omega)]
    · obtain ⟨n, j, e', hn⟩ := read_fin f y (by omega)
      rw [e, e']
      unfold Datum.order
      dsimp only
      congr 1
      rw [← cmp_sg f, ← hm, ← hn]
      rcases Nat.le_total k j with h | h
      · have b1 : min (f.leastPlace + (k : Int)) (f.leastPlace + (j : Int)) = f.leastPlace + k := by omega
        rw [b1]
        have e1 : (f.leastPlace + (k : Int) - (f.leastPlace + k)).toNat = 0 := by omega
        have e2 : (f.leastPlace + (j : Int) - (f.leastPlace + k)).toNat = j - k := by omega
        rw [e1, e2, signed_eq _ m 0 0 0 rfl, signed_eq _ n (j - k) 0 (j - k) (by omega)]
        rw [← cmp_scale _ _ k]
        congr 1
        · simp [sg_mul]
        · have : n * 2 ^ j = n * 2 ^ (j - k) * 2 ^ k := by rw [Nat.mul_assoc, ← Nat.pow_add]; congr 2; omega
          rw [this, sg_mul _ _ k]; simp
      · have b1 : min (f.leastPlace + (k : Int)) (f.leastPlace + (j : Int)) = f.leastPlace + j := by omega
        rw [b1]
        have e1 : (f.leastPlace + (k : Int) - (f.leastPlace + j)).toNat = k - j := by omega
        have e2 : (f.leastPlace + (j : Int) - (f.leastPlace + j)).toNat = 0 := by omega
        rw [e1, e2, signed_eq _ m (k - j) 0 (k - j) (by omega), signed_eq _ n 0 0 0 rfl]
        rw [← cmp_scale _ _ j]
        congr 1
        · have : m * 2 ^ k = m * 2 ^ (k - j) * 2 ^ j := by rw [Nat.mul_assoc, ← Nat.pow_add]; congr 2; omega
          rw [this, sg_mul _ _ j]; simp
        · simp [sg_mul]
end Go.Ev

namespace Go.Ev
open Ieee
abbrev Can (k : FloatKind) (x : Nat) : Prop := FR k x x
theorem FR.raw {k : FloatKind} {r x : Nat} (h : FR k r x) (hn : isNan k x = false) : r = x := by
  have := h.eq
  cases hr : isNan k r
  · rw [canon_of_not hr] at this; exact this
  · rw [canon_of_nan hr] at this; subst this; rw [isNan_qnan] at hn; cases hn
theorem FR.nan {k : FloatKind} {r x : Nat} (h : FR k r x) : isNan k r = isNan k x := by rw [← h.eq, isNan_canon]
theorem Can.qnan {k : FloatKind} {x : Nat} (h : Can k x) (hn : isNan k x = true) : x = Ev.qnan k := by rw [← h.eq, canon_of_nan hn]
theorem k_le (k : FloatKind) : k.format.binade ≤ k.format.infRung := by cases k <;> decide
def wrt (k : FloatKind) (x : Nat) : Int := worth k.format x
def neg (k : FloatKind) (x : Nat) : Bool := sgn k.format x
def fin (k : FloatKind) (x : Nat) : Bool := decide (rg k.format x < k.format.infRung)
theorem isNan_eq (k : FloatKind) (x : Nat) : isNan k x = decide (k.format.infRung < rg k.format x) := read_nan_iff _ x (k_le k)
theorem ord_some (k : FloatKind) {x y : Nat} (hx : isNan k x = false) (hy : isNan k y = false) : k.format.order x y = some (compare (wrt k x) (wrt k y)) := order_worth _ (k_le k) hx hy
theorem ord_none (k : FloatKind) {x y : Nat} (h : isNan k x = true ∨ isNan k y = true) : k.format.order x y = none := by
  rcases h with h | h
  · obtain ⟨s, t, e⟩ := read_nan h; exact order_nan_left e
  · obtain ⟨s, t, e⟩ := read_nan h; exact order_nan_right e
theorem cmp_cases (a b : Int) : compare a b = if a < b then .lt else if a = b then .eq else .gt := rfl
theorem feq_eq (k : FloatKind) (x y : Nat) : feq k x y = (!isNan k x && !isNan k y && decide (wrt k x = wrt k y)) := by
  unfold feq
  cases hx : isNan k x
  · cases hy : isNan k y
    · rw [ord_some k hx hy, cmp_cases]
      by_cases h1 : wrt k x < wrt k y
      · rw [if_pos h1]; simp; omega
      · rw [if_neg h1]
        by_cases h2 : wrt k x = wrt k y
        · rw [if_pos h2]; simp [h2]
        · rw [if_neg h2]; simp [h2]
    · rw [ord_none k (.inr hy)]; rfl
  · rw [ord_none k (.inl hx)]; rfl
theorem flt_eq (k : FloatKind) (x y : Nat) : flt k x y = (!isNan k x && !isNan k y && decide (wrt k x < wrt k y)) := by
  unfold flt
  cases hx : isNan k x
  · cases hy : isNan k y
    · rw [ord_some k hx hy, cmp_cases]
      by_cases h1 : wrt k x < wrt k y
      · rw [if_pos h1]; simp [h1]
      · rw [if_neg h1]
        by_cases h2 : wrt k x = wrt k y
        · rw [if_pos h2]; simp [h2]
        · rw [if_neg h2]; simp [h1]
    · rw [ord_none k (.inr hy)]; rfl
  · rw [ord_none k (.inl hx)]; rfl
theorem fgt_eq (k : FloatKind) (x y : Nat) : fgt k x y = (!isNan k x && !isNan k y && decide (wrt k y < wrt k x)) := by
  unfold fgt
  cases hx : isNan k x
  · cases hy : isNan k y
    · rw [ord_some k hx hy, cmp_cases]
      by_cases h1 : wrt k x < wrt k y
      · rw [if_pos h1]; simp; omega
      · rw [if_neg h1]
        by_cases h2 : wrt k x = wrt k y
        · rw [if_pos h2]; simp [h2]
        · rw [if_neg h2]; simp; omega
    · rw [ord_none k (.inr hy)]; rfl
  · rw [ord_none k (.inl hx)]; rfl
theorem fle_eq (k : FloatKind) (x y : Nat) : fle k x y = (!isNan k x && !isNan k y && decide (wrt k x ≤ wrt k y)) := by
  have h : fle k x y = (flt k x y || feq k x y) := rfl
  rw [h, flt_eq, feq_eq]
  cases isNan k x <;> cases isNan k y <;> simp
  by_cases h1 : wrt k x < wrt k y
  · simp [h1]; omega
  · by_cases h2 : wrt k x = wrt k y
    · simp [h2]
    · simp [h1, h2]; omega
theorem sw_single : single.signWeight = 2147483648 := by decide
theorem sw_double : double.signWeight = 9223372036854775808 := by decide
theorem ir_double : double.infRung = 9218868437227405312 := by decide
theorem parts (k : FloatKind) {x : Nat} (h : x < 2 ^ k.format.width) : x = (if neg k x then k.format.signWeight else 0) + rg k.format x ∧ rg k.format x < k.format.signWeight := by
  cases k
  · have h : x < 4294967296 := h
    unfold neg sgn rg FloatKind.format
    rw [sw_single]
    by_cases h1 : x < 2147483648
    · have : (x / 2147483648 % 2 == 1) = false := by simp; omega
      rw [this]; simp; omega
    · have : (x / 2147483648 % 2 == 1) = true := by simp; omega
      rw [this]; simp; omega
  · have h : x < 18446744073709551616 := h
    unfold neg sgn rg FloatKind.format
    rw [sw_double]
    by_cases h1 : x < 9223372036854775808
    · have : (x / 9223372036854775808 % 2 == 1) = false := by simp; omega
      rw [this]; simp; omega
    · have : (x / 9223372036854775808 % 2 == 1) = true := by simp; omega
      rw [this]; simp; omega
end Go.Ev

namespace Go.Ev
/-! ### Regions whose order is drawn, decided -/
def decFresh (E : Env) (S : St) (g : List (Nat × Bool)) (op : Op) : Bool :=
  match op with
  | .makeSlice t a b => match opds S.F g (operL (.makeSlice t a b)) with
    | some [.i _ l, .i _ c] => match E.ty t with
      | some ⟨.slice e, _, _, _⟩ => match E.ty e with
        | some ti => decide (0 ≤ l) && decide (l ≤ c) && decide (ti.bytes * c ≤ 140737488355328) && decide (c ≤ 140737488355328)
        | none => false
      | _ => false
    | _ => false
  | _ => false
def drawO (E : Env) (n : Nat) (ops : List Oper) (Bs : List (List Nat)) (ws : List (Nat × Nat)) (F0 : List (Nat × MV)) (stk : List (List (Nat × MV))) (H : List (Nat × Blk)) (nx : Nat) : Nat → List Oper → Nat → List RC → Option (List RC)
  | _, [], _, done => some done
  | j, o :: r, cur, done => match dstB n o with
    | false => none
    | true => forceG (addF (getB Bs j) done (keepF Bs ws j F0)) fun F => match o.guard with
      | none => match evPure E ops ⟨F, stk, H, nx⟩ [] o.op with
        | some (none, m) => match noGd m with
          | true => force3 m fun m => drawO E n ops Bs ws F0 stk H nx (j + 1) r cur (⟨j, o.dst, m, none, [], cur⟩ :: done)
          | false => none
        | some (some _, m) => match noGd m with
          | true => match decPure E ⟨F, stk, H, nx⟩ [] o.op with
            | true => force3 m fun m => drawO E n ops Bs ws F0 stk H nx (j + 1) r cur (⟨j, o.dst, m, none, [], cur⟩ :: done)
            | false => none
          | false => none
        | none => match evFresh E ⟨F, stk, H, nx⟩ [] o.op with
          | none => none
          | some (c, m, blks) => match noGd (shift cur m) with
            | false => none
            | true => match Nat.ble (cur + blks.length) nx with
              | false => none
              | true => match (match c with | none => true | some _ => decFresh E ⟨F, stk, H, nx⟩ [] o.op) with
                | false => none
                | true => forceN (cur + blks.length) fun cur' => force3 (shift cur m) fun m' => drawO E n ops Bs ws F0 stk H nx (j + 1) r cur' (⟨j, o.dst, m', none, blks, cur⟩ :: done)
      | some (k, want) => match inN (getB Bs j) k with
        | false => none
        | true => match condOf ops F (tabT (getB Bs j) done) k want with
          | none => none
          | some .t => match evPure E ops ⟨F, stk, H, nx⟩ (ancG ops F ops.length k want) o.op with
            | some (none, m) => match noGd m with
              | true => force3 m fun m => drawO E n ops Bs ws F0 stk H nx (j + 1) r cur (⟨j, o.dst, m, none, [], cur⟩ :: done)
              | false => none
            | some (some _, m) => match noGd m with
              | true => match decPure E ⟨F, stk, H, nx⟩ (ancG ops F ops.length k want) o.op with
                | true => force3 m fun m => drawO E n ops Bs ws F0 stk H nx (j + 1) r cur (⟨j, o.dst, m, none, [], cur⟩ :: done)
                | false => none
              | false => none
            | none => none
          | some .f => drawO E n ops Bs ws F0 stk H nx (j + 1) r cur (⟨j, o.dst, .x undef, none, [], cur⟩ :: done)
          | some (.s C) => forceO C fun C => match evPure E ops ⟨F, stk, H, nx⟩ (ancG ops F ops.length k want) o.op with
            | some (none, m) => match noGd m with
              | true => force3 m fun m => drawO E n ops Bs ws F0 stk H nx (j + 1) r cur (⟨j, o.dst, .gd k want m, some ⟨k, want, dOf ops k, .s C⟩, [], cur⟩ :: done)
              | false => none
            | some (some _, m) => match noGd m with
              | true => match !C || decPure E ⟨F, stk, H, nx⟩ (ancG ops F ops.length k want) o.op with
                | true => force3 m fun m => drawO E n ops Bs ws F0 stk H nx (j + 1) r cur (⟨j, o.dst, .gd k want m, some ⟨k, want, dOf ops k, .s C⟩, [], cur⟩ :: done)
                | false => none
              | false => none
            | none => match C with
              | true => none
              | false => drawO E n ops Bs ws F0 stk H nx (j + 1) r cur (⟨j, o.dst, .x undef, none, [], cur⟩ :: done)
def force1N {β : Type} : List Nat → (List Nat → β) → β
  | [], k => k []
  | x :: r, k => forceN x fun x => force1N r fun r => k (x :: r)
def force2N {β : Type} : List (List Nat) → (List (List Nat) → β) → β
  | [], k => k []
  | x :: r, k => force1N x fun x => force2N r fun r => k (x :: r)
def forceW {β : Type} : List (Nat × Nat) → (List (Nat × Nat) → β) → β
  | [], k => k []
  | (a, b) :: r, k => forceN a fun a => forceN b fun b => forceW r fun r => k ((a, b) :: r)
def oDrawQ (E : Env) (call : CallO) (n : Nat) (ops : List Oper) (Bs : List (List Nat)) (cs : List Nat) (len : Nat) : Nat → Nat → St → Option St
  | 0, _, _ => none
  | f + 1, s, S => match Nat.blt s len with
    | false => some S
    | true => forceN (gEnd cs len s) fun q => forceN (rowEnd cs len len q) fun r =>
      match Nat.ble s q && Nat.ble q r && Nat.ble r len && Nat.blt s r && rowCuts cs q (r - q) with
      | false => none
      | true => match S with
        | ⟨F0, stk, H, nx⟩ => forceN (nx + frN ((ops.drop s).take (q - s))) fun nx' => forceW (writers (ops.drop s) s) fun ws =>
          forceG (restr F0 (usedL ops ((ops.drop s).take (q - s))) []) fun F1 => match drawO E n ops Bs ws F1 stk H nx' s ((ops.drop s).take (q - s)) nx [] with
          | none => none
          | some recs => forceG (addA recs (f0F (fun i => Nat.blt i q) ws F0)) fun F' => forceG (bD (fun _ => true) recs H) fun H' =>
            match oOps E call n ops ((ops.drop q).take (r - q)) (tabA recs) ⟨F', stk, H', nx'⟩ with
            | none => none
            | some S' => oDrawQ E call n ops Bs cs len f r S'
def oDraw (E : Env) (call : CallO) (n : Nat) (ops : List Oper) (S : St) : Option St := match allB ops [] with
  | none => none
  | some Bs => force2N Bs fun Bs => match nodupW (writers ops 0) with
    | false => none
    | true => force1N (lowC ops ops (covs Bs)) fun cs => oDrawQ E call n ops Bs cs ops.length 6 0 S
/-! ### Blocks as tables -/
def tblGet : List (List MV) → Nat → List MV
  | [], _ => []
  | x :: r, i => match r, i with
    | [], _ => x
    | _, 0 => x
    | y :: s, i + 1 => tblGet (y :: s) i
def rowsOf : Nat → Nat → (Nat → List MV) → List (List MV)
  | 0, _, _ => []
  | c + 1, i, g => g i :: rowsOf c (i + 1) g
theorem tblGet_rowsOf {g : Nat → List MV} : ∀ {c i j : Nat}, j < c → tblGet (rowsOf c i g) j = g (i + j)
  | 0, i, j, h => by omega
  | 1, i, j, h => by
    have : j = 0 := by omega
    subst this
    rfl
  | c + 2, i, 0, h => rfl
  | c + 2, i, j + 1, h => by
    show tblGet (rowsOf (c + 1) (i + 1) g) j = _
    rw [tblGet_rowsOf (by omega)]
    congr 1; omega
def forceR {β : Type} : Nat → Nat → (Nat → List MV) → (List (List MV) → β) → β
  | 0, _, _, k => k []
  | c + 1, i, g, k => forceN i fun i => force2L (g i) fun row => forceR c (i + 1) g fun r => k (row :: r)
def normB : Blk → Blk
  | .cells l => .cells l
  | .rows sz n g => match n with
    | 0 => .rows sz 0 g
    | n + 1 => .rows sz (n + 1) (tblGet (rowsOf (n + 1) 0 g))
def normL : List (Nat × Blk) → List (Nat × Blk)
  | [] => []
  | (i, b) :: r => (i, normB b) :: normL r
def normG {β : Type} : List (Nat × Blk) → (List (Nat × Blk) → β) → β
  | [], k => k []
  | (i, b) :: r, k => forceN i fun i => match b with
    | .cells l => force2L l fun l => normG r fun r => k ((i, .cells l) :: r)
    | .rows sz n g => match n with
      | 0 => normG r fun r => k ((i, .rows sz 0 g) :: r)
      | n + 1 => forceR (n + 1) 0 g fun t => normG r fun r => k ((i, .rows sz (n + 1) (tblGet t)) :: r)
theorem look_normL : ∀ {H : List (Nat × Blk)} {id : Nat} {b : Blk}, look (normL H) id = some b → ∃ b0, look H id = some b0 ∧ b = normB b0
  | [], id, b, h => by simp [normL, look] at h
  | (i, c) :: r, id, b, h => by
    simp only [normL, look] at h ⊢
    split at h
    · cases h; exact ⟨c, rfl, rfl⟩
    · exact look_normL h
theorem normB_ok {w : World} {ρ : RhoT} {ok : OkT} {id : Nat} {b : Blk} (h : BlkOK w ρ ok id b) : BlkOK w ρ ok id (normB b) := by
  cases b with
  | cells l => exact h
  | rows sz n g =>
    cases n with
    | zero => exact h
    | succ n =>
      rcases h with h | ⟨b, c, T, h1, h2, h3, h5, h4⟩
      · exact .inl h
      · refine .inr ⟨b, c, T, h1, h2, h3, h5, fun i hi j hj => ?_⟩
        rw [tblGet_rowsOf hi, Nat.zero_add]
        exact h4 i hi j hj
theorem Sat.norm {cx : Cx} {su : Sus} {n : Nat} {F : List (Nat × MV)} {stk : List (List (Nat × MV))} {H : List (Nat × Blk)} {nx : Nat} {a : Act} {w : World} (h : Sat cx su n G0 ⟨F, stk, H, nx⟩ a w) : Sat cx su n G0 ⟨F, stk, normL H, nx⟩ a w := by
  obtain ⟨ρ, hs⟩ := h
  refine ⟨ρ, ⟨hs.W.below, hs.W.inj, hs.W.rng, fun id blk hl => ?_, hs.W.nx, fun id blk hl => ?_, hs.W.okA⟩, hs.F, hs.K⟩
  · obtain ⟨b0, h1, _⟩ := look_normL hl
    exact hs.W.hlt id b0 h1
  · obtain ⟨b0, h1, rfl⟩ := look_normL hl
    exact normB_ok (hs.W.blocks id b0 h1)
def ddF {α : Type} : List (Nat × α) → List (Nat × α)
  | [] => []
  | (s, m) :: r => (s, m) :: del (ddF r) s
theorem look_ddF {α : Type} : ∀ (l : List (Nat × α)) (k : Nat), look (ddF l) k = look l k
  | [], k => rfl
  | (s, m) :: r, k => by
    simp only [ddF, look, look_del, look_ddF r k]
    cases h : Nat.beq s k
    · have : k ≠ s := by intro e; subst e; simp at h
      simp [this]
    · rfl
theorem Sat.look {cx : Cx} {su : Sus} {n : Nat} {F F' : List (Nat × MV)} {stk : List (List (Nat × MV))} {H H' : List (Nat × Blk)} {nx : Nat} {a : Act} {w : World} (hF : ∀ k, Ev.look F' k = Ev.look F k) (hH : ∀ k, Ev.look H' k = Ev.look H k) (h : Sat cx su n G0 ⟨F, stk, H, nx⟩ a w) : Sat cx su n G0 ⟨F', stk, H', nx⟩ a w := by
  obtain ⟨ρ, hs⟩ := h
  refine ⟨ρ, ⟨hs.W.below, hs.W.inj, hs.W.rng, fun id b hl => hs.W.hlt id b (by rw [← hH]; exact hl), hs.W.nx, fun id b hl => hs.W.blocks id b (by rw [← hH]; exact hl), hs.W.okA⟩, ⟨hs.F.defers, hs.F.size, fun s m hl => hs.F.frame s m (by rw [← hF]; exact hl)⟩, hs.K⟩
def tidyT : St → St
  | ⟨F, stk, H, nx⟩ => ⟨ddF F, stk, normL (ddF H), nx⟩
def tidy {β : Type} (S : St) (k : St → β) : β := match S with
  | ⟨F, stk, H, nx⟩ => forceG (ddF F) fun F' => forceG (ddF H) fun H' => normG H' fun H' => forceN nx fun nx => k ⟨F', stk, H', nx⟩
theorem Sat.tidy {cx : Cx} {su : Sus} {n : Nat} {S : St} {a : Act} {w : World} (h : Sat cx su n G0 S a w) : Sat cx su n G0 (tidyT S) a w := by
  obtain ⟨F, stk, H, nx⟩ := S
  exact (Sat.look (look_ddF F) (look_ddF H) h).norm
def oDrawI (E : Env) (call : CallO) (n : Nat) (ops : List Oper) (S : St) : Option St := match S with
  | ⟨F, stk, H, nx⟩ => match Region.noSelect ops.toArray with
    | false => none
    | true => match takeG n ops.toArray (guardsL ops) (List.range ops.length) [] (Array.replicate ops.length false) F with
      | (I, F') => match Nat.ble I.length ops.length with
        | false => none
        | true => forceG F' fun F' => oDraw E call n (blankO I 0 ops) ⟨F', stk, H, nx⟩
/-! ### Code -/
def oLoop (body : St → Option (Ex × St)) : Nat → St → Option (Ex × St)
  | 0, _ => none
  | k + 1, S => match body S with
    | some (.normal, S') => tidy S' fun S' => oLoop body k S'
    | r => r
def oC (E : Env) (call : CallO) (L n : Nat) : Code → St → Option (Ex × St)
  | .skip, S => some (.normal, S)
  | .ret, S => some (.ret, S)
  | .exit id, S => some (.exit id, S)
  | .seq a b, S => match oC E call L n a S with
    | some (.normal, S') => oC E call L n b S'
    | r => r
  | .cond c x y, S => match opd S.F [] c with
    | some (.lb true) => oC E call L n x S
    | some (.lb false) => oC E call L n y S
    | some (.b true) => oC E call L n x S
    | some (.b false) => oC E call L n y S
    | _ => none
  | .block id c, S => match oC E call L n c S with
    | some (.exit j, S') => match Nat.beq j id with
      | true => some (.normal, S')
      | false => some (.exit j, S')
    | r => r
  | .region _ ops false, S => match oOps E call n ops.toList ops.toList [] S with
    | none => none
    | some S' => some (.normal, S')
  | .region _ ops true, S => match oDraw E call n ops.toList S with
    | none => match oDrawI E call n ops.toList S with
      | none => none
      | some S' => some (.normal, S')
    | some S' => some (.normal, S')
  | .loop c, S => oLoop (oC E call L n c) L S
  | .scope c, S => oC E call L n c S
  | .label _, S => some (.normal, S)
  | _, _ => none
theorem CodeOK.to {P : Program} {cx : Cx} {n : Nat} {c : Code} {S : St} {K K' : Ex → St → Prop} (h : CodeOK P cx n c S K) (hk : ∀ e T, K e T → ∃ T', K' e T' ∧ ∀ su a w, Sat cx su n G0 T a w → Sat cx su n G0 T' a w) : CodeOK P cx n c S K' :=
  fun su a w hs => wp_mono (h su a w hs) fun _ _ _ ⟨x, T, h1, h2, h3⟩ => by
    obtain ⟨T', k1, k2⟩ := hk x T h2
    exact ⟨x, T', h1, k1, k2 _ _ _ h3⟩
end Go.Ev
