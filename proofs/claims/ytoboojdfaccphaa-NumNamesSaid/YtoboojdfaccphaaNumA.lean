/-
  What the functions of the layer compute, on bits; for all floats.
-/
import Derived.Test.YtoboojdfaccphaaProg
import Derived.KernelRfl
import Derived.Test.YtoboojdfaccphaaEvY
import Derived.Test.YtoboojdfaccphaaFlD
open Go Go.Proofs
namespace Go.Ev.Num
noncomputable def exts : List (Nat × XK) := [(65, .f64from), (67, .f64bits), (69, .f32from)]
theorem ext65 : ExtOK Try.prog 65 .f64from := .of Try.func65 (by kernel_rfl) (by kernel_rfl) (by kernel_rfl) (by kernel_rfl)
theorem ext67 : ExtOK Try.prog 67 .f64bits := .of Try.func67 (by kernel_rfl) (by kernel_rfl) (by kernel_rfl) (by kernel_rfl)
theorem ext69 : ExtOK Try.prog 69 .f32from := .of Try.func69 (by kernel_rfl) (by kernel_rfl) (by kernel_rfl) (by kernel_rfl)
theorem extsOK : ∀ f k, look exts f = some k → ExtOK Try.prog f k := by
  intro f k h
  unfold exts at h
  simp only [look] at h
  split at h
  · rename_i e; have := Nat.eq_of_beq_eq_true e; subst this; cases h; exact ext65
  · split at h
    · rename_i e; have := Nat.eq_of_beq_eq_true e; subst this; cases h; exact ext67
    · split at h
      · rename_i e; have := Nat.eq_of_beq_eq_true e; subst this; cases h; exact ext69
      · cases h

/-! What the functions compute. -/
def one (k : FloatKind) : Nat := match k with
  | .f32 => 1065353216
  | .f64 => 4607182418800017408
def fminus (k : FloatKind) (x : Nat) : Bool := flt k (fdiv k (one k) x) 0
def nSame (k : FloatKind) (a b : Nat) : Bool := bif feq k a 0 && feq k b 0 then (fminus k a == fminus k b) else (feq k a b || (isNan k a && isNan k b))
def nWithin (k : FloatKind) (a m : Nat) : Bool := fle k (fneg k m) a && fle k a m
def nClamp (k : FloatKind) (a l h : Nat) : Nat := bif !fgt k a l then l else bif fgt k a h then h else a
def nLeast (k : FloatKind) (a b : Nat) : Nat := bif isNan k a || flt k b a || (feq k a 0 && feq k b 0 && fminus k b) then b else a
def nMost (k : FloatKind) (a b : Nat) : Nat := bif isNan k a || fgt k b a || (feq k a 0 && feq k b 0 && fminus k a) then b else a
def nSign (k : FloatKind) (a : Nat) : Int := bif fgt k a 0 then 1 else bif flt k a 0 then -1 else 0
def nOrder (a b : Nat) : Int := bif nSame .f64 a b then 0 else bif isNan .f64 b || fgt .f64 a b || (feq .f64 a b && fminus .f64 b) then 1 else -1
def nBetween (a b t : Nat) : Nat := fadd .f64 a (fmul .f64 t (fsub .f64 b a))
def plc (x : Nat) : Int := bif neg .f64 x then -(rg Ieee.double x : Int) - 1 else rg Ieee.double x
def wor (x : Nat) : Int := bif plc x == -1 then 0 else plc x
def rFinite (x : Nat) : Bool := fin .f64 x
def rWithin (a m : Nat) : Bool := !isNan .f64 a && !isNan .f64 m && !fgt .f64 a m && !fgt .f64 (fneg .f64 m) a
def rClamp (a l h : Nat) : Nat := bif !fgt .f64 a l then l else bif fgt .f64 a h then h else a
def rLeast (a b : Nat) : Nat := bif isNan .f64 a then b else bif isNan .f64 b || decide (plc a ≤ plc b) then a else b
def rMost (a b : Nat) : Nat := bif isNan .f64 a then b else bif isNan .f64 b || decide (plc b ≤ plc a) then a else b
def rOrder (a b : Nat) : Int := bif isNan .f64 a || isNan .f64 b then (bif isNan .f64 a && isNan .f64 b then 0 else bif isNan .f64 a then -1 else 1) else bif decide (plc a < plc b) then -1 else bif decide (plc b < plc a) then 1 else 0

/-! Bits. -/
theorem f64_lt {r x : Nat} (h : FR .f64 r x) : r < 18446744073709551616 := h.lt
theorem rg_double (r : Nat) : rg Ieee.double r = r % 9223372036854775808 := by unfold rg; rw [sw_double]
theorem neg_f64 (r : Nat) : neg .f64 r = (r / 9223372036854775808 % 2 == 1) := by unfold neg sgn FloatKind.format; rw [sw_double]
theorem isNan_f64 (r : Nat) : isNan .f64 r = decide (9218868437227405312 < r % 9223372036854775808) := by
  rw [isNan_eq]; show decide (Ieee.double.infRung < rg Ieee.double r) = _
  rw [ir_double, rg_double]

theorem none_bits {r : Nat} (h : r < 18446744073709551616) :
    (ibits BinOp.and IntKind.u64 (ishr IntKind.u64 (r : Int) (Int.ofNat 52)) 2047 == 2047 && ishl IntKind.u64 (r : Int) (Int.ofNat 12) != 0) = isNan .f64 r := by
  have e1 : ishr IntKind.u64 (r : Int) (Int.ofNat 52) = ((r / 2 ^ 52 : Nat) : Int) := shr_nat r 52 (by omega)
  have e2 : ishl IntKind.u64 (r : Int) (Int.ofNat 12) = ((r * 2 ^ 12 % 2 ^ 64 : Nat) : Int) := shl_nat r 12 (by omega)
  have e3 : ibits BinOp.and IntKind.u64 ((r / 2 ^ 52 : Nat) : Int) 2047 = ((r / 2 ^ 52 % 2048 : Nat) : Int) := by
    rw [← and_2047]; exact and_nat _ 2047 (by omega) (by omega)
  rw [e1, e2, e3, isNan_f64]
  rw [Bool.eq_iff_iff]
  simp only [Bool.and_eq_true, beq_iff_eq, bne_iff_ne, decide_eq_true_eq]
  omega
theorem fin_bits {r x : Nat} (h : FR .f64 r x) :
    decide (ibits BinOp.and IntKind.u64 (ishr IntKind.u64 (r : Int) (Int.ofNat 52)) 2047 < 2047) = fin .f64 x := by
  have hr := f64_lt h
  have e1 : ishr IntKind.u64 (r : Int) (Int.ofNat 52) = ((r / 2 ^ 52 : Nat) : Int) := shr_nat r 52 (by omega)
  have e3 : ibits BinOp.and IntKind.u64 ((r / 2 ^ 52 : Nat) : Int) 2047 = ((r / 2 ^ 52 % 2048 : Nat) : Int) := by
    rw [← and_2047]; exact and_nat _ 2047 (by omega) (by omega)
  have hf : fin .f64 x = fin .f64 r := by
    cases hn : isNan .f64 r
    · rw [← h.eq, canon_of_not hn]
    · have h1 : isNan .f64 x = true := by rw [← h.nan]; exact hn
      cases h2 : fin .f64 x
      · cases h3 : fin .f64 r
        · rfl
        · rw [fin_not_nan h3] at hn; cases hn
      · rw [fin_not_nan h2] at h1; cases h1
  rw [e1, e3, hf]
  unfold fin
  show _ = decide (rg Ieee.double r < Ieee.double.infRung)
  rw [ir_double, rg_double, Bool.eq_iff_iff]
  simp only [decide_eq_true_eq]
  omega
theorem i64_wrap {n : Int} (h1 : -9223372036854775808 ≤ n) (h2 : n < 9223372036854775808) : IntKind.i64.wrap n = n := by
  show (if (true && decide (n % (18446744073709551616 : Int) ≥ (9223372036854775808 : Int))) = true then n % (18446744073709551616 : Int) - (18446744073709551616 : Int) else n % (18446744073709551616 : Int)) = n
  split <;> simp at * <;> omega
theorem low_bits {r : Nat} (_ : r < 18446744073709551616) : IntKind.i64.wrap (ishr IntKind.u64 (ishl IntKind.u64 (r : Int) (Int.ofNat 1)) (Int.ofNat 1)) = (rg Ieee.double r : Int) := by
  have e1 : ishl IntKind.u64 (r : Int) (Int.ofNat 1) = ((r * 2 ^ 1 % 2 ^ 64 : Nat) : Int) := shl_nat r 1 (by omega)
  have e2 : ishr IntKind.u64 ((r * 2 ^ 1 % 2 ^ 64 : Nat) : Int) (Int.ofNat 1) = ((r * 2 ^ 1 % 2 ^ 64 / 2 ^ 1 : Nat) : Int) := shr_nat _ 1 (by omega)
  rw [e1, e2, rg_double, i64_wrap] <;> omega
theorem sign_bits {r : Nat} (h : r < 18446744073709551616) : (ishr IntKind.u64 (r : Int) (Int.ofNat 63) == 1) = neg .f64 r := by
  have e1 : ishr IntKind.u64 (r : Int) (Int.ofNat 63) = ((r / 2 ^ 63 : Nat) : Int) := shr_nat r 63 (by omega)
  rw [e1, neg_f64, Bool.eq_iff_iff]
  simp only [beq_iff_eq]
  omega

theorem gt_wor (x y : Nat) : (!isNan .f64 x && !isNan .f64 y && decide (wor y < wor x)) = fgt .f64 x y := by
  rw [fgt_eq]
  congr 1
  rw [Bool.eq_iff_iff]
  simp only [decide_eq_true_eq]
  unfold wor plc
  rw [wrt_eq, wrt_eq]
  show _ ↔ (if neg .f64 y = true then -(rg Ieee.double y : Int) else rg Ieee.double y) < (if neg .f64 x = true then -(rg Ieee.double x : Int) else rg Ieee.double x)
  generalize rg Ieee.double x = a
  generalize rg Ieee.double y = b
  have key : ∀ c : Nat, (bif (-(c : Int) - 1 == -1) then 0 else -(c : Int) - 1) = if c = 0 then 0 else -(c : Int) - 1 := by
    intro c
    by_cases h : c = 0
    · subst h; rfl
    · rw [if_neg h]
      have : (-(c : Int) - 1 == -1) = false := by rw [beq_eq_false_iff_ne]; omega
      rw [this]; rfl
  have key2 : ∀ c : Nat, (bif ((c : Int) == -1) then 0 else (c : Int)) = c := by
    intro c
    have : ((c : Int) == -1) = false := by rw [beq_eq_false_iff_ne]; omega
    rw [this]; rfl
  cases neg .f64 x <;> cases neg .f64 y <;> simp only [cond_true, cond_false, key, key2, Bool.false_eq_true, if_false, if_true] <;> (try split) <;> (try split) <;> omega
theorem none_feq (k : FloatKind) (x : Nat) : (!feq k x x) = isNan k x := by
  rw [feq_eq]; cases isNan k x <;> simp
theorem same_nan {k : FloatKind} {x y : Nat} (hx : Can k x) (hy : Can k y) (h : (isNan k x || isNan k y) = true) : (isNan k x && isNan k y) = decide (x = y) := by
  cases h1 : isNan k x
  · cases h2 : isNan k y
    · rw [h1, h2] at h; cases h
    · have : x ≠ y := by intro e; rw [e, h2] at h1; cases h1
      simp [this]
  · cases h2 : isNan k y
    · have : x ≠ y := by intro e; rw [e, h2] at h1; cases h1
      simp [this]
    · rw [hx.qnan h1, hy.qnan h2]; simp
theorem same_raw {x y r q : Nat} (hr : FR .f64 r x) (hq : FR .f64 q y) (h : (isNan .f64 x || isNan .f64 y) = false) : ((r : Int) == (q : Int)) = decide (x = y) := by
  rw [Bool.or_eq_false_iff] at h
  rw [hr.raw h.1, hq.raw h.2, Bool.eq_iff_iff]
  simp only [beq_iff_eq, decide_eq_true_eq]
  omega
theorem fgt_swap (k : FloatKind) (x y : Nat) : fgt k x y = flt k y x := by
  rw [fgt_eq, flt_eq]; cases isNan k x <;> cases isNan k y <;> rfl
end Go.Ev.Num
