/-
  SortFunc on pairs of numbers, in place; for lists of at most 2^40 pairs.
-/
import Derived.Test.YtbnfcjckbgpkeaaSweN
import Derived.Test.YtbnfcjckbgpkeaaSweP
import Derived.Test.YtbnfcjckbgpkeaaEvS
import Derived.Test.YtbnfcjckbgpkeaaEvL
set_option linter.unusedSimpArgs false
set_option linter.unusedVariables false
open Go Go.Proofs Go.Shelf
namespace Go.Ev.Sweep
open Go.Ev.So
theorem clos43 (x y : Int × Int) (W : World) : Calls Try.prog 43 #[.agg #[.int .i64 x.1, .int .i64 x.2], .agg #[.int .i64 y.1, .int .i64 y.2]] W fun e w' => e = .returned (.int .i64 (cfP x y)) ∧ ∃ q os', w' = Sort.grow (W.drewN q) os' := Try.closure43 x y W
theorem t42 (n : Nat) (d : Nat → Int × Int) (c0 : n ≤ lim) : CU Try.prog 42 2 n (rowI2 d) (rowI2 fun k => (srtI2 cfP n d)[k]!) [.fn 43 [] []] :=
  CU.sortFunc Try.sortP Try.isAgg46 Try.sizeOf46 cfP swoP totP 43 (enters_of Try.func43 (by kernel_rfl) rfl) clos43 rfl (enters_of Try.func42 (by kernel_rfl) rfl) n (Nat.lt_of_le_of_lt c0 (by decide)) d
def prM : List MV → Int × Int
  | .i _ a :: .i _ b :: _ => (a, b)
  | _ => (0, 0)
def prO (g : Nat → List MV) (k : Nat) : Int × Int := prM (g k)
def isPr (n : Nat) (g : Nat → List MV) : Prop := ∀ k, k < n → getM (g k) 0 = .i .i64 (prO g k).1 ∧ getM (g k) 1 = .i .i64 (prO g k).2
theorem isPr_row (n : Nat) (d : Nat → Int × Int) : isPr n (rowI2 d) := fun _ _ => ⟨rfl, rfl⟩
theorem prO_row (d : Nat → Int × Int) : prO (rowI2 d) = d := rfl
theorem le_Pr {n : Nat} {g : Nat → List MV} (h : isPr n g) : ∀ i, i < n → ∀ j, j < 2 → getM (g i) j = getM (rowI2 (prO g) i) j := fun i hi j hj => by
  have hj : j = 0 ∨ j = 1 := by omega
  rcases hj with rfl | rfl
  · exact (h i hi).1
  · exact (h i hi).2
def srtV (n : Nat) (d : Nat → Int × Int) : Nat → Int × Int := fun k => (srtI2 cfP n d)[k]!
end Go.Ev.Sweep
