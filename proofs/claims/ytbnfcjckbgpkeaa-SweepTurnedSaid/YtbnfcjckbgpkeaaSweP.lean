/-
  The library's SortFunc laid here, and the contract of the closure that it is handed; for all numbers.
-/
import Derived.Test.YtbnfcjckbgpkeaaProg
import Derived.Shelf.SlSortCmp.NoneTotal
import Derived.WalkKit
import Derived.StillTailTactics
import Derived.Shelf.SlGeneric
set_option linter.unusedSimpArgs false
set_option linter.unusedVariables false
namespace Go.Proofs
open Go.Shelf
def Try.sortP_ren : Go.Shelf.Ren := ⟨fun | 6 => 42 | 15 => 53 | 14 => 52 | 28 => 66 | 29 => 67 | 20 => 58 | 21 => 59 | 22 => 60 | 23 => 61 | 24 => 62 | 25 => 63 | 26 => 64 | 27 => 65 | 46 => 69 | 47 => 70 | 48 => 71 | 49 => 72 | 50 => 73 | 57 => 74 | n => n, fun | 22 => 37 | 24 => 46 | 25 => 59 | 3 => 3 | 39 => 68 | 0 => 0 | 53 => 80 | 55 => 61 | 4 => 4 | 46 => 73 | 45 => 72 | 50 => 77 | 5 => 5 | 9 => 9 | 66 => 82 | 70 => 86 | 76 => 88 | 77 => 89 | n => n, fun | n => n⟩
theorem Try.sortP : Go.Proofs.SlLaysF0.n6 Try.prog Try.sortP_ren := {
  mixed := by kernel_rfl
  f6 := ⟨Try.f42.name, by decide, Try.func42.trans (congrArg some (by kernel_rfl))⟩
  f14 := ⟨Try.f52.name, by decide, Try.func52.trans (congrArg some (by kernel_rfl))⟩
  f15 := Try.func53.trans (congrArg some (by kernel_rfl))
  f20 := ⟨Try.f58.name, by decide, Try.func58.trans (congrArg some (by kernel_rfl))⟩
  f21 := ⟨Try.f59.name, by decide, Try.func59.trans (congrArg some (by kernel_rfl))⟩
  f22 := ⟨Try.f60.name, by decide, Try.func60.trans (congrArg some (by kernel_rfl))⟩
  f23 := ⟨Try.f61.name, by decide, Try.func61.trans (congrArg some (by kernel_rfl))⟩
  f24 := ⟨Try.f62.name, by decide, Try.func62.trans (congrArg some (by kernel_rfl))⟩
  f25 := ⟨Try.f63.name, by decide, Try.func63.trans (congrArg some (by kernel_rfl))⟩
  f26 := ⟨Try.f64.name, by decide, Try.func64.trans (congrArg some (by kernel_rfl))⟩
  f27 := ⟨Try.f65.name, by decide, Try.func65.trans (congrArg some (by kernel_rfl))⟩
  f28 := Try.func66.trans (congrArg some (by kernel_rfl))
  f29 := Try.func67.trans (congrArg some (by kernel_rfl))
  f46 := ⟨Try.f69.name, by decide, Try.func69.trans (congrArg some (by kernel_rfl))⟩
  f47 := Try.func70.trans (congrArg some (by kernel_rfl))
  f48 := Try.func71.trans (congrArg some (by kernel_rfl))
  f49 := ⟨Try.f72.name, by decide, Try.func72.trans (congrArg some (by kernel_rfl))⟩
  f50 := ⟨Try.f73.name, by decide, Try.func73.trans (congrArg some (by kernel_rfl))⟩
  f57 := ⟨Try.f74.name, by decide, Try.func74.trans (congrArg some (by kernel_rfl))⟩
  t0 := Try.underlying0
  a0 := Try.isAgg0
  z0 := Try.sizeOf0
  v0 := Try.zeroValue0
  t3 := Try.underlying3
  a3 := Try.isAgg3
  z3 := Try.sizeOf3
  v3 := Try.zeroValue3
  t4 := Try.underlying4
  a4 := Try.isAgg4
  z4 := Try.sizeOf4
  v4 := Try.zeroValue4
  t5 := Try.underlying5
  a5 := Try.isAgg5
  z5 := Try.sizeOf5
  v5 := Try.zeroValue5
  t9 := Try.underlying9
  a9 := Try.isAgg9
  z9 := Try.sizeOf9
  v9 := Try.zeroValue9
  t22 := Try.underlying37
  a22 := Try.isAgg37
  z22 := Try.sizeOf37
  v22 := Try.zeroValue37
  t25 := Try.underlying59
  a25 := Try.isAgg59
  z25 := Try.sizeOf59
  v25 := Try.zeroValue59
  t39 := Try.underlying68
  a39 := Try.isAgg68
  z39 := Try.sizeOf68
  v39 := Try.zeroValue68
  t45 := Try.underlying72
  a45 := Try.isAgg72
  z45 := Try.sizeOf72
  v45 := Try.zeroValue72
  t46 := Try.underlying73
  a46 := Try.isAgg73
  z46 := Try.sizeOf73
  v46 := Try.zeroValue73
  t50 := Try.underlying77
  a50 := Try.isAgg77
  z50 := Try.sizeOf77
  v50 := Try.zeroValue77
  t53 := Try.underlying80
  a53 := Try.isAgg80
  z53 := Try.sizeOf80
  v53 := Try.zeroValue80
  t55 := Try.underlying61
  a55 := Try.isAgg61
  z55 := Try.sizeOf61
  v55 := Try.zeroValue61
  t66 := Try.underlying82
  a66 := Try.isAgg82
  z66 := Try.sizeOf82
  v66 := Try.zeroValue82
  t70 := Try.underlying86
  a70 := Try.isAgg86
  z70 := Try.sizeOf86
  v70 := Try.zeroValue86
  t76 := Try.underlying88
  a76 := Try.isAgg88
  z76 := Try.sizeOf88
  v76 := Try.zeroValue88
  t77 := Try.underlying89
  a77 := Try.isAgg89
  z77 := Try.sizeOf89
  v77 := Try.zeroValue89 }
end Go.Proofs
namespace Go.Proofs
open Go.Shelf Go.RowKit Go.Lib Go.Sort
set_option maxHeartbeats 1000000
theorem Try.isNaN54 (x : Int) (w : World) : Calls Try.prog 54 #[.int .i64 x] w fun e w' => e = .returned (.bool false) ∧ w' = w := by
  go_enter Try.func54, Try.ntmps54
  go_wp2
  go_ret
  simp
theorem Try.compare45 (x y : Int) (w : World) : Calls Try.prog 45 #[.int .i64 x, .int .i64 y] w fun e w' => e = .returned (.int .i64 (Lib.compareInt x y)) ∧ w' = w := by
  go_enter Try.func45, Try.ntmps45
  go_wp2_with (go_at_call 54; refine (Try.isNaN54 _ _).mono ?_; rintro e w' ⟨rfl, rfl⟩)
  all_goals (go_ret; refine ⟨?_, rfl⟩; unfold Lib.compareInt; (repeat' split) <;> first | rfl | (exfalso; omega))
theorem Try.or44 (x y : Int) (b : Nat) (w : World) (h0 : w.cell? ⟨b, 0, none⟩ = some (.int .i64 x)) (h1 : w.cell? ⟨b, 1, none⟩ = some (.int .i64 y)) : Calls Try.prog 44 #[.slice (some ⟨b, 0, none⟩) 2 2] w fun e w' => e = .returned (.int .i64 (bif x != 0 then x else bif y != 0 then y else 0)) ∧ w' = w := by
  go_enter Try.func44, Try.ntmps44
  go_wp2
  refine wp_loop_rounds 3 ?_
  rw [rounds_succ]
  go_wp2
  all_goals (try (rw [rounds_succ]; go_wp2))
  all_goals (try (rw [rounds_succ]; go_wp2))
  all_goals (first | go_ret | go_ret2)
  all_goals (refine ⟨congrArg (fun z => Ending.returned (Value.int .i64 z)) ?_, rfl⟩)
  all_goals (first | (rw [‹(x != 0) = true›]; rfl) | (rw [‹(x != 0) = false›, ‹(y != 0) = true›]; rfl) | (rw [‹(x != 0) = false›, ‹(y != 0) = false›]; rfl))
theorem Try.cellB (W : World) (a1 a2 b1 b2 : Value) (T : TypeId) : ((W.alloc (.cells #[a1, a2] T)).alloc (.cells #[b1, b2] T)).drew.cell? ⟨W.heap.size, 0, none⟩ = some a1 ∧ ((W.alloc (.cells #[a1, a2] T)).alloc (.cells #[b1, b2] T)).drew.cell? ⟨W.heap.size, 1, none⟩ = some a2 ∧
    ((W.alloc (.cells #[a1, a2] T)).alloc (.cells #[b1, b2] T)).drew.cell? ⟨W.heap.size + 1, 0, none⟩ = some b1 ∧ ((W.alloc (.cells #[a1, a2] T)).alloc (.cells #[b1, b2] T)).drew.cell? ⟨W.heap.size + 1, 1, none⟩ = some b2 ∧ ((W.alloc (.cells #[a1, a2] T)).alloc (.cells #[b1, b2] T)).drew.heap.size = W.heap.size + 1 + 1 ∧
    ∃ os, ((W.alloc (.cells #[a1, a2] T)).alloc (.cells #[b1, b2] T)).drew = grow (W.drewN 1) os := by
  have h1 : ((W.heap.push (Obj.cells #[a1, a2] T)).push (Obj.cells #[b1, b2] T))[W.heap.size + 1]? = some (Obj.cells #[b1, b2] T) := by
    rw [show W.heap.size + 1 = (W.heap.push (Obj.cells #[a1, a2] T)).size by simp, Array.getElem?_push_size]
  have h0 : ((W.heap.push (Obj.cells #[a1, a2] T)).push (Obj.cells #[b1, b2] T))[W.heap.size]? = some (Obj.cells #[a1, a2] T) := by
    rw [Array.getElem?_push, if_neg (by simp), Array.getElem?_push_size]
  refine ⟨?_, ?_, ?_, ?_, ?_, #[.cells #[a1, a2] T, .cells #[b1, b2] T], ?_⟩
  · show (match ((W.heap.push (Obj.cells #[a1, a2] T)).push (Obj.cells #[b1, b2] T))[W.heap.size]? with | some (.cells c _ _) => if (none : Option (Option Value)).isSome then none else c[0]? | _ => none) = _
    rw [h0]; rfl
  · show (match ((W.heap.push (Obj.cells #[a1, a2] T)).push (Obj.cells #[b1, b2] T))[W.heap.size]? with | some (.cells c _ _) => if (none : Option (Option Value)).isSome then none else c[1]? | _ => none) = _
    rw [h0]; rfl
  · show (match ((W.heap.push (Obj.cells #[a1, a2] T)).push (Obj.cells #[b1, b2] T))[W.heap.size + 1]? with | some (.cells c _ _) => if (none : Option (Option Value)).isSome then none else c[0]? | _ => none) = _
    rw [h1]; rfl
  · show (match ((W.heap.push (Obj.cells #[a1, a2] T)).push (Obj.cells #[b1, b2] T))[W.heap.size + 1]? with | some (.cells c _ _) => if (none : Option (Option Value)).isSome then none else c[1]? | _ => none) = _
    rw [h1]; rfl
  · show ((W.heap.push (Obj.cells #[a1, a2] T)).push (Obj.cells #[b1, b2] T)).size = _
    simp
  · show ({ W with heap := (W.heap.push (Obj.cells #[a1, a2] T)).push (Obj.cells #[b1, b2] T), drawn := W.drawn + 1 } : World) = { W with heap := W.heap ++ #[Obj.cells #[a1, a2] T, Obj.cells #[b1, b2] T], drawn := W.drawn + 1 }
    congr 1
theorem Try.cellA (W : World) (u v : Value) (T : TypeId) : (W.alloc (.cells #[u, v] T)).cell? ⟨W.heap.size, 0, none⟩ = some u ∧ (W.alloc (.cells #[u, v] T)).cell? ⟨W.heap.size, 1, none⟩ = some v := by
  have h : (W.heap.push (Obj.cells #[u, v] T))[W.heap.size]? = some (Obj.cells #[u, v] T) := Array.getElem?_push_size
  constructor
  · show (match (W.heap.push (Obj.cells #[u, v] T))[W.heap.size]? with | some (.cells c _ _) => if (none : Option (Option Value)).isSome then none else c[0]? | _ => none) = some u
    rw [h]; rfl
  · show (match (W.heap.push (Obj.cells #[u, v] T))[W.heap.size]? with | some (.cells c _ _) => if (none : Option (Option Value)).isSome then none else c[1]? | _ => none) = some v
    rw [h]; rfl
theorem Try.closure43 (x y : Int × Int) (W : World) : Calls Try.prog 43 #[.agg #[.int .i64 x.1, .int .i64 x.2], .agg #[.int .i64 y.1, .int .i64 y.2]] W fun e w' => e = .returned (.int .i64 (bif Lib.compareInt x.1 y.1 != 0 then Lib.compareInt x.1 y.1 else bif Lib.compareInt x.2 y.2 != 0 then Lib.compareInt x.2 y.2 else 0)) ∧ ∃ q os', w' = grow (W.drewN q) os' := by
  go_enter Try.func43, Try.ntmps43
  go_wp2_with (fail)
  refine wp_region_still_tail 10 (by kernel_rfl) (by kernel_rfl) ?_
  simp only [List.take_succ_cons, List.take_zero, List.drop_succ_cons, List.drop_zero]
  change wpStill Try.prog _ ((W.alloc (.cells #[.int .i64 x.1, .int .i64 x.2] 46)).alloc (.cells #[.int .i64 y.1, .int .i64 y.2] 46)).drew (fun a' => wpList Try.prog _ _ _ a' ((W.alloc (.cells #[.int .i64 x.1, .int .i64 x.2] 46)).alloc (.cells #[.int .i64 y.1, .int .i64 y.2] 46)).drew) _ _
  obtain ⟨c0, c1, c2, c3, c4, c5⟩ := Try.cellB W (.int .i64 x.1) (.int .i64 x.2) (.int .i64 y.1) (.int .i64 y.2) 46
  generalize ((W.alloc (.cells #[.int .i64 x.1, .int .i64 x.2] 46)).alloc (.cells #[.int .i64 y.1, .int .i64 y.2] 46)).drew = W2 at *
  repeat still_step
  still_call (Try.compare45 _ _ _)
  repeat still_step
  still_call (Try.compare45 _ _ _)
  refine wpStill_nil ?_
  have cA := Try.cellA W2 (.int .i64 (compareInt x.1 y.1)) (.int .i64 (compareInt x.2 y.2)) 3
  clear c0 c1 c2 c3 c4
  have hs : W2.heap.size = W2.heap.size := rfl
  go_wp2_with (go_at_call 44; refine (Try.or44 _ _ _ _ cA.1 cA.2).mono ?_; rintro e w' ⟨rfl, rfl⟩)
  go_ret
  obtain ⟨os, rfl⟩ := c5
  exact ⟨rfl, 1, _, by rw [alloc_eq_grow, grow_grow]⟩
end Go.Proofs
