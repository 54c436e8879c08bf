import Derived.Test.YtlkamicaoljefaaS0
import Derived.WalkKit
import Derived.Lib.Walk
import Derived.StillTailTactics
import Derived.Lib.Hide
import Derived.Handy
namespace Go.Proofs.Ytlkamicaoljefaa
open Go.Shelf Go.RowKit Go.Lib Go.Sort Go.Proofs

theorem cmp86 (x y : Int) (w : World) : Calls Try.prog 125 #[.int .i64 x, .int .i64 y] w fun e w' => e = .returned (.int .i64 (Lib.compareInt x y)) ∧ w' = w := AnyG.cmp_Compare_int cmpI64 x y w
theorem three_grow (W : World) (A B C : Obj) : (((W.alloc A).alloc B).drew.alloc C) = grow (W.drewN 1) (#[A] ++ #[B] ++ #[C]) := by
  rw [alloc_eq_grow, alloc_eq_grow, alloc_eq_grow, drew_grow, drew_grow, grow_grow, grow_grow, Array.append_assoc]; rfl
def orR (a b : Int) : Int := if a = 0 then b else a
set_option maxHeartbeats 1000000 in
set_option maxRecDepth 100000 in
theorem or85 (a b : Int) (blk cap : Nat) (w : World) (h0 : w.cell? { block := blk, off := 0 } = some (.int .i64 a)) (h1 : w.cell? { block := blk, off := 1 } = some (.int .i64 b)) : Calls Try.prog 124 #[.slice (some { block := blk, off := 0 }) 2 cap] w fun e w' => e = .returned (.int .i64 (orR a b)) ∧ w' = w := by
  go_enter Try.func124, Try.ntmps124
  go_wp2
  go_rounds 3
  all_goals go_ret
  all_goals (refine ⟨?_, rfl⟩; unfold orR; simp_all)
set_option maxHeartbeats 1000000 in
set_option maxRecDepth 100000 in
theorem closure80 (x y : Int × Int) (W : World) : Calls Try.prog 119 #[.agg #[.int .i64 x.1, .int .i64 x.2], .agg #[.int .i64 y.1, .int .i64 y.2]] W fun e w' => e = .returned (.int .i64 (orR (Lib.compareInt x.1 y.1) (Lib.compareInt x.2 y.2))) ∧ ∃ q os', w' = grow (W.drewN q) os' := by
  go_enter Try.func119, Try.ntmps119
  go_wp2
  generalize hw2 : (W.alloc (Obj.cells #[Value.int IntKind.i64 x.fst, Value.int IntKind.i64 x.snd] 26)).alloc (Obj.cells #[Value.int IntKind.i64 y.fst, Value.int IntKind.i64 y.snd] 26) = W2
  have h1 : W2.cell? { block := W.heap.size, off := 0 } = some (.int .i64 x.1) := by rw [← hw2]; simp only [World.cell?, World.alloc, Array.getElem?_push, Array.size_push]; simp
  have h2 : W2.cell? { block := W.heap.size, off := 1 } = some (.int .i64 x.2) := by rw [← hw2]; simp only [World.cell?, World.alloc, Array.getElem?_push, Array.size_push]; simp
  have h3 : W2.cell? { block := W.heap.size + 1, off := 0 } = some (.int .i64 y.1) := by rw [← hw2]; simp only [World.cell?, World.alloc, Array.getElem?_push, Array.size_push]; simp
  have h4 : W2.cell? { block := W.heap.size + 1, off := 1 } = some (.int .i64 y.2) := by rw [← hw2]; simp only [World.cell?, World.alloc, Array.getElem?_push, Array.size_push]; simp
  have Hw := Lib.hid hw2
  clear hw2
  have hsz : W2.heap.size = W.heap.size + 2 := by rw [← Hw.out]; simp
  have Hs := Lib.hid hsz
  clear hsz
  refine wp_region_still_tail 10 (by kernel_rfl) (by kernel_rfl) ?_
  simp only [List.take_succ_cons, List.take_zero, List.drop_succ_cons, List.drop_zero]
  still_step
  still_step
  still_step
  still_step
  still_call (cmp86 x.1 y.1 _)
  still_step
  still_step
  still_step
  still_step
  still_call (cmp86 x.2 y.2 _)
  refine wpStill_nil ?_
  change wpList _ _ _ _ _ W2.drew
  generalize hw3 : W2.drew = W3
  have Hw3 := Lib.hid hw3
  clear hw3
  have hor := or85 (Lib.compareInt x.1 y.1) (Lib.compareInt x.2 y.2) W3.heap.size 2 (W3.alloc (Obj.cells #[Value.int IntKind.i64 (Lib.compareInt x.1 y.1), Value.int IntKind.i64 (Lib.compareInt x.2 y.2)] 3)) (by simp only [World.cell?, World.alloc, Array.getElem?_push]; simp) (by simp only [World.cell?, World.alloc, Array.getElem?_push]; simp)
  go_wp2_with (go_at_call 124; refine hor.mono ?_; rintro e w' ⟨rfl, rfl⟩)
  go_ret
  have e1 := Hw.out
  have e2 := Hw3.out
  subst e1
  subst e2
  refine ⟨?_, 1, _, three_grow _ _ _ _⟩
  first | rfl | simp
end Go.Proofs.Ytlkamicaoljefaa
