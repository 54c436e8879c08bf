/- Walk of the library's slices.Grow at a nil slice: new room. -/
import Derived.Test.YtlgagjboijkpgaaDoorEnv
import Derived.WalkKit
import Derived.Lib.Walk
import Derived.Lib.SliceRun
import Derived.Lib.AppendZerosOnto
set_option linter.unusedSimpArgs false
set_option linter.unusedVariables false
namespace Go.Proofs.YtlgagjboijkpgaaDoor
open Go.Eng Go.RowKit Go.Lib

set_option maxHeartbeats 4000000 in
set_option maxRecDepth 100000 in
theorem grow79 (n : Nat) (hn : 0 < n) (hb : n ≤ 1000000) (w : World) :
    Calls Tryd.prog 121 #[.slice none 0 0, .int .i64 n] w fun e w' =>
      e = .returned (.slice (some ⟨w.heap.size, 0, none⟩) 0 (grownCap w n 0 2)) ∧
      w' = w.drew.alloc (.cells (Builtin.zeroCells #[.int .i64 0] n ++ Builtin.zeroCells #[.int .i64 0] (grownCap w n 0 2 - n)) 2) := by
  obtain ⟨i0, hi0, hz0, hs0, hb0⟩ := info_parts info2
  have h1 : ¬ ((n : Int) < 0) := by omega
  have h4 : (n : Int) > 0 := by omega
  have hrz : ∀ ty, (Builtin.append_ #[27, 3] ty #[.slice none 0 0, .int .i64 (n : Int)]).run Tryd.prog w =
      .ok (.slice (some ⟨w.heap.size, 0, none⟩) n (grownCap w n 0 2)) (w.drew.alloc (.cells (Builtin.zeroCells #[.int .i64 0] n ++ Builtin.zeroCells #[.int .i64 0] (grownCap w n 0 2 - n)) 2)) := fun ty => by
    have h := Lib.run_append_grow_zeros w 27 3 ty 2 i0 (.int .i64 0) .i64 .i64 Tryd.underlying27 Tryd.underlying3 hi0 hz0 none 0 0 [] (run_firstCells_none w.drew i0.size 0 0 0) n hn (by omega) (by omega) (by omega)
      (by rw [hb0]; omega)
      (by rw [Nat.zero_add]; exact growslice_fits hn (by rw [hb0]; omega))
    rw [show (Value.int IntKind.i64 0).cells = #[.int .i64 0] from rfl] at h
    simpa using h
  have hGn : n ≤ grownCap w n 0 2 := grownCap_ge w _ _ _
  obtain ⟨G, hG⟩ : ∃ G, G = grownCap w n 0 2 := ⟨_, rfl⟩
  rw [← hG] at hrz hGn ⊢
  have hG63 : G ≤ 9223372036854775807 := by
    have := grownCap_le_maxLen w n 0 2 (by unfold maxLen; omega)
    rw [← hG] at this
    unfold maxLen at this
    omega
  clear hG
  go_enter Tryd.func121, Tryd.ntmps121
  go_wp2_with (at_builtin; refine Lib.wpList_append_run _ rfl _ _ _ _ rfl _ _ rfl rfl _ _ (hrz _) ?_)
  all_goals (go_ret; exact ⟨rfl, rfl⟩)
theorem grow79_ac (n : Nat) (hn : 0 < n) (hb : n ≤ 1000000) (H : List ABox) : AC Tryd.prog 121 [.v (.slice none 0 0), .v (.int .i64 ((n : Int)))] H
    (fun r H' => r = .sl 1 (H.length + 0) 0 0 ∧ H' = H ++ [.row false (.int .i64) (List.replicate n (0 : Int))]) := by
  refine ⟨⟨_, Tryd.func121, rfl, by decide⟩, fun c vs w hv hh => ?_⟩
  obtain ⟨hl, hv⟩ := hv
  match vs, hl with
  | [p, q], _ =>
    have e1 := (hv 0 (by simp)).v_inv
    have e2 := (hv 1 (by simp)).v_inv
    simp at e1 e2
    subst e1; subst e2
    refine (grow79 n hn hb w).mono ?_
    rintro e w' ⟨rfl, rfl⟩
    have hG := grownCap_ge w n 0 2
    obtain ⟨c', he, hloc, hh'⟩ := hh.drew.newRow (Builtin.zeroCells #[.int .i64 0] n ++ Builtin.zeroCells #[.int .i64 0] (grownCap w n 0 2 - n)) 2 (.int .i64) (List.replicate n (0 : Int)) (grownCap w n 0 2)
      (by simp [ETy.sz, Builtin.zeroCells]; omega) (by simp; exact hG) (fun i j hi hj => by
        have hi' : i < n := by simpa using hi
        have : j = 0 := by simpa [ETy.sz] using hj
        subst this
        have h1 : (List.replicate n (0 : Int)).getD i 0 = 0 := by simp [List.getD, hi']
        have h2 : (Builtin.zeroCells #[Value.int .i64 0] n ++ Builtin.zeroCells #[Value.int .i64 0] (grownCap w n 0 2 - n)).toList.getD (i * 1 + 0) undef = .int .i64 0 := by
          rw [Nat.mul_one, Nat.add_zero, Array.toList_append, getD_app_left (by simp [Builtin.zeroCells]; exact hi')]
          have hz : (Builtin.zeroCells #[Value.int .i64 0] n).toList = List.replicate n (.int .i64 0) := by
            apply List.ext_getElem
            · simp [Builtin.zeroCells]
            · intro k h1 h2
              simp [Builtin.zeroCells, Nat.mod_one]
          rw [hz]
          simp [List.getD, hi']
        show RelV c (((ETy.int .i64).enc ((List.replicate n (0 : Int)).getD i 0)).getD 0 .junk) _
        rw [h1]
        show RelV c (.v (.int .i64 0)) ((Builtin.zeroCells #[Value.int .i64 0] n ++ Builtin.zeroCells #[Value.int .i64 0] (grownCap w n 0 2 - n)).toList.getD (i * 1 + 0) undef)
        rw [h2]
        exact .v _)
    refine ⟨c', _, _, _, he, rfl, ?_, hh', rfl, rfl⟩
    have := RelV.sl (c := c') (sz := 1) (off := 0) (n := 0) (b := w.heap.size) (o := 0) hloc (Nat.zero_le _) (fun _ => ⟨rfl, rfl⟩)
    simpa using this
end Go.Proofs.YtlgagjboijkpgaaDoor
