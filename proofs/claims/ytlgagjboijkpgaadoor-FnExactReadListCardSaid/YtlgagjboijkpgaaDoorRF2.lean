/- strings.Cut and strings.Split at a mark of one byte: the library's contracts, laid at this program; as contracts here. -/
import Derived.Test.YtlgagjboijkpgaaDoorRP2
import Derived.Test.YtlgagjboijkpgaaDoorRF1
import Derived.Shelf.Strings.Cut
import Derived.Shelf.Strings.Split
set_option linter.unusedSimpArgs false
set_option linter.unusedVariables false
namespace Go.Proofs.YtlgagjboijkpgaaDoor
open Go.Shelf Go.RowKit Go.Lib Go.Sort Go.Proofs Go.Eng

shelf_lay Lays.n145 Nm 145 at Tryd as lays145
shelf_lay Lays.n146 Nm 146 at Tryd as lays146
theorem gMax145 : lays145_ren.g 1 = 3 := by kernel_rfl
theorem gMax146 : lays146_ren.g 1 = 3 := by kernel_rfl
theorem hi146 : (Tryd.prog.info? (lays146_ren.t 9)).map (fun i => (i.zero, i.size, i.bytes)) = some (some (.string ByteArray.empty), 1, 16) := by kernel_rfl
theorem cell_at0 {w : World} {g : Nat} {cs : Array Value} {ev : Value} {T : TypeId} {fr : Nat × Nat} (h : w.heap[g]? = some (.cells cs T fr)) (h0 : cs[0]? = some ev) : w.cell? ⟨g, 0, none⟩ = some ev := by
  simp only [World.cell?, h]
  simpa using h0
theorem cut71_ac (s : ByteArray) (hs : s.size ≤ 1048576) (m : UInt8) {H : List ABox} {k : Nat} {M : Int} {cs : Array Value} {T : TypeId} {fr : Nat × Nat} (hc0 : cs[0]? = some (.int .i64 M)) (hk : H[k]? = some (.tab 3 (.cells cs T fr))) :
    AC Tryd.prog 71 [.v (.string (s)), .v (.string (⟨#[m]⟩))] H (fun r H' => r = .tup [.v (.string (⟨(cut s.data.toList [m]).1.toArray⟩)), .v (.string (⟨(cut s.data.toList [m]).2.1.toArray⟩)), .v (.bool ((cut s.data.toList [m]).2.2))] ∧ H' = H) := by
  refine AC.lib1 ⟨_, Tryd.func71, by decide, by decide⟩ fun c vs w hv hh => ?_
  obtain ⟨x, y, rfl, hx, hy⟩ := hv.args2
  have ex := hx.v_inv; have ey := hy.v_inv; subst ex; subst ey
  refine (Any.strings_Cut lays145 s ⟨#[m]⟩ M w (by omega) (by rw [gMax145]; exact cell_at0 (hh.tab hk) hc0)).mono ?_
  rintro e w' ⟨rfl, n, rfl⟩
  refine ⟨_, rfl, .tup (vs := [_, _, _]) rfl (fun i hi => by
    match i, hi with
    | 0, _ => exact .v _
    | 1, _ => exact .v _
    | 2, _ => exact .v _), ?_⟩
  exact ⟨rfl, rfl, rfl, Nat.le_refl _, fun _ _ => rfl⟩
theorem split79_ac (s : ByteArray) (hs : s.size ≤ 1048576) (m : UInt8) {H : List ABox} {k : Nat} {M : Int} {cs : Array Value} {T : TypeId} {fr : Nat × Nat} (hc0 : cs[0]? = some (.int .i64 M)) (hk : H[k]? = some (.tab 3 (.cells cs T fr))) :
    AC Tryd.prog 79 [.v (.string (s)), .v (.string (⟨#[m]⟩))] H (fun r H' => r = .sl 1 H.length 0 (ptsS m s).length ∧ H' = H ++ [.row false .str (ptsS m s)]) := by
  refine ⟨⟨_, Tryd.func79, by decide, by decide⟩, fun c vs w hv hh => ?_⟩
  obtain ⟨x, y, rfl, hx, hy⟩ := hv.args2
  have ex := hx.v_inv; have ey := hy.v_inv; subst ex; subst ey
  refine (Any.strings_Split lays146 hi146 s ⟨#[m]⟩ M w (by omega) (by rw [gMax146]; exact cell_at0 (hh.tab hk) hc0) (Nat.le_refl 1)).mono ?_
  rintro e w' ⟨rfl, rfl⟩
  have hl := splitB_all ⟨#[m]⟩ (Nat.le_refl 1) 0 (countB s ⟨#[m]⟩) s rfl
  rw [split_pts] at hl ⊢
  obtain ⟨c', he, hloc, hH⟩ := hh.newRow ((ptsS m s).map Value.string).toArray (lays146_ren.t 9) .str (ptsS m s) (ptsS m s).length (by simp [ETy.sz]) (Nat.le_refl _) (fun i j hi hj => by
    have hi' : i < (ptsS m s).length := hi
    obtain rfl : j = 0 := by simp only [ETy.sz] at hj; omega
    have e1 : (((ptsS m s).map Value.string).toArray.toList.getD (i * 1 + 0) undef) = Value.string ((ptsS m s).getD i ByteArray.empty) := by
      simp [List.getD, hi']
    show RelV c (.v (.string ((ptsS m s).getD i ByteArray.empty))) _
    simp only [ETy.sz]
    rw [e1]; exact .v _)
  refine ⟨c', _, _, _, he, rfl, ?_, hH, rfl, rfl⟩
  rw [← hl]
  exact RelV.sl (l := ⟨w.heap.size, 0, (ptsS m s).length⟩) hloc (by simp) (fun _ => ⟨rfl, by simp⟩)
end Go.Proofs.YtlgagjboijkpgaaDoor
