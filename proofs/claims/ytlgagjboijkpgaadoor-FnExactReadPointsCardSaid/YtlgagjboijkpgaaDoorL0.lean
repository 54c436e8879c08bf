/- A world in which the listed tables hold what the program's text lays. -/
import Derived.Test.YtlgagjboijkpgaaDoorRows
import Derived.Test.YtlgagjboijkpgaaDoorF0
import Derived.LaidLaws
import Derived.LaidHandle
import Derived.Lib.LaidTab
import Derived.Handed
import Derived.Stop.LaidErr
import Derived.KernelRfl
set_option linter.unusedSimpArgs false
set_option linter.unusedVariables false
namespace Go.Proofs.YtlgagjboijkpgaaDoor
open Go.RowKit Go.Lib Go.Eng

def put (cs : Array Value) : Obj → Obj
  | .cells _ t fr => .cells cs t fr
  | o => o
def u8s (l : List Int) : Array Value := (l.map fun z => Value.int .u8 z).toArray
def tab32 : List Int := [0, 1, 28, 2, 29, 14, 24, 3, 30, 22, 20, 15, 25, 17, 4, 8, 31, 27, 13, 23, 21, 19, 16, 7, 26, 12, 18, 6, 11, 5, 10, 9]
def tab64 : List Int := [0, 1, 56, 2, 57, 49, 28, 3, 61, 58, 42, 50, 38, 29, 17, 4, 62, 47, 59, 36, 45, 43, 51, 22, 53, 39, 33, 30, 24, 18, 12, 5, 63, 55, 48, 27, 60, 41, 37, 16, 46, 35, 44, 21, 52, 32, 23, 11, 54, 26, 40, 15, 34, 20, 31, 10, 25, 14, 19, 9, 13, 8, 7, 6]
noncomputable def laidWorld (os : Os) : World :=
  { World.holding Tryd.prog os ⟨#[], #[], []⟩ with heap := (((World.holding Tryd.prog os ⟨#[], #[], []⟩).heap.modify 0 (put powCells)).modify 4 (put (u8s tab32))).modify 5 (put (u8s tab64)) }
theorem laidWorld_met (os : Os) (args : Array Value) : laidMetH Tryd.prog Rows.fnExactDecimalRow.laid ((laidWorld os).forCall (fun _ _ => 0) ⟨#[], args, []⟩).memory :=
  laidMet_of_run' 8 (by kernel_rfl) (by kernel_rfl)
theorem gPowTy : (Tryd.prog.globals[0]?).map (·.type) = some 139 := by kernel_rfl
theorem cells120 : Tryd.prog.cellsOf 120 = 1 := by kernel_rfl
theorem cells139 : Tryd.prog.cellsOf 139 = 20 := by kernel_rfl
theorem pow_of_laid {W : World} (h : laidMetH Tryd.prog Rows.fnExactDecimalRow.laid W) : ∃ T fr, W.heap[0]? = some (.cells powCells T fr) := by
  have hL : laidMet Tryd.prog Rows.fnExactDecimalRow.laid W := h
  exact cells_of_tabIs (tabIs_of_head gPow gPowTy Tryd.underlying139 Tryd.underlying120 cells120 cells139 (laidMet.tail (laidMet.tail hL)))
end Go.Proofs.YtlgagjboijkpgaaDoor
