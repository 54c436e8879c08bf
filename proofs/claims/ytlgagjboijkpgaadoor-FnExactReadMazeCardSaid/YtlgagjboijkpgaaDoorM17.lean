/- Texts of this seat that the law stands on, put together. No conditions. -/
import Derived.LaidLaws
import Derived.LaidHandle
import Derived.Lib.LaidTab
import Derived.Stop.LaidErr
import Derived.Test.YtlgagjboijkpgaaDoorM16
section
set_option linter.unusedSimpArgs false
set_option linter.unusedVariables false
namespace Go.Proofs.YtlgagjboijkpgaaDoor
open Go.RowKit Go.Lib Go.Eng
def put (cs : Array Value) : Obj → Obj
  | .cells _ t fr => .cells cs t fr
  | o => o
def u8s (l : List Int) : Array Value := (l.map fun z => Value.int .u8 z).toArray
def tab32 : List Int := [0, 1, 28, 2, 29, 14, 24, 3, 30, 22, 20, 15, 25, 17, 4, 8, 31, 27, 13, 23, 21, 19, 16, 7, 26, 12, 18, 6, 11, 5, 10, 9]
def tab64 : List Int := [0, 1, 56, 2, 57, 49, 28, 3, 61, 58, 42, 50, 38, 29, 17, 4, 62, 47, 59, 36, 45, 43, 51, 22, 53, 39, 33, 30, 24, 18, 12, 5, 63, 55, 48, 27, 60, 41, 37, 16, 46, 35, 44, 21, 52, 32, 23, 11, 54, 26, 40, 15, 34, 20, 31, 10, 25, 14, 19, 9, 13, 8, 7, 6]
end Go.Proofs.YtlgagjboijkpgaaDoor
end
section
set_option linter.unusedSimpArgs false
set_option linter.unusedVariables false
namespace Go.Proofs.YtlgagjboijkpgaaDoor
open Go.RowKit Go.Lib Go.Eng
noncomputable def low : Nat := (World.holding Tryd.prog default ⟨#[], #[], []⟩).heap.size
def textRange : List UInt8 := [118, 97, 108, 117, 101, 32, 111, 117, 116, 32, 111, 102, 32, 114, 97, 110, 103, 101]
def textSyntax : List UInt8 := [105, 110, 118, 97, 108, 105, 100, 32, 115, 121, 110, 116, 97, 120]
def tabAcc : List Int := [128, 191, 160, 191, 128, 159, 144, 191, 128, 143, 0, 0, 0, 0, 0, 0, 0, 0, 0, 0, 0, 0, 0, 0, 0, 0, 0, 0, 0, 0, 0, 0]
noncomputable def laidWorldR (os : Os) : World :=
  let w0 := World.holding Tryd.prog os ⟨#[.cells #[.string ⟨textRange.toArray⟩] 159, .cells #[.string ⟨textSyntax.toArray⟩] 159], #[], []⟩
  { w0 with heap := ((((((w0.heap.modify 0 (put powCells)).modify 4 (put (u8s tab32))).modify 5 (put (u8s tab64))).modify 2 (put #[.iface 157 (.pointer (some ⟨low, 0, none⟩))])).modify 1 (put #[.iface 157 (.pointer (some ⟨low + 1, 0, none⟩))])).modify 6 (put (Go.Pinned.utf8FirstZ.map fun (z : Nat) => Value.int .u8 (Int.ofNat z)).toArray)).modify 7 (put (u8s tabAcc)) }
end Go.Proofs.YtlgagjboijkpgaaDoor
end
