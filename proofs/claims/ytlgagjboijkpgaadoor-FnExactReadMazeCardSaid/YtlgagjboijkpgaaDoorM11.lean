/- Texts of this seat that the law stands on, put together. No conditions. -/
import Derived.Shelf.Strconv.Itoa4
import Derived.Shelf.Lay
import Derived.Ground.NamesProg
import Derived.Lib.AppendIntMem
import Derived.Test.YtlgagjboijkpgaaDoorM10
section
set_option linter.unusedSimpArgs false
set_option linter.unusedVariables false
namespace Go.Proofs.YtlgagjboijkpgaaDoor
open Go.Shelf Go.RowKit Go.Lib Go.Sort Go.Proofs Go.Eng
shelf_lay LaysM.n173 Nm 173 at Tryd as lays173
def powCells : Array Value := (pow10Tab.map fun z => Value.int .u64 z).toArray
theorem getT {H l : List ABox} {k : Nat} {X : ABox} (h : H[k]? = some X) : (H ++ l)[k]? = some X := by
  rw [List.getElem?_append_left (List.getElem?_eq_some_iff.1 h).1]; exact h
end Go.Proofs.YtlgagjboijkpgaaDoor
end
