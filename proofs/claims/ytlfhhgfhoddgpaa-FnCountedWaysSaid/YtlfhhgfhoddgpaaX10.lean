/- Texts of this seat that the law stands on, put together. No conditions. -/
import Derived.Lib.Walk
import Derived.StillTailTactics
import Derived.Lib.Hide
import Derived.Handy
import Derived.Test.YtlfhhgfhoddgpaaX9
section
namespace Go.Proofs.Ytlfhhgfhoddgpaa
open Go.Shelf Go.RowKit Go.Lib Go.Sort Go.Proofs
end Go.Proofs.Ytlfhhgfhoddgpaa
end
section
set_option linter.unusedSimpArgs false
set_option linter.unusedVariables false
namespace Go.Eng
end Go.Eng
end
section
set_option linter.unusedSimpArgs false
set_option linter.unusedVariables false
set_option maxHeartbeats 1000000
namespace Go.Proofs.Ytlfhhgfhoddgpaa
open Go.Shelf Go.RowKit Go.Lib Go.Sort Go.Proofs Go.Eng
end Go.Proofs.Ytlfhhgfhoddgpaa
end
section
set_option linter.unusedSimpArgs false
set_option linter.unusedVariables false
namespace Go.Eng
variable {P : Program} {E : Env}
end Go.Eng
end
section
set_option linter.unusedSimpArgs false
set_option linter.unusedVariables false
set_option maxHeartbeats 1000000
namespace Go.Proofs.Ytlfhhgfhoddgpaa
open Go.Eng
end Go.Proofs.Ytlfhhgfhoddgpaa
end
section
set_option linter.unusedSimpArgs false
set_option linter.unusedVariables false
set_option maxHeartbeats 1000000
namespace Go.Proofs.Ytlfhhgfhoddgpaa
open Go.Eng
end Go.Proofs.Ytlfhhgfhoddgpaa
end
section
set_option linter.unusedSimpArgs false
set_option linter.unusedVariables false
namespace Go.Eng
variable {P : Program} {E : Env}
end Go.Eng
end
section
set_option linter.unusedSimpArgs false
set_option linter.unusedVariables false
namespace Go.Eng
variable {P : Program} {E : Env}
theorem setRow_other (w : World) (g b : Nat) (cs : Array Value) (h : b ≠ g) : (w.setRow g cs).heap[b]? = w.heap[b]? := by
  unfold World.setRow
  simp only
  rw [Array.getElem?_modify, if_neg (Ne.symm h)]
end Go.Eng
end
section
set_option linter.unusedSimpArgs false
set_option linter.unusedVariables false
set_option maxHeartbeats 1000000
namespace Go.Proofs.Ytlfhhgfhoddgpaa
open Go.Eng
end Go.Proofs.Ytlfhhgfhoddgpaa
end
section
set_option linter.unusedSimpArgs false
set_option linter.unusedVariables false
set_option maxHeartbeats 1000000
namespace Go.Proofs.Ytlfhhgfhoddgpaa
open Go.Eng
end Go.Proofs.Ytlfhhgfhoddgpaa
end
section
set_option linter.unusedSimpArgs false
set_option linter.unusedVariables false
set_option maxHeartbeats 1000000
namespace Go.Proofs.Ytlfhhgfhoddgpaa
open Go.Eng
end Go.Proofs.Ytlfhhgfhoddgpaa
end
section
set_option linter.unusedSimpArgs false
set_option linter.unusedVariables false
set_option maxHeartbeats 1000000
namespace Go.Proofs.Ytlfhhgfhoddgpaa
open Go.Eng
end Go.Proofs.Ytlfhhgfhoddgpaa
end
section
set_option linter.unusedSimpArgs false
set_option linter.unusedVariables false
set_option maxHeartbeats 2000000
namespace Go.Proofs.Ytlfhhgfhoddgpaa
open Go.Eng
end Go.Proofs.Ytlfhhgfhoddgpaa
end
section
set_option linter.unusedSimpArgs false
set_option linter.unusedVariables false
set_option maxHeartbeats 2000000
namespace Go.Proofs.Ytlfhhgfhoddgpaa
open Go.Eng
end Go.Proofs.Ytlfhhgfhoddgpaa
end
