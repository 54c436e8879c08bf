/- Texts of this seat that the law stands on, put together. No conditions. -/
import Derived.Shelf.Strings.OnBuilder
import Derived.Test.YtlgagjboijkpgaaDoorM12
section
set_option linter.unusedSimpArgs false
set_option linter.unusedVariables false
set_option maxHeartbeats 1000000
namespace Go.Proofs.YtlgagjboijkpgaaDoor
open Go.Shelf Go.RowKit Go.Lib Go.Sort Go.Proofs Go.Eng
shelf_lay Lays.n156 Nm 156 at Tryd as lays156
theorem bsz (l : List UInt8) : (⟨l.toArray⟩ : ByteArray).size = l.length := by simp [ByteArray.size]
theorem join_snoc {l : List (List UInt8)} (hl : l ≠ []) (y sep : List UInt8) : Lib.join (l ++ [y]) sep = Lib.join l sep ++ (sep ++ y) := by
  match l, hl with
  | x :: r, _ => rw [List.cons_append, join_cons, join_cons]; simp [joinTail]
end Go.Proofs.YtlgagjboijkpgaaDoor
end
section
set_option linter.unusedSimpArgs false
set_option linter.unusedVariables false
set_option maxHeartbeats 1000000
namespace Go.Proofs.YtlgagjboijkpgaaDoor
open Go.Lib Go.Eng
def valOk (n : Int) : Bool := decide (-1000000000 ≤ n ∧ n ≤ 1000000000)
/-- Few numbers, none too great. -/
def LsOk (xs : List Int) : Prop := xs.all valOk = true ∧ (xs.length : Int) ≤ 60
instance (xs : List Int) : Decidable (LsOk xs) := by unfold LsOk; exact inferInstance
end Go.Proofs.YtlgagjboijkpgaaDoor
end
