/- For every input FnExactValidMaze returns true, and its arguments read as they did. No conditions. -/
import Derived.Test.YtoofmpcficebkaaRows
import Derived.Test.YtoofmpcficebkaaW1
import Derived.Test.YtoofmpcficebkaaHead
import Derived.ProofKit
import Derived.OpenShut
namespace Go.Proofs.Ytoofmpcficebkaa.fnExactValidMaze
open Go.ChangeShapes Go.WideShapes Go.ChangeAt Go.RowKit Go.Eng

theorem c2 : Try.prog.cellsOf 2 = 1 := by kernel_rfl
theorem c22 : Try.prog.cellsOf 22 = 1 := by kernel_rfl
theorem c24 : Try.prog.cellsOf 24 = 1 := by kernel_rfl
theorem c59 : Try.prog.cellsOf 59 = 1 := by kernel_rfl

set_option maxRecDepth 100000 in
theorem lifted (os : Os) (started : os.Started) (H : Type) (enc : TypeId × Value → H) :
    ReturnsInHanded {} Try.checked os 3 .any (Rows.fnExactValidMazeSpec.pre6 enc Try.prog Try.f3 Rows.fnExactValidMazeRow.domain false) (Rows.fnExactValidMazeSpec.post enc Try.prog Try.f3 false true false false) := by
  refine returnsInHanded_of_change (C := Try.checked) own started (by kernel_rfl) Try.func3
    (ChangeSpec.witness6 (enc := enc) (C := Try.checked) false ⟨#[], #[.agg #[.slice none 0 0]], []⟩ 8 (by kernel_rfl) (by kernel_rfl) (by kernel_rfl) (by kernel_rfl)) ?_
  intro W base args ds gs before hval hW hcnd _
  refine law_contract (P := Try.prog) (f := 3) (fn := Try.f3) (tb := 4) rfl rfl Try.underlying4 (fun H ds h => ?_) laid (by decide +kernel)
    (As := [fun a => ∃ (xs : List (ETy.sli .i64).T), xs.length ≤ maxLen ∧ (∀ y ∈ xs, (ETy.sli .i64).wf y) ∧ a = .agg [.rd (.sli .i64) xs]]) ?_ (fun l h => ?_) hval hW
  · rw [Try.params3] at h
    match ds, h with
    | [_], _ => rfl
  · rw [Try.params3]
    exact ⟨opn_one Try.underlying24 Try.underlying22 (.sli c59 Try.underlying59 (.int c2 Try.underlying2)) c22 rfl c24, trivial⟩
  · obtain ⟨a, l, rfl, ⟨x0, p0, q0, rfl⟩, h1⟩ := h.cons
    obtain rfl := h1.nil
    exact (fun m p q H => law3_ac m (Fits.of p q) H) x0 p0 q0 []

theorem closed : joinedFacts Try.prog 3 Try.f3 Rows.fnExactValidMazeSpec Rows.fnExactValidMazeRow = true := by
  unfold joinedFacts
  rw [mayEnter_eq, liftsFinal_eq, make_eq]
  kernel_rfl

theorem over : Rows.fnExactValidMazeRow.holds Try.pinned (OpenSpec.ofChange Rows.fnExactValidMazeSpec) :=
  OpenClaim.holds_of_wide 3 Try.f3 rfl rfl rfl rfl rfl rfl rfl ⟨rfl, rfl, rfl, rfl, rfl⟩ rfl rfl rfl rfl rfl (by kernel_rfl) Try.func3 closed
    (of_decide_eq_true (by kernel_rfl)) (by unfold Func.isWrapper; first | (rw [if_pos (by decide +kernel)]; kernel_rfl) | (rw [if_neg (by decide +kernel)]; exact ⟨rfl, rfl⟩))
    (fun os started H enc _ => lifted os started H enc)

/-- The statement. -/
theorem proved : Rows.FnExactValidMazeSaid :=
  over
#print axioms proved
end Go.Proofs.Ytoofmpcficebkaa.fnExactValidMaze
