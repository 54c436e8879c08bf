/- For every input FnExactLeftEdge returns true, and its arguments read as they did. No conditions. -/
import Derived.Test.YtkblikjpdnakiaaRows
import Derived.Test.YtkblikjpdnakiaaT13
import Derived.ProofKit
import Derived.OpenShut
namespace Go.Proofs.Ytkblikjpdnakiaa.fnExactLeftEdge
open Go.ChangeShapes Go.WideShapes Go.ChangeAt Go.RowKit Go.Eng

theorem c2 : Try.prog.cellsOf 2 = 1 := by kernel_rfl
theorem c22 : Try.prog.cellsOf 22 = 1 := by kernel_rfl
theorem c24 : Try.prog.cellsOf 24 = 2 := by kernel_rfl

set_option maxRecDepth 100000 in
theorem lifted (os : Os) (started : os.Started) (H : Type) (enc : TypeId × Value → H) :
    ReturnsInHanded {} Try.checked os 3 .any (Rows.fnExactLeftEdgeSpec.pre6 enc Try.prog Try.f3 Rows.fnExactLeftEdgeRow.domain false) (Rows.fnExactLeftEdgeSpec.post enc Try.prog Try.f3 false true false false) := by
  refine returnsInHanded_of_change (C := Try.checked) own started (by kernel_rfl) Try.func3
    (ChangeSpec.witness6 (enc := enc) (C := Try.checked) false ⟨#[], #[.agg #[.slice none 0 0, .slice none 0 0]], []⟩ 8 (by kernel_rfl) (by kernel_rfl) (by kernel_rfl) (by kernel_rfl)) ?_
  intro W base args ds gs before hval hW hcnd _
  refine law_contract (P := Try.prog) (f := 3) (fn := Try.f3) (tb := 4) rfl rfl Try.underlying4 (fun H ds h => ?_) laid (by decide +kernel)
    (As := [fun a => ∃ (xs : List (ETy.int .i64).T) (ys : List (ETy.int .i64).T), xs.length ≤ maxLen ∧ ys.length ≤ maxLen ∧ (∀ y ∈ xs, (ETy.int .i64).wf y) ∧ (∀ y ∈ ys, (ETy.int .i64).wf y) ∧ a = .agg [.rd (.int .i64) xs, .rd (.int .i64) ys]]) ?_ (fun l h => ?_) hval hW
  · rw [Try.params3] at h
    match ds, h with
    | [_], _ => rfl
  · rw [Try.params3]
    exact ⟨opn_two Try.underlying24 Try.underlying22 Try.underlying22 (.int c2 Try.underlying2) (.int c2 Try.underlying2) c22 c22 rfl rfl c24, trivial⟩
  · obtain ⟨a, l, rfl, ⟨x0, y0, p0, q0, r0, s0, rfl⟩, h1⟩ := h.cons
    obtain rfl := h1.nil
    exact (fun x y q1 q2 _ _ H => law3_ac (x, y) q1 q2 H) x0 y0 p0 q0 r0 s0 []

theorem closed : joinedFacts Try.prog 3 Try.f3 Rows.fnExactLeftEdgeSpec Rows.fnExactLeftEdgeRow = true := by
  unfold joinedFacts
  rw [mayEnter_eq, liftsFinal_eq, make_eq]
  kernel_rfl

theorem over : Rows.fnExactLeftEdgeRow.holds Try.pinned (OpenSpec.ofChange Rows.fnExactLeftEdgeSpec) :=
  OpenClaim.holds_of_wide 3 Try.f3 rfl rfl rfl rfl rfl rfl rfl ⟨rfl, rfl, rfl, rfl, rfl⟩ rfl rfl rfl rfl rfl (by kernel_rfl) Try.func3 closed
    (of_decide_eq_true (by kernel_rfl)) (by unfold Func.isWrapper; first | (rw [if_pos (by decide +kernel)]; kernel_rfl) | (rw [if_neg (by decide +kernel)]; exact ⟨rfl, rfl⟩))
    (fun os started H enc _ => lifted os started H enc)

/-- The statement. -/
theorem proved : Rows.FnExactLeftEdgeSaid :=
  over
#print axioms proved
end Go.Proofs.Ytkblikjpdnakiaa.fnExactLeftEdge
