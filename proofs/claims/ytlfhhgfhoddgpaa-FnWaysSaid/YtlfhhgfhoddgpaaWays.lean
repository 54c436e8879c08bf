/- For every input FnWays returns true, and its arguments read as they did. No conditions. -/
import Derived.Test.YtlfhhgfhoddgpaaRows
import Derived.Test.YtlfhhgfhoddgpaaW14
import Derived.ProofKit
import Derived.OpenShut
namespace Go.Proofs.Ytlfhhgfhoddgpaa.fnWays
open Go.ChangeShapes Go.WideShapes Go.ChangeAt Go.RowKit Go.Eng

theorem c5 : Try.prog.cellsOf 5 = 1 := by kernel_rfl

set_option maxRecDepth 100000 in
theorem lifted (os : Os) (started : os.Started) (H : Type) (enc : TypeId × Value → H) :
    ReturnsInHanded {} Try.checked os 4 .any (Rows.fnWaysSpec.pre6 enc Try.prog Try.f4 Rows.fnWaysRow.domain false) (Rows.fnWaysSpec.post enc Try.prog Try.f4 false true false false) := by
  refine returnsInHanded_of_change (C := Try.checked) own started (by kernel_rfl) Try.func4
    (ChangeSpec.witness6 (enc := enc) (C := Try.checked) false ⟨#[], #[.slice none 0 0, .slice none 0 0], []⟩ 8 (by kernel_rfl) (by kernel_rfl) (by kernel_rfl) (by kernel_rfl)) ?_
  intro W base args ds gs before hval hW hcnd _
  refine law_contract (P := Try.prog) (f := 4) (fn := Try.f4) (tb := 4) rfl rfl Try.underlying4 (fun H ds h => ?_) laid (by decide +kernel)
    (As := [fun a => ∃ xs : List (ETy.int .u8).T, xs.length ≤ maxLen ∧ (∀ y ∈ xs, (ETy.int .u8).wf y) ∧ a = .rd (.int .u8) xs, fun a => ∃ xs : List (ETy.int .u8).T, xs.length ≤ maxLen ∧ (∀ y ∈ xs, (ETy.int .u8).wf y) ∧ a = .rd (.int .u8) xs]) ?_ (fun l h => ?_) hval hW
  · rw [Try.params4] at h
    match ds, h with
    | [_, _], _ => rfl
  · rw [Try.params4]
    exact ⟨opn_sl Try.underlying22 (.int c5 Try.underlying5), opn_sl Try.underlying22 (.int c5 Try.underlying5), trivial⟩
  · obtain ⟨a, l, rfl, ⟨x0, p0, q0, rfl⟩, h1⟩ := h.cons
    obtain ⟨a, l, rfl, ⟨x1, p1, q1, rfl⟩, h2⟩ := h1.cons
    obtain rfl := h2.nil
    exact (fun cs ds p q p2 q2 H => law4_ac cs ds p p2 (U8.of q) (U8.of q2) H) x0 x1 p0 q0 p1 q1 []

theorem closed : joinedFacts Try.prog 4 Try.f4 Rows.fnWaysSpec Rows.fnWaysRow = true := by
  unfold joinedFacts
  rw [mayEnter_eq, liftsFinal_eq, make_eq]
  kernel_rfl

theorem over : Rows.fnWaysRow.holds Try.pinned (OpenSpec.ofChange Rows.fnWaysSpec) :=
  OpenClaim.holds_of_wide 4 Try.f4 rfl rfl rfl rfl rfl rfl rfl ⟨rfl, rfl, rfl, rfl, rfl⟩ rfl rfl rfl rfl rfl (by kernel_rfl) Try.func4 closed
    (of_decide_eq_true (by kernel_rfl)) (by unfold Func.isWrapper; first | (rw [if_pos (by decide +kernel)]; kernel_rfl) | (rw [if_neg (by decide +kernel)]; exact ⟨rfl, rfl⟩))
    (fun os started H enc _ => lifted os started H enc)

/-- The statement. -/
theorem proved : Rows.FnWaysSaid :=
  over
#print axioms proved
end Go.Proofs.Ytlfhhgfhoddgpaa.fnWays
