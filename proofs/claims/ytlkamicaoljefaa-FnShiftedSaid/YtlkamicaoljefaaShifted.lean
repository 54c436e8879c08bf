/- For every input FnShifted returns true, and its arguments read as they did. No conditions. -/
import Derived.Test.YtlkamicaoljefaaRows
import Derived.Test.YtlkamicaoljefaaW17
import Derived.Test.YtlkamicaoljefaaHead
import Derived.ProofKit
import Derived.OpenShut
namespace Go.Proofs.Ytlkamicaoljefaa.fnShifted
open Go.ChangeShapes Go.WideShapes Go.ChangeAt Go.RowKit Go.Eng

theorem c5 : Try.prog.cellsOf 5 = 1 := by kernel_rfl

set_option maxRecDepth 100000 in
theorem lifted (os : Os) (started : os.Started) (H : Type) (enc : TypeId × Value → H) :
    ReturnsInHanded {} Try.checked os 16 .any (Rows.fnShiftedSpec.pre6 enc Try.prog Try.f16 Rows.fnShiftedRow.domain false) (Rows.fnShiftedSpec.post enc Try.prog Try.f16 false true false false) := by
  refine returnsInHanded_of_change (C := Try.checked) own started (by kernel_rfl) Try.func16
    (ChangeSpec.witness6 (enc := enc) (C := Try.checked) false ⟨#[], #[.slice none 0 0, .slice none 0 0], []⟩ 8 (by kernel_rfl) (by kernel_rfl) (by kernel_rfl) (by kernel_rfl)) ?_
  intro W base args ds gs before hval hW hcnd _
  refine law_contract (P := Try.prog) (f := 16) (fn := Try.f16) (tb := 4) rfl rfl Try.underlying4 (fun H ds h => ?_) laid (by decide +kernel)
    (As := [fun a => ∃ xs : List (ETy.int .u8).T, xs.length ≤ maxLen ∧ (∀ y ∈ xs, (ETy.int .u8).wf y) ∧ a = .rd (.int .u8) xs, fun a => ∃ xs : List (ETy.int .u8).T, xs.length ≤ maxLen ∧ (∀ y ∈ xs, (ETy.int .u8).wf y) ∧ a = .rd (.int .u8) xs]) ?_ (fun l h => ?_) hval hW
  · rw [Try.params16] at h
    match ds, h with
    | [_, _], _ => rfl
  · rw [Try.params16]
    exact ⟨opn_sl Try.underlying48 (.int c5 Try.underlying5), opn_sl Try.underlying48 (.int c5 Try.underlying5), trivial⟩
  · obtain ⟨a, l, rfl, ⟨x0, p0, q0, rfl⟩, h1⟩ := h.cons
    obtain ⟨a, l, rfl, ⟨x1, p1, q1, rfl⟩, h2⟩ := h1.cons
    obtain rfl := h2.nil
    exact (fun x0 x1 p q p1 q1 H => law16_ac x0 x1 p p1 (U8.of q) (U8.of q1) H) x0 x1 p0 q0 p1 q1 []

theorem closed : joinedFacts Try.prog 16 Try.f16 Rows.fnShiftedSpec Rows.fnShiftedRow = true := by
  unfold joinedFacts
  rw [mayEnter_eq, liftsFinal_eq, make_eq]
  kernel_rfl

theorem over : Rows.fnShiftedRow.holds Try.pinned (OpenSpec.ofChange Rows.fnShiftedSpec) :=
  OpenClaim.holds_of_wide 16 Try.f16 rfl rfl rfl rfl rfl rfl rfl ⟨rfl, rfl, rfl, rfl, rfl⟩ rfl rfl rfl rfl rfl (by kernel_rfl) Try.func16 closed
    (of_decide_eq_true (by kernel_rfl)) (by unfold Func.isWrapper; first | (rw [if_pos (by decide +kernel)]; kernel_rfl) | (rw [if_neg (by decide +kernel)]; exact ⟨rfl, rfl⟩))
    (fun os started H enc _ => lifted os started H enc)

/-- The statement. -/
theorem proved : Rows.FnShiftedSaid :=
  over
#print axioms proved
end Go.Proofs.Ytlkamicaoljefaa.fnShifted
