/- For every input FnExactArePoints returns true, and its arguments read as they did. No conditions. -/
import Derived.Test.YtlkamicaoljefaaRows
import Derived.Test.YtlkamicaoljefaaW5
import Derived.Test.YtlkamicaoljefaaHead
import Derived.ProofKit
import Derived.OpenShut
namespace Go.Proofs.Ytlkamicaoljefaa.fnExactArePoints
open Go.ChangeShapes Go.WideShapes Go.ChangeAt Go.RowKit Go.Eng

theorem c2 : Try.prog.cellsOf 2 = 1 := by kernel_rfl
theorem c24 : Try.prog.cellsOf 24 = 2 := by kernel_rfl

set_option maxRecDepth 100000 in
theorem lifted (os : Os) (started : os.Started) (H : Type) (enc : TypeId × Value → H) :
    ReturnsInHanded {} Try.checked os 9 .any (Rows.fnExactArePointsSpec.pre6 enc Try.prog Try.f9 Rows.fnExactArePointsRow.domain false) (Rows.fnExactArePointsSpec.post enc Try.prog Try.f9 false true false false) := by
  refine returnsInHanded_of_change (C := Try.checked) own started (by kernel_rfl) Try.func9
    (ChangeSpec.witness6 (enc := enc) (C := Try.checked) false ⟨#[], #[.slice none 0 0], []⟩ 8 (by kernel_rfl) (by kernel_rfl) (by kernel_rfl) (by kernel_rfl)) ?_
  intro W base args ds gs before hval hW hcnd _
  refine law_contract (P := Try.prog) (f := 9) (fn := Try.f9) (tb := 4) rfl rfl Try.underlying4 (fun H ds h => ?_) laid (by decide +kernel)
    (As := [fun a => ∃ xs : List ETy.pt.T, xs.length ≤ maxLen ∧ (∀ y ∈ xs, ETy.pt.wf y) ∧ a = .rd .pt xs]) ?_ (fun l h => ?_) hval hW
  · rw [Try.params9] at h
    match ds, h with
    | [_], _ => rfl
  · rw [Try.params9]
    exact ⟨opn_sl Try.underlying40 (.pt Try.underlying24 Try.underlying2 Try.underlying2 c2 c2 rfl rfl c24), trivial⟩
  · obtain ⟨a, l, rfl, ⟨x0, p0, q0, rfl⟩, h1⟩ := h.cons
    obtain rfl := h1.nil
    exact (fun x0 p _ => law9_ac x0 p) x0 p0 q0 []

theorem closed : joinedFacts Try.prog 9 Try.f9 Rows.fnExactArePointsSpec Rows.fnExactArePointsRow = true := by
  unfold joinedFacts
  rw [mayEnter_eq, liftsFinal_eq, make_eq]
  kernel_rfl

theorem over : Rows.fnExactArePointsRow.holds Try.pinned (OpenSpec.ofChange Rows.fnExactArePointsSpec) :=
  OpenClaim.holds_of_wide 9 Try.f9 rfl rfl rfl rfl rfl rfl rfl ⟨rfl, rfl, rfl, rfl, rfl⟩ rfl rfl rfl rfl rfl (by kernel_rfl) Try.func9 closed
    (of_decide_eq_true (by kernel_rfl)) (by unfold Func.isWrapper; first | (rw [if_pos (by decide +kernel)]; kernel_rfl) | (rw [if_neg (by decide +kernel)]; exact ⟨rfl, rfl⟩))
    (fun os started H enc _ => lifted os started H enc)

/-- The statement. -/
theorem proved : Rows.FnExactArePointsSaid :=
  over
#print axioms proved
end Go.Proofs.Ytlkamicaoljefaa.fnExactArePoints
