/- For every input FnExactIsPoint returns true, and its argument reads as it did. No conditions. -/
import Derived.Test.YtlkamicaoljefaaRows
import Derived.Test.YtlkamicaoljefaaW1
import Derived.Test.YtlkamicaoljefaaHead
import Derived.ProofKit
import Derived.OpenShut
namespace Go.Proofs.Ytlkamicaoljefaa.fnExactIsPoint
open Go.ChangeShapes Go.WideShapes Go.ChangeAt Go.RowKit Go.Eng

theorem c2 : Try.prog.cellsOf 2 = 1 := by kernel_rfl
theorem c24 : Try.prog.cellsOf 24 = 2 := by kernel_rfl

set_option maxRecDepth 100000 in
theorem lifted (os : Os) (started : os.Started) (H : Type) (enc : TypeId × Value → H) :
    ReturnsInHanded {} Try.checked os 4 .any (Rows.fnExactIsPointSpec.pre6 enc Try.prog Try.f4 Rows.fnExactIsPointRow.domain false) (Rows.fnExactIsPointSpec.post enc Try.prog Try.f4 false true false false) := by
  refine returnsInHanded_of_change (C := Try.checked) own started (by kernel_rfl) Try.func4
    (ChangeSpec.witness6 (enc := enc) (C := Try.checked) false ⟨#[], #[.agg #[.int .i64 0, .int .i64 0]], []⟩ 8 (by kernel_rfl) (by kernel_rfl) (by kernel_rfl) (by kernel_rfl)) ?_
  intro W base args ds gs before hval hW hcnd _
  refine law_contract (P := Try.prog) (f := 4) (fn := Try.f4) (tb := 4) rfl rfl Try.underlying4 (fun H ds h => ?_) laid (by decide +kernel)
    (As := [fun a => ∃ x y, wfI .i64 x ∧ wfI .i64 y ∧ a = .agg [.v (.int .i64 x), .v (.int .i64 y)]]) ?_ (fun l h => ?_) hval hW
  · rw [Try.params4] at h
    match ds, h with
    | [_], _ => rfl
  · rw [Try.params4]
    exact ⟨opn_pt Try.underlying24 Try.underlying2 Try.underlying2 c2 c2 rfl rfl c24, trivial⟩
  · obtain ⟨a, l, rfl, ⟨x, y, _, _, rfl⟩, h2⟩ := h.cons
    obtain rfl := h2.nil
    exact law4_ac x y []

theorem closed : joinedFacts Try.prog 4 Try.f4 Rows.fnExactIsPointSpec Rows.fnExactIsPointRow = true := by
  unfold joinedFacts
  rw [mayEnter_eq, liftsFinal_eq, make_eq]
  kernel_rfl

theorem over : Rows.fnExactIsPointRow.holds Try.pinned (OpenSpec.ofChange Rows.fnExactIsPointSpec) :=
  OpenClaim.holds_of_wide 4 Try.f4 rfl rfl rfl rfl rfl rfl rfl ⟨rfl, rfl, rfl, rfl, rfl⟩ rfl rfl rfl rfl rfl (by kernel_rfl) Try.func4 closed
    (of_decide_eq_true (by kernel_rfl)) (by unfold Func.isWrapper; first | (rw [if_pos (by decide +kernel)]; kernel_rfl) | (rw [if_neg (by decide +kernel)]; exact ⟨rfl, rfl⟩))
    (fun os started H enc _ => lifted os started H enc)

/-- The statement. -/
theorem proved : Rows.FnExactIsPointSaid :=
  over
#print axioms proved
end Go.Proofs.Ytlkamicaoljefaa.fnExactIsPoint
