/- For every input FnExactMedianPoint returns true, and its arguments read as they did. No conditions. -/
import Derived.Test.YtlkamicaoljefaaRows
import Derived.Test.YtlkamicaoljefaaW7
import Derived.Test.YtlkamicaoljefaaHead
import Derived.ProofKit
import Derived.OpenShut
namespace Go.Proofs.Ytlkamicaoljefaa.fnExactMedianPoint
open Go.ChangeShapes Go.WideShapes Go.ChangeAt Go.RowKit Go.Eng

theorem c2 : Try.prog.cellsOf 2 = 1 := by kernel_rfl
theorem c24 : Try.prog.cellsOf 24 = 2 := by kernel_rfl

set_option maxRecDepth 100000 in
theorem lifted (os : Os) (started : os.Started) (H : Type) (enc : TypeId × Value → H) :
    ReturnsInHanded {} Try.checked os 8 .any (Rows.fnExactMedianPointSpec.pre6 enc Try.prog Try.f8 Rows.fnExactMedianPointRow.domain false) (Rows.fnExactMedianPointSpec.post enc Try.prog Try.f8 false true false false) := by
  refine returnsInHanded_of_change (C := Try.checked) own started (by kernel_rfl) Try.func8
    (ChangeSpec.witness6 (enc := enc) (C := Try.checked) false ⟨#[], #[.agg #[.int .i64 0, .int .i64 0], .agg #[.int .i64 0, .int .i64 0], .agg #[.int .i64 0, .int .i64 0]], []⟩ 8 (by kernel_rfl) (by kernel_rfl) (by kernel_rfl) (by kernel_rfl)) ?_
  intro W base args ds gs before hval hW hcnd _
  refine law_contract (P := Try.prog) (f := 8) (fn := Try.f8) (tb := 4) rfl rfl Try.underlying4 (fun H ds h => ?_) laid (by decide +kernel)
    (As := [fun a => ∃ x y, wfI .i64 x ∧ wfI .i64 y ∧ a = .agg [.v (.int .i64 x), .v (.int .i64 y)], fun a => ∃ x y, wfI .i64 x ∧ wfI .i64 y ∧ a = .agg [.v (.int .i64 x), .v (.int .i64 y)], fun a => ∃ x y, wfI .i64 x ∧ wfI .i64 y ∧ a = .agg [.v (.int .i64 x), .v (.int .i64 y)]]) ?_ (fun l h => ?_) hval hW
  · rw [Try.params8] at h
    match ds, h with
    | [_, _, _], _ => rfl
  · rw [Try.params8]
    exact ⟨opn_pt Try.underlying24 Try.underlying2 Try.underlying2 c2 c2 rfl rfl c24, opn_pt Try.underlying24 Try.underlying2 Try.underlying2 c2 c2 rfl rfl c24, opn_pt Try.underlying24 Try.underlying2 Try.underlying2 c2 c2 rfl rfl c24, trivial⟩
  · obtain ⟨a, l, rfl, ⟨x0, y0, p0, q0, rfl⟩, h1⟩ := h.cons
    obtain ⟨a, l, rfl, ⟨x1, y1, p1, q1, rfl⟩, h2⟩ := h1.cons
    obtain ⟨a, l, rfl, ⟨x2, y2, p2, q2, rfl⟩, h3⟩ := h2.cons
    obtain rfl := h3.nil
    exact (fun x0 y0 x1 y1 x2 y2 _ _ _ _ _ _ => law8_ac (x0, y0) (x1, y1) (x2, y2)) x0 y0 x1 y1 x2 y2 p0 q0 p1 q1 p2 q2 []

theorem closed : joinedFacts Try.prog 8 Try.f8 Rows.fnExactMedianPointSpec Rows.fnExactMedianPointRow = true := by
  unfold joinedFacts
  rw [mayEnter_eq, liftsFinal_eq, make_eq]
  kernel_rfl

theorem over : Rows.fnExactMedianPointRow.holds Try.pinned (OpenSpec.ofChange Rows.fnExactMedianPointSpec) :=
  OpenClaim.holds_of_wide 8 Try.f8 rfl rfl rfl rfl rfl rfl rfl ⟨rfl, rfl, rfl, rfl, rfl⟩ rfl rfl rfl rfl rfl (by kernel_rfl) Try.func8 closed
    (of_decide_eq_true (by kernel_rfl)) (by unfold Func.isWrapper; first | (rw [if_pos (by decide +kernel)]; kernel_rfl) | (rw [if_neg (by decide +kernel)]; exact ⟨rfl, rfl⟩))
    (fun os started H enc _ => lifted os started H enc)

/-- The statement. -/
theorem proved : Rows.FnExactMedianPointSaid :=
  over
#print axioms proved
end Go.Proofs.Ytlkamicaoljefaa.fnExactMedianPoint
