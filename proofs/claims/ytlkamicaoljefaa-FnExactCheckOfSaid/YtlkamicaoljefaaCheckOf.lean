/- For every input FnExactCheckOf returns true, and its arguments read as they did. No conditions. -/
import Derived.Test.YtlkamicaoljefaaRows
import Derived.Test.YtlkamicaoljefaaW7
import Derived.Test.YtlkamicaoljefaaHead
import Derived.ProofKit
import Derived.OpenShut
namespace Go.Proofs.Ytlkamicaoljefaa.fnExactCheckOf
open Go.ChangeShapes Go.WideShapes Go.ChangeAt Go.RowKit Go.Eng



set_option maxRecDepth 100000 in
theorem lifted (os : Os) (started : os.Started) (H : Type) (enc : TypeId × Value → H) :
    ReturnsInHanded {} Try.checked os 6 .any (Rows.fnExactCheckOfSpec.pre6 enc Try.prog Try.f6 Rows.fnExactCheckOfRow.domain false) (Rows.fnExactCheckOfSpec.post enc Try.prog Try.f6 false true false false) := by
  refine returnsInHanded_of_change (C := Try.checked) own started (by kernel_rfl) Try.func6
    (ChangeSpec.witness6 (enc := enc) (C := Try.checked) false ⟨#[], #[.int .i64 0, .string ByteArray.empty], []⟩ 8 (by kernel_rfl) (by kernel_rfl) (by kernel_rfl) (by kernel_rfl)) ?_
  intro W base args ds gs before hval hW hcnd _
  refine law_contract (P := Try.prog) (f := 6) (fn := Try.f6) (tb := 4) rfl rfl Try.underlying4 (fun H ds h => ?_) laid (by decide +kernel)
    (As := [fun a => ∃ n, (Lit.int .i64 n).wf = true ∧ a = .v (.int .i64 n), fun a => ∃ s : ByteArray, s.size ≤ maxLen ∧ a = .v (.string s)]) ?_ (fun l h => ?_) hval hW
  · rw [Try.params6] at h
    match ds, h with
    | [_, _], _ => rfl
  · rw [Try.params6]
    exact ⟨opn_int Try.underlying2, opn_str Try.underlying9, trivial⟩
  · obtain ⟨a, l, rfl, ⟨x0, p0, rfl⟩, h1⟩ := h.cons
    obtain ⟨a, l, rfl, ⟨x1, p1, rfl⟩, h2⟩ := h1.cons
    obtain rfl := h2.nil
    exact (fun x0 x1 _ _ => law6_ac x0 x1) x0 x1 p0 p1 []

theorem closed : joinedFacts Try.prog 6 Try.f6 Rows.fnExactCheckOfSpec Rows.fnExactCheckOfRow = true := by
  unfold joinedFacts
  rw [mayEnter_eq, liftsFinal_eq, make_eq]
  kernel_rfl

theorem over : Rows.fnExactCheckOfRow.holds Try.pinned (OpenSpec.ofChange Rows.fnExactCheckOfSpec) :=
  OpenClaim.holds_of_wide 6 Try.f6 rfl rfl rfl rfl rfl rfl rfl ⟨rfl, rfl, rfl, rfl, rfl⟩ rfl rfl rfl rfl rfl (by kernel_rfl) Try.func6 closed
    (of_decide_eq_true (by kernel_rfl)) (by unfold Func.isWrapper; first | (rw [if_pos (by decide +kernel)]; kernel_rfl) | (rw [if_neg (by decide +kernel)]; exact ⟨rfl, rfl⟩))
    (fun os started H enc _ => lifted os started H enc)

/-- The statement. -/
theorem proved : Rows.FnExactCheckOfSaid :=
  over
#print axioms proved
end Go.Proofs.Ytlkamicaoljefaa.fnExactCheckOf
