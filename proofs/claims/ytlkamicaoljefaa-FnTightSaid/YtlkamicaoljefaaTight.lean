/- For every input FnTight returns true, and its arguments read as they did. No conditions. -/
import Derived.Test.YtlkamicaoljefaaRows
import Derived.Test.YtlkamicaoljefaaW15
import Derived.Test.YtlkamicaoljefaaHead
import Derived.ProofKit
import Derived.OpenShut
namespace Go.Proofs.Ytlkamicaoljefaa.fnTight
open Go.ChangeShapes Go.WideShapes Go.ChangeAt Go.RowKit Go.Eng

theorem c5 : Try.prog.cellsOf 5 = 1 := by kernel_rfl

set_option maxRecDepth 100000 in
theorem lifted (os : Os) (started : os.Started) (H : Type) (enc : TypeId × Value → H) :
    ReturnsInHanded {} Try.checked os 11 .any (Rows.fnTightSpec.pre6 enc Try.prog Try.f11 Rows.fnTightRow.domain false) (Rows.fnTightSpec.post enc Try.prog Try.f11 false true false false) := by
  refine returnsInHanded_of_change (C := Try.checked) own started (by kernel_rfl) Try.func11
    (ChangeSpec.witness6 (enc := enc) (C := Try.checked) false ⟨#[], #[.slice none 0 0, .slice none 0 0], []⟩ 8 (by kernel_rfl) (by kernel_rfl) (by kernel_rfl) (by kernel_rfl)) ?_
  intro W base args ds gs before hval hW hcnd _
  refine law_contract (P := Try.prog) (f := 11) (fn := Try.f11) (tb := 4) rfl rfl Try.underlying4 (fun H ds h => ?_) laid (by decide +kernel)
    (As := [fun a => ∃ xs : List (ETy.int .u8).T, xs.length ≤ maxLen ∧ (∀ y ∈ xs, (ETy.int .u8).wf y) ∧ a = .rd (.int .u8) xs, fun a => ∃ xs : List (ETy.int .u8).T, xs.length ≤ maxLen ∧ (∀ y ∈ xs, (ETy.int .u8).wf y) ∧ a = .rd (.int .u8) xs]) ?_ (fun l h => ?_) hval hW
  · rw [Try.params11] at h
    match ds, h with
    | [_, _], _ => rfl
  · rw [Try.params11]
    exact ⟨opn_sl Try.underlying48 (.int c5 Try.underlying5), opn_sl Try.underlying48 (.int c5 Try.underlying5), trivial⟩
  · obtain ⟨a, l, rfl, ⟨x0, p0, q0, rfl⟩, h1⟩ := h.cons
    obtain ⟨a, l, rfl, ⟨x1, p1, q1, rfl⟩, h2⟩ := h1.cons
    obtain rfl := h2.nil
    exact (fun x0 x1 p q p1 q1 H => law11_ac x0 x1 p p1 (U8.of q) (U8.of q1) H) x0 x1 p0 q0 p1 q1 []

theorem closed : joinedFacts Try.prog 11 Try.f11 Rows.fnTightSpec Rows.fnTightRow = true := by
  unfold joinedFacts
  rw [mayEnter_eq, liftsFinal_eq, make_eq]
  kernel_rfl

theorem over : Rows.fnTightRow.holds Try.pinned (OpenSpec.ofChange Rows.fnTightSpec) :=
  OpenClaim.holds_of_wide 11 Try.f11 rfl rfl rfl rfl rfl rfl rfl ⟨rfl, rfl, rfl, rfl, rfl⟩ rfl rfl rfl rfl rfl (by kernel_rfl) Try.func11 closed
    (of_decide_eq_true (by kernel_rfl)) (by unfold Func.isWrapper; first | (rw [if_pos (by decide +kernel)]; kernel_rfl) | (rw [if_neg (by decide +kernel)]; exact ⟨rfl, rfl⟩))
    (fun os started H enc _ => lifted os started H enc)

/-- The statement. -/
theorem proved : Rows.FnTightSaid :=
  over
#print axioms proved
end Go.Proofs.Ytlkamicaoljefaa.fnTight
