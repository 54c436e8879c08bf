/- For every input FnExactRiverWire returns true, and its arguments read as they did. No conditions. -/
import Derived.Test.YtlkamicaoljefaaRows
import Derived.Test.YtlkamicaoljefaaW14
import Derived.Test.YtlkamicaoljefaaHead
import Derived.ProofKit
import Derived.OpenShut
namespace Go.Proofs.Ytlkamicaoljefaa.fnExactRiverWire
open Go.ChangeShapes Go.WideShapes Go.ChangeAt Go.RowKit Go.Eng

theorem c2 : Try.prog.cellsOf 2 = 1 := by kernel_rfl

set_option maxRecDepth 100000 in
theorem lifted (os : Os) (started : os.Started) (H : Type) (enc : TypeId × Value → H) :
    ReturnsInHanded {} Try.checked os 20 .any (Rows.fnExactRiverWireSpec.pre6 enc Try.prog Try.f20 Rows.fnExactRiverWireRow.domain false) (Rows.fnExactRiverWireSpec.post enc Try.prog Try.f20 false true false false) := by
  refine returnsInHanded_of_change (C := Try.checked) own started (by kernel_rfl) Try.func20
    (ChangeSpec.witness6 (enc := enc) (C := Try.checked) false ⟨#[], #[.slice none 0 0, .slice none 0 0, .int .i64 0, .int .i64 0], []⟩ 8 (by kernel_rfl) (by kernel_rfl) (by kernel_rfl) (by kernel_rfl)) ?_
  intro W base args ds gs before hval hW hcnd _
  refine law_contract (P := Try.prog) (f := 20) (fn := Try.f20) (tb := 4) rfl rfl Try.underlying4 (fun H ds h => ?_) laid (by decide +kernel)
    (As := [fun a => ∃ xs : List (ETy.int .i64).T, xs.length ≤ maxLen ∧ (∀ y ∈ xs, (ETy.int .i64).wf y) ∧ a = .rd (.int .i64) xs, fun a => ∃ xs : List (ETy.int .i64).T, xs.length ≤ maxLen ∧ (∀ y ∈ xs, (ETy.int .i64).wf y) ∧ a = .rd (.int .i64) xs, fun a => ∃ n, (Lit.int .i64 n).wf = true ∧ a = .v (.int .i64 n), fun a => ∃ n, (Lit.int .i64 n).wf = true ∧ a = .v (.int .i64 n)]) ?_ (fun l h => ?_) hval hW
  · rw [Try.params20] at h
    match ds, h with
    | [_, _, _, _], _ => rfl
  · rw [Try.params20]
    exact ⟨opn_sl Try.underlying33 (.int c2 Try.underlying2), opn_sl Try.underlying33 (.int c2 Try.underlying2), opn_int Try.underlying2, opn_int Try.underlying2, trivial⟩
  · obtain ⟨a, l, rfl, ⟨x0, p0, q0, rfl⟩, h1⟩ := h.cons
    obtain ⟨a, l, rfl, ⟨x1, p1, q1, rfl⟩, h2⟩ := h1.cons
    obtain ⟨a, l, rfl, ⟨x2, p2, rfl⟩, h3⟩ := h2.cons
    obtain ⟨a, l, rfl, ⟨x3, p3, rfl⟩, h4⟩ := h3.cons
    obtain rfl := h4.nil
    exact (fun x0 x1 x2 x3 _ _ _ _ _ _ (_ : List ABox) => law20_ac x0 x1 x2 x3) x0 x1 x2 x3 p0 q0 p1 q1 p2 p3 []

theorem closed : joinedFacts Try.prog 20 Try.f20 Rows.fnExactRiverWireSpec Rows.fnExactRiverWireRow = true := by
  unfold joinedFacts
  rw [mayEnter_eq, liftsFinal_eq, make_eq]
  kernel_rfl

theorem over : Rows.fnExactRiverWireRow.holds Try.pinned (OpenSpec.ofChange Rows.fnExactRiverWireSpec) :=
  OpenClaim.holds_of_wide 20 Try.f20 rfl rfl rfl rfl rfl rfl rfl ⟨rfl, rfl, rfl, rfl, rfl⟩ rfl rfl rfl rfl rfl (by kernel_rfl) Try.func20 closed
    (of_decide_eq_true (by kernel_rfl)) (by unfold Func.isWrapper; first | (rw [if_pos (by decide +kernel)]; kernel_rfl) | (rw [if_neg (by decide +kernel)]; exact ⟨rfl, rfl⟩))
    (fun os started H enc _ => lifted os started H enc)

/-- The statement. -/
theorem proved : Rows.FnExactRiverWireSaid :=
  over
#print axioms proved
end Go.Proofs.Ytlkamicaoljefaa.fnExactRiverWire
