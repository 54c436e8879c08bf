/- For every input FnExactCountCheapest returns true, and its arguments read as they did. No conditions. -/
import Derived.Test.YtfkohliggbajkaaRows
import Derived.Test.YtfkohliggbajkaaD11
import Derived.ProofKit
import Derived.OpenShut
namespace Go.Proofs.Ytfkohliggbajkaa.fnExactCountCheapest
open Go.ChangeShapes Go.WideShapes Go.ChangeAt Go.RowKit Go.Eng

theorem c2 : Try.prog.cellsOf 2 = 1 := by kernel_rfl
theorem c22 : Try.prog.cellsOf 22 = 1 := by kernel_rfl
theorem c24 : Try.prog.cellsOf 24 = 1 := by kernel_rfl
theorem c26 : Try.prog.cellsOf 26 = 2 := by kernel_rfl
theorem c58 : Try.prog.cellsOf 58 = 1 := by kernel_rfl

set_option maxRecDepth 100000 in
theorem lifted (os : Os) (started : os.Started) (H : Type) (enc : TypeId × Value → H) :
    ReturnsInHanded {} Try.checked os 6 .any (Rows.fnExactCountCheapestSpec.pre6 enc Try.prog Try.f6 Rows.fnExactCountCheapestRow.domain false) (Rows.fnExactCountCheapestSpec.post enc Try.prog Try.f6 false true false false) := by
  refine returnsInHanded_of_change (C := Try.checked) own started (by kernel_rfl) Try.func6
    (ChangeSpec.witness6 (enc := enc) (C := Try.checked) false ⟨#[], #[.agg #[.slice none 0 0], .agg #[.int .i64 0, .int .i64 0], .agg #[.int .i64 0, .int .i64 0], .int .i64 0], []⟩ 8 (by kernel_rfl) (by kernel_rfl) (by kernel_rfl) (by kernel_rfl)) ?_
  intro W base args ds gs before hval hW hcnd _
  refine law_contract (P := Try.prog) (f := 6) (fn := Try.f6) (tb := 4) rfl rfl Try.underlying4 (fun H ds h => ?_) laid (by decide +kernel)
    (As := [fun a => ∃ (xs : List (ETy.sli .i64).T), xs.length ≤ maxLen ∧ (∀ y ∈ xs, (ETy.sli .i64).wf y) ∧ a = .agg [.rd (.sli .i64) xs], fun a => ∃ x y, wfI .i64 x ∧ wfI .i64 y ∧ a = .agg [.v (.int .i64 x), .v (.int .i64 y)], fun a => ∃ x y, wfI .i64 x ∧ wfI .i64 y ∧ a = .agg [.v (.int .i64 x), .v (.int .i64 y)], fun a => ∃ n, (Lit.int .i64 n).wf = true ∧ a = .v (.int .i64 n)]) ?_ (fun l h => ?_) hval hW
  · rw [Try.params6] at h
    match ds, h with
    | [_, _, _, _], _ => rfl
  · rw [Try.params6]
    exact ⟨opn_one Try.underlying24 Try.underlying22 (.sli c58 Try.underlying58 (.int c2 Try.underlying2)) c22 rfl c24, opn_pt Try.underlying26 Try.underlying2 Try.underlying2 c2 c2 rfl rfl c26, opn_pt Try.underlying26 Try.underlying2 Try.underlying2 c2 c2 rfl rfl c26, opn_int Try.underlying2, trivial⟩
  · obtain ⟨a, l, rfl, ⟨x0, p0, q0, rfl⟩, h1⟩ := h.cons
    obtain ⟨a, l, rfl, ⟨x1, y1, p1, q1, rfl⟩, h2⟩ := h1.cons
    obtain ⟨a, l, rfl, ⟨x2, y2, p2, q2, rfl⟩, h3⟩ := h2.cons
    obtain ⟨a, l, rfl, ⟨x3, p3, rfl⟩, h4⟩ := h3.cons
    obtain rfl := h4.nil
    exact (fun m x y z w b p q _ _ _ _ _ H => law6_ac m (x, y) (z, w) b (Fits.of p q) H) x0 x1 y1 x2 y2 x3 p0 q0 p1 q1 p2 q2 p3 []

theorem closed : joinedFacts Try.prog 6 Try.f6 Rows.fnExactCountCheapestSpec Rows.fnExactCountCheapestRow = true := by
  unfold joinedFacts
  rw [mayEnter_eq, liftsFinal_eq, make_eq]
  kernel_rfl

theorem over : Rows.fnExactCountCheapestRow.holds Try.pinned (OpenSpec.ofChange Rows.fnExactCountCheapestSpec) :=
  OpenClaim.holds_of_wide 6 Try.f6 rfl rfl rfl rfl rfl rfl rfl ⟨rfl, rfl, rfl, rfl, rfl⟩ rfl rfl rfl rfl rfl (by kernel_rfl) Try.func6 closed
    (of_decide_eq_true (by kernel_rfl)) (by unfold Func.isWrapper; first | (rw [if_pos (by decide +kernel)]; kernel_rfl) | (rw [if_neg (by decide +kernel)]; exact ⟨rfl, rfl⟩))
    (fun os started H enc _ => lifted os started H enc)

/-- The statement. -/
theorem proved : Rows.FnExactCountCheapestSaid :=
  over
#print axioms proved
end Go.Proofs.Ytfkohliggbajkaa.fnExactCountCheapest
