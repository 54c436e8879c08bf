/- For every input FnExactEndOf returns true, and its arguments read as they did. No conditions. -/
import Derived.Test.YtoofmpcficebkaaRows
import Derived.Test.YtoofmpcficebkaaW4
import Derived.Test.YtoofmpcficebkaaHead
import Derived.ProofKit
import Derived.OpenShut
namespace Go.Proofs.Ytoofmpcficebkaa.fnExactEndOf
open Go.ChangeShapes Go.WideShapes Go.ChangeAt Go.RowKit Go.Eng

theorem c2 : Try.prog.cellsOf 2 = 1 := by kernel_rfl
theorem c22 : Try.prog.cellsOf 22 = 1 := by kernel_rfl
theorem c24 : Try.prog.cellsOf 24 = 1 := by kernel_rfl
theorem c32 : Try.prog.cellsOf 32 = 2 := by kernel_rfl
theorem c59 : Try.prog.cellsOf 59 = 1 := by kernel_rfl

set_option maxRecDepth 100000 in
theorem lifted (os : Os) (started : os.Started) (H : Type) (enc : TypeId × Value → H) :
    ReturnsInHanded {} Try.checked os 5 .any (Rows.fnExactEndOfSpec.pre6 enc Try.prog Try.f5 Rows.fnExactEndOfRow.domain false) (Rows.fnExactEndOfSpec.post enc Try.prog Try.f5 false true false false) := by
  refine returnsInHanded_of_change (C := Try.checked) own started (by kernel_rfl) Try.func5
    (ChangeSpec.witness6 (enc := enc) (C := Try.checked) false ⟨#[], #[.agg #[.slice none 0 0], .agg #[.int .i64 0, .int .i64 0], .string ByteArray.empty], []⟩ 8 (by kernel_rfl) (by kernel_rfl) (by kernel_rfl) (by kernel_rfl)) ?_
  intro W base args ds gs before hval hW hcnd _
  refine law_contract (P := Try.prog) (f := 5) (fn := Try.f5) (tb := 4) rfl rfl Try.underlying4 (fun H ds h => ?_) laid (by decide +kernel)
    (As := [fun a => ∃ (xs : List (ETy.sli .i64).T), xs.length ≤ maxLen ∧ (∀ y ∈ xs, (ETy.sli .i64).wf y) ∧ a = .agg [.rd (.sli .i64) xs], fun a => ∃ x y, wfI .i64 x ∧ wfI .i64 y ∧ a = .agg [.v (.int .i64 x), .v (.int .i64 y)], fun a => ∃ s : ByteArray, s.size ≤ maxLen ∧ a = .v (.string s)]) ?_ (fun l h => ?_) hval hW
  · rw [Try.params5] at h
    match ds, h with
    | [_, _, _], _ => rfl
  · rw [Try.params5]
    exact ⟨opn_one Try.underlying24 Try.underlying22 (.sli c59 Try.underlying59 (.int c2 Try.underlying2)) c22 rfl c24, opn_pt Try.underlying32 Try.underlying2 Try.underlying2 c2 c2 rfl rfl c32, opn_str Try.underlying9, trivial⟩
  · obtain ⟨a, l, rfl, ⟨x0, p0, q0, rfl⟩, h1⟩ := h.cons
    obtain ⟨a, l, rfl, ⟨x1, y1, p1, q1, rfl⟩, h2⟩ := h1.cons
    obtain ⟨a, l, rfl, ⟨x2, p2, rfl⟩, h3⟩ := h2.cons
    obtain rfl := h3.nil
    exact (fun m x y s p q _ _ r H => law5_ac m (x, y) s (Fits.of p q) r H) x0 x1 y1 x2 p0 q0 p1 q1 p2 []

theorem closed : joinedFacts Try.prog 5 Try.f5 Rows.fnExactEndOfSpec Rows.fnExactEndOfRow = true := by
  unfold joinedFacts
  rw [mayEnter_eq, liftsFinal_eq, make_eq]
  kernel_rfl

theorem over : Rows.fnExactEndOfRow.holds Try.pinned (OpenSpec.ofChange Rows.fnExactEndOfSpec) :=
  OpenClaim.holds_of_wide 5 Try.f5 rfl rfl rfl rfl rfl rfl rfl ⟨rfl, rfl, rfl, rfl, rfl⟩ rfl rfl rfl rfl rfl (by kernel_rfl) Try.func5 closed
    (of_decide_eq_true (by kernel_rfl)) (by unfold Func.isWrapper; first | (rw [if_pos (by decide +kernel)]; kernel_rfl) | (rw [if_neg (by decide +kernel)]; exact ⟨rfl, rfl⟩))
    (fun os started H enc _ => lifted os started H enc)

/-- The statement. -/
theorem proved : Rows.FnExactEndOfSaid :=
  over
#print axioms proved
end Go.Proofs.Ytoofmpcficebkaa.fnExactEndOf
