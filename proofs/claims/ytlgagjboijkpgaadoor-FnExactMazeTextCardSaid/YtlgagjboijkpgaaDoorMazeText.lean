/- For every input FnExactMazeText returns true, and its arguments read as they did, where the listed tables hold what the program's text lays. No other conditions. -/
import Derived.Test.YtlgagjboijkpgaaDoorRows
import Derived.Test.YtlgagjboijkpgaaDoorCards
import Derived.Test.YtlgagjboijkpgaaDoorTie
import Derived.Test.YtlgagjboijkpgaaDoorMW2
import Derived.Test.YtlgagjboijkpgaaDoorHead
import Derived.Test.YtlgagjboijkpgaaDoorL0
import Derived.ProofKit
import Derived.OpenShut
import Derived.SevenTiedAt
namespace Go.Proofs.YtlgagjboijkpgaaDoor.fnExactMazeText
open Go.ChangeShapes Go.WideShapes Go.ChangeAt Go.RowKit Go.Eng

theorem c2 : Tryd.prog.cellsOf 2 = 1 := by kernel_rfl
theorem c27 : Tryd.prog.cellsOf 27 = 1 := by kernel_rfl
theorem c46 : Tryd.prog.cellsOf 46 = 1 := by kernel_rfl
theorem c48 : Tryd.prog.cellsOf 48 = 1 := by kernel_rfl

set_option maxRecDepth 100000 in
theorem lifted (os : Os) (started : os.Started) (H : Type) (enc : TypeId × Value → H) :
    ReturnsInHanded {} Tryd.checked os 9 .any (fun w args => (Rows.fnExactMazeTextSpec.pre enc Tryd.prog Tryd.f9 Rows.fnExactMazeTextRow.domain false w args ∧ laidMetH Tryd.prog Rows.fnExactMazeTextRow.laid w) ∧ sizedMet enc Tryd.prog Tryd.f9 (OpenSpec.ofChange Rows.fnExactMazeTextSpec) false w args) (Rows.fnExactMazeTextSpec.post enc Tryd.prog Tryd.f9 false true false false) := by
  refine returnsInHanded_of_change_and (C := Tryd.checked) (X := fun w _ => laidMetH Tryd.prog Rows.fnExactMazeTextRow.laid w) (fun _ _ _ hh h => h.of_heap hh) own started (by kernel_rfl) Tryd.func9
    (ChangeSpec.witness_at (enc := enc) (C := Tryd.checked) (os := os) (X := fun w _ => laidMetH Tryd.prog Rows.fnExactMazeTextRow.laid w) false (laidWorld os) #[.agg #[.slice none 0 0]] 8 rfl (by kernel_rfl) (by kernel_rfl) (by kernel_rfl) (by kernel_rfl) (by kernel_rfl) (laidWorld_met os _)) ?_
  intro W base args ds gs before hval hW _ _ hL0 _
  obtain ⟨T, fr, hc⟩ := pow_of_laid hL0
  refine law_contractT (P := Tryd.prog) (f := 9) (fn := Tryd.f9) (tb := 4) rfl rfl Tryd.underlying4 (fun H ds h => ?_) laid (by decide +kernel)
    (As := [fun a => ∃ (xs : List (ETy.sli .i64).T), xs.length ≤ maxLen ∧ (∀ y ∈ xs, (ETy.sli .i64).wf y) ∧ a = .agg [.rd (.sli .i64) xs]]) ?_ (ts := [(0, .cells powCells T fr)]) (fun l h => ?_) (by simp) (by simpa using hc) hval hW
  · rw [Tryd.params9] at h
    match ds, h with
    | [_], _ => rfl
  · rw [Tryd.params9]
    exact ⟨opn_one Tryd.underlying48 Tryd.underlying46 (.sli c27 Tryd.underlying27 (.int c2 Tryd.underlying2)) c46 rfl c48, trivial⟩
  · obtain ⟨a, l, rfl, ⟨x0, p0, q0, rfl⟩, h1⟩ := h.cons
    obtain rfl := h1.nil
    exact (fun x p q T fr => law9_ac x (Fits.of p q) T fr) x0 p0 q0 T fr

theorem closed : joinedFacts Tryd.prog 9 Tryd.f9 Rows.fnExactMazeTextSpec Rows.fnExactMazeTextRow = true := by
  unfold joinedFacts
  rw [mayEnter_eq, liftsFinal_eq, make_eq]
  kernel_rfl

theorem over : Rows.fnExactMazeTextRow.holds Tryd.pinned (OpenSpec.ofChange Rows.fnExactMazeTextSpec) :=
  OpenClaim.holds_of_wide 9 Tryd.f9 rfl rfl rfl rfl rfl rfl rfl ⟨rfl, rfl, rfl, rfl, rfl⟩ rfl rfl rfl rfl rfl (by kernel_rfl) Tryd.func9 closed
    (of_decide_eq_true (by kernel_rfl)) (by unfold Func.isWrapper; first | (rw [if_pos (by decide +kernel)]; kernel_rfl) | (rw [if_neg (by decide +kernel)]; exact ⟨rfl, rfl⟩))
    (fun os started H enc _ => lifted os started H enc)

/-- The statement: the row, its listed tables tied to the program's text. -/
theorem proved : Rows.FnExactMazeTextCardSaid :=
  Claim7.holds_tied_plain_at .later [] [.data, .data, .data] true (true, "092c4f92eaef33a8fea5d561f15b0bad225bffa8b823a978b87a32c7ef4b1b67") true
    over (fun _ h => by cases h) (by kernel_rfl) (fun _ h => by cases h) fnExactMazeText_row_tie rfl ⟨rfl, rfl⟩ (by kernel_rfl) rfl
    (fun g fn hg hfn => by
      obtain rfl : g = 9 := Option.some.inj ((show Tryd.prog.funcNamed "loop.example/g01149/laws.FnExactMazeText" = some 9 by kernel_rfl).symm.trans hg) |>.symm
      obtain rfl : fn = Tryd.f9 := (Option.some.inj (Tryd.func9.symm.trans hfn)).symm
      exact ⟨by kernel_rfl, fun j t ht => by
        have hall : ∀ t ∈ Tryd.f9.params.toList, Tryd.prog.wantsStandIn t = false := by decide +kernel
        exact hall t (by
          have h1 : Tryd.f9.params[j]? = some t := ht
          exact Array.mem_toList_iff.2 (Array.mem_of_getElem? h1))⟩)
    (by kernel_rfl)
#print axioms proved
end Go.Proofs.YtlgagjboijkpgaaDoor.fnExactMazeText
