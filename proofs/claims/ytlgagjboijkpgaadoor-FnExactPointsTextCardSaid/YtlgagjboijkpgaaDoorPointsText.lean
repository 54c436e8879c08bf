/- For every input FnExactPointsText returns true, and its arguments read as they did, where the listed tables hold what the program's text lays. No other conditions. -/
import Derived.Test.YtlgagjboijkpgaaDoorRows
import Derived.Test.YtlgagjboijkpgaaDoorCards
import Derived.Test.YtlgagjboijkpgaaDoorTie
import Derived.Test.YtlgagjboijkpgaaDoorW5
import Derived.Test.YtlgagjboijkpgaaDoorHead
import Derived.Test.YtlgagjboijkpgaaDoorL0
import Derived.ProofKit
import Derived.OpenShut
import Derived.SevenTiedAt
namespace Go.Proofs.YtlgagjboijkpgaaDoor.fnExactPointsText
open Go.ChangeShapes Go.WideShapes Go.ChangeAt Go.RowKit Go.Eng

theorem c2 : Tryd.prog.cellsOf 2 = 1 := by kernel_rfl
theorem c82 : Tryd.prog.cellsOf 82 = 2 := by kernel_rfl

set_option maxRecDepth 100000 in
theorem lifted (os : Os) (started : os.Started) (H : Type) (enc : TypeId × Value → H) :
    ReturnsInHanded {} Tryd.checked os 6 .any (fun w args => (Rows.fnExactPointsTextSpec.pre enc Tryd.prog Tryd.f6 Rows.fnExactPointsTextRow.domain false w args ∧ laidMetH Tryd.prog Rows.fnExactPointsTextRow.laid w) ∧ sizedMet enc Tryd.prog Tryd.f6 (OpenSpec.ofChange Rows.fnExactPointsTextSpec) false w args) (Rows.fnExactPointsTextSpec.post enc Tryd.prog Tryd.f6 false true false false) := by
  refine returnsInHanded_of_change_and (C := Tryd.checked) (X := fun w _ => laidMetH Tryd.prog Rows.fnExactPointsTextRow.laid w) (fun _ _ _ hh h => h.of_heap hh) own started (by kernel_rfl) Tryd.func6
    (ChangeSpec.witness_at (enc := enc) (C := Tryd.checked) (os := os) (X := fun w _ => laidMetH Tryd.prog Rows.fnExactPointsTextRow.laid w) false (laidWorld os) #[.slice none 0 0] 8 rfl (by kernel_rfl) (by kernel_rfl) (by kernel_rfl) (by kernel_rfl) (by kernel_rfl) (laidWorld_met os _)) ?_
  intro W base args ds gs before hval hW _ _ hL0 _
  obtain ⟨T, fr, hc⟩ := pow_of_laid hL0
  refine law_contractT (P := Tryd.prog) (f := 6) (fn := Tryd.f6) (tb := 4) rfl rfl Tryd.underlying4 (fun H ds h => ?_) laid (by decide +kernel)
    (As := [fun a => ∃ xs : List (ETy.pt).T, xs.length ≤ maxLen ∧ (∀ y ∈ xs, (ETy.pt).wf y) ∧ a = .rd (.pt) xs]) ?_ (ts := [(0, .cells powCells T fr)]) (fun l h => ?_) (by simp) (by simpa using hc) hval hW
  · rw [Tryd.params6] at h
    match ds, h with
    | [_], _ => rfl
  · rw [Tryd.params6]
    exact ⟨opn_sl Tryd.underlying33 (.pt Tryd.underlying82 Tryd.underlying2 Tryd.underlying2 c2 c2 rfl rfl c82), trivial⟩
  · obtain ⟨a, l, rfl, ⟨x0, p0, q0, rfl⟩, h1⟩ := h.cons
    obtain rfl := h1.nil
    exact (fun x p _ T fr => law6_ac x p T fr) x0 p0 q0 T fr

theorem closed : joinedFacts Tryd.prog 6 Tryd.f6 Rows.fnExactPointsTextSpec Rows.fnExactPointsTextRow = true := by
  unfold joinedFacts
  rw [mayEnter_eq, liftsFinal_eq, make_eq]
  kernel_rfl

theorem over : Rows.fnExactPointsTextRow.holds Tryd.pinned (OpenSpec.ofChange Rows.fnExactPointsTextSpec) :=
  OpenClaim.holds_of_wide 6 Tryd.f6 rfl rfl rfl rfl rfl rfl rfl ⟨rfl, rfl, rfl, rfl, rfl⟩ rfl rfl rfl rfl rfl (by kernel_rfl) Tryd.func6 closed
    (of_decide_eq_true (by kernel_rfl)) (by unfold Func.isWrapper; first | (rw [if_pos (by decide +kernel)]; kernel_rfl) | (rw [if_neg (by decide +kernel)]; exact ⟨rfl, rfl⟩))
    (fun os started H enc _ => lifted os started H enc)

/-- The statement: the row, its listed tables tied to the program's text. -/
theorem proved : Rows.FnExactPointsTextCardSaid :=
  Claim7.holds_tied_plain_at .later [] [.data, .data, .data] true (true, "092c4f92eaef33a8fea5d561f15b0bad225bffa8b823a978b87a32c7ef4b1b67") true
    over (fun _ h => by cases h) (by kernel_rfl) (fun _ h => by cases h) fnExactPointsText_row_tie rfl ⟨rfl, rfl⟩ (by kernel_rfl) rfl
    (fun g fn hg hfn => by
      obtain rfl : g = 6 := Option.some.inj ((show Tryd.prog.funcNamed "loop.example/g01149/laws.FnExactPointsText" = some 6 by kernel_rfl).symm.trans hg) |>.symm
      obtain rfl : fn = Tryd.f6 := (Option.some.inj (Tryd.func6.symm.trans hfn)).symm
      exact ⟨by kernel_rfl, fun j t ht => by
        have hall : ∀ t ∈ Tryd.f6.params.toList, Tryd.prog.wantsStandIn t = false := by decide +kernel
        exact hall t (by
          have h1 : Tryd.f6.params[j]? = some t := ht
          exact Array.mem_toList_iff.2 (Array.mem_of_getElem? h1))⟩)
    (by kernel_rfl)
#print axioms proved
end Go.Proofs.YtlgagjboijkpgaaDoor.fnExactPointsText
