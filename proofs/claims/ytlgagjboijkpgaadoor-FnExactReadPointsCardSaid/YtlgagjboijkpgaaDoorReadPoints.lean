/- For every input FnExactReadPoints returns true, and its arguments read as they did, where the listed tables hold what the program's text lays. No other conditions. -/
import Derived.Test.YtlgagjboijkpgaaDoorRows
import Derived.Test.YtlgagjboijkpgaaDoorCards
import Derived.Test.YtlgagjboijkpgaaDoorTie
import Derived.Test.YtlgagjboijkpgaaDoorRW9
import Derived.Test.YtlgagjboijkpgaaDoorHead
import Derived.Test.YtlgagjboijkpgaaDoorR0
import Derived.ProofKit
import Derived.OpenShut
import Derived.SevenTiedAt
namespace Go.Proofs.YtlgagjboijkpgaaDoor.fnExactReadPoints
open Go.ChangeShapes Go.WideShapes Go.ChangeAt Go.RowKit Go.Eng



set_option maxRecDepth 100000 in
theorem lifted (os : Os) (started : os.Started) (H : Type) (enc : TypeId × Value → H) :
    ReturnsInHanded {} Tryd.checked os 8 .any (fun w args => (Rows.fnExactReadPointsSpec.pre enc Tryd.prog Tryd.f8 Rows.fnExactReadPointsRow.domain false w args ∧ laidMetH Tryd.prog Rows.fnExactReadPointsRow.laid w) ∧ sizedMet enc Tryd.prog Tryd.f8 (OpenSpec.ofChange Rows.fnExactReadPointsSpec) false w args) (Rows.fnExactReadPointsSpec.post enc Tryd.prog Tryd.f8 false true false false) := by
  refine handed_shaped (C := Tryd.checked) (X := fun w _ => laidMetH Tryd.prog Rows.fnExactReadPointsRow.laid w) (fun _ _ _ hh h => h.of_heap hh) own started (by kernel_rfl) Tryd.func8
    (ChangeSpec.witness_at (enc := enc) (C := Tryd.checked) (os := os) (X := fun w _ => laidMetH Tryd.prog Rows.fnExactReadPointsRow.laid w) false (laidWorldR os) #[.string ByteArray.empty] 8 rfl (by kernel_rfl) (by kernel_rfl) (by kernel_rfl) (by kernel_rfl) (by kernel_rfl) (laidRL_met os _)) ?_
  intro W base args ds gs before hval hW hL0 hsh
  obtain ⟨o1, o2, o3, o4, g1, g2, g3, g4, hv, hm⟩ := tabsL_of_laid hL0 hsh
  refine law_contractT (P := Tryd.prog) (f := 8) (fn := Tryd.f8) (tb := 4) rfl rfl Tryd.underlying4 (fun H ds h => ?_) laid (by decide +kernel)
    (As := [fun a => ∃ s : ByteArray, s.size ≤ maxLen ∧ a = .v (.string s)]) ?_ (ts := [(0, o1), (1, o2), (2, o3), (3, o4)]) (fun l h => ?_) (by simp) (by intro t ht; simp only [List.mem_cons, List.mem_nil_iff, or_false] at ht; rcases ht with rfl | rfl | rfl | rfl <;> first | exact g1 | exact g2 | exact g3 | exact g4) hval hW
  · rw [Tryd.params8] at h
    match ds, h with
    | [_], _ => rfl
  · rw [Tryd.params8]
    exact ⟨opn_str Tryd.underlying9, trivial⟩
  · obtain ⟨a, l, rfl, ⟨x0, p0, rfl⟩, h1⟩ := h.cons
    obtain rfl := h1.nil
    exact (fun x p hv hm => law8_ac x hv hm p) x0 p0 hv hm

theorem closed : joinedFacts Tryd.prog 8 Tryd.f8 Rows.fnExactReadPointsSpec Rows.fnExactReadPointsRow = true := by
  unfold joinedFacts
  rw [mayEnter_eq, liftsFinal_eq, make_eq]
  kernel_rfl

theorem over : Rows.fnExactReadPointsRow.holds Tryd.pinned (OpenSpec.ofChange Rows.fnExactReadPointsSpec) :=
  OpenClaim.holds_of_wide 8 Tryd.f8 rfl rfl rfl rfl rfl rfl rfl ⟨rfl, rfl, rfl, rfl, rfl⟩ rfl rfl rfl rfl rfl (by kernel_rfl) Tryd.func8 closed
    (of_decide_eq_true (by kernel_rfl)) (by unfold Func.isWrapper; first | (rw [if_pos (by decide +kernel)]; kernel_rfl) | (rw [if_neg (by decide +kernel)]; exact ⟨rfl, rfl⟩))
    (fun os started H enc _ => lifted os started H enc)

/-- The statement: the row, its listed tables tied to the program's text. -/
theorem proved : Rows.FnExactReadPointsCardSaid :=
  Claim7.holds_tied_plain_at .later [] [.data, .data, .data, .data, .sentinel, .sentinel, .pinned] true (true, "092c4f92eaef33a8fea5d561f15b0bad225bffa8b823a978b87a32c7ef4b1b67") true
    over (fun _ h => by cases h) (by kernel_rfl) (fun _ h => by cases h) fnExactReadPoints_row_tie rfl ⟨rfl, rfl⟩ (by kernel_rfl) rfl
    (fun g fn hg hfn => by
      obtain rfl : g = 8 := Option.some.inj ((show Tryd.prog.funcNamed "loop.example/g01149/laws.FnExactReadPoints" = some 8 by kernel_rfl).symm.trans hg) |>.symm
      obtain rfl : fn = Tryd.f8 := (Option.some.inj (Tryd.func8.symm.trans hfn)).symm
      exact ⟨by kernel_rfl, fun j t ht => by
        have hall : ∀ t ∈ Tryd.f8.params.toList, Tryd.prog.wantsStandIn t = false := by decide +kernel
        exact hall t (by
          have h1 : Tryd.f8.params[j]? = some t := ht
          exact Array.mem_toList_iff.2 (Array.mem_of_getElem? h1))⟩)
    (by kernel_rfl)
#print axioms proved
end Go.Proofs.YtlgagjboijkpgaaDoor.fnExactReadPoints
