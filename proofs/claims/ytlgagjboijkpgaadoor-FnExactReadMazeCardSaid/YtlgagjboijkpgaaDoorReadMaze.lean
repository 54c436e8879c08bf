/- For every input FnExactReadMaze returns true, and its arguments read as they did, where the listed tables hold what the program's text lays. No other conditions. -/
import Derived.Test.YtlgagjboijkpgaaDoorRows
import Derived.Test.YtlgagjboijkpgaaDoorM18
import Derived.Test.YtlgagjboijkpgaaDoorCards
import Derived.Test.YtlgagjboijkpgaaDoorTie
import Derived.ProofKit
import Derived.OpenShut
import Derived.SevenTiedAt
namespace Go.Proofs.YtlgagjboijkpgaaDoor.fnExactReadMaze
open Go.ChangeShapes Go.WideShapes Go.ChangeAt Go.RowKit Go.Eng



set_option maxRecDepth 100000 in
theorem lifted (os : Os) (started : os.Started) (H : Type) (enc : TypeId × Value → H) :
    ReturnsInHanded {} Tryd.checked os 10 .any (fun w args => (Rows.fnExactReadMazeSpec.pre enc Tryd.prog Tryd.f10 Rows.fnExactReadMazeRow.domain false w args ∧ laidMetH Tryd.prog Rows.fnExactReadMazeRow.laid w) ∧ sizedMet enc Tryd.prog Tryd.f10 (OpenSpec.ofChange Rows.fnExactReadMazeSpec) false w args) (Rows.fnExactReadMazeSpec.post enc Tryd.prog Tryd.f10 false true false false) := by
  refine handed_shaped (C := Tryd.checked) (X := fun w _ => laidMetH Tryd.prog Rows.fnExactReadMazeRow.laid w) (fun _ _ _ hh h => h.of_heap hh) own started (by kernel_rfl) Tryd.func10
    (ChangeSpec.witness_at (enc := enc) (C := Tryd.checked) (os := os) (X := fun w _ => laidMetH Tryd.prog Rows.fnExactReadMazeRow.laid w) false (laidWorldR os) #[.string ByteArray.empty] 8 rfl (by kernel_rfl) (by kernel_rfl) (by kernel_rfl) (by kernel_rfl) (by kernel_rfl) (laidRM_met os _)) ?_
  intro W base args ds gs before hval hW hL0 hsh
  obtain ⟨o4, g4, hm⟩ := tabsM_of_shape hsh
  refine law_contractT (P := Tryd.prog) (f := 10) (fn := Tryd.f10) (tb := 4) rfl rfl Tryd.underlying4 (fun H ds h => ?_) laid (by decide +kernel)
    (As := [fun a => ∃ s : ByteArray, s.size ≤ maxLen ∧ a = .v (.string s)]) ?_ (ts := [(3, o4)]) (fun l h => ?_) (by simp) (by intro t ht; simp only [List.mem_cons, List.mem_nil_iff, or_false] at ht; subst ht; exact g4) hval hW
  · rw [Tryd.params10] at h
    match ds, h with
    | [_], _ => rfl
  · rw [Tryd.params10]
    exact ⟨opn_str Tryd.underlying9, trivial⟩
  · obtain ⟨a, l, rfl, ⟨x0, p0, rfl⟩, h1⟩ := h.cons
    obtain rfl := h1.nil
    exact law10c_ac x0 p0 hm

theorem closed : joinedFacts Tryd.prog 10 Tryd.f10 Rows.fnExactReadMazeSpec Rows.fnExactReadMazeRow = true := by
  unfold joinedFacts
  rw [mayEnter_eq, liftsFinal_eq, make_eq]
  kernel_rfl

theorem over : Rows.fnExactReadMazeRow.holds Tryd.pinned (OpenSpec.ofChange Rows.fnExactReadMazeSpec) :=
  OpenClaim.holds_of_wide 10 Tryd.f10 rfl rfl rfl rfl rfl rfl rfl ⟨rfl, rfl, rfl, rfl, rfl⟩ rfl rfl rfl rfl rfl (by kernel_rfl) Tryd.func10 closed
    (of_decide_eq_true (by kernel_rfl)) (by unfold Func.isWrapper; first | (rw [if_pos (by decide +kernel)]; kernel_rfl) | (rw [if_neg (by decide +kernel)]; exact ⟨rfl, rfl⟩))
    (fun os started H enc _ => lifted os started H enc)

/-- The statement: the row, its listed tables tied to the program's text. -/
theorem proved : Rows.FnExactReadMazeCardSaid :=
  Claim7.holds_tied_plain_at .later [] [.data, .pinned] true (true, "092c4f92eaef33a8fea5d561f15b0bad225bffa8b823a978b87a32c7ef4b1b67") true
    over (fun _ h => by cases h) (by kernel_rfl) (fun _ h => by cases h) fnExactReadMaze_row_tie rfl ⟨rfl, rfl⟩ (by kernel_rfl) rfl
    (fun g fn hg hfn => by
      obtain rfl : g = 10 := Option.some.inj ((show Tryd.prog.funcNamed "loop.example/g01149/laws.FnExactReadMaze" = some 10 by kernel_rfl).symm.trans hg) |>.symm
      obtain rfl : fn = Tryd.f10 := (Option.some.inj (Tryd.func10.symm.trans hfn)).symm
      exact ⟨by kernel_rfl, fun j t ht => by
        have hall : ∀ t ∈ Tryd.f10.params.toList, Tryd.prog.wantsStandIn t = false := by decide +kernel
        exact hall t (by
          have h1 : Tryd.f10.params[j]? = some t := ht
          exact Array.mem_toList_iff.2 (Array.mem_of_getElem? h1))⟩)
    (by kernel_rfl)
#print axioms proved
end Go.Proofs.YtlgagjboijkpgaaDoor.fnExactReadMaze
