/- For every input FnWalls returns true, and its arguments read as they did, where the listed tables hold what the program's text lays. No other conditions. -/
import Derived.Test.YtmkcahfhnehanaaDoorRows
import Derived.Test.YtmkcahfhnehanaaDoorWl19
import Derived.Test.YtmkcahfhnehanaaDoorCards
import Derived.Test.YtmkcahfhnehanaaDoorTie
import Derived.ProofKit
import Derived.OpenShut
import Derived.SevenTiedAt
namespace Go.Proofs.YtmkcahfhnehanaaDoor.fnWalls
open Go.ChangeShapes Go.WideShapes Go.ChangeAt Go.RowKit Go.Eng

theorem c5 : Tryd.prog.cellsOf 5 = 1 := by kernel_rfl

set_option maxRecDepth 100000 in
theorem lifted (os : Os) (started : os.Started) (H : Type) (enc : TypeId × Value → H) :
    ReturnsInHanded {} Tryd.checked os 4 .any (fun w args => (Rows.fnWallsSpec.pre enc Tryd.prog Tryd.f4 Rows.fnWallsRow.domain false w args ∧ laidMetH Tryd.prog Rows.fnWallsRow.laid w) ∧ sizedMet enc Tryd.prog Tryd.f4 (OpenSpec.ofChange Rows.fnWallsSpec) false w args) (Rows.fnWallsSpec.post enc Tryd.prog Tryd.f4 false true false false) := by
  refine handed_shaped (C := Tryd.checked) (X := fun w _ => laidMetH Tryd.prog Rows.fnWallsRow.laid w) (fun _ _ _ hh h => h.of_heap hh) own started (by kernel_rfl) Tryd.func4
    (ChangeSpec.witness_at (enc := enc) (C := Tryd.checked) (os := os) (X := fun w _ => laidMetH Tryd.prog Rows.fnWallsRow.laid w) false (laidWorldR os) #[.slice none 0 0, .slice none 0 0] 8 rfl (by kernel_rfl) (by kernel_rfl) (by kernel_rfl) (by kernel_rfl) (by kernel_rfl) (laidWl_met os _)) ?_
  intro W base args ds gs before hval hW hL0 hsh
  obtain ⟨T, fr, o4, g1, g4, hm⟩ := tabsWl_of_laid hL0 hsh
  refine law_contractT (P := Tryd.prog) (f := 4) (fn := Tryd.f4) (tb := 4) rfl rfl Tryd.underlying4 (fun H ds h => ?_) laid (by decide +kernel)
    (As := [fun a => ∃ xs : List (ETy.int .u8).T, xs.length ≤ maxLen ∧ (∀ y ∈ xs, (ETy.int .u8).wf y) ∧ a = .rd (.int .u8) xs, fun a => ∃ xs : List (ETy.int .u8).T, xs.length ≤ maxLen ∧ (∀ y ∈ xs, (ETy.int .u8).wf y) ∧ a = .rd (.int .u8) xs]) ?_ (ts := [(1, .cells powCells T fr), (0, o4)]) (fun l h => ?_) (by simp) (by intro t ht; simp only [List.mem_cons, List.mem_nil_iff, or_false] at ht; rcases ht with rfl | rfl <;> first | exact g1 | exact g4) hval hW
  · rw [Tryd.params4] at h
    match ds, h with
    | [_, _], _ => rfl
  · rw [Tryd.params4]
    exact ⟨opn_sl Tryd.underlying22 (.int c5 Tryd.underlying5), opn_sl Tryd.underlying22 (.int c5 Tryd.underlying5), trivial⟩
  · obtain ⟨a, l, rfl, ⟨x0, p0, q0, rfl⟩, h1⟩ := h.cons
    obtain ⟨a, l, rfl, ⟨x1, p1, q1, rfl⟩, h2⟩ := h1.cons
    obtain rfl := h2.nil
    exact (fun x y p q p2 q2 T fr hm => law4c_ac x y p p2 (U8.of q) (U8.of q2) T fr hm) x0 x1 p0 q0 p1 q1 T fr hm

theorem closed : joinedFacts Tryd.prog 4 Tryd.f4 Rows.fnWallsSpec Rows.fnWallsRow = true := by
  unfold joinedFacts
  rw [mayEnter_eq, liftsFinal_eq, make_eq]
  kernel_rfl

theorem over : Rows.fnWallsRow.holds Tryd.pinned (OpenSpec.ofChange Rows.fnWallsSpec) :=
  OpenClaim.holds_of_wide 4 Tryd.f4 rfl rfl rfl rfl rfl rfl rfl ⟨rfl, rfl, rfl, rfl, rfl⟩ rfl rfl rfl rfl rfl (by kernel_rfl) Tryd.func4 closed
    (of_decide_eq_true (by kernel_rfl)) (by unfold Func.isWrapper; first | (rw [if_pos (by decide +kernel)]; kernel_rfl) | (rw [if_neg (by decide +kernel)]; exact ⟨rfl, rfl⟩))
    (fun os started H enc _ => lifted os started H enc)

/-- The statement: the row, its listed tables tied to the program's text. -/
theorem proved : Rows.FnWallsCardSaid :=
  Claim7.holds_tied_plain_at .later [] [.data, .data, .data, .data, .pinned] true (true, "83f27280b4b7ba5dc6fea98d3462822c005ac410bf7388c9afa8f8d07de7fe7d") true
    over (fun _ h => by cases h) (by kernel_rfl) (fun _ h => by cases h) fnWalls_row_tie rfl ⟨rfl, rfl⟩ (by kernel_rfl) rfl
    (fun g fn hg hfn => by
      obtain rfl : g = 4 := Option.some.inj ((show Tryd.prog.funcNamed "loop.example/g01149/laws.FnWalls" = some 4 by kernel_rfl).symm.trans hg) |>.symm
      obtain rfl : fn = Tryd.f4 := (Option.some.inj (Tryd.func4.symm.trans hfn)).symm
      exact ⟨by kernel_rfl, fun j t ht => by
        have hall : ∀ t ∈ Tryd.f4.params.toList, Tryd.prog.wantsStandIn t = false := by decide +kernel
        exact hall t (by
          have h1 : Tryd.f4.params[j]? = some t := ht
          exact Array.mem_toList_iff.2 (Array.mem_of_getElem? h1))⟩)
    (by kernel_rfl)
#print axioms proved
end Go.Proofs.YtmkcahfhnehanaaDoor.fnWalls
